/- Lemmas for the proof. -/
import Derived.Test.YtlalcoehgkmhlaaGreatDoorCourtMovedM1
import Derived.Test.YtlalcoehgkmhlaaGreatDoorCourtMovedM2
import Derived.Test.YtlalcoehgkmhlaaGreatDoorCourtMovedM3
import Derived.Test.YtlalcoehgkmhlaaGreatDoorCourtMovedM4
import Derived.Test.YtlalcoehgkmhlaaGreatDoorCourtMovedM5
namespace Go.Proofs.YtlalcoehgkmhlaaGreatDoor
open Go.RowKit
def exO:List AV:=[.fn 165 [] [.pe (.ag [.v (.int .u8 1),.st [],.v (.bool false),.sl 1 [.st [100,117,107,101],.st [99,111,117,110,116]],.v (.int .i64 0)]) 0,.pe (.fn 205 [] [.pe (.fn 178 [] [.pe (.ag [.v (.int .u8 1),.st [],.v (.bool false),.sl 1 [.st [100,117,107,101],.st [99,111,117,110,116]],.v (.int .i64 0)]) 0]) 0]) 0],.fn 165 [] [.pe (.ag [.v (.int .u8 2),.st [100,117,107,101],.v (.bool false),.e0,.v (.int .i64 0)]) 0,.pe (.fn 179 [] [.pe (.ag [.v (.int .u8 2),.st [100,117,107,101],.v (.bool false),.e0,.v (.int .i64 0)]) 0]) 0],.fn 165 [] [.pe (.ag [.v (.int .u8 4),.st [],.v (.bool false),.e0,.v (.int .i64 1)]) 0,.pe (.fn 205 [] [.pe (.fn 206 [] [.pe (.fn 182 [] [.pe (.ag [.v (.int .u8 4),.st [],.v (.bool false),.e0,.v (.int .i64 1)]) 0]) 0,.pe (.ag [.v (.int .u8 4),.st [],.v (.bool false),.e0,.v (.int .i64 1)]) 0]) 0]) 0],.fn 165 [] [.pe (.ag [.v (.int .u8 8),.st [],.v (.bool false),.e0,.v (.int .i64 0)]) 0,.pe (.fn 187 [] []) 0]]
def WH:List (List AV×AV):=[([.sl 5 exC],.tp [i4 0,i4 0]),([.sl 5 (exC.take 2)],.tp [i4 0,i4 0]),([.sl 5 (exC.drop 1)],.tp [i4 0,i4 31])]
noncomputable def E3:Env:=E1.withX 80 (Oa WH)
theorem VA:Bn E1 2000 80 [.sl 5 exC]=some (.tp [i4 0,i4 0]):=by kernel_rfl
theorem VB:Bn E1 2000 80 [.sl 5 (exC.take 2)]=some (.tp [i4 0,i4 0]):=by kernel_rfl
theorem VC:Bn E1 2000 80 [.sl 5 (exC.drop 1)]=some (.tp [i4 0,i4 31]):=by kernel_rfl
theorem X3:EnvOk E3:=Kb We ⟨Tryz.call80⟩ ⟨⟨2000,VA⟩,⟨2000,VB⟩,⟨2000,VC⟩,trivial⟩
def UX:List (List AV×AV):=[([.sl 5 exC],.tp [.sl 1 exO,.v (.bool true)]),([.sl 5 (exC.take 2)],.tp [.sl 1 (exO.take 2),.v (.bool true)])]
noncomputable def E4:Env:=E3.withX 75 (Oa UX)
theorem UN:Bn E3 2000 75 [.sl 5 exC]=some (.tp [.sl 1 exO,.v (.bool true)]):=by kernel_rfl
theorem UO:Bn E3 2000 75 [.sl 5 (exC.take 2)]=some (.tp [.sl 1 (exO.take 2),.v (.bool true)]):=by kernel_rfl
theorem X4:EnvOk E4:=Kb X3 ⟨Tryz.call75⟩ ⟨⟨2000,UN⟩,⟨2000,UO⟩,trivial⟩
def Xb:List (List AV×AV):=[([.sl 5 exC,.sl 9 exG],.tp [.sl 1 [i4 2,i4 1,i4 4,i4 0,i4 3],i4 0]),([.sl 5 (exC.take 2),.sl 9 exG],.tp [.e0,i4 32])]
noncomputable def E5:Env:=E4.withX 26 (Oa Xb)
theorem Tm:Bn E4 2000 26 [.sl 5 exC,.sl 9 exG]=some (.tp [.sl 1 [i4 2,i4 1,i4 4,i4 0,i4 3],i4 0]):=by kernel_rfl
theorem Tn:Bn E4 2000 26 [.sl 5 (exC.take 2),.sl 9 exG]=some (.tp [.e0,i4 32]):=by kernel_rfl
theorem X5:EnvOk E5:=Kb X4 ⟨Tryz.call26⟩ ⟨⟨2000,Tm⟩,⟨2000,Tn⟩,trivial⟩
def UY:List (List AV×AV):=[([.sl 5 exC,exG.headD .e0,(exG.drop 4).headD .e0,i4 0,i4 4],.tp [i4 2,i4 1])]
noncomputable def E6:Env:=E5.withX 21 (Oa UY)
theorem Rt:Bn E5 2000 21 [.sl 5 exC,exG.headD .e0,(exG.drop 4).headD .e0,i4 0,i4 4]=some (.tp [i4 2,i4 1]):=by kernel_rfl
theorem X6:EnvOk E6:=Kb X5 ⟨Tryz.call21⟩ ⟨⟨2000,Rt⟩,trivial⟩
def SK:List (List AV×AV):=[([.sl 5 exC,.sl 9 exG],.sl 1 [i4 0,i4 1,i4 2])]
noncomputable def E7:Env:=E6.withX 68 (Oa SK)
theorem Pe:Bn E6 2000 68 [.sl 5 exC,.sl 9 exG]=some (.sl 1 [i4 0,i4 1,i4 2]):=by kernel_rfl
theorem X7:EnvOk E7:=Kb X6 ⟨Tryz.call68⟩ ⟨⟨2000,Pe⟩,trivial⟩
def WI:List (List AV×AV):=[([.sl 5 (exC.take 2),.sl 9 exG],.sl 1 [i4 2,i4 1,i4 0,i4 3,i4 2])]
noncomputable def E8:Env:=E7.withX 25 (Oa WI)
theorem SX:Bn E7 2000 25 [.sl 5 (exC.take 2),.sl 9 exG]=some (.sl 1 [i4 2,i4 1,i4 0,i4 3,i4 2]):=by kernel_rfl
theorem X8:EnvOk E8:=Kb X7 ⟨Tryz.call25⟩ ⟨⟨2000,SX⟩,trivial⟩
def UW:List (List AV×AV):=[([.sl 5 (exC.drop 1)],.st [])]
noncomputable def E9:Env:=E8.withX 73 (Oa UW)
theorem Rs:Bn E8 2000 73 [.sl 5 (exC.drop 1)]=some (.st []):=by kernel_rfl
theorem X9:EnvOk E9:=Kb X8 ⟨Tryz.call73⟩ ⟨⟨2000,Rs⟩,trivial⟩
def Xc:List (List AV×AV):=[([.sl 5 exC,.sl 5 exC],.v (.bool true))]
noncomputable def E10:Env:=E9.withX 69 (Oa Xc)
theorem To:Bn E9 2000 69 [.sl 5 exC,.sl 5 exC]=some (.v (.bool true)):=by kernel_rfl
theorem Wa:EnvOk E10:=Kb X9 ⟨Tryz.call69⟩ ⟨⟨2000,To⟩,trivial⟩
def QD:List (List AV×AV):=[([.sl 1 [i4 2,i4 1,i4 0,i4 3,i4 2],.sl 1 [i4 0,i4 1,i4 2,i4 3,i4 4]],i4 4)]
noncomputable def E11:Env:=E10.withX 28 (Oa QD)
theorem Ns:Bn E10 2000 28 [.sl 1 [i4 2,i4 1,i4 0,i4 3,i4 2],.sl 1 [i4 0,i4 1,i4 2,i4 3,i4 4]]=some (i4 4):=by kernel_rfl
theorem Wb:EnvOk E11:=Kb Wa ⟨Tryz.call28⟩ ⟨⟨2000,Ns⟩,trivial⟩
def TX:List (List AV×AV):=[([],.tp [.sl 5 exC,.sl 9 exG])]
noncomputable def E12:Env:=E11.withX 71 (Oa TX)
theorem QQ:Bn E11 2000 71 []=some (.tp [.sl 5 exC,.sl 9 exG]):=by kernel_rfl
theorem Wc:EnvOk E12:=Kb Wb ⟨Tryz.call71⟩ ⟨⟨2000,QQ⟩,trivial⟩
def TY:List (List AV×AV):=[([.st exT],.tp [.sl 5 exC,i4 0,i4 0])]
theorem SY:dfX E1 3000 Tryz.f72 124 2 [.st exT]=some (.tp [.sl 5 exC,i4 0,i4 0]):=by kernel_rfl
theorem Tf:EnvOk (E1.withX 72 (Oa TY)):=WG X2 fun p hp=>by
 rw [List.mem_singleton.1 hp]; exact SY
noncomputable def E13:Env:=E12.withX 72 (Oa TY)
theorem Wd:EnvOk E13:=Ud Wc Tf rfl rfl
end Go.Proofs.YtlalcoehgkmhlaaGreatDoor
