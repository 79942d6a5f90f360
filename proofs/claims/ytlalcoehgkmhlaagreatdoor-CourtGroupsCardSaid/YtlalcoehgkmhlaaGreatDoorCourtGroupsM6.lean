/- Lemmas for the proof. -/
import Derived.Test.YtlalcoehgkmhlaaGreatDoorCourtGroupsM1
import Derived.Test.YtlalcoehgkmhlaaGreatDoorCourtGroupsM2
import Derived.Test.YtlalcoehgkmhlaaGreatDoorCourtGroupsM3
import Derived.Test.YtlalcoehgkmhlaaGreatDoorCourtGroupsM4
import Derived.Test.YtlalcoehgkmhlaaGreatDoorCourtGroupsM5
namespace Go.Proofs.YtlalcoehgkmhlaaGreatDoor
open Go.RowKit
def exO:List AV:=[.fn 165 [] [.pe (.ag [.v (.int .u8 1),.st [],.v (.bool false),.sl 1 [.st [100,117,107,101],.st [99,111,117,110,116]],.v (.int .i64 0)]) 0,.pe (.fn 205 [] [.pe (.fn 178 [] [.pe (.ag [.v (.int .u8 1),.st [],.v (.bool false),.sl 1 [.st [100,117,107,101],.st [99,111,117,110,116]],.v (.int .i64 0)]) 0]) 0]) 0],.fn 165 [] [.pe (.ag [.v (.int .u8 2),.st [100,117,107,101],.v (.bool false),.e0,.v (.int .i64 0)]) 0,.pe (.fn 179 [] [.pe (.ag [.v (.int .u8 2),.st [100,117,107,101],.v (.bool false),.e0,.v (.int .i64 0)]) 0]) 0],.fn 165 [] [.pe (.ag [.v (.int .u8 4),.st [],.v (.bool false),.e0,.v (.int .i64 1)]) 0,.pe (.fn 205 [] [.pe (.fn 206 [] [.pe (.fn 182 [] [.pe (.ag [.v (.int .u8 4),.st [],.v (.bool false),.e0,.v (.int .i64 1)]) 0]) 0,.pe (.ag [.v (.int .u8 4),.st [],.v (.bool false),.e0,.v (.int .i64 1)]) 0]) 0]) 0],.fn 165 [] [.pe (.ag [.v (.int .u8 8),.st [],.v (.bool false),.e0,.v (.int .i64 0)]) 0,.pe (.fn 187 [] []) 0]]
def Wz:List (List AV×AV):=[([.sl 5 exC],.tp [i4 0,i4 0]),([.sl 5 (exC.take 2)],.tp [i4 0,i4 0]),([.sl 5 (exC.drop 1)],.tp [i4 0,i4 31])]
noncomputable def E3:Env:=E1.withX 80 (O5 Wz)
theorem Vr:Bf E1 2000 80 [.sl 5 exC]=some (.tp [i4 0,i4 0]):=by kernel_rfl
theorem Vs:Bf E1 2000 80 [.sl 5 (exC.take 2)]=some (.tp [i4 0,i4 0]):=by kernel_rfl
theorem Vt:Bf E1 2000 80 [.sl 5 (exC.drop 1)]=some (.tp [i4 0,i4 31]):=by kernel_rfl
theorem Yl:EnvOk E3:=Ku XK ⟨Tryz.call80⟩ ⟨⟨2000,Vr⟩,⟨2000,Vs⟩,⟨2000,Vt⟩,trivial⟩
def U8:List (List AV×AV):=[([.sl 5 exC],.tp [.sl 1 exO,.v (.bool true)]),([.sl 5 (exC.take 2)],.tp [.sl 1 (exO.take 2),.v (.bool true)])]
noncomputable def E4:Env:=E3.withX 75 (O5 U8)
theorem Uv:Bf E3 2000 75 [.sl 5 exC]=some (.tp [.sl 1 exO,.v (.bool true)]):=by kernel_rfl
theorem Uw:Bf E3 2000 75 [.sl 5 (exC.take 2)]=some (.tp [.sl 1 (exO.take 2),.v (.bool true)]):=by kernel_rfl
theorem Ym:EnvOk E4:=Ku Yl ⟨Tryz.call75⟩ ⟨⟨2000,Uv⟩,⟨2000,Uw⟩,trivial⟩
def YK:List (List AV×AV):=[([.sl 5 exC,.sl 9 exG],.tp [.sl 1 [i4 2,i4 1,i4 4,i4 0,i4 3],i4 0]),([.sl 5 (exC.take 2),.sl 9 exG],.tp [.e0,i4 32])]
noncomputable def E5:Env:=E4.withX 26 (O5 YK)
theorem UH:Bf E4 2000 26 [.sl 5 exC,.sl 9 exG]=some (.tp [.sl 1 [i4 2,i4 1,i4 4,i4 0,i4 3],i4 0]):=by kernel_rfl
theorem UI:Bf E4 2000 26 [.sl 5 (exC.take 2),.sl 9 exG]=some (.tp [.e0,i4 32]):=by kernel_rfl
theorem Yn:EnvOk E5:=Ku Ym ⟨Tryz.call26⟩ ⟨⟨2000,UH⟩,⟨2000,UI⟩,trivial⟩
def U9:List (List AV×AV):=[([.sl 5 exC,exG.headD .e0,(exG.drop 4).headD .e0,i4 0,i4 4],.tp [i4 2,i4 1])]
noncomputable def E6:Env:=E5.withX 21 (O5 U9)
theorem SU:Bf E5 2000 21 [.sl 5 exC,exG.headD .e0,(exG.drop 4).headD .e0,i4 0,i4 4]=some (.tp [i4 2,i4 1]):=by kernel_rfl
theorem Yo:EnvOk E6:=Ku Yn ⟨Tryz.call21⟩ ⟨⟨2000,SU⟩,trivial⟩
def Su:List (List AV×AV):=[([.sl 5 exC,.sl 9 exG],.sl 1 [i4 0,i4 1,i4 2])]
noncomputable def E7:Env:=E6.withX 68 (O5 Su)
theorem P0:Bf E6 2000 68 [.sl 5 exC,.sl 9 exG]=some (.sl 1 [i4 0,i4 1,i4 2]):=by kernel_rfl
theorem Yp:EnvOk E7:=Ku Yo ⟨Tryz.call68⟩ ⟨⟨2000,P0⟩,trivial⟩
def W0:List (List AV×AV):=[([.sl 5 (exC.take 2),.sl 9 exG],.sl 1 [i4 2,i4 1,i4 0,i4 3,i4 2])]
noncomputable def E8:Env:=E7.withX 25 (O5 W0)
theorem S4:Bf E7 2000 25 [.sl 5 (exC.take 2),.sl 9 exG]=some (.sl 1 [i4 2,i4 1,i4 0,i4 3,i4 2]):=by kernel_rfl
theorem Yq:EnvOk E8:=Ku Yp ⟨Tryz.call25⟩ ⟨⟨2000,S4⟩,trivial⟩
def U7:List (List AV×AV):=[([.sl 5 (exC.drop 1)],.st [])]
noncomputable def E9:Env:=E8.withX 73 (O5 U7)
theorem ST:Bf E8 2000 73 [.sl 5 (exC.drop 1)]=some (.st []):=by kernel_rfl
theorem Yr:EnvOk E9:=Ku Yq ⟨Tryz.call73⟩ ⟨⟨2000,ST⟩,trivial⟩
def YL:List (List AV×AV):=[([.sl 5 exC,.sl 5 exC],.v (.bool true))]
noncomputable def E10:Env:=E9.withX 69 (O5 YL)
theorem UJ:Bf E9 2000 69 [.sl 5 exC,.sl 5 exC]=some (.v (.bool true)):=by kernel_rfl
theorem XG:EnvOk E10:=Ku Yr ⟨Tryz.call69⟩ ⟨⟨2000,UJ⟩,trivial⟩
def Qd:List (List AV×AV):=[([.sl 1 [i4 2,i4 1,i4 0,i4 3,i4 2],.sl 1 [i4 0,i4 1,i4 2,i4 3,i4 4]],i4 4)]
noncomputable def E11:Env:=E10.withX 28 (O5 Qd)
theorem ON:Bf E10 2000 28 [.sl 1 [i4 2,i4 1,i4 0,i4 3,i4 2],.sl 1 [i4 0,i4 1,i4 2,i4 3,i4 4]]=some (i4 4):=by kernel_rfl
theorem XH:EnvOk E11:=Ku XG ⟨Tryz.call28⟩ ⟨⟨2000,ON⟩,trivial⟩
def Tx:List (List AV×AV):=[([],.tp [.sl 5 exC,.sl 9 exG])]
noncomputable def E12:Env:=E11.withX 71 (O5 Tx)
theorem Qu:Bf E11 2000 71 []=some (.tp [.sl 5 exC,.sl 9 exG]):=by kernel_rfl
theorem XI:EnvOk E12:=Ku XH ⟨Tryz.call71⟩ ⟨⟨2000,Qu⟩,trivial⟩
def Ty:List (List AV×AV):=[([.st exT],.tp [.sl 5 exC,i4 0,i4 0])]
theorem S5:dfX E1 3000 Tryz.f72 124 2 [.st exT]=some (.tp [.sl 5 exC,i4 0,i4 0]):=by kernel_rfl
theorem T7:EnvOk (E1.withX 72 (O5 Ty)):=Wy Yk fun p hp=>by
 rw [List.mem_singleton.1 hp]; exact S5
noncomputable def E13:Env:=E12.withX 72 (O5 Ty)
theorem XJ:EnvOk E13:=VE XI T7 rfl rfl
end Go.Proofs.YtlalcoehgkmhlaaGreatDoor
