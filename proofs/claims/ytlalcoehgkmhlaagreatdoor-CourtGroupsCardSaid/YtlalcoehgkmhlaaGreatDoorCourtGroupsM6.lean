/- Lemmas for the proof. -/
import Derived.Test.YtlalcoehgkmhlaaGreatDoorCourtGroupsM1
import Derived.Test.YtlalcoehgkmhlaaGreatDoorCourtGroupsM2
import Derived.Test.YtlalcoehgkmhlaaGreatDoorCourtGroupsM3
import Derived.Test.YtlalcoehgkmhlaaGreatDoorCourtGroupsM4
import Derived.Test.YtlalcoehgkmhlaaGreatDoorCourtGroupsM5
namespace Go.Proofs.YtlalcoehgkmhlaaGreatDoor
open Go.RowKit
def exO:List AV:=[.fn 165 [] [.pe (.ag [.v (.int .u8 1),.st [],.v (.bool false),.sl 1 [.st [100,117,107,101],.st [99,111,117,110,116]],.v (.int .i64 0)]) 0,.pe (.fn 205 [] [.pe (.fn 178 [] [.pe (.ag [.v (.int .u8 1),.st [],.v (.bool false),.sl 1 [.st [100,117,107,101],.st [99,111,117,110,116]],.v (.int .i64 0)]) 0]) 0]) 0],.fn 165 [] [.pe (.ag [.v (.int .u8 2),.st [100,117,107,101],.v (.bool false),.e0,.v (.int .i64 0)]) 0,.pe (.fn 179 [] [.pe (.ag [.v (.int .u8 2),.st [100,117,107,101],.v (.bool false),.e0,.v (.int .i64 0)]) 0]) 0],.fn 165 [] [.pe (.ag [.v (.int .u8 4),.st [],.v (.bool false),.e0,.v (.int .i64 1)]) 0,.pe (.fn 205 [] [.pe (.fn 206 [] [.pe (.fn 182 [] [.pe (.ag [.v (.int .u8 4),.st [],.v (.bool false),.e0,.v (.int .i64 1)]) 0]) 0,.pe (.ag [.v (.int .u8 4),.st [],.v (.bool false),.e0,.v (.int .i64 1)]) 0]) 0]) 0],.fn 165 [] [.pe (.ag [.v (.int .u8 8),.st [],.v (.bool false),.e0,.v (.int .i64 0)]) 0,.pe (.fn 187 [] []) 0]]
def Wu:List (List AV×AV):=[([.sl 5 exC],.tp [i4 0,i4 0]),([.sl 5 (exC.take 2)],.tp [i4 0,i4 0]),([.sl 5 (exC.drop 1)],.tp [i4 0,i4 31])]
noncomputable def E3:Env:=E1.withX 80 (O3 Wu)
theorem Vn:Bf E1 2000 80 [.sl 5 exC]=some (.tp [i4 0,i4 0]):=by kernel_rfl
theorem Vo:Bf E1 2000 80 [.sl 5 (exC.take 2)]=some (.tp [i4 0,i4 0]):=by kernel_rfl
theorem Vp:Bf E1 2000 80 [.sl 5 (exC.drop 1)]=some (.tp [i4 0,i4 31]):=by kernel_rfl
theorem Ye:EnvOk E3:=Kt XF ⟨Tryz.call80⟩ ⟨⟨2000,Vn⟩,⟨2000,Vo⟩,⟨2000,Vp⟩,trivial⟩
def U6:List (List AV×AV):=[([.sl 5 exC],.tp [.sl 1 exO,.v (.bool true)]),([.sl 5 (exC.take 2)],.tp [.sl 1 (exO.take 2),.v (.bool true)])]
noncomputable def E4:Env:=E3.withX 75 (O3 U6)
theorem Ut:Bf E3 2000 75 [.sl 5 exC]=some (.tp [.sl 1 exO,.v (.bool true)]):=by kernel_rfl
theorem Uu:Bf E3 2000 75 [.sl 5 (exC.take 2)]=some (.tp [.sl 1 (exO.take 2),.v (.bool true)]):=by kernel_rfl
theorem Yf:EnvOk E4:=Kt Ye ⟨Tryz.call75⟩ ⟨⟨2000,Ut⟩,⟨2000,Uu⟩,trivial⟩
def YD:List (List AV×AV):=[([.sl 5 exC,.sl 9 exG],.tp [.sl 1 [i4 2,i4 1,i4 4,i4 0,i4 3],i4 0]),([.sl 5 (exC.take 2),.sl 9 exG],.tp [.e0,i4 32])]
noncomputable def E5:Env:=E4.withX 26 (O3 YD)
theorem UE:Bf E4 2000 26 [.sl 5 exC,.sl 9 exG]=some (.tp [.sl 1 [i4 2,i4 1,i4 4,i4 0,i4 3],i4 0]):=by kernel_rfl
theorem UF:Bf E4 2000 26 [.sl 5 (exC.take 2),.sl 9 exG]=some (.tp [.e0,i4 32]):=by kernel_rfl
theorem Yg:EnvOk E5:=Kt Yf ⟨Tryz.call26⟩ ⟨⟨2000,UE⟩,⟨2000,UF⟩,trivial⟩
def U7:List (List AV×AV):=[([.sl 5 exC,exG.headD .e0,(exG.drop 4).headD .e0,i4 0,i4 4],.tp [i4 2,i4 1])]
noncomputable def E6:Env:=E5.withX 21 (O3 U7)
theorem SP:Bf E5 2000 21 [.sl 5 exC,exG.headD .e0,(exG.drop 4).headD .e0,i4 0,i4 4]=some (.tp [i4 2,i4 1]):=by kernel_rfl
theorem Yh:EnvOk E6:=Kt Yg ⟨Tryz.call21⟩ ⟨⟨2000,SP⟩,trivial⟩
def Sp:List (List AV×AV):=[([.sl 5 exC,.sl 9 exG],.sl 1 [i4 0,i4 1,i4 2])]
noncomputable def E7:Env:=E6.withX 68 (O3 Sp)
theorem Pz:Bf E6 2000 68 [.sl 5 exC,.sl 9 exG]=some (.sl 1 [i4 0,i4 1,i4 2]):=by kernel_rfl
theorem Yi:EnvOk E7:=Kt Yh ⟨Tryz.call68⟩ ⟨⟨2000,Pz⟩,trivial⟩
def Wv:List (List AV×AV):=[([.sl 5 (exC.take 2),.sl 9 exG],.sl 1 [i4 2,i4 1,i4 0,i4 3,i4 2])]
noncomputable def E8:Env:=E7.withX 25 (O3 Wv)
theorem S1:Bf E7 2000 25 [.sl 5 (exC.take 2),.sl 9 exG]=some (.sl 1 [i4 2,i4 1,i4 0,i4 3,i4 2]):=by kernel_rfl
theorem Yj:EnvOk E8:=Kt Yi ⟨Tryz.call25⟩ ⟨⟨2000,S1⟩,trivial⟩
def U5:List (List AV×AV):=[([.sl 5 (exC.drop 1)],.st [])]
noncomputable def E9:Env:=E8.withX 73 (O3 U5)
theorem SO:Bf E8 2000 73 [.sl 5 (exC.drop 1)]=some (.st []):=by kernel_rfl
theorem Yk:EnvOk E9:=Kt Yj ⟨Tryz.call73⟩ ⟨⟨2000,SO⟩,trivial⟩
def YE:List (List AV×AV):=[([.sl 5 exC,.sl 5 exC],.v (.bool true))]
noncomputable def E10:Env:=E9.withX 69 (O3 YE)
theorem UG:Bf E9 2000 69 [.sl 5 exC,.sl 5 exC]=some (.v (.bool true)):=by kernel_rfl
theorem XB:EnvOk E10:=Kt Yk ⟨Tryz.call69⟩ ⟨⟨2000,UG⟩,trivial⟩
def Qc:List (List AV×AV):=[([.sl 1 [i4 2,i4 1,i4 0,i4 3,i4 2],.sl 1 [i4 0,i4 1,i4 2,i4 3,i4 4]],i4 4)]
noncomputable def E11:Env:=E10.withX 28 (O3 Qc)
theorem OL:Bf E10 2000 28 [.sl 1 [i4 2,i4 1,i4 0,i4 3,i4 2],.sl 1 [i4 0,i4 1,i4 2,i4 3,i4 4]]=some (i4 4):=by kernel_rfl
theorem XC:EnvOk E11:=Kt XB ⟨Tryz.call28⟩ ⟨⟨2000,OL⟩,trivial⟩
def Tu:List (List AV×AV):=[([],.tp [.sl 5 exC,.sl 9 exG])]
noncomputable def E12:Env:=E11.withX 71 (O3 Tu)
theorem Qr:Bf E11 2000 71 []=some (.tp [.sl 5 exC,.sl 9 exG]):=by kernel_rfl
theorem XD:EnvOk E12:=Kt XC ⟨Tryz.call71⟩ ⟨⟨2000,Qr⟩,trivial⟩
def Tv:List (List AV×AV):=[([.st exT],.tp [.sl 5 exC,i4 0,i4 0])]
theorem S2:dfX E1 3000 Tryz.f72 124 2 [.st exT]=some (.tp [.sl 5 exC,i4 0,i4 0]):=by kernel_rfl
theorem T4:EnvOk (E1.withX 72 (O3 Tv)):=Wt Yc fun p hp=>by
 rw [List.mem_singleton.1 hp]; exact S2
noncomputable def E13:Env:=E12.withX 72 (O3 Tv)
theorem XE:EnvOk E13:=VC XD T4 rfl rfl
end Go.Proofs.YtlalcoehgkmhlaaGreatDoor
