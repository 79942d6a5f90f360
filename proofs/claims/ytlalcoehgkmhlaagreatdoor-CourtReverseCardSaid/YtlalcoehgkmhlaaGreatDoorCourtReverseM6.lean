/- Lemmas for the proof. -/
import Derived.Test.YtlalcoehgkmhlaaGreatDoorCourtReverseM1
import Derived.Test.YtlalcoehgkmhlaaGreatDoorCourtReverseM2
import Derived.Test.YtlalcoehgkmhlaaGreatDoorCourtReverseM3
import Derived.Test.YtlalcoehgkmhlaaGreatDoorCourtReverseM4
import Derived.Test.YtlalcoehgkmhlaaGreatDoorCourtReverseM5
namespace Go.Proofs.YtlalcoehgkmhlaaGreatDoor
open Go.RowKit
def exO:List AV:=[.fn 165 [] [.pe (.ag [.v (.int .u8 1),.st [],.v (.bool false),.sl 1 [.st [100,117,107,101],.st [99,111,117,110,116]],.v (.int .i64 0)]) 0,.pe (.fn 205 [] [.pe (.fn 178 [] [.pe (.ag [.v (.int .u8 1),.st [],.v (.bool false),.sl 1 [.st [100,117,107,101],.st [99,111,117,110,116]],.v (.int .i64 0)]) 0]) 0]) 0],.fn 165 [] [.pe (.ag [.v (.int .u8 2),.st [100,117,107,101],.v (.bool false),.e0,.v (.int .i64 0)]) 0,.pe (.fn 179 [] [.pe (.ag [.v (.int .u8 2),.st [100,117,107,101],.v (.bool false),.e0,.v (.int .i64 0)]) 0]) 0],.fn 165 [] [.pe (.ag [.v (.int .u8 4),.st [],.v (.bool false),.e0,.v (.int .i64 1)]) 0,.pe (.fn 205 [] [.pe (.fn 206 [] [.pe (.fn 182 [] [.pe (.ag [.v (.int .u8 4),.st [],.v (.bool false),.e0,.v (.int .i64 1)]) 0]) 0,.pe (.ag [.v (.int .u8 4),.st [],.v (.bool false),.e0,.v (.int .i64 1)]) 0]) 0]) 0],.fn 165 [] [.pe (.ag [.v (.int .u8 8),.st [],.v (.bool false),.e0,.v (.int .i64 0)]) 0,.pe (.fn 187 [] []) 0]]
def Ws:List (List AV×AV):=[([.sl 5 exC],.tp [i4 0,i4 0]),([.sl 5 (exC.take 2)],.tp [i4 0,i4 0]),([.sl 5 (exC.drop 1)],.tp [i4 0,i4 31])]
noncomputable def E3:Env:=E1.withX 80 (PD Ws)
theorem Vr:Bg E1 2000 80 [.sl 5 exC]=some (.tp [i4 0,i4 0]):=by kernel_rfl
theorem Vs:Bg E1 2000 80 [.sl 5 (exC.take 2)]=some (.tp [i4 0,i4 0]):=by kernel_rfl
theorem Vt:Bg E1 2000 80 [.sl 5 (exC.drop 1)]=some (.tp [i4 0,i4 31]):=by kernel_rfl
theorem Yo:EnvOk E3:=K9 XG ⟨Tryz.call80⟩ ⟨⟨2000,Vr⟩,⟨2000,Vs⟩,⟨2000,Vt⟩,trivial⟩
def VA:List (List AV×AV):=[([.sl 5 exC],.tp [.sl 1 exO,.v (.bool true)]),([.sl 5 (exC.take 2)],.tp [.sl 1 (exO.take 2),.v (.bool true)])]
noncomputable def E4:Env:=E3.withX 75 (PD VA)
theorem Uq:Bg E3 2000 75 [.sl 5 exC]=some (.tp [.sl 1 exO,.v (.bool true)]):=by kernel_rfl
theorem Ur:Bg E3 2000 75 [.sl 5 (exC.take 2)]=some (.tp [.sl 1 (exO.take 2),.v (.bool true)]):=by kernel_rfl
theorem Yp:EnvOk E4:=K9 Yo ⟨Tryz.call75⟩ ⟨⟨2000,Uq⟩,⟨2000,Ur⟩,trivial⟩
def YL:List (List AV×AV):=[([.sl 5 exC,.sl 9 exG],.tp [.sl 1 [i4 2,i4 1,i4 4,i4 0,i4 3],i4 0]),([.sl 5 (exC.take 2),.sl 9 exG],.tp [.e0,i4 32])]
noncomputable def E5:Env:=E4.withX 26 (PD YL)
theorem UJ:Bg E4 2000 26 [.sl 5 exC,.sl 9 exG]=some (.tp [.sl 1 [i4 2,i4 1,i4 4,i4 0,i4 3],i4 0]):=by kernel_rfl
theorem UK:Bg E4 2000 26 [.sl 5 (exC.take 2),.sl 9 exG]=some (.tp [.e0,i4 32]):=by kernel_rfl
theorem Yq:EnvOk E5:=K9 Yp ⟨Tryz.call26⟩ ⟨⟨2000,UJ⟩,⟨2000,UK⟩,trivial⟩
def VB:List (List AV×AV):=[([.sl 5 exC,exG.headD .e0,(exG.drop 4).headD .e0,i4 0,i4 4],.tp [i4 2,i4 1])]
noncomputable def E6:Env:=E5.withX 21 (PD VB)
theorem SP:Bg E5 2000 21 [.sl 5 exC,exG.headD .e0,(exG.drop 4).headD .e0,i4 0,i4 4]=some (.tp [i4 2,i4 1]):=by kernel_rfl
theorem Yr:EnvOk E6:=K9 Yq ⟨Tryz.call21⟩ ⟨⟨2000,SP⟩,trivial⟩
def Sj:List (List AV×AV):=[([.sl 5 exC,.sl 9 exG],.sl 1 [i4 0,i4 1,i4 2])]
noncomputable def E7:Env:=E6.withX 68 (PD Sj)
theorem P6:Bg E6 2000 68 [.sl 5 exC,.sl 9 exG]=some (.sl 1 [i4 0,i4 1,i4 2]):=by kernel_rfl
theorem Ys:EnvOk E7:=K9 Yr ⟨Tryz.call68⟩ ⟨⟨2000,P6⟩,trivial⟩
def Wt:List (List AV×AV):=[([.sl 5 (exC.take 2),.sl 9 exG],.sl 1 [i4 2,i4 1,i4 0,i4 3,i4 2])]
noncomputable def E8:Env:=E7.withX 25 (PD Wt)
theorem Sz:Bg E7 2000 25 [.sl 5 (exC.take 2),.sl 9 exG]=some (.sl 1 [i4 2,i4 1,i4 0,i4 3,i4 2]):=by kernel_rfl
theorem Yt:EnvOk E8:=K9 Ys ⟨Tryz.call25⟩ ⟨⟨2000,Sz⟩,trivial⟩
def U9:List (List AV×AV):=[([.sl 5 (exC.drop 1)],.st [])]
noncomputable def E9:Env:=E8.withX 73 (PD U9)
theorem SO:Bg E8 2000 73 [.sl 5 (exC.drop 1)]=some (.st []):=by kernel_rfl
theorem Yu:EnvOk E9:=K9 Yt ⟨Tryz.call73⟩ ⟨⟨2000,SO⟩,trivial⟩
def YM:List (List AV×AV):=[([.sl 5 exC,.sl 5 exC],.v (.bool true))]
noncomputable def E10:Env:=E9.withX 69 (PD YM)
theorem UL:Bg E9 2000 69 [.sl 5 exC,.sl 5 exC]=some (.v (.bool true)):=by kernel_rfl
theorem XC:EnvOk E10:=K9 Yu ⟨Tryz.call69⟩ ⟨⟨2000,UL⟩,trivial⟩
def Qh:List (List AV×AV):=[([.sl 1 [i4 2,i4 1,i4 0,i4 3,i4 2],.sl 1 [i4 0,i4 1,i4 2,i4 3,i4 4]],i4 4)]
noncomputable def E11:Env:=E10.withX 28 (PD Qh)
theorem OZ:Bg E10 2000 28 [.sl 1 [i4 2,i4 1,i4 0,i4 3,i4 2],.sl 1 [i4 0,i4 1,i4 2,i4 3,i4 4]]=some (i4 4):=by kernel_rfl
theorem XD:EnvOk E11:=K9 XC ⟨Tryz.call28⟩ ⟨⟨2000,OZ⟩,trivial⟩
def T0:List (List AV×AV):=[([],.tp [.sl 5 exC,.sl 9 exG])]
noncomputable def E12:Env:=E11.withX 71 (PD T0)
theorem Qv:Bg E11 2000 71 []=some (.tp [.sl 5 exC,.sl 9 exG]):=by kernel_rfl
theorem XE:EnvOk E12:=K9 XD ⟨Tryz.call71⟩ ⟨⟨2000,Qv⟩,trivial⟩
def T1:List (List AV×AV):=[([.st exT],.tp [.sl 5 exC,i4 0,i4 0])]
theorem S0:dfX E1 3000 Tryz.f72 124 2 [.st exT]=some (.tp [.sl 5 exC,i4 0,i4 0]):=by kernel_rfl
theorem T9:EnvOk (E1.withX 72 (PD T1)):=Wr Yn fun p hp=>by
 rw [List.mem_singleton.1 hp]; exact S0
noncomputable def E13:Env:=E12.withX 72 (PD T1)
theorem XF:EnvOk E13:=VG XE T9 rfl rfl
end Go.Proofs.YtlalcoehgkmhlaaGreatDoor
