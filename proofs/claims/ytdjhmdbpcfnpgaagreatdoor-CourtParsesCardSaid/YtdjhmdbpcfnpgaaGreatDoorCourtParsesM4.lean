/- Lemmas for the proof. -/
import Derived.Test.YtdjhmdbpcfnpgaaGreatDoorCourtParsesM1
import Derived.Test.YtdjhmdbpcfnpgaaGreatDoorCourtParsesM2
import Derived.Test.YtdjhmdbpcfnpgaaGreatDoorCourtParsesM3
namespace Go.Proofs.YtdjhmdbpcfnpgaaGreatDoor
open Go.RowKit
def exO:List AV:=[.fn 99 [] [.pe (.ag [.v (.int .u8 1),.st [],.v (.bool false),.sl 1 [.st [100,117,107,101],.st [99,111,117,110,116]],.v (.int .i64 0)]) 0,.pe (.fn 135 [] [.pe (.fn 113 [] [.pe (.ag [.v (.int .u8 1),.st [],.v (.bool false),.sl 1 [.st [100,117,107,101],.st [99,111,117,110,116]],.v (.int .i64 0)]) 0]) 0]) 0],.fn 99 [] [.pe (.ag [.v (.int .u8 2),.st [100,117,107,101],.v (.bool false),.e0,.v (.int .i64 0)]) 0,.pe (.fn 114 [] [.pe (.ag [.v (.int .u8 2),.st [100,117,107,101],.v (.bool false),.e0,.v (.int .i64 0)]) 0]) 0],.fn 99 [] [.pe (.ag [.v (.int .u8 4),.st [],.v (.bool false),.e0,.v (.int .i64 1)]) 0,.pe (.fn 135 [] [.pe (.fn 137 [] [.pe (.fn 118 [] [.pe (.ag [.v (.int .u8 4),.st [],.v (.bool false),.e0,.v (.int .i64 1)]) 0]) 0,.pe (.ag [.v (.int .u8 4),.st [],.v (.bool false),.e0,.v (.int .i64 1)]) 0]) 0]) 0],.fn 99 [] [.pe (.ag [.v (.int .u8 8),.st [],.v (.bool false),.e0,.v (.int .i64 0)]) 0,.pe (.fn 123 [] []) 0]]
def TD:List (List AV×AV):=[([.sl 5 exC],.tp [i4 0,i4 0]),([.sl 5 (exC.take 2)],.tp [i4 0,i4 0]),([.sl 5 (exC.drop 1)],.tp [i4 0,i4 31])]
noncomputable def E3:Env:=E1.withX 27 (ML TD)
theorem Sc:CI E1 2000 27 [.sl 5 exC]=some (.tp [i4 0,i4 0]):=by kernel_rfl
theorem Sd:CI E1 2000 27 [.sl 5 (exC.take 2)]=some (.tp [i4 0,i4 0]):=by kernel_rfl
theorem Se:CI E1 2000 27 [.sl 5 (exC.drop 1)]=some (.tp [i4 0,i4 31]):=by kernel_rfl
theorem Ur:EnvOk E3:=Iq Td ⟨Tryz.call27⟩ ⟨⟨2000,Sc⟩,⟨2000,Sd⟩,⟨2000,Se⟩,trivial⟩
def Ro:List (List AV×AV):=[([.sl 5 exC],.tp [.sl 1 exO,.v (.bool true)]),([.sl 5 (exC.take 2)],.tp [.sl 1 (exO.take 2),.v (.bool true)])]
noncomputable def E4:Env:=E3.withX 43 (ML Ro)
theorem RY:CI E3 2000 43 [.sl 5 exC]=some (.tp [.sl 1 exO,.v (.bool true)]):=by kernel_rfl
theorem RZ:CI E3 2000 43 [.sl 5 (exC.take 2)]=some (.tp [.sl 1 (exO.take 2),.v (.bool true)]):=by kernel_rfl
theorem Us:EnvOk E4:=Iq Ur ⟨Tryz.call43⟩ ⟨⟨2000,RY⟩,⟨2000,RZ⟩,trivial⟩
def UX:List (List AV×AV):=[([.sl 5 exC,.sl 9 exG],.tp [.sl 1 [i4 2,i4 1,i4 4,i4 0,i4 3],i4 0]),([.sl 5 (exC.take 2),.sl 9 exG],.tp [.e0,i4 32])]
noncomputable def E5:Env:=E4.withX 22 (ML UX)
theorem Q7:CI E4 2000 22 [.sl 5 exC,.sl 9 exG]=some (.tp [.sl 1 [i4 2,i4 1,i4 4,i4 0,i4 3],i4 0]):=by kernel_rfl
theorem Q8:CI E4 2000 22 [.sl 5 (exC.take 2),.sl 9 exG]=some (.tp [.e0,i4 32]):=by kernel_rfl
theorem Ut:EnvOk E5:=Iq Us ⟨Tryz.call22⟩ ⟨⟨2000,Q7⟩,⟨2000,Q8⟩,trivial⟩
def Rp:List (List AV×AV):=[([.sl 5 exC,exG.headD .e0,(exG.drop 4).headD .e0,i4 0,i4 4],.tp [i4 2,i4 1])]
noncomputable def E6:Env:=E5.withX 15 (ML Rp)
theorem PI:CI E5 2000 15 [.sl 5 exC,exG.headD .e0,(exG.drop 4).headD .e0,i4 0,i4 4]=some (.tp [i4 2,i4 1]):=by kernel_rfl
theorem Uu:EnvOk E6:=Iq Ut ⟨Tryz.call15⟩ ⟨⟨2000,PI⟩,trivial⟩
def Ph:List (List AV×AV):=[([.sl 5 exC,.sl 9 exG],.sl 1 [i4 0,i4 1,i4 2])]
noncomputable def E7:Env:=E6.withX 24 (ML Ph)
theorem NG:CI E6 2000 24 [.sl 5 exC,.sl 9 exG]=some (.sl 1 [i4 0,i4 1,i4 2]):=by kernel_rfl
theorem Uv:EnvOk E7:=Iq Uu ⟨Tryz.call24⟩ ⟨⟨2000,NG⟩,trivial⟩
def TE:List (List AV×AV):=[([.sl 5 (exC.take 2),.sl 9 exG],.sl 1 [i4 2,i4 1,i4 0,i4 3,i4 2])]
noncomputable def E8:Env:=E7.withX 25 (ML TE)
theorem Pu:CI E7 2000 25 [.sl 5 (exC.take 2),.sl 9 exG]=some (.sl 1 [i4 2,i4 1,i4 0,i4 3,i4 2]):=by kernel_rfl
theorem Uw:EnvOk E8:=Iq Uv ⟨Tryz.call25⟩ ⟨⟨2000,Pu⟩,trivial⟩
def Rn:List (List AV×AV):=[([.sl 5 (exC.drop 1)],.st [])]
noncomputable def E9:Env:=E8.withX 10 (ML Rn)
theorem PH:CI E8 2000 10 [.sl 5 (exC.drop 1)]=some (.st []):=by kernel_rfl
theorem Ux:EnvOk E9:=Iq Uw ⟨Tryz.call10⟩ ⟨⟨2000,PH⟩,trivial⟩
def UY:List (List AV×AV):=[([.sl 5 exC,.sl 5 exC],.v (.bool true))]
noncomputable def E10:Env:=E9.withX 12 (ML UY)
theorem Q9:CI E9 2000 12 [.sl 5 exC,.sl 5 exC]=some (.v (.bool true)):=by kernel_rfl
theorem TZ:EnvOk E10:=Iq Ux ⟨Tryz.call12⟩ ⟨⟨2000,Q9⟩,trivial⟩
def Nk:List (List AV×AV):=[([.sl 1 [i4 2,i4 1,i4 0,i4 3,i4 2],.sl 1 [i4 0,i4 1,i4 2,i4 3,i4 4]],i4 4)]
noncomputable def E11:Env:=E10.withX 26 (ML Nk)
theorem Lg:CI E10 2000 26 [.sl 1 [i4 2,i4 1,i4 0,i4 3,i4 2],.sl 1 [i4 0,i4 1,i4 2,i4 3,i4 4]]=some (i4 4):=by kernel_rfl
theorem Ta:EnvOk E11:=Iq TZ ⟨Tryz.call26⟩ ⟨⟨2000,Lg⟩,trivial⟩
def Qk:List (List AV×AV):=[([],.tp [.sl 5 exC,.sl 9 exG])]
noncomputable def E12:Env:=E11.withX 21 (ML Qk)
theorem Nz:CI E11 2000 21 []=some (.tp [.sl 5 exC,.sl 9 exG]):=by kernel_rfl
theorem Tb:EnvOk E12:=Iq Ta ⟨Tryz.call21⟩ ⟨⟨2000,Nz⟩,trivial⟩
def Ql:List (List AV×AV):=[([.st exT],.tp [.sl 5 exC,i4 0,i4 0])]
theorem Pv:dfX E1 3000 Tryz.f11 32 2 [.st exT]=some (.tp [.sl 5 exC,i4 0,i4 0]):=by kernel_rfl
theorem Qu:EnvOk (E1.withX 11 (ML Ql)):=TB Uq fun p hp=>by
 rw [List.mem_singleton.1 hp]; exact Pv
noncomputable def E13:Env:=E12.withX 11 (ML Ql)
theorem Tc:EnvOk E13:=Rw Tb Qu rfl rfl
end Go.Proofs.YtdjhmdbpcfnpgaaGreatDoor
