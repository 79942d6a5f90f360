/- Lemmas for the proof. -/
import Derived.Test.YtdjhmdbpcfnpgaaGreatDoorCourtWeakM1
import Derived.Test.YtdjhmdbpcfnpgaaGreatDoorCourtWeakM2
import Derived.Test.YtdjhmdbpcfnpgaaGreatDoorCourtWeakM3
import Derived.Test.YtdjhmdbpcfnpgaaGreatDoorCourtWeakM4
import Derived.Test.YtdjhmdbpcfnpgaaGreatDoorCourtWeakM5
namespace Go.Proofs.YtdjhmdbpcfnpgaaGreatDoor
open Go.RowKit
def exO:List AV:=[.fn 99 [] [.pe (.ag [.v (.int .u8 1),.st [],.v (.bool false),.sl 1 [.st [100,117,107,101],.st [99,111,117,110,116]],.v (.int .i64 0)]) 0,.pe (.fn 135 [] [.pe (.fn 113 [] [.pe (.ag [.v (.int .u8 1),.st [],.v (.bool false),.sl 1 [.st [100,117,107,101],.st [99,111,117,110,116]],.v (.int .i64 0)]) 0]) 0]) 0],.fn 99 [] [.pe (.ag [.v (.int .u8 2),.st [100,117,107,101],.v (.bool false),.e0,.v (.int .i64 0)]) 0,.pe (.fn 114 [] [.pe (.ag [.v (.int .u8 2),.st [100,117,107,101],.v (.bool false),.e0,.v (.int .i64 0)]) 0]) 0],.fn 99 [] [.pe (.ag [.v (.int .u8 4),.st [],.v (.bool false),.e0,.v (.int .i64 1)]) 0,.pe (.fn 135 [] [.pe (.fn 137 [] [.pe (.fn 118 [] [.pe (.ag [.v (.int .u8 4),.st [],.v (.bool false),.e0,.v (.int .i64 1)]) 0]) 0,.pe (.ag [.v (.int .u8 4),.st [],.v (.bool false),.e0,.v (.int .i64 1)]) 0]) 0]) 0],.fn 99 [] [.pe (.ag [.v (.int .u8 8),.st [],.v (.bool false),.e0,.v (.int .i64 0)]) 0,.pe (.fn 123 [] []) 0]]
def TG:List (List AV×AV):=[([.sl 5 exC],.tp [i4 0,i4 0]),([.sl 5 (exC.take 2)],.tp [i4 0,i4 0]),([.sl 5 (exC.drop 1)],.tp [i4 0,i4 31])]
noncomputable def E3:Env:=E1.withX 27 (Mg TG)
theorem SM:BI E1 2000 27 [.sl 5 exC]=some (.tp [i4 0,i4 0]):=by kernel_rfl
theorem SN:BI E1 2000 27 [.sl 5 (exC.take 2)]=some (.tp [i4 0,i4 0]):=by kernel_rfl
theorem SO:BI E1 2000 27 [.sl 5 (exC.drop 1)]=some (.tp [i4 0,i4 31]):=by kernel_rfl
theorem Uo:EnvOk E3:=JF Th ⟨Tryz.call27⟩ ⟨⟨2000,SM⟩,⟨2000,SN⟩,⟨2000,SO⟩,trivial⟩
def Rg:List (List AV×AV):=[([.sl 5 exC],.tp [.sl 1 exO,.v (.bool true)]),([.sl 5 (exC.take 2)],.tp [.sl 1 (exO.take 2),.v (.bool true)])]
noncomputable def E4:Env:=E3.withX 43 (Mg Rg)
theorem RQ:BI E3 2000 43 [.sl 5 exC]=some (.tp [.sl 1 exO,.v (.bool true)]):=by kernel_rfl
theorem RR:BI E3 2000 43 [.sl 5 (exC.take 2)]=some (.tp [.sl 1 (exO.take 2),.v (.bool true)]):=by kernel_rfl
theorem Up:EnvOk E4:=JF Uo ⟨Tryz.call43⟩ ⟨⟨2000,RQ⟩,⟨2000,RR⟩,trivial⟩
def UP:List (List AV×AV):=[([.sl 5 exC,.sl 9 exG],.tp [.sl 1 [i4 2,i4 1,i4 4,i4 0,i4 3],i4 0]),([.sl 5 (exC.take 2),.sl 9 exG],.tp [.e0,i4 32])]
noncomputable def E5:Env:=E4.withX 22 (Mg UP)
theorem Qz:BI E4 2000 22 [.sl 5 exC,.sl 9 exG]=some (.tp [.sl 1 [i4 2,i4 1,i4 4,i4 0,i4 3],i4 0]):=by kernel_rfl
theorem Q0:BI E4 2000 22 [.sl 5 (exC.take 2),.sl 9 exG]=some (.tp [.e0,i4 32]):=by kernel_rfl
theorem Uq:EnvOk E5:=JF Up ⟨Tryz.call22⟩ ⟨⟨2000,Qz⟩,⟨2000,Q0⟩,trivial⟩
def Rh:List (List AV×AV):=[([.sl 5 exC,exG.headD .e0,(exG.drop 4).headD .e0,i4 0,i4 4],.tp [i4 2,i4 1])]
noncomputable def E6:Env:=E5.withX 15 (Mg Rh)
theorem PN:BI E5 2000 15 [.sl 5 exC,exG.headD .e0,(exG.drop 4).headD .e0,i4 0,i4 4]=some (.tp [i4 2,i4 1]):=by kernel_rfl
theorem Ur:EnvOk E6:=JF Uq ⟨Tryz.call15⟩ ⟨⟨2000,PN⟩,trivial⟩
def Pf:List (List AV×AV):=[([.sl 5 exC,.sl 9 exG],.sl 1 [i4 0,i4 1,i4 2])]
noncomputable def E7:Env:=E6.withX 24 (Mg Pf)
theorem NP:BI E6 2000 24 [.sl 5 exC,.sl 9 exG]=some (.sl 1 [i4 0,i4 1,i4 2]):=by kernel_rfl
theorem Us:EnvOk E7:=JF Ur ⟨Tryz.call24⟩ ⟨⟨2000,NP⟩,trivial⟩
def TH:List (List AV×AV):=[([.sl 5 (exC.take 2),.sl 9 exG],.sl 1 [i4 2,i4 1,i4 0,i4 3,i4 2])]
noncomputable def E8:Env:=E7.withX 25 (Mg TH)
theorem Pt:BI E7 2000 25 [.sl 5 (exC.take 2),.sl 9 exG]=some (.sl 1 [i4 2,i4 1,i4 0,i4 3,i4 2]):=by kernel_rfl
theorem Ut:EnvOk E8:=JF Us ⟨Tryz.call25⟩ ⟨⟨2000,Pt⟩,trivial⟩
def Re:List (List AV×AV):=[([.sl 5 (exC.drop 1)],.st [])]
noncomputable def E9:Env:=E8.withX 10 (Mg Re)
theorem PM:BI E8 2000 10 [.sl 5 (exC.drop 1)]=some (.st []):=by kernel_rfl
theorem Uu:EnvOk E9:=JF Ut ⟨Tryz.call10⟩ ⟨⟨2000,PM⟩,trivial⟩
def UQ:List (List AV×AV):=[([.sl 5 exC,.sl 5 exC],.v (.bool true))]
noncomputable def E10:Env:=E9.withX 12 (Mg UQ)
theorem Q1:BI E9 2000 12 [.sl 5 exC,.sl 5 exC]=some (.v (.bool true)):=by kernel_rfl
theorem Td:EnvOk E10:=JF Uu ⟨Tryz.call12⟩ ⟨⟨2000,Q1⟩,trivial⟩
def Np:List (List AV×AV):=[([.sl 1 [i4 2,i4 1,i4 0,i4 3,i4 2],.sl 1 [i4 0,i4 1,i4 2,i4 3,i4 4]],i4 4)]
noncomputable def E11:Env:=E10.withX 26 (Mg Np)
theorem L8:BI E10 2000 26 [.sl 1 [i4 2,i4 1,i4 0,i4 3,i4 2],.sl 1 [i4 0,i4 1,i4 2,i4 3,i4 4]]=some (i4 4):=by kernel_rfl
theorem Te:EnvOk E11:=JF Td ⟨Tryz.call26⟩ ⟨⟨2000,L8⟩,trivial⟩
def Qc:List (List AV×AV):=[([],.tp [.sl 5 exC,.sl 9 exG])]
noncomputable def E12:Env:=E11.withX 21 (Mg Qc)
theorem Nz:BI E11 2000 21 []=some (.tp [.sl 5 exC,.sl 9 exG]):=by kernel_rfl
theorem Tf:EnvOk E12:=JF Te ⟨Tryz.call21⟩ ⟨⟨2000,Nz⟩,trivial⟩
def Qd:List (List AV×AV):=[([.st exT],.tp [.sl 5 exC,i4 0,i4 0])]
theorem Pu:dfX E1 3000 Tryz.f11 32 2 [.st exT]=some (.tp [.sl 5 exC,i4 0,i4 0]):=by kernel_rfl
theorem Qn:EnvOk (E1.withX 11 (Mg Qd)):=TE Un fun p hp=>by
 rw [List.mem_singleton.1 hp]; exact Pu
noncomputable def E13:Env:=E12.withX 11 (Mg Qd)
theorem Tg:EnvOk E13:=Rn Tf Qn rfl rfl
end Go.Proofs.YtdjhmdbpcfnpgaaGreatDoor
