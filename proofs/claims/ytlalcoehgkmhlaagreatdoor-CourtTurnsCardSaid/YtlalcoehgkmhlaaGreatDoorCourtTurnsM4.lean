/- Lemmas for the proof. -/
import Derived.Test.YtlalcoehgkmhlaaGreatDoorCourtTurnsM1
import Derived.Test.YtlalcoehgkmhlaaGreatDoorCourtTurnsM2
import Derived.Test.YtlalcoehgkmhlaaGreatDoorCourtTurnsM3
namespace Go.Proofs.YtlalcoehgkmhlaaGreatDoor
open Go.RowKit
def exO:List AV:=[.fn 165 [] [.pe (.ag [.v (.int .u8 1),.st [],.v (.bool false),.sl 1 [.st [100,117,107,101],.st [99,111,117,110,116]],.v (.int .i64 0)]) 0,.pe (.fn 205 [] [.pe (.fn 178 [] [.pe (.ag [.v (.int .u8 1),.st [],.v (.bool false),.sl 1 [.st [100,117,107,101],.st [99,111,117,110,116]],.v (.int .i64 0)]) 0]) 0]) 0],.fn 165 [] [.pe (.ag [.v (.int .u8 2),.st [100,117,107,101],.v (.bool false),.e0,.v (.int .i64 0)]) 0,.pe (.fn 179 [] [.pe (.ag [.v (.int .u8 2),.st [100,117,107,101],.v (.bool false),.e0,.v (.int .i64 0)]) 0]) 0],.fn 165 [] [.pe (.ag [.v (.int .u8 4),.st [],.v (.bool false),.e0,.v (.int .i64 1)]) 0,.pe (.fn 205 [] [.pe (.fn 206 [] [.pe (.fn 182 [] [.pe (.ag [.v (.int .u8 4),.st [],.v (.bool false),.e0,.v (.int .i64 1)]) 0]) 0,.pe (.ag [.v (.int .u8 4),.st [],.v (.bool false),.e0,.v (.int .i64 1)]) 0]) 0]) 0],.fn 165 [] [.pe (.ag [.v (.int .u8 8),.st [],.v (.bool false),.e0,.v (.int .i64 0)]) 0,.pe (.fn 187 [] []) 0]]
def AC3:List (List AV×AV):=[([.sl 5 exC],.tp [i4 0,i4 0]),([.sl 5 (exC.take 2)],.tp [i4 0,i4 0]),([.sl 5 (exC.drop 1)],.tp [i4 0,i4 31])]
noncomputable def E3:Env:=E1.withX 80 (VE AC3)
theorem ABz:DG E1 2000 80 [.sl 5 exC]=some (.tp [i4 0,i4 0]):=by kernel_rfl
theorem AB0:DG E1 2000 80 [.sl 5 (exC.take 2)]=some (.tp [i4 0,i4 0]):=by kernel_rfl
theorem AB1:DG E1 2000 80 [.sl 5 (exC.drop 1)]=some (.tp [i4 0,i4 31]):=by kernel_rfl
theorem AEp:EnvOk E3:=P3 ADM ⟨Tryz.call80⟩ ⟨⟨2000,ABz⟩,⟨2000,AB0⟩,⟨2000,AB1⟩,trivial⟩
def ABE:List (List AV×AV):=[([.sl 5 exC],.tp [.sl 1 exO,.v (.bool true)]),([.sl 5 (exC.take 2)],.tp [.sl 1 (exO.take 2),.v (.bool true)])]
noncomputable def E4:Env:=E3.withX 75 (VE ABE)
theorem AAy:DG E3 2000 75 [.sl 5 exC]=some (.tp [.sl 1 exO,.v (.bool true)]):=by kernel_rfl
theorem AAz:DG E3 2000 75 [.sl 5 (exC.take 2)]=some (.tp [.sl 1 (exO.take 2),.v (.bool true)]):=by kernel_rfl
theorem AEq:EnvOk E4:=P3 AEp ⟨Tryz.call75⟩ ⟨⟨2000,AAy⟩,⟨2000,AAz⟩,trivial⟩
def AEU:List (List AV×AV):=[([.sl 5 exC,.sl 9 exG],.tp [.sl 1 [i4 2,i4 1,i4 4,i4 0,i4 3],i4 0]),([.sl 5 (exC.take 2),.sl 9 exG],.tp [.e0,i4 32])]
noncomputable def E5:Env:=E4.withX 26 (VE AEU)
theorem AAR:DG E4 2000 26 [.sl 5 exC,.sl 9 exG]=some (.tp [.sl 1 [i4 2,i4 1,i4 4,i4 0,i4 3],i4 0]):=by kernel_rfl
theorem AAS:DG E4 2000 26 [.sl 5 (exC.take 2),.sl 9 exG]=some (.tp [.e0,i4 32]):=by kernel_rfl
theorem AEr:EnvOk E5:=P3 AEq ⟨Tryz.call26⟩ ⟨⟨2000,AAR⟩,⟨2000,AAS⟩,trivial⟩
def ABF:List (List AV×AV):=[([.sl 5 exC,exG.headD .e0,(exG.drop 4).headD .e0,i4 0,i4 4],.tp [i4 2,i4 1])]
noncomputable def E6:Env:=E5.withX 21 (VE ABF)
theorem YW:DG E5 2000 21 [.sl 5 exC,exG.headD .e0,(exG.drop 4).headD .e0,i4 0,i4 4]=some (.tp [i4 2,i4 1]):=by kernel_rfl
theorem AEs:EnvOk E6:=P3 AEr ⟨Tryz.call21⟩ ⟨⟨2000,YW⟩,trivial⟩
def Yv:List (List AV×AV):=[([.sl 5 exC,.sl 9 exG],.sl 1 [i4 0,i4 1,i4 2])]
noncomputable def E7:Env:=E6.withX 68 (VE Yv)
theorem WF:DG E6 2000 68 [.sl 5 exC,.sl 9 exG]=some (.sl 1 [i4 0,i4 1,i4 2]):=by kernel_rfl
theorem AEt:EnvOk E7:=P3 AEs ⟨Tryz.call68⟩ ⟨⟨2000,WF⟩,trivial⟩
def AC4:List (List AV×AV):=[([.sl 5 (exC.take 2),.sl 9 exG],.sl 1 [i4 2,i4 1,i4 0,i4 3,i4 2])]
noncomputable def E8:Env:=E7.withX 25 (VE AC4)
theorem ZA:DG E7 2000 25 [.sl 5 (exC.take 2),.sl 9 exG]=some (.sl 1 [i4 2,i4 1,i4 0,i4 3,i4 2]):=by kernel_rfl
theorem AEu:EnvOk E8:=P3 AEt ⟨Tryz.call25⟩ ⟨⟨2000,ZA⟩,trivial⟩
def ABD:List (List AV×AV):=[([.sl 5 (exC.drop 1)],.st [])]
noncomputable def E9:Env:=E8.withX 73 (VE ABD)
theorem YV:DG E8 2000 73 [.sl 5 (exC.drop 1)]=some (.st []):=by kernel_rfl
theorem AEv:EnvOk E9:=P3 AEu ⟨Tryz.call73⟩ ⟨⟨2000,YV⟩,trivial⟩
def AEV:List (List AV×AV):=[([.sl 5 exC,.sl 5 exC],.v (.bool true))]
noncomputable def E10:Env:=E9.withX 69 (VE AEV)
theorem AAT:DG E9 2000 69 [.sl 5 exC,.sl 5 exC]=some (.v (.bool true)):=by kernel_rfl
theorem ADI:EnvOk E10:=P3 AEv ⟨Tryz.call69⟩ ⟨⟨2000,AAT⟩,trivial⟩
def Ww:List (List AV×AV):=[([.sl 1 [i4 2,i4 1,i4 0,i4 3,i4 2],.sl 1 [i4 0,i4 1,i4 2,i4 3,i4 4]],i4 4)]
noncomputable def E11:Env:=E10.withX 28 (VE Ww)
theorem US:DG E10 2000 28 [.sl 1 [i4 2,i4 1,i4 0,i4 3,i4 2],.sl 1 [i4 0,i4 1,i4 2,i4 3,i4 4]]=some (i4 4):=by kernel_rfl
theorem ADJ:EnvOk E11:=P3 ADI ⟨Tryz.call28⟩ ⟨⟨2000,US⟩,trivial⟩
def Z8:List (List AV×AV):=[([],.tp [.sl 5 exC,.sl 9 exG])]
noncomputable def E12:Env:=E11.withX 71 (VE Z8)
theorem XB:DG E11 2000 71 []=some (.tp [.sl 5 exC,.sl 9 exG]):=by kernel_rfl
theorem ADK:EnvOk E12:=P3 ADJ ⟨Tryz.call71⟩ ⟨⟨2000,XB⟩,trivial⟩
def Z9:List (List AV×AV):=[([.st exT],.tp [.sl 5 exC,i4 0,i4 0])]
theorem ZB:dfX E1 3000 Tryz.f72 124 2 [.st exT]=some (.tp [.sl 5 exC,i4 0,i4 0]):=by kernel_rfl
theorem AAH:EnvOk (E1.withX 72 (VE Z9)):=AC2 AEo fun p hp=>by
 rw [List.mem_singleton.1 hp]; exact ZB
noncomputable def E13:Env:=E12.withX 72 (VE Z9)
theorem ADL:EnvOk E13:=ABK ADK AAH rfl rfl
end Go.Proofs.YtlalcoehgkmhlaaGreatDoor
