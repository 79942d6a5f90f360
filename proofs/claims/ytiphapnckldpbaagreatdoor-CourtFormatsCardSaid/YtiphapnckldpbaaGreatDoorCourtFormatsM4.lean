/- Lemmas for the proof. -/
import Derived.Test.YtiphapnckldpbaaGreatDoorCourtFormatsM1
import Derived.Test.YtiphapnckldpbaaGreatDoorCourtFormatsM2
import Derived.Test.YtiphapnckldpbaaGreatDoorCourtFormatsM3
namespace Go.Proofs.YtiphapnckldpbaaGreatDoor
open Go.RowKit
def exO:List AV:=[.fn 154 [] [.pe (.ag [.v (.int .u8 1),.st [],.v (.bool false),.sl 1 [.st [100,117,107,101],.st [99,111,117,110,116]],.v (.int .i64 0)]) 0,.pe (.fn 187 [] [.pe (.fn 164 [] [.pe (.ag [.v (.int .u8 1),.st [],.v (.bool false),.sl 1 [.st [100,117,107,101],.st [99,111,117,110,116]],.v (.int .i64 0)]) 0]) 0]) 0],.fn 154 [] [.pe (.ag [.v (.int .u8 2),.st [100,117,107,101],.v (.bool false),.e0,.v (.int .i64 0)]) 0,.pe (.fn 165 [] [.pe (.ag [.v (.int .u8 2),.st [100,117,107,101],.v (.bool false),.e0,.v (.int .i64 0)]) 0]) 0],.fn 154 [] [.pe (.ag [.v (.int .u8 4),.st [],.v (.bool false),.e0,.v (.int .i64 1)]) 0,.pe (.fn 187 [] [.pe (.fn 188 [] [.pe (.fn 169 [] [.pe (.ag [.v (.int .u8 4),.st [],.v (.bool false),.e0,.v (.int .i64 1)]) 0]) 0,.pe (.ag [.v (.int .u8 4),.st [],.v (.bool false),.e0,.v (.int .i64 1)]) 0]) 0]) 0],.fn 154 [] [.pe (.ag [.v (.int .u8 8),.st [],.v (.bool false),.e0,.v (.int .i64 0)]) 0,.pe (.fn 174 [] []) 0]]
def So:List (List AV×AV):=[([.sl 5 exC],.tp [i4 0,i4 0]),([.sl 5 (exC.take 2)],.tp [i4 0,i4 0]),([.sl 5 (exC.drop 1)],.tp [i4 0,i4 31])]
noncomputable def E3:Env:=E1.withX 52 (MG So)
theorem Rz:CW E1 2000 52 [.sl 5 exC]=some (.tp [i4 0,i4 0]):=by kernel_rfl
theorem R4:CW E1 2000 52 [.sl 5 (exC.take 2)]=some (.tp [i4 0,i4 0]):=by kernel_rfl
theorem R6:CW E1 2000 52 [.sl 5 (exC.drop 1)]=some (.tp [i4 0,i4 31]):=by kernel_rfl
theorem Tx:EnvOk E3:=Ir S5 ⟨Tryz.call52⟩ ⟨⟨2000,Rz⟩,⟨2000,R4⟩,⟨2000,R6⟩,trivial⟩
def RJ:List (List AV×AV):=[([.sl 5 exC],.tp [.sl 1 exO,.v (.bool true)]),([.sl 5 (exC.take 2)],.tp [.sl 1 (exO.take 2),.v (.bool true)])]
noncomputable def E4:Env:=E3.withX 89 (MG RJ)
theorem Q6:CW E3 2000 89 [.sl 5 exC]=some (.tp [.sl 1 exO,.v (.bool true)]):=by kernel_rfl
theorem Q7:CW E3 2000 89 [.sl 5 (exC.take 2)]=some (.tp [.sl 1 (exO.take 2),.v (.bool true)]):=by kernel_rfl
theorem Ty:EnvOk E4:=Ir Tx ⟨Tryz.call89⟩ ⟨⟨2000,Q6⟩,⟨2000,Q7⟩,trivial⟩
def Te:List (List AV×AV):=[([.sl 5 exC,.sl 9 exG],.tp [.sl 1 [i4 2,i4 1,i4 4,i4 0,i4 3],i4 0]),([.sl 5 (exC.take 2),.sl 9 exG],.tp [.e0,i4 32])]
noncomputable def E5:Env:=E4.withX 38 (MG Te)
theorem Qg:CW E4 2000 38 [.sl 5 exC,.sl 9 exG]=some (.tp [.sl 1 [i4 2,i4 1,i4 4,i4 0,i4 3],i4 0]):=by kernel_rfl
theorem Qh:CW E4 2000 38 [.sl 5 (exC.take 2),.sl 9 exG]=some (.tp [.e0,i4 32]):=by kernel_rfl
theorem Tz:EnvOk E5:=Ir Ty ⟨Tryz.call38⟩ ⟨⟨2000,Qg⟩,⟨2000,Qh⟩,trivial⟩
def RK:List (List AV×AV):=[([.sl 5 exC,exG.headD .e0,(exG.drop 4).headD .e0,i4 0,i4 4],.tp [i4 2,i4 1])]
noncomputable def E6:Env:=E5.withX 33 (MG RK)
theorem PB:CW E5 2000 33 [.sl 5 exC,exG.headD .e0,(exG.drop 4).headD .e0,i4 0,i4 4]=some (.tp [i4 2,i4 1]):=by kernel_rfl
theorem T0:EnvOk E6:=Ir Tz ⟨Tryz.call33⟩ ⟨⟨2000,PB⟩,trivial⟩
def PU:List (List AV×AV):=[([.sl 5 exC,.sl 9 exG],.sl 1 [i4 0,i4 1,i4 2])]
noncomputable def E7:Env:=E6.withX 55 (MG PU)
theorem M9:CW E6 2000 55 [.sl 5 exC,.sl 9 exG]=some (.sl 1 [i4 0,i4 1,i4 2]):=by kernel_rfl
theorem T1:EnvOk E7:=Ir T0 ⟨Tryz.call55⟩ ⟨⟨2000,M9⟩,trivial⟩
def Sp:List (List AV×AV):=[([.sl 5 (exC.take 2),.sl 9 exG],.sl 1 [i4 2,i4 1,i4 0,i4 3,i4 2])]
noncomputable def E8:Env:=E7.withX 37 (MG Sp)
theorem Pd:CW E7 2000 37 [.sl 5 (exC.take 2),.sl 9 exG]=some (.sl 1 [i4 2,i4 1,i4 0,i4 3,i4 2]):=by kernel_rfl
theorem T2:EnvOk E8:=Ir T1 ⟨Tryz.call37⟩ ⟨⟨2000,Pd⟩,trivial⟩
def RH:List (List AV×AV):=[([.sl 5 (exC.drop 1)],.st [])]
noncomputable def E9:Env:=E8.withX 27 (MG RH)
theorem PA:CW E8 2000 27 [.sl 5 (exC.drop 1)]=some (.st []):=by kernel_rfl
theorem T3:EnvOk E9:=Ir T2 ⟨Tryz.call27⟩ ⟨⟨2000,PA⟩,trivial⟩
def Tf:List (List AV×AV):=[([.sl 5 exC,.sl 5 exC],.v (.bool true))]
noncomputable def E10:Env:=E9.withX 29 (MG Tf)
theorem Qi:CW E9 2000 29 [.sl 5 exC,.sl 5 exC]=some (.v (.bool true)):=by kernel_rfl
theorem S1:EnvOk E10:=Ir T3 ⟨Tryz.call29⟩ ⟨⟨2000,Qi⟩,trivial⟩
def NY:List (List AV×AV):=[([.sl 1 [i4 2,i4 1,i4 0,i4 3,i4 2],.sl 1 [i4 0,i4 1,i4 2,i4 3,i4 4]],i4 4)]
noncomputable def E11:Env:=E10.withX 21 (MG NY)
theorem LW:CW E10 2000 21 [.sl 1 [i4 2,i4 1,i4 0,i4 3,i4 2],.sl 1 [i4 0,i4 1,i4 2,i4 3,i4 4]]=some (i4 4):=by kernel_rfl
theorem S2:EnvOk E11:=Ir S1 ⟨Tryz.call21⟩ ⟨⟨2000,LW⟩,trivial⟩
def QN:List (List AV×AV):=[([],.tp [.sl 5 exC,.sl 9 exG])]
noncomputable def E12:Env:=E11.withX 54 (MG QN)
theorem No:CW E11 2000 54 []=some (.tp [.sl 5 exC,.sl 9 exG]):=by kernel_rfl
theorem S3:EnvOk E12:=Ir S2 ⟨Tryz.call54⟩ ⟨⟨2000,No⟩,trivial⟩
def QO:List (List AV×AV):=[([.st exT],.tp [.sl 5 exC,i4 0,i4 0])]
theorem Pe:dfX E1 3000 Tryz.f28 75 2 [.st exT]=some (.tp [.sl 5 exC,i4 0,i4 0]):=by kernel_rfl
theorem QU:EnvOk (E1.withX 28 (MG QO)):=Sk Tw fun p hp=>by
 rw [List.mem_singleton.1 hp]; exact Pe
noncomputable def E13:Env:=E12.withX 28 (MG QO)
theorem S4:EnvOk E13:=RR S3 QU rfl rfl
end Go.Proofs.YtiphapnckldpbaaGreatDoor
