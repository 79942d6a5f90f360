/- Lemmas for the proof. -/
import Derived.Test.YtdjhmdbpcfnpgaaGreatDoorCourtRoundM1
import Derived.Test.YtdjhmdbpcfnpgaaGreatDoorCourtRoundM2
import Derived.Test.YtdjhmdbpcfnpgaaGreatDoorCourtRoundM3
import Derived.Test.YtdjhmdbpcfnpgaaGreatDoorCourtRoundM4
import Derived.Test.YtdjhmdbpcfnpgaaGreatDoorCourtRoundM5
namespace Go.Proofs.YtdjhmdbpcfnpgaaGreatDoor
open Go.RowKit
def exO:List AV:=[.fn 99 [] [.pe (.ag [.v (.int .u8 1),.st [],.v (.bool false),.sl 1 [.st [100,117,107,101],.st [99,111,117,110,116]],.v (.int .i64 0)]) 0,.pe (.fn 135 [] [.pe (.fn 113 [] [.pe (.ag [.v (.int .u8 1),.st [],.v (.bool false),.sl 1 [.st [100,117,107,101],.st [99,111,117,110,116]],.v (.int .i64 0)]) 0]) 0]) 0],.fn 99 [] [.pe (.ag [.v (.int .u8 2),.st [100,117,107,101],.v (.bool false),.e0,.v (.int .i64 0)]) 0,.pe (.fn 114 [] [.pe (.ag [.v (.int .u8 2),.st [100,117,107,101],.v (.bool false),.e0,.v (.int .i64 0)]) 0]) 0],.fn 99 [] [.pe (.ag [.v (.int .u8 4),.st [],.v (.bool false),.e0,.v (.int .i64 1)]) 0,.pe (.fn 135 [] [.pe (.fn 137 [] [.pe (.fn 118 [] [.pe (.ag [.v (.int .u8 4),.st [],.v (.bool false),.e0,.v (.int .i64 1)]) 0]) 0,.pe (.ag [.v (.int .u8 4),.st [],.v (.bool false),.e0,.v (.int .i64 1)]) 0]) 0]) 0],.fn 99 [] [.pe (.ag [.v (.int .u8 8),.st [],.v (.bool false),.e0,.v (.int .i64 0)]) 0,.pe (.fn 123 [] []) 0]]
def US:List (List AV×AV):=[([.sl 5 exC],.tp [i4 0,i4 0]),([.sl 5 (exC.take 2)],.tp [i4 0,i4 0]),([.sl 5 (exC.drop 1)],.tp [i4 0,i4 31])]
noncomputable def E3:Env:=E1.withX 27 (Mg US)
theorem Tq:CT E1 2000 27 [.sl 5 exC]=some (.tp [i4 0,i4 0]):=by kernel_rfl
theorem Tr:CT E1 2000 27 [.sl 5 (exC.take 2)]=some (.tp [i4 0,i4 0]):=by kernel_rfl
theorem Ts:CT E1 2000 27 [.sl 5 (exC.drop 1)]=some (.tp [i4 0,i4 31]):=by kernel_rfl
theorem WC:EnvOk E3:=JA Un ⟨Tryz.call27⟩ ⟨⟨2000,Tq⟩,⟨2000,Tr⟩,⟨2000,Ts⟩,trivial⟩
def S0:List (List AV×AV):=[([.sl 5 exC],.tp [.sl 1 exO,.v (.bool true)]),([.sl 5 (exC.take 2)],.tp [.sl 1 (exO.take 2),.v (.bool true)])]
noncomputable def E4:Env:=E3.withX 43 (Mg S0)
theorem Si:CT E3 2000 43 [.sl 5 exC]=some (.tp [.sl 1 exO,.v (.bool true)]):=by kernel_rfl
theorem Sj:CT E3 2000 43 [.sl 5 (exC.take 2)]=some (.tp [.sl 1 (exO.take 2),.v (.bool true)]):=by kernel_rfl
theorem WD:EnvOk E4:=JA WC ⟨Tryz.call43⟩ ⟨⟨2000,Si⟩,⟨2000,Sj⟩,trivial⟩
def Vn:List (List AV×AV):=[([.sl 5 exC,.sl 9 exG],.tp [.sl 1 [i4 2,i4 1,i4 4,i4 0,i4 3],i4 0]),([.sl 5 (exC.take 2),.sl 9 exG],.tp [.e0,i4 32])]
noncomputable def E5:Env:=E4.withX 22 (Mg Vn)
theorem Rz:CT E4 2000 22 [.sl 5 exC,.sl 9 exG]=some (.tp [.sl 1 [i4 2,i4 1,i4 4,i4 0,i4 3],i4 0]):=by kernel_rfl
theorem R4:CT E4 2000 22 [.sl 5 (exC.take 2),.sl 9 exG]=some (.tp [.e0,i4 32]):=by kernel_rfl
theorem WE:EnvOk E5:=JA WD ⟨Tryz.call22⟩ ⟨⟨2000,Rz⟩,⟨2000,R4⟩,trivial⟩
def S1:List (List AV×AV):=[([.sl 5 exC,exG.headD .e0,(exG.drop 4).headD .e0,i4 0,i4 4],.tp [i4 2,i4 1])]
noncomputable def E6:Env:=E5.withX 15 (Mg S1)
theorem Pr:CT E5 2000 15 [.sl 5 exC,exG.headD .e0,(exG.drop 4).headD .e0,i4 0,i4 4]=some (.tp [i4 2,i4 1]):=by kernel_rfl
theorem WF:EnvOk E6:=JA WE ⟨Tryz.call15⟩ ⟨⟨2000,Pr⟩,trivial⟩
def P8:List (List AV×AV):=[([.sl 5 exC,.sl 9 exG],.sl 1 [i4 0,i4 1,i4 2])]
noncomputable def E7:Env:=E6.withX 24 (Mg P8)
theorem Ng:CT E6 2000 24 [.sl 5 exC,.sl 9 exG]=some (.sl 1 [i4 0,i4 1,i4 2]):=by kernel_rfl
theorem WG:EnvOk E7:=JA WF ⟨Tryz.call24⟩ ⟨⟨2000,Ng⟩,trivial⟩
def UT:List (List AV×AV):=[([.sl 5 (exC.take 2),.sl 9 exG],.sl 1 [i4 2,i4 1,i4 0,i4 3,i4 2])]
noncomputable def E8:Env:=E7.withX 25 (Mg UT)
theorem QO:CT E7 2000 25 [.sl 5 (exC.take 2),.sl 9 exG]=some (.sl 1 [i4 2,i4 1,i4 0,i4 3,i4 2]):=by kernel_rfl
theorem WH:EnvOk E8:=JA WG ⟨Tryz.call25⟩ ⟨⟨2000,QO⟩,trivial⟩
def Sz:List (List AV×AV):=[([.sl 5 (exC.drop 1)],.st [])]
noncomputable def E9:Env:=E8.withX 10 (Mg Sz)
theorem Pq:CT E8 2000 10 [.sl 5 (exC.drop 1)]=some (.st []):=by kernel_rfl
theorem WI:EnvOk E9:=JA WH ⟨Tryz.call10⟩ ⟨⟨2000,Pq⟩,trivial⟩
def Vo:List (List AV×AV):=[([.sl 5 exC,.sl 5 exC],.v (.bool true))]
noncomputable def E10:Env:=E9.withX 12 (Mg Vo)
theorem R7:CT E9 2000 12 [.sl 5 exC,.sl 5 exC]=some (.v (.bool true)):=by kernel_rfl
theorem Uj:EnvOk E10:=JA WI ⟨Tryz.call12⟩ ⟨⟨2000,R7⟩,trivial⟩
def N8:List (List AV×AV):=[([.sl 1 [i4 2,i4 1,i4 0,i4 3,i4 2],.sl 1 [i4 0,i4 1,i4 2,i4 3,i4 4]],i4 4)]
noncomputable def E11:Env:=E10.withX 26 (Mg N8)
theorem L1:CT E10 2000 26 [.sl 1 [i4 2,i4 1,i4 0,i4 3,i4 2],.sl 1 [i4 0,i4 1,i4 2,i4 3,i4 4]]=some (i4 4):=by kernel_rfl
theorem Uk:EnvOk E11:=JA Uj ⟨Tryz.call26⟩ ⟨⟨2000,L1⟩,trivial⟩
def RU:List (List AV×AV):=[([],.tp [.sl 5 exC,.sl 9 exG])]
noncomputable def E12:Env:=E11.withX 21 (Mg RU)
theorem ON:CT E11 2000 21 []=some (.tp [.sl 5 exC,.sl 9 exG]):=by kernel_rfl
theorem Ul:EnvOk E12:=JA Uk ⟨Tryz.call21⟩ ⟨⟨2000,ON⟩,trivial⟩
def RV:List (List AV×AV):=[([.st exT],.tp [.sl 5 exC,i4 0,i4 0])]
theorem QP:dfX E1 3000 Tryz.f11 32 2 [.st exT]=some (.tp [.sl 5 exC,i4 0,i4 0]):=by kernel_rfl
theorem Ri:EnvOk (E1.withX 11 (Mg RV)):=UR WB fun p hp=>by
 rw [List.mem_singleton.1 hp]; exact QP
noncomputable def E13:Env:=E12.withX 11 (Mg RV)
theorem Um:EnvOk E13:=TA Ul Ri rfl rfl
end Go.Proofs.YtdjhmdbpcfnpgaaGreatDoor
