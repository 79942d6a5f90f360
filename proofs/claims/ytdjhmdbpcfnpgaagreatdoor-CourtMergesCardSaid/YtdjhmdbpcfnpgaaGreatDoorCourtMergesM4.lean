/- Lemmas for the proof. -/
import Derived.Test.YtdjhmdbpcfnpgaaGreatDoorCourtMergesM1
import Derived.Test.YtdjhmdbpcfnpgaaGreatDoorCourtMergesM2
import Derived.Test.YtdjhmdbpcfnpgaaGreatDoorCourtMergesM3
namespace Go.Proofs.YtdjhmdbpcfnpgaaGreatDoor
open Go.RowKit
def exO:List AV:=[.fn 99 [] [.pe (.ag [.v (.int .u8 1),.st [],.v (.bool false),.sl 1 [.st [100,117,107,101],.st [99,111,117,110,116]],.v (.int .i64 0)]) 0,.pe (.fn 135 [] [.pe (.fn 113 [] [.pe (.ag [.v (.int .u8 1),.st [],.v (.bool false),.sl 1 [.st [100,117,107,101],.st [99,111,117,110,116]],.v (.int .i64 0)]) 0]) 0]) 0],.fn 99 [] [.pe (.ag [.v (.int .u8 2),.st [100,117,107,101],.v (.bool false),.e0,.v (.int .i64 0)]) 0,.pe (.fn 114 [] [.pe (.ag [.v (.int .u8 2),.st [100,117,107,101],.v (.bool false),.e0,.v (.int .i64 0)]) 0]) 0],.fn 99 [] [.pe (.ag [.v (.int .u8 4),.st [],.v (.bool false),.e0,.v (.int .i64 1)]) 0,.pe (.fn 135 [] [.pe (.fn 137 [] [.pe (.fn 118 [] [.pe (.ag [.v (.int .u8 4),.st [],.v (.bool false),.e0,.v (.int .i64 1)]) 0]) 0,.pe (.ag [.v (.int .u8 4),.st [],.v (.bool false),.e0,.v (.int .i64 1)]) 0]) 0]) 0],.fn 99 [] [.pe (.ag [.v (.int .u8 8),.st [],.v (.bool false),.e0,.v (.int .i64 0)]) 0,.pe (.fn 123 [] []) 0]]
def Qf:List (List AV×AV):=[([.sl 5 exC],.tp [i4 0,i4 0]),([.sl 5 (exC.take 2)],.tp [i4 0,i4 0]),([.sl 5 (exC.drop 1)],.tp [i4 0,i4 31])]
noncomputable def E3:Env:=E1.withX 27 (KK Qf)
theorem P0:B5 E1 2000 27 [.sl 5 exC]=some (.tp [i4 0,i4 0]):=by kernel_rfl
theorem P1:B5 E1 2000 27 [.sl 5 (exC.take 2)]=some (.tp [i4 0,i4 0]):=by kernel_rfl
theorem P2:B5 E1 2000 27 [.sl 5 (exC.drop 1)]=some (.tp [i4 0,i4 31]):=by kernel_rfl
theorem Rr:EnvOk E3:=HV Qy ⟨Tryz.call27⟩ ⟨⟨2000,P0⟩,⟨2000,P1⟩,⟨2000,P2⟩,trivial⟩
def PM:List (List AV×AV):=[([.sl 5 exC],.tp [.sl 1 exO,.v (.bool true)]),([.sl 5 (exC.take 2)],.tp [.sl 1 (exO.take 2),.v (.bool true)])]
noncomputable def E4:Env:=E3.withX 43 (KK PM)
theorem O9:B5 E3 2000 43 [.sl 5 exC]=some (.tp [.sl 1 exO,.v (.bool true)]):=by kernel_rfl
theorem PA:B5 E3 2000 43 [.sl 5 (exC.take 2)]=some (.tp [.sl 1 (exO.take 2),.v (.bool true)]):=by kernel_rfl
theorem Rs:EnvOk E4:=HV Rr ⟨Tryz.call43⟩ ⟨⟨2000,O9⟩,⟨2000,PA⟩,trivial⟩
def RY:List (List AV×AV):=[([.sl 5 exC,.sl 9 exG],.tp [.sl 1 [i4 2,i4 1,i4 4,i4 0,i4 3],i4 0]),([.sl 5 (exC.take 2),.sl 9 exG],.tp [.e0,i4 32])]
noncomputable def E5:Env:=E4.withX 22 (KK RY)
theorem Ol:B5 E4 2000 22 [.sl 5 exC,.sl 9 exG]=some (.tp [.sl 1 [i4 2,i4 1,i4 4,i4 0,i4 3],i4 0]):=by kernel_rfl
theorem Om:B5 E4 2000 22 [.sl 5 (exC.take 2),.sl 9 exG]=some (.tp [.e0,i4 32]):=by kernel_rfl
theorem Rt:EnvOk E5:=HV Rs ⟨Tryz.call22⟩ ⟨⟨2000,Ol⟩,⟨2000,Om⟩,trivial⟩
def PN:List (List AV×AV):=[([.sl 5 exC,exG.headD .e0,(exG.drop 4).headD .e0,i4 0,i4 4],.tp [i4 2,i4 1])]
noncomputable def E6:Env:=E5.withX 15 (KK PN)
theorem Mz:B5 E5 2000 15 [.sl 5 exC,exG.headD .e0,(exG.drop 4).headD .e0,i4 0,i4 4]=some (.tp [i4 2,i4 1]):=by kernel_rfl
theorem Ru:EnvOk E6:=HV Rt ⟨Tryz.call15⟩ ⟨⟨2000,Mz⟩,trivial⟩
def NL:List (List AV×AV):=[([.sl 5 exC,.sl 9 exG],.sl 1 [i4 0,i4 1,i4 2])]
noncomputable def E7:Env:=E6.withX 24 (KK NL)
theorem K6:B5 E6 2000 24 [.sl 5 exC,.sl 9 exG]=some (.sl 1 [i4 0,i4 1,i4 2]):=by kernel_rfl
theorem Rv:EnvOk E7:=HV Ru ⟨Tryz.call24⟩ ⟨⟨2000,K6⟩,trivial⟩
def Qg:List (List AV×AV):=[([.sl 5 (exC.take 2),.sl 9 exG],.sl 1 [i4 2,i4 1,i4 0,i4 3,i4 2])]
noncomputable def E8:Env:=E7.withX 25 (KK Qg)
theorem Na:B5 E7 2000 25 [.sl 5 (exC.take 2),.sl 9 exG]=some (.sl 1 [i4 2,i4 1,i4 0,i4 3,i4 2]):=by kernel_rfl
theorem Rw:EnvOk E8:=HV Rv ⟨Tryz.call25⟩ ⟨⟨2000,Na⟩,trivial⟩
def PL:List (List AV×AV):=[([.sl 5 (exC.drop 1)],.st [])]
noncomputable def E9:Env:=E8.withX 10 (KK PL)
theorem My:B5 E8 2000 10 [.sl 5 (exC.drop 1)]=some (.st []):=by kernel_rfl
theorem Rx:EnvOk E9:=HV Rw ⟨Tryz.call10⟩ ⟨⟨2000,My⟩,trivial⟩
def RZ:List (List AV×AV):=[([.sl 5 exC,.sl 5 exC],.v (.bool true))]
noncomputable def E10:Env:=E9.withX 12 (KK RZ)
theorem On:B5 E9 2000 12 [.sl 5 exC,.sl 5 exC]=some (.v (.bool true)):=by kernel_rfl
theorem Qu:EnvOk E10:=HV Rx ⟨Tryz.call12⟩ ⟨⟨2000,On⟩,trivial⟩
def LW:List (List AV×AV):=[([.sl 1 [i4 2,i4 1,i4 0,i4 3,i4 2],.sl 1 [i4 0,i4 1,i4 2,i4 3,i4 4]],i4 4)]
noncomputable def E11:Env:=E10.withX 26 (KK LW)
theorem Jn:B5 E10 2000 26 [.sl 1 [i4 2,i4 1,i4 0,i4 3,i4 2],.sl 1 [i4 0,i4 1,i4 2,i4 3,i4 4]]=some (i4 4):=by kernel_rfl
theorem Qv:EnvOk E11:=HV Qu ⟨Tryz.call26⟩ ⟨⟨2000,Jn⟩,trivial⟩
def OQ:List (List AV×AV):=[([],.tp [.sl 5 exC,.sl 9 exG])]
noncomputable def E12:Env:=E11.withX 21 (KK OQ)
theorem Lj:B5 E11 2000 21 []=some (.tp [.sl 5 exC,.sl 9 exG]):=by kernel_rfl
theorem Qw:EnvOk E12:=HV Qv ⟨Tryz.call21⟩ ⟨⟨2000,Lj⟩,trivial⟩
def OR:List (List AV×AV):=[([.st exT],.tp [.sl 5 exC,i4 0,i4 0])]
theorem Nb:dfX E1 3000 Tryz.f11 32 2 [.st exT]=some (.tp [.sl 5 exC,i4 0,i4 0]):=by kernel_rfl
theorem OY:EnvOk (E1.withX 11 (KK OR)):=Qe Rq fun p hp=>by
 rw [List.mem_singleton.1 hp]; exact Nb
noncomputable def E13:Env:=E12.withX 11 (KK OR)
theorem Qx:EnvOk E13:=PS Qw OY rfl rfl
end Go.Proofs.YtdjhmdbpcfnpgaaGreatDoor
