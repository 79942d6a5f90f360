/- Lemmas for the proof. -/
import Derived.Test.YtlalcoehgkmhlaaGreatDoorCourtLeastM1
import Derived.Test.YtlalcoehgkmhlaaGreatDoorCourtLeastM2
import Derived.Test.YtlalcoehgkmhlaaGreatDoorCourtLeastM3
import Derived.Test.YtlalcoehgkmhlaaGreatDoorCourtLeastM4
import Derived.Test.YtlalcoehgkmhlaaGreatDoorCourtLeastM5
namespace Go.Proofs.YtlalcoehgkmhlaaGreatDoor
open Go.RowKit
def exO:List AV:=[.fn 165 [] [.pe (.ag [.v (.int .u8 1),.st [],.v (.bool false),.sl 1 [.st [100,117,107,101],.st [99,111,117,110,116]],.v (.int .i64 0)]) 0,.pe (.fn 205 [] [.pe (.fn 178 [] [.pe (.ag [.v (.int .u8 1),.st [],.v (.bool false),.sl 1 [.st [100,117,107,101],.st [99,111,117,110,116]],.v (.int .i64 0)]) 0]) 0]) 0],.fn 165 [] [.pe (.ag [.v (.int .u8 2),.st [100,117,107,101],.v (.bool false),.e0,.v (.int .i64 0)]) 0,.pe (.fn 179 [] [.pe (.ag [.v (.int .u8 2),.st [100,117,107,101],.v (.bool false),.e0,.v (.int .i64 0)]) 0]) 0],.fn 165 [] [.pe (.ag [.v (.int .u8 4),.st [],.v (.bool false),.e0,.v (.int .i64 1)]) 0,.pe (.fn 205 [] [.pe (.fn 206 [] [.pe (.fn 182 [] [.pe (.ag [.v (.int .u8 4),.st [],.v (.bool false),.e0,.v (.int .i64 1)]) 0]) 0,.pe (.ag [.v (.int .u8 4),.st [],.v (.bool false),.e0,.v (.int .i64 1)]) 0]) 0]) 0],.fn 165 [] [.pe (.ag [.v (.int .u8 8),.st [],.v (.bool false),.e0,.v (.int .i64 0)]) 0,.pe (.fn 187 [] []) 0]]
def V9:List (List AV×AV):=[([.sl 5 exC],.tp [i4 0,i4 0]),([.sl 5 (exC.take 2)],.tp [i4 0,i4 0]),([.sl 5 (exC.drop 1)],.tp [i4 0,i4 31])]
noncomputable def E3:Env:=E1.withX 80 (OQ V9)
theorem U7:BT E1 2000 80 [.sl 5 exC]=some (.tp [i4 0,i4 0]):=by kernel_rfl
theorem U8:BT E1 2000 80 [.sl 5 (exC.take 2)]=some (.tp [i4 0,i4 0]):=by kernel_rfl
theorem U9:BT E1 2000 80 [.sl 5 (exC.drop 1)]=some (.tp [i4 0,i4 31]):=by kernel_rfl
theorem Xx:EnvOk E3:=KZ WX ⟨Tryz.call80⟩ ⟨⟨2000,U7⟩,⟨2000,U8⟩,⟨2000,U9⟩,trivial⟩
def UP:List (List AV×AV):=[([.sl 5 exC],.tp [.sl 1 exO,.v (.bool true)]),([.sl 5 (exC.take 2)],.tp [.sl 1 (exO.take 2),.v (.bool true)])]
noncomputable def E4:Env:=E3.withX 75 (OQ UP)
theorem T9:BT E3 2000 75 [.sl 5 exC]=some (.tp [.sl 1 exO,.v (.bool true)]):=by kernel_rfl
theorem UA:BT E3 2000 75 [.sl 5 (exC.take 2)]=some (.tp [.sl 1 (exO.take 2),.v (.bool true)]):=by kernel_rfl
theorem Xy:EnvOk E4:=KZ Xx ⟨Tryz.call75⟩ ⟨⟨2000,T9⟩,⟨2000,UA⟩,trivial⟩
def XV:List (List AV×AV):=[([.sl 5 exC,.sl 9 exG],.tp [.sl 1 [i4 2,i4 1,i4 4,i4 0,i4 3],i4 0]),([.sl 5 (exC.take 2),.sl 9 exG],.tp [.e0,i4 32])]
noncomputable def E5:Env:=E4.withX 26 (OQ XV)
theorem TW:BT E4 2000 26 [.sl 5 exC,.sl 9 exG]=some (.tp [.sl 1 [i4 2,i4 1,i4 4,i4 0,i4 3],i4 0]):=by kernel_rfl
theorem TX:BT E4 2000 26 [.sl 5 (exC.take 2),.sl 9 exG]=some (.tp [.e0,i4 32]):=by kernel_rfl
theorem Xz:EnvOk E5:=KZ Xy ⟨Tryz.call26⟩ ⟨⟨2000,TW⟩,⟨2000,TX⟩,trivial⟩
def UQ:List (List AV×AV):=[([.sl 5 exC,exG.headD .e0,(exG.drop 4).headD .e0,i4 0,i4 4],.tp [i4 2,i4 1])]
noncomputable def E6:Env:=E5.withX 21 (OQ UQ)
theorem RY:BT E5 2000 21 [.sl 5 exC,exG.headD .e0,(exG.drop 4).headD .e0,i4 0,i4 4]=some (.tp [i4 2,i4 1]):=by kernel_rfl
theorem X0:EnvOk E6:=KZ Xz ⟨Tryz.call21⟩ ⟨⟨2000,RY⟩,trivial⟩
def Rv:List (List AV×AV):=[([.sl 5 exC,.sl 9 exG],.sl 1 [i4 0,i4 1,i4 2])]
noncomputable def E7:Env:=E6.withX 68 (OQ Rv)
theorem PI:BT E6 2000 68 [.sl 5 exC,.sl 9 exG]=some (.sl 1 [i4 0,i4 1,i4 2]):=by kernel_rfl
theorem X1:EnvOk E7:=KZ X0 ⟨Tryz.call68⟩ ⟨⟨2000,PI⟩,trivial⟩
def WA:List (List AV×AV):=[([.sl 5 (exC.take 2),.sl 9 exG],.sl 1 [i4 2,i4 1,i4 0,i4 3,i4 2])]
noncomputable def E8:Env:=E7.withX 25 (OQ WA)
theorem SC:BT E7 2000 25 [.sl 5 (exC.take 2),.sl 9 exG]=some (.sl 1 [i4 2,i4 1,i4 0,i4 3,i4 2]):=by kernel_rfl
theorem X2:EnvOk E8:=KZ X1 ⟨Tryz.call25⟩ ⟨⟨2000,SC⟩,trivial⟩
def UO:List (List AV×AV):=[([.sl 5 (exC.drop 1)],.st [])]
noncomputable def E9:Env:=E8.withX 73 (OQ UO)
theorem RX:BT E8 2000 73 [.sl 5 (exC.drop 1)]=some (.st []):=by kernel_rfl
theorem X3:EnvOk E9:=KZ X2 ⟨Tryz.call73⟩ ⟨⟨2000,RX⟩,trivial⟩
def XW:List (List AV×AV):=[([.sl 5 exC,.sl 5 exC],.v (.bool true))]
noncomputable def E10:Env:=E9.withX 69 (OQ XW)
theorem TY:BT E9 2000 69 [.sl 5 exC,.sl 5 exC]=some (.v (.bool true)):=by kernel_rfl
theorem WS:EnvOk E10:=KZ X3 ⟨Tryz.call69⟩ ⟨⟨2000,TY⟩,trivial⟩
def Py:List (List AV×AV):=[([.sl 1 [i4 2,i4 1,i4 0,i4 3,i4 2],.sl 1 [i4 0,i4 1,i4 2,i4 3,i4 4]],i4 4)]
noncomputable def E11:Env:=E10.withX 28 (OQ Py)
theorem Nn:BT E10 2000 28 [.sl 1 [i4 2,i4 1,i4 0,i4 3,i4 2],.sl 1 [i4 0,i4 1,i4 2,i4 3,i4 4]]=some (i4 4):=by kernel_rfl
theorem WU:EnvOk E11:=KZ WS ⟨Tryz.call28⟩ ⟨⟨2000,Nn⟩,trivial⟩
def TE:List (List AV×AV):=[([],.tp [.sl 5 exC,.sl 9 exG])]
noncomputable def E12:Env:=E11.withX 71 (OQ TE)
theorem QD:BT E11 2000 71 []=some (.tp [.sl 5 exC,.sl 9 exG]):=by kernel_rfl
theorem WV:EnvOk E12:=KZ WU ⟨Tryz.call71⟩ ⟨⟨2000,QD⟩,trivial⟩
def TG:List (List AV×AV):=[([.st exT],.tp [.sl 5 exC,i4 0,i4 0])]
theorem SD:dfX E1 3000 Tryz.f72 124 2 [.st exT]=some (.tp [.sl 5 exC,i4 0,i4 0]):=by kernel_rfl
theorem TN:EnvOk (E1.withX 72 (OQ TG)):=V8 Xw fun p hp=>by
 rw [List.mem_singleton.1 hp]; exact SD
noncomputable def E13:Env:=E12.withX 72 (OQ TG)
theorem WW:EnvOk E13:=UV WV TN rfl rfl
end Go.Proofs.YtlalcoehgkmhlaaGreatDoor
