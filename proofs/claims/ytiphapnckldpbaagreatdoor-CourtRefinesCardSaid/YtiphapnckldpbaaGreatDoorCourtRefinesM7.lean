/- Lemmas for the proof. -/
import Derived.Test.YtiphapnckldpbaaGreatDoorCourtRefinesM1
import Derived.Test.YtiphapnckldpbaaGreatDoorCourtRefinesM2
import Derived.Test.YtiphapnckldpbaaGreatDoorCourtRefinesM3
import Derived.Test.YtiphapnckldpbaaGreatDoorCourtRefinesM4
import Derived.Test.YtiphapnckldpbaaGreatDoorCourtRefinesM5
import Derived.Test.YtiphapnckldpbaaGreatDoorCourtRefinesM6
namespace Go.Proofs.YtiphapnckldpbaaGreatDoor
open Go.RowKit
def exO : List AV := [.fn 154 [] [.pe (.ag [.v (.int .u8 1), .st [], .v (.bool false), .sl 1 [.st [100, 117, 107, 101], .st [99, 111, 117, 110, 116]], .v (.int .i64 0)]) 0, .pe (.fn 187 [] [.pe (.fn 164 [] [.pe (.ag [.v (.int .u8 1), .st [], .v (.bool false), .sl 1 [.st [100, 117, 107, 101], .st [99, 111, 117, 110, 116]], .v (.int .i64 0)]) 0]) 0]) 0], .fn 154 [] [.pe (.ag [.v (.int .u8 2), .st [100, 117, 107, 101], .v (.bool false), .e0, .v (.int .i64 0)]) 0, .pe (.fn 165 [] [.pe (.ag [.v (.int .u8 2), .st [100, 117, 107, 101], .v (.bool false), .e0, .v (.int .i64 0)]) 0]) 0], .fn 154 [] [.pe (.ag [.v (.int .u8 4), .st [], .v (.bool false), .e0, .v (.int .i64 1)]) 0, .pe (.fn 187 [] [.pe (.fn 188 [] [.pe (.fn 169 [] [.pe (.ag [.v (.int .u8 4), .st [], .v (.bool false), .e0, .v (.int .i64 1)]) 0]) 0, .pe (.ag [.v (.int .u8 4), .st [], .v (.bool false), .e0, .v (.int .i64 1)]) 0]) 0]) 0], .fn 154 [] [.pe (.ag [.v (.int .u8 8), .st [], .v (.bool false), .e0, .v (.int .i64 0)]) 0, .pe (.fn 174 [] []) 0]]
def tbCheck : List (List AV × AV) := [([.sl 5 exC], .tp [i4 0, i4 0]), ([.sl 5 (exC.take 2)], .tp [i4 0, i4 0]), ([.sl 5 (exC.drop 1)], .tp [i4 0, i4 31])]
noncomputable def E3 : Env := E1.withX 52 (tabX tbCheck)
theorem check_1 : closedRes E1 2000 52 [.sl 5 exC] = some (.tp [i4 0, i4 0]) := by kernel_rfl
theorem check_2 : closedRes E1 2000 52 [.sl 5 (exC.take 2)] = some (.tp [i4 0, i4 0]) := by kernel_rfl
theorem check_3 : closedRes E1 2000 52 [.sl 5 (exC.drop 1)] = some (.tp [i4 0, i4 31]) := by kernel_rfl
theorem E3_ok : EnvOk E3 := tab_ok E1_ok ⟨Tryz.call52⟩ ⟨⟨2000, check_1⟩, ⟨2000, check_2⟩, ⟨2000, check_3⟩, trivial⟩
def tbOrders : List (List AV × AV) := [([.sl 5 exC], .tp [.sl 1 exO, .v (.bool true)]), ([.sl 5 (exC.take 2)], .tp [.sl 1 (exO.take 2), .v (.bool true)])]
noncomputable def E4 : Env := E3.withX 89 (tabX tbOrders)
theorem orders_1 : closedRes E3 2000 89 [.sl 5 exC] = some (.tp [.sl 1 exO, .v (.bool true)]) := by kernel_rfl
theorem orders_2 : closedRes E3 2000 89 [.sl 5 (exC.take 2)] = some (.tp [.sl 1 (exO.take 2), .v (.bool true)]) := by kernel_rfl
theorem E4_ok : EnvOk E4 := tab_ok E3_ok ⟨Tryz.call89⟩ ⟨⟨2000, orders_1⟩, ⟨2000, orders_2⟩, trivial⟩
def tbLine : List (List AV × AV) := [([.sl 5 exC, .sl 9 exG], .tp [.sl 1 [i4 2, i4 1, i4 4, i4 0, i4 3], i4 0]), ([.sl 5 (exC.take 2), .sl 9 exG], .tp [.e0, i4 32])]
noncomputable def E5 : Env := E4.withX 38 (tabX tbLine)
theorem awLine_0 : closedRes E4 2000 38 [.sl 5 exC, .sl 9 exG] = some (.tp [.sl 1 [i4 2, i4 1, i4 4, i4 0, i4 3], i4 0]) := by kernel_rfl
theorem awLine_1 : closedRes E4 2000 38 [.sl 5 (exC.take 2), .sl 9 exG] = some (.tp [.e0, i4 32]) := by kernel_rfl
theorem E5_ok : EnvOk E5 := tab_ok E4_ok ⟨Tryz.call38⟩ ⟨⟨2000, awLine_0⟩, ⟨2000, awLine_1⟩, trivial⟩
def tbReason : List (List AV × AV) := [([.sl 5 exC, exG.headD .e0, (exG.drop 4).headD .e0, i4 0, i4 4], .tp [i4 2, i4 1])]
noncomputable def E6 : Env := E5.withX 33 (tabX tbReason)
theorem awReason_0 : closedRes E5 2000 33 [.sl 5 exC, exG.headD .e0, (exG.drop 4).headD .e0, i4 0, i4 4] = some (.tp [i4 2, i4 1]) := by kernel_rfl
theorem E6_ok : EnvOk E6 := tab_ok E5_ok ⟨Tryz.call33⟩ ⟨⟨2000, awReason_0⟩, trivial⟩
def tbDeciding : List (List AV × AV) := [([.sl 5 exC, .sl 9 exG], .sl 1 [i4 0, i4 1, i4 2])]
noncomputable def E7 : Env := E6.withX 55 (tabX tbDeciding)
theorem awDeciding_0 : closedRes E6 2000 55 [.sl 5 exC, .sl 9 exG] = some (.sl 1 [i4 0, i4 1, i4 2]) := by kernel_rfl
theorem E7_ok : EnvOk E7 := tab_ok E6_ok ⟨Tryz.call55⟩ ⟨⟨2000, awDeciding_0⟩, trivial⟩
def tbClass : List (List AV × AV) := [([.sl 5 (exC.take 2), .sl 9 exG], .sl 1 [i4 2, i4 1, i4 0, i4 3, i4 2])]
noncomputable def E8 : Env := E7.withX 37 (tabX tbClass)
theorem awClass_0 : closedRes E7 2000 37 [.sl 5 (exC.take 2), .sl 9 exG] = some (.sl 1 [i4 2, i4 1, i4 0, i4 3, i4 2]) := by kernel_rfl
theorem E8_ok : EnvOk E8 := tab_ok E7_ok ⟨Tryz.call37⟩ ⟨⟨2000, awClass_0⟩, trivial⟩
def tbFormat : List (List AV × AV) := [([.sl 5 (exC.drop 1)], .st [])]
noncomputable def E9 : Env := E8.withX 27 (tabX tbFormat)
theorem awFormat_0 : closedRes E8 2000 27 [.sl 5 (exC.drop 1)] = some (.st []) := by kernel_rfl
theorem E9_ok : EnvOk E9 := tab_ok E8_ok ⟨Tryz.call27⟩ ⟨⟨2000, awFormat_0⟩, trivial⟩
def tbSame : List (List AV × AV) := [([.sl 5 exC, .sl 5 exC], .v (.bool true))]
noncomputable def E10 : Env := E9.withX 29 (tabX tbSame)
theorem awSame_0 : closedRes E9 2000 29 [.sl 5 exC, .sl 5 exC] = some (.v (.bool true)) := by kernel_rfl
theorem E10_ok : EnvOk E10 := tab_ok E9_ok ⟨Tryz.call29⟩ ⟨⟨2000, awSame_0⟩, trivial⟩
def tbInversions : List (List AV × AV) := [([.sl 1 [i4 2, i4 1, i4 0, i4 3, i4 2], .sl 1 [i4 0, i4 1, i4 2, i4 3, i4 4]], i4 4)]
noncomputable def E11 : Env := E10.withX 21 (tabX tbInversions)
theorem awInversions_0 : closedRes E10 2000 21 [.sl 1 [i4 2, i4 1, i4 0, i4 3, i4 2], .sl 1 [i4 0, i4 1, i4 2, i4 3, i4 4]] = some (i4 4) := by kernel_rfl
theorem E11_ok : EnvOk E11 := tab_ok E10_ok ⟨Tryz.call21⟩ ⟨⟨2000, awInversions_0⟩, trivial⟩
def tbExample : List (List AV × AV) := [([], .tp [.sl 5 exC, .sl 9 exG])]
noncomputable def E12 : Env := E11.withX 54 (tabX tbExample)
theorem awExample_0 : closedRes E11 2000 54 [] = some (.tp [.sl 5 exC, .sl 9 exG]) := by kernel_rfl
theorem E12_ok : EnvOk E12 := tab_ok E11_ok ⟨Tryz.call54⟩ ⟨⟨2000, awExample_0⟩, trivial⟩
def tbParse : List (List AV × AV) := [([.st exT], .tp [.sl 5 exC, i4 0, i4 0])]
theorem awParse_0 : dfX E1 3000 Tryz.f28 75 2 [.st exT] = some (.tp [.sl 5 exC, i4 0, i4 0]) := by kernel_rfl
theorem x_awParse : EnvOk (E1.withX 28 (tabX tbParse)) := tabG_ok E2_ok fun p hp => by
 rw [List.mem_singleton.1 hp]; exact awParse_0
noncomputable def E13 : Env := E12.withX 28 (tabX tbParse)
theorem E13_ok : EnvOk E13 := withX_of E12_ok x_awParse rfl rfl
end Go.Proofs.YtiphapnckldpbaaGreatDoor
