/- Closed facts of this seat: what the numbers of types and functions stand for. By a program of mine. -/
import Derived.Test.YthofgamegondnaaDoorProg
import Derived.Test.YthofgamegondnaaDoorRep
namespace Go.Proofs.YthofgamegondnaaDoor
open Go.RowKit
theorem ty2 : Ty Tryd.prog 2 (.int .i64) 1 8 (.int .i64 0) := ⟨by kernel_rfl, by kernel_rfl⟩
theorem ty3 : Ty Tryd.prog 3 (.int .i64) 1 8 (.int .i64 0) := ⟨by kernel_rfl, by kernel_rfl⟩
theorem ty4 : Ty Tryd.prog 4 (.bool) 1 1 (.bool false) := ⟨by kernel_rfl, by kernel_rfl⟩
theorem ty5 : Ty Tryd.prog 5 (.int .u8) 1 1 (.int .u8 0) := ⟨by kernel_rfl, by kernel_rfl⟩
theorem ty6 : Ty Tryd.prog 6 (.int .u8) 1 1 (.int .u8 0) := ⟨by kernel_rfl, by kernel_rfl⟩
noncomputable def fs7 : Array Field := match Tryd.prog.underlying 7 with | some (.struct fs) => fs | _ => #[]
theorem ty7 : Ty Tryd.prog 7 (.struct fs7) 4 24 (.agg #[.int .i64 0, .int .i64 0, .bool false, .int .u8 0]) := ⟨by kernel_rfl, by kernel_rfl⟩
noncomputable def fs8 : Array Field := match Tryd.prog.underlying 8 with | some (.struct fs) => fs | _ => #[]
theorem ty8 : Ty Tryd.prog 8 (.struct fs8) 4 24 (.agg #[.int .i64 0, .int .i64 0, .bool false, .int .u8 0]) := ⟨by kernel_rfl, by kernel_rfl⟩
theorem ty9 : Ty Tryd.prog 9 (.string) 1 16 (.string ⟨#[]⟩) := ⟨by kernel_rfl, by kernel_rfl⟩
theorem ty10 : Ty Tryd.prog 10 (.string) 1 16 (.string ⟨#[]⟩) := ⟨by kernel_rfl, by kernel_rfl⟩
theorem ty11 : Ty Tryd.prog 11 (.string) 1 16 (.string ⟨#[]⟩) := ⟨by kernel_rfl, by kernel_rfl⟩
theorem ty12 : Ty Tryd.prog 12 (.int .u64) 1 8 (.int .u64 0) := ⟨by kernel_rfl, by kernel_rfl⟩
noncomputable def fs13 : Array Field := match Tryd.prog.underlying 13 with | some (.struct fs) => fs | _ => #[]
theorem ty13 : Ty Tryd.prog 13 (.struct fs13) 2 24 (.agg #[.string ⟨#[]⟩, .int .u64 0]) := ⟨by kernel_rfl, by kernel_rfl⟩
noncomputable def fs14 : Array Field := match Tryd.prog.underlying 14 with | some (.struct fs) => fs | _ => #[]
theorem ty14 : Ty Tryd.prog 14 (.struct fs14) 2 24 (.agg #[.string ⟨#[]⟩, .int .u64 0]) := ⟨by kernel_rfl, by kernel_rfl⟩
theorem ty15 : Ty Tryd.prog 15 (.pointer 155) 1 8 (.pointer none) := ⟨by kernel_rfl, by kernel_rfl⟩
theorem ty16 : Ty Tryd.prog 16 (.pointer 158) 1 8 (.pointer none) := ⟨by kernel_rfl, by kernel_rfl⟩
theorem ty17 : Ty Tryd.prog 17 (.pointer 166) 1 8 (.pointer none) := ⟨by kernel_rfl, by kernel_rfl⟩
noncomputable def fs18 : Array Field := match Tryd.prog.underlying 18 with | some (.struct fs) => fs | _ => #[]
theorem ty18 : Ty Tryd.prog 18 (.struct fs18) 1 8 (.agg #[.pointer none]) := ⟨by kernel_rfl, by kernel_rfl⟩
noncomputable def fs19 : Array Field := match Tryd.prog.underlying 19 with | some (.struct fs) => fs | _ => #[]
theorem ty19 : Ty Tryd.prog 19 (.struct fs19) 1 8 (.agg #[.pointer none]) := ⟨by kernel_rfl, by kernel_rfl⟩
theorem ty21 : Ty Tryd.prog 21 (.int .i32) 1 4 (.int .i32 0) := ⟨by kernel_rfl, by kernel_rfl⟩
theorem ty24 : Ty Tryd.prog 24 (.slice 3) 1 24 (.slice none 0 0) := ⟨by kernel_rfl, by kernel_rfl⟩
theorem ty29 : Ty Tryd.prog 29 (.slice 49) 1 24 (.slice none 0 0) := ⟨by kernel_rfl, by kernel_rfl⟩
theorem ty37 : Ty Tryd.prog 37 (.int .i64) 1 8 (.int .i64 0) := ⟨by kernel_rfl, by kernel_rfl⟩
theorem ty49 : Ty Tryd.prog 49 (.slice 24) 1 24 (.slice none 0 0) := ⟨by kernel_rfl, by kernel_rfl⟩
theorem ty52 : Ty Tryd.prog 52 (.slice 5) 1 24 (.slice none 0 0) := ⟨by kernel_rfl, by kernel_rfl⟩
theorem ty53 : Ty Tryd.prog 53 (.slice 99) 1 24 (.slice none 0 0) := ⟨by kernel_rfl, by kernel_rfl⟩
noncomputable def fs71 : Array Field := match Tryd.prog.underlying 71 with | some (.struct fs) => fs | _ => #[]
theorem ty71 : Ty Tryd.prog 71 (.struct fs71) 3 40 (.agg #[.int .i64 0, .int .i64 0, .slice none 0 0]) := ⟨by kernel_rfl, by kernel_rfl⟩
noncomputable def fs72 : Array Field := match Tryd.prog.underlying 72 with | some (.struct fs) => fs | _ => #[]
theorem ty72 : Ty Tryd.prog 72 (.struct fs72) 3 40 (.agg #[.int .i64 0, .int .i64 0, .slice none 0 0]) := ⟨by kernel_rfl, by kernel_rfl⟩
theorem ty76 : Ty Tryd.prog 76 (.pointer 78) 1 8 (.pointer none) := ⟨by kernel_rfl, by kernel_rfl⟩
noncomputable def fs77 : Array Field := match Tryd.prog.underlying 77 with | some (.struct fs) => fs | _ => #[]
theorem ty77 : Ty Tryd.prog 77 (.struct fs77) 2 32 (.agg #[.pointer none, .slice none 0 0]) := ⟨by kernel_rfl, by kernel_rfl⟩
noncomputable def fs78 : Array Field := match Tryd.prog.underlying 78 with | some (.struct fs) => fs | _ => #[]
theorem ty78 : Ty Tryd.prog 78 (.struct fs78) 2 32 (.agg #[.pointer none, .slice none 0 0]) := ⟨by kernel_rfl, by kernel_rfl⟩
noncomputable def fs94 : Array Field := match Tryd.prog.underlying 94 with | some (.struct fs) => fs | _ => #[]
theorem ty94 : Ty Tryd.prog 94 (.struct fs94) 2 32 (.agg #[.int .i64 0, .slice none 0 0]) := ⟨by kernel_rfl, by kernel_rfl⟩
noncomputable def fs95 : Array Field := match Tryd.prog.underlying 95 with | some (.struct fs) => fs | _ => #[]
theorem ty95 : Ty Tryd.prog 95 (.struct fs95) 2 32 (.agg #[.int .i64 0, .slice none 0 0]) := ⟨by kernel_rfl, by kernel_rfl⟩
theorem ty99 : Ty Tryd.prog 99 (.slice 100) 1 24 (.slice none 0 0) := ⟨by kernel_rfl, by kernel_rfl⟩
theorem ty100 : Ty Tryd.prog 100 (.array 2 5) 2 2 (.agg #[.int .u8 0, .int .u8 0]) := ⟨by kernel_rfl, by kernel_rfl⟩
theorem ty104 : Ty Tryd.prog 104 (.pointer 3) 1 8 (.pointer none) := ⟨by kernel_rfl, by kernel_rfl⟩
theorem ty107 : Ty Tryd.prog 107 (.int .u64) 1 8 (.int .u64 0) := ⟨by kernel_rfl, by kernel_rfl⟩
theorem ty114 : Ty Tryd.prog 114 (.slice 29) 1 24 (.slice none 0 0) := ⟨by kernel_rfl, by kernel_rfl⟩
theorem ty128 : Ty Tryd.prog 128 (.pointer 5) 1 8 (.pointer none) := ⟨by kernel_rfl, by kernel_rfl⟩
theorem ty129 : Ty Tryd.prog 129 (.slice 4) 1 24 (.slice none 0 0) := ⟨by kernel_rfl, by kernel_rfl⟩
theorem ty130 : Ty Tryd.prog 130 (.int .u32) 1 4 (.int .u32 0) := ⟨by kernel_rfl, by kernel_rfl⟩
theorem ty133 : Ty Tryd.prog 133 (.int .u64) 1 8 (.int .u64 0) := ⟨by kernel_rfl, by kernel_rfl⟩
theorem ty139 : Ty Tryd.prog 139 (.unsafePointer) 1 8 (.pointer none) := ⟨by kernel_rfl, by kernel_rfl⟩
noncomputable def fs154 : Array Field := match Tryd.prog.underlying 154 with | some (.struct fs) => fs | _ => #[]
theorem ty154 : Ty Tryd.prog 154 (.struct fs154) 4 40 (.agg #[.pointer none, .pointer none, .pointer none, .string ⟨#[]⟩]) := ⟨by kernel_rfl, by kernel_rfl⟩
noncomputable def fs155 : Array Field := match Tryd.prog.underlying 155 with | some (.struct fs) => fs | _ => #[]
theorem ty155 : Ty Tryd.prog 155 (.struct fs155) 4 40 (.agg #[.pointer none, .pointer none, .pointer none, .string ⟨#[]⟩]) := ⟨by kernel_rfl, by kernel_rfl⟩
theorem ty156 : Ty Tryd.prog 156 (.array 0 16) 0 0 (.agg #[]) := ⟨by kernel_rfl, by kernel_rfl⟩
noncomputable def fs157 : Array Field := match Tryd.prog.underlying 157 with | some (.struct fs) => fs | _ => #[]
theorem ty157 : Ty Tryd.prog 157 (.struct fs157) 0 0 (.agg #[]) := ⟨by kernel_rfl, by kernel_rfl⟩
noncomputable def fs158 : Array Field := match Tryd.prog.underlying 158 with | some (.struct fs) => fs | _ => #[]
theorem ty158 : Ty Tryd.prog 158 (.struct fs158) 0 0 (.agg #[]) := ⟨by kernel_rfl, by kernel_rfl⟩
theorem ty160 : Ty Tryd.prog 160 (.int .u8) 1 1 (.int .u8 0) := ⟨by kernel_rfl, by kernel_rfl⟩
theorem ty161 : Ty Tryd.prog 161 (.int .u8) 1 1 (.int .u8 0) := ⟨by kernel_rfl, by kernel_rfl⟩
theorem ty163 : Ty Tryd.prog 163 (.int .i32) 1 4 (.int .i32 0) := ⟨by kernel_rfl, by kernel_rfl⟩
theorem ty164 : Ty Tryd.prog 164 (.int .i32) 1 4 (.int .i32 0) := ⟨by kernel_rfl, by kernel_rfl⟩
noncomputable def fs165 : Array Field := match Tryd.prog.underlying 165 with | some (.struct fs) => fs | _ => #[]
theorem ty165 : Ty Tryd.prog 165 (.struct fs165) 11 48 (.agg #[.int .u64 0, .int .u64 0, .int .u32 0, .int .u8 0, .int .u8 0, .int .u8 0, .int .u8 0, .nilFunc, .pointer none, .int .i32 0, .int .i32 0]) := ⟨by kernel_rfl, by kernel_rfl⟩
noncomputable def fs166 : Array Field := match Tryd.prog.underlying 166 with | some (.struct fs) => fs | _ => #[]
theorem ty166 : Ty Tryd.prog 166 (.struct fs166) 11 48 (.agg #[.int .u64 0, .int .u64 0, .int .u32 0, .int .u8 0, .int .u8 0, .int .u8 0, .int .u8 0, .nilFunc, .pointer none, .int .i32 0, .int .i32 0]) := ⟨by kernel_rfl, by kernel_rfl⟩
theorem pl7 : ∀ w : World, (fs7.mapM (fun f => do pure (f.offset, ← sizeOf f.type)) : Sem (Array (Nat × Nat))).run Tryd.prog w = .ok #[(0, 1), (1, 1), (2, 1), (3, 1)] w := fun w => by kernel_rfl
theorem pl8 : ∀ w : World, (fs8.mapM (fun f => do pure (f.offset, ← sizeOf f.type)) : Sem (Array (Nat × Nat))).run Tryd.prog w = .ok #[(0, 1), (1, 1), (2, 1), (3, 1)] w := fun w => by kernel_rfl
theorem pl13 : ∀ w : World, (fs13.mapM (fun f => do pure (f.offset, ← sizeOf f.type)) : Sem (Array (Nat × Nat))).run Tryd.prog w = .ok #[(0, 1), (1, 1)] w := fun w => by kernel_rfl
theorem pl14 : ∀ w : World, (fs14.mapM (fun f => do pure (f.offset, ← sizeOf f.type)) : Sem (Array (Nat × Nat))).run Tryd.prog w = .ok #[(0, 1), (1, 1)] w := fun w => by kernel_rfl
theorem pl18 : ∀ w : World, (fs18.mapM (fun f => do pure (f.offset, ← sizeOf f.type)) : Sem (Array (Nat × Nat))).run Tryd.prog w = .ok #[(0, 1)] w := fun w => by kernel_rfl
theorem pl19 : ∀ w : World, (fs19.mapM (fun f => do pure (f.offset, ← sizeOf f.type)) : Sem (Array (Nat × Nat))).run Tryd.prog w = .ok #[(0, 1)] w := fun w => by kernel_rfl
theorem pl71 : ∀ w : World, (fs71.mapM (fun f => do pure (f.offset, ← sizeOf f.type)) : Sem (Array (Nat × Nat))).run Tryd.prog w = .ok #[(0, 1), (1, 1), (2, 1)] w := fun w => by kernel_rfl
theorem pl72 : ∀ w : World, (fs72.mapM (fun f => do pure (f.offset, ← sizeOf f.type)) : Sem (Array (Nat × Nat))).run Tryd.prog w = .ok #[(0, 1), (1, 1), (2, 1)] w := fun w => by kernel_rfl
theorem pl77 : ∀ w : World, (fs77.mapM (fun f => do pure (f.offset, ← sizeOf f.type)) : Sem (Array (Nat × Nat))).run Tryd.prog w = .ok #[(0, 1), (1, 1)] w := fun w => by kernel_rfl
theorem pl78 : ∀ w : World, (fs78.mapM (fun f => do pure (f.offset, ← sizeOf f.type)) : Sem (Array (Nat × Nat))).run Tryd.prog w = .ok #[(0, 1), (1, 1)] w := fun w => by kernel_rfl
theorem pl94 : ∀ w : World, (fs94.mapM (fun f => do pure (f.offset, ← sizeOf f.type)) : Sem (Array (Nat × Nat))).run Tryd.prog w = .ok #[(0, 1), (1, 1)] w := fun w => by kernel_rfl
theorem pl95 : ∀ w : World, (fs95.mapM (fun f => do pure (f.offset, ← sizeOf f.type)) : Sem (Array (Nat × Nat))).run Tryd.prog w = .ok #[(0, 1), (1, 1)] w := fun w => by kernel_rfl
theorem pl154 : ∀ w : World, (fs154.mapM (fun f => do pure (f.offset, ← sizeOf f.type)) : Sem (Array (Nat × Nat))).run Tryd.prog w = .ok #[(0, 1), (1, 1), (2, 1), (3, 1)] w := fun w => by kernel_rfl
theorem pl155 : ∀ w : World, (fs155.mapM (fun f => do pure (f.offset, ← sizeOf f.type)) : Sem (Array (Nat × Nat))).run Tryd.prog w = .ok #[(0, 1), (1, 1), (2, 1), (3, 1)] w := fun w => by kernel_rfl
theorem pl157 : ∀ w : World, (fs157.mapM (fun f => do pure (f.offset, ← sizeOf f.type)) : Sem (Array (Nat × Nat))).run Tryd.prog w = .ok #[(0, 0)] w := fun w => by kernel_rfl
theorem pl158 : ∀ w : World, (fs158.mapM (fun f => do pure (f.offset, ← sizeOf f.type)) : Sem (Array (Nat × Nat))).run Tryd.prog w = .ok #[(0, 0)] w := fun w => by kernel_rfl
theorem pl165 : ∀ w : World, (fs165.mapM (fun f => do pure (f.offset, ← sizeOf f.type)) : Sem (Array (Nat × Nat))).run Tryd.prog w = .ok #[(0, 1), (1, 1), (2, 1), (3, 1), (4, 1), (5, 1), (6, 1), (7, 1), (8, 1), (9, 1), (10, 1)] w := fun w => by kernel_rfl
theorem pl166 : ∀ w : World, (fs166.mapM (fun f => do pure (f.offset, ← sizeOf f.type)) : Sem (Array (Nat × Nat))).run Tryd.prog w = .ok #[(0, 1), (1, 1), (2, 1), (3, 1), (4, 1), (5, 1), (6, 1), (7, 1), (8, 1), (9, 1), (10, 1)] w := fun w => by kernel_rfl
theorem C2 : Callable Tryd.prog 2 := ⟨Tryd.call2⟩
theorem C3 : Callable Tryd.prog 3 := ⟨Tryd.call3⟩
theorem C4 : Callable Tryd.prog 4 := ⟨Tryd.call4⟩
theorem C5 : Callable Tryd.prog 5 := ⟨Tryd.call5⟩
theorem C6 : Callable Tryd.prog 6 := ⟨Tryd.call6⟩
theorem C7 : Callable Tryd.prog 7 := ⟨Tryd.call7⟩
theorem C8 : Callable Tryd.prog 8 := ⟨Tryd.call8⟩
theorem C9 : Callable Tryd.prog 9 := ⟨Tryd.call9⟩
theorem C10 : Callable Tryd.prog 10 := ⟨Tryd.call10⟩
theorem C11 : Callable Tryd.prog 11 := ⟨Tryd.call11⟩
theorem C12 : Callable Tryd.prog 12 := ⟨Tryd.call12⟩
theorem C13 : Callable Tryd.prog 13 := ⟨Tryd.call13⟩
theorem C14 : Callable Tryd.prog 14 := ⟨Tryd.call14⟩
theorem C15 : Callable Tryd.prog 15 := ⟨Tryd.call15⟩
theorem C16 : Callable Tryd.prog 16 := ⟨Tryd.call16⟩
theorem C17 : Callable Tryd.prog 17 := ⟨Tryd.call17⟩
theorem C18 : Callable Tryd.prog 18 := ⟨Tryd.call18⟩
theorem C19 : Callable Tryd.prog 19 := ⟨Tryd.call19⟩
theorem C20 : Callable Tryd.prog 20 := ⟨Tryd.call20⟩
theorem C21 : Callable Tryd.prog 21 := ⟨Tryd.call21⟩
theorem C22 : Callable Tryd.prog 22 := ⟨Tryd.call22⟩
theorem C23 : Callable Tryd.prog 23 := ⟨Tryd.call23⟩
theorem C24 : Callable Tryd.prog 24 := ⟨Tryd.call24⟩
theorem C25 : Callable Tryd.prog 25 := ⟨Tryd.call25⟩
theorem C26 : Callable Tryd.prog 26 := ⟨Tryd.call26⟩
theorem C27 : Callable Tryd.prog 27 := ⟨Tryd.call27⟩
theorem C28 : Callable Tryd.prog 28 := ⟨Tryd.call28⟩
theorem C29 : Callable Tryd.prog 29 := ⟨Tryd.call29⟩
theorem C30 : Callable Tryd.prog 30 := ⟨Tryd.call30⟩
theorem C31 : Callable Tryd.prog 31 := ⟨Tryd.call31⟩
theorem C32 : Callable Tryd.prog 32 := ⟨Tryd.call32⟩
theorem C33 : Callable Tryd.prog 33 := ⟨Tryd.call33⟩
theorem C34 : Callable Tryd.prog 34 := ⟨Tryd.call34⟩
theorem C35 : Callable Tryd.prog 35 := ⟨Tryd.call35⟩
theorem C36 : Callable Tryd.prog 36 := ⟨Tryd.call36⟩
theorem C37 : Callable Tryd.prog 37 := ⟨Tryd.call37⟩
theorem C38 : Callable Tryd.prog 38 := ⟨Tryd.call38⟩
theorem C39 : Callable Tryd.prog 39 := ⟨Tryd.call39⟩
theorem C40 : Callable Tryd.prog 40 := ⟨Tryd.call40⟩
theorem C41 : Callable Tryd.prog 41 := ⟨Tryd.call41⟩
theorem C42 : Callable Tryd.prog 42 := ⟨Tryd.call42⟩
theorem C43 : Callable Tryd.prog 43 := ⟨Tryd.call43⟩
theorem C44 : Callable Tryd.prog 44 := ⟨Tryd.call44⟩
theorem C45 : Callable Tryd.prog 45 := ⟨Tryd.call45⟩
theorem C46 : Callable Tryd.prog 46 := ⟨Tryd.call46⟩
theorem C47 : Callable Tryd.prog 47 := ⟨Tryd.call47⟩
theorem C48 : Callable Tryd.prog 48 := ⟨Tryd.call48⟩
theorem C49 : Callable Tryd.prog 49 := ⟨Tryd.call49⟩
theorem C50 : Callable Tryd.prog 50 := ⟨Tryd.call50⟩
theorem C51 : Callable Tryd.prog 51 := ⟨Tryd.call51⟩
theorem C52 : Callable Tryd.prog 52 := ⟨Tryd.call52⟩
theorem C53 : Callable Tryd.prog 53 := ⟨Tryd.call53⟩
theorem C54 : Callable Tryd.prog 54 := ⟨Tryd.call54⟩
theorem C55 : Callable Tryd.prog 55 := ⟨Tryd.call55⟩
theorem C56 : Callable Tryd.prog 56 := ⟨Tryd.call56⟩
theorem C57 : Callable Tryd.prog 57 := ⟨Tryd.call57⟩
theorem C58 : Callable Tryd.prog 58 := ⟨Tryd.call58⟩
theorem C59 : Callable Tryd.prog 59 := ⟨Tryd.call59⟩
theorem C60 : Callable Tryd.prog 60 := ⟨Tryd.call60⟩
theorem C61 : Callable Tryd.prog 61 := ⟨Tryd.call61⟩
theorem C62 : Callable Tryd.prog 62 := ⟨Tryd.call62⟩
theorem C63 : Callable Tryd.prog 63 := ⟨Tryd.call63⟩
theorem C64 : Callable Tryd.prog 64 := ⟨Tryd.call64⟩
theorem C65 : Callable Tryd.prog 65 := ⟨Tryd.call65⟩
theorem C66 : Callable Tryd.prog 66 := ⟨Tryd.call66⟩
theorem C67 : Callable Tryd.prog 67 := ⟨Tryd.call67⟩
theorem C68 : Callable Tryd.prog 68 := ⟨Tryd.call68⟩
theorem C69 : Callable Tryd.prog 69 := ⟨Tryd.call69⟩
theorem C70 : Callable Tryd.prog 70 := ⟨Tryd.call70⟩
theorem C71 : Callable Tryd.prog 71 := ⟨Tryd.call71⟩
theorem C72 : Callable Tryd.prog 72 := ⟨Tryd.call72⟩
theorem C73 : Callable Tryd.prog 73 := ⟨Tryd.call73⟩
theorem C74 : Callable Tryd.prog 74 := ⟨Tryd.call74⟩
theorem C75 : Callable Tryd.prog 75 := ⟨Tryd.call75⟩
theorem C76 : Callable Tryd.prog 76 := ⟨Tryd.call76⟩
theorem C77 : Callable Tryd.prog 77 := ⟨Tryd.call77⟩
theorem C78 : Callable Tryd.prog 78 := ⟨Tryd.call78⟩
theorem C79 : Callable Tryd.prog 79 := ⟨Tryd.call79⟩
theorem C80 : Callable Tryd.prog 80 := ⟨Tryd.call80⟩
theorem C81 : Callable Tryd.prog 81 := ⟨Tryd.call81⟩
theorem C82 : Callable Tryd.prog 82 := ⟨Tryd.call82⟩
theorem C83 : Callable Tryd.prog 83 := ⟨Tryd.call83⟩
theorem C84 : Callable Tryd.prog 84 := ⟨Tryd.call84⟩
theorem C85 : Callable Tryd.prog 85 := ⟨Tryd.call85⟩
theorem C86 : Callable Tryd.prog 86 := ⟨Tryd.call86⟩
theorem C87 : Callable Tryd.prog 87 := ⟨Tryd.call87⟩
theorem C88 : Callable Tryd.prog 88 := ⟨Tryd.call88⟩
theorem C89 : Callable Tryd.prog 89 := ⟨Tryd.call89⟩
theorem C90 : Callable Tryd.prog 90 := ⟨Tryd.call90⟩
theorem C91 : Callable Tryd.prog 91 := ⟨Tryd.call91⟩
theorem C92 : Callable Tryd.prog 92 := ⟨Tryd.call92⟩
theorem C93 : Callable Tryd.prog 93 := ⟨Tryd.call93⟩
theorem C94 : Callable Tryd.prog 94 := ⟨Tryd.call94⟩
theorem C95 : Callable Tryd.prog 95 := ⟨Tryd.call95⟩
theorem C96 : Callable Tryd.prog 96 := ⟨Tryd.call96⟩
theorem C97 : Callable Tryd.prog 97 := ⟨Tryd.call97⟩
theorem C98 : Callable Tryd.prog 98 := ⟨Tryd.call98⟩
theorem C99 : Callable Tryd.prog 99 := ⟨Tryd.call99⟩
theorem C100 : Callable Tryd.prog 100 := ⟨Tryd.call100⟩
theorem C101 : Callable Tryd.prog 101 := ⟨Tryd.call101⟩
theorem C102 : Callable Tryd.prog 102 := ⟨Tryd.call102⟩
theorem C103 : Callable Tryd.prog 103 := ⟨Tryd.call103⟩
theorem C104 : Callable Tryd.prog 104 := ⟨Tryd.call104⟩
theorem C105 : Callable Tryd.prog 105 := ⟨Tryd.call105⟩
theorem C106 : Callable Tryd.prog 106 := ⟨Tryd.call106⟩
theorem C107 : Callable Tryd.prog 107 := ⟨Tryd.call107⟩
theorem C108 : Callable Tryd.prog 108 := ⟨Tryd.call108⟩
theorem C109 : Callable Tryd.prog 109 := ⟨Tryd.call109⟩
theorem C110 : Callable Tryd.prog 110 := ⟨Tryd.call110⟩
theorem C111 : Callable Tryd.prog 111 := ⟨Tryd.call111⟩
theorem C112 : Callable Tryd.prog 112 := ⟨Tryd.call112⟩
theorem C113 : Callable Tryd.prog 113 := ⟨Tryd.call113⟩
theorem C114 : Callable Tryd.prog 114 := ⟨Tryd.call114⟩
theorem C115 : Callable Tryd.prog 115 := ⟨Tryd.call115⟩
theorem C117 : Callable Tryd.prog 117 := ⟨Tryd.call117⟩
theorem C118 : Callable Tryd.prog 118 := ⟨Tryd.call118⟩
theorem C119 : Callable Tryd.prog 119 := ⟨Tryd.call119⟩
theorem C120 : Callable Tryd.prog 120 := ⟨Tryd.call120⟩
theorem C121 : Callable Tryd.prog 121 := ⟨Tryd.call121⟩
theorem C122 : Callable Tryd.prog 122 := ⟨Tryd.call122⟩
theorem C123 : Callable Tryd.prog 123 := ⟨Tryd.call123⟩
theorem C124 : Callable Tryd.prog 124 := ⟨Tryd.call124⟩
theorem C125 : Callable Tryd.prog 125 := ⟨Tryd.call125⟩
theorem C126 : Callable Tryd.prog 126 := ⟨Tryd.call126⟩
theorem C127 : Callable Tryd.prog 127 := ⟨Tryd.call127⟩
theorem C128 : Callable Tryd.prog 128 := ⟨Tryd.call128⟩
theorem C129 : Callable Tryd.prog 129 := ⟨Tryd.call129⟩
theorem C130 : Callable Tryd.prog 130 := ⟨Tryd.call130⟩
theorem C153 : Callable Tryd.prog 153 := ⟨Tryd.call153⟩
end Go.Proofs.YthofgamegondnaaDoor
