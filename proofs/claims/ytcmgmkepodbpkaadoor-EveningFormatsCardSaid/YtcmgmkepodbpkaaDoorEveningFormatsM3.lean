/- Lemmas for the proof. -/
import Derived.Test.YtcmgmkepodbpkaaDoorEveningFormatsM1
import Derived.Test.YtcmgmkepodbpkaaDoorEveningFormatsM2
import Derived.Deep.Slices
import Derived.ChangeArms
import Derived.SizedLaws
import Derived.Test.YtcmgmkepodbpkaaDoorCards
import Derived.Test.YtcmgmkepodbpkaaDoorTie
import Derived.WalkKit
import Derived.ProofKit
import Derived.OpenShut
import Derived.Deep.DeepHandedRow
import Derived.Lib.LaidTab
import Derived.Test.YtcmgmkepodbpkaaDoorProg
set_option maxHeartbeats 4000000
set_option maxRecDepth 100000
namespace Go.Proofs.YtcmgmkepodbpkaaDoor
open Go.RowKit Go.ChangeShapes Go.WideShapes Go.Deep
def good64 (n : Int) : Prop := -9223372036854775808 ≤ n ∧ n ≤ 9223372036854775807
/-- What a reading of a cell says. -/
structure Rg {α : Type} (P : Program) (c : Cd α) (t : TypeId) (good : α → Prop) : Prop where
 rd : ∀ {H : Type} {enc : TypeId × Value → H} {w : World} {base : Nat} {spare : Nat → Bool} {held : Bool} {fuel : Nat} {v : Value} {x : DataW H × List MemPlace}, DataW.trod enc P w base spare held fuel t [v] = some x → (DataW.weights P t x.1).all (· ≤ reachBytes) = true → ∃ a, VR w (fun c => c < w.heap.size) [] (c.enc a) v ∧ good a ∧ v.oneCell' = true
theorem rd_int {P : Program} {t : TypeId} {k : IntKind} (ht : P.underlying t = some (.int k)) : Rg P (cdK k) t (fun n => (Lit.int k n).wf = true) := ⟨fun h _ => by
 obtain ⟨n, h1, _, h3⟩ := DataW.trod_int ht h
 injection h1 with h1
 subst h1
 exact ⟨n, .v rfl, h3, rfl⟩⟩
theorem rd_int64 {P : Program} {t : TypeId} (ht : P.underlying t = some (.int .i64)) : Rg P cdI t good64 := ⟨fun h hw => by
 obtain ⟨a, h1, h2, h3⟩ := (rd_int ht).rd h hw
 exact ⟨a, h1, bounds_i64 h2, h3⟩⟩
theorem oneCell_cells {v : Value} (h : v.oneCell' = true) : v.cells = #[v] := by cases v <;> first | rfl | (simp [Value.oneCell'] at h)
theorem spot_none {w : World} {a : Addr} {v : Value} (h : w.cell? (a.add 0) = some v) : a.spot = none := by
 cases hs : a.spot with
 | none => rfl
 | some s =>
  exfalso
  rw [show a.add 0 = a from rfl] at h
  unfold World.cell? at h
  split at h
  ·rw [if_pos (by rw [hs]; rfl)] at h; cases h
  ·cases h
theorem list_of {α : Type} {p : Nat → α → Prop} : ∀ {n : Nat}, (∀ i, i < n → ∃ a, p i a) → ∃ xs : List α, xs.length = n ∧ ∀ i a, xs[i]? = some a → p i a
 | 0, _ => ⟨[], rfl, fun i a h => by simp at h⟩
 | n + 1, h => by
  obtain ⟨xs, h1, h2⟩ := list_of (n := n) fun i hi => h i (by omega)
  obtain ⟨a, ha⟩ := h n (by omega)
  refine ⟨xs ++ [a], by simp [h1], fun i b hb => ?_⟩
  rcases (getElem?_snoc _ _ _ _).1 hb with hb | ⟨rfl, rfl⟩
  ·exact h2 i b hb
  ·rw [h1]; exact ha
theorem weights_mem {H : Type} {P : Program} {e : TypeId} : ∀ {l : List (DataW H)} {d : DataW H}, d ∈ l → ∀ n ∈ DataW.weights P e d, n ∈ DataW.weightsAll P e l
 | a :: l, d, h, n, hn => by
  unfold DataW.weightsAll
  rcases List.mem_cons.1 h with rfl | h
  ·exact List.mem_append_left _ hn
  ·exact List.mem_append_right _ (weights_mem h n hn)
theorem rd_slice {α : Type} {P : Program} {c : Cd α} {t e : TypeId} {good : α → Prop} (ht : P.underlying t = some (.slice e)) (hc : P.cellsOf e = 1) (hb : Nat.blt 0 (P.bytesOf e) = true) (r : Rg P c e good) : Rg P (cdL 1 c) t (fun xs => xs.length ≤ 140737488355328 ∧ ∀ a ∈ xs, good a) := ⟨fun {H enc w base spare held fuel v x} h hw => by
 rcases open_slice1 ht hc h with ⟨h0, _⟩ | ⟨a, len, cap, m, n, V, D, Pl, h1, h2, h3, h4, h5, hx, h6⟩
 ·injection h0 with h0
  subst h0
  exact ⟨[], .sl (us := []) rfl rfl (Nat.le_refl _) (by unfold maxLen; omega) (fun h => by omega) (fun i x u hx => by simp at hx), ⟨by simp, fun a ha => by cases ha⟩, rfl⟩
 ·injection h1 with h1
  subst h1
  have hlm : len ≤ m := by rw [h5]; split <;> omega
  rw [hx] at hw
  simp only [DataW.weights, ht, List.all_cons, List.all_append, Bool.and_eq_true, decide_eq_true_eq] at hw
  obtain ⟨hw1, hw2, _⟩ := hw
  have hb' : 0 < P.bytesOf e := Nat.le_of_ble_eq_true hb
  have hlen : len ≤ 140737488355328 := by
   have h7 : (((List.range len).map D).length + ((List.range (m - len)).map fun j => D (len + j)).length) * 1 ≤ (((List.range len).map D).length + ((List.range (m - len)).map fun j => D (len + j)).length) * P.bytesOf e := Nat.mul_le_mul_left _ hb'
   have h8 : reachBytes = 140737488351232 := rfl
   simp only [List.length_map, List.length_range, Nat.mul_one] at h7 hw1
   omega
  have hwi : ∀ i, i < len → (DataW.weights P e (D i)).all (· ≤ reachBytes) = true := fun i hi => by
   rw [List.all_eq_true] at hw2 ⊢
   exact fun n hn => hw2 n (weights_mem (List.mem_map.2 ⟨i, by simpa using hi, rfl⟩) n hn)
  obtain ⟨A, hAl, hA⟩ := list_of (n := len) (p := fun i a => VR w (fun c => c < w.heap.size) [] (c.enc a) (V i) ∧ good a ∧ (V i).oneCell' = true) (fun i hi => r.rd (h6 i (by omega)).2 (hwi i hi))
  have hA' : ∀ i, i < len → ∃ a, A[i]? = some a ∧ VR w (fun c => c < w.heap.size) [] (c.enc a) (V i) ∧ good a ∧ (V i).oneCell' = true := fun i hi => ⟨A[i]'(by omega), List.getElem?_eq_getElem (by omega), hA i _ (List.getElem?_eq_getElem (by omega))⟩
  refine ⟨A, ?_, ⟨by rw [hAl]; exact hlen, fun q hq => ?_⟩, rfl⟩
  ·refine .sl (us := (List.range len).map V) (by simp [hAl]) (by simp [hAl]) h3 h4 (fun h0 => ⟨a, rfl, spot_none (h6 0 (by omega)).1, ?_, fun i u hu => ?_⟩) (fun i x u hx hu => ?_)
   ·have := (h6 0 (by omega)).1
    unfold World.cell? at this
    split at this
    ·next hb => have := (Array.getElem?_eq_some_iff.1 hb).1; rw [show (a.add 0).block = a.block by unfold Addr.add; split <;> rfl] at this; exact this
    ·cases this
   ·rw [List.getElem?_map] at hu
    obtain ⟨j, hj, rfl⟩ := Option.map_eq_some_iff.1 hu
    obtain ⟨hj1, hj2⟩ := List.getElem?_eq_some_iff.1 hj
    simp at hj1 hj2
    subst hj2
    obtain ⟨_, _, _, _, ho⟩ := hA' i hj1
    rw [oneCell_cells ho]
    refine ⟨rfl, fun q hq => by simp at hq; subst hq; exact ho, fun j q hq => ?_⟩
    have hj0 : j = 0 := by
     have := (Array.getElem?_eq_some_iff.1 hq).1
     simp at this; exact this
    subst hj0
    simp at hq
    subst hq
    have hs := spot_none (h6 0 (by omega)).1
    have := (h6 i (by omega)).1
    obtain ⟨ab, ao, asp⟩ := a
    simp only at hs
    subst hs
    rw [addr_add] at this
    simpa using this
   ·rw [List.getElem?_map] at hx hu
    obtain ⟨q, hq, rfl⟩ := Option.map_eq_some_iff.1 hx
    obtain ⟨j, hj, rfl⟩ := Option.map_eq_some_iff.1 hu
    obtain ⟨hj1, hj2⟩ := List.getElem?_eq_some_iff.1 hj
    simp at hj1 hj2
    subst hj2
    exact (hA i q hq).1
  ·obtain ⟨i, hi⟩ := List.getElem?_of_mem hq
   exact (hA i q hi).2.1⟩
/-- An argument of one cell. -/
theorem rd_arg {α : Type} {H : Type} {enc : TypeId × Value → H} {P : Program} {c : Cd α} {t : TypeId} {good : α → Prop} (r : Rg P c t good) {w : World} {base : Nat} {spare : Nat → Bool} {held : Bool} {v : Value} {d : DataW H} {ps : List MemPlace} (ho : v.oneCell' = true) (h : DataW.Trod enc P w base spare held t v d ps)
  {ts : List TypeId} {ds : List (DataW H)} (hs : (DataW.weightsEach P ts ds).all (· ≤ reachBytes) = true) {j : Nat} (ht : ts[j]? = some t) (hd : ds[j]? = some d) : ∃ a, VR w (fun c => c < w.heap.size) [] (c.enc a) v ∧ good a := by
 obtain ⟨fuel, hf⟩ := h
 rw [oneCell_cells ho] at hf
 obtain ⟨a, h1, h2, _⟩ := r.rd hf (List.all_eq_true.2 fun n hn => List.all_eq_true.1 hs n (DataW.weights_mem_each ht hd n hn))
 exact ⟨a, h1, h2⟩
theorem one_slice {P : Program} {w : World} {r : Reach} {b : Nat} {t e : TypeId} {v : Value} (ht : P.underlying t = some (.slice e)) (h : Value.okWide P w r b t v) : v.oneCell' = true := by
 obtain ⟨a, n, c, rfl⟩ := okWide_slice ht h; rfl
theorem one_int {P : Program} {w : World} {r : Reach} {b : Nat} {t : TypeId} {k : IntKind} {v : Value} (ht : P.underlying t = some (.int k)) (h : Value.okWide P w r b t v) : v.oneCell' = true := by
 obtain ⟨a, rfl⟩ := okWide_int ht h; rfl
end Go.Proofs.YtcmgmkepodbpkaaDoor
namespace Go.Proofs.YtcmgmkepodbpkaaDoor
open Go.ChangeShapes Go.WideShapes Go.ChangeAt Go.RowKit
def cellsOfData {H : Type} : DataW H → Array Value
 | .agg xs => (xs.map fun
  | .lit (.int k n) => Value.int k n
  | _ => .bool false).toArray
 | _ => #[]
def putCells (vs : Array Value) : Obj → Obj
 | .cells _ t frozen => .cells vs t frozen
 | o => o
noncomputable def laidWorld (os : Os) : World :=
 { World.holding Tryd.prog os ⟨#[], #[], []⟩ with heap := (((World.holding Tryd.prog os ⟨#[], #[], []⟩).heap.modify 0 (putCells (cellsOfData (Rows.laid_internal_strconv_uint64pow10 (H := Unit))))).modify 1 (putCells (cellsOfData (Rows.laid_math_bits_deBruijn32tab (H := Unit))))).modify 2 (putCells (cellsOfData (Rows.laid_math_bits_deBruijn64tab (H := Unit)))) }
theorem ownKnob0 : ownKnob Tryd.prog.godebug = none := by kernel_rfl
theorem laidOut : laidOutB Tryd.prog = true := by kernel_rfl
theorem mem_of_laid {x : TypeId} {l : List TypeId} (p : TypeId → Bool) (h : l.all p = true) (hx : x ∈ l) : p x = true := List.all_eq_true.1 h x hx
noncomputable def fnT0 : Nat → Option Func
 | 2 => some Tryd.f2
 | 3 => some Tryd.f3
 | 4 => some Tryd.f4
 | 5 => some Tryd.f5
 | 6 => some Tryd.f6
 | 7 => some Tryd.f7
 | 8 => some Tryd.f8
 | 9 => some Tryd.f9
 | 10 => some Tryd.f10
 | 11 => some Tryd.f11
 | 12 => some Tryd.f12
 | 13 => some Tryd.f13
 | 14 => some Tryd.f14
 | 15 => some Tryd.f15
 | 16 => some Tryd.f16
 | 17 => some Tryd.f17
 | 18 => some Tryd.f18
 | 19 => some Tryd.f19
 | 20 => some Tryd.f20
 | 21 => some Tryd.f21
 | 22 => some Tryd.f22
 | 23 => some Tryd.f23
 | 24 => some Tryd.f24
 | 25 => some Tryd.f25
 | 26 => some Tryd.f26
 | 27 => some Tryd.f27
 | 28 => some Tryd.f28
 | 29 => some Tryd.f29
 | 30 => some Tryd.f30
 | 31 => some Tryd.f31
 | 32 => some Tryd.f32
 | 33 => some Tryd.f33
 | 34 => some Tryd.f34
 | 35 => some Tryd.f35
 | 36 => some Tryd.f36
 | 37 => some Tryd.f37
 | 38 => some Tryd.f38
 | 39 => some Tryd.f39
 | 40 => some Tryd.f40
 | 41 => some Tryd.f41
 | _ => none
noncomputable def fnT1 : Nat → Option Func
 | 42 => some Tryd.f42
 | 43 => some Tryd.f43
 | 44 => some Tryd.f44
 | 45 => some Tryd.f45
 | 46 => some Tryd.f46
 | 47 => some Tryd.f47
 | 48 => some Tryd.f48
 | 50 => some Tryd.f50
 | 51 => some Tryd.f51
 | 52 => some Tryd.f52
 | 53 => some Tryd.f53
 | 54 => some Tryd.f54
 | 55 => some Tryd.f55
 | 56 => some Tryd.f56
 | 57 => some Tryd.f57
 | 58 => some Tryd.f58
 | 59 => some Tryd.f59
 | 60 => some Tryd.f60
 | 61 => some Tryd.f61
 | 62 => some Tryd.f62
 | 63 => some Tryd.f63
 | 64 => some Tryd.f64
 | 65 => some Tryd.f65
 | 66 => some Tryd.f66
 | 67 => some Tryd.f67
 | 68 => some Tryd.f68
 | 69 => some Tryd.f69
 | 70 => some Tryd.f70
 | 71 => some Tryd.f71
 | 72 => some Tryd.f72
 | 73 => some Tryd.f73
 | 74 => some Tryd.f74
 | 75 => some Tryd.f75
 | 76 => some Tryd.f76
 | 77 => some Tryd.f77
 | 78 => some Tryd.f78
 | 79 => some Tryd.f79
 | 80 => some Tryd.f80
 | 81 => some Tryd.f81
 | 82 => some Tryd.f82
 | _ => none
noncomputable def fnT2 : Nat → Option Func
 | 83 => some Tryd.f83
 | 84 => some Tryd.f84
 | 85 => some Tryd.f85
 | 86 => some Tryd.f86
 | 87 => some Tryd.f87
 | 88 => some Tryd.f88
 | 89 => some Tryd.f89
 | 90 => some Tryd.f90
 | 91 => some Tryd.f91
 | 92 => some Tryd.f92
 | 93 => some Tryd.f93
 | 94 => some Tryd.f94
 | 95 => some Tryd.f95
 | 96 => some Tryd.f96
 | 97 => some Tryd.f97
 | 98 => some Tryd.f98
 | 99 => some Tryd.f99
 | 100 => some Tryd.f100
 | 101 => some Tryd.f101
 | 102 => some Tryd.f102
 | 103 => some Tryd.f103
 | 104 => some Tryd.f104
 | 105 => some Tryd.f105
 | 106 => some Tryd.f106
 | 107 => some Tryd.f107
 | 108 => some Tryd.f108
 | 109 => some Tryd.f109
 | 110 => some Tryd.f110
 | 111 => some Tryd.f111
 | 112 => some Tryd.f112
 | 113 => some Tryd.f113
 | 114 => some Tryd.f114
 | 115 => some Tryd.f115
 | 116 => some Tryd.f116
 | 117 => some Tryd.f117
 | 118 => some Tryd.f118
 | 119 => some Tryd.f119
 | 120 => some Tryd.f120
 | 122 => some Tryd.f122
 | 123 => some Tryd.f123
 | _ => none
noncomputable def fnT3 : Nat → Option Func
 | 124 => some Tryd.f124
 | 125 => some Tryd.f125
 | 126 => some Tryd.f126
 | 127 => some Tryd.f127
 | 128 => some Tryd.f128
 | 129 => some Tryd.f129
 | 130 => some Tryd.f130
 | 131 => some Tryd.f131
 | 132 => some Tryd.f132
 | 133 => some Tryd.f133
 | 134 => some Tryd.f134
 | 135 => some Tryd.f135
 | 137 => some Tryd.f137
 | 138 => some Tryd.f138
 | 139 => some Tryd.f139
 | 140 => some Tryd.f140
 | 141 => some Tryd.f141
 | 142 => some Tryd.f142
 | 143 => some Tryd.f143
 | 144 => some Tryd.f144
 | 167 => some Tryd.f167
 | _ => none
noncomputable def fnT (f : Nat) : Option Func := (match fnT0 f with | some fn => some fn | none => (match fnT1 f with | some fn => some fn | none => (match fnT2 f with | some fn => some fn | none => fnT3 f)))
def idT : Nat → Bool
 | 121 => true
 | _ => false
noncomputable def E0 : Env := ⟨Tryd.prog, fnT, fun _ => none, fun _ => none, idT⟩
def bodyOk (fn : Func) : Bool := match fn.body with
 | some c => drawOk c
 | none => false
theorem bodyOk_inv {fn : Func} (h : bodyOk fn = true) : ∀ c, fn.body = some c → drawOk c = true := fun c hc => by unfold bodyOk at h; rw [hc] at h; exact h
theorem fo {k : Nat} {a b : Func} (h : some a = some b) (h1 : Tryd.prog.funcs[k]? = some a) (h2 : Callable Tryd.prog k) (h3 : bodyOk a = true) : Tryd.prog.funcs[k]? = some b ∧ Callable Tryd.prog k ∧ ∀ c, b.body = some c → drawOk c = true := by
 injection h with h; subst h; exact ⟨h1, h2, bodyOk_inv h3⟩
theorem id121 : ∀ v w, (callFunc 121 #[v]).run Tryd.prog w = .ok (.value v) w := fun v w => run_callFunc_extern (fn := Tryd.f121) (e := Extern.AbiNoEscape.same) Tryd.func121 (by kernel_rfl) (by kernel_rfl) (by kernel_rfl) (by kernel_rfl) #[v] w
theorem fnT0_ok (f : Nat) (fn : Func) (h : fnT0 f = some fn) : Tryd.prog.funcs[f]? = some fn ∧ Callable Tryd.prog f ∧ ∀ c, fn.body = some c → drawOk c = true := by
 unfold fnT0 at h
 split at h
 ·exact fo h Tryd.func2 ⟨Tryd.call2⟩ (by kernel_rfl)
 ·exact fo h Tryd.func3 ⟨Tryd.call3⟩ (by kernel_rfl)
 ·exact fo h Tryd.func4 ⟨Tryd.call4⟩ (by kernel_rfl)
 ·exact fo h Tryd.func5 ⟨Tryd.call5⟩ (by kernel_rfl)
 ·exact fo h Tryd.func6 ⟨Tryd.call6⟩ (by kernel_rfl)
 ·exact fo h Tryd.func7 ⟨Tryd.call7⟩ (by kernel_rfl)
 ·exact fo h Tryd.func8 ⟨Tryd.call8⟩ (by kernel_rfl)
 ·exact fo h Tryd.func9 ⟨Tryd.call9⟩ (by kernel_rfl)
 ·exact fo h Tryd.func10 ⟨Tryd.call10⟩ (by kernel_rfl)
 ·exact fo h Tryd.func11 ⟨Tryd.call11⟩ (by kernel_rfl)
 ·exact fo h Tryd.func12 ⟨Tryd.call12⟩ (by kernel_rfl)
 ·exact fo h Tryd.func13 ⟨Tryd.call13⟩ (by kernel_rfl)
 ·exact fo h Tryd.func14 ⟨Tryd.call14⟩ (by kernel_rfl)
 ·exact fo h Tryd.func15 ⟨Tryd.call15⟩ (by kernel_rfl)
 ·exact fo h Tryd.func16 ⟨Tryd.call16⟩ (by kernel_rfl)
 ·exact fo h Tryd.func17 ⟨Tryd.call17⟩ (by kernel_rfl)
 ·exact fo h Tryd.func18 ⟨Tryd.call18⟩ (by kernel_rfl)
 ·exact fo h Tryd.func19 ⟨Tryd.call19⟩ (by kernel_rfl)
 ·exact fo h Tryd.func20 ⟨Tryd.call20⟩ (by kernel_rfl)
 ·exact fo h Tryd.func21 ⟨Tryd.call21⟩ (by kernel_rfl)
 ·exact fo h Tryd.func22 ⟨Tryd.call22⟩ (by kernel_rfl)
 ·exact fo h Tryd.func23 ⟨Tryd.call23⟩ (by kernel_rfl)
 ·exact fo h Tryd.func24 ⟨Tryd.call24⟩ (by kernel_rfl)
 ·exact fo h Tryd.func25 ⟨Tryd.call25⟩ (by kernel_rfl)
 ·exact fo h Tryd.func26 ⟨Tryd.call26⟩ (by kernel_rfl)
 ·exact fo h Tryd.func27 ⟨Tryd.call27⟩ (by kernel_rfl)
 ·exact fo h Tryd.func28 ⟨Tryd.call28⟩ (by kernel_rfl)
 ·exact fo h Tryd.func29 ⟨Tryd.call29⟩ (by kernel_rfl)
 ·exact fo h Tryd.func30 ⟨Tryd.call30⟩ (by kernel_rfl)
 ·exact fo h Tryd.func31 ⟨Tryd.call31⟩ (by kernel_rfl)
 ·exact fo h Tryd.func32 ⟨Tryd.call32⟩ (by kernel_rfl)
 ·exact fo h Tryd.func33 ⟨Tryd.call33⟩ (by kernel_rfl)
 ·exact fo h Tryd.func34 ⟨Tryd.call34⟩ (by kernel_rfl)
 ·exact fo h Tryd.func35 ⟨Tryd.call35⟩ (by kernel_rfl)
 ·exact fo h Tryd.func36 ⟨Tryd.call36⟩ (by kernel_rfl)
 ·exact fo h Tryd.func37 ⟨Tryd.call37⟩ (by kernel_rfl)
 ·exact fo h Tryd.func38 ⟨Tryd.call38⟩ (by kernel_rfl)
 ·exact fo h Tryd.func39 ⟨Tryd.call39⟩ (by kernel_rfl)
 ·exact fo h Tryd.func40 ⟨Tryd.call40⟩ (by kernel_rfl)
 ·exact fo h Tryd.func41 ⟨Tryd.call41⟩ (by kernel_rfl)
 ·cases h
theorem fnT1_ok (f : Nat) (fn : Func) (h : fnT1 f = some fn) : Tryd.prog.funcs[f]? = some fn ∧ Callable Tryd.prog f ∧ ∀ c, fn.body = some c → drawOk c = true := by
 unfold fnT1 at h
 split at h
 ·exact fo h Tryd.func42 ⟨Tryd.call42⟩ (by kernel_rfl)
 ·exact fo h Tryd.func43 ⟨Tryd.call43⟩ (by kernel_rfl)
 ·exact fo h Tryd.func44 ⟨Tryd.call44⟩ (by kernel_rfl)
 ·exact fo h Tryd.func45 ⟨Tryd.call45⟩ (by kernel_rfl)
 ·exact fo h Tryd.func46 ⟨Tryd.call46⟩ (by kernel_rfl)
 ·exact fo h Tryd.func47 ⟨Tryd.call47⟩ (by kernel_rfl)
 ·exact fo h Tryd.func48 ⟨Tryd.call48⟩ (by kernel_rfl)
 ·exact fo h Tryd.func50 ⟨Tryd.call50⟩ (by kernel_rfl)
 ·exact fo h Tryd.func51 ⟨Tryd.call51⟩ (by kernel_rfl)
 ·exact fo h Tryd.func52 ⟨Tryd.call52⟩ (by kernel_rfl)
 ·exact fo h Tryd.func53 ⟨Tryd.call53⟩ (by kernel_rfl)
 ·exact fo h Tryd.func54 ⟨Tryd.call54⟩ (by kernel_rfl)
 ·exact fo h Tryd.func55 ⟨Tryd.call55⟩ (by kernel_rfl)
 ·exact fo h Tryd.func56 ⟨Tryd.call56⟩ (by kernel_rfl)
 ·exact fo h Tryd.func57 ⟨Tryd.call57⟩ (by kernel_rfl)
 ·exact fo h Tryd.func58 ⟨Tryd.call58⟩ (by kernel_rfl)
 ·exact fo h Tryd.func59 ⟨Tryd.call59⟩ (by kernel_rfl)
 ·exact fo h Tryd.func60 ⟨Tryd.call60⟩ (by kernel_rfl)
 ·exact fo h Tryd.func61 ⟨Tryd.call61⟩ (by kernel_rfl)
 ·exact fo h Tryd.func62 ⟨Tryd.call62⟩ (by kernel_rfl)
 ·exact fo h Tryd.func63 ⟨Tryd.call63⟩ (by kernel_rfl)
 ·exact fo h Tryd.func64 ⟨Tryd.call64⟩ (by kernel_rfl)
 ·exact fo h Tryd.func65 ⟨Tryd.call65⟩ (by kernel_rfl)
 ·exact fo h Tryd.func66 ⟨Tryd.call66⟩ (by kernel_rfl)
 ·exact fo h Tryd.func67 ⟨Tryd.call67⟩ (by kernel_rfl)
 ·exact fo h Tryd.func68 ⟨Tryd.call68⟩ (by kernel_rfl)
 ·exact fo h Tryd.func69 ⟨Tryd.call69⟩ (by kernel_rfl)
 ·exact fo h Tryd.func70 ⟨Tryd.call70⟩ (by kernel_rfl)
 ·exact fo h Tryd.func71 ⟨Tryd.call71⟩ (by kernel_rfl)
 ·exact fo h Tryd.func72 ⟨Tryd.call72⟩ (by kernel_rfl)
 ·exact fo h Tryd.func73 ⟨Tryd.call73⟩ (by kernel_rfl)
 ·exact fo h Tryd.func74 ⟨Tryd.call74⟩ (by kernel_rfl)
 ·exact fo h Tryd.func75 ⟨Tryd.call75⟩ (by kernel_rfl)
 ·exact fo h Tryd.func76 ⟨Tryd.call76⟩ (by kernel_rfl)
 ·exact fo h Tryd.func77 ⟨Tryd.call77⟩ (by kernel_rfl)
 ·exact fo h Tryd.func78 ⟨Tryd.call78⟩ (by kernel_rfl)
 ·exact fo h Tryd.func79 ⟨Tryd.call79⟩ (by kernel_rfl)
 ·exact fo h Tryd.func80 ⟨Tryd.call80⟩ (by kernel_rfl)
 ·exact fo h Tryd.func81 ⟨Tryd.call81⟩ (by kernel_rfl)
 ·exact fo h Tryd.func82 ⟨Tryd.call82⟩ (by kernel_rfl)
 ·cases h
theorem fnT2_ok (f : Nat) (fn : Func) (h : fnT2 f = some fn) : Tryd.prog.funcs[f]? = some fn ∧ Callable Tryd.prog f ∧ ∀ c, fn.body = some c → drawOk c = true := by
 unfold fnT2 at h
 split at h
 ·exact fo h Tryd.func83 ⟨Tryd.call83⟩ (by kernel_rfl)
 ·exact fo h Tryd.func84 ⟨Tryd.call84⟩ (by kernel_rfl)
 ·exact fo h Tryd.func85 ⟨Tryd.call85⟩ (by kernel_rfl)
 ·exact fo h Tryd.func86 ⟨Tryd.call86⟩ (by kernel_rfl)
 ·exact fo h Tryd.func87 ⟨Tryd.call87⟩ (by kernel_rfl)
 ·exact fo h Tryd.func88 ⟨Tryd.call88⟩ (by kernel_rfl)
 ·exact fo h Tryd.func89 ⟨Tryd.call89⟩ (by kernel_rfl)
 ·exact fo h Tryd.func90 ⟨Tryd.call90⟩ (by kernel_rfl)
 ·exact fo h Tryd.func91 ⟨Tryd.call91⟩ (by kernel_rfl)
 ·exact fo h Tryd.func92 ⟨Tryd.call92⟩ (by kernel_rfl)
 ·exact fo h Tryd.func93 ⟨Tryd.call93⟩ (by kernel_rfl)
 ·exact fo h Tryd.func94 ⟨Tryd.call94⟩ (by kernel_rfl)
 ·exact fo h Tryd.func95 ⟨Tryd.call95⟩ (by kernel_rfl)
 ·exact fo h Tryd.func96 ⟨Tryd.call96⟩ (by kernel_rfl)
 ·exact fo h Tryd.func97 ⟨Tryd.call97⟩ (by kernel_rfl)
 ·exact fo h Tryd.func98 ⟨Tryd.call98⟩ (by kernel_rfl)
 ·exact fo h Tryd.func99 ⟨Tryd.call99⟩ (by kernel_rfl)
 ·exact fo h Tryd.func100 ⟨Tryd.call100⟩ (by kernel_rfl)
 ·exact fo h Tryd.func101 ⟨Tryd.call101⟩ (by kernel_rfl)
 ·exact fo h Tryd.func102 ⟨Tryd.call102⟩ (by kernel_rfl)
 ·exact fo h Tryd.func103 ⟨Tryd.call103⟩ (by kernel_rfl)
 ·exact fo h Tryd.func104 ⟨Tryd.call104⟩ (by kernel_rfl)
 ·exact fo h Tryd.func105 ⟨Tryd.call105⟩ (by kernel_rfl)
 ·exact fo h Tryd.func106 ⟨Tryd.call106⟩ (by kernel_rfl)
 ·exact fo h Tryd.func107 ⟨Tryd.call107⟩ (by kernel_rfl)
 ·exact fo h Tryd.func108 ⟨Tryd.call108⟩ (by kernel_rfl)
 ·exact fo h Tryd.func109 ⟨Tryd.call109⟩ (by kernel_rfl)
 ·exact fo h Tryd.func110 ⟨Tryd.call110⟩ (by kernel_rfl)
 ·exact fo h Tryd.func111 ⟨Tryd.call111⟩ (by kernel_rfl)
 ·exact fo h Tryd.func112 ⟨Tryd.call112⟩ (by kernel_rfl)
 ·exact fo h Tryd.func113 ⟨Tryd.call113⟩ (by kernel_rfl)
 ·exact fo h Tryd.func114 ⟨Tryd.call114⟩ (by kernel_rfl)
 ·exact fo h Tryd.func115 ⟨Tryd.call115⟩ (by kernel_rfl)
 ·exact fo h Tryd.func116 ⟨Tryd.call116⟩ (by kernel_rfl)
 ·exact fo h Tryd.func117 ⟨Tryd.call117⟩ (by kernel_rfl)
 ·exact fo h Tryd.func118 ⟨Tryd.call118⟩ (by kernel_rfl)
 ·exact fo h Tryd.func119 ⟨Tryd.call119⟩ (by kernel_rfl)
 ·exact fo h Tryd.func120 ⟨Tryd.call120⟩ (by kernel_rfl)
 ·exact fo h Tryd.func122 ⟨Tryd.call122⟩ (by kernel_rfl)
 ·exact fo h Tryd.func123 ⟨Tryd.call123⟩ (by kernel_rfl)
 ·cases h
theorem fnT3_ok (f : Nat) (fn : Func) (h : fnT3 f = some fn) : Tryd.prog.funcs[f]? = some fn ∧ Callable Tryd.prog f ∧ ∀ c, fn.body = some c → drawOk c = true := by
 unfold fnT3 at h
 split at h
 ·exact fo h Tryd.func124 ⟨Tryd.call124⟩ (by kernel_rfl)
 ·exact fo h Tryd.func125 ⟨Tryd.call125⟩ (by kernel_rfl)
 ·exact fo h Tryd.func126 ⟨Tryd.call126⟩ (by kernel_rfl)
 ·exact fo h Tryd.func127 ⟨Tryd.call127⟩ (by kernel_rfl)
 ·exact fo h Tryd.func128 ⟨Tryd.call128⟩ (by kernel_rfl)
 ·exact fo h Tryd.func129 ⟨Tryd.call129⟩ (by kernel_rfl)
 ·exact fo h Tryd.func130 ⟨Tryd.call130⟩ (by kernel_rfl)
 ·exact fo h Tryd.func131 ⟨Tryd.call131⟩ (by kernel_rfl)
 ·exact fo h Tryd.func132 ⟨Tryd.call132⟩ (by kernel_rfl)
 ·exact fo h Tryd.func133 ⟨Tryd.call133⟩ (by kernel_rfl)
 ·exact fo h Tryd.func134 ⟨Tryd.call134⟩ (by kernel_rfl)
 ·exact fo h Tryd.func135 ⟨Tryd.call135⟩ (by kernel_rfl)
 ·exact fo h Tryd.func137 ⟨Tryd.call137⟩ (by kernel_rfl)
 ·exact fo h Tryd.func138 ⟨Tryd.call138⟩ (by kernel_rfl)
 ·exact fo h Tryd.func139 ⟨Tryd.call139⟩ (by kernel_rfl)
 ·exact fo h Tryd.func140 ⟨Tryd.call140⟩ (by kernel_rfl)
 ·exact fo h Tryd.func141 ⟨Tryd.call141⟩ (by kernel_rfl)
 ·exact fo h Tryd.func142 ⟨Tryd.call142⟩ (by kernel_rfl)
 ·exact fo h Tryd.func143 ⟨Tryd.call143⟩ (by kernel_rfl)
 ·exact fo h Tryd.func144 ⟨Tryd.call144⟩ (by kernel_rfl)
 ·exact fo h Tryd.func167 ⟨Tryd.call167⟩ (by kernel_rfl)
 ·cases h
theorem E0_ok : EnvOk E0 := by
 refine ⟨fun f fn h => ?_, by kernel_rfl, fun f h => ?_, fun f g h => (by cases h)⟩
 ·change fnT f = some fn at h
  unfold fnT at h
  cases h0 : fnT0 f with
  | some g0 => rw [h0] at h; injection h with h; subst h; exact fnT0_ok f _ h0
  | none =>
  rw [h0] at h
  dsimp only at h
  cases h1 : fnT1 f with
  | some g1 => rw [h1] at h; injection h with h; subst h; exact fnT1_ok f _ h1
  | none =>
  rw [h1] at h
  dsimp only at h
  cases h2 : fnT2 f with
  | some g2 => rw [h2] at h; injection h with h; subst h; exact fnT2_ok f _ h2
  | none =>
  rw [h2] at h
  dsimp only at h
  exact fnT3_ok f fn h
 ·change idT f = true at h
  unfold idT at h
  split at h
  ·exact id121
  ·cases h
def isT (r : Option (AV × Hp)) : Bool := match r with
 | some (.v (.bool true), _) => true
 | _ => false
theorem isT_inv {r : Option (AV × Hp)} (h : isT r = true) : ∃ h', r = some (.v (.bool true), h') := by
 unfold isT at h
 split at h
 ·exact ⟨_, rfl⟩
 ·cases h
set_option maxRecDepth 1000000 in
theorem awakeT : isT (evCall E0 1000 13 [] []) = true := by kernel_rfl
theorem awake_ev : ∃ h, evCall E0 1000 13 [] [] = some (.v (.bool true), h) := isT_inv awakeT
theorem awake_ret (w : World) : Ret Tryd.prog 13 #[] w fun v w' => v = .bool true ∧ w.grownBy w' none := by
 obtain ⟨h, e⟩ := awake_ev
 exact ret_true (Z := fun _ => False) (us := []) E0_ok e (fun c hc => hc.elim) (fun g x h => by cases h) .nil
theorem vr_true {w : World} {Z : Nat → Prop} : VR w Z [] (.v (.bool true)) (.bool true) := .v rfl
def codeOf (f : Func) : Code := match f.body with
 | some c => c
 | none => .skip
/-- A part of code, by its way. -/
def pc : Code → List Nat → Code
 | c, [] => c
 | .seq a _, 0 :: l => pc a l
 | .seq _ b, _ :: l => pc b l
 | .cond _ a _, 0 :: l => pc a l
 | .cond _ _ b, _ :: l => pc b l
 | .block _ a, _ :: l => pc a l
 | .loop a, _ :: l => pc a l
 | c, _ :: _ => c
/-- What is told of a function, in no environment of its own. -/
def XOk (f : FuncId) (g : List AV → Option AV) : Prop := Callable E0.P f ∧ ∀ xs x, g xs = some x → ∀ w Z us, (∀ c, Z c → c < w.heap.size) → GI E0 w Z → VRs w Z [] xs us → Ret E0.P f us.toArray w fun v w' => w.grownBy w' none ∧ VR w' (fun c => Z c ∨ (w.heap.size ≤ c ∧ c < w'.heap.size)) [] x v
section
variable {E : Env} {cx : Cx} {c : Code} {s s1 : St} {Q : Ex → St → Prop} {n : Nat} {e0 : Ex}
theorem SemN.mono {Q' : Ex → St → Prop} (h : SemN E cx c n s Q) (hq : ∀ e s, Q e s → Q' e s) : SemN E cx c n s Q' :=
 fun ro base Qm a w Z R h1 h2 h3 k => h ro base Qm a w Z R h1 h2 h3 fun e s' a' w' Z' R' hQ => k e s' a' w' Z' R' (hq e s' hQ)
theorem SemN.wkQ (h : SemN E cx c n s fun e s' => ∃ s2, Wk E s' s2 ∧ Q e s2) : SemN E cx c n s Q := by
 intro ro base Qm a w Z R h1 h2 h3 k
 refine h ro base Qm a w Z R h1 h2 h3 fun e s' a' w' Z' R' hQ sr st => ?_
 obtain ⟨s2, hw, hq⟩ := hQ
 obtain ⟨Z2, R2, sr2, st2⟩ := hw _ w' Z' R' a' sr
 exact k e s2 a' w' Z2 R2 hq sr2 (st.trans st2)
theorem Sem.cutN (h : SemN E cx c n s fun e s' => e = e0 ∧ Wk E s' s1) (k : Q e0 s1) : SemN E cx c n s Q :=
 SemN.wkQ (SemN.mono h fun e s' h => ⟨s1, h.2, by rw [h.1]; exact k⟩)
end
theorem EnvOk.x {E : Env} {f : FuncId} {g : List AV → Option AV} (h : EnvOk (E.withX f g)) (hP : E.P = E0.P) (hG : E.G = E0.G) : XOk f g := by
 obtain ⟨h1, h2⟩ := h.X f g (if_pos rfl)
 have e1 : (E.withX f g).P = E0.P := hP
 refine ⟨e1 ▸ h1, fun xs x hx w Z us hz hg hv => ?_⟩
 have := h2 xs x hx w Z us hz (fun q y hy => hg q y (by rw [← hG]; exact hy)) hv
 exact e1 ▸ this
def flatO : AV → Bool
 | .v _ => true
 | .st _ => true
 | .e0 => true
 | .rf _ _ _ _ => true
 | .pt _ _ _ => true
 | _ => false
/-- Flat, but for names of own blocks. -/
def ownFlat : AV → Bool
 | .ag cs => cs.all flatO
 | .tp cs => cs.all flatO
 | x => flatO x
def sh1 (n : Nat) : AV → AV
 | .rf b lo k m => .rf (n + b) lo k m
 | .pt b i o => .pt (n + b) i o
 | x => x
def shN (n : Nat) : AV → AV
 | .ag cs => .ag (cs.map (sh1 n))
 | .tp cs => .tp (cs.map (sh1 n))
 | x => sh1 n x
def flatH : Hp → Bool
 | [] => true
 | none :: r => flatH r
 | some B :: r => !B.fz && B.es.all isFlat && flatH r
theorem flatH_at : ∀ {h : Hp}, flatH h = true → ∀ (b : Nat) (B : Blk), h[b]? = some (some B) → B.fz = false ∧ B.es.all isFlat = true
 | [], _, b, B, hb => by simp at hb
 | none :: r, h, 0, B, hb => by simp at hb
 | none :: r, h, b + 1, B, hb => flatH_at (h := r) h b B (by simpa using hb)
 | some C :: r, h, 0, B, hb => by
  simp at hb; subst hb
  simp only [flatH, Bool.and_eq_true, Bool.not_eq_true'] at h
  exact h.1
 | some C :: r, h, b + 1, B, hb => by
  simp only [flatH, Bool.and_eq_true] at h
  exact flatH_at h.2 b B (by simpa using hb)
section
variable {w w' : World} {Z Z' : Nat → Prop} {R R' : List RI} {h h' : Hp}
theorem sh1_vr {n : Nat} (hn : R.length = n) {x : AV} {u : Value} (hf : flatO x = true) (hv : VR w Z R' x u) : VR w Z' (R ++ R') (sh1 n x) u := by
 have hg : ∀ {b : Nat} {r : RI}, R'[b]? = some r → (R ++ R')[n + b]? = some r := fun {b r} hr => by
  rw [List.getElem?_append_right (by omega), ← hn, Nat.add_sub_cancel_left]; exact hr
 cases hv with
 | v h => exact .v h
 | st h hn => exact .st h hn
 | e0 => exact .e0
 | rf hr h0 h1 h2 hm => exact .rf (hg hr) h0 h1 h2 hm
 | pt hr => exact .pt (hg hr)
 | _ => simp [flatO] at hf
theorem shN_vr {n : Nat} (hn : R.length = n) {x : AV} {u : Value} (hf : ownFlat x = true) (hv : VR w Z R' x u) : VR w Z' (R ++ R') (shN n x) u := by
 have hl : ∀ {cs : List AV} {us : List Value}, cs.all flatO = true → (∀ (i : Nat) (x : AV) (u : Value), cs[i]? = some x → us[i]? = some u → VR w Z R' x u) → ∀ (i : Nat) (x : AV) (u : Value), (cs.map (sh1 n))[i]? = some x → us[i]? = some u → VR w Z' (R ++ R') x u := fun {cs us} hc hx i x u hi hu => by
  rw [List.getElem?_map] at hi
  obtain ⟨y, hy, rfl⟩ := Option.map_eq_some_iff.1 hi
  exact sh1_vr hn (List.all_eq_true.1 hc y (List.mem_of_getElem? hy)) (hx i y u hy hu)
 cases hv with
 | ag h1 h2 hx => exact .ag (by simpa using h1) h2 (hl hf hx)
 | tp h1 hx => exact .tp (by simpa using h1) (hl hf hx)
 | v h => exact sh1_vr (Z := Z) hn rfl (.v h)
 | st h hn' => exact sh1_vr (Z := Z) hn rfl (.st h hn')
 | e0 => exact sh1_vr (Z := Z) hn rfl .e0
 | rf hr h0 h1 h2 hm => exact sh1_vr (Z := Z) hn rfl (.rf hr h0 h1 h2 hm)
 | pt hr => exact sh1_vr (Z := Z) hn rfl (.pt hr)
 | _ => simp [ownFlat, flatO] at hf
/-- What a call made stands beside what was there. -/
theorem HR.join {Z0 : Nat → Prop} (hh : HR w Z R h) (_hz : ∀ c, Z0 c → c < w.heap.size) (st : StepW w Z0 [] [] w' Z' R' h') (hh' : HR w' Z' R' h') (hf : flatH h' = true) : HR w' Z (R ++ R') (h ++ h') ∧ Step w Z R h w' Z (R ++ R') (h ++ h') := by
 have hold : ∀ c, c < w.heap.size → w'.heap[c]? = w.heap[c]? := fun c hc => st.block c hc fun ⟨b, B, r, hb, _⟩ => by simp at hb
 have hr : ∀ (i : Nat) (x : RI), R[i]? = some x → (R ++ R')[i]? = some x := fun i x hx => by
  rw [List.getElem?_append_left (List.getElem?_eq_some_iff.1 hx).1]; exact hx
 have hnew : ∀ c, own R' h' c → w.heap.size ≤ c := fun c hc => (st.own_ c hc).resolve_left fun ⟨b, B, r, hb, _⟩ => by simp at hb
 have hlen := hh.len
 -- where a block lies
 have hat : ∀ (b : Nat) (B : Blk), (h ++ h')[b]? = some (some B) → (b < h.length ∧ h[b]? = some (some B) ∧ (R ++ R')[b]? = R[b]?) ∨ (∃ j, b = h.length + j ∧ h'[j]? = some (some B) ∧ (R ++ R')[b]? = R'[j]?) := fun b B hb => by
  by_cases hlt : b < h.length
  ·rw [List.getElem?_append_left hlt] at hb
   exact .inl ⟨hlt, hb, List.getElem?_append_left (by omega)⟩
  ·rw [List.getElem?_append_right (by omega)] at hb
   exact .inr ⟨b - h.length, by omega, hb, by rw [List.getElem?_append_right (by omega), hlen]⟩
 have hRb : ∀ (b : Nat) (B : Blk) (r : RI), h[b]? = some (some B) → R[b]? = some r → r.c < w.heap.size := fun b B r h1 h2 => hh.rltL h1 h2
 have hRn : ∀ (j : Nat) (B : Blk) (r : RI), h'[j]? = some (some B) → R'[j]? = some r → w.heap.size ≤ r.c := fun j B r h1 h2 => hnew _ ⟨j, B, r, h1, (flatH_at hf j B h1).1, h2, rfl⟩
 refine ⟨⟨by simp [hh.len, hh'.len], fun b B hB => ?_, fun b b' B B' r r' hB hfz hB' hfz' h1 h2 e => ?_, fun c hc => Nat.lt_of_lt_of_le (hh.zlt c hc) st.size⟩, ⟨st.os, st.tape, st.output, st.size, fun c hc _ => hold c hc, fun c hc => ?_, fun _ h => h, fun _ h => .inl h, hr⟩⟩
 ·rcases hat b B hB with ⟨hlt, hb, hRR⟩ | ⟨j, rfl, hb, hRR⟩
  ·obtain ⟨r, arr, us, g1, g2, g3, g4, g5, g6, g7, g8, g9, g10⟩ := hh.blk b B hb
   exact ⟨r, arr, us, hRR.trans g1, g2, (hold _ (hRb b B r hb g1)).trans g3, g4, g5, g6, g7, g8, ⟨g9.len, fun i x u hx hu => (g9.at_ i x u hx hu).mono (fun c hc => hold c (hh.zlt c hc)) (fun _ h => h) hr⟩, g10⟩
  ·obtain ⟨r, arr, us, g1, g2, g3, g4, g5, g6, g7, g8, g9, g10⟩ := hh'.blk j B hb
   obtain ⟨f1, f2⟩ := flatH_at hf j B hb
   exact ⟨r, arr, us, hRR.trans g1, g2, g3, g4, g5, g6, (fun h => by rw [f1] at h; cases h), (fun _ hz' => by have := hh.zlt _ hz'; have := hRn j B r hb g1; omega), ⟨g9.len, fun i x u hx hu => flat_vr (by have := List.all_eq_true.1 f2 x (List.mem_of_getElem? hx); cases x <;> first | exact this | (simp [isFlat] at this)) (g9.at_ i x u hx hu)⟩, g10⟩
 ·rcases hat b B hB with ⟨_, hb, hRR⟩ | ⟨j, rfl, hb, hRR⟩ <;> rcases hat b' B' hB' with ⟨_, hb', hRR'⟩ | ⟨j', rfl, hb', hRR'⟩ <;> rw [hRR] at h1 <;> rw [hRR'] at h2
  ·exact hh.inj b b' B B' r r' hb hfz hb' hfz' h1 h2 e
  ·have := hRb b B r hb h1; have := hRn j' B' r' hb' h2; omega
  ·have := hRb b' B' r' hb' h2; have := hRn j B r hb h1; omega
  ·rw [hh'.inj j j' B B' r r' hb hfz hb' hfz' h1 h2 e]
 ·obtain ⟨b, B, r, h1, h2, h3, rfl⟩ := hc
  rcases hat b B h1 with ⟨_, hb, hRR⟩ | ⟨j, rfl, hb, hRR⟩ <;> rw [hRR] at h3
  ·exact .inl ⟨b, B, r, hb, h2, h3, rfl⟩
  ·exact .inr (hRn j B r hb h3)
end
/-- What a call may hand back, and the blocks that come with it. -/
def SOk (f : FuncId) (ys : List AV) (Out : AV → Hp → Prop) : Prop := Callable E0.P f ∧ ∀ w Z us, (∀ c, Z c → c < w.heap.size) → GI E0 w Z → VRs w Z [] ys us → Ret E0.P f us.toArray w fun v w' => ∃ Z' R' x h', Out x h' ∧ HR w' Z' R' h' ∧ VR w' Z' R' x v ∧ StepW w Z [] [] w' Z' R' h'
theorem sok_of_sem {e : Env} (hE : EnvOk e) (hP : e.P = E0.P) (hG : e.G = E0.G) {f : FuncId} {fn : Func} {c : Code} (hf : e.fn f = some fn) (hc : fn.body = some c) (hcall : Callable E0.P f) {ys : List AV} (hle : ys.length ≤ fn.ntmps) {Out : AV → Hp → Prop}
  (sem : Sem e ⟨none, false⟩ c ⟨Fr fn.ntmps (pairs0 0 ys), []⟩ fun x s' => (x = .normal ∨ x = .ret) ∧ ∃ xs, resA e.P s'.fr s'.hp fn.results.toList = some xs ∧ Out (retA xs) s'.hp) : SOk f ys Out := by
 obtain ⟨P, fns, G, X, I⟩ := e
 simp only at hP hG
 subst hP hG
 refine ⟨hcall, fun w Z us hz hg hv => ?_⟩
 have hh : HR w Z [] [] := ⟨rfl, fun b B hB => by simp at hB, fun b b' B B' r r' hB => by simp at hB, hz⟩
 refine Ret.mono (ret_sem hE hf hc hle (Q := fun _ s => ∃ x, s.fr = [some x] ∧ Out x s.hp) (Sem.mono (Sem.wk (Wk.enter hle) sem) fun e s' hs => ?_) hh hv hg) fun v w' hS => ?_
 ·obtain ⟨h1, xs, h2, h3⟩ := hs
  exact ⟨h1, xs, h2, _, rfl, h3⟩
 ·obtain ⟨Z', R', x, h', ⟨y, hy, hO⟩, k1, k2, st⟩ := hS
  have hy : x = y := by simpa using hy
  subst hy
  exact ⟨Z', R', x, h', hO, k1, k2, st⟩
def viewF (h : Hp) : AV → Option AV
 | .fn f [] [] => some (.fn f [] [])
 | x => view2 h x
def viewsF (h : Hp) : List AV → Option (List AV)
 | [] => some []
 | x :: l => match viewF h x, viewsF h l with
  | some y, some r => some (y :: r)
  | _, _ => none
theorem viewsF_vr {w : World} {Z : Nat → Prop} {R : List RI} {h : Hp} (hh : HR w Z R h) : ∀ {xs ys : List AV} {us : List Value}, VRs w Z R xs us → viewsF h xs = some ys → VRs w (fun c => Z c ∨ own R h c) [] ys us
 | [], ys, us, hv, e => by
  injection e with e; subst e
  have : us = [] := by have := hv.len; simpa using this
  subst this
  exact .nil
 | x :: xs, ys, us, hv, e => by
  obtain ⟨u, us', rfl, hu, hn⟩ := hv.head
  unfold viewsF at e
  split at e
  ·next y r h1 h2 =>
   injection e with e; subst e
   refine .cons ?_ (viewsF_vr hh hn h2)
   unfold viewF at h1
   split at h1
   ·injection h1 with h1; subst h1
    cases hu with
    | fn hl hl' hx hy =>
     rename_i u1 u2
     have e1 : u1 = [] := by simpa using hl
     have e2 : u2 = [] := by simpa using hl'
     subst e1 e2
     exact .fn (us := []) (vs := []) rfl rfl (fun i x u hx => by simp at hx) (fun i x u hx => by simp at hx)
   ·exact view2_vr hh hu h1
  ·cases e
section
variable {E : Env} {ops : Array Oper} {rest rest' : List Oper} {K : St → Prop} {n : Nat} {l : List (Nat × AV)} {hp : Hp} {xs ys : List AV} {Out : AV → Hp → Prop}
theorem RunS.callS (hP : E.P = E0.P) (hG : E.G = E0.G) {d : Nat} {f : Operand} {args : Array Operand} {tys : Array TypeId} {ty : TypeId} {pos : String} {af : Array Edge} {g : Option (Nat × Bool)} {fid : FuncId} (hs : SOk fid ys Out) (hr : rest = ⟨some d, .call ⟨.value f, args, tys⟩, ty, pos, af, g⟩ :: rest') (hw : wantedA ops (Fr n l) ⟨some d, .call ⟨.value f, args, tys⟩, ty, pos, af, g⟩ = some true)
  (hf : opA E (Fr n l) f = some (.fn fid [] [])) (ha : opds (opA E (Fr n l)) args.toList = some xs) (hv : viewsF hp xs = some ys) (hfl : ∀ x h', Out x h' → ownFlat x = true ∧ flatH h' = true) (k : ∀ x h', Out x h' → RunS E ops rest' ⟨Fr n ((d, shN hp.length x) :: l), hp ++ h'⟩ K) : RunS E ops rest ⟨Fr n l, hp⟩ K := by
 obtain ⟨P, fns, G, X, I⟩ := E
 simp only at hP hG
 subst hP hG
 subst hr
 intro base Q a w Z R sr q
 have hρ : ∀ o x, opA ⟨E0.P, fns, E0.G, X, I⟩ (Fr n l) o = some x → VR w Z R x (a.eval o) := fun o x e => opA_vr sr o x e
 refine lwl_loud rfl (wantedA_eq sr hw) ?_
 have hva : a.eval f = .func (.func fid) ([] : List Value).toArray ([] : List Value).toArray := by
  have := hρ _ _ hf
  generalize a.eval f = vf at this
  cases this with
  | fn hl hl' hx hy =>
   rename_i u1 u2
   have e1 : u1 = [] := by simpa using hl
   have e2 : u2 = [] := by simpa using hl'
   subst e1 e2; rfl
 unfold Lw
 rw [run_call (uf := []) (uc := []) rfl hva rfl hs.1 w]
 simp only [List.nil_append, List.append_nil]
 have hz1 : ∀ c, (Z c ∨ own R hp c) → c < w.heap.size := fun c hc => hc.elim (sr.hh.zlt c) (fun ⟨b, B, r, h1, _, h3, h4⟩ => h4 ▸ sr.hh.rltL h1 h3)
 have hg1 : GI E0 w (fun c => Z c ∨ own R hp c) := fun q y hy => (sr.gl q y hy).mono (fun _ _ => rfl) (fun _ h => .inl h) (fun _ _ h => h)
 refine Ret.mono (hs.2 w _ _ hz1 hg1 (viewsF_vr sr.hh (opds_vr hρ ha) hv)) fun v w' hS => ?_
 obtain ⟨Z', R', x, h', hO, h1, h2, st⟩ := hS
 obtain ⟨f1, f2⟩ := hfl x h' hO
 obtain ⟨j1, j2⟩ := sr.hh.join hz1 st h1 f2
 have hlen : R.length = hp.length := sr.hh.len
 have hx := shN_vr (w := w') (Z' := Z) (R := R) hlen f1 h2
 have sr' := (sr.step j1 j2).put (d := some d) hx
 rw [show putA (⟨Fr n l, hp⟩ : St).fr (some d) (shN hp.length x) = Fr n ((d, shN hp.length x) :: l) from putA_Fr n l d _] at sr'
 exact k x h' hO base Q _ w' Z (R ++ R') sr' fun s' a' w'' Z'' R'' hK sr'' st' => q s' a' w'' Z'' R'' hK sr'' (j2.w.trans st')
end
/-- As Fr1, and in the cells of a struct. -/
def Fr2 (h : Hp) (b : Nat) (x x' : AV) : Prop := Fr1 h b x x' ∨ ∃ cs cs', x = .ag cs ∧ x' = .ag cs' ∧ EsFz h b cs cs'
theorem Fr2.vr {w : World} {Z : Nat → Prop} {R : List RI} {h : Hp} {b : Nat} {x x' : AV} {u : Value} (f : Fr2 h b x x') (hh : HR w Z R h) (hv : VR w Z R x u) : VR w (ZFr Z R h b) R x' u := by
 rcases f with f | ⟨cs, cs', rfl, rfl, f⟩
 ·exact f.vr hh hv
 ·obtain ⟨k1, k2⟩ := f.at_
  cases hv with
  | ag hl h1 hx =>
   refine .ag (hl.trans k1) h1 fun i y u hy hu => ?_
   obtain ⟨x, q1, q2⟩ := k2 i y hy
   exact q2.vr hh (hx i x u q1 hu)
def EsF2 (h : Hp) (b : Nat) : List AV → List AV → Prop
 | [], [] => True
 | x :: r, x' :: r' => Fr2 h b x x' ∧ EsF2 h b r r'
 | _, _ => False
theorem EsF2.at_ {h : Hp} {b : Nat} : ∀ {es es' : List AV}, EsF2 h b es es' → es.length = es'.length ∧ ∀ (i : Nat) (x' : AV), es'[i]? = some x' → ∃ x, es[i]? = some x ∧ Fr2 h b x x'
 | [], [], _ => ⟨rfl, fun i x' hx => by simp at hx⟩
 | x :: r, x' :: r', ⟨h1, h2⟩ => by
  obtain ⟨k1, k2⟩ := h2.at_
  refine ⟨by simp [k1], fun i y hy => ?_⟩
  cases i with
  | zero => simp at hy; subst hy; exact ⟨x, rfl, h1⟩
  | succ i => simpa using k2 i y (by simpa using hy)
 | [], _ :: _, h => h.elim
 | _ :: _, [], h => h.elim
def EnF2 (h : Hp) (b : Nat) (o o' : Option Blk) : Prop := o' = none ∨ o = o' ∨ ∃ k t es es', o = some ⟨k, t, es, false⟩ ∧ o' = some ⟨k, t, es', false⟩ ∧ EsF2 h b es es'
def HpF2 (h : Hp) (b : Nat) : Hp → Hp → Prop
 | [], [] => True
 | o :: r, o' :: r' => EnF2 h b o o' ∧ HpF2 h b r r'
 | _, _ => False
theorem HpF2.at_ {h : Hp} {b : Nat} : ∀ {q q' : Hp}, HpF2 h b q q' → q.length = q'.length ∧ ∀ (j : Nat) (B' : Blk), q'[j]? = some (some B') → ∃ es, q[j]? = some (some { B' with es := es }) ∧ es.length = B'.es.length ∧ ∀ (i : Nat) (x' : AV), B'.es[i]? = some x' → ∃ x, es[i]? = some x ∧ Fr2 h b x x'
 | [], [], _ => ⟨rfl, fun j B' hx => by simp at hx⟩
 | o :: r, o' :: r', ⟨h1, h2⟩ => by
  obtain ⟨k1, k2⟩ := h2.at_
  refine ⟨by simp [k1], fun j B' hB => ?_⟩
  cases j with
  | zero =>
   simp at hB
   subst hB
   rcases h1 with h1 | h1 | ⟨k, t, es, es', rfl, h1, h3⟩
   ·cases h1
   ·subst h1
    exact ⟨B'.es, rfl, rfl, fun i x' hx => ⟨x', hx, .inl (.inl rfl)⟩⟩
   ·have h1 := Option.some.inj h1
    subst h1
    obtain ⟨q1, q2⟩ := h3.at_
    exact ⟨es, rfl, q1, q2⟩
  | succ j => simpa using k2 j B' (by simpa using hB)
 | [], _ :: _, h => h.elim
 | _ :: _, [], h => h.elim
def LkF2 (h : Hp) (b : Nat) (l : List (Nat × AV)) : List (Nat × AV) → Prop
 | [] => True
 | (t, x') :: r => (∃ x, lk l t = some x ∧ Fr2 h b x x') ∧ LkF2 h b l r
theorem LkF2.at_ {h : Hp} {b : Nat} {l : List (Nat × AV)} : ∀ {l' : List (Nat × AV)}, LkF2 h b l l' → ∀ t x', lk l' t = some x' → ∃ x, lk l t = some x ∧ Fr2 h b x x'
 | [], _, t, x, h => by cases h
 | (k, y) :: r, hk, t, x, h => by
  rw [lk_put] at h
  split at h
  ·next e => injection h with h; subst e h; exact hk.1
  ·exact hk.2.at_ t x h
def notAg : AV → Bool
 | .ag _ => false
 | _ => true
/-- As Sem, but the numbers of the blocks are kept, and a range over a function may be under way. -/
def SemY (E : Env) (cx : Cx) (c : Code) (s : St) (Q : Ex → St → Prop) : Prop :=
 ∀ (ro : Option Nat) (base : Bs) (Qm : Exit → Act → World → Prop) (a : Act) (w : World) (Z : Nat → Prop) (R : List RI), (cx.inR = false → ro = none) → SR E base w Z R s a → YI cx w Z R s.hp →
  (∀ e s' a' w' Z' R', Q e s' → SR E base w' Z' R' s' a' → Step w Z R s.hp w' Z' R' s'.hp → Qm (exOf e) a' w') → c.wpIn (Fw ro) 0 E.P Qm a w
def SemYN (E : Env) (cx : Cx) (c : Code) (n : Nat) (s : St) (Q : Ex → St → Prop) : Prop :=
 ∀ (ro : Option Nat) (base : Bs) (Qm : Exit → Act → World → Prop) (a : Act) (w : World) (Z : Nat → Prop) (R : List RI), (cx.inR = false → ro = none) → SR E base w Z R s a → YI cx w Z R s.hp →
  (∀ e s' a' w' Z' R', Q e s' → SR E base w' Z' R' s' a' → Step w Z R s.hp w' Z' R' s'.hp → Qm (exOf e) a' w') → Code.roundsIn (Fw ro) 0 E.P c Qm n a w
def RunY (E : Env) (cx : Cx) (ops : Array Oper) (rest : List Oper) (s : St) (K : St → Prop) : Prop :=
 ∀ (ro : Option Nat) (base : Bs) (Q : Exit → Act → World → Prop) (a : Act) (w : World) (Z : Nat → Prop) (R : List RI), (cx.inR = false → ro = none) → SR E base w Z R s a → YI cx w Z R s.hp →
  (∀ s' a' w' Z' R', K s' → SR E base w' Z' R' s' a' → Step w Z R s.hp w' Z' R' s'.hp → Q .normal a' w') → wpListIn (Fw ro) 0 E.P ops Q rest a w
/-- A state that says less of the same worlds; the numbers are kept. -/
def WkY (E : Env) (s s' : St) : Prop := ∀ base w Z R a, SR E base w Z R s a → ∃ Z' R', SR E base w Z' R' s' a ∧ Step w Z R s.hp w Z' R' s'.hp
section
variable {E : Env} {cx : Cx} {ops : Array Oper} {pre rest rest' : List Oper} {s s1 : St} {K : St → Prop} {n m : Nat} {l l' : List (Nat × AV)} {hp hp' : Hp} {Q Q' : Ex → St → Prop} {id : Nat} {c c' : Code}
theorem SemY.skip (q : Q .normal s) : SemY E cx .skip s Q := fun _ _ _ a w Z R _ h2 _ k => wpIn_skip (k .normal s a w Z R q h2 (Step.refl _ _ _ _))
theorem SemY.exit {id : Nat} (q : Q (.exit id) s) : SemY E cx (.exit id) s Q := fun _ _ _ a w Z R _ h2 _ k => wpIn_exit (k (.exit id) s a w Z R q h2 (Step.refl _ _ _ _))
theorem SemY.ret (q : Q .ret s) : SemY E cx .ret s Q := fun _ _ _ a w Z R _ h2 _ k => wpIn_ret (k .ret s a w Z R q h2 (Step.refl _ _ _ _))
theorem SemY.seq (h : SemY E cx c s fun e s' => match e with | .normal => SemY E cx c' s' Q | e => Q e s') : SemY E cx (.seq c c') s Q := by
 intro ro base Qm a w Z R h1 h2 h3 k
 refine wpIn_seq (h ro base _ a w Z R h1 h2 h3 fun e s' a' w' Z' R' hQ sr st => ?_)
 cases e with
 | normal => exact hQ ro base Qm a' w' Z' R' h1 sr (h3.step h2.hh st) fun e2 s2 a2 w2 Z2 R2 hQ2 sr2 st2 => k e2 s2 a2 w2 Z2 R2 hQ2 sr2 (st.trans st2)
 | exit id => exact k _ s' a' w' Z' R' hQ sr st
 | ret => exact k _ s' a' w' Z' R' hQ sr st
theorem SemY.cond_true {x : Operand} (hx : opA E s.fr x = some (.v (.bool true))) (h : SemY E cx c s Q) : SemY E cx (.cond x c c') s Q :=
 fun ro base Qm a w Z R h1 h2 h3 k => wpIn_cond_true (opA_vr h2 _ _ hx).v_inv (h ro base Qm a w Z R h1 h2 h3 k)
theorem SemY.cond_false {x : Operand} (hx : opA E s.fr x = some (.v (.bool false))) (h : SemY E cx c' s Q) : SemY E cx (.cond x c c') s Q :=
 fun ro base Qm a w Z R h1 h2 h3 k => wpIn_cond_false (opA_vr h2 _ _ hx).v_inv (h ro base Qm a w Z R h1 h2 h3 k)
theorem SemY.cond {x : Operand} {b : Bool} (hx : opA E s.fr x = some (.v (.bool b))) (h : b = true → SemY E cx c s Q) (h' : b = false → SemY E cx c' s Q) : SemY E cx (.cond x c c') s Q := by
 cases b with
 | true => exact .cond_true hx (h rfl)
 | false => exact .cond_false hx (h' rfl)
theorem SemY.block {id : Nat} (h : SemY E cx c s fun e s' => match e with | .exit id' => if id' = id then Q .normal s' else Q (.exit id') s' | e => Q e s') : SemY E cx (.block id c) s Q := by
 intro ro base Qm a w Z R h1 h2 h3 k
 refine wpIn_block (h ro base _ a w Z R h1 h2 h3 fun e s' a' w' Z' R' hQ sr st => ?_)
 cases e with
 | normal => exact k _ s' a' w' Z' R' hQ sr st
 | exit id' =>
  show if id' = id then Qm .normal a' w' else Qm (.exit id') a' w'
  simp only at hQ
  split at hQ
  ·next h => rw [if_pos h]; exact k .normal s' a' w' Z' R' hQ sr st
  ·next h => rw [if_neg h]; exact k _ s' a' w' Z' R' hQ sr st
 | ret => exact k _ s' a' w' Z' R' hQ sr st
theorem SemY.loop (h : SemYN E cx c n s Q) : SemY E cx (.loop c) s Q :=
 fun ro base Qm a w Z R h1 h2 h3 k => wpIn_loop_rounds n (h ro base Qm a w Z R h1 h2 h3 k)
theorem SemYN.succ (h : SemY E cx c s fun e s' => match e with | .normal => SemYN E cx c n s' Q | e => Q e s') : SemYN E cx c (n + 1) s Q := by
 intro ro base Qm a w Z R h1 h2 h3 k
 show c.wpIn (Fw ro) 0 E.P (Exit.then (Code.roundsIn (Fw ro) 0 E.P c Qm n) Qm) a w
 refine h ro base _ a w Z R h1 h2 h3 fun e s' a' w' Z' R' hQ sr st => ?_
 cases e with
 | normal => exact hQ ro base Qm a' w' Z' R' h1 sr (h3.step h2.hh st) fun e2 s2 a2 w2 Z2 R2 hQ2 sr2 st2 => k e2 s2 a2 w2 Z2 R2 hQ2 sr2 (st.trans st2)
 | exit id => exact k _ s' a' w' Z' R' hQ sr st
 | ret => exact k _ s' a' w' Z' R' hQ sr st
theorem SemY.mono (h : SemY E cx c s Q) (hq : ∀ e s, Q e s → Q' e s) : SemY E cx c s Q' :=
 fun ro base Qm a w Z R h1 h2 h3 k => h ro base Qm a w Z R h1 h2 h3 fun e s' a' w' Z' R' hQ => k e s' a' w' Z' R' (hq e s' hQ)
theorem WkY.refl : WkY E s s := fun _ _ Z R _ h => ⟨Z, R, h, Step.refl _ _ _ _⟩
theorem WkY.trans {s2 : St} (h : WkY E s s1) (h' : WkY E s1 s2) : WkY E s s2 := fun base w Z R a k =>
 let ⟨Z1, R1, k1, st1⟩ := h base w Z R a k
 let ⟨Z2, R2, k2, st2⟩ := h' base w Z1 R1 a k1
 ⟨Z2, R2, k2, st1.trans st2⟩
theorem WkY.fr (h : lkAll l l' = xsAll l') : WkY E ⟨Fr n l, hp⟩ ⟨Fr n l', hp⟩ := fun base w Z R a sr => by
 refine ⟨Z, R, ⟨sr.hh, ⟨?_, fun t x hx => sr.fr.2 t x ?_⟩, sr.mks, sr.gl, sr.bs⟩, Step.refl _ _ _ _⟩
 ·rw [Fr_len]; have := sr.fr.1; rw [Fr_len] at this; exact this
 ·rw [Fr_get] at hx ⊢
  split at hx
  ·next ht => rw [if_pos ht]; injection hx with hx; rw [lk_mem h hx]
  ·cases hx
theorem WkY.f1 {E : Env} {n : Nat} {l l' : List (Nat × AV)} {hp : Hp} (h : lkAll l l' = xsAll l' := by kernel_rfl) : WkY E ⟨Fr n l, hp⟩ ⟨Fr n l', hp⟩ := WkY.fr h
theorem SemY.wk (hw : WkY E s s1) (h : SemY E cx c s1 Q) : SemY E cx c s Q := by
 intro ro base Qm a w Z R h1 h2 h3 k
 obtain ⟨Z', R', h2', st⟩ := hw base w Z R a h2
 exact h ro base Qm a w Z' R' h1 h2' (h3.step h2.hh st) fun e s' a' w' Z2 R2 hQ sr st2 => k e s' a' w' Z2 R2 hQ sr (st.trans st2)
theorem SemYN.wk (hw : WkY E s s1) (h : SemYN E cx c n s1 Q) : SemYN E cx c n s Q := by
 intro ro base Qm a w Z R h1 h2 h3 k
 obtain ⟨Z', R', h2', st⟩ := hw base w Z R a h2
 exact h ro base Qm a w Z' R' h1 h2' (h3.step h2.hh st) fun e s' a' w' Z2 R2 hQ sr st2 => k e s' a' w' Z2 R2 hQ sr (st.trans st2)
theorem SemY.fr (h : lkAll l l' = xsAll l') (k : SemY E cx c ⟨Fr n l', hp⟩ Q) : SemY E cx c ⟨Fr n l, hp⟩ Q := SemY.wk (WkY.fr h) k
theorem RunY.done (hr : rest = []) (k : K s) : RunY E cx ops rest s K := by
 subst hr
 exact fun ro base Q a w Z R _ sr _ q => q s a w Z R k sr (Step.refl _ _ _ _)
theorem RunY.app (hE : EnvOk E) (n : Nat) : ∀ {pre : List Oper} {s : St}, opsA E (evC E n) ⟨none, false⟩ ops pre s = some s1 → RunY E cx ops rest s1 K → RunY E cx ops (pre ++ rest) s K
 | [], s, e, k => by injection e with e; subst e; exact k
 | o :: pre, s, e, kk => by
  intro ro base Q a w Z R hro sr hy q
  show wpListIn (Fw ro) 0 E.P ops Q (o :: (pre ++ rest)) a w
  unfold opsA at e
  unfold wpListIn
  split at e
  ·cases e
  ·next hw =>
   rw [if_neg (by rw [wantedA_eq sr hw]; simp)]
   exact ⟨fun _ _ => trivial, RunY.app hE n e kk ro base Q _ w Z R hro (sr.put undef_vr) hy q⟩
  ·next hw =>
   rw [if_pos (wantedA_eq sr hw)]
   split at e
   ·next s2 hs2 => exact lw_wpIn ro (op1_lw hE (code_sound hE n).1 hs2 sr fun a' w' Z' R' sr' st => RunY.app hE n e kk ro base Q a' w' Z' R' hro sr' (hy.step sr.hh st) fun s'' a'' w'' Z'' R'' hK sr'' st' => q s'' a'' w'' Z'' R'' hK sr'' (st.trans st'))
   ·cases e
theorem RunY.one (hE : EnvOk E) (n : Nat) {o : Oper} (hr : rest = o :: rest') (h : opsA E (evC E n) ⟨none, false⟩ ops [o] s = some s1) (k : RunY E cx ops rest' s1 K) : RunY E cx ops rest s K := by
 subst hr
 exact RunY.app hE n (pre := [o]) h k
theorem RunY.call {α β : Type} {s : Cs α} {F : α → Option β} {er : β → AV} {a : α} {b : β} {xs : List AV} (hE : EnvOk E) {d : Nat} {f : Operand} {args : Array Operand} {tys : Array TypeId} {ty : TypeId} {pos : String} {af : Array Edge} {g : Option (Nat × Bool)} {fid : FuncId} (hr : rest = ⟨some d, .call ⟨.value f, args, tys⟩, ty, pos, af, g⟩ :: rest') (hw : wantedA ops (Fr n l) ⟨some d, .call ⟨.value f, args, tys⟩, ty, pos, af, g⟩ = some true)
  (hf : opA E (Fr n l) f = some (.fn fid [] [])) (hi : E.I fid = false) (hX : E.X fid = some (told s F er)) (ha : opds (opA E (Fr n l)) args.toList = some xs) (hv : Sns hp s xs a) (hok : xs.all noRf2 = true ∨ flatTp (er b) = true) (hF : F a = some b) (k : RunY E cx ops rest' ⟨Fr n ((d, er b) :: l), hp⟩ K) : RunY E cx ops rest ⟨Fr n l, hp⟩ K :=
 RunY.one hE 0 hr (op_call hw hf hi hX ha hv hok hF) k
theorem SemY.region (h : RunY E cx ops ops.toList s fun s' => Q .normal s') : SemY E cx (.region id ops false) s Q := by
 intro ro base Qm a w Z R h1 h2 h3 kk
 exact wpIn_region_list (h ro base _ a w Z R h1 h2 h3 fun s' a' w' Z' R' hq sr st => kk .normal s' a' w' Z' R' hq sr st)
end
def pz : List Nat → List AV → List (Nat × AV) → List (Nat × AV)
 | p :: ps, x :: xs, l => pz ps xs ((p, x) :: l)
 | _, _, l => l
theorem setPs_Fr {n : Nat} : ∀ {ps : List Nat} {xs : List AV} {l : List (Nat × AV)}, setPs (Fr n l) ps xs = Fr n (pz ps xs l)
 | [], _, _ => by unfold setPs pz; rfl
 | _ :: _, [], _ => by unfold setPs pz; rfl
 | p :: ps, x :: xs, l => by
  unfold setPs pz
  rw [show (Fr n l).set p (some x) = Fr n ((p, x) :: l) from putA_Fr n l p x]
  exact setPs_Fr
/-- A function, entered: what its body does. -/
theorem ret_semY {e : Env} (he : EnvOk e) {y : Option YC} {f : FuncId} {fn : Func} {c : Code} (hfn : e.fn f = some fn) (hc : fn.body = some c) {args : List AV} (hle : args.length ≤ fn.ntmps) {hp : Hp} {Out : AV → Hp → Prop}
  (sem : SemY e ⟨y, false⟩ c ⟨Fr fn.ntmps (pairs0 0 args), hp⟩ fun x s' => (x = .normal ∨ x = .ret) ∧ ∃ ys, resA e.P s'.fr s'.hp fn.results.toList = some ys ∧ Out (retA ys) s'.hp)
  {w : World} {Z : Nat → Prop} {R : List RI} {us : List Value} (hh : HR w Z R hp) (hv : VRs w Z R args us) (hg : GI e w Z) (hy : YI ⟨y, false⟩ w Z R hp) :
  Ret e.P f us.toArray w fun v w' => ∃ Z' R' x h', Out x h' ∧ HR w' Z' R' h' ∧ VR w' Z' R' x v ∧ Step w Z R hp w' Z' R' h' := by
 obtain ⟨hff, hcall, _⟩ := he.fn f fn hfn
 refine callsIn_wide.1 (callsIn_of_wp_marks (F := Fw none) (n := 0) hff hc trivial ?_)
 have hul : us.length = args.length := hv.len
 have hsr : SR e (.of w.heap.size) w Z R ⟨Fr fn.ntmps (pairs0 0 args), hp⟩ { tmps := us.toArray ++ Array.replicate (fn.ntmps - us.toArray.size) undef, defers := [] } := by
  refine ⟨hh, ⟨by rw [Fr_len]; simp; omega, fun t x hx => ?_⟩, rfl, hg, Nat.le_refl _⟩
  rw [Fr_get] at hx
  split at hx
  ·injection hx with hx
   obtain ⟨j, h1, h2⟩ := lk_pairs0 _ 0 t x hx
   rw [Nat.zero_add] at h1
   subst h1
   obtain ⟨u, hu1, hu2⟩ := hv.get h2
   have e0 : us.toArray ++ Array.replicate (fn.ntmps - us.toArray.size) undef = (us ++ List.replicate (fn.ntmps - us.length) undef).toArray := by simp
   rw [e0, Array.getD_eq_getD_getElem?, List.getElem?_toArray, List.getElem?_append_left (List.getElem?_eq_some_iff.1 hu1).1, hu1]
   exact hu2
  ·cases hx
 refine sem none (.of w.heap.size) _ _ w Z R (fun _ => rfl) hsr hy fun x s' a' w' Z' R' hQ sr' st => ?_
 obtain ⟨hex, ys, hys, hO⟩ := hQ
 have hl := leaves_mks (base := .of w.heap.size) rfl (E := e) (w := w') (a := a') (fn := fn) (S := fun v w'' => ∃ Z' R' x h', Out x h' ∧ HR w'' Z' R' h' ∧ VR w'' Z' R' x v ∧ Step w Z R hp w'' Z' R' h') hys (fun w'' u g1 g2 g3 g4 g5 g6 g7 => ⟨Z', R', _, _, hO, g6, g7, ⟨g2.trans st.os, g3.trans st.tape, g4.trans st.output, by rw [g1]; exact st.size, fun c hc hn => (g5 c hc).trans (st.block c hc hn), st.own_, st.z, st.z', st.r⟩⟩) (D := a'.defers) (w1 := w') sr' rfl rfl rfl rfl (fun _ _ => rfl)
 rcases hex with rfl | rfl
 ·exact hl
 ·exact hl
section
variable {E : Env} {cx : Cx} {ops : Array Oper} {rest rest' : List Oper} {K : St → Prop} {n : Nat} {l : List (Nat × AV)} {hp : Hp}
/-- Only the first m blocks are kept. -/
theorem HR.trunc {w0 w : World} {Z0 Z : Nat → Prop} {R0 R : List RI} {h0 h h' : Hp} {m : Nat} (st : Step w0 Z0 R0 h0 w Z R h) (hl0 : R0.length = h0.length) (hm0 : h0.length ≤ m) (hh : HR w Z R h) (hm : (Nat.ble m h.length && Nat.ble h.length 1000000000) = true) (hk : HpUp (List.range m) h (List.range m) h') :
  HR w Z (newR (List.range m) R) h' ∧ Step w0 Z0 R0 h0 w Z (newR (List.range m) R) h' := by
 simp only [Bool.and_eq_true] at hm
 have hm1 := Nat.le_of_ble_eq_true hm.1
 have hb := Nat.le_of_ble_eq_true hm.2
 have hlen := hh.len
 obtain ⟨k1, k2⟩ := hk.at_
 rw [List.length_range] at k1
 have hι : ∀ i ∈ List.range m, i < R.length := fun i hi => by have := List.mem_range.1 hi; omega
 have hbR : R.length ≤ 1000000000 := by omega
 have hget : ∀ j, j < m → (newR (List.range m) R)[j]? = R[j]? := fun j hj => by
  unfold newR
  rw [List.getElem?_map, List.getElem?_range hj, Option.map_some, List.getD_eq_getElem?_getD, List.getElem?_eq_getElem (by omega : j < R.length)]; rfl
 have hrange : ∀ (j b : Nat), (List.range m)[j]? = some b → j < m ∧ b = j := fun j b hj => by
  obtain ⟨h1, h2⟩ := List.getElem?_eq_some_iff.1 hj
  rw [List.length_range] at h1
  rw [List.getElem_range] at h2
  exact ⟨h1, h2.symm⟩
 have hown : ∀ c, own (newR (List.range m) R) h' c → own R h c := fun c ⟨j, B, r, h1, h2, h3, h4⟩ => by
  obtain ⟨b, q1, q2, _⟩ := k2 j B h1
  obtain ⟨hj, rfl⟩ := hrange _ _ q1
  rw [hget b hj] at h3
  exact ⟨b, _, r, q2, h2, h3, h4⟩
 refine ⟨⟨by rw [k1]; simp [newR], fun j B hB => ?_, fun j j' B B' r r' hB hf hB' hf' h1 h2 e => ?_, hh.zlt⟩, ⟨st.os, st.tape, st.output, st.size, st.block, fun c hc => st.own_ c (hown c hc), st.z, st.z', fun i x hi => ?_⟩⟩
 ·obtain ⟨b, q1, q2, q3⟩ := k2 j B hB
  obtain ⟨hj, rfl⟩ := hrange _ _ q1
  obtain ⟨r, arr, us, g1, g2, g3, g4, g5, g6, g7, g8, g9, g10⟩ := hh.blk b _ q2
  refine ⟨r, arr, us, (hget b hj).trans g1, g2, g3, g4, by simpa using g5, g6, g7, g8, ⟨by have := g9.len; simpa using this, fun i x u hx hu => ?_⟩, g10⟩
  exact up_vr hι hbR (q3 x (List.mem_of_getElem? hx)) (g9.at_ i _ u (by simp [hx]) hu)
 ·obtain ⟨b, q1, q2, _⟩ := k2 j B hB
  obtain ⟨b', q1', q2', _⟩ := k2 j' B' hB'
  obtain ⟨hj, rfl⟩ := hrange _ _ q1
  obtain ⟨hj', rfl⟩ := hrange _ _ q1'
  rw [hget b hj] at h1
  rw [hget b' hj'] at h2
  exact hh.inj b b' _ _ r r' q2 hf q2' hf' h1 h2 e
 ·have := (List.getElem?_eq_some_iff.1 hi).1
  rw [hget i (by omega)]
  exact st.r i x hi
/-- .. in the midst of such a body: what it made is dropped. -/
theorem RunY.inl (hP : E.P = E0.P) (hG : E.G = E0.G) {e : Env} (he : EnvOk e) (heP : e.P = E0.P) (heG : e.G = E0.G) {d : Nat} {f : Operand} {args : Array Operand} {tys : Array TypeId} {ty : TypeId} {pos : String} {af : Array Edge} {g : Option (Nat × Bool)} {fid : FuncId} {caps xs : List AV} {fn : Func} {c : Code} {Out : AV → Hp → Prop} (m : Nat) (hm0 : hp.length = m) (hr : rest = ⟨some d, .call ⟨.value f, args, tys⟩, ty, pos, af, g⟩ :: rest') (hw : wantedA ops (Fr n l) ⟨some d, .call ⟨.value f, args, tys⟩, ty, pos, af, g⟩ = some true)
  (hf : opA E (Fr n l) f = some (.fn fid [] caps)) (ha : opds (opA E (Fr n l)) args.toList = some xs) (hfn : e.fn fid = some fn) (hc : fn.body = some c) (hle : (xs ++ caps).length ≤ fn.ntmps)
  (sem : SemY e ⟨none, false⟩ c ⟨Fr fn.ntmps (pairs0 0 (xs ++ caps)), hp⟩ fun x s' => (x = .normal ∨ x = .ret) ∧ ∃ ys, resA e.P s'.fr s'.hp fn.results.toList = some ys ∧ Out (retA ys) s'.hp)
  (k : ∀ x h', Out x h' → ∃ h'', (Nat.ble m h'.length && Nat.ble h'.length 1000000000) = true ∧ HpUp (List.range m) h' (List.range m) h'' ∧ (up (List.range m) x = x ∧ flat2 x = true) ∧ RunY E cx ops rest' ⟨Fr n ((d, x) :: l), h''⟩ K) : RunY E cx ops rest ⟨Fr n l, hp⟩ K := by
 obtain ⟨P, fns, G, X, I⟩ := E
 obtain ⟨P', fns', G', X', I'⟩ := e
 simp only at hP hG heP heG
 subst hP hG heP heG
 subst hr
 intro ro base Q a w Z R hro sr hy q
 have hρ : ∀ o x, opA ⟨E0.P, fns, E0.G, X, I⟩ (Fr n l) o = some x → VR w Z R x (a.eval o) := fun o x e => opA_vr sr o x e
 unfold wpListIn
 rw [if_pos (wantedA_eq sr hw)]
 refine lw_wpIn ro ?_
 have hvf := hρ _ _ hf
 generalize hvq : a.eval f = vf at hvf
 cases hvf with
 | fn hl hl' hx hy' =>
  rename_i u1 u2
  have e1 : u1 = [] := by simpa using hl
  subst e1
  obtain ⟨hff, hcall, _⟩ := he.fn fid fn hfn
  unfold Lw
  rw [run_call (uf := []) (uc := u2) rfl hvq rfl hcall w]
  simp only [List.nil_append]
  have hargs : VRs w Z R (xs ++ caps) (args.toList.map a.eval ++ u2) := (opds_vr hρ ha).append ⟨hl', hy'⟩
  refine Ret.mono (ret_semY he hfn hc hle sem sr.hh hargs sr.gl (fun y hy => by cases hy)) fun v w' hS => ?_
  obtain ⟨Z', R', x, h', hO, h1, h2, st⟩ := hS
  obtain ⟨h'', hm, hk, ⟨hx1, hx2⟩, kk⟩ := k x h' hO
  have hl1 : R.length = hp.length := sr.hh.len
  obtain ⟨j1, j2⟩ := HR.trunc st hl1 (Nat.le_of_eq hm0) h1 hm hk
  simp only [Bool.and_eq_true] at hm
  have hm1 := Nat.le_of_ble_eq_true hm.1
  have hm2 := Nat.le_of_ble_eq_true hm.2
  have hl2 := h1.len
  have hvx : VR w' Z' (newR (List.range m) R') x v := up_vr (fun i hi => by have := List.mem_range.1 hi; omega) (by omega) hx2 (by rw [hx1]; exact h2)
  have sr' := (sr.step j1 j2).put (d := some d) hvx
  rw [show putA (⟨Fr n l, hp⟩ : St).fr (some d) x = Fr n ((d, x) :: l) from putA_Fr n l d _] at sr'
  exact kk ro base Q _ w' Z' _ hro sr' (hy.step sr.hh j2) fun s' a' w'' Z'' R'' hK sr'' st' => q s' a' w'' Z'' R'' hK sr'' (j2.trans st')
/-- A yield: a round of the range that is under way. -/
theorem RunY.yield (hP : E.P = E0.P) (hG : E.G = E0.G) {eb : Env} (hbP : eb.P = E0.P) (hbG : eb.G = E0.G) {y : YC} (hcx : cx.y = some y) (hin : cx.inR = false) {d : Nat} {f : Operand} {args : Array Operand} {tys : Array TypeId} {ty : TypeId} {pos : String} {af : Array Edge} {g : Option (Nat × Bool)} {xs : List AV} {K1 : Hp → Prop} (hr : rest = ⟨some d, .call ⟨.value f, args, tys⟩, ty, pos, af, g⟩ :: rest') (hw : wantedA ops (Fr n l) ⟨some d, .call ⟨.value f, args, tys⟩, ty, pos, af, g⟩ = some true)
  (hf : opA E (Fr n l) f = some (.yl y.b)) (ha : opds (opA E (Fr n l)) args.toList = some xs) (hlen : xs.length = y.ps.length) {n0 : Nat} {l0 : List (Nat × AV)} (hfr : y.fr = Fr n0 l0)
  (hb : SemY eb ⟨none, true⟩ y.assign ⟨Fr n0 (pz y.ps xs l0), hp⟩ fun e s1 => e = .normal ∧ SemY eb ⟨none, true⟩ y.body s1 fun e s2 => e = .normal ∧ K1 s2.hp)
  (k : ∀ h', K1 h' → RunY E cx ops rest' ⟨Fr n ((d, .v (.bool true)) :: l), h'⟩ K) : RunY E cx ops rest ⟨Fr n l, hp⟩ K := by
 obtain ⟨P, fns, G, X, I⟩ := E
 obtain ⟨P', fns', G', X', I'⟩ := eb
 simp only at hP hG hbP hbG
 subst hP hG hbP hbG
 subst hr
 intro ro base Q a w Z R hro sr hy q
 have hρ : ∀ o x, opA ⟨E0.P, fns, E0.G, X, I⟩ (Fr n l) o = some x → VR w Z R x (a.eval o) := fun o x e => opA_vr sr o x e
 unfold wpListIn
 rw [if_pos (wantedA_eq sr hw)]
 have hro' := hro hin
 subst hro'
 have hvs := opds_vr hρ ha
 have hvf := hρ _ _ hf
 have hyy := hy
 obtain ⟨d1, d2, r, L, g1, g2, g3, g4, g5, g6, g7, g8, g9, g10⟩ := hy y hcx
 generalize hvq : a.eval f = vf at hvf
 cases hvf with
 | yl hr =>
  rename_i r'
  rw [g1] at hr
  injection hr with hr
  subst hr
  generalize hus : args.toList.map a.eval = us at hvs
  have hargs : args.map a.eval = us.toArray := by
   apply Array.ext'
   rw [← hus, Array.toList_map]
  have hps : us.toArray.size = L.params.size := by rw [g7]; simp [hvs.len, hlen]
  have hrun : (execOp a.eval (⟨some d, .call ⟨.value f, args, tys⟩, ty, pos, af, g⟩ : Oper)).run E0.P w = .ok (.round r.c L.fn ((L.params.zip us.toArray).foldl (fun tmps (t, a) => tmps.setIfInBounds t a) L.tmps) L.assign L.body) w := by
   simp only [execOp, resolve, hvq, hargs, Deferred.ofValue]
   rw [Sem.run_bind, Sem.run_pure]
   simp only [Result.andThen, invoke, Array.empty_append]
   exact run_yield g4 hps
  refine ⟨fun _ _ => trivial, ?_⟩
  rw [show (Fw none).round = none from rfl, semAt_run none hrun (by simp), Oper.uponIn_round]
  refine ⟨(fun h => by cases h), ?_⟩
  refine roundIn_of_wpIn (F := Fw none) trivial ?_
  rw [g8, g9]
  have hfr0 : FrR w Z R (setPs y.fr y.ps xs) ((L.params.zip us.toArray).foldl (fun tmps (t, a) => tmps.setIfInBounds t a) L.tmps) := by
   have := setPs_fr (ps := y.ps) g10 hvs
   have e0 : (L.params.zip us.toArray).foldl (fun tmps (t, a) => tmps.setIfInBounds t a) L.tmps = (y.ps.zip us).foldl (fun tmps (x : Tmp × Value) => tmps.setIfInBounds x.1 x.2) L.tmps := by
    rw [g7, ← Array.foldl_toList]; simp
   rw [e0]; exact this
  rw [hfr, setPs_Fr] at hfr0
  have hlt := heapLt g4
  refine hb (some r.c) (.of 0) _ { tmps := _, defers := [] } w Z R (fun h => by cases h) ⟨sr.hh, hfr0, rfl, sr.gl, Nat.zero_le _⟩ (fun y hy => by cases hy) fun e1 s1 a1 w1 Z1 R1 hQ1 sr1 st1 => ?_
  obtain ⟨rfl, hb2⟩ := hQ1
  obtain ⟨p1, p2, p3⟩ := st1.other g4 g2 g3
  refine ⟨_, run_beginRound p1 g5, ?_⟩
  have hlt1 := heapLt p1
  have hb1 : ∀ c, (Z1 c ∨ own R1 s1.hp c) → (w1.putObj r.c (.loop { L with state := .busy })).heap[c]? = w1.heap[c]? := fun c hc => put_ne (fun e => by subst e; exact hc.elim p2 p3)
  have hh2 := sr1.hh.off (put_size _ _ _) hb1
  refine hb2 (some r.c) (.of 0) _ a1 _ Z1 R1 (fun h => by cases h) ⟨hh2, sr1.fr.off fun c hc => hb1 c (.inl hc), ?_, sr1.gl.off fun c hc => hb1 c (.inl hc), Nat.zero_le _⟩ (fun y hy => by cases hy) fun e2 s2 a2 w3 Z3 R3 hQ2 sr3 st3 => ?_
  ·exact sr1.mks.put (Mks.no (by rw [p1]; intro e; cases e) sr1.mks)
  ·obtain ⟨rfl, hK1⟩ := hQ2
   have hput : (w1.putObj r.c (.loop { L with state := .busy })).heap[r.c]? = some (.loop { L with state := .busy }) := World.putObj_heap_same hlt1
   obtain ⟨q1, q2, q3⟩ := st3.other hput p2 p3
   have hlt3 := heapLt q1
   refine ⟨_, _, run_endRound none q1, ?_⟩
   have hb3 : ∀ c, (Z3 c ∨ own R3 s2.hp c) → (w3.putObj r.c (.loop { { L with state := .busy } with state := if (none : Option Code).isNone then .ready else .done, pending := none })).heap[c]? = w3.heap[c]? := fun c hc => put_ne (fun e => by subst e; exact hc.elim q2 q3)
   have hL : ({ { L with state := .busy } with state := if (none : Option Code).isNone then .ready else .done, pending := none } : Loop) = L := by
    cases L; simp at g5 g6; subst g5 g6; rfl
   have stF : Step w Z R hp (w3.putObj r.c (.loop { { L with state := .busy } with state := if (none : Option Code).isNone then .ready else .done, pending := none })) Z3 R3 s2.hp := by
    refine ⟨?_, ?_, ?_, ?_, fun c hc hn => ?_, fun c hc => ?_, fun c hc => st3.z c (st1.z c hc), fun c hc => ?_, fun i q hq => st3.r i q (st1.r i q hq)⟩
    ·exact st3.os.trans st1.os
    ·exact st3.tape.trans st1.tape
    ·exact st3.output.trans st1.output
    ·rw [put_size]
     have := st3.size
     rw [put_size] at this
     exact Nat.le_trans st1.size this
    ·by_cases hcr : c = r.c
     ·subst hcr
      rw [World.putObj_heap_same hlt3, hL]
      exact g4.symm
     ·rw [put_ne hcr]
      have hc1 : c < w1.heap.size := Nat.lt_of_lt_of_le hc st1.size
      have hno : ¬ own R1 s1.hp c := fun ho => by
       rcases st1.own_ c ho with h1 | h1
       ·exact hn h1
       ·omega
      rw [st3.block c (by rw [put_size]; exact hc1) hno, put_ne hcr]
      exact st1.block c hc hn
    ·rcases st3.own_ c hc with h1 | h1
     ·exact st1.own_ c h1
     ·rw [put_size] at h1; exact .inr (Nat.le_trans st1.size h1)
    ·rcases st3.z' c hc with h1 | h1 | h1
     ·exact st1.z' c h1
     ·rcases st1.own_ c h1 with h2 | h2
      ·exact .inr (.inl h2)
      ·exact .inr (.inr h2)
     ·rw [put_size] at h1; exact .inr (.inr (Nat.le_trans st1.size h1))
   have sr' := (sr.step (sr3.hh.off (put_size _ _ _) hb3) stF).put (d := some d) (x := .v (.bool true)) (u := .bool true) (.v rfl)
   rw [show putA (⟨Fr n l, hp⟩ : St).fr (some d) (.v (.bool true)) = Fr n ((d, .v (.bool true)) :: l) from putA_Fr n l d _] at sr'
   exact k s2.hp hK1 none base Q _ _ Z3 R3 hro sr' (hyy.step sr.hh stF) fun s' a' w'' Z'' R'' hK sr'' st' => q s' a' w'' Z'' R'' hK sr'' (stF.trans st')
/-- A range over a function. -/
theorem Sem.range {cx : Cx} {Q : Ex → St → Prop} (hP : E.P = E0.P) (hG : E.G = E0.G) {e : Env} (he : EnvOk e) (heP : e.P = E0.P) (heG : e.G = E0.G) (hin : cx.inR = false) {f : Operand} {ps : Array Tmp} {assign body : Code} {gid : FuncId} {caps : List AV} {fn : Func} {c : Code} {Out : AV → Hp → Prop} (hd1 : drawOk assign = true) (hd2 : drawOk body = true)
  (hf : opA E (Fr n l) f = some (.fn gid [] caps)) (hfn : e.fn gid = some fn) (hc : fn.body = some c) (hle : (.yl hp.length :: caps).length ≤ fn.ntmps)
  (sem : SemY e ⟨some ⟨hp.length, Fr n l, ps.toList, assign, body⟩, false⟩ c ⟨Fr fn.ntmps (pairs0 0 (.yl hp.length :: caps)), hp ++ [none]⟩ fun x s' => (x = .normal ∨ x = .ret) ∧ ∃ ys, resA e.P s'.fr s'.hp fn.results.toList = some ys ∧ Out (retA ys) s'.hp)
  (k : ∀ x h', Out x h' → Q .normal ⟨Fr n l, h'⟩) : Sem E cx (.rangeFunc f ps assign body) ⟨Fr n l, hp⟩ Q := by
 obtain ⟨P, fns, G, X, I⟩ := E
 obtain ⟨P', fns', G', X', I'⟩ := e
 simp only at hP hG heP heG
 subst hP hG heP heG
 intro ro base Qm a w Z R h1 sr h3 kk
 have hro := h1 hin
 subst hro
 have hvf : VR w Z R (.fn gid [] caps) (a.eval f) := opA_vr sr _ _ hf
 generalize hva : a.eval f = va at hvf
 cases hvf with
 | fn hl hl' hx hy' =>
  rename_i uf uc
  have e1 : uf = [] := by simpa using hl
  subst e1
  refine wpIn_rangeFunc fun fnn _ => ?_
  obtain ⟨hff, hcall, _⟩ := he.fn gid fn hfn
  obtain ⟨L, hL⟩ : ∃ L : Loop, L = { state := .ready, pending := none, fn := fnn, tmps := a.tmps, params := ps, assign, body, defers := w.heap.size } := ⟨_, rfl⟩
  obtain ⟨w1, hw1⟩ : ∃ w1, w1 = (w.alloc (.deferred (some []))).alloc (.loop L) := ⟨_, rfl⟩
  have hsz : w1.heap.size = w.heap.size + 2 := by rw [hw1]; simp
  have hg1 : w.grownBy w1 none := by
   rw [hw1]
   refine ⟨rfl, rfl, rfl, by simp; omega, fun c hc _ => ?_⟩
   rw [heap_alloc_old _ _ (by simp; omega), heap_alloc_old _ _ hc]
  have hmk : w1.heap[w.heap.size]? = some (.deferred (some [])) := by
   rw [hw1, heap_alloc_old _ _ (by simp)]; exact heap_alloc_new w _
  have hlp : w1.heap[w.heap.size + 1]? = some (.loop L) := by
   rw [hw1]
   have := heap_alloc_new (w.alloc (.deferred (some []))) (.loop L)
   simpa using this
  have hh1 := sr.hh.keep (w' := w1) hg1.size (fun c hc => hg1.block c hc (by simp))
  have st0 : Step w Z R hp w1 Z R hp := ⟨hg1.os, hg1.tape, hg1.output, hg1.size, fun c hc _ => hg1.block c hc (by simp), fun _ h => .inl h, fun _ h => h, fun _ h => .inl h, fun _ _ h => h⟩
  obtain ⟨hh2, st2, hlast, hown2⟩ := hh1.dead (r := ⟨w.heap.size + 1, 0, 0⟩)
  have st02 := st0.trans st2
  have hnz : ∀ c, w.heap.size ≤ c → ¬ Z c := fun c hc hz => by have := sr.hh.zlt c hz; omega
  have hno : ∀ c, w.heap.size ≤ c → ¬ own (R ++ [⟨w.heap.size + 1, 0, 0⟩]) (hp ++ [none]) c := fun c hc ho => by
   obtain ⟨b, B, r, q1, q2, q3, rfl⟩ := hown2 c ho
   have := sr.hh.rltL q1 q3; omega
  have hvs : VRs w1 Z (R ++ [⟨w.heap.size + 1, 0, 0⟩]) (.yl hp.length :: caps) (Value.func (.yield (w.heap.size + 1)) #[] #[] :: uc) :=
   .cons (.yl hlast) (VRs.step ⟨hl', hy'⟩ sr.hh st02)
  have hy : YI ⟨some ⟨hp.length, Fr n l, ps.toList, assign, body⟩, false⟩ w1 Z (R ++ [⟨w.heap.size + 1, 0, 0⟩]) (hp ++ [none]) := by
   intro y hy
   injection hy with hy
   subst hy
   exact ⟨hd1, hd2, _, L, hlast, hnz _ (by simp), hno _ (by simp), hlp, by rw [hL], by rw [hL], by rw [hL], by rw [hL], by rw [hL], by rw [hL]; exact sr.fr.step sr.hh st02⟩
  have hr := ret_semY he hfn hc hle sem hh2 hvs (sr.gl.step sr.hh st02) hy
  refine ⟨w.heap.size + 1, [mark w.heap.size], w1, { target := .fn (.func gid) uc.toArray, args := ([] : List Value).toArray ++ #[Value.func (.yield (w.heap.size + 1)) #[] #[]] }, w1, gid, (Value.func (.yield (w.heap.size + 1)) #[] #[] :: uc).toArray, w1, ?_, ?_, fun _ _ => trivial, ?_, (fun h => by cases h), ?_⟩
  ·rw [hw1, hL]; exact run_enterLoop_outer fnn a.tmps ps assign body
  ·simp [resolve, hva, Deferred.ofValue]
   rfl
  ·simp [invoke, hcall.run]
  ·refine callsIn_fw none _ (Ret.calls hr fun v w3 hS => ?_)
   obtain ⟨Z3, R3, x3, h', hO, hh3, _, st3⟩ := hS
   obtain ⟨p1, p2, p3⟩ := st3.other hlp (hnz _ (by simp)) (hno _ (by simp))
   obtain ⟨m1, m2, m3⟩ := st3.other hmk (hnz _ (Nat.le_refl _)) (hno _ (Nat.le_refl _))
   refine ⟨_, _, run_endLoop p1 (by rw [hL]; simp), ?_⟩
   have hpend : L.pending = none := by rw [hL]
   split
   rotate_left
   ·next hc => rw [hpend] at hc; cases hc
   have hb : ∀ c, (Z3 c ∨ own R3 h' c) → (w3.putObj (w.heap.size + 1) (.loop { L with state := .exhausted })).heap[c]? = w3.heap[c]? := fun c hc => put_ne (fun e => by subst e; exact hc.elim p2 p3)
   have st03 := st02.trans st3
   refine kk .normal ⟨Fr n l, h'⟩ _ _ Z3 R3 (k x3 h' hO) ⟨hh3.off (put_size _ _ _) hb, (sr.fr.step sr.hh st03).off fun c hc => hb c (.inl hc), ?_, (sr.gl.step sr.hh st03).off fun c hc => hb c (.inl hc), ?_⟩ (Step.w ⟨st03.os, st03.tape, st03.output, ?_, fun c hc hn => ?_, st03.own_, st03.z, st03.z', st03.r⟩)
   ·refine .inr ⟨⟨w.heap.size, sr.bs, rfl, (put_ne (by omega)).trans m1, m2, m3, fun d hd e => ?_⟩, ?_⟩
    ·exact Mks.no (fun e => by have := heapLt e; omega) sr.mks d hd e
    ·exact Mks.put (sr.mks.step st03) (Mks.no (fun e => by have := heapLt e; omega) sr.mks)
   ·rw [put_size]; exact Nat.le_trans sr.bs st03.size
   ·rw [put_size]; exact st03.size
   ·rw [put_ne (by omega)]; exact st03.block c hc hn
end
/-- A block that a call made is given up. -/
theorem SOk.kill {f : FuncId} {ys : List AV} {Out Out2 : AV → Hp → Prop} (b : Nat) (hs : SOk f ys Out) (h : ∀ x h', Out x h' → Out2 x (h'.set b none)) : SOk f ys Out2 :=
 ⟨hs.1, fun w Z us hz hg hv => Ret.mono (hs.2 w Z us hz hg hv) fun v w' ⟨Z', R', x, h', hO, h1, h2, st⟩ =>
  let ⟨k1, k2⟩ := h1.kill b
  ⟨Z', R', x, h'.set b none, h x h' hO, k1, h2, st.trans k2.w⟩⟩
/-- How a Lean value is held by an abstract value and own blocks (the list tells which). -/
structure Oc (α : Type) where
 cd : Cd α
 at_ : Hp → AV → α → List Nat → Prop
 loc : ∀ {h h' : Hp} {e : AV} {x : α} {F : List Nat}, at_ h e x F → (∀ b ∈ F, h'[b]? = h[b]?) → at_ h' e x F
 own : ∀ {h : Hp} {e : AV} {x : α} {F : List Nat} {b : Nat}, at_ h e x F → b ∈ F → ∃ B, h[b]? = some (some B) ∧ B.fz = false
 vr : ∀ {w : World} {Z : Nat → Prop} {R : List RI} {h : Hp} {e : AV} {x : α} {F : List Nat} {u : Value}, HR w Z R h → at_ h e x F → VR w Z R e u → VR w (fun c => Z c ∨ ∃ b ∈ F, ∃ r, R[b]? = some r ∧ c = r.c) [] (cd.enc x) u
/-- A part of a heap. -/
structure Asn where
 at_ : Hp → List Nat → Prop
 loc : ∀ {h h' : Hp} {F : List Nat}, at_ h F → (∀ b ∈ F, h'[b]? = h[b]?) → at_ h' F
 own : ∀ {h : Hp} {F : List Nat} {b : Nat}, at_ h F → b ∈ F → ∃ B, h[b]? = some (some B) ∧ B.fz = false
def TF (h : Hp) : List Asn → List Nat → Prop
 | [], F => F = []
 | P :: L, F => ∃ F1 F2, F = F1 ++ F2 ∧ P.at_ h F1 ∧ TF h L F2
/-- The assertions hold of different blocks. -/
def T (h : Hp) (L : List Asn) : Prop := ∃ F, TF h L F ∧ F.Nodup
theorem get_lt {h : Hp} {b : Nat} {o : Option Blk} (e : h[b]? = some o) : b < h.length := (List.getElem?_eq_some_iff.1 e).1
theorem TF.loc {h h' : Hp} : ∀ {L : List Asn} {F : List Nat}, TF h L F → (∀ b ∈ F, h'[b]? = h[b]?) → TF h' L F
 | [], _, e, _ => e
 | _ :: _, _, ⟨F1, F2, e, p, q⟩, k => ⟨F1, F2, e, Asn.loc _ p (fun b hb => k b (by rw [e]; exact List.mem_append_left _ hb)), TF.loc q fun b hb => k b (by rw [e]; exact List.mem_append_right _ hb)⟩
theorem TF.own {h : Hp} : ∀ {L : List Asn} {F : List Nat} {b : Nat}, TF h L F → b ∈ F → ∃ B, h[b]? = some (some B) ∧ B.fz = false
 | [], _, _, e, hb => by rw [show _ = [] from e] at hb; cases hb
 | _ :: _, _, _, ⟨F1, F2, e, p, q⟩, hb => by
  rw [e] at hb
  rcases List.mem_append.1 hb with hb | hb
  ·exact Asn.own _ p hb
  ·exact TF.own q hb
theorem TF.lt {h : Hp} {L : List Asn} {F : List Nat} {b : Nat} (t : TF h L F) (hb : b ∈ F) : b < h.length := let ⟨_, e, _⟩ := t.own hb; get_lt e
theorem Asn.lt {P : Asn} {h : Hp} {F : List Nat} {b : Nat} (t : P.at_ h F) (hb : b ∈ F) : b < h.length := let ⟨_, e, _⟩ := P.own t hb; get_lt e
theorem TF.front {h : Hp} {P : Asn} : ∀ {i : Nat} {L : List Asn} {F : List Nat}, TF h L F → L[i]? = some P → ∃ F', TF h (P :: L.eraseIdx i) F' ∧ F'.Perm F
 | _, [], _, _, e => by simp at e
 | 0, Q :: L, F, t, e => by
  simp at e; subst e
  exact ⟨F, t, List.Perm.refl _⟩
 | i + 1, Q :: L, F, ⟨F1, F2, e0, p, q⟩, e => by
  obtain ⟨F', ⟨G1, G2, e1, p1, q1⟩, hp⟩ := TF.front q (by simpa using e)
  subst e0 e1
  refine ⟨G1 ++ (F1 ++ G2), ⟨G1, _, rfl, p1, F1, G2, rfl, p, q1⟩, ?_⟩
  have h1 : (G1 ++ (F1 ++ G2)).Perm (F1 ++ (G1 ++ G2)) := by
   rw [← List.append_assoc, ← List.append_assoc]
   exact List.Perm.append_right _ List.perm_append_comm
  exact h1.trans (List.Perm.append_left _ hp)
theorem T.front {h : Hp} {L : List Asn} {P : Asn} (i : Nat) (t : T h L) (e : L[i]? = some P) : T h (P :: L.eraseIdx i) :=
 let ⟨_, t1, hn⟩ := t; let ⟨F', t2, hp⟩ := t1.front e; ⟨F', t2, hp.nodup_iff.2 hn⟩
theorem nodup_app {F1 F2 : List Nat} : (F1 ++ F2).Nodup ↔ F1.Nodup ∧ F2.Nodup ∧ ∀ a ∈ F1, a ∉ F2 := by
 rw [List.nodup_append]
 constructor
 ·rintro ⟨h1, h2, h3⟩
  exact ⟨h1, h2, fun a ha hb => h3 a ha a hb rfl⟩
 ·rintro ⟨h1, h2, h3⟩
  exact ⟨h1, h2, fun a ha b hb e => h3 a ha (e ▸ hb)⟩
/-- The first assertion turns into another; the rest is as it was. -/
theorem T.act {h : Hp} {P : Asn} {L : List Asn} (t : T h (P :: L)) : ∃ F, P.at_ h F ∧ F.Nodup ∧ (∀ (h' : Hp) (P' : Asn) (F' : List Nat), P'.at_ h' F' → F'.Nodup → (∀ b, b ∉ F → b < h.length → h'[b]? = h[b]?) → (∀ b ∈ F', b ∈ F ∨ h.length ≤ b) → T h' (P' :: L)) ∧ ∀ h' : Hp, (∀ b, b ∉ F → b < h.length → h'[b]? = h[b]?) → T h' L := by
 obtain ⟨F, ⟨F1, F2, rfl, p, q⟩, hn⟩ := t
 obtain ⟨n1, n2, n3⟩ := nodup_app.1 hn
 have hq : ∀ h' : Hp, (∀ b, b ∉ F1 → b < h.length → h'[b]? = h[b]?) → TF h' L F2 := fun h' hs => q.loc fun b hb => hs b (fun hb1 => n3 b hb1 hb) (q.lt hb)
 refine ⟨F1, p, n1, fun h' P' F' p' hn' hs hb => ⟨F' ++ F2, ⟨F', F2, rfl, p', hq h' hs⟩, nodup_app.2 ⟨hn', n2, fun a ha ha2 => ?_⟩⟩, fun h' hs => ⟨F2, hq h' hs, n2⟩⟩
 rcases hb a ha with h1 | h1
 ·exact n3 a h1 ha2
 ·have := q.lt ha2; omega
theorem T.drop {h : Hp} {P : Asn} {L : List Asn} (t : T h (P :: L)) : T h L := let ⟨_, _, _, _, k⟩ := t.act; k h fun _ _ _ => rfl
/-- New blocks, a new assertion. -/
theorem T.add {h h' : Hp} {P : Asn} {L : List Asn} {F : List Nat} (t : T h L) (p : P.at_ h' F) (hn : F.Nodup) (hs : ∀ b, b < h.length → h'[b]? = h[b]?) (hb : ∀ b ∈ F, h.length ≤ b) : T h' (P :: L) := by
 obtain ⟨F2, q, n2⟩ := t
 exact ⟨F ++ F2, ⟨F, F2, rfl, p, q.loc fun b hb => hs b (q.lt hb)⟩, nodup_app.2 ⟨hn, n2, fun a ha ha2 => by have := hb a ha; have := q.lt ha2; omega⟩⟩
theorem T.nil {h : Hp} : T h [] := ⟨[], rfl, List.nodup_nil⟩
/-- Two assertions as one. -/
def star (P Q : Asn) : Asn where
 at_ h F := ∃ F1 F2, F = F1 ++ F2 ∧ P.at_ h F1 ∧ Q.at_ h F2
 loc := fun ⟨F1, F2, e, p, q⟩ k => ⟨F1, F2, e, P.loc p (fun b hb => k b (by rw [e]; exact List.mem_append_left _ hb)), Q.loc q fun b hb => k b (by rw [e]; exact List.mem_append_right _ hb)⟩
 own := fun ⟨F1, F2, e, p, q⟩ hb => by
  rw [e] at hb
  rcases List.mem_append.1 hb with hb | hb
  ·exact P.own p hb
  ·exact Q.own q hb
theorem T.join {h : Hp} {P Q : Asn} {L : List Asn} : T h (P :: Q :: L) ↔ T h (star P Q :: L) := by
 constructor
 ·rintro ⟨F, ⟨F1, F2, rfl, p, ⟨G1, G2, rfl, q, r⟩⟩, hn⟩
  exact ⟨_, ⟨F1 ++ G1, G2, (List.append_assoc _ _ _).symm, ⟨F1, G1, rfl, p, q⟩, r⟩, hn⟩
 ·rintro ⟨F, ⟨F1, F2, rfl, ⟨G1, G2, rfl, p, q⟩, r⟩, hn⟩
  exact ⟨_, ⟨G1, G2 ++ F2, List.append_assoc _ _ _, p, G2, F2, rfl, q, r⟩, hn⟩
/-- An own value. -/
def own_ {α : Type} (o : Oc α) (e : AV) (x : α) : Asn := ⟨fun h F => o.at_ h e x F, o.loc, o.own⟩
/-- A cell of its own (a variable that closures hold, a struct with an address). -/
def cel (p : AV) (k : Nat) (t : TypeId) (a : AV) : Asn where
 at_ h F := ∃ b, p = .pt b 0 0 ∧ F = [b] ∧ h[b]? = some (some ⟨k, t, [a], false⟩)
 loc := fun ⟨b, e1, e2, e3⟩ k => ⟨b, e1, e2, (k b (by rw [e2]; simp)).trans e3⟩
 own := fun ⟨b, e1, e2, e3⟩ hb => by
  rw [e2] at hb
  simp at hb
  subst hb
  exact ⟨_, e3, rfl⟩
/-- A value as it is. -/
def ocV {α : Type} (c : Cd α) : Oc α where
 cd := c
 at_ _ e x F := e = c.enc x ∧ F = []
 loc h _ := h
 own h hb := by rw [h.2] at hb; cases hb
 vr := fun {w Z R h e x F u} _ ha hv => by
  rw [ha.1] at hv
  exact (noRf2_vr (c.nr x) hv).mono (fun _ _ => rfl) (fun _ h => .inl h) (fun _ _ h => h)
section
variable {α : Type} {p p' : AV → α → List Nat → Prop}
def All3 (p : AV → α → List Nat → Prop) : List AV → List α → List Nat → Prop
 | [], [], F => F = []
 | e :: es, x :: xs, F => ∃ F1 F2, F = F1 ++ F2 ∧ p e x F1 ∧ All3 p es xs F2
 | _, _, _ => False
def All3h (p : AV → α → List Nat → Prop) : Nat → AV → List AV → List α → List Nat → Prop
 | 0, e', e :: es, _ :: xs, F => e = e' ∧ All3 p es xs F
 | j + 1, e', e :: es, x :: xs, F => ∃ F1 F2, F = F1 ++ F2 ∧ p e x F1 ∧ All3h p j e' es xs F2
 | _, _, _, _, _ => False
theorem All3.len : ∀ {es : List AV} {xs : List α} {F : List Nat}, All3 p es xs F → es.length = xs.length
 | [], [], _, _ => rfl
 | _ :: _, _ :: _, _, ⟨_, _, _, _, h⟩ => by simp [All3.len h]
 | [], _ :: _, _, h => h.elim
 | _ :: _, [], _, h => h.elim
theorem All3.mono : ∀ {es : List AV} {xs : List α} {F : List Nat}, All3 p es xs F → (∀ e x F', (∀ b ∈ F', b ∈ F) → p e x F' → p' e x F') → All3 p' es xs F
 | [], [], _, h, _ => h
 | _ :: _, _ :: _, _, ⟨F1, F2, e, h1, h2⟩, k => ⟨F1, F2, e, k _ _ F1 (fun b hb => by rw [e]; exact List.mem_append_left _ hb) h1, h2.mono fun e' x F' hF => k e' x F' fun b hb => by rw [e]; exact List.mem_append_right _ (hF b hb)⟩
 | [], _ :: _, _, h, _ => h.elim
 | _ :: _, [], _, h, _ => h.elim
theorem All3h.mono : ∀ {j : Nat} {e' : AV} {es : List AV} {xs : List α} {F : List Nat}, All3h p j e' es xs F → (∀ e x F', (∀ b ∈ F', b ∈ F) → p e x F' → p' e x F') → All3h p' j e' es xs F
 | 0, _, _ :: _, _ :: _, _, ⟨h1, h2⟩, k => ⟨h1, h2.mono k⟩
 | _ + 1, _, _ :: _, _ :: _, _, ⟨F1, F2, e, h1, h2⟩, k => ⟨F1, F2, e, k _ _ F1 (fun b hb => by rw [e]; exact List.mem_append_left _ hb) h1, h2.mono fun e' x F' hF => k e' x F' fun b hb => by rw [e]; exact List.mem_append_right _ (hF b hb)⟩
 | 0, _, [], _, _, h, _ => by unfold All3h at h; exact h.elim
 | 0, _, _ :: _, [], _, h, _ => by unfold All3h at h; exact h.elim
 | _ + 1, _, [], _, _, h, _ => by unfold All3h at h; exact h.elim
 | _ + 1, _, _ :: _, [], _, h, _ => by unfold All3h at h; exact h.elim
theorem All3.get : ∀ {es : List AV} {xs : List α} {F : List Nat} {i : Nat} {x : α}, All3 p es xs F → xs[i]? = some x → ∃ e Fi, es[i]? = some e ∧ p e x Fi ∧ ∀ b ∈ Fi, b ∈ F
 | _ :: _, _ :: _, _, 0, _, ⟨F1, F2, e, h1, h2⟩, hx => by
  simp at hx; subst hx
  exact ⟨_, F1, rfl, h1, fun b hb => by rw [e]; exact List.mem_append_left _ hb⟩
 | _ :: _, _ :: _, _, i + 1, _, ⟨F1, F2, e, h1, h2⟩, hx => by
  obtain ⟨e', Fi, k1, k2, k3⟩ := h2.get (i := i) (by simpa using hx)
  exact ⟨e', Fi, by simpa using k1, k2, fun b hb => by rw [e]; exact List.mem_append_right _ (k3 b hb)⟩
 | [], [], _, _, _, _, hx => by simp at hx
 | [], _ :: _, _, _, _, h, _ => h.elim
 | _ :: _, [], _, _, _, h, _ => h.elim
theorem All3h.at_ : ∀ {j : Nat} {e' : AV} {es : List AV} {xs : List α} {F' : List Nat}, All3h p j e' es xs F' → es[j]? = some e' ∧ es.length = xs.length ∧ j < xs.length
 | 0, _, _ :: _, _ :: _, _, ⟨h1, h2⟩ => ⟨by simp [h1], by simp [h2.len], by simp⟩
 | _ + 1, _, _ :: _, _ :: _, _, ⟨_, _, _, _, h2⟩ => by
  obtain ⟨k1, k2, k3⟩ := h2.at_
  exact ⟨by simpa using k1, by simp [k2], by simp; omega⟩
 | 0, _, [], _, _, h => by unfold All3h at h; exact h.elim
 | 0, _, _ :: _, [], _, h => by unfold All3h at h; exact h.elim
 | _ + 1, _, [], _, _, h => by unfold All3h at h; exact h.elim
 | _ + 1, _, _ :: _, [], _, h => by unfold All3h at h; exact h.elim
theorem All3.append : ∀ {es : List AV} {xs : List α} {F : List Nat} {es' : List AV} {xs' : List α} {F' : List Nat}, All3 p es xs F → All3 p es' xs' F' → All3 p (es ++ es') (xs ++ xs') (F ++ F')
 | [], [], _, _, _, _, h, h' => by rw [show _ = [] from h]; exact h'
 | _ :: _, _ :: _, _, _, _, _, ⟨F1, F2, e, h1, h2⟩, h' => ⟨F1, _, by rw [e, List.append_assoc], h1, h2.append h'⟩
 | [], _ :: _, _, _, _, _, h, _ => h.elim
 | _ :: _, [], _, _, _, _, h, _ => h.elim
theorem All3.mem : ∀ {es : List AV} {xs : List α} {F : List Nat} {b : Nat}, All3 p es xs F → b ∈ F → ∃ e x F', p e x F' ∧ b ∈ F'
 | [], [], _, _, h, hb => by rw [show _ = [] from h] at hb; cases hb
 | _ :: _, _ :: _, _, _, ⟨F1, F2, e, h1, h2⟩, hb => by
  rw [e] at hb
  rcases List.mem_append.1 hb with hb | hb
  ·exact ⟨_, _, F1, h1, hb⟩
  ·exact h2.mem hb
 | [], _ :: _, _, _, h, _ => h.elim
 | _ :: _, [], _, _, h, _ => h.elim
end
/-- Leaves. -/
theorem All3.leaf {α : Type} {c : Cd α} {h : Hp} : ∀ {xs : List α}, All3 ((ocV c).at_ h) (xs.map c.enc) xs []
 | [] => rfl
 | _x :: _ => ⟨[], [], rfl, ⟨rfl, rfl⟩, All3.leaf⟩
theorem All3.leaf_inv {α : Type} {c : Cd α} {h : Hp} : ∀ {es : List AV} {xs : List α} {F : List Nat}, All3 ((ocV c).at_ h) es xs F → es = xs.map c.enc ∧ F = []
 | [], [], _, e => ⟨rfl, e⟩
 | _ :: _, _ :: _, _, ⟨F1, F2, e, h1, h2⟩ => by
  obtain ⟨k1, k2⟩ := h2.leaf_inv
  exact ⟨by rw [k1, h1.1]; rfl, by rw [e, h1.2, k2]; rfl⟩
 | [], _ :: _, _, h => h.elim
 | _ :: _, [], _, h => h.elim
/-- An own slice of own values. -/
def ocL {α : Type} (k : Nat) (t : TypeId) (o : Oc α) : Oc (List α) where
 cd := cdL k o.cd
 at_ h e xs F := (e = .e0 ∧ xs = [] ∧ F = []) ∨ ∃ b es F', e = .rf b 0 xs.length xs.length ∧ h[b]? = some (some ⟨k, t, es, false⟩) ∧ F = b :: F' ∧ All3 (o.at_ h) es xs F'
 loc := fun {h h' e x F} ha k => by
  rcases ha with h1 | ⟨b, es, F', h1, h2, h3, h4⟩
  ·exact .inl h1
  ·subst h3
   exact .inr ⟨b, es, F', h1, (k b (by simp)).trans h2, rfl, h4.mono fun e x G hG h5 => o.loc h5 fun c hc => k c (List.mem_cons_of_mem _ (hG c hc))⟩
 own := fun {h e x F b} ha hb => by
  rcases ha with ⟨_, _, h1⟩ | ⟨b', es, F', h1, h2, h3, h4⟩
  ·rw [h1] at hb; cases hb
  ·subst h3
   rcases List.mem_cons.1 hb with rfl | hb
   ·exact ⟨_, h2, rfl⟩
   ·obtain ⟨e, x, G, k1, k2⟩ := h4.mem hb
    exact o.own k1 k2
 vr := fun {w Z R h e xs F u} hh ha hv => by
  rcases ha with ⟨rfl, rfl, rfl⟩ | ⟨b, es, F', rfl, h2, rfl, h4⟩
  ·cases hv
   exact .sl (us := []) rfl rfl (Nat.le_refl _) (by unfold maxLen; omega) (fun h => by omega) (fun i x u hx => by simp at hx)
  ·obtain ⟨r, arr, us, g1, g2, g3, g4, g5, g6, g7, g8, g9, g10⟩ := hh.blk b _ h2
   have hl := h4.len
   cases hv with
   | rf hr' q0 q1 q2 q3 =>
    rename_i c r'
    rw [g1] at hr'
    injection hr' with hr'
    subst hr'
    have hul : us.length = es.length := g9.len
    refine .sl (us := us) (by simp) (by simp; omega) (by omega) (by omega) (fun _ => ⟨⟨r.c, 0 * r.k, none⟩, rfl, rfl, .inr ⟨b, by simp, r, g1, rfl⟩, fun i u hu => ?_⟩) (fun i x u hx hu => ?_)
    ·obtain ⟨k1, k2, k3⟩ := g10 i u hu
     refine ⟨k1, k2, fun j q hq => ?_⟩
     have := k3 j q hq
     rw [Nat.zero_mul, Nat.zero_add]
     simp only [World.cell?, g3]
     simpa using this
    ·rw [List.getElem?_map] at hx
     obtain ⟨y, hy, rfl⟩ := Option.map_eq_some_iff.1 hx
     obtain ⟨e, Fi, k1, k2, k3⟩ := h4.get hy
     have hvi := g9.at_ i e u k1 hu
     exact (o.vr hh k2 hvi).mono (fun _ _ => rfl) (fun c hc => hc.imp_right fun ⟨b', hb', hr⟩ => ⟨b', List.mem_cons_of_mem _ (k3 b' hb'), hr⟩) (fun _ _ h => h)
/-- What may be laid in a cell of k cells. -/
def Fit {α : Type} (o : Oc α) (k : Nat) : Prop := ∀ (h : Hp) (e : AV) (x : α) (F : List Nat), o.at_ h e x F → e.nc = k ∧ e.notTp = true ∧ elm e.cel = e
/-- The address of an element. -/
def eAt : AV → Nat → AV
 | .rf b lo _ _, i => .pt b (lo + i) 0
 | x, _ => x
def pOff : AV → Nat → AV
 | .pt b i o, n => .pt b i (o + n)
 | x, _ => x
section
variable {α : Type} {o : Oc α} {k j : Nat} {t : TypeId} {e e' : AV} {xs : List α} {x y : α} {h : Hp} {L : List Asn} {c : Cd α}
theorem T.e0 {k : Nat} {ty : TypeId} (t : T h L) : T h (own_ (ocL k ty o) .e0 [] :: L) := t.add (F := []) (.inl ⟨rfl, rfl, rfl⟩) List.nodup_nil (fun _ _ => rfl) (fun _ h => by cases h)
end
section
variable {P : Program} {α : Type} {o : Oc α} {k j m off : Nat} {t ty ty2 el : TypeId} {e e' y : AV} {xs ys vs : List α} {x v v' : α} {h : Hp} {L : List Asn} {c : Cd α} {i : Int} {ki : IntKind} {g : Bool}
theorem len_own (ht : T h (own_ (ocL k t o) e xs :: L)) (hu : P.underlying ty = some (.slice el)) : evLen P ty e = some (eI xs.length) := by
 obtain ⟨F, p, _⟩ := ht.act
 rcases p with ⟨rfl, rfl, _⟩ | ⟨b, es, F', rfl, _⟩
 ·simp [evLen, hu, eI]
 ·simp [evLen, hu, eI]
/-- Loose elements. -/
def els {α : Type} (o : Oc α) (es : List AV) (xs : List α) : Asn where
 at_ h F := All3 (o.at_ h) es xs F
 loc := fun h k => h.mono fun _e _x _G hG h5 => o.loc h5 fun c hc => k c (hG c hc)
 own := fun h hb => let ⟨_, _, _, q1, q2⟩ := h.mem hb; o.own q1 q2
theorem els_leaf (ht : T h L) : T h (els (ocV c) (xs.map c.enc) xs :: L) := ht.add (F := []) All3.leaf List.nodup_nil (fun _ _ => rfl) (fun _ h => by cases h)
/-- A growing own slice takes elements. -/
theorem app_gen {bytes : Nat} {i : TypeInfo} {z : AV} {ey : List AV} (ht : T h (own_ (ocL k t o) e xs :: els o ey ys :: L)) (hsy : srcOk P ty2 y = true) (hel : elems h k y = some ey) (hte : tyElem P ty = some t) (hi : P.info? t = some i) (hz : tyZero P t = some z) (hk : i.size = k) (h0 : Nat.blt 0 k = true) (hzn : z.nc = k) (hzt : z.notTp = true) (hib : i.bytes = bytes) (hc : capOk bytes (xs.length + ys.length) = true) :
  ∃ e' h', evAppend P h ty ty2 e y = some (e', h') ∧ T h' (own_ (ocL k t o) e' (xs ++ ys) :: L) := by
 subst hib hk
 obtain ⟨F, p, hn', hk, hk0⟩ := (T.join.1 ht).act
 obtain ⟨F1, Fy, rfl, px, hy4⟩ := p
 obtain ⟨n1, n2, n3⟩ := nodup_app.1 hn'
 obtain ⟨c1, c2⟩ := capOk_inv hc
 have h0' : 0 < i.size := Nat.le_of_ble_eq_true h0
 have hly : ey.length = ys.length := All3.len hy4
 have hlt : ∀ c, c ∈ F1 ++ Fy → c < h.length := fun c hc => by
  rcases List.mem_append.1 hc with hc | hc
  ·obtain ⟨B, q, _⟩ := (ocL i.size t o).own px hc
   exact get_lt q
  ·obtain ⟨B, q, _⟩ := (els o ey ys).own hy4 hc
   exact get_lt q
 cases hey : ey with
 | nil =>
  subst hey
  have : ys = [] := by cases ys with | nil => rfl | cons a b => simp at hly
  subst this
  refine ⟨e, h, ?_, ?_⟩
  ·rcases px with ⟨rfl, _⟩ | ⟨b, es, F', rfl, _⟩ <;> simp [evAppend, hsy, hte, hi, hz, hel]
  ·rw [List.append_nil]
   exact hk h _ F1 px n1 (fun _ _ _ => rfl) (fun b hb => .inl (List.mem_append_left _ hb))
 | cons a r =>
  have he : ey.isEmpty = false := by rw [hey]; rfl
  have hne : 0 < ys.length := by rw [← hly, hey]; simp
  rcases px with ⟨rfl, rfl, rfl⟩ | ⟨bx, ex, Fx, rfl, hx2, rfl, hx4⟩
  ·have hc1 : ey.length * i.bytes ≤ 140737488355328 ∧ ey.length ≤ 140737488355328 := by
    rw [hly]; simp at c1 c2; exact ⟨c1, c2⟩
   refine ⟨.rf h.length 0 ys.length ys.length, h ++ [some ⟨i.size, t, ey, false⟩], ?_, hk _ _ (h.length :: Fy) (.inr ⟨h.length, ey, Fy, rfl, by simp, rfl, hy4.mono fun e x G hG h5 => o.loc h5 fun c hc => List.getElem?_append_left (hlt c (List.mem_append_right _ (hG c hc)))⟩) (List.nodup_cons.2 ⟨fun hb => by have := hlt _ (List.mem_append_right _ hb); omega, n2⟩) (fun c _ hc => List.getElem?_append_left hc) (fun c hc => ?_)⟩
   ·simp only [evAppend, hsy, hte, hi, hz, hel, he]
    rw [if_neg (by simp), if_neg (by simp), if_pos ⟨h0', hzn, hzt⟩, if_pos hc1, hly]
   ·rcases List.mem_cons.1 hc with rfl | hc
    ·exact .inr (Nat.le_refl _)
    ·exact .inl (List.mem_append_right _ hc)
  ·have hlx : ex.length = xs.length := hx4.len
   have hbx := get_lt hx2
   have hbx' : bx ∉ Fx := (List.nodup_cons.1 n1).1
   have hby' : bx ∉ Fy := n3 bx (by simp)
   have same : ∀ c, c ≠ bx → c < h.length → ((h.set bx none) ++ [some ⟨i.size, t, ex ++ ey, false⟩])[c]? = h[c]? := fun c hc hlt => by
    rw [List.getElem?_append_left (by simpa using hlt), List.getElem?_set, if_neg (Ne.symm hc)]
   refine ⟨.rf h.length 0 (xs ++ ys).length (xs ++ ys).length, (h.set bx none) ++ [some ⟨i.size, t, ex ++ ey, false⟩], ?_, hk _ _ (h.length :: (Fx ++ Fy)) (.inr ⟨h.length, ex ++ ey, Fx ++ Fy, rfl, ?_, rfl, All3.append (hx4.mono fun e x G hG h5 => o.loc h5 fun c hc => same c (fun e => hbx' (e ▸ hG c hc)) (hlt c (List.mem_append_left _ (List.mem_cons_of_mem _ (hG c hc))))) (hy4.mono fun e x G hG h5 => o.loc h5 fun c hc => same c (fun e => hby' (e ▸ hG c hc)) (hlt c (List.mem_append_right _ (hG c hc))))⟩) (List.nodup_cons.2 ⟨fun hb => ?_, ?_⟩) (fun c hc hlt => same c (fun e => hc (by subst e; simp)) hlt) (fun c hc => ?_)⟩
   ·simp only [evAppend, hsy, hte, hi, hz, hel, he, hx2]
    rw [if_neg (by simp), if_neg (by simp), if_pos ⟨h0', hzn, hzt⟩, if_neg (by simp), if_neg (by omega), if_pos ⟨trivial, hlx.symm, by rw [hly]; exact c1, by rw [hly]; exact c2⟩]
    simp [hly]
   ·rw [List.getElem?_append_right (by simp)]; simp
   ·have : h.length < h.length := hlt _ (by
     rcases List.mem_append.1 hb with hb | hb
     ·exact List.mem_append_left _ (List.mem_cons_of_mem _ hb)
     ·exact List.mem_append_right _ hb)
    omega
   ·exact nodup_app.2 ⟨(List.nodup_cons.1 n1).2, n2, fun a ha ha2 => n3 a (List.mem_cons_of_mem _ ha) ha2⟩
   ·rcases List.mem_cons.1 hc with rfl | hc
    ·exact .inr (Nat.le_refl _)
    ·rcases List.mem_append.1 hc with h1 | h1
     ·exact .inl (List.mem_append_left _ (List.mem_cons_of_mem _ h1))
     ·exact .inl (List.mem_append_right _ h1)
theorem app_leaf {bytes : Nat} {i : TypeInfo} {z : AV} (ht : T h (own_ (ocL k t (ocV c)) e xs :: L)) (hsy : srcOk P ty2 y = true) (hel : elems h k y = some (ys.map c.enc)) (hte : tyElem P ty = some t) (hi : P.info? t = some i) (hz : tyZero P t = some z) (hk : i.size = k) (h0 : Nat.blt 0 k = true) (hzn : z.nc = k) (hzt : z.notTp = true) (hib : i.bytes = bytes) (hc : capOk bytes (xs.length + ys.length) = true) :
  ∃ e' h', evAppend P h ty ty2 e y = some (e', h') ∧ T h' (own_ (ocL k t (ocV c)) e' (xs ++ ys) :: L) :=
 app_gen ((els_leaf ht).front 1 rfl) hsy hel hte hi hz hk h0 hzn hzt hib hc
/-- A cell of its own is made, read, written. -/
theorem box_cel {a : AV} (ht : T h L) (hn : a.notTp = true) : ∃ p h', evBox h t a = some (p, h') ∧ T h' (cel p a.nc t a :: L) := by
 refine ⟨.pt h.length 0 0, h ++ [some ⟨a.nc, t, [a], false⟩], by simp [evBox, hn], ht.add (F := [h.length]) ⟨h.length, rfl, rfl, by simp⟩ (by simp) (fun b hb => List.getElem?_append_left hb) (fun b hb => by simp at hb; omega)⟩
theorem ld_cel {p a : AV} (ht : T h (cel p k t a :: L)) (hm : tySize P ty = some m) (hg : tyAgg P ty = some g) (he : getE a off m g = some y) : evLoad P h ty (pOff p off) = some y := by
 obtain ⟨F, ⟨b, rfl, rfl, h2⟩, _⟩ := ht.act
 simp [evLoad, hm, hg, pOff, h2, he]
theorem st_cel {p a a' : AV} (ht : T h (cel p k t a :: L)) (hs : tySize P ty = some y.nc) (hn : y.notTp = true) (he : setE a off y = some a') : ∃ h', evStore P h ty (pOff p off) y = some h' ∧ T h' (cel p k t a' :: L) := by
 obtain ⟨F, ⟨b, rfl, rfl, h2⟩, hn', hk, _⟩ := ht.act
 have hb := get_lt h2
 refine ⟨h.set b (some ⟨k, t, [a'], false⟩), by simp [evStore, pOff, h2, hs, hn, he], hk _ _ [b] ⟨b, rfl, rfl, by simp [hb]⟩ (by simp) (fun c hc _ => ?_) (fun c hc => .inl hc)⟩
 rw [List.getElem?_set, if_neg (by intro e; subst e; simp at hc)]
theorem fld_cel {p a : AV} {fs : Array Field} {fd : Field} {f q : Nat} (ht : T h (cel p k t a :: L)) (hu : P.underlying ty = some (.struct fs)) (hf : fs[f]? = some fd) (hs : tySize P fd.type = some (q + 1)) : evFieldAddr P ty p f = some (pOff p fd.offset) := by
 obtain ⟨F, ⟨b, rfl, rfl, h2⟩, _⟩ := ht.act
 simp [evFieldAddr, hu, hf, hs, pOff]
end
section
variable {E : Env} {n : Nat} {l l' : List (Nat × AV)} {hp : Hp} {α : Type} {o : Oc α} {e : AV} {x : α} {L : List Asn}
/-- Slots that stay, and slots that turn. -/
def LkT (l : List (Nat × AV)) (e y : AV) : List (Nat × AV) → Prop
 | [] => True
 | (t, z) :: r => (lk l t = some z ∨ (lk l t = some e ∧ z = y)) ∧ LkT l e y r
theorem LkT.at_ {e y : AV} : ∀ {l' : List (Nat × AV)}, LkT l e y l' → ∀ t z, lk l' t = some z → lk l t = some z ∨ (lk l t = some e ∧ z = y)
 | [], _, t, z, h => by cases h
 | (k, z0) :: r, ⟨h1, h2⟩, t, z, h => by
  rw [lk_put] at h
  split at h
  ·next hk => injection h with h; subst hk h; exact h1
  ·exact h2.at_ t z h
/-- Values as a call sees them. -/
def SeeV (hp : Hp) (x y : AV) : Prop := ∀ (w : World) (Z : Nat → Prop) (R : List RI) (u : Value), HR w Z R hp → VR w Z R x u → VR w (fun c => Z c ∨ own R hp c) [] y u
def Sees (hp : Hp) (xs ys : List AV) : Prop := ∀ (w : World) (Z : Nat → Prop) (R : List RI) (us : List Value), HR w Z R hp → VRs w Z R xs us → VRs w (fun c => Z c ∨ own R hp c) [] ys us
theorem Sees.nil : Sees hp [] [] := fun w Z R us _ h => by
 have : us = [] := by have := h.len; simpa using this
 subst this
 exact .nil
theorem Sees.cons {x y : AV} {xs ys : List AV} (h : SeeV hp x y) (hs : Sees hp xs ys) : Sees hp (x :: xs) (y :: ys) := fun w Z R us hh hv => by
 obtain ⟨u, us', rfl, hu, hn⟩ := hv.head
 exact .cons (h w Z R u hh hu) (hs w Z R us' hh hn)
theorem SeeV.id {x : AV} (hx : noRf2 x = true) : SeeV hp x x := fun _w _Z _R _u _ hv => (noRf2_vr hx hv).mono (fun _ _ => rfl) (fun _ h => .inl h) (fun _ _ h => h)
theorem SeeV.enc {c : Cd α} : SeeV hp (c.enc x) (c.enc x) := .id (c.nr x)
theorem SeeV.own {i : Nat} (ht : T hp L) (hi : L[i]? = some (own_ o e x)) : SeeV hp e (o.cd.enc x) := fun w Z R u hh hv => by
 obtain ⟨F, p, _⟩ := (ht.front i hi).act
 refine (o.vr hh p hv).mono (fun _ _ => rfl) (fun c hc => hc.imp_right fun ⟨b, hb, r, hr, hc⟩ => ?_) (fun _ _ h => h)
 obtain ⟨B, k1, k2⟩ := o.own p hb
 exact ⟨b, B, r, k1, k2, hr, hc.symm⟩
theorem SeeV.ag {cs cs' : List AV} (hs : Sees hp cs cs') : SeeV hp (.ag cs) (.ag cs') := fun w Z R u hh hv => by
 cases hv with
 | ag hl h1 hx =>
  have := hs w Z R _ hh ⟨hl, hx⟩
  exact .ag this.len h1 this.at_
end
/-- The operations that are left, one by one, in the caller's blocks. -/
def RunL (E : Env) (cx : Cx) (ops : Array Oper) (rest : List Oper) (s : St) (K : St → Prop) : Prop :=
 ∀ (ro : Option Nat) (base : Bs) (Q : Act → World → Prop) (a : Act) (w : World) (Z : Nat → Prop) (R : List RI), (cx.inR = false → ro = none) → SR E base w Z R s a → YI cx w Z R s.hp →
  (∀ s' a' w' Z' R', K s' → SR E base w' Z' R' s' a' → Step w Z R s.hp w' Z' R' s'.hp → Q a' w') → LwL E.P ops Q rest a w
section
variable {E : Env} {cx : Cx} {ops : Array Oper} {pre rest rest' : List Oper} {s s1 : St} {K : St → Prop} {n m : Nat} {l l' : List (Nat × AV)} {hp hp' : Hp} {Q : Ex → St → Prop} {id : Nat}
theorem RunL.done (hr : rest = []) (k : K s) : RunL E cx ops rest s K := by
 subst hr
 exact fun ro base Q a w Z R _ sr _ q => q s a w Z R k sr (Step.refl _ _ _ _)
theorem RunL.mono {K' : St → Prop} (h : RunL E cx ops rest s K) (k : ∀ s, K s → K' s) : RunL E cx ops rest s K' := fun ro base Q a w Z R h1 h2 h3 q => h ro base Q a w Z R h1 h2 h3 fun s' a' w' Z' R' hK => q s' a' w' Z' R' (k s' hK)
theorem RunL.app (hE : EnvOk E) (n : Nat) : ∀ {pre : List Oper} {s : St}, opsA E (evC E n) ⟨none, false⟩ ops pre s = some s1 → RunL E cx ops rest s1 K → RunL E cx ops (pre ++ rest) s K
 | [], s, e, k => by injection e with e; subst e; exact k
 | o :: pre, s, e, kk => by
  intro ro base Q a w Z R hro sr hy q
  unfold opsA at e
  split at e
  ·cases e
  ·next hw => exact lwl_no (wantedA_eq sr hw) (RunL.app hE n e kk ro base Q _ w Z R hro (sr.put undef_vr) hy q)
  ·next hw =>
   split at e
   ·next s2 hs2 => exact lwl_op1 hE (code_sound hE n).1 hs2 sr (wantedA_eq sr hw) fun a' w' Z' R' sr' st => RunL.app hE n e kk ro base Q a' w' Z' R' hro sr' (hy.step sr.hh st) fun s'' a'' w'' Z'' R'' hK sr'' st' => q s'' a'' w'' Z'' R'' hK sr'' (st.trans st')
   ·cases e
theorem RunL.seg (hE : EnvOk E) (m : Nat) (h : opsA E (evC E 0) ⟨none, false⟩ ops (rest.take m) s = some s1) (k : RunL E cx ops (rest.drop m) s1 K) : RunL E cx ops rest s K := by
 have := RunL.app hE 0 h k
 rwa [List.take_append_drop] at this
theorem RunL.segF (hE : EnvOk E) (m : Nat) {s : St} (l : List (Nat × AV)) (hp : Hp) (h : segB (opsA E (evC E 0) ⟨none, false⟩ ops (rest.take m) s) l = some (n, xs2 l, hp)) (k : RunL E cx ops (rest.drop m) ⟨Fr n l, hp⟩ K) : RunL E cx ops rest s K := by
 obtain ⟨fr, h1, h2, h3⟩ := segB_inv h
 refine RunL.seg hE m h1 ?_
 exact fun ro base Q a w Z R hro sr hy q => k ro base Q a w Z R hro (sr.forget h2 h3) hy q
theorem RunL.one (hE : EnvOk E) (n : Nat) {o : Oper} (hr : rest = o :: rest') (h : opsA E (evC E n) ⟨none, false⟩ ops [o] s = some s1) (k : RunL E cx ops rest' s1 K) : RunL E cx ops rest s K := by
 subst hr
 exact RunL.app hE n (pre := [o]) h k
theorem RunL.store (hE : EnvOk E) {t : TypeId} {p q : Operand} {y z : AV} {ty : TypeId} {pos : String} {af : Array Edge} {g : Option (Nat × Bool)} (hr : rest = ⟨none, .store t p q, ty, pos, af, g⟩ :: rest') (hw : wantedA ops (Fr n l) ⟨none, .store t p q, ty, pos, af, g⟩ = some true) (hp1 : opA E (Fr n l) p = some y) (hq1 : opA E (Fr n l) q = some z) (h : evStore E.P hp t y z = some hp') (k : RunL E cx ops rest' ⟨Fr n l, hp'⟩ K) : RunL E cx ops rest ⟨Fr n l, hp⟩ K :=
 RunL.one hE 0 hr (op_st hw hp1 hq1 h) k
theorem SemY.regionL (h : RunL E cx ops ops.toList s fun s' => Q .normal s') : SemY E cx (.region id ops false) s Q := by
 intro ro base Qm a w Z R h1 h2 h3 kk
 exact wpIn_region_list (lwl_list ro (h ro base _ a w Z R h1 h2 h3 fun s' a' w' Z' R' hq sr st => kk .normal s' a' w' Z' R' hq sr st))
end
section
variable {E : Env} {cx : Cx} {ops : Array Oper} {rest rest' : List Oper} {K : St → Prop} {n : Nat} {l : List (Nat × AV)} {hp : Hp}
/-- A call that is gone through in the caller's blocks. -/
theorem RunL.inlT (hP : E.P = E0.P) (hG : E.G = E0.G) {e : Env} (he : EnvOk e) (heP : e.P = E0.P) (heG : e.G = E0.G) {d : Nat} {f : Operand} {args : Array Operand} {tys : Array TypeId} {ty : TypeId} {pos : String} {af : Array Edge} {g : Option (Nat × Bool)} {fid : FuncId} {caps xs : List AV} {fn : Func} {c : Code} {Out : AV → Hp → Prop} (hr : rest = ⟨some d, .call ⟨.value f, args, tys⟩, ty, pos, af, g⟩ :: rest') (hw : wantedA ops (Fr n l) ⟨some d, .call ⟨.value f, args, tys⟩, ty, pos, af, g⟩ = some true)
  (hf : opA E (Fr n l) f = some (.fn fid [] caps)) (ha : opds (opA E (Fr n l)) args.toList = some xs) (hfn : e.fn fid = some fn) (hc : fn.body = some c) (hle : (xs ++ caps).length ≤ fn.ntmps)
  (sem : SemY e ⟨none, false⟩ c ⟨Fr fn.ntmps (pairs0 0 (xs ++ caps)), hp⟩ fun x s' => (x = .normal ∨ x = .ret) ∧ ∃ ys, resA e.P s'.fr s'.hp fn.results.toList = some ys ∧ Out (retA ys) s'.hp)
  (k : ∀ x h', Out x h' → RunL E cx ops rest' ⟨Fr n ((d, x) :: l), h'⟩ K) : RunL E cx ops rest ⟨Fr n l, hp⟩ K := by
 obtain ⟨P, fns, G, X, I⟩ := E
 obtain ⟨P', fns', G', X', I'⟩ := e
 simp only at hP hG heP heG
 subst hP hG heP heG
 subst hr
 intro ro base Q a w Z R hro sr hy q
 have hρ : ∀ o x, opA ⟨E0.P, fns, E0.G, X, I⟩ (Fr n l) o = some x → VR w Z R x (a.eval o) := fun o x e => opA_vr sr o x e
 refine lwl_loud rfl (wantedA_eq sr hw) ?_
 have hvf := hρ _ _ hf
 generalize hvq : a.eval f = vf at hvf
 cases hvf with
 | fn hl hl' hx hy' =>
  rename_i u1 u2
  have e1 : u1 = [] := by simpa using hl
  subst e1
  obtain ⟨hff, hcall, _⟩ := he.fn fid fn hfn
  unfold Lw
  rw [run_call (uf := []) (uc := u2) rfl hvq rfl hcall w]
  simp only [List.nil_append]
  have hargs : VRs w Z R (xs ++ caps) (args.toList.map a.eval ++ u2) := (opds_vr hρ ha).append ⟨hl', hy'⟩
  refine Ret.mono (ret_semY he hfn hc hle sem sr.hh hargs sr.gl (fun y hy => by cases hy)) fun v w' hS => ?_
  obtain ⟨Z', R', x, h', hO, h1, h2, st⟩ := hS
  have sr' := (sr.step h1 st).put (d := some d) h2
  rw [show putA (⟨Fr n l, hp⟩ : St).fr (some d) x = Fr n ((d, x) :: l) from putA_Fr n l d _] at sr'
  exact k x h' hO ro base Q _ w' Z' R' hro sr' (hy.step sr.hh st) fun s' a' w'' Z'' R'' hK sr'' st' => q s' a' w'' Z'' R'' hK sr'' (st.trans st')
theorem RunL.wk {s s1 : St} (hw : WkY E s s1) (h : RunL E cx ops rest s1 K) : RunL E cx ops rest s K := fun ro base Q a w Z R hro sr hy q => by
 obtain ⟨Z', R', sr', st⟩ := hw base w Z R a sr
 exact h ro base Q a w Z' R' hro sr' (hy.step sr.hh st) fun s' a' w' Z2 R2 hK sr2 st2 => q s' a' w' Z2 R2 hK sr2 (st.trans st2)
/-- What a part did, told by states for each way out. -/
theorem SemY.cutT {c : Code} {s : St} {Q : Ex → St → Prop} {e0 : Ex} {A : St → Prop} (h : SemY E cx c s fun e s' => e = e0 ∧ ∃ s2, A s2 ∧ WkY E s' s2) (q : ∀ s2, A s2 → Q e0 s2) : SemY E cx c s Q := by
 intro ro base Qm a w Z R h1 h2 h3 k
 refine h ro base Qm a w Z R h1 h2 h3 fun e s' a' w' Z' R' hQ sr st => ?_
 obtain ⟨rfl, s2, hA, hw⟩ := hQ
 obtain ⟨Z2, R2, sr2, st2⟩ := hw base w' Z' R' a' sr
 exact k e s2 a' w' Z2 R2 (q s2 hA) sr2 (st.trans st2)
theorem SemYN.cutT {c : Code} {s : St} {Q : Ex → St → Prop} {e0 : Ex} {A : St → Prop} {m : Nat} (h : SemYN E cx c m s fun e s' => e = e0 ∧ ∃ s2, A s2 ∧ WkY E s' s2) (q : ∀ s2, A s2 → Q e0 s2) : SemYN E cx c m s Q := by
 intro ro base Qm a w Z R h1 h2 h3 k
 refine h ro base Qm a w Z R h1 h2 h3 fun e s' a' w' Z' R' hQ sr st => ?_
 obtain ⟨rfl, s2, hA, hw⟩ := hQ
 obtain ⟨Z2, R2, sr2, st2⟩ := hw base w' Z' R' a' sr
 exact k e s2 a' w' Z2 R2 (q s2 hA) sr2 (st.trans st2)
theorem Sem.ofY {c : Code} {s : St} {Q : Ex → St → Prop} (h : SemY E cx c s Q) : Sem E cx c s Q :=
 fun ro base Qm a w Z R h1 h2 h3 k => h ro base Qm a w Z R h1 h2 (fun y hy => by rw [h3] at hy; cases hy) fun e s' a' w' Z' R' hQ sr st => k e s' a' w' Z' R' hQ sr st.w
end
def RunDY (E : Env) (ops : Array Oper) (n0 k : Nat) (rest : List Oper) (s : St) (K : St → Prop) : Prop :=
 ∀ (base : Bs) (Q : Act → World → Prop) (w0 : World) (Z : Nat → Prop) (R0 : List RI) (h0 : Hp) (a : Act) (w : World) (R : List RI), HR w0 Z R0 h0 → n0 = h0.length → tailAt ops ≤ ops.size → SR E base w Z R s a → w0.grownBy w none → Step w0 Z R0 h0 w Z R s.hp → (∀ (b : Nat) (B : Option Blk), h0[b]? = some B → s.hp[b]? = some B) → tailAt ops = tailGo rest k → k + rest.length = ops.size → (∀ j, rest[j]? = ops[k + j]?) →
  (∀ s' a' w' Z' R', K s' → SR E base w' Z' R' s' a' → Step w0 Z R0 h0 w' Z' R' s'.hp → Q a' w') → wpMix E.P ops (fun w' => w0.grownBy w' none) (loudT ops (tailAt ops)) (tailAt ops) Q k rest a w
section
variable {E : Env} {cx : Cx} {ops : Array Oper} {pre rest rest' : List Oper} {s s1 : St} {K : St → Prop} {n n0 k : Nat} {l : List (Nat × AV)} {hp hp' : Hp} {Q : Ex → St → Prop} {id : Nat}
theorem RunDY.done (hr : rest = []) (kk : K s) : RunDY E ops n0 k rest s K := by
 subst hr
 exact fun base Q w0 Z R0 h0 a w R _ _ _ sr hgr st _ _ _ _ q => ⟨fun _ => hgr, q s a w Z R kk sr st⟩
theorem RunDY.app (hE : EnvOk E) : ∀ {pre : List Oper} {s : St} {k : Nat}, (pre.all fun o => !isW o.op) = true → opsD E (evC E 0) ⟨none, false⟩ ops n0 pre s = some s1 → RunDY E ops n0 (k + pre.length) rest s1 K → RunDY E ops n0 k (pre ++ rest) s K
 | [], s, k, _, e, kk => by injection e with e; subst e; exact kk
 | o :: pre, s, k, hp, e, kk => by
  intro base Q w0 Z R0 h0 a w R hh0 hn0 hT sr hgr st hpre hTk hlen hops q
  simp only [List.all_cons, Bool.and_eq_true, Bool.not_eq_true'] at hp
  obtain ⟨hW, hp⟩ := hp
  have hok : ops[k]? = some o := by have := hops 0; simpa using this.symm
  have hops' : ∀ j, (pre ++ rest)[j]? = ops[k + 1 + j]? := fun j => by have := hops (j + 1); simpa [Nat.add_assoc, Nat.add_comm 1 j] using this
  have hk1 : k + 1 + pre.length = k + (o :: pre).length := by simp; omega
  have kk' : RunDY E ops n0 (k + 1 + pre.length) rest s1 K := by rw [hk1]; exact kk
  have hlen' : k + 1 + (pre ++ rest).length = ops.size := by simp at hlen ⊢; omega
  have hTk' : tailAt ops = tailGo (pre ++ rest) (k + 1) := by
   rw [hTk]
   show tailGo (o :: (pre ++ rest)) k = _
   conv => lhs; unfold tailGo; rw [if_neg (by rw [hW]; simp)]
  have hkT : ¬ tailAt ops ≤ k := by have := tailGo_ge (pre ++ rest) (k + 1); omega
  show wpMix E.P ops _ _ _ Q k (o :: (pre ++ rest)) a w
  refine ⟨fun _ => hgr, ?_⟩
  unfold opsD at e
  rw [if_neg (by rw [hW]; simp)] at e
  split at e
  ·cases e
  ·next hw =>
   rw [if_neg (by rw [wantedA_eq sr hw]; simp)]
   exact RunDY.app hE hp e kk' base Q w0 Z R0 h0 _ w R hh0 hn0 hT (sr.put undef_vr) hgr st hpre hTk' hlen' hops' q
  ·next hw =>
   rw [if_pos (wantedA_eq sr hw)]
   have hρ : ∀ o x, opA E s.fr o = some x → VR w Z R x (a.eval o) := fun o x e => opA_vr sr o x e
   split at e
   ·next x hx =>
    split at e
    ·next hld =>
     have hq := isQ_of hx
     rw [if_neg (by rw [loudT_q hok hq hkT]; simp)]
     obtain ⟨u, hu, hrun⟩ := evOpQ_sound sr.hh hρ hx
     have hquiet : ∃ u, VR w Z R x u ∧ QuietAt E.P (Cf (fun w' => w0.grownBy w' none) o) o u a := by
      cases hl : isLd o.op with
      | false => exact ⟨u, hu, fun w' _ => hrun w' fun h => by rw [hl] at h; cases h⟩
      | true =>
       obtain ⟨u1, hu1, hq1⟩ := load_quiet hh0 sr hgr st hpre hl (by rw [← hn0]; exact hld) hx
       exact ⟨u1, hu1, hq1.up (free_ld hl)⟩
     obtain ⟨u, hu, hquiet⟩ := hquiet
     exact ⟨u, hquiet, RunDY.app hE hp e kk' base Q w0 Z R0 h0 _ w R hh0 hn0 hT (sr.put hu) hgr st hpre hTk' hlen' hops' q⟩
    ·cases e
   ·split at e
    ·next x h' hx =>
     have hq := isQ_of_N hx
     rw [if_pos (loudT_n hok hq)]
     obtain ⟨u, w', R', h1, h2, h3, h4, h5⟩ := evOpN_sound hρ sr.hh hx
     exact lw_val h1 (RunDY.app hE hp e kk' base Q w0 Z R0 h0 _ w' R' hh0 hn0 hT ((sr.step h2 h4).put h3) (pu_trans hgr h5) (st.trans h4) (fun b B hb => evOpN_pre hx (hpre b B hb)) hTk' hlen' hops' q)
    ·split at e
     ·next f args tys ho =>
      split at e
      ·next fv xs hf hxs =>
       split at e
       ·next r hr =>
        obtain ⟨x, h'⟩ := r
        have hq : isQ o.op = false := by rw [ho]; rfl
        rw [if_pos (loudT_n hok hq)]
        obtain ⟨g, uf, uc, hva, hcl, hret⟩ := callP_sound hE (code_sound hE 0).1 (hρ _ _ hf) (opds_vr hρ hxs) sr.hh sr.gl hr
        unfold Lw
        rw [run_call (uf := uf) (uc := uc) ho hva rfl hcl w]
        refine Ret.mono hret fun v w' hS => ?_
        obtain ⟨hg1, R', k1, k2, k3⟩ := hS
        exact RunDY.app hE hp e kk' base Q w0 Z R0 h0 _ w' R' hh0 hn0 hT ((sr.step k1 k3).put k2) (pu_trans hgr hg1) (st.trans k3) (fun b B hb => callP_pre hr (hpre b B hb)) hTk' hlen' hops' q
       ·cases e
      ·cases e
     ·cases e
theorem RunDY.one (hE : EnvOk E) {o : Oper} (hr : rest = o :: rest') (hW : isW o.op = false) (h : opsD E (evC E 0) ⟨none, false⟩ ops n0 [o] s = some s1) (kk : RunDY E ops n0 (k + 1) rest' s1 K) : RunDY E ops n0 k rest s K := by
 subst hr
 exact RunDY.app (k := k) hE (pre := [o]) (by simp [hW]) h kk
end
def RunDT (E : Env) (cx : Cx) (ops : Array Oper) (T : Nat) (n0 k : Nat) (rest : List Oper) (s : St) (K : St → Prop) : Prop :=
 ∀ (ro : Option Nat) (base : Bs) (Q : Act → World → Prop) (w0 : World) (Z : Nat → Prop) (R0 : List RI) (h0 : Hp) (a : Act) (w : World) (R : List RI), (cx.inR = false → ro = none) → YI cx w0 Z R0 h0 → HR w0 Z R0 h0 → n0 = h0.length → SR E base w Z R s a → w0.grownBy w none → Step w0 Z R0 h0 w Z R s.hp → (∀ (b : Nat) (B : Option Blk), h0[b]? = some B → s.hp[b]? = some B) → (∀ j, rest[j]? = ops[k + j]?) →
  (∀ s' a' w' Z' R', K s' → SR E base w' Z' R' s' a' → Step w0 Z R0 h0 w' Z' R' s'.hp → Q a' w') → wpMix E.P ops (fun w' => w0.grownBy w' none) (loudT ops T) T Q k rest a w
section
variable {E : Env} {cx : Cx} {ops : Array Oper} {rest rest' : List Oper} {s s1 : St} {K : St → Prop} {n n0 k T : Nat} {l : List (Nat × AV)} {hp hp' : Hp} {Q : Ex → St → Prop} {id : Nat} {x : AV} {d : Nat}
theorem quiet_at {o : Oper} (hops : ∀ j, (o :: rest')[j]? = ops[k + j]?) (hk : Nat.blt k T = true) (hq : isQ o.op = true) : loudT ops T k = false := by
 have hok : ops[k]? = some o := by have := hops 0; simpa using this.symm
 have hlt : k < T := Nat.le_of_ble_eq_true hk
 exact loudT_q hok hq (by omega)
theorem next_at {o : Oper} (hops : ∀ j, (o :: rest')[j]? = ops[k + j]?) : ∀ j, rest'[j]? = ops[k + 1 + j]? := fun j => by have := hops (j + 1); simpa [Nat.add_assoc, Nat.add_comm 1 j] using this
theorem RunDT.done (hr : rest = []) (kk : K s) : RunDT E cx ops T n0 k rest s K := by
 subst hr
 exact fun ro base Q w0 Z R0 h0 a w R _ _ _ _ sr hgr st _ _ q => ⟨fun _ => hgr, q s a w Z R kk sr st⟩
theorem RunDT.mono {K' : St → Prop} (h : RunDT E cx ops T n0 k rest s K) (hk : ∀ s, K s → K' s) : RunDT E cx ops T n0 k rest s K' := fun ro base Q w0 Z R0 h0 a w R h1 h2 h3 h4 h5 h6 h7 h8 h9 q => h ro base Q w0 Z R0 h0 a w R h1 h2 h3 h4 h5 h6 h7 h8 h9 fun s' a' w' Z' R' hK => q s' a' w' Z' R' (hk s' hK)
/-- An operation that reads. -/
theorem RunDT.q {o : Oper} (hr : rest = o :: rest') (hk : Nat.blt k T = true) (hq : isQ o.op = true) (hw : wantedA ops (Fr n l) o = some true) (hd : o.dst = some d) (h : evOpQ E.P (opA E (Fr n l)) hp o.op = some x) (hl : ldOk n0 (opA E (Fr n l)) o.op = true) (kk : RunDT E cx ops T n0 (k + 1) rest' ⟨Fr n ((d, x) :: l), hp⟩ K) : RunDT E cx ops T n0 k rest ⟨Fr n l, hp⟩ K := by
 subst hr
 intro ro base Q w0 Z R0 h0 a w R hro hy hh0 hn0 sr hgr st hpre hops q
 refine ⟨fun _ => hgr, ?_⟩
 rw [if_pos (wantedA_eq sr hw), quiet_at hops hk hq, if_neg (by simp)]
 have hρ : ∀ o x, opA E (Fr n l) o = some x → VR w Z R x (a.eval o) := fun o x e => opA_vr sr o x e
 obtain ⟨u, hu, hrun⟩ := evOpQ_sound sr.hh hρ h
 have hquiet : ∃ u, VR w Z R x u ∧ QuietAt E.P (Cf (fun w' => w0.grownBy w' none) o) o u a := by
  cases hl' : isLd o.op with
  | false => exact ⟨u, hu, fun w' _ => hrun w' fun h => by rw [hl'] at h; cases h⟩
  | true =>
   obtain ⟨u1, hu1, hq1⟩ := load_quiet hh0 sr hgr st hpre hl' (by rw [← hn0]; exact hl) h
   exact ⟨u1, hu1, hq1.up (free_ld hl')⟩
 obtain ⟨u, hu, hquiet⟩ := hquiet
 refine ⟨u, hquiet, ?_⟩
 have sr' := sr.put (d := o.dst) hu
 rw [hd, show putA (⟨Fr n l, hp⟩ : St).fr (some d) x = Fr n ((d, x) :: l) from putA_Fr n l d _] at sr'
 rw [hd]
 exact kk ro base Q w0 Z R0 h0 _ w R hro hy hh0 hn0 sr' hgr st hpre (next_at hops) q
/-- One that is not wanted. -/
theorem RunDT.skip {o : Oper} (hr : rest = o :: rest') (hw : wantedA ops (Fr n l) o = some false) (hd : o.dst = some d) (kk : RunDT E cx ops T n0 (k + 1) rest' ⟨Fr n ((d, .tp []) :: l), hp⟩ K) : RunDT E cx ops T n0 k rest ⟨Fr n l, hp⟩ K := by
 subst hr
 intro ro base Q w0 Z R0 h0 a w R hro hy hh0 hn0 sr hgr st hpre hops q
 refine ⟨fun _ => hgr, ?_⟩
 rw [if_neg (by rw [wantedA_eq sr hw]; simp)]
 have sr' := sr.put (d := o.dst) (x := .tp []) undef_vr
 rw [hd, show putA (⟨Fr n l, hp⟩ : St).fr (some d) (.tp []) = Fr n ((d, .tp []) :: l) from putA_Fr n l d _] at sr'
 rw [hd]
 exact kk ro base Q w0 Z R0 h0 _ w R hro hy hh0 hn0 sr' hgr st hpre (next_at hops) q
theorem RunDT.tail (hT : T = k) (h : RunL E cx ops rest s K) : RunDT E cx ops T n0 k rest s K := by
 subst hT
 intro ro base Q w0 Z R0 h0 a w R hro hy hh0 hn0 sr hgr st hpre hops q
 exact lwl_mix (h ro base Q a w Z R hro sr (hy.step hh0 st) fun s' a' w' Z' R' hK sr' st' => q s' a' w' Z' R' hK sr' (st.trans st')) (Nat.le_refl _) (fun _ => hgr) (fun j hj => loudT_or hj) hops
theorem SemY.runDT (T : Nat) (hm : E.P.follows .mixedOrders = true) (hB : Region.lexB .any ops = true) (hb : loudB ops (loudT ops T) T = true) (h : RunDT E cx ops T s.hp.length 0 ops.toList s fun s' => Q .normal s') : SemY E cx (.region id ops true) s Q := by
 intro ro base Qm a w Z R hro sr hy kk
 have hgd : w.grownBy w.drew none := ch_drew w
 have hops : ops.toList.toArray = ops := by simp
 have st0 : Step w Z R s.hp w.drew Z R s.hp := ⟨rfl, rfl, rfl, Nat.le_refl _, fun c hc _ => rfl, fun _ h => .inl h, fun _ h => h, fun _ h => .inl h, fun _ _ h => h⟩
 have hsrd : SR E base w.drew Z R s a := ⟨sr.hh.keep (Nat.le_refl _) (fun c hc => hgd.block c hc (by simp)), sr.fr.off (fun c hc => rfl), sr.mks.step st0, sr.gl.off (fun c hc => rfl), sr.bs⟩
 have hm' := h ro base (fun a w => Qm .normal a w) w.drew Z R s.hp a w.drew R hro (hy.step sr.hh st0) hsrd.hh rfl hsrd (pu_refl _) (Step.refl _ _ _ _) (fun b B hb => hb) (fun j => by simp) (fun s' a' w' Z' R' hq sr' st => kk .normal s' a' w' Z' R' hq sr' (st0.trans st))
 have := wp_region_mix (P := E.P) (id := id) (l := ops.toList) (a := a) (w := w) (C := fun w' => w.drew.grownBy w' none) (loud := loudT ops T) (T := T) (Q' := Qm) ro 0 hm (by rw [hops]; exact hB) (by rw [hops]; exact hb) (by rw [hops]; exact hm')
 rw [hops] at this
 exact this
theorem nble {a b : Nat} (h : a < b) : Nat.blt a b = true := by unfold Nat.blt; rw [Nat.ble_eq]; exact h
theorem ldOk_cel {kk off : Nat} {t ty : TypeId} {q a : AV} {h0 : Hp} {L : List Asn} {p : Operand} {ρ : Operand → Option AV} (ht : Go.Proofs.YtcmgmkepodbpkaaDoor.T h0 (cel q kk t a :: L)) (hp : ρ p = some (pOff q off)) : ldOk h0.length ρ (.load ty p) = true := by
 obtain ⟨F, ⟨b, rfl, rfl, h2⟩, _⟩ := ht.act
 simp only [ldOk, hp, pOff]
 exact nble (get_lt h2)
end
section
variable {P : Program} {h : Hp} {ρ : Operand → Option AV} {α : Type} {o : Oc α} {k : Nat} {t : TypeId} {e : AV} {xs : List α} {L : List Asn}
theorem q_fld {ty : TypeId} {x : Operand} {f : Nat} {a r : AV} (hx : ρ x = some a) (he : evFieldAddr P ty a f = some r) : evOpQ P ρ h (.fieldAddr ty x f) = some r := by
 show (match ρ x with | some x => evFieldAddr P ty x f | none => none) = some r
 rw [hx]; exact he
theorem q_nil {x : Operand} {a : AV} (ha : ∃ b i, a = .pt b i 0) (hx : ρ x = some a) : evOpQ P ρ h (.nilCheck x) = some a := by
 obtain ⟨b, i, rfl⟩ := ha
 simp only [evOpQ, hx]
theorem shape_own (ht : T h (own_ (ocL k t o) e xs :: L)) : e.notTp = true ∧ e.notAg = true := by
 obtain ⟨F, p, _⟩ := ht.act
 rcases p with ⟨rfl, _⟩ | ⟨b, es, F', rfl, _⟩ <;> exact ⟨rfl, rfl⟩
theorem shape_cel {p a : AV} (ht : T h (cel p k t a :: L)) : p.notTp = true ∧ p.notAg = true := by
 obtain ⟨F, ⟨b, rfl, _⟩, _⟩ := ht.act
 exact ⟨rfl, rfl⟩
theorem cel_pt {p a : AV} (ht : T h (cel p k t a :: L)) : ∃ b, p = .pt b 0 0 := by
 obtain ⟨F, ⟨b, rfl, _⟩, _⟩ := ht.act
 exact ⟨b, rfl⟩
theorem nil_cel {p a : AV} (ht : T h (cel p k t a :: L)) : ∃ b i, p = .pt b i 0 := let ⟨b, hb⟩ := cel_pt ht; ⟨b, 0, hb⟩
theorem q_pn {op : BinOp} {ty t' : TypeId} {x y : Operand} {p r : AV} (hp : ∃ b, p = .pt b 0 0) (hx : ρ x = some p) (hy : ρ y = some (.v (.pointer none))) (hi : isPtr P ty = true) (hr : eqV op false = some r) : evOpQ P ρ h (.binOp op ty x y t') = some r := by
 obtain ⟨b, rfl⟩ := hp
 simp [evOpQ, hx, hy, evBin, evEq, hi, hr]
theorem q_pp {op : BinOp} {ty t' : TypeId} {x y : Operand} {p r : AV} (hp : ∃ b, p = .pt b 0 0) (hx : ρ x = some p) (hy : ρ y = some p) (hi : isPtr P ty = true) (hr : eqV op true = some r) : evOpQ P ρ h (.binOp op ty x y t') = some r := by
 obtain ⟨b, rfl⟩ := hp
 simp [evOpQ, hx, hy, evBin, evEq, hi, hr]
/-- A pointer to a cell of its own seen as another pointer. -/
def cvB (P : Program) (a b k t : Nat) : Bool := match P.underlying a, P.underlying b with
 | some (.pointer t'), some .unsafePointer => Nat.blt 0 k && (match tySize P t' with | some (_ + 1) => true | _ => false)
 | some .unsafePointer, some (.pointer u) => Nat.blt 0 k && Nat.beq t u && Nat.beq (P.cellsOf u) k && (P.info? u).isSome
 | _, _ => false
theorem op_cv {E : Env} {ih : IH} {cx : Cx} {ops : Array Oper} {n d : Nat} {l : List (Nat × AV)} {a b : TypeId} {x : Operand} {p c : AV} {ty : TypeId} {pos : String} {af : Array Edge} {g : Option (Nat × Bool)} (ht : T h (cel p k t c :: L)) (hw : wantedA ops (Fr n l) ⟨some d, .convert a b x, ty, pos, af, g⟩ = some true) (hx : opA E (Fr n l) x = some p) (hc : cvB E.P a b k t = true) : opsA E ih cx ops [⟨some d, .convert a b x, ty, pos, af, g⟩] ⟨Fr n l, h⟩ = some ⟨Fr n ((d, p) :: l), h⟩ := by
 obtain ⟨F, ⟨q, rfl, _, h2⟩, _⟩ := ht.act
 have e1 : evOpX E.P E.I (opA E (Fr n l)) h (.convert a b x) = some (.pt q 0 0) := by
  simp only [evOpX, hx]
  unfold cvB at hc
  unfold evConvP
  split at hc
  ·next t' h3 h4 =>
   simp only [Bool.and_eq_true] at hc
   obtain ⟨c1, c2⟩ := hc
   split at c2
   ·next m hm =>
    simp only [h3, h4, h2]
    rw [if_pos ⟨by simp, Nat.le_of_ble_eq_true c1, by rw [hm]; rfl, by rw [hm]; simp⟩]
   ·cases c2
  ·next u h3 h4 =>
   simp only [Bool.and_eq_true] at hc
   obtain ⟨⟨⟨c1, c2⟩, c3⟩, c4⟩ := hc
   simp only [h3, h4, h2]
   rw [if_pos ⟨by simp, Nat.le_of_ble_eq_true c1, Nat.eq_of_beq_eq_true c2, Nat.eq_of_beq_eq_true c3, c4⟩]
  ·cases hc
 have e0 : evOpQ E.P (opA E (Fr n l)) h (.convert a b x) = none := by
  simp only [evOpQ, hx]
  unfold evConv
  split <;> first | rfl | (next hq => cases hq) | (rename_i h5; cases h5)
 unfold opsA op1
 simp only [hw, e0, evOpN, evOpW, e1, putA_Fr]
 rfl
theorem op_id {E : Env} {ih : IH} {cx : Cx} {ops : Array Oper} {n d : Nat} {l : List (Nat × AV)} {f x : Operand} {p : AV} {tys : Array TypeId} {fid : FuncId} {ty : TypeId} {pos : String} {af : Array Edge} {g : Option (Nat × Bool)} (hw : wantedA ops (Fr n l) ⟨some d, .call ⟨.value f, #[x], tys⟩, ty, pos, af, g⟩ = some true) (hf : opA E (Fr n l) f = some (.fn fid [] [])) (hx : opA E (Fr n l) x = some p) (hi : E.I fid = true) : opsA E ih cx ops [⟨some d, .call ⟨.value f, #[x], tys⟩, ty, pos, af, g⟩] ⟨Fr n l, h⟩ = some ⟨Fr n ((d, p) :: l), h⟩ := by
 have e1 : evOpX E.P E.I (opA E (Fr n l)) h (.call ⟨.value f, #[x], tys⟩) = some p := by
  simp [evOpX, hf, opds, hx, hi]
 unfold opsA op1
 simp only [hw, evOpQ, evOpN, evOpW, e1, putA_Fr]
 rfl
/-- The bytes of a string as numbers. -/
def bytesI (bs : List UInt8) : List Int := bs.map fun b => (b.toNat : Int)
theorem bytesI_app (a b : List UInt8) : bytesI (a ++ b) = bytesI a ++ bytesI b := List.map_append
theorem bytesI_len (a : List UInt8) : (bytesI a).length = a.length := List.length_map _
theorem elems_st {bs : List UInt8} : elems h 1 (.st bs) = some ((bytesI bs).map (cdK .u8).enc) := by
 simp [elems, bytesI, cdK, List.map_map, Function.comp_def]
theorem bytesA_I : ∀ (bs : List UInt8), bytesA ((bytesI bs).map (cdK .u8).enc) = some bs
 | [] => rfl
 | b :: bs => by
  have := bytesA_I bs
  simp only [bytesI, List.map_cons] at this ⊢
  show (if 0 ≤ (b.toNat : Int) ∧ (b.toNat : Int) < 256 then (bytesA _).map fun l => (b.toNat : Int).toNat.toUInt8 :: l else none) = _
  rw [if_pos ⟨by omega, by have := b.toNat_lt; omega⟩, this]
  simp
theorem q_sd {args : Array Operand} {tys : Array TypeId} {a : AV} (ht : T h (own_ (ocL k t o) a xs :: L)) (hx : opds ρ args.toList = some [a]) (hn : decide (0 < xs.length) = true) : evOpQ P ρ h (.call ⟨.builtin .unsafeSliceData, args, tys⟩) = some (eAt a (0 : Int).toNat) := by
 obtain ⟨F, p, _⟩ := ht.act
 have hn := of_decide_eq_true hn
 rcases p with ⟨rfl, rfl, _⟩ | ⟨b, es, F', rfl, h2, _⟩
 ·simp at hn
 ·obtain ⟨m, hm⟩ : ∃ m, xs.length = m + 1 := ⟨xs.length - 1, by omega⟩
  simp [evOpQ, hx, hm, eAt]
theorem ustr_own {ty el : TypeId} {bs : List UInt8} (ht : T h (own_ (ocL 1 el (ocV (cdK .u8))) e (bytesI bs) :: L)) (hu : P.underlying ty = some (.pointer el)) (hc : P.cellsOf el = 1) (hn : decide (0 < bs.length) = true) (hk : okB bs = true) : ∃ h', evUStr P h ty (eAt e (0 : Int).toNat) (.v (.int .i64 ((bytesI bs).length : Int))) = some (.st bs, h') ∧ T h' L := by
 obtain ⟨F, p, hn', _, hk0⟩ := ht.act
 have hn := of_decide_eq_true hn
 have hl := bytesI_len bs
 rcases p with ⟨rfl, h1, _⟩ | ⟨b, es, F', rfl, h2, rfl, h4⟩
 ·rw [h1] at hl; simp at hl; omega
 ·obtain ⟨rfl, rfl⟩ := h4.leaf_inv
  refine ⟨h.set b none, ?_, hk0 _ fun c hc hlt => ?_⟩
  ·rw [show eAt (.rf b 0 (bytesI bs).length (bytesI bs).length) (0 : Int).toNat = .pt b 0 0 from rfl]
   simp only [evUStr, hu, h2]
   have ht' : (((bytesI bs).map (cdK .u8).enc).take ((bytesI bs).length : Int).toNat) = (bytesI bs).map (cdK .u8).enc := by
    rw [List.take_of_length_le]; simp
   simp only [ht', bytesA_I, hk]
   rw [if_pos ⟨trivial, trivial, trivial, hc, by omega, by simp⟩]
   rfl
  ·rw [List.getElem?_set, if_neg (by intro e; subst e; simp at hc)]
theorem w_ustr {t1 t2 : TypeId} {x y : Operand} {a b : AV} {r : AV × Hp} (hx : ρ x = some a) (hy : ρ y = some b) (he : evUStr P h t1 a b = some r) : evOpW P ρ h (.call ⟨.builtin .unsafeString, #[x, y], #[t1, t2]⟩) = some r := by
 show (match opds ρ [x, y], [t1, t2] with | some [x, n], [t, _] => evUStr P h t x n | _, _ => none) = some r
 simp only [opds, hx, hy]
 exact he
end
def isSl (P : Program) (t : TypeId) : Bool := match P.underlying t with
 | some (.slice _) => true
 | _ => false
theorem isSl_inv {P : Program} {t : TypeId} (h : isSl P t = true) : ∃ el, P.underlying t = some (.slice el) := by
 unfold isSl at h
 split at h
 ·next el he => exact ⟨el, he⟩
 ·cases h
def fldB (P : Program) (t : TypeId) (f off : Nat) : Bool := match P.underlying t with
 | some (.struct fs) => match fs[f]? with
  | some fd => match tySize P fd.type with
   | some (_ + 1) => Nat.beq fd.offset off
   | _ => false
  | none => false
 | _ => false
theorem fldB_inv {P : Program} {t : TypeId} {f off : Nat} (h : fldB P t f off = true) : ∃ fs fd q, P.underlying t = some (.struct fs) ∧ fs[f]? = some fd ∧ tySize P fd.type = some (q + 1) ∧ fd.offset = off := by
 unfold fldB at h
 split at h
 ·next fs h1 =>
  split at h
  ·next fd h2 =>
   split at h
   ·next q h3 => exact ⟨fs, fd, q, h1, h2, h3, Nat.eq_of_beq_eq_true h⟩
   ·cases h
  ·cases h
 ·cases h
section
variable {P : Program} {h : Hp} {α : Type} {o : Oc α} {c : Cd α} {k bytes n : Nat} {t ty ty2 : TypeId} {e y : AV} {xs ys : List α} {L : List Asn} {v : α}
theorem len_B (ht : T h (own_ (ocL k t o) e xs :: L)) (hu : isSl P ty = true) : evLen P ty e = some (eI xs.length) := let ⟨_, h1⟩ := isSl_inv hu; len_own ht h1
theorem app_leafB (ht : T h (own_ (ocL k t (ocV c)) e xs :: L)) (hsy : srcOk P ty2 y = true) (hel : elems h k y = some (ys.map c.enc)) (ha : apB P ty t k bytes = true) (hc : capOk bytes (xs.length + ys.length) = true) : ∃ e' h', evAppend P h ty ty2 e y = some (e', h') ∧ T h' (own_ (ocL k t (ocV c)) e' (xs ++ ys) :: L) := by
 obtain ⟨i, z, a1, a2, a3, a4, a5, a6, a7, a8⟩ := apB_inv ha
 exact app_leaf ht hsy hel a1 a2 a3 a4 (nble a5) a6 a7 a8 hc
theorem fldc_B {f off : Nat} {p a : AV} (ht : T h (cel p k t a :: L)) (hf : fldB P ty f off = true) : evFieldAddr P ty p f = some (pOff p off) := by
 obtain ⟨fs, fd, q, h1, h2, h3, rfl⟩ := fldB_inv hf
 exact fld_cel ht h1 h2 h3
end
/-- What a call is handed, own or not, as it is told. -/
def SeeD {α : Type} (hp : Hp) (c : Cd α) (x : AV) (v : α) : Prop := ∃ y, SeeV hp x y ∧ c.dec y = some v
def SeesD {α : Type} (hp : Hp) (s : Cs α) (xs : List AV) (a : α) : Prop := ∃ ys, Sees hp xs ys ∧ s.dec ys = some a
theorem SeesD.nil {hp : Hp} : SeesD hp csN [] () := ⟨[], .nil, rfl⟩
theorem SeesD.cons {α β : Type} {hp : Hp} {c : Cd α} {s : Cs β} {x : AV} {xs : List AV} {v : α} {a : β} (h1 : SeeD hp c x v) (h2 : SeesD hp s xs a) : SeesD hp (csC c s) (x :: xs) (v, a) := by
 obtain ⟨y, k1, k2⟩ := h1
 obtain ⟨ys, q1, q2⟩ := h2
 refine ⟨y :: ys, .cons k1 q1, ?_⟩
 show ((c.dec y).bind fun x => (s.dec ys).map fun y => (x, y)) = _
 rw [k2, q2]; rfl
theorem SeeD.enc {α : Type} {hp : Hp} {c : Cd α} {v : α} : SeeD hp c (c.enc v) v := ⟨_, .enc, c.de v⟩
theorem SeeD.e0 {α : Type} {hp : Hp} {c : Cd α} {k : Nat} : SeeD hp (cdL k c) .e0 [] := ⟨.e0, .id rfl, rfl⟩
theorem SeeD.own {α : Type} {hp : Hp} {o : Oc α} {e : AV} {x : α} {L : List Asn} {i : Nat} (ht : T hp L) (hi : L[i]? = some (own_ o e x)) : SeeD hp o.cd e x := ⟨_, .own ht hi, o.cd.de x⟩
section
variable {E : Env} {cx : Cx} {ops : Array Oper} {rest rest' : List Oper} {K : St → Prop} {n n0 k T : Nat} {l : List (Nat × AV)} {hp : Hp}
theorem RunL.cv (hE : EnvOk E) {kk d : Nat} {t a b : TypeId} {x : Operand} {p c : AV} {ty : TypeId} {pos : String} {af : Array Edge} {g : Option (Nat × Bool)} {L : List Asn} (hr : rest = ⟨some d, .convert a b x, ty, pos, af, g⟩ :: rest') (ht : Go.Proofs.YtcmgmkepodbpkaaDoor.T hp (cel p kk t c :: L)) (hw : wantedA ops (Fr n l) ⟨some d, .convert a b x, ty, pos, af, g⟩ = some true) (hx : opA E (Fr n l) x = some p) (hc : cvB E.P a b kk t = true) (k : RunL E cx ops rest' ⟨Fr n ((d, p) :: l), hp⟩ K) : RunL E cx ops rest ⟨Fr n l, hp⟩ K :=
 RunL.one hE 0 hr (op_cv ht hw hx hc) k
theorem RunL.idf (hE : EnvOk E) {d : Nat} {f x : Operand} {p : AV} {tys : Array TypeId} {fid : FuncId} {ty : TypeId} {pos : String} {af : Array Edge} {g : Option (Nat × Bool)} (hr : rest = ⟨some d, .call ⟨.value f, #[x], tys⟩, ty, pos, af, g⟩ :: rest') (hw : wantedA ops (Fr n l) ⟨some d, .call ⟨.value f, #[x], tys⟩, ty, pos, af, g⟩ = some true) (hf : opA E (Fr n l) f = some (.fn fid [] [])) (hx : opA E (Fr n l) x = some p) (hi : E.I fid = true) (k : RunL E cx ops rest' ⟨Fr n ((d, p) :: l), hp⟩ K) : RunL E cx ops rest ⟨Fr n l, hp⟩ K :=
 RunL.one hE 0 hr (op_id hw hf hx hi) k
theorem RunL.call {α β : Type} {s : Cs α} {F : α → Option β} {er : β → AV} {a : α} {b : β} {xs : List AV} (hE : EnvOk E) {d : Nat} {f : Operand} {args : Array Operand} {tys : Array TypeId} {ty : TypeId} {pos : String} {af : Array Edge} {g : Option (Nat × Bool)} {fid : FuncId} (hr : rest = ⟨some d, .call ⟨.value f, args, tys⟩, ty, pos, af, g⟩ :: rest') (hw : wantedA ops (Fr n l) ⟨some d, .call ⟨.value f, args, tys⟩, ty, pos, af, g⟩ = some true)
  (hf : opA E (Fr n l) f = some (.fn fid [] [])) (hi : E.I fid = false) (hX : E.X fid = some (told s F er)) (ha : opds (opA E (Fr n l)) args.toList = some xs) (hv : Sns hp s xs a) (hok : xs.all noRf2 = true ∨ flatTp (er b) = true) (hF : F a = some b) (k : RunL E cx ops rest' ⟨Fr n ((d, er b) :: l), hp⟩ K) : RunL E cx ops rest ⟨Fr n l, hp⟩ K :=
 RunL.one hE 0 hr (op_call hw hf hi hX ha hv hok hF) k
end
section
variable {E : Env} {cx : Cx} {ops : Array Oper} {s : St} {Q : Ex → St → Prop} {id : Nat} {A : St → Prop} {c : Code}
theorem SemY.wkQ (h : SemY E cx c s fun e s' => ∃ s2, WkY E s' s2 ∧ Q e s2) : SemY E cx c s Q := by
 intro ro base Qm a w Z R h1 h2 h3 k
 refine h ro base Qm a w Z R h1 h2 h3 fun e s' a' w' Z' R' hQ sr st => ?_
 obtain ⟨s2, hw, hq⟩ := hQ
 obtain ⟨Z2, R2, sr2, st2⟩ := hw base w' Z' R' a' sr
 exact k e s2 a' w' Z2 R2 hq sr2 (st.trans st2)
end
theorem kr.{u} {α : Sort u} {a b : α} (h : a = b := by kernel_rfl) : a = b := h
/-- The slots of a frame that are told. -/
def slG : Nat → List (Option AV) → List (Nat × AV)
 | _, [] => []
 | i, some x :: r => (i, x) :: slG (i + 1) r
 | i, none :: r => slG (i + 1) r
theorem slG_lk : ∀ (fr : List (Option AV)) (i t : Nat) (x : AV), lk (slG i fr) t = some x → ∃ j, t = i + j ∧ fr[j]? = some (some x)
 | [], _, _, _, h => by cases h
 | some y :: r, i, t, x, h => by
  rw [slG, lk_put] at h
  split at h
  ·next e => injection h with h; subst e h; exact ⟨0, rfl, rfl⟩
  ·obtain ⟨j, h1, h2⟩ := slG_lk r (i + 1) t x h
   exact ⟨j + 1, by omega, by simpa using h2⟩
 | none :: r, i, t, x, h => by
  obtain ⟨j, h1, h2⟩ := slG_lk r (i + 1) t x h
  exact ⟨j + 1, by omega, by simpa using h2⟩
def frO (o : Option St) : List (Nat × AV) := match o with
 | some s => slG 0 s.fr
 | none => []
def segH (o : Option St) : Option (Nat × Hp) := match o with
 | some s => some (s.fr.length, s.hp)
 | none => none
section
variable {E : Env} {cx : Cx} {ops : Array Oper} {rest : List Oper} {K : St → Prop} {n n0 k0 m : Nat} {l l' : List (Nat × AV)} {hp hp' : Hp} {Q : Ex → St → Prop} {id : Nat} {c : Code}
theorem segH_inv {o : Option St} (h : segH o = some (n, hp)) : ∃ fr, o = some ⟨fr, hp⟩ ∧ fr.length = n ∧ frO o = slG 0 fr := by
 unfold segH at h
 split at h
 ·next s =>
  injection h with h
  injection h with h1 h2
  subst h2
  exact ⟨s.fr, rfl, h1, rfl⟩
 ·cases h
theorem SR.comp {base : Bs} {w : World} {Z : Nat → Prop} {R : List RI} {a : Act} {fr : List (Option AV)} (sr : SR E base w Z R ⟨fr, hp⟩ a) (hl : fr.length = n) : SR E base w Z R ⟨Fr n (slG 0 fr), hp⟩ a := by
 refine ⟨sr.hh, ⟨?_, fun t x hx => sr.fr.2 t x ?_⟩, sr.mks, sr.gl, sr.bs⟩
 ·rw [Fr_len, ← hl]; exact sr.fr.1
 ·rw [Fr_get] at hx
  split at hx
  ·injection hx with hx
   obtain ⟨j, h1, h2⟩ := slG_lk fr 0 t x hx
   rw [Nat.zero_add] at h1
   subst h1
   exact h2
  ·cases hx
/-- Some operations: the state behind them is computed. -/
theorem RunL.sg (hE : EnvOk E) (m : Nat) (k : RunL E cx ops (rest.drop m) ⟨Fr n (frO (opsA E (evC E 0) ⟨none, false⟩ ops (rest.take m) ⟨Fr n l, hp⟩)), hp⟩ K) (h : segH (opsA E (evC E 0) ⟨none, false⟩ ops (rest.take m) ⟨Fr n l, hp⟩) = some (n, hp) := by kernel_rfl) : RunL E cx ops rest ⟨Fr n l, hp⟩ K := by
 obtain ⟨fr, h1, h2, h3⟩ := segH_inv h
 rw [h3] at k
 refine RunL.seg hE m h1 ?_
 exact fun ro base Q a w Z R hro sr hy q => k ro base Q a w Z R hro (sr.comp h2) hy q
/-- All that are left. -/
theorem RunL.fin (hE : EnvOk E) (l' : List (Nat × AV)) (k : K ⟨Fr n l', hp⟩) (h : segB (opsA E (evC E 0) ⟨none, false⟩ ops rest ⟨Fr n l, hp⟩) l' = some (n, xs2 l', hp) := by kernel_rfl) : RunL E cx ops rest ⟨Fr n l, hp⟩ K :=
 RunL.segF hE rest.length l' hp (by rw [List.take_length]; exact h) (RunL.done (by simp) k)
theorem RunS.last (hE : EnvOk E) {s : St} (h : segB (opsA E (evC E 0) ⟨none, false⟩ ops rest s) l' = some (n, xs2 l', hp) := by kernel_rfl) : RunS E ops rest s fun s' => Wk E s' ⟨Fr n l', hp⟩ :=
 RunS.segF hE rest.length l' hp (by rw [List.take_length]; exact h) (RunS.done (by simp) Wk.refl)
theorem SemY.rg (hE : EnvOk E) (l' : List (Nat × AV)) (k : Q .normal ⟨Fr n l', hp⟩) (h : segB (opsA E (evC E 0) ⟨none, false⟩ ops ops.toList ⟨Fr n l, hp⟩) l' = some (n, xs2 l', hp) := by kernel_rfl) : SemY E cx (.region id ops false) ⟨Fr n l, hp⟩ Q :=
 SemY.regionL (RunL.fin hE l' k h)
theorem SemY.sq (hE : EnvOk E) (l' : List (Nat × AV)) (k : SemY E cx c ⟨Fr n l', hp⟩ Q) (h : segB (opsA E (evC E 0) ⟨none, false⟩ ops ops.toList ⟨Fr n l, hp⟩) l' = some (n, xs2 l', hp) := by kernel_rfl) : SemY E cx (.seq (.region id ops false) c) ⟨Fr n l, hp⟩ Q :=
 SemY.seq (SemY.rg hE l' k h)
theorem Sem.rg (hE : EnvOk E) (l' : List (Nat × AV)) (hp' : Hp) (k : Q .normal ⟨Fr n l', hp'⟩) (h : segB (opsA E (evC E 0) ⟨none, false⟩ ops ops.toList ⟨Fr n l, hp⟩) l' = some (n, xs2 l', hp') := by kernel_rfl) : Sem E cx (.region id ops false) ⟨Fr n l, hp⟩ Q :=
 Sem.runS (RunS.last hE h) k
theorem Sem.sq (hE : EnvOk E) (l' : List (Nat × AV)) (hp' : Hp) (k : Sem E cx c ⟨Fr n l', hp'⟩ Q) (h : segB (opsA E (evC E 0) ⟨none, false⟩ ops ops.toList ⟨Fr n l, hp⟩) l' = some (n, xs2 l', hp') := by kernel_rfl) : Sem E cx (.seq (.region id ops false) c) ⟨Fr n l, hp⟩ Q :=
 Sem.seq (Sem.rg hE l' hp' k h)
end
/- trestle/trestlelaw09.Few -/
noncomputable def e_law09_Few : Env := E0
theorem e_law09_Few_ok : EnvOk e_law09_Few := E0_ok
noncomputable def cb_law09_Few : Code := codeOf Tryd.f12
def law09_Few_2 (x0 : (List (List (List Int)))) (x1 : Int) (c3 : Int) (v5 : (List (List Int))) : Nat → Int → Int → Option ((Int) ⊕ (Bool))
 | 0, _, _ => none
 | f + 1, c8, c9 =>
  if (decide (c9 < (v5.length : Int))) = true then
  (idx v5 c9).bind fun v11 =>
  if (decide ((wr .i64 (c8 + (v11.length : Int))) > x1)) = true then
  some (.inr false)
  else
  law09_Few_2 x0 x1 c3 v5 f (wr .i64 (c8 + (v11.length : Int))) (wr .i64 (c9 + 1))
  else
  some (.inl c8)
def law09_Few_1 (x0 : (List (List (List Int)))) (x1 : Int) : Nat → Int → Int → Option ((Unit) ⊕ (Bool))
 | 0, _, _ => none
 | f + 1, c2, c3 =>
  if (decide (c3 < (x0.length : Int))) = true then
  (idx x0 c3).bind fun v5 =>
  if (decide ((v5.length : Int) > 12)) = true then
  some (.inr false)
  else
  (law09_Few_2 x0 x1 c3 v5 100000 c2 0).bind fun r15 =>
  match r15 with
  | (.inl w16) =>
   law09_Few_1 x0 x1 f w16 (wr .i64 (c3 + 1))
  | (.inr w17) =>
   some (.inr w17)
  else
  some (.inl ())
def law09_Few (x0 : (List (List (List Int)))) (x1 : Int) : Option (Bool) :=
 if (decide ((x0.length : Int) > 70)) = true then
 some false
 else
 (law09_Few_1 x0 x1 100000 0 0).bind fun r18 =>
 match r18 with
 | (.inl w19) =>
  some true
 | (.inr w20) =>
  some w20
def cs_law09_Few : Cs ((List (List (List Int))) × Int × Unit) := (csC (cdL 1 (cdL 1 (cdL 1 cdI))) (csC cdI csN))
def er_law09_Few (r : Bool) : AV := cdB.enc r
theorem law09_Few_2_ok (x0 : (List (List (List Int)))) (x1 : Int) (c3 : Int) (v5 : (List (List Int))) : ∀ (f : Nat) (c8 : Int) (c9 : Int) (r : (Int) ⊕ (Bool)), law09_Few_2 x0 x1 c3 v5 f c8 c9 = some r → SemN e_law09_Few ⟨none, false⟩ (pc cb_law09_Few [1, 1, 1, 0, 1, 0, 0, 1, 1, 0, 0, 1, 1, 1, 0, 0]) f ⟨Fr 37 [(1, .v (.int .i64 x1)), (5, .v (.int .i64 c8)), (13, .sl 1 (x0.map (cdL 1 (cdL 1 cdI)).enc)), (14, .v (.int .i64 (x0.length : Int))), (15, .v (.int .i64 c3)), (22, .sl 1 (v5.map (cdL 1 cdI).enc)), (23, .v (.int .i64 (v5.length : Int))), (24, .v (.int .i64 c9))], []⟩ (fun e s => match r with
 | (.inl w) => e = (.exit 2) ∧ Wk e_law09_Few s ⟨Fr 37 [(1, .v (.int .i64 x1)), (5, .v (.int .i64 w)), (13, .sl 1 (x0.map (cdL 1 (cdL 1 cdI)).enc)), (14, .v (.int .i64 (x0.length : Int))), (15, .v (.int .i64 c3))], []⟩
 | (.inr w) => e = .ret ∧ Wk e_law09_Few s ⟨Fr 37 [(4, .v (.bool w))], []⟩) := by
 have he := e_law09_Few_ok
 intro f
 induction f with
 | zero => intro c8 c9 r h; cases h
 | succ f ih0 =>
  intro c8 c9 r h
  have ih := fun (c8 : Int) (c9 : Int) => ih0 c8 c9 r
  unfold law09_Few_2 at h
  refine SemN.succ ?_
  let p1 : Nat × AV := (24, .v (.int .i64 c9))
  let p2 : Nat × AV := (23, .v (.int .i64 (v5.length : Int)))
  let p3 : Nat × AV := (22, .sl 1 (v5.map (cdL 1 cdI).enc))
  let p4 : Nat × AV := (15, .v (.int .i64 c3))
  let p5 : Nat × AV := (14, .v (.int .i64 (x0.length : Int)))
  let p6 : Nat × AV := (13, .sl 1 (x0.map (cdL 1 (cdL 1 cdI)).enc))
  let p7 : Nat × AV := (1, .v (.int .i64 x1))
  refine Sem.sq he [p7, (5, .v (.int .i64 c8)), p6, p5, p4, p3, p2, p1, (25, .v (.bool (decide (c9 < (v5.length : Int)))))] [] ?_
  refine Sem.seq ?_
  refine Sem.cond (b := (decide (c9 < (v5.length : Int)))) kr (fun hb10 => ?_) (fun hb10 => ?_)
  ·rw [if_pos hb10] at h
   refine Sem.skip ?_
   refine Sem.seq ?_
   refine Sem.block ?_
   refine Sem.seq ?_
   obtain ⟨v11, hv11, h⟩ := Option.bind_eq_some_iff.1 h
   refine Sem.runS (s1 := ⟨Fr 37 [p7, (5, .v (.int .i64 c8)), (9, .sl 1 (v11.map cdI.enc)), p6, p5, p4, p3, p2, p1], []⟩) ?_ ?_
   ·refine RunS.one he 0 rfl (op_q (wantedA_none rfl) rfl (q_indexAddr (a := .sl 1 (v5.map (cdL 1 cdI).enc)) (b := .v (.int .i64 c9)) kr kr (ix_sl (e := (cdL 1 cdI).enc) (el := 31) (k := 1) (ki := .i64) kr kr hv11))) ?_
    exact RunS.last he
   refine Sem.seq ?_
   let p8 : Nat × AV := (5, .v (.int .i64 (wr .i64 (c8 + (v11.length : Int)))))
   refine Sem.runS (s1 := ⟨Fr 37 [p7, p8, p6, p5, p4, p3, p2, p1], []⟩) ?_ ?_
   ·refine RunS.segF (n := 37) he 2 [p7, p6, p5, p4, p3, p2, p1, (28, .v (.int .i64 c8)), (29, .sl 1 (v11.map cdI.enc))] [] kr ?_
    refine RunS.one he 0 rfl (op_q (wantedA_none rfl) rfl (q_len (a := .sl 1 (v11.map cdI.enc)) kr (len_sl (el := 3) kr))) ?_
    exact RunS.last he
   refine Sem.sq he [p7, p8, p6, p5, p4, p3, p2, p1, (34, .v (.bool (decide ((wr .i64 (c8 + (v11.length : Int))) > x1))))] [] ?_
   refine Sem.cond (b := (decide ((wr .i64 (c8 + (v11.length : Int))) > x1))) kr (fun hb12 => ?_) (fun hb12 => ?_)
   ·rw [if_pos hb12] at h
    refine Sem.sq he [(4, .v (.bool false))] [] ?_
    refine Sem.ret ?_
    have hq := Option.some.inj h; subst hq
    exact ⟨rfl, Wk.f1⟩
   ·rw [if_f hb12] at h
    refine Sem.skip ?_
    let p9 : Nat × AV := (24, .v (.int .i64 (wr .i64 (c9 + 1))))
    refine Sem.rg he [p7, p8, p6, p5, p4, p3, p2, p9] [] ?_
    exact SemN.wk (s1 := ⟨Fr 37 [p7, p8, p6, p5, p4, p3, p2, p9], []⟩) Wk.f1 (ih (wr .i64 (c8 + (v11.length : Int))) (wr .i64 (c9 + 1)) h)
  ·rw [if_f hb10] at h
   refine Sem.exit ?_
   have hq := Option.some.inj h; subst hq
   exact ⟨rfl, Wk.f1⟩
theorem law09_Few_1_ok (x0 : (List (List (List Int)))) (x1 : Int) : ∀ (f : Nat) (c2 : Int) (c3 : Int) (r : (Unit) ⊕ (Bool)), law09_Few_1 x0 x1 f c2 c3 = some r → SemN e_law09_Few ⟨none, false⟩ (pc cb_law09_Few [1, 1, 1, 0, 1, 0, 0]) f ⟨Fr 37 [(1, .v (.int .i64 x1)), (5, .v (.int .i64 c2)), (13, .sl 1 (x0.map (cdL 1 (cdL 1 cdI)).enc)), (14, .v (.int .i64 (x0.length : Int))), (15, .v (.int .i64 c3))], []⟩ (fun e s => match r with
 | (.inl w) => e = (.exit 0) ∧ Wk e_law09_Few s ⟨Fr 37 [], []⟩
 | (.inr w) => e = .ret ∧ Wk e_law09_Few s ⟨Fr 37 [(4, .v (.bool w))], []⟩) := by
 have he := e_law09_Few_ok
 intro f
 induction f with
 | zero => intro c2 c3 r h; cases h
 | succ f ih0 =>
  intro c2 c3 r h
  have ih := fun (c2 : Int) (c3 : Int) => ih0 c2 c3 r
  unfold law09_Few_1 at h
  refine SemN.succ ?_
  let p1 : Nat × AV := (15, .v (.int .i64 c3))
  let p2 : Nat × AV := (14, .v (.int .i64 (x0.length : Int)))
  let p3 : Nat × AV := (13, .sl 1 (x0.map (cdL 1 (cdL 1 cdI)).enc))
  let p4 : Nat × AV := (5, .v (.int .i64 c2))
  let p5 : Nat × AV := (1, .v (.int .i64 x1))
  refine Sem.sq he [p5, p4, p3, p2, p1, (16, .v (.bool (decide (c3 < (x0.length : Int)))))] [] ?_
  refine Sem.seq ?_
  refine Sem.cond (b := (decide (c3 < (x0.length : Int)))) kr (fun hb4 => ?_) (fun hb4 => ?_)
  ·rw [if_pos hb4] at h
   refine Sem.skip ?_
   refine Sem.seq ?_
   refine Sem.block ?_
   refine Sem.seq ?_
   obtain ⟨v5, hv5, h⟩ := Option.bind_eq_some_iff.1 h
   let p6 : Nat × AV := (7, .sl 1 (v5.map (cdL 1 cdI).enc))
   refine Sem.runS (s1 := ⟨Fr 37 [p5, p4, p6, p3, p2, p1], []⟩) ?_ ?_
   ·refine RunS.one he 0 rfl (op_q (wantedA_none rfl) rfl (q_indexAddr (a := .sl 1 (x0.map (cdL 1 (cdL 1 cdI)).enc)) (b := .v (.int .i64 c3)) kr kr (ix_sl (e := (cdL 1 (cdL 1 cdI)).enc) (el := 50) (k := 1) (ki := .i64) kr kr hv5))) ?_
    exact RunS.last he
   refine Sem.seq ?_
   refine Sem.seq ?_
   refine Sem.runS (s1 := ⟨Fr 37 [p5, p4, p6, p3, p2, p1, (21, .v (.bool (decide ((v5.length : Int) > 12))))], []⟩) ?_ ?_
   ·refine RunS.segF (n := 37) he 1 [p5, p4, p6, p3, p2, p1, (19, .sl 1 (v5.map (cdL 1 cdI).enc))] [] kr ?_
    refine RunS.one he 0 rfl (op_q (wantedA_none rfl) rfl (q_len (a := .sl 1 (v5.map (cdL 1 cdI).enc)) kr (len_sl (el := 31) kr))) ?_
    exact RunS.last he
   refine Sem.cond (b := (decide ((v5.length : Int) > 12))) kr (fun hb6 => ?_) (fun hb6 => ?_)
   ·rw [if_pos hb6] at h
    refine Sem.sq he [(4, .v (.bool false))] [] ?_
    refine Sem.ret ?_
    have hq := Option.some.inj h; subst hq
    exact ⟨rfl, Wk.f1⟩
   ·rw [if_f hb6] at h
    refine Sem.skip ?_
    refine Sem.seq ?_
    let p7 : Nat × AV := (24, .v (.int .i64 0))
    let p8 : Nat × AV := (23, .v (.int .i64 (v5.length : Int)))
    let p9 : Nat × AV := (22, .sl 1 (v5.map (cdL 1 cdI).enc))
    refine Sem.runS (s1 := ⟨Fr 37 [p5, p4, p3, p2, p1, p9, p8, p7], []⟩) ?_ ?_
    ·refine RunS.segF (n := 37) he 1 [p5, p4, p3, p2, p1, p9] [] kr ?_
     refine RunS.one he 0 rfl (op_q (wantedA_none rfl) rfl (q_len (a := .sl 1 (v5.map (cdL 1 cdI).enc)) kr (len_sl (el := 31) kr))) ?_
     exact RunS.last he
    refine Sem.block ?_
    obtain ⟨r15, hr15, h⟩ := Option.bind_eq_some_iff.1 h
    refine Sem.loop (n := 100000) ?_
    rcases r15 with w16 | w17
    ·try dsimp only at h
     refine Sem.cutN (SemN.wk (s1 := ⟨Fr 37 [p5, p4, p3, p2, p1, p9, p8, p7], []⟩) Wk.f1 (law09_Few_2_ok x0 x1 c3 v5 _ c2 0 _ hr15)) ?_
     let p10 : Nat × AV := (15, .v (.int .i64 (wr .i64 (c3 + 1))))
     refine Sem.rg he [p5, (5, .v (.int .i64 w16)), p3, p2, p10] [] ?_
     exact SemN.wk (s1 := ⟨Fr 37 [p5, (5, .v (.int .i64 w16)), p3, p2, p10], []⟩) Wk.f1 (ih w16 (wr .i64 (c3 + 1)) h)
    ·try dsimp only at h
     refine Sem.cutN (SemN.wk (s1 := ⟨Fr 37 [p5, p4, p3, p2, p1, p9, p8, p7], []⟩) Wk.f1 (law09_Few_2_ok x0 x1 c3 v5 _ c2 0 _ hr15)) ?_
     have hq := Option.some.inj h; subst hq
     exact ⟨rfl, Wk.f1⟩
  ·rw [if_f hb4] at h
   refine Sem.exit ?_
   have hq := Option.some.inj h; subst hq
   exact ⟨rfl, Wk.f1⟩
theorem law09_Few_sem (x0 : (List (List (List Int)))) (x1 : Int) (r : Bool) (h : law09_Few x0 x1 = some r) : Sem e_law09_Few ⟨none, false⟩ cb_law09_Few ⟨Fr 37 (pairs0 0 (cs_law09_Few.enc (x0, x1, ()))), []⟩ fun e s' => (e = .normal ∨ e = .ret) ∧ ∃ xs, resA e_law09_Few.P s'.fr s'.hp Tryd.f12.results.toList = some xs ∧ retA xs = er_law09_Few r := by
 have he := e_law09_Few_ok
 unfold law09_Few at h
 let p1 : Nat × AV := (1, .v (.int .i64 x1))
 let p2 : Nat × AV := (0, .sl 1 (x0.map (cdL 1 (cdL 1 cdI)).enc))
 refine Sem.wkQ (Sem.wk (s1 := ⟨Fr 37 [p2, p1], []⟩) Wk.f1 ?_)
 refine Sem.sq he [p2, p1] [] ?_
 refine Sem.seq ?_
 refine Sem.seq ?_
 refine Sem.runS (s1 := ⟨Fr 37 [p2, p1, (12, .v (.bool (decide ((x0.length : Int) > 70))))], []⟩) ?_ ?_
 ·refine RunS.segF (n := 37) he 1 [p2, p1, (10, .sl 1 (x0.map (cdL 1 (cdL 1 cdI)).enc))] [] kr ?_
  refine RunS.one he 0 rfl (op_q (wantedA_none rfl) rfl (q_len (a := .sl 1 (x0.map (cdL 1 (cdL 1 cdI)).enc)) kr (len_sl (el := 50) kr))) ?_
  exact RunS.last he
 refine Sem.cond (b := (decide ((x0.length : Int) > 70))) kr (fun hb1 => ?_) (fun hb1 => ?_)
 ·rw [if_pos hb1] at h
  refine Sem.sq he [(4, .v (.bool false))] [] ?_
  refine Sem.ret ?_
  have hq := Option.some.inj h; subst hq
  exact ⟨⟨Fr 37 [(4, .v (.bool false))], []⟩, Wk.f1, .inr rfl, [.v (.bool false)], kr, kr⟩
 ·rw [if_f hb1] at h
  refine Sem.skip ?_
  let p3 : Nat × AV := (5, .v (.int .i64 0))
  refine Sem.sq he [p2, p1, p3] [] ?_
  refine Sem.seq ?_
  refine Sem.seq ?_
  let p4 : Nat × AV := (15, .v (.int .i64 0))
  let p5 : Nat × AV := (14, .v (.int .i64 (x0.length : Int)))
  let p6 : Nat × AV := (13, .sl 1 (x0.map (cdL 1 (cdL 1 cdI)).enc))
  refine Sem.runS (s1 := ⟨Fr 37 [p1, p3, p6, p5, p4], []⟩) ?_ ?_
  ·refine RunS.segF (n := 37) he 1 [p1, p3, p6] [] kr ?_
   refine RunS.one he 0 rfl (op_q (wantedA_none rfl) rfl (q_len (a := .sl 1 (x0.map (cdL 1 (cdL 1 cdI)).enc)) kr (len_sl (el := 50) kr))) ?_
   exact RunS.last he
  refine Sem.block ?_
  obtain ⟨r18, hr18, h⟩ := Option.bind_eq_some_iff.1 h
  refine Sem.loop (n := 100000) ?_
  rcases r18 with w19 | w20
  ·try dsimp only at h
   refine Sem.cutN (SemN.wk (s1 := ⟨Fr 37 [p1, p3, p6, p5, p4], []⟩) Wk.f1 (law09_Few_1_ok x0 x1 _ 0 0 _ hr18)) ?_
   refine Sem.sq he [(4, .v (.bool true))] [] ?_
   refine Sem.ret ?_
   have hq := Option.some.inj h; subst hq
   exact ⟨⟨Fr 37 [(4, .v (.bool true))], []⟩, Wk.f1, .inr rfl, [.v (.bool true)], kr, kr⟩
  ·try dsimp only at h
   refine Sem.cutN (SemN.wk (s1 := ⟨Fr 37 [p1, p3, p6, p5, p4], []⟩) Wk.f1 (law09_Few_1_ok x0 x1 _ 0 0 _ hr18)) ?_
   have hq := Option.some.inj h; subst hq
   exact ⟨⟨Fr 37 [(4, .v (.bool w20))], []⟩, Wk.f1, .inr rfl, [.v (.bool w20)], kr, kr⟩
def t_law09_Few : List AV → Option AV := told cs_law09_Few (fun a => law09_Few a.1 a.2.1) er_law09_Few
theorem x_law09_Few : XOk 12 t_law09_Few := by
 refine EnvOk.x (E := e_law09_Few) (contract_ok e_law09_Few_ok (fn := Tryd.f12) (c := cb_law09_Few) ?h1 ?h2 ⟨Tryd.call12⟩ cs_law09_Few (fun a => law09_Few a.1 a.2.1) er_law09_Few (fun a => (by show 2 ≤ 37; decide)) ?h3 ?h4) rfl rfl
 case h1 => kernel_rfl
 case h2 => kernel_rfl
 case h3 => intro b; kernel_rfl
 case h4 => exact fun a b h => law09_Few_sem a.1 a.2.1 b h
def law09_awake : Option Bool := some true
def cs_law09_awake : Cs Unit := csN
def er_law09_awake (b : Bool) : AV := cdB.enc b
def t_law09_awake : List AV → Option AV := told cs_law09_awake (fun _ => law09_awake) er_law09_awake
theorem x_law09_awake : XOk 13 t_law09_awake := by
 refine ⟨⟨Tryd.call13⟩, fun xs x h w Z us _ _ hv => ?_⟩
 obtain ⟨a, ha, h⟩ := Option.bind_eq_some_iff.1 h
 obtain ⟨b, hb, rfl⟩ := Option.map_eq_some_iff.1 h
 have hb := Option.some.inj hb
 subst hb
 have : xs = [] := by
  cases xs with
  | nil => rfl
  | cons x xs => cases ha
 subst this
 have : us = [] := by have := hv.len; simpa using this
 subst this
 exact Ret.mono (awake_ret w) fun v w' h => ⟨h.2, by rw [h.1]; exact vr_true⟩
/-- slices.Clone: nil for nil, else a new slice. -/
noncomputable def cb_clone : Code := codeOf Tryd.f20
def own1 (xs : List Int) : Option Blk := some ⟨1, 3, xs.map cdI.enc, false⟩
set_option maxRecDepth 100000 in
theorem clone_sem (xs : List Int) (hc : capOk 8 xs.length = true) : Sem E0 ⟨none, false⟩ cb_clone ⟨Fr 8 [(0, .sl 1 (xs.map cdI.enc))], []⟩ fun e s' => (e = .normal ∨ e = .ret) ∧ ((xs = [] ∧ s' = ⟨Fr 8 [(2, .e0)], []⟩) ∨ s' = ⟨Fr 8 [(2, .rf 0 0 xs.length xs.length)], [own1 xs]⟩) := by
 refine Sem.seq ?_
 refine Sem.runS (s1 := ⟨Fr 8 [(0, .sl 1 (xs.map cdI.enc)), (2, .e0)], []⟩) ?_ ?_
 ·refine RunS.seg E0_ok 1 (s1 := ⟨Fr 8 [(0, .sl 1 (xs.map cdI.enc)), (2, .e0)], []⟩) (by kernel_rfl) ?_
  exact RunS.done rfl Wk.f1
 refine Sem.seq ?_
 refine Sem.seq (Sem.runQ ?_)
 refine RunS.seg E0_ok 1 (s1 := ⟨Fr 8 [(0, .sl 1 (xs.map cdI.enc)), (2, .e0), (3, .sl 1 (xs.map cdI.enc))], []⟩) (by kernel_rfl) ?_
 refine RunS.isnil (k := 1) (el := 3) (es := xs.map cdI.enc) rfl (wantedA_none rfl) (by kernel_rfl) (by kernel_rfl) fun b hb => RunS.done rfl ?_
 have hb : b = true → xs = [] := fun h => List.map_eq_nil_iff.1 (hb h)
 refine Sem.cond (b := b) (by kernel_rfl) (fun hb1 => ?_) (fun hb1 => ?_)
 ·have hx := hb hb1
  refine Sem.wkQ ?_
  refine Sem.seq (Sem.runS (s1 := ⟨Fr 8 [(2, .e0)], []⟩) ?_ (Sem.ret ?_))
  ·refine RunS.seg E0_ok 1 (s1 := ⟨Fr 8 [(0, .sl 1 (xs.map cdI.enc)), (2, .e0), (3, .sl 1 (xs.map cdI.enc)), (4, .v (.bool b))], []⟩) (by kernel_rfl) ?_
   exact RunS.done rfl Wk.f1
  ·exact ⟨_, Wk.refl, .inr rfl, .inl ⟨hx, rfl⟩⟩
 ·refine Sem.skip ?_
  refine Sem.wkQ (Sem.seq (Sem.runQ ?_))
  refine RunS.seg E0_ok 2 (s1 := ⟨Fr 8 [(0, .sl 1 (xs.map cdI.enc)), (2, .e0), (3, .sl 1 (xs.map cdI.enc)), (4, .v (.bool b)), (5, .rf 0 0 0 0), (6, .sl 1 (xs.map cdI.enc))], [own1 []]⟩) (by kernel_rfl) ?_
  cases xs with
  | nil =>
   refine RunS.one E0_ok 0 rfl (op_w (x := .rf 0 0 0 0) (hp' := [own1 []]) (wantedA_none rfl) rfl (by kernel_rfl) (by kernel_rfl) (by kernel_rfl)) ?_
   refine RunS.seg E0_ok 1 (s1 := ⟨Fr 8 [(0, .sl 1 []), (2, .rf 0 0 0 0), (3, .sl 1 []), (4, .v (.bool b)), (5, .rf 0 0 0 0), (6, .sl 1 []), (7, .rf 0 0 0 0)], [own1 []]⟩) (by kernel_rfl) (RunS.done rfl (Sem.ret ?_))
   exact ⟨⟨Fr 8 [(2, .rf 0 0 0 0)], [own1 []]⟩, Wk.f1, .inr rfl, .inr rfl⟩
  | cons y ys =>
   refine RunS.one E0_ok 0 rfl (op_w (wantedA_none rfl) rfl (by kernel_rfl) (by kernel_rfl) (w_append (a := .rf 0 0 0 0) (b := .sl 1 ((y :: ys).map cdI.enc)) (by kernel_rfl) (by kernel_rfl) (append_R (c := cdI) (xs := []) (vs := y :: ys) (k := 1) (bytes := 8) (el := 3) (by kernel_rfl) (by kernel_rfl) elems_sl (List.cons_ne_nil _ _) (by kernel_rfl) (by rw [List.length_nil, Nat.zero_add]; exact hc)))) ?_
   refine RunS.seg E0_ok 1 (s1 := ⟨Fr 8 [(0, .sl 1 ((y :: ys).map cdI.enc)), (2, .rf 1 0 (y :: ys).length (y :: ys).length), (3, .sl 1 ((y :: ys).map cdI.enc)), (4, .v (.bool b)), (5, .rf 0 0 0 0), (6, .sl 1 ((y :: ys).map cdI.enc)), (7, .rf 1 0 (y :: ys).length (y :: ys).length)], [none, own1 (y :: ys)]⟩) (by kernel_rfl) (RunS.done rfl (Sem.ret ?_))
   exact ⟨⟨Fr 8 [(2, .rf 0 0 (y :: ys).length (y :: ys).length)], [own1 (y :: ys)]⟩, Wk.s3 [1] ⟨⟨_, rfl, bu_own⟩, trivial⟩ ⟨lv, trivial⟩, .inr rfl, .inr rfl⟩
def OutClone (xs : List Int) (x : AV) (h' : Hp) : Prop := (xs = [] ∧ x = .e0 ∧ h' = []) ∨ (x = .rf 0 0 xs.length xs.length ∧ h' = [own1 xs])
theorem s_clone (xs : List Int) (hc : capOk 8 xs.length = true) : SOk 20 [.sl 1 (xs.map cdI.enc)] (OutClone xs) := by
 refine sok_of_sem E0_ok rfl rfl (fn := Tryd.f20) (c := cb_clone) (by kernel_rfl) (by kernel_rfl) ⟨Tryd.call20⟩ (by show 1 ≤ 8; decide) (Sem.mono (clone_sem xs hc) ?_)
 rintro e s' ⟨he, ⟨hx, rfl⟩ | rfl⟩
 ·exact ⟨he, [.e0], by kernel_rfl, .inl ⟨hx, rfl, rfl⟩⟩
 ·exact ⟨he, [.rf 0 0 xs.length xs.length], by kernel_rfl, .inr ⟨rfl, rfl⟩⟩
theorem flat_ints (xs : List Int) : (xs.map cdI.enc).all isFlat = true := by
 rw [List.all_eq_true]
 intro x hx
 obtain ⟨y, _, rfl⟩ := List.mem_map.1 hx
 rfl
theorem clone_flat {xs : List Int} : ∀ x h', OutClone xs x h' → ownFlat x = true ∧ flatH h' = true := by
 rintro x h' (⟨_, rfl, rfl⟩ | ⟨rfl, rfl⟩)
 ·exact ⟨rfl, rfl⟩
 ·refine ⟨rfl, ?_⟩
  show (!false && (xs.map cdI.enc).all isFlat && true) = true
  rw [flat_ints]; rfl
/- trestle/trestlelaw09.Copy -/
noncomputable def e_law09_Copy : Env := E0
theorem e_law09_Copy_ok : EnvOk e_law09_Copy := E0_ok
noncomputable def cb_law09_Copy : Code := codeOf Tryd.f14
def law09_Copy_2 (x0 : (List (List (List Int)))) (c1 : (List (List (List Int)))) (c2 : Int) (v4 : (List (List Int))) : Nat → (List (List Int)) → Int → Option (((List (List Int))))
 | 0, _, _ => none
 | f + 1, c5, c6 =>
  if (decide (c6 < (v4.length : Int))) = true then
  (idx v4 c6).bind fun v8 =>
  if (capOk 8 v8.length) = true then
  if (capOk 8 (v8.length + 1)) = true then
  if (cutOk 0 (v8.length : Int) (v8 ++ [(-9)]).length) = true then
  if (capOk 24 (c5.length + 1)) = true then
  law09_Copy_2 x0 c1 c2 v4 f (c5 ++ [((v8 ++ [(-9)]).take ((v8.length : Int).toNat))]) (wr .i64 (c6 + 1))
  else none
  else none
  else none
  else none
  else
  some c5
def law09_Copy_1 (x0 : (List (List (List Int)))) : Nat → (List (List (List Int))) → Int → Option (((List (List (List Int)))))
 | 0, _, _ => none
 | f + 1, c1, c2 =>
  if (decide (c2 < (x0.length : Int))) = true then
  (idx x0 c2).bind fun v4 =>
  (law09_Copy_2 x0 c1 c2 v4 100000 [] 0).bind fun r17 =>
  if (capOk 24 (c1.length + 1)) = true then
  law09_Copy_1 x0 f (c1 ++ [r17]) (wr .i64 (c2 + 1))
  else none
  else
  some c1
def law09_Copy (x0 : (List (List (List Int)))) : Option ((List (List (List Int)))) :=
 (law09_Copy_1 x0 100000 [] 0).bind fun r20 =>
 some r20
def cs_law09_Copy : Cs ((List (List (List Int))) × Unit) := (csC (cdL 1 (cdL 1 (cdL 1 cdI))) csN)
def er_law09_Copy (r : (List (List (List Int)))) : AV := (cdL 1 (cdL 1 (cdL 1 cdI))).enc r
theorem law09_Copy_2_ok (x0 : (List (List (List Int)))) (c1 : (List (List (List Int)))) (c2 : Int) (v4 : (List (List Int))) : ∀ (f : Nat) (c5 : (List (List Int))) (c6 : Int) (r : ((List (List Int)))), law09_Copy_2 x0 c1 c2 v4 f c5 c6 = some r → SemN e_law09_Copy ⟨none, false⟩ (pc cb_law09_Copy [1, 1, 0, 1, 0, 0, 1, 1, 0, 0, 1, 1, 0, 1, 0, 0]) f ⟨Fr 38 [(3, hd 0 (c1.map (cdL 1 (cdL 1 cdI)).enc)), (6, hd 1 (c5.map (cdL 1 cdI).enc)), (9, .sl 1 (x0.map (cdL 1 (cdL 1 cdI)).enc)), (10, .v (.int .i64 (x0.length : Int))), (11, .v (.int .i64 c2)), (15, .sl 1 (v4.map (cdL 1 cdI).enc)), (16, .v (.int .i64 (v4.length : Int))), (17, .v (.int .i64 c6))], [mk 1 50 (c1.map (cdL 1 (cdL 1 cdI)).enc), mk 1 31 (c5.map (cdL 1 cdI).enc)]⟩ (fun e s => e = (.exit 2) ∧ Wk e_law09_Copy s ⟨Fr 38 [(3, hd 0 (c1.map (cdL 1 (cdL 1 cdI)).enc)), (6, hd 1 (r.map (cdL 1 cdI).enc)), (9, .sl 1 (x0.map (cdL 1 (cdL 1 cdI)).enc)), (10, .v (.int .i64 (x0.length : Int))), (11, .v (.int .i64 c2))], [mk 1 50 (c1.map (cdL 1 (cdL 1 cdI)).enc), mk 1 31 (r.map (cdL 1 cdI).enc)]⟩) := by
 have he := e_law09_Copy_ok
 intro f
 induction f with
 | zero => intro c5 c6 r h; cases h
 | succ f ih0 =>
  intro c5 c6 r h
  have ih := fun (c5 : (List (List Int))) (c6 : Int) => ih0 c5 c6 r
  unfold law09_Copy_2 at h
  refine SemN.succ ?_
  let p1 : Option Blk := mk 1 31 (c5.map (cdL 1 cdI).enc)
  let p2 : Option Blk := mk 1 50 (c1.map (cdL 1 (cdL 1 cdI)).enc)
  let p3 : Nat × AV := (17, .v (.int .i64 c6))
  let p4 : Nat × AV := (16, .v (.int .i64 (v4.length : Int)))
  let p5 : Nat × AV := (15, .sl 1 (v4.map (cdL 1 cdI).enc))
  let p6 : Nat × AV := (11, .v (.int .i64 c2))
  let p7 : Nat × AV := (10, .v (.int .i64 (x0.length : Int)))
  let p8 : Nat × AV := (9, .sl 1 (x0.map (cdL 1 (cdL 1 cdI)).enc))
  let p9 : Nat × AV := (6, hd 1 (c5.map (cdL 1 cdI).enc))
  let p10 : Nat × AV := (3, hd 0 (c1.map (cdL 1 (cdL 1 cdI)).enc))
  refine Sem.sq he [p10, p9, p8, p7, p6, p5, p4, p3, (18, .v (.bool (decide (c6 < (v4.length : Int)))))] [p2, p1] ?_
  refine Sem.seq ?_
  refine Sem.cond (b := (decide (c6 < (v4.length : Int)))) kr (fun hb7 => ?_) (fun hb7 => ?_)
  ·rw [if_pos hb7] at h
   refine Sem.skip ?_
   refine Sem.seq ?_
   refine Sem.block ?_
   refine Sem.seq ?_
   obtain ⟨v8, hv8, h⟩ := Option.bind_eq_some_iff.1 h
   let p11 : Nat × AV := (8, .sl 1 (v8.map cdI.enc))
   refine Sem.runS (s1 := ⟨Fr 38 [p10, p9, p11, p8, p7, p6, p5, p4, p3], [p2, p1]⟩) ?_ ?_
   ·refine RunS.one he 0 rfl (op_q (wantedA_none rfl) rfl (q_indexAddr (a := .sl 1 (v4.map (cdL 1 cdI).enc)) (b := .v (.int .i64 c6)) kr kr (ix_sl (e := (cdL 1 cdI).enc) (el := 31) (k := 1) (ki := .i64) kr kr hv8))) ?_
    exact RunS.last he
   by_cases hk9 : (capOk 8 v8.length) = true
   case neg => rw [if_neg hk9] at h; cases h
   rw [if_pos hk9] at h
   by_cases hk10 : (capOk 8 (v8.length + 1)) = true
   case neg => rw [if_neg hk10] at h; cases h
   rw [if_pos hk10] at h
   by_cases hk11 : (cutOk 0 (v8.length : Int) (v8 ++ [(-9)]).length) = true
   case neg => rw [if_neg hk11] at h; cases h
   rw [if_pos hk11] at h
   by_cases hk12 : (capOk 24 (c5.length + 1)) = true
   case neg => rw [if_neg hk12] at h; cases h
   rw [if_pos hk12] at h
   let p12 : Option Blk := mk 1 31 ((c5 ++ [((v8 ++ [(-9)]).take ((v8.length : Int).toNat))]).map (cdL 1 cdI).enc)
   let p13 : Nat × AV := (6, hd 1 ((c5 ++ [((v8 ++ [(-9)]).take ((v8.length : Int).toNat))]).map (cdL 1 cdI).enc))
   refine Sem.runS (s1 := ⟨Fr 38 [p10, p13, p8, p7, p6, p5, p4, p3], [p2, p12]⟩) ?_ ?_
   ·let p14 : Nat × AV := (21, hd 1 (c5.map (cdL 1 cdI).enc))
    refine RunS.segF (n := 38) he 2 [p10, p11, p8, p7, p6, p5, p4, p3, p14, (22, .sl 1 (v8.map cdI.enc))] [p2, p1] kr ?_
    refine RunS.callS rfl rfl (s_clone v8 hk9) rfl (wantedA_none rfl) kr (xs := [.sl 1 (v8.map cdI.enc)]) kr kr clone_flat ?_
    rintro x h' (⟨hx, rfl, rfl⟩ | ⟨rfl, rfl⟩)
    ·subst hx
     let p15 : Option Blk := mk 1 3 ([(-9)].map cdI.enc)
     refine RunS.segF (n := 38) he 1 [p10, (8, .sl 1 (([] : List Int).map cdI.enc)), p8, p7, p6, p5, p4, p3, p14, (23, .e0), (24, hd 2 ([(-9)].map cdI.enc))] [p2, p1, p15] kr ?_
     refine RunS.one he 0 rfl (op_w (wantedA_none rfl) rfl kr kr (w_append (a := .e0) (b := hd 2 ([(-9)].map cdI.enc)) kr kr (append_E (c := cdI) (vs := [(-9)]) (k := 1) (bytes := 8) (el := 3) kr kr (elems_hd (t := 3) kr) (List.cons_ne_nil _ _) kr))) ?_
     refine RunS.segF (n := 38) he 1 [p10, p8, p7, p6, p5, p4, p3, p14, (25, hd 3 ([(-9)].map cdI.enc)), (26, .sl 1 (([] : List Int).map cdI.enc))] [p2, p1, p15, p15] kr ?_
     refine RunS.one he 0 rfl (op_q (wantedA_none rfl) rfl (q_len (a := .sl 1 (([] : List Int).map cdI.enc)) kr (len_sl (el := 3) kr))) ?_
     refine RunS.segF (n := 38) he 2 [p10, p8, p7, p6, p5, p4, p3, p14, (29, .rf 4 0 1 1)] [p2, p1, p15, p15, some ⟨1, 31, [.rf 3 0 0 1], false⟩] kr ?_
     let p16 : Option Blk := mk 1 31 ([([(-9)].take 0)].map (cdL 1 cdI).enc)
     refine RunS.wk (s1 := ⟨Fr 38 [p10, p8, p7, p6, p5, p4, p3, p14, (29, hd 4 ([([(-9)].take 0)].map (cdL 1 cdI).enc))], [p2, p1, p15, none, p16]⟩) (Wk.frzG 3 (.inl kr) ⟨.inr (.inl rfl), .inr (.inl rfl), .inr (.inl rfl), .inl rfl, .inr (.inr ⟨_, _, _, _, rfl, rfl, ⟨fz_rfT (c := cdI) (xs := [(-9)]) (t := 3) kr (by decide), trivial⟩⟩), trivial⟩ ⟨⟨hd 0 (c1.map (cdL 1 (cdL 1 cdI)).enc), kr, .inl rfl⟩, ⟨.sl 1 (x0.map (cdL 1 (cdL 1 cdI)).enc), kr, .inl rfl⟩, ⟨.v (.int .i64 (x0.length : Int)), kr, .inl rfl⟩, ⟨.v (.int .i64 c2), kr, .inl rfl⟩, ⟨.sl 1 (v4.map (cdL 1 cdI).enc), kr, .inl rfl⟩, ⟨.v (.int .i64 (v4.length : Int)), kr, .inl rfl⟩, ⟨.v (.int .i64 c6), kr, .inl rfl⟩, ⟨hd 1 (c5.map (cdL 1 cdI).enc), kr, .inl rfl⟩, ⟨.rf 4 0 1 1, kr, .inl rfl⟩, trivial⟩) ?_
     have hk15 := hk12
     refine RunS.one he 0 rfl (op_w (wantedA_none rfl) rfl kr kr (w_append (a := hd 1 (c5.map (cdL 1 cdI).enc)) (b := hd 4 ([([(-9)].take 0)].map (cdL 1 cdI).enc)) kr kr (append_B (c := (cdL 1 cdI)) (xs := c5) (vs := [([(-9)].take 0)]) (k := 1) (bytes := 24) (el := 31) kr kr (elems_hd (t := 31) kr) (List.cons_ne_nil _ _) kr hk15))) ?_
     refine RunS.segF (n := 38) he 1 [p10, (6, hd 5 ((c5 ++ [([(-9)].take 0)]).map (cdL 1 cdI).enc)), p8, p7, p6, p5, p4, p3] [p2, none, p15, none, p16, mk 1 31 ((c5 ++ [([(-9)].take 0)]).map (cdL 1 cdI).enc)] kr ?_
     exact RunS.done rfl (Wk.s3 [0, 5] ⟨⟨_, rfl, bu_mk⟩, ⟨_, rfl, bu_mk⟩, trivial⟩ ⟨lu_hd (b' := 0) kr kr, lu_hd (b' := 5) kr kr, lv, lv, lv, lv, lv, lv, trivial⟩)
    ·let p17 : Option Blk := mk 1 3 ([(-9)].map cdI.enc)
     refine RunS.segF (n := 38) he 1 [p10, p11, p8, p7, p6, p5, p4, p3, p14, (23, .rf 2 0 v8.length v8.length), (24, hd 3 ([(-9)].map cdI.enc))] [p2, p1, some ⟨1, 3, (v8.map cdI.enc), false⟩, p17] kr ?_
     refine RunS.one he 0 rfl (op_w (wantedA_none rfl) rfl kr kr (w_append (a := .rf 2 0 v8.length v8.length) (b := hd 3 ([(-9)].map cdI.enc)) kr kr (append_R (c := cdI) (xs := v8) (vs := [(-9)]) (k := 1) (bytes := 8) (el := 3) kr kr (elems_hd (t := 3) kr) (List.cons_ne_nil _ _) kr hk10))) ?_
     refine RunS.segF (n := 38) he 1 [p10, p8, p7, p6, p5, p4, p3, p14, (25, .rf 4 0 (v8 ++ [(-9)]).length (v8 ++ [(-9)]).length), (26, .sl 1 (v8.map cdI.enc))] [p2, p1, none, p17, some ⟨1, 3, ((v8 ++ [(-9)]).map cdI.enc), false⟩] kr ?_
     refine RunS.one he 0 rfl (op_q (wantedA_none rfl) rfl (q_len (a := .sl 1 (v8.map cdI.enc)) kr (len_sl (el := 3) kr))) ?_
     refine RunS.one he 0 rfl (op_q (wantedA_none rfl) rfl (q_slice (a := .rf 4 0 (v8 ++ [(-9)]).length (v8 ++ [(-9)]).length) (l := none) (u := (some (.v (.int .i64 (v8.length : Int))))) (m := none) kr kr kr rfl (slice_rl (xs := (v8 ++ [(-9)])) (e := cdI.enc) (t' := 3) (k := 1) (el := 3) kr kr kr hk11 (by simp)))) ?_
     refine RunS.wk (s1 := ⟨Fr 38 [p10, p8, p7, p6, p5, p4, p3, p14, (25, .sl 1 ((v8 ++ [(-9)]).map cdI.enc)), (26, .sl 1 (v8.map cdI.enc)), (27, .v (.int .i64 (v8.length : Int))), (28, .sl 1 (((v8 ++ [(-9)]).take ((v8.length : Int).toNat)).map cdI.enc))], [p2, p1, none, p17, none]⟩) (Wk.frzG 4 (.inl kr) ⟨.inr (.inl rfl), .inr (.inl rfl), .inl rfl, .inr (.inl rfl), .inl rfl, trivial⟩ ⟨⟨hd 0 (c1.map (cdL 1 (cdL 1 cdI)).enc), kr, .inl rfl⟩, ⟨.sl 1 (x0.map (cdL 1 (cdL 1 cdI)).enc), kr, .inl rfl⟩, ⟨.v (.int .i64 (x0.length : Int)), kr, .inl rfl⟩, ⟨.v (.int .i64 c2), kr, .inl rfl⟩, ⟨.sl 1 (v4.map (cdL 1 cdI).enc), kr, .inl rfl⟩, ⟨.v (.int .i64 (v4.length : Int)), kr, .inl rfl⟩, ⟨.v (.int .i64 c6), kr, .inl rfl⟩, ⟨hd 1 (c5.map (cdL 1 cdI).enc), kr, .inl rfl⟩, ⟨.rf 4 0 (v8 ++ [(-9)]).length (v8 ++ [(-9)]).length, kr, fz_rlT (c := cdI) (xs := (v8 ++ [(-9)])) (t := 3) kr⟩, ⟨.sl 1 (v8.map cdI.enc), kr, .inl rfl⟩, ⟨.v (.int .i64 (v8.length : Int)), kr, .inl rfl⟩, ⟨.rf 4 0 ((v8.length : Int).toNat) ((v8 ++ [(-9)]).length), kr, fz_rfT (c := cdI) (xs := (v8 ++ [(-9)])) (t := 3) kr (cutOk_inv hk11).2.2.2⟩, trivial⟩) ?_
     let p18 : Option Blk := mk 1 31 ([((v8 ++ [(-9)]).take ((v8.length : Int).toNat))].map (cdL 1 cdI).enc)
     refine RunS.segF (n := 38) he 1 [p10, p8, p7, p6, p5, p4, p3, p14, (29, hd 5 ([((v8 ++ [(-9)]).take ((v8.length : Int).toNat))].map (cdL 1 cdI).enc))] [p2, p1, none, p17, none, p18] kr ?_
     refine RunS.one he 0 rfl (op_w (wantedA_none rfl) rfl kr kr (w_append (a := hd 1 (c5.map (cdL 1 cdI).enc)) (b := hd 5 ([((v8 ++ [(-9)]).take ((v8.length : Int).toNat))].map (cdL 1 cdI).enc)) kr kr (append_B (c := (cdL 1 cdI)) (xs := c5) (vs := [((v8 ++ [(-9)]).take ((v8.length : Int).toNat))]) (k := 1) (bytes := 24) (el := 31) kr kr (elems_hd (t := 31) kr) (List.cons_ne_nil _ _) kr hk12))) ?_
     refine RunS.segF (n := 38) he 1 [p10, (6, hd 6 ((c5 ++ [((v8 ++ [(-9)]).take ((v8.length : Int).toNat))]).map (cdL 1 cdI).enc)), p8, p7, p6, p5, p4, p3] [p2, none, none, p17, none, p18, p12] kr ?_
     exact RunS.done rfl (Wk.s3 [0, 6] ⟨⟨_, rfl, bu_mk⟩, ⟨_, rfl, bu_mk⟩, trivial⟩ ⟨lu_hd (b' := 0) kr kr, lu_hd (b' := 6) kr kr, lv, lv, lv, lv, lv, lv, trivial⟩)
   let p19 : Nat × AV := (17, .v (.int .i64 (wr .i64 (c6 + 1))))
   refine Sem.rg he [p10, p13, p8, p7, p6, p5, p4, p19] [p2, p12] ?_
   exact SemN.wk (s1 := ⟨Fr 38 [p10, p13, p8, p7, p6, p5, p4, p19], [p2, p12]⟩) (Wk.s3 [0, 1] ⟨⟨_, rfl, bu_mk⟩, ⟨_, rfl, bu_mk⟩, trivial⟩ ⟨lu_hd (b' := 0) kr kr, lu_hd (b' := 1) kr kr, lv, lv, lv, lv, lv, lv, trivial⟩) (ih (c5 ++ [((v8 ++ [(-9)]).take ((v8.length : Int).toNat))]) (wr .i64 (c6 + 1)) h)
  ·rw [if_f hb7] at h
   refine Sem.exit ?_
   have hq := Option.some.inj h; subst hq
   exact ⟨rfl, (Wk.s3 [0, 1] ⟨⟨_, rfl, bu_mk⟩, ⟨_, rfl, bu_mk⟩, trivial⟩ ⟨lu_hd (b' := 0) kr kr, lu_hd (b' := 1) kr kr, lv, lv, lv, trivial⟩)⟩
theorem law09_Copy_1_ok (x0 : (List (List (List Int)))) : ∀ (f : Nat) (c1 : (List (List (List Int)))) (c2 : Int) (r : ((List (List (List Int))))), law09_Copy_1 x0 f c1 c2 = some r → SemN e_law09_Copy ⟨none, false⟩ (pc cb_law09_Copy [1, 1, 0, 1, 0, 0]) f ⟨Fr 38 [(3, hd 0 (c1.map (cdL 1 (cdL 1 cdI)).enc)), (9, .sl 1 (x0.map (cdL 1 (cdL 1 cdI)).enc)), (10, .v (.int .i64 (x0.length : Int))), (11, .v (.int .i64 c2))], [mk 1 50 (c1.map (cdL 1 (cdL 1 cdI)).enc)]⟩ (fun e s => e = (.exit 0) ∧ Wk e_law09_Copy s ⟨Fr 38 [(3, hd 0 (r.map (cdL 1 (cdL 1 cdI)).enc))], [mk 1 50 (r.map (cdL 1 (cdL 1 cdI)).enc)]⟩) := by
 have he := e_law09_Copy_ok
 intro f
 induction f with
 | zero => intro c1 c2 r h; cases h
 | succ f ih0 =>
  intro c1 c2 r h
  have ih := fun (c1 : (List (List (List Int)))) (c2 : Int) => ih0 c1 c2 r
  unfold law09_Copy_1 at h
  refine SemN.succ ?_
  let p1 : Option Blk := mk 1 50 (c1.map (cdL 1 (cdL 1 cdI)).enc)
  let p2 : Nat × AV := (11, .v (.int .i64 c2))
  let p3 : Nat × AV := (10, .v (.int .i64 (x0.length : Int)))
  let p4 : Nat × AV := (9, .sl 1 (x0.map (cdL 1 (cdL 1 cdI)).enc))
  let p5 : Nat × AV := (3, hd 0 (c1.map (cdL 1 (cdL 1 cdI)).enc))
  refine Sem.sq he [p5, p4, p3, p2, (12, .v (.bool (decide (c2 < (x0.length : Int)))))] [p1] ?_
  refine Sem.seq ?_
  refine Sem.cond (b := (decide (c2 < (x0.length : Int)))) kr (fun hb3 => ?_) (fun hb3 => ?_)
  ·rw [if_pos hb3] at h
   refine Sem.skip ?_
   refine Sem.seq ?_
   refine Sem.block ?_
   refine Sem.seq ?_
   obtain ⟨v4, hv4, h⟩ := Option.bind_eq_some_iff.1 h
   let p6 : Nat × AV := (5, .sl 1 (v4.map (cdL 1 cdI).enc))
   refine Sem.runS (s1 := ⟨Fr 38 [p5, p6, p4, p3, p2], [p1]⟩) ?_ ?_
   ·refine RunS.one he 0 rfl (op_q (wantedA_none rfl) rfl (q_indexAddr (a := .sl 1 (x0.map (cdL 1 (cdL 1 cdI)).enc)) (b := .v (.int .i64 c2)) kr kr (ix_sl (e := (cdL 1 (cdL 1 cdI)).enc) (el := 50) (k := 1) (ki := .i64) kr kr hv4))) ?_
    exact RunS.last he
   refine Sem.sq he [p5, p6, (6, .e0), p4, p3, p2] [p1] ?_
   refine Sem.seq ?_
   refine Sem.seq ?_
   let p7 : Nat × AV := (17, .v (.int .i64 0))
   let p8 : Nat × AV := (16, .v (.int .i64 (v4.length : Int)))
   let p9 : Nat × AV := (15, .sl 1 (v4.map (cdL 1 cdI).enc))
   refine Sem.runS (s1 := ⟨Fr 38 [p5, (6, .e0), p4, p3, p2, p9, p8, p7], [p1]⟩) ?_ ?_
   ·refine RunS.segF (n := 38) he 1 [p5, (6, .e0), p4, p3, p2, p9] [p1] kr ?_
    refine RunS.one he 0 rfl (op_q (wantedA_none rfl) rfl (q_len (a := .sl 1 (v4.map (cdL 1 cdI).enc)) kr (len_sl (el := 31) kr))) ?_
    exact RunS.last he
   refine Sem.block ?_
   obtain ⟨r17, hr17, h⟩ := Option.bind_eq_some_iff.1 h
   refine Sem.loop (n := 100000) ?_
   refine Sem.cutN (SemN.wk (s1 := ⟨Fr 38 [p5, (6, hd 1 ([].map (cdL 1 cdI).enc)), p4, p3, p2, p9, p8, p7], [p1, mk 1 31 ([].map (cdL 1 cdI).enc)]⟩) (Wk.trans (s1 := ⟨Fr 38 [p5, (6, hd 1 ([].map (cdL 1 cdI).enc)), p4, p3, p2, p9, p8, p7], [p1, mk 1 31 ([].map (cdL 1 cdI).enc)]⟩) Wk.none (Wk.s3 [0, 1] ⟨⟨_, rfl, bu_mk⟩, ⟨_, rfl, bu_none⟩, trivial⟩ ⟨lu_hd (b' := 0) kr kr, lv, lv, lv, lv, lv, lv, lv, trivial⟩)) (law09_Copy_2_ok x0 c1 c2 v4 _ [] 0 _ hr17)) ?_
   by_cases hk18 : (capOk 24 (c1.length + 1)) = true
   case neg => rw [if_neg hk18] at h; cases h
   rw [if_pos hk18] at h
   let p10 : Option Blk := mk 1 50 ((c1 ++ [r17]).map (cdL 1 (cdL 1 cdI)).enc)
   let p11 : Nat × AV := (3, hd 0 ((c1 ++ [r17]).map (cdL 1 (cdL 1 cdI)).enc))
   refine Sem.runS (s1 := ⟨Fr 38 [p11, p4, p3, p2], [p10]⟩) ?_ ?_
   ·let p12 : Nat × AV := (32, hd 0 (c1.map (cdL 1 (cdL 1 cdI)).enc))
    refine RunS.segF (n := 38) he 2 [p4, p3, p2, p12, (33, hd 1 (r17.map (cdL 1 cdI).enc))] [p1, mk 1 31 (r17.map (cdL 1 cdI).enc)] kr ?_
    refine RunS.wk (s1 := ⟨Fr 38 [p4, p3, p2, p12, (33, .sl 1 (r17.map (cdL 1 cdI).enc))], [p1, none]⟩) (Wk.frzG 1 (.inl kr) ⟨.inr (.inl rfl), .inl rfl, trivial⟩ ⟨⟨.sl 1 (x0.map (cdL 1 (cdL 1 cdI)).enc), kr, .inl rfl⟩, ⟨.v (.int .i64 (x0.length : Int)), kr, .inl rfl⟩, ⟨.v (.int .i64 c2), kr, .inl rfl⟩, ⟨hd 0 (c1.map (cdL 1 (cdL 1 cdI)).enc), kr, .inl rfl⟩, ⟨hd 1 (r17.map (cdL 1 cdI).enc), kr, fz_hd (t := 31) kr enc_ok⟩, trivial⟩) ?_
    let p13 : Option Blk := mk 1 50 ([r17].map (cdL 1 (cdL 1 cdI)).enc)
    refine RunS.segF (n := 38) he 1 [p4, p3, p2, p12, (34, hd 2 ([r17].map (cdL 1 (cdL 1 cdI)).enc))] [p1, none, p13] kr ?_
    refine RunS.one he 0 rfl (op_w (wantedA_none rfl) rfl kr kr (w_append (a := hd 0 (c1.map (cdL 1 (cdL 1 cdI)).enc)) (b := hd 2 ([r17].map (cdL 1 (cdL 1 cdI)).enc)) kr kr (append_B (c := (cdL 1 (cdL 1 cdI))) (xs := c1) (vs := [r17]) (k := 1) (bytes := 24) (el := 50) kr kr (elems_hd (t := 50) kr) (List.cons_ne_nil _ _) kr hk18))) ?_
    refine RunS.segF (n := 38) he 1 [(3, hd 3 ((c1 ++ [r17]).map (cdL 1 (cdL 1 cdI)).enc)), p4, p3, p2] [none, none, p13, p10] kr ?_
    exact RunS.done rfl (Wk.s3 [3] ⟨⟨_, rfl, bu_mk⟩, trivial⟩ ⟨lu_hd (b' := 3) kr kr, lv, lv, lv, trivial⟩)
   let p14 : Nat × AV := (11, .v (.int .i64 (wr .i64 (c2 + 1))))
   refine Sem.rg he [p11, p4, p3, p14] [p10] ?_
   exact SemN.wk (s1 := ⟨Fr 38 [p11, p4, p3, p14], [p10]⟩) (Wk.s3 [0] ⟨⟨_, rfl, bu_mk⟩, trivial⟩ ⟨lu_hd (b' := 0) kr kr, lv, lv, lv, trivial⟩) (ih (c1 ++ [r17]) (wr .i64 (c2 + 1)) h)
  ·rw [if_f hb3] at h
   refine Sem.exit ?_
   have hq := Option.some.inj h; subst hq
   exact ⟨rfl, (Wk.s3 [0] ⟨⟨_, rfl, bu_mk⟩, trivial⟩ ⟨lu_hd (b' := 0) kr kr, trivial⟩)⟩
theorem law09_Copy_sem (x0 : (List (List (List Int)))) (r : (List (List (List Int)))) (h : law09_Copy x0 = some r) : Sem e_law09_Copy ⟨none, false⟩ cb_law09_Copy ⟨Fr 38 (pairs0 0 (cs_law09_Copy.enc (x0, ()))), []⟩ fun e s' => (e = .normal ∨ e = .ret) ∧ ∃ xs, resA e_law09_Copy.P s'.fr s'.hp Tryd.f14.results.toList = some xs ∧ retA xs = er_law09_Copy r := by
 have he := e_law09_Copy_ok
 unfold law09_Copy at h
 let p1 : Nat × AV := (0, .sl 1 (x0.map (cdL 1 (cdL 1 cdI)).enc))
 refine Sem.wkQ (Sem.wk (s1 := ⟨Fr 38 [p1], []⟩) Wk.f1 ?_)
 refine Sem.sq he [p1] [] ?_
 refine Sem.sq he [p1, (3, .e0)] [] ?_
 refine Sem.seq ?_
 refine Sem.seq ?_
 let p2 : Nat × AV := (11, .v (.int .i64 0))
 let p3 : Nat × AV := (10, .v (.int .i64 (x0.length : Int)))
 let p4 : Nat × AV := (9, .sl 1 (x0.map (cdL 1 (cdL 1 cdI)).enc))
 refine Sem.runS (s1 := ⟨Fr 38 [(3, .e0), p4, p3, p2], []⟩) ?_ ?_
 ·refine RunS.segF (n := 38) he 1 [(3, .e0), p4] [] kr ?_
  refine RunS.one he 0 rfl (op_q (wantedA_none rfl) rfl (q_len (a := .sl 1 (x0.map (cdL 1 (cdL 1 cdI)).enc)) kr (len_sl (el := 50) kr))) ?_
  exact RunS.last he
 refine Sem.block ?_
 obtain ⟨r20, hr20, h⟩ := Option.bind_eq_some_iff.1 h
 refine Sem.loop (n := 100000) ?_
 let p5 : Option Blk := mk 1 50 ([].map (cdL 1 (cdL 1 cdI)).enc)
 let p6 : Nat × AV := (3, hd 0 ([].map (cdL 1 (cdL 1 cdI)).enc))
 refine Sem.cutN (SemN.wk (s1 := ⟨Fr 38 [p6, p4, p3, p2], [p5]⟩) (Wk.trans (s1 := ⟨Fr 38 [p6, p4, p3, p2], [p5]⟩) Wk.none (Wk.s3 [0] ⟨⟨_, rfl, bu_none⟩, trivial⟩ ⟨lv, lv, lv, lv, trivial⟩)) (law09_Copy_1_ok x0 _ [] 0 _ hr20)) ?_
 refine Sem.sq he [(2, hd 0 (r20.map (cdL 1 (cdL 1 cdI)).enc))] [mk 1 50 (r20.map (cdL 1 (cdL 1 cdI)).enc)] ?_
 refine Sem.ret ?_
 have hq := Option.some.inj h; subst hq
 let p7 : Nat × AV := (2, .sl 1 (r20.map (cdL 1 (cdL 1 cdI)).enc))
 exact ⟨⟨Fr 38 [p7], []⟩, (Wk.trans (s1 := ⟨Fr 38 [p7], [none]⟩) (Wk.frzG 0 (.inl kr) ⟨.inl rfl, trivial⟩ ⟨⟨hd 0 (r20.map (cdL 1 (cdL 1 cdI)).enc), kr, fz_hd (t := 50) kr enc_ok⟩, trivial⟩) (Wk.s3 [] trivial ⟨lv, trivial⟩)), .inr rfl, [.sl 1 (r20.map (cdL 1 (cdL 1 cdI)).enc)], kr, kr⟩
def t_law09_Copy : List AV → Option AV := told cs_law09_Copy (fun a => law09_Copy a.1) er_law09_Copy
theorem x_law09_Copy : XOk 14 t_law09_Copy := by
 refine EnvOk.x (E := e_law09_Copy) (contract_ok e_law09_Copy_ok (fn := Tryd.f14) (c := cb_law09_Copy) ?h1 ?h2 ⟨Tryd.call14⟩ cs_law09_Copy (fun a => law09_Copy a.1) er_law09_Copy (fun a => (by show 1 ≤ 38; decide)) ?h3 ?h4) rfl rfl
 case h1 => kernel_rfl
 case h2 => kernel_rfl
 case h3 => intro b; kernel_rfl
 case h4 => exact fun a b h => law09_Copy_sem a.1 b h
/- trestle/trestleref09.Fit -/
noncomputable def e_ref09_Fit : Env := E0
theorem e_ref09_Fit_ok : EnvOk e_ref09_Fit := E0_ok
noncomputable def cb_ref09_Fit : Code := codeOf Tryd.f74
def ref09_Fit_1 (x0 : Int) (x1 : (List Int)) : Nat → Int → Int → Option ((Int) ⊕ (Bool))
 | 0, _, _ => none
 | f + 1, c1, c2 =>
  if (decide (c2 < (x1.length : Int))) = true then
  (idx x1 c2).bind fun v4 =>
  (if (decide (v4 < 1)) = true then some true else (idx x1 c2).bind fun v5 =>
  if (decide (v5 > 64)) = true then some true else some (decide (c1 > 64))).bind fun j7 =>
  if j7 = true then
  some (.inr false)
  else
  (idx x1 c2).bind fun v10 =>
  ref09_Fit_1 x0 x1 f (wr .i64 (c1 + v10)) (wr .i64 (c2 + 1))
  else
  some (.inl c1)
def ref09_Fit (x0 : Int) (x1 : (List Int)) : Option (Bool) :=
 (ref09_Fit_1 x0 x1 100000 0 0).bind fun r14 =>
 match r14 with
 | (.inl w15) =>
  (if (decide (x0 ≥ 1)) = true then if (decide (x0 ≤ 64)) = true then some (w15 == x0) else some false else some false).bind fun j17 =>
  some j17
 | (.inr w20) =>
  some w20
def cs_ref09_Fit : Cs (Int × (List Int) × Unit) := (csC cdI (csC (cdL 1 cdI) csN))
def er_ref09_Fit (r : Bool) : AV := cdB.enc r
theorem ref09_Fit_1_ok (x0 : Int) (x1 : (List Int)) : ∀ (f : Nat) (c1 : Int) (c2 : Int) (r : (Int) ⊕ (Bool)), ref09_Fit_1 x0 x1 f c1 c2 = some r → SemN e_ref09_Fit ⟨none, false⟩ (pc cb_ref09_Fit [1, 1, 0, 1, 0, 0]) f ⟨Fr 46 [(0, .v (.int .i64 x0)), (1, .sl 1 (x1.map cdI.enc)), (5, .v (.int .i64 c1)), (6, .v (.int .i64 c2))], []⟩ (fun e s => match r with
 | (.inl w) => e = (.exit 0) ∧ Wk e_ref09_Fit s ⟨Fr 46 [(0, .v (.int .i64 x0)), (5, .v (.int .i64 w))], []⟩
 | (.inr w) => e = .ret ∧ Wk e_ref09_Fit s ⟨Fr 46 [(4, .v (.bool w))], []⟩) := by
 have he := e_ref09_Fit_ok
 intro f
 induction f with
 | zero => intro c1 c2 r h; cases h
 | succ f ih0 =>
  intro c1 c2 r h
  have ih := fun (c1 : Int) (c2 : Int) => ih0 c1 c2 r
  unfold ref09_Fit_1 at h
  refine SemN.succ ?_
  refine Sem.seq ?_
  refine Sem.seq ?_
  refine Sem.runS (s1 := ⟨Fr 46 [(0, .v (.int .i64 x0)), (1, .sl 1 (x1.map cdI.enc)), (5, .v (.int .i64 c1)), (6, .v (.int .i64 c2)), (10, .v (.bool (decide (c2 < (x1.length : Int)))))], []⟩) ?_ ?_
  ·refine RunS.segF (n := 46) he 2 [(0, .v (.int .i64 x0)), (1, .sl 1 (x1.map cdI.enc)), (5, .v (.int .i64 c1)), (6, .v (.int .i64 c2)), (7, .v (.int .i64 c2)), (8, .sl 1 (x1.map cdI.enc))] [] kr ?_
   refine RunS.one he 0 rfl (op_q (wantedA_none rfl) rfl (q_len (a := .sl 1 (x1.map cdI.enc)) kr (len_sl (el := 3) kr))) ?_
   exact RunS.last he
  refine Sem.cond (b := (decide (c2 < (x1.length : Int)))) kr (fun hb3 => ?_) (fun hb3 => ?_)
  ·rw [if_pos hb3] at h
   refine Sem.skip ?_
   refine Sem.seq ?_
   refine Sem.block ?_
   refine Sem.seq ?_
   refine Sem.seq ?_
   obtain ⟨v4, hv4, h⟩ := Option.bind_eq_some_iff.1 h
   obtain ⟨j7, hj7, h⟩ := Option.bind_eq_some_iff.1 h
   refine Sem.runS (s1 := ⟨Fr 46 [(0, .v (.int .i64 x0)), (1, .sl 1 (x1.map cdI.enc)), (5, .v (.int .i64 c1)), (6, .v (.int .i64 c2)), (28, .v (.bool j7))], []⟩) ?_ ?_
   ·refine RunS.segF (n := 46) he 2 [(0, .v (.int .i64 x0)), (1, .sl 1 (x1.map cdI.enc)), (5, .v (.int .i64 c1)), (6, .v (.int .i64 c2)), (13, .sl 1 (x1.map cdI.enc)), (14, .v (.int .i64 c2))] [] kr ?_
    refine RunS.one he 0 rfl (op_q (wantedA_none rfl) rfl (q_indexAddr (a := .sl 1 (x1.map cdI.enc)) (b := .v (.int .i64 c2)) kr kr (ix_sl (e := cdI.enc) (el := 3) (k := 1) (ki := .i64) kr kr hv4))) ?_
    refine RunS.segF (n := 46) he 3 [(0, .v (.int .i64 x0)), (1, .sl 1 (x1.map cdI.enc)), (5, .v (.int .i64 c1)), (6, .v (.int .i64 c2)), (18, .v (.bool (decide (v4 < 1))))] [] kr ?_
    rcases Bool.eq_false_or_eq_true (decide (v4 < 1)) with hc11 | hc11
    ·rw [if_pos hc11] at hj7
     rw [hc11]
     refine RunS.segF (n := 46) he 10 [(0, .v (.int .i64 x0)), (1, .sl 1 (x1.map cdI.enc)), (5, .v (.int .i64 c1)), (6, .v (.int .i64 c2)), (19, .tp []), (20, .tp []), (21, .tp []), (22, .tp []), (23, .tp []), (26, .tp []), (27, .tp []), (28, .v (.bool true))] [] kr ?_
     have hq := Option.some.inj hj7; subst hq
     exact RunS.done rfl Wk.f1
    ·rw [if_f hc11] at hj7
     rw [hc11]
     refine RunS.segF (n := 46) he 2 [(0, .v (.int .i64 x0)), (1, .sl 1 (x1.map cdI.enc)), (5, .v (.int .i64 c1)), (6, .v (.int .i64 c2)), (18, .v (.bool false)), (19, .sl 1 (x1.map cdI.enc)), (20, .v (.int .i64 c2))] [] kr ?_
     obtain ⟨v5, hv5, hj7⟩ := Option.bind_eq_some_iff.1 hj7
     refine RunS.one he 0 rfl (op_q kr rfl (q_indexAddr (a := .sl 1 (x1.map cdI.enc)) (b := .v (.int .i64 c2)) kr kr (ix_sl (e := cdI.enc) (el := 3) (k := 1) (ki := .i64) kr kr hv5))) ?_
     refine RunS.segF (n := 46) he 4 [(0, .v (.int .i64 x0)), (1, .sl 1 (x1.map cdI.enc)), (5, .v (.int .i64 c1)), (6, .v (.int .i64 c2)), (19, .sl 1 (x1.map cdI.enc)), (20, .v (.int .i64 c2)), (21, .pe (.v (.int .i64 v5)) 0), (22, .v (.int .i64 v5)), (23, .v (.bool (decide (v5 > 64)))), (25, .v (.bool (decide (v5 > 64))))] [] kr ?_
     rcases Bool.eq_false_or_eq_true (decide (v5 > 64)) with hc12 | hc12
     ·rw [if_pos hc12] at hj7
      rw [hc12]
      refine RunS.segF (n := 46) he 3 [(0, .v (.int .i64 x0)), (1, .sl 1 (x1.map cdI.enc)), (5, .v (.int .i64 c1)), (6, .v (.int .i64 c2)), (19, .sl 1 (x1.map cdI.enc)), (20, .v (.int .i64 c2)), (21, .pe (.v (.int .i64 v5)) 0), (22, .v (.int .i64 v5)), (23, .v (.bool true)), (26, .tp []), (27, .tp []), (28, .v (.bool true))] [] kr ?_
      have hq := Option.some.inj hj7; subst hq
      exact RunS.done rfl Wk.f1
     ·rw [if_f hc12] at hj7
      rw [hc12]
      refine RunS.segF (n := 46) he 3 [(0, .v (.int .i64 x0)), (1, .sl 1 (x1.map cdI.enc)), (5, .v (.int .i64 c1)), (6, .v (.int .i64 c2)), (19, .sl 1 (x1.map cdI.enc)), (20, .v (.int .i64 c2)), (21, .pe (.v (.int .i64 v5)) 0), (22, .v (.int .i64 v5)), (23, .v (.bool false)), (26, .v (.int .i64 c1)), (27, .v (.bool (decide (c1 > 64)))), (28, .v (.bool (decide (c1 > 64))))] [] kr ?_
      have hq := Option.some.inj hj7; subst hq
      exact RunS.done rfl Wk.f1
   refine Sem.cond (b := j7) kr (fun hb8 => ?_) (fun hb8 => ?_)
   ·rw [if_pos hb8] at h
    refine Sem.sq he [(4, .v (.bool false))] [] ?_
    refine Sem.ret ?_
    have hq := Option.some.inj h; subst hq
    exact ⟨rfl, Wk.f1⟩
   ·rw [if_f hb8] at h
    refine Sem.skip ?_
    obtain ⟨v10, hv10, h⟩ := Option.bind_eq_some_iff.1 h
    refine Sem.runS (s1 := ⟨Fr 46 [(0, .v (.int .i64 x0)), (1, .sl 1 (x1.map cdI.enc)), (5, .v (.int .i64 (wr .i64 (c1 + v10)))), (6, .v (.int .i64 c2))], []⟩) ?_ ?_
    ·refine RunS.segF (n := 46) he 3 [(0, .v (.int .i64 x0)), (1, .sl 1 (x1.map cdI.enc)), (6, .v (.int .i64 c2)), (29, .v (.int .i64 c1)), (30, .sl 1 (x1.map cdI.enc)), (31, .v (.int .i64 c2))] [] kr ?_
     refine RunS.one he 0 rfl (op_q (wantedA_none rfl) rfl (q_indexAddr (a := .sl 1 (x1.map cdI.enc)) (b := .v (.int .i64 c2)) kr kr (ix_sl (e := cdI.enc) (el := 3) (k := 1) (ki := .i64) kr kr hv10))) ?_
     exact RunS.last he
    refine Sem.rg he [(0, .v (.int .i64 x0)), (1, .sl 1 (x1.map cdI.enc)), (5, .v (.int .i64 (wr .i64 (c1 + v10)))), (6, .v (.int .i64 (wr .i64 (c2 + 1))))] [] ?_
    exact SemN.wk (s1 := ⟨Fr 46 [(0, .v (.int .i64 x0)), (1, .sl 1 (x1.map cdI.enc)), (5, .v (.int .i64 (wr .i64 (c1 + v10)))), (6, .v (.int .i64 (wr .i64 (c2 + 1))))], []⟩) Wk.f1 (ih (wr .i64 (c1 + v10)) (wr .i64 (c2 + 1)) h)
  ·rw [if_f hb3] at h
   refine Sem.exit ?_
   have hq := Option.some.inj h; subst hq
   exact ⟨rfl, Wk.f1⟩
theorem ref09_Fit_sem (x0 : Int) (x1 : (List Int)) (r : Bool) (h : ref09_Fit x0 x1 = some r) : Sem e_ref09_Fit ⟨none, false⟩ cb_ref09_Fit ⟨Fr 46 (pairs0 0 (cs_ref09_Fit.enc (x0, x1, ()))), []⟩ fun e s' => (e = .normal ∨ e = .ret) ∧ ∃ xs, resA e_ref09_Fit.P s'.fr s'.hp Tryd.f74.results.toList = some xs ∧ retA xs = er_ref09_Fit r := by
 have he := e_ref09_Fit_ok
 unfold ref09_Fit at h
 refine Sem.wkQ (Sem.wk (s1 := ⟨Fr 46 [(0, .v (.int .i64 x0)), (1, .sl 1 (x1.map cdI.enc))], []⟩) Wk.f1 ?_)
 refine Sem.sq he [(0, .v (.int .i64 x0)), (1, .sl 1 (x1.map cdI.enc))] [] ?_
 refine Sem.sq he [(0, .v (.int .i64 x0)), (1, .sl 1 (x1.map cdI.enc)), (5, .v (.int .i64 0))] [] ?_
 refine Sem.seq ?_
 refine Sem.sq he [(0, .v (.int .i64 x0)), (1, .sl 1 (x1.map cdI.enc)), (5, .v (.int .i64 0)), (6, .v (.int .i64 0))] [] ?_
 refine Sem.block ?_
 obtain ⟨r14, hr14, h⟩ := Option.bind_eq_some_iff.1 h
 refine Sem.loop (n := 100000) ?_
 rcases r14 with w15 | w20
 ·try dsimp only at h
  refine Sem.cutN (SemN.wk (s1 := ⟨Fr 46 [(0, .v (.int .i64 x0)), (1, .sl 1 (x1.map cdI.enc)), (5, .v (.int .i64 0)), (6, .v (.int .i64 0))], []⟩) Wk.f1 (ref09_Fit_1_ok x0 x1 _ 0 0 _ hr14)) ?_
  refine Sem.seq ?_
  obtain ⟨j17, hj17, h⟩ := Option.bind_eq_some_iff.1 h
  refine Sem.runS (s1 := ⟨Fr 46 [(4, .v (.bool j17))], []⟩) ?_ ?_
  ·refine RunS.segF (n := 46) he 3 [(0, .v (.int .i64 x0)), (5, .v (.int .i64 w15)), (37, .v (.bool (decide (x0 ≥ 1))))] [] kr ?_
   rcases Bool.eq_false_or_eq_true (decide (x0 ≥ 1)) with hc18 | hc18
   ·rw [if_pos hc18] at hj17
    rw [hc18]
    refine RunS.segF (n := 46) he 4 [(0, .v (.int .i64 x0)), (5, .v (.int .i64 w15)), (41, .v (.bool (decide (x0 ≤ 64))))] [] kr ?_
    rcases Bool.eq_false_or_eq_true (decide (x0 ≤ 64)) with hc19 | hc19
    ·rw [if_pos hc19] at hj17
     rw [hc19]
     refine RunS.segF (n := 46) he 5 [(4, .v (.bool (w15 == x0)))] [] kr ?_
     have hq := Option.some.inj hj17; subst hq
     exact RunS.done rfl Wk.f1
    ·rw [if_f hc19] at hj17
     rw [hc19]
     refine RunS.segF (n := 46) he 5 [(4, .v (.bool false))] [] kr ?_
     have hq := Option.some.inj hj17; subst hq
     exact RunS.done rfl Wk.f1
   ·rw [if_f hc18] at hj17
    rw [hc18]
    refine RunS.segF (n := 46) he 9 [(4, .v (.bool false))] [] kr ?_
    have hq := Option.some.inj hj17; subst hq
    exact RunS.done rfl Wk.f1
  refine Sem.ret ?_
  have hq := Option.some.inj h; subst hq
  exact ⟨⟨Fr 46 [(4, .v (.bool j17))], []⟩, Wk.f1, .inr rfl, [.v (.bool j17)], kr, kr⟩
 ·try dsimp only at h
  refine Sem.cutN (SemN.wk (s1 := ⟨Fr 46 [(0, .v (.int .i64 x0)), (1, .sl 1 (x1.map cdI.enc)), (5, .v (.int .i64 0)), (6, .v (.int .i64 0))], []⟩) Wk.f1 (ref09_Fit_1_ok x0 x1 _ 0 0 _ hr14)) ?_
  have hq := Option.some.inj h; subst hq
  exact ⟨⟨Fr 46 [(4, .v (.bool w20))], []⟩, Wk.f1, .inr rfl, [.v (.bool w20)], kr, kr⟩
def t_ref09_Fit : List AV → Option AV := told cs_ref09_Fit (fun a => ref09_Fit a.1 a.2.1) er_ref09_Fit
theorem x_ref09_Fit : XOk 74 t_ref09_Fit := by
 refine EnvOk.x (E := e_ref09_Fit) (contract_ok e_ref09_Fit_ok (fn := Tryd.f74) (c := cb_ref09_Fit) ?h1 ?h2 ⟨Tryd.call74⟩ cs_ref09_Fit (fun a => ref09_Fit a.1 a.2.1) er_ref09_Fit (fun a => (by show 2 ≤ 46; decide)) ?h3 ?h4) rfl rfl
 case h1 => kernel_rfl
 case h2 => kernel_rfl
 case h3 => intro b; kernel_rfl
 case h4 => exact fun a b h => ref09_Fit_sem a.1 a.2.1 b h
/- trestle/trestleref09.times -/
noncomputable def e_ref09_times : Env := E0
theorem e_ref09_times_ok : EnvOk e_ref09_times := E0_ok
noncomputable def cb_ref09_times : Code := codeOf Tryd.f75
def ref09_times_j3 (x0 : (List (List Int))) (x1 : Int) (c2 : Int) (c4 : Int) (c5 : Int) (v9 : Int) : Option ((Int)) :=
 if (v9 == x1) = true then
 some (wr .i64 (c4 + 1))
 else
 some c4
def ref09_times_2 (x0 : (List (List Int))) (x1 : Int) (c2 : Int) : Nat → Int → Int → Option ((Int))
 | 0, _, _ => none
 | f + 1, c4, c5 =>
  (idx x0 c2).bind fun v6 =>
  if (decide (c5 < (v6.length : Int))) = true then
  (idx x0 c2).bind fun v8 =>
  (idx v8 c5).bind fun v9 =>
  (ref09_times_j3 x0 x1 c2 c4 c5 v9).bind fun r12 =>
  ref09_times_2 x0 x1 c2 f r12 (wr .i64 (c5 + 1))
  else
  some c4
def ref09_times_1 (x0 : (List (List Int))) (x1 : Int) : Nat → Int → Int → Option ((Int))
 | 0, _, _ => none
 | f + 1, c1, c2 =>
  if (decide (c2 < (x0.length : Int))) = true then
  (ref09_times_2 x0 x1 c2 100000 c1 0).bind fun r14 =>
  ref09_times_1 x0 x1 f r14 (wr .i64 (c2 + 1))
  else
  some c1
def ref09_times (x0 : (List (List Int))) (x1 : Int) : Option (Int) :=
 (ref09_times_1 x0 x1 100000 0 0).bind fun r16 =>
 some r16
def cs_ref09_times : Cs ((List (List Int)) × Int × Unit) := (csC (cdL 1 (cdL 1 cdI)) (csC cdI csN))
def er_ref09_times (r : Int) : AV := cdI.enc r
theorem ref09_times_j3_ok (x0 : (List (List Int))) (x1 : Int) (c2 : Int) (c4 : Int) (c5 : Int) (v9 : Int) (r : (Int)) (h : ref09_times_j3 x0 x1 c2 c4 c5 v9 = some r) : Sem e_ref09_times ⟨none, false⟩ (pc cb_ref09_times [1, 1, 0, 1, 0, 0, 1, 0, 0, 1, 0, 0, 1, 0, 0, 1]) ⟨Fr 35 [(0, .sl 1 (x0.map (cdL 1 cdI).enc)), (1, .v (.int .i64 x1)), (5, .v (.int .i64 c4)), (6, .v (.int .i64 c2)), (7, .v (.int .i64 c5)), (31, .v (.bool (v9 == x1)))], []⟩ (fun e s => e = .normal ∧ Wk e_ref09_times s ⟨Fr 35 [(0, .sl 1 (x0.map (cdL 1 cdI).enc)), (1, .v (.int .i64 x1)), (5, .v (.int .i64 r)), (6, .v (.int .i64 c2)), (7, .v (.int .i64 c5))], []⟩) := by
 unfold ref09_times_j3 at h
 refine Sem.cond (b := (v9 == x1)) kr (fun hb10 => ?_) (fun hb10 => ?_)
 ·rw [if_pos hb10] at h
  refine Sem.rg e_ref09_times_ok [(0, .sl 1 (x0.map (cdL 1 cdI).enc)), (1, .v (.int .i64 x1)), (5, .v (.int .i64 (wr .i64 (c4 + 1)))), (6, .v (.int .i64 c2)), (7, .v (.int .i64 c5))] [] ?_
  have hq := Option.some.inj h; subst hq
  exact ⟨rfl, Wk.f1⟩
 ·rw [if_f hb10] at h
  refine Sem.skip ?_
  have hq := Option.some.inj h; subst hq
  exact ⟨rfl, Wk.f1⟩
theorem ref09_times_2_ok (x0 : (List (List Int))) (x1 : Int) (c2 : Int) : ∀ (f : Nat) (c4 : Int) (c5 : Int) (r : (Int)), ref09_times_2 x0 x1 c2 f c4 c5 = some r → SemN e_ref09_times ⟨none, false⟩ (pc cb_ref09_times [1, 1, 0, 1, 0, 0, 1, 0, 0, 1, 0, 0]) f ⟨Fr 35 [(0, .sl 1 (x0.map (cdL 1 cdI).enc)), (1, .v (.int .i64 x1)), (5, .v (.int .i64 c4)), (6, .v (.int .i64 c2)), (7, .v (.int .i64 c5))], []⟩ (fun e s => e = (.exit 2) ∧ Wk e_ref09_times s ⟨Fr 35 [(0, .sl 1 (x0.map (cdL 1 cdI).enc)), (1, .v (.int .i64 x1)), (5, .v (.int .i64 r)), (6, .v (.int .i64 c2))], []⟩) := by
 have he := e_ref09_times_ok
 intro f
 induction f with
 | zero => intro c4 c5 r h; cases h
 | succ f ih0 =>
  intro c4 c5 r h
  have ih := fun (c4 : Int) (c5 : Int) => ih0 c4 c5 r
  unfold ref09_times_2 at h
  refine SemN.succ ?_
  refine Sem.seq ?_
  refine Sem.seq ?_
  obtain ⟨v6, hv6, h⟩ := Option.bind_eq_some_iff.1 h
  let p1 : Nat × AV := (7, .v (.int .i64 c5))
  let p2 : Nat × AV := (6, .v (.int .i64 c2))
  let p3 : Nat × AV := (5, .v (.int .i64 c4))
  let p4 : Nat × AV := (1, .v (.int .i64 x1))
  let p5 : Nat × AV := (0, .sl 1 (x0.map (cdL 1 cdI).enc))
  refine Sem.runS (s1 := ⟨Fr 35 [p5, p4, p3, p2, p1, (20, .v (.bool (decide (c5 < (v6.length : Int)))))], []⟩) ?_ ?_
  ·refine RunS.segF (n := 35) he 3 [p5, p4, p3, p2, p1, (14, .v (.int .i64 c5)), (15, .sl 1 (x0.map (cdL 1 cdI).enc)), (16, .v (.int .i64 c2))] [] kr ?_
   refine RunS.one he 0 rfl (op_q (wantedA_none rfl) rfl (q_indexAddr (a := .sl 1 (x0.map (cdL 1 cdI).enc)) (b := .v (.int .i64 c2)) kr kr (ix_sl (e := (cdL 1 cdI).enc) (el := 31) (k := 1) (ki := .i64) kr kr hv6))) ?_
   refine RunS.segF (n := 35) he 1 [p5, p4, p3, p2, p1, (14, .v (.int .i64 c5)), (18, .sl 1 (v6.map cdI.enc))] [] kr ?_
   refine RunS.one he 0 rfl (op_q (wantedA_none rfl) rfl (q_len (a := .sl 1 (v6.map cdI.enc)) kr (len_sl (el := 3) kr))) ?_
   exact RunS.last he
  refine Sem.cond (b := (decide (c5 < (v6.length : Int)))) kr (fun hb7 => ?_) (fun hb7 => ?_)
  ·rw [if_pos hb7] at h
   refine Sem.skip ?_
   refine Sem.seq ?_
   refine Sem.block ?_
   refine Sem.seq ?_
   obtain ⟨v8, hv8, h⟩ := Option.bind_eq_some_iff.1 h
   obtain ⟨v9, hv9, h⟩ := Option.bind_eq_some_iff.1 h
   refine Sem.runS (s1 := ⟨Fr 35 [p5, p4, p3, p2, p1, (31, .v (.bool (v9 == x1)))], []⟩) ?_ ?_
   ·refine RunS.segF (n := 35) he 2 [p5, p4, p3, p2, p1, (23, .sl 1 (x0.map (cdL 1 cdI).enc)), (24, .v (.int .i64 c2))] [] kr ?_
    refine RunS.one he 0 rfl (op_q (wantedA_none rfl) rfl (q_indexAddr (a := .sl 1 (x0.map (cdL 1 cdI).enc)) (b := .v (.int .i64 c2)) kr kr (ix_sl (e := (cdL 1 cdI).enc) (el := 31) (k := 1) (ki := .i64) kr kr hv8))) ?_
    refine RunS.segF (n := 35) he 2 [p5, p4, p3, p2, p1, (26, .sl 1 (v8.map cdI.enc)), (27, .v (.int .i64 c5))] [] kr ?_
    refine RunS.one he 0 rfl (op_q (wantedA_none rfl) rfl (q_indexAddr (a := .sl 1 (v8.map cdI.enc)) (b := .v (.int .i64 c5)) kr kr (ix_sl (e := cdI.enc) (el := 3) (k := 1) (ki := .i64) kr kr hv9))) ?_
    exact RunS.last he
   obtain ⟨r12, hr12, h⟩ := Option.bind_eq_some_iff.1 h
   refine Sem.cut (ref09_times_j3_ok x0 x1 c2 c4 c5 v9 _ hr12) ?_
   let p6 : Nat × AV := (7, .v (.int .i64 (wr .i64 (c5 + 1))))
   refine Sem.rg he [p5, p4, (5, .v (.int .i64 r12)), p2, p6] [] ?_
   exact SemN.wk (s1 := ⟨Fr 35 [p5, p4, (5, .v (.int .i64 r12)), p2, p6], []⟩) Wk.f1 (ih r12 (wr .i64 (c5 + 1)) h)
  ·rw [if_f hb7] at h
   refine Sem.exit ?_
   have hq := Option.some.inj h; subst hq
   exact ⟨rfl, Wk.f1⟩
theorem ref09_times_1_ok (x0 : (List (List Int))) (x1 : Int) : ∀ (f : Nat) (c1 : Int) (c2 : Int) (r : (Int)), ref09_times_1 x0 x1 f c1 c2 = some r → SemN e_ref09_times ⟨none, false⟩ (pc cb_ref09_times [1, 1, 0, 1, 0, 0]) f ⟨Fr 35 [(0, .sl 1 (x0.map (cdL 1 cdI).enc)), (1, .v (.int .i64 x1)), (5, .v (.int .i64 c1)), (6, .v (.int .i64 c2))], []⟩ (fun e s => e = (.exit 0) ∧ Wk e_ref09_times s ⟨Fr 35 [(5, .v (.int .i64 r))], []⟩) := by
 have he := e_ref09_times_ok
 intro f
 induction f with
 | zero => intro c1 c2 r h; cases h
 | succ f ih0 =>
  intro c1 c2 r h
  have ih := fun (c1 : Int) (c2 : Int) => ih0 c1 c2 r
  unfold ref09_times_1 at h
  refine SemN.succ ?_
  refine Sem.seq ?_
  refine Sem.seq ?_
  let p1 : Nat × AV := (6, .v (.int .i64 c2))
  let p2 : Nat × AV := (5, .v (.int .i64 c1))
  let p3 : Nat × AV := (1, .v (.int .i64 x1))
  let p4 : Nat × AV := (0, .sl 1 (x0.map (cdL 1 cdI).enc))
  refine Sem.runS (s1 := ⟨Fr 35 [p4, p3, p2, p1, (11, .v (.bool (decide (c2 < (x0.length : Int)))))], []⟩) ?_ ?_
  ·refine RunS.segF (n := 35) he 2 [p4, p3, p2, p1, (8, .v (.int .i64 c2)), (9, .sl 1 (x0.map (cdL 1 cdI).enc))] [] kr ?_
   refine RunS.one he 0 rfl (op_q (wantedA_none rfl) rfl (q_len (a := .sl 1 (x0.map (cdL 1 cdI).enc)) kr (len_sl (el := 31) kr))) ?_
   exact RunS.last he
  refine Sem.cond (b := (decide (c2 < (x0.length : Int)))) kr (fun hb3 => ?_) (fun hb3 => ?_)
  ·rw [if_pos hb3] at h
   refine Sem.skip ?_
   refine Sem.seq ?_
   refine Sem.block ?_
   refine Sem.sq he [p4, p3, p2, p1, (7, .v (.int .i64 0))] [] ?_
   refine Sem.block ?_
   obtain ⟨r14, hr14, h⟩ := Option.bind_eq_some_iff.1 h
   refine Sem.loop (n := 100000) ?_
   refine Sem.cutN (SemN.wk (s1 := ⟨Fr 35 [p4, p3, p2, p1, (7, .v (.int .i64 0))], []⟩) Wk.f1 (ref09_times_2_ok x0 x1 c2 _ c1 0 _ hr14)) ?_
   let p5 : Nat × AV := (6, .v (.int .i64 (wr .i64 (c2 + 1))))
   refine Sem.rg he [p4, p3, (5, .v (.int .i64 r14)), p5] [] ?_
   exact SemN.wk (s1 := ⟨Fr 35 [p4, p3, (5, .v (.int .i64 r14)), p5], []⟩) Wk.f1 (ih r14 (wr .i64 (c2 + 1)) h)
  ·rw [if_f hb3] at h
   refine Sem.exit ?_
   have hq := Option.some.inj h; subst hq
   exact ⟨rfl, Wk.f1⟩
theorem ref09_times_sem (x0 : (List (List Int))) (x1 : Int) (r : Int) (h : ref09_times x0 x1 = some r) : Sem e_ref09_times ⟨none, false⟩ cb_ref09_times ⟨Fr 35 (pairs0 0 (cs_ref09_times.enc (x0, x1, ()))), []⟩ fun e s' => (e = .normal ∨ e = .ret) ∧ ∃ xs, resA e_ref09_times.P s'.fr s'.hp Tryd.f75.results.toList = some xs ∧ retA xs = er_ref09_times r := by
 have he := e_ref09_times_ok
 unfold ref09_times at h
 let p1 : Nat × AV := (1, .v (.int .i64 x1))
 let p2 : Nat × AV := (0, .sl 1 (x0.map (cdL 1 cdI).enc))
 refine Sem.wkQ (Sem.wk (s1 := ⟨Fr 35 [p2, p1], []⟩) Wk.f1 ?_)
 refine Sem.sq he [p2, p1] [] ?_
 let p3 : Nat × AV := (5, .v (.int .i64 0))
 refine Sem.sq he [p2, p1, p3] [] ?_
 refine Sem.seq ?_
 refine Sem.sq he [p2, p1, p3, (6, .v (.int .i64 0))] [] ?_
 refine Sem.block ?_
 obtain ⟨r16, hr16, h⟩ := Option.bind_eq_some_iff.1 h
 refine Sem.loop (n := 100000) ?_
 refine Sem.cutN (SemN.wk (s1 := ⟨Fr 35 [p2, p1, p3, (6, .v (.int .i64 0))], []⟩) Wk.f1 (ref09_times_1_ok x0 x1 _ 0 0 _ hr16)) ?_
 refine Sem.sq he [(4, .v (.int .i64 r16))] [] ?_
 refine Sem.ret ?_
 have hq := Option.some.inj h; subst hq
 exact ⟨⟨Fr 35 [(4, .v (.int .i64 r16))], []⟩, Wk.f1, .inr rfl, [.v (.int .i64 r16)], kr, kr⟩
def t_ref09_times : List AV → Option AV := told cs_ref09_times (fun a => ref09_times a.1 a.2.1) er_ref09_times
theorem x_ref09_times : XOk 75 t_ref09_times := by
 refine EnvOk.x (E := e_ref09_times) (contract_ok e_ref09_times_ok (fn := Tryd.f75) (c := cb_ref09_times) ?h1 ?h2 ⟨Tryd.call75⟩ cs_ref09_times (fun a => ref09_times a.1 a.2.1) er_ref09_times (fun a => (by show 2 ≤ 35; decide)) ?h3 ?h4) rfl rfl
 case h1 => kernel_rfl
 case h2 => kernel_rfl
 case h3 => intro b; kernel_rfl
 case h4 => exact fun a b h => ref09_times_sem a.1 a.2.1 b h
/- trestle/trestleref09.CheckEvening -/
noncomputable def e_ref09_CheckEvening : Env := (E0.withX 75 t_ref09_times)
theorem e_ref09_CheckEvening_ok : EnvOk e_ref09_CheckEvening := (EnvOk.withX E0_ok x_ref09_times.1 x_ref09_times.2)
noncomputable def cb_ref09_CheckEvening : Code := codeOf Tryd.f98
def ref09_CheckEvening_1 (x0 : Int) (x1 : (List Int)) (x2 : (List (List Int))) : Nat → Int → Option ((Unit) ⊕ (Int))
 | 0, _ => none
 | f + 1, c4 =>
  if (decide (c4 < (x2.length : Int))) = true then
  (idx x2 c4).bind fun v6 =>
  (if ((v6.length : Int) == 0) = true then some true else if (decide ((x1.length : Int) > 0)) = true then (idx x1 c4).bind fun v7 =>
  (idx x2 c4).bind fun v8 =>
  some (v7 != (v8.length : Int)) else some false).bind fun j10 =>
  if j10 = true then
  some (.inr 2)
  else
  ref09_CheckEvening_1 x0 x1 x2 f (wr .i64 (c4 + 1))
  else
  some (.inl ())
def ref09_CheckEvening_3 (x0 : Int) (x2 : (List (List Int))) (c17 : Int) : Nat → Int → Option ((Unit) ⊕ (Int))
 | 0, _ => none
 | f + 1, c19 =>
  (idx x2 c17).bind fun v20 =>
  if (decide (c19 < (v20.length : Int))) = true then
  (idx x2 c17).bind fun v22 =>
  (idx v22 c19).bind fun v23 =>
  (if (decide (v23 < 0)) = true then some true else (idx x2 c17).bind fun v24 =>
  (idx v24 c19).bind fun v25 =>
  some (decide (v25 ≥ x0))).bind fun j27 =>
  if j27 = true then
  some (.inr 6)
  else
  ref09_CheckEvening_3 x0 x2 c17 f (wr .i64 (c19 + 1))
  else
  some (.inl ())
def ref09_CheckEvening_2 (x0 : Int) (x2 : (List (List Int))) : Nat → Int → Option ((Unit) ⊕ (Int))
 | 0, _ => none
 | f + 1, c17 =>
  if (decide (c17 < (x2.length : Int))) = true then
  (ref09_CheckEvening_3 x0 x2 c17 100000 0).bind fun r31 =>
  match r31 with
  | (.inl w32) =>
   ref09_CheckEvening_2 x0 x2 f (wr .i64 (c17 + 1))
  | (.inr w33) =>
   some (.inr w33)
  else
  some (.inl ())
def ref09_CheckEvening_4 (x0 : Int) (x2 : (List (List Int))) : Nat → Int → Option ((Unit) ⊕ (Int))
 | 0, _ => none
 | f + 1, c37 =>
  if (decide (c37 < x0)) = true then
  (ref09_times x2 c37).bind fun v39 =>
  if (decide (v39 > 1)) = true then
  some (.inr 5)
  else
  ref09_CheckEvening_4 x0 x2 f (wr .i64 (c37 + 1))
  else
  some (.inl ())
def ref09_CheckEvening_5 (x0 : Int) (x2 : (List (List Int))) : Nat → Int → Option ((Unit) ⊕ (Int))
 | 0, _ => none
 | f + 1, c44 =>
  if (decide (c44 < x0)) = true then
  (ref09_times x2 c44).bind fun v46 =>
  if (v46 == 0) = true then
  some (.inr 2)
  else
  ref09_CheckEvening_5 x0 x2 f (wr .i64 (c44 + 1))
  else
  some (.inl ())
def ref09_CheckEvening (x0 : Int) (x1 : (List Int)) (x2 : (List (List Int))) : Option (Int) :=
 (if (decide ((x1.length : Int) > 0)) = true then some ((x1.length : Int) != (x2.length : Int)) else some false).bind fun j2 =>
 if j2 = true then
 some 2
 else
 (ref09_CheckEvening_1 x0 x1 x2 100000 0).bind fun r15 =>
 match r15 with
 | (.inl w16) =>
  (ref09_CheckEvening_2 x0 x2 100000 0).bind fun r35 =>
  match r35 with
  | (.inl w36) =>
   (ref09_CheckEvening_4 x0 x2 100000 0).bind fun r42 =>
   match r42 with
   | (.inl w43) =>
    (ref09_CheckEvening_5 x0 x2 100000 0).bind fun r49 =>
    match r49 with
    | (.inl w50) =>
     some 0
    | (.inr w51) =>
     some w51
   | (.inr w52) =>
    some w52
  | (.inr w53) =>
   some w53
 | (.inr w54) =>
  some w54
def cs_ref09_CheckEvening : Cs (Int × (List Int) × (List (List Int)) × Unit) := (csC cdI (csC (cdL 1 cdI) (csC (cdL 1 (cdL 1 cdI)) csN)))
def er_ref09_CheckEvening (r : Int) : AV := cdI.enc r
theorem ref09_CheckEvening_1_ok (x0 : Int) (x1 : (List Int)) (x2 : (List (List Int))) : ∀ (f : Nat) (c4 : Int) (r : (Unit) ⊕ (Int)), ref09_CheckEvening_1 x0 x1 x2 f c4 = some r → SemN e_ref09_CheckEvening ⟨none, false⟩ (pc cb_ref09_CheckEvening [1, 1, 0, 1, 0, 0]) f ⟨Fr 103 [(0, .v (.int .i64 x0)), (1, .sl 1 (x1.map cdI.enc)), (2, .sl 1 (x2.map (cdL 1 cdI).enc)), (7, .v (.int .i64 c4))], []⟩ (fun e s => match r with
 | (.inl w) => e = (.exit 0) ∧ Wk e_ref09_CheckEvening s ⟨Fr 103 [(0, .v (.int .i64 x0)), (2, .sl 1 (x2.map (cdL 1 cdI).enc))], []⟩
 | (.inr w) => e = .ret ∧ Wk e_ref09_CheckEvening s ⟨Fr 103 [(6, .v (.int .i64 w))], []⟩) := by
 have he := e_ref09_CheckEvening_ok
 intro f
 induction f with
 | zero => intro c4 r h; cases h
 | succ f ih0 =>
  intro c4 r h
  have ih := fun (c4 : Int) => ih0 c4 r
  unfold ref09_CheckEvening_1 at h
  refine SemN.succ ?_
  refine Sem.seq ?_
  refine Sem.seq ?_
  refine Sem.runS (s1 := ⟨Fr 103 [(0, .v (.int .i64 x0)), (1, .sl 1 (x1.map cdI.enc)), (2, .sl 1 (x2.map (cdL 1 cdI).enc)), (7, .v (.int .i64 c4)), (25, .v (.bool (decide (c4 < (x2.length : Int)))))], []⟩) ?_ ?_
  ·refine RunS.segF (n := 103) he 2 [(0, .v (.int .i64 x0)), (1, .sl 1 (x1.map cdI.enc)), (2, .sl 1 (x2.map (cdL 1 cdI).enc)), (7, .v (.int .i64 c4)), (22, .v (.int .i64 c4)), (23, .sl 1 (x2.map (cdL 1 cdI).enc))] [] kr ?_
   refine RunS.one he 0 rfl (op_q (wantedA_none rfl) rfl (q_len (a := .sl 1 (x2.map (cdL 1 cdI).enc)) kr (len_sl (el := 31) kr))) ?_
   exact RunS.last he
  refine Sem.cond (b := (decide (c4 < (x2.length : Int)))) kr (fun hb5 => ?_) (fun hb5 => ?_)
  ·rw [if_pos hb5] at h
   refine Sem.skip ?_
   refine Sem.seq ?_
   refine Sem.block ?_
   refine Sem.seq ?_
   obtain ⟨v6, hv6, h⟩ := Option.bind_eq_some_iff.1 h
   obtain ⟨j10, hj10, h⟩ := Option.bind_eq_some_iff.1 h
   refine Sem.runDS he (s1 := ⟨Fr 103 [(0, .v (.int .i64 x0)), (1, .sl 1 (x1.map cdI.enc)), (2, .sl 1 (x2.map (cdL 1 cdI).enc)), (7, .v (.int .i64 c4)), (50, .v (.bool j10))], []⟩) kr ?_ ?_
   ·refine RunDS.segF (n := 103) he 2 [(0, .v (.int .i64 x0)), (1, .sl 1 (x1.map cdI.enc)), (2, .sl 1 (x2.map (cdL 1 cdI).enc)), (7, .v (.int .i64 c4)), (28, .sl 1 (x2.map (cdL 1 cdI).enc)), (29, .v (.int .i64 c4))] [] kr kr ?_
    refine RunDS.one he rfl kr (opd_q kr (wantedA_none rfl) rfl (q_indexAddr (a := .sl 1 (x2.map (cdL 1 cdI).enc)) (b := .v (.int .i64 c4)) kr kr (ix_sl (e := (cdL 1 cdI).enc) (el := 31) (k := 1) (ki := .i64) kr kr hv6)) kr) ?_
    refine RunDS.segF (n := 103) he 1 [(0, .v (.int .i64 x0)), (1, .sl 1 (x1.map cdI.enc)), (2, .sl 1 (x2.map (cdL 1 cdI).enc)), (7, .v (.int .i64 c4)), (31, .sl 1 (v6.map cdI.enc))] [] kr kr ?_
    refine RunDS.one he rfl kr (opd_q kr (wantedA_none rfl) rfl (q_len (a := .sl 1 (v6.map cdI.enc)) kr (len_sl (el := 3) kr)) kr) ?_
    refine RunDS.segF (n := 103) he 2 [(0, .v (.int .i64 x0)), (1, .sl 1 (x1.map cdI.enc)), (2, .sl 1 (x2.map (cdL 1 cdI).enc)), (7, .v (.int .i64 c4)), (34, .v (.bool ((v6.length : Int) == 0)))] [] kr kr ?_
    rcases Bool.eq_false_or_eq_true ((v6.length : Int) == 0) with hc13 | hc13
    ·rw [if_pos hc13] at hj10
     rw [hc13]
     refine RunDS.segF (n := 103) he 16 [(0, .v (.int .i64 x0)), (1, .sl 1 (x1.map cdI.enc)), (2, .sl 1 (x2.map (cdL 1 cdI).enc)), (7, .v (.int .i64 c4)), (35, .tp []), (36, .tp []), (37, .tp []), (38, .tp []), (39, .tp []), (40, .tp []), (41, .tp []), (42, .tp []), (43, .tp []), (44, .tp []), (45, .tp []), (46, .tp []), (47, .tp []), (48, .tp []), (49, .tp []), (50, .v (.bool true))] [] kr kr ?_
     have hq := Option.some.inj hj10; subst hq
     exact RunDS.done rfl Wk.f1
    ·rw [if_f hc13] at hj10
     rw [hc13]
     refine RunDS.segF (n := 103) he 1 [(0, .v (.int .i64 x0)), (1, .sl 1 (x1.map cdI.enc)), (2, .sl 1 (x2.map (cdL 1 cdI).enc)), (7, .v (.int .i64 c4)), (34, .v (.bool false)), (35, .sl 1 (x1.map cdI.enc))] [] kr kr ?_
     refine RunDS.one he rfl kr (opd_q kr kr rfl (q_len (a := .sl 1 (x1.map cdI.enc)) kr (len_sl (el := 3) kr)) kr) ?_
     refine RunDS.segF (n := 103) he 2 [(0, .v (.int .i64 x0)), (1, .sl 1 (x1.map cdI.enc)), (2, .sl 1 (x2.map (cdL 1 cdI).enc)), (7, .v (.int .i64 c4)), (34, .v (.bool false)), (35, .sl 1 (x1.map cdI.enc)), (36, .v (.int .i64 (x1.length : Int))), (37, .v (.bool (decide ((x1.length : Int) > 0)))), (38, .v (.bool (decide ((x1.length : Int) > 0))))] [] kr kr ?_
     rcases Bool.eq_false_or_eq_true (decide ((x1.length : Int) > 0)) with hc14 | hc14
     ·rw [if_pos hc14] at hj10
      rw [hc14]
      refine RunDS.segF (n := 103) he 2 [(0, .v (.int .i64 x0)), (1, .sl 1 (x1.map cdI.enc)), (2, .sl 1 (x2.map (cdL 1 cdI).enc)), (7, .v (.int .i64 c4)), (34, .v (.bool false)), (35, .sl 1 (x1.map cdI.enc)), (36, .v (.int .i64 (x1.length : Int))), (37, .v (.bool true)), (38, .v (.bool true)), (39, .sl 1 (x1.map cdI.enc)), (40, .v (.int .i64 c4))] [] kr kr ?_
      obtain ⟨v7, hv7, hj10⟩ := Option.bind_eq_some_iff.1 hj10
      refine RunDS.one he rfl kr (opd_q kr kr rfl (q_indexAddr (a := .sl 1 (x1.map cdI.enc)) (b := .v (.int .i64 c4)) kr kr (ix_sl (e := cdI.enc) (el := 3) (k := 1) (ki := .i64) kr kr hv7)) kr) ?_
      refine RunDS.segF (n := 103) he 3 [(0, .v (.int .i64 x0)), (1, .sl 1 (x1.map cdI.enc)), (2, .sl 1 (x2.map (cdL 1 cdI).enc)), (7, .v (.int .i64 c4)), (34, .v (.bool false)), (35, .sl 1 (x1.map cdI.enc)), (36, .v (.int .i64 (x1.length : Int))), (37, .v (.bool true)), (38, .v (.bool true)), (39, .sl 1 (x1.map cdI.enc)), (40, .v (.int .i64 c4)), (41, .pe (.v (.int .i64 v7)) 0), (42, .v (.int .i64 v7)), (43, .sl 1 (x2.map (cdL 1 cdI).enc)), (44, .v (.int .i64 c4))] [] kr kr ?_
      obtain ⟨v8, hv8, hj10⟩ := Option.bind_eq_some_iff.1 hj10
      refine RunDS.one he rfl kr (opd_q kr kr rfl (q_indexAddr (a := .sl 1 (x2.map (cdL 1 cdI).enc)) (b := .v (.int .i64 c4)) kr kr (ix_sl (e := (cdL 1 cdI).enc) (el := 31) (k := 1) (ki := .i64) kr kr hv8)) kr) ?_
      refine RunDS.segF (n := 103) he 1 [(0, .v (.int .i64 x0)), (1, .sl 1 (x1.map cdI.enc)), (2, .sl 1 (x2.map (cdL 1 cdI).enc)), (7, .v (.int .i64 c4)), (34, .v (.bool false)), (35, .sl 1 (x1.map cdI.enc)), (36, .v (.int .i64 (x1.length : Int))), (37, .v (.bool true)), (38, .v (.bool true)), (39, .sl 1 (x1.map cdI.enc)), (40, .v (.int .i64 c4)), (41, .pe (.v (.int .i64 v7)) 0), (42, .v (.int .i64 v7)), (43, .sl 1 (x2.map (cdL 1 cdI).enc)), (44, .v (.int .i64 c4)), (45, .pe (.sl 1 (v8.map cdI.enc)) 0), (46, .sl 1 (v8.map cdI.enc))] [] kr kr ?_
      refine RunDS.one he rfl kr (opd_q kr kr rfl (q_len (a := .sl 1 (v8.map cdI.enc)) kr (len_sl (el := 3) kr)) kr) ?_
      refine RunDS.segF (n := 103) he 3 [(0, .v (.int .i64 x0)), (1, .sl 1 (x1.map cdI.enc)), (2, .sl 1 (x2.map (cdL 1 cdI).enc)), (7, .v (.int .i64 c4)), (35, .sl 1 (x1.map cdI.enc)), (36, .v (.int .i64 (x1.length : Int))), (37, .v (.bool true)), (38, .v (.bool true)), (39, .sl 1 (x1.map cdI.enc)), (40, .v (.int .i64 c4)), (41, .pe (.v (.int .i64 v7)) 0), (42, .v (.int .i64 v7)), (43, .sl 1 (x2.map (cdL 1 cdI).enc)), (44, .v (.int .i64 c4)), (45, .pe (.sl 1 (v8.map cdI.enc)) 0), (46, .sl 1 (v8.map cdI.enc)), (47, .v (.int .i64 (v8.length : Int))), (48, .v (.bool (v7 != (v8.length : Int)))), (49, .v (.bool (v7 != (v8.length : Int)))), (50, .v (.bool (v7 != (v8.length : Int))))] [] kr kr ?_
      have hq := Option.some.inj hj10; subst hq
      exact RunDS.done rfl Wk.f1
     ·rw [if_f hc14] at hj10
      rw [hc14]
      refine RunDS.segF (n := 103) he 12 [(0, .v (.int .i64 x0)), (1, .sl 1 (x1.map cdI.enc)), (2, .sl 1 (x2.map (cdL 1 cdI).enc)), (7, .v (.int .i64 c4)), (35, .sl 1 (x1.map cdI.enc)), (36, .v (.int .i64 (x1.length : Int))), (37, .v (.bool false)), (38, .v (.bool false)), (39, .tp []), (40, .tp []), (41, .tp []), (42, .tp []), (43, .tp []), (44, .tp []), (45, .tp []), (46, .tp []), (47, .tp []), (48, .tp []), (49, .v (.bool false)), (50, .v (.bool false))] [] kr kr ?_
      have hq := Option.some.inj hj10; subst hq
      exact RunDS.done rfl Wk.f1
   refine Sem.cond (b := j10) kr (fun hb11 => ?_) (fun hb11 => ?_)
   ·rw [if_pos hb11] at h
    refine Sem.sq he [(6, .v (.int .i64 2))] [] ?_
    refine Sem.ret ?_
    have hq := Option.some.inj h; subst hq
    exact ⟨rfl, Wk.f1⟩
   ·rw [if_f hb11] at h
    refine Sem.skip ?_
    refine Sem.rg he [(0, .v (.int .i64 x0)), (1, .sl 1 (x1.map cdI.enc)), (2, .sl 1 (x2.map (cdL 1 cdI).enc)), (7, .v (.int .i64 (wr .i64 (c4 + 1))))] [] ?_
    exact SemN.wk (s1 := ⟨Fr 103 [(0, .v (.int .i64 x0)), (1, .sl 1 (x1.map cdI.enc)), (2, .sl 1 (x2.map (cdL 1 cdI).enc)), (7, .v (.int .i64 (wr .i64 (c4 + 1))))], []⟩) Wk.f1 (ih (wr .i64 (c4 + 1)) h)
  ·rw [if_f hb5] at h
   refine Sem.exit ?_
   have hq := Option.some.inj h; subst hq
   exact ⟨rfl, Wk.f1⟩
theorem ref09_CheckEvening_3_ok (x0 : Int) (x2 : (List (List Int))) (c17 : Int) : ∀ (f : Nat) (c19 : Int) (r : (Unit) ⊕ (Int)), ref09_CheckEvening_3 x0 x2 c17 f c19 = some r → SemN e_ref09_CheckEvening ⟨none, false⟩ (pc cb_ref09_CheckEvening [1, 1, 1, 0, 1, 0, 0, 1, 0, 0, 1, 0, 0]) f ⟨Fr 103 [(0, .v (.int .i64 x0)), (2, .sl 1 (x2.map (cdL 1 cdI).enc)), (8, .v (.int .i64 c17)), (9, .v (.int .i64 c19))], []⟩ (fun e s => match r with
 | (.inl w) => e = (.exit 4) ∧ Wk e_ref09_CheckEvening s ⟨Fr 103 [(0, .v (.int .i64 x0)), (2, .sl 1 (x2.map (cdL 1 cdI).enc)), (8, .v (.int .i64 c17))], []⟩
 | (.inr w) => e = .ret ∧ Wk e_ref09_CheckEvening s ⟨Fr 103 [(6, .v (.int .i64 w))], []⟩) := by
 have he := e_ref09_CheckEvening_ok
 intro f
 induction f with
 | zero => intro c19 r h; cases h
 | succ f ih0 =>
  intro c19 r h
  have ih := fun (c19 : Int) => ih0 c19 r
  unfold ref09_CheckEvening_3 at h
  refine SemN.succ ?_
  refine Sem.seq ?_
  refine Sem.seq ?_
  obtain ⟨v20, hv20, h⟩ := Option.bind_eq_some_iff.1 h
  refine Sem.runS (s1 := ⟨Fr 103 [(0, .v (.int .i64 x0)), (2, .sl 1 (x2.map (cdL 1 cdI).enc)), (8, .v (.int .i64 c17)), (9, .v (.int .i64 c19)), (63, .v (.bool (decide (c19 < (v20.length : Int)))))], []⟩) ?_ ?_
  ·refine RunS.segF (n := 103) he 3 [(0, .v (.int .i64 x0)), (2, .sl 1 (x2.map (cdL 1 cdI).enc)), (8, .v (.int .i64 c17)), (9, .v (.int .i64 c19)), (57, .v (.int .i64 c19)), (58, .sl 1 (x2.map (cdL 1 cdI).enc)), (59, .v (.int .i64 c17))] [] kr ?_
   refine RunS.one he 0 rfl (op_q (wantedA_none rfl) rfl (q_indexAddr (a := .sl 1 (x2.map (cdL 1 cdI).enc)) (b := .v (.int .i64 c17)) kr kr (ix_sl (e := (cdL 1 cdI).enc) (el := 31) (k := 1) (ki := .i64) kr kr hv20))) ?_
   refine RunS.segF (n := 103) he 1 [(0, .v (.int .i64 x0)), (2, .sl 1 (x2.map (cdL 1 cdI).enc)), (8, .v (.int .i64 c17)), (9, .v (.int .i64 c19)), (57, .v (.int .i64 c19)), (61, .sl 1 (v20.map cdI.enc))] [] kr ?_
   refine RunS.one he 0 rfl (op_q (wantedA_none rfl) rfl (q_len (a := .sl 1 (v20.map cdI.enc)) kr (len_sl (el := 3) kr))) ?_
   exact RunS.last he
  refine Sem.cond (b := (decide (c19 < (v20.length : Int)))) kr (fun hb21 => ?_) (fun hb21 => ?_)
  ·rw [if_pos hb21] at h
   refine Sem.skip ?_
   refine Sem.seq ?_
   refine Sem.block ?_
   refine Sem.seq ?_
   obtain ⟨v22, hv22, h⟩ := Option.bind_eq_some_iff.1 h
   obtain ⟨v23, hv23, h⟩ := Option.bind_eq_some_iff.1 h
   obtain ⟨j27, hj27, h⟩ := Option.bind_eq_some_iff.1 h
   refine Sem.runS (s1 := ⟨Fr 103 [(0, .v (.int .i64 x0)), (2, .sl 1 (x2.map (cdL 1 cdI).enc)), (8, .v (.int .i64 c17)), (9, .v (.int .i64 c19)), (84, .v (.bool j27))], []⟩) ?_ ?_
   ·refine RunS.segF (n := 103) he 2 [(0, .v (.int .i64 x0)), (2, .sl 1 (x2.map (cdL 1 cdI).enc)), (8, .v (.int .i64 c17)), (9, .v (.int .i64 c19)), (66, .sl 1 (x2.map (cdL 1 cdI).enc)), (67, .v (.int .i64 c17))] [] kr ?_
    refine RunS.one he 0 rfl (op_q (wantedA_none rfl) rfl (q_indexAddr (a := .sl 1 (x2.map (cdL 1 cdI).enc)) (b := .v (.int .i64 c17)) kr kr (ix_sl (e := (cdL 1 cdI).enc) (el := 31) (k := 1) (ki := .i64) kr kr hv22))) ?_
    refine RunS.segF (n := 103) he 2 [(0, .v (.int .i64 x0)), (2, .sl 1 (x2.map (cdL 1 cdI).enc)), (8, .v (.int .i64 c17)), (9, .v (.int .i64 c19)), (69, .sl 1 (v22.map cdI.enc)), (70, .v (.int .i64 c19))] [] kr ?_
    refine RunS.one he 0 rfl (op_q (wantedA_none rfl) rfl (q_indexAddr (a := .sl 1 (v22.map cdI.enc)) (b := .v (.int .i64 c19)) kr kr (ix_sl (e := cdI.enc) (el := 3) (k := 1) (ki := .i64) kr kr hv23))) ?_
    refine RunS.segF (n := 103) he 3 [(0, .v (.int .i64 x0)), (2, .sl 1 (x2.map (cdL 1 cdI).enc)), (8, .v (.int .i64 c17)), (9, .v (.int .i64 c19)), (74, .v (.bool (decide (v23 < 0))))] [] kr ?_
    rcases Bool.eq_false_or_eq_true (decide (v23 < 0)) with hc30 | hc30
    ·rw [if_pos hc30] at hj27
     rw [hc30]
     refine RunS.segF (n := 103) he 10 [(0, .v (.int .i64 x0)), (2, .sl 1 (x2.map (cdL 1 cdI).enc)), (8, .v (.int .i64 c17)), (9, .v (.int .i64 c19)), (75, .tp []), (76, .tp []), (77, .tp []), (78, .tp []), (79, .tp []), (80, .tp []), (81, .tp []), (82, .tp []), (83, .tp []), (84, .v (.bool true))] [] kr ?_
     have hq := Option.some.inj hj27; subst hq
     exact RunS.done rfl Wk.f1
    ·rw [if_f hc30] at hj27
     rw [hc30]
     refine RunS.segF (n := 103) he 2 [(0, .v (.int .i64 x0)), (2, .sl 1 (x2.map (cdL 1 cdI).enc)), (8, .v (.int .i64 c17)), (9, .v (.int .i64 c19)), (74, .v (.bool false)), (75, .sl 1 (x2.map (cdL 1 cdI).enc)), (76, .v (.int .i64 c17))] [] kr ?_
     obtain ⟨v24, hv24, hj27⟩ := Option.bind_eq_some_iff.1 hj27
     refine RunS.one he 0 rfl (op_q kr rfl (q_indexAddr (a := .sl 1 (x2.map (cdL 1 cdI).enc)) (b := .v (.int .i64 c17)) kr kr (ix_sl (e := (cdL 1 cdI).enc) (el := 31) (k := 1) (ki := .i64) kr kr hv24))) ?_
     refine RunS.segF (n := 103) he 2 [(0, .v (.int .i64 x0)), (2, .sl 1 (x2.map (cdL 1 cdI).enc)), (8, .v (.int .i64 c17)), (9, .v (.int .i64 c19)), (74, .v (.bool false)), (75, .sl 1 (x2.map (cdL 1 cdI).enc)), (76, .v (.int .i64 c17)), (77, .pe (.sl 1 (v24.map cdI.enc)) 0), (78, .sl 1 (v24.map cdI.enc)), (79, .v (.int .i64 c19))] [] kr ?_
     obtain ⟨v25, hv25, hj27⟩ := Option.bind_eq_some_iff.1 hj27
     refine RunS.one he 0 rfl (op_q kr rfl (q_indexAddr (a := .sl 1 (v24.map cdI.enc)) (b := .v (.int .i64 c19)) kr kr (ix_sl (e := cdI.enc) (el := 3) (k := 1) (ki := .i64) kr kr hv25))) ?_
     refine RunS.segF (n := 103) he 4 [(0, .v (.int .i64 x0)), (2, .sl 1 (x2.map (cdL 1 cdI).enc)), (8, .v (.int .i64 c17)), (9, .v (.int .i64 c19)), (75, .sl 1 (x2.map (cdL 1 cdI).enc)), (76, .v (.int .i64 c17)), (77, .pe (.sl 1 (v24.map cdI.enc)) 0), (78, .sl 1 (v24.map cdI.enc)), (79, .v (.int .i64 c19)), (80, .pe (.v (.int .i64 v25)) 0), (81, .v (.int .i64 v25)), (82, .v (.int .i64 x0)), (83, .v (.bool (decide (v25 ≥ x0)))), (84, .v (.bool (decide (v25 ≥ x0))))] [] kr ?_
     have hq := Option.some.inj hj27; subst hq
     exact RunS.done rfl Wk.f1
   refine Sem.cond (b := j27) kr (fun hb28 => ?_) (fun hb28 => ?_)
   ·rw [if_pos hb28] at h
    refine Sem.sq he [(6, .v (.int .i64 6))] [] ?_
    refine Sem.ret ?_
    have hq := Option.some.inj h; subst hq
    exact ⟨rfl, Wk.f1⟩
   ·rw [if_f hb28] at h
    refine Sem.skip ?_
    refine Sem.rg he [(0, .v (.int .i64 x0)), (2, .sl 1 (x2.map (cdL 1 cdI).enc)), (8, .v (.int .i64 c17)), (9, .v (.int .i64 (wr .i64 (c19 + 1))))] [] ?_
    exact SemN.wk (s1 := ⟨Fr 103 [(0, .v (.int .i64 x0)), (2, .sl 1 (x2.map (cdL 1 cdI).enc)), (8, .v (.int .i64 c17)), (9, .v (.int .i64 (wr .i64 (c19 + 1))))], []⟩) Wk.f1 (ih (wr .i64 (c19 + 1)) h)
  ·rw [if_f hb21] at h
   refine Sem.exit ?_
   have hq := Option.some.inj h; subst hq
   exact ⟨rfl, Wk.f1⟩
theorem ref09_CheckEvening_2_ok (x0 : Int) (x2 : (List (List Int))) : ∀ (f : Nat) (c17 : Int) (r : (Unit) ⊕ (Int)), ref09_CheckEvening_2 x0 x2 f c17 = some r → SemN e_ref09_CheckEvening ⟨none, false⟩ (pc cb_ref09_CheckEvening [1, 1, 1, 0, 1, 0, 0]) f ⟨Fr 103 [(0, .v (.int .i64 x0)), (2, .sl 1 (x2.map (cdL 1 cdI).enc)), (8, .v (.int .i64 c17))], []⟩ (fun e s => match r with
 | (.inl w) => e = (.exit 2) ∧ Wk e_ref09_CheckEvening s ⟨Fr 103 [(0, .v (.int .i64 x0)), (2, .sl 1 (x2.map (cdL 1 cdI).enc))], []⟩
 | (.inr w) => e = .ret ∧ Wk e_ref09_CheckEvening s ⟨Fr 103 [(6, .v (.int .i64 w))], []⟩) := by
 have he := e_ref09_CheckEvening_ok
 intro f
 induction f with
 | zero => intro c17 r h; cases h
 | succ f ih0 =>
  intro c17 r h
  have ih := fun (c17 : Int) => ih0 c17 r
  unfold ref09_CheckEvening_2 at h
  refine SemN.succ ?_
  refine Sem.seq ?_
  refine Sem.seq ?_
  let p1 : Nat × AV := (8, .v (.int .i64 c17))
  let p2 : Nat × AV := (2, .sl 1 (x2.map (cdL 1 cdI).enc))
  let p3 : Nat × AV := (0, .v (.int .i64 x0))
  refine Sem.runS (s1 := ⟨Fr 103 [p3, p2, p1, (54, .v (.bool (decide (c17 < (x2.length : Int)))))], []⟩) ?_ ?_
  ·refine RunS.segF (n := 103) he 2 [p3, p2, p1, (51, .v (.int .i64 c17)), (52, .sl 1 (x2.map (cdL 1 cdI).enc))] [] kr ?_
   refine RunS.one he 0 rfl (op_q (wantedA_none rfl) rfl (q_len (a := .sl 1 (x2.map (cdL 1 cdI).enc)) kr (len_sl (el := 31) kr))) ?_
   exact RunS.last he
  refine Sem.cond (b := (decide (c17 < (x2.length : Int)))) kr (fun hb18 => ?_) (fun hb18 => ?_)
  ·rw [if_pos hb18] at h
   refine Sem.skip ?_
   refine Sem.seq ?_
   refine Sem.block ?_
   let p4 : Nat × AV := (9, .v (.int .i64 0))
   refine Sem.sq he [p3, p2, p1, p4] [] ?_
   refine Sem.block ?_
   obtain ⟨r31, hr31, h⟩ := Option.bind_eq_some_iff.1 h
   refine Sem.loop (n := 100000) ?_
   rcases r31 with w32 | w33
   ·try dsimp only at h
    refine Sem.cutN (SemN.wk (s1 := ⟨Fr 103 [p3, p2, p1, p4], []⟩) Wk.f1 (ref09_CheckEvening_3_ok x0 x2 c17 _ 0 _ hr31)) ?_
    let p5 : Nat × AV := (8, .v (.int .i64 (wr .i64 (c17 + 1))))
    refine Sem.rg he [p3, p2, p5] [] ?_
    exact SemN.wk (s1 := ⟨Fr 103 [p3, p2, p5], []⟩) Wk.f1 (ih (wr .i64 (c17 + 1)) h)
   ·try dsimp only at h
    refine Sem.cutN (SemN.wk (s1 := ⟨Fr 103 [p3, p2, p1, p4], []⟩) Wk.f1 (ref09_CheckEvening_3_ok x0 x2 c17 _ 0 _ hr31)) ?_
    have hq := Option.some.inj h; subst hq
    exact ⟨rfl, Wk.f1⟩
  ·rw [if_f hb18] at h
   refine Sem.exit ?_
   have hq := Option.some.inj h; subst hq
   exact ⟨rfl, Wk.f1⟩
theorem ref09_CheckEvening_4_ok (x0 : Int) (x2 : (List (List Int))) : ∀ (f : Nat) (c37 : Int) (r : (Unit) ⊕ (Int)), ref09_CheckEvening_4 x0 x2 f c37 = some r → SemN e_ref09_CheckEvening ⟨none, false⟩ (pc cb_ref09_CheckEvening [1, 1, 1, 1, 0, 1, 0, 0]) f ⟨Fr 103 [(0, .v (.int .i64 x0)), (2, .sl 1 (x2.map (cdL 1 cdI).enc)), (10, .v (.int .i64 c37))], []⟩ (fun e s => match r with
 | (.inl w) => e = (.exit 6) ∧ Wk e_ref09_CheckEvening s ⟨Fr 103 [(0, .v (.int .i64 x0)), (2, .sl 1 (x2.map (cdL 1 cdI).enc))], []⟩
 | (.inr w) => e = .ret ∧ Wk e_ref09_CheckEvening s ⟨Fr 103 [(6, .v (.int .i64 w))], []⟩) := by
 have he := e_ref09_CheckEvening_ok
 intro f
 induction f with
 | zero => intro c37 r h; cases h
 | succ f ih0 =>
  intro c37 r h
  have ih := fun (c37 : Int) => ih0 c37 r
  unfold ref09_CheckEvening_4 at h
  refine SemN.succ ?_
  refine Sem.seq ?_
  let p1 : Nat × AV := (10, .v (.int .i64 c37))
  let p2 : Nat × AV := (2, .sl 1 (x2.map (cdL 1 cdI).enc))
  let p3 : Nat × AV := (0, .v (.int .i64 x0))
  refine Sem.sq he [p3, p2, p1, (87, .v (.bool (decide (c37 < x0))))] [] ?_
  refine Sem.cond (b := (decide (c37 < x0))) kr (fun hb38 => ?_) (fun hb38 => ?_)
  ·rw [if_pos hb38] at h
   refine Sem.skip ?_
   refine Sem.seq ?_
   refine Sem.block ?_
   refine Sem.seq ?_
   obtain ⟨v39, hv39, h⟩ := Option.bind_eq_some_iff.1 h
   refine Sem.runS (s1 := ⟨Fr 103 [p3, p2, p1, (93, .v (.bool (decide (v39 > 1))))], []⟩) ?_ ?_
   ·refine RunS.segF (n := 103) he 2 [p3, p2, p1, (90, .sl 1 (x2.map (cdL 1 cdI).enc)), (91, .v (.int .i64 c37))] [] kr ?_
    refine RunS.call he (fid := 75) (s := cs_ref09_times) (F := fun a => ref09_times a.1 a.2.1) (er := er_ref09_times) (xs := [.sl 1 (x2.map (cdL 1 cdI).enc), .v (.int .i64 c37)]) (a := (x2, c37, ())) rfl (wantedA_none rfl) kr kr kr kr (Sns.cons (Sn.enc (c := (cdL 1 (cdL 1 cdI))) (v := x2)) (Sns.cons (Sn.enc (c := cdI) (v := c37)) Sns.nil)) (.inl kr) hv39 ?_
    exact RunS.last he
   refine Sem.cond (b := (decide (v39 > 1))) kr (fun hb40 => ?_) (fun hb40 => ?_)
   ·rw [if_pos hb40] at h
    refine Sem.sq he [(6, .v (.int .i64 5))] [] ?_
    refine Sem.ret ?_
    have hq := Option.some.inj h; subst hq
    exact ⟨rfl, Wk.f1⟩
   ·rw [if_f hb40] at h
    refine Sem.skip ?_
    let p4 : Nat × AV := (10, .v (.int .i64 (wr .i64 (c37 + 1))))
    refine Sem.rg he [p3, p2, p4] [] ?_
    exact SemN.wk (s1 := ⟨Fr 103 [p3, p2, p4], []⟩) Wk.f1 (ih (wr .i64 (c37 + 1)) h)
  ·rw [if_f hb38] at h
   refine Sem.exit ?_
   have hq := Option.some.inj h; subst hq
   exact ⟨rfl, Wk.f1⟩
theorem ref09_CheckEvening_5_ok (x0 : Int) (x2 : (List (List Int))) : ∀ (f : Nat) (c44 : Int) (r : (Unit) ⊕ (Int)), ref09_CheckEvening_5 x0 x2 f c44 = some r → SemN e_ref09_CheckEvening ⟨none, false⟩ (pc cb_ref09_CheckEvening [1, 1, 1, 1, 1, 0, 1, 0, 0]) f ⟨Fr 103 [(0, .v (.int .i64 x0)), (2, .sl 1 (x2.map (cdL 1 cdI).enc)), (11, .v (.int .i64 c44))], []⟩ (fun e s => match r with
 | (.inl w) => e = (.exit 8) ∧ Wk e_ref09_CheckEvening s ⟨Fr 103 [], []⟩
 | (.inr w) => e = .ret ∧ Wk e_ref09_CheckEvening s ⟨Fr 103 [(6, .v (.int .i64 w))], []⟩) := by
 have he := e_ref09_CheckEvening_ok
 intro f
 induction f with
 | zero => intro c44 r h; cases h
 | succ f ih0 =>
  intro c44 r h
  have ih := fun (c44 : Int) => ih0 c44 r
  unfold ref09_CheckEvening_5 at h
  refine SemN.succ ?_
  refine Sem.seq ?_
  let p1 : Nat × AV := (11, .v (.int .i64 c44))
  let p2 : Nat × AV := (2, .sl 1 (x2.map (cdL 1 cdI).enc))
  let p3 : Nat × AV := (0, .v (.int .i64 x0))
  refine Sem.sq he [p3, p2, p1, (96, .v (.bool (decide (c44 < x0))))] [] ?_
  refine Sem.cond (b := (decide (c44 < x0))) kr (fun hb45 => ?_) (fun hb45 => ?_)
  ·rw [if_pos hb45] at h
   refine Sem.skip ?_
   refine Sem.seq ?_
   refine Sem.block ?_
   refine Sem.seq ?_
   obtain ⟨v46, hv46, h⟩ := Option.bind_eq_some_iff.1 h
   refine Sem.runS (s1 := ⟨Fr 103 [p3, p2, p1, (102, .v (.bool (v46 == 0)))], []⟩) ?_ ?_
   ·refine RunS.segF (n := 103) he 2 [p3, p2, p1, (99, .sl 1 (x2.map (cdL 1 cdI).enc)), (100, .v (.int .i64 c44))] [] kr ?_
    refine RunS.call he (fid := 75) (s := cs_ref09_times) (F := fun a => ref09_times a.1 a.2.1) (er := er_ref09_times) (xs := [.sl 1 (x2.map (cdL 1 cdI).enc), .v (.int .i64 c44)]) (a := (x2, c44, ())) rfl (wantedA_none rfl) kr kr kr kr (Sns.cons (Sn.enc (c := (cdL 1 (cdL 1 cdI))) (v := x2)) (Sns.cons (Sn.enc (c := cdI) (v := c44)) Sns.nil)) (.inl kr) hv46 ?_
    exact RunS.last he
   refine Sem.cond (b := (v46 == 0)) kr (fun hb47 => ?_) (fun hb47 => ?_)
   ·rw [if_pos hb47] at h
    refine Sem.sq he [(6, .v (.int .i64 2))] [] ?_
    refine Sem.ret ?_
    have hq := Option.some.inj h; subst hq
    exact ⟨rfl, Wk.f1⟩
   ·rw [if_f hb47] at h
    refine Sem.skip ?_
    let p4 : Nat × AV := (11, .v (.int .i64 (wr .i64 (c44 + 1))))
    refine Sem.rg he [p3, p2, p4] [] ?_
    exact SemN.wk (s1 := ⟨Fr 103 [p3, p2, p4], []⟩) Wk.f1 (ih (wr .i64 (c44 + 1)) h)
  ·rw [if_f hb45] at h
   refine Sem.exit ?_
   have hq := Option.some.inj h; subst hq
   exact ⟨rfl, Wk.f1⟩
theorem ref09_CheckEvening_sem (x0 : Int) (x1 : (List Int)) (x2 : (List (List Int))) (r : Int) (h : ref09_CheckEvening x0 x1 x2 = some r) : Sem e_ref09_CheckEvening ⟨none, false⟩ cb_ref09_CheckEvening ⟨Fr 103 (pairs0 0 (cs_ref09_CheckEvening.enc (x0, x1, x2, ()))), []⟩ fun e s' => (e = .normal ∨ e = .ret) ∧ ∃ xs, resA e_ref09_CheckEvening.P s'.fr s'.hp Tryd.f98.results.toList = some xs ∧ retA xs = er_ref09_CheckEvening r := by
 have he := e_ref09_CheckEvening_ok
 unfold ref09_CheckEvening at h
 refine Sem.wkQ (Sem.wk (s1 := ⟨Fr 103 [(0, .v (.int .i64 x0)), (1, .sl 1 (x1.map cdI.enc)), (2, .sl 1 (x2.map (cdL 1 cdI).enc))], []⟩) Wk.f1 ?_)
 refine Sem.sq he [(0, .v (.int .i64 x0)), (1, .sl 1 (x1.map cdI.enc)), (2, .sl 1 (x2.map (cdL 1 cdI).enc))] [] ?_
 refine Sem.seq ?_
 refine Sem.seq ?_
 obtain ⟨j2, hj2, h⟩ := Option.bind_eq_some_iff.1 h
 refine Sem.runS (s1 := ⟨Fr 103 [(0, .v (.int .i64 x0)), (1, .sl 1 (x1.map cdI.enc)), (2, .sl 1 (x2.map (cdL 1 cdI).enc)), (21, .v (.bool j2))], []⟩) ?_ ?_
 ·refine RunS.segF (n := 103) he 1 [(0, .v (.int .i64 x0)), (1, .sl 1 (x1.map cdI.enc)), (2, .sl 1 (x2.map (cdL 1 cdI).enc)), (12, .sl 1 (x1.map cdI.enc))] [] kr ?_
  refine RunS.one he 0 rfl (op_q (wantedA_none rfl) rfl (q_len (a := .sl 1 (x1.map cdI.enc)) kr (len_sl (el := 3) kr))) ?_
  refine RunS.segF (n := 103) he 2 [(0, .v (.int .i64 x0)), (1, .sl 1 (x1.map cdI.enc)), (2, .sl 1 (x2.map (cdL 1 cdI).enc)), (15, .v (.bool (decide ((x1.length : Int) > 0))))] [] kr ?_
  rcases Bool.eq_false_or_eq_true (decide ((x1.length : Int) > 0)) with hc55 | hc55
  ·rw [if_pos hc55] at hj2
   rw [hc55]
   refine RunS.segF (n := 103) he 1 [(0, .v (.int .i64 x0)), (1, .sl 1 (x1.map cdI.enc)), (2, .sl 1 (x2.map (cdL 1 cdI).enc)), (15, .v (.bool true)), (16, .sl 1 (x1.map cdI.enc))] [] kr ?_
   refine RunS.one he 0 rfl (op_q kr rfl (q_len (a := .sl 1 (x1.map cdI.enc)) kr (len_sl (el := 3) kr))) ?_
   refine RunS.segF (n := 103) he 1 [(0, .v (.int .i64 x0)), (1, .sl 1 (x1.map cdI.enc)), (2, .sl 1 (x2.map (cdL 1 cdI).enc)), (15, .v (.bool true)), (17, .v (.int .i64 (x1.length : Int))), (18, .sl 1 (x2.map (cdL 1 cdI).enc))] [] kr ?_
   refine RunS.one he 0 rfl (op_q kr rfl (q_len (a := .sl 1 (x2.map (cdL 1 cdI).enc)) kr (len_sl (el := 31) kr))) ?_
   refine RunS.segF (n := 103) he 2 [(0, .v (.int .i64 x0)), (1, .sl 1 (x1.map cdI.enc)), (2, .sl 1 (x2.map (cdL 1 cdI).enc)), (21, .v (.bool ((x1.length : Int) != (x2.length : Int))))] [] kr ?_
   have hq := Option.some.inj hj2; subst hq
   exact RunS.done rfl Wk.f1
  ·rw [if_f hc55] at hj2
   rw [hc55]
   refine RunS.segF (n := 103) he 6 [(0, .v (.int .i64 x0)), (1, .sl 1 (x1.map cdI.enc)), (2, .sl 1 (x2.map (cdL 1 cdI).enc)), (21, .v (.bool false))] [] kr ?_
   have hq := Option.some.inj hj2; subst hq
   exact RunS.done rfl Wk.f1
 refine Sem.cond (b := j2) kr (fun hb3 => ?_) (fun hb3 => ?_)
 ·rw [if_pos hb3] at h
  refine Sem.sq he [(6, .v (.int .i64 2))] [] ?_
  refine Sem.ret ?_
  have hq := Option.some.inj h; subst hq
  exact ⟨⟨Fr 103 [(6, .v (.int .i64 2))], []⟩, Wk.f1, .inr rfl, [.v (.int .i64 2)], kr, kr⟩
 ·rw [if_f hb3] at h
  refine Sem.skip ?_
  refine Sem.seq ?_
  refine Sem.sq he [(0, .v (.int .i64 x0)), (1, .sl 1 (x1.map cdI.enc)), (2, .sl 1 (x2.map (cdL 1 cdI).enc)), (7, .v (.int .i64 0))] [] ?_
  refine Sem.block ?_
  obtain ⟨r15, hr15, h⟩ := Option.bind_eq_some_iff.1 h
  refine Sem.loop (n := 100000) ?_
  rcases r15 with w16 | w54
  ·try dsimp only at h
   refine Sem.cutN (SemN.wk (s1 := ⟨Fr 103 [(0, .v (.int .i64 x0)), (1, .sl 1 (x1.map cdI.enc)), (2, .sl 1 (x2.map (cdL 1 cdI).enc)), (7, .v (.int .i64 0))], []⟩) Wk.f1 (ref09_CheckEvening_1_ok x0 x1 x2 _ 0 _ hr15)) ?_
   refine Sem.seq ?_
   refine Sem.sq he [(0, .v (.int .i64 x0)), (2, .sl 1 (x2.map (cdL 1 cdI).enc)), (8, .v (.int .i64 0))] [] ?_
   refine Sem.block ?_
   obtain ⟨r35, hr35, h⟩ := Option.bind_eq_some_iff.1 h
   refine Sem.loop (n := 100000) ?_
   rcases r35 with w36 | w53
   ·try dsimp only at h
    refine Sem.cutN (SemN.wk (s1 := ⟨Fr 103 [(0, .v (.int .i64 x0)), (2, .sl 1 (x2.map (cdL 1 cdI).enc)), (8, .v (.int .i64 0))], []⟩) Wk.f1 (ref09_CheckEvening_2_ok x0 x2 _ 0 _ hr35)) ?_
    refine Sem.seq ?_
    refine Sem.sq he [(0, .v (.int .i64 x0)), (2, .sl 1 (x2.map (cdL 1 cdI).enc)), (10, .v (.int .i64 0))] [] ?_
    refine Sem.block ?_
    obtain ⟨r42, hr42, h⟩ := Option.bind_eq_some_iff.1 h
    refine Sem.loop (n := 100000) ?_
    rcases r42 with w43 | w52
    ·try dsimp only at h
     refine Sem.cutN (SemN.wk (s1 := ⟨Fr 103 [(0, .v (.int .i64 x0)), (2, .sl 1 (x2.map (cdL 1 cdI).enc)), (10, .v (.int .i64 0))], []⟩) Wk.f1 (ref09_CheckEvening_4_ok x0 x2 _ 0 _ hr42)) ?_
     refine Sem.seq ?_
     refine Sem.sq he [(0, .v (.int .i64 x0)), (2, .sl 1 (x2.map (cdL 1 cdI).enc)), (11, .v (.int .i64 0))] [] ?_
     refine Sem.block ?_
     obtain ⟨r49, hr49, h⟩ := Option.bind_eq_some_iff.1 h
     refine Sem.loop (n := 100000) ?_
     rcases r49 with w50 | w51
     ·try dsimp only at h
      refine Sem.cutN (SemN.wk (s1 := ⟨Fr 103 [(0, .v (.int .i64 x0)), (2, .sl 1 (x2.map (cdL 1 cdI).enc)), (11, .v (.int .i64 0))], []⟩) Wk.f1 (ref09_CheckEvening_5_ok x0 x2 _ 0 _ hr49)) ?_
      refine Sem.sq he [(6, .v (.int .i64 0))] [] ?_
      refine Sem.ret ?_
      have hq := Option.some.inj h; subst hq
      exact ⟨⟨Fr 103 [(6, .v (.int .i64 0))], []⟩, Wk.f1, .inr rfl, [.v (.int .i64 0)], kr, kr⟩
     ·try dsimp only at h
      refine Sem.cutN (SemN.wk (s1 := ⟨Fr 103 [(0, .v (.int .i64 x0)), (2, .sl 1 (x2.map (cdL 1 cdI).enc)), (11, .v (.int .i64 0))], []⟩) Wk.f1 (ref09_CheckEvening_5_ok x0 x2 _ 0 _ hr49)) ?_
      have hq := Option.some.inj h; subst hq
      exact ⟨⟨Fr 103 [(6, .v (.int .i64 w51))], []⟩, Wk.f1, .inr rfl, [.v (.int .i64 w51)], kr, kr⟩
    ·try dsimp only at h
     refine Sem.cutN (SemN.wk (s1 := ⟨Fr 103 [(0, .v (.int .i64 x0)), (2, .sl 1 (x2.map (cdL 1 cdI).enc)), (10, .v (.int .i64 0))], []⟩) Wk.f1 (ref09_CheckEvening_4_ok x0 x2 _ 0 _ hr42)) ?_
     have hq := Option.some.inj h; subst hq
     exact ⟨⟨Fr 103 [(6, .v (.int .i64 w52))], []⟩, Wk.f1, .inr rfl, [.v (.int .i64 w52)], kr, kr⟩
   ·try dsimp only at h
    refine Sem.cutN (SemN.wk (s1 := ⟨Fr 103 [(0, .v (.int .i64 x0)), (2, .sl 1 (x2.map (cdL 1 cdI).enc)), (8, .v (.int .i64 0))], []⟩) Wk.f1 (ref09_CheckEvening_2_ok x0 x2 _ 0 _ hr35)) ?_
    have hq := Option.some.inj h; subst hq
    exact ⟨⟨Fr 103 [(6, .v (.int .i64 w53))], []⟩, Wk.f1, .inr rfl, [.v (.int .i64 w53)], kr, kr⟩
  ·try dsimp only at h
   refine Sem.cutN (SemN.wk (s1 := ⟨Fr 103 [(0, .v (.int .i64 x0)), (1, .sl 1 (x1.map cdI.enc)), (2, .sl 1 (x2.map (cdL 1 cdI).enc)), (7, .v (.int .i64 0))], []⟩) Wk.f1 (ref09_CheckEvening_1_ok x0 x1 x2 _ 0 _ hr15)) ?_
   have hq := Option.some.inj h; subst hq
   exact ⟨⟨Fr 103 [(6, .v (.int .i64 w54))], []⟩, Wk.f1, .inr rfl, [.v (.int .i64 w54)], kr, kr⟩
def t_ref09_CheckEvening : List AV → Option AV := told cs_ref09_CheckEvening (fun a => ref09_CheckEvening a.1 a.2.1 a.2.2.1) er_ref09_CheckEvening
theorem x_ref09_CheckEvening : XOk 98 t_ref09_CheckEvening := by
 refine EnvOk.x (E := e_ref09_CheckEvening) (contract_ok e_ref09_CheckEvening_ok (fn := Tryd.f98) (c := cb_ref09_CheckEvening) ?h1 ?h2 ⟨Tryd.call98⟩ cs_ref09_CheckEvening (fun a => ref09_CheckEvening a.1 a.2.1 a.2.2.1) er_ref09_CheckEvening (fun a => (by show 3 ≤ 103; decide)) ?h3 ?h4) rfl rfl
 case h1 => kernel_rfl
 case h2 => kernel_rfl
 case h3 => intro b; kernel_rfl
 case h4 => exact fun a b h => ref09_CheckEvening_sem a.1 a.2.1 a.2.2.1 b h
end Go.Proofs.YtcmgmkepodbpkaaDoor
