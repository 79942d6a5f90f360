/- The engine: memory. Slices as lists of cells, read ('Rd') or owned (the library's 'ownsRow'); rules for loads, stores, new blocks, append. -/
import Derived.Test.YthofgamegondnaaDoorOps
import Derived.Maps.AppendAt
namespace Go.Proofs.YthofgamegondnaaDoor
open Go.RowKit

/-- What a type's number stands for. -/
structure Ty (P : Program) (t : TypeId) (d : TypeDesc) (sz by_ : Nat) (z : Value) : Prop where
  und : P.underlying t = some d
  info : (P.info? t).map (fun i => (i.zero, i.size, i.bytes)) = some (some z, sz, by_)

theorem Ty.ex {P : Program} {t : TypeId} {d : TypeDesc} {sz b : Nat} {z : Value} (h : Ty P t d sz b z) : ∃ i, P.info? t = some i ∧ i.zero = some z ∧ i.size = sz ∧ i.bytes = b := by
  have h1 := h.info
  cases hi : P.info? t with
  | none => rw [hi] at h1; cases h1
  | some i =>
    rw [hi] at h1
    simp only [Option.map_some, Option.some.injEq, Prod.mk.injEq] at h1
    exact ⟨i, rfl, h1.1, h1.2.1, h1.2.2⟩

def flat : TypeDesc → Bool
  | .struct _ => false
  | .array _ _ => false
  | _ => true

section runs
variable {P : Program} {w : World} {t e : TypeId} {d : TypeDesc} {sz b : Nat} {z : Value}

theorem run_und (h : Ty P t d sz b z) : (underlying t).run P w = .ok d w := run_underlying h.und w
theorem run_size (h : Ty P t d sz b z) : (sizeOf t).run P w = .ok sz w := by
  obtain ⟨i, hi, _, hs, _⟩ := h.ex
  simp [sizeOf, typeInfo, hi, hs]
theorem run_zero (h : Ty P t d sz b z) : (zeroValue t).run P w = .ok z w := by
  obtain ⟨i, hi, hz, _, _⟩ := h.ex
  simp [zeroValue, typeInfo, hi, hz]
theorem run_isAgg (h : Ty P t d sz b z) : (isAgg t).run P w = .ok (!flat d) w := by
  unfold isAgg
  rw [Sem.run_bind, run_und h]
  cases d <;> rfl
theorem run_loadVar1 (h : Ty P t d sz b z) (hf : flat d = true) {a : Addr} {v : Value} (hc : w.cell? a = some v) : (loadVar t a).run P w = .ok v w := by
  unfold loadVar
  rw [Sem.run_bind, run_isAgg h, hf]
  simp [hc]
theorem run_loadVarAgg (h : Ty P t d sz b z) (hf : flat d = false) {a : Addr} {cs : List Value} (hl : cs.length = sz) (hc : ∀ j v, cs[j]? = some v → w.cell? (a.add j) = some v) : (loadVar t a).run P w = .ok (.agg cs.toArray) w := by
  unfold loadVar
  rw [Sem.run_bind, run_isAgg h, hf]
  have h1 := run_loadCells_list (P := P) w a cs hc
  simp [run_size h, ← hl, h1]
theorem run_storeVar1 (h : Ty P t d 1 b z) {a : Addr} {u v : Value} (hc : w.cell? a = some u) (hfz : w.frozen? a = false) (hv : v.oneCell' = true) : (storeVar t a v).run P w = .ok () (w.setCell a v) := by
  have hvc : v.cells = #[v] := by cases v <;> first | rfl | (simp [Value.oneCell'] at hv)
  unfold storeVar
  simp only [Sem.run_bind, run_size h, hvc]
  have h0 : a.add 0 = a := by simp [Addr.add]
  simp [storeCells, run_store P w _ v .plain hv, h0, hc, hfz]
end runs

section rules
variable {P : Program} {Q : Exit → Act → World → Prop} {F : Frm} {l : List (Nat × Value)} {w : World} {ops : Array Oper} {rest : List Oper}
variable {X : List Oper → Frm → List (Nat × Value) → World → Prop} [inst : Runs P X]
variable {d : Nat} {ty t T e : TypeId} {pos : String} {af : Array Edge} {x y : Operand} {ds dT : TypeDesc} {sz by_ sT bT : Nat} {z zT : Value}

theorem st_load {a : Addr} {v : Value} (h : Ty P t ds sz by_ z) (hf : flat ds = true) (hx : ev l F.s x = .pointer (some a)) (hc : w.cell? a = some v) : Rn P l F.s w ⟨some d, .load t x, ty, pos, af, none⟩ (v) :=
  (by unfold Rn; simp [execOp, hx, Instr.loadAt, Instr.sureAddr, run_loadVar1 h hf hc])
theorem st_loadAgg {a : Addr} {cs : List Value} (h : Ty P t ds sz by_ z) (hf : flat ds = false) (hx : ev l F.s x = .pointer (some a)) (hl : cs.length = sz) (hc : ∀ j v, cs[j]? = some v → w.cell? (a.add j) = some v) : Rn P l F.s w ⟨some d, .load t x, ty, pos, af, none⟩ (.agg cs.toArray) :=
  (by unfold Rn; simp [execOp, hx, Instr.loadAt, Instr.sureAddr, run_loadVarAgg h hf hl hc])
include inst in
theorem wl_store {a : Addr} {u v : Value} (h : Ty P t ds 1 by_ z) (hx : ev l F.s x = .pointer (some a)) (hy : ev l F.s y = v) (hv : v.oneCell' = true) (hc : w.cell? a = some u) (hfz : w.frozen? a = false)
    (k : X rest F l (w.setCell a v)) : X (⟨none, .store t x y, ty, pos, af, none⟩ :: rest) F l w :=
  Runs.skip (P := P) rfl rfl (by simp [execOp, hx, hy, Instr.storeAt, Instr.sureAddr, run_storeVar1 h hc hfz hv]) k

include inst in
theorem wl_box {v : Value} (hx : ev l F.s x = v) (hv : v.oneCell' = true) (hN : Nat.blt d F.N = true)
    (k : X rest F ((d, .pointer (some ⟨w.heap.size, 0, none⟩)) :: l) (w.alloc (.cells #[v] t))) : X (⟨some d, .box t x, ty, pos, af, none⟩ :: rest) F l w :=
  Runs.run (P := P) rfl rfl hN (by
    have hvc : v.cells = #[v] := by cases v <;> first | rfl | (simp [Value.oneCell'] at hv)
    simp [execOp, hx, Instr.box, newVar, newRow, hvc]) k
include inst in
theorem wl_boxAgg {cs : Array Value} (hx : ev l F.s x = .agg cs) (hN : Nat.blt d F.N = true)
    (k : X rest F ((d, .pointer (some ⟨w.heap.size, 0, none⟩)) :: l) (w.alloc (.cells cs t))) : X (⟨some d, .box t x, ty, pos, af, none⟩ :: rest) F l w :=
  Runs.run (P := P) rfl rfl hN (by simp [execOp, hx, Instr.box, newVar, newRow, Value.cells]) k
include inst in
theorem wl_alloc (h : Ty P t ds sz by_ z) (hN : Nat.blt d F.N = true)
    (k : X rest F ((d, .pointer (some ⟨w.heap.size, 0, none⟩)) :: l) (w.alloc (.cells z.cells t))) : X (⟨some d, .alloc t, ty, pos, af, none⟩ :: rest) F l w :=
  Runs.run (P := P) rfl rfl hN (by simp [execOp, Instr.alloc, run_zero h, newVar, newRow]) k

theorem st_len {A : Option Addr} {n c : Nat} (h : Ty P T (.slice e) sT bT zT) (hx : ev l F.s x = .slice A n c) : Rn P l F.s w ⟨some d, .call ⟨.builtin .len, #[x], #[T]⟩, ty, pos, af, none⟩ (.int .i64 (n : Int)) :=
  (by unfold Rn; simp [execOp, resolve, invoke, builtin, hx, Builtin.len_, run_und h, goInt])
theorem st_lenStr {s : ByteArray} (h : Ty P T .string sT bT zT) (hx : ev l F.s x = .string s) : Rn P l F.s w ⟨some d, .call ⟨.builtin .len, #[x], #[T]⟩, ty, pos, af, none⟩ (.int .i64 (s.size : Int)) :=
  (by unfold Rn; simp [execOp, resolve, invoke, builtin, hx, Builtin.len_, run_und h, goInt])
theorem st_lenArr {n : Nat} {v : Value} (h : Ty P T (.array n e) sT bT zT) (hx : ev l F.s x = v) : Rn P l F.s w ⟨some d, .call ⟨.builtin .len, #[x], #[T]⟩, ty, pos, af, none⟩ (.int .i64 (n : Int)) :=
  (by unfold Rn; simp [execOp, resolve, invoke, builtin, hx, Builtin.len_, run_und h, goInt])
theorem st_cap {A : Option Addr} {n c : Nat} (h : Ty P T (.slice e) sT bT zT) (hx : ev l F.s x = .slice A n c) : Rn P l F.s w ⟨some d, .call ⟨.builtin .cap, #[x], #[T]⟩, ty, pos, af, none⟩ (.int .i64 (c : Int)) :=
  (by unfold Rn; simp [execOp, resolve, invoke, builtin, hx, Builtin.cap_, run_und h, goInt])

theorem st_indexAddr {a : Addr} {n c : Nat} {K : IntKind} {m : Int} (i : Nat) (hT : Ty P T (.slice e) sT bT zT) (hE : Ty P e ds sz by_ z) (hx : ev l F.s x = .slice (some a) n c) (hy : ev l F.s y = .int K m) (him : m = (i : Int)) (hi : i < n) : Rn P l F.s w ⟨some d, .indexAddr T x y, ty, pos, af, none⟩ (.pointer (some (a.add (i * sz)))) :=
  (by
    subst him
    unfold Rn
    simp [execOp, hx, hy, Instr.indexAt, asIntOf, run_und hT, run_size hE]
    intro h; omega)

theorem run_fieldPlace {fd : Field} {df : TypeDesc} {szf bf : Nat} {zf : Value} (hft : Ty P fd.type df (szf + 1) bf zf) (a : Addr) : (fieldPlace a fd).run P w = .ok (a.add fd.offset) w := by
  unfold fieldPlace
  rw [Sem.run_bind, run_size hft]
  simp
theorem st_fieldAddr {a : Addr} {i off ft : Nat} {fs : Array Field} {df : TypeDesc} {szf bf : Nat} {zf : Value} (hS : Ty P t (.struct fs) sz by_ z) (hf : (fs[i]?).map (fun f => (f.type, f.offset)) = some (ft, off)) (hft : Ty P ft df (szf + 1) bf zf) (hx : ev l F.s x = .pointer (some a)) :
    Rn P l F.s w ⟨some d, .fieldAddr t x i, ty, pos, af, none⟩ (.pointer (some (a.add off))) := by
  cases hfi : fs[i]? with
  | none => rw [hfi] at hf; cases hf
  | some fd =>
    rw [hfi] at hf
    simp only [Option.map_some, Option.some.injEq, Prod.mk.injEq] at hf
    obtain ⟨h1, h2⟩ := hf
    subst h1 h2
    unfold Rn
    simp [execOp, hx, Instr.fieldAt, Instr.sureAddr, run_und hS, hfi, run_fieldPlace hft]
theorem st_field {i off ft : Nat} {cs : List Value} {v : Value} {fs : Array Field} {df : TypeDesc} {szf bf : Nat} {zf : Value} (hS : Ty P t (.struct fs) sz by_ z) (hf : (fs[i]?).map (fun f => (f.type, f.offset)) = some (ft, off)) (hft : Ty P ft df szf bf zf) (hfl : flat df = true) (hx : ev l F.s x = .agg cs.toArray) (hv : cs[off]? = some v) :
    Rn P l F.s w ⟨some d, .field t x i, ty, pos, af, none⟩ v := by
  cases hfi : fs[i]? with
  | none => rw [hfi] at hf; cases hf
  | some fd =>
    rw [hfi] at hf
    simp only [Option.map_some, Option.some.injEq, Prod.mk.injEq] at hf
    obtain ⟨h1, h2⟩ := hf
    subst h1 h2
    unfold Rn
    simp [execOp, hx, Instr.field, run_und hS, hfi, asAgg, part, run_isAgg hft, hfl, hv]

theorem fill_one {pl : Array (Nat × Nat)} {n : Nat} (hpl : ∀ i, i < n → pl[i]? = some (i, 1)) : ∀ (parts : List (Nat × Value)) (cs : List Value), (∀ p ∈ parts, p.1 < n ∧ p.2.oneCell' = true) → cs.length = n →
    Instr.fill (fun i => pl[i]?) cs.toArray parts = some (parts.foldl (fun cs p => cs.set p.1 p.2) cs).toArray
  | [], _, _, _ => rfl
  | (i, u) :: parts, cs, h, hn => by
    have hp := h (i, u) (by simp)
    have huc : u.cells = #[u] := by have := hp.2; cases u <;> first | rfl | (simp [Value.oneCell'] at this)
    have ih := fill_one hpl parts (cs.set i u) (fun p hp => h p (by simp [hp])) (by simpa using hn)
    simp only [Instr.fill, hpl i hp.1, huc]
    rw [if_neg (by simp; omega)]
    simpa using ih
/-- A struct of one-cell fields is put together. -/
theorem st_build {n : Nat} {fs : Array Field} {pl : Array (Nat × Nat)} {cs : List Value} {parts : Array (Nat × Operand)} {us : List (Nat × Value)} (hS : Ty P t (.struct fs) n by_ (.agg cs.toArray)) (hm : ∀ w : World, (fs.mapM (fun f => do pure (f.offset, ← sizeOf f.type)) : Sem (Array (Nat × Nat))).run P w = .ok pl w) (hpl : pl = ((List.range n).map fun i => (i, 1)).toArray)
    (hcs : cs.length = n) (hparts : parts.toList.map (fun p => (p.1, ev l F.s p.2)) = us) (hus : us.all (fun p => Nat.blt p.1 n && p.2.oneCell') = true) :
    Rn P l F.s w ⟨some d, .build t parts, ty, pos, af, none⟩ (.agg (us.foldl (fun cs p => cs.set p.1 p.2) cs).toArray) := by
  have hp' : parts.map (fun x => match x with | (i, x) => (i, ev l F.s x)) = us.toArray := by
    apply Array.ext'
    rw [Array.toList_map]
    exact hparts
  have h1 : ∀ p ∈ us, p.1 < n ∧ p.2.oneCell' = true := by
    intro p hp
    have := List.all_eq_true.1 hus p hp
    simp only [Bool.and_eq_true, Nat.blt_eq] at this
    exact this
  have hf := fill_one (pl := pl) (n := n) (by intro i hi; subst hpl; simp [hi]) us cs h1 hcs
  unfold Rn
  simp only [execOp, hp', Instr.build, Sem.run_bind, run_zero hS, Result.andThen, run_und hS, hm, Value.cells, hf]
  rfl

theorem run_storeAgg (h : Ty P t ds sz by_ z) {g n : Nat} {tb : TypeId} {old : Array Value} {cs : List Value} (hh : w.heap[g]? = some (.cells old tb (0, 0))) (hn : old.size = n) (hc : cs.length = n) (hs : sz = n) (h1 : ∀ u ∈ cs, u.oneCell' = true) :
    ∃ w' : World, (storeVar t ⟨g, 0, none⟩ (.agg cs.toArray)).run P w = .ok () w' ∧ w'.heap[g]? = some (.cells cs.toArray tb (0, 0)) ∧ w.grownBy w' (some g) ∧ w'.heap.size = w.heap.size := by
  have key : ∀ (cs : List Value) (i : Nat) (w : World) (old : List Value), (∀ u ∈ cs, u.oneCell' = true) → w.heap[g]? = some (.cells old.toArray tb (0, 0)) → i + cs.length = old.length →
      ∃ w' : World, (storeCells ⟨g, 0, none⟩ cs i).run P w = .ok () w' ∧ w'.heap[g]? = some (.cells (old.take i ++ cs).toArray tb (0, 0)) ∧ w.grownBy w' (some g) ∧ w'.heap.size = w.heap.size := by
    intro cs
    induction cs with
    | nil =>
      intro i w old _ hh hl
      refine ⟨w, rfl, ?_, ⟨rfl, rfl, rfl, Nat.le_refl _, fun _ _ _ => rfl⟩, rfl⟩
      rw [hh, List.append_nil, List.take_of_length_le (by simp at hl; omega)]
    | cons u cs ih =>
      intro i w old h1 hh hl
      simp only [List.length_cons] at hl
      have ha : (⟨g, 0, none⟩ : Addr).add i = ⟨g, i, none⟩ := by unfold Addr.add; split <;> simp_all
      have hcell : w.cell? ⟨g, i, none⟩ = some (old[i]'(by omega)) := by simp [World.cell?, hh, show i < old.length by omega]
      have hfz : w.frozen? ⟨g, i, none⟩ = false := by simp [World.frozen?, hh]
      have hh' : (w.setCell ⟨g, i, none⟩ u).heap[g]? = some (.cells (old.set i u).toArray tb (0, 0)) := by simp [World.setCell, Array.getElem?_modify, hh]
      obtain ⟨w', hr, he, hg, hz⟩ := ih (i + 1) (w.setCell ⟨g, i, none⟩ u) (old.set i u) (fun q hq => h1 q (by simp [hq])) hh' (by simp; omega)
      refine ⟨w', ?_, ?_, ⟨hg.os, hg.tape, hg.output, by rw [hz]; simp [World.setCell], fun k hk hne => (hg.block k (by simpa [World.setCell] using hk) hne).trans (Below.heap_setCell _ _ _ _ (fun e => hne (by rw [e])))⟩, by rw [hz]; simp [World.setCell]⟩
      · unfold storeCells
        rw [Sem.run_bind, ha, run_store P w _ u .plain (h1 u (by simp))]
        simp [hcell, hfz, hr]
      · rw [he, List.take_add_one]
        congr 3
        rw [List.take_set_of_le (Nat.le_refl _), List.getElem?_set_self (by omega)]
        simp
  subst hn hs
  obtain ⟨w', hr, he, hg, hz⟩ := key cs 0 w old.toList h1 (by simpa using hh) (by simp [hc])
  refine ⟨w', ?_, by simpa using he, hg, hz⟩
  unfold storeVar
  simp [run_size h, Value.cells, hc, hr]

theorem st_convSame {k : IntKind} {m : Int} {a b' : TypeId} {sa ba sb bb : Nat} {za zb : Value} (ha : Ty P a (.int k) sa ba za) (hb : Ty P b' (.int .i64) sb bb zb) (hx : ev l F.s x = .int k m) (h1 : -9223372036854775808 ≤ m) (h2 : m ≤ 9223372036854775807) :
    Rn P l F.s w ⟨some d, .convert a b' x, ty, pos, af, none⟩ (.int .i64 m) := by
  unfold Rn
  simp [execOp, hx, convert, run_und ha, run_und hb, Conv.intToInt, w64_in h1 h2]

theorem wq_retcell {fn : Func} {R : Ending → World → Prop} {t : Tmp} {a : Addr} {v : Value} (hr : fn.results = #[.cell t e]) (hd : F.D = []) (ha : fr l F.s t = .pointer (some a)) (hT : Ty P e ds sz by_ z) (hf : flat ds = true) (hc : w.cell? a = some v) (h : R (.returned v) w) : WQ (bodyPost P fn R) .ret F l w :=
  fun act hA => bodyPost_ret (by simp [results, hr, hA.get, ha, asAddr, run_loadVar1 hT hf hc]) (hA.defers.trans hd) h
theorem wq_retcellG {fn : Func} {R : Ending → World → Prop} {t : Tmp} {a : Addr} {cs : List Value} (hr : fn.results = #[.cell t e]) (hd : F.D = []) (ha : fr l F.s t = .pointer (some a)) (hT : Ty P e ds sz by_ z) (hf : flat ds = false) (hl : cs.length = sz) (hc : ∀ j v, cs[j]? = some v → w.cell? (a.add j) = some v) (h : R (.returned (.agg cs.toArray)) w) : WQ (bodyPost P fn R) .ret F l w :=
  fun act hA => bodyPost_ret (by simp [results, hr, hA.get, ha, asAddr, run_loadVarAgg hT hf hl hc]) (hA.defers.trans hd) h

/-- Reading: the slice value 'v' holds the cells of 'L' (elements of one cell), in blocks of 'S'. -/
def Rd (w : World) (S : Nat → Prop) (v : Value) (L : List Value) : Prop :=
  ∃ A c, v = .slice A L.length c ∧ L.length ≤ c ∧ c ≤ maxLen ∧ (0 < L.length → ∃ a, A = some a ∧ S a.block ∧ ∀ i u, L[i]? = some u → w.cell? (a.add i) = some u)

theorem Addr.add_block (a : Addr) (n : Nat) : (a.add n).block = a.block := by unfold Addr.add; split <;> rfl

theorem Rd.kept {w w' : World} {S : Nat → Prop} {v : Value} {L : List Value} (h : Rd w S v L) (hk : ∀ b, S b → w'.heap[b]? = w.heap[b]?) : Rd w' S v L := by
  obtain ⟨A, c, hv, hc, hm, hr⟩ := h
  refine ⟨A, c, hv, hc, hm, fun h0 => ?_⟩
  obtain ⟨a, ha, hS, hcell⟩ := hr h0
  exact ⟨a, ha, hS, fun i u hu => (World.cell?_of_block (by rw [Addr.add_block]; exact hk _ hS)).trans (hcell i u hu)⟩
theorem Rd.mono {w : World} {S S' : Nat → Prop} {v : Value} {L : List Value} (h : Rd w S v L) (hs : ∀ b, S b → S' b) : Rd w S' v L := by
  obtain ⟨A, c, hv, hc, hm, hr⟩ := h
  refine ⟨A, c, hv, hc, hm, fun h0 => ?_⟩
  obtain ⟨a, ha, hS, hcell⟩ := hr h0
  exact ⟨a, ha, hs _ hS, hcell⟩
theorem Rd.lt {w : World} {S : Nat → Prop} {v : Value} {L : List Value} (h : Rd w S v L) : Rd w (fun b => S b ∧ b < w.heap.size) v L := by
  obtain ⟨A, c, hv, hc, hm, hr⟩ := h
  refine ⟨A, c, hv, hc, hm, fun h0 => ?_⟩
  obtain ⟨a, ha, hS, hcell⟩ := hr h0
  refine ⟨a, ha, ⟨hS, ?_⟩, hcell⟩
  have := World.block_lt_of_cell? w _ (hcell 0 _ (List.getElem?_eq_getElem h0))
  rwa [Addr.add_block] at this
theorem Rd.below {B : Nat} {w w' : World} {v : Value} {L : List Value} (h : Rd w (· < B) v L) (hb : Below B w w') : Rd w' (· < B) v L := h.kept fun b hb' => hb.block b hb'
theorem Rd.nil {w : World} {S : Nat → Prop} : Rd w S (.slice none 0 0) [] := ⟨none, 0, rfl, Nat.le_refl _, by unfold maxLen; omega, fun h => absurd h (by simp)⟩
theorem Rd.len {w : World} {S : Nat → Prop} {v : Value} {L : List Value} (h : Rd w S v L) : ∃ A c, v = .slice A L.length c ∧ L.length ≤ c ∧ c ≤ 9223372036854775807 := by
  obtain ⟨A, c, hv, hc, hm, _⟩ := h
  exact ⟨A, c, hv, hc, by simpa [maxLen] using hm⟩

theorem st_idxR {S : Nat → Prop} {v u : Value} {L : List Value} {K : IntKind} {m : Int} (i : Nat) (hT : Ty P T (.slice e) sT bT zT) (hE : Ty P e ds 1 by_ z) (hr : Rd w S v L) (hx : ev l F.s x = v) (hy : ev l F.s y = .int K m) (him : m = (i : Int)) (hi : L[i]? = some u) :
    ∃ q, (∃ a : Addr, q = .pointer (some a) ∧ S a.block ∧ w.cell? a = some u) ∧ ∀ w, Rn P l F.s w ⟨some d, .indexAddr T x y, ty, pos, af, none⟩ q := by
  have hlt : i < L.length := (List.getElem?_eq_some_iff.1 hi).1
  obtain ⟨A, c, rfl, hc, hm, hr⟩ := hr
  obtain ⟨a, rfl, hS, hcell⟩ := hr (by omega)
  exact ⟨_, ⟨_, rfl, by rw [Addr.add_block]; exact hS, by rw [Nat.mul_one]; exact hcell i u hi⟩, fun _ => st_indexAddr i hT hE hx hy him hlt⟩

/-- Owned rows: facts of a slice value whose cells the call may write. -/
theorem own_form {base n : Nat} {v : Value} {L : List Value} (h : w.ownsRow base e 1 v n L) (hn : 0 < n) : ∃ g cap, v = .slice (some ⟨g, 0, none⟩) n cap ∧ base ≤ g ∧ g < w.heap.size ∧ v.ownBlock = some g ∧ n ≤ cap ∧ cap ≤ maxLen := by
  obtain ⟨hl, h⟩ := h
  rcases h with ⟨_, h0⟩ | ⟨g, cap, cur, hv, hb, hh, hnc, hcm, _, _⟩
  · omega
  · have hlt : g < w.heap.size := by
      rcases Nat.lt_or_ge g w.heap.size with h1 | h1
      · exact h1
      · rw [Array.getElem?_eq_none h1] at hh; cases hh
    exact ⟨g, cap, hv, hb, hlt, by rw [hv]; rfl, hnc, hcm⟩
theorem own_rd {base n : Nat} {v : Value} {L : List Value} (h : w.ownsRow base e 1 v n L) : Rd w (fun b => base ≤ b ∧ b < w.heap.size) v L := by
  have hl : L.length = n := by have := h.1; omega
  subst hl
  rcases Nat.eq_zero_or_pos L.length with h0 | h0
  · obtain ⟨hl, h⟩ := h
    rcases h with ⟨rfl, _⟩ | ⟨g, cap, cur, rfl, hb, hh, hnc, hcm, _, _⟩
    · have : L = [] := List.eq_nil_of_length_eq_zero h0
      subst this
      exact Rd.nil
    · exact ⟨_, cap, rfl, hnc, hcm, fun h => absurd h (by omega)⟩
  · obtain ⟨g, cap, hv, hb, hlt, ho, hnc, hcm⟩ := own_form h h0
    exact ⟨_, cap, hv, hnc, hcm, fun _ => ⟨_, rfl, ⟨hb, hlt⟩, h.cells ho⟩⟩
theorem own_store {base n : Nat} {g cap : Nat} {L : List Value} (h : w.ownsRow base e 1 (.slice (some ⟨g, 0, none⟩) n cap) n L) {i : Nat} (hi : i < n) (u : Value) :
    (w.setCell ⟨g, i, none⟩ u).ownsRow base e 1 (.slice (some ⟨g, 0, none⟩) n cap) n (L.set i u) ∧ w.grownBy (w.setCell ⟨g, i, none⟩ u) (some g) ∧ (∃ u', w.cell? ⟨g, i, none⟩ = some u') ∧ w.frozen? ⟨g, i, none⟩ = false := by
  obtain ⟨hl, h⟩ := h
  rcases h with ⟨hv, _⟩ | ⟨g', cap', cur, hv, hb, hh, hnc, hcm, hsz, htk⟩
  · cases hv
  · injection hv with h1 h2 h3
    injection h1 with h1
    injection h1 with h1
    subst h1 h3
    refine ⟨⟨by simp [hl], .inr ⟨g, cap, cur.setIfInBounds i u, rfl, hb, by simp [World.setCell, Array.getElem?_modify, hh], hnc, hcm, by simp [hsz], ?_⟩⟩, ⟨rfl, rfl, rfl, by simp [World.setCell], fun k hk hne => Below.heap_setCell _ _ _ _ (fun e => hne (by rw [e]))⟩, ?_, by simp [World.frozen?, hh]⟩
    · rw [Array.toList_setIfInBounds, List.take_set, htk]
    · have : i < cur.size := by omega
      exact ⟨cur[i], by simp [World.cell?, hh, this]⟩

theorem st_idxO {n g cap : Nat} {K : IntKind} {m : Int} (i : Nat) (hT : Ty P T (.slice e) sT bT zT) (hE : Ty P e ds 1 by_ z) (hx : ev l F.s x = .slice (some ⟨g, 0, none⟩) n cap) (hy : ev l F.s y = .int K m) (him : m = (i : Int)) (hlt : i < n) :
    Rn P l F.s w ⟨some d, .indexAddr T x y, ty, pos, af, none⟩ (.pointer (some ⟨g, i, none⟩)) := by
  have ha : (⟨g, 0, none⟩ : Addr).add i = ⟨g, i, none⟩ := by unfold Addr.add; split <;> simp_all
  have h := st_indexAddr (P := P) (F := F) (l := l) (w := w) (d := d) (ty := ty) (pos := pos) (af := af) i hT hE hx hy him hlt
  rw [Nat.mul_one, ha] at h
  exact h
theorem own_cell {base n g cap i : Nat} {L : List Value} {u : Value} (ho : w.ownsRow base e 1 (.slice (some ⟨g, 0, none⟩) n cap) n L) (hi : L[i]? = some u) : w.cell? ⟨g, i, none⟩ = some u := by
  have hc := ho.cells (g := g) rfl i u hi
  have ha : (⟨g, 0, none⟩ : Addr).add i = ⟨g, i, none⟩ := by unfold Addr.add; split <;> simp_all
  rwa [ha] at hc
include inst in
theorem wl_storeO {base n g cap i : Nat} {L : List Value} {v : Value} (hE : Ty P e ds 1 by_ z) (ho : w.ownsRow base e 1 (.slice (some ⟨g, 0, none⟩) n cap) n L) (hi : i < n) (hx : ev l F.s x = .pointer (some ⟨g, i, none⟩)) (hy : ev l F.s y = v) (hv : v.oneCell' = true)
    (k : ∀ w', w'.ownsRow base e 1 (.slice (some ⟨g, 0, none⟩) n cap) n (L.set i v) → w.grownBy w' (some g) → X rest F l w') : X (⟨none, .store e x y, ty, pos, af, none⟩ :: rest) F l w := by
  obtain ⟨h1, h2, ⟨u', h3⟩, h4⟩ := own_store ho hi v
  exact wl_store hE hx hy hv h3 h4 (k _ h1 h2)

theorem run_fill1 (u v : Value) (hv : v.oneCell' = true) : Instr.fill (fun i => some (i * 1, 1)) #[u] [(0, v)] = some #[v] := by
  have hvc : v.cells = #[v] := by cases v <;> first | rfl | (simp [Value.oneCell'] at hv)
  simp [Instr.fill, hvc]

include inst in
/-- 'append(s, x)' of one element of one cell: the two operations at once. -/
theorem wl_push {d1 d2 base n : Nat} {ty1 ty2 : TypeId} {pos1 pos2 : String} {af1 af2 : Array Edge} {s : Operand} {v u : Value} {L : List Value} (hT : Ty P T (.slice e) sT bT zT) (hE : Ty P e ds 1 by_ z) (hz : z.oneCell' = true) (ho : w.ownsRow base e 1 v n L) (hbase : base ≤ w.heap.size)
    (hs : ev l F.s s = v) (hx : ev l F.s x = u) (hu : u.oneCell' = true) (hb : (n + 1) * by_ ≤ 140737488355328) (hn : n + 1 ≤ maxLen) (hsd : ev [(d1, .slice (some ⟨w.heap.size, 0, none⟩) 1 1)] (fr l F.s) s = ev l F.s s) (hN1 : Nat.blt d1 F.N = true) (hN2 : Nat.blt d2 F.N = true)
    (k : ∀ v' w', w'.ownsRow base e 1 v' (n + 1) (L ++ [u]) → w.grownBy w' v.ownBlock → (v'.ownBlock = v.ownBlock ∨ v'.ownBlock = some (w.heap.size + 1)) → w.heap.size < w'.heap.size → X rest F ((d2, v') :: (d1, .slice (some ⟨w.heap.size, 0, none⟩) 1 1) :: l) w') :
    X (⟨some d1, .buildSlice T 1 #[(0, x)], ty1, pos1, af1, none⟩ :: ⟨some d2, .call ⟨.builtin .append, #[s, .tmp d1], #[T, T]⟩, ty2, pos2, af2, none⟩ :: rest) F l w := by
  obtain ⟨i, hi, hz', hs', hb'⟩ := hE.ex
  have hzc : z.cells = #[z] := by cases z <;> first | rfl | (simp [Value.oneCell'] at hz)
  have hucc : u.cells = #[u] := by cases u <;> first | rfl | (simp [Value.oneCell'] at hu)
  refine Runs.run (P := P) (v := .slice (some ⟨w.heap.size, 0, none⟩) 1 1) (w' := w.alloc (.cells #[u] e)) rfl rfl hN1 ?_ ?_
  · have er : Array.range 1 = #[0] := rfl
    simp [execOp, hx, Instr.buildSlice, run_und hT, run_size hE, run_zero hE, hzc, Instr.fill, hucc, newRow, er]
  · have ho' := ho.alloc (.cells #[u] e)
    have hcell : ∀ j q, [u][j]? = some q → (w.alloc (.cells #[u] e)).cell? ((⟨w.heap.size, 0, none⟩ : Addr).add j) = some q := by
      intro j q hj
      match j, hj with
      | 0, hj =>
        simp at hj
        subst hj
        rw [show (⟨w.heap.size, 0, none⟩ : Addr).add 0 = ⟨w.heap.size, 0, none⟩ from by simp [Addr.add], World.cell?_alloc_at _ _ _ _ rfl]
        rfl
    obtain ⟨v', w', hrun, how, hg, _, hat⟩ := run_append_own_at (P := P) (w.alloc (.cells #[u] e)) base T ty2 e i z 1 by_ hT.und hi hz' hs' hb' (by rw [hzc]; rfl) (by decide) v n L ho' ⟨w.heap.size, 0, none⟩ 1 1 [u] rfl hcell
      (by intro q hq; simp at hq; subst hq; exact hu) hn hb (by simp; omega)
    refine Runs.run (P := P) (v := v') (w' := w') rfl rfl hN2 ?_ (k v' w' how ?_ (by simpa using hat) (by have := hg.size; simp at this; omega))
    · have e1 : ev ((d1, .slice (some ⟨w.heap.size, 0, none⟩) 1 1) :: l) F.s s = v := by
        rw [← hs, ← hsd]
        cases s <;> rfl
      have e2 : ev ((d1, .slice (some ⟨w.heap.size, 0, none⟩) 1 1) :: l) F.s (.tmp d1) = .slice (some ⟨w.heap.size, 0, none⟩) 1 1 := by
        show (bif Nat.beq d1 d1 then _ else _) = _
        rw [Nat.beq_refl]; rfl
      simp [execOp, resolve, invoke, builtin, e1, e2, hrun]
    · refine ⟨hg.os, hg.tape, hg.output, ?_, fun b hb hne => ?_⟩
      · have := hg.size; simp at this; omega
      · rw [hg.block b (by simp; omega) hne]
        exact Below.heap_alloc _ _ _ hb

theorem made_rep (z : Value) (hz : z.oneCell' = true) (n : Nat) : (madeCells z.cells (n * 1)).toList = List.replicate n z := by
  have hzc : z.cells = #[z] := by cases z <;> first | rfl | (simp [Value.oneCell'] at hz)
  apply List.ext_getElem?
  intro j
  by_cases hj : j < n
  · simp [hzc, madeCells, hj, Nat.mod_one]
  · simp [hzc, madeCells, hj]

include inst in
/-- 'make([]T, n)'. -/
theorem wl_make {n : Nat} {K K' : IntKind} {m m' : Int} (hT : Ty P T (.slice e) sT bT zT) (hE : Ty P e ds 1 by_ z) (hz : z.oneCell' = true) (hx : ev l F.s x = .int K m) (hm : m = (n : Int)) (hy : ev l F.s y = .int K' m') (hm' : m' = (n : Int)) (hb : by_ * n ≤ 140737488355328) (hn : n ≤ maxLen) (hN : Nat.blt d F.N = true)
    (k : ∀ w', w'.ownsRow w.heap.size e 1 (.slice (some ⟨w.heap.size, 0, none⟩) n n) n (List.replicate n z) → w.grownBy w' none → w.heap.size < w'.heap.size → X rest F ((d, .slice (some ⟨w.heap.size, 0, none⟩) n n) :: l) w') :
    X (⟨some d, .makeSlice T x y, ty, pos, af, none⟩ :: rest) F l w := by
  subst hm hm'
  obtain ⟨i, hi, hz', hs', hb'⟩ := hE.ex
  obtain ⟨w', hr, ho, hg⟩ := run_make_full (P := P) w w.heap.size T e i z 1 hT.und hi hz' hs' K K' n (by rw [hb']; omega) hn (Nat.le_refl _)
  rw [made_rep z hz] at ho
  refine Runs.run (P := P) (v := .slice (some ⟨w.heap.size, 0, none⟩) n n) (w' := w') rfl rfl hN ?_ (k _ ho hg (ho.lt _ rfl).2)
  simp [execOp, hx, hy, hr]

theorem wq_ret2ct {fn : Func} {R : Ending → World → Prop} {t u : Tmp} {a : Addr} {v : Value} {cs : List Value} (hr : fn.results = #[.cell t e, .tmp u]) (hd : F.D = []) (ha : fr l F.s t = .pointer (some a)) (hv : fr l F.s u = v) (hT : Ty P e ds sz by_ z) (hf : flat ds = false) (hl : cs.length = sz) (hc : ∀ j v, cs[j]? = some v → w.cell? (a.add j) = some v) (h : R (.returned (.tuple #[.agg cs.toArray, v])) w) : WQ (bodyPost P fn R) .ret F l w :=
  fun act hA => bodyPost_ret (by simp [results, hr, hA.get, ha, hv, asAddr, run_loadVarAgg hT hf hl hc]) (hA.defers.trans hd) h
end rules
end Go.Proofs.YthofgamegondnaaDoor
