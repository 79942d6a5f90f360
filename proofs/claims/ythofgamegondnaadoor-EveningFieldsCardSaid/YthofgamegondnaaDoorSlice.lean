/- Cutting slices; copying within a slice of one's own. -/
import Derived.Test.YthofgamegondnaaDoorSeq
import Derived.Laws.CopyOwn
import Derived.Laws.Slices
import Derived.Laws.StructEq
namespace Go.Proofs.YthofgamegondnaaDoor
open Go.RowKit

theorem splice_take {α : Type} {cur cs : List α} {n off k : Nat} (h : off + k ≤ n) (hn : n ≤ cur.length) (hc : cs.length = k) :
    (cur.take off ++ cs ++ cur.drop (off + k)).take n = (cur.take n).take off ++ cs ++ (cur.take n).drop (off + k) := by
  rw [List.take_append, List.take_append, List.drop_take, List.take_take, List.take_take, Nat.min_comm off n, List.take_of_length_le (l := cs) (by simp; omega)]
  simp only [List.length_append, List.length_take]
  congr 2
  omega
/-- A list of which a part has been copied over another. -/
def copyL {α : Type} (M : List α) (off so k : Nat) : List α := M.take off ++ (M.drop so).take k ++ M.drop (off + k)
theorem copyL_get {α : Type} (M : List α) (off so k i : Nat) (h1 : off + k ≤ M.length) (h2 : so + k ≤ M.length) :
    (copyL M off so k)[i]? = M[if i < off then i else if i < off + k then so + (i - off) else i]? := by
  unfold copyL
  by_cases a : i < off
  · rw [if_pos a, List.append_assoc, List.getElem?_append_left (by simp; omega), List.getElem?_take_of_lt a]
  · rw [if_neg a]
    by_cases b : i < off + k
    · rw [if_pos b, List.getElem?_append_left (by simp; omega), List.getElem?_append_right (by simp; omega), List.length_take, Nat.min_eq_left (by omega), List.getElem?_take_of_lt (by omega), List.getElem?_drop]
    · rw [if_neg b, List.getElem?_append_right (by simp; omega), List.getElem?_drop]
      congr 1
      simp
      omega
theorem copyL_len {α : Type} (M : List α) (off so k : Nat) (h1 : off + k ≤ M.length) (h2 : so + k ≤ M.length) : (copyL M off so k).length = M.length := by
  simp [copyL]; omega

theorem all1 {v : Value} {vs : List Value} (h : v.oneCell' = true) (hs : vs.all Value.oneCell' = true) : (v :: vs).all Value.oneCell' = true := by simp [h, hs]

theorem Bl.cellI {e : TypeId} {w : World} {lo hi g i : Nat} {K : IntKind} {v : Value} {xs : List Int} (hr : Bl (intR K) e w lo hi v xs) (hv : v.ownBlock = some g) (hi' : i < xs.length) : w.cell? ⟨g, i, none⟩ = some (.int K (xs.getD i 0)) := by
  obtain ⟨L, ho, hb, hl, hrr⟩ := hr
  have hlt : i < L.length := by omega
  obtain ⟨g', cap, rfl, _, _, hg, _, _⟩ := own_form ho (by omega)
  rw [hg] at hv
  injection hv with hv
  subst hv
  have h2 := hrr i _ _ (List.getElem?_eq_getElem hlt) (List.getElem?_eq_getElem hi')
  have h3 := own_cell ho (List.getElem?_eq_getElem hlt)
  rw [h3, List.getD_eq_getElem?_getD, List.getElem?_eq_getElem hi']
  exact congrArg some h2
section guards
variable {P : Program} {Q : Exit → Act → World → Prop} {F : Frm} {l : List (Nat × Value)} {w : World} {ops : Array Oper} {rest : List Oper}
theorem wanted_undef {j : Nat} {want : Bool} {oj : Oper} {dj : Nat} {a : Act} {o : Oper} (hg : o.guard = some (j, want)) (hj : ops[j]? = some oj) (hdj : oj.dst = some dj) (ha : Ag F l a) (hb : fr l F.s dj = undef) :
    Region.wanted o (yielded ops a.tmps) = false := by
  have h1 : a.tmps.getD dj undef = undef := (ha.get dj).trans hb
  rw [Array.getD_eq_getD_getElem?] at h1
  cases h3 : a.tmps[dj]? with
  | none => simp [Region.wanted, hg, yielded, hj, hdj, h3]
  | some u =>
    rw [h3] at h1
    have h4 : u = undef := h1
    subst h4
    simp [Region.wanted, hg, yielded, hj, hdj, h3, undef]
theorem wl_guard_undef {o : Oper} {j : Nat} {want : Bool} {oj : Oper} {dj d : Nat} (hg : o.guard = some (j, want)) (hj : ops[j]? = some oj) (hdj : oj.dst = some dj) (hb : fr l F.s dj = undef) (hd : o.dst = some d) (hN : Nat.blt d F.N = true)
    (k : WL P ops Q rest F ((d, undef) :: l) w) : WL P ops Q (o :: rest) F l w := fun a ha => by
  unfold wpListIn
  rw [if_neg (by rw [wanted_undef hg hj hdj ha hb]; simp), hd]
  exact ⟨fun _ _ => trivial, k _ (ha.put hN _)⟩
end guards

section rules
variable {P : Program} {Q : Exit → Act → World → Prop} {F : Frm} {l : List (Nat × Value)} {w : World} {ops : Array Oper} {rest : List Oper}
variable {X : List Oper → Frm → List (Nat × Value) → World → Prop} [inst : Runs P X]
variable {d : Nat} {ty t T e : TypeId} {pos : String} {af : Array Edge} {x y : Operand} {ds dT : TypeDesc} {sz by_ sT bT : Nat} {z zT : Value}

theorem Ty.elem (hT : Ty P T (.slice e) sT bT zT) : P.elem T = e := by simp [Program.elem, hT.und]
theorem Ty.und' (hT : Ty P T (.slice e) sT bT zT) : P.underlying T = some (.slice (P.elem T)) := by rw [hT.elem]; exact hT.und

theorem st_sliceLo {A : Option Addr} {n c m : Nat} {K : IntKind} (hT : Ty P T (.slice e) sT bT zT) (hE : Ty P e ds sz by_ z) (hx : ev l F.s x = .slice A n c) (hy : ev l F.s y = .int K (m : Int)) (hm : m ≤ n) :
    Rn P l F.s w ⟨some d, .slice T x (some y) none none, ty, pos, af, none⟩ (.slice (if c = m then A else A.map (·.add (m * sz))) (n - m) (c - m)) := by
  unfold Rn
  have h := run_slice_l (P := P) (w := w) T A n c hT.und' K (m : Int) (by omega) (by omega)
  rw [hT.elem, run_size hE] at h
  simp [execOp, hx, hy, run_sliceAt_slice w T _ _ _ _ hT.und', h, Result.andThen, sliced]
theorem st_sliceHi {A : Option Addr} {n c m : Nat} {K : IntKind} (hT : Ty P T (.slice e) sT bT zT) (hE : Ty P e ds sz by_ z) (hx : ev l F.s x = .slice A n c) (hy : ev l F.s y = .int K (m : Int)) (hm : m ≤ c) :
    Rn P l F.s w ⟨some d, .slice T x none (some y) none, ty, pos, af, none⟩ (.slice A m c) := by
  unfold Rn
  have h := run_slice_h (P := P) (w := w) T A n c hT.und' K (m : Int) (by omega) (by omega)
  rw [hT.elem, run_size hE] at h
  simp [execOp, hx, hy, run_sliceAt_slice w T _ _ _ _ hT.und', h, Result.andThen, sliced]
  intro _
  cases A <;> simp [Addr.add]

theorem st_idxBb {lo hi : Nat} {v : Value} {xs : List Bool} {K : IntKind} {m : Int} (hr : Bl boolR e w lo hi v xs) (hT : Ty P T (.slice e) sT bT zT) (hE : Ty P e ds 1 by_ z) (hx : ev l F.s x = v) (hy : ev l F.s y = .int K m) (h0 : 0 ≤ m) (h1 : m < (xs.length : Int)) :
    ∃ q, (∃ g : Nat, q = .pointer (some ⟨g, m.toNat, none⟩) ∧ v.ownBlock = some g ∧ w.cell? ⟨g, m.toNat, none⟩ = some (.bool (xs.getD m.toNat false))) ∧ ∀ w, Rn P l F.s w ⟨some d, .indexAddr T x y, ty, pos, af, none⟩ q := by
  obtain ⟨L, ho, hb, hl, hrr⟩ := hr
  have hlt : m.toNat < L.length := by omega
  have hlt' : m.toNat < xs.length := by omega
  obtain ⟨g, cap, rfl, _, _, hg, _, _⟩ := own_form ho (by omega)
  have h2 := hrr m.toNat _ _ (List.getElem?_eq_getElem hlt) (List.getElem?_eq_getElem hlt')
  have h3 := own_cell ho (List.getElem?_eq_getElem hlt)
  refine ⟨_, ⟨g, rfl, hg, ?_⟩, fun _ => st_idxO m.toNat hT hE hx hy (by omega) hlt⟩
  rw [h3, List.getD_eq_getElem?_getD, List.getElem?_eq_getElem hlt']
  exact congrArg some h2
theorem st_eqlB {b c : Bool} {t2 : TypeId} (hT : Ty P t .bool sT bT zT) (hx : ev l F.s x = .bool b) (hy : ev l F.s y = .bool c) : Rn P l F.s w ⟨some d, .binOp .eql t x y t2, ty, pos, af, none⟩ (.bool (b == c)) := by
  have h : (Op.equal t (.bool b) (.bool c)).run P w = .ok (b == c) w := run_equalIn_bool' (P := P) (w := w) 9999 t b c hT.und
  unfold Rn
  simp [execOp, hx, hy, binOp, eqGuard, h, Result.andThen]
theorem st_eqlS {b c : ByteArray} {t2 : TypeId} (hx : ev l F.s x = .string b) (hy : ev l F.s y = .string c) : Rn P l F.s w ⟨some d, .binOp .eql t x y t2, ty, pos, af, none⟩ (.bool (b.toList == c.toList)) := by
  unfold Rn
  simp [execOp, hx, hy, binOp, eqGuard, Op.stringOp]
theorem st_neqS {b c : ByteArray} {t2 : TypeId} (hx : ev l F.s x = .string b) (hy : ev l F.s y = .string c) : Rn P l F.s w ⟨some d, .binOp .neq t x y t2, ty, pos, af, none⟩ (.bool (!(b.toList == c.toList))) := by
  unfold Rn
  simp [execOp, hx, hy, binOp, eqGuard, Op.stringOp]
theorem st_cutLo {g o n c m : Nat} {mi : Int} {K : IntKind} (hT : Ty P T (.slice e) sT bT zT) (hE : Ty P e ds 1 by_ z) (hx : ev l F.s x = .slice (some ⟨g, o, none⟩) n c) (hy : ev l F.s y = .int K mi) (hmi : mi = (m : Int)) (hm : m ≤ n) (hc : m < c) :
    Rn P l F.s w ⟨some d, .slice T x (some y) none none, ty, pos, af, none⟩ (.slice (some ⟨g, o + m, none⟩) (n - m) (c - m)) := by
  subst hmi
  have h := st_sliceLo (P := P) (F := F) (l := l) (w := w) (d := d) (ty := ty) (pos := pos) (af := af) hT hE hx hy hm
  rw [if_neg (by omega)] at h
  have h6 : (⟨g, o, none⟩ : Addr).add m = ⟨g, o + m, none⟩ := by
    unfold Addr.add
    split
    · next e => subst e; rfl
    · rfl
  simpa [h6] using h
theorem st_cutHi {A : Option Addr} {n c m : Nat} {mi : Int} {K : IntKind} (hT : Ty P T (.slice e) sT bT zT) (hE : Ty P e ds sz by_ z) (hx : ev l F.s x = .slice A n c) (hy : ev l F.s y = .int K mi) (hmi : mi = (m : Int)) (hm : m ≤ c) :
    Rn P l F.s w ⟨some d, .slice T x none (some y) none, ty, pos, af, none⟩ (.slice A m c) := by
  subst hmi
  exact st_sliceHi hT hE hx hy hm
include inst in
/-- 'copy' within a slice of one's own. -/
theorem wl_copyB {α : Type} {r : Rep α} {lo hi g n c off so dn dc sn sc k : Nat} {xs : List α} (h : Bl r e w lo hi (.slice (some ⟨g, 0, none⟩) n c) xs) (hT : Ty P T (.slice e) sT bT zT) (hE : Ty P e ds 1 by_ z)
    (hx : ev l F.s x = .slice (some ⟨g, off, none⟩) dn dc) (hy : ev l F.s y = .slice (some ⟨g, so, none⟩) sn sc) (hk : Nat.min sn dn = k) (h1 : off + k ≤ n) (h2 : so + k ≤ n) (hN : Nat.blt d F.N = true)
    (kk : ∀ w', Bl r e w' lo hi (.slice (some ⟨g, 0, none⟩) n c) (xs.take off ++ (xs.drop so).take k ++ xs.drop (off + k)) → w.grownBy w' (some g) → w'.heap.size = w.heap.size → (lo ≤ g ∧ g < hi ∧ g < w.heap.size) → X rest F ((d, .int .i64 (k : Int)) :: l) w') :
    X (⟨some d, .call ⟨.builtin .copy, #[x, y], #[T, T]⟩, ty, pos, af, none⟩ :: rest) F l w := by
  have hown := h.own (g := g) rfl
  obtain ⟨L, ho, hbd, hl, hr⟩ := h
  obtain ⟨hL1, hL⟩ := ho
  rcases hL with ⟨h0, _⟩ | ⟨g', cap, cur, hv, hlo, hh, hnc, hcm, hsz, htk⟩
  · cases h0
  · injection hv with e1 e2 e3
    injection e1 with e1
    injection e1 with e1
    subst e1 e3
    rw [← e2] at hnc htk
    have hLn : L.length = n := e2.symm
    obtain ⟨i, hi', hz', hs', hb'⟩ := hE.ex
    have hcur : ∀ j, j < n → cur.toList[j]? = L[j]? := by
      intro j hj
      rw [← htk, List.getElem?_take_of_lt (by omega)]
    let cs := (L.drop so).take k
    have hcl : cs.length = k := by simp [cs]; omega
    have hcs : ∀ j v, cs[j]? = some v → L[so + j]? = some v ∧ j < k := by
      intro j v hj
      have hjk : j < k := by have := (List.getElem?_eq_some_iff.1 hj).1; omega
      rw [List.getElem?_take_of_lt hjk, List.getElem?_drop] at hj
      exact ⟨hj, hjk⟩
    have hone : ∀ v ∈ L, v.oneCell' = true := by
      intro q hq
      obtain ⟨j, hj, hjq⟩ := List.mem_iff_getElem.1 hq
      exact r.one (hr j q (xs[j]'(by omega)) (by rw [List.getElem?_eq_getElem hj, hjq]) (List.getElem?_eq_getElem (by omega)))
    have hrun := run_copy_row (P := P) w T T ty e g off dn dc ⟨g, so, none⟩ sn sc cur e cs hT.und (by simp [hi', hs']) hh (by rw [hcl, hk])
      (fun j v hj => by
        obtain ⟨h3, h4⟩ := hcs j v hj
        have h5 : cur.toList[so + j]? = some v := by rw [hcur _ (by omega)]; exact h3
        have h6 : (⟨g, so, none⟩ : Addr).add j = ⟨g, so + j, none⟩ := by
          unfold Addr.add
          split
          · next e => subst e; rfl
          · rfl
        rw [h6]
        simp [World.cell?, hh, ← Array.getElem?_toList, h5])
      (by rw [hcl]; omega) (fun v hv => hone v (List.mem_of_mem_drop (List.mem_of_mem_take hv)))
    rw [hcl] at hrun
    have hgr : w.grownBy (w.setRow g (cur.toList.take off ++ cs ++ cur.toList.drop (off + k)).toArray) (some g) :=
      ⟨rfl, rfl, rfl, by simp [World.setRow], fun j _ hne => setRow_other w g j _ (fun e => hne (by rw [e]))⟩
    have hcopy : L.take off ++ cs ++ L.drop (off + k) = copyL L off so k := rfl
    have hnew : (L.take off ++ cs ++ L.drop (off + k)).length = n := by simp [hcl]; omega
    refine Runs.run (P := P) rfl rfl hN ?_ (kk _ ⟨L.take off ++ cs ++ L.drop (off + k), ⟨by rw [hnew]; omega, .inr ⟨g, c, _, by rw [hnew], hlo, setRow_heap w g cur _ e _ hh, by rw [hnew]; exact hnc, hcm, ?_, ?_⟩⟩, hbd, ?_, ?_⟩ hgr (by simp [World.setRow]) hown)
    · simp [execOp, resolve, invoke, builtin, hx, hy, hrun, Result.andThen, goInt]
    · simp [hcl]; omega
    · rw [Nat.mul_one, hcopy, copyL_len _ _ _ _ (by omega) (by omega), hLn]
      have := splice_take (cur := cur.toList) (cs := cs) (n := n) (off := off) (k := k) h1 (by simp; omega) hcl
      rw [Nat.mul_one] at htk
      simp only [htk] at this
      exact this
    · rw [hcopy, show xs.take off ++ (xs.drop so).take k ++ xs.drop (off + k) = copyL xs off so k from rfl, copyL_len _ _ _ _ (by omega) (by omega), copyL_len _ _ _ _ (by omega) (by omega), hl]
    · intro i u x hu hx'
      rw [hcopy, copyL_get _ _ _ _ _ (by omega) (by omega)] at hu
      rw [show xs.take off ++ (xs.drop so).take k ++ xs.drop (off + k) = copyL xs off so k from rfl, copyL_get _ _ _ _ _ (by omega) (by omega)] at hx'
      exact Rep.ch (hr _ _ _ hu hx') hgr fun g hrow _ hS => hS.2 hrow
end rules
end Go.Proofs.YthofgamegondnaaDoor
