/- Reasoning on abstract states: blocks. -/
import Derived.Test.YthofgamegondnaaDoorCd
namespace Go.Proofs.YthofgamegondnaaDoor
open Go.RowKit

/-- Blocks under other numbers: ι tells for each new number the old one. -/
def up1 (ι : List Nat) : AV → AV
  | .rf b lo n m => .rf (ι.getD b 1000000000) lo n m
  | .pt b i off => .pt (ι.getD b 1000000000) i off
  | .yl b => .yl (ι.getD b 1000000000)
  | x => x
def up (ι : List Nat) : AV → AV
  | .ag cs => .ag (cs.map (up1 ι))
  | .tp cs => .tp (cs.map (up1 ι))
  | .fn f p q => .fn f (p.map (up1 ι)) (q.map (up1 ι))
  | x => up1 ι x
def newR (ι : List Nat) (R : List RI) : List RI := ι.map fun b => R.getD b ⟨0, 0, 0⟩

section
variable {w : World} {Z : Nat → Prop} {R : List RI} {ι : List Nat}
theorem newR_get {b : Nat} {r : RI} (hι : ∀ i ∈ ι, i < R.length) (h : R[ι.getD b 1000000000]? = some r) (hb : R.length ≤ 1000000000) : (newR ι R)[b]? = some r := by
  unfold newR
  rw [List.getElem?_map]
  by_cases hl : b < ι.length
  · rw [List.getElem?_eq_getElem hl]
    rw [List.getD_eq_getElem?_getD, List.getElem?_eq_getElem hl] at h
    simp only [Option.map_some, Option.getD_some] at h ⊢
    rw [List.getD_eq_getElem?_getD, h]
    rfl
  · have hn : ι[b]? = none := List.getElem?_eq_none (by omega)
    rw [List.getD_eq_getElem?_getD, hn, Option.getD_none] at h
    have := (List.getElem?_eq_some_iff.1 h).1
    omega
theorem up1_vr (hι : ∀ i ∈ ι, i < R.length) (hb : R.length ≤ 1000000000) {x : AV} {u : Value} (h : VR w Z R (up1 ι x) u) (hag : ∀ cs, x ≠ .ag cs) (htp : ∀ cs, x ≠ .tp cs) (hfn : ∀ f p q, x ≠ .fn f p q) : VR w Z (newR ι R) x u := by
  cases x with
  | v y => cases h with | v h => exact .v h
  | st bs => cases h with | st h hn => exact .st h hn
  | e0 => cases h with | e0 => exact .e0
  | sl k xs => cases h with | sl hn hl hc hm ha hx => exact .sl hn hl hc hm ha hx
  | rf b lo n m => cases h with | rf hr h0 h1 h2 hm => exact .rf (newR_get hι hr hb) h0 h1 h2 hm
  | pt b i off => cases h with | pt hr => exact .pt (newR_get hι hr hb)
  | pe y off => cases h with | pe hs hz h1 hu hx => exact .pe hs hz h1 hu hx
  | yl b => cases h with | yl hr => exact .yl (newR_get hι hr hb)
  | ag cs => exact absurd rfl (hag cs)
  | tp cs => exact absurd rfl (htp cs)
  | fn f p q => exact absurd rfl (hfn f p q)
/-- Values without values inside. -/
def flat1 : AV → Bool
  | .ag _ => false
  | .tp _ => false
  | .fn _ _ _ => false
  | _ => true
def flat2 : AV → Bool
  | .ag cs => cs.all flat1
  | .tp cs => cs.all flat1
  | .fn _ p q => p.all flat1 && q.all flat1
  | _ => true
theorem up1_vr' (hι : ∀ i ∈ ι, i < R.length) (hb : R.length ≤ 1000000000) {x : AV} {u : Value} (h : VR w Z R (up1 ι x) u) (hf : flat1 x = true) : VR w Z (newR ι R) x u :=
  up1_vr hι hb h (fun cs e => by rw [e] at hf; cases hf) (fun cs e => by rw [e] at hf; cases hf) (fun f p q e => by rw [e] at hf; cases hf)
theorem up1s_vr (hι : ∀ i ∈ ι, i < R.length) (hb : R.length ≤ 1000000000) {cs : List AV} {us : List Value} (hf : cs.all flat1 = true) (hx : ∀ (i : Nat) (x : AV) (u : Value), (cs.map (up1 ι))[i]? = some x → us[i]? = some u → VR w Z R x u) : ∀ (i : Nat) (x : AV) (u : Value), cs[i]? = some x → us[i]? = some u → VR w Z (newR ι R) x u :=
  fun i x u hx' hu => up1_vr' hι hb (hx i _ u (by rw [List.getElem?_map, hx']; rfl) hu) (List.all_eq_true.1 hf x (List.mem_of_getElem? hx'))
theorem up_vr (hι : ∀ i ∈ ι, i < R.length) (hb : R.length ≤ 1000000000) {x : AV} {u : Value} (hf : flat2 x = true) (h : VR w Z R (up ι x) u) : VR w Z (newR ι R) x u := by
  cases x with
  | ag cs => cases h with | ag hl h1 hx => exact .ag (by rw [hl, List.length_map]) h1 (up1s_vr hι hb hf hx)
  | tp cs => cases h with | tp hl hx => exact .tp (by rw [hl, List.length_map]) (up1s_vr hι hb hf hx)
  | fn f p q =>
    simp only [flat2, Bool.and_eq_true] at hf
    cases h with | fn hl hl' hx hy => exact .fn (by rw [hl, List.length_map]) (by rw [hl', List.length_map]) (up1s_vr hι hb hf.1 hx) (up1s_vr hι hb hf.2 hy)
  | v y => exact up1_vr' hι hb h rfl
  | st bs => exact up1_vr' hι hb h rfl
  | e0 => exact up1_vr' hι hb h rfl
  | sl k xs => exact up1_vr' hι hb h rfl
  | rf b lo n m => exact up1_vr' hι hb h rfl
  | pt b i off => exact up1_vr' hι hb h rfl
  | pe y off => exact up1_vr' hι hb h rfl
  | yl b => exact up1_vr' hι hb h rfl
end

/-- The new heap, told by the old one. -/
structure RenOk (ι : List Nat) (h h' : Hp) : Prop where
  len : h'.length = ι.length
  lt : ∀ i ∈ ι, i < h.length
  nd : ∀ (i j : Nat) (b : Nat), ι[i]? = some b → ι[j]? = some b → i = j
  blk : ∀ (j : Nat) (B : Blk), h'[j]? = some (some B) → ∃ b, ι[j]? = some b ∧ h[b]? = some (some { B with es := B.es.map (up ι) }) ∧ ∀ x ∈ B.es, flat2 x = true
  big : h.length ≤ 1000000000

theorem Wk.ren {E : Env} {n : Nat} {l l' : List (Nat × AV)} {h h' : Hp} (ι : List Nat) (ho : RenOk ι h h') (hl : ∀ t x, lk l' t = some x → lk l t = some (up ι x) ∧ flat2 x = true) : Wk E ⟨Fr n l, h⟩ ⟨Fr n l', h'⟩ := by
  intro base w Z R a sr
  have hlen := sr.hh.len
  have hlen' : R.length = h.length := hlen
  have hι : ∀ i ∈ ι, i < R.length := fun i hi => by rw [hlen']; exact ho.lt i hi
  have hb : R.length ≤ 1000000000 := by rw [hlen']; exact ho.big
  have hget : ∀ (j b : Nat), ι[j]? = some b → (newR ι R)[j]? = R[b]? := fun j b hj => by
    unfold newR
    rw [List.getElem?_map, hj]
    have hbl : b < R.length := hι b (List.mem_of_getElem? hj)
    rw [Option.map_some, List.getD_eq_getElem?_getD, List.getElem?_eq_getElem hbl]; rfl
  have hown : ∀ c, own (newR ι R) h' c → own R h c := fun c ⟨j, B, r, h1, h2, h3, h4⟩ => by
    obtain ⟨b, k1, k2, _⟩ := ho.blk j B h1
    rw [hget j b k1] at h3
    exact ⟨b, _, r, k2, h2, h3, h4⟩
  refine ⟨Z, newR ι R, ⟨⟨?_, fun j B hB => ?_, fun j j' B B' r r' hB hf hB' hf' h1 h2 e => ?_, sr.hh.zlt⟩, ⟨?_, fun t x hx => ?_⟩, ?_, sr.gl, sr.bs⟩, ⟨rfl, rfl, rfl, Nat.le_refl _, fun _ _ _ => rfl, fun c hc => .inl (hown c hc), fun _ h => h, fun _ h => .inl h⟩⟩
  · rw [ho.len]; simp [newR]
  · obtain ⟨b, k1, k2, k3⟩ := ho.blk j B hB
    obtain ⟨r, arr, us, g1, g2, g3, g4, g5, g6, g7, g8, g9, g10⟩ := sr.hh.blk b _ k2
    refine ⟨r, arr, us, (hget j b k1).trans g1, g2, g3, g4, by simpa using g5, g6, g7, g8, ⟨by have := g9.len; simpa using this, fun i x u hx hu => ?_⟩, g10⟩
    exact up_vr hι hb (k3 x (List.mem_of_getElem? hx)) (g9.at_ i _ u (by simp [hx]) hu)
  · obtain ⟨b, k1, k2, _⟩ := ho.blk j B hB
    obtain ⟨b', k1', k2', _⟩ := ho.blk j' B' hB'
    rw [hget j b k1] at h1
    rw [hget j' b' k1'] at h2
    have := sr.hh.inj b b' _ _ r r' k2 hf k2' hf' h1 h2 e
    subst this
    exact ho.nd j j' b k1 k1'
  · rw [Fr_len]; have := sr.fr.1; rw [Fr_len] at this; exact this
  · rw [Fr_get] at hx
    split at hx
    · next ht =>
      injection hx with hx
      obtain ⟨k1, k2⟩ := hl t x hx
      exact up_vr hι hb k2 (sr.fr.2 t _ (by rw [Fr_get, if_pos ht, k1]))
    · cases hx
  · have : ∀ {D : List Deferred}, Mks base w Z R h D → Mks base w Z (newR ι R) h' D := by
      intro D
      induction D with
      | nil => intro _; trivial
      | cons d D ih => exact fun ⟨⟨r, h1, h2, h3, h4, h5, h6⟩, hD⟩ => ⟨⟨r, h1, h2, h3, h4, fun ho => h5 (hown r ho), h6⟩, ih hD⟩
    exact this sr.mks

theorem up1_noRf {ι : List Nat} {x : AV} (h : noRf x = true) : up1 ι x = x ∧ flat1 x = true := by
  cases x <;> first | exact ⟨rfl, rfl⟩ | (simp [noRf] at h)
theorem up_noRf2 {ι : List Nat} {x : AV} (h : noRf2 x = true) : up ι x = x ∧ flat2 x = true := by
  cases x with
  | ag cs =>
    have hc : ∀ c ∈ cs, up1 ι c = c ∧ flat1 c = true := fun c hc => up1_noRf (List.all_eq_true.1 h c hc)
    refine ⟨?_, List.all_eq_true.2 fun c hc' => (hc c hc').2⟩
    show AV.ag (cs.map (up1 ι)) = _
    congr 1
    conv => rhs; rw [← List.map_id cs]
    exact List.map_congr_left fun c hc' => (hc c hc').1
  | tp cs => simp [noRf2, noRf] at h
  | fn f p q => simp [noRf2, noRf] at h
  | v y => exact ⟨rfl, rfl⟩
  | st bs => exact ⟨rfl, rfl⟩
  | e0 => exact ⟨rfl, rfl⟩
  | sl k xs => exact ⟨rfl, rfl⟩
  | rf b lo n m => simp [noRf2, noRf] at h
  | pt b i off => simp [noRf2, noRf] at h
  | pe y off => exact ⟨rfl, rfl⟩
  | yl b => simp [noRf2, noRf] at h
/-- Blocks whose elements hang on no own block. -/
def HpOk : Hp → Prop
  | [] => True
  | o :: r => (∀ B, o = some B → ∀ x ∈ B.es, noRf2 x = true) ∧ HpOk r
theorem HpOk.at_ : ∀ {h : Hp}, HpOk h → ∀ (j : Nat) (B : Blk), h[j]? = some (some B) → ∀ x ∈ B.es, noRf2 x = true
  | [], _, j, B, hj => by simp at hj
  | o :: r, hk, 0, B, hj => by simp at hj; exact hk.1 B hj
  | o :: r, hk, j + 1, B, hj => hk.2.at_ j B (by simpa using hj)
def ndB : List Nat → Bool
  | [] => true
  | x :: l => !l.contains x && ndB l
theorem ndB_inj : ∀ {l : List Nat}, ndB l = true → ∀ (i j b : Nat), l[i]? = some b → l[j]? = some b → i = j
  | [], _, i, j, b, hi, _ => by simp at hi
  | x :: l, h, i, j, b, hi, hj => by
    simp only [ndB, Bool.and_eq_true, Bool.not_eq_true', List.contains_eq_mem, decide_eq_false_iff_not] at h
    cases i with
    | zero =>
      cases j with
      | zero => rfl
      | succ j => simp at hi hj; subst hi; exact absurd (List.mem_of_getElem? hj) h.1
    | succ i =>
      cases j with
      | zero => simp at hi hj; subst hj; exact absurd (List.mem_of_getElem? hi) h.1
      | succ j => rw [ndB_inj h.2 i j b (by simpa using hi) (by simpa using hj)]
def LkUp (ι : List Nat) (l : List (Nat × AV)) : List (Nat × AV) → Prop
  | [] => True
  | (t, x) :: r => (lk l t = some (up ι x) ∧ flat2 x = true) ∧ LkUp ι l r
theorem LkUp.at_ {ι : List Nat} {l : List (Nat × AV)} : ∀ {l' : List (Nat × AV)}, LkUp ι l l' → ∀ t x, lk l' t = some x → lk l t = some (up ι x) ∧ flat2 x = true
  | [], _, t, x, h => by cases h
  | (k, y) :: r, hk, t, x, h => by
    rw [lk_put] at h
    split at h
    · next e => injection h with h; subst e h; exact hk.1
    · exact hk.2.at_ t x h
/-- Only the blocks of ι stay, under new numbers. -/
theorem Wk.sel {E : Env} {n : Nat} {l l' : List (Nat × AV)} {h h' : Hp} (ι : List Nat) (he : h' = ι.map fun b => (h[b]?).getD none) (hlt : (ι.all fun b => Nat.blt b h.length) = true) (hnd : ndB ι = true) (hbig : Nat.ble h.length 1000000000 = true) (hk : HpOk h') (hl : LkUp ι l l') : Wk E ⟨Fr n l, h⟩ ⟨Fr n l', h'⟩ := by
  refine Wk.ren ι ⟨by rw [he, List.length_map], fun i hi => ?_, ndB_inj hnd, fun j B hB => ?_, Nat.le_of_ble_eq_true hbig⟩ hl.at_
  · have := List.all_eq_true.1 hlt i hi
    exact Nat.le_of_ble_eq_true this
  · have hB' := hB
    rw [he, List.getElem?_map] at hB
    obtain ⟨b, hb, hB⟩ := Option.map_eq_some_iff.1 hB
    have hx := hk.at_ j B hB'
    have hes : B.es.map (up ι) = B.es := by
      conv => rhs; rw [← List.map_id B.es]
      exact List.map_congr_left fun c hc => (up_noRf2 (hx c hc)).1
    refine ⟨b, hb, ?_, fun x hx' => (up_noRf2 (ι := ι) (hx x hx')).2⟩
    cases hq : h[b]? with
    | none => rw [hq] at hB; cases hB
    | some o => rw [hq] at hB; simp at hB; subst hB; rw [hes]

/-- A slice that grows: nil as long as it is empty. -/
def hd (b : Nat) (es : List AV) : AV := match es with
  | [] => .e0
  | _ :: _ => .rf b 0 es.length es.length
def mk (k : Nat) (t : TypeId) (es : List AV) : Option Blk := match es with
  | [] => none
  | _ :: _ => some ⟨k, t, es, false⟩
theorem up_hd {ι : List Nat} {b : Nat} {es : List AV} : up ι (hd b es) = hd (ι.getD b 1000000000) es ∧ flat2 (hd b es) = true := by
  cases es <;> exact ⟨rfl, rfl⟩
theorem mk_ok {k : Nat} {t : TypeId} {es : List AV} (h : ∀ x ∈ es, noRf2 x = true) : ∀ B, mk k t es = some B → ∀ x ∈ B.es, noRf2 x = true := fun B hB => by
  cases es with
  | nil => cases hB
  | cons x es => injection hB with hB; subst hB; exact h
theorem enc_ok {α : Type} {c : Cd α} {xs : List α} : ∀ x ∈ xs.map c.enc, noRf2 x = true := fun x hx => by
  obtain ⟨y, _, rfl⟩ := List.mem_map.1 hx
  exact c.nr y
theorem append_hd {P : Program} {h : Hp} {t t2 el : TypeId} {k b : Nat} {i : TypeInfo} {z y : AV} {es ys : List AV} (hs : srcOk P t2 y = true) (ht : tyElem P t = some el) (hi : P.info? el = some i) (hz : tyZero P el = some z) (hk : i.size = k) (h0 : 0 < k) (hzn : z.nc = k) (hzt : z.notTp = true)
    (he : elems h k y = some ys) (hy : ys ≠ []) (hb : h[b]? = some (mk k el es)) (hc : (es.length + ys.length) * i.bytes ≤ 140737488355328) (hc2 : es.length + ys.length ≤ 140737488355328) :
    evAppend P h t t2 (hd b es) y = some (hd h.length (es ++ ys), h.set b none ++ [mk k el (es ++ ys)]) := by
  obtain ⟨q, ys', rfl⟩ : ∃ q ys', ys = q :: ys' := by cases ys with | nil => exact absurd rfl hy | cons q ys' => exact ⟨q, ys', rfl⟩
  unfold evAppend
  rw [if_neg (by rw [hs]; simp), ht]
  simp only [hi, hz, hk, he, List.isEmpty_cons, Bool.false_eq_true, if_false]
  rw [if_pos ⟨h0, hzn, hzt⟩]
  cases es with
  | nil =>
    have hset : h.set b none = h := by
      apply List.ext_getElem?
      intro j
      rw [List.getElem?_set]
      split
      · next e =>
        subst e
        have hbl : b < h.length := (List.getElem?_eq_some_iff.1 hb).1
        rw [if_pos hbl]
        exact hb.symm
      · rfl
    simp only [hd, List.nil_append]
    rw [hset]
    simp only [List.length_nil, Nat.zero_add] at hc hc2
    rw [if_pos ⟨hc, hc2⟩]
    rfl
  | cons x es =>
    simp only [hd, hb, mk]
    rw [if_neg (by simp)]
    rw [if_neg (by simp)]
    rw [if_pos ⟨trivial, trivial, hc, hc2⟩]
    simp only [List.cons_append, List.length_append, List.length_cons]
    have e3 : es.length + 1 + (ys'.length + 1) = es.length + (ys'.length + 1) + 1 := by omega
    rw [e3]

/-- A block is written no more: what was a slice of it is a slice that nobody writes. -/
theorem frz_vr {w : World} {Z : Nat → Prop} {R : List RI} {h : Hp} (hh : HR w Z R h) {b : Nat} {B : Blk} (hB : h[b]? = some (some B)) (hn : ∀ x ∈ B.es, noRf2 x = true) {r : RI} (hr : R[b]? = some r) {lo n m : Nat} (hle : lo + n ≤ B.es.length) {u : Value} (hv : VR w Z R (.rf b lo n m) u) : VR w (fun c => Z c ∨ c = r.c) R (.sl B.k ((B.es.drop lo).take n)) u := by
  obtain ⟨r', arr, us, g1, g2, g3, g4, g5, g6, g7, g8, g9, g10⟩ := hh.blk b B hB
  rw [hr] at g1
  injection g1 with g1
  subst g1
  cases hv with
  | rf hr' q0 q1 q2 q3 =>
    rename_i c r'
    rw [hr] at hr'
    injection hr' with hr'
    subst hr'
    have hvs := (g9.drop lo).take n
    refine .sl (us := (us.drop lo).take n) (by simp; omega) hvs.len (by omega) (by omega) (fun _ => ⟨⟨r.c, lo * r.k, none⟩, rfl, rfl, .inr rfl, fun i u hu => ?_⟩) (fun i x u hx hu => ?_)
    · have hi : i < n := by have := (List.getElem?_eq_some_iff.1 hu).1; rw [List.length_take] at this; omega
      rw [List.getElem?_take_of_lt hi, List.getElem?_drop] at hu
      obtain ⟨k1, k2, k3⟩ := g10 _ _ hu
      refine ⟨k1, k2, fun j q hq => ?_⟩
      have := k3 j q hq
      rw [Nat.add_mul] at this
      rw [show lo * r.k + (i * B.k + j) = lo * B.k + i * B.k + j by rw [g2]; omega]
      simp [World.cell?, g3, this]
    · have hxm : x ∈ B.es := List.mem_of_mem_drop (List.mem_of_mem_take (List.mem_of_getElem? hx))
      exact (noRf2_vr (hn x hxm) (hvs.at_ i x u hx hu)).mono (fun _ _ => rfl) (fun _ h => .inl h) (fun _ _ h => h)
theorem Wk.frz {E : Env} {n : Nat} {l l' : List (Nat × AV)} {h : Hp} {b : Nat} {B : Blk} (hB : h[b]? = some (some B)) (hf : B.fz = false) (hn : ∀ x ∈ B.es, noRf2 x = true)
    (hl : ∀ t x', lk l' t = some x' → lk l t = some x' ∨ ∃ lo n m, lk l t = some (.rf b lo n m) ∧ x' = .sl B.k ((B.es.drop lo).take n) ∧ lo + n ≤ B.es.length) : Wk E ⟨Fr n l, h⟩ ⟨Fr n l', h.set b none⟩ := by
  intro base w Z R a sr
  obtain ⟨r, arr, us, g1, g2, g3, g4, g5, g6, g7, g8, g9, g10⟩ := sr.hh.blk b B hB
  have hbo : own R h r.c := ⟨b, B, r, hB, hf, g1, rfl⟩
  obtain ⟨k1, k2⟩ := sr.hh.kill b
  have hget : ∀ (b' : Nat) (B' : Blk), (h.set b none)[b']? = some (some B') → b' ≠ b ∧ h[b']? = some (some B') := fun b' B' hB' => by
    rw [List.getElem?_set] at hB'
    split at hB'
    · split at hB' <;> cases hB'
    · next hne => exact ⟨fun e => hne e.symm, hB'⟩
  have up' : ∀ {x : AV} {u : Value}, VR w Z R x u → VR w (fun c => Z c ∨ c = r.c) R x u := fun hv => hv.mono (fun _ _ => rfl) (fun _ h => .inl h) (fun _ _ h => h)
  refine ⟨fun c => Z c ∨ c = r.c, R, ⟨⟨k1.len, fun b' B' hB' => ?_, k1.inj, fun c hc => hc.elim (sr.hh.zlt c) (fun e => e ▸ sr.hh.rltL hB g1)⟩, ⟨?_, fun t x hx => ?_⟩, ?_, fun g x hx => (sr.gl g x hx).mono (fun _ _ => rfl) (fun _ h => .inl h) (fun _ _ h => h), sr.bs⟩, ⟨rfl, rfl, rfl, Nat.le_refl _, fun _ _ _ => rfl, k2.own_, fun _ h => .inl h, fun c hc => hc.elim .inl (fun e => .inr (.inl (e ▸ hbo)))⟩⟩
  · obtain ⟨hne, hB0⟩ := hget b' B' hB'
    obtain ⟨r', arr', us', q1, q2, q3, q4, q5, q6, q7, q8, q9, q10⟩ := sr.hh.blk b' B' hB0
    refine ⟨r', arr', us', q1, q2, q3, q4, q5, q6, fun hfz => .inl (q7 hfz), fun hfz hc => hc.elim (q8 hfz) fun e => hne (sr.hh.inj b' b B' B r' r hB0 hfz hB hf q1 g1 e), ⟨q9.len, fun i x u hx hu => up' (q9.at_ i x u hx hu)⟩, q10⟩
  · rw [Fr_len]; have := sr.fr.1; rw [Fr_len] at this; exact this
  · rw [Fr_get] at hx
    split at hx
    · next ht =>
      injection hx with hx
      rcases hl t x hx with h1 | ⟨lo, n', m, h1, rfl, h2⟩
      · exact up' (sr.fr.2 t x (by rw [Fr_get, if_pos ht, h1]))
      · exact frz_vr sr.hh hB hn g1 h2 (sr.fr.2 t _ (by rw [Fr_get, if_pos ht, h1]))
    · cases hx
  · have : ∀ {D : List Deferred}, Mks base w Z R h D → Mks base w (fun c => Z c ∨ c = r.c) R (h.set b none) D := by
      intro D
      induction D with
      | nil => intro _; trivial
      | cons d D ih =>
        exact fun ⟨⟨q, h1, h2, h3, h4, h5, h6⟩, hD⟩ => ⟨⟨q, h1, h2, h3, fun hc => hc.elim h4 (fun e => h5 (e ▸ hbo)), fun ho => (k2.own_ q ho).elim h5 (fun hlt => by have := heapLt h3; omega), h6⟩, ih hD⟩
    exact this sr.mks
/-- Slots that stay, and slots of the block that is frozen. -/
def LkFr (b k : Nat) (es : List AV) (l : List (Nat × AV)) : List (Nat × AV) → Prop
  | [] => True
  | (t, x) :: r => (lk l t = some x ∨ (lk l t = some (hd b es) ∧ x = .sl k es)) ∧ LkFr b k es l r
theorem LkFr.at_ {b k : Nat} {es : List AV} {l : List (Nat × AV)} : ∀ {l' : List (Nat × AV)}, LkFr b k es l l' → ∀ t x, lk l' t = some x → lk l t = some x ∨ (lk l t = some (hd b es) ∧ x = .sl k es)
  | [], _, t, x, h => by cases h
  | (q, y) :: r, hk, t, x, h => by
    rw [lk_put] at h
    split at h
    · next e => injection h with h; subst e h; exact hk.1
    · exact hk.2.at_ t x h
theorem Wk.frzHd {E : Env} {n : Nat} {l l' : List (Nat × AV)} {h h' : Hp} {b k : Nat} {t : TypeId} {es : List AV} (hb : h[b]? = some (mk k t es)) (hh : h' = h.set b none) (hn : ∀ x ∈ es, noRf2 x = true) (hl : LkFr b k es l l') : Wk E ⟨Fr n l, h⟩ ⟨Fr n l', h'⟩ := by
  subst hh
  cases es with
  | nil =>
    have hset : h.set b none = h := by
      apply List.ext_getElem?
      intro j
      rw [List.getElem?_set]
      split
      · next e =>
        subst e
        have hbl : b < h.length := (List.getElem?_eq_some_iff.1 hb).1
        rw [if_pos hbl]
        exact hb.symm
      · rfl
    rw [hset]
    intro base w Z R a sr
    refine ⟨Z, R, ⟨sr.hh, ⟨?_, fun t x hx => ?_⟩, sr.mks, sr.gl, sr.bs⟩, StepW.refl _ _ _ _⟩
    · rw [Fr_len]; have := sr.fr.1; rw [Fr_len] at this; exact this
    · rw [Fr_get] at hx
      split at hx
      · next ht =>
        injection hx with hx
        rcases hl.at_ t x hx with h1 | ⟨h1, rfl⟩
        · exact sr.fr.2 t x (by rw [Fr_get, if_pos ht, h1])
        · have hv := sr.fr.2 t .e0 (by rw [Fr_get, if_pos ht, h1]; rfl)
          revert hv
          generalize a.tmps.getD t undef = u
          intro hv
          cases hv
          exact .sl (us := []) rfl rfl (Nat.le_refl _) (by unfold maxLen; omega) (fun h => by omega) (fun i x u hx => by simp at hx)
      · cases hx
  | cons y es =>
    refine Wk.frz (B := ⟨k, t, y :: es, false⟩) hb rfl hn fun t x hx => ?_
    rcases hl.at_ t x hx with h1 | ⟨h1, rfl⟩
    · exact .inl h1
    · exact .inr ⟨0, (y :: es).length, (y :: es).length, h1, by simp, by simp⟩
/-- Room for a slice that has no block yet. -/
theorem Wk.none {E : Env} {fr : List (Option AV)} {h : Hp} : Wk E ⟨fr, h⟩ ⟨fr, h ++ [Option.none]⟩ := by
  intro base w Z R a sr
  obtain ⟨k1, k2, k3, k4⟩ := sr.hh.dead (r := ⟨0, 0, 0⟩)
  refine ⟨Z, R ++ [⟨0, 0, 0⟩], ⟨k1, ⟨sr.fr.1, fun t x hx => (sr.fr.2 t x hx).mono (fun _ _ => rfl) (fun _ h => h) k2.r⟩, ?_, sr.gl, sr.bs⟩, k2.w⟩
  have : ∀ {D : List Deferred}, Mks base w Z R h D → Mks base w Z (R ++ [⟨0, 0, 0⟩]) (h ++ [Option.none]) D := by
    intro D
    induction D with
    | nil => intro _; trivial
    | cons d D ih => exact fun ⟨⟨q, h1, h2, h3, h4, h5, h6⟩, hD⟩ => ⟨⟨q, h1, h2, h3, h4, fun ho => h5 (k4 q ho), h6⟩, ih hD⟩
  exact this sr.mks
/-- Room for so many elements? -/
def capOk (bytes n : Nat) : Bool := Nat.ble (n * bytes) 140737488355328 && Nat.ble n 140737488355328
theorem capOk_inv {bytes n : Nat} (h : capOk bytes n = true) : n * bytes ≤ 140737488355328 ∧ n ≤ 140737488355328 := by
  simp only [capOk, Bool.and_eq_true] at h
  exact ⟨Nat.le_of_ble_eq_true h.1, Nat.le_of_ble_eq_true h.2⟩
theorem append_T {α : Type} {c : Cd α} {xs vs : List α} {P : Program} {h : Hp} {t t2 el : TypeId} {k b : Nat} {i : TypeInfo} {z y : AV} (hs : srcOk P t2 y = true) (ht : tyElem P t = some el) (hi : P.info? el = some i) (hz : tyZero P el = some z) (hk : i.size = k) (h0 : Nat.blt 0 k = true) (hzn : z.nc = k) (hzt : z.notTp = true)
    (he : elems h k y = some (vs.map c.enc)) (hy : vs ≠ []) (hb : h[b]? = some (mk k el (xs.map c.enc))) {bytes : Nat} (hib : i.bytes = bytes) (hc : capOk bytes (xs.length + vs.length) = true) :
    evAppend P h t t2 (hd b (xs.map c.enc)) y = some (hd h.length ((xs ++ vs).map c.enc), h.set b none ++ [mk k el ((xs ++ vs).map c.enc)]) := by
  obtain ⟨h1, h2⟩ := capOk_inv hc
  rw [List.map_append]
  exact append_hd hs ht hi hz hk (Nat.le_of_ble_eq_true h0) hzn hzt he (by intro e; exact hy (List.map_eq_nil_iff.1 e)) hb (by rw [List.length_map, List.length_map, hib]; exact h1) (by rw [List.length_map, List.length_map]; exact h2)
section
variable {P : Program} {h : Hp} {ρ : Operand → Option AV}
theorem w_append {t t2 : TypeId} {x y : Operand} {a b : AV} {r : AV × Hp} (hx : ρ x = some a) (hy : ρ y = some b) (he : evAppend P h t t2 a b = some r) : evOpW P ρ h (.call ⟨.builtin .append, #[x, y], #[t, t2]⟩) = some r := by
  show (match opds ρ [x, y], [t, t2] with | some [x, y], [t, t2] => evAppend P h t t2 x y | _, _ => none) = some r
  simp only [opds, hx, hy]
  exact he
theorem len_hd {t el : TypeId} {b : Nat} {es : List AV} (hu : P.underlying t = some (.slice el)) : evLen P t (hd b es) = some (eI es.length) := by
  cases es <;> simp [hd, evLen, hu, eI]
end
/-- One operation that writes. -/
theorem Runs'.w {E : Env} {cx : Cx} {ops : Array Oper} {rest rest' : List Oper} {K : St → Prop} {n : Nat} {l : List (Nat × AV)} {hp hp' : Hp} {o : Oper} {x : AV} {d : Nat} (hr : rest = o :: rest') (hw : wantedA ops (Fr n l) o = some true) (hd : o.dst = some d) (hq : evOpQ E.P (opA E (Fr n l)) hp o.op = none) (hn : evOpN E.P (opA E (Fr n l)) hp o.op = none)
    (h : evOpW E.P (opA E (Fr n l)) hp o.op = some (x, hp')) (k : Runs' E cx ops rest' ⟨Fr n ((d, x) :: l), hp'⟩ K) : Runs' E cx ops rest ⟨Fr n l, hp⟩ K := by
  obtain ⟨s', h1, h2⟩ := k
  refine ⟨s', ?_, h2⟩
  subst hr
  unfold opsA
  simp only [hw]
  unfold op1
  simp only [hq, hn, h, hd, putA_Fr]
  exact h1
end Go.Proofs.YthofgamegondnaaDoor
