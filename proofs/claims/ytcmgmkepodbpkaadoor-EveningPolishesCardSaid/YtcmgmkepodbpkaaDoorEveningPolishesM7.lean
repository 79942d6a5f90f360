/- Polishing makes the exchanges that the document says, for every schedule and every number of rounds; the schedule that is handed over stays as it was. -/
import Derived.Test.YtcmgmkepodbpkaaDoorEveningPolishesM1
import Derived.Test.YtcmgmkepodbpkaaDoorEveningPolishesM2
import Derived.Test.YtcmgmkepodbpkaaDoorEveningPolishesM3
import Derived.Test.YtcmgmkepodbpkaaDoorEveningPolishesM4
import Derived.Test.YtcmgmkepodbpkaaDoorEveningPolishesM5
import Derived.Test.YtcmgmkepodbpkaaDoorEveningPolishesM6
namespace Go.Proofs.YtcmgmkepodbpkaaDoor
open Go.RowKit
/-- Do two sit at one table? -/
def togB (x y : Nat) (ev : List (List Nat)) : Bool := ev.any fun t => decide (x ∈ t) && decide (y ∈ t)
def gdB (n : Nat) (s : List (List (List Nat))) (e x y : Nat) : Bool := !togB x y (s.getD e []) && decide (sqM n (exS s e x y) < sqM n s)
/-- The first exchange that makes the strain less: with y, x, e from somewhere on. -/
def fy (n : Nat) (s : List (List (List Nat))) (e x : Nat) : Nat → Nat → Option (List (List (List Nat)))
 | 0, _ => none
 | k + 1, y => if gdB n s e x y = true then some (exS s e x y) else fy n s e x k (y + 1)
def fx (n : Nat) (s : List (List (List Nat))) (e : Nat) : Nat → Nat → Option (List (List (List Nat)))
 | 0, _ => none
 | k + 1, x => match fy n s e x k (x + 1) with
  | some s' => some s'
  | none => fx n s e k (x + 1)
def fe (n : Nat) (s : List (List (List Nat))) : Nat → Nat → Option (List (List (List Nat)))
 | 0, _ => none
 | k + 1, e => match fx n s e n 0 with
  | some s' => some s'
  | none => fe n s k (e + 1)
section
variable {n : Nat} {s : List (List (List Nat))}
theorem fy_some {e x : Nat} {s' : List (List (List Nat))} : ∀ (k y : Nat), fy n s e x k y = some s' → ∃ y', y ≤ y' ∧ y' < y + k ∧ gdB n s e x y' = true ∧ s' = exS s e x y'
 | 0, _, h => by cases h
 | k + 1, y, h => by
  unfold fy at h
  split at h
  ·next hg => injection h with h; exact ⟨y, by omega, by omega, hg, h.symm⟩
  ·obtain ⟨y', h1, h2, h3⟩ := fy_some k (y + 1) h
   exact ⟨y', by omega, by omega, h3⟩
theorem fx_some {e : Nat} {s' : List (List (List Nat))} : ∀ (k x : Nat), fx n s e k x = some s' → ∃ x' y', x ≤ x' ∧ x' < y' ∧ y' < x + k ∧ gdB n s e x' y' = true ∧ s' = exS s e x' y'
 | 0, _, h => by cases h
 | k + 1, x, h => by
  unfold fx at h
  split at h
  ·next s1 hs =>
   injection h with h
   subst h
   obtain ⟨y', h1, h2, h3⟩ := fy_some k (x + 1) hs
   exact ⟨x, y', by omega, by omega, by omega, h3⟩
  ·obtain ⟨x', y', h1, h2, h3, h4⟩ := fx_some k (x + 1) h
   exact ⟨x', y', by omega, h2, by omega, h4⟩
theorem fe_some {s' : List (List (List Nat))} : ∀ (k e : Nat), fe n s k e = some s' → ∃ e' x' y', e' < e + k ∧ x' < y' ∧ y' < n ∧ gdB n s e' x' y' = true ∧ s' = exS s e' x' y'
 | 0, _, h => by cases h
 | k + 1, e, h => by
  unfold fe at h
  split at h
  ·next s1 hs =>
   injection h with h
   subst h
   obtain ⟨x', y', h1, h2, h3, h4⟩ := fx_some n 0 hs
   exact ⟨e, x', y', by omega, h2, by omega, h4⟩
  ·obtain ⟨e', x', y', h1, h2⟩ := fe_some k (e + 1) h
   exact ⟨e', x', y', by omega, h2⟩
theorem exS_evv (hv : ∀ ev ∈ s, EvV n ev) {e x y : Nat} (he : e < s.length) (hx : x < n) (hy : y < n) : (∀ ev ∈ exS s e x y, EvV n ev) ∧ (exS s e x y).length = s.length := by
 refine ⟨fun ev h => ?_, by simp [exS]⟩
 unfold exS at h
 rcases List.mem_or_eq_of_mem_set h with h | h
 ·exact hv ev h
 ·rw [h, List.getD_eq_getElem?_getD, List.getElem?_eq_getElem he]
  exact exE_evv (hv _ (List.getElem_mem he)) hx hy
theorem vs_of (n1 : 1 ≤ n) (n64 : n ≤ 64) (hs : s.length ≤ 64) (hv : ∀ ev ∈ s, EvV n ev) : VS n s := by
 refine ⟨n1, n64, hs, hv, ⟨by rw [toI3_len]; omega, fun ev he => ?_⟩, ?_⟩
 ·obtain ⟨u, hu, rfl⟩ := List.mem_map.1 he
  have h := hv u hu
  refine ⟨by rw [toI2_len]; have := h.elen; omega, fun t ht => ?_⟩
  obtain ⟨w, hw, rfl⟩ := List.mem_map.1 ht
  rw [toI1_len]; have := h.tlen hw; omega
 ·have hl : ∀ ev ∈ toI3 s, ev.length ≤ 50000 ∧ ev.flatten.length ≤ 50000 := fun ev he => by
   obtain ⟨u, hu, rfl⟩ := List.mem_map.1 he
   have h := hv u hu
   have := h.elen
   have := h.flen
   rw [toI2_len, toI2_flat, toI1_len]
   omega
  have c2 := (check_both n ⟨by omega, by omega⟩ [] (by simp) (toI3 s) (by rw [toI3_len]; omega) hl).1
  rw [chkAll_evv n1 n64 hs hv] at c2
  unfold evening_valid
  rw [c2]
  rfl
theorem mt_bd (hv : ∀ ev ∈ s, EvV n ev) (hs : s.length ≤ 64) : Bdd (celM n (meetS n s)) 64 := fun c => by
 rcases Nat.lt_or_ge c (n * n) with hc | hc
 ·rw [celM_getD _ hc]
  have hn : 0 < n := by
   rcases Nat.eq_zero_or_pos n with e | e
   ·subst e; simp at hc
   ·exact e
  have e1 : c = c / n * n + c % n := by rw [Nat.mul_comm]; exact (Nat.div_add_mod c n).symm
  have h1 := Nat.div_lt_of_lt_mul hc
  have h2 := Nat.mod_lt c hn
  have key : (meetS n s).count c ≤ 64 := by
   rw [e1]
   by_cases e : c / n = c % n
   ·rw [← e, vS_diag _ h1 s hv]; omega
   ·rw [meetS_count n _ _ h2 e s fun ev he => (hv ev he).lt]
    have := pS_le (x := c / n) (y := c % n) s hv
    omega
  omega
 ·rw [List.getD_eq_getElem?_getD, List.getElem?_eq_none (by rw [celM_len]; exact hc)]; simp
theorem shL_bd {x y : Nat} : ∀ (t : List Nat) (m : List Int) (B : Int), Bdd m B → 0 ≤ B → Bdd (shL n x y m t) (B + 4 * (t.length : Int))
 | [], m, B, h, _ => fun c => by have := h c; simpa [shL] using this
 | z :: t, m, B, h, h0 => by
  have := shL_bd (x := x) (y := y) t (shSt n x y m z) (B + 4) (shSt_bd h h0 z) (by omega)
  have e : B + 4 + 4 * (t.length : Int) = B + 4 * (((z :: t).length : Nat) : Int) := by simp; omega
  rw [e] at this
  exact this
theorem toI2_set (ev : List (List Nat)) (i : Nat) (t : List Nat) : (toI2 ev).set i (toI1 t) = toI2 (ev.set i t) := by simp [toI2, List.map_set]
theorem toI1_set (t : List Nat) (i x : Nat) : (toI1 t).set i (x : Int) = toI1 (t.set i x) := by simp [toI1, List.map_set]
theorem toI3_set (s : List (List (List Nat))) (i : Nat) (ev : List (List Nat)) : (toI3 s).set i (toI2 ev) = toI3 (s.set i ev) := by simp [toI3, List.map_set]
theorem idx_I1 {t : List Nat} {k x : Nat} (h : t[k]? = some x) : idx (toI1 t) (k : Int) = some (x : Int) := by
 have hk := (List.getElem?_eq_some_iff.1 h).1
 rw [idx_lt (by simp [toI1]; exact hk)]
 have := (List.getElem?_eq_some_iff.1 h).2
 simp [toI1, this]
theorem idx_I2 {ev : List (List Nat)} {k : Nat} {t : List Nat} (h : ev[k]? = some t) : idx (toI2 ev) (k : Int) = some (toI1 t) := by
 have hk := (List.getElem?_eq_some_iff.1 h).1
 rw [idx_lt (by simp [toI2]; exact hk)]
 have := (List.getElem?_eq_some_iff.1 h).2
 simp [toI2, this]
theorem idx_I3 {s : List (List (List Nat))} {k : Nat} {ev : List (List Nat)} (h : s[k]? = some ev) : idx (toI3 s) (k : Int) = some (toI2 ev) := by
 have hk := (List.getElem?_eq_some_iff.1 h).1
 rw [idx_lt (by simp [toI3]; exact hk)]
 have := (List.getElem?_eq_some_iff.1 h).2
 simp [toI3, this]
theorem idx_P {r : List (Int × Int)} {k : Nat} {v : Int × Int} (h : r[k]? = some v) : idx r (k : Int) = some v := by
 have hk := (List.getElem?_eq_some_iff.1 h).1
 rw [idx_lt hk, (List.getElem?_eq_some_iff.1 h).2]
/-- What the search hands on, own. -/
def outO (n : Nat) : Option (List (List (List Nat))) → Unit ⊕ (List (List (List Int)) × List Int)
 | none => .inl ()
 | some s' => .inr (toI3 s', celM n (meetS n s'))
theorem own_5 (hv : ∀ ev ∈ s, EvV n ev) (hn : n ≤ 64) (hs : s.length ≤ 64) {e : Nat} {ev : List (List Nat)} (hev : s[e]? = some ev) {r : List (Int × Int)} (hr : Seats ev r) {x : Nat} (hx : x < n) : ∀ (k y f : Nat), y + k = n → x < y → k < f →
  evening_exchange_d_5 n (toI3 s) n (celM n (meetS n s)) e (toI2 ev) r x f y = some (outO n (fy n s e x k y))
 | 0, y, f + 1, h, _, _ => by
  unfold evening_exchange_d_5
  rw [if_neg (by simp; omega)]; rfl
 | k + 1, y, f + 1, h, hxy, hf => by
  have ih := own_5 hv hn hs hev hr hx k (y + 1) f (by omega) (by omega) (by omega)
  have he : EvV n ev := hv ev (List.mem_of_getElem? hev)
  have hy : y < n := by omega
  obtain ⟨i, a, T, hT, ha⟩ := he.seat hx
  obtain ⟨j, b, U, hU, hb⟩ := he.seat hy
  have hTm := List.mem_of_getElem? hT
  have hUm := List.mem_of_getElem? hU
  have hxT := List.mem_of_getElem? ha
  have hyU := List.mem_of_getElem? hb
  have r1 := idx_P (hr i a x T hT ha)
  have r2 := idx_P (hr j b y U hU hb)
  have bd := mt_bd hv hs
  have hml := celM_len n (meetS n s)
  have hgd : s.getD e [] = ev := by rw [List.getD_eq_getElem?_getD, hev]; rfl
  unfold evening_exchange_d_5
  rw [if_pos (by simp; omega), r1]
  simp only [Option.bind_some]
  rw [r2]
  simp only [Option.bind_some]
  by_cases hij : i = j
  ·have ht : togB x y ev = true := by
    subst hij
    rw [hT] at hU
    injection hU with hU
    subst hU
    exact List.any_eq_true.2 ⟨T, hTm, by simp [hxT, hyU]⟩
   have hg : gdB n s e x y = false := by unfold gdB; rw [hgd, ht]; rfl
   rw [if_pos (by simp [hij])]
   simp only [Option.bind_some, if_true]
   rw [wr_i (by omega) (by omega), show ((y : Int) + 1) = ((y + 1 : Nat) : Int) by simp, ih]
   conv => rhs; unfold fy
   rw [hg]; rfl
  ·have ht : togB x y ev = false := by
    cases hq : togB x y ev with
    | false => rfl
    | true =>
     obtain ⟨t, htm, hc⟩ := List.any_eq_true.1 hq
     simp only [Bool.and_eq_true, decide_eq_true_eq] at hc
     obtain ⟨q, hq⟩ := List.mem_iff_getElem?.1 htm
     exact (hij ((he.uq hn hT hq hxT hc.1).symm.trans (he.uq hn hU hq hyU hc.2))).elim
   have hgn := gain_eq hn hml bd ⟨by omega, by omega⟩ hx hy hT hU (by have := he.tlen hTm; omega) (by have := he.tlen hUm; omega) (he.ltn hTm) (he.ltn hUm)
   obtain ⟨x1, x2⟩ := ex_all hv hn hev hT hU hxT hyU hij
   rw [if_neg (by simp; omega)]
   rw [hgn]
   simp only [Option.bind_some]
   by_cases hg0 : gnT n x y (celM n (meetS n s)) T + gnT n y x (celM n (meetS n s)) U ≤ 0
   ·have hg : gdB n s e x y = false := by
     unfold gdB
     rw [decide_eq_false (by omega), Bool.and_false]
    rw [decide_eq_true hg0]
    simp only [if_true]
    rw [wr_i (by omega) (by omega), show ((y : Int) + 1) = ((y + 1 : Nat) : Int) by simp, ih]
    conv => rhs; unfold fy
    rw [hg]; rfl
   ·have hg : gdB n s e x y = true := by
     unfold gdB
     rw [hgd, ht, decide_eq_true (by omega)]; rfl
    rw [decide_eq_false hg0]
    simp only [Bool.false_eq_true, if_false]
    rw [idx_I2 hT]
    simp only [Option.bind_some]
    rw [shift_eq hn hx hy T (by have := he.tlen hTm; omega) (he.ltn hTm) _ hml bd (by omega) (by omega)]
    simp only [Option.bind_some]
    rw [idx_I2 hU]
    simp only [Option.bind_some]
    have hTl := he.tlen hTm
    rw [shift_eq hn hy hx U (by have := he.tlen hUm; omega) (he.ltn hUm) _ (by rw [shL_len]; exact hml) (shL_bd (n := n) (x := x) (y := y) T _ 64 bd (by omega)) (by omega) (by omega)]
    simp only [Option.bind_some]
    rw [idx_I1 ha]
    simp only [Option.bind_some, Int.toNat_natCast]
    rw [toI1_set, toI2_set, idx_I2 (ev := ev.set i (T.set a y)) (k := j) (t := U) (by rw [List.getElem?_set, if_neg hij]; exact hU)]
    simp only [Option.bind_some]
    rw [idx_I1 hb]
    simp only [Option.bind_some, Int.toNat_natCast]
    rw [toI1_set, toI2_set, toI3_set, ← exE_set hr hT ha hU hb hij, x2]
    conv => rhs; unfold fy
    rw [if_pos hg]
    show some (Sum.inr _) = some (Sum.inr _)
    unfold exS
    rw [hgd]
theorem own_4 (hv : ∀ ev ∈ s, EvV n ev) (hn : n ≤ 64) (hs : s.length ≤ 64) {e : Nat} {ev : List (List Nat)} (hev : s[e]? = some ev) {r : List (Int × Int)} (hr : Seats ev r) : ∀ (k x f : Nat), x + k = n → k < f →
  evening_exchange_d_4 n (toI3 s) n (celM n (meetS n s)) e (toI2 ev) r f x = some (outO n (fx n s e k x))
 | 0, x, f + 1, h, _ => by
  unfold evening_exchange_d_4
  rw [if_neg (by simp; omega)]; rfl
 | k + 1, x, f + 1, h, hf => by
  have ih := own_4 hv hn hs hev hr k (x + 1) f (by omega) (by omega)
  have h5 := own_5 hv hn hs hev hr (x := x) (by omega) k (x + 1) 100000 (by omega) (by omega) (by omega)
  unfold evening_exchange_d_4
  rw [if_pos (by simp; omega), wr_i (by omega) (by omega), show ((x : Int) + 1) = ((x + 1 : Nat) : Int) by simp, h5]
  simp only [Option.bind_some]
  conv => rhs; unfold fx
  cases fy n s e x k (x + 1) with
  | none => exact ih
  | some s' => rfl
theorem own_1 (hv : ∀ ev ∈ s, EvV n ev) (n1 : 1 ≤ n) (hn : n ≤ 64) (hs : s.length ≤ 64) : ∀ (k e f : Nat), e + k = s.length → k < f →
  evening_exchange_d_1 n (toI3 s) n (celM n (meetS n s)) f e = some (outO n (fe n s k e))
 | 0, e, f + 1, h, _ => by
  unfold evening_exchange_d_1
  rw [if_neg (by rw [toI3_len]; simp; omega)]; rfl
 | k + 1, e, f + 1, h, hf => by
  have ih := own_1 hv n1 hn hs k (e + 1) f (by omega) (by omega)
  have hev : s[e]? = some s[e] := List.getElem?_eq_getElem (by omega)
  have he : EvV n s[e] := hv _ (List.getElem_mem _)
  obtain ⟨r, h2, hrl, hr⟩ := seats_ok he hn
  have h4 := own_4 hv hn hs hev hr n 0 100000 (by omega) (by omega)
  rw [show ((0 : Nat) : Int) = 0 from rfl] at h4
  unfold evening_exchange_d_1
  rw [if_pos (by rw [toI3_len]; simp; omega), idx_I3 hev]
  simp only [Option.bind_some]
  rw [if_pos (by unfold mkOk; simp; omega), h2]
  simp only [Option.bind_some]
  rw [h4]
  simp only [Option.bind_some]
  conv => rhs; unfold fe
  cases fx n s e n 0 with
  | none =>
   simp only [outO]
   rw [wr_i (by omega) (by omega), show ((e : Int) + 1) = ((e + 1 : Nat) : Int) by simp]
   exact ih
  | some s' => rfl
theorem exchange_eq (hv : ∀ ev ∈ s, EvV n ev) (n1 : 1 ≤ n) (hn : n ≤ 64) (hs : s.length ≤ 64) : evening_exchange_d n (toI3 s) n (celM n (meetS n s)) = some (match fe n s s.length 0 with
  | none => (false, toI3 s, celM n (meetS n s))
  | some s' => (true, toI3 s', celM n (meetS n s'))) := by
 have h := own_1 hv n1 hn hs s.length 0 100000 (by omega) (by omega)
 rw [show ((0 : Nat) : Int) = 0 from rfl] at h
 unfold evening_exchange_d
 rw [h]
 simp only [Option.bind_some]
 cases fe n s s.length 0 <;> rfl
end
section
variable {n : Nat} {s : List (List (List Nat))}
theorem idx_S {e : Nat} (he : e < s.length) (cur : List (List Nat)) : idx (toI3 (s.set e cur)) (e : Int) = some (toI2 cur) := idx_I3 (by simp [he])
theorem idx_A (A C : List (List Nat)) (t : List Nat) : idx (toI2 (A ++ t :: C)) (A.length : Int) = some (toI1 t) := idx_I2 (by simp)
theorem sw_j3 {e x y : Nat} (he : e < s.length) (hxy : x ≠ y) (A C : List (List Nat)) (p r : List Nat) (z : Nat) : ref09_swapped_j3 e x y A.length p.length (toI3 (s.set e (A ++ (p ++ z :: r) :: C))) z = some (toI3 (s.set e (A ++ (p ++ sx x y z :: r) :: C))) := by
 have hset : ∀ w : Nat, ((toI3 (s.set e (A ++ (p ++ z :: r) :: C))).set ((e : Int)).toNat ((toI2 (A ++ (p ++ z :: r) :: C)).set ((A.length : Int)).toNat ((toI1 (p ++ z :: r)).set ((p.length : Int)).toNat (w : Int)))) = toI3 (s.set e (A ++ (p ++ w :: r) :: C)) := fun w => by
  simp only [Int.toNat_natCast]
  rw [toI1_set, toI2_set, toI3_set]
  simp
 have ip : idx (toI1 (p ++ z :: r)) (p.length : Int) = some (z : Int) := idx_I1 (by simp)
 unfold ref09_swapped_j3
 by_cases h1 : z = x
 ·rw [if_pos (by simp [h1]), idx_S he]
  simp only [Option.bind_some]
  rw [idx_A]
  simp only [Option.bind_some]
  rw [ip]
  simp only [Option.bind_some]
  rw [hset y, h1]
  unfold sx
  rw [if_pos rfl]
 ·rw [if_neg (by simp; omega)]
  unfold ref09_swapped_j4
  by_cases h2 : z = y
  ·rw [if_pos (by simp [h2]), idx_S he]
   simp only [Option.bind_some]
   rw [idx_A]
   simp only [Option.bind_some]
   rw [ip]
   simp only [Option.bind_some]
   rw [hset x, h2]
   unfold sx
   rw [if_neg (Ne.symm hxy), if_pos rfl]
  ·rw [if_neg (by simp; omega)]
   simp only [Option.bind_some]
   unfold sx
   rw [if_neg h1, if_neg h2]
theorem sw_2 {e x y : Nat} (he : e < s.length) (hxy : x ≠ y) (A C : List (List Nat)) : ∀ (r p : List Nat) (f : Nat), r.length < f → p.length + r.length ≤ 1000 → ref09_swapped_2 e x y A.length f p.length (toI3 (s.set e (A ++ (p ++ r) :: C))) = some (toI3 (s.set e (A ++ (p ++ r.map (sx x y)) :: C)))
 | [], p, f + 1, _, _ => by
  unfold ref09_swapped_2
  rw [idx_S he]
  simp only [Option.bind_some]
  rw [idx_A]
  simp only [Option.bind_some]
  rw [if_neg (by simp [toI1])]
  simp
 | z :: r, p, f + 1, hf, hl => by
  simp only [List.length_cons] at hf hl
  have ih := sw_2 he hxy A C r (p ++ [sx x y z]) f (by omega) (by simp; omega)
  unfold ref09_swapped_2
  rw [idx_S he]
  simp only [Option.bind_some]
  rw [idx_A]
  simp only [Option.bind_some]
  rw [if_pos (by simp [toI1]; omega), idx_I1 (t := p ++ z :: r) (k := p.length) (x := z) (by simp)]
  simp only [Option.bind_some]
  rw [sw_j3 he hxy]
  simp only [Option.bind_some]
  rw [wr_i (by omega) (by omega), show ((p.length : Int) + 1) = ((p ++ [sx x y z]).length : Int) by simp, show p ++ sx x y z :: r = (p ++ [sx x y z]) ++ r by simp, ih]
  simp
theorem sw_1 {e x y : Nat} (he : e < s.length) (hxy : x ≠ y) : ∀ (r A : List (List Nat)) (f : Nat), r.length < f → A.length + r.length ≤ 1000 → (∀ t ∈ r, t.length ≤ 500) → ref09_swapped_1 e x y f A.length (toI3 (s.set e (A ++ r))) = some (if togB x y r = true then .inr () else .inl (toI3 (s.set e (A ++ exE x y r))))
 | [], A, f + 1, _, _, _ => by
  unfold ref09_swapped_1
  rw [idx_S he]
  simp only [Option.bind_some]
  rw [if_neg (by simp [toI2])]
  simp [togB, exE]
 | t :: r, A, f + 1, hf, hl, ht => by
  simp only [List.length_cons] at hf hl
  have htl := ht t (by simp)
  have ih := sw_1 he hxy r (A ++ [t.map (sx x y)]) f (by omega) (by simp; omega) (fun u hu => ht u (by simp [hu]))
  have m1 : decide ((x : Int) ∈ toI1 t) = decide (x ∈ t) := by simp only [mem_toI]
  have m2 : decide ((y : Int) ∈ toI1 t) = decide (y ∈ t) := by simp only [mem_toI]
  unfold ref09_swapped_1
  rw [idx_S he]
  simp only [Option.bind_some]
  rw [if_pos (by simp [toI2]; omega), idx_A]
  simp only [Option.bind_some]
  rw [has_eq _ _ (by rw [toI1_len]; omega), m1]
  simp only [Option.bind_some]
  rw [has_eq _ _ (by rw [toI1_len]; omega), m2]
  simp only [Option.bind_some]
  have e1 : (if decide (x ∈ t) = true then some (decide (y ∈ t)) else some false) = some (decide (x ∈ t) && decide (y ∈ t)) := by
   by_cases h : x ∈ t <;> simp [h]
  rw [e1]
  simp only [Option.bind_some]
  cases hb : decide (x ∈ t) && decide (y ∈ t) with
  | true =>
   simp only [if_true]
   rw [show togB x y (t :: r) = true by simp only [togB, List.any_cons, hb, Bool.true_or]]
   rfl
  | false =>
   simp only [Bool.false_eq_true, if_false]
   have h2 := sw_2 he hxy A r t [] 100000 (by omega) (by simp; omega)
   simp only [List.nil_append] at h2
   rw [show ((([] : List Nat).length : Nat) : Int) = 0 from rfl] at h2
   rw [h2]
   simp only [Option.bind_some]
   rw [wr_i (by omega) (by omega), show ((A.length : Int) + 1) = ((A ++ [t.map (sx x y)]).length : Int) by simp, show A ++ t.map (sx x y) :: r = (A ++ [t.map (sx x y)]) ++ r by simp, ih]
   rw [show togB x y (t :: r) = togB x y r by simp only [togB, List.any_cons, hb, Bool.false_or]]
   simp [exE]
theorem swapped_eq (hv : ∀ ev ∈ s, EvV n ev) (hn : n ≤ 64) (hs : s.length ≤ 64) {e x y : Nat} (he : e < s.length) (hxy : x ≠ y) : ref09_swapped (toI3 s) e x y = some (if togB x y (s.getD e []) = true then ([], false) else (toI3 (exS s e x y), true)) := by
 have sl := small_lens hn hv hs
 have hev : s[e]? = some s[e] := List.getElem?_eq_getElem he
 have hE := hv _ (List.getElem_mem he)
 have hg : s.getD e [] = s[e] := by rw [List.getD_eq_getElem?_getD, hev]; rfl
 have h1 := sw_1 he hxy s[e] [] 100000 (by have := hE.elen; omega) (by have := hE.elen; simp; omega) (fun t ht => by have := hE.tlen ht; omega)
 rw [show ((([] : List (List Nat)).length : Nat) : Int) = 0 from rfl, List.nil_append, List.nil_append, show s.set e s[e] = s by simp] at h1
 unfold ref09_swapped
 rw [rcopy_eq _ sl.1 sl.2]
 simp only [Option.bind_some]
 rw [h1]
 simp only [Option.bind_some]
 unfold exS
 rw [hg]
 cases togB x y s[e] <;> rfl
/-- What the search hands on, the reference's. -/
def outR : Option (List (List (List Nat))) → Unit ⊕ (List (List (List Int)) × Bool)
 | none => .inl ()
 | some s' => .inr (toI3 s', true)
theorem ref_3 (hv : ∀ ev ∈ s, EvV n ev) (n1 : 1 ≤ n) (hn : n ≤ 64) (hs : s.length ≤ 64) {v : Int} (hsq : sqM n s = 2 * v) {e : Nat} (he : e < s.length) {x : Nat} (hx : x < n) : ∀ (k y f : Nat), y + k = n → x < y → k < f →
  ref09_better_3 n (toI3 s) v e x f y = some (outR (fy n s e x k y))
 | 0, y, f + 1, h, _, _ => by
  unfold ref09_better_3
  rw [if_neg (by simp; omega)]; rfl
 | k + 1, y, f + 1, h, hxy, hf => by
  have ih := ref_3 hv n1 hn hs hsq he hx k (y + 1) f (by omega) (by omega) (by omega)
  unfold ref09_better_3
  rw [if_pos (by simp; omega), swapped_eq hv hn hs he (by omega)]
  simp only [Option.bind_some]
  conv => rhs; unfold fy gdB
  cases ht : togB x y (s.getD e []) with
  | true =>
   simp only [if_true, Bool.false_eq_true, if_false, Option.bind_some, Bool.not_true, Bool.false_and]
   rw [wr_i (by omega) (by omega), show ((y : Int) + 1) = ((y + 1 : Nat) : Int) by simp, ih]
  | false =>
   obtain ⟨hv', hl'⟩ := exS_evv hv he hx (show y < n by omega)
   have vs := vs_of n1 hn (by rw [hl']; exact hs) hv'
   obtain ⟨v', q1, _, q3⟩ := strain_val vs
   simp only [Bool.false_eq_true, if_false, if_true, Bool.not_false, Bool.true_and]
   rw [rmeet_eq vs]
   simp only [Option.bind_some]
   rw [q3]
   simp only [Option.bind_some]
   have e1 : decide (v' < v) = decide (sqM n (exS s e x y) < sqM n s) := by
    have : sqM n (exS s e x y) = 2 * v' := q1
    rw [this, hsq]
    by_cases h : v' < v
    ·rw [decide_eq_true h, decide_eq_true (by omega)]
    ·rw [decide_eq_false h, decide_eq_false (by omega)]
   rw [e1]
   cases decide (sqM n (exS s e x y) < sqM n s) with
   | true => rfl
   | false =>
    simp only [Bool.false_eq_true, if_false]
    rw [wr_i (by omega) (by omega), show ((y : Int) + 1) = ((y + 1 : Nat) : Int) by simp, ih]
theorem ref_2 (hv : ∀ ev ∈ s, EvV n ev) (n1 : 1 ≤ n) (hn : n ≤ 64) (hs : s.length ≤ 64) {v : Int} (hsq : sqM n s = 2 * v) {e : Nat} (he : e < s.length) : ∀ (k x f : Nat), x + k = n → k < f →
  ref09_better_2 n (toI3 s) v e f x = some (outR (fx n s e k x))
 | 0, x, f + 1, h, _ => by
  unfold ref09_better_2
  rw [if_neg (by simp; omega)]; rfl
 | k + 1, x, f + 1, h, hf => by
  have ih := ref_2 hv n1 hn hs hsq he k (x + 1) f (by omega) (by omega)
  have h3 := ref_3 hv n1 hn hs hsq he (x := x) (by omega) k (x + 1) 100000 (by omega) (by omega) (by omega)
  unfold ref09_better_2
  rw [if_pos (by simp; omega), wr_i (by omega) (by omega), show ((x : Int) + 1) = ((x + 1 : Nat) : Int) by simp, h3]
  simp only [Option.bind_some]
  conv => rhs; unfold fx
  cases fy n s e x k (x + 1) with
  | none => exact ih
  | some s' => rfl
theorem ref_1 (hv : ∀ ev ∈ s, EvV n ev) (n1 : 1 ≤ n) (hn : n ≤ 64) (hs : s.length ≤ 64) {v : Int} (hsq : sqM n s = 2 * v) : ∀ (k e f : Nat), e + k = s.length → k < f →
  ref09_better_1 n (toI3 s) v f e = some (outR (fe n s k e))
 | 0, e, f + 1, h, _ => by
  unfold ref09_better_1
  rw [if_neg (by rw [toI3_len]; simp; omega)]; rfl
 | k + 1, e, f + 1, h, hf => by
  have ih := ref_1 hv n1 hn hs hsq k (e + 1) f (by omega) (by omega)
  have h2 := ref_2 hv n1 hn hs hsq (e := e) (by omega) n 0 100000 (by omega) (by omega)
  rw [show ((0 : Nat) : Int) = 0 from rfl] at h2
  unfold ref09_better_1
  rw [if_pos (by rw [toI3_len]; simp; omega), h2]
  simp only [Option.bind_some]
  conv => rhs; unfold fe
  cases fx n s e n 0 with
  | none =>
   simp only [outR]
   rw [wr_i (by omega) (by omega), show ((e : Int) + 1) = ((e + 1 : Nat) : Int) by simp]
   exact ih
  | some s' => rfl
theorem better_eq (hv : ∀ ev ∈ s, EvV n ev) (n1 : 1 ≤ n) (hn : n ≤ 64) (hs : s.length ≤ 64) : ref09_better n (toI3 s) = some (match fe n s s.length 0 with
  | none => (toI3 s, false)
  | some s' => (toI3 s', true)) := by
 have vs := vs_of n1 hn hs hv
 obtain ⟨v, q1, _, q3⟩ := strain_val vs
 have h := ref_1 hv n1 hn hs (v := v) q1 s.length 0 100000 (by omega) (by omega)
 rw [show ((0 : Nat) : Int) = 0 from rfl] at h
 unfold ref09_better
 rw [rmeet_eq vs]
 simp only [Option.bind_some]
 rw [q3]
 simp only [Option.bind_some]
 rw [h]
 simp only [Option.bind_some]
 cases fe n s s.length 0 <;> rfl
end
/-- Exchanges, at most k of them. -/
def pol (n : Nat) : Nat → List (List (List Nat)) → Nat → List (List (List Nat)) × Nat
 | 0, s, c => (s, c)
 | k + 1, s, c => match fe n s s.length 0 with
  | none => (s, c)
  | some s' => pol n k s' (c + 1)
section
variable {n : Nat}
theorem fe_evv {s s' : List (List (List Nat))} (hv : ∀ ev ∈ s, EvV n ev) (h : fe n s s.length 0 = some s') : (∀ ev ∈ s', EvV n ev) ∧ s'.length = s.length := by
 obtain ⟨e, x, y, h1, h2, h3, _, rfl⟩ := fe_some s.length 0 h
 exact exS_evv hv (by omega) (by omega) h3
theorem pol_evv : ∀ (k : Nat) (s : List (List (List Nat))) (c : Nat), (∀ ev ∈ s, EvV n ev) → (∀ ev ∈ (pol n k s c).1, EvV n ev) ∧ (pol n k s c).1.length = s.length
 | 0, _, _, h => ⟨h, rfl⟩
 | k + 1, s, c, h => by
  unfold pol
  cases hf : fe n s s.length 0 with
  | none => exact ⟨h, rfl⟩
  | some s' =>
   obtain ⟨h1, h2⟩ := fe_evv h hf
   obtain ⟨h3, h4⟩ := pol_evv k s' (c + 1) h1
   exact ⟨h3, h4.trans h2⟩
theorem own_pol (n1 : 1 ≤ n) (hn : n ≤ 64) (y : List Int) : ∀ (k : Nat) (s : List (List (List Nat))) (c f R : Nat), (∀ ev ∈ s, EvV n ev) → s.length ≤ 64 → c + k = R → R ≤ 1000 → k < f → evening_Polish_d_1 n R ((n : Int), y) f c (toI3 s) (celM n (meetS n s)) = some ((((pol n k s c).2 : Nat) : Int), toI3 (pol n k s c).1)
 | 0, s, c, f + 1, R, _, _, h, _, _ => by
  unfold evening_Polish_d_1
  rw [if_neg (by simp; omega)]; rfl
 | k + 1, s, c, f + 1, R, hv, hs, h, hR, hf => by
  unfold evening_Polish_d_1
  rw [if_pos (by simp; omega)]
  show ((evening_exchange_d n (toI3 s) n (celM n (meetS n s))).bind _).bind _ = _
  rw [exchange_eq hv n1 hn hs]
  unfold pol
  cases hq : fe n s s.length 0 with
  | none => rfl
  | some s' =>
   obtain ⟨h1, h2⟩ := fe_evv hv hq
   have ih := own_pol n1 hn y k s' (c + 1) f R h1 (by omega) (by omega) hR (by omega)
   simp only [Option.bind_some, if_true]
   rw [wr_i (by omega) (by omega), show ((c : Int) + 1) = ((c + 1 : Nat) : Int) by simp]
   exact ih
theorem ref_pol (n1 : 1 ≤ n) (hn : n ≤ 64) : ∀ (k : Nat) (s : List (List (List Nat))) (c f R : Nat), (∀ ev ∈ s, EvV n ev) → s.length ≤ 64 → c + k = R → R ≤ 1000 → k < f → ref09_Polish_1 n R f (toI3 s) c = some (.inl (toI3 (pol n k s c).1, (((pol n k s c).2 : Nat) : Int))) ∨ ref09_Polish_1 n R f (toI3 s) c = some (.inr (toI3 (pol n k s c).1, (((pol n k s c).2 : Nat) : Int)))
 | 0, s, c, f + 1, R, _, _, h, _, _ => by
  unfold ref09_Polish_1
  rw [if_neg (by simp; omega)]; exact .inl rfl
 | k + 1, s, c, f + 1, R, hv, hs, h, hR, hf => by
  unfold ref09_Polish_1
  rw [if_pos (by simp; omega), better_eq hv n1 hn hs]
  unfold pol
  cases hq : fe n s s.length 0 with
  | none => exact .inr rfl
  | some s' =>
   obtain ⟨h1, h2⟩ := fe_evv hv hq
   have ih := ref_pol n1 hn k s' (c + 1) f R h1 (by omega) (by omega) hR (by omega)
   simp only [Option.bind_some, Bool.not_true, Bool.false_eq_true, if_false]
   rw [wr_i (by omega) (by omega), show ((c : Int) + 1) = ((c + 1 : Nat) : Int) by simp]
   exact ih
theorem ref_polish (n1 : 1 ≤ n) (hn : n ≤ 64) {s : List (List (List Nat))} (hv : ∀ ev ∈ s, EvV n ev) (hs : s.length ≤ 64) {R : Nat} (hR : R ≤ 1000) : ref09_Polish n (toI3 s) R = some (toI3 (pol n R s 0).1, (((pol n R s 0).2 : Nat) : Int)) := by
 unfold ref09_Polish
 rcases ref_pol n1 hn R s 0 100000 R hv hs (by omega) hR (by omega) with h | h
 ·rw [show ((0 : Nat) : Int) = 0 from rfl] at h
  rw [h]; rfl
 ·rw [show ((0 : Nat) : Int) = 0 from rfl] at h
  rw [h]; rfl
theorem own_polish (n1 : 1 ≤ n) (hn : n ≤ 64) {s : List (List (List Nat))} (hv : ∀ ev ∈ s, EvV n ev) (hs : s.length ≤ 64) {R : Nat} (hR : R ≤ 1000) (hc : evening_Check n [] (toI3 s) = some (0, 0)) : evening_Polish_d n (toI3 s) R = some ((((pol n R s 0).2 : Nat) : Int), 0, toI3 (pol n R s 0).1) := by
 have sl := small_lens hn hv hs
 have h := own_pol n1 hn (celM n (meetS n s)) R s 0 100000 R hv hs (by omega) hR (by omega)
 rw [show ((0 : Nat) : Int) = 0 from rfl] at h
 unfold evening_Polish_d
 rw [hc]
 simp only [Option.bind_some, bne_self_eq_false, Bool.false_eq_true, if_false]
 rw [if_neg (by simp), clone_eq _ sl.1 sl.2]
 simp only [Option.bind_some]
 rw [meetings_eq (evv_small hn (by omega) hv).2]
 simp only [Option.bind_some]
 rw [h]
 rfl
end
theorem polishes_eq (n : Int) (hn : in64 n) (a : List (List (List Int))) (hfa : FewS a 30) (R : Int) (hR : R ≤ 5) : law09_polishes n a R = some true := by
 obtain ⟨a1, a2⟩ := hfa.lens (by omega)
 have la : a.length ≤ 50000 ∧ ∀ ev ∈ a, ev.length ≤ 50000 ∧ ∀ t ∈ ev, t.length ≤ 50000 := ⟨a1, fun ev he => ⟨(a2 ev he).1, (a2 ev he).2.2⟩⟩
 have l0 : ([] : List (List (List Int))).length ≤ 50000 ∧ ∀ ev ∈ ([] : List (List (List Int))), ev.length ≤ 50000 ∧ ∀ t ∈ ev, t.length ≤ 50000 := ⟨by simp, fun _ h => by cases h⟩
 obtain ⟨c1, c2⟩ := check_both n hn [] (by simp) a a1 (fun ev he => ⟨(a2 ev he).1, (a2 ev he).2.1⟩)
 have close : ∀ (m : List (List (List Int))), (m.length ≤ 50000 ∧ ∀ ev ∈ m, ev.length ≤ 50000 ∧ ∀ t ∈ ev, t.length ≤ 50000) → ((law09_Same m m).bind fun v30 => (if (!v30) = true then some true else some false).bind fun j31 => if j31 = true then some false else (law09_spoil_d m).bind fun _v39 => (law09_Same a a).bind fun v42 => some v42) = some true := fun m hm => by
  obtain ⟨s1, e1⟩ := spoil_some m hm.1 hm.2
  rw [same_self m hm.1 hm.2, same_self a la.1 la.2, e1]
  rfl
 unfold law09_polishes
 rw [copy_eq a la.1 la.2, c2]
 simp only [Option.bind_some]
 by_cases hF : (chkAll n [] a).2 = 0
 ·obtain ⟨N, hN1, hN2, rfl⟩ : ∃ N : Nat, 1 ≤ N ∧ N ≤ 64 ∧ n = (N : Int) := by
   unfold chkAll at hF
   by_cases hq : 1 ≤ n ∧ n ≤ 64
   ·exact ⟨n.toNat, by omega, by omega, by omega⟩
   ·rw [if_pos (by simp; omega)] at hF
    cases hF
  have hlen64 : a.length ≤ 64 := by
   unfold chkAll at hF
   rw [if_neg (by simp; omega)] at hF
   by_cases h : a.length > 64
   ·rw [if_pos h] at hF; cases hF
   ·omega
  have hchk : ∀ ev ∈ a, chk N [] ev = 0 := by
   unfold chkAll at hF
   rw [if_neg (by simp; omega), if_neg (by omega)] at hF
   exact chkS_inv N [] a 0 hF
  have hI : toI3 (toN3 a) = a := toN3_I fun ev he v hv => ((chk_inv (hchk ev he)).2.1 v hv).1
  have hv : ∀ ev ∈ toN3 a, EvV N ev := fun ev he => by
   obtain ⟨u, hu, rfl⟩ := List.mem_map.1 he
   exact (evv_of (hchk u hu)).2
  have hs : (toN3 a).length ≤ 64 := by unfold toN3; rw [List.length_map]; exact hlen64
  have c0 : evening_Check N [] (toI3 (toN3 a)) = some (0, 0) := by
   have := chkAll_evv hN1 hN2 hs hv
   rw [hI] at this ⊢
   rw [c1, this]
  rw [hF]
  by_cases hR0 : R < 0
  ·have P1 : evening_Polish_d N a R = some (0, 2, []) := by
    rw [hI] at c0
    unfold evening_Polish_d
    rw [c0]
    simp only [Option.bind_some, bne_self_eq_false, Bool.false_eq_true, if_false]
    rw [if_pos (by simpa using hR0)]
   rw [P1, decide_eq_true hR0]
   unfold law09_polishes_j1 law09_polishes_j2
   exact close [] l0
  ·obtain ⟨K, rfl⟩ : ∃ K : Nat, R = (K : Int) := ⟨R.toNat, by omega⟩
   have P1 := own_polish hN1 hN2 hv hs (R := K) (by omega) c0
   have P2 := ref_polish hN1 hN2 hv hs (R := K) (by omega)
   obtain ⟨q1, q2⟩ := pol_evv (n := N) K (toN3 a) 0 hv
   have sl := small_lens hN2 q1 (by omega)
   rw [hI] at P1 P2
   rw [P1, decide_eq_false hR0]
   have J1 : law09_polishes_j1 (chkAll N [] a) false = some 0 := by
    unfold law09_polishes_j1
    rw [hF]; rfl
   have J2 : law09_polishes_j2 N a K 0 = some (toI3 (pol N K (toN3 a) 0).1, (((pol N K (toN3 a) 0).2 : Nat) : Int)) := by
    unfold law09_polishes_j2
    rw [P2]; rfl
   simp only [Option.bind_some, beq_self_eq_true, if_true]
   rw [J1]
   simp only [Option.bind_some]
   rw [J2]
   simp only [Option.bind_some, bne_self_eq_false, Bool.false_eq_true, if_false]
   exact close _ sl
 ·have hF2 : ((chkAll n [] a).2 != 0) = true := by simpa using hF
  have hF3 : ((chkAll n [] a).2 == 0) = false := by simpa using hF
  have P1 : evening_Polish_d n a R = some (0, (chkAll n [] a).2, []) := by
   unfold evening_Polish_d
   rw [c1]
   simp only [Option.bind_some]
   rw [if_pos hF2]
  have J1 : law09_polishes_j1 (chkAll n [] a) false = some (chkAll n [] a).2 := by
   unfold law09_polishes_j1
   rfl
  have J2 : law09_polishes_j2 n a R (chkAll n [] a).2 = some ([], 0) := by
   unfold law09_polishes_j2
   rw [hF3]; rfl
  rw [P1, hF3]
  simp only [Option.bind_some, Bool.false_eq_true, if_false]
  rw [J1]
  simp only [Option.bind_some]
  rw [J2]
  simp only [Option.bind_some, bne_self_eq_false, Bool.false_eq_true, if_false]
  exact close [] l0
theorem polishes_law (n : Int) (hn : in64 n) (a : List (List (List Int))) (ha : ShortS a) (R : Int) : law09_EveningPolishes n a R = some true := by
 have hw : law09_awake = some true := rfl
 unfold law09_EveningPolishes
 obtain ⟨x, hx, hx2⟩ := few_eq a 30 (by omega) ha
 rw [show ((30 : Nat) : Int) = 30 from rfl] at hx
 rw [hx, hw]
 simp only [Option.bind_some]
 have rest : ((if (!x) = true then some true else if decide (R > 5) = true then some true else (law09_polishes n a R).bind fun v5 => if v5 = true then some true else some false) : Option Bool) = some true := by
  cases x with
  | false => rfl
  | true =>
   simp only [Bool.not_true, Bool.false_eq_true, if_false]
   by_cases h5 : R > 5
   ·rw [if_pos (by simpa using h5)]
   ·rw [if_neg (by simpa using h5), polishes_eq n hn a (hx2 rfl) R (by omega)]
    rfl
 by_cases h1 : n > 10
 ·rw [if_pos (by simpa using h1)]
  by_cases h2 : n ≤ 64
  ·rw [if_pos (by simpa using h2)]; rfl
  ·rw [if_neg (by simpa using h2), rest]; rfl
 ·rw [if_neg (by simpa using h1), rest]; rfl
end Go.Proofs.YtcmgmkepodbpkaaDoor
namespace Go.Proofs.YtcmgmkepodbpkaaDoor.eveningPolishes
open Go.ChangeShapes Go.WideShapes Go.ChangeAt Go.RowKit
theorem law_ret (a0 : Int) (a1 : (List (List (List Int)))) (a2 : Int) (h : law09_EveningPolishes a0 a1 a2 = some true) {w : World} {v0 v1 v2 : Value} (h0 : VR w (fun c => c < w.heap.size) [] (cdI.enc a0) v0) (h1 : VR w (fun c => c < w.heap.size) [] ((cdL 1 (cdL 1 (cdL 1 cdI))).enc a1) v1) (h2 : VR w (fun c => c < w.heap.size) [] (cdI.enc a2) v2) : Ret Tryd.prog 6 #[v0, v1, v2] w fun v w' => v = .bool true ∧ w.grownBy w' none :=
 Ret.mono (x_law09_EveningPolishes.2 (cs_law09_EveningPolishes.enc (a0, a1, a2, ())) (er_law09_EveningPolishes true) (told_enc (s := cs_law09_EveningPolishes) (a := (a0, a1, a2, ())) h) w (fun c => c < w.heap.size) [v0, v1, v2] (fun c hc => hc) (fun g x h => by cases h) (.cons h0 (.cons h1 (.cons h2 .nil)))) fun v w' h => ⟨h.2.v_inv, h.1⟩
set_option maxRecDepth 100000 in
theorem contract (H : Type) (enc : TypeId × Value → H) (W : World) (base : Nat) (args : Array Value) (ds gs : List (DataW H)) (before : List MemPlace)
  (hval : ∀ (j : Nat) t v, Tryd.f6.params[j]? = some t → args[j]? = some v → Value.okWide Tryd.prog W .any base t v)
  (hW : DataW.Whole enc Tryd.prog Tryd.f6.params.toList Rows.eveningPolishesSpec.vars false W args.toList ds gs before)
  (hsz : (DataW.weightsEach Tryd.prog (Tryd.f6.params.toList ++ (OpenSpec.ofChange Rows.eveningPolishesSpec).bare.plain.varTypes Tryd.prog) (ds ++ gs)).all (· ≤ reachBytes) = true) :
  Calls Tryd.prog 6 args W fun e W' => ∃ v, e = .returned v ∧ Rows.eveningPolishesSpec.post enc Tryd.prog Tryd.f6 false true false false W args v W' := by
 have hW' := hW
 obtain ⟨p, q, hA0, hV, rfl, hfz, hnd⟩ := hW
 have hA : DataW.TrodAll enc Tryd.prog W 0 (fun _ => true) true Tryd.f6.params.toList args.toList ds p := hA0
 have hpar : Tryd.f6.params = #[3, 22, 3] := by kernel_rfl
 rw [hpar] at hA hval
 obtain ⟨v0, vs0, d0, ds0, p0, q0, hargs, rfl, rfl, h0, r0⟩ := trodAll_cons hA
 obtain ⟨v1, vs1, d1, ds1, p1, q1, rfl, rfl, rfl, h1, r1⟩ := trodAll_cons r0
 obtain ⟨v2, vs2, d2, ds2, p2, q2, rfl, rfl, rfl, h2, r2⟩ := trodAll_cons r1
 obtain ⟨rfl, rfl, rfl⟩ := trodAll_nil r2
 obtain rfl : args = #[v0, v1, v2] := by apply Array.ext'; simpa using hargs
 obtain ⟨a0, k0, g0⟩ := rd_arg (rd_int64 (by kernel_rfl : Tryd.prog.underlying 3 = some (.int .i64))) (one_int (by kernel_rfl : Tryd.prog.underlying 3 = some (.int .i64)) (hval 0 3 v0 rfl rfl)) h0 hsz (j := 0) (by kernel_rfl) rfl
 obtain ⟨a1, k1, g1⟩ := rd_arg (rd_slice (by kernel_rfl : Tryd.prog.underlying 22 = some (.slice 50)) (by kernel_rfl) (by kernel_rfl) (rd_slice (by kernel_rfl : Tryd.prog.underlying 50 = some (.slice 31)) (by kernel_rfl) (by kernel_rfl) (rd_slice (by kernel_rfl : Tryd.prog.underlying 31 = some (.slice 3)) (by kernel_rfl) (by kernel_rfl) (rd_int64 (by kernel_rfl : Tryd.prog.underlying 3 = some (.int .i64)))))) (one_slice (by kernel_rfl : Tryd.prog.underlying 22 = some (.slice 50)) (hval 1 22 v1 rfl rfl)) h1 hsz (j := 1) (by kernel_rfl) rfl
 obtain ⟨a2, k2, g2⟩ := rd_arg (rd_int64 (by kernel_rfl : Tryd.prog.underlying 3 = some (.int .i64))) (one_int (by kernel_rfl : Tryd.prog.underlying 3 = some (.int .i64)) (hval 2 3 v2 rfl rfl)) h2 hsz (j := 2) (by kernel_rfl) rfl
 have hc := law_ret a0 a1 a2 (polishes_law a0 g0 a1 ⟨g1.1, fun ev he => ⟨(g1.2 ev he).1, fun t ht => ((g1.2 ev he).2 t ht).1⟩⟩ a2) k0 k1 k2
 unfold Ret at hc
 refine hc.mono fun e W' he => ?_
 cases e with
 | returned v =>
  obtain ⟨rfl, hg⟩ := he
  exact ⟨_, rfl, post_true laidOut (fun t ht => ⟨mem_of_laid (fun t => Tryd.prog.readableRec t) (by kernel_rfl) ht, of_decide_eq_true (mem_of_laid (fun t => decide (t < Tryd.prog.types.size)) (by kernel_rfl) ht)⟩) hW' rfl (by kernel_rfl) (by kernel_rfl : Tryd.prog.underlying 4 = some .bool) rfl hg⟩
 | panicked c => exact he.elim
 | outgrown => exact he.elim
theorem laid_met (os : Os) : laidMet Tryd.prog Rows.eveningPolishesRow.laid ((laidWorld os).forCall (fun _ _ => 0) ⟨#[], #[Value.int .i64 0, Value.slice none 0 0, Value.int .i64 0], []⟩).memory :=
 laidMet_of_run' 8 (by kernel_rfl) (by kernel_rfl)
theorem reads (os : Os) {H : Type} (enc : TypeId × Value → H) : ∃ places, DataW.whole enc Tryd.prog ((laidWorld os).forCall (fun _ _ => 0) ⟨#[], #[Value.int .i64 0, Value.slice none 0 0, Value.int .i64 0], []⟩).memory Tryd.f6.params.toList Rows.eveningPolishesSpec.vars false #[Value.int .i64 0, Value.slice none 0 0, Value.int .i64 0].toList 8 = some ([.lit (.int .i64 0), .nil, .lit (.int .i64 0)], [], places) :=
 ⟨[], by kernel_rfl⟩
set_option maxRecDepth 100000 in
theorem lifted (os : Os) (started : os.Started) (H : Type) (enc : TypeId × Value → H) (F : Stop.Interp) :
  ReturnsInHanded {} Tryd.checked os 6 .any ((OpenSpec.ofChange Rows.eveningPolishesSpec).preRow enc Tryd.prog Tryd.f6 Rows.eveningPolishesRow.domain false Rows.eveningPolishesRow.laid) (((OpenSpec.ofChange Rows.eveningPolishesSpec).at F).post enc Tryd.prog Tryd.f6 false true false false) := by
 obtain ⟨places, hx⟩ := reads os enc
 refine returnsInHanded_of_row (C := Tryd.checked) (s := OpenSpec.ofChange Rows.eveningPolishesSpec) ownKnob0 started (by kernel_rfl) Tryd.func6
  (witness_row_at (enc := enc) (C := Tryd.checked) false (laidWorld os) #[Value.int .i64 0, Value.slice none 0 0, Value.int .i64 0] rfl (by kernel_rfl) (by kernel_rfl) (by kernel_rfl)
   (OpenSpec.preRow_of_cond 8 hx (by kernel_rfl) (fun k hk => by cases hk) (by kernel_rfl) (laid_met os))) ?_
 intro W base args ds gs before hval hW _ _ hsz _ _ _
 exact contract H enc W base args ds gs before hval hW hsz
theorem said : Rows.EveningPolishesSaid :=
 OpenClaim.holds_of_cond 6 Tryd.f6 rfl rfl rfl rfl rfl rfl rfl ⟨rfl, rfl, rfl, rfl, rfl⟩ rfl rfl rfl rfl rfl (by kernel_rfl) Tryd.func6 (by kernel_rfl)
  (of_decide_eq_true (by kernel_rfl)) (by unfold Func.isWrapper; first | (rw [if_pos (by decide +kernel)]; kernel_rfl) | (rw [if_neg (by decide +kernel)]; exact ⟨rfl, rfl⟩))
  (fun os started H enc _ F => by rw [OpenClaim.pre_eq_preRow]; exact lifted os started H enc F)
theorem plain (f : FuncId) (fn : Func) (hf : Tryd.pinned.checked.prog.funcNamed "trestle/trestlelaw09.EveningPolishes" = some f) (hfn : Tryd.pinned.checked.prog.funcs[f]? = some fn) :
  false = Tryd.pinned.checked.prog.looks [] ∧ ∀ (j : Nat) t, fn.params[j]? = some t → Tryd.pinned.checked.prog.wantsStandIn t = false := by
 obtain rfl : f = 6 := Option.some.inj ((show Tryd.prog.funcNamed "trestle/trestlelaw09.EveningPolishes" = some 6 by kernel_rfl).symm.trans hf) |>.symm
 obtain rfl : fn = Tryd.f6 := (Option.some.inj (Tryd.func6.symm.trans hfn)).symm
 refine ⟨by kernel_rfl, fun j t ht => ?_⟩
 have hm : t ∈ Tryd.f6.params.toList := by simpa using Array.mem_of_getElem? ht
 exact (show Tryd.prog.wantsStandIn t = false from Bool.not_eq_true' _ |>.mp (mem_of_laid (fun t => !Tryd.prog.wantsStandIn t) (by kernel_rfl) hm))
theorem card : Rows.EveningPolishesCardSaid :=
 Claim7.holds_tied_plain_at .later [] _ _ _ _ said (fun _ h => by cases h) (by kernel_rfl) (fun _ h => by cases h) eveningPolishes_row_tie rfl ⟨rfl, rfl⟩ (by kernel_rfl) rfl plain (by kernel_rfl)
end Go.Proofs.YtcmgmkepodbpkaaDoor.eveningPolishes
