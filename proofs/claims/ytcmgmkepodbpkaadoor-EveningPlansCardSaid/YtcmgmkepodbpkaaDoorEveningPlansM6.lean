/- The law of plans, for all numbers of guests, sizes and evenings. -/
import Derived.Test.YtcmgmkepodbpkaaDoorEveningPlansM1
import Derived.Test.YtcmgmkepodbpkaaDoorEveningPlansM2
import Derived.Test.YtcmgmkepodbpkaaDoorEveningPlansM3
import Derived.Test.YtcmgmkepodbpkaaDoorEveningPlansM4
import Derived.Test.YtcmgmkepodbpkaaDoorEveningPlansM5
namespace Go.Proofs.YtcmgmkepodbpkaaDoor
open Go.RowKit
theorem spanP_1 (n : Nat) (hn : n ≤ 64) : ∀ (k i f : Nat) (c : List Nat), i + k = n → k < f → c = List.range i → evening_span_1 0 n f (toI1 c) i = some (toI1 (List.range n))
  | 0, i, f + 1, c, h, _, hc => by
    unfold evening_span_1
    have e : i = n := by omega
    subst e
    rw [if_neg (by simp), hc]
  | k + 1, i, f + 1, c, h, hf, hc => by
    have ih := spanP_1 n hn k (i + 1) f (c ++ [i]) (by omega) (by omega) (by rw [hc, List.range_succ])
    unfold evening_span_1
    have hl : c.length = i := by rw [hc]; simp
    have e0 : wr .i64 (0 + (i : Int)) = (i : Int) := by rw [wr_i (by omega) (by omega)]; omega
    rw [if_pos (by simp; omega), if_pos (capOk_le (by omega) (by rw [toI1_len]; omega)), wr_nat (by omega), e0]
    have e1 : toI1 c ++ [(i : Int)] = toI1 (c ++ [i]) := by simp [toI1]
    rw [e1]
    exact ih
theorem spanP {n : Nat} (hn : n ≤ 64) : evening_span 0 n = some (toI1 (List.range n)) := by
  unfold evening_span
  have := spanP_1 n hn n 0 100000 [] (by omega) (by omega) rfl
  rw [show toI1 ([] : List Nat) = [] from rfl, show ((0 : Nat) : Int) = 0 from rfl] at this
  rw [this]
  rfl
theorem ch_k1 {n x y : Nat} (hn : n ≤ 64) (L : List Nat) (hx : x < n) (hy : y < n) (a : Int) (b : List Int) : evening_choose_k1 a b n (cel n L) x y = some (((L.count (x * n + y) : Nat) : Int), (n : Int), cel n L) := by
  unfold evening_choose_k1
  rw [cel_wr hn hx hy, cel_idx L hx hy]
  rfl
theorem ch_2 {n : Nat} (hn : n ≤ 64) (L : List Nat) (tb : List Nat) (x2 : List Int) (c3 c4 c5 c6 : Int) (x : Nat) (hx : x < n) (c : Nat → Int) (hc : ∀ y ∈ tb, y < n ∧ ((L.count (x * n + y) : Nat) : Int) = c y ∧ 0 ≤ c y ∧ c y ≤ 5000) (hl : tb.length ≤ 64) : ∀ (r pre : List Nat) (f : Nat) (a s : Int), tb = pre ++ r → r.length < f → 0 ≤ s → s ≤ 5000 * pre.length →
    evening_choose_2 (toI1 tb) x2 n (cel n L) c3 c4 c5 c6 x f a s pre.length = some (scr c r a s)
  | [], pre, f + 1, a, s, h, _, _, _ => by
    unfold evening_choose_2
    rw [if_neg (by rw [toI1_len, h]; simp)]
    rfl
  | y :: r, pre, f + 1, a, s, h, hf, h0, h1 => by
    obtain ⟨k1, k2, k3, k4⟩ := hc y (by rw [h]; simp)
    have hp : pre.length < tb.length := by rw [h]; simp
    have ih := ch_2 hn L tb x2 c3 c4 c5 c6 x hx c hc hl r (pre ++ [y]) f (mxI a (c y)) (s + c y) (by rw [h]; simp) (by simp at hf; omega) (by omega) (by simp; omega)
    unfold evening_choose_2
    rw [if_pos (by rw [toI1_len, h]; simp; omega), show idx (toI1 tb) (pre.length : Int) = some (y : Int) by rw [h]; exact idx_toI1 pre y r]
    simp only [Option.bind_some]
    rw [ch_k1 hn L hx k1]
    simp only [Option.bind_some]
    have a3 : ((pre.length + 1 : Nat) : Int) = ((pre ++ [y]).length : Int) := by simp
    rw [k2, wr_i (n := s + c y) (by omega) (by omega), wr_nat (by omega), a3, ih]
    rfl
/-- An index and the guest there. -/
def RelB (fr : List Nat) (b gb : Int) : Prop := (b = -1 ∧ gb = -1) ∨ ∃ j x : Nat, b = (j : Int) ∧ gb = (x : Int) ∧ fr[j]? = some x
theorem RelB.neg {fr : List Nat} {b gb : Int} (h : RelB fr b gb) : decide (b < 0) = decide (gb < 0) := by
  rcases h with ⟨rfl, rfl⟩ | ⟨j, x, rfl, rfl, _⟩
  · rfl
  · rw [decide_eq_decide]; omega
theorem bet_same {α β : Type} (u : α) (v : β) (b a m s t : Int) : (if (decide (b < 0)) = true then some (u, v, true) else if (decide (a < m)) = true then some (u, v, true) else if (a == m) = true then some (u, v, decide (s < t)) else some (u, v, false)) = some (u, v, bet b a m s t) := by
  unfold bet
  cases decide (b < 0) <;> cases decide (a < m) <;> cases (a == m) <;> rfl
theorem ch_1 {n : Nat} (hn : n ≤ 64) (L : List Nat) (tb fr : List Nat) (c : Nat → Nat → Int) (hc : ∀ x ∈ fr, x < n ∧ ∀ y ∈ tb, y < n ∧ ((L.count (x * n + y) : Nat) : Int) = c x y ∧ 0 ≤ c x y ∧ c x y ≤ 5000) (hl : tb.length ≤ 64) (hfl : fr.length ≤ 64) : ∀ (r pre : List Nat) (f : Nat) (b gb m t : Int), fr = pre ++ r → r.length < f → RelB fr b gb →
    ∃ k, evening_choose_1 (toI1 tb) (toI1 fr) f n (cel n L) b m t pre.length = some k ∧ RelB fr k (pk (fun x => scr (c x) tb 0 0) r gb m t).1
  | [], pre, f + 1, b, gb, m, t, h, _, hb => by
    refine ⟨b, ?_, hb⟩
    unfold evening_choose_1
    rw [if_neg (by rw [toI1_len, h]; simp)]
  | x :: r, pre, f + 1, b, gb, m, t, h, hf, hb => by
    obtain ⟨k1, k2⟩ := hc x (by rw [h]; simp)
    have hp : pre.length < fr.length := by rw [h]; simp
    have h2 := ch_2 hn L tb (toI1 fr) b m t pre.length x k1 (c x) k2 hl tb [] 100000 0 0 rfl (by omega) (by omega) (by simp)
    rw [show ((([] : List Nat).length : Nat) : Int) = 0 from rfl] at h2
    have a3 : ((pre.length + 1 : Nat) : Int) = ((pre ++ [x]).length : Int) := by simp
    have hbe : bet b (scr (c x) tb 0 0).1 m (scr (c x) tb 0 0).2 t = bet gb (scr (c x) tb 0 0).1 m (scr (c x) tb 0 0).2 t := by
      unfold bet; rw [hb.neg]
    have st : ∀ k b' m' t', evening_choose_1 (toI1 tb) (toI1 fr) f n (cel n L) b' m' t' ((pre ++ [x]).length : Int) = some k → (if bet b (scr (c x) tb 0 0).1 m (scr (c x) tb 0 0).2 t = true then some ((pre.length : Int), (scr (c x) tb 0 0).1, (scr (c x) tb 0 0).2) else some (b, m, t)) = some (b', m', t') → evening_choose_1 (toI1 tb) (toI1 fr) (f + 1) n (cel n L) b m t pre.length = some k := fun k b' m' t' hk hj => by
      unfold evening_choose_1
      rw [if_pos (by rw [toI1_len, h]; simp; omega), show idx (toI1 fr) (pre.length : Int) = some (x : Int) by rw [h]; exact idx_toI1 pre x r]
      simp only [Option.bind_some]
      rw [h2]
      simp only [Option.bind_some]
      rw [bet_same]
      simp only [Option.bind_some]
      unfold evening_choose_j3
      rw [hj]
      simp only [Option.bind_some]
      rw [wr_nat (by omega), a3]
      exact hk
    by_cases e : bet gb (scr (c x) tb 0 0).1 m (scr (c x) tb 0 0).2 t = true
    · obtain ⟨k, e1, e2⟩ := ch_1 hn L tb fr c hc hl hfl r (pre ++ [x]) f pre.length x (scr (c x) tb 0 0).1 (scr (c x) tb 0 0).2 (by rw [h]; simp) (by simp at hf; omega) (.inr ⟨pre.length, x, rfl, rfl, by rw [h]; simp⟩)
      refine ⟨k, st k _ _ _ e1 (by rw [hbe, if_pos e]), ?_⟩
      unfold pk
      rw [if_pos e]
      exact e2
    · obtain ⟨k, e1, e2⟩ := ch_1 hn L tb fr c hc hl hfl r (pre ++ [x]) f b gb m t (by rw [h]; simp) (by simp at hf; omega) hb
      refine ⟨k, st k _ _ _ e1 (by rw [hbe, if_neg e]), ?_⟩
      unfold pk
      rw [if_neg e]
      exact e2
/-- What is known of the square when a table is laid. -/
structure CelOk (n : Nat) (L : List Nat) (c : Nat → Nat → Int) : Prop where
  n64 : n ≤ 64
  cnt : ∀ x y, x < n → y < n → x ≠ y → ((L.count (x * n + y) : Nat) : Int) = c x y ∧ 0 ≤ c x y ∧ c x y ≤ 5000
theorem choose_eq {n : Nat} {L : List Nat} {c : Nat → Nat → Int} (h : CelOk n L c) {us tb : List Nat} (hcn : Cn n (us ++ tb)) (hlt : (us ++ tb).length < n) : ∃ k : Nat, evening_choose ((n : Int), cel n L) (toI1 tb) (toI1 (frOf n (us ++ tb))) = some (k : Int) ∧ (frOf n (us ++ tb))[k]? = some (pick (fun x => scr (c x) tb 0 0) n (us ++ tb)) := by
  have hn := h.n64
  have hfl := fr_len hcn
  have htl : tb.length ≤ 64 := by rw [List.length_append] at hlt; omega
  have hc : ∀ x ∈ frOf n (us ++ tb), x < n ∧ ∀ y ∈ tb, y < n ∧ ((L.count (x * n + y) : Nat) : Int) = c x y ∧ 0 ≤ c x y ∧ c x y ≤ 5000 := fun x hx => by
    obtain ⟨h1, h2⟩ := mem_fr.1 hx
    refine ⟨h1, fun y hy => ?_⟩
    have hy2 : y ∈ us ++ tb := by simp [hy]
    have hyn : y < n := by
      have := hcn y
      have := List.count_pos_iff.2 hy2
      split at * <;> omega
    exact ⟨hyn, h.cnt x y h1 hyn fun e => h2 (e ▸ hy2)⟩
  obtain ⟨k, e1, e2⟩ := ch_1 hn L tb (frOf n (us ++ tb)) c hc htl (by omega) (frOf n (us ++ tb)) [] 100000 (-1) (-1) 0 0 rfl (by omega) (.inl ⟨rfl, rfl⟩)
  rw [show ((([] : List Nat).length : Nat) : Int) = 0 from rfl] at e1
  obtain ⟨_, q2⟩ := pick_mem (fun x => scr (c x) tb 0 0) hcn hlt
  rw [q2] at e2
  rcases e2 with ⟨_, e⟩ | ⟨j, x, rfl, e, hj⟩
  · omega
  · refine ⟨j, ?_, ?_⟩
    · unfold evening_choose
      simp only
      rw [e1]
      rfl
    · have : pick (fun x => scr (c x) tb 0 0) n (us ++ tb) = x := by omega
      rw [this]; exact hj
theorem eraseIdx_toI : ∀ (l : List Nat) (k : Nat), (toI1 l).eraseIdx k = toI1 (l.eraseIdx k)
  | [], _ => rfl
  | x :: l, 0 => rfl
  | x :: l, k + 1 => by
    have := eraseIdx_toI l k
    show Int.ofNat x :: (toI1 l).eraseIdx k = Int.ofNat x :: toI1 (l.eraseIdx k)
    rw [this]
theorem pl_3 {n : Nat} {L : List Nat} {c : Nat → Nat → Int} (h : CelOk n L c) (x0 : Int) (x1 : List Int) (x2 : Int) (v6 : Int × Int × List Int) (hv : v6.1 = (n : Int)) (s3 : List (List (List Int))) (c99 : Int) (ev : List (List Int)) (c147 : Int) (K : Nat) (hK : K ≤ 64) (us : List Nat) : ∀ (k i f : Nat) (tb : List Nat), i + k = K → k < f → Cn n (us ++ tb) → (us ++ tb).length + k ≤ n →
    evening_Plan_3 x0 x1 x2 v6 (cel n L) s3 c99 ev c147 K f (toI1 (frOf n (us ++ tb))) (toI1 tb) i = some (toI1 (frOf n (us ++ plT c n us k tb)), toI1 (plT c n us k tb))
  | 0, i, f + 1, tb, hi, _, _, _ => by
    unfold evening_Plan_3
    rw [if_neg (by simp; omega)]
    rfl
  | k + 1, i, f + 1, tb, hi, hf, hcn, hl => by
    have hn := h.n64
    obtain ⟨j, e1, e2⟩ := choose_eq h hcn (by omega)
    have hm := (pick_mem (fun x => scr (c x) tb 0 0) hcn (by omega)).1
    have hcn2 := hcn.snoc hm
    have hjl := (List.getElem?_eq_some_iff.1 e2).1
    have hfl := fr_len hcn
    rw [List.append_assoc] at hcn2
    have ih := pl_3 h x0 x1 x2 v6 hv s3 c99 ev c147 K hK us k (i + 1) f (tb ++ [pick (fun x => scr (c x) tb 0 0) n (us ++ tb)]) (by omega) (by omega) hcn2 (by simp at hl ⊢; omega)
    have hdel : del1 (toI1 (frOf n (us ++ tb))) (j : Int) ((j + 1 : Nat) : Int) = some (toI1 (frOf n (us ++ (tb ++ [pick (fun x => scr (c x) tb 0 0) n (us ++ tb)])))) := by
      unfold del1
      rw [if_pos ⟨by omega, by omega, by rw [toI1_len]; omega⟩, Int.toNat_natCast, eraseIdx_toI, ← List.append_assoc us, fr_snoc, erase_ne (fr_nodup n _) j _ e2]
    have hidx : idx (toI1 (frOf n (us ++ tb))) (j : Int) = some ((pick (fun x => scr (c x) tb 0 0) n (us ++ tb) : Nat) : Int) := by
      rw [idx_lt (by rw [toI1_len]; exact hjl)]
      have : (frOf n (us ++ tb))[j] = pick (fun x => scr (c x) tb 0 0) n (us ++ tb) := by
        rw [List.getElem?_eq_getElem hjl] at e2
        exact Option.some.inj e2
      simp only [toI1, List.getElem_map, this]
      rfl
    unfold evening_Plan_3
    rw [if_pos (by simp; omega), hv, e1]
    simp only [Option.bind_some]
    rw [hidx]
    simp only [Option.bind_some]
    rw [if_pos (capOk_le (by omega) (by rw [toI1_len]; simp at hl; omega)), wr_nat (k := j) (by omega), hdel]
    simp only [Option.bind_some]
    have e3 : toI1 tb ++ [((pick (fun x => scr (c x) tb 0 0) n (us ++ tb) : Nat) : Int)] = toI1 (tb ++ [pick (fun x => scr (c x) tb 0 0) n (us ++ tb)]) := by simp [toI1]
    rw [e3, wr_nat (k := i) (by omega), ih]
    rfl
theorem pl_2 {n : Nat} {L : List Nat} {c : Nat → Nat → Int} (h : CelOk n L c) (x0 : Int) (sz : List Nat) (hsz : sz.length ≤ 64) (x2 : Int) (v6 : Int × Int × List Int) (hv : v6.1 = (n : Int)) (s3 : List (List (List Int))) (c99 : Int) : ∀ (r pre : List Nat) (f : Nat) (ev : List (List Nat)), sz = pre ++ r → r.length < f → ev.length = pre.length → Cn n ev.flatten → ev.flatten.length + r.sum ≤ n →
    evening_Plan_2 x0 (toI1 sz) x2 v6 (cel n L) s3 c99 f (toI1 (frOf n ev.flatten)) (toI2 ev) pre.length = some (toI2 (plE c n r ev))
  | [], pre, f + 1, ev, hs, _, _, _, _ => by
    unfold evening_Plan_2
    rw [if_neg (by rw [toI1_len, hs]; simp)]
    rfl
  | k :: r, pre, f + 1, ev, hs, hf, he, hcn, hl => by
    have hn := h.n64
    rw [List.sum_cons] at hl
    have hp : pre.length < sz.length := by rw [hs]; simp
    have h3 := pl_3 h x0 (toI1 sz) x2 v6 hv s3 c99 (toI2 ev) pre.length k (by omega) ev.flatten k 0 100000 [] (by omega) (by omega) (by rw [List.append_nil]; exact hcn) (by rw [List.append_nil]; omega)
    rw [List.append_nil, show toI1 ([] : List Nat) = [] from rfl, show ((0 : Nat) : Int) = 0 from rfl] at h3
    obtain ⟨a, b⟩ := plT_inv c n ev.flatten k [] (by rw [List.append_nil]; exact hcn) (by rw [List.append_nil]; omega)
    have e : (ev ++ [plT c n ev.flatten k []]).flatten = ev.flatten ++ plT c n ev.flatten k [] := by simp
    have ih := pl_2 h x0 sz hsz x2 v6 hv s3 c99 r (pre ++ [k]) f (ev ++ [plT c n ev.flatten k []]) (by rw [hs]; simp) (by simp at hf; omega) (by simp [he]) (by rw [e]; exact a) (by rw [e, List.length_append, b, List.length_nil]; omega)
    have a3 : ((pre.length + 1 : Nat) : Int) = ((pre ++ [k]).length : Int) := by simp
    have e2 : toI2 ev ++ [toI1 (plT c n ev.flatten k [])] = toI2 (ev ++ [plT c n ev.flatten k []]) := by simp [toI2]
    unfold evening_Plan_2
    rw [if_pos (by rw [toI1_len, hs]; simp; omega), show idx (toI1 sz) (pre.length : Int) = some (k : Int) by rw [hs]; exact idx_toI1 pre k r]
    simp only [Option.bind_some]
    rw [h3]
    simp only [Option.bind_some]
    rw [if_pos (capOk_le (by omega) (by rw [toI2_len]; omega)), e2, wr_nat (by omega), a3, ← e, ih]
    rfl
/- Meetings of an evening are counted. -/
theorem pk_y {n x y : Nat} {y2 : List (List (List Int))} {y3 : List (List Int)} {y4 : Int} {y5 : List Int} {y6 : List (List Int)} {y7 y8 : Int} (L : List Nat) (hn : n ≤ 64) (hL : L.length ≤ 10000000) (hx : x < n) (hy : y < n) : evening_Plan_k3_y n (cel n L) y2 y3 y4 y5 y6 y7 y8 x y = some (cel n (L ++ [x * n + y])) := by
  unfold evening_Plan_k3_y evening_Plan_k3_y_k1
  rw [cel_wr hn hx hy, cel_idx L hx hy]
  simp only [Option.bind_some]
  rw [cel_set L hL hx hy]
section
variable (y2 : List (List (List Int))) (y3 : List (List Int)) (y4 : Int) (y5 : List Int) (y6 : List (List Int)) (y7 y8 c1 : Int)
theorem pk_3 (n : Nat) (hn : n ≤ 64) (t : List Nat) (ht : ∀ x ∈ t, x < n) (htl : t.length ≤ 2000) (i x : Nat) (hx : x < n) : ∀ (r pre : List Nat) (f : Nat) (L : List Nat), t = pre ++ r → r.length < f → L.length + r.length ≤ 10000000 →
    evening_Plan_k3_3 n y2 y3 y4 y5 y6 y7 y8 c1 (toI1 t) i x f pre.length (cel n L) = some (cel n (L ++ inner n x i pre.length r))
  | [], pre, f + 1, L, h, _, _ => by
    unfold evening_Plan_k3_3
    rw [if_neg (by rw [toI1_len, h]; simp)]
    simp [inner]
  | y :: r, pre, f + 1, L, h, hf, hL => by
    have hy : y < n := ht y (by rw [h]; simp)
    simp only [List.length_cons] at hf hL
    have hwr : wr .i64 ((pre.length : Int) + 1) = ((pre ++ [y]).length : Int) := by
      have : pre.length ≤ t.length := by rw [h]; simp
      rw [wr_nat (by omega)]; simp
    have rec_ := fun L' hL' => pk_3 n hn t ht htl i x hx r (pre ++ [y]) f L' (by rw [h]; simp) (by omega) hL'
    unfold evening_Plan_k3_3
    rw [if_pos (by rw [toI1_len, h]; simp; omega), show idx (toI1 t) (pre.length : Int) = some (y : Int) by rw [h]; exact idx_toI1 pre y r]
    simp only [Option.bind_some, inner]
    by_cases e : i = pre.length
    · rw [if_neg (by simp [e]), if_pos e, hwr, rec_ L (by omega)]
      simp
    · rw [if_pos (by simp; omega), if_neg e, pk_y L hn (by omega) hx hy]
      simp only [Option.bind_some]
      rw [hwr, rec_ _ (by simp; omega)]
      simp
theorem pk_2 (n : Nat) (hn : n ≤ 64) (t : List Nat) (ht : ∀ x ∈ t, x < n) (htl : t.length ≤ 2000) : ∀ (r pre : List Nat) (f : Nat) (L : List Nat), t = pre ++ r → r.length < f → L.length + t.length * r.length ≤ 10000000 →
    evening_Plan_k3_2 n y2 y3 y4 y5 y6 y7 y8 c1 (toI1 t) f pre.length (cel n L) = some (cel n (L ++ meetG n t pre.length r))
  | [], pre, f + 1, L, h, _, _ => by
    unfold evening_Plan_k3_2
    rw [if_neg (by rw [toI1_len, h]; simp)]
    simp [meetG]
  | x :: r, pre, f + 1, L, h, hf, hL => by
    have hx : x < n := ht x (by rw [h]; simp)
    simp only [List.length_cons, Nat.mul_succ] at hf hL
    have hwr : wr .i64 ((pre.length : Int) + 1) = ((pre ++ [x]).length : Int) := by
      have : pre.length ≤ t.length := by rw [h]; simp
      rw [wr_nat (by omega)]; simp
    have h3 := pk_3 y2 y3 y4 y5 y6 y7 y8 c1 n hn t ht htl pre.length x hx t [] 100000 L rfl (by omega) (by omega)
    rw [show ((([] : List Nat).length : Nat) : Int) = 0 from rfl, show ([] : List Nat).length = 0 from rfl] at h3
    have hin := inner_len n x pre.length t 0
    have ih := pk_2 n hn t ht htl r (pre ++ [x]) f (L ++ inner n x pre.length 0 t) (by rw [h]; simp) (by omega) (by rw [List.length_append]; omega)
    unfold evening_Plan_k3_2
    rw [if_pos (by rw [toI1_len, h]; simp; omega), show idx (toI1 t) (pre.length : Int) = some (x : Int) by rw [h]; exact idx_toI1 pre x r]
    simp only [Option.bind_some]
    rw [h3]
    simp only [Option.bind_some]
    rw [hwr, ih]
    simp [meetG]
end
theorem pk_1 (y2 : List (List (List Int))) (y4 : Int) (y5 : List Int) (y6 : List (List Int)) (y7 y8 : Int) (n : Nat) (hn : n ≤ 64) (ev : List (List Nat)) (hev : ∀ t ∈ ev, ∀ x ∈ t, x < n) (hel : ∀ t ∈ ev, t.length ≤ 2000) (hev2 : ev.length ≤ 90000) : ∀ (r pre : List (List Nat)) (f : Nat) (L : List Nat), ev = pre ++ r → r.length < f → L.length + sqs r ≤ 10000000 →
    evening_Plan_k3_1 n y2 (toI2 ev) y4 y5 y6 y7 y8 f pre.length (cel n L) = some (cel n (L ++ meetE n r))
  | [], pre, f + 1, L, h, _, _ => by
    unfold evening_Plan_k3_1
    rw [if_neg (by rw [toI2_len, h]; simp)]
    simp [meetE]
  | t :: r, pre, f + 1, L, h, hf, hL => by
    have htl : t.length ≤ 2000 := hel t (by rw [h]; simp)
    simp only [sqs] at hL
    have h3 := pk_2 y2 (toI2 ev) y4 y5 y6 y7 y8 pre.length n hn t (hev t (by rw [h]; simp)) (by omega) t [] 100000 L rfl (by omega) (by omega)
    rw [show ((([] : List Nat).length : Nat) : Int) = 0 from rfl, meetG_T n t t [] rfl] at h3
    have hwr : wr .i64 ((pre.length : Int) + 1) = ((pre ++ [t]).length : Int) := by
      have : pre.length ≤ ev.length := by rw [h]; simp
      rw [wr_nat (by omega)]; simp
    have hb := meetT_len n t
    have ih := pk_1 y2 y4 y5 y6 y7 y8 n hn ev hev hel hev2 r (pre ++ [t]) f (L ++ meetT n [] t) (by rw [h]; simp) (by simp at hf; omega) (by rw [List.length_append]; omega)
    unfold evening_Plan_k3_1
    rw [if_pos (by rw [toI2_len, h]; simp; omega), show idx (toI2 ev) (pre.length : Int) = some (toI1 t) by rw [h]; exact idx_toI2 pre t r]
    simp only [Option.bind_some]
    rw [h3]
    simp only [Option.bind_some]
    rw [hwr, ih]
    simp [meetE]
theorem pS_le {n x y : Nat} (hn : n ≤ 64) : ∀ (s : List (List (List Nat))), (∀ ev ∈ s, EvV n ev) → pS x y s ≤ 64 * s.length
  | [], _ => by simp [pS]
  | ev :: s, h => by
    have ih := pS_le (x := x) (y := y) hn s fun u hu => h u (by simp [hu])
    have he := h ev (by simp)
    have := pE_le x y ev fun t ht => ⟨he.le1 ht x, he.le1 ht y⟩
    have := he.elen
    simp only [pS, List.length_cons]; omega
theorem celOk_of {n : Nat} (hn : n ≤ 64) {s : List (List (List Nat))} (hs : s.length ≤ 64) (hv : ∀ ev ∈ s, EvV n ev) : CelOk n (meetS n s) (metI s) := by
  refine ⟨hn, fun x y hx hy hxy => ?_⟩
  have h1 := meetS_count n x y hy hxy s fun ev he => (hv ev he).lt
  have h2 := pS_le (x := x) (y := y) hn s hv
  unfold metI
  exact ⟨by rw [h1], by omega, by omega⟩
theorem meetS_snoc (n : Nat) : ∀ (s : List (List (List Nat))) (ev : List (List Nat)), meetS n (s ++ [ev]) = meetS n s ++ meetE n ev
  | [], ev => by simp [meetS]
  | e :: s, ev => by
    have := meetS_snoc n s ev
    simp only [List.cons_append, meetS, this, List.append_assoc]
theorem meetS_len (n : Nat) : ∀ (s : List (List (List Nat))), (meetS n s).length ≤ sqS s
  | [] => by simp [meetS]
  | ev :: s => by
    have := meetS_len n s
    have := meetE_len n ev
    simp only [meetS, sqS, List.length_append]; omega
theorem fr_nil (n : Nat) : frOf n [] = List.range n := by
  unfold frOf
  rw [List.filter_eq_self.2 (by simp)]
theorem pl_1 {n : Nat} (hn : n ≤ 64) (hn1 : 1 ≤ n) {sz : List Nat} (hsz : sz.length ≤ 64) (hsum : sz.sum = n) (hpos : ∀ k ∈ sz, 1 ≤ k) (E : Nat) (hE : E ≤ 64) (v6 : Int × Int × List Int) (hv : v6.1 = (n : Int)) : ∀ (e f : Nat) (s : List (List (List Nat))), s.length + e = E → e < f → (∀ ev ∈ s, Evn n sz ev) →
    evening_Plan_1 n (toI1 sz) E v6 f (cel n (meetS n s)) (toI3 s) s.length = some (toI3 (plS n sz e s))
  | 0, f + 1, s, h, _, _ => by
    unfold evening_Plan_1
    rw [if_neg (by simp; omega)]
    rfl
  | e + 1, f + 1, s, h, hf, hs => by
    have hvv : ∀ ev ∈ s, EvV n ev := fun ev he => (hs ev he).v
    have hck := celOk_of hn (by omega) hvv
    have hev := plE_evn (metI s) hsum hpos
    have h2 := pl_2 hck n sz hsz E v6 hv (toI3 s) s.length sz [] 100000 [] rfl (by omega) rfl (fun j => by simp) (by simp; omega)
    rw [show ((([] : List Nat).length : Nat) : Int) = 0 from rfl, show toI2 ([] : List (List Nat)) = [] from rfl, List.flatten_nil, fr_nil] at h2
    obtain ⟨_, smm⟩ := evv_small hn (by omega) hvv
    have hml := meetS_len n s
    have hall := smm.all
    have hvn := hev.v
    have hsq : sqs (plE (metI s) n sz []) ≤ 4096 := by
      have := sqs_le (plE (metI s) n sz []) fun t ht => by have := hvn.tlen ht; omega
      have := hvn.flen
      omega
    have h3 := pk_1 (toI3 s) n (toI1 sz) (toI2 (plE (metI s) n sz [])) E s.length n hn (plE (metI s) n sz []) hvn.lt (fun t ht => by have := hvn.tlen ht; omega) (by have := hvn.elen; omega) (plE (metI s) n sz []) [] 100000 (meetS n s) rfl (by have := hvn.elen; omega) (by omega)
    rw [show ((([] : List (List Nat)).length : Nat) : Int) = 0 from rfl] at h3
    have ih := pl_1 hn hn1 hsz hsum hpos E hE v6 hv e f (s ++ [plE (metI s) n sz []]) (by simp; omega) (by omega) fun ev he => by
      rcases List.mem_append.1 he with he | he
      · exact hs ev he
      · rw [List.mem_singleton.1 he]; exact hev
    have e1 : toI3 s ++ [toI2 (plE (metI s) n sz [])] = toI3 (s ++ [plE (metI s) n sz []]) := by simp [toI3]
    have a3 : ((s.length + 1 : Nat) : Int) = ((s ++ [plE (metI s) n sz []]).length : Int) := by simp
    unfold evening_Plan_1
    rw [if_pos (by simp; omega), spanP hn]
    simp only [Option.bind_some]
    rw [if_pos (by rw [toI1_len]; simp; omega), h2]
    simp only [Option.bind_some]
    unfold evening_Plan_k2 evening_Plan_k3
    rw [hv]
    simp only [Option.bind_some]
    rw [h3]
    simp only [Option.bind_some]
    rw [if_pos (capOk_le (by omega) (by rw [toI3_len]; omega)), e1, wr_nat (by omega), a3, ← meetS_snoc, ih]
    rfl
/-- Plan of sizes that fit. -/
theorem plan_eq {n : Nat} {sz : List Nat} (hf : fitP n (toI1 sz) = true) (hsz : sz.length ≤ 64) (hsum : sz.sum = n) (hpos : ∀ k ∈ sz, 1 ≤ k) (hn1 : 1 ≤ n) (hn : n ≤ 64) {E : Nat} (hE : E ≤ 64) : evening_Plan n (toI1 sz) E = some (toI3 (plS n sz E []), 0) := by
  unfold evening_Plan
  rw [evening_fit_eq n ⟨by omega, by omega⟩ (toI1 sz) (by rw [toI1_len]; omega), hf]
  simp only [Option.bind_some, Bool.not_true, Bool.false_eq_true, if_false]
  have e1 : decide ((E : Int) < 0) = false := by simp
  have e2 : decide ((E : Int) > 64) = false := by simp; omega
  rw [e1, e2]
  simp only [Bool.false_eq_true, if_false, Option.bind_some]
  obtain ⟨m1, m2⟩ := mkOk_nn hn
  unfold evening_Plan_k1
  rw [if_pos m1, m2]
  simp only [Option.bind_some]
  have := pl_1 hn hn1 hsz hsum hpos E hE ((n : Int), (n : Int), cel n []) rfl E 100000 [] (by simp) (by omega) (fun ev h => by cases h)
  rw [show toI3 ([] : List (List (List Nat))) = [] from rfl, show ((([] : List (List (List Nat))).length : Nat) : Int) = 0 from rfl, show meetS n [] = [] from rfl] at this
  rw [this]
  rfl
/- Together. -/
def tgE (a b : Int) (i : Int) : List (List Int) → List Int
  | [] => []
  | t :: ev => (if a ∈ t ∧ b ∈ t then [i] else []) ++ tgE a b i ev
def tgS (a b : Int) : Int → List (List (List Int)) → List Int
  | _, [] => []
  | i, ev :: s => tgE a b i ev ++ tgS a b (i + 1) s
theorem tgE_len (a b i : Int) : ∀ ev, (tgE a b i ev).length ≤ ev.length
  | [] => by simp [tgE]
  | t :: ev => by
    have := tgE_len a b i ev
    simp only [tgE, List.length_append, List.length_cons]
    split
    · simp only [List.length_singleton]; omega
    · simp only [List.length_nil]; omega
structure Sm2 (s : List (List (List Int))) : Prop where
  len : s.length ≤ 70
  ev : ∀ ev ∈ s, ev.length ≤ 64 ∧ ∀ t ∈ ev, t.length ≤ 1000
theorem has_1 (xs : List Int) (v : Int) (hl : xs.length ≤ 90000) : ∀ (r pre : List Int) (f : Nat), xs = pre ++ r → r.length < f → ref09_has_1 xs v f pre.length = some (if v ∈ r then .inr true else .inl ())
  | [], pre, f + 1, h, _ => by
    unfold ref09_has_1
    rw [if_neg (by rw [h]; simp)]
    rfl
  | u :: r, pre, f + 1, h, hf => by
    have ih := has_1 xs v hl r (pre ++ [u]) f (by rw [h]; simp) (by simp at hf; omega)
    have hp : pre.length < xs.length := by rw [h]; simp
    have a3 : ((pre.length + 1 : Nat) : Int) = ((pre ++ [u]).length : Int) := by simp
    unfold ref09_has_1
    rw [if_pos (by rw [h]; simp; omega), show idx xs (pre.length : Int) = some u by rw [h]; exact idx_app pre u r]
    simp only [Option.bind_some]
    by_cases e : u = v
    · subst e; simp
    · have : (u == v) = false := by simpa using e
      rw [this, wr_nat (by omega), a3, ih]
      have e2 : v ∈ u :: r ↔ v ∈ r := by
        constructor
        · intro h; rcases List.mem_cons.1 h with h | h
          · exact absurd h.symm e
          · exact h
        · intro h; exact List.mem_cons_of_mem _ h
      by_cases hm : v ∈ r
      · simp [hm]
      · have hm2 : ¬ v ∈ u :: r := fun h => hm (e2.1 h)
        simp only [hm, hm2, if_false, Bool.false_eq_true]
theorem has_eq (xs : List Int) (v : Int) (hl : xs.length ≤ 90000) : ref09_has xs v = some (decide (v ∈ xs)) := by
  have h := has_1 xs v hl xs [] 100000 rfl (by omega)
  rw [show ((([] : List Int).length : Nat) : Int) = 0 from rfl] at h
  unfold ref09_has
  rw [h]
  by_cases hm : v ∈ xs
  · simp [hm]
  · simp [hm]
theorem etog_2 (x1 : List (List (List Int))) (a b c6 : Int) (ev : List (List Int)) (hl : ∀ t ∈ ev, t.length ≤ 1000) (hel : ev.length ≤ 64) : ∀ (r pre : List (List Int)) (f : Nat) (out : List Int), ev = pre ++ r → r.length < f → out.length + r.length ≤ 100000 → evening_Together_2 x1 a b c6 ev f out pre.length = some (out ++ tgE a b c6 r)
  | [], pre, f + 1, out, h, _, _ => by
    unfold evening_Together_2
    rw [if_neg (by rw [h]; simp)]
    simp [tgE]
  | t :: r, pre, f + 1, out, h, hf, ho => by
    have ht := hl t (by rw [h]; simp)
    have hp : pre.length < ev.length := by rw [h]; simp
    simp only [List.length_cons] at ho hf
    have a3 : ((pre.length + 1 : Nat) : Int) = ((pre ++ [t]).length : Int) := by simp
    have rec_ := fun out2 ho2 => etog_2 x1 a b c6 ev hl hel r (pre ++ [t]) f out2 (by rw [h]; simp) (by omega) ho2
    unfold evening_Together_2
    rw [if_pos (by rw [h]; simp; omega), show idx ev (pre.length : Int) = some t by rw [h]; exact idx_app pre t r]
    simp only [Option.bind_some]
    rw [contains_eq t a (by omega), contains_eq t b (by omega)]
    simp only [Option.bind_some]
    have e : (if decide (a ∈ t) = true then some (out, decide (b ∈ t)) else some (out, false)) = some (out, decide (a ∈ t ∧ b ∈ t)) := by
      by_cases h1 : a ∈ t
      · simp [h1]
      · simp [h1]
    rw [e]
    simp only [Option.bind_some, tgE]
    unfold evening_Together_j3
    by_cases h1 : a ∈ t ∧ b ∈ t
    · simp only [h1, and_self, decide_true, if_true]
      rw [if_pos (capOk_le (by omega) (by omega))]
      simp only [Option.bind_some]
      rw [wr_nat (by omega), a3, rec_ _ (by simp; omega)]
      simp
    · rw [if_neg h1]
      simp only [decide_eq_false h1, Bool.false_eq_true, if_false, Option.bind_some]
      rw [wr_nat (by omega), a3, rec_ _ (by omega)]
      simp
theorem etog_1 (a b : Int) (s : List (List (List Int))) (hs : Sm2 s) : ∀ (r pre : List (List (List Int))) (f : Nat) (out : List Int), s = pre ++ r → r.length < f → out.length + 64 * r.length ≤ 10000 → evening_Together_1 s a b f out pre.length = some (out ++ tgS a b pre.length r)
  | [], pre, f + 1, out, h, _, _ => by
    unfold evening_Together_1
    rw [if_neg (by rw [h]; simp)]
    simp [tgS]
  | ev :: r, pre, f + 1, out, h, hf, ho => by
    obtain ⟨h1, h2⟩ := hs.ev ev (by rw [h]; simp)
    have hp : pre.length < s.length := by rw [h]; simp
    have hsl := hs.len
    simp only [List.length_cons] at ho hf
    have hte := tgE_len a b pre.length ev
    have a3 : ((pre.length + 1 : Nat) : Int) = ((pre ++ [ev]).length : Int) := by simp
    have e2 := etog_2 s a b pre.length ev h2 h1 ev [] 100000 out rfl (by omega) (by omega)
    rw [show ((([] : List (List Int)).length : Nat) : Int) = 0 from rfl] at e2
    have ih := etog_1 a b s hs r (pre ++ [ev]) f (out ++ tgE a b pre.length ev) (by rw [h]; simp) (by omega) (by rw [List.length_append]; omega)
    unfold evening_Together_1
    rw [if_pos (by rw [h]; simp; omega), show idx s (pre.length : Int) = some ev by rw [h]; exact idx_app pre ev r]
    simp only [Option.bind_some]
    rw [e2]
    simp only [Option.bind_some]
    rw [wr_nat (by omega), a3, ih]
    simp [tgS]
theorem rtog_2 (s : List (List (List Int))) (a b : Int) (c2 : Int) (ev : List (List Int)) (hi : idx s c2 = some ev) (hl : ∀ t ∈ ev, t.length ≤ 1000) (hel : ev.length ≤ 64) : ∀ (r pre : List (List Int)) (f : Nat) (out : List Int), ev = pre ++ r → r.length < f → out.length + r.length ≤ 100000 → ref09_Together_2 s a b c2 f out pre.length = some (out ++ tgE a b c2 r)
  | [], pre, f + 1, out, h, _, _ => by
    unfold ref09_Together_2
    rw [hi]
    simp only [Option.bind_some]
    rw [if_neg (by rw [h]; simp)]
    simp [tgE]
  | t :: r, pre, f + 1, out, h, hf, ho => by
    have ht := hl t (by rw [h]; simp)
    have hp : pre.length < ev.length := by rw [h]; simp
    simp only [List.length_cons] at ho hf
    have a3 : ((pre.length + 1 : Nat) : Int) = ((pre ++ [t]).length : Int) := by simp
    have rec_ := fun out2 ho2 => rtog_2 s a b c2 ev hi hl hel r (pre ++ [t]) f out2 (by rw [h]; simp) (by omega) ho2
    unfold ref09_Together_2
    rw [hi]
    simp only [Option.bind_some]
    rw [if_pos (by rw [h]; simp; omega), show idx ev (pre.length : Int) = some t by rw [h]; exact idx_app pre t r]
    simp only [Option.bind_some]
    rw [has_eq t a (by omega), has_eq t b (by omega)]
    simp only [Option.bind_some]
    have e : (if decide (a ∈ t) = true then some (out, decide (b ∈ t)) else some (out, false)) = some (out, decide (a ∈ t ∧ b ∈ t)) := by
      by_cases h1 : a ∈ t
      · simp [h1]
      · simp [h1]
    rw [e]
    simp only [Option.bind_some, tgE]
    unfold ref09_Together_j3
    by_cases h1 : a ∈ t ∧ b ∈ t
    · simp only [h1, and_self, decide_true, if_true]
      rw [if_pos (capOk_le (by omega) (by omega))]
      simp only [Option.bind_some]
      rw [wr_nat (by omega), a3, rec_ _ (by simp; omega)]
      simp
    · rw [if_neg h1]
      simp only [decide_eq_false h1, Bool.false_eq_true, if_false, Option.bind_some]
      rw [wr_nat (by omega), a3, rec_ _ (by omega)]
      simp
theorem rtog_1 (a b : Int) (s : List (List (List Int))) (hs : Sm2 s) : ∀ (r pre : List (List (List Int))) (f : Nat) (out : List Int), s = pre ++ r → r.length < f → out.length + 64 * r.length ≤ 10000 → ref09_Together_1 s a b f out pre.length = some (out ++ tgS a b pre.length r)
  | [], pre, f + 1, out, h, _, _ => by
    unfold ref09_Together_1
    rw [if_neg (by rw [h]; simp)]
    simp [tgS]
  | ev :: r, pre, f + 1, out, h, hf, ho => by
    obtain ⟨h1, h2⟩ := hs.ev ev (by rw [h]; simp)
    have hp : pre.length < s.length := by rw [h]; simp
    have hsl := hs.len
    simp only [List.length_cons] at ho hf
    have hte := tgE_len a b pre.length ev
    have a3 : ((pre.length + 1 : Nat) : Int) = ((pre ++ [ev]).length : Int) := by simp
    have e2 := rtog_2 s a b pre.length ev (by rw [h]; exact idx_app pre ev r) h2 h1 ev [] 100000 out rfl (by omega) (by omega)
    rw [show ((([] : List (List Int)).length : Nat) : Int) = 0 from rfl] at e2
    have ih := rtog_1 a b s hs r (pre ++ [ev]) f (out ++ tgE a b pre.length ev) (by rw [h]; simp) (by omega) (by rw [List.length_append]; omega)
    unfold ref09_Together_1
    rw [if_pos (by rw [h]; simp; omega), e2]
    simp only [Option.bind_some]
    rw [wr_nat (by omega), a3, ih]
    simp [tgS]
theorem tgE_pE {n x y : Nat} (i : Int) : ∀ (ev : List (List Nat)), (∀ t ∈ ev, t.count x ≤ 1 ∧ t.count y ≤ 1) → (tgE x y i (toI2 ev)).length = pE x y ev
  | [], _ => rfl
  | t :: ev, h => by
    have ih := tgE_pE (n := n) i ev fun u hu => h u (by simp [hu])
    obtain ⟨h1, h2⟩ := h t (by simp)
    have cm : ∀ z, t.count z ≤ 1 → t.count z = if z ∈ t then 1 else 0 := fun z hz => by
      by_cases hm : z ∈ t
      · have := List.count_pos_iff.2 hm
        rw [if_pos hm]; omega
      · rw [if_neg hm]; exact List.count_eq_zero.2 hm
    have e : toI2 (t :: ev) = toI1 t :: toI2 ev := rfl
    rw [e]
    simp only [tgE, pE, List.length_append, ih, mem_toI]
    rw [cm x h1, cm y h2]
    by_cases hx : x ∈ t
    · by_cases hy : y ∈ t
      · simp [hx, hy]
      · simp [hx, hy]
    · simp [hx]
theorem tgS_pS {n x y : Nat} : ∀ (s : List (List (List Nat))) (i : Int), (∀ ev ∈ s, EvV n ev) → (tgS x y i (toI3 s)).length = pS x y s
  | [], _, _ => rfl
  | ev :: s, i, h => by
    have ih := tgS_pS (n := n) (x := x) (y := y) s (i + 1) fun u hu => h u (by simp [hu])
    have he := h ev (by simp)
    have e : toI3 (ev :: s) = toI2 ev :: toI3 s := rfl
    rw [e]
    simp only [tgS, pS, List.length_append, ih]
    rw [tgE_pE (n := n) i ev fun t ht => ⟨he.le1 ht x, he.le1 ht y⟩]
theorem before_eq {n : Nat} (hn : n ≤ 64) {s : List (List (List Nat))} (hs : s.length ≤ 64) (hv : ∀ ev ∈ s, EvV n ev) (x y : Nat) : ref09_before (toI3 s) x y = some (metI s x y) := by
  have sm : Sm2 (toI3 s) := by
    refine ⟨by rw [toI3_len]; omega, fun ev he => ?_⟩
    obtain ⟨u, hu, rfl⟩ := List.mem_map.1 he
    have := (hv u hu).elen
    refine ⟨by rw [toI2_len]; omega, fun t ht => ?_⟩
    obtain ⟨v, hv', rfl⟩ := List.mem_map.1 ht
    have := (hv u hu).tlen hv'
    rw [toI1_len]; omega
  have h := rtog_1 x y (toI3 s) sm (toI3 s) [] 100000 [] rfl (by rw [toI3_len]; omega) (by rw [toI3_len]; simp; omega)
  rw [show ((([] : List (List (List Int))).length : Nat) : Int) = 0 from rfl, List.nil_append] at h
  have h2 : ref09_Together (toI3 s) x y = some (tgS x y 0 (toI3 s)) := by
    unfold ref09_Together
    rw [h]
    rfl
  unfold ref09_before
  rw [h2]
  simp only [Option.bind_some]
  rw [tgS_pS (n := n) s 0 hv]
  rfl
theorem metI_b {n : Nat} (hn : n ≤ 64) {s : List (List (List Nat))} (hs : s.length ≤ 64) (hv : ∀ ev ∈ s, EvV n ev) (x y : Nat) : 0 ≤ metI s x y ∧ metI s x y ≤ 5000 := by
  have key : ∀ (s : List (List (List Nat))), (∀ ev ∈ s, EvV n ev) → pS x y s ≤ 64 * s.length := fun s => by
    induction s with
    | nil => intro _; simp [pS]
    | cons ev s ih =>
      intro h
      have ih := ih fun u hu => h u (by simp [hu])
      have he := h ev (by simp)
      have := pE_le x y ev fun t ht => ⟨he.le1 ht x, he.le1 ht y⟩
      have := he.elen
      simp only [pS, List.length_cons]; omega
  have := key s hv
  unfold metI
  omega
section
variable {n : Nat} (hn : n ≤ 64) {s : List (List (List Nat))} (hs : s.length ≤ 64) (hv : ∀ ev ∈ s, EvV n ev)
include hn hs hv
theorem rp_5 (x0 : Int) (x1 : List Int) (x2 c7 : Int) (c9 : List (List Int)) (c10 : Int) (tb : List Nat) (hl : tb.length ≤ 64) (c15 c16 c17 : Int) (x : Nat) : ∀ (r pre : List Nat) (f : Nat) (a b : Int), tb = pre ++ r → r.length < f → 0 ≤ b → b ≤ 5000 * pre.length →
    ref09_Plan_5 x0 x1 x2 (toI3 s) c7 c9 c10 (toI1 tb) c15 c16 c17 x f a b pre.length = some (scr (metI s x) r a b)
  | [], pre, f + 1, a, b, h, _, _, _ => by
    unfold ref09_Plan_5
    rw [if_neg (by rw [toI1_len, h]; simp)]
    rfl
  | y :: r, pre, f + 1, a, b, h, hf, h0, h1 => by
    obtain ⟨k3, k4⟩ := metI_b hn hs hv x y
    have hp : pre.length < tb.length := by rw [h]; simp
    have ih := rp_5 x0 x1 x2 c7 c9 c10 tb hl c15 c16 c17 x r (pre ++ [y]) f (mxI a (metI s x y)) (b + metI s x y) (by rw [h]; simp) (by simp at hf; omega) (by omega) (by simp; omega)
    have a3 : ((pre.length + 1 : Nat) : Int) = ((pre ++ [y]).length : Int) := by simp
    unfold ref09_Plan_5
    rw [if_pos (by rw [toI1_len, h]; simp; omega), show idx (toI1 tb) (pre.length : Int) = some (y : Int) by rw [h]; exact idx_toI1 pre y r]
    simp only [Option.bind_some]
    rw [before_eq hn hs hv]
    simp only [Option.bind_some]
    rw [wr_i (n := b + metI s x y) (by omega) (by omega), wr_nat (by omega), a3, ih]
    rfl
theorem rp_4 (x1 : List Int) (x2 c7 : Int) (ev : List (List Nat)) (hel : ev.length ≤ 64) (hef : ev.flatten.length ≤ 64) (c10 : Int) (tb : List Nat) (hl : tb.length ≤ 64) : ∀ (k i f : Nat) (b m t : Int), i + k = n → k < f →
    ref09_Plan_4 n x1 x2 (toI3 s) c7 (toI2 ev) c10 (toI1 tb) f b m t i = some (pk (fun x => scr (metI s x) tb 0 0) ((List.range' i k).filter fun x => decide (¬ x ∈ ev.flatten ++ tb)) b m t).1
  | 0, i, f + 1, b, m, t, h, _ => by
    unfold ref09_Plan_4
    rw [if_neg (by simp; omega)]
    rfl
  | k + 1, i, f + 1, b, m, t, h, hf => by
    have ih := fun b m t => rp_4 x1 x2 c7 ev hel hef c10 tb hl k (i + 1) f b m t (by omega) (by omega)
    have a3 : wr .i64 ((i : Int) + 1) = ((i + 1 : Nat) : Int) := wr_nat (by omega)
    have ht : ref09_times (toI2 ev) i = some ((ev.flatten.count i : Nat) : Int) := by
      rw [times_eq (toI2 ev) i (by rw [toI2_len]; omega) (by rw [toI2_flat, toI1_len]; omega), toI2_flat, toI1_count]
    have hh : ref09_has (toI1 tb) i = some (decide (i ∈ tb)) := (has_eq (toI1 tb) i (by rw [toI1_len]; omega)).trans (congrArg some (decide_eq_decide.2 mem_toI))
    have hj : ((if (decide (((ev.flatten.count i : Nat) : Int) > 0)) = true then some true else (ref09_has (toI1 tb) i).bind fun v21 => some v21) : Option Bool) = some (decide (i ∈ ev.flatten ++ tb)) := by
      rw [hh]
      by_cases h1 : i ∈ ev.flatten
      · have := List.count_pos_iff.2 h1
        rw [if_pos (decide_eq_true (by omega))]
        simp only [List.mem_append, h1, true_or, decide_true]
      · have := List.count_eq_zero.2 h1
        rw [if_neg (fun h => by have := of_decide_eq_true h; omega)]
        simp only [Option.bind_some, List.mem_append, h1, false_or]
    unfold ref09_Plan_4
    rw [if_pos (by simp; omega), ht]
    simp only [Option.bind_some]
    rw [hj]
    simp only [Option.bind_some]
    rw [List.range'_succ]
    by_cases hm : i ∈ ev.flatten ++ tb
    · rw [if_pos (decide_eq_true hm), a3, ih, List.filter_cons_of_neg (p := fun x => decide (¬ x ∈ ev.flatten ++ tb)) (fun h => (of_decide_eq_true h) hm)]
    · rw [if_neg (fun h => hm (of_decide_eq_true h)), List.filter_cons_of_pos (p := fun x => decide (¬ x ∈ ev.flatten ++ tb)) (decide_eq_true hm)]
      have h5 := rp_5 hn hs hv n x1 x2 c7 (toI2 ev) c10 tb hl b m t i tb [] 100000 0 0 rfl (by omega) (by omega) (by simp)
      rw [show ((([] : List Nat).length : Nat) : Int) = 0 from rfl] at h5
      rw [h5]
      simp only [Option.bind_some]
      have hb : ∀ (b a m s t : Int), (if (decide (b < 0)) = true then some true else if (decide (a < m)) = true then some true else if (a == m) = true then some (decide (s < t)) else some false) = some (bet b a m s t) := fun b a m s t => by
        unfold bet
        cases decide (b < 0) <;> cases decide (a < m) <;> cases (a == m) <;> rfl
      rw [hb]
      simp only [Option.bind_some]
      unfold ref09_Plan_j6
      unfold pk
      by_cases e : bet b (scr (metI s i) tb 0 0).1 m (scr (metI s i) tb 0 0).2 t = true
      · rw [if_pos e, if_pos e]
        simp only [Option.bind_some]
        rw [a3, ih]
      · rw [if_neg e, if_neg e]
        simp only [Option.bind_some]
        rw [a3, ih]
theorem rp_3 (sz : List Nat) (x2 c7 : Int) (ev : List (List Nat)) (hel : ev.length ≤ 64) (j K : Nat) (hj : sz[j]? = some K) (hK : K ≤ 64) : ∀ (k f : Nat) (tb : List Nat), tb.length + k = K → k < f → Cn n (ev.flatten ++ tb) → (ev.flatten ++ tb).length + k ≤ n →
    ref09_Plan_3 n (toI1 sz) x2 (toI3 s) c7 (toI2 ev) j f (toI1 tb) = some (toI1 (plT (metI s) n ev.flatten k tb))
  | 0, f + 1, tb, h, _, _, _ => by
    have hi : idx (toI1 sz) (j : Int) = some (K : Int) := by
      have hjl := (List.getElem?_eq_some_iff.1 hj).1
      rw [idx_lt (by rw [toI1_len]; exact hjl)]
      rw [List.getElem?_eq_getElem hjl] at hj
      simp only [toI1, List.getElem_map, Option.some.inj hj]
      rfl
    unfold ref09_Plan_3
    rw [hi]
    simp only [Option.bind_some]
    rw [if_neg (by rw [toI1_len]; simp; omega)]
    rfl
  | k + 1, f + 1, tb, h, hf, hcn, hl => by
    have hi : idx (toI1 sz) (j : Int) = some (K : Int) := by
      have hjl := (List.getElem?_eq_some_iff.1 hj).1
      rw [idx_lt (by rw [toI1_len]; exact hjl)]
      rw [List.getElem?_eq_getElem hjl] at hj
      simp only [toI1, List.getElem_map, Option.some.inj hj]
      rfl
    obtain ⟨hm, q2⟩ := pick_mem (fun x => scr (metI s x) tb 0 0) hcn (by omega)
    have hcn2 := hcn.snoc hm
    rw [List.append_assoc] at hcn2
    have hll : ev.flatten.length + tb.length + (k + 1) ≤ n := by rw [← List.length_append]; exact hl
    have h4 := rp_4 hn hs hv (toI1 sz) x2 c7 ev hel (by omega) j tb (by omega) n 0 100000 (-1) 0 0 (by omega) (by omega)
    have er : ((List.range' 0 n).filter fun x => decide (¬ x ∈ ev.flatten ++ tb)) = frOf n (ev.flatten ++ tb) := by
      unfold frOf; rw [List.range_eq_range']
    rw [er, q2, show ((0 : Nat) : Int) = 0 from rfl] at h4
    have ih := rp_3 sz x2 c7 ev hel j K hj hK k f (tb ++ [pick (fun x => scr (metI s x) tb 0 0) n (ev.flatten ++ tb)]) (by simp; omega) (by omega) hcn2 (by simp at hl ⊢; omega)
    have e3 : toI1 tb ++ [((pick (fun x => scr (metI s x) tb 0 0) n (ev.flatten ++ tb) : Nat) : Int)] = toI1 (tb ++ [pick (fun x => scr (metI s x) tb 0 0) n (ev.flatten ++ tb)]) := by simp [toI1]
    unfold ref09_Plan_3
    rw [hi]
    simp only [Option.bind_some]
    rw [if_pos (by rw [toI1_len]; simp; omega), h4]
    simp only [Option.bind_some]
    rw [if_pos (capOk_le (by omega) (by rw [toI1_len]; omega)), e3, ih]
    rfl
theorem rp_2 (sz : List Nat) (hsz : sz.length ≤ 64) (x2 c7 : Int) : ∀ (r pre : List Nat) (f : Nat) (ev : List (List Nat)), sz = pre ++ r → r.length < f → ev.length = pre.length → Cn n ev.flatten → ev.flatten.length + r.sum ≤ n →
    ref09_Plan_2 n (toI1 sz) x2 (toI3 s) c7 f (toI2 ev) pre.length = some (toI2 (plE (metI s) n r ev))
  | [], pre, f + 1, ev, h, _, _, _, _ => by
    unfold ref09_Plan_2
    rw [if_neg (by rw [toI1_len, h]; simp)]
    rfl
  | k :: r, pre, f + 1, ev, h, hf, he, hcn, hl => by
    rw [List.sum_cons] at hl
    have hp : pre.length < sz.length := by rw [h]; simp
    have h3 := rp_3 hn hs hv sz x2 c7 ev (by omega) pre.length k (by rw [h]; simp) (by omega) k 100000 [] (by simp) (by omega) (by rw [List.append_nil]; exact hcn) (by rw [List.append_nil]; omega)
    rw [show toI1 ([] : List Nat) = [] from rfl] at h3
    obtain ⟨a, b⟩ := plT_inv (metI s) n ev.flatten k [] (by rw [List.append_nil]; exact hcn) (by rw [List.append_nil]; omega)
    have e : (ev ++ [plT (metI s) n ev.flatten k []]).flatten = ev.flatten ++ plT (metI s) n ev.flatten k [] := by simp
    have ih := rp_2 sz hsz x2 c7 r (pre ++ [k]) f (ev ++ [plT (metI s) n ev.flatten k []]) (by rw [h]; simp) (by simp at hf; omega) (by simp [he]) (by rw [e]; exact a) (by rw [e, List.length_append, b, List.length_nil]; omega)
    have a3 : ((pre.length + 1 : Nat) : Int) = ((pre ++ [k]).length : Int) := by simp
    have e2 : toI2 ev ++ [toI1 (plT (metI s) n ev.flatten k [])] = toI2 (ev ++ [plT (metI s) n ev.flatten k []]) := by simp [toI2]
    unfold ref09_Plan_2
    rw [if_pos (by rw [toI1_len, h]; simp; omega), h3]
    simp only [Option.bind_some]
    rw [if_pos (capOk_le (by omega) (by rw [toI2_len]; omega)), e2, wr_nat (by omega), a3, ih]
    rfl
end
theorem rp_1 {n : Nat} (hn : n ≤ 64) {sz : List Nat} (hsz : sz.length ≤ 64) (hsum : sz.sum = n) (hpos : ∀ k ∈ sz, 1 ≤ k) (E : Nat) (hE : E ≤ 64) : ∀ (e f : Nat) (s : List (List (List Nat))), s.length + e = E → e < f → (∀ ev ∈ s, Evn n sz ev) →
    ref09_Plan_1 n (toI1 sz) E f (toI3 s) s.length = some (toI3 (plS n sz e s))
  | 0, f + 1, s, h, _, _ => by
    unfold ref09_Plan_1
    rw [if_neg (by simp; omega)]
    rfl
  | e + 1, f + 1, s, h, hf, hs => by
    have hvv : ∀ ev ∈ s, EvV n ev := fun ev he => (hs ev he).v
    have hev := plE_evn (metI s) hsum hpos
    have h2 := rp_2 hn (by omega) hvv sz hsz E s.length sz [] 100000 [] rfl (by omega) rfl (fun j => by simp) (by simp; omega)
    rw [show ((([] : List Nat).length : Nat) : Int) = 0 from rfl, show toI2 ([] : List (List Nat)) = [] from rfl] at h2
    have ih := rp_1 hn hsz hsum hpos E hE e f (s ++ [plE (metI s) n sz []]) (by simp; omega) (by omega) fun ev he => by
      rcases List.mem_append.1 he with he | he
      · exact hs ev he
      · rw [List.mem_singleton.1 he]; exact hev
    have e1 : toI3 s ++ [toI2 (plE (metI s) n sz [])] = toI3 (s ++ [plE (metI s) n sz []]) := by simp [toI3]
    have a3 : ((s.length + 1 : Nat) : Int) = ((s ++ [plE (metI s) n sz []]).length : Int) := by simp
    unfold ref09_Plan_1
    rw [if_pos (by simp; omega), h2]
    simp only [Option.bind_some]
    rw [if_pos (capOk_le (by omega) (by rw [toI3_len]; omega)), e1, wr_nat (by omega), a3, ih]
    rfl
theorem rplan_eq {n : Nat} {sz : List Nat} (hf : fitP n (toI1 sz) = true) (hsz : sz.length ≤ 64) (hsum : sz.sum = n) (hpos : ∀ k ∈ sz, 1 ≤ k) (hn : n ≤ 64) {E : Nat} (hE : E ≤ 64) : ref09_Plan n (toI1 sz) E = some (toI3 (plS n sz E []), 0) := by
  unfold ref09_Plan
  rw [ref09_Fit_eq n (toI1 sz) (by rw [toI1_len]; omega), hf]
  simp only [Option.bind_some, Bool.not_true, Bool.false_eq_true, if_false]
  have e1 : decide ((E : Int) < 0) = false := by simp
  have e2 : decide ((E : Int) > 64) = false := by simp; omega
  rw [e1, e2]
  simp only [Bool.false_eq_true, if_false, Option.bind_some]
  have := rp_1 hn hsz hsum hpos E hE E 100000 [] (by simp) (by omega) (fun ev h => by cases h)
  rw [show toI3 ([] : List (List (List Nat))) = [] from rfl, show ((([] : List (List (List Nat))).length : Nat) : Int) = 0 from rfl] at this
  rw [this]
  rfl
/- trestle/trestlelaw09.Few -/
/- trestle/trestlelaw09.Copy -/
def law09_Copy_2 (x0 : (List (List (List Int)))) (c1 : (List (List (List Int)))) (c2 : Int) (v4 : (List (List Int))) : Nat → (List (List Int)) → Int → Option (((List (List Int))))
  | 0, _, _ => none
  | f + 1, c5, c6 =>
    if (decide (c6 < (v4.length : Int))) = true then
    (idx v4 c6).bind fun v8 =>
    if (capOk 8 v8.length) = true then
    if (capOk 8 (v8.length + 1)) = true then
    if (cutOk 0 (v8.length : Int) (v8 ++ [(-9)]).length) = true then
    if (capOk 24 (c5.length + 1)) = true then
    law09_Copy_2 x0 c1 c2 v4 f (c5 ++ [((v8 ++ [(-9)]).take ((v8.length : Int).toNat))]) (wr .i64 (c6 + 1))
    else none
    else none
    else none
    else none
    else
    some c5
def law09_Copy_1 (x0 : (List (List (List Int)))) : Nat → (List (List (List Int))) → Int → Option (((List (List (List Int)))))
  | 0, _, _ => none
  | f + 1, c1, c2 =>
    if (decide (c2 < (x0.length : Int))) = true then
    (idx x0 c2).bind fun v4 =>
    (law09_Copy_2 x0 c1 c2 v4 100000 [] 0).bind fun r17 =>
    if (capOk 24 (c1.length + 1)) = true then
    law09_Copy_1 x0 f (c1 ++ [r17]) (wr .i64 (c2 + 1))
    else none
    else
    some c1
def law09_Copy (x0 : (List (List (List Int)))) : Option ((List (List (List Int)))) :=
  (law09_Copy_1 x0 100000 [] 0).bind fun r20 =>
  some r20
theorem copy_2 (s c1 : List (List (List Int))) (c2 : Int) (ev : List (List Int)) (he : ev.length ≤ 50000) (hs : ∀ t ∈ ev, t.length ≤ 50000) : ∀ (r pre : List (List Int)) (f : Nat), ev = pre ++ r → r.length < f → law09_Copy_2 s c1 c2 ev f pre pre.length = some ev
  | [], pre, f + 1, h, _ => by
    subst h
    unfold law09_Copy_2
    rw [nlt_len]
    simp
  | t :: r, pre, f + 1, h, hf => by
    have ht := hs t (by rw [h]; simp)
    have ih := copy_2 s c1 c2 ev he hs r (pre ++ [t]) f (by rw [h]; simp) (by simp at hf; omega)
    subst h
    have hcut : cutOk 0 (t.length : Int) (t ++ [(-9 : Int)]).length = true := by
      simp only [cutOk, Bool.and_eq_true, decide_eq_true_eq, List.length_append, List.length_singleton]; omega
    simp only [List.length_append, List.length_cons] at he
    unfold law09_Copy_2
    rw [if_pos (lt_len pre t r), idx_app]
    simp only [Option.bind_some]
    rw [if_pos (capOk_le (by omega) (by omega)), if_pos (capOk_le (by omega) (by omega)), if_pos hcut, if_pos (capOk_le (by omega) (by omega)), wr_snoc pre t r (by simp; omega)]
    rw [show (t ++ [(-9 : Int)]).take ((t.length : Int)).toNat = t by simp]
    exact ih
theorem copy_1 (s : List (List (List Int))) (he : s.length ≤ 50000) (hs : ∀ ev ∈ s, ev.length ≤ 50000 ∧ ∀ t ∈ ev, t.length ≤ 50000) : ∀ (r pre : List (List (List Int))) (f : Nat), s = pre ++ r → r.length < f → law09_Copy_1 s f pre pre.length = some s
  | [], pre, f + 1, h, _ => by
    subst h
    unfold law09_Copy_1
    rw [nlt_len]
    simp
  | ev :: r, pre, f + 1, h, hf => by
    obtain ⟨h1, h2⟩ := hs ev (by rw [h]; simp)
    have ih := copy_1 s he hs r (pre ++ [ev]) f (by rw [h]; simp) (by simp at hf; omega)
    have h3 := copy_2 s pre pre.length ev h1 h2 ev [] 100000 rfl (by omega)
    rw [show ((([] : List (List Int)).length : Nat) : Int) = 0 from rfl] at h3
    subst h
    simp only [List.length_append, List.length_cons] at he
    unfold law09_Copy_1
    rw [if_pos (lt_len pre ev r), idx_app]
    simp only [Option.bind_some]
    rw [h3]
    simp only [Option.bind_some]
    rw [if_pos (capOk_le (by omega) (by omega)), wr_snoc pre ev r (by simp; omega)]
    exact ih
theorem copy_eq (s : List (List (List Int))) (he : s.length ≤ 50000) (hs : ∀ ev ∈ s, ev.length ≤ 50000 ∧ ∀ t ∈ ev, t.length ≤ 50000) : law09_Copy s = some s := by
  unfold law09_Copy
  have := copy_1 s he hs s [] 100000 rfl (by omega)
  rw [show ((([] : List (List (List Int))).length : Nat) : Int) = 0 from rfl] at this
  rw [this]; rfl
theorem sameInts_1 (xs : List Int) (hxs : xs.length ≤ 50000) : ∀ (r pre : List Int) (f : Nat), xs = pre ++ r → r.length < f → kit_SameInts_1 xs xs f pre.length = some (.inl ())
  | [], pre, f + 1, h, _ => by
    subst h
    unfold kit_SameInts_1
    rw [nlt_len]
    rfl
  | v :: r, pre, f + 1, h, hf => by
    have ih := sameInts_1 xs hxs r (pre ++ [v]) f (by rw [h]; simp) (by simp at hf; omega)
    subst h
    unfold kit_SameInts_1
    rw [if_pos (lt_len pre v r), idx_app]
    simp only [Option.bind_some]
    rw [wr_snoc pre v r (by omega)]
    simp only [bne_self_eq_false, Bool.false_eq_true, if_false]
    exact ih
theorem sameInts_self (xs : List Int) (hxs : xs.length ≤ 50000) : kit_SameInts xs xs = some true := by
  unfold kit_SameInts
  have := sameInts_1 xs hxs xs [] 100000 rfl (by omega)
  rw [show ((([] : List Int).length : Nat) : Int) = 0 from rfl] at this
  simp only [bne_self_eq_false, Bool.false_eq_true, if_false]
  rw [this]; rfl
theorem sameLists_1 (xs : List (List Int)) (hxs : xs.length ≤ 50000) (hs : ∀ t ∈ xs, t.length ≤ 50000) : ∀ (r pre : List (List Int)) (f : Nat), xs = pre ++ r → r.length < f → kit_SameLists_1 xs xs f pre.length = some (.inl ())
  | [], pre, f + 1, h, _ => by
    subst h
    unfold kit_SameLists_1
    rw [nlt_len]
    rfl
  | v :: r, pre, f + 1, h, hf => by
    have hv := hs v (by rw [h]; simp)
    have ih := sameLists_1 xs hxs hs r (pre ++ [v]) f (by rw [h]; simp) (by simp at hf; omega)
    subst h
    unfold kit_SameLists_1
    rw [if_pos (lt_len pre v r), idx_app]
    simp only [Option.bind_some]
    rw [sameInts_self v hv]
    simp only [Option.bind_some]
    rw [wr_snoc pre v r (by omega)]
    simp only [Bool.not_true, Bool.false_eq_true, if_false]
    exact ih
theorem sameLists_self (xs : List (List Int)) (hxs : xs.length ≤ 50000) (hs : ∀ t ∈ xs, t.length ≤ 50000) : kit_SameLists xs xs = some true := by
  unfold kit_SameLists
  have := sameLists_1 xs hxs hs xs [] 100000 rfl (by omega)
  rw [show ((([] : List (List Int)).length : Nat) : Int) = 0 from rfl] at this
  simp only [bne_self_eq_false, Bool.false_eq_true, if_false]
  rw [this]; rfl
theorem equalFunc_1 (xs : List (List (List Int))) (hxs : xs.length ≤ 50000) (hs : ∀ ev ∈ xs, ev.length ≤ 50000 ∧ ∀ t ∈ ev, t.length ≤ 50000) : ∀ (r pre : List (List (List Int))) (f : Nat), xs = pre ++ r → r.length < f → slices_EqualFunc_LLL_LLL_LL_LL__law09_Same_1_1 xs xs f pre.length = some (.inl ())
  | [], pre, f + 1, h, _ => by
    subst h
    unfold slices_EqualFunc_LLL_LLL_LL_LL__law09_Same_1_1
    rw [nlt_len]
    rfl
  | v :: r, pre, f + 1, h, hf => by
    obtain ⟨h1, h2⟩ := hs v (by rw [h]; simp)
    have ih := equalFunc_1 xs hxs hs r (pre ++ [v]) f (by rw [h]; simp) (by simp at hf; omega)
    subst h
    unfold slices_EqualFunc_LLL_LLL_LL_LL__law09_Same_1_1
    rw [if_pos (lt_len pre v r), idx_app]
    simp only [Option.bind_some, law09_Same_1]
    rw [sameLists_self v h1 h2]
    simp only [Option.bind_some]
    rw [wr_snoc pre v r (by omega)]
    simp only [Bool.not_true, Bool.false_eq_true, if_false]
    exact ih
theorem same_self (xs : List (List (List Int))) (hxs : xs.length ≤ 50000) (hs : ∀ ev ∈ xs, ev.length ≤ 50000 ∧ ∀ t ∈ ev, t.length ≤ 50000) : law09_Same xs xs = some true := by
  unfold law09_Same slices_EqualFunc_LLL_LLL_LL_LL__law09_Same_1
  have := equalFunc_1 xs hxs hs xs [] 100000 rfl (by omega)
  rw [show ((([] : List (List (List Int))).length : Nat) : Int) = 0 from rfl] at this
  simp only [bne_self_eq_false, Bool.false_eq_true, if_false]
  rw [this]; rfl
def toN1 (t : List Int) : List Nat := t.map Int.toNat
theorem toN1_I {t : List Int} (h : ∀ v ∈ t, 0 ≤ v) : toI1 (toN1 t) = t := by
  induction t with
  | nil => rfl
  | cons v t ih =>
    show Int.ofNat v.toNat :: toI1 (toN1 t) = v :: t
    rw [ih fun w hw => h w (by simp [hw])]
    have := h v (by simp)
    congr 1
    show ((v.toNat : Nat) : Int) = v
    omega
theorem sum_toI : ∀ (l : List Nat), sumL (toI1 l) = ((l.sum : Nat) : Int)
  | [] => rfl
  | k :: l => by
    have := sum_toI l
    have e : toI1 (k :: l) = (k : Int) :: toI1 l := rfl
    rw [e]
    simp only [sumL, List.sum_cons, this]; push_cast; rfl
/-- Sizes that fit, as natural numbers. -/
theorem fitP_nat {n : Int} {xs : List Int} (h : fitP n xs = true) : ∃ (N : Nat) (sz : List Nat), n = (N : Int) ∧ xs = toI1 sz ∧ sz.sum = N ∧ (∀ k ∈ sz, 1 ≤ k) ∧ 1 ≤ N ∧ N ≤ 64 := by
  obtain ⟨h1, h2, h3, h4⟩ := fitP_inv h
  have e : toI1 (toN1 xs) = xs := toN1_I fun v hv => by have := h1 v hv; omega
  refine ⟨n.toNat, toN1 xs, by omega, e.symm, ?_, fun k hk => ?_, by omega, by omega⟩
  · have := sum_toI (toN1 xs)
    rw [e, h2] at this
    omega
  · obtain ⟨v, hv, rfl⟩ := List.mem_map.1 hk
    have := h1 v hv
    omega
theorem evn_len {n : Nat} {sz : List Nat} (hn : n ≤ 64) {s : List (List (List Nat))} (hv : ∀ ev ∈ s, Evn n sz ev) : ∀ ev ∈ toI3 s, ev.length ≤ 50000 ∧ ∀ t ∈ ev, t.length ≤ 50000 := fun ev he => by
  obtain ⟨u, hu, rfl⟩ := List.mem_map.1 he
  have h := (hv u hu).v
  have := h.elen
  refine ⟨by rw [toI2_len]; omega, fun t ht => ?_⟩
  obtain ⟨v, hv', rfl⟩ := List.mem_map.1 ht
  have := h.tlen hv'
  rw [toI1_len]; omega
theorem plans_law (n : Int) (hn : in64 n) (xs : List Int) (evs : Int) : law09_EveningPlans n xs evs = some true := by
  unfold law09_EveningPlans
  have e1 : (if (decide (n > 14)) = true then if (decide (n ≤ 64)) = true then some true else if (decide ((xs.length : Int) > 20)) = true then some true else if (decide (evs > 6)) = true then some (decide (evs ≤ 64)) else some false else if (decide ((xs.length : Int) > 20)) = true then some true else if (decide (evs > 6)) = true then some (decide (evs ≤ 64)) else some false) = some ((decide (n > 14) && decide (n ≤ 64)) || decide ((xs.length : Int) > 20) || (decide (evs > 6) && decide (evs ≤ 64))) := by
    cases decide (n > 14) <;> cases decide (n ≤ 64) <;> cases decide ((xs.length : Int) > 20) <;> cases decide (evs > 6) <;> simp
  rw [e1]
  simp only [Option.bind_some]
  by_cases hc : ((decide (n > 14) && decide (n ≤ 64)) || decide ((xs.length : Int) > 20) || (decide (evs > 6) && decide (evs ≤ 64))) = true
  · rw [if_pos hc]
    rfl
  · rw [if_neg hc]
    simp only [Bool.or_eq_true, Bool.and_eq_true, decide_eq_true_eq, not_or, not_and] at hc
    obtain ⟨⟨_, c2⟩, c3⟩ := hc
    have hx : xs.length ≤ 20 := by omega
    rw [clone_self xs (by omega)]
    simp only [Option.bind_some]
    obtain ⟨s, e, h1, h2, h3, h4⟩ : ∃ s e, evening_Plan n xs evs = some (s, e) ∧ ref09_Plan n xs evs = some (s, e) ∧ s.length ≤ 50000 ∧ ∀ ev ∈ s, ev.length ≤ 50000 ∧ ∀ t ∈ ev, t.length ≤ 50000 := by
      cases hf : fitP n xs with
      | false =>
        refine ⟨[], 90, ?_, ?_, by simp, fun ev h => by cases h⟩
        · unfold evening_Plan
          rw [evening_fit_eq n hn xs (by omega), hf]
          rfl
        · unfold ref09_Plan
          rw [ref09_Fit_eq n xs (by omega), hf]
          rfl
      | true =>
        by_cases hb : evs < 0 ∨ evs > 64
        · have e2 : (if (decide (evs < 0)) = true then some true else some (decide (evs > 64))) = some true := by
            rcases hb with hb | hb
            · rw [if_pos (by simpa using hb)]
            · by_cases h0 : evs < 0
              · rw [if_pos (by simpa using h0)]
              · rw [if_neg (by simpa using h0)]; simp; omega
          refine ⟨[], 2, ?_, ?_, by simp, fun ev h => by cases h⟩
          · unfold evening_Plan
            rw [evening_fit_eq n hn xs (by omega), hf]
            simp only [Option.bind_some, Bool.not_true, Bool.false_eq_true, if_false]
            rw [e2]
            rfl
          · unfold ref09_Plan
            rw [ref09_Fit_eq n xs (by omega), hf]
            simp only [Option.bind_some, Bool.not_true, Bool.false_eq_true, if_false]
            rw [e2]
            rfl
        · obtain ⟨N, sz, rfl, rfl, hs1, hs2, hn1, hn2⟩ := fitP_nat hf
          obtain ⟨E, rfl⟩ := Int.eq_ofNat_of_zero_le (show 0 ≤ evs by omega)
          rw [toI1_len] at hx
          obtain ⟨q1, q2⟩ := plS_inv hs1 hs2 E [] (fun ev h => by cases h)
          refine ⟨toI3 (plS N sz E []), 0, plan_eq hf (by omega) hs1 hs2 hn1 hn2 (by omega), rplan_eq hf (by omega) hs1 hs2 hn2 (by omega), ?_, evn_len hn2 q1⟩
          rw [toI3_len, q2]; simp; omega
    rw [h1, h2]
    simp only [Option.bind_some]
    rw [same_self s h3 h4]
    simp only [Option.bind_some, if_true, beq_self_eq_true]
    rw [equal_self xs (by omega)]
    rfl
end Go.Proofs.YtcmgmkepodbpkaaDoor
namespace Go.Proofs.YtcmgmkepodbpkaaDoor.eveningPlans
open Go.ChangeShapes Go.WideShapes Go.ChangeAt Go.RowKit
theorem law_ret (a0 : Int) (a1 : (List Int)) (a2 : Int) (h : law09_EveningPlans a0 a1 a2 = some true) {w : World} {v0 v1 v2 : Value} (h0 : VR w (fun c => c < w.heap.size) [] (cdI.enc a0) v0) (h1 : VR w (fun c => c < w.heap.size) [] ((cdL 1 cdI).enc a1) v1) (h2 : VR w (fun c => c < w.heap.size) [] (cdI.enc a2) v2) : Ret Tryd.prog 5 #[v0, v1, v2] w fun v w' => v = .bool true ∧ w.grownBy w' none :=
  Ret.mono (x_law09_EveningPlans.2 (cs_law09_EveningPlans.enc (a0, a1, a2, ())) (er_law09_EveningPlans true) (told_enc (s := cs_law09_EveningPlans) (a := (a0, a1, a2, ())) h) w (fun c => c < w.heap.size) [v0, v1, v2] (fun c hc => hc) (fun g x h => by cases h) (.cons h0 (.cons h1 (.cons h2 .nil)))) fun v w' h => ⟨h.2.v_inv, h.1⟩
set_option maxRecDepth 100000 in
theorem contract (H : Type) (enc : TypeId × Value → H) (W : World) (base : Nat) (args : Array Value) (ds gs : List (DataW H)) (before : List MemPlace)
    (hval : ∀ (j : Nat) t v, Tryd.f5.params[j]? = some t → args[j]? = some v → Value.okWide Tryd.prog W .any base t v)
    (hW : DataW.Whole enc Tryd.prog Tryd.f5.params.toList Rows.eveningPlansSpec.vars false W args.toList ds gs before)
    (hsz : (DataW.weightsEach Tryd.prog (Tryd.f5.params.toList ++ (OpenSpec.ofChange Rows.eveningPlansSpec).bare.plain.varTypes Tryd.prog) (ds ++ gs)).all (· ≤ reachBytes) = true) :
    Calls Tryd.prog 5 args W fun e W' => ∃ v, e = .returned v ∧ Rows.eveningPlansSpec.post enc Tryd.prog Tryd.f5 false true false false W args v W' := by
  have hW' := hW
  obtain ⟨p, q, hA0, hV, rfl, hfz, hnd⟩ := hW
  have hA : DataW.TrodAll enc Tryd.prog W 0 (fun _ => true) true Tryd.f5.params.toList args.toList ds p := hA0
  have hpar : Tryd.f5.params = #[3, 31, 3] := by kernel_rfl
  rw [hpar] at hA hval
  obtain ⟨v0, vs0, d0, ds0, p0, q0, hargs, rfl, rfl, h0, r0⟩ := trodAll_cons hA
  obtain ⟨v1, vs1, d1, ds1, p1, q1, rfl, rfl, rfl, h1, r1⟩ := trodAll_cons r0
  obtain ⟨v2, vs2, d2, ds2, p2, q2, rfl, rfl, rfl, h2, r2⟩ := trodAll_cons r1
  obtain ⟨rfl, rfl, rfl⟩ := trodAll_nil r2
  obtain rfl : args = #[v0, v1, v2] := by apply Array.ext'; simpa using hargs
  obtain ⟨a0, k0, g0⟩ := rd_arg (rd_int64 (by kernel_rfl : Tryd.prog.underlying 3 = some (.int .i64))) (one_int (by kernel_rfl : Tryd.prog.underlying 3 = some (.int .i64)) (hval 0 3 v0 rfl rfl)) h0 hsz (j := 0) (by kernel_rfl) rfl
  obtain ⟨a1, k1, g1⟩ := rd_arg (rd_slice (by kernel_rfl : Tryd.prog.underlying 31 = some (.slice 3)) (by kernel_rfl) (by kernel_rfl) (rd_int64 (by kernel_rfl : Tryd.prog.underlying 3 = some (.int .i64)))) (one_slice (by kernel_rfl : Tryd.prog.underlying 31 = some (.slice 3)) (hval 1 31 v1 rfl rfl)) h1 hsz (j := 1) (by kernel_rfl) rfl
  obtain ⟨a2, k2, g2⟩ := rd_arg (rd_int64 (by kernel_rfl : Tryd.prog.underlying 3 = some (.int .i64))) (one_int (by kernel_rfl : Tryd.prog.underlying 3 = some (.int .i64)) (hval 2 3 v2 rfl rfl)) h2 hsz (j := 2) (by kernel_rfl) rfl
  have hc := law_ret a0 a1 a2 (plans_law a0 g0 a1 a2) k0 k1 k2
  unfold Ret at hc
  refine hc.mono fun e W' he => ?_
  cases e with
  | returned v =>
    obtain ⟨rfl, hg⟩ := he
    exact ⟨_, rfl, post_true laidOut (fun t ht => ⟨mem_of_laid (fun t => Tryd.prog.readableRec t) (by kernel_rfl) ht, of_decide_eq_true (mem_of_laid (fun t => decide (t < Tryd.prog.types.size)) (by kernel_rfl) ht)⟩) hW' rfl (by kernel_rfl) (by kernel_rfl : Tryd.prog.underlying 4 = some .bool) rfl hg⟩
  | panicked c => exact he.elim
  | outgrown => exact he.elim
theorem laid_met (os : Os) : laidMet Tryd.prog Rows.eveningPlansRow.laid ((laidWorld os).forCall (fun _ _ => 0) ⟨#[], #[Value.int .i64 0, Value.slice none 0 0, Value.int .i64 0], []⟩).memory :=
  laidMet_of_run' 8 (by kernel_rfl) (by kernel_rfl)
theorem reads (os : Os) {H : Type} (enc : TypeId × Value → H) : ∃ places, DataW.whole enc Tryd.prog ((laidWorld os).forCall (fun _ _ => 0) ⟨#[], #[Value.int .i64 0, Value.slice none 0 0, Value.int .i64 0], []⟩).memory Tryd.f5.params.toList Rows.eveningPlansSpec.vars false #[Value.int .i64 0, Value.slice none 0 0, Value.int .i64 0].toList 8 = some ([.lit (.int .i64 0), .nil, .lit (.int .i64 0)], [], places) :=
  ⟨[], by kernel_rfl⟩
set_option maxRecDepth 100000 in
theorem lifted (os : Os) (started : os.Started) (H : Type) (enc : TypeId × Value → H) (F : Stop.Interp) :
    ReturnsInHanded {} Tryd.checked os 5 .any ((OpenSpec.ofChange Rows.eveningPlansSpec).preRow enc Tryd.prog Tryd.f5 Rows.eveningPlansRow.domain false Rows.eveningPlansRow.laid) (((OpenSpec.ofChange Rows.eveningPlansSpec).at F).post enc Tryd.prog Tryd.f5 false true false false) := by
  obtain ⟨places, hx⟩ := reads os enc
  refine returnsInHanded_of_row (C := Tryd.checked) (s := OpenSpec.ofChange Rows.eveningPlansSpec) ownKnob0 started (by kernel_rfl) Tryd.func5
    (witness_row_at (enc := enc) (C := Tryd.checked) false (laidWorld os) #[Value.int .i64 0, Value.slice none 0 0, Value.int .i64 0] rfl (by kernel_rfl) (by kernel_rfl) (by kernel_rfl)
      (OpenSpec.preRow_of_cond 8 hx (by kernel_rfl) (fun k hk => by cases hk) (by kernel_rfl) (laid_met os))) ?_
  intro W base args ds gs before hval hW _ _ hsz _ _ _
  exact contract H enc W base args ds gs before hval hW hsz
theorem said : Rows.EveningPlansSaid :=
  OpenClaim.holds_of_cond 5 Tryd.f5 rfl rfl rfl rfl rfl rfl rfl ⟨rfl, rfl, rfl, rfl, rfl⟩ rfl rfl rfl rfl rfl (by kernel_rfl) Tryd.func5 (by kernel_rfl)
    (of_decide_eq_true (by kernel_rfl)) (by unfold Func.isWrapper; first | (rw [if_pos (by decide +kernel)]; kernel_rfl) | (rw [if_neg (by decide +kernel)]; exact ⟨rfl, rfl⟩))
    (fun os started H enc _ F => by rw [OpenClaim.pre_eq_preRow]; exact lifted os started H enc F)
theorem plain (f : FuncId) (fn : Func) (hf : Tryd.pinned.checked.prog.funcNamed "trestle/trestlelaw09.EveningPlans" = some f) (hfn : Tryd.pinned.checked.prog.funcs[f]? = some fn) :
    false = Tryd.pinned.checked.prog.looks [] ∧ ∀ (j : Nat) t, fn.params[j]? = some t → Tryd.pinned.checked.prog.wantsStandIn t = false := by
  obtain rfl : f = 5 := Option.some.inj ((show Tryd.prog.funcNamed "trestle/trestlelaw09.EveningPlans" = some 5 by kernel_rfl).symm.trans hf) |>.symm
  obtain rfl : fn = Tryd.f5 := (Option.some.inj (Tryd.func5.symm.trans hfn)).symm
  refine ⟨by kernel_rfl, fun j t ht => ?_⟩
  have hm : t ∈ Tryd.f5.params.toList := by simpa using Array.mem_of_getElem? ht
  exact (show Tryd.prog.wantsStandIn t = false from Bool.not_eq_true' _ |>.mp (mem_of_laid (fun t => !Tryd.prog.wantsStandIn t) (by kernel_rfl) hm))
theorem card : Rows.EveningPlansCardSaid :=
  Claim7.holds_tied_plain_at .later [] _ _ _ _ said (fun _ h => by cases h) (by kernel_rfl) (fun _ h => by cases h) eveningPlans_row_tie rfl ⟨rfl, rfl⟩ (by kernel_rfl) rfl plain (by kernel_rfl)
end Go.Proofs.YtcmgmkepodbpkaaDoor.eveningPlans
