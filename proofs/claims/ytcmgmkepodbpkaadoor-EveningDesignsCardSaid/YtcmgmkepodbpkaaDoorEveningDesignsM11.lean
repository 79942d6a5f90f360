/- The rings, pairs, nets, planes and designs of every number of guests, size and number of evenings are those of the document, and what is handed back is new memory. -/
import Derived.Test.YtcmgmkepodbpkaaDoorEveningDesignsM1
import Derived.Test.YtcmgmkepodbpkaaDoorEveningDesignsM2
import Derived.Test.YtcmgmkepodbpkaaDoorEveningDesignsM3
import Derived.Test.YtcmgmkepodbpkaaDoorEveningDesignsM4
import Derived.Test.YtcmgmkepodbpkaaDoorEveningDesignsM5
import Derived.Test.YtcmgmkepodbpkaaDoorEveningDesignsM6
import Derived.Test.YtcmgmkepodbpkaaDoorEveningDesignsM7
import Derived.Test.YtcmgmkepodbpkaaDoorEveningDesignsM8
import Derived.Test.YtcmgmkepodbpkaaDoorEveningDesignsM9
import Derived.Test.YtcmgmkepodbpkaaDoorEveningDesignsM10
namespace Go.Proofs.YtcmgmkepodbpkaaDoor
theorem ring_j {n m i k : Nat} (hm : n / 2 = m) (hn : n ≤ 64) (hm1 : 1 ≤ m) (hi : i < m) (hk : k ≤ m) (hk1 : 1 ≤ k) : wr .i64 ((n : Int).tdiv 2) = (m : Int) ∧ wr .i64 (2 * (m : Int)) = ((2 * m : Nat) : Int) ∧ (wr .i64 ((i : Int) + (k : Int))).tmod ((2 * m : Nat) : Int) = (((i + k) % (2 * m) : Nat) : Int) ∧ (wr .i64 ((wr .i64 ((i : Int) - (k : Int))) + ((2 * m : Nat) : Int))).tmod ((2 * m : Nat) : Int) = (((i + 2 * m - k) % (2 * m) : Nat) : Int) := by
 refine ⟨?_, ?_, ?_, ?_⟩
 ·rw [tdiv2 _ (by omega), wr_i (by omega) (by omega)]; omega
 ·rw [wr_i (by omega) (by omega)]; simp
 ·rw [wr_i (by omega) (by omega), Int.tmod_eq_emod_of_nonneg (by omega)]; simp
 ·rw [wr_i (n := (i : Int) - (k : Int)) (by omega) (by omega), wr_i (by omega) (by omega), Int.tmod_eq_emod_of_nonneg (by omega)]
  have : (i : Int) - (k : Int) + ((2 * m : Nat) : Int) = ((i + 2 * m - k : Nat) : Int) := by omega
  rw [this]; simp
theorem rings_2 (n m i : Nat) (hm : n / 2 = m) (hn : n ≤ 64) (hm1 : 1 ≤ m) (hi : i < m) (c5 : List (List (List Int))) : ∀ (b k f : Nat) (acc : List Nat), k + b = m + 1 → 1 ≤ k → b < f → acc.length ≤ 2 * k → evening_Rings_2 n c5 i f (toI1 acc) k = some (toI1 (acc ++ ringTail m i b k))
 | 0, k, f + 1, acc, h, hk, _, _ => by
  obtain ⟨e1, _, _, _⟩ := ring_j (i := i) (k := 1) hm hn hm1 hi (by omega) (by omega)
  unfold evening_Rings_2
  rw [e1, if_neg (by simp; omega)]
  simp [ringTail]
 | b + 1, k, f + 1, acc, h, hk, hf, ha => by
  obtain ⟨e1, e2, e3, e4⟩ := ring_j (i := i) (k := k) hm hn hm1 hi (by omega) (by omega)
  have e5 : wr .i64 (2 * wr .i64 ((n : Int).tdiv 2)) = ((2 * m : Nat) : Int) := by rw [e1, e2]
  have hz : ¬ ((2 * m : Nat) : Int) = 0 := by omega
  unfold evening_Rings_2
  rw [if_pos (by rw [e1]; simp; omega), e5, if_neg hz, if_pos (capOk_le (by omega) (by rw [toI1_len]; omega))]
  unfold evening_Rings_j3
  rw [e5, e1, e3, e4]
  by_cases hkm : k < m
  ·have ih := rings_2 n m i hm hn hm1 hi c5 b (k + 1) f (acc ++ [(i + k) % (2 * m)] ++ [(i + 2 * m - k) % (2 * m)]) (by omega) (by omega) (by omega) (by simp; omega)
   rw [if_pos (by simp; omega), if_neg hz, if_pos (capOk_le (by omega) (by rw [List.length_append, toI1_len]; simp; omega))]
   simp only [Option.bind_some]
   rw [wr_nat (by omega)]
   have : toI1 acc ++ [(((i + k) % (2 * m) : Nat) : Int)] ++ [(((i + 2 * m - k) % (2 * m) : Nat) : Int)] = toI1 (acc ++ [(i + k) % (2 * m)] ++ [(i + 2 * m - k) % (2 * m)]) := by simp [toI1]
   rw [this, ih]
   have hb : Nat.ble m k = false := by
    cases hb : Nat.ble m k with
    | false => rfl
    | true => have := Nat.le_of_ble_eq_true hb; omega
   have : acc ++ ringTail m i (b + 1) k = acc ++ [(i + k) % (2 * m)] ++ [(i + 2 * m - k) % (2 * m)] ++ ringTail m i b (k + 1) := by
    simp only [ringTail, hb, cond_false, List.append_assoc, List.cons_append, List.nil_append]
    rfl
   rw [this]
  ·have ih := rings_2 n m i hm hn hm1 hi c5 b (k + 1) f (acc ++ [(i + k) % (2 * m)]) (by omega) (by omega) (by omega) (by simp; omega)
   rw [if_neg (by simp; omega)]
   simp only [Option.bind_some]
   rw [wr_nat (by omega)]
   have : toI1 acc ++ [(((i + k) % (2 * m) : Nat) : Int)] = toI1 (acc ++ [(i + k) % (2 * m)]) := by simp [toI1]
   rw [this, ih]
   have hb : Nat.ble m k = true := Nat.ble_eq_true_of_le (by omega)
   have : acc ++ ringTail m i (b + 1) k = acc ++ [(i + k) % (2 * m)] ++ ringTail m i b (k + 1) := by
    simp only [ringTail, hb, cond_true, List.append_assoc, List.singleton_append, List.nil_append]
    rfl
   rw [this]
theorem rings_1 (n m : Nat) (hm : n / 2 = m) (hn : n ≤ 64) (hm1 : 1 ≤ m) : ∀ (b i f : Nat) (acc : List (List (List Nat))), i + b = m → b < f → acc.length = i → evening_Rings_1 n f (toI3 acc) i = some (toI3 (acc ++ rings n m b i))
 | 0, i, f + 1, acc, h, _, _ => by
  obtain ⟨e1, _, _, _⟩ := ring_j (i := 0) (k := 1) hm hn hm1 (by omega) (by omega) (by omega)
  unfold evening_Rings_1
  rw [e1, if_neg (by simp; omega)]
  simp [rings]
 | b + 1, i, f + 1, acc, h, hf, ha => by
  obtain ⟨e1, _, _, _⟩ := ring_j (i := i) (k := 1) hm hn hm1 (by omega) (by omega) (by omega)
  have ih := rings_1 n m hm hn hm1 b (i + 1) f (acc ++ [[(n - 1) :: i :: ringTail m i m 1]]) (by omega) (by omega) (by simp; omega)
  have h2 := rings_2 n m i hm hn hm1 (by omega) (toI3 acc) m 1 100000 [n - 1, i] (by omega) (by omega) (by omega) (by simp)
  have e6 : toI1 [n - 1, i] = [wr .i64 ((n : Int) - 1), (i : Int)] := by
   rw [wr_i (by omega) (by omega)]
   have : (n : Int) - 1 = ((n - 1 : Nat) : Int) := by omega
   rw [this]; rfl
  rw [e6, show ((1 : Nat) : Int) = 1 from rfl] at h2
  unfold evening_Rings_1
  rw [if_pos (by rw [e1]; simp; omega), h2]
  simp only [Option.bind_some]
  rw [if_pos (capOk_le (by omega) (by rw [toI3_len]; omega)), wr_nat (by omega)]
  have e7 : toI3 acc ++ [[toI1 ([n - 1, i] ++ ringTail m i m 1)]] = toI3 (acc ++ [[(n - 1) :: i :: ringTail m i m 1]]) := by simp [toI3, toI2]
  rw [e7, ih]
  simp [rings]
theorem rings_eq (n : Nat) (h3 : 3 ≤ n) (hn : n ≤ 64) : evening_Rings n = some (if n % 2 = 0 then ([], 91) else (toI3 (ringsN n), 0)) := by
 unfold evening_Rings
 have e1 : (if decide ((n : Int) < 3) = true then some true else some (decide ((n : Int) > 64))) = some false := by
  rw [if_neg (by simp; omega)]
  congr 1
  simp; omega
 rw [e1]
 simp only [Option.bind_some, Bool.false_eq_true, if_false]
 have e2 : (((n : Int).tmod 2) == 0) = decide (n % 2 = 0) := by
  rw [Int.tmod_eq_emod_of_nonneg (by omega), Bool.eq_iff_iff]
  simp; omega
 rw [e2]
 by_cases h : n % 2 = 0
 ·rw [if_pos (by simpa using h), if_pos h]
 ·rw [if_neg (by simpa using h), if_neg h]
  have := rings_1 n (n / 2) rfl hn (by omega) (n / 2) 0 100000 [] (by omega) (by omega) rfl
  rw [show toI3 [] = [] from rfl, show ((0 : Nat) : Int) = 0 from rfl, List.nil_append] at this
  rw [this]
  rfl
def smB (s : List (List (List Nat))) : Bool := Nat.ble s.length 100 && s.all fun ev => Nat.ble ev.length 100 && ev.all fun t => Nat.ble t.length 100
def Lens (s : List (List (List Int))) : Prop := s.length ≤ 50000 ∧ ∀ ev ∈ s, ev.length ≤ 50000 ∧ ∀ t ∈ ev, t.length ≤ 50000
theorem Lens.nil : Lens [] := ⟨by simp, fun _ h => by cases h⟩
theorem smB_lens {s : List (List (List Nat))} (h : smB s = true) : Lens (toI3 s) := by
 unfold smB at h
 rw [Bool.and_eq_true] at h
 refine ⟨by rw [toI3_len]; have := Nat.le_of_ble_eq_true h.1; omega, fun ev he => ?_⟩
 obtain ⟨u, hu, rfl⟩ := List.mem_map.1 he
 have h2 := List.all_eq_true.1 h.2 u hu
 rw [Bool.and_eq_true] at h2
 refine ⟨by rw [toI2_len]; have := Nat.le_of_ble_eq_true h2.1; omega, fun t ht => ?_⟩
 obtain ⟨w, hw, rfl⟩ := List.mem_map.1 ht
 have h3 := List.all_eq_true.1 h2.2 w hw
 rw [toI1_len]; have := Nat.le_of_ble_eq_true h3; omega
/-- Three answers alike. -/
structure Three (o : Option (List (List (List Int)) × Int)) (d : Option (Int × List (List (List Int)))) (r : Option (List (List (List Int)) × Int)) (s : List (List (List Int))) (e : Int) : Prop where
 a : o = some (s, e)
 b : d = some (e, s)
 c : r = some (s, e)
 l : Lens s
theorem Three.of {o : Option (List (List (List Int)) × Int)} {d : Option (Int × List (List (List Int)))} {r : Option (List (List (List Int)) × Int)} {s : List (List (List Int))} {e : Int} (h : o = sw d) (a : o = some (s, e)) (c : r = some (s, e)) (l : Lens s) : Three o d r s e := ⟨a, sw_some (by rw [← h, a]), c, l⟩
theorem smP : allL (fun k => smB (pairsN (k + 2))) 63 = true := by kernel_rfl
theorem smR : allL (fun k => smB (ringsN (2 * k + 3))) 31 = true := by kernel_rfl
theorem smN : (fldN.all fun q => allL (fun k => smB (ntN (k + 1) q)) (min q (64 / q))) = true := by kernel_rfl
theorem smQ : ([2, 3, 4, 5, 7, 8].all fun q => smB (planeN q)) = true := by kernel_rfl
theorem pairs3 (n : Int) : ∃ s e, Three (evening_Pairs n) (evening_Pairs_d n) (ref09_Pairs n) s e := by
 by_cases h : 2 ≤ n ∧ n ≤ 64
 ·obtain ⟨k, rfl⟩ : ∃ k : Nat, n = k := ⟨n.toNat, by omega⟩
  refine ⟨_, _, Three.of (dpairs _) (pairs_eq (n := k) (by omega) (by omega)) (rpairs_eq (by omega) (by omega)) (smB_lens ?_)⟩
  have := allL_at smP (k - 2) (by omega)
  simpa [show k - 2 + 2 = k by omega] using this
 ·refine ⟨[], 90, Three.of (dpairs _) ?_ ?_ Lens.nil⟩
  ·unfold evening_Pairs
   by_cases h1 : n < 2
   ·simp [h1]
   ·have : n > 64 := by omega
    simp [this]
  ·unfold ref09_Pairs
   by_cases h1 : n < 2
   ·simp [h1]
   ·have : n > 64 := by omega
    simp [this]
theorem rings3 (n : Int) : ∃ s e, Three (evening_Rings n) (evening_Rings_d n) (ref09_Rings n) s e := by
 by_cases h : 3 ≤ n ∧ n ≤ 64
 ·obtain ⟨k, rfl⟩ : ∃ k : Nat, n = k := ⟨n.toNat, by omega⟩
  have h1 := rings_eq k (by omega) (by omega)
  by_cases ho : k % 2 = 0
  ·rw [if_pos ho] at h1
   refine ⟨_, _, Three.of (drings _) h1 ?_ Lens.nil⟩
   have e2 : ((k : Int).tmod 2 == 0) = true := by
    rw [Int.tmod_eq_emod_of_nonneg (by omega)]; simp; omega
   have e3 : (if decide ((k : Int) < 3) = true then some true else some (decide ((k : Int) > 64))) = some false := by
    rw [if_neg (by simp; omega)]
    congr 1
    simp; omega
   unfold ref09_Rings
   rw [e3, e2]
   rfl
  ·rw [if_neg ho] at h1
   refine ⟨_, _, Three.of (drings _) h1 (rrings_eq (by omega) (by omega) (by omega)) (smB_lens ?_)⟩
   have := allL_at smR ((k - 3) / 2) (by omega)
   simpa [show 2 * ((k - 3) / 2) + 3 = k by omega] using this
 ·refine ⟨[], 90, Three.of (drings _) ?_ ?_ Lens.nil⟩
  ·unfold evening_Rings
   by_cases h1 : n < 3
   ·simp [h1]
   ·have : n > 64 := by omega
    simp [this]
  ·unfold ref09_Rings
   by_cases h1 : n < 3
   ·simp [h1]
   ·have : n > 64 := by omega
    simp [this]
def inQ (q : Int) : Bool := q == 2 || q == 3 || q == 4 || q == 5 || q == 7 || q == 8 || q == 9 || q == 11 || q == 13 || q == 16
theorem no_field {q : Int} (h : inQ q = false) : evening_fieldOf q = some ((0, 0, []), false) ∧ ref09_Field q = some (0, []) := by
 simp only [inQ, Bool.or_eq_false_iff] at h
 obtain ⟨⟨⟨⟨⟨⟨⟨⟨⟨h2, h3⟩, h4⟩, h5⟩, h7⟩, h8⟩, h9⟩, h11⟩, h13⟩, h16⟩ := h
 constructor
 ·unfold evening_fieldOf evening_fieldOf_j1 evening_fieldOf_j2 evening_fieldOf_j3 evening_fieldOf_j4 evening_fieldOf_j5
  simp only [h2, h3, h4, h5, h7, h8, h9, h11, h13, h16, Bool.false_eq_true, if_false, Option.bind_some]
 ·unfold ref09_Field ref09_Field_j1 ref09_Field_j2 ref09_Field_j3 ref09_Field_j4 ref09_Field_j5
  simp only [h2, h3, h4, h5, h7, h8, h9, h11, h13, h16, Bool.false_eq_true, if_false, Option.bind_some]
theorem inQ_in {q : Int} (h : inQ q = true) : ∃ k : Nat, q = (k : Int) ∧ k ∈ fldN := by
 simp only [inQ, Bool.or_eq_true, beq_iff_eq] at h
 rcases h with ((((((((h | h) | h) | h) | h) | h) | h) | h) | h) | h <;> subst h <;> exact ⟨_, rfl, by decide⟩
theorem rfield_all : (fldN.all fun q => match ref09_Field (Int.ofNat q) with | some (p, _) => !(p == 0) | none => false) = true := by kernel_rfl
theorem rfield_in {q : Nat} (hq : q ∈ fldN) : ∃ p l, ref09_Field q = some (p, l) ∧ (p == 0) = false := by
 have h := List.all_eq_true.1 rfield_all q hq
 have e : (Int.ofNat q) = (q : Int) := rfl
 rw [e] at h
 split at h
 ·next p l hp => exact ⟨p, l, hp, by simpa using h⟩
 ·cases h
theorem mul_wr {k q : Int} (h1 : 1 ≤ k) (h2 : k ≤ q) (h3 : q ≤ 16) : wr .i64 (k * q) = k * q := by
 have a : 0 ≤ k * q := Int.mul_nonneg (by omega) (by omega)
 have b : k * q ≤ 16 * 16 := Int.mul_le_mul (by omega) h3 (by omega) (by omega)
 exact wr_i (by omega) (by omega)
theorem net3 (k q : Int) : ∃ s e, Three (evening_Net k q) (evening_Net_d k q) (ref09_Net k q) s e ∧ (inQ q = false → s = [] ∧ e = 90) := by
 cases hq : inQ q with
 | false =>
  obtain ⟨f1, f2⟩ := no_field hq
  refine ⟨[], 90, Three.of (dnet _ _) ?_ ?_ Lens.nil, fun _ => ⟨rfl, rfl⟩⟩
  ·unfold evening_Net; rw [f1]; rfl
  ·unfold ref09_Net; rw [f2]; rfl
 | true =>
  obtain ⟨m, rfl, hm⟩ := inQ_in hq
  obtain ⟨m2, m16⟩ := fldN_b hm
  obtain ⟨p, l, hp, hp0⟩ := rfield_in hm
  by_cases hk : 1 ≤ k ∧ k ≤ (m : Int)
  ·obtain ⟨j, rfl⟩ : ∃ j : Nat, k = j := ⟨k.toNat, by omega⟩
   have h1 := net_eq (k := j) hm (by omega)
   by_cases h64 : j * m ≤ 64
   ·rw [if_pos ⟨by omega, by omega, h64⟩] at h1
    refine ⟨_, _, Three.of (dnet _ _) h1 (rnet_in hm (by omega) (by omega) h64) (smB_lens ?_), fun h => by cases h⟩
    have a1 := List.all_eq_true.1 smN m hm
    have h2 : j ≤ 64 / m := (Nat.le_div_iff_mul_le (by omega)).2 h64
    have := allL_at a1 (j - 1) (by omega)
    simpa [show j - 1 + 1 = j by omega] using this
   ·rw [if_neg (fun h => h64 h.2.2)] at h1
    refine ⟨_, _, Three.of (dnet _ _) h1 ?_ Lens.nil, fun h => by cases h⟩
    unfold ref09_Net
    rw [hp]
    simp only [Option.bind_some]
    rw [hp0, if_neg (by decide), if_neg (by simp; omega), if_neg (by simp; omega), mul_wr (by omega) (by omega) (by omega)]
    have : decide ((j : Int) * (m : Int) > 64) = true := by
     rw [decide_eq_true_eq]
     have : ((j * m : Nat) : Int) = (j : Int) * (m : Int) := by simp
     omega
    rw [this]
    rfl
  ·refine ⟨[], 90, Three.of (dnet _ _) ?_ ?_ Lens.nil, fun h => by cases h⟩
   ·unfold evening_Net
    rw [fldOf hm]
    simp only [Option.bind_some, Bool.not_true, Bool.false_eq_true, if_false]
    by_cases h1 : k < 1
    ·simp [h1]
    ·have : k > (m : Int) := by omega
     simp [h1, this]
   ·unfold ref09_Net
    rw [hp]
    simp only [Option.bind_some]
    rw [hp0]
    simp only [Bool.false_eq_true, if_false]
    by_cases h1 : k < 1
    ·simp [h1]
    ·have : k > (m : Int) := by omega
     simp [h1, this]
def rQ (q : Nat) : Bool := isS (ref09_Plane (Int.ofNat q)) (planeN q)
theorem rq_all : ([2, 3, 4, 5, 7, 8].all fun q => rQ q) = true := by kernel_rfl
theorem plane3 (q : Int) : ∃ s e, Three (evening_Plane q) (evening_Plane_d q) (ref09_Plane q) s e := by
 by_cases h8 : inQ q = true ∧ q ≤ 8
 ·obtain ⟨m, rfl, hm⟩ := inQ_in h8.1
  have hm8 : m ≤ 8 := by omega
  have hm6 : m ∈ [2, 3, 4, 5, 7, 8] := by
   simp only [fldN, List.mem_cons, List.not_mem_nil, or_false] at hm ⊢
   omega
  exact ⟨_, _, Three.of (dplane _) (plane_eq hm hm8) (isS_eq (o := ref09_Plane (Int.ofNat m)) (List.all_eq_true.1 rq_all m hm6)) (smB_lens (List.all_eq_true.1 smQ m hm6))⟩
 ·refine ⟨[], 90, Three.of (dplane _) ?_ ?_ Lens.nil⟩
  ·have hn : evening_Net q q = some ([], 90) := by
    cases hq : inQ q with
    | false =>
     obtain ⟨s, e, h, h2⟩ := net3 q q
     obtain ⟨rfl, rfl⟩ := h2 hq
     exact h.a
    | true =>
     obtain ⟨m, rfl, hm⟩ := inQ_in hq
     have h9 : 9 ≤ m := by
      by_cases g : (m : Int) ≤ 8
      ·exact absurd ⟨hq, g⟩ h8
      ·omega
     obtain ⟨m2, m16⟩ := fldN_b hm
     have h1 := net_eq (k := m) hm (by omega)
     have : ¬ m * m ≤ 64 := by
      have := Nat.mul_le_mul h9 h9
      omega
     rw [if_neg (fun h => this h.2.2)] at h1
     exact h1
   unfold evening_Plane
   rw [hn]
   rfl
  ·unfold ref09_Plane
   by_cases g : q > 8
   ·rw [if_pos (by simpa using g)]
   ·rw [if_neg (by simpa using g)]
    have hq : inQ q = false := by
     cases hq : inQ q with
     | false => rfl
     | true => exact absurd ⟨hq, by omega⟩ h8
    have : ref09_Net_o q q = some (90, []) := by
     obtain ⟨s, e, h, h2⟩ := net3 q q
     obtain ⟨rfl, rfl⟩ := h2 hq
     exact sw_some (by rw [← onet]; exact h.c)
    rw [this]
    rfl
abbrev Sch := List (List (List Int))
theorem rkirk_b : (match ref09_Kirkman with | some s => eqI3 s kirkN | none => false) = true := by kernel_rfl
theorem rkirk : ref09_Kirkman = some (toI3 kirkN) := by
 have h := rkirk_b
 split at h
 ·next s hs => rw [hs, eqI3_eq h]
 ·cases h
theorem rfrom_1 (n : Nat) (hn : n ≤ 64) : ∀ (k i f : Nat) (l : List Int), i + k = n → k < f → l.length = i → ref09_from_1 n f l i = evening_span_1 0 n f l i
 | 0, i, f + 1, l, e, _, _ => by
  unfold ref09_from_1 evening_span_1
  rw [if_neg (by simp; omega), if_neg (by simp; omega)]
 | k + 1, i, f + 1, l, e, hf, hl => by
  unfold ref09_from_1 evening_span_1
  have h0 : wr .i64 ((0 : Int) + (i : Int)) = (i : Int) := by rw [Int.zero_add]; exact wr_i (by omega) (by omega)
  rw [h0, wr_nat (by omega), rfrom_1 n hn k (i + 1) f (l ++ [(i : Int)]) (by omega) (by omega) (by simp [hl])]
theorem rfrom {n : Nat} (hn : n ≤ 64) : ref09_from n = some (toI1 (spN 0 n)) := by
 have h1 := span_eq (a := 0) (k := n) (by omega) hn
 unfold evening_span at h1
 unfold ref09_from
 have := rfrom_1 n hn n 0 100000 [] (by omega) (by omega) rfl
 rw [show ((0 : Nat) : Int) = 0 from rfl] at this h1
 rw [this]
 exact h1
theorem ral_2 (n k c : Int) (a : Sch) (j : Sch × Bool) : ∀ (f : Nat) (l : List (List Int)) (i : Int), ref09_candidate_25 n k c j f l i = evening_alone_2 n a c f l i
 | 0, _, _ => rfl
 | f + 1, l, i => by
  unfold ref09_candidate_25 evening_alone_2
  simp only [ral_2 n k c a j f]
theorem ral_1 (n : Int) : ∀ (f : Nat) (l : Sch) (i : Int), ref09_candidate_24 n 1 f l i = evening_alone_1 n f l i
 | 0, _, _ => rfl
 | f + 1, l, i => by
  unfold ref09_candidate_24 evening_alone_1
  by_cases h : decide (i < 64) = true
  ·rw [if_pos h, if_pos h]
   simp only [Option.bind_some, beq_self_eq_true, if_true]
   rw [ral_2 n 1 i l]
   simp only [ral_1 n f]
  ·rw [if_neg h, if_neg h]
   rfl
theorem cand1 {n k : Nat} (hn : n ≤ 64) : ref09_candidate n k 1 = some (if k = n then [[toI1 (spN 0 n)]] else []) := by
 unfold ref09_candidate ref09_candidate_j1 ref09_candidate_j22
 simp only [beq_self_eq_true, if_true]
 by_cases h : k = n
 ·subst h
  simp only [beq_self_eq_true, if_true]
  rw [rfrom hn]
  rfl
 ·have : ((k : Int) == (n : Int)) = false := by simp; omega
  rw [this, if_neg h]
  rfl
theorem cand2 {n k : Nat} (hn : n ≤ 64) : ref09_candidate n k 2 = some (if k = 1 then toI3 (List.replicate 64 (sing n)) else []) := by
 unfold ref09_candidate ref09_candidate_j1 ref09_candidate_j23
 simp only [show ((2 : Int) == 1) = false from rfl, beq_self_eq_true, if_true, Bool.false_eq_true, if_false]
 by_cases h : k = 1
 ·subst h
  have h1 := alone_eq hn
  unfold evening_alone at h1
  rw [if_pos rfl, show ((1 : Nat) : Int) = 1 from rfl, ral_1]
  cases ha : evening_alone_1 n 100000 [] 0 with
  | none => rw [ha] at h1; cases h1
  | some r => rw [ha] at h1; exact h1
 ·have h2 : ((k : Int) == 1) = false := by simp; omega
  have h3 : ref09_candidate_24 n k (99999 + 1) [] 0 = some [] := by
   unfold ref09_candidate_24
   rw [h2]
   rfl
  rw [if_neg h, show (100000 : Nat) = 99999 + 1 from rfl, h3]
  rfl
theorem cand3 {n k : Nat} (hd : n % k = 0) {P : Sch} {e : Int} (hP : ref09_Pairs n = some (P, e)) : ref09_candidate n k 3 = some (if k = 2 then P else []) := by
 unfold ref09_candidate ref09_candidate_j1 ref09_candidate_j23 ref09_candidate_j26 ref09_candidate_j27
 simp only [show ((3 : Int) == 1) = false from rfl, show ((3 : Int) == 2) = false from rfl, beq_self_eq_true, if_true, Bool.false_eq_true, if_false]
 by_cases h : k = 2
 ·subst h
  have : ((n : Int).tmod 2 == 0) = true := by
   rw [Int.tmod_eq_emod_of_nonneg (by omega)]; simp; omega
  rw [this, hP]
  rfl
 ·have h2 : ((k : Int) == 2) = false := by simp; omega
  rw [h2, if_neg h]
  rfl
theorem cand4 {n k : Nat} : ref09_candidate n k 4 = some (if k = 3 ∧ n = 15 then toI3 kirkN else []) := by
 unfold ref09_candidate ref09_candidate_j1 ref09_candidate_j23 ref09_candidate_j26 ref09_candidate_j28 ref09_candidate_j29
 simp only [show ((4 : Int) == 1) = false from rfl, show ((4 : Int) == 2) = false from rfl, show ((4 : Int) == 3) = false from rfl, beq_self_eq_true, if_true, Bool.false_eq_true, if_false]
 by_cases h : k = 3 ∧ n = 15
 ·obtain ⟨rfl, rfl⟩ := h
  rw [rkirk]
  rfl
 ·rw [if_neg h]
  by_cases h3 : k = 3
  ·have h2 : ((n : Int) == 15) = false := by
    have : n ≠ 15 := fun q => h ⟨h3, q⟩
    simp; omega
   rw [h2]
   split <;> rfl
  ·have h2 : ((k : Int) == 3) = false := by simp; omega
   rw [h2]
   rfl
theorem kk_wr {k : Nat} (hk : k ≤ 64) : wr .i64 ((k : Int) * (k : Int)) = ((k * k : Nat) : Int) := by
 have : k * k ≤ 64 * 64 := Nat.mul_le_mul hk hk
 rw [show ((k : Int) * (k : Int)) = ((k * k : Nat) : Int) by simp]
 exact wr_i (by omega) (by omega)
theorem cand5 {n k : Nat} (hk : k ≤ 64) {Q : Sch} {e : Int} (hQ : ref09_Plane k = some (Q, e)) : ref09_candidate n k 5 = some (if k * k = n then Q else []) := by
 unfold ref09_candidate ref09_candidate_j1 ref09_candidate_j23 ref09_candidate_j26 ref09_candidate_j28 ref09_candidate_j30 ref09_candidate_j31
 simp only [show ((5 : Int) == 1) = false from rfl, show ((5 : Int) == 2) = false from rfl, show ((5 : Int) == 3) = false from rfl, show ((5 : Int) == 4) = false from rfl, beq_self_eq_true, if_true, Bool.false_eq_true, if_false]
 rw [kk_wr hk]
 by_cases h : k * k = n
 ·rw [if_pos h, h, hQ]
  simp
 ·have h2 : ((n : Int) == ((k * k : Nat) : Int)) = false := by
   rw [beq_eq_false_iff_ne]
   intro q
   exact h (by omega)
  rw [h2, if_neg h]
  rfl
theorem div_wr {n k : Nat} (hn : n ≤ 64) : wr .i64 ((n : Int).tdiv (k : Int)) = ((n / k : Nat) : Int) := by
 have h : n / k ≤ n := Nat.div_le_self n k
 have e : ((n : Int).tdiv (k : Int)) = ((n / k : Nat) : Int) := by
  rw [Int.tdiv_eq_ediv_of_nonneg (by omega)]; simp
 generalize n / k = q at h e
 rw [e]
 exact wr_i (by omega) (by omega)
theorem cand6 {n k : Nat} (hn : n ≤ 64) (hk : 1 ≤ k) {D : Sch} {e : Int} (hD : ref09_Net k (n / k : Nat) = some (D, e)) : ref09_candidate n k 6 = some D := by
 unfold ref09_candidate ref09_candidate_j1 ref09_candidate_j23 ref09_candidate_j26 ref09_candidate_j28 ref09_candidate_j30 ref09_candidate_j32
 simp only [show ((6 : Int) == 1) = false from rfl, show ((6 : Int) == 2) = false from rfl, show ((6 : Int) == 3) = false from rfl, show ((6 : Int) == 4) = false from rfl, show ((6 : Int) == 5) = false from rfl, beq_self_eq_true, if_true, Bool.false_eq_true, if_false]
 rw [if_neg (by omega), div_wr hn, hD]
 rfl
theorem cut_take {v : Sch} {E : Nat} (h : E ≤ v.length) : cutOk 0 (E : Int) v.length = true ∧ ((v.take ((E : Int)).toNat).drop (0 : Int).toNat) = v.take E := by
 refine ⟨by simp only [cutOk, Bool.and_eq_true, decide_eq_true_eq]; omega, ?_⟩
 rw [Int.toNat_natCast]
 rfl
theorem dstep {n k c : Int} {E : Nat} {v : Sch} (h : ref09_candidate n k c = some v) (hc : c ≤ 6) (f : Nat) : ref09_Design_1 n k E (f + 1) c = if E ≤ v.length then some (.inr (v.take E, 0)) else ref09_Design_1 n k E f (wr .i64 (c + 1)) := by
 rw [ref09_Design_1]
 rw [if_pos (by simpa using hc), h]
 simp only [Option.bind_some]
 by_cases hE : E ≤ v.length
 ·obtain ⟨a, b⟩ := cut_take hE
  rw [if_pos (by simpa using hE), if_pos a, if_pos hE, b]
 ·rw [if_neg (by simpa using hE), if_neg hE]
/-- The first that is long enough. -/
def first (E : Nat) : List Sch → Option Sch
 | [] => none
 | v :: r => if E ≤ v.length then some (v.take E) else first E r
def res (o : Option Sch) : Sch × Int := match o with
 | some v => (v, 0)
 | none => ([], 91)
theorem ref_first {n k : Int} {E : Nat} {v1 v2 v3 v4 v5 v6 : Sch} (h1 : ref09_candidate n k 1 = some v1) (h2 : ref09_candidate n k 2 = some v2) (h3 : ref09_candidate n k 3 = some v3) (h4 : ref09_candidate n k 4 = some v4) (h5 : ref09_candidate n k 5 = some v5) (h6 : ref09_candidate n k 6 = some v6) :
  ((ref09_Design_1 n k E 100000 1).bind fun r16 => match r16 with | (.inl _) => some (([] : Sch), (91 : Int)) | (.inr w18) => some (w18.1, w18.2)) = some (res (first E [v1, v2, v3, v4, v5, v6])) := by
 rw [show (100000 : Nat) = 99993 + 1 + 1 + 1 + 1 + 1 + 1 + 1 from rfl, dstep h1 (by omega)]
 unfold first
 split
 ·rfl
 ·rw [show wr .i64 ((1 : Int) + 1) = 2 from rfl, dstep h2 (by omega)]
  unfold first
  split
  ·rfl
  ·rw [show wr .i64 ((2 : Int) + 1) = 3 from rfl, dstep h3 (by omega)]
   unfold first
   split
   ·rfl
   ·rw [show wr .i64 ((3 : Int) + 1) = 4 from rfl, dstep h4 (by omega)]
    unfold first
    split
    ·rfl
    ·rw [show wr .i64 ((4 : Int) + 1) = 5 from rfl, dstep h5 (by omega)]
     unfold first
     split
     ·rfl
     ·rw [show wr .i64 ((5 : Int) + 1) = 6 from rfl, dstep h6 (by omega)]
      unfold first
      split
      ·rfl
      ·rw [show wr .i64 ((6 : Int) + 1) = 7 from rfl, ref09_Design_1]
       rfl
/- trestle/trestlelaw09.Few -/
/- trestle/trestlelaw09.Copy -/
def law09_Copy_2 (x0 : (List (List (List Int)))) (c1 : (List (List (List Int)))) (c2 : Int) (v4 : (List (List Int))) : Nat → (List (List Int)) → Int → Option (((List (List Int))))
 | 0, _, _ => none
 | f + 1, c5, c6 =>
  if (decide (c6 < (v4.length : Int))) = true then
  (idx v4 c6).bind fun v8 =>
  if (capOk 8 v8.length) = true then
  if (capOk 8 (v8.length + 1)) = true then
  if (cutOk 0 (v8.length : Int) (v8 ++ [(-9)]).length) = true then
  if (capOk 24 (c5.length + 1)) = true then
  law09_Copy_2 x0 c1 c2 v4 f (c5 ++ [((v8 ++ [(-9)]).take ((v8.length : Int).toNat))]) (wr .i64 (c6 + 1))
  else none
  else none
  else none
  else none
  else
  some c5
def law09_Copy_1 (x0 : (List (List (List Int)))) : Nat → (List (List (List Int))) → Int → Option (((List (List (List Int)))))
 | 0, _, _ => none
 | f + 1, c1, c2 =>
  if (decide (c2 < (x0.length : Int))) = true then
  (idx x0 c2).bind fun v4 =>
  (law09_Copy_2 x0 c1 c2 v4 100000 [] 0).bind fun r17 =>
  if (capOk 24 (c1.length + 1)) = true then
  law09_Copy_1 x0 f (c1 ++ [r17]) (wr .i64 (c2 + 1))
  else none
  else
  some c1
def law09_Copy (x0 : (List (List (List Int)))) : Option ((List (List (List Int)))) :=
 (law09_Copy_1 x0 100000 [] 0).bind fun r20 =>
 some r20
theorem copy_2 (s c1 : List (List (List Int))) (c2 : Int) (ev : List (List Int)) (he : ev.length ≤ 50000) (hs : ∀ t ∈ ev, t.length ≤ 50000) : ∀ (r pre : List (List Int)) (f : Nat), ev = pre ++ r → r.length < f → law09_Copy_2 s c1 c2 ev f pre pre.length = some ev
 | [], pre, f + 1, h, _ => by
  subst h
  unfold law09_Copy_2
  rw [nlt_len]
  simp
 | t :: r, pre, f + 1, h, hf => by
  have ht := hs t (by rw [h]; simp)
  have ih := copy_2 s c1 c2 ev he hs r (pre ++ [t]) f (by rw [h]; simp) (by simp at hf; omega)
  subst h
  have hcut : cutOk 0 (t.length : Int) (t ++ [(-9 : Int)]).length = true := by
   simp only [cutOk, Bool.and_eq_true, decide_eq_true_eq, List.length_append, List.length_singleton]; omega
  simp only [List.length_append, List.length_cons] at he
  unfold law09_Copy_2
  rw [if_pos (lt_len pre t r), idx_app]
  simp only [Option.bind_some]
  rw [if_pos (capOk_le (by omega) (by omega)), if_pos (capOk_le (by omega) (by omega)), if_pos hcut, if_pos (capOk_le (by omega) (by omega)), wr_snoc pre t r (by simp; omega)]
  rw [show (t ++ [(-9 : Int)]).take ((t.length : Int)).toNat = t by simp]
  exact ih
theorem copy_1 (s : List (List (List Int))) (he : s.length ≤ 50000) (hs : ∀ ev ∈ s, ev.length ≤ 50000 ∧ ∀ t ∈ ev, t.length ≤ 50000) : ∀ (r pre : List (List (List Int))) (f : Nat), s = pre ++ r → r.length < f → law09_Copy_1 s f pre pre.length = some s
 | [], pre, f + 1, h, _ => by
  subst h
  unfold law09_Copy_1
  rw [nlt_len]
  simp
 | ev :: r, pre, f + 1, h, hf => by
  obtain ⟨h1, h2⟩ := hs ev (by rw [h]; simp)
  have ih := copy_1 s he hs r (pre ++ [ev]) f (by rw [h]; simp) (by simp at hf; omega)
  have h3 := copy_2 s pre pre.length ev h1 h2 ev [] 100000 rfl (by omega)
  rw [show ((([] : List (List Int)).length : Nat) : Int) = 0 from rfl] at h3
  subst h
  simp only [List.length_append, List.length_cons] at he
  unfold law09_Copy_1
  rw [if_pos (lt_len pre ev r), idx_app]
  simp only [Option.bind_some]
  rw [h3]
  simp only [Option.bind_some]
  rw [if_pos (capOk_le (by omega) (by omega)), wr_snoc pre ev r (by simp; omega)]
  exact ih
theorem copy_eq (s : List (List (List Int))) (he : s.length ≤ 50000) (hs : ∀ ev ∈ s, ev.length ≤ 50000 ∧ ∀ t ∈ ev, t.length ≤ 50000) : law09_Copy s = some s := by
 unfold law09_Copy
 have := copy_1 s he hs s [] 100000 rfl (by omega)
 rw [show ((([] : List (List (List Int))).length : Nat) : Int) = 0 from rfl] at this
 rw [this]; rfl
theorem sameInts_1 (xs : List Int) (hxs : xs.length ≤ 50000) : ∀ (r pre : List Int) (f : Nat), xs = pre ++ r → r.length < f → kit_SameInts_1 xs xs f pre.length = some (.inl ())
 | [], pre, f + 1, h, _ => by
  subst h
  unfold kit_SameInts_1
  rw [nlt_len]
  rfl
 | v :: r, pre, f + 1, h, hf => by
  have ih := sameInts_1 xs hxs r (pre ++ [v]) f (by rw [h]; simp) (by simp at hf; omega)
  subst h
  unfold kit_SameInts_1
  rw [if_pos (lt_len pre v r), idx_app]
  simp only [Option.bind_some]
  rw [wr_snoc pre v r (by omega)]
  simp only [bne_self_eq_false, Bool.false_eq_true, if_false]
  exact ih
theorem sameInts_self (xs : List Int) (hxs : xs.length ≤ 50000) : kit_SameInts xs xs = some true := by
 unfold kit_SameInts
 have := sameInts_1 xs hxs xs [] 100000 rfl (by omega)
 rw [show ((([] : List Int).length : Nat) : Int) = 0 from rfl] at this
 simp only [bne_self_eq_false, Bool.false_eq_true, if_false]
 rw [this]; rfl
theorem sameLists_1 (xs : List (List Int)) (hxs : xs.length ≤ 50000) (hs : ∀ t ∈ xs, t.length ≤ 50000) : ∀ (r pre : List (List Int)) (f : Nat), xs = pre ++ r → r.length < f → kit_SameLists_1 xs xs f pre.length = some (.inl ())
 | [], pre, f + 1, h, _ => by
  subst h
  unfold kit_SameLists_1
  rw [nlt_len]
  rfl
 | v :: r, pre, f + 1, h, hf => by
  have hv := hs v (by rw [h]; simp)
  have ih := sameLists_1 xs hxs hs r (pre ++ [v]) f (by rw [h]; simp) (by simp at hf; omega)
  subst h
  unfold kit_SameLists_1
  rw [if_pos (lt_len pre v r), idx_app]
  simp only [Option.bind_some]
  rw [sameInts_self v hv]
  simp only [Option.bind_some]
  rw [wr_snoc pre v r (by omega)]
  simp only [Bool.not_true, Bool.false_eq_true, if_false]
  exact ih
theorem sameLists_self (xs : List (List Int)) (hxs : xs.length ≤ 50000) (hs : ∀ t ∈ xs, t.length ≤ 50000) : kit_SameLists xs xs = some true := by
 unfold kit_SameLists
 have := sameLists_1 xs hxs hs xs [] 100000 rfl (by omega)
 rw [show ((([] : List (List Int)).length : Nat) : Int) = 0 from rfl] at this
 simp only [bne_self_eq_false, Bool.false_eq_true, if_false]
 rw [this]; rfl
theorem equalFunc_1 (xs : List (List (List Int))) (hxs : xs.length ≤ 50000) (hs : ∀ ev ∈ xs, ev.length ≤ 50000 ∧ ∀ t ∈ ev, t.length ≤ 50000) : ∀ (r pre : List (List (List Int))) (f : Nat), xs = pre ++ r → r.length < f → slices_EqualFunc_LLL_LLL_LL_LL__law09_Same_1_1 xs xs f pre.length = some (.inl ())
 | [], pre, f + 1, h, _ => by
  subst h
  unfold slices_EqualFunc_LLL_LLL_LL_LL__law09_Same_1_1
  rw [nlt_len]
  rfl
 | v :: r, pre, f + 1, h, hf => by
  obtain ⟨h1, h2⟩ := hs v (by rw [h]; simp)
  have ih := equalFunc_1 xs hxs hs r (pre ++ [v]) f (by rw [h]; simp) (by simp at hf; omega)
  subst h
  unfold slices_EqualFunc_LLL_LLL_LL_LL__law09_Same_1_1
  rw [if_pos (lt_len pre v r), idx_app]
  simp only [Option.bind_some, law09_Same_1]
  rw [sameLists_self v h1 h2]
  simp only [Option.bind_some]
  rw [wr_snoc pre v r (by omega)]
  simp only [Bool.not_true, Bool.false_eq_true, if_false]
  exact ih
theorem same_self (xs : List (List (List Int))) (hxs : xs.length ≤ 50000) (hs : ∀ ev ∈ xs, ev.length ≤ 50000 ∧ ∀ t ∈ ev, t.length ≤ 50000) : law09_Same xs xs = some true := by
 unfold law09_Same slices_EqualFunc_LLL_LLL_LL_LL__law09_Same_1
 have := equalFunc_1 xs hxs hs xs [] 100000 rfl (by omega)
 rw [show ((([] : List (List (List Int))).length : Nat) : Int) = 0 from rfl] at this
 simp only [bne_self_eq_false, Bool.false_eq_true, if_false]
 rw [this]; rfl
section
variable {n : Nat} {s : List (List (List Nat))}
end
/- trestle/evening.clone -/
def evening_clone_d_2 (v6 : (List (List Int))) : Nat → Int → (List (List Int)) → Option (((List (List Int))))
 | 0, _, _ => none
 | f + 1, c8, c10 =>
  if (decide (c8 < (v6.length : Int))) = true then
  (idx v6 c8).bind fun v12 =>
  if (capOk 8 v12.length) = true then
  if (capOk 24 (c10.length + ([v12] : List (List Int)).length)) = true then
  evening_clone_d_2 v6 f (wr .i64 (c8 + 1)) (c10 ++ ([v12] : List (List Int)))
  else none
  else none
  else
  some c10
def evening_clone_d_1 (x0 : (List (List (List Int)))) : Nat → Int → (List (List (List Int))) → Option (((List (List (List Int)))))
 | 0, _, _ => none
 | f + 1, c2, c4 =>
  if (decide (c2 < (x0.length : Int))) = true then
  (idx x0 c2).bind fun v6 =>
  (evening_clone_d_2 v6 100000 0 ([] : (List (List Int)))).bind fun r32 =>
  if (capOk 24 (c4.length + ([r32] : List (List (List Int))).length)) = true then
  evening_clone_d_1 x0 f (wr .i64 (c2 + 1)) (c4 ++ ([r32] : List (List (List Int))))
  else none
  else
  some c4
def evening_clone_d (x0 : (List (List (List Int)))) : Option ((List (List (List Int)))) :=
 (evening_clone_d_1 x0 100000 0 ([] : (List (List (List Int))))).bind fun r50 =>
 some r50
/- trestle/trestlekit.CopyInts -/
/- trestle/trestlekit.CopyLists -/
/- trestle/trestleref09.Copy -/
/- trestle/evening.Relabel -/
/- trestle/evening.Join -/
/- trestle/trestlelaw09.permutation -/
theorem clone_2 (ev : List (List Int)) (he : ev.length ≤ 50000) (hs : ∀ t ∈ ev, t.length ≤ 50000) : ∀ (r pre : List (List Int)) (f : Nat), ev = pre ++ r → r.length < f → evening_clone_d_2 ev f pre.length pre = some ev
 | [], pre, f + 1, h, _ => by
  subst h
  unfold evening_clone_d_2
  rw [nlt_len]
  simp
 | t :: r, pre, f + 1, h, hf => by
  have ht := hs t (by rw [h]; simp)
  have ih := clone_2 ev he hs r (pre ++ [t]) f (by rw [h]; simp) (by simp at hf; omega)
  subst h
  simp only [List.length_append, List.length_cons] at he
  unfold evening_clone_d_2
  rw [if_pos (lt_len pre t r), idx_app]
  simp only [Option.bind_some]
  rw [if_pos (capOk_le (by omega) (by omega)), if_pos (capOk_le (by omega) (by simp; omega)), wr_snoc pre t r (by simp; omega)]
  exact ih
theorem clone_1 (s : List (List (List Int))) (he : s.length ≤ 50000) (hs : ∀ ev ∈ s, ev.length ≤ 50000 ∧ ∀ t ∈ ev, t.length ≤ 50000) : ∀ (r pre : List (List (List Int))) (f : Nat), s = pre ++ r → r.length < f → evening_clone_d_1 s f pre.length pre = some s
 | [], pre, f + 1, h, _ => by
  subst h
  unfold evening_clone_d_1
  rw [nlt_len]
  simp
 | ev :: r, pre, f + 1, h, hf => by
  obtain ⟨h1, h2⟩ := hs ev (by rw [h]; simp)
  have ih := clone_1 s he hs r (pre ++ [ev]) f (by rw [h]; simp) (by simp at hf; omega)
  have h3 := clone_2 ev h1 h2 ev [] 100000 rfl (by omega)
  rw [show ((([] : List (List Int)).length : Nat) : Int) = 0 from rfl] at h3
  subst h
  simp only [List.length_append, List.length_cons] at he
  unfold evening_clone_d_1
  rw [if_pos (lt_len pre ev r), idx_app]
  simp only [Option.bind_some]
  rw [h3]
  simp only [Option.bind_some]
  rw [if_pos (capOk_le (by omega) (by simp; omega)), wr_snoc pre ev r (by simp; omega)]
  exact ih
theorem clone_eq (s : List (List (List Int))) (he : s.length ≤ 50000) (hs : ∀ ev ∈ s, ev.length ≤ 50000 ∧ ∀ t ∈ ev, t.length ≤ 50000) : evening_clone_d s = some s := by
 unfold evening_clone_d
 have := clone_1 s he hs s [] 100000 rfl (by omega)
 rw [show ((([] : List (List (List Int))).length : Nat) : Int) = 0 from rfl] at this
 rw [this]; rfl
/- Other names. -/
theorem set_app {α : Type} (pre : List α) (x y : α) (r : List α) : (pre ++ x :: r).set ((pre.length : Int)).toNat y = pre ++ y :: r := by
 rw [Int.toNat_natCast]
 simp
/- What is written over. -/
theorem spoil_3 (i : Int) (ev0 : List (List Int)) (t : List Int) (hl : t.length ≤ 50000) : ∀ (r : List Int) (pre a : List Int) (f : Nat), t = pre ++ r → a.length = pre.length → r.length < f → ∃ m, law09_spoil_d_3 i ev0 t f pre.length (a ++ r) = some (ev0.set i.toNat m)
 | [], pre, a, f + 1, h, _, _ => by
  subst h
  unfold law09_spoil_d_3
  rw [nlt_len]
  exact ⟨_, rfl⟩
 | k :: r, pre, a, f + 1, h, ha, hf => by
  obtain ⟨m, ih⟩ := spoil_3 i ev0 t hl r (pre ++ [k]) (a ++ [xorI .i64 k 1]) f (by rw [h]; simp) (by simp [ha]) (by simp at hf; omega)
  refine ⟨m, ?_⟩
  have hi : idx (a ++ k :: r) ((pre.length : Nat) : Int) = some k := by rw [← ha]; exact idx_app _ _ _
  have hw : wr .i64 ((pre.length : Int) + 1) = ((pre ++ [k]).length : Int) := wr_snoc pre k r (by rw [← h]; omega)
  unfold law09_spoil_d_3
  rw [if_pos (by rw [h]; simp; omega), hi]
  simp only [Option.bind_some]
  rw [hw, show (a ++ k :: r).set ((pre.length : Nat) : Int).toNat (xorI .i64 k 1) = a ++ xorI .i64 k 1 :: r by rw [← ha]; exact set_app _ _ _ _]
  rw [List.append_assoc] at ih
  exact ih
theorem spoil_2 (i : Int) (s0 : List (List (List Int))) (ev : List (List Int)) (hl : ev.length ≤ 50000) (ht : ∀ t ∈ ev, t.length ≤ 50000) : ∀ (r : List (List Int)) (pre a : List (List Int)) (f : Nat), ev = pre ++ r → a.length = pre.length → r.length < f → ∃ m, law09_spoil_d_2 i s0 ev f pre.length (a ++ r) = some (s0.set i.toNat m)
 | [], pre, a, f + 1, h, _, _ => by
  subst h
  unfold law09_spoil_d_2
  rw [nlt_len]
  exact ⟨_, rfl⟩
 | k :: r, pre, a, f + 1, h, ha, hf => by
  have h1 := ht k (by rw [h]; simp)
  obtain ⟨m3, h3⟩ := spoil_3 pre.length (a ++ k :: r) k h1 k [] [] 100000 rfl rfl (by omega)
  rw [show ((([] : List Int).length : Nat) : Int) = 0 from rfl, List.nil_append] at h3
  obtain ⟨m, ih⟩ := spoil_2 i s0 ev hl ht r (pre ++ [k]) (a ++ [m3]) f (by rw [h]; simp) (by simp [ha]) (by simp at hf; omega)
  refine ⟨m, ?_⟩
  have hi : idx (a ++ k :: r) ((pre.length : Nat) : Int) = some k := by rw [← ha]; exact idx_app _ _ _
  have hw : wr .i64 ((pre.length : Int) + 1) = ((pre ++ [k]).length : Int) := wr_snoc pre k r (by rw [← h]; omega)
  unfold law09_spoil_d_2
  rw [if_pos (by rw [h]; simp; omega), hi]
  simp only [Option.bind_some]
  rw [h3]
  simp only [Option.bind_some]
  rw [hw, show (a ++ k :: r).set ((pre.length : Nat) : Int).toNat m3 = a ++ m3 :: r by rw [← ha]; exact set_app _ _ _ _]
  rw [List.append_assoc] at ih
  exact ih
theorem spoil_1 (s : List (List (List Int))) (hl : s.length ≤ 50000) (ht : ∀ ev ∈ s, ev.length ≤ 50000 ∧ ∀ t ∈ ev, t.length ≤ 50000) : ∀ (r : List (List (List Int))) (pre a : List (List (List Int))) (f : Nat), s = pre ++ r → a.length = pre.length → r.length < f → ∃ m, law09_spoil_d_1 s f pre.length (a ++ r) = some m
 | [], pre, a, f + 1, h, _, _ => by
  subst h
  unfold law09_spoil_d_1
  rw [nlt_len]
  exact ⟨_, rfl⟩
 | k :: r, pre, a, f + 1, h, ha, hf => by
  obtain ⟨h1, h2⟩ := ht k (by rw [h]; simp)
  obtain ⟨m3, h3⟩ := spoil_2 pre.length (a ++ k :: r) k h1 h2 k [] [] 100000 rfl rfl (by omega)
  rw [show ((([] : List (List Int)).length : Nat) : Int) = 0 from rfl, List.nil_append] at h3
  obtain ⟨m, ih⟩ := spoil_1 s hl ht r (pre ++ [k]) (a ++ [m3]) f (by rw [h]; simp) (by simp [ha]) (by simp at hf; omega)
  refine ⟨m, ?_⟩
  have hi : idx (a ++ k :: r) ((pre.length : Nat) : Int) = some k := by rw [← ha]; exact idx_app _ _ _
  have hw : wr .i64 ((pre.length : Int) + 1) = ((pre ++ [k]).length : Int) := wr_snoc pre k r (by rw [← h]; omega)
  unfold law09_spoil_d_1
  rw [if_pos (by rw [h]; simp; omega), hi]
  simp only [Option.bind_some]
  rw [h3]
  simp only [Option.bind_some]
  rw [hw, show (a ++ k :: r).set ((pre.length : Nat) : Int).toNat m3 = a ++ m3 :: r by rw [← ha]; exact set_app _ _ _ _]
  rw [List.append_assoc] at ih
  exact ih
theorem spoil_some (s : List (List (List Int))) (hl : s.length ≤ 50000) (ht : ∀ ev ∈ s, ev.length ≤ 50000 ∧ ∀ t ∈ ev, t.length ≤ 50000) : ∃ m, law09_spoil_d s = some m := by
 obtain ⟨m, h⟩ := spoil_1 s hl ht s [] [] 100000 rfl rfl (by omega)
 rw [show ((([] : List (List (List Int))).length : Nat) : Int) = 0 from rfl, List.nil_append] at h
 refine ⟨m, ?_⟩
 unfold law09_spoil_d
 rw [h]; rfl
/- Permutations. -/
theorem first_skip {E : Nat} {v : Sch} {r : List Sch} (h : ¬ E ≤ v.length) : first E (v :: r) = first E r := by
 rw [first, if_neg h]
theorem first_hit {E : Nat} {v : Sch} {r : List Sch} (h : E ≤ v.length) : first E (v :: r) = some (v.take E) := by
 rw [first, if_pos h]
theorem lens_if {c : Prop} [Decidable c] {a b : Sch} (ha : Lens a) (hb : Lens b) : Lens (if c then a else b) := by
 split
 ·exact ha
 ·exact hb
theorem Lens.take {a : Sch} (h : Lens a) (E : Nat) : Lens (a.take E) := ⟨by
 have := h.1
 rw [List.length_take]; omega, fun ev he => h.2 ev (List.mem_of_mem_take he)⟩
theorem first_lens {E : Nat} : ∀ {l : List Sch}, (∀ v ∈ l, Lens v) → Lens (res (first E l)).1
 | [], _ => Lens.nil
 | v :: r, h => by
  unfold first
  split
  ·exact (h v (by simp)).take E
  ·exact first_lens fun w hw => h w (by simp [hw])
theorem evd_late {n k E : Nat} (hn : n ≤ 64) (hk1 : 2 ≤ k) (hkn : k ≤ n) {P Q D : Sch} {e1 e2 e3 : Int} (hP : evening_Pairs n = some (P, e1)) (hQ : evening_Plane k = some (Q, e2)) (hD : evening_Net k (n / k : Nat) = some (D, e3)) (hE : 1 ≤ E) :
  ((evening_Design_j1 n k E).bind fun r20 =>
 (if ((k : Int) == 3) = true then some ((n : Int) == 15) else some false).bind fun j22 =>
 (evening_Design_j2 n k E r20 j22).bind fun r26 =>
 (if ((wr .i64 ((k : Int) * (k : Int))) == (n : Int)) = true then some (decide ((r26.length : Int) < (E : Int))) else some false).bind fun j28 =>
 (evening_Design_j3 n k E r26 j28).bind fun r32 =>
 (evening_Design_j4 n k E r32).bind fun r37 =>
 if (decide ((r37.length : Int) < (E : Int))) = true then
 some (([] : Sch), (91 : Int))
 else
 if (cutOk 0 (E : Int) r37.length) = true then
 some (((r37.take ((E : Int)).toNat).drop (0 : Int).toNat), 0)
 else none) = some (res (first E [if k = 2 then P else [], if k = 3 ∧ n = 15 then toI3 kirkN else [], if k * k = n then Q else [], D])) := by
 have j1 : evening_Design_j1 n k E = some (if k = 2 then P else []) := by
  unfold evening_Design_j1
  by_cases h2 : k = 2
  ·subst h2
   rw [if_pos rfl, show (((2 : Nat) : Int) == 2) = true from rfl]
   simp only [if_true]
   rw [hP]; rfl
  ·have : ((k : Int) == 2) = false := by simp; omega
   rw [this, if_neg h2]; rfl
 have j2 : ∀ a : Sch, ((if ((k : Int) == 3) = true then some ((n : Int) == 15) else some false).bind fun j22 => evening_Design_j2 n k E a j22) = some (if k = 3 ∧ n = 15 then toI3 kirkN else a) := fun a => by
  by_cases h3 : k = 3 ∧ n = 15
  ·obtain ⟨rfl, rfl⟩ := h3
   show (evening_Kirkman.bind fun v24 => some v24) = _
   rw [kirkman_eq]; rfl
  ·rw [if_neg h3]
   by_cases h4 : k = 3
   ·have h5 : ((n : Int) == 15) = false := by simp; omega
    subst h4
    rw [show (((3 : Nat) : Int) == 3) = true from rfl, h5]
    rfl
   ·have : ((k : Int) == 3) = false := by simp; omega
    rw [this]
    rfl
 have j3 : ∀ a : Sch, ((if ((wr .i64 ((k : Int) * (k : Int))) == (n : Int)) = true then some (decide ((a.length : Int) < (E : Int))) else some false).bind fun j28 => evening_Design_j3 n k E a j28) = some (if k * k = n ∧ a.length < E then Q else a) := fun a => by
  rw [kk_wr (by omega)]
  by_cases h3 : k * k = n
  ·rw [h3]
   simp only [beq_self_eq_true, if_true, Option.bind_some, true_and]
   unfold evening_Design_j3
   by_cases h4 : a.length < E
   ·rw [if_pos (by simpa using h4), if_pos h4, hQ]; rfl
   ·rw [if_neg (by simpa using h4), if_neg h4]
  ·have h2 : (((k * k : Nat) : Int) == (n : Int)) = false := by
    rw [beq_eq_false_iff_ne]
    intro q
    exact h3 (by omega)
   rw [h2, if_neg Bool.false_ne_true, if_neg (fun g : k * k = n ∧ a.length < E => h3 g.1)]
   rfl
 have j4 : ∀ a : Sch, evening_Design_j4 n k E a = some (if a.length < E then D else a) := fun a => by
  unfold evening_Design_j4
  by_cases h4 : a.length < E
  ·rw [if_pos (by simpa using h4), if_pos h4, if_neg (by omega), div_wr hn, hD]; rfl
  ·rw [if_neg (by simpa using h4), if_neg h4]
 have b2 : ∀ {β : Type} (a : Sch) (K : Sch → Option β), ((if ((k : Int) == 3) = true then some ((n : Int) == 15) else some false).bind fun j22 => (evening_Design_j2 n k E a j22).bind K) = K (if k = 3 ∧ n = 15 then toI3 kirkN else a) := fun a K => by
  rw [← Option.bind_assoc, j2]; rfl
 have b3 : ∀ {β : Type} (a : Sch) (K : Sch → Option β), ((if ((wr .i64 ((k : Int) * (k : Int))) == (n : Int)) = true then some (decide ((a.length : Int) < (E : Int))) else some false).bind fun j28 => (evening_Design_j3 n k E a j28).bind K) = K (if k * k = n ∧ a.length < E then Q else a) := fun a K => by
  rw [← Option.bind_assoc, j3]; rfl
 rw [j1]
 simp only [Option.bind_some]
 rw [b2]
 simp only [b3, j4, Option.bind_some]
 have fin : ∀ v : Sch, (if decide ((v.length : Int) < (E : Int)) = true then some (([] : Sch), (91 : Int)) else if cutOk 0 (E : Int) v.length = true then some (((v.take ((E : Int)).toNat).drop (0 : Int).toNat), 0) else none) = some (res (first E [v])) := fun v => by
  by_cases h : E ≤ v.length
  ·obtain ⟨a, b⟩ := cut_take h
   rw [if_neg (by simp; omega), if_pos a, b, first_hit h]
   rfl
  ·rw [if_pos (by simp; omega), first_skip h]
   rfl
 rw [fin]
 -- the choices
 have e0 : ¬ E ≤ ([] : Sch).length := by simp; omega
 generalize hA : (if k = 2 then P else []) = A
 generalize hB : (if k = 3 ∧ n = 15 then toI3 kirkN else []) = B
 have hr : (if k = 3 ∧ n = 15 then toI3 kirkN else A) = if k = 3 ∧ n = 15 then B else A := by
  split
  ·next h => rw [← hB, if_pos h]
  ·rfl
 rw [hr]
 have main : ∀ r2 : Sch, first E [if (if k * k = n ∧ r2.length < E then Q else r2).length < E then D else (if k * k = n ∧ r2.length < E then Q else r2)] = first E [r2, if k * k = n then Q else [], D] := fun r2 => by
  by_cases h : E ≤ r2.length
  ·have hX : (if k * k = n ∧ r2.length < E then Q else r2) = r2 := if_neg fun g => by omega
   rw [hX, if_neg (by omega), first_hit h, first_hit h]
  ·rw [first_skip h]
   by_cases hk : k * k = n
   ·have hX : (if k * k = n ∧ r2.length < E then Q else r2) = Q := if_pos ⟨hk, by omega⟩
    rw [hX, if_pos hk]
    by_cases h2 : E ≤ Q.length
    ·rw [if_neg (by omega), first_hit h2, first_hit h2]
    ·rw [if_pos (by omega), first_skip h2]
   ·have hX : (if k * k = n ∧ r2.length < E then Q else r2) = r2 := if_neg fun g => hk g.1
    rw [hX, if_neg hk, if_pos (by omega), first_skip e0]
 rw [main]
 congr 2
 by_cases h3 : k = 3 ∧ n = 15
 ·have hA0 : A = [] := by rw [← hA, if_neg (by omega)]
  rw [if_pos h3, hA0, first_skip e0]
 ·have hB0 : B = [] := by rw [← hB, if_neg h3]
  rw [if_neg h3, hB0]
  by_cases h : E ≤ A.length
  ·rw [first_hit h, first_hit h]
  ·rw [first_skip h, first_skip h, first_skip e0]
theorem design3 (n k E : Int) : ∃ s e, evening_Design n k E = some (s, e) ∧ ref09_Design n k E = some (s, e) ∧ Lens s := by
 by_cases hok : 1 ≤ n ∧ n ≤ 64 ∧ 1 ≤ k ∧ k ≤ n ∧ n.tmod k = 0
 ·obtain ⟨n1, n64, k1, kn, hd⟩ := hok
  have hg : evening_guests n = some true := by
   unfold evening_guests
   have h1 : decide (n ≥ 1) = true := by simp; omega
   have h2 : decide (n ≤ 64) = true := by simp; omega
   simp [h1, h2]
  have hc1 : (if decide (k < 1) = true then some true else if decide (k > n) = true then some true else if k = (0 : Int) then none else some (n.tmod k != 0)) = some false := by
   rw [if_neg (by simp; omega), if_neg (by simp; omega), if_neg (by omega), hd]
   rfl
  have hr1 : (if decide (n < 1) = true then some true else if decide (n > 64) = true then some true else if decide (k < 1) = true then some true else if decide (k > n) = true then some true else if k = (0 : Int) then none else some (decide (n.tmod k > 0))) = some false := by
   rw [if_neg (by simp; omega), if_neg (by simp; omega), if_neg (by simp; omega), if_neg (by simp; omega), if_neg (by omega), hd]
   rfl
  unfold evening_Design ref09_Design
  rw [hg]
  simp only [Option.bind_some, Bool.not_true, Bool.false_eq_true, if_false]
  rw [hc1, hr1]
  simp only [Option.bind_some, Bool.false_eq_true, if_false]
  by_cases hEb : E < 0 ∨ E > 64
  ·have : (if decide (E < 0) = true then some true else some (decide (E > 64))) = some true := by
    by_cases h : E < 0
    ·rw [if_pos (by simpa using h)]
    ·rw [if_neg (by simpa using h)]
     congr 1
     simp; omega
   rw [this]
   exact ⟨[], 2, rfl, rfl, Lens.nil⟩
  ·have : (if decide (E < 0) = true then some true else some (decide (E > 64))) = some false := by
    rw [if_neg (by simp; omega)]
    congr 1
    simp; omega
   rw [this]
   simp only [Option.bind_some, Bool.false_eq_true, if_false]
   by_cases hE0 : E = 0
   ·subst hE0
    exact ⟨[], 0, rfl, rfl, Lens.nil⟩
   ·have hb0 : (E == 0) = false := by simp; omega
    rw [hb0]
    simp only [Bool.false_eq_true, if_false]
    obtain ⟨N, rfl⟩ : ∃ N : Nat, n = N := ⟨n.toNat, by omega⟩
    obtain ⟨K, rfl⟩ : ∃ K : Nat, k = K := ⟨k.toNat, by omega⟩
    obtain ⟨F, rfl⟩ : ∃ F : Nat, E = F := ⟨E.toNat, by omega⟩
    have hdN : N % K = 0 := by
     rw [Int.tmod_eq_emod_of_nonneg (by omega)] at hd
     have : ((N % K : Nat) : Int) = 0 := by rw [← hd]; simp
     omega
    obtain ⟨P, e1, p3⟩ := pairs3 N
    obtain ⟨Q, e2, q3⟩ := plane3 K
    obtain ⟨D, e3, d3, _⟩ := net3 K (N / K : Nat)
    have hr := ref_first (n := N) (k := K) (E := F) (cand1 (by omega)) (cand2 (by omega)) (cand3 hdN p3.c) cand4 (cand5 (by omega) q3.c) (cand6 (by omega) (by omega) d3.c)
    have hK : Lens (toI3 kirkN) := smB_lens (by decide)
    have l1 : Lens (if K = N then [[toI1 (spN 0 N)]] else []) := by
     split
     ·refine ⟨by simp, fun ev he => ?_⟩
      rw [List.mem_singleton.1 he]
      refine ⟨by simp, fun t ht => ?_⟩
      rw [List.mem_singleton.1 ht, toI1_len, spN_range]; simp; omega
     ·exact Lens.nil
    have l2 : Lens (if K = 1 then toI3 (List.replicate 64 (sing N)) else []) := by
     split
     ·refine ⟨by rw [toI3_len]; simp, fun ev he => ?_⟩
      obtain ⟨u, hu, rfl⟩ := List.mem_map.1 he
      rw [List.eq_of_mem_replicate hu]
      refine ⟨by rw [toI2_len]; unfold sing; simp; omega, fun t ht => ?_⟩
      obtain ⟨w, hw, rfl⟩ := List.mem_map.1 ht
      obtain ⟨x, _, rfl⟩ := List.mem_map.1 hw
      rw [toI1_len]; simp
     ·exact Lens.nil
    have lr : Lens (res (first F [if K = N then [[toI1 (spN 0 N)]] else [], if K = 1 then toI3 (List.replicate 64 (sing N)) else [], if K = 2 then P else [], if K = 3 ∧ N = 15 then toI3 kirkN else [], if K * K = N then Q else [], D])).1 := first_lens fun v hv => by
     simp only [List.mem_cons, List.not_mem_nil, or_false] at hv
     rcases hv with rfl | rfl | rfl | rfl | rfl | rfl
     ·exact l1
     ·exact l2
     ·exact lens_if p3.l Lens.nil
     ·exact lens_if hK Lens.nil
     ·exact lens_if q3.l Lens.nil
     ·exact d3.l
    refine ⟨_, _, ?_, hr, lr⟩
    by_cases h1 : K = N ∧ F = 1
    ·obtain ⟨rfl, rfl⟩ := h1
     have hs := span_eq (a := 0) (k := K) (by omega) (by omega)
     rw [show ((0 : Nat) : Int) = 0 from rfl] at hs
     simp only [beq_self_eq_true, if_true, show (((1 : Nat) : Int) == 1) = true from rfl, Option.bind_some]
     rw [hs, first_hit (by simp)]
     rfl
    ·have hj : (if ((K : Int) == (N : Int)) = true then some ((F : Int) == 1) else some false) = some false := by
      by_cases h2 : K = N
      ·have : ¬ F = 1 := fun e => h1 ⟨h2, e⟩
       have hb : ((F : Int) == 1) = false := by simp; omega
       rw [hb]; split <;> rfl
      ·have : ((K : Int) == (N : Int)) = false := by simp; omega
       rw [this]; rfl
     rw [hj]
     simp only [Option.bind_some, Bool.false_eq_true, if_false]
     have hsk : ¬ F ≤ (if K = N then [[toI1 (spN 0 N)]] else [] : Sch).length := by
      split
      ·next h2 =>
       have : ¬ F = 1 := fun e => h1 ⟨h2, e⟩
       simp; omega
      ·simp; omega
     rw [first_skip hsk]
     by_cases hk : K = 1
     ·subst hk
      have hl : F ≤ (toI3 (List.replicate 64 (sing N))).length := by rw [toI3_len]; simp; omega
      obtain ⟨a, b⟩ := cut_take hl
      rw [show (((1 : Nat) : Int) == 1) = true from rfl]
      simp only [if_true]
      rw [alone_eq (by omega)]
      simp only [Option.bind_some]
      rw [if_pos a, b, first_hit hl]
     ·have hb1 : ((K : Int) == 1) = false := by simp; omega
      rw [hb1, if_neg hk, first_skip (by simp; omega)]
      simp only [Bool.false_eq_true, if_false]
      exact evd_late (by omega) (by omega) (by omega) p3.a q3.a d3.a (by omega)
 ·refine ⟨[], 90, ?_, ?_, Lens.nil⟩
  ·unfold evening_Design evening_guests
   by_cases a1 : 1 ≤ n
   ·by_cases a2 : n ≤ 64
    ·have x1 : decide (n ≥ 1) = true := by simp; omega
     have x2 : decide (n ≤ 64) = true := by simp; omega
     rw [x1, x2]
     simp only [if_true, Option.bind_some, Bool.not_true, Bool.false_eq_true, if_false]
     by_cases a3 : k < 1
     ·simp [a3]
     ·by_cases a4 : k > n
      ·simp [a3, a4]
      ·have a5 : ¬ n.tmod k = 0 := fun g => hok ⟨a1, a2, by omega, by omega, g⟩
       have a6 : ¬ k = 0 := by omega
       simp [a3, a4, a5, a6]
    ·have x1 : decide (n ≥ 1) = true := by simp; omega
     have x2 : decide (n ≤ 64) = false := by simp; omega
     rw [x1, x2]
     rfl
   ·have x1 : decide (n ≥ 1) = false := by simp; omega
    rw [x1]
    rfl
  ·unfold ref09_Design
   by_cases a1 : n < 1
   ·simp [a1]
   ·by_cases a2 : n > 64
    ·simp [a1, a2]
    ·by_cases a3 : k < 1
     ·simp [a1, a2, a3]
     ·by_cases a4 : k > n
      ·simp [a1, a2, a3, a4]
      ·have a5 : ¬ n.tmod k = 0 := fun g => hok ⟨by omega, by omega, by omega, by omega, g⟩
       have a6 : ¬ k = 0 := by omega
       have a7 : n.tmod k > 0 := by
        rw [Int.tmod_eq_emod_of_nonneg (by omega)] at a5 ⊢
        have := Int.emod_nonneg n a6
        omega
       simp [a1, a2, a3, a4, a6, a7]
theorem designed3 (n k : Int) : law09_designed n k = some true := by
 obtain ⟨s1, e1, h1⟩ := pairs3 n
 obtain ⟨s2, e2, h2⟩ := rings3 n
 obtain ⟨s3, e3, h3, _⟩ := net3 k n
 obtain ⟨s4, e4, h4⟩ := plane3 k
 unfold law09_designed
 rw [h1.a, h1.c, h2.a, h2.c, h3.a, h3.c, h4.a, h4.c]
 simp only [Option.bind_some]
 rw [same_self s1 h1.l.1 h1.l.2, same_self s2 h2.l.1 h2.l.2, same_self s3 h3.l.1 h3.l.2, same_self s4 h4.l.1 h4.l.2]
 rfl
theorem dsg_loop (v1 v6 v11 v16 : Int × Sch) (l1 : Lens v1.2) (l6 : Lens v6.2) (l11 : Lens v11.2) (l16 : Lens v16.2) (f : Nat) : law09_designs_1 v1 v6 v11 v16 (f + 5) 0 [v1.2, v6.2, v11.2, v16.2] = some () := by
 obtain ⟨m1, g1⟩ := spoil_some v1.2 l1.1 l1.2
 obtain ⟨m2, g2⟩ := spoil_some v6.2 l6.1 l6.2
 obtain ⟨m3, g3⟩ := spoil_some v11.2 l11.1 l11.2
 obtain ⟨m4, g4⟩ := spoil_some v16.2 l16.1 l16.2
 rw [law09_designs_1, if_pos (by simp), show idx [v1.2, v6.2, v11.2, v16.2] 0 = some v1.2 from rfl]
 simp only [Option.bind_some]
 rw [g1]
 simp only [Option.bind_some]
 rw [show wr .i64 ((0 : Int) + 1) = 1 from rfl, show [v1.2, v6.2, v11.2, v16.2].set ((0 : Int)).toNat m1 = [m1, v6.2, v11.2, v16.2] from rfl, law09_designs_1, if_pos (by simp), show idx [m1, v6.2, v11.2, v16.2] 1 = some v6.2 from rfl]
 simp only [Option.bind_some]
 rw [g2]
 simp only [Option.bind_some]
 rw [show wr .i64 ((1 : Int) + 1) = 2 from rfl, show [m1, v6.2, v11.2, v16.2].set ((1 : Int)).toNat m2 = [m1, m2, v11.2, v16.2] from rfl, law09_designs_1, if_pos (by simp), show idx [m1, m2, v11.2, v16.2] 2 = some v11.2 from rfl]
 simp only [Option.bind_some]
 rw [g3]
 simp only [Option.bind_some]
 rw [show wr .i64 ((2 : Int) + 1) = 3 from rfl, show [m1, m2, v11.2, v16.2].set ((2 : Int)).toNat m3 = [m1, m2, m3, v16.2] from rfl, law09_designs_1, if_pos (by simp), show idx [m1, m2, m3, v16.2] 3 = some v16.2 from rfl]
 simp only [Option.bind_some]
 rw [g4]
 simp only [Option.bind_some]
 rw [show wr .i64 ((3 : Int) + 1) = 4 from rfl, law09_designs_1, if_neg (by simp)]
theorem designs_law (n k E : Int) : law09_EveningDesigns n k E = some true := by
 have hm : law09_designs n k E = some true := by
  obtain ⟨s1, e1, h1⟩ := pairs3 n
  obtain ⟨s2, e2, h2⟩ := rings3 n
  obtain ⟨s3, e3, h3, _⟩ := net3 k n
  obtain ⟨s4, e4, h4⟩ := plane3 k
  obtain ⟨s5, e5, h5, h6, h7⟩ := design3 n k E
  unfold law09_designs
  rw [h1.b, h1.c, h2.b, h2.c, h3.b, h3.c, h4.b, h4.c, h5, h6]
  simp only [Option.bind_some]
  have hl := dsg_loop (e1, s1) (e2, s2) (e3, s3) (e4, s4) h1.l h2.l h3.l h4.l 99995
  rw [show 99995 + 5 = 100000 from rfl] at hl
  rw [hl, designed3]
  simp only [Option.bind_some, beq_self_eq_true, if_true]
  rw [same_self s5 h7.1 h7.2]
  rfl
 unfold law09_EveningDesigns
 rw [hm]
 rfl
end Go.Proofs.YtcmgmkepodbpkaaDoor
namespace Go.Proofs.YtcmgmkepodbpkaaDoor.eveningDesigns
open Go.ChangeShapes Go.WideShapes Go.ChangeAt Go.RowKit
theorem law_ret (a0 : Int) (a1 : Int) (a2 : Int) (h : law09_EveningDesigns a0 a1 a2 = some true) {w : World} {v0 v1 v2 : Value} (h0 : VR w (fun c => c < w.heap.size) [] (cdI.enc a0) v0) (h1 : VR w (fun c => c < w.heap.size) [] (cdI.enc a1) v1) (h2 : VR w (fun c => c < w.heap.size) [] (cdI.enc a2) v2) : Ret Tryd.prog 4 #[v0, v1, v2] w fun v w' => v = .bool true ∧ w.grownBy w' none :=
 Ret.mono (x_law09_EveningDesigns.2 (cs_law09_EveningDesigns.enc (a0, a1, a2, ())) (er_law09_EveningDesigns true) (told_enc (s := cs_law09_EveningDesigns) (a := (a0, a1, a2, ())) h) w (fun c => c < w.heap.size) [v0, v1, v2] (fun c hc => hc) (fun g x h => by cases h) (.cons h0 (.cons h1 (.cons h2 .nil)))) fun v w' h => ⟨h.2.v_inv, h.1⟩
set_option maxRecDepth 100000 in
theorem contract (H : Type) (enc : TypeId × Value → H) (W : World) (base : Nat) (args : Array Value) (ds gs : List (DataW H)) (before : List MemPlace)
  (hval : ∀ (j : Nat) t v, Tryd.f4.params[j]? = some t → args[j]? = some v → Value.okWide Tryd.prog W .any base t v)
  (hW : DataW.Whole enc Tryd.prog Tryd.f4.params.toList Rows.eveningDesignsSpec.vars false W args.toList ds gs before)
  (hsz : (DataW.weightsEach Tryd.prog (Tryd.f4.params.toList ++ (OpenSpec.ofChange Rows.eveningDesignsSpec).bare.plain.varTypes Tryd.prog) (ds ++ gs)).all (· ≤ reachBytes) = true) :
  Calls Tryd.prog 4 args W fun e W' => ∃ v, e = .returned v ∧ Rows.eveningDesignsSpec.post enc Tryd.prog Tryd.f4 false true false false W args v W' := by
 have hW' := hW
 obtain ⟨p, q, hA0, hV, rfl, hfz, hnd⟩ := hW
 have hA : DataW.TrodAll enc Tryd.prog W 0 (fun _ => true) true Tryd.f4.params.toList args.toList ds p := hA0
 have hpar : Tryd.f4.params = #[3, 3, 3] := by kernel_rfl
 rw [hpar] at hA hval
 obtain ⟨v0, vs0, d0, ds0, p0, q0, hargs, rfl, rfl, h0, r0⟩ := trodAll_cons hA
 obtain ⟨v1, vs1, d1, ds1, p1, q1, rfl, rfl, rfl, h1, r1⟩ := trodAll_cons r0
 obtain ⟨v2, vs2, d2, ds2, p2, q2, rfl, rfl, rfl, h2, r2⟩ := trodAll_cons r1
 obtain ⟨rfl, rfl, rfl⟩ := trodAll_nil r2
 obtain rfl : args = #[v0, v1, v2] := by apply Array.ext'; simpa using hargs
 obtain ⟨a0, k0, g0⟩ := rd_arg (rd_int64 (by kernel_rfl : Tryd.prog.underlying 3 = some (.int .i64))) (one_int (by kernel_rfl : Tryd.prog.underlying 3 = some (.int .i64)) (hval 0 3 v0 rfl rfl)) h0 hsz (j := 0) (by kernel_rfl) rfl
 obtain ⟨a1, k1, g1⟩ := rd_arg (rd_int64 (by kernel_rfl : Tryd.prog.underlying 3 = some (.int .i64))) (one_int (by kernel_rfl : Tryd.prog.underlying 3 = some (.int .i64)) (hval 1 3 v1 rfl rfl)) h1 hsz (j := 1) (by kernel_rfl) rfl
 obtain ⟨a2, k2, g2⟩ := rd_arg (rd_int64 (by kernel_rfl : Tryd.prog.underlying 3 = some (.int .i64))) (one_int (by kernel_rfl : Tryd.prog.underlying 3 = some (.int .i64)) (hval 2 3 v2 rfl rfl)) h2 hsz (j := 2) (by kernel_rfl) rfl
 have hc := law_ret a0 a1 a2 (designs_law a0 a1 a2) k0 k1 k2
 unfold Ret at hc
 refine hc.mono fun e W' he => ?_
 cases e with
 | returned v =>
  obtain ⟨rfl, hg⟩ := he
  exact ⟨_, rfl, post_true laidOut (fun t ht => ⟨mem_of_laid (fun t => Tryd.prog.readableRec t) (by kernel_rfl) ht, of_decide_eq_true (mem_of_laid (fun t => decide (t < Tryd.prog.types.size)) (by kernel_rfl) ht)⟩) hW' rfl (by kernel_rfl) (by kernel_rfl : Tryd.prog.underlying 4 = some .bool) rfl hg⟩
 | panicked c => exact he.elim
 | outgrown => exact he.elim
theorem laid_met (os : Os) : laidMet Tryd.prog Rows.eveningDesignsRow.laid ((laidWorld os).forCall (fun _ _ => 0) ⟨#[], #[Value.int .i64 0, Value.int .i64 0, Value.int .i64 0], []⟩).memory :=
 laidMet_of_run' 8 (by kernel_rfl) (by kernel_rfl)
theorem reads (os : Os) {H : Type} (enc : TypeId × Value → H) : ∃ places, DataW.whole enc Tryd.prog ((laidWorld os).forCall (fun _ _ => 0) ⟨#[], #[Value.int .i64 0, Value.int .i64 0, Value.int .i64 0], []⟩).memory Tryd.f4.params.toList Rows.eveningDesignsSpec.vars false #[Value.int .i64 0, Value.int .i64 0, Value.int .i64 0].toList 8 = some ([.lit (.int .i64 0), .lit (.int .i64 0), .lit (.int .i64 0)], [], places) :=
 ⟨[], by kernel_rfl⟩
set_option maxRecDepth 100000 in
theorem lifted (os : Os) (started : os.Started) (H : Type) (enc : TypeId × Value → H) (F : Stop.Interp) :
  ReturnsInHanded {} Tryd.checked os 4 .any ((OpenSpec.ofChange Rows.eveningDesignsSpec).preRow enc Tryd.prog Tryd.f4 Rows.eveningDesignsRow.domain false Rows.eveningDesignsRow.laid) (((OpenSpec.ofChange Rows.eveningDesignsSpec).at F).post enc Tryd.prog Tryd.f4 false true false false) := by
 obtain ⟨places, hx⟩ := reads os enc
 refine returnsInHanded_of_row (C := Tryd.checked) (s := OpenSpec.ofChange Rows.eveningDesignsSpec) ownKnob0 started (by kernel_rfl) Tryd.func4
  (witness_row_at (enc := enc) (C := Tryd.checked) false (laidWorld os) #[Value.int .i64 0, Value.int .i64 0, Value.int .i64 0] rfl (by kernel_rfl) (by kernel_rfl) (by kernel_rfl)
   (OpenSpec.preRow_of_cond 8 hx (by kernel_rfl) (fun k hk => by cases hk) (by kernel_rfl) (laid_met os))) ?_
 intro W base args ds gs before hval hW _ _ hsz _ _ _
 exact contract H enc W base args ds gs before hval hW hsz
theorem said : Rows.EveningDesignsSaid :=
 OpenClaim.holds_of_cond 4 Tryd.f4 rfl rfl rfl rfl rfl rfl rfl ⟨rfl, rfl, rfl, rfl, rfl⟩ rfl rfl rfl rfl rfl (by kernel_rfl) Tryd.func4 (by kernel_rfl)
  (of_decide_eq_true (by kernel_rfl)) (by unfold Func.isWrapper; first | (rw [if_pos (by decide +kernel)]; kernel_rfl) | (rw [if_neg (by decide +kernel)]; exact ⟨rfl, rfl⟩))
  (fun os started H enc _ F => by rw [OpenClaim.pre_eq_preRow]; exact lifted os started H enc F)
theorem plain (f : FuncId) (fn : Func) (hf : Tryd.pinned.checked.prog.funcNamed "trestle/trestlelaw09.EveningDesigns" = some f) (hfn : Tryd.pinned.checked.prog.funcs[f]? = some fn) :
  false = Tryd.pinned.checked.prog.looks [] ∧ ∀ (j : Nat) t, fn.params[j]? = some t → Tryd.pinned.checked.prog.wantsStandIn t = false := by
 obtain rfl : f = 4 := Option.some.inj ((show Tryd.prog.funcNamed "trestle/trestlelaw09.EveningDesigns" = some 4 by kernel_rfl).symm.trans hf) |>.symm
 obtain rfl : fn = Tryd.f4 := (Option.some.inj (Tryd.func4.symm.trans hfn)).symm
 refine ⟨by kernel_rfl, fun j t ht => ?_⟩
 have hm : t ∈ Tryd.f4.params.toList := by simpa using Array.mem_of_getElem? ht
 exact (show Tryd.prog.wantsStandIn t = false from Bool.not_eq_true' _ |>.mp (mem_of_laid (fun t => !Tryd.prog.wantsStandIn t) (by kernel_rfl) hm))
theorem card : Rows.EveningDesignsCardSaid :=
 Claim7.holds_tied_plain_at .later [] _ _ _ _ said (fun _ h => by cases h) (by kernel_rfl) (fun _ h => by cases h) eveningDesigns_row_tie rfl ⟨rfl, rfl⟩ (by kernel_rfl) rfl plain (by kernel_rfl)
end Go.Proofs.YtcmgmkepodbpkaaDoor.eveningDesigns
