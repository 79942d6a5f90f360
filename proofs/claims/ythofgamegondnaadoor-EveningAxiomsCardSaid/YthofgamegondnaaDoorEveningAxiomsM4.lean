/- Lemmas for the proof. -/
import Derived.Test.YthofgamegondnaaDoorEveningAxiomsM1
import Derived.Test.YthofgamegondnaaDoorEveningAxiomsM2
import Derived.Test.YthofgamegondnaaDoorEveningAxiomsM3
import Derived.Laws.CopyOwn
import Derived.Laws.Slices
import Derived.Laws.StructEq
namespace Go.Proofs.YthofgamegondnaaDoor

def fitGo : Int → List Int → Bool
  | left, [] => decide (left = 0)
  | left, k :: ks => if k < 1 ∨ left < k then false else fitGo (left - k) ks
def fitB (n : Int) (xs : List Int) : Bool := fitGo n xs && decide (1 ≤ n ∧ n ≤ 64)

theorem drop_getD (xs : List Int) (k : Nat) (h : k < xs.length) : xs.drop k = xs.getD k 0 :: xs.drop (k + 1) := by
  rw [List.drop_eq_getElem_cons h, List.getD_eq_getElem?_getD, List.getElem?_eq_getElem h]; rfl

/-! ## Fields -/
def fieldL (q : Int) : Option (Int × Nat × List Int) :=
  if q = 2 ∨ q = 3 ∨ q = 5 ∨ q = 7 ∨ q = 11 ∨ q = 13 then some (q, 1, [0])
  else if q = 4 then some (2, 2, [1, 1])
  else if q = 8 then some (2, 3, [1, 1, 0])
  else if q = 9 then some (3, 2, [2, 0])
  else if q = 16 then some (2, 4, [1, 1, 0, 0])
  else none
def digitsL (p : Int) : Nat → Int → List Int
  | 0, _ => []
  | n + 1, a => a % p :: digitsL p n (a / p)
def numberL (p : Int) : List Int → Int
  | [] => 0
  | x :: xs => numberL p xs * p + x % p
theorem digitsL_len (p : Int) : ∀ (n : Nat) (a : Int), (digitsL p n a).length = n
  | 0, _ => rfl
  | n + 1, a => by simp [digitsL, digitsL_len p n]
theorem digitsL_bd (p : Int) (hp : 2 ≤ p) : ∀ (n : Nat) (a : Int), ∀ x ∈ digitsL p n a, 0 ≤ x ∧ x < p
  | 0, _, x, hx => by simp [digitsL] at hx
  | n + 1, a, x, hx => by
    rcases List.mem_cons.1 hx with rfl | hx
    · exact ⟨Int.emod_nonneg _ (by omega), Int.emod_lt_of_pos _ (by omega)⟩
    · exact digitsL_bd p hp n _ x hx
theorem getD_mem (xs : List Int) (k : Nat) (h : k < xs.length) : xs.getD k 0 ∈ xs := by
  rw [List.getD_eq_getElem?_getD, List.getElem?_eq_getElem h]; exact List.getElem_mem h
theorem mul_bd {a b A B : Int} (h0 : 0 ≤ a) (h1 : a ≤ A) (h2 : 0 ≤ b) (h3 : b ≤ B) : 0 ≤ a * b ∧ a * b ≤ A * B :=
  ⟨Int.mul_nonneg h0 h2, Int.mul_le_mul h1 h3 h2 (by omega)⟩
theorem numberL_bd (p : Int) (hp : 2 ≤ p ∧ p ≤ 13) : ∀ (xs : List Int), 0 ≤ numberL p xs ∧ numberL p xs < p ^ xs.length
  | [] => by simp [numberL]
  | x :: xs => by
    have h := numberL_bd p hp xs
    have h1 := Int.emod_nonneg x (show p ≠ 0 by omega)
    have h2 := Int.emod_lt_of_pos x (show 0 < p by omega)
    have h3 : 0 ≤ numberL p xs * p := Int.mul_nonneg h.1 (by omega)
    have h4 : (numberL p xs + 1) * p ≤ p ^ xs.length * p := Int.mul_le_mul_of_nonneg_right (by omega) (by omega)
    rw [Int.add_mul, Int.one_mul] at h4
    simp only [numberL, List.length_cons, Int.pow_succ]
    omega
theorem pow_le4 (p : Int) (hp : 2 ≤ p ∧ p ≤ 13) (n : Nat) (hn : n ≤ 4) : p ^ n ≤ 28561 := by
  have h1 : p * p ≤ 169 := (mul_bd (by omega) hp.2 (by omega) hp.2).2
  have h0 : 0 ≤ p * p := Int.mul_nonneg (by omega) (by omega)
  have h2 : p * p * p ≤ 2197 := (mul_bd h0 h1 (by omega) hp.2).2
  have h3 : 0 ≤ p * p * p := Int.mul_nonneg h0 (by omega)
  have h4 : p * p * p * p ≤ 28561 := (mul_bd h3 h2 (by omega) hp.2).2
  match n, hn with
  | 0, _ => simp
  | 1, _ => simp only [Int.pow_succ, Int.pow_zero, Int.one_mul]; omega
  | 2, _ => simp only [Int.pow_succ, Int.pow_zero, Int.one_mul]; omega
  | 3, _ => simp only [Int.pow_succ, Int.pow_zero, Int.one_mul]; omega
  | 4, _ => simp only [Int.pow_succ, Int.pow_zero, Int.one_mul]; omega
theorem set_step {α : Type} (ds : List α) (mn k : Nat) (z x : α) (h1 : ds.length = k) (h2 : k < mn) : (ds ++ List.replicate (mn - k) z).set k x = (ds ++ [x]) ++ List.replicate (mn - (k + 1)) z := by
  subst h1
  rw [List.set_append_right _ _ (Nat.le_refl _), Nat.sub_self, show mn - ds.length = (mn - (ds.length + 1)) + 1 by omega, List.replicate_succ, List.set_cons_zero]
  simp
theorem numberL_drop (p : Int) (xs : List Int) (k : Nat) (h : k < xs.length) : numberL p (xs.drop k) = numberL p (xs.drop (k + 1)) * p + xs.getD k 0 % p := by
  rw [drop_getD xs k h, numberL]

/-- The sum, place by place, up to place k. -/
def addGo (dx dy : List Int) (k : Nat) : List Int := List.zipWith (· + ·) (dx.take k) (dy.take k) ++ dx.drop k
theorem addGo_zero (dx dy : List Int) : addGo dx dy 0 = dx := by simp [addGo]
theorem addGo_all (dx dy : List Int) (h : dy.length = dx.length) : addGo dx dy dx.length = List.zipWith (· + ·) dx dy := by
  unfold addGo
  rw [List.take_length, List.drop_length, List.append_nil, ← h, List.take_length]
theorem addGo_len (dx dy : List Int) (k : Nat) (h1 : k ≤ dx.length) (h2 : k ≤ dy.length) : (addGo dx dy k).length = dx.length := by
  simp [addGo]; omega
theorem addGo_getD (dx dy : List Int) (k : Nat) (h1 : k < dx.length) (h2 : k < dy.length) : (addGo dx dy k).getD k 0 = dx.getD k 0 := by
  unfold addGo
  rw [List.getD_eq_getElem?_getD, List.getElem?_append_right (by simp; omega), List.getD_eq_getElem?_getD]
  simp
  congr 2
  omega
theorem addGo_set (dx dy : List Int) (k : Nat) (h1 : k < dx.length) (h2 : k < dy.length) : (addGo dx dy k).set k ((addGo dx dy k).getD k 0 + dy.getD k 0) = addGo dx dy (k + 1) := by
  rw [addGo_getD dx dy k h1 h2]
  unfold addGo
  have hl : (List.zipWith (· + ·) (dx.take k) (dy.take k)).length = k := by simp; omega
  rw [List.set_append_right _ _ (by omega), hl, Nat.sub_self, drop_getD dx k h1, List.set_cons_zero, List.take_add_one, List.take_add_one, List.getElem?_eq_getElem h1, List.getElem?_eq_getElem h2,
    List.zipWith_append (by simp; omega)]
  simp [List.getElem?_eq_getElem h1, List.getElem?_eq_getElem h2]
theorem addGo_bd (dx dy : List Int) (k : Nat) (A : Int) (hx : ∀ x ∈ dx, 0 ≤ x ∧ x ≤ A) (hy : ∀ x ∈ dy, 0 ≤ x ∧ x ≤ A) : ∀ x ∈ addGo dx dy k, 0 ≤ x ∧ x ≤ A + A := by
  intro x h
  rcases List.mem_append.1 h with h | h
  · obtain ⟨i, hi, rfl⟩ := List.mem_iff_getElem.1 h
    rw [List.getElem_zipWith]
    have h1 := hx _ (List.mem_of_mem_take (List.getElem_mem (l := dx.take k) (n := i) (by simp at hi ⊢; omega)))
    have h2 := hy _ (List.mem_of_mem_take (List.getElem_mem (l := dy.take k) (n := i) (by simp at hi ⊢; omega)))
    omega
  · have := hx _ (List.mem_of_mem_drop h); omega
def addL (p : Int) (mn : Nat) (a b : Int) : Int := numberL p (List.zipWith (· + ·) (digitsL p mn a) (digitsL p mn b))
theorem addD_len (p : Int) (mn : Nat) (a b : Int) (k : Nat) (hk : k ≤ mn) : (addGo (digitsL p mn a) (digitsL p mn b) k).length = mn := by
  rw [addGo_len _ _ _ (by rw [digitsL_len]; exact hk) (by rw [digitsL_len]; exact hk), digitsL_len]
theorem digitsL_bd' (p : Int) (hp : 2 ≤ p ∧ p ≤ 13) (n : Nat) (a : Int) : ∀ x ∈ digitsL p n a, 0 ≤ x ∧ x ≤ 12 := fun x hx => by
  have := digitsL_bd p hp.1 n a x hx; omega
theorem digitsL_at (p : Int) (hp : 2 ≤ p ∧ p ≤ 13) (n : Nat) (a : Int) (k : Nat) (hk : k < n) : 0 ≤ (digitsL p n a).getD k 0 ∧ (digitsL p n a).getD k 0 ≤ 12 :=
  digitsL_bd' p hp n a _ (getD_mem _ k (by rw [digitsL_len]; exact hk))
theorem addD_bd (p : Int) (hp : 2 ≤ p ∧ p ≤ 13) (mn : Nat) (a b : Int) (k : Nat) : ∀ x ∈ addGo (digitsL p mn a) (digitsL p mn b) k, 0 ≤ x ∧ x ≤ 100000 := fun x hx => by
  have := addGo_bd _ _ k 12 (digitsL_bd' p hp mn a) (digitsL_bd' p hp mn b) x hx; omega
theorem addD_getD (p : Int) (mn : Nat) (a b : Int) (k : Nat) (hk : k < mn) : (addGo (digitsL p mn a) (digitsL p mn b) k).getD k 0 = (digitsL p mn a).getD k 0 :=
  addGo_getD _ _ _ (by rw [digitsL_len]; exact hk) (by rw [digitsL_len]; exact hk)
theorem addD_set (p : Int) (mn : Nat) (a b : Int) (k : Nat) (hk : k < mn) : (addGo (digitsL p mn a) (digitsL p mn b) k).set k ((addGo (digitsL p mn a) (digitsL p mn b) k).getD k 0 + (digitsL p mn b).getD k 0) = addGo (digitsL p mn a) (digitsL p mn b) (k + 1) :=
  addGo_set _ _ _ (by rw [digitsL_len]; exact hk) (by rw [digitsL_len]; exact hk)

/-! ## Products -/
def mulSh (out : List Int) : List Int := 0 :: out.take (out.length - 1)
def mulF (p : Int) (pl xd : List Int) (kd : Int) (out : List Int) (i : Nat) : Int := ((mulSh out).getD i 0 + out.getD (out.length - 1) 0 * pl.getD i 0 + kd * xd.getD i 0) % p
def mulStep (p : Int) (pl xd : List Int) (kd : Int) (out : List Int) : List Int := (List.range out.length).map (mulF p pl xd kd out)
def mulGo (p : Int) (pl xd : List Int) (kd : Int) (out : List Int) (i : Nat) : List Int := (List.range i).map (mulF p pl xd kd out) ++ (mulSh out).drop i
def mulL (p : Int) (mn : Nat) (pl : List Int) (a b : Int) : Int :=
  if mn = 1 then a * b % p else numberL p ((digitsL p mn b).foldr (mulStep p pl (digitsL p mn a)) (List.replicate mn 0))
theorem mulSh_len (out : List Int) (h : 1 ≤ out.length) : (mulSh out).length = out.length := by simp [mulSh]; omega
theorem mulGo_zero (p : Int) (pl xd : List Int) (kd : Int) (out : List Int) : mulGo p pl xd kd out 0 = mulSh out := by simp [mulGo]
theorem mulGo_len (p : Int) (pl xd : List Int) (kd : Int) (out : List Int) (i : Nat) (h : 1 ≤ out.length) (hi : i ≤ out.length) : (mulGo p pl xd kd out i).length = out.length := by
  simp [mulGo, mulSh_len out h]; omega
theorem mulGo_all (p : Int) (pl xd : List Int) (kd : Int) (out : List Int) (h : 1 ≤ out.length) : mulGo p pl xd kd out out.length = mulStep p pl xd kd out := by
  unfold mulGo mulStep
  rw [← mulSh_len out h, List.drop_length, List.append_nil, mulSh_len out h]
theorem mulGo_getD (p : Int) (pl xd : List Int) (kd : Int) (out : List Int) (i : Nat) : (mulGo p pl xd kd out i).getD i 0 = (mulSh out).getD i 0 := by
  unfold mulGo
  rw [List.getD_eq_getElem?_getD, List.getElem?_append_right (by simp), List.getD_eq_getElem?_getD]
  simp
theorem mulGo_set (p : Int) (pl xd : List Int) (kd : Int) (out : List Int) (i : Nat) (t : Int) (h : 1 ≤ out.length) (hi : i < out.length) (ht : t = out.getD (out.length - 1) 0) :
    (mulGo p pl xd kd out i).set i (((mulGo p pl xd kd out i).getD i 0 + t * pl.getD i 0 + kd * xd.getD i 0) % p) = mulGo p pl xd kd out (i + 1) := by
  rw [mulGo_getD, ht, show ((mulSh out).getD i 0 + out.getD (out.length - 1) 0 * pl.getD i 0 + kd * xd.getD i 0) % p = mulF p pl xd kd out i from rfl]
  unfold mulGo
  rw [List.set_append_right _ _ (by simp), drop_getD (mulSh out) i (by rw [mulSh_len out h]; exact hi), List.range_succ, List.map_append]
  simp
theorem copy_sh (out : List Int) (mn : Nat) (h : out.length = mn) (h1 : 1 ≤ mn) : ((out.take 1 ++ (out.drop 0).take (mn - 1) ++ out.drop (1 + (mn - 1))).set 0 0) = mulSh out := by
  subst h
  match out, h1 with
  | x :: xs, _ => simp [mulSh]; omega
theorem mulStep_len (p : Int) (pl xd : List Int) (kd : Int) (out : List Int) : (mulStep p pl xd kd out).length = out.length := by simp [mulStep]
theorem mulStep_bd (p : Int) (hp : 2 ≤ p ∧ p ≤ 13) (pl xd : List Int) (kd : Int) (out : List Int) : ∀ x ∈ mulStep p pl xd kd out, 0 ≤ x ∧ x ≤ 12 := by
  intro x hx
  obtain ⟨i, _, rfl⟩ := List.mem_map.1 hx
  have h1 := Int.emod_nonneg ((mulSh out).getD i 0 + out.getD (out.length - 1) 0 * pl.getD i 0 + kd * xd.getD i 0) (show p ≠ 0 by omega)
  have h2 := Int.emod_lt_of_pos ((mulSh out).getD i 0 + out.getD (out.length - 1) 0 * pl.getD i 0 + kd * xd.getD i 0) (show 0 < p by omega)
  unfold mulF
  omega
theorem mulSh_at (out : List Int) (hb : ∀ x ∈ out, 0 ≤ x ∧ x ≤ 12) (i : Nat) : 0 ≤ (mulSh out).getD i 0 ∧ (mulSh out).getD i 0 ≤ 12 := by
  unfold mulSh
  match i with
  | 0 => simp
  | i + 1 =>
    rw [List.getD_cons_succ, List.getD_eq_getElem?_getD]
    cases h : (out.take (out.length - 1))[i]? with
    | none => simp
    | some q => exact hb q (List.mem_of_mem_take (List.mem_of_getElem? h))
theorem at_bd (out : List Int) (A : Int) (hA : 0 ≤ A) (hb : ∀ x ∈ out, 0 ≤ x ∧ x ≤ A) (i : Nat) : 0 ≤ out.getD i 0 ∧ out.getD i 0 ≤ A := by
  rw [List.getD_eq_getElem?_getD]
  cases h : out[i]? with
  | none => simpa using hA
  | some q => exact hb q (List.mem_of_getElem? h)

theorem fieldL_bd {q p : Int} {m : Nat} {pl : List Int} (h : fieldL q = some (p, m, pl)) : 2 ≤ p ∧ p ≤ 13 ∧ 1 ≤ m ∧ m ≤ 4 ∧ pl.length = m ∧ (∀ x ∈ pl, 0 ≤ x ∧ x ≤ 12) ∧ 2 ≤ q ∧ q ≤ 16 := by
  unfold fieldL at h
  split at h
  · injection h with h; injection h with h1 h; injection h with h2 h3; subst h1 h2 h3
    refine ⟨by omega, by omega, by omega, by omega, rfl, by simp, by omega, by omega⟩
  · split at h
    · injection h with h; injection h with h1 h; injection h with h2 h3; subst h1 h2 h3
      refine ⟨by omega, by omega, by omega, by omega, rfl, by simp, by omega, by omega⟩
    · split at h
      · injection h with h; injection h with h1 h; injection h with h2 h3; subst h1 h2 h3
        refine ⟨by omega, by omega, by omega, by omega, rfl, by simp, by omega, by omega⟩
      · split at h
        · injection h with h; injection h with h1 h; injection h with h2 h3; subst h1 h2 h3
          refine ⟨by omega, by omega, by omega, by omega, rfl, by simp, by omega, by omega⟩
        · split at h
          · injection h with h; injection h with h1 h; injection h with h2 h3; subst h1 h2 h3
            refine ⟨by omega, by omega, by omega, by omega, rfl, by simp, by omega, by omega⟩
          · cases h
def evAdd (q a b : Int) : Int × Bool := match fieldL q with
  | some (p, m, _) => if 0 ≤ a ∧ a < q ∧ 0 ≤ b ∧ b < q then (addL p m a b, true) else (0, false)
  | none => (0, false)
def evMul (q a b : Int) : Int × Bool := match fieldL q with
  | some (p, m, pl) => if 0 ≤ a ∧ a < q ∧ 0 ≤ b ∧ b < q then (mulL p m pl a b, true) else (0, false)
  | none => (0, false)
theorem evAdd_no {q a b : Int} (h : fieldL q = none) : evAdd q a b = (0, false) := by unfold evAdd; rw [h]
theorem evMul_no {q a b : Int} (h : fieldL q = none) : evMul q a b = (0, false) := by unfold evMul; rw [h]
theorem evAdd_out {q a b : Int} (h : ¬ (0 ≤ a ∧ a < q ∧ 0 ≤ b ∧ b < q)) : evAdd q a b = (0, false) := by
  unfold evAdd; split
  · rw [if_neg h]
  · rfl
theorem evMul_out {q a b : Int} (h : ¬ (0 ≤ a ∧ a < q ∧ 0 ≤ b ∧ b < q)) : evMul q a b = (0, false) := by
  unfold evMul; split
  · rw [if_neg h]
  · rfl
theorem evAdd_in {q a b p : Int} {m : Nat} {pl : List Int} (hf : fieldL q = some (p, m, pl)) (h : 0 ≤ a ∧ a < q ∧ 0 ≤ b ∧ b < q) : evAdd q a b = (addL p m a b, true) := by unfold evAdd; rw [hf]; simp only []; rw [if_pos h]
theorem evMul_in {q a b p : Int} {m : Nat} {pl : List Int} (hf : fieldL q = some (p, m, pl)) (h : 0 ≤ a ∧ a < q ∧ 0 ≤ b ∧ b < q) : evMul q a b = (mulL p m pl a b, true) := by unfold evMul; rw [hf]; simp only []; rw [if_pos h]

/-! ## The reference's fields -/
def refField (q : Int) : Int × List Int :=
  if q = 2 ∨ q = 3 ∨ q = 5 ∨ q = 7 ∨ q = 11 ∨ q = 13 then (q, [])
  else if q = 4 then (2, [1, 1, 1])
  else if q = 8 then (2, [1, 1, 0, 1])
  else if q = 9 then (3, [1, 0, 1])
  else if q = 16 then (2, [1, 1, 0, 0, 1])
  else (0, [])
theorem refField_bd {q p : Int} {poly : List Int} (h : refField q = (p, poly)) (h0 : 0 < p) : 2 ≤ p ∧ p ≤ 13 ∧ 2 ≤ q ∧ q ≤ 16 ∧ (poly = [] ∨ (p ≤ 3 ∧ 3 ≤ poly.length ∧ poly.length ≤ 5 ∧ ∀ x ∈ poly, 0 ≤ x ∧ x ≤ 1)) := by
  unfold refField at h
  split at h
  · injection h with h1 h2; subst h1 h2; exact ⟨by omega, by omega, by omega, by omega, .inl rfl⟩
  · split at h
    · injection h with h1 h2; subst h1 h2; exact ⟨by omega, by omega, by omega, by omega, .inr ⟨by omega, by simp, by simp, by simp⟩⟩
    · split at h
      · injection h with h1 h2; subst h1 h2; exact ⟨by omega, by omega, by omega, by omega, .inr ⟨by omega, by simp, by simp, by simp⟩⟩
      · split at h
        · injection h with h1 h2; subst h1 h2; exact ⟨by omega, by omega, by omega, by omega, .inr ⟨by omega, by simp, by simp, by simp⟩⟩
        · split at h
          · injection h with h1 h2; subst h1 h2; exact ⟨by omega, by omega, by omega, by omega, .inr ⟨by omega, by simp, by simp, by simp⟩⟩
          · injection h with h1 h2; omega
def refNum (p : Int) : List Int → Int
  | [] => 0
  | x :: xs => x + p * refNum p xs
def zipGo (f : Int → Int → Int) (dx dy : List Int) (k : Nat) : List Int := List.zipWith f (dx.take k) (dy.take k) ++ dx.drop k
theorem zipGo_zero (f : Int → Int → Int) (dx dy : List Int) : zipGo f dx dy 0 = dx := by simp [zipGo]
theorem zipGo_all (f : Int → Int → Int) (dx dy : List Int) (h : dy.length = dx.length) : zipGo f dx dy dx.length = List.zipWith f dx dy := by
  unfold zipGo
  rw [List.take_length, List.drop_length, List.append_nil, ← h, List.take_length]
theorem zipGo_len (f : Int → Int → Int) (dx dy : List Int) (k : Nat) (h1 : k ≤ dx.length) (h2 : k ≤ dy.length) : (zipGo f dx dy k).length = dx.length := by
  simp [zipGo]; omega
theorem zipGo_getD (f : Int → Int → Int) (dx dy : List Int) (k : Nat) (h1 : k < dx.length) (h2 : k < dy.length) : (zipGo f dx dy k).getD k 0 = dx.getD k 0 := by
  unfold zipGo
  rw [List.getD_eq_getElem?_getD, List.getElem?_append_right (by simp; omega), List.getD_eq_getElem?_getD]
  simp
  congr 2
  omega
theorem zipGo_set (f : Int → Int → Int) (dx dy : List Int) (k : Nat) (h1 : k < dx.length) (h2 : k < dy.length) : (zipGo f dx dy k).set k (f ((zipGo f dx dy k).getD k 0) (dy.getD k 0)) = zipGo f dx dy (k + 1) := by
  rw [zipGo_getD f dx dy k h1 h2]
  unfold zipGo
  have hl : (List.zipWith f (dx.take k) (dy.take k)).length = k := by simp; omega
  rw [List.set_append_right _ _ (by omega), hl, Nat.sub_self, drop_getD dx k h1, List.set_cons_zero, List.take_add_one, List.take_add_one, List.getElem?_eq_getElem h1, List.getElem?_eq_getElem h2,
    List.zipWith_append (by simp; omega)]
  simp [List.getElem?_eq_getElem h1, List.getElem?_eq_getElem h2]
def refAdd (q a b : Int) : Int :=
  if (refField q).2 = [] then (a + b) % (refField q).1
  else refNum (refField q).1 (List.zipWith (fun x y => (x + y) % (refField q).1) (digitsL (refField q).1 ((refField q).2.length - 1) a) (digitsL (refField q).1 ((refField q).2.length - 1) b))
theorem set_bd {d : List Int} {i : Nat} {v A : Int} (h : ∀ x ∈ d, 0 ≤ x ∧ x ≤ A) (hv : 0 ≤ v ∧ v ≤ A) : ∀ x ∈ d.set i v, 0 ≤ x ∧ x ≤ A := fun x hx => by
  rcases List.mem_or_eq_of_mem_set hx with h1 | h1
  · exact h x h1
  · subst h1; exact hv
theorem zip_bd {f : Int → Int → Int} {dx dy : List Int} {A : Int} (h : ∀ x y, 0 ≤ f x y ∧ f x y ≤ A) : ∀ x ∈ List.zipWith f dx dy, 0 ≤ x ∧ x ≤ A := fun x hx => by
  obtain ⟨i, hi, rfl⟩ := List.mem_iff_getElem.1 hx
  rw [List.getElem_zipWith]
  exact h _ _
def mulIn (p : Int) (x y : List Int) (i : Nat) (d : List Int) (k : Nat) : List Int := d.set (i + k) ((d.getD (i + k) 0 + x.getD i 0 * y.getD k 0) % p)
def mulRow (p : Int) (x y : List Int) (m : Nat) (d : List Int) (i : Nat) : List Int := (List.range m).foldl (mulIn p x y i) d
def redIn (p : Int) (poly : List Int) (m top : Nat) (c : Int) (d : List Int) (i : Nat) : List Int := d.set (top - m + i) ((d.getD (top - m + i) 0 + (p - c) * poly.getD i 0) % p)
def redRow (p : Int) (poly : List Int) (m : Nat) (d : List Int) (j : Nat) : List Int := (List.range (m + 1)).foldl (redIn p poly m (2 * m - 1 - j) (d.getD (2 * m - 1 - j) 0)) d
def refMulD (p : Int) (poly : List Int) (m : Nat) (a b : Int) : List Int :=
  (List.range m).foldl (redRow p poly m) ((List.range m).foldl (mulRow p (digitsL p m a) (digitsL p m b) m) (digitsL p (2 * m) 0))
def refMul (q a b : Int) : Int :=
  if (refField q).2 = [] then a * b % (refField q).1
  else refNum (refField q).1 ((refMulD (refField q).1 (refField q).2 ((refField q).2.length - 1) a b).take ((refField q).2.length - 1))
theorem mod_bd (p : Int) (hp : 2 ≤ p ∧ p ≤ 13) (x : Int) : 0 ≤ x % p ∧ x % p ≤ 12 := by
  have h1 := Int.emod_nonneg x (show p ≠ 0 by omega)
  have h2 := Int.emod_lt_of_pos x (show 0 < p by omega)
  omega
theorem fold_succ {α : Type} (f : α → Nat → α) (d : α) (k : Nat) : f ((List.range k).foldl f d) k = (List.range (k + 1)).foldl f d := by
  rw [List.range_succ, List.foldl_append]; rfl
theorem refNum_drop (p : Int) (xs : List Int) (k : Nat) (h : k < xs.length) : refNum p (xs.drop k) = xs.getD k 0 + p * refNum p (xs.drop (k + 1)) := by
  rw [drop_getD xs k h, refNum]

theorem zipGo_bd {f : Int → Int → Int} {dx dy : List Int} {k : Nat} {A : Int} (h : ∀ x y, 0 ≤ f x y ∧ f x y ≤ A) (hx : ∀ x ∈ dx, 0 ≤ x ∧ x ≤ A) : ∀ x ∈ zipGo f dx dy k, 0 ≤ x ∧ x ≤ A := fun x hm => by
  rcases List.mem_append.1 hm with h1 | h1
  · exact zip_bd h x h1
  · exact hx x (List.mem_of_mem_drop h1)
theorem mod_bd' (p : Int) (hp : 2 ≤ p) (x : Int) : 0 ≤ x % p ∧ x % p ≤ p - 1 := by
  have h1 := Int.emod_nonneg x (show p ≠ 0 by omega)
  have h2 := Int.emod_lt_of_pos x (show 0 < p by omega)
  omega
theorem digitsL_bd2 (p : Int) (hp : 2 ≤ p) (n : Nat) (a : Int) : ∀ x ∈ digitsL p n a, 0 ≤ x ∧ x ≤ p - 1 := fun x hx => by
  have := digitsL_bd p hp n a x hx; omega
theorem refAdd_ext {q p a b : Int} {poly : List Int} (hq : refField q = (p, poly)) (h : poly ≠ []) : refAdd q a b = refNum p (List.zipWith (fun x y => (x + y) % p) (digitsL p (poly.length - 1) a) (digitsL p (poly.length - 1) b)) := by
  unfold refAdd; rw [hq]; simp only []; rw [if_neg h]
theorem refAdd_nil {q p a b : Int} {poly : List Int} (hq : refField q = (p, poly)) (h : poly = []) : refAdd q a b = (a + b) % p := by
  unfold refAdd; rw [hq]; simp only []; rw [if_pos h]
theorem refMul_ext {q p a b : Int} {poly : List Int} (hq : refField q = (p, poly)) (h : poly ≠ []) : refMul q a b = refNum p ((refMulD p poly (poly.length - 1) a b).take (poly.length - 1)) := by
  unfold refMul; rw [hq]; simp only []; rw [if_neg h]
theorem refMul_nil {q p a b : Int} {poly : List Int} (hq : refField q = (p, poly)) (h : poly = []) : refMul q a b = a * b % p := by
  unfold refMul; rw [hq]; simp only []; rw [if_pos h]

def fieldsAt (q : Int) (n : Nat) : Bool := (List.range n).all fun a => (List.range n).all fun b => (evAdd q a b == (refAdd q a b, true)) && (evMul q a b == (refMul q a b, true))
theorem fieldsAt_spec {q : Int} {n : Nat} (h : fieldsAt q n = true) {a b : Int} (hq : q = n) (ha : 0 ≤ a ∧ a < q) (hb : 0 ≤ b ∧ b < q) : evAdd q a b = (refAdd q a b, true) ∧ evMul q a b = (refMul q a b, true) := by
  obtain ⟨x, rfl⟩ := Int.eq_ofNat_of_zero_le ha.1
  obtain ⟨y, rfl⟩ := Int.eq_ofNat_of_zero_le hb.1
  have h1 := List.all_eq_true.1 h x (by simp; omega)
  have h2 := List.all_eq_true.1 h1 y (by simp; omega)
  simpa using h2
theorem fields_in {q a b : Int} (h : 0 < (refField q).1) (ha : 0 ≤ a ∧ a < q) (hb : 0 ≤ b ∧ b < q) : evAdd q a b = (refAdd q a b, true) ∧ evMul q a b = (refMul q a b, true) := by
  by_cases hp : q = 2 ∨ q = 3 ∨ q = 5 ∨ q = 7 ∨ q = 11 ∨ q = 13
  · have h1 : fieldL q = some (q, 1, [0]) := by unfold fieldL; rw [if_pos hp]
    have h2 : refField q = (q, []) := by unfold refField; rw [if_pos hp]
    rw [evAdd_in h1 ⟨ha.1, ha.2, hb.1, hb.2⟩, evMul_in h1 ⟨ha.1, ha.2, hb.1, hb.2⟩]
    unfold refAdd refMul
    rw [h2]
    simp only [if_true]
    refine ⟨?_, ?_⟩
    · unfold addL
      simp [digitsL, numberL]
    · unfold mulL
      simp
  · by_cases h4 : q = 4
    · exact fieldsAt_spec (n := 4) (by rw [h4]; decide +kernel) h4 ha hb
    · by_cases h8 : q = 8
      · exact fieldsAt_spec (n := 8) (by rw [h8]; decide +kernel) h8 ha hb
      · by_cases h9 : q = 9
        · exact fieldsAt_spec (n := 9) (by rw [h9]; decide +kernel) h9 ha hb
        · by_cases h16 : q = 16
          · exact fieldsAt_spec (n := 16) (by rw [h16]; decide +kernel) h16 ha hb
          · unfold refField at h
            rw [if_neg hp, if_neg h4, if_neg h8, if_neg h9, if_neg h16] at h
            cases h
theorem fields_out {q a b : Int} (h : ¬ (0 < (refField q).1 ∧ (0 ≤ a ∧ a < q) ∧ (0 ≤ b ∧ b < q))) : evAdd q a b = (0, false) ∧ evMul q a b = (0, false) := by
  by_cases h0 : 0 ≤ a ∧ a < q ∧ 0 ≤ b ∧ b < q
  · have hn : fieldL q = none := by
      cases hf : fieldL q with
      | none => rfl
      | some f =>
        exfalso
        apply h
        refine ⟨?_, ⟨h0.1, h0.2.1⟩, h0.2.2⟩
        unfold fieldL at hf
        unfold refField
        split at hf
        · next hp => rw [if_pos hp]; show 0 < q; omega
        · next hp =>
          rw [if_neg hp]
          split at hf
          · next h4 => rw [if_pos h4]; decide
          · next h4 =>
            rw [if_neg h4]
            split at hf
            · next h4 => rw [if_pos h4]; decide
            · next h4 =>
              rw [if_neg h4]
              split at hf
              · next h4 => rw [if_pos h4]; decide
              · next h4 =>
                rw [if_neg h4]
                split at hf
                · next h4 => rw [if_pos h4]; decide
                · cases hf
    exact ⟨evAdd_no hn, evMul_no hn⟩
  · exact ⟨evAdd_out h0, evMul_out h0⟩
end Go.Proofs.YthofgamegondnaaDoor

namespace Go.Proofs.YthofgamegondnaaDoor
open Go.RowKit

theorem splice_take {α : Type} {cur cs : List α} {n off k : Nat} (h : off + k ≤ n) (hn : n ≤ cur.length) (hc : cs.length = k) :
    (cur.take off ++ cs ++ cur.drop (off + k)).take n = (cur.take n).take off ++ cs ++ (cur.take n).drop (off + k) := by
  rw [List.take_append, List.take_append, List.drop_take, List.take_take, List.take_take, Nat.min_comm off n, List.take_of_length_le (l := cs) (by simp; omega)]
  simp only [List.length_append, List.length_take]
  congr 2
  omega
/-- A list of which a part has been copied over another. -/
def copyL {α : Type} (M : List α) (off so k : Nat) : List α := M.take off ++ (M.drop so).take k ++ M.drop (off + k)
theorem copyL_get {α : Type} (M : List α) (off so k i : Nat) (h1 : off + k ≤ M.length) (h2 : so + k ≤ M.length) :
    (copyL M off so k)[i]? = M[if i < off then i else if i < off + k then so + (i - off) else i]? := by
  unfold copyL
  by_cases a : i < off
  · rw [if_pos a, List.append_assoc, List.getElem?_append_left (by simp; omega), List.getElem?_take_of_lt a]
  · rw [if_neg a]
    by_cases b : i < off + k
    · rw [if_pos b, List.getElem?_append_left (by simp; omega), List.getElem?_append_right (by simp; omega), List.length_take, Nat.min_eq_left (by omega), List.getElem?_take_of_lt (by omega), List.getElem?_drop]
    · rw [if_neg b, List.getElem?_append_right (by simp; omega), List.getElem?_drop]
      congr 1
      simp
      omega
theorem copyL_len {α : Type} (M : List α) (off so k : Nat) (h1 : off + k ≤ M.length) (h2 : so + k ≤ M.length) : (copyL M off so k).length = M.length := by
  simp [copyL]; omega

theorem all1 {v : Value} {vs : List Value} (h : v.oneCell' = true) (hs : vs.all Value.oneCell' = true) : (v :: vs).all Value.oneCell' = true := by simp [h, hs]

theorem Bl.cellI {e : TypeId} {w : World} {lo hi g i : Nat} {K : IntKind} {v : Value} {xs : List Int} (hr : Bl (intR K) e w lo hi v xs) (hv : v.ownBlock = some g) (hi' : i < xs.length) : w.cell? ⟨g, i, none⟩ = some (.int K (xs.getD i 0)) := by
  obtain ⟨L, ho, hb, hl, hrr⟩ := hr
  have hlt : i < L.length := by omega
  obtain ⟨g', cap, rfl, _, _, hg, _, _⟩ := own_form ho (by omega)
  rw [hg] at hv
  injection hv with hv
  subst hv
  have h2 := hrr i _ _ (List.getElem?_eq_getElem hlt) (List.getElem?_eq_getElem hi')
  have h3 := own_cell ho (List.getElem?_eq_getElem hlt)
  rw [h3, List.getD_eq_getElem?_getD, List.getElem?_eq_getElem hi']
  exact congrArg some h2
section guards
variable {P : Program} {Q : Exit → Act → World → Prop} {F : Frm} {l : List (Nat × Value)} {w : World} {ops : Array Oper} {rest : List Oper}
theorem wanted_undef {j : Nat} {want : Bool} {oj : Oper} {dj : Nat} {a : Act} {o : Oper} (hg : o.guard = some (j, want)) (hj : ops[j]? = some oj) (hdj : oj.dst = some dj) (ha : Ag F l a) (hb : fr l F.s dj = undef) :
    Region.wanted o (yielded ops a.tmps) = false := by
  have h1 : a.tmps.getD dj undef = undef := (ha.get dj).trans hb
  rw [Array.getD_eq_getD_getElem?] at h1
  cases h3 : a.tmps[dj]? with
  | none => simp [Region.wanted, hg, yielded, hj, hdj, h3]
  | some u =>
    rw [h3] at h1
    have h4 : u = undef := h1
    subst h4
    simp [Region.wanted, hg, yielded, hj, hdj, h3, undef]
theorem wl_guard_undef {o : Oper} {j : Nat} {want : Bool} {oj : Oper} {dj d : Nat} (hg : o.guard = some (j, want)) (hj : ops[j]? = some oj) (hdj : oj.dst = some dj) (hb : fr l F.s dj = undef) (hd : o.dst = some d) (hN : Nat.blt d F.N = true)
    (k : WL P ops Q rest F ((d, undef) :: l) w) : WL P ops Q (o :: rest) F l w := fun a ha => by
  unfold wpListIn
  rw [if_neg (by rw [wanted_undef hg hj hdj ha hb]; simp), hd]
  exact ⟨fun _ _ => trivial, k _ (ha.put hN _)⟩
end guards

section rules
variable {P : Program} {Q : Exit → Act → World → Prop} {F : Frm} {l : List (Nat × Value)} {w : World} {ops : Array Oper} {rest : List Oper}
variable {X : List Oper → Frm → List (Nat × Value) → World → Prop} [inst : Runs P X]
variable {d : Nat} {ty t T e : TypeId} {pos : String} {af : Array Edge} {x y : Operand} {ds dT : TypeDesc} {sz by_ sT bT : Nat} {z zT : Value}

theorem Ty.elem (hT : Ty P T (.slice e) sT bT zT) : P.elem T = e := by simp [Program.elem, hT.und]
theorem Ty.und' (hT : Ty P T (.slice e) sT bT zT) : P.underlying T = some (.slice (P.elem T)) := by rw [hT.elem]; exact hT.und

theorem st_sliceLo {A : Option Addr} {n c m : Nat} {K : IntKind} (hT : Ty P T (.slice e) sT bT zT) (hE : Ty P e ds sz by_ z) (hx : ev l F.s x = .slice A n c) (hy : ev l F.s y = .int K (m : Int)) (hm : m ≤ n) :
    Rn P l F.s w ⟨some d, .slice T x (some y) none none, ty, pos, af, none⟩ (.slice (if c = m then A else A.map (·.add (m * sz))) (n - m) (c - m)) := by
  unfold Rn
  have h := run_slice_l (P := P) (w := w) T A n c hT.und' K (m : Int) (by omega) (by omega)
  rw [hT.elem, run_size hE] at h
  simp [execOp, hx, hy, run_sliceAt_slice w T _ _ _ _ hT.und', h, Result.andThen, sliced]
theorem st_sliceHi {A : Option Addr} {n c m : Nat} {K : IntKind} (hT : Ty P T (.slice e) sT bT zT) (hE : Ty P e ds sz by_ z) (hx : ev l F.s x = .slice A n c) (hy : ev l F.s y = .int K (m : Int)) (hm : m ≤ c) :
    Rn P l F.s w ⟨some d, .slice T x none (some y) none, ty, pos, af, none⟩ (.slice A m c) := by
  unfold Rn
  have h := run_slice_h (P := P) (w := w) T A n c hT.und' K (m : Int) (by omega) (by omega)
  rw [hT.elem, run_size hE] at h
  simp [execOp, hx, hy, run_sliceAt_slice w T _ _ _ _ hT.und', h, Result.andThen, sliced]
  intro _
  cases A <;> simp [Addr.add]

theorem st_idxBb {lo hi : Nat} {v : Value} {xs : List Bool} {K : IntKind} {m : Int} (hr : Bl boolR e w lo hi v xs) (hT : Ty P T (.slice e) sT bT zT) (hE : Ty P e ds 1 by_ z) (hx : ev l F.s x = v) (hy : ev l F.s y = .int K m) (h0 : 0 ≤ m) (h1 : m < (xs.length : Int)) :
    ∃ q, (∃ g : Nat, q = .pointer (some ⟨g, m.toNat, none⟩) ∧ v.ownBlock = some g ∧ w.cell? ⟨g, m.toNat, none⟩ = some (.bool (xs.getD m.toNat false))) ∧ ∀ w, Rn P l F.s w ⟨some d, .indexAddr T x y, ty, pos, af, none⟩ q := by
  obtain ⟨L, ho, hb, hl, hrr⟩ := hr
  have hlt : m.toNat < L.length := by omega
  have hlt' : m.toNat < xs.length := by omega
  obtain ⟨g, cap, rfl, _, _, hg, _, _⟩ := own_form ho (by omega)
  have h2 := hrr m.toNat _ _ (List.getElem?_eq_getElem hlt) (List.getElem?_eq_getElem hlt')
  have h3 := own_cell ho (List.getElem?_eq_getElem hlt)
  refine ⟨_, ⟨g, rfl, hg, ?_⟩, fun _ => st_idxO m.toNat hT hE hx hy (by omega) hlt⟩
  rw [h3, List.getD_eq_getElem?_getD, List.getElem?_eq_getElem hlt']
  exact congrArg some h2
theorem st_eqlB {b c : Bool} {t2 : TypeId} (hT : Ty P t .bool sT bT zT) (hx : ev l F.s x = .bool b) (hy : ev l F.s y = .bool c) : Rn P l F.s w ⟨some d, .binOp .eql t x y t2, ty, pos, af, none⟩ (.bool (b == c)) := by
  have h : (Op.equal t (.bool b) (.bool c)).run P w = .ok (b == c) w := run_equalIn_bool' (P := P) (w := w) 9999 t b c hT.und
  unfold Rn
  simp [execOp, hx, hy, binOp, eqGuard, h, Result.andThen]
theorem st_eqlS {b c : ByteArray} {t2 : TypeId} (hx : ev l F.s x = .string b) (hy : ev l F.s y = .string c) : Rn P l F.s w ⟨some d, .binOp .eql t x y t2, ty, pos, af, none⟩ (.bool (b.toList == c.toList)) := by
  unfold Rn
  simp [execOp, hx, hy, binOp, eqGuard, Op.stringOp]
theorem st_neqS {b c : ByteArray} {t2 : TypeId} (hx : ev l F.s x = .string b) (hy : ev l F.s y = .string c) : Rn P l F.s w ⟨some d, .binOp .neq t x y t2, ty, pos, af, none⟩ (.bool (!(b.toList == c.toList))) := by
  unfold Rn
  simp [execOp, hx, hy, binOp, eqGuard, Op.stringOp]
theorem st_cutLo {g o n c m : Nat} {mi : Int} {K : IntKind} (hT : Ty P T (.slice e) sT bT zT) (hE : Ty P e ds 1 by_ z) (hx : ev l F.s x = .slice (some ⟨g, o, none⟩) n c) (hy : ev l F.s y = .int K mi) (hmi : mi = (m : Int)) (hm : m ≤ n) (hc : m < c) :
    Rn P l F.s w ⟨some d, .slice T x (some y) none none, ty, pos, af, none⟩ (.slice (some ⟨g, o + m, none⟩) (n - m) (c - m)) := by
  subst hmi
  have h := st_sliceLo (P := P) (F := F) (l := l) (w := w) (d := d) (ty := ty) (pos := pos) (af := af) hT hE hx hy hm
  rw [if_neg (by omega)] at h
  have h6 : (⟨g, o, none⟩ : Addr).add m = ⟨g, o + m, none⟩ := by
    unfold Addr.add
    split
    · next e => subst e; rfl
    · rfl
  simpa [h6] using h
theorem st_cutHi {A : Option Addr} {n c m : Nat} {mi : Int} {K : IntKind} (hT : Ty P T (.slice e) sT bT zT) (hE : Ty P e ds sz by_ z) (hx : ev l F.s x = .slice A n c) (hy : ev l F.s y = .int K mi) (hmi : mi = (m : Int)) (hm : m ≤ c) :
    Rn P l F.s w ⟨some d, .slice T x none (some y) none, ty, pos, af, none⟩ (.slice A m c) := by
  subst hmi
  exact st_sliceHi hT hE hx hy hm
include inst in
/-- 'copy' within a slice of one's own. -/
theorem wl_copyB {α : Type} {r : Rep α} {lo hi g n c off so dn dc sn sc k : Nat} {xs : List α} (h : Bl r e w lo hi (.slice (some ⟨g, 0, none⟩) n c) xs) (hT : Ty P T (.slice e) sT bT zT) (hE : Ty P e ds 1 by_ z)
    (hx : ev l F.s x = .slice (some ⟨g, off, none⟩) dn dc) (hy : ev l F.s y = .slice (some ⟨g, so, none⟩) sn sc) (hk : Nat.min sn dn = k) (h1 : off + k ≤ n) (h2 : so + k ≤ n) (hN : Nat.blt d F.N = true)
    (kk : ∀ w', Bl r e w' lo hi (.slice (some ⟨g, 0, none⟩) n c) (xs.take off ++ (xs.drop so).take k ++ xs.drop (off + k)) → w.grownBy w' (some g) → w'.heap.size = w.heap.size → (lo ≤ g ∧ g < hi ∧ g < w.heap.size) → X rest F ((d, .int .i64 (k : Int)) :: l) w') :
    X (⟨some d, .call ⟨.builtin .copy, #[x, y], #[T, T]⟩, ty, pos, af, none⟩ :: rest) F l w := by
  have hown := h.own (g := g) rfl
  obtain ⟨L, ho, hbd, hl, hr⟩ := h
  obtain ⟨hL1, hL⟩ := ho
  rcases hL with ⟨h0, _⟩ | ⟨g', cap, cur, hv, hlo, hh, hnc, hcm, hsz, htk⟩
  · cases h0
  · injection hv with e1 e2 e3
    injection e1 with e1
    injection e1 with e1
    subst e1 e3
    rw [← e2] at hnc htk
    have hLn : L.length = n := e2.symm
    obtain ⟨i, hi', hz', hs', hb'⟩ := hE.ex
    have hcur : ∀ j, j < n → cur.toList[j]? = L[j]? := by
      intro j hj
      rw [← htk, List.getElem?_take_of_lt (by omega)]
    let cs := (L.drop so).take k
    have hcl : cs.length = k := by simp [cs]; omega
    have hcs : ∀ j v, cs[j]? = some v → L[so + j]? = some v ∧ j < k := by
      intro j v hj
      have hjk : j < k := by have := (List.getElem?_eq_some_iff.1 hj).1; omega
      rw [List.getElem?_take_of_lt hjk, List.getElem?_drop] at hj
      exact ⟨hj, hjk⟩
    have hone : ∀ v ∈ L, v.oneCell' = true := by
      intro q hq
      obtain ⟨j, hj, hjq⟩ := List.mem_iff_getElem.1 hq
      exact r.one (hr j q (xs[j]'(by omega)) (by rw [List.getElem?_eq_getElem hj, hjq]) (List.getElem?_eq_getElem (by omega)))
    have hrun := run_copy_row (P := P) w T T ty e g off dn dc ⟨g, so, none⟩ sn sc cur e cs hT.und (by simp [hi', hs']) hh (by rw [hcl, hk])
      (fun j v hj => by
        obtain ⟨h3, h4⟩ := hcs j v hj
        have h5 : cur.toList[so + j]? = some v := by rw [hcur _ (by omega)]; exact h3
        have h6 : (⟨g, so, none⟩ : Addr).add j = ⟨g, so + j, none⟩ := by
          unfold Addr.add
          split
          · next e => subst e; rfl
          · rfl
        rw [h6]
        simp [World.cell?, hh, ← Array.getElem?_toList, h5])
      (by rw [hcl]; omega) (fun v hv => hone v (List.mem_of_mem_drop (List.mem_of_mem_take hv)))
    rw [hcl] at hrun
    have hgr : w.grownBy (w.setRow g (cur.toList.take off ++ cs ++ cur.toList.drop (off + k)).toArray) (some g) :=
      ⟨rfl, rfl, rfl, by simp [World.setRow], fun j _ hne => setRow_other w g j _ (fun e => hne (by rw [e]))⟩
    have hcopy : L.take off ++ cs ++ L.drop (off + k) = copyL L off so k := rfl
    have hnew : (L.take off ++ cs ++ L.drop (off + k)).length = n := by simp [hcl]; omega
    refine Runs.run (P := P) rfl rfl hN ?_ (kk _ ⟨L.take off ++ cs ++ L.drop (off + k), ⟨by rw [hnew]; omega, .inr ⟨g, c, _, by rw [hnew], hlo, setRow_heap w g cur _ e _ hh, by rw [hnew]; exact hnc, hcm, ?_, ?_⟩⟩, hbd, ?_, ?_⟩ hgr (by simp [World.setRow]) hown)
    · simp [execOp, resolve, invoke, builtin, hx, hy, hrun, Result.andThen, goInt]
    · simp [hcl]; omega
    · rw [Nat.mul_one, hcopy, copyL_len _ _ _ _ (by omega) (by omega), hLn]
      have := splice_take (cur := cur.toList) (cs := cs) (n := n) (off := off) (k := k) h1 (by simp; omega) hcl
      rw [Nat.mul_one] at htk
      simp only [htk] at this
      exact this
    · rw [hcopy, show xs.take off ++ (xs.drop so).take k ++ xs.drop (off + k) = copyL xs off so k from rfl, copyL_len _ _ _ _ (by omega) (by omega), copyL_len _ _ _ _ (by omega) (by omega), hl]
    · intro i u x hu hx'
      rw [hcopy, copyL_get _ _ _ _ _ (by omega) (by omega)] at hu
      rw [show xs.take off ++ (xs.drop so).take k ++ xs.drop (off + k) = copyL xs off so k from rfl, copyL_get _ _ _ _ _ (by omega) (by omega)] at hx'
      exact Rep.ch (hr _ _ _ hu hx') hgr fun g hrow _ hS => hS.2 hrow
end rules
end Go.Proofs.YthofgamegondnaaDoor

namespace Go.Proofs.YthofgamegondnaaDoor
open Go.RowKit
set_option linter.unusedSimpArgs false
set_option linter.unusedVariables false

set_option maxRecDepth 100000 in
theorem guests_ok (n : Int) (w : World) : Ret Tryd.prog 67 #[.int .i64 n] w fun v w' => v = .bool (decide (1 ≤ n ∧ n ≤ 64)) ∧ w.grownBy w' none := by
  refine ret_in Tryd.func67 rfl rfl rfl ?_
  have pw := pu_refl w
  refine wc_seq ?_
  refine wc_region ?_
  refine wl_v (st_assign (v := .bool (false)) rfl) rfl rfl rfl ?_
  refine wl_nil ?_
  refine wq_then ?_
  refine wc_seq ?_
  refine wc_region ?_
  refine wl_v (st_move (v := .int .i64 (n)) rfl) rfl rfl rfl ?_
  refine wl_v (st_geq rfl rfl) rfl rfl rfl ?_
  refine wl_v (st_move (v := .bool (decide (1 ≤ n))) rfl) rfl rfl rfl ?_
  refine wl_bool (decide (1 ≤ n)) (fun hb => ?_) (fun hb => ?_)
  · have h1 := hb
    clear hb
    have h1p : 1 ≤ n := by first | simpa using h1 | (simp at h1; omega)
    refine wl_guard_yes rfl rfl rfl rfl (by rw [h1]; rfl) ?_
    refine wl_v (st_move (v := .int .i64 (n)) rfl) rfl rfl rfl ?_
    refine wl_guard_yes rfl rfl rfl rfl (by rw [h1]; rfl) ?_
    refine wl_v (st_leq rfl rfl) rfl rfl rfl ?_
    refine wl_v (st_pick_t (v := .bool (decide (n ≤ 64))) rfl h1 rfl) rfl rfl rfl ?_
    refine wl_v (st_assign (v := .bool (decide (n ≤ 64))) rfl) rfl rfl rfl ?_
    refine wl_nil ?_
    refine wq_then ?_
    refine wc_ret ?_
    refine wq_ret1 (v := .bool (decide (n ≤ 64))) rfl rfl rfl ?_
    exact ⟨by simp [*], pw⟩
  · have h1 := hb
    clear hb
    have h1p : ¬ (1 ≤ n) := by first | simpa using h1 | (simp at h1; omega)
    refine wl_guard_no rfl rfl rfl rfl (by rw [h1]; rfl) rfl rfl ?_
    refine wl_guard_no rfl rfl rfl rfl (by rw [h1]; rfl) rfl rfl ?_
    refine wl_v (st_pick_f (v := .bool (false)) rfl h1 rfl) rfl rfl rfl ?_
    refine wl_v (st_assign (v := .bool (false)) rfl) rfl rfl rfl ?_
    refine wl_nil ?_
    refine wq_then ?_
    refine wc_ret ?_
    refine wq_ret1 (v := .bool (false)) rfl rfl rfl ?_
    exact ⟨by simp [*], pw⟩

set_option maxRecDepth 100000 in
theorem fit_ok (n : Int) (S : Nat → Prop) (sv : Value) (xs : List Int) (w : World) (hx : rI.R w S sv xs) (h1 : n ≤ 9223372036854775807) : Ret Tryd.prog 68 #[.int .i64 n, sv] w fun v w' => v = .bool (fitB n xs) ∧ w.grownBy w' none := by
  refine ret_in Tryd.func68 rfl rfl rfl ?_
  have pw := pu_refl w
  have hlen := SlR.le hx
  refine wc_seq ?_
  refine wc_region ?_
  refine wl_v (st_assign (v := .bool (false)) rfl) rfl rfl rfl ?_
  refine wl_nil ?_
  refine wq_then ?_
  refine wc_seq ?_
  refine wc_region ?_
  refine wl_v (st_move (v := .int .i64 (n)) rfl) rfl rfl rfl ?_
  refine wl_v (st_assign (v := .int .i64 (n)) rfl) rfl rfl rfl ?_
  refine wl_nil ?_
  refine wq_then ?_
  refine wc_seq ?_
  refine wc_seq ?_
  refine wc_region ?_
  refine wl_v (st_move (v := sv) rfl) rfl rfl rfl ?_
  refine wl_v (st_lenS hx ty24 rfl) rfl rfl rfl ?_
  refine wl_v (st_move (v := .int .i64 (0)) rfl) rfl rfl rfl ?_
  refine wl_nil ?_
  refine wq_then ?_
  refine wc_block ?_
  refine wc_loop (fun fl mm w' => ∃ k : Nat, ∃ left : Int, fl = [(0, .int .i64 (n)), (4, .bool (false)), (5, .int .i64 (left)), (9, sv), (10, .int .i64 (((xs).length : Int))), (11, .int .i64 ((k : Int)))] ∧ mm = xs.length - k ∧ (k ≤ xs.length) ∧ (left ≤ n) ∧ (fitGo left (xs.drop k) = fitGo n xs) ∧ w.grownBy w' none ∧ rI.R w' (S) (sv) (xs)) (h0 := ⟨0, n, rfl, rfl, ?_, ?_, ?_, pw, hx⟩) (hf := ⟨(by first | rfl | exact congrArg (Value.int _) (by omega) | go_num), (by first | rfl | exact congrArg (Value.int _) (by omega) | go_num), (by first | rfl | exact congrArg (Value.int _) (by omega) | go_num), (by first | rfl | exact congrArg (Value.int _) (by omega) | go_num), (by first | rfl | exact congrArg (Value.int _) (by omega) | go_num), (by first | rfl | exact congrArg (Value.int _) (by omega) | go_num), trivial⟩) ?_
  · omega
  · omega
  · rfl
  · skip
    rintro _ _ w1 s2 ⟨k, left, rfl, rfl, p1_1, p1_2, p1_3, pw, hx⟩
    refine wc_seq ?_
    refine wc_region ?_
    refine wl_v (st_lss rfl rfl) rfl rfl rfl ?_
    refine wl_nil ?_
    refine wq_then ?_
    refine wc_seq ?_
    refine wc_cond rfl ?_ ?_
    · intro h3
      have h3p : (k : Int) < ((xs).length : Int) := by first | simpa using h3 | (simp at h3; omega)
      refine wc_skip ?_
      refine wq_then ?_
      refine wc_seq ?_
      refine wc_block ?_
      refine wc_seq ?_
      refine wc_region ?_
      refine wl_e (st_idxI hx ty24 ty3 rfl rfl (by omega) (by omega)) rfl rfl rfl ?_
      rintro _ ⟨a5, rfl, hc4⟩
      simp only [Int.toNat_natCast] at hc4
      refine wl_v (st_load ty3 rfl rfl hc4) rfl rfl rfl ?_
      refine wl_v (st_assign (v := .int .i64 ((xs).getD k 0)) rfl) rfl rfl rfl ?_
      refine wl_nil ?_
      refine wq_then ?_
      refine wc_seq ?_
      refine wc_seq ?_
      refine wc_region ?_
      refine wl_v (st_move (v := .int .i64 ((xs).getD k 0)) rfl) rfl rfl rfl ?_
      refine wl_v (st_lss rfl rfl) rfl rfl rfl ?_
      refine wl_v (st_move (v := .bool (decide (((xs).getD k 0) < 1))) rfl) rfl rfl rfl ?_
      refine wl_bool (decide (((xs).getD k 0) < 1)) (fun hb => ?_) (fun hb => ?_)
      · have h6 := hb
        clear hb
        have h6p : ((xs).getD k 0) < 1 := by first | simpa using h6 | (simp at h6; omega)
        refine wl_guard_no rfl rfl rfl rfl (by rw [h6]; rfl) rfl rfl ?_
        refine wl_guard_no rfl rfl rfl rfl (by rw [h6]; rfl) rfl rfl ?_
        refine wl_guard_no rfl rfl rfl rfl (by rw [h6]; rfl) rfl rfl ?_
        refine wl_v (st_pick_t (v := .bool (true)) rfl h6 rfl) rfl rfl rfl ?_
        refine wl_nil ?_
        refine wq_then ?_
        refine wc_true rfl ?_
        refine wc_seq ?_
        refine wc_region ?_
        refine wl_v (st_assign (v := .bool (false)) rfl) rfl rfl rfl ?_
        refine wl_nil ?_
        refine wq_then ?_
        refine wc_ret ?_
        refine wq_then_ret ?_
        refine wq_block_ret ?_
        refine wq_then_ret ?_
        refine wq_then_ret ?_
        refine wq_block_ret ?_
        refine wq_then_ret ?_
        refine wq_ret1 (v := .bool (false)) rfl rfl rfl ?_
        exact ⟨congrArg Value.bool (by rw [fitB, ← p1_3, drop_getD xs k (by omega), fitGo, if_pos (by omega)]; rfl), pw⟩
      · have h6 := hb
        clear hb
        have h6p : ¬ (((xs).getD k 0) < 1) := by first | simpa using h6 | (simp at h6; omega)
        refine wl_guard_yes rfl rfl rfl rfl (by rw [h6]; rfl) ?_
        refine wl_v (st_move (v := .int .i64 ((xs).getD k 0)) rfl) rfl rfl rfl ?_
        refine wl_guard_yes rfl rfl rfl rfl (by rw [h6]; rfl) ?_
        refine wl_v (st_move (v := .int .i64 (left)) rfl) rfl rfl rfl ?_
        refine wl_guard_yes rfl rfl rfl rfl (by rw [h6]; rfl) ?_
        refine wl_v (st_gtr rfl rfl) rfl rfl rfl ?_
        refine wl_v (st_pick_f (v := .bool (decide (left < ((xs).getD k 0)))) rfl h6 rfl) rfl rfl rfl ?_
        refine wl_nil ?_
        refine wq_then ?_
        refine wc_cond rfl ?_ ?_
        · intro h7
          have h7p : left < ((xs).getD k 0) := by first | simpa using h7 | (simp at h7; omega)
          refine wc_seq ?_
          refine wc_region ?_
          refine wl_v (st_assign (v := .bool (false)) rfl) rfl rfl rfl ?_
          refine wl_nil ?_
          refine wq_then ?_
          refine wc_ret ?_
          refine wq_then_ret ?_
          refine wq_block_ret ?_
          refine wq_then_ret ?_
          refine wq_then_ret ?_
          refine wq_block_ret ?_
          refine wq_then_ret ?_
          refine wq_ret1 (v := .bool (false)) rfl rfl rfl ?_
          exact ⟨congrArg Value.bool (by rw [fitB, ← p1_3, drop_getD xs k (by omega), fitGo, if_pos (by omega)]; rfl), pw⟩
        · intro h7
          have h7p : ¬ (left < ((xs).getD k 0)) := by first | simpa using h7 | (simp at h7; omega)
          refine wc_skip ?_
          refine wq_then ?_
          refine wc_region ?_
          refine wl_v (st_move (v := .int .i64 (left)) rfl) rfl rfl rfl ?_
          refine wl_v (st_move (v := .int .i64 ((xs).getD k 0)) rfl) rfl rfl rfl ?_
          refine wl_v (st_sub rfl rfl (by omega) (by omega)) rfl rfl rfl ?_
          refine wl_v (st_assign (v := .int .i64 (left - ((xs).getD k 0))) rfl) rfl rfl rfl ?_
          refine wl_nil ?_
          refine wq_block_normal ?_
          refine wq_then ?_
          refine wc_region ?_
          refine wl_v (st_add rfl rfl (by omega) (by omega)) rfl rfl rfl ?_
          refine wl_v (st_move (v := .int .i64 ((k : Int) + 1)) rfl) rfl rfl rfl ?_
          refine wl_nil ?_
          refine wq_round (hI := ⟨k + 1, (left - xs.getD k 0), rfl, rfl, ?_, ?_, ?_, pw, hx⟩) (hm := ?_) (hf := ?_) rfl rfl
          · omega
          · omega
          · (rw [drop_getD xs k (by omega), fitGo, if_neg (by omega)] at *; assumption)
          · omega
          · exact ⟨(by first | rfl | exact congrArg (Value.int _) (by omega) | go_num), (by first | rfl | exact congrArg (Value.int _) (by omega) | go_num), (by first | rfl | exact congrArg (Value.int _) (by omega) | go_num), (by first | rfl | exact congrArg (Value.int _) (by omega) | go_num), (by first | rfl | exact congrArg (Value.int _) (by omega) | go_num), (by first | rfl | exact congrArg (Value.int _) (by omega) | go_num), trivial⟩
    · intro h3
      have h3p : ¬ ((k : Int) < ((xs).length : Int)) := by first | simpa using h3 | (simp at h3; omega)
      refine wc_exit ?_
      refine wq_then_exit ?_
      refine wq_then_exit ?_
      refine wq_block_exit ?_
      refine wq_then ?_
      refine wc_seq ?_
      refine wc_region ?_
      refine wl_v (st_move (v := .int .i64 (n)) rfl) rfl rfl rfl ?_
      refine wl_call (vs := [.int .i64 (n)]) C67 rfl rfl (guests_ok (n) _) ?_
      rintro _ w8 ⟨rfl, hn9⟩
      have pw := pu_trans pw hn9
      have hx := Rep.pu hx hn9
      have hzw8 := World.grownBy.size hn9
      refine wl_v (st_move (v := .bool (decide (1 ≤ n ∧ n ≤ 64))) rfl) rfl rfl rfl ?_
      refine wl_bool (decide (1 ≤ n ∧ n ≤ 64)) (fun hb => ?_) (fun hb => ?_)
      · have h10 := hb
        clear hb
        have h10p : 1 ≤ n ∧ n ≤ 64 := by first | simpa using h10 | (simp at h10; omega)
        refine wl_guard_yes rfl rfl rfl rfl (by rw [h10]; rfl) ?_
        refine wl_v (st_move (v := .int .i64 (left)) rfl) rfl rfl rfl ?_
        refine wl_guard_yes rfl rfl rfl rfl (by rw [h10]; rfl) ?_
        refine wl_v (st_eql rfl rfl) rfl rfl rfl ?_
        refine wl_v (st_pick_t (v := .bool (decide (left = 0))) rfl h10 rfl) rfl rfl rfl ?_
        refine wl_v (st_assign (v := .bool (decide (left = 0))) rfl) rfl rfl rfl ?_
        refine wl_nil ?_
        refine wq_then ?_
        refine wc_ret ?_
        refine wq_ret1 (v := .bool (decide (left = 0))) rfl rfl rfl ?_
        exact ⟨congrArg Value.bool (by rw [fitB, ← p1_3, List.drop_of_length_le (by omega), fitGo]; simp [*]), pw⟩
      · have h10 := hb
        clear hb
        have h10p : ¬ (1 ≤ n ∧ n ≤ 64) := by first | simpa using h10 | (simp at h10; omega)
        refine wl_guard_no rfl rfl rfl rfl (by rw [h10]; rfl) rfl rfl ?_
        refine wl_guard_no rfl rfl rfl rfl (by rw [h10]; rfl) rfl rfl ?_
        refine wl_v (st_pick_f (v := .bool (false)) rfl h10 rfl) rfl rfl rfl ?_
        refine wl_v (st_assign (v := .bool (false)) rfl) rfl rfl rfl ?_
        refine wl_nil ?_
        refine wq_then ?_
        refine wc_ret ?_
        refine wq_ret1 (v := .bool (false)) rfl rfl rfl ?_
        exact ⟨congrArg Value.bool (by rw [fitB, ← p1_3, List.drop_of_length_le (by omega), fitGo]; simp [*]), pw⟩

end Go.Proofs.YthofgamegondnaaDoor

namespace Go.Proofs.YthofgamegondnaaDoor
open Go.RowKit
set_option linter.unusedSimpArgs false
set_option linter.unusedVariables false

set_option maxRecDepth 100000 in
theorem fieldOf_ok (q : Int) (w : World) : Ret Tryd.prog 56 #[.int .i64 q] w fun v w' => w.grownBy w' none ∧ match fieldL q with | some (p, m, xs) => ∃ pv, v = .tuple #[.agg #[.int .i64 p, .int .i64 (m : Int), pv], .bool true] ∧ rI.R w' (Lo w'.heap.size) pv xs | none => v = .tuple #[.agg #[.int .i64 0, .int .i64 0, .slice none 0 0], .bool false] := by
  refine ret_in Tryd.func56 rfl rfl rfl ?_
  have pw := pu_refl w
  refine wc_seq ?_
  refine wc_region ?_
  refine wl_allocK (cs := [.int .i64 (0), .int .i64 (0), .slice none 0 0]) ty72 rfl rfl ?_
  intro w2 g1 hg3 hs4 hb5 hn6
  have pw := pu_trans pw hn6
  refine wl_v (st_assign (v := .bool (false)) rfl) rfl rfl rfl ?_
  refine wl_nil ?_
  refine wq_then ?_
  refine wc_seq ?_
  refine wc_seq ?_
  refine wc_region ?_
  refine wl_v (st_move (v := .int .i64 (q)) rfl) rfl rfl rfl ?_
  refine wl_nil ?_
  refine wq_then ?_
  refine wc_block ?_
  refine wc_seq ?_
  refine wc_seq ?_
  refine wc_region ?_
  refine wl_v (st_eql rfl rfl) rfl rfl rfl ?_
  refine wl_v (st_assign (v := .bool (decide (q = 2))) rfl) rfl rfl rfl ?_
  refine wl_nil ?_
  refine wq_then ?_
  refine wc_cond rfl ?_ ?_
  · intro h7
    have h7p : q = 2 := by first | simpa using h7 | (simp at h7; omega)
    refine wc_skip ?_
    refine wq_then ?_
    refine wc_true (by rw [← h7]; rfl) ?_
    refine wc_seq ?_
    refine wc_region ?_
    refine wl_v (st_move (v := .int .i64 (q)) rfl) rfl rfl rfl ?_
    refine wl_lit (r := iR) (lo := w2.heap.size) (us := [.int .i64 (0)]) (xs := [0]) ty24 ty3 rfl rfl rfl (by decide) ⟨rfl, trivial⟩ (by omega) rfl ?_
    intro w9 g8 hg10 hs11 hb12 hn13
    have pw := pu_trans pw hn13
    have hb5 := Bk.pu hb5 hn13
    refine wl_v (st_build (cs := [.int .i64 (0), .int .i64 (0), .slice none 0 0]) (us := [(0, .int .i64 (q)), (1, .int .i64 (1)), (2, .slice (some ⟨g8, 0, none⟩) 1 1)]) ty72 pl72 rfl rfl rfl rfl) rfl rfl rfl ?_
    refine wl_storeG (cs := [.int .i64 (q), .int .i64 (1), .slice (some ⟨g8, 0, none⟩) 1 1]) hb5 ty72 rfl rfl rfl rfl (all1 rfl (all1 rfl (all1 (Rep.one _ (Bl.sl hb12)) rfl))) ?_
    intro w18 hb19 hg20 hs21
    have pw := pu_row pw hg20 (by intro q hq hlt; simp at hq; omega)
    have hb12 := Bl.ch hb12 hg20 (by intro q hq hlt; simp at hq; omega)
    have hb5 := hb19
    refine wl_v (st_assign (v := .bool (true)) rfl) rfl rfl rfl ?_
    refine wl_nil ?_
    refine wq_then ?_
    refine wc_ret ?_
    refine wq_block_ret ?_
    refine wq_then_ret ?_
    refine wq_ret2ct (cs := [.int .i64 (q), .int .i64 (1), .slice (some ⟨g8, 0, none⟩) 1 1]) (v := .bool (true)) rfl rfl rfl rfl ty72 rfl rfl (Bk.cells hb5) ?_
    refine ⟨pw, ?_⟩
    unfold fieldL
    rw [if_pos (by omega)]
    exact ⟨_, rfl, rI.mono (rI.lt (Bl.sl hb12)) fun b hb => hb.2⟩
  · intro h7
    have h7p : ¬ (q = 2) := by first | simpa using h7 | (simp at h7; omega)
    refine wc_seq ?_
    refine wc_region ?_
    refine wl_v (st_eql rfl rfl) rfl rfl rfl ?_
    refine wl_v (st_assign (v := .bool (decide (q = 3))) rfl) rfl rfl rfl ?_
    refine wl_nil ?_
    refine wq_then ?_
    refine wc_cond rfl ?_ ?_
    · intro h22
      have h22p : q = 3 := by first | simpa using h22 | (simp at h22; omega)
      refine wc_skip ?_
      refine wq_then ?_
      refine wc_true (by rw [← h22]; rfl) ?_
      refine wc_seq ?_
      refine wc_region ?_
      refine wl_v (st_move (v := .int .i64 (q)) rfl) rfl rfl rfl ?_
      refine wl_lit (r := iR) (lo := w2.heap.size) (us := [.int .i64 (0)]) (xs := [0]) ty24 ty3 rfl rfl rfl (by decide) ⟨rfl, trivial⟩ (by omega) rfl ?_
      intro w24 g23 hg25 hs26 hb27 hn28
      have pw := pu_trans pw hn28
      have hb5 := Bk.pu hb5 hn28
      refine wl_v (st_build (cs := [.int .i64 (0), .int .i64 (0), .slice none 0 0]) (us := [(0, .int .i64 (q)), (1, .int .i64 (1)), (2, .slice (some ⟨g23, 0, none⟩) 1 1)]) ty72 pl72 rfl rfl rfl rfl) rfl rfl rfl ?_
      refine wl_storeG (cs := [.int .i64 (q), .int .i64 (1), .slice (some ⟨g23, 0, none⟩) 1 1]) hb5 ty72 rfl rfl rfl rfl (all1 rfl (all1 rfl (all1 (Rep.one _ (Bl.sl hb27)) rfl))) ?_
      intro w33 hb34 hg35 hs36
      have pw := pu_row pw hg35 (by intro q hq hlt; simp at hq; omega)
      have hb27 := Bl.ch hb27 hg35 (by intro q hq hlt; simp at hq; omega)
      have hb5 := hb34
      refine wl_v (st_assign (v := .bool (true)) rfl) rfl rfl rfl ?_
      refine wl_nil ?_
      refine wq_then ?_
      refine wc_ret ?_
      refine wq_block_ret ?_
      refine wq_then_ret ?_
      refine wq_ret2ct (cs := [.int .i64 (q), .int .i64 (1), .slice (some ⟨g23, 0, none⟩) 1 1]) (v := .bool (true)) rfl rfl rfl rfl ty72 rfl rfl (Bk.cells hb5) ?_
      refine ⟨pw, ?_⟩
      unfold fieldL
      rw [if_pos (by omega)]
      exact ⟨_, rfl, rI.mono (rI.lt (Bl.sl hb27)) fun b hb => hb.2⟩
    · intro h22
      have h22p : ¬ (q = 3) := by first | simpa using h22 | (simp at h22; omega)
      refine wc_seq ?_
      refine wc_region ?_
      refine wl_v (st_eql rfl rfl) rfl rfl rfl ?_
      refine wl_v (st_assign (v := .bool (decide (q = 5))) rfl) rfl rfl rfl ?_
      refine wl_nil ?_
      refine wq_then ?_
      refine wc_cond rfl ?_ ?_
      · intro h37
        have h37p : q = 5 := by first | simpa using h37 | (simp at h37; omega)
        refine wc_skip ?_
        refine wq_then ?_
        refine wc_true (by rw [← h37]; rfl) ?_
        refine wc_seq ?_
        refine wc_region ?_
        refine wl_v (st_move (v := .int .i64 (q)) rfl) rfl rfl rfl ?_
        refine wl_lit (r := iR) (lo := w2.heap.size) (us := [.int .i64 (0)]) (xs := [0]) ty24 ty3 rfl rfl rfl (by decide) ⟨rfl, trivial⟩ (by omega) rfl ?_
        intro w39 g38 hg40 hs41 hb42 hn43
        have pw := pu_trans pw hn43
        have hb5 := Bk.pu hb5 hn43
        refine wl_v (st_build (cs := [.int .i64 (0), .int .i64 (0), .slice none 0 0]) (us := [(0, .int .i64 (q)), (1, .int .i64 (1)), (2, .slice (some ⟨g38, 0, none⟩) 1 1)]) ty72 pl72 rfl rfl rfl rfl) rfl rfl rfl ?_
        refine wl_storeG (cs := [.int .i64 (q), .int .i64 (1), .slice (some ⟨g38, 0, none⟩) 1 1]) hb5 ty72 rfl rfl rfl rfl (all1 rfl (all1 rfl (all1 (Rep.one _ (Bl.sl hb42)) rfl))) ?_
        intro w48 hb49 hg50 hs51
        have pw := pu_row pw hg50 (by intro q hq hlt; simp at hq; omega)
        have hb42 := Bl.ch hb42 hg50 (by intro q hq hlt; simp at hq; omega)
        have hb5 := hb49
        refine wl_v (st_assign (v := .bool (true)) rfl) rfl rfl rfl ?_
        refine wl_nil ?_
        refine wq_then ?_
        refine wc_ret ?_
        refine wq_block_ret ?_
        refine wq_then_ret ?_
        refine wq_ret2ct (cs := [.int .i64 (q), .int .i64 (1), .slice (some ⟨g38, 0, none⟩) 1 1]) (v := .bool (true)) rfl rfl rfl rfl ty72 rfl rfl (Bk.cells hb5) ?_
        refine ⟨pw, ?_⟩
        unfold fieldL
        rw [if_pos (by omega)]
        exact ⟨_, rfl, rI.mono (rI.lt (Bl.sl hb42)) fun b hb => hb.2⟩
      · intro h37
        have h37p : ¬ (q = 5) := by first | simpa using h37 | (simp at h37; omega)
        refine wc_seq ?_
        refine wc_region ?_
        refine wl_v (st_eql rfl rfl) rfl rfl rfl ?_
        refine wl_v (st_assign (v := .bool (decide (q = 7))) rfl) rfl rfl rfl ?_
        refine wl_nil ?_
        refine wq_then ?_
        refine wc_cond rfl ?_ ?_
        · intro h52
          have h52p : q = 7 := by first | simpa using h52 | (simp at h52; omega)
          refine wc_skip ?_
          refine wq_then ?_
          refine wc_true (by rw [← h52]; rfl) ?_
          refine wc_seq ?_
          refine wc_region ?_
          refine wl_v (st_move (v := .int .i64 (q)) rfl) rfl rfl rfl ?_
          refine wl_lit (r := iR) (lo := w2.heap.size) (us := [.int .i64 (0)]) (xs := [0]) ty24 ty3 rfl rfl rfl (by decide) ⟨rfl, trivial⟩ (by omega) rfl ?_
          intro w54 g53 hg55 hs56 hb57 hn58
          have pw := pu_trans pw hn58
          have hb5 := Bk.pu hb5 hn58
          refine wl_v (st_build (cs := [.int .i64 (0), .int .i64 (0), .slice none 0 0]) (us := [(0, .int .i64 (q)), (1, .int .i64 (1)), (2, .slice (some ⟨g53, 0, none⟩) 1 1)]) ty72 pl72 rfl rfl rfl rfl) rfl rfl rfl ?_
          refine wl_storeG (cs := [.int .i64 (q), .int .i64 (1), .slice (some ⟨g53, 0, none⟩) 1 1]) hb5 ty72 rfl rfl rfl rfl (all1 rfl (all1 rfl (all1 (Rep.one _ (Bl.sl hb57)) rfl))) ?_
          intro w63 hb64 hg65 hs66
          have pw := pu_row pw hg65 (by intro q hq hlt; simp at hq; omega)
          have hb57 := Bl.ch hb57 hg65 (by intro q hq hlt; simp at hq; omega)
          have hb5 := hb64
          refine wl_v (st_assign (v := .bool (true)) rfl) rfl rfl rfl ?_
          refine wl_nil ?_
          refine wq_then ?_
          refine wc_ret ?_
          refine wq_block_ret ?_
          refine wq_then_ret ?_
          refine wq_ret2ct (cs := [.int .i64 (q), .int .i64 (1), .slice (some ⟨g53, 0, none⟩) 1 1]) (v := .bool (true)) rfl rfl rfl rfl ty72 rfl rfl (Bk.cells hb5) ?_
          refine ⟨pw, ?_⟩
          unfold fieldL
          rw [if_pos (by omega)]
          exact ⟨_, rfl, rI.mono (rI.lt (Bl.sl hb57)) fun b hb => hb.2⟩
        · intro h52
          have h52p : ¬ (q = 7) := by first | simpa using h52 | (simp at h52; omega)
          refine wc_seq ?_
          refine wc_region ?_
          refine wl_v (st_eql rfl rfl) rfl rfl rfl ?_
          refine wl_v (st_assign (v := .bool (decide (q = 11))) rfl) rfl rfl rfl ?_
          refine wl_nil ?_
          refine wq_then ?_
          refine wc_cond rfl ?_ ?_
          · intro h67
            have h67p : q = 11 := by first | simpa using h67 | (simp at h67; omega)
            refine wc_skip ?_
            refine wq_then ?_
            refine wc_true (by rw [← h67]; rfl) ?_
            refine wc_seq ?_
            refine wc_region ?_
            refine wl_v (st_move (v := .int .i64 (q)) rfl) rfl rfl rfl ?_
            refine wl_lit (r := iR) (lo := w2.heap.size) (us := [.int .i64 (0)]) (xs := [0]) ty24 ty3 rfl rfl rfl (by decide) ⟨rfl, trivial⟩ (by omega) rfl ?_
            intro w69 g68 hg70 hs71 hb72 hn73
            have pw := pu_trans pw hn73
            have hb5 := Bk.pu hb5 hn73
            refine wl_v (st_build (cs := [.int .i64 (0), .int .i64 (0), .slice none 0 0]) (us := [(0, .int .i64 (q)), (1, .int .i64 (1)), (2, .slice (some ⟨g68, 0, none⟩) 1 1)]) ty72 pl72 rfl rfl rfl rfl) rfl rfl rfl ?_
            refine wl_storeG (cs := [.int .i64 (q), .int .i64 (1), .slice (some ⟨g68, 0, none⟩) 1 1]) hb5 ty72 rfl rfl rfl rfl (all1 rfl (all1 rfl (all1 (Rep.one _ (Bl.sl hb72)) rfl))) ?_
            intro w78 hb79 hg80 hs81
            have pw := pu_row pw hg80 (by intro q hq hlt; simp at hq; omega)
            have hb72 := Bl.ch hb72 hg80 (by intro q hq hlt; simp at hq; omega)
            have hb5 := hb79
            refine wl_v (st_assign (v := .bool (true)) rfl) rfl rfl rfl ?_
            refine wl_nil ?_
            refine wq_then ?_
            refine wc_ret ?_
            refine wq_block_ret ?_
            refine wq_then_ret ?_
            refine wq_ret2ct (cs := [.int .i64 (q), .int .i64 (1), .slice (some ⟨g68, 0, none⟩) 1 1]) (v := .bool (true)) rfl rfl rfl rfl ty72 rfl rfl (Bk.cells hb5) ?_
            refine ⟨pw, ?_⟩
            unfold fieldL
            rw [if_pos (by omega)]
            exact ⟨_, rfl, rI.mono (rI.lt (Bl.sl hb72)) fun b hb => hb.2⟩
          · intro h67
            have h67p : ¬ (q = 11) := by first | simpa using h67 | (simp at h67; omega)
            refine wc_region ?_
            refine wl_v (st_eql rfl rfl) rfl rfl rfl ?_
            refine wl_v (st_assign (v := .bool (decide (q = 13))) rfl) rfl rfl rfl ?_
            refine wl_nil ?_
            refine wq_then ?_
            refine wc_cond rfl ?_ ?_
            · intro h82
              have h82p : q = 13 := by first | simpa using h82 | (simp at h82; omega)
              refine wc_seq ?_
              refine wc_region ?_
              refine wl_v (st_move (v := .int .i64 (q)) rfl) rfl rfl rfl ?_
              refine wl_lit (r := iR) (lo := w2.heap.size) (us := [.int .i64 (0)]) (xs := [0]) ty24 ty3 rfl rfl rfl (by decide) ⟨rfl, trivial⟩ (by omega) rfl ?_
              intro w84 g83 hg85 hs86 hb87 hn88
              have pw := pu_trans pw hn88
              have hb5 := Bk.pu hb5 hn88
              refine wl_v (st_build (cs := [.int .i64 (0), .int .i64 (0), .slice none 0 0]) (us := [(0, .int .i64 (q)), (1, .int .i64 (1)), (2, .slice (some ⟨g83, 0, none⟩) 1 1)]) ty72 pl72 rfl rfl rfl rfl) rfl rfl rfl ?_
              refine wl_storeG (cs := [.int .i64 (q), .int .i64 (1), .slice (some ⟨g83, 0, none⟩) 1 1]) hb5 ty72 rfl rfl rfl rfl (all1 rfl (all1 rfl (all1 (Rep.one _ (Bl.sl hb87)) rfl))) ?_
              intro w93 hb94 hg95 hs96
              have pw := pu_row pw hg95 (by intro q hq hlt; simp at hq; omega)
              have hb87 := Bl.ch hb87 hg95 (by intro q hq hlt; simp at hq; omega)
              have hb5 := hb94
              refine wl_v (st_assign (v := .bool (true)) rfl) rfl rfl rfl ?_
              refine wl_nil ?_
              refine wq_then ?_
              refine wc_ret ?_
              refine wq_block_ret ?_
              refine wq_then_ret ?_
              refine wq_ret2ct (cs := [.int .i64 (q), .int .i64 (1), .slice (some ⟨g83, 0, none⟩) 1 1]) (v := .bool (true)) rfl rfl rfl rfl ty72 rfl rfl (Bk.cells hb5) ?_
              refine ⟨pw, ?_⟩
              unfold fieldL
              rw [if_pos (by omega)]
              exact ⟨_, rfl, rI.mono (rI.lt (Bl.sl hb87)) fun b hb => hb.2⟩
            · intro h82
              have h82p : ¬ (q = 13) := by first | simpa using h82 | (simp at h82; omega)
              refine wc_seq ?_
              refine wc_region ?_
              refine wl_v (st_eql rfl rfl) rfl rfl rfl ?_
              refine wl_v (st_assign (v := .bool (decide (q = 4))) rfl) rfl rfl rfl ?_
              refine wl_nil ?_
              refine wq_then ?_
              refine wc_cond rfl ?_ ?_
              · intro h97
                have h97p : q = 4 := by first | simpa using h97 | (simp at h97; omega)
                refine wc_seq ?_
                refine wc_region ?_
                refine wl_lit (r := iR) (lo := w2.heap.size) (us := [.int .i64 (1), .int .i64 (1)]) (xs := [1, 1]) ty24 ty3 rfl rfl rfl (by decide) ⟨rfl, ⟨rfl, trivial⟩⟩ (by omega) rfl ?_
                intro w99 g98 hg100 hs101 hb102 hn103
                have pw := pu_trans pw hn103
                have hb5 := Bk.pu hb5 hn103
                refine wl_v (st_build (cs := [.int .i64 (0), .int .i64 (0), .slice none 0 0]) (us := [(0, .int .i64 (2)), (1, .int .i64 (2)), (2, .slice (some ⟨g98, 0, none⟩) 2 2)]) ty72 pl72 rfl rfl rfl rfl) rfl rfl rfl ?_
                refine wl_storeG (cs := [.int .i64 (2), .int .i64 (2), .slice (some ⟨g98, 0, none⟩) 2 2]) hb5 ty72 rfl rfl rfl rfl (all1 rfl (all1 rfl (all1 (Rep.one _ (Bl.sl hb102)) rfl))) ?_
                intro w108 hb109 hg110 hs111
                have pw := pu_row pw hg110 (by intro q hq hlt; simp at hq; omega)
                have hb102 := Bl.ch hb102 hg110 (by intro q hq hlt; simp at hq; omega)
                have hb5 := hb109
                refine wl_v (st_assign (v := .bool (true)) rfl) rfl rfl rfl ?_
                refine wl_nil ?_
                refine wq_then ?_
                refine wc_ret ?_
                refine wq_block_ret ?_
                refine wq_then_ret ?_
                refine wq_ret2ct (cs := [.int .i64 (2), .int .i64 (2), .slice (some ⟨g98, 0, none⟩) 2 2]) (v := .bool (true)) rfl rfl rfl rfl ty72 rfl rfl (Bk.cells hb5) ?_
                refine ⟨pw, ?_⟩
                unfold fieldL
                rw [if_neg (by omega)]
                rw [if_pos (by omega)]
                exact ⟨_, rfl, rI.mono (rI.lt (Bl.sl hb102)) fun b hb => hb.2⟩
              · intro h97
                have h97p : ¬ (q = 4) := by first | simpa using h97 | (simp at h97; omega)
                refine wc_seq ?_
                refine wc_region ?_
                refine wl_v (st_eql rfl rfl) rfl rfl rfl ?_
                refine wl_v (st_assign (v := .bool (decide (q = 8))) rfl) rfl rfl rfl ?_
                refine wl_nil ?_
                refine wq_then ?_
                refine wc_cond rfl ?_ ?_
                · intro h112
                  have h112p : q = 8 := by first | simpa using h112 | (simp at h112; omega)
                  refine wc_seq ?_
                  refine wc_region ?_
                  refine wl_lit (r := iR) (lo := w2.heap.size) (us := [.int .i64 (1), .int .i64 (1), .int .i64 (0)]) (xs := [1, 1, 0]) ty24 ty3 rfl rfl rfl (by decide) ⟨rfl, ⟨rfl, ⟨rfl, trivial⟩⟩⟩ (by omega) rfl ?_
                  intro w114 g113 hg115 hs116 hb117 hn118
                  have pw := pu_trans pw hn118
                  have hb5 := Bk.pu hb5 hn118
                  refine wl_v (st_build (cs := [.int .i64 (0), .int .i64 (0), .slice none 0 0]) (us := [(0, .int .i64 (2)), (1, .int .i64 (3)), (2, .slice (some ⟨g113, 0, none⟩) 3 3)]) ty72 pl72 rfl rfl rfl rfl) rfl rfl rfl ?_
                  refine wl_storeG (cs := [.int .i64 (2), .int .i64 (3), .slice (some ⟨g113, 0, none⟩) 3 3]) hb5 ty72 rfl rfl rfl rfl (all1 rfl (all1 rfl (all1 (Rep.one _ (Bl.sl hb117)) rfl))) ?_
                  intro w123 hb124 hg125 hs126
                  have pw := pu_row pw hg125 (by intro q hq hlt; simp at hq; omega)
                  have hb117 := Bl.ch hb117 hg125 (by intro q hq hlt; simp at hq; omega)
                  have hb5 := hb124
                  refine wl_v (st_assign (v := .bool (true)) rfl) rfl rfl rfl ?_
                  refine wl_nil ?_
                  refine wq_then ?_
                  refine wc_ret ?_
                  refine wq_block_ret ?_
                  refine wq_then_ret ?_
                  refine wq_ret2ct (cs := [.int .i64 (2), .int .i64 (3), .slice (some ⟨g113, 0, none⟩) 3 3]) (v := .bool (true)) rfl rfl rfl rfl ty72 rfl rfl (Bk.cells hb5) ?_
                  refine ⟨pw, ?_⟩
                  unfold fieldL
                  rw [if_neg (by omega)]
                  rw [if_neg (by omega)]
                  rw [if_pos (by omega)]
                  exact ⟨_, rfl, rI.mono (rI.lt (Bl.sl hb117)) fun b hb => hb.2⟩
                · intro h112
                  have h112p : ¬ (q = 8) := by first | simpa using h112 | (simp at h112; omega)
                  refine wc_seq ?_
                  refine wc_region ?_
                  refine wl_v (st_eql rfl rfl) rfl rfl rfl ?_
                  refine wl_v (st_assign (v := .bool (decide (q = 9))) rfl) rfl rfl rfl ?_
                  refine wl_nil ?_
                  refine wq_then ?_
                  refine wc_cond rfl ?_ ?_
                  · intro h127
                    have h127p : q = 9 := by first | simpa using h127 | (simp at h127; omega)
                    refine wc_seq ?_
                    refine wc_region ?_
                    refine wl_lit (r := iR) (lo := w2.heap.size) (us := [.int .i64 (2), .int .i64 (0)]) (xs := [2, 0]) ty24 ty3 rfl rfl rfl (by decide) ⟨rfl, ⟨rfl, trivial⟩⟩ (by omega) rfl ?_
                    intro w129 g128 hg130 hs131 hb132 hn133
                    have pw := pu_trans pw hn133
                    have hb5 := Bk.pu hb5 hn133
                    refine wl_v (st_build (cs := [.int .i64 (0), .int .i64 (0), .slice none 0 0]) (us := [(0, .int .i64 (3)), (1, .int .i64 (2)), (2, .slice (some ⟨g128, 0, none⟩) 2 2)]) ty72 pl72 rfl rfl rfl rfl) rfl rfl rfl ?_
                    refine wl_storeG (cs := [.int .i64 (3), .int .i64 (2), .slice (some ⟨g128, 0, none⟩) 2 2]) hb5 ty72 rfl rfl rfl rfl (all1 rfl (all1 rfl (all1 (Rep.one _ (Bl.sl hb132)) rfl))) ?_
                    intro w138 hb139 hg140 hs141
                    have pw := pu_row pw hg140 (by intro q hq hlt; simp at hq; omega)
                    have hb132 := Bl.ch hb132 hg140 (by intro q hq hlt; simp at hq; omega)
                    have hb5 := hb139
                    refine wl_v (st_assign (v := .bool (true)) rfl) rfl rfl rfl ?_
                    refine wl_nil ?_
                    refine wq_then ?_
                    refine wc_ret ?_
                    refine wq_block_ret ?_
                    refine wq_then_ret ?_
                    refine wq_ret2ct (cs := [.int .i64 (3), .int .i64 (2), .slice (some ⟨g128, 0, none⟩) 2 2]) (v := .bool (true)) rfl rfl rfl rfl ty72 rfl rfl (Bk.cells hb5) ?_
                    refine ⟨pw, ?_⟩
                    unfold fieldL
                    rw [if_neg (by omega)]
                    rw [if_neg (by omega)]
                    rw [if_neg (by omega)]
                    rw [if_pos (by omega)]
                    exact ⟨_, rfl, rI.mono (rI.lt (Bl.sl hb132)) fun b hb => hb.2⟩
                  · intro h127
                    have h127p : ¬ (q = 9) := by first | simpa using h127 | (simp at h127; omega)
                    refine wc_seq ?_
                    refine wc_region ?_
                    refine wl_v (st_eql rfl rfl) rfl rfl rfl ?_
                    refine wl_v (st_assign (v := .bool (decide (q = 16))) rfl) rfl rfl rfl ?_
                    refine wl_nil ?_
                    refine wq_then ?_
                    refine wc_cond rfl ?_ ?_
                    · intro h142
                      have h142p : q = 16 := by first | simpa using h142 | (simp at h142; omega)
                      refine wc_seq ?_
                      refine wc_region ?_
                      refine wl_lit (r := iR) (lo := w2.heap.size) (us := [.int .i64 (1), .int .i64 (1), .int .i64 (0), .int .i64 (0)]) (xs := [1, 1, 0, 0]) ty24 ty3 rfl rfl rfl (by decide) ⟨rfl, ⟨rfl, ⟨rfl, ⟨rfl, trivial⟩⟩⟩⟩ (by omega) rfl ?_
                      intro w144 g143 hg145 hs146 hb147 hn148
                      have pw := pu_trans pw hn148
                      have hb5 := Bk.pu hb5 hn148
                      refine wl_v (st_build (cs := [.int .i64 (0), .int .i64 (0), .slice none 0 0]) (us := [(0, .int .i64 (2)), (1, .int .i64 (4)), (2, .slice (some ⟨g143, 0, none⟩) 4 4)]) ty72 pl72 rfl rfl rfl rfl) rfl rfl rfl ?_
                      refine wl_storeG (cs := [.int .i64 (2), .int .i64 (4), .slice (some ⟨g143, 0, none⟩) 4 4]) hb5 ty72 rfl rfl rfl rfl (all1 rfl (all1 rfl (all1 (Rep.one _ (Bl.sl hb147)) rfl))) ?_
                      intro w153 hb154 hg155 hs156
                      have pw := pu_row pw hg155 (by intro q hq hlt; simp at hq; omega)
                      have hb147 := Bl.ch hb147 hg155 (by intro q hq hlt; simp at hq; omega)
                      have hb5 := hb154
                      refine wl_v (st_assign (v := .bool (true)) rfl) rfl rfl rfl ?_
                      refine wl_nil ?_
                      refine wq_then ?_
                      refine wc_ret ?_
                      refine wq_block_ret ?_
                      refine wq_then_ret ?_
                      refine wq_ret2ct (cs := [.int .i64 (2), .int .i64 (4), .slice (some ⟨g143, 0, none⟩) 4 4]) (v := .bool (true)) rfl rfl rfl rfl ty72 rfl rfl (Bk.cells hb5) ?_
                      refine ⟨pw, ?_⟩
                      unfold fieldL
                      rw [if_neg (by omega)]
                      rw [if_neg (by omega)]
                      rw [if_neg (by omega)]
                      rw [if_neg (by omega)]
                      rw [if_pos (by omega)]
                      exact ⟨_, rfl, rI.mono (rI.lt (Bl.sl hb147)) fun b hb => hb.2⟩
                    · intro h142
                      have h142p : ¬ (q = 16) := by first | simpa using h142 | (simp at h142; omega)
                      refine wc_skip ?_
                      refine wq_block_normal ?_
                      refine wq_then ?_
                      refine wc_seq ?_
                      refine wc_region ?_
                      refine wl_v (st_build (cs := [.int .i64 (0), .int .i64 (0), .slice none 0 0]) (us := []) ty72 pl72 rfl rfl rfl rfl) rfl rfl rfl ?_
                      refine wl_storeG (cs := [.int .i64 (0), .int .i64 (0), .slice none 0 0]) hb5 ty72 rfl rfl rfl rfl (all1 rfl (all1 rfl (all1 rfl rfl))) ?_
                      intro w161 hb162 hg163 hs164
                      have pw := pu_row pw hg163 (by intro q hq hlt; simp at hq; omega)
                      have hb5 := hb162
                      refine wl_v (st_assign (v := .bool (false)) rfl) rfl rfl rfl ?_
                      refine wl_nil ?_
                      refine wq_then ?_
                      refine wc_ret ?_
                      refine wq_ret2ct (cs := [.int .i64 (0), .int .i64 (0), .slice none 0 0]) (v := .bool (false)) rfl rfl rfl rfl ty72 rfl rfl (Bk.cells hb5) ?_
                      refine ⟨pw, ?_⟩
                      unfold fieldL
                      rw [if_neg (by omega)]
                      rw [if_neg (by omega)]
                      rw [if_neg (by omega)]
                      rw [if_neg (by omega)]
                      rw [if_neg (by omega)]
                      

set_option maxRecDepth 100000 in
theorem digits_ok (p a : Int) (mn : Nat) (pv : Value) (w : World) (hp : 2 ≤ p ∧ p ≤ 13) (hm : mn ≤ 4) (ha : 0 ≤ a ∧ a ≤ 9223372036854775807) : Ret Tryd.prog 103 #[.agg #[.int .i64 p, .int .i64 (mn : Int), pv], .int .i64 a] w fun v w' => w.grownBy w' none ∧ Bl iR 3 w' w.heap.size w'.heap.size v (digitsL p mn a) := by
  refine ret_in Tryd.func103 rfl rfl rfl ?_
  have pw := pu_refl w
  refine wc_seq ?_
  refine wc_region ?_
  refine wl_boxG (cs := [.int .i64 (p), .int .i64 ((mn : Int)), pv]) rfl rfl ?_
  intro w2 g1 hg3 hs4 hb5 hn6
  have pw := pu_trans pw hn6
  refine wl_v (st_assign (v := .slice none 0 0) rfl) rfl rfl rfl ?_
  refine wl_nil ?_
  refine wq_then ?_
  refine wc_seq ?_
  refine wc_region ?_
  refine wl_v (st_fieldAddr ty72 (ft := 3) (off := 1) (by kernel_rfl) ty3 rfl) rfl rfl rfl ?_
  refine wl_v (st_load (v := .int .i64 ((mn : Int))) ty3 rfl rfl (Bk.cell hb5 (i := 1) rfl)) rfl rfl rfl ?_
  refine wl_makeB (r := iR) (0 : Int) ty24 ty3 rfl (fun _ => rfl) rfl rfl (by omega) (by omega) rfl ?_
  intro w8 g7 hg9 hs10 hb11 hn12
  simp only [Int.toNat_natCast] at hb11 ⊢
  have hlog7 : g7 < w8.heap.size := by omega
  have pw := pu_trans pw hn12
  have hb5 := Bk.pu hb5 hn12
  refine wl_v (st_assign (v := .slice (some ⟨g7, 0, none⟩) mn mn) rfl) rfl rfl rfl ?_
  refine wl_nil ?_
  refine wq_then ?_
  refine wc_seq ?_
  refine wc_seq ?_
  refine wc_region ?_
  refine wl_v (st_move (v := .slice (some ⟨g7, 0, none⟩) mn mn) rfl) rfl rfl rfl ?_
  refine wl_v (st_lenS (Bl.sl hb11) ty24 rfl) rfl rfl rfl ?_
  refine wl_v (st_move (v := .int .i64 (0)) rfl) rfl rfl rfl ?_
  refine wl_nil ?_
  refine wq_then ?_
  refine wc_block ?_
  have hl : (List.replicate mn (0:Int)).length = mn := by simp
  refine wc_loop (fun fl mm w' => ∃ k : Nat, ∃ ds : List Int, ∃ ak : Int, fl = [(1, .int .i64 (ak)), (2, .pointer (some ⟨g1, 0, none⟩)), (4, .slice none 0 0), (5, .slice (some ⟨g7, 0, none⟩) mn mn), (11, .int .i64 (((List.replicate mn (0 : Int)).length : Int))), (12, .int .i64 ((k : Int)))] ∧ mm = mn - k ∧ (k ≤ mn) ∧ (ds.length = k) ∧ (ds ++ digitsL p (mn - k) ak = digitsL p mn a) ∧ (0 ≤ ak ∧ ak ≤ 9223372036854775807) ∧ w.grownBy w' none ∧ Bk w' g1 72 [.int .i64 (p), .int .i64 ((mn : Int)), pv] ∧ Bl iR 3 w' (w2.heap.size) (w8.heap.size) (.slice (some ⟨g7, 0, none⟩) mn mn) (ds ++ List.replicate (mn - k) (0 : Int))) (h0 := ⟨0, [], a, rfl, rfl, ?_, ?_, ?_, ?_, pw, hb5, hb11⟩) (hf := ⟨(by first | rfl | exact congrArg (Value.int _) (by omega) | go_num), (by first | rfl | exact congrArg (Value.int _) (by omega) | go_num), (by first | rfl | exact congrArg (Value.int _) (by omega) | go_num), (by first | rfl | exact congrArg (Value.int _) (by omega) | go_num), (by first | rfl | exact congrArg (Value.int _) (by omega) | go_num), (by first | rfl | exact congrArg (Value.int _) (by omega) | go_num), trivial⟩) ?_
  · omega
  · rfl
  · rfl
  · omega
  · skip
    rintro _ _ w13 s14 ⟨k, ds, ak, rfl, rfl, p1_1, p1_2, p1_3, p1_4, pw, hb5, hb11⟩
    refine wc_seq ?_
    refine wc_region ?_
    refine wl_v (st_lss rfl rfl) rfl rfl rfl ?_
    refine wl_nil ?_
    refine wq_then ?_
    refine wc_seq ?_
    refine wc_cond rfl ?_ ?_
    · intro h15
      have h15p : (k : Int) < ((List.replicate mn (0 : Int)).length : Int) := by first | simpa using h15 | (simp at h15; omega)
      refine wc_skip ?_
      refine wq_then ?_
      refine wc_seq ?_
      refine wc_block ?_
      refine wc_seq ?_
      refine wc_region ?_
      refine wl_v (st_move (v := .int .i64 ((k : Int))) rfl) rfl rfl rfl ?_
      refine wl_v (st_assign (v := .int .i64 ((k : Int))) rfl) rfl rfl rfl ?_
      refine wl_nil ?_
      refine wq_then ?_
      refine wc_seq ?_
      refine wc_region ?_
      refine wl_v (st_move (v := .slice (some ⟨g7, 0, none⟩) mn mn) rfl) rfl rfl rfl ?_
      refine wl_v (st_move (v := .int .i64 ((k : Int))) rfl) rfl rfl rfl ?_
      refine wl_v (st_move (v := .int .i64 (ak)) rfl) rfl rfl rfl ?_
      refine wl_v (st_fieldAddr ty72 (ft := 3) (off := 0) (by kernel_rfl) ty3 rfl) rfl rfl rfl ?_
      refine wl_v (st_load (v := .int .i64 (p)) ty3 rfl rfl (Bk.cell hb5 (i := 0) rfl)) rfl rfl rfl ?_
      refine wl_v (st_rem rfl rfl (by omega) (by omega)) rfl rfl rfl ?_
      have hbdg19 : (k : Int) < (((ds ++ List.replicate (mn - k) (0 : Int)).length : Nat) : Int) := (by rw [List.length_append, List.length_replicate]; omega)
      refine wl_e (st_idxB hb11 ty24 ty3 rfl rfl (by omega) hbdg19) rfl rfl rfl ?_
      rintro _ ⟨g19, rfl, hv18, hc16⟩
      try simp only [Int.toNat_natCast, Int.toNat_zero, Int.reduceToNat] at hc16 ⊢
      refine wl_storeB (q := ak % p) hb11 ty3 rfl hv18 (by omega) rfl (fun _ _ => rfl) ?_
      intro w20 hb21 hg22 hs23
      have hown := Bl.own hb11 hv18
      have pw := pu_row pw hg22 (by intro q hq hlt; simp at hq; omega)
      have hb5 := Bk.ch hb5 hg22 (by intro hq; have hlt := hb5.lt; simp at hq; omega)
      have hb11 := hb21
      try simp only [Int.toNat_natCast, Int.toNat_zero, Int.reduceToNat] at hb11
      refine wl_nil ?_
      refine wq_then ?_
      refine wc_region ?_
      refine wl_v (st_move (v := .int .i64 (ak)) rfl) rfl rfl rfl ?_
      refine wl_v (st_fieldAddr ty72 (ft := 3) (off := 0) (by kernel_rfl) ty3 rfl) rfl rfl rfl ?_
      refine wl_v (st_load (v := .int .i64 (p)) ty3 rfl rfl (Bk.cell hb5 (i := 0) rfl)) rfl rfl rfl ?_
      refine wl_v (st_quo rfl rfl (by omega) (by omega) (by omega)) rfl rfl rfl ?_
      refine wl_v (st_assign (v := .int .i64 (ak / p)) rfl) rfl rfl rfl ?_
      refine wl_nil ?_
      refine wq_block_normal ?_
      refine wq_then ?_
      refine wc_region ?_
      refine wl_v (st_add rfl rfl (by omega) (by omega)) rfl rfl rfl ?_
      refine wl_v (st_move (v := .int .i64 ((k : Int) + 1)) rfl) rfl rfl rfl ?_
      refine wl_nil ?_
      refine wq_round (hI := ⟨k + 1, ds ++ [ak % p], ak / p, rfl, rfl, ?_, ?_, ?_, ?_, pw, hb5, (set_step ds mn k 0 (ak % p) (by omega) (by omega) ▸ hb11)⟩) (hm := ?_) (hf := ?_) rfl rfl
      · omega
      · (simp; omega)
      · (rw [show mn - k = (mn - (k + 1)) + 1 by omega, digitsL] at p1_3; rw [← p1_3]; simp)
      · (have h1 := Int.ediv_nonneg p1_4.1 (show 0 ≤ p by omega); have h2 := Int.ediv_le_self p p1_4.1; omega)
      · omega
      · exact ⟨(by first | rfl | exact congrArg (Value.int _) (by omega) | go_num), (by first | rfl | exact congrArg (Value.int _) (by omega) | go_num), (by first | rfl | exact congrArg (Value.int _) (by omega) | go_num), (by first | rfl | exact congrArg (Value.int _) (by omega) | go_num), (by first | rfl | exact congrArg (Value.int _) (by omega) | go_num), (by first | rfl | exact congrArg (Value.int _) (by omega) | go_num), trivial⟩
    · intro h15
      have h15p : ¬ ((k : Int) < ((List.replicate mn (0 : Int)).length : Int)) := by first | simpa using h15 | (simp at h15; omega)
      refine wc_exit ?_
      refine wq_then_exit ?_
      refine wq_then_exit ?_
      refine wq_block_exit ?_
      refine wq_then ?_
      refine wc_seq ?_
      refine wc_region ?_
      refine wl_v (st_move (v := .slice (some ⟨g7, 0, none⟩) mn mn) rfl) rfl rfl rfl ?_
      refine wl_v (st_assign (v := .slice (some ⟨g7, 0, none⟩) mn mn) rfl) rfl rfl rfl ?_
      refine wl_nil ?_
      refine wq_then ?_
      refine wc_ret ?_
      refine wq_ret1 (v := .slice (some ⟨g7, 0, none⟩) mn mn) rfl rfl rfl ?_
      have hk : mn - k = 0 := by omega
      rw [hk, digitsL, List.append_nil] at p1_3
      have hb11 := hb11
      rw [hk, List.replicate_zero, List.append_nil, p1_3] at hb11
      exact ⟨pw, (hb11.top (Nat.le_refl _)).lower (by omega)⟩

set_option maxRecDepth 100000 in
theorem backward1 (sv : Value) (w : World) (ho : sv.oneCell' = true) : Ret Tryd.prog 105 #[sv] w fun v w' => w.grownBy w' none ∧ ∃ g, v = .func (.func 115) #[] #[.pointer (some ⟨g, 0, none⟩)] ∧ Bk w' g 24 [sv] ∧ w.heap.size ≤ g ∧ g < w'.heap.size := by
  refine ret_in Tryd.func105 rfl rfl rfl ?_
  have pw := pu_refl w
  refine wc_seq ?_
  refine wc_region ?_
  refine wl_boxK (v := sv) rfl ho rfl ?_
  intro w2 g1 hg3 hs4 hb5 hn6
  have pw := pu_trans pw hn6
  refine wl_v (st_assign (v := .nilFunc) rfl) rfl rfl rfl ?_
  refine wl_nil ?_
  refine wq_then ?_
  refine wc_seq ?_
  refine wc_region ?_
  refine wl_v (st_makeFunc (va := []) (vb := [.pointer (some ⟨g1, 0, none⟩)]) rfl rfl) rfl rfl rfl ?_
  refine wl_v (st_assign (v := .func (.func 115) #[] #[.pointer (some ⟨g1, 0, none⟩)]) rfl) rfl rfl rfl ?_
  refine wl_nil ?_
  refine wq_then ?_
  refine wc_ret ?_
  refine wq_ret1 (v := .func (.func 115) #[] #[.pointer (some ⟨g1, 0, none⟩)]) rfl rfl rfl ?_
  exact ⟨pw, _, rfl, hb5, by omega, Bk.lt hb5⟩

set_option maxRecDepth 100000 in
theorem backward2 (lp g : Nat) (sv : Value) (S : Nat → Prop) (xs : List Int) (w : World) (I : Nat → World → Prop) (h0 : I 0 w) (hkeep : ∀ k w, I k w → Bk w g 24 [sv] ∧ rI.R w S sv xs) (hy : ∀ k w, k < xs.length → I k w → Yd Tryd.prog lp [.int .i64 ((xs.length - 1 - k : Nat) : Int), .int .i64 (xs.getD (xs.length - 1 - k) 0)] w (I (k + 1))) : Ret Tryd.prog 115 #[.func (.yield lp) #[] #[], .pointer (some ⟨g, 0, none⟩)] w fun _ w' => True ∧ I xs.length w' := by
  refine ret_in Tryd.func115 rfl rfl rfl ?_
  obtain ⟨hbk, hx⟩ := hkeep 0 w h0
  have hlen := SlR.le hx
  refine wc_seq ?_
  refine wc_region ?_
  refine wl_v (st_load (v := sv) ty24 rfl rfl (Bk.cell hbk (i := 0) rfl)) rfl rfl rfl ?_
  refine wl_v (st_lenS hx ty24 rfl) rfl rfl rfl ?_
  refine wl_v (st_sub rfl rfl (by omega) (by omega)) rfl rfl rfl ?_
  refine wl_v (st_assign (v := .int .i64 (((xs).length : Int) - 1)) rfl) rfl rfl rfl ?_
  refine wl_nil ?_
  refine wq_then ?_
  refine wc_block ?_
  refine wc_loop (fun fl mm w' => ∃ k : Nat, fl = [(0, .func (.yield lp) #[] #[]), (1, .pointer (some ⟨g, 0, none⟩)), (3, .int .i64 ((xs.length : Int) - 1 - (k : Int)))] ∧ mm = xs.length - k ∧ (k ≤ xs.length) ∧ I k w') (h0 := ⟨0, rfl, rfl, ?_, h0⟩) (hf := ⟨(by first | rfl | exact congrArg (Value.int _) (by omega) | go_num), (by first | rfl | exact congrArg (Value.int _) (by omega) | go_num), (by first | rfl | exact congrArg (Value.int _) (by omega) | go_num), trivial⟩) ?_
  · omega
  · skip
    rintro _ _ w1 s2 ⟨k, rfl, rfl, p1_1, hI⟩
    obtain ⟨hbk, hx⟩ := hkeep _ _ hI
    refine wc_seq ?_
    refine wc_seq ?_
    refine wc_region ?_
    refine wl_v (st_move (v := .int .i64 ((xs.length : Int) - 1 - (k : Int))) rfl) rfl rfl rfl ?_
    refine wl_v (st_geq rfl rfl) rfl rfl rfl ?_
    refine wl_nil ?_
    refine wq_then ?_
    refine wc_cond rfl ?_ ?_
    · intro h3
      have h3p : 0 ≤ ((xs.length : Int) - 1 - (k : Int)) := by first | simpa using h3 | (simp at h3; omega)
      refine wc_skip ?_
      refine wq_then ?_
      refine wc_seq ?_
      refine wc_block ?_
      refine wc_seq ?_
      refine wc_region ?_
      refine wl_v (st_move (v := .func (.yield lp) #[] #[]) rfl) rfl rfl rfl ?_
      refine wl_v (st_move (v := .int .i64 ((xs.length : Int) - 1 - (k : Int))) rfl) rfl rfl rfl ?_
      refine wl_v (st_load (v := sv) ty24 rfl rfl (Bk.cell hbk (i := 0) rfl)) rfl rfl rfl ?_
      refine wl_v (st_move (v := .int .i64 ((xs.length : Int) - 1 - (k : Int))) rfl) rfl rfl rfl ?_
      refine wl_e (st_idxI hx ty24 ty3 rfl rfl (by omega) (by omega)) rfl rfl rfl ?_
      rintro _ ⟨a5, rfl, hc4⟩
      refine wl_v (st_load ty3 rfl rfl hc4) rfl rfl rfl ?_
      refine wl_yield (vs := [.int .i64 ((xs.length : Int) - 1 - (k : Int)), .int .i64 ((xs).getD ((xs.length : Int) - 1 - (k : Int)).toNat 0)]) rfl rfl rfl (by have h := hy k _ (by omega) hI; rw [show xs.getD (xs.length - 1 - k) 0 = xs.getD ((xs.length : Int) - 1 - (k : Int)).toNat 0 by congr 1; omega, show ((xs.length - 1 - k : Nat) : Int) = (xs.length : Int) - 1 - (k : Int) by omega] at h; exact h) ?_
      intro w6 hI
      obtain ⟨hbk, hx⟩ := hkeep _ _ hI
      refine wl_v (st_not rfl) rfl rfl rfl ?_
      refine wl_nil ?_
      refine wq_then ?_
      refine wc_false rfl ?_
      refine wc_skip ?_
      refine wq_block_normal ?_
      refine wq_then ?_
      refine wc_region ?_
      refine wl_v (st_move (v := .int .i64 ((xs.length : Int) - 1 - (k : Int))) rfl) rfl rfl rfl ?_
      refine wl_v (st_sub rfl rfl (by omega) (by omega)) rfl rfl rfl ?_
      refine wl_v (st_assign (v := .int .i64 (((xs.length : Int) - 1 - (k : Int)) - 1)) rfl) rfl rfl rfl ?_
      refine wl_nil ?_
      refine wq_round (hI := ⟨k + 1, rfl, rfl, ?_, hI⟩) (hm := ?_) (hf := ?_) rfl rfl
      · omega
      · omega
      · exact ⟨(by first | rfl | exact congrArg (Value.int _) (by omega) | go_num), (by first | rfl | exact congrArg (Value.int _) (by omega) | go_num), (by first | rfl | exact congrArg (Value.int _) (by omega) | go_num), trivial⟩
    · intro h3
      have h3p : ¬ (0 ≤ ((xs.length : Int) - 1 - (k : Int))) := by first | simpa using h3 | (simp at h3; omega)
      refine wc_exit ?_
      refine wq_then_exit ?_
      refine wq_then_exit ?_
      refine wq_block_exit ?_
      refine wq_end0 rfl rfl ?_
      have hk : k = xs.length := by omega
      subst hk
      exact ⟨trivial, hI⟩

set_option maxRecDepth 100000 in
theorem number_ok (p : Int) (mn : Nat) (pv d : Value) (xs : List Int) (S : Nat → Prop) (w : World) (hp : 2 ≤ p ∧ p ≤ 13) (hl : xs.length ≤ 4) (hx0 : ∀ x ∈ xs, 0 ≤ x ∧ x ≤ 100000) (hx : rI.R w S d xs) : Ret Tryd.prog 104 #[.agg #[.int .i64 p, .int .i64 (mn : Int), pv], d] w fun v w' => v = .int .i64 (numberL p xs) ∧ w.grownBy w' none := by
  refine ret_inM Tryd.func104 rfl rfl rfl ?_
  have pw := pu_refl w
  have hx : rI.R w (Lo w.heap.size) d xs := rI.mono (rI.lt hx) (fun b hb => hb.2)
  refine wc_seq ?_
  refine wc_region ?_
  refine wl_boxG (cs := [.int .i64 (p), .int .i64 ((mn : Int)), pv]) rfl rfl ?_
  intro w2 g1 hg3 hs4 hb5 hn6
  have pw := pu_trans pw hn6
  have hx := Rep.pu hx hn6
  refine wl_v (st_assign (v := .int .i64 (0)) rfl) rfl rfl rfl ?_
  refine wl_nil ?_
  refine wq_then ?_
  refine wc_seq ?_
  refine wc_region ?_
  refine wl_allocK (cs := [.int .i64 (0)]) ty3 rfl rfl ?_
  intro w8 g7 hg9 hs10 hb11 hn12
  have pw := pu_trans pw hn12
  have hx := Rep.pu hx hn12
  have hb5 := Bk.pu hb5 hn12
  refine wl_storeK (v := .int .i64 (0)) hb11 ty3 (i := 0) rfl (by simp) rfl rfl ?_
  intro w13 hb14 hg15 hs16
  have pw := pu_row pw hg15 (by intro q hq hlt; simp at hq; omega)
  have hx := Rep.ch hx hg15 (by intro q hq hlt; (try simp only [Lo, Iv]); simp at hq; omega)
  have hb5 := Bk.ch hb5 hg15 (by intro hq; have hlt := hb5.lt; simp at hq; omega)
  have hb11 := hb14
  refine wl_nil ?_
  refine wq_then ?_
  refine wc_seq ?_
  refine wc_seq ?_
  refine wc_region ?_
  refine wl_v (st_move (v := d) rfl) rfl rfl rfl ?_
  refine wl_call (vs := [d]) C105 rfl rfl (backward1 (d) _ (Rep.one _ hx)) ?_
  rintro _ w21 ⟨hn22, g17, rfl, hb18, hz19, hz20⟩
  have pw := pu_trans pw hn22
  have hx := Rep.pu hx hn22
  have hb5 := Bk.pu hb5 hn22
  have hb11 := Bk.pu hb11 hn22
  have hzw21 := World.grownBy.size hn22
  refine wl_nil ?_
  refine wq_then ?_
  refine wc_block ?_
  have hze1 := World.grownBy.size pw
  refine wc_rangeFunc (ps := [10, 11]) (first := []) (cap := [.pointer (some ⟨g17, 0, none⟩)]) rfl rfl C115 ?_
  intro wr1 lp1 RR1 hRR1 hlp1 hgr1 hsr1 hdr1 hrec1
  have hgl_hb5_1 : g1 < lp1 := by have := Bk.lt hb5; omega
  have hgl_hb11_1 : g7 < lp1 := by have := Bk.lt hb11; omega
  have hgl_hb18_1 : g17 < lp1 := by have := Bk.lt hb18; omega
  have pw := pu_trans pw hgr1
  have hx := Rep.pu hx hgr1
  have hb5 := Bk.pu hb5 hgr1
  have hb11 := Bk.pu hb11 hgr1
  have hb18 := Bk.pu hb18 hgr1
  have hmk : Mk wr1 w21.heap.size lp1 [mark w21.heap.size] := ⟨_, by omega, by omega, rfl, hdr1, trivial⟩
  refine Ret.mono (backward2 lp1 g17 (d) (Lo w.heap.size) (xs) _ (fun (kk : Nat) (w' : World) => ∃ nn : Int, (nn = numberL p (xs.drop (xs.length - kk))) ∧ RR1 .ready w' ∧ w.grownBy w' none ∧ rI.R w' (Lo w.heap.size) (d) (xs) ∧ Bk w' g1 72 [.int .i64 (p), .int .i64 ((mn : Int)), pv] ∧ Bk w' g7 3 [.int .i64 (nn)] ∧ Bk w' g17 24 [d] ∧ Mk w' (w21.heap.size) (lp1) ([mark w21.heap.size])) ?h01 ?keep1 ?yd1) ?rest1
  case h01 =>
    refine ⟨0, ?_, hrec1, pw, hx, hb5, hb11, hb18, hmk⟩
    · (simp [numberL])
  case keep1 =>
    rintro kk w' ⟨nn, q1_1, hrec1, pw, hx, hb5, hb11, hb18, hmk⟩
    exact ⟨hb18, hx⟩
  case yd1 =>
    rintro kk w23 hkk ⟨nn, q1_1, hrec1, pw, hx, hb5, hb11, hb18, hmk⟩
    refine yd_of hRR1 hrec1 rfl rfl ?_
    have hnb := numberL_bd p hp (xs.drop (xs.length - kk))
    have hpw := pow_le4 p hp (xs.drop (xs.length - kk)).length (by simp; omega)
    rw [← q1_1] at hnb
    have hm := mul_bd hnb.1 (show nn ≤ 28561 by omega) (show 0 ≤ p by omega) hp.2
    have hxk := hx0 _ (getD_mem xs (xs.length - 1 - kk) (by omega))
    have hr1 := Int.emod_nonneg (xs.getD (xs.length - 1 - kk) 0) (show p ≠ 0 by omega)
    have hr2 := Int.emod_lt_of_pos (xs.getD (xs.length - 1 - kk) 0) (show 0 < p by omega)
    refine wc_region ?_
    refine wl_v (st_assign (v := .int .i64 ((xs).getD ((xs).length - 1 - kk) 0)) rfl) rfl rfl rfl ?_
    refine wl_nil ?_
    refine wq_begin hRR1 hrec1 rfl ?_
    intro w24 hg25 hs26 hrec1
    have pw := pu_row pw hg25 (by intro q hq hlt; injection hq with hq; omega)
    have hx := Rep.ch hx hg25 (by intro q hq hlt; injection hq with hq; (try simp only [Lo, Iv]); omega)
    have hb5 := Bk.ch hb5 hg25 (by intro hq; injection hq with hq; omega)
    have hb11 := Bk.ch hb11 hg25 (by intro hq; injection hq with hq; omega)
    have hb18 := Bk.ch hb18 hg25 (by intro hq; injection hq with hq; omega)
    have hmk := Mk.ch hmk hg25 (by intro q hq hlt; injection hq with hq; left; omega)
    refine wc_block ?_
    refine wc_region_mix (fun w' => (w24.drew).grownBy w' none) (fun k => (false) || Nat.ble 9 k) 9 (by kernel_rfl) (by kernel_rfl) (by kernel_rfl) ?_
    obtain ⟨w27, ew27⟩ : ∃ q, q = w24.drew := ⟨_, rfl⟩
    rw [← ew27]
    have hn28 : w24.grownBy w27 none := by rw [ew27]; exact ch_drew _
    have hsw27 : w27.heap.size = w24.heap.size := by rw [ew27]; rfl
    clear ew27
    have pw := pu_trans pw hn28
    have hx := Rep.pu hx hn28
    have hb5 := Bk.pu hb5 hn28
    have hb11 := Bk.pu hb11 hn28
    have hb18 := Bk.pu hb18 hn28
    have hmk := Mk.pu hmk hn28
    have hrec1 := RRpu hRR1 hrec1 hn28
    have pc29 := pu_refl w27
    refine wm_v rfl (fun _ => pc29) (fun w' hw' => (st_load (v := .int .i64 (nn)) ty3 rfl rfl (Bk.cell (Bk.pu hb11 hw') (i := 0) rfl))) rfl rfl rfl ?_
    refine wm_v rfl (fun _ => pc29) (fun w' hw' => (st_fieldAddr ty72 (ft := 3) (off := 0) (by kernel_rfl) ty3 rfl)) rfl rfl rfl ?_
    refine wm_v rfl (fun _ => pc29) (fun w' hw' => (st_load (v := .int .i64 (p)) ty3 rfl rfl (Bk.cell (Bk.pu hb5 hw') (i := 0) rfl))) rfl rfl rfl ?_
    refine wm_v rfl (fun _ => pc29) (fun w' hw' => (st_mul rfl rfl (by omega) (by omega))) rfl rfl rfl ?_
    refine wm_v rfl (fun _ => pc29) (fun w' hw' => (st_move (v := .int .i64 ((xs).getD ((xs).length - 1 - kk) 0)) rfl)) rfl rfl rfl ?_
    refine wm_v rfl (fun _ => pc29) (fun w' hw' => (st_fieldAddr ty72 (ft := 3) (off := 0) (by kernel_rfl) ty3 rfl)) rfl rfl rfl ?_
    refine wm_v rfl (fun _ => pc29) (fun w' hw' => (st_load (v := .int .i64 (p)) ty3 rfl rfl (Bk.cell (Bk.pu hb5 hw') (i := 0) rfl))) rfl rfl rfl ?_
    refine wm_v rfl (fun _ => pc29) (fun w' hw' => (st_rem rfl rfl (by omega) (by omega))) rfl rfl rfl ?_
    refine wm_v rfl (fun _ => pc29) (fun w' hw' => (st_add rfl rfl (by omega) (by omega))) rfl rfl rfl ?_
    refine wm_tail (by decide) (fun _ => pc29) (fun j hj => by have hb : Nat.ble 9 j = true := (by rw [Nat.ble_eq]; omega); simp [hb]) ?_
    refine wl_storeK (v := .int .i64 ((nn * p) + (((xs).getD ((xs).length - 1 - kk) 0) % p))) hb11 ty3 (i := 0) rfl (by simp) rfl rfl ?_
    intro w30 hb31 hg32 hs33
    have pw := pu_row pw hg32 (by intro q hq hlt; simp at hq; omega)
    have hx := Rep.ch hx hg32 (by intro q hq hlt; (try simp only [Lo, Iv]); simp at hq; omega)
    have hb5 := Bk.ch hb5 hg32 (by intro hq; have hlt := hb5.lt; simp at hq; omega)
    have hb18 := Bk.ch hb18 hg32 (by intro hq; have hlt := hb18.lt; simp at hq; omega)
    have hmk := Mk.ch hmk hg32 (by intro q hq hlt; simp at hq; omega)
    have hrec1 := RRch hRR1 hrec1 hg32 (by intro hq; simp at hq; omega)
    have hb11 := hb31
    refine wt_nil ?_
    refine wq_block_normal ?_
    refine wq_roundEnd hRR1 hrec1 ?_
    intro w34 hg35 hs36 hrec1
    have pw := pu_row pw hg35 (by intro q hq hlt; injection hq with hq; omega)
    have hx := Rep.ch hx hg35 (by intro q hq hlt; injection hq with hq; (try simp only [Lo, Iv]); omega)
    have hb5 := Bk.ch hb5 hg35 (by intro hq; injection hq with hq; omega)
    have hb11 := Bk.ch hb11 hg35 (by intro hq; injection hq with hq; omega)
    have hb18 := Bk.ch hb18 hg35 (by intro hq; injection hq with hq; omega)
    have hmk := Mk.ch hmk hg35 (by intro q hq hlt; injection hq with hq; left; omega)
    refine ⟨(nn * p + xs.getD (xs.length - 1 - kk) 0 % p), ?_, hrec1, pw, hx, hb5, hb11, hb18, hmk⟩
    · (rw [numberL_drop p xs (xs.length - (kk + 1)) (by omega), show xs.length - (kk + 1) + 1 = xs.length - kk by omega, ← q1_1, show xs.length - (kk + 1) = xs.length - 1 - kk by omega])
  case rest1 =>
    rintro _ w37 ⟨-, hIr⟩
    obtain ⟨kk, hkn, nn, q1_1, hrec1, pw, hx, hb5, hb11, hb18, hmk⟩ : ∃ kk : Nat, kk = (xs).length ∧ (fun (kk : Nat) (w' : World) => ∃ nn : Int, (nn = numberL p (xs.drop (xs.length - kk))) ∧ RR1 .ready w' ∧ w.grownBy w' none ∧ rI.R w' (Lo w.heap.size) (d) (xs) ∧ Bk w' g1 72 [.int .i64 (p), .int .i64 ((mn : Int)), pv] ∧ Bk w' g7 3 [.int .i64 (nn)] ∧ Bk w' g17 24 [d] ∧ Mk w' (w21.heap.size) (lp1) ([mark w21.heap.size])) kk w37 := ⟨_, rfl, hIr⟩
    refine ⟨hrec1, ?_⟩
    intro w38 hg39 hs40
    have pw := pu_row pw hg39 (by intro q hq hlt; injection hq with hq; omega)
    have hx := Rep.ch hx hg39 (by intro q hq hlt; injection hq with hq; (try simp only [Lo, Iv]); omega)
    have hb5 := Bk.ch hb5 hg39 (by intro hq; injection hq with hq; omega)
    have hb11 := Bk.ch hb11 hg39 (by intro hq; injection hq with hq; omega)
    have hb18 := Bk.ch hb18 hg39 (by intro hq; injection hq with hq; omega)
    have hmk := Mk.ch hmk hg39 (by intro q hq hlt; injection hq with hq; left; omega)
    refine wq_block_normal ?_
    refine wq_then ?_
    refine wc_seq ?_
    refine wc_region ?_
    refine wl_v (st_load (v := .int .i64 (nn)) ty3 rfl rfl (Bk.cell hb11 (i := 0) rfl)) rfl rfl rfl ?_
    refine wl_v (st_assign (v := .int .i64 (nn)) rfl) rfl rfl rfl ?_
    refine wl_nil ?_
    refine wq_then ?_
    refine wc_ret ?_
    have hzw := World.grownBy.size pw
    refine wq_ret1M (v := .int .i64 (nn)) rfl hmk rfl ?_
    intro w41 hb42
    have pw := pu_below2 pw hb42 (by omega)
    have hx := Rep.belowS hx hb42 (by intro b hb1 hb2; simp only [Lo, Iv] at hb1; omega)
    exact ⟨congrArg (Value.int .i64) (by rw [q1_1, hkn, Nat.sub_self, List.drop_zero]), pw⟩

set_option maxRecDepth 100000 in
theorem add_ok (p a b : Int) (mn : Nat) (pv : Value) (w : World) (hp : 2 ≤ p ∧ p ≤ 13) (hm : mn ≤ 4) (ha : 0 ≤ a ∧ a ≤ 9223372036854775807) (hb : 0 ≤ b ∧ b ≤ 9223372036854775807) : Ret Tryd.prog 57 #[.agg #[.int .i64 p, .int .i64 (mn : Int), pv], .int .i64 a, .int .i64 b] w fun v w' => v = .int .i64 (addL p mn a b) ∧ w.grownBy w' none := by
  refine ret_in Tryd.func57 rfl rfl rfl ?_
  have pw := pu_refl w
  refine wc_seq ?_
  refine wc_region ?_
  refine wl_boxG (cs := [.int .i64 (p), .int .i64 ((mn : Int)), pv]) rfl rfl ?_
  intro w2 g1 hg3 hs4 hb5 hn6
  have pw := pu_trans pw hn6
  refine wl_v (st_assign (v := .int .i64 (0)) rfl) rfl rfl rfl ?_
  refine wl_nil ?_
  refine wq_then ?_
  refine wc_seq ?_
  refine wc_region_mix (fun w' => (w2.drew).grownBy w' none) (fun k => (false || Nat.beq k 2 || Nat.beq k 5) || Nat.ble 8 k) 8 (by kernel_rfl) (by kernel_rfl) (by kernel_rfl) ?_
  obtain ⟨w7, ew7⟩ : ∃ q, q = w2.drew := ⟨_, rfl⟩
  rw [← ew7]
  have hn8 : w2.grownBy w7 none := by rw [ew7]; exact ch_drew _
  have hsw7 : w7.heap.size = w2.heap.size := by rw [ew7]; rfl
  clear ew7
  have pw := pu_trans pw hn8
  have hb5 := Bk.pu hb5 hn8
  have pc9 := pu_refl w7
  refine wm_v rfl (fun _ => pc9) (fun w' hw' => (st_loadAgg (cs := [.int .i64 (p), .int .i64 ((mn : Int)), pv]) ty72 rfl rfl rfl (Bk.cells (Bk.pu hb5 hw')))) rfl rfl rfl ?_
  refine wm_v rfl (fun _ => pc9) (fun w' hw' => (st_move (v := .int .i64 (a)) rfl)) rfl rfl rfl ?_
  refine wm_call (vs := [.agg #[.int .i64 (p), .int .i64 ((mn : Int)), pv], .int .i64 (a)]) rfl (fun _ => pc9) C103 rfl rfl (digits_ok (p) (a) (mn) (pv) _ (by omega) (by omega) (by omega)) ?_
  rintro v11 w12 ⟨hn13, hd10⟩
  have pc9 := hn13
  have hzw12 := World.grownBy.size hn13
  refine wm_v rfl (fun _ => pc9) (fun w' hw' => (st_loadAgg (cs := [.int .i64 (p), .int .i64 ((mn : Int)), pv]) ty72 rfl rfl rfl (Bk.cells (Bk.pu hb5 hw')))) rfl rfl rfl ?_
  refine wm_v rfl (fun _ => pc9) (fun w' hw' => (st_move (v := .int .i64 (b)) rfl)) rfl rfl rfl ?_
  refine wm_call (vs := [.agg #[.int .i64 (p), .int .i64 ((mn : Int)), pv], .int .i64 (b)]) rfl (fun _ => pc9) C103 rfl rfl (digits_ok (p) (b) (mn) (pv) _ (by omega) (by omega) (by omega)) ?_
  rintro v15 w16 ⟨hn17, hd14⟩
  have pc9 := pu_trans pc9 hn17
  have hd10 := Bl.pu hd10 hn17
  have hzw16 := World.grownBy.size hn17
  refine wm_v rfl (fun _ => pc9) (fun w' hw' => (st_assign (v := v11) rfl)) rfl rfl rfl ?_
  refine wm_v rfl (fun _ => pc9) (fun w' hw' => (st_assign (v := v15) rfl)) rfl rfl rfl ?_
  refine wm_nil (fun _ => pc9) ?_
  have pw := pu_trans pw pc9
  have hb5 := Bk.pu hb5 pc9
  refine wq_then ?_
  refine wc_seq ?_
  refine wc_seq ?_
  refine wc_region ?_
  refine wl_v (st_move (v := v11) rfl) rfl rfl rfl ?_
  refine wl_v (st_lenS (Bl.sl hd10) ty24 rfl) rfl rfl rfl ?_
  refine wl_v (st_move (v := .int .i64 (0)) rfl) rfl rfl rfl ?_
  refine wl_nil ?_
  refine wq_then ?_
  refine wc_block ?_
  have hl := digitsL_len p mn a
  have hl2 := digitsL_len p mn b
  refine wc_loop (fun fl mm w' => ∃ k : Nat, fl = [(3, .pointer (some ⟨g1, 0, none⟩)), (6, .int .i64 (0)), (7, v11), (8, v15), (17, .int .i64 (((digitsL (p) (mn) (a)).length : Int))), (18, .int .i64 ((k : Int)))] ∧ mm = mn - k ∧ (k ≤ mn) ∧ w.grownBy w' none ∧ Bk w' g1 72 [.int .i64 (p), .int .i64 ((mn : Int)), pv] ∧ Bl iR 3 w' (w7.heap.size) (w12.heap.size) (v11) (addGo (digitsL p mn a) (digitsL p mn b) k) ∧ Bl iR 3 w' (w12.heap.size) (w16.heap.size) (v15) (digitsL (p) (mn) (b))) (h0 := ⟨0, rfl, rfl, ?_, pw, hb5, (by rw [addGo_zero]; exact hd10), hd14⟩) (hf := ⟨(by first | rfl | exact congrArg (Value.int _) (by omega) | go_num), (by first | rfl | exact congrArg (Value.int _) (by omega) | go_num), (by first | rfl | exact congrArg (Value.int _) (by omega) | go_num), (by first | rfl | exact congrArg (Value.int _) (by omega) | go_num), (by first | rfl | exact congrArg (Value.int _) (by omega) | go_num), (by first | rfl | exact congrArg (Value.int _) (by omega) | go_num), trivial⟩) ?_
  · omega
  · skip
    rintro _ _ w18 s19 ⟨k, rfl, rfl, p1_1, pw, hb5, hd10, hd14⟩
    refine wc_seq ?_
    refine wc_region ?_
    refine wl_v (st_lss rfl rfl) rfl rfl rfl ?_
    refine wl_nil ?_
    refine wq_then ?_
    refine wc_seq ?_
    refine wc_cond rfl ?_ ?_
    · intro h20
      have h20p : (k : Int) < ((digitsL (p) (mn) (a)).length : Int) := by first | simpa using h20 | (simp at h20; omega)
      refine wc_skip ?_
      refine wq_then ?_
      refine wc_seq ?_
      refine wc_block ?_
      refine wc_seq ?_
      refine wc_region ?_
      refine wl_v (st_move (v := .int .i64 ((k : Int))) rfl) rfl rfl rfl ?_
      refine wl_v (st_assign (v := .int .i64 ((k : Int))) rfl) rfl rfl rfl ?_
      refine wl_nil ?_
      refine wq_then ?_
      refine wc_region_mix (fun w' => (w18.drew).grownBy w' none) (fun k => (false) || Nat.ble 10 k) 10 (by kernel_rfl) (by kernel_rfl) (by kernel_rfl) ?_
      obtain ⟨w21, ew21⟩ : ∃ q, q = w18.drew := ⟨_, rfl⟩
      rw [← ew21]
      have hn22 : w18.grownBy w21 none := by rw [ew21]; exact ch_drew _
      have hsw21 : w21.heap.size = w18.heap.size := by rw [ew21]; rfl
      clear ew21
      have pw := pu_trans pw hn22
      have hb5 := Bk.pu hb5 hn22
      have hd10 := Bl.pu hd10 hn22
      have hd14 := Bl.pu hd14 hn22
      have pc23 := pu_refl w21
      refine wm_v rfl (fun _ => pc23) (fun w' hw' => (st_move (v := v11) rfl)) rfl rfl rfl ?_
      refine wm_v rfl (fun _ => pc23) (fun w' hw' => (st_move (v := .int .i64 ((k : Int))) rfl)) rfl rfl rfl ?_
      have hbdg27 : (k : Int) < (((addGo (digitsL p mn a) (digitsL p mn b) k).length : Nat) : Int) := (by have h1 := addD_len p mn a b k (by omega); omega)
      refine wm_e rfl (fun _ => pc23) (st_idxB hd10 ty24 ty3 rfl rfl (by omega) hbdg27) rfl rfl rfl ?_
      rintro _ ⟨g27, rfl, hv26, hc24⟩
      try simp only [Int.toNat_natCast, Int.toNat_zero, Int.reduceToNat] at hc24 ⊢
      refine wm_v rfl (fun _ => pc23) (fun w' hw' => (st_load ty3 rfl rfl (cell_pu hw' hc24))) rfl rfl rfl ?_
      refine wm_v rfl (fun _ => pc23) (fun w' hw' => (st_move (v := v15) rfl)) rfl rfl rfl ?_
      refine wm_v rfl (fun _ => pc23) (fun w' hw' => (st_move (v := .int .i64 ((k : Int))) rfl)) rfl rfl rfl ?_
      refine wm_e rfl (fun _ => pc23) (st_idxI (Bl.sl hd14) ty24 ty3 rfl rfl (by omega) (by omega)) rfl rfl rfl ?_
      rintro _ ⟨a29, rfl, hc28⟩
      simp only [Int.toNat_natCast] at hc28
      refine wm_v rfl (fun _ => pc23) (fun w' hw' => (st_load ty3 rfl rfl (cell_pu hw' hc28))) rfl rfl rfl ?_
      refine wm_v rfl (fun _ => pc23) (fun w' hw' => (st_add rfl rfl (by have h1 := addD_getD p mn a b k (by omega); have h2 := digitsL_at p hp mn a k (by omega); have h3 := digitsL_at p hp mn b k (by omega); omega) (by have h1 := addD_getD p mn a b k (by omega); have h2 := digitsL_at p hp mn a k (by omega); have h3 := digitsL_at p hp mn b k (by omega); omega))) rfl rfl rfl ?_
      have hbdg33 : (k : Int) < (((addGo (digitsL p mn a) (digitsL p mn b) k).length : Nat) : Int) := (by have h1 := addD_len p mn a b k (by omega); omega)
      refine wm_e rfl (fun _ => pc23) (st_idxB hd10 ty24 ty3 rfl rfl (by omega) hbdg33) rfl rfl rfl ?_
      rintro _ ⟨g33, rfl, hv32, hc30⟩
      try simp only [Int.toNat_natCast, Int.toNat_zero, Int.reduceToNat] at hc30 ⊢
      refine wm_tail (by decide) (fun _ => pc23) (fun j hj => by have hb : Nat.ble 10 j = true := (by rw [Nat.ble_eq]; omega); simp [hb]) ?_
      refine wl_storeB (q := ((addGo (digitsL p mn a) (digitsL p mn b) k).getD k 0) + ((digitsL (p) (mn) (b)).getD k 0)) hd10 ty3 rfl hv32 (by omega) rfl (fun _ _ => rfl) ?_
      intro w34 hb35 hg36 hs37
      have hown := Bl.own hd10 hv32
      have pw := pu_row pw hg36 (by intro q hq hlt; simp at hq; omega)
      have hb5 := Bk.ch hb5 hg36 (by intro hq; have hlt := hb5.lt; simp at hq; omega)
      have hd14 := Bl.ch hd14 hg36 (by intro q hq hlt; simp at hq; omega)
      have hd10 := hb35
      try simp only [Int.toNat_natCast, Int.toNat_zero, Int.reduceToNat] at hd10
      refine wt_nil ?_
      refine wq_block_normal ?_
      refine wq_then ?_
      refine wc_region ?_
      refine wl_v (st_add rfl rfl (by omega) (by omega)) rfl rfl rfl ?_
      refine wl_v (st_move (v := .int .i64 ((k : Int) + 1)) rfl) rfl rfl rfl ?_
      refine wl_nil ?_
      refine wq_round (hI := ⟨k + 1, rfl, rfl, ?_, pw, hb5, (addD_set p mn a b k (by omega) ▸ hd10), hd14⟩) (hm := ?_) (hf := ?_) rfl rfl
      · omega
      · omega
      · exact ⟨(by first | rfl | exact congrArg (Value.int _) (by omega) | go_num), (by first | rfl | exact congrArg (Value.int _) (by omega) | go_num), (by first | rfl | exact congrArg (Value.int _) (by omega) | go_num), (by first | rfl | exact congrArg (Value.int _) (by omega) | go_num), (by first | rfl | exact congrArg (Value.int _) (by omega) | go_num), (by first | rfl | exact congrArg (Value.int _) (by omega) | go_num), trivial⟩
    · intro h20
      have h20p : ¬ ((k : Int) < ((digitsL (p) (mn) (a)).length : Int)) := by first | simpa using h20 | (simp at h20; omega)
      refine wc_exit ?_
      refine wq_then_exit ?_
      refine wq_then_exit ?_
      refine wq_block_exit ?_
      refine wq_then ?_
      refine wc_seq ?_
      refine wc_region ?_
      refine wl_v (st_loadAgg (cs := [.int .i64 (p), .int .i64 ((mn : Int)), pv]) ty72 rfl rfl rfl (Bk.cells hb5)) rfl rfl rfl ?_
      refine wl_v (st_move (v := v11) rfl) rfl rfl rfl ?_
      refine wl_call (vs := [.agg #[.int .i64 (p), .int .i64 ((mn : Int)), pv], v11]) C104 rfl rfl (number_ok (p) (mn) (pv) _ _ _ _ (by omega) (by rw [addD_len p mn a b k (by omega)]; omega) (addD_bd p hp mn a b k) (Bl.sl hd10)) ?_
      rintro _ w38 ⟨rfl, hn39⟩
      have pw := pu_trans pw hn39
      have hb5 := Bk.pu hb5 hn39
      have hd10 := Bl.pu hd10 hn39
      have hd14 := Bl.pu hd14 hn39
      have hzw38 := World.grownBy.size hn39
      refine wl_v (st_assign (v := .int .i64 (numberL (p) (addGo (digitsL p mn a) (digitsL p mn b) k))) rfl) rfl rfl rfl ?_
      refine wl_nil ?_
      refine wq_then ?_
      refine wc_ret ?_
      refine wq_ret1 (v := .int .i64 (numberL (p) (addGo (digitsL p mn a) (digitsL p mn b) k))) rfl rfl rfl ?_
      have hk : k = mn := by omega
      subst hk
      have he := addGo_all (digitsL p k a) (digitsL p k b) (by rw [digitsL_len, digitsL_len])
      rw [digitsL_len] at he
      exact ⟨congrArg (Value.int .i64) (by rw [he]; rfl), pw⟩

set_option maxRecDepth 100000 in
theorem mul_ok (p a b : Int) (mn : Nat) (pv : Value) (pl : List Int) (S : Nat → Prop) (w : World) (hp : 2 ≤ p ∧ p ≤ 13) (hm : 1 ≤ mn ∧ mn ≤ 4) (ha : 0 ≤ a ∧ a ≤ 1000) (hb : 0 ≤ b ∧ b ≤ 1000) (hpl : pl.length = mn) (hpb : ∀ x ∈ pl, 0 ≤ x ∧ x ≤ 12) (hpv : rI.R w S pv pl) : Ret Tryd.prog 58 #[.agg #[.int .i64 p, .int .i64 (mn : Int), pv], .int .i64 a, .int .i64 b] w fun v w' => v = .int .i64 (mulL p mn pl a b) ∧ w.grownBy w' none := by
  refine ret_inM Tryd.func58 rfl rfl rfl ?_
  have pw := pu_refl w
  have hpv : rI.R w (Lo w.heap.size) pv pl := rI.mono (rI.lt hpv) (fun b hb => hb.2)
  have hab := mul_bd ha.1 ha.2 hb.1 hb.2
  refine wc_seq ?_
  refine wc_region ?_
  refine wl_boxG (cs := [.int .i64 (p), .int .i64 ((mn : Int)), pv]) rfl rfl ?_
  intro w2 g1 hg3 hs4 hb5 hn6
  have pw := pu_trans pw hn6
  have hpv := Rep.pu hpv hn6
  refine wl_v (st_assign (v := .int .i64 (0)) rfl) rfl rfl rfl ?_
  refine wl_nil ?_
  refine wq_then ?_
  refine wc_seq ?_
  refine wc_seq ?_
  refine wc_region ?_
  refine wl_v (st_fieldAddr ty72 (ft := 3) (off := 1) (by kernel_rfl) ty3 rfl) rfl rfl rfl ?_
  refine wl_v (st_load (v := .int .i64 ((mn : Int))) ty3 rfl rfl (Bk.cell hb5 (i := 1) rfl)) rfl rfl rfl ?_
  refine wl_v (st_eql rfl rfl) rfl rfl rfl ?_
  refine wl_nil ?_
  refine wq_then ?_
  refine wc_cond rfl ?_ ?_
  · intro h7
    have h7p : (mn : Int) = 1 := by first | simpa using h7 | (simp at h7; omega)
    refine wc_seq ?_
    refine wc_region ?_
    refine wl_v (st_move (v := .int .i64 (a)) rfl) rfl rfl rfl ?_
    refine wl_v (st_move (v := .int .i64 (b)) rfl) rfl rfl rfl ?_
    refine wl_v (st_mul rfl rfl (by omega) (by omega)) rfl rfl rfl ?_
    refine wl_v (st_fieldAddr ty72 (ft := 3) (off := 0) (by kernel_rfl) ty3 rfl) rfl rfl rfl ?_
    refine wl_v (st_load (v := .int .i64 (p)) ty3 rfl rfl (Bk.cell hb5 (i := 0) rfl)) rfl rfl rfl ?_
    refine wl_v (st_rem rfl rfl (by omega) (by omega)) rfl rfl rfl ?_
    refine wl_v (st_assign (v := .int .i64 ((a * b) % p)) rfl) rfl rfl rfl ?_
    refine wl_nil ?_
    refine wq_then ?_
    refine wc_ret ?_
    refine wq_then_ret ?_
    have hmk := Mk.nil w2 w2.heap.size 0
    have hzw := World.grownBy.size pw
    refine wq_ret1M (v := .int .i64 ((a * b) % p)) rfl hmk rfl ?_
    intro w8 hb9
    have pw := pu_below2 pw hb9 (by omega)
    have hpv := Rep.belowS hpv hb9 (by intro b hb1 hb2; simp only [Lo, Iv] at hb1; omega)
    exact ⟨congrArg (Value.int .i64) (by rw [mulL, if_pos (by omega)]), pw⟩
  · intro h7
    have h7p : ¬ ((mn : Int) = 1) := by first | simpa using h7 | (simp at h7; omega)
    refine wc_skip ?_
    refine wq_then ?_
    refine wc_seq ?_
    refine wc_region ?_
    refine wl_v (st_loadAgg (cs := [.int .i64 (p), .int .i64 ((mn : Int)), pv]) ty72 rfl rfl rfl (Bk.cells hb5)) rfl rfl rfl ?_
    refine wl_v (st_move (v := .int .i64 (a)) rfl) rfl rfl rfl ?_
    refine wl_call (vs := [.agg #[.int .i64 (p), .int .i64 ((mn : Int)), pv], .int .i64 (a)]) C103 rfl rfl (digits_ok (p) (a) (mn) (pv) _ (by omega) (by omega) (by omega)) ?_
    rintro v11 w12 ⟨hn13, hd10⟩
    have pw := pu_trans pw hn13
    have hpv := Rep.pu hpv hn13
    have hb5 := Bk.pu hb5 hn13
    have hzw12 := World.grownBy.size hn13
    refine wl_allocK (cs := [.slice none 0 0]) ty24 rfl rfl ?_
    intro w15 g14 hg16 hs17 hb18 hn19
    have pw := pu_trans pw hn19
    have hpv := Rep.pu hpv hn19
    have hb5 := Bk.pu hb5 hn19
    have hd10 := Bl.pu hd10 hn19
    refine wl_storeK (v := v11) hb18 ty24 (i := 0) rfl (by simp) rfl (Rep.one _ (Bl.sl hd10)) ?_
    intro w20 hb21 hg22 hs23
    have pw := pu_row pw hg22 (by intro q hq hlt; simp at hq; omega)
    have hpv := Rep.ch hpv hg22 (by intro q hq hlt; (try simp only [Lo, Iv]); simp at hq; omega)
    have hb5 := Bk.ch hb5 hg22 (by intro hq; have hlt := hb5.lt; simp at hq; omega)
    have hd10 := Bl.ch hd10 hg22 (by intro q hq hlt; simp at hq; omega)
    have hb18 := hb21
    refine wl_nil ?_
    refine wq_then ?_
    refine wc_seq ?_
    refine wc_region ?_
    refine wl_v (st_fieldAddr ty72 (ft := 3) (off := 1) (by kernel_rfl) ty3 rfl) rfl rfl rfl ?_
    refine wl_v (st_load (v := .int .i64 ((mn : Int))) ty3 rfl rfl (Bk.cell hb5 (i := 1) rfl)) rfl rfl rfl ?_
    refine wl_makeB (r := iR) (0 : Int) ty24 ty3 rfl (fun _ => rfl) rfl rfl (by omega) (by omega) rfl ?_
    intro w25 g24 hg26 hs27 hb28 hn29
    simp only [Int.toNat_natCast] at hb28 ⊢
    have hlog24 : g24 < w25.heap.size := by omega
    have pw := pu_trans pw hn29
    have hpv := Rep.pu hpv hn29
    have hb5 := Bk.pu hb5 hn29
    have hd10 := Bl.pu hd10 hn29
    have hb18 := Bk.pu hb18 hn29
    refine wl_allocK (cs := [.slice none 0 0]) ty24 rfl rfl ?_
    intro w31 g30 hg32 hs33 hb34 hn35
    have pw := pu_trans pw hn35
    have hpv := Rep.pu hpv hn35
    have hb5 := Bk.pu hb5 hn35
    have hd10 := Bl.pu hd10 hn35
    have hb18 := Bk.pu hb18 hn35
    have hb28 := Bl.pu hb28 hn35
    refine wl_storeK (v := .slice (some ⟨g24, 0, none⟩) mn mn) hb34 ty24 (i := 0) rfl (by simp) rfl (Rep.one _ (Bl.sl hb28)) ?_
    intro w36 hb37 hg38 hs39
    have pw := pu_row pw hg38 (by intro q hq hlt; simp at hq; omega)
    have hpv := Rep.ch hpv hg38 (by intro q hq hlt; (try simp only [Lo, Iv]); simp at hq; omega)
    have hb5 := Bk.ch hb5 hg38 (by intro hq; have hlt := hb5.lt; simp at hq; omega)
    have hd10 := Bl.ch hd10 hg38 (by intro q hq hlt; simp at hq; omega)
    have hb18 := Bk.ch hb18 hg38 (by intro hq; have hlt := hb18.lt; simp at hq; omega)
    have hb28 := Bl.ch hb28 hg38 (by intro q hq hlt; simp at hq; omega)
    have hb34 := hb37
    refine wl_nil ?_
    refine wq_then ?_
    refine wc_seq ?_
    refine wc_seq ?_
    refine wc_region ?_
    refine wl_v (st_loadAgg (cs := [.int .i64 (p), .int .i64 ((mn : Int)), pv]) ty72 rfl rfl rfl (Bk.cells hb5)) rfl rfl rfl ?_
    refine wl_v (st_move (v := .int .i64 (b)) rfl) rfl rfl rfl ?_
    refine wl_call (vs := [.agg #[.int .i64 (p), .int .i64 ((mn : Int)), pv], .int .i64 (b)]) C103 rfl rfl (digits_ok (p) (b) (mn) (pv) _ (by omega) (by omega) (by omega)) ?_
    rintro v41 w42 ⟨hn43, hd40⟩
    have pw := pu_trans pw hn43
    have hpv := Rep.pu hpv hn43
    have hb5 := Bk.pu hb5 hn43
    have hd10 := Bl.pu hd10 hn43
    have hb18 := Bk.pu hb18 hn43
    have hb28 := Bl.pu hb28 hn43
    have hb34 := Bk.pu hb34 hn43
    have hzw42 := World.grownBy.size hn43
    refine wl_call (vs := [v41]) C105 rfl rfl (backward1 (v41) _ (Rep.one _ (Bl.sl hd40))) ?_
    rintro _ w48 ⟨hn49, g44, rfl, hb45, hz46, hz47⟩
    have pw := pu_trans pw hn49
    have hpv := Rep.pu hpv hn49
    have hb5 := Bk.pu hb5 hn49
    have hd10 := Bl.pu hd10 hn49
    have hb18 := Bk.pu hb18 hn49
    have hb28 := Bl.pu hb28 hn49
    have hb34 := Bk.pu hb34 hn49
    have hd40 := Bl.pu hd40 hn49
    have hzw48 := World.grownBy.size hn49
    refine wl_nil ?_
    refine wq_then ?_
    refine wc_block ?_
    have hze1 := World.grownBy.size pw
    refine wc_rangeFunc (ps := [32, 33]) (first := []) (cap := [.pointer (some ⟨g44, 0, none⟩)]) rfl rfl C115 ?_
    intro wr1 lp1 RR1 hRR1 hlp1 hgr1 hsr1 hdr1 hrec1
    have hgl_hb5_1 : g1 < lp1 := by have := Bk.lt hb5; omega
    have hgl_hb18_1 : g14 < lp1 := by have := Bk.lt hb18; omega
    have hgl_hb34_1 : g30 < lp1 := by have := Bk.lt hb34; omega
    have hgl_hb45_1 : g44 < lp1 := by have := Bk.lt hb45; omega
    have pw := pu_trans pw hgr1
    have hpv := Rep.pu hpv hgr1
    have hb5 := Bk.pu hb5 hgr1
    have hd10 := Bl.pu hd10 hgr1
    have hb18 := Bk.pu hb18 hgr1
    have hb28 := Bl.pu hb28 hgr1
    have hb34 := Bk.pu hb34 hgr1
    have hd40 := Bl.pu hd40 hgr1
    have hb45 := Bk.pu hb45 hgr1
    have hmk : Mk wr1 w48.heap.size lp1 [mark w48.heap.size] := ⟨_, by omega, by omega, rfl, hdr1, trivial⟩
    refine Ret.mono (backward2 lp1 g44 (v41) (Iv (w36.heap.size) (w42.heap.size)) (digitsL (p) (mn) (b)) _ (fun (kk : Nat) (w' : World) => ∃ out : List Int, (out.length = mn) ∧ (∀ x ∈ out, 0 ≤ x ∧ x ≤ 12) ∧ (out = ((digitsL p mn b).drop ((digitsL p mn b).length - kk)).foldr (mulStep p pl (digitsL p mn a)) (List.replicate mn 0)) ∧ RR1 .ready w' ∧ w.grownBy w' none ∧ rI.R w' (Lo w.heap.size) (pv) (pl) ∧ Bk w' g1 72 [.int .i64 (p), .int .i64 ((mn : Int)), pv] ∧ Bl iR 3 w' (w2.heap.size) (w12.heap.size) (v11) (digitsL (p) (mn) (a)) ∧ Bk w' g14 24 [v11] ∧ Bl iR 3 w' (w20.heap.size) (w25.heap.size) (.slice (some ⟨g24, 0, none⟩) mn mn) (out) ∧ Bk w' g30 24 [.slice (some ⟨g24, 0, none⟩) mn mn] ∧ Bl iR 3 w' (w36.heap.size) (w42.heap.size) (v41) (digitsL (p) (mn) (b)) ∧ Bk w' g44 24 [v41] ∧ Mk w' (w48.heap.size) (lp1) ([mark w48.heap.size])) ?h01 ?keep1 ?yd1) ?rest1
    case h01 =>
      refine ⟨(List.replicate mn 0), ?_, ?_, ?_, hrec1, pw, hpv, hb5, hd10, hb18, hb28, hb34, hd40, hb45, hmk⟩
      · (simp)
      · (intro x hx; have := List.eq_of_mem_replicate hx; omega)
      · (simp)
    case keep1 =>
      rintro kk w' ⟨out, q1_1, q1_2, q1_3, hrec1, pw, hpv, hb5, hd10, hb18, hb28, hb34, hd40, hb45, hmk⟩
      exact ⟨hb45, (Bl.sl hd40)⟩
    case yd1 =>
      rintro kk w50 hkk ⟨out, q1_1, q1_2, q1_3, hrec1, pw, hpv, hb5, hd10, hb18, hb28, hb34, hd40, hb45, hmk⟩
      refine yd_of hRR1 hrec1 rfl rfl ?_
      have hlb := digitsL_len p mn b
      have hla := digitsL_len p mn a
      have htop : out.getD ((mn : Int) - 1).toNat 0 = out.getD (out.length - 1) 0 := by congr 1; omega
      have hkd := digitsL_at p hp mn b ((digitsL p mn b).length - 1 - kk) (by omega)
      refine wc_region ?_
      refine wl_v (st_assign (v := .int .i64 ((digitsL (p) (mn) (b)).getD ((digitsL (p) (mn) (b)).length - 1 - kk) 0)) rfl) rfl rfl rfl ?_
      refine wl_nil ?_
      refine wq_begin hRR1 hrec1 rfl ?_
      intro w51 hg52 hs53 hrec1
      have pw := pu_row pw hg52 (by intro q hq hlt; injection hq with hq; omega)
      have hpv := Rep.ch hpv hg52 (by intro q hq hlt; injection hq with hq; (try simp only [Lo, Iv]); omega)
      have hb5 := Bk.ch hb5 hg52 (by intro hq; injection hq with hq; omega)
      have hd10 := Bl.ch hd10 hg52 (by intro q hq hlt; injection hq with hq; omega)
      have hb18 := Bk.ch hb18 hg52 (by intro hq; injection hq with hq; omega)
      have hb28 := Bl.ch hb28 hg52 (by intro q hq hlt; injection hq with hq; omega)
      have hb34 := Bk.ch hb34 hg52 (by intro hq; injection hq with hq; omega)
      have hd40 := Bl.ch hd40 hg52 (by intro q hq hlt; injection hq with hq; omega)
      have hb45 := Bk.ch hb45 hg52 (by intro hq; injection hq with hq; omega)
      have hmk := Mk.ch hmk hg52 (by intro q hq hlt; injection hq with hq; left; omega)
      refine wc_block ?_
      refine wc_seq ?_
      refine wc_region ?_
      refine wl_v (st_load (v := .slice (some ⟨g24, 0, none⟩) mn mn) ty24 rfl rfl (Bk.cell hb34 (i := 0) rfl)) rfl rfl rfl ?_
      refine wl_v (st_fieldAddr ty72 (ft := 3) (off := 1) (by kernel_rfl) ty3 rfl) rfl rfl rfl ?_
      refine wl_v (st_load (v := .int .i64 ((mn : Int))) ty3 rfl rfl (Bk.cell hb5 (i := 1) rfl)) rfl rfl rfl ?_
      refine wl_v (st_sub rfl rfl (by omega) (by omega)) rfl rfl rfl ?_
      refine wl_e (st_idxI (Bl.sl hb28) ty24 ty3 rfl rfl (by omega) (by omega)) rfl rfl rfl ?_
      rintro _ ⟨a55, rfl, hc54⟩
      refine wl_v (st_load ty3 rfl rfl hc54) rfl rfl rfl ?_
      refine wl_v (st_assign (v := .int .i64 ((out).getD ((mn : Int) - 1).toNat 0)) rfl) rfl rfl rfl ?_
      refine wl_nil ?_
      refine wq_then ?_
      refine wc_seq ?_
      refine wc_region_mix (fun w' => (w51.drew).grownBy w' none) (fun k => (false) || Nat.ble 7 k) 7 (by kernel_rfl) (by kernel_rfl) (by kernel_rfl) ?_
      obtain ⟨w56, ew56⟩ : ∃ q, q = w51.drew := ⟨_, rfl⟩
      rw [← ew56]
      have hn57 : w51.grownBy w56 none := by rw [ew56]; exact ch_drew _
      have hsw56 : w56.heap.size = w51.heap.size := by rw [ew56]; rfl
      clear ew56
      have pw := pu_trans pw hn57
      have hpv := Rep.pu hpv hn57
      have hb5 := Bk.pu hb5 hn57
      have hd10 := Bl.pu hd10 hn57
      have hb18 := Bk.pu hb18 hn57
      have hb28 := Bl.pu hb28 hn57
      have hb34 := Bk.pu hb34 hn57
      have hd40 := Bl.pu hd40 hn57
      have hb45 := Bk.pu hb45 hn57
      have hmk := Mk.pu hmk hn57
      have hrec1 := RRpu hRR1 hrec1 hn57
      have pc58 := pu_refl w56
      refine wm_v rfl (fun _ => pc58) (fun w' hw' => (st_load (v := .slice (some ⟨g24, 0, none⟩) mn mn) ty24 rfl rfl (Bk.cell (Bk.pu hb34 hw') (i := 0) rfl))) rfl rfl rfl ?_
      refine wm_v rfl (fun _ => pc58) (fun w' hw' => (st_cutLo (m := 1) ty24 ty3 rfl rfl (by omega) (by omega) (by omega))) rfl rfl rfl ?_
      refine wm_v rfl (fun _ => pc58) (fun w' hw' => (st_load (v := .slice (some ⟨g24, 0, none⟩) mn mn) ty24 rfl rfl (Bk.cell (Bk.pu hb34 hw') (i := 0) rfl))) rfl rfl rfl ?_
      refine wm_v rfl (fun _ => pc58) (fun w' hw' => (st_fieldAddr ty72 (ft := 3) (off := 1) (by kernel_rfl) ty3 rfl)) rfl rfl rfl ?_
      refine wm_v rfl (fun _ => pc58) (fun w' hw' => (st_load (v := .int .i64 ((mn : Int))) ty3 rfl rfl (Bk.cell (Bk.pu hb5 hw') (i := 1) rfl))) rfl rfl rfl ?_
      refine wm_v rfl (fun _ => pc58) (fun w' hw' => (st_sub rfl rfl (by omega) (by omega))) rfl rfl rfl ?_
      refine wm_v rfl (fun _ => pc58) (fun w' hw' => (st_cutHi (m := ((mn : Int) - 1).toNat) ty24 ty3 rfl rfl (by omega) (by omega))) rfl rfl rfl ?_
      refine wm_tail (by decide) (fun _ => pc58) (fun j hj => by have hb : Nat.ble 7 j = true := (by rw [Nat.ble_eq]; omega); simp [hb]) ?_
      refine wl_copyB (off := 0 + 1) (so := 0) (k := mn - 1) hb28 ty24 ty3 rfl rfl (by show min _ _ = _; omega) (by omega) (by omega) rfl ?_
      intro w59 hb60 hg61 hs62 hown
      have pw := pu_row pw hg61 (by intro q hq hlt; simp at hq; omega)
      have hpv := Rep.ch hpv hg61 (by intro q hq hlt; (try simp only [Lo, Iv]); simp at hq; omega)
      have hb5 := Bk.ch hb5 hg61 (by intro hq; have hlt := hb5.lt; simp at hq; omega)
      have hd10 := Bl.ch hd10 hg61 (by intro q hq hlt; simp at hq; omega)
      have hb18 := Bk.ch hb18 hg61 (by intro hq; have hlt := hb18.lt; simp at hq; omega)
      have hb34 := Bk.ch hb34 hg61 (by intro hq; have hlt := hb34.lt; simp at hq; omega)
      have hd40 := Bl.ch hd40 hg61 (by intro q hq hlt; simp at hq; omega)
      have hb45 := Bk.ch hb45 hg61 (by intro hq; have hlt := hb45.lt; simp at hq; omega)
      have hmk := Mk.ch hmk hg61 (by intro q hq hlt; simp at hq; omega)
      have hrec1 := RRch hRR1 hrec1 hg61 (by intro hq; simp at hq; omega)
      have hb28 := hb60
      refine wt_nil ?_
      refine wq_then ?_
      refine wc_seq ?_
      refine wc_region ?_
      refine wl_v (st_load (v := .slice (some ⟨g24, 0, none⟩) mn mn) ty24 rfl rfl (Bk.cell hb34 (i := 0) rfl)) rfl rfl rfl ?_
      have hbdg66 : 0 < (((((out).take (0 + 1)) ++ (((out).drop (0)).take (mn - 1)) ++ ((out).drop ((0 + 1) + (mn - 1)))).length : Nat) : Int) := (by have h1 := copyL_len out (0 + 1) 0 (mn - 1) (by omega) (by omega); unfold copyL at h1; omega)
      refine wl_e (st_idxB hb28 ty24 ty3 rfl rfl (by omega) hbdg66) rfl rfl rfl ?_
      rintro _ ⟨g66, rfl, hv65, hc63⟩
      try simp only [Int.toNat_natCast, Int.toNat_zero, Int.reduceToNat] at hc63 ⊢
      refine wl_storeB (q := 0) hb28 ty3 rfl hv65 (by omega) rfl (fun _ _ => rfl) ?_
      intro w67 hb68 hg69 hs70
      have hown := Bl.own hb28 hv65
      have pw := pu_row pw hg69 (by intro q hq hlt; simp at hq; omega)
      have hpv := Rep.ch hpv hg69 (by intro q hq hlt; (try simp only [Lo, Iv]); simp at hq; omega)
      have hb5 := Bk.ch hb5 hg69 (by intro hq; have hlt := hb5.lt; simp at hq; omega)
      have hd10 := Bl.ch hd10 hg69 (by intro q hq hlt; simp at hq; omega)
      have hb18 := Bk.ch hb18 hg69 (by intro hq; have hlt := hb18.lt; simp at hq; omega)
      have hb34 := Bk.ch hb34 hg69 (by intro hq; have hlt := hb34.lt; simp at hq; omega)
      have hd40 := Bl.ch hd40 hg69 (by intro q hq hlt; simp at hq; omega)
      have hb45 := Bk.ch hb45 hg69 (by intro hq; have hlt := hb45.lt; simp at hq; omega)
      have hmk := Mk.ch hmk hg69 (by intro q hq hlt; simp at hq; omega)
      have hrec1 := RRch hRR1 hrec1 hg69 (by intro hq; simp at hq; omega)
      have hb28 := hb68
      try simp only [Int.toNat_natCast, Int.toNat_zero, Int.reduceToNat] at hb28
      refine wl_nil ?_
      refine wq_then ?_
      refine wc_seq ?_
      refine wc_region ?_
      refine wl_v (st_load (v := .slice (some ⟨g24, 0, none⟩) mn mn) ty24 rfl rfl (Bk.cell hb34 (i := 0) rfl)) rfl rfl rfl ?_
      refine wl_v (st_lenS (Bl.sl hb28) ty24 rfl) rfl rfl rfl ?_
      refine wl_v (st_move (v := .int .i64 (0)) rfl) rfl rfl rfl ?_
      refine wl_nil ?_
      refine wq_then ?_
      refine wc_block ?_
      rw [show (0 + 1) = 1 from rfl, copy_sh out mn q1_1 (by omega)] at hb28
      have hlsh := mulSh_len out (by omega)
      have hlc : (((((out).take (0 + 1)) ++ (((out).drop (0)).take (mn - 1)) ++ ((out).drop ((0 + 1) + (mn - 1)))).set 0 (0))).length = mn := by rw [show (0 + 1) = 1 from rfl, copy_sh out mn q1_1 (by omega)]; omega
      refine wc_loop (fun fl mm w' => ∃ i : Nat, fl = [(3, .pointer (some ⟨g1, 0, none⟩)), (6, .int .i64 (0)), (7, .pointer (some ⟨g14, 0, none⟩)), (8, .pointer (some ⟨g30, 0, none⟩)), (10, .int .i64 ((digitsL (p) (mn) (b)).getD ((digitsL (p) (mn) (b)).length - 1 - kk) 0)), (11, .int .i64 ((out).getD ((mn : Int) - 1).toNat 0)), (51, .int .i64 ((((((out).take (0 + 1)) ++ (((out).drop (0)).take (mn - 1)) ++ ((out).drop ((0 + 1) + (mn - 1)))).set 0 (0)).length : Int))), (52, .int .i64 ((i : Int)))] ∧ mm = mn - i ∧ (i ≤ mn) ∧ w.grownBy w' none ∧ rI.R w' (Lo w.heap.size) (pv) (pl) ∧ Bk w' g1 72 [.int .i64 (p), .int .i64 ((mn : Int)), pv] ∧ Bl iR 3 w' (w2.heap.size) (w12.heap.size) (v11) (digitsL (p) (mn) (a)) ∧ Bk w' g14 24 [v11] ∧ Bl iR 3 w' (w20.heap.size) (w25.heap.size) (.slice (some ⟨g24, 0, none⟩) mn mn) (mulGo p pl (digitsL p mn a) ((digitsL p mn b).getD ((digitsL p mn b).length - 1 - kk) 0) out i) ∧ Bk w' g30 24 [.slice (some ⟨g24, 0, none⟩) mn mn] ∧ Bl iR 3 w' (w36.heap.size) (w42.heap.size) (v41) (digitsL (p) (mn) (b)) ∧ Bk w' g44 24 [v41] ∧ Mk w' (w48.heap.size) (lp1) ([mark w48.heap.size]) ∧ RR1 .busy w') (h0 := ⟨0, rfl, rfl, ?_, pw, hpv, hb5, hd10, hb18, (by rw [mulGo_zero]; exact hb28), hb34, hd40, hb45, hmk, hrec1⟩) (hf := ⟨(by first | rfl | exact congrArg (Value.int _) (by omega) | go_num), (by first | rfl | exact congrArg (Value.int _) (by omega) | go_num), (by first | rfl | exact congrArg (Value.int _) (by omega) | go_num), (by first | rfl | exact congrArg (Value.int _) (by omega) | go_num), (by first | rfl | exact congrArg (Value.int _) (by omega) | go_num), (by first | rfl | exact congrArg (Value.int _) (by omega) | go_num), (by first | rfl | exact congrArg (Value.int _) (by omega) | go_num), (by first | rfl | exact congrArg (Value.int _) (by omega) | go_num), trivial⟩) ?_
      · omega
      · skip
        rintro _ _ w71 s72 ⟨i, rfl, rfl, p1_1, pw, hpv, hb5, hd10, hb18, hb28, hb34, hd40, hb45, hmk, hrec1⟩
        refine wc_seq ?_
        refine wc_region ?_
        refine wl_v (st_lss rfl rfl) rfl rfl rfl ?_
        refine wl_nil ?_
        refine wq_then ?_
        refine wc_seq ?_
        refine wc_cond rfl ?_ ?_
        · intro h73
          have h73p : (i : Int) < (((((out).take (0 + 1)) ++ (((out).drop (0)).take (mn - 1)) ++ ((out).drop ((0 + 1) + (mn - 1)))).set 0 (0)).length : Int) := by first | simpa using h73 | (simp at h73; omega)
          refine wc_skip ?_
          refine wq_then ?_
          refine wc_seq ?_
          refine wc_block ?_
          refine wc_seq ?_
          refine wc_region ?_
          refine wl_v (st_move (v := .int .i64 ((i : Int))) rfl) rfl rfl rfl ?_
          refine wl_v (st_assign (v := .int .i64 ((i : Int))) rfl) rfl rfl rfl ?_
          refine wl_nil ?_
          refine wq_then ?_
          refine wc_region_mix (fun w' => (w71.drew).grownBy w' none) (fun k => (false) || Nat.ble 25 k) 25 (by kernel_rfl) (by kernel_rfl) (by kernel_rfl) ?_
          obtain ⟨w74, ew74⟩ : ∃ q, q = w71.drew := ⟨_, rfl⟩
          rw [← ew74]
          have hn75 : w71.grownBy w74 none := by rw [ew74]; exact ch_drew _
          have hsw74 : w74.heap.size = w71.heap.size := by rw [ew74]; rfl
          clear ew74
          have pw := pu_trans pw hn75
          have hpv := Rep.pu hpv hn75
          have hb5 := Bk.pu hb5 hn75
          have hd10 := Bl.pu hd10 hn75
          have hb18 := Bk.pu hb18 hn75
          have hb28 := Bl.pu hb28 hn75
          have hb34 := Bk.pu hb34 hn75
          have hd40 := Bl.pu hd40 hn75
          have hb45 := Bk.pu hb45 hn75
          have hmk := Mk.pu hmk hn75
          have hrec1 := RRpu hRR1 hrec1 hn75
          have pc76 := pu_refl w74
          refine wm_v rfl (fun _ => pc76) (fun w' hw' => (st_load (v := .slice (some ⟨g24, 0, none⟩) mn mn) ty24 rfl rfl (Bk.cell (Bk.pu hb34 hw') (i := 0) rfl))) rfl rfl rfl ?_
          refine wm_v rfl (fun _ => pc76) (fun w' hw' => (st_move (v := .int .i64 ((i : Int))) rfl)) rfl rfl rfl ?_
          refine wm_v rfl (fun _ => pc76) (fun w' hw' => (st_load (v := .slice (some ⟨g24, 0, none⟩) mn mn) ty24 rfl rfl (Bk.cell (Bk.pu hb34 hw') (i := 0) rfl))) rfl rfl rfl ?_
          refine wm_v rfl (fun _ => pc76) (fun w' hw' => (st_move (v := .int .i64 ((i : Int))) rfl)) rfl rfl rfl ?_
          refine wm_e rfl (fun _ => pc76) (st_idxI (Bl.sl hb28) ty24 ty3 rfl rfl (by omega) (by have h1 := mulGo_len p pl (digitsL p mn a) ((digitsL p mn b).getD ((digitsL p mn b).length - 1 - kk) 0) out i (by omega) (by omega); omega)) rfl rfl rfl ?_
          rintro _ ⟨a78, rfl, hc77⟩
          simp only [Int.toNat_natCast] at hc77
          refine wm_v rfl (fun _ => pc76) (fun w' hw' => (st_load ty3 rfl rfl (cell_pu hw' hc77))) rfl rfl rfl ?_
          refine wm_v rfl (fun _ => pc76) (fun w' hw' => (st_move (v := .int .i64 ((out).getD ((mn : Int) - 1).toNat 0)) rfl)) rfl rfl rfl ?_
          refine wm_v rfl (fun _ => pc76) (fun w' hw' => (st_fieldAddr ty72 (ft := 24) (off := 2) (by kernel_rfl) ty24 rfl)) rfl rfl rfl ?_
          refine wm_v rfl (fun _ => pc76) (fun w' hw' => (st_load (v := pv) ty24 rfl rfl (Bk.cell (Bk.pu hb5 hw') (i := 2) rfl))) rfl rfl rfl ?_
          refine wm_v rfl (fun _ => pc76) (fun w' hw' => (st_move (v := .int .i64 ((i : Int))) rfl)) rfl rfl rfl ?_
          refine wm_e rfl (fun _ => pc76) (st_idxI hpv ty24 ty3 rfl rfl (by omega) (by omega)) rfl rfl rfl ?_
          rintro _ ⟨a80, rfl, hc79⟩
          simp only [Int.toNat_natCast] at hc79
          refine wm_v rfl (fun _ => pc76) (fun w' hw' => (st_load ty3 rfl rfl (cell_pu hw' hc79))) rfl rfl rfl ?_
          refine wm_v rfl (fun _ => pc76) (fun w' hw' => (st_mul rfl rfl (by have t1 := at_bd out 12 (by omega) q1_2 ((mn : Int) - 1).toNat; have t2 := at_bd pl 12 (by omega) hpb i; have t3 := digitsL_at p hp mn a i (by omega); have t4 := mul_bd t1.1 t1.2 t2.1 t2.2; have t5 := mul_bd hkd.1 hkd.2 t3.1 t3.2; have t6 := mulSh_at out q1_2 i; have t7 := mulGo_getD p pl (digitsL p mn a) ((digitsL p mn b).getD ((digitsL p mn b).length - 1 - kk) 0) out i; omega) (by have t1 := at_bd out 12 (by omega) q1_2 ((mn : Int) - 1).toNat; have t2 := at_bd pl 12 (by omega) hpb i; have t3 := digitsL_at p hp mn a i (by omega); have t4 := mul_bd t1.1 t1.2 t2.1 t2.2; have t5 := mul_bd hkd.1 hkd.2 t3.1 t3.2; have t6 := mulSh_at out q1_2 i; have t7 := mulGo_getD p pl (digitsL p mn a) ((digitsL p mn b).getD ((digitsL p mn b).length - 1 - kk) 0) out i; omega))) rfl rfl rfl ?_
          refine wm_v rfl (fun _ => pc76) (fun w' hw' => (st_add rfl rfl (by have t1 := at_bd out 12 (by omega) q1_2 ((mn : Int) - 1).toNat; have t2 := at_bd pl 12 (by omega) hpb i; have t3 := digitsL_at p hp mn a i (by omega); have t4 := mul_bd t1.1 t1.2 t2.1 t2.2; have t5 := mul_bd hkd.1 hkd.2 t3.1 t3.2; have t6 := mulSh_at out q1_2 i; have t7 := mulGo_getD p pl (digitsL p mn a) ((digitsL p mn b).getD ((digitsL p mn b).length - 1 - kk) 0) out i; omega) (by have t1 := at_bd out 12 (by omega) q1_2 ((mn : Int) - 1).toNat; have t2 := at_bd pl 12 (by omega) hpb i; have t3 := digitsL_at p hp mn a i (by omega); have t4 := mul_bd t1.1 t1.2 t2.1 t2.2; have t5 := mul_bd hkd.1 hkd.2 t3.1 t3.2; have t6 := mulSh_at out q1_2 i; have t7 := mulGo_getD p pl (digitsL p mn a) ((digitsL p mn b).getD ((digitsL p mn b).length - 1 - kk) 0) out i; omega))) rfl rfl rfl ?_
          refine wm_v rfl (fun _ => pc76) (fun w' hw' => (st_move (v := .int .i64 ((digitsL (p) (mn) (b)).getD ((digitsL (p) (mn) (b)).length - 1 - kk) 0)) rfl)) rfl rfl rfl ?_
          refine wm_v rfl (fun _ => pc76) (fun w' hw' => (st_load (v := v11) ty24 rfl rfl (Bk.cell (Bk.pu hb18 hw') (i := 0) rfl))) rfl rfl rfl ?_
          refine wm_v rfl (fun _ => pc76) (fun w' hw' => (st_move (v := .int .i64 ((i : Int))) rfl)) rfl rfl rfl ?_
          refine wm_e rfl (fun _ => pc76) (st_idxI (Bl.sl hd10) ty24 ty3 rfl rfl (by omega) (by omega)) rfl rfl rfl ?_
          rintro _ ⟨a82, rfl, hc81⟩
          simp only [Int.toNat_natCast] at hc81
          refine wm_v rfl (fun _ => pc76) (fun w' hw' => (st_load ty3 rfl rfl (cell_pu hw' hc81))) rfl rfl rfl ?_
          refine wm_v rfl (fun _ => pc76) (fun w' hw' => (st_mul rfl rfl (by have t1 := at_bd out 12 (by omega) q1_2 ((mn : Int) - 1).toNat; have t2 := at_bd pl 12 (by omega) hpb i; have t3 := digitsL_at p hp mn a i (by omega); have t4 := mul_bd t1.1 t1.2 t2.1 t2.2; have t5 := mul_bd hkd.1 hkd.2 t3.1 t3.2; have t6 := mulSh_at out q1_2 i; have t7 := mulGo_getD p pl (digitsL p mn a) ((digitsL p mn b).getD ((digitsL p mn b).length - 1 - kk) 0) out i; omega) (by have t1 := at_bd out 12 (by omega) q1_2 ((mn : Int) - 1).toNat; have t2 := at_bd pl 12 (by omega) hpb i; have t3 := digitsL_at p hp mn a i (by omega); have t4 := mul_bd t1.1 t1.2 t2.1 t2.2; have t5 := mul_bd hkd.1 hkd.2 t3.1 t3.2; have t6 := mulSh_at out q1_2 i; have t7 := mulGo_getD p pl (digitsL p mn a) ((digitsL p mn b).getD ((digitsL p mn b).length - 1 - kk) 0) out i; omega))) rfl rfl rfl ?_
          refine wm_v rfl (fun _ => pc76) (fun w' hw' => (st_add rfl rfl (by have t1 := at_bd out 12 (by omega) q1_2 ((mn : Int) - 1).toNat; have t2 := at_bd pl 12 (by omega) hpb i; have t3 := digitsL_at p hp mn a i (by omega); have t4 := mul_bd t1.1 t1.2 t2.1 t2.2; have t5 := mul_bd hkd.1 hkd.2 t3.1 t3.2; have t6 := mulSh_at out q1_2 i; have t7 := mulGo_getD p pl (digitsL p mn a) ((digitsL p mn b).getD ((digitsL p mn b).length - 1 - kk) 0) out i; omega) (by have t1 := at_bd out 12 (by omega) q1_2 ((mn : Int) - 1).toNat; have t2 := at_bd pl 12 (by omega) hpb i; have t3 := digitsL_at p hp mn a i (by omega); have t4 := mul_bd t1.1 t1.2 t2.1 t2.2; have t5 := mul_bd hkd.1 hkd.2 t3.1 t3.2; have t6 := mulSh_at out q1_2 i; have t7 := mulGo_getD p pl (digitsL p mn a) ((digitsL p mn b).getD ((digitsL p mn b).length - 1 - kk) 0) out i; omega))) rfl rfl rfl ?_
          refine wm_v rfl (fun _ => pc76) (fun w' hw' => (st_fieldAddr ty72 (ft := 3) (off := 0) (by kernel_rfl) ty3 rfl)) rfl rfl rfl ?_
          refine wm_v rfl (fun _ => pc76) (fun w' hw' => (st_load (v := .int .i64 (p)) ty3 rfl rfl (Bk.cell (Bk.pu hb5 hw') (i := 0) rfl))) rfl rfl rfl ?_
          refine wm_v rfl (fun _ => pc76) (fun w' hw' => (st_rem rfl rfl (by have t1 := at_bd out 12 (by omega) q1_2 ((mn : Int) - 1).toNat; have t2 := at_bd pl 12 (by omega) hpb i; have t3 := digitsL_at p hp mn a i (by omega); have t4 := mul_bd t1.1 t1.2 t2.1 t2.2; have t5 := mul_bd hkd.1 hkd.2 t3.1 t3.2; have t6 := mulSh_at out q1_2 i; have t7 := mulGo_getD p pl (digitsL p mn a) ((digitsL p mn b).getD ((digitsL p mn b).length - 1 - kk) 0) out i; omega) (by have t1 := at_bd out 12 (by omega) q1_2 ((mn : Int) - 1).toNat; have t2 := at_bd pl 12 (by omega) hpb i; have t3 := digitsL_at p hp mn a i (by omega); have t4 := mul_bd t1.1 t1.2 t2.1 t2.2; have t5 := mul_bd hkd.1 hkd.2 t3.1 t3.2; have t6 := mulSh_at out q1_2 i; have t7 := mulGo_getD p pl (digitsL p mn a) ((digitsL p mn b).getD ((digitsL p mn b).length - 1 - kk) 0) out i; omega))) rfl rfl rfl ?_
          have hbdg86 : (i : Int) < (((mulGo p pl (digitsL p mn a) ((digitsL p mn b).getD ((digitsL p mn b).length - 1 - kk) 0) out i).length : Nat) : Int) := (by have h1 := mulGo_len p pl (digitsL p mn a) ((digitsL p mn b).getD ((digitsL p mn b).length - 1 - kk) 0) out i (by omega) (by omega); omega)
          refine wm_e rfl (fun _ => pc76) (st_idxB hb28 ty24 ty3 rfl rfl (by omega) hbdg86) rfl rfl rfl ?_
          rintro _ ⟨g86, rfl, hv85, hc83⟩
          try simp only [Int.toNat_natCast, Int.toNat_zero, Int.reduceToNat] at hc83 ⊢
          refine wm_tail (by decide) (fun _ => pc76) (fun j hj => by have hb : Nat.ble 25 j = true := (by rw [Nat.ble_eq]; omega); simp [hb]) ?_
          refine wl_storeB (q := ((((mulGo p pl (digitsL p mn a) ((digitsL p mn b).getD ((digitsL p mn b).length - 1 - kk) 0) out i).getD i 0) + (((out).getD ((mn : Int) - 1).toNat 0) * ((pl).getD i 0))) + (((digitsL (p) (mn) (b)).getD ((digitsL (p) (mn) (b)).length - 1 - kk) 0) * ((digitsL (p) (mn) (a)).getD i 0))) % p) hb28 ty3 rfl hv85 (by omega) rfl (fun _ _ => rfl) ?_
          intro w87 hb88 hg89 hs90
          have hown := Bl.own hb28 hv85
          have pw := pu_row pw hg89 (by intro q hq hlt; simp at hq; omega)
          have hpv := Rep.ch hpv hg89 (by intro q hq hlt; (try simp only [Lo, Iv]); simp at hq; omega)
          have hb5 := Bk.ch hb5 hg89 (by intro hq; have hlt := hb5.lt; simp at hq; omega)
          have hd10 := Bl.ch hd10 hg89 (by intro q hq hlt; simp at hq; omega)
          have hb18 := Bk.ch hb18 hg89 (by intro hq; have hlt := hb18.lt; simp at hq; omega)
          have hb34 := Bk.ch hb34 hg89 (by intro hq; have hlt := hb34.lt; simp at hq; omega)
          have hd40 := Bl.ch hd40 hg89 (by intro q hq hlt; simp at hq; omega)
          have hb45 := Bk.ch hb45 hg89 (by intro hq; have hlt := hb45.lt; simp at hq; omega)
          have hmk := Mk.ch hmk hg89 (by intro q hq hlt; simp at hq; omega)
          have hrec1 := RRch hRR1 hrec1 hg89 (by intro hq; simp at hq; omega)
          have hb28 := hb88
          try simp only [Int.toNat_natCast, Int.toNat_zero, Int.reduceToNat] at hb28
          refine wt_nil ?_
          refine wq_block_normal ?_
          refine wq_then ?_
          refine wc_region ?_
          refine wl_v (st_add rfl rfl (by omega) (by omega)) rfl rfl rfl ?_
          refine wl_v (st_move (v := .int .i64 ((i : Int) + 1)) rfl) rfl rfl rfl ?_
          refine wl_nil ?_
          refine wq_round (hI := ⟨i + 1, rfl, rfl, ?_, pw, hpv, hb5, hd10, hb18, (by have h := hb28; rw [mulGo_set p pl (digitsL p mn a) ((digitsL p mn b).getD ((digitsL p mn b).length - 1 - kk) 0) out i _ (by omega) (by omega) htop] at h; exact h), hb34, hd40, hb45, hmk, hrec1⟩) (hm := ?_) (hf := ?_) rfl rfl
          · omega
          · omega
          · exact ⟨(by first | rfl | exact congrArg (Value.int _) (by omega) | go_num), (by first | rfl | exact congrArg (Value.int _) (by omega) | go_num), (by first | rfl | exact congrArg (Value.int _) (by omega) | go_num), (by first | rfl | exact congrArg (Value.int _) (by omega) | go_num), (by first | rfl | exact congrArg (Value.int _) (by omega) | go_num), (by first | rfl | exact congrArg (Value.int _) (by omega) | go_num), (by first | rfl | exact congrArg (Value.int _) (by omega) | go_num), (by first | rfl | exact congrArg (Value.int _) (by omega) | go_num), trivial⟩
        · intro h73
          have h73p : ¬ ((i : Int) < (((((out).take (0 + 1)) ++ (((out).drop (0)).take (mn - 1)) ++ ((out).drop ((0 + 1) + (mn - 1)))).set 0 (0)).length : Int)) := by first | simpa using h73 | (simp at h73; omega)
          refine wc_exit ?_
          refine wq_then_exit ?_
          refine wq_then_exit ?_
          refine wq_block_exit ?_
          refine wq_block_normal ?_
          refine wq_roundEnd hRR1 hrec1 ?_
          intro w91 hg92 hs93 hrec1
          have pw := pu_row pw hg92 (by intro q hq hlt; injection hq with hq; omega)
          have hpv := Rep.ch hpv hg92 (by intro q hq hlt; injection hq with hq; (try simp only [Lo, Iv]); omega)
          have hb5 := Bk.ch hb5 hg92 (by intro hq; injection hq with hq; omega)
          have hd10 := Bl.ch hd10 hg92 (by intro q hq hlt; injection hq with hq; omega)
          have hb18 := Bk.ch hb18 hg92 (by intro hq; injection hq with hq; omega)
          have hb28 := Bl.ch hb28 hg92 (by intro q hq hlt; injection hq with hq; omega)
          have hb34 := Bk.ch hb34 hg92 (by intro hq; injection hq with hq; omega)
          have hd40 := Bl.ch hd40 hg92 (by intro q hq hlt; injection hq with hq; omega)
          have hb45 := Bk.ch hb45 hg92 (by intro hq; injection hq with hq; omega)
          have hmk := Mk.ch hmk hg92 (by intro q hq hlt; injection hq with hq; left; omega)
          refine ⟨(mulStep p pl (digitsL p mn a) ((digitsL p mn b).getD ((digitsL p mn b).length - 1 - kk) 0) out), ?_, ?_, ?_, hrec1, pw, hpv, hb5, hd10, hb18, (by have h := hb28; rw [show i = out.length by omega, mulGo_all _ _ _ _ _ (by omega)] at h; exact h), hb34, hd40, hb45, hmk⟩
          · (rw [mulStep_len]; exact q1_1)
          · (exact mulStep_bd p hp _ _ _ _)
          · (rw [show (digitsL p mn b).length - (kk + 1) = (digitsL p mn b).length - 1 - kk by omega, drop_getD (digitsL p mn b) ((digitsL p mn b).length - 1 - kk) (by omega), List.foldr_cons, show (digitsL p mn b).length - 1 - kk + 1 = (digitsL p mn b).length - kk by omega, ← q1_3])
    case rest1 =>
      rintro _ w94 ⟨-, hIr⟩
      obtain ⟨kk, hkn, out, q1_1, q1_2, q1_3, hrec1, pw, hpv, hb5, hd10, hb18, hb28, hb34, hd40, hb45, hmk⟩ : ∃ kk : Nat, kk = (digitsL (p) (mn) (b)).length ∧ (fun (kk : Nat) (w' : World) => ∃ out : List Int, (out.length = mn) ∧ (∀ x ∈ out, 0 ≤ x ∧ x ≤ 12) ∧ (out = ((digitsL p mn b).drop ((digitsL p mn b).length - kk)).foldr (mulStep p pl (digitsL p mn a)) (List.replicate mn 0)) ∧ RR1 .ready w' ∧ w.grownBy w' none ∧ rI.R w' (Lo w.heap.size) (pv) (pl) ∧ Bk w' g1 72 [.int .i64 (p), .int .i64 ((mn : Int)), pv] ∧ Bl iR 3 w' (w2.heap.size) (w12.heap.size) (v11) (digitsL (p) (mn) (a)) ∧ Bk w' g14 24 [v11] ∧ Bl iR 3 w' (w20.heap.size) (w25.heap.size) (.slice (some ⟨g24, 0, none⟩) mn mn) (out) ∧ Bk w' g30 24 [.slice (some ⟨g24, 0, none⟩) mn mn] ∧ Bl iR 3 w' (w36.heap.size) (w42.heap.size) (v41) (digitsL (p) (mn) (b)) ∧ Bk w' g44 24 [v41] ∧ Mk w' (w48.heap.size) (lp1) ([mark w48.heap.size])) kk w94 := ⟨_, rfl, hIr⟩
      refine ⟨hrec1, ?_⟩
      intro w95 hg96 hs97
      have pw := pu_row pw hg96 (by intro q hq hlt; injection hq with hq; omega)
      have hpv := Rep.ch hpv hg96 (by intro q hq hlt; injection hq with hq; (try simp only [Lo, Iv]); omega)
      have hb5 := Bk.ch hb5 hg96 (by intro hq; injection hq with hq; omega)
      have hd10 := Bl.ch hd10 hg96 (by intro q hq hlt; injection hq with hq; omega)
      have hb18 := Bk.ch hb18 hg96 (by intro hq; injection hq with hq; omega)
      have hb28 := Bl.ch hb28 hg96 (by intro q hq hlt; injection hq with hq; omega)
      have hb34 := Bk.ch hb34 hg96 (by intro hq; injection hq with hq; omega)
      have hd40 := Bl.ch hd40 hg96 (by intro q hq hlt; injection hq with hq; omega)
      have hb45 := Bk.ch hb45 hg96 (by intro hq; injection hq with hq; omega)
      have hmk := Mk.ch hmk hg96 (by intro q hq hlt; injection hq with hq; left; omega)
      refine wq_block_normal ?_
      refine wq_then ?_
      refine wc_seq ?_
      refine wc_region ?_
      refine wl_v (st_loadAgg (cs := [.int .i64 (p), .int .i64 ((mn : Int)), pv]) ty72 rfl rfl rfl (Bk.cells hb5)) rfl rfl rfl ?_
      refine wl_v (st_load (v := .slice (some ⟨g24, 0, none⟩) mn mn) ty24 rfl rfl (Bk.cell hb34 (i := 0) rfl)) rfl rfl rfl ?_
      refine wl_call (vs := [.agg #[.int .i64 (p), .int .i64 ((mn : Int)), pv], .slice (some ⟨g24, 0, none⟩) mn mn]) C104 rfl rfl (number_ok (p) (mn) (pv) _ _ _ _ (by omega) (by omega) (fun x hx => by have := q1_2 x hx; omega) (Bl.sl hb28)) ?_
      rintro _ w98 ⟨rfl, hn99⟩
      have pw := pu_trans pw hn99
      have hpv := Rep.pu hpv hn99
      have hb5 := Bk.pu hb5 hn99
      have hd10 := Bl.pu hd10 hn99
      have hb18 := Bk.pu hb18 hn99
      have hb28 := Bl.pu hb28 hn99
      have hb34 := Bk.pu hb34 hn99
      have hd40 := Bl.pu hd40 hn99
      have hb45 := Bk.pu hb45 hn99
      have hmk := Mk.pu hmk hn99
      have hzw98 := World.grownBy.size hn99
      refine wl_v (st_assign (v := .int .i64 (numberL (p) (out))) rfl) rfl rfl rfl ?_
      refine wl_nil ?_
      refine wq_then ?_
      refine wc_ret ?_
      have hzw := World.grownBy.size pw
      refine wq_ret1M (v := .int .i64 (numberL (p) (out))) rfl hmk rfl ?_
      intro w100 hb101
      have pw := pu_below2 pw hb101 (by omega)
      have hpv := Rep.belowS hpv hb101 (by intro b hb1 hb2; simp only [Lo, Iv] at hb1; omega)
      have hd10 := Bl.below hd10 hb101 (by omega)
      have hb28 := Bl.below hb28 hb101 (by omega)
      have hd40 := Bl.below hd40 hb101 (by omega)
      exact ⟨congrArg (Value.int .i64) (by rw [mulL, if_neg (by omega), q1_3, hkn, Nat.sub_self, List.drop_zero]), pw⟩

end Go.Proofs.YthofgamegondnaaDoor

namespace Go.Proofs.YthofgamegondnaaDoor
open Go.RowKit
set_option linter.unusedSimpArgs false
set_option linter.unusedVariables false

theorem fieldOf2 (q : Int) (w : World) : Ret Tryd.prog 56 #[.int .i64 q] w fun v w' => w.grownBy w' none ∧ ∃ (p : Int) (m : Nat) (pv : Value) (pl : List Int) (ok : Bool), v = .tuple #[.agg #[.int .i64 p, .int .i64 (m : Int), pv], .bool ok] ∧ (ok = true → fieldL q = some (p, m, pl)) ∧ (ok = true → rI.R w' (Lo w'.heap.size) pv pl) ∧ (ok = false → fieldL q = none) ∧ pv.oneCell' = true := by
  refine Ret.mono (fieldOf_ok q w) fun v w' h => ⟨h.1, ?_⟩
  have h2 := h.2
  cases hf : fieldL q with
  | none => rw [hf] at h2; exact ⟨0, 0, .slice none 0 0, [], false, h2, (fun h => by cases h), (fun h => by cases h), (fun _ => rfl), by rfl⟩
  | some x =>
    obtain ⟨p, m, pl⟩ := x
    rw [hf] at h2
    obtain ⟨pv, h3, h4⟩ := h2
    exact ⟨p, m, pv, pl, true, h3, (fun _ => rfl), (fun _ => h4), (fun h => by cases h), Rep.one _ h4⟩

set_option maxRecDepth 100000 in
theorem Add_ok (q a b : Int) (w : World) : Ret Tryd.prog 18 #[.int .i64 q, .int .i64 a, .int .i64 b] w fun v w' => v = .tuple #[.int .i64 (evAdd q a b).1, .bool (evAdd q a b).2] ∧ w.grownBy w' none := by
  refine ret_in Tryd.func18 rfl rfl rfl ?_
  have pw := pu_refl w
  refine wc_seq ?_
  refine wc_region ?_
  refine wl_v (st_assign (v := .int .i64 (0)) rfl) rfl rfl rfl ?_
  refine wl_v (st_assign (v := .bool (false)) rfl) rfl rfl rfl ?_
  refine wl_nil ?_
  refine wq_then ?_
  refine wc_seq ?_
  refine wc_region ?_
  refine wl_v (st_move (v := .int .i64 (q)) rfl) rfl rfl rfl ?_
  refine wl_call (vs := [.int .i64 (q)]) C56 rfl rfl (fieldOf2 (q) _) ?_
  rintro _ w10 ⟨hn11, p1, m2, pv3, pl4, ok5, rfl, hok6, hpv7, hno8, hone9⟩
  have pw := pu_trans pw hn11
  have hzw10 := World.grownBy.size hn11
  refine wl_v (st_move (v := .tuple #[.agg #[.int .i64 (p1), .int .i64 ((m2 : Int)), pv3], .bool (ok5)]) rfl) rfl rfl rfl ?_
  refine wl_v (st_extract (v := .agg #[.int .i64 (p1), .int .i64 ((m2 : Int)), pv3]) rfl rfl) rfl rfl rfl ?_
  refine wl_v (st_extract (v := .bool (ok5)) rfl rfl) rfl rfl rfl ?_
  refine wl_allocK (cs := [.int .i64 (0), .int .i64 (0), .slice none 0 0]) ty72 rfl rfl ?_
  intro w13 g12 hg14 hs15 hb16 hn17
  have pw := pu_trans pw hn17
  have hpv7 := fun (h : ok5 = true) => Rep.pu (hpv7 h) hn17
  refine wl_storeG (cs := [.int .i64 (p1), .int .i64 ((m2 : Int)), pv3]) hb16 ty72 rfl rfl rfl rfl (all1 rfl (all1 rfl (all1 hone9 rfl))) ?_
  intro w22 hb23 hg24 hs25
  have pw := pu_row pw hg24 (by intro q hq hlt; simp at hq; omega)
  have hpv7 := fun (h : ok5 = true) => Rep.ch (hpv7 h) hg24 (by intro q hq hlt; (try simp only [Lo, Iv]); simp at hq; omega)
  have hb16 := hb23
  refine wl_v (st_assign (v := .bool (ok5)) rfl) rfl rfl rfl ?_
  refine wl_nil ?_
  refine wq_then ?_
  refine wc_seq ?_
  refine wc_seq ?_
  refine wc_region ?_
  refine wl_v (st_move (v := .bool (ok5)) rfl) rfl rfl rfl ?_
  refine wl_v (st_not rfl) rfl rfl rfl ?_
  refine wl_v (st_move (v := .bool (!ok5)) rfl) rfl rfl rfl ?_
  refine wl_bool (!ok5) (fun hb => ?_) (fun hb => ?_)
  · have h26 := hb
    clear hb
    have h26p : ¬ (ok5 = true) := by first | simpa using h26 | (simp at h26; omega)
    refine wl_guard_no rfl rfl rfl rfl (by rw [h26]; rfl) rfl rfl ?_
    refine wl_guard_no rfl rfl rfl rfl (by rw [h26]; rfl) rfl rfl ?_
    refine wl_v (st_pick_t (v := .bool (true)) rfl h26 rfl) rfl rfl rfl ?_
    refine wl_v (st_move (v := .bool (true)) rfl) rfl rfl rfl ?_
    refine wl_guard_no rfl rfl rfl rfl rfl rfl rfl ?_
    refine wl_guard_no rfl rfl rfl rfl rfl rfl rfl ?_
    refine wl_guard_no rfl rfl rfl rfl rfl rfl rfl ?_
    refine wl_v (st_pick_t (v := .bool (true)) rfl rfl rfl) rfl rfl rfl ?_
    refine wl_v (st_move (v := .bool (true)) rfl) rfl rfl rfl ?_
    refine wl_guard_no rfl rfl rfl rfl rfl rfl rfl ?_
    refine wl_guard_no rfl rfl rfl rfl rfl rfl rfl ?_
    refine wl_v (st_pick_t (v := .bool (true)) rfl rfl rfl) rfl rfl rfl ?_
    refine wl_v (st_move (v := .bool (true)) rfl) rfl rfl rfl ?_
    refine wl_guard_no rfl rfl rfl rfl rfl rfl rfl ?_
    refine wl_guard_no rfl rfl rfl rfl rfl rfl rfl ?_
    refine wl_guard_no rfl rfl rfl rfl rfl rfl rfl ?_
    refine wl_v (st_pick_t (v := .bool (true)) rfl rfl rfl) rfl rfl rfl ?_
    refine wl_nil ?_
    refine wq_then ?_
    refine wc_true rfl ?_
    refine wc_seq ?_
    refine wc_region ?_
    refine wl_v (st_assign (v := .int .i64 (0)) rfl) rfl rfl rfl ?_
    refine wl_v (st_assign (v := .bool (false)) rfl) rfl rfl rfl ?_
    refine wl_nil ?_
    refine wq_then ?_
    refine wc_ret ?_
    refine wq_then_ret ?_
    refine wq_ret2 (v := .int .i64 (0)) (v' := .bool (false)) rfl rfl rfl rfl ?_
    have e := evAdd_no (a := a) (b := b) (hno8 (by simpa using h26))
    rw [e]
    exact ⟨rfl, pw⟩
  · have h26 := hb
    clear hb
    have h26p : ¬ (¬ (ok5 = true)) := by first | simpa using h26 | (simp at h26; omega)
    refine wl_guard_yes rfl rfl rfl rfl (by rw [h26]; rfl) ?_
    refine wl_v (st_move (v := .int .i64 (a)) rfl) rfl rfl rfl ?_
    refine wl_guard_yes rfl rfl rfl rfl (by rw [h26]; rfl) ?_
    refine wl_v (st_lss rfl rfl) rfl rfl rfl ?_
    refine wl_v (st_pick_f (v := .bool (decide (a < 0))) rfl h26 rfl) rfl rfl rfl ?_
    refine wl_v (st_move (v := .bool (decide (a < 0))) rfl) rfl rfl rfl ?_
    refine wl_bool (decide (a < 0)) (fun hb => ?_) (fun hb => ?_)
    · have h27 := hb
      clear hb
      have h27p : a < 0 := by first | simpa using h27 | (simp at h27; omega)
      refine wl_guard_no rfl rfl rfl rfl (by rw [h27]; rfl) rfl rfl ?_
      refine wl_guard_no rfl rfl rfl rfl (by rw [h27]; rfl) rfl rfl ?_
      refine wl_guard_no rfl rfl rfl rfl (by rw [h27]; rfl) rfl rfl ?_
      refine wl_v (st_pick_t (v := .bool (true)) rfl h27 rfl) rfl rfl rfl ?_
      refine wl_v (st_move (v := .bool (true)) rfl) rfl rfl rfl ?_
      refine wl_guard_no rfl rfl rfl rfl rfl rfl rfl ?_
      refine wl_guard_no rfl rfl rfl rfl rfl rfl rfl ?_
      refine wl_v (st_pick_t (v := .bool (true)) rfl rfl rfl) rfl rfl rfl ?_
      refine wl_v (st_move (v := .bool (true)) rfl) rfl rfl rfl ?_
      refine wl_guard_no rfl rfl rfl rfl rfl rfl rfl ?_
      refine wl_guard_no rfl rfl rfl rfl rfl rfl rfl ?_
      refine wl_guard_no rfl rfl rfl rfl rfl rfl rfl ?_
      refine wl_v (st_pick_t (v := .bool (true)) rfl rfl rfl) rfl rfl rfl ?_
      refine wl_nil ?_
      refine wq_then ?_
      refine wc_true rfl ?_
      refine wc_seq ?_
      refine wc_region ?_
      refine wl_v (st_assign (v := .int .i64 (0)) rfl) rfl rfl rfl ?_
      refine wl_v (st_assign (v := .bool (false)) rfl) rfl rfl rfl ?_
      refine wl_nil ?_
      refine wq_then ?_
      refine wc_ret ?_
      refine wq_then_ret ?_
      refine wq_ret2 (v := .int .i64 (0)) (v' := .bool (false)) rfl rfl rfl rfl ?_
      have e := evAdd_out (q := q) (a := a) (b := b) (by omega)
      rw [e]
      exact ⟨rfl, pw⟩
    · have h27 := hb
      clear hb
      have h27p : ¬ (a < 0) := by first | simpa using h27 | (simp at h27; omega)
      refine wl_guard_yes rfl rfl rfl rfl (by rw [h27]; rfl) ?_
      refine wl_v (st_move (v := .int .i64 (a)) rfl) rfl rfl rfl ?_
      refine wl_guard_yes rfl rfl rfl rfl (by rw [h27]; rfl) ?_
      refine wl_v (st_move (v := .int .i64 (q)) rfl) rfl rfl rfl ?_
      refine wl_guard_yes rfl rfl rfl rfl (by rw [h27]; rfl) ?_
      refine wl_v (st_geq rfl rfl) rfl rfl rfl ?_
      refine wl_v (st_pick_f (v := .bool (decide (q ≤ a))) rfl h27 rfl) rfl rfl rfl ?_
      refine wl_v (st_move (v := .bool (decide (q ≤ a))) rfl) rfl rfl rfl ?_
      refine wl_bool (decide (q ≤ a)) (fun hb => ?_) (fun hb => ?_)
      · have h28 := hb
        clear hb
        have h28p : q ≤ a := by first | simpa using h28 | (simp at h28; omega)
        refine wl_guard_no rfl rfl rfl rfl (by rw [h28]; rfl) rfl rfl ?_
        refine wl_guard_no rfl rfl rfl rfl (by rw [h28]; rfl) rfl rfl ?_
        refine wl_v (st_pick_t (v := .bool (true)) rfl h28 rfl) rfl rfl rfl ?_
        refine wl_v (st_move (v := .bool (true)) rfl) rfl rfl rfl ?_
        refine wl_guard_no rfl rfl rfl rfl rfl rfl rfl ?_
        refine wl_guard_no rfl rfl rfl rfl rfl rfl rfl ?_
        refine wl_guard_no rfl rfl rfl rfl rfl rfl rfl ?_
        refine wl_v (st_pick_t (v := .bool (true)) rfl rfl rfl) rfl rfl rfl ?_
        refine wl_nil ?_
        refine wq_then ?_
        refine wc_true rfl ?_
        refine wc_seq ?_
        refine wc_region ?_
        refine wl_v (st_assign (v := .int .i64 (0)) rfl) rfl rfl rfl ?_
        refine wl_v (st_assign (v := .bool (false)) rfl) rfl rfl rfl ?_
        refine wl_nil ?_
        refine wq_then ?_
        refine wc_ret ?_
        refine wq_then_ret ?_
        refine wq_ret2 (v := .int .i64 (0)) (v' := .bool (false)) rfl rfl rfl rfl ?_
        have e := evAdd_out (q := q) (a := a) (b := b) (by omega)
        rw [e]
        exact ⟨rfl, pw⟩
      · have h28 := hb
        clear hb
        have h28p : ¬ (q ≤ a) := by first | simpa using h28 | (simp at h28; omega)
        refine wl_guard_yes rfl rfl rfl rfl (by rw [h28]; rfl) ?_
        refine wl_v (st_move (v := .int .i64 (b)) rfl) rfl rfl rfl ?_
        refine wl_guard_yes rfl rfl rfl rfl (by rw [h28]; rfl) ?_
        refine wl_v (st_lss rfl rfl) rfl rfl rfl ?_
        refine wl_v (st_pick_f (v := .bool (decide (b < 0))) rfl h28 rfl) rfl rfl rfl ?_
        refine wl_v (st_move (v := .bool (decide (b < 0))) rfl) rfl rfl rfl ?_
        refine wl_bool (decide (b < 0)) (fun hb => ?_) (fun hb => ?_)
        · have h29 := hb
          clear hb
          have h29p : b < 0 := by first | simpa using h29 | (simp at h29; omega)
          refine wl_guard_no rfl rfl rfl rfl (by rw [h29]; rfl) rfl rfl ?_
          refine wl_guard_no rfl rfl rfl rfl (by rw [h29]; rfl) rfl rfl ?_
          refine wl_guard_no rfl rfl rfl rfl (by rw [h29]; rfl) rfl rfl ?_
          refine wl_v (st_pick_t (v := .bool (true)) rfl h29 rfl) rfl rfl rfl ?_
          refine wl_nil ?_
          refine wq_then ?_
          refine wc_true rfl ?_
          refine wc_seq ?_
          refine wc_region ?_
          refine wl_v (st_assign (v := .int .i64 (0)) rfl) rfl rfl rfl ?_
          refine wl_v (st_assign (v := .bool (false)) rfl) rfl rfl rfl ?_
          refine wl_nil ?_
          refine wq_then ?_
          refine wc_ret ?_
          refine wq_then_ret ?_
          refine wq_ret2 (v := .int .i64 (0)) (v' := .bool (false)) rfl rfl rfl rfl ?_
          have e := evAdd_out (q := q) (a := a) (b := b) (by omega)
          rw [e]
          exact ⟨rfl, pw⟩
        · have h29 := hb
          clear hb
          have h29p : ¬ (b < 0) := by first | simpa using h29 | (simp at h29; omega)
          refine wl_guard_yes rfl rfl rfl rfl (by rw [h29]; rfl) ?_
          refine wl_v (st_move (v := .int .i64 (b)) rfl) rfl rfl rfl ?_
          refine wl_guard_yes rfl rfl rfl rfl (by rw [h29]; rfl) ?_
          refine wl_v (st_move (v := .int .i64 (q)) rfl) rfl rfl rfl ?_
          refine wl_guard_yes rfl rfl rfl rfl (by rw [h29]; rfl) ?_
          refine wl_v (st_geq rfl rfl) rfl rfl rfl ?_
          refine wl_v (st_pick_f (v := .bool (decide (q ≤ b))) rfl h29 rfl) rfl rfl rfl ?_
          refine wl_nil ?_
          refine wq_then ?_
          refine wc_cond rfl ?_ ?_
          · intro h30
            have h30p : q ≤ b := by first | simpa using h30 | (simp at h30; omega)
            refine wc_seq ?_
            refine wc_region ?_
            refine wl_v (st_assign (v := .int .i64 (0)) rfl) rfl rfl rfl ?_
            refine wl_v (st_assign (v := .bool (false)) rfl) rfl rfl rfl ?_
            refine wl_nil ?_
            refine wq_then ?_
            refine wc_ret ?_
            refine wq_then_ret ?_
            refine wq_ret2 (v := .int .i64 (0)) (v' := .bool (false)) rfl rfl rfl rfl ?_
            have e := evAdd_out (q := q) (a := a) (b := b) (by omega)
            rw [e]
            exact ⟨rfl, pw⟩
          · intro h30
            have h30p : ¬ (q ≤ b) := by first | simpa using h30 | (simp at h30; omega)
            refine wc_skip ?_
            refine wq_then ?_
            refine wc_seq ?_
            have hf := hok6 (by simpa using h26)
            have hpr := hpv7 (by simpa using h26)
            obtain ⟨hb1, hb2, hb3, hb4, hb5, hb6, hb7, hb8⟩ := fieldL_bd hf
            refine wc_region ?_
            refine wl_v (st_loadAgg (cs := [.int .i64 (p1), .int .i64 ((m2 : Int)), pv3]) ty72 rfl rfl rfl (Bk.cells hb16)) rfl rfl rfl ?_
            refine wl_v (st_move (v := .int .i64 (a)) rfl) rfl rfl rfl ?_
            refine wl_v (st_move (v := .int .i64 (b)) rfl) rfl rfl rfl ?_
            refine wl_call (vs := [.agg #[.int .i64 (p1), .int .i64 ((m2 : Int)), pv3], .int .i64 (a), .int .i64 (b)]) C57 rfl rfl (add_ok (p1) (a) (b) (m2) (pv3) _ (by omega) (by omega) (by omega) (by omega)) ?_
            rintro _ w31 ⟨rfl, hn32⟩
            have pw := pu_trans pw hn32
            have hb16 := Bk.pu hb16 hn32
            have hpr := Rep.pu hpr hn32
            have hzw31 := World.grownBy.size hn32
            refine wl_v (st_assign (v := .int .i64 (addL (p1) (m2) (a) (b))) rfl) rfl rfl rfl ?_
            refine wl_v (st_assign (v := .bool (true)) rfl) rfl rfl rfl ?_
            refine wl_nil ?_
            refine wq_then ?_
            refine wc_ret ?_
            refine wq_ret2 (v := .int .i64 (addL (p1) (m2) (a) (b))) (v' := .bool (true)) rfl rfl rfl rfl ?_
            have e := evAdd_in (a := a) (b := b) hf (by omega)
            rw [e]
            exact ⟨rfl, pw⟩

set_option maxRecDepth 100000 in
theorem Mul_ok (q a b : Int) (w : World) : Ret Tryd.prog 20 #[.int .i64 q, .int .i64 a, .int .i64 b] w fun v w' => v = .tuple #[.int .i64 (evMul q a b).1, .bool (evMul q a b).2] ∧ w.grownBy w' none := by
  refine ret_in Tryd.func20 rfl rfl rfl ?_
  have pw := pu_refl w
  refine wc_seq ?_
  refine wc_region ?_
  refine wl_v (st_assign (v := .int .i64 (0)) rfl) rfl rfl rfl ?_
  refine wl_v (st_assign (v := .bool (false)) rfl) rfl rfl rfl ?_
  refine wl_nil ?_
  refine wq_then ?_
  refine wc_seq ?_
  refine wc_region ?_
  refine wl_v (st_move (v := .int .i64 (q)) rfl) rfl rfl rfl ?_
  refine wl_call (vs := [.int .i64 (q)]) C56 rfl rfl (fieldOf2 (q) _) ?_
  rintro _ w10 ⟨hn11, p1, m2, pv3, pl4, ok5, rfl, hok6, hpv7, hno8, hone9⟩
  have pw := pu_trans pw hn11
  have hzw10 := World.grownBy.size hn11
  refine wl_v (st_move (v := .tuple #[.agg #[.int .i64 (p1), .int .i64 ((m2 : Int)), pv3], .bool (ok5)]) rfl) rfl rfl rfl ?_
  refine wl_v (st_extract (v := .agg #[.int .i64 (p1), .int .i64 ((m2 : Int)), pv3]) rfl rfl) rfl rfl rfl ?_
  refine wl_v (st_extract (v := .bool (ok5)) rfl rfl) rfl rfl rfl ?_
  refine wl_allocK (cs := [.int .i64 (0), .int .i64 (0), .slice none 0 0]) ty72 rfl rfl ?_
  intro w13 g12 hg14 hs15 hb16 hn17
  have pw := pu_trans pw hn17
  have hpv7 := fun (h : ok5 = true) => Rep.pu (hpv7 h) hn17
  refine wl_storeG (cs := [.int .i64 (p1), .int .i64 ((m2 : Int)), pv3]) hb16 ty72 rfl rfl rfl rfl (all1 rfl (all1 rfl (all1 hone9 rfl))) ?_
  intro w22 hb23 hg24 hs25
  have pw := pu_row pw hg24 (by intro q hq hlt; simp at hq; omega)
  have hpv7 := fun (h : ok5 = true) => Rep.ch (hpv7 h) hg24 (by intro q hq hlt; (try simp only [Lo, Iv]); simp at hq; omega)
  have hb16 := hb23
  refine wl_v (st_assign (v := .bool (ok5)) rfl) rfl rfl rfl ?_
  refine wl_nil ?_
  refine wq_then ?_
  refine wc_seq ?_
  refine wc_seq ?_
  refine wc_region ?_
  refine wl_v (st_move (v := .bool (ok5)) rfl) rfl rfl rfl ?_
  refine wl_v (st_not rfl) rfl rfl rfl ?_
  refine wl_v (st_move (v := .bool (!ok5)) rfl) rfl rfl rfl ?_
  refine wl_bool (!ok5) (fun hb => ?_) (fun hb => ?_)
  · have h26 := hb
    clear hb
    have h26p : ¬ (ok5 = true) := by first | simpa using h26 | (simp at h26; omega)
    refine wl_guard_no rfl rfl rfl rfl (by rw [h26]; rfl) rfl rfl ?_
    refine wl_guard_no rfl rfl rfl rfl (by rw [h26]; rfl) rfl rfl ?_
    refine wl_v (st_pick_t (v := .bool (true)) rfl h26 rfl) rfl rfl rfl ?_
    refine wl_v (st_move (v := .bool (true)) rfl) rfl rfl rfl ?_
    refine wl_guard_no rfl rfl rfl rfl rfl rfl rfl ?_
    refine wl_guard_no rfl rfl rfl rfl rfl rfl rfl ?_
    refine wl_guard_no rfl rfl rfl rfl rfl rfl rfl ?_
    refine wl_v (st_pick_t (v := .bool (true)) rfl rfl rfl) rfl rfl rfl ?_
    refine wl_v (st_move (v := .bool (true)) rfl) rfl rfl rfl ?_
    refine wl_guard_no rfl rfl rfl rfl rfl rfl rfl ?_
    refine wl_guard_no rfl rfl rfl rfl rfl rfl rfl ?_
    refine wl_v (st_pick_t (v := .bool (true)) rfl rfl rfl) rfl rfl rfl ?_
    refine wl_v (st_move (v := .bool (true)) rfl) rfl rfl rfl ?_
    refine wl_guard_no rfl rfl rfl rfl rfl rfl rfl ?_
    refine wl_guard_no rfl rfl rfl rfl rfl rfl rfl ?_
    refine wl_guard_no rfl rfl rfl rfl rfl rfl rfl ?_
    refine wl_v (st_pick_t (v := .bool (true)) rfl rfl rfl) rfl rfl rfl ?_
    refine wl_nil ?_
    refine wq_then ?_
    refine wc_true rfl ?_
    refine wc_seq ?_
    refine wc_region ?_
    refine wl_v (st_assign (v := .int .i64 (0)) rfl) rfl rfl rfl ?_
    refine wl_v (st_assign (v := .bool (false)) rfl) rfl rfl rfl ?_
    refine wl_nil ?_
    refine wq_then ?_
    refine wc_ret ?_
    refine wq_then_ret ?_
    refine wq_ret2 (v := .int .i64 (0)) (v' := .bool (false)) rfl rfl rfl rfl ?_
    have e := evMul_no (a := a) (b := b) (hno8 (by simpa using h26))
    rw [e]
    exact ⟨rfl, pw⟩
  · have h26 := hb
    clear hb
    have h26p : ¬ (¬ (ok5 = true)) := by first | simpa using h26 | (simp at h26; omega)
    refine wl_guard_yes rfl rfl rfl rfl (by rw [h26]; rfl) ?_
    refine wl_v (st_move (v := .int .i64 (a)) rfl) rfl rfl rfl ?_
    refine wl_guard_yes rfl rfl rfl rfl (by rw [h26]; rfl) ?_
    refine wl_v (st_lss rfl rfl) rfl rfl rfl ?_
    refine wl_v (st_pick_f (v := .bool (decide (a < 0))) rfl h26 rfl) rfl rfl rfl ?_
    refine wl_v (st_move (v := .bool (decide (a < 0))) rfl) rfl rfl rfl ?_
    refine wl_bool (decide (a < 0)) (fun hb => ?_) (fun hb => ?_)
    · have h27 := hb
      clear hb
      have h27p : a < 0 := by first | simpa using h27 | (simp at h27; omega)
      refine wl_guard_no rfl rfl rfl rfl (by rw [h27]; rfl) rfl rfl ?_
      refine wl_guard_no rfl rfl rfl rfl (by rw [h27]; rfl) rfl rfl ?_
      refine wl_guard_no rfl rfl rfl rfl (by rw [h27]; rfl) rfl rfl ?_
      refine wl_v (st_pick_t (v := .bool (true)) rfl h27 rfl) rfl rfl rfl ?_
      refine wl_v (st_move (v := .bool (true)) rfl) rfl rfl rfl ?_
      refine wl_guard_no rfl rfl rfl rfl rfl rfl rfl ?_
      refine wl_guard_no rfl rfl rfl rfl rfl rfl rfl ?_
      refine wl_v (st_pick_t (v := .bool (true)) rfl rfl rfl) rfl rfl rfl ?_
      refine wl_v (st_move (v := .bool (true)) rfl) rfl rfl rfl ?_
      refine wl_guard_no rfl rfl rfl rfl rfl rfl rfl ?_
      refine wl_guard_no rfl rfl rfl rfl rfl rfl rfl ?_
      refine wl_guard_no rfl rfl rfl rfl rfl rfl rfl ?_
      refine wl_v (st_pick_t (v := .bool (true)) rfl rfl rfl) rfl rfl rfl ?_
      refine wl_nil ?_
      refine wq_then ?_
      refine wc_true rfl ?_
      refine wc_seq ?_
      refine wc_region ?_
      refine wl_v (st_assign (v := .int .i64 (0)) rfl) rfl rfl rfl ?_
      refine wl_v (st_assign (v := .bool (false)) rfl) rfl rfl rfl ?_
      refine wl_nil ?_
      refine wq_then ?_
      refine wc_ret ?_
      refine wq_then_ret ?_
      refine wq_ret2 (v := .int .i64 (0)) (v' := .bool (false)) rfl rfl rfl rfl ?_
      have e := evMul_out (q := q) (a := a) (b := b) (by omega)
      rw [e]
      exact ⟨rfl, pw⟩
    · have h27 := hb
      clear hb
      have h27p : ¬ (a < 0) := by first | simpa using h27 | (simp at h27; omega)
      refine wl_guard_yes rfl rfl rfl rfl (by rw [h27]; rfl) ?_
      refine wl_v (st_move (v := .int .i64 (a)) rfl) rfl rfl rfl ?_
      refine wl_guard_yes rfl rfl rfl rfl (by rw [h27]; rfl) ?_
      refine wl_v (st_move (v := .int .i64 (q)) rfl) rfl rfl rfl ?_
      refine wl_guard_yes rfl rfl rfl rfl (by rw [h27]; rfl) ?_
      refine wl_v (st_geq rfl rfl) rfl rfl rfl ?_
      refine wl_v (st_pick_f (v := .bool (decide (q ≤ a))) rfl h27 rfl) rfl rfl rfl ?_
      refine wl_v (st_move (v := .bool (decide (q ≤ a))) rfl) rfl rfl rfl ?_
      refine wl_bool (decide (q ≤ a)) (fun hb => ?_) (fun hb => ?_)
      · have h28 := hb
        clear hb
        have h28p : q ≤ a := by first | simpa using h28 | (simp at h28; omega)
        refine wl_guard_no rfl rfl rfl rfl (by rw [h28]; rfl) rfl rfl ?_
        refine wl_guard_no rfl rfl rfl rfl (by rw [h28]; rfl) rfl rfl ?_
        refine wl_v (st_pick_t (v := .bool (true)) rfl h28 rfl) rfl rfl rfl ?_
        refine wl_v (st_move (v := .bool (true)) rfl) rfl rfl rfl ?_
        refine wl_guard_no rfl rfl rfl rfl rfl rfl rfl ?_
        refine wl_guard_no rfl rfl rfl rfl rfl rfl rfl ?_
        refine wl_guard_no rfl rfl rfl rfl rfl rfl rfl ?_
        refine wl_v (st_pick_t (v := .bool (true)) rfl rfl rfl) rfl rfl rfl ?_
        refine wl_nil ?_
        refine wq_then ?_
        refine wc_true rfl ?_
        refine wc_seq ?_
        refine wc_region ?_
        refine wl_v (st_assign (v := .int .i64 (0)) rfl) rfl rfl rfl ?_
        refine wl_v (st_assign (v := .bool (false)) rfl) rfl rfl rfl ?_
        refine wl_nil ?_
        refine wq_then ?_
        refine wc_ret ?_
        refine wq_then_ret ?_
        refine wq_ret2 (v := .int .i64 (0)) (v' := .bool (false)) rfl rfl rfl rfl ?_
        have e := evMul_out (q := q) (a := a) (b := b) (by omega)
        rw [e]
        exact ⟨rfl, pw⟩
      · have h28 := hb
        clear hb
        have h28p : ¬ (q ≤ a) := by first | simpa using h28 | (simp at h28; omega)
        refine wl_guard_yes rfl rfl rfl rfl (by rw [h28]; rfl) ?_
        refine wl_v (st_move (v := .int .i64 (b)) rfl) rfl rfl rfl ?_
        refine wl_guard_yes rfl rfl rfl rfl (by rw [h28]; rfl) ?_
        refine wl_v (st_lss rfl rfl) rfl rfl rfl ?_
        refine wl_v (st_pick_f (v := .bool (decide (b < 0))) rfl h28 rfl) rfl rfl rfl ?_
        refine wl_v (st_move (v := .bool (decide (b < 0))) rfl) rfl rfl rfl ?_
        refine wl_bool (decide (b < 0)) (fun hb => ?_) (fun hb => ?_)
        · have h29 := hb
          clear hb
          have h29p : b < 0 := by first | simpa using h29 | (simp at h29; omega)
          refine wl_guard_no rfl rfl rfl rfl (by rw [h29]; rfl) rfl rfl ?_
          refine wl_guard_no rfl rfl rfl rfl (by rw [h29]; rfl) rfl rfl ?_
          refine wl_guard_no rfl rfl rfl rfl (by rw [h29]; rfl) rfl rfl ?_
          refine wl_v (st_pick_t (v := .bool (true)) rfl h29 rfl) rfl rfl rfl ?_
          refine wl_nil ?_
          refine wq_then ?_
          refine wc_true rfl ?_
          refine wc_seq ?_
          refine wc_region ?_
          refine wl_v (st_assign (v := .int .i64 (0)) rfl) rfl rfl rfl ?_
          refine wl_v (st_assign (v := .bool (false)) rfl) rfl rfl rfl ?_
          refine wl_nil ?_
          refine wq_then ?_
          refine wc_ret ?_
          refine wq_then_ret ?_
          refine wq_ret2 (v := .int .i64 (0)) (v' := .bool (false)) rfl rfl rfl rfl ?_
          have e := evMul_out (q := q) (a := a) (b := b) (by omega)
          rw [e]
          exact ⟨rfl, pw⟩
        · have h29 := hb
          clear hb
          have h29p : ¬ (b < 0) := by first | simpa using h29 | (simp at h29; omega)
          refine wl_guard_yes rfl rfl rfl rfl (by rw [h29]; rfl) ?_
          refine wl_v (st_move (v := .int .i64 (b)) rfl) rfl rfl rfl ?_
          refine wl_guard_yes rfl rfl rfl rfl (by rw [h29]; rfl) ?_
          refine wl_v (st_move (v := .int .i64 (q)) rfl) rfl rfl rfl ?_
          refine wl_guard_yes rfl rfl rfl rfl (by rw [h29]; rfl) ?_
          refine wl_v (st_geq rfl rfl) rfl rfl rfl ?_
          refine wl_v (st_pick_f (v := .bool (decide (q ≤ b))) rfl h29 rfl) rfl rfl rfl ?_
          refine wl_nil ?_
          refine wq_then ?_
          refine wc_cond rfl ?_ ?_
          · intro h30
            have h30p : q ≤ b := by first | simpa using h30 | (simp at h30; omega)
            refine wc_seq ?_
            refine wc_region ?_
            refine wl_v (st_assign (v := .int .i64 (0)) rfl) rfl rfl rfl ?_
            refine wl_v (st_assign (v := .bool (false)) rfl) rfl rfl rfl ?_
            refine wl_nil ?_
            refine wq_then ?_
            refine wc_ret ?_
            refine wq_then_ret ?_
            refine wq_ret2 (v := .int .i64 (0)) (v' := .bool (false)) rfl rfl rfl rfl ?_
            have e := evMul_out (q := q) (a := a) (b := b) (by omega)
            rw [e]
            exact ⟨rfl, pw⟩
          · intro h30
            have h30p : ¬ (q ≤ b) := by first | simpa using h30 | (simp at h30; omega)
            refine wc_skip ?_
            refine wq_then ?_
            refine wc_seq ?_
            have hf := hok6 (by simpa using h26)
            have hpr := hpv7 (by simpa using h26)
            obtain ⟨hb1, hb2, hb3, hb4, hb5, hb6, hb7, hb8⟩ := fieldL_bd hf
            refine wc_region ?_
            refine wl_v (st_loadAgg (cs := [.int .i64 (p1), .int .i64 ((m2 : Int)), pv3]) ty72 rfl rfl rfl (Bk.cells hb16)) rfl rfl rfl ?_
            refine wl_v (st_move (v := .int .i64 (a)) rfl) rfl rfl rfl ?_
            refine wl_v (st_move (v := .int .i64 (b)) rfl) rfl rfl rfl ?_
            refine wl_call (vs := [.agg #[.int .i64 (p1), .int .i64 ((m2 : Int)), pv3], .int .i64 (a), .int .i64 (b)]) C58 rfl rfl (mul_ok (p1) (a) (b) (m2) (pv3) (pl4) _ _ (by omega) (by omega) (by omega) (by omega) (by omega) hb6 hpr) ?_
            rintro _ w31 ⟨rfl, hn32⟩
            have pw := pu_trans pw hn32
            have hb16 := Bk.pu hb16 hn32
            have hpr := Rep.pu hpr hn32
            have hzw31 := World.grownBy.size hn32
            refine wl_v (st_assign (v := .int .i64 (mulL (p1) (m2) (pl4) (a) (b))) rfl) rfl rfl rfl ?_
            refine wl_v (st_assign (v := .bool (true)) rfl) rfl rfl rfl ?_
            refine wl_nil ?_
            refine wq_then ?_
            refine wc_ret ?_
            refine wq_ret2 (v := .int .i64 (mulL (p1) (m2) (pl4) (a) (b))) (v' := .bool (true)) rfl rfl rfl rfl ?_
            have e := evMul_in (a := a) (b := b) hf (by omega)
            rw [e]
            exact ⟨rfl, pw⟩

end Go.Proofs.YthofgamegondnaaDoor

namespace Go.Proofs.YthofgamegondnaaDoor
open Go.RowKit
theorem ints3 {w : World} {Z : Nat → Prop} {us : List Value} {a : Int × Int × Int × Unit} (hv : VRs w Z [] ((csC cdI (csC cdI (csC cdI csN))).enc a) us) : us = [.int .i64 a.1, .int .i64 a.2.1, .int .i64 a.2.2.1] := by
  obtain ⟨u1, r1, rfl, h1, hv⟩ := hv.head
  obtain ⟨u2, r2, rfl, h2, hv⟩ := hv.head
  obtain ⟨u3, r3, rfl, h3, hv⟩ := hv.head
  have : r3 = [] := List.eq_nil_of_length_eq_zero hv.len
  subst this
  rw [h1.v_inv, h2.v_inv, h3.v_inv]
theorem vr_ib {w : World} {Z : Nat → Prop} {n : Int} {b : Bool} : VR w Z [] (.tp [cdI.enc n, cdB.enc b]) (.tuple #[.int .i64 n, .bool b]) :=
  .tp (us := [.int .i64 n, .bool b]) rfl fun i x u hx hu => by
    match i with
    | 0 => simp at hx hu; subst hx hu; exact .v rfl
    | 1 => simp at hx hu; subst hx hu; exact .v rfl
    | i + 2 => simp at hx
def evening_Add (q a b : Int) : Option (Int × Bool) := some (evAdd q a b)
def cs_evening_Add : Cs (Int × Int × Int × Unit) := (csC cdI (csC cdI (csC cdI csN)))
def er_evening_Add (r : Int × Bool) : AV := .tp [cdI.enc r.1, cdB.enc r.2]
def t_evening_Add : List AV → Option AV := told cs_evening_Add (fun a => evening_Add a.1 a.2.1 a.2.2.1) er_evening_Add
theorem x_evening_Add : XOk 18 t_evening_Add := by
  refine ⟨⟨Tryd.call18⟩, fun xs x h w Z us _ _ hv => ?_⟩
  obtain ⟨a, ha, h⟩ := Option.bind_eq_some_iff.1 h
  obtain ⟨b, hb, rfl⟩ := Option.map_eq_some_iff.1 h
  have hb := Option.some.inj hb
  subst hb
  rw [ints3 (cs_evening_Add.vr ha hv)]
  exact Ret.mono (Add_ok a.1 a.2.1 a.2.2.1 w) fun v w' h => ⟨h.2, by rw [h.1]; exact vr_ib⟩
def evening_Mul (q a b : Int) : Option (Int × Bool) := some (evMul q a b)
def cs_evening_Mul : Cs (Int × Int × Int × Unit) := (csC cdI (csC cdI (csC cdI csN)))
def er_evening_Mul (r : Int × Bool) : AV := .tp [cdI.enc r.1, cdB.enc r.2]
def t_evening_Mul : List AV → Option AV := told cs_evening_Mul (fun a => evening_Mul a.1 a.2.1 a.2.2.1) er_evening_Mul
theorem x_evening_Mul : XOk 20 t_evening_Mul := by
  refine ⟨⟨Tryd.call20⟩, fun xs x h w Z us _ _ hv => ?_⟩
  obtain ⟨a, ha, h⟩ := Option.bind_eq_some_iff.1 h
  obtain ⟨b, hb, rfl⟩ := Option.map_eq_some_iff.1 h
  have hb := Option.some.inj hb
  subst hb
  rw [ints3 (cs_evening_Mul.vr ha hv)]
  exact Ret.mono (Mul_ok a.1 a.2.1 a.2.2.1 w) fun v w' h => ⟨h.2, by rw [h.1]; exact vr_ib⟩
end Go.Proofs.YthofgamegondnaaDoor

namespace Go.Proofs.YthofgamegondnaaDoor
open Go.RowKit
def law09_awake : Option Bool := some true
def cs_law09_awake : Cs Unit := csN
def er_law09_awake (b : Bool) : AV := cdB.enc b
def t_law09_awake : List AV → Option AV := told cs_law09_awake (fun _ => law09_awake) er_law09_awake
theorem x_law09_awake : XOk 16 t_law09_awake := by
  refine ⟨⟨Tryd.call16⟩, fun xs x h w Z us _ _ hv => ?_⟩
  obtain ⟨a, ha, h⟩ := Option.bind_eq_some_iff.1 h
  obtain ⟨b, hb, rfl⟩ := Option.map_eq_some_iff.1 h
  have hb := Option.some.inj hb
  subst hb
  have : xs = [] := by
    cases xs with
    | nil => rfl
    | cons x xs => cases ha
  subst this
  have : us = [] := by have := hv.len; simpa using this
  subst this
  exact Ret.mono (awake_ret w) fun v w' h => ⟨h.2, by rw [h.1]; exact vr_true⟩

/-- slices.Clone: nil for nil, else a new slice. -/
noncomputable def cb_clone : Code := codeOf Tryd.f27
def own1 (xs : List Int) : Option Blk := some ⟨1, 3, xs.map cdI.enc, false⟩
set_option maxRecDepth 100000 in
theorem clone_sem (xs : List Int) (hc : capOk 8 xs.length = true) : Sem E0 ⟨none, false⟩ cb_clone ⟨Fr 8 [(0, .sl 1 (xs.map cdI.enc))], []⟩ fun e s' => (e = .normal ∨ e = .ret) ∧ ((xs = [] ∧ s' = ⟨Fr 8 [(2, .e0)], []⟩) ∨ s' = ⟨Fr 8 [(2, .rf 0 0 xs.length xs.length)], [own1 xs]⟩) := by
  refine Sem.seq ?_
  refine Sem.runS (s1 := ⟨Fr 8 [(0, .sl 1 (xs.map cdI.enc)), (2, .e0)], []⟩) ?_ ?_
  · refine RunS.seg E0_ok 1 (s1 := ⟨Fr 8 [(0, .sl 1 (xs.map cdI.enc)), (2, .e0)], []⟩) (by kernel_rfl) ?_
    exact RunS.done rfl (Wk.fr (by kernel_rfl))
  refine Sem.seq ?_
  refine Sem.seq (Sem.runQ ?_)
  refine RunS.seg E0_ok 1 (s1 := ⟨Fr 8 [(0, .sl 1 (xs.map cdI.enc)), (2, .e0), (3, .sl 1 (xs.map cdI.enc))], []⟩) (by kernel_rfl) ?_
  refine RunS.isnil (k := 1) (el := 3) (es := xs.map cdI.enc) rfl (wantedA_none rfl) (by kernel_rfl) (by kernel_rfl) fun b hb => RunS.done rfl ?_
  have hb : b = true → xs = [] := fun h => List.map_eq_nil_iff.1 (hb h)
  refine Sem.cond (b := b) (by kernel_rfl) (fun hb1 => ?_) (fun hb1 => ?_)
  · have hx := hb hb1
    refine Sem.wkQ ?_
    refine Sem.seq (Sem.runS (s1 := ⟨Fr 8 [(2, .e0)], []⟩) ?_ (Sem.ret ?_))
    · refine RunS.seg E0_ok 1 (s1 := ⟨Fr 8 [(0, .sl 1 (xs.map cdI.enc)), (2, .e0), (3, .sl 1 (xs.map cdI.enc)), (4, .v (.bool b))], []⟩) (by kernel_rfl) ?_
      exact RunS.done rfl (Wk.fr (by kernel_rfl))
    · exact ⟨_, Wk.refl, .inr rfl, .inl ⟨hx, rfl⟩⟩
  · refine Sem.skip ?_
    refine Sem.wkQ (Sem.seq (Sem.runQ ?_))
    refine RunS.seg E0_ok 2 (s1 := ⟨Fr 8 [(0, .sl 1 (xs.map cdI.enc)), (2, .e0), (3, .sl 1 (xs.map cdI.enc)), (4, .v (.bool b)), (5, .rf 0 0 0 0), (6, .sl 1 (xs.map cdI.enc))], [own1 []]⟩) (by kernel_rfl) ?_
    cases xs with
    | nil =>
      refine RunS.one E0_ok 0 rfl (op_w (x := .rf 0 0 0 0) (hp' := [own1 []]) (wantedA_none rfl) rfl (by kernel_rfl) (by kernel_rfl) (by kernel_rfl)) ?_
      refine RunS.seg E0_ok 1 (s1 := ⟨Fr 8 [(0, .sl 1 []), (2, .rf 0 0 0 0), (3, .sl 1 []), (4, .v (.bool b)), (5, .rf 0 0 0 0), (6, .sl 1 []), (7, .rf 0 0 0 0)], [own1 []]⟩) (by kernel_rfl) (RunS.done rfl (Sem.ret ?_))
      exact ⟨⟨Fr 8 [(2, .rf 0 0 0 0)], [own1 []]⟩, Wk.fr (by kernel_rfl), .inr rfl, .inr rfl⟩
    | cons y ys =>
      refine RunS.one E0_ok 0 rfl (op_w (wantedA_none rfl) rfl (by kernel_rfl) (by kernel_rfl) (w_append (a := .rf 0 0 0 0) (b := .sl 1 ((y :: ys).map cdI.enc)) (by kernel_rfl) (by kernel_rfl) (append_R (c := cdI) (xs := []) (vs := y :: ys) (k := 1) (bytes := 8) (el := 3) (by kernel_rfl) (by kernel_rfl) elems_sl (List.cons_ne_nil _ _) (by kernel_rfl) (by rw [List.length_nil, Nat.zero_add]; exact hc)))) ?_
      refine RunS.seg E0_ok 1 (s1 := ⟨Fr 8 [(0, .sl 1 ((y :: ys).map cdI.enc)), (2, .rf 1 0 (y :: ys).length (y :: ys).length), (3, .sl 1 ((y :: ys).map cdI.enc)), (4, .v (.bool b)), (5, .rf 0 0 0 0), (6, .sl 1 ((y :: ys).map cdI.enc)), (7, .rf 1 0 (y :: ys).length (y :: ys).length)], [none, own1 (y :: ys)]⟩) (by kernel_rfl) (RunS.done rfl (Sem.ret ?_))
      exact ⟨⟨Fr 8 [(2, .rf 0 0 (y :: ys).length (y :: ys).length)], [own1 (y :: ys)]⟩, Wk.sel2 [1] (by kernel_rfl) (by kernel_rfl) (by kernel_rfl) ⟨⟨_, rfl, bu_own⟩, trivial⟩ ⟨lu (by kernel_rfl) (by kernel_rfl), trivial⟩, .inr rfl, .inr rfl⟩
/-- .. as it is told to those who only read. -/
def slices_Clone_L_int (xs : List Int) : Option (List Int) := if capOk 8 xs.length = true then some xs else none
def cs_slices_Clone_L_int : Cs (List Int × Unit) := csC (cdL 1 cdI) csN
def er_slices_Clone_L_int (r : List Int) : AV := (cdL 1 cdI).enc r
def t_slices_Clone_L_int : List AV → Option AV := told cs_slices_Clone_L_int (fun a => slices_Clone_L_int a.1) er_slices_Clone_L_int
theorem x_slices_Clone_L_int : XOk 27 t_slices_Clone_L_int := by
  refine EnvOk.x (E := E0) (contract_ok E0_ok (fn := Tryd.f27) (c := cb_clone) ?h1 ?h2 ⟨Tryd.call27⟩ cs_slices_Clone_L_int (fun a => slices_Clone_L_int a.1) er_slices_Clone_L_int (fun a => (by show 1 ≤ 8; decide)) ?h3 ?h4) rfl rfl
  case h1 => kernel_rfl
  case h2 => kernel_rfl
  case h3 => intro b; kernel_rfl
  case h4 =>
    intro a r h
    have h : slices_Clone_L_int a.1 = some r := h
    unfold slices_Clone_L_int at h
    by_cases hc : capOk 8 a.1.length = true
    · rw [if_pos hc] at h
      injection h with h
      subst h
      refine Sem.wkQ (Sem.mono (clone_sem a.1 hc) ?_)
      rintro e s' ⟨he, ⟨hx, rfl⟩ | rfl⟩
      · rw [hx]
        exact ⟨⟨Fr 8 [(2, .sl 1 [])], [none]⟩, Wk.trans (s1 := ⟨Fr 8 [(2, .e0)], [none]⟩) Wk.none (Wk.frzG 0 (.inl (by kernel_rfl)) ⟨.inl rfl, trivial⟩ ⟨⟨.e0, (by kernel_rfl), fz_e0⟩, trivial⟩), he, [.sl 1 []], by kernel_rfl, by kernel_rfl⟩
      · exact ⟨⟨Fr 8 [(2, .sl 1 (a.1.map cdI.enc))], [none]⟩, Wk.frzG 0 (.inl (by kernel_rfl)) ⟨.inl rfl, trivial⟩ ⟨⟨.rf 0 0 a.1.length a.1.length, (by kernel_rfl), fz_rlT (c := cdI) (xs := a.1) (t := 3) (by kernel_rfl)⟩, trivial⟩, he, [.sl 1 (a.1.map cdI.enc)], by kernel_rfl, by kernel_rfl⟩
    · rw [if_neg hc] at h; cases h
end Go.Proofs.YthofgamegondnaaDoor
