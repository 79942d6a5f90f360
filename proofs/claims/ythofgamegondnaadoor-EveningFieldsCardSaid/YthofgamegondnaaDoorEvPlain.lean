/- Plain Lean: what the evening package's functions compute, with no program in sight. -/
import Derived.Test.YthofgamegondnaaDoorRep
namespace Go.Proofs.YthofgamegondnaaDoor

def fitGo : Int → List Int → Bool
  | left, [] => decide (left = 0)
  | left, k :: ks => if k < 1 ∨ left < k then false else fitGo (left - k) ks
def fitB (n : Int) (xs : List Int) : Bool := fitGo n xs && decide (1 ≤ n ∧ n ≤ 64)

theorem drop_getD (xs : List Int) (k : Nat) (h : k < xs.length) : xs.drop k = xs.getD k 0 :: xs.drop (k + 1) := by
  rw [List.drop_eq_getElem_cons h, List.getD_eq_getElem?_getD, List.getElem?_eq_getElem h]; rfl

/-! ## Fields -/
def fieldL (q : Int) : Option (Int × Nat × List Int) :=
  if q = 2 ∨ q = 3 ∨ q = 5 ∨ q = 7 ∨ q = 11 ∨ q = 13 then some (q, 1, [0])
  else if q = 4 then some (2, 2, [1, 1])
  else if q = 8 then some (2, 3, [1, 1, 0])
  else if q = 9 then some (3, 2, [2, 0])
  else if q = 16 then some (2, 4, [1, 1, 0, 0])
  else none
def digitsL (p : Int) : Nat → Int → List Int
  | 0, _ => []
  | n + 1, a => a % p :: digitsL p n (a / p)
def numberL (p : Int) : List Int → Int
  | [] => 0
  | x :: xs => numberL p xs * p + x % p
theorem digitsL_len (p : Int) : ∀ (n : Nat) (a : Int), (digitsL p n a).length = n
  | 0, _ => rfl
  | n + 1, a => by simp [digitsL, digitsL_len p n]
theorem digitsL_bd (p : Int) (hp : 2 ≤ p) : ∀ (n : Nat) (a : Int), ∀ x ∈ digitsL p n a, 0 ≤ x ∧ x < p
  | 0, _, x, hx => by simp [digitsL] at hx
  | n + 1, a, x, hx => by
    rcases List.mem_cons.1 hx with rfl | hx
    · exact ⟨Int.emod_nonneg _ (by omega), Int.emod_lt_of_pos _ (by omega)⟩
    · exact digitsL_bd p hp n _ x hx
theorem getD_mem (xs : List Int) (k : Nat) (h : k < xs.length) : xs.getD k 0 ∈ xs := by
  rw [List.getD_eq_getElem?_getD, List.getElem?_eq_getElem h]; exact List.getElem_mem h
theorem mul_bd {a b A B : Int} (h0 : 0 ≤ a) (h1 : a ≤ A) (h2 : 0 ≤ b) (h3 : b ≤ B) : 0 ≤ a * b ∧ a * b ≤ A * B :=
  ⟨Int.mul_nonneg h0 h2, Int.mul_le_mul h1 h3 h2 (by omega)⟩
theorem numberL_bd (p : Int) (hp : 2 ≤ p ∧ p ≤ 13) : ∀ (xs : List Int), 0 ≤ numberL p xs ∧ numberL p xs < p ^ xs.length
  | [] => by simp [numberL]
  | x :: xs => by
    have h := numberL_bd p hp xs
    have h1 := Int.emod_nonneg x (show p ≠ 0 by omega)
    have h2 := Int.emod_lt_of_pos x (show 0 < p by omega)
    have h3 : 0 ≤ numberL p xs * p := Int.mul_nonneg h.1 (by omega)
    have h4 : (numberL p xs + 1) * p ≤ p ^ xs.length * p := Int.mul_le_mul_of_nonneg_right (by omega) (by omega)
    rw [Int.add_mul, Int.one_mul] at h4
    simp only [numberL, List.length_cons, Int.pow_succ]
    omega
theorem pow_le4 (p : Int) (hp : 2 ≤ p ∧ p ≤ 13) (n : Nat) (hn : n ≤ 4) : p ^ n ≤ 28561 := by
  have h1 : p * p ≤ 169 := (mul_bd (by omega) hp.2 (by omega) hp.2).2
  have h0 : 0 ≤ p * p := Int.mul_nonneg (by omega) (by omega)
  have h2 : p * p * p ≤ 2197 := (mul_bd h0 h1 (by omega) hp.2).2
  have h3 : 0 ≤ p * p * p := Int.mul_nonneg h0 (by omega)
  have h4 : p * p * p * p ≤ 28561 := (mul_bd h3 h2 (by omega) hp.2).2
  match n, hn with
  | 0, _ => simp
  | 1, _ => simp only [Int.pow_succ, Int.pow_zero, Int.one_mul]; omega
  | 2, _ => simp only [Int.pow_succ, Int.pow_zero, Int.one_mul]; omega
  | 3, _ => simp only [Int.pow_succ, Int.pow_zero, Int.one_mul]; omega
  | 4, _ => simp only [Int.pow_succ, Int.pow_zero, Int.one_mul]; omega
theorem set_step {α : Type} (ds : List α) (mn k : Nat) (z x : α) (h1 : ds.length = k) (h2 : k < mn) : (ds ++ List.replicate (mn - k) z).set k x = (ds ++ [x]) ++ List.replicate (mn - (k + 1)) z := by
  subst h1
  rw [List.set_append_right _ _ (Nat.le_refl _), Nat.sub_self, show mn - ds.length = (mn - (ds.length + 1)) + 1 by omega, List.replicate_succ, List.set_cons_zero]
  simp
theorem numberL_drop (p : Int) (xs : List Int) (k : Nat) (h : k < xs.length) : numberL p (xs.drop k) = numberL p (xs.drop (k + 1)) * p + xs.getD k 0 % p := by
  rw [drop_getD xs k h, numberL]

/-- The sum, place by place, up to place k. -/
def addGo (dx dy : List Int) (k : Nat) : List Int := List.zipWith (· + ·) (dx.take k) (dy.take k) ++ dx.drop k
theorem addGo_zero (dx dy : List Int) : addGo dx dy 0 = dx := by simp [addGo]
theorem addGo_all (dx dy : List Int) (h : dy.length = dx.length) : addGo dx dy dx.length = List.zipWith (· + ·) dx dy := by
  unfold addGo
  rw [List.take_length, List.drop_length, List.append_nil, ← h, List.take_length]
theorem addGo_len (dx dy : List Int) (k : Nat) (h1 : k ≤ dx.length) (h2 : k ≤ dy.length) : (addGo dx dy k).length = dx.length := by
  simp [addGo]; omega
theorem addGo_getD (dx dy : List Int) (k : Nat) (h1 : k < dx.length) (h2 : k < dy.length) : (addGo dx dy k).getD k 0 = dx.getD k 0 := by
  unfold addGo
  rw [List.getD_eq_getElem?_getD, List.getElem?_append_right (by simp; omega), List.getD_eq_getElem?_getD]
  simp
  congr 2
  omega
theorem addGo_set (dx dy : List Int) (k : Nat) (h1 : k < dx.length) (h2 : k < dy.length) : (addGo dx dy k).set k ((addGo dx dy k).getD k 0 + dy.getD k 0) = addGo dx dy (k + 1) := by
  rw [addGo_getD dx dy k h1 h2]
  unfold addGo
  have hl : (List.zipWith (· + ·) (dx.take k) (dy.take k)).length = k := by simp; omega
  rw [List.set_append_right _ _ (by omega), hl, Nat.sub_self, drop_getD dx k h1, List.set_cons_zero, List.take_add_one, List.take_add_one, List.getElem?_eq_getElem h1, List.getElem?_eq_getElem h2,
    List.zipWith_append (by simp; omega)]
  simp [List.getElem?_eq_getElem h1, List.getElem?_eq_getElem h2]
theorem addGo_bd (dx dy : List Int) (k : Nat) (A : Int) (hx : ∀ x ∈ dx, 0 ≤ x ∧ x ≤ A) (hy : ∀ x ∈ dy, 0 ≤ x ∧ x ≤ A) : ∀ x ∈ addGo dx dy k, 0 ≤ x ∧ x ≤ A + A := by
  intro x h
  rcases List.mem_append.1 h with h | h
  · obtain ⟨i, hi, rfl⟩ := List.mem_iff_getElem.1 h
    rw [List.getElem_zipWith]
    have h1 := hx _ (List.mem_of_mem_take (List.getElem_mem (l := dx.take k) (n := i) (by simp at hi ⊢; omega)))
    have h2 := hy _ (List.mem_of_mem_take (List.getElem_mem (l := dy.take k) (n := i) (by simp at hi ⊢; omega)))
    omega
  · have := hx _ (List.mem_of_mem_drop h); omega
def addL (p : Int) (mn : Nat) (a b : Int) : Int := numberL p (List.zipWith (· + ·) (digitsL p mn a) (digitsL p mn b))
theorem addD_len (p : Int) (mn : Nat) (a b : Int) (k : Nat) (hk : k ≤ mn) : (addGo (digitsL p mn a) (digitsL p mn b) k).length = mn := by
  rw [addGo_len _ _ _ (by rw [digitsL_len]; exact hk) (by rw [digitsL_len]; exact hk), digitsL_len]
theorem digitsL_bd' (p : Int) (hp : 2 ≤ p ∧ p ≤ 13) (n : Nat) (a : Int) : ∀ x ∈ digitsL p n a, 0 ≤ x ∧ x ≤ 12 := fun x hx => by
  have := digitsL_bd p hp.1 n a x hx; omega
theorem digitsL_at (p : Int) (hp : 2 ≤ p ∧ p ≤ 13) (n : Nat) (a : Int) (k : Nat) (hk : k < n) : 0 ≤ (digitsL p n a).getD k 0 ∧ (digitsL p n a).getD k 0 ≤ 12 :=
  digitsL_bd' p hp n a _ (getD_mem _ k (by rw [digitsL_len]; exact hk))
theorem addD_bd (p : Int) (hp : 2 ≤ p ∧ p ≤ 13) (mn : Nat) (a b : Int) (k : Nat) : ∀ x ∈ addGo (digitsL p mn a) (digitsL p mn b) k, 0 ≤ x ∧ x ≤ 100000 := fun x hx => by
  have := addGo_bd _ _ k 12 (digitsL_bd' p hp mn a) (digitsL_bd' p hp mn b) x hx; omega
theorem addD_getD (p : Int) (mn : Nat) (a b : Int) (k : Nat) (hk : k < mn) : (addGo (digitsL p mn a) (digitsL p mn b) k).getD k 0 = (digitsL p mn a).getD k 0 :=
  addGo_getD _ _ _ (by rw [digitsL_len]; exact hk) (by rw [digitsL_len]; exact hk)
theorem addD_set (p : Int) (mn : Nat) (a b : Int) (k : Nat) (hk : k < mn) : (addGo (digitsL p mn a) (digitsL p mn b) k).set k ((addGo (digitsL p mn a) (digitsL p mn b) k).getD k 0 + (digitsL p mn b).getD k 0) = addGo (digitsL p mn a) (digitsL p mn b) (k + 1) :=
  addGo_set _ _ _ (by rw [digitsL_len]; exact hk) (by rw [digitsL_len]; exact hk)

/-! ## Products -/
def mulSh (out : List Int) : List Int := 0 :: out.take (out.length - 1)
def mulF (p : Int) (pl xd : List Int) (kd : Int) (out : List Int) (i : Nat) : Int := ((mulSh out).getD i 0 + out.getD (out.length - 1) 0 * pl.getD i 0 + kd * xd.getD i 0) % p
def mulStep (p : Int) (pl xd : List Int) (kd : Int) (out : List Int) : List Int := (List.range out.length).map (mulF p pl xd kd out)
def mulGo (p : Int) (pl xd : List Int) (kd : Int) (out : List Int) (i : Nat) : List Int := (List.range i).map (mulF p pl xd kd out) ++ (mulSh out).drop i
def mulL (p : Int) (mn : Nat) (pl : List Int) (a b : Int) : Int :=
  if mn = 1 then a * b % p else numberL p ((digitsL p mn b).foldr (mulStep p pl (digitsL p mn a)) (List.replicate mn 0))
theorem mulSh_len (out : List Int) (h : 1 ≤ out.length) : (mulSh out).length = out.length := by simp [mulSh]; omega
theorem mulGo_zero (p : Int) (pl xd : List Int) (kd : Int) (out : List Int) : mulGo p pl xd kd out 0 = mulSh out := by simp [mulGo]
theorem mulGo_len (p : Int) (pl xd : List Int) (kd : Int) (out : List Int) (i : Nat) (h : 1 ≤ out.length) (hi : i ≤ out.length) : (mulGo p pl xd kd out i).length = out.length := by
  simp [mulGo, mulSh_len out h]; omega
theorem mulGo_all (p : Int) (pl xd : List Int) (kd : Int) (out : List Int) (h : 1 ≤ out.length) : mulGo p pl xd kd out out.length = mulStep p pl xd kd out := by
  unfold mulGo mulStep
  rw [← mulSh_len out h, List.drop_length, List.append_nil, mulSh_len out h]
theorem mulGo_getD (p : Int) (pl xd : List Int) (kd : Int) (out : List Int) (i : Nat) : (mulGo p pl xd kd out i).getD i 0 = (mulSh out).getD i 0 := by
  unfold mulGo
  rw [List.getD_eq_getElem?_getD, List.getElem?_append_right (by simp), List.getD_eq_getElem?_getD]
  simp
theorem mulGo_set (p : Int) (pl xd : List Int) (kd : Int) (out : List Int) (i : Nat) (t : Int) (h : 1 ≤ out.length) (hi : i < out.length) (ht : t = out.getD (out.length - 1) 0) :
    (mulGo p pl xd kd out i).set i (((mulGo p pl xd kd out i).getD i 0 + t * pl.getD i 0 + kd * xd.getD i 0) % p) = mulGo p pl xd kd out (i + 1) := by
  rw [mulGo_getD, ht, show ((mulSh out).getD i 0 + out.getD (out.length - 1) 0 * pl.getD i 0 + kd * xd.getD i 0) % p = mulF p pl xd kd out i from rfl]
  unfold mulGo
  rw [List.set_append_right _ _ (by simp), drop_getD (mulSh out) i (by rw [mulSh_len out h]; exact hi), List.range_succ, List.map_append]
  simp
theorem copy_sh (out : List Int) (mn : Nat) (h : out.length = mn) (h1 : 1 ≤ mn) : ((out.take 1 ++ (out.drop 0).take (mn - 1) ++ out.drop (1 + (mn - 1))).set 0 0) = mulSh out := by
  subst h
  match out, h1 with
  | x :: xs, _ => simp [mulSh]; omega
theorem mulStep_len (p : Int) (pl xd : List Int) (kd : Int) (out : List Int) : (mulStep p pl xd kd out).length = out.length := by simp [mulStep]
theorem mulStep_bd (p : Int) (hp : 2 ≤ p ∧ p ≤ 13) (pl xd : List Int) (kd : Int) (out : List Int) : ∀ x ∈ mulStep p pl xd kd out, 0 ≤ x ∧ x ≤ 12 := by
  intro x hx
  obtain ⟨i, _, rfl⟩ := List.mem_map.1 hx
  have h1 := Int.emod_nonneg ((mulSh out).getD i 0 + out.getD (out.length - 1) 0 * pl.getD i 0 + kd * xd.getD i 0) (show p ≠ 0 by omega)
  have h2 := Int.emod_lt_of_pos ((mulSh out).getD i 0 + out.getD (out.length - 1) 0 * pl.getD i 0 + kd * xd.getD i 0) (show 0 < p by omega)
  unfold mulF
  omega
theorem mulSh_at (out : List Int) (hb : ∀ x ∈ out, 0 ≤ x ∧ x ≤ 12) (i : Nat) : 0 ≤ (mulSh out).getD i 0 ∧ (mulSh out).getD i 0 ≤ 12 := by
  unfold mulSh
  match i with
  | 0 => simp
  | i + 1 =>
    rw [List.getD_cons_succ, List.getD_eq_getElem?_getD]
    cases h : (out.take (out.length - 1))[i]? with
    | none => simp
    | some q => exact hb q (List.mem_of_mem_take (List.mem_of_getElem? h))
theorem at_bd (out : List Int) (A : Int) (hA : 0 ≤ A) (hb : ∀ x ∈ out, 0 ≤ x ∧ x ≤ A) (i : Nat) : 0 ≤ out.getD i 0 ∧ out.getD i 0 ≤ A := by
  rw [List.getD_eq_getElem?_getD]
  cases h : out[i]? with
  | none => simpa using hA
  | some q => exact hb q (List.mem_of_getElem? h)

theorem fieldL_bd {q p : Int} {m : Nat} {pl : List Int} (h : fieldL q = some (p, m, pl)) : 2 ≤ p ∧ p ≤ 13 ∧ 1 ≤ m ∧ m ≤ 4 ∧ pl.length = m ∧ (∀ x ∈ pl, 0 ≤ x ∧ x ≤ 12) ∧ 2 ≤ q ∧ q ≤ 16 := by
  unfold fieldL at h
  split at h
  · injection h with h; injection h with h1 h; injection h with h2 h3; subst h1 h2 h3
    refine ⟨by omega, by omega, by omega, by omega, rfl, by simp, by omega, by omega⟩
  · split at h
    · injection h with h; injection h with h1 h; injection h with h2 h3; subst h1 h2 h3
      refine ⟨by omega, by omega, by omega, by omega, rfl, by simp, by omega, by omega⟩
    · split at h
      · injection h with h; injection h with h1 h; injection h with h2 h3; subst h1 h2 h3
        refine ⟨by omega, by omega, by omega, by omega, rfl, by simp, by omega, by omega⟩
      · split at h
        · injection h with h; injection h with h1 h; injection h with h2 h3; subst h1 h2 h3
          refine ⟨by omega, by omega, by omega, by omega, rfl, by simp, by omega, by omega⟩
        · split at h
          · injection h with h; injection h with h1 h; injection h with h2 h3; subst h1 h2 h3
            refine ⟨by omega, by omega, by omega, by omega, rfl, by simp, by omega, by omega⟩
          · cases h
def evAdd (q a b : Int) : Int × Bool := match fieldL q with
  | some (p, m, _) => if 0 ≤ a ∧ a < q ∧ 0 ≤ b ∧ b < q then (addL p m a b, true) else (0, false)
  | none => (0, false)
def evMul (q a b : Int) : Int × Bool := match fieldL q with
  | some (p, m, pl) => if 0 ≤ a ∧ a < q ∧ 0 ≤ b ∧ b < q then (mulL p m pl a b, true) else (0, false)
  | none => (0, false)
theorem evAdd_no {q a b : Int} (h : fieldL q = none) : evAdd q a b = (0, false) := by unfold evAdd; rw [h]
theorem evMul_no {q a b : Int} (h : fieldL q = none) : evMul q a b = (0, false) := by unfold evMul; rw [h]
theorem evAdd_out {q a b : Int} (h : ¬ (0 ≤ a ∧ a < q ∧ 0 ≤ b ∧ b < q)) : evAdd q a b = (0, false) := by
  unfold evAdd; split
  · rw [if_neg h]
  · rfl
theorem evMul_out {q a b : Int} (h : ¬ (0 ≤ a ∧ a < q ∧ 0 ≤ b ∧ b < q)) : evMul q a b = (0, false) := by
  unfold evMul; split
  · rw [if_neg h]
  · rfl
theorem evAdd_in {q a b p : Int} {m : Nat} {pl : List Int} (hf : fieldL q = some (p, m, pl)) (h : 0 ≤ a ∧ a < q ∧ 0 ≤ b ∧ b < q) : evAdd q a b = (addL p m a b, true) := by unfold evAdd; rw [hf]; simp only []; rw [if_pos h]
theorem evMul_in {q a b p : Int} {m : Nat} {pl : List Int} (hf : fieldL q = some (p, m, pl)) (h : 0 ≤ a ∧ a < q ∧ 0 ≤ b ∧ b < q) : evMul q a b = (mulL p m pl a b, true) := by unfold evMul; rw [hf]; simp only []; rw [if_pos h]

/-! ## The reference's fields -/
def refField (q : Int) : Int × List Int :=
  if q = 2 ∨ q = 3 ∨ q = 5 ∨ q = 7 ∨ q = 11 ∨ q = 13 then (q, [])
  else if q = 4 then (2, [1, 1, 1])
  else if q = 8 then (2, [1, 1, 0, 1])
  else if q = 9 then (3, [1, 0, 1])
  else if q = 16 then (2, [1, 1, 0, 0, 1])
  else (0, [])
theorem refField_bd {q p : Int} {poly : List Int} (h : refField q = (p, poly)) (h0 : 0 < p) : 2 ≤ p ∧ p ≤ 13 ∧ 2 ≤ q ∧ q ≤ 16 ∧ (poly = [] ∨ (p ≤ 3 ∧ 3 ≤ poly.length ∧ poly.length ≤ 5 ∧ ∀ x ∈ poly, 0 ≤ x ∧ x ≤ 1)) := by
  unfold refField at h
  split at h
  · injection h with h1 h2; subst h1 h2; exact ⟨by omega, by omega, by omega, by omega, .inl rfl⟩
  · split at h
    · injection h with h1 h2; subst h1 h2; exact ⟨by omega, by omega, by omega, by omega, .inr ⟨by omega, by simp, by simp, by simp⟩⟩
    · split at h
      · injection h with h1 h2; subst h1 h2; exact ⟨by omega, by omega, by omega, by omega, .inr ⟨by omega, by simp, by simp, by simp⟩⟩
      · split at h
        · injection h with h1 h2; subst h1 h2; exact ⟨by omega, by omega, by omega, by omega, .inr ⟨by omega, by simp, by simp, by simp⟩⟩
        · split at h
          · injection h with h1 h2; subst h1 h2; exact ⟨by omega, by omega, by omega, by omega, .inr ⟨by omega, by simp, by simp, by simp⟩⟩
          · injection h with h1 h2; omega
def refNum (p : Int) : List Int → Int
  | [] => 0
  | x :: xs => x + p * refNum p xs
def zipGo (f : Int → Int → Int) (dx dy : List Int) (k : Nat) : List Int := List.zipWith f (dx.take k) (dy.take k) ++ dx.drop k
theorem zipGo_zero (f : Int → Int → Int) (dx dy : List Int) : zipGo f dx dy 0 = dx := by simp [zipGo]
theorem zipGo_all (f : Int → Int → Int) (dx dy : List Int) (h : dy.length = dx.length) : zipGo f dx dy dx.length = List.zipWith f dx dy := by
  unfold zipGo
  rw [List.take_length, List.drop_length, List.append_nil, ← h, List.take_length]
theorem zipGo_len (f : Int → Int → Int) (dx dy : List Int) (k : Nat) (h1 : k ≤ dx.length) (h2 : k ≤ dy.length) : (zipGo f dx dy k).length = dx.length := by
  simp [zipGo]; omega
theorem zipGo_getD (f : Int → Int → Int) (dx dy : List Int) (k : Nat) (h1 : k < dx.length) (h2 : k < dy.length) : (zipGo f dx dy k).getD k 0 = dx.getD k 0 := by
  unfold zipGo
  rw [List.getD_eq_getElem?_getD, List.getElem?_append_right (by simp; omega), List.getD_eq_getElem?_getD]
  simp
  congr 2
  omega
theorem zipGo_set (f : Int → Int → Int) (dx dy : List Int) (k : Nat) (h1 : k < dx.length) (h2 : k < dy.length) : (zipGo f dx dy k).set k (f ((zipGo f dx dy k).getD k 0) (dy.getD k 0)) = zipGo f dx dy (k + 1) := by
  rw [zipGo_getD f dx dy k h1 h2]
  unfold zipGo
  have hl : (List.zipWith f (dx.take k) (dy.take k)).length = k := by simp; omega
  rw [List.set_append_right _ _ (by omega), hl, Nat.sub_self, drop_getD dx k h1, List.set_cons_zero, List.take_add_one, List.take_add_one, List.getElem?_eq_getElem h1, List.getElem?_eq_getElem h2,
    List.zipWith_append (by simp; omega)]
  simp [List.getElem?_eq_getElem h1, List.getElem?_eq_getElem h2]
def refAdd (q a b : Int) : Int :=
  if (refField q).2 = [] then (a + b) % (refField q).1
  else refNum (refField q).1 (List.zipWith (fun x y => (x + y) % (refField q).1) (digitsL (refField q).1 ((refField q).2.length - 1) a) (digitsL (refField q).1 ((refField q).2.length - 1) b))
theorem set_bd {d : List Int} {i : Nat} {v A : Int} (h : ∀ x ∈ d, 0 ≤ x ∧ x ≤ A) (hv : 0 ≤ v ∧ v ≤ A) : ∀ x ∈ d.set i v, 0 ≤ x ∧ x ≤ A := fun x hx => by
  rcases List.mem_or_eq_of_mem_set hx with h1 | h1
  · exact h x h1
  · subst h1; exact hv
theorem zip_bd {f : Int → Int → Int} {dx dy : List Int} {A : Int} (h : ∀ x y, 0 ≤ f x y ∧ f x y ≤ A) : ∀ x ∈ List.zipWith f dx dy, 0 ≤ x ∧ x ≤ A := fun x hx => by
  obtain ⟨i, hi, rfl⟩ := List.mem_iff_getElem.1 hx
  rw [List.getElem_zipWith]
  exact h _ _
def mulIn (p : Int) (x y : List Int) (i : Nat) (d : List Int) (k : Nat) : List Int := d.set (i + k) ((d.getD (i + k) 0 + x.getD i 0 * y.getD k 0) % p)
def mulRow (p : Int) (x y : List Int) (m : Nat) (d : List Int) (i : Nat) : List Int := (List.range m).foldl (mulIn p x y i) d
def redIn (p : Int) (poly : List Int) (m top : Nat) (c : Int) (d : List Int) (i : Nat) : List Int := d.set (top - m + i) ((d.getD (top - m + i) 0 + (p - c) * poly.getD i 0) % p)
def redRow (p : Int) (poly : List Int) (m : Nat) (d : List Int) (j : Nat) : List Int := (List.range (m + 1)).foldl (redIn p poly m (2 * m - 1 - j) (d.getD (2 * m - 1 - j) 0)) d
def refMulD (p : Int) (poly : List Int) (m : Nat) (a b : Int) : List Int :=
  (List.range m).foldl (redRow p poly m) ((List.range m).foldl (mulRow p (digitsL p m a) (digitsL p m b) m) (digitsL p (2 * m) 0))
def refMul (q a b : Int) : Int :=
  if (refField q).2 = [] then a * b % (refField q).1
  else refNum (refField q).1 ((refMulD (refField q).1 (refField q).2 ((refField q).2.length - 1) a b).take ((refField q).2.length - 1))
theorem mod_bd (p : Int) (hp : 2 ≤ p ∧ p ≤ 13) (x : Int) : 0 ≤ x % p ∧ x % p ≤ 12 := by
  have h1 := Int.emod_nonneg x (show p ≠ 0 by omega)
  have h2 := Int.emod_lt_of_pos x (show 0 < p by omega)
  omega
theorem fold_succ {α : Type} (f : α → Nat → α) (d : α) (k : Nat) : f ((List.range k).foldl f d) k = (List.range (k + 1)).foldl f d := by
  rw [List.range_succ, List.foldl_append]; rfl
theorem refNum_drop (p : Int) (xs : List Int) (k : Nat) (h : k < xs.length) : refNum p (xs.drop k) = xs.getD k 0 + p * refNum p (xs.drop (k + 1)) := by
  rw [drop_getD xs k h, refNum]

theorem zipGo_bd {f : Int → Int → Int} {dx dy : List Int} {k : Nat} {A : Int} (h : ∀ x y, 0 ≤ f x y ∧ f x y ≤ A) (hx : ∀ x ∈ dx, 0 ≤ x ∧ x ≤ A) : ∀ x ∈ zipGo f dx dy k, 0 ≤ x ∧ x ≤ A := fun x hm => by
  rcases List.mem_append.1 hm with h1 | h1
  · exact zip_bd h x h1
  · exact hx x (List.mem_of_mem_drop h1)
theorem mod_bd' (p : Int) (hp : 2 ≤ p) (x : Int) : 0 ≤ x % p ∧ x % p ≤ p - 1 := by
  have h1 := Int.emod_nonneg x (show p ≠ 0 by omega)
  have h2 := Int.emod_lt_of_pos x (show 0 < p by omega)
  omega
theorem digitsL_bd2 (p : Int) (hp : 2 ≤ p) (n : Nat) (a : Int) : ∀ x ∈ digitsL p n a, 0 ≤ x ∧ x ≤ p - 1 := fun x hx => by
  have := digitsL_bd p hp n a x hx; omega
theorem refAdd_ext {q p a b : Int} {poly : List Int} (hq : refField q = (p, poly)) (h : poly ≠ []) : refAdd q a b = refNum p (List.zipWith (fun x y => (x + y) % p) (digitsL p (poly.length - 1) a) (digitsL p (poly.length - 1) b)) := by
  unfold refAdd; rw [hq]; simp only []; rw [if_neg h]
theorem refAdd_nil {q p a b : Int} {poly : List Int} (hq : refField q = (p, poly)) (h : poly = []) : refAdd q a b = (a + b) % p := by
  unfold refAdd; rw [hq]; simp only []; rw [if_pos h]
theorem refMul_ext {q p a b : Int} {poly : List Int} (hq : refField q = (p, poly)) (h : poly ≠ []) : refMul q a b = refNum p ((refMulD p poly (poly.length - 1) a b).take (poly.length - 1)) := by
  unfold refMul; rw [hq]; simp only []; rw [if_neg h]
theorem refMul_nil {q p a b : Int} {poly : List Int} (hq : refField q = (p, poly)) (h : poly = []) : refMul q a b = a * b % p := by
  unfold refMul; rw [hq]; simp only []; rw [if_pos h]

def fieldsAt (q : Int) (n : Nat) : Bool := (List.range n).all fun a => (List.range n).all fun b => (evAdd q a b == (refAdd q a b, true)) && (evMul q a b == (refMul q a b, true))
theorem fieldsAt_spec {q : Int} {n : Nat} (h : fieldsAt q n = true) {a b : Int} (hq : q = n) (ha : 0 ≤ a ∧ a < q) (hb : 0 ≤ b ∧ b < q) : evAdd q a b = (refAdd q a b, true) ∧ evMul q a b = (refMul q a b, true) := by
  obtain ⟨x, rfl⟩ := Int.eq_ofNat_of_zero_le ha.1
  obtain ⟨y, rfl⟩ := Int.eq_ofNat_of_zero_le hb.1
  have h1 := List.all_eq_true.1 h x (by simp; omega)
  have h2 := List.all_eq_true.1 h1 y (by simp; omega)
  simpa using h2
theorem fields_in {q a b : Int} (h : 0 < (refField q).1) (ha : 0 ≤ a ∧ a < q) (hb : 0 ≤ b ∧ b < q) : evAdd q a b = (refAdd q a b, true) ∧ evMul q a b = (refMul q a b, true) := by
  by_cases hp : q = 2 ∨ q = 3 ∨ q = 5 ∨ q = 7 ∨ q = 11 ∨ q = 13
  · have h1 : fieldL q = some (q, 1, [0]) := by unfold fieldL; rw [if_pos hp]
    have h2 : refField q = (q, []) := by unfold refField; rw [if_pos hp]
    rw [evAdd_in h1 ⟨ha.1, ha.2, hb.1, hb.2⟩, evMul_in h1 ⟨ha.1, ha.2, hb.1, hb.2⟩]
    unfold refAdd refMul
    rw [h2]
    simp only [if_true]
    refine ⟨?_, ?_⟩
    · unfold addL
      simp [digitsL, numberL]
    · unfold mulL
      simp
  · by_cases h4 : q = 4
    · exact fieldsAt_spec (n := 4) (by rw [h4]; decide +kernel) h4 ha hb
    · by_cases h8 : q = 8
      · exact fieldsAt_spec (n := 8) (by rw [h8]; decide +kernel) h8 ha hb
      · by_cases h9 : q = 9
        · exact fieldsAt_spec (n := 9) (by rw [h9]; decide +kernel) h9 ha hb
        · by_cases h16 : q = 16
          · exact fieldsAt_spec (n := 16) (by rw [h16]; decide +kernel) h16 ha hb
          · unfold refField at h
            rw [if_neg hp, if_neg h4, if_neg h8, if_neg h9, if_neg h16] at h
            cases h
theorem fields_out {q a b : Int} (h : ¬ (0 < (refField q).1 ∧ (0 ≤ a ∧ a < q) ∧ (0 ≤ b ∧ b < q))) : evAdd q a b = (0, false) ∧ evMul q a b = (0, false) := by
  by_cases h0 : 0 ≤ a ∧ a < q ∧ 0 ≤ b ∧ b < q
  · have hn : fieldL q = none := by
      cases hf : fieldL q with
      | none => rfl
      | some f =>
        exfalso
        apply h
        refine ⟨?_, ⟨h0.1, h0.2.1⟩, h0.2.2⟩
        unfold fieldL at hf
        unfold refField
        split at hf
        · next hp => rw [if_pos hp]; show 0 < q; omega
        · next hp =>
          rw [if_neg hp]
          split at hf
          · next h4 => rw [if_pos h4]; decide
          · next h4 =>
            rw [if_neg h4]
            split at hf
            · next h4 => rw [if_pos h4]; decide
            · next h4 =>
              rw [if_neg h4]
              split at hf
              · next h4 => rw [if_pos h4]; decide
              · next h4 =>
                rw [if_neg h4]
                split at hf
                · next h4 => rw [if_pos h4]; decide
                · cases hf
    exact ⟨evAdd_no hn, evMul_no hn⟩
  · exact ⟨evAdd_out h0, evMul_out h0⟩
end Go.Proofs.YthofgamegondnaaDoor
