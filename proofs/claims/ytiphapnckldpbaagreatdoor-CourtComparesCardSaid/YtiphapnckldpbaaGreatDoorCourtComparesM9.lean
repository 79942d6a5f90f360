/- trestlelaw03.CourtCompares returns true for every input, and its arguments read behind the call as before; conditions: those that the given row names. -/
import Derived.Test.YtiphapnckldpbaaGreatDoorCourtComparesM1
import Derived.Test.YtiphapnckldpbaaGreatDoorCourtComparesM2
import Derived.Test.YtiphapnckldpbaaGreatDoorCourtComparesM3
import Derived.Test.YtiphapnckldpbaaGreatDoorCourtComparesM4
import Derived.Test.YtiphapnckldpbaaGreatDoorCourtComparesM5
import Derived.Test.YtiphapnckldpbaaGreatDoorCourtComparesM6
import Derived.Test.YtiphapnckldpbaaGreatDoorCourtComparesM7
import Derived.Test.YtiphapnckldpbaaGreatDoorCourtComparesM8
namespace Go.Proofs.YtiphapnckldpbaaGreatDoor
open Go.RowKit
def few1 (x : Clause) : Prop := x.2.1.length ≤ 40 ∧ x.2.2.2.1.length ≤ 20 ∧ ∀ s ∈ x.2.2.2.1, s.length ≤ 40
def few (c : List Clause) : Prop := c.length ≤ 40 ∧ ∀ x ∈ c, few1 x
theorem few_names (l : List (List UInt8)) (h : l.length ≤ 99999) : slices_ContainsFunc_string_string__law03_Few_1_1 l = some (l.any fun s => decide ((s.length : Int) > 40)) := by
 unfold slices_ContainsFunc_string_string__law03_Few_1_1 slices_IndexFunc_string_string__law03_Few_1_1
 obtain ⟨n, h1, h2⟩ := any_of l h law03_Few_1_1 (fun s => decide ((s.length : Int) > 40)) (fun x _ => rfl) (slices_IndexFunc_string_string__law03_Few_1_1_l1 l) (fun f c => rfl)
 rw [← h2]
 exact (congrArg (fun o => o.bind fun v1 => some (decide (v1 ≥ 0))) h1)
def fewB (x : Clause) : Bool := decide ((x.2.1.length : Int) > 40) || decide ((x.2.2.2.1.length : Int) > 20) || x.2.2.2.1.any fun s => decide ((s.length : Int) > 40)
theorem few_1 (x : Clause) : law03_Few_1 x = some (fewB x) := by
 unfold law03_Few_1 fewB
 by_cases h1 : (x.2.1.length : Int) > 40
 ·simp [h1]
 ·by_cases h2 : (x.2.2.2.1.length : Int) > 20
  ·simp [h2]
  ·rw [few_names _ (by omega)]
   simp [h1, h2]
theorem fewB_iff (x : Clause) : fewB x = false ↔ few1 x := by
 unfold fewB few1
 simp only [Bool.or_eq_false_iff, decide_eq_false_iff_not, List.any_eq_false, decide_eq_true_eq]
 constructor
 ·rintro ⟨⟨h1, h2⟩, h3⟩
  exact ⟨by omega, by omega, fun s hs => by have := h3 s hs; omega⟩
 ·rintro ⟨h1, h2, h3⟩
  exact ⟨⟨by omega, by omega⟩, fun s hs => by have := h3 s hs; omega⟩
theorem few_eq (c : List Clause) : ∃ b, law03_Few c = some b ∧ (b = true ↔ few c) := by
 unfold law03_Few
 by_cases h : c.length ≤ 40
 ·rw [if_pos (by simp; omega)]
  have e : slices_ContainsFunc_api_Clause_api_Clause__law03_Few_1 c = some (c.any fewB) := by
   unfold slices_ContainsFunc_api_Clause_api_Clause__law03_Few_1 slices_IndexFunc_api_Clause_api_Clause__law03_Few_1
   obtain ⟨n, h1, h2⟩ := any_of c (by omega) law03_Few_1 fewB (fun x _ => few_1 x) (slices_IndexFunc_api_Clause_api_Clause__law03_Few_1_l1 c) (fun f c => rfl)
   rw [← h2]
   exact (congrArg (fun o => o.bind fun v1 => some (decide (v1 ≥ 0))) h1)
  rw [e]
  refine ⟨!c.any fewB, rfl, ?_⟩
  simp only [Bool.not_eq_true', List.any_eq_false, few, h, true_and]
  exact ⟨fun q x hx => (fewB_iff x).1 (by simpa using q x hx), fun q x hx => by simp [(fewB_iff x).2 (q x hx)]⟩
 ·rw [if_neg (by simp; omega)]
  exact ⟨false, rfl, by simp [few, h]⟩
/-- Copies. -/
theorem copy_go (c : List Clause) (h : few c) : ∀ (r pre : List Clause) (f : Nat), c = pre ++ r → r.length < f → law03_Copy_l1 c f pre (pre.length : Int) = some c
 | [], pre, f + 1, e, _ => by
  unfold law03_Copy_l1
  rw [if_neg (by rw [e]; simp), e, List.append_nil]
 | v :: r, pre, f + 1, e, hf => by
  have hv : few1 v := h.2 v (by rw [e]; simp)
  have hl := h.1
  have hl2 : c.length = pre.length + r.length + 1 := by rw [e]; simp; omega
  simp only [List.length_cons] at hf
  obtain ⟨h1, h2, h3⟩ := hv
  unfold law03_Copy_l1
  have hi : idx c (pre.length : Int) = some v := by rw [e, idx_app]
  rw [if_pos (by rw [e]; exact lt_len pre v r), hi, Option.bind_some, if_pos (capOk_le (by omega) (by omega)), if_pos (capOk_le (by omega) (by omega)), if_pos (by unfold cutOk; simp; omega), if_pos (capOk_le (by omega) (by omega))]
  have hv2 : (v.1, v.2.1, v.2.2.1, ((v.2.2.2.1 ++ [[115, 112, 97, 114, 101]]).take ((v.2.2.2.1.length : Int).toNat)), v.2.2.2.2) = v := by
   rw [Int.toNat_natCast, List.take_left]
  rw [hv2, show wr .i64 ((pre.length : Int) + 1) = ((pre ++ [v]).length : Int) from wr_snoc pre v r (by rw [← e]; omega)]
  exact copy_go c h r (pre ++ [v]) f (by rw [e]; simp) (by omega)
theorem copy_eq (c : List Clause) (h : few c) : law03_Copy c = some c := by
 unfold law03_Copy
 have := copy_go c h c [] 100000 rfl (by have := h.1; omega)
 have e0 : law03_Copy_l1 c 100000 [] (([] : List Clause).length : Int) = law03_Copy_l1 c 100000 [] 0 := rfl
 rw [← e0, this]; rfl
/-- Comparisons. -/
theorem equal_s (xs ys : List (List UInt8)) (h : xs.length ≤ 99999) : slices_Equal_string_string xs ys = some (decide (xs = ys)) := by
 unfold slices_Equal_string_string
 exact eq_of xs ys h (slices_Equal_string_string_l1 xs ys) (fun f c => rfl)
theorem same_1 (a b : Clause) (h : a.2.2.2.1.length ≤ 99999) : law03_SameClause a b = some (decide (a = b)) := by
 unfold law03_SameClause
 rw [equal_s _ _ h]
 obtain ⟨a1, a2, a3, a4, a5⟩ := a
 obtain ⟨b1, b2, b3, b4, b5⟩ := b
 by_cases h1 : a1 = b1
 ·by_cases h2 : a2 = b2
  ·by_cases h3 : a3 = b3
   ·by_cases h5 : a5 = b5
    ·simp [h1, h2, h3, h5]
    ·simp [h5]
   ·simp [h3]
  ·simp [h2]
 ·simp [h1]
theorem same_eq (a b : List Clause) (h : few a) : law03_Same a b = some (decide (a = b)) := by
 unfold law03_Same slices_EqualFunc_api_Clause_api_Clause_api_Clause_api_Clause__law03_SameClause
 rw [← zip_all_eq (p := fun x y => decide (x = y)) (fun _ _ => rfl) a b]
 have := all2_of a b (by have := h.1; omega) law03_SameClause (fun x y => decide (x = y)) (fun x hx y _ => same_1 x y (by have := (h.2 x hx).2.1; omega)) (slices_EqualFunc_api_Clause_api_Clause_api_Clause_api_Clause__law03_SameClause_l1 a b) (fun f c => rfl)
 exact (congrArg (fun o => o.bind fun v1 => some v1) this)
/-- Names. -/
def lowB (c : UInt8) : Bool := decide ((c.toNat : Int) < 97) || decide ((c.toNat : Int) > 122)
def isName (s : List UInt8) : Bool := decide (1 ≤ s.length) && decide (s.length ≤ 12) && !s.any lowB
theorem goU_low : ∀ (s : List UInt8) (i : Nat), goU (fun v _ (k : Option (Unit ⊕ Bool)) => if lowB v = true then some (.inr false) else k) (some (.inl ())) s i = some (if s.any lowB = true then .inr false else .inl ())
 | [], _ => rfl
 | c :: s, i => by
  unfold goU
  rw [goU_low s (i + 1), List.any_cons]
  cases lowB c <;> rfl
theorem name_l (s : List UInt8) (h : s.length ≤ 99999) : court_name_l1 s 100000 0 = some (if s.any lowB = true then .inr false else .inl ()) := by
 rw [← goU_low s 0]
 refine loopV0 s (court_name_l1 s) _ _ 100000 (by omega) (fun f pre v r e => ?_) (fun f => ?_)
 ·conv => lhs; unfold court_name_l1
  rw [e, if_pos (lt_len pre v r), idx_app, Option.bind_some, Option.bind_some, wr_snoc pre v r (by rw [← e]; omega)]
  unfold lowB
  by_cases h : (v.toNat : Int) < 97 <;> simp [h]
 ·conv => lhs; unfold court_name_l1
  rw [if_neg (by simp)]
theorem kname_l (s : List UInt8) (h : s.length ≤ 99999) : kit_Name_l1 s 100000 0 = some (if s.any lowB = true then .inr false else .inl ()) := by
 rw [← goU_low s 0]
 refine loopV0 s (kit_Name_l1 s) _ _ 100000 (by omega) (fun f pre v r e => ?_) (fun f => ?_)
 ·conv => lhs; unfold kit_Name_l1
  rw [e, if_pos (lt_len pre v r), idx_app, Option.bind_some, Option.bind_some, wr_snoc pre v r (by rw [← e]; omega)]
  unfold lowB
  by_cases h : (v.toNat : Int) < 97 <;> simp [h]
 ·conv => lhs; unfold kit_Name_l1
  rw [if_neg (by simp)]
theorem name_eq (s : List UInt8) (h : s.length ≤ 99999) : court_name s = some (isName s) := by
 unfold court_name isName
 rw [name_l s h, Option.bind_some]
 cases hb : s.any lowB
 ·by_cases h1 : s.length < 1
  ·have : s.length = 0 := by omega
   simp [this]
  ·simp [show (s.length : Int) ≥ 1 by omega, show 1 ≤ s.length by omega]; omega
 ·simp
theorem kname_eq (s : List UInt8) (h : s.length ≤ 99999) : kit_Name s = some (isName s) := by
 unfold kit_Name isName
 by_cases h1 : s.length < 1
 ·have : s.length = 0 := by omega
  simp [this]
 ·by_cases h2 : s.length > 12
  ·simp [show ¬ ((s.length : Int) < 1) by omega, show ((s.length : Int) > 12) by omega, show ¬ (s.length ≤ 12) by omega]
  ·rw [kname_l s h]
   cases hb : s.any lowB
   ·simp [show ¬ ((s.length : Int) < 1) by omega, show ¬ ((s.length : Int) > 12) by omega, show (s.length ≤ 12) by omega, show 1 ≤ s.length by omega]
   ·simp [show ¬ ((s.length : Int) < 1) by omega, show ¬ ((s.length : Int) > 12) by omega]
theorem names_c (l : List (List UInt8)) (h : l.length ≤ 99999) (hs : ∀ s ∈ l, s.length ≤ 99999) : slices_ContainsFunc_string_string__court_check_1 l = some (l.any fun s => !isName s) := by
 unfold slices_ContainsFunc_string_string__court_check_1 slices_IndexFunc_string_string__court_check_1
 obtain ⟨n, h1, h2⟩ := any_of l h court_check_1 (fun s => !isName s) (fun x hx => by unfold court_check_1; rw [name_eq x (hs x hx)]; rfl) (slices_IndexFunc_string_string__court_check_1_l1 l) (fun f c => rfl)
 rw [← h2]
 exact (congrArg (fun o => o.bind fun v1 => some (decide (v1 ≥ 0))) h1)
def hasB (l : List (List UInt8)) (s : List UInt8) : Bool := l.any fun v => s == v
theorem contains_eq (l : List (List UInt8)) (s : List UInt8) (h : l.length ≤ 99999) : slices_Contains_string_string l s = some (hasB l s) := by
 unfold slices_Contains_string_string slices_Index_string_string
 obtain ⟨n, h1, h2⟩ := any_of l h (fun v => some (s == v)) (fun v => s == v) (fun _ _ => rfl) (slices_Index_string_string_l1 l s) (fun f c => rfl)
 unfold hasB
 rw [← h2]
 exact (congrArg (fun o => o.bind fun v1 => some (decide (v1 ≥ 0))) h1)
theorem goU_has (s : List UInt8) : ∀ (l : List (List UInt8)) (i : Nat), goU (fun v _ (k : Option (Unit ⊕ Bool)) => if (v == s) = true then some (.inr true) else k) (some (.inl ())) l i = some (if hasB l s = true then .inr true else .inl ())
 | [], _ => rfl
 | c :: l, i => by
  unfold goU
  rw [goU_has s l (i + 1)]
  have : hasB (c :: l) s = ((c == s) || hasB l s) := by
   unfold hasB
   rw [List.any_cons, Bool.beq_comm]
  rw [this]
  cases (c == s) <;> rfl
theorem has_eq (l : List (List UInt8)) (s : List UInt8) (h : l.length ≤ 99999) : ref03_has l s = some (hasB l s) := by
 unfold ref03_has
 have e := loopU l (ref03_has_l1 l s) (fun v _ (k : Option (Unit ⊕ Bool)) => if (v == s) = true then some (.inr true) else k) (some (.inl ())) 100000 (by omega) (by omega) (fun f c => rfl)
 rw [e, goU_has]
 cases hasB l s <;> rfl
/-- What is asked of the fields, by a row: names, from, to, last. -/
def fin (L : Nat) (n : Int) (la : Bool) (w : Int × Int × Int × Bool) : Option Bool :=
 (if (decide ((L : Int) ≤ w.1)) = true then if (w.1 == 0) = true then if (decide (n ≥ w.2.1)) = true then if (decide (n ≤ w.2.2.1)) = true then if w.2.2.2 = true then some true else some (!la) else some false else some false else if (decide ((L : Int) > 0)) = true then if (decide (n ≥ w.2.1)) = true then if (decide (n ≤ w.2.2.1)) = true then if w.2.2.2 = true then some true else some (!la) else some false else some false else some false else some false).bind fun j58 => some j58
theorem fin_eq (L : Nat) (n : Int) (la : Bool) (a lo hi : Int) (last : Bool) : fin L n la (a, lo, hi, last) = some ((decide ((L : Int) ≤ a) && (a == 0 || decide ((L : Int) > 0))) && (decide (n ≥ lo) && (decide (n ≤ hi) && (last || !la)))) := by
 unfold fin
 dsimp only
 generalize decide ((L : Int) ≤ a) = b1
 generalize (a == 0) = b2
 generalize decide ((L : Int) > 0) = b3
 generalize decide (n ≥ lo) = b4
 generalize decide (n ≤ hi) = b5
 cases b1 <;> cases b2 <;> cases b3 <;> cases b4 <;> cases b5 <;> cases last <;> cases la <;> rfl
theorem formed_eq (x : Clause) : ∃ b, court_formed x = some b ∧ ref03_formed x = some b := by
 obtain ⟨k, am, la, nm, n⟩ := x
 by_cases h1 : k = 1
 ·subst h1
  have hr : ref03_formed (1, am, la, nm, n) = some ((decide (1 ≤ (nm.length : Int)) && decide ((nm.length : Int) ≤ 16)) && ((n == 0) && (!la && (am == [])))) := by
   unfold ref03_formed
   unfold ref03_between
   dsimp only
   generalize decide (1 ≤ (nm.length : Int)) = b0
   generalize decide ((nm.length : Int) ≤ 16) = b1
   generalize (n == 0) = b2
   generalize (am == []) = b3
   cases b0 <;> cases b1 <;> cases b2 <;> cases la <;> cases b3 <;> rfl
  refine ⟨_, ?_, hr⟩
  cases am with
  | cons a am =>
   have hc : court_formed (1, a :: am, la, nm, n) = some false := rfl
   rw [hc]
   simp
  | nil =>
   have hc : court_formed (1, [], la, nm, n) = fin nm.length n la (16, 0, 0, false) := rfl
   rw [hc, fin_eq]
   congr 1
   rw [Bool.eq_iff_iff]
   generalize nm.length = L
   cases la <;> simp <;> omega
 by_cases h2 : k = 2
 ·subst h2
  have hr : ref03_formed (2, am, la, nm, n) = some (((nm.length : Int) == 0) && ((n == 0) && !la)) := by
   unfold ref03_formed
   unfold ref03_between
   dsimp only
   generalize ((nm.length : Int) == 0) = b0
   generalize (n == 0) = b1
   cases b0 <;> cases b1 <;> cases la <;> rfl
  refine ⟨_, ?_, hr⟩
  have hc : court_formed (2, am, la, nm, n) = fin nm.length n la (0, 0, 0, false) := rfl
  rw [hc, fin_eq]
  congr 1
  rw [Bool.eq_iff_iff]
  generalize nm.length = L
  cases la <;> simp <;> omega
 by_cases h3 : k = 3
 ·subst h3
  have hr : ref03_formed (3, am, la, nm, n) = some (((nm.length : Int) == 0) && ((n == 0) && !la)) := by
   unfold ref03_formed
   unfold ref03_between
   dsimp only
   generalize ((nm.length : Int) == 0) = b0
   generalize (n == 0) = b1
   cases b0 <;> cases b1 <;> cases la <;> rfl
  refine ⟨_, ?_, hr⟩
  have hc : court_formed (3, am, la, nm, n) = fin nm.length n la (0, 0, 0, false) := rfl
  rw [hc, fin_eq]
  congr 1
  rw [Bool.eq_iff_iff]
  generalize nm.length = L
  cases la <;> simp <;> omega
 by_cases h8 : k = 8
 ·subst h8
  have hr : ref03_formed (8, am, la, nm, n) = some (((nm.length : Int) == 0) && ((n == 0) && !la)) := by
   unfold ref03_formed
   unfold ref03_between
   dsimp only
   generalize ((nm.length : Int) == 0) = b0
   generalize (n == 0) = b1
   cases b0 <;> cases b1 <;> cases la <;> rfl
  refine ⟨_, ?_, hr⟩
  have hc : court_formed (8, am, la, nm, n) = fin nm.length n la (0, 0, 0, false) := rfl
  rw [hc, fin_eq]
  congr 1
  rw [Bool.eq_iff_iff]
  generalize nm.length = L
  cases la <;> simp <;> omega
 by_cases h9 : k = 9
 ·subst h9
  have hr : ref03_formed (9, am, la, nm, n) = some (((nm.length : Int) == 0) && ((n == 0) && !la)) := by
   unfold ref03_formed
   unfold ref03_between
   dsimp only
   generalize ((nm.length : Int) == 0) = b0
   generalize (n == 0) = b1
   cases b0 <;> cases b1 <;> cases la <;> rfl
  refine ⟨_, ?_, hr⟩
  have hc : court_formed (9, am, la, nm, n) = fin nm.length n la (0, 0, 0, false) := rfl
  rw [hc, fin_eq]
  congr 1
  rw [Bool.eq_iff_iff]
  generalize nm.length = L
  cases la <;> simp <;> omega
 by_cases h4 : k = 4
 ·subst h4
  have hr : ref03_formed (4, am, la, nm, n) = some (((nm.length : Int) == 0) && (decide (1 ≤ n) && decide (n ≤ 2))) := by
   unfold ref03_formed
   unfold ref03_between
   dsimp only
   generalize ((nm.length : Int) == 0) = b0
   generalize decide (1 ≤ n) = b1
   generalize decide (n ≤ 2) = b2
   cases b0 <;> cases b1 <;> cases b2 <;> cases la <;> rfl
  refine ⟨_, ?_, hr⟩
  have hc : court_formed (4, am, la, nm, n) = fin nm.length n la (0, 1, 2, true) := rfl
  rw [hc, fin_eq]
  congr 1
  rw [Bool.eq_iff_iff]
  generalize nm.length = L
  cases la <;> simp <;> omega
 by_cases h5 : k = 5
 ·subst h5
  have hr : ref03_formed (5, am, la, nm, n) = some (((nm.length : Int) == 0) && (n == 0)) := by
   unfold ref03_formed
   unfold ref03_between
   dsimp only
   generalize ((nm.length : Int) == 0) = b0
   generalize (n == 0) = b1
   cases b0 <;> cases b1 <;> cases la <;> rfl
  refine ⟨_, ?_, hr⟩
  have hc : court_formed (5, am, la, nm, n) = fin nm.length n la (0, 0, 0, true) := rfl
  rw [hc, fin_eq]
  congr 1
  rw [Bool.eq_iff_iff]
  generalize nm.length = L
  cases la <;> simp <;> omega
 by_cases h6 : k = 6
 ·subst h6
  have hr : ref03_formed (6, am, la, nm, n) = some ((decide (1 ≤ (nm.length : Int)) && decide ((nm.length : Int) ≤ 16)) && (n == 0)) := by
   unfold ref03_formed
   unfold ref03_between
   dsimp only
   generalize decide (1 ≤ (nm.length : Int)) = b0
   generalize decide ((nm.length : Int) ≤ 16) = b1
   generalize (n == 0) = b2
   cases b0 <;> cases b1 <;> cases b2 <;> cases la <;> rfl
  refine ⟨_, ?_, hr⟩
  have hc : court_formed (6, am, la, nm, n) = fin nm.length n la (16, 0, 0, true) := rfl
  rw [hc, fin_eq]
  congr 1
  rw [Bool.eq_iff_iff]
  generalize nm.length = L
  cases la <;> simp <;> omega
 by_cases h7 : k = 7
 ·subst h7
  have hr : ref03_formed (7, am, la, nm, n) = some ((decide (1 ≤ (nm.length : Int)) && decide ((nm.length : Int) ≤ 16)) && (n == 0)) := by
   unfold ref03_formed
   unfold ref03_between
   dsimp only
   generalize decide (1 ≤ (nm.length : Int)) = b0
   generalize decide ((nm.length : Int) ≤ 16) = b1
   generalize (n == 0) = b2
   cases b0 <;> cases b1 <;> cases b2 <;> cases la <;> rfl
  refine ⟨_, ?_, hr⟩
  have hc : court_formed (7, am, la, nm, n) = fin nm.length n la (16, 0, 0, true) := rfl
  rw [hc, fin_eq]
  congr 1
  rw [Bool.eq_iff_iff]
  generalize nm.length = L
  cases la <;> simp <;> omega
 by_cases h10 : k = 10
 ·subst h10
  have hr : ref03_formed (10, am, la, nm, n) = some (((nm.length : Int) == 0) && ((decide (0 ≤ n) && decide (n ≤ 63)) && !la)) := by
   unfold ref03_formed
   unfold ref03_between
   dsimp only
   generalize ((nm.length : Int) == 0) = b0
   generalize decide (0 ≤ n) = b1
   generalize decide (n ≤ 63) = b2
   cases b0 <;> cases b1 <;> cases b2 <;> cases la <;> rfl
  refine ⟨_, ?_, hr⟩
  have hc : court_formed (10, am, la, nm, n) = fin nm.length n la (0, 0, 63, false) := rfl
  rw [hc, fin_eq]
  congr 1
  rw [Bool.eq_iff_iff]
  generalize nm.length = L
  cases la <;> simp <;> omega
 have e : ∀ m : Int, (m = 1 ∨ m = 2 ∨ m = 3 ∨ m = 4 ∨ m = 5 ∨ m = 6 ∨ m = 7 ∨ m = 8 ∨ m = 9 ∨ m = 10) → (k == m) = false := fun m hm => by
  rw [beq_eq_false_iff_ne]
  rintro rfl
  omega
 refine ⟨false, ?_, ?_⟩
 ·simp [court_formed, court_formed_j1, court_formed_j2, court_formed_j3, court_formed_j4, court_formed_j5, court_formed_j6, court_formed_j7, court_formed_j8, court_formed_j9, e]
 ·simp [ref03_formed, ref03_formed_j1, ref03_formed_j2, ref03_formed_j3, ref03_formed_j4, e]
/- trestle/trestlelaw03.checks -/
/- trestle/trestlelaw03.CourtChecks -/
def fm (x : Clause) : Bool := (ref03_formed x).getD false
theorem fm_c (x : Clause) : court_formed x = some (fm x) := by
 obtain ⟨b, h1, h2⟩ := formed_eq x
 rw [h1]; unfold fm; rw [h2]; rfl
theorem fm_r (x : Clause) : ref03_formed x = some (fm x) := by
 obtain ⟨b, h1, h2⟩ := formed_eq x
 unfold fm; rw [h2]; rfl
/-- Is a name there twice? -/
def dupL (l : List (List UInt8)) : List (List UInt8) → Nat → Bool
 | [], _ => false
 | v :: r, i => hasB (l.take i) v || dupL l r (i + 1)
def ranked (before : List Clause) (am : List UInt8) : Bool := before.any fun b => (b.1 == 1) && hasB b.2.2.2.1 am
def chk (before : List Clause) (x : Clause) : Int :=
 if fm x = false then 30 else
 if ((!(x.2.1 == [])) && !isName x.2.1) = true ∨ (x.2.2.2.1.any fun s => !isName s) = true then 4 else
 if dupL x.2.2.2.1 x.2.2.2.1 0 = true then 5 else
 if x.2.1 = [] ∨ ranked before x.2.1 = true then 0 else 31
theorem goU_dup (l : List (List UInt8)) : ∀ (r : List (List UInt8)) (i : Nat), goU (fun v i (k : Option (Unit ⊕ Int)) => if hasB (l.take i) v = true then some (.inr 5) else k) (some (.inl ())) r i = some (if dupL l r i = true then .inr 5 else .inl ())
 | [], _ => rfl
 | v :: r, i => by
  unfold goU dupL
  rw [goU_dup l r (i + 1)]
  cases hasB (l.take i) v <;> rfl
theorem dup_c (b : List Clause) (j : Clause) (h : j.2.2.2.1.length ≤ 99999) : court_check_l1 b j 100000 0 = some (if dupL j.2.2.2.1 j.2.2.2.1 0 = true then .inr 5 else .inl ()) := by
 rw [← goU_dup]
 refine loopV0 j.2.2.2.1 (court_check_l1 b j) _ _ 100000 (by omega) (fun f pre v r e => ?_) (fun f => ?_)
 ·conv => lhs; unfold court_check_l1
  have hl : j.2.2.2.1.length = pre.length + r.length + 1 := by rw [e]; simp; omega
  rw [if_pos (by rw [e]; exact lt_len pre v r), show idx j.2.2.2.1 (pre.length : Int) = some v by rw [e, idx_app], Option.bind_some, if_pos (by unfold cutOk; simp; omega), Int.toNat_natCast]
  rw [show ((j.2.2.2.1.take pre.length).drop (0 : Int).toNat) = j.2.2.2.1.take pre.length from rfl, contains_eq _ _ (by simp; omega), Option.bind_some, wr_snoc pre v r (by rw [← e]; omega)]
 ·conv => lhs; unfold court_check_l1
  rw [if_neg (by simp)]
theorem ranked_c (b : List Clause) (x : Clause) (h : b.length ≤ 99999) (hb : ∀ y ∈ b, y.2.2.2.1.length ≤ 99999) : slices_ContainsFunc_api_Clause_api_Clause__court_check_2 b x = some (ranked b x.2.1) := by
 unfold slices_ContainsFunc_api_Clause_api_Clause__court_check_2 slices_IndexFunc_api_Clause_api_Clause__court_check_2
 obtain ⟨n, h1, h2⟩ := any_of b h (fun v => court_check_2 v x) (fun y => (y.1 == 1) && hasB y.2.2.2.1 x.2.1) (fun y hy => by
  unfold court_check_2
  rw [contains_eq _ _ (hb y hy)]
  cases (y.1 == 1) <;> rfl) (slices_IndexFunc_api_Clause_api_Clause__court_check_2_l1 b x) (fun f c => rfl)
 unfold ranked
 rw [← h2]
 exact (congrArg (fun o => o.bind fun v1 => some (decide (v1 ≥ 0))) h1)
theorem chk_c (b : List Clause) (x : Clause) (hb : few b) (hx : few1 x) : court_check b x = some (chk b x) := by
 have hn : ∀ s ∈ x.2.2.2.1, s.length ≤ 99999 := fun s hs => by have := hx.2.2 s hs; omega
 unfold court_check chk
 rw [fm_c, Option.bind_some]
 cases hf : fm x with
 | false => simp
 | true =>
  rw [if_neg (show ¬ ((!true) = true) by simp), if_neg (show ¬ (true = false) by simp), names_c _ (by have := hx.2.1; omega) hn, name_eq _ (by have := hx.1; omega)]
  have e : ((if (!(x.2.1 == [])) = true then (some (isName x.2.1)).bind fun v3 => if (!v3) = true then some true else (some (x.2.2.2.1.any fun s => !isName s)).bind fun v4 => some v4 else (some (x.2.2.2.1.any fun s => !isName s)).bind fun v5 => some v5) : Option Bool) = some (((!(x.2.1 == [])) && !isName x.2.1) || (x.2.2.2.1.any fun s => !isName s)) := by
   cases (x.2.1 == []) <;> cases isName x.2.1 <;> rfl
  rw [e, Option.bind_some]
  cases hq : (((!(x.2.1 == [])) && !isName x.2.1) || (x.2.2.2.1.any fun s => !isName s)) with
  | true => rw [if_pos rfl, if_pos (by simpa using hq)]
  | false =>
   rw [if_neg (show ¬ (false = true) by simp), if_neg (show ¬ (((!(x.2.1 == [])) && !isName x.2.1) = true ∨ (x.2.2.2.1.any fun s => !isName s) = true) by simpa using hq), dup_c _ _ (by have := hx.2.1; omega), Option.bind_some]
   try dsimp only
   cases hd : dupL x.2.2.2.1 x.2.2.2.1 0 with
   | true => rfl
   | false =>
    rw [if_neg (show ¬ (false = true) by simp)]
    dsimp only
    have hr := ranked_c b x (by have := hb.1; omega) (fun y hy => by have := (hb.2 y hy).2.1; omega)
    rw [hr]
    by_cases ha : x.2.1 = []
    ·simp [ha]
    ·simp only [ha, false_or]
     cases ranked b x.2.1 <;> simp [ha]
/-- .. of the reference. -/
theorem goU_nm : ∀ (l : List (List UInt8)) (i : Nat), goU (fun v _ (k : Option (Unit ⊕ Int)) => if (!isName v) = true then some (.inr 4) else k) (some (.inl ())) l i = some (if (l.any fun s => !isName s) = true then .inr 4 else .inl ())
 | [], _ => rfl
 | v :: r, i => by
  unfold goU
  rw [goU_nm r (i + 1), List.any_cons]
  cases isName v <;> rfl
theorem goU_rk (am : List UInt8) : ∀ (l : List Clause) (i : Nat), goU (fun (v : Clause) _ (k : Option (Unit ⊕ Int)) => if ((v.1 == 1) && hasB v.2.2.2.1 am) = true then some (.inr 0) else k) (some (.inl ())) l i = some (if ranked l am = true then .inr 0 else .inl ())
 | [], _ => rfl
 | v :: r, i => by
  unfold goU
  have : ranked (v :: r) am = (((v.1 == 1) && hasB v.2.2.2.1 am) || ranked r am) := rfl
  rw [goU_rk am r (i + 1), this]
  cases ((v.1 == 1) && hasB v.2.2.2.1 am) <;> rfl
section
variable (c pre r : List Clause) (x : Clause) (e : c = pre ++ x :: r) (h : few c)
include e h
theorem ref_names : ref03_CheckOne_l1 c (pre.length : Int) 100000 0 = some (if (x.2.2.2.1.any fun s => !isName s) = true then .inr 4 else .inl ()) := by
 have hx : few1 x := h.2 x (by rw [e]; simp)
 have hi : idx c (pre.length : Int) = some x := by rw [e, idx_app]
 rw [← goU_nm _ 0]
 refine loopV0 x.2.2.2.1 (ref03_CheckOne_l1 c (pre.length : Int)) _ _ 100000 (by have := hx.2.1; omega) (fun f p v q e' => ?_) (fun f => ?_)
 ·conv => lhs; unfold ref03_CheckOne_l1
  have hv := hx.2.2 v (by rw [e']; simp)
  rw [hi, Option.bind_some, if_pos (by rw [e']; exact lt_len p v q), Option.bind_some, show idx x.2.2.2.1 (p.length : Int) = some v by rw [e', idx_app], Option.bind_some, kname_eq v (by omega), Option.bind_some, wr_snoc p v q (by have := hx.2.1; rw [← e']; omega)]
 ·conv => lhs; unfold ref03_CheckOne_l1
  rw [hi, Option.bind_some, if_neg (by simp)]
theorem ref_dup : ref03_CheckOne_l2 c (pre.length : Int) 100000 0 = some (if dupL x.2.2.2.1 x.2.2.2.1 0 = true then .inr 5 else .inl ()) := by
 have hx : few1 x := h.2 x (by rw [e]; simp)
 have hi : idx c (pre.length : Int) = some x := by rw [e, idx_app]
 rw [← goU_dup]
 refine loopV0 x.2.2.2.1 (ref03_CheckOne_l2 c (pre.length : Int)) _ _ 100000 (by have := hx.2.1; omega) (fun f p v q e' => ?_) (fun f => ?_)
 ·conv => lhs; unfold ref03_CheckOne_l2
  have hl : x.2.2.2.1.length = p.length + q.length + 1 := by rw [e']; simp; omega
  have := hx.2.1
  rw [hi, Option.bind_some, if_pos (by rw [e']; exact lt_len p v q), Option.bind_some, if_pos (by unfold cutOk; simp; omega), Option.bind_some, show idx x.2.2.2.1 (p.length : Int) = some v by rw [e', idx_app], Option.bind_some, Int.toNat_natCast,
   show ((x.2.2.2.1.take p.length).drop (0 : Int).toNat) = x.2.2.2.1.take p.length from rfl, has_eq _ _ (by simp; omega), Option.bind_some, wr_snoc p v q (by rw [← e']; omega)]
 ·conv => lhs; unfold ref03_CheckOne_l2
  rw [hi, Option.bind_some, if_neg (by simp)]
theorem ref_ranked : ref03_CheckOne_l3 c (pre.length : Int) 100000 0 = some (if ranked pre x.2.1 = true then .inr 0 else .inl ()) := by
 have hi : idx c (pre.length : Int) = some x := by rw [e, idx_app]
 have hl : c.length = pre.length + r.length + 1 := by rw [e]; simp; omega
 have hc := h.1
 rw [← goU_rk _ _ 0]
 refine loopV0 pre (ref03_CheckOne_l3 c (pre.length : Int)) _ _ 100000 (by omega) (fun f p v q e' => ?_) (fun f => ?_)
 ·conv => lhs; unfold ref03_CheckOne_l3
  have hv : few1 v := h.2 v (by rw [e, e']; simp)
  have hl2 : pre.length = p.length + q.length + 1 := by rw [e']; simp; omega
  rw [if_pos (by simp; omega), show idx c (p.length : Int) = some v by rw [e, e', List.append_assoc, List.cons_append, idx_app], Option.bind_some, hi, Option.bind_some, Option.bind_some, has_eq _ _ (by have := hv.2.1; omega), wr_snoc p v q (by rw [← e']; omega)]
  cases (v.1 == 1) <;> rfl
 ·conv => lhs; unfold ref03_CheckOne_l3
  rw [if_neg (by simp)]
theorem chk_r : ref03_CheckOne c (pre.length : Int) = some (chk pre x) := by
 have hx : few1 x := h.2 x (by rw [e]; simp)
 have hi : idx c (pre.length : Int) = some x := by rw [e, idx_app]
 unfold ref03_CheckOne chk
 rw [hi, Option.bind_some, fm_r, Option.bind_some, Option.bind_some, Option.bind_some, ref_names c pre r x e h, ref_dup c pre r x e h, ref_ranked c pre r x e h, kname_eq _ (by have := hx.1; omega)]
 cases hf : fm x with
 | false => simp
 | true =>
  rw [if_neg (show ¬ ((!true) = true) by simp), if_neg (show ¬ (true = false) by simp)]
  have e2 : ((if (!(x.2.1 == [])) = true then (some (isName x.2.1)).bind fun v6 => some (!v6) else some false) : Option Bool) = some ((!(x.2.1 == [])) && !isName x.2.1) := by
   cases (x.2.1 == []) <;> rfl
  rw [e2, Option.bind_some, Option.bind_some]
  cases hq : ((!(x.2.1 == [])) && !isName x.2.1) <;> cases hn : (x.2.2.2.1.any fun s => !isName s) <;> cases hd : dupL x.2.2.2.1 x.2.2.2.1 0 <;> cases hr : ranked pre x.2.1 <;> by_cases ha : x.2.1 = [] <;> simp [ha]
end
/-- The first error of a text: its place, and which. -/
def chkL (c : List Clause) : List Clause → Nat → Unit ⊕ (Int × Int)
 | [], _ => .inl ()
 | x :: r, i => if chk (c.take i) x ≠ 0 then .inr ((i : Int), chk (c.take i) x) else chkL c r (i + 1)
def chkT (c : List Clause) : Int × Int := if c.length > 32 then (0, 7) else match chkL c c 0 with
 | .inl _ => (0, 0)
 | .inr w => w
theorem goU_chk (c : List Clause) : ∀ (r : List Clause) (i : Nat), goU (fun x i (k : Option (Unit ⊕ (Int × Int))) => if (chk (c.take i) x != 0) = true then some (.inr ((i : Int), chk (c.take i) x)) else k) (some (.inl ())) r i = some (chkL c r i)
 | [], _ => rfl
 | x :: r, i => by
  unfold goU chkL
  rw [goU_chk c r (i + 1)]
  by_cases h : chk (c.take i) x = 0 <;> simp [h]
theorem few_take {c : List Clause} (h : few c) (n : Nat) : few (c.take n) := ⟨by have := h.1; simp; omega, fun x hx => h.2 x (List.mem_of_mem_take hx)⟩
theorem check_c (c : List Clause) (h : few c) : court_Check c = some (chkT c) := by
 have hl := h.1
 have e1 : court_Check_l1 c 100000 0 = some (chkL c c 0) := by
  rw [← goU_chk]
  refine loopV0 c (court_Check_l1 c) _ _ 100000 (by omega) (fun f pre v r e => ?_) (fun f => ?_)
  ·conv => lhs; unfold court_Check_l1
   have hl2 : c.length = pre.length + r.length + 1 := by rw [e]; simp; omega
   rw [if_pos (by rw [e]; exact lt_len pre v r), show idx c (pre.length : Int) = some v by rw [e, idx_app], Option.bind_some, if_pos (by unfold cutOk; simp; omega), Int.toNat_natCast,
    show ((c.take pre.length).drop (0 : Int).toNat) = c.take pre.length from rfl, chk_c _ v (few_take h _) (h.2 v (by rw [e]; simp)), Option.bind_some, wr_snoc pre v r (by rw [← e]; omega)]
  ·conv => lhs; unfold court_Check_l1
   rw [if_neg (by simp)]
 unfold court_Check chkT
 by_cases h32 : c.length > 32
 ·rw [if_pos (by simp; omega), if_pos h32]
 ·rw [if_neg (by simp; omega), if_neg h32, e1, Option.bind_some]
  cases chkL c c 0 <;> rfl
theorem check_r (c : List Clause) (h : few c) : ref03_Check c = some (chkT c) := by
 have hl := h.1
 have e1 : ref03_Check_l1 c 100000 0 = some (chkL c c 0) := by
  rw [← goU_chk]
  refine loopV0 c (ref03_Check_l1 c) _ _ 100000 (by omega) (fun f pre v r e => ?_) (fun f => ?_)
  ·conv => lhs; unfold ref03_Check_l1
   rw [if_pos (by rw [e]; exact lt_len pre v r), chk_r c pre r v e h, Option.bind_some, wr_snoc pre v r (by rw [← e]; omega), show c.take pre.length = pre by rw [e]; simp]
  ·conv => lhs; unfold ref03_Check_l1
   rw [if_neg (by simp)]
 unfold ref03_Check chkT
 by_cases h32 : c.length > 32
 ·rw [if_pos (by simp; omega), if_pos h32]
 ·rw [if_neg (by simp; omega), if_neg h32, e1, Option.bind_some]
  cases chkL c c 0 <;> rfl
/-- The first of a word in a list, from a number on. -/
def rkN (s : List UInt8) : List (List UInt8) → Nat → Nat
 | [], i => i
 | v :: r, i => if (s == v) = true then i else rkN s r (i + 1)
theorem rkN_no (s : List UInt8) : ∀ (l : List (List UInt8)) (i : Nat), hasB l s = false → rkN s l i = i + l.length
 | [], i, _ => rfl
 | v :: r, i, h => by
  have h' : ((s == v) || hasB r s) = false := h
  simp only [Bool.or_eq_false_iff] at h'
  unfold rkN
  rw [if_neg (show ¬ (s == v) = true by rw [h'.1]; decide), rkN_no s r (i + 1) h'.2]
  simp; omega
theorem goU_ix (s : List UInt8) : ∀ (l : List (List UInt8)) (i : Nat), goU (fun v i (k : Option (Unit ⊕ Int)) => if (s == v) = true then some (.inr (i : Int)) else k) (some (.inl ())) l i = some (if hasB l s = true then .inr (rkN s l i : Int) else .inl ())
 | [], _ => rfl
 | v :: r, i => by
  unfold goU rkN
  rw [goU_ix s r (i + 1)]
  have : hasB (v :: r) s = ((s == v) || hasB r s) := rfl
  rw [this]
  cases (s == v) <;> rfl
theorem goU_ix2 (s : List UInt8) (l : List (List UInt8)) (i : Nat) : goU (fun v i (k : Option (Unit ⊕ Int)) => if (v == s) = true then some (.inr (i : Int)) else k) (some (.inl ())) l i = some (if hasB l s = true then .inr (rkN s l i : Int) else .inl ()) := by
 rw [← goU_ix]
 congr 1
 funext v i k
 rw [Bool.beq_comm]
def rk (l : List (List UInt8)) (s : List UInt8) : Int := (rkN s l 0 : Nat)
theorem rank_c (x : Seated) (c : Clause) (h : c.2.2.2.1.length ≤ 99999) : court_plain_1 x c = some (rk c.2.2.2.1 x.1.2.1) := by
 unfold court_plain_1 slices_Index_string_string
 have e : slices_Index_string_string_l1 c.2.2.2.1 x.1.2.1 100000 0 = some (if hasB c.2.2.2.1 x.1.2.1 = true then .inr (rkN x.1.2.1 c.2.2.2.1 0 : Int) else .inl ()) := by
  rw [← goU_ix]
  refine loopV0 c.2.2.2.1 (slices_Index_string_string_l1 c.2.2.2.1 x.1.2.1) _ _ 100000 (by omega) (fun f pre v r e => ?_) (fun f => ?_)
  ·conv => lhs; unfold slices_Index_string_string_l1
   rw [if_pos (by rw [e]; exact lt_len pre v r), show idx c.2.2.2.1 (pre.length : Int) = some v by rw [e, idx_app], Option.bind_some, wr_snoc pre v r (by rw [← e]; omega)]
  ·conv => lhs; unfold slices_Index_string_string_l1
   rw [if_neg (by simp)]
 rw [e]
 cases hh : hasB c.2.2.2.1 x.1.2.1 with
 | true => simp [rk]
 | false => simp [rk, rkN_no _ _ _ hh]
theorem rank_r (l : List (List UInt8)) (s : List UInt8) (h : l.length ≤ 99999) : ref03_rank l s = some (rk l s) := by
 unfold ref03_rank
 have e : ref03_rank_l1 l s 100000 0 = some (if hasB l s = true then .inr (rkN s l 0 : Int) else .inl ()) := by
  rw [← goU_ix2]
  refine loopV0 l (ref03_rank_l1 l s) _ _ 100000 (by omega) (fun f pre v r e => ?_) (fun f => ?_)
  ·conv => lhs; unfold ref03_rank_l1
   rw [if_pos (by rw [e]; exact lt_len pre v r), show idx l (pre.length : Int) = some v by rw [e, idx_app], Option.bind_some, wr_snoc pre v r (by rw [← e]; omega)]
  ·conv => lhs; unfold ref03_rank_l1
   rw [if_neg (by simp)]
 rw [e]
 cases hh : hasB l s with
 | true => simp [rk]
 | false => simp [rk, rkN_no _ _ _ hh]
/-- -1, 0 or 1. -/
def cmpI (x y : Int) : Int := if x < y then -1 else if y < x then 1 else 0
theorem cmp_i (x y : Int) : cmp_Compare_int x y = some (cmpI x y) := by
 unfold cmp_Compare_int cmp_isNaN_int cmpI
 simp only [bne_self_eq_false, Option.bind_some, Bool.false_eq_true, if_false, decide_eq_true_eq, gt_iff_lt]
 split
 ·rfl
 ·split <;> rfl
def cmpS (x y : List UInt8) : Int := if Go.Op.bytesLess x y = true then -1 else if (!(Go.Op.bytesLess x y || x == y)) = true then 1 else 0
theorem cmp_s (x y : List UInt8) : cmp_Compare_string x y = some (cmpS x y) := by
 unfold cmp_Compare_string cmp_isNaN_string cmpS
 simp only [beq_self_eq_true, Bool.not_true, Option.bind_some, Bool.false_eq_true, if_false]
 split
 ·rfl
 ·split <;> rfl
/-- Does a clause name a guest? -/
def nmB (c : Clause) (g : Guest) : Bool :=
 if (c.1 == 4) = true then g.2.2.2.2.1 == c.2.2.2.2 else
 if (c.1 == 5) = true then g.2.2.2.2.2.2.1 else
 if (c.1 == 7) = true then hasB c.2.2.2.1 g.2.2.1 else g.2.2.2.2.2.2.2.2.any fun s => hasB c.2.2.2.1 s
theorem goU_tg (l : List (List UInt8)) : ∀ (t : List (List UInt8)) (i : Nat), goU (fun v _ (k : Option (Unit ⊕ Bool)) => if hasB l v = true then some (.inr true) else k) (some (.inl ())) t i = some (if (t.any fun s => hasB l s) = true then .inr true else .inl ())
 | [], _ => rfl
 | v :: r, i => by
  unfold goU
  rw [goU_tg l r (i + 1), List.any_cons]
  cases hasB l v <;> rfl
theorem named_r (c : Clause) (g : Guest) (h : c.2.2.2.1.length ≤ 99999) (ht : g.2.2.2.2.2.2.2.2.length ≤ 99999) : ref03_named c g = some (nmB c g) := by
 unfold ref03_named nmB
 split
 ·rfl
 split
 ·rfl
 split
 ·rw [has_eq _ _ h]; rfl
 have e : ref03_named_l1 c g 100000 0 = some (if (g.2.2.2.2.2.2.2.2.any fun s => hasB c.2.2.2.1 s) = true then .inr true else .inl ()) := by
  rw [← goU_tg _ _ 0]
  refine loopV0 g.2.2.2.2.2.2.2.2 (ref03_named_l1 c g) _ _ 100000 (by omega) (fun f pre v r e => ?_) (fun f => ?_)
  ·conv => lhs; unfold ref03_named_l1
   rw [if_pos (by rw [e]; exact lt_len pre v r), show idx g.2.2.2.2.2.2.2.2 (pre.length : Int) = some v by rw [e, idx_app], Option.bind_some, has_eq _ _ h, Option.bind_some, wr_snoc pre v r (by rw [← e]; omega)]
  ·conv => lhs; unfold ref03_named_l1
   rw [if_neg (by simp)]
 rw [e]
 cases (g.2.2.2.2.2.2.2.2.any fun s => hasB c.2.2.2.1 s) <;> rfl
theorem tongues_c (t : List (List UInt8)) (c : Clause) (ht : t.length ≤ 99999) (h : c.2.2.2.1.length ≤ 99999) : slices_ContainsFunc_string_string__court_plain_5_1 t c = some (t.any fun s => hasB c.2.2.2.1 s) := by
 unfold slices_ContainsFunc_string_string__court_plain_5_1 slices_IndexFunc_string_string__court_plain_5_1
 obtain ⟨n, h1, h2⟩ := any_of t ht (fun v => court_plain_5_1 v c) (fun s => hasB c.2.2.2.1 s) (fun v _ => by unfold court_plain_5_1; rw [contains_eq _ _ h]; rfl) (slices_IndexFunc_string_string__court_plain_5_1_l1 t c) (fun f c => rfl)
 rw [← h2]
 exact (congrArg (fun o => o.bind fun v1 => some (decide (v1 ≥ 0))) h1)
def nv (c : Clause) (g : Guest) : Int := if (!(nmB c g == c.2.2.1)) = true then 0 else 1
def insB (i : Int) : Bool := decide (i ≥ 0) && decide (i ≤ 63)
theorem ins_c (i : Int) : court_placed_1 i = some (insB i) := by
 unfold court_placed_1 insB
 by_cases h : i ≥ 0 <;> simp [h]
theorem ins_r (i : Int) : ref03_between i 0 63 = some (insB i) := by
 unfold ref03_between insB
 by_cases h : i ≥ 0 <;> simp [h]
def kyI (i n : Int) : Int := (wr .i64 ((wr .i64 (i * (wr .i64 ((wr .i64 (n + n)) + 1)))) + n)).tmod 64
theorem key_c (i : Int) (c : Clause) : court_plain_8 i c = some (kyI i c.2.2.2.2) := by
 unfold court_plain_8 kyI
 rw [Int.two_mul]
theorem key_r (i n : Int) : ref03_key i n = some (kyI i n) := rfl
def b2 (b : Bool) : Int := if b = true then 1 else 0
theorem b2_c (b : Bool) : court_b2i b = some (b2 b) := by cases b <;> rfl
def snc (y : Bool) (s t : Int) : Int := if (!((s == 0) == (t == 0))) = true then cmpI (b2 (s == 0)) (b2 (t == 0)) else if y = true then wr .i64 (0 - cmpI s t) else cmpI s t
/-- What a clause says of two guests at their places, without regard to Among. -/
def ordP (c : Clause) (a b : Guest) (i j : Int) : Int :=
 if (c.1 == 1) = true then cmpI (rk c.2.2.2.1 a.2.1) (rk c.2.2.2.1 b.2.1) else
 if (c.1 == 2) = true then snc false a.2.2.2.1 b.2.2.2.1 else
 if (c.1 == 3) = true then snc true a.2.2.2.1 b.2.2.2.1 else
 if (c.1 == 8) = true then cmpS a.1 b.1 else
 if (c.1 == 9) = true then if (!insB i || !insB j) = true then 0 else cmpI i j else
 if (c.1 == 10) = true then if (!insB i || !insB j) = true then 0 else cmpI (kyI i c.2.2.2.2) (kyI j c.2.2.2.2) else
 cmpI (nv c a) (nv c b)
def amB (c : Clause) (a b : Guest) : Bool := (!(c.2.1 == [])) && ((!(a.2.1 == c.2.1)) || (!(b.2.1 == c.2.1)))
def dir (c : Clause) (a b : Guest) (i j : Int) : Int := if amB c a b = true then 0 else ordP c a b i j
theorem am_c (c : Clause) (a b : Guest) : ((if (!(c.2.1 == [])) = true then if (!(a.2.1 == c.2.1)) = true then some true else some (!(b.2.1 == c.2.1)) else some false) : Option Bool) = some (amB c a b) := by
 unfold amB
 cases (c.2.1 == []) <;> cases (a.2.1 == c.2.1) <;> rfl
theorem plain2_c (a b : Guest) (i j : Int) (c : Clause) : court_plain_2 (a, i) (b, j) c = some (snc (c.1 == 3) a.2.2.2.1 b.2.2.2.1) := by
 unfold court_plain_2 snc court_plain_2_j1
 simp only [b2_c, cmp_i, Option.bind_some]
 split
 ·rfl
 ·split <;> rfl
theorem dir_c (c : Clause) (a b : Guest) (i j : Int) (h : c.2.2.2.1.length ≤ 99999) (ha : a.2.2.2.2.2.2.2.2.length ≤ 99999) (hb : b.2.2.2.2.2.2.2.2.length ≤ 99999) (hk : 1 ≤ c.1 ∧ c.1 ≤ 10) : court_orderOf_1 (a, i) (b, j) c = some (dir c a b i j) := by
 have cl : ∀ (o : Option Int) (x : Int), o = some x → ((((if (!(c.2.1 == [])) = true then if (!(a.2.1 == c.2.1)) = true then some true else some (!(b.2.1 == c.2.1)) else some false) : Option Bool).bind fun j2 => if j2 = true then some 0 else o.bind fun v4 => some v4) : Option Int) = some (if amB c a b = true then 0 else x) := fun o x e => by
  rw [am_c, Option.bind_some, e]
  cases amB c a b <;> rfl
 have nm : ∀ (p q : Bool), ((if (!(p == c.2.2.1)) = true then some 0 else some 1 : Option Int).bind fun v1 => (if (!(q == c.2.2.1)) = true then some 0 else some 1 : Option Int).bind fun v2 => (cmp_Compare_int v1 v2).bind fun v3 => some v3) = some (cmpI (if (!(p == c.2.2.1)) = true then 0 else 1) (if (!(q == c.2.2.1)) = true then 0 else 1)) := fun p q => by
  simp only [cmp_i]
  cases (p == c.2.2.1) <;> cases (q == c.2.2.1) <;> rfl
 have pl : ∀ (o : Int → Option Int) (k : Int → Int), (∀ i, o i = some (k i)) → (((court_placed_1 i).bind fun v1 => ((if (!v1) = true then some true else (court_placed_1 j).bind fun v2 => some (!v2)) : Option Bool).bind fun j4 => if j4 = true then some 0 else (o i).bind fun v6 => (o j).bind fun v7 => (cmp_Compare_int v6 v7).bind fun v8 => some v8) : Option Int) = some (if (!insB i || !insB j) = true then 0 else cmpI (k i) (k j)) := fun o k e => by
  simp only [ins_c, Option.bind_some, e, cmp_i]
  cases insB i <;> cases insB j <;> rfl
 unfold court_orderOf_1 dir
 by_cases h1 : c.1 = 1
 ·have e1 : (c.1 == 1) = true := by simp [h1]
  rw [if_pos e1]
  refine cl (court_by_1__court_plain_1 (a, i) (b, j) c) _ ?_
  unfold court_by_1__court_plain_1 ordP
  rw [if_pos e1, rank_c _ c h, Option.bind_some, rank_c _ c h, Option.bind_some, cmp_i]; rfl
 rw [if_neg (show ¬ (c.1 == 1) = true by simpa using h1)]
 by_cases h2 : c.1 = 2
 ·have e2 : (c.1 == 2) = true := by simp [h2]
  rw [if_pos e2]
  refine cl (court_plain_2 (a, i) (b, j) c) _ ?_
  unfold ordP
  rw [if_neg (show ¬ (c.1 == 1) = true by simpa using h1), if_pos e2, plain2_c, h2]; rfl
 rw [if_neg (show ¬ (c.1 == 2) = true by simpa using h2)]
 by_cases h3 : c.1 = 3
 ·have e3 : (c.1 == 3) = true := by simp [h3]
  rw [if_pos e3]
  refine cl (court_plain_2 (a, i) (b, j) c) _ ?_
  unfold ordP
  rw [if_neg (show ¬ (c.1 == 1) = true by simpa using h1), if_neg (show ¬ (c.1 == 2) = true by simpa using h2), if_pos e3, plain2_c, h3]; rfl
 rw [if_neg (show ¬ (c.1 == 3) = true by simpa using h3)]
 by_cases h4 : c.1 = 4
 ·have e4 : (c.1 == 4) = true := by simp [h4]
  rw [if_pos e4]
  refine cl (court_by_1__court_named_1__court_plain_3 (a, i) (b, j) (c, c)) _ ?_
  have : ordP c a b i j = cmpI (nv c a) (nv c b) := by unfold ordP; simp [h4]
  rw [this]
  unfold nv nmB
  rw [if_pos e4, if_pos e4]
  exact nm _ _
 rw [if_neg (show ¬ (c.1 == 4) = true by simpa using h4)]
 by_cases h5 : c.1 = 5
 ·have e5 : (c.1 == 5) = true := by simp [h5]
  rw [if_pos e5]
  refine cl (court_by_1__court_named_1__court_plain_4 (a, i) (b, j) ((), c)) _ ?_
  have : ordP c a b i j = cmpI (nv c a) (nv c b) := by unfold ordP; simp [h5]
  rw [this]
  unfold nv nmB
  simp only [h5]
  exact nm _ _
 rw [if_neg (show ¬ (c.1 == 5) = true by simpa using h5)]
 by_cases h6 : c.1 = 6
 ·have e6 : (c.1 == 6) = true := by simp [h6]
  rw [if_pos e6]
  refine cl (court_by_1__court_named_1__court_plain_5 (a, i) (b, j) (c, c)) _ ?_
  have : ordP c a b i j = cmpI (nv c a) (nv c b) := by unfold ordP; simp [h6]
  rw [this]
  unfold court_by_1__court_named_1__court_plain_5 court_named_1__court_plain_5 court_plain_5
  rw [tongues_c _ _ ha h, tongues_c _ _ hb h]
  unfold nv nmB
  simp only [h6]
  exact nm _ _
 rw [if_neg (show ¬ (c.1 == 6) = true by simpa using h6)]
 by_cases h7 : c.1 = 7
 ·have e7 : (c.1 == 7) = true := by simp [h7]
  rw [if_pos e7]
  refine cl (court_by_1__court_named_1__court_plain_6 (a, i) (b, j) (c, c)) _ ?_
  have : ordP c a b i j = cmpI (nv c a) (nv c b) := by unfold ordP; simp [h7]
  rw [this]
  unfold court_by_1__court_named_1__court_plain_6 court_named_1__court_plain_6 court_plain_6
  rw [contains_eq _ _ h, contains_eq _ _ h]
  unfold nv nmB
  simp only [h7]
  exact nm _ _
 rw [if_neg (show ¬ (c.1 == 7) = true by simpa using h7)]
 by_cases h8 : c.1 = 8
 ·have e8 : (c.1 == 8) = true := by simp [h8]
  rw [if_pos e8]
  refine cl (court_plain_7 (a, i) (b, j)) _ ?_
  have : ordP c a b i j = cmpS a.1 b.1 := by unfold ordP; simp [h8]
  rw [this]
  unfold court_plain_7
  rw [cmp_s]; rfl
 rw [if_neg (show ¬ (c.1 == 8) = true by simpa using h8)]
 by_cases h10 : c.1 = 10
 ·have e10 : (c.1 == 10) = true := by simp [h10]
  rw [if_pos e10]
  refine cl (court_placed_2__court_placed_1__court_plain_8 (a, i) (b, j) c) _ ?_
  have : ordP c a b i j = if (!insB i || !insB j) = true then 0 else cmpI (kyI i c.2.2.2.2) (kyI j c.2.2.2.2) := by unfold ordP; simp [h10]
  rw [this]
  exact pl (fun i => court_plain_8 i c) (fun i => kyI i c.2.2.2.2) (fun i => key_c i c)
 rw [if_neg (show ¬ (c.1 == 10) = true by simpa using h10)]
 have h9 : c.1 = 9 := by omega
 refine cl (court_placed_2__court_placed_1__court_plain_9 (a, i) (b, j)) _ ?_
 have : ordP c a b i j = if (!insB i || !insB j) = true then 0 else cmpI i j := by unfold ordP; simp [h9]
 rw [this]
 exact pl (fun i => court_plain_9 i) (fun i => i) (fun i => rfl)
/-- Does a guest go before another by a clause? -/
def bf (c : Clause) (a b : Guest) (i j : Int) : Bool :=
 if (c.1 == 1) = true then decide (rk c.2.2.2.1 a.2.1 < rk c.2.2.2.1 b.2.1) else
 if (c.1 == 2) = true then (a.2.2.2.1 != 0) && ((b.2.2.2.1 == 0) || decide (a.2.2.2.1 < b.2.2.2.1)) else
 if (c.1 == 3) = true then (a.2.2.2.1 != 0) && ((b.2.2.2.1 == 0) || decide (a.2.2.2.1 > b.2.2.2.1)) else
 if (c.1 == 8) = true then Go.Op.bytesLess a.1 b.1 else
 if (c.1 == 9) = true then insB i && (insB j && decide (i < j)) else
 if (c.1 == 10) = true then insB i && (insB j && decide (kyI i c.2.2.2.2 < kyI j c.2.2.2.2)) else
 if c.2.2.1 = true then (!nmB c a) && nmB c b else nmB c a && !nmB c b
theorem before_r (c : Clause) (a b : Guest) (i j : Int) (h : c.2.2.2.1.length ≤ 99999) (ha : a.2.2.2.2.2.2.2.2.length ≤ 99999) (hb : b.2.2.2.2.2.2.2.2.length ≤ 99999) : ref03_before c a b i j = some (bf c a b i j) := by
 unfold ref03_before bf
 rw [rank_r _ _ h, rank_r _ _ h, named_r c a h ha, named_r c b h hb, ins_r, ins_r, key_r, key_r]
 simp only [Option.bind_some]
 split
 ·rfl
 split
 ·cases (a.2.2.2.1 != 0) <;> cases (b.2.2.2.1 == 0) <;> rfl
 split
 ·cases (a.2.2.2.1 != 0) <;> cases (b.2.2.2.1 == 0) <;> rfl
 split
 ·rfl
 split
 ·cases insB i <;> cases insB j <;> rfl
 split
 ·cases insB i <;> cases insB j <;> rfl
 split
 ·cases nmB c a <;> cases nmB c b <;> rfl
 ·cases nmB c a <;> cases nmB c b <;> rfl
theorem bl_total : ∀ (x y : List UInt8), Go.Op.bytesLess x y = false → Go.Op.bytesLess y x = !(x == y)
 | [], [], _ => rfl
 | a :: x, [], _ => rfl
 | [], b :: y, h => by cases h
 | a :: x, b :: y, h => by
  have h' : (decide (a < b) || (a == b && Go.Op.bytesLess x y)) = false := h
  simp only [Bool.or_eq_false_iff, decide_eq_false_iff_not] at h'
  show (decide (b < a) || (b == a && Go.Op.bytesLess y x)) = !(a :: x == b :: y)
  by_cases e : a = b
  ·subst e
   have h2 : Go.Op.bytesLess x y = false := by simpa using h'.2
   have := bl_total x y h2
   simp [this]
  ·have hlt : b < a := by
    rcases Nat.lt_trichotomy a.toNat b.toNat with q | q | q
    ·exact absurd (UInt8.lt_iff_toNat_lt.2 q) h'.1
    ·exact absurd (UInt8.toNat_inj.1 q) e
    ·exact UInt8.lt_iff_toNat_lt.2 q
   simp [hlt, e]
theorem snc_bf (y : Bool) (s t : Int) : snc y s t = if ((s != 0) && ((t == 0) || (if y = true then decide (s > t) else decide (s < t)))) = true then -1 else if ((t != 0) && ((s == 0) || (if y = true then decide (t > s) else decide (t < s)))) = true then 1 else 0 := by
 have w1 : wr .i64 1 = 1 := by decide
 have w2 : wr .i64 (-1) = -1 := by decide
 have w3 : wr .i64 0 = 0 := by decide
 unfold snc cmpI b2
 by_cases hs : s = 0 <;> by_cases ht : t = 0
 ·subst hs ht; cases y <;> simp [w3]
 ·subst hs; simp [ht]
 ·subst ht; simp [hs]
 ·have e1 : (s == 0) = false := by simpa using hs
  have e2 : (t == 0) = false := by simpa using ht
  have e3 : (s != 0) = true := by simpa using hs
  have e4 : (t != 0) = true := by simpa using ht
  rw [e1, e2, e3, e4]
  rcases Int.lt_trichotomy s t with q | q | q
  ·have q2 : ¬ t < s := by omega
   cases y <;> simp [q, q2, w1]
  ·subst q; cases y <;> simp [w3]
  ·have q2 : ¬ s < t := by omega
   cases y <;> simp [q, q2, w2]
theorem ord_bf (c : Clause) (a b : Guest) (i j : Int) : ordP c a b i j = if bf c a b i j = true then -1 else if bf c b a j i = true then 1 else 0 := by
 unfold ordP bf
 split
 ·unfold cmpI; simp
 split
 ·rw [snc_bf]; simp
 split
 ·rw [snc_bf]; simp
 split
 ·unfold cmpS
  cases h : Go.Op.bytesLess a.1 b.1 with
  | true => rfl
  | false => rw [bl_total _ _ h]; simp
 split
 ·unfold cmpI
  cases insB i <;> cases insB j <;> simp
 split
 ·unfold cmpI
  cases insB i <;> cases insB j <;> simp
 ·unfold nv cmpI
  cases nmB c a <;> cases nmB c b <;> cases c.2.2.1 <;> decide
/-- The first clause that separates two guests. -/
def rsn (a b : Guest) (i j : Int) : List Clause → Nat → Unit ⊕ (Int × Int)
 | [], _ => .inl ()
 | x :: r, k => if dir x a b i j = 0 then rsn a b i j r (k + 1) else .inr ((k : Int), dir x a b i j)
def rsnT (c : List Clause) (a b : Guest) (i j : Int) : Int × Int := match rsn a b i j c 0 with
 | .inl _ => (-1, 0)
 | .inr w => w
theorem goU_c (a b : Guest) (i j : Int) : ∀ (r : List Clause) (k : Nat), goU (fun x k (n : Option (Unit ⊕ (Int × Int))) => if (dir x a b i j != 0) = true then some (.inr ((k : Int), dir x a b i j)) else n) (some (.inl ())) r k = some (rsn a b i j r k)
 | [], _ => rfl
 | x :: r, k => by
  unfold goU rsn
  rw [goU_c a b i j r (k + 1)]
  by_cases h : dir x a b i j = 0 <;> simp [h]
theorem goU_r (a b : Guest) (i j : Int) : ∀ (r : List Clause) (k : Nat), goU (fun x k (n : Option (Unit ⊕ (Int × Int))) => if amB x a b = true then n else if bf x a b i j = true then some (.inr ((k : Int), -1)) else if bf x b a j i = true then some (.inr ((k : Int), 1)) else n) (some (.inl ())) r k = some (rsn a b i j r k)
 | [], _ => rfl
 | x :: r, k => by
  unfold goU rsn
  rw [goU_r a b i j r (k + 1)]
  unfold dir
  rw [ord_bf]
  cases amB x a b <;> cases bf x a b i j <;> cases bf x b a j i <;> simp
def fewG (g : Guest) : Prop := g.2.2.2.2.2.2.2.2.length ≤ 10
def kinds (c : List Clause) : Prop := ∀ x ∈ c, 1 ≤ x.1 ∧ x.1 ≤ 10
theorem first_c (c : List Clause) (a b : Guest) (i j : Int) (h : few c) (hk : kinds c) (ha : fewG a) (hb : fewG b) : court_first_court_seated_court_order c (a, i) (b, j) = some (rsnT c a b i j) := by
 have hl := h.1
 have e : court_first_court_seated_court_order_l1 c 100000 a.1 a.2.1 a.2.2.1 a.2.2.2.1 a.2.2.2.2.1 a.2.2.2.2.2.1 a.2.2.2.2.2.2.1 a.2.2.2.2.2.2.2.1 a.2.2.2.2.2.2.2.2 i b.1 b.2.1 b.2.2.1 b.2.2.2.1 b.2.2.2.2.1 b.2.2.2.2.2.1 b.2.2.2.2.2.2.1 b.2.2.2.2.2.2.2.1 b.2.2.2.2.2.2.2.2 j 0 = some (rsn a b i j c 0) := by
  rw [← goU_c]
  refine loopV0 c (fun f n => court_first_court_seated_court_order_l1 c f a.1 a.2.1 a.2.2.1 a.2.2.2.1 a.2.2.2.2.1 a.2.2.2.2.2.1 a.2.2.2.2.2.2.1 a.2.2.2.2.2.2.2.1 a.2.2.2.2.2.2.2.2 i b.1 b.2.1 b.2.2.1 b.2.2.2.1 b.2.2.2.2.1 b.2.2.2.2.2.1 b.2.2.2.2.2.2.1 b.2.2.2.2.2.2.2.1 b.2.2.2.2.2.2.2.2 j n) _ _ 100000 (by omega) (fun f pre v r e => ?_) (fun f => ?_)
  ·conv => lhs; unfold court_first_court_seated_court_order_l1
   have hv : few1 v := h.2 v (by rw [e]; simp)
   have hd := dir_c v a b i j (by have := hv.2.1; omega) (by unfold fewG at ha; omega) (by unfold fewG at hb; omega) (hk v (by rw [e]; simp))
   rw [if_pos (by rw [e]; exact lt_len pre v r), show idx c (pre.length : Int) = some v by rw [e, idx_app], Option.bind_some]
   rw [show court_orderOf_1 ((a.1, a.2.1, a.2.2.1, a.2.2.2.1, a.2.2.2.2.1, a.2.2.2.2.2.1, a.2.2.2.2.2.2.1, a.2.2.2.2.2.2.2.1, a.2.2.2.2.2.2.2.2), i) ((b.1, b.2.1, b.2.2.1, b.2.2.2.1, b.2.2.2.2.1, b.2.2.2.2.2.1, b.2.2.2.2.2.2.1, b.2.2.2.2.2.2.2.1, b.2.2.2.2.2.2.2.2), j) v = some (dir v a b i j) from hd, Option.bind_some, wr_snoc pre v r (by rw [← e]; omega)]
  ·show court_first_court_seated_court_order_l1 c (f + 1) a.1 a.2.1 a.2.2.1 a.2.2.2.1 a.2.2.2.2.1 a.2.2.2.2.2.1 a.2.2.2.2.2.2.1 a.2.2.2.2.2.2.2.1 a.2.2.2.2.2.2.2.2 i b.1 b.2.1 b.2.2.1 b.2.2.2.1 b.2.2.2.2.1 b.2.2.2.2.2.1 b.2.2.2.2.2.2.1 b.2.2.2.2.2.2.2.1 b.2.2.2.2.2.2.2.2 j (c.length : Int) = _
   conv => lhs; unfold court_first_court_seated_court_order_l1
   rw [if_neg (by simp)]
 unfold court_first_court_seated_court_order rsnT
 dsimp only
 rw [e, Option.bind_some]
 cases rsn a b i j c 0 <;> rfl
theorem reason_r (c : List Clause) (a b : Guest) (i j : Int) (h : few c) (ha : fewG a) (hb : fewG b) : ref03_Reason c a b i j = some (rsnT c a b i j) := by
 have hl := h.1
 have e : ref03_Reason_l1 c a b i j 100000 0 = some (rsn a b i j c 0) := by
  rw [← goU_r]
  refine loopV0 c (ref03_Reason_l1 c a b i j) _ _ 100000 (by omega) (fun f pre v r e => ?_) (fun f => ?_)
  ·conv => lhs; unfold ref03_Reason_l1
   have hv : few1 v := h.2 v (by rw [e]; simp)
   have hb1 := before_r v a b i j (by have := hv.2.1; omega) (by unfold fewG at ha; omega) (by unfold fewG at hb; omega)
   have hb2 := before_r v b a j i (by have := hv.2.1; omega) (by unfold fewG at hb; omega) (by unfold fewG at ha; omega)
   have hi : idx c (pre.length : Int) = some v := by rw [e, idx_app]
   rw [if_pos (by rw [e]; exact lt_len pre v r), hi, Option.bind_some, Option.bind_some, Option.bind_some, am_c, Option.bind_some, Option.bind_some, Option.bind_some, hb1, Option.bind_some, hb2, Option.bind_some, wr_snoc pre v r (by rw [← e]; omega)]
  ·conv => lhs; unfold ref03_Reason_l1
   rw [if_neg (by simp)]
 unfold ref03_Reason rsnT
 rw [e, Option.bind_some]
 cases rsn a b i j c 0 <;> rfl
theorem orders_go (c : List Clause) (h : few c) (hk : kinds c) : ∀ (r pre : List Clause) (f : Nat), c = pre ++ r → r.length < f → court_orders_l1 c f pre (pre.length : Int) = some c
 | [], pre, f + 1, e, _ => by
  unfold court_orders_l1
  rw [if_neg (by rw [e]; simp), e, List.append_nil]
 | v :: r, pre, f + 1, e, hf => by
  have hl := h.1
  have hl2 : c.length = pre.length + r.length + 1 := by rw [e]; simp; omega
  simp only [List.length_cons] at hf
  have hkv := hk v (by rw [e]; simp)
  unfold court_orders_l1
  rw [if_pos (by rw [e]; exact lt_len pre v r), show idx c (pre.length : Int) = some v by rw [e, idx_app], Option.bind_some, show court_orderOf v = some v by unfold court_orderOf; rw [if_pos hkv], Option.bind_some, if_pos (capOk_le (by omega) (by omega)), show wr .i64 ((pre.length : Int) + 1) = ((pre ++ [v]).length : Int) from wr_snoc pre v r (by rw [← e]; omega)]
  exact orders_go c h hk r (pre ++ [v]) f (by rw [e]; simp) (by omega)
theorem fm_kind {x : Clause} (h : fm x = true) : 1 ≤ x.1 ∧ x.1 ≤ 10 := by
 by_cases hk : 1 ≤ x.1 ∧ x.1 ≤ 10
 ·exact hk
 ·exfalso
  have n : ∀ q : Int, 1 ≤ q → q ≤ 10 → ¬ (x.1 == q) = true := fun q h1 h2 e => hk (by have : x.1 = q := (by simpa using e); omega)
  have e : ref03_formed x = some false := by
   unfold ref03_formed ref03_formed_j1 ref03_formed_j2 ref03_formed_j3 ref03_formed_j4
   have n9 : (x.1 == 9) = false := by simpa using n 9 (by omega) (by omega)
   have n7 : (x.1 == 7) = false := by simpa using n 7 (by omega) (by omega)
   rw [if_neg (n 1 (by omega) (by omega)), if_neg (n 2 (by omega) (by omega)), if_neg (n 3 (by omega) (by omega)), if_neg (n 8 (by omega) (by omega)), if_neg (n 4 (by omega) (by omega)), if_neg (n 5 (by omega) (by omega)), if_neg (n 6 (by omega) (by omega)), if_neg (n 10 (by omega) (by omega)), n9, n7]
   rfl
  unfold fm at h
  rw [e] at h
  cases h
theorem chkL_inl (c : List Clause) : ∀ (r : List Clause) (i : Nat), (∃ u, chkL c r i = .inl u ∧ ∀ x ∈ r, fm x = true) ∨ ∃ w, chkL c r i = .inr w ∧ w.2 ≠ 0
 | [], i => .inl ⟨(), rfl, fun x hx => by cases hx⟩
 | x :: r, i => by
  unfold chkL
  by_cases h : chk (c.take i) x = 0
  ·rw [if_neg (by simpa using h)]
   rcases chkL_inl c r (i + 1) with ⟨u, h1, h2⟩ | h1
   ·refine .inl ⟨u, h1, fun y hy => ?_⟩
    rcases List.mem_cons.1 hy with rfl | hy
    ·cases hf : fm y with
     | true => rfl
     | false => unfold chk at h; rw [if_pos hf] at h; cases h
    ·exact h2 y hy
   ·exact .inr h1
  ·rw [if_pos h]
   exact .inr ⟨_, rfl, h⟩
theorem valid_kinds {c : List Clause} (h : (chkT c).2 = 0) : kinds c := by
 unfold chkT at h
 split at h
 ·cases h
 ·rcases chkL_inl c c 0 with ⟨u, h1, h2⟩ | ⟨w, h1, h2⟩
  ·exact fun x hx => fm_kind (h2 x hx)
  ·rw [h1] at h; exact absurd h h2
theorem reason_c (c : List Clause) (a b : Guest) (i j : Int) (h : few c) (ha : fewG a) (hb : fewG b) : court_Reason c a b i j = some (if (chkT c).2 = 0 then rsnT c a b i j else (0, 0)) := by
 unfold court_Reason court_orders
 rw [check_c c h, Option.bind_some]
 by_cases hv : (chkT c).2 = 0
 ·have hk := valid_kinds hv
  have e0 : court_orders_l1 c 100000 [] 0 = some c := orders_go c h hk c [] 100000 rfl (by have := h.1; omega)
  rw [if_neg (by simpa using hv), if_pos hv, e0]
  simp only [Option.bind_some]
  rw [if_neg (by simp), first_c c a b i j h hk ha hb]
  rfl
 ·rw [if_pos (by simpa using hv), if_neg hv]
  rfl
theorem compare_c (c : List Clause) (a b : Guest) (i j : Int) (h : few c) (ha : fewG a) (hb : fewG b) : court_Compare c a b i j = some (if (chkT c).2 = 0 then rsnT c a b i j else (0, 0)).2 := by
 unfold court_Compare
 rw [reason_c c a b i j h ha hb]; rfl
theorem few_tg (l : List (List UInt8)) (h : l.length ≤ 99999) : slices_ContainsFunc_string_string__law03_FewGuests_1_1 l = some (l.any fun s => decide ((s.length : Int) > 40)) := by
 unfold slices_ContainsFunc_string_string__law03_FewGuests_1_1 slices_IndexFunc_string_string__law03_FewGuests_1_1
 obtain ⟨n, h1, h2⟩ := any_of l h law03_FewGuests_1_1 (fun s => decide ((s.length : Int) > 40)) (fun x _ => rfl) (slices_IndexFunc_string_string__law03_FewGuests_1_1_l1 l) (fun f c => rfl)
 rw [← h2]
 exact (congrArg (fun o => o.bind fun v1 => some (decide (v1 ≥ 0))) h1)
/-- Is a guest too long? -/
def longG (g : Guest) : Bool := decide ((mxI (mxI (g.1.length : Int) (g.2.1.length : Int)) (g.2.2.1.length : Int)) > 40) || (decide ((g.2.2.2.2.2.2.2.2.length : Int) > 10) || g.2.2.2.2.2.2.2.2.any fun s => decide ((s.length : Int) > 40))
theorem few_g (g : Guest) : law03_FewGuests_1 g = some (longG g) := by
 unfold law03_FewGuests_1 longG
 by_cases h1 : (mxI (mxI (g.1.length : Int) (g.2.1.length : Int)) (g.2.2.1.length : Int)) > 40
 ·simp [h1]
 ·by_cases h2 : (g.2.2.2.2.2.2.2.2.length : Int) > 10
  ·simp [h1, h2]
  ·rw [few_tg _ (by omega)]
   simp [h1, h2]
theorem longG_no {g : Guest} (h : longG g = false) : fewG g := by
 unfold longG at h
 simp only [Bool.or_eq_false_iff, decide_eq_false_iff_not] at h
 unfold fewG
 have := h.2.1
 omega
theorem fewGs_eq (g : List Guest) (n : Int) (hn : n ≤ 99999) : law03_FewGuests g n = some (decide ((g.length : Int) ≤ n) && !g.any longG) := by
 unfold law03_FewGuests
 by_cases h : (g.length : Int) ≤ n
 ·rw [if_pos (by simpa using h)]
  have e : slices_ContainsFunc_api_Guest_api_Guest__law03_FewGuests_1 g = some (g.any longG) := by
   unfold slices_ContainsFunc_api_Guest_api_Guest__law03_FewGuests_1 slices_IndexFunc_api_Guest_api_Guest__law03_FewGuests_1
   obtain ⟨n, h1, h2⟩ := any_of g (by omega) law03_FewGuests_1 longG (fun x _ => few_g x) (slices_IndexFunc_api_Guest_api_Guest__law03_FewGuests_1_l1 g) (fun f c => rfl)
   rw [← h2]
   exact (congrArg (fun o => o.bind fun v1 => some (decide (v1 ≥ 0))) h1)
  rw [e]
  simp [h]
 ·rw [if_neg (by simpa using h)]
  simp [h]
theorem words_go (c : List (List UInt8)) (h : c.length ≤ 99999) : ∀ (r pre : List (List UInt8)) (f : Nat), c = pre ++ r → r.length < f → kit_CopyWords_l1 c f pre (pre.length : Int) = some c
 | [], pre, f + 1, e, _ => by
  unfold kit_CopyWords_l1
  rw [if_neg (by rw [e]; simp), e, List.append_nil]
 | v :: r, pre, f + 1, e, hf => by
  have hl2 : c.length = pre.length + r.length + 1 := by rw [e]; simp; omega
  simp only [List.length_cons] at hf
  unfold kit_CopyWords_l1
  rw [if_pos (by rw [e]; exact lt_len pre v r), show idx c (pre.length : Int) = some v by rw [e, idx_app], Option.bind_some, if_pos (capOk_le (by omega) (by omega)), show wr .i64 ((pre.length : Int) + 1) = ((pre ++ [v]).length : Int) from wr_snoc pre v r (by rw [← e]; omega)]
  exact words_go c h r (pre ++ [v]) f (by rw [e]; simp) (by omega)
theorem copyG_eq (g : Guest) (h : fewG g) : kit_CopyGuest g = some g := by
 unfold fewG at h
 unfold kit_CopyGuest kit_CopyWords
 have : kit_CopyWords_l1 g.2.2.2.2.2.2.2.2 100000 [] 0 = some g.2.2.2.2.2.2.2.2 := words_go g.2.2.2.2.2.2.2.2 (by omega) g.2.2.2.2.2.2.2.2 [] 100000 rfl (by omega)
 rw [this]; rfl
theorem sameW (l : List (List UInt8)) (h : l.length ≤ 99999) : kit_SameWords l l = some true := by
 unfold kit_SameWords
 have e : kit_SameWords_l1 l l 100000 0 = goU (fun (_ : List UInt8) _ (k : Option (Unit ⊕ Bool)) => k) (some (.inl ())) l 0 := by
  refine loopV0 l (kit_SameWords_l1 l l) _ _ 100000 (by omega) (fun f pre v r e => ?_) (fun f => ?_)
  ·conv => lhs; unfold kit_SameWords_l1
   have hi : idx l (pre.length : Int) = some v := by rw [e, idx_app]
   rw [if_pos (by rw [e]; exact lt_len pre v r), hi, Option.bind_some, Option.bind_some, if_neg (by simp), wr_snoc pre v r (by rw [← e]; omega)]
  ·conv => lhs; unfold kit_SameWords_l1
   rw [if_neg (by simp)]
 have g : ∀ (r : List (List UInt8)) (i : Nat), goU (fun (_ : List UInt8) _ (k : Option (Unit ⊕ Bool)) => k) (some (.inl ())) r i = some (.inl ()) := fun r => by
  induction r with
  | nil => intro i; rfl
  | cons v r ih => intro i; unfold goU; exact ih (i + 1)
 rw [if_neg (by simp), e, g]; rfl
theorem sameG_eq (g : Guest) (h : fewG g) : kit_SameGuest g g = some true := by
 unfold fewG at h
 unfold kit_SameGuest
 rw [sameW _ (by omega)]
 simp
theorem compares_law (c : List Clause) (a b : Guest) (i j : Int) : law03_CourtCompares c a b i j = some true := by
 obtain ⟨q, h1, h2⟩ := few_eq c
 unfold law03_CourtCompares
 rw [h1, Option.bind_some, fewGs_eq _ _ (by decide), Option.bind_some]
 cases q with
 | false => rfl
 | true =>
  have h : few c := h2.1 rfl
  rw [if_neg (by simp)]
  cases hg : ([a, b].any longG) with
  | true => rfl
  | false =>
   have hab : longG a = false ∧ longG b = false := by simpa using hg
   have ha := longG_no hab.1
   have hb := longG_no hab.2
   have : law03_compares c a b i j = some true := by
    unfold law03_compares law03_compares_j1
    rw [copy_eq c h, Option.bind_some, copyG_eq a ha, Option.bind_some, copyG_eq b hb, Option.bind_some, reason_c c a b i j h ha hb, compare_c c a b i j h ha hb, same_eq c c h, sameG_eq a ha, sameG_eq b hb, show ref03_Valid c = some ((chkT c).2 == 0) by unfold ref03_Valid; rw [check_r c h]; rfl, Option.bind_some, reason_r c a b i j h ha hb]
    by_cases hv : (chkT c).2 = 0
    ·simp [hv]
    ·simp [hv]
   rw [this]
   rfl
end Go.Proofs.YtiphapnckldpbaaGreatDoor
namespace Go.Proofs.YtiphapnckldpbaaGreatDoor.courtCompares
open Go.ChangeShapes Go.WideShapes Go.ChangeAt Go.RowKit
theorem law_ret (a0 : (List Clause)) (a1 : Guest) (a2 : Guest) (a3 : Int) (a4 : Int) (h : law03_CourtCompares a0 a1 a2 a3 a4 = some true) {w : World} {v0 v1 v2 v3 v4 : Value} (h0 : VR w (fun c => c < w.heap.size) [] ((cdL 5 cdClause).enc a0) v0) (h1 : VR w (fun c => c < w.heap.size) [] (cdGuest.enc a1) v1) (h2 : VR w (fun c => c < w.heap.size) [] (cdGuest.enc a2) v2) (h3 : VR w (fun c => c < w.heap.size) [] (cdI.enc a3) v3) (h4 : VR w (fun c => c < w.heap.size) [] (cdI.enc a4) v4) : Ret Tryz.prog 9 #[v0, v1, v2, v3, v4] w fun v w' => v = .bool true ∧ w.grownBy w' none :=
 Ret.mono (x_law03_CourtCompares.2 (cs_law03_CourtCompares.enc (a0, a1, a2, a3, a4, ())) (er_law03_CourtCompares true) (told_enc (s := cs_law03_CourtCompares) (a := (a0, a1, a2, a3, a4, ())) h) w (fun c => c < w.heap.size) [v0, v1, v2, v3, v4] (fun c hc => hc) (fun g x h => by cases h) (.cons h0 (.cons h1 (.cons h2 (.cons h3 (.cons h4 .nil)))))) fun v w' h => ⟨h.2.v_inv, h.1⟩
set_option maxRecDepth 100000 in
theorem contract (H : Type) (enc : TypeId × Value → H) (W : World) (base : Nat) (args : Array Value) (ds gs : List (DataW H)) (before : List MemPlace)
  (hval : ∀ (j : Nat) t v, Tryz.f9.params[j]? = some t → args[j]? = some v → Value.okWide Tryz.prog W .any base t v)
  (hW : DataW.Whole enc Tryz.prog Tryz.f9.params.toList Rows.courtComparesSpec.vars false W args.toList ds gs before)
  (hsz : (DataW.weightsEach Tryz.prog (Tryz.f9.params.toList ++ (OpenSpec.ofChange Rows.courtComparesSpec).bare.plain.varTypes Tryz.prog) (ds ++ gs)).all (· ≤ reachBytes) = true) :
  Calls Tryz.prog 9 args W fun e W' => ∃ v, e = .returned v ∧ Rows.courtComparesSpec.post enc Tryz.prog Tryz.f9 false true false false W args v W' := by
 have hW' := hW
 obtain ⟨p, q, hA0, hV, rfl, hfz, hnd⟩ := hW
 have hA : DataW.TrodAll enc Tryz.prog W 0 (fun _ => true) true Tryz.f9.params.toList args.toList ds p := hA0
 have hpar : Tryz.f9.params = #[22, 44, 44, 3, 3] := by kernel_rfl
 rw [hpar] at hA hval
 obtain ⟨v0, vs0, d0, ds0, p0, q0, hargs, rfl, rfl, h0, r0⟩ := trodAll_cons hA
 obtain ⟨v1, vs1, d1, ds1, p1, q1, rfl, rfl, rfl, h1, r1⟩ := trodAll_cons r0
 obtain ⟨v2, vs2, d2, ds2, p2, q2, rfl, rfl, rfl, h2, r2⟩ := trodAll_cons r1
 obtain ⟨v3, vs3, d3, ds3, p3, q3, rfl, rfl, rfl, h3, r3⟩ := trodAll_cons r2
 obtain ⟨v4, vs4, d4, ds4, p4, q4, rfl, rfl, rfl, h4, r4⟩ := trodAll_cons r3
 obtain ⟨rfl, rfl, rfl⟩ := trodAll_nil r4
 obtain rfl : args = #[v0, v1, v2, v3, v4] := by apply Array.ext'; simpa using hargs
 obtain ⟨a0, k0, g0⟩ := rc_arg (rc_slice (by kernel_rfl : Tryz.prog.underlying 22 = some (.slice 70)) (by kernel_rfl) (by kernel_rfl) (by kernel_rfl) (by kernel_rfl) (rc_struct (fs := #[(Field.mk "Kind" 68 0 false "" "" 0), (Field.mk "Among" 9 1 false "" "" 8), (Field.mk "Last" 4 2 false "" "" 24), (Field.mk "Names" 42 3 false "" "" 32), (Field.mk "N" 3 4 false "" "" 56)]) (by kernel_rfl) (by kernel_rfl) (fun _ => rfl) (fun _ => rfl) (rf_cons (rc_int (by kernel_rfl : Tryz.prog.underlying 68 = some (.int .u8)) (by kernel_rfl)) rfl (by kernel_rfl) (fun _ => rfl) (rf_cons (rc_string (by kernel_rfl : Tryz.prog.underlying 9 = some .string) (by kernel_rfl)) rfl (by kernel_rfl) (fun _ => rfl) (rf_cons (rc_bool (by kernel_rfl : Tryz.prog.underlying 4 = some .bool) (by kernel_rfl)) rfl (by kernel_rfl) (fun _ => rfl) (rf_cons (rc_slice (by kernel_rfl : Tryz.prog.underlying 42 = some (.slice 9)) (by kernel_rfl) (by kernel_rfl) (by kernel_rfl) (by kernel_rfl) (rc_string (by kernel_rfl : Tryz.prog.underlying 9 = some .string) (by kernel_rfl))) rfl (by kernel_rfl) (fun _ => rfl) (rf_end (rc_int64 (by kernel_rfl : Tryz.prog.underlying 3 = some (.int .i64)) (by kernel_rfl)) rfl (by kernel_rfl) (fun _ => rfl)))))))) (one_slice (by kernel_rfl : Tryz.prog.underlying 22 = some (.slice 70)) (hval 0 22 v0 rfl rfl)) (fun _ => rfl) h0 hsz (j := 0) (by kernel_rfl) rfl
 obtain ⟨a1, k1, g1⟩ := rc_argA (rc_struct (fs := #[(Field.mk "Name" 9 0 false "" "" 0), (Field.mk "Rank" 9 1 false "" "" 16), (Field.mk "Court" 9 2 false "" "" 32), (Field.mk "Since" 3 3 false "" "" 48), (Field.mk "Side" 3 4 false "" "" 56), (Field.mk "Diet" 9 5 false "" "" 64), (Field.mk "Host" 4 6 false "" "" 80), (Field.mk "Access" 4 7 false "" "" 81), (Field.mk "Tongues" 42 8 false "" "" 88)]) (by kernel_rfl) (by kernel_rfl) (fun _ => rfl) (fun _ => rfl) (rf_cons (rc_string (by kernel_rfl : Tryz.prog.underlying 9 = some .string) (by kernel_rfl)) rfl (by kernel_rfl) (fun _ => rfl) (rf_cons (rc_string (by kernel_rfl : Tryz.prog.underlying 9 = some .string) (by kernel_rfl)) rfl (by kernel_rfl) (fun _ => rfl) (rf_cons (rc_string (by kernel_rfl : Tryz.prog.underlying 9 = some .string) (by kernel_rfl)) rfl (by kernel_rfl) (fun _ => rfl) (rf_cons (rc_int64 (by kernel_rfl : Tryz.prog.underlying 3 = some (.int .i64)) (by kernel_rfl)) rfl (by kernel_rfl) (fun _ => rfl) (rf_cons (rc_int64 (by kernel_rfl : Tryz.prog.underlying 3 = some (.int .i64)) (by kernel_rfl)) rfl (by kernel_rfl) (fun _ => rfl) (rf_cons (rc_string (by kernel_rfl : Tryz.prog.underlying 9 = some .string) (by kernel_rfl)) rfl (by kernel_rfl) (fun _ => rfl) (rf_cons (rc_bool (by kernel_rfl : Tryz.prog.underlying 4 = some .bool) (by kernel_rfl)) rfl (by kernel_rfl) (fun _ => rfl) (rf_cons (rc_bool (by kernel_rfl : Tryz.prog.underlying 4 = some .bool) (by kernel_rfl)) rfl (by kernel_rfl) (fun _ => rfl) (rf_end (rc_slice (by kernel_rfl : Tryz.prog.underlying 42 = some (.slice 9)) (by kernel_rfl) (by kernel_rfl) (by kernel_rfl) (by kernel_rfl) (rc_string (by kernel_rfl : Tryz.prog.underlying 9 = some .string) (by kernel_rfl))) rfl (by kernel_rfl) (fun _ => rfl))))))))))) (agg_struct (fs := #[(Field.mk "Name" 9 0 false "" "" 0), (Field.mk "Rank" 9 1 false "" "" 16), (Field.mk "Court" 9 2 false "" "" 32), (Field.mk "Since" 3 3 false "" "" 48), (Field.mk "Side" 3 4 false "" "" 56), (Field.mk "Diet" 9 5 false "" "" 64), (Field.mk "Host" 4 6 false "" "" 80), (Field.mk "Access" 4 7 false "" "" 81), (Field.mk "Tongues" 42 8 false "" "" 88)]) (by kernel_rfl) (hval 1 44 v1 rfl rfl)) h1 hsz (j := 1) (by kernel_rfl) rfl
 obtain ⟨a2, k2, g2⟩ := rc_argA (rc_struct (fs := #[(Field.mk "Name" 9 0 false "" "" 0), (Field.mk "Rank" 9 1 false "" "" 16), (Field.mk "Court" 9 2 false "" "" 32), (Field.mk "Since" 3 3 false "" "" 48), (Field.mk "Side" 3 4 false "" "" 56), (Field.mk "Diet" 9 5 false "" "" 64), (Field.mk "Host" 4 6 false "" "" 80), (Field.mk "Access" 4 7 false "" "" 81), (Field.mk "Tongues" 42 8 false "" "" 88)]) (by kernel_rfl) (by kernel_rfl) (fun _ => rfl) (fun _ => rfl) (rf_cons (rc_string (by kernel_rfl : Tryz.prog.underlying 9 = some .string) (by kernel_rfl)) rfl (by kernel_rfl) (fun _ => rfl) (rf_cons (rc_string (by kernel_rfl : Tryz.prog.underlying 9 = some .string) (by kernel_rfl)) rfl (by kernel_rfl) (fun _ => rfl) (rf_cons (rc_string (by kernel_rfl : Tryz.prog.underlying 9 = some .string) (by kernel_rfl)) rfl (by kernel_rfl) (fun _ => rfl) (rf_cons (rc_int64 (by kernel_rfl : Tryz.prog.underlying 3 = some (.int .i64)) (by kernel_rfl)) rfl (by kernel_rfl) (fun _ => rfl) (rf_cons (rc_int64 (by kernel_rfl : Tryz.prog.underlying 3 = some (.int .i64)) (by kernel_rfl)) rfl (by kernel_rfl) (fun _ => rfl) (rf_cons (rc_string (by kernel_rfl : Tryz.prog.underlying 9 = some .string) (by kernel_rfl)) rfl (by kernel_rfl) (fun _ => rfl) (rf_cons (rc_bool (by kernel_rfl : Tryz.prog.underlying 4 = some .bool) (by kernel_rfl)) rfl (by kernel_rfl) (fun _ => rfl) (rf_cons (rc_bool (by kernel_rfl : Tryz.prog.underlying 4 = some .bool) (by kernel_rfl)) rfl (by kernel_rfl) (fun _ => rfl) (rf_end (rc_slice (by kernel_rfl : Tryz.prog.underlying 42 = some (.slice 9)) (by kernel_rfl) (by kernel_rfl) (by kernel_rfl) (by kernel_rfl) (rc_string (by kernel_rfl : Tryz.prog.underlying 9 = some .string) (by kernel_rfl))) rfl (by kernel_rfl) (fun _ => rfl))))))))))) (agg_struct (fs := #[(Field.mk "Name" 9 0 false "" "" 0), (Field.mk "Rank" 9 1 false "" "" 16), (Field.mk "Court" 9 2 false "" "" 32), (Field.mk "Since" 3 3 false "" "" 48), (Field.mk "Side" 3 4 false "" "" 56), (Field.mk "Diet" 9 5 false "" "" 64), (Field.mk "Host" 4 6 false "" "" 80), (Field.mk "Access" 4 7 false "" "" 81), (Field.mk "Tongues" 42 8 false "" "" 88)]) (by kernel_rfl) (hval 2 44 v2 rfl rfl)) h2 hsz (j := 2) (by kernel_rfl) rfl
 obtain ⟨a3, k3, g3⟩ := rc_arg (rc_int64 (by kernel_rfl : Tryz.prog.underlying 3 = some (.int .i64)) (by kernel_rfl)) (one_int (by kernel_rfl : Tryz.prog.underlying 3 = some (.int .i64)) (hval 3 3 v3 rfl rfl)) (fun _ => rfl) h3 hsz (j := 3) (by kernel_rfl) rfl
 obtain ⟨a4, k4, g4⟩ := rc_arg (rc_int64 (by kernel_rfl : Tryz.prog.underlying 3 = some (.int .i64)) (by kernel_rfl)) (one_int (by kernel_rfl : Tryz.prog.underlying 3 = some (.int .i64)) (hval 4 3 v4 rfl rfl)) (fun _ => rfl) h4 hsz (j := 4) (by kernel_rfl) rfl
 have hc := law_ret a0 a1 a2 a3 a4 (compares_law a0 a1 a2 a3 a4) k0 k1 k2 k3 k4
 unfold Ret at hc
 refine hc.mono fun e W' he => ?_
 cases e with
 | returned v =>
  obtain ⟨rfl, hg⟩ := he
  exact ⟨_, rfl, post_true laidOut (fun t ht => ⟨mem_of_laid (fun t => Tryz.prog.readableRec t) (by kernel_rfl) ht, of_decide_eq_true (mem_of_laid (fun t => decide (t < Tryz.prog.types.size)) (by kernel_rfl) ht)⟩) hW' rfl (by kernel_rfl) (by kernel_rfl : Tryz.prog.underlying 4 = some .bool) rfl hg⟩
 | panicked c => exact he.elim
 | outgrown => exact he.elim
theorem laid_met (os : Os) : laidMet Tryz.prog Rows.courtComparesRow.laid ((laidWorld os).forCall (fun _ _ => 0) ⟨#[], #[Value.slice none 0 0, Value.agg #[Value.string ⟨#[]⟩, Value.string ⟨#[]⟩, Value.string ⟨#[]⟩, Value.int .i64 0, Value.int .i64 0, Value.string ⟨#[]⟩, Value.bool false, Value.bool false, Value.slice none 0 0], Value.agg #[Value.string ⟨#[]⟩, Value.string ⟨#[]⟩, Value.string ⟨#[]⟩, Value.int .i64 0, Value.int .i64 0, Value.string ⟨#[]⟩, Value.bool false, Value.bool false, Value.slice none 0 0], Value.int .i64 0, Value.int .i64 0], []⟩).memory :=
 laidMet_of_run' 8 (by kernel_rfl) (by kernel_rfl)
theorem reads (os : Os) {H : Type} (enc : TypeId × Value → H) : ∃ places, DataW.whole enc Tryz.prog ((laidWorld os).forCall (fun _ _ => 0) ⟨#[], #[Value.slice none 0 0, Value.agg #[Value.string ⟨#[]⟩, Value.string ⟨#[]⟩, Value.string ⟨#[]⟩, Value.int .i64 0, Value.int .i64 0, Value.string ⟨#[]⟩, Value.bool false, Value.bool false, Value.slice none 0 0], Value.agg #[Value.string ⟨#[]⟩, Value.string ⟨#[]⟩, Value.string ⟨#[]⟩, Value.int .i64 0, Value.int .i64 0, Value.string ⟨#[]⟩, Value.bool false, Value.bool false, Value.slice none 0 0], Value.int .i64 0, Value.int .i64 0], []⟩).memory Tryz.f9.params.toList Rows.courtComparesSpec.vars false #[Value.slice none 0 0, Value.agg #[Value.string ⟨#[]⟩, Value.string ⟨#[]⟩, Value.string ⟨#[]⟩, Value.int .i64 0, Value.int .i64 0, Value.string ⟨#[]⟩, Value.bool false, Value.bool false, Value.slice none 0 0], Value.agg #[Value.string ⟨#[]⟩, Value.string ⟨#[]⟩, Value.string ⟨#[]⟩, Value.int .i64 0, Value.int .i64 0, Value.string ⟨#[]⟩, Value.bool false, Value.bool false, Value.slice none 0 0], Value.int .i64 0, Value.int .i64 0].toList 8 = some ([.nil, .agg [.lit (.string []), .lit (.string []), .lit (.string []), .lit (.int .i64 0), .lit (.int .i64 0), .lit (.string []), .lit (.bool false), .lit (.bool false), .nil], .agg [.lit (.string []), .lit (.string []), .lit (.string []), .lit (.int .i64 0), .lit (.int .i64 0), .lit (.string []), .lit (.bool false), .lit (.bool false), .nil], .lit (.int .i64 0), .lit (.int .i64 0)], [], places) :=
 ⟨[], by kernel_rfl⟩
set_option maxRecDepth 100000 in
theorem lifted (os : Os) (started : os.Started) (H : Type) (enc : TypeId × Value → H) (F : Stop.Interp) :
  ReturnsInHanded {} Tryz.checked os 9 .any ((OpenSpec.ofChange Rows.courtComparesSpec).preRow enc Tryz.prog Tryz.f9 Rows.courtComparesRow.domain false Rows.courtComparesRow.laid) (((OpenSpec.ofChange Rows.courtComparesSpec).at F).post enc Tryz.prog Tryz.f9 false true false false) := by
 obtain ⟨places, hx⟩ := reads os enc
 refine returnsInHanded_of_row (C := Tryz.checked) (s := OpenSpec.ofChange Rows.courtComparesSpec) ownKnob0 started (by kernel_rfl) Tryz.func9
  (witness_row_at (enc := enc) (C := Tryz.checked) false (laidWorld os) #[Value.slice none 0 0, Value.agg #[Value.string ⟨#[]⟩, Value.string ⟨#[]⟩, Value.string ⟨#[]⟩, Value.int .i64 0, Value.int .i64 0, Value.string ⟨#[]⟩, Value.bool false, Value.bool false, Value.slice none 0 0], Value.agg #[Value.string ⟨#[]⟩, Value.string ⟨#[]⟩, Value.string ⟨#[]⟩, Value.int .i64 0, Value.int .i64 0, Value.string ⟨#[]⟩, Value.bool false, Value.bool false, Value.slice none 0 0], Value.int .i64 0, Value.int .i64 0] rfl (by kernel_rfl) (by kernel_rfl) (by kernel_rfl)
   (OpenSpec.preRow_of_cond 8 hx (by kernel_rfl) (fun k hk => by cases hk) (by kernel_rfl) (laid_met os))) ?_
 intro W base args ds gs before hval hW _ _ hsz _ _ _
 exact contract H enc W base args ds gs before hval hW hsz
theorem said : Rows.CourtComparesSaid :=
 OpenClaim.holds_of_cond 9 Tryz.f9 rfl rfl rfl rfl rfl rfl rfl ⟨rfl, rfl, rfl, rfl, rfl⟩ rfl rfl rfl rfl rfl (by kernel_rfl) Tryz.func9 (by kernel_rfl)
  (of_decide_eq_true (by kernel_rfl)) (by unfold Func.isWrapper; first | (rw [if_pos (by decide +kernel)]; kernel_rfl) | (rw [if_neg (by decide +kernel)]; exact ⟨rfl, rfl⟩))
  (fun os started H enc _ F => by rw [OpenClaim.pre_eq_preRow]; exact lifted os started H enc F)
theorem plain (f : FuncId) (fn : Func) (hf : Tryz.pinned.checked.prog.funcNamed "trestle/trestlelaw03.CourtCompares" = some f) (hfn : Tryz.pinned.checked.prog.funcs[f]? = some fn) :
  true = Tryz.pinned.checked.prog.looks [] ∧ ∀ (j : Nat) t, fn.params[j]? = some t → Tryz.pinned.checked.prog.wantsStandIn t = false := by
 obtain rfl : f = 9 := Option.some.inj ((show Tryz.prog.funcNamed "trestle/trestlelaw03.CourtCompares" = some 9 by kernel_rfl).symm.trans hf) |>.symm
 obtain rfl : fn = Tryz.f9 := (Option.some.inj (Tryz.func9.symm.trans hfn)).symm
 refine ⟨by kernel_rfl, fun j t ht => ?_⟩
 have hm : t ∈ Tryz.f9.params.toList := by simpa using Array.mem_of_getElem? ht
 exact (show Tryz.prog.wantsStandIn t = false from Bool.not_eq_true' _ |>.mp (mem_of_laid (fun t => !Tryz.prog.wantsStandIn t) (by kernel_rfl) hm))
theorem card : Rows.CourtComparesCardSaid :=
 Claim7.holds_tied_plain_at .later [] _ _ _ _ said (fun _ h => by cases h) (by kernel_rfl) (fun _ h => by cases h) courtCompares_row_tie rfl ⟨rfl, rfl⟩ (by kernel_rfl) rfl plain (by kernel_rfl)
end Go.Proofs.YtiphapnckldpbaaGreatDoor.courtCompares
