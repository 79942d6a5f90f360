/- Reasoning on abstract states: frames of which some slots are known, operations one by one. -/
import Derived.Test.YthofgamegondnaaDoorSem
namespace Go.Proofs.YthofgamegondnaaDoor
open Go.RowKit

/-- Known slots. -/
def lk : List (Nat × AV) → Nat → Option AV
  | [], _ => none
  | (k, x) :: l, t => if Nat.beq k t then some x else lk l t
def frG (l : List (Nat × AV)) : Nat → Nat → List (Option AV)
  | _, 0 => []
  | i, m + 1 => lk l i :: frG l (i + 1) m
/-- A frame of n slots. -/
def Fr (n : Nat) (l : List (Nat × AV)) : List (Option AV) := frG l 0 n

theorem frG_len (l : List (Nat × AV)) : ∀ (m i : Nat), (frG l i m).length = m
  | 0, _ => rfl
  | m + 1, i => by simp [frG, frG_len l m]
theorem frG_get (l : List (Nat × AV)) : ∀ (m i t : Nat), (frG l i m)[t]? = if t < m then some (lk l (i + t)) else none
  | 0, _, t => by simp [frG]
  | m + 1, i, 0 => by simp [frG]
  | m + 1, i, t + 1 => by
    rw [show frG l i (m + 1) = lk l i :: frG l (i + 1) m from rfl, List.getElem?_cons_succ, frG_get l m, show i + 1 + t = i + (t + 1) by omega]
    simp
theorem Fr_len (n : Nat) (l : List (Nat × AV)) : (Fr n l).length = n := frG_len l n 0
theorem Fr_get (n : Nat) (l : List (Nat × AV)) (t : Nat) : (Fr n l)[t]? = if t < n then some (lk l t) else none := by
  rw [Fr, frG_get, Nat.zero_add]
theorem lk_put (l : List (Nat × AV)) (d t : Nat) (x : AV) : lk ((d, x) :: l) t = if d = t then some x else lk l t := by
  show (if Nat.beq d t = true then some x else lk l t) = _
  simp only [Nat.beq_eq]
theorem putA_Fr (n : Nat) (l : List (Nat × AV)) (d : Nat) (x : AV) : putA (Fr n l) (some d) x = Fr n ((d, x) :: l) := by
  apply List.ext_getElem?
  intro t
  show ((Fr n l).set d (some x))[t]? = _
  rw [List.getElem?_set, Fr_get, Fr_get, Fr_len, lk_put]
  by_cases h : d = t
  · subst h; simp
  · simp [h]
/-- Fewer slots are known. -/
def lkAll (l : List (Nat × AV)) : List (Nat × AV) → List (Option AV)
  | [] => []
  | (t, _) :: r => lk l t :: lkAll l r
def xsAll : List (Nat × AV) → List (Option AV)
  | [] => []
  | (_, x) :: r => some x :: xsAll r
theorem lk_mem {l l' : List (Nat × AV)} (h : lkAll l l' = xsAll l') {t : Nat} {x : AV} (hx : lk l' t = some x) : lk l t = some x := by
  induction l' with
  | nil => cases hx
  | cons p r ih =>
    obtain ⟨k, y⟩ := p
    injection h with h1 h2
    rw [lk_put] at hx
    split at hx
    · next hk => injection hx with hx; subst hk hx; exact h1
    · exact ih h2 hx
theorem Wk.fr {E : Env} {n : Nat} {l l' : List (Nat × AV)} {hp : Hp} (h : lkAll l l' = xsAll l') : Wk E ⟨Fr n l, hp⟩ ⟨Fr n l', hp⟩ :=
  Wk.frame (by rw [Fr_len, Fr_len]) fun t x hx => by
    rw [Fr_get] at hx ⊢
    split at hx
    · next ht => rw [if_pos ht]; injection hx with hx; rw [lk_mem h hx]
    · cases hx
/-- The frame in which a function begins. -/
def pairs0 : Nat → List AV → List (Nat × AV)
  | _, [] => []
  | i, x :: r => (i, x) :: pairs0 (i + 1) r
theorem lk_pairs0 : ∀ (xs : List AV) (i t : Nat) (x : AV), lk (pairs0 i xs) t = some x → ∃ j, t = i + j ∧ xs[j]? = some x
  | [], i, t, x, h => by cases h
  | y :: r, i, t, x, h => by
    rw [pairs0, lk_put] at h
    split at h
    · next e => injection h with h; subst e h; exact ⟨0, rfl, rfl⟩
    · obtain ⟨j, h1, h2⟩ := lk_pairs0 r (i + 1) t x h
      exact ⟨j + 1, by omega, by simpa using h2⟩
theorem Wk.enter {E : Env} {n : Nat} {args : List AV} {hp : Hp} (hle : args.length ≤ n) : Wk E ⟨args.map some ++ List.replicate (n - args.length) (some (.tp [])), hp⟩ ⟨Fr n (pairs0 0 args), hp⟩ :=
  Wk.frame (by rw [Fr_len]; simp; omega) fun t x hx => by
    rw [Fr_get] at hx
    split at hx
    · next ht =>
      injection hx with hx
      obtain ⟨j, h1, h2⟩ := lk_pairs0 args 0 t x hx
      rw [Nat.zero_add] at h1
      subst h1
      have hj : t < args.length := (List.getElem?_eq_some_iff.1 h2).1
      rw [List.getElem?_append_left (by simpa using hj), List.getElem?_map, h2]
      rfl
    · cases hx

theorem opsA_append {E : Env} {ih : IH} {cx : Cx} {ops : Array Oper} : ∀ {a b : List Oper} {s : St}, opsA E ih cx ops (a ++ b) s = (opsA E ih cx ops a s).bind (opsA E ih cx ops b)
  | [], b, s => rfl
  | o :: a, b, s => by
    show opsA E ih cx ops (o :: (a ++ b)) s = _
    unfold opsA
    cases wantedA ops s.fr o with
    | none => rfl
    | some g =>
      cases g with
      | false => exact opsA_append
      | true =>
        simp only
        cases op1 E ih cx o s with
        | none => rfl
        | some s1 => exact opsA_append
theorem opsD_nil {E : Env} {ih : IH} {cx : Cx} {ops : Array Oper} {n0 : Nat} {s : St} : opsD E ih cx ops n0 [] s = some s := rfl

/-- The operations that are left run. -/
def Runs' (E : Env) (cx : Cx) (ops : Array Oper) (rest : List Oper) (s : St) (K : St → Prop) : Prop := ∃ s', opsA E (evC E 0) cx ops rest s = some s' ∧ K s'
def RunsD (E : Env) (cx : Cx) (ops : Array Oper) (n0 : Nat) (rest : List Oper) (s : St) (K : St → Prop) : Prop := ∃ s', opsD E (evC E 0) cx ops n0 rest s = some s' ∧ K s'

section
variable {E : Env} {cx : Cx} {ops : Array Oper} {rest rest' : List Oper} {s s1 : St} {K : St → Prop} {n n0 : Nat} {l : List (Nat × AV)} {hp hp' : Hp} {Q : Ex → St → Prop} {id : Nat}
theorem Sem.runs (hE : EnvOk E) (h : Runs' E cx ops ops.toList s fun s' => Wk E s' s1) (q : Q .normal s1) : Sem E cx (.region id ops false) s Q := by
  obtain ⟨s', h1, h2⟩ := h
  exact Sem.wkQ (Sem.region hE 0 h1 ⟨s1, h2, q⟩)
theorem Sem.runsD (hE : EnvOk E) (hd : drawOk (.region id ops true) = true) (h : RunsD E cx ops s.hp.length ops.toList s fun s' => Wk E s' s1) (q : Q .normal s1) : Sem E cx (.region id ops true) s Q := by
  obtain ⟨s', h1, h2⟩ := h
  exact Sem.wkQ (Sem.draw hE hd 0 h1 ⟨s1, h2, q⟩)
theorem Runs'.done (hr : rest = []) (k : K s) : Runs' E cx ops rest s K := by subst hr; exact ⟨s, rfl, k⟩
theorem RunsD.done (hr : rest = []) (k : K s) : RunsD E cx ops n0 rest s K := by subst hr; exact ⟨s, rfl, k⟩
/-- Some operations at once. -/
theorem Runs'.seg (m : Nat) (h : opsA E (evC E 0) cx ops (rest.take m) s = some s1) (k : Runs' E cx ops (rest.drop m) s1 K) : Runs' E cx ops rest s K := by
  obtain ⟨s', h1, h2⟩ := k
  refine ⟨s', ?_, h2⟩
  rw [← List.take_append_drop m rest, opsA_append, h]
  exact h1
theorem wantedA_none {o : Oper} {fr : List (Option AV)} (hg : o.guard = none) : wantedA ops fr o = some true := by unfold wantedA; rw [hg]
/-- One operation that reads. -/
theorem Runs'.q {o : Oper} {x : AV} {d : Nat} (hr : rest = o :: rest') (hw : wantedA ops (Fr n l) o = some true) (hd : o.dst = some d) (h : evOpQ E.P (opA E (Fr n l)) hp o.op = some x) (k : Runs' E cx ops rest' ⟨Fr n ((d, x) :: l), hp⟩ K) : Runs' E cx ops rest ⟨Fr n l, hp⟩ K := by
  obtain ⟨s', h1, h2⟩ := k
  refine ⟨s', ?_, h2⟩
  subst hr
  unfold opsA
  simp only [hw]
  unfold op1
  simp only [h, hd, putA_Fr]
  exact h1
theorem RunsD.q {o : Oper} {x : AV} {d : Nat} (hr : rest = o :: rest') (hi : isW o.op = false) (hw : wantedA ops (Fr n l) o = some true) (hd : o.dst = some d) (h : evOpQ E.P (opA E (Fr n l)) hp o.op = some x) (hl : ldOk n0 (opA E (Fr n l)) o.op = true) (k : RunsD E cx ops n0 rest' ⟨Fr n ((d, x) :: l), hp⟩ K) : RunsD E cx ops n0 rest ⟨Fr n l, hp⟩ K := by
  obtain ⟨s', h1, h2⟩ := k
  refine ⟨s', ?_, h2⟩
  subst hr
  unfold opsD
  simp only [hi, hw, h, hl, hd, putA_Fr, if_true, Bool.false_eq_true, if_false]
  exact h1
theorem opsD_append {ih : IH} : ∀ {a b : List Oper} {s : St}, (a.all fun o => !isW o.op) = true → opsD E ih cx ops n0 (a ++ b) s = (opsD E ih cx ops n0 a s).bind (opsD E ih cx ops n0 b)
  | [], b, s, _ => rfl
  | o :: a, b, s, hw => by
    simp only [List.all_cons, Bool.and_eq_true, Bool.not_eq_true'] at hw
    obtain ⟨hw1, hw2⟩ := hw
    show opsD E ih cx ops n0 (o :: (a ++ b)) s = _
    unfold opsD
    simp only [hw1, Bool.false_eq_true, if_false]
    cases wantedA ops s.fr o with
    | none => rfl
    | some g =>
      cases g with
      | false => exact opsD_append hw2
      | true =>
        simp only
        cases evOpQ E.P (opA E s.fr) s.hp o.op with
        | some x =>
          simp only
          split
          · exact opsD_append hw2
          · rfl
        | none =>
          simp only
          cases evOpN E.P (opA E s.fr) s.hp o.op with
          | some r => exact opsD_append hw2
          | none =>
            simp only
            split
            · split
              · split
                · exact opsD_append hw2
                · rfl
              · rfl
            · rfl
theorem RunsD.seg (m : Nat) (hw : ((rest.take m).all fun o => !isW o.op) = true) (h : opsD E (evC E 0) cx ops n0 (rest.take m) s = some s1) (k : RunsD E cx ops n0 (rest.drop m) s1 K) : RunsD E cx ops n0 rest s K := by
  obtain ⟨s', h1, h2⟩ := k
  refine ⟨s', ?_, h2⟩
  rw [← List.take_append_drop m rest, opsD_append hw, h]
  exact h1
theorem RunsD.tail {o : Oper} (hr : rest = o :: rest') (hw : isW o.op = true) (k : Runs' E ⟨none, cx.inR⟩ ops rest s K) : RunsD E cx ops n0 rest s K := by
  obtain ⟨s', h1, h2⟩ := k
  refine ⟨s', ?_, h2⟩
  subst hr
  unfold opsD
  rw [if_pos hw]
  exact h1
/-- The end of a loop or of a part of the code that is told by a value. -/
theorem Sem.cut {c : Code} {e0 : Ex} (h : Sem E cx c s fun e s' => e = e0 ∧ Wk E s' s1) (k : Q e0 s1) : Sem E cx c s Q :=
  Sem.wkQ (Sem.mono h fun e s' h => ⟨s1, h.2, by rw [h.1]; exact k⟩)
end
end Go.Proofs.YthofgamegondnaaDoor
