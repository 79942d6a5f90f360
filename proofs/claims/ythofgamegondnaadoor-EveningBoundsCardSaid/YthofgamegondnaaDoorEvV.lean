/- The abstract interpreter is sound: code. -/
import Derived.Test.YthofgamegondnaaDoorEvD
namespace Go.Proofs.YthofgamegondnaaDoor
open Go.RowKit

section
variable {E : Env} {w w' : World} {Z Z' : Nat → Prop} {R R' : List RI} {h h' : Hp} {base : Nat} {s s' : St} {a : Act} {n : Nat} {cx : Cx} {ro : Option Nat}

theorem code_step (hE : EnvOk E) (hCS : CS E n) (hLS : LS E n) : CS E (n + 1) := by
    intro cx c s e s' hd he ro base Q a w Z R hro sr hy k
    have he0 := he
    unfold evC evStep at he
    cases c with
    | skip =>
      simp only at he
      injection he with he; injection he with h1 h2; subst h1 h2
      exact wpIn_skip (k _ _ Z R sr (Step.refl _ _ _ _))
    | exit id =>
      simp only at he
      injection he with he; injection he with h1 h2; subst h1 h2
      exact wpIn_exit (k _ _ Z R sr (Step.refl _ _ _ _))
    | ret =>
      simp only at he
      injection he with he; injection he with h1 h2; subst h1 h2
      exact wpIn_ret (k _ _ Z R sr (Step.refl _ _ _ _))
    | region id ops draw =>
      simp only at he
      obtain ⟨s1, hs1, he⟩ := Option.map_eq_some_iff.1 he
      injection he with h1 h2; subst h1 h2
      cases draw with
      | false =>
        simp only [Bool.false_eq_true, if_false] at hs1
        exact wpIn_region_list (opsA_sound hE hCS hro hs1 sr hy k)
      | true =>
        simp only [if_true] at hs1
        exact draw_sound hE hCS hd hs1 sr k
    | seq x y =>
      simp only at he
      simp only [drawOk, Bool.and_eq_true] at hd
      refine wpIn_seq ?_
      split at he
      · next s1 h1 =>
        exact hCS cx x s _ s1 hd.1 h1 ro base _ a w Z R hro sr hy fun a' w' Z' R' sr' st => hCS cx y s1 e s' hd.2 he ro base Q a' w' Z' R' hro sr' (hy.step sr.hh st) fun a'' w'' Z'' R'' sr'' st' => k a'' w'' Z'' R'' sr'' (st.trans st')
      · next hne =>
        refine hCS cx x s e s' hd.1 he ro base _ a w Z R hro sr hy fun a' w' Z' R' sr' st => ?_
        cases e with
        | normal => exact (hne s' he).elim
        | exit id => exact k a' w' Z' R' sr' st
        | ret => exact k a' w' Z' R' sr' st
    | cond c x y =>
      simp only at he
      simp only [drawOk, Bool.and_eq_true] at hd
      split at he
      · next hc => exact wpIn_cond_true (opA_vr sr _ _ hc).v_inv (hCS cx x s e s' hd.1 he ro base Q a w Z R hro sr hy k)
      · next hc => exact wpIn_cond_false (opA_vr sr _ _ hc).v_inv (hCS cx y s e s' hd.2 he ro base Q a w Z R hro sr hy k)
      · cases he
    | block id x =>
      simp only at he
      simp only [drawOk] at hd
      refine wpIn_block ?_
      split at he
      · next id' s1 h1 =>
        refine hCS cx x s _ s1 hd h1 ro base _ a w Z R hro sr hy fun a' w' Z' R' sr' st => ?_
        show if id' = id then Q .normal a' w' else Q (.exit id') a' w'
        split at he
        · next hid =>
          injection he with he; injection he with h2 h3; subst h2 h3
          rw [if_pos hid]
          exact k a' w' Z' R' sr' st
        · next hid =>
          injection he with he; injection he with h2 h3; subst h2 h3
          rw [if_neg hid]
          exact k a' w' Z' R' sr' st
      · next hne =>
        refine hCS cx x s e s' hd he ro base _ a w Z R hro sr hy fun a' w' Z' R' sr' st => ?_
        cases e with
        | normal => exact k a' w' Z' R' sr' st
        | exit id' => exact (hne id' s' he).elim
        | ret => exact k a' w' Z' R' sr' st
    | loop x =>
      simp only [drawOk] at hd
      exact wpIn_loop_rounds (n + 1) (loop_sound hCS hLS cx x s e s' hd he0 ro base Q a w Z R hro sr hy k)
    | rangeFunc f ps assign body =>
      simp only at he
      simp only [drawOk, Bool.and_eq_true] at hd
      split at he
      · cases he
      · next hin =>
        have hro' := hro (by simpa using hin)
        subst hro'
        split at he
        · next g first caps hf =>
          split at he
          · next x h' hent =>
            injection he with he; injection he with h1 h2; subst h1 h2
            exact range_sound hE hCS hd.1 hd.2 sr (opA_vr sr _ _ hf) hent (k := fun a' w' Z' R' sr' st => k a' w' Z' R' sr' st)
          · cases he
        · cases he
    | scope c => cases he
    | label l => cases he
    | goto l => cases he
    | refuse why => cases he
theorem code_sound (hE : EnvOk E) : ∀ n, CS E n ∧ LS E n
  | 0 => ⟨(fun cx c s e s' _ he => by cases he), (fun cx c s e s' _ he => by cases he)⟩
  | n + 1 => ⟨code_step hE (code_sound hE n).1 (code_sound hE n).2, loop_sound (code_sound hE n).1 (code_sound hE n).2⟩
end
end Go.Proofs.YthofgamegondnaaDoor
