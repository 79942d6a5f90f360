/- awake, and slices.Clone of numbers, as they are told. -/
import Derived.Test.YthofgamegondnaaDoorAwake
import Derived.Test.YthofgamegondnaaDoorCx
namespace Go.Proofs.YthofgamegondnaaDoor
open Go.RowKit
def law09_awake : Option Bool := some true
def cs_law09_awake : Cs Unit := csN
def er_law09_awake (b : Bool) : AV := cdB.enc b
def t_law09_awake : List AV → Option AV := told cs_law09_awake (fun _ => law09_awake) er_law09_awake
theorem x_law09_awake : XOk 16 t_law09_awake := by
  refine ⟨⟨Tryd.call16⟩, fun xs x h w Z us _ _ hv => ?_⟩
  obtain ⟨a, ha, h⟩ := Option.bind_eq_some_iff.1 h
  obtain ⟨b, hb, rfl⟩ := Option.map_eq_some_iff.1 h
  have hb := Option.some.inj hb
  subst hb
  have : xs = [] := by
    cases xs with
    | nil => rfl
    | cons x xs => cases ha
  subst this
  have : us = [] := by have := hv.len; simpa using this
  subst this
  exact Ret.mono (awake_ret w) fun v w' h => ⟨h.2, by rw [h.1]; exact vr_true⟩

/-- slices.Clone: nil for nil, else a new slice. -/
noncomputable def cb_clone : Code := codeOf Tryd.f27
def own1 (xs : List Int) : Option Blk := some ⟨1, 3, xs.map cdI.enc, false⟩
set_option maxRecDepth 100000 in
theorem clone_sem (xs : List Int) (hc : capOk 8 xs.length = true) : Sem E0 ⟨none, false⟩ cb_clone ⟨Fr 8 [(0, .sl 1 (xs.map cdI.enc))], []⟩ fun e s' => (e = .normal ∨ e = .ret) ∧ ((xs = [] ∧ s' = ⟨Fr 8 [(2, .e0)], []⟩) ∨ s' = ⟨Fr 8 [(2, .rf 0 0 xs.length xs.length)], [own1 xs]⟩) := by
  refine Sem.seq ?_
  refine Sem.runS (s1 := ⟨Fr 8 [(0, .sl 1 (xs.map cdI.enc)), (2, .e0)], []⟩) ?_ ?_
  · refine RunS.seg E0_ok 1 (s1 := ⟨Fr 8 [(0, .sl 1 (xs.map cdI.enc)), (2, .e0)], []⟩) (by kernel_rfl) ?_
    exact RunS.done rfl (Wk.fr (by kernel_rfl))
  refine Sem.seq ?_
  refine Sem.seq (Sem.runQ ?_)
  refine RunS.seg E0_ok 1 (s1 := ⟨Fr 8 [(0, .sl 1 (xs.map cdI.enc)), (2, .e0), (3, .sl 1 (xs.map cdI.enc))], []⟩) (by kernel_rfl) ?_
  refine RunS.isnil (k := 1) (el := 3) (es := xs.map cdI.enc) rfl (wantedA_none rfl) (by kernel_rfl) (by kernel_rfl) fun b hb => RunS.done rfl ?_
  have hb : b = true → xs = [] := fun h => List.map_eq_nil_iff.1 (hb h)
  refine Sem.cond (b := b) (by kernel_rfl) (fun hb1 => ?_) (fun hb1 => ?_)
  · have hx := hb hb1
    refine Sem.wkQ ?_
    refine Sem.seq (Sem.runS (s1 := ⟨Fr 8 [(2, .e0)], []⟩) ?_ (Sem.ret ?_))
    · refine RunS.seg E0_ok 1 (s1 := ⟨Fr 8 [(0, .sl 1 (xs.map cdI.enc)), (2, .e0), (3, .sl 1 (xs.map cdI.enc)), (4, .v (.bool b))], []⟩) (by kernel_rfl) ?_
      exact RunS.done rfl (Wk.fr (by kernel_rfl))
    · exact ⟨_, Wk.refl, .inr rfl, .inl ⟨hx, rfl⟩⟩
  · refine Sem.skip ?_
    refine Sem.wkQ (Sem.seq (Sem.runQ ?_))
    refine RunS.seg E0_ok 2 (s1 := ⟨Fr 8 [(0, .sl 1 (xs.map cdI.enc)), (2, .e0), (3, .sl 1 (xs.map cdI.enc)), (4, .v (.bool b)), (5, .rf 0 0 0 0), (6, .sl 1 (xs.map cdI.enc))], [own1 []]⟩) (by kernel_rfl) ?_
    cases xs with
    | nil =>
      refine RunS.one E0_ok 0 rfl (op_w (x := .rf 0 0 0 0) (hp' := [own1 []]) (wantedA_none rfl) rfl (by kernel_rfl) (by kernel_rfl) (by kernel_rfl)) ?_
      refine RunS.seg E0_ok 1 (s1 := ⟨Fr 8 [(0, .sl 1 []), (2, .rf 0 0 0 0), (3, .sl 1 []), (4, .v (.bool b)), (5, .rf 0 0 0 0), (6, .sl 1 []), (7, .rf 0 0 0 0)], [own1 []]⟩) (by kernel_rfl) (RunS.done rfl (Sem.ret ?_))
      exact ⟨⟨Fr 8 [(2, .rf 0 0 0 0)], [own1 []]⟩, Wk.fr (by kernel_rfl), .inr rfl, .inr rfl⟩
    | cons y ys =>
      refine RunS.one E0_ok 0 rfl (op_w (wantedA_none rfl) rfl (by kernel_rfl) (by kernel_rfl) (w_append (a := .rf 0 0 0 0) (b := .sl 1 ((y :: ys).map cdI.enc)) (by kernel_rfl) (by kernel_rfl) (append_R (c := cdI) (xs := []) (vs := y :: ys) (k := 1) (bytes := 8) (el := 3) (by kernel_rfl) (by kernel_rfl) elems_sl (List.cons_ne_nil _ _) (by kernel_rfl) (by rw [List.length_nil, Nat.zero_add]; exact hc)))) ?_
      refine RunS.seg E0_ok 1 (s1 := ⟨Fr 8 [(0, .sl 1 ((y :: ys).map cdI.enc)), (2, .rf 1 0 (y :: ys).length (y :: ys).length), (3, .sl 1 ((y :: ys).map cdI.enc)), (4, .v (.bool b)), (5, .rf 0 0 0 0), (6, .sl 1 ((y :: ys).map cdI.enc)), (7, .rf 1 0 (y :: ys).length (y :: ys).length)], [none, own1 (y :: ys)]⟩) (by kernel_rfl) (RunS.done rfl (Sem.ret ?_))
      exact ⟨⟨Fr 8 [(2, .rf 0 0 (y :: ys).length (y :: ys).length)], [own1 (y :: ys)]⟩, Wk.sel2 [1] (by kernel_rfl) (by kernel_rfl) (by kernel_rfl) ⟨⟨_, rfl, bu_own⟩, trivial⟩ ⟨lu (by kernel_rfl) (by kernel_rfl), trivial⟩, .inr rfl, .inr rfl⟩
/-- .. as it is told to those who only read. -/
def slices_Clone_L_int (xs : List Int) : Option (List Int) := if capOk 8 xs.length = true then some xs else none
def cs_slices_Clone_L_int : Cs (List Int × Unit) := csC (cdL 1 cdI) csN
def er_slices_Clone_L_int (r : List Int) : AV := (cdL 1 cdI).enc r
def t_slices_Clone_L_int : List AV → Option AV := told cs_slices_Clone_L_int (fun a => slices_Clone_L_int a.1) er_slices_Clone_L_int
theorem x_slices_Clone_L_int : XOk 27 t_slices_Clone_L_int := by
  refine EnvOk.x (E := E0) (contract_ok E0_ok (fn := Tryd.f27) (c := cb_clone) ?h1 ?h2 ⟨Tryd.call27⟩ cs_slices_Clone_L_int (fun a => slices_Clone_L_int a.1) er_slices_Clone_L_int (fun a => (by show 1 ≤ 8; decide)) ?h3 ?h4) rfl rfl
  case h1 => kernel_rfl
  case h2 => kernel_rfl
  case h3 => intro b; kernel_rfl
  case h4 =>
    intro a r h
    have h : slices_Clone_L_int a.1 = some r := h
    unfold slices_Clone_L_int at h
    by_cases hc : capOk 8 a.1.length = true
    · rw [if_pos hc] at h
      injection h with h
      subst h
      refine Sem.wkQ (Sem.mono (clone_sem a.1 hc) ?_)
      rintro e s' ⟨he, ⟨hx, rfl⟩ | rfl⟩
      · rw [hx]
        exact ⟨⟨Fr 8 [(2, .sl 1 [])], [none]⟩, Wk.trans (s1 := ⟨Fr 8 [(2, .e0)], [none]⟩) Wk.none (Wk.frzG 0 (.inl (by kernel_rfl)) ⟨.inl rfl, trivial⟩ ⟨⟨.e0, (by kernel_rfl), fz_e0⟩, trivial⟩), he, [.sl 1 []], by kernel_rfl, by kernel_rfl⟩
      · exact ⟨⟨Fr 8 [(2, .sl 1 (a.1.map cdI.enc))], [none]⟩, Wk.frzG 0 (.inl (by kernel_rfl)) ⟨.inl rfl, trivial⟩ ⟨⟨.rf 0 0 a.1.length a.1.length, (by kernel_rfl), fz_rlT (c := cdI) (xs := a.1) (t := 3) (by kernel_rfl)⟩, trivial⟩, he, [.sl 1 (a.1.map cdI.enc)], by kernel_rfl, by kernel_rfl⟩
    · rw [if_neg hc] at h; cases h
end Go.Proofs.YthofgamegondnaaDoor
