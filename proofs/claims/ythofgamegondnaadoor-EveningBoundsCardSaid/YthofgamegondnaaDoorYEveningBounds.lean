/- Proved: the tied card of the statement EveningBounds, with no condition of its own: for all inputs that the row reads, the law returns true and its arguments read as before. -/
import Derived.Test.YthofgamegondnaaDoorRd
import Derived.Test.YthofgamegondnaaDoorAwake
import Derived.Test.YthofgamegondnaaDoorF7
import Derived.Test.YthofgamegondnaaDoorBounds
namespace Go.Proofs.YthofgamegondnaaDoor.eveningBounds
open Go.ChangeShapes Go.WideShapes Go.ChangeAt Go.RowKit
theorem law_ret (a0 : Int) (a1 : (List Int)) (a2 : Int) (a3 : Int) (h : law09_EveningBounds a0 a1 a2 a3 = some true) {w : World} {v0 v1 v2 v3 : Value} (h0 : VR w (fun c => c < w.heap.size) [] (cdI.enc a0) v0) (h1 : VR w (fun c => c < w.heap.size) [] ((cdL 1 cdI).enc a1) v1) (h2 : VR w (fun c => c < w.heap.size) [] (cdI.enc a2) v2) (h3 : VR w (fun c => c < w.heap.size) [] (cdI.enc a3) v3) : Ret Tryd.prog 7 #[v0, v1, v2, v3] w fun v w' => v = .bool true ∧ w.grownBy w' none :=
  Ret.mono (x_law09_EveningBounds.2 (cs_law09_EveningBounds.enc (a0, a1, a2, a3, ())) (er_law09_EveningBounds true) (told_enc (s := cs_law09_EveningBounds) (a := (a0, a1, a2, a3, ())) h) w (fun c => c < w.heap.size) [v0, v1, v2, v3] (fun c hc => hc) (fun g x h => by cases h) (.cons h0 (.cons h1 (.cons h2 (.cons h3 .nil))))) fun v w' h => ⟨h.2.v_inv, h.1⟩
set_option maxRecDepth 100000 in
theorem contract (H : Type) (enc : TypeId × Value → H) (W : World) (base : Nat) (args : Array Value) (ds gs : List (DataW H)) (before : List MemPlace)
    (hval : ∀ (j : Nat) t v, Tryd.f7.params[j]? = some t → args[j]? = some v → Value.okWide Tryd.prog W .any base t v)
    (hW : DataW.Whole enc Tryd.prog Tryd.f7.params.toList Rows.eveningBoundsSpec.vars false W args.toList ds gs before) :
    Calls Tryd.prog 7 args W fun e W' => ∃ v, e = .returned v ∧ Rows.eveningBoundsSpec.post enc Tryd.prog Tryd.f7 false true false false W args v W' := by
  have hW' := hW
  obtain ⟨p, q, hA0, hV, rfl, hfz, hnd⟩ := hW
  have hA : DataW.TrodAll enc Tryd.prog W 0 (fun _ => true) true Tryd.f7.params.toList args.toList ds p := hA0
  have hpar : Tryd.f7.params = #[3, 24, 3, 3] := by kernel_rfl
  rw [hpar] at hA hval
  obtain ⟨v0, vs0, d0, ds0, p0, q0, hargs, rfl, rfl, h0, r0⟩ := trodAll_cons hA
  obtain ⟨v1, vs1, d1, ds1, p1, q1, rfl, rfl, rfl, h1, r1⟩ := trodAll_cons r0
  obtain ⟨v2, vs2, d2, ds2, p2, q2, rfl, rfl, rfl, h2, r2⟩ := trodAll_cons r1
  obtain ⟨v3, vs3, d3, ds3, p3, q3, rfl, rfl, rfl, h3, r3⟩ := trodAll_cons r2
  obtain ⟨rfl, rfl, rfl⟩ := trodAll_nil r3
  obtain rfl : args = #[v0, v1, v2, v3] := by apply Array.ext'; simpa using hargs
  obtain ⟨a0, k0, g0⟩ := rd_arg (rd_int64 (by kernel_rfl : Tryd.prog.underlying 3 = some (.int .i64))) (one_int (by kernel_rfl : Tryd.prog.underlying 3 = some (.int .i64)) (hval 0 3 v0 rfl rfl)) h0
  obtain ⟨a1, k1, g1⟩ := rd_arg (rd_slice (by kernel_rfl : Tryd.prog.underlying 24 = some (.slice 3)) (by kernel_rfl) (rd_int64 (by kernel_rfl : Tryd.prog.underlying 3 = some (.int .i64)))) (one_slice (by kernel_rfl : Tryd.prog.underlying 24 = some (.slice 3)) (hval 1 24 v1 rfl rfl)) h1
  obtain ⟨a2, k2, g2⟩ := rd_arg (rd_int64 (by kernel_rfl : Tryd.prog.underlying 3 = some (.int .i64))) (one_int (by kernel_rfl : Tryd.prog.underlying 3 = some (.int .i64)) (hval 2 3 v2 rfl rfl)) h2
  obtain ⟨a3, k3, g3⟩ := rd_arg (rd_int64 (by kernel_rfl : Tryd.prog.underlying 3 = some (.int .i64))) (one_int (by kernel_rfl : Tryd.prog.underlying 3 = some (.int .i64)) (hval 3 3 v3 rfl rfl)) h3
  have hc := law_ret a0 a1 a2 a3 (bounds_law a0 g0 a1 a2 a3) k0 k1 k2 k3
  unfold Ret at hc
  refine hc.mono fun e W' he => ?_
  cases e with
  | returned v =>
    obtain ⟨rfl, hg⟩ := he
    exact ⟨_, rfl, post_true laidOut (fun t ht => ⟨mem_of_laid (fun t => Tryd.prog.readableRec t) (by kernel_rfl) ht, of_decide_eq_true (mem_of_laid (fun t => decide (t < Tryd.prog.types.size)) (by kernel_rfl) ht)⟩) hW' rfl (by kernel_rfl) (by kernel_rfl : Tryd.prog.underlying 4 = some .bool) rfl hg⟩
  | panicked c => exact he.elim
  | outgrown => exact he.elim
theorem laid_met (os : Os) : laidMet Tryd.prog Rows.eveningBoundsRow.laid ((laidWorld os).forCall (fun _ _ => 0) ⟨#[], #[Value.int .i64 0, Value.slice none 0 0, Value.int .i64 0, Value.int .i64 0], []⟩).memory :=
  laidMet_of_run' 8 (by kernel_rfl) (by kernel_rfl)
theorem reads (os : Os) {H : Type} (enc : TypeId × Value → H) : ∃ places, DataW.whole enc Tryd.prog ((laidWorld os).forCall (fun _ _ => 0) ⟨#[], #[Value.int .i64 0, Value.slice none 0 0, Value.int .i64 0, Value.int .i64 0], []⟩).memory Tryd.f7.params.toList Rows.eveningBoundsSpec.vars false #[Value.int .i64 0, Value.slice none 0 0, Value.int .i64 0, Value.int .i64 0].toList 8 = some ([.lit (.int .i64 0), .nil, .lit (.int .i64 0), .lit (.int .i64 0)], [], places) :=
  ⟨[], by kernel_rfl⟩
set_option maxRecDepth 100000 in
theorem lifted (os : Os) (started : os.Started) (H : Type) (enc : TypeId × Value → H) (F : Stop.Interp) :
    ReturnsInHanded {} Tryd.checked os 7 .any ((OpenSpec.ofChange Rows.eveningBoundsSpec).preRow enc Tryd.prog Tryd.f7 Rows.eveningBoundsRow.domain false Rows.eveningBoundsRow.laid) (((OpenSpec.ofChange Rows.eveningBoundsSpec).at F).post enc Tryd.prog Tryd.f7 false true false false) := by
  obtain ⟨places, hx⟩ := reads os enc
  refine returnsInHanded_of_row (C := Tryd.checked) (s := OpenSpec.ofChange Rows.eveningBoundsSpec) ownKnob0 started (by kernel_rfl) Tryd.func7
    (witness_row_at (enc := enc) (C := Tryd.checked) false (laidWorld os) #[Value.int .i64 0, Value.slice none 0 0, Value.int .i64 0, Value.int .i64 0] rfl (by kernel_rfl) (by kernel_rfl) (by kernel_rfl)
      (OpenSpec.preRow_of_cond 8 hx (by kernel_rfl) (fun k hk => by cases hk) (by kernel_rfl) (laid_met os))) ?_
  intro W base args ds gs before hval hW _ _ _ _ _ _
  exact contract H enc W base args ds gs before hval hW
theorem said : Rows.EveningBoundsSaid :=
  OpenClaim.holds_of_cond 7 Tryd.f7 rfl rfl rfl rfl rfl rfl rfl ⟨rfl, rfl, rfl, rfl, rfl⟩ rfl rfl rfl rfl rfl (by kernel_rfl) Tryd.func7 (by kernel_rfl)
    (of_decide_eq_true (by kernel_rfl)) (by unfold Func.isWrapper; first | (rw [if_pos (by decide +kernel)]; kernel_rfl) | (rw [if_neg (by decide +kernel)]; exact ⟨rfl, rfl⟩))
    (fun os started H enc _ F => by rw [OpenClaim.pre_eq_preRow]; exact lifted os started H enc F)
theorem plain (f : FuncId) (fn : Func) (hf : Tryd.pinned.checked.prog.funcNamed "trestle/trestlelaw09.EveningBounds" = some f) (hfn : Tryd.pinned.checked.prog.funcs[f]? = some fn) :
    false = Tryd.pinned.checked.prog.looks [] ∧ ∀ (j : Nat) t, fn.params[j]? = some t → Tryd.pinned.checked.prog.wantsStandIn t = false := by
  obtain rfl : f = 7 := Option.some.inj ((show Tryd.prog.funcNamed "trestle/trestlelaw09.EveningBounds" = some 7 by kernel_rfl).symm.trans hf) |>.symm
  obtain rfl : fn = Tryd.f7 := (Option.some.inj (Tryd.func7.symm.trans hfn)).symm
  refine ⟨by kernel_rfl, fun j t ht => ?_⟩
  have hm : t ∈ Tryd.f7.params.toList := by simpa using Array.mem_of_getElem? ht
  exact (show Tryd.prog.wantsStandIn t = false from Bool.not_eq_true' _ |>.mp (mem_of_laid (fun t => !Tryd.prog.wantsStandIn t) (by kernel_rfl) hm))
theorem card : Rows.EveningBoundsCardSaid :=
  Claim7.holds_tied_plain_at .later [] _ _ _ _ said (fun _ h => by cases h) (by kernel_rfl) (fun _ h => by cases h) eveningBounds_row_tie rfl ⟨rfl, rfl⟩ (by kernel_rfl) rfl plain (by kernel_rfl)
end Go.Proofs.YthofgamegondnaaDoor.eveningBounds
