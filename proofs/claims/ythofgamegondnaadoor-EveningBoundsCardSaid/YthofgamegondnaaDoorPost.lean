/- The abstract interpreter: from a call's value to what a row asks. -/
import Derived.Test.YthofgamegondnaaDoorEvV
import Derived.OpenShut
import Derived.WideKeyArgs
import Derived.Carry
namespace Go.Proofs.YthofgamegondnaaDoor
open Go.RowKit Go.ChangeShapes Go.WideShapes

/-- A call of a value that hangs on no memory. -/
theorem ret_flat {E : Env} (hE : EnvOk E) {n : Nat} {f : FuncId} {args : List AV} {x : AV} {h' : Hp} (e : evCall E n f args [] = some (x, h')) {w : World} {Z : Nat → Prop} {us : List Value} (hz : ∀ c, Z c → c < w.heap.size) (hg : GI E w Z) (hv : VRs w Z [] args us) :
    Ret E.P f us.toArray w fun v w' => w.grownBy w' none ∧ (flatTp x = true → VR w' (fun c => w.heap.size ≤ c ∧ c < w'.heap.size) [] x v) := by
  have hh : HR w Z [] [] := ⟨rfl, fun b B hB => by simp at hB, fun b b' B B' r r' hB => by simp at hB, hz⟩
  refine Ret.mono (enter_sound hE (code_sound hE n).1 e hh hv hg (fun y hy => by cases hy)) fun v w' hS => ?_
  obtain ⟨Z', R', h1, h2, st⟩ := hS
  exact ⟨⟨st.os, st.tape, st.output, st.size, fun c hc _ => st.block c hc (fun ⟨b, B, r, hb, _⟩ => by simp at hb)⟩, fun hf => flat_vr hf h2⟩
theorem ret_true {E : Env} (hE : EnvOk E) {n : Nat} {f : FuncId} {args : List AV} {h' : Hp} (e : evCall E n f args [] = some (.v (.bool true), h')) {w : World} {Z : Nat → Prop} {us : List Value} (hz : ∀ c, Z c → c < w.heap.size) (hg : GI E w Z) (hv : VRs w Z [] args us) :
    Ret E.P f us.toArray w fun v w' => v = .bool true ∧ w.grownBy w' none :=
  Ret.mono (ret_flat hE e hz hg hv) fun _ _ h => ⟨(h.2 rfl).v_inv, h.1⟩

/-- One more function that is told by a function of its own. -/
def Env.withX (E : Env) (f : FuncId) (g : List AV → Option AV) : Env := { E with X := fun k => if k = f then some g else E.X k }
theorem EnvOk.withX {E : Env} (hE : EnvOk E) {f : FuncId} {g : List AV → Option AV} (hc : Callable E.P f)
    (hr : ∀ xs x, g xs = some x → ∀ w Z us, (∀ c, Z c → c < w.heap.size) → GI E w Z → VRs w Z [] xs us → Ret E.P f us.toArray w fun v w' => w.grownBy w' none ∧ VR w' (fun c => Z c ∨ (w.heap.size ≤ c ∧ c < w'.heap.size)) [] x v) : EnvOk (E.withX f g) := by
  refine ⟨hE.fn, hE.mixed, hE.I, fun k q h => ?_⟩
  change (if k = f then some g else E.X k) = some q at h
  split at h
  · next hk => injection h with h; subst hk h; exact ⟨hc, hr⟩
  · exact hE.X k q h

theorem grownBy_keptBut {w w' : World} (hg : w.grownBy w' none) (may : MemPlace → Prop) : w.keptBut w' may := by
  refine ⟨hg.os, hg.output, fun i hi => ?_⟩
  rw [hg.block i hi (by simp)]
  have := (World.keptBut_refl w may).2.2 i hi
  exact this

/-- What a law's row asks: true, and the arguments read as before. -/
theorem post_true {H : Type} {enc : TypeId × Value → H} {P : Program} {f : Func} {s : ChangeSpec} {W W' : World} {args : Array Value} {ds gs : List (DataW H)} {before : List MemPlace} {t : TypeId}
    (hl : laidOutB P = true) (hts : ∀ t ∈ f.params.toList, P.readableRec t = true ∧ t < P.types.size)
    (hW : DataW.Whole enc P f.params.toList s.vars false W args.toList ds gs before) (hv : s.vars = []) (hr : f.resultTypes = #[t]) (ht : P.underlying t = some .bool)
    (hfn : s.fn H (ds ++ []) = { results := [.lit (.bool true)], args := ds }) (hg : W.grownBy W' none) : s.post enc P f false true false false W args (.bool true) W' := by
  have hWl := hW
  obtain ⟨p, q, hA, hV, hp, hfz, hnd⟩ := hW
  rw [hv] at hV
  obtain ⟨hgs, hq⟩ := trodVars_none hV
  subst hgs hq
  rw [List.append_nil] at hp
  subst hp
  have hlt : ∀ x ∈ before, x.block < W.heap.size := fun x hx => by simpa using hWl.lt x hx
  have stays : ∀ (sp : Nat → Bool) (ts : List TypeId) (vs : List Value) (ds : List (DataW H)) (ps : List MemPlace), (∀ t ∈ ts, P.readableRec t = true ∧ t < P.types.size) → DataW.TrodAll enc P W 0 (fun _ => true) true ts vs ds ps → (∀ x ∈ ps, x.block < W.heap.size) → (∀ x ∈ ps, sp x.block = true) → DataW.TrodAll enc P W' 0 sp true ts vs ds ps := by
    intro sp ts
    induction ts with
    | nil =>
      intro vs ds ps _ h _ _
      obtain ⟨rfl, rfl, rfl⟩ := trodAll_nil h
      exact trodAll_mk0
    | cons t ts ih =>
      intro vs ds ps hk h h1 h2
      obtain ⟨v, vs', d, ds', a, b, rfl, rfl, rfl, h3, h4⟩ := trodAll_cons h
      refine trodAll_cons_mk ?_ (ih _ _ _ (fun t ht => hk t (List.mem_cons_of_mem _ ht)) h4 (fun x hx => h1 x (List.mem_append_right _ hx)) (fun x hx => h2 x (List.mem_append_right _ hx)))
      have hb : Below W.heap.size W W' := ⟨hg.os, hg.tape, hg.output, hg.size, fun k hk => hg.block k hk (by simp)⟩
      exact WideElems.Trod_stays hl (hk t (by simp)).1 (hk t (by simp)).2 h3 (fun x hx => hb.same (h1 x (List.mem_append_left _ hx))) (fun x hx => h2 x (List.mem_append_left _ hx))
  have hres : ∀ (b : Nat) (sp : Nat → Bool) (hd : Bool), DataW.TrodAll enc P W' b sp hd f.resultTypes.toList ((Value.bool true).resultList f.resultTypes.size) (s.fn H (ds ++ [])).results [] := fun b sp hd => by
    rw [hfn, hr]
    exact trodAll_cons_mk (shut_bool ht _) trodAll_mk0
  have hvars : ∀ (W' : World) (sp : Nat → Bool), DataW.TrodVars enc P W' sp s.vars (s.fn H (ds ++ [])).vars [] := fun W' sp => by rw [hfn, hv]; rfl
  refine ⟨ds, [], before, [], before, [], hWl, hres _ _ _, by rw [hfn]; exact stays _ _ _ _ _ hts hA hlt (fun x hx => by simpa using hlt x hx), hvars _ _, grownBy_keptBut hg _, fun h => by cases h⟩
end Go.Proofs.YthofgamegondnaaDoor
