/- Lemmas for the proof. -/
import Derived.Test.YthofgamegondnaaDoorEveningRingsM1
import Derived.Test.YthofgamegondnaaDoorEveningRingsM2
import Derived.OpenShut
import Derived.WideKeyArgs
import Derived.Carry
import Derived.Deep.Slices
import Derived.ChangeArms
import Derived.SizedLaws
import Derived.Test.YthofgamegondnaaDoorCards
import Derived.Test.YthofgamegondnaaDoorTie
import Derived.WalkKit
import Derived.ProofKit
import Derived.Deep.DeepHandedRow
import Derived.Lib.LaidTab
import Derived.Test.YthofgamegondnaaDoorProg
namespace Go.Proofs.YthofgamegondnaaDoor
open Go.RowKit Go.ChangeShapes Go.WideShapes

/-- A call of a value that hangs on no memory. -/
theorem ret_flat {E : Env} (hE : EnvOk E) {n : Nat} {f : FuncId} {args : List AV} {x : AV} {h' : Hp} (e : evCall E n f args [] = some (x, h')) {w : World} {Z : Nat → Prop} {us : List Value} (hz : ∀ c, Z c → c < w.heap.size) (hg : GI E w Z) (hv : VRs w Z [] args us) :
    Ret E.P f us.toArray w fun v w' => w.grownBy w' none ∧ (flatTp x = true → VR w' (fun c => w.heap.size ≤ c ∧ c < w'.heap.size) [] x v) := by
  have hh : HR w Z [] [] := ⟨rfl, fun b B hB => by simp at hB, fun b b' B B' r r' hB => by simp at hB, hz⟩
  refine Ret.mono (enter_sound hE (code_sound hE n).1 e hh hv hg (fun y hy => by cases hy)) fun v w' hS => ?_
  obtain ⟨Z', R', h1, h2, st⟩ := hS
  exact ⟨⟨st.os, st.tape, st.output, st.size, fun c hc _ => st.block c hc (fun ⟨b, B, r, hb, _⟩ => by simp at hb)⟩, fun hf => flat_vr hf h2⟩
theorem ret_true {E : Env} (hE : EnvOk E) {n : Nat} {f : FuncId} {args : List AV} {h' : Hp} (e : evCall E n f args [] = some (.v (.bool true), h')) {w : World} {Z : Nat → Prop} {us : List Value} (hz : ∀ c, Z c → c < w.heap.size) (hg : GI E w Z) (hv : VRs w Z [] args us) :
    Ret E.P f us.toArray w fun v w' => v = .bool true ∧ w.grownBy w' none :=
  Ret.mono (ret_flat hE e hz hg hv) fun _ _ h => ⟨(h.2 rfl).v_inv, h.1⟩

/-- One more function that is told by a function of its own. -/
def Env.withX (E : Env) (f : FuncId) (g : List AV → Option AV) : Env := { E with X := fun k => if k = f then some g else E.X k }
theorem EnvOk.withX {E : Env} (hE : EnvOk E) {f : FuncId} {g : List AV → Option AV} (hc : Callable E.P f)
    (hr : ∀ xs x, g xs = some x → ∀ w Z us, (∀ c, Z c → c < w.heap.size) → GI E w Z → VRs w Z [] xs us → Ret E.P f us.toArray w fun v w' => w.grownBy w' none ∧ VR w' (fun c => Z c ∨ (w.heap.size ≤ c ∧ c < w'.heap.size)) [] x v) : EnvOk (E.withX f g) := by
  refine ⟨hE.fn, hE.mixed, hE.I, fun k q h => ?_⟩
  change (if k = f then some g else E.X k) = some q at h
  split at h
  · next hk => injection h with h; subst hk h; exact ⟨hc, hr⟩
  · exact hE.X k q h

theorem grownBy_keptBut {w w' : World} (hg : w.grownBy w' none) (may : MemPlace → Prop) : w.keptBut w' may := by
  refine ⟨hg.os, hg.output, fun i hi => ?_⟩
  rw [hg.block i hi (by simp)]
  have := (World.keptBut_refl w may).2.2 i hi
  exact this

/-- What a law's row asks: true, and the arguments read as before. -/
theorem post_true {H : Type} {enc : TypeId × Value → H} {P : Program} {f : Func} {s : ChangeSpec} {W W' : World} {args : Array Value} {ds gs : List (DataW H)} {before : List MemPlace} {t : TypeId}
    (hl : laidOutB P = true) (hts : ∀ t ∈ f.params.toList, P.readableRec t = true ∧ t < P.types.size)
    (hW : DataW.Whole enc P f.params.toList s.vars false W args.toList ds gs before) (hv : s.vars = []) (hr : f.resultTypes = #[t]) (ht : P.underlying t = some .bool)
    (hfn : s.fn H (ds ++ []) = { results := [.lit (.bool true)], args := ds }) (hg : W.grownBy W' none) : s.post enc P f false true false false W args (.bool true) W' := by
  have hWl := hW
  obtain ⟨p, q, hA, hV, hp, hfz, hnd⟩ := hW
  rw [hv] at hV
  obtain ⟨hgs, hq⟩ := trodVars_none hV
  subst hgs hq
  rw [List.append_nil] at hp
  subst hp
  have hlt : ∀ x ∈ before, x.block < W.heap.size := fun x hx => by simpa using hWl.lt x hx
  have stays : ∀ (sp : Nat → Bool) (ts : List TypeId) (vs : List Value) (ds : List (DataW H)) (ps : List MemPlace), (∀ t ∈ ts, P.readableRec t = true ∧ t < P.types.size) → DataW.TrodAll enc P W 0 (fun _ => true) true ts vs ds ps → (∀ x ∈ ps, x.block < W.heap.size) → (∀ x ∈ ps, sp x.block = true) → DataW.TrodAll enc P W' 0 sp true ts vs ds ps := by
    intro sp ts
    induction ts with
    | nil =>
      intro vs ds ps _ h _ _
      obtain ⟨rfl, rfl, rfl⟩ := trodAll_nil h
      exact trodAll_mk0
    | cons t ts ih =>
      intro vs ds ps hk h h1 h2
      obtain ⟨v, vs', d, ds', a, b, rfl, rfl, rfl, h3, h4⟩ := trodAll_cons h
      refine trodAll_cons_mk ?_ (ih _ _ _ (fun t ht => hk t (List.mem_cons_of_mem _ ht)) h4 (fun x hx => h1 x (List.mem_append_right _ hx)) (fun x hx => h2 x (List.mem_append_right _ hx)))
      have hb : Below W.heap.size W W' := ⟨hg.os, hg.tape, hg.output, hg.size, fun k hk => hg.block k hk (by simp)⟩
      exact WideElems.Trod_stays hl (hk t (by simp)).1 (hk t (by simp)).2 h3 (fun x hx => hb.same (h1 x (List.mem_append_left _ hx))) (fun x hx => h2 x (List.mem_append_left _ hx))
  have hres : ∀ (b : Nat) (sp : Nat → Bool) (hd : Bool), DataW.TrodAll enc P W' b sp hd f.resultTypes.toList ((Value.bool true).resultList f.resultTypes.size) (s.fn H (ds ++ [])).results [] := fun b sp hd => by
    rw [hfn, hr]
    exact trodAll_cons_mk (shut_bool ht _) trodAll_mk0
  have hvars : ∀ (W' : World) (sp : Nat → Bool), DataW.TrodVars enc P W' sp s.vars (s.fn H (ds ++ [])).vars [] := fun W' sp => by rw [hfn, hv]; rfl
  refine ⟨ds, [], before, [], before, [], hWl, hres _ _ _, by rw [hfn]; exact stays _ _ _ _ _ hts hA hlt (fun x hx => by simpa using hlt x hx), hvars _ _, grownBy_keptBut hg _, fun h => by cases h⟩
end Go.Proofs.YthofgamegondnaaDoor

namespace Go.Proofs.YthofgamegondnaaDoor
open Go.RowKit

/-- From one state to a later one, the numbers of the blocks left aside. -/
structure StepW (w : World) (Z : Nat → Prop) (ρ : List RI) (h : Hp) (w' : World) (Z' : Nat → Prop) (ρ' : List RI) (h' : Hp) : Prop where
  os : w'.os = w.os
  tape : w'.tape = w.tape
  output : w'.output = w.output
  size : w.heap.size ≤ w'.heap.size
  block : ∀ c, c < w.heap.size → ¬ own ρ h c → w'.heap[c]? = w.heap[c]?
  own_ : ∀ c, own ρ' h' c → own ρ h c ∨ w.heap.size ≤ c
  z : ∀ c, Z c → Z' c
  z' : ∀ c, Z' c → Z c ∨ own ρ h c ∨ w.heap.size ≤ c
theorem Step.w {w w' : World} {Z Z' : Nat → Prop} {R R' : List RI} {h h' : Hp} (s : Step w Z R h w' Z' R' h') : StepW w Z R h w' Z' R' h' := ⟨s.os, s.tape, s.output, s.size, s.block, s.own_, s.z, s.z'⟩
theorem StepW.refl (w : World) (Z : Nat → Prop) (R : List RI) (h : Hp) : StepW w Z R h w Z R h := (Step.refl w Z R h).w
theorem StepW.trans {w w' w'' : World} {Z Z' Z'' : Nat → Prop} {R R' R'' : List RI} {h h' h'' : Hp} (s : StepW w Z R h w' Z' R' h') (t : StepW w' Z' R' h' w'' Z'' R'' h'') : StepW w Z R h w'' Z'' R'' h'' := by
  refine ⟨t.os.trans s.os, t.tape.trans s.tape, t.output.trans s.output, Nat.le_trans s.size t.size, fun c hc hn => ?_, fun c hc => ?_, fun c hc => t.z c (s.z c hc), fun c hc => ?_⟩
  · rw [t.block c (Nat.lt_of_lt_of_le hc s.size) fun ho => ?_]
    · exact s.block c hc hn
    · rcases s.own_ c ho with h1 | h1
      · exact hn h1
      · omega
  · rcases t.own_ c hc with h1 | h1
    · exact s.own_ c h1
    · exact .inr (Nat.le_trans s.size h1)
  · rcases t.z' c hc with h1 | h1 | h1
    · exact s.z' c h1
    · rcases s.own_ c h1 with h2 | h2
      · exact .inr (.inl h2)
      · exact .inr (.inr h2)
    · exact .inr (.inr (Nat.le_trans s.size h1))
theorem yi_none {cx : Cx} (h : cx.y = none) (w : World) (Z : Nat → Prop) (R : List RI) (hp : Hp) : YI cx w Z R hp := fun y hy => by rw [h] at hy; cases hy

/-- From every world that s tells, the code runs and ends as Q says. -/
def Sem (E : Env) (cx : Cx) (c : Code) (s : St) (Q : Ex → St → Prop) : Prop :=
  ∀ (ro : Option Nat) (base : Nat) (Qm : Exit → Act → World → Prop) (a : Act) (w : World) (Z : Nat → Prop) (R : List RI), (cx.inR = false → ro = none) → SR E base w Z R s a → cx.y = none →
    (∀ e s' a' w' Z' R', Q e s' → SR E base w' Z' R' s' a' → StepW w Z R s.hp w' Z' R' s'.hp → Qm (exOf e) a' w') → c.wpIn (Fw ro) 0 E.P Qm a w
/-- .. of n rounds of a loop. -/
def SemN (E : Env) (cx : Cx) (c : Code) (n : Nat) (s : St) (Q : Ex → St → Prop) : Prop :=
  ∀ (ro : Option Nat) (base : Nat) (Qm : Exit → Act → World → Prop) (a : Act) (w : World) (Z : Nat → Prop) (R : List RI), (cx.inR = false → ro = none) → SR E base w Z R s a → cx.y = none →
    (∀ e s' a' w' Z' R', Q e s' → SR E base w' Z' R' s' a' → StepW w Z R s.hp w' Z' R' s'.hp → Qm (exOf e) a' w') → Code.roundsIn (Fw ro) 0 E.P c Qm n a w

section
variable {E : Env} {cx : Cx} {c c' : Code} {s s1 : St} {Q Q' : Ex → St → Prop} {n : Nat}

theorem Sem.mono (h : Sem E cx c s Q) (hq : ∀ e s, Q e s → Q' e s) : Sem E cx c s Q' :=
  fun ro base Qm a w Z R h1 h2 h3 k => h ro base Qm a w Z R h1 h2 h3 fun e s' a' w' Z' R' hQ => k e s' a' w' Z' R' (hq e s' hQ)
theorem Sem.of_ev (hE : EnvOk E) (hd : drawOk c = true) {e : Ex} {s' : St} (h : evC E n cx c s = some (e, s')) (q : Q e s') : Sem E cx c s Q :=
  fun ro base Qm a w Z R h1 h2 h3 k => (code_sound hE n).1 cx c s e s' hd h ro base Qm a w Z R h1 h2 (yi_none h3 _ _ _ _) fun a' w' Z' R' sr st => k e s' a' w' Z' R' q sr st.w
theorem Sem.skip (q : Q .normal s) : Sem E cx .skip s Q :=
  fun _ _ _ a w Z R _ h2 _ k => wpIn_skip (k .normal s a w Z R q h2 (StepW.refl _ _ _ _))
theorem Sem.exit {id : Nat} (q : Q (.exit id) s) : Sem E cx (.exit id) s Q :=
  fun _ _ _ a w Z R _ h2 _ k => wpIn_exit (k (.exit id) s a w Z R q h2 (StepW.refl _ _ _ _))
theorem Sem.ret (q : Q .ret s) : Sem E cx .ret s Q :=
  fun _ _ _ a w Z R _ h2 _ k => wpIn_ret (k .ret s a w Z R q h2 (StepW.refl _ _ _ _))
/-- A region whose operations run in their order. -/
theorem Sem.region (hE : EnvOk E) {id : Nat} {ops : Array Oper} (n : Nat) (h : opsA E (evC E n) cx ops ops.toList s = some s1) (q : Q .normal s1) : Sem E cx (.region id ops false) s Q :=
  fun _ _ _ _ _ _ _ h1 h2 h3 k => wpIn_region_list (opsA_sound hE (code_sound hE n).1 h1 h h2 (yi_none h3 _ _ _ _) fun a' w' Z' R' sr st => k .normal s1 a' w' Z' R' q sr st.w)
theorem Sem.draw (hE : EnvOk E) {id : Nat} {ops : Array Oper} (hd : drawOk (.region id ops true) = true) (n : Nat) (h : opsD E (evC E n) cx ops s.hp.length ops.toList s = some s1) (q : Q .normal s1) : Sem E cx (.region id ops true) s Q :=
  fun _ _ _ _ _ _ _ _ h2 _ k => draw_sound hE (code_sound hE n).1 hd h h2 fun a' w' Z' R' sr st => k .normal s1 a' w' Z' R' q sr st.w
theorem Sem.seq (h : Sem E cx c s fun e s' => match e with | .normal => Sem E cx c' s' Q | e => Q e s') : Sem E cx (.seq c c') s Q := by
  intro ro base Qm a w Z R h1 h2 h3 k
  refine wpIn_seq (h ro base _ a w Z R h1 h2 h3 fun e s' a' w' Z' R' hQ sr st => ?_)
  cases e with
  | normal => exact hQ ro base Qm a' w' Z' R' h1 sr h3 fun e2 s2 a2 w2 Z2 R2 hQ2 sr2 st2 => k e2 s2 a2 w2 Z2 R2 hQ2 sr2 (st.trans st2)
  | exit id => exact k _ s' a' w' Z' R' hQ sr st
  | ret => exact k _ s' a' w' Z' R' hQ sr st
theorem Sem.cond_true {x : Operand} (hx : opA E s.fr x = some (.v (.bool true))) (h : Sem E cx c s Q) : Sem E cx (.cond x c c') s Q :=
  fun ro base Qm a w Z R h1 h2 h3 k => wpIn_cond_true (opA_vr h2 _ _ hx).v_inv (h ro base Qm a w Z R h1 h2 h3 k)
theorem Sem.cond_false {x : Operand} (hx : opA E s.fr x = some (.v (.bool false))) (h : Sem E cx c' s Q) : Sem E cx (.cond x c c') s Q :=
  fun ro base Qm a w Z R h1 h2 h3 k => wpIn_cond_false (opA_vr h2 _ _ hx).v_inv (h ro base Qm a w Z R h1 h2 h3 k)
theorem Sem.cond {x : Operand} {b : Bool} (hx : opA E s.fr x = some (.v (.bool b))) (h : b = true → Sem E cx c s Q) (h' : b = false → Sem E cx c' s Q) : Sem E cx (.cond x c c') s Q := by
  cases b with
  | true => exact .cond_true hx (h rfl)
  | false => exact .cond_false hx (h' rfl)
theorem Sem.block {id : Nat} (h : Sem E cx c s fun e s' => match e with | .exit id' => if id' = id then Q .normal s' else Q (.exit id') s' | e => Q e s') : Sem E cx (.block id c) s Q := by
  intro ro base Qm a w Z R h1 h2 h3 k
  refine wpIn_block (h ro base _ a w Z R h1 h2 h3 fun e s' a' w' Z' R' hQ sr st => ?_)
  cases e with
  | normal => exact k _ s' a' w' Z' R' hQ sr st
  | exit id' =>
    show if id' = id then Qm .normal a' w' else Qm (.exit id') a' w'
    simp only at hQ
    split at hQ
    · next h => rw [if_pos h]; exact k .normal s' a' w' Z' R' hQ sr st
    · next h => rw [if_neg h]; exact k _ s' a' w' Z' R' hQ sr st
  | ret => exact k _ s' a' w' Z' R' hQ sr st
theorem Sem.loop (h : SemN E cx c n s Q) : Sem E cx (.loop c) s Q :=
  fun ro base Qm a w Z R h1 h2 h3 k => wpIn_loop_rounds n (h ro base Qm a w Z R h1 h2 h3 k)
theorem SemN.succ (h : Sem E cx c s fun e s' => match e with | .normal => SemN E cx c n s' Q | e => Q e s') : SemN E cx c (n + 1) s Q := by
  intro ro base Qm a w Z R h1 h2 h3 k
  show c.wpIn (Fw ro) 0 E.P (Exit.then (Code.roundsIn (Fw ro) 0 E.P c Qm n) Qm) a w
  refine h ro base _ a w Z R h1 h2 h3 fun e s' a' w' Z' R' hQ sr st => ?_
  cases e with
  | normal => exact hQ ro base Qm a' w' Z' R' h1 sr h3 fun e2 s2 a2 w2 Z2 R2 hQ2 sr2 st2 => k e2 s2 a2 w2 Z2 R2 hQ2 sr2 (st.trans st2)
  | exit id => exact k _ s' a' w' Z' R' hQ sr st
  | ret => exact k _ s' a' w' Z' R' hQ sr st

/-- A state that says less (or the same in another way) of the same worlds. -/
def Wk (E : Env) (s s' : St) : Prop := ∀ base w Z R a, SR E base w Z R s a → ∃ Z' R', SR E base w Z' R' s' a ∧ StepW w Z R s.hp w Z' R' s'.hp
theorem Wk.refl : Wk E s s := fun base w Z R a h => ⟨Z, R, h, StepW.refl _ _ _ _⟩
theorem Wk.trans {s2 : St} (h : Wk E s s1) (h' : Wk E s1 s2) : Wk E s s2 := fun base w Z R a k =>
  let ⟨Z1, R1, k1, st1⟩ := h base w Z R a k
  let ⟨Z2, R2, k2, st2⟩ := h' base w Z1 R1 a k1
  ⟨Z2, R2, k2, st1.trans st2⟩
theorem Sem.wk (hw : Wk E s s1) (h : Sem E cx c s1 Q) : Sem E cx c s Q := by
  intro ro base Qm a w Z R h1 h2 h3 k
  obtain ⟨Z', R', h2', st⟩ := hw base w Z R a h2
  exact h ro base Qm a w Z' R' h1 h2' h3 fun e s' a' w' Z2 R2 hQ sr st2 => k e s' a' w' Z2 R2 hQ sr (st.trans st2)
theorem SemN.wk (hw : Wk E s s1) (h : SemN E cx c n s1 Q) : SemN E cx c n s Q := by
  intro ro base Qm a w Z R h1 h2 h3 k
  obtain ⟨Z', R', h2', st⟩ := hw base w Z R a h2
  exact h ro base Qm a w Z' R' h1 h2' h3 fun e s' a' w' Z2 R2 hQ sr st2 => k e s' a' w' Z2 R2 hQ sr (st.trans st2)
/-- .. at the end. -/
theorem Sem.wkQ (h : Sem E cx c s fun e s' => ∃ s2, Wk E s' s2 ∧ Q e s2) : Sem E cx c s Q := by
  intro ro base Qm a w Z R h1 h2 h3 k
  refine h ro base Qm a w Z R h1 h2 h3 fun e s' a' w' Z' R' hQ sr st => ?_
  obtain ⟨s2, hw, hq⟩ := hQ
  obtain ⟨Z2, R2, sr2, st2⟩ := hw base w' Z' R' a' sr
  exact k e s2 a' w' Z2 R2 hq sr2 (st.trans st2)

/-- Slots are forgotten. -/
theorem Wk.frame {fr fr' : List (Option AV)} {hp : Hp} (hl : fr'.length = fr.length) (h : ∀ (t : Nat) (x : AV), fr'[t]? = some (some x) → fr[t]? = some (some x)) : Wk E ⟨fr, hp⟩ ⟨fr', hp⟩ :=
  fun base w Z R a sr => ⟨Z, R, ⟨sr.hh, ⟨hl.trans sr.fr.1, fun t x hx => sr.fr.2 t x (h t x hx)⟩, sr.mks, sr.gl, sr.bs⟩, StepW.refl _ _ _ _⟩

/-- A function, entered: from what its body does. -/
theorem ret_sem (hE : EnvOk E) {f : FuncId} {fn : Func} {args : List AV} {h : Hp} (hf : E.fn f = some fn) (hc : fn.body = some c) (hle : args.length ≤ fn.ntmps)
    (hb : Sem E ⟨none, false⟩ c ⟨args.map some ++ List.replicate (fn.ntmps - args.length) (some (.tp [])), h⟩ fun e s => (e = .normal ∨ e = .ret) ∧ ∃ xs, resA E.P s.fr s.hp fn.results.toList = some xs ∧ Q .ret ⟨[some (retA xs)], s.hp⟩)
    {w : World} {Z : Nat → Prop} {R : List RI} {us : List Value} (hh : HR w Z R h) (hv : VRs w Z R args us) (hg : GI E w Z) :
    Ret E.P f us.toArray w fun v w' => ∃ Z' R' x h', Q .ret ⟨[some x], h'⟩ ∧ HR w' Z' R' h' ∧ VR w' Z' R' x v ∧ StepW w Z R h w' Z' R' h' := by
  obtain ⟨hff, _, _⟩ := hE.fn f fn hf
  refine callsIn_wide.1 (callsIn_of_wp_marks (F := Fw none) (n := 0) hff hc trivial ?_)
  have hul : us.length = args.length := hv.len
  have hsr : SR E w.heap.size w Z R ⟨args.map some ++ List.replicate (fn.ntmps - args.length) (some (.tp [])), h⟩ { tmps := us.toArray ++ Array.replicate (fn.ntmps - us.toArray.size) undef, defers := [] } := by
    refine ⟨hh, ⟨by simp [hul], fun t x hx => ?_⟩, trivial, hg, Nat.le_refl _⟩
    have e0 : us.toArray ++ Array.replicate (fn.ntmps - us.toArray.size) undef = (us ++ List.replicate (fn.ntmps - us.length) undef).toArray := by simp
    rw [e0, Array.getD_eq_getD_getElem?, List.getElem?_toArray]
    by_cases ht : t < args.length
    · rw [List.getElem?_append_left (by simpa using ht), List.getElem?_map] at hx
      rw [List.getElem?_append_left (by omega)]
      cases hat : args[t]? with
      | none => rw [hat] at hx; cases hx
      | some q =>
        rw [hat] at hx
        have hx := Option.some.inj (Option.some.inj hx)
        subst hx
        obtain ⟨u, hu1, hu2⟩ := hv.get hat
        rw [hu1]; exact hu2
    · rw [List.getElem?_append_right (by simp; omega), List.getElem?_replicate] at hx
      split at hx
      · next hlt =>
        have hx := Option.some.inj (Option.some.inj hx)
        subst hx
        rw [List.getElem?_append_right (by omega), List.getElem?_replicate, if_pos (by rw [hul]; simpa using hlt)]
        exact .tp (us := []) rfl (fun i x u hx => by simp at hx)
      · cases hx
  refine hb none w.heap.size _ _ w Z R (fun _ => rfl) hsr rfl fun e s' a' w' Z' R' hQ sr' st => ?_
  obtain ⟨hex, xs, hxs, hq⟩ := hQ
  have hl := leaves_mks (E := E) (w := w') (a := a') (fn := fn) (S := fun v w'' => ∃ Z' R' x h', Q .ret ⟨[some x], h'⟩ ∧ HR w'' Z' R' h' ∧ VR w'' Z' R' x v ∧ StepW w Z R h w'' Z' R' h') hxs (fun w'' u g1 g2 g3 g4 g5 g6 g7 => ⟨Z', R', _, _, hq, g6, g7, ⟨g2.trans st.os, g3.trans st.tape, g4.trans st.output, by rw [g1]; exact st.size, fun c hc hn => (g5 c hc).trans (st.block c hc hn), st.own_, st.z, st.z'⟩⟩) (D := a'.defers) (w1 := w') sr' rfl rfl rfl rfl (fun _ _ => rfl)
  rcases hex with rfl | rfl
  · exact hl
  · exact hl
end
end Go.Proofs.YthofgamegondnaaDoor

namespace Go.Proofs.YthofgamegondnaaDoor
open Go.RowKit

/-- Known slots. -/
def lk : List (Nat × AV) → Nat → Option AV
  | [], _ => none
  | (k, x) :: l, t => if Nat.beq k t then some x else lk l t
def frG (l : List (Nat × AV)) : Nat → Nat → List (Option AV)
  | _, 0 => []
  | i, m + 1 => lk l i :: frG l (i + 1) m
/-- A frame of n slots. -/
def Fr (n : Nat) (l : List (Nat × AV)) : List (Option AV) := frG l 0 n

theorem frG_len (l : List (Nat × AV)) : ∀ (m i : Nat), (frG l i m).length = m
  | 0, _ => rfl
  | m + 1, i => by simp [frG, frG_len l m]
theorem frG_get (l : List (Nat × AV)) : ∀ (m i t : Nat), (frG l i m)[t]? = if t < m then some (lk l (i + t)) else none
  | 0, _, t => by simp [frG]
  | m + 1, i, 0 => by simp [frG]
  | m + 1, i, t + 1 => by
    rw [show frG l i (m + 1) = lk l i :: frG l (i + 1) m from rfl, List.getElem?_cons_succ, frG_get l m, show i + 1 + t = i + (t + 1) by omega]
    simp
theorem Fr_len (n : Nat) (l : List (Nat × AV)) : (Fr n l).length = n := frG_len l n 0
theorem Fr_get (n : Nat) (l : List (Nat × AV)) (t : Nat) : (Fr n l)[t]? = if t < n then some (lk l t) else none := by
  rw [Fr, frG_get, Nat.zero_add]
theorem lk_put (l : List (Nat × AV)) (d t : Nat) (x : AV) : lk ((d, x) :: l) t = if d = t then some x else lk l t := by
  show (if Nat.beq d t = true then some x else lk l t) = _
  simp only [Nat.beq_eq]
theorem putA_Fr (n : Nat) (l : List (Nat × AV)) (d : Nat) (x : AV) : putA (Fr n l) (some d) x = Fr n ((d, x) :: l) := by
  apply List.ext_getElem?
  intro t
  show ((Fr n l).set d (some x))[t]? = _
  rw [List.getElem?_set, Fr_get, Fr_get, Fr_len, lk_put]
  by_cases h : d = t
  · subst h; simp
  · simp [h]
/-- Fewer slots are known. -/
def lkAll (l : List (Nat × AV)) : List (Nat × AV) → List (Option AV)
  | [] => []
  | (t, _) :: r => lk l t :: lkAll l r
def xsAll : List (Nat × AV) → List (Option AV)
  | [] => []
  | (_, x) :: r => some x :: xsAll r
theorem lk_mem {l l' : List (Nat × AV)} (h : lkAll l l' = xsAll l') {t : Nat} {x : AV} (hx : lk l' t = some x) : lk l t = some x := by
  induction l' with
  | nil => cases hx
  | cons p r ih =>
    obtain ⟨k, y⟩ := p
    injection h with h1 h2
    rw [lk_put] at hx
    split at hx
    · next hk => injection hx with hx; subst hk hx; exact h1
    · exact ih h2 hx
theorem Wk.fr {E : Env} {n : Nat} {l l' : List (Nat × AV)} {hp : Hp} (h : lkAll l l' = xsAll l') : Wk E ⟨Fr n l, hp⟩ ⟨Fr n l', hp⟩ :=
  Wk.frame (by rw [Fr_len, Fr_len]) fun t x hx => by
    rw [Fr_get] at hx ⊢
    split at hx
    · next ht => rw [if_pos ht]; injection hx with hx; rw [lk_mem h hx]
    · cases hx
/-- The frame in which a function begins. -/
def pairs0 : Nat → List AV → List (Nat × AV)
  | _, [] => []
  | i, x :: r => (i, x) :: pairs0 (i + 1) r
theorem lk_pairs0 : ∀ (xs : List AV) (i t : Nat) (x : AV), lk (pairs0 i xs) t = some x → ∃ j, t = i + j ∧ xs[j]? = some x
  | [], i, t, x, h => by cases h
  | y :: r, i, t, x, h => by
    rw [pairs0, lk_put] at h
    split at h
    · next e => injection h with h; subst e h; exact ⟨0, rfl, rfl⟩
    · obtain ⟨j, h1, h2⟩ := lk_pairs0 r (i + 1) t x h
      exact ⟨j + 1, by omega, by simpa using h2⟩
theorem Wk.enter {E : Env} {n : Nat} {args : List AV} {hp : Hp} (hle : args.length ≤ n) : Wk E ⟨args.map some ++ List.replicate (n - args.length) (some (.tp [])), hp⟩ ⟨Fr n (pairs0 0 args), hp⟩ :=
  Wk.frame (by rw [Fr_len]; simp; omega) fun t x hx => by
    rw [Fr_get] at hx
    split at hx
    · next ht =>
      injection hx with hx
      obtain ⟨j, h1, h2⟩ := lk_pairs0 args 0 t x hx
      rw [Nat.zero_add] at h1
      subst h1
      have hj : t < args.length := (List.getElem?_eq_some_iff.1 h2).1
      rw [List.getElem?_append_left (by simpa using hj), List.getElem?_map, h2]
      rfl
    · cases hx

theorem opsA_append {E : Env} {ih : IH} {cx : Cx} {ops : Array Oper} : ∀ {a b : List Oper} {s : St}, opsA E ih cx ops (a ++ b) s = (opsA E ih cx ops a s).bind (opsA E ih cx ops b)
  | [], b, s => rfl
  | o :: a, b, s => by
    show opsA E ih cx ops (o :: (a ++ b)) s = _
    unfold opsA
    cases wantedA ops s.fr o with
    | none => rfl
    | some g =>
      cases g with
      | false => exact opsA_append
      | true =>
        simp only
        cases op1 E ih cx o s with
        | none => rfl
        | some s1 => exact opsA_append
theorem opsD_nil {E : Env} {ih : IH} {cx : Cx} {ops : Array Oper} {n0 : Nat} {s : St} : opsD E ih cx ops n0 [] s = some s := rfl

/-- The operations that are left run. -/
def Runs' (E : Env) (cx : Cx) (ops : Array Oper) (rest : List Oper) (s : St) (K : St → Prop) : Prop := ∃ s', opsA E (evC E 0) cx ops rest s = some s' ∧ K s'
def RunsD (E : Env) (cx : Cx) (ops : Array Oper) (n0 : Nat) (rest : List Oper) (s : St) (K : St → Prop) : Prop := ∃ s', opsD E (evC E 0) cx ops n0 rest s = some s' ∧ K s'

section
variable {E : Env} {cx : Cx} {ops : Array Oper} {rest rest' : List Oper} {s s1 : St} {K : St → Prop} {n n0 : Nat} {l : List (Nat × AV)} {hp hp' : Hp} {Q : Ex → St → Prop} {id : Nat}
theorem Sem.runs (hE : EnvOk E) (h : Runs' E cx ops ops.toList s fun s' => Wk E s' s1) (q : Q .normal s1) : Sem E cx (.region id ops false) s Q := by
  obtain ⟨s', h1, h2⟩ := h
  exact Sem.wkQ (Sem.region hE 0 h1 ⟨s1, h2, q⟩)
theorem Sem.runsD (hE : EnvOk E) (hd : drawOk (.region id ops true) = true) (h : RunsD E cx ops s.hp.length ops.toList s fun s' => Wk E s' s1) (q : Q .normal s1) : Sem E cx (.region id ops true) s Q := by
  obtain ⟨s', h1, h2⟩ := h
  exact Sem.wkQ (Sem.draw hE hd 0 h1 ⟨s1, h2, q⟩)
theorem Runs'.done (hr : rest = []) (k : K s) : Runs' E cx ops rest s K := by subst hr; exact ⟨s, rfl, k⟩
theorem RunsD.done (hr : rest = []) (k : K s) : RunsD E cx ops n0 rest s K := by subst hr; exact ⟨s, rfl, k⟩
/-- Some operations at once. -/
theorem Runs'.seg (m : Nat) (h : opsA E (evC E 0) cx ops (rest.take m) s = some s1) (k : Runs' E cx ops (rest.drop m) s1 K) : Runs' E cx ops rest s K := by
  obtain ⟨s', h1, h2⟩ := k
  refine ⟨s', ?_, h2⟩
  rw [← List.take_append_drop m rest, opsA_append, h]
  exact h1
theorem wantedA_none {o : Oper} {fr : List (Option AV)} (hg : o.guard = none) : wantedA ops fr o = some true := by unfold wantedA; rw [hg]
/-- One operation that reads. -/
theorem Runs'.q {o : Oper} {x : AV} {d : Nat} (hr : rest = o :: rest') (hw : wantedA ops (Fr n l) o = some true) (hd : o.dst = some d) (h : evOpQ E.P (opA E (Fr n l)) hp o.op = some x) (k : Runs' E cx ops rest' ⟨Fr n ((d, x) :: l), hp⟩ K) : Runs' E cx ops rest ⟨Fr n l, hp⟩ K := by
  obtain ⟨s', h1, h2⟩ := k
  refine ⟨s', ?_, h2⟩
  subst hr
  unfold opsA
  simp only [hw]
  unfold op1
  simp only [h, hd, putA_Fr]
  exact h1
theorem RunsD.q {o : Oper} {x : AV} {d : Nat} (hr : rest = o :: rest') (hi : isW o.op = false) (hw : wantedA ops (Fr n l) o = some true) (hd : o.dst = some d) (h : evOpQ E.P (opA E (Fr n l)) hp o.op = some x) (hl : ldOk n0 (opA E (Fr n l)) o.op = true) (k : RunsD E cx ops n0 rest' ⟨Fr n ((d, x) :: l), hp⟩ K) : RunsD E cx ops n0 rest ⟨Fr n l, hp⟩ K := by
  obtain ⟨s', h1, h2⟩ := k
  refine ⟨s', ?_, h2⟩
  subst hr
  unfold opsD
  simp only [hi, hw, h, hl, hd, putA_Fr, if_true, Bool.false_eq_true, if_false]
  exact h1
theorem opsD_append {ih : IH} : ∀ {a b : List Oper} {s : St}, (a.all fun o => !isW o.op) = true → opsD E ih cx ops n0 (a ++ b) s = (opsD E ih cx ops n0 a s).bind (opsD E ih cx ops n0 b)
  | [], b, s, _ => rfl
  | o :: a, b, s, hw => by
    simp only [List.all_cons, Bool.and_eq_true, Bool.not_eq_true'] at hw
    obtain ⟨hw1, hw2⟩ := hw
    show opsD E ih cx ops n0 (o :: (a ++ b)) s = _
    unfold opsD
    simp only [hw1, Bool.false_eq_true, if_false]
    cases wantedA ops s.fr o with
    | none => rfl
    | some g =>
      cases g with
      | false => exact opsD_append hw2
      | true =>
        simp only
        cases evOpQ E.P (opA E s.fr) s.hp o.op with
        | some x =>
          simp only
          split
          · exact opsD_append hw2
          · rfl
        | none =>
          simp only
          cases evOpN E.P (opA E s.fr) s.hp o.op with
          | some r => exact opsD_append hw2
          | none =>
            simp only
            split
            · split
              · split
                · exact opsD_append hw2
                · rfl
              · rfl
            · rfl
theorem RunsD.seg (m : Nat) (hw : ((rest.take m).all fun o => !isW o.op) = true) (h : opsD E (evC E 0) cx ops n0 (rest.take m) s = some s1) (k : RunsD E cx ops n0 (rest.drop m) s1 K) : RunsD E cx ops n0 rest s K := by
  obtain ⟨s', h1, h2⟩ := k
  refine ⟨s', ?_, h2⟩
  rw [← List.take_append_drop m rest, opsD_append hw, h]
  exact h1
theorem RunsD.tail {o : Oper} (hr : rest = o :: rest') (hw : isW o.op = true) (k : Runs' E ⟨none, cx.inR⟩ ops rest s K) : RunsD E cx ops n0 rest s K := by
  obtain ⟨s', h1, h2⟩ := k
  refine ⟨s', ?_, h2⟩
  subst hr
  unfold opsD
  rw [if_pos hw]
  exact h1
/-- The end of a loop or of a part of the code that is told by a value. -/
theorem Sem.cut {c : Code} {e0 : Ex} (h : Sem E cx c s fun e s' => e = e0 ∧ Wk E s' s1) (k : Q e0 s1) : Sem E cx c s Q :=
  Sem.wkQ (Sem.mono h fun e s' h => ⟨s1, h.2, by rw [h.1]; exact k⟩)
end
end Go.Proofs.YthofgamegondnaaDoor

namespace Go.Proofs.YthofgamegondnaaDoor
open Go.RowKit

def idx {α : Type} (xs : List α) (i : Int) : Option α := if 0 ≤ i then xs[i.toNat]? else none
def eK (k : IntKind) (n : Int) : AV := .v (.int k n)
def eI (n : Int) : AV := .v (.int .i64 n)
def eB (b : Bool) : AV := .v (.bool b)

def mnI (a b : Int) : Int := if b < a then b else a
def mxI (a b : Int) : Int := if b > a then b else a
theorem if_f {α : Type} {c : Bool} {a b : α} (h : c = false) : (if c = true then a else b) = b := by rw [h]; rfl

section
variable {P : Program} {h : Hp} {ρ : Operand → Option AV}
theorem q_indexAddr {t : TypeId} {x i : Operand} {a b r : AV} (hx : ρ x = some a) (hi : ρ i = some b) (he : evIndexAddr P h t a b = some r) : evOpQ P ρ h (.indexAddr t x i) = some r := by
  show (match ρ x, ρ i with | some x, some i => evIndexAddr P h t x i | _, _ => none) = some r
  rw [hx, hi]; exact he
theorem ix_sl {α : Type} {xs : List α} {e : α → AV} {t el : TypeId} {k : Nat} {ki : IntKind} {i : Int} {v : α} (hu : P.underlying t = some (.slice el)) (hs : tySize P el = some k) (hv : idx xs i = some v) : evIndexAddr P h t (.sl k (xs.map e)) (.v (.int ki i)) = some (.pe (e v) 0) := by
  unfold idx at hv
  split at hv
  · next h0 =>
    unfold evIndexAddr
    have h1 : ¬ i < 0 := by omega
    simp [intOfA, h1, hu, hv, hs]
  · cases hv
theorem q_len {t : TypeId} {x : Operand} {a r : AV} (hx : ρ x = some a) (he : evLen P t a = some r) : evOpQ P ρ h (.call ⟨.builtin .len, #[x], #[t]⟩) = some r := by
  show (match opds ρ [x], [t] with | some [x], [t] => evLen P t x | _, _ => none) = some r
  simp only [opds, hx]; exact he
theorem len_sl {α : Type} {xs : List α} {e : α → AV} {t el : TypeId} {k : Nat} (hu : P.underlying t = some (.slice el)) : evLen P t (.sl k (xs.map e)) = some (eI xs.length) := by
  unfold evLen; simp [hu, eI]
theorem q_bin {op : BinOp} {t t' : TypeId} {x y : Operand} {a b r : AV} (hx : ρ x = some a) (hy : ρ y = some b) (he : evBin op a b = some r) : evOpQ P ρ h (.binOp op t x y t') = some r := by
  show (match ρ x, ρ y with | some x, some y => (match evBin op x y with | some z => some z | none => evEq P op t x y) | _, _ => none) = some r
  rw [hx, hy]
  simp only [he]
theorem bin_quo {k : IntKind} {a b : Int} (hb : ¬ b = 0) : evBin .quo (.v (.int k a)) (.v (.int k b)) = some (.v (.int k (wr k (a.tdiv b)))) := by
  simp [evBin, isShift, intBin, hb]
theorem bin_rem {k : IntKind} {a b : Int} (hb : ¬ b = 0) : evBin .rem (.v (.int k a)) (.v (.int k b)) = some (.v (.int k (a.tmod b))) := by
  simp [evBin, isShift, intBin, hb]
end
end Go.Proofs.YthofgamegondnaaDoor

namespace Go.Proofs.YthofgamegondnaaDoor
open Go.RowKit

/-- How a Lean type's values are told as abstract ones. -/
structure Cd (α : Type) where
  enc : α → AV
  dec : AV → Option α
  de : ∀ x, dec (enc x) = some x
  vr : ∀ {w : World} {Z : Nat → Prop} {a : AV} {x : α} {u : Value}, dec a = some x → VR w Z [] a u → VR w Z [] (enc x) u
  nr : ∀ x, noRf2 (enc x) = true
def cdK (k : IntKind) : Cd Int where
  enc n := .v (.int k n)
  dec a := match a with
    | .v (.int k' n) => if k' = k then some n else none
    | _ => none
  de x := by simp
  vr := fun {w Z a x u} h hv => by
    split at h
    · split at h
      · next hk => injection h with h; subst h hk; exact hv
      · cases h
    · cases h
  nr _ := rfl
def cdI : Cd Int := cdK .i64
def cdB : Cd Bool where
  enc b := .v (.bool b)
  dec a := match a with
    | .v (.bool b) => some b
    | _ => none
  de _ := rfl
  vr := fun {w Z a x u} h hv => by
    split at h
    · injection h with h; subst h; exact hv
    · cases h
  nr _ := rfl
def cdS : Cd (List UInt8) where
  enc b := .st b
  dec a := match a with
    | .st b => some b
    | _ => none
  de _ := rfl
  vr := fun {w Z a x u} h hv => by
    split at h
    · injection h with h; subst h; exact hv
    · cases h
  nr _ := rfl
def decs {α : Type} (c : Cd α) : List AV → Option (List α)
  | [] => some []
  | a :: r => match c.dec a, decs c r with
    | some x, some l => some (x :: l)
    | _, _ => none
theorem decs_enc {α : Type} (c : Cd α) : ∀ xs : List α, decs c (xs.map c.enc) = some xs
  | [] => rfl
  | x :: xs => by
    show (match c.dec (c.enc x), decs c (xs.map c.enc) with | some x, some l => some (x :: l) | _, _ => none) = _
    rw [c.de, decs_enc c xs]
theorem decs_at {α : Type} {c : Cd α} : ∀ {ys : List AV} {xs : List α}, decs c ys = some xs → ys.length = xs.length ∧ ∀ (i : Nat) (x : α), xs[i]? = some x → ∃ y, ys[i]? = some y ∧ c.dec y = some x
  | [], xs, h => by injection h with h; subst h; exact ⟨rfl, fun i x hx => by simp at hx⟩
  | y :: ys, xs, h => by
    unfold decs at h
    split at h
    · next x l h1 h2 =>
      injection h with h; subst h
      obtain ⟨k1, k2⟩ := decs_at h2
      refine ⟨by simp [k1], fun i z hz => ?_⟩
      cases i with
      | zero => simp at hz; subst hz; exact ⟨y, rfl, h1⟩
      | succ i => simpa using k2 i z (by simpa using hz)
    · cases h
def cdL {α : Type} (k : Nat) (c : Cd α) : Cd (List α) where
  enc xs := .sl k (xs.map c.enc)
  dec a := match a with
    | .e0 => some []
    | .sl k' ys => if ys.isEmpty then some [] else if k' = k then decs c ys else none
    | _ => none
  de xs := by
    cases xs with
    | nil => rfl
    | cons x xs => simpa using decs_enc c (x :: xs)
  vr := fun {w Z a x u} h hv => by
    split at h
    · injection h with h; subst h
      cases hv
      exact .sl (us := []) rfl rfl (Nat.le_refl _) (by unfold maxLen; omega) (fun h => by omega) (fun i x u hx => by simp at hx)
    · next k' ys =>
      split at h
      · next hy =>
        injection h with h; subst h
        have : ys = [] := by simpa using hy
        subst this
        cases hv with
        | sl hn hl hc hm ha hx =>
          simp at hn
          subst hn
          exact .sl (us := []) rfl rfl hc hm (fun h => by omega) (fun i x u hx => by simp at hx)
      · split at h
        · next hk =>
          subst hk
          obtain ⟨k1, k2⟩ := decs_at h
          cases hv with
          | sl hn hl hc hm ha hx =>
            refine .sl (by rw [List.length_map, ← k1, hn]) (by rw [List.length_map, ← k1, hl]) hc hm ha fun i y u hy hu => ?_
            rw [List.getElem?_map] at hy
            obtain ⟨z, hz, rfl⟩ := Option.map_eq_some_iff.1 hy
            obtain ⟨q, q1, q2⟩ := k2 i z hz
            exact c.vr q2 (hx i q u q1 hu)
        · cases h
    · cases h
  nr _ := rfl

/-- Lists of arguments. -/
structure Cs (α : Type) where
  enc : α → List AV
  dec : List AV → Option α
  de : ∀ x, dec (enc x) = some x
  vr : ∀ {w : World} {Z : Nat → Prop} {a : List AV} {x : α} {u : List Value}, dec a = some x → VRs w Z [] a u → VRs w Z [] (enc x) u
  nr : ∀ x, (enc x).all noRf2 = true
def csN : Cs Unit where
  enc _ := []
  dec l := match l with
    | [] => some ()
    | _ => none
  de _ := rfl
  vr := fun {w Z a x u} h hv => by
    split at h
    · exact hv
    · cases h
  nr _ := rfl
def csC {α β : Type} (c : Cd α) (s : Cs β) : Cs (α × β) where
  enc x := c.enc x.1 :: s.enc x.2
  dec l := match l with
    | a :: r => (c.dec a).bind fun x => (s.dec r).map fun y => (x, y)
    | [] => none
  de x := by simp [c.de, s.de]
  vr := fun {w Z a x u} h hv => by
    split at h
    · next a r =>
      obtain ⟨x1, h1, h⟩ := Option.bind_eq_some_iff.1 h
      obtain ⟨x2, h2, rfl⟩ := Option.map_eq_some_iff.1 h
      obtain ⟨u, us, rfl, k1, k2⟩ := hv.head
      exact .cons (c.vr h1 k1) (s.vr h2 k2)
    · cases h
  nr x := by simp [c.nr, s.nr]

/-- What a function is told by. -/
def told {α β : Type} (s : Cs α) (F : α → Option β) (er : β → AV) : List AV → Option AV := fun xs => (s.dec xs).bind fun a => (F a).map er
theorem told_enc {α β : Type} {s : Cs α} {F : α → Option β} {er : β → AV} {a : α} {b : β} (h : F a = some b) : told s F er (s.enc a) = some (er b) := by
  unfold told; rw [s.de, Option.bind_some, h]; rfl
def noRfT : AV → Bool
  | .tp vs => vs.all noRf2
  | x => noRf2 x
theorem noRfT_vr {w : World} {Z : Nat → Prop} {R : List RI} {x : AV} {v : Value} (hn : noRfT x = true) (hv : VR w Z R x v) : VR w Z [] x v := by
  have hv' := hv
  cases hv with
  | tp hl hx => exact .tp hl fun i x u hx' hu => noRf2_vr (List.all_eq_true.1 hn x (List.mem_of_getElem? hx')) (hx i x u hx' hu)
  | _ => exact noRf2_vr hn hv'
/-- A contract out of what the body does. -/
theorem contract_ok {E : Env} (hE : EnvOk E) {f : FuncId} {fn : Func} {c : Code} (hf : E.fn f = some fn) (hc : fn.body = some c) (hcall : Callable E.P f) {α β : Type} (s : Cs α) (F : α → Option β) (er : β → AV) (hle : ∀ a, (s.enc a).length ≤ fn.ntmps) (hnr : ∀ b, noRfT (er b) = true)
    (sem : ∀ a b, F a = some b → Sem E ⟨none, false⟩ c ⟨Fr fn.ntmps (pairs0 0 (s.enc a)), []⟩ fun e s' => (e = .normal ∨ e = .ret) ∧ ∃ xs, resA E.P s'.fr s'.hp fn.results.toList = some xs ∧ retA xs = er b) :
    EnvOk (E.withX f (told s F er)) := by
  refine hE.withX hcall fun xs x h w Z us hz hg hv => ?_
  obtain ⟨a, ha, h⟩ := Option.bind_eq_some_iff.1 h
  obtain ⟨b, hb, rfl⟩ := Option.map_eq_some_iff.1 h
  have hh : HR w Z [] [] := ⟨rfl, fun b B hB => by simp at hB, fun b b' B B' r r' hB => by simp at hB, hz⟩
  refine Ret.mono (ret_sem hE hf hc (hle a) (Q := fun _ s => s.fr = [some (er b)]) (Sem.mono (Sem.wk (Wk.enter (hle a)) (sem a b hb)) fun e s' hs => ?_) hh (s.vr ha hv) hg) fun v w' hS => ?_
  · obtain ⟨h1, xs, h2, h3⟩ := hs
    exact ⟨h1, xs, h2, by rw [h3]⟩
  · obtain ⟨Z', R', x, h', hQ, k1, k2, st⟩ := hS
    have hx : x = er b := by simpa using hQ
    subst hx
    refine ⟨⟨st.os, st.tape, st.output, st.size, fun c hc _ => st.block c hc (fun ⟨b, B, r, hb, _⟩ => by simp at hb)⟩, (noRfT_vr (hnr b) k2).mono (fun _ _ => rfl) (fun c hc => ?_) (fun _ _ h => h)⟩
    rcases st.z' c hc with h1 | ⟨b, B, r, hb, _⟩ | h1
    · exact .inl h1
    · simp at hb
    · exact .inr ⟨h1, k1.zlt c hc⟩

theorem views_id {h : Hp} : ∀ {xs : List AV}, xs.all noRf2 = true → views h xs = some xs
  | [], _ => rfl
  | x :: xs, hn => by
    simp only [List.all_cons, Bool.and_eq_true] at hn
    have h1 : ∀ y, noRf y = true → view1 h y = some y := fun y hy => by cases y <;> first | rfl | (simp [noRf] at hy)
    have hL : ∀ cs : List AV, cs.all noRf = true → viewL h cs = some cs := fun cs => by
      induction cs with
      | nil => intro _; rfl
      | cons c cs ih =>
        intro hc
        simp only [List.all_cons, Bool.and_eq_true] at hc
        unfold viewL
        rw [h1 c hc.1, ih hc.2]
    have h2 : view2 h x = some x := by
      have hx := hn.1
      cases x with
      | ag cs => show (viewL h cs).map AV.ag = _; rw [hL cs hx]; rfl
      | v y => exact h1 (.v y) hx
      | st y => exact h1 (.st y) hx
      | e0 => exact h1 .e0 hx
      | sl k y => exact h1 (.sl k y) hx
      | pe y o => exact h1 (.pe y o) hx
      | _ => cases hx
    unfold views
    rw [h2, views_id hn.2]
section
variable {E : Env} {cx : Cx} {ops : Array Oper} {rest rest' : List Oper} {K : St → Prop} {n n0 : Nat} {l : List (Nat × AV)} {hp : Hp} {α β : Type} {s : Cs α} {F : α → Option β} {er : β → AV} {a : α} {b : β}
theorem callX2_told (hF : F a = some b) : callX2 (told s F er) ([] ++ s.enc a ++ []) hp = some (er b, hp) := by
  unfold callX2
  rw [List.nil_append, List.append_nil, if_pos (s.nr a), told_enc hF]; rfl
/-- A call that is told. -/
theorem Runs'.call {d : Nat} {f : Operand} {args : Array Operand} {tys : Array TypeId} {ty : TypeId} {pos : String} {af : Array Edge} {g : Option (Nat × Bool)} {fid : FuncId} (hr : rest = ⟨some d, .call ⟨.value f, args, tys⟩, ty, pos, af, g⟩ :: rest') (hw : wantedA ops (Fr n l) ⟨some d, .call ⟨.value f, args, tys⟩, ty, pos, af, g⟩ = some true)
    (hf : opA E (Fr n l) f = some (.fn fid [] [])) (hi : E.I fid = false) (hX : E.X fid = some (told s F er)) (ha : opds (opA E (Fr n l)) args.toList = some (s.enc a)) (hF : F a = some b) (k : Runs' E cx ops rest' ⟨Fr n ((d, er b) :: l), hp⟩ K) : Runs' E cx ops rest ⟨Fr n l, hp⟩ K := by
  obtain ⟨s', h1, h2⟩ := k
  refine ⟨s', ?_, h2⟩
  subst hr
  have e1 : evOpX E.P E.I (opA E (Fr n l)) hp (.call ⟨.value f, args, tys⟩) = none := by
    show (match opA E (Fr n l) f, opds (opA E (Fr n l)) args.toList with | some (.fn g [] []), some [x] => if E.I g then some x else none | _, _ => none) = none
    rw [hf, ha]
    split
    · next g x h1 _ =>
      injection h1 with h1
      injection h1 with h1
      subst h1
      rw [hi]; rfl
    · rfl
  have e2 : op1 E (evC E 0) cx ⟨some d, .call ⟨.value f, args, tys⟩, ty, pos, af, g⟩ ⟨Fr n l, hp⟩ = some ⟨Fr n ((d, er b) :: l), hp⟩ := by
    unfold op1
    simp only [evOpQ, evOpN, evOpW, e1, hf, ha, callA, hX, callX2_told hF, Option.map_some, putA_Fr]
  unfold opsA
  rw [hw]
  simp only [e2]
  exact h1
/-- .. in a region that draws its order. -/
theorem RunsD.call {d : Nat} {f : Operand} {args : Array Operand} {tys : Array TypeId} {ty : TypeId} {pos : String} {af : Array Edge} {g : Option (Nat × Bool)} {fid : FuncId} (hr : rest = ⟨some d, .call ⟨.value f, args, tys⟩, ty, pos, af, g⟩ :: rest') (hw : wantedA ops (Fr n l) ⟨some d, .call ⟨.value f, args, tys⟩, ty, pos, af, g⟩ = some true)
    (hf : opA E (Fr n l) f = some (.fn fid [] [])) (hX : E.X fid = some (told s F er)) (ha : opds (opA E (Fr n l)) args.toList = some (s.enc a)) (hF : F a = some b) (hfl : flatTp (er b) = true) (k : RunsD E cx ops n0 rest' ⟨Fr n ((d, er b) :: l), hp⟩ K) : RunsD E cx ops n0 rest ⟨Fr n l, hp⟩ K := by
  obtain ⟨s', h1, h2⟩ := k
  refine ⟨s', ?_, h2⟩
  subst hr
  have e2 : callP E (evC E 0) (.fn fid [] []) (s.enc a) hp = some (er b, hp) := by
    simp only [callP, views_id (s.nr a), hX, told_enc hF, hfl, if_true]
  unfold opsD
  simp only [isW, hw, evOpQ, evOpN, hf, ha, e2, putA_Fr, Bool.false_eq_true, if_false]
  exact h1
end
end Go.Proofs.YthofgamegondnaaDoor

namespace Go.Proofs.YthofgamegondnaaDoor
open Go.RowKit

/-- Blocks under other numbers: ι tells for each new number the old one. -/
def up1 (ι : List Nat) : AV → AV
  | .rf b lo n m => .rf (ι.getD b 1000000000) lo n m
  | .pt b i off => .pt (ι.getD b 1000000000) i off
  | .yl b => .yl (ι.getD b 1000000000)
  | x => x
def up (ι : List Nat) : AV → AV
  | .ag cs => .ag (cs.map (up1 ι))
  | .tp cs => .tp (cs.map (up1 ι))
  | .fn f p q => .fn f (p.map (up1 ι)) (q.map (up1 ι))
  | x => up1 ι x
def newR (ι : List Nat) (R : List RI) : List RI := ι.map fun b => R.getD b ⟨0, 0, 0⟩

section
variable {w : World} {Z : Nat → Prop} {R : List RI} {ι : List Nat}
theorem newR_get {b : Nat} {r : RI} (hι : ∀ i ∈ ι, i < R.length) (h : R[ι.getD b 1000000000]? = some r) (hb : R.length ≤ 1000000000) : (newR ι R)[b]? = some r := by
  unfold newR
  rw [List.getElem?_map]
  by_cases hl : b < ι.length
  · rw [List.getElem?_eq_getElem hl]
    rw [List.getD_eq_getElem?_getD, List.getElem?_eq_getElem hl] at h
    simp only [Option.map_some, Option.getD_some] at h ⊢
    rw [List.getD_eq_getElem?_getD, h]
    rfl
  · have hn : ι[b]? = none := List.getElem?_eq_none (by omega)
    rw [List.getD_eq_getElem?_getD, hn, Option.getD_none] at h
    have := (List.getElem?_eq_some_iff.1 h).1
    omega
theorem up1_vr (hι : ∀ i ∈ ι, i < R.length) (hb : R.length ≤ 1000000000) {x : AV} {u : Value} (h : VR w Z R (up1 ι x) u) (hag : ∀ cs, x ≠ .ag cs) (htp : ∀ cs, x ≠ .tp cs) (hfn : ∀ f p q, x ≠ .fn f p q) : VR w Z (newR ι R) x u := by
  cases x with
  | v y => cases h with | v h => exact .v h
  | st bs => cases h with | st h hn => exact .st h hn
  | e0 => cases h with | e0 => exact .e0
  | sl k xs => cases h with | sl hn hl hc hm ha hx => exact .sl hn hl hc hm ha hx
  | rf b lo n m => cases h with | rf hr h0 h1 h2 hm => exact .rf (newR_get hι hr hb) h0 h1 h2 hm
  | pt b i off => cases h with | pt hr => exact .pt (newR_get hι hr hb)
  | pe y off => cases h with | pe hs hz h1 hu hx => exact .pe hs hz h1 hu hx
  | yl b => cases h with | yl hr => exact .yl (newR_get hι hr hb)
  | ag cs => exact absurd rfl (hag cs)
  | tp cs => exact absurd rfl (htp cs)
  | fn f p q => exact absurd rfl (hfn f p q)
/-- Values without values inside. -/
def flat1 : AV → Bool
  | .ag _ => false
  | .tp _ => false
  | .fn _ _ _ => false
  | _ => true
def flat2 : AV → Bool
  | .ag cs => cs.all flat1
  | .tp cs => cs.all flat1
  | .fn _ p q => p.all flat1 && q.all flat1
  | _ => true
theorem up1_vr' (hι : ∀ i ∈ ι, i < R.length) (hb : R.length ≤ 1000000000) {x : AV} {u : Value} (h : VR w Z R (up1 ι x) u) (hf : flat1 x = true) : VR w Z (newR ι R) x u :=
  up1_vr hι hb h (fun cs e => by rw [e] at hf; cases hf) (fun cs e => by rw [e] at hf; cases hf) (fun f p q e => by rw [e] at hf; cases hf)
theorem up1s_vr (hι : ∀ i ∈ ι, i < R.length) (hb : R.length ≤ 1000000000) {cs : List AV} {us : List Value} (hf : cs.all flat1 = true) (hx : ∀ (i : Nat) (x : AV) (u : Value), (cs.map (up1 ι))[i]? = some x → us[i]? = some u → VR w Z R x u) : ∀ (i : Nat) (x : AV) (u : Value), cs[i]? = some x → us[i]? = some u → VR w Z (newR ι R) x u :=
  fun i x u hx' hu => up1_vr' hι hb (hx i _ u (by rw [List.getElem?_map, hx']; rfl) hu) (List.all_eq_true.1 hf x (List.mem_of_getElem? hx'))
theorem up_vr (hι : ∀ i ∈ ι, i < R.length) (hb : R.length ≤ 1000000000) {x : AV} {u : Value} (hf : flat2 x = true) (h : VR w Z R (up ι x) u) : VR w Z (newR ι R) x u := by
  cases x with
  | ag cs => cases h with | ag hl h1 hx => exact .ag (by rw [hl, List.length_map]) h1 (up1s_vr hι hb hf hx)
  | tp cs => cases h with | tp hl hx => exact .tp (by rw [hl, List.length_map]) (up1s_vr hι hb hf hx)
  | fn f p q =>
    simp only [flat2, Bool.and_eq_true] at hf
    cases h with | fn hl hl' hx hy => exact .fn (by rw [hl, List.length_map]) (by rw [hl', List.length_map]) (up1s_vr hι hb hf.1 hx) (up1s_vr hι hb hf.2 hy)
  | v y => exact up1_vr' hι hb h rfl
  | st bs => exact up1_vr' hι hb h rfl
  | e0 => exact up1_vr' hι hb h rfl
  | sl k xs => exact up1_vr' hι hb h rfl
  | rf b lo n m => exact up1_vr' hι hb h rfl
  | pt b i off => exact up1_vr' hι hb h rfl
  | pe y off => exact up1_vr' hι hb h rfl
  | yl b => exact up1_vr' hι hb h rfl
end

/-- The new heap, told by the old one. -/
structure RenOk (ι : List Nat) (h h' : Hp) : Prop where
  len : h'.length = ι.length
  lt : ∀ i ∈ ι, i < h.length
  nd : ∀ (i j : Nat) (b : Nat), ι[i]? = some b → ι[j]? = some b → i = j
  blk : ∀ (j : Nat) (B : Blk), h'[j]? = some (some B) → ∃ b, ι[j]? = some b ∧ h[b]? = some (some { B with es := B.es.map (up ι) }) ∧ ∀ x ∈ B.es, flat2 x = true
  big : h.length ≤ 1000000000

theorem Wk.ren {E : Env} {n : Nat} {l l' : List (Nat × AV)} {h h' : Hp} (ι : List Nat) (ho : RenOk ι h h') (hl : ∀ t x, lk l' t = some x → lk l t = some (up ι x) ∧ flat2 x = true) : Wk E ⟨Fr n l, h⟩ ⟨Fr n l', h'⟩ := by
  intro base w Z R a sr
  have hlen := sr.hh.len
  have hlen' : R.length = h.length := hlen
  have hι : ∀ i ∈ ι, i < R.length := fun i hi => by rw [hlen']; exact ho.lt i hi
  have hb : R.length ≤ 1000000000 := by rw [hlen']; exact ho.big
  have hget : ∀ (j b : Nat), ι[j]? = some b → (newR ι R)[j]? = R[b]? := fun j b hj => by
    unfold newR
    rw [List.getElem?_map, hj]
    have hbl : b < R.length := hι b (List.mem_of_getElem? hj)
    rw [Option.map_some, List.getD_eq_getElem?_getD, List.getElem?_eq_getElem hbl]; rfl
  have hown : ∀ c, own (newR ι R) h' c → own R h c := fun c ⟨j, B, r, h1, h2, h3, h4⟩ => by
    obtain ⟨b, k1, k2, _⟩ := ho.blk j B h1
    rw [hget j b k1] at h3
    exact ⟨b, _, r, k2, h2, h3, h4⟩
  refine ⟨Z, newR ι R, ⟨⟨?_, fun j B hB => ?_, fun j j' B B' r r' hB hf hB' hf' h1 h2 e => ?_, sr.hh.zlt⟩, ⟨?_, fun t x hx => ?_⟩, ?_, sr.gl, sr.bs⟩, ⟨rfl, rfl, rfl, Nat.le_refl _, fun _ _ _ => rfl, fun c hc => .inl (hown c hc), fun _ h => h, fun _ h => .inl h⟩⟩
  · rw [ho.len]; simp [newR]
  · obtain ⟨b, k1, k2, k3⟩ := ho.blk j B hB
    obtain ⟨r, arr, us, g1, g2, g3, g4, g5, g6, g7, g8, g9, g10⟩ := sr.hh.blk b _ k2
    refine ⟨r, arr, us, (hget j b k1).trans g1, g2, g3, g4, by simpa using g5, g6, g7, g8, ⟨by have := g9.len; simpa using this, fun i x u hx hu => ?_⟩, g10⟩
    exact up_vr hι hb (k3 x (List.mem_of_getElem? hx)) (g9.at_ i _ u (by simp [hx]) hu)
  · obtain ⟨b, k1, k2, _⟩ := ho.blk j B hB
    obtain ⟨b', k1', k2', _⟩ := ho.blk j' B' hB'
    rw [hget j b k1] at h1
    rw [hget j' b' k1'] at h2
    have := sr.hh.inj b b' _ _ r r' k2 hf k2' hf' h1 h2 e
    subst this
    exact ho.nd j j' b k1 k1'
  · rw [Fr_len]; have := sr.fr.1; rw [Fr_len] at this; exact this
  · rw [Fr_get] at hx
    split at hx
    · next ht =>
      injection hx with hx
      obtain ⟨k1, k2⟩ := hl t x hx
      exact up_vr hι hb k2 (sr.fr.2 t _ (by rw [Fr_get, if_pos ht, k1]))
    · cases hx
  · have : ∀ {D : List Deferred}, Mks base w Z R h D → Mks base w Z (newR ι R) h' D := by
      intro D
      induction D with
      | nil => intro _; trivial
      | cons d D ih => exact fun ⟨⟨r, h1, h2, h3, h4, h5, h6⟩, hD⟩ => ⟨⟨r, h1, h2, h3, h4, fun ho => h5 (hown r ho), h6⟩, ih hD⟩
    exact this sr.mks

theorem up1_noRf {ι : List Nat} {x : AV} (h : noRf x = true) : up1 ι x = x ∧ flat1 x = true := by
  cases x <;> first | exact ⟨rfl, rfl⟩ | (simp [noRf] at h)
theorem up_noRf2 {ι : List Nat} {x : AV} (h : noRf2 x = true) : up ι x = x ∧ flat2 x = true := by
  cases x with
  | ag cs =>
    have hc : ∀ c ∈ cs, up1 ι c = c ∧ flat1 c = true := fun c hc => up1_noRf (List.all_eq_true.1 h c hc)
    refine ⟨?_, List.all_eq_true.2 fun c hc' => (hc c hc').2⟩
    show AV.ag (cs.map (up1 ι)) = _
    congr 1
    conv => rhs; rw [← List.map_id cs]
    exact List.map_congr_left fun c hc' => (hc c hc').1
  | tp cs => simp [noRf2, noRf] at h
  | fn f p q => simp [noRf2, noRf] at h
  | v y => exact ⟨rfl, rfl⟩
  | st bs => exact ⟨rfl, rfl⟩
  | e0 => exact ⟨rfl, rfl⟩
  | sl k xs => exact ⟨rfl, rfl⟩
  | rf b lo n m => simp [noRf2, noRf] at h
  | pt b i off => simp [noRf2, noRf] at h
  | pe y off => exact ⟨rfl, rfl⟩
  | yl b => simp [noRf2, noRf] at h
/-- Blocks whose elements hang on no own block. -/
def HpOk : Hp → Prop
  | [] => True
  | o :: r => (∀ B, o = some B → ∀ x ∈ B.es, noRf2 x = true) ∧ HpOk r
theorem HpOk.at_ : ∀ {h : Hp}, HpOk h → ∀ (j : Nat) (B : Blk), h[j]? = some (some B) → ∀ x ∈ B.es, noRf2 x = true
  | [], _, j, B, hj => by simp at hj
  | o :: r, hk, 0, B, hj => by simp at hj; exact hk.1 B hj
  | o :: r, hk, j + 1, B, hj => hk.2.at_ j B (by simpa using hj)
def ndB : List Nat → Bool
  | [] => true
  | x :: l => !l.contains x && ndB l
theorem ndB_inj : ∀ {l : List Nat}, ndB l = true → ∀ (i j b : Nat), l[i]? = some b → l[j]? = some b → i = j
  | [], _, i, j, b, hi, _ => by simp at hi
  | x :: l, h, i, j, b, hi, hj => by
    simp only [ndB, Bool.and_eq_true, Bool.not_eq_true', List.contains_eq_mem, decide_eq_false_iff_not] at h
    cases i with
    | zero =>
      cases j with
      | zero => rfl
      | succ j => simp at hi hj; subst hi; exact absurd (List.mem_of_getElem? hj) h.1
    | succ i =>
      cases j with
      | zero => simp at hi hj; subst hj; exact absurd (List.mem_of_getElem? hi) h.1
      | succ j => rw [ndB_inj h.2 i j b (by simpa using hi) (by simpa using hj)]
def LkUp (ι : List Nat) (l : List (Nat × AV)) : List (Nat × AV) → Prop
  | [] => True
  | (t, x) :: r => (lk l t = some (up ι x) ∧ flat2 x = true) ∧ LkUp ι l r
theorem LkUp.at_ {ι : List Nat} {l : List (Nat × AV)} : ∀ {l' : List (Nat × AV)}, LkUp ι l l' → ∀ t x, lk l' t = some x → lk l t = some (up ι x) ∧ flat2 x = true
  | [], _, t, x, h => by cases h
  | (k, y) :: r, hk, t, x, h => by
    rw [lk_put] at h
    split at h
    · next e => injection h with h; subst e h; exact hk.1
    · exact hk.2.at_ t x h
/-- Only the blocks of ι stay, under new numbers. -/
theorem Wk.sel {E : Env} {n : Nat} {l l' : List (Nat × AV)} {h h' : Hp} (ι : List Nat) (he : h' = ι.map fun b => (h[b]?).getD none) (hlt : (ι.all fun b => Nat.blt b h.length) = true) (hnd : ndB ι = true) (hbig : Nat.ble h.length 1000000000 = true) (hk : HpOk h') (hl : LkUp ι l l') : Wk E ⟨Fr n l, h⟩ ⟨Fr n l', h'⟩ := by
  refine Wk.ren ι ⟨by rw [he, List.length_map], fun i hi => ?_, ndB_inj hnd, fun j B hB => ?_, Nat.le_of_ble_eq_true hbig⟩ hl.at_
  · have := List.all_eq_true.1 hlt i hi
    exact Nat.le_of_ble_eq_true this
  · have hB' := hB
    rw [he, List.getElem?_map] at hB
    obtain ⟨b, hb, hB⟩ := Option.map_eq_some_iff.1 hB
    have hx := hk.at_ j B hB'
    have hes : B.es.map (up ι) = B.es := by
      conv => rhs; rw [← List.map_id B.es]
      exact List.map_congr_left fun c hc => (up_noRf2 (hx c hc)).1
    refine ⟨b, hb, ?_, fun x hx' => (up_noRf2 (ι := ι) (hx x hx')).2⟩
    cases hq : h[b]? with
    | none => rw [hq] at hB; cases hB
    | some o => rw [hq] at hB; simp at hB; subst hB; rw [hes]

/-- A slice that grows: nil as long as it is empty. -/
def hd (b : Nat) (es : List AV) : AV := match es with
  | [] => .e0
  | _ :: _ => .rf b 0 es.length es.length
def mk (k : Nat) (t : TypeId) (es : List AV) : Option Blk := match es with
  | [] => none
  | _ :: _ => some ⟨k, t, es, false⟩
theorem up_hd {ι : List Nat} {b : Nat} {es : List AV} : up ι (hd b es) = hd (ι.getD b 1000000000) es ∧ flat2 (hd b es) = true := by
  cases es <;> exact ⟨rfl, rfl⟩
theorem mk_ok {k : Nat} {t : TypeId} {es : List AV} (h : ∀ x ∈ es, noRf2 x = true) : ∀ B, mk k t es = some B → ∀ x ∈ B.es, noRf2 x = true := fun B hB => by
  cases es with
  | nil => cases hB
  | cons x es => injection hB with hB; subst hB; exact h
theorem enc_ok {α : Type} {c : Cd α} {xs : List α} : ∀ x ∈ xs.map c.enc, noRf2 x = true := fun x hx => by
  obtain ⟨y, _, rfl⟩ := List.mem_map.1 hx
  exact c.nr y
theorem append_hd {P : Program} {h : Hp} {t t2 el : TypeId} {k b : Nat} {i : TypeInfo} {z y : AV} {es ys : List AV} (hs : srcOk P t2 y = true) (ht : tyElem P t = some el) (hi : P.info? el = some i) (hz : tyZero P el = some z) (hk : i.size = k) (h0 : 0 < k) (hzn : z.nc = k) (hzt : z.notTp = true)
    (he : elems h k y = some ys) (hy : ys ≠ []) (hb : h[b]? = some (mk k el es)) (hc : (es.length + ys.length) * i.bytes ≤ 140737488355328) (hc2 : es.length + ys.length ≤ 140737488355328) :
    evAppend P h t t2 (hd b es) y = some (hd h.length (es ++ ys), h.set b none ++ [mk k el (es ++ ys)]) := by
  obtain ⟨q, ys', rfl⟩ : ∃ q ys', ys = q :: ys' := by cases ys with | nil => exact absurd rfl hy | cons q ys' => exact ⟨q, ys', rfl⟩
  unfold evAppend
  rw [if_neg (by rw [hs]; simp), ht]
  simp only [hi, hz, hk, he, List.isEmpty_cons, Bool.false_eq_true, if_false]
  rw [if_pos ⟨h0, hzn, hzt⟩]
  cases es with
  | nil =>
    have hset : h.set b none = h := by
      apply List.ext_getElem?
      intro j
      rw [List.getElem?_set]
      split
      · next e =>
        subst e
        have hbl : b < h.length := (List.getElem?_eq_some_iff.1 hb).1
        rw [if_pos hbl]
        exact hb.symm
      · rfl
    simp only [hd, List.nil_append]
    rw [hset]
    simp only [List.length_nil, Nat.zero_add] at hc hc2
    rw [if_pos ⟨hc, hc2⟩]
    rfl
  | cons x es =>
    simp only [hd, hb, mk]
    rw [if_neg (by simp)]
    rw [if_neg (by simp)]
    rw [if_pos ⟨trivial, trivial, hc, hc2⟩]
    simp only [List.cons_append, List.length_append, List.length_cons]
    have e3 : es.length + 1 + (ys'.length + 1) = es.length + (ys'.length + 1) + 1 := by omega
    rw [e3]

/-- A block is written no more: what was a slice of it is a slice that nobody writes. -/
theorem frz_vr {w : World} {Z : Nat → Prop} {R : List RI} {h : Hp} (hh : HR w Z R h) {b : Nat} {B : Blk} (hB : h[b]? = some (some B)) (hn : ∀ x ∈ B.es, noRf2 x = true) {r : RI} (hr : R[b]? = some r) {lo n m : Nat} (hle : lo + n ≤ B.es.length) {u : Value} (hv : VR w Z R (.rf b lo n m) u) : VR w (fun c => Z c ∨ c = r.c) R (.sl B.k ((B.es.drop lo).take n)) u := by
  obtain ⟨r', arr, us, g1, g2, g3, g4, g5, g6, g7, g8, g9, g10⟩ := hh.blk b B hB
  rw [hr] at g1
  injection g1 with g1
  subst g1
  cases hv with
  | rf hr' q0 q1 q2 q3 =>
    rename_i c r'
    rw [hr] at hr'
    injection hr' with hr'
    subst hr'
    have hvs := (g9.drop lo).take n
    refine .sl (us := (us.drop lo).take n) (by simp; omega) hvs.len (by omega) (by omega) (fun _ => ⟨⟨r.c, lo * r.k, none⟩, rfl, rfl, .inr rfl, fun i u hu => ?_⟩) (fun i x u hx hu => ?_)
    · have hi : i < n := by have := (List.getElem?_eq_some_iff.1 hu).1; rw [List.length_take] at this; omega
      rw [List.getElem?_take_of_lt hi, List.getElem?_drop] at hu
      obtain ⟨k1, k2, k3⟩ := g10 _ _ hu
      refine ⟨k1, k2, fun j q hq => ?_⟩
      have := k3 j q hq
      rw [Nat.add_mul] at this
      rw [show lo * r.k + (i * B.k + j) = lo * B.k + i * B.k + j by rw [g2]; omega]
      simp [World.cell?, g3, this]
    · have hxm : x ∈ B.es := List.mem_of_mem_drop (List.mem_of_mem_take (List.mem_of_getElem? hx))
      exact (noRf2_vr (hn x hxm) (hvs.at_ i x u hx hu)).mono (fun _ _ => rfl) (fun _ h => .inl h) (fun _ _ h => h)
theorem Wk.frz {E : Env} {n : Nat} {l l' : List (Nat × AV)} {h : Hp} {b : Nat} {B : Blk} (hB : h[b]? = some (some B)) (hf : B.fz = false) (hn : ∀ x ∈ B.es, noRf2 x = true)
    (hl : ∀ t x', lk l' t = some x' → lk l t = some x' ∨ ∃ lo n m, lk l t = some (.rf b lo n m) ∧ x' = .sl B.k ((B.es.drop lo).take n) ∧ lo + n ≤ B.es.length) : Wk E ⟨Fr n l, h⟩ ⟨Fr n l', h.set b none⟩ := by
  intro base w Z R a sr
  obtain ⟨r, arr, us, g1, g2, g3, g4, g5, g6, g7, g8, g9, g10⟩ := sr.hh.blk b B hB
  have hbo : own R h r.c := ⟨b, B, r, hB, hf, g1, rfl⟩
  obtain ⟨k1, k2⟩ := sr.hh.kill b
  have hget : ∀ (b' : Nat) (B' : Blk), (h.set b none)[b']? = some (some B') → b' ≠ b ∧ h[b']? = some (some B') := fun b' B' hB' => by
    rw [List.getElem?_set] at hB'
    split at hB'
    · split at hB' <;> cases hB'
    · next hne => exact ⟨fun e => hne e.symm, hB'⟩
  have up' : ∀ {x : AV} {u : Value}, VR w Z R x u → VR w (fun c => Z c ∨ c = r.c) R x u := fun hv => hv.mono (fun _ _ => rfl) (fun _ h => .inl h) (fun _ _ h => h)
  refine ⟨fun c => Z c ∨ c = r.c, R, ⟨⟨k1.len, fun b' B' hB' => ?_, k1.inj, fun c hc => hc.elim (sr.hh.zlt c) (fun e => e ▸ sr.hh.rltL hB g1)⟩, ⟨?_, fun t x hx => ?_⟩, ?_, fun g x hx => (sr.gl g x hx).mono (fun _ _ => rfl) (fun _ h => .inl h) (fun _ _ h => h), sr.bs⟩, ⟨rfl, rfl, rfl, Nat.le_refl _, fun _ _ _ => rfl, k2.own_, fun _ h => .inl h, fun c hc => hc.elim .inl (fun e => .inr (.inl (e ▸ hbo)))⟩⟩
  · obtain ⟨hne, hB0⟩ := hget b' B' hB'
    obtain ⟨r', arr', us', q1, q2, q3, q4, q5, q6, q7, q8, q9, q10⟩ := sr.hh.blk b' B' hB0
    refine ⟨r', arr', us', q1, q2, q3, q4, q5, q6, fun hfz => .inl (q7 hfz), fun hfz hc => hc.elim (q8 hfz) fun e => hne (sr.hh.inj b' b B' B r' r hB0 hfz hB hf q1 g1 e), ⟨q9.len, fun i x u hx hu => up' (q9.at_ i x u hx hu)⟩, q10⟩
  · rw [Fr_len]; have := sr.fr.1; rw [Fr_len] at this; exact this
  · rw [Fr_get] at hx
    split at hx
    · next ht =>
      injection hx with hx
      rcases hl t x hx with h1 | ⟨lo, n', m, h1, rfl, h2⟩
      · exact up' (sr.fr.2 t x (by rw [Fr_get, if_pos ht, h1]))
      · exact frz_vr sr.hh hB hn g1 h2 (sr.fr.2 t _ (by rw [Fr_get, if_pos ht, h1]))
    · cases hx
  · have : ∀ {D : List Deferred}, Mks base w Z R h D → Mks base w (fun c => Z c ∨ c = r.c) R (h.set b none) D := by
      intro D
      induction D with
      | nil => intro _; trivial
      | cons d D ih =>
        exact fun ⟨⟨q, h1, h2, h3, h4, h5, h6⟩, hD⟩ => ⟨⟨q, h1, h2, h3, fun hc => hc.elim h4 (fun e => h5 (e ▸ hbo)), fun ho => (k2.own_ q ho).elim h5 (fun hlt => by have := heapLt h3; omega), h6⟩, ih hD⟩
    exact this sr.mks
/-- Slots that stay, and slots of the block that is frozen. -/
def LkFr (b k : Nat) (es : List AV) (l : List (Nat × AV)) : List (Nat × AV) → Prop
  | [] => True
  | (t, x) :: r => (lk l t = some x ∨ (lk l t = some (hd b es) ∧ x = .sl k es)) ∧ LkFr b k es l r
theorem LkFr.at_ {b k : Nat} {es : List AV} {l : List (Nat × AV)} : ∀ {l' : List (Nat × AV)}, LkFr b k es l l' → ∀ t x, lk l' t = some x → lk l t = some x ∨ (lk l t = some (hd b es) ∧ x = .sl k es)
  | [], _, t, x, h => by cases h
  | (q, y) :: r, hk, t, x, h => by
    rw [lk_put] at h
    split at h
    · next e => injection h with h; subst e h; exact hk.1
    · exact hk.2.at_ t x h
theorem Wk.frzHd {E : Env} {n : Nat} {l l' : List (Nat × AV)} {h h' : Hp} {b k : Nat} {t : TypeId} {es : List AV} (hb : h[b]? = some (mk k t es)) (hh : h' = h.set b none) (hn : ∀ x ∈ es, noRf2 x = true) (hl : LkFr b k es l l') : Wk E ⟨Fr n l, h⟩ ⟨Fr n l', h'⟩ := by
  subst hh
  cases es with
  | nil =>
    have hset : h.set b none = h := by
      apply List.ext_getElem?
      intro j
      rw [List.getElem?_set]
      split
      · next e =>
        subst e
        have hbl : b < h.length := (List.getElem?_eq_some_iff.1 hb).1
        rw [if_pos hbl]
        exact hb.symm
      · rfl
    rw [hset]
    intro base w Z R a sr
    refine ⟨Z, R, ⟨sr.hh, ⟨?_, fun t x hx => ?_⟩, sr.mks, sr.gl, sr.bs⟩, StepW.refl _ _ _ _⟩
    · rw [Fr_len]; have := sr.fr.1; rw [Fr_len] at this; exact this
    · rw [Fr_get] at hx
      split at hx
      · next ht =>
        injection hx with hx
        rcases hl.at_ t x hx with h1 | ⟨h1, rfl⟩
        · exact sr.fr.2 t x (by rw [Fr_get, if_pos ht, h1])
        · have hv := sr.fr.2 t .e0 (by rw [Fr_get, if_pos ht, h1]; rfl)
          revert hv
          generalize a.tmps.getD t undef = u
          intro hv
          cases hv
          exact .sl (us := []) rfl rfl (Nat.le_refl _) (by unfold maxLen; omega) (fun h => by omega) (fun i x u hx => by simp at hx)
      · cases hx
  | cons y es =>
    refine Wk.frz (B := ⟨k, t, y :: es, false⟩) hb rfl hn fun t x hx => ?_
    rcases hl.at_ t x hx with h1 | ⟨h1, rfl⟩
    · exact .inl h1
    · exact .inr ⟨0, (y :: es).length, (y :: es).length, h1, by simp, by simp⟩
/-- Room for a slice that has no block yet. -/
theorem Wk.none {E : Env} {fr : List (Option AV)} {h : Hp} : Wk E ⟨fr, h⟩ ⟨fr, h ++ [Option.none]⟩ := by
  intro base w Z R a sr
  obtain ⟨k1, k2, k3, k4⟩ := sr.hh.dead (r := ⟨0, 0, 0⟩)
  refine ⟨Z, R ++ [⟨0, 0, 0⟩], ⟨k1, ⟨sr.fr.1, fun t x hx => (sr.fr.2 t x hx).mono (fun _ _ => rfl) (fun _ h => h) k2.r⟩, ?_, sr.gl, sr.bs⟩, k2.w⟩
  have : ∀ {D : List Deferred}, Mks base w Z R h D → Mks base w Z (R ++ [⟨0, 0, 0⟩]) (h ++ [Option.none]) D := by
    intro D
    induction D with
    | nil => intro _; trivial
    | cons d D ih => exact fun ⟨⟨q, h1, h2, h3, h4, h5, h6⟩, hD⟩ => ⟨⟨q, h1, h2, h3, h4, fun ho => h5 (k4 q ho), h6⟩, ih hD⟩
  exact this sr.mks
/-- Room for so many elements? -/
def capOk (bytes n : Nat) : Bool := Nat.ble (n * bytes) 140737488355328 && Nat.ble n 140737488355328
theorem capOk_inv {bytes n : Nat} (h : capOk bytes n = true) : n * bytes ≤ 140737488355328 ∧ n ≤ 140737488355328 := by
  simp only [capOk, Bool.and_eq_true] at h
  exact ⟨Nat.le_of_ble_eq_true h.1, Nat.le_of_ble_eq_true h.2⟩
theorem append_T {α : Type} {c : Cd α} {xs vs : List α} {P : Program} {h : Hp} {t t2 el : TypeId} {k b : Nat} {i : TypeInfo} {z y : AV} (hs : srcOk P t2 y = true) (ht : tyElem P t = some el) (hi : P.info? el = some i) (hz : tyZero P el = some z) (hk : i.size = k) (h0 : Nat.blt 0 k = true) (hzn : z.nc = k) (hzt : z.notTp = true)
    (he : elems h k y = some (vs.map c.enc)) (hy : vs ≠ []) (hb : h[b]? = some (mk k el (xs.map c.enc))) {bytes : Nat} (hib : i.bytes = bytes) (hc : capOk bytes (xs.length + vs.length) = true) :
    evAppend P h t t2 (hd b (xs.map c.enc)) y = some (hd h.length ((xs ++ vs).map c.enc), h.set b none ++ [mk k el ((xs ++ vs).map c.enc)]) := by
  obtain ⟨h1, h2⟩ := capOk_inv hc
  rw [List.map_append]
  exact append_hd hs ht hi hz hk (Nat.le_of_ble_eq_true h0) hzn hzt he (by intro e; exact hy (List.map_eq_nil_iff.1 e)) hb (by rw [List.length_map, List.length_map, hib]; exact h1) (by rw [List.length_map, List.length_map]; exact h2)
section
variable {P : Program} {h : Hp} {ρ : Operand → Option AV}
theorem w_append {t t2 : TypeId} {x y : Operand} {a b : AV} {r : AV × Hp} (hx : ρ x = some a) (hy : ρ y = some b) (he : evAppend P h t t2 a b = some r) : evOpW P ρ h (.call ⟨.builtin .append, #[x, y], #[t, t2]⟩) = some r := by
  show (match opds ρ [x, y], [t, t2] with | some [x, y], [t, t2] => evAppend P h t t2 x y | _, _ => none) = some r
  simp only [opds, hx, hy]
  exact he
theorem len_hd {t el : TypeId} {b : Nat} {es : List AV} (hu : P.underlying t = some (.slice el)) : evLen P t (hd b es) = some (eI es.length) := by
  cases es <;> simp [hd, evLen, hu, eI]
end
/-- One operation that writes. -/
theorem Runs'.w {E : Env} {cx : Cx} {ops : Array Oper} {rest rest' : List Oper} {K : St → Prop} {n : Nat} {l : List (Nat × AV)} {hp hp' : Hp} {o : Oper} {x : AV} {d : Nat} (hr : rest = o :: rest') (hw : wantedA ops (Fr n l) o = some true) (hd : o.dst = some d) (hq : evOpQ E.P (opA E (Fr n l)) hp o.op = none) (hn : evOpN E.P (opA E (Fr n l)) hp o.op = none)
    (h : evOpW E.P (opA E (Fr n l)) hp o.op = some (x, hp')) (k : Runs' E cx ops rest' ⟨Fr n ((d, x) :: l), hp'⟩ K) : Runs' E cx ops rest ⟨Fr n l, hp⟩ K := by
  obtain ⟨s', h1, h2⟩ := k
  refine ⟨s', ?_, h2⟩
  subst hr
  unfold opsA
  simp only [hw]
  unfold op1
  simp only [hq, hn, h, hd, putA_Fr]
  exact h1
end Go.Proofs.YthofgamegondnaaDoor

namespace Go.Proofs.YthofgamegondnaaDoor
open Go.RowKit

/-- Operations in their order. -/
def LwL (P : Program) (ops : Array Oper) (Q : Act → World → Prop) : List Oper → Act → World → Prop
  | [], a, w => Q a w
  | o :: rest, a, w => if Region.wanted o (yielded ops a.tmps) then Lw P o a w (LwL P ops Q rest) else LwL P ops Q rest (a.put o.dst undef) w
section
variable {P : Program} {ops : Array Oper} {a : Act} {w : World} {o : Oper}
theorem Lw.mono' {K K' : Act → World → Prop} (h : Lw P o a w K) (k : ∀ a w, K a w → K' a w) : Lw P o a w K' := by
  unfold Lw at h ⊢
  split at h
  · exact k _ _ h
  · exact k _ _ h
  · exact Ret.mono h fun v w' h => k _ _ h
  · exact h.elim
theorem lw_wpIn {K : Act → World → Prop} {Q : Exit → Act → World → Prop} (ro : Option Nat) (h : Lw P o a w K) : o.wpIn (Fw ro) 0 P a w K Q := by
  unfold Lw at h
  split at h
  · next v w' hr => exact ⟨fun _ _ => trivial, by rw [show (Fw ro).round = ro from rfl, semAt_run ro hr (by simp)]; exact h⟩
  · next w' hr => exact ⟨fun _ _ => trivial, by rw [show (Fw ro).round = ro from rfl, semAt_run ro hr (by simp)]; exact h⟩
  · next f args w' hr =>
    refine ⟨fun _ _ => trivial, ?_⟩
    rw [show (Fw ro).round = ro from rfl, semAt_run ro hr (by simp)]
    refine ⟨(fun h => by cases h), CallsIn.mono (callsIn_fw ro _ h) fun e w' hS => ?_⟩
    cases e with
    | returned v => exact hS
    | panicked c => exact hS.elim
    | outgrown => exact hS.elim
  · exact h.elim
theorem lwl_list (ro : Option Nat) {Q : Exit → Act → World → Prop} : ∀ {rest : List Oper} {a : Act} {w : World}, LwL P ops (fun a w => Q .normal a w) rest a w → wpListIn (Fw ro) 0 P ops Q rest a w
  | [], _, _, h => h
  | o :: rest, a, w, h => by
    unfold LwL at h
    unfold wpListIn
    split at h
    · next hw => rw [if_pos hw]; exact lw_wpIn ro (h.mono' fun a w h => lwl_list ro h)
    · next hw => rw [if_neg hw]; exact ⟨fun _ _ => trivial, lwl_list ro h⟩
theorem lwl_mix {C : World → Prop} {loud : Nat → Bool} {T : Nat} {Q : Act → World → Prop} : ∀ {rest : List Oper} {a : Act} {w : World} {k : Nat}, LwL P ops Q rest a w → T ≤ k → (k ≤ T → C w) → (∀ j, k ≤ j → loud j = true) → wpMix P ops C loud T Q k rest a w
  | [], _, _, _, h, _, hC, _ => ⟨hC, h⟩
  | o :: rest, a, w, k, h, hT, hC, hl => by
    refine ⟨hC, ?_⟩
    unfold LwL at h
    split at h
    · next hw =>
      rw [if_pos hw, if_pos (hl k (Nat.le_refl _))]
      exact h.mono' fun a w h => lwl_mix h (by omega) (fun h => by omega) (fun j hj => hl j (by omega))
    · next hw =>
      rw [if_neg hw]
      exact lwl_mix h (by omega) (fun h => by omega) (fun j hj => hl j (by omega))
end

/-- The operations that are left run; how they end, told by a set of states. -/
def RunS (E : Env) (ops : Array Oper) (rest : List Oper) (s : St) (K : St → Prop) : Prop :=
  ∀ (base : Nat) (Q : Act → World → Prop) (a : Act) (w : World) (Z : Nat → Prop) (R : List RI), SR E base w Z R s a →
    (∀ s' a' w' Z' R', K s' → SR E base w' Z' R' s' a' → StepW w Z R s.hp w' Z' R' s'.hp → Q a' w') → LwL E.P ops Q rest a w
/-- .. ahead of the first write of a region that draws its order. -/
def RunDS (E : Env) (ops : Array Oper) (n0 k : Nat) (rest : List Oper) (s : St) (K : St → Prop) : Prop :=
  ∀ (base : Nat) (Q : Act → World → Prop) (w0 : World) (Z : Nat → Prop) (R0 : List RI) (h0 : Hp) (a : Act) (w : World) (R : List RI), HR w0 Z R0 h0 → n0 = h0.length → tailAt ops ≤ ops.size → SR E base w Z R s a → w0.grownBy w none → Step w0 Z R0 h0 w Z R s.hp → (∀ (b : Nat) (B : Option Blk), h0[b]? = some B → s.hp[b]? = some B) → tailAt ops = tailGo rest k → k + rest.length = ops.size → (∀ j, rest[j]? = ops[k + j]?) →
    (∀ s' a' w' Z' R', K s' → SR E base w' Z' R' s' a' → StepW w0 Z R0 h0 w' Z' R' s'.hp → Q a' w') → wpMix E.P ops (fun w' => w0.grownBy w' none) (fun k => !((ops[k]?).any fun o => isQ o.op) || Nat.ble (tailAt ops) k) (tailAt ops) Q k rest a w

section
variable {E : Env} {cx : Cx} {ops : Array Oper} {pre rest rest' : List Oper} {s s1 : St} {K : St → Prop} {n n0 k : Nat} {l : List (Nat × AV)} {hp hp' : Hp} {Q : Ex → St → Prop} {id : Nat}
theorem RunS.done (hr : rest = []) (k : K s) : RunS E ops rest s K := by
  subst hr
  exact fun base Q a w Z R sr q => q s a w Z R k sr (StepW.refl _ _ _ _)
theorem RunS.wk (hw : Wk E s s1) (h : RunS E ops rest s1 K) : RunS E ops rest s K := fun base Q a w Z R sr q => by
  obtain ⟨Z', R', sr', st⟩ := hw base w Z R a sr
  exact h base Q a w Z' R' sr' fun s' a' w' Z2 R2 hK sr2 st2 => q s' a' w' Z2 R2 hK sr2 (st.trans st2)
theorem RunS.mono {K' : St → Prop} (h : RunS E ops rest s K) (k : ∀ s, K s → K' s) : RunS E ops rest s K' := fun base Q a w Z R sr q => h base Q a w Z R sr fun s' a' w' Z' R' hK => q s' a' w' Z' R' (k s' hK)
theorem RunS.app (hE : EnvOk E) (n : Nat) : ∀ {pre : List Oper} {s : St}, opsA E (evC E n) ⟨none, false⟩ ops pre s = some s1 → RunS E ops rest s1 K → RunS E ops (pre ++ rest) s K
  | [], s, e, k => by injection e with e; subst e; exact k
  | o :: pre, s, e, kk => by
    intro base Q a w Z R sr q
    show LwL E.P ops Q (o :: (pre ++ rest)) a w
    unfold opsA at e
    unfold LwL
    split at e
    · cases e
    · next hw =>
      rw [if_neg (by rw [wantedA_eq sr hw]; simp)]
      exact RunS.app hE n e kk base Q _ w Z R (sr.put undef_vr) q
    · next hw =>
      rw [if_pos (wantedA_eq sr hw)]
      split at e
      · next s2 hs2 => exact op1_lw hE (code_sound hE n).1 hs2 sr fun a' w' Z' R' sr' st => RunS.app hE n e kk base Q a' w' Z' R' sr' fun s'' a'' w'' Z'' R'' hK sr'' st' => q s'' a'' w'' Z'' R'' hK sr'' (st.w.trans st')
      · cases e
/-- Some operations at once. -/
theorem RunS.seg (hE : EnvOk E) (m : Nat) (h : opsA E (evC E 0) ⟨none, false⟩ ops (rest.take m) s = some s1) (k : RunS E ops (rest.drop m) s1 K) : RunS E ops rest s K := by
  have := RunS.app hE 0 h k
  rwa [List.take_append_drop] at this
theorem RunS.one (hE : EnvOk E) (n : Nat) {o : Oper} (hr : rest = o :: rest') (h : opsA E (evC E n) ⟨none, false⟩ ops [o] s = some s1) (k : RunS E ops rest' s1 K) : RunS E ops rest s K := by
  subst hr
  exact RunS.app hE n (pre := [o]) h k
theorem Sem.runS (h : RunS E ops ops.toList s fun s' => Wk E s' s1) (q : Q .normal s1) : Sem E cx (.region id ops false) s Q := by
  intro ro base Qm a w Z R _ h2 _ kk
  refine wpIn_region_list (lwl_list ro (h base _ a w Z R h2 fun s' a' w' Z' R' hw sr st => ?_))
  obtain ⟨Z2, R2, sr2, st2⟩ := hw base w' Z' R' a' sr
  exact kk .normal s1 a' w' Z2 R2 q sr2 (st.trans st2)
theorem Sem.runDS (hE : EnvOk E) (hd : drawOk (.region id ops true) = true) (h : RunDS E ops s.hp.length 0 ops.toList s fun s' => Wk E s' s1) (q : Q .normal s1) : Sem E cx (.region id ops true) s Q := by
  intro ro base Qm a w Z R _ sr _ kk
  simp only [drawOk, Bool.not_true, Bool.false_or, Bool.and_eq_true] at hd
  have hgd : w.grownBy w.drew none := ch_drew w
  have hops : ops.toList.toArray = ops := by simp
  have st0 : Step w Z R s.hp w.drew Z R s.hp := ⟨rfl, rfl, rfl, Nat.le_refl _, fun c hc _ => rfl, fun _ h => .inl h, fun _ h => h, fun _ h => .inl h, fun _ _ h => h⟩
  have hsrd : SR E base w.drew Z R s a := ⟨sr.hh.keep (Nat.le_refl _) (fun c hc => hgd.block c hc (by simp)), sr.fr.off (fun c hc => rfl), sr.mks.step st0, sr.gl.off (fun c hc => rfl), sr.bs⟩
  have hm := h base (fun a w => Qm .normal a w) w.drew Z R s.hp a w.drew R hsrd.hh rfl (by have := tailGo_le ops.toList 0; unfold tailAt; simpa using this) hsrd (pu_refl _) (Step.refl _ _ _ _) (fun b B hb => hb) rfl (by simp) (fun j => by simp) (fun s' a' w' Z' R' hw sr' st => by
    obtain ⟨Z2, R2, sr2, st2⟩ := hw base w' Z' R' a' sr'
    exact kk .normal s1 a' w' Z2 R2 q sr2 ((st0.w.trans st).trans st2))
  have := wp_region_mix (P := E.P) (id := id) (l := ops.toList) (a := a) (w := w) (C := fun w' => w.drew.grownBy w' none) (loud := fun k => !((ops[k]?).any fun o => isQ o.op) || Nat.ble (tailAt ops) k) (T := tailAt ops) (Q' := Qm) ro 0 hE.mixed (by rw [hops]; exact hd.1) (by rw [hops]; exact hd.2) (by rw [hops]; exact hm)
  rw [hops] at this
  exact this
theorem RunDS.done (hr : rest = []) (kk : K s) : RunDS E ops n0 k rest s K := by
  subst hr
  exact fun base Q w0 Z R0 h0 a w R _ _ _ sr hgr st _ _ _ _ q => ⟨fun _ => hgr, q s a w Z R kk sr st.w⟩
theorem RunDS.tail {o : Oper} (hr : rest = o :: rest') (hW : isW o.op = true) (h : RunS E ops rest s K) : RunDS E ops n0 k rest s K := by
  subst hr
  intro base Q w0 Z R0 h0 a w R _ _ _ sr hgr st _ hTk _ _ q
  have hTk' : tailAt ops = k := by rw [hTk]; unfold tailGo; rw [if_pos hW]
  refine lwl_mix (h base Q a w Z R sr fun s' a' w' Z' R' hK sr' st' => q s' a' w' Z' R' hK sr' (st.w.trans st')) (by omega) (fun _ => hgr) (fun j hj => ?_)
  have : Nat.ble (tailAt ops) j = true := by rw [Nat.ble_eq]; omega
  simp [this]
theorem RunDS.app (hE : EnvOk E) : ∀ {pre : List Oper} {s : St} {k : Nat}, (pre.all fun o => !isW o.op) = true → opsD E (evC E 0) ⟨none, false⟩ ops n0 pre s = some s1 → RunDS E ops n0 (k + pre.length) rest s1 K → RunDS E ops n0 k (pre ++ rest) s K
  | [], s, k, _, e, kk => by injection e with e; subst e; exact kk
  | o :: pre, s, k, hp, e, kk => by
    intro base Q w0 Z R0 h0 a w R hh0 hn0 hT sr hgr st hpre hTk hlen hops q
    simp only [List.all_cons, Bool.and_eq_true, Bool.not_eq_true'] at hp
    obtain ⟨hW, hp⟩ := hp
    have hok : ops[k]? = some o := by have := hops 0; simpa using this.symm
    have hops' : ∀ j, (pre ++ rest)[j]? = ops[k + 1 + j]? := fun j => by have := hops (j + 1); simpa [Nat.add_assoc, Nat.add_comm 1 j] using this
    have hk1 : k + 1 + pre.length = k + (o :: pre).length := by simp; omega
    have kk' : RunDS E ops n0 (k + 1 + pre.length) rest s1 K := by rw [hk1]; exact kk
    have hlen' : k + 1 + (pre ++ rest).length = ops.size := by simp at hlen ⊢; omega
    have hTk' : tailAt ops = tailGo (pre ++ rest) (k + 1) := by
      rw [hTk]
      show tailGo (o :: (pre ++ rest)) k = _
      conv => lhs; unfold tailGo; rw [if_neg (by rw [hW]; simp)]
    have hkT : ¬ tailAt ops ≤ k := by have := tailGo_ge (pre ++ rest) (k + 1); omega
    have hble : Nat.ble (tailAt ops) k = false := by
      cases hb : Nat.ble (tailAt ops) k with
      | false => rfl
      | true => exact absurd (Nat.le_of_ble_eq_true hb) hkT
    show wpMix E.P ops _ _ _ Q k (o :: (pre ++ rest)) a w
    refine ⟨fun _ => hgr, ?_⟩
    unfold opsD at e
    rw [if_neg (by rw [hW]; simp)] at e
    split at e
    · cases e
    · next hw =>
      rw [if_neg (by rw [wantedA_eq sr hw]; simp)]
      exact RunDS.app hE hp e kk' base Q w0 Z R0 h0 _ w R hh0 hn0 hT (sr.put undef_vr) hgr st hpre hTk' hlen' hops' q
    · next hw =>
      rw [if_pos (wantedA_eq sr hw)]
      have hρ : ∀ o x, opA E s.fr o = some x → VR w Z R x (a.eval o) := fun o x e => opA_vr sr o x e
      split at e
      · next x hx =>
        split at e
        · next hld =>
          have hq := isQ_of hx
          rw [if_neg (by simp [hok, hq, hble])]
          obtain ⟨u, hu, hrun⟩ := evOpQ_sound sr.hh hρ hx
          have hquiet : ∃ u, VR w Z R x u ∧ QuietAt E.P (fun w' => w0.grownBy w' none) o u a := by
            cases hl : isLd o.op with
            | false => exact ⟨u, hu, fun w' hw1 => hrun w' fun h => by rw [hl] at h; cases h⟩
            | true => exact load_quiet hh0 sr hgr st hpre hl (by rw [← hn0]; exact hld) hx
          obtain ⟨u, hu, hquiet⟩ := hquiet
          exact ⟨u, hquiet, RunDS.app hE hp e kk' base Q w0 Z R0 h0 _ w R hh0 hn0 hT (sr.put hu) hgr st hpre hTk' hlen' hops' q⟩
        · cases e
      · split at e
        · next x h' hx =>
          have hq := isQ_of_N hx
          rw [if_pos (by simp [hok, hq])]
          obtain ⟨u, w', R', h1, h2, h3, h4, h5⟩ := evOpN_sound hρ sr.hh hx
          exact lw_val h1 (RunDS.app hE hp e kk' base Q w0 Z R0 h0 _ w' R' hh0 hn0 hT ((sr.step h2 h4).put h3) (pu_trans hgr h5) (st.trans h4) (fun b B hb => evOpN_pre hx (hpre b B hb)) hTk' hlen' hops' q)
        · split at e
          · next f args tys ho =>
            split at e
            · next fv xs hf hxs =>
              split at e
              · next r hr =>
                obtain ⟨x, h'⟩ := r
                have hq : isQ o.op = false := by rw [ho]; rfl
                rw [if_pos (by simp [hok, hq])]
                obtain ⟨g, hva, hcl, hret⟩ := callP_sound hE (code_sound hE 0).1 (hρ _ _ hf) (opds_vr hρ hxs) sr.hh sr.gl hr
                unfold Lw
                rw [run_call (uf := []) (uc := []) ho hva rfl hcl w]
                simp only [List.nil_append, List.append_nil]
                refine Ret.mono hret fun v w' hS => ?_
                obtain ⟨hg1, R', k1, k2, k3⟩ := hS
                exact RunDS.app hE hp e kk' base Q w0 Z R0 h0 _ w' R' hh0 hn0 hT ((sr.step k1 k3).put k2) (pu_trans hgr hg1) (st.trans k3) (fun b B hb => callP_pre hr (hpre b B hb)) hTk' hlen' hops' q
              · cases e
            · cases e
          · cases e
theorem RunDS.seg (hE : EnvOk E) (m : Nat) (hw : ((rest.take m).all fun o => !isW o.op) = true) (h : opsD E (evC E 0) ⟨none, false⟩ ops n0 (rest.take m) s = some s1) (kk : RunDS E ops n0 (k + (rest.take m).length) (rest.drop m) s1 K) : RunDS E ops n0 k rest s K := by
  have := RunDS.app (k := k) hE hw h kk
  rwa [List.take_append_drop] at this
theorem RunDS.one (hE : EnvOk E) {o : Oper} (hr : rest = o :: rest') (hW : isW o.op = false) (h : opsD E (evC E 0) ⟨none, false⟩ ops n0 [o] s = some s1) (kk : RunDS E ops n0 (k + 1) rest' s1 K) : RunDS E ops n0 k rest s K := by
  subst hr
  exact RunDS.app (k := k) hE (pre := [o]) (by simp [hW]) h kk

/- One operation, as the interpreter takes it. -/
variable {ih : IH} {o : Oper} {x : AV} {d : Nat}
theorem op_q (hw : wantedA ops (Fr n l) o = some true) (hd : o.dst = some d) (h : evOpQ E.P (opA E (Fr n l)) hp o.op = some x) : opsA E ih cx ops [o] ⟨Fr n l, hp⟩ = some ⟨Fr n ((d, x) :: l), hp⟩ := by
  unfold opsA op1
  simp only [hw, h, hd, putA_Fr]
  rfl
theorem op_n (hw : wantedA ops (Fr n l) o = some true) (hd : o.dst = some d) (hq : evOpQ E.P (opA E (Fr n l)) hp o.op = none) (h : evOpN E.P (opA E (Fr n l)) hp o.op = some (x, hp')) : opsA E ih cx ops [o] ⟨Fr n l, hp⟩ = some ⟨Fr n ((d, x) :: l), hp'⟩ := by
  unfold opsA op1
  simp only [hw, hq, h, hd, putA_Fr]
  rfl
theorem op_w (hw : wantedA ops (Fr n l) o = some true) (hd : o.dst = some d) (hq : evOpQ E.P (opA E (Fr n l)) hp o.op = none) (hn : evOpN E.P (opA E (Fr n l)) hp o.op = none) (h : evOpW E.P (opA E (Fr n l)) hp o.op = some (x, hp')) : opsA E ih cx ops [o] ⟨Fr n l, hp⟩ = some ⟨Fr n ((d, x) :: l), hp'⟩ := by
  unfold opsA op1
  simp only [hw, hq, hn, h, hd, putA_Fr]
  rfl
theorem op_st {t : TypeId} {p q : Operand} {y z : AV} {ty : TypeId} {pos : String} {af : Array Edge} {g : Option (Nat × Bool)} (hw : wantedA ops (Fr n l) ⟨none, .store t p q, ty, pos, af, g⟩ = some true) (hp1 : opA E (Fr n l) p = some y) (hq1 : opA E (Fr n l) q = some z) (h : evStore E.P hp t y z = some hp') : opsA E ih cx ops [⟨none, .store t p q, ty, pos, af, g⟩] ⟨Fr n l, hp⟩ = some ⟨Fr n l, hp'⟩ := by
  unfold opsA op1
  simp only [hw, evOpQ, evOpN, evOpW, evOpX, hp1, hq1, h, Option.map_some]
  rfl
theorem opd_q (hi : isW o.op = false) (hw : wantedA ops (Fr n l) o = some true) (hd : o.dst = some d) (h : evOpQ E.P (opA E (Fr n l)) hp o.op = some x) (hl : ldOk n0 (opA E (Fr n l)) o.op = true) : opsD E ih cx ops n0 [o] ⟨Fr n l, hp⟩ = some ⟨Fr n ((d, x) :: l), hp⟩ := by
  unfold opsD
  simp only [hi, hw, h, hl, hd, putA_Fr, if_true, Bool.false_eq_true, if_false]
  rfl
theorem opd_n (hi : isW o.op = false) (hw : wantedA ops (Fr n l) o = some true) (hd : o.dst = some d) (hq : evOpQ E.P (opA E (Fr n l)) hp o.op = none) (h : evOpN E.P (opA E (Fr n l)) hp o.op = some (x, hp')) : opsD E ih cx ops n0 [o] ⟨Fr n l, hp⟩ = some ⟨Fr n ((d, x) :: l), hp'⟩ := by
  unfold opsD
  simp only [hi, hw, hq, h, hd, putA_Fr, Bool.false_eq_true, if_false]
  rfl
end
end Go.Proofs.YthofgamegondnaaDoor

namespace Go.Proofs.YthofgamegondnaaDoor
open Go.RowKit

/-- A value, or what it is once block b is frozen. -/
def Fr1 (h : Hp) (b : Nat) (x x' : AV) : Prop := x' = x ∨ (x = .e0 ∧ ∃ k, x' = .sl k []) ∨ ∃ B lo n m, h[b]? = some (some B) ∧ B.fz = false ∧ (∀ y ∈ B.es, noRf2 y = true) ∧ lo + n ≤ B.es.length ∧ x = .rf b lo n m ∧ x' = .sl B.k ((B.es.drop lo).take n)
def ZFr (Z : Nat → Prop) (R : List RI) (h : Hp) (b : Nat) (c : Nat) : Prop := Z c ∨ ∃ B r, h[b]? = some (some B) ∧ B.fz = false ∧ R[b]? = some r ∧ c = r.c
theorem Fr1.vr {w : World} {Z : Nat → Prop} {R : List RI} {h : Hp} {b : Nat} {x x' : AV} {u : Value} (f : Fr1 h b x x') (hh : HR w Z R h) (hv : VR w Z R x u) : VR w (ZFr Z R h b) R x' u := by
  rcases f with rfl | ⟨rfl, k, rfl⟩ | ⟨B, lo, n, m, hB, hf, hn, hle, rfl, rfl⟩
  · exact hv.mono (fun _ _ => rfl) (fun _ h => .inl h) (fun _ _ h => h)
  · cases hv with
    | e0 => exact .sl (us := []) rfl rfl (Nat.le_refl _) (by unfold maxLen; omega) (fun h => by omega) (fun i x u hx => by simp at hx)
  · obtain ⟨r, _, _, g1, _⟩ := hh.blk b B hB
    exact (frz_vr hh hB hn g1 hle hv).mono (fun _ _ => rfl) (fun c h => h.elim .inl fun e => .inr ⟨B, r, hB, hf, g1, e⟩) (fun _ _ h => h)
def EsFz (h : Hp) (b : Nat) : List AV → List AV → Prop
  | [], [] => True
  | x :: r, x' :: r' => Fr1 h b x x' ∧ EsFz h b r r'
  | _, _ => False
theorem EsFz.at_ {h : Hp} {b : Nat} : ∀ {es es' : List AV}, EsFz h b es es' → es.length = es'.length ∧ ∀ (i : Nat) (x' : AV), es'[i]? = some x' → ∃ x, es[i]? = some x ∧ Fr1 h b x x'
  | [], [], _ => ⟨rfl, fun i x' hx => by simp at hx⟩
  | x :: r, x' :: r', ⟨h1, h2⟩ => by
    obtain ⟨k1, k2⟩ := h2.at_
    refine ⟨by simp [k1], fun i y hy => ?_⟩
    cases i with
    | zero => simp at hy; subst hy; exact ⟨x, rfl, h1⟩
    | succ i => simpa using k2 i y (by simpa using hy)
  | [], _ :: _, h => h.elim
  | _ :: _, [], h => h.elim
def EnFz (h : Hp) (b : Nat) (o o' : Option Blk) : Prop := o' = none ∨ o = o' ∨ ∃ k t es es', o = some ⟨k, t, es, false⟩ ∧ o' = some ⟨k, t, es', false⟩ ∧ EsFz h b es es'
def HpFz (h : Hp) (b : Nat) : Hp → Hp → Prop
  | [], [] => True
  | o :: r, o' :: r' => EnFz h b o o' ∧ HpFz h b r r'
  | _, _ => False
theorem HpFz.at_ {h : Hp} {b : Nat} : ∀ {q q' : Hp}, HpFz h b q q' → q.length = q'.length ∧ ∀ (j : Nat) (B' : Blk), q'[j]? = some (some B') → ∃ es, q[j]? = some (some { B' with es := es }) ∧ es.length = B'.es.length ∧ ∀ (i : Nat) (x' : AV), B'.es[i]? = some x' → ∃ x, es[i]? = some x ∧ Fr1 h b x x'
  | [], [], _ => ⟨rfl, fun j B' hx => by simp at hx⟩
  | o :: r, o' :: r', ⟨h1, h2⟩ => by
    obtain ⟨k1, k2⟩ := h2.at_
    refine ⟨by simp [k1], fun j B' hB => ?_⟩
    cases j with
    | zero =>
      simp at hB
      subst hB
      rcases h1 with h1 | h1 | ⟨k, t, es, es', rfl, h1, h3⟩
      · cases h1
      · subst h1
        exact ⟨B'.es, rfl, rfl, fun i x' hx => ⟨x', hx, .inl rfl⟩⟩
      · have h1 := Option.some.inj h1
        subst h1
        obtain ⟨q1, q2⟩ := h3.at_
        exact ⟨es, rfl, q1, q2⟩
    | succ j => simpa using k2 j B' (by simpa using hB)
  | [], _ :: _, h => h.elim
  | _ :: _, [], h => h.elim
def LkFz (h : Hp) (b : Nat) (l : List (Nat × AV)) : List (Nat × AV) → Prop
  | [] => True
  | (t, x') :: r => (∃ x, lk l t = some x ∧ Fr1 h b x x') ∧ LkFz h b l r
theorem LkFz.at_ {h : Hp} {b : Nat} {l : List (Nat × AV)} : ∀ {l' : List (Nat × AV)}, LkFz h b l l' → ∀ t x', lk l' t = some x' → ∃ x, lk l t = some x ∧ Fr1 h b x x'
  | [], _, t, x, h => by cases h
  | (k, y) :: r, hk, t, x, h => by
    rw [lk_put] at h
    split at h
    · next e => injection h with h; subst e h; exact hk.1
    · exact hk.2.at_ t x h
/-- Block b is frozen, wherever it is named. -/
theorem Wk.frzG {E : Env} {n : Nat} {l l' : List (Nat × AV)} {h h' : Hp} (b : Nat) (hb : h'[b]? = some Option.none ∨ h[b]? = some Option.none) (hh : HpFz h b h h') (hl : LkFz h b l l') : Wk E ⟨Fr n l, h⟩ ⟨Fr n l', h'⟩ := by
  intro base w Z R a sr
  obtain ⟨hlen, hblk⟩ := hh.at_
  have hne : ∀ (j : Nat) (B' B r : _), h'[j]? = some (some B') → h[b]? = some (some B) → R[b]? = some r → B.fz = false → B'.fz = false → ∀ r', R[j]? = some r' → r'.c ≠ r.c := by
    intro j B' B r hj hB hr hf hf' r' hr' e
    obtain ⟨es, k1, _⟩ := hblk j B' hj
    have := sr.hh.inj j b _ B r' r k1 hf' hB hf hr' hr e
    subst this
    rcases hb with hb | hb
    · rw [hb] at hj; cases hj
    · rw [hb] at hB; cases hB
  have hown : ∀ c, own R h' c → own R h c := fun c ⟨j, B, r, h1, h2, h3, h4⟩ => by
    obtain ⟨es, k1, _⟩ := hblk j B h1
    exact ⟨j, _, r, k1, h2, h3, h4⟩
  have hzo : ∀ c, ZFr Z R h b c → Z c ∨ own R h c := fun c hc => hc.elim .inl fun ⟨B, r, h1, h2, h3, h4⟩ => .inr ⟨b, B, r, h1, h2, h3, h4.symm⟩
  refine ⟨ZFr Z R h b, R, ⟨⟨sr.hh.len.trans hlen, fun j B' hB' => ?_, fun j j' B B' r r' hB hf hB' hf' h1 h2 e => ?_, fun c hc => ?_⟩, ⟨?_, fun t x hx => ?_⟩, ?_, fun g x hx => (sr.gl g x hx).mono (fun _ _ => rfl) (fun _ h => .inl h) (fun _ _ h => h), sr.bs⟩, ⟨rfl, rfl, rfl, Nat.le_refl _, fun _ _ _ => rfl, fun c hc => .inl (hown c hc), fun _ h => .inl h, fun c hc => (hzo c hc).elim .inl (fun h => .inr (.inl h))⟩⟩
  · obtain ⟨es, k1, k2, k3⟩ := hblk j B' hB'
    obtain ⟨r, arr, us, g1, g2, g3, g4, g5, g6, g7, g8, g9, g10⟩ := sr.hh.blk j _ k1
    refine ⟨r, arr, us, g1, g2, g3, g4, by rw [← k2]; exact g5, g6, fun hf => .inl (g7 hf), fun hf hc => ?_, ⟨by rw [g9.len]; exact k2, fun i x' u hx hu => ?_⟩, g10⟩
    · rcases hc with hc | ⟨B, r2, q1, q2, q3, q4⟩
      · exact g8 hf hc
      · exact hne j B' B r2 hB' q1 q3 q2 hf r g1 q4
    · obtain ⟨x, q1, q2⟩ := k3 i x' hx
      exact q2.vr sr.hh (g9.at_ i x u q1 hu)
  · obtain ⟨es, k1, _⟩ := hblk j B hB
    obtain ⟨es', k1', _⟩ := hblk j' B' hB'
    exact sr.hh.inj j j' _ _ r r' k1 hf k1' hf' h1 h2 e
  · rcases hc with hc | ⟨B, r, q1, q2, q3, rfl⟩
    · exact sr.hh.zlt c hc
    · exact sr.hh.rltL q1 q3
  · rw [Fr_len]; have := sr.fr.1; rw [Fr_len] at this; exact this
  · rw [Fr_get] at hx
    split at hx
    · next ht =>
      injection hx with hx
      obtain ⟨y, h1, h2⟩ := hl.at_ t x hx
      exact h2.vr sr.hh (sr.fr.2 t y (by rw [Fr_get, if_pos ht, h1]))
    · cases hx
  · have : ∀ {D : List Deferred}, Mks base w Z R h D → Mks base w (ZFr Z R h b) R h' D := by
      intro D
      induction D with
      | nil => intro _; trivial
      | cons d D ih => exact fun ⟨⟨q, h1, h2, h3, h4, h5, h6⟩, hD⟩ => ⟨⟨q, h1, h2, h3, fun hc => (hzo q hc).elim h4 h5, fun ho => h5 (hown q ho), h6⟩, ih hD⟩
    exact this sr.mks
theorem fz_hd {h : Hp} {b k : Nat} {t : TypeId} {es : List AV} (hb : h[b]? = some (mk k t es)) (hn : ∀ x ∈ es, noRf2 x = true) : Fr1 h b (hd b es) (.sl k es) := by
  cases es with
  | nil => exact .inr (.inl ⟨rfl, k, rfl⟩)
  | cons x es => exact .inr (.inr ⟨_, 0, _, _, hb, rfl, hn, by simp, rfl, by simp⟩)
theorem fz_rl {h : Hp} {b k : Nat} {t : TypeId} {es : List AV} (hb : h[b]? = some (some ⟨k, t, es, false⟩)) (hn : ∀ x ∈ es, noRf2 x = true) : Fr1 h b (.rf b 0 es.length es.length) (.sl k es) :=
  .inr (.inr ⟨_, 0, _, _, hb, rfl, hn, by simp, rfl, by simp⟩)
theorem fz_rf {h : Hp} {b k n m : Nat} {t : TypeId} {es : List AV} (hb : h[b]? = some (some ⟨k, t, es, false⟩)) (hn : ∀ x ∈ es, noRf2 x = true) (hle : n ≤ es.length) : Fr1 h b (.rf b 0 n m) (.sl k (es.take n)) :=
  .inr (.inr ⟨_, 0, _, _, hb, rfl, hn, by simpa using hle, rfl, by simp⟩)
theorem fz_e0 {h : Hp} {b k : Nat} : Fr1 h b .e0 (.sl k []) := .inr (.inl ⟨rfl, k, rfl⟩)

section
variable {P : Program} {h : Hp} {α : Type} {e : α → AV} {xs : List α}
theorem idx_at {i : Int} {v : α} (hv : idx xs i = some v) : 0 ≤ i ∧ xs[i.toNat]? = some v := by
  unfold idx at hv
  split at hv
  · next h0 => exact ⟨h0, hv⟩
  · cases hv
theorem ix_rf {t el : TypeId} {b k n m : Nat} {B : Blk} {ki : IntKind} {i : Int} (hu : P.underlying t = some (.slice el)) (hs : tySize P el = some k) (hb : h[b]? = some (some B)) (hk : B.k = k) (h0 : 0 ≤ i) (hn : i.toNat < n) : evIndexAddr P h t (.rf b 0 n m) (.v (.int ki i)) = some (.pt b i.toNat 0) := by
  unfold evIndexAddr
  simp only [intOfA]
  rw [if_neg (by omega), hu]
  simp only [hb]
  rw [if_pos ⟨hn, by rw [hs, hk]⟩, Nat.zero_add]
theorem ix_hd {t t' el : TypeId} {b k : Nat} {ki : IntKind} {i : Int} {v : α} (hu : P.underlying t = some (.slice el)) (hs : tySize P el = some k) (hb : h[b]? = some (mk k t' (xs.map e))) (hv : idx xs i = some v) : evIndexAddr P h t (hd b (xs.map e)) (.v (.int ki i)) = some (.pt b i.toNat 0) := by
  obtain ⟨h0, h1⟩ := idx_at hv
  have hlt := (List.getElem?_eq_some_iff.1 h1).1
  cases xs with
  | nil => simp at hlt
  | cons x xs => exact ix_rf hu hs hb rfl h0 (by simpa using hlt)
theorem ix_rl {t t' el : TypeId} {b k : Nat} {ki : IntKind} {i : Int} {v : α} (hu : P.underlying t = some (.slice el)) (hs : tySize P el = some k) (hb : h[b]? = some (some ⟨k, t', xs.map e, false⟩)) (hv : idx xs i = some v) : evIndexAddr P h t (.rf b 0 xs.length xs.length) (.v (.int ki i)) = some (.pt b i.toNat 0) := by
  obtain ⟨h0, h1⟩ := idx_at hv
  exact ix_rf hu hs hb rfl h0 (List.getElem?_eq_some_iff.1 h1).1
/-- What lies at an address of a typed block. -/
theorem ld_blk {t : TypeId} {b m : Nat} {g : Bool} {B : Blk} {i : Nat} {v : α} (hm : tySize P t = some m) (hg : tyAgg P t = some g) (hb : h[b]? = some (some B)) (hB : B.es = xs.map e) (hv : xs[i]? = some v) (he : getE (e v) 0 m g = some (e v)) : evLoad P h t (.pt b i 0) = some (e v) := by
  unfold evLoad
  simp only [hm, hg, hb, hB, List.getElem?_map, hv, Option.map_some]
  exact he
theorem mk_some {k : Nat} {t : TypeId} {es : List AV} {i : Nat} {x : AV} (h : es[i]? = some x) : mk k t es = some ⟨k, t, es, false⟩ := by
  cases es with
  | nil => simp at h
  | cons y es => rfl
theorem ld_mk {t t' : TypeId} {b k m : Nat} {g : Bool} {i : Nat} {v : α} (hm : tySize P t = some m) (hg : tyAgg P t = some g) (hb : h[b]? = some (mk k t' (xs.map e))) (hv : xs[i]? = some v) (he : getE (e v) 0 m g = some (e v)) : evLoad P h t (.pt b i 0) = some (e v) := by
  rw [mk_some (i := i) (x := e v) (by rw [List.getElem?_map, hv]; rfl)] at hb
  exact ld_blk hm hg hb rfl hv he
theorem st_blk {t t' : TypeId} {b k : Nat} {i : Nat} {v v' : α} (hb : h[b]? = some (some ⟨k, t', xs.map e, false⟩)) (hv : xs[i]? = some v) (hs : tySize P t = some (e v').nc) (hn : (e v').notTp = true) (he : setE (e v) 0 (e v') = some (e v')) : evStore P h t (.pt b i 0) (e v') = some (h.set b (some ⟨k, t', (xs.set i v').map e, false⟩)) := by
  unfold evStore
  simp only [hb, List.getElem?_map, hv, Option.map_some, Bool.false_eq_true, if_false]
  rw [if_pos ⟨hs, hn⟩, he, List.map_set]
  rfl
theorem st_mk {t t' : TypeId} {b k : Nat} {i : Nat} {v v' : α} (hb : h[b]? = some (mk k t' (xs.map e))) (hv : xs[i]? = some v) (hs : tySize P t = some (e v').nc) (hn : (e v').notTp = true) (he : setE (e v) 0 (e v') = some (e v')) : evStore P h t (.pt b i 0) (e v') = some (h.set b (mk k t' ((xs.set i v').map e))) := by
  rw [mk_some (i := i) (x := e v) (by rw [List.getElem?_map, hv]; rfl)] at hb
  rw [st_blk hb hv hs hn he]
  have : mk k t' ((xs.set i v').map e) = some ⟨k, t', (xs.set i v').map e, false⟩ := mk_some (i := i) (x := e v') (by
    rw [List.getElem?_map, List.getElem?_set_self (List.getElem?_eq_some_iff.1 hv).1]; rfl)
  rw [this]
/-- Room for a slice that is made? -/
def mkOk (bytes : Nat) (n : Int) : Bool := decide (0 ≤ n) && decide ((bytes : Int) * n ≤ 140737488355328) && decide (n ≤ 140737488355328)
theorem mk_T {c : Cd α} {t el : TypeId} {k : Nat} {i : TypeInfo} {n : Int} {kn kc : IntKind} {z : α} (ht : tyElem P t = some el) (hi : P.info? el = some i) (hz : tyZero P el = some (c.enc z)) (hk : i.size = k) (hzn : (c.enc z).nc = k) (hzt : (c.enc z).notTp = true) {bytes : Nat} (hib : i.bytes = bytes) (hc : mkOk bytes n = true) :
    evMake P h t (.v (.int kn n)) (.v (.int kc n)) = some (.rf h.length 0 (List.replicate n.toNat z).length (List.replicate n.toNat z).length, h ++ [some ⟨k, el, (List.replicate n.toNat z).map c.enc, false⟩]) := by
  simp only [mkOk, Bool.and_eq_true, decide_eq_true_eq] at hc
  unfold evMake
  simp only [ht, intOfA, hi, hz]
  rw [if_pos ⟨trivial, hc.1.1, by rw [hib]; exact hc.1.2, hc.2, by rw [hk]; exact hzn, hzt⟩, hk]
  simp
theorem q_load {ρ : Operand → Option AV} {t : TypeId} {a : Operand} {p r : AV} (hp : ρ a = some p) (he : evLoad P h t p = some r) : evOpQ P ρ h (.load t a) = some r := by
  show (match ρ a with | some p => evLoad P h t p | none => none) = some r
  rw [hp]; exact he
theorem n_make {ρ : Operand → Option AV} {t : TypeId} {n c : Operand} {x y : AV} {r : AV × Hp} (hn : ρ n = some x) (hc : ρ c = some y) (he : evMake P h t x y = some r) : evOpN P ρ h (.makeSlice t n c) = some r := by
  show (match ρ n, ρ c with | some n, some c => evMake P h t n c | _, _ => none) = some r
  rw [hn, hc]; exact he
theorem len_rl {t el : TypeId} {b : Nat} (hu : P.underlying t = some (.slice el)) : evLen P t (.rf b 0 xs.length xs.length) = some (eI xs.length) := by
  simp [evLen, hu, eI]
end

/-- What a call sees of an argument. -/
def Sn {α : Type} (h : Hp) (c : Cd α) (x : AV) (v : α) : Prop := ∃ y, view2 h x = some y ∧ c.dec y = some v
theorem view2_id {h : Hp} {x : AV} (hn : noRf2 x = true) : view2 h x = some x := by
  have := views_id (h := h) (xs := [x]) (by simp [hn])
  unfold views at this
  split at this
  · next y r h1 h2 =>
    unfold views at h2
    injection h2 with h2
    subst h2
    have := (List.cons.inj (Option.some.inj this)).1
    subst this
    exact h1
  · cases this
theorem Sn.enc {α : Type} {h : Hp} {c : Cd α} {v : α} : Sn h c (c.enc v) v := ⟨_, view2_id (c.nr v), c.de v⟩
theorem Sn.e0 {α : Type} {h : Hp} {c : Cd α} {k : Nat} : Sn h (cdL k c) .e0 [] := ⟨.e0, rfl, rfl⟩
theorem Sn.rl {α : Type} {h : Hp} {c : Cd α} {k b : Nat} {t : TypeId} {xs : List α} (hb : h[b]? = some (some ⟨k, t, xs.map c.enc, false⟩)) (hn : ∀ v, noRf (c.enc v) = true) : Sn h (cdL k c) (.rf b 0 xs.length xs.length) xs := by
  refine ⟨.sl k (xs.map c.enc), ?_, (cdL k c).de xs⟩
  show view1 h (.rf b 0 xs.length xs.length) = some (.sl k (xs.map c.enc))
  unfold view1
  simp only [hb]
  rw [if_pos ⟨by simp, by simp [hn]⟩]
  simp only [List.drop_zero]
  rw [List.take_of_length_le (by simp)]
theorem Sn.hd {α : Type} {h : Hp} {c : Cd α} {k b : Nat} {t : TypeId} {xs : List α} (hb : h[b]? = some (mk k t (xs.map c.enc))) (hn : ∀ v, noRf (c.enc v) = true) : Sn h (cdL k c) (hd b (xs.map c.enc)) xs := by
  cases xs with
  | nil => exact .e0
  | cons x xs =>
    have := Sn.rl (c := c) (xs := x :: xs) (b := b) (k := k) hb hn
    simpa [Go.Proofs.YthofgamegondnaaDoor.hd] using this
def Sns {α : Type} (h : Hp) (s : Cs α) (xs : List AV) (a : α) : Prop := ∃ ys, views h xs = some ys ∧ s.dec ys = some a
theorem Sns.nil {h : Hp} : Sns h csN [] () := ⟨[], rfl, rfl⟩
theorem Sns.cons {α β : Type} {h : Hp} {c : Cd α} {s : Cs β} {x : AV} {xs : List AV} {v : α} {a : β} (h1 : Sn h c x v) (h2 : Sns h s xs a) : Sns h (csC c s) (x :: xs) (v, a) := by
  obtain ⟨y, k1, k2⟩ := h1
  obtain ⟨ys, q1, q2⟩ := h2
  refine ⟨y :: ys, ?_, ?_⟩
  · unfold views; rw [k1, q1]
  · show ((c.dec y).bind fun x => (s.dec ys).map fun y => (x, y)) = _
    rw [k2, q2]; rfl
theorem Sns.enc {α : Type} {h : Hp} {s : Cs α} {a : α} : Sns h s (s.enc a) a := ⟨_, views_id (s.nr a), s.de a⟩
theorem n1_K (k : IntKind) : ∀ v, noRf ((cdK k).enc v) = true := fun _ => rfl
theorem n1_I : ∀ v, noRf (cdI.enc v) = true := fun _ => rfl
theorem n1_B : ∀ v, noRf (cdB.enc v) = true := fun _ => rfl
theorem n1_S : ∀ v, noRf (cdS.enc v) = true := fun _ => rfl
theorem n1_L {α : Type} {k : Nat} {c : Cd α} : ∀ v, noRf ((cdL k c).enc v) = true := fun _ => rfl
section
variable {E : Env} {cx : Cx} {ops : Array Oper} {n n0 : Nat} {l : List (Nat × AV)} {hp : Hp} {ih : IH} {α β : Type} {s : Cs α} {F : α → Option β} {er : β → AV} {a : α} {b : β} {xs : List AV}
theorem told_dec {ys : List AV} (hd : s.dec ys = some a) (hF : F a = some b) : told s F er ys = some (er b) := by
  unfold told; rw [hd, Option.bind_some, hF]; rfl
theorem callX2_told' (hv : Sns hp s xs a) (hok : xs.all noRf2 = true ∨ flatTp (er b) = true) (hF : F a = some b) : callX2 (told s F er) xs hp = some (er b, hp) := by
  obtain ⟨ys, hv, hd⟩ := hv
  unfold callX2
  split
  · next hn =>
    have : xs = ys := Option.some.inj ((views_id hn).symm.trans hv)
    rw [this, told_dec hd hF]; rfl
  · next hn =>
    unfold callX
    simp only [hv, told_dec hd hF]
    rw [if_pos (hok.resolve_left (fun h => hn h))]
theorem op_call {d : Nat} {f : Operand} {args : Array Operand} {tys : Array TypeId} {ty : TypeId} {pos : String} {af : Array Edge} {g : Option (Nat × Bool)} {fid : FuncId} (hw : wantedA ops (Fr n l) ⟨some d, .call ⟨.value f, args, tys⟩, ty, pos, af, g⟩ = some true)
    (hf : opA E (Fr n l) f = some (.fn fid [] [])) (hi : E.I fid = false) (hX : E.X fid = some (told s F er)) (ha : opds (opA E (Fr n l)) args.toList = some xs) (hv : Sns hp s xs a) (hok : xs.all noRf2 = true ∨ flatTp (er b) = true) (hF : F a = some b) : opsA E ih ⟨none, false⟩ ops [⟨some d, .call ⟨.value f, args, tys⟩, ty, pos, af, g⟩] ⟨Fr n l, hp⟩ = some ⟨Fr n ((d, er b) :: l), hp⟩ := by
  have e1 : evOpX E.P E.I (opA E (Fr n l)) hp (.call ⟨.value f, args, tys⟩) = none := by
    show (match opA E (Fr n l) f, opds (opA E (Fr n l)) args.toList with | some (.fn g [] []), some [x] => if E.I g then some x else none | _, _ => none) = none
    rw [hf, ha]
    split
    · next g x h1 _ =>
      injection h1 with h1
      injection h1 with h1
      subst h1
      rw [hi]; rfl
    · rfl
  have e2 : op1 E ih ⟨none, false⟩ ⟨some d, .call ⟨.value f, args, tys⟩, ty, pos, af, g⟩ ⟨Fr n l, hp⟩ = some ⟨Fr n ((d, er b) :: l), hp⟩ := by
    unfold op1
    simp only [evOpQ, evOpN, evOpW, e1, hf, ha, callA, hX, List.nil_append, List.append_nil, callX2_told' hv hok hF, Option.map_some, putA_Fr]
  unfold opsA
  rw [hw]
  simp only [e2]
  rfl
theorem opd_call {d : Nat} {f : Operand} {args : Array Operand} {tys : Array TypeId} {ty : TypeId} {pos : String} {af : Array Edge} {g : Option (Nat × Bool)} {fid : FuncId} (hw : wantedA ops (Fr n l) ⟨some d, .call ⟨.value f, args, tys⟩, ty, pos, af, g⟩ = some true)
    (hf : opA E (Fr n l) f = some (.fn fid [] [])) (hX : E.X fid = some (told s F er)) (ha : opds (opA E (Fr n l)) args.toList = some xs) (hv : Sns hp s xs a) (hfl : flatTp (er b) = true) (hF : F a = some b) : opsD E ih cx ops n0 [⟨some d, .call ⟨.value f, args, tys⟩, ty, pos, af, g⟩] ⟨Fr n l, hp⟩ = some ⟨Fr n ((d, er b) :: l), hp⟩ := by
  obtain ⟨ys, hv, hd⟩ := hv
  have e2 : callP E ih (.fn fid [] []) xs hp = some (er b, hp) := by
    simp only [callP, hv, hX, told_dec hd hF, hfl, if_true]
  unfold opsD
  simp only [isW, hw, evOpQ, evOpN, hf, ha, e2, putA_Fr, Bool.false_eq_true, if_false]
  rfl
end
end Go.Proofs.YthofgamegondnaaDoor

namespace Go.Proofs.YthofgamegondnaaDoor
open Go.RowKit

def BkUp (ι : List Nat) (o o' : Option Blk) : Prop := o' = none ∨ (o = o' ∧ ∀ B, o' = some B → ∀ x ∈ B.es, noRf2 x = true) ∨ ∃ k t fz es es', o = some ⟨k, t, es, fz⟩ ∧ o' = some ⟨k, t, es', fz⟩ ∧ es = es'.map (up ι) ∧ ∀ x ∈ es', flat2 x = true
def HpUp (ι : List Nat) (h : Hp) : List Nat → Hp → Prop
  | [], [] => True
  | b :: bs, o' :: r => (∃ o, h[b]? = some o ∧ BkUp ι o o') ∧ HpUp ι h bs r
  | _, _ => False
theorem HpUp.at_ {ι : List Nat} {h : Hp} : ∀ {bs : List Nat} {h' : Hp}, HpUp ι h bs h' → h'.length = bs.length ∧ ∀ (j : Nat) (B : Blk), h'[j]? = some (some B) → ∃ b, bs[j]? = some b ∧ h[b]? = some (some { B with es := B.es.map (up ι) }) ∧ ∀ x ∈ B.es, flat2 x = true
  | [], [], _ => ⟨rfl, fun j B hB => by simp at hB⟩
  | b :: bs, o' :: r, ⟨⟨o, h1, h2⟩, h3⟩ => by
    obtain ⟨k1, k2⟩ := h3.at_
    refine ⟨by simp [k1], fun j B hB => ?_⟩
    cases j with
    | zero =>
      simp at hB
      subst hB
      refine ⟨b, rfl, ?_⟩
      rcases h2 with h2 | ⟨rfl, h2⟩ | ⟨k, t, fz, es, es', rfl, h2, rfl, h4⟩
      · cases h2
      · have hx := h2 B rfl
        have hes : B.es.map (up ι) = B.es := by
          conv => rhs; rw [← List.map_id B.es]
          exact List.map_congr_left fun c hc => (up_noRf2 (hx c hc)).1
        exact ⟨by rw [hes]; exact h1, fun x hx' => (up_noRf2 (ι := ι) (hx x hx')).2⟩
      · have h2 := Option.some.inj h2
        subst h2
        exact ⟨h1, h4⟩
    | succ j => simpa using k2 j B (by simpa using hB)
  | [], _ :: _, h => h.elim
  | _ :: _, [], h => h.elim
/-- Only the blocks of ι stay, under new numbers. -/
theorem Wk.sel2 {E : Env} {n : Nat} {l l' : List (Nat × AV)} {h h' : Hp} (ι : List Nat) (hlt : (ι.all fun b => Nat.blt b h.length) = true) (hnd : ndB ι = true) (hbig : Nat.ble h.length 1000000000 = true) (hk : HpUp ι h ι h') (hl : LkUp ι l l') : Wk E ⟨Fr n l, h⟩ ⟨Fr n l', h'⟩ := by
  obtain ⟨k1, k2⟩ := hk.at_
  exact Wk.ren ι ⟨k1, fun i hi => Nat.le_of_ble_eq_true (List.all_eq_true.1 hlt i hi), ndB_inj hnd, k2, Nat.le_of_ble_eq_true hbig⟩ hl.at_
theorem bu_none {ι : List Nat} {o : Option Blk} : BkUp ι o none := .inl rfl
theorem bu_mk {ι : List Nat} {α : Type} {c : Cd α} {k : Nat} {t : TypeId} {xs : List α} : BkUp ι (mk k t (xs.map c.enc)) (mk k t (xs.map c.enc)) := .inr (.inl ⟨rfl, mk_ok enc_ok⟩)
theorem bu_own {ι : List Nat} {α : Type} {c : Cd α} {k : Nat} {t : TypeId} {fz : Bool} {xs : List α} : BkUp ι (some ⟨k, t, xs.map c.enc, fz⟩) (some ⟨k, t, xs.map c.enc, fz⟩) := .inr (.inl ⟨rfl, fun B hB => by injection hB with hB; subst hB; exact enc_ok⟩)
theorem bu_c {ι : List Nat} {k : Nat} {t : TypeId} {fz : Bool} {es es' : List AV} (h : es = es'.map (up ι)) (hf : es'.all flat2 = true) : BkUp ι (some ⟨k, t, es, fz⟩) (some ⟨k, t, es', fz⟩) := .inr (.inr ⟨k, t, fz, es, es', rfl, rfl, h, List.all_eq_true.1 hf⟩)
theorem lu {ι : List Nat} {l : List (Nat × AV)} {t : Nat} {x : AV} (h : lk l t = some (up ι x)) (hf : flat2 x = true) : lk l t = some (up ι x) ∧ flat2 x = true := ⟨h, hf⟩
theorem lu_hd {ι : List Nat} {l : List (Nat × AV)} {t b b' : Nat} {es : List AV} (h : lk l t = some (hd b' es)) (hb : ι.getD b 1000000000 = b') : lk l t = some (up ι (hd b es)) ∧ flat2 (hd b es) = true := ⟨by rw [h, (up_hd (ι := ι) (b := b)).1, hb], (up_hd (ι := ι) (b := b)).2⟩

theorem lu_rl {ι : List Nat} {l : List (Nat × AV)} {t b b' n n' : Nat} (h : lk l t = some (.rf b' 0 n n)) (hn : n = n') (hb : ι.getD b 1000000000 = b') : lk l t = some (up ι (.rf b 0 n' n')) ∧ flat2 (.rf b 0 n' n') = true := by
  subst hn
  exact ⟨by rw [h]; show _ = some (AV.rf (ι.getD b 1000000000) 0 n n); rw [hb], rfl⟩
theorem fz_rlT {α : Type} {c : Cd α} {xs : List α} {h : Hp} {b k : Nat} {t : TypeId} (hb : h[b]? = some (some ⟨k, t, xs.map c.enc, false⟩)) : Fr1 h b (.rf b 0 xs.length xs.length) (.sl k (xs.map c.enc)) := by
  have := fz_rl hb enc_ok
  rwa [List.length_map] at this
theorem fz_rfT {α : Type} {c : Cd α} {xs : List α} {h : Hp} {b k n m : Nat} {t : TypeId} (hb : h[b]? = some (some ⟨k, t, xs.map c.enc, false⟩)) (hn : n ≤ xs.length) : Fr1 h b (.rf b 0 n m) (.sl k ((xs.take n).map c.enc)) := by
  have := fz_rf (m := m) hb enc_ok (n := n) (by rw [List.length_map]; exact hn)
  rwa [← List.map_take] at this
/-- Closed facts of types, as one check. -/
def apB (P : Program) (t el : TypeId) (k bytes : Nat) : Bool :=
  match tyElem P t, P.info? el, tyZero P el with
  | some e, some i, some z => Nat.beq e el && Nat.beq i.size k && Nat.blt 0 k && Nat.beq z.nc k && z.notTp && Nat.beq i.bytes bytes
  | _, _, _ => false
theorem apB_inv {P : Program} {t el : TypeId} {k bytes : Nat} (h : apB P t el k bytes = true) : ∃ i z, tyElem P t = some el ∧ P.info? el = some i ∧ tyZero P el = some z ∧ i.size = k ∧ 0 < k ∧ z.nc = k ∧ z.notTp = true ∧ i.bytes = bytes := by
  unfold apB at h
  split at h
  · next e i z h1 h2 h3 =>
    simp only [Bool.and_eq_true] at h
    obtain ⟨⟨⟨⟨⟨a1, a2⟩, a3⟩, a4⟩, a5⟩, a6⟩ := h
    exact ⟨i, z, by rw [h1, Nat.eq_of_beq_eq_true a1], h2, h3, Nat.eq_of_beq_eq_true a2, Nat.le_of_ble_eq_true a3, Nat.eq_of_beq_eq_true a4, a5, Nat.eq_of_beq_eq_true a6⟩
  · cases h
theorem append_B {α : Type} {c : Cd α} {xs vs : List α} {P : Program} {h : Hp} {t t2 el : TypeId} {k b bytes : Nat} {y : AV} (ha : apB P t el k bytes = true) (hs : srcOk P t2 y = true)
    (he : elems h k y = some (vs.map c.enc)) (hy : vs ≠ []) (hb : h[b]? = some (mk k el (xs.map c.enc))) (hc : capOk bytes (xs.length + vs.length) = true) :
    evAppend P h t t2 (hd b (xs.map c.enc)) y = some (hd h.length ((xs ++ vs).map c.enc), h.set b none ++ [mk k el ((xs ++ vs).map c.enc)]) := by
  obtain ⟨i, z, a1, a2, a3, a4, a5, a6, a7, a8⟩ := apB_inv ha
  exact append_T hs a1 a2 a3 a4 (Nat.ble_eq_true_of_le a5) a6 a7 he hy hb a8 hc
/-- .. to nothing. -/
theorem append_E {α : Type} {c : Cd α} {vs : List α} {P : Program} {h : Hp} {t t2 el : TypeId} {k bytes : Nat} {y : AV} (ha : apB P t el k bytes = true) (hs : srcOk P t2 y = true)
    (he : elems h k y = some (vs.map c.enc)) (hy : vs ≠ []) (hc : capOk bytes vs.length = true) :
    evAppend P h t t2 .e0 y = some (hd h.length (vs.map c.enc), h ++ [mk k el (vs.map c.enc)]) := by
  obtain ⟨i, z, a1, a2, a3, a4, a5, a6, a7, a8⟩ := apB_inv ha
  obtain ⟨c1, c2⟩ := capOk_inv hc
  obtain ⟨q, vs', rfl⟩ : ∃ q ys', vs = q :: ys' := by cases vs with | nil => exact absurd rfl hy | cons q ys' => exact ⟨q, ys', rfl⟩
  unfold evAppend
  rw [if_neg (by rw [hs]; simp), a1]
  simp only [a2, a3, a4, he, List.map_cons, List.isEmpty_cons, Bool.false_eq_true, if_false]
  rw [if_pos ⟨a5, a6, a7⟩, if_pos ⟨by rw [a8]; simpa using c1, by simpa using c2⟩]
  rfl
/-- .. to a whole block of its own. -/
theorem append_R {α : Type} {c : Cd α} {xs vs : List α} {P : Program} {h : Hp} {t t2 el : TypeId} {k b bytes : Nat} {y : AV} (ha : apB P t el k bytes = true) (hs : srcOk P t2 y = true)
    (he : elems h k y = some (vs.map c.enc)) (hy : vs ≠ []) (hb : h[b]? = some (some ⟨k, el, xs.map c.enc, false⟩)) (hc : capOk bytes (xs.length + vs.length) = true) :
    evAppend P h t t2 (.rf b 0 xs.length xs.length) y = some (.rf h.length 0 (xs ++ vs).length (xs ++ vs).length, h.set b none ++ [some ⟨k, el, (xs ++ vs).map c.enc, false⟩]) := by
  obtain ⟨i, z, a1, a2, a3, a4, a5, a6, a7, a8⟩ := apB_inv ha
  obtain ⟨c1, c2⟩ := capOk_inv hc
  obtain ⟨q, vs', rfl⟩ : ∃ q ys', vs = q :: ys' := by cases vs with | nil => exact absurd rfl hy | cons q ys' => exact ⟨q, ys', rfl⟩
  unfold evAppend
  rw [if_neg (by rw [hs]; simp), a1]
  simp only [a2, a3, a4, he, List.map_cons, List.isEmpty_cons, Bool.false_eq_true, if_false]
  rw [if_pos ⟨a5, a6, a7⟩]
  simp only [hb]
  rw [if_neg (by simp)]
  rw [if_neg (by simp)]
  rw [if_pos ⟨trivial, by simp, by rw [a8]; simpa using c1, by simpa using c2⟩]
  simp
def miB (P : Program) (t el : TypeId) (k bytes : Nat) : Bool := apB P t el k bytes
theorem make_B {P : Program} {h : Hp} {α : Type} {c : Cd α} {t el : TypeId} {k bytes : Nat} {n : Int} {kn kc : IntKind} {z : α} (ha : apB P t el k bytes = true) (hz : tyZero P el = some (c.enc z)) (hc : mkOk bytes n = true) :
    evMake P h t (.v (.int kn n)) (.v (.int kc n)) = some (.rf h.length 0 (List.replicate n.toNat z).length (List.replicate n.toNat z).length, h ++ [some ⟨k, el, (List.replicate n.toNat z).map c.enc, false⟩]) := by
  obtain ⟨i, z', a1, a2, a3, a4, a5, a6, a7, a8⟩ := apB_inv ha
  rw [hz] at a3
  injection a3 with a3
  subst a3
  exact mk_T a1 a2 hz a4 a6 a7 a8 hc
theorem len_hd' {P : Program} {α : Type} {e : α → AV} {xs : List α} {t el : TypeId} {b : Nat} (hu : P.underlying t = some (.slice el)) : evLen P t (hd b (xs.map e)) = some (eI xs.length) := by
  rw [len_hd hu, List.length_map]
/-- Elements of an own slice. -/
theorem elems_hd {h : Hp} {k b : Nat} {t : TypeId} {es : List AV} (hb : h[b]? = some (mk k t es)) : elems h k (hd b es) = some es := by
  cases es with
  | nil => rfl
  | cons x es => simp [elems, hd, hb, mk]
theorem elems_sl {h : Hp} {k : Nat} {es : List AV} : elems h k (.sl k es) = some es := by simp [elems]
theorem elems_rl {h : Hp} {k b : Nat} {t : TypeId} {α : Type} {e : α → AV} {xs : List α} (hb : h[b]? = some (some ⟨k, t, xs.map e, false⟩)) : elems h k (.rf b 0 xs.length xs.length) = some (xs.map e) := by
  simp only [elems, hb, List.length_map]
  rw [if_pos ⟨trivial, by simp⟩, List.drop_zero, List.take_of_length_le (by simp)]
/-- Cuts. -/
def cutOk (lo hi : Int) (n : Nat) : Bool := decide (0 ≤ lo) && decide (lo ≤ hi) && decide (hi ≤ n)
theorem cutOk_inv {lo hi : Int} {n : Nat} (h : cutOk lo hi n = true) : 0 ≤ lo ∧ 0 ≤ hi ∧ lo.toNat ≤ hi.toNat ∧ hi.toNat ≤ n := by
  simp only [cutOk, Bool.and_eq_true, decide_eq_true_eq] at h
  omega
theorem slice_sl {P : Program} {h : Hp} {α : Type} {e : α → AV} {xs : List α} {t el : TypeId} {k : Nat} {lo hi : Int} {a b : Option AV} (hu : P.underlying t = some (.slice el)) (hs : tySize P el = some k) (ha : natB a 0 = some lo.toNat) (hb : natB b xs.length = some hi.toNat) (hc : cutOk lo hi xs.length = true) :
    evSlice P h t (.sl k (xs.map e)) a b none = some (.sl k (((xs.take hi.toNat).drop lo.toNat).map e)) := by
  obtain ⟨_, _, h1, h2⟩ := cutOk_inv hc
  unfold evSlice
  simp only [hu, List.length_map, ha, hb]
  rw [show natB none xs.length = some xs.length from rfl]
  simp only
  rw [if_pos ⟨h1, h2, Nat.le_refl _, .inl rfl, hs⟩]
  simp
theorem slice_st {P : Program} {h : Hp} {bs : List UInt8} {t : TypeId} {lo hi : Int} {a b : Option AV} (hu : P.underlying t = some .string) (ha : natB a 0 = some lo.toNat) (hb : natB b bs.length = some hi.toNat) (hc : cutOk lo hi bs.length = true) :
    evSlice P h t (.st bs) a b none = some (.st ((bs.take hi.toNat).drop lo.toNat)) := by
  obtain ⟨_, _, h1, h2⟩ := cutOk_inv hc
  unfold evSlice
  simp only [hu, ha, hb]
  rw [if_pos ⟨h1, h2⟩]
theorem natB_i {k : IntKind} {n : Int} {d : Nat} (h : 0 ≤ n) : natB (some (.v (.int k n))) d = some n.toNat := by
  simp only [natB]; rw [if_neg (by omega)]
theorem natB_len {n : Nat} : natB none n = some (n : Int).toNat := rfl
/-- The beginning of a whole block of its own. -/
theorem slice_rl {P : Program} {h : Hp} {α : Type} {e : α → AV} {xs : List α} {t t' el : TypeId} {b k : Nat} {hi : Int} {ki : IntKind} (hu : P.underlying t = some (.slice el)) (hs : tySize P el = some k) (hb : h[b]? = some (some ⟨k, t', xs.map e, false⟩)) (hc : cutOk 0 hi xs.length = true) (h0 : xs ≠ []) :
    evSlice P h t (.rf b 0 xs.length xs.length) none (some (.v (.int ki hi))) none = some (.rf b 0 hi.toNat xs.length) := by
  obtain ⟨_, h2, _, h3⟩ := cutOk_inv hc
  have hp : 0 < xs.length := List.length_pos_iff.2 h0
  unfold evSlice
  simp only [hu, hb, natB_i h2]
  rw [show natB none xs.length = some xs.length from rfl, show natB none 0 = some 0 from rfl]
  simp only
  rw [if_pos ⟨Nat.zero_le _, h3, Nat.le_refl _, .inl rfl, hs⟩, if_pos hp]
  simp
theorem cut_lo {lo hi : Int} {n : Nat} (h : cutOk lo hi n = true) : 0 ≤ lo := (cutOk_inv h).1
theorem cut_hi {lo hi : Int} {n : Nat} (h : cutOk lo hi n = true) : 0 ≤ hi := (cutOk_inv h).2.1
theorem q_slice {P : Program} {h : Hp} {ρ : Operand → Option AV} {t : TypeId} {x : Operand} {lo hi mx : Option Operand} {a r : AV} {l u m : Option AV} (hx : ρ x = some a) (hl : opdo ρ lo = some l) (hh : opdo ρ hi = some u) (hm : opdo ρ mx = some m) (he : evSlice P h t a l u m = some r) : evOpQ P ρ h (.slice t x lo hi mx) = some r := by
  show (match ρ x, opdo ρ lo, opdo ρ hi, opdo ρ mx with | some x, some lo, some hi, some mx => evSlice P h t x lo hi mx | _, _, _, _ => none) = some r
  rw [hx, hl, hh, hm]; exact he
/-- A byte of a string. -/
theorem q_index {P : Program} {h : Hp} {ρ : Operand → Option AV} {t : TypeId} {x i : Operand} {a b r : AV} (hx : ρ x = some a) (hi : ρ i = some b) (he : evIndex P t a b = some r) : evOpQ P ρ h (.index t x i) = some r := by
  show (match ρ x, ρ i with | some x, some i => evIndex P t x i | _, _ => none) = some r
  rw [hx, hi]; exact he
theorem index_st {P : Program} {bs : List UInt8} {t : TypeId} {ki : IntKind} {i : Int} {v : UInt8} (hu : P.underlying t = some .string) (hv : idx bs i = some v) : evIndex P t (.st bs) (.v (.int ki i)) = some (.v (.int .u8 v.toNat)) := by
  obtain ⟨h0, h1⟩ := idx_at hv
  unfold evIndex
  simp only [intOfA]
  rw [if_neg (by omega)]
  simp only [hu, h1, Option.map_some]
theorem cat_st {a b : List UInt8} (h : okB (a ++ b) = true) : evBin .add (.st a) (.st b) = some (.st (a ++ b)) := by
  simp [evBin, strBin, h]
section
variable {E : Env} {ops : Array Oper} {rest rest' : List Oper} {K : St → Prop} {n n0 k : Nat} {l : List (Nat × AV)} {hp hp' : Hp} {α β : Type} {s : Cs α} {F : α → Option β} {er : β → AV} {a : α} {b : β} {xs : List AV}
theorem RunS.call (hE : EnvOk E) {d : Nat} {f : Operand} {args : Array Operand} {tys : Array TypeId} {ty : TypeId} {pos : String} {af : Array Edge} {g : Option (Nat × Bool)} {fid : FuncId} (hr : rest = ⟨some d, .call ⟨.value f, args, tys⟩, ty, pos, af, g⟩ :: rest') (hw : wantedA ops (Fr n l) ⟨some d, .call ⟨.value f, args, tys⟩, ty, pos, af, g⟩ = some true)
    (hf : opA E (Fr n l) f = some (.fn fid [] [])) (hi : E.I fid = false) (hX : E.X fid = some (told s F er)) (ha : opds (opA E (Fr n l)) args.toList = some xs) (hv : Sns hp s xs a) (hok : xs.all noRf2 = true ∨ flatTp (er b) = true) (hF : F a = some b) (k : RunS E ops rest' ⟨Fr n ((d, er b) :: l), hp⟩ K) : RunS E ops rest ⟨Fr n l, hp⟩ K :=
  RunS.one hE 0 hr (op_call hw hf hi hX ha hv hok hF) k
theorem RunDS.call (hE : EnvOk E) {d : Nat} {f : Operand} {args : Array Operand} {tys : Array TypeId} {ty : TypeId} {pos : String} {af : Array Edge} {g : Option (Nat × Bool)} {fid : FuncId} (hr : rest = ⟨some d, .call ⟨.value f, args, tys⟩, ty, pos, af, g⟩ :: rest') (hw : wantedA ops (Fr n l) ⟨some d, .call ⟨.value f, args, tys⟩, ty, pos, af, g⟩ = some true)
    (hf : opA E (Fr n l) f = some (.fn fid [] [])) (hX : E.X fid = some (told s F er)) (ha : opds (opA E (Fr n l)) args.toList = some xs) (hv : Sns hp s xs a) (hfl : flatTp (er b) = true) (hF : F a = some b) (kk : RunDS E ops n0 (k + 1) rest' ⟨Fr n ((d, er b) :: l), hp⟩ K) : RunDS E ops n0 k rest ⟨Fr n l, hp⟩ K :=
  RunDS.one hE hr rfl (opd_call hw hf hX ha hv hfl hF) kk
theorem RunS.store (hE : EnvOk E) {t : TypeId} {p q : Operand} {y z : AV} {ty : TypeId} {pos : String} {af : Array Edge} {g : Option (Nat × Bool)} (hr : rest = ⟨none, .store t p q, ty, pos, af, g⟩ :: rest') (hw : wantedA ops (Fr n l) ⟨none, .store t p q, ty, pos, af, g⟩ = some true) (hp1 : opA E (Fr n l) p = some y) (hq1 : opA E (Fr n l) q = some z) (h : evStore E.P hp t y z = some hp') (k : RunS E ops rest' ⟨Fr n l, hp'⟩ K) : RunS E ops rest ⟨Fr n l, hp⟩ K :=
  RunS.one hE 0 hr (op_st hw hp1 hq1 h) k
/-- Slots that are wanted further on; the others are forgotten. -/
def getAll (fr : List (Option AV)) : List (Nat × AV) → List (Option (Option AV))
  | [] => []
  | (t, _) :: r => fr[t]? :: getAll fr r
def xs2 : List (Nat × AV) → List (Option (Option AV))
  | [] => []
  | (_, x) :: r => some (some x) :: xs2 r
theorem getAll_lk {fr : List (Option AV)} : ∀ {l : List (Nat × AV)}, getAll fr l = xs2 l → ∀ {t : Nat} {x : AV}, lk l t = some x → fr[t]? = some (some x)
  | [], _, t, x, h => by cases h
  | (k, y) :: r, hg, t, x, h => by
    injection hg with h1 h2
    rw [lk_put] at h
    split at h
    · next e => injection h with h; subst e h; exact h1
    · exact getAll_lk h2 h
theorem SR.forget {base : Nat} {w : World} {Z : Nat → Prop} {R : List RI} {a : Act} {fr : List (Option AV)} (sr : SR E base w Z R ⟨fr, hp⟩ a) (hl : fr.length = n) (hg : getAll fr l = xs2 l) : SR E base w Z R ⟨Fr n l, hp⟩ a := by
  refine ⟨sr.hh, ⟨?_, fun t x hx => sr.fr.2 t x ?_⟩, sr.mks, sr.gl, sr.bs⟩
  · rw [Fr_len, ← hl]; exact sr.fr.1
  · rw [Fr_get] at hx
    split at hx
    · injection hx with hx; exact getAll_lk hg hx
    · cases hx
def segB (o : Option St) (l : List (Nat × AV)) : Option (Nat × List (Option (Option AV)) × Hp) := match o with
  | some s => some (s.fr.length, getAll s.fr l, s.hp)
  | none => none
theorem segB_inv {o : Option St} (h : segB o l = some (n, xs2 l, hp)) : ∃ fr, o = some ⟨fr, hp⟩ ∧ fr.length = n ∧ getAll fr l = xs2 l := by
  unfold segB at h
  split at h
  · next s =>
    injection h with h
    injection h with h1 h2
    injection h2 with h2 h3
    subst h3
    exact ⟨s.fr, rfl, h1, h2⟩
  · cases h
theorem RunS.segF (hE : EnvOk E) (m : Nat) {s : St} (l : List (Nat × AV)) (hp : Hp) (h : segB (opsA E (evC E 0) ⟨none, false⟩ ops (rest.take m) s) l = some (n, xs2 l, hp)) (k : RunS E ops (rest.drop m) ⟨Fr n l, hp⟩ K) : RunS E ops rest s K := by
  obtain ⟨fr, h1, h2, h3⟩ := segB_inv h
  refine RunS.seg hE m h1 ?_
  exact fun base Q a w Z R sr q => k base Q a w Z R (sr.forget h2 h3) q
theorem RunDS.segF (hE : EnvOk E) (m : Nat) {s : St} (l : List (Nat × AV)) (hp : Hp) (hw : ((rest.take m).all fun o => !isW o.op) = true) (h : segB (opsD E (evC E 0) ⟨none, false⟩ ops n0 (rest.take m) s) l = some (n, xs2 l, hp)) (kk : RunDS E ops n0 (k + (rest.take m).length) (rest.drop m) ⟨Fr n l, hp⟩ K) : RunDS E ops n0 k rest s K := by
  obtain ⟨fr, h1, h2, h3⟩ := segB_inv h
  refine RunDS.seg hE m hw h1 ?_
  exact fun base Q w0 Z R0 h0 a w R a1 a2 a3 sr a5 a6 a7 a8 a9 a10 q => kk base Q w0 Z R0 h0 a w R a1 a2 a3 (sr.forget h2 h3) a5 a6 a7 a8 a9 a10 q
/-- Is a slice nil? If it is, it is empty. -/
theorem RunS.isnil {d k el : Nat} {t t' : TypeId} {x : Operand} {es : List AV} {ty : TypeId} {pos : String} {af : Array Edge} {g : Option (Nat × Bool)} (hr : rest = ⟨some d, .binOp .eql t x (.const (.slice none 0 0)) t', ty, pos, af, g⟩ :: rest') (hw : wantedA ops (Fr n l) ⟨some d, .binOp .eql t x (.const (.slice none 0 0)) t', ty, pos, af, g⟩ = some true)
    (hx : opA E (Fr n l) x = some (.sl k es)) (hu : E.P.underlying t = some (.slice el)) (kk : ∀ b : Bool, (b = true → es = []) → RunS E ops rest' ⟨Fr n ((d, .v (.bool b)) :: l), hp⟩ K) : RunS E ops rest ⟨Fr n l, hp⟩ K := by
  subst hr
  intro base Q a w Z R sr q
  have hv := opA_vr sr x _ hx
  generalize hva : a.eval x = va at hv
  cases hv with
  | sl hn hl hc hm ha hxs =>
    rename_i c m A us
    have hrun : (execOp a.eval ⟨some d, .binOp .eql t x (.const (.slice none 0 0)) t', ty, pos, af, g⟩).run E.P w = .ok (.value (.bool A.isNone)) w := by
      have h1 : ∀ d w', (Op.equalIn (d + 1) t (.slice A m c) (.slice none 0 0)).run E.P w' = .ok A.isNone w' := fun d w' => by
        cases A <;> simp [Op.equalIn, run_underlying hu]
      have h2 : (Op.equal t (.slice A m c) (.slice none 0 0)).run E.P w = .ok A.isNone w := h1 9999 w
      have h3 : a.eval (.const (.slice none 0 0)) = .slice none 0 0 := rfl
      simp [execOp, hva, h3, eqGuard, binOp, h2]
    unfold LwL
    rw [if_pos (wantedA_eq sr hw)]
    unfold Lw
    rw [hrun]
    have hb : A.isNone = true → es = [] := fun h => by
      cases A with
      | some ad => cases h
      | none =>
        rcases Nat.eq_zero_or_pos m with h0 | h0
        · subst h0; exact List.eq_nil_of_length_eq_zero hn
        · obtain ⟨ad, h1, _⟩ := ha h0; cases h1
    have sr' := sr.put (d := some d) (x := .v (.bool A.isNone)) (u := .bool A.isNone) (.v rfl)
    have e1 : putA (Fr n l) (some d) (.v (.bool A.isNone)) = Fr n ((d, .v (.bool A.isNone)) :: l) := putA_Fr n l d _
    rw [show (⟨putA (⟨Fr n l, hp⟩ : St).fr (some d) (.v (.bool A.isNone)), (⟨Fr n l, hp⟩ : St).hp⟩ : St) = ⟨Fr n ((d, .v (.bool A.isNone)) :: l), hp⟩ by rw [← e1]] at sr'
    exact kk A.isNone hb base Q _ w Z R sr' q
end
section
variable {E : Env} {cx : Cx} {c : Code} {s s1 : St} {Q P : Ex → St → Prop}
theorem Sem.runQ {id : Nat} {ops : Array Oper} (h : RunS E ops ops.toList s fun s' => Q .normal s') : Sem E cx (.region id ops false) s Q := by
  intro ro base Qm a w Z R _ h2 _ kk
  exact wpIn_region_list (lwl_list ro (h base _ a w Z R h2 fun s' a' w' Z' R' hq sr st => kk .normal s' a' w' Z' R' hq sr st))
theorem Sem.part (h : Sem E cx c s P) (k : ∀ e s', P e s' → ∃ s2, Wk E s' s2 ∧ Q e s2) : Sem E cx c s Q := Sem.wkQ (Sem.mono h k)
end
end Go.Proofs.YthofgamegondnaaDoor

namespace Go.Proofs.YthofgamegondnaaDoor
open Go.RowKit Go.ChangeShapes Go.WideShapes Go.Deep

def good64 (n : Int) : Prop := -9223372036854775808 ≤ n ∧ n ≤ 9223372036854775807
/-- What a reading of a cell says. -/
structure Rg {α : Type} (P : Program) (c : Cd α) (t : TypeId) (good : α → Prop) : Prop where
  rd : ∀ {H : Type} {enc : TypeId × Value → H} {w : World} {base : Nat} {spare : Nat → Bool} {held : Bool} {fuel : Nat} {v : Value} {x : DataW H × List MemPlace}, DataW.trod enc P w base spare held fuel t [v] = some x → (DataW.weights P t x.1).all (· ≤ reachBytes) = true → ∃ a, VR w (fun c => c < w.heap.size) [] (c.enc a) v ∧ good a ∧ v.oneCell' = true
theorem rd_int {P : Program} {t : TypeId} {k : IntKind} (ht : P.underlying t = some (.int k)) : Rg P (cdK k) t (fun n => (Lit.int k n).wf = true) := ⟨fun h _ => by
  obtain ⟨n, h1, _, h3⟩ := DataW.trod_int ht h
  injection h1 with h1
  subst h1
  exact ⟨n, .v rfl, h3, rfl⟩⟩
theorem rd_int64 {P : Program} {t : TypeId} (ht : P.underlying t = some (.int .i64)) : Rg P cdI t good64 := ⟨fun h hw => by
  obtain ⟨a, h1, h2, h3⟩ := (rd_int ht).rd h hw
  exact ⟨a, h1, bounds_i64 h2, h3⟩⟩
theorem oneCell_cells {v : Value} (h : v.oneCell' = true) : v.cells = #[v] := by cases v <;> first | rfl | (simp [Value.oneCell'] at h)
theorem spot_none {w : World} {a : Addr} {v : Value} (h : w.cell? (a.add 0) = some v) : a.spot = none := by
  cases hs : a.spot with
  | none => rfl
  | some s =>
    exfalso
    rw [show a.add 0 = a from rfl] at h
    unfold World.cell? at h
    split at h
    · rw [if_pos (by rw [hs]; rfl)] at h; cases h
    · cases h
theorem list_of {α : Type} {p : Nat → α → Prop} : ∀ {n : Nat}, (∀ i, i < n → ∃ a, p i a) → ∃ xs : List α, xs.length = n ∧ ∀ i a, xs[i]? = some a → p i a
  | 0, _ => ⟨[], rfl, fun i a h => by simp at h⟩
  | n + 1, h => by
    obtain ⟨xs, h1, h2⟩ := list_of (n := n) fun i hi => h i (by omega)
    obtain ⟨a, ha⟩ := h n (by omega)
    refine ⟨xs ++ [a], by simp [h1], fun i b hb => ?_⟩
    rcases (getElem?_snoc _ _ _ _).1 hb with hb | ⟨rfl, rfl⟩
    · exact h2 i b hb
    · rw [h1]; exact ha
theorem weights_mem {H : Type} {P : Program} {e : TypeId} : ∀ {l : List (DataW H)} {d : DataW H}, d ∈ l → ∀ n ∈ DataW.weights P e d, n ∈ DataW.weightsAll P e l
  | a :: l, d, h, n, hn => by
    unfold DataW.weightsAll
    rcases List.mem_cons.1 h with rfl | h
    · exact List.mem_append_left _ hn
    · exact List.mem_append_right _ (weights_mem h n hn)
theorem rd_slice {α : Type} {P : Program} {c : Cd α} {t e : TypeId} {good : α → Prop} (ht : P.underlying t = some (.slice e)) (hc : P.cellsOf e = 1) (hb : Nat.blt 0 (P.bytesOf e) = true) (r : Rg P c e good) : Rg P (cdL 1 c) t (fun xs => xs.length ≤ 140737488355328 ∧ ∀ a ∈ xs, good a) := ⟨fun {H enc w base spare held fuel v x} h hw => by
  rcases open_slice1 ht hc h with ⟨h0, _⟩ | ⟨a, len, cap, m, n, V, D, Pl, h1, h2, h3, h4, h5, hx, h6⟩
  · injection h0 with h0
    subst h0
    exact ⟨[], .sl (us := []) rfl rfl (Nat.le_refl _) (by unfold maxLen; omega) (fun h => by omega) (fun i x u hx => by simp at hx), ⟨by simp, fun a ha => by cases ha⟩, rfl⟩
  · injection h1 with h1
    subst h1
    have hlm : len ≤ m := by rw [h5]; split <;> omega
    rw [hx] at hw
    simp only [DataW.weights, ht, List.all_cons, List.all_append, Bool.and_eq_true, decide_eq_true_eq] at hw
    obtain ⟨hw1, hw2, _⟩ := hw
    have hb' : 0 < P.bytesOf e := Nat.le_of_ble_eq_true hb
    have hlen : len ≤ 140737488355328 := by
      have h7 : (((List.range len).map D).length + ((List.range (m - len)).map fun j => D (len + j)).length) * 1 ≤ (((List.range len).map D).length + ((List.range (m - len)).map fun j => D (len + j)).length) * P.bytesOf e := Nat.mul_le_mul_left _ hb'
      have h8 : reachBytes = 140737488351232 := rfl
      simp only [List.length_map, List.length_range, Nat.mul_one] at h7 hw1
      omega
    have hwi : ∀ i, i < len → (DataW.weights P e (D i)).all (· ≤ reachBytes) = true := fun i hi => by
      rw [List.all_eq_true] at hw2 ⊢
      exact fun n hn => hw2 n (weights_mem (List.mem_map.2 ⟨i, by simpa using hi, rfl⟩) n hn)
    obtain ⟨A, hAl, hA⟩ := list_of (n := len) (p := fun i a => VR w (fun c => c < w.heap.size) [] (c.enc a) (V i) ∧ good a ∧ (V i).oneCell' = true) (fun i hi => r.rd (h6 i (by omega)).2 (hwi i hi))
    have hA' : ∀ i, i < len → ∃ a, A[i]? = some a ∧ VR w (fun c => c < w.heap.size) [] (c.enc a) (V i) ∧ good a ∧ (V i).oneCell' = true := fun i hi => ⟨A[i]'(by omega), List.getElem?_eq_getElem (by omega), hA i _ (List.getElem?_eq_getElem (by omega))⟩
    refine ⟨A, ?_, ⟨by rw [hAl]; exact hlen, fun q hq => ?_⟩, rfl⟩
    · refine .sl (us := (List.range len).map V) (by simp [hAl]) (by simp [hAl]) h3 h4 (fun h0 => ⟨a, rfl, spot_none (h6 0 (by omega)).1, ?_, fun i u hu => ?_⟩) (fun i x u hx hu => ?_)
      · have := (h6 0 (by omega)).1
        unfold World.cell? at this
        split at this
        · next hb => have := (Array.getElem?_eq_some_iff.1 hb).1; rw [show (a.add 0).block = a.block by unfold Addr.add; split <;> rfl] at this; exact this
        · cases this
      · rw [List.getElem?_map] at hu
        obtain ⟨j, hj, rfl⟩ := Option.map_eq_some_iff.1 hu
        obtain ⟨hj1, hj2⟩ := List.getElem?_eq_some_iff.1 hj
        simp at hj1 hj2
        subst hj2
        obtain ⟨_, _, _, _, ho⟩ := hA' i hj1
        rw [oneCell_cells ho]
        refine ⟨rfl, fun q hq => by simp at hq; subst hq; exact ho, fun j q hq => ?_⟩
        have hj0 : j = 0 := by
          have := (Array.getElem?_eq_some_iff.1 hq).1
          simp at this; exact this
        subst hj0
        simp at hq
        subst hq
        have hs := spot_none (h6 0 (by omega)).1
        have := (h6 i (by omega)).1
        obtain ⟨ab, ao, asp⟩ := a
        simp only at hs
        subst hs
        rw [addr_add] at this
        simpa using this
      · rw [List.getElem?_map] at hx hu
        obtain ⟨q, hq, rfl⟩ := Option.map_eq_some_iff.1 hx
        obtain ⟨j, hj, rfl⟩ := Option.map_eq_some_iff.1 hu
        obtain ⟨hj1, hj2⟩ := List.getElem?_eq_some_iff.1 hj
        simp at hj1 hj2
        subst hj2
        exact (hA i q hq).1
    · obtain ⟨i, hi⟩ := List.getElem?_of_mem hq
      exact (hA i q hi).2.1⟩
theorem rd_string {P : Program} {t : TypeId} (ht : P.underlying t = some .string) : Rg P cdS t (fun b => b.length ≤ 140737488355328) := ⟨fun h hw => by
  obtain ⟨s, h1, h2, h3⟩ := DataW.trod_string ht h
  injection h1 with h1
  subst h1
  rw [h2] at hw
  simp only [DataW.weights, List.all_cons, List.all_nil, Bool.and_true, decide_eq_true_eq] at hw
  have h8 : reachBytes = 140737488351232 := rfl
  exact ⟨s.data.toList, .st rfl (by simpa using h3), by omega, rfl⟩⟩
/-- An argument of one cell. -/
theorem rd_arg {α : Type} {H : Type} {enc : TypeId × Value → H} {P : Program} {c : Cd α} {t : TypeId} {good : α → Prop} (r : Rg P c t good) {w : World} {base : Nat} {spare : Nat → Bool} {held : Bool} {v : Value} {d : DataW H} {ps : List MemPlace} (ho : v.oneCell' = true) (h : DataW.Trod enc P w base spare held t v d ps)
    {ts : List TypeId} {ds : List (DataW H)} (hs : (DataW.weightsEach P ts ds).all (· ≤ reachBytes) = true) {j : Nat} (ht : ts[j]? = some t) (hd : ds[j]? = some d) : ∃ a, VR w (fun c => c < w.heap.size) [] (c.enc a) v ∧ good a := by
  obtain ⟨fuel, hf⟩ := h
  rw [oneCell_cells ho] at hf
  obtain ⟨a, h1, h2, _⟩ := r.rd hf (List.all_eq_true.2 fun n hn => List.all_eq_true.1 hs n (DataW.weights_mem_each ht hd n hn))
  exact ⟨a, h1, h2⟩
theorem one_slice {P : Program} {w : World} {r : Reach} {b : Nat} {t e : TypeId} {v : Value} (ht : P.underlying t = some (.slice e)) (h : Value.okWide P w r b t v) : v.oneCell' = true := by
  obtain ⟨a, n, c, rfl⟩ := okWide_slice ht h; rfl
theorem one_int {P : Program} {w : World} {r : Reach} {b : Nat} {t : TypeId} {k : IntKind} {v : Value} (ht : P.underlying t = some (.int k)) (h : Value.okWide P w r b t v) : v.oneCell' = true := by
  obtain ⟨a, rfl⟩ := okWide_int ht h; rfl
theorem one_string {P : Program} {w : World} {r : Reach} {b : Nat} {t : TypeId} {v : Value} (ht : P.underlying t = some .string) (h : Value.okWide P w r b t v) : v.oneCell' = true := by
  obtain ⟨a, rfl⟩ := okWide_string ht h; rfl
theorem one_bool {P : Program} {w : World} {r : Reach} {b : Nat} {t : TypeId} {v : Value} (ht : P.underlying t = some .bool) (h : Value.okWide P w r b t v) : v.oneCell' = true := by
  obtain ⟨a, rfl⟩ := okWide_bool ht h; rfl
end Go.Proofs.YthofgamegondnaaDoor

namespace Go.Proofs.YthofgamegondnaaDoor
open Go.ChangeShapes Go.WideShapes Go.ChangeAt Go.RowKit
def cellsOfData {H : Type} : DataW H → Array Value
  | .agg xs => (xs.map fun
    | .lit (.int k n) => Value.int k n
    | _ => .bool false).toArray
  | _ => #[]
def putCells (vs : Array Value) : Obj → Obj
  | .cells _ t frozen => .cells vs t frozen
  | o => o
noncomputable def laidWorld (os : Os) : World :=
  { World.holding Tryd.prog os ⟨#[], #[], []⟩ with heap := (((World.holding Tryd.prog os ⟨#[], #[], []⟩).heap.modify 0 (putCells (cellsOfData (Rows.laid_internal_strconv_uint64pow10 (H := Unit))))).modify 1 (putCells (cellsOfData (Rows.laid_math_bits_deBruijn32tab (H := Unit))))).modify 2 (putCells (cellsOfData (Rows.laid_math_bits_deBruijn64tab (H := Unit)))) }
theorem ownKnob0 : ownKnob Tryd.prog.godebug = none := by kernel_rfl
theorem laidOut : laidOutB Tryd.prog = true := by kernel_rfl
theorem mem_of_laid {x : TypeId} {l : List TypeId} (p : TypeId → Bool) (h : l.all p = true) (hx : x ∈ l) : p x = true := List.all_eq_true.1 h x hx
end Go.Proofs.YthofgamegondnaaDoor

namespace Go.Proofs.YthofgamegondnaaDoor
open Go.RowKit
noncomputable def fnT : Nat → Option Func
  | 2 => some Tryd.f2
  | 3 => some Tryd.f3
  | 4 => some Tryd.f4
  | 5 => some Tryd.f5
  | 6 => some Tryd.f6
  | 7 => some Tryd.f7
  | 8 => some Tryd.f8
  | 9 => some Tryd.f9
  | 10 => some Tryd.f10
  | 11 => some Tryd.f11
  | 12 => some Tryd.f12
  | 13 => some Tryd.f13
  | 14 => some Tryd.f14
  | 15 => some Tryd.f15
  | 16 => some Tryd.f16
  | 17 => some Tryd.f17
  | 18 => some Tryd.f18
  | 19 => some Tryd.f19
  | 20 => some Tryd.f20
  | 21 => some Tryd.f21
  | 22 => some Tryd.f22
  | 23 => some Tryd.f23
  | 24 => some Tryd.f24
  | 25 => some Tryd.f25
  | 26 => some Tryd.f26
  | 27 => some Tryd.f27
  | 28 => some Tryd.f28
  | 29 => some Tryd.f29
  | 30 => some Tryd.f30
  | 31 => some Tryd.f31
  | 32 => some Tryd.f32
  | 33 => some Tryd.f33
  | 34 => some Tryd.f34
  | 35 => some Tryd.f35
  | 36 => some Tryd.f36
  | 37 => some Tryd.f37
  | 38 => some Tryd.f38
  | 39 => some Tryd.f39
  | 40 => some Tryd.f40
  | 41 => some Tryd.f41
  | 42 => some Tryd.f42
  | 43 => some Tryd.f43
  | 44 => some Tryd.f44
  | 45 => some Tryd.f45
  | 46 => some Tryd.f46
  | 47 => some Tryd.f47
  | 48 => some Tryd.f48
  | 49 => some Tryd.f49
  | 50 => some Tryd.f50
  | 51 => some Tryd.f51
  | 52 => some Tryd.f52
  | 53 => some Tryd.f53
  | 54 => some Tryd.f54
  | 55 => some Tryd.f55
  | 56 => some Tryd.f56
  | 57 => some Tryd.f57
  | 58 => some Tryd.f58
  | 60 => some Tryd.f60
  | 61 => some Tryd.f61
  | 62 => some Tryd.f62
  | 63 => some Tryd.f63
  | 64 => some Tryd.f64
  | 65 => some Tryd.f65
  | 66 => some Tryd.f66
  | 67 => some Tryd.f67
  | 68 => some Tryd.f68
  | 69 => some Tryd.f69
  | 70 => some Tryd.f70
  | 71 => some Tryd.f71
  | 72 => some Tryd.f72
  | 73 => some Tryd.f73
  | 74 => some Tryd.f74
  | 75 => some Tryd.f75
  | 76 => some Tryd.f76
  | 77 => some Tryd.f77
  | 78 => some Tryd.f78
  | 79 => some Tryd.f79
  | 80 => some Tryd.f80
  | 81 => some Tryd.f81
  | 82 => some Tryd.f82
  | 83 => some Tryd.f83
  | 84 => some Tryd.f84
  | 85 => some Tryd.f85
  | 86 => some Tryd.f86
  | 87 => some Tryd.f87
  | 88 => some Tryd.f88
  | 89 => some Tryd.f89
  | 90 => some Tryd.f90
  | 91 => some Tryd.f91
  | 92 => some Tryd.f92
  | 93 => some Tryd.f93
  | 94 => some Tryd.f94
  | 95 => some Tryd.f95
  | 96 => some Tryd.f96
  | 97 => some Tryd.f97
  | 98 => some Tryd.f98
  | 99 => some Tryd.f99
  | 100 => some Tryd.f100
  | 101 => some Tryd.f101
  | 102 => some Tryd.f102
  | 103 => some Tryd.f103
  | 104 => some Tryd.f104
  | 105 => some Tryd.f105
  | 106 => some Tryd.f106
  | 107 => some Tryd.f107
  | 108 => some Tryd.f108
  | 109 => some Tryd.f109
  | 110 => some Tryd.f110
  | 111 => some Tryd.f111
  | 112 => some Tryd.f112
  | 113 => some Tryd.f113
  | 114 => some Tryd.f114
  | 115 => some Tryd.f115
  | 117 => some Tryd.f117
  | 118 => some Tryd.f118
  | 119 => some Tryd.f119
  | 120 => some Tryd.f120
  | 121 => some Tryd.f121
  | 123 => some Tryd.f123
  | 124 => some Tryd.f124
  | 125 => some Tryd.f125
  | 126 => some Tryd.f126
  | 127 => some Tryd.f127
  | 128 => some Tryd.f128
  | 129 => some Tryd.f129
  | 130 => some Tryd.f130
  | 153 => some Tryd.f153
  | _ => none
def idT : Nat → Bool
  | 116 => true
  | _ => false
noncomputable def E0 : Env := ⟨Tryd.prog, fnT, fun _ => none, fun _ => none, idT⟩
def bodyOk (fn : Func) : Bool := match fn.body with
  | some c => drawOk c
  | none => false
theorem bodyOk_inv {fn : Func} (h : bodyOk fn = true) : ∀ c, fn.body = some c → drawOk c = true := fun c hc => by unfold bodyOk at h; rw [hc] at h; exact h
theorem dk2 : bodyOk Tryd.f2 = true := by kernel_rfl
theorem dk3 : bodyOk Tryd.f3 = true := by kernel_rfl
theorem dk4 : bodyOk Tryd.f4 = true := by kernel_rfl
theorem dk5 : bodyOk Tryd.f5 = true := by kernel_rfl
theorem dk6 : bodyOk Tryd.f6 = true := by kernel_rfl
theorem dk7 : bodyOk Tryd.f7 = true := by kernel_rfl
theorem dk8 : bodyOk Tryd.f8 = true := by kernel_rfl
theorem dk9 : bodyOk Tryd.f9 = true := by kernel_rfl
theorem dk10 : bodyOk Tryd.f10 = true := by kernel_rfl
theorem dk11 : bodyOk Tryd.f11 = true := by kernel_rfl
theorem dk12 : bodyOk Tryd.f12 = true := by kernel_rfl
theorem dk13 : bodyOk Tryd.f13 = true := by kernel_rfl
theorem dk14 : bodyOk Tryd.f14 = true := by kernel_rfl
theorem dk15 : bodyOk Tryd.f15 = true := by kernel_rfl
theorem dk16 : bodyOk Tryd.f16 = true := by kernel_rfl
theorem dk17 : bodyOk Tryd.f17 = true := by kernel_rfl
theorem dk18 : bodyOk Tryd.f18 = true := by kernel_rfl
theorem dk19 : bodyOk Tryd.f19 = true := by kernel_rfl
theorem dk20 : bodyOk Tryd.f20 = true := by kernel_rfl
theorem dk21 : bodyOk Tryd.f21 = true := by kernel_rfl
theorem dk22 : bodyOk Tryd.f22 = true := by kernel_rfl
theorem dk23 : bodyOk Tryd.f23 = true := by kernel_rfl
theorem dk24 : bodyOk Tryd.f24 = true := by kernel_rfl
theorem dk25 : bodyOk Tryd.f25 = true := by kernel_rfl
theorem dk26 : bodyOk Tryd.f26 = true := by kernel_rfl
theorem dk27 : bodyOk Tryd.f27 = true := by kernel_rfl
theorem dk28 : bodyOk Tryd.f28 = true := by kernel_rfl
theorem dk29 : bodyOk Tryd.f29 = true := by kernel_rfl
theorem dk30 : bodyOk Tryd.f30 = true := by kernel_rfl
theorem dk31 : bodyOk Tryd.f31 = true := by kernel_rfl
theorem dk32 : bodyOk Tryd.f32 = true := by kernel_rfl
theorem dk33 : bodyOk Tryd.f33 = true := by kernel_rfl
theorem dk34 : bodyOk Tryd.f34 = true := by kernel_rfl
theorem dk35 : bodyOk Tryd.f35 = true := by kernel_rfl
theorem dk36 : bodyOk Tryd.f36 = true := by kernel_rfl
theorem dk37 : bodyOk Tryd.f37 = true := by kernel_rfl
theorem dk38 : bodyOk Tryd.f38 = true := by kernel_rfl
theorem dk39 : bodyOk Tryd.f39 = true := by kernel_rfl
theorem dk40 : bodyOk Tryd.f40 = true := by kernel_rfl
theorem dk41 : bodyOk Tryd.f41 = true := by kernel_rfl
theorem dk42 : bodyOk Tryd.f42 = true := by kernel_rfl
theorem dk43 : bodyOk Tryd.f43 = true := by kernel_rfl
theorem dk44 : bodyOk Tryd.f44 = true := by kernel_rfl
theorem dk45 : bodyOk Tryd.f45 = true := by kernel_rfl
theorem dk46 : bodyOk Tryd.f46 = true := by kernel_rfl
theorem dk47 : bodyOk Tryd.f47 = true := by kernel_rfl
theorem dk48 : bodyOk Tryd.f48 = true := by kernel_rfl
theorem dk49 : bodyOk Tryd.f49 = true := by kernel_rfl
theorem dk50 : bodyOk Tryd.f50 = true := by kernel_rfl
theorem dk51 : bodyOk Tryd.f51 = true := by kernel_rfl
theorem dk52 : bodyOk Tryd.f52 = true := by kernel_rfl
theorem dk53 : bodyOk Tryd.f53 = true := by kernel_rfl
theorem dk54 : bodyOk Tryd.f54 = true := by kernel_rfl
theorem dk55 : bodyOk Tryd.f55 = true := by kernel_rfl
theorem dk56 : bodyOk Tryd.f56 = true := by kernel_rfl
theorem dk57 : bodyOk Tryd.f57 = true := by kernel_rfl
theorem dk58 : bodyOk Tryd.f58 = true := by kernel_rfl
theorem dk60 : bodyOk Tryd.f60 = true := by kernel_rfl
theorem dk61 : bodyOk Tryd.f61 = true := by kernel_rfl
theorem dk62 : bodyOk Tryd.f62 = true := by kernel_rfl
theorem dk63 : bodyOk Tryd.f63 = true := by kernel_rfl
theorem dk64 : bodyOk Tryd.f64 = true := by kernel_rfl
theorem dk65 : bodyOk Tryd.f65 = true := by kernel_rfl
theorem dk66 : bodyOk Tryd.f66 = true := by kernel_rfl
theorem dk67 : bodyOk Tryd.f67 = true := by kernel_rfl
theorem dk68 : bodyOk Tryd.f68 = true := by kernel_rfl
theorem dk69 : bodyOk Tryd.f69 = true := by kernel_rfl
theorem dk70 : bodyOk Tryd.f70 = true := by kernel_rfl
theorem dk71 : bodyOk Tryd.f71 = true := by kernel_rfl
theorem dk72 : bodyOk Tryd.f72 = true := by kernel_rfl
theorem dk73 : bodyOk Tryd.f73 = true := by kernel_rfl
theorem dk74 : bodyOk Tryd.f74 = true := by kernel_rfl
theorem dk75 : bodyOk Tryd.f75 = true := by kernel_rfl
theorem dk76 : bodyOk Tryd.f76 = true := by kernel_rfl
theorem dk77 : bodyOk Tryd.f77 = true := by kernel_rfl
theorem dk78 : bodyOk Tryd.f78 = true := by kernel_rfl
theorem dk79 : bodyOk Tryd.f79 = true := by kernel_rfl
theorem dk80 : bodyOk Tryd.f80 = true := by kernel_rfl
theorem dk81 : bodyOk Tryd.f81 = true := by kernel_rfl
theorem dk82 : bodyOk Tryd.f82 = true := by kernel_rfl
theorem dk83 : bodyOk Tryd.f83 = true := by kernel_rfl
theorem dk84 : bodyOk Tryd.f84 = true := by kernel_rfl
theorem dk85 : bodyOk Tryd.f85 = true := by kernel_rfl
theorem dk86 : bodyOk Tryd.f86 = true := by kernel_rfl
theorem dk87 : bodyOk Tryd.f87 = true := by kernel_rfl
theorem dk88 : bodyOk Tryd.f88 = true := by kernel_rfl
theorem dk89 : bodyOk Tryd.f89 = true := by kernel_rfl
theorem dk90 : bodyOk Tryd.f90 = true := by kernel_rfl
theorem dk91 : bodyOk Tryd.f91 = true := by kernel_rfl
theorem dk92 : bodyOk Tryd.f92 = true := by kernel_rfl
theorem dk93 : bodyOk Tryd.f93 = true := by kernel_rfl
theorem dk94 : bodyOk Tryd.f94 = true := by kernel_rfl
theorem dk95 : bodyOk Tryd.f95 = true := by kernel_rfl
theorem dk96 : bodyOk Tryd.f96 = true := by kernel_rfl
theorem dk97 : bodyOk Tryd.f97 = true := by kernel_rfl
theorem dk98 : bodyOk Tryd.f98 = true := by kernel_rfl
theorem dk99 : bodyOk Tryd.f99 = true := by kernel_rfl
theorem dk100 : bodyOk Tryd.f100 = true := by kernel_rfl
theorem dk101 : bodyOk Tryd.f101 = true := by kernel_rfl
theorem dk102 : bodyOk Tryd.f102 = true := by kernel_rfl
theorem dk103 : bodyOk Tryd.f103 = true := by kernel_rfl
theorem dk104 : bodyOk Tryd.f104 = true := by kernel_rfl
theorem dk105 : bodyOk Tryd.f105 = true := by kernel_rfl
theorem dk106 : bodyOk Tryd.f106 = true := by kernel_rfl
theorem dk107 : bodyOk Tryd.f107 = true := by kernel_rfl
theorem dk108 : bodyOk Tryd.f108 = true := by kernel_rfl
theorem dk109 : bodyOk Tryd.f109 = true := by kernel_rfl
theorem dk110 : bodyOk Tryd.f110 = true := by kernel_rfl
theorem dk111 : bodyOk Tryd.f111 = true := by kernel_rfl
theorem dk112 : bodyOk Tryd.f112 = true := by kernel_rfl
theorem dk113 : bodyOk Tryd.f113 = true := by kernel_rfl
theorem dk114 : bodyOk Tryd.f114 = true := by kernel_rfl
theorem dk115 : bodyOk Tryd.f115 = true := by kernel_rfl
theorem dk117 : bodyOk Tryd.f117 = true := by kernel_rfl
theorem dk118 : bodyOk Tryd.f118 = true := by kernel_rfl
theorem dk119 : bodyOk Tryd.f119 = true := by kernel_rfl
theorem dk120 : bodyOk Tryd.f120 = true := by kernel_rfl
theorem dk121 : bodyOk Tryd.f121 = true := by kernel_rfl
theorem dk123 : bodyOk Tryd.f123 = true := by kernel_rfl
theorem dk124 : bodyOk Tryd.f124 = true := by kernel_rfl
theorem dk125 : bodyOk Tryd.f125 = true := by kernel_rfl
theorem dk126 : bodyOk Tryd.f126 = true := by kernel_rfl
theorem dk127 : bodyOk Tryd.f127 = true := by kernel_rfl
theorem dk128 : bodyOk Tryd.f128 = true := by kernel_rfl
theorem dk129 : bodyOk Tryd.f129 = true := by kernel_rfl
theorem dk130 : bodyOk Tryd.f130 = true := by kernel_rfl
theorem dk153 : bodyOk Tryd.f153 = true := by kernel_rfl
theorem fk2 : Tryd.prog.funcs[2]? = some Tryd.f2 := Tryd.func2
theorem fk3 : Tryd.prog.funcs[3]? = some Tryd.f3 := Tryd.func3
theorem fk4 : Tryd.prog.funcs[4]? = some Tryd.f4 := Tryd.func4
theorem fk5 : Tryd.prog.funcs[5]? = some Tryd.f5 := Tryd.func5
theorem fk6 : Tryd.prog.funcs[6]? = some Tryd.f6 := Tryd.func6
theorem fk7 : Tryd.prog.funcs[7]? = some Tryd.f7 := Tryd.func7
theorem fk8 : Tryd.prog.funcs[8]? = some Tryd.f8 := Tryd.func8
theorem fk9 : Tryd.prog.funcs[9]? = some Tryd.f9 := Tryd.func9
theorem fk10 : Tryd.prog.funcs[10]? = some Tryd.f10 := Tryd.func10
theorem fk11 : Tryd.prog.funcs[11]? = some Tryd.f11 := Tryd.func11
theorem fk12 : Tryd.prog.funcs[12]? = some Tryd.f12 := Tryd.func12
theorem fk13 : Tryd.prog.funcs[13]? = some Tryd.f13 := Tryd.func13
theorem fk14 : Tryd.prog.funcs[14]? = some Tryd.f14 := Tryd.func14
theorem fk15 : Tryd.prog.funcs[15]? = some Tryd.f15 := Tryd.func15
theorem fk16 : Tryd.prog.funcs[16]? = some Tryd.f16 := Tryd.func16
theorem fk17 : Tryd.prog.funcs[17]? = some Tryd.f17 := Tryd.func17
theorem fk18 : Tryd.prog.funcs[18]? = some Tryd.f18 := Tryd.func18
theorem fk19 : Tryd.prog.funcs[19]? = some Tryd.f19 := Tryd.func19
theorem fk20 : Tryd.prog.funcs[20]? = some Tryd.f20 := Tryd.func20
theorem fk21 : Tryd.prog.funcs[21]? = some Tryd.f21 := Tryd.func21
theorem fk22 : Tryd.prog.funcs[22]? = some Tryd.f22 := Tryd.func22
theorem fk23 : Tryd.prog.funcs[23]? = some Tryd.f23 := Tryd.func23
theorem fk24 : Tryd.prog.funcs[24]? = some Tryd.f24 := Tryd.func24
theorem fk25 : Tryd.prog.funcs[25]? = some Tryd.f25 := Tryd.func25
theorem fk26 : Tryd.prog.funcs[26]? = some Tryd.f26 := Tryd.func26
theorem fk27 : Tryd.prog.funcs[27]? = some Tryd.f27 := Tryd.func27
theorem fk28 : Tryd.prog.funcs[28]? = some Tryd.f28 := Tryd.func28
theorem fk29 : Tryd.prog.funcs[29]? = some Tryd.f29 := Tryd.func29
theorem fk30 : Tryd.prog.funcs[30]? = some Tryd.f30 := Tryd.func30
theorem fk31 : Tryd.prog.funcs[31]? = some Tryd.f31 := Tryd.func31
theorem fk32 : Tryd.prog.funcs[32]? = some Tryd.f32 := Tryd.func32
theorem fk33 : Tryd.prog.funcs[33]? = some Tryd.f33 := Tryd.func33
theorem fk34 : Tryd.prog.funcs[34]? = some Tryd.f34 := Tryd.func34
theorem fk35 : Tryd.prog.funcs[35]? = some Tryd.f35 := Tryd.func35
theorem fk36 : Tryd.prog.funcs[36]? = some Tryd.f36 := Tryd.func36
theorem fk37 : Tryd.prog.funcs[37]? = some Tryd.f37 := Tryd.func37
theorem fk38 : Tryd.prog.funcs[38]? = some Tryd.f38 := Tryd.func38
theorem fk39 : Tryd.prog.funcs[39]? = some Tryd.f39 := Tryd.func39
theorem fk40 : Tryd.prog.funcs[40]? = some Tryd.f40 := Tryd.func40
theorem fk41 : Tryd.prog.funcs[41]? = some Tryd.f41 := Tryd.func41
theorem fk42 : Tryd.prog.funcs[42]? = some Tryd.f42 := Tryd.func42
theorem fk43 : Tryd.prog.funcs[43]? = some Tryd.f43 := Tryd.func43
theorem fk44 : Tryd.prog.funcs[44]? = some Tryd.f44 := Tryd.func44
theorem fk45 : Tryd.prog.funcs[45]? = some Tryd.f45 := Tryd.func45
theorem fk46 : Tryd.prog.funcs[46]? = some Tryd.f46 := Tryd.func46
theorem fk47 : Tryd.prog.funcs[47]? = some Tryd.f47 := Tryd.func47
theorem fk48 : Tryd.prog.funcs[48]? = some Tryd.f48 := Tryd.func48
theorem fk49 : Tryd.prog.funcs[49]? = some Tryd.f49 := Tryd.func49
theorem fk50 : Tryd.prog.funcs[50]? = some Tryd.f50 := Tryd.func50
theorem fk51 : Tryd.prog.funcs[51]? = some Tryd.f51 := Tryd.func51
theorem fk52 : Tryd.prog.funcs[52]? = some Tryd.f52 := Tryd.func52
theorem fk53 : Tryd.prog.funcs[53]? = some Tryd.f53 := Tryd.func53
theorem fk54 : Tryd.prog.funcs[54]? = some Tryd.f54 := Tryd.func54
theorem fk55 : Tryd.prog.funcs[55]? = some Tryd.f55 := Tryd.func55
theorem fk56 : Tryd.prog.funcs[56]? = some Tryd.f56 := Tryd.func56
theorem fk57 : Tryd.prog.funcs[57]? = some Tryd.f57 := Tryd.func57
theorem fk58 : Tryd.prog.funcs[58]? = some Tryd.f58 := Tryd.func58
theorem fk60 : Tryd.prog.funcs[60]? = some Tryd.f60 := Tryd.func60
theorem fk61 : Tryd.prog.funcs[61]? = some Tryd.f61 := Tryd.func61
theorem fk62 : Tryd.prog.funcs[62]? = some Tryd.f62 := Tryd.func62
theorem fk63 : Tryd.prog.funcs[63]? = some Tryd.f63 := Tryd.func63
theorem fk64 : Tryd.prog.funcs[64]? = some Tryd.f64 := Tryd.func64
theorem fk65 : Tryd.prog.funcs[65]? = some Tryd.f65 := Tryd.func65
theorem fk66 : Tryd.prog.funcs[66]? = some Tryd.f66 := Tryd.func66
theorem fk67 : Tryd.prog.funcs[67]? = some Tryd.f67 := Tryd.func67
theorem fk68 : Tryd.prog.funcs[68]? = some Tryd.f68 := Tryd.func68
theorem fk69 : Tryd.prog.funcs[69]? = some Tryd.f69 := Tryd.func69
theorem fk70 : Tryd.prog.funcs[70]? = some Tryd.f70 := Tryd.func70
theorem fk71 : Tryd.prog.funcs[71]? = some Tryd.f71 := Tryd.func71
theorem fk72 : Tryd.prog.funcs[72]? = some Tryd.f72 := Tryd.func72
theorem fk73 : Tryd.prog.funcs[73]? = some Tryd.f73 := Tryd.func73
theorem fk74 : Tryd.prog.funcs[74]? = some Tryd.f74 := Tryd.func74
theorem fk75 : Tryd.prog.funcs[75]? = some Tryd.f75 := Tryd.func75
theorem fk76 : Tryd.prog.funcs[76]? = some Tryd.f76 := Tryd.func76
theorem fk77 : Tryd.prog.funcs[77]? = some Tryd.f77 := Tryd.func77
theorem fk78 : Tryd.prog.funcs[78]? = some Tryd.f78 := Tryd.func78
theorem fk79 : Tryd.prog.funcs[79]? = some Tryd.f79 := Tryd.func79
theorem fk80 : Tryd.prog.funcs[80]? = some Tryd.f80 := Tryd.func80
theorem fk81 : Tryd.prog.funcs[81]? = some Tryd.f81 := Tryd.func81
theorem fk82 : Tryd.prog.funcs[82]? = some Tryd.f82 := Tryd.func82
theorem fk83 : Tryd.prog.funcs[83]? = some Tryd.f83 := Tryd.func83
theorem fk84 : Tryd.prog.funcs[84]? = some Tryd.f84 := Tryd.func84
theorem fk85 : Tryd.prog.funcs[85]? = some Tryd.f85 := Tryd.func85
theorem fk86 : Tryd.prog.funcs[86]? = some Tryd.f86 := Tryd.func86
theorem fk87 : Tryd.prog.funcs[87]? = some Tryd.f87 := Tryd.func87
theorem fk88 : Tryd.prog.funcs[88]? = some Tryd.f88 := Tryd.func88
theorem fk89 : Tryd.prog.funcs[89]? = some Tryd.f89 := Tryd.func89
theorem fk90 : Tryd.prog.funcs[90]? = some Tryd.f90 := Tryd.func90
theorem fk91 : Tryd.prog.funcs[91]? = some Tryd.f91 := Tryd.func91
theorem fk92 : Tryd.prog.funcs[92]? = some Tryd.f92 := Tryd.func92
theorem fk93 : Tryd.prog.funcs[93]? = some Tryd.f93 := Tryd.func93
theorem fk94 : Tryd.prog.funcs[94]? = some Tryd.f94 := Tryd.func94
theorem fk95 : Tryd.prog.funcs[95]? = some Tryd.f95 := Tryd.func95
theorem fk96 : Tryd.prog.funcs[96]? = some Tryd.f96 := Tryd.func96
theorem fk97 : Tryd.prog.funcs[97]? = some Tryd.f97 := Tryd.func97
theorem fk98 : Tryd.prog.funcs[98]? = some Tryd.f98 := Tryd.func98
theorem fk99 : Tryd.prog.funcs[99]? = some Tryd.f99 := Tryd.func99
theorem fk100 : Tryd.prog.funcs[100]? = some Tryd.f100 := Tryd.func100
theorem fk101 : Tryd.prog.funcs[101]? = some Tryd.f101 := Tryd.func101
theorem fk102 : Tryd.prog.funcs[102]? = some Tryd.f102 := Tryd.func102
theorem fk103 : Tryd.prog.funcs[103]? = some Tryd.f103 := Tryd.func103
theorem fk104 : Tryd.prog.funcs[104]? = some Tryd.f104 := Tryd.func104
theorem fk105 : Tryd.prog.funcs[105]? = some Tryd.f105 := Tryd.func105
theorem fk106 : Tryd.prog.funcs[106]? = some Tryd.f106 := Tryd.func106
theorem fk107 : Tryd.prog.funcs[107]? = some Tryd.f107 := Tryd.func107
theorem fk108 : Tryd.prog.funcs[108]? = some Tryd.f108 := Tryd.func108
theorem fk109 : Tryd.prog.funcs[109]? = some Tryd.f109 := Tryd.func109
theorem fk110 : Tryd.prog.funcs[110]? = some Tryd.f110 := Tryd.func110
theorem fk111 : Tryd.prog.funcs[111]? = some Tryd.f111 := Tryd.func111
theorem fk112 : Tryd.prog.funcs[112]? = some Tryd.f112 := Tryd.func112
theorem fk113 : Tryd.prog.funcs[113]? = some Tryd.f113 := Tryd.func113
theorem fk114 : Tryd.prog.funcs[114]? = some Tryd.f114 := Tryd.func114
theorem fk115 : Tryd.prog.funcs[115]? = some Tryd.f115 := Tryd.func115
theorem fk117 : Tryd.prog.funcs[117]? = some Tryd.f117 := Tryd.func117
theorem fk118 : Tryd.prog.funcs[118]? = some Tryd.f118 := Tryd.func118
theorem fk119 : Tryd.prog.funcs[119]? = some Tryd.f119 := Tryd.func119
theorem fk120 : Tryd.prog.funcs[120]? = some Tryd.f120 := Tryd.func120
theorem fk121 : Tryd.prog.funcs[121]? = some Tryd.f121 := Tryd.func121
theorem fk123 : Tryd.prog.funcs[123]? = some Tryd.f123 := Tryd.func123
theorem fk124 : Tryd.prog.funcs[124]? = some Tryd.f124 := Tryd.func124
theorem fk125 : Tryd.prog.funcs[125]? = some Tryd.f125 := Tryd.func125
theorem fk126 : Tryd.prog.funcs[126]? = some Tryd.f126 := Tryd.func126
theorem fk127 : Tryd.prog.funcs[127]? = some Tryd.f127 := Tryd.func127
theorem fk128 : Tryd.prog.funcs[128]? = some Tryd.f128 := Tryd.func128
theorem fk129 : Tryd.prog.funcs[129]? = some Tryd.f129 := Tryd.func129
theorem fk130 : Tryd.prog.funcs[130]? = some Tryd.f130 := Tryd.func130
theorem fk153 : Tryd.prog.funcs[153]? = some Tryd.f153 := Tryd.func153
theorem id116 : ∀ v w, (callFunc 116 #[v]).run Tryd.prog w = .ok (.value v) w := fun v w => run_callFunc_extern (fn := Tryd.f116) (e := Extern.AbiNoEscape.same) Tryd.func116 (by kernel_rfl) (by kernel_rfl) (by kernel_rfl) (by kernel_rfl) #[v] w
theorem E0_ok : EnvOk E0 := by
  refine ⟨fun f fn h => ?_, by kernel_rfl, fun f h => ?_, fun f g h => (by cases h)⟩
  · change fnT f = some fn at h
    unfold fnT at h
    split at h
    · injection h with h; subst h; exact ⟨fk2, ⟨Tryd.call2⟩, bodyOk_inv dk2⟩
    · injection h with h; subst h; exact ⟨fk3, ⟨Tryd.call3⟩, bodyOk_inv dk3⟩
    · injection h with h; subst h; exact ⟨fk4, ⟨Tryd.call4⟩, bodyOk_inv dk4⟩
    · injection h with h; subst h; exact ⟨fk5, ⟨Tryd.call5⟩, bodyOk_inv dk5⟩
    · injection h with h; subst h; exact ⟨fk6, ⟨Tryd.call6⟩, bodyOk_inv dk6⟩
    · injection h with h; subst h; exact ⟨fk7, ⟨Tryd.call7⟩, bodyOk_inv dk7⟩
    · injection h with h; subst h; exact ⟨fk8, ⟨Tryd.call8⟩, bodyOk_inv dk8⟩
    · injection h with h; subst h; exact ⟨fk9, ⟨Tryd.call9⟩, bodyOk_inv dk9⟩
    · injection h with h; subst h; exact ⟨fk10, ⟨Tryd.call10⟩, bodyOk_inv dk10⟩
    · injection h with h; subst h; exact ⟨fk11, ⟨Tryd.call11⟩, bodyOk_inv dk11⟩
    · injection h with h; subst h; exact ⟨fk12, ⟨Tryd.call12⟩, bodyOk_inv dk12⟩
    · injection h with h; subst h; exact ⟨fk13, ⟨Tryd.call13⟩, bodyOk_inv dk13⟩
    · injection h with h; subst h; exact ⟨fk14, ⟨Tryd.call14⟩, bodyOk_inv dk14⟩
    · injection h with h; subst h; exact ⟨fk15, ⟨Tryd.call15⟩, bodyOk_inv dk15⟩
    · injection h with h; subst h; exact ⟨fk16, ⟨Tryd.call16⟩, bodyOk_inv dk16⟩
    · injection h with h; subst h; exact ⟨fk17, ⟨Tryd.call17⟩, bodyOk_inv dk17⟩
    · injection h with h; subst h; exact ⟨fk18, ⟨Tryd.call18⟩, bodyOk_inv dk18⟩
    · injection h with h; subst h; exact ⟨fk19, ⟨Tryd.call19⟩, bodyOk_inv dk19⟩
    · injection h with h; subst h; exact ⟨fk20, ⟨Tryd.call20⟩, bodyOk_inv dk20⟩
    · injection h with h; subst h; exact ⟨fk21, ⟨Tryd.call21⟩, bodyOk_inv dk21⟩
    · injection h with h; subst h; exact ⟨fk22, ⟨Tryd.call22⟩, bodyOk_inv dk22⟩
    · injection h with h; subst h; exact ⟨fk23, ⟨Tryd.call23⟩, bodyOk_inv dk23⟩
    · injection h with h; subst h; exact ⟨fk24, ⟨Tryd.call24⟩, bodyOk_inv dk24⟩
    · injection h with h; subst h; exact ⟨fk25, ⟨Tryd.call25⟩, bodyOk_inv dk25⟩
    · injection h with h; subst h; exact ⟨fk26, ⟨Tryd.call26⟩, bodyOk_inv dk26⟩
    · injection h with h; subst h; exact ⟨fk27, ⟨Tryd.call27⟩, bodyOk_inv dk27⟩
    · injection h with h; subst h; exact ⟨fk28, ⟨Tryd.call28⟩, bodyOk_inv dk28⟩
    · injection h with h; subst h; exact ⟨fk29, ⟨Tryd.call29⟩, bodyOk_inv dk29⟩
    · injection h with h; subst h; exact ⟨fk30, ⟨Tryd.call30⟩, bodyOk_inv dk30⟩
    · injection h with h; subst h; exact ⟨fk31, ⟨Tryd.call31⟩, bodyOk_inv dk31⟩
    · injection h with h; subst h; exact ⟨fk32, ⟨Tryd.call32⟩, bodyOk_inv dk32⟩
    · injection h with h; subst h; exact ⟨fk33, ⟨Tryd.call33⟩, bodyOk_inv dk33⟩
    · injection h with h; subst h; exact ⟨fk34, ⟨Tryd.call34⟩, bodyOk_inv dk34⟩
    · injection h with h; subst h; exact ⟨fk35, ⟨Tryd.call35⟩, bodyOk_inv dk35⟩
    · injection h with h; subst h; exact ⟨fk36, ⟨Tryd.call36⟩, bodyOk_inv dk36⟩
    · injection h with h; subst h; exact ⟨fk37, ⟨Tryd.call37⟩, bodyOk_inv dk37⟩
    · injection h with h; subst h; exact ⟨fk38, ⟨Tryd.call38⟩, bodyOk_inv dk38⟩
    · injection h with h; subst h; exact ⟨fk39, ⟨Tryd.call39⟩, bodyOk_inv dk39⟩
    · injection h with h; subst h; exact ⟨fk40, ⟨Tryd.call40⟩, bodyOk_inv dk40⟩
    · injection h with h; subst h; exact ⟨fk41, ⟨Tryd.call41⟩, bodyOk_inv dk41⟩
    · injection h with h; subst h; exact ⟨fk42, ⟨Tryd.call42⟩, bodyOk_inv dk42⟩
    · injection h with h; subst h; exact ⟨fk43, ⟨Tryd.call43⟩, bodyOk_inv dk43⟩
    · injection h with h; subst h; exact ⟨fk44, ⟨Tryd.call44⟩, bodyOk_inv dk44⟩
    · injection h with h; subst h; exact ⟨fk45, ⟨Tryd.call45⟩, bodyOk_inv dk45⟩
    · injection h with h; subst h; exact ⟨fk46, ⟨Tryd.call46⟩, bodyOk_inv dk46⟩
    · injection h with h; subst h; exact ⟨fk47, ⟨Tryd.call47⟩, bodyOk_inv dk47⟩
    · injection h with h; subst h; exact ⟨fk48, ⟨Tryd.call48⟩, bodyOk_inv dk48⟩
    · injection h with h; subst h; exact ⟨fk49, ⟨Tryd.call49⟩, bodyOk_inv dk49⟩
    · injection h with h; subst h; exact ⟨fk50, ⟨Tryd.call50⟩, bodyOk_inv dk50⟩
    · injection h with h; subst h; exact ⟨fk51, ⟨Tryd.call51⟩, bodyOk_inv dk51⟩
    · injection h with h; subst h; exact ⟨fk52, ⟨Tryd.call52⟩, bodyOk_inv dk52⟩
    · injection h with h; subst h; exact ⟨fk53, ⟨Tryd.call53⟩, bodyOk_inv dk53⟩
    · injection h with h; subst h; exact ⟨fk54, ⟨Tryd.call54⟩, bodyOk_inv dk54⟩
    · injection h with h; subst h; exact ⟨fk55, ⟨Tryd.call55⟩, bodyOk_inv dk55⟩
    · injection h with h; subst h; exact ⟨fk56, ⟨Tryd.call56⟩, bodyOk_inv dk56⟩
    · injection h with h; subst h; exact ⟨fk57, ⟨Tryd.call57⟩, bodyOk_inv dk57⟩
    · injection h with h; subst h; exact ⟨fk58, ⟨Tryd.call58⟩, bodyOk_inv dk58⟩
    · injection h with h; subst h; exact ⟨fk60, ⟨Tryd.call60⟩, bodyOk_inv dk60⟩
    · injection h with h; subst h; exact ⟨fk61, ⟨Tryd.call61⟩, bodyOk_inv dk61⟩
    · injection h with h; subst h; exact ⟨fk62, ⟨Tryd.call62⟩, bodyOk_inv dk62⟩
    · injection h with h; subst h; exact ⟨fk63, ⟨Tryd.call63⟩, bodyOk_inv dk63⟩
    · injection h with h; subst h; exact ⟨fk64, ⟨Tryd.call64⟩, bodyOk_inv dk64⟩
    · injection h with h; subst h; exact ⟨fk65, ⟨Tryd.call65⟩, bodyOk_inv dk65⟩
    · injection h with h; subst h; exact ⟨fk66, ⟨Tryd.call66⟩, bodyOk_inv dk66⟩
    · injection h with h; subst h; exact ⟨fk67, ⟨Tryd.call67⟩, bodyOk_inv dk67⟩
    · injection h with h; subst h; exact ⟨fk68, ⟨Tryd.call68⟩, bodyOk_inv dk68⟩
    · injection h with h; subst h; exact ⟨fk69, ⟨Tryd.call69⟩, bodyOk_inv dk69⟩
    · injection h with h; subst h; exact ⟨fk70, ⟨Tryd.call70⟩, bodyOk_inv dk70⟩
    · injection h with h; subst h; exact ⟨fk71, ⟨Tryd.call71⟩, bodyOk_inv dk71⟩
    · injection h with h; subst h; exact ⟨fk72, ⟨Tryd.call72⟩, bodyOk_inv dk72⟩
    · injection h with h; subst h; exact ⟨fk73, ⟨Tryd.call73⟩, bodyOk_inv dk73⟩
    · injection h with h; subst h; exact ⟨fk74, ⟨Tryd.call74⟩, bodyOk_inv dk74⟩
    · injection h with h; subst h; exact ⟨fk75, ⟨Tryd.call75⟩, bodyOk_inv dk75⟩
    · injection h with h; subst h; exact ⟨fk76, ⟨Tryd.call76⟩, bodyOk_inv dk76⟩
    · injection h with h; subst h; exact ⟨fk77, ⟨Tryd.call77⟩, bodyOk_inv dk77⟩
    · injection h with h; subst h; exact ⟨fk78, ⟨Tryd.call78⟩, bodyOk_inv dk78⟩
    · injection h with h; subst h; exact ⟨fk79, ⟨Tryd.call79⟩, bodyOk_inv dk79⟩
    · injection h with h; subst h; exact ⟨fk80, ⟨Tryd.call80⟩, bodyOk_inv dk80⟩
    · injection h with h; subst h; exact ⟨fk81, ⟨Tryd.call81⟩, bodyOk_inv dk81⟩
    · injection h with h; subst h; exact ⟨fk82, ⟨Tryd.call82⟩, bodyOk_inv dk82⟩
    · injection h with h; subst h; exact ⟨fk83, ⟨Tryd.call83⟩, bodyOk_inv dk83⟩
    · injection h with h; subst h; exact ⟨fk84, ⟨Tryd.call84⟩, bodyOk_inv dk84⟩
    · injection h with h; subst h; exact ⟨fk85, ⟨Tryd.call85⟩, bodyOk_inv dk85⟩
    · injection h with h; subst h; exact ⟨fk86, ⟨Tryd.call86⟩, bodyOk_inv dk86⟩
    · injection h with h; subst h; exact ⟨fk87, ⟨Tryd.call87⟩, bodyOk_inv dk87⟩
    · injection h with h; subst h; exact ⟨fk88, ⟨Tryd.call88⟩, bodyOk_inv dk88⟩
    · injection h with h; subst h; exact ⟨fk89, ⟨Tryd.call89⟩, bodyOk_inv dk89⟩
    · injection h with h; subst h; exact ⟨fk90, ⟨Tryd.call90⟩, bodyOk_inv dk90⟩
    · injection h with h; subst h; exact ⟨fk91, ⟨Tryd.call91⟩, bodyOk_inv dk91⟩
    · injection h with h; subst h; exact ⟨fk92, ⟨Tryd.call92⟩, bodyOk_inv dk92⟩
    · injection h with h; subst h; exact ⟨fk93, ⟨Tryd.call93⟩, bodyOk_inv dk93⟩
    · injection h with h; subst h; exact ⟨fk94, ⟨Tryd.call94⟩, bodyOk_inv dk94⟩
    · injection h with h; subst h; exact ⟨fk95, ⟨Tryd.call95⟩, bodyOk_inv dk95⟩
    · injection h with h; subst h; exact ⟨fk96, ⟨Tryd.call96⟩, bodyOk_inv dk96⟩
    · injection h with h; subst h; exact ⟨fk97, ⟨Tryd.call97⟩, bodyOk_inv dk97⟩
    · injection h with h; subst h; exact ⟨fk98, ⟨Tryd.call98⟩, bodyOk_inv dk98⟩
    · injection h with h; subst h; exact ⟨fk99, ⟨Tryd.call99⟩, bodyOk_inv dk99⟩
    · injection h with h; subst h; exact ⟨fk100, ⟨Tryd.call100⟩, bodyOk_inv dk100⟩
    · injection h with h; subst h; exact ⟨fk101, ⟨Tryd.call101⟩, bodyOk_inv dk101⟩
    · injection h with h; subst h; exact ⟨fk102, ⟨Tryd.call102⟩, bodyOk_inv dk102⟩
    · injection h with h; subst h; exact ⟨fk103, ⟨Tryd.call103⟩, bodyOk_inv dk103⟩
    · injection h with h; subst h; exact ⟨fk104, ⟨Tryd.call104⟩, bodyOk_inv dk104⟩
    · injection h with h; subst h; exact ⟨fk105, ⟨Tryd.call105⟩, bodyOk_inv dk105⟩
    · injection h with h; subst h; exact ⟨fk106, ⟨Tryd.call106⟩, bodyOk_inv dk106⟩
    · injection h with h; subst h; exact ⟨fk107, ⟨Tryd.call107⟩, bodyOk_inv dk107⟩
    · injection h with h; subst h; exact ⟨fk108, ⟨Tryd.call108⟩, bodyOk_inv dk108⟩
    · injection h with h; subst h; exact ⟨fk109, ⟨Tryd.call109⟩, bodyOk_inv dk109⟩
    · injection h with h; subst h; exact ⟨fk110, ⟨Tryd.call110⟩, bodyOk_inv dk110⟩
    · injection h with h; subst h; exact ⟨fk111, ⟨Tryd.call111⟩, bodyOk_inv dk111⟩
    · injection h with h; subst h; exact ⟨fk112, ⟨Tryd.call112⟩, bodyOk_inv dk112⟩
    · injection h with h; subst h; exact ⟨fk113, ⟨Tryd.call113⟩, bodyOk_inv dk113⟩
    · injection h with h; subst h; exact ⟨fk114, ⟨Tryd.call114⟩, bodyOk_inv dk114⟩
    · injection h with h; subst h; exact ⟨fk115, ⟨Tryd.call115⟩, bodyOk_inv dk115⟩
    · injection h with h; subst h; exact ⟨fk117, ⟨Tryd.call117⟩, bodyOk_inv dk117⟩
    · injection h with h; subst h; exact ⟨fk118, ⟨Tryd.call118⟩, bodyOk_inv dk118⟩
    · injection h with h; subst h; exact ⟨fk119, ⟨Tryd.call119⟩, bodyOk_inv dk119⟩
    · injection h with h; subst h; exact ⟨fk120, ⟨Tryd.call120⟩, bodyOk_inv dk120⟩
    · injection h with h; subst h; exact ⟨fk121, ⟨Tryd.call121⟩, bodyOk_inv dk121⟩
    · injection h with h; subst h; exact ⟨fk123, ⟨Tryd.call123⟩, bodyOk_inv dk123⟩
    · injection h with h; subst h; exact ⟨fk124, ⟨Tryd.call124⟩, bodyOk_inv dk124⟩
    · injection h with h; subst h; exact ⟨fk125, ⟨Tryd.call125⟩, bodyOk_inv dk125⟩
    · injection h with h; subst h; exact ⟨fk126, ⟨Tryd.call126⟩, bodyOk_inv dk126⟩
    · injection h with h; subst h; exact ⟨fk127, ⟨Tryd.call127⟩, bodyOk_inv dk127⟩
    · injection h with h; subst h; exact ⟨fk128, ⟨Tryd.call128⟩, bodyOk_inv dk128⟩
    · injection h with h; subst h; exact ⟨fk129, ⟨Tryd.call129⟩, bodyOk_inv dk129⟩
    · injection h with h; subst h; exact ⟨fk130, ⟨Tryd.call130⟩, bodyOk_inv dk130⟩
    · injection h with h; subst h; exact ⟨fk153, ⟨Tryd.call153⟩, bodyOk_inv dk153⟩
    · cases h
  · change idT f = true at h
    unfold idT at h
    split at h
    · exact id116
    · cases h
end Go.Proofs.YthofgamegondnaaDoor

namespace Go.Proofs.YthofgamegondnaaDoor
open Go.RowKit
def isT (r : Option (AV × Hp)) : Bool := match r with
  | some (.v (.bool true), _) => true
  | _ => false
theorem isT_inv {r : Option (AV × Hp)} (h : isT r = true) : ∃ h', r = some (.v (.bool true), h') := by
  unfold isT at h
  split at h
  · exact ⟨_, rfl⟩
  · cases h
set_option maxRecDepth 1000000 in
theorem awakeT : isT (evCall E0 1000 16 [] []) = true := by kernel_rfl
theorem awake_ev : ∃ h, evCall E0 1000 16 [] [] = some (.v (.bool true), h) := isT_inv awakeT
theorem awake_ret (w : World) : Ret Tryd.prog 16 #[] w fun v w' => v = .bool true ∧ w.grownBy w' none := by
  obtain ⟨h, e⟩ := awake_ev
  exact ret_true (Z := fun _ => False) (us := []) E0_ok e (fun c hc => hc.elim) (fun g x h => by cases h) .nil

def xAwake : List AV → Option AV
  | [] => some (.v (.bool true))
  | _ => none
theorem vr_true {w : World} {Z : Nat → Prop} : VR w Z [] (.v (.bool true)) (.bool true) := .v rfl

noncomputable def Ew : Env := E0.withX 16 xAwake
theorem Ew_ok : EnvOk Ew := by
  refine EnvOk.withX E0_ok ⟨Tryd.call16⟩ ?_
  intro xs x h w Z us _ _ hv
  unfold xAwake at h
  split at h
  · injection h with h; subst h
    have : us = [] := by have := hv.len; simpa using this
    subst this
    exact Ret.mono (awake_ret w) fun v w' h => ⟨h.2, by rw [h.1]; exact vr_true⟩
  · cases h
end Go.Proofs.YthofgamegondnaaDoor

namespace Go.Proofs.YthofgamegondnaaDoor
open Go.RowKit
def codeOf (f : Func) : Code := match f.body with
  | some c => c
  | none => .skip
def sA : Code → Code
  | .seq a _ => a
  | c => c
def sB : Code → Code
  | .seq _ b => b
  | c => c
def cA : Code → Code
  | .cond _ a _ => a
  | c => c
def cB : Code → Code
  | .cond _ _ b => b
  | c => c
def bA : Code → Code
  | .block _ a => a
  | c => c
def lA : Code → Code
  | .loop a => a
  | c => c
/-- A part of code, by its way. -/
def pc : Code → List Nat → Code
  | c, [] => c
  | .seq a _, 0 :: l => pc a l
  | .seq _ b, _ :: l => pc b l
  | .cond _ a _, 0 :: l => pc a l
  | .cond _ _ b, _ :: l => pc b l
  | .block _ a, _ :: l => pc a l
  | .loop a, _ :: l => pc a l
  | c, _ :: _ => c
/-- What is told of a function, in no environment of its own. -/
def XOk (f : FuncId) (g : List AV → Option AV) : Prop := Callable E0.P f ∧ ∀ xs x, g xs = some x → ∀ w Z us, (∀ c, Z c → c < w.heap.size) → GI E0 w Z → VRs w Z [] xs us → Ret E0.P f us.toArray w fun v w' => w.grownBy w' none ∧ VR w' (fun c => Z c ∨ (w.heap.size ≤ c ∧ c < w'.heap.size)) [] x v
section
variable {E : Env} {cx : Cx} {c : Code} {s s1 : St} {Q : Ex → St → Prop} {n : Nat} {e0 : Ex}
theorem SemN.mono {Q' : Ex → St → Prop} (h : SemN E cx c n s Q) (hq : ∀ e s, Q e s → Q' e s) : SemN E cx c n s Q' :=
  fun ro base Qm a w Z R h1 h2 h3 k => h ro base Qm a w Z R h1 h2 h3 fun e s' a' w' Z' R' hQ => k e s' a' w' Z' R' (hq e s' hQ)
theorem SemN.wkQ (h : SemN E cx c n s fun e s' => ∃ s2, Wk E s' s2 ∧ Q e s2) : SemN E cx c n s Q := by
  intro ro base Qm a w Z R h1 h2 h3 k
  refine h ro base Qm a w Z R h1 h2 h3 fun e s' a' w' Z' R' hQ sr st => ?_
  obtain ⟨s2, hw, hq⟩ := hQ
  obtain ⟨Z2, R2, sr2, st2⟩ := hw _ w' Z' R' a' sr
  exact k e s2 a' w' Z2 R2 hq sr2 (st.trans st2)
theorem Sem.cutN (h : SemN E cx c n s fun e s' => e = e0 ∧ Wk E s' s1) (k : Q e0 s1) : SemN E cx c n s Q :=
  SemN.wkQ (SemN.mono h fun e s' h => ⟨s1, h.2, by rw [h.1]; exact k⟩)
end
theorem EnvOk.x {E : Env} {f : FuncId} {g : List AV → Option AV} (h : EnvOk (E.withX f g)) (hP : E.P = E0.P) (hG : E.G = E0.G) : XOk f g := by
  obtain ⟨h1, h2⟩ := h.X f g (if_pos rfl)
  have e1 : (E.withX f g).P = E0.P := hP
  refine ⟨e1 ▸ h1, fun xs x hx w Z us hz hg hv => ?_⟩
  have := h2 xs x hx w Z us hz (fun q y hy => hg q y (by rw [← hG]; exact hy)) hv
  exact e1 ▸ this
end Go.Proofs.YthofgamegondnaaDoor

namespace Go.Proofs.YthofgamegondnaaDoor
open Go.RowKit
/- trestle/evening.Rings -/
noncomputable def e_evening_Rings : Env := E0
theorem e_evening_Rings_ok : EnvOk e_evening_Rings := E0_ok
noncomputable def cb_evening_Rings : Code := codeOf Tryd.f44
def evening_Rings_j3 (x0 : Int) (c5 : (List (List (List Int)))) (c6 : Int) (c8 : (List Int)) (c9 : Int) : Option (((List Int))) :=
  if (decide (c9 < (wr .i64 (x0.tdiv 2)))) = true then
  if (wr .i64 (2 * (wr .i64 (x0.tdiv 2)))) = (0 : Int) then none else
  if (capOk 8 ((c8 ++ [((wr .i64 (c6 + c9)).tmod (wr .i64 (2 * (wr .i64 (x0.tdiv 2)))))]).length + 1)) = true then
  some ((c8 ++ [((wr .i64 (c6 + c9)).tmod (wr .i64 (2 * (wr .i64 (x0.tdiv 2)))))]) ++ [((wr .i64 ((wr .i64 (c6 - c9)) + (wr .i64 (2 * (wr .i64 (x0.tdiv 2)))))).tmod (wr .i64 (2 * (wr .i64 (x0.tdiv 2)))))])
  else none
  else
  some (c8 ++ [((wr .i64 (c6 + c9)).tmod (wr .i64 (2 * (wr .i64 (x0.tdiv 2)))))])
def evening_Rings_2 (x0 : Int) (c5 : (List (List (List Int)))) (c6 : Int) : Nat → (List Int) → Int → Option (((List Int)))
  | 0, _, _ => none
  | f + 1, c8, c9 =>
    if (decide (c9 ≤ (wr .i64 (x0.tdiv 2)))) = true then
    if (wr .i64 (2 * (wr .i64 (x0.tdiv 2)))) = (0 : Int) then none else
    if (capOk 8 (c8.length + 1)) = true then
    (evening_Rings_j3 x0 c5 c6 c8 c9).bind fun r17 =>
    evening_Rings_2 x0 c5 c6 f r17 (wr .i64 (c9 + 1))
    else none
    else
    some c8
def evening_Rings_1 (x0 : Int) : Nat → (List (List (List Int))) → Int → Option (((List (List (List Int)))))
  | 0, _, _ => none
  | f + 1, c5, c6 =>
    if (decide (c6 < (wr .i64 (x0.tdiv 2)))) = true then
    (evening_Rings_2 x0 c5 c6 100000 [(wr .i64 (x0 - 1)), c6] 1).bind fun r19 =>
    if (capOk 24 (c5.length + 1)) = true then
    evening_Rings_1 x0 f (c5 ++ [[r19]]) (wr .i64 (c6 + 1))
    else none
    else
    some c5
def evening_Rings (x0 : Int) : Option ((List (List (List Int))) × Int) :=
  (if (decide (x0 < 3)) = true then some true else some (decide (x0 > 64))).bind fun j2 =>
  if j2 = true then
  some ([], 90)
  else
  if ((x0.tmod 2) == 0) = true then
  some ([], 91)
  else
  (evening_Rings_1 x0 100000 [] 0).bind fun r22 =>
  some (r22, 0)
def cs_evening_Rings : Cs (Int × Unit) := (csC cdI csN)
def er_evening_Rings (r : (List (List (List Int))) × Int) : AV := .tp [(cdL 1 (cdL 1 (cdL 1 cdI))).enc r.1, cdI.enc r.2]
set_option maxHeartbeats 4000000 in
set_option maxRecDepth 100000 in
theorem evening_Rings_j3_ok (x0 : Int) (c5 : (List (List (List Int)))) (c6 : Int) (c8 : (List Int)) (c9 : Int) (r : ((List Int))) (h : evening_Rings_j3 x0 c5 c6 c8 c9 = some r) : Sem e_evening_Rings ⟨none, false⟩ (pc cb_evening_Rings [1, 1, 1, 1, 0, 1, 0, 0, 1, 1, 0, 0, 1, 1, 0, 1, 0, 0, 1, 0, 0, 1, 1]) ⟨Fr 66 [(0, .v (.int .i64 x0)), (4, .v (.int .i64 (wr .i64 (x0.tdiv 2)))), (5, hd 0 (c5.map (cdL 1 (cdL 1 cdI)).enc)), (6, .v (.int .i64 c6)), (7, hd 1 ((c8 ++ [((wr .i64 (c6 + c9)).tmod (wr .i64 (2 * (wr .i64 (x0.tdiv 2)))))]).map cdI.enc)), (8, .v (.int .i64 c9)), (22, .v (.int .i64 (wr .i64 (x0.tdiv 2)))), (23, .v (.int .i64 c6)), (46, .v (.bool (decide (c9 < (wr .i64 (x0.tdiv 2))))))], [mk 1 49 (c5.map (cdL 1 (cdL 1 cdI)).enc), mk 1 3 ((c8 ++ [((wr .i64 (c6 + c9)).tmod (wr .i64 (2 * (wr .i64 (x0.tdiv 2)))))]).map cdI.enc)]⟩ (fun e s => e = .normal ∧ Wk e_evening_Rings s ⟨Fr 66 [(0, .v (.int .i64 x0)), (4, .v (.int .i64 (wr .i64 (x0.tdiv 2)))), (5, hd 0 (c5.map (cdL 1 (cdL 1 cdI)).enc)), (6, .v (.int .i64 c6)), (7, hd 1 (r.map cdI.enc)), (8, .v (.int .i64 c9)), (22, .v (.int .i64 (wr .i64 (x0.tdiv 2)))), (23, .v (.int .i64 c6))], [mk 1 49 (c5.map (cdL 1 (cdL 1 cdI)).enc), mk 1 3 (r.map cdI.enc)]⟩) := by
  unfold evening_Rings_j3 at h
  refine Sem.cond (b := (decide (c9 < (wr .i64 (x0.tdiv 2))))) (by kernel_rfl) (fun hb13 => ?_) (fun hb13 => ?_)
  · rw [if_pos hb13] at h
    by_cases hz14 : (wr .i64 (2 * (wr .i64 (x0.tdiv 2)))) = (0 : Int)
    · rw [if_pos hz14] at h; cases h
    rw [if_neg hz14] at h
    by_cases hk15 : (capOk 8 ((c8 ++ [((wr .i64 (c6 + c9)).tmod (wr .i64 (2 * (wr .i64 (x0.tdiv 2)))))]).length + 1)) = true
    case neg => rw [if_neg hk15] at h; cases h
    rw [if_pos hk15] at h
    refine Sem.runS (s1 := ⟨Fr 66 [(0, .v (.int .i64 x0)), (4, .v (.int .i64 (wr .i64 (x0.tdiv 2)))), (5, hd 0 (c5.map (cdL 1 (cdL 1 cdI)).enc)), (6, .v (.int .i64 c6)), (7, hd 1 (((c8 ++ [((wr .i64 (c6 + c9)).tmod (wr .i64 (2 * (wr .i64 (x0.tdiv 2)))))]) ++ [((wr .i64 ((wr .i64 (c6 - c9)) + (wr .i64 (2 * (wr .i64 (x0.tdiv 2)))))).tmod (wr .i64 (2 * (wr .i64 (x0.tdiv 2)))))]).map cdI.enc)), (8, .v (.int .i64 c9)), (22, .v (.int .i64 (wr .i64 (x0.tdiv 2)))), (23, .v (.int .i64 c6))], [mk 1 49 (c5.map (cdL 1 (cdL 1 cdI)).enc), mk 1 3 (((c8 ++ [((wr .i64 (c6 + c9)).tmod (wr .i64 (2 * (wr .i64 (x0.tdiv 2)))))]) ++ [((wr .i64 ((wr .i64 (c6 - c9)) + (wr .i64 (2 * (wr .i64 (x0.tdiv 2)))))).tmod (wr .i64 (2 * (wr .i64 (x0.tdiv 2)))))]).map cdI.enc)]⟩) ?_ ?_
    · refine RunS.segF (n := 66) e_evening_Rings_ok 9 [(0, .v (.int .i64 x0)), (4, .v (.int .i64 (wr .i64 (x0.tdiv 2)))), (5, hd 0 (c5.map (cdL 1 (cdL 1 cdI)).enc)), (6, .v (.int .i64 c6)), (8, .v (.int .i64 c9)), (22, .v (.int .i64 (wr .i64 (x0.tdiv 2)))), (23, .v (.int .i64 c6)), (47, hd 1 ((c8 ++ [((wr .i64 (c6 + c9)).tmod (wr .i64 (2 * (wr .i64 (x0.tdiv 2)))))]).map cdI.enc)), (53, .v (.int .i64 (wr .i64 ((wr .i64 (c6 - c9)) + (wr .i64 (2 * (wr .i64 (x0.tdiv 2)))))))), (55, .v (.int .i64 (wr .i64 (2 * (wr .i64 (x0.tdiv 2))))))] [mk 1 49 (c5.map (cdL 1 (cdL 1 cdI)).enc), mk 1 3 ((c8 ++ [((wr .i64 (c6 + c9)).tmod (wr .i64 (2 * (wr .i64 (x0.tdiv 2)))))]).map cdI.enc)] (by kernel_rfl) ?_
      refine RunS.one e_evening_Rings_ok 0 rfl (op_q (wantedA_none rfl) rfl (q_bin (a := .v (.int .i64 (wr .i64 ((wr .i64 (c6 - c9)) + (wr .i64 (2 * (wr .i64 (x0.tdiv 2)))))))) (b := .v (.int .i64 (wr .i64 (2 * (wr .i64 (x0.tdiv 2)))))) (by kernel_rfl) (by kernel_rfl) (bin_rem hz14))) ?_
      refine RunS.segF (n := 66) e_evening_Rings_ok 1 [(0, .v (.int .i64 x0)), (4, .v (.int .i64 (wr .i64 (x0.tdiv 2)))), (5, hd 0 (c5.map (cdL 1 (cdL 1 cdI)).enc)), (6, .v (.int .i64 c6)), (8, .v (.int .i64 c9)), (22, .v (.int .i64 (wr .i64 (x0.tdiv 2)))), (23, .v (.int .i64 c6)), (47, hd 1 ((c8 ++ [((wr .i64 (c6 + c9)).tmod (wr .i64 (2 * (wr .i64 (x0.tdiv 2)))))]).map cdI.enc)), (57, hd 2 ([((wr .i64 ((wr .i64 (c6 - c9)) + (wr .i64 (2 * (wr .i64 (x0.tdiv 2)))))).tmod (wr .i64 (2 * (wr .i64 (x0.tdiv 2)))))].map cdI.enc))] [mk 1 49 (c5.map (cdL 1 (cdL 1 cdI)).enc), mk 1 3 ((c8 ++ [((wr .i64 (c6 + c9)).tmod (wr .i64 (2 * (wr .i64 (x0.tdiv 2)))))]).map cdI.enc), mk 1 3 ([((wr .i64 ((wr .i64 (c6 - c9)) + (wr .i64 (2 * (wr .i64 (x0.tdiv 2)))))).tmod (wr .i64 (2 * (wr .i64 (x0.tdiv 2)))))].map cdI.enc)] (by kernel_rfl) ?_
      refine RunS.one e_evening_Rings_ok 0 rfl (op_w (wantedA_none rfl) rfl (by kernel_rfl) (by kernel_rfl) (w_append (a := hd 1 ((c8 ++ [((wr .i64 (c6 + c9)).tmod (wr .i64 (2 * (wr .i64 (x0.tdiv 2)))))]).map cdI.enc)) (b := hd 2 ([((wr .i64 ((wr .i64 (c6 - c9)) + (wr .i64 (2 * (wr .i64 (x0.tdiv 2)))))).tmod (wr .i64 (2 * (wr .i64 (x0.tdiv 2)))))].map cdI.enc)) (by kernel_rfl) (by kernel_rfl) (append_B (c := cdI) (xs := (c8 ++ [((wr .i64 (c6 + c9)).tmod (wr .i64 (2 * (wr .i64 (x0.tdiv 2)))))])) (vs := [((wr .i64 ((wr .i64 (c6 - c9)) + (wr .i64 (2 * (wr .i64 (x0.tdiv 2)))))).tmod (wr .i64 (2 * (wr .i64 (x0.tdiv 2)))))]) (k := 1) (bytes := 8) (el := 3) (by kernel_rfl) (by kernel_rfl) (elems_hd (t := 3) (by kernel_rfl)) (List.cons_ne_nil _ _) (by kernel_rfl) hk15))) ?_
      refine RunS.segF (n := 66) e_evening_Rings_ok 1 [(0, .v (.int .i64 x0)), (4, .v (.int .i64 (wr .i64 (x0.tdiv 2)))), (5, hd 0 (c5.map (cdL 1 (cdL 1 cdI)).enc)), (6, .v (.int .i64 c6)), (7, hd 3 (((c8 ++ [((wr .i64 (c6 + c9)).tmod (wr .i64 (2 * (wr .i64 (x0.tdiv 2)))))]) ++ [((wr .i64 ((wr .i64 (c6 - c9)) + (wr .i64 (2 * (wr .i64 (x0.tdiv 2)))))).tmod (wr .i64 (2 * (wr .i64 (x0.tdiv 2)))))]).map cdI.enc)), (8, .v (.int .i64 c9)), (22, .v (.int .i64 (wr .i64 (x0.tdiv 2)))), (23, .v (.int .i64 c6))] [mk 1 49 (c5.map (cdL 1 (cdL 1 cdI)).enc), none, mk 1 3 ([((wr .i64 ((wr .i64 (c6 - c9)) + (wr .i64 (2 * (wr .i64 (x0.tdiv 2)))))).tmod (wr .i64 (2 * (wr .i64 (x0.tdiv 2)))))].map cdI.enc), mk 1 3 (((c8 ++ [((wr .i64 (c6 + c9)).tmod (wr .i64 (2 * (wr .i64 (x0.tdiv 2)))))]) ++ [((wr .i64 ((wr .i64 (c6 - c9)) + (wr .i64 (2 * (wr .i64 (x0.tdiv 2)))))).tmod (wr .i64 (2 * (wr .i64 (x0.tdiv 2)))))]).map cdI.enc)] (by kernel_rfl) ?_
      exact RunS.done rfl (Wk.sel2 [0, 3] (by kernel_rfl) (by kernel_rfl) (by kernel_rfl) ⟨⟨_, rfl, bu_mk⟩, ⟨_, rfl, bu_mk⟩, trivial⟩ ⟨lu (by kernel_rfl) (by kernel_rfl), lu (by kernel_rfl) (by kernel_rfl), lu_hd (b' := 0) (by kernel_rfl) (by kernel_rfl), lu (by kernel_rfl) (by kernel_rfl), lu_hd (b' := 3) (by kernel_rfl) (by kernel_rfl), lu (by kernel_rfl) (by kernel_rfl), lu (by kernel_rfl) (by kernel_rfl), lu (by kernel_rfl) (by kernel_rfl), trivial⟩)
    have hq := Option.some.inj h; subst hq
    exact ⟨rfl, (Wk.sel2 [0, 1] (by kernel_rfl) (by kernel_rfl) (by kernel_rfl) ⟨⟨_, rfl, bu_mk⟩, ⟨_, rfl, bu_mk⟩, trivial⟩ ⟨lu (by kernel_rfl) (by kernel_rfl), lu (by kernel_rfl) (by kernel_rfl), lu_hd (b' := 0) (by kernel_rfl) (by kernel_rfl), lu (by kernel_rfl) (by kernel_rfl), lu_hd (b' := 1) (by kernel_rfl) (by kernel_rfl), lu (by kernel_rfl) (by kernel_rfl), lu (by kernel_rfl) (by kernel_rfl), lu (by kernel_rfl) (by kernel_rfl), trivial⟩)⟩
  · rw [if_f hb13] at h
    refine Sem.skip ?_
    have hq := Option.some.inj h; subst hq
    exact ⟨rfl, (Wk.sel2 [0, 1] (by kernel_rfl) (by kernel_rfl) (by kernel_rfl) ⟨⟨_, rfl, bu_mk⟩, ⟨_, rfl, bu_mk⟩, trivial⟩ ⟨lu (by kernel_rfl) (by kernel_rfl), lu (by kernel_rfl) (by kernel_rfl), lu_hd (b' := 0) (by kernel_rfl) (by kernel_rfl), lu (by kernel_rfl) (by kernel_rfl), lu_hd (b' := 1) (by kernel_rfl) (by kernel_rfl), lu (by kernel_rfl) (by kernel_rfl), lu (by kernel_rfl) (by kernel_rfl), lu (by kernel_rfl) (by kernel_rfl), trivial⟩)⟩
set_option maxHeartbeats 4000000 in
set_option maxRecDepth 100000 in
theorem evening_Rings_2_ok (x0 : Int) (c5 : (List (List (List Int)))) (c6 : Int) : ∀ (f : Nat) (c8 : (List Int)) (c9 : Int) (r : ((List Int))), evening_Rings_2 x0 c5 c6 f c8 c9 = some r → SemN e_evening_Rings ⟨none, false⟩ (pc cb_evening_Rings [1, 1, 1, 1, 0, 1, 0, 0, 1, 1, 0, 0, 1, 1, 0, 1, 0, 0]) f ⟨Fr 66 [(0, .v (.int .i64 x0)), (4, .v (.int .i64 (wr .i64 (x0.tdiv 2)))), (5, hd 0 (c5.map (cdL 1 (cdL 1 cdI)).enc)), (6, .v (.int .i64 c6)), (7, hd 1 (c8.map cdI.enc)), (8, .v (.int .i64 c9)), (22, .v (.int .i64 (wr .i64 (x0.tdiv 2)))), (23, .v (.int .i64 c6))], [mk 1 49 (c5.map (cdL 1 (cdL 1 cdI)).enc), mk 1 3 (c8.map cdI.enc)]⟩ (fun e s => e = (.exit 3) ∧ Wk e_evening_Rings s ⟨Fr 66 [(0, .v (.int .i64 x0)), (4, .v (.int .i64 (wr .i64 (x0.tdiv 2)))), (5, hd 0 (c5.map (cdL 1 (cdL 1 cdI)).enc)), (7, hd 1 (r.map cdI.enc)), (22, .v (.int .i64 (wr .i64 (x0.tdiv 2)))), (23, .v (.int .i64 c6))], [mk 1 49 (c5.map (cdL 1 (cdL 1 cdI)).enc), mk 1 3 (r.map cdI.enc)]⟩) := by
  intro f
  induction f with
  | zero => intro c8 c9 r h; cases h
  | succ f ih0 =>
    intro c8 c9 r h
    have ih := fun (c8 : (List Int)) (c9 : Int) => ih0 c8 c9 r
    unfold evening_Rings_2 at h
    refine SemN.succ ?_
    refine Sem.seq ?_
    refine Sem.seq ?_
    refine Sem.runS (s1 := ⟨Fr 66 [(0, .v (.int .i64 x0)), (4, .v (.int .i64 (wr .i64 (x0.tdiv 2)))), (5, hd 0 (c5.map (cdL 1 (cdL 1 cdI)).enc)), (6, .v (.int .i64 c6)), (7, hd 1 (c8.map cdI.enc)), (8, .v (.int .i64 c9)), (22, .v (.int .i64 (wr .i64 (x0.tdiv 2)))), (23, .v (.int .i64 c6)), (32, .v (.bool (decide (c9 ≤ (wr .i64 (x0.tdiv 2))))))], [mk 1 49 (c5.map (cdL 1 (cdL 1 cdI)).enc), mk 1 3 (c8.map cdI.enc)]⟩) ?_ ?_
    · refine RunS.segF (n := 66) e_evening_Rings_ok 3 [(0, .v (.int .i64 x0)), (4, .v (.int .i64 (wr .i64 (x0.tdiv 2)))), (5, hd 0 (c5.map (cdL 1 (cdL 1 cdI)).enc)), (6, .v (.int .i64 c6)), (7, hd 1 (c8.map cdI.enc)), (8, .v (.int .i64 c9)), (22, .v (.int .i64 (wr .i64 (x0.tdiv 2)))), (23, .v (.int .i64 c6)), (32, .v (.bool (decide (c9 ≤ (wr .i64 (x0.tdiv 2))))))] [mk 1 49 (c5.map (cdL 1 (cdL 1 cdI)).enc), mk 1 3 (c8.map cdI.enc)] (by kernel_rfl) ?_
      exact RunS.done rfl (Wk.sel2 [0, 1] (by kernel_rfl) (by kernel_rfl) (by kernel_rfl) ⟨⟨_, rfl, bu_mk⟩, ⟨_, rfl, bu_mk⟩, trivial⟩ ⟨lu (by kernel_rfl) (by kernel_rfl), lu (by kernel_rfl) (by kernel_rfl), lu_hd (b' := 0) (by kernel_rfl) (by kernel_rfl), lu (by kernel_rfl) (by kernel_rfl), lu_hd (b' := 1) (by kernel_rfl) (by kernel_rfl), lu (by kernel_rfl) (by kernel_rfl), lu (by kernel_rfl) (by kernel_rfl), lu (by kernel_rfl) (by kernel_rfl), lu (by kernel_rfl) (by kernel_rfl), trivial⟩)
    refine Sem.cond (b := (decide (c9 ≤ (wr .i64 (x0.tdiv 2))))) (by kernel_rfl) (fun hb10 => ?_) (fun hb10 => ?_)
    · rw [if_pos hb10] at h
      refine Sem.skip ?_
      refine Sem.seq ?_
      refine Sem.block ?_
      refine Sem.seq ?_
      by_cases hz11 : (wr .i64 (2 * (wr .i64 (x0.tdiv 2)))) = (0 : Int)
      · rw [if_pos hz11] at h; cases h
      rw [if_neg hz11] at h
      by_cases hk12 : (capOk 8 (c8.length + 1)) = true
      case neg => rw [if_neg hk12] at h; cases h
      rw [if_pos hk12] at h
      refine Sem.runS (s1 := ⟨Fr 66 [(0, .v (.int .i64 x0)), (4, .v (.int .i64 (wr .i64 (x0.tdiv 2)))), (5, hd 0 (c5.map (cdL 1 (cdL 1 cdI)).enc)), (6, .v (.int .i64 c6)), (7, hd 1 ((c8 ++ [((wr .i64 (c6 + c9)).tmod (wr .i64 (2 * (wr .i64 (x0.tdiv 2)))))]).map cdI.enc)), (8, .v (.int .i64 c9)), (22, .v (.int .i64 (wr .i64 (x0.tdiv 2)))), (23, .v (.int .i64 c6))], [mk 1 49 (c5.map (cdL 1 (cdL 1 cdI)).enc), mk 1 3 ((c8 ++ [((wr .i64 (c6 + c9)).tmod (wr .i64 (2 * (wr .i64 (x0.tdiv 2)))))]).map cdI.enc)]⟩) ?_ ?_
      · refine RunS.segF (n := 66) e_evening_Rings_ok 6 [(0, .v (.int .i64 x0)), (4, .v (.int .i64 (wr .i64 (x0.tdiv 2)))), (5, hd 0 (c5.map (cdL 1 (cdL 1 cdI)).enc)), (6, .v (.int .i64 c6)), (8, .v (.int .i64 c9)), (22, .v (.int .i64 (wr .i64 (x0.tdiv 2)))), (23, .v (.int .i64 c6)), (35, hd 1 (c8.map cdI.enc)), (38, .v (.int .i64 (wr .i64 (c6 + c9)))), (40, .v (.int .i64 (wr .i64 (2 * (wr .i64 (x0.tdiv 2))))))] [mk 1 49 (c5.map (cdL 1 (cdL 1 cdI)).enc), mk 1 3 (c8.map cdI.enc)] (by kernel_rfl) ?_
        refine RunS.one e_evening_Rings_ok 0 rfl (op_q (wantedA_none rfl) rfl (q_bin (a := .v (.int .i64 (wr .i64 (c6 + c9)))) (b := .v (.int .i64 (wr .i64 (2 * (wr .i64 (x0.tdiv 2)))))) (by kernel_rfl) (by kernel_rfl) (bin_rem hz11))) ?_
        refine RunS.segF (n := 66) e_evening_Rings_ok 1 [(0, .v (.int .i64 x0)), (4, .v (.int .i64 (wr .i64 (x0.tdiv 2)))), (5, hd 0 (c5.map (cdL 1 (cdL 1 cdI)).enc)), (6, .v (.int .i64 c6)), (8, .v (.int .i64 c9)), (22, .v (.int .i64 (wr .i64 (x0.tdiv 2)))), (23, .v (.int .i64 c6)), (35, hd 1 (c8.map cdI.enc)), (42, hd 2 ([((wr .i64 (c6 + c9)).tmod (wr .i64 (2 * (wr .i64 (x0.tdiv 2)))))].map cdI.enc))] [mk 1 49 (c5.map (cdL 1 (cdL 1 cdI)).enc), mk 1 3 (c8.map cdI.enc), mk 1 3 ([((wr .i64 (c6 + c9)).tmod (wr .i64 (2 * (wr .i64 (x0.tdiv 2)))))].map cdI.enc)] (by kernel_rfl) ?_
        refine RunS.one e_evening_Rings_ok 0 rfl (op_w (wantedA_none rfl) rfl (by kernel_rfl) (by kernel_rfl) (w_append (a := hd 1 (c8.map cdI.enc)) (b := hd 2 ([((wr .i64 (c6 + c9)).tmod (wr .i64 (2 * (wr .i64 (x0.tdiv 2)))))].map cdI.enc)) (by kernel_rfl) (by kernel_rfl) (append_B (c := cdI) (xs := c8) (vs := [((wr .i64 (c6 + c9)).tmod (wr .i64 (2 * (wr .i64 (x0.tdiv 2)))))]) (k := 1) (bytes := 8) (el := 3) (by kernel_rfl) (by kernel_rfl) (elems_hd (t := 3) (by kernel_rfl)) (List.cons_ne_nil _ _) (by kernel_rfl) hk12))) ?_
        refine RunS.segF (n := 66) e_evening_Rings_ok 1 [(0, .v (.int .i64 x0)), (4, .v (.int .i64 (wr .i64 (x0.tdiv 2)))), (5, hd 0 (c5.map (cdL 1 (cdL 1 cdI)).enc)), (6, .v (.int .i64 c6)), (7, hd 3 ((c8 ++ [((wr .i64 (c6 + c9)).tmod (wr .i64 (2 * (wr .i64 (x0.tdiv 2)))))]).map cdI.enc)), (8, .v (.int .i64 c9)), (22, .v (.int .i64 (wr .i64 (x0.tdiv 2)))), (23, .v (.int .i64 c6))] [mk 1 49 (c5.map (cdL 1 (cdL 1 cdI)).enc), none, mk 1 3 ([((wr .i64 (c6 + c9)).tmod (wr .i64 (2 * (wr .i64 (x0.tdiv 2)))))].map cdI.enc), mk 1 3 ((c8 ++ [((wr .i64 (c6 + c9)).tmod (wr .i64 (2 * (wr .i64 (x0.tdiv 2)))))]).map cdI.enc)] (by kernel_rfl) ?_
        exact RunS.done rfl (Wk.sel2 [0, 3] (by kernel_rfl) (by kernel_rfl) (by kernel_rfl) ⟨⟨_, rfl, bu_mk⟩, ⟨_, rfl, bu_mk⟩, trivial⟩ ⟨lu (by kernel_rfl) (by kernel_rfl), lu (by kernel_rfl) (by kernel_rfl), lu_hd (b' := 0) (by kernel_rfl) (by kernel_rfl), lu (by kernel_rfl) (by kernel_rfl), lu_hd (b' := 3) (by kernel_rfl) (by kernel_rfl), lu (by kernel_rfl) (by kernel_rfl), lu (by kernel_rfl) (by kernel_rfl), lu (by kernel_rfl) (by kernel_rfl), trivial⟩)
      refine Sem.seq ?_
      refine Sem.runS (s1 := ⟨Fr 66 [(0, .v (.int .i64 x0)), (4, .v (.int .i64 (wr .i64 (x0.tdiv 2)))), (5, hd 0 (c5.map (cdL 1 (cdL 1 cdI)).enc)), (6, .v (.int .i64 c6)), (7, hd 1 ((c8 ++ [((wr .i64 (c6 + c9)).tmod (wr .i64 (2 * (wr .i64 (x0.tdiv 2)))))]).map cdI.enc)), (8, .v (.int .i64 c9)), (22, .v (.int .i64 (wr .i64 (x0.tdiv 2)))), (23, .v (.int .i64 c6)), (46, .v (.bool (decide (c9 < (wr .i64 (x0.tdiv 2))))))], [mk 1 49 (c5.map (cdL 1 (cdL 1 cdI)).enc), mk 1 3 ((c8 ++ [((wr .i64 (c6 + c9)).tmod (wr .i64 (2 * (wr .i64 (x0.tdiv 2)))))]).map cdI.enc)]⟩) ?_ ?_
      · refine RunS.segF (n := 66) e_evening_Rings_ok 3 [(0, .v (.int .i64 x0)), (4, .v (.int .i64 (wr .i64 (x0.tdiv 2)))), (5, hd 0 (c5.map (cdL 1 (cdL 1 cdI)).enc)), (6, .v (.int .i64 c6)), (7, hd 1 ((c8 ++ [((wr .i64 (c6 + c9)).tmod (wr .i64 (2 * (wr .i64 (x0.tdiv 2)))))]).map cdI.enc)), (8, .v (.int .i64 c9)), (22, .v (.int .i64 (wr .i64 (x0.tdiv 2)))), (23, .v (.int .i64 c6)), (46, .v (.bool (decide (c9 < (wr .i64 (x0.tdiv 2))))))] [mk 1 49 (c5.map (cdL 1 (cdL 1 cdI)).enc), mk 1 3 ((c8 ++ [((wr .i64 (c6 + c9)).tmod (wr .i64 (2 * (wr .i64 (x0.tdiv 2)))))]).map cdI.enc)] (by kernel_rfl) ?_
        exact RunS.done rfl (Wk.sel2 [0, 1] (by kernel_rfl) (by kernel_rfl) (by kernel_rfl) ⟨⟨_, rfl, bu_mk⟩, ⟨_, rfl, bu_mk⟩, trivial⟩ ⟨lu (by kernel_rfl) (by kernel_rfl), lu (by kernel_rfl) (by kernel_rfl), lu_hd (b' := 0) (by kernel_rfl) (by kernel_rfl), lu (by kernel_rfl) (by kernel_rfl), lu_hd (b' := 1) (by kernel_rfl) (by kernel_rfl), lu (by kernel_rfl) (by kernel_rfl), lu (by kernel_rfl) (by kernel_rfl), lu (by kernel_rfl) (by kernel_rfl), lu (by kernel_rfl) (by kernel_rfl), trivial⟩)
      obtain ⟨r17, hr17, h⟩ := Option.bind_eq_some_iff.1 h
      refine Sem.cut (evening_Rings_j3_ok x0 c5 c6 c8 c9 _ hr17) ?_
      refine Sem.runS (s1 := ⟨Fr 66 [(0, .v (.int .i64 x0)), (4, .v (.int .i64 (wr .i64 (x0.tdiv 2)))), (5, hd 0 (c5.map (cdL 1 (cdL 1 cdI)).enc)), (6, .v (.int .i64 c6)), (7, hd 1 (r17.map cdI.enc)), (8, .v (.int .i64 (wr .i64 (c9 + 1)))), (22, .v (.int .i64 (wr .i64 (x0.tdiv 2)))), (23, .v (.int .i64 c6))], [mk 1 49 (c5.map (cdL 1 (cdL 1 cdI)).enc), mk 1 3 (r17.map cdI.enc)]⟩) ?_ ?_
      · refine RunS.segF (n := 66) e_evening_Rings_ok 3 [(0, .v (.int .i64 x0)), (4, .v (.int .i64 (wr .i64 (x0.tdiv 2)))), (5, hd 0 (c5.map (cdL 1 (cdL 1 cdI)).enc)), (6, .v (.int .i64 c6)), (7, hd 1 (r17.map cdI.enc)), (8, .v (.int .i64 (wr .i64 (c9 + 1)))), (22, .v (.int .i64 (wr .i64 (x0.tdiv 2)))), (23, .v (.int .i64 c6))] [mk 1 49 (c5.map (cdL 1 (cdL 1 cdI)).enc), mk 1 3 (r17.map cdI.enc)] (by kernel_rfl) ?_
        exact RunS.done rfl (Wk.sel2 [0, 1] (by kernel_rfl) (by kernel_rfl) (by kernel_rfl) ⟨⟨_, rfl, bu_mk⟩, ⟨_, rfl, bu_mk⟩, trivial⟩ ⟨lu (by kernel_rfl) (by kernel_rfl), lu (by kernel_rfl) (by kernel_rfl), lu_hd (b' := 0) (by kernel_rfl) (by kernel_rfl), lu (by kernel_rfl) (by kernel_rfl), lu_hd (b' := 1) (by kernel_rfl) (by kernel_rfl), lu (by kernel_rfl) (by kernel_rfl), lu (by kernel_rfl) (by kernel_rfl), lu (by kernel_rfl) (by kernel_rfl), trivial⟩)
      exact SemN.wk (s1 := ⟨Fr 66 [(0, .v (.int .i64 x0)), (4, .v (.int .i64 (wr .i64 (x0.tdiv 2)))), (5, hd 0 (c5.map (cdL 1 (cdL 1 cdI)).enc)), (6, .v (.int .i64 c6)), (7, hd 1 (r17.map cdI.enc)), (8, .v (.int .i64 (wr .i64 (c9 + 1)))), (22, .v (.int .i64 (wr .i64 (x0.tdiv 2)))), (23, .v (.int .i64 c6))], [mk 1 49 (c5.map (cdL 1 (cdL 1 cdI)).enc), mk 1 3 (r17.map cdI.enc)]⟩) (Wk.sel2 [0, 1] (by kernel_rfl) (by kernel_rfl) (by kernel_rfl) ⟨⟨_, rfl, bu_mk⟩, ⟨_, rfl, bu_mk⟩, trivial⟩ ⟨lu (by kernel_rfl) (by kernel_rfl), lu (by kernel_rfl) (by kernel_rfl), lu_hd (b' := 0) (by kernel_rfl) (by kernel_rfl), lu (by kernel_rfl) (by kernel_rfl), lu_hd (b' := 1) (by kernel_rfl) (by kernel_rfl), lu (by kernel_rfl) (by kernel_rfl), lu (by kernel_rfl) (by kernel_rfl), lu (by kernel_rfl) (by kernel_rfl), trivial⟩) (ih r17 (wr .i64 (c9 + 1)) h)
    · rw [if_f hb10] at h
      refine Sem.exit ?_
      have hq := Option.some.inj h; subst hq
      exact ⟨rfl, (Wk.sel2 [0, 1] (by kernel_rfl) (by kernel_rfl) (by kernel_rfl) ⟨⟨_, rfl, bu_mk⟩, ⟨_, rfl, bu_mk⟩, trivial⟩ ⟨lu (by kernel_rfl) (by kernel_rfl), lu (by kernel_rfl) (by kernel_rfl), lu_hd (b' := 0) (by kernel_rfl) (by kernel_rfl), lu_hd (b' := 1) (by kernel_rfl) (by kernel_rfl), lu (by kernel_rfl) (by kernel_rfl), lu (by kernel_rfl) (by kernel_rfl), trivial⟩)⟩
set_option maxHeartbeats 4000000 in
set_option maxRecDepth 100000 in
theorem evening_Rings_1_ok (x0 : Int) : ∀ (f : Nat) (c5 : (List (List (List Int)))) (c6 : Int) (r : ((List (List (List Int))))), evening_Rings_1 x0 f c5 c6 = some r → SemN e_evening_Rings ⟨none, false⟩ (pc cb_evening_Rings [1, 1, 1, 1, 0, 1, 0, 0]) f ⟨Fr 66 [(0, .v (.int .i64 x0)), (4, .v (.int .i64 (wr .i64 (x0.tdiv 2)))), (5, hd 0 (c5.map (cdL 1 (cdL 1 cdI)).enc)), (22, .v (.int .i64 (wr .i64 (x0.tdiv 2)))), (23, .v (.int .i64 c6))], [mk 1 49 (c5.map (cdL 1 (cdL 1 cdI)).enc)]⟩ (fun e s => e = (.exit 1) ∧ Wk e_evening_Rings s ⟨Fr 66 [(5, hd 0 (r.map (cdL 1 (cdL 1 cdI)).enc))], [mk 1 49 (r.map (cdL 1 (cdL 1 cdI)).enc)]⟩) := by
  intro f
  induction f with
  | zero => intro c5 c6 r h; cases h
  | succ f ih0 =>
    intro c5 c6 r h
    have ih := fun (c5 : (List (List (List Int)))) (c6 : Int) => ih0 c5 c6 r
    unfold evening_Rings_1 at h
    refine SemN.succ ?_
    refine Sem.seq ?_
    refine Sem.runS (s1 := ⟨Fr 66 [(0, .v (.int .i64 x0)), (4, .v (.int .i64 (wr .i64 (x0.tdiv 2)))), (5, hd 0 (c5.map (cdL 1 (cdL 1 cdI)).enc)), (22, .v (.int .i64 (wr .i64 (x0.tdiv 2)))), (23, .v (.int .i64 c6)), (24, .v (.bool (decide (c6 < (wr .i64 (x0.tdiv 2))))))], [mk 1 49 (c5.map (cdL 1 (cdL 1 cdI)).enc)]⟩) ?_ ?_
    · refine RunS.segF (n := 66) e_evening_Rings_ok 1 [(0, .v (.int .i64 x0)), (4, .v (.int .i64 (wr .i64 (x0.tdiv 2)))), (5, hd 0 (c5.map (cdL 1 (cdL 1 cdI)).enc)), (22, .v (.int .i64 (wr .i64 (x0.tdiv 2)))), (23, .v (.int .i64 c6)), (24, .v (.bool (decide (c6 < (wr .i64 (x0.tdiv 2))))))] [mk 1 49 (c5.map (cdL 1 (cdL 1 cdI)).enc)] (by kernel_rfl) ?_
      exact RunS.done rfl (Wk.sel2 [0] (by kernel_rfl) (by kernel_rfl) (by kernel_rfl) ⟨⟨_, rfl, bu_mk⟩, trivial⟩ ⟨lu (by kernel_rfl) (by kernel_rfl), lu (by kernel_rfl) (by kernel_rfl), lu_hd (b' := 0) (by kernel_rfl) (by kernel_rfl), lu (by kernel_rfl) (by kernel_rfl), lu (by kernel_rfl) (by kernel_rfl), lu (by kernel_rfl) (by kernel_rfl), trivial⟩)
    refine Sem.seq ?_
    refine Sem.cond (b := (decide (c6 < (wr .i64 (x0.tdiv 2))))) (by kernel_rfl) (fun hb7 => ?_) (fun hb7 => ?_)
    · rw [if_pos hb7] at h
      refine Sem.skip ?_
      refine Sem.seq ?_
      refine Sem.block ?_
      refine Sem.seq ?_
      refine Sem.runS (s1 := ⟨Fr 66 [(0, .v (.int .i64 x0)), (4, .v (.int .i64 (wr .i64 (x0.tdiv 2)))), (5, hd 0 (c5.map (cdL 1 (cdL 1 cdI)).enc)), (6, .v (.int .i64 c6)), (22, .v (.int .i64 (wr .i64 (x0.tdiv 2)))), (23, .v (.int .i64 c6))], [mk 1 49 (c5.map (cdL 1 (cdL 1 cdI)).enc)]⟩) ?_ ?_
      · refine RunS.segF (n := 66) e_evening_Rings_ok 2 [(0, .v (.int .i64 x0)), (4, .v (.int .i64 (wr .i64 (x0.tdiv 2)))), (5, hd 0 (c5.map (cdL 1 (cdL 1 cdI)).enc)), (6, .v (.int .i64 c6)), (22, .v (.int .i64 (wr .i64 (x0.tdiv 2)))), (23, .v (.int .i64 c6))] [mk 1 49 (c5.map (cdL 1 (cdL 1 cdI)).enc)] (by kernel_rfl) ?_
        exact RunS.done rfl (Wk.sel2 [0] (by kernel_rfl) (by kernel_rfl) (by kernel_rfl) ⟨⟨_, rfl, bu_mk⟩, trivial⟩ ⟨lu (by kernel_rfl) (by kernel_rfl), lu (by kernel_rfl) (by kernel_rfl), lu_hd (b' := 0) (by kernel_rfl) (by kernel_rfl), lu (by kernel_rfl) (by kernel_rfl), lu (by kernel_rfl) (by kernel_rfl), lu (by kernel_rfl) (by kernel_rfl), trivial⟩)
      refine Sem.seq ?_
      refine Sem.runS (s1 := ⟨Fr 66 [(0, .v (.int .i64 x0)), (4, .v (.int .i64 (wr .i64 (x0.tdiv 2)))), (5, hd 0 (c5.map (cdL 1 (cdL 1 cdI)).enc)), (6, .v (.int .i64 c6)), (7, hd 1 ([(wr .i64 (x0 - 1)), c6].map cdI.enc)), (22, .v (.int .i64 (wr .i64 (x0.tdiv 2)))), (23, .v (.int .i64 c6))], [mk 1 49 (c5.map (cdL 1 (cdL 1 cdI)).enc), mk 1 3 ([(wr .i64 (x0 - 1)), c6].map cdI.enc)]⟩) ?_ ?_
      · refine RunS.segF (n := 66) e_evening_Rings_ok 5 [(0, .v (.int .i64 x0)), (4, .v (.int .i64 (wr .i64 (x0.tdiv 2)))), (5, hd 0 (c5.map (cdL 1 (cdL 1 cdI)).enc)), (6, .v (.int .i64 c6)), (7, hd 1 ([(wr .i64 (x0 - 1)), c6].map cdI.enc)), (22, .v (.int .i64 (wr .i64 (x0.tdiv 2)))), (23, .v (.int .i64 c6))] [mk 1 49 (c5.map (cdL 1 (cdL 1 cdI)).enc), mk 1 3 ([(wr .i64 (x0 - 1)), c6].map cdI.enc)] (by kernel_rfl) ?_
        exact RunS.done rfl (Wk.sel2 [0, 1] (by kernel_rfl) (by kernel_rfl) (by kernel_rfl) ⟨⟨_, rfl, bu_mk⟩, ⟨_, rfl, bu_mk⟩, trivial⟩ ⟨lu (by kernel_rfl) (by kernel_rfl), lu (by kernel_rfl) (by kernel_rfl), lu_hd (b' := 0) (by kernel_rfl) (by kernel_rfl), lu (by kernel_rfl) (by kernel_rfl), lu_hd (b' := 1) (by kernel_rfl) (by kernel_rfl), lu (by kernel_rfl) (by kernel_rfl), lu (by kernel_rfl) (by kernel_rfl), trivial⟩)
      refine Sem.seq ?_
      refine Sem.seq ?_
      refine Sem.runS (s1 := ⟨Fr 66 [(0, .v (.int .i64 x0)), (4, .v (.int .i64 (wr .i64 (x0.tdiv 2)))), (5, hd 0 (c5.map (cdL 1 (cdL 1 cdI)).enc)), (6, .v (.int .i64 c6)), (7, hd 1 ([(wr .i64 (x0 - 1)), c6].map cdI.enc)), (8, .v (.int .i64 1)), (22, .v (.int .i64 (wr .i64 (x0.tdiv 2)))), (23, .v (.int .i64 c6))], [mk 1 49 (c5.map (cdL 1 (cdL 1 cdI)).enc), mk 1 3 ([(wr .i64 (x0 - 1)), c6].map cdI.enc)]⟩) ?_ ?_
      · refine RunS.segF (n := 66) e_evening_Rings_ok 1 [(0, .v (.int .i64 x0)), (4, .v (.int .i64 (wr .i64 (x0.tdiv 2)))), (5, hd 0 (c5.map (cdL 1 (cdL 1 cdI)).enc)), (6, .v (.int .i64 c6)), (7, hd 1 ([(wr .i64 (x0 - 1)), c6].map cdI.enc)), (8, .v (.int .i64 1)), (22, .v (.int .i64 (wr .i64 (x0.tdiv 2)))), (23, .v (.int .i64 c6))] [mk 1 49 (c5.map (cdL 1 (cdL 1 cdI)).enc), mk 1 3 ([(wr .i64 (x0 - 1)), c6].map cdI.enc)] (by kernel_rfl) ?_
        exact RunS.done rfl (Wk.sel2 [0, 1] (by kernel_rfl) (by kernel_rfl) (by kernel_rfl) ⟨⟨_, rfl, bu_mk⟩, ⟨_, rfl, bu_mk⟩, trivial⟩ ⟨lu (by kernel_rfl) (by kernel_rfl), lu (by kernel_rfl) (by kernel_rfl), lu_hd (b' := 0) (by kernel_rfl) (by kernel_rfl), lu (by kernel_rfl) (by kernel_rfl), lu_hd (b' := 1) (by kernel_rfl) (by kernel_rfl), lu (by kernel_rfl) (by kernel_rfl), lu (by kernel_rfl) (by kernel_rfl), lu (by kernel_rfl) (by kernel_rfl), trivial⟩)
      refine Sem.block ?_
      obtain ⟨r19, hr19, h⟩ := Option.bind_eq_some_iff.1 h
      refine Sem.loop (n := 100000) ?_
      refine Sem.cutN (SemN.wk (s1 := ⟨Fr 66 [(0, .v (.int .i64 x0)), (4, .v (.int .i64 (wr .i64 (x0.tdiv 2)))), (5, hd 0 (c5.map (cdL 1 (cdL 1 cdI)).enc)), (6, .v (.int .i64 c6)), (7, hd 1 ([(wr .i64 (x0 - 1)), c6].map cdI.enc)), (8, .v (.int .i64 1)), (22, .v (.int .i64 (wr .i64 (x0.tdiv 2)))), (23, .v (.int .i64 c6))], [mk 1 49 (c5.map (cdL 1 (cdL 1 cdI)).enc), mk 1 3 ([(wr .i64 (x0 - 1)), c6].map cdI.enc)]⟩) (Wk.sel2 [0, 1] (by kernel_rfl) (by kernel_rfl) (by kernel_rfl) ⟨⟨_, rfl, bu_mk⟩, ⟨_, rfl, bu_mk⟩, trivial⟩ ⟨lu (by kernel_rfl) (by kernel_rfl), lu (by kernel_rfl) (by kernel_rfl), lu_hd (b' := 0) (by kernel_rfl) (by kernel_rfl), lu (by kernel_rfl) (by kernel_rfl), lu_hd (b' := 1) (by kernel_rfl) (by kernel_rfl), lu (by kernel_rfl) (by kernel_rfl), lu (by kernel_rfl) (by kernel_rfl), lu (by kernel_rfl) (by kernel_rfl), trivial⟩) (evening_Rings_2_ok x0 c5 c6 _ [(wr .i64 (x0 - 1)), c6] 1 _ hr19)) ?_
      by_cases hk20 : (capOk 24 (c5.length + 1)) = true
      case neg => rw [if_neg hk20] at h; cases h
      rw [if_pos hk20] at h
      refine Sem.runS (s1 := ⟨Fr 66 [(0, .v (.int .i64 x0)), (4, .v (.int .i64 (wr .i64 (x0.tdiv 2)))), (5, hd 0 ((c5 ++ [[r19]]).map (cdL 1 (cdL 1 cdI)).enc)), (22, .v (.int .i64 (wr .i64 (x0.tdiv 2)))), (23, .v (.int .i64 c6))], [mk 1 49 ((c5 ++ [[r19]]).map (cdL 1 (cdL 1 cdI)).enc)]⟩) ?_ ?_
      · refine RunS.segF (n := 66) e_evening_Rings_ok 2 [(0, .v (.int .i64 x0)), (4, .v (.int .i64 (wr .i64 (x0.tdiv 2)))), (22, .v (.int .i64 (wr .i64 (x0.tdiv 2)))), (23, .v (.int .i64 c6)), (59, hd 0 (c5.map (cdL 1 (cdL 1 cdI)).enc)), (60, hd 1 (r19.map cdI.enc))] [mk 1 49 (c5.map (cdL 1 (cdL 1 cdI)).enc), mk 1 3 (r19.map cdI.enc)] (by kernel_rfl) ?_
        refine RunS.wk (s1 := ⟨Fr 66 [(0, .v (.int .i64 x0)), (4, .v (.int .i64 (wr .i64 (x0.tdiv 2)))), (22, .v (.int .i64 (wr .i64 (x0.tdiv 2)))), (23, .v (.int .i64 c6)), (59, hd 0 (c5.map (cdL 1 (cdL 1 cdI)).enc)), (60, .sl 1 (r19.map cdI.enc))], [mk 1 49 (c5.map (cdL 1 (cdL 1 cdI)).enc), none]⟩) (Wk.frzG 1 (.inl (by kernel_rfl)) ⟨.inr (.inl rfl), .inl rfl, trivial⟩ ⟨⟨.v (.int .i64 x0), (by kernel_rfl), .inl rfl⟩, ⟨.v (.int .i64 (wr .i64 (x0.tdiv 2))), (by kernel_rfl), .inl rfl⟩, ⟨.v (.int .i64 (wr .i64 (x0.tdiv 2))), (by kernel_rfl), .inl rfl⟩, ⟨.v (.int .i64 c6), (by kernel_rfl), .inl rfl⟩, ⟨hd 0 (c5.map (cdL 1 (cdL 1 cdI)).enc), (by kernel_rfl), .inl rfl⟩, ⟨hd 1 (r19.map cdI.enc), (by kernel_rfl), fz_hd (t := 3) (by kernel_rfl) enc_ok⟩, trivial⟩) ?_
        refine RunS.segF (n := 66) e_evening_Rings_ok 2 [(0, .v (.int .i64 x0)), (4, .v (.int .i64 (wr .i64 (x0.tdiv 2)))), (22, .v (.int .i64 (wr .i64 (x0.tdiv 2)))), (23, .v (.int .i64 c6)), (59, hd 0 (c5.map (cdL 1 (cdL 1 cdI)).enc)), (62, .rf 3 0 1 1)] [mk 1 49 (c5.map (cdL 1 (cdL 1 cdI)).enc), none, mk 1 24 ([r19].map (cdL 1 cdI).enc), some ⟨1, 49, [hd 2 ([r19].map (cdL 1 cdI).enc)], false⟩] (by kernel_rfl) ?_
        refine RunS.wk (s1 := ⟨Fr 66 [(0, .v (.int .i64 x0)), (4, .v (.int .i64 (wr .i64 (x0.tdiv 2)))), (22, .v (.int .i64 (wr .i64 (x0.tdiv 2)))), (23, .v (.int .i64 c6)), (59, hd 0 (c5.map (cdL 1 (cdL 1 cdI)).enc)), (62, hd 3 ([[r19]].map (cdL 1 (cdL 1 cdI)).enc))], [mk 1 49 (c5.map (cdL 1 (cdL 1 cdI)).enc), none, none, mk 1 49 ([[r19]].map (cdL 1 (cdL 1 cdI)).enc)]⟩) (Wk.frzG 2 (.inl (by kernel_rfl)) ⟨.inr (.inl rfl), .inl rfl, .inl rfl, .inr (.inr ⟨_, _, _, _, rfl, rfl, ⟨fz_hd (t := 24) (by kernel_rfl) enc_ok, trivial⟩⟩), trivial⟩ ⟨⟨.v (.int .i64 x0), (by kernel_rfl), .inl rfl⟩, ⟨.v (.int .i64 (wr .i64 (x0.tdiv 2))), (by kernel_rfl), .inl rfl⟩, ⟨.v (.int .i64 (wr .i64 (x0.tdiv 2))), (by kernel_rfl), .inl rfl⟩, ⟨.v (.int .i64 c6), (by kernel_rfl), .inl rfl⟩, ⟨hd 0 (c5.map (cdL 1 (cdL 1 cdI)).enc), (by kernel_rfl), .inl rfl⟩, ⟨.rf 3 0 1 1, (by kernel_rfl), .inl rfl⟩, trivial⟩) ?_
        refine RunS.one e_evening_Rings_ok 0 rfl (op_w (wantedA_none rfl) rfl (by kernel_rfl) (by kernel_rfl) (w_append (a := hd 0 (c5.map (cdL 1 (cdL 1 cdI)).enc)) (b := hd 3 ([[r19]].map (cdL 1 (cdL 1 cdI)).enc)) (by kernel_rfl) (by kernel_rfl) (append_B (c := (cdL 1 (cdL 1 cdI))) (xs := c5) (vs := [[r19]]) (k := 1) (bytes := 24) (el := 49) (by kernel_rfl) (by kernel_rfl) (elems_hd (t := 49) (by kernel_rfl)) (List.cons_ne_nil _ _) (by kernel_rfl) hk20))) ?_
        refine RunS.segF (n := 66) e_evening_Rings_ok 1 [(0, .v (.int .i64 x0)), (4, .v (.int .i64 (wr .i64 (x0.tdiv 2)))), (5, hd 4 ((c5 ++ [[r19]]).map (cdL 1 (cdL 1 cdI)).enc)), (22, .v (.int .i64 (wr .i64 (x0.tdiv 2)))), (23, .v (.int .i64 c6))] [none, none, none, mk 1 49 ([[r19]].map (cdL 1 (cdL 1 cdI)).enc), mk 1 49 ((c5 ++ [[r19]]).map (cdL 1 (cdL 1 cdI)).enc)] (by kernel_rfl) ?_
        exact RunS.done rfl (Wk.sel2 [4] (by kernel_rfl) (by kernel_rfl) (by kernel_rfl) ⟨⟨_, rfl, bu_mk⟩, trivial⟩ ⟨lu (by kernel_rfl) (by kernel_rfl), lu (by kernel_rfl) (by kernel_rfl), lu_hd (b' := 4) (by kernel_rfl) (by kernel_rfl), lu (by kernel_rfl) (by kernel_rfl), lu (by kernel_rfl) (by kernel_rfl), trivial⟩)
      refine Sem.runS (s1 := ⟨Fr 66 [(0, .v (.int .i64 x0)), (4, .v (.int .i64 (wr .i64 (x0.tdiv 2)))), (5, hd 0 ((c5 ++ [[r19]]).map (cdL 1 (cdL 1 cdI)).enc)), (22, .v (.int .i64 (wr .i64 (x0.tdiv 2)))), (23, .v (.int .i64 (wr .i64 (c6 + 1))))], [mk 1 49 ((c5 ++ [[r19]]).map (cdL 1 (cdL 1 cdI)).enc)]⟩) ?_ ?_
      · refine RunS.segF (n := 66) e_evening_Rings_ok 2 [(0, .v (.int .i64 x0)), (4, .v (.int .i64 (wr .i64 (x0.tdiv 2)))), (5, hd 0 ((c5 ++ [[r19]]).map (cdL 1 (cdL 1 cdI)).enc)), (22, .v (.int .i64 (wr .i64 (x0.tdiv 2)))), (23, .v (.int .i64 (wr .i64 (c6 + 1))))] [mk 1 49 ((c5 ++ [[r19]]).map (cdL 1 (cdL 1 cdI)).enc)] (by kernel_rfl) ?_
        exact RunS.done rfl (Wk.sel2 [0] (by kernel_rfl) (by kernel_rfl) (by kernel_rfl) ⟨⟨_, rfl, bu_mk⟩, trivial⟩ ⟨lu (by kernel_rfl) (by kernel_rfl), lu (by kernel_rfl) (by kernel_rfl), lu_hd (b' := 0) (by kernel_rfl) (by kernel_rfl), lu (by kernel_rfl) (by kernel_rfl), lu (by kernel_rfl) (by kernel_rfl), trivial⟩)
      exact SemN.wk (s1 := ⟨Fr 66 [(0, .v (.int .i64 x0)), (4, .v (.int .i64 (wr .i64 (x0.tdiv 2)))), (5, hd 0 ((c5 ++ [[r19]]).map (cdL 1 (cdL 1 cdI)).enc)), (22, .v (.int .i64 (wr .i64 (x0.tdiv 2)))), (23, .v (.int .i64 (wr .i64 (c6 + 1))))], [mk 1 49 ((c5 ++ [[r19]]).map (cdL 1 (cdL 1 cdI)).enc)]⟩) (Wk.sel2 [0] (by kernel_rfl) (by kernel_rfl) (by kernel_rfl) ⟨⟨_, rfl, bu_mk⟩, trivial⟩ ⟨lu (by kernel_rfl) (by kernel_rfl), lu (by kernel_rfl) (by kernel_rfl), lu_hd (b' := 0) (by kernel_rfl) (by kernel_rfl), lu (by kernel_rfl) (by kernel_rfl), lu (by kernel_rfl) (by kernel_rfl), trivial⟩) (ih (c5 ++ [[r19]]) (wr .i64 (c6 + 1)) h)
    · rw [if_f hb7] at h
      refine Sem.exit ?_
      have hq := Option.some.inj h; subst hq
      exact ⟨rfl, (Wk.sel2 [0] (by kernel_rfl) (by kernel_rfl) (by kernel_rfl) ⟨⟨_, rfl, bu_mk⟩, trivial⟩ ⟨lu_hd (b' := 0) (by kernel_rfl) (by kernel_rfl), trivial⟩)⟩
set_option maxHeartbeats 4000000 in
set_option maxRecDepth 100000 in
theorem evening_Rings_sem (x0 : Int) (r : (List (List (List Int))) × Int) (h : evening_Rings x0 = some r) : Sem e_evening_Rings ⟨none, false⟩ cb_evening_Rings ⟨Fr 66 (pairs0 0 (cs_evening_Rings.enc (x0, ()))), []⟩ fun e s' => (e = .normal ∨ e = .ret) ∧ ∃ xs, resA e_evening_Rings.P s'.fr s'.hp Tryd.f44.results.toList = some xs ∧ retA xs = er_evening_Rings r := by
  unfold evening_Rings at h
  refine Sem.wkQ (Sem.wk (s1 := ⟨Fr 66 [(0, .v (.int .i64 x0))], []⟩) (Wk.fr (by kernel_rfl)) ?_)
  refine Sem.seq ?_
  refine Sem.runS (s1 := ⟨Fr 66 [(0, .v (.int .i64 x0))], []⟩) ?_ ?_
  · refine RunS.segF (n := 66) e_evening_Rings_ok 2 [(0, .v (.int .i64 x0))] [] (by kernel_rfl) ?_
    exact RunS.done rfl (Wk.fr (by kernel_rfl))
  refine Sem.seq ?_
  refine Sem.block ?_
  refine Sem.seq ?_
  obtain ⟨j2, hj2, h⟩ := Option.bind_eq_some_iff.1 h
  refine Sem.runS (s1 := ⟨Fr 66 [(0, .v (.int .i64 x0)), (9, .v (.bool j2))], []⟩) ?_ ?_
  · refine RunS.segF (n := 66) e_evening_Rings_ok 3 [(0, .v (.int .i64 x0)), (12, .v (.bool (decide (x0 < 3))))] [] (by kernel_rfl) ?_
    rcases Bool.eq_false_or_eq_true (decide (x0 < 3)) with hc23 | hc23
    · rw [if_pos hc23] at hj2
      rw [hc23]
      refine RunS.segF (n := 66) e_evening_Rings_ok 4 [(0, .v (.int .i64 x0)), (9, .v (.bool true))] [] (by kernel_rfl) ?_
      have hq := Option.some.inj hj2; subst hq
      exact RunS.done rfl (Wk.fr (by kernel_rfl))
    · rw [if_f hc23] at hj2
      rw [hc23]
      refine RunS.segF (n := 66) e_evening_Rings_ok 4 [(0, .v (.int .i64 x0)), (9, .v (.bool (decide (x0 > 64))))] [] (by kernel_rfl) ?_
      have hq := Option.some.inj hj2; subst hq
      exact RunS.done rfl (Wk.fr (by kernel_rfl))
  refine Sem.cond (b := j2) (by kernel_rfl) (fun hb3 => ?_) (fun hb3 => ?_)
  · rw [if_pos hb3] at h
    refine Sem.seq ?_
    refine Sem.runS (s1 := ⟨Fr 66 [(2, .e0), (3, .v (.int .i64 90))], []⟩) ?_ ?_
    · refine RunS.segF (n := 66) e_evening_Rings_ok 2 [(2, .e0), (3, .v (.int .i64 90))] [] (by kernel_rfl) ?_
      exact RunS.done rfl (Wk.fr (by kernel_rfl))
    refine Sem.ret ?_
    have hq := Option.some.inj h; subst hq
    exact ⟨⟨Fr 66 [(2, .sl 1 ([].map (cdL 1 (cdL 1 cdI)).enc)), (3, .v (.int .i64 90))], []⟩, (Wk.trans (s1 := ⟨Fr 66 [(2, .e0), (3, .v (.int .i64 90))], []⟩) (Wk.fr (by kernel_rfl)) (Wk.trans (s1 := ⟨Fr 66 [(2, .e0), (3, .v (.int .i64 90))], [none]⟩) Wk.none (Wk.trans (s1 := ⟨Fr 66 [(2, .sl 1 ([].map (cdL 1 (cdL 1 cdI)).enc)), (3, .v (.int .i64 90))], [none]⟩) (Wk.frzG 0 (.inr (by kernel_rfl)) ⟨.inl rfl, trivial⟩ ⟨⟨.e0, (by kernel_rfl), fz_e0⟩, ⟨.v (.int .i64 90), (by kernel_rfl), .inl rfl⟩, trivial⟩) (Wk.sel2 [] (by kernel_rfl) (by kernel_rfl) (by kernel_rfl) trivial ⟨lu (by kernel_rfl) (by kernel_rfl), lu (by kernel_rfl) (by kernel_rfl), trivial⟩)))), .inr rfl, [.sl 1 ([].map (cdL 1 (cdL 1 cdI)).enc), .v (.int .i64 90)], (by kernel_rfl), (by kernel_rfl)⟩
  · rw [if_f hb3] at h
    refine Sem.seq ?_
    refine Sem.runS (s1 := ⟨Fr 66 [(0, .v (.int .i64 x0)), (16, .v (.bool ((x0.tmod 2) == 0)))], []⟩) ?_ ?_
    · refine RunS.segF (n := 66) e_evening_Rings_ok 4 [(0, .v (.int .i64 x0)), (16, .v (.bool ((x0.tmod 2) == 0)))] [] (by kernel_rfl) ?_
      exact RunS.done rfl (Wk.fr (by kernel_rfl))
    refine Sem.cond (b := ((x0.tmod 2) == 0)) (by kernel_rfl) (fun hb4 => ?_) (fun hb4 => ?_)
    · rw [if_pos hb4] at h
      refine Sem.seq ?_
      refine Sem.runS (s1 := ⟨Fr 66 [(2, .e0), (3, .v (.int .i64 91))], []⟩) ?_ ?_
      · refine RunS.segF (n := 66) e_evening_Rings_ok 2 [(2, .e0), (3, .v (.int .i64 91))] [] (by kernel_rfl) ?_
        exact RunS.done rfl (Wk.fr (by kernel_rfl))
      refine Sem.ret ?_
      have hq := Option.some.inj h; subst hq
      exact ⟨⟨Fr 66 [(2, .sl 1 ([].map (cdL 1 (cdL 1 cdI)).enc)), (3, .v (.int .i64 91))], []⟩, (Wk.trans (s1 := ⟨Fr 66 [(2, .e0), (3, .v (.int .i64 91))], []⟩) (Wk.fr (by kernel_rfl)) (Wk.trans (s1 := ⟨Fr 66 [(2, .e0), (3, .v (.int .i64 91))], [none]⟩) Wk.none (Wk.trans (s1 := ⟨Fr 66 [(2, .sl 1 ([].map (cdL 1 (cdL 1 cdI)).enc)), (3, .v (.int .i64 91))], [none]⟩) (Wk.frzG 0 (.inr (by kernel_rfl)) ⟨.inl rfl, trivial⟩ ⟨⟨.e0, (by kernel_rfl), fz_e0⟩, ⟨.v (.int .i64 91), (by kernel_rfl), .inl rfl⟩, trivial⟩) (Wk.sel2 [] (by kernel_rfl) (by kernel_rfl) (by kernel_rfl) trivial ⟨lu (by kernel_rfl) (by kernel_rfl), lu (by kernel_rfl) (by kernel_rfl), trivial⟩)))), .inr rfl, [.sl 1 ([].map (cdL 1 (cdL 1 cdI)).enc), .v (.int .i64 91)], (by kernel_rfl), (by kernel_rfl)⟩
    · rw [if_f hb4] at h
      refine Sem.skip ?_
      refine Sem.seq ?_
      refine Sem.runS (s1 := ⟨Fr 66 [(0, .v (.int .i64 x0)), (4, .v (.int .i64 (wr .i64 (x0.tdiv 2))))], []⟩) ?_ ?_
      · refine RunS.segF (n := 66) e_evening_Rings_ok 3 [(0, .v (.int .i64 x0)), (4, .v (.int .i64 (wr .i64 (x0.tdiv 2))))] [] (by kernel_rfl) ?_
        exact RunS.done rfl (Wk.fr (by kernel_rfl))
      refine Sem.seq ?_
      refine Sem.runS (s1 := ⟨Fr 66 [(0, .v (.int .i64 x0)), (4, .v (.int .i64 (wr .i64 (x0.tdiv 2)))), (5, .e0)], []⟩) ?_ ?_
      · refine RunS.segF (n := 66) e_evening_Rings_ok 1 [(0, .v (.int .i64 x0)), (4, .v (.int .i64 (wr .i64 (x0.tdiv 2)))), (5, .e0)] [] (by kernel_rfl) ?_
        exact RunS.done rfl (Wk.fr (by kernel_rfl))
      refine Sem.seq ?_
      refine Sem.seq ?_
      refine Sem.runS (s1 := ⟨Fr 66 [(0, .v (.int .i64 x0)), (4, .v (.int .i64 (wr .i64 (x0.tdiv 2)))), (5, .e0), (22, .v (.int .i64 (wr .i64 (x0.tdiv 2)))), (23, .v (.int .i64 0))], []⟩) ?_ ?_
      · refine RunS.segF (n := 66) e_evening_Rings_ok 2 [(0, .v (.int .i64 x0)), (4, .v (.int .i64 (wr .i64 (x0.tdiv 2)))), (5, .e0), (22, .v (.int .i64 (wr .i64 (x0.tdiv 2)))), (23, .v (.int .i64 0))] [] (by kernel_rfl) ?_
        exact RunS.done rfl (Wk.fr (by kernel_rfl))
      refine Sem.block ?_
      obtain ⟨r22, hr22, h⟩ := Option.bind_eq_some_iff.1 h
      refine Sem.loop (n := 100000) ?_
      refine Sem.cutN (SemN.wk (s1 := ⟨Fr 66 [(0, .v (.int .i64 x0)), (4, .v (.int .i64 (wr .i64 (x0.tdiv 2)))), (5, hd 0 ([].map (cdL 1 (cdL 1 cdI)).enc)), (22, .v (.int .i64 (wr .i64 (x0.tdiv 2)))), (23, .v (.int .i64 0))], [mk 1 49 ([].map (cdL 1 (cdL 1 cdI)).enc)]⟩) (Wk.trans (s1 := ⟨Fr 66 [(0, .v (.int .i64 x0)), (4, .v (.int .i64 (wr .i64 (x0.tdiv 2)))), (5, hd 0 ([].map (cdL 1 (cdL 1 cdI)).enc)), (22, .v (.int .i64 (wr .i64 (x0.tdiv 2)))), (23, .v (.int .i64 0))], [mk 1 49 ([].map (cdL 1 (cdL 1 cdI)).enc)]⟩) Wk.none (Wk.sel2 [0] (by kernel_rfl) (by kernel_rfl) (by kernel_rfl) ⟨⟨_, rfl, bu_none⟩, trivial⟩ ⟨lu (by kernel_rfl) (by kernel_rfl), lu (by kernel_rfl) (by kernel_rfl), lu (by kernel_rfl) (by kernel_rfl), lu (by kernel_rfl) (by kernel_rfl), lu (by kernel_rfl) (by kernel_rfl), trivial⟩)) (evening_Rings_1_ok x0 _ [] 0 _ hr22)) ?_
      refine Sem.seq ?_
      refine Sem.runS (s1 := ⟨Fr 66 [(2, hd 0 (r22.map (cdL 1 (cdL 1 cdI)).enc)), (3, .v (.int .i64 0))], [mk 1 49 (r22.map (cdL 1 (cdL 1 cdI)).enc)]⟩) ?_ ?_
      · refine RunS.segF (n := 66) e_evening_Rings_ok 3 [(2, hd 0 (r22.map (cdL 1 (cdL 1 cdI)).enc)), (3, .v (.int .i64 0))] [mk 1 49 (r22.map (cdL 1 (cdL 1 cdI)).enc)] (by kernel_rfl) ?_
        exact RunS.done rfl (Wk.sel2 [0] (by kernel_rfl) (by kernel_rfl) (by kernel_rfl) ⟨⟨_, rfl, bu_mk⟩, trivial⟩ ⟨lu_hd (b' := 0) (by kernel_rfl) (by kernel_rfl), lu (by kernel_rfl) (by kernel_rfl), trivial⟩)
      refine Sem.ret ?_
      have hq := Option.some.inj h; subst hq
      exact ⟨⟨Fr 66 [(2, .sl 1 (r22.map (cdL 1 (cdL 1 cdI)).enc)), (3, .v (.int .i64 0))], []⟩, (Wk.trans (s1 := ⟨Fr 66 [(2, .sl 1 (r22.map (cdL 1 (cdL 1 cdI)).enc)), (3, .v (.int .i64 0))], [none]⟩) (Wk.frzG 0 (.inl (by kernel_rfl)) ⟨.inl rfl, trivial⟩ ⟨⟨hd 0 (r22.map (cdL 1 (cdL 1 cdI)).enc), (by kernel_rfl), fz_hd (t := 49) (by kernel_rfl) enc_ok⟩, ⟨.v (.int .i64 0), (by kernel_rfl), .inl rfl⟩, trivial⟩) (Wk.sel2 [] (by kernel_rfl) (by kernel_rfl) (by kernel_rfl) trivial ⟨lu (by kernel_rfl) (by kernel_rfl), lu (by kernel_rfl) (by kernel_rfl), trivial⟩)), .inr rfl, [.sl 1 (r22.map (cdL 1 (cdL 1 cdI)).enc), .v (.int .i64 0)], (by kernel_rfl), (by kernel_rfl)⟩
def t_evening_Rings : List AV → Option AV := told cs_evening_Rings (fun a => evening_Rings a.1) er_evening_Rings
theorem x_evening_Rings : XOk 44 t_evening_Rings := by
  refine EnvOk.x (E := e_evening_Rings) (contract_ok e_evening_Rings_ok (fn := Tryd.f44) (c := cb_evening_Rings) ?h1 ?h2 ⟨Tryd.call44⟩ cs_evening_Rings (fun a => evening_Rings a.1) er_evening_Rings (fun a => (by show 1 ≤ 66; decide)) ?h3 ?h4) rfl rfl
  case h1 => kernel_rfl
  case h2 => kernel_rfl
  case h3 => intro b; kernel_rfl
  case h4 => exact fun a b h => evening_Rings_sem a.1 b h
end Go.Proofs.YthofgamegondnaaDoor

namespace Go.Proofs.YthofgamegondnaaDoor
open Go.RowKit
def law09_awake : Option Bool := some true
def cs_law09_awake : Cs Unit := csN
def er_law09_awake (b : Bool) : AV := cdB.enc b
def t_law09_awake : List AV → Option AV := told cs_law09_awake (fun _ => law09_awake) er_law09_awake
theorem x_law09_awake : XOk 16 t_law09_awake := by
  refine ⟨⟨Tryd.call16⟩, fun xs x h w Z us _ _ hv => ?_⟩
  obtain ⟨a, ha, h⟩ := Option.bind_eq_some_iff.1 h
  obtain ⟨b, hb, rfl⟩ := Option.map_eq_some_iff.1 h
  have hb := Option.some.inj hb
  subst hb
  have : xs = [] := by
    cases xs with
    | nil => rfl
    | cons x xs => cases ha
  subst this
  have : us = [] := by have := hv.len; simpa using this
  subst this
  exact Ret.mono (awake_ret w) fun v w' h => ⟨h.2, by rw [h.1]; exact vr_true⟩

/-- slices.Clone: nil for nil, else a new slice. -/
noncomputable def cb_clone : Code := codeOf Tryd.f27
def own1 (xs : List Int) : Option Blk := some ⟨1, 3, xs.map cdI.enc, false⟩
set_option maxRecDepth 100000 in
theorem clone_sem (xs : List Int) (hc : capOk 8 xs.length = true) : Sem E0 ⟨none, false⟩ cb_clone ⟨Fr 8 [(0, .sl 1 (xs.map cdI.enc))], []⟩ fun e s' => (e = .normal ∨ e = .ret) ∧ ((xs = [] ∧ s' = ⟨Fr 8 [(2, .e0)], []⟩) ∨ s' = ⟨Fr 8 [(2, .rf 0 0 xs.length xs.length)], [own1 xs]⟩) := by
  refine Sem.seq ?_
  refine Sem.runS (s1 := ⟨Fr 8 [(0, .sl 1 (xs.map cdI.enc)), (2, .e0)], []⟩) ?_ ?_
  · refine RunS.seg E0_ok 1 (s1 := ⟨Fr 8 [(0, .sl 1 (xs.map cdI.enc)), (2, .e0)], []⟩) (by kernel_rfl) ?_
    exact RunS.done rfl (Wk.fr (by kernel_rfl))
  refine Sem.seq ?_
  refine Sem.seq (Sem.runQ ?_)
  refine RunS.seg E0_ok 1 (s1 := ⟨Fr 8 [(0, .sl 1 (xs.map cdI.enc)), (2, .e0), (3, .sl 1 (xs.map cdI.enc))], []⟩) (by kernel_rfl) ?_
  refine RunS.isnil (k := 1) (el := 3) (es := xs.map cdI.enc) rfl (wantedA_none rfl) (by kernel_rfl) (by kernel_rfl) fun b hb => RunS.done rfl ?_
  have hb : b = true → xs = [] := fun h => List.map_eq_nil_iff.1 (hb h)
  refine Sem.cond (b := b) (by kernel_rfl) (fun hb1 => ?_) (fun hb1 => ?_)
  · have hx := hb hb1
    refine Sem.wkQ ?_
    refine Sem.seq (Sem.runS (s1 := ⟨Fr 8 [(2, .e0)], []⟩) ?_ (Sem.ret ?_))
    · refine RunS.seg E0_ok 1 (s1 := ⟨Fr 8 [(0, .sl 1 (xs.map cdI.enc)), (2, .e0), (3, .sl 1 (xs.map cdI.enc)), (4, .v (.bool b))], []⟩) (by kernel_rfl) ?_
      exact RunS.done rfl (Wk.fr (by kernel_rfl))
    · exact ⟨_, Wk.refl, .inr rfl, .inl ⟨hx, rfl⟩⟩
  · refine Sem.skip ?_
    refine Sem.wkQ (Sem.seq (Sem.runQ ?_))
    refine RunS.seg E0_ok 2 (s1 := ⟨Fr 8 [(0, .sl 1 (xs.map cdI.enc)), (2, .e0), (3, .sl 1 (xs.map cdI.enc)), (4, .v (.bool b)), (5, .rf 0 0 0 0), (6, .sl 1 (xs.map cdI.enc))], [own1 []]⟩) (by kernel_rfl) ?_
    cases xs with
    | nil =>
      refine RunS.one E0_ok 0 rfl (op_w (x := .rf 0 0 0 0) (hp' := [own1 []]) (wantedA_none rfl) rfl (by kernel_rfl) (by kernel_rfl) (by kernel_rfl)) ?_
      refine RunS.seg E0_ok 1 (s1 := ⟨Fr 8 [(0, .sl 1 []), (2, .rf 0 0 0 0), (3, .sl 1 []), (4, .v (.bool b)), (5, .rf 0 0 0 0), (6, .sl 1 []), (7, .rf 0 0 0 0)], [own1 []]⟩) (by kernel_rfl) (RunS.done rfl (Sem.ret ?_))
      exact ⟨⟨Fr 8 [(2, .rf 0 0 0 0)], [own1 []]⟩, Wk.fr (by kernel_rfl), .inr rfl, .inr rfl⟩
    | cons y ys =>
      refine RunS.one E0_ok 0 rfl (op_w (wantedA_none rfl) rfl (by kernel_rfl) (by kernel_rfl) (w_append (a := .rf 0 0 0 0) (b := .sl 1 ((y :: ys).map cdI.enc)) (by kernel_rfl) (by kernel_rfl) (append_R (c := cdI) (xs := []) (vs := y :: ys) (k := 1) (bytes := 8) (el := 3) (by kernel_rfl) (by kernel_rfl) elems_sl (List.cons_ne_nil _ _) (by kernel_rfl) (by rw [List.length_nil, Nat.zero_add]; exact hc)))) ?_
      refine RunS.seg E0_ok 1 (s1 := ⟨Fr 8 [(0, .sl 1 ((y :: ys).map cdI.enc)), (2, .rf 1 0 (y :: ys).length (y :: ys).length), (3, .sl 1 ((y :: ys).map cdI.enc)), (4, .v (.bool b)), (5, .rf 0 0 0 0), (6, .sl 1 ((y :: ys).map cdI.enc)), (7, .rf 1 0 (y :: ys).length (y :: ys).length)], [none, own1 (y :: ys)]⟩) (by kernel_rfl) (RunS.done rfl (Sem.ret ?_))
      exact ⟨⟨Fr 8 [(2, .rf 0 0 (y :: ys).length (y :: ys).length)], [own1 (y :: ys)]⟩, Wk.sel2 [1] (by kernel_rfl) (by kernel_rfl) (by kernel_rfl) ⟨⟨_, rfl, bu_own⟩, trivial⟩ ⟨lu (by kernel_rfl) (by kernel_rfl), trivial⟩, .inr rfl, .inr rfl⟩
/-- .. as it is told to those who only read. -/
def slices_Clone_L_int (xs : List Int) : Option (List Int) := if capOk 8 xs.length = true then some xs else none
def cs_slices_Clone_L_int : Cs (List Int × Unit) := csC (cdL 1 cdI) csN
def er_slices_Clone_L_int (r : List Int) : AV := (cdL 1 cdI).enc r
def t_slices_Clone_L_int : List AV → Option AV := told cs_slices_Clone_L_int (fun a => slices_Clone_L_int a.1) er_slices_Clone_L_int
theorem x_slices_Clone_L_int : XOk 27 t_slices_Clone_L_int := by
  refine EnvOk.x (E := E0) (contract_ok E0_ok (fn := Tryd.f27) (c := cb_clone) ?h1 ?h2 ⟨Tryd.call27⟩ cs_slices_Clone_L_int (fun a => slices_Clone_L_int a.1) er_slices_Clone_L_int (fun a => (by show 1 ≤ 8; decide)) ?h3 ?h4) rfl rfl
  case h1 => kernel_rfl
  case h2 => kernel_rfl
  case h3 => intro b; kernel_rfl
  case h4 =>
    intro a r h
    have h : slices_Clone_L_int a.1 = some r := h
    unfold slices_Clone_L_int at h
    by_cases hc : capOk 8 a.1.length = true
    · rw [if_pos hc] at h
      injection h with h
      subst h
      refine Sem.wkQ (Sem.mono (clone_sem a.1 hc) ?_)
      rintro e s' ⟨he, ⟨hx, rfl⟩ | rfl⟩
      · rw [hx]
        exact ⟨⟨Fr 8 [(2, .sl 1 [])], [none]⟩, Wk.trans (s1 := ⟨Fr 8 [(2, .e0)], [none]⟩) Wk.none (Wk.frzG 0 (.inl (by kernel_rfl)) ⟨.inl rfl, trivial⟩ ⟨⟨.e0, (by kernel_rfl), fz_e0⟩, trivial⟩), he, [.sl 1 []], by kernel_rfl, by kernel_rfl⟩
      · exact ⟨⟨Fr 8 [(2, .sl 1 (a.1.map cdI.enc))], [none]⟩, Wk.frzG 0 (.inl (by kernel_rfl)) ⟨.inl rfl, trivial⟩ ⟨⟨.rf 0 0 a.1.length a.1.length, (by kernel_rfl), fz_rlT (c := cdI) (xs := a.1) (t := 3) (by kernel_rfl)⟩, trivial⟩, he, [.sl 1 (a.1.map cdI.enc)], by kernel_rfl, by kernel_rfl⟩
    · rw [if_neg hc] at h; cases h
end Go.Proofs.YthofgamegondnaaDoor

namespace Go.Proofs.YthofgamegondnaaDoor
open Go.RowKit
/- trestle/evening.guests -/
noncomputable def e_evening_guests : Env := E0
theorem e_evening_guests_ok : EnvOk e_evening_guests := E0_ok
noncomputable def cb_evening_guests : Code := codeOf Tryd.f67
def evening_guests (x0 : Int) : Option (Bool) :=
  (if (decide (x0 ≥ 1)) = true then some (decide (x0 ≤ 64)) else some false).bind fun j2 =>
  some j2
def cs_evening_guests : Cs (Int × Unit) := (csC cdI csN)
def er_evening_guests (r : Bool) : AV := cdB.enc r
set_option maxHeartbeats 4000000 in
set_option maxRecDepth 100000 in
theorem evening_guests_sem (x0 : Int) (r : Bool) (h : evening_guests x0 = some r) : Sem e_evening_guests ⟨none, false⟩ cb_evening_guests ⟨Fr 9 (pairs0 0 (cs_evening_guests.enc (x0, ()))), []⟩ fun e s' => (e = .normal ∨ e = .ret) ∧ ∃ xs, resA e_evening_guests.P s'.fr s'.hp Tryd.f67.results.toList = some xs ∧ retA xs = er_evening_guests r := by
  unfold evening_guests at h
  refine Sem.wkQ (Sem.wk (s1 := ⟨Fr 9 [(0, .v (.int .i64 x0))], []⟩) (Wk.fr (by kernel_rfl)) ?_)
  refine Sem.seq ?_
  refine Sem.runS (s1 := ⟨Fr 9 [(0, .v (.int .i64 x0))], []⟩) ?_ ?_
  · refine RunS.segF (n := 9) e_evening_guests_ok 1 [(0, .v (.int .i64 x0))] [] (by kernel_rfl) ?_
    exact RunS.done rfl (Wk.fr (by kernel_rfl))
  refine Sem.seq ?_
  obtain ⟨j2, hj2, h⟩ := Option.bind_eq_some_iff.1 h
  refine Sem.runS (s1 := ⟨Fr 9 [(2, .v (.bool j2))], []⟩) ?_ ?_
  · refine RunS.segF (n := 9) e_evening_guests_ok 3 [(0, .v (.int .i64 x0)), (5, .v (.bool (decide (x0 ≥ 1))))] [] (by kernel_rfl) ?_
    rcases Bool.eq_false_or_eq_true (decide (x0 ≥ 1)) with hc3 | hc3
    · rw [if_pos hc3] at hj2
      rw [hc3]
      refine RunS.segF (n := 9) e_evening_guests_ok 4 [(2, .v (.bool (decide (x0 ≤ 64))))] [] (by kernel_rfl) ?_
      have hq := Option.some.inj hj2; subst hq
      exact RunS.done rfl (Wk.fr (by kernel_rfl))
    · rw [if_f hc3] at hj2
      rw [hc3]
      refine RunS.segF (n := 9) e_evening_guests_ok 4 [(2, .v (.bool false))] [] (by kernel_rfl) ?_
      have hq := Option.some.inj hj2; subst hq
      exact RunS.done rfl (Wk.fr (by kernel_rfl))
  refine Sem.ret ?_
  have hq := Option.some.inj h; subst hq
  exact ⟨⟨Fr 9 [(2, .v (.bool j2))], []⟩, (Wk.fr (by kernel_rfl)), .inr rfl, [.v (.bool j2)], (by kernel_rfl), (by kernel_rfl)⟩
def t_evening_guests : List AV → Option AV := told cs_evening_guests (fun a => evening_guests a.1) er_evening_guests
theorem x_evening_guests : XOk 67 t_evening_guests := by
  refine EnvOk.x (E := e_evening_guests) (contract_ok e_evening_guests_ok (fn := Tryd.f67) (c := cb_evening_guests) ?h1 ?h2 ⟨Tryd.call67⟩ cs_evening_guests (fun a => evening_guests a.1) er_evening_guests (fun a => (by show 1 ≤ 9; decide)) ?h3 ?h4) rfl rfl
  case h1 => kernel_rfl
  case h2 => kernel_rfl
  case h3 => intro b; kernel_rfl
  case h4 => exact fun a b h => evening_guests_sem a.1 b h
end Go.Proofs.YthofgamegondnaaDoor

namespace Go.Proofs.YthofgamegondnaaDoor
open Go.RowKit
/- trestle/evening.fit -/
noncomputable def e_evening_fit : Env := (E0.withX 67 t_evening_guests)
theorem e_evening_fit_ok : EnvOk e_evening_fit := (EnvOk.withX E0_ok x_evening_guests.1 x_evening_guests.2)
noncomputable def cb_evening_fit : Code := codeOf Tryd.f68
def evening_fit_1 (x0 : Int) (x1 : (List Int)) : Nat → Int → Int → Option ((Int) ⊕ (Bool))
  | 0, _, _ => none
  | f + 1, c1, c2 =>
    if (decide (c2 < (x1.length : Int))) = true then
    (idx x1 c2).bind fun v4 =>
    (if (decide (v4 < 1)) = true then some true else some (decide (v4 > c1))).bind fun j6 =>
    if j6 = true then
    some (.inr false)
    else
    evening_fit_1 x0 x1 f (wr .i64 (c1 - v4)) (wr .i64 (c2 + 1))
    else
    some (.inl c1)
def evening_fit (x0 : Int) (x1 : (List Int)) : Option (Bool) :=
  (evening_fit_1 x0 x1 100000 x0 0).bind fun r11 =>
  match r11 with
  | (.inl w12) =>
    (evening_guests x0).bind fun v13 =>
    (if v13 = true then some (w12 == 0) else some false).bind fun j15 =>
    some j15
  | (.inr w17) =>
    some w17
def cs_evening_fit : Cs (Int × (List Int) × Unit) := (csC cdI (csC (cdL 1 cdI) csN))
def er_evening_fit (r : Bool) : AV := cdB.enc r
set_option maxHeartbeats 4000000 in
set_option maxRecDepth 100000 in
theorem evening_fit_1_ok (x0 : Int) (x1 : (List Int)) : ∀ (f : Nat) (c1 : Int) (c2 : Int) (r : (Int) ⊕ (Bool)), evening_fit_1 x0 x1 f c1 c2 = some r → SemN e_evening_fit ⟨none, false⟩ (pc cb_evening_fit [1, 1, 0, 1, 0, 0]) f ⟨Fr 32 [(0, .v (.int .i64 x0)), (5, .v (.int .i64 c1)), (9, .sl 1 (x1.map cdI.enc)), (10, .v (.int .i64 (x1.length : Int))), (11, .v (.int .i64 c2))], []⟩ (fun e s => match r with
  | (.inl w) => e = (.exit 0) ∧ Wk e_evening_fit s ⟨Fr 32 [(0, .v (.int .i64 x0)), (5, .v (.int .i64 w))], []⟩
  | (.inr w) => e = .ret ∧ Wk e_evening_fit s ⟨Fr 32 [(4, .v (.bool w))], []⟩) := by
  intro f
  induction f with
  | zero => intro c1 c2 r h; cases h
  | succ f ih0 =>
    intro c1 c2 r h
    have ih := fun (c1 : Int) (c2 : Int) => ih0 c1 c2 r
    unfold evening_fit_1 at h
    refine SemN.succ ?_
    refine Sem.seq ?_
    refine Sem.runS (s1 := ⟨Fr 32 [(0, .v (.int .i64 x0)), (5, .v (.int .i64 c1)), (9, .sl 1 (x1.map cdI.enc)), (10, .v (.int .i64 (x1.length : Int))), (11, .v (.int .i64 c2)), (12, .v (.bool (decide (c2 < (x1.length : Int)))))], []⟩) ?_ ?_
    · refine RunS.segF (n := 32) e_evening_fit_ok 1 [(0, .v (.int .i64 x0)), (5, .v (.int .i64 c1)), (9, .sl 1 (x1.map cdI.enc)), (10, .v (.int .i64 (x1.length : Int))), (11, .v (.int .i64 c2)), (12, .v (.bool (decide (c2 < (x1.length : Int)))))] [] (by kernel_rfl) ?_
      exact RunS.done rfl (Wk.fr (by kernel_rfl))
    refine Sem.seq ?_
    refine Sem.cond (b := (decide (c2 < (x1.length : Int)))) (by kernel_rfl) (fun hb3 => ?_) (fun hb3 => ?_)
    · rw [if_pos hb3] at h
      refine Sem.skip ?_
      refine Sem.seq ?_
      refine Sem.block ?_
      refine Sem.seq ?_
      obtain ⟨v4, hv4, h⟩ := Option.bind_eq_some_iff.1 h
      refine Sem.runS (s1 := ⟨Fr 32 [(0, .v (.int .i64 x0)), (5, .v (.int .i64 c1)), (7, .v (.int .i64 v4)), (9, .sl 1 (x1.map cdI.enc)), (10, .v (.int .i64 (x1.length : Int))), (11, .v (.int .i64 c2))], []⟩) ?_ ?_
      · refine RunS.one e_evening_fit_ok 0 rfl (op_q (wantedA_none rfl) rfl (q_indexAddr (a := .sl 1 (x1.map cdI.enc)) (b := .v (.int .i64 c2)) (by kernel_rfl) (by kernel_rfl) (ix_sl (e := cdI.enc) (el := 3) (k := 1) (ki := .i64) (by kernel_rfl) (by kernel_rfl) hv4))) ?_
        refine RunS.segF (n := 32) e_evening_fit_ok 2 [(0, .v (.int .i64 x0)), (5, .v (.int .i64 c1)), (7, .v (.int .i64 v4)), (9, .sl 1 (x1.map cdI.enc)), (10, .v (.int .i64 (x1.length : Int))), (11, .v (.int .i64 c2))] [] (by kernel_rfl) ?_
        exact RunS.done rfl (Wk.fr (by kernel_rfl))
      refine Sem.seq ?_
      refine Sem.seq ?_
      obtain ⟨j6, hj6, h⟩ := Option.bind_eq_some_iff.1 h
      refine Sem.runS (s1 := ⟨Fr 32 [(0, .v (.int .i64 x0)), (5, .v (.int .i64 c1)), (7, .v (.int .i64 v4)), (9, .sl 1 (x1.map cdI.enc)), (10, .v (.int .i64 (x1.length : Int))), (11, .v (.int .i64 c2)), (21, .v (.bool j6))], []⟩) ?_ ?_
      · refine RunS.segF (n := 32) e_evening_fit_ok 3 [(0, .v (.int .i64 x0)), (5, .v (.int .i64 c1)), (7, .v (.int .i64 v4)), (9, .sl 1 (x1.map cdI.enc)), (10, .v (.int .i64 (x1.length : Int))), (11, .v (.int .i64 c2)), (17, .v (.bool (decide (v4 < 1))))] [] (by kernel_rfl) ?_
        rcases Bool.eq_false_or_eq_true (decide (v4 < 1)) with hc9 | hc9
        · rw [if_pos hc9] at hj6
          rw [hc9]
          refine RunS.segF (n := 32) e_evening_fit_ok 4 [(0, .v (.int .i64 x0)), (5, .v (.int .i64 c1)), (7, .v (.int .i64 v4)), (9, .sl 1 (x1.map cdI.enc)), (10, .v (.int .i64 (x1.length : Int))), (11, .v (.int .i64 c2)), (18, .tp []), (19, .tp []), (20, .tp []), (21, .v (.bool true))] [] (by kernel_rfl) ?_
          have hq := Option.some.inj hj6; subst hq
          exact RunS.done rfl (Wk.fr (by kernel_rfl))
        · rw [if_f hc9] at hj6
          rw [hc9]
          refine RunS.segF (n := 32) e_evening_fit_ok 4 [(0, .v (.int .i64 x0)), (5, .v (.int .i64 c1)), (7, .v (.int .i64 v4)), (9, .sl 1 (x1.map cdI.enc)), (10, .v (.int .i64 (x1.length : Int))), (11, .v (.int .i64 c2)), (18, .v (.int .i64 v4)), (19, .v (.int .i64 c1)), (20, .v (.bool (decide (v4 > c1)))), (21, .v (.bool (decide (v4 > c1))))] [] (by kernel_rfl) ?_
          have hq := Option.some.inj hj6; subst hq
          exact RunS.done rfl (Wk.fr (by kernel_rfl))
      refine Sem.cond (b := j6) (by kernel_rfl) (fun hb7 => ?_) (fun hb7 => ?_)
      · rw [if_pos hb7] at h
        refine Sem.seq ?_
        refine Sem.runS (s1 := ⟨Fr 32 [(4, .v (.bool false))], []⟩) ?_ ?_
        · refine RunS.segF (n := 32) e_evening_fit_ok 1 [(4, .v (.bool false))] [] (by kernel_rfl) ?_
          exact RunS.done rfl (Wk.fr (by kernel_rfl))
        refine Sem.ret ?_
        have hq := Option.some.inj h; subst hq
        exact ⟨rfl, (Wk.fr (by kernel_rfl))⟩
      · rw [if_f hb7] at h
        refine Sem.skip ?_
        refine Sem.runS (s1 := ⟨Fr 32 [(0, .v (.int .i64 x0)), (5, .v (.int .i64 (wr .i64 (c1 - v4)))), (9, .sl 1 (x1.map cdI.enc)), (10, .v (.int .i64 (x1.length : Int))), (11, .v (.int .i64 c2))], []⟩) ?_ ?_
        · refine RunS.segF (n := 32) e_evening_fit_ok 4 [(0, .v (.int .i64 x0)), (5, .v (.int .i64 (wr .i64 (c1 - v4)))), (9, .sl 1 (x1.map cdI.enc)), (10, .v (.int .i64 (x1.length : Int))), (11, .v (.int .i64 c2))] [] (by kernel_rfl) ?_
          exact RunS.done rfl (Wk.fr (by kernel_rfl))
        refine Sem.runS (s1 := ⟨Fr 32 [(0, .v (.int .i64 x0)), (5, .v (.int .i64 (wr .i64 (c1 - v4)))), (9, .sl 1 (x1.map cdI.enc)), (10, .v (.int .i64 (x1.length : Int))), (11, .v (.int .i64 (wr .i64 (c2 + 1))))], []⟩) ?_ ?_
        · refine RunS.segF (n := 32) e_evening_fit_ok 2 [(0, .v (.int .i64 x0)), (5, .v (.int .i64 (wr .i64 (c1 - v4)))), (9, .sl 1 (x1.map cdI.enc)), (10, .v (.int .i64 (x1.length : Int))), (11, .v (.int .i64 (wr .i64 (c2 + 1))))] [] (by kernel_rfl) ?_
          exact RunS.done rfl (Wk.fr (by kernel_rfl))
        exact SemN.wk (s1 := ⟨Fr 32 [(0, .v (.int .i64 x0)), (5, .v (.int .i64 (wr .i64 (c1 - v4)))), (9, .sl 1 (x1.map cdI.enc)), (10, .v (.int .i64 (x1.length : Int))), (11, .v (.int .i64 (wr .i64 (c2 + 1))))], []⟩) (Wk.fr (by kernel_rfl)) (ih (wr .i64 (c1 - v4)) (wr .i64 (c2 + 1)) h)
    · rw [if_f hb3] at h
      refine Sem.exit ?_
      have hq := Option.some.inj h; subst hq
      exact ⟨rfl, (Wk.fr (by kernel_rfl))⟩
set_option maxHeartbeats 4000000 in
set_option maxRecDepth 100000 in
theorem evening_fit_sem (x0 : Int) (x1 : (List Int)) (r : Bool) (h : evening_fit x0 x1 = some r) : Sem e_evening_fit ⟨none, false⟩ cb_evening_fit ⟨Fr 32 (pairs0 0 (cs_evening_fit.enc (x0, x1, ()))), []⟩ fun e s' => (e = .normal ∨ e = .ret) ∧ ∃ xs, resA e_evening_fit.P s'.fr s'.hp Tryd.f68.results.toList = some xs ∧ retA xs = er_evening_fit r := by
  unfold evening_fit at h
  refine Sem.wkQ (Sem.wk (s1 := ⟨Fr 32 [(0, .v (.int .i64 x0)), (1, .sl 1 (x1.map cdI.enc))], []⟩) (Wk.fr (by kernel_rfl)) ?_)
  refine Sem.seq ?_
  refine Sem.runS (s1 := ⟨Fr 32 [(0, .v (.int .i64 x0)), (1, .sl 1 (x1.map cdI.enc))], []⟩) ?_ ?_
  · refine RunS.segF (n := 32) e_evening_fit_ok 1 [(0, .v (.int .i64 x0)), (1, .sl 1 (x1.map cdI.enc))] [] (by kernel_rfl) ?_
    exact RunS.done rfl (Wk.fr (by kernel_rfl))
  refine Sem.seq ?_
  refine Sem.runS (s1 := ⟨Fr 32 [(0, .v (.int .i64 x0)), (1, .sl 1 (x1.map cdI.enc)), (5, .v (.int .i64 x0))], []⟩) ?_ ?_
  · refine RunS.segF (n := 32) e_evening_fit_ok 2 [(0, .v (.int .i64 x0)), (1, .sl 1 (x1.map cdI.enc)), (5, .v (.int .i64 x0))] [] (by kernel_rfl) ?_
    exact RunS.done rfl (Wk.fr (by kernel_rfl))
  refine Sem.seq ?_
  refine Sem.seq ?_
  refine Sem.runS (s1 := ⟨Fr 32 [(0, .v (.int .i64 x0)), (5, .v (.int .i64 x0)), (9, .sl 1 (x1.map cdI.enc)), (10, .v (.int .i64 (x1.length : Int))), (11, .v (.int .i64 0))], []⟩) ?_ ?_
  · refine RunS.segF (n := 32) e_evening_fit_ok 1 [(0, .v (.int .i64 x0)), (5, .v (.int .i64 x0)), (9, .sl 1 (x1.map cdI.enc))] [] (by kernel_rfl) ?_
    refine RunS.one e_evening_fit_ok 0 rfl (op_q (wantedA_none rfl) rfl (q_len (a := .sl 1 (x1.map cdI.enc)) (by kernel_rfl) (len_sl (el := 3) (by kernel_rfl)))) ?_
    refine RunS.segF (n := 32) e_evening_fit_ok 1 [(0, .v (.int .i64 x0)), (5, .v (.int .i64 x0)), (9, .sl 1 (x1.map cdI.enc)), (10, .v (.int .i64 (x1.length : Int))), (11, .v (.int .i64 0))] [] (by kernel_rfl) ?_
    exact RunS.done rfl (Wk.fr (by kernel_rfl))
  refine Sem.block ?_
  obtain ⟨r11, hr11, h⟩ := Option.bind_eq_some_iff.1 h
  refine Sem.loop (n := 100000) ?_
  rcases r11 with w12 | w17
  · try dsimp only at h
    refine Sem.cutN (SemN.wk (s1 := ⟨Fr 32 [(0, .v (.int .i64 x0)), (5, .v (.int .i64 x0)), (9, .sl 1 (x1.map cdI.enc)), (10, .v (.int .i64 (x1.length : Int))), (11, .v (.int .i64 0))], []⟩) (Wk.fr (by kernel_rfl)) (evening_fit_1_ok x0 x1 _ x0 0 _ hr11)) ?_
    refine Sem.seq ?_
    obtain ⟨v13, hv13, h⟩ := Option.bind_eq_some_iff.1 h
    obtain ⟨j15, hj15, h⟩ := Option.bind_eq_some_iff.1 h
    refine Sem.runS (s1 := ⟨Fr 32 [(4, .v (.bool j15))], []⟩) ?_ ?_
    · refine RunS.segF (n := 32) e_evening_fit_ok 1 [(5, .v (.int .i64 w12)), (26, .v (.int .i64 x0))] [] (by kernel_rfl) ?_
      refine RunS.call e_evening_fit_ok (fid := 67) (s := cs_evening_guests) (F := fun a => evening_guests a.1) (er := er_evening_guests) (xs := [.v (.int .i64 x0)]) (a := (x0, ())) rfl (wantedA_none rfl) (by kernel_rfl) (by kernel_rfl) (by kernel_rfl) (by kernel_rfl) (Sns.cons (Sn.enc (c := cdI) (v := x0)) Sns.nil) (.inl (by kernel_rfl)) hv13 ?_
      refine RunS.segF (n := 32) e_evening_fit_ok 1 [(5, .v (.int .i64 w12)), (28, .v (.bool v13))] [] (by kernel_rfl) ?_
      rcases Bool.eq_false_or_eq_true v13 with hc16 | hc16
      · rw [if_pos hc16] at hj15
        rw [hc16]
        refine RunS.segF (n := 32) e_evening_fit_ok 4 [(4, .v (.bool (w12 == 0)))] [] (by kernel_rfl) ?_
        have hq := Option.some.inj hj15; subst hq
        exact RunS.done rfl (Wk.fr (by kernel_rfl))
      · rw [if_f hc16] at hj15
        rw [hc16]
        refine RunS.segF (n := 32) e_evening_fit_ok 4 [(4, .v (.bool false))] [] (by kernel_rfl) ?_
        have hq := Option.some.inj hj15; subst hq
        exact RunS.done rfl (Wk.fr (by kernel_rfl))
    refine Sem.ret ?_
    have hq := Option.some.inj h; subst hq
    exact ⟨⟨Fr 32 [(4, .v (.bool j15))], []⟩, (Wk.fr (by kernel_rfl)), .inr rfl, [.v (.bool j15)], (by kernel_rfl), (by kernel_rfl)⟩
  · try dsimp only at h
    refine Sem.cutN (SemN.wk (s1 := ⟨Fr 32 [(0, .v (.int .i64 x0)), (5, .v (.int .i64 x0)), (9, .sl 1 (x1.map cdI.enc)), (10, .v (.int .i64 (x1.length : Int))), (11, .v (.int .i64 0))], []⟩) (Wk.fr (by kernel_rfl)) (evening_fit_1_ok x0 x1 _ x0 0 _ hr11)) ?_
    have hq := Option.some.inj h; subst hq
    exact ⟨⟨Fr 32 [(4, .v (.bool w17))], []⟩, (Wk.fr (by kernel_rfl)), .inr rfl, [.v (.bool w17)], (by kernel_rfl), (by kernel_rfl)⟩
def t_evening_fit : List AV → Option AV := told cs_evening_fit (fun a => evening_fit a.1 a.2.1) er_evening_fit
theorem x_evening_fit : XOk 68 t_evening_fit := by
  refine EnvOk.x (E := e_evening_fit) (contract_ok e_evening_fit_ok (fn := Tryd.f68) (c := cb_evening_fit) ?h1 ?h2 ⟨Tryd.call68⟩ cs_evening_fit (fun a => evening_fit a.1 a.2.1) er_evening_fit (fun a => (by show 2 ≤ 32; decide)) ?h3 ?h4) rfl rfl
  case h1 => kernel_rfl
  case h2 => kernel_rfl
  case h3 => intro b; kernel_rfl
  case h4 => exact fun a b h => evening_fit_sem a.1 a.2.1 b h
end Go.Proofs.YthofgamegondnaaDoor
