/- Reasoning on abstract states: what code does from a state, told by a set of states. -/
import Derived.Test.YthofgamegondnaaDoorPost
namespace Go.Proofs.YthofgamegondnaaDoor
open Go.RowKit

/-- From one state to a later one, the numbers of the blocks left aside. -/
structure StepW (w : World) (Z : Nat → Prop) (ρ : List RI) (h : Hp) (w' : World) (Z' : Nat → Prop) (ρ' : List RI) (h' : Hp) : Prop where
  os : w'.os = w.os
  tape : w'.tape = w.tape
  output : w'.output = w.output
  size : w.heap.size ≤ w'.heap.size
  block : ∀ c, c < w.heap.size → ¬ own ρ h c → w'.heap[c]? = w.heap[c]?
  own_ : ∀ c, own ρ' h' c → own ρ h c ∨ w.heap.size ≤ c
  z : ∀ c, Z c → Z' c
  z' : ∀ c, Z' c → Z c ∨ own ρ h c ∨ w.heap.size ≤ c
theorem Step.w {w w' : World} {Z Z' : Nat → Prop} {R R' : List RI} {h h' : Hp} (s : Step w Z R h w' Z' R' h') : StepW w Z R h w' Z' R' h' := ⟨s.os, s.tape, s.output, s.size, s.block, s.own_, s.z, s.z'⟩
theorem StepW.refl (w : World) (Z : Nat → Prop) (R : List RI) (h : Hp) : StepW w Z R h w Z R h := (Step.refl w Z R h).w
theorem StepW.trans {w w' w'' : World} {Z Z' Z'' : Nat → Prop} {R R' R'' : List RI} {h h' h'' : Hp} (s : StepW w Z R h w' Z' R' h') (t : StepW w' Z' R' h' w'' Z'' R'' h'') : StepW w Z R h w'' Z'' R'' h'' := by
  refine ⟨t.os.trans s.os, t.tape.trans s.tape, t.output.trans s.output, Nat.le_trans s.size t.size, fun c hc hn => ?_, fun c hc => ?_, fun c hc => t.z c (s.z c hc), fun c hc => ?_⟩
  · rw [t.block c (Nat.lt_of_lt_of_le hc s.size) fun ho => ?_]
    · exact s.block c hc hn
    · rcases s.own_ c ho with h1 | h1
      · exact hn h1
      · omega
  · rcases t.own_ c hc with h1 | h1
    · exact s.own_ c h1
    · exact .inr (Nat.le_trans s.size h1)
  · rcases t.z' c hc with h1 | h1 | h1
    · exact s.z' c h1
    · rcases s.own_ c h1 with h2 | h2
      · exact .inr (.inl h2)
      · exact .inr (.inr h2)
    · exact .inr (.inr (Nat.le_trans s.size h1))
theorem yi_none {cx : Cx} (h : cx.y = none) (w : World) (Z : Nat → Prop) (R : List RI) (hp : Hp) : YI cx w Z R hp := fun y hy => by rw [h] at hy; cases hy

/-- From every world that s tells, the code runs and ends as Q says. -/
def Sem (E : Env) (cx : Cx) (c : Code) (s : St) (Q : Ex → St → Prop) : Prop :=
  ∀ (ro : Option Nat) (base : Nat) (Qm : Exit → Act → World → Prop) (a : Act) (w : World) (Z : Nat → Prop) (R : List RI), (cx.inR = false → ro = none) → SR E base w Z R s a → cx.y = none →
    (∀ e s' a' w' Z' R', Q e s' → SR E base w' Z' R' s' a' → StepW w Z R s.hp w' Z' R' s'.hp → Qm (exOf e) a' w') → c.wpIn (Fw ro) 0 E.P Qm a w
/-- .. of n rounds of a loop. -/
def SemN (E : Env) (cx : Cx) (c : Code) (n : Nat) (s : St) (Q : Ex → St → Prop) : Prop :=
  ∀ (ro : Option Nat) (base : Nat) (Qm : Exit → Act → World → Prop) (a : Act) (w : World) (Z : Nat → Prop) (R : List RI), (cx.inR = false → ro = none) → SR E base w Z R s a → cx.y = none →
    (∀ e s' a' w' Z' R', Q e s' → SR E base w' Z' R' s' a' → StepW w Z R s.hp w' Z' R' s'.hp → Qm (exOf e) a' w') → Code.roundsIn (Fw ro) 0 E.P c Qm n a w

section
variable {E : Env} {cx : Cx} {c c' : Code} {s s1 : St} {Q Q' : Ex → St → Prop} {n : Nat}

theorem Sem.mono (h : Sem E cx c s Q) (hq : ∀ e s, Q e s → Q' e s) : Sem E cx c s Q' :=
  fun ro base Qm a w Z R h1 h2 h3 k => h ro base Qm a w Z R h1 h2 h3 fun e s' a' w' Z' R' hQ => k e s' a' w' Z' R' (hq e s' hQ)
theorem Sem.of_ev (hE : EnvOk E) (hd : drawOk c = true) {e : Ex} {s' : St} (h : evC E n cx c s = some (e, s')) (q : Q e s') : Sem E cx c s Q :=
  fun ro base Qm a w Z R h1 h2 h3 k => (code_sound hE n).1 cx c s e s' hd h ro base Qm a w Z R h1 h2 (yi_none h3 _ _ _ _) fun a' w' Z' R' sr st => k e s' a' w' Z' R' q sr st.w
theorem Sem.skip (q : Q .normal s) : Sem E cx .skip s Q :=
  fun _ _ _ a w Z R _ h2 _ k => wpIn_skip (k .normal s a w Z R q h2 (StepW.refl _ _ _ _))
theorem Sem.exit {id : Nat} (q : Q (.exit id) s) : Sem E cx (.exit id) s Q :=
  fun _ _ _ a w Z R _ h2 _ k => wpIn_exit (k (.exit id) s a w Z R q h2 (StepW.refl _ _ _ _))
theorem Sem.ret (q : Q .ret s) : Sem E cx .ret s Q :=
  fun _ _ _ a w Z R _ h2 _ k => wpIn_ret (k .ret s a w Z R q h2 (StepW.refl _ _ _ _))
/-- A region whose operations run in their order. -/
theorem Sem.region (hE : EnvOk E) {id : Nat} {ops : Array Oper} (n : Nat) (h : opsA E (evC E n) cx ops ops.toList s = some s1) (q : Q .normal s1) : Sem E cx (.region id ops false) s Q :=
  fun _ _ _ _ _ _ _ h1 h2 h3 k => wpIn_region_list (opsA_sound hE (code_sound hE n).1 h1 h h2 (yi_none h3 _ _ _ _) fun a' w' Z' R' sr st => k .normal s1 a' w' Z' R' q sr st.w)
theorem Sem.draw (hE : EnvOk E) {id : Nat} {ops : Array Oper} (hd : drawOk (.region id ops true) = true) (n : Nat) (h : opsD E (evC E n) cx ops s.hp.length ops.toList s = some s1) (q : Q .normal s1) : Sem E cx (.region id ops true) s Q :=
  fun _ _ _ _ _ _ _ _ h2 _ k => draw_sound hE (code_sound hE n).1 hd h h2 fun a' w' Z' R' sr st => k .normal s1 a' w' Z' R' q sr st.w
theorem Sem.seq (h : Sem E cx c s fun e s' => match e with | .normal => Sem E cx c' s' Q | e => Q e s') : Sem E cx (.seq c c') s Q := by
  intro ro base Qm a w Z R h1 h2 h3 k
  refine wpIn_seq (h ro base _ a w Z R h1 h2 h3 fun e s' a' w' Z' R' hQ sr st => ?_)
  cases e with
  | normal => exact hQ ro base Qm a' w' Z' R' h1 sr h3 fun e2 s2 a2 w2 Z2 R2 hQ2 sr2 st2 => k e2 s2 a2 w2 Z2 R2 hQ2 sr2 (st.trans st2)
  | exit id => exact k _ s' a' w' Z' R' hQ sr st
  | ret => exact k _ s' a' w' Z' R' hQ sr st
theorem Sem.cond_true {x : Operand} (hx : opA E s.fr x = some (.v (.bool true))) (h : Sem E cx c s Q) : Sem E cx (.cond x c c') s Q :=
  fun ro base Qm a w Z R h1 h2 h3 k => wpIn_cond_true (opA_vr h2 _ _ hx).v_inv (h ro base Qm a w Z R h1 h2 h3 k)
theorem Sem.cond_false {x : Operand} (hx : opA E s.fr x = some (.v (.bool false))) (h : Sem E cx c' s Q) : Sem E cx (.cond x c c') s Q :=
  fun ro base Qm a w Z R h1 h2 h3 k => wpIn_cond_false (opA_vr h2 _ _ hx).v_inv (h ro base Qm a w Z R h1 h2 h3 k)
theorem Sem.cond {x : Operand} {b : Bool} (hx : opA E s.fr x = some (.v (.bool b))) (h : b = true → Sem E cx c s Q) (h' : b = false → Sem E cx c' s Q) : Sem E cx (.cond x c c') s Q := by
  cases b with
  | true => exact .cond_true hx (h rfl)
  | false => exact .cond_false hx (h' rfl)
theorem Sem.block {id : Nat} (h : Sem E cx c s fun e s' => match e with | .exit id' => if id' = id then Q .normal s' else Q (.exit id') s' | e => Q e s') : Sem E cx (.block id c) s Q := by
  intro ro base Qm a w Z R h1 h2 h3 k
  refine wpIn_block (h ro base _ a w Z R h1 h2 h3 fun e s' a' w' Z' R' hQ sr st => ?_)
  cases e with
  | normal => exact k _ s' a' w' Z' R' hQ sr st
  | exit id' =>
    show if id' = id then Qm .normal a' w' else Qm (.exit id') a' w'
    simp only at hQ
    split at hQ
    · next h => rw [if_pos h]; exact k .normal s' a' w' Z' R' hQ sr st
    · next h => rw [if_neg h]; exact k _ s' a' w' Z' R' hQ sr st
  | ret => exact k _ s' a' w' Z' R' hQ sr st
theorem Sem.loop (h : SemN E cx c n s Q) : Sem E cx (.loop c) s Q :=
  fun ro base Qm a w Z R h1 h2 h3 k => wpIn_loop_rounds n (h ro base Qm a w Z R h1 h2 h3 k)
theorem SemN.succ (h : Sem E cx c s fun e s' => match e with | .normal => SemN E cx c n s' Q | e => Q e s') : SemN E cx c (n + 1) s Q := by
  intro ro base Qm a w Z R h1 h2 h3 k
  show c.wpIn (Fw ro) 0 E.P (Exit.then (Code.roundsIn (Fw ro) 0 E.P c Qm n) Qm) a w
  refine h ro base _ a w Z R h1 h2 h3 fun e s' a' w' Z' R' hQ sr st => ?_
  cases e with
  | normal => exact hQ ro base Qm a' w' Z' R' h1 sr h3 fun e2 s2 a2 w2 Z2 R2 hQ2 sr2 st2 => k e2 s2 a2 w2 Z2 R2 hQ2 sr2 (st.trans st2)
  | exit id => exact k _ s' a' w' Z' R' hQ sr st
  | ret => exact k _ s' a' w' Z' R' hQ sr st

/-- A state that says less (or the same in another way) of the same worlds. -/
def Wk (E : Env) (s s' : St) : Prop := ∀ base w Z R a, SR E base w Z R s a → ∃ Z' R', SR E base w Z' R' s' a ∧ StepW w Z R s.hp w Z' R' s'.hp
theorem Wk.refl : Wk E s s := fun base w Z R a h => ⟨Z, R, h, StepW.refl _ _ _ _⟩
theorem Wk.trans {s2 : St} (h : Wk E s s1) (h' : Wk E s1 s2) : Wk E s s2 := fun base w Z R a k =>
  let ⟨Z1, R1, k1, st1⟩ := h base w Z R a k
  let ⟨Z2, R2, k2, st2⟩ := h' base w Z1 R1 a k1
  ⟨Z2, R2, k2, st1.trans st2⟩
theorem Sem.wk (hw : Wk E s s1) (h : Sem E cx c s1 Q) : Sem E cx c s Q := by
  intro ro base Qm a w Z R h1 h2 h3 k
  obtain ⟨Z', R', h2', st⟩ := hw base w Z R a h2
  exact h ro base Qm a w Z' R' h1 h2' h3 fun e s' a' w' Z2 R2 hQ sr st2 => k e s' a' w' Z2 R2 hQ sr (st.trans st2)
theorem SemN.wk (hw : Wk E s s1) (h : SemN E cx c n s1 Q) : SemN E cx c n s Q := by
  intro ro base Qm a w Z R h1 h2 h3 k
  obtain ⟨Z', R', h2', st⟩ := hw base w Z R a h2
  exact h ro base Qm a w Z' R' h1 h2' h3 fun e s' a' w' Z2 R2 hQ sr st2 => k e s' a' w' Z2 R2 hQ sr (st.trans st2)
/-- .. at the end. -/
theorem Sem.wkQ (h : Sem E cx c s fun e s' => ∃ s2, Wk E s' s2 ∧ Q e s2) : Sem E cx c s Q := by
  intro ro base Qm a w Z R h1 h2 h3 k
  refine h ro base Qm a w Z R h1 h2 h3 fun e s' a' w' Z' R' hQ sr st => ?_
  obtain ⟨s2, hw, hq⟩ := hQ
  obtain ⟨Z2, R2, sr2, st2⟩ := hw base w' Z' R' a' sr
  exact k e s2 a' w' Z2 R2 hq sr2 (st.trans st2)

/-- Slots are forgotten. -/
theorem Wk.frame {fr fr' : List (Option AV)} {hp : Hp} (hl : fr'.length = fr.length) (h : ∀ (t : Nat) (x : AV), fr'[t]? = some (some x) → fr[t]? = some (some x)) : Wk E ⟨fr, hp⟩ ⟨fr', hp⟩ :=
  fun base w Z R a sr => ⟨Z, R, ⟨sr.hh, ⟨hl.trans sr.fr.1, fun t x hx => sr.fr.2 t x (h t x hx)⟩, sr.mks, sr.gl, sr.bs⟩, StepW.refl _ _ _ _⟩

/-- A function, entered: from what its body does. -/
theorem ret_sem (hE : EnvOk E) {f : FuncId} {fn : Func} {args : List AV} {h : Hp} (hf : E.fn f = some fn) (hc : fn.body = some c) (hle : args.length ≤ fn.ntmps)
    (hb : Sem E ⟨none, false⟩ c ⟨args.map some ++ List.replicate (fn.ntmps - args.length) (some (.tp [])), h⟩ fun e s => (e = .normal ∨ e = .ret) ∧ ∃ xs, resA E.P s.fr s.hp fn.results.toList = some xs ∧ Q .ret ⟨[some (retA xs)], s.hp⟩)
    {w : World} {Z : Nat → Prop} {R : List RI} {us : List Value} (hh : HR w Z R h) (hv : VRs w Z R args us) (hg : GI E w Z) :
    Ret E.P f us.toArray w fun v w' => ∃ Z' R' x h', Q .ret ⟨[some x], h'⟩ ∧ HR w' Z' R' h' ∧ VR w' Z' R' x v ∧ StepW w Z R h w' Z' R' h' := by
  obtain ⟨hff, _, _⟩ := hE.fn f fn hf
  refine callsIn_wide.1 (callsIn_of_wp_marks (F := Fw none) (n := 0) hff hc trivial ?_)
  have hul : us.length = args.length := hv.len
  have hsr : SR E w.heap.size w Z R ⟨args.map some ++ List.replicate (fn.ntmps - args.length) (some (.tp [])), h⟩ { tmps := us.toArray ++ Array.replicate (fn.ntmps - us.toArray.size) undef, defers := [] } := by
    refine ⟨hh, ⟨by simp [hul], fun t x hx => ?_⟩, trivial, hg, Nat.le_refl _⟩
    have e0 : us.toArray ++ Array.replicate (fn.ntmps - us.toArray.size) undef = (us ++ List.replicate (fn.ntmps - us.length) undef).toArray := by simp
    rw [e0, Array.getD_eq_getD_getElem?, List.getElem?_toArray]
    by_cases ht : t < args.length
    · rw [List.getElem?_append_left (by simpa using ht), List.getElem?_map] at hx
      rw [List.getElem?_append_left (by omega)]
      cases hat : args[t]? with
      | none => rw [hat] at hx; cases hx
      | some q =>
        rw [hat] at hx
        have hx := Option.some.inj (Option.some.inj hx)
        subst hx
        obtain ⟨u, hu1, hu2⟩ := hv.get hat
        rw [hu1]; exact hu2
    · rw [List.getElem?_append_right (by simp; omega), List.getElem?_replicate] at hx
      split at hx
      · next hlt =>
        have hx := Option.some.inj (Option.some.inj hx)
        subst hx
        rw [List.getElem?_append_right (by omega), List.getElem?_replicate, if_pos (by rw [hul]; simpa using hlt)]
        exact .tp (us := []) rfl (fun i x u hx => by simp at hx)
      · cases hx
  refine hb none w.heap.size _ _ w Z R (fun _ => rfl) hsr rfl fun e s' a' w' Z' R' hQ sr' st => ?_
  obtain ⟨hex, xs, hxs, hq⟩ := hQ
  have hl := leaves_mks (E := E) (w := w') (a := a') (fn := fn) (S := fun v w'' => ∃ Z' R' x h', Q .ret ⟨[some x], h'⟩ ∧ HR w'' Z' R' h' ∧ VR w'' Z' R' x v ∧ StepW w Z R h w'' Z' R' h') hxs (fun w'' u g1 g2 g3 g4 g5 g6 g7 => ⟨Z', R', _, _, hq, g6, g7, ⟨g2.trans st.os, g3.trans st.tape, g4.trans st.output, by rw [g1]; exact st.size, fun c hc hn => (g5 c hc).trans (st.block c hc hn), st.own_, st.z, st.z'⟩⟩) (D := a'.defers) (w1 := w') sr' rfl rfl rfl rfl (fun _ _ => rfl)
  rcases hex with rfl | rfl
  · exact hl
  · exact hl
end
end Go.Proofs.YthofgamegondnaaDoor
