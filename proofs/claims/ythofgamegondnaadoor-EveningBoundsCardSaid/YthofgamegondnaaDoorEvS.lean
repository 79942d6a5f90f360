/- The abstract interpreter is sound: code, calls, ranges over functions. -/
import Derived.Test.YthofgamegondnaaDoorEv
import Derived.Test.YthofgamegondnaaDoorSeq
namespace Go.Proofs.YthofgamegondnaaDoor
open Go.RowKit

/-- All operations that read. (Put together for the two kinds of walks.) -/
def drawOk : Code → Bool
  | .region _ ops draw => !draw || (Region.lexB .any ops && loudB ops (fun k => !((ops[k]?).any fun o => isQ o.op) || Nat.ble (tailAt ops) k) (tailAt ops))
  | .seq a b => drawOk a && drawOk b
  | .cond _ a b => drawOk a && drawOk b
  | .block _ c => drawOk c
  | .loop c => drawOk c
  | .scope c => drawOk c
  | .rangeFunc _ _ a b => drawOk a && drawOk b
  | _ => true

/-- The variables that nobody writes. -/
def GI (E : Env) (w : World) (Z : Nat → Prop) : Prop := ∀ g x, E.G g = some x → VR w Z [] x (.pointer (some ⟨g, 0, none⟩))

structure EnvOk (E : Env) : Prop where
  fn : ∀ f fn, E.fn f = some fn → E.P.funcs[f]? = some fn ∧ Callable E.P f ∧ ∀ c, fn.body = some c → drawOk c = true
  mixed : E.P.follows .mixedOrders = true
  I : ∀ f, E.I f = true → ∀ v w, (callFunc f #[v]).run E.P w = .ok (.value v) w
  X : ∀ f g, E.X f = some g → Callable E.P f ∧ ∀ xs x, g xs = some x → ∀ w Z us, (∀ c, Z c → c < w.heap.size) → GI E w Z → VRs w Z [] xs us → Ret E.P f us.toArray w fun v w' => w.grownBy w' none ∧ VR w' (fun c => Z c ∨ (w.heap.size ≤ c ∧ c < w'.heap.size)) [] x v

/-- The deferred calls of a frame are marks of ranges over functions. -/
def Mks (base : Nat) (w : World) (Z : Nat → Prop) (R : List RI) (h : Hp) : List Deferred → Prop
  | [] => True
  | d :: D => (∃ r, base ≤ r ∧ d = mark r ∧ w.heap[r]? = some (.deferred (some [])) ∧ ¬ Z r ∧ ¬ own R h r ∧ ∀ d' ∈ D, d' ≠ mark r) ∧ Mks base w Z R h D

def exOf : Ex → Exit
  | .normal => .normal
  | .exit id => .exit id
  | .ret => .ret

def FrR (w : World) (Z : Nat → Prop) (R : List RI) (fr : List (Option AV)) (tmps : Array Value) : Prop :=
  fr.length = tmps.size ∧ ∀ (t : Nat) (x : AV), fr[t]? = some (some x) → VR w Z R x (tmps.getD t undef)

structure SR (E : Env) (base : Nat) (w : World) (Z : Nat → Prop) (R : List RI) (s : St) (a : Act) : Prop where
  hh : HR w Z R s.hp
  fr : FrR w Z R s.fr a.tmps
  mks : Mks base w Z R s.hp a.defers
  gl : GI E w Z
  bs : base ≤ w.heap.size

/-- The record of the range over a function whose yield may be called. -/
def YI (cx : Cx) (w : World) (Z : Nat → Prop) (R : List RI) (h : Hp) : Prop :=
  ∀ y, cx.y = some y → drawOk y.assign = true ∧ drawOk y.body = true ∧ ∃ (r : RI) (L : Loop), R[y.b]? = some r ∧ ¬ Z r.c ∧ ¬ own R h r.c ∧ w.heap[r.c]? = some (.loop L) ∧ L.state = .ready ∧ L.pending = none ∧ L.params = y.ps.toArray ∧ L.assign = y.assign ∧ L.body = y.body ∧ FrR w Z R y.fr L.tmps

section
variable {E : Env} {w w' : World} {Z Z' : Nat → Prop} {R R' : List RI} {h h' : Hp} {base : Nat} {s : St} {a : Act}

theorem FrR.step {fr : List (Option AV)} {tmps : Array Value} (f : FrR w Z R fr tmps) (hh : HR w Z R h) (st : Step w Z R h w' Z' R' h') : FrR w' Z' R' fr tmps :=
  ⟨f.1, fun t x hx => (f.2 t x hx).step hh st⟩
theorem GI.step (g : GI E w Z) (hh : HR w Z R h) (st : Step w Z R h w' Z' R' h') : GI E w' Z' := fun n x hx =>
  ((g n x hx).mono (w' := w') (Z' := Z') (fun b hb => st.block b (hh.zlt b hb) fun ho => hh.notZ ho hb) st.z (fun _ _ h => h))
theorem heapLt {r : Nat} {o : Obj} (hr : w.heap[r]? = some o) : r < w.heap.size := (Array.getElem?_eq_some_iff.1 hr).1
/-- A block that is neither owned nor frozen is kept by a step, and stays so. -/
theorem Step.other {r : Nat} {o : Obj} (st : Step w Z R h w' Z' R' h') (hr : w.heap[r]? = some o) (hz : ¬ Z r) (ho : ¬ own R h r) : w'.heap[r]? = some o ∧ ¬ Z' r ∧ ¬ own R' h' r := by
  have hlt := heapLt hr
  refine ⟨(st.block r hlt ho).trans hr, fun h1 => ?_, fun h1 => ?_⟩
  · rcases st.z' r h1 with h2 | h2 | h2
    · exact hz h2
    · exact ho h2
    · omega
  · rcases st.own_ r h1 with h2 | h2
    · exact ho h2
    · omega
theorem Mks.step (st : Step w Z R h w' Z' R' h') : ∀ {D : List Deferred}, Mks base w Z R h D → Mks base w' Z' R' h' D
  | [], _ => trivial
  | d :: D, ⟨⟨r, h1, h2, h3, h4, h5, h6⟩, hD⟩ => by
    obtain ⟨k1, k2, k3⟩ := st.other h3 h4 h5
    exact ⟨⟨r, h1, h2, k1, k2, k3, h6⟩, Mks.step st hD⟩
theorem YI.step {cx : Cx} (y : YI cx w Z R h) (hh : HR w Z R h) (st : Step w Z R h w' Z' R' h') : YI cx w' Z' R' h' := fun q hq => by
  obtain ⟨d1, d2, r, L, h1, h2, h3, h4, h5⟩ := y q hq
  obtain ⟨k1, k2, k3⟩ := st.other h4 h2 h3
  exact ⟨d1, d2, r, L, st.r _ _ h1, k2, k3, k1, h5.1, h5.2.1, h5.2.2.1, h5.2.2.2.1, h5.2.2.2.2.1, h5.2.2.2.2.2.step hh st⟩
theorem SR.step {h' : Hp} (sr : SR E base w Z R s a) (hh' : HR w' Z' R' h') (st : Step w Z R s.hp w' Z' R' h') : SR E base w' Z' R' ⟨s.fr, h'⟩ a :=
  ⟨hh', sr.fr.step sr.hh st, sr.mks.step st, sr.gl.step sr.hh st, Nat.le_trans sr.bs st.size⟩
theorem SR.put {d : Option Tmp} {x : AV} {u : Value} (sr : SR E base w Z R s a) (hv : VR w Z R x u) : SR E base w Z R ⟨putA s.fr d x, s.hp⟩ (a.put d u) := by
  refine ⟨sr.hh, ?_, ?_, sr.gl, sr.bs⟩
  · cases d with
    | none => exact sr.fr
    | some d =>
      refine ⟨by simp [putA, Act.put, sr.fr.1], fun t y hy => ?_⟩
      simp only [putA] at hy
      rw [List.getElem?_set] at hy
      show VR w Z R y ((a.tmps.setIfInBounds d u).getD t undef)
      split at hy
      · next e =>
        subst e
        split at hy
        · next hl =>
          injection hy with hy
          injection hy with hy
          subst hy
          rw [sr.fr.1] at hl
          simp [Array.getD_eq_getD_getElem?, hl]
          exact hv
        · cases hy
      · next e =>
        have := sr.fr.2 t y hy
        rw [Array.getD_eq_getD_getElem?, Array.getElem?_setIfInBounds_ne e, ← Array.getD_eq_getD_getElem?]
        exact this
  · cases d <;> exact sr.mks

theorem opA_vr (sr : SR E base w Z R s a) (o : Operand) (x : AV) (e : opA E s.fr o = some x) : VR w Z R x (a.eval o) := by
  unfold opA at e
  cases o with
  | tmp t =>
    simp only at e
    split at e
    · next y hy => injection e with e; subst e; exact sr.fr.2 t _ hy
    · cases e
  | const v => exact (avOf_vr e).1
  | global g => exact (sr.gl g x e).up
  | func f =>
    injection e with e
    subst e
    exact .fn (us := []) (vs := []) rfl rfl (fun i x u hx => by simp at hx) (fun i x u hx => by simp at hx)

/-- A guard, decided. -/
theorem wantedA_eq (sr : SR E base w Z R s a) {ops : Array Oper} {o : Oper} {b : Bool} (e : wantedA ops s.fr o = some b) : Region.wanted o (yielded ops a.tmps) = b := by
  unfold wantedA at e
  split at e
  · next hg => injection e with e; subst e; simp [Region.wanted, hg]
  · next j want hg =>
    split at e
    · next oj hj =>
      split at e
      · next d hd =>
        have key : ∀ y, s.fr[d]? = some (some y) → ∃ u, a.tmps[d]? = some u ∧ VR w Z R y u := fun y hy => by
          have hv := sr.fr.2 d y hy
          have hl : d < a.tmps.size := by rw [← sr.fr.1]; exact (List.getElem?_eq_some_iff.1 hy).1
          exact ⟨a.tmps[d], Array.getElem?_eq_getElem hl, by rwa [Array.getD_eq_getD_getElem?, Array.getElem?_eq_getElem hl] at hv⟩
        split at e
        · next c hc =>
          injection e with e
          obtain ⟨u, h1, h2⟩ := key _ hc
          rw [h2.v_inv] at h1
          subst e
          simp only [Region.wanted, hg, yielded, hj, Option.bind_some, hd, h1]
          cases c <;> cases want <;> rfl
        · next hc =>
          injection e with e
          obtain ⟨u, h1, h2⟩ := key _ hc
          subst e
          simp only [Region.wanted, hg, yielded, hj, Option.bind_some, hd, h1]
          cases h2
          cases want <;> rfl
        · cases e
      · cases e
    · cases e

/-- One result. -/
def rdRes (tmps : Array Value) : ResultVar → Sem Value
  | .tmp t => pure (tmps.getD t undef)
  | .cell b t => do loadVar t (← asAddr (tmps.getD b undef))
theorem results_eq (fn : Func) (tmps : Array Value) : results fn tmps = (fn.results.mapM (rdRes tmps) >>= fun vs => pure (if h : vs.size = 1 then vs[0] else .tuple vs)) := by
  unfold results
  rfl
/-- The results of a function. -/
theorem resA_run (sr : SR E base w Z R s a) (w' : World) (same : Same w w') : ∀ {rs : List ResultVar} {xs : List AV}, resA E.P s.fr s.hp rs = some xs →
    ∃ us, (rs.mapM (rdRes a.tmps)).run E.P w' = .ok us w' ∧ VRs w Z R xs us
  | [], xs, e => by injection e with e; subst e; exact ⟨[], by simp, .nil⟩
  | .tmp t :: rs, xs, e => by
    unfold resA at e
    split at e
    · next x r hx hr =>
      injection e with e; subst e
      obtain ⟨us, h1, h2⟩ := resA_run sr w' same hr
      refine ⟨_, ?_, .cons (sr.fr.2 t x hx) h2⟩
      rw [List.mapM_cons, Sem.run_bind]
      simp only [rdRes, Sem.run_pure, Result.andThen, Sem.run_bind, h1]
    · cases e
  | .cell b t :: rs, xs, e => by
    unfold resA at e
    split at e
    · next p r hp hr =>
      split at e
      · next x hx =>
        injection e with e; subst e
        obtain ⟨us, h1, h2⟩ := resA_run sr w' same hr
        obtain ⟨u, k1, k2⟩ := evLoad_sound (P := E.P) (ρ := fun _ => some p) (ve := fun _ => a.tmps.getD b undef) (o := ⟨none, .load t (.tmp b), 0, "", #[], none⟩) sr.hh (fun _ x hx => by injection hx with hx; subst hx; exact sr.fr.2 b p hp) (a := .tmp b) rfl rfl hx
        refine ⟨u :: us, ?_, .cons k1 h2⟩
        have k3 := k2 w' (fun _ => same)
        have k4 : (loadVar t =<< asAddr (a.tmps.getD b undef)).run E.P w' = .ok u w' := by
          simp only [execOp, Instr.loadAt] at k3
          generalize hq : a.tmps.getD b undef = q at k3 ⊢
          cases q with
          | pointer ad =>
            cases ad with
            | none => simp [Instr.sureAddr] at k3
            | some ad =>
              simp only [Instr.sureAddr] at k3
              simp only [asAddr]
              simp only [Sem.run_bind, Sem.run_pure, Result.andThen] at k3 ⊢
              generalize hL : (loadVar t ad).run E.P w' = L at k3 ⊢
              cases L with
              | ok v w2 =>
                simp at k3
                rw [k3.1, k3.2] at hL
                show (Sem.bind (pure ad) (loadVar t)).run E.P w' = _
                exact hL
              | halt c w2 => simp at k3
          | _ => simp [Instr.sureAddr] at k3
        rw [List.mapM_cons, Sem.run_bind]
        have k5 : (rdRes a.tmps (.cell b t)).run E.P w' = .ok u w' := k4
        simp only [k5, Sem.run_pure, Result.andThen, Sem.run_bind, h1]
      · cases e
    · cases e
theorem flat_vr {x : AV} {v : Value} (hf : flatTp x = true) (hv : VR w Z R x v) : VR w' Z' R' x v := by
  have one : ∀ {y : AV} {u : Value}, isFlat y = true → VR w Z R y u → VR w' Z' R' y u := fun {y u} hf hv => by
    cases hv with
    | v h => exact .v h
    | st h hn => exact .st h hn
    | e0 => exact .e0
    | _ => simp [isFlat] at hf
  cases hv with
  | tp hl hx =>
    refine .tp hl fun i x u hx' hu' => one ?_ (hx i x u hx' hu')
    unfold flatTp at hf
    exact List.all_eq_true.1 hf x (List.mem_of_getElem? hx')
  | v h => exact .v h
  | st h hn => exact .st h hn
  | e0 => exact .e0
  | _ => simp [flatTp, isFlat] at hf

theorem view1_vr {x y : AV} {v : Value} (hh : HR w Z R h) (hv : VR w Z R x v) (e : view1 h x = some y) : VR w (fun c => Z c ∨ own R h c) [] y v := by
  have low : ∀ {x : AV} {v : Value}, noRf x = true → VR w Z R x v → VR w (fun c => Z c ∨ own R h c) [] x v := fun {x v} hn hv => by
    cases hv with
    | v h => exact .v h
    | st h hn' => exact .st h hn'
    | e0 => exact .e0
    | sl hn' hl hc hm ha hx =>
      refine .sl hn' hl hc hm (fun h0 => ?_) (fun i x u hx' hu' => (hx i x u hx' hu').mono (fun _ _ => rfl) (fun _ h => .inl h) (fun _ _ h => h))
      obtain ⟨a, k1, k2, k3, k4⟩ := ha h0
      exact ⟨a, k1, k2, .inl k3, k4⟩
    | pe hs hz h1 hu hx => exact .pe hs (.inl hz) h1 hu (hx.mono (fun _ _ => rfl) (fun _ h => .inl h) (fun _ _ h => h))
    | _ => simp [noRf] at hn
  unfold view1 at e
  split at e
  · next b lo n m =>
    split at e
    · next B hB =>
      split at e
      · next hc =>
        obtain ⟨hle, hall⟩ := hc
        injection e with e; subst e
        obtain ⟨r, arr, us, g1, g2, g3, g4, g5, g6, g7, g8, g9, g10⟩ := hh.blk b B hB
        cases hv with
        | rf hr q0 q1 q2 q3 =>
          rename_i c r'
          rw [g1] at hr
          injection hr with hr
          subst hr
          have hvs := (g9.drop lo).take n
          refine .sl (us := (us.drop lo).take n) (by simp; omega) hvs.len (by omega) (by omega) (fun _ => ⟨⟨r.c, lo * r.k, none⟩, rfl, rfl, ?_, fun i u hu => ?_⟩) (fun i x u hx hu => ?_)
          · cases hf : B.fz with
            | true => exact .inl (g7 hf)
            | false => exact .inr ⟨b, B, r, hB, hf, g1, rfl⟩
          · have hi : i < n := by have := (List.getElem?_eq_some_iff.1 hu).1; rw [List.length_take] at this; omega
            rw [List.getElem?_take_of_lt hi, List.getElem?_drop] at hu
            obtain ⟨k1, k2, k3⟩ := g10 _ _ hu
            refine ⟨k1, k2, fun j q hq => ?_⟩
            have := k3 j q hq
            rw [Nat.add_mul] at this
            rw [show lo * r.k + (i * B.k + j) = lo * B.k + i * B.k + j by rw [g2]; omega]
            simp [World.cell?, g3, this]
          · have hxm : x ∈ B.es := List.mem_of_mem_drop (List.mem_of_mem_take (List.mem_of_getElem? hx))
            exact low (List.all_eq_true.1 hall x hxm) (hvs.at_ i x u hx hu)
      · cases e
    · cases e
  · split at e
    · next hn => injection e with e; subst e; exact low hn hv
    · cases e
theorem viewL_vr (hh : HR w Z R h) : ∀ {xs ys : List AV} {us : List Value}, VRs w Z R xs us → viewL h xs = some ys → VRs w (fun c => Z c ∨ own R h c) [] ys us
  | [], ys, us, hv, e => by
    injection e with e; subst e
    have : us = [] := by have := hv.len; simpa using this
    subst this
    exact .nil
  | x :: xs, ys, us, hv, e => by
    obtain ⟨u, us', rfl, hu, hn⟩ := hv.head
    unfold viewL at e
    split at e
    · next y r h1 h2 => injection e with e; subst e; exact .cons (view1_vr hh hu h1) (viewL_vr hh hn h2)
    · cases e
theorem view2_vr {x y : AV} {v : Value} (hh : HR w Z R h) (hv : VR w Z R x v) (e : view2 h x = some y) : VR w (fun c => Z c ∨ own R h c) [] y v := by
  unfold view2 at e
  split at e
  · obtain ⟨cs, h1, rfl⟩ := Option.map_eq_some_iff.1 e
    cases hv with
    | ag hl h1' hx =>
      have := viewL_vr hh ⟨hl, hx⟩ h1
      exact .ag this.len h1' this.at_
  · exact view1_vr hh hv e
theorem views_vr (hh : HR w Z R h) : ∀ {xs ys : List AV} {us : List Value}, VRs w Z R xs us → views h xs = some ys → VRs w (fun c => Z c ∨ own R h c) [] ys us
  | [], ys, us, hv, e => by
    injection e with e; subst e
    have : us = [] := by have := hv.len; simpa using this
    subst this
    exact .nil
  | x :: xs, ys, us, hv, e => by
    obtain ⟨u, us', rfl, hu, hn⟩ := hv.head
    unfold views at e
    split at e
    · next y r h1 h2 => injection e with e; subst e; exact .cons (view2_vr hh hu h1) (views_vr hh hn h2)
    · cases e

theorem noRf_vr {x : AV} {v : Value} (hf : noRf x = true) (hv : VR w Z R x v) : VR w Z [] x v := by
  cases hv with
  | v h => exact .v h
  | st h hn => exact .st h hn
  | e0 => exact .e0
  | sl hn hl hc hm ha hx => exact .sl hn hl hc hm ha hx
  | pe hs h3 h1 hu hx => exact .pe hs h3 h1 hu hx
  | _ => simp [noRf] at hf
theorem noRf2_vr {x : AV} {v : Value} (hn : noRf2 x = true) (hv : VR w Z R x v) : VR w Z [] x v := by
  have hv' := hv
  cases hv with
  | ag hl h1 hx => exact .ag hl h1 fun i x u hx' hu => noRf_vr (List.all_eq_true.1 hn x (List.mem_of_getElem? hx')) (hx i x u hx' hu)
  | _ => exact noRf_vr hn hv'
theorem noRfs_vr {xs : List AV} {us : List Value} (hn : xs.all noRf2 = true) (hv : VRs w Z R xs us) : VRs w Z [] xs us :=
  ⟨hv.len, fun i x u hx hu => noRf2_vr (List.all_eq_true.1 hn x (List.mem_of_getElem? hx)) (hv.at_ i x u hx hu)⟩
end
end Go.Proofs.YthofgamegondnaaDoor
