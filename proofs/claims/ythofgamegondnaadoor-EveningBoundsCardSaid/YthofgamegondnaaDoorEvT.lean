/- The abstract interpreter is sound: calls, rounds, code. -/
import Derived.Test.YthofgamegondnaaDoorEvS
namespace Go.Proofs.YthofgamegondnaaDoor
open Go.RowKit

section
variable {E : Env} {w w' : World} {Z Z' : Nat → Prop} {R R' : List RI} {h h' : Hp} {base : Nat} {s s' : St} {a : Act} {n : Nat}

theorem FrR.off {fr : List (Option AV)} {tmps : Array Value} (f : FrR w Z R fr tmps) (hb : ∀ c, Z c → w'.heap[c]? = w.heap[c]?) : FrR w' Z R fr tmps :=
  ⟨f.1, fun t x hx => (f.2 t x hx).mono hb (fun _ h => h) (fun _ _ h => h)⟩
theorem GI.off (g : GI E w Z) (hb : ∀ c, Z c → w'.heap[c]? = w.heap[c]?) : GI E w' Z := fun n x hx => (g n x hx).mono hb (fun _ h => h) (fun _ _ h => h)

theorem put_ne {w : World} {r c : Nat} {o : Obj} (hne : c ≠ r) : (w.putObj r o).heap[c]? = w.heap[c]? := World.putObj_heap_other hne
theorem put_size (w : World) (r : Nat) (o : Obj) : (w.putObj r o).heap.size = w.heap.size := by simp
theorem Mks.put {r : Nat} {o : Obj} : ∀ {D : List Deferred}, Mks base w Z R h D → (∀ d ∈ D, d ≠ mark r) → Mks base (w.putObj r o) Z R h D
  | [], _, _ => trivial
  | d :: D, ⟨⟨q, h1, h2, h3, h4, h5, h6⟩, hD⟩, hr => by
    have hne : q ≠ r := fun e => hr d (by simp) (by rw [h2, e])
    exact ⟨⟨q, h1, h2, (put_ne hne).trans h3, h4, h5, h6⟩, Mks.put hD fun d hd => hr d (by simp [hd])⟩

theorem run_arrayL {P : Program} {α β : Type} {f : α → Sem β} {l : Array α} {us : List β} {w : World} (h : (l.toList.mapM f).run P w = .ok us w) : (l.mapM f).run P w = .ok us.toArray w := by
  have e : l.mapM f = List.toArray <$> l.toList.mapM f := by rw [Array.mapM_eq_mapM_toList]
  rw [e, map_eq_pure_bind, Sem.run_bind, h]
  rfl
/-- The way out of a function: the marks are taken, the results are read. -/
theorem leaves_mks {fn : Func} {S : Value → World → Prop} {xs : List AV} (hres : resA E.P s.fr s.hp fn.results.toList = some xs)
    (hS : ∀ w' u, w'.heap.size = w.heap.size → w'.os = w.os → w'.tape = w.tape → w'.output = w.output → (∀ c, c < base → w'.heap[c]? = w.heap[c]?) → HR w' Z R s.hp → VR w' Z R (retA xs) u → S u w') :
    ∀ {D : List Deferred} {w1 : World}, SR E base w1 Z R s { a with defers := D } → w1.heap.size = w.heap.size → w1.os = w.os → w1.tape = w.tape → w1.output = w.output → (∀ c, c < base → w1.heap[c]? = w.heap[c]?) →
    LeavesInM (Fw none) 0 E.P fn a.tmps (fun e w' => match e with | .returned v => S v w' | _ => False) D .returning w1
  | [], w1, sr, hz, ho, ht, hp, hb => by
    obtain ⟨us, h1, h2⟩ := resA_run sr w1 (Same.refl w1) hres
    have hr : (results fn a.tmps).run E.P w1 = .ok (if hh : us.toArray.size = 1 then us.toArray[0] else .tuple us.toArray) w1 := by
      have h3 : (fn.results.mapM (rdRes a.tmps)).run E.P w1 = .ok us.toArray w1 := run_arrayL h1
      rw [results_eq, Sem.run_bind, h3]
      rfl
    have hv : VR w1 Z R (retA xs) (if hh : us.toArray.size = 1 then us.toArray[0] else .tuple us.toArray) := by
      match xs, us, h2 with
      | [], us, h2 =>
        have : us = [] := by have := h2.len; simpa using this
        subst this
        exact .tp (us := []) rfl (fun i x u hx => by simp at hx)
      | [x], us, h2 =>
        obtain ⟨u, us', rfl, hu, hn⟩ := h2.head
        have : us' = [] := by have := hn.len; simpa using this
        subst this
        exact hu
      | x :: y :: l, us, h2 =>
        have hl := h2.len
        have : ¬ us.toArray.size = 1 := by simp at hl ⊢; omega
        rw [dif_neg this]
        exact .tp hl h2.at_
    exact ⟨_, hr, hS w1 _ hz ho ht hp hb sr.hh hv⟩
  | d :: D, w1, sr, hz, ho, ht, hp, hb => by
    obtain ⟨⟨r, h1, h2, h3, h4, h5, h6⟩, hD⟩ := sr.mks
    subst h2
    have hb' : ∀ c, (Z c ∨ own R s.hp c) → (w1.putObj r (.deferred none)).heap[c]? = w1.heap[c]? := fun c hc => put_ne (fun e => by subst e; exact hc.elim h4 h5)
    refine ⟨by simp, .inl ⟨r, w1.putObj r (.deferred none), rfl, run_takeDeferred h3, leaves_mks hres hS ⟨sr.hh.off (put_size _ _ _) hb', sr.fr.off fun c hc => hb' c (.inl hc), hD.put h6, sr.gl.off fun c hc => hb' c (.inl hc), by rw [put_size]; exact sr.bs⟩ (by rw [put_size]; exact hz) ho ht hp (fun c hc => (put_ne (by omega)).trans (hb c hc))⟩⟩

def CS (E : Env) (n : Nat) : Prop := ∀ cx c s e s', drawOk c = true → evC E n cx c s = some (e, s') → ∀ ro base Q a w Z R, (cx.inR = false → ro = none) → SR E base w Z R s a → YI cx w Z R s.hp →
  (∀ a' w' Z' R', SR E base w' Z' R' s' a' → Step w Z R s.hp w' Z' R' s'.hp → Q (exOf e) a' w') → c.wpIn (Fw ro) 0 E.P Q a w
def RetTo (E : Env) (f : FuncId) (us : List Value) (w : World) (Z : Nat → Prop) (R : List RI) (h : Hp) (x : AV) (h' : Hp) : Prop :=
  Ret E.P f us.toArray w fun v w' => ∃ Z' R', HR w' Z' R' h' ∧ VR w' Z' R' x v ∧ Step w Z R h w' Z' R' h'

/-- The frozen blocks grow by new ones. -/
theorem HR.addZ (hh : HR w Z R h) (hs : w.grownBy w' none) : HR w' (fun c => Z c ∨ (w.heap.size ≤ c ∧ c < w'.heap.size)) R h ∧ Step w Z R h w' (fun c => Z c ∨ (w.heap.size ≤ c ∧ c < w'.heap.size)) R h := by
  have hk := hh.keep hs.size (fun c hc => hs.block c hc (by simp))
  refine ⟨⟨hk.len, fun b B hB => ?_, hk.inj, fun c hc => hc.elim (fun h => Nat.lt_of_lt_of_le (hh.zlt c h) hs.size) (fun h => h.2)⟩, ⟨hs.os, hs.tape, hs.output, hs.size, fun c hc _ => hs.block c hc (by simp), fun _ h => .inl h, fun _ h => .inl h, fun c hc => hc.elim .inl (fun h => .inr (.inr h.1)), fun _ _ h => h⟩⟩
  obtain ⟨r, arr, us, h1, h2, h3, h4, h5, h6, h7, h8, h9, h10⟩ := hk.blk b B hB
  exact ⟨r, arr, us, h1, h2, h3, h4, h5, h6, fun hf => .inl (h7 hf), fun hf hc => hc.elim (h8 hf) (fun h => by have := hh.rltL hB h1; omega), h9.mono (fun _ _ => rfl) (fun _ h => .inl h) (fun _ _ h => h), h10⟩
/-- A call that is told by a function of its own. -/
theorem X_ret (hE : EnvOk E) {g : FuncId} {X : List AV → Option AV} (hX : E.X g = some X) (hh : HR w Z R h) (hg : GI E w Z) {xs : List AV} {us : List Value} (hvs : VRs w Z R xs us) {x : AV}
    (e : callX2 X xs h = some (x, h')) : RetTo E g us w Z R h x h' := by
  unfold callX2 at e
  split at e
  · next hn =>
    obtain ⟨x', hx', hxe⟩ := Option.map_eq_some_iff.1 e
    injection hxe with e1 e2
    subst e1 e2
    refine Ret.mono ((hE.X g X hX).2 _ _ hx' w _ _ hh.zlt hg (noRfs_vr hn hvs)) fun v w' ⟨hs, hv⟩ => ?_
    obtain ⟨k1, k2⟩ := hh.addZ hs
    exact ⟨_, R, k1, hv.up, k2⟩
  · unfold callX at e
    split at e
    · next ys hys =>
      split at e
      · next x' hx' =>
        split at e
        · next hf =>
          injection e with e; injection e with e1 e2; subst e1 e2
          have hz1 : ∀ c, (Z c ∨ own R h c) → c < w.heap.size := fun c hc => hc.elim (hh.zlt c) (fun ⟨b, B, r, h1, _, h3, h4⟩ => h4 ▸ hh.rltL h1 h3)
          have hg1 : GI E w (fun c => Z c ∨ own R h c) := fun q y hy => (hg q y hy).mono (fun _ _ => rfl) (fun _ h => .inl h) (fun _ _ h => h)
          refine Ret.mono ((hE.X g X hX).2 _ _ hx' w _ _ hz1 hg1 (views_vr hh hvs hys)) fun v w' ⟨hs, hv⟩ => ?_
          exact ⟨Z, R, hh.keep hs.size (fun c hc => hs.block c hc (by simp)), flat_vr hf hv, ⟨hs.os, hs.tape, hs.output, hs.size, fun c hc _ => hs.block c hc (by simp), fun _ h => .inl h, fun _ h => h, fun _ h => .inl h, fun _ _ h => h⟩⟩
        · cases e
      · cases e
    · cases e

/-- A function, entered. -/
theorem enter_sound (hE : EnvOk E) (hCS : CS E n) {y : Option YC} {f : FuncId} {args : List AV} {x : AV} (e : enterA E (evC E n) y f args h = some (x, h')) {us : List Value} (hh : HR w Z R h) (hv : VRs w Z R args us) (hg : GI E w Z) (hy : YI ⟨y, false⟩ w Z R h) : RetTo E f us w Z R h x h' := by
  unfold enterA at e
  split at e
  · cases e
  · next fn hfn =>
    obtain ⟨hf, _, hd⟩ := hE.fn f fn hfn
    split at e
    · cases e
    · next c hc =>
      split at e
      · next hle =>
        have key : ∀ (ex : Ex) (s : St), (ex = .normal ∨ ex = .ret) → evC E n ⟨y, false⟩ c ⟨args.map some ++ List.replicate (fn.ntmps - args.length) (some (.tp [])), h⟩ = some (ex, s) → (resA E.P s.fr s.hp fn.results.toList).map (fun r => (retA r, s.hp)) = some (x, h') → RetTo E f us w Z R h x h' := by
          intro ex s hex he hr
          obtain ⟨xs, hxs, hxe⟩ := Option.map_eq_some_iff.1 hr
          injection hxe with e1 e2
          subst e1 e2
          refine callsIn_wide.1 (callsIn_of_wp_marks (F := Fw none) (n := 0) hf hc trivial ?_)
          have hul : us.length = args.length := hv.len
          have hsr : SR E w.heap.size w Z R ⟨args.map some ++ List.replicate (fn.ntmps - args.length) (some (.tp [])), h⟩ { tmps := us.toArray ++ Array.replicate (fn.ntmps - us.toArray.size) undef, defers := [] } := by
            refine ⟨hh, ⟨by simp [hul], fun t x hx => ?_⟩, trivial, hg, Nat.le_refl _⟩
            have e0 : us.toArray ++ Array.replicate (fn.ntmps - us.toArray.size) undef = (us ++ List.replicate (fn.ntmps - us.length) undef).toArray := by simp
            rw [e0, Array.getD_eq_getD_getElem?, List.getElem?_toArray]
            by_cases ht : t < args.length
            · rw [List.getElem?_append_left (by simpa using ht), List.getElem?_map] at hx
              rw [List.getElem?_append_left (by omega)]
              cases hat : args[t]? with
              | none => rw [hat] at hx; cases hx
              | some q =>
                rw [hat] at hx
                have hx := Option.some.inj (Option.some.inj hx)
                subst hx
                obtain ⟨u, hu1, hu2⟩ := hv.get hat
                rw [hu1]; exact hu2
            · rw [List.getElem?_append_right (by simp; omega), List.getElem?_replicate] at hx
              split at hx
              · next hlt =>
                have hx := Option.some.inj (Option.some.inj hx)
                subst hx
                rw [List.getElem?_append_right (by omega), List.getElem?_replicate, if_pos (by rw [hul]; simpa using hlt)]
                exact .tp (us := []) rfl (fun i x u hx => by simp at hx)
              · cases hx
          refine hCS _ c _ ex s (hd c hc) he none w.heap.size _ _ w Z R (fun _ => rfl) hsr hy fun a' w' Z' R' sr' st => ?_
          have hl := leaves_mks (E := E) (w := w') (a := a') (fn := fn) (S := fun v w'' => ∃ Z' R', HR w'' Z' R' s.hp ∧ VR w'' Z' R' (retA xs) v ∧ Step w Z R h w'' Z' R' s.hp) hxs (fun w'' u g1 g2 g3 g4 g5 g6 g7 => ⟨Z', R', g6, g7, ⟨g2.trans st.os, g3.trans st.tape, g4.trans st.output, by rw [g1]; exact st.size, fun c hc hn => (g5 c hc).trans (st.block c hc hn), st.own_, st.z, st.z', st.r⟩⟩) (D := a'.defers) (w1 := w') sr' rfl rfl rfl rfl (fun _ _ => rfl)
          rcases hex with rfl | rfl
          · exact hl
          · exact hl
        split at e
        · next s he => exact key _ s (.inl rfl) he e
        · next s he => exact key _ s (.inr rfl) he e
        · cases e
      · cases e

/-- An operation that is carried out to a value. -/
theorem wpIn_val {o : Oper} {u : Value} {next : Act → World → Prop} {Q : Exit → Act → World → Prop} (ro : Option Nat) (hr : (execOp a.eval o).run E.P w = .ok (.value u) w') (k : next (a.put o.dst u) w') : o.wpIn (Fw ro) 0 E.P a w next Q :=
  ⟨fun _ _ => trivial, by rw [show (Fw ro).round = ro from rfl, semAt_run ro hr (by simp)]; exact k⟩

theorem setPs_fr : ∀ {fr : List (Option AV)} {ps : List Tmp} {xs : List AV} {tmps : Array Value} {us : List Value}, FrR w Z R fr tmps → VRs w Z R xs us → FrR w Z R (setPs fr ps xs) ((ps.zip us).foldl (fun tmps (x : Tmp × Value) => tmps.setIfInBounds x.1 x.2) tmps)
  | fr, [], xs, tmps, us, hf, _ => by unfold setPs; simpa using hf
  | fr, p :: ps, [], tmps, us, hf, hv => by
    have : us = [] := by have := hv.len; simpa using this
    subst this
    unfold setPs; simpa using hf
  | fr, p :: ps, x :: xs, tmps, us, hf, hv => by
    obtain ⟨u, us', rfl, hu, hn⟩ := hv.head
    simp only [setPs, List.zip_cons_cons, List.foldl_cons]
    refine setPs_fr ⟨by simp [hf.1], fun t y hy => ?_⟩ hn
    rw [List.getElem?_set] at hy
    split at hy
    · next e =>
      subst e
      split at hy
      · next hl =>
        have hy := Option.some.inj (Option.some.inj hy)
        subst hy
        rw [hf.1] at hl
        simp [Array.getD_eq_getD_getElem?, hl]
        exact hu
      · cases hy
    · next e =>
      have := hf.2 t y hy
      rw [Array.getD_eq_getD_getElem?, Array.getElem?_setIfInBounds_ne e, ← Array.getD_eq_getD_getElem?]
      exact this

/-- A call. -/
theorem call_sound (hE : EnvOk E) (hCS : CS E n) {cx : Cx} {fv : AV} {vf : Value} {xs : List AV} {us : List Value} {x : AV} {o : Oper} {f : Operand} {args : Array Operand} {tys : Array TypeId} {next : Act → World → Prop} {Q : Exit → Act → World → Prop} {ro : Option Nat} (hro : cx.inR = false → ro = none)
    (ho : o.op = .call ⟨.value f, args, tys⟩) (hf : a.eval f = vf) (hus : args.toList.map a.eval = us) (hvf : VR w Z R fv vf) (hvs : VRs w Z R xs us) (hh : HR w Z R h) (hg : GI E w Z) (hy : YI cx w Z R h) (e : callA E (evC E n) cx fv xs h = some (x, h'))
    (k : ∀ u w' Z' R', HR w' Z' R' h' → VR w' Z' R' x u → Step w Z R h w' Z' R' h' → next (a.put o.dst u) w') : o.wpIn (Fw ro) 0 E.P a w next Q := by
  have hargs : args.map a.eval = us.toArray := by
    apply Array.ext'
    rw [← hus, Array.toList_map]
  unfold callA at e
  split at e
  · next g first caps =>
    cases hvf with
    | fn hl hl' hx hy' =>
      rename_i uf uc
      have hall : VRs w Z R (first ++ xs ++ caps) (uf ++ us ++ uc) := ((VRs.mk hl hx).append hvs).append (VRs.mk hl' hy')
      have ent : Callable E.P g → RetTo E g (uf ++ us ++ uc) w Z R h x h' → o.wpIn (Fw ro) 0 E.P a w next Q := fun hc hr => by
        have hrun : (execOp a.eval o).run E.P w = .ok (.enter g (uf ++ us ++ uc).toArray) w := by
          have e1 : uf.toArray ++ us.toArray ++ uc.toArray = (uf ++ us ++ uc).toArray := by simp
          simp only [execOp, ho, resolve, hf, hargs, Deferred.ofValue]
          rw [Sem.run_bind, Sem.run_pure]
          simp only [Result.andThen, invoke]
          rw [e1]
          exact hc.run _ _
        refine ⟨fun _ _ => trivial, ?_⟩
        rw [show (Fw ro).round = ro from rfl, semAt_run ro hrun (by simp)]
        refine ⟨(fun h => by cases h), CallsIn.mono (callsIn_fw ro _ hr) fun e w' hS => ?_⟩
        cases e with
        | returned v => obtain ⟨Z', R', k1, k2, k3⟩ := hS; exact k v w' Z' R' k1 k2 k3
        | panicked c => exact hS.elim
        | outgrown => exact hS.elim
      split at e
      · next X hX =>
        obtain ⟨hc, hXs⟩ := hE.X g X hX
        exact ent hc (X_ret hE hX hh hg hall e)
      · have hcall : Callable E.P g := by
          unfold enterA at e
          split at e
          · cases e
          · next fn hfn => exact (hE.fn g fn hfn).2.1
        exact ent hcall (enter_sound hE hCS e hh hall hg (fun y hy => by cases hy))
  · next b =>
    split at e
    · next y hcy =>
      split at e
      · next hcond =>
        obtain ⟨rfl, hlen, hin⟩ := hcond
        have hro' := hro hin
        subst hro'
        obtain ⟨d1, d2, r, L, g1, g2, g3, g4, g5, g6, g7, g8, g9, g10⟩ := hy y hcy
        cases hvf with
        | yl hr =>
          rename_i r'
          rw [g1] at hr
          injection hr with hr
          subst hr
          split at e
          · next s1 he1 =>
            split at e
            · next s2 he2 =>
              injection e with e
              injection e with e1 e2
              subst e1 e2
              have hps : us.toArray.size = L.params.size := by rw [g7]; simp [hvs.len, hlen]
              have hrun : (execOp a.eval o).run E.P w = .ok (.round r.c L.fn ((L.params.zip us.toArray).foldl (fun tmps (t, a) => tmps.setIfInBounds t a) L.tmps) L.assign L.body) w := by
                simp only [execOp, ho, resolve, hf, hargs, Deferred.ofValue]
                rw [Sem.run_bind, Sem.run_pure]
                simp only [Result.andThen, invoke, Array.empty_append]
                exact run_yield g4 hps
              refine ⟨fun _ _ => trivial, ?_⟩
              rw [show (Fw none).round = none from rfl, semAt_run none hrun (by simp), Oper.uponIn_round]
              refine ⟨(fun h => by cases h), ?_⟩
              refine roundIn_of_wpIn (F := Fw none) trivial ?_
              rw [g8, g9]
              have hfr0 : FrR w Z R (setPs y.fr y.ps xs) ((L.params.zip us.toArray).foldl (fun tmps (t, a) => tmps.setIfInBounds t a) L.tmps) := by
                have := setPs_fr (ps := y.ps) g10 hvs
                have e0 : (L.params.zip us.toArray).foldl (fun tmps (t, a) => tmps.setIfInBounds t a) L.tmps = (y.ps.zip us).foldl (fun tmps (x : Tmp × Value) => tmps.setIfInBounds x.1 x.2) L.tmps := by
                  rw [g7, ← Array.foldl_toList]; simp
                rw [e0]; exact this
              have hlt := heapLt g4
              refine hCS ⟨none, true⟩ y.assign ⟨setPs y.fr y.ps xs, h⟩ .normal s1 d1 he1 (some r.c) 0 _ _ w Z R (fun h => by cases h) ⟨hh, hfr0, trivial, hg, Nat.zero_le _⟩ (fun y hy => by cases hy) fun a1 w1 Z1 R1 sr1 st1 => ?_
              obtain ⟨p1, p2, p3⟩ := st1.other g4 g2 g3
              refine ⟨_, run_beginRound p1 g5, ?_⟩
              have hlt1 := heapLt p1
              have hb1 : ∀ c, (Z1 c ∨ own R1 s1.hp c) → (w1.putObj r.c (.loop { L with state := .busy })).heap[c]? = w1.heap[c]? := fun c hc => put_ne (fun e => by subst e; exact hc.elim p2 p3)
              have hh2 := sr1.hh.off (put_size _ _ _) hb1
              refine hCS ⟨none, true⟩ y.body s1 .normal s2 d2 he2 (some r.c) 0 _ a1 _ Z1 R1 (fun h => by cases h) ⟨hh2, sr1.fr.off fun c hc => hb1 c (.inl hc), ?_, sr1.gl.off fun c hc => hb1 c (.inl hc), Nat.zero_le _⟩ (fun y hy => by cases hy) fun a2 w3 Z3 R3 sr3 st3 => ?_
              · exact sr1.mks.put (fun d hd e => by
                  have : ∀ {D : List Deferred}, Mks 0 w1 Z1 R1 s1.hp D → mark r.c ∈ D → False := by
                    intro D
                    induction D with
                    | nil => intro _ h; cases h
                    | cons d D ih =>
                      rintro ⟨⟨q, _, q2, q3, _⟩, hD⟩ hm
                      rcases List.mem_cons.1 hm with hm | hm
                      · rw [← hm] at q2
                        have : r.c = q := by unfold mark at q2; injection q2 with q2; injection q2
                        subst this
                        rw [p1] at q3
                        cases q3
                      · exact ih hD hm
                  subst e
                  exact this sr1.mks hd)
              · have hput : (w1.putObj r.c (.loop { L with state := .busy })).heap[r.c]? = some (.loop { L with state := .busy }) := World.putObj_heap_same hlt1
                obtain ⟨q1, q2, q3⟩ := st3.other hput p2 p3
                have hlt3 := heapLt q1
                refine ⟨_, _, run_endRound none q1, ?_⟩
                have hb3 : ∀ c, (Z3 c ∨ own R3 s2.hp c) → (w3.putObj r.c (.loop { { L with state := .busy } with state := if (none : Option Code).isNone then .ready else .done, pending := none })).heap[c]? = w3.heap[c]? := fun c hc => put_ne (fun e => by subst e; exact hc.elim q2 q3)
                have hL : ({ { L with state := .busy } with state := if (none : Option Code).isNone then .ready else .done, pending := none } : Loop) = L := by
                  cases L; simp at g5 g6; subst g5 g6; rfl
                refine k (.bool true) _ Z3 R3 (sr3.hh.off (put_size _ _ _) hb3) (.v rfl) ⟨?_, ?_, ?_, ?_, fun c hc hn => ?_, fun c hc => ?_, fun c hc => st3.z c (st1.z c hc), fun c hc => ?_, fun i q hq => st3.r i q (st1.r i q hq)⟩
                · exact st3.os.trans st1.os
                · exact st3.tape.trans st1.tape
                · exact st3.output.trans st1.output
                · rw [put_size]
                  have := st3.size
                  rw [put_size] at this
                  exact Nat.le_trans st1.size this
                · by_cases hcr : c = r.c
                  · subst hcr
                    rw [World.putObj_heap_same hlt3, hL]
                    exact g4.symm
                  · rw [put_ne hcr]
                    have hc1 : c < w1.heap.size := Nat.lt_of_lt_of_le hc st1.size
                    have hno : ¬ own R1 s1.hp c := fun ho => by
                      rcases st1.own_ c ho with h1 | h1
                      · exact hn h1
                      · omega
                    rw [st3.block c (by rw [put_size]; exact hc1) hno, put_ne hcr]
                    exact st1.block c hc hn
                · rcases st3.own_ c hc with h1 | h1
                  · exact st1.own_ c h1
                  · rw [put_size] at h1; exact .inr (Nat.le_trans st1.size h1)
                · rcases st3.z' c hc with h1 | h1 | h1
                  · exact st1.z' c h1
                  · rcases st1.own_ c h1 with h2 | h2
                    · exact .inr (.inl h2)
                    · exact .inr (.inr h2)
                  · rw [put_size] at h1; exact .inr (.inr (Nat.le_trans st1.size h1))
            · cases e
          · cases e
      · cases e
    · cases e
  · cases e
end
end Go.Proofs.YthofgamegondnaaDoor
