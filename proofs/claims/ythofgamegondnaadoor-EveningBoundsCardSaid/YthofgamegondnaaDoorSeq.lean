/- Ranges over functions: the record of the loop, its rounds, the mark that it leaves among the deferred calls. -/
import Derived.Test.YthofgamegondnaaDoorMix
import Derived.RangeFuncRecord
import Derived.RangeFuncCalls
namespace Go.Proofs.YthofgamegondnaaDoor
open Go.RowKit

def mark (r : Nat) : Deferred := { target := .collected r, args := #[] }

/-- The deferred calls of a frame are marks of empty blocks, from block lo on, each below the one before. -/
def Mk (w : World) (lo : Nat) : Nat → List Deferred → Prop
  | _, [] => True
  | hi, d :: D => ∃ r, lo ≤ r ∧ r < hi ∧ d = mark r ∧ w.heap[r]? = some (.deferred (some [])) ∧ Mk w lo r D

section
variable {w w' : World} {lo hi : Nat} {D : List Deferred} {row : Option Nat}
theorem Mk.widen {hi' : Nat} (h : Mk w lo hi D) (hh : hi ≤ hi') : Mk w lo hi' D := by
  cases D with
  | nil => trivial
  | cons d D => obtain ⟨r, h1, h2, h3⟩ := h; exact ⟨r, h1, by omega, h3⟩
theorem Mk.ch (h : Mk w lo hi D) (hg : w.grownBy w' row) (hr : ∀ g, row = some g → g < w.heap.size → hi ≤ g ∨ g < lo ∨ ∀ ds, w.heap[g]? ≠ some (.deferred ds)) : Mk w' lo hi D := by
  induction D generalizing hi with
  | nil => trivial
  | cons d D ih =>
    obtain ⟨r, h1, h2, h3, h4, h5⟩ := h
    have hlt : r < w.heap.size := by
      rcases Nat.lt_or_ge r w.heap.size with h | h
      · exact h
      · rw [Array.getElem?_eq_none h] at h4; cases h4
    refine ⟨r, h1, h2, h3, (hg.block r hlt fun e => ?_).trans h4, ih h5 fun g e hl => ?_⟩
    · rcases hr r e.symm hlt with h | h | h
      · omega
      · omega
      · exact h _ h4
    · rcases hr g e hl with h | h
      · exact .inl (by omega)
      · exact .inr h
theorem Mk.pu (h : Mk w lo hi D) (hg : w.grownBy w' none) : Mk w' lo hi D := h.ch hg fun _ e => by cases e
theorem Mk.nil (w : World) (lo hi : Nat) : Mk w lo hi [] := trivial
theorem Bk.notMark {g : Nat} {t : TypeId} {cs : List Value} (h : Bk w g t cs) : ∀ ds, w.heap[g]? ≠ some (.deferred ds) := fun ds e => by
  unfold Bk at h; rw [h] at e; cases e
end

section leave
variable {P : Program} {fn : Func} {tmps : Array Value} {R : Ending → World → Prop}
theorem ch_putObj (w : World) (r : Nat) (o : Obj) : w.grownBy (w.putObj r o) (some r) :=
  ⟨rfl, rfl, rfl, by simp, fun k _ hne => World.putObj_heap_other (fun e => hne (by rw [e]))⟩
theorem leaves_marks {lo : Nat} : ∀ {D : List Deferred} {hi : Nat} {w : World}, Mk w lo hi D → (∀ w', Below lo w w' → ∃ v, (results fn tmps).run P w' = .ok v w' ∧ R (.returned v) w') → LeavesInM (Fw none) 0 P fn tmps R D .returning w
  | [], _, w, _, h => h w (Below.refl _ _)
  | d :: D, hi, w, hm, h => by
    obtain ⟨r, h1, h2, rfl, h4, h5⟩ := hm
    refine ⟨by simp, .inl ⟨r, w.putObj r (.deferred none), rfl, run_takeDeferred h4, leaves_marks (Mk.ch h5 (ch_putObj w r _) fun g e _ => .inl (by injection e with e; omega)) fun w' hb => h w' ?_⟩⟩
    refine ⟨hb.os, hb.tape, hb.output, Nat.le_trans (by simp) hb.size, fun k hk => (hb.block k hk).trans (World.putObj_heap_other (by omega))⟩
end leave

section ret
variable {P : Program} {F : Frm} {l : List (Nat × Value)} {w : World} {fn : Func} {R : Ending → World → Prop} {lo hi : Nat}
theorem wq_ret1M {t : Tmp} {v : Value} (hr : fn.results = #[.tmp t]) (hm : Mk w lo hi F.D) (hv : fr l F.s t = v) (h : ∀ w', Below lo w w' → R (.returned v) w') : WQ (bodyPostM (Fw none) 0 P fn R) .ret F l w :=
  fun a ha => leaves_marks (ha.defers ▸ hm) fun w' hb => ⟨v, by have := results_tmp hr a.tmps P w'; rw [ha.get, hv] at this; exact this, h w' hb⟩
theorem wq_end0M (hr : fn.results = #[]) (hm : Mk w lo hi F.D) (h : ∀ w', Below lo w w' → R (.returned (.tuple #[])) w') : WQ (bodyPostM (Fw none) 0 P fn R) .normal F l w :=
  fun a ha => leaves_marks (ha.defers ▸ hm) fun w' hb => ⟨_, results_none hr a.tmps P w', h w' hb⟩
theorem wq_retcellGM {t : Tmp} {e : TypeId} {ds : TypeDesc} {sz by_ : Nat} {z : Value} {a : Addr} {cs : List Value} (hr : fn.results = #[.cell t e]) (hm : Mk w lo hi F.D) (ha : fr l F.s t = .pointer (some a)) (hT : Ty P e ds sz by_ z) (hf : flat ds = false) (hl : cs.length = sz)
    (hc : ∀ j v, cs[j]? = some v → w.cell? (a.add j) = some v) (hlo : a.block < lo) (h : ∀ w', Below lo w w' → R (.returned (.agg cs.toArray)) w') : WQ (bodyPostM (Fw none) 0 P fn R) .ret F l w :=
  fun act hA => leaves_marks (hA.defers ▸ hm) fun w' hb => ⟨.agg cs.toArray, by
    have hc' : ∀ j v, cs[j]? = some v → w'.cell? (a.add j) = some v := fun j v hj => (World.cell?_of_block (by rw [Addr.add_block]; exact hb.block _ hlo)).trans (hc j v hj)
    simp [results, hr, hA.get, ha, asAddr, run_loadVarAgg hT hf hl hc'], h w' hb⟩
theorem ret_inM {f : FuncId} {fn : Func} {c : Code} {args : List Value} {S : Value → World → Prop} {N : Nat} (hf : P.funcs[f]? = some fn) (hb : fn.body = some c) (hn : fn.ntmps = N) (hN : Nat.ble args.length N = true)
    (h : WC P c (bodyPostM (Fw none) 0 P fn (fun e w' => match e with | .returned v => S v w' | _ => False)) ⟨N, [], none, fun _ => undef⟩ (frameOf 0 args) w) : Ret P f args.toArray w S := by
  subst hn
  have hN' : args.length ≤ fn.ntmps := Nat.le_of_ble_eq_true hN
  refine callsIn_wide.1 (callsIn_of_wp_marks (F := Fw none) (n := 0) hf hb trivial (h _ ⟨?_, rfl, fun t => ?_⟩))
  · simp; omega
  · rw [fr_frameOf args (fn.ntmps - args.length) 0 t, if_pos (Nat.zero_le _)]
    have e : args.toArray ++ Array.replicate (fn.ntmps - args.length) undef = (args ++ List.replicate (fn.ntmps - args.length) undef).toArray := by simp
    simp only [Array.getD_eq_getD_getElem?, List.size_toArray, Nat.sub_zero]
    rw [e, List.getElem?_toArray]
end ret

/-- The record of a range over a function, in some state. -/
def Rec (st : LoopState) (F : Frm) (l : List (Nat × Value)) (ps : Array Tmp) (assign body : Code) (lp : Nat) (w : World) : Prop :=
  ∃ r : Loop, w.heap[lp]? = some (.loop r) ∧ r.state = st ∧ r.pending = none ∧ r.params = ps ∧ r.assign = assign ∧ r.body = body ∧ r.tmps.size = F.N ∧ ∀ t, r.tmps.getD t undef = fr l F.s t

section rec_
variable {st : LoopState} {F : Frm} {l : List (Nat × Value)} {ps : Array Tmp} {assign body : Code} {lp : Nat} {w w' : World} {row : Option Nat}
theorem Rec.lt (h : Rec st F l ps assign body lp w) : lp < w.heap.size := by
  obtain ⟨r, h1, _⟩ := h
  rcases Nat.lt_or_ge lp w.heap.size with h | h
  · exact h
  · rw [Array.getElem?_eq_none h] at h1; cases h1
theorem Rec.ch (h : Rec st F l ps assign body lp w) (hg : w.grownBy w' row) (hr : row ≠ some lp) : Rec st F l ps assign body lp w' := by
  have hlt := h.lt
  obtain ⟨r, h1, h2⟩ := h
  exact ⟨r, (hg.block lp hlt (fun e => hr e.symm)).trans h1, h2⟩
theorem Rec.pu (h : Rec st F l ps assign body lp w) (hg : w.grownBy w' none) : Rec st F l ps assign body lp w' := h.ch hg (by simp)
theorem RRch {RR : LoopState → World → Prop} (hRR : RR = fun st w => Rec st F l ps assign body lp w) (h : RR st w) (hg : w.grownBy w' row) (hr : row ≠ some lp) : RR st w' := by
  subst hRR; exact Rec.ch h hg hr
theorem RRpu {RR : LoopState → World → Prop} (hRR : RR = fun st w => Rec st F l ps assign body lp w) (h : RR st w) (hg : w.grownBy w' none) : RR st w' := RRch hRR h hg (by simp)
theorem Rec.notMark (h : Rec st F l ps assign body lp w) : ∀ ds, w.heap[lp]? ≠ some (.deferred ds) := fun ds e => by
  obtain ⟨r, h1, _⟩ := h; rw [h1] at e; cases e
theorem Bk.notLoop {g : Nat} {t : TypeId} {cs : List Value} (h : Bk w g t cs) (hr : Rec st F l ps assign body lp w) : g ≠ lp := fun e => by
  obtain ⟨r, h1, _⟩ := hr
  unfold Bk at h; rw [e, h1] at h; cases h
theorem Bk.notRR {g : Nat} {t : TypeId} {cs : List Value} {RR : LoopState → World → Prop} (h : Bk w g t cs) (hRR : RR = fun st w => Rec st F l ps assign body lp w) (hr : RR st w) : g ≠ lp := by
  subst hRR; exact h.notLoop hr
end rec_

section below
variable {w w' : World} {B : Nat}
theorem Bl.below {α : Type} {r : Rep α} {e : TypeId} {lo hi : Nat} {v : Value} {xs : List α} (h : Bl r e w lo hi v xs) (hb : Below B w w') (hh : hi ≤ B) : Bl r e w' lo hi v xs := by
  obtain ⟨L, ho, hbd, hl, hr⟩ := h
  refine ⟨L, ?_, hbd, hl, fun i u x hu hx => r.kept (hr i u x hu hx) fun b hb' _ => hb.block b (by have := hb'.1.2; omega)⟩
  refine ⟨ho.1, ?_⟩
  rcases ho.2 with h0 | ⟨g, cap, cur, hv, hlo, hh', hrest⟩
  · exact .inl h0
  · refine .inr ⟨g, cap, cur, hv, hlo, (hb.block g ?_).trans hh', hrest⟩
    have := hbd g (by rw [hv]; rfl)
    omega
theorem Bk.below {g : Nat} {t : TypeId} {cs : List Value} (h : Bk w g t cs) (hb : Below B w w') (hh : g < B) : Bk w' g t cs := (hb.block g hh).trans h
theorem Rep.belowS {α : Type} {r : Rep α} {S : Nat → Prop} {v : Value} {x : α} (h : r.R w S v x) (hb : Below B w w') (hh : ∀ b, S b → b < w.heap.size → b < B) : r.R w' S v x := r.kept h fun b hs hlt => hb.block b (hh b hs hlt)
theorem pu_below2 {w0 : World} (h : w0.grownBy w none) (hb : Below B w w') (hh : w0.heap.size ≤ B) : w0.grownBy w' none :=
  ⟨hb.os.trans h.os, hb.tape.trans h.tape, hb.output.trans h.output, Nat.le_trans h.size hb.size, fun k hk hne => (hb.block k (by omega)).trans (h.block k hk hne)⟩
end below

/-- yield, called in world w, hands back true, and leaves what K says. -/
def Yd (P : Program) (lp : Nat) (vs : List Value) (w : World) (K : World → Prop) : Prop :=
  ∃ r : Loop, w.heap[lp]? = some (.loop r) ∧ vs.toArray.size = r.params.size ∧
    RoundIn (Fw none) 0 P lp r.fn ((r.params.zip vs.toArray).foldl (fun tmps (t, a) => tmps.setIfInBounds t a) r.tmps) r.assign r.body w (fun e w' => match e with | .returned v => v = .bool true ∧ K w' | _ => False)
theorem Yd.mono {P : Program} {lp : Nat} {vs : List Value} {w : World} {K K' : World → Prop} (h : Yd P lp vs w K) (hk : ∀ w, K w → K' w) : Yd P lp vs w K' := by
  obtain ⟨r, h1, h2, h3⟩ := h
  exact ⟨r, h1, h2, h3.mono fun e w' he => by cases e <;> first | exact ⟨he.1, hk _ he.2⟩ | exact he⟩

section rules
variable {P : Program} {Q : Exit → Act → World → Prop} {F : Frm} {l : List (Nat × Value)} {w : World} {ops : Array Oper} {rest : List Oper}
variable {d : Nat} {ty t2 : TypeId} {pos : String} {af : Array Edge} {x : Operand}

theorem wl_yield {lp : Nat} {args : Array Operand} {tys : Array TypeId} {vs : List Value} {K : World → Prop} (hx : ev l F.s x = .func (.yield lp) #[] #[]) (hargs : args.toList.map (ev l F.s) = vs) (hN : Nat.blt d F.N = true) (h : Yd P lp vs w K)
    (k : ∀ w', K w' → WL P ops Q rest F ((d, .bool true) :: l) w') : WL P ops Q (⟨some d, .call ⟨.value x, args, tys⟩, ty, pos, af, none⟩ :: rest) F l w := fun a ha =>
  wpListIn_plain rfl fun K' hK => by
    obtain ⟨r, h1, h2, h3⟩ := h
    have e : args.map (ev l F.s) = vs.toArray := by
      apply Array.ext'
      rw [← hargs, Array.toList_map]
    have hrun : (execOp (ev l F.s) ⟨some d, .call ⟨.value x, args, tys⟩, ty, pos, af, none⟩).run P w = .ok (.round lp r.fn ((r.params.zip vs.toArray).foldl (fun tmps (t, a) => tmps.setIfInBounds t a) r.tmps) r.assign r.body) w := by
      simp [execOp, resolve, hx, Deferred.ofValue, invoke, e, run_yield h1 h2]
    refine ⟨fun _ _ => trivial, ?_⟩
    rw [ha.eval, show (Fw F.ro).round = F.ro from rfl, semAt_run F.ro hrun (by simp), Oper.uponIn_round]
    refine ⟨(fun h => by cases h), RoundIn.mono (show RoundIn (Fw F.ro) _ P lp r.fn _ r.assign r.body w _ from h3) fun e w' hS => ?_⟩
    cases e with
    | returned v =>
      obtain ⟨rfl, hKw⟩ := hS
      exact hK _ _ (k w' hKw _ (ha.put hN _))
    | panicked c => exact hS.elim
    | outgrown => exact hS.elim

def BeginGo (P : Program) (lp : Nat) (body : Code) (R : Ending → World → Prop) (a : Act) (w : World) : Prop :=
  ∃ w₂, (Instr.beginRound lp).run P w = .ok () w₂ ∧ body.wpIn (Fw (some lp)) 0 P (roundPost P lp R) a w₂
def YdR (K : World → Prop) : Ending → World → Prop := fun e w' => match e with | .returned v => v = .bool true ∧ K w' | _ => False

theorem fold_ps {F : Frm} : ∀ (ps : List Tmp) (vs : List Value) (l : List (Nat × Value)) (tmps : Array Value) (D : List Deferred) (ro : Option Nat), ps.all (fun t => Nat.blt t F.N) = true → Ag ⟨F.N, D, ro, F.s⟩ l { tmps := tmps, defers := D } →
    Ag ⟨F.N, D, ro, F.s⟩ ((ps.zip vs).reverse ++ l) { tmps := (ps.zip vs).foldl (fun tmps (t, a) => tmps.setIfInBounds t a) tmps, defers := D }
  | [], _, _, _, _, _, _, h => by simpa using h
  | _ :: _, [], _, _, _, _, _, h => by simpa using h
  | p :: ps, v :: vs, l, tmps, D, ro, hN, h => by
    simp only [List.all_cons, Bool.and_eq_true] at hN
    have h1 := fold_ps ps vs ((p, v) :: l) (tmps.setIfInBounds p v) D ro hN.2 (Ag.put h hN.1 v)
    simpa using h1

theorem yd_of {ps : List Tmp} {assign body : Code} {lp : Nat} {vs : List Value} {K : World → Prop} {RR : LoopState → World → Prop} (hRR : RR = fun st w => Rec st F l ps.toArray assign body lp w) (hr' : RR .ready w) (hn : vs.length = ps.length) (hN : ps.all (fun t => Nat.blt t F.N) = true)
    (h : WC P assign (Exit.then (BeginGo P lp body (YdR K)) (fun _ _ _ => False)) ⟨F.N, [], some lp, F.s⟩ ((ps.zip vs).reverse ++ l) w) : Yd P lp vs w K := by
  subst hRR
  obtain ⟨r, h1, h2, h3, h4, h5, h6, h7, h8⟩ := hr'
  refine ⟨r, h1, by simp [h4, hn], ?_⟩
  rw [h5, h6, h4]
  refine roundIn_of_wpIn (F := Fw none) trivial ?_
  have ha : Ag ⟨F.N, [], some lp, F.s⟩ ((ps.zip vs).reverse ++ l) { tmps := (ps.toArray.zip vs.toArray).foldl (fun tmps (t, a) => tmps.setIfInBounds t a) r.tmps, defers := [] } := by
    have := fold_ps (F := F) ps vs l r.tmps [] (some lp) hN ⟨h7, rfl, h8⟩
    simpa using this
  exact h _ ha

theorem wq_begin {F₀ : Frm} {l₀ : List (Nat × Value)} {ps : Array Tmp} {assign body : Code} {lp : Nat} {R : Ending → World → Prop} {Q' : Exit → Act → World → Prop} {RR : LoopState → World → Prop} (hRR : RR = fun st w => Rec st F₀ l₀ ps assign body lp w) (hr : RR .ready w) (hro : F.ro = some lp)
    (h : ∀ w₂, w.grownBy w₂ (some lp) → w₂.heap.size = w.heap.size → RR .busy w₂ → WC P body (roundPost P lp R) F l w₂) : WQ (Exit.then (BeginGo P lp body R) Q') .normal F l w := fun a ha => by
  subst hRR
  obtain ⟨r, h1, h2⟩ := hr
  have hlt : lp < w.heap.size := Rec.lt ⟨r, h1, h2⟩
  refine ⟨_, run_beginRound h1 h2.1, ?_⟩
  have := h _ (ch_putObj w lp _) (by simp) ⟨{ r with state := .busy }, World.putObj_heap_same hlt, rfl, h2.2⟩ a ha
  rw [hro] at this
  exact this

theorem wq_roundEnd {st : LoopState} {F₀ : Frm} {l₀ : List (Nat × Value)} {ps : Array Tmp} {assign body : Code} {lp : Nat} {K : World → Prop} {RR : LoopState → World → Prop} (hRR : RR = fun st w => Rec st F₀ l₀ ps assign body lp w) (hr : RR st w)
    (h : ∀ w₂, w.grownBy w₂ (some lp) → w₂.heap.size = w.heap.size → RR .ready w₂ → K w₂) : WQ (roundPost P lp (YdR K)) .normal F l w := fun a ha => by
  subst hRR
  obtain ⟨r, h1, h2, h3, h4⟩ := hr
  have hlt : lp < w.heap.size := Rec.lt ⟨r, h1, h2, h3, h4⟩
  exact ⟨_, _, run_endRound none h1, rfl, h _ (ch_putObj w lp _) (by simp) ⟨_, World.putObj_heap_same hlt, rfl, rfl, h4⟩⟩

theorem wc_rangeFunc {g : Operand} {ps : List Tmp} {assign body : Code} {f : FuncId} {first cap : List Value} (hg : ev l F.s g = .func (.func f) first.toArray cap.toArray) (hro : F.ro = none) (hc : Callable P f)
    (h : ∀ w₁ lp (RR : LoopState → World → Prop), RR = (fun st w => Rec st F l ps.toArray assign body lp w) → lp = w.heap.size + 1 → w.grownBy w₁ none → w₁.heap.size = w.heap.size + 2 → w₁.heap[w.heap.size]? = some (.deferred (some [])) → RR .ready w₁ →
      Ret P f (first ++ [Value.func (.yield lp) #[] #[]] ++ cap).toArray w₁ (fun _ w₃ => RR .ready w₃ ∧
        ∀ w₄, w₃.grownBy w₄ (some lp) → w₄.heap.size = w₃.heap.size → WQ Q .normal ⟨F.N, mark w.heap.size :: F.D, none, F.s⟩ l w₄)) : WC P (.rangeFunc g ps.toArray assign body) Q F l w := fun a ha => by
  rw [hro]
  refine wpIn_rangeFunc fun fnn _ => ?_
  refine ⟨_, _, ((w.alloc (.deferred (some []))).alloc (.loop { state := .ready, pending := none, fn := fnn, tmps := a.tmps, params := ps.toArray, assign, body, defers := w.heap.size })), { target := .fn (.func f) cap.toArray, args := first.toArray ++ #[Value.func (.yield (w.heap.size + 1)) #[] #[]] }, ((w.alloc (.deferred (some []))).alloc (.loop { state := .ready, pending := none, fn := fnn, tmps := a.tmps, params := ps.toArray, assign, body, defers := w.heap.size })), f, (first ++ [Value.func (.yield (w.heap.size + 1)) #[] #[]] ++ cap).toArray, ((w.alloc (.deferred (some []))).alloc (.loop { state := .ready, pending := none, fn := fnn, tmps := a.tmps, params := ps.toArray, assign, body, defers := w.heap.size })), run_enterLoop_outer fnn a.tmps ps.toArray assign body, ?_, fun _ _ => trivial, ?_, (fun h => by cases h), ?_⟩
  · simp [resolve, ha.eval, hg, Deferred.ofValue]
    rfl
  · simp [invoke, hc.run]
  · have h1 := h _ _ _ rfl rfl ((ch_alloc w (.deferred (some []))).trans (ch_alloc _ (.loop { state := .ready, pending := none, fn := fnn, tmps := a.tmps, params := ps.toArray, assign, body, defers := w.heap.size }))) (by simp) (by
        rw [Below.heap_alloc _ _ _ (by simp)]; exact World.alloc_heap_new _ _) ⟨_, by
        have := World.alloc_heap_new (w.alloc (.deferred (some []))) (.loop { state := .ready, pending := none, fn := fnn, tmps := a.tmps, params := ps.toArray, assign, body, defers := w.heap.size })
        simpa using this, rfl, rfl, rfl, rfl, rfl, ha.size, ha.get⟩
    refine callsIn_fw none _ (Ret.calls h1 fun v w₃ hS => ?_)
    obtain ⟨⟨r, g1, g2, g3, g4⟩, hS⟩ := hS
    refine ⟨_, _, run_endLoop g1 (by rw [g2]; simp), ?_⟩
    rw [g3]
    exact hS _ (ch_putObj _ _ _) (by simp) _ ⟨ha.size, by rw [ha.defers]; rfl, ha.get⟩

/-- A loop at whose head the deferred calls are marks. -/
def LoopGoM (F : Frm) (I : List (Nat × Value) → Nat → World → List Deferred → Prop) (n : Nat) (a : Act) (w : World) : Prop :=
  ∃ l m s D, m < n ∧ I l m w D ∧ Ag ⟨F.N, D, F.ro, s⟩ l a
theorem wc_loopM {c : Code} (I : List (Nat × Value) → Nat → World → List Deferred → Prop) {l₀ : List (Nat × Value)} {n₀ : Nat} (h0 : I l₀ n₀ w F.D) (hf : Fits l F.s l₀)
    (round : ∀ l n w s D, I l n w D → WC P c (Exit.then (LoopGoM F I n) Q) ⟨F.N, D, F.ro, s⟩ l w) : WC P (.loop c) Q F l w := by
  intro a ha b k cs hro hb hr
  have key : ∀ n l a w s D, I l n w D → Ag ⟨F.N, D, F.ro, s⟩ l a →
      ∃ e a' w', Q e a' w' ∧ ArrivesIn (Machine.fenced P (Fw F.ro)) P (lone (b.atR a (.code c :: .inLoop c :: k)) cs w) b k cs e a' w' := by
    intro n
    induction n using Nat.strongRecOn with
    | _ n ih =>
      intro l a w s D hI hA
      obtain ⟨e, a₁, w₁, hq, harr⟩ := round l n w s D hI a hA b (.inLoop c :: k) cs hro hb hr
      cases e with
      | normal =>
        obtain ⟨l', m, s', D', hlt, hH, hA'⟩ := hq
        obtain ⟨e₂, a₂, w₂, hq₂, harr₂⟩ := ih m hlt l' a₁ w₁ s' D' hH hA'
        exact ⟨e₂, a₂, w₂, hq₂, .of_steps (StepsIn.trans harr (.one (fenced_calm hb hr rfl) stepR_inLoop)) harr₂⟩
      | exit id => exact ⟨_, a₁, w₁, hq, .pass (x := .inLoop c) rfl (fun _ _ => .inl (by simp)) harr⟩
      | goto l => exact ⟨_, a₁, w₁, hq, .pass (x := .inLoop c) rfl (fun _ _ => .inl (by simp)) harr⟩
      | ret => exact ⟨_, a₁, w₁, hq, .pass (x := .inLoop c) rfl (fun _ _ => .inl (by simp)) harr⟩
      | panic ch => exact ⟨_, a₁, w₁, hq, .pass (x := .inLoop c) rfl (fun _ _ => .inl (by simp)) harr⟩
      | outgrown => exact ⟨_, a₁, w₁, hq, .pass (x := .inLoop c) rfl (fun _ _ => .inl (by simp)) harr⟩
  obtain ⟨e, a', w', hq, harr⟩ := key _ l₀ a w (fr l F.s) F.D h0 (ha.fits hf)
  exact ⟨e, a', w', hq, .of_steps (.one (fenced_calm hb hr rfl) stepR_loop) harr⟩
theorem wq_roundM {I : List (Nat × Value) → Nat → World → List Deferred → Prop} {n m : Nat} {l' : List (Nat × Value)} {F' : Frm} {Q' : Exit → Act → World → Prop} (hI : I l' m w F.D) (hm : m < n) (hf : Fits l F.s l') (hN : F.N = F'.N) :
    WQ (Exit.then (LoopGoM F' I n) Q') .normal F l w :=
  fun _ ha => ⟨l', m, fr l F.s, F.D, hm, hI, ⟨ha.size.trans hN, ha.defers, fun t => (ha.get t).trans (hf.fr t).symm⟩⟩
end rules
end Go.Proofs.YthofgamegondnaaDoor
