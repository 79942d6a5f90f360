/- The engine: frames as lists of known slots, and one rule for each form of code and each kind of operation. Plain lemmas over any program. -/
import Derived.WalkKit
import Derived.Deep.Quiet
import Derived.TacticsIn
import Derived.OrdersIn
namespace Go.Proofs.YthofgamegondnaaDoor
open Go.RowKit

/-- The value of a slot: the first entry of the list, else the unknown frame. -/
def fr : List (Nat × Value) → (Nat → Value) → Nat → Value
  | [], s, t => s t
  | (d, v) :: l, s, t => bif Nat.beq t d then v else fr l s t

def ev (l : List (Nat × Value)) (s : Nat → Value) : Operand → Value
  | .tmp t => fr l s t
  | .const v => v
  | .global g => .pointer (some ⟨g, 0, none⟩)
  | .func f => .func (.func f) #[] #[]

structure Frm where
  N : Nat
  D : List Deferred
  ro : Option Nat
  s : Nat → Value

/-- The wide fence, in the round 'ro' of a range over a function (none: outside). -/
def Fw (ro : Option Nat) : Fence := { fn := fun _ => True, depth := none, alive := false, round := ro }

structure Ag (F : Frm) (l : List (Nat × Value)) (a : Act) : Prop where
  size : a.tmps.size = F.N
  defers : a.defers = F.D
  get : ∀ t, a.tmps.getD t undef = fr l F.s t

theorem Ag.eval {F : Frm} {l : List (Nat × Value)} {a : Act} (h : Ag F l a) : a.eval = ev l F.s := by
  funext x
  cases x with
  | tmp t => exact h.get t
  | const v => rfl
  | global g => rfl
  | func f => rfl

theorem Ag.put {F : Frm} {l : List (Nat × Value)} {a : Act} (h : Ag F l a) {d : Nat} (hd : Nat.blt d F.N = true) (v : Value) : Ag F ((d, v) :: l) (a.put (some d) v) := by
  have hd' : d < F.N := by simpa [Nat.blt_eq] using hd
  refine ⟨by simp [Act.put, h.size], h.defers, fun t => ?_⟩
  show (a.tmps.setIfInBounds d v).getD t undef = bif Nat.beq t d then v else fr l F.s t
  rw [← h.get t]
  by_cases e : t = d
  · subst e
    have : t < a.tmps.size := by rw [h.size]; exact hd'
    simp [Array.getD_eq_getD_getElem?, this]
  · have hb : Nat.beq t d = false := by
      cases hq : Nat.beq t d
      · rfl
      · exact absurd (Nat.eq_of_beq_eq_true hq) e
    rw [hb]
    simp only [cond_false, Array.getD_eq_getD_getElem?]
    rw [Array.getElem?_setIfInBounds_ne (fun h => e h.symm)]

theorem Ag.put_none {F : Frm} {l : List (Nat × Value)} {a : Act} (h : Ag F l a) (v : Value) : Ag F l (a.put none v) := h

def WL (P : Program) (ops : Array Oper) (Q : Exit → Act → World → Prop) (rest : List Oper) (F : Frm) (l : List (Nat × Value)) (w : World) : Prop :=
  ∀ a, Ag F l a → wpListIn (Fw F.ro) 0 P ops Q rest a w
def WC (P : Program) (c : Code) (Q : Exit → Act → World → Prop) (F : Frm) (l : List (Nat × Value)) (w : World) : Prop :=
  ∀ a, Ag F l a → c.wpIn (Fw F.ro) 0 P Q a w
def WQ (Q : Exit → Act → World → Prop) (e : Exit) (F : Frm) (l : List (Nat × Value)) (w : World) : Prop :=
  ∀ a, Ag F l a → Q e a w

/-- A call that returns. -/
def Ret (P : Program) (f : FuncId) (args : Array Value) (w : World) (S : Value → World → Prop) : Prop :=
  Calls P f args w fun e w' => match e with
    | .returned v => S v w'
    | _ => False

theorem Ret.mono {P : Program} {f : FuncId} {args : Array Value} {w : World} {S S' : Value → World → Prop} (h : Ret P f args w S) (hs : ∀ v w', S v w' → S' v w') : Ret P f args w S' :=
  Calls.mono h fun e w' => by
    cases e with
    | returned v => exact hs v w'
    | panicked c => exact id
    | outgrown => exact id

theorem Ret.calls {P : Program} {f : FuncId} {args : Array Value} {w : World} {S : Value → World → Prop} {R : Ending → World → Prop} (h : Ret P f args w S) (hs : ∀ v w', S v w' → R (.returned v) w') : Calls P f args w R :=
  Calls.mono h fun e w' => by
    cases e with
    | returned v => exact hs v w'
    | panicked c => exact False.elim
    | outgrown => exact False.elim

/-- The known slots of one list hold in another frame. -/
def Fits (l : List (Nat × Value)) (s : Nat → Value) : List (Nat × Value) → Prop
  | [] => True
  | (d, v) :: L => fr l s d = v ∧ Fits l s L

theorem Fits.fr {l : List (Nat × Value)} {s : Nat → Value} : ∀ {L : List (Nat × Value)}, Fits l s L → ∀ t, fr L (fr l s) t = fr l s t
  | [], _, _ => rfl
  | (d, v) :: L, ⟨h1, h2⟩, t => by
    show (bif Nat.beq t d then v else _) = _
    cases hq : Nat.beq t d
    · exact Fits.fr h2 t
    · have := Nat.eq_of_beq_eq_true hq
      subst this
      exact h1.symm

theorem Ag.fits {F : Frm} {l L : List (Nat × Value)} {a : Act} (h : Ag F l a) (hf : Fits l F.s L) : Ag ⟨F.N, F.D, F.ro, fr l F.s⟩ L a :=
  ⟨h.size, h.defers, fun t => (h.get t).trans (hf.fr t).symm⟩

section rules
variable {P : Program} {Q : Exit → Act → World → Prop} {F : Frm} {l : List (Nat × Value)} {w : World}

theorem wc_weaken (L : List (Nat × Value)) (hf : Fits l F.s L) {c : Code} (h : ∀ s, WC P c Q ⟨F.N, F.D, F.ro, s⟩ L w) : WC P c Q F l w :=
  fun a ha => h (fr l F.s) a (ha.fits hf)
theorem wl_weaken (L : List (Nat × Value)) (hf : Fits l F.s L) {ops : Array Oper} {rest : List Oper} (h : ∀ s, WL P ops Q rest ⟨F.N, F.D, F.ro, s⟩ L w) : WL P ops Q rest F l w :=
  fun a ha => h (fr l F.s) a (ha.fits hf)

theorem wc_seq {x y : Code} (h : WC P x (Exit.then (fun a w => y.wpIn (Fw F.ro) 0 P Q a w) Q) F l w) : WC P (.seq x y) Q F l w :=
  fun a ha => wpIn_seq (h a ha)
theorem wq_then {y : Code} (h : WC P y Q F l w) {Q' : Exit → Act → World → Prop} : WQ (Exit.then (fun a w => y.wpIn (Fw F.ro) 0 P Q a w) Q') .normal F l w := h
theorem wq_then_ret {K : Act → World → Prop} (h : WQ Q .ret F l w) : WQ (Exit.then K Q) .ret F l w := h
theorem wq_then_exit {K : Act → World → Prop} {id : Nat} (h : WQ Q (.exit id) F l w) : WQ (Exit.then K Q) (.exit id) F l w := h
theorem wq_then_panic {K : Act → World → Prop} {c : List PanicEntry} (h : WQ Q (.panic c) F l w) : WQ (Exit.then K Q) (.panic c) F l w := h
theorem wq_block_ret {id : Nat} (h : WQ Q .ret F l w) : WQ (Exit.inBlock id Q) .ret F l w := h
theorem wq_block_normal {id : Nat} (h : WQ Q .normal F l w) : WQ (Exit.inBlock id Q) .normal F l w := h
theorem wq_block_panic {id : Nat} {c : List PanicEntry} (h : WQ Q (.panic c) F l w) : WQ (Exit.inBlock id Q) (.panic c) F l w := h
theorem wq_block_exit {id : Nat} (h : WQ Q .normal F l w) : WQ (Exit.inBlock id Q) (.exit id) F l w :=
  fun a ha => by
    show if id = id then Q .normal a w else Q (.exit id) a w
    rw [if_pos rfl]; exact h a ha
theorem wq_block_exit_other {id id' : Nat} (hne : Nat.beq id' id = false) (h : WQ Q (.exit id') F l w) : WQ (Exit.inBlock id Q) (.exit id') F l w :=
  fun a ha => by
    show if id' = id then Q .normal a w else Q (.exit id') a w
    rw [if_neg (fun e => by rw [e, Nat.beq_refl] at hne; cases hne)]; exact h a ha

theorem wc_skip (h : WQ Q .normal F l w) : WC P .skip Q F l w := fun a ha => wpIn_skip (h a ha)
theorem wc_ret (h : WQ Q .ret F l w) : WC P .ret Q F l w := fun a ha => wpIn_ret (h a ha)
theorem wc_exit {id : Nat} (h : WQ Q (.exit id) F l w) : WC P (.exit id) Q F l w := fun a ha => wpIn_exit (h a ha)
theorem wc_block {id : Nat} {c : Code} (h : WC P c (Exit.inBlock id Q) F l w) : WC P (.block id c) Q F l w := fun a ha => wpIn_block (h a ha)
theorem wc_label {n : Nat} (h : WQ Q .normal F l w) : WC P (.label n) Q F l w := fun a ha => wpIn_label (h a ha)

theorem wc_cond {c : Operand} {x y : Code} {b : Bool} (hc : ev l F.s c = .bool b) (ht : b = true → WC P x Q F l w) (hf : b = false → WC P y Q F l w) : WC P (.cond c x y) Q F l w :=
  fun a ha => wpIn_cond_split (t := b) (by rw [ha.eval]; exact hc) (fun h => ht h a ha) (fun h => hf h a ha)
theorem wc_true {c : Operand} {x y : Code} (hc : ev l F.s c = .bool true) (ht : WC P x Q F l w) : WC P (.cond c x y) Q F l w :=
  fun a ha => wpIn_cond_true (by rw [ha.eval]; exact hc) (ht a ha)
theorem wc_false {c : Operand} {x y : Code} (hc : ev l F.s c = .bool false) (hf : WC P y Q F l w) : WC P (.cond c x y) Q F l w :=
  fun a ha => wpIn_cond_false (by rw [ha.eval]; exact hc) (hf a ha)
theorem wc_dec {c : Operand} {x y : Code} {p : Prop} [Decidable p] (hc : ev l F.s c = .bool (decide p)) (ht : p → WC P x Q F l w) (hf : ¬ p → WC P y Q F l w) : WC P (.cond c x y) Q F l w :=
  wc_cond hc (fun h => ht (of_decide_eq_true h)) (fun h => hf (of_decide_eq_false h))
theorem wc_eq {c : Operand} {x y : Code} {i j : Int} (hc : ev l F.s c = .bool (i == j)) (ht : i = j → WC P x Q F l w) (hf : i ≠ j → WC P y Q F l w) : WC P (.cond c x y) Q F l w :=
  wc_cond hc (fun h => ht (by simpa using h)) (fun h => hf (by simpa using h))
theorem wc_ne {c : Operand} {x y : Code} {i j : Int} (hc : ev l F.s c = .bool (i != j)) (ht : i ≠ j → WC P x Q F l w) (hf : i = j → WC P y Q F l w) : WC P (.cond c x y) Q F l w :=
  wc_cond hc (fun h => ht (by simpa using h)) (fun h => hf (by simpa using h))

/-- A loop: 'I l n w': at a round's head the known slots are l, the world is w, and n is what is left to do. -/
def LoopGo (F : Frm) (I : List (Nat × Value) → Nat → World → Prop) (n : Nat) (a : Act) (w : World) : Prop :=
  ∃ l m s, m < n ∧ I l m w ∧ Ag ⟨F.N, F.D, F.ro, s⟩ l a

theorem wc_loop {c : Code} (I : List (Nat × Value) → Nat → World → Prop) {l₀ : List (Nat × Value)} {n₀ : Nat} (h0 : I l₀ n₀ w) (hf : Fits l F.s l₀)
    (round : ∀ l n w s, I l n w → WC P c (Exit.then (LoopGo F I n) Q) ⟨F.N, F.D, F.ro, s⟩ l w) : WC P (.loop c) Q F l w := by
  intro a ha b k cs hro hb hr
  have key : ∀ n l a w s, I l n w → Ag ⟨F.N, F.D, F.ro, s⟩ l a →
      ∃ e a' w', Q e a' w' ∧ ArrivesIn (Machine.fenced P (Fw F.ro)) P (lone (b.atR a (.code c :: .inLoop c :: k)) cs w) b k cs e a' w' := by
    intro n
    induction n using Nat.strongRecOn with
    | _ n ih =>
      intro l a w s hI hA
      obtain ⟨e, a₁, w₁, hq, harr⟩ := round l n w s hI a hA b (.inLoop c :: k) cs hro hb hr
      cases e with
      | normal =>
        obtain ⟨l', m, s', hlt, hH, hA'⟩ := hq
        obtain ⟨e₂, a₂, w₂, hq₂, harr₂⟩ := ih m hlt l' a₁ w₁ s' hH hA'
        exact ⟨e₂, a₂, w₂, hq₂, .of_steps (StepsIn.trans harr (.one (fenced_calm hb hr rfl) stepR_inLoop)) harr₂⟩
      | exit id => exact ⟨_, a₁, w₁, hq, .pass (x := .inLoop c) rfl (fun _ _ => .inl (by simp)) harr⟩
      | goto l => exact ⟨_, a₁, w₁, hq, .pass (x := .inLoop c) rfl (fun _ _ => .inl (by simp)) harr⟩
      | ret => exact ⟨_, a₁, w₁, hq, .pass (x := .inLoop c) rfl (fun _ _ => .inl (by simp)) harr⟩
      | panic ch => exact ⟨_, a₁, w₁, hq, .pass (x := .inLoop c) rfl (fun _ _ => .inl (by simp)) harr⟩
      | outgrown => exact ⟨_, a₁, w₁, hq, .pass (x := .inLoop c) rfl (fun _ _ => .inl (by simp)) harr⟩
  obtain ⟨e, a', w', hq, harr⟩ := key _ l₀ a w (fr l F.s) h0 (ha.fits hf)
  exact ⟨e, a', w', hq, .of_steps (.one (fenced_calm hb hr rfl) stepR_loop) harr⟩

theorem wq_round {I : List (Nat × Value) → Nat → World → Prop} {n m : Nat} {l' : List (Nat × Value)} {F' : Frm} {Q' : Exit → Act → World → Prop} (hI : I l' m w) (hm : m < n) (hf : Fits l F.s l') (hN : F.N = F'.N) (hD : F.D = F'.D) :
    WQ (Exit.then (LoopGo F' I n) Q') .normal F l w :=
  fun _ ha => ⟨l', m, fr l F.s, hm, hI, ⟨ha.size.trans hN, ha.defers.trans hD, fun t => (ha.get t).trans (hf.fr t).symm⟩⟩

/-- Ways meet: what x leaves. -/
def CutGo (F : Frm) (I : List (Nat × Value) → World → Prop) (a : Act) (w : World) : Prop :=
  ∃ l s, I l w ∧ Ag ⟨F.N, F.D, F.ro, s⟩ l a
theorem wc_cut {x y : Code} (I : List (Nat × Value) → World → Prop) (hx : WC P x (Exit.then (CutGo F I) Q) F l w)
    (hy : ∀ l w s, I l w → WC P y Q ⟨F.N, F.D, F.ro, s⟩ l w) : WC P (.seq x y) Q F l w :=
  fun a ha => wpIn_seq (Code.wpIn_mono (fun e a w q => by
    cases e with
    | normal => obtain ⟨j, s, hH, hA⟩ := q; exact hy j w s hH a hA
    | _ => exact q) (hx a ha))
theorem wq_cut {I : List (Nat × Value) → World → Prop} {l' : List (Nat × Value)} {F' : Frm} {Q' : Exit → Act → World → Prop} (hI : I l' w) (hf : Fits l F.s l') (hN : F.N = F'.N) (hD : F.D = F'.D) :
    WQ (Exit.then (CutGo F' I) Q') .normal F l w :=
  fun _ ha => ⟨l', fr l F.s, hI, ⟨ha.size.trans hN, ha.defers.trans hD, fun t => (ha.get t).trans (hf.fr t).symm⟩⟩

theorem wc_region {id : Nat} {ops : List Oper} (h : WL P ops.toArray Q ops F l w) : WC P (.region id ops.toArray false) Q F l w :=
  fun a ha => wpIn_region_lit (h a ha)
theorem wl_nil {ops : Array Oper} (h : WQ Q .normal F l w) : WL P ops Q [] F l w := fun a ha => wpListIn_nil (h a ha)

theorem wq_ret1 {fn : Func} {R : Ending → World → Prop} {t : Tmp} {v : Value} (hr : fn.results = #[.tmp t]) (hd : F.D = []) (hv : fr l F.s t = v) (h : R (.returned v) w) : WQ (bodyPost P fn R) .ret F l w :=
  fun a ha => bodyPost_ret (results_tmp hr _ _ _) (ha.defers.trans hd) (by rw [ha.get, hv]; exact h)
theorem wq_ret0 {fn : Func} {R : Ending → World → Prop} (hr : fn.results = #[]) (hd : F.D = []) (h : R (.returned (.tuple #[])) w) : WQ (bodyPost P fn R) .ret F l w :=
  fun _ ha => bodyPost_ret (results_none hr _ _ _) (ha.defers.trans hd) h
theorem wq_end0 {fn : Func} {R : Ending → World → Prop} (hr : fn.results = #[]) (hd : F.D = []) (h : R (.returned (.tuple #[])) w) : WQ (bodyPost P fn R) .normal F l w :=
  fun _ ha => bodyPost_end (results_none hr _ _ _) (ha.defers.trans hd) h
theorem wq_ret2 {fn : Func} {R : Ending → World → Prop} {t u : Tmp} {v v' : Value} (hr : fn.results = #[.tmp t, .tmp u]) (hd : F.D = []) (hv : fr l F.s t = v) (hv' : fr l F.s u = v') (h : R (.returned (.tuple #[v, v'])) w) : WQ (bodyPost P fn R) .ret F l w :=
  fun a ha => bodyPost_ret (results_tmp2 hr _ _ _) (ha.defers.trans hd) (by rw [ha.get, ha.get, hv, hv']; exact h)
theorem wq_ret3 {fn : Func} {R : Ending → World → Prop} {t u x : Tmp} {v v' v'' : Value} (hr : fn.results = #[.tmp t, .tmp u, .tmp x]) (hd : F.D = []) (hv : fr l F.s t = v) (hv' : fr l F.s u = v') (hv'' : fr l F.s x = v'') (h : R (.returned (.tuple #[v, v', v''])) w) : WQ (bodyPost P fn R) .ret F l w :=
  fun a ha => bodyPost_ret (v := .tuple #[a.tmps.getD t undef, a.tmps.getD u undef, a.tmps.getD x undef]) (by simp [results, hr]) (ha.defers.trans hd) (by rw [ha.get, ha.get, ha.get, hv, hv', hv'']; exact h)

theorem wc_decT {c : Operand} {x y : Code} {p : Prop} [Decidable p] (hc : ev l F.s c = .bool (decide p)) (hp : p) (ht : WC P x Q F l w) : WC P (.cond c x y) Q F l w :=
  wc_true (by rw [hc, decide_eq_true hp]) ht
theorem wc_decF {c : Operand} {x y : Code} {p : Prop} [Decidable p] (hc : ev l F.s c = .bool (decide p)) (hp : ¬ p) (hf : WC P y Q F l w) : WC P (.cond c x y) Q F l w :=
  wc_false (by rw [hc, decide_eq_false hp]) hf
theorem wc_boolT {c : Operand} {x y : Code} {b : Bool} (hc : ev l F.s c = .bool b) (hp : b = true) (ht : WC P x Q F l w) : WC P (.cond c x y) Q F l w :=
  wc_true (by rw [hc, hp]) ht
theorem wc_boolF {c : Operand} {x y : Code} {b : Bool} (hc : ev l F.s c = .bool b) (hp : b = false) (hf : WC P y Q F l w) : WC P (.cond c x y) Q F l w :=
  wc_false (by rw [hc, hp]) hf
theorem wl_bool {ops : Array Oper} {rest : List Oper} (b : Bool) (ht : b = true → WL P ops Q rest F l w) (hf : b = false → WL P ops Q rest F l w) : WL P ops Q rest F l w := by
  cases b
  · exact hf rfl
  · exact ht rfl

def frameOf : Nat → List Value → List (Nat × Value)
  | _, [] => []
  | n, v :: vs => (n, v) :: frameOf (n + 1) vs
theorem fr_frameOf (vs : List Value) (m : Nat) : ∀ n t, fr (frameOf n vs) (fun _ => undef) t = if n ≤ t then ((vs ++ List.replicate m undef)[t - n]?).getD undef else undef := by
  induction vs with
  | nil =>
    intro n t
    show undef = _
    split
    · simp only [List.nil_append, List.getElem?_replicate]; split <;> rfl
    · rfl
  | cons v vs ih =>
    intro n t
    show (bif Nat.beq t n then v else fr (frameOf (n + 1) vs) (fun _ => undef) t) = _
    cases hq : Nat.beq t n
    · have hne : t ≠ n := fun e => by rw [e, Nat.beq_refl] at hq; cases hq
      rw [cond_false, ih]
      by_cases h1 : n + 1 ≤ t
      · rw [if_pos h1, if_pos (by omega), show t - n = (t - (n + 1)) + 1 by omega]; rfl
      · rw [if_neg h1, if_neg (by omega)]
    · have := Nat.eq_of_beq_eq_true hq
      subst this
      simp
theorem calls_in {f : FuncId} {fn : Func} {c : Code} {args : List Value} {R : Ending → World → Prop} {N : Nat} (hf : P.funcs[f]? = some fn) (hb : fn.body = some c) (hn : fn.ntmps = N) (hN : Nat.ble args.length N = true)
    (h : WC P c (bodyPost P fn R) ⟨N, [], none, fun _ => undef⟩ (frameOf 0 args) w) : Calls P f args.toArray w R := by
  subst hn
  have hN' : args.length ≤ fn.ntmps := Nat.le_of_ble_eq_true hN
  refine calls_of_wp hf hb (wpIn_wide.1 (h _ ⟨?_, rfl, fun t => ?_⟩))
  · simp; omega
  · rw [fr_frameOf args (fn.ntmps - args.length) 0 t, if_pos (Nat.zero_le _)]
    have e : args.toArray ++ Array.replicate (fn.ntmps - args.length) undef = (args ++ List.replicate (fn.ntmps - args.length) undef).toArray := by simp
    simp only [Array.getD_eq_getD_getElem?, List.size_toArray, Nat.sub_zero]
    rw [e, List.getElem?_toArray]
theorem ret_in {f : FuncId} {fn : Func} {c : Code} {args : List Value} {S : Value → World → Prop} {N : Nat} (hf : P.funcs[f]? = some fn) (hb : fn.body = some c) (hn : fn.ntmps = N) (hN : Nat.ble args.length N = true)
    (h : WC P c (bodyPost P fn (fun e w' => match e with | .returned v => S v w' | _ => False)) ⟨N, [], none, fun _ => undef⟩ (frameOf 0 args) w) : Ret P f args.toArray w S :=
  calls_in hf hb hn hN h

variable {ops : Array Oper} {rest : List Oper}

theorem semAt_run {ρ : Operand → Value} {o : Oper} {x : Next} {w' : World} (ro : Option Nat) (h : (execOp ρ o).run P w = .ok x w') (hx : ∀ d, x ≠ .defer d) : (o.semAt ro ρ).run P w = .ok x w' := by
  by_cases hd : ∃ c, o.op = .defer c
  · obtain ⟨c, hc⟩ := hd
    exfalso
    unfold execOp at h
    rw [hc] at h
    simp only [Sem.run_bind] at h
    cases hr : (resolve ρ c o.type).run P w with
    | ok d w2 =>
      rw [hr] at h
      simp [Result.andThen] at h
      exact hx d h.1.symm
    | halt q w2 => rw [hr] at h; simp [Result.andThen] at h
  · rw [Oper.semAt_eq ro ρ o (fun c hc => hd ⟨c, hc⟩)]
    exact h

theorem callsIn_fw {f : FuncId} {args : Array Value} {R : Ending → World → Prop} (ro : Option Nat) (n : Nat) (h : Calls P f args w R) : CallsIn (Fw ro) n P f args w R :=
  (callsIn_wide (n := n)).2 h

/-- Any operation that yields a value. -/
theorem wl_run {o : Oper} {d : Nat} {v : Value} {w' : World} (hg : o.guard = none) (hd : o.dst = some d) (hN : Nat.blt d F.N = true) (h : (execOp (ev l F.s) o).run P w = .ok (.value v) w')
    (k : WL P ops Q rest F ((d, v) :: l) w') : WL P ops Q (o :: rest) F l w := fun a ha =>
  wpListIn_plain hg fun K hK => by
    refine ⟨fun _ _ => trivial, ?_⟩
    rw [ha.eval, show (Fw F.ro).round = F.ro from rfl, semAt_run F.ro h (by simp)]
    show K (a.put o.dst v) w'
    rw [hd]
    exact hK _ _ (k _ (ha.put hN v))
theorem wl_run_skip {o : Oper} {w' : World} (hg : o.guard = none) (hd : o.dst = none) (h : (execOp (ev l F.s) o).run P w = .ok .skip w')
    (k : WL P ops Q rest F l w') : WL P ops Q (o :: rest) F l w := fun a ha =>
  wpListIn_plain hg fun K hK => by
    refine ⟨fun _ _ => trivial, ?_⟩
    rw [ha.eval, show (Fw F.ro).round = F.ro from rfl, semAt_run F.ro h (by simp)]
    show K (a.put o.dst undef) w'
    rw [hd]
    exact hK _ _ (k _ ha)
theorem wl_run_value_none {o : Oper} {v : Value} {w' : World} (hg : o.guard = none) (hd : o.dst = none) (h : (execOp (ev l F.s) o).run P w = .ok (.value v) w')
    (k : WL P ops Q rest F l w') : WL P ops Q (o :: rest) F l w := fun a ha =>
  wpListIn_plain hg fun K hK => by
    refine ⟨fun _ _ => trivial, ?_⟩
    rw [ha.eval, show (Fw F.ro).round = F.ro from rfl, semAt_run F.ro h (by simp)]
    show K (a.put o.dst v) w'
    rw [hd]
    exact hK _ _ (k _ ha)

/-- Guards. -/
theorem wanted_of {j : Nat} {want : Bool} {oj : Oper} {dj : Nat} {b : Bool} {a : Act} {o : Oper} (hg : o.guard = some (j, want)) (hj : ops[j]? = some oj) (hdj : oj.dst = some dj) (ha : Ag F l a) (hb : fr l F.s dj = .bool b) :
    Region.wanted o (yielded ops a.tmps) = (b == want) := by
  have h1 : a.tmps.getD dj undef = .bool b := (ha.get dj).trans hb
  have h2 : a.tmps[dj]? = some (.bool b) := by
    rw [Array.getD_eq_getD_getElem?] at h1
    cases h3 : a.tmps[dj]? with
    | none => rw [h3] at h1; exact absurd h1 (by unfold undef; simp)
    | some u => rw [h3] at h1; exact congrArg some h1
  cases b <;> cases want <;> simp [Region.wanted, hg, yielded, hj, hdj, h2]
theorem wl_guard_no {o : Oper} {j : Nat} {want b : Bool} {oj : Oper} {dj d : Nat} (hg : o.guard = some (j, want)) (hj : ops[j]? = some oj) (hdj : oj.dst = some dj) (hb : fr l F.s dj = .bool b) (hbw : (b == want) = false) (hd : o.dst = some d) (hN : Nat.blt d F.N = true)
    (k : WL P ops Q rest F ((d, undef) :: l) w) : WL P ops Q (o :: rest) F l w := fun a ha => by
  unfold wpListIn
  rw [if_neg (by rw [(wanted_of hg hj hdj ha hb).trans hbw]; simp), hd]
  exact ⟨fun _ _ => trivial, k _ (ha.put hN _)⟩
theorem wl_guard_no_none {o : Oper} {j : Nat} {want b : Bool} {oj : Oper} {dj : Nat} (hg : o.guard = some (j, want)) (hj : ops[j]? = some oj) (hdj : oj.dst = some dj) (hb : fr l F.s dj = .bool b) (hbw : (b == want) = false) (hd : o.dst = none)
    (k : WL P ops Q rest F l w) : WL P ops Q (o :: rest) F l w := fun a ha => by
  unfold wpListIn
  rw [if_neg (by rw [(wanted_of hg hj hdj ha hb).trans hbw]; simp), hd]
  exact ⟨fun _ _ => trivial, k _ ha⟩
/-- A guard that says yes: the operation is carried out as if it had none. -/
theorem wl_guard_yes {o : Oper} {j : Nat} {want b : Bool} {oj : Oper} {dj : Nat} (hg : o.guard = some (j, want)) (hj : ops[j]? = some oj) (hdj : oj.dst = some dj) (hb : fr l F.s dj = .bool b) (hbw : (b == want) = true)
    (k : WL P ops Q ({ o with guard := none } :: rest) F l w) : WL P ops Q (o :: rest) F l w := fun a ha => by
  have h := k a ha
  unfold wpListIn at h ⊢
  have hw : Region.wanted o (yielded ops a.tmps) = true := (wanted_of hg hj hdj ha hb).trans hbw
  rw [if_pos hw]
  rw [if_pos (by simp [Region.wanted])] at h
  exact h

end rules
end Go.Proofs.YthofgamegondnaaDoor
