/- Lemmas for the proof. -/
import Derived.WalkKit
import Derived.Deep.Quiet
import Derived.TacticsIn
import Derived.OrdersIn
import Derived.Maps.AppendAt
import Derived.Lib.Builder
import Derived.Laws.StructEq
import Derived.Lib.UnsafeStr
import Derived.Deep.AppendSrc
import Derived.Laws.IdiomCopy
namespace Go.Proofs.YthofgamegondnaaDoor
open Go.RowKit

/-- The value of a slot: the first entry of the list, else the unknown frame. -/
def fr : List (Nat × Value) → (Nat → Value) → Nat → Value
  | [], s, t => s t
  | (d, v) :: l, s, t => bif Nat.beq t d then v else fr l s t

def ev (l : List (Nat × Value)) (s : Nat → Value) : Operand → Value
  | .tmp t => fr l s t
  | .const v => v
  | .global g => .pointer (some ⟨g, 0, none⟩)
  | .func f => .func (.func f) #[] #[]

structure Frm where
  N : Nat
  D : List Deferred
  ro : Option Nat
  s : Nat → Value

/-- The wide fence, in the round 'ro' of a range over a function (none: outside). -/
def Fw (ro : Option Nat) : Fence := { fn := fun _ => True, depth := none, alive := false, round := ro }

structure Ag (F : Frm) (l : List (Nat × Value)) (a : Act) : Prop where
  size : a.tmps.size = F.N
  defers : a.defers = F.D
  get : ∀ t, a.tmps.getD t undef = fr l F.s t

theorem Ag.eval {F : Frm} {l : List (Nat × Value)} {a : Act} (h : Ag F l a) : a.eval = ev l F.s := by
  funext x
  cases x with
  | tmp t => exact h.get t
  | const v => rfl
  | global g => rfl
  | func f => rfl

theorem Ag.put {F : Frm} {l : List (Nat × Value)} {a : Act} (h : Ag F l a) {d : Nat} (hd : Nat.blt d F.N = true) (v : Value) : Ag F ((d, v) :: l) (a.put (some d) v) := by
  have hd' : d < F.N := by simpa [Nat.blt_eq] using hd
  refine ⟨by simp [Act.put, h.size], h.defers, fun t => ?_⟩
  show (a.tmps.setIfInBounds d v).getD t undef = bif Nat.beq t d then v else fr l F.s t
  rw [← h.get t]
  by_cases e : t = d
  · subst e
    have : t < a.tmps.size := by rw [h.size]; exact hd'
    simp [Array.getD_eq_getD_getElem?, this]
  · have hb : Nat.beq t d = false := by
      cases hq : Nat.beq t d
      · rfl
      · exact absurd (Nat.eq_of_beq_eq_true hq) e
    rw [hb]
    simp only [cond_false, Array.getD_eq_getD_getElem?]
    rw [Array.getElem?_setIfInBounds_ne (fun h => e h.symm)]

theorem Ag.put_none {F : Frm} {l : List (Nat × Value)} {a : Act} (h : Ag F l a) (v : Value) : Ag F l (a.put none v) := h

def WL (P : Program) (ops : Array Oper) (Q : Exit → Act → World → Prop) (rest : List Oper) (F : Frm) (l : List (Nat × Value)) (w : World) : Prop :=
  ∀ a, Ag F l a → wpListIn (Fw F.ro) 0 P ops Q rest a w
def WC (P : Program) (c : Code) (Q : Exit → Act → World → Prop) (F : Frm) (l : List (Nat × Value)) (w : World) : Prop :=
  ∀ a, Ag F l a → c.wpIn (Fw F.ro) 0 P Q a w
def WQ (Q : Exit → Act → World → Prop) (e : Exit) (F : Frm) (l : List (Nat × Value)) (w : World) : Prop :=
  ∀ a, Ag F l a → Q e a w

/-- A call that returns. -/
def Ret (P : Program) (f : FuncId) (args : Array Value) (w : World) (S : Value → World → Prop) : Prop :=
  Calls P f args w fun e w' => match e with
    | .returned v => S v w'
    | _ => False

theorem Ret.mono {P : Program} {f : FuncId} {args : Array Value} {w : World} {S S' : Value → World → Prop} (h : Ret P f args w S) (hs : ∀ v w', S v w' → S' v w') : Ret P f args w S' :=
  Calls.mono h fun e w' => by
    cases e with
    | returned v => exact hs v w'
    | panicked c => exact id
    | outgrown => exact id

theorem Ret.calls {P : Program} {f : FuncId} {args : Array Value} {w : World} {S : Value → World → Prop} {R : Ending → World → Prop} (h : Ret P f args w S) (hs : ∀ v w', S v w' → R (.returned v) w') : Calls P f args w R :=
  Calls.mono h fun e w' => by
    cases e with
    | returned v => exact hs v w'
    | panicked c => exact False.elim
    | outgrown => exact False.elim

/-- The known slots of one list hold in another frame. -/
def Fits (l : List (Nat × Value)) (s : Nat → Value) : List (Nat × Value) → Prop
  | [] => True
  | (d, v) :: L => fr l s d = v ∧ Fits l s L

theorem Fits.fr {l : List (Nat × Value)} {s : Nat → Value} : ∀ {L : List (Nat × Value)}, Fits l s L → ∀ t, fr L (fr l s) t = fr l s t
  | [], _, _ => rfl
  | (d, v) :: L, ⟨h1, h2⟩, t => by
    show (bif Nat.beq t d then v else _) = _
    cases hq : Nat.beq t d
    · exact Fits.fr h2 t
    · have := Nat.eq_of_beq_eq_true hq
      subst this
      exact h1.symm

theorem Ag.fits {F : Frm} {l L : List (Nat × Value)} {a : Act} (h : Ag F l a) (hf : Fits l F.s L) : Ag ⟨F.N, F.D, F.ro, fr l F.s⟩ L a :=
  ⟨h.size, h.defers, fun t => (h.get t).trans (hf.fr t).symm⟩

section rules
variable {P : Program} {Q : Exit → Act → World → Prop} {F : Frm} {l : List (Nat × Value)} {w : World}

theorem wc_weaken (L : List (Nat × Value)) (hf : Fits l F.s L) {c : Code} (h : ∀ s, WC P c Q ⟨F.N, F.D, F.ro, s⟩ L w) : WC P c Q F l w :=
  fun a ha => h (fr l F.s) a (ha.fits hf)
theorem wl_weaken (L : List (Nat × Value)) (hf : Fits l F.s L) {ops : Array Oper} {rest : List Oper} (h : ∀ s, WL P ops Q rest ⟨F.N, F.D, F.ro, s⟩ L w) : WL P ops Q rest F l w :=
  fun a ha => h (fr l F.s) a (ha.fits hf)

theorem wc_seq {x y : Code} (h : WC P x (Exit.then (fun a w => y.wpIn (Fw F.ro) 0 P Q a w) Q) F l w) : WC P (.seq x y) Q F l w :=
  fun a ha => wpIn_seq (h a ha)
theorem wq_then {y : Code} (h : WC P y Q F l w) {Q' : Exit → Act → World → Prop} : WQ (Exit.then (fun a w => y.wpIn (Fw F.ro) 0 P Q a w) Q') .normal F l w := h
theorem wq_then_ret {K : Act → World → Prop} (h : WQ Q .ret F l w) : WQ (Exit.then K Q) .ret F l w := h
theorem wq_then_exit {K : Act → World → Prop} {id : Nat} (h : WQ Q (.exit id) F l w) : WQ (Exit.then K Q) (.exit id) F l w := h
theorem wq_then_panic {K : Act → World → Prop} {c : List PanicEntry} (h : WQ Q (.panic c) F l w) : WQ (Exit.then K Q) (.panic c) F l w := h
theorem wq_block_ret {id : Nat} (h : WQ Q .ret F l w) : WQ (Exit.inBlock id Q) .ret F l w := h
theorem wq_block_normal {id : Nat} (h : WQ Q .normal F l w) : WQ (Exit.inBlock id Q) .normal F l w := h
theorem wq_block_panic {id : Nat} {c : List PanicEntry} (h : WQ Q (.panic c) F l w) : WQ (Exit.inBlock id Q) (.panic c) F l w := h
theorem wq_block_exit {id : Nat} (h : WQ Q .normal F l w) : WQ (Exit.inBlock id Q) (.exit id) F l w :=
  fun a ha => by
    show if id = id then Q .normal a w else Q (.exit id) a w
    rw [if_pos rfl]; exact h a ha
theorem wq_block_exit_other {id id' : Nat} (hne : Nat.beq id' id = false) (h : WQ Q (.exit id') F l w) : WQ (Exit.inBlock id Q) (.exit id') F l w :=
  fun a ha => by
    show if id' = id then Q .normal a w else Q (.exit id') a w
    rw [if_neg (fun e => by rw [e, Nat.beq_refl] at hne; cases hne)]; exact h a ha

theorem wc_skip (h : WQ Q .normal F l w) : WC P .skip Q F l w := fun a ha => wpIn_skip (h a ha)
theorem wc_ret (h : WQ Q .ret F l w) : WC P .ret Q F l w := fun a ha => wpIn_ret (h a ha)
theorem wc_exit {id : Nat} (h : WQ Q (.exit id) F l w) : WC P (.exit id) Q F l w := fun a ha => wpIn_exit (h a ha)
theorem wc_block {id : Nat} {c : Code} (h : WC P c (Exit.inBlock id Q) F l w) : WC P (.block id c) Q F l w := fun a ha => wpIn_block (h a ha)
theorem wc_label {n : Nat} (h : WQ Q .normal F l w) : WC P (.label n) Q F l w := fun a ha => wpIn_label (h a ha)

theorem wc_cond {c : Operand} {x y : Code} {b : Bool} (hc : ev l F.s c = .bool b) (ht : b = true → WC P x Q F l w) (hf : b = false → WC P y Q F l w) : WC P (.cond c x y) Q F l w :=
  fun a ha => wpIn_cond_split (t := b) (by rw [ha.eval]; exact hc) (fun h => ht h a ha) (fun h => hf h a ha)
theorem wc_true {c : Operand} {x y : Code} (hc : ev l F.s c = .bool true) (ht : WC P x Q F l w) : WC P (.cond c x y) Q F l w :=
  fun a ha => wpIn_cond_true (by rw [ha.eval]; exact hc) (ht a ha)
theorem wc_false {c : Operand} {x y : Code} (hc : ev l F.s c = .bool false) (hf : WC P y Q F l w) : WC P (.cond c x y) Q F l w :=
  fun a ha => wpIn_cond_false (by rw [ha.eval]; exact hc) (hf a ha)
theorem wc_dec {c : Operand} {x y : Code} {p : Prop} [Decidable p] (hc : ev l F.s c = .bool (decide p)) (ht : p → WC P x Q F l w) (hf : ¬ p → WC P y Q F l w) : WC P (.cond c x y) Q F l w :=
  wc_cond hc (fun h => ht (of_decide_eq_true h)) (fun h => hf (of_decide_eq_false h))
theorem wc_eq {c : Operand} {x y : Code} {i j : Int} (hc : ev l F.s c = .bool (i == j)) (ht : i = j → WC P x Q F l w) (hf : i ≠ j → WC P y Q F l w) : WC P (.cond c x y) Q F l w :=
  wc_cond hc (fun h => ht (by simpa using h)) (fun h => hf (by simpa using h))
theorem wc_ne {c : Operand} {x y : Code} {i j : Int} (hc : ev l F.s c = .bool (i != j)) (ht : i ≠ j → WC P x Q F l w) (hf : i = j → WC P y Q F l w) : WC P (.cond c x y) Q F l w :=
  wc_cond hc (fun h => ht (by simpa using h)) (fun h => hf (by simpa using h))

/-- A loop: 'I l n w': at a round's head the known slots are l, the world is w, and n is what is left to do. -/
def LoopGo (F : Frm) (I : List (Nat × Value) → Nat → World → Prop) (n : Nat) (a : Act) (w : World) : Prop :=
  ∃ l m s, m < n ∧ I l m w ∧ Ag ⟨F.N, F.D, F.ro, s⟩ l a

theorem wc_loop {c : Code} (I : List (Nat × Value) → Nat → World → Prop) {l₀ : List (Nat × Value)} {n₀ : Nat} (h0 : I l₀ n₀ w) (hf : Fits l F.s l₀)
    (round : ∀ l n w s, I l n w → WC P c (Exit.then (LoopGo F I n) Q) ⟨F.N, F.D, F.ro, s⟩ l w) : WC P (.loop c) Q F l w := by
  intro a ha b k cs hro hb hr
  have key : ∀ n l a w s, I l n w → Ag ⟨F.N, F.D, F.ro, s⟩ l a →
      ∃ e a' w', Q e a' w' ∧ ArrivesIn (Machine.fenced P (Fw F.ro)) P (lone (b.atR a (.code c :: .inLoop c :: k)) cs w) b k cs e a' w' := by
    intro n
    induction n using Nat.strongRecOn with
    | _ n ih =>
      intro l a w s hI hA
      obtain ⟨e, a₁, w₁, hq, harr⟩ := round l n w s hI a hA b (.inLoop c :: k) cs hro hb hr
      cases e with
      | normal =>
        obtain ⟨l', m, s', hlt, hH, hA'⟩ := hq
        obtain ⟨e₂, a₂, w₂, hq₂, harr₂⟩ := ih m hlt l' a₁ w₁ s' hH hA'
        exact ⟨e₂, a₂, w₂, hq₂, .of_steps (StepsIn.trans harr (.one (fenced_calm hb hr rfl) stepR_inLoop)) harr₂⟩
      | exit id => exact ⟨_, a₁, w₁, hq, .pass (x := .inLoop c) rfl (fun _ _ => .inl (by simp)) harr⟩
      | goto l => exact ⟨_, a₁, w₁, hq, .pass (x := .inLoop c) rfl (fun _ _ => .inl (by simp)) harr⟩
      | ret => exact ⟨_, a₁, w₁, hq, .pass (x := .inLoop c) rfl (fun _ _ => .inl (by simp)) harr⟩
      | panic ch => exact ⟨_, a₁, w₁, hq, .pass (x := .inLoop c) rfl (fun _ _ => .inl (by simp)) harr⟩
      | outgrown => exact ⟨_, a₁, w₁, hq, .pass (x := .inLoop c) rfl (fun _ _ => .inl (by simp)) harr⟩
  obtain ⟨e, a', w', hq, harr⟩ := key _ l₀ a w (fr l F.s) h0 (ha.fits hf)
  exact ⟨e, a', w', hq, .of_steps (.one (fenced_calm hb hr rfl) stepR_loop) harr⟩

theorem wq_round {I : List (Nat × Value) → Nat → World → Prop} {n m : Nat} {l' : List (Nat × Value)} {F' : Frm} {Q' : Exit → Act → World → Prop} (hI : I l' m w) (hm : m < n) (hf : Fits l F.s l') (hN : F.N = F'.N) (hD : F.D = F'.D) :
    WQ (Exit.then (LoopGo F' I n) Q') .normal F l w :=
  fun _ ha => ⟨l', m, fr l F.s, hm, hI, ⟨ha.size.trans hN, ha.defers.trans hD, fun t => (ha.get t).trans (hf.fr t).symm⟩⟩

/-- Ways meet: what x leaves. -/
def CutGo (F : Frm) (I : List (Nat × Value) → World → Prop) (a : Act) (w : World) : Prop :=
  ∃ l s, I l w ∧ Ag ⟨F.N, F.D, F.ro, s⟩ l a
theorem wc_cut {x y : Code} (I : List (Nat × Value) → World → Prop) (hx : WC P x (Exit.then (CutGo F I) Q) F l w)
    (hy : ∀ l w s, I l w → WC P y Q ⟨F.N, F.D, F.ro, s⟩ l w) : WC P (.seq x y) Q F l w :=
  fun a ha => wpIn_seq (Code.wpIn_mono (fun e a w q => by
    cases e with
    | normal => obtain ⟨j, s, hH, hA⟩ := q; exact hy j w s hH a hA
    | _ => exact q) (hx a ha))
theorem wq_cut {I : List (Nat × Value) → World → Prop} {l' : List (Nat × Value)} {F' : Frm} {Q' : Exit → Act → World → Prop} (hI : I l' w) (hf : Fits l F.s l') (hN : F.N = F'.N) (hD : F.D = F'.D) :
    WQ (Exit.then (CutGo F' I) Q') .normal F l w :=
  fun _ ha => ⟨l', fr l F.s, hI, ⟨ha.size.trans hN, ha.defers.trans hD, fun t => (ha.get t).trans (hf.fr t).symm⟩⟩

theorem wc_region {id : Nat} {ops : List Oper} (h : WL P ops.toArray Q ops F l w) : WC P (.region id ops.toArray false) Q F l w :=
  fun a ha => wpIn_region_lit (h a ha)
theorem wl_nil {ops : Array Oper} (h : WQ Q .normal F l w) : WL P ops Q [] F l w := fun a ha => wpListIn_nil (h a ha)

theorem wq_ret1 {fn : Func} {R : Ending → World → Prop} {t : Tmp} {v : Value} (hr : fn.results = #[.tmp t]) (hd : F.D = []) (hv : fr l F.s t = v) (h : R (.returned v) w) : WQ (bodyPost P fn R) .ret F l w :=
  fun a ha => bodyPost_ret (results_tmp hr _ _ _) (ha.defers.trans hd) (by rw [ha.get, hv]; exact h)
theorem wq_ret0 {fn : Func} {R : Ending → World → Prop} (hr : fn.results = #[]) (hd : F.D = []) (h : R (.returned (.tuple #[])) w) : WQ (bodyPost P fn R) .ret F l w :=
  fun _ ha => bodyPost_ret (results_none hr _ _ _) (ha.defers.trans hd) h
theorem wq_end0 {fn : Func} {R : Ending → World → Prop} (hr : fn.results = #[]) (hd : F.D = []) (h : R (.returned (.tuple #[])) w) : WQ (bodyPost P fn R) .normal F l w :=
  fun _ ha => bodyPost_end (results_none hr _ _ _) (ha.defers.trans hd) h
theorem wq_ret2 {fn : Func} {R : Ending → World → Prop} {t u : Tmp} {v v' : Value} (hr : fn.results = #[.tmp t, .tmp u]) (hd : F.D = []) (hv : fr l F.s t = v) (hv' : fr l F.s u = v') (h : R (.returned (.tuple #[v, v'])) w) : WQ (bodyPost P fn R) .ret F l w :=
  fun a ha => bodyPost_ret (results_tmp2 hr _ _ _) (ha.defers.trans hd) (by rw [ha.get, ha.get, hv, hv']; exact h)
theorem wq_ret3 {fn : Func} {R : Ending → World → Prop} {t u x : Tmp} {v v' v'' : Value} (hr : fn.results = #[.tmp t, .tmp u, .tmp x]) (hd : F.D = []) (hv : fr l F.s t = v) (hv' : fr l F.s u = v') (hv'' : fr l F.s x = v'') (h : R (.returned (.tuple #[v, v', v''])) w) : WQ (bodyPost P fn R) .ret F l w :=
  fun a ha => bodyPost_ret (v := .tuple #[a.tmps.getD t undef, a.tmps.getD u undef, a.tmps.getD x undef]) (by simp [results, hr]) (ha.defers.trans hd) (by rw [ha.get, ha.get, ha.get, hv, hv', hv'']; exact h)

theorem wc_decT {c : Operand} {x y : Code} {p : Prop} [Decidable p] (hc : ev l F.s c = .bool (decide p)) (hp : p) (ht : WC P x Q F l w) : WC P (.cond c x y) Q F l w :=
  wc_true (by rw [hc, decide_eq_true hp]) ht
theorem wc_decF {c : Operand} {x y : Code} {p : Prop} [Decidable p] (hc : ev l F.s c = .bool (decide p)) (hp : ¬ p) (hf : WC P y Q F l w) : WC P (.cond c x y) Q F l w :=
  wc_false (by rw [hc, decide_eq_false hp]) hf
theorem wc_boolT {c : Operand} {x y : Code} {b : Bool} (hc : ev l F.s c = .bool b) (hp : b = true) (ht : WC P x Q F l w) : WC P (.cond c x y) Q F l w :=
  wc_true (by rw [hc, hp]) ht
theorem wc_boolF {c : Operand} {x y : Code} {b : Bool} (hc : ev l F.s c = .bool b) (hp : b = false) (hf : WC P y Q F l w) : WC P (.cond c x y) Q F l w :=
  wc_false (by rw [hc, hp]) hf
theorem wl_bool {ops : Array Oper} {rest : List Oper} (b : Bool) (ht : b = true → WL P ops Q rest F l w) (hf : b = false → WL P ops Q rest F l w) : WL P ops Q rest F l w := by
  cases b
  · exact hf rfl
  · exact ht rfl

def frameOf : Nat → List Value → List (Nat × Value)
  | _, [] => []
  | n, v :: vs => (n, v) :: frameOf (n + 1) vs
theorem fr_frameOf (vs : List Value) (m : Nat) : ∀ n t, fr (frameOf n vs) (fun _ => undef) t = if n ≤ t then ((vs ++ List.replicate m undef)[t - n]?).getD undef else undef := by
  induction vs with
  | nil =>
    intro n t
    show undef = _
    split
    · simp only [List.nil_append, List.getElem?_replicate]; split <;> rfl
    · rfl
  | cons v vs ih =>
    intro n t
    show (bif Nat.beq t n then v else fr (frameOf (n + 1) vs) (fun _ => undef) t) = _
    cases hq : Nat.beq t n
    · have hne : t ≠ n := fun e => by rw [e, Nat.beq_refl] at hq; cases hq
      rw [cond_false, ih]
      by_cases h1 : n + 1 ≤ t
      · rw [if_pos h1, if_pos (by omega), show t - n = (t - (n + 1)) + 1 by omega]; rfl
      · rw [if_neg h1, if_neg (by omega)]
    · have := Nat.eq_of_beq_eq_true hq
      subst this
      simp
theorem calls_in {f : FuncId} {fn : Func} {c : Code} {args : List Value} {R : Ending → World → Prop} {N : Nat} (hf : P.funcs[f]? = some fn) (hb : fn.body = some c) (hn : fn.ntmps = N) (hN : Nat.ble args.length N = true)
    (h : WC P c (bodyPost P fn R) ⟨N, [], none, fun _ => undef⟩ (frameOf 0 args) w) : Calls P f args.toArray w R := by
  subst hn
  have hN' : args.length ≤ fn.ntmps := Nat.le_of_ble_eq_true hN
  refine calls_of_wp hf hb (wpIn_wide.1 (h _ ⟨?_, rfl, fun t => ?_⟩))
  · simp; omega
  · rw [fr_frameOf args (fn.ntmps - args.length) 0 t, if_pos (Nat.zero_le _)]
    have e : args.toArray ++ Array.replicate (fn.ntmps - args.length) undef = (args ++ List.replicate (fn.ntmps - args.length) undef).toArray := by simp
    simp only [Array.getD_eq_getD_getElem?, List.size_toArray, Nat.sub_zero]
    rw [e, List.getElem?_toArray]
theorem ret_in {f : FuncId} {fn : Func} {c : Code} {args : List Value} {S : Value → World → Prop} {N : Nat} (hf : P.funcs[f]? = some fn) (hb : fn.body = some c) (hn : fn.ntmps = N) (hN : Nat.ble args.length N = true)
    (h : WC P c (bodyPost P fn (fun e w' => match e with | .returned v => S v w' | _ => False)) ⟨N, [], none, fun _ => undef⟩ (frameOf 0 args) w) : Ret P f args.toArray w S :=
  calls_in hf hb hn hN h

variable {ops : Array Oper} {rest : List Oper}

theorem semAt_run {ρ : Operand → Value} {o : Oper} {x : Next} {w' : World} (ro : Option Nat) (h : (execOp ρ o).run P w = .ok x w') (hx : ∀ d, x ≠ .defer d) : (o.semAt ro ρ).run P w = .ok x w' := by
  by_cases hd : ∃ c, o.op = .defer c
  · obtain ⟨c, hc⟩ := hd
    exfalso
    unfold execOp at h
    rw [hc] at h
    simp only [Sem.run_bind] at h
    cases hr : (resolve ρ c o.type).run P w with
    | ok d w2 =>
      rw [hr] at h
      simp [Result.andThen] at h
      exact hx d h.1.symm
    | halt q w2 => rw [hr] at h; simp [Result.andThen] at h
  · rw [Oper.semAt_eq ro ρ o (fun c hc => hd ⟨c, hc⟩)]
    exact h

theorem callsIn_fw {f : FuncId} {args : Array Value} {R : Ending → World → Prop} (ro : Option Nat) (n : Nat) (h : Calls P f args w R) : CallsIn (Fw ro) n P f args w R :=
  (callsIn_wide (n := n)).2 h

/-- Any operation that yields a value. -/
theorem wl_run {o : Oper} {d : Nat} {v : Value} {w' : World} (hg : o.guard = none) (hd : o.dst = some d) (hN : Nat.blt d F.N = true) (h : (execOp (ev l F.s) o).run P w = .ok (.value v) w')
    (k : WL P ops Q rest F ((d, v) :: l) w') : WL P ops Q (o :: rest) F l w := fun a ha =>
  wpListIn_plain hg fun K hK => by
    refine ⟨fun _ _ => trivial, ?_⟩
    rw [ha.eval, show (Fw F.ro).round = F.ro from rfl, semAt_run F.ro h (by simp)]
    show K (a.put o.dst v) w'
    rw [hd]
    exact hK _ _ (k _ (ha.put hN v))
theorem wl_run_skip {o : Oper} {w' : World} (hg : o.guard = none) (hd : o.dst = none) (h : (execOp (ev l F.s) o).run P w = .ok .skip w')
    (k : WL P ops Q rest F l w') : WL P ops Q (o :: rest) F l w := fun a ha =>
  wpListIn_plain hg fun K hK => by
    refine ⟨fun _ _ => trivial, ?_⟩
    rw [ha.eval, show (Fw F.ro).round = F.ro from rfl, semAt_run F.ro h (by simp)]
    show K (a.put o.dst undef) w'
    rw [hd]
    exact hK _ _ (k _ ha)
theorem wl_run_value_none {o : Oper} {v : Value} {w' : World} (hg : o.guard = none) (hd : o.dst = none) (h : (execOp (ev l F.s) o).run P w = .ok (.value v) w')
    (k : WL P ops Q rest F l w') : WL P ops Q (o :: rest) F l w := fun a ha =>
  wpListIn_plain hg fun K hK => by
    refine ⟨fun _ _ => trivial, ?_⟩
    rw [ha.eval, show (Fw F.ro).round = F.ro from rfl, semAt_run F.ro h (by simp)]
    show K (a.put o.dst v) w'
    rw [hd]
    exact hK _ _ (k _ ha)

/-- Guards. -/
theorem wanted_of {j : Nat} {want : Bool} {oj : Oper} {dj : Nat} {b : Bool} {a : Act} {o : Oper} (hg : o.guard = some (j, want)) (hj : ops[j]? = some oj) (hdj : oj.dst = some dj) (ha : Ag F l a) (hb : fr l F.s dj = .bool b) :
    Region.wanted o (yielded ops a.tmps) = (b == want) := by
  have h1 : a.tmps.getD dj undef = .bool b := (ha.get dj).trans hb
  have h2 : a.tmps[dj]? = some (.bool b) := by
    rw [Array.getD_eq_getD_getElem?] at h1
    cases h3 : a.tmps[dj]? with
    | none => rw [h3] at h1; exact absurd h1 (by unfold undef; simp)
    | some u => rw [h3] at h1; exact congrArg some h1
  cases b <;> cases want <;> simp [Region.wanted, hg, yielded, hj, hdj, h2]
theorem wl_guard_no {o : Oper} {j : Nat} {want b : Bool} {oj : Oper} {dj d : Nat} (hg : o.guard = some (j, want)) (hj : ops[j]? = some oj) (hdj : oj.dst = some dj) (hb : fr l F.s dj = .bool b) (hbw : (b == want) = false) (hd : o.dst = some d) (hN : Nat.blt d F.N = true)
    (k : WL P ops Q rest F ((d, undef) :: l) w) : WL P ops Q (o :: rest) F l w := fun a ha => by
  unfold wpListIn
  rw [if_neg (by rw [(wanted_of hg hj hdj ha hb).trans hbw]; simp), hd]
  exact ⟨fun _ _ => trivial, k _ (ha.put hN _)⟩
theorem wl_guard_no_none {o : Oper} {j : Nat} {want b : Bool} {oj : Oper} {dj : Nat} (hg : o.guard = some (j, want)) (hj : ops[j]? = some oj) (hdj : oj.dst = some dj) (hb : fr l F.s dj = .bool b) (hbw : (b == want) = false) (hd : o.dst = none)
    (k : WL P ops Q rest F l w) : WL P ops Q (o :: rest) F l w := fun a ha => by
  unfold wpListIn
  rw [if_neg (by rw [(wanted_of hg hj hdj ha hb).trans hbw]; simp), hd]
  exact ⟨fun _ _ => trivial, k _ ha⟩
/-- A guard that says yes: the operation is carried out as if it had none. -/
theorem wl_guard_yes {o : Oper} {j : Nat} {want b : Bool} {oj : Oper} {dj : Nat} (hg : o.guard = some (j, want)) (hj : ops[j]? = some oj) (hdj : oj.dst = some dj) (hb : fr l F.s dj = .bool b) (hbw : (b == want) = true)
    (k : WL P ops Q ({ o with guard := none } :: rest) F l w) : WL P ops Q (o :: rest) F l w := fun a ha => by
  have h := k a ha
  unfold wpListIn at h ⊢
  have hw : Region.wanted o (yielded ops a.tmps) = true := (wanted_of hg hj hdj ha hb).trans hbw
  rw [if_pos hw]
  rw [if_pos (by simp [Region.wanted])] at h
  exact h

end rules
end Go.Proofs.YthofgamegondnaaDoor

namespace Go.Proofs.YthofgamegondnaaDoor
open Go.RowKit

theorem w64_in {n : Int} (h1 : -9223372036854775808 ≤ n) (h2 : n ≤ 9223372036854775807) : IntKind.i64.wrap n = n := by
  exact IntWalk.i64_in n ⟨h1, h2⟩

/-- The operation yields v and leaves the world alone. -/
def Rn (P : Program) (l : List (Nat × Value)) (s : Nat → Value) (w : World) (o : Oper) (v : Value) : Prop := (execOp (ev l s) o).run P w = .ok (.value v) w

section rules
variable {P : Program} {Q : Exit → Act → World → Prop} {F : Frm} {l : List (Nat × Value)} {w : World} {ops : Array Oper} {rest : List Oper}
variable {d : Nat} {ty t t2 : TypeId} {pos : String} {af : Array Edge} {x y : Operand}

theorem st_move {v : Value} (hx : ev l F.s x = v) : Rn P l F.s w ⟨some d, .move x, ty, pos, af, none⟩ (v) :=
  (by unfold Rn; rw [show execOp (ev l F.s) ⟨some d, .move x, ty, pos, af, none⟩ = pure (.value (ev l F.s x)) from rfl, hx]; rfl)
theorem st_assign {v : Value} (hx : ev l F.s x = v) : Rn P l F.s w ⟨some d, .assign x, ty, pos, af, none⟩ (v) :=
  (by unfold Rn; rw [show execOp (ev l F.s) ⟨some d, .assign x, ty, pos, af, none⟩ = pure (.value (ev l F.s x)) from rfl, hx]; rfl)

theorem run_binInt {op : BinOp} {m n : Int} {K : IntKind} {v : Value} (hx : ev l F.s x = .int K m) (hy : ev l F.s y = .int K n) (hb : (binOp op t (.int K m) (.int K n)).run P w = .ok v w) :
    (execOp (ev l F.s) ⟨some d, .binOp op t x y t2, ty, pos, af, none⟩).run P w = .ok (.value v) w := by
  simp only [execOp, hx, hy]
  have hg : eqGuard op t x y (.int K m) (.int K n) = pure () := by
    unfold eqGuard
    cases op <;> rfl
  rw [hg]
  simp [hb]

theorem st_add {m n : Int} (hx : ev l F.s x = .int .i64 m) (hy : ev l F.s y = .int .i64 n) (h1 : -9223372036854775808 ≤ m + n) (h2 : m + n ≤ 9223372036854775807) : Rn P l F.s w ⟨some d, .binOp .add t x y t2, ty, pos, af, none⟩ (.int .i64 (m + n)) :=
  run_binInt hx hy ((fun w => by simp [binOp, Op.intArith, w64_in h1 h2]) w)
theorem st_sub {m n : Int} (hx : ev l F.s x = .int .i64 m) (hy : ev l F.s y = .int .i64 n) (h1 : -9223372036854775808 ≤ m - n) (h2 : m - n ≤ 9223372036854775807) : Rn P l F.s w ⟨some d, .binOp .sub t x y t2, ty, pos, af, none⟩ (.int .i64 (m - n)) :=
  run_binInt hx hy ((fun w => by simp [binOp, Op.intArith, w64_in h1 h2]) w)
theorem st_mul {m n : Int} (hx : ev l F.s x = .int .i64 m) (hy : ev l F.s y = .int .i64 n) (h1 : -9223372036854775808 ≤ m * n) (h2 : m * n ≤ 9223372036854775807) : Rn P l F.s w ⟨some d, .binOp .mul t x y t2, ty, pos, af, none⟩ (.int .i64 (m * n)) :=
  run_binInt hx hy ((fun w => by simp [binOp, Op.intArith, w64_in h1 h2]) w)
theorem st_quo {m n : Int} (hx : ev l F.s x = .int .i64 m) (hy : ev l F.s y = .int .i64 n) (h1 : 0 ≤ m) (hm : m ≤ 9223372036854775807) (h2 : 0 < n) : Rn P l F.s w ⟨some d, .binOp .quo t x y t2, ty, pos, af, none⟩ (.int .i64 (m / n)) :=
  run_binInt hx hy ((fun w => by
    have h3 : m.tdiv n = m / n := Int.tdiv_eq_ediv_of_nonneg h1
    have h4 : 0 ≤ m / n := Int.ediv_nonneg h1 (by omega)
    have h5 : m / n ≤ m := Int.ediv_le_self _ h1
    have hw : IntKind.i64.wrap (m / n) = m / n := w64_in (by omega) (by omega)
    simp [binOp, Op.intDiv, show n ≠ 0 by omega, h3, hw]) w)
theorem st_rem {m n : Int} (hx : ev l F.s x = .int .i64 m) (hy : ev l F.s y = .int .i64 n) (h1 : 0 ≤ m) (h2 : 0 < n) : Rn P l F.s w ⟨some d, .binOp .rem t x y t2, ty, pos, af, none⟩ (.int .i64 (m % n)) :=
  run_binInt hx hy ((fun w => by
    have h3 : m.tmod n = m % n := Int.tmod_eq_emod_of_nonneg h1
    simp [binOp, Op.intDiv, show n ≠ 0 by omega, h3]) w)
theorem st_trem {m n : Int} (hx : ev l F.s x = .int .i64 m) (hy : ev l F.s y = .int .i64 n) (h2 : n ≠ 0) : Rn P l F.s w ⟨some d, .binOp .rem t x y t2, ty, pos, af, none⟩ (.int .i64 (m.tmod n)) :=
  run_binInt hx hy ((fun w => by simp [binOp, Op.intDiv, h2]) w)
theorem st_tquo {m n : Int} (hx : ev l F.s x = .int .i64 m) (hy : ev l F.s y = .int .i64 n) (h2 : n ≠ 0) (h3 : -9223372036854775808 ≤ m.tdiv n) (h4 : m.tdiv n ≤ 9223372036854775807) : Rn P l F.s w ⟨some d, .binOp .quo t x y t2, ty, pos, af, none⟩ (.int .i64 (m.tdiv n)) :=
  run_binInt hx hy ((fun w => by simp [binOp, Op.intDiv, h2, w64_in h3 h4]) w)
theorem st_lss {m n : Int} {K : IntKind} (hx : ev l F.s x = .int K m) (hy : ev l F.s y = .int K n) : Rn P l F.s w ⟨some d, .binOp .lss t x y t2, ty, pos, af, none⟩ (.bool (decide (m < n))) :=
  run_binInt hx hy ((fun w => by simp [binOp, Op.intCmp]) w)
theorem st_leq {m n : Int} {K : IntKind} (hx : ev l F.s x = .int K m) (hy : ev l F.s y = .int K n) : Rn P l F.s w ⟨some d, .binOp .leq t x y t2, ty, pos, af, none⟩ (.bool (decide (m ≤ n))) :=
  run_binInt hx hy ((fun w => by simp [binOp, Op.intCmp]) w)
theorem st_gtr {m n : Int} {K : IntKind} (hx : ev l F.s x = .int K m) (hy : ev l F.s y = .int K n) : Rn P l F.s w ⟨some d, .binOp .gtr t x y t2, ty, pos, af, none⟩ (.bool (decide (n < m))) :=
  run_binInt hx hy ((fun w => by simp [binOp, Op.intCmp]) w)
theorem st_geq {m n : Int} {K : IntKind} (hx : ev l F.s x = .int K m) (hy : ev l F.s y = .int K n) : Rn P l F.s w ⟨some d, .binOp .geq t x y t2, ty, pos, af, none⟩ (.bool (decide (n ≤ m))) :=
  run_binInt hx hy ((fun w => by simp [binOp, Op.intCmp]) w)
theorem st_eql {m n : Int} {K : IntKind} (hx : ev l F.s x = .int K m) (hy : ev l F.s y = .int K n) : Rn P l F.s w ⟨some d, .binOp .eql t x y t2, ty, pos, af, none⟩ (.bool (decide (m = n))) :=
  run_binInt hx hy ((fun w => by
    have e : decide (m = n) = (m == n) := by by_cases h : m = n <;> simp [h]
    rw [e]
    simp [binOp, Op.intCmp]) w)
theorem st_neq {m n : Int} {K : IntKind} (hx : ev l F.s x = .int K m) (hy : ev l F.s y = .int K n) : Rn P l F.s w ⟨some d, .binOp .neq t x y t2, ty, pos, af, none⟩ (.bool (decide (m ≠ n))) :=
  run_binInt hx hy ((fun w => by
    have e : decide (m ≠ n) = (m != n) := by by_cases h : m = n <;> simp [h, bne]
    rw [e]
    simp [binOp, Op.intCmp]) w)

theorem st_not {b : Bool} (hx : ev l F.s x = .bool b) : Rn P l F.s w ⟨some d, .unOp .not t x, ty, pos, af, none⟩ (.bool (!b)) :=
  (by unfold Rn; simp [execOp, hx, Op.unary])
theorem st_neg {m : Int} (hx : ev l F.s x = .int .i64 m) (h1 : -9223372036854775808 ≤ -m) (h2 : -m ≤ 9223372036854775807) : Rn P l F.s w ⟨some d, .unOp .neg t x, ty, pos, af, none⟩ (.int .i64 (-m)) :=
  (by
    have e : IntKind.i64.wrap (0 - m) = -m := by rw [show (0:Int) - m = -m by omega]; exact w64_in h1 h2
    unfold Rn
    simp only [execOp, hx, Op.unary, Op.intArith, e]
    rfl)

theorem st_extract {vs : Array Value} {i : Nat} {v : Value} (hx : ev l F.s x = .tuple vs) (hi : vs[i]? = some v) : Rn P l F.s w ⟨some d, .extract x i, ty, pos, af, none⟩ (v) :=
  (by unfold Rn; simp [execOp, hx, Instr.extract, hi])

theorem st_makeFunc {fn : Fn} {a b : Array Operand} {va vb : List Value} (ha : a.toList.map (ev l F.s) = va) (hb : b.toList.map (ev l F.s) = vb) : Rn P l F.s w ⟨some d, .makeFunc fn a b, ty, pos, af, none⟩ (.func fn va.toArray vb.toArray) := by
  have ha' : a.map (ev l F.s) = va.toArray := by apply Array.ext'; rw [Array.toList_map]; exact ha
  have hb' : b.map (ev l F.s) = vb.toArray := by apply Array.ext'; rw [Array.toList_map]; exact hb
  unfold Rn
  simp [execOp, ha', hb', Instr.makeFunc]

theorem st_pick {z : Operand} {b : Bool} {v v' : Value} (hz : ev l F.s z = .bool b) (hx : ev l F.s x = v) (hy : ev l F.s y = v') : Rn P l F.s w ⟨some d, .pick z x y, ty, pos, af, none⟩ (if b then v else v') :=
  (by unfold Rn; simp [execOp, hz, hx, hy, asBool])

theorem st_pick_t {z : Operand} {b : Bool} {v : Value} (hz : ev l F.s z = .bool b) (hb : b = true) (hx : ev l F.s x = v) : Rn P l F.s w ⟨some d, .pick z x y, ty, pos, af, none⟩ v :=
  (by unfold Rn; simp [execOp, hz, hb, hx, asBool])
theorem st_pick_f {z : Operand} {b : Bool} {v : Value} (hz : ev l F.s z = .bool b) (hb : b = false) (hy : ev l F.s y = v) : Rn P l F.s w ⟨some d, .pick z x y, ty, pos, af, none⟩ v :=
  (by unfold Rn; simp [execOp, hz, hb, hy, asBool])
theorem st_max {m n : Int} {tys : Array TypeId} (hx : ev l F.s x = .int .i64 m) (hy : ev l F.s y = .int .i64 n) : Rn P l F.s w ⟨some d, .call ⟨.builtin .max, #[x, y], tys⟩, ty, pos, af, none⟩ (.int .i64 (max m n)) := by
  unfold Rn
  have e : (if n > m then n else m) = max m n := by omega
  simp [execOp, resolve, invoke, builtin, hx, hy, Builtin.max_, Builtin.max2, e]
theorem st_min {m n : Int} {tys : Array TypeId} (hx : ev l F.s x = .int .i64 m) (hy : ev l F.s y = .int .i64 n) : Rn P l F.s w ⟨some d, .call ⟨.builtin .min, #[x, y], tys⟩, ty, pos, af, none⟩ (.int .i64 (min m n)) := by
  unfold Rn
  have e : (if n < m then n else m) = min m n := by omega
  simp [execOp, resolve, invoke, builtin, hx, hy, Builtin.min_, Builtin.min2, e]
theorem st_nilCheck {a : Addr} (hx : ev l F.s x = .pointer (some a)) : Rn P l F.s w ⟨some d, .nilCheck x, ty, pos, af, none⟩ (.pointer (some a)) :=
  (by unfold Rn; simp [execOp, hx])
/-- A walk along a list of operations: what carries out one of them. -/
class Runs (P : outParam Program) (X : List Oper → Frm → List (Nat × Value) → World → Prop) : Prop where
  run : ∀ {o : Oper} {rest : List Oper} {F : Frm} {l : List (Nat × Value)} {w w' : World} {d : Nat} {v : Value}, o.guard = none → o.dst = some d → Nat.blt d F.N = true → (execOp (ev l F.s) o).run P w = .ok (.value v) w' → X rest F ((d, v) :: l) w' → X (o :: rest) F l w
  runNone : ∀ {o : Oper} {rest : List Oper} {F : Frm} {l : List (Nat × Value)} {w w' : World} {v : Value}, o.guard = none → o.dst = none → (execOp (ev l F.s) o).run P w = .ok (.value v) w' → X rest F l w' → X (o :: rest) F l w
  skip : ∀ {o : Oper} {rest : List Oper} {F : Frm} {l : List (Nat × Value)} {w w' : World}, o.guard = none → o.dst = none → (execOp (ev l F.s) o).run P w = .ok .skip w' → X rest F l w' → X (o :: rest) F l w
  enter : ∀ {o : Oper} {rest : List Oper} {F : Frm} {l : List (Nat × Value)} {w : World} {d : Nat} {f : FuncId} {vs : Array Value} {S : Value → World → Prop}, o.guard = none → o.dst = some d → Nat.blt d F.N = true → (execOp (ev l F.s) o).run P w = .ok (.enter f vs) w → Ret P f vs w S →
    (∀ v w', S v w' → X rest F ((d, v) :: l) w') → X (o :: rest) F l w
  enterNone : ∀ {o : Oper} {rest : List Oper} {F : Frm} {l : List (Nat × Value)} {w : World} {f : FuncId} {vs : Array Value} {S : Value → World → Prop}, o.guard = none → o.dst = none → (execOp (ev l F.s) o).run P w = .ok (.enter f vs) w → Ret P f vs w S →
    (∀ v w', S v w' → X rest F l w') → X (o :: rest) F l w

/-- A named Go function that can be entered. -/
structure Callable (P : Program) (f : FuncId) : Prop where
  run : ∀ (args : Array Value) (w : World), (callFunc f args).run P w = .ok (.enter f args) w

theorem wlx_enter {o : Oper} {f : FuncId} {vs : Array Value} {S : Value → World → Prop} (hg : o.guard = none) (hd : o.dst = some d) (hN : Nat.blt d F.N = true) (hrun : (execOp (ev l F.s) o).run P w = .ok (.enter f vs) w) (h : Ret P f vs w S)
    (k : ∀ v w', S v w' → WL P ops Q rest F ((d, v) :: l) w') : WL P ops Q (o :: rest) F l w := fun a ha =>
  wpListIn_plain hg fun K hK => by
    refine ⟨fun _ _ => trivial, ?_⟩
    rw [ha.eval, show (Fw F.ro).round = F.ro from rfl, semAt_run F.ro hrun (by simp)]
    refine ⟨(fun h => by cases h), CallsIn.mono (callsIn_fw F.ro _ h) fun e w' hS => ?_⟩
    cases e with
    | returned v =>
      show K (a.put o.dst v) w'
      rw [hd]
      exact hK _ _ (k v w' hS _ (ha.put hN v))
    | panicked c => exact hS.elim
    | outgrown => exact hS.elim
theorem wlx_enter_none {o : Oper} {f : FuncId} {vs : Array Value} {S : Value → World → Prop} (hg : o.guard = none) (hd : o.dst = none) (hrun : (execOp (ev l F.s) o).run P w = .ok (.enter f vs) w) (h : Ret P f vs w S)
    (k : ∀ v w', S v w' → WL P ops Q rest F l w') : WL P ops Q (o :: rest) F l w := fun a ha =>
  wpListIn_plain hg fun K hK => by
    refine ⟨fun _ _ => trivial, ?_⟩
    rw [ha.eval, show (Fw F.ro).round = F.ro from rfl, semAt_run F.ro hrun (by simp)]
    refine ⟨(fun h => by cases h), CallsIn.mono (callsIn_fw F.ro _ h) fun e w' hS => ?_⟩
    cases e with
    | returned v =>
      show K (a.put o.dst v) w'
      rw [hd]
      exact hK _ _ (k v w' hS _ ha)
    | panicked c => exact hS.elim
    | outgrown => exact hS.elim

instance : Runs P (WL P ops Q) where
  run := wl_run
  runNone := wl_run_value_none
  skip := wl_run_skip
  enter := wlx_enter
  enterNone := wlx_enter_none

section
variable {X : List Oper → Frm → List (Nat × Value) → World → Prop} [inst : Runs P X]
theorem wl_v {o : Oper} {v : Value} (h : Rn P l F.s w o v) (hg : o.guard = none) (hd : o.dst = some d) (hN : Nat.blt d F.N = true) (k : X rest F ((d, v) :: l) w) : X (o :: rest) F l w :=
  Runs.run hg hd hN h k
theorem wl_e {o : Oper} {C : Value → Prop} (h : ∃ v, C v ∧ ∀ w, Rn P l F.s w o v) (hg : o.guard = none) (hd : o.dst = some d) (hN : Nat.blt d F.N = true) (k : ∀ v, C v → X rest F ((d, v) :: l) w) : X (o :: rest) F l w := by
  obtain ⟨v, hC, hr⟩ := h
  exact Runs.run hg hd hN (hr w) (k v hC)
include inst in
theorem wl_call {f : FuncId} {args : Array Operand} {tys : Array TypeId} {vs : List Value} {S : Value → World → Prop} (hc : Callable P f) (hargs : args.toList.map (ev l F.s) = vs) (hN : Nat.blt d F.N = true) (h : Ret P f vs.toArray w S)
    (k : ∀ v w', S v w' → X rest F ((d, v) :: l) w') : X (⟨some d, .call ⟨.value (.func f), args, tys⟩, ty, pos, af, none⟩ :: rest) F l w :=
  Runs.enter rfl rfl hN (by
    have e : args.map (ev l F.s) = vs.toArray := by
      apply Array.ext'
      rw [← hargs, Array.toList_map]
    simp [execOp, resolve, ev, Deferred.ofValue, invoke, e, hc.run]) h k
include inst in
theorem wl_call0 {f : FuncId} {args : Array Operand} {tys : Array TypeId} {vs : List Value} {S : Value → World → Prop} (hc : Callable P f) (hargs : args.toList.map (ev l F.s) = vs) (h : Ret P f vs.toArray w S)
    (k : ∀ v w', S v w' → X rest F l w') : X (⟨none, .call ⟨.value (.func f), args, tys⟩, ty, pos, af, none⟩ :: rest) F l w :=
  Runs.enterNone rfl rfl (by
    have e : args.map (ev l F.s) = vs.toArray := by
      apply Array.ext'
      rw [← hargs, Array.toList_map]
    simp [execOp, resolve, ev, Deferred.ofValue, invoke, e, hc.run]) h k
include inst in
/-- A call of a function value whose code is known: what was captured comes behind the arguments. -/
theorem wl_callv {f : FuncId} {first cap : Array Value} {args : Array Operand} {tys : Array TypeId} {vs : List Value} {S : Value → World → Prop} (hx : ev l F.s x = .func (.func f) first cap) (hc : Callable P f) (hargs : first.toList ++ args.toList.map (ev l F.s) ++ cap.toList = vs) (hN : Nat.blt d F.N = true) (h : Ret P f vs.toArray w S)
    (k : ∀ v w', S v w' → X rest F ((d, v) :: l) w') : X (⟨some d, .call ⟨.value x, args, tys⟩, ty, pos, af, none⟩ :: rest) F l w :=
  Runs.enter rfl rfl hN (by
    have e : first ++ args.map (ev l F.s) ++ cap = vs.toArray := by rw [← hargs]; simp
    simp [execOp, resolve, hx, Deferred.ofValue, invoke, e, hc.run]) h k

include inst in
theorem wl_nilCheck0 {a : Addr} (hx : ev l F.s x = .pointer (some a)) (k : X rest F l w) :
    X (⟨none, .nilCheck x, ty, pos, af, none⟩ :: rest) F l w :=
  Runs.runNone rfl rfl (P := P) (by simp [execOp, hx]; rfl) k

end
end rules
end Go.Proofs.YthofgamegondnaaDoor

namespace Go.Proofs.YthofgamegondnaaDoor
open Go.RowKit

/-- What a type's number stands for. -/
structure Ty (P : Program) (t : TypeId) (d : TypeDesc) (sz by_ : Nat) (z : Value) : Prop where
  und : P.underlying t = some d
  info : (P.info? t).map (fun i => (i.zero, i.size, i.bytes)) = some (some z, sz, by_)

theorem Ty.ex {P : Program} {t : TypeId} {d : TypeDesc} {sz b : Nat} {z : Value} (h : Ty P t d sz b z) : ∃ i, P.info? t = some i ∧ i.zero = some z ∧ i.size = sz ∧ i.bytes = b := by
  have h1 := h.info
  cases hi : P.info? t with
  | none => rw [hi] at h1; cases h1
  | some i =>
    rw [hi] at h1
    simp only [Option.map_some, Option.some.injEq, Prod.mk.injEq] at h1
    exact ⟨i, rfl, h1.1, h1.2.1, h1.2.2⟩

def flat : TypeDesc → Bool
  | .struct _ => false
  | .array _ _ => false
  | _ => true

section runs
variable {P : Program} {w : World} {t e : TypeId} {d : TypeDesc} {sz b : Nat} {z : Value}

theorem run_und (h : Ty P t d sz b z) : (underlying t).run P w = .ok d w := run_underlying h.und w
theorem run_size (h : Ty P t d sz b z) : (sizeOf t).run P w = .ok sz w := by
  obtain ⟨i, hi, _, hs, _⟩ := h.ex
  simp [sizeOf, typeInfo, hi, hs]
theorem run_zero (h : Ty P t d sz b z) : (zeroValue t).run P w = .ok z w := by
  obtain ⟨i, hi, hz, _, _⟩ := h.ex
  simp [zeroValue, typeInfo, hi, hz]
theorem run_isAgg (h : Ty P t d sz b z) : (isAgg t).run P w = .ok (!flat d) w := by
  unfold isAgg
  rw [Sem.run_bind, run_und h]
  cases d <;> rfl
theorem run_loadVar1 (h : Ty P t d sz b z) (hf : flat d = true) {a : Addr} {v : Value} (hc : w.cell? a = some v) : (loadVar t a).run P w = .ok v w := by
  unfold loadVar
  rw [Sem.run_bind, run_isAgg h, hf]
  simp [hc]
theorem run_loadVarAgg (h : Ty P t d sz b z) (hf : flat d = false) {a : Addr} {cs : List Value} (hl : cs.length = sz) (hc : ∀ j v, cs[j]? = some v → w.cell? (a.add j) = some v) : (loadVar t a).run P w = .ok (.agg cs.toArray) w := by
  unfold loadVar
  rw [Sem.run_bind, run_isAgg h, hf]
  have h1 := run_loadCells_list (P := P) w a cs hc
  simp [run_size h, ← hl, h1]
theorem run_storeVar1 (h : Ty P t d 1 b z) {a : Addr} {u v : Value} (hc : w.cell? a = some u) (hfz : w.frozen? a = false) (hv : v.oneCell' = true) : (storeVar t a v).run P w = .ok () (w.setCell a v) := by
  have hvc : v.cells = #[v] := by cases v <;> first | rfl | (simp [Value.oneCell'] at hv)
  unfold storeVar
  simp only [Sem.run_bind, run_size h, hvc]
  have h0 : a.add 0 = a := by simp [Addr.add]
  simp [storeCells, run_store P w _ v .plain hv, h0, hc, hfz]
end runs

section rules
variable {P : Program} {Q : Exit → Act → World → Prop} {F : Frm} {l : List (Nat × Value)} {w : World} {ops : Array Oper} {rest : List Oper}
variable {X : List Oper → Frm → List (Nat × Value) → World → Prop} [inst : Runs P X]
variable {d : Nat} {ty t T e : TypeId} {pos : String} {af : Array Edge} {x y : Operand} {ds dT : TypeDesc} {sz by_ sT bT : Nat} {z zT : Value}

theorem st_load {a : Addr} {v : Value} (h : Ty P t ds sz by_ z) (hf : flat ds = true) (hx : ev l F.s x = .pointer (some a)) (hc : w.cell? a = some v) : Rn P l F.s w ⟨some d, .load t x, ty, pos, af, none⟩ (v) :=
  (by unfold Rn; simp [execOp, hx, Instr.loadAt, Instr.sureAddr, run_loadVar1 h hf hc])
theorem st_loadAgg {a : Addr} {cs : List Value} (h : Ty P t ds sz by_ z) (hf : flat ds = false) (hx : ev l F.s x = .pointer (some a)) (hl : cs.length = sz) (hc : ∀ j v, cs[j]? = some v → w.cell? (a.add j) = some v) : Rn P l F.s w ⟨some d, .load t x, ty, pos, af, none⟩ (.agg cs.toArray) :=
  (by unfold Rn; simp [execOp, hx, Instr.loadAt, Instr.sureAddr, run_loadVarAgg h hf hl hc])
include inst in
theorem wl_store {a : Addr} {u v : Value} (h : Ty P t ds 1 by_ z) (hx : ev l F.s x = .pointer (some a)) (hy : ev l F.s y = v) (hv : v.oneCell' = true) (hc : w.cell? a = some u) (hfz : w.frozen? a = false)
    (k : X rest F l (w.setCell a v)) : X (⟨none, .store t x y, ty, pos, af, none⟩ :: rest) F l w :=
  Runs.skip (P := P) rfl rfl (by simp [execOp, hx, hy, Instr.storeAt, Instr.sureAddr, run_storeVar1 h hc hfz hv]) k

include inst in
theorem wl_box {v : Value} (hx : ev l F.s x = v) (hv : v.oneCell' = true) (hN : Nat.blt d F.N = true)
    (k : X rest F ((d, .pointer (some ⟨w.heap.size, 0, none⟩)) :: l) (w.alloc (.cells #[v] t))) : X (⟨some d, .box t x, ty, pos, af, none⟩ :: rest) F l w :=
  Runs.run (P := P) rfl rfl hN (by
    have hvc : v.cells = #[v] := by cases v <;> first | rfl | (simp [Value.oneCell'] at hv)
    simp [execOp, hx, Instr.box, newVar, newRow, hvc]) k
include inst in
theorem wl_boxAgg {cs : Array Value} (hx : ev l F.s x = .agg cs) (hN : Nat.blt d F.N = true)
    (k : X rest F ((d, .pointer (some ⟨w.heap.size, 0, none⟩)) :: l) (w.alloc (.cells cs t))) : X (⟨some d, .box t x, ty, pos, af, none⟩ :: rest) F l w :=
  Runs.run (P := P) rfl rfl hN (by simp [execOp, hx, Instr.box, newVar, newRow, Value.cells]) k
include inst in
theorem wl_alloc (h : Ty P t ds sz by_ z) (hN : Nat.blt d F.N = true)
    (k : X rest F ((d, .pointer (some ⟨w.heap.size, 0, none⟩)) :: l) (w.alloc (.cells z.cells t))) : X (⟨some d, .alloc t, ty, pos, af, none⟩ :: rest) F l w :=
  Runs.run (P := P) rfl rfl hN (by simp [execOp, Instr.alloc, run_zero h, newVar, newRow]) k

theorem st_len {A : Option Addr} {n c : Nat} (h : Ty P T (.slice e) sT bT zT) (hx : ev l F.s x = .slice A n c) : Rn P l F.s w ⟨some d, .call ⟨.builtin .len, #[x], #[T]⟩, ty, pos, af, none⟩ (.int .i64 (n : Int)) :=
  (by unfold Rn; simp [execOp, resolve, invoke, builtin, hx, Builtin.len_, run_und h, goInt])
theorem st_lenStr {s : ByteArray} (h : Ty P T .string sT bT zT) (hx : ev l F.s x = .string s) : Rn P l F.s w ⟨some d, .call ⟨.builtin .len, #[x], #[T]⟩, ty, pos, af, none⟩ (.int .i64 (s.size : Int)) :=
  (by unfold Rn; simp [execOp, resolve, invoke, builtin, hx, Builtin.len_, run_und h, goInt])
theorem st_lenArr {n : Nat} {v : Value} (h : Ty P T (.array n e) sT bT zT) (hx : ev l F.s x = v) : Rn P l F.s w ⟨some d, .call ⟨.builtin .len, #[x], #[T]⟩, ty, pos, af, none⟩ (.int .i64 (n : Int)) :=
  (by unfold Rn; simp [execOp, resolve, invoke, builtin, hx, Builtin.len_, run_und h, goInt])
theorem st_cap {A : Option Addr} {n c : Nat} (h : Ty P T (.slice e) sT bT zT) (hx : ev l F.s x = .slice A n c) : Rn P l F.s w ⟨some d, .call ⟨.builtin .cap, #[x], #[T]⟩, ty, pos, af, none⟩ (.int .i64 (c : Int)) :=
  (by unfold Rn; simp [execOp, resolve, invoke, builtin, hx, Builtin.cap_, run_und h, goInt])

theorem st_indexAddr {a : Addr} {n c : Nat} {K : IntKind} {m : Int} (i : Nat) (hT : Ty P T (.slice e) sT bT zT) (hE : Ty P e ds sz by_ z) (hx : ev l F.s x = .slice (some a) n c) (hy : ev l F.s y = .int K m) (him : m = (i : Int)) (hi : i < n) : Rn P l F.s w ⟨some d, .indexAddr T x y, ty, pos, af, none⟩ (.pointer (some (a.add (i * sz)))) :=
  (by
    subst him
    unfold Rn
    simp [execOp, hx, hy, Instr.indexAt, asIntOf, run_und hT, run_size hE]
    intro h; omega)

theorem run_fieldPlace {fd : Field} {df : TypeDesc} {szf bf : Nat} {zf : Value} (hft : Ty P fd.type df (szf + 1) bf zf) (a : Addr) : (fieldPlace a fd).run P w = .ok (a.add fd.offset) w := by
  unfold fieldPlace
  rw [Sem.run_bind, run_size hft]
  simp
theorem st_fieldAddr {a : Addr} {i off ft : Nat} {fs : Array Field} {df : TypeDesc} {szf bf : Nat} {zf : Value} (hS : Ty P t (.struct fs) sz by_ z) (hf : (fs[i]?).map (fun f => (f.type, f.offset)) = some (ft, off)) (hft : Ty P ft df (szf + 1) bf zf) (hx : ev l F.s x = .pointer (some a)) :
    Rn P l F.s w ⟨some d, .fieldAddr t x i, ty, pos, af, none⟩ (.pointer (some (a.add off))) := by
  cases hfi : fs[i]? with
  | none => rw [hfi] at hf; cases hf
  | some fd =>
    rw [hfi] at hf
    simp only [Option.map_some, Option.some.injEq, Prod.mk.injEq] at hf
    obtain ⟨h1, h2⟩ := hf
    subst h1 h2
    unfold Rn
    simp [execOp, hx, Instr.fieldAt, Instr.sureAddr, run_und hS, hfi, run_fieldPlace hft]
theorem st_field {i off ft : Nat} {cs : List Value} {v : Value} {fs : Array Field} {df : TypeDesc} {szf bf : Nat} {zf : Value} (hS : Ty P t (.struct fs) sz by_ z) (hf : (fs[i]?).map (fun f => (f.type, f.offset)) = some (ft, off)) (hft : Ty P ft df szf bf zf) (hfl : flat df = true) (hx : ev l F.s x = .agg cs.toArray) (hv : cs[off]? = some v) :
    Rn P l F.s w ⟨some d, .field t x i, ty, pos, af, none⟩ v := by
  cases hfi : fs[i]? with
  | none => rw [hfi] at hf; cases hf
  | some fd =>
    rw [hfi] at hf
    simp only [Option.map_some, Option.some.injEq, Prod.mk.injEq] at hf
    obtain ⟨h1, h2⟩ := hf
    subst h1 h2
    unfold Rn
    simp [execOp, hx, Instr.field, run_und hS, hfi, asAgg, part, run_isAgg hft, hfl, hv]

theorem fill_one {pl : Array (Nat × Nat)} {n : Nat} (hpl : ∀ i, i < n → pl[i]? = some (i, 1)) : ∀ (parts : List (Nat × Value)) (cs : List Value), (∀ p ∈ parts, p.1 < n ∧ p.2.oneCell' = true) → cs.length = n →
    Instr.fill (fun i => pl[i]?) cs.toArray parts = some (parts.foldl (fun cs p => cs.set p.1 p.2) cs).toArray
  | [], _, _, _ => rfl
  | (i, u) :: parts, cs, h, hn => by
    have hp := h (i, u) (by simp)
    have huc : u.cells = #[u] := by have := hp.2; cases u <;> first | rfl | (simp [Value.oneCell'] at this)
    have ih := fill_one hpl parts (cs.set i u) (fun p hp => h p (by simp [hp])) (by simpa using hn)
    simp only [Instr.fill, hpl i hp.1, huc]
    rw [if_neg (by simp; omega)]
    simpa using ih
/-- A struct of one-cell fields is put together. -/
theorem st_build {n : Nat} {fs : Array Field} {pl : Array (Nat × Nat)} {cs : List Value} {parts : Array (Nat × Operand)} {us : List (Nat × Value)} (hS : Ty P t (.struct fs) n by_ (.agg cs.toArray)) (hm : ∀ w : World, (fs.mapM (fun f => do pure (f.offset, ← sizeOf f.type)) : Sem (Array (Nat × Nat))).run P w = .ok pl w) (hpl : pl = ((List.range n).map fun i => (i, 1)).toArray)
    (hcs : cs.length = n) (hparts : parts.toList.map (fun p => (p.1, ev l F.s p.2)) = us) (hus : us.all (fun p => Nat.blt p.1 n && p.2.oneCell') = true) :
    Rn P l F.s w ⟨some d, .build t parts, ty, pos, af, none⟩ (.agg (us.foldl (fun cs p => cs.set p.1 p.2) cs).toArray) := by
  have hp' : parts.map (fun x => match x with | (i, x) => (i, ev l F.s x)) = us.toArray := by
    apply Array.ext'
    rw [Array.toList_map]
    exact hparts
  have h1 : ∀ p ∈ us, p.1 < n ∧ p.2.oneCell' = true := by
    intro p hp
    have := List.all_eq_true.1 hus p hp
    simp only [Bool.and_eq_true, Nat.blt_eq] at this
    exact this
  have hf := fill_one (pl := pl) (n := n) (by intro i hi; subst hpl; simp [hi]) us cs h1 hcs
  unfold Rn
  simp only [execOp, hp', Instr.build, Sem.run_bind, run_zero hS, Result.andThen, run_und hS, hm, Value.cells, hf]
  rfl

theorem run_storeAgg (h : Ty P t ds sz by_ z) {g n : Nat} {tb : TypeId} {old : Array Value} {cs : List Value} (hh : w.heap[g]? = some (.cells old tb (0, 0))) (hn : old.size = n) (hc : cs.length = n) (hs : sz = n) (h1 : ∀ u ∈ cs, u.oneCell' = true) :
    ∃ w' : World, (storeVar t ⟨g, 0, none⟩ (.agg cs.toArray)).run P w = .ok () w' ∧ w'.heap[g]? = some (.cells cs.toArray tb (0, 0)) ∧ w.grownBy w' (some g) ∧ w'.heap.size = w.heap.size := by
  have key : ∀ (cs : List Value) (i : Nat) (w : World) (old : List Value), (∀ u ∈ cs, u.oneCell' = true) → w.heap[g]? = some (.cells old.toArray tb (0, 0)) → i + cs.length = old.length →
      ∃ w' : World, (storeCells ⟨g, 0, none⟩ cs i).run P w = .ok () w' ∧ w'.heap[g]? = some (.cells (old.take i ++ cs).toArray tb (0, 0)) ∧ w.grownBy w' (some g) ∧ w'.heap.size = w.heap.size := by
    intro cs
    induction cs with
    | nil =>
      intro i w old _ hh hl
      refine ⟨w, rfl, ?_, ⟨rfl, rfl, rfl, Nat.le_refl _, fun _ _ _ => rfl⟩, rfl⟩
      rw [hh, List.append_nil, List.take_of_length_le (by simp at hl; omega)]
    | cons u cs ih =>
      intro i w old h1 hh hl
      simp only [List.length_cons] at hl
      have ha : (⟨g, 0, none⟩ : Addr).add i = ⟨g, i, none⟩ := by unfold Addr.add; split <;> simp_all
      have hcell : w.cell? ⟨g, i, none⟩ = some (old[i]'(by omega)) := by simp [World.cell?, hh, show i < old.length by omega]
      have hfz : w.frozen? ⟨g, i, none⟩ = false := by simp [World.frozen?, hh]
      have hh' : (w.setCell ⟨g, i, none⟩ u).heap[g]? = some (.cells (old.set i u).toArray tb (0, 0)) := by simp [World.setCell, Array.getElem?_modify, hh]
      obtain ⟨w', hr, he, hg, hz⟩ := ih (i + 1) (w.setCell ⟨g, i, none⟩ u) (old.set i u) (fun q hq => h1 q (by simp [hq])) hh' (by simp; omega)
      refine ⟨w', ?_, ?_, ⟨hg.os, hg.tape, hg.output, by rw [hz]; simp [World.setCell], fun k hk hne => (hg.block k (by simpa [World.setCell] using hk) hne).trans (Below.heap_setCell _ _ _ _ (fun e => hne (by rw [e])))⟩, by rw [hz]; simp [World.setCell]⟩
      · unfold storeCells
        rw [Sem.run_bind, ha, run_store P w _ u .plain (h1 u (by simp))]
        simp [hcell, hfz, hr]
      · rw [he, List.take_add_one]
        congr 3
        rw [List.take_set_of_le (Nat.le_refl _), List.getElem?_set_self (by omega)]
        simp
  subst hn hs
  obtain ⟨w', hr, he, hg, hz⟩ := key cs 0 w old.toList h1 (by simpa using hh) (by simp [hc])
  refine ⟨w', ?_, by simpa using he, hg, hz⟩
  unfold storeVar
  simp [run_size h, Value.cells, hc, hr]

theorem st_convSame {k : IntKind} {m : Int} {a b' : TypeId} {sa ba sb bb : Nat} {za zb : Value} (ha : Ty P a (.int k) sa ba za) (hb : Ty P b' (.int .i64) sb bb zb) (hx : ev l F.s x = .int k m) (h1 : -9223372036854775808 ≤ m) (h2 : m ≤ 9223372036854775807) :
    Rn P l F.s w ⟨some d, .convert a b' x, ty, pos, af, none⟩ (.int .i64 m) := by
  unfold Rn
  simp [execOp, hx, convert, run_und ha, run_und hb, Conv.intToInt, w64_in h1 h2]

theorem wq_retcell {fn : Func} {R : Ending → World → Prop} {t : Tmp} {a : Addr} {v : Value} (hr : fn.results = #[.cell t e]) (hd : F.D = []) (ha : fr l F.s t = .pointer (some a)) (hT : Ty P e ds sz by_ z) (hf : flat ds = true) (hc : w.cell? a = some v) (h : R (.returned v) w) : WQ (bodyPost P fn R) .ret F l w :=
  fun act hA => bodyPost_ret (by simp [results, hr, hA.get, ha, asAddr, run_loadVar1 hT hf hc]) (hA.defers.trans hd) h
theorem wq_retcellG {fn : Func} {R : Ending → World → Prop} {t : Tmp} {a : Addr} {cs : List Value} (hr : fn.results = #[.cell t e]) (hd : F.D = []) (ha : fr l F.s t = .pointer (some a)) (hT : Ty P e ds sz by_ z) (hf : flat ds = false) (hl : cs.length = sz) (hc : ∀ j v, cs[j]? = some v → w.cell? (a.add j) = some v) (h : R (.returned (.agg cs.toArray)) w) : WQ (bodyPost P fn R) .ret F l w :=
  fun act hA => bodyPost_ret (by simp [results, hr, hA.get, ha, asAddr, run_loadVarAgg hT hf hl hc]) (hA.defers.trans hd) h

/-- Reading: the slice value 'v' holds the cells of 'L' (elements of one cell), in blocks of 'S'. -/
def Rd (w : World) (S : Nat → Prop) (v : Value) (L : List Value) : Prop :=
  ∃ A c, v = .slice A L.length c ∧ L.length ≤ c ∧ c ≤ maxLen ∧ (0 < L.length → ∃ a, A = some a ∧ S a.block ∧ ∀ i u, L[i]? = some u → w.cell? (a.add i) = some u)

theorem Addr.add_block (a : Addr) (n : Nat) : (a.add n).block = a.block := by unfold Addr.add; split <;> rfl

theorem Rd.kept {w w' : World} {S : Nat → Prop} {v : Value} {L : List Value} (h : Rd w S v L) (hk : ∀ b, S b → w'.heap[b]? = w.heap[b]?) : Rd w' S v L := by
  obtain ⟨A, c, hv, hc, hm, hr⟩ := h
  refine ⟨A, c, hv, hc, hm, fun h0 => ?_⟩
  obtain ⟨a, ha, hS, hcell⟩ := hr h0
  exact ⟨a, ha, hS, fun i u hu => (World.cell?_of_block (by rw [Addr.add_block]; exact hk _ hS)).trans (hcell i u hu)⟩
theorem Rd.mono {w : World} {S S' : Nat → Prop} {v : Value} {L : List Value} (h : Rd w S v L) (hs : ∀ b, S b → S' b) : Rd w S' v L := by
  obtain ⟨A, c, hv, hc, hm, hr⟩ := h
  refine ⟨A, c, hv, hc, hm, fun h0 => ?_⟩
  obtain ⟨a, ha, hS, hcell⟩ := hr h0
  exact ⟨a, ha, hs _ hS, hcell⟩
theorem Rd.lt {w : World} {S : Nat → Prop} {v : Value} {L : List Value} (h : Rd w S v L) : Rd w (fun b => S b ∧ b < w.heap.size) v L := by
  obtain ⟨A, c, hv, hc, hm, hr⟩ := h
  refine ⟨A, c, hv, hc, hm, fun h0 => ?_⟩
  obtain ⟨a, ha, hS, hcell⟩ := hr h0
  refine ⟨a, ha, ⟨hS, ?_⟩, hcell⟩
  have := World.block_lt_of_cell? w _ (hcell 0 _ (List.getElem?_eq_getElem h0))
  rwa [Addr.add_block] at this
theorem Rd.below {B : Nat} {w w' : World} {v : Value} {L : List Value} (h : Rd w (· < B) v L) (hb : Below B w w') : Rd w' (· < B) v L := h.kept fun b hb' => hb.block b hb'
theorem Rd.nil {w : World} {S : Nat → Prop} : Rd w S (.slice none 0 0) [] := ⟨none, 0, rfl, Nat.le_refl _, by unfold maxLen; omega, fun h => absurd h (by simp)⟩
theorem Rd.len {w : World} {S : Nat → Prop} {v : Value} {L : List Value} (h : Rd w S v L) : ∃ A c, v = .slice A L.length c ∧ L.length ≤ c ∧ c ≤ 9223372036854775807 := by
  obtain ⟨A, c, hv, hc, hm, _⟩ := h
  exact ⟨A, c, hv, hc, by simpa [maxLen] using hm⟩

theorem st_idxR {S : Nat → Prop} {v u : Value} {L : List Value} {K : IntKind} {m : Int} (i : Nat) (hT : Ty P T (.slice e) sT bT zT) (hE : Ty P e ds 1 by_ z) (hr : Rd w S v L) (hx : ev l F.s x = v) (hy : ev l F.s y = .int K m) (him : m = (i : Int)) (hi : L[i]? = some u) :
    ∃ q, (∃ a : Addr, q = .pointer (some a) ∧ S a.block ∧ w.cell? a = some u) ∧ ∀ w, Rn P l F.s w ⟨some d, .indexAddr T x y, ty, pos, af, none⟩ q := by
  have hlt : i < L.length := (List.getElem?_eq_some_iff.1 hi).1
  obtain ⟨A, c, rfl, hc, hm, hr⟩ := hr
  obtain ⟨a, rfl, hS, hcell⟩ := hr (by omega)
  exact ⟨_, ⟨_, rfl, by rw [Addr.add_block]; exact hS, by rw [Nat.mul_one]; exact hcell i u hi⟩, fun _ => st_indexAddr i hT hE hx hy him hlt⟩

/-- Owned rows: facts of a slice value whose cells the call may write. -/
theorem own_form {base n : Nat} {v : Value} {L : List Value} (h : w.ownsRow base e 1 v n L) (hn : 0 < n) : ∃ g cap, v = .slice (some ⟨g, 0, none⟩) n cap ∧ base ≤ g ∧ g < w.heap.size ∧ v.ownBlock = some g ∧ n ≤ cap ∧ cap ≤ maxLen := by
  obtain ⟨hl, h⟩ := h
  rcases h with ⟨_, h0⟩ | ⟨g, cap, cur, hv, hb, hh, hnc, hcm, _, _⟩
  · omega
  · have hlt : g < w.heap.size := by
      rcases Nat.lt_or_ge g w.heap.size with h1 | h1
      · exact h1
      · rw [Array.getElem?_eq_none h1] at hh; cases hh
    exact ⟨g, cap, hv, hb, hlt, by rw [hv]; rfl, hnc, hcm⟩
theorem own_rd {base n : Nat} {v : Value} {L : List Value} (h : w.ownsRow base e 1 v n L) : Rd w (fun b => base ≤ b ∧ b < w.heap.size) v L := by
  have hl : L.length = n := by have := h.1; omega
  subst hl
  rcases Nat.eq_zero_or_pos L.length with h0 | h0
  · obtain ⟨hl, h⟩ := h
    rcases h with ⟨rfl, _⟩ | ⟨g, cap, cur, rfl, hb, hh, hnc, hcm, _, _⟩
    · have : L = [] := List.eq_nil_of_length_eq_zero h0
      subst this
      exact Rd.nil
    · exact ⟨_, cap, rfl, hnc, hcm, fun h => absurd h (by omega)⟩
  · obtain ⟨g, cap, hv, hb, hlt, ho, hnc, hcm⟩ := own_form h h0
    exact ⟨_, cap, hv, hnc, hcm, fun _ => ⟨_, rfl, ⟨hb, hlt⟩, h.cells ho⟩⟩
theorem own_store {base n : Nat} {g cap : Nat} {L : List Value} (h : w.ownsRow base e 1 (.slice (some ⟨g, 0, none⟩) n cap) n L) {i : Nat} (hi : i < n) (u : Value) :
    (w.setCell ⟨g, i, none⟩ u).ownsRow base e 1 (.slice (some ⟨g, 0, none⟩) n cap) n (L.set i u) ∧ w.grownBy (w.setCell ⟨g, i, none⟩ u) (some g) ∧ (∃ u', w.cell? ⟨g, i, none⟩ = some u') ∧ w.frozen? ⟨g, i, none⟩ = false := by
  obtain ⟨hl, h⟩ := h
  rcases h with ⟨hv, _⟩ | ⟨g', cap', cur, hv, hb, hh, hnc, hcm, hsz, htk⟩
  · cases hv
  · injection hv with h1 h2 h3
    injection h1 with h1
    injection h1 with h1
    subst h1 h3
    refine ⟨⟨by simp [hl], .inr ⟨g, cap, cur.setIfInBounds i u, rfl, hb, by simp [World.setCell, Array.getElem?_modify, hh], hnc, hcm, by simp [hsz], ?_⟩⟩, ⟨rfl, rfl, rfl, by simp [World.setCell], fun k hk hne => Below.heap_setCell _ _ _ _ (fun e => hne (by rw [e]))⟩, ?_, by simp [World.frozen?, hh]⟩
    · rw [Array.toList_setIfInBounds, List.take_set, htk]
    · have : i < cur.size := by omega
      exact ⟨cur[i], by simp [World.cell?, hh, this]⟩

theorem st_idxO {n g cap : Nat} {K : IntKind} {m : Int} (i : Nat) (hT : Ty P T (.slice e) sT bT zT) (hE : Ty P e ds 1 by_ z) (hx : ev l F.s x = .slice (some ⟨g, 0, none⟩) n cap) (hy : ev l F.s y = .int K m) (him : m = (i : Int)) (hlt : i < n) :
    Rn P l F.s w ⟨some d, .indexAddr T x y, ty, pos, af, none⟩ (.pointer (some ⟨g, i, none⟩)) := by
  have ha : (⟨g, 0, none⟩ : Addr).add i = ⟨g, i, none⟩ := by unfold Addr.add; split <;> simp_all
  have h := st_indexAddr (P := P) (F := F) (l := l) (w := w) (d := d) (ty := ty) (pos := pos) (af := af) i hT hE hx hy him hlt
  rw [Nat.mul_one, ha] at h
  exact h
theorem own_cell {base n g cap i : Nat} {L : List Value} {u : Value} (ho : w.ownsRow base e 1 (.slice (some ⟨g, 0, none⟩) n cap) n L) (hi : L[i]? = some u) : w.cell? ⟨g, i, none⟩ = some u := by
  have hc := ho.cells (g := g) rfl i u hi
  have ha : (⟨g, 0, none⟩ : Addr).add i = ⟨g, i, none⟩ := by unfold Addr.add; split <;> simp_all
  rwa [ha] at hc
include inst in
theorem wl_storeO {base n g cap i : Nat} {L : List Value} {v : Value} (hE : Ty P e ds 1 by_ z) (ho : w.ownsRow base e 1 (.slice (some ⟨g, 0, none⟩) n cap) n L) (hi : i < n) (hx : ev l F.s x = .pointer (some ⟨g, i, none⟩)) (hy : ev l F.s y = v) (hv : v.oneCell' = true)
    (k : ∀ w', w'.ownsRow base e 1 (.slice (some ⟨g, 0, none⟩) n cap) n (L.set i v) → w.grownBy w' (some g) → X rest F l w') : X (⟨none, .store e x y, ty, pos, af, none⟩ :: rest) F l w := by
  obtain ⟨h1, h2, ⟨u', h3⟩, h4⟩ := own_store ho hi v
  exact wl_store hE hx hy hv h3 h4 (k _ h1 h2)

theorem run_fill1 (u v : Value) (hv : v.oneCell' = true) : Instr.fill (fun i => some (i * 1, 1)) #[u] [(0, v)] = some #[v] := by
  have hvc : v.cells = #[v] := by cases v <;> first | rfl | (simp [Value.oneCell'] at hv)
  simp [Instr.fill, hvc]

include inst in
/-- 'append(s, x)' of one element of one cell: the two operations at once. -/
theorem wl_push {d1 d2 base n : Nat} {ty1 ty2 : TypeId} {pos1 pos2 : String} {af1 af2 : Array Edge} {s : Operand} {v u : Value} {L : List Value} (hT : Ty P T (.slice e) sT bT zT) (hE : Ty P e ds 1 by_ z) (hz : z.oneCell' = true) (ho : w.ownsRow base e 1 v n L) (hbase : base ≤ w.heap.size)
    (hs : ev l F.s s = v) (hx : ev l F.s x = u) (hu : u.oneCell' = true) (hb : (n + 1) * by_ ≤ 140737488355328) (hn : n + 1 ≤ maxLen) (hsd : ev [(d1, .slice (some ⟨w.heap.size, 0, none⟩) 1 1)] (fr l F.s) s = ev l F.s s) (hN1 : Nat.blt d1 F.N = true) (hN2 : Nat.blt d2 F.N = true)
    (k : ∀ v' w', w'.ownsRow base e 1 v' (n + 1) (L ++ [u]) → w.grownBy w' v.ownBlock → (v'.ownBlock = v.ownBlock ∨ v'.ownBlock = some (w.heap.size + 1)) → w.heap.size < w'.heap.size → X rest F ((d2, v') :: (d1, .slice (some ⟨w.heap.size, 0, none⟩) 1 1) :: l) w') :
    X (⟨some d1, .buildSlice T 1 #[(0, x)], ty1, pos1, af1, none⟩ :: ⟨some d2, .call ⟨.builtin .append, #[s, .tmp d1], #[T, T]⟩, ty2, pos2, af2, none⟩ :: rest) F l w := by
  obtain ⟨i, hi, hz', hs', hb'⟩ := hE.ex
  have hzc : z.cells = #[z] := by cases z <;> first | rfl | (simp [Value.oneCell'] at hz)
  have hucc : u.cells = #[u] := by cases u <;> first | rfl | (simp [Value.oneCell'] at hu)
  refine Runs.run (P := P) (v := .slice (some ⟨w.heap.size, 0, none⟩) 1 1) (w' := w.alloc (.cells #[u] e)) rfl rfl hN1 ?_ ?_
  · have er : Array.range 1 = #[0] := rfl
    simp [execOp, hx, Instr.buildSlice, run_und hT, run_size hE, run_zero hE, hzc, Instr.fill, hucc, newRow, er]
  · have ho' := ho.alloc (.cells #[u] e)
    have hcell : ∀ j q, [u][j]? = some q → (w.alloc (.cells #[u] e)).cell? ((⟨w.heap.size, 0, none⟩ : Addr).add j) = some q := by
      intro j q hj
      match j, hj with
      | 0, hj =>
        simp at hj
        subst hj
        rw [show (⟨w.heap.size, 0, none⟩ : Addr).add 0 = ⟨w.heap.size, 0, none⟩ from by simp [Addr.add], World.cell?_alloc_at _ _ _ _ rfl]
        rfl
    obtain ⟨v', w', hrun, how, hg, _, hat⟩ := run_append_own_at (P := P) (w.alloc (.cells #[u] e)) base T ty2 e i z 1 by_ hT.und hi hz' hs' hb' (by rw [hzc]; rfl) (by decide) v n L ho' ⟨w.heap.size, 0, none⟩ 1 1 [u] rfl hcell
      (by intro q hq; simp at hq; subst hq; exact hu) hn hb (by simp; omega)
    refine Runs.run (P := P) (v := v') (w' := w') rfl rfl hN2 ?_ (k v' w' how ?_ (by simpa using hat) (by have := hg.size; simp at this; omega))
    · have e1 : ev ((d1, .slice (some ⟨w.heap.size, 0, none⟩) 1 1) :: l) F.s s = v := by
        rw [← hs, ← hsd]
        cases s <;> rfl
      have e2 : ev ((d1, .slice (some ⟨w.heap.size, 0, none⟩) 1 1) :: l) F.s (.tmp d1) = .slice (some ⟨w.heap.size, 0, none⟩) 1 1 := by
        show (bif Nat.beq d1 d1 then _ else _) = _
        rw [Nat.beq_refl]; rfl
      simp [execOp, resolve, invoke, builtin, e1, e2, hrun]
    · refine ⟨hg.os, hg.tape, hg.output, ?_, fun b hb hne => ?_⟩
      · have := hg.size; simp at this; omega
      · rw [hg.block b (by simp; omega) hne]
        exact Below.heap_alloc _ _ _ hb

theorem made_rep (z : Value) (hz : z.oneCell' = true) (n : Nat) : (madeCells z.cells (n * 1)).toList = List.replicate n z := by
  have hzc : z.cells = #[z] := by cases z <;> first | rfl | (simp [Value.oneCell'] at hz)
  apply List.ext_getElem?
  intro j
  by_cases hj : j < n
  · simp [hzc, madeCells, hj, Nat.mod_one]
  · simp [hzc, madeCells, hj]

include inst in
/-- 'make([]T, n)'. -/
theorem wl_make {n : Nat} {K K' : IntKind} {m m' : Int} (hT : Ty P T (.slice e) sT bT zT) (hE : Ty P e ds 1 by_ z) (hz : z.oneCell' = true) (hx : ev l F.s x = .int K m) (hm : m = (n : Int)) (hy : ev l F.s y = .int K' m') (hm' : m' = (n : Int)) (hb : by_ * n ≤ 140737488355328) (hn : n ≤ maxLen) (hN : Nat.blt d F.N = true)
    (k : ∀ w', w'.ownsRow w.heap.size e 1 (.slice (some ⟨w.heap.size, 0, none⟩) n n) n (List.replicate n z) → w.grownBy w' none → w.heap.size < w'.heap.size → X rest F ((d, .slice (some ⟨w.heap.size, 0, none⟩) n n) :: l) w') :
    X (⟨some d, .makeSlice T x y, ty, pos, af, none⟩ :: rest) F l w := by
  subst hm hm'
  obtain ⟨i, hi, hz', hs', hb'⟩ := hE.ex
  obtain ⟨w', hr, ho, hg⟩ := run_make_full (P := P) w w.heap.size T e i z 1 hT.und hi hz' hs' K K' n (by rw [hb']; omega) hn (Nat.le_refl _)
  rw [made_rep z hz] at ho
  refine Runs.run (P := P) (v := .slice (some ⟨w.heap.size, 0, none⟩) n n) (w' := w') rfl rfl hN ?_ (k _ ho hg (ho.lt _ rfl).2)
  simp [execOp, hx, hy, hr]

theorem wq_ret2ct {fn : Func} {R : Ending → World → Prop} {t u : Tmp} {a : Addr} {v : Value} {cs : List Value} (hr : fn.results = #[.cell t e, .tmp u]) (hd : F.D = []) (ha : fr l F.s t = .pointer (some a)) (hv : fr l F.s u = v) (hT : Ty P e ds sz by_ z) (hf : flat ds = false) (hl : cs.length = sz) (hc : ∀ j v, cs[j]? = some v → w.cell? (a.add j) = some v) (h : R (.returned (.tuple #[.agg cs.toArray, v])) w) : WQ (bodyPost P fn R) .ret F l w :=
  fun act hA => bodyPost_ret (by simp [results, hr, hA.get, ha, hv, asAddr, run_loadVarAgg hT hf hl hc]) (hA.defers.trans hd) h
end rules
end Go.Proofs.YthofgamegondnaaDoor

namespace Go.Proofs.YthofgamegondnaaDoor
open Go.RowKit

/-- Abstract values. 'sl': a slice in memory that nobody writes, told by its elements (k cells each). 'rf': a slice of block b of the own blocks, from element lo on, n long, at least m elements of room. 'pt': the address of cell 'off' of element i of own block b. 'pe': the address of cell 'off' of something that lies in memory that nobody writes. 'e0': an empty slice without room. -/
inductive AV where
  | v (x : Value)
  | st (bs : List UInt8)
  | e0
  | sl (k : Nat) (xs : List AV)
  | rf (b lo n m : Nat)
  | pt (b i off : Nat)
  | pe (x : AV) (off : Nat)
  | ag (cs : List AV)
  | tp (vs : List AV)
  | fn (f : FuncId) (first caps : List AV)
  | yl (b : Nat)
  deriving Inhabited

def AV.cel : AV → List AV
  | .ag cs => cs
  | x => [x]
def AV.nc : AV → Nat
  | .ag cs => cs.length
  | _ => 1
/-- One element of one cell stands for itself. -/
def elm : List AV → AV
  | [x] => x
  | cs => .ag cs

/-- An own block: cells an element, the elements' type, the elements; 'fz': nobody may write it any more. -/
structure Blk where
  k : Nat
  t : TypeId
  es : List AV
  fz : Bool
  deriving Inhabited
abbrev Hp := List (Option Blk)

/-- Where an own block lies: the block of the world, cells an element, elements that fit. -/
structure RI where
  c : Nat
  k : Nat
  cap : Nat

inductive VR (w : World) (Z : Nat → Prop) : List RI → AV → Value → Prop
  | v {ρ : List RI} {x : Value} (h : x.oneCell' = true) : VR w Z ρ (.v x) x
  | st {ρ : List RI} {s : ByteArray} {bs : List UInt8} (h : s.data.toList = bs) (hn : bs.length ≤ maxLen) : VR w Z ρ (.st bs) (.string s)
  | e0 {ρ : List RI} {A : Option Addr} : VR w Z ρ .e0 (.slice A 0 0)
  | sl {ρ : List RI} {k c n : Nat} {xs : List AV} {A : Option Addr} {us : List Value} (hn : xs.length = n) (hl : us.length = xs.length) (hc : n ≤ c) (hm : c ≤ maxLen)
      (ha : 0 < n → ∃ a, A = some a ∧ a.spot = none ∧ Z a.block ∧ ∀ (i : Nat) (u : Value), us[i]? = some u → u.cells.size = k ∧ (∀ q ∈ u.cells, q.oneCell' = true) ∧ ∀ (j : Nat) (q : Value), u.cells[j]? = some q → w.cell? ⟨a.block, a.off + (i * k + j), none⟩ = some q)
      (hx : ∀ (i : Nat) (x : AV) (u : Value), xs[i]? = some x → us[i]? = some u → VR w Z [] x u) : VR w Z ρ (.sl k xs) (.slice A n c)
  | rf {ρ : List RI} {b lo n m c : Nat} {r : RI} (hr : ρ[b]? = some r) (h0 : n ≤ m) (h1 : m ≤ c) (h2 : lo + c ≤ r.cap) (hm : r.cap ≤ maxLen) : VR w Z ρ (.rf b lo n m) (.slice (some ⟨r.c, lo * r.k, none⟩) n c)
  | pt {ρ : List RI} {b i off : Nat} {r : RI} (hr : ρ[b]? = some r) : VR w Z ρ (.pt b i off) (.pointer (some ⟨r.c, i * r.k + off, none⟩))
  | pe {ρ : List RI} {off : Nat} {x : AV} {a : Addr} {u : Value} (hs : a.spot = none) (hz : Z a.block) (h1 : ∀ q ∈ u.cells, q.oneCell' = true) (hu : ∀ (j : Nat) (q : Value), u.cells[j]? = some q → w.cell? ⟨a.block, a.off + j, none⟩ = some q) (hx : VR w Z [] x u) : VR w Z ρ (.pe x off) (.pointer (some ⟨a.block, a.off + off, none⟩))
  | ag {ρ : List RI} {cs : List AV} {us : List Value} (hl : us.length = cs.length) (h1 : us.all Value.oneCell' = true) (hx : ∀ (i : Nat) (x : AV) (u : Value), cs[i]? = some x → us[i]? = some u → VR w Z ρ x u) : VR w Z ρ (.ag cs) (.agg us.toArray)
  | tp {ρ : List RI} {cs : List AV} {us : List Value} (hl : us.length = cs.length) (hx : ∀ (i : Nat) (x : AV) (u : Value), cs[i]? = some x → us[i]? = some u → VR w Z ρ x u) : VR w Z ρ (.tp cs) (.tuple us.toArray)
  | fn {ρ : List RI} {f : FuncId} {p q : List AV} {us vs : List Value} (hl : us.length = p.length) (hl' : vs.length = q.length) (hx : ∀ (i : Nat) (x : AV) (u : Value), p[i]? = some x → us[i]? = some u → VR w Z ρ x u) (hy : ∀ (i : Nat) (x : AV) (u : Value), q[i]? = some x → vs[i]? = some u → VR w Z ρ x u) : VR w Z ρ (.fn f p q) (.func (.func f) us.toArray vs.toArray)
  | yl {ρ : List RI} {b : Nat} {r : RI} (hr : ρ[b]? = some r) : VR w Z ρ (.yl b) (.func (.yield r.c) #[] #[])

/-- Lists of them. -/
structure VRs (w : World) (Z : Nat → Prop) (ρ : List RI) (xs : List AV) (us : List Value) : Prop where
  len : us.length = xs.length
  at_ : ∀ (i : Nat) (x : AV) (u : Value), xs[i]? = some x → us[i]? = some u → VR w Z ρ x u

section
variable {w w' : World} {Z Z' : Nat → Prop} {ρ ρ' : List RI} {x : AV} {u : Value} {xs ys : List AV} {us vs : List Value}

theorem VR.mono (h : VR w Z ρ x u) (hw : ∀ b, Z b → w'.heap[b]? = w.heap[b]?) (hz : ∀ b, Z b → Z' b) (hr : ∀ (i : Nat) (r : RI), ρ[i]? = some r → ρ'[i]? = some r) : VR w' Z' ρ' x u := by
  induction h generalizing ρ' with
  | v h => exact .v h
  | st h hn => exact .st h hn
  | e0 => exact .e0
  | sl hn hl hc hm ha _ ih =>
    refine .sl hn hl hc hm (fun h0 => ?_) (fun i x u hx hu => ih i x u hx hu (fun _ _ h => h))
    obtain ⟨a, h1, h2, h3, h4⟩ := ha h0
    exact ⟨a, h1, h2, hz _ h3, fun i u hu => ⟨(h4 i u hu).1, (h4 i u hu).2.1, fun j q hq => (World.cell?_of_block (by exact hw _ h3)).trans ((h4 i u hu).2.2 j q hq)⟩⟩
  | rf h0 h1 h2 h3 h4 => exact .rf (hr _ _ h0) h1 h2 h3 h4
  | pt h => exact .pt (hr _ _ h)
  | pe hs h3 h1 hu _ ih => exact .pe hs (hz _ h3) h1 (fun j q hq => (World.cell?_of_block (by exact hw _ h3)).trans (hu j q hq)) (ih fun _ _ h => h)
  | ag hl h1 _ ih => exact .ag hl h1 (fun i x u hx hu => ih i x u hx hu hr)
  | tp hl _ ih => exact .tp hl (fun i x u hx hu => ih i x u hx hu hr)
  | fn hl hl' _ _ ih ih' => exact .fn hl hl' (fun i x u hx hu => ih i x u hx hu hr) (fun i x u hx hu => ih' i x u hx hu hr)
  | yl h => exact .yl (hr _ _ h)

theorem VR.up (h : VR w Z [] x u) : VR w Z ρ x u := h.mono (fun _ _ => rfl) (fun _ h => h) (fun i r h => by simp at h)
theorem VRs.mono (h : VRs w Z ρ xs us) (hw : ∀ b, Z b → w'.heap[b]? = w.heap[b]?) (hz : ∀ b, Z b → Z' b) (hr : ∀ (i : Nat) (r : RI), ρ[i]? = some r → ρ'[i]? = some r) : VRs w' Z' ρ' xs us :=
  ⟨h.len, fun i x u hx hu => (h.at_ i x u hx hu).mono hw hz hr⟩

theorem VRs.nil : VRs w Z ρ [] [] := ⟨rfl, fun i x u h => by simp at h⟩
theorem VRs.cons (h : VR w Z ρ x u) (hs : VRs w Z ρ xs us) : VRs w Z ρ (x :: xs) (u :: us) :=
  ⟨by simp [hs.len], fun i y q hy hq => by
    cases i with
    | zero => simp at hy hq; subst hy hq; exact h
    | succ i => simp at hy hq; exact hs.at_ i y q hy hq⟩
theorem VRs.head (h : VRs w Z ρ (x :: xs) us) : ∃ u us', us = u :: us' ∧ VR w Z ρ x u ∧ VRs w Z ρ xs us' := by
  cases us with
  | nil => have := h.len; simp at this
  | cons u us => exact ⟨u, us, rfl, h.at_ 0 x u rfl rfl, ⟨by have := h.len; simpa using this, fun i y q hy hq => h.at_ (i + 1) y q (by simpa using hy) (by simpa using hq)⟩⟩
theorem VRs.get {i : Nat} (h : VRs w Z ρ xs us) (hx : xs[i]? = some x) : ∃ u, us[i]? = some u ∧ VR w Z ρ x u := by
  have hlt : i < us.length := by rw [h.len]; exact (List.getElem?_eq_some_iff.1 hx).1
  exact ⟨us[i], List.getElem?_eq_getElem hlt, h.at_ i x _ hx (List.getElem?_eq_getElem hlt)⟩
theorem VRs.append (h : VRs w Z ρ xs us) (h' : VRs w Z ρ ys vs) : VRs w Z ρ (xs ++ ys) (us ++ vs) :=
  ⟨by simp [h.len, h'.len], fun i y q hy hq => by
    by_cases hi : i < xs.length
    · rw [List.getElem?_append_left hi] at hy
      rw [List.getElem?_append_left (by rw [h.len]; exact hi)] at hq
      exact h.at_ i y q hy hq
    · rw [List.getElem?_append_right (by omega)] at hy
      rw [List.getElem?_append_right (by rw [h.len]; omega), h.len] at hq
      exact h'.at_ _ y q hy hq⟩
theorem VRs.take (h : VRs w Z ρ xs us) (n : Nat) : VRs w Z ρ (xs.take n) (us.take n) :=
  ⟨by simp [h.len], fun i y q hy hq => by
    rw [List.getElem?_take] at hy hq
    split at hy
    · next hi => rw [if_pos hi] at hq; exact h.at_ i y q hy hq
    · cases hy⟩
theorem VRs.drop (h : VRs w Z ρ xs us) (n : Nat) : VRs w Z ρ (xs.drop n) (us.drop n) :=
  ⟨by simp [h.len], fun i y q hy hq => by
    rw [List.getElem?_drop] at hy hq
    exact h.at_ _ y q hy hq⟩
theorem VRs.set (h : VRs w Z ρ xs us) (n : Nat) (hx : VR w Z ρ x u) : VRs w Z ρ (xs.set n x) (us.set n u) :=
  ⟨by simp [h.len], fun i y q hy hq => by
    rw [List.getElem?_set] at hy hq
    split at hy
    · next hi =>
      rw [if_pos hi] at hq
      have hl := h.len
      by_cases hn : n < xs.length
      · rw [if_pos hn] at hy
        rw [if_pos (by omega)] at hq
        injection hy with hy; injection hq with hq; subst hy hq; exact hx
      · rw [if_neg hn] at hy; cases hy
    · next hi => rw [if_neg hi] at hq; exact h.at_ i y q hy hq⟩
theorem VRs.replicate (n : Nat) (hx : VR w Z ρ x u) : VRs w Z ρ (List.replicate n x) (List.replicate n u) :=
  ⟨by simp, fun i y q hy hq => by
    simp only [List.getElem?_replicate] at hy hq
    split at hy
    · next hi => rw [if_pos hi] at hq; injection hy with hy; injection hq with hq; subst hy hq; exact hx
    · cases hy⟩

/-- The cells of a value. -/
theorem VR.cells (h : VR w Z ρ x u) : u.cells.size = x.nc ∧ VRs w Z ρ x.cel u.cells.toList := by
  have one : ∀ {y : AV} {u : Value}, VR w Z ρ y u → u.cells = #[u] → y.nc = 1 → y.cel = [y] → u.cells.size = y.nc ∧ VRs w Z ρ y.cel u.cells.toList := by
    intro y u h e h1 h2
    rw [e, h1, h2]
    exact ⟨rfl, .cons h .nil⟩
  cases h with
  | v h => exact one (.v h) (by cases u <;> first | rfl | (simp [Value.oneCell'] at h)) rfl rfl
  | st h hn => exact one (.st h hn) rfl rfl rfl
  | e0 => exact one .e0 rfl rfl rfl
  | sl hn hl hc hm ha hx => exact one (.sl hn hl hc hm ha hx) rfl rfl rfl
  | rf h0 h1 h2 h3 h4 => exact one (.rf h0 h1 h2 h3 h4) rfl rfl rfl
  | pt h => exact one (.pt h) rfl rfl rfl
  | pe hs h3 h1 hu hx => exact one (.pe hs h3 h1 hu hx) rfl rfl rfl
  | ag hl h1 hx => exact ⟨by simp [Value.cells, AV.nc, hl], ⟨by simp [Value.cells, AV.cel, hl], by simpa [Value.cells, AV.cel] using hx⟩⟩
  | tp hl hx => exact one (.tp hl hx) rfl rfl rfl
  | fn hl hl' hx hy => exact one (.fn hl hl' hx hy) rfl rfl rfl
  | yl hr => exact one (.yl hr) rfl rfl rfl

def AV.notTp : AV → Bool
  | .tp _ => false
  | _ => true
def AV.notAg : AV → Bool
  | .ag _ => false
  | _ => true
theorem VR.one (h : VR w Z ρ x u) (ha : x.notAg = true) (ht : x.notTp = true) : u.oneCell' = true := by
  cases h <;> first | assumption | rfl | (simp [AV.notAg] at ha) | (simp [AV.notTp] at ht)
/-- All cells of what may be stored are of one cell. -/
theorem VR.cells_one (h : VR w Z ρ x u) (ht : x.notTp = true) : ∀ q ∈ u.cells, q.oneCell' = true := by
  cases h with
  | ag hl h1 hx =>
    intro q hq
    simp [Value.cells] at hq
    exact List.all_eq_true.1 h1 q hq
  | tp hl hx => simp [AV.notTp] at ht
  | v h => intro q hq; rw [show u.cells = #[u] by cases u <;> first | rfl | (simp [Value.oneCell'] at h)] at hq; simp at hq; subst hq; exact h
  | _ => intro q hq; simp [Value.cells] at hq; subst hq; rfl
/-- Put together out of cells. -/
theorem VRs.elm (h : VRs w Z ρ xs us) (h1 : us.all Value.oneCell' = true) : ∃ u, VR w Z ρ (elm xs) u ∧ u.cells = us.toArray ∧ (Go.Proofs.YthofgamegondnaaDoor.elm xs).notTp = true := by
  have hs : ∀ (xs : List AV), Go.Proofs.YthofgamegondnaaDoor.elm xs = .ag xs → VRs w Z ρ xs us → ∃ u, VR w Z ρ (Go.Proofs.YthofgamegondnaaDoor.elm xs) u ∧ u.cells = us.toArray ∧ (Go.Proofs.YthofgamegondnaaDoor.elm xs).notTp = true := by
    intro xs e h
    rw [e]
    exact ⟨_, .ag h.len h1 h.at_, rfl, rfl⟩
  match xs, h with
  | [], h => exact hs [] rfl h
  | [x], h =>
    obtain ⟨u, us', rfl, hu, hn⟩ := h.head
    have : us' = [] := by have := hn.len; simpa using this
    subst this
    have ho : u.oneCell' = true := by simpa using h1
    refine ⟨u, hu, by cases u <;> first | rfl | (simp [Value.oneCell'] at ho), ?_⟩
    show x.notTp = true
    cases hu <;> first | rfl | (simp [Value.oneCell'] at ho)
  | x :: y :: l, h => exact hs _ rfl h
end

/-- The own blocks that are live. -/
def own (ρ : List RI) (h : Hp) (c : Nat) : Prop := ∃ (b : Nat) (B : Blk) (r : RI), h[b]? = some (some B) ∧ B.fz = false ∧ ρ[b]? = some r ∧ r.c = c

/-- What the own blocks hold. -/
structure HR (w : World) (Z : Nat → Prop) (ρ : List RI) (h : Hp) : Prop where
  len : ρ.length = h.length
  blk : ∀ (b : Nat) (B : Blk), h[b]? = some (some B) → ∃ r arr us, ρ[b]? = some r ∧ r.k = B.k ∧ w.heap[r.c]? = some (.cells arr B.t (0, 0)) ∧ arr.size = r.cap * B.k ∧ B.es.length ≤ r.cap ∧ r.cap ≤ maxLen ∧ (B.fz = true → Z r.c) ∧ (B.fz = false → ¬ Z r.c) ∧
    VRs w Z ρ B.es us ∧ ∀ (i : Nat) (u : Value), us[i]? = some u → u.cells.size = B.k ∧ (∀ q ∈ u.cells, q.oneCell' = true) ∧ ∀ (j : Nat) (q : Value), u.cells[j]? = some q → arr[i * B.k + j]? = some q
  inj : ∀ (b b' : Nat) (B B' : Blk) (r r' : RI), h[b]? = some (some B) → B.fz = false → h[b']? = some (some B') → B'.fz = false → ρ[b]? = some r → ρ[b']? = some r' → r.c = r'.c → b = b'
  zlt : ∀ c, Z c → c < w.heap.size

/-- From one state to a later one: only own blocks have turned. -/
structure Step (w : World) (Z : Nat → Prop) (ρ : List RI) (h : Hp) (w' : World) (Z' : Nat → Prop) (ρ' : List RI) (h' : Hp) : Prop where
  os : w'.os = w.os
  tape : w'.tape = w.tape
  output : w'.output = w.output
  size : w.heap.size ≤ w'.heap.size
  block : ∀ c, c < w.heap.size → ¬ own ρ h c → w'.heap[c]? = w.heap[c]?
  own_ : ∀ c, own ρ' h' c → own ρ h c ∨ w.heap.size ≤ c
  z : ∀ c, Z c → Z' c
  z' : ∀ c, Z' c → Z c ∨ own ρ h c ∨ w.heap.size ≤ c
  r : ∀ (i : Nat) (x : RI), ρ[i]? = some x → ρ'[i]? = some x

section
variable {w w' w'' : World} {Z Z' Z'' : Nat → Prop} {ρ ρ' ρ'' : List RI} {h h' h'' : Hp} {x : AV} {u : Value}
theorem Step.refl (w : World) (Z : Nat → Prop) (ρ : List RI) (h : Hp) : Step w Z ρ h w Z ρ h :=
  ⟨rfl, rfl, rfl, Nat.le_refl _, fun _ _ _ => rfl, fun _ h => .inl h, fun _ h => h, fun _ h => .inl h, fun _ _ h => h⟩
theorem Step.trans (s : Step w Z ρ h w' Z' ρ' h') (t : Step w' Z' ρ' h' w'' Z'' ρ'' h'') : Step w Z ρ h w'' Z'' ρ'' h'' := by
  refine ⟨t.os.trans s.os, t.tape.trans s.tape, t.output.trans s.output, Nat.le_trans s.size t.size, fun c hc hn => ?_, fun c hc => ?_, fun c hc => t.z c (s.z c hc), fun c hc => ?_, fun i x hx => t.r i x (s.r i x hx)⟩
  · rw [t.block c (Nat.lt_of_lt_of_le hc s.size) fun ho => ?_]
    · exact s.block c hc hn
    · rcases s.own_ c ho with h1 | h1
      · exact hn h1
      · omega
  · rcases t.own_ c hc with h1 | h1
    · exact s.own_ c h1
    · exact .inr (Nat.le_trans s.size h1)
  · rcases t.z' c hc with h1 | h1 | h1
    · exact s.z' c h1
    · rcases s.own_ c h1 with h2 | h2
      · exact .inr (.inl h2)
      · exact .inr (.inr h2)
    · exact .inr (.inr (Nat.le_trans s.size h1))
theorem HR.rltL (hh : HR w Z ρ h) {b : Nat} {B : Blk} {r : RI} (hB : h[b]? = some (some B)) (hr : ρ[b]? = some r) : r.c < w.heap.size := by
  obtain ⟨r', _, _, g1, _, g3, _⟩ := hh.blk b B hB
  rw [hr] at g1
  injection g1 with g1
  subst g1
  exact (Array.getElem?_eq_some_iff.1 g3).1
theorem HR.notZ (hh : HR w Z ρ h) {c : Nat} (hc : own ρ h c) : ¬ Z c := by
  obtain ⟨b, B, r, h1, h2, h3, rfl⟩ := hc
  obtain ⟨r', _, _, g1, _, _, _, _, _, _, g2, _⟩ := hh.blk b B h1
  rw [h3] at g1
  injection g1 with g1
  subst g1
  exact g2 h2
/-- Values are kept by a step. -/
theorem VR.step (hv : VR w Z ρ x u) (hh : HR w Z ρ h) (s : Step w Z ρ h w' Z' ρ' h') : VR w' Z' ρ' x u :=
  hv.mono (fun b hb => s.block b (hh.zlt b hb) fun ho => hh.notZ ho hb) s.z s.r
theorem VRs.step {xs : List AV} {us : List Value} (hv : VRs w Z ρ xs us) (hh : HR w Z ρ h) (s : Step w Z ρ h w' Z' ρ' h') : VRs w' Z' ρ' xs us :=
  ⟨hv.len, fun i x u hx hu => (hv.at_ i x u hx hu).step hh s⟩

/-- The world grows or other blocks than those that count turn: the blocks' contents are kept. -/
theorem HR.keep (hh : HR w Z ρ h) (hs : w.heap.size ≤ w'.heap.size) (hb : ∀ c, c < w.heap.size → w'.heap[c]? = w.heap[c]?) : HR w' Z ρ h := by
  refine ⟨hh.len, fun b B hB => ?_, hh.inj, fun c hc => Nat.lt_of_lt_of_le (hh.zlt c hc) hs⟩
  obtain ⟨r, arr, us, h1, h2, h3, h4, h5, h6, h7, h8, h9, h10⟩ := hh.blk b B hB
  exact ⟨r, arr, us, h1, h2, (hb _ (hh.rltL hB h1)).trans h3, h4, h5, h6, h7, h8, h9.mono (fun c hc => hb c (hh.zlt c hc)) (fun _ h => h) (fun _ _ h => h), h10⟩
end

section newblock
variable {w : World} {Z : Nat → Prop} {ρ : List RI} {h : Hp}
theorem getElem?_snoc {α : Type} (l : List α) (a : α) (i : Nat) (b : α) : (l ++ [a])[i]? = some b ↔ l[i]? = some b ∨ (i = l.length ∧ b = a) := by
  by_cases hi : i < l.length
  · rw [List.getElem?_append_left hi]
    exact ⟨.inl, fun h => h.elim id fun h => by omega⟩
  · rw [List.getElem?_append_right (by omega)]
    constructor
    · intro hh
      have : i = l.length := by
        rcases Nat.eq_zero_or_pos (i - l.length) with h0 | h0
        · omega
        · rw [List.getElem?_eq_none (by simp; omega)] at hh; cases hh
      subst this
      simp at hh
      exact .inr ⟨rfl, hh.symm⟩
    · rintro (hh | ⟨rfl, rfl⟩)
      · rw [List.getElem?_eq_none (by omega)] at hh; cases hh
      · simp

/-- A new block. -/
theorem HR.new {w' : World} {c : Nat} (hh : HR w Z ρ h) {k : Nat} {t : TypeId} {es : List AV} {us : List Value} {arr : Array Value} {cap : Nat} (hg : w.grownBy w' none) (hc : w.heap.size ≤ c) (hb : w'.heap[c]? = some (.cells arr t (0, 0))) (he : VRs w Z ρ es us) (hsz : arr.size = cap * k) (hle : es.length ≤ cap) (hcm : cap ≤ maxLen)
    (hu : ∀ (i : Nat) (u : Value), us[i]? = some u → u.cells.size = k ∧ (∀ q ∈ u.cells, q.oneCell' = true) ∧ ∀ (j : Nat) (q : Value), u.cells[j]? = some q → arr[i * k + j]? = some q) :
    HR w' Z (ρ ++ [⟨c, k, cap⟩]) (h ++ [some ⟨k, t, es, false⟩]) ∧ Step w Z ρ h w' Z (ρ ++ [⟨c, k, cap⟩]) (h ++ [some ⟨k, t, es, false⟩]) ∧ (ρ ++ [(⟨c, k, cap⟩ : RI)])[h.length]? = some ⟨c, k, cap⟩ := by
  have hold : ∀ c, c < w.heap.size → w'.heap[c]? = w.heap[c]? := fun c hc => hg.block c hc (by simp)
  have hcl : c < w'.heap.size := (Array.getElem?_eq_some_iff.1 hb).1
  have hr : ∀ (i : Nat) (x : RI), ρ[i]? = some x → (ρ ++ [(⟨c, k, cap⟩ : RI)])[i]? = some x := fun i x hx => (getElem?_snoc _ _ _ _).2 (.inl hx)
  have hlast : (ρ ++ [(⟨c, k, cap⟩ : RI)])[h.length]? = some ⟨c, k, cap⟩ := (getElem?_snoc _ _ _ _).2 (.inr ⟨hh.len.symm, rfl⟩)
  have hmono : ∀ {x : AV} {u : Value}, VR w Z ρ x u → VR w' Z (ρ ++ [⟨c, k, cap⟩]) x u := fun hv => hv.mono (fun b hb => hold b (hh.zlt b hb)) (fun _ h => h) hr
  have hz : ∀ d, Z d → d ≠ c := fun d hd e => by have := hh.zlt d hd; omega
  refine ⟨⟨by simp [hh.len], fun b B hB => ?_, fun b b' B B' r r' hB hf hB' hf' h1 h2 e => ?_, fun c hc => Nat.lt_of_lt_of_le (hh.zlt c hc) hg.size⟩, ⟨hg.os, hg.tape, hg.output, hg.size, fun c hc _ => hold c hc, fun d hd => ?_, fun _ h => h, fun _ h => .inl h, hr⟩, hlast⟩
  · rcases (getElem?_snoc _ _ _ _).1 hB with hB | ⟨rfl, hE⟩
    · obtain ⟨r, arr', us', h1, h2, h3, h4, h5, h6, h7, h8, h9, h10⟩ := hh.blk b B hB
      exact ⟨r, arr', us', hr _ _ h1, h2, (hold _ (hh.rltL hB h1)).trans h3, h4, h5, h6, h7, h8, ⟨h9.len, fun i x u hx hu' => hmono (h9.at_ i x u hx hu')⟩, h10⟩
    · have hE := (Option.some.inj hE)
      subst hE
      exact ⟨_, arr, us, hlast, rfl, hb, hsz, hle, hcm, (fun h => by cases h), (fun _ hZ => hz _ hZ rfl), ⟨he.len, fun i x u hx hu' => hmono (he.at_ i x u hx hu')⟩, hu⟩
  · rcases (getElem?_snoc _ _ _ _).1 h1 with h1 | ⟨e1, rfl⟩ <;> rcases (getElem?_snoc _ _ _ _).1 h2 with h2 | ⟨e2, rfl⟩
    · refine hh.inj b b' B B' r r' ?_ hf ?_ hf' h1 h2 e
      · rcases (getElem?_snoc _ _ _ _).1 hB with hB | ⟨e3, _⟩
        · exact hB
        · have := (List.getElem?_eq_some_iff.1 h1).1; have := hh.len; omega
      · rcases (getElem?_snoc _ _ _ _).1 hB' with hB | ⟨e3, _⟩
        · exact hB
        · have := (List.getElem?_eq_some_iff.1 h2).1; have := hh.len; omega
    · have hB0 : h[b]? = some (some B) := by
        rcases (getElem?_snoc _ _ _ _).1 hB with hB | ⟨e3, _⟩
        · exact hB
        · have := (List.getElem?_eq_some_iff.1 h1).1; have := hh.len; omega
      have := hh.rltL hB0 h1; simp at e; omega
    · have hB0 : h[b']? = some (some B') := by
        rcases (getElem?_snoc _ _ _ _).1 hB' with hB | ⟨e3, _⟩
        · exact hB
        · have := (List.getElem?_eq_some_iff.1 h2).1; have := hh.len; omega
      have := hh.rltL hB0 h2; simp at e; omega
    · omega
  · obtain ⟨b, B, r, h1, h2, h3, rfl⟩ := hd
    rcases (getElem?_snoc _ _ _ _).1 h3 with h3 | ⟨_, rfl⟩
    · rcases (getElem?_snoc _ _ _ _).1 h1 with h1 | ⟨e3, _⟩
      · exact .inl ⟨b, B, r, h1, h2, h3, rfl⟩
      · have := (List.getElem?_eq_some_iff.1 h3).1; have := hh.len; omega
    · exact .inr hc
/-- The contents of a live block turn. -/
theorem HR.put {w' : World} (hh : HR w Z ρ h) {b : Nat} {B : Blk} {r : RI} {es : List AV} {us : List Value} {arr : Array Value} (hB : h[b]? = some (some B)) (hf : B.fz = false) (hr : ρ[b]? = some r) (hg : w.grownBy w' (some r.c)) (hb : w'.heap[r.c]? = some (.cells arr B.t (0, 0))) (hsz : arr.size = r.cap * B.k) (hle : es.length ≤ r.cap)
    (he : VRs w Z ρ es us) (hu : ∀ (i : Nat) (u : Value), us[i]? = some u → u.cells.size = B.k ∧ (∀ q ∈ u.cells, q.oneCell' = true) ∧ ∀ (j : Nat) (q : Value), u.cells[j]? = some q → arr[i * B.k + j]? = some q) :
    HR w' Z ρ (h.set b (some { B with es := es })) ∧ Step w Z ρ h w' Z ρ (h.set b (some { B with es := es })) := by
  have hown : own ρ h r.c := ⟨b, B, r, hB, hf, hr, rfl⟩
  have hold : ∀ c, c < w.heap.size → c ≠ r.c → w'.heap[c]? = w.heap[c]? := fun c hc hne => hg.block c hc (by intro e; injection e with e; exact hne e)
  have hzr : ∀ c, Z c → c ≠ r.c := fun c hc e => hh.notZ hown (e ▸ hc)
  have hmono : ∀ {x : AV} {u : Value}, VR w Z ρ x u → VR w' Z ρ x u := fun hv => hv.mono (fun b hb => hold b (hh.zlt b hb) (hzr b hb)) (fun _ h => h) (fun _ _ h => h)
  have hbl : b < h.length := (List.getElem?_eq_some_iff.1 hB).1
  have hget : ∀ (b' : Nat) (B' : Blk), (h.set b (some { B with es := es }))[b']? = some (some B') → (b' = b ∧ B' = { B with es := es }) ∨ (b' ≠ b ∧ h[b']? = some (some B')) := fun b' B' hB' => by
    rw [List.getElem?_set] at hB'
    split at hB'
    · next e =>
      subst e
      try rw [if_pos hbl] at hB'
      injection hB' with hB'
      injection hB' with hB'
      exact .inl ⟨rfl, hB'.symm⟩
    · next e => exact .inr ⟨fun e' => e e'.symm, hB'⟩
  have hown' : ∀ (b' : Nat) (B' : Blk), (h.set b (some { B with es := es }))[b']? = some (some B') → B'.fz = false → ∃ B'', h[b']? = some (some B'') ∧ B''.fz = false := fun b' B' hB' hf' => by
    rcases hget b' B' hB' with ⟨rfl, rfl⟩ | ⟨_, h1⟩
    · exact ⟨B, hB, hf⟩
    · exact ⟨B', h1, hf'⟩
  refine ⟨⟨by simp [hh.len], fun b' B' hB' => ?_, fun b1 b2 B1 B2 r1 r2 h1 f1 h2 f2 g1 g2 e => ?_, fun c hc => Nat.lt_of_lt_of_le (hh.zlt c hc) hg.size⟩,
    ⟨hg.os, hg.tape, hg.output, hg.size, fun c hc hn => hold c hc (fun e => hn (e ▸ hown)), fun c hc => ?_, fun _ h => h, fun _ h => .inl h, fun _ _ h => h⟩⟩
  · rcases hget b' B' hB' with ⟨rfl, rfl⟩ | ⟨hne, h1⟩
    · obtain ⟨r', arr', us', g1, g2, g3, g4, g5, g6, g7, g8, g9, g10⟩ := hh.blk b' B hB
      rw [hr] at g1
      injection g1 with g1
      subst g1
      exact ⟨r, arr, us, hr, g2, hb, hsz, hle, g6, g7, g8, ⟨he.len, fun i x u hx hu' => hmono (he.at_ i x u hx hu')⟩, hu⟩
    · obtain ⟨r', arr', us', g1, g2, g3, g4, g5, g6, g7, g8, g9, g10⟩ := hh.blk b' B' h1
      have hcne : r'.c ≠ r.c := by
        intro e
        cases hfz : B'.fz with
        | true => exact hzr _ (g7 hfz) e
        | false => exact hne (hh.inj b' b B' B r' r h1 hfz hB hf g1 hr e)
      exact ⟨r', arr', us', g1, g2, (hold _ (hh.rltL h1 g1) hcne).trans g3, g4, g5, g6, g7, g8, ⟨g9.len, fun i x u hx hu' => hmono (g9.at_ i x u hx hu')⟩, g10⟩
  · obtain ⟨B1', h1', f1'⟩ := hown' b1 B1 h1 f1
    obtain ⟨B2', h2', f2'⟩ := hown' b2 B2 h2 f2
    exact hh.inj b1 b2 B1' B2' r1 r2 h1' f1' h2' f2' g1 g2 e
  · obtain ⟨b', B', r', h1, h2, h3, rfl⟩ := hc
    obtain ⟨B'', k1, k2⟩ := hown' b' B' h1 h2
    exact .inl ⟨b', B'', r', k1, k2, h3, rfl⟩
/-- A block is given up. -/
theorem HR.kill (hh : HR w Z ρ h) (b : Nat) : HR w Z ρ (h.set b none) ∧ Step w Z ρ h w Z ρ (h.set b none) := by
  have hget : ∀ (b' : Nat) (B' : Blk), (h.set b none)[b']? = some (some B') → h[b']? = some (some B') := fun b' B' hB' => by
    rw [List.getElem?_set] at hB'
    split at hB'
    · split at hB' <;> cases hB'
    · exact hB'
  refine ⟨⟨by simp [hh.len], fun b' B' hB' => hh.blk b' B' (hget b' B' hB'), fun b1 b2 B1 B2 r1 r2 h1 f1 h2 f2 => hh.inj b1 b2 B1 B2 r1 r2 (hget _ _ h1) f1 (hget _ _ h2) f2, hh.zlt⟩, ⟨rfl, rfl, rfl, Nat.le_refl _, fun _ _ _ => rfl, fun c hc => ?_, fun _ h => h, fun _ h => .inl h, fun _ _ h => h⟩⟩
  obtain ⟨b', B', r', h1, h2, h3, rfl⟩ := hc
  exact .inl ⟨b', B', r', hget _ _ h1, h2, h3, rfl⟩
/-- A block goes on under another number. -/
theorem HR.rename (hh : HR w Z ρ h) {b : Nat} {B : Blk} {r : RI} (hB : h[b]? = some (some B)) (hr : ρ[b]? = some r) :
    HR w Z (ρ ++ [r]) (h.set b none ++ [some B]) ∧ Step w Z ρ h w Z (ρ ++ [r]) (h.set b none ++ [some B]) ∧ (ρ ++ [r])[h.length]? = some r := by
  have hr' : ∀ (i : Nat) (x : RI), ρ[i]? = some x → (ρ ++ [r])[i]? = some x := fun i x hx => (getElem?_snoc _ _ _ _).2 (.inl hx)
  have hlast : (ρ ++ [r])[h.length]? = some r := (getElem?_snoc _ _ _ _).2 (.inr ⟨hh.len.symm, rfl⟩)
  have hmono : ∀ {x : AV} {u : Value}, VR w Z ρ x u → VR w Z (ρ ++ [r]) x u := fun hv => hv.mono (fun _ _ => rfl) (fun _ h => h) hr'
  have hget : ∀ (b' : Nat) (B' : Blk), (h.set b none ++ [some B])[b']? = some (some B') → (b' ≠ b ∧ b' < h.length ∧ h[b']? = some (some B')) ∨ (b' = h.length ∧ B' = B) := fun b' B' hB' => by
    rcases (getElem?_snoc _ _ _ _).1 hB' with hB' | ⟨e1, e2⟩
    · rw [List.getElem?_set] at hB'
      split at hB'
      · split at hB' <;> cases hB'
      · next hne => exact .inl ⟨fun e => hne e.symm, (List.getElem?_eq_some_iff.1 hB').1, hB'⟩
    · rw [List.length_set] at e1
      exact .inr ⟨e1, Option.some.inj e2⟩
  -- where a block of the new list lies in the old one
  have hback : ∀ (b' : Nat) (B' : Blk) (x : RI), (h.set b none ++ [some B])[b']? = some (some B') → (ρ ++ [r])[b']? = some x → ∃ b'', h[b'']? = some (some B') ∧ ρ[b'']? = some x ∧ (b'' = b ↔ b' = h.length) ∧ (b'' ≠ b → b'' = b') := fun b' B' x hB' hx => by
    rcases hget b' B' hB' with ⟨h1, h2, h3⟩ | ⟨rfl, rfl⟩
    · rcases (getElem?_snoc _ _ _ _).1 hx with hx | ⟨e, _⟩
      · exact ⟨b', h3, hx, ⟨fun e => absurd e h1, fun e => by omega⟩, fun _ => rfl⟩
      · have := hh.len; omega
    · rw [hlast] at hx
      injection hx with hx
      subst hx
      exact ⟨b, hB, hr, ⟨fun _ => rfl, fun _ => rfl⟩, fun h => absurd rfl h⟩
  refine ⟨⟨by simp [hh.len], fun b' B' hB' => ?_, fun b1 b2 B1 B2 r1 r2 h1 f1 h2 f2 g1 g2 e => ?_, hh.zlt⟩, ⟨rfl, rfl, rfl, Nat.le_refl _, fun _ _ _ => rfl, fun c hc => ?_, fun _ h => h, fun _ h => .inl h, hr'⟩, hlast⟩
  · have hx : ∃ x, (ρ ++ [r])[b']? = some x := by
      have : b' < (ρ ++ [r]).length := by have := (List.getElem?_eq_some_iff.1 hB').1; simp [hh.len] at *; omega
      exact ⟨_, List.getElem?_eq_getElem this⟩
    obtain ⟨x, hx⟩ := hx
    obtain ⟨b'', k1, k2, _, _⟩ := hback b' B' x hB' hx
    obtain ⟨r', arr', us', g1, g2, g3, g4, g5, g6, g7, g8, g9, g10⟩ := hh.blk b'' B' k1
    rw [k2] at g1
    injection g1 with g1
    subst g1
    exact ⟨x, arr', us', hx, g2, g3, g4, g5, g6, g7, g8, ⟨g9.len, fun i x u hx hu' => hmono (g9.at_ i x u hx hu')⟩, g10⟩
  · obtain ⟨c1, k1, k2, k3, k4⟩ := hback b1 B1 r1 h1 g1
    obtain ⟨c2, q1, q2, q3, q4⟩ := hback b2 B2 r2 h2 g2
    have hcc := hh.inj c1 c2 B1 B2 r1 r2 k1 f1 q1 f2 k2 q2 e
    subst hcc
    by_cases hb : c1 = b
    · rw [k3.1 hb, q3.1 hb]
    · rw [← k4 hb, ← q4 hb]
  · obtain ⟨b', B', x, h1, h2, h3, rfl⟩ := hc
    obtain ⟨b'', k1, k2, _, _⟩ := hback b' B' x h1 h3
    exact .inl ⟨b'', B', x, k1, h2, k2, rfl⟩
end newblock
end Go.Proofs.YthofgamegondnaaDoor

namespace Go.Proofs.YthofgamegondnaaDoor
open Go.RowKit

def okB (bs : List UInt8) : Bool := Nat.ble bs.length maxLen
def av1 : Value → Option AV
  | .string s => if okB s.data.toList then some (.st s.data.toList) else none
  | .slice none 0 0 => some .e0
  | .slice _ _ _ => none
  | .tuple _ => none
  | .agg _ => none
  | .func _ _ _ => none
  | x => some (.v x)
def avL : List Value → Option (List AV)
  | [] => some []
  | x :: l => match av1 x, avL l with
    | some y, some r => some (y :: r)
    | _, _ => none
def avOf : Value → Option AV
  | .agg cs => (avL cs.toList).map .ag
  | x => av1 x

def wr (k : IntKind) (n : Int) : Int :=
  match k with
  | .i64 => if -9223372036854775808 ≤ n ∧ n ≤ 9223372036854775807 then n else IntKind.i64.wrap n
  | k => k.wrap n
theorem wr_eq (k : IntKind) (n : Int) : wr k n = k.wrap n := by
  cases k <;> try rfl
  show (if _ then n else IntKind.i64.wrap n) = _
  split
  · next h => exact (w64_in h.1 h.2).symm
  · rfl

def intBin (op : BinOp) (k : IntKind) (a b : Int) : Option Value :=
  match op with
  | .add => some (.int k (wr k (a + b)))
  | .sub => some (.int k (wr k (a - b)))
  | .mul => some (.int k (wr k (a * b)))
  | .quo => if b = 0 then none else some (.int k (wr k (a.tdiv b)))
  | .rem => if b = 0 then none else some (.int k (a.tmod b))
  | .and => some (.int k (k.wrap (BitVec.ofInt k.bits a &&& BitVec.ofInt k.bits b).toNat))
  | .or => some (.int k (k.wrap (BitVec.ofInt k.bits a ||| BitVec.ofInt k.bits b).toNat))
  | .xor => some (.int k (k.wrap (BitVec.ofInt k.bits a ^^^ BitVec.ofInt k.bits b).toNat))
  | .eql => some (.bool (a == b))
  | .neq => some (.bool (a != b))
  | .lss => some (.bool (decide (a < b)))
  | .leq => some (.bool (decide (a ≤ b)))
  | .gtr => some (.bool (decide (a > b)))
  | .geq => some (.bool (decide (a ≥ b)))
  | _ => none
def shiftBin (op : BinOp) (k : IntKind) (a b : Int) : Option Value :=
  if b < 0 then none else
  match op with
  | .shl => some (.int k (wr k (a * 2 ^ min b.toNat k.bits)))
  | .shr => some (.int k (a.fdiv (2 ^ min b.toNat k.bits)))
  | _ => none
def isShift : BinOp → Bool
  | .shl => true
  | .shr => true
  | _ => false
def strBin (op : BinOp) (a b : List UInt8) : Option AV :=
  match op with
  | .add => if okB (a ++ b) then some (.st (a ++ b)) else none
  | .eql => some (.v (.bool (a == b)))
  | .neq => some (.v (.bool (!(a == b))))
  | .lss => some (.v (.bool (Op.bytesLess a b)))
  | .leq => some (.v (.bool (Op.bytesLess a b || a == b)))
  | .gtr => some (.v (.bool (!(Op.bytesLess a b || a == b))))
  | .geq => some (.v (.bool (!Op.bytesLess a b)))
  | _ => none
def evBin (op : BinOp) (x y : AV) : Option AV :=
  match x, y with
  | .v (.int k a), .v (.int k' b) => if isShift op then (shiftBin op k a b).map .v else if k = k' then (intBin op k a b).map .v else none
  | .st a, .st b => strBin op a b
  | _, _ => none
/-- == and != of bools and of pointers. -/
def isPtr (P : Program) (t : TypeId) : Bool :=
  match P.underlying t with
  | some (.pointer e) => (P.info? e).isSome
  | _ => false
def eqV (op : BinOp) (b : Bool) : Option AV :=
  match op with
  | .eql => some (.v (.bool b))
  | .neq => some (.v (.bool (!b)))
  | _ => none
def evEq (P : Program) (op : BinOp) (t : TypeId) (x y : AV) : Option AV :=
  match x, y with
  | .v (.bool a), .v (.bool b) => match P.underlying t with
    | some .bool => eqV op (a == b)
    | _ => none
  | .pt b i o, .pt b' i' o' => if b = b' ∧ i = i' ∧ o = o' ∧ isPtr P t = true then eqV op true else none
  | .v (.pointer none), .v (.pointer none) => if isPtr P t = true then eqV op true else none
  | .v (.pointer none), .pt _ _ _ => if isPtr P t = true then eqV op false else none
  | .pt _ _ _, .v (.pointer none) => if isPtr P t = true then eqV op false else none
  | _, _ => none
def evUn (op : UnOp) (x : AV) : Option AV :=
  match op, x with
  | .not, .v (.bool b) => some (.v (.bool (!b)))
  | .neg, .v (.int k n) => some (.v (.int k (wr k (0 - n))))
  | _, _ => none

def tySize (P : Program) (t : TypeId) : Option Nat := (P.info? t).map (·.size)
def aggD : TypeDesc → Bool
  | .struct _ => true
  | .array _ _ => true
  | _ => false
def tyAgg (P : Program) (t : TypeId) : Option Bool := (P.underlying t).map aggD
def tyZero (P : Program) (t : TypeId) : Option AV := ((P.info? t).bind (·.zero)).bind avOf
def tyElem (P : Program) (t : TypeId) : Option TypeId :=
  match P.underlying t with
  | some (.slice e) => some e
  | _ => none

/-- A part of what lies at an address. -/
def getE (e : AV) (off m : Nat) (agg : Bool) : Option AV :=
  if agg then (if off + m ≤ e.cel.length then some (.ag ((e.cel.drop off).take m)) else none) else e.cel[off]?
def setE (e : AV) (off : Nat) (x : AV) : Option AV :=
  if off + x.cel.length ≤ e.cel.length then some (elm (e.cel.take off ++ x.cel ++ e.cel.drop (off + x.cel.length))) else none

def evLoad (P : Program) (h : Hp) (t : TypeId) (p : AV) : Option AV :=
  match tySize P t, tyAgg P t with
  | some m, some g =>
    match p with
    | .pt b i off => match h[b]? with
      | some (some B) => match B.es[i]? with
        | some e => getE e off m g
        | none => none
      | _ => none
    | .pe x off => getE x off m g
    | _ => none
  | _, _ => none
def evStore (P : Program) (h : Hp) (t : TypeId) (p x : AV) : Option Hp :=
  match p with
  | .pt b i off => match h[b]? with
    | some (some B) =>
      if B.fz then none else
      match B.es[i]? with
      | some e =>
        if tySize P t = some x.nc ∧ x.notTp = true then (setE e off x).map fun e' => h.set b (some { B with es := B.es.set i e' }) else none
      | none => none
    | _ => none
  | _ => none
/-- A new block of one element. -/
def evBox (h : Hp) (t : TypeId) (x : AV) : Option (AV × Hp) :=
  if x.notTp then some (.pt h.length 0 0, h ++ [some ⟨x.nc, t, [x], false⟩]) else none

def intOfA : AV → Option Int
  | .v (.int _ n) => some n
  | _ => none
def evIndexAddr (P : Program) (h : Hp) (t : TypeId) (x ix : AV) : Option AV :=
  match intOfA ix with
  | none => none
  | some i =>
    if i < 0 then none else
    match P.underlying t with
    | some (.slice e) => match x with
      | .rf b lo n _ => match h[b]? with
        | some (some B) => if i.toNat < n ∧ tySize P e = some B.k then some (.pt b (lo + i.toNat) 0) else none
        | _ => none
      | .sl k xs => match xs[i.toNat]? with
        | some y => if tySize P e = some k then some (.pe y 0) else none
        | none => none
      | _ => none
    | some (.array n e) =>
      if i.toNat < n then
        match tySize P e, x with
        | some s, .pt b j off => some (.pt b j (off + i.toNat * s))
        | some s, .pe y off => some (.pe y (off + i.toNat * s))
        | _, _ => none
      else none
    | _ => none
def evFieldAddr (P : Program) (t : TypeId) (x : AV) (f : Nat) : Option AV :=
  match P.underlying t with
  | some (.struct fs) => match fs[f]? with
    | some fd => match tySize P fd.type with
      | some (_ + 1) => match x with
        | .pt b i off => some (.pt b i (off + fd.offset))
        | .pe y off => some (.pe y (off + fd.offset))
        | _ => none
      | _ => none
    | none => none
  | _ => none
def evPart (P : Program) (t : TypeId) (cs : List AV) (off : Nat) : Option AV :=
  match tySize P t, tyAgg P t with
  | some m, some g => if g then (if off + m ≤ cs.length then some (.ag ((cs.drop off).take m)) else none) else cs[off]?
  | _, _ => none
def evField (P : Program) (t : TypeId) (x : AV) (f : Nat) : Option AV :=
  match P.underlying t, x with
  | some (.struct fs), .ag cs => match fs[f]? with
    | some fd => evPart P fd.type cs fd.offset
    | none => none
  | _, _ => none
def evIndex (P : Program) (t : TypeId) (x ix : AV) : Option AV :=
  match intOfA ix with
  | none => none
  | some i =>
    if i < 0 then none else
    match P.underlying t, x with
    | some (.array n e), .ag cs => if i.toNat < n then (match tySize P e with | some s => evPart P e cs (i.toNat * s) | none => none) else none
    | some .string, .st bs => (bs[i.toNat]?).map fun b => .v (.int .u8 b.toNat)
    | _, _ => none

def natB : Option AV → Nat → Option Nat
  | none, d => some d
  | some (.v (.int _ n)), _ => if n < 0 then none else some n.toNat
  | _, _ => none
def evSlice (P : Program) (h : Hp) (t : TypeId) (x : AV) (lo hi mx : Option AV) : Option AV :=
  match P.underlying t, x with
  | some .string, .st bs =>
    match mx, natB lo 0, natB hi bs.length with
    | none, some l, some u => if l ≤ u ∧ u ≤ bs.length then some (.st ((bs.take u).drop l)) else none
    | _, _, _ => none
  | some (.slice e), .rf b o n m =>
    match h[b]? with
    | some (some B) =>
      match natB mx m, natB lo 0, natB hi n with
      | some k, some l, some u =>
        if l ≤ u ∧ u ≤ k ∧ k ≤ m ∧ (mx.isNone ∨ hi.isSome) ∧ tySize P e = some B.k then
          (if l < k then some (.rf b (o + l) (u - l) (k - l)) else if mx.isSome then some .e0 else some (.sl 1 []))
        else none
      | _, _, _ => none
    | _ => none
  | some (.slice e), .sl k xs =>
    match natB mx xs.length, natB lo 0, natB hi xs.length with
    | some q, some l, some u =>
      if l ≤ u ∧ u ≤ q ∧ q ≤ xs.length ∧ (mx.isNone ∨ hi.isSome) ∧ tySize P e = some k then
        (if mx.isSome ∧ l = q then some .e0 else some (.sl k ((xs.take u).drop l)))
      else none
    | _, _, _ => none
  | some (.slice e), .e0 =>
    match natB mx 0, natB lo 0, natB hi 0 with
    | some 0, some 0, some 0 => if (mx.isNone ∨ hi.isSome) ∧ (tySize P e).isSome = true then some .e0 else none
    | _, _, _ => none
  | _, _ => none

def evMake (P : Program) (h : Hp) (t : TypeId) (n c : AV) : Option (AV × Hp) :=
  match tyElem P t, intOfA n, intOfA c with
  | some e, some n, some c =>
    match P.info? e, tyZero P e with
    | some i, some z =>
      if n = c ∧ 0 ≤ n ∧ (i.bytes : Int) * n ≤ 140737488355328 ∧ n ≤ 140737488355328 ∧ z.nc = i.size ∧ z.notTp = true then
        some (.rf h.length 0 n.toNat n.toNat, h ++ [some ⟨i.size, e, List.replicate n.toNat z, false⟩]) else none
    | _, _ => none
  | _, _, _ => none
def fillA (es : List AV) (k : Nat) : List (Nat × AV) → Option (List AV)
  | [] => some es
  | (i, x) :: r => if i < es.length ∧ x.nc = k ∧ x.notTp = true then fillA (es.set i (elm x.cel)) k r else none
def evLit (P : Program) (h : Hp) (t : TypeId) (n : Nat) (parts : List (Nat × AV)) : Option (AV × Hp) :=
  match tyElem P t with
  | some e =>
    match P.info? e, tyZero P e with
    | some i, some z =>
      if n * i.size ≤ 65536 ∧ 0 < i.size ∧ z.nc = i.size ∧ z.notTp = true then
        match fillA (List.replicate n (elm z.cel)) i.size parts with
        | some es => some (.rf h.length 0 n n, h ++ [some ⟨i.size, e, es, false⟩])
        | none => none
      else none
    | _, _ => none
  | none => none
/-- The parts of a struct, laid at their places. -/
def fillS (P : Program) (fs : Array Field) (cs : List AV) : List (Nat × AV) → Option (List AV)
  | [] => some cs
  | (i, x) :: r => match fs[i]? with
    | some f => if tySize P f.type = some x.cel.length ∧ f.offset + x.cel.length ≤ cs.length ∧ x.notTp = true then fillS P fs (cs.take f.offset ++ x.cel ++ cs.drop (f.offset + x.cel.length)) r else none
    | none => none
def fillR (s : Nat) (cs : List AV) : List (Nat × AV) → Option (List AV)
  | [] => some cs
  | (i, x) :: r => if s = x.cel.length ∧ i * s + x.cel.length ≤ cs.length ∧ x.notTp = true then fillR s (cs.take (i * s) ++ x.cel ++ cs.drop (i * s + x.cel.length)) r else none
def sizesOk (P : Program) (fs : Array Field) : Bool := fs.all fun f => (P.info? f.type).isSome
def evBuild (P : Program) (t : TypeId) (parts : List (Nat × AV)) : Option AV :=
  match tyZero P t with
  | some (.ag z) =>
    match P.underlying t with
    | some (.struct fs) => if sizesOk P fs then (fillS P fs z parts).map .ag else none
    | some (.array _ e) => match tySize P e with
      | some s => (fillR s z parts).map .ag
      | none => none
    | _ => none
  | _ => none
def evLen (P : Program) (t : TypeId) (x : AV) : Option AV :=
  match P.underlying t, x with
  | some .string, .st bs => some (.v (.int .i64 bs.length))
  | some (.slice _), .sl _ xs => some (.v (.int .i64 xs.length))
  | some (.slice _), .rf _ _ n _ => some (.v (.int .i64 n))
  | some (.slice _), .e0 => some (.v (.int .i64 0))
  | some (.array n _), _ => some (.v (.int .i64 n))
  | _, _ => none
/-- The elements of a slice (or the bytes of a string). -/
def elems (h : Hp) (k : Nat) : AV → Option (List AV)
  | .e0 => some []
  | .sl k' xs => if xs.isEmpty || k' == k then some xs else none
  | .rf b lo n _ => match h[b]? with
    | some (some B) => if B.k = k ∧ lo + n ≤ B.es.length then some ((B.es.drop lo).take n) else none
    | _ => none
  | .st bs => if k = 1 then some (bs.map fun b => .v (.int .u8 b.toNat)) else none
  | _ => none
def srcOk (P : Program) (t : TypeId) (y : AV) : Bool :=
  match P.underlying t, y with
  | some .string, .st _ => true
  | some (.slice _), .st _ => false
  | some (.slice _), _ => true
  | _, _ => false
def evAppend (P : Program) (h : Hp) (t t2 : TypeId) (x y : AV) : Option (AV × Hp) :=
  if srcOk P t2 y = false then none else
  match tyElem P t with
  | none => none
  | some e =>
    match P.info? e, tyZero P e with
    | some i, some z =>
      match elems h i.size y with
      | none => none
      | some ys =>
        if ys.isEmpty then (match x with | .e0 => some (x, h) | .sl _ [] => some (x, h) | .rf _ _ _ _ => some (x, h) | _ => none) else
        if 0 < i.size ∧ z.nc = i.size ∧ z.notTp = true then
          match x with
          | .e0 => if ys.length * i.bytes ≤ 140737488355328 ∧ ys.length ≤ 140737488355328 then some (.rf h.length 0 ys.length ys.length, h ++ [some ⟨i.size, e, ys, false⟩]) else none
          | .rf b lo n m => match h[b]? with
            | some (some B) =>
              if B.fz = true ∨ B.k ≠ i.size ∨ B.t ≠ e then none else
              if n + ys.length ≤ m ∧ lo + n + ys.length ≤ B.es.length then
                some (.rf b lo (n + ys.length) m, h.set b (some { B with es := B.es.take (lo + n) ++ ys ++ B.es.drop (lo + n + ys.length) }))
              else if lo = 0 ∧ n = B.es.length ∧ (n + ys.length) * i.bytes ≤ 140737488355328 ∧ n + ys.length ≤ 140737488355328 then
                some (.rf h.length 0 (n + ys.length) (n + ys.length), (h.set b none) ++ [some ⟨i.size, e, B.es ++ ys, false⟩])
              else none
            | _ => none
          | _ => none
        else none
    | _, _ => none
def evCopy (P : Program) (h : Hp) (t : TypeId) (x y : AV) : Option (AV × Hp) :=
  match tyElem P t with
  | none => none
  | some e =>
    match tySize P e with
    | none => none
    | some k =>
      match elems h k y with
      | none => none
      | some ys =>
        match x with
        | .rf b lo n _ => match h[b]? with
          | some (some B) =>
            if B.fz = true ∨ B.k ≠ k ∨ ¬ (lo + n ≤ B.es.length) then none else
            some (.v (.int .i64 (min ys.length n : Nat)), h.set b (some { B with es := B.es.take lo ++ ys.take (min ys.length n) ++ B.es.drop (lo + min ys.length n) }))
          | _ => none
        | .e0 => some (.v (.int .i64 0), h)
        | .sl _ [] => some (.v (.int .i64 0), h)
        | _ => none
def evConv (P : Program) (a b : TypeId) (x : AV) : Option AV :=
  match P.underlying a, P.underlying b, x with
  | some _, some (.int k), .v (.int _ n) => some (.v (.int k (wr k n)))
  | some .string, some .string, .st s => some (.st s)
  | _, _, _ => none
def evMinMax (isMax : Bool) : List AV → Option AV
  | [.v (.int k a), .v (.int _ b)] => some (.v (.int k (if isMax then (if b > a then b else a) else (if b < a then b else a))))
  | _ => none

/-- Arguments. -/
def opds (ρ : Operand → Option AV) : List Operand → Option (List AV)
  | [] => some []
  | x :: l => match ρ x, opds ρ l with
    | some y, some r => some (y :: r)
    | _, _ => none
def opdo (ρ : Operand → Option AV) : Option Operand → Option (Option AV)
  | none => some none
  | some x => (ρ x).map some
def partsOf (ρ : Operand → Option AV) : List (Nat × Operand) → Option (List (Nat × AV))
  | [] => some []
  | (i, x) :: l => match ρ x, partsOf ρ l with
    | some y, some r => some ((i, y) :: r)
    | _, _ => none

/-- Operations that only read: what they hand back. -/
def evOpQ (P : Program) (ρ : Operand → Option AV) (h : Hp) (o : Op) : Option AV :=
  match o with
  | .move x => ρ x
  | .assign x => ρ x
  | .pick c a b => match ρ c with
    | some (.v (.bool true)) => ρ a
    | some (.v (.bool false)) => ρ b
    | _ => none
  | .load t a => match ρ a with
    | some p => evLoad P h t p
    | none => none
  | .nilCheck x => match ρ x with
    | some (.pt b i off) => some (.pt b i off)
    | some (.pe y off) => some (.pe y off)
    | some (.fn f a b) => some (.fn f a b)
    | _ => none
  | .binOp op t x y _ => match ρ x, ρ y with
    | some x, some y => match evBin op x y with
      | some z => some z
      | none => evEq P op t x y
    | _, _ => none
  | .unOp op _ x => match ρ x with
    | some x => evUn op x
    | none => none
  | .convert a b x => match ρ x with
    | some x => evConv P a b x
    | none => none
  | .makeFunc (.func f) p q => match opds ρ p.toList, opds ρ q.toList with
    | some p, some q => some (.fn f p q)
    | _, _ => none
  | .slice t x lo hi mx => match ρ x, opdo ρ lo, opdo ρ hi, opdo ρ mx with
    | some x, some lo, some hi, some mx => evSlice P h t x lo hi mx
    | _, _, _, _ => none
  | .fieldAddr t x f => match ρ x with
    | some x => evFieldAddr P t x f
    | none => none
  | .field t x f => match ρ x with
    | some x => evField P t x f
    | none => none
  | .indexAddr t x i => match ρ x, ρ i with
    | some x, some i => evIndexAddr P h t x i
    | _, _ => none
  | .index t x i => match ρ x, ρ i with
    | some x, some i => evIndex P t x i
    | _, _ => none
  | .extract x i => match ρ x with
    | some (.tp vs) => vs[i]?
    | _ => none
  | .call ⟨.builtin .len, args, tys⟩ => match opds ρ args.toList, tys.toList with
    | some [x], [t] => evLen P t x
    | _, _ => none
  | .call ⟨.builtin .min, args, _⟩ => match opds ρ args.toList with
    | some xs => evMinMax false xs
    | none => none
  | .call ⟨.builtin .max, args, _⟩ => match opds ρ args.toList with
    | some xs => evMinMax true xs
    | none => none
  | .build t ps => match partsOf ρ ps.toList with
    | some ps => evBuild P t ps
    | none => none
  | .call ⟨.builtin .unsafeSliceData, args, _⟩ => match opds ρ args.toList with
    | some [.rf b lo _ (_ + 1)] => some (.pt b lo 0)
    | _ => none
  | _ => none
/-- Operations that make blocks. -/
def evOpN (P : Program) (ρ : Operand → Option AV) (h : Hp) (o : Op) : Option (AV × Hp) :=
  match o with
  | .alloc t => match tyZero P t with
    | some z => evBox h t z
    | none => none
  | .box t x => match ρ x with
    | some x => evBox h t x
    | none => none
  | .buildSlice t n ps => match partsOf ρ ps.toList with
    | some ps => evLit P h t n ps
    | none => none
  | .makeSlice t n c => match ρ n, ρ c with
    | some n, some c => evMake P h t n c
    | _, _ => none
  | _ => none
/-- Bytes as elements. -/
def bytesA : List AV → Option (List UInt8)
  | [] => some []
  | .v (.int .u8 n) :: r => if 0 ≤ n ∧ n < 256 then (bytesA r).map fun l => n.toNat.toUInt8 :: l else none
  | _ => none
/-- The bytes of a block that is not written any more, as a string. -/
def evUStr (P : Program) (h : Hp) (t : TypeId) (x n : AV) : Option (AV × Hp) :=
  match P.underlying t, x, n with
  | some (.pointer e), .pt b 0 0, .v (.int .i64 n) => match h[b]? with
    | some (some B) => if B.fz = false ∧ B.k = 1 ∧ B.t = e ∧ P.cellsOf e = 1 ∧ 0 < n ∧ n.toNat ≤ B.es.length then
        (match bytesA (B.es.take n.toNat) with
        | some bs => if okB bs then some (.st bs, h.set b none) else none
        | none => none)
      else none
    | _ => none
  | _, _, _ => none
/-- A pointer seen as another, where it stays what it is. -/
def evConvP (P : Program) (h : Hp) (a b : TypeId) (x : AV) : Option AV :=
  match P.underlying a, P.underlying b, x with
  | some (.pointer t), some .unsafePointer, .pt c i off => match h[c]? with
    | some (some B) => if i < B.es.length ∧ off < B.k ∧ (tySize P t).isSome = true ∧ tySize P t ≠ some 0 then some x else none
    | _ => none
  | some .unsafePointer, some (.pointer u), .pt c 0 0 => match h[c]? with
    | some (some B) => if 0 < B.es.length ∧ 0 < B.k ∧ B.t = u ∧ P.cellsOf u = B.k ∧ (P.info? u).isSome = true then some x else none
    | _ => none
  | _, _, _ => none
/-- Other operations: I: functions of the library that hand back what they get. -/
def evOpX (P : Program) (I : FuncId → Bool) (ρ : Operand → Option AV) (h : Hp) (o : Op) : Option AV :=
  match o with
  | .convert a b x => match ρ x with
    | some x => evConvP P h a b x
    | none => none
  | .call ⟨.value f, args, _⟩ => match ρ f, opds ρ args.toList with
    | some (.fn g [] []), some [x] => if I g then some x else none
    | _, _ => none
  | _ => none
/-- Operations that write. -/
def evOpW (P : Program) (ρ : Operand → Option AV) (h : Hp) (o : Op) : Option (AV × Hp) :=
  match o with
  | .call ⟨.builtin .append, args, tys⟩ => match opds ρ args.toList, tys.toList with
    | some [x, y], [t, t2] => evAppend P h t t2 x y
    | _, _ => none
  | .call ⟨.builtin .copy, args, tys⟩ => match opds ρ args.toList, tys.toList with
    | some [x, y], [t, t2] => if srcOk P t2 y then evCopy P h t x y else none
    | _, _ => none
  | .call ⟨.builtin .unsafeString, args, tys⟩ => match opds ρ args.toList, tys.toList with
    | some [x, n], [t, _] => evUStr P h t x n
    | _, _ => none
  | _ => none
end Go.Proofs.YthofgamegondnaaDoor

namespace Go.Proofs.YthofgamegondnaaDoor
open Go.RowKit

/-- What lies in w lies in w' as well. -/
structure Same (w w' : World) : Prop where
  size : w.heap.size ≤ w'.heap.size
  block : ∀ c, c < w.heap.size → w'.heap[c]? = w.heap[c]?
theorem Same.refl (w : World) : Same w w := ⟨Nat.le_refl _, fun _ _ => rfl⟩
theorem Same.cell {w w' : World} (s : Same w w') {a : Addr} {u : Value} (h : w.cell? a = some u) : w'.cell? a = some u :=
  (World.cell?_of_block (s.block _ (World.block_lt_of_cell? w a h))).trans h
theorem Same.of_grown {w w' : World} (h : w.grownBy w' none) : Same w w' := ⟨h.size, fun c hc => h.block c hc (by simp)⟩

def isLd : Op → Bool
  | .load _ _ => true
  | _ => false
/-- The operation hands back a value that x tells, in every world (a load: in every world that holds what w holds). -/
def Qt (P : Program) (w : World) (Z : Nat → Prop) (R : List RI) (x : AV) (ve : Operand → Value) (o : Oper) : Prop :=
  ∃ u, VR w Z R x u ∧ ∀ w', (isLd o.op = true → Same w w') → (execOp ve o).run P w' = .ok (.value u) w'

section
variable {P : Program} {w : World} {Z : Nat → Prop} {R : List RI} {h : Hp} {ρ : Operand → Option AV} {ve : Operand → Value} {o : Oper} {x : AV}

theorem av1_vr {u : Value} (e : av1 u = some x) : VR w Z R x u := by
  unfold av1 at e
  split at e <;> first
    | (cases e; done)
    | (split at e
       · next hb => injection e with e; subst e; exact .st rfl (Nat.le_of_ble_eq_true hb)
       · cases e)
    | (injection e with e; subst e; first | exact .e0 | (refine .v ?_; cases u <;> first | rfl | (simp at *)))
theorem avL_vr : ∀ {us : List Value} {xs : List AV}, avL us = some xs → VRs w Z R xs us ∧ us.all Value.oneCell' = true
  | [], xs, e => by injection e with e; subst e; exact ⟨.nil, rfl⟩
  | u :: us, xs, e => by
    unfold avL at e
    split at e
    · next y r h1 h2 =>
      injection e with e
      subst e
      obtain ⟨h3, h4⟩ := avL_vr h2
      refine ⟨.cons (av1_vr h1) h3, ?_⟩
      have : u.oneCell' = true := by unfold av1 at h1; split at h1 <;> first | rfl | (cases h1; done) | (cases u <;> first | rfl | (simp at *))
      simp [this, h4]
    · cases e
theorem avOf_vr {u : Value} (e : avOf u = some x) : VR w Z R x u ∧ x.notTp = true := by
  unfold avOf at e
  split at e
  · next cs =>
    obtain ⟨xs, h1, rfl⟩ := Option.map_eq_some_iff.1 e
    obtain ⟨h2, h3⟩ := avL_vr (w := w) (Z := Z) (R := R) h1
    refine ⟨?_, rfl⟩
    have := VR.ag h2.len h3 h2.at_
    simpa using this
  · refine ⟨av1_vr e, ?_⟩
    unfold av1 at e
    split at e <;> first
      | (cases e; done)
      | (split at e
         · injection e with e; subst e; rfl
         · cases e)
      | (injection e with e; subst e; rfl)

theorem opds_vr (hρ : ∀ o x, ρ o = some x → VR w Z R x (ve o)) : ∀ {l : List Operand} {xs : List AV}, opds ρ l = some xs → VRs w Z R xs (l.map ve)
  | [], xs, e => by injection e with e; subst e; exact .nil
  | a :: l, xs, e => by
    unfold opds at e
    split at e
    · next y r h1 h2 => injection e with e; subst e; exact .cons (hρ _ _ h1) (opds_vr hρ h2)
    · cases e

theorem run_size' {t : TypeId} {m : Nat} (ht : tySize P t = some m) (w : World) : (sizeOf t).run P w = .ok m w := by
  obtain ⟨i, hi, hs⟩ := Option.map_eq_some_iff.1 ht
  simp [sizeOf, typeInfo, hi, hs]
theorem run_agg' {t : TypeId} {g : Bool} (ht : tyAgg P t = some g) (w : World) : (isAgg t).run P w = .ok g w := by
  obtain ⟨d, hd, hg⟩ := Option.map_eq_some_iff.1 ht
  unfold isAgg
  rw [Sem.run_bind, run_underlying hd w]
  subst hg
  cases d <;> rfl
theorem run_zero' {t : TypeId} {z : AV} (ht : tyZero P t = some z) : ∃ u, VR w Z R z u ∧ z.notTp = true ∧ (∀ w, (zeroValue t).run P w = .ok u w) ∧ ∃ i, P.info? t = some i ∧ i.zero = some u := by
  obtain ⟨u, hu, hz⟩ := Option.bind_eq_some_iff.1 ht
  obtain ⟨i, hi, hz'⟩ := Option.bind_eq_some_iff.1 hu
  obtain ⟨h1, h2⟩ := avOf_vr (w := w) (Z := Z) (R := R) hz
  exact ⟨u, h1, h2, fun w => by simp [zeroValue, typeInfo, hi, hz'], i, hi, hz'⟩

/-- Reading a variable whose cells are known. -/
theorem run_loadVar' {t : TypeId} {m : Nat} {g : Bool} (ht : tySize P t = some m) (hg : tyAgg P t = some g) {e y : AV} {u : Value} {a : Addr} {off : Nat} (hv : VR w Z R e u) (h1 : ∀ q ∈ u.cells, q.oneCell' = true) (he : getE e off m g = some y)
    (hc : ∀ (j : Nat) (q : Value), u.cells[j]? = some q → w.cell? ⟨a.block, a.off + j, none⟩ = some q) :
    ∃ v, VR w Z R y v ∧ ∀ w', Same w w' → (loadVar t ⟨a.block, a.off + off, none⟩).run P w' = .ok v w' := by
  obtain ⟨hsz, hcs⟩ := hv.cells
  unfold getE at he
  split at he
  · next hg' =>
    subst hg'
    split at he
    · next hle =>
      injection he with he
      subst he
      have hvs := (hcs.drop off).take m
      have hl : ((u.cells.toList.drop off).take m).length = m := by rw [hvs.len, List.length_take, List.length_drop]; omega
      refine ⟨.agg ((u.cells.toList.drop off).take m).toArray, .ag hvs.len (List.all_eq_true.2 fun q hq => h1 q (by have := List.mem_of_mem_drop (List.mem_of_mem_take hq); simpa using this)) hvs.at_, fun w' s => ?_⟩
      unfold loadVar
      rw [Sem.run_bind, run_agg' hg]
      have hlc := run_loadCells_list (P := P) w' ⟨a.block, a.off + off, none⟩ ((u.cells.toList.drop off).take m) (fun j q hq => by
        rw [List.getElem?_take] at hq
        split at hq
        · rw [List.getElem?_drop] at hq
          have hq' : u.cells[off + j]? = some q := by simpa using hq
          have := s.cell (hc _ _ hq')
          have e : (⟨a.block, a.off + off, none⟩ : Addr).add j = ⟨a.block, a.off + (off + j), none⟩ := by unfold Addr.add; split <;> simp_all [Nat.add_assoc]
          rw [e]; exact this
        · cases hq)
      rw [hl] at hlc
      simp [run_size' ht, hlc]
    · cases he
  · next hg' =>
    have hgf : g = false := by simpa using hg'
    subst hgf
    obtain ⟨v, hv1, hv2⟩ := hcs.get he
    have hv1' : u.cells[off]? = some v := by simpa using hv1
    refine ⟨v, hv2, fun w' s => ?_⟩
    unfold loadVar
    rw [Sem.run_bind, run_agg' hg]
    simp [s.cell (hc _ _ hv1')]

theorem evLoad_sound (hh : HR w Z R h) (hρ : ∀ o x, ρ o = some x → VR w Z R x (ve o)) {t : TypeId} {a : Operand} {p : AV} (hp : ρ a = some p) (ho : o.op = .load t a) (e : evLoad P h t p = some x) : Qt P w Z R x ve o := by
  unfold evLoad at e
  split at e
  · next m g hm hg =>
    have hv := hρ _ _ hp
    split at e
    · next b i off =>
      split at e
      · next B hB =>
        split at e
        · next el hel =>
          obtain ⟨r, arr, us, h1, h2, h3, h4, h5, h6, h7, h8, h9, h10⟩ := hh.blk b B hB
          obtain ⟨u, hu1, hu2⟩ := h9.get hel
          obtain ⟨g1, g2, g3⟩ := h10 _ _ hu1
          generalize hva : ve a = va at hv
          cases hv with
          | pt hr =>
            rw [h1] at hr
            injection hr with hr
            subst hr
            obtain ⟨v, k1, k2⟩ := run_loadVar' (w := w) (Z := Z) (R := R) (a := ⟨r.c, i * r.k, none⟩) hm hg hu2 g2 e (fun j q hq => by
              have := g3 j q hq
              rw [← h2] at this
              simp [World.cell?, h3, this])
            exact ⟨v, k1, fun w' s => by simp [execOp, ho, hva, Instr.loadAt, Instr.sureAddr, k2 w' (s (by rw [ho]; rfl))]⟩
        · cases e
      · cases e
    · next y off =>
      generalize hva : ve a = va at hv
      cases hv with
      | pe hs hz h1 hu hx =>
        rename_i a' u
        obtain ⟨v, k1, k2⟩ := run_loadVar' (w := w) (Z := Z) (R := []) (a := a') hm hg hx h1 e hu
        exact ⟨v, k1.up, fun w' s => by simp [execOp, ho, hva, Instr.loadAt, Instr.sureAddr, k2 w' (s (by rw [ho]; rfl))]⟩
    · cases e
  · cases e
end
end Go.Proofs.YthofgamegondnaaDoor

namespace Go.Proofs.YthofgamegondnaaDoor
open Go.RowKit

section
variable {P : Program} {w : World} {Z : Nat → Prop} {R : List RI} {h : Hp} {ρ : Operand → Option AV} {ve : Operand → Value} {o : Oper} {x : AV}

theorem VR.v_inv {y : Value} {u : Value} (hv : VR w Z R (.v y) u) : u = y := by cases hv; rfl
theorem VR.st_inv {bs : List UInt8} {u : Value} (hv : VR w Z R (.st bs) u) : ∃ s : ByteArray, u = .string s ∧ s.data.toList = bs ∧ bs.length ≤ maxLen := by
  cases hv with
  | st h hn => exact ⟨_, rfl, h, hn⟩

theorem toList_data' (s : ByteArray) : s.toList = s.data.toList := ByteArray.toList_eq s

theorem run_eqGuard_int {op : BinOp} {t : TypeId} {x y : Operand} {k k' : IntKind} {a b : Int} : (eqGuard op t x y (.int k a) (.int k' b)) = pure () := by
  unfold eqGuard; cases op <;> rfl
theorem run_eqGuard_str {op : BinOp} {t : TypeId} {x y : Operand} {a b : ByteArray} : (eqGuard op t x y (.string a) (.string b)) = pure () := by
  unfold eqGuard; cases op <;> rfl

theorem intBin_run {op : BinOp} {t : TypeId} {k : IntKind} {a b : Int} {u : Value} (hs : isShift op = false) (e : intBin op k a b = some u) (w : World) : (binOp op t (.int k a) (.int k b)).run P w = .ok u w ∧ u.oneCell' = true := by
  unfold intBin at e
  cases op <;> simp only [isShift] at hs <;> simp only at e <;> first
    | (cases e; done)
    | (injection e with e; subst e; refine ⟨?_, rfl⟩; simp [binOp, Op.intArith, Op.intCmp, Op.intBits, wr_eq]; done)
    | (split at e
       · cases e
       · next hb => injection e with e; subst e; refine ⟨?_, rfl⟩; simp [binOp, Op.intDiv, hb, wr_eq])
theorem shiftBin_run {op : BinOp} {t : TypeId} {k k' : IntKind} {a b : Int} {u : Value} (e : shiftBin op k a b = some u) (w : World) : (binOp op t (.int k a) (.int k' b)).run P w = .ok u w ∧ u.oneCell' = true := by
  unfold shiftBin at e
  split at e
  · cases e
  · next hb =>
    cases op <;> simp only at e <;> first
      | (cases e; done)
      | (injection e with e; subst e; refine ⟨?_, rfl⟩; simp [binOp, Op.shift, hb, wr_eq])
theorem strBin_run {op : BinOp} {t : TypeId} {a b : List UInt8} {sa sb : ByteArray} (ha : sa.data.toList = a) (hb : sb.data.toList = b) (e : strBin op a b = some x) : ∃ u, VR w Z R x u ∧ ∀ w', (binOp op t (.string sa) (.string sb)).run P w' = .ok u w' := by
  subst ha hb
  unfold strBin at e
  cases op <;> simp only at e <;> first
    | (cases e; done)
    | (injection e with e; subst e; exact ⟨_, .v rfl, fun w' => by simp [binOp, Op.stringOp, toList_data']⟩)
    | (split at e
       · next hk =>
         injection e with e
         subst e
         have h1 := Nat.le_of_ble_eq_true hk
         have h2 : (sa ++ sb).data.toList = sa.data.toList ++ sb.data.toList := by simp
         refine ⟨.string (sa ++ sb), .st h2 h1, fun w' => ?_⟩
         have h3 : sa.size + sb.size ≤ maxLen := by
           have e1 : sa.data.toList.length = sa.size := Array.length_toList
           have e2 : sb.data.toList.length = sb.size := Array.length_toList
           rw [List.length_append] at h1; omega
         unfold maxLen at h3
         have h4 : ¬ (((sa.size + sb.size : Nat) : Int) > IntKind.i64.max) := by
           show ¬ (_ > (9223372036854775807 : Int)); omega
         show (Op.stringOp .add sa sb).run P w' = _
         unfold Op.stringOp
         simp only
         rw [if_neg h4]
         rfl
       · cases e)

theorem evBin_sound (hρ : ∀ o x, ρ o = some x → VR w Z R x (ve o)) {op : BinOp} {t t' : TypeId} {p q : Operand} {y z : AV} (hp : ρ p = some y) (hq : ρ q = some z) (ho : o.op = .binOp op t p q t') (e : evBin op y z = some x) : Qt P w Z R x ve o := by
  have hv := hρ _ _ hp
  have hv' := hρ _ _ hq
  unfold evBin at e
  split at e
  · next k a k' b =>
    have e1 := hv.v_inv
    have e2 := hv'.v_inv
    split at e
    · obtain ⟨u, hu, rfl⟩ := Option.map_eq_some_iff.1 e
      exact ⟨u, .v (shiftBin_run (P := P) (t := t) (k' := k') hu w).2, fun w' _ => by
        simp only [execOp, ho, e1, e2, run_eqGuard_int]
        simp [(shiftBin_run (P := P) (t := t) (k' := k') hu w').1]⟩
    · next hs =>
      split at e
      · next hk =>
        subst hk
        obtain ⟨u, hu, rfl⟩ := Option.map_eq_some_iff.1 e
        have hs' : isShift op = false := by simpa using hs
        exact ⟨u, .v (intBin_run (P := P) (t := t) hs' hu w).2, fun w' _ => by
          simp only [execOp, ho, e1, e2, run_eqGuard_int]
          simp [(intBin_run (P := P) (t := t) hs' hu w').1]⟩
      · cases e
  · next a b =>
    obtain ⟨sa, e1, h1, _⟩ := hv.st_inv
    obtain ⟨sb, e2, h2, _⟩ := hv'.st_inv
    obtain ⟨u, k1, k2⟩ := strBin_run (P := P) (w := w) (Z := Z) (R := R) (t := t) h1 h2 e
    exact ⟨u, k1, fun w' _ => by
      simp only [execOp, ho, e1, e2, run_eqGuard_str]
      simp [k2 w']⟩
  · cases e

theorem eqV_run {op : BinOp} {t t' : TypeId} {p q : Operand} {b : Bool} {va vb : Value} (hg : eqGuard op t p q va vb = pure ()) (hop : op = .eql ∨ op = .neq → ∀ w', (binOp op t va vb).run P w' = .ok (.bool (if op = .eql then b else !b)) w') (hva : ve p = va) (hvb : ve q = vb)
    (ho : o.op = .binOp op t p q t') (e : eqV op b = some x) : Qt P w Z R x ve o := by
  cases op <;> simp only [eqV] at e <;> first
    | (cases e; done)
    | (injection e with e; subst e
       refine ⟨.bool _, .v rfl, fun w' _ => ?_⟩
       simp only [execOp, ho, hva, hvb, hg]
       have := hop (by simp) w'
       simp at this
       simp [this])
theorem eq_run_bool {op : BinOp} {t : TypeId} {va vb b : Bool} (hop : op = .eql ∨ op = .neq) (h : ∀ d w', (Op.equalIn (d + 1) t (.bool va) (.bool vb)).run P w' = .ok b w') (w' : World) :
    (binOp op t (.bool va) (.bool vb)).run P w' = .ok (.bool (if op = .eql then b else !b)) w' := by
  have h1 : (Op.equal t (.bool va) (.bool vb)).run P w' = .ok b w' := h 9999 w'
  rcases hop with rfl | rfl <;> simp [binOp, h1]
theorem eq_run_ptr {op : BinOp} {t : TypeId} {va vb : Option Addr} {b : Bool} (hop : op = .eql ∨ op = .neq) (h : ∀ d w', (Op.equalIn (d + 1) t (.pointer va) (.pointer vb)).run P w' = .ok b w') (w' : World) :
    (binOp op t (.pointer va) (.pointer vb)).run P w' = .ok (.bool (if op = .eql then b else !b)) w' := by
  have h1 : (Op.equal t (.pointer va) (.pointer vb)).run P w' = .ok b w' := h 9999 w'
  rcases hop with rfl | rfl <;> simp [binOp, h1]
theorem evEq_sound (hρ : ∀ o x, ρ o = some x → VR w Z R x (ve o)) {op : BinOp} {t t' : TypeId} {p q : Operand} {y z : AV} (hp : ρ p = some y) (hq : ρ q = some z) (ho : o.op = .binOp op t p q t') (e : evEq P op t y z = some x) : Qt P w Z R x ve o := by
  have hv := hρ _ _ hp
  have hv' := hρ _ _ hq
  have ptr : isPtr P t = true → ∃ te j, P.underlying t = some (.pointer te) ∧ P.info? te = some j := fun h => by
    unfold isPtr at h
    split at h
    · next te hte => obtain ⟨j, hj⟩ := Option.isSome_iff_exists.1 h; exact ⟨te, j, hte, hj⟩
    · cases h
  have pn : ∀ {a b : Option Addr} {r : Bool}, (∀ te j, P.underlying t = some (.pointer te) → P.info? te = some j → ∀ d w', (Op.equalIn (d + 1) t (.pointer a) (.pointer b)).run P w' = .ok r w') → ve p = .pointer a → ve q = .pointer b → isPtr P t = true → eqV op r = some x → Qt P w Z R x ve o := fun {a b r} hrun h1 h2 h3 h4 => by
    obtain ⟨te, j, k1, k2⟩ := ptr h3
    exact eqV_run (va := .pointer a) (vb := .pointer b) (by simp [eqGuard]) (fun hop => eq_run_ptr hop (hrun te j k1 k2)) h1 h2 ho h4
  unfold evEq at e
  split at e
  · next a b =>
    have e1 := hv.v_inv
    have e2 := hv'.v_inv
    split at e
    · next hb =>
      exact eqV_run (va := .bool a) (vb := .bool b) (by simp [eqGuard]) (fun hop => eq_run_bool hop (fun d w' => run_equalIn_bool' (P := P) (w := w') d t a b hb)) e1 e2 ho e
    · cases e
  · next b i f b' i' f' =>
    split at e
    · next hc =>
      obtain ⟨rfl, rfl, rfl, hc⟩ := hc
      generalize hva : ve p = va at hv
      generalize hvb : ve q = vb at hv'
      cases hv with
      | pt hr =>
        cases hv' with
        | pt hr' =>
          rw [hr] at hr'
          injection hr' with hr'
          subst hr'
          exact pn (fun te j k1 k2 d w' => by simp [Op.equalIn, run_underlying k1, sizeOf, typeInfo, k2, run_sameAddr_same]) hva hvb hc e
    · cases e
  · split at e
    · next hc => exact pn (fun te j k1 k2 d w' => by simp [Op.equalIn, run_underlying k1, sizeOf, typeInfo, k2]) hv.v_inv hv'.v_inv hc e
    · cases e
  · split at e
    · next hc =>
      generalize hvb : ve q = vb at hv'
      cases hv' with
      | pt hr' => exact pn (fun te j k1 k2 d w' => by simp [Op.equalIn, run_underlying k1, sizeOf, typeInfo, k2]) hv.v_inv hvb hc e
    · cases e
  · split at e
    · next hc =>
      generalize hva : ve p = va at hv
      cases hv with
      | pt hr => exact pn (fun te j k1 k2 d w' => by simp [Op.equalIn, run_underlying k1, sizeOf, typeInfo, k2]) hva hv'.v_inv hc e
    · cases e
  · cases e

theorem evUn_sound (hρ : ∀ o x, ρ o = some x → VR w Z R x (ve o)) {op : UnOp} {t : TypeId} {p : Operand} {y : AV} (hp : ρ p = some y) (ho : o.op = .unOp op t p) (e : evUn op y = some x) : Qt P w Z R x ve o := by
  have hv := hρ _ _ hp
  unfold evUn at e
  split at e
  · injection e with e
    subst e
    exact ⟨_, .v rfl, fun w' _ => by simp [execOp, ho, hv.v_inv, Op.unary]⟩
  · injection e with e
    subst e
    exact ⟨_, .v rfl, fun w' _ => by simp [execOp, ho, hv.v_inv, Op.unary, Op.intArith, wr_eq]⟩
  · cases e

theorem evConv_sound (hρ : ∀ o x, ρ o = some x → VR w Z R x (ve o)) {a b : TypeId} {p : Operand} {y : AV} (hp : ρ p = some y) (ho : o.op = .convert a b p) (e : evConv P a b y = some x) : Qt P w Z R x ve o := by
  have hv := hρ _ _ hp
  unfold evConv at e
  split at e
  · next d k k' n hd hk =>
    injection e with e
    subst e
    exact ⟨_, .v rfl, fun w' _ => by simp [execOp, ho, hv.v_inv, convert, run_underlying hd, run_underlying hk, Conv.intToInt, wr_eq]⟩
  · next bs hd hk =>
    injection e with e
    subst e
    obtain ⟨s, e1, h1, h2⟩ := hv.st_inv
    exact ⟨_, .st h1 h2, fun w' _ => by simp [execOp, ho, e1, convert, run_underlying hd, run_underlying hk]⟩
  · cases e

theorem intOfA_inv {y : AV} {i : Int} {u : Value} (e : intOfA y = some i) (hv : VR w Z R y u) : ∃ k, u = .int k i := by
  unfold intOfA at e
  split at e
  · injection e with e; subst e; exact ⟨_, hv.v_inv⟩
  · cases e

theorem addr_add (b o n : Nat) : (⟨b, o, none⟩ : Addr).add n = ⟨b, o + n, none⟩ := by unfold Addr.add; split <;> simp_all

theorem evIndexAddr_sound (hρ : ∀ o x, ρ o = some x → VR w Z R x (ve o)) (hh : HR w Z R h) {t : TypeId} {p q : Operand} {y z : AV} (hp : ρ p = some y) (hq : ρ q = some z) (ho : o.op = .indexAddr t p q) (e : evIndexAddr P h t y z = some x) : Qt P w Z R x ve o := by
  have hv := hρ _ _ hp
  have hv' := hρ _ _ hq
  unfold evIndexAddr at e
  split at e
  · cases e
  · next i hi =>
    obtain ⟨K, e2⟩ := intOfA_inv hi hv'
    split at e
    · cases e
    · next hneg =>
      have h0 : 0 ≤ i := by omega
      split at e
      · next el hund =>
        generalize hva : ve p = va at hv
        split at e
        · next b lo n m =>
          split at e
          · next B hB =>
            split at e
            · next hlt =>
              injection e with e
              subst e
              cases hv with
              | rf hr g0 g1 g2 g3 =>
              rename_i c r
              obtain ⟨r', _, _, k1, k2, _⟩ := hh.blk b B hB
              rw [hr] at k1
              injection k1 with k1
              subst k1
              have hs := hlt.2
              rw [← k2] at hs
              refine ⟨_, .pt hr, fun w' _ => ?_⟩
              have hcond : 0 ≤ i ∧ i < (n : Int) := ⟨h0, by omega⟩
              simp only [execOp, ho, hva, e2, Instr.indexAt, asIntOf]
              simp [run_underlying hund, hcond, run_size' hs, addr_add]
              rw [Nat.add_mul]
            · cases e
          · cases e
        · next k ys =>
          split at e
          · next yy hyy =>
            split at e
            case isFalse => cases e
            next hs' =>
            injection e with e
            subst e
            cases hv with
            | sl hn hl hc hm ha hx =>
              rename_i c n A us
              have hlt : i.toNat < ys.length := (List.getElem?_eq_some_iff.1 hyy).1
              obtain ⟨a, rfl, hs, hz, hcell⟩ := ha (by omega)
              have hul : i.toNat < us.length := by omega
              obtain ⟨g1, g2, g3⟩ := hcell _ _ (List.getElem?_eq_getElem hul)
              refine ⟨_, VR.pe (a := ⟨a.block, a.off + i.toNat * k, none⟩) rfl hz g2 (fun j q hq => ?_) (hx _ _ _ hyy (List.getElem?_eq_getElem hul)), fun w' _ => ?_⟩
              · have := g3 j q hq
                rw [← Nat.add_assoc] at this
                exact this
              · have hcond : 0 ≤ i ∧ i < (n : Int) := ⟨h0, by omega⟩
                obtain ⟨ab, ao, asp⟩ := a
                simp only at hs
                subst hs
                simp only [execOp, ho, hva, e2, Instr.indexAt, asIntOf]
                simp [run_underlying hund, hcond, run_size' hs', addr_add]
          · cases e
        · cases e
      · next len el hund =>
        split at e
        · next hlt =>
          have hcond : 0 ≤ i ∧ i < (len : Int) := ⟨h0, by omega⟩
          generalize hva : ve p = va at hv
          split at e
          · next s b j off hs =>
            injection e with e
            subst e
            cases hv with
            | pt hr =>
              rename_i r
              refine ⟨_, .pt hr, fun w' _ => ?_⟩
              simp only [execOp, ho, hva, e2, Instr.indexAt, asIntOf]
              simp [run_underlying hund, hcond, run_size' hs, addr_add, Instr.sureAddr, Nat.add_assoc]
          · next s yy off hs =>
            injection e with e
            subst e
            cases hv with
            | pe hsp hz h1 hu hx =>
              rename_i a u
              refine ⟨_, .pe hsp hz h1 hu hx, fun w' _ => ?_⟩
              simp only [execOp, ho, hva, e2, Instr.indexAt, asIntOf]
              simp [run_underlying hund, hcond, run_size' hs, addr_add, Instr.sureAddr, Nat.add_assoc]
          · cases e
        · cases e
      · cases e

theorem run_fieldPlace' {fd : Field} {m : Nat} (hft : tySize P fd.type = some (m + 1)) (a : Addr) (w : World) : (fieldPlace a fd).run P w = .ok (a.add fd.offset) w := by
  unfold fieldPlace
  rw [Sem.run_bind, run_size' hft]
  simp
theorem evFieldAddr_sound (hρ : ∀ o x, ρ o = some x → VR w Z R x (ve o)) {t : TypeId} {p : Operand} {f : Nat} {y : AV} (hp : ρ p = some y) (ho : o.op = .fieldAddr t p f) (e : evFieldAddr P t y f = some x) : Qt P w Z R x ve o := by
  have hv := hρ _ _ hp
  unfold evFieldAddr at e
  split at e
  · next fs hund =>
    split at e
    · next fd hfd =>
      split at e
      · next m hm =>
        generalize hva : ve p = va at hv
        split at e
        · next b i off =>
          injection e with e
          subst e
          cases hv with
          | pt hr =>
            refine ⟨_, .pt hr, fun w' _ => ?_⟩
            simp [execOp, ho, hva, Instr.fieldAt, Instr.sureAddr, run_underlying hund, hfd, run_fieldPlace' hm, addr_add, Nat.add_assoc]
        · next yy off =>
          injection e with e
          subst e
          cases hv with
          | pe hsp hz h1 hu hx =>
            refine ⟨_, .pe hsp hz h1 hu hx, fun w' _ => ?_⟩
            simp [execOp, ho, hva, Instr.fieldAt, Instr.sureAddr, run_underlying hund, hfd, run_fieldPlace' hm, addr_add, Nat.add_assoc]
        · cases e
      · cases e
    · cases e
  · cases e

theorem evPart_sound {t : TypeId} {cs : List AV} {off : Nat} {us : List Value} (hl : VRs w Z R cs us) (h1 : us.all Value.oneCell' = true) (e : evPart P t cs off = some x) : ∃ v, VR w Z R x v ∧ ∀ w', (part t us.toArray off).run P w' = .ok v w' := by
  unfold evPart at e
  split at e
  · next m g hm hg =>
    split at e
    · next hgt =>
      subst hgt
      split at e
      · next hle =>
        injection e with e
        subst e
        have hvs := (hl.drop off).take m
        refine ⟨.agg ((us.drop off).take m).toArray, .ag hvs.len (List.all_eq_true.2 fun q hq => List.all_eq_true.1 h1 q (List.mem_of_mem_drop (List.mem_of_mem_take hq))) hvs.at_, fun w' => ?_⟩
        unfold part
        rw [Sem.run_bind, run_agg' hg]
        simp [run_size' hm]
      · cases e
    · next hgf =>
      have hgf' : g = false := by simpa using hgf
      subst hgf'
      obtain ⟨v, k1, k2⟩ := hl.get e
      refine ⟨v, k2, fun w' => ?_⟩
      unfold part
      rw [Sem.run_bind, run_agg' hg]
      simp [k1]
  · cases e
theorem evField_sound (hρ : ∀ o x, ρ o = some x → VR w Z R x (ve o)) {t : TypeId} {p : Operand} {f : Nat} {y : AV} (hp : ρ p = some y) (ho : o.op = .field t p f) (e : evField P t y f = some x) : Qt P w Z R x ve o := by
  have hv := hρ _ _ hp
  unfold evField at e
  split at e
  · next fs cs hund =>
    split at e
    · next fd hfd =>
      generalize hva : ve p = va at hv
      cases hv with
      | ag hl h1 hx =>
        obtain ⟨v, k1, k2⟩ := evPart_sound (P := P) ⟨hl, hx⟩ h1 e
        exact ⟨v, k1, fun w' _ => by simp [execOp, ho, hva, Instr.field, run_underlying hund, hfd, asAgg, k2 w']⟩
    · cases e
  · cases e
theorem evIndex_sound (hρ : ∀ o x, ρ o = some x → VR w Z R x (ve o)) {t : TypeId} {p q : Operand} {y z : AV} (hp : ρ p = some y) (hq : ρ q = some z) (ho : o.op = .index t p q) (e : evIndex P t y z = some x) : Qt P w Z R x ve o := by
  have hv := hρ _ _ hp
  have hv' := hρ _ _ hq
  unfold evIndex at e
  split at e
  · cases e
  · next i hi =>
    obtain ⟨K, e2⟩ := intOfA_inv hi hv'
    split at e
    · cases e
    · next hneg =>
      have h0 : 0 ≤ i := by omega
      generalize hva : ve p = va at hv
      split at e
      · next n el cs hund =>
        split at e
        · next hlt =>
          split at e
          · next s hs =>
            cases hv with
            | ag hl h1 hx =>
              obtain ⟨v, k1, k2⟩ := evPart_sound (P := P) ⟨hl, hx⟩ h1 e
              have hcond : 0 ≤ i ∧ i < (n : Int) := ⟨h0, by omega⟩
              exact ⟨v, k1, fun w' _ => by
                simp only [execOp, ho, hva, e2, Instr.index, asIntOf]
                simp [run_underlying hund, hcond, run_size' hs, k2 w']⟩
          · cases e
        · cases e
      · next bs hund =>
        obtain ⟨b, hb, rfl⟩ := Option.map_eq_some_iff.1 e
        obtain ⟨s, rfl, h1, h2⟩ := hv.st_inv
        refine ⟨_, .v rfl, fun w' _ => ?_⟩
        have hb' : s[i.toNat]? = some b := by
          subst h1
          rw [← hb]
          obtain ⟨h3, h4⟩ := List.getElem?_eq_some_iff.1 hb
          have h5 : i.toNat < s.size := by rw [Array.length_toList] at h3; exact h3
          rw [getElem?_pos s i.toNat h5, List.getElem?_eq_getElem h3]
          rfl
        simp only [execOp, ho, hva, e2, Instr.index, asIntOf]
        simp [run_underlying hund, h0, hb']
      · cases e
end
end Go.Proofs.YthofgamegondnaaDoor

namespace Go.Proofs.YthofgamegondnaaDoor
open Go.RowKit

section
variable {P : Program} {w : World} {Z : Nat → Prop} {R : List RI} {h : Hp} {ρ : Operand → Option AV} {ve : Operand → Value} {o : Oper} {x : AV}

theorem VR.int_bound {bs : List UInt8} {s : ByteArray} (h1 : s.data.toList = bs) : s.size = bs.length := by subst h1; exact Array.length_toList.symm

theorem run_callB {b : Builtin} {args : Array Operand} {tys : Array TypeId} {us : List Value} (ho : o.op = .call ⟨.builtin b, args, tys⟩) (hu : args.toList.map ve = us) (w : World) : (execOp ve o).run P w = (builtin b tys o.type (args.map fun | .const _ => true | _ => false) us.toArray).run P w := by
  have e : args.map ve = us.toArray := by
    apply Array.ext'
    rw [← hu, Array.toList_map]
  simp only [execOp, ho, resolve, e]
  rfl

theorem evLen_sound (hρ : ∀ o x, ρ o = some x → VR w Z R x (ve o)) {args : Array Operand} {tys : Array TypeId} {t : TypeId} {y : AV} (ho : o.op = .call ⟨.builtin .len, args, tys⟩) (ha : opds ρ args.toList = some [y]) (ht : tys.toList = [t]) (e : evLen P t y = some x) : Qt P w Z R x ve o := by
  have hvs := opds_vr hρ ha
  obtain ⟨u, us', hus, hv, hn⟩ := hvs.head
  have : us' = [] := by have := hn.len; simpa using this
  subst this
  have ht' : tys = #[t] := by apply Array.ext'; simpa using ht
  subst ht'
  have hrun := fun w => run_callB (P := P) (ve := ve) ho hus w
  unfold evLen at e
  split at e
  · next bs hund =>
    injection e with e; subst e
    obtain ⟨s, rfl, h1, h2⟩ := hv.st_inv
    exact ⟨.int .i64 (bs.length : Int), .v rfl, fun w' _ => by rw [hrun]; simp [builtin, Builtin.len_, run_underlying hund, goInt, VR.int_bound h1]⟩
  · next el k ys hund =>
    injection e with e; subst e
    cases hv with
    | sl hn hl hc hm ha hx => exact ⟨.int .i64 (ys.length : Int), .v rfl, fun w' _ => by rw [hrun]; simp [builtin, Builtin.len_, run_underlying hund, goInt, hn]⟩
  · next el b lo n m hund =>
    injection e with e; subst e
    cases hv with
    | rf hr g0 g1 g2 g3 => exact ⟨.int .i64 (n : Int), .v rfl, fun w' _ => by rw [hrun]; simp [builtin, Builtin.len_, run_underlying hund, goInt]⟩
  · next el hund =>
    injection e with e; subst e
    cases hv
    exact ⟨.int .i64 0, .v rfl, fun w' _ => by rw [hrun]; simp [builtin, Builtin.len_, run_underlying hund, goInt]⟩
  · next n el hund =>
    injection e with e; subst e
    exact ⟨.int .i64 (n : Int), .v rfl, fun w' _ => by rw [hrun]; cases u <;> simp [builtin, Builtin.len_, run_underlying hund, goInt]⟩
  · cases e

theorem evMinMax_sound (hρ : ∀ o x, ρ o = some x → VR w Z R x (ve o)) {args : Array Operand} {tys : Array TypeId} {ys : List AV} {g : Bool} (ho : o.op = .call ⟨.builtin (if g then .max else .min), args, tys⟩) (ha : opds ρ args.toList = some ys) (e : evMinMax g ys = some x) : Qt P w Z R x ve o := by
  have hvs := opds_vr hρ ha
  unfold evMinMax at e
  split at e
  · next k a k' b =>
    injection e with e; subst e
    obtain ⟨u, us', hus, hv, hn⟩ := hvs.head
    obtain ⟨u', us'', rfl, hv', hn'⟩ := hn.head
    have : us'' = [] := by have := hn'.len; simpa using this
    subst this
    have e1 := hv.v_inv
    have e2 := hv'.v_inv
    subst e1 e2
    have hrun := fun w => run_callB (P := P) (ve := ve) ho hus w
    refine ⟨_, .v rfl, fun w' _ => ?_⟩
    rw [hrun]
    cases g
    · simp [builtin, Builtin.min_, Builtin.min2]
    · simp [builtin, Builtin.max_, Builtin.max2]
  · cases e

theorem natB_inv {a : Option AV} {d n : Nat} {va : Option Value} (e : natB a d = some n) (hv : ∀ y, a = some y → ∃ u, va = some u ∧ VR w Z R y u) (hn : a = none → va = none) : (a = none ∧ va = none ∧ n = d) ∨ (∃ k, va = some (.int k (n : Int)) ∧ a.isSome = true) := by
  unfold natB at e
  split at e
  · injection e with e; exact .inl ⟨rfl, hn rfl, e.symm⟩
  · next q k i =>
    split at e
    · cases e
    · next h0 =>
      injection e with e
      obtain ⟨u, h1, h2⟩ := hv _ rfl
      rw [h2.v_inv] at h1
      exact .inr ⟨k, by rw [h1, ← e, show ((i.toNat : Nat) : Int) = i by omega], rfl⟩
  · cases e

theorem run_bound {k : IntKind} {n y : Nat} {c : BoundsCode} (hle : n ≤ y) (w : World) : (Instr.sliceBound (.int k (n : Int)) y c).run P w = .ok n w := by
  have hcond : (0 : Int) ≤ (n : Int) ∧ (n : Int) ≤ (y : Int) := ⟨by omega, by omega⟩
  simp [Instr.sliceBound, asIntOf, hcond]

/-- The bounds of a slice expression, all in order. -/
theorem run_bounds {s : Bool} {len cap l u m : Nat} {lo hi mx : Option Value} (hm : (mx = none ∧ m = cap) ∨ ∃ k, mx = some (.int k (m : Int))) (hu : (hi = none ∧ u = len) ∨ ∃ k, hi = some (.int k (u : Int))) (hl : (lo = none ∧ l = 0) ∨ ∃ k, lo = some (.int k (l : Int)))
    (h1 : l ≤ u) (h2 : u ≤ m) (h3 : m ≤ cap) (h4 : mx = none ∨ hi ≠ none) (w : World) : (Instr.sliceBounds s len cap lo hi mx).run P w = .ok (l, u, m) w := by
  rcases hm with ⟨rfl, rfl⟩ | ⟨km, rfl⟩ <;> rcases hu with ⟨rfl, rfl⟩ | ⟨ku, rfl⟩ <;> rcases hl with ⟨rfl, rfl⟩ | ⟨kl, rfl⟩ <;> first
    | (simp at h4; done)
    | simp [Instr.sliceBounds, run_bound h1, run_bound h2, run_bound h3]

theorem opdo_inv (hρ : ∀ o x, ρ o = some x → VR w Z R x (ve o)) {a : Option Operand} {y : Option AV} (e : opdo ρ a = some y) : (∀ q, y = some q → ∃ u, a.map ve = some u ∧ VR w Z R q u) ∧ (y = none → a.map ve = none) := by
  unfold opdo at e
  split at e
  · injection e with e; subst e; exact ⟨fun q hq => (by cases hq), fun _ => rfl⟩
  · next a' =>
    obtain ⟨q, hq, rfl⟩ := Option.map_eq_some_iff.1 e
    exact ⟨fun q' hq' => by injection hq' with hq'; subst hq'; exact ⟨_, rfl, hρ _ _ hq⟩, fun h => by cases h⟩

theorem natB_or {a : Option AV} {d n : Nat} {va : Option Value} (e : natB a d = some n) (hv : (∀ q, a = some q → ∃ u, va = some u ∧ VR w Z R q u) ∧ (a = none → va = none)) : (va = none ∧ n = d) ∨ ∃ k, va = some (.int k (n : Int)) := by
  rcases natB_inv e hv.1 hv.2 with ⟨_, h2, h3⟩ | ⟨k, h2, _⟩
  · exact .inl ⟨h2, h3⟩
  · exact .inr ⟨k, h2⟩
theorem natB_none {a : Option AV} {d n : Nat} {va : Option Value} (e : natB a d = some n) (hv : (∀ q, a = some q → ∃ u, va = some u ∧ VR w Z R q u) ∧ (a = none → va = none)) : a.isNone = true ↔ va = none := by
  rcases natB_inv e hv.1 hv.2 with ⟨h1, h2, h3⟩ | ⟨k, h2, h1⟩
  · simp [h1, h2]
  · simp [h2]; intro h; rw [h] at h1; cases h1

theorem bytes_extract (s : ByteArray) (l u : Nat) : (s.extract l u).data.toList = (s.data.toList.take u).drop l := by
  simp [List.extract_eq_take_drop, List.drop_take]

theorem evSlice_sound (hρ : ∀ o x, ρ o = some x → VR w Z R x (ve o)) (hh : HR w Z R h) {t : TypeId} {p : Operand} {lo hi mx : Option Operand} {y : AV} {yl yh ym : Option AV} (hp : ρ p = some y) (hl : opdo ρ lo = some yl) (hhi : opdo ρ hi = some yh) (hmx : opdo ρ mx = some ym) (ho : o.op = .slice t p lo hi mx) (e : evSlice P h t y yl yh ym = some x) : Qt P w Z R x ve o := by
  have hv := hρ _ _ hp
  have il := opdo_inv hρ hl
  have ih := opdo_inv hρ hhi
  have im := opdo_inv hρ hmx
  generalize hva : ve p = va at hv
  unfold evSlice at e
  split at e
  · next bs hund =>
    split at e
    · next l u h1 h2 =>
      split at e
      · next hlu =>
        injection e with e; subst e
        obtain ⟨s, rfl, g1, g2⟩ := hv.st_inv
        have hsz := VR.int_bound g1
        have hmn : mx.map ve = none := im.2 rfl
        have hr := fun w => run_bounds (P := P) (s := false) (len := s.size) (cap := s.size) (m := s.size) (mx := none) (.inl ⟨rfl, rfl⟩) (by rw [hsz]; exact natB_or h2 ih) (natB_or h1 il) hlu.1 (by omega) (Nat.le_refl _) (.inl rfl) w
        refine ⟨.string (s.extract l u), .st (by rw [bytes_extract, g1]) ?_, fun w' _ => ?_⟩
        · simp; omega
        · simp [execOp, ho, hva, Instr.sliceAt, run_underlying hund, Instr.slice, hr, hmn]
      · cases e
    · cases e
  · next el b o' n m hund =>
    split at e
    · next B hB =>
      split at e
      · next k l u hk h1 h2 =>
        split at e
        · next hc =>
          obtain ⟨c1, c2, c3, c4, c5⟩ := hc
          cases hv with
          | rf hr g0 g1 g2 g3 =>
            rename_i c r
            obtain ⟨r', _, _, k1, k2, _⟩ := hh.blk b B hB
            rw [hr] at k1
            injection k1 with k1
            subst k1
            rw [← k2] at c5
            have c4' : mx.map ve = none ∨ hi.map ve ≠ none := by
              rcases c4 with h | h
              · exact .inl ((natB_none hk im).1 h)
              · refine .inr fun hn => ?_
                have := (natB_none h2 ih).2 hn
                cases yh <;> simp at *
            -- the true bound of capacity
            have hbd : ∃ K, (k ≤ K ∧ K ≤ c ∧ (ym.isSome = true → K = k)) ∧ ∀ w', (Instr.sliceBounds true n c (lo.map ve) (hi.map ve) (mx.map ve)).run P w' = .ok (l, u, K) w' := by
              rcases natB_inv hk im.1 im.2 with ⟨q1, q2, q3⟩ | ⟨kk, q2, q3⟩
              · refine ⟨c, ⟨by omega, Nat.le_refl _, fun h => by rw [q1] at h; cases h⟩, fun w' => ?_⟩
                exact run_bounds (.inl ⟨q2, rfl⟩) (natB_or h2 ih) (natB_or h1 il) c1 (by omega) (Nat.le_refl _) c4' w'
              · refine ⟨k, ⟨Nat.le_refl _, by omega, fun _ => rfl⟩, fun w' => ?_⟩
                exact run_bounds (.inr ⟨kk, q2⟩) (natB_or h2 ih) (natB_or h1 il) c1 c2 (by omega) c4' w'
            obtain ⟨K, ⟨b1, b2, b3⟩, hrun⟩ := hbd
            split at e
            · next hlk =>
              injection e with e; subst e
              refine ⟨.slice (some ⟨r.c, (o' + l) * r.k, none⟩) (u - l) (K - l), .rf hr (by omega) (by omega) (by omega) g3, fun w' _ => ?_⟩
              have hne : K ≠ l := by omega
              simp [execOp, ho, hva, Instr.sliceAt, run_underlying hund, Instr.slice, hrun, run_size' c5, hne, addr_add, Nat.add_mul]
            · next hlk =>
              split at e
              · next hsome =>
                injection e with e; subst e
                have hK := b3 hsome
                refine ⟨.slice (some ⟨r.c, o' * r.k, none⟩) 0 0, .e0, fun w' _ => ?_⟩
                have e1 : K = l := by omega
                have e2 : u = l := by omega
                subst e1 e2
                simp [execOp, ho, hva, Instr.sliceAt, run_underlying hund, Instr.slice, hrun, run_size' c5]
              · injection e with e; subst e
                have e2 : u = l := by omega
                subst e2
                refine ⟨.slice (some (if K = u then ⟨r.c, o' * r.k, none⟩ else ⟨r.c, o' * r.k + u * r.k, none⟩)) 0 (K - u), .sl rfl (us := []) rfl (Nat.zero_le _) (by omega) (fun h => by simp at h) (fun i x u hx => by simp at hx), fun w' _ => ?_⟩
                by_cases hKu : K = u
                · simp [execOp, ho, hva, Instr.sliceAt, run_underlying hund, Instr.slice, hrun, run_size' c5, addr_add, hKu]
                · simp [execOp, ho, hva, Instr.sliceAt, run_underlying hund, Instr.slice, hrun, run_size' c5, addr_add, hKu]
        · cases e
      · cases e
    · cases e
  · next el k xs hund =>
    split at e
    · next q l u hq h1 h2 =>
      split at e
      · next hc =>
        obtain ⟨c1, c2, c3, c4, c5⟩ := hc
        cases hv with
        | sl hn hl' hcc hm ha hx =>
          rename_i c n A us
          subst hn
          have c4' : mx.map ve = none ∨ hi.map ve ≠ none := by
            rcases c4 with h | h
            · exact .inl ((natB_none hq im).1 h)
            · refine .inr fun hn => ?_
              have := (natB_none h2 ih).2 hn
              cases yh <;> simp at *
          have hbd : ∃ K, (q ≤ K ∧ K ≤ c ∧ (ym.isSome = true → K = q)) ∧ ∀ w', (Instr.sliceBounds true xs.length c (lo.map ve) (hi.map ve) (mx.map ve)).run P w' = .ok (l, u, K) w' := by
            rcases natB_inv hq im.1 im.2 with ⟨q1, q2, q3⟩ | ⟨kk, q2, q3⟩
            · refine ⟨c, ⟨by omega, Nat.le_refl _, fun h => by rw [q1] at h; cases h⟩, fun w' => ?_⟩
              exact run_bounds (.inl ⟨q2, rfl⟩) (natB_or h2 ih) (natB_or h1 il) c1 (by omega) (Nat.le_refl _) c4' w'
            · refine ⟨q, ⟨Nat.le_refl _, by omega, fun _ => rfl⟩, fun w' => ?_⟩
              exact run_bounds (.inr ⟨kk, q2⟩) (natB_or h2 ih) (natB_or h1 il) c1 c2 (by omega) c4' w'
          obtain ⟨K, ⟨b1, b2, b3⟩, hrun⟩ := hbd
          split at e
          · next hsq =>
            injection e with e; subst e
            have hK := b3 hsq.1
            have e1 : K = l := by omega
            have e2 : u = l := by omega
            subst e1 e2
            refine ⟨.slice A 0 0, .e0, fun w' _ => ?_⟩
            simp [execOp, ho, hva, Instr.sliceAt, run_underlying hund, Instr.slice, hrun, run_size' c5]
          · injection e with e; subst e
            have hlen : ((xs.take u).drop l).length = u - l := by simp; omega
            refine ⟨.slice (if K = l then A else A.map (·.add (l * k))) (u - l) (K - l), .sl (us := (us.take u).drop l) hlen (by simp [hl']) (by omega) (by omega) (fun h0 => ?_) (fun i x' u' hx' hu' => ?_), fun w' _ => ?_⟩
            · obtain ⟨a, rfl, hs, hz, hcell⟩ := ha (by omega)
              obtain ⟨ab, ao, asp⟩ := a
              simp only at hs
              subst hs
              rw [if_neg (by omega)]
              refine ⟨⟨ab, ao + l * k, none⟩, by simp [addr_add], rfl, hz, fun i u' hu' => ?_⟩
              rw [List.getElem?_drop, List.getElem?_take] at hu'
              split at hu'
              · obtain ⟨d1, d2, d3⟩ := hcell _ _ hu'
                refine ⟨d1, d2, fun j q' hq' => ?_⟩
                have := d3 j q' hq'
                rw [Nat.add_mul] at this
                simpa [Nat.add_assoc] using this
              · cases hu'
            · rw [List.getElem?_drop, List.getElem?_take] at hu' hx'
              split at hu'
              · next hlt => rw [if_pos hlt] at hx'; exact hx _ _ _ hx' hu'
              · cases hu'
            · simp [execOp, ho, hva, Instr.sliceAt, run_underlying hund, Instr.slice, hrun, run_size' c5]
      · cases e
    · cases e
  · next el hund =>
    split at e
    · next hq h1 h2 =>
      split at e
      · next c4 =>
        obtain ⟨c4, c5⟩ := c4
        injection e with e; subst e
        cases hv with
        | e0 =>
          rename_i A
          have c4' : mx.map ve = none ∨ hi.map ve ≠ none := by
            rcases c4 with h | h
            · exact .inl ((natB_none hq im).1 h)
            · refine .inr fun hn => ?_
              have := (natB_none h2 ih).2 hn
              cases yh <;> simp at *
          have hrun := fun w' => run_bounds (P := P) (s := true) (len := 0) (cap := 0) (natB_or hq im) (natB_or h2 ih) (natB_or h1 il) (Nat.le_refl _) (Nat.le_refl _) (Nat.le_refl _) c4' w'
          refine ⟨.slice A 0 0, .e0, fun w' _ => ?_⟩
          obtain ⟨sz, hsz⟩ := Option.isSome_iff_exists.1 c5
          have hsz := run_size' hsz w'
          simp [execOp, ho, hva, Instr.sliceAt, run_underlying hund, Instr.slice, hrun, hsz]
      · cases e
    · cases e
  · cases e
end
end Go.Proofs.YthofgamegondnaaDoor

namespace Go.Proofs.YthofgamegondnaaDoor
open Go.RowKit

section
variable {P : Program} {w : World} {Z : Nat → Prop} {R : List RI} {h : Hp} {ρ : Operand → Option AV} {ve : Operand → Value} {o : Oper} {x : AV}

theorem partsOf_vr (hρ : ∀ o x, ρ o = some x → VR w Z R x (ve o)) : ∀ {l : List (Nat × Operand)} {xs : List (Nat × AV)}, partsOf ρ l = some xs → xs.map (·.1) = l.map (·.1) ∧ VRs w Z R (xs.map (·.2)) (l.map fun p => ve p.2)
  | [], xs, e => by injection e with e; subst e; exact ⟨rfl, .nil⟩
  | (i, a) :: l, xs, e => by
    unfold partsOf at e
    split at e
    · next y r h1 h2 =>
      injection e with e; subst e
      obtain ⟨h3, h4⟩ := partsOf_vr hρ h2
      exact ⟨by simp [h3], .cons (hρ _ _ h1) h4⟩
    · cases e

/-- What 'fill' does with one part. -/
theorem fill_step (place : Nat → Option (Nat × Nat)) (cs : List Value) (i : Nat) (v : Value) (rest : List (Nat × Value)) {off size : Nat} (hp : place i = some (off, size)) (hs : v.cells.size = size) (hle : off + size ≤ cs.length) :
    Instr.fill place cs.toArray ((i, v) :: rest) = Instr.fill place (cs.take off ++ v.cells.toList ++ cs.drop (off + size)).toArray rest := by
  simp only [Instr.fill, hp]
  rw [if_neg (by simp [hs]; omega)]
  congr 1
  have key : ∀ (vs : List Value) (j : Nat) (cs : List Value), off + j + vs.length ≤ cs.length →
      ((vs.zipIdx j).foldl (fun cs (x : Value × Nat) => cs.setIfInBounds (off + x.2) x.1) cs.toArray) = (cs.take (off + j) ++ vs ++ cs.drop (off + j + vs.length)).toArray := by
    intro vs
    induction vs with
    | nil => intro j cs h; simp
    | cons v vs ih =>
      intro j cs h
      simp only [List.length_cons] at h
      rw [List.zipIdx_cons, List.foldl_cons]
      have e1 : cs.toArray.setIfInBounds (off + j) v = (cs.set (off + j) v).toArray := by simp
      rw [e1, ih (j + 1) (cs.set (off + j) v) (by simp; omega)]
      congr 1
      apply List.ext_getElem?
      intro q
      by_cases h1 : q < off + j
      · rw [List.append_assoc, List.getElem?_append_left (by simp; omega), List.append_assoc, List.getElem?_append_left (by simp; omega), List.getElem?_take_of_lt (by omega), List.getElem?_take_of_lt (by omega), List.getElem?_set_ne (by omega)]
      · by_cases h2 : q = off + j
        · subst h2
          rw [List.append_assoc, List.getElem?_append_left (by simp; omega), List.append_assoc, List.getElem?_append_right (by simp; omega), List.getElem?_take_of_lt (by omega), List.getElem?_set_self (by omega)]
          have hm : off + j - (cs.take (off + j)).length = 0 := by simp; omega
          rw [hm]; rfl
        · by_cases h3 : q < off + j + 1 + vs.length
          · rw [List.append_assoc, List.getElem?_append_right (by simp; omega), List.getElem?_append_left (by simp; omega), List.append_assoc, List.getElem?_append_right (by simp; omega), List.getElem?_append_left (by simp; omega)]
            simp only [List.length_take, List.length_set]
            rw [show q - min (off + j) cs.length = (q - min (off + (j + 1)) cs.length) + 1 by omega, List.getElem?_cons_succ]
          · rw [List.getElem?_append_right (by simp; omega), List.getElem?_append_right (by simp; omega)]
            simp only [List.length_append, List.length_take, List.length_set, List.length_cons, List.getElem?_drop]
            rw [List.getElem?_set_ne (by omega)]
            congr 1
            omega
  have h2 := key v.cells.toList 0 cs (by simp [hs]; omega)
  simp only [Nat.add_zero] at h2
  have e3 : v.cells.toList.length = size := by simpa using hs
  rw [e3] at h2
  have e4 : (v.cells.zipIdx.foldl (fun cs (x : Value × Nat) => match x with | (c, j) => cs.setIfInBounds (off + j) c) cs.toArray) = (v.cells.toList.zipIdx.foldl (fun cs (x : Value × Nat) => cs.setIfInBounds (off + x.2) x.1) cs.toArray) := by
    rw [← Array.foldl_toList]
    simp
  rw [e4, h2]

theorem VRs.splice {xs : List AV} {us : List Value} {y : AV} {u : Value} (hs : VRs w Z R xs us) (hy : VR w Z R y u) (off : Nat) : VRs w Z R (xs.take off ++ y.cel ++ xs.drop (off + y.cel.length)) (us.take off ++ u.cells.toList ++ us.drop (off + y.cel.length)) :=
  ((hs.take off).append hy.cells.2).append (hs.drop _)
theorem nc_cel (y : AV) : y.cel.length = y.nc := by cases y <;> rfl

theorem all_splice {us vs : List Value} {a b : Nat} (h1 : us.all Value.oneCell' = true) (h2 : ∀ q ∈ vs, q.oneCell' = true) : (us.take a ++ vs ++ us.drop b).all Value.oneCell' = true := by
  rw [List.all_eq_true] at *
  intro q hq
  simp only [List.mem_append] at hq
  rcases hq with (hq | hq) | hq
  · exact h1 q (List.mem_of_mem_take hq)
  · exact h2 q hq
  · exact h1 q (List.mem_of_mem_drop hq)

theorem fillS_sound {fs : Array Field} {pl : Array (Nat × Nat)} (hpl : ∀ (i : Nat) (f : Field) (m : Nat), fs[i]? = some f → tySize P f.type = some m → pl[i]? = some (f.offset, m)) : ∀ {ps : List (Nat × AV)} {vs : List Value} {cs cs' : List AV} {us : List Value},
    VRs w Z R (ps.map (·.2)) vs → VRs w Z R cs us → us.all Value.oneCell' = true → fillS P fs cs ps = some cs' →
    ∃ us', Instr.fill (pl[·]?) us.toArray ((ps.map (·.1)).zip vs) = some us'.toArray ∧ VRs w Z R cs' us' ∧ us'.all Value.oneCell' = true
  | [], vs, cs, cs', us, hv, hc, h1, e => by
    injection e with e; subst e
    exact ⟨us, by simp [Instr.fill], hc, h1⟩
  | (i, y) :: ps, vs, cs, cs', us, hv, hc, h1, e => by
    obtain ⟨v, vs', rfl, hy, hn⟩ := VRs.head (by simpa using hv)
    unfold fillS at e
    split at e
    · next f hf =>
      split at e
      · next hcond =>
        obtain ⟨k1, k2, k3⟩ := hcond
        have hsz : v.cells.size = y.cel.length := by rw [hy.cells.1, nc_cel]
        have hcell : ∀ q ∈ v.cells.toList, q.oneCell' = true := fun q hq => hy.cells_one k3 q (by simpa using hq)
        obtain ⟨us', g1, g2, g3⟩ := fillS_sound hpl hn (hc.splice hy f.offset) (all_splice h1 hcell) e
        refine ⟨us', ?_, g2, g3⟩
        simp only [List.map_cons, List.zip_cons_cons]
        rw [fill_step (pl[·]?) us i v _ (hpl i f _ hf k1) hsz (by rw [hc.len]; omega)]
        exact g1
      · cases e
    · cases e
theorem fillR_sound {s : Nat} : ∀ {ps : List (Nat × AV)} {vs : List Value} {cs cs' : List AV} {us : List Value},
    VRs w Z R (ps.map (·.2)) vs → VRs w Z R cs us → us.all Value.oneCell' = true → fillR s cs ps = some cs' →
    ∃ us', Instr.fill (fun i => some (i * s, s)) us.toArray ((ps.map (·.1)).zip vs) = some us'.toArray ∧ VRs w Z R cs' us' ∧ us'.all Value.oneCell' = true
  | [], vs, cs, cs', us, hv, hc, h1, e => by
    injection e with e; subst e
    exact ⟨us, by simp [Instr.fill], hc, h1⟩
  | (i, y) :: ps, vs, cs, cs', us, hv, hc, h1, e => by
    obtain ⟨v, vs', rfl, hy, hn⟩ := VRs.head (by simpa using hv)
    unfold fillR at e
    split at e
    · next hcond =>
      obtain ⟨k1, k2, k3⟩ := hcond
      have hsz : v.cells.size = y.cel.length := by rw [hy.cells.1, nc_cel]
      have hcell : ∀ q ∈ v.cells.toList, q.oneCell' = true := fun q hq => hy.cells_one k3 q (by simpa using hq)
      obtain ⟨us', g1, g2, g3⟩ := fillR_sound hn (hc.splice hy (i * s)) (all_splice h1 hcell) e
      refine ⟨us', ?_, g2, g3⟩
      simp only [List.map_cons, List.zip_cons_cons]
      rw [fill_step (fun i => some (i * s, s)) us i v _ rfl (by rw [hsz, k1]) (by rw [hc.len]; omega), ← k1] at *
      rw [← k1] at g1
      exact g1
    · cases e

theorem run_listM {α β : Type} (f : α → Sem β) (g : α → β) (w : World) : ∀ (l : List α), (∀ x ∈ l, (f x).run P w = .ok (g x) w) → (l.mapM f).run P w = .ok (l.map g) w
  | [], _ => by simp
  | x :: l, h => by
    rw [List.mapM_cons, Sem.run_bind, h x (by simp)]
    simp only [Result.andThen, Sem.run_bind]
    rw [run_listM f g w l (fun y hy => h y (by simp [hy]))]
    simp
theorem run_arrayM {α β : Type} (f : α → Sem β) (g : α → β) (w : World) (l : Array α) (h : ∀ x ∈ l, (f x).run P w = .ok (g x) w) : (l.mapM f).run P w = .ok (l.map g) w := by
  have e : l.mapM f = List.toArray <$> l.toList.mapM f := by rw [Array.mapM_eq_mapM_toList]
  rw [e, map_eq_pure_bind, Sem.run_bind, run_listM f g w l.toList (fun x hx => h x (by simpa using hx))]
  simp
  apply Array.ext'
  simp
theorem places_run {fs : Array Field} (hs : sizesOk P fs = true) : ∃ pl : Array (Nat × Nat), (∀ w : World, (fs.mapM (fun f => do pure (f.offset, ← sizeOf f.type)) : Sem (Array (Nat × Nat))).run P w = .ok pl w) ∧ ∀ (i : Nat) (f : Field) (m : Nat), fs[i]? = some f → tySize P f.type = some m → pl[i]? = some (f.offset, m) := by
  refine ⟨fs.map fun f => (f.offset, (tySize P f.type).getD 0), fun w => run_arrayM _ _ w fs fun f hf => ?_, fun i f m hf hm => by simp [hf, hm]⟩
  have h1 : (P.info? f.type).isSome = true := by
    unfold sizesOk at hs
    rw [Array.all_eq_true'] at hs
    exact hs f hf
  obtain ⟨i, hi⟩ := Option.isSome_iff_exists.1 h1
  have hm : tySize P f.type = some i.size := by simp [tySize, hi]
  simp [run_size' hm, hm]

theorem evBuild_sound (hρ : ∀ o x, ρ o = some x → VR w Z R x (ve o)) {t : TypeId} {ps : Array (Nat × Operand)} {xs : List (Nat × AV)} (ho : o.op = .build t ps) (hp : partsOf ρ ps.toList = some xs) (e : evBuild P t xs = some x) : Qt P w Z R x ve o := by
  obtain ⟨h1, h2⟩ := partsOf_vr hρ hp
  unfold evBuild at e
  split at e
  · next z hz =>
    obtain ⟨u, hu, hnt, hrz, _⟩ := run_zero' (w := w) (Z := Z) (R := R) hz
    have hpl : ps.map (fun x => match x with | (i, x) => (i, ve x)) = ((xs.map (·.1)).zip (ps.toList.map fun p => ve p.2)).toArray := by
      apply Array.ext'
      rw [Array.toList_map, h1]
      simp only [List.zip_map']
    cases hu with
    | ag hl ha hx =>
      rename_i us
      split at e
      · next fs hund =>
        split at e
        · next hok =>
          obtain ⟨cs', hcs, rfl⟩ := Option.map_eq_some_iff.1 e
          obtain ⟨pl, k1, k2⟩ := places_run hok
          obtain ⟨us', g1, g2, g3⟩ := fillS_sound k2 h2 ⟨hl, hx⟩ ha hcs
          refine ⟨.agg us'.toArray, .ag g2.len g3 g2.at_, fun w' _ => ?_⟩
          simp only [execOp, ho, hpl, Instr.build, Sem.run_bind, hrz, Result.andThen, run_underlying hund, k1, Value.cells]
          rw [g1]
          rfl
        · cases e
      · next n el hund =>
        split at e
        · next s hs =>
          obtain ⟨cs', hcs, rfl⟩ := Option.map_eq_some_iff.1 e
          obtain ⟨us', g1, g2, g3⟩ := fillR_sound h2 ⟨hl, hx⟩ ha hcs
          refine ⟨.agg us'.toArray, .ag g2.len g3 g2.at_, fun w' _ => ?_⟩
          simp only [execOp, ho, hpl, Instr.build, Sem.run_bind, hrz, Result.andThen, run_underlying hund, run_size' hs, Value.cells]
          rw [g1]
          rfl
        · cases e
      · cases e
  · cases e

/-- Operations that only read. -/
theorem evOpQ_sound (hh : HR w Z R h) (hρ : ∀ o x, ρ o = some x → VR w Z R x (ve o)) (e : evOpQ P ρ h o.op = some x) : Qt P w Z R x ve o := by
  unfold evOpQ at e
  split at e
  · next a ho => exact ⟨_, hρ _ _ e, fun w' _ => by simp [execOp, ho]⟩
  · next a ho => exact ⟨_, hρ _ _ e, fun w' _ => by simp [execOp, ho]⟩
  · next c a b ho =>
    split at e
    · next hc =>
      have hc := (hρ _ _ hc).v_inv
      exact ⟨_, hρ _ _ e, fun w' _ => by simp [execOp, ho, hc, asBool]⟩
    · next hc =>
      have hc := (hρ _ _ hc).v_inv
      exact ⟨_, hρ _ _ e, fun w' _ => by simp [execOp, ho, hc, asBool]⟩
    · cases e
  · next t a ho =>
    split at e
    · next p hp => exact evLoad_sound hh hρ hp ho e
    · cases e
  · next a ho =>
    split at e
    · next b i off ha =>
      injection e with e; subst e
      have hv := hρ _ _ ha
      refine ⟨_, hv, fun w' _ => ?_⟩
      generalize hva : ve a = va at hv
      cases hv
      simp [execOp, ho, hva]
    · next y off ha =>
      injection e with e; subst e
      have hv := hρ _ _ ha
      refine ⟨_, hv, fun w' _ => ?_⟩
      generalize hva : ve a = va at hv
      cases hv
      simp [execOp, ho, hva]
    · next f p q ha =>
      injection e with e; subst e
      have hv := hρ _ _ ha
      refine ⟨_, hv, fun w' _ => ?_⟩
      generalize hva : ve a = va at hv
      cases hv
      simp [execOp, ho, hva]
    · cases e
  · next op t a b t' ho =>
    split at e
    · next y z hy hz =>
      split at e
      · next v hv => injection e with e; subst e; exact evBin_sound hρ hy hz ho hv
      · exact evEq_sound hρ hy hz ho e
    · cases e
  · next op t a ho =>
    split at e
    · next y hy => exact evUn_sound hρ hy ho e
    · cases e
  · next s d a ho =>
    split at e
    · next y hy => exact evConv_sound hρ hy ho e
    · cases e
  · next f p q ho =>
    split at e
    · next ps qs hp hq =>
      injection e with e; subst e
      have h1 := opds_vr hρ hp
      have h2 := opds_vr hρ hq
      refine ⟨.func (.func f) (p.toList.map ve).toArray (q.toList.map ve).toArray, .fn h1.len h2.len h1.at_ h2.at_, fun w' _ => ?_⟩
      have e1 : p.map ve = (p.toList.map ve).toArray := by apply Array.ext'; simp
      have e2 : q.map ve = (q.toList.map ve).toArray := by apply Array.ext'; simp
      simp only [execOp, ho, e1, e2, Instr.makeFunc]
      rfl
    · cases e
  · next t a lo hi mx ho =>
    split at e
    · next y yl yh ym h1 h2 h3 h4 => exact evSlice_sound hρ hh h1 h2 h3 h4 ho e
    · cases e
  · next t a f ho =>
    split at e
    · next y hy => exact evFieldAddr_sound hρ hy ho e
    · cases e
  · next t a f ho =>
    split at e
    · next y hy => exact evField_sound hρ hy ho e
    · cases e
  · next t a b ho =>
    split at e
    · next y z hy hz => exact evIndexAddr_sound hρ hh hy hz ho e
    · cases e
  · next t a b ho =>
    split at e
    · next y z hy hz => exact evIndex_sound hρ hy hz ho e
    · cases e
  · next a i ho =>
    split at e
    · next vs hvs =>
      have hv := hρ _ _ hvs
      generalize hva : ve a = va at hv
      cases hv with
      | tp hl hx =>
        obtain ⟨u, k1, k2⟩ := VRs.get ⟨hl, hx⟩ e
        exact ⟨u, k2, fun w' _ => by simp [execOp, ho, hva, Instr.extract, k1]⟩
    · cases e
  · next args tys ho =>
    split at e
    · next y t ha ht => exact evLen_sound hρ ho ha ht e
    · cases e
  · next args tys ho =>
    split at e
    · next ys ha => exact evMinMax_sound (g := false) hρ ho ha e
    · cases e
  · next args tys ho =>
    split at e
    · next ys ha => exact evMinMax_sound (g := true) hρ ho ha e
    · cases e
  · next t ps ho =>
    split at e
    · next xs hxs => exact evBuild_sound hρ ho hxs e
    · cases e
  · next args tys ho =>
    split at e
    · next b lo n m ha =>
      injection e with e; subst e
      have hvs := opds_vr hρ ha
      obtain ⟨u, us', hus, hv, hn⟩ := hvs.head
      have : us' = [] := by have := hn.len; simpa using this
      subst this
      have hrun := fun w => run_callB (P := P) (ve := ve) ho hus w
      cases hv with
      | rf hr g0 g1 g2 g3 =>
        rename_i c r
        refine ⟨_, .pt hr, fun w' _ => ?_⟩
        have h2 := Go.Lib.run_unsafeSliceData_row (P := P) w' tys o.type ⟨r.c, lo * r.k, none⟩ n c (by omega)
        rw [hrun]
        simp only [builtin]
        rw [Sem.run_bind, h2]
        simp
    · cases e
  · cases e
end
end Go.Proofs.YthofgamegondnaaDoor

namespace Go.Proofs.YthofgamegondnaaDoor
open Go.RowKit

section
variable {P : Program} {w : World} {Z : Nat → Prop} {R : List RI} {h h' : Hp} {ρ : Operand → Option AV} {ve : Operand → Value} {o : Oper} {x : AV}

/-- The operation hands back a value that x tells; the world goes on to one of which h' tells. -/
def Ld (P : Program) (w : World) (Z : Nat → Prop) (R : List RI) (h : Hp) (x : AV) (h' : Hp) (ve : Operand → Value) (o : Oper) : Prop :=
  ∃ u w' R', (execOp ve o).run P w = .ok (.value u) w' ∧ HR w' Z R' h' ∧ VR w' Z R' x u ∧ Step w Z R h w' Z R' h'
/-- And nothing that was there has turned. -/
def Nw (P : Program) (w : World) (Z : Nat → Prop) (R : List RI) (h : Hp) (x : AV) (h' : Hp) (ve : Operand → Value) (o : Oper) : Prop :=
  ∃ u w' R', (execOp ve o).run P w = .ok (.value u) w' ∧ HR w' Z R' h' ∧ VR w' Z R' x u ∧ Step w Z R h w' Z R' h' ∧ w.grownBy w' none
theorem Nw.ld (n : Nw P w Z R h x h' ve o) : Ld P w Z R h x h' ve o := let ⟨u, w', R', h1, h2, h3, h4, _⟩ := n; ⟨u, w', R', h1, h2, h3, h4⟩
theorem Qt.ld (hh : HR w Z R h) (q : Qt P w Z R x ve o) : Ld P w Z R h x h ve o := let ⟨u, h1, h2⟩ := q; ⟨u, w, R, h2 w (fun _ => Same.refl w), hh, h1, Step.refl _ _ _ _⟩

theorem grown_alloc (w : World) (ob : Obj) : w.grownBy (w.alloc ob) none := ⟨rfl, rfl, rfl, by simp, fun _ hb _ => heap_alloc_old w ob hb⟩

/-- The cells of elements, one behind the other. -/
def flat' (us : List Value) : List Value := (us.map fun u => u.cells.toList).flatten
theorem flat_len {k : Nat} : ∀ {us : List Value}, (∀ u ∈ us, u.cells.size = k) → (flat' us).length = us.length * k
  | [], _ => by simp [flat']
  | u :: us, h => by
    have := flat_len (k := k) (us := us) (fun v hv => h v (by simp [hv]))
    simp only [flat', List.map_cons, List.flatten_cons, List.length_append, List.length_cons] at *
    rw [this, Array.length_toList, h u (by simp), Nat.add_mul, Nat.one_mul, Nat.add_comm]
theorem flat_get {k : Nat} : ∀ {us : List Value}, (∀ u ∈ us, u.cells.size = k) → ∀ (i : Nat) (u : Value), us[i]? = some u → ∀ (j : Nat) (q : Value), u.cells[j]? = some q → (flat' us)[i * k + j]? = some q
  | [], _, i, u, hu, _, _, _ => by simp at hu
  | v :: us, h, i, u, hu, j, q, hq => by
    have hv : v.cells.toList.length = k := by rw [Array.length_toList]; exact h v (by simp)
    simp only [flat', List.map_cons, List.flatten_cons]
    cases i with
    | zero =>
      simp at hu
      subst hu
      have hj : j < v.cells.size := (Array.getElem?_eq_some_iff.1 hq).1
      rw [Nat.zero_mul, Nat.zero_add, List.getElem?_append_left (by rw [Array.length_toList]; exact hj)]
      simpa using hq
    | succ i =>
      have := flat_get (k := k) (us := us) (fun v hv => h v (by simp [hv])) i u (by simpa using hu) j q hq
      rw [List.getElem?_append_right (by rw [hv, Nat.add_mul]; omega), hv]
      rw [show (i + 1) * k + j - k = i * k + j by rw [Nat.add_mul]; omega]
      exact this
theorem flat_append (us vs : List Value) : flat' (us ++ vs) = flat' us ++ flat' vs := by simp [flat']
theorem flat_take {k : Nat} : ∀ {us : List Value}, (∀ u ∈ us, u.cells.size = k) → ∀ n, flat' (us.take n) = (flat' us).take (n * k)
  | [], _, n => by simp [flat']
  | v :: us, h, 0 => by simp [flat']
  | v :: us, h, n + 1 => by
    have hv : v.cells.toList.length = k := by rw [Array.length_toList]; exact h v (by simp)
    have := flat_take (k := k) (us := us) (fun v hv => h v (by simp [hv])) n
    simp only [flat', List.take_succ_cons, List.map_cons, List.flatten_cons] at *
    rw [this, List.take_append, hv, List.take_of_length_le (l := v.cells.toList) (by rw [hv, Nat.add_mul]; omega)]
    congr 2
    rw [Nat.add_mul]; omega
theorem flat_drop {k : Nat} : ∀ {us : List Value}, (∀ u ∈ us, u.cells.size = k) → ∀ n, flat' (us.drop n) = (flat' us).drop (n * k)
  | [], _, n => by simp [flat']
  | v :: us, h, 0 => by simp [flat']
  | v :: us, h, n + 1 => by
    have hv : v.cells.toList.length = k := by rw [Array.length_toList]; exact h v (by simp)
    have := flat_drop (k := k) (us := us) (fun v hv => h v (by simp [hv])) n
    simp only [flat', List.drop_succ_cons, List.map_cons, List.flatten_cons] at *
    rw [this, List.drop_append, hv, List.drop_eq_nil_of_le (as := v.cells.toList) (by rw [hv, Nat.add_mul]; omega), List.nil_append]
    congr 1
    rw [Nat.add_mul]; omega

theorem evBox_sound {t : TypeId} {y : AV} {u : Value} (hh : HR w Z R h) (hv : VR w Z R y u) (e : evBox h t y = some (x, h')) :
    ∃ w' R', (newVar t u).run P w = .ok ⟨w.heap.size, 0, none⟩ w' ∧ HR w' Z R' h' ∧ VR w' Z R' x (.pointer (some ⟨w.heap.size, 0, none⟩)) ∧ Step w Z R h w' Z R' h' ∧ w.grownBy w' none := by
  unfold evBox at e
  split at e
  · next hnt =>
    injection e with e
    injection e with e1 e2
    subst e1 e2
    obtain ⟨hs, hc⟩ := hv.cells
    obtain ⟨h1, h2, h3⟩ := hh.new (cap := 1) (k := y.nc) (t := t) (es := [y]) (us := [u]) (arr := u.cells) (grown_alloc w _) (Nat.le_refl _) (heap_alloc_new w _) (.cons hv .nil) (by rw [hs]; omega) (by simp) (by unfold maxLen; omega) (fun i q hq => by
      cases i with
      | zero =>
        simp at hq; subst hq
        exact ⟨hs, hv.cells_one hnt, fun j q hq => by simpa using hq⟩
      | succ i => simp at hq)
    refine ⟨_, _, rfl, h1, ?_, h2, grown_alloc w _⟩
    have := VR.pt (w := w.alloc (.cells u.cells t)) (Z := Z) (b := h.length) (i := 0) (off := 0) h3
    simpa using this
  · cases e

theorem fillA_sound {k : Nat} : ∀ {ps : List (Nat × AV)} {vs : List Value} {es es' : List AV} {us : List Value},
    VRs w Z R (ps.map (·.2)) vs → VRs w Z R es us → (∀ u ∈ us, u.cells.size = k ∧ ∀ q ∈ u.cells, q.oneCell' = true) → fillA es k ps = some es' →
    ∃ us', Instr.fill (fun i => some (i * k, k)) (flat' us).toArray ((ps.map (·.1)).zip vs) = some (flat' us').toArray ∧ VRs w Z R es' us' ∧ (∀ u ∈ us', u.cells.size = k ∧ ∀ q ∈ u.cells, q.oneCell' = true)
  | [], vs, es, es', us, hv, hc, h1, e => by
    injection e with e; subst e
    exact ⟨us, by simp [Instr.fill], hc, h1⟩
  | (i, y) :: ps, vs, es, es', us, hv, hc, h1, e => by
    obtain ⟨v, vs', rfl, hy, hn⟩ := VRs.head (by simpa using hv)
    unfold fillA at e
    split at e
    · next hcond =>
      obtain ⟨k1, k2, k3⟩ := hcond
      have hsz : v.cells.size = k := by rw [hy.cells.1, k2]
      obtain ⟨u', g1, g2, _⟩ := hy.cells.2.elm (List.all_eq_true.2 fun q hq => hy.cells_one k3 q (by simpa using hq))
      have hul : i < us.length := by rw [hc.len]; exact k1
      have h1' : ∀ u ∈ us.set i u', u.cells.size = k ∧ ∀ q ∈ u.cells, q.oneCell' = true := fun u hu => by
        rcases List.mem_or_eq_of_mem_set hu with hu | rfl
        · exact h1 u hu
        · rw [g2]; exact ⟨by simpa using hsz, fun q hq => hy.cells_one k3 q (by simpa using hq)⟩
      obtain ⟨us', q1, q2, q3⟩ := fillA_sound hn (hc.set i g1) h1' e
      refine ⟨us', ?_, q2, q3⟩
      simp only [List.map_cons, List.zip_cons_cons]
      have hall : ∀ u ∈ us, u.cells.size = k := fun u hu => (h1 u hu).1
      have hfl := flat_len (k := k) hall
      rw [fill_step (fun i => some (i * k, k)) (flat' us) i v _ rfl hsz (by rw [hfl]; have := Nat.mul_le_mul_right k (show i + 1 ≤ us.length by omega); rw [Nat.add_mul] at this; omega)]
      have e2 : flat' (us.set i u') = (flat' us).take (i * k) ++ v.cells.toList ++ (flat' us).drop (i * k + k) := by
        rw [List.set_eq_take_append_cons_drop, if_pos hul, flat_append, flat_take hall]
        have : flat' (u' :: us.drop (i + 1)) = u'.cells.toList ++ flat' (us.drop (i + 1)) := by simp [flat']
        rw [this, flat_drop hall, g2, List.append_assoc]
        congr 3
        rw [Nat.add_mul]; omega
      rw [← e2]
      exact q1
    · cases e

theorem evLit_sound (hρ : ∀ o x, ρ o = some x → VR w Z R x (ve o)) (hh : HR w Z R h) {t : TypeId} {n : Nat} {ps : Array (Nat × Operand)} {xs : List (Nat × AV)} (ho : o.op = .buildSlice t n ps) (hp : partsOf ρ ps.toList = some xs) (e : evLit P h t n xs = some (x, h')) : Nw P w Z R h x h' ve o := by
  obtain ⟨p1, p2⟩ := partsOf_vr hρ hp
  unfold evLit at e
  split at e
  · next el hel =>
    have hund : P.underlying t = some (.slice el) := by
      unfold tyElem at hel
      split at hel
      · next h1 => injection hel with hel; subst hel; exact h1
      · cases hel
    split at e
    · next i z hi hz =>
      split at e
      · next hc =>
        obtain ⟨c1, c2, c3, c4⟩ := hc
        split at e
        · next es hes =>
          injection e with e
          injection e with e1 e2
          subst e1 e2
          obtain ⟨uz, hu, hnt, hrz, _⟩ := run_zero' (w := w) (Z := Z) (R := R) hz
          obtain ⟨u', g1, g2, _⟩ := hu.cells.2.elm (List.all_eq_true.2 fun q hq => hu.cells_one hnt q (by simpa using hq))
          have husz : uz.cells.size = i.size := by rw [hu.cells.1, c3]
          obtain ⟨us', q1, q2, q3⟩ := fillA_sound p2 (VRs.replicate n g1) (fun u hu' => by
            have := List.eq_of_mem_replicate hu'
            subst this
            rw [g2]; exact ⟨by simpa using husz, fun q hq => hu.cells_one hnt q (by simpa using hq)⟩) hes
          have hpl : ps.map (fun x => match x with | (i, x) => (i, ve x)) = ((xs.map (·.1)).zip (ps.toList.map fun p => ve p.2)).toArray := by
            apply Array.ext'
            rw [Array.toList_map, p1]
            simp only [List.zip_map']
          have hfl : (flat' us').length = us'.length * i.size := flat_len fun u hu => (q3 u hu).1
          have hlen : us'.length = n := by
            rw [q2.len]
            clear q1 q2 q3 hfl
            have : ∀ {ps : List (Nat × AV)} {es es' : List AV}, fillA es i.size ps = some es' → es'.length = es.length := by
              intro ps
              induction ps with
              | nil => intro es es' e; injection e with e; rw [e]
              | cons p ps ih =>
                intro es es' e
                obtain ⟨j, y⟩ := p
                unfold fillA at e
                split at e
                · rw [ih e]; simp
                · cases e
            rw [this hes]; simp
          have hsi : tySize P el = some i.size := by simp [tySize, hi]
          obtain ⟨r1, r2, r3⟩ := hh.new (w' := w.alloc (.cells (flat' us').toArray el)) (c := w.heap.size) (cap := n) (k := i.size) (t := el) (grown_alloc w _) (Nat.le_refl _) (heap_alloc_new w _) q2 (by simp [hfl, hlen]) (by have := q2.len; omega) (by have : n ≤ n * i.size := Nat.le_mul_of_pos_right n c2; unfold maxLen; omega) (fun j u hu => ⟨(q3 u (List.mem_of_getElem? hu)).1, (q3 u (List.mem_of_getElem? hu)).2, fun k q hq => by
            have := flat_get (fun u hu => (q3 u hu).1) j u hu k q hq
            simpa using this⟩)
          refine ⟨.slice (some ⟨w.heap.size, 0, none⟩) n n, _, _, ?_, r1, ?_, r2, grown_alloc w _⟩
          · have hcells : (Array.range (n * i.size)).map (fun j => uz.cells[j % uz.cells.size]!) = (flat' (List.replicate n u')).toArray := by
              apply Array.ext'
              apply List.ext_getElem?
              intro j
              rw [Array.toList_map]
              have hl2 : (flat' (List.replicate n u')).length = n * i.size := by
                rw [flat_len (k := i.size) (fun u hu' => by rw [List.eq_of_mem_replicate hu', g2]; simpa using husz)]; simp
              by_cases hj : j < n * i.size
              · have hk : j / i.size < n := Nat.div_lt_of_lt_mul (by rw [Nat.mul_comm]; exact hj)
                have hm : j % i.size < i.size := Nat.mod_lt _ c2
                have := flat_get (k := i.size) (us := List.replicate n u') (fun u hu' => by rw [List.eq_of_mem_replicate hu', g2]; simpa using husz) (j / i.size) u' (by simp [hk]) (j % i.size) uz.cells[j % i.size]! (by
                  rw [g2]
                  have hlt : j % i.size < uz.cells.size := by omega
                  simp [hlt])
                rw [show j / i.size * i.size + j % i.size = j by rw [Nat.mul_comm]; exact Nat.div_add_mod j i.size] at this
                rw [this]
                simp [hj, husz]
              · rw [List.getElem?_eq_none (by simp; omega), List.getElem?_eq_none (by simp [hl2]; omega)]
            have h24 : ¬ (n * i.size > 2 ^ 24) := by omega
            simp only [execOp, ho, hpl, Instr.buildSlice, Sem.run_bind, run_underlying hund, Result.andThen, run_size' hsi]
            rw [if_neg h24]
            by_cases h0 : n * i.size = 0
            · rw [if_pos h0]
              have hn0 : n = 0 := by
                rcases Nat.mul_eq_zero.1 h0 with h | h
                · exact h
                · omega
              subst hn0
              have e0 : ((Array.range (0 * i.size)).map fun j => (#[] : Array Value)[j % (#[] : Array Value).size]!) = (flat' (List.replicate 0 u')).toArray := by
                apply Array.ext'
                simp [flat']
              simp only [Sem.run_bind, Sem.run_pure, Result.andThen]
              rw [e0, q1]
              simp [newRow]
            · rw [if_neg h0]
              simp only [Sem.run_bind, hrz, Result.andThen, Sem.run_pure, hcells]
              rw [q1]
              simp [newRow]
          · have := VR.rf (w := w.alloc (.cells (flat' us').toArray el)) (Z := Z) (b := h.length) (lo := 0) (n := n) (m := n) (c := n) r3 (Nat.le_refl _) (Nat.le_refl _) (by simp) (by have : n ≤ n * i.size := Nat.le_mul_of_pos_right n c2; show n ≤ maxLen; unfold maxLen; omega)
            simpa using this
        · cases e
      · cases e
    · cases e
  · cases e
end
end Go.Proofs.YthofgamegondnaaDoor

namespace Go.Proofs.YthofgamegondnaaDoor
open Go.RowKit

section
variable {P : Program} {w : World} {Z : Nat → Prop} {R : List RI} {h h' : Hp} {ρ : Operand → Option AV} {ve : Operand → Value} {o : Oper} {x : AV}

theorem tyElem_und {t el : TypeId} (hel : tyElem P t = some el) : P.underlying t = some (.slice el) := by
  unfold tyElem at hel
  split at hel
  · next h1 => injection hel with hel; subst hel; exact h1
  · cases hel

theorem evMake_sound (hρ : ∀ o x, ρ o = some x → VR w Z R x (ve o)) (hh : HR w Z R h) {t : TypeId} {p q : Operand} {y z : AV} (ho : o.op = .makeSlice t p q) (hp : ρ p = some y) (hq : ρ q = some z) (e : evMake P h t y z = some (x, h')) : Nw P w Z R h x h' ve o := by
  unfold evMake at e
  split at e
  · next el n c hel hn hc =>
    have hund := tyElem_und hel
    split at e
    · next i z hi hz =>
      split at e
      · next hcond =>
        obtain ⟨rfl, c2, c3, c4, c5, c6⟩ := hcond
        injection e with e
        injection e with e1 e2
        subst e1 e2
        obtain ⟨k1, hv1⟩ := intOfA_inv hn (hρ _ _ hp)
        obtain ⟨k2, hv2⟩ := intOfA_inv hc (hρ _ _ hq)
        obtain ⟨uz, hu, hnt, _, i', hi', hz'⟩ := run_zero' (w := w) (Z := Z) (R := R) hz
        rw [hi] at hi'
        injection hi' with hi'
        subst hi'
        have husz : uz.cells.size = i.size := by rw [hu.cells.1, c5]
        have hrun := run_make (P := P) w t el i uz hund hi hz' k1 k2 n n c2 (Int.le_refl _) (by omega) (by omega)
        have hget : ∀ (a j : Nat) (q : Value), a < n.toNat → uz.cells[j]? = some q → (madeCells uz.cells (n.toNat * i.size))[a * i.size + j]? = some q := by
          intro a j q ha hj
          have hjl : j < i.size := by rw [← husz]; exact (Array.getElem?_eq_some_iff.1 hj).1
          have hlt : a * i.size + j < n.toNat * i.size := by
            have := Nat.mul_le_mul_right i.size (show a + 1 ≤ n.toNat by omega)
            rw [Nat.add_mul] at this; omega
          have hmod : (a * i.size + j) % i.size = j := by rw [Nat.add_comm, Nat.mul_comm, Nat.add_mul_mod_self_left, Nat.mod_eq_of_lt hjl]
          simp [madeCells, hlt, husz, hmod]
          have h2 : j < uz.cells.size := by omega
          simp [h2] at hj ⊢
          exact hj
        obtain ⟨r1, r2, r3⟩ := hh.new (w' := w.alloc (.cells (madeCells uz.cells (n.toNat * i.size)) el)) (c := w.heap.size) (cap := n.toNat) (k := i.size) (t := el) (grown_alloc w _) (Nat.le_refl _) (heap_alloc_new w _) (VRs.replicate n.toNat hu) (size_madeCells _ _) (by simp) (by unfold maxLen; omega) (fun j u hu' => by
          have hj : j < n.toNat := by have := (List.getElem?_eq_some_iff.1 hu').1; simpa using this
          have := List.eq_of_mem_replicate (List.mem_of_getElem? hu')
          subst this
          exact ⟨husz, hu.cells_one c6, fun k q hq => hget j k q hj hq⟩)
        refine ⟨_, _, _, by simp only [execOp, ho, hv1, hv2]; rw [Sem.run_bind, hrun]; rfl, r1, ?_, r2, grown_alloc w _⟩
        have := VR.rf (w := w.alloc (.cells (madeCells uz.cells (n.toNat * i.size)) el)) (Z := Z) (b := h.length) (lo := 0) (n := n.toNat) (m := n.toNat) (c := n.toNat) r3 (Nat.le_refl _) (Nat.le_refl _) (by simp) (by show n.toNat ≤ maxLen; unfold maxLen; omega)
        simpa using this
      · cases e
    · cases e
  · cases e

theorem evOpN_sound (hρ : ∀ o x, ρ o = some x → VR w Z R x (ve o)) (hh : HR w Z R h) (e : evOpN P ρ h o.op = some (x, h')) : Nw P w Z R h x h' ve o := by
  unfold evOpN at e
  split at e
  · next t ho =>
    split at e
    · next z hz =>
      obtain ⟨u, hu, _, hr, _⟩ := run_zero' (w := w) (Z := Z) (R := R) hz
      obtain ⟨w', R', h1, h2, h3, h4, h5⟩ := evBox_sound (P := P) hh hu e
      exact ⟨_, w', R', by simp [execOp, ho, Instr.alloc, hr, h1], h2, h3, h4, h5⟩
    · cases e
  · next t a ho =>
    split at e
    · next y hy =>
      obtain ⟨w', R', h1, h2, h3, h4, h5⟩ := evBox_sound (P := P) hh (hρ _ _ hy) e
      exact ⟨_, w', R', by simp [execOp, ho, Instr.box, h1], h2, h3, h4, h5⟩
    · cases e
  · next t n ps ho =>
    split at e
    · next xs hxs => exact evLit_sound hρ hh ho hxs e
    · cases e
  · next t a b ho =>
    split at e
    · next y z hy hz => exact evMake_sound hρ hh ho hy hz e
    · cases e
  · cases e

/-- Cells set one behind the other: the block, and the rest. -/
theorem heap_setCells (b : Nat) : ∀ (vs : List Value) (o : Nat) (w : World) (arr : Array Value) (t : TypeId), w.heap[b]? = some (.cells arr t (0, 0)) → o + vs.length ≤ arr.size →
    (w.setCells b o vs).heap[b]? = some (.cells (arr.toList.take o ++ vs ++ arr.toList.drop (o + vs.length)).toArray t (0, 0)) ∧ w.grownBy (w.setCells b o vs) (some b) ∧ (w.setCells b o vs).heap.size = w.heap.size
  | [], o, w, arr, t, hb, hl => by
    refine ⟨?_, ⟨rfl, rfl, rfl, Nat.le_refl _, fun _ _ _ => rfl⟩, rfl⟩
    simp only [World.setCells, List.append_nil, List.length_nil, Nat.add_zero, List.take_append_drop]
    exact hb
  | v :: vs, o, w, arr, t, hb, hl => by
    simp only [List.length_cons] at hl
    have h1 : (w.setCell ⟨b, o, none⟩ v).heap[b]? = some (.cells (arr.setIfInBounds o v) t (0, 0)) := by
      simp [World.setCell, Array.getElem?_modify, hb]
    obtain ⟨k1, k2, k3⟩ := heap_setCells b vs (o + 1) (w.setCell ⟨b, o, none⟩ v) (arr.setIfInBounds o v) t h1 (by simp; omega)
    refine ⟨?_, ?_, ?_⟩
    · rw [World.setCells, k1]
      congr 3
      rw [Array.toList_setIfInBounds]
      apply List.ext_getElem?
      intro q
      by_cases h1 : q < o
      · rw [List.append_assoc, List.getElem?_append_left (by simp; omega), List.append_assoc, List.getElem?_append_left (by simp; omega), List.getElem?_take_of_lt (by omega), List.getElem?_take_of_lt (by omega), List.getElem?_set_ne (by omega)]
      · by_cases h2 : q = o
        · subst h2
          rw [List.append_assoc, List.getElem?_append_left (by simp; omega), List.append_assoc, List.getElem?_append_right (by simp; omega), List.getElem?_take_of_lt (by omega), List.getElem?_set_self (by rw [Array.length_toList]; omega)]
          have hm : q - (arr.toList.take q).length = 0 := by simp; omega
          rw [hm]; rfl
        · by_cases h3 : q < o + 1 + vs.length
          · rw [List.append_assoc, List.getElem?_append_right (by simp; omega), List.getElem?_append_left (by simp; omega), List.append_assoc, List.getElem?_append_right (by simp; omega), List.getElem?_append_left (by simp; omega)]
            simp only [List.length_take, List.length_set, Array.length_toList]
            rw [show q - min o arr.size = (q - min (o + 1) arr.size) + 1 by omega, List.getElem?_cons_succ]
          · rw [List.getElem?_append_right (by simp; omega), List.getElem?_append_right (by simp; omega)]
            simp only [List.length_append, List.length_take, List.length_set, List.length_cons, List.getElem?_drop, Array.length_toList]
            rw [List.getElem?_set_ne (by omega)]
            congr 1
            omega
    · refine ⟨k2.os, k2.tape, k2.output, by rw [World.setCells, k3]; simp [World.setCell], fun k hk hne => ?_⟩
      rw [World.setCells, k2.block k (by simpa [World.setCell] using hk) hne]
      exact Below.heap_setCell _ _ _ _ (fun e => hne (by rw [e]))
    · rw [World.setCells, k3]; simp [World.setCell]

theorem splice_len {α : Type} (l m : List α) (a : Nat) (h : a + m.length ≤ l.length) : (l.take a ++ m ++ l.drop (a + m.length)).length = l.length := by
  simp only [List.length_append, List.length_take, List.length_drop]; omega
/-- Cells of an own block turned, element by element. -/
theorem HR.write (hh : HR w Z R h) {b lo : Nat} {B : Blk} {r : RI} {ys : List AV} {vs : List Value} (hB : h[b]? = some (some B)) (hf : B.fz = false) (hr : R[b]? = some r) (hle : lo + ys.length ≤ r.cap) (hlo : lo ≤ B.es.length) (hy : VRs w Z R ys vs) (h1 : ∀ u ∈ vs, u.cells.size = B.k ∧ ∀ q ∈ u.cells, q.oneCell' = true) :
    let es := B.es.take lo ++ ys ++ B.es.drop (lo + ys.length)
    let w' := w.setCells r.c (lo * B.k) (flat' vs)
    HR w' Z R (h.set b (some { B with es := es })) ∧ Step w Z R h w' Z R (h.set b (some { B with es := es })) ∧ (∀ j, j < (flat' vs).length → (w.cell? ⟨r.c, lo * B.k + j, none⟩).isSome = true) ∧ (∀ j, j < (flat' vs).length → w.frozen? ⟨r.c, lo * B.k + j, none⟩ = false) ∧ (∀ v ∈ flat' vs, v.oneCell' = true) := by
  intro es w'
  obtain ⟨r', arr, us, g1, g2, g3, g4, g5, g6, g7, g8, g9, g10⟩ := hh.blk b B hB
  rw [hr] at g1
  injection g1 with g1
  subst g1
  have hall : ∀ u ∈ us, u.cells.size = B.k := fun u hu => by
    obtain ⟨i, hi⟩ := List.mem_iff_getElem?.1 hu
    exact (g10 i u hi).1
  have hfl := flat_len (k := B.k) (us := vs) fun u hu => (h1 u hu).1
  have hvl : vs.length = ys.length := hy.len
  have hsz : lo * B.k + (flat' vs).length ≤ arr.size := by
    rw [hfl, g4, hvl, ← Nat.add_mul]; exact Nat.mul_le_mul_right _ hle
  obtain ⟨k1, k2, k3⟩ := heap_setCells r.c (flat' vs) (lo * B.k) w arr B.t g3 hsz
  have hus' : VRs w Z R es (us.take lo ++ vs ++ us.drop (lo + ys.length)) := ((g9.take lo).append hy).append (g9.drop _)
  have hlen : es.length ≤ r.cap := by simp [es]; omega
  have hput := hh.put (w' := w') (es := es) (us := us.take lo ++ vs ++ us.drop (lo + ys.length)) hB hf hr k2 k1 (by rw [← g4, List.size_toArray, splice_len arr.toList (flat' vs) (lo * B.k) (by rw [Array.length_toList]; exact hsz), Array.length_toList]) hlen hus' (fun i u hu => by
    have hA : ∀ (i : Nat) (u : Value), us[i]? = some u → ∀ (j : Nat) (q : Value), u.cells[j]? = some q → arr.toList[i * B.k + j]? = some q := fun i u hu j q hq => by simpa using (g10 i u hu).2.2 j q hq
    have hlow : lo * B.k ≤ arr.toList.length := by rw [Array.length_toList]; omega
    rcases Nat.lt_or_ge i lo with hi | hi
    · rw [List.append_assoc, List.getElem?_append_left (by simp [g9.len]; omega), List.getElem?_take_of_lt hi] at hu
      refine ⟨(g10 i u hu).1, (g10 i u hu).2.1, fun j q hq => ?_⟩
      have hj : j < B.k := by rw [← (g10 i u hu).1]; exact (Array.getElem?_eq_some_iff.1 hq).1
      have hlt : i * B.k + j < lo * B.k := by have := Nat.mul_le_mul_right B.k (show i + 1 ≤ lo by omega); rw [Nat.add_mul] at this; omega
      rw [List.getElem?_toArray, List.append_assoc, List.getElem?_append_left (by simp; omega), List.getElem?_take_of_lt hlt]
      exact hA i u hu j q hq
    · have hlenT : (us.take lo).length = lo := by simp [g9.len]; omega
      rcases Nat.lt_or_ge i (lo + ys.length) with hi2 | hi2
      · rw [List.append_assoc, List.getElem?_append_right (by omega), hlenT, List.getElem?_append_left (by omega)] at hu
        have hm := List.mem_of_getElem? hu
        refine ⟨(h1 u hm).1, (h1 u hm).2, fun j q hq => ?_⟩
        have hj : j < B.k := by rw [← (h1 u hm).1]; exact (Array.getElem?_eq_some_iff.1 hq).1
        have hfg := flat_get (k := B.k) (us := vs) (fun u hu => (h1 u hu).1) (i - lo) u hu j q hq
        have hsub : i * B.k + j - lo * B.k = (i - lo) * B.k + j := by
          rw [Nat.sub_mul]; have := Nat.mul_le_mul_right B.k hi; omega
        have hge : lo * B.k ≤ i * B.k := Nat.mul_le_mul_right B.k hi
        have hlt : (i - lo) * B.k + j < (flat' vs).length := (List.getElem?_eq_some_iff.1 hfg).1
        have hlt2 : ((arr.toList.take (lo * B.k))).length = lo * B.k := by simp; rw [Array.length_toList] at hlow; omega
        rw [List.getElem?_toArray, List.append_assoc, List.getElem?_append_right (by omega), hlt2, hsub, List.getElem?_append_left hlt]
        exact hfg
      · rw [List.getElem?_append_right (by simp [hvl, g9.len]; omega), List.getElem?_drop] at hu
        have hidx : lo + ys.length + (i - (us.take lo ++ vs).length) = i := by simp [hvl, g9.len]; omega
        rw [hidx] at hu
        refine ⟨(g10 i u hu).1, (g10 i u hu).2.1, fun j q hq => ?_⟩
        have hge : (lo + ys.length) * B.k ≤ i * B.k := Nat.mul_le_mul_right B.k hi2
        rw [Nat.add_mul] at hge
        have hlt2 : (arr.toList.take (lo * B.k) ++ flat' vs).length = lo * B.k + ys.length * B.k := by
          rw [List.length_append, List.length_take, hfl, hvl]; rw [Array.length_toList] at *; omega
        rw [List.getElem?_toArray, List.getElem?_append_right (by omega), hlt2, List.getElem?_drop, hfl, hvl]
        rw [show lo * B.k + ys.length * B.k + (i * B.k + j - (lo * B.k + ys.length * B.k)) = i * B.k + j by omega]
        exact hA i u hu j q hq)
  refine ⟨hput.1, hput.2, fun j hj => ?_, fun j hj => by simp [World.frozen?, g3], fun v hv => ?_⟩
  · have : lo * B.k + j < arr.size := by omega
    simp [World.cell?, g3, this]
  · obtain ⟨u, hu, hv'⟩ := List.mem_flatten.1 hv
    obtain ⟨u', hu', rfl⟩ := List.mem_map.1 hu
    exact (h1 u' hu').2 v (by simpa using hv')
end
end Go.Proofs.YthofgamegondnaaDoor
