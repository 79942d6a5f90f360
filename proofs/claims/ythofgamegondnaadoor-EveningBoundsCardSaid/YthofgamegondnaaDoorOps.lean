/- The engine: rules for the pure operations (integers, bools, tuples). -/
import Derived.Test.YthofgamegondnaaDoorBase
namespace Go.Proofs.YthofgamegondnaaDoor
open Go.RowKit

theorem w64_in {n : Int} (h1 : -9223372036854775808 ≤ n) (h2 : n ≤ 9223372036854775807) : IntKind.i64.wrap n = n := by
  exact IntWalk.i64_in n ⟨h1, h2⟩

/-- The operation yields v and leaves the world alone. -/
def Rn (P : Program) (l : List (Nat × Value)) (s : Nat → Value) (w : World) (o : Oper) (v : Value) : Prop := (execOp (ev l s) o).run P w = .ok (.value v) w

section rules
variable {P : Program} {Q : Exit → Act → World → Prop} {F : Frm} {l : List (Nat × Value)} {w : World} {ops : Array Oper} {rest : List Oper}
variable {d : Nat} {ty t t2 : TypeId} {pos : String} {af : Array Edge} {x y : Operand}

theorem st_move {v : Value} (hx : ev l F.s x = v) : Rn P l F.s w ⟨some d, .move x, ty, pos, af, none⟩ (v) :=
  (by unfold Rn; rw [show execOp (ev l F.s) ⟨some d, .move x, ty, pos, af, none⟩ = pure (.value (ev l F.s x)) from rfl, hx]; rfl)
theorem st_assign {v : Value} (hx : ev l F.s x = v) : Rn P l F.s w ⟨some d, .assign x, ty, pos, af, none⟩ (v) :=
  (by unfold Rn; rw [show execOp (ev l F.s) ⟨some d, .assign x, ty, pos, af, none⟩ = pure (.value (ev l F.s x)) from rfl, hx]; rfl)

theorem run_binInt {op : BinOp} {m n : Int} {K : IntKind} {v : Value} (hx : ev l F.s x = .int K m) (hy : ev l F.s y = .int K n) (hb : (binOp op t (.int K m) (.int K n)).run P w = .ok v w) :
    (execOp (ev l F.s) ⟨some d, .binOp op t x y t2, ty, pos, af, none⟩).run P w = .ok (.value v) w := by
  simp only [execOp, hx, hy]
  have hg : eqGuard op t x y (.int K m) (.int K n) = pure () := by
    unfold eqGuard
    cases op <;> rfl
  rw [hg]
  simp [hb]

theorem st_add {m n : Int} (hx : ev l F.s x = .int .i64 m) (hy : ev l F.s y = .int .i64 n) (h1 : -9223372036854775808 ≤ m + n) (h2 : m + n ≤ 9223372036854775807) : Rn P l F.s w ⟨some d, .binOp .add t x y t2, ty, pos, af, none⟩ (.int .i64 (m + n)) :=
  run_binInt hx hy ((fun w => by simp [binOp, Op.intArith, w64_in h1 h2]) w)
theorem st_sub {m n : Int} (hx : ev l F.s x = .int .i64 m) (hy : ev l F.s y = .int .i64 n) (h1 : -9223372036854775808 ≤ m - n) (h2 : m - n ≤ 9223372036854775807) : Rn P l F.s w ⟨some d, .binOp .sub t x y t2, ty, pos, af, none⟩ (.int .i64 (m - n)) :=
  run_binInt hx hy ((fun w => by simp [binOp, Op.intArith, w64_in h1 h2]) w)
theorem st_mul {m n : Int} (hx : ev l F.s x = .int .i64 m) (hy : ev l F.s y = .int .i64 n) (h1 : -9223372036854775808 ≤ m * n) (h2 : m * n ≤ 9223372036854775807) : Rn P l F.s w ⟨some d, .binOp .mul t x y t2, ty, pos, af, none⟩ (.int .i64 (m * n)) :=
  run_binInt hx hy ((fun w => by simp [binOp, Op.intArith, w64_in h1 h2]) w)
theorem st_quo {m n : Int} (hx : ev l F.s x = .int .i64 m) (hy : ev l F.s y = .int .i64 n) (h1 : 0 ≤ m) (hm : m ≤ 9223372036854775807) (h2 : 0 < n) : Rn P l F.s w ⟨some d, .binOp .quo t x y t2, ty, pos, af, none⟩ (.int .i64 (m / n)) :=
  run_binInt hx hy ((fun w => by
    have h3 : m.tdiv n = m / n := Int.tdiv_eq_ediv_of_nonneg h1
    have h4 : 0 ≤ m / n := Int.ediv_nonneg h1 (by omega)
    have h5 : m / n ≤ m := Int.ediv_le_self _ h1
    have hw : IntKind.i64.wrap (m / n) = m / n := w64_in (by omega) (by omega)
    simp [binOp, Op.intDiv, show n ≠ 0 by omega, h3, hw]) w)
theorem st_rem {m n : Int} (hx : ev l F.s x = .int .i64 m) (hy : ev l F.s y = .int .i64 n) (h1 : 0 ≤ m) (h2 : 0 < n) : Rn P l F.s w ⟨some d, .binOp .rem t x y t2, ty, pos, af, none⟩ (.int .i64 (m % n)) :=
  run_binInt hx hy ((fun w => by
    have h3 : m.tmod n = m % n := Int.tmod_eq_emod_of_nonneg h1
    simp [binOp, Op.intDiv, show n ≠ 0 by omega, h3]) w)
theorem st_trem {m n : Int} (hx : ev l F.s x = .int .i64 m) (hy : ev l F.s y = .int .i64 n) (h2 : n ≠ 0) : Rn P l F.s w ⟨some d, .binOp .rem t x y t2, ty, pos, af, none⟩ (.int .i64 (m.tmod n)) :=
  run_binInt hx hy ((fun w => by simp [binOp, Op.intDiv, h2]) w)
theorem st_tquo {m n : Int} (hx : ev l F.s x = .int .i64 m) (hy : ev l F.s y = .int .i64 n) (h2 : n ≠ 0) (h3 : -9223372036854775808 ≤ m.tdiv n) (h4 : m.tdiv n ≤ 9223372036854775807) : Rn P l F.s w ⟨some d, .binOp .quo t x y t2, ty, pos, af, none⟩ (.int .i64 (m.tdiv n)) :=
  run_binInt hx hy ((fun w => by simp [binOp, Op.intDiv, h2, w64_in h3 h4]) w)
theorem st_lss {m n : Int} {K : IntKind} (hx : ev l F.s x = .int K m) (hy : ev l F.s y = .int K n) : Rn P l F.s w ⟨some d, .binOp .lss t x y t2, ty, pos, af, none⟩ (.bool (decide (m < n))) :=
  run_binInt hx hy ((fun w => by simp [binOp, Op.intCmp]) w)
theorem st_leq {m n : Int} {K : IntKind} (hx : ev l F.s x = .int K m) (hy : ev l F.s y = .int K n) : Rn P l F.s w ⟨some d, .binOp .leq t x y t2, ty, pos, af, none⟩ (.bool (decide (m ≤ n))) :=
  run_binInt hx hy ((fun w => by simp [binOp, Op.intCmp]) w)
theorem st_gtr {m n : Int} {K : IntKind} (hx : ev l F.s x = .int K m) (hy : ev l F.s y = .int K n) : Rn P l F.s w ⟨some d, .binOp .gtr t x y t2, ty, pos, af, none⟩ (.bool (decide (n < m))) :=
  run_binInt hx hy ((fun w => by simp [binOp, Op.intCmp]) w)
theorem st_geq {m n : Int} {K : IntKind} (hx : ev l F.s x = .int K m) (hy : ev l F.s y = .int K n) : Rn P l F.s w ⟨some d, .binOp .geq t x y t2, ty, pos, af, none⟩ (.bool (decide (n ≤ m))) :=
  run_binInt hx hy ((fun w => by simp [binOp, Op.intCmp]) w)
theorem st_eql {m n : Int} {K : IntKind} (hx : ev l F.s x = .int K m) (hy : ev l F.s y = .int K n) : Rn P l F.s w ⟨some d, .binOp .eql t x y t2, ty, pos, af, none⟩ (.bool (decide (m = n))) :=
  run_binInt hx hy ((fun w => by
    have e : decide (m = n) = (m == n) := by by_cases h : m = n <;> simp [h]
    rw [e]
    simp [binOp, Op.intCmp]) w)
theorem st_neq {m n : Int} {K : IntKind} (hx : ev l F.s x = .int K m) (hy : ev l F.s y = .int K n) : Rn P l F.s w ⟨some d, .binOp .neq t x y t2, ty, pos, af, none⟩ (.bool (decide (m ≠ n))) :=
  run_binInt hx hy ((fun w => by
    have e : decide (m ≠ n) = (m != n) := by by_cases h : m = n <;> simp [h, bne]
    rw [e]
    simp [binOp, Op.intCmp]) w)

theorem st_not {b : Bool} (hx : ev l F.s x = .bool b) : Rn P l F.s w ⟨some d, .unOp .not t x, ty, pos, af, none⟩ (.bool (!b)) :=
  (by unfold Rn; simp [execOp, hx, Op.unary])
theorem st_neg {m : Int} (hx : ev l F.s x = .int .i64 m) (h1 : -9223372036854775808 ≤ -m) (h2 : -m ≤ 9223372036854775807) : Rn P l F.s w ⟨some d, .unOp .neg t x, ty, pos, af, none⟩ (.int .i64 (-m)) :=
  (by
    have e : IntKind.i64.wrap (0 - m) = -m := by rw [show (0:Int) - m = -m by omega]; exact w64_in h1 h2
    unfold Rn
    simp only [execOp, hx, Op.unary, Op.intArith, e]
    rfl)

theorem st_extract {vs : Array Value} {i : Nat} {v : Value} (hx : ev l F.s x = .tuple vs) (hi : vs[i]? = some v) : Rn P l F.s w ⟨some d, .extract x i, ty, pos, af, none⟩ (v) :=
  (by unfold Rn; simp [execOp, hx, Instr.extract, hi])

theorem st_makeFunc {fn : Fn} {a b : Array Operand} {va vb : List Value} (ha : a.toList.map (ev l F.s) = va) (hb : b.toList.map (ev l F.s) = vb) : Rn P l F.s w ⟨some d, .makeFunc fn a b, ty, pos, af, none⟩ (.func fn va.toArray vb.toArray) := by
  have ha' : a.map (ev l F.s) = va.toArray := by apply Array.ext'; rw [Array.toList_map]; exact ha
  have hb' : b.map (ev l F.s) = vb.toArray := by apply Array.ext'; rw [Array.toList_map]; exact hb
  unfold Rn
  simp [execOp, ha', hb', Instr.makeFunc]

theorem st_pick {z : Operand} {b : Bool} {v v' : Value} (hz : ev l F.s z = .bool b) (hx : ev l F.s x = v) (hy : ev l F.s y = v') : Rn P l F.s w ⟨some d, .pick z x y, ty, pos, af, none⟩ (if b then v else v') :=
  (by unfold Rn; simp [execOp, hz, hx, hy, asBool])

theorem st_pick_t {z : Operand} {b : Bool} {v : Value} (hz : ev l F.s z = .bool b) (hb : b = true) (hx : ev l F.s x = v) : Rn P l F.s w ⟨some d, .pick z x y, ty, pos, af, none⟩ v :=
  (by unfold Rn; simp [execOp, hz, hb, hx, asBool])
theorem st_pick_f {z : Operand} {b : Bool} {v : Value} (hz : ev l F.s z = .bool b) (hb : b = false) (hy : ev l F.s y = v) : Rn P l F.s w ⟨some d, .pick z x y, ty, pos, af, none⟩ v :=
  (by unfold Rn; simp [execOp, hz, hb, hy, asBool])
theorem st_max {m n : Int} {tys : Array TypeId} (hx : ev l F.s x = .int .i64 m) (hy : ev l F.s y = .int .i64 n) : Rn P l F.s w ⟨some d, .call ⟨.builtin .max, #[x, y], tys⟩, ty, pos, af, none⟩ (.int .i64 (max m n)) := by
  unfold Rn
  have e : (if n > m then n else m) = max m n := by omega
  simp [execOp, resolve, invoke, builtin, hx, hy, Builtin.max_, Builtin.max2, e]
theorem st_min {m n : Int} {tys : Array TypeId} (hx : ev l F.s x = .int .i64 m) (hy : ev l F.s y = .int .i64 n) : Rn P l F.s w ⟨some d, .call ⟨.builtin .min, #[x, y], tys⟩, ty, pos, af, none⟩ (.int .i64 (min m n)) := by
  unfold Rn
  have e : (if n < m then n else m) = min m n := by omega
  simp [execOp, resolve, invoke, builtin, hx, hy, Builtin.min_, Builtin.min2, e]
theorem st_nilCheck {a : Addr} (hx : ev l F.s x = .pointer (some a)) : Rn P l F.s w ⟨some d, .nilCheck x, ty, pos, af, none⟩ (.pointer (some a)) :=
  (by unfold Rn; simp [execOp, hx])
/-- A walk along a list of operations: what carries out one of them. -/
class Runs (P : outParam Program) (X : List Oper → Frm → List (Nat × Value) → World → Prop) : Prop where
  run : ∀ {o : Oper} {rest : List Oper} {F : Frm} {l : List (Nat × Value)} {w w' : World} {d : Nat} {v : Value}, o.guard = none → o.dst = some d → Nat.blt d F.N = true → (execOp (ev l F.s) o).run P w = .ok (.value v) w' → X rest F ((d, v) :: l) w' → X (o :: rest) F l w
  runNone : ∀ {o : Oper} {rest : List Oper} {F : Frm} {l : List (Nat × Value)} {w w' : World} {v : Value}, o.guard = none → o.dst = none → (execOp (ev l F.s) o).run P w = .ok (.value v) w' → X rest F l w' → X (o :: rest) F l w
  skip : ∀ {o : Oper} {rest : List Oper} {F : Frm} {l : List (Nat × Value)} {w w' : World}, o.guard = none → o.dst = none → (execOp (ev l F.s) o).run P w = .ok .skip w' → X rest F l w' → X (o :: rest) F l w
  enter : ∀ {o : Oper} {rest : List Oper} {F : Frm} {l : List (Nat × Value)} {w : World} {d : Nat} {f : FuncId} {vs : Array Value} {S : Value → World → Prop}, o.guard = none → o.dst = some d → Nat.blt d F.N = true → (execOp (ev l F.s) o).run P w = .ok (.enter f vs) w → Ret P f vs w S →
    (∀ v w', S v w' → X rest F ((d, v) :: l) w') → X (o :: rest) F l w
  enterNone : ∀ {o : Oper} {rest : List Oper} {F : Frm} {l : List (Nat × Value)} {w : World} {f : FuncId} {vs : Array Value} {S : Value → World → Prop}, o.guard = none → o.dst = none → (execOp (ev l F.s) o).run P w = .ok (.enter f vs) w → Ret P f vs w S →
    (∀ v w', S v w' → X rest F l w') → X (o :: rest) F l w

/-- A named Go function that can be entered. -/
structure Callable (P : Program) (f : FuncId) : Prop where
  run : ∀ (args : Array Value) (w : World), (callFunc f args).run P w = .ok (.enter f args) w

theorem wlx_enter {o : Oper} {f : FuncId} {vs : Array Value} {S : Value → World → Prop} (hg : o.guard = none) (hd : o.dst = some d) (hN : Nat.blt d F.N = true) (hrun : (execOp (ev l F.s) o).run P w = .ok (.enter f vs) w) (h : Ret P f vs w S)
    (k : ∀ v w', S v w' → WL P ops Q rest F ((d, v) :: l) w') : WL P ops Q (o :: rest) F l w := fun a ha =>
  wpListIn_plain hg fun K hK => by
    refine ⟨fun _ _ => trivial, ?_⟩
    rw [ha.eval, show (Fw F.ro).round = F.ro from rfl, semAt_run F.ro hrun (by simp)]
    refine ⟨(fun h => by cases h), CallsIn.mono (callsIn_fw F.ro _ h) fun e w' hS => ?_⟩
    cases e with
    | returned v =>
      show K (a.put o.dst v) w'
      rw [hd]
      exact hK _ _ (k v w' hS _ (ha.put hN v))
    | panicked c => exact hS.elim
    | outgrown => exact hS.elim
theorem wlx_enter_none {o : Oper} {f : FuncId} {vs : Array Value} {S : Value → World → Prop} (hg : o.guard = none) (hd : o.dst = none) (hrun : (execOp (ev l F.s) o).run P w = .ok (.enter f vs) w) (h : Ret P f vs w S)
    (k : ∀ v w', S v w' → WL P ops Q rest F l w') : WL P ops Q (o :: rest) F l w := fun a ha =>
  wpListIn_plain hg fun K hK => by
    refine ⟨fun _ _ => trivial, ?_⟩
    rw [ha.eval, show (Fw F.ro).round = F.ro from rfl, semAt_run F.ro hrun (by simp)]
    refine ⟨(fun h => by cases h), CallsIn.mono (callsIn_fw F.ro _ h) fun e w' hS => ?_⟩
    cases e with
    | returned v =>
      show K (a.put o.dst v) w'
      rw [hd]
      exact hK _ _ (k v w' hS _ ha)
    | panicked c => exact hS.elim
    | outgrown => exact hS.elim

instance : Runs P (WL P ops Q) where
  run := wl_run
  runNone := wl_run_value_none
  skip := wl_run_skip
  enter := wlx_enter
  enterNone := wlx_enter_none

section
variable {X : List Oper → Frm → List (Nat × Value) → World → Prop} [inst : Runs P X]
theorem wl_v {o : Oper} {v : Value} (h : Rn P l F.s w o v) (hg : o.guard = none) (hd : o.dst = some d) (hN : Nat.blt d F.N = true) (k : X rest F ((d, v) :: l) w) : X (o :: rest) F l w :=
  Runs.run hg hd hN h k
theorem wl_e {o : Oper} {C : Value → Prop} (h : ∃ v, C v ∧ ∀ w, Rn P l F.s w o v) (hg : o.guard = none) (hd : o.dst = some d) (hN : Nat.blt d F.N = true) (k : ∀ v, C v → X rest F ((d, v) :: l) w) : X (o :: rest) F l w := by
  obtain ⟨v, hC, hr⟩ := h
  exact Runs.run hg hd hN (hr w) (k v hC)
include inst in
theorem wl_call {f : FuncId} {args : Array Operand} {tys : Array TypeId} {vs : List Value} {S : Value → World → Prop} (hc : Callable P f) (hargs : args.toList.map (ev l F.s) = vs) (hN : Nat.blt d F.N = true) (h : Ret P f vs.toArray w S)
    (k : ∀ v w', S v w' → X rest F ((d, v) :: l) w') : X (⟨some d, .call ⟨.value (.func f), args, tys⟩, ty, pos, af, none⟩ :: rest) F l w :=
  Runs.enter rfl rfl hN (by
    have e : args.map (ev l F.s) = vs.toArray := by
      apply Array.ext'
      rw [← hargs, Array.toList_map]
    simp [execOp, resolve, ev, Deferred.ofValue, invoke, e, hc.run]) h k
include inst in
theorem wl_call0 {f : FuncId} {args : Array Operand} {tys : Array TypeId} {vs : List Value} {S : Value → World → Prop} (hc : Callable P f) (hargs : args.toList.map (ev l F.s) = vs) (h : Ret P f vs.toArray w S)
    (k : ∀ v w', S v w' → X rest F l w') : X (⟨none, .call ⟨.value (.func f), args, tys⟩, ty, pos, af, none⟩ :: rest) F l w :=
  Runs.enterNone rfl rfl (by
    have e : args.map (ev l F.s) = vs.toArray := by
      apply Array.ext'
      rw [← hargs, Array.toList_map]
    simp [execOp, resolve, ev, Deferred.ofValue, invoke, e, hc.run]) h k
include inst in
/-- A call of a function value whose code is known: what was captured comes behind the arguments. -/
theorem wl_callv {f : FuncId} {first cap : Array Value} {args : Array Operand} {tys : Array TypeId} {vs : List Value} {S : Value → World → Prop} (hx : ev l F.s x = .func (.func f) first cap) (hc : Callable P f) (hargs : first.toList ++ args.toList.map (ev l F.s) ++ cap.toList = vs) (hN : Nat.blt d F.N = true) (h : Ret P f vs.toArray w S)
    (k : ∀ v w', S v w' → X rest F ((d, v) :: l) w') : X (⟨some d, .call ⟨.value x, args, tys⟩, ty, pos, af, none⟩ :: rest) F l w :=
  Runs.enter rfl rfl hN (by
    have e : first ++ args.map (ev l F.s) ++ cap = vs.toArray := by rw [← hargs]; simp
    simp [execOp, resolve, hx, Deferred.ofValue, invoke, e, hc.run]) h k

include inst in
theorem wl_nilCheck0 {a : Addr} (hx : ev l F.s x = .pointer (some a)) (k : X rest F l w) :
    X (⟨none, .nilCheck x, ty, pos, af, none⟩ :: rest) F l w :=
  Runs.runNone rfl rfl (P := P) (by simp [execOp, hx]; rfl) k

end
end rules
end Go.Proofs.YthofgamegondnaaDoor
