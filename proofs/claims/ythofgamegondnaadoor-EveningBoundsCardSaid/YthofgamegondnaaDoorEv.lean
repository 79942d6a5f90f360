/- The abstract interpreter: code. -/
import Derived.Test.YthofgamegondnaaDoorOpY
namespace Go.Proofs.YthofgamegondnaaDoor
open Go.RowKit

/-- What the interpreter is told of the program: its functions, its variables (those that nobody writes), calls that are told by a function of their own. -/
structure Env where
  P : Program
  fn : FuncId → Option Func
  G : Nat → Option AV
  X : FuncId → Option (List AV → Option AV)
  I : FuncId → Bool

inductive Ex where
  | normal
  | exit (id : Nat)
  | ret
structure St where
  fr : List (Option AV)
  hp : Hp
/-- A range over a function that is under way: its yield, the frame in which a round begins. -/
structure YC where
  b : Nat
  fr : List (Option AV)
  ps : List Tmp
  assign : Code
  body : Code
structure Cx where
  y : Option YC
  inR : Bool

def opA (E : Env) (fr : List (Option AV)) : Operand → Option AV
  | .tmp t => match fr[t]? with
    | some (some x) => some x
    | _ => none
  | .const v => avOf v
  | .global g => E.G g
  | .func f => some (.fn f [] [])
def putA (fr : List (Option AV)) (d : Option Tmp) (x : AV) : List (Option AV) :=
  match d with
  | some d => fr.set d (some x)
  | none => fr
/-- Is a guarded operation wanted? -/
def wantedA (ops : Array Oper) (fr : List (Option AV)) (o : Oper) : Option Bool :=
  match o.guard with
  | none => some true
  | some (j, want) => match ops[j]? with
    | some oj => match oj.dst with
      | some d => match fr[d]? with
        | some (some (.v (.bool b))) => some (b == want)
        | some (some (.tp [])) => some false
        | _ => none
      | none => none
    | none => none

def resA (P : Program) (fr : List (Option AV)) (h : Hp) : List ResultVar → Option (List AV)
  | [] => some []
  | .tmp t :: l => match fr[t]?, resA P fr h l with
    | some (some x), some r => some (x :: r)
    | _, _ => none
  | .cell a t :: l => match fr[a]?, resA P fr h l with
    | some (some p), some r => match evLoad P h t p with
      | some x => some (x :: r)
      | none => none
    | _, _ => none
def retA : List AV → AV
  | [x] => x
  | l => .tp l

/-- Values that hang on no own block. -/
def noRf : AV → Bool
  | .v _ => true
  | .st _ => true
  | .e0 => true
  | .sl _ _ => true
  | .pe _ _ => true
  | _ => false
/-- Values that hang on no memory. -/
def isFlat : AV → Bool
  | .v _ => true
  | .st _ => true
  | .e0 => true
  | _ => false
def flatTp : AV → Bool
  | .tp vs => vs.all isFlat
  | x => isFlat x
/-- An own block's value, seen as one that nobody writes (for the time of a call). -/
def view1 (h : Hp) : AV → Option AV
  | .rf b lo n _ => match h[b]? with
    | some (some B) => if lo + n ≤ B.es.length ∧ (B.es.all noRf) = true then some (.sl B.k ((B.es.drop lo).take n)) else none
    | _ => none
  | x => if noRf x then some x else none
def viewL (h : Hp) : List AV → Option (List AV)
  | [] => some []
  | x :: l => match view1 h x, viewL h l with
    | some y, some r => some (y :: r)
    | _, _ => none
def view2 (h : Hp) : AV → Option AV
  | .ag cs => (viewL h cs).map .ag
  | x => view1 h x
def views (h : Hp) : List AV → Option (List AV)
  | [] => some []
  | x :: l => match view2 h x, views h l with
    | some y, some r => some (y :: r)
    | _, _ => none
/-- A call that is told by a function of its own: what it hands back is flat, or no own block of the caller is handed over. -/
def noRf2 : AV → Bool
  | .ag cs => cs.all noRf
  | x => noRf x
def callX (g : List AV → Option AV) (args : List AV) (h : Hp) : Option (AV × Hp) :=
  match views h args with
  | some ys => match g ys with
    | some r => if flatTp r then some (r, h) else none
    | none => none
  | none => none
def callX2 (g : List AV → Option AV) (args : List AV) (h : Hp) : Option (AV × Hp) :=
  if args.all noRf2 then (g args).map (·, h) else callX g args h
abbrev IH := Cx → Code → St → Option (Ex × St)

/-- A function, entered. -/
def enterA (E : Env) (ih : IH) (y : Option YC) (f : FuncId) (args : List AV) (h : Hp) : Option (AV × Hp) :=
  match E.fn f with
  | none => none
  | some fn => match fn.body with
    | none => none
    | some c =>
      if args.length ≤ fn.ntmps then
        match ih ⟨y, false⟩ c ⟨args.map some ++ List.replicate (fn.ntmps - args.length) (some (.tp [])), h⟩ with
        | some (.normal, s) => (resA E.P s.fr s.hp fn.results.toList).map fun r => (retA r, s.hp)
        | some (.ret, s) => (resA E.P s.fr s.hp fn.results.toList).map fun r => (retA r, s.hp)
        | _ => none
      else none
def setPs : List (Option AV) → List Tmp → List AV → List (Option AV)
  | fr, p :: ps, x :: xs => setPs (fr.set p (some x)) ps xs
  | fr, _, _ => fr
def callA (E : Env) (ih : IH) (cx : Cx) (fv : AV) (args : List AV) (h : Hp) : Option (AV × Hp) :=
  match fv with
  | .fn f first caps => match E.X f with
    | some g => callX2 g (first ++ args ++ caps) h
    | none => enterA E ih none f (first ++ args ++ caps) h
  | .yl b => match cx.y with
    | some y =>
      if y.b = b ∧ args.length = y.ps.length ∧ cx.inR = false then
        match ih ⟨none, true⟩ y.assign ⟨setPs y.fr y.ps args, h⟩ with
        | some (.normal, s) => match ih ⟨none, true⟩ y.body s with
          | some (.normal, s) => some (.v (.bool true), s.hp)
          | _ => none
        | _ => none
      else none
    | none => none
  | _ => none

/-- One operation. -/
def op1 (E : Env) (ih : IH) (cx : Cx) (o : Oper) (s : St) : Option St :=
  match evOpQ E.P (opA E s.fr) s.hp o.op with
  | some x => some ⟨putA s.fr o.dst x, s.hp⟩
  | none => match evOpN E.P (opA E s.fr) s.hp o.op with
    | some (x, h) => some ⟨putA s.fr o.dst x, h⟩
    | none => match evOpW E.P (opA E s.fr) s.hp o.op with
      | some (x, h) => some ⟨putA s.fr o.dst x, h⟩
      | none => match evOpX E.P E.I (opA E s.fr) s.hp o.op with
       | some x => some ⟨putA s.fr o.dst x, s.hp⟩
       | none => match o.op with
        | .store t a v => match o.dst, opA E s.fr a, opA E s.fr v with
          | none, some p, some x => (evStore E.P s.hp t p x).map fun h => ⟨s.fr, h⟩
          | _, _, _ => none
        | .call ⟨.value f, args, _⟩ => match opA E s.fr f, opds (opA E s.fr) args.toList with
          | some fv, some xs => (callA E ih cx fv xs s.hp).map fun r => ⟨putA s.fr o.dst r.1, r.2⟩
          | _, _ => none
        | _ => none
def opsA (E : Env) (ih : IH) (cx : Cx) (ops : Array Oper) : List Oper → St → Option St
  | [], s => some s
  | o :: rest, s => match wantedA ops s.fr o with
    | none => none
    | some false => opsA E ih cx ops rest ⟨putA s.fr o.dst (.tp []), s.hp⟩
    | some true => match op1 E ih cx o s with
      | some s => opsA E ih cx ops rest s
      | none => none

/-- A call that can turn nothing that is there: on an empty heap of its own. What it hands back is flat, or one block of flat elements. -/
def callP (E : Env) (ih : IH) (fv : AV) (args : List AV) (h : Hp) : Option (AV × Hp) :=
  match fv with
  | .fn f [] [] => match views h args with
    | some xs => match E.X f with
      | some g => match g xs with
        | some r => if flatTp r then some (r, h) else none
        | none => none
      | none => match enterA E ih none f xs [] with
        | some (r, h') =>
          if flatTp r then some (r, h) else
          match r with
          | .rf b lo n m => match h'[b]? with
            | some (some B) => if B.fz = false ∧ (B.es.all isFlat) = true then some (.rf h.length lo n m, h ++ [some B]) else none
            | _ => none
          | _ => none
        | none => none
    | none => none
  | _ => none
def isW : Op → Bool
  | .store _ _ _ => true
  | .call ⟨.builtin .append, _, _⟩ => true
  | .call ⟨.builtin .copy, _, _⟩ => true
  | .call ⟨.builtin .unsafeString, _, _⟩ => true
  | _ => false
/-- Operations that only read, by their form. -/
def isQ : Op → Bool
  | .move _ => true
  | .assign _ => true
  | .pick _ _ _ => true
  | .load _ _ => true
  | .nilCheck _ => true
  | .binOp _ _ _ _ _ => true
  | .unOp _ _ _ => true
  | .convert _ _ _ => true
  | .makeFunc _ _ _ => true
  | .slice _ _ _ _ _ => true
  | .fieldAddr _ _ _ => true
  | .field _ _ _ => true
  | .indexAddr _ _ _ => true
  | .index _ _ _ => true
  | .extract _ _ => true
  | .build _ _ => true
  | .call ⟨.builtin .len, _, _⟩ => true
  | .call ⟨.builtin .min, _, _⟩ => true
  | .call ⟨.builtin .max, _, _⟩ => true
  | .call ⟨.builtin .unsafeSliceData, _, _⟩ => true
  | _ => false
def tailGo : List Oper → Nat → Nat
  | [], n => n
  | o :: l, n => if isW o.op then n else tailGo l (n + 1)
/-- The first write of a region. -/
def tailAt (ops : Array Oper) : Nat := tailGo ops.toList 0
/-- May this be loaded from, before the region's own blocks are made? -/
def ldOk (n0 : Nat) (ρ : Operand → Option AV) : Op → Bool
  | .load _ p => match ρ p with
    | some (.pt b _ _) => Nat.blt b n0
    | some (.pe _ _) => true
    | _ => false
  | _ => true
/-- A region that draws its order: reads, new blocks and pure calls; from the first write on, whatever stands behind all that. -/
def opsD (E : Env) (ih : IH) (cx : Cx) (ops : Array Oper) (n0 : Nat) : List Oper → St → Option St
  | [], s => some s
  | o :: rest, s =>
    if isW o.op then opsA E ih ⟨none, cx.inR⟩ ops (o :: rest) s else
    match wantedA ops s.fr o with
    | none => none
    | some false => opsD E ih cx ops n0 rest ⟨putA s.fr o.dst (.tp []), s.hp⟩
    | some true => match evOpQ E.P (opA E s.fr) s.hp o.op with
      | some x => if ldOk n0 (opA E s.fr) o.op then opsD E ih cx ops n0 rest ⟨putA s.fr o.dst x, s.hp⟩ else none
      | none => match evOpN E.P (opA E s.fr) s.hp o.op with
        | some (x, h) => opsD E ih cx ops n0 rest ⟨putA s.fr o.dst x, h⟩
        | none => match o.op with
          | .call ⟨.value f, args, _⟩ => match opA E s.fr f, opds (opA E s.fr) args.toList with
            | some fv, some xs => match callP E ih fv xs s.hp with
              | some r => opsD E ih cx ops n0 rest ⟨putA s.fr o.dst r.1, r.2⟩
              | none => none
            | _, _ => none
          | _ => none

def evStep (E : Env) (ih : IH) (cx : Cx) (c : Code) (s : St) : Option (Ex × St) :=
  match c with
  | .skip => some (.normal, s)
  | .region _ ops draw => (if draw then opsD E ih cx ops s.hp.length ops.toList s else opsA E ih cx ops ops.toList s).map fun s => (.normal, s)
  | .seq a b => match ih cx a s with
    | some (.normal, s) => ih cx b s
    | r => r
  | .cond c a b => match opA E s.fr c with
    | some (.v (.bool true)) => ih cx a s
    | some (.v (.bool false)) => ih cx b s
    | _ => none
  | .block id c => match ih cx c s with
    | some (.exit id', s) => if id' = id then some (.normal, s) else some (.exit id', s)
    | r => r
  | .loop c => match ih cx c s with
    | some (.normal, s) => ih cx (.loop c) s
    | r => r
  | .exit id => some (.exit id, s)
  | .ret => some (.ret, s)
  | .rangeFunc f ps assign body =>
    if cx.inR then none else
    match opA E s.fr f with
    | some (.fn g first caps) => match enterA E ih (some ⟨s.hp.length, s.fr, ps.toList, assign, body⟩) g (first ++ [.yl s.hp.length] ++ caps) (s.hp ++ [none]) with
      | some (_, h) => some (.normal, ⟨s.fr, h⟩)
      | none => none
    | _ => none
  | _ => none
def evC (E : Env) : Nat → IH
  | 0 => fun _ _ _ => none
  | n + 1 => evStep E (evC E n)
/-- A call, from outside. -/
def evCall (E : Env) (n : Nat) (f : FuncId) (args : List AV) (h : Hp) : Option (AV × Hp) := enterA E (evC E n) none f args h
end Go.Proofs.YthofgamegondnaaDoor
