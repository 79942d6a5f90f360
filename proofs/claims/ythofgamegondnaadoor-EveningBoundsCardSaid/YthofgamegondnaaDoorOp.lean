/- The abstract interpreter: the operations. -/
import Derived.Test.YthofgamegondnaaDoorAv
namespace Go.Proofs.YthofgamegondnaaDoor
open Go.RowKit

def okB (bs : List UInt8) : Bool := Nat.ble bs.length maxLen
def av1 : Value → Option AV
  | .string s => if okB s.data.toList then some (.st s.data.toList) else none
  | .slice none 0 0 => some .e0
  | .slice _ _ _ => none
  | .tuple _ => none
  | .agg _ => none
  | .func _ _ _ => none
  | x => some (.v x)
def avL : List Value → Option (List AV)
  | [] => some []
  | x :: l => match av1 x, avL l with
    | some y, some r => some (y :: r)
    | _, _ => none
def avOf : Value → Option AV
  | .agg cs => (avL cs.toList).map .ag
  | x => av1 x

def wr (k : IntKind) (n : Int) : Int :=
  match k with
  | .i64 => if -9223372036854775808 ≤ n ∧ n ≤ 9223372036854775807 then n else IntKind.i64.wrap n
  | k => k.wrap n
theorem wr_eq (k : IntKind) (n : Int) : wr k n = k.wrap n := by
  cases k <;> try rfl
  show (if _ then n else IntKind.i64.wrap n) = _
  split
  · next h => exact (w64_in h.1 h.2).symm
  · rfl

def intBin (op : BinOp) (k : IntKind) (a b : Int) : Option Value :=
  match op with
  | .add => some (.int k (wr k (a + b)))
  | .sub => some (.int k (wr k (a - b)))
  | .mul => some (.int k (wr k (a * b)))
  | .quo => if b = 0 then none else some (.int k (wr k (a.tdiv b)))
  | .rem => if b = 0 then none else some (.int k (a.tmod b))
  | .and => some (.int k (k.wrap (BitVec.ofInt k.bits a &&& BitVec.ofInt k.bits b).toNat))
  | .or => some (.int k (k.wrap (BitVec.ofInt k.bits a ||| BitVec.ofInt k.bits b).toNat))
  | .xor => some (.int k (k.wrap (BitVec.ofInt k.bits a ^^^ BitVec.ofInt k.bits b).toNat))
  | .eql => some (.bool (a == b))
  | .neq => some (.bool (a != b))
  | .lss => some (.bool (decide (a < b)))
  | .leq => some (.bool (decide (a ≤ b)))
  | .gtr => some (.bool (decide (a > b)))
  | .geq => some (.bool (decide (a ≥ b)))
  | _ => none
def shiftBin (op : BinOp) (k : IntKind) (a b : Int) : Option Value :=
  if b < 0 then none else
  match op with
  | .shl => some (.int k (wr k (a * 2 ^ min b.toNat k.bits)))
  | .shr => some (.int k (a.fdiv (2 ^ min b.toNat k.bits)))
  | _ => none
def isShift : BinOp → Bool
  | .shl => true
  | .shr => true
  | _ => false
def strBin (op : BinOp) (a b : List UInt8) : Option AV :=
  match op with
  | .add => if okB (a ++ b) then some (.st (a ++ b)) else none
  | .eql => some (.v (.bool (a == b)))
  | .neq => some (.v (.bool (!(a == b))))
  | .lss => some (.v (.bool (Op.bytesLess a b)))
  | .leq => some (.v (.bool (Op.bytesLess a b || a == b)))
  | .gtr => some (.v (.bool (!(Op.bytesLess a b || a == b))))
  | .geq => some (.v (.bool (!Op.bytesLess a b)))
  | _ => none
def evBin (op : BinOp) (x y : AV) : Option AV :=
  match x, y with
  | .v (.int k a), .v (.int k' b) => if isShift op then (shiftBin op k a b).map .v else if k = k' then (intBin op k a b).map .v else none
  | .st a, .st b => strBin op a b
  | _, _ => none
/-- == and != of bools and of pointers. -/
def isPtr (P : Program) (t : TypeId) : Bool :=
  match P.underlying t with
  | some (.pointer e) => (P.info? e).isSome
  | _ => false
def eqV (op : BinOp) (b : Bool) : Option AV :=
  match op with
  | .eql => some (.v (.bool b))
  | .neq => some (.v (.bool (!b)))
  | _ => none
def evEq (P : Program) (op : BinOp) (t : TypeId) (x y : AV) : Option AV :=
  match x, y with
  | .v (.bool a), .v (.bool b) => match P.underlying t with
    | some .bool => eqV op (a == b)
    | _ => none
  | .pt b i o, .pt b' i' o' => if b = b' ∧ i = i' ∧ o = o' ∧ isPtr P t = true then eqV op true else none
  | .v (.pointer none), .v (.pointer none) => if isPtr P t = true then eqV op true else none
  | .v (.pointer none), .pt _ _ _ => if isPtr P t = true then eqV op false else none
  | .pt _ _ _, .v (.pointer none) => if isPtr P t = true then eqV op false else none
  | _, _ => none
def evUn (op : UnOp) (x : AV) : Option AV :=
  match op, x with
  | .not, .v (.bool b) => some (.v (.bool (!b)))
  | .neg, .v (.int k n) => some (.v (.int k (wr k (0 - n))))
  | _, _ => none

def tySize (P : Program) (t : TypeId) : Option Nat := (P.info? t).map (·.size)
def aggD : TypeDesc → Bool
  | .struct _ => true
  | .array _ _ => true
  | _ => false
def tyAgg (P : Program) (t : TypeId) : Option Bool := (P.underlying t).map aggD
def tyZero (P : Program) (t : TypeId) : Option AV := ((P.info? t).bind (·.zero)).bind avOf
def tyElem (P : Program) (t : TypeId) : Option TypeId :=
  match P.underlying t with
  | some (.slice e) => some e
  | _ => none

/-- A part of what lies at an address. -/
def getE (e : AV) (off m : Nat) (agg : Bool) : Option AV :=
  if agg then (if off + m ≤ e.cel.length then some (.ag ((e.cel.drop off).take m)) else none) else e.cel[off]?
def setE (e : AV) (off : Nat) (x : AV) : Option AV :=
  if off + x.cel.length ≤ e.cel.length then some (elm (e.cel.take off ++ x.cel ++ e.cel.drop (off + x.cel.length))) else none

def evLoad (P : Program) (h : Hp) (t : TypeId) (p : AV) : Option AV :=
  match tySize P t, tyAgg P t with
  | some m, some g =>
    match p with
    | .pt b i off => match h[b]? with
      | some (some B) => match B.es[i]? with
        | some e => getE e off m g
        | none => none
      | _ => none
    | .pe x off => getE x off m g
    | _ => none
  | _, _ => none
def evStore (P : Program) (h : Hp) (t : TypeId) (p x : AV) : Option Hp :=
  match p with
  | .pt b i off => match h[b]? with
    | some (some B) =>
      if B.fz then none else
      match B.es[i]? with
      | some e =>
        if tySize P t = some x.nc ∧ x.notTp = true then (setE e off x).map fun e' => h.set b (some { B with es := B.es.set i e' }) else none
      | none => none
    | _ => none
  | _ => none
/-- A new block of one element. -/
def evBox (h : Hp) (t : TypeId) (x : AV) : Option (AV × Hp) :=
  if x.notTp then some (.pt h.length 0 0, h ++ [some ⟨x.nc, t, [x], false⟩]) else none

def intOfA : AV → Option Int
  | .v (.int _ n) => some n
  | _ => none
def evIndexAddr (P : Program) (h : Hp) (t : TypeId) (x ix : AV) : Option AV :=
  match intOfA ix with
  | none => none
  | some i =>
    if i < 0 then none else
    match P.underlying t with
    | some (.slice e) => match x with
      | .rf b lo n _ => match h[b]? with
        | some (some B) => if i.toNat < n ∧ tySize P e = some B.k then some (.pt b (lo + i.toNat) 0) else none
        | _ => none
      | .sl k xs => match xs[i.toNat]? with
        | some y => if tySize P e = some k then some (.pe y 0) else none
        | none => none
      | _ => none
    | some (.array n e) =>
      if i.toNat < n then
        match tySize P e, x with
        | some s, .pt b j off => some (.pt b j (off + i.toNat * s))
        | some s, .pe y off => some (.pe y (off + i.toNat * s))
        | _, _ => none
      else none
    | _ => none
def evFieldAddr (P : Program) (t : TypeId) (x : AV) (f : Nat) : Option AV :=
  match P.underlying t with
  | some (.struct fs) => match fs[f]? with
    | some fd => match tySize P fd.type with
      | some (_ + 1) => match x with
        | .pt b i off => some (.pt b i (off + fd.offset))
        | .pe y off => some (.pe y (off + fd.offset))
        | _ => none
      | _ => none
    | none => none
  | _ => none
def evPart (P : Program) (t : TypeId) (cs : List AV) (off : Nat) : Option AV :=
  match tySize P t, tyAgg P t with
  | some m, some g => if g then (if off + m ≤ cs.length then some (.ag ((cs.drop off).take m)) else none) else cs[off]?
  | _, _ => none
def evField (P : Program) (t : TypeId) (x : AV) (f : Nat) : Option AV :=
  match P.underlying t, x with
  | some (.struct fs), .ag cs => match fs[f]? with
    | some fd => evPart P fd.type cs fd.offset
    | none => none
  | _, _ => none
def evIndex (P : Program) (t : TypeId) (x ix : AV) : Option AV :=
  match intOfA ix with
  | none => none
  | some i =>
    if i < 0 then none else
    match P.underlying t, x with
    | some (.array n e), .ag cs => if i.toNat < n then (match tySize P e with | some s => evPart P e cs (i.toNat * s) | none => none) else none
    | some .string, .st bs => (bs[i.toNat]?).map fun b => .v (.int .u8 b.toNat)
    | _, _ => none

def natB : Option AV → Nat → Option Nat
  | none, d => some d
  | some (.v (.int _ n)), _ => if n < 0 then none else some n.toNat
  | _, _ => none
def evSlice (P : Program) (h : Hp) (t : TypeId) (x : AV) (lo hi mx : Option AV) : Option AV :=
  match P.underlying t, x with
  | some .string, .st bs =>
    match mx, natB lo 0, natB hi bs.length with
    | none, some l, some u => if l ≤ u ∧ u ≤ bs.length then some (.st ((bs.take u).drop l)) else none
    | _, _, _ => none
  | some (.slice e), .rf b o n m =>
    match h[b]? with
    | some (some B) =>
      match natB mx m, natB lo 0, natB hi n with
      | some k, some l, some u =>
        if l ≤ u ∧ u ≤ k ∧ k ≤ m ∧ (mx.isNone ∨ hi.isSome) ∧ tySize P e = some B.k then
          (if l < k then some (.rf b (o + l) (u - l) (k - l)) else if mx.isSome then some .e0 else some (.sl 1 []))
        else none
      | _, _, _ => none
    | _ => none
  | some (.slice e), .sl k xs =>
    match natB mx xs.length, natB lo 0, natB hi xs.length with
    | some q, some l, some u =>
      if l ≤ u ∧ u ≤ q ∧ q ≤ xs.length ∧ (mx.isNone ∨ hi.isSome) ∧ tySize P e = some k then
        (if mx.isSome ∧ l = q then some .e0 else some (.sl k ((xs.take u).drop l)))
      else none
    | _, _, _ => none
  | some (.slice e), .e0 =>
    match natB mx 0, natB lo 0, natB hi 0 with
    | some 0, some 0, some 0 => if (mx.isNone ∨ hi.isSome) ∧ (tySize P e).isSome = true then some .e0 else none
    | _, _, _ => none
  | _, _ => none

def evMake (P : Program) (h : Hp) (t : TypeId) (n c : AV) : Option (AV × Hp) :=
  match tyElem P t, intOfA n, intOfA c with
  | some e, some n, some c =>
    match P.info? e, tyZero P e with
    | some i, some z =>
      if n = c ∧ 0 ≤ n ∧ (i.bytes : Int) * n ≤ 140737488355328 ∧ n ≤ 140737488355328 ∧ z.nc = i.size ∧ z.notTp = true then
        some (.rf h.length 0 n.toNat n.toNat, h ++ [some ⟨i.size, e, List.replicate n.toNat z, false⟩]) else none
    | _, _ => none
  | _, _, _ => none
def fillA (es : List AV) (k : Nat) : List (Nat × AV) → Option (List AV)
  | [] => some es
  | (i, x) :: r => if i < es.length ∧ x.nc = k ∧ x.notTp = true then fillA (es.set i (elm x.cel)) k r else none
def evLit (P : Program) (h : Hp) (t : TypeId) (n : Nat) (parts : List (Nat × AV)) : Option (AV × Hp) :=
  match tyElem P t with
  | some e =>
    match P.info? e, tyZero P e with
    | some i, some z =>
      if n * i.size ≤ 65536 ∧ 0 < i.size ∧ z.nc = i.size ∧ z.notTp = true then
        match fillA (List.replicate n (elm z.cel)) i.size parts with
        | some es => some (.rf h.length 0 n n, h ++ [some ⟨i.size, e, es, false⟩])
        | none => none
      else none
    | _, _ => none
  | none => none
/-- The parts of a struct, laid at their places. -/
def fillS (P : Program) (fs : Array Field) (cs : List AV) : List (Nat × AV) → Option (List AV)
  | [] => some cs
  | (i, x) :: r => match fs[i]? with
    | some f => if tySize P f.type = some x.cel.length ∧ f.offset + x.cel.length ≤ cs.length ∧ x.notTp = true then fillS P fs (cs.take f.offset ++ x.cel ++ cs.drop (f.offset + x.cel.length)) r else none
    | none => none
def fillR (s : Nat) (cs : List AV) : List (Nat × AV) → Option (List AV)
  | [] => some cs
  | (i, x) :: r => if s = x.cel.length ∧ i * s + x.cel.length ≤ cs.length ∧ x.notTp = true then fillR s (cs.take (i * s) ++ x.cel ++ cs.drop (i * s + x.cel.length)) r else none
def sizesOk (P : Program) (fs : Array Field) : Bool := fs.all fun f => (P.info? f.type).isSome
def evBuild (P : Program) (t : TypeId) (parts : List (Nat × AV)) : Option AV :=
  match tyZero P t with
  | some (.ag z) =>
    match P.underlying t with
    | some (.struct fs) => if sizesOk P fs then (fillS P fs z parts).map .ag else none
    | some (.array _ e) => match tySize P e with
      | some s => (fillR s z parts).map .ag
      | none => none
    | _ => none
  | _ => none
def evLen (P : Program) (t : TypeId) (x : AV) : Option AV :=
  match P.underlying t, x with
  | some .string, .st bs => some (.v (.int .i64 bs.length))
  | some (.slice _), .sl _ xs => some (.v (.int .i64 xs.length))
  | some (.slice _), .rf _ _ n _ => some (.v (.int .i64 n))
  | some (.slice _), .e0 => some (.v (.int .i64 0))
  | some (.array n _), _ => some (.v (.int .i64 n))
  | _, _ => none
/-- The elements of a slice (or the bytes of a string). -/
def elems (h : Hp) (k : Nat) : AV → Option (List AV)
  | .e0 => some []
  | .sl k' xs => if xs.isEmpty || k' == k then some xs else none
  | .rf b lo n _ => match h[b]? with
    | some (some B) => if B.k = k ∧ lo + n ≤ B.es.length then some ((B.es.drop lo).take n) else none
    | _ => none
  | .st bs => if k = 1 then some (bs.map fun b => .v (.int .u8 b.toNat)) else none
  | _ => none
def srcOk (P : Program) (t : TypeId) (y : AV) : Bool :=
  match P.underlying t, y with
  | some .string, .st _ => true
  | some (.slice _), .st _ => false
  | some (.slice _), _ => true
  | _, _ => false
def evAppend (P : Program) (h : Hp) (t t2 : TypeId) (x y : AV) : Option (AV × Hp) :=
  if srcOk P t2 y = false then none else
  match tyElem P t with
  | none => none
  | some e =>
    match P.info? e, tyZero P e with
    | some i, some z =>
      match elems h i.size y with
      | none => none
      | some ys =>
        if ys.isEmpty then (match x with | .e0 => some (x, h) | .sl _ [] => some (x, h) | .rf _ _ _ _ => some (x, h) | _ => none) else
        if 0 < i.size ∧ z.nc = i.size ∧ z.notTp = true then
          match x with
          | .e0 => if ys.length * i.bytes ≤ 140737488355328 ∧ ys.length ≤ 140737488355328 then some (.rf h.length 0 ys.length ys.length, h ++ [some ⟨i.size, e, ys, false⟩]) else none
          | .rf b lo n m => match h[b]? with
            | some (some B) =>
              if B.fz = true ∨ B.k ≠ i.size ∨ B.t ≠ e then none else
              if n + ys.length ≤ m ∧ lo + n + ys.length ≤ B.es.length then
                some (.rf b lo (n + ys.length) m, h.set b (some { B with es := B.es.take (lo + n) ++ ys ++ B.es.drop (lo + n + ys.length) }))
              else if lo = 0 ∧ n = B.es.length ∧ (n + ys.length) * i.bytes ≤ 140737488355328 ∧ n + ys.length ≤ 140737488355328 then
                some (.rf h.length 0 (n + ys.length) (n + ys.length), (h.set b none) ++ [some ⟨i.size, e, B.es ++ ys, false⟩])
              else none
            | _ => none
          | _ => none
        else none
    | _, _ => none
def evCopy (P : Program) (h : Hp) (t : TypeId) (x y : AV) : Option (AV × Hp) :=
  match tyElem P t with
  | none => none
  | some e =>
    match tySize P e with
    | none => none
    | some k =>
      match elems h k y with
      | none => none
      | some ys =>
        match x with
        | .rf b lo n _ => match h[b]? with
          | some (some B) =>
            if B.fz = true ∨ B.k ≠ k ∨ ¬ (lo + n ≤ B.es.length) then none else
            some (.v (.int .i64 (min ys.length n : Nat)), h.set b (some { B with es := B.es.take lo ++ ys.take (min ys.length n) ++ B.es.drop (lo + min ys.length n) }))
          | _ => none
        | .e0 => some (.v (.int .i64 0), h)
        | .sl _ [] => some (.v (.int .i64 0), h)
        | _ => none
def evConv (P : Program) (a b : TypeId) (x : AV) : Option AV :=
  match P.underlying a, P.underlying b, x with
  | some _, some (.int k), .v (.int _ n) => some (.v (.int k (wr k n)))
  | some .string, some .string, .st s => some (.st s)
  | _, _, _ => none
def evMinMax (isMax : Bool) : List AV → Option AV
  | [.v (.int k a), .v (.int _ b)] => some (.v (.int k (if isMax then (if b > a then b else a) else (if b < a then b else a))))
  | _ => none

/-- Arguments. -/
def opds (ρ : Operand → Option AV) : List Operand → Option (List AV)
  | [] => some []
  | x :: l => match ρ x, opds ρ l with
    | some y, some r => some (y :: r)
    | _, _ => none
def opdo (ρ : Operand → Option AV) : Option Operand → Option (Option AV)
  | none => some none
  | some x => (ρ x).map some
def partsOf (ρ : Operand → Option AV) : List (Nat × Operand) → Option (List (Nat × AV))
  | [] => some []
  | (i, x) :: l => match ρ x, partsOf ρ l with
    | some y, some r => some ((i, y) :: r)
    | _, _ => none

/-- Operations that only read: what they hand back. -/
def evOpQ (P : Program) (ρ : Operand → Option AV) (h : Hp) (o : Op) : Option AV :=
  match o with
  | .move x => ρ x
  | .assign x => ρ x
  | .pick c a b => match ρ c with
    | some (.v (.bool true)) => ρ a
    | some (.v (.bool false)) => ρ b
    | _ => none
  | .load t a => match ρ a with
    | some p => evLoad P h t p
    | none => none
  | .nilCheck x => match ρ x with
    | some (.pt b i off) => some (.pt b i off)
    | some (.pe y off) => some (.pe y off)
    | some (.fn f a b) => some (.fn f a b)
    | _ => none
  | .binOp op t x y _ => match ρ x, ρ y with
    | some x, some y => match evBin op x y with
      | some z => some z
      | none => evEq P op t x y
    | _, _ => none
  | .unOp op _ x => match ρ x with
    | some x => evUn op x
    | none => none
  | .convert a b x => match ρ x with
    | some x => evConv P a b x
    | none => none
  | .makeFunc (.func f) p q => match opds ρ p.toList, opds ρ q.toList with
    | some p, some q => some (.fn f p q)
    | _, _ => none
  | .slice t x lo hi mx => match ρ x, opdo ρ lo, opdo ρ hi, opdo ρ mx with
    | some x, some lo, some hi, some mx => evSlice P h t x lo hi mx
    | _, _, _, _ => none
  | .fieldAddr t x f => match ρ x with
    | some x => evFieldAddr P t x f
    | none => none
  | .field t x f => match ρ x with
    | some x => evField P t x f
    | none => none
  | .indexAddr t x i => match ρ x, ρ i with
    | some x, some i => evIndexAddr P h t x i
    | _, _ => none
  | .index t x i => match ρ x, ρ i with
    | some x, some i => evIndex P t x i
    | _, _ => none
  | .extract x i => match ρ x with
    | some (.tp vs) => vs[i]?
    | _ => none
  | .call ⟨.builtin .len, args, tys⟩ => match opds ρ args.toList, tys.toList with
    | some [x], [t] => evLen P t x
    | _, _ => none
  | .call ⟨.builtin .min, args, _⟩ => match opds ρ args.toList with
    | some xs => evMinMax false xs
    | none => none
  | .call ⟨.builtin .max, args, _⟩ => match opds ρ args.toList with
    | some xs => evMinMax true xs
    | none => none
  | .build t ps => match partsOf ρ ps.toList with
    | some ps => evBuild P t ps
    | none => none
  | .call ⟨.builtin .unsafeSliceData, args, _⟩ => match opds ρ args.toList with
    | some [.rf b lo _ (_ + 1)] => some (.pt b lo 0)
    | _ => none
  | _ => none
/-- Operations that make blocks. -/
def evOpN (P : Program) (ρ : Operand → Option AV) (h : Hp) (o : Op) : Option (AV × Hp) :=
  match o with
  | .alloc t => match tyZero P t with
    | some z => evBox h t z
    | none => none
  | .box t x => match ρ x with
    | some x => evBox h t x
    | none => none
  | .buildSlice t n ps => match partsOf ρ ps.toList with
    | some ps => evLit P h t n ps
    | none => none
  | .makeSlice t n c => match ρ n, ρ c with
    | some n, some c => evMake P h t n c
    | _, _ => none
  | _ => none
/-- Bytes as elements. -/
def bytesA : List AV → Option (List UInt8)
  | [] => some []
  | .v (.int .u8 n) :: r => if 0 ≤ n ∧ n < 256 then (bytesA r).map fun l => n.toNat.toUInt8 :: l else none
  | _ => none
/-- The bytes of a block that is not written any more, as a string. -/
def evUStr (P : Program) (h : Hp) (t : TypeId) (x n : AV) : Option (AV × Hp) :=
  match P.underlying t, x, n with
  | some (.pointer e), .pt b 0 0, .v (.int .i64 n) => match h[b]? with
    | some (some B) => if B.fz = false ∧ B.k = 1 ∧ B.t = e ∧ P.cellsOf e = 1 ∧ 0 < n ∧ n.toNat ≤ B.es.length then
        (match bytesA (B.es.take n.toNat) with
        | some bs => if okB bs then some (.st bs, h.set b none) else none
        | none => none)
      else none
    | _ => none
  | _, _, _ => none
/-- A pointer seen as another, where it stays what it is. -/
def evConvP (P : Program) (h : Hp) (a b : TypeId) (x : AV) : Option AV :=
  match P.underlying a, P.underlying b, x with
  | some (.pointer t), some .unsafePointer, .pt c i off => match h[c]? with
    | some (some B) => if i < B.es.length ∧ off < B.k ∧ (tySize P t).isSome = true ∧ tySize P t ≠ some 0 then some x else none
    | _ => none
  | some .unsafePointer, some (.pointer u), .pt c 0 0 => match h[c]? with
    | some (some B) => if 0 < B.es.length ∧ 0 < B.k ∧ B.t = u ∧ P.cellsOf u = B.k ∧ (P.info? u).isSome = true then some x else none
    | _ => none
  | _, _, _ => none
/-- Other operations: I: functions of the library that hand back what they get. -/
def evOpX (P : Program) (I : FuncId → Bool) (ρ : Operand → Option AV) (h : Hp) (o : Op) : Option AV :=
  match o with
  | .convert a b x => match ρ x with
    | some x => evConvP P h a b x
    | none => none
  | .call ⟨.value f, args, _⟩ => match ρ f, opds ρ args.toList with
    | some (.fn g [] []), some [x] => if I g then some x else none
    | _, _ => none
  | _ => none
/-- Operations that write. -/
def evOpW (P : Program) (ρ : Operand → Option AV) (h : Hp) (o : Op) : Option (AV × Hp) :=
  match o with
  | .call ⟨.builtin .append, args, tys⟩ => match opds ρ args.toList, tys.toList with
    | some [x, y], [t, t2] => evAppend P h t t2 x y
    | _, _ => none
  | .call ⟨.builtin .copy, args, tys⟩ => match opds ρ args.toList, tys.toList with
    | some [x, y], [t, t2] => if srcOk P t2 y then evCopy P h t x y else none
    | _, _ => none
  | .call ⟨.builtin .unsafeString, args, tys⟩ => match opds ρ args.toList, tys.toList with
    | some [x, n], [t, _] => evUStr P h t x n
    | _, _ => none
  | _ => none
end Go.Proofs.YthofgamegondnaaDoor
