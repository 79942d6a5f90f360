/- Lemmas for the proof. -/
import Derived.WalkKit
import Derived.Deep.Quiet
import Derived.TacticsIn
import Derived.OrdersIn
import Derived.Maps.AppendAt
import Derived.Lib.Builder
import Derived.Laws.StructEq
import Derived.Lib.UnsafeStr
import Derived.Deep.AppendSrc
import Derived.Laws.IdiomCopy
import Derived.StillTail
import Derived.RangeFuncRecord
import Derived.RangeFuncCalls
namespace Go.Proofs.YtdjhmdbpcfnpgaaGreatDoor
open Go.RowKit
theorem OB {α β:Type}{o:Option α}{f:α->Option β}{b:β}(h:o.bind f=some b):∃ a,o=some a/\f a=some b:=Option.bind_eq_some_iff.1 h
theorem OI {α:Type}{a b:α}(h:some a=some b):a=b:=Option.some.inj h
theorem BE (b:Bool):b=true\/b=false:=Bool.eq_false_or_eq_true b
theorem OS {α β:Type}{a:α}{f:α->Option β}:(some a).bind f=f a:=rfl
/-- The value of a slot: the first entry of the list, else the unknown frame. -/
def fr:List (Nat×Value)->(Nat->Value)->Nat->Value
 | [],s,t=>s t
 | (d,v)::l,s,t=>bif Nat.beq t d then v else fr l s t
def ev (l:List (Nat×Value)) (s:Nat->Value):Operand->Value
 | .tmp t=>fr l s t
 | .const v=>v
 | .global g=> .pointer (some ⟨g,0,none⟩)
 | .func f=> .func (.func f) #[] #[]
structure Frm where
 N:Nat
 D:List Deferred
 ro:Option Nat
 s:Nat->Value
/-- The wide fence, in the round 'ro' of a range over a function (none: outside). -/
def Fw (ro:Option Nat):Fence:={ fn:=fun _=>True,depth:=none,alive:=false,round:=ro }
structure Ag (F:Frm) (l:List (Nat×Value)) (a:Act):Prop where
 size:a.tmps.size=F.N
 defers:a.defers=F.D
 get:∀ t,a.tmps.getD t undef=fr l F.s t
theorem Ag.eval {F:Frm}{l:List (Nat×Value)}{a:Act}(h:Ag F l a):a.eval=ev l F.s:=by
 funext x
 cases x with
 | tmp t=>exact h.get t
 | const v=>rfl
 | global g=>rfl
 | func f=>rfl
theorem Ag.put {F:Frm}{l:List (Nat×Value)}{a:Act}(h:Ag F l a){d:Nat}(hd:Nat.blt d F.N=true) (v:Value):Ag F ((d,v)::l) (a.put (some d) v):=by
 have hd':d < F.N:=by simpa [Nat.blt_eq] using hd
 refine ⟨by simp [Act.put,h.size],h.defers,fun t=>?_⟩
 show (a.tmps.setIfInBounds d v).getD t undef=bif Nat.beq t d then v else fr l F.s t
 rw [<-h.get t]
 by_cases e:t=d
 ·subst e
  have:t < a.tmps.size:=by rw [h.size]; exact hd'
  simp [Array.getD_eq_getD_getElem?,this]
 ·have hb:Nat.beq t d=false:=by
   cases hq:Nat.beq t d
   ·rfl
   ·exact absurd (Nat.eq_of_beq_eq_true hq) e
  rw [hb]
  simp only [cond_false,Array.getD_eq_getD_getElem?]
  rw [Array.getElem?_setIfInBounds_ne (fun h=>e h.symm)]
def WL (P:Program) (ops:Array Oper) (Q:Exit->Act->World->Prop) (rest:List Oper) (F:Frm) (l:List (Nat×Value)) (w:World):Prop :=
 ∀ a,Ag F l a->wpListIn (Fw F.ro) 0 P ops Q rest a w
/-- A call that returns. -/
def Ret (P:Program) (f:FuncId) (args:Array Value) (w:World) (S:Value->World->Prop):Prop :=
 Calls P f args w fun e w'=>match e with
  | .returned v=>S v w'
  | _=>False
theorem Ret.mono {P:Program}{f:FuncId}{args:Array Value}{w:World}{S S':Value->World->Prop}(h:Ret P f args w S) (hs:∀ v w',S v w'->S' v w'):Ret P f args w S' :=
 Calls.mono h fun e w'=>by
  cases e with
  | returned v=>exact hs v w'
  | panicked c=>exact id
  | outgrown=>exact id
theorem NX {P:Program}{f:FuncId}{args:Array Value}{w:World}{S:Value->World->Prop}{R:Ending->World->Prop}(h:Ret P f args w S) (hs:∀ v w',S v w'->R (.returned v) w'):Calls P f args w R :=
 Calls.mono h fun e w'=>by
  cases e with
  | returned v=>exact hs v w'
  | panicked c=>exact False.elim
  | outgrown=>exact False.elim
/-- The known slots of one list hold in another frame. -/
def Fits (l:List (Nat×Value)) (s:Nat->Value):List (Nat×Value)->Prop
 | []=>True
 | (d,v)::L=>fr l s d=v/\Fits l s L
theorem Fits.fr {l:List (Nat×Value)}{s:Nat->Value}:∀ {L:List (Nat×Value)},Fits l s L->∀ t,fr L (fr l s) t=fr l s t
 | [],_,_=>rfl
 | (d,v)::L,⟨h1,h2⟩,t=>by
  show (bif Nat.beq t d then v else _)=_
  cases hq:Nat.beq t d
  ·exact Fits.fr h2 t
  ·have:=Nat.eq_of_beq_eq_true hq
   subst this
   exact h1.symm
section rules
variable {P:Program}{Q:Exit->Act->World->Prop}{F:Frm}{l:List (Nat×Value)}{w:World}
variable {ops:Array Oper}{rest:List Oper}
theorem semAt_run {ρ:Operand->Value}{o:Oper}{x:Next}{w':World}(ro:Option Nat) (h:(execOp ρ o).run P w = .ok x w') (hx:∀ d,x≠ .defer d):(o.semAt ro ρ).run P w = .ok x w':=by
 by_cases hd:∃ c,o.op = .defer c
 ·obtain ⟨c,hc⟩:=hd
  exfalso
  unfold execOp at h
  rw [hc] at h
  simp only [Sem.run_bind] at h
  cases hr:(resolve ρ c o.type).run P w with
  | ok d w2 =>
   rw [hr] at h
   simp [Result.andThen] at h
   exact hx d h.1.symm
  | halt q w2=>rw [hr] at h; simp [Result.andThen] at h
 ·rw [Oper.semAt_eq ro ρ o (fun c hc=>hd ⟨c,hc⟩)]
  exact h
theorem Ec {f:FuncId}{args:Array Value}{R:Ending->World->Prop}(ro:Option Nat) (n:Nat) (h:Calls P f args w R):CallsIn (Fw ro) n P f args w R :=
 (callsIn_wide (n:=n)).2 h
/-- Any operation that yields a value. -/
theorem Vt {o:Oper}{d:Nat}{v:Value}{w':World}(hg:o.guard=none) (hd:o.dst=some d) (hN:Nat.blt d F.N=true) (h:(execOp (ev l F.s) o).run P w = .ok (.value v) w')
  (k:WL P ops Q rest F ((d,v)::l) w'):WL P ops Q (o::rest) F l w:=fun a ha =>
 wpListIn_plain hg fun K hK=>by
  refine ⟨fun _ _=>trivial,?_⟩
  rw [ha.eval,show (Fw F.ro).round=F.ro from rfl,semAt_run F.ro h (by simp)]
  show K (a.put o.dst v) w'
  rw [hd]
  exact hK _ _ (k _ (ha.put hN v))
theorem O0 {o:Oper}{w':World}(hg:o.guard=none) (hd:o.dst=none) (h:(execOp (ev l F.s) o).run P w = .ok .skip w')
  (k:WL P ops Q rest F l w'):WL P ops Q (o::rest) F l w:=fun a ha =>
 wpListIn_plain hg fun K hK=>by
  refine ⟨fun _ _=>trivial,?_⟩
  rw [ha.eval,show (Fw F.ro).round=F.ro from rfl,semAt_run F.ro h (by simp)]
  show K (a.put o.dst undef) w'
  rw [hd]
  exact hK _ _ (k _ ha)
theorem KU {o:Oper}{v:Value}{w':World}(hg:o.guard=none) (hd:o.dst=none) (h:(execOp (ev l F.s) o).run P w = .ok (.value v) w')
  (k:WL P ops Q rest F l w'):WL P ops Q (o::rest) F l w:=fun a ha =>
 wpListIn_plain hg fun K hK=>by
  refine ⟨fun _ _=>trivial,?_⟩
  rw [ha.eval,show (Fw F.ro).round=F.ro from rfl,semAt_run F.ro h (by simp)]
  show K (a.put o.dst v) w'
  rw [hd]
  exact hK _ _ (k _ ha)
end rules
theorem w64_in {n:Int}(h1 : -9223372036854775808<=n) (h2:n<=9223372036854775807):IntKind.i64.wrap n=n:=by
 exact IntWalk.i64_in n ⟨h1,h2⟩
section rules
variable {P:Program}{Q:Exit->Act->World->Prop}{F:Frm}{l:List (Nat×Value)}{w:World}{ops:Array Oper}{rest:List Oper}
variable {d:Nat}{ty t t2:TypeId}{pos:String}{af:Array Edge}{x y:Operand}
/-- A walk along a list of operations: what carries out one of them. -/
class Uw (P:outParam Program) (X:List Oper->Frm->List (Nat×Value)->World->Prop):Prop where
 run:∀ {o:Oper} {rest:List Oper} {F:Frm} {l:List (Nat×Value)} {w w':World} {d:Nat} {v:Value},o.guard=none->o.dst=some d->Nat.blt d F.N=true->(execOp (ev l F.s) o).run P w = .ok (.value v) w'->X rest F ((d,v)::l) w'->X (o::rest) F l w
 runNone:∀ {o:Oper} {rest:List Oper} {F:Frm} {l:List (Nat×Value)} {w w':World} {v:Value},o.guard=none->o.dst=none->(execOp (ev l F.s) o).run P w = .ok (.value v) w'->X rest F l w'->X (o::rest) F l w
 skip:∀ {o:Oper} {rest:List Oper} {F:Frm} {l:List (Nat×Value)} {w w':World},o.guard=none->o.dst=none->(execOp (ev l F.s) o).run P w = .ok .skip w'->X rest F l w'->X (o::rest) F l w
 enter:∀ {o:Oper} {rest:List Oper} {F:Frm} {l:List (Nat×Value)} {w:World} {d:Nat} {f:FuncId} {vs:Array Value} {S:Value->World->Prop},o.guard=none->o.dst=some d->Nat.blt d F.N=true->(execOp (ev l F.s) o).run P w = .ok (.enter f vs) w->Ret P f vs w S ->
  (∀ v w',S v w'->X rest F ((d,v)::l) w')->X (o::rest) F l w
 enterNone:∀ {o:Oper} {rest:List Oper} {F:Frm} {l:List (Nat×Value)} {w:World} {f:FuncId} {vs:Array Value} {S:Value->World->Prop},o.guard=none->o.dst=none->(execOp (ev l F.s) o).run P w = .ok (.enter f vs) w->Ret P f vs w S ->
  (∀ v w',S v w'->X rest F l w')->X (o::rest) F l w
/-- A named Go function that can be entered. -/
structure BG (P:Program) (f:FuncId):Prop where
 run:∀ (args:Array Value) (w:World),(callFunc f args).run P w = .ok (.enter f args) w
theorem Rg {o:Oper}{f:FuncId}{vs:Array Value}{S:Value->World->Prop}(hg:o.guard=none) (hd:o.dst=some d) (hN:Nat.blt d F.N=true) (hrun:(execOp (ev l F.s) o).run P w = .ok (.enter f vs) w) (h:Ret P f vs w S)
  (k:∀ v w',S v w'->WL P ops Q rest F ((d,v)::l) w'):WL P ops Q (o::rest) F l w:=fun a ha =>
 wpListIn_plain hg fun K hK=>by
  refine ⟨fun _ _=>trivial,?_⟩
  rw [ha.eval,show (Fw F.ro).round=F.ro from rfl,semAt_run F.ro hrun (by simp)]
  refine ⟨(fun h=>by cases h),CallsIn.mono (Ec F.ro _ h) fun e w' hS=>?_⟩
  cases e with
  | returned v =>
   show K (a.put o.dst v) w'
   rw [hd]
   exact hK _ _ (k v w' hS _ (ha.put hN v))
  | panicked c=>exact hS.elim
  | outgrown=>exact hS.elim
theorem MG {o:Oper}{f:FuncId}{vs:Array Value}{S:Value->World->Prop}(hg:o.guard=none) (hd:o.dst=none) (hrun:(execOp (ev l F.s) o).run P w = .ok (.enter f vs) w) (h:Ret P f vs w S)
  (k:∀ v w',S v w'->WL P ops Q rest F l w'):WL P ops Q (o::rest) F l w:=fun a ha =>
 wpListIn_plain hg fun K hK=>by
  refine ⟨fun _ _=>trivial,?_⟩
  rw [ha.eval,show (Fw F.ro).round=F.ro from rfl,semAt_run F.ro hrun (by simp)]
  refine ⟨(fun h=>by cases h),CallsIn.mono (Ec F.ro _ h) fun e w' hS=>?_⟩
  cases e with
  | returned v =>
   show K (a.put o.dst v) w'
   rw [hd]
   exact hK _ _ (k v w' hS _ ha)
  | panicked c=>exact hS.elim
  | outgrown=>exact hS.elim
instance:Uw P (WL P ops Q) where
 run:=Vt
 runNone:=KU
 skip:=O0
 enter:=Rg
 enterNone:=MG
section
variable {X:List Oper->Frm->List (Nat×Value)->World->Prop} [inst:Uw P X]
end
end rules
def XV:TypeDesc->Bool
 | .struct _=>false
 | .array _ _=>false
 | _=>true
section runs
variable {P:Program}{w:World}{t e:TypeId}{d:TypeDesc}{sz b:Nat}{z:Value}
end runs
section rules
variable {P:Program}{Q:Exit->Act->World->Prop}{F:Frm}{l:List (Nat×Value)}{w:World}{ops:Array Oper}{rest:List Oper}
variable {X:List Oper->Frm->List (Nat×Value)->World->Prop} [inst:Uw P X]
variable {d:Nat}{ty t T e:TypeId}{pos:String}{af:Array Edge}{x y:Operand}{ds dT:TypeDesc}{sz by_ sT bT:Nat}{z zT:Value}
/-- Reading: the slice value 'v' holds the cells of 'L' (elements of one cell), in blocks of 'S'. -/
def Rd (w:World) (S:Nat->Prop) (v:Value) (L:List Value):Prop :=
 ∃ A c,v = .slice A L.length c/\L.length<=c/\c<=maxLen/\(0 < L.length->∃ a,A=some a/\S a.block/\∀ i u,L[i]? = some u->w.cell? (a.add i)=some u)
theorem I2 (a:Addr) (n:Nat):(a.add n).block=a.block:=by unfold Addr.add; split <;> rfl
theorem Rd.kept {w w':World}{S:Nat->Prop}{v:Value}{L:List Value}(h:Rd w S v L) (hk:∀ b,S b->w'.heap[b]? = w.heap[b]?):Rd w' S v L:=by
 obtain ⟨A,c,hv,hc,hm,hr⟩:=h
 refine ⟨A,c,hv,hc,hm,fun h0=>?_⟩
 obtain ⟨a,ha,hS,hcell⟩:=hr h0
 exact ⟨a,ha,hS,fun i u hu=>(World.cell?_of_block (by rw [I2]; exact hk _ hS)).trans (hcell i u hu)⟩
theorem Rd.mono {w:World}{S S':Nat->Prop}{v:Value}{L:List Value}(h:Rd w S v L) (hs:∀ b,S b->S' b):Rd w S' v L:=by
 obtain ⟨A,c,hv,hc,hm,hr⟩:=h
 refine ⟨A,c,hv,hc,hm,fun h0=>?_⟩
 obtain ⟨a,ha,hS,hcell⟩:=hr h0
 exact ⟨a,ha,hs _ hS,hcell⟩
theorem Rd.lt {w:World}{S:Nat->Prop}{v:Value}{L:List Value}(h:Rd w S v L):Rd w (fun b=>S b/\b < w.heap.size) v L:=by
 obtain ⟨A,c,hv,hc,hm,hr⟩:=h
 refine ⟨A,c,hv,hc,hm,fun h0=>?_⟩
 obtain ⟨a,ha,hS,hcell⟩:=hr h0
 refine ⟨a,ha,⟨hS,?_⟩,hcell⟩
 have:=World.block_lt_of_cell? w _ (hcell 0 _ (List.getElem?_eq_getElem h0))
 rwa [I2] at this
theorem Vx {B:Nat}{w w':World}{v:Value}{L:List Value}(h:Rd w (· < B) v L) (hb:Below B w w'):Rd w' (· < B) v L:=h.kept fun b hb'=>hb.block b hb'
theorem Rd.nil {w:World}{S:Nat->Prop}:Rd w S (.slice none 0 0) []:=⟨none,0,rfl,Nat.le_refl _,by unfold maxLen; omega,fun h=>absurd h (by simp)⟩
theorem Rd.len {w:World}{S:Nat->Prop}{v:Value}{L:List Value}(h:Rd w S v L):∃ A c,v = .slice A L.length c/\L.length<=c/\c<=9223372036854775807:=by
 obtain ⟨A,c,hv,hc,hm,_⟩:=h
 exact ⟨A,c,hv,hc,by simpa [maxLen] using hm⟩
/-- Owned rows: facts of a slice value whose cells the call may write. -/
theorem PZ {base n:Nat}{v:Value}{L:List Value}(h:w.ownsRow base e 1 v n L) (hn:0 < n):∃ g cap,v = .slice (some ⟨g,0,none⟩) n cap/\base<=g/\g < w.heap.size/\v.ownBlock=some g/\n<=cap/\cap<=maxLen:=by
 obtain ⟨hl,h⟩:=h
 rcases h with ⟨_,h0⟩ | ⟨g,cap,cur,hv,hb,hh,hnc,hcm,_,_⟩
 ·omega
 ·have hlt:g < w.heap.size:=by
   rcases Nat.lt_or_ge g w.heap.size with h1 | h1
   ·exact h1
   ·rw [Array.getElem?_eq_none h1] at hh; cases hh
  exact ⟨g,cap,hv,hb,hlt,by rw [hv]; rfl,hnc,hcm⟩
theorem VW {base n:Nat}{v:Value}{L:List Value}(h:w.ownsRow base e 1 v n L):Rd w (fun b=>base<=b/\b < w.heap.size) v L:=by
 have hl:L.length=n:=by have:=h.1; omega
 subst hl
 rcases Nat.eq_zero_or_pos L.length with h0 | h0
 ·obtain ⟨hl,h⟩:=h
  rcases h with ⟨rfl,_⟩ | ⟨g,cap,cur,rfl,hb,hh,hnc,hcm,_,_⟩
  ·have:L=[]:=List.eq_nil_of_length_eq_zero h0
   subst this
   exact Rd.nil
  ·exact ⟨_,cap,rfl,hnc,hcm,fun h=>absurd h (by omega)⟩
 ·obtain ⟨g,cap,hv,hb,hlt,ho,hnc,hcm⟩:=PZ h h0
  exact ⟨_,cap,hv,hnc,hcm,fun _=>⟨_,rfl,⟨hb,hlt⟩,h.cells ho⟩⟩
end rules
/-- Abstract values. 'sl': a slice in memory that nobody writes, told by its elements (k cells each). 'rf': a slice of block b of the own blocks, from element lo on, n long, at least m elements of room. 'pt': the address of cell 'off' of element i of own block b. 'pe': the address of cell 'off' of something that lies in memory that nobody writes. 'e0': an empty slice without room. -/
inductive AV where
 | v (x:Value)
 | st (bs:List UInt8)
 | e0
 | sl (k:Nat) (xs:List AV)
 | rf (b lo n m:Nat)
 | pt (b i off:Nat)
 | pe (x:AV) (off:Nat)
 | ag (cs:List AV)
 | tp (vs:List AV)
 | fn (f:FuncId) (first caps:List AV)
 | yl (b:Nat)
 deriving Inhabited
abbrev AV.j (n:Int):AV:= .v (.int .i64 n)
abbrev AV.b (b:Bool):AV:= .v (.bool b)
def AV.cel:AV->List AV
 | .ag cs=>cs
 | x=>[x]
def AV.nc:AV->Nat
 | .ag cs=>cs.length
 | _=>1
/-- One element of one cell stands for itself. -/
def elm:List AV->AV
 | [x]=>x
 | cs=> .ag cs
/-- An own block: cells an element, the elements' type, the elements; 'fz': nobody may write it any more. -/
structure Blk where
 k:Nat
 t:TypeId
 es:List AV
 fz:Bool
 deriving Inhabited
abbrev Hp:=List (Option Blk)
/-- Where an own block lies: the block of the world, cells an element, elements that fit. -/
structure RI where
 c:Nat
 k:Nat
 cap:Nat
inductive VR (w:World) (Z:Nat->Prop):List RI->AV->Value->Prop
 | v {ρ:List RI} {x:Value} (h:x.oneCell'=true):VR w Z ρ (.v x) x
 | st {ρ:List RI} {s:ByteArray} {bs:List UInt8} (h:s.data.toList=bs) (hn:bs.length<=maxLen):VR w Z ρ (.st bs) (.string s)
 | e0 {ρ:List RI} {A:Option Addr}:VR w Z ρ .e0 (.slice A 0 0)
 | sl {ρ:List RI} {k c n:Nat} {xs:List AV} {A:Option Addr} {us:List Value} (hn:xs.length=n) (hl:us.length=xs.length) (hc:n<=c) (hm:c<=maxLen)
   (ha:0 < n->∃ a,A=some a/\a.spot=none/\Z a.block/\∀ (i:Nat) (u:Value),us[i]? = some u->u.cells.size=k/\(∀ q ∈ u.cells,q.oneCell'=true)/\∀ (j:Nat) (q:Value),u.cells[j]? = some q->w.cell? ⟨a.block,a.off + (i * k + j),none⟩=some q)
   (hx:∀ (i:Nat) (x:AV) (u:Value),xs[i]? = some x->us[i]? = some u->VR w Z [] x u):VR w Z ρ (.sl k xs) (.slice A n c)
 | rf {ρ:List RI} {b lo n m c:Nat} {r:RI} (hr:ρ[b]? = some r) (h0:n<=m) (h1:m<=c) (h2:lo + c<=r.cap) (hm:r.cap<=maxLen):VR w Z ρ (.rf b lo n m) (.slice (some ⟨r.c,lo * r.k,none⟩) n c)
 | pt {ρ:List RI} {b i off:Nat} {r:RI} (hr:ρ[b]? = some r):VR w Z ρ (.pt b i off) (.pointer (some ⟨r.c,i * r.k + off,none⟩))
 | pe {ρ:List RI} {off:Nat} {x:AV} {a:Addr} {u:Value} (hs:a.spot=none) (hz:Z a.block) (h1:∀ q ∈ u.cells,q.oneCell'=true) (hu:∀ (j:Nat) (q:Value),u.cells[j]? = some q->w.cell? ⟨a.block,a.off + j,none⟩=some q) (hx:VR w Z [] x u):VR w Z ρ (.pe x off) (.pointer (some ⟨a.block,a.off + off,none⟩))
 | ag {ρ:List RI} {cs:List AV} {us:List Value} (hl:us.length=cs.length) (h1:us.all Value.oneCell'=true) (hx:∀ (i:Nat) (x:AV) (u:Value),cs[i]? = some x->us[i]? = some u->VR w Z ρ x u):VR w Z ρ (.ag cs) (.agg us.toArray)
 | tp {ρ:List RI} {cs:List AV} {us:List Value} (hl:us.length=cs.length) (hx:∀ (i:Nat) (x:AV) (u:Value),cs[i]? = some x->us[i]? = some u->VR w Z ρ x u):VR w Z ρ (.tp cs) (.tuple us.toArray)
 | fn {ρ:List RI} {f:FuncId} {p q:List AV} {us vs:List Value} (hl:us.length=p.length) (hl':vs.length=q.length) (hx:∀ (i:Nat) (x:AV) (u:Value),p[i]? = some x->us[i]? = some u->VR w Z ρ x u) (hy:∀ (i:Nat) (x:AV) (u:Value),q[i]? = some x->vs[i]? = some u->VR w Z ρ x u):VR w Z ρ (.fn f p q) (.func (.func f) us.toArray vs.toArray)
 | yl {ρ:List RI} {b:Nat} {r:RI} (hr:ρ[b]? = some r):VR w Z ρ (.yl b) (.func (.yield r.c) #[] #[])
/-- Lists of them. -/
structure VRs (w:World) (Z:Nat->Prop) (ρ:List RI) (xs:List AV) (us:List Value):Prop where
 len:us.length=xs.length
 at_:∀ (i:Nat) (x:AV) (u:Value),xs[i]? = some x->us[i]? = some u->VR w Z ρ x u
section
variable {w w':World}{Z Z':Nat->Prop}{ρ ρ':List RI}{x:AV}{u:Value}{xs ys:List AV}{us vs:List Value}
theorem VR.mono (h:VR w Z ρ x u) (hw:∀ b,Z b->w'.heap[b]? = w.heap[b]?) (hz:∀ b,Z b->Z' b) (hr:∀ (i:Nat) (r:RI),ρ[i]? = some r->ρ'[i]? = some r):VR w' Z' ρ' x u:=by
 induction h generalizing ρ' with
 | v h=>exact .v h
 | st h hn=>exact .st h hn
 | e0=>exact .e0
 | sl hn hl hc hm ha _ ih =>
  refine .sl hn hl hc hm (fun h0=>?_) (fun i x u hx hu=>ih i x u hx hu (fun _ _ h=>h))
  obtain ⟨a,h1,h2,h3,h4⟩:=ha h0
  exact ⟨a,h1,h2,hz _ h3,fun i u hu=>⟨(h4 i u hu).1,(h4 i u hu).2.1,fun j q hq=>(World.cell?_of_block (by exact hw _ h3)).trans ((h4 i u hu).2.2 j q hq)⟩⟩
 | rf h0 h1 h2 h3 h4=>exact .rf (hr _ _ h0) h1 h2 h3 h4
 | pt h=>exact .pt (hr _ _ h)
 | pe hs h3 h1 hu _ ih=>exact .pe hs (hz _ h3) h1 (fun j q hq=>(World.cell?_of_block (by exact hw _ h3)).trans (hu j q hq)) (ih fun _ _ h=>h)
 | ag hl h1 _ ih=>exact .ag hl h1 (fun i x u hx hu=>ih i x u hx hu hr)
 | tp hl _ ih=>exact .tp hl (fun i x u hx hu=>ih i x u hx hu hr)
 | fn hl hl' _ _ ih ih'=>exact .fn hl hl' (fun i x u hx hu=>ih i x u hx hu hr) (fun i x u hx hu=>ih' i x u hx hu hr)
 | yl h=>exact .yl (hr _ _ h)
theorem VR.up (h:VR w Z [] x u):VR w Z ρ x u:=h.mono (fun _ _=>rfl) (fun _ h=>h) (fun i r h=>by simp at h)
theorem VRs.mono (h:VRs w Z ρ xs us) (hw:∀ b,Z b->w'.heap[b]? = w.heap[b]?) (hz:∀ b,Z b->Z' b) (hr:∀ (i:Nat) (r:RI),ρ[i]? = some r->ρ'[i]? = some r):VRs w' Z' ρ' xs us :=
 ⟨h.len,fun i x u hx hu=>(h.at_ i x u hx hu).mono hw hz hr⟩
theorem VRs.nil:VRs w Z ρ [] []:=⟨rfl,fun i x u h=>by simp at h⟩
theorem VRs.cons (h:VR w Z ρ x u) (hs:VRs w Z ρ xs us):VRs w Z ρ (x::xs) (u::us) :=
 ⟨by simp [hs.len],fun i y q hy hq=>by
  cases i with
  | zero=>simp at hy hq; subst hy hq; exact h
  | succ i=>simp at hy hq; exact hs.at_ i y q hy hq⟩
theorem VRs.head (h:VRs w Z ρ (x::xs) us):∃ u us',us=u::us'/\VR w Z ρ x u/\VRs w Z ρ xs us':=by
 cases us with
 | nil=>have:=h.len; simp at this
 | cons u us=>exact ⟨u,us,rfl,h.at_ 0 x u rfl rfl,⟨by have:=h.len; simpa using this,fun i y q hy hq=>h.at_ (i + 1) y q (by simpa using hy) (by simpa using hq)⟩⟩
theorem VRs.get {i:Nat}(h:VRs w Z ρ xs us) (hx:xs[i]? = some x):∃ u,us[i]? = some u/\VR w Z ρ x u:=by
 have hlt:i < us.length:=by rw [h.len]; exact (List.getElem?_eq_some_iff.1 hx).1
 exact ⟨us[i],List.getElem?_eq_getElem hlt,h.at_ i x _ hx (List.getElem?_eq_getElem hlt)⟩
theorem VRs.append (h:VRs w Z ρ xs us) (h':VRs w Z ρ ys vs):VRs w Z ρ (xs++ys) (us++vs) :=
 ⟨by simp [h.len,h'.len],fun i y q hy hq=>by
  by_cases hi:i < xs.length
  ·rw [List.getElem?_append_left hi] at hy
   rw [List.getElem?_append_left (by rw [h.len]; exact hi)] at hq
   exact h.at_ i y q hy hq
  ·rw [List.getElem?_append_right (by omega)] at hy
   rw [List.getElem?_append_right (by rw [h.len]; omega),h.len] at hq
   exact h'.at_ _ y q hy hq⟩
theorem VRs.take (h:VRs w Z ρ xs us) (n:Nat):VRs w Z ρ (xs.take n) (us.take n) :=
 ⟨by simp [h.len],fun i y q hy hq=>by
  rw [List.getElem?_take] at hy hq
  split at hy
  ·next hi=>rw [if_pos hi] at hq; exact h.at_ i y q hy hq
  ·cases hy⟩
theorem VRs.drop (h:VRs w Z ρ xs us) (n:Nat):VRs w Z ρ (xs.drop n) (us.drop n) :=
 ⟨by simp [h.len],fun i y q hy hq=>by
  rw [List.getElem?_drop] at hy hq
  exact h.at_ _ y q hy hq⟩
theorem VRs.set (h:VRs w Z ρ xs us) (n:Nat) (hx:VR w Z ρ x u):VRs w Z ρ (xs.set n x) (us.set n u) :=
 ⟨by simp [h.len],fun i y q hy hq=>by
  rw [List.getElem?_set] at hy hq
  split at hy
  ·next hi =>
   rw [if_pos hi] at hq
   have hl:=h.len
   by_cases hn:n < xs.length
   ·rw [if_pos hn] at hy
    rw [if_pos (by omega)] at hq
    injection hy with hy; injection hq with hq; subst hy hq; exact hx
   ·rw [if_neg hn] at hy; cases hy
  ·next hi=>rw [if_neg hi] at hq; exact h.at_ i y q hy hq⟩
theorem VRs.replicate (n:Nat) (hx:VR w Z ρ x u):VRs w Z ρ (List.replicate n x) (List.replicate n u) :=
 ⟨by simp,fun i y q hy hq=>by
  simp only [List.getElem?_replicate] at hy hq
  split at hy
  ·next hi=>rw [if_pos hi] at hq; injection hy with hy; injection hq with hq; subst hy hq; exact hx
  ·cases hy⟩
/-- The cells of a value. -/
theorem VR.cells (h:VR w Z ρ x u):u.cells.size=x.nc/\VRs w Z ρ x.cel u.cells.toList:=by
 have one:∀ {y:AV} {u:Value},VR w Z ρ y u->u.cells=#[u]->y.nc=1->y.cel=[y]->u.cells.size=y.nc/\VRs w Z ρ y.cel u.cells.toList:=by
  intro y u h e h1 h2
  rw [e,h1,h2]
  exact ⟨rfl,.cons h .nil⟩
 cases h with
 | v h=>exact one (.v h) (by cases u <;> first | rfl | (simp [Value.oneCell'] at h)) rfl rfl
 | st h hn=>exact one (.st h hn) rfl rfl rfl
 | e0=>exact one .e0 rfl rfl rfl
 | sl hn hl hc hm ha hx=>exact one (.sl hn hl hc hm ha hx) rfl rfl rfl
 | rf h0 h1 h2 h3 h4=>exact one (.rf h0 h1 h2 h3 h4) rfl rfl rfl
 | pt h=>exact one (.pt h) rfl rfl rfl
 | pe hs h3 h1 hu hx=>exact one (.pe hs h3 h1 hu hx) rfl rfl rfl
 | ag hl h1 hx=>exact ⟨by simp [Value.cells,AV.nc,hl],⟨by simp [Value.cells,AV.cel,hl],by simpa [Value.cells,AV.cel] using hx⟩⟩
 | tp hl hx=>exact one (.tp hl hx) rfl rfl rfl
 | fn hl hl' hx hy=>exact one (.fn hl hl' hx hy) rfl rfl rfl
 | yl hr=>exact one (.yl hr) rfl rfl rfl
def AV.notTp:AV->Bool
 | .tp _=>false
 | _=>true
def AV.notAg:AV->Bool
 | .ag _=>false
 | _=>true
theorem VR.one (h:VR w Z ρ x u) (ha:x.notAg=true) (ht:x.notTp=true):u.oneCell'=true:=by
 cases h <;> first | assumption | rfl | (simp [AV.notAg] at ha) | (simp [AV.notTp] at ht)
/-- All cells of what may be stored are of one cell. -/
theorem VR.cells_one (h:VR w Z ρ x u) (ht:x.notTp=true):∀ q ∈ u.cells,q.oneCell'=true:=by
 cases h with
 | ag hl h1 hx =>
  intro q hq
  simp [Value.cells] at hq
  exact List.all_eq_true.1 h1 q hq
 | tp hl hx=>simp [AV.notTp] at ht
 | v h=>intro q hq; rw [show u.cells=#[u] by cases u <;> first | rfl | (simp [Value.oneCell'] at h)] at hq; simp at hq; subst hq; exact h
 | _=>intro q hq; simp [Value.cells] at hq; subst hq; rfl
/-- Put together out of cells. -/
theorem VRs.elm (h:VRs w Z ρ xs us) (h1:us.all Value.oneCell'=true):∃ u,VR w Z ρ (elm xs) u/\u.cells=us.toArray/\(Go.Proofs.YtdjhmdbpcfnpgaaGreatDoor.elm xs).notTp=true:=by
 have hs:∀ (xs:List AV),Go.Proofs.YtdjhmdbpcfnpgaaGreatDoor.elm xs = .ag xs->VRs w Z ρ xs us->∃ u,VR w Z ρ (Go.Proofs.YtdjhmdbpcfnpgaaGreatDoor.elm xs) u/\u.cells=us.toArray/\(Go.Proofs.YtdjhmdbpcfnpgaaGreatDoor.elm xs).notTp=true:=by
  intro xs e h
  rw [e]
  exact ⟨_,.ag h.len h1 h.at_,rfl,rfl⟩
 match xs,h with
 | [],h=>exact hs [] rfl h
 | [x],h =>
  obtain ⟨u,us',rfl,hu,hn⟩:=h.head
  have:us'=[]:=by have:=hn.len; simpa using this
  subst this
  have ho:u.oneCell'=true:=by simpa using h1
  refine ⟨u,hu,by cases u <;> first | rfl | (simp [Value.oneCell'] at ho),?_⟩
  show x.notTp=true
  cases hu <;> first | rfl | (simp [Value.oneCell'] at ho)
 | x::y::l,h=>exact hs _ rfl h
end
/-- The own blocks that are live. -/
def own (ρ:List RI) (h:Hp) (c:Nat):Prop:=∃ (b:Nat) (B:Blk) (r:RI),h[b]? = some (some B)/\B.fz=false/\ρ[b]? = some r/\r.c=c
/-- What the own blocks hold. -/
structure HR (w:World) (Z:Nat->Prop) (ρ:List RI) (h:Hp):Prop where
 len:ρ.length=h.length
 blk:∀ (b:Nat) (B:Blk),h[b]? = some (some B)->∃ r arr us,ρ[b]? = some r/\r.k=B.k/\w.heap[r.c]? = some (.cells arr B.t (0,0))/\arr.size=r.cap * B.k/\B.es.length<=r.cap/\r.cap<=maxLen/\(B.fz=true->Z r.c)/\(B.fz=false->¬ Z r.c) /\
  VRs w Z ρ B.es us/\∀ (i:Nat) (u:Value),us[i]? = some u->u.cells.size=B.k/\(∀ q ∈ u.cells,q.oneCell'=true)/\∀ (j:Nat) (q:Value),u.cells[j]? = some q->arr[i * B.k + j]? = some q
 inj:∀ (b b':Nat) (B B':Blk) (r r':RI),h[b]? = some (some B)->B.fz=false->h[b']? = some (some B')->B'.fz=false->ρ[b]? = some r->ρ[b']? = some r'->r.c=r'.c->b=b'
 zlt:∀ c,Z c->c < w.heap.size
/-- From one state to a later one: only own blocks have turned. -/
structure Step (w:World) (Z:Nat->Prop) (ρ:List RI) (h:Hp) (w':World) (Z':Nat->Prop) (ρ':List RI) (h':Hp):Prop where
 os:w'.os=w.os
 tape:w'.tape=w.tape
 output:w'.output=w.output
 size:w.heap.size<=w'.heap.size
 block:∀ c,c < w.heap.size->¬ own ρ h c->w'.heap[c]? = w.heap[c]?
 own_:∀ c,own ρ' h' c->own ρ h c\/w.heap.size<=c
 z:∀ c,Z c->Z' c
 z':∀ c,Z' c->Z c\/own ρ h c\/w.heap.size<=c
 r:∀ (i:Nat) (x:RI),ρ[i]? = some x->ρ'[i]? = some x
section
variable {w w' w'':World}{Z Z' Z'':Nat->Prop}{ρ ρ' ρ'':List RI}{h h' h'':Hp}{x:AV}{u:Value}
theorem Step.refl (w:World) (Z:Nat->Prop) (ρ:List RI) (h:Hp):Step w Z ρ h w Z ρ h :=
 ⟨rfl,rfl,rfl,Nat.le_refl _,fun _ _ _=>rfl,fun _ h=> .inl h,fun _ h=>h,fun _ h=> .inl h,fun _ _ h=>h⟩
theorem Step.trans (s:Step w Z ρ h w' Z' ρ' h') (t:Step w' Z' ρ' h' w'' Z'' ρ'' h''):Step w Z ρ h w'' Z'' ρ'' h'':=by
 refine ⟨t.os.trans s.os,t.tape.trans s.tape,t.output.trans s.output,Nat.le_trans s.size t.size,fun c hc hn=>?_,fun c hc=>?_,fun c hc=>t.z c (s.z c hc),fun c hc=>?_,fun i x hx=>t.r i x (s.r i x hx)⟩
 ·rw [t.block c (Nat.lt_of_lt_of_le hc s.size) fun ho=>?_]
  ·exact s.block c hc hn
  ·rcases s.own_ c ho with h1 | h1
   ·exact hn h1
   ·omega
 ·rcases t.own_ c hc with h1 | h1
  ·exact s.own_ c h1
  ·exact .inr (Nat.le_trans s.size h1)
 ·rcases t.z' c hc with h1 | h1 | h1
  ·exact s.z' c h1
  ·rcases s.own_ c h1 with h2 | h2
   ·exact .inr (.inl h2)
   ·exact .inr (.inr h2)
  ·exact .inr (.inr (Nat.le_trans s.size h1))
theorem HR.rltL (hh:HR w Z ρ h){b:Nat}{B:Blk}{r:RI}(hB:h[b]? = some (some B)) (hr:ρ[b]? = some r):r.c < w.heap.size:=by
 obtain ⟨r',_,_,g1,_,g3,_⟩:=hh.blk b B hB
 rw [hr] at g1
 injection g1 with g1
 subst g1
 exact (Array.getElem?_eq_some_iff.1 g3).1
theorem HR.notZ (hh:HR w Z ρ h){c:Nat}(hc:own ρ h c):¬ Z c:=by
 obtain ⟨b,B,r,h1,h2,h3,rfl⟩:=hc
 obtain ⟨r',_,_,g1,_,_,_,_,_,_,g2,_⟩:=hh.blk b B h1
 rw [h3] at g1
 injection g1 with g1
 subst g1
 exact g2 h2
/-- Values are kept by a step. -/
theorem VR.step (hv:VR w Z ρ x u) (hh:HR w Z ρ h) (s:Step w Z ρ h w' Z' ρ' h'):VR w' Z' ρ' x u :=
 hv.mono (fun b hb=>s.block b (hh.zlt b hb) fun ho=>hh.notZ ho hb) s.z s.r
theorem VRs.step {xs:List AV}{us:List Value}(hv:VRs w Z ρ xs us) (hh:HR w Z ρ h) (s:Step w Z ρ h w' Z' ρ' h'):VRs w' Z' ρ' xs us :=
 ⟨hv.len,fun i x u hx hu=>(hv.at_ i x u hx hu).step hh s⟩
/-- The world grows or other blocks than those that count turn: the blocks' contents are kept. -/
theorem HR.keep (hh:HR w Z ρ h) (hs:w.heap.size<=w'.heap.size) (hb:∀ c,c < w.heap.size->w'.heap[c]? = w.heap[c]?):HR w' Z ρ h:=by
 refine ⟨hh.len,fun b B hB=>?_,hh.inj,fun c hc=>Nat.lt_of_lt_of_le (hh.zlt c hc) hs⟩
 obtain ⟨r,arr,us,h1,h2,h3,h4,h5,h6,h7,h8,h9,h10⟩:=hh.blk b B hB
 exact ⟨r,arr,us,h1,h2,(hb _ (hh.rltL hB h1)).trans h3,h4,h5,h6,h7,h8,h9.mono (fun c hc=>hb c (hh.zlt c hc)) (fun _ h=>h) (fun _ _ h=>h),h10⟩
end
section newblock
variable {w:World}{Z:Nat->Prop}{ρ:List RI}{h:Hp}
theorem A0 {α:Type}(l:List α) (a:α) (i:Nat) (b:α):(l++[a])[i]? = some b↔l[i]? = some b\/(i=l.length/\b=a):=by
 by_cases hi:i < l.length
 ·rw [List.getElem?_append_left hi]
  exact ⟨.inl,fun h=>h.elim id fun h=>by omega⟩
 ·rw [List.getElem?_append_right (by omega)]
  constructor
  ·intro hh
   have:i=l.length:=by
    rcases Nat.eq_zero_or_pos (i - l.length) with h0 | h0
    ·omega
    ·rw [List.getElem?_eq_none (by simp; omega)] at hh; cases hh
   subst this
   simp at hh
   exact .inr ⟨rfl,hh.symm⟩
  ·rintro (hh | ⟨rfl,rfl⟩)
   ·rw [List.getElem?_eq_none (by omega)] at hh; cases hh
   ·simp
/-- A new block. -/
theorem HR.new {w':World}{c:Nat}(hh:HR w Z ρ h){k:Nat}{t:TypeId}{es:List AV}{us:List Value}{arr:Array Value}{cap:Nat}(hg:w.grownBy w' none) (hc:w.heap.size<=c) (hb:w'.heap[c]? = some (.cells arr t (0,0))) (he:VRs w Z ρ es us) (hsz:arr.size=cap * k) (hle:es.length<=cap) (hcm:cap<=maxLen)
  (hu:∀ (i:Nat) (u:Value),us[i]? = some u->u.cells.size=k/\(∀ q ∈ u.cells,q.oneCell'=true)/\∀ (j:Nat) (q:Value),u.cells[j]? = some q->arr[i * k + j]? = some q) :
  HR w' Z (ρ++[⟨c,k,cap⟩]) (h++[some ⟨k,t,es,false⟩])/\Step w Z ρ h w' Z (ρ++[⟨c,k,cap⟩]) (h++[some ⟨k,t,es,false⟩])/\(ρ++[(⟨c,k,cap⟩:RI)])[h.length]? = some ⟨c,k,cap⟩:=by
 have hold:∀ c,c < w.heap.size->w'.heap[c]? = w.heap[c]?:=fun c hc=>hg.block c hc (by simp)
 have hcl:c < w'.heap.size:=(Array.getElem?_eq_some_iff.1 hb).1
 have hr:∀ (i:Nat) (x:RI),ρ[i]? = some x->(ρ++[(⟨c,k,cap⟩:RI)])[i]? = some x:=fun i x hx=>(A0 _ _ _ _).2 (.inl hx)
 have hlast:(ρ++[(⟨c,k,cap⟩:RI)])[h.length]? = some ⟨c,k,cap⟩:=(A0 _ _ _ _).2 (.inr ⟨hh.len.symm,rfl⟩)
 have hmono:∀ {x:AV} {u:Value},VR w Z ρ x u->VR w' Z (ρ++[⟨c,k,cap⟩]) x u:=fun hv=>hv.mono (fun b hb=>hold b (hh.zlt b hb)) (fun _ h=>h) hr
 have hz:∀ d,Z d->d≠c:=fun d hd e=>by have:=hh.zlt d hd; omega
 refine ⟨⟨by simp [hh.len],fun b B hB=>?_,fun b b' B B' r r' hB hf hB' hf' h1 h2 e=>?_,fun c hc=>Nat.lt_of_lt_of_le (hh.zlt c hc) hg.size⟩,⟨hg.os,hg.tape,hg.output,hg.size,fun c hc _=>hold c hc,fun d hd=>?_,fun _ h=>h,fun _ h=> .inl h,hr⟩,hlast⟩
 ·rcases (A0 _ _ _ _).1 hB with hB | ⟨rfl,hE⟩
  ·obtain ⟨r,arr',us',h1,h2,h3,h4,h5,h6,h7,h8,h9,h10⟩:=hh.blk b B hB
   exact ⟨r,arr',us',hr _ _ h1,h2,(hold _ (hh.rltL hB h1)).trans h3,h4,h5,h6,h7,h8,⟨h9.len,fun i x u hx hu'=>hmono (h9.at_ i x u hx hu')⟩,h10⟩
  ·have hE:=(OI hE)
   subst hE
   exact ⟨_,arr,us,hlast,rfl,hb,hsz,hle,hcm,(fun h=>by cases h),(fun _ hZ=>hz _ hZ rfl),⟨he.len,fun i x u hx hu'=>hmono (he.at_ i x u hx hu')⟩,hu⟩
 ·rcases (A0 _ _ _ _).1 h1 with h1 | ⟨e1,rfl⟩ <;> rcases (A0 _ _ _ _).1 h2 with h2 | ⟨e2,rfl⟩
  ·refine hh.inj b b' B B' r r' ?_ hf ?_ hf' h1 h2 e
   ·rcases (A0 _ _ _ _).1 hB with hB | ⟨e3,_⟩
    ·exact hB
    ·have:=(List.getElem?_eq_some_iff.1 h1).1; have:=hh.len; omega
   ·rcases (A0 _ _ _ _).1 hB' with hB | ⟨e3,_⟩
    ·exact hB
    ·have:=(List.getElem?_eq_some_iff.1 h2).1; have:=hh.len; omega
  ·have hB0:h[b]? = some (some B):=by
    rcases (A0 _ _ _ _).1 hB with hB | ⟨e3,_⟩
    ·exact hB
    ·have:=(List.getElem?_eq_some_iff.1 h1).1; have:=hh.len; omega
   have:=hh.rltL hB0 h1; simp at e; omega
  ·have hB0:h[b']? = some (some B'):=by
    rcases (A0 _ _ _ _).1 hB' with hB | ⟨e3,_⟩
    ·exact hB
    ·have:=(List.getElem?_eq_some_iff.1 h2).1; have:=hh.len; omega
   have:=hh.rltL hB0 h2; simp at e; omega
  ·omega
 ·obtain ⟨b,B,r,h1,h2,h3,rfl⟩:=hd
  rcases (A0 _ _ _ _).1 h3 with h3 | ⟨_,rfl⟩
  ·rcases (A0 _ _ _ _).1 h1 with h1 | ⟨e3,_⟩
   ·exact .inl ⟨b,B,r,h1,h2,h3,rfl⟩
   ·have:=(List.getElem?_eq_some_iff.1 h3).1; have:=hh.len; omega
  ·exact .inr hc
/-- The contents of a live block turn. -/
theorem HR.put {w':World}(hh:HR w Z ρ h){b:Nat}{B:Blk}{r:RI}{es:List AV}{us:List Value}{arr:Array Value}(hB:h[b]? = some (some B)) (hf:B.fz=false) (hr:ρ[b]? = some r) (hg:w.grownBy w' (some r.c)) (hb:w'.heap[r.c]? = some (.cells arr B.t (0,0))) (hsz:arr.size=r.cap * B.k) (hle:es.length<=r.cap)
  (he:VRs w Z ρ es us) (hu:∀ (i:Nat) (u:Value),us[i]? = some u->u.cells.size=B.k/\(∀ q ∈ u.cells,q.oneCell'=true)/\∀ (j:Nat) (q:Value),u.cells[j]? = some q->arr[i * B.k + j]? = some q) :
  HR w' Z ρ (h.set b (some { B with es:=es }))/\Step w Z ρ h w' Z ρ (h.set b (some { B with es:=es })):=by
 have hown:own ρ h r.c:=⟨b,B,r,hB,hf,hr,rfl⟩
 have hold:∀ c,c < w.heap.size->c≠r.c->w'.heap[c]? = w.heap[c]?:=fun c hc hne=>hg.block c hc (by intro e; injection e with e; exact hne e)
 have hzr:∀ c,Z c->c≠r.c:=fun c hc e=>hh.notZ hown (e ▸ hc)
 have hmono:∀ {x:AV} {u:Value},VR w Z ρ x u->VR w' Z ρ x u:=fun hv=>hv.mono (fun b hb=>hold b (hh.zlt b hb) (hzr b hb)) (fun _ h=>h) (fun _ _ h=>h)
 have hbl:b < h.length:=(List.getElem?_eq_some_iff.1 hB).1
 have hget:∀ (b':Nat) (B':Blk),(h.set b (some { B with es:=es }))[b']? = some (some B')->(b'=b/\B'={ B with es:=es })\/(b'≠b/\h[b']? = some (some B')):=fun b' B' hB'=>by
  rw [List.getElem?_set] at hB'
  split at hB'
  ·next e =>
   subst e
   try rw [if_pos hbl] at hB'
   injection hB' with hB'
   injection hB' with hB'
   exact .inl ⟨rfl,hB'.symm⟩
  ·next e=>exact .inr ⟨fun e'=>e e'.symm,hB'⟩
 have hown':∀ (b':Nat) (B':Blk),(h.set b (some { B with es:=es }))[b']? = some (some B')->B'.fz=false->∃ B'',h[b']? = some (some B'')/\B''.fz=false:=fun b' B' hB' hf'=>by
  rcases hget b' B' hB' with ⟨rfl,rfl⟩ | ⟨_,h1⟩
  ·exact ⟨B,hB,hf⟩
  ·exact ⟨B',h1,hf'⟩
 refine ⟨⟨by simp [hh.len],fun b' B' hB'=>?_,fun b1 b2 B1 B2 r1 r2 h1 f1 h2 f2 g1 g2 e=>?_,fun c hc=>Nat.lt_of_lt_of_le (hh.zlt c hc) hg.size⟩,
  ⟨hg.os,hg.tape,hg.output,hg.size,fun c hc hn=>hold c hc (fun e=>hn (e ▸ hown)),fun c hc=>?_,fun _ h=>h,fun _ h=> .inl h,fun _ _ h=>h⟩⟩
 ·rcases hget b' B' hB' with ⟨rfl,rfl⟩ | ⟨hne,h1⟩
  ·obtain ⟨r',arr',us',g1,g2,g3,g4,g5,g6,g7,g8,g9,g10⟩:=hh.blk b' B hB
   rw [hr] at g1
   injection g1 with g1
   subst g1
   exact ⟨r,arr,us,hr,g2,hb,hsz,hle,g6,g7,g8,⟨he.len,fun i x u hx hu'=>hmono (he.at_ i x u hx hu')⟩,hu⟩
  ·obtain ⟨r',arr',us',g1,g2,g3,g4,g5,g6,g7,g8,g9,g10⟩:=hh.blk b' B' h1
   have hcne:r'.c≠r.c:=by
    intro e
    cases hfz:B'.fz with
    | true=>exact hzr _ (g7 hfz) e
    | false=>exact hne (hh.inj b' b B' B r' r h1 hfz hB hf g1 hr e)
   exact ⟨r',arr',us',g1,g2,(hold _ (hh.rltL h1 g1) hcne).trans g3,g4,g5,g6,g7,g8,⟨g9.len,fun i x u hx hu'=>hmono (g9.at_ i x u hx hu')⟩,g10⟩
 ·obtain ⟨B1',h1',f1'⟩:=hown' b1 B1 h1 f1
  obtain ⟨B2',h2',f2'⟩:=hown' b2 B2 h2 f2
  exact hh.inj b1 b2 B1' B2' r1 r2 h1' f1' h2' f2' g1 g2 e
 ·obtain ⟨b',B',r',h1,h2,h3,rfl⟩:=hc
  obtain ⟨B'',k1,k2⟩:=hown' b' B' h1 h2
  exact .inl ⟨b',B'',r',k1,k2,h3,rfl⟩
/-- A block is given up. -/
theorem HR.kill (hh:HR w Z ρ h) (b:Nat):HR w Z ρ (h.set b none)/\Step w Z ρ h w Z ρ (h.set b none):=by
 have hget:∀ (b':Nat) (B':Blk),(h.set b none)[b']? = some (some B')->h[b']? = some (some B'):=fun b' B' hB'=>by
  rw [List.getElem?_set] at hB'
  split at hB'
  ·split at hB' <;> cases hB'
  ·exact hB'
 refine ⟨⟨by simp [hh.len],fun b' B' hB'=>hh.blk b' B' (hget b' B' hB'),fun b1 b2 B1 B2 r1 r2 h1 f1 h2 f2=>hh.inj b1 b2 B1 B2 r1 r2 (hget _ _ h1) f1 (hget _ _ h2) f2,hh.zlt⟩,⟨rfl,rfl,rfl,Nat.le_refl _,fun _ _ _=>rfl,fun c hc=>?_,fun _ h=>h,fun _ h=> .inl h,fun _ _ h=>h⟩⟩
 obtain ⟨b',B',r',h1,h2,h3,rfl⟩:=hc
 exact .inl ⟨b',B',r',hget _ _ h1,h2,h3,rfl⟩
/-- A block goes on under another number. -/
theorem HR.rename (hh:HR w Z ρ h){b:Nat}{B:Blk}{r:RI}(hB:h[b]? = some (some B)) (hr:ρ[b]? = some r) :
  HR w Z (ρ++[r]) (h.set b none++[some B])/\Step w Z ρ h w Z (ρ++[r]) (h.set b none++[some B])/\(ρ++[r])[h.length]? = some r:=by
 have hr':∀ (i:Nat) (x:RI),ρ[i]? = some x->(ρ++[r])[i]? = some x:=fun i x hx=>(A0 _ _ _ _).2 (.inl hx)
 have hlast:(ρ++[r])[h.length]? = some r:=(A0 _ _ _ _).2 (.inr ⟨hh.len.symm,rfl⟩)
 have hmono:∀ {x:AV} {u:Value},VR w Z ρ x u->VR w Z (ρ++[r]) x u:=fun hv=>hv.mono (fun _ _=>rfl) (fun _ h=>h) hr'
 have hget:∀ (b':Nat) (B':Blk),(h.set b none++[some B])[b']? = some (some B')->(b'≠b/\b' < h.length/\h[b']? = some (some B'))\/(b'=h.length/\B'=B):=fun b' B' hB'=>by
  rcases (A0 _ _ _ _).1 hB' with hB' | ⟨e1,e2⟩
  ·rw [List.getElem?_set] at hB'
   split at hB'
   ·split at hB' <;> cases hB'
   ·next hne=>exact .inl ⟨fun e=>hne e.symm,(List.getElem?_eq_some_iff.1 hB').1,hB'⟩
  ·rw [List.length_set] at e1
   exact .inr ⟨e1,OI e2⟩
 -- where a block of the new list lies in the old one
 have hback:∀ (b':Nat) (B':Blk) (x:RI),(h.set b none++[some B])[b']? = some (some B')->(ρ++[r])[b']? = some x->∃ b'',h[b'']? = some (some B')/\ρ[b'']? = some x/\(b''=b↔b'=h.length)/\(b''≠b->b''=b'):=fun b' B' x hB' hx=>by
  rcases hget b' B' hB' with ⟨h1,h2,h3⟩ | ⟨rfl,rfl⟩
  ·rcases (A0 _ _ _ _).1 hx with hx | ⟨e,_⟩
   ·exact ⟨b',h3,hx,⟨fun e=>absurd e h1,fun e=>by omega⟩,fun _=>rfl⟩
   ·have:=hh.len; omega
  ·rw [hlast] at hx
   injection hx with hx
   subst hx
   exact ⟨b,hB,hr,⟨fun _=>rfl,fun _=>rfl⟩,fun h=>absurd rfl h⟩
 refine ⟨⟨by simp [hh.len],fun b' B' hB'=>?_,fun b1 b2 B1 B2 r1 r2 h1 f1 h2 f2 g1 g2 e=>?_,hh.zlt⟩,⟨rfl,rfl,rfl,Nat.le_refl _,fun _ _ _=>rfl,fun c hc=>?_,fun _ h=>h,fun _ h=> .inl h,hr'⟩,hlast⟩
 ·have hx:∃ x,(ρ++[r])[b']? = some x:=by
   have:b' < (ρ++[r]).length:=by have:=(List.getElem?_eq_some_iff.1 hB').1; simp [hh.len] at *; omega
   exact ⟨_,List.getElem?_eq_getElem this⟩
  obtain ⟨x,hx⟩:=hx
  obtain ⟨b'',k1,k2,_,_⟩:=hback b' B' x hB' hx
  obtain ⟨r',arr',us',g1,g2,g3,g4,g5,g6,g7,g8,g9,g10⟩:=hh.blk b'' B' k1
  rw [k2] at g1
  injection g1 with g1
  subst g1
  exact ⟨x,arr',us',hx,g2,g3,g4,g5,g6,g7,g8,⟨g9.len,fun i x u hx hu'=>hmono (g9.at_ i x u hx hu')⟩,g10⟩
 ·obtain ⟨c1,k1,k2,k3,k4⟩:=hback b1 B1 r1 h1 g1
  obtain ⟨c2,q1,q2,q3,q4⟩:=hback b2 B2 r2 h2 g2
  have hcc:=hh.inj c1 c2 B1 B2 r1 r2 k1 f1 q1 f2 k2 q2 e
  subst hcc
  by_cases hb:c1=b
  ·rw [k3.1 hb,q3.1 hb]
  ·rw [<-k4 hb,<-q4 hb]
 ·obtain ⟨b',B',x,h1,h2,h3,rfl⟩:=hc
  obtain ⟨b'',k1,k2,_,_⟩:=hback b' B' x h1 h3
  exact .inl ⟨b'',B',x,k1,h2,k2,rfl⟩
end newblock
def okB (bs:List UInt8):Bool:=Nat.ble bs.length maxLen
def av1:Value->Option AV
 | .string s=>if okB s.data.toList then some (.st s.data.toList) else none
 | .slice none 0 0=>some .e0
 | .slice _ _ _=>none
 | .tuple _=>none
 | .agg _=>none
 | .func _ _ _=>none
 | x=>some (.v x)
def avL:List Value->Option (List AV)
 | []=>some []
 | x::l=>match av1 x,avL l with
  | some y,some r=>some (y::r)
  | _,_=>none
def Vz:Value->Option AV
 | .agg cs=>(avL cs.toList).map .ag
 | x=>av1 x
def wr (k:IntKind) (n:Int):Int :=
 match k with
 | .i64=>if -9223372036854775808<=n/\n<=9223372036854775807 then n else IntKind.i64.wrap n
 | k=>k.wrap n
theorem wr_eq (k:IntKind) (n:Int):wr k n=k.wrap n:=by
 cases k <;> try rfl
 show (if _ then n else IntKind.i64.wrap n)=_
 split
 ·next h=>exact (w64_in h.1 h.2).symm
 ·rfl
def Qq (op:BinOp) (k:IntKind) (a b:Int):Option Value :=
 match op with
 | .add=>some (.int k (wr k (a + b)))
 | .sub=>some (.int k (wr k (a - b)))
 | .mul=>some (.int k (wr k (a * b)))
 | .quo=>if b=0 then none else some (.int k (wr k (a.tdiv b)))
 | .rem=>if b=0 then none else some (.int k (a.tmod b))
 | .and=>some (.int k (k.wrap (BitVec.ofInt k.bits a &&& BitVec.ofInt k.bits b).toNat))
 | .or=>some (.int k (k.wrap (BitVec.ofInt k.bits a ||| BitVec.ofInt k.bits b).toNat))
 | .xor=>some (.int k (k.wrap (BitVec.ofInt k.bits a ^^^ BitVec.ofInt k.bits b).toNat))
 | .eql=>some (.bool (a==b))
 | .neq=>some (.bool (a != b))
 | .lss=>some (.bool (decide (a < b)))
 | .leq=>some (.bool (decide (a<=b)))
 | .gtr=>some (.bool (decide (a > b)))
 | .geq=>some (.bool (decide (a≥b)))
 | _=>none
def NI (op:BinOp) (k:IntKind) (a b:Int):Option Value :=
 if b < 0 then none else
 match op with
 | .shl=>some (.int k (wr k (a * 2 ^ min b.toNat k.bits)))
 | .shr=>some (.int k (a.fdiv (2 ^ min b.toNat k.bits)))
 | _=>none
def Mw:BinOp->Bool
 | .shl=>true
 | .shr=>true
 | _=>false
def Pg (op:BinOp) (a b:List UInt8):Option AV :=
 match op with
 | .add=>if okB (a++b) then some (.st (a++b)) else none
 | .eql=>some (.v (.bool (a==b)))
 | .neq=>some (.v (.bool (!(a==b))))
 | .lss=>some (.v (.bool (Op.bytesLess a b)))
 | .leq=>some (.v (.bool (Op.bytesLess a b||a==b)))
 | .gtr=>some (.v (.bool (!(Op.bytesLess a b||a==b))))
 | .geq=>some (.v (.bool (!Op.bytesLess a b)))
 | _=>none
def Mp (op:BinOp) (x y:AV):Option AV :=
 match x,y with
 | .v (.int k a),.v (.int k' b)=>if Mw op then (NI op k a b).map .v else if k=k' then (Qq op k a b).map .v else none
 | .st a,.st b=>Pg op a b
 | _,_=>none
/-- == and != of bools and of pointers. -/
def Mv (P:Program) (t:TypeId):Bool :=
 match P.underlying t with
 | some (.pointer e)=>(P.info? e).isSome
 | _=>false
def eqV (op:BinOp) (b:Bool):Option AV :=
 match op with
 | .eql=>some (.v (.bool b))
 | .neq=>some (.v (.bool (!b)))
 | _=>none
def Ud (P:Program) (op:BinOp) (t:TypeId) (x y:AV):Option AV :=
 match x,y with
 | .v (.bool a),.v (.bool b)=>match P.underlying t with
  | some .bool=>eqV op (a==b)
  | _=>none
 | .pt b i o,.pt b' i' o'=>if b=b'/\i=i'/\o=o'/\Mv P t=true then eqV op true else none
 | .v (.pointer none),.v (.pointer none)=>if Mv P t=true then eqV op true else none
 | .v (.pointer none),.pt _ _ _=>if Mv P t=true then eqV op false else none
 | .pt _ _ _,.v (.pointer none)=>if Mv P t=true then eqV op false else none
 | _,_=>none
/-- A slice is compared with nil. -/
def PS:Operand->Bool
 | .const (.slice none 0 0)=>true
 | _=>false
def SJ (P:Program) (op:BinOp) (t:TypeId) (x:AV):Option AV :=
 match P.underlying t with
 | some (.slice _)=>match x with
  | .rf _ _ _ _=>eqV op false
  | .sl _ (_::_)=>eqV op false
  | _=>none
 | _=>none
/-- Two arrays of two numbers each are compared. -/
def PH (P:Program) (op:BinOp) (t:TypeId) (x y:AV):Option AV :=
 match x,y with
 | .ag [.v (.int k a),.v (.int k1 b)],.ag [.v (.int k' c),.v (.int k1' d)]=>match P.underlying t with
  | some (.array 2 e)=>match P.underlying e,P.info? e with
   | some (.int _),some i=>if k=k'/\k1=k1'/\i.size=1/\P.eqGuardType P.depth t=false then eqV op (a==c&&b==d) else none
   | _,_=>none
  | _=>none
 | _,_=>none
def Wg (op:UnOp) (x:AV):Option AV :=
 match op,x with
 | .not,.v (.bool b)=>some (.v (.bool (!b)))
 | .neg,.v (.int k n)=>some (.v (.int k (wr k (0 - n))))
 | _,_=>none
def Bq (P:Program) (t:TypeId):Option Nat:=(P.info? t).map (·.size)
def XI:TypeDesc->Bool
 | .struct _=>true
 | .array _ _=>true
 | _=>false
def Ow (P:Program) (t:TypeId):Option Bool:=(P.underlying t).map XI
def ET (P:Program) (t:TypeId):Option AV:=((P.info? t).bind (·.zero)).bind Vz
def Fj (P:Program) (t:TypeId):Option TypeId :=
 match P.underlying t with
 | some (.slice e)=>some e
 | _=>none
/-- A part of what lies at an address. -/
def ST (e:AV) (off m:Nat) (agg:Bool):Option AV :=
 if agg then (if off + m<=e.cel.length then some (.ag ((e.cel.drop off).take m)) else none) else e.cel[off]?
def Tb (e:AV) (off:Nat) (x:AV):Option AV :=
 if off + x.cel.length<=e.cel.length then some (elm (e.cel.take off++x.cel++e.cel.drop (off + x.cel.length))) else none
def FD (P:Program) (h:Hp) (t:TypeId) (p:AV):Option AV :=
 match Bq P t,Ow P t with
 | some m,some g =>
  match p with
  | .pt b i off=>match h[b]? with
   | some (some B)=>match B.es[i]? with
    | some e=>ST e off m g
    | none=>none
   | _=>none
  | .pe x off=>ST x off m g
  | _=>none
 | _,_=>none
def Fv (P:Program) (h:Hp) (t:TypeId) (p x:AV):Option Hp :=
 match p with
 | .pt b i off=>match h[b]? with
  | some (some B) =>
   if B.fz then none else
   match B.es[i]? with
   | some e =>
    if Bq P t=some x.nc/\x.notTp=true then (Tb e off x).map fun e'=>h.set b (some { B with es:=B.es.set i e' }) else none
   | none=>none
  | _=>none
 | _=>none
/-- A new block of one element. -/
def Kk (h:Hp) (t:TypeId) (x:AV):Option (AV×Hp) :=
 if x.notTp then some (.pt h.length 0 0,h++[some ⟨x.nc,t,[x],false⟩]) else none
def I8:AV->Option Int
 | .v (.int _ n)=>some n
 | _=>none
def Cz (P:Program) (h:Hp) (t:TypeId) (x ix:AV):Option AV :=
 match I8 ix with
 | none=>none
 | some i =>
  if i < 0 then none else
  match P.underlying t with
  | some (.slice e)=>match x with
   | .rf b lo n _=>match h[b]? with
    | some (some B)=>if i.toNat < n/\Bq P e=some B.k then some (.pt b (lo + i.toNat) 0) else none
    | _=>none
   | .sl k xs=>match xs[i.toNat]? with
    | some y=>if Bq P e=some k then some (.pe y 0) else none
    | none=>none
   | _=>none
  | some (.array n e) =>
   if i.toNat < n then
    match Bq P e,x with
    | some s,.pt b j off=>some (.pt b j (off + i.toNat * s))
    | some s,.pe y off=>some (.pe y (off + i.toNat * s))
    | _,_=>none
   else none
  | _=>none
def EC (P:Program) (t:TypeId) (x:AV) (f:Nat):Option AV :=
 match P.underlying t with
 | some (.struct fs)=>match fs[f]? with
  | some fd=>match Bq P fd.type with
   | some (_ + 1)=>match x with
    | .pt b i off=>some (.pt b i (off + fd.offset))
    | .pe y off=>some (.pe y (off + fd.offset))
    | _=>none
   | _=>none
  | none=>none
 | _=>none
def PM (P:Program) (t:TypeId) (cs:List AV) (off:Nat):Option AV :=
 match Bq P t,Ow P t with
 | some m,some g=>if g then (if off + m<=cs.length then some (.ag ((cs.drop off).take m)) else none) else cs[off]?
 | _,_=>none
def OY (P:Program) (t:TypeId) (x:AV) (f:Nat):Option AV :=
 match P.underlying t,x with
 | some (.struct fs),.ag cs=>match fs[f]? with
  | some fd=>PM P fd.type cs fd.offset
  | none=>none
 | _,_=>none
def JG (P:Program) (t:TypeId) (x ix:AV):Option AV :=
 match I8 ix with
 | none=>none
 | some i =>
  if i < 0 then none else
  match P.underlying t,x with
  | some (.array n e),.ag cs=>if i.toNat < n then (match Bq P e with | some s=>PM P e cs (i.toNat * s) | none=>none) else none
  | some .string,.st bs=>(bs[i.toNat]?).map fun b=> .v (.int .u8 b.toNat)
  | _,_=>none
def Lb:Option AV->Nat->Option Nat
 | none,d=>some d
 | some (.v (.int _ n)),_=>if n < 0 then none else some n.toNat
 | _,_=>none
def GZ (P:Program) (h:Hp) (t:TypeId) (x:AV) (lo hi mx:Option AV):Option AV :=
 match P.underlying t,x with
 | some .string,.st bs =>
  match mx,Lb lo 0,Lb hi bs.length with
  | none,some l,some u=>if l<=u/\u<=bs.length then some (.st ((bs.take u).drop l)) else none
  | _,_,_=>none
 | some (.slice e),.rf b o n m =>
  match h[b]? with
  | some (some B) =>
   match Lb mx m,Lb lo 0,Lb hi n with
   | some k,some l,some u =>
    if l<=u/\u<=k/\k<=m/\(mx.isNone\/hi.isSome)/\Bq P e=some B.k then
     (if l < k then some (.rf b (o + l) (u - l) (k - l)) else if mx.isSome then some .e0 else some (.sl 1 []))
    else none
   | _,_,_=>none
  | _=>none
 | some (.slice e),.sl k xs =>
  match Lb mx xs.length,Lb lo 0,Lb hi xs.length with
  | some q,some l,some u =>
   if l<=u/\u<=q/\q<=xs.length/\(mx.isNone\/hi.isSome)/\Bq P e=some k then
    (if mx.isSome/\l=q then some .e0 else some (.sl k ((xs.take u).drop l)))
   else none
  | _,_,_=>none
 | some (.slice e),.e0 =>
  match Lb mx 0,Lb lo 0,Lb hi 0 with
  | some 0,some 0,some 0=>if (mx.isNone\/hi.isSome)/\(Bq P e).isSome=true then some .e0 else none
  | _,_,_=>none
 | _,_=>none
def Jk (P:Program) (h:Hp) (t:TypeId) (n c:AV):Option (AV×Hp) :=
 match Fj P t,I8 n,I8 c with
 | some e,some n,some c =>
  match P.info? e,ET P e with
  | some i,some z =>
   if n=c/\0<=n/\(i.bytes:Int) * n<=140737488355328/\n<=140737488355328/\z.nc=i.size/\z.notTp=true then
    some (.rf h.length 0 n.toNat n.toNat,h++[some ⟨i.size,e,List.replicate n.toNat z,false⟩]) else none
  | _,_=>none
 | _,_,_=>none
def Ms (es:List AV) (k:Nat):List (Nat×AV)->Option (List AV)
 | []=>some es
 | (i,x)::r=>if i < es.length/\x.nc=k/\x.notTp=true then Ms (es.set i (elm x.cel)) k r else none
def Mr (P:Program) (h:Hp) (t:TypeId) (n:Nat) (parts:List (Nat×AV)):Option (AV×Hp) :=
 match Fj P t with
 | some e =>
  match P.info? e,ET P e with
  | some i,some z =>
   if n * i.size<=65536/\0 < i.size/\z.nc=i.size/\z.notTp=true then
    match Ms (List.replicate n (elm z.cel)) i.size parts with
    | some es=>some (.rf h.length 0 n n,h++[some ⟨i.size,e,es,false⟩])
    | none=>none
   else none
  | _,_=>none
 | none=>none
/-- The parts of a struct, laid at their places. -/
def SM (P:Program) (fs:Array Field) (cs:List AV):List (Nat×AV)->Option (List AV)
 | []=>some cs
 | (i,x)::r=>match fs[i]? with
  | some f=>if Bq P f.type=some x.cel.length/\f.offset + x.cel.length<=cs.length/\x.notTp=true then SM P fs (cs.take f.offset++x.cel++cs.drop (f.offset + x.cel.length)) r else none
  | none=>none
def SL (s:Nat) (cs:List AV):List (Nat×AV)->Option (List AV)
 | []=>some cs
 | (i,x)::r=>if s=x.cel.length/\i * s + x.cel.length<=cs.length/\x.notTp=true then SL s (cs.take (i * s)++x.cel++cs.drop (i * s + x.cel.length)) r else none
def Ov (P:Program) (fs:Array Field):Bool:=fs.all fun f=>(P.info? f.type).isSome
def OX (P:Program) (t:TypeId) (parts:List (Nat×AV)):Option AV :=
 match ET P t with
 | some (.ag z) =>
  match P.underlying t with
  | some (.struct fs)=>if Ov P fs then (SM P fs z parts).map .ag else none
  | some (.array _ e)=>match Bq P e with
   | some s=>(SL s z parts).map .ag
   | none=>none
  | _=>none
 | _=>none
def LJ (P:Program) (t:TypeId) (x:AV):Option AV :=
 match P.underlying t,x with
 | some .string,.st bs=>some (.v (.int .i64 bs.length))
 | some (.slice _),.sl _ xs=>some (.v (.int .i64 xs.length))
 | some (.slice _),.rf _ _ n _=>some (.v (.int .i64 n))
 | some (.slice _),.e0=>some (.v (.int .i64 0))
 | some (.slice _),.v (.slice none 0 0)=>some (.v (.int .i64 0))
 | some (.array n _),_=>some (.v (.int .i64 n))
 | _,_=>none
/-- The elements of a slice (or the bytes of a string). -/
def IQ (h:Hp) (k:Nat):AV->Option (List AV)
 | .e0=>some []
 | .sl k' xs=>if xs.isEmpty||k'==k then some xs else none
 | .rf b lo n _=>match h[b]? with
  | some (some B)=>if B.k=k/\lo + n<=B.es.length then some ((B.es.drop lo).take n) else none
  | _=>none
 | .st bs=>if k=1 then some (bs.map fun b=> .v (.int .u8 b.toNat)) else none
 | _=>none
def Ig (P:Program) (t:TypeId) (y:AV):Bool :=
 match P.underlying t,y with
 | some .string,.st _=>true
 | some (.slice _),.st _=>false
 | some (.slice _),_=>true
 | _,_=>false
def DH (P:Program) (h:Hp) (t t2:TypeId) (x y:AV):Option (AV×Hp) :=
 if Ig P t2 y=false then none else
 match Fj P t with
 | none=>none
 | some e =>
  match P.info? e,ET P e with
  | some i,some z =>
   match IQ h i.size y with
   | none=>none
   | some ys =>
    if ys.isEmpty then (match x with | .e0=>some (x,h) | .sl _ []=>some (x,h) | .rf _ _ _ _=>some (x,h) | _=>none) else
    if 0 < i.size/\z.nc=i.size/\z.notTp=true then
     match x with
     | .e0=>if ys.length * i.bytes<=140737488355328/\ys.length<=140737488355328 then some (.rf h.length 0 ys.length ys.length,h++[some ⟨i.size,e,ys,false⟩]) else none
     | .rf b lo n m=>match h[b]? with
      | some (some B) =>
       if B.fz=true\/B.k≠i.size\/B.t≠e then none else
       if n + ys.length<=m/\lo + n + ys.length<=B.es.length then
        some (.rf b lo (n + ys.length) m,h.set b (some { B with es:=B.es.take (lo + n)++ys++B.es.drop (lo + n + ys.length) }))
       else if lo=0/\n=B.es.length/\(n + ys.length) * i.bytes<=140737488355328/\n + ys.length<=140737488355328 then
        some (.rf h.length 0 (n + ys.length) (n + ys.length),(h.set b none)++[some ⟨i.size,e,B.es++ys,false⟩])
       else none
      | _=>none
     | _=>none
    else none
  | _,_=>none
def Qa (P:Program) (h:Hp) (t:TypeId) (x y:AV):Option (AV×Hp) :=
 match Fj P t with
 | none=>none
 | some e =>
  match Bq P e with
  | none=>none
  | some k =>
   match IQ h k y with
   | none=>none
   | some ys =>
    match x with
    | .rf b lo n _=>match h[b]? with
     | some (some B) =>
      if B.fz=true\/B.k≠k\/¬ (lo + n<=B.es.length) then none else
      some (.v (.int .i64 (min ys.length n:Nat)),h.set b (some { B with es:=B.es.take lo++ys.take (min ys.length n)++B.es.drop (lo + min ys.length n) }))
     | _=>none
    | .e0=>some (.v (.int .i64 0),h)
    | .sl _ []=>some (.v (.int .i64 0),h)
    | _=>none
def PJ (P:Program) (a b:TypeId) (x:AV):Option AV :=
 match P.underlying a,P.underlying b,x with
 | some _,some (.int k),.v (.int _ n)=>some (.v (.int k (wr k n)))
 | some .string,some .string,.st s=>some (.st s)
 | _,_,_=>none
def mmI (isMax:Bool) (a b:Int):Int:=if isMax then (if b > a then b else a) else (if b < a then b else a)
def V1 (isMax:Bool) (k:IntKind) (a:Int):List AV->Option AV
 | []=>some (.v (.int k a))
 | .v (.int _ b)::l=>V1 isMax k (mmI isMax a b) l
 | _=>none
def K0 (isMax:Bool):List AV->Option AV
 | [.v (.int k a),.v (.int _ b)]=>some (.v (.int k (if isMax then (if b > a then b else a) else (if b < a then b else a))))
 | .v (.int k a) :: .v (.int _ b)::y::l=>V1 isMax k (mmI isMax a b) (y::l)
 | _=>none
/-- Arguments. -/
def Fl (ρ:Operand->Option AV):List Operand->Option (List AV)
 | []=>some []
 | x::l=>match ρ x,Fl ρ l with
  | some y,some r=>some (y::r)
  | _,_=>none
def PY (ρ:Operand->Option AV):Option Operand->Option (Option AV)
 | none=>some none
 | some x=>(ρ x).map some
def Hw (ρ:Operand->Option AV):List (Nat×Operand)->Option (List (Nat×AV))
 | []=>some []
 | (i,x)::l=>match ρ x,Hw ρ l with
  | some y,some r=>some ((i,y)::r)
  | _,_=>none
/-- Operations that only read: what they hand back. -/
def DW (P:Program) (ρ:Operand->Option AV) (h:Hp) (o:Op):Option AV :=
 match o with
 | .move x=>ρ x
 | .assign x=>ρ x
 | .pick c a b=>match ρ c with
  | some (.v (.bool true))=>ρ a
  | some (.v (.bool false))=>ρ b
  | _=>none
 | .load t a=>match ρ a with
  | some p=>FD P h t p
  | none=>none
 | .nilCheck x=>match ρ x with
  | some (.pt b i off)=>some (.pt b i off)
  | some (.pe y off)=>some (.pe y off)
  | some (.fn f a b)=>some (.fn f a b)
  | _=>none
 | .binOp op t x y' _=>match ρ x,ρ y' with
  | some x,some y=>match Mp op x y with
   | some z=>some z
   | none=>match Ud P op t x y with
    | some z=>some z
    | none=>if PS y' then SJ P op t x else PH P op t x y
  | _,_=>none
 | .unOp op _ x=>match ρ x with
  | some x=>Wg op x
  | none=>none
 | .convert a b x=>match ρ x with
  | some x=>PJ P a b x
  | none=>none
 | .makeFunc (.func f) p q=>match Fl ρ p.toList,Fl ρ q.toList with
  | some p,some q=>some (.fn f p q)
  | _,_=>none
 | .slice t x lo hi mx=>match ρ x,PY ρ lo,PY ρ hi,PY ρ mx with
  | some x,some lo,some hi,some mx=>GZ P h t x lo hi mx
  | _,_,_,_=>none
 | .fieldAddr t x f=>match ρ x with
  | some x=>EC P t x f
  | none=>none
 | .field t x f=>match ρ x with
  | some x=>OY P t x f
  | none=>none
 | .indexAddr t x i=>match ρ x,ρ i with
  | some x,some i=>Cz P h t x i
  | _,_=>none
 | .index t x i=>match ρ x,ρ i with
  | some x,some i=>JG P t x i
  | _,_=>none
 | .extract x i=>match ρ x with
  | some (.tp vs)=>vs[i]?
  | _=>none
 | .call ⟨.builtin .len,args,tys⟩=>match Fl ρ args.toList,tys.toList with
  | some [x],[t]=>LJ P t x
  | _,_=>none
 | .call ⟨.builtin .min,args,_⟩=>match Fl ρ args.toList with
  | some xs=>K0 false xs
  | none=>none
 | .call ⟨.builtin .max,args,_⟩=>match Fl ρ args.toList with
  | some xs=>K0 true xs
  | none=>none
 | .build t ps=>match Hw ρ ps.toList with
  | some ps=>OX P t ps
  | none=>none
 | .call ⟨.builtin .unsafeSliceData,args,_⟩=>match Fl ρ args.toList with
  | some [.rf b lo _ (_ + 1)]=>some (.pt b lo 0)
  | some [.v (.slice none 0 0)]=>some (.v (.pointer none))
  | _=>none
 | _=>none
/-- Operations that make blocks. -/
def GB (P:Program) (ρ:Operand->Option AV) (h:Hp) (o:Op):Option (AV×Hp) :=
 match o with
 | .alloc t=>match ET P t with
  | some z=>Kk h t z
  | none=>none
 | .box t x=>match ρ x with
  | some x=>Kk h t x
  | none=>none
 | .buildSlice t n ps=>match Hw ρ ps.toList with
  | some ps=>Mr P h t n ps
  | none=>none
 | .makeSlice t n c=>match ρ n,ρ c with
  | some n,some c=>Jk P h t n c
  | _,_=>none
 | _=>none
/-- Bytes as elements. -/
def MO:List AV->Option (List UInt8)
 | []=>some []
 | .v (.int .u8 n)::r=>if 0<=n/\n < 256 then (MO r).map fun l=>n.toNat.toUInt8::l else none
 | _=>none
/-- The bytes of a block that is not written any more, as a string. -/
def LK (P:Program) (h:Hp) (t:TypeId) (x n:AV):Option (AV×Hp) :=
 match P.underlying t,x,n with
 | some (.pointer e),.pt b 0 0,.v (.int .i64 n)=>match h[b]? with
  | some (some B)=>if B.fz=false/\B.k=1/\B.t=e/\P.cellsOf e=1/\0 < n/\n.toNat<=B.es.length then
    (match MO (B.es.take n.toNat) with
    | some bs=>if okB bs then some (.st bs,h.set b none) else none
    | none=>none)
   else none
  | _=>none
 | some (.pointer _),.v (.pointer none),.v (.int .i64 n)=>if n=0 then some (.st [],h) else none
 | _,_,_=>none
/-- A pointer seen as another, where it stays what it is. -/
def Mq (P:Program) (h:Hp) (a b:TypeId) (x:AV):Option AV :=
 match P.underlying a,P.underlying b,x with
 | some (.pointer t),some .unsafePointer,.pt c i off=>match h[c]? with
  | some (some B)=>if i < B.es.length/\off < B.k/\(Bq P t).isSome=true/\Bq P t≠some 0 then some x else none
  | _=>none
 | some .unsafePointer,some (.pointer u),.pt c 0 0=>match h[c]? with
  | some (some B)=>if 0 < B.es.length/\0 < B.k/\B.t=u/\P.cellsOf u=B.k/\(P.info? u).isSome=true then some x else none
  | _=>none
 | _,_,_=>none
/-- Other operations: I: functions of the library that hand back what they get. -/
def L7 (P:Program) (I:FuncId->Bool) (ρ:Operand->Option AV) (h:Hp) (o:Op):Option AV :=
 match o with
 | .convert a b x=>match ρ x with
  | some x=>Mq P h a b x
  | none=>none
 | .call ⟨.value f,args,_⟩=>match ρ f,Fl ρ args.toList with
  | some (.fn g [] []),some [x]=>if I g then some x else none
  | _,_=>none
 | _=>none
/-- Operations that write. -/
def Jl (P:Program) (ρ:Operand->Option AV) (h:Hp) (o:Op):Option (AV×Hp) :=
 match o with
 | .call ⟨.builtin .append,args,tys⟩=>match Fl ρ args.toList,tys.toList with
  | some [x,y],[t,t2]=>DH P h t t2 x y
  | _,_=>none
 | .call ⟨.builtin .copy,args,tys⟩=>match Fl ρ args.toList,tys.toList with
  | some [x,y],[t,t2]=>if Ig P t2 y then Qa P h t x y else none
  | _,_=>none
 | .call ⟨.builtin .unsafeString,args,tys⟩=>match Fl ρ args.toList,tys.toList with
  | some [x,n],[t,_]=>LK P h t x n
  | _,_=>none
 | _=>none
/-- What lies in w lies in w' as well. -/
structure Same (w w':World):Prop where
 size:w.heap.size<=w'.heap.size
 block:∀ c,c < w.heap.size->w'.heap[c]? = w.heap[c]?
theorem Same.refl (w:World):Same w w:=⟨Nat.le_refl _,fun _ _=>rfl⟩
theorem Same.cell {w w':World}(s:Same w w'){a:Addr}{u:Value}(h:w.cell? a=some u):w'.cell? a=some u :=
 (World.cell?_of_block (s.block _ (World.block_lt_of_cell? w a h))).trans h
theorem Mi {w w':World}(h:w.grownBy w' none):Same w w':=⟨h.size,fun c hc=>h.block c hc (by simp)⟩
def Mu:Op->Bool
 | .load _ _=>true
 | _=>false
/-- The operation hands back a value that x tells, in every world (a load: in every world that holds what w holds). -/
def Qt (P:Program) (w:World) (Z:Nat->Prop) (R:List RI) (x:AV) (ve:Operand->Value) (o:Oper):Prop :=
 ∃ u,VR w Z R x u/\∀ w',(Mu o.op=true->Same w w')->(execOp ve o).run P w' = .ok (.value u) w'
section
variable {P:Program}{w:World}{Z:Nat->Prop}{R:List RI}{h:Hp}{ρ:Operand->Option AV}{ve:Operand->Value}{o:Oper}{x:AV}
theorem TD {u : Value} (e : av1 u = some x) : VR w Z R x u := by
  unfold av1 at e
  split at e <;> first
    | (cases e; done)
    | (split at e
       · next hb => injection e with e; subst e; exact .st rfl (Nat.le_of_ble_eq_true hb)
       · cases e)
    | (injection e with e; subst e; first | exact .e0 | (refine .v ?_; cases u <;> first | rfl | (simp at *)))
theorem TE:∀ {us:List Value}{xs:List AV},avL us=some xs->VRs w Z R xs us/\us.all Value.oneCell'=true
 | [],xs,e=>by injection e with e; subst e; exact ⟨.nil,rfl⟩
 | u::us,xs,e=>by
  unfold avL at e
  split at e
  ·next y r h1 h2 =>
   injection e with e
   subst e
   obtain ⟨h3,h4⟩:=TE h2
   refine ⟨.cons (TD h1) h3,?_⟩
   have:u.oneCell'=true:=by unfold av1 at h1; split at h1 <;> first | rfl | (cases h1; done) | (cases u <;> first | rfl | (simp at *))
   simp [this,h4]
  ·cases e
theorem QN {u : Value} (e : Vz u = some x) : VR w Z R x u ∧ x.notTp = true := by
  unfold Vz at e
  split at e
  · next cs =>
    obtain ⟨xs, h1, rfl⟩ := Option.map_eq_some_iff.1 e
    obtain ⟨h2, h3⟩ := TE (w := w) (Z := Z) (R := R) h1
    refine ⟨?_, rfl⟩
    have := VR.ag h2.len h3 h2.at_
    simpa using this
  · refine ⟨TD e, ?_⟩
    unfold av1 at e
    split at e <;> first
      | (cases e; done)
      | (split at e
         · injection e with e; subst e; rfl
         · cases e)
      | (injection e with e; subst e; rfl)
theorem opds_vr (hρ:∀ o x,ρ o=some x->VR w Z R x (ve o)):∀ {l:List Operand}{xs:List AV},Fl ρ l=some xs->VRs w Z R xs (l.map ve)
 | [],xs,e=>by injection e with e; subst e; exact .nil
 | a::l,xs,e=>by
  unfold Fl at e
  split at e
  ·next y r h1 h2=>injection e with e; subst e; exact .cons (hρ _ _ h1) (opds_vr hρ h2)
  ·cases e
theorem Bi {t:TypeId}{m:Nat}(ht:Bq P t=some m) (w:World):(sizeOf t).run P w = .ok m w:=by
 obtain ⟨i,hi,hs⟩:=Option.map_eq_some_iff.1 ht
 simp [sizeOf,typeInfo,hi,hs]
theorem LA {t:TypeId}{g:Bool}(ht:Ow P t=some g) (w:World):(isAgg t).run P w = .ok g w:=by
 obtain ⟨d,hd,hg⟩:=Option.map_eq_some_iff.1 ht
 unfold isAgg
 rw [Sem.run_bind,run_underlying hd w]
 subst hg
 cases d <;> rfl
theorem Gf {t:TypeId}{z:AV}(ht:ET P t=some z):∃ u,VR w Z R z u/\z.notTp=true/\(∀ w,(zeroValue t).run P w = .ok u w)/\∃ i,P.info? t=some i/\i.zero=some u:=by
 obtain ⟨u,hu,hz⟩:=OB ht
 obtain ⟨i,hi,hz'⟩:=OB hu
 obtain ⟨h1,h2⟩:=QN (w:=w) (Z:=Z) (R:=R) hz
 exact ⟨u,h1,h2,fun w=>by simp [zeroValue,typeInfo,hi,hz'],i,hi,hz'⟩
/-- Reading a variable whose cells are known. -/
theorem Ka {t:TypeId}{m:Nat}{g:Bool}(ht:Bq P t=some m) (hg:Ow P t=some g){e y:AV}{u:Value}{a:Addr}{off:Nat}(hv:VR w Z R e u) (h1:∀ q ∈ u.cells,q.oneCell'=true) (he:ST e off m g=some y)
  (hc:∀ (j:Nat) (q:Value),u.cells[j]? = some q->w.cell? ⟨a.block,a.off + j,none⟩=some q) :
  ∃ v,VR w Z R y v/\∀ w',Same w w'->(loadVar t ⟨a.block,a.off + off,none⟩).run P w' = .ok v w':=by
 obtain ⟨hsz,hcs⟩:=hv.cells
 unfold ST at he
 split at he
 ·next hg' =>
  subst hg'
  split at he
  ·next hle =>
   injection he with he
   subst he
   have hvs:=(hcs.drop off).take m
   have hl:((u.cells.toList.drop off).take m).length=m:=by rw [hvs.len,List.length_take,List.length_drop]; omega
   refine ⟨.agg ((u.cells.toList.drop off).take m).toArray,.ag hvs.len (List.all_eq_true.2 fun q hq=>h1 q (by have:=List.mem_of_mem_drop (List.mem_of_mem_take hq); simpa using this)) hvs.at_,fun w' s=>?_⟩
   unfold loadVar
   rw [Sem.run_bind,LA hg]
   have hlc:=run_loadCells_list (P:=P) w' ⟨a.block,a.off + off,none⟩ ((u.cells.toList.drop off).take m) (fun j q hq=>by
    rw [List.getElem?_take] at hq
    split at hq
    ·rw [List.getElem?_drop] at hq
     have hq':u.cells[off + j]? = some q:=by simpa using hq
     have:=s.cell (hc _ _ hq')
     have e:(⟨a.block,a.off + off,none⟩:Addr).add j=⟨a.block,a.off + (off + j),none⟩:=by unfold Addr.add; split <;> simp_all [Nat.add_assoc]
     rw [e]; exact this
    ·cases hq)
   rw [hl] at hlc
   simp [Bi ht,hlc]
  ·cases he
 ·next hg' =>
  have hgf:g=false:=by simpa using hg'
  subst hgf
  obtain ⟨v,hv1,hv2⟩:=hcs.get he
  have hv1':u.cells[off]? = some v:=by simpa using hv1
  refine ⟨v,hv2,fun w' s=>?_⟩
  unfold loadVar
  rw [Sem.run_bind,LA hg]
  simp [s.cell (hc _ _ hv1')]
theorem evLoad_sound (hh:HR w Z R h) (hρ:∀ o x,ρ o=some x->VR w Z R x (ve o)){t:TypeId}{a:Operand}{p:AV}(hp:ρ a=some p) (ho:o.op = .load t a) (e:FD P h t p=some x):Qt P w Z R x ve o:=by
 unfold FD at e
 split at e
 ·next m g hm hg =>
  have hv:=hρ _ _ hp
  split at e
  ·next b i off =>
   split at e
   ·next B hB =>
    split at e
    ·next el hel =>
     obtain ⟨r,arr,us,h1,h2,h3,h4,h5,h6,h7,h8,h9,h10⟩:=hh.blk b B hB
     obtain ⟨u,hu1,hu2⟩:=h9.get hel
     obtain ⟨g1,g2,g3⟩:=h10 _ _ hu1
     generalize hva:ve a=va at hv
     cases hv with
     | pt hr =>
      rw [h1] at hr
      injection hr with hr
      subst hr
      obtain ⟨v,k1,k2⟩:=Ka (w:=w) (Z:=Z) (R:=R) (a:=⟨r.c,i * r.k,none⟩) hm hg hu2 g2 e (fun j q hq=>by
       have:=g3 j q hq
       rw [<-h2] at this
       simp [World.cell?,h3,this])
      exact ⟨v,k1,fun w' s=>by simp [execOp,ho,hva,Instr.loadAt,Instr.sureAddr,k2 w' (s (by rw [ho]; rfl))]⟩
    ·cases e
   ·cases e
  ·next y off =>
   generalize hva:ve a=va at hv
   cases hv with
   | pe hs hz h1 hu hx =>
    rename_i a' u
    obtain ⟨v,k1,k2⟩:=Ka (w:=w) (Z:=Z) (R:=[]) (a:=a') hm hg hx h1 e hu
    exact ⟨v,k1.up,fun w' s=>by simp [execOp,ho,hva,Instr.loadAt,Instr.sureAddr,k2 w' (s (by rw [ho]; rfl))]⟩
  ·cases e
 ·cases e
end
section
variable {P:Program}{w:World}{Z:Nat->Prop}{R:List RI}{h:Hp}{ρ:Operand->Option AV}{ve:Operand->Value}{o:Oper}{x:AV}
theorem VR.v_inv {y:Value}{u:Value}(hv:VR w Z R (.v y) u):u=y:=by cases hv; rfl
theorem VR.st_inv {bs:List UInt8}{u:Value}(hv:VR w Z R (.st bs) u):∃ s:ByteArray,u = .string s/\s.data.toList=bs/\bs.length<=maxLen:=by
 cases hv with
 | st h hn=>exact ⟨_,rfl,h,hn⟩
theorem N9 (s:ByteArray):s.toList=s.data.toList:=ByteArray.toList_eq s
theorem Ie {op:BinOp}{t:TypeId}{x y:Operand}{k k':IntKind}{a b:Int}:(eqGuard op t x y (.int k a) (.int k' b))=pure ():=by
 unfold eqGuard; cases op <;> rfl
theorem Li {op:BinOp}{t:TypeId}{x y:Operand}{a b:ByteArray}:(eqGuard op t x y (.string a) (.string b))=pure ():=by
 unfold eqGuard; cases op <;> rfl
theorem MS {op : BinOp} {t : TypeId} {k : IntKind} {a b : Int} {u : Value} (hs : Mw op = false) (e : Qq op k a b = some u) (w : World) : (binOp op t (.int k a) (.int k b)).run P w = .ok u w ∧ u.oneCell' = true := by
  unfold Qq at e
  cases op <;> simp only [Mw] at hs <;> simp only at e <;> first
    | (cases e; done)
    | (injection e with e; subst e; refine ⟨?_, rfl⟩; simp [binOp, Op.intArith, Op.intCmp, Op.intBits, wr_eq]; done)
    | (split at e
       · cases e
       · next hb => injection e with e; subst e; refine ⟨?_, rfl⟩; simp [binOp, Op.intDiv, hb, wr_eq])
theorem Kb {op:BinOp}{t:TypeId}{k k':IntKind}{a b:Int}{u:Value}(e:NI op k a b=some u) (w:World):(binOp op t (.int k a) (.int k' b)).run P w = .ok u w/\u.oneCell'=true:=by
 unfold NI at e
 split at e
 ·cases e
 ·next hb =>
  cases op <;> simp only at e <;> first
   | (cases e; done)
   | (injection e with e; subst e; refine ⟨?_,rfl⟩; simp [binOp,Op.shift,hb,wr_eq])
theorem P7 {op : BinOp} {t : TypeId} {a b : List UInt8} {sa sb : ByteArray} (ha : sa.data.toList = a) (hb : sb.data.toList = b) (e : Pg op a b = some x) : ∃ u, VR w Z R x u ∧ ∀ w', (binOp op t (.string sa) (.string sb)).run P w' = .ok u w' := by
  subst ha hb
  unfold Pg at e
  cases op <;> simp only at e <;> first
    | (cases e; done)
    | (injection e with e; subst e; exact ⟨_, .v rfl, fun w' => by simp [binOp, Op.stringOp, N9]⟩)
    | (split at e
       · next hk =>
         injection e with e
         subst e
         have h1 := Nat.le_of_ble_eq_true hk
         have h2 : (sa ++ sb).data.toList = sa.data.toList ++ sb.data.toList := by simp
         refine ⟨.string (sa ++ sb), .st h2 h1, fun w' => ?_⟩
         have h3 : sa.size + sb.size ≤ maxLen := by
           have e1 : sa.data.toList.length = sa.size := Array.length_toList
           have e2 : sb.data.toList.length = sb.size := Array.length_toList
           rw [List.length_append] at h1; omega
         unfold maxLen at h3
         have h4 : ¬ (((sa.size + sb.size : Nat) : Int) > IntKind.i64.max) := by
           show ¬ (_ > (9223372036854775807 : Int)); omega
         show (Op.stringOp .add sa sb).run P w' = _
         unfold Op.stringOp
         simp only
         rw [if_neg h4]
         rfl
       · cases e)
theorem evBin_sound (hρ:∀ o x,ρ o=some x->VR w Z R x (ve o)){op:BinOp}{t t':TypeId}{p q:Operand}{y z:AV}(hp:ρ p=some y) (hq:ρ q=some z) (ho:o.op = .binOp op t p q t') (e:Mp op y z=some x):Qt P w Z R x ve o:=by
 have hv:=hρ _ _ hp
 have hv':=hρ _ _ hq
 unfold Mp at e
 split at e
 ·next k a k' b =>
  have e1:=hv.v_inv
  have e2:=hv'.v_inv
  split at e
  ·obtain ⟨u,hu,rfl⟩:=Option.map_eq_some_iff.1 e
   exact ⟨u,.v (Kb (P:=P) (t:=t) (k':=k') hu w).2,fun w' _=>by
    simp only [execOp,ho,e1,e2,Ie]
    simp [(Kb (P:=P) (t:=t) (k':=k') hu w').1]⟩
  ·next hs =>
   split at e
   ·next hk =>
    subst hk
    obtain ⟨u,hu,rfl⟩:=Option.map_eq_some_iff.1 e
    have hs':Mw op=false:=by simpa using hs
    exact ⟨u,.v (MS (P:=P) (t:=t) hs' hu w).2,fun w' _=>by
     simp only [execOp,ho,e1,e2,Ie]
     simp [(MS (P:=P) (t:=t) hs' hu w').1]⟩
   ·cases e
 ·next a b =>
  obtain ⟨sa,e1,h1,_⟩:=hv.st_inv
  obtain ⟨sb,e2,h2,_⟩:=hv'.st_inv
  obtain ⟨u,k1,k2⟩:=P7 (P:=P) (w:=w) (Z:=Z) (R:=R) (t:=t) h1 h2 e
  exact ⟨u,k1,fun w' _=>by
   simp only [execOp,ho,e1,e2,Li]
   simp [k2 w']⟩
 ·cases e
theorem OV {op : BinOp} {t t' : TypeId} {p q : Operand} {b : Bool} {va vb : Value} (hg : eqGuard op t p q va vb = pure ()) (hop : op = .eql ∨ op = .neq → ∀ w', (binOp op t va vb).run P w' = .ok (.bool (if op = .eql then b else !b)) w') (hva : ve p = va) (hvb : ve q = vb)
    (ho : o.op = .binOp op t p q t') (e : eqV op b = some x) : Qt P w Z R x ve o := by
  cases op <;> simp only [eqV] at e <;> first
    | (cases e; done)
    | (injection e with e; subst e
       refine ⟨.bool _, .v rfl, fun w' _ => ?_⟩
       simp only [execOp, ho, hva, hvb, hg]
       have := hop (by simp) w'
       simp at this
       simp [this])
theorem SI {op : BinOp} {t t' : TypeId} {p q : Operand} {b : Bool} {va vb : Value} (hg : ∀ w, (eqGuard op t p q va vb).run P w = .ok () w) (hop : op = .eql ∨ op = .neq → ∀ w', (binOp op t va vb).run P w' = .ok (.bool (if op = .eql then b else !b)) w') (hva : ve p = va) (hvb : ve q = vb)
    (ho : o.op = .binOp op t p q t') (e : eqV op b = some x) : Qt P w Z R x ve o := by
  cases op <;> simp only [eqV] at e <;> first
    | (cases e; done)
    | (injection e with e; subst e
       refine ⟨.bool _, .v rfl, fun w' _ => ?_⟩
       simp only [execOp, ho, hva, hvb]
       have := hop (by simp) w'
       simp at this
       simp [hg, this])
theorem OW {op:BinOp}{t:TypeId}{va vb b:Bool}(hop:op = .eql\/op = .neq) (h:∀ d w',(Op.equalIn (d + 1) t (.bool va) (.bool vb)).run P w' = .ok b w') (w':World) :
  (binOp op t (.bool va) (.bool vb)).run P w' = .ok (.bool (if op = .eql then b else !b)) w':=by
 have h1:(Op.equal t (.bool va) (.bool vb)).run P w' = .ok b w':=h 9999 w'
 rcases hop with rfl | rfl <;> simp [binOp,h1]
theorem Py {op:BinOp}{t:TypeId}{va vb:Option Addr}{b:Bool}(hop:op = .eql\/op = .neq) (h:∀ d w',(Op.equalIn (d + 1) t (.pointer va) (.pointer vb)).run P w' = .ok b w') (w':World) :
  (binOp op t (.pointer va) (.pointer vb)).run P w' = .ok (.bool (if op = .eql then b else !b)) w':=by
 have h1:(Op.equal t (.pointer va) (.pointer vb)).run P w' = .ok b w':=h 9999 w'
 rcases hop with rfl | rfl <;> simp [binOp,h1]
theorem evNil_sound (hρ:∀ o x,ρ o=some x->VR w Z R x (ve o)){op:BinOp}{t t':TypeId}{p q:Operand}{y:AV}(hc:∀ v,ve (.const v)=v) (hp:ρ p=some y) (hq:PS q=true) (ho:o.op = .binOp op t p q t') (e:SJ P op t y=some x):Qt P w Z R x ve o:=by
 have hv:=hρ _ _ hp
 have hq':ve q = .slice none 0 0:=by
  unfold PS at hq
  split at hq
  ·exact hc _
  ·cases hq
 have main:∀ {el:TypeId} {a:Addr} {n c:Nat},P.underlying t=some (.slice el)->ve p = .slice (some a) n c->eqV op false=some x->Qt P w Z R x ve o:=fun {el a n c} hu h1 h2=>by
  refine OV (va:= .slice (some a) n c) (vb:= .slice none 0 0) (by simp [eqGuard]) (fun hop w'=>?_) h1 hq' ho h2
  have k1:∀ d w',(Op.equalIn (d + 1) t (.slice (some a) n c) (.slice none 0 0)).run P w' = .ok false w':=fun d w'=>by simp [Op.equalIn,run_underlying hu]
  have k2:(Op.equal t (.slice (some a) n c) (.slice none 0 0)).run P w' = .ok false w':=k1 9999 w'
  rcases hop with rfl | rfl <;> simp [binOp,k2]
 unfold SJ at e
 split at e
 ·next el hu =>
  generalize hva:ve p=va at hv
  split at e
  ·cases hv with
   | rf hr q0 q1 q2 q3=>exact main hu hva e
  ·cases hv with
   | sl hn hl hc' hm ha hx =>
    obtain ⟨a,h1,_⟩:=ha (by rw [<-hn]; simp)
    subst h1
    exact main hu hva e
  ·cases e
 ·cases e
theorem evEq_sound (hρ:∀ o x,ρ o=some x->VR w Z R x (ve o)){op:BinOp}{t t':TypeId}{p q:Operand}{y z:AV}(hp:ρ p=some y) (hq:ρ q=some z) (ho:o.op = .binOp op t p q t') (e:Ud P op t y z=some x):Qt P w Z R x ve o:=by
 have hv:=hρ _ _ hp
 have hv':=hρ _ _ hq
 have ptr:Mv P t=true->∃ te j,P.underlying t=some (.pointer te)/\P.info? te=some j:=fun h=>by
  unfold Mv at h
  split at h
  ·next te hte=>obtain ⟨j,hj⟩:=Option.isSome_iff_exists.1 h; exact ⟨te,j,hte,hj⟩
  ·cases h
 have pn:∀ {a b:Option Addr} {r:Bool},(∀ te j,P.underlying t=some (.pointer te)->P.info? te=some j->∀ d w',(Op.equalIn (d + 1) t (.pointer a) (.pointer b)).run P w' = .ok r w')->ve p = .pointer a->ve q = .pointer b->Mv P t=true->eqV op r=some x->Qt P w Z R x ve o:=fun {a b r} hrun h1 h2 h3 h4=>by
  obtain ⟨te,j,k1,k2⟩:=ptr h3
  exact OV (va:= .pointer a) (vb:= .pointer b) (by simp [eqGuard]) (fun hop=>Py hop (hrun te j k1 k2)) h1 h2 ho h4
 unfold Ud at e
 split at e
 ·next a b =>
  have e1:=hv.v_inv
  have e2:=hv'.v_inv
  split at e
  ·next hb =>
   exact OV (va:= .bool a) (vb:= .bool b) (by simp [eqGuard]) (fun hop=>OW hop (fun d w'=>run_equalIn_bool' (P:=P) (w:=w') d t a b hb)) e1 e2 ho e
  ·cases e
 ·next b i f b' i' f' =>
  split at e
  ·next hc =>
   obtain ⟨rfl,rfl,rfl,hc⟩:=hc
   generalize hva:ve p=va at hv
   generalize hvb:ve q=vb at hv'
   cases hv with
   | pt hr =>
    cases hv' with
    | pt hr' =>
     rw [hr] at hr'
     injection hr' with hr'
     subst hr'
     exact pn (fun te j k1 k2 d w'=>by simp [Op.equalIn,run_underlying k1,sizeOf,typeInfo,k2,run_sameAddr_same]) hva hvb hc e
  ·cases e
 ·split at e
  ·next hc=>exact pn (fun te j k1 k2 d w'=>by simp [Op.equalIn,run_underlying k1,sizeOf,typeInfo]) hv.v_inv hv'.v_inv hc e
  ·cases e
 ·split at e
  ·next hc =>
   generalize hvb:ve q=vb at hv'
   cases hv' with
   | pt hr'=>exact pn (fun te j k1 k2 d w'=>by simp [Op.equalIn,run_underlying k1,sizeOf,typeInfo]) hv.v_inv hvb hc e
  ·cases e
 ·split at e
  ·next hc =>
   generalize hva:ve p=va at hv
   cases hv with
   | pt hr=>exact pn (fun te j k1 k2 d w'=>by simp [Op.equalIn,run_underlying k1,sizeOf,typeInfo]) hva hv'.v_inv hc e
  ·cases e
 ·cases e
theorem UO {t e:TypeId}{kk k k1:IntKind}{i:TypeInfo}{a b c d:Int}(hu:P.underlying t=some (.array 2 e)) (he:P.underlying e=some (.int kk)) (hi:P.info? e=some i) (hs:i.size=1) (w:World):(Op.equalIn 10000 t (.agg #[.int k a,.int k1 b]) (.agg #[.int k c,.int k1 d])).run P w = .ok (a==c&&b==d) w:=by
 have hz:∀ w,(sizeOf e).run P w = .ok 1 w:=fun w=>by simp [sizeOf,typeInfo,hi,hs]
 have ha:∀ w,(isAgg e).run P w = .ok false w:=fun w=>by simp [isAgg,run_underlying he]
 have q:∀ (x y:Int) (k:IntKind) (w:World),(Op.equalIn 9999 e (.int k x) (.int k y)).run P w = .ok (x==y) w:=fun x y k w=>run_equalIn_int w 9998 e k kk x y he
 rw [show (10000:Nat)=9999 + 1 from rfl,Op.equalIn]
 simp only [Sem.run_bind,run_underlying hu,Result.andThen_ok,hz]
 simp only [Std.Legacy.Range.forIn_eq_forIn_range',Std.Legacy.Range.size,Nat.sub_zero,Nat.add_sub_cancel,Nat.div_one,List.range'_succ,List.range'_zero,List.forIn_cons,List.forIn_nil]
 by_cases h1:a=c <;> by_cases h2:b=d <;> simp [part,ha,q,h1,h2]
theorem Nm (hρ:∀ o x,ρ o=some x->VR w Z R x (ve o)){op:BinOp}{t t':TypeId}{p q:Operand}{y z:AV}(hp:ρ p=some y) (hq:ρ q=some z) (ho:o.op = .binOp op t p q t') (e:PH P op t y z=some x):Qt P w Z R x ve o:=by
 have hv:=hρ _ _ hp
 have hv':=hρ _ _ hq
 unfold PH at e
 split at e
 ·next k a k1 b k' c k1' d =>
  split at e
  ·next el hu =>
   split at e
   ·next kk i he hi =>
    split at e
    ·next hc =>
     obtain ⟨rfl,rfl,hs,hm⟩:=hc
     have two:∀ {k k1:IntKind} {a b:Int} {u:Value},VR w Z R (.ag [.v (.int k a),.v (.int k1 b)]) u->u = .agg #[.int k a,.int k1 b]:=fun {k k1 a b u} h=>by
      cases h with
      | ag hl h1 hx =>
       rename_i us
       match us,hl with
       | [u1,u2],_ =>
        rw [(hx 0 _ u1 rfl rfl).v_inv,(hx 1 _ u2 rfl rfl).v_inv]
     have e1:=two hv
     have e2:=two hv'
     refine SI (va:= .agg #[.int k a,.int k1 b]) (vb:= .agg #[.int k c,.int k1 d]) (fun w'=>run_eqGuard_agg w' op t p q _ _ hm) (fun hop w'=>?_) e1 e2 ho e
     have k1:=UO (P:=P) (k:=k) (k1:=k1) (a:=a) (b:=b) (c:=c) (d:=d) hu he hi hs w'
     rcases hop with rfl | rfl
     ·rw [run_eql_struct,k1]; rfl
     ·rw [run_neq_struct,k1]; rfl
    ·cases e
   ·cases e
  ·cases e
 ·cases e
theorem evUn_sound (hρ:∀ o x,ρ o=some x->VR w Z R x (ve o)){op:UnOp}{t:TypeId}{p:Operand}{y:AV}(hp:ρ p=some y) (ho:o.op = .unOp op t p) (e:Wg op y=some x):Qt P w Z R x ve o:=by
 have hv:=hρ _ _ hp
 unfold Wg at e
 split at e
 ·injection e with e
  subst e
  exact ⟨_,.v rfl,fun w' _=>by simp [execOp,ho,hv.v_inv,Op.unary]⟩
 ·injection e with e
  subst e
  exact ⟨_,.v rfl,fun w' _=>by simp [execOp,ho,hv.v_inv,Op.unary,Op.intArith,wr_eq]⟩
 ·cases e
theorem evConv_sound (hρ:∀ o x,ρ o=some x->VR w Z R x (ve o)){a b:TypeId}{p:Operand}{y:AV}(hp:ρ p=some y) (ho:o.op = .convert a b p) (e:PJ P a b y=some x):Qt P w Z R x ve o:=by
 have hv:=hρ _ _ hp
 unfold PJ at e
 split at e
 ·next d k k' n hd hk =>
  injection e with e
  subst e
  exact ⟨_,.v rfl,fun w' _=>by simp [execOp,ho,hv.v_inv,convert,run_underlying hd,run_underlying hk,Conv.intToInt,wr_eq]⟩
 ·next bs hd hk =>
  injection e with e
  subst e
  obtain ⟨s,e1,h1,h2⟩:=hv.st_inv
  exact ⟨_,.st h1 h2,fun w' _=>by simp [execOp,ho,e1,convert,run_underlying hd,run_underlying hk]⟩
 ·cases e
theorem Ir {y:AV}{i:Int}{u:Value}(e:I8 y=some i) (hv:VR w Z R y u):∃ k,u = .int k i:=by
 unfold I8 at e
 split at e
 ·injection e with e; subst e; exact ⟨_,hv.v_inv⟩
 ·cases e
theorem Dn (b o n:Nat):(⟨b,o,none⟩:Addr).add n=⟨b,o + n,none⟩:=by unfold Addr.add; split <;> simp_all
theorem evIndexAddr_sound (hρ:∀ o x,ρ o=some x->VR w Z R x (ve o)) (hh:HR w Z R h){t:TypeId}{p q:Operand}{y z:AV}(hp:ρ p=some y) (hq:ρ q=some z) (ho:o.op = .indexAddr t p q) (e:Cz P h t y z=some x):Qt P w Z R x ve o:=by
 have hv:=hρ _ _ hp
 have hv':=hρ _ _ hq
 unfold Cz at e
 split at e
 ·cases e
 ·next i hi =>
  obtain ⟨K,e2⟩:=Ir hi hv'
  split at e
  ·cases e
  ·next hneg =>
   have h0:0<=i:=by omega
   split at e
   ·next el hund =>
    generalize hva:ve p=va at hv
    split at e
    ·next b lo n m =>
     split at e
     ·next B hB =>
      split at e
      ·next hlt =>
       injection e with e
       subst e
       cases hv with
       | rf hr g0 g1 g2 g3 =>
       rename_i c r
       obtain ⟨r',_,_,k1,k2,_⟩:=hh.blk b B hB
       rw [hr] at k1
       injection k1 with k1
       subst k1
       have hs:=hlt.2
       rw [<-k2] at hs
       refine ⟨_,.pt hr,fun w' _=>?_⟩
       have hcond:0<=i/\i < (n:Int):=⟨h0,by omega⟩
       simp only [execOp,ho,hva,e2,Instr.indexAt,asIntOf]
       simp [run_underlying hund,hcond,Bi hs,Dn]
       rw [Nat.add_mul]
      ·cases e
     ·cases e
    ·next k ys =>
     split at e
     ·next yy hyy =>
      split at e
      case isFalse=>cases e
      next hs' =>
      injection e with e
      subst e
      cases hv with
      | sl hn hl hc hm ha hx =>
       rename_i c n A us
       have hlt:i.toNat < ys.length:=(List.getElem?_eq_some_iff.1 hyy).1
       obtain ⟨a,rfl,hs,hz,hcell⟩:=ha (by omega)
       have hul:i.toNat < us.length:=by omega
       obtain ⟨g1,g2,g3⟩:=hcell _ _ (List.getElem?_eq_getElem hul)
       refine ⟨_,VR.pe (a:=⟨a.block,a.off + i.toNat * k,none⟩) rfl hz g2 (fun j q hq=>?_) (hx _ _ _ hyy (List.getElem?_eq_getElem hul)),fun w' _=>?_⟩
       ·have:=g3 j q hq
        rw [<-Nat.add_assoc] at this
        exact this
       ·have hcond:0<=i/\i < (n:Int):=⟨h0,by omega⟩
        obtain ⟨ab,ao,asp⟩:=a
        simp only at hs
        subst hs
        simp only [execOp,ho,hva,e2,Instr.indexAt,asIntOf]
        simp [run_underlying hund,hcond,Bi hs',Dn]
     ·cases e
    ·cases e
   ·next len el hund =>
    split at e
    ·next hlt =>
     have hcond:0<=i/\i < (len:Int):=⟨h0,by omega⟩
     generalize hva:ve p=va at hv
     split at e
     ·next s b j off hs =>
      injection e with e
      subst e
      cases hv with
      | pt hr =>
       rename_i r
       refine ⟨_,.pt hr,fun w' _=>?_⟩
       simp only [execOp,ho,hva,e2,Instr.indexAt,asIntOf]
       simp [run_underlying hund,hcond,Bi hs,Dn,Instr.sureAddr,Nat.add_assoc]
     ·next s yy off hs =>
      injection e with e
      subst e
      cases hv with
      | pe hsp hz h1 hu hx =>
       rename_i a u
       refine ⟨_,.pe hsp hz h1 hu hx,fun w' _=>?_⟩
       simp only [execOp,ho,hva,e2,Instr.indexAt,asIntOf]
       simp [run_underlying hund,hcond,Bi hs,Dn,Instr.sureAddr,Nat.add_assoc]
     ·cases e
    ·cases e
   ·cases e
theorem If {fd:Field}{m:Nat}(hft:Bq P fd.type=some (m + 1)) (a:Addr) (w:World):(fieldPlace a fd).run P w = .ok (a.add fd.offset) w:=by
 unfold fieldPlace
 rw [Sem.run_bind,Bi hft]
 simp
theorem evFieldAddr_sound (hρ:∀ o x,ρ o=some x->VR w Z R x (ve o)){t:TypeId}{p:Operand}{f:Nat}{y:AV}(hp:ρ p=some y) (ho:o.op = .fieldAddr t p f) (e:EC P t y f=some x):Qt P w Z R x ve o:=by
 have hv:=hρ _ _ hp
 unfold EC at e
 split at e
 ·next fs hund =>
  split at e
  ·next fd hfd =>
   split at e
   ·next m hm =>
    generalize hva:ve p=va at hv
    split at e
    ·next b i off =>
     injection e with e
     subst e
     cases hv with
     | pt hr =>
      refine ⟨_,.pt hr,fun w' _=>?_⟩
      simp [execOp,ho,hva,Instr.fieldAt,Instr.sureAddr,run_underlying hund,hfd,If hm,Dn,Nat.add_assoc]
    ·next yy off =>
     injection e with e
     subst e
     cases hv with
     | pe hsp hz h1 hu hx =>
      refine ⟨_,.pe hsp hz h1 hu hx,fun w' _=>?_⟩
      simp [execOp,ho,hva,Instr.fieldAt,Instr.sureAddr,run_underlying hund,hfd,If hm,Dn,Nat.add_assoc]
    ·cases e
   ·cases e
  ·cases e
 ·cases e
theorem KZ {t:TypeId}{cs:List AV}{off:Nat}{us:List Value}(hl:VRs w Z R cs us) (h1:us.all Value.oneCell'=true) (e:PM P t cs off=some x):∃ v,VR w Z R x v/\∀ w',(part t us.toArray off).run P w' = .ok v w':=by
 unfold PM at e
 split at e
 ·next m g hm hg =>
  split at e
  ·next hgt =>
   subst hgt
   split at e
   ·next hle =>
    injection e with e
    subst e
    have hvs:=(hl.drop off).take m
    refine ⟨.agg ((us.drop off).take m).toArray,.ag hvs.len (List.all_eq_true.2 fun q hq=>List.all_eq_true.1 h1 q (List.mem_of_mem_drop (List.mem_of_mem_take hq))) hvs.at_,fun w'=>?_⟩
    unfold part
    rw [Sem.run_bind,LA hg]
    simp [Bi hm]
   ·cases e
  ·next hgf =>
   have hgf':g=false:=by simpa using hgf
   subst hgf'
   obtain ⟨v,k1,k2⟩:=hl.get e
   refine ⟨v,k2,fun w'=>?_⟩
   unfold part
   rw [Sem.run_bind,LA hg]
   simp [k1]
 ·cases e
theorem evField_sound (hρ:∀ o x,ρ o=some x->VR w Z R x (ve o)){t:TypeId}{p:Operand}{f:Nat}{y:AV}(hp:ρ p=some y) (ho:o.op = .field t p f) (e:OY P t y f=some x):Qt P w Z R x ve o:=by
 have hv:=hρ _ _ hp
 unfold OY at e
 split at e
 ·next fs cs hund =>
  split at e
  ·next fd hfd =>
   generalize hva:ve p=va at hv
   cases hv with
   | ag hl h1 hx =>
    obtain ⟨v,k1,k2⟩:=KZ (P:=P) ⟨hl,hx⟩ h1 e
    exact ⟨v,k1,fun w' _=>by simp [execOp,ho,hva,Instr.field,run_underlying hund,hfd,asAgg,k2 w']⟩
  ·cases e
 ·cases e
theorem evIndex_sound (hρ:∀ o x,ρ o=some x->VR w Z R x (ve o)){t:TypeId}{p q:Operand}{y z:AV}(hp:ρ p=some y) (hq:ρ q=some z) (ho:o.op = .index t p q) (e:JG P t y z=some x):Qt P w Z R x ve o:=by
 have hv:=hρ _ _ hp
 have hv':=hρ _ _ hq
 unfold JG at e
 split at e
 ·cases e
 ·next i hi =>
  obtain ⟨K,e2⟩:=Ir hi hv'
  split at e
  ·cases e
  ·next hneg =>
   have h0:0<=i:=by omega
   generalize hva:ve p=va at hv
   split at e
   ·next n el cs hund =>
    split at e
    ·next hlt =>
     split at e
     ·next s hs =>
      cases hv with
      | ag hl h1 hx =>
       obtain ⟨v,k1,k2⟩:=KZ (P:=P) ⟨hl,hx⟩ h1 e
       have hcond:0<=i/\i < (n:Int):=⟨h0,by omega⟩
       exact ⟨v,k1,fun w' _=>by
        simp only [execOp,ho,hva,e2,Instr.index,asIntOf]
        simp [run_underlying hund,hcond,Bi hs,k2 w']⟩
     ·cases e
    ·cases e
   ·next bs hund =>
    obtain ⟨b,hb,rfl⟩:=Option.map_eq_some_iff.1 e
    obtain ⟨s,rfl,h1,h2⟩:=hv.st_inv
    refine ⟨_,.v rfl,fun w' _=>?_⟩
    have hb':s[i.toNat]? = some b:=by
     subst h1
     rw [<-hb]
     obtain ⟨h3,h4⟩:=List.getElem?_eq_some_iff.1 hb
     have h5:i.toNat < s.size:=by rw [Array.length_toList] at h3; exact h3
     rw [getElem?_pos s i.toNat h5,List.getElem?_eq_getElem h3]
     rfl
    simp only [execOp,ho,hva,e2,Instr.index,asIntOf]
    simp [run_underlying hund,h0,hb']
   ·cases e
end
section
variable {P:Program}{w:World}{Z:Nat->Prop}{R:List RI}{h:Hp}{ρ:Operand->Option AV}{ve:Operand->Value}{o:Oper}{x:AV}
theorem II {bs:List UInt8}{s:ByteArray}(h1:s.data.toList=bs):s.size=bs.length:=by subst h1; exact Array.length_toList.symm
theorem Fe {b:Builtin}{args:Array Operand}{tys:Array TypeId}{us:List Value}(ho:o.op = .call ⟨.builtin b,args,tys⟩) (hu:args.toList.map ve=us) (w:World):(execOp ve o).run P w=(builtin b tys o.type (args.map fun | .const _=>true | _=>false) us.toArray).run P w:=by
 have e:args.map ve=us.toArray:=by
  apply Array.ext'
  rw [<-hu,Array.toList_map]
 simp only [execOp,ho,resolve,e]
 rfl
theorem evLen_sound (hρ:∀ o x,ρ o=some x->VR w Z R x (ve o)){args:Array Operand}{tys:Array TypeId}{t:TypeId}{y:AV}(ho:o.op = .call ⟨.builtin .len,args,tys⟩) (ha:Fl ρ args.toList=some [y]) (ht:tys.toList=[t]) (e:LJ P t y=some x):Qt P w Z R x ve o:=by
 have hvs:=opds_vr hρ ha
 obtain ⟨u,us',hus,hv,hn⟩:=hvs.head
 have:us'=[]:=by have:=hn.len; simpa using this
 subst this
 have ht':tys=#[t]:=by apply Array.ext'; simpa using ht
 subst ht'
 have hrun:=fun w=>Fe (P:=P) (ve:=ve) ho hus w
 unfold LJ at e
 split at e
 ·next bs hund =>
  injection e with e; subst e
  obtain ⟨s,rfl,h1,h2⟩:=hv.st_inv
  exact ⟨.int .i64 (bs.length:Int),.v rfl,fun w' _=>by rw [hrun]; simp [builtin,Builtin.len_,run_underlying hund,goInt,II h1]⟩
 ·next el k ys hund =>
  injection e with e; subst e
  cases hv with
  | sl hn hl hc hm ha hx=>exact ⟨.int .i64 (ys.length:Int),.v rfl,fun w' _=>by rw [hrun]; simp [builtin,Builtin.len_,run_underlying hund,goInt,hn]⟩
 ·next el b lo n m hund =>
  injection e with e; subst e
  cases hv with
  | rf hr g0 g1 g2 g3=>exact ⟨.int .i64 (n:Int),.v rfl,fun w' _=>by rw [hrun]; simp [builtin,Builtin.len_,run_underlying hund,goInt]⟩
 ·next el hund =>
  injection e with e; subst e
  cases hv
  exact ⟨.int .i64 0,.v rfl,fun w' _=>by rw [hrun]; simp [builtin,Builtin.len_,run_underlying hund,goInt]⟩
 ·next el hund =>
  injection e with e; subst e
  have hv:=hv.v_inv
  subst hv
  exact ⟨.int .i64 0,.v rfl,fun w' _=>by rw [hrun]; simp [builtin,Builtin.len_,run_underlying hund,goInt]⟩
 ·next n el hund =>
  injection e with e; subst e
  exact ⟨.int .i64 (n:Int),.v rfl,fun w' _=>by rw [hrun]; cases u <;> simp [builtin,Builtin.len_,run_underlying hund,goInt]⟩
 ·cases e
theorem PL {g:Bool}{k:IntKind}:∀ {l:List AV}{us:List Value}{a:Int}{x:AV},VRs w Z R l us->V1 g k a l=some x->∃ n,x = .v (.int k n)/\∀ w',(us.foldlM (if g then Builtin.max2 else Builtin.min2) (Value.int k a)).run P w' = .ok (.int k n) w'
 | [],us,a,x,hv,e=>by
  have:us=[]:=by have:=hv.len; simpa using this
  subst this
  injection e with e
  exact ⟨a,e.symm,fun w'=>rfl⟩
 | y::l,us,a,x,hv,e=>by
  obtain ⟨u,us',rfl,hu,hn⟩:=hv.head
  unfold V1 at e
  split at e
  ·next h=>cases h
  ·next k' b l' hy =>
   injection hy with hy1 hy2
   subst hy1 hy2
   have hu:=hu.v_inv
   subst hu
   obtain ⟨n,h1,h2⟩:=PL hn e
   refine ⟨n,h1,fun w'=>?_⟩
   rw [List.foldlM_cons,Sem.run_bind]
   have:((if g=true then Builtin.max2 else Builtin.min2) (Value.int k a) (Value.int k' b)).run P w' = .ok (.int k (mmI g a b)) w':=by
    cases g <;> simp [Builtin.max2,Builtin.min2,mmI]
   rw [this]
   exact h2 w'
  ·cases e
theorem evMinMax_sound (hρ:∀ o x,ρ o=some x->VR w Z R x (ve o)){args:Array Operand}{tys:Array TypeId}{ys:List AV}{g:Bool}(ho:o.op = .call ⟨.builtin (if g then .max else .min),args,tys⟩) (ha:Fl ρ args.toList=some ys) (e:K0 g ys=some x):Qt P w Z R x ve o:=by
 have hvs:=opds_vr hρ ha
 unfold K0 at e
 split at e
 ·next k a k' b =>
  injection e with e; subst e
  obtain ⟨u,us',hus,hv,hn⟩:=hvs.head
  obtain ⟨u',us'',rfl,hv',hn'⟩:=hn.head
  have:us''=[]:=by have:=hn'.len; simpa using this
  subst this
  have e1:=hv.v_inv
  have e2:=hv'.v_inv
  subst e1 e2
  have hrun:=fun w=>Fe (P:=P) (ve:=ve) ho hus w
  refine ⟨_,.v rfl,fun w' _=>?_⟩
  rw [hrun]
  cases g
  ·simp [builtin,Builtin.min_,Builtin.min2]
  ·simp [builtin,Builtin.max_,Builtin.max2]
 ·next k a k' b y l =>
  obtain ⟨u,us',hus,hv,hn⟩:=hvs.head
  obtain ⟨u',us'',rfl,hv',hn'⟩:=hn.head
  have e1:=hv.v_inv
  have e2:=hv'.v_inv
  subst e1 e2
  obtain ⟨n,h1,h2⟩:=PL (P:=P) (g:=g) hn' e
  subst h1
  have hrun:=fun w=>Fe (P:=P) (ve:=ve) ho hus w
  refine ⟨_,.v rfl,fun w' _=>?_⟩
  rw [hrun]
  have h3:=h2 w'
  cases g
  ·simp only [builtin,Builtin.min_,Bool.false_eq_true,if_false] at h3 ⊢
   rw [List.foldlM_cons,Sem.run_bind]
   simp [Builtin.min2,mmI] at h3 ⊢
   rw [h3]; rfl
  ·simp only [builtin,Builtin.max_,if_true] at h3 ⊢
   rw [List.foldlM_cons,Sem.run_bind]
   simp [Builtin.max2,mmI] at h3 ⊢
   rw [h3]; rfl
 ·cases e
theorem K6 {a:Option AV}{d n:Nat}{va:Option Value}(e:Lb a d=some n) (hv:∀ y,a=some y->∃ u,va=some u/\VR w Z R y u) (hn:a=none->va=none):(a=none/\va=none/\n=d)\/(∃ k,va=some (.int k (n:Int))/\a.isSome=true):=by
 unfold Lb at e
 split at e
 ·injection e with e; exact .inl ⟨rfl,hn rfl,e.symm⟩
 ·next q k i =>
  split at e
  ·cases e
  ·next h0 =>
   injection e with e
   obtain ⟨u,h1,h2⟩:=hv _ rfl
   rw [h2.v_inv] at h1
   exact .inr ⟨k,by rw [h1,<-e,show ((i.toNat:Nat):Int)=i by omega],rfl⟩
 ·cases e
theorem Lh {k:IntKind}{n y:Nat}{c:BoundsCode}(hle:n<=y) (w:World):(Instr.sliceBound (.int k (n:Int)) y c).run P w = .ok n w:=by
 have hcond:(0:Int)<=(n:Int)/\(n:Int)<=(y:Int):=⟨by omega,by omega⟩
 simp [Instr.sliceBound,asIntOf,hcond]
/-- The bounds of a slice expression, all in order. -/
theorem GK {s:Bool}{len cap l u m:Nat}{lo hi mx:Option Value}(hm:(mx=none/\m=cap)\/∃ k,mx=some (.int k (m:Int))) (hu:(hi=none/\u=len)\/∃ k,hi=some (.int k (u:Int))) (hl:(lo=none/\l=0)\/∃ k,lo=some (.int k (l:Int)))
  (h1:l<=u) (h2:u<=m) (h3:m<=cap) (h4:mx=none\/hi≠none) (w:World):(Instr.sliceBounds s len cap lo hi mx).run P w = .ok (l,u,m) w:=by
 rcases hm with ⟨rfl,rfl⟩ | ⟨km,rfl⟩ <;> rcases hu with ⟨rfl,rfl⟩ | ⟨ku,rfl⟩ <;> rcases hl with ⟨rfl,rfl⟩ | ⟨kl,rfl⟩ <;> first
  | (simp at h4; done)
  | simp [Instr.sliceBounds,Lh h1,Lh h2,Lh h3]
theorem NA (hρ:∀ o x,ρ o=some x->VR w Z R x (ve o)){a:Option Operand}{y:Option AV}(e:PY ρ a=some y):(∀ q,y=some q->∃ u,a.map ve=some u/\VR w Z R q u)/\(y=none->a.map ve=none):=by
 unfold PY at e
 split at e
 ·injection e with e; subst e; exact ⟨fun q hq=>(by cases hq),fun _=>rfl⟩
 ·next a' =>
  obtain ⟨q,hq,rfl⟩:=Option.map_eq_some_iff.1 e
  exact ⟨fun q' hq'=>by injection hq' with hq'; subst hq'; exact ⟨_,rfl,hρ _ _ hq⟩,fun h=>by cases h⟩
theorem FS {a:Option AV}{d n:Nat}{va:Option Value}(e:Lb a d=some n) (hv:(∀ q,a=some q->∃ u,va=some u/\VR w Z R q u)/\(a=none->va=none)):(va=none/\n=d)\/∃ k,va=some (.int k (n:Int)):=by
 rcases K6 e hv.1 hv.2 with ⟨_,h2,h3⟩ | ⟨k,h2,_⟩
 ·exact .inl ⟨h2,h3⟩
 ·exact .inr ⟨k,h2⟩
theorem HW {a:Option AV}{d n:Nat}{va:Option Value}(e:Lb a d=some n) (hv:(∀ q,a=some q->∃ u,va=some u/\VR w Z R q u)/\(a=none->va=none)):a.isNone=true↔va=none:=by
 rcases K6 e hv.1 hv.2 with ⟨h1,h2,h3⟩ | ⟨k,h2,h1⟩
 ·simp [h1,h2]
 ·simp [h2]; intro h; rw [h] at h1; cases h1
theorem JS (s:ByteArray) (l u:Nat):(s.extract l u).data.toList=(s.data.toList.take u).drop l:=by
 simp [List.extract_eq_take_drop,List.drop_take]
theorem evSlice_sound (hρ:∀ o x,ρ o=some x->VR w Z R x (ve o)) (hh:HR w Z R h){t:TypeId}{p:Operand}{lo hi mx:Option Operand}{y:AV}{yl yh ym:Option AV}(hp:ρ p=some y) (hl:PY ρ lo=some yl) (hhi:PY ρ hi=some yh) (hmx:PY ρ mx=some ym) (ho:o.op = .slice t p lo hi mx) (e:GZ P h t y yl yh ym=some x):Qt P w Z R x ve o:=by
 have hv:=hρ _ _ hp
 have il:=NA hρ hl
 have ih:=NA hρ hhi
 have im:=NA hρ hmx
 generalize hva:ve p=va at hv
 unfold GZ at e
 split at e
 ·next bs hund =>
  split at e
  ·next l u h1 h2 =>
   split at e
   ·next hlu =>
    injection e with e; subst e
    obtain ⟨s,rfl,g1,g2⟩:=hv.st_inv
    have hsz:=II g1
    have hmn:mx.map ve=none:=im.2 rfl
    have hr:=fun w=>GK (P:=P) (s:=false) (len:=s.size) (cap:=s.size) (m:=s.size) (mx:=none) (.inl ⟨rfl,rfl⟩) (by rw [hsz]; exact FS h2 ih) (FS h1 il) hlu.1 (by omega) (Nat.le_refl _) (.inl rfl) w
    refine ⟨.string (s.extract l u),.st (by rw [JS,g1]) ?_,fun w' _=>?_⟩
    ·simp; omega
    ·simp [execOp,ho,hva,Instr.sliceAt,run_underlying hund,Instr.slice,hr,hmn]
   ·cases e
  ·cases e
 ·next el b o' n m hund =>
  split at e
  ·next B hB =>
   split at e
   ·next k l u hk h1 h2 =>
    split at e
    ·next hc =>
     obtain ⟨c1,c2,c3,c4,c5⟩:=hc
     cases hv with
     | rf hr g0 g1 g2 g3 =>
      rename_i c r
      obtain ⟨r',_,_,k1,k2,_⟩:=hh.blk b B hB
      rw [hr] at k1
      injection k1 with k1
      subst k1
      rw [<-k2] at c5
      have c4':mx.map ve=none\/hi.map ve≠none:=by
       rcases c4 with h | h
       ·exact .inl ((HW hk im).1 h)
       ·refine .inr fun hn=>?_
        have:=(HW h2 ih).2 hn
        cases yh <;> simp at *
      -- the true bound of capacity
      have hbd:∃ K,(k<=K/\K<=c/\(ym.isSome=true->K=k))/\∀ w',(Instr.sliceBounds true n c (lo.map ve) (hi.map ve) (mx.map ve)).run P w' = .ok (l,u,K) w':=by
       rcases K6 hk im.1 im.2 with ⟨q1,q2,q3⟩ | ⟨kk,q2,q3⟩
       ·refine ⟨c,⟨by omega,Nat.le_refl _,fun h=>by rw [q1] at h; cases h⟩,fun w'=>?_⟩
        exact GK (.inl ⟨q2,rfl⟩) (FS h2 ih) (FS h1 il) c1 (by omega) (Nat.le_refl _) c4' w'
       ·refine ⟨k,⟨Nat.le_refl _,by omega,fun _=>rfl⟩,fun w'=>?_⟩
        exact GK (.inr ⟨kk,q2⟩) (FS h2 ih) (FS h1 il) c1 c2 (by omega) c4' w'
      obtain ⟨K,⟨b1,b2,b3⟩,hrun⟩:=hbd
      split at e
      ·next hlk =>
       injection e with e; subst e
       refine ⟨.slice (some ⟨r.c,(o' + l) * r.k,none⟩) (u - l) (K - l),.rf hr (by omega) (by omega) (by omega) g3,fun w' _=>?_⟩
       have hne:K≠l:=by omega
       simp [execOp,ho,hva,Instr.sliceAt,run_underlying hund,Instr.slice,hrun,Bi c5,hne,Dn,Nat.add_mul]
      ·next hlk =>
       split at e
       ·next hsome =>
        injection e with e; subst e
        have hK:=b3 hsome
        refine ⟨.slice (some ⟨r.c,o' * r.k,none⟩) 0 0,.e0,fun w' _=>?_⟩
        have e1:K=l:=by omega
        have e2:u=l:=by omega
        subst e1 e2
        simp [execOp,ho,hva,Instr.sliceAt,run_underlying hund,Instr.slice,hrun,Bi c5]
       ·injection e with e; subst e
        have e2:u=l:=by omega
        subst e2
        refine ⟨.slice (some (if K=u then ⟨r.c,o' * r.k,none⟩ else ⟨r.c,o' * r.k + u * r.k,none⟩)) 0 (K - u),.sl rfl (us:=[]) rfl (Nat.zero_le _) (by omega) (fun h=>by simp at h) (fun i x u hx=>by simp at hx),fun w' _=>?_⟩
        by_cases hKu:K=u
        ·simp [execOp,ho,hva,Instr.sliceAt,run_underlying hund,Instr.slice,hrun,Bi c5,Dn,hKu]
        ·simp [execOp,ho,hva,Instr.sliceAt,run_underlying hund,Instr.slice,hrun,Bi c5,Dn,hKu]
    ·cases e
   ·cases e
  ·cases e
 ·next el k xs hund =>
  split at e
  ·next q l u hq h1 h2 =>
   split at e
   ·next hc =>
    obtain ⟨c1,c2,c3,c4,c5⟩:=hc
    cases hv with
    | sl hn hl' hcc hm ha hx =>
     rename_i c n A us
     subst hn
     have c4':mx.map ve=none\/hi.map ve≠none:=by
      rcases c4 with h | h
      ·exact .inl ((HW hq im).1 h)
      ·refine .inr fun hn=>?_
       have:=(HW h2 ih).2 hn
       cases yh <;> simp at *
     have hbd:∃ K,(q<=K/\K<=c/\(ym.isSome=true->K=q))/\∀ w',(Instr.sliceBounds true xs.length c (lo.map ve) (hi.map ve) (mx.map ve)).run P w' = .ok (l,u,K) w':=by
      rcases K6 hq im.1 im.2 with ⟨q1,q2,q3⟩ | ⟨kk,q2,q3⟩
      ·refine ⟨c,⟨by omega,Nat.le_refl _,fun h=>by rw [q1] at h; cases h⟩,fun w'=>?_⟩
       exact GK (.inl ⟨q2,rfl⟩) (FS h2 ih) (FS h1 il) c1 (by omega) (Nat.le_refl _) c4' w'
      ·refine ⟨q,⟨Nat.le_refl _,by omega,fun _=>rfl⟩,fun w'=>?_⟩
       exact GK (.inr ⟨kk,q2⟩) (FS h2 ih) (FS h1 il) c1 c2 (by omega) c4' w'
     obtain ⟨K,⟨b1,b2,b3⟩,hrun⟩:=hbd
     split at e
     ·next hsq =>
      injection e with e; subst e
      have hK:=b3 hsq.1
      have e1:K=l:=by omega
      have e2:u=l:=by omega
      subst e1 e2
      refine ⟨.slice A 0 0,.e0,fun w' _=>?_⟩
      simp [execOp,ho,hva,Instr.sliceAt,run_underlying hund,Instr.slice,hrun,Bi c5]
     ·injection e with e; subst e
      have hlen:((xs.take u).drop l).length=u - l:=by simp; omega
      refine ⟨.slice (if K=l then A else A.map (·.add (l * k))) (u - l) (K - l),.sl (us:=(us.take u).drop l) hlen (by simp [hl']) (by omega) (by omega) (fun h0=>?_) (fun i x' u' hx' hu'=>?_),fun w' _=>?_⟩
      ·obtain ⟨a,rfl,hs,hz,hcell⟩:=ha (by omega)
       obtain ⟨ab,ao,asp⟩:=a
       simp only at hs
       subst hs
       rw [if_neg (by omega)]
       refine ⟨⟨ab,ao + l * k,none⟩,by simp [Dn],rfl,hz,fun i u' hu'=>?_⟩
       rw [List.getElem?_drop,List.getElem?_take] at hu'
       split at hu'
       ·obtain ⟨d1,d2,d3⟩:=hcell _ _ hu'
        refine ⟨d1,d2,fun j q' hq'=>?_⟩
        have:=d3 j q' hq'
        rw [Nat.add_mul] at this
        simpa [Nat.add_assoc] using this
       ·cases hu'
      ·rw [List.getElem?_drop,List.getElem?_take] at hu' hx'
       split at hu'
       ·next hlt=>rw [if_pos hlt] at hx'; exact hx _ _ _ hx' hu'
       ·cases hu'
      ·simp [execOp,ho,hva,Instr.sliceAt,run_underlying hund,Instr.slice,hrun,Bi c5]
   ·cases e
  ·cases e
 ·next el hund =>
  split at e
  ·next hq h1 h2 =>
   split at e
   ·next c4 =>
    obtain ⟨c4,c5⟩:=c4
    injection e with e; subst e
    cases hv with
    | e0 =>
     rename_i A
     have c4':mx.map ve=none\/hi.map ve≠none:=by
      rcases c4 with h | h
      ·exact .inl ((HW hq im).1 h)
      ·refine .inr fun hn=>?_
       have:=(HW h2 ih).2 hn
       cases yh <;> simp at *
     have hrun:=fun w'=>GK (P:=P) (s:=true) (len:=0) (cap:=0) (FS hq im) (FS h2 ih) (FS h1 il) (Nat.le_refl _) (Nat.le_refl _) (Nat.le_refl _) c4' w'
     refine ⟨.slice A 0 0,.e0,fun w' _=>?_⟩
     obtain ⟨sz,hsz⟩:=Option.isSome_iff_exists.1 c5
     have hsz:=Bi hsz w'
     simp [execOp,ho,hva,Instr.sliceAt,run_underlying hund,Instr.slice,hrun,hsz]
   ·cases e
  ·cases e
 ·cases e
end
section
variable {P:Program}{w:World}{Z:Nat->Prop}{R:List RI}{h:Hp}{ρ:Operand->Option AV}{ve:Operand->Value}{o:Oper}{x:AV}
theorem KL (hρ:∀ o x,ρ o=some x->VR w Z R x (ve o)):∀ {l:List (Nat×Operand)}{xs:List (Nat×AV)},Hw ρ l=some xs->xs.map (·.1)=l.map (·.1)/\VRs w Z R (xs.map (·.2)) (l.map fun p=>ve p.2)
 | [],xs,e=>by injection e with e; subst e; exact ⟨rfl,.nil⟩
 | (i,a)::l,xs,e=>by
  unfold Hw at e
  split at e
  ·next y r h1 h2 =>
   injection e with e; subst e
   obtain ⟨h3,h4⟩:=KL hρ h2
   exact ⟨by simp [h3],.cons (hρ _ _ h1) h4⟩
  ·cases e
/-- What 'fill' does with one part. -/
theorem LO (place:Nat->Option (Nat×Nat)) (cs:List Value) (i:Nat) (v:Value) (rest:List (Nat×Value)){off size:Nat}(hp:place i=some (off,size)) (hs:v.cells.size=size) (hle:off + size<=cs.length) :
  Instr.fill place cs.toArray ((i,v)::rest)=Instr.fill place (cs.take off++v.cells.toList++cs.drop (off + size)).toArray rest:=by
 simp only [Instr.fill,hp]
 rw [if_neg (by simp [hs]; omega)]
 congr 1
 have key:∀ (vs:List Value) (j:Nat) (cs:List Value),off + j + vs.length<=cs.length ->
   ((vs.zipIdx j).foldl (fun cs (x:Value×Nat)=>cs.setIfInBounds (off + x.2) x.1) cs.toArray)=(cs.take (off + j)++vs++cs.drop (off + j + vs.length)).toArray:=by
  intro vs
  induction vs with
  | nil=>intro j cs h; simp
  | cons v vs ih =>
   intro j cs h
   simp only [List.length_cons] at h
   rw [List.zipIdx_cons,List.foldl_cons]
   have e1:cs.toArray.setIfInBounds (off + j) v=(cs.set (off + j) v).toArray:=by simp
   rw [e1,ih (j + 1) (cs.set (off + j) v) (by simp; omega)]
   congr 1
   apply List.ext_getElem?
   intro q
   by_cases h1:q < off + j
   ·rw [List.append_assoc,List.getElem?_append_left (by simp; omega),List.append_assoc,List.getElem?_append_left (by simp; omega),List.getElem?_take_of_lt (by omega),List.getElem?_take_of_lt (by omega),List.getElem?_set_ne (by omega)]
   ·by_cases h2:q=off + j
    ·subst h2
     rw [List.append_assoc,List.getElem?_append_left (by simp; omega),List.append_assoc,List.getElem?_append_right (by simp; omega),List.getElem?_take_of_lt (by omega),List.getElem?_set_self (by omega)]
     have hm:off + j - (cs.take (off + j)).length=0:=by simp; omega
     rw [hm]; rfl
    ·by_cases h3:q < off + j + 1 + vs.length
     ·rw [List.append_assoc,List.getElem?_append_right (by simp; omega),List.getElem?_append_left (by simp; omega),List.append_assoc,List.getElem?_append_right (by simp; omega),List.getElem?_append_left (by simp; omega)]
      simp only [List.length_take,List.length_set]
      rw [show q - min (off + j) cs.length=(q - min (off + (j + 1)) cs.length) + 1 by omega,List.getElem?_cons_succ]
     ·rw [List.getElem?_append_right (by simp; omega),List.getElem?_append_right (by simp; omega)]
      simp only [List.length_append,List.length_take,List.length_set,List.length_cons,List.getElem?_drop]
      rw [List.getElem?_set_ne (by omega)]
      congr 1
      omega
 have h2:=key v.cells.toList 0 cs (by simp [hs]; omega)
 simp only [Nat.add_zero] at h2
 have e3:v.cells.toList.length=size:=by simpa using hs
 rw [e3] at h2
 have e4:(v.cells.zipIdx.foldl (fun cs (x:Value×Nat)=>match x with | (c,j)=>cs.setIfInBounds (off + j) c) cs.toArray)=(v.cells.toList.zipIdx.foldl (fun cs (x:Value×Nat)=>cs.setIfInBounds (off + x.2) x.1) cs.toArray):=by
  rw [<-Array.foldl_toList]
  simp
 rw [e4,h2]
theorem VRs.splice {xs:List AV}{us:List Value}{y:AV}{u:Value}(hs:VRs w Z R xs us) (hy:VR w Z R y u) (off:Nat):VRs w Z R (xs.take off++y.cel++xs.drop (off + y.cel.length)) (us.take off++u.cells.toList++us.drop (off + y.cel.length)) :=
 ((hs.take off).append hy.cells.2).append (hs.drop _)
theorem Q4 (y:AV):y.cel.length=y.nc:=by cases y <;> rfl
theorem MN {us vs:List Value}{a b:Nat}(h1:us.all Value.oneCell'=true) (h2:∀ q ∈ vs,q.oneCell'=true):(us.take a++vs++us.drop b).all Value.oneCell'=true:=by
 rw [List.all_eq_true] at *
 intro q hq
 simp only [List.mem_append] at hq
 rcases hq with (hq | hq) | hq
 ·exact h1 q (List.mem_of_mem_take hq)
 ·exact h2 q hq
 ·exact h1 q (List.mem_of_mem_drop hq)
theorem LN {fs:Array Field}{pl:Array (Nat×Nat)}(hpl:∀ (i:Nat) (f:Field) (m:Nat),fs[i]? = some f->Bq P f.type=some m->pl[i]? = some (f.offset,m)):∀ {ps:List (Nat×AV)}{vs:List Value}{cs cs':List AV}{us:List Value},
  VRs w Z R (ps.map (·.2)) vs->VRs w Z R cs us->us.all Value.oneCell'=true->SM P fs cs ps=some cs' ->
  ∃ us',Instr.fill (pl[·]?) us.toArray ((ps.map (·.1)).zip vs)=some us'.toArray/\VRs w Z R cs' us'/\us'.all Value.oneCell'=true
 | [],vs,cs,cs',us,hv,hc,h1,e=>by
  injection e with e; subst e
  exact ⟨us,by simp [Instr.fill],hc,h1⟩
 | (i,y)::ps,vs,cs,cs',us,hv,hc,h1,e=>by
  obtain ⟨v,vs',rfl,hy,hn⟩:=VRs.head (by simpa using hv)
  unfold SM at e
  split at e
  ·next f hf =>
   split at e
   ·next hcond =>
    obtain ⟨k1,k2,k3⟩:=hcond
    have hsz:v.cells.size=y.cel.length:=by rw [hy.cells.1,Q4]
    have hcell:∀ q ∈ v.cells.toList,q.oneCell'=true:=fun q hq=>hy.cells_one k3 q (by simpa using hq)
    obtain ⟨us',g1,g2,g3⟩:=LN hpl hn (hc.splice hy f.offset) (MN h1 hcell) e
    refine ⟨us',?_,g2,g3⟩
    simp only [List.map_cons,List.zip_cons_cons]
    rw [LO (pl[·]?) us i v _ (hpl i f _ hf k1) hsz (by rw [hc.len]; omega)]
    exact g1
   ·cases e
  ·cases e
theorem LM {s:Nat}:∀ {ps:List (Nat×AV)}{vs:List Value}{cs cs':List AV}{us:List Value},
  VRs w Z R (ps.map (·.2)) vs->VRs w Z R cs us->us.all Value.oneCell'=true->SL s cs ps=some cs' ->
  ∃ us',Instr.fill (fun i=>some (i * s,s)) us.toArray ((ps.map (·.1)).zip vs)=some us'.toArray/\VRs w Z R cs' us'/\us'.all Value.oneCell'=true
 | [],vs,cs,cs',us,hv,hc,h1,e=>by
  injection e with e; subst e
  exact ⟨us,by simp [Instr.fill],hc,h1⟩
 | (i,y)::ps,vs,cs,cs',us,hv,hc,h1,e=>by
  obtain ⟨v,vs',rfl,hy,hn⟩:=VRs.head (by simpa using hv)
  unfold SL at e
  split at e
  ·next hcond =>
   obtain ⟨k1,k2,k3⟩:=hcond
   have hsz:v.cells.size=y.cel.length:=by rw [hy.cells.1,Q4]
   have hcell:∀ q ∈ v.cells.toList,q.oneCell'=true:=fun q hq=>hy.cells_one k3 q (by simpa using hq)
   obtain ⟨us',g1,g2,g3⟩:=LM hn (hc.splice hy (i * s)) (MN h1 hcell) e
   refine ⟨us',?_,g2,g3⟩
   simp only [List.map_cons,List.zip_cons_cons]
   rw [LO (fun i=>some (i * s,s)) us i v _ rfl (by rw [hsz,k1]) (by rw [hc.len]; omega),<-k1] at *
   rw [<-k1] at g1
   exact g1
  ·cases e
theorem N1 {α β:Type}(f:α->Sem β) (g:α->β) (w:World):∀ (l:List α),(∀ x ∈ l,(f x).run P w = .ok (g x) w)->(l.mapM f).run P w = .ok (l.map g) w
 | [],_=>by simp
 | x::l,h=>by
  rw [List.mapM_cons,Sem.run_bind,h x (by simp)]
  simp only [Result.andThen,Sem.run_bind]
  rw [N1 f g w l (fun y hy=>h y (by simp [hy]))]
  simp
theorem P6 {α β:Type}(f:α->Sem β) (g:α->β) (w:World) (l:Array α) (h:∀ x ∈ l,(f x).run P w = .ok (g x) w):(l.mapM f).run P w = .ok (l.map g) w:=by
 have e:l.mapM f=List.toArray <$> l.toList.mapM f:=by rw [Array.mapM_eq_mapM_toList]
 rw [e,map_eq_pure_bind,Sem.run_bind,N1 f g w l.toList (fun x hx=>h x (by simpa using hx))]
 simp
 apply Array.ext'
 simp
theorem P4 {fs:Array Field}(hs:Ov P fs=true):∃ pl:Array (Nat×Nat),(∀ w:World,(fs.mapM (fun f=>do pure (f.offset,<-sizeOf f.type)):Sem (Array (Nat×Nat))).run P w = .ok pl w)/\∀ (i:Nat) (f:Field) (m:Nat),fs[i]? = some f->Bq P f.type=some m->pl[i]? = some (f.offset,m):=by
 refine ⟨fs.map fun f=>(f.offset,(Bq P f.type).getD 0),fun w=>P6 _ _ w fs fun f hf=>?_,fun i f m hf hm=>by simp [hf,hm]⟩
 have h1:(P.info? f.type).isSome=true:=by
  unfold Ov at hs
  rw [Array.all_eq_true'] at hs
  exact hs f hf
 obtain ⟨i,hi⟩:=Option.isSome_iff_exists.1 h1
 have hm:Bq P f.type=some i.size:=by simp [Bq,hi]
 simp [Bi hm,hm]
theorem evBuild_sound (hρ:∀ o x,ρ o=some x->VR w Z R x (ve o)){t:TypeId}{ps:Array (Nat×Operand)}{xs:List (Nat×AV)}(ho:o.op = .build t ps) (hp:Hw ρ ps.toList=some xs) (e:OX P t xs=some x):Qt P w Z R x ve o:=by
 obtain ⟨h1,h2⟩:=KL hρ hp
 unfold OX at e
 split at e
 ·next z hz =>
  obtain ⟨u,hu,hnt,hrz,_⟩:=Gf (w:=w) (Z:=Z) (R:=R) hz
  have hpl:ps.map (fun x=>match x with | (i,x)=>(i,ve x))=((xs.map (·.1)).zip (ps.toList.map fun p=>ve p.2)).toArray:=by
   apply Array.ext'
   rw [Array.toList_map,h1]
   simp only [List.zip_map']
  cases hu with
  | ag hl ha hx =>
   rename_i us
   split at e
   ·next fs hund =>
    split at e
    ·next hok =>
     obtain ⟨cs',hcs,rfl⟩:=Option.map_eq_some_iff.1 e
     obtain ⟨pl,k1,k2⟩:=P4 hok
     obtain ⟨us',g1,g2,g3⟩:=LN k2 h2 ⟨hl,hx⟩ ha hcs
     refine ⟨.agg us'.toArray,.ag g2.len g3 g2.at_,fun w' _=>?_⟩
     simp only [execOp,ho,hpl,Instr.build,Sem.run_bind,hrz,Result.andThen,run_underlying hund,k1,Value.cells]
     rw [g1]
     rfl
    ·cases e
   ·next n el hund =>
    split at e
    ·next s hs =>
     obtain ⟨cs',hcs,rfl⟩:=Option.map_eq_some_iff.1 e
     obtain ⟨us',g1,g2,g3⟩:=LM h2 ⟨hl,hx⟩ ha hcs
     refine ⟨.agg us'.toArray,.ag g2.len g3 g2.at_,fun w' _=>?_⟩
     simp only [execOp,ho,hpl,Instr.build,Sem.run_bind,hrz,Result.andThen,run_underlying hund,Bi hs,Value.cells]
     rw [g1]
     rfl
    ·cases e
   ·cases e
 ·cases e
/-- Operations that only read. -/
theorem evOpQ_sound (hh:HR w Z R h) (hρ:∀ o x,ρ o=some x->VR w Z R x (ve o)) (e:DW P ρ h o.op=some x) (hc:∀ v,ve (.const v)=v:=by exact fun _=>rfl):Qt P w Z R x ve o:=by
 unfold DW at e
 split at e
 ·next a ho=>exact ⟨_,hρ _ _ e,fun w' _=>by simp [execOp,ho]⟩
 ·next a ho=>exact ⟨_,hρ _ _ e,fun w' _=>by simp [execOp,ho]⟩
 ·next c a b ho =>
  split at e
  ·next hc =>
   have hc:=(hρ _ _ hc).v_inv
   exact ⟨_,hρ _ _ e,fun w' _=>by simp [execOp,ho,hc,asBool]⟩
  ·next hc =>
   have hc:=(hρ _ _ hc).v_inv
   exact ⟨_,hρ _ _ e,fun w' _=>by simp [execOp,ho,hc,asBool]⟩
  ·cases e
 ·next t a ho =>
  split at e
  ·next p hp=>exact evLoad_sound hh hρ hp ho e
  ·cases e
 ·next a ho =>
  split at e
  ·next b i off ha =>
   injection e with e; subst e
   have hv:=hρ _ _ ha
   refine ⟨_,hv,fun w' _=>?_⟩
   generalize hva:ve a=va at hv
   cases hv
   simp [execOp,ho,hva]
  ·next y off ha =>
   injection e with e; subst e
   have hv:=hρ _ _ ha
   refine ⟨_,hv,fun w' _=>?_⟩
   generalize hva:ve a=va at hv
   cases hv
   simp [execOp,ho,hva]
  ·next f p q ha =>
   injection e with e; subst e
   have hv:=hρ _ _ ha
   refine ⟨_,hv,fun w' _=>?_⟩
   generalize hva:ve a=va at hv
   cases hv
   simp [execOp,ho,hva]
  ·cases e
 ·next op t a b t' ho =>
  split at e
  ·next y z hy hz =>
   split at e
   ·next v hv=>injection e with e; subst e; exact evBin_sound hρ hy hz ho hv
   ·split at e
    ·next v hv=>injection e with e; subst e; exact evEq_sound hρ hy hz ho hv
    ·split at e
     ·next hn=>exact evNil_sound hρ hc hy hn ho e
     ·exact Nm hρ hy hz ho e
  ·cases e
 ·next op t a ho =>
  split at e
  ·next y hy=>exact evUn_sound hρ hy ho e
  ·cases e
 ·next s d a ho =>
  split at e
  ·next y hy=>exact evConv_sound hρ hy ho e
  ·cases e
 ·next f p q ho =>
  split at e
  ·next ps qs hp hq =>
   injection e with e; subst e
   have h1:=opds_vr hρ hp
   have h2:=opds_vr hρ hq
   refine ⟨.func (.func f) (p.toList.map ve).toArray (q.toList.map ve).toArray,.fn h1.len h2.len h1.at_ h2.at_,fun w' _=>?_⟩
   have e1:p.map ve=(p.toList.map ve).toArray:=by apply Array.ext'; simp
   have e2:q.map ve=(q.toList.map ve).toArray:=by apply Array.ext'; simp
   simp only [execOp,ho,e1,e2,Instr.makeFunc]
   rfl
  ·cases e
 ·next t a lo hi mx ho =>
  split at e
  ·next y yl yh ym h1 h2 h3 h4=>exact evSlice_sound hρ hh h1 h2 h3 h4 ho e
  ·cases e
 ·next t a f ho =>
  split at e
  ·next y hy=>exact evFieldAddr_sound hρ hy ho e
  ·cases e
 ·next t a f ho =>
  split at e
  ·next y hy=>exact evField_sound hρ hy ho e
  ·cases e
 ·next t a b ho =>
  split at e
  ·next y z hy hz=>exact evIndexAddr_sound hρ hh hy hz ho e
  ·cases e
 ·next t a b ho =>
  split at e
  ·next y z hy hz=>exact evIndex_sound hρ hy hz ho e
  ·cases e
 ·next a i ho =>
  split at e
  ·next vs hvs =>
   have hv:=hρ _ _ hvs
   generalize hva:ve a=va at hv
   cases hv with
   | tp hl hx =>
    obtain ⟨u,k1,k2⟩:=VRs.get ⟨hl,hx⟩ e
    exact ⟨u,k2,fun w' _=>by simp [execOp,ho,hva,Instr.extract,k1]⟩
  ·cases e
 ·next args tys ho =>
  split at e
  ·next y t ha ht=>exact evLen_sound hρ ho ha ht e
  ·cases e
 ·next args tys ho =>
  split at e
  ·next ys ha=>exact evMinMax_sound (g:=false) hρ ho ha e
  ·cases e
 ·next args tys ho =>
  split at e
  ·next ys ha=>exact evMinMax_sound (g:=true) hρ ho ha e
  ·cases e
 ·next t ps ho =>
  split at e
  ·next xs hxs=>exact evBuild_sound hρ ho hxs e
  ·cases e
 ·next args tys ho =>
  split at e
  ·next b lo n m ha =>
   injection e with e; subst e
   have hvs:=opds_vr hρ ha
   obtain ⟨u,us',hus,hv,hn⟩:=hvs.head
   have:us'=[]:=by have:=hn.len; simpa using this
   subst this
   have hrun:=fun w=>Fe (P:=P) (ve:=ve) ho hus w
   cases hv with
   | rf hr g0 g1 g2 g3 =>
    rename_i c r
    refine ⟨_,.pt hr,fun w' _=>?_⟩
    have h2:=Go.Lib.run_unsafeSliceData_row (P:=P) w' tys o.type ⟨r.c,lo * r.k,none⟩ n c (by omega)
    rw [hrun]
    simp only [builtin]
    rw [Sem.run_bind,h2]
    simp
  ·next ha =>
   injection e with e; subst e
   have hvs:=opds_vr hρ ha
   obtain ⟨u,us',hus,hv,hn⟩:=hvs.head
   have:us'=[]:=by have:=hn.len; simpa using this
   subst this
   have hv:=hv.v_inv
   subst hv
   have hrun:=fun w=>Fe (P:=P) (ve:=ve) ho hus w
   refine ⟨.pointer none,.v rfl,fun w' _=>?_⟩
   have h2:(Builtin.unsafeSliceData_ tys o.type #[Value.slice none 0 0]).run P w' = .ok (.pointer none) w':=rfl
   rw [hrun]
   simp only [builtin]
   rw [Sem.run_bind]
   show (((Builtin.unsafeSliceData_ tys o.type #[Value.slice none 0 0]).run P w').andThen _)=_
   rw [h2]
   simp
  ·cases e
 ·cases e
end
section
variable {P:Program}{w:World}{Z:Nat->Prop}{R:List RI}{h h':Hp}{ρ:Operand->Option AV}{ve:Operand->Value}{o:Oper}{x:AV}
/-- The operation hands back a value that x tells; the world goes on to one of which h' tells. -/
def Ld (P:Program) (w:World) (Z:Nat->Prop) (R:List RI) (h:Hp) (x:AV) (h':Hp) (ve:Operand->Value) (o:Oper):Prop :=
 ∃ u w' R',(execOp ve o).run P w = .ok (.value u) w'/\HR w' Z R' h'/\VR w' Z R' x u/\Step w Z R h w' Z R' h'
/-- And nothing that was there has turned. -/
def Nw (P:Program) (w:World) (Z:Nat->Prop) (R:List RI) (h:Hp) (x:AV) (h':Hp) (ve:Operand->Value) (o:Oper):Prop :=
 ∃ u w' R',(execOp ve o).run P w = .ok (.value u) w'/\HR w' Z R' h'/\VR w' Z R' x u/\Step w Z R h w' Z R' h'/\w.grownBy w' none
theorem Nw.ld (n:Nw P w Z R h x h' ve o):Ld P w Z R h x h' ve o:=let ⟨u,w',R',h1,h2,h3,h4,_⟩:=n; ⟨u,w',R',h1,h2,h3,h4⟩
theorem Qt.ld (hh:HR w Z R h) (q:Qt P w Z R x ve o):Ld P w Z R h x h ve o:=let ⟨u,h1,h2⟩:=q; ⟨u,w,R,h2 w (fun _=>Same.refl w),hh,h1,Step.refl _ _ _ _⟩
theorem FO (w:World) (ob:Obj):w.grownBy (w.alloc ob) none:=⟨rfl,rfl,rfl,by simp,fun _ hb _=>heap_alloc_old w ob hb⟩
/-- The cells of elements, one behind the other. -/
def BF (us:List Value):List Value:=(us.map fun u=>u.cells.toList).flatten
theorem FE {k:Nat}:∀ {us:List Value},(∀ u ∈ us,u.cells.size=k)->(BF us).length=us.length * k
 | [],_=>by simp [BF]
 | u::us,h=>by
  have:=FE (k:=k) (us:=us) (fun v hv=>h v (by simp [hv]))
  simp only [BF,List.map_cons,List.flatten_cons,List.length_append,List.length_cons] at *
  rw [this,Array.length_toList,h u (by simp),Nat.add_mul,Nat.one_mul,Nat.add_comm]
theorem GC {k:Nat}:∀ {us:List Value},(∀ u ∈ us,u.cells.size=k)->∀ (i:Nat) (u:Value),us[i]? = some u->∀ (j:Nat) (q:Value),u.cells[j]? = some q->(BF us)[i * k + j]? = some q
 | [],_,i,u,hu,_,_,_=>by simp at hu
 | v::us,h,i,u,hu,j,q,hq=>by
  have hv:v.cells.toList.length=k:=by rw [Array.length_toList]; exact h v (by simp)
  simp only [BF,List.map_cons,List.flatten_cons]
  cases i with
  | zero =>
   simp at hu
   subst hu
   have hj:j < v.cells.size:=(Array.getElem?_eq_some_iff.1 hq).1
   rw [Nat.zero_mul,Nat.zero_add,List.getElem?_append_left (by rw [Array.length_toList]; exact hj)]
   simpa using hq
  | succ i =>
   have:=GC (k:=k) (us:=us) (fun v hv=>h v (by simp [hv])) i u (by simpa using hu) j q hq
   rw [List.getElem?_append_right (by rw [hv,Nat.add_mul]; omega),hv]
   rw [show (i + 1) * k + j - k=i * k + j by rw [Nat.add_mul]; omega]
   exact this
theorem LP (us vs:List Value):BF (us++vs)=BF us++BF vs:=by simp [BF]
theorem LQ {k:Nat}:∀ {us:List Value},(∀ u ∈ us,u.cells.size=k)->∀ n,BF (us.take n)=(BF us).take (n * k)
 | [],_,n=>by simp [BF]
 | v::us,h,0=>by simp [BF]
 | v::us,h,n + 1=>by
  have hv:v.cells.toList.length=k:=by rw [Array.length_toList]; exact h v (by simp)
  have:=LQ (k:=k) (us:=us) (fun v hv=>h v (by simp [hv])) n
  simp only [BF,List.take_succ_cons,List.map_cons,List.flatten_cons] at *
  rw [this,List.take_append,hv,List.take_of_length_le (l:=v.cells.toList) (by rw [hv,Nat.add_mul]; omega)]
  congr 2
  rw [Nat.add_mul]; omega
theorem Np {k:Nat}:∀ {us:List Value},(∀ u ∈ us,u.cells.size=k)->∀ n,BF (us.drop n)=(BF us).drop (n * k)
 | [],_,n=>by simp [BF]
 | v::us,h,0=>by simp [BF]
 | v::us,h,n + 1=>by
  have hv:v.cells.toList.length=k:=by rw [Array.length_toList]; exact h v (by simp)
  have:=Np (k:=k) (us:=us) (fun v hv=>h v (by simp [hv])) n
  simp only [BF,List.drop_succ_cons,List.map_cons,List.flatten_cons] at *
  rw [this,List.drop_append,hv,List.drop_eq_nil_of_le (as:=v.cells.toList) (by rw [hv,Nat.add_mul]; omega),List.nil_append]
  congr 1
  rw [Nat.add_mul]; omega
theorem JF {t:TypeId}{y:AV}{u:Value}(hh:HR w Z R h) (hv:VR w Z R y u) (e:Kk h t y=some (x,h')) :
  ∃ w' R',(newVar t u).run P w = .ok ⟨w.heap.size,0,none⟩ w'/\HR w' Z R' h'/\VR w' Z R' x (.pointer (some ⟨w.heap.size,0,none⟩))/\Step w Z R h w' Z R' h'/\w.grownBy w' none:=by
 unfold Kk at e
 split at e
 ·next hnt =>
  injection e with e
  injection e with e1 e2
  subst e1 e2
  obtain ⟨hs,hc⟩:=hv.cells
  obtain ⟨h1,h2,h3⟩:=hh.new (cap:=1) (k:=y.nc) (t:=t) (es:=[y]) (us:=[u]) (arr:=u.cells) (FO w _) (Nat.le_refl _) (heap_alloc_new w _) (.cons hv .nil) (by rw [hs]; omega) (by simp) (by unfold maxLen; omega) (fun i q hq=>by
   cases i with
   | zero =>
    simp at hq; subst hq
    exact ⟨hs,hv.cells_one hnt,fun j q hq=>by simpa using hq⟩
   | succ i=>simp at hq)
  refine ⟨_,_,rfl,h1,?_,h2,FO w _⟩
  have:=VR.pt (w:=w.alloc (.cells u.cells t)) (Z:=Z) (b:=h.length) (i:=0) (off:=0) h3
  simpa using this
 ·cases e
theorem LL {k:Nat}:∀ {ps:List (Nat×AV)}{vs:List Value}{es es':List AV}{us:List Value},
  VRs w Z R (ps.map (·.2)) vs->VRs w Z R es us->(∀ u ∈ us,u.cells.size=k/\∀ q ∈ u.cells,q.oneCell'=true)->Ms es k ps=some es' ->
  ∃ us',Instr.fill (fun i=>some (i * k,k)) (BF us).toArray ((ps.map (·.1)).zip vs)=some (BF us').toArray/\VRs w Z R es' us'/\(∀ u ∈ us',u.cells.size=k/\∀ q ∈ u.cells,q.oneCell'=true)
 | [],vs,es,es',us,hv,hc,h1,e=>by
  injection e with e; subst e
  exact ⟨us,by simp [Instr.fill],hc,h1⟩
 | (i,y)::ps,vs,es,es',us,hv,hc,h1,e=>by
  obtain ⟨v,vs',rfl,hy,hn⟩:=VRs.head (by simpa using hv)
  unfold Ms at e
  split at e
  ·next hcond =>
   obtain ⟨k1,k2,k3⟩:=hcond
   have hsz:v.cells.size=k:=by rw [hy.cells.1,k2]
   obtain ⟨u',g1,g2,_⟩:=hy.cells.2.elm (List.all_eq_true.2 fun q hq=>hy.cells_one k3 q (by simpa using hq))
   have hul:i < us.length:=by rw [hc.len]; exact k1
   have h1':∀ u ∈ us.set i u',u.cells.size=k/\∀ q ∈ u.cells,q.oneCell'=true:=fun u hu=>by
    rcases List.mem_or_eq_of_mem_set hu with hu | rfl
    ·exact h1 u hu
    ·rw [g2]; exact ⟨by simpa using hsz,fun q hq=>hy.cells_one k3 q (by simpa using hq)⟩
   obtain ⟨us',q1,q2,q3⟩:=LL hn (hc.set i g1) h1' e
   refine ⟨us',?_,q2,q3⟩
   simp only [List.map_cons,List.zip_cons_cons]
   have hall:∀ u ∈ us,u.cells.size=k:=fun u hu=>(h1 u hu).1
   have hfl:=FE (k:=k) hall
   rw [LO (fun i=>some (i * k,k)) (BF us) i v _ rfl hsz (by rw [hfl]; have:=Nat.mul_le_mul_right k (show i + 1<=us.length by omega); rw [Nat.add_mul] at this; omega)]
   have e2:BF (us.set i u')=(BF us).take (i * k)++v.cells.toList++(BF us).drop (i * k + k):=by
    rw [List.set_eq_take_append_cons_drop,if_pos hul,LP,LQ hall]
    have:BF (u'::us.drop (i + 1))=u'.cells.toList++BF (us.drop (i + 1)):=by simp [BF]
    rw [this,Np hall,g2,List.append_assoc]
    congr 3
    rw [Nat.add_mul]; omega
   rw [<-e2]
   exact q1
  ·cases e
theorem evLit_sound (hρ:∀ o x,ρ o=some x->VR w Z R x (ve o)) (hh:HR w Z R h){t:TypeId}{n:Nat}{ps:Array (Nat×Operand)}{xs:List (Nat×AV)}(ho:o.op = .buildSlice t n ps) (hp:Hw ρ ps.toList=some xs) (e:Mr P h t n xs=some (x,h')):Nw P w Z R h x h' ve o:=by
 obtain ⟨p1,p2⟩:=KL hρ hp
 unfold Mr at e
 split at e
 ·next el hel =>
  have hund:P.underlying t=some (.slice el):=by
   unfold Fj at hel
   split at hel
   ·next h1=>injection hel with hel; subst hel; exact h1
   ·cases hel
  split at e
  ·next i z hi hz =>
   split at e
   ·next hc =>
    obtain ⟨c1,c2,c3,c4⟩:=hc
    split at e
    ·next es hes =>
     injection e with e
     injection e with e1 e2
     subst e1 e2
     obtain ⟨uz,hu,hnt,hrz,_⟩:=Gf (w:=w) (Z:=Z) (R:=R) hz
     obtain ⟨u',g1,g2,_⟩:=hu.cells.2.elm (List.all_eq_true.2 fun q hq=>hu.cells_one hnt q (by simpa using hq))
     have husz:uz.cells.size=i.size:=by rw [hu.cells.1,c3]
     obtain ⟨us',q1,q2,q3⟩:=LL p2 (VRs.replicate n g1) (fun u hu'=>by
      have:=List.eq_of_mem_replicate hu'
      subst this
      rw [g2]; exact ⟨by simpa using husz,fun q hq=>hu.cells_one hnt q (by simpa using hq)⟩) hes
     have hpl:ps.map (fun x=>match x with | (i,x)=>(i,ve x))=((xs.map (·.1)).zip (ps.toList.map fun p=>ve p.2)).toArray:=by
      apply Array.ext'
      rw [Array.toList_map,p1]
      simp only [List.zip_map']
     have hfl:(BF us').length=us'.length * i.size:=FE fun u hu=>(q3 u hu).1
     have hlen:us'.length=n:=by
      rw [q2.len]
      clear q1 q2 q3 hfl
      have:∀ {ps:List (Nat×AV)} {es es':List AV},Ms es i.size ps=some es'->es'.length=es.length:=by
       intro ps
       induction ps with
       | nil=>intro es es' e; injection e with e; rw [e]
       | cons p ps ih =>
        intro es es' e
        obtain ⟨j,y⟩:=p
        unfold Ms at e
        split at e
        ·rw [ih e]; simp
        ·cases e
      rw [this hes]; simp
     have hsi:Bq P el=some i.size:=by simp [Bq,hi]
     obtain ⟨r1,r2,r3⟩:=hh.new (w':=w.alloc (.cells (BF us').toArray el)) (c:=w.heap.size) (cap:=n) (k:=i.size) (t:=el) (FO w _) (Nat.le_refl _) (heap_alloc_new w _) q2 (by simp [hfl,hlen]) (by have:=q2.len; omega) (by have:n<=n * i.size:=Nat.le_mul_of_pos_right n c2; unfold maxLen; omega) (fun j u hu=>⟨(q3 u (List.mem_of_getElem? hu)).1,(q3 u (List.mem_of_getElem? hu)).2,fun k q hq=>by
      have:=GC (fun u hu=>(q3 u hu).1) j u hu k q hq
      simpa using this⟩)
     refine ⟨.slice (some ⟨w.heap.size,0,none⟩) n n,_,_,?_,r1,?_,r2,FO w _⟩
     ·have hcells:(Array.range (n * i.size)).map (fun j=>uz.cells[j % uz.cells.size]!)=(BF (List.replicate n u')).toArray:=by
       apply Array.ext'
       apply List.ext_getElem?
       intro j
       rw [Array.toList_map]
       have hl2:(BF (List.replicate n u')).length=n * i.size:=by
        rw [FE (k:=i.size) (fun u hu'=>by rw [List.eq_of_mem_replicate hu',g2]; simpa using husz)]; simp
       by_cases hj:j < n * i.size
       ·have hk:j / i.size < n:=Nat.div_lt_of_lt_mul (by rw [Nat.mul_comm]; exact hj)
        have hm:j % i.size < i.size:=Nat.mod_lt _ c2
        have:=GC (k:=i.size) (us:=List.replicate n u') (fun u hu'=>by rw [List.eq_of_mem_replicate hu',g2]; simpa using husz) (j / i.size) u' (by simp [hk]) (j % i.size) uz.cells[j % i.size]! (by
         rw [g2]
         have hlt:j % i.size < uz.cells.size:=by omega
         simp [hlt])
        rw [show j / i.size * i.size + j % i.size=j by rw [Nat.mul_comm]; exact Nat.div_add_mod j i.size] at this
        rw [this]
        simp [hj,husz]
       ·rw [List.getElem?_eq_none (by simp; omega),List.getElem?_eq_none (by simp [hl2]; omega)]
      have h24:¬ (n * i.size > 2 ^ 24):=by omega
      simp only [execOp,ho,hpl,Instr.buildSlice,Sem.run_bind,run_underlying hund,Result.andThen,Bi hsi]
      rw [if_neg h24]
      by_cases h0:n * i.size=0
      ·rw [if_pos h0]
       have hn0:n=0:=by
        rcases Nat.mul_eq_zero.1 h0 with h | h
        ·exact h
        ·omega
       subst hn0
       have e0:((Array.range (0 * i.size)).map fun j=>(#[]:Array Value)[j % (#[]:Array Value).size]!)=(BF (List.replicate 0 u')).toArray:=by
        apply Array.ext'
        simp [BF]
       simp only [Sem.run_bind,Sem.run_pure,Result.andThen]
       rw [e0,q1]
       simp [newRow]
      ·rw [if_neg h0]
       simp only [Sem.run_bind,hrz,Result.andThen,Sem.run_pure,hcells]
       rw [q1]
       simp [newRow]
     ·have:=VR.rf (w:=w.alloc (.cells (BF us').toArray el)) (Z:=Z) (b:=h.length) (lo:=0) (n:=n) (m:=n) (c:=n) r3 (Nat.le_refl _) (Nat.le_refl _) (by simp) (by have:n<=n * i.size:=Nat.le_mul_of_pos_right n c2; show n<=maxLen; unfold maxLen; omega)
      simpa using this
    ·cases e
   ·cases e
  ·cases e
 ·cases e
end
section
variable {P:Program}{w:World}{Z:Nat->Prop}{R:List RI}{h h':Hp}{ρ:Operand->Option AV}{ve:Operand->Value}{o:Oper}{x:AV}
theorem KT {t el:TypeId}(hel:Fj P t=some el):P.underlying t=some (.slice el):=by
 unfold Fj at hel
 split at hel
 ·next h1=>injection hel with hel; subst hel; exact h1
 ·cases hel
theorem evMake_sound (hρ:∀ o x,ρ o=some x->VR w Z R x (ve o)) (hh:HR w Z R h){t:TypeId}{p q:Operand}{y z:AV}(ho:o.op = .makeSlice t p q) (hp:ρ p=some y) (hq:ρ q=some z) (e:Jk P h t y z=some (x,h')):Nw P w Z R h x h' ve o:=by
 unfold Jk at e
 split at e
 ·next el n c hel hn hc =>
  have hund:=KT hel
  split at e
  ·next i z hi hz =>
   split at e
   ·next hcond =>
    obtain ⟨rfl,c2,c3,c4,c5,c6⟩:=hcond
    injection e with e
    injection e with e1 e2
    subst e1 e2
    obtain ⟨k1,hv1⟩:=Ir hn (hρ _ _ hp)
    obtain ⟨k2,hv2⟩:=Ir hc (hρ _ _ hq)
    obtain ⟨uz,hu,hnt,_,i',hi',hz'⟩:=Gf (w:=w) (Z:=Z) (R:=R) hz
    rw [hi] at hi'
    injection hi' with hi'
    subst hi'
    have husz:uz.cells.size=i.size:=by rw [hu.cells.1,c5]
    have hrun:=run_make (P:=P) w t el i uz hund hi hz' k1 k2 n n c2 (Int.le_refl _) (by omega) (by omega)
    have hget:∀ (a j:Nat) (q:Value),a < n.toNat->uz.cells[j]? = some q->(madeCells uz.cells (n.toNat * i.size))[a * i.size + j]? = some q:=by
     intro a j q ha hj
     have hjl:j < i.size:=by rw [<-husz]; exact (Array.getElem?_eq_some_iff.1 hj).1
     have hlt:a * i.size + j < n.toNat * i.size:=by
      have:=Nat.mul_le_mul_right i.size (show a + 1<=n.toNat by omega)
      rw [Nat.add_mul] at this; omega
     have hmod:(a * i.size + j) % i.size=j:=by rw [Nat.add_comm,Nat.mul_comm,Nat.add_mul_mod_self_left,Nat.mod_eq_of_lt hjl]
     simp [madeCells,hlt,husz,hmod]
     have h2:j < uz.cells.size:=by omega
     simp [h2] at hj ⊢
     exact hj
    obtain ⟨r1,r2,r3⟩:=hh.new (w':=w.alloc (.cells (madeCells uz.cells (n.toNat * i.size)) el)) (c:=w.heap.size) (cap:=n.toNat) (k:=i.size) (t:=el) (FO w _) (Nat.le_refl _) (heap_alloc_new w _) (VRs.replicate n.toNat hu) (size_madeCells _ _) (by simp) (by unfold maxLen; omega) (fun j u hu'=>by
     have hj:j < n.toNat:=by have:=(List.getElem?_eq_some_iff.1 hu').1; simpa using this
     have:=List.eq_of_mem_replicate (List.mem_of_getElem? hu')
     subst this
     exact ⟨husz,hu.cells_one c6,fun k q hq=>hget j k q hj hq⟩)
    refine ⟨_,_,_,by simp only [execOp,ho,hv1,hv2]; rw [Sem.run_bind,hrun]; rfl,r1,?_,r2,FO w _⟩
    have:=VR.rf (w:=w.alloc (.cells (madeCells uz.cells (n.toNat * i.size)) el)) (Z:=Z) (b:=h.length) (lo:=0) (n:=n.toNat) (m:=n.toNat) (c:=n.toNat) r3 (Nat.le_refl _) (Nat.le_refl _) (by simp) (by show n.toNat<=maxLen; unfold maxLen; omega)
    simpa using this
   ·cases e
  ·cases e
 ·cases e
theorem evOpN_sound (hρ:∀ o x,ρ o=some x->VR w Z R x (ve o)) (hh:HR w Z R h) (e:GB P ρ h o.op=some (x,h')):Nw P w Z R h x h' ve o:=by
 unfold GB at e
 split at e
 ·next t ho =>
  split at e
  ·next z hz =>
   obtain ⟨u,hu,_,hr,_⟩:=Gf (w:=w) (Z:=Z) (R:=R) hz
   obtain ⟨w',R',h1,h2,h3,h4,h5⟩:=JF (P:=P) hh hu e
   exact ⟨_,w',R',by simp [execOp,ho,Instr.alloc,hr,h1],h2,h3,h4,h5⟩
  ·cases e
 ·next t a ho =>
  split at e
  ·next y hy =>
   obtain ⟨w',R',h1,h2,h3,h4,h5⟩:=JF (P:=P) hh (hρ _ _ hy) e
   exact ⟨_,w',R',by simp [execOp,ho,Instr.box,h1],h2,h3,h4,h5⟩
  ·cases e
 ·next t n ps ho =>
  split at e
  ·next xs hxs=>exact evLit_sound hρ hh ho hxs e
  ·cases e
 ·next t a b ho =>
  split at e
  ·next y z hy hz=>exact evMake_sound hρ hh ho hy hz e
  ·cases e
 ·cases e
/-- Cells set one behind the other: the block, and the rest. -/
theorem Hn (b:Nat):∀ (vs:List Value) (o:Nat) (w:World) (arr:Array Value) (t:TypeId),w.heap[b]? = some (.cells arr t (0,0))->o + vs.length<=arr.size ->
  (w.setCells b o vs).heap[b]? = some (.cells (arr.toList.take o++vs++arr.toList.drop (o + vs.length)).toArray t (0,0))/\w.grownBy (w.setCells b o vs) (some b)/\(w.setCells b o vs).heap.size=w.heap.size
 | [],o,w,arr,t,hb,hl=>by
  refine ⟨?_,⟨rfl,rfl,rfl,Nat.le_refl _,fun _ _ _=>rfl⟩,rfl⟩
  simp only [World.setCells,List.append_nil,List.length_nil,Nat.add_zero,List.take_append_drop]
  exact hb
 | v::vs,o,w,arr,t,hb,hl=>by
  simp only [List.length_cons] at hl
  have h1:(w.setCell ⟨b,o,none⟩ v).heap[b]? = some (.cells (arr.setIfInBounds o v) t (0,0)):=by
   simp [World.setCell,Array.getElem?_modify,hb]
  obtain ⟨k1,k2,k3⟩:=Hn b vs (o + 1) (w.setCell ⟨b,o,none⟩ v) (arr.setIfInBounds o v) t h1 (by simp; omega)
  refine ⟨?_,?_,?_⟩
  ·rw [World.setCells,k1]
   congr 3
   rw [Array.toList_setIfInBounds]
   apply List.ext_getElem?
   intro q
   by_cases h1:q < o
   ·rw [List.append_assoc,List.getElem?_append_left (by simp; omega),List.append_assoc,List.getElem?_append_left (by simp; omega),List.getElem?_take_of_lt (by omega),List.getElem?_take_of_lt (by omega),List.getElem?_set_ne (by omega)]
   ·by_cases h2:q=o
    ·subst h2
     rw [List.append_assoc,List.getElem?_append_left (by simp; omega),List.append_assoc,List.getElem?_append_right (by simp; omega),List.getElem?_take_of_lt (by omega),List.getElem?_set_self (by rw [Array.length_toList]; omega)]
     have hm:q - (arr.toList.take q).length=0:=by simp; omega
     rw [hm]; rfl
    ·by_cases h3:q < o + 1 + vs.length
     ·rw [List.append_assoc,List.getElem?_append_right (by simp; omega),List.getElem?_append_left (by simp; omega),List.append_assoc,List.getElem?_append_right (by simp; omega),List.getElem?_append_left (by simp; omega)]
      simp only [List.length_take,List.length_set,Array.length_toList]
      rw [show q - min o arr.size=(q - min (o + 1) arr.size) + 1 by omega,List.getElem?_cons_succ]
     ·rw [List.getElem?_append_right (by simp; omega),List.getElem?_append_right (by simp; omega)]
      simp only [List.length_append,List.length_take,List.length_set,List.length_cons,List.getElem?_drop,Array.length_toList]
      rw [List.getElem?_set_ne (by omega)]
      congr 1
      omega
  ·refine ⟨k2.os,k2.tape,k2.output,by rw [World.setCells,k3]; simp [World.setCell],fun k hk hne=>?_⟩
   rw [World.setCells,k2.block k (by simpa [World.setCell] using hk) hne]
   exact Below.heap_setCell _ _ _ _ (fun e=>hne (by rw [e]))
  ·rw [World.setCells,k3]; simp [World.setCell]
theorem KP {α:Type}(l m:List α) (a:Nat) (h:a + m.length<=l.length):(l.take a++m++l.drop (a + m.length)).length=l.length:=by
 simp only [List.length_append,List.length_take,List.length_drop]; omega
/-- Cells of an own block turned, element by element. -/
theorem HR.write (hh:HR w Z R h){b lo:Nat}{B:Blk}{r:RI}{ys:List AV}{vs:List Value}(hB:h[b]? = some (some B)) (hf:B.fz=false) (hr:R[b]? = some r) (hle:lo + ys.length<=r.cap) (hlo:lo<=B.es.length) (hy:VRs w Z R ys vs) (h1:∀ u ∈ vs,u.cells.size=B.k/\∀ q ∈ u.cells,q.oneCell'=true) :
  let es:=B.es.take lo++ys++B.es.drop (lo + ys.length)
  let w':=w.setCells r.c (lo * B.k) (BF vs)
  HR w' Z R (h.set b (some { B with es:=es }))/\Step w Z R h w' Z R (h.set b (some { B with es:=es }))/\(∀ j,j < (BF vs).length->(w.cell? ⟨r.c,lo * B.k + j,none⟩).isSome=true)/\(∀ j,j < (BF vs).length->w.frozen? ⟨r.c,lo * B.k + j,none⟩=false)/\(∀ v ∈ BF vs,v.oneCell'=true):=by
 intro es w'
 obtain ⟨r',arr,us,g1,g2,g3,g4,g5,g6,g7,g8,g9,g10⟩:=hh.blk b B hB
 rw [hr] at g1
 injection g1 with g1
 subst g1
 have hall:∀ u ∈ us,u.cells.size=B.k:=fun u hu=>by
  obtain ⟨i,hi⟩:=List.mem_iff_getElem?.1 hu
  exact (g10 i u hi).1
 have hfl:=FE (k:=B.k) (us:=vs) fun u hu=>(h1 u hu).1
 have hvl:vs.length=ys.length:=hy.len
 have hsz:lo * B.k + (BF vs).length<=arr.size:=by
  rw [hfl,g4,hvl,<-Nat.add_mul]; exact Nat.mul_le_mul_right _ hle
 obtain ⟨k1,k2,k3⟩:=Hn r.c (BF vs) (lo * B.k) w arr B.t g3 hsz
 have hus':VRs w Z R es (us.take lo++vs++us.drop (lo + ys.length)):=((g9.take lo).append hy).append (g9.drop _)
 have hlen:es.length<=r.cap:=by simp [es]; omega
 have hput:=hh.put (w':=w') (es:=es) (us:=us.take lo++vs++us.drop (lo + ys.length)) hB hf hr k2 k1 (by rw [<-g4,List.size_toArray,KP arr.toList (BF vs) (lo * B.k) (by rw [Array.length_toList]; exact hsz),Array.length_toList]) hlen hus' (fun i u hu=>by
  have hA:∀ (i:Nat) (u:Value),us[i]? = some u->∀ (j:Nat) (q:Value),u.cells[j]? = some q->arr.toList[i * B.k + j]? = some q:=fun i u hu j q hq=>by simpa using (g10 i u hu).2.2 j q hq
  have hlow:lo * B.k<=arr.toList.length:=by rw [Array.length_toList]; omega
  rcases Nat.lt_or_ge i lo with hi | hi
  ·rw [List.append_assoc,List.getElem?_append_left (by simp [g9.len]; omega),List.getElem?_take_of_lt hi] at hu
   refine ⟨(g10 i u hu).1,(g10 i u hu).2.1,fun j q hq=>?_⟩
   have hj:j < B.k:=by rw [<-(g10 i u hu).1]; exact (Array.getElem?_eq_some_iff.1 hq).1
   have hlt:i * B.k + j < lo * B.k:=by have:=Nat.mul_le_mul_right B.k (show i + 1<=lo by omega); rw [Nat.add_mul] at this; omega
   rw [List.getElem?_toArray,List.append_assoc,List.getElem?_append_left (by simp; omega),List.getElem?_take_of_lt hlt]
   exact hA i u hu j q hq
  ·have hlenT:(us.take lo).length=lo:=by simp [g9.len]; omega
   rcases Nat.lt_or_ge i (lo + ys.length) with hi2 | hi2
   ·rw [List.append_assoc,List.getElem?_append_right (by omega),hlenT,List.getElem?_append_left (by omega)] at hu
    have hm:=List.mem_of_getElem? hu
    refine ⟨(h1 u hm).1,(h1 u hm).2,fun j q hq=>?_⟩
    have hj:j < B.k:=by rw [<-(h1 u hm).1]; exact (Array.getElem?_eq_some_iff.1 hq).1
    have hfg:=GC (k:=B.k) (us:=vs) (fun u hu=>(h1 u hu).1) (i - lo) u hu j q hq
    have hsub:i * B.k + j - lo * B.k=(i - lo) * B.k + j:=by
     rw [Nat.sub_mul]; have:=Nat.mul_le_mul_right B.k hi; omega
    have hge:lo * B.k<=i * B.k:=Nat.mul_le_mul_right B.k hi
    have hlt:(i - lo) * B.k + j < (BF vs).length:=(List.getElem?_eq_some_iff.1 hfg).1
    have hlt2:((arr.toList.take (lo * B.k))).length=lo * B.k:=by simp; rw [Array.length_toList] at hlow; omega
    rw [List.getElem?_toArray,List.append_assoc,List.getElem?_append_right (by omega),hlt2,hsub,List.getElem?_append_left hlt]
    exact hfg
   ·rw [List.getElem?_append_right (by simp [hvl,g9.len]; omega),List.getElem?_drop] at hu
    have hidx:lo + ys.length + (i - (us.take lo++vs).length)=i:=by simp [hvl,g9.len]; omega
    rw [hidx] at hu
    refine ⟨(g10 i u hu).1,(g10 i u hu).2.1,fun j q hq=>?_⟩
    have hge:(lo + ys.length) * B.k<=i * B.k:=Nat.mul_le_mul_right B.k hi2
    rw [Nat.add_mul] at hge
    have hlt2:(arr.toList.take (lo * B.k)++BF vs).length=lo * B.k + ys.length * B.k:=by
     rw [List.length_append,List.length_take,hfl,hvl]; rw [Array.length_toList] at *; omega
    rw [List.getElem?_toArray,List.getElem?_append_right (by omega),hlt2,List.getElem?_drop,hfl,hvl]
    rw [show lo * B.k + ys.length * B.k + (i * B.k + j - (lo * B.k + ys.length * B.k))=i * B.k + j by omega]
    exact hA i u hu j q hq)
 refine ⟨hput.1,hput.2,fun j hj=>?_,fun j hj=>by simp [World.frozen?,g3],fun v hv=>?_⟩
 ·have:lo * B.k + j < arr.size:=by omega
  simp [World.cell?,g3,this]
 ·obtain ⟨u,hu,hv'⟩:=List.mem_flatten.1 hv
  obtain ⟨u',hu',rfl⟩:=List.mem_map.1 hu
  exact (h1 u' hu').2 v (by simpa using hv')
end
section
variable {P:Program}{w:World}{Z:Nat->Prop}{R:List RI}{h h':Hp}{ρ:Operand->Option AV}{ve:Operand->Value}{o:Oper}{x:AV}
theorem Me {α:Type}(l m:List α) (a:Nat) (h:a + m.length<=l.length) (q:Nat):(l.take a++m++l.drop (a + m.length))[q]? = if q < a then l[q]? else if q < a + m.length then m[q - a]? else l[q]?:=by
 split
 ·next h1=>rw [List.append_assoc,List.getElem?_append_left (by simp; omega),List.getElem?_take_of_lt h1]
 ·next h1 =>
  have hl:(l.take a).length=a:=by simp; omega
  split
  ·next h2=>rw [List.append_assoc,List.getElem?_append_right (by omega),hl,List.getElem?_append_left (by omega)]
  ·next h2 =>
   rw [List.getElem?_append_right (by simp; omega),List.getElem?_drop]
   congr 1
   simp; omega
theorem Hm (hρ:∀ o x,ρ o=some x->VR w Z R x (ve o)) (hh:HR w Z R h){t:TypeId}{p q:Operand}{y z:AV}(ho:o.op = .store t p q) (hp:ρ p=some y) (hq:ρ q=some z) (e:Fv P h t y z=some h') :
  ∃ w',(execOp ve o).run P w = .ok .skip w'/\HR w' Z R h'/\Step w Z R h w' Z R h':=by
 have hv:=hρ _ _ hp
 have hz:=hρ _ _ hq
 unfold Fv at e
 split at e
 ·next b i off =>
  split at e
  ·next B hB =>
   split at e
   ·cases e
   ·next hf =>
    have hf:B.fz=false:=by simpa using hf
    split at e
    ·next el hel =>
     split at e
     ·next hc =>
      obtain ⟨c1,c2⟩:=hc
      obtain ⟨el',he',rfl⟩:=Option.map_eq_some_iff.1 e
      obtain ⟨r,arr,us,g1,g2,g3,g4,g5,g6,g7,g8,g9,g10⟩:=hh.blk b B hB
      generalize hva:ve p=va at hv
      generalize hvz:ve q=vz at hz
      cases hv with
      | pt hr =>
       rename_i r'
       rw [g1] at hr
       injection hr with hr
       subst hr
       obtain ⟨u,hu1,hu2⟩:=g9.get hel
       obtain ⟨q1,q2,q3⟩:=g10 _ _ hu1
       unfold Tb at he'
       split at he'
       ·next hle =>
        injection he' with he'
        subst he'
        have hzs:vz.cells.size=z.cel.length:=by rw [hz.cells.1,Q4]
        have hz1:=hz.cells_one c2
        have hspl:=hu2.cells.2.splice hz off
        have hls:u.cells.toList.length=el.cel.length:=hu2.cells.2.len
        obtain ⟨u',k1,k2,k3⟩:=hspl.elm (List.all_eq_true.2 fun q hq=>by
         simp only [List.mem_append] at hq
         rcases hq with (hq | hq) | hq
         ·exact q2 q (by have:=List.mem_of_mem_take hq; simpa using this)
         ·exact hz1 q (by simpa using hq)
         ·exact q2 q (by have:=List.mem_of_mem_drop hq; simpa using this))
        have hil:i < us.length:=(List.getElem?_eq_some_iff.1 hu1).1
        have hic:i < r.cap:=by have:=g9.len; omega
        have hkz:el.cel.length=B.k:=by rw [<-hls,Array.length_toList,q1]
        have hbnd:i * r.k + off + vz.cells.toList.length<=arr.size:=by
         rw [Array.length_toList,hzs,g2,g4]
         have:=Nat.mul_le_mul_right B.k (show i + 1<=r.cap by omega)
         rw [Nat.add_mul] at this
         omega
        obtain ⟨m1,m2,m3⟩:=Hn r.c vz.cells.toList (i * r.k + off) w arr B.t g3 hbnd
        have hbnd':i * r.k + off + vz.cells.toList.length<=arr.toList.length:=by rw [Array.length_toList (xs:=arr)]; exact hbnd
        have hsp:=Me arr.toList vz.cells.toList (i * r.k + off) hbnd'
        have hput:=hh.put (w':=w.setCells r.c (i * r.k + off) vz.cells.toList) (es:=B.es.set i (elm (el.cel.take off++z.cel++el.cel.drop (off + z.cel.length)))) (us:=us.set i u') hB hf g1 m2 m1 (by rw [<-g4,List.size_toArray,KP _ _ _ hbnd',Array.length_toList]) (by simpa using g5) (g9.set i k1) (fun j v hj=>by
         rw [List.getElem?_set] at hj
         have hzl:vz.cells.toList.length=z.cel.length:=by rw [Array.length_toList,hzs]
         split at hj
         ·next hij =>
          subst hij
          try rw [if_pos hil] at hj
          injection hj with hj
          subst hj
          have hsz:u'.cells.size=B.k:=by
           rw [k2,List.size_toArray,<-hzl,KP _ _ _ (by rw [hls]; omega),hls,hkz]
          refine ⟨hsz,fun q hq=>?_,fun a q hq=>?_⟩
          ·rw [k2] at hq
           simp only [List.mem_toArray,List.mem_append] at hq
           rcases hq with (hq | hq) | hq
           ·exact q2 q (by have:=List.mem_of_mem_take hq; simpa using this)
           ·exact hz1 q (by simpa using hq)
           ·exact q2 q (by have:=List.mem_of_mem_drop hq; simpa using this)
          ·have ha:a < B.k:=by rw [<-hsz]; exact (Array.getElem?_eq_some_iff.1 hq).1
           rw [k2,List.getElem?_toArray,<-hzl,Me _ _ _ (by rw [hls]; omega)] at hq
           rw [List.getElem?_toArray,<-g2,hsp]
           have hold:=fun q hq=>q3 a q hq
           rw [<-g2] at hold
           by_cases h1:a < off
           ·rw [if_pos h1] at hq
            rw [if_pos (by omega)]
            have:=hold q (by simpa using hq)
            simpa using this
           ·rw [if_neg h1] at hq
            rw [if_neg (by omega)]
            by_cases h2:a < off + vz.cells.toList.length
            ·rw [if_pos h2] at hq
             rw [if_pos (by omega),show i * r.k + a - (i * r.k + off)=a - off by omega]
             exact hq
            ·rw [if_neg h2] at hq
             rw [if_neg (by omega)]
             have:=hold q (by simpa using hq)
             simpa using this
         ·next hij =>
          refine ⟨(g10 j v hj).1,(g10 j v hj).2.1,fun a q hq=>?_⟩
          have ha:a < B.k:=by rw [<-(g10 j v hj).1]; exact (Array.getElem?_eq_some_iff.1 hq).1
          rw [List.getElem?_toArray,<-g2,hsp]
          have hold:=(g10 j v hj).2.2 a q hq
          rw [<-g2] at hold ha
          have hkz':el.cel.length=r.k:=by omega
          by_cases hlt:j < i
          ·have:=Nat.mul_le_mul_right r.k (show j + 1<=i by omega)
           rw [Nat.add_mul] at this
           rw [if_pos (by omega)]
           simpa using hold
          ·have:=Nat.mul_le_mul_right r.k (show i + 1<=j by omega)
           rw [Nat.add_mul] at this
           rw [if_neg (by omega),if_neg (by omega)]
           simpa using hold)
        refine ⟨_,?_,hput.1,hput.2⟩
        have hst:=run_storeCells_cells (P:=P) r.c (i * r.k + off) vz.cells.toList 0 w (fun j hj=>by
          have:i * r.k + off + j < arr.size:=by omega
          simp [World.cell?,g3,this]) (fun j hj=>by simp [World.frozen?,g3]) (fun v hv=>hz1 v (by simpa using hv))
        simp only [Nat.add_zero] at hst
        have hszt:=Bi c1 w
        have hzn:vz.cells.size=z.nc:=hz.cells.1
        simp only [execOp,ho,hva,hvz,Instr.storeAt,Instr.sureAddr]
        simp [storeVar,hszt,hzn,hst]
       ·cases he'
     ·cases e
    ·cases e
  ·cases e
 ·cases e
/-- What is appended or copied. -/
theorem Nl {k:Nat}{y:AV}{v:Value}{ys:List AV}{t2:TypeId}(hh:HR w Z R h) (hv:VR w Z R y v) (hs:Ig P t2 y=true) (e:IQ h k y=some ys) :
  ∃ us,VRs w Z R ys us/\(∀ u ∈ us,u.cells.size=k/\∀ q ∈ u.cells,q.oneCell'=true)/\Src P k t2 v ys.length (BF us) w/\∀ n,n<=ys.length->(Builtin.firstCells k n v).run P w = .ok (BF (us.take n)).toArray w:=by
 have pre:∀ (us:List Value) (a:Addr) (N c n:Nat),(∀ u ∈ us,u.cells.size=k)->n<=us.length->(∀ j q,(BF us)[j]? = some q->w.cell? (a.add j)=some q)->(Builtin.firstCells k n (.slice (some a) N c)).run P w = .ok (BF (us.take n)).toArray w:=fun us a N c n hu hn hcl=>by
  have h1:=run_loadCells_list (P:=P) w a (BF (us.take n)) (fun j q hq=>hcl j q (by
   rw [LQ hu] at hq
   have hlt:j < n * k:=by have:=(List.getElem?_eq_some_iff.1 hq).1; rw [List.length_take] at this; omega
   rwa [List.getElem?_take_of_lt hlt] at hq))
  rw [FE (k:=k) (fun u hu'=>hu u (List.mem_of_mem_take hu')),List.length_take,Nat.min_eq_left hn] at h1
  simpa [Builtin.firstCells] using h1
 have hkind:∀ {y':AV},Ig P t2 y'=true->(∀ bs,y'≠ .st bs)->∃ e',P.underlying t2=some (.slice e'):=fun {y'} hs hn=>by
  unfold Ig at hs
  split at hs
  ·exact absurd rfl (hn _)
  ·cases hs
  ·next e' h1 _=>exact ⟨_,h1⟩
  ·cases hs
 have len':∀ (A:Option Addr) (n c:Nat) (w':World),(Builtin.lenOf (.slice A n c)).run P w' = .ok n w':=fun _ _ _ _=>rfl
 have nilC:∀ (A:Option Addr) (c:Nat) (w':World),(Builtin.firstCells k 0 (.slice A 0 c)).run P w' = .ok #[] w':=fun A c w'=>by
  cases A with
  | none=>rfl
  | some a =>
   have:=run_loadCells_list (P:=P) w' a [] (by simp)
   simpa [Builtin.firstCells] using this
 unfold IQ at e
 split at e
 ·injection e with e; subst e
  cases hv with
  | e0 =>
   obtain ⟨e',hk⟩:=hkind hs (by simp)
   exact ⟨[],.nil,by simp,⟨.inl ⟨e',hk⟩,fun w'=>rfl,nilC _ _ w,nilC _ _ _,by simp [BF],by simp [BF]⟩,fun n hn=>by simp at hn; subst hn; exact nilC _ _ w⟩
 ·next k' xs =>
  split at e
  ·next hk' =>
   injection e with e; subst e
   obtain ⟨e',hk⟩:=hkind hs (by simp)
   cases hv with
   | sl hn hl hc hm ha hx =>
    rename_i c n A us
    subst hn
    rcases Nat.eq_zero_or_pos xs.length with h0 | h0
    ·have hx0:xs=[]:=List.eq_nil_of_length_eq_zero h0
     subst hx0
     exact ⟨[],.nil,by simp,⟨.inl ⟨e',hk⟩,fun w'=>rfl,nilC _ _ w,nilC _ _ _,by simp [BF],by simp [BF]⟩,fun n hn=>by simp at hn; subst hn; exact nilC _ _ w⟩
    ·have hkk:k'=k:=by
      simp at hk'
      rcases hk' with h | h
      ·subst h; simp at h0
      ·exact h
     subst hkk
     obtain ⟨a,rfl,hsp,hz,hcell⟩:=ha h0
     have hu:∀ u ∈ us,u.cells.size=k'/\∀ q ∈ u.cells,q.oneCell'=true:=fun u hu=>by
      obtain ⟨i,hi⟩:=List.mem_iff_getElem?.1 hu
      exact ⟨(hcell i u hi).1,(hcell i u hi).2.1⟩
     have hfl:=FE (k:=k') (us:=us) fun u hu'=>(hu u hu').1
     have hcl:∀ j q,(BF us)[j]? = some q->w.cell? (a.add j)=some q:=fun j q hq=>by
      have hk0:0 < k':=by
       rcases Nat.eq_zero_or_pos k' with h | h
       ·subst h
        have:(BF us).length=0:=by rw [hfl]; simp
        rw [List.getElem?_eq_none (by omega)] at hq; cases hq
       ·exact h
      have hjl:j < us.length * k':=by rw [<-hfl]; exact (List.getElem?_eq_some_iff.1 hq).1
      have hdl:j / k' < us.length:=Nat.div_lt_of_lt_mul (by rw [Nat.mul_comm]; exact hjl)
      have hd:=Nat.div_add_mod j k'
      rw [Nat.mul_comm] at hd
      have hui:=List.getElem?_eq_getElem hdl
      obtain ⟨m1,m2,m3⟩:=hcell _ _ hui
      have hml:j % k' < (us[j / k']).cells.size:=by rw [m1]; exact Nat.mod_lt _ hk0
      have hfg:=GC (fun u hu'=>(hu u hu').1) (j / k') _ hui (j % k') _ (Array.getElem?_eq_getElem hml)
      rw [hd,hq] at hfg
      injection hfg with hfg
      subst hfg
      have:=m3 _ _ (Array.getElem?_eq_getElem hml)
      rw [hd] at this
      obtain ⟨ab,ao,asp⟩:=a
      simp only at hsp
      subst hsp
      rw [Dn]
      exact this
     refine ⟨us,⟨hl,fun i x u hx' hu'=>(hx i x u hx' hu').up⟩,hu,Src.ofSlice w hk a xs.length c (BF us) (by rw [hfl,hl]) hcl (fun v hv=>?_),fun n hn=>pre us a _ _ n (fun u hu'=>(hu u hu').1) (by omega) hcl⟩
     ·obtain ⟨u,hu',hv'⟩:=List.mem_flatten.1 hv
      obtain ⟨u',hu'',rfl⟩:=List.mem_map.1 hu'
      exact (hu u' hu'').2 v (by simpa using hv')
  ·cases e
 ·next b lo n m =>
  split at e
  ·next B hB =>
   split at e
   ·next hc =>
    obtain ⟨rfl,hle⟩:=hc
    injection e with e; subst e
    obtain ⟨e',hk⟩:=hkind hs (by simp)
    obtain ⟨r,arr,us,g1,g2,g3,g4,g5,g6,g7,g8,g9,g10⟩:=hh.blk b B hB
    cases hv with
    | rf hr q0 q1 q2 q3 =>
     rename_i c r'
     rw [g1] at hr
     injection hr with hr
     subst hr
     have hvs:=(g9.drop lo).take n
     have hu:∀ u ∈ (us.drop lo).take n,u.cells.size=B.k/\∀ q ∈ u.cells,q.oneCell'=true:=fun u hu=>by
      obtain ⟨i,hi⟩:=List.mem_iff_getElem?.1 (List.mem_of_mem_drop (List.mem_of_mem_take hu))
      exact ⟨(g10 i u hi).1,(g10 i u hi).2.1⟩
     have hall:∀ u ∈ us,u.cells.size=B.k:=fun u hu=>by
      obtain ⟨i,hi⟩:=List.mem_iff_getElem?.1 hu
      exact (g10 i u hi).1
     have hfl:=FE (k:=B.k) (us:=(us.drop lo).take n) fun u hu'=>(hu u hu').1
     have hlen:((B.es.drop lo).take n).length=n:=by simp; omega
     have hcl:∀ j q,(BF ((us.drop lo).take n))[j]? = some q->w.cell? ((⟨r.c,lo * r.k,none⟩:Addr).add j)=some q:=fun j q hq=>by
      have hk0:0 < B.k:=by
       rcases Nat.eq_zero_or_pos B.k with h | h
       ·have:(BF ((us.drop lo).take n)).length=0:=by rw [hfl,h]; simp
        rw [List.getElem?_eq_none (by omega)] at hq; cases hq
       ·exact h
      have hvl:((us.drop lo).take n).length=n:=by rw [hvs.len,hlen]
      have hjl:j < n * B.k:=by rw [<-hvl,<-hfl]; exact (List.getElem?_eq_some_iff.1 hq).1
      have hdl:j / B.k < ((us.drop lo).take n).length:=by rw [hvl]; exact Nat.div_lt_of_lt_mul (by rw [Nat.mul_comm]; exact hjl)
      have hd:=Nat.div_add_mod j B.k
      rw [Nat.mul_comm] at hd
      have hui:=List.getElem?_eq_getElem hdl
      have hui':us[lo + j / B.k]? = some ((us.drop lo).take n)[j / B.k]:=by
       rw [List.getElem?_take_of_lt (by omega),List.getElem?_drop] at hui
       exact hui
      obtain ⟨m1,m2,m3⟩:=g10 _ _ hui'
      have hml:j % B.k < (((us.drop lo).take n)[j / B.k]).cells.size:=by rw [m1]; exact Nat.mod_lt _ hk0
      have hfg:=GC (fun u hu'=>(hu u hu').1) (j / B.k) _ hui (j % B.k) _ (Array.getElem?_eq_getElem hml)
      rw [hd,hq] at hfg
      injection hfg with hfg
      subst hfg
      have h3:=m3 _ _ (Array.getElem?_eq_getElem hml)
      rw [Nat.add_mul,Nat.add_assoc,hd] at h3
      rw [Dn,g2]
      simp [World.cell?,g3,h3]
     refine ⟨(us.drop lo).take n,hvs,hu,?_,fun j hj=>pre _ _ _ _ j (fun u hu'=>(hu u hu').1) (by rw [hvs.len]; omega) hcl⟩
     rw [hlen]
     refine Src.ofSlice w hk ⟨r.c,lo * r.k,none⟩ n c _ (by rw [hfl,hvs.len,hlen]) hcl (fun v hv=>?_)
     ·obtain ⟨u,hu',hv'⟩:=List.mem_flatten.1 hv
      obtain ⟨u',hu'',rfl⟩:=List.mem_map.1 hu'
      exact (hu u' hu'').2 v (by simpa using hv')
   ·cases e
  ·cases e
 ·next bs =>
  split at e
  ·next hk1 =>
   subst hk1
   injection e with e; subst e
   obtain ⟨s,rfl,h1,h2⟩:=hv.st_inv
   have hk:P.underlying t2=some .string:=by
    unfold Ig at hs
    split at hs
    ·next h1 _=>exact h1
    ·cases hs
    ·rename_i hne; exact (hne _ rfl).elim
    ·cases hs
   subst h1
   have hfl:BF (s.data.toList.map fun b=>Value.int .u8 b.toNat)=byteCells s:=by
    unfold byteCells BF
    induction s.data.toList with
    | nil=>rfl
    | cons b l ih=>simp only [List.map_cons,List.flatten_cons,ih]; rfl
   refine ⟨s.data.toList.map fun b=>Value.int .u8 b.toNat,⟨by simp,fun i y u hy hu=>?_⟩,fun u hu=>?_,?_,fun n hn=>?_⟩
   ·rw [List.getElem?_map] at hy hu
    cases hb:s.data.toList[i]? with
    | none=>rw [hb] at hy; cases hy
    | some b=>rw [hb] at hy hu; injection hy with hy; injection hu with hu; subst hy hu; exact .v rfl
   ·obtain ⟨b,_,rfl⟩:=List.mem_map.1 hu
    exact ⟨rfl,fun q hq=>by simp [Value.cells] at hq; subst hq; rfl⟩
   ·rw [hfl,List.length_map,II (s:=s) rfl |>.symm]
    exact Src.ofString w hk s
   ·have e1:BF ((s.data.toList.map fun b=>Value.int .u8 b.toNat).take n)=((s.data.toList.take n).map fun b=>Value.int .u8 b.toNat):=by
     rw [<-List.map_take]
     unfold BF
     induction s.data.toList.take n with
     | nil=>rfl
     | cons b l ih=>simp only [List.map_cons,List.flatten_cons,ih]; rfl
    rw [e1]
    show Result.ok _ _=_
    congr 1
    apply Array.ext'
    have e2:=JS s 0 n
    simp only [List.drop_zero] at e2
    rw [Array.toList_map,e2]
  ·cases e
 ·cases e
/-- Nothing is appended. -/
theorem Ge {t t2 el:TypeId}{A:Option Addr}{n c k:Nat}{v:Value}{i:TypeInfo}(ht:P.underlying t=some (.slice el)) (hi:P.info? el=some i) (hnc:n<=c) (hs:Src P i.size t2 v 0 [] w) :
  (Builtin.append_ #[t,t2] k #[.slice A n c,v]).run P w = .ok (.slice A n c) w:=by
 rcases hs.kind with ⟨e',hk⟩ | hk <;> cases A <;> simp [Builtin.append_,run_underlying ht,run_underlying hk,sizeOf,typeInfo,hi,hs.len,hnc,hs.cells,storeCells]
theorem evAppend_sound (hρ:∀ o x,ρ o=some x->VR w Z R x (ve o)) (hh:HR w Z R h){args:Array Operand}{tys:Array TypeId}{t t2:TypeId}{y z:AV}(ho:o.op = .call ⟨.builtin .append,args,tys⟩) (ha:Fl ρ args.toList=some [y,z]) (htys:tys.toList=[t,t2]) (e:DH P h t t2 y z=some (x,h')):Ld P w Z R h x h' ve o:=by
 have hvs:=opds_vr hρ ha
 obtain ⟨vy,us',hus,hvy,hn⟩:=hvs.head
 obtain ⟨vz,us'',rfl,hvz,hn'⟩:=hn.head
 have:us''=[]:=by have:=hn'.len; simpa using this
 subst this
 have ht':tys=#[t,t2]:=by apply Array.ext'; simpa using htys
 subst ht'
 have hrun:=fun w=>Fe (P:=P) (ve:=ve) ho hus w
 have fin:∀ {u:Value} {w':World} {R':List RI},(Builtin.append_ #[t,t2] o.type #[vy,vz]).run P w = .ok u w'->HR w' Z R' h'->VR w' Z R' x u->Step w Z R h w' Z R' h'->Ld P w Z R h x h' ve o:=fun {u w' R'} h1 h2 h3 h4=>⟨u,w',R',by rw [hrun]; simp only [builtin]; rw [Sem.run_bind,h1]; rfl,h2,h3,h4⟩
 unfold DH at e
 split at e
 ·cases e
 ·next hso =>
  have hso:Ig P t2 z=true:=by simpa using hso
  split at e
  ·cases e
  ·next el hel =>
   have hund:=KT hel
   split at e
   ·next i zz hi hzz =>
    split at e
    ·cases e
    ·next ys hys =>
     obtain ⟨us,hus1,hus2,hsrc,_⟩:=Nl hh hvz hso hys
     split at e
     ·next hemp =>
      have hy0:ys=[]:=by simpa using hemp
      subst hy0
      have hu0:us=[]:=by have:=hus1.len; simpa using this
      subst hu0
      have hsrc0:Src P i.size t2 vz 0 [] w:=by simpa [BF] using hsrc
      split at e
      ·injection e with e; injection e with e1 e2; subst e1 e2
       cases hvy with
       | e0=>exact fin (Ge hund hi (Nat.le_refl _) hsrc0) hh .e0 (Step.refl _ _ _ _)
      ·injection e with e; injection e with e1 e2; subst e1 e2
       have hvy0:=hvy
       cases hvy with
       | sl hn hl hc hm ha hx=>exact fin (Ge hund hi hc hsrc0) hh hvy0 (Step.refl _ _ _ _)
      ·injection e with e; injection e with e1 e2; subst e1 e2
       have hvy0:=hvy
       cases hvy with
       | rf hr q0 q1 q2 q3=>exact fin (Ge hund hi (by omega) hsrc0) hh hvy0 (Step.refl _ _ _ _)
      ·cases e
     ·next hemp =>
      have hyl:0 < ys.length:=by
       cases ys with
       | nil=>simp at hemp
       | cons a l=>simp
      split at e
      ·next hc =>
       obtain ⟨c1,c2,c3⟩:=hc
       obtain ⟨uz,huz,hnt,_,i',hi',hz'⟩:=Gf (w:=w) (Z:=Z) (R:=R) hzz
       rw [hi] at hi'
       injection hi' with hi'
       subst hi'
       have husz:uz.cells.size=i.size:=by rw [huz.cells.1,c2]
       have hzc:∀ n,(Builtin.zeroCells uz.cells n).size=n * i.size:=fun n=>by simp [Builtin.zeroCells,husz]
       have hulen:us.length=ys.length:=hus1.len
       split at e
       · -- onto an empty slice without room
        split at e
        ·next hb =>
         injection e with e; injection e with e1 e2; subst e1 e2
         cases hvy with
         | e0 =>
          rename_i A
          have hfc:(Builtin.firstCells i.size 0 (.slice A 0 0)).run P w.drew = .ok ([]:List Value).toArray w.drew:=by
           cases A with
           | none=>rfl
           | some a =>
            have:=run_loadCells_list (P:=P) w.drew a [] (by simp)
            simpa [Builtin.firstCells] using this
          have hr:=run_append_grow_src (P:=P) w t t2 o.type el i uz hund hi hz' A 0 0 [] hfc vz ys.length (BF us) hsrc (by omega) (by omega) (growslice_fits (by omega) (by rw [Nat.zero_add]; exact hb.1))
          simp only [Nat.zero_add,List.nil_append] at hr
          have hge:=grownCap_ge w ys.length 0 el
          have hcm:grownCap w ys.length 0 el<=maxLen:=grownCap_le_maxLen w ys.length 0 el (by unfold maxLen; omega)
          have hfl:=FE (k:=i.size) (us:=us) fun u hu=>(hus2 u hu).1
          have hgd:w.grownBy (w.drew.alloc (.cells ((BF us).toArray++Builtin.zeroCells uz.cells (grownCap w ys.length 0 el - ys.length)) el)) none:=⟨rfl,rfl,rfl,by simp,fun k hk _=>heap_alloc_old w.drew _ hk⟩
          obtain ⟨r1,r2,r3⟩:=hh.new (c:=w.heap.size) (cap:=grownCap w ys.length 0 el) (k:=i.size) (t:=el) (es:=ys) (us:=us) (arr:=(BF us).toArray++Builtin.zeroCells uz.cells (grownCap w ys.length 0 el - ys.length)) hgd (Nat.le_refl _) (heap_alloc_new w.drew _) hus1 (by rw [Array.size_append,hzc,List.size_toArray,hfl,hulen,<-Nat.add_mul]; congr 1; omega) hge hcm (fun j u hu=>⟨(hus2 u (List.mem_of_getElem? hu)).1,(hus2 u (List.mem_of_getElem? hu)).2,fun a q hq=>by
           have:=GC (fun u hu=>(hus2 u hu).1) j u hu a q hq
           have hlt:j * i.size + a < (BF us).length:=(List.getElem?_eq_some_iff.1 this).1
           rw [Array.getElem?_append_left (by simpa using hlt),List.getElem?_toArray]
           exact this⟩)
          refine fin hr r1 ?_ r2
          have:=VR.rf (w:=w.drew.alloc (.cells ((BF us).toArray++Builtin.zeroCells uz.cells (grownCap w ys.length 0 el - ys.length)) el)) (Z:=Z) (b:=h.length) (lo:=0) (n:=ys.length) (m:=ys.length) (c:=grownCap w ys.length 0 el) r3 (Nat.le_refl _) hge (by simp) hcm
          simpa using this
        ·cases e
       ·next b lo n m =>
        split at e
        ·next B hB =>
         split at e
         ·cases e
         ·next hcB =>
          have hf:B.fz=false:=by
           cases hfz:B.fz with
           | false=>rfl
           | true=>exact absurd (.inl hfz) hcB
          have hk:B.k=i.size:=by
           rcases Nat.decEq B.k i.size with h | h
           ·exact absurd (.inr (.inl h)) hcB
           ·exact h
          have htt:B.t=el:=by
           rcases Nat.decEq B.t el with h | h
           ·exact absurd (.inr (.inr h)) hcB
           ·exact h
          obtain ⟨r,arr,ub,g1,g2,g3,g4,g5,g6,g7,g8,g9,g10⟩:=hh.blk b B hB
          have hown:own R h r.c:=⟨b,B,r,hB,hf,g1,rfl⟩
          cases hvy with
          | rf hr q0 q1 q2 q3 =>
           rename_i c r'
           rw [g1] at hr
           injection hr with hr
           subst hr
           have hsi:r.k=i.size:=by rw [g2,hk]
           split at e
           · -- in place, over known elements
            next hfit =>
            injection e with e; injection e with e1 e2; subst e1 e2
            obtain ⟨k1,k2,k3,k4,k5⟩:=hh.write (lo:=lo + n) (ys:=ys) (vs:=us) hB hf g1 (by omega) (by omega) hus1 (fun u hu=>by rw [hk]; exact hus2 u hu)
            have hidx:lo * r.k + n * i.size=(lo + n) * B.k:=by rw [hsi,hk,Nat.add_mul]
            have hrr:=run_append_room_src (P:=P) w t t2 o.type el i hund hi r.c (lo * r.k) n c vz ys.length (BF us) hsrc (by omega) (fun j hj=>by rw [hidx]; exact k3 j hj) (fun j hj=>by rw [hidx]; exact k4 j hj)
            rw [hidx] at hrr
            refine fin hrr k1 ?_ k2
            exact .rf g1 (by omega) q1 q2 q3
           ·split at e
            · -- behind the last element
             next hend =>
             obtain ⟨rfl,hne,hb1,hb2⟩:=hend
             injection e with e; injection e with e1 e2; subst e1 e2
             subst hne
             rcases Nat.lt_or_ge c (B.es.length + ys.length) with hgrow | hroom
             · -- a new row
              have hall:∀ u ∈ ub,u.cells.size=i.size:=fun u hu=>by
               obtain ⟨j,hj⟩:=List.mem_iff_getElem?.1 hu
               rw [<-hk]; exact (g10 j u hj).1
              have hflb:=FE (k:=i.size) (us:=ub) hall
              have hubl:ub.length=B.es.length:=g9.len
              have hcellb:∀ (W:World),W.heap[r.c]? = some (.cells arr B.t (0,0))->(Builtin.firstCells i.size B.es.length (.slice (some ⟨r.c,0 * r.k,none⟩) B.es.length c)).run P W = .ok (BF ub).toArray W:=fun W hW=>by
               have:=run_loadCells_list (P:=P) W ⟨r.c,0 * r.k,none⟩ (BF ub) (fun j q hq=>by
                have hjl:j < ub.length * i.size:=by rw [<-hflb]; exact (List.getElem?_eq_some_iff.1 hq).1
                have hdl:j / i.size < ub.length:=Nat.div_lt_of_lt_mul (by rw [Nat.mul_comm]; exact hjl)
                have hd:=Nat.div_add_mod j i.size
                rw [Nat.mul_comm] at hd
                have hui:=List.getElem?_eq_getElem hdl
                obtain ⟨m1,m2,m3⟩:=g10 _ _ hui
                have hml:j % i.size < (ub[j / i.size]).cells.size:=by rw [m1,hk]; exact Nat.mod_lt _ c1
                have hfg:=GC hall (j / i.size) _ hui (j % i.size) _ (Array.getElem?_eq_getElem hml)
                rw [hd,hq] at hfg
                injection hfg with hfg
                subst hfg
                have h3:=m3 _ _ (Array.getElem?_eq_getElem hml)
                rw [hk,hd] at h3
                rw [Dn,Nat.zero_mul,Nat.zero_add]
                simp [World.cell?,hW,h3])
               rw [hflb,hubl] at this
               simpa [Builtin.firstCells] using this
              have hr:=run_append_grow_src (P:=P) w t t2 o.type el i uz hund hi hz' (some ⟨r.c,0 * r.k,none⟩) B.es.length c (BF ub) (hcellb w.drew g3) vz ys.length (BF us) hsrc hgrow (by omega) (growslice_fits hgrow hb1)
              have hge:=grownCap_ge w (B.es.length + ys.length) c el
              have hcm:grownCap w (B.es.length + ys.length) c el<=maxLen:=grownCap_le_maxLen w _ c el (by unfold maxLen; omega)
              generalize hG:grownCap w (B.es.length + ys.length) c el=G at *
              obtain ⟨kk1,kk2⟩:=hh.kill b
              have hall2:∀ u ∈ ub++us,u.cells.size=i.size:=fun u hu=>by
               rcases List.mem_append.1 hu with h | h
               ·exact hall u h
               ·exact (hus2 u h).1
              have hone2:∀ u ∈ ub++us,∀ q ∈ u.cells,q.oneCell'=true:=fun u hu=>by
               rcases List.mem_append.1 hu with h | h
               ·obtain ⟨j,hj⟩:=List.mem_iff_getElem?.1 h
                exact (g10 j u hj).2.1
               ·exact (hus2 u h).2
              have hfl2:=FE (k:=i.size) hall2
              rw [<-LP] at hr
              have hgd:w.grownBy (w.drew.alloc (.cells ((BF (ub++us)).toArray++Builtin.zeroCells uz.cells (G - (B.es.length + ys.length))) el)) none:=⟨rfl,rfl,rfl,by simp,fun k hk _=>heap_alloc_old w.drew _ hk⟩
              obtain ⟨r1,r2,r3⟩:=kk1.new (c:=w.heap.size) (cap:=G) (k:=i.size) (t:=el) (es:=B.es++ys) (us:=ub++us) (arr:=(BF (ub++us)).toArray++Builtin.zeroCells uz.cells (G - (B.es.length + ys.length))) hgd (Nat.le_refl _) (heap_alloc_new w.drew _) (g9.append hus1) (by rw [Array.size_append,hzc,List.size_toArray,hfl2,List.length_append,hulen,hubl,<-Nat.add_mul]; congr 1; omega) (by rw [List.length_append]; exact hge) hcm (fun j u hu=>⟨hall2 u (List.mem_of_getElem? hu),hone2 u (List.mem_of_getElem? hu),fun a q hq=>by
               have:=GC hall2 j u hu a q hq
               have hlt:j * i.size + a < (BF (ub++us)).length:=(List.getElem?_eq_some_iff.1 this).1
               rw [Array.getElem?_append_left (by simpa using hlt),List.getElem?_toArray]
               exact this⟩)
              rw [List.length_set] at r3
              refine fin hr r1 ?_ (kk2.trans r2)
              have:=VR.rf (w:=w.drew.alloc (.cells ((BF (ub++us)).toArray++Builtin.zeroCells uz.cells (G - (B.es.length + ys.length))) el)) (Z:=Z) (b:=h.length) (lo:=0) (n:=B.es.length + ys.length) (m:=B.es.length + ys.length) (c:=G) r3 (Nat.le_refl _) hge (by simp) hcm
              simpa using this
             · -- in place
              obtain ⟨k1,k2,k3,k4,k5⟩:=hh.write (lo:=B.es.length) (ys:=ys) (vs:=us) hB hf g1 (by omega) (Nat.le_refl _) hus1 (fun u hu=>by rw [hk]; exact hus2 u hu)
              have hidx:0 * r.k + B.es.length * i.size=B.es.length * B.k:=by rw [hk,Nat.zero_mul,Nat.zero_add]
              have hrr:=run_append_room_src (P:=P) w t t2 o.type el i hund hi r.c (0 * r.k) B.es.length c vz ys.length (BF us) hsrc hroom (fun j hj=>by rw [hidx]; exact k3 j hj) (fun j hj=>by rw [hidx]; exact k4 j hj)
              rw [hidx] at hrr
              have hes:B.es.take B.es.length++ys++B.es.drop (B.es.length + ys.length)=B.es++ys:=by
               rw [List.take_of_length_le (Nat.le_refl _),List.drop_eq_nil_of_le (by omega),List.append_nil]
              rw [hes] at k1 k2
              have hbl:b < h.length:=(List.getElem?_eq_some_iff.1 hB).1
              obtain ⟨s1,s2,s3⟩:=k1.rename (b:=b) (B:={ B with es:=B.es++ys }) (by rw [List.getElem?_set_self hbl]) g1
              rw [List.set_set] at s1 s2
              rw [List.length_set] at s3
              have hBe:({ B with es:=B.es++ys }:Blk)=⟨i.size,el,B.es++ys,false⟩:=by
               cases B; simp at hk htt hf; subst hk htt hf; rfl
              rw [hBe] at k2 s1 s2
              refine fin hrr s1 ?_ (k2.trans s2)
              have:=VR.rf (w:=w.setCells r.c (B.es.length * B.k) (BF us)) (Z:=Z) (b:=h.length) (lo:=0) (n:=B.es.length + ys.length) (m:=B.es.length + ys.length) (c:=c) s3 (Nat.le_refl _) hroom q2 q3
              exact this
            ·cases e
        ·cases e
       ·cases e
      ·cases e
   ·cases e
theorem evCopy_sound (hρ:∀ o x,ρ o=some x->VR w Z R x (ve o)) (hh:HR w Z R h){args:Array Operand}{tys:Array TypeId}{t t2:TypeId}{y z:AV}(ho:o.op = .call ⟨.builtin .copy,args,tys⟩) (ha:Fl ρ args.toList=some [y,z]) (htys:tys.toList=[t,t2]) (hso:Ig P t2 z=true) (e:Qa P h t y z=some (x,h')):Ld P w Z R h x h' ve o:=by
 have hvs:=opds_vr hρ ha
 obtain ⟨vy,us',hus,hvy,hn⟩:=hvs.head
 obtain ⟨vz,us'',rfl,hvz,hn'⟩:=hn.head
 have:us''=[]:=by have:=hn'.len; simpa using this
 subst this
 have ht':tys=#[t,t2]:=by apply Array.ext'; simpa using htys
 subst ht'
 have hrun:=fun w=>Fe (P:=P) (ve:=ve) ho hus w
 have fin:∀ {u:Value} {w':World} {R':List RI},(Builtin.copy_ #[t,t2] o.type #[vy,vz]).run P w = .ok u w'->HR w' Z R' h'->VR w' Z R' x u->Step w Z R h w' Z R' h'->Ld P w Z R h x h' ve o:=fun {u w' R'} h1 h2 h3 h4=>⟨u,w',R',by rw [hrun]; simp only [builtin]; rw [Sem.run_bind,h1]; rfl,h2,h3,h4⟩
 unfold Qa at e
 split at e
 ·cases e
 ·next el hel =>
  have hund:=KT hel
  split at e
  ·cases e
  ·next k hk =>
   split at e
   ·cases e
   ·next ys hys =>
    obtain ⟨us,hus1,hus2,hsrc,hfirst⟩:=Nl hh hvz hso hys
    have hulen:us.length=ys.length:=hus1.len
    split at e
    ·next b lo n m =>
     split at e
     ·next B hB =>
      split at e
      ·cases e
      ·next hcB =>
       have hf:B.fz=false:=by
        cases hfz:B.fz with
        | false=>rfl
        | true=>exact absurd (.inl hfz) hcB
       have hkB:B.k=k:=by
        rcases Nat.decEq B.k k with h | h
        ·exact absurd (.inr (.inl h)) hcB
        ·exact h
       have hle:lo + n<=B.es.length:=by
        rcases Nat.decLe (lo + n) B.es.length with h | h
        ·exact absurd (.inr (.inr h)) hcB
        ·exact h
       injection e with e; injection e with e1 e2; subst e1 e2
       obtain ⟨r,arr,ub,g1,g2,g3,g4,g5,g6,g7,g8,g9,g10⟩:=hh.blk b B hB
       cases hvy with
       | rf hr q0 q1 q2 q3 =>
        rename_i c r'
        rw [g1] at hr
        injection hr with hr
        subst hr
        have hlt:(ys.take (min ys.length n)).length=min ys.length n:=by rw [List.length_take]; omega
        obtain ⟨k1,k2,k3,k4,k5⟩:=hh.write (lo:=lo) (ys:=ys.take (min ys.length n)) (vs:=us.take (min ys.length n)) hB hf g1 (by omega) (by omega) (hus1.take _) (fun u hu=>by rw [hkB]; exact hus2 u (List.mem_of_mem_take hu))
        rw [hlt] at k1 k2
        have hst:=run_storeCells_cells (P:=P) r.c (lo * r.k) (BF (us.take (min ys.length n))) 0 w (fun j hj=>by rw [g2]; simpa using k3 j hj) (fun j hj=>by rw [g2]; simpa using k4 j hj) k5
        simp only [Nat.add_zero] at hst
        have hst':(storeCells ⟨r.c,lo * r.k,none⟩ (BF (us.take (min ys.length n)))).run P w = .ok () (w.setCells r.c (lo * B.k) (BF (us.take (min ys.length n)))):=by rw [hst,g2]
        refine fin (u:= .int .i64 (min ys.length n:Nat)) (w':=w.setCells r.c (lo * B.k) (BF (us.take (min ys.length n)))) ?_ k1 (.v rfl) k2
        have hmin:Nat.min ys.length n=min ys.length n:=rfl
        simp only [Builtin.copy_]
        simp [run_underlying hund,hsrc.len,Bi hk,hmin,hfirst _ (Nat.min_le_left ys.length n),hst',goInt]
     ·cases e
    ·injection e with e; injection e with e1 e2; subst e1 e2
     cases hvy with
     | e0 =>
      rename_i A
      refine fin (u:= .int .i64 0) (w':=w) ?_ hh (.v rfl) (Step.refl _ _ _ _)
      have hmin:Nat.min ys.length 0=0:=by simp
      have h0:=hfirst 0 (Nat.zero_le _)
      simp [BF] at h0
      cases A <;> simp [Builtin.copy_,run_underlying hund,hsrc.len,Bi hk,h0,goInt,storeCells]
    ·injection e with e; injection e with e1 e2; subst e1 e2
     cases hvy with
     | sl hn hl hc hm ha hx =>
      rename_i A us0
      simp at hn
      subst hn
      refine fin (u:= .int .i64 0) (w':=w) ?_ hh (.v rfl) (Step.refl _ _ _ _)
      have h0:=hfirst 0 (Nat.zero_le _)
      simp [BF] at h0
      cases A <;> simp [Builtin.copy_,run_underlying hund,hsrc.len,Bi hk,h0,goInt,storeCells]
    ·cases e
end
section
variable {P:Program}{w w':World}{Z:Nat->Prop}{R:List RI}{h h':Hp}{ρ:Operand->Option AV}{ve:Operand->Value}{o:Oper}{x:AV}
/-- Blocks turn that are neither owned nor frozen. -/
theorem HR.off (hh:HR w Z R h) (hs:w'.heap.size=w.heap.size) (hb:∀ c,(Z c\/own R h c)->w'.heap[c]? = w.heap[c]?):HR w' Z R h:=by
 refine ⟨hh.len,fun b B hB=>?_,hh.inj,fun c hc=>by rw [hs]; exact hh.zlt c hc⟩
 obtain ⟨r,arr,us,h1,h2,h3,h4,h5,h6,h7,h8,h9,h10⟩:=hh.blk b B hB
 have hc:w'.heap[r.c]? = w.heap[r.c]?:=by
  cases hf:B.fz with
  | true=>exact hb _ (.inl (h7 hf))
  | false=>exact hb _ (.inr ⟨b,B,r,hB,hf,h1,rfl⟩)
 exact ⟨r,arr,us,h1,h2,hc.trans h3,h4,h5,h6,h7,h8,h9.mono (fun c hz=>hb c (.inl hz)) (fun _ h=>h) (fun _ _ h=>h),h10⟩
theorem MP:∀ {xs:List AV}{us:List Value}{bs:List UInt8},MO xs=some bs->VRs w Z R xs us->us=bs.map fun b=>Value.int .u8 b.toNat
 | [],us,bs,e,hv=>by
  injection e with e; subst e
  have:us=[]:=by have:=hv.len; simpa using this
  subst this; rfl
 | y::xs,us,bs,e,hv=>by
  unfold MO at e
  split at e
  ·next heq=>cases heq
  ·next n r heq =>
   injection heq with h1 h2
   subst h1 h2
   split at e
   ·next hn =>
    obtain ⟨l,hl,rfl⟩:=Option.map_eq_some_iff.1 e
    obtain ⟨u,us',rfl,hu,hn'⟩:=hv.head
    rw [hu.v_inv,MP hl hn']
    have:((n.toNat.toUInt8).toNat:Int)=n:=by
     simp
     omega
    simp only [List.map_cons]
    rw [this]
   ·cases e
  ·cases e
theorem evUStr_sound (hρ:∀ o x,ρ o=some x->VR w Z R x (ve o)) (hh:HR w Z R h){args:Array Operand}{tys:Array TypeId}{t t2:TypeId}{y z:AV}(ho:o.op = .call ⟨.builtin .unsafeString,args,tys⟩) (ha:Fl ρ args.toList=some [y,z]) (htys:tys.toList=[t,t2]) (e:LK P h t y z=some (x,h')):Ld P w Z R h x h' ve o:=by
 have hvs:=opds_vr hρ ha
 obtain ⟨vy,us',hus,hvy,hn⟩:=hvs.head
 obtain ⟨vz,us'',rfl,hvz,hn'⟩:=hn.head
 have:us''=[]:=by have:=hn'.len; simpa using this
 subst this
 have ht':tys=#[t,t2]:=by apply Array.ext'; simpa using htys
 subst ht'
 have hrun:=Fe (P:=P) (ve:=ve) ho hus w
 unfold LK at e
 split at e
 ·next el b n hund =>
  split at e
  ·next B hB =>
   split at e
   ·next hc =>
    obtain ⟨c1,c2,c3,c4,c5,c6⟩:=hc
    split at e
    ·next bs hbs =>
     split at e
     ·next hok =>
      injection e with e; injection e with e1 e2; subst e1 e2
      obtain ⟨r,arr,us,g1,g2,g3,g4,g5,g6,g7,g8,g9,g10⟩:=hh.blk b B hB
      cases hvy with
      | pt hr =>
       rename_i r'
       rw [g1] at hr
       injection hr with hr
       subst hr
       have hz:=hvz.v_inv
       subst hz
       have hus:=MP hbs (g9.take n.toNat)
       have hbl:bs.length=n.toNat:=by
        have h1:=congrArg List.length hus
        rw [List.length_take,List.length_map,g9.len] at h1
        omega
       have hcells:∀ j (c:UInt8),bs[j]? = some c->w.cell? ((⟨r.c,0,none⟩:Addr).add j)=some (.int .u8 c.toNat):=fun j c hj=>by
        have h1:us[j]? = some (.int .u8 c.toNat):=by
         have h2:(us.take n.toNat)[j]? = some (.int .u8 c.toNat):=by rw [hus,List.getElem?_map,hj]; rfl
         have hjl:j < n.toNat:=by rw [<-hbl]; exact (List.getElem?_eq_some_iff.1 hj).1
         rwa [List.getElem?_take_of_lt hjl] at h2
        have h3:=(g10 j _ h1).2.2 0 _ (show (Value.int .u8 c.toNat).cells[0]? = some (.int .u8 c.toNat) from rfl)
        rw [c2,Nat.mul_one,Nat.add_zero] at h3
        rw [Dn,Nat.zero_add]
        simp [World.cell?,g3,h3]
       have hsh:w.shape? r.c=some (el,arr.size):=by simp [World.shape?,g3,c3]
       have hml:bs.length<=maxLen:=Nat.le_of_ble_eq_true hok
       have hr:=Go.Lib.run_unsafeString_row (P:=P) w t t2 o.type el hund c4 r.c arr.size hsh bs (by intro h; rw [h] at hbl; simp at hbl; omega) (by rw [hbl,g4,c2]; omega) (by unfold maxLen at hml; omega) hcells
       have hn:((bs.length:Nat):Int)=n:=by rw [hbl]; omega
       rw [hn] at hr
       have haddr:(⟨r.c,0 * r.k + 0,none⟩:Addr)=⟨r.c,0,none⟩:=by simp
       obtain ⟨k1,k2⟩:=hh.kill b
       have hsz:(w.freeze ⟨r.c,0,none⟩ bs.length).heap.size=w.heap.size:=by unfold World.freeze; split <;> simp
       have hoth:∀ c,c≠r.c->(w.freeze ⟨r.c,0,none⟩ bs.length).heap[c]? = w.heap[c]?:=fun c hc=>by
        unfold World.freeze
        split
        ·rfl
        ·simp [Array.getElem?_modify,Ne.symm hc]
       have hown:own R h r.c:=⟨b,B,r,hB,c1,g1,rfl⟩
       have hnown:¬ own R (h.set b none) r.c:=fun ⟨b',B',r',q1,q2,q3,q4⟩=>by
        rw [List.getElem?_set] at q1
        split at q1
        ·split at q1 <;> cases q1
        ·next hne=>exact hne (hh.inj b b' B B' r r' hB c1 q1 q2 g1 q3 q4.symm)
       have hoff:HR (w.freeze ⟨r.c,0,none⟩ bs.length) Z R (h.set b none):=k1.off hsz fun c hc=>hoth c fun ec=>by
        subst ec
        exact hc.elim (hh.notZ hown) hnown
       refine ⟨.string ⟨bs.toArray⟩,w.freeze ⟨r.c,0,none⟩ bs.length,R,?_,hoff,.st (by simp) hml,⟨?_,?_,?_,by rw [hsz]; exact Nat.le_refl _,fun c hc hno=>(hoth c fun ec=>hno (ec ▸ hown)),k2.own_,k2.z,k2.z',k2.r⟩⟩
       ·rw [hrun,haddr]
        simp only [builtin]
        rw [Sem.run_bind,hr]
        simp
       all_goals (unfold World.freeze; split <;> rfl)
     ·cases e
    ·cases e
   ·cases e
  ·cases e
 ·next el n hund =>
  split at e
  ·next h0 =>
   injection e with e; injection e with e1 e2; subst e1 e2 h0
   have hy:=hvy.v_inv
   have hz:=hvz.v_inv
   subst hy hz
   refine ⟨.string .empty,w,R,?_,hh,.st (bs:=[]) rfl (by simp),Step.refl _ _ _ _⟩
   have h2:(Builtin.unsafeString_ #[t,t2] o.type #[Value.pointer none,.int .i64 0]).run P w = .ok (.string .empty) w:=rfl
   rw [hrun]
   simp only [builtin]
   rw [Sem.run_bind]
   show (((Builtin.unsafeString_ #[t,t2] o.type #[Value.pointer none,.int .i64 0]).run P w).andThen _)=_
   rw [h2]
   simp
  ·cases e
 ·cases e
theorem Od {e:TypeId}{count:Nat}(hc:P.cellsOf e≠0) (hn:0 < count):liesAt P P.depth e count 0 e 1=true:=by
 have hd:P.depth=(2 * (P.types.size + Made.depth) + 1) + 1:=rfl
 rw [hd]
 simp only [liesAt,Bool.or_eq_true]
 left
 rw [hd]
 simp [rowAt,hc,sameLayout]
 omega
theorem evConvP_sound (hρ:∀ o x,ρ o=some x->VR w Z R x (ve o)) (hh:HR w Z R h){a b:TypeId}{p:Operand}{y:AV}(hp:ρ p=some y) (ho:o.op = .convert a b p) (e:Mq P h a b y=some x):Ld P w Z R h x h ve o:=by
 have hv:=hρ _ _ hp
 unfold Mq at e
 split at e
 ·next t c i off h1 h2 =>
  split at e
  ·next B hB =>
   split at e
   ·next hc =>
    obtain ⟨c1,c2,c3,c4⟩:=hc
    injection e with e; subst e
    obtain ⟨r,arr,us,g1,g2,g3,g4,g5,g6,g7,g8,g9,g10⟩:=hh.blk c B hB
    generalize hva:ve p=va at hv
    have hv':=hv
    cases hv with
    | pt hr =>
     rename_i r'
     rw [g1] at hr
     injection hr with hr
     subst hr
     obtain ⟨m,hm⟩:=Option.isSome_iff_exists.1 c3
     obtain ⟨j,hj,hjs⟩:=Option.map_eq_some_iff.1 hm
     have hne:j.size≠0:=fun h0=>c4 (by rw [hm,<-hjs,h0])
     have hlt:i * r.k + off < arr.size:=by
      rw [g2,g4]
      have:=Nat.mul_le_mul_right B.k (show i + 1<=r.cap by omega)
      rw [Nat.add_mul] at this
      omega
     have hr:=Go.Lib.run_to_unsafe (P:=P) w ⟨r.c,i * r.k + off,none⟩ h1 h2 hj hne (show w.shape? r.c=some (B.t,arr.size) by simp [World.shape?,g3]) hlt
     exact ⟨_,w,R,by simp only [execOp,ho,hva]; rw [Sem.run_bind,hr]; rfl,hh,hv',Step.refl _ _ _ _⟩
   ·cases e
  ·cases e
 ·next u c h1 h2 =>
  split at e
  ·next B hB =>
   split at e
   ·next hc =>
    obtain ⟨c1,c2,c3,c4,c5⟩:=hc
    injection e with e; subst e
    obtain ⟨r,arr,us,g1,g2,g3,g4,g5,g6,g7,g8,g9,g10⟩:=hh.blk c B hB
    generalize hva:ve p=va at hv
    have hv':=hv
    cases hv with
    | pt hr =>
     rename_i r'
     rw [g1] at hr
     injection hr with hr
     subst hr
     obtain ⟨j,hj⟩:=Option.isSome_iff_exists.1 c5
     have hlies:liesAt P P.depth u (arr.size / P.cellsOf u) (0 * r.k + 0) u 1=true:=by
      rw [Nat.zero_mul]
      refine Od (by omega) ?_
      rw [g4,c4,Nat.mul_div_cancel _ c2]
      omega
     have hr:=Go.Lib.run_from_unsafe (P:=P) w ⟨r.c,0 * r.k + 0,none⟩ h1 h2 hj (show w.shape? r.c=some (u,arr.size) by simp [World.shape?,g3,c3]) hlies
     exact ⟨_,w,R,by simp only [execOp,ho,hva]; rw [Sem.run_bind,hr]; rfl,hh,hv',Step.refl _ _ _ _⟩
   ·cases e
  ·cases e
 ·cases e
theorem evOpX_sound {I:FuncId->Bool}(hI:∀ f,I f=true->∀ v w,(callFunc f #[v]).run P w = .ok (.value v) w) (hρ:∀ o x,ρ o=some x->VR w Z R x (ve o)) (hh:HR w Z R h) (e:L7 P I ρ h o.op=some x):Ld P w Z R h x h ve o:=by
 unfold L7 at e
 split at e
 ·next a b p ho =>
  split at e
  ·next y hy=>exact evConvP_sound hρ hh hy ho e
  ·cases e
 ·next f args tys ho =>
  split at e
  ·next g y hf ha =>
   split at e
   ·next hg =>
    injection e with e; subst e
    have hvs:=opds_vr hρ ha
    obtain ⟨v,us',hus,hv,hn⟩:=hvs.head
    have:us'=[]:=by have:=hn.len; simpa using this
    subst this
    have hvf:=hρ _ _ hf
    generalize hva:ve f=va at hvf
    cases hvf with
    | fn hl hl' hx hy =>
     rename_i uf uc
     have e1:uf=[]:=by simpa using hl
     have e2:uc=[]:=by simpa using hl'
     subst e1 e2
     have e3:args.map ve=#[v]:=by apply Array.ext'; rw [Array.toList_map,hus]
     refine ⟨v,w,R,?_,hh,hv,Step.refl _ _ _ _⟩
     simp [execOp,ho,resolve,hva,e3,invoke,Deferred.ofValue,hI g hg]
   ·cases e
  ·cases e
 ·cases e
end
/-- What the interpreter is told of the program: its functions, its variables (those that nobody writes), calls that are told by a function of their own. -/
structure Env where
 P:Program
 fn:FuncId->Option Func
 G:Nat->Option AV
 X:FuncId->Option (List AV->Option AV)
 I:FuncId->Bool
inductive Ex where
 | normal
 | exit (id:Nat)
 | ret
structure St where
 fr:List (Option AV)
 hp:Hp
/-- A range over a function that is under way: its yield, the frame in which a round begins. -/
structure YC where
 b:Nat
 fr:List (Option AV)
 ps:List Tmp
 assign:Code
 body:Code
structure Cx where
 y:Option YC
 inR:Bool
def opA (E:Env) (fr:List (Option AV)):Operand->Option AV
 | .tmp t=>match fr[t]? with
  | some (some x)=>some x
  | _=>none
 | .const v=>Vz v
 | .global g=>E.G g
 | .func f=>some (.fn f [] [])
def I1 (fr:List (Option AV)) (d:Option Tmp) (x:AV):List (Option AV) :=
 match d with
 | some d=>fr.set d (some x)
 | none=>fr
/-- Is a guarded operation wanted? -/
def A5 (ops:Array Oper) (fr:List (Option AV)) (o:Oper):Option Bool :=
 match o.guard with
 | none=>some true
 | some (j,want)=>match ops[j]? with
  | some oj=>match oj.dst with
   | some d=>match fr[d]? with
    | some (some (.v (.bool b)))=>some (b==want)
    | some (some (.tp []))=>some false
    | _=>none
   | none=>none
  | none=>none
def D4 (P:Program) (fr:List (Option AV)) (h:Hp):List ResultVar->Option (List AV)
 | []=>some []
 | .tmp t::l=>match fr[t]?,D4 P fr h l with
  | some (some x),some r=>some (x::r)
  | _,_=>none
 | .cell a t::l=>match fr[a]?,D4 P fr h l with
  | some (some p),some r=>match FD P h t p with
   | some x=>some (x::r)
   | none=>none
  | _,_=>none
def Eh:List AV->AV
 | [x]=>x
 | l=> .tp l
/-- Values that hang on no own block. -/
def Gi:AV->Bool
 | .v _=>true
 | .st _=>true
 | .e0=>true
 | .sl _ _=>true
 | .pe _ _=>true
 | _=>false
/-- .. and closures that hold such values. -/
def J6:AV->Bool
 | .fn _ p q=>p.all Gi&&q.all Gi
 | x=>Gi x
def C5:AV->Bool
 | .ag cs=>cs.all J6
 | x=>J6 x
/-- Values that hang on no memory. -/
def LV:AV->Bool
 | .v _=>true
 | .st _=>true
 | .e0=>true
 | _=>false
def Cq:AV->Bool
 | .tp vs=>vs.all LV
 | x=>LV x
/-- An own block's value, seen as one that nobody writes (for the time of a call). -/
def Oy (h:Hp):AV->Option AV
 | .rf b lo n _=>match h[b]? with
  | some (some B)=>if lo + n<=B.es.length/\(B.es.all C5)=true then some (.sl B.k ((B.es.drop lo).take n)) else none
  | _=>none
 | x=>if J6 x then some x else none
def Oz (h:Hp):List AV->Option (List AV)
 | []=>some []
 | x::l=>match Oy h x,Oz h l with
  | some y,some r=>some (y::r)
  | _,_=>none
def P9 (h:Hp):AV->Option AV
 | .ag cs=>(Oz h cs).map .ag
 | x=>Oy h x
def Ku (h:Hp):List AV->Option (List AV)
 | []=>some []
 | x::l=>match P9 h x,Ku h l with
  | some y,some r=>some (y::r)
  | _,_=>none
def L0 (g:AV->Option AV):List AV->Option (List AV)
 | []=>some []
 | x::l=>match g x,L0 g l with
  | some y,some r=>some (y::r)
  | _,_=>none
/-- .. all the way down. -/
def Ej (h:Hp):Nat->AV->Option AV
 | 0,x=>if J6 x then some x else none
 | n + 1,x=>match x with
  | .rf b lo m _=>match h[b]? with
   | some (some B)=>if lo + m<=B.es.length then (L0 (Ej h n) ((B.es.drop lo).take m)).map (.sl B.k) else none
   | _=>none
  | .pt b i off=>match h[b]? with
   | some (some B)=>match B.es[i]? with
    | some y=>(Ej h n y).map (.pe · off)
    | none=>none
   | _=>none
  | .ag cs=>(L0 (Ej h n) cs).map .ag
  | .fn f p q=>match L0 (Ej h n) p,L0 (Ej h n) q with
   | some p,some q=>some (.fn f p q)
   | _,_=>none
  | x=>if J6 x then some x else none
def OC (h:Hp) (xs:List AV):Option (List AV):=match Ku h xs with
 | some ys=>some ys
 | none=>L0 (Ej h 12) xs
theorem OD {h:Hp}{xs ys:List AV}(e:Ku h xs=some ys):OC h xs=some ys:=by
 unfold OC
 rw [e]
/-- A call that is told by a function of its own: what it hands back is flat, or no own block of the caller is handed over. -/
def To (g:List AV->Option AV) (args:List AV) (h:Hp):Option (AV×Hp) :=
 match Ku h args with
 | some ys=>match g ys with
  | some r=>if Cq r then some (r,h) else none
  | none=>none
 | none=>none
def LE (g:List AV->Option AV) (args:List AV) (h:Hp):Option (AV×Hp) :=
 if args.all C5 then (g args).map (·,h) else To g args h
abbrev IH:=Cx->Code->St->Option (Ex×St)
/-- A function, entered. -/
def HU (E:Env) (ih:IH) (y:Option YC) (f:FuncId) (args:List AV) (h:Hp):Option (AV×Hp) :=
 match E.fn f with
 | none=>none
 | some fn=>match fn.body with
  | none=>none
  | some c =>
   if args.length<=fn.ntmps then
    match ih ⟨y,false⟩ c ⟨args.map some++List.replicate (fn.ntmps - args.length) (some (.tp [])),h⟩ with
    | some (.normal,s)=>(D4 E.P s.fr s.hp fn.results.toList).map fun r=>(Eh r,s.hp)
    | some (.ret,s)=>(D4 E.P s.fr s.hp fn.results.toList).map fun r=>(Eh r,s.hp)
    | _=>none
   else none
def KO:List (Option AV)->List Tmp->List AV->List (Option AV)
 | fr,p::ps,x::xs=>KO (fr.set p (some x)) ps xs
 | fr,_,_=>fr
def Pu (E:Env) (ih:IH) (cx:Cx) (fv:AV) (args:List AV) (h:Hp):Option (AV×Hp) :=
 match fv with
 | .fn f first caps=>match E.X f with
  | some g=>LE g (first++args++caps) h
  | none=>HU E ih none f (first++args++caps) h
 | .yl b=>match cx.y with
  | some y =>
   if y.b=b/\args.length=y.ps.length/\cx.inR=false then
    match ih ⟨none,true⟩ y.assign ⟨KO y.fr y.ps args,h⟩ with
    | some (.normal,s)=>match ih ⟨none,true⟩ y.body s with
     | some (.normal,s)=>some (.v (.bool true),s.hp)
     | _=>none
    | _=>none
   else none
  | none=>none
 | _=>none
/-- One operation. -/
def op1 (E : Env) (ih : IH) (cx : Cx) (o : Oper) (s : St) : Option St :=
  match DW E.P (opA E s.fr) s.hp o.op with
  | some x => some ⟨I1 s.fr o.dst x, s.hp⟩
  | none => match GB E.P (opA E s.fr) s.hp o.op with
    | some (x, h) => some ⟨I1 s.fr o.dst x, h⟩
    | none => match Jl E.P (opA E s.fr) s.hp o.op with
      | some (x, h) => some ⟨I1 s.fr o.dst x, h⟩
      | none => match L7 E.P E.I (opA E s.fr) s.hp o.op with
       | some x => some ⟨I1 s.fr o.dst x, s.hp⟩
       | none => match o.op with
        | .store t a v => match o.dst, opA E s.fr a, opA E s.fr v with
          | none, some p, some x => (Fv E.P s.hp t p x).map fun h => ⟨s.fr, h⟩
          | _, _, _ => none
        | .call ⟨.value f, args, _⟩ => match opA E s.fr f, Fl (opA E s.fr) args.toList with
          | some fv, some xs => (Pu E ih cx fv xs s.hp).map fun r => ⟨I1 s.fr o.dst r.1, r.2⟩
          | _, _ => none
        | _ => none
def Ek (E:Env) (ih:IH) (cx:Cx) (ops:Array Oper):List Oper->St->Option St
 | [],s=>some s
 | o::rest,s=>match A5 ops s.fr o with
  | none=>none
  | some false=>Ek E ih cx ops rest ⟨I1 s.fr o.dst (.tp []),s.hp⟩
  | some true=>match op1 E ih cx o s with
   | some s=>Ek E ih cx ops rest s
   | none=>none
/-- A call that can turn nothing that is there: on an empty heap of its own. What it hands back is flat, or one block of flat elements. -/
def Mm (E:Env) (ih:IH) (fv:AV) (args:List AV) (h:Hp):Option (AV×Hp) :=
 match fv with
 | .fn f first caps=>match OC h (first++args++caps) with
  | some xs=>match E.X f with
   | some g=>match g xs with
    | some r=>if Cq r then some (r,h) else none
    | none=>none
   | none=>match HU E ih none f xs [] with
    | some (r,h') =>
     if Cq r then some (r,h) else
     match r with
     | .rf b lo n m=>match h'[b]? with
      | some (some B)=>if B.fz=false/\(B.es.all LV)=true then some (.rf h.length lo n m,h++[some B]) else none
      | _=>none
     | _=>none
    | none=>none
  | none=>none
 | _=>none
def isW:Op->Bool
 | .store _ _ _=>true
 | .call ⟨.builtin .append,_,_⟩=>true
 | .call ⟨.builtin .copy,_,_⟩=>true
 | .call ⟨.builtin .unsafeString,_,_⟩=>true
 | _=>false
/-- Operations that only read, by their form. -/
def isQ:Op->Bool
 | .move _=>true
 | .assign _=>true
 | .pick _ _ _=>true
 | .load _ _=>true
 | .nilCheck _=>true
 | .binOp _ _ _ _ _=>true
 | .unOp _ _ _=>true
 | .convert _ _ _=>true
 | .makeFunc _ _ _=>true
 | .slice _ _ _ _ _=>true
 | .fieldAddr _ _ _=>true
 | .field _ _ _=>true
 | .indexAddr _ _ _=>true
 | .index _ _ _=>true
 | .extract _ _=>true
 | .build _ _=>true
 | .call ⟨.builtin .len,_,_⟩=>true
 | .call ⟨.builtin .min,_,_⟩=>true
 | .call ⟨.builtin .max,_,_⟩=>true
 | .call ⟨.builtin .unsafeSliceData,_,_⟩=>true
 | _=>false
def Dm:List Oper->Nat->Nat
 | [],n=>n
 | o::l,n=>if isW o.op then n else Dm l (n + 1)
/-- The first write of a region. -/
def C8 (ops:Array Oper):Nat:=Dm ops.toList 0
/-- May this be loaded from, before the region's own blocks are made? -/
def SY (n0:Nat) (ρ:Operand->Option AV):Op->Bool
 | .load _ p=>match ρ p with
  | some (.pt b _ _)=>Nat.blt b n0
  | some (.pe _ _)=>true
  | _=>false
 | _=>true
/-- A region that draws its order: reads, new blocks and pure calls; from the first write on, whatever stands behind all that. -/
def opsD (E:Env) (ih:IH) (cx:Cx) (ops:Array Oper) (n0:Nat):List Oper->St->Option St
 | [],s=>some s
 | o::rest,s =>
  if isW o.op then Ek E ih ⟨none,cx.inR⟩ ops (o::rest) s else
  match A5 ops s.fr o with
  | none=>none
  | some false=>opsD E ih cx ops n0 rest ⟨I1 s.fr o.dst (.tp []),s.hp⟩
  | some true=>match DW E.P (opA E s.fr) s.hp o.op with
   | some x=>if SY n0 (opA E s.fr) o.op then opsD E ih cx ops n0 rest ⟨I1 s.fr o.dst x,s.hp⟩ else none
   | none=>match GB E.P (opA E s.fr) s.hp o.op with
    | some (x,h)=>opsD E ih cx ops n0 rest ⟨I1 s.fr o.dst x,h⟩
    | none=>match o.op with
     | .call ⟨.value f,args,_⟩=>match opA E s.fr f,Fl (opA E s.fr) args.toList with
      | some fv,some xs=>match Mm E ih fv xs s.hp with
       | some r=>opsD E ih cx ops n0 rest ⟨I1 s.fr o.dst r.1,r.2⟩
       | none=>none
      | _,_=>none
     | _=>none
def Qb (E:Env) (ih:IH) (cx:Cx) (c:Code) (s:St):Option (Ex×St) :=
 match c with
 | .skip=>some (.normal,s)
 | .region _ ops draw=>(if draw then opsD E ih cx ops s.hp.length ops.toList s else Ek E ih cx ops ops.toList s).map fun s=>(.normal,s)
 | .seq a b=>match ih cx a s with
  | some (.normal,s)=>ih cx b s
  | r=>r
 | .cond c a b=>match opA E s.fr c with
  | some (.v (.bool true))=>ih cx a s
  | some (.v (.bool false))=>ih cx b s
  | _=>none
 | .block id c=>match ih cx c s with
  | some (.exit id',s)=>if id'=id then some (.normal,s) else some (.exit id',s)
  | r=>r
 | .loop c=>match ih cx c s with
  | some (.normal,s)=>ih cx (.loop c) s
  | r=>r
 | .exit id=>some (.exit id,s)
 | .ret=>some (.ret,s)
 | .rangeFunc f ps assign body =>
  if cx.inR then none else
  match opA E s.fr f with
  | some (.fn g first caps)=>match HU E ih (some ⟨s.hp.length,s.fr,ps.toList,assign,body⟩) g (first++[.yl s.hp.length]++caps) (s.hp++[none]) with
   | some (_,h)=>some (.normal,⟨s.fr,h⟩)
   | none=>none
  | _=>none
 | _=>none
def evC (E:Env):Nat->IH
 | 0=>fun _ _ _=>none
 | n + 1=>Qb E (evC E n)
/-- A call, from outside. -/
def PI (E:Env) (n:Nat) (f:FuncId) (args:List AV) (h:Hp):Option (AV×Hp):=HU E (evC E n) none f args h
structure Rep (α:Type) where
 R:World->(Nat->Prop)->Value->α->Prop
 kept:∀ {w w':World} {S:Nat->Prop} {v:Value} {x:α},R w S v x->(∀ b,S b->b < w.heap.size->w'.heap[b]? = w.heap[b]?)->R w' S v x
 mono:∀ {w:World} {S S':Nat->Prop} {v:Value} {x:α},R w S v x->(∀ b,S b->S' b)->R w S' v x
 lt:∀ {w:World} {S:Nat->Prop} {v:Value} {x:α},R w S v x->R w (fun b=>S b/\b < w.heap.size) v x
 one:∀ {w:World} {S:Nat->Prop} {v:Value} {x:α},R w S v x->v.oneCell'=true
def SlR {α:Type}(r:Rep α) (w:World) (S:Nat->Prop) (v:Value) (xs:List α):Prop :=
 ∃ L:List Value,Rd w S v L/\L.length=xs.length/\∀ (i:Nat) (u:Value) (x:α),L[i]? = some u->xs[i]? = some x->r.R w S u x
theorem Rd.kept' {w w':World}{S:Nat->Prop}{v:Value}{L:List Value}(h:Rd w S v L) (hk:∀ b,S b->b < w.heap.size->w'.heap[b]? = w.heap[b]?):Rd w' S v L :=
 ((h.lt).kept (fun b hb=>hk b hb.1 hb.2)).mono fun _ hb=>hb.1
theorem Rd.one {w:World}{S:Nat->Prop}{v:Value}{L:List Value}(h:Rd w S v L):v.oneCell'=true:=by
 obtain ⟨A,c,rfl,_⟩:=h
 rfl
def slR {α:Type}(r:Rep α):Rep (List α) where
 R:=SlR r
 kept:=fun ⟨L,h,hl,hr⟩ hk=>⟨L,h.kept' hk,hl,fun i u x hu hx=>r.kept (hr i u x hu hx) hk⟩
 mono:=fun ⟨L,h,hl,hr⟩ hs=>⟨L,h.mono hs,hl,fun i u x hu hx=>r.mono (hr i u x hu hx) hs⟩
 lt:=fun ⟨L,h,hl,hr⟩=>⟨L,h.lt,hl,fun i u x hu hx=>r.lt (hr i u x hu hx)⟩
 one:=fun ⟨_,h,_,_⟩=>h.one
/-- Up to block B. -/
abbrev Lo (B:Nat):Nat->Prop:=fun b=>b < B
/-- From block lo to hi. -/
abbrev Iv (lo hi:Nat):Nat->Prop:=fun b=>lo<=b/\b < hi
section
variable {α:Type}{r:Rep α}{w w':World}{S:Nat->Prop}{v:Value}{x:α}{row:Option Nat}
theorem Ur {B:Nat}(h:r.R w (Lo B) v x) (hb:Below B w w'):r.R w' (Lo B) v x:=r.kept h fun b hlt _=>hb.block b hlt
theorem SlR.len {xs:List α}(h:(slR r).R w S v xs):∃ A c,v = .slice A xs.length c/\xs.length<=c/\c<=9223372036854775807:=by
 obtain ⟨L,h,hl,_⟩:=h
 rw [<-hl]
 exact h.len
theorem SlR.nil:(slR r).R w S (.slice none 0 0) ([]:List α):=⟨[],Rd.nil,rfl,fun i u x hu _=>by simp at hu⟩
theorem JK (w:World):w.grownBy w none:=⟨rfl,rfl,rfl,Nat.le_refl _,fun _ _ _=>rfl⟩
theorem LF (w:World):w.grownBy w.drew none:=⟨rfl,rfl,rfl,Nat.le_refl _,fun _ _ _=>rfl⟩
end
/-- A slice that is being built: its own row, and what its elements hang on, lie in blocks from lo to hi; no element hangs on the row itself. -/
def Bl {α:Type}(r:Rep α) (e:TypeId) (w:World) (lo hi:Nat) (v:Value) (xs:List α):Prop :=
 ∃ L:List Value,w.ownsRow lo e 1 v L.length L/\(∀ g,v.ownBlock=some g->g < hi)/\L.length=xs.length/\∀ (i:Nat) (u:Value) (x:α),L[i]? = some u->xs[i]? = some x->r.R w (fun b=>Iv lo hi b/\v.ownBlock≠some b) u x
section
variable {α:Type}{r:Rep α}{e:TypeId}{w w':World}{lo hi:Nat}{v:Value}{xs:List α}{row:Option Nat}
theorem Bl.nil:Bl r e w lo hi (.slice none 0 0) ([]:List α):=⟨[],World.ownsRow_nil _ _ _ _,fun g h=>by simp [Value.ownBlock] at h,rfl,fun i u x hu _=>by simp at hu⟩
theorem Bl.sl (h:Bl r e w lo hi v xs):(slR r).R w (Iv lo hi) v xs:=by
 obtain ⟨L,ho,hb,hl,hr⟩:=h
 refine ⟨L,?_,hl,fun i u x hu hx=>r.mono (hr i u x hu hx) fun b hb=>hb.1⟩
 rcases Nat.eq_zero_or_pos L.length with h0 | h0
 ·obtain ⟨A,c,hv,hc,hm,_⟩:=VW ho
  exact ⟨A,c,hv,hc,hm,fun h=>absurd h (by omega)⟩
 ·obtain ⟨g,cap,hv,h1,h2,h3,hnc,hcm⟩:=PZ ho h0
  exact ⟨_,cap,hv,hnc,hcm,fun _=>⟨_,rfl,⟨h1,hb g h3⟩,ho.cells h3⟩⟩
theorem Bl.len (h:Bl r e w lo hi v xs):∃ A c,v = .slice A xs.length c/\xs.length<=c/\c<=9223372036854775807:=SlR.len h.sl
end
/-- What a call that only makes new blocks leaves; what a call leaves that writes to new blocks alone. -/
theorem Dt {a b c:World}(h:a.grownBy b none) (k:b.grownBy c none):a.grownBy c none:=h.trans k
/-- A whole block of the call's own. -/
def Bk (w:World) (g:Nat) (t:TypeId) (cs:List Value):Prop:=w.heap[g]? = some (.cells cs.toArray t (0,0))
section
variable {w w':World}{g:Nat}{t:TypeId}{cs:List Value}{row:Option Nat}
theorem Bk.lt (h:Bk w g t cs):g < w.heap.size:=by
 rcases Nat.lt_or_ge g w.heap.size with h1 | h1
 ·exact h1
 ·unfold Bk at h; rw [Array.getElem?_eq_none h1] at h; cases h
theorem Bk.cell (h:Bk w g t cs){i:Nat}{u:Value}(hi:cs[i]? = some u):w.cell? ⟨g,i,none⟩=some u:=by
 unfold Bk at h
 simp [World.cell?,h,hi]
theorem Bk.set (h:Bk w g t cs) (i:Nat) (u:Value):Bk (w.setCell ⟨g,i,none⟩ u) g t (cs.set i u):=by
 unfold Bk at h ⊢
 simp [World.setCell,Array.getElem?_modify,h]
/-- Its cells from the head on, as a value by parts. -/
theorem Bk.cells (h:Bk w g t cs):∀ j v,cs[j]? = some v->w.cell? ((⟨g,0,none⟩:Addr).add j)=some v:=fun j v hj=>by
 have:=h.cell hj
 unfold Addr.add
 split
 ·next e=>subst e; exact this
 ·simpa using this
end
/-- Values read as data, one by one. -/
def AllR {α:Type}(r:Rep α) (w:World) (S:Nat->Prop):List Value->List α->Prop
 | [],[]=>True
 | u::us,x::xs=>r.R w S u x/\AllR r w S us xs
 | _,_=>False
theorem AllR.len {α:Type}{r:Rep α}{w:World}{S:Nat->Prop}:∀ {us:List Value}{xs:List α},AllR r w S us xs->us.length=xs.length
 | [],[],_=>rfl
 | _::_,_::_,h=>by simp [AllR.len h.2]
theorem AllR.at_ {α:Type}{r:Rep α}{w:World}{S:Nat->Prop}:∀ {us:List Value}{xs:List α},AllR r w S us xs->∀ (i:Nat) (u:Value) (x:α),us[i]? = some u->xs[i]? = some x->r.R w S u x
 | [],[],_,i,_,_,hu,_=>by simp at hu
 | _::_,_::_,h,0,_,_,hu,hx=>by simp at hu hx; subst hu hx; exact h.1
 | _::_,_::_,h,i + 1,_,_,hu,hx=>AllR.at_ h.2 i _ _ (by simpa using hu) (by simpa using hx)
theorem AllR.one {α:Type}{r:Rep α}{w:World}{S:Nat->Prop}:∀ {us:List Value}{xs:List α},AllR r w S us xs->∀ u ∈ us,u.oneCell'=true
 | [],[],_,u,hu=>by simp at hu
 | _::_,_::_,h,u,hu=>by
  rcases List.mem_cons.1 hu with rfl | hu
  ·exact r.one h.1
  ·exact AllR.one h.2 u hu
section rules
variable {P:Program}{Q:Exit->Act->World->Prop}{F:Frm}{l:List (Nat×Value)}{w:World}{ops:Array Oper}{rest:List Oper}
variable {X:List Oper->Frm->List (Nat×Value)->World->Prop} [inst:Uw P X]
variable {d:Nat}{ty t T e:TypeId}{pos:String}{af:Array Edge}{x y:Operand}{ds dT:TypeDesc}{sz by_ sT bT:Nat}{z zT:Value}
theorem Bl.own {α:Type}{r:Rep α}{lo hi g:Nat}{v:Value}{xs:List α}(h:Bl r e w lo hi v xs) (hv:v.ownBlock=some g):lo<=g/\g < hi/\g < w.heap.size:=by
 obtain ⟨L,ho,hb,_,_⟩:=h
 exact ⟨(ho.lt g hv).1,hb g hv,(ho.lt g hv).2⟩
end rules
section
variable {P:Program}{ops:Array Oper}{C:World->Prop}{Q:Act->World->Prop}{loud:Nat->Bool}{T:Nat}
/-- One operation, carried out: a value; nothing; or a call that returns. -/
def Lw (P:Program) (o:Oper) (a:Act) (w:World) (K:Act->World->Prop):Prop :=
 match (execOp a.eval o).run P w with
 | .ok (.value v) w'=>K (a.put o.dst v) w'
 | .ok .skip w'=>K (a.put o.dst undef) w'
 | .ok (.enter f args) w'=>Ret P f args w' fun v w''=>K (a.put o.dst v) w''
 | _=>False
theorem Lw.mono {o:Oper}{a:Act}{w:World}{K K':Act->World->Prop}(h:Lw P o a w K) (hK:∀ a w,K a w->K' a w):Lw P o a w K':=by
 unfold Lw at *
 generalize (execOp a.eval o).run P w=r at *
 cases r with
 | ok n w' =>
  cases n <;> simp only at h ⊢ <;> first | exact hK _ _ h | exact Ret.mono h (fun v w'' hh=>hK _ _ hh) | exact h
 | halt x w'=>exact h
theorem Lw.wpIn {o:Oper}{a:Act}{w:World}{K:Act->World->Prop}{Q':Exit->Act->World->Prop}(ro:Option Nat) (n:Nat) (h:Lw P o a w K):o.wpIn (Fw ro) n P a w K Q':=by
 refine ⟨fun _ _=>trivial,?_⟩
 unfold Lw at h
 cases hr:(execOp a.eval o).run P w with
 | ok x w' =>
  rw [hr] at h
  cases x <;> simp only at h <;> try exact h.elim
  case value v =>
   rw [show (Fw ro).round=ro from rfl,semAt_run ro hr (by simp)]
   exact h
  case skip =>
   rw [show (Fw ro).round=ro from rfl,semAt_run ro hr (by simp)]
   exact h
  case enter f args =>
   rw [show (Fw ro).round=ro from rfl,semAt_run ro hr (by simp)]
   refine ⟨(fun h=>by cases h),CallsIn.mono (Ec ro _ h) fun e w'' hh=>?_⟩
   cases e with
   | returned v=>exact hh
   | panicked c=>exact hh.elim
   | outgrown=>exact hh.elim
 | halt x w'=>rw [hr] at h; exact h.elim
def QuietAt (P:Program) (C:World->Prop) (o:Oper) (v:Value) (a:Act):Prop:=∀ w,C w->(execOp a.eval o).run P w = .ok (.value v) w
/-- Operations that read temporaries alone. -/
def F6 (o:Oper):Bool:=match o.op with
 | .move _=>true
 | .indexAddr _ _ _=>true
 | .fieldAddr _ _ _=>true
 | .binOp .add _ _ _ _=>true
 | .binOp .sub _ _ _ _=>true
 | .binOp .mul _ _ _ _=>true
 | .binOp .lss _ _ _ _=>true
 | _=>false
theorem Nq {o:Oper}(hf:F6 o=true):(∃ x,o.op = .move x)\/(∃ t x i,o.op = .indexAddr t x i)\/(∃ t x i,o.op = .fieldAddr t x i)\/∃ b t x y t',o.op = .binOp b t x y t':=by
 unfold F6 at hf
 split at hf
 ·next x h=>exact .inl ⟨x,h⟩
 ·next t x i h=>exact .inr (.inl ⟨t,x,i,h⟩)
 ·next t x i h=>exact .inr (.inr (.inl ⟨t,x,i,h⟩))
 ·next t x y u h=>exact .inr (.inr (.inr ⟨_,t,x,y,u,h⟩))
 ·next t x y u h=>exact .inr (.inr (.inr ⟨_,t,x,y,u,h⟩))
 ·next t x y u h=>exact .inr (.inr (.inr ⟨_,t,x,y,u,h⟩))
 ·next t x y u h=>exact .inr (.inr (.inr ⟨_,t,x,y,u,h⟩))
 ·cases hf
def Dl (ops:Array Oper) (i:Nat):Bool:=(ops[i]?).any F6
/-- Where an operation yields what is told of it. -/
def Cf (C:World->Prop) (o:Oper) (w:World):Prop:=match F6 o with
 | true=>True
 | false=>C w
theorem QuietAt.up {o:Oper}{v:Value}{a:Act}(hf:F6 o=false) (h:QuietAt P C o v a):QuietAt P (Cf C o) o v a:=fun w' hw'=>by
 unfold Cf at hw'
 rw [hf] at hw'
 exact h w' hw'
/-- Operation i, quiet or loud. -/
def mOp (P:Program) (ops:Array Oper) (C:World->Prop) (loud:Nat->Bool) (i:Nat) (K:Act->World->Prop) (a:Act) (w:World):Prop :=
 match ops[i]? with
 | none=>False
 | some o =>
  if Region.wanted o (yielded ops a.tmps) then
   (if loud i then Lw P o a w K else ∃ v,QuietAt P (Cf C o) o v a/\K (a.put o.dst v) w)
  else K (a.put o.dst undef) w
/-- No operation of the tail (from T on) has come up. -/
def O2 (ops:Array Oper) (loud:Nat->Bool) (T:Nat) (listed:Array Bool):Prop:=∀ j,T<=j->j < ops.size->loud j=true->listed.getD j true=false
def wpM (P:Program) (ops:Array Oper) (C:World->Prop) (loud:Nat->Bool) (T:Nat) (Q:Act->World->Prop):Nat->Array Bool->Act->World->Prop
 | 0,listed,a,w=>(O2 ops loud T listed->C w)/\Region.ready .any ops listed=[]/\Q a w
 | fuel + 1,listed,a,w=>(O2 ops loud T listed->C w)/\(Region.ready .any ops listed=[]->Q a w) /\
  ∀ i ∈ Region.ready .any ops listed,mOp P ops C loud i (wpM P ops C loud T Q fuel (listed.setIfInBounds i true)) a w
theorem wpM.c {fuel:Nat}{listed:Array Bool}{a:Act}{w:World}(h:wpM P ops C loud T Q fuel listed a w):O2 ops loud T listed->C w:=by
 cases fuel <;> exact h.1
theorem O1 {i:Nat}{a:Act}{w:World}{K:Act->World->Prop}{Q':Exit->Act->World->Prop}(ro:Option Nat) (n:Nat) (hC:∀ o,ops[i]? = some o->loud i=false->Cf C o w) (h:mOp P ops C loud i K a w):wpOpIn (Fw ro) n P ops Q' i K a w:=by
 unfold mOp at h
 unfold wpOpIn
 cases ho:ops[i]? with
 | none=>rw [ho] at h; exact h.elim
 | some o =>
  rw [ho] at h
  dsimp only at h ⊢
  split at h
  ·next hw =>
   rw [if_pos hw]
   split at h
   ·exact h.wpIn ro n
   ·next hl =>
    obtain ⟨v,hv,hK⟩:=h
    refine ⟨fun _ _=>trivial,?_⟩
    rw [show (Fw ro).round=ro from rfl,semAt_run ro (hv w (hC o ho (by simpa using hl))) (by simp)]
    exact hK
  ·next hw =>
   rw [if_neg hw]
   exact ⟨fun _ _=>trivial,h⟩
theorem Ht {j:Nat}{a:Act}{w:World}{K K':Act->World->Prop}(hK:∀ a w,K a w->K' a w) (h:mOp P ops C loud j K a w):mOp P ops C loud j K' a w:=by
 unfold mOp at *
 cases ho:ops[j]? with
 | none=>rw [ho] at h; exact h.elim
 | some o =>
  rw [ho] at h
  dsimp only at h ⊢
  split at h
  ·next hw =>
   rw [if_pos hw]
   split at h
   ·next hl=>rw [if_pos hl]; exact h.mono hK
   ·next hl=>rw [if_neg hl]; obtain ⟨v,hv,h⟩:=h; exact ⟨v,hv,hK _ _ h⟩
  ·next hw=>rw [if_neg hw]; exact hK _ _ h
/-- What is listed lies behind nothing that is not. -/
def Closed (ops:Array Oper) (listed:Array Bool):Prop:=∀ k o,ops[k]? = some o->listed.getD k false=true->∀ e ∈ o.after,Region.binds .any e=true->listed.getD e.on false=true
/-- j waits for i, directly or through others. -/
def Ha (ops:Array Oper):Nat->Nat->Nat->Bool
 | 0,_,_=>false
 | n + 1,j,i=>match ops[j]? with
  | some o=>o.after.any fun e=>Region.binds .any e&&(e.on==i||Ha ops n e.on i)
  | none=>false
theorem H0 {listed:Array Bool}(hc:Closed ops listed):∀ (n j i:Nat),Ha ops n j i=true->(∀ o,ops[j]? = some o->∀ e ∈ o.after,Region.binds .any e=true->listed.getD e.on false=true)->listed.getD i false=true
 | 0,_,_,h,_=>by cases h
 | n + 1,j,i,h,hj=>by
  unfold Ha at h
  cases ho:ops[j]? with
  | none=>rw [ho] at h; cases h
  | some o =>
   rw [ho] at h
   obtain ⟨e,he,hb⟩:=Array.any_eq_true'.1 h
   simp only [Bool.and_eq_true,Bool.or_eq_true,beq_iff_eq] at hb
   have h1:=hj o ho e he hb.1
   rcases hb.2 with h2 | h2
   ·rw [<-h2]; exact h1
   ·exact H0 hc n e.on i h2 fun o' ho' e' he' hb'=>hc e.on o' ho' h1 e' he' hb'
theorem Closed.set {listed:Array Bool}(hc:Closed ops listed){i:Nat}(hi:i ∈ Region.ready .any ops listed):Closed ops (listed.setIfInBounds i true):=by
 obtain ⟨hun,oi,hoi,hall⟩:=mem_ready.1 hi
 have hmono:∀ m,listed.getD m false=true->(listed.setIfInBounds i true).getD m false=true:=by
  intro m hm
  by_cases him:i=m
  ·subst him
   have hlt:i < listed.size:=by
    rcases Nat.lt_or_ge i listed.size with h' | h'
    ·exact h'
    ·simp [Array.getElem?_eq_none h'] at hm
   simp [hlt]
  ·rw [getD_set_ne false him]; exact hm
 intro k o hk hl e he hb
 by_cases hik:i=k
 ·subst hik
  rw [hoi] at hk
  injection hk with hk
  subst hk
  exact hmono _ (hall e he hb)
 ·rw [getD_set_ne false hik] at hl
  exact hmono _ (hc k o hk hl e he hb)
/-- The tail stands behind every quiet operation. -/
def I3 (ops:Array Oper) (loud:Nat->Bool) (T n:Nat):Prop:=∀ j,T<=j->j < ops.size->loud j=true->∀ i,i < ops.size->loud i=false->Dl ops i=false->Ha ops n j i=true
theorem M0 {listed:Array Bool}{n i:Nat}(ht:I3 ops loud T n) (hc:Closed ops listed) (hsz:listed.size=ops.size) (hi:i < ops.size) (hl:loud i=false) (hfr:Dl ops i=false) (hun:listed.getD i true=false):O2 ops loud T listed:=by
 intro j hTj hj hlj
 cases hv:listed.getD j true with
 | false=>rfl
 | true =>
  exfalso
  have hjs:j < listed.size:=by omega
  have his:i < listed.size:=by omega
  have h1:listed.getD j false=true:=by
   simp [hjs] at hv ⊢; exact hv
  have hoj:∃ o,ops[j]? = some o:=⟨ops[j],by simp [hj]⟩
  obtain ⟨o,ho⟩:=hoj
  have h2:=H0 hc n j i (ht j hTj hj hlj i hi hl hfr) fun o' ho' e he hb=>hc j o' ho' h1 e he hb
  simp [his] at hun h2
  rw [hun] at h2
  cases h2
theorem Tp {listed:Array Bool}{n i:Nat}{o:Oper}{w:World}(ht:I3 ops loud T n) (hc:Closed ops listed) (hsz:listed.size=ops.size) (hi:ops[i]? = some o) (hl:loud i=false) (hun:listed.getD i true=false) (hC:O2 ops loud T listed->C w):Cf C o w:=by
 unfold Cf
 cases hf:F6 o with
 | true=>trivial
 | false=>exact hC (M0 ht hc hsz (Array.getElem?_eq_some_iff.1 hi).1 hl (by simp [Dl,hi,hf]) hun)
theorem G7 {n:Nat}{Q':Exit->Act->World->Prop}(ro:Option Nat) (m:Nat) (ht:I3 ops loud T n) (hQ:∀ a w,Q a w->Q' .normal a w):∀ (fuel:Nat) (listed:Array Bool) (a:Act) (w:World),Closed ops listed->listed.size=ops.size->wpM P ops C loud T Q fuel listed a w->wpAnyIn (Fw ro) m P .any ops Q' fuel listed a w
 | 0,_,_,_,_,_,h=>⟨h.2.1,hQ _ _ h.2.2⟩
 | fuel + 1,listed,_,_,hc,hsz,h=>⟨fun h0=>hQ _ _ (h.2.1 h0),fun i hi=>by
  refine O1 (loud:=loud) ro m (fun o' ho' hl=>?_) (Ht (fun a w h=>G7 ro m ht hQ fuel _ a w (hc.set hi) (by simpa using hsz) h) (h.2.2 i hi))
  obtain ⟨hun,o,ho,_⟩:=mem_ready.1 hi
  exact Tp ht hc hsz ho' hl hun h.1⟩
/-- What one operation yields, told of a quiet one (or of one that is not wanted). -/
def YieldsM (P:Program) (ops:Array Oper) (C:World->Prop) (o:Oper) (v:Value) (a:Act):Prop :=
 (Region.wanted o (yielded ops a.tmps)=true/\QuietAt P (Cf C o) o v a)\/(Region.wanted o (yielded ops a.tmps)=false/\v=undef)
theorem YieldsM.same {o:Oper}{v:Value}{a a':Act}(hy:YieldsM P ops C o v a) (he:execOp a'.eval o=execOp a.eval o)
  (hw:Region.wanted o (yielded ops a'.tmps)=Region.wanted o (yielded ops a.tmps)):YieldsM P ops C o v a':=by
 unfold YieldsM QuietAt at *
 rw [he,hw]
 exact hy
theorem YieldsM.mOp {i:Nat}{o:Oper}{v:Value}{a:Act}{w:World}{K:Act->World->Prop}(hi:ops[i]? = some o) (hl:loud i=false) (hy:YieldsM P ops C o v a) (h:K (a.put o.dst v) w):mOp P ops C loud i K a w:=by
 unfold Go.Proofs.YtdjhmdbpcfnpgaaGreatDoor.mOp
 rw [hi]
 dsimp only
 rcases hy with ⟨hw,hv⟩ | ⟨hw,rfl⟩
 ·rw [if_pos hw,hl]; exact ⟨v,hv,h⟩
 ·rw [hw]; exact h
theorem DK {i:Nat}{o:Oper}{a:Act}{w:World}{K:Act->World->Prop}(hi:ops[i]? = some o) (hl:loud i=false) (h:mOp P ops C loud i K a w):∃ v,YieldsM P ops C o v a/\K (a.put o.dst v) w:=by
 unfold mOp at h
 rw [hi] at h
 dsimp only at h
 split at h
 ·next hw =>
  rw [hl] at h
  obtain ⟨v,hv,hK⟩:=h
  exact ⟨v,.inl ⟨hw,hv⟩,hK⟩
 ·next hw=>exact ⟨undef,.inr ⟨by simpa using hw,rfl⟩,h⟩
theorem I4 {o:Oper}{v v':Value}{a:Act}{w:World}(hC:Cf C o w) (h:YieldsM P ops C o v a) (h':YieldsM P ops C o v' a):v=v':=by
 rcases h with ⟨h1,h2⟩ | ⟨h1,h2⟩ <;> rcases h' with ⟨h3,h4⟩ | ⟨h3,h4⟩
 ·have:=(h2 w hC).symm.trans (h4 w hC)
  injection this with this
  injection this with this
 ·rw [h1] at h3; cases h3
 ·rw [h1] at h3; cases h3
 ·rw [h2,h4]
/-- An operation apart from 'oi' does not see whether oi's value is in its temporary. -/
theorem VN {oi oj : Oper} {a : Act} {w : World} {v : Value} {K : Act → World → Prop} (h1 : ∀ d, oi.dst = some d → d ∉ oj.looksAt ops) (h2 : ∀ d, oi.dst = some d → oj.dst ≠ some d) (hs : ∀ cs b, oj.op ≠ .select cs b) :
    Lw P oj (a.put oi.dst v) w K ↔ Lw P oj a w (fun a' w' => K (a'.put oi.dst v) w') := by
  unfold Lw
  rw [execOp_put oj hs a oi.dst v h1]
  generalize (execOp a.eval oj).run P w = r
  cases r with
  | ok n w' =>
    cases n <;> simp only
    case value u => rw [Act.put_comm a v u h2]
    case skip => rw [Act.put_comm a v undef h2]
    case enter f args =>
      constructor <;>
        (intro h
         refine Ret.mono h fun u w'' hh => ?_
         first | (rw [Act.put_comm a v u h2] at hh; exact hh) | (rw [Act.put_comm a v u h2]; exact hh))
  | halt x w' => exact Iff.rfl
theorem Oi {j:Nat}{oi oj:Oper}{v:Value}{a:Act}{w:World}{K:Act->World->Prop}(hj:ops[j]? = some oj) (h1:∀ d,oi.dst=some d->d ∉ oj.looksAt ops) (h2:∀ d,oi.dst=some d->oj.dst≠some d) (hs:∀ cs b,oj.op≠ .select cs b) :
  mOp P ops C loud j K (a.put oi.dst v) w↔mOp P ops C loud j (fun a' w'=>K (a'.put oi.dst v) w') a w:=by
 unfold mOp
 rw [hj]
 dsimp only
 rw [wanted_put oj a oi.dst v h1]
 split
 ·split
  ·exact VN h1 h2 hs
  ·unfold QuietAt
   rw [execOp_put oj hs a oi.dst v h1]
   constructor <;> (rintro ⟨u,hu,hK⟩; exact ⟨u,hu,by first | (rw [Act.put_comm a v u h2] at hK; exact hK) | (rw [Act.put_comm a v u h2]; exact hK)⟩)
 ·rw [Act.put_comm a v undef h2]
/-- Something comes of a loud operation: its post is met somewhere. -/
theorem Sc {o:Oper}{a:Act}{w:World}{K:Act->World->Prop}(h:Lw P o a w K):∃ (u:Value) (w':World),K (a.put o.dst u) w':=by
 unfold Lw at h
 generalize (execOp a.eval o).run P w=r at *
 cases r with
 | ok n w' =>
  cases n <;> simp only at h <;> try exact h.elim
  case value u=>exact ⟨u,w',h⟩
  case skip=>exact ⟨undef,w',h⟩
  case enter f args =>
   obtain ⟨e,w'',fr,hR,_⟩:=h []
   cases e with
   | returned v=>exact ⟨v,w'',hR⟩
   | panicked c=>exact hR.elim
   | outgrown=>exact hR.elim
 | halt x w'=>exact h.elim
theorem Jp {i:Nat}{o:Oper}{a:Act}{w:World}{K:Act->World->Prop}(hi:ops[i]? = some o) (h:mOp P ops C loud i K a w):∃ (u:Value) (w':World),K (a.put o.dst u) w':=by
 unfold mOp at h
 rw [hi] at h
 dsimp only at h
 split at h
 ·split at h
  ·exact Sc h
  ·obtain ⟨v,_,hK⟩:=h; exact ⟨v,w,hK⟩
 ·exact ⟨undef,w,h⟩
/-- What an operation leaves in the frame, told of all frames that it may leave. -/
theorem Oh {j:Nat}{oj:Oper}{a:Act}{w:World}{K:Act->World->Prop}{G:Act->Prop}(hj:ops[j]? = some oj) (hG:∀ u,G (a.put oj.dst u)) (h:mOp P ops C loud j K a w):mOp P ops C loud j (fun a' w'=>G a'/\K a' w') a w:=by
 unfold mOp at *
 rw [hj] at h ⊢
 dsimp only at h ⊢
 split at h
 ·next hw =>
  rw [if_pos hw]
  split at h
  ·next hl =>
   rw [if_pos hl]
   unfold Lw at *
   generalize (execOp a.eval oj).run P w=r at *
   cases r with
   | ok n w' =>
    cases n <;> simp only at h ⊢ <;> first | exact ⟨hG _,h⟩ | exact Ret.mono h (fun v w'' hh=>⟨hG _,hh⟩) | exact h
   | halt x w'=>exact h
  ·next hl =>
   rw [if_neg hl]
   obtain ⟨u,hu,hK⟩:=h
   exact ⟨u,hu,hG _,hK⟩
 ·next hw =>
  rw [if_neg hw]
  exact ⟨hG _,h⟩
/-- A quiet operation that may come up now may be taken first. -/
theorem Hb {i:Nat}{oi:Oper}{v:Value}(hi:ops[i]? = some oi) (hli:loud i=false) (hsel:∀ (j:Nat) (o:Oper) cs b,ops[j]? = some o->o.op≠ .select cs b) :
  ∀ (fuel:Nat) (listed:Array Bool) (a:Act) (w:World),(O2 ops loud T listed->C w)->Closed ops listed->listed.size=ops.size ->
   (∀ j oj,ops[j]? = some oj->j≠i->listed.getD j true=false->(∀ e ∈ oj.after,Region.binds .any e=true->e.on≠i)->oi.apart ops oj=true) ->
   i ∈ Region.ready .any ops listed->YieldsM P ops C oi v a ->
   wpM P ops C loud T Q fuel (listed.setIfInBounds i true) (a.put oi.dst v) w->wpM P ops C loud T Q (fuel + 1) listed a w:=by
 have hilt:i < ops.size:=(Array.getElem?_eq_some_iff.1 hi).1
 intro fuel
 induction fuel with
 | zero =>
  intro listed a w hC _ _ _ hr hy H
  refine ⟨hC,fun h=>(by rw [h] at hr; cases hr),fun j hj=>?_⟩
  by_cases hji:j=i
  ·subst hji; exact hy.mOp hi hli H
  ·have:=ready_mono hj hji
   rw [H.2.1] at this
   cases this
 | succ fuel ih =>
  intro listed a w hC hcl hsz hfree hr hy H
  refine ⟨hC,fun h=>(by rw [h] at hr; cases hr),fun j hj=>?_⟩
  by_cases hji:j=i
  ·subst hji; exact hy.mOp hi hli H
  ·have h1:=H.2.2 j (ready_mono hj hji)
   obtain ⟨hjun,oj,hoj,hall⟩:=mem_ready.1 hj
   have hiun:=(mem_ready.1 hr).1
   have hnl:¬ listed.getD i false=true:=fun h1=>by
    have h':i < listed.size:=by omega
    simp [h'] at hiun h1; rw [hiun] at h1; cases h1
   have hnot:∀ e ∈ oj.after,Region.binds .any e=true->e.on≠i:=fun e he hb heq=>hnl (by rw [<-heq]; exact hall e he hb)
   obtain ⟨ap1,ap2,ap3⟩:=Oper.apart_spec (hfree j oj hoj hji hjun hnot)
   have h2:=(Oi hoj ap1 ap2 (fun cs b=>hsel j oj cs b hoj)).1 h1
   have hfree':∀ k ok,ops[k]? = some ok->k≠i->(listed.setIfInBounds j true).getD k true=false ->
     (∀ e ∈ ok.after,Region.binds .any e=true->e.on≠i)->oi.apart ops ok=true:=fun k ok hk hki hun hno=>by
    refine hfree k ok hk hki ?_ hno
    by_cases hjk:j=k
    ·subst hjk; exact hjun
    ·rw [getD_set_ne true hjk] at hun; exact hun
   have hG:∀ u,YieldsM P ops C oi v (a.put oj.dst u):=fun u=>hy.same (execOp_put oi (fun cs b=>hsel i oi cs b hi) a oj.dst u ap3) (wanted_put oi a oj.dst u ap3)
   have hr2:i ∈ Region.ready .any ops (listed.setIfInBounds j true):=ready_mono hr (Ne.symm hji)
   have hneed:O2 ops loud T (listed.setIfInBounds j true)->O2 ops loud T ((listed.setIfInBounds j true).setIfInBounds i true):=by
    intro h0 k hTk hk hlk
    have hki:i≠k:=fun e=>by rw [<-e,hli] at hlk; cases hlk
    rw [getD_set_ne true hki]
    exact h0 k hTk hk hlk
   refine Ht (fun a' w' h4=>?_) (Oh hoj hG h2)
   have h5:wpM P ops C loud T Q fuel ((listed.setIfInBounds j true).setIfInBounds i true) (a'.put oi.dst v) w':=by
    rw [Array.setIfInBounds_comm _ _ hji]
    exact h4.2
   exact ih (listed.setIfInBounds j true) a' w' (fun hn=>h5.c (hneed hn)) (hcl.set hj) (by simpa using hsz) hfree' hr2 h4.1 h5
/-- A loud operation that may come up now may be taken first, if every other loud one is behind it. -/
theorem Pn {n i:Nat}{oi:Oper}(ht:I3 ops loud T n) (hi:ops[i]? = some oi) (hsel:∀ (j:Nat) (o:Oper) cs b,ops[j]? = some o->o.op≠ .select cs b) :
  ∀ (fuel:Nat) (listed:Array Bool) (a:Act) (w:World),(∀ j,j < ops.size->j≠i->loud j=true->listed.getD j true=false->Ha ops n j i=true)->Closed ops listed->listed.size=ops.size->(O2 ops loud T listed->C w) ->
   (∀ j oj,ops[j]? = some oj->j≠i->listed.getD j true=false->(∀ e ∈ oj.after,Region.binds .any e=true->e.on≠i)->oi.apart ops oj=true) ->
   i ∈ Region.ready .any ops listed ->
   mOp P ops C loud i (wpM P ops C loud T Q fuel (listed.setIfInBounds i true)) a w->wpM P ops C loud T Q (fuel + 1) listed a w:=by
 intro fuel
 induction fuel with
 | zero =>
  intro listed a w _ _ _ hC _ hr H
  refine ⟨hC,fun h=>(by rw [h] at hr; cases hr),fun j hj=>?_⟩
  by_cases hji:j=i
  ·subst hji; exact H
  ·obtain ⟨u,w',h1⟩:=Jp hi H
   have:=ready_mono hj hji
   rw [h1.2.1] at this
   cases this
 | succ fuel ih =>
  intro listed a w hT hcl hsz hC hfree hr H
  refine ⟨hC,fun h=>(by rw [h] at hr; cases hr),fun j hj=>?_⟩
  by_cases hji:j=i
  ·subst hji; exact H
  ·obtain ⟨hjun,oj,hoj,hall⟩:=mem_ready.1 hj
   have hiun:=(mem_ready.1 hr).1
   have hilt:i < ops.size:=(Array.getElem?_eq_some_iff.1 hi).1
   have hnl:¬ listed.getD i false=true:=fun h1=>by
    have h':i < listed.size:=by omega
    simp [h'] at hiun h1; rw [hiun] at h1; cases h1
   have hnot:∀ e ∈ oj.after,Region.binds .any e=true->e.on≠i:=fun e he hb heq=>hnl (by rw [<-heq]; exact hall e he hb)
   have hjlt:j < ops.size:=(Array.getElem?_eq_some_iff.1 hoj).1
   have hlj:loud j=false:=by
    cases hlj:loud j with
    | false=>rfl
    | true =>
     exact absurd (H0 hcl n j i (hT j hjlt hji hlj hjun) fun o ho e he hb=>by rw [hoj] at ho; injection ho with ho; subst ho; exact hall e he hb) hnl
   obtain ⟨ap1,ap2,ap3⟩:=Oper.apart_spec (hfree j oj hoj hji hjun hnot)
   have hCw:O2 ops loud T (listed.setIfInBounds j true)->C w:=fun hn=>hC fun k hTk hk hlk=>by
    by_cases hjk:j=k
    ·subst hjk; exact hjun
    ·have:=hn k hTk hk hlk; rwa [getD_set_ne true hjk] at this
   -- what j yields
   obtain ⟨u,w',h1⟩:=Jp hi H
   obtain ⟨v,hy,_⟩:=DK hoj hlj (h1.2.2 j (ready_mono hj hji))
   have hya:YieldsM P ops C oj v a:=hy.same (execOp_put oj (fun cs b=>hsel j oj cs b hoj) _ oi.dst u ap1).symm (wanted_put oj _ oi.dst u ap1).symm
   refine hya.mOp hoj hlj ?_
   have hfree':∀ k ok,ops[k]? = some ok->k≠i->(listed.setIfInBounds j true).getD k true=false ->
     (∀ e ∈ ok.after,Region.binds .any e=true->e.on≠i)->oi.apart ops ok=true:=fun k ok hk hki hun hno=>by
    refine hfree k ok hk hki ?_ hno
    by_cases hjk:j=k
    ·subst hjk; exact hjun
    ·rw [getD_set_ne true hjk] at hun; exact hun
   have hT':∀ k,k < ops.size->k≠i->loud k=true->(listed.setIfInBounds j true).getD k true=false->Ha ops n k i=true:=fun k hk hki hkl hun=>by
    refine hT k hk hki hkl ?_
    by_cases hjk:j=k
    ·subst hjk; exact hjun
    ·rw [getD_set_ne true hjk] at hun; exact hun
   refine ih (listed.setIfInBounds j true) (a.put oj.dst v) w hT' (hcl.set hj) (by simpa using hsz) hCw hfree' (ready_mono hr (Ne.symm hji)) ?_
   have ap2':∀ d,oj.dst=some d->oi.dst≠some d:=fun d hd hd'=>ap2 d hd' hd
   rw [Oi hi ap3 ap2' (fun cs b=>hsel i oi cs b hi)]
   have hG:∀ u,YieldsM P ops C oj v (a.put oi.dst u):=fun u=>hya.same (execOp_put oj (fun cs b=>hsel j oj cs b hoj) a oi.dst u ap1) (wanted_put oj a oi.dst u ap1)
   have hr2:=ready_mono (md:= .any) (ops:=ops) hj hji
   refine Ht (fun a' w'' h2=>?_) (Oh hi hG H)
   obtain ⟨v',hy',h3⟩:=DK hoj hlj (h2.2.2.2 j hr2)
   rw [I4 (Tp ht (hcl.set hr) (by simpa using hsz) hoj hlj (mem_ready.1 hr2).1 h2.2.c) h2.1 hy',Array.setIfInBounds_comm _ _ hji]
   exact h3
end
section
variable {P:Program}{ops:Array Oper}{C:World->Prop}{Q:Act->World->Prop}{loud:Nat->Bool}{T:Nat}
/-- One walk in the order of the text. -/
def Fk (P:Program) (ops:Array Oper) (C:World->Prop) (loud:Nat->Bool) (T:Nat) (Q:Act->World->Prop):Nat->List Oper->Act->World->Prop
 | k,[],a,w=>(k<=T->C w)/\Q a w
 | k,o::rest,a,w=>(k<=T->C w) /\
  (if Region.wanted o (yielded ops a.tmps) then
   (if loud k then Lw P o a w (Fk P ops C loud T Q (k + 1) rest) else ∃ v,QuietAt P (Cf C o) o v a/\Fk P ops C loud T Q (k + 1) rest (a.put o.dst v) w)
  else Fk P ops C loud T Q (k + 1) rest (a.put o.dst undef) w)
def LY (ops:Array Oper) (loud:Nat->Bool) (T:Nat):Bool :=
 ((List.range ops.size).all fun k=>!loud k||(List.range ops.size).all fun j=>!(decide (k < j)&&loud j)||Ha ops ops.size j k) &&
 ((List.range ops.size).all fun j=>!decide (T<=j)||(if loud j then (List.range ops.size).all fun i=>loud i||Dl ops i||Ha ops ops.size j i else Dl ops j&&decide (j≠T)))
theorem P1 (h:LY ops loud T=true){k j:Nat}(hk:k < ops.size) (hj:j < ops.size) (hlk:loud k=true) (hlj:loud j=true) (hkj:k < j):Ha ops ops.size j k=true:=by
 unfold LY at h
 rw [Bool.and_eq_true] at h
 have h1:=List.all_eq_true.1 h.1 k (by simpa using hk)
 simp only [hlk,Bool.not_true,Bool.false_or] at h1
 have h2:=List.all_eq_true.1 h1 j (by simpa using hj)
 simpa [hkj,hlj] using h2
theorem MX (h:LY ops loud T=true):I3 ops loud T ops.size:=by
 unfold LY at h
 rw [Bool.and_eq_true] at h
 intro j hTj hj hlj i hi hli hfr
 have h1:=List.all_eq_true.1 h.2 j (by simpa using hj)
 simp only [hTj,decide_true,Bool.not_true,Bool.false_or,if_pos hlj] at h1
 have h2:=List.all_eq_true.1 h1 i (by simpa using hi)
 simpa [hli,hfr] using h2
theorem P0 (h:LY ops loud T=true){j:Nat}(hTj:T<=j) (hj:j < ops.size) (hl:loud j=false):Dl ops j=true/\j≠T:=by
 unfold LY at h
 rw [Bool.and_eq_true] at h
 have h1:=List.all_eq_true.1 h.2 j (by simpa using hj)
 simp only [hTj,decide_true,Bool.not_true,Bool.false_or,hl,Bool.false_eq_true,if_false,Bool.and_eq_true,decide_eq_true_eq] at h1
 exact h1
theorem Qz (h:LY ops loud T=true) (hT:T < ops.size):loud T=true:=by
 cases hl:loud T with
 | true=>rfl
 | false=>exact absurd rfl (P0 h (Nat.le_refl T) hT hl).2
theorem Rh (hs:Region.noSelect ops=true) (hb:LY ops loud T=true):∀ (l:List Oper) (k:Nat) (listed:Array Bool) (a:Act) (w:World),k + l.length=ops.size->(∀ j,l[j]? = ops[k + j]?) ->
  Region.lexFrom .any ops l.length k listed=true->Closed ops listed->listed.size=ops.size->(∀ j,j < k->listed.getD j true=true)->Fk P ops C loud T Q k l a w->wpM P ops C loud T Q l.length listed a w
 | [],k,listed,a,w,hkl,_,hB,_,_,hlt,h=>by
  refine ⟨fun hn=>h.1 ?_,by simpa [Region.lexFrom] using hB,h.2⟩
  rcases Nat.lt_or_ge T k with h1 | h1
  ·exfalso
   have hTs:T < ops.size:=by simp at hkl; omega
   have h2:=hn T (Nat.le_refl _) hTs (Qz hb hTs)
   rw [hlt T h1] at h2
   cases h2
  ·exact h1
 | o::l,k,listed,a,w,hkl,hl,hB,hcl,hsz,hlt,h=>by
  have h0:ops[k]? = some o:=by simpa using (hl 0).symm
  have hk:k < ops.size:=(Array.getElem?_eq_some_iff.1 h0).1
  simp only [List.length_cons,Region.lexFrom,Bool.and_eq_true] at hB
  obtain ⟨⟨hr,hf⟩,hB'⟩:=hB
  have hr':k ∈ Region.ready .any ops listed:=by simpa using hr
  have rec_:∀ a w,Fk P ops C loud T Q (k + 1) l a w->wpM P ops C loud T Q l.length (listed.setIfInBounds k true) a w:=fun a w hh =>
   Rh hs hb l (k + 1) _ a w (by simp at hkl; omega) (fun j=>by have:=hl (j + 1); simpa [Nat.add_assoc,Nat.add_comm 1 j] using this) hB' (hcl.set hr') (by simpa using hsz) (fun j hj=>by
    by_cases hjk:k=j
    ·subst hjk
     have hlt':k < listed.size:=by omega
     simp [hlt']
    ·rw [getD_set_ne true hjk]; exact hlt j (by omega)) hh
  obtain ⟨hC,hh⟩:=h
  have hle:O2 ops loud T listed->k<=T:=fun hn=>by
   rcases Nat.lt_or_ge T k with h1 | h1
   ·exfalso
    have h2:=hn T (Nat.le_refl _) (by omega) (Qz hb (by omega))
    rw [hlt T h1] at h2
    cases h2
   ·exact h1
  have hst:mOp P ops C loud k (Fk P ops C loud T Q (k + 1) l) a w:=by
   unfold mOp
   rw [h0]
   dsimp only
   split at hh
   ·next hw =>
    rw [if_pos hw]
    split at hh
    ·next hl=>rw [if_pos hl]; exact hh
    ·next hl =>
     rw [if_neg hl]
     exact hh
   ·next hw=>rw [if_neg hw]; exact hh
  cases hlk:loud k with
  | false =>
   obtain ⟨v,hy,hK⟩:=DK h0 hlk hst
   exact Hb h0 hlk (Region.noSelect_spec hs) l.length listed a w (fun hn=>hC (hle hn)) hcl hsz (Region.free_spec h0 hf) hr' hy (rec_ _ _ hK)
  | true =>
   refine Pn (n:=ops.size) (MX hb) h0 (Region.noSelect_spec hs) l.length listed a w (fun j hj hjk hlj hun=>?_) hcl hsz (fun hn=>hC (hle hn)) (Region.free_spec h0 hf) hr' (Ht rec_ hst)
   ·have hkj:k < j:=by
     rcases Nat.lt_trichotomy k j with h1 | h1 | h1
     ·exact h1
     ·exact absurd h1.symm hjk
     ·rw [hlt j h1] at hun; cases hun
    exact P1 hb hk hj hlk hlj hkj
theorem H1 {id:Nat}{Q':Exit->Act->World->Prop}{a:Act}{w:World}{l:List Oper}(ro:Option Nat) (m:Nat) (hm:P.follows .mixedOrders=true) (hB:Region.lexB .any l.toArray=true) (hb:LY l.toArray loud T=true)
  (h:Fk P l.toArray C loud T (fun a w=>Q' .normal a w) 0 l a w.drew):(Code.region id l.toArray true).wpIn (Fw ro) m P Q' a w:=by
 simp only [Region.lexB,Bool.and_eq_true] at hB
 have hcl:Closed l.toArray (Array.replicate l.toArray.size false):=fun k o hk hlis=>by
  rw [getD_replicate_false] at hlis; cases hlis
 refine wpIn_region_any hm (G7 (C:=C) (loud:=loud) (T:=T) (n:=l.toArray.size) (Q:=fun a w=>Q' .normal a w) ro m (MX hb) (fun _ _ h=>h) _ _ _ _ hcl (by simp) ?_)
 have:=Rh (P:=P) (C:=C) (loud:=loud) (T:=T) (Q:=fun a w=>Q' .normal a w) (ops:=l.toArray) hB.1 hb l 0 (Array.replicate l.toArray.size false) a w.drew (by simp) (by simp) (by simpa using hB.2) hcl (by simp) (fun j hj=>by omega) h
 simpa using this
end
section rules
variable {P:Program}{Q:Exit->Act->World->Prop}{F:Frm}{l:List (Nat×Value)}{w:World}{ops:Array Oper}{rest:List Oper}{C:World->Prop}{loud:Nat->Bool}{T:Nat}
/-- The walk in a region that draws its order: quiet operations, loud ones, and a tail of loud ones (from T on) that may turn what the quiet ones read. -/
def WM (P:Program) (ops:Array Oper) (C:World->Prop) (loud:Nat->Bool) (T:Nat) (Q:Exit->Act->World->Prop) (k:Nat) (rest:List Oper) (F:Frm) (l:List (Nat×Value)) (w:World):Prop :=
 ∀ a,Ag F l a->Fk P ops C loud T (fun a w=>Q .normal a w) k rest a w
/-- The tail of such a region: the plain walk's rules. -/
def WT (P:Program) (ops:Array Oper) (C:World->Prop) (loud:Nat->Bool) (T:Nat) (Q:Exit->Act->World->Prop) (rest:List Oper) (F:Frm) (l:List (Nat×Value)) (w:World):Prop :=
 ∀ k,T<=k->(k<=T->C w)->(∀ j,k<=j->loud j=true)->WM P ops C loud T Q k rest F l w
instance:Uw P (WT P ops C loud T Q) where
 run:=fun hg hd hN h hk k hT hC hl a ha=>⟨hC,by
  rw [if_pos (by simp [Region.wanted,hg]),if_pos (hl k (Nat.le_refl _))]
  unfold Lw
  rw [ha.eval,h]
  dsimp only
  rw [hd]
  exact hk (k + 1) (by omega) (fun h=>absurd h (by omega)) (fun j hj=>hl j (by omega)) _ (ha.put hN _)⟩
 runNone:=fun hg hd h hk k hT hC hl a ha=>⟨hC,by
  rw [if_pos (by simp [Region.wanted,hg]),if_pos (hl k (Nat.le_refl _))]
  unfold Lw
  rw [ha.eval,h]
  dsimp only
  rw [hd]
  exact hk (k + 1) (by omega) (fun h=>absurd h (by omega)) (fun j hj=>hl j (by omega)) _ ha⟩
 skip:=fun hg hd h hk k hT hC hl a ha=>⟨hC,by
  rw [if_pos (by simp [Region.wanted,hg]),if_pos (hl k (Nat.le_refl _))]
  unfold Lw
  rw [ha.eval,h]
  dsimp only
  rw [hd]
  exact hk (k + 1) (by omega) (fun h=>absurd h (by omega)) (fun j hj=>hl j (by omega)) _ ha⟩
 enter:=fun hg hd hN hr h hk k hT hC hl a ha=>⟨hC,by
  rw [if_pos (by simp [Region.wanted,hg]),if_pos (hl k (Nat.le_refl _))]
  unfold Lw
  rw [ha.eval,hr]
  refine Ret.mono h fun v w' hS=>?_
  rw [hd]
  exact hk v w' hS (k + 1) (by omega) (fun h=>absurd h (by omega)) (fun j hj=>hl j (by omega)) _ (ha.put hN v)⟩
 enterNone:=fun hg hd hr h hk k hT hC hl a ha=>⟨hC,by
  rw [if_pos (by simp [Region.wanted,hg]),if_pos (hl k (Nat.le_refl _))]
  unfold Lw
  rw [ha.eval,hr]
  refine Ret.mono h fun v w' hS=>?_
  rw [hd]
  exact hk v w' hS (k + 1) (by omega) (fun h=>absurd h (by omega)) (fun j hj=>hl j (by omega)) _ ha⟩
end rules
def Oj (r:Nat):Deferred:={ target:= .collected r,args:=#[] }
/-- The deferred calls of a frame are marks of empty blocks, from block lo on, each below the one before. -/
def Mk (w:World) (lo:Nat):Nat->List Deferred->Prop
 | _,[]=>True
 | hi,d::D=>∃ r,lo<=r/\r < hi/\d=Oj r/\w.heap[r]? = some (.deferred (some []))/\Mk w lo r D
section
variable {w w':World}{lo hi:Nat}{D:List Deferred}{row:Option Nat}
theorem Mk.nil (w:World) (lo hi:Nat):Mk w lo hi []:=trivial
end
section leave
variable {P:Program}{fn:Func}{tmps:Array Value}{R:Ending->World->Prop}
end leave
section ret
variable {P:Program}{F:Frm}{l:List (Nat×Value)}{w:World}{fn:Func}{R:Ending->World->Prop}{lo hi:Nat}
end ret
/-- The record of a range over a function, in some state. -/
def Rec (st:LoopState) (F:Frm) (l:List (Nat×Value)) (ps:Array Tmp) (assign body:Code) (lp:Nat) (w:World):Prop :=
 ∃ r:Loop,w.heap[lp]? = some (.loop r)/\r.state=st/\r.pending=none/\r.params=ps/\r.assign=assign/\r.body=body/\r.tmps.size=F.N/\∀ t,r.tmps.getD t undef=fr l F.s t
section rec_
variable {st:LoopState}{F:Frm}{l:List (Nat×Value)}{ps:Array Tmp}{assign body:Code}{lp:Nat}{w w':World}{row:Option Nat}
theorem Rec.lt (h:Rec st F l ps assign body lp w):lp < w.heap.size:=by
 obtain ⟨r,h1,_⟩:=h
 rcases Nat.lt_or_ge lp w.heap.size with h | h
 ·exact h
 ·rw [Array.getElem?_eq_none h] at h1; cases h1
end rec_
section below
variable {w w':World}{B:Nat}
theorem Vw {α:Type}{r:Rep α}{e:TypeId}{lo hi:Nat}{v:Value}{xs:List α}(h:Bl r e w lo hi v xs) (hb:Below B w w') (hh:hi<=B):Bl r e w' lo hi v xs:=by
 obtain ⟨L,ho,hbd,hl,hr⟩:=h
 refine ⟨L,?_,hbd,hl,fun i u x hu hx=>r.kept (hr i u x hu hx) fun b hb' _=>hb.block b (by have:=hb'.1.2; omega)⟩
 refine ⟨ho.1,?_⟩
 rcases ho.2 with h0 | ⟨g,cap,cur,hv,hlo,hh',hrest⟩
 ·exact .inl h0
 ·refine .inr ⟨g,cap,cur,hv,hlo,(hb.block g ?_).trans hh',hrest⟩
  have:=hbd g (by rw [hv]; rfl)
  omega
theorem Bk.below {g:Nat}{t:TypeId}{cs:List Value}(h:Bk w g t cs) (hb:Below B w w') (hh:g < B):Bk w' g t cs:=(hb.block g hh).trans h
end below
/-- yield, called in world w, hands back true, and leaves what K says. -/
def Yd (P:Program) (lp:Nat) (vs:List Value) (w:World) (K:World->Prop):Prop :=
 ∃ r:Loop,w.heap[lp]? = some (.loop r)/\vs.toArray.size=r.params.size /\
  RoundIn (Fw none) 0 P lp r.fn ((r.params.zip vs.toArray).foldl (fun tmps (t,a)=>tmps.setIfInBounds t a) r.tmps) r.assign r.body w (fun e w'=>match e with | .returned v=>v = .bool true/\K w' | _=>False)
theorem Yd.mono {P:Program}{lp:Nat}{vs:List Value}{w:World}{K K':World->Prop}(h:Yd P lp vs w K) (hk:∀ w,K w->K' w):Yd P lp vs w K':=by
 obtain ⟨r,h1,h2,h3⟩:=h
 exact ⟨r,h1,h2,h3.mono fun e w' he=>by cases e <;> first | exact ⟨he.1,hk _ he.2⟩ | exact he⟩
section rules
variable {P:Program}{Q:Exit->Act->World->Prop}{F:Frm}{l:List (Nat×Value)}{w:World}{ops:Array Oper}{rest:List Oper}
variable {d:Nat}{ty t2:TypeId}{pos:String}{af:Array Edge}{x:Operand}
end rules
end Go.Proofs.YtdjhmdbpcfnpgaaGreatDoor
