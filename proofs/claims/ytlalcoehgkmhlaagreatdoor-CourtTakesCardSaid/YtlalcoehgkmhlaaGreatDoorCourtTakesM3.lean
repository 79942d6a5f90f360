/- Lemmas for the proof. -/
import Derived.Test.YtlalcoehgkmhlaaGreatDoorCourtTakesM1
import Derived.Test.YtlalcoehgkmhlaaGreatDoorCourtTakesM2
import Derived.OpenShut
import Derived.Test.YtlalcoehgkmhlaaGreatDoorCards
import Derived.Test.YtlalcoehgkmhlaaGreatDoorTie
import Derived.WalkKit
import Derived.ProofKit
import Derived.Deep.DeepHandedRow
import Derived.Lib.LaidTab
import Derived.Laws.BytesArg
set_option maxHeartbeats 4000000
set_option maxRecDepth 100000
namespace Go.Proofs.YtlalcoehgkmhlaaGreatDoor
open Go.RowKit Go.ChangeShapes Go.WideShapes Go.Deep
/-- What a reading of a value's cells says. -/
structure Rc {α:Type} (P:Program) (c:Cd α) (t:TypeId) (good:α->Prop):Prop where
 el:∀ a,elm (c.enc a).cel=c.enc a
 nc:∀ a,(c.enc a).nc=P.cellsOf t
 rd:∀ {H:Type} {enc:TypeId×Value->H} {w:World} {base:Nat} {spare:Nat->Bool} {held:Bool} {fuel:Nat} {cs:List Value} {x:DataW H×List MemPlace},DataW.trod enc P w base spare held fuel t cs=some x->(DataW.weights P t x.1).all (·<=reachBytes)=true->∃ a,VRs w (fun c=>c < w.heap.size) [] (c.enc a).cel cs/\cs.all Value.oneCell'=true/\good a
theorem Qr {P:Program}{t:TypeId}{k:IntKind}(ht:P.underlying t=some (.int k)) (hc:P.cellsOf t=1):Rc P (cdK k) t (fun n=>(Lit.int k n).wf=true):=⟨fun _=>rfl,fun _=>hc.symm,fun h _=>by
 obtain ⟨n,rfl,_,h3⟩:=DataW.trod_int ht h
 exact ⟨n,.cons (.v rfl) .nil,rfl,h3⟩⟩
theorem UM {P:Program}{t:TypeId}(ht:P.underlying t=some .bool) (hc:P.cellsOf t=1):Rc P cdB t (fun _=>True):=⟨fun _=>rfl,fun _=>hc.symm,fun h _=>by
 obtain ⟨b,rfl,_⟩:=DataW.trod_bool ht h
 exact ⟨b,.cons (.v rfl) .nil,rfl,trivial⟩⟩
/-- The fields of a struct, one behind the other. -/
structure Rf {α:Type} (P:Program) (s:Cs α) (l:List Field) (off:Nat) (good:α->Prop):Prop where
 rd:∀ {H:Type} {enc:TypeId×Value->H} {w:World} {base:Nat} {spare:Nat->Bool} {held:Bool} {n:Nat} {cs:List Value} {xs:List (DataW H×List MemPlace)},cs.length=off + l.length->xs.length=l.length ->
  (∀ (j:Nat) (f:Field),l[j]? = some f->DataW.trod enc P w base spare held n f.type ((cs.drop f.offset).take (P.cellsOf f.type))=xs[j]?)->(DataW.weightsEach P (l.map (·.type)) (xs.map (·.1))).all (·<=reachBytes)=true ->
  ∃ a,VRs w (fun c=>c < w.heap.size) [] (s.enc a) (cs.drop off)/\(cs.drop off).all Value.oneCell'=true/\good a
theorem MH {w:World}{Z:Nat->Prop}{R:List RI}{x:AV}{cs:List Value}(h1:x.cel=[x]) (h:VRs w Z R x.cel cs):∃ v,cs=[v]/\VR w Z R x v:=by
 rw [h1] at h
 obtain ⟨u,us,rfl,k1,k2⟩:=h.head
 have:us=[]:=by have:=k2.len; simpa using this
 subst this
 exact ⟨u,rfl,k1⟩
theorem WD {α:Type}{P:Program}{c:Cd α}{f:Field}{good:α->Prop}{off:Nat}(r:Rc P c f.type good) (ho:f.offset=off) (hc:P.cellsOf f.type=1) (h1:∀ a,(c.enc a).cel=[c.enc a]):Rf P (csE c) [f] off good:=⟨fun {H enc w base spare held n cs xs} hl hx ht hw=>by
 match xs,hx with
 | [y],_ =>
  have h0:=ht 0 f rfl
  rw [ho,hc,List.take_of_length_le (by simp at hl ⊢; omega)] at h0
  simp only [List.map_cons,List.map_nil,DataW.weightsEach,List.append_nil] at hw
  obtain ⟨a,k1,k2,k3⟩:=r.rd h0 hw
  obtain ⟨v,hv,k4⟩:=MH (h1 a) k1
  refine ⟨a,?_,k2,k3⟩
  rw [hv]
  exact .cons k4 .nil⟩
theorem OE {α β:Type}{P:Program}{c:Cd α}{s:Cs β}{f:Field}{l:List Field}{good:α->Prop}{good':β->Prop}{off:Nat}(r:Rc P c f.type good) (ho:f.offset=off) (hc:P.cellsOf f.type=1) (h1:∀ a,(c.enc a).cel=[c.enc a]) (q:Rf P s l (off + 1) good'):Rf P (csC c s) (f::l) off (fun x=>good x.1/\good' x.2):=⟨fun {H enc w base spare held n cs xs} hl hx ht hw=>by
 match xs,hx with
 | y::ys,hx =>
  have h0:=ht 0 f rfl
  rw [ho,hc] at h0
  simp only [List.map_cons,DataW.weightsEach,List.all_append,Bool.and_eq_true] at hw
  obtain ⟨a,k1,k2,k3⟩:=r.rd h0 hw.1
  obtain ⟨v,hv,k4⟩:=MH (h1 a) k1
  obtain ⟨b,q1,q2,q3⟩:=q.rd (cs:=cs) (xs:=ys) (by simp at hl ⊢; omega) (by simpa using hx) (fun j g hg=>by simpa using ht (j + 1) g (by simpa using hg)) hw.2
  have hd:cs.drop off=v::cs.drop (off + 1):=by
   have hlt:off < cs.length:=by simp at hl; omega
   rw [List.drop_eq_getElem_cons hlt] at hv ⊢
   rw [List.take_succ_cons,List.take_zero] at hv
   injection hv with hv
   rw [hv]
  refine ⟨(a,b),?_,?_,k3,q3⟩
  ·rw [hd]; exact .cons k4 q1
  ·rw [hd,List.all_cons,q2,Bool.and_true]
   rw [hv] at k2
   simpa using k2⟩
theorem Qs {α:Type}{P:Program}{s:Cs α}{t:TypeId}{fs:Array Field}{good:α->Prop}{hn:∀ x,(s.enc x).all LW=true}(ht:P.underlying t=some (.struct fs)) (hl:P.cellsOf t=fs.size) (hs:∀ a,(s.enc a).length=fs.size) (he:∀ a,elm (s.enc a) = .ag (s.enc a)) (r:Rf P s fs.toList 0 good):Rc P (cdA s hn) t good:=⟨fun a=>he a,fun a=>(hs a).trans hl.symm,fun {H enc w base spare held fuel cs x} h hw=>by
 obtain ⟨xs,n,_,rfl,hlc,hlx,hf⟩:=DataW.trod_struct ht h
 simp only [DataW.weights,ht] at hw
 obtain ⟨a,k1,k2,k3⟩:=r.rd (cs:=cs) (xs:=xs) (n:=n) (by rw [hlc,hl]; simp) (by simpa using hlx) (fun j f hj=>hf j f (by simpa using hj)) hw
 exact ⟨a,k1,k2,k3⟩⟩
theorem P2 {α:Type}{P:Program}{c:Cd α}{t e:TypeId}{good:α->Prop}{k:Nat}(ht:P.underlying t=some (.slice e)) (hct:P.cellsOf t=1) (hk:P.cellsOf e=k) (hk0:Nat.blt 0 k=true) (hb:Nat.blt 0 (P.bytesOf e)=true) (r:Rc P c e good):Rc P (cdL k c) t (fun xs=>xs.length<=140737488355328/\∀ a ∈ xs,good a):=⟨fun _=>rfl,fun _=>hct.symm,fun {H enc w base spare held fuel v x} h hw=>by
 rcases open_slice ht h with ⟨rfl,_⟩ | ⟨a,len,cap,m,n,D,Pl,rfl,h2,h3,h4,h5,hx,h6⟩
 ·exact ⟨[],.cons (.sl (us:=[]) rfl rfl (Nat.le_refl _) (by unfold maxLen; omega) (fun h=>by omega) (fun i x u hx=>by simp at hx)) .nil,rfl,by simp,fun a ha=>by cases ha⟩
 ·have hlm:len<=m:=by rw [h5]; split <;> omega
  rw [hx] at hw
  simp only [DataW.weights,ht,List.all_cons,List.all_append,Bool.and_eq_true,decide_eq_true_eq] at hw
  obtain ⟨hw1,hw2,_⟩:=hw
  have hb':0 < P.bytesOf e:=Nat.le_of_ble_eq_true hb
  have hk':0 < k:=Nat.le_of_ble_eq_true hk0
  have hlen:len<=140737488355328:=by
   have h7:(((List.range len).map D).length + ((List.range (m - len)).map fun j=>D (len + j)).length) * 1<=(((List.range len).map D).length + ((List.range (m - len)).map fun j=>D (len + j)).length) * P.bytesOf e:=Nat.mul_le_mul_left _ hb'
   have h8:reachBytes=140737488351232:=rfl
   simp only [List.length_map,List.length_range,Nat.mul_one] at h7 hw1
   omega
  have hwi:∀ i,i < len->(DataW.weights P e (D i)).all (·<=reachBytes)=true:=fun i hi=>by
   rw [List.all_eq_true] at hw2 ⊢
   exact fun n hn=>hw2 n (Od (List.mem_map.2 ⟨i,by simpa using hi,rfl⟩) n hn)
  obtain ⟨A,hAl,hA⟩:=T3 (n:=len) (p:=fun i (q:α×Value)=>VR w (fun c=>c < w.heap.size) [] (c.enc q.1) q.2/\good q.1/\q.2.cells.size=k/\(∀ z ∈ q.2.cells,z.oneCell'=true)/\∀ (j:Nat) (z:Value),q.2.cells[j]? = some z->w.cell? (a.add (i * k + j))=some z) (fun i hi=>by
   obtain ⟨cs',k1,k2⟩:=h6 i (by omega)
   obtain ⟨_,hl2,hcell⟩:=World.cells?_some k1
   obtain ⟨b,q1,q2,q3⟩:=r.rd k2 (hwi i hi)
   obtain ⟨u,u1,u2,_⟩:=q1.elm q2
   rw [r.el] at u1
   refine ⟨(b,u),u1,q3,?_,fun z hz=>?_,fun j z hz=>?_⟩
   ·rw [u2]; simp [hl2,hk]
   ·rw [u2] at hz
    exact List.all_eq_true.1 q2 z (by simpa using hz)
   ·rw [u2] at hz
    simp only [List.getElem?_toArray] at hz
    have hj:j < P.cellsOf e:=by have:=(List.getElem?_eq_some_iff.1 hz).1; omega
    have:=hcell j hj
    rw [Go.Deep.add_add,hk,hz] at this
    exact this)
  refine ⟨A.map (·.1),.cons ?_ .nil,rfl,by simp [hAl,hlen],fun q hq=>?_⟩
  ·refine .sl (us:=A.map (·.2)) (by simp [hAl]) (by simp) h3 h4 (fun h0=>?_) (fun i x u hx hu=>?_)
   ·obtain ⟨g1,g2,g3,g4,g5⟩:=hA 0 (A[0]'(by omega)) (List.getElem?_eq_getElem (by omega))
    have g6:=g5 0 _ (Array.getElem?_eq_getElem (by omega))
    have hs:=UY (by simpa using g6)
    refine ⟨a,rfl,hs,?_,fun i u hu=>?_⟩
    ·have:=g6
     unfold World.cell? at this
     split at this
     ·next hb=>have:=(Array.getElem?_eq_some_iff.1 hb).1; rw [show (a.add (0 * k + 0)).block=a.block by unfold Addr.add; split <;> rfl] at this; exact this
     ·cases this
    ·rw [List.getElem?_map] at hu
     obtain ⟨p,hp,rfl⟩:=Option.map_eq_some_iff.1 hu
     obtain ⟨_,_,q1,q2,q3⟩:=hA i p hp
     refine ⟨q1,q2,fun j z hz=>?_⟩
     have:=q3 j z hz
     obtain ⟨ab,ao,asp⟩:=a
     simp only at hs
     subst hs
     rw [Eu] at this
     exact this
   ·rw [List.getElem?_map,List.getElem?_map] at hx
    rw [List.getElem?_map] at hu
    obtain ⟨p,hp,rfl⟩:=Option.map_eq_some_iff.1 hx
    obtain ⟨p1,hp1,rfl⟩:=Option.map_eq_some_iff.1 hp
    obtain ⟨p2,hp2,rfl⟩:=Option.map_eq_some_iff.1 hu
    rw [hp1] at hp2
    injection hp2 with hp2
    subst hp2
    exact (hA i p1 hp1).1
  ·obtain ⟨i,hi⟩:=List.getElem?_of_mem hq
   rw [List.getElem?_map] at hi
   obtain ⟨p,hp,rfl⟩:=Option.map_eq_some_iff.1 hi
   exact (hA i p hp).2.1⟩
/-- An argument of one cell. -/
theorem WC {α:Type}{H:Type}{enc:TypeId×Value->H}{P:Program}{c:Cd α}{t:TypeId}{good:α->Prop}(r:Rc P c t good){w:World}{base:Nat}{spare:Nat->Bool}{held:Bool}{v:Value}{d:DataW H}{ps:List MemPlace}(ho:v.oneCell'=true) (h1:∀ a,(c.enc a).cel=[c.enc a]) (h:DataW.Trod enc P w base spare held t v d ps)
  {ts:List TypeId} {ds:List (DataW H)} (hs:(DataW.weightsEach P ts ds).all (·<=reachBytes)=true) {j:Nat} (ht:ts[j]? = some t) (hd:ds[j]? = some d):∃ a,VR w (fun c=>c < w.heap.size) [] (c.enc a) v/\good a:=by
 obtain ⟨fuel,hf⟩:=h
 rw [Py ho] at hf
 obtain ⟨a,k1,_,k2⟩:=r.rd hf (List.all_eq_true.2 fun n hn=>List.all_eq_true.1 hs n (DataW.weights_mem_each ht hd n hn))
 obtain ⟨u,hu,k3⟩:=MH (h1 a) k1
 injection hu with hu
 subst hu
 exact ⟨a,k3,k2⟩
/-- Kind, Among, Last, Names, N. -/
abbrev AE:Type:=Int×List UInt8×Bool×List (List UInt8)×Int
def U5:Cs AE:=csC (cdK .u8) (csC cdS (csC cdB (csC (cdL 1 cdS) (csE cdI))))
def AB:Cd AE:=cdA U5 (fun _=>rfl)
/-- Name, Rank, Court, Since, Side, Diet, Host, Access, Tongues. -/
abbrev Aq:Type:=List UInt8×List UInt8×List UInt8×Int×Int×List UInt8×Bool×Bool×List (List UInt8)
def Tf:Cs Aq:=csC cdS (csC cdS (csC cdS (csC cdI (csC cdI (csC cdS (csC cdB (csC cdB (csE (cdL 1 cdS)))))))))
def AH:Cd Aq:=cdA Tf (fun _=>rfl)
/-- A guest at a place. -/
abbrev AL:Type:=Aq×Int
def U6:Cs AL:=csG 9 Tf (fun _=>rfl) (csE cdI)
def AD:Cd AL:=cdA U6 (fun _=>rfl)
end Go.Proofs.YtlalcoehgkmhlaaGreatDoor
namespace Go.Proofs.YtlalcoehgkmhlaaGreatDoor
open Go.ChangeShapes Go.WideShapes Go.ChangeAt Go.RowKit
def V0 {H:Type}:DataW H->List Value
 | .lit (.int k n)=>[Value.int k n]
 | _=>[.bool false]
def X7 {H:Type}:DataW H->List Value
 | .agg xs=>xs.flatMap V0
 | x=>V0 x
def IP {H:Type}:DataW H->Array Value
 | .agg xs=>(xs.flatMap X7).toArray
 | _=>#[]
def L7 (vs:Array Value):Obj->Obj
 | .cells _ t frozen=> .cells vs t frozen
 | o=>o
noncomputable def N1 (os:Os):World :=
 { World.holding Tryz.prog os ⟨#[],#[],[]⟩ with heap:=(((((World.holding Tryz.prog os ⟨#[],#[],[]⟩).heap.modify 1 (L7 (IP (Rows.laid_internal_strconv_uint64pow10 (H:=Unit))))).modify 4 (L7 (IP (Rows.laid_math_bits_deBruijn32tab (H:=Unit))))).modify 5 (L7 (IP (Rows.laid_math_bits_deBruijn64tab (H:=Unit))))).modify 2 (L7 (IP Rows.laid_unicode_utf8_first))).modify 3 (L7 (IP (Rows.laid_unicode_utf8_acceptRanges (H:=Unit)))) }
theorem VZ:ownKnob Tryz.prog.godebug=none:=by kernel_rfl
theorem W4:laidOutB Tryz.prog=true:=by kernel_rfl
theorem LU {x:TypeId}{l:List TypeId}(p:TypeId->Bool) (h:l.all p=true) (hx:x ∈ l):p x=true:=List.all_eq_true.1 h x hx
def RunDY (E:Env) (ops:Array Oper) (n0 k:Nat) (rest:List Oper) (s:St) (K:St->Prop):Prop :=
 ∀ (base:Bs) (Q:Act->World->Prop) (w0:World) (Z:Nat->Prop) (R0:List RI) (h0:Hp) (a:Act) (w:World) (R:List RI),HR w0 Z R0 h0->n0=h0.length->EB ops<=ops.size->SR E base w Z R s a->w0.grownBy w none->Step w0 Z R0 h0 w Z R s.hp->(∀ (b:Nat) (B:Option Blk),h0[b]? = some B->s.hp[b]? = some B)->EB ops=Et rest k->k + rest.length=ops.size->(∀ j,rest[j]? = ops[k + j]?) ->
  (∀ s' a' w' Z' R',K s'->SR E base w' Z' R' s' a'->Step w0 Z R0 h0 w' Z' R' s'.hp->Q a' w')->H6 E.P ops (fun w'=>w0.grownBy w' none) (D1 ops (EB ops)) (EB ops) Q k rest a w
section
variable {E:Env}{cx:Cx}{ops:Array Oper}{pre rest rest':List Oper}{s s1:St}{K:St->Prop}{n n0 k:Nat}{l:List (Nat×AV)}{hp hp':Hp}{Q:Ex->St->Prop}{id:Nat}
theorem RunDY.done (hr:rest=[]) (kk:K s):RunDY E ops n0 k rest s K:=by
 subst hr
 exact fun base Q w0 Z R0 h0 a w R _ _ _ sr hgr st _ _ _ _ q=>⟨fun _=>hgr,q s a w Z R kk sr st⟩
theorem KD (hE:EnvOk E):∀ {pre:List Oper}{s:St}{k:Nat},(pre.all fun o=>!isW o.op)=true->opsD E (evC E 0) ⟨none,false⟩ ops n0 pre s=some s1->RunDY E ops n0 (k + pre.length) rest s1 K->RunDY E ops n0 k (pre++rest) s K
 | [],s,k,_,e,kk=>by injection e with e; subst e; exact kk
 | o::pre,s,k,hp,e,kk=>by
  intro base Q w0 Z R0 h0 a w R hh0 hn0 hT sr hgr st hpre hTk hlen hops q
  simp only [List.all_cons,Bool.and_eq_true,Bool.not_eq_true'] at hp
  obtain ⟨hW,hp⟩:=hp
  have hok:ops[k]? = some o:=by have:=hops 0; simpa using this.symm
  have hops':∀ j,(pre++rest)[j]? = ops[k + 1 + j]?:=fun j=>by have:=hops (j + 1); simpa [Nat.add_assoc,Nat.add_comm 1 j] using this
  have hk1:k + 1 + pre.length=k + (o::pre).length:=by simp; omega
  have kk':RunDY E ops n0 (k + 1 + pre.length) rest s1 K:=by rw [hk1]; exact kk
  have hlen':k + 1 + (pre++rest).length=ops.size:=by simp at hlen ⊢; omega
  have hTk':EB ops=Et (pre++rest) (k + 1):=by
   rw [hTk]
   show Et (o::(pre++rest)) k=_
   conv=>lhs; unfold Et; rw [if_neg (by rw [hW]; simp)]
  have hkT:¬ EB ops<=k:=by have:=Kh (pre++rest) (k + 1); omega
  show H6 E.P ops _ _ _ Q k (o::(pre++rest)) a w
  refine ⟨fun _=>hgr,?_⟩
  unfold opsD at e
  rw [if_neg (by rw [hW]; simp)] at e
  split at e
  ·cases e
  ·next hw =>
   rw [if_neg (by rw [wantedA_eq sr hw]; simp)]
   exact KD hE hp e kk' base Q w0 Z R0 h0 _ w R hh0 hn0 hT (sr.put undef_vr) hgr st hpre hTk' hlen' hops' q
  ·next hw =>
   rw [if_pos (wantedA_eq sr hw)]
   have hρ:∀ o x,opA E s.fr o=some x->VR w Z R x (a.eval o):=fun o x e=>opA_vr sr o x e
   split at e
   ·next x hx =>
    split at e
    ·next hld =>
     have hq:=N0 hx
     rw [if_neg (by rw [KX hok hq hkT]; simp)]
     obtain ⟨u,hu,hrun⟩:=evOpQ_sound sr.hh hρ hx
     have hquiet:∃ u,VR w Z R x u/\QuietAt E.P (Cf (fun w'=>w0.grownBy w' none) o) o u a:=by
      cases hl:Qj o.op with
      | false=>exact ⟨u,hu,fun w' _=>hrun w' fun h=>by rw [hl] at h; cases h⟩
      | true =>
       obtain ⟨u1,hu1,hq1⟩:=IF hh0 sr hgr st hpre hl (by rw [<-hn0]; exact hld) hx
       exact ⟨u1,hu1,hq1.up (LR hl)⟩
     obtain ⟨u,hu,hquiet⟩:=hquiet
     exact ⟨u,hquiet,KD hE hp e kk' base Q w0 Z R0 h0 _ w R hh0 hn0 hT (sr.put hu) hgr st hpre hTk' hlen' hops' q⟩
    ·cases e
   ·split at e
    ·next x h' hx =>
     have hq:=Iz hx
     rw [if_pos (FS hok hq)]
     obtain ⟨u,w',R',h1,h2,h3,h4,h5⟩:=evOpN_sound hρ sr.hh hx
     exact LE h1 (KD hE hp e kk' base Q w0 Z R0 h0 _ w' R' hh0 hn0 hT ((sr.step h2 h4).put h3) (ER hgr h5) (st.trans h4) (fun b B hb=>JS hx (hpre b B hb)) hTk' hlen' hops' q)
    ·split at e
     ·next f args tys ho =>
      split at e
      ·next fv xs hf hxs =>
       split at e
       ·next r hr =>
        obtain ⟨x,h'⟩:=r
        have hq:isQ o.op=false:=by rw [ho]; rfl
        rw [if_pos (FS hok hq)]
        obtain ⟨g,uf,uc,hva,hcl,hret⟩:=GE hE (code_sound hE 0).1 (hρ _ _ hf) (opds_vr hρ hxs) sr.hh sr.gl hr
        unfold Lw
        rw [Fu (uf:=uf) (uc:=uc) ho hva rfl hcl w]
        refine Ret.mono hret fun v w' hS=>?_
        obtain ⟨hg1,R',k1,k2,k3⟩:=hS
        exact KD hE hp e kk' base Q w0 Z R0 h0 _ w' R' hh0 hn0 hT ((sr.step k1 k3).put k2) (ER hgr hg1) (st.trans k3) (fun b B hb=>KJ hr (hpre b B hb)) hTk' hlen' hops' q
       ·cases e
      ·cases e
     ·cases e
theorem RunDY.one (hE:EnvOk E){o:Oper}(hr:rest=o::rest') (hW:isW o.op=false) (h:opsD E (evC E 0) ⟨none,false⟩ ops n0 [o] s=some s1) (kk:RunDY E ops n0 (k + 1) rest' s1 K):RunDY E ops n0 k rest s K:=by
 subst hr
 exact KD (k:=k) hE (pre:=[o]) (by simp [hW]) h kk
end
theorem KH {g:AV->Option AV}:∀ {xs:List AV},(∀ x ∈ xs,g x=some x)->Ou g xs=some xs
 | [],_=>rfl
 | x::xs,h=>by
  unfold Ou
  rw [h x (by simp),KH fun y hy=>h y (List.mem_cons_of_mem _ hy)]
theorem MB {h:Hp}{x:AV}(hn:GT x=true):∀ n,GN h n x=some x
 | 0=>by
  have:LW x=true:=by cases x <;> first | exact hn | (simp [GT] at hn)
  unfold GN
  rw [if_pos this]
 | n + 1=>by
  cases x <;> first | (simp [GT] at hn; done) | (unfold GN; rfl)
theorem Q4 {h:Hp}{x:AV}(hn:LW x=true) (n:Nat):GN h (n + 1) x=some x:=by
 cases x with
 | fn f p q =>
  simp only [LW,Bool.and_eq_true] at hn
  show (match Ou (GN h n) p,Ou (GN h n) q with | some p,some q=>some (AV.fn f p q) | _,_=>none)=_
  rw [KH (g:=GN h n) fun y hy=>MB (List.all_eq_true.1 hn.1 y hy) n,KH (g:=GN h n) fun y hy=>MB (List.all_eq_true.1 hn.2 y hy) n]
 | _ =>
  refine MB ?_ (n + 1)
  exact hn
theorem Ki {h:Hp}{x:AV}(hn:Dg x=true) (n:Nat):GN h (n + 2) x=some x:=by
 cases x with
 | ag cs =>
  show (Ou (GN h (n + 1)) cs).map AV.ag=_
  rw [KH (g:=GN h (n + 1)) fun y hy=>Q4 (List.all_eq_true.1 hn y hy) n]; rfl
 | _ =>
  refine Q4 ?_ (n + 1)
  exact hn
/-- What a call sees of an argument. -/
def Sm {α:Type}(n:Nat) (h:Hp) (c:Cd α) (x:AV) (v:α):Prop:=∃ y,GN h n x=some y/\c.dec y=some v
def Sl {α:Type}(n:Nat) (h:Hp) (s:Cs α) (xs:List AV) (a:α):Prop:=∃ ys,Ou (GN h n) xs=some ys/\s.dec ys=some a
section
variable {α β:Type}{n b k:Nat}{h:Hp}{c:Cd α}{t:TypeId}
theorem Ay {v:α}:Sm (n + 2) h c (c.enc v) v:=⟨_,Ki (c.nr v) n,c.de v⟩
theorem Sm.e0:Sm n h (cdL k c) .e0 []:=⟨.e0,MB rfl n,rfl⟩
theorem ZY {xs:List α}(hb:h[b]? = some (some ⟨k,t,xs.map c.enc,false⟩)):Sm (n + 3) h (cdL k c) (.rf b 0 xs.length xs.length) xs:=by
 refine ⟨.sl k (xs.map c.enc),?_,(cdL k c).de xs⟩
 unfold GN
 simp only [hb]
 rw [if_pos (by simp),List.drop_zero,List.take_of_length_le (by simp),KH]
 ·rfl
 ·intro y hy
  obtain ⟨z,_,rfl⟩:=List.mem_map.1 hy
  exact Ki (c.nr z) n
theorem Sm.rf {xs:List α}{m q:Nat}(hb:h[b]? = some (some ⟨k,t,xs.map c.enc,false⟩)) (hm:m<=xs.length):Sm (n + 3) h (cdL k c) (.rf b 0 m q) (xs.take m):=by
 refine ⟨.sl k ((xs.take m).map c.enc),?_,(cdL k c).de _⟩
 unfold GN
 simp only [hb]
 rw [if_pos (by simp; omega),List.drop_zero,<-List.map_take,KH]
 ·rfl
 ·intro y hy
  obtain ⟨z,_,rfl⟩:=List.mem_map.1 hy
  exact Ki (c.nr z) n
theorem Sm.hd {xs:List α}(hb:h[b]? = some (mk k t (xs.map c.enc))):Sm (n + 3) h (cdL k c) (hd b (xs.map c.enc)) xs:=by
 cases xs with
 | nil=>exact .e0
 | cons x xs =>
  have:=ZY (n:=n) (c:=c) (xs:=x::xs) (b:=b) (k:=k) hb
  simpa [Go.Proofs.YtlalcoehgkmhlaaGreatDoor.hd] using this
theorem Sm.pt {y:AV}{v:α}{fz:Bool}(hb:h[b]? = some (some ⟨k,t,[y],fz⟩)) (hy:Sm n h c y v):Sm (n + 1) h (cdP c) (.pt b 0 0) v:=by
 obtain ⟨z,h1,h2⟩:=hy
 refine ⟨.pe z 0,?_,h2⟩
 unfold GN
 simp only [hb,List.getElem?_cons_zero]
 rw [h1]; rfl
theorem CB:Sl n h csN [] ():=⟨[],rfl,rfl⟩
theorem AY {s:Cs β}{x:AV}{xs:List AV}{v:α}{a:β}(h1:Sm n h c x v) (h2:Sl n h s xs a):Sl n h (csC c s) (x::xs) (v,a):=by
 obtain ⟨y,k1,k2⟩:=h1
 obtain ⟨ys,q1,q2⟩:=h2
 refine ⟨y::ys,?_,?_⟩
 ·unfold Ou; rw [k1,q1]
 ·show ((c.dec y).bind fun x=>(s.dec ys).map fun y=>(x,y))=_
  rw [k2,q2]; rfl
theorem Pc {x:AV}{v:α}(h1:Sm n h c x v):Sl n h (csE c) [x] v:=by
 obtain ⟨y,k1,k2⟩:=h1
 exact ⟨[y],by unfold Ou Ou; rw [k1],k2⟩
theorem Sm.ag {s:Cs α}{hn:∀ x,(s.enc x).all LW=true}{xs:List AV}{a:α}(h1:Sl n h s xs a):Sm (n + 1) h (cdA s hn) (.ag xs) a:=by
 obtain ⟨ys,k1,k2⟩:=h1
 refine ⟨.ag ys,?_,k2⟩
 show (Ou (GN h n) xs).map AV.ag=_
 rw [k1]; rfl
end
/-- A closure of a given function. -/
def cdF {α:Type}(f:FuncId) (s:Cs α) (hn:∀ x,(s.enc x).all GT=true):Cd α where
 enc x:= .fn f [] (s.enc x)
 dec a:=match a with
  | .fn g [] q=>if g=f then s.dec q else none
  | _=>none
 de x:=by simp [s.de]
 vr:=fun {w Z a x u} hd hv=>by
  split at hd
  ·split at hd
   ·next e =>
    subst e
    cases hv with
    | fn hl hl' hx hy =>
     have:=s.vr hd ⟨hl',hy⟩
     exact .fn hl this.len hx this.at_
   ·cases hd
  ·cases hd
 nr x:=by simp [Dg,LW,hn]
theorem Sm.fn {α:Type}{n:Nat}{h:Hp}{f:FuncId}{s:Cs α}{hn:∀ x,(s.enc x).all GT=true}{q:List AV}{a:α}(h1:Sl n h s q a):Sm (n + 1) h (cdF f s hn) (.fn f [] q) a:=by
 obtain ⟨ys,k1,k2⟩:=h1
 refine ⟨.fn f [] ys,?_,?_⟩
 ·show (match Ou (GN h n) [],Ou (GN h n) q with | some p,some q=>some (AV.fn f p q) | _,_=>none)=_
  rw [k1]; rfl
 ·show (if f=f then s.dec ys else none)=_
  rw [if_pos rfl]; exact k2
section
variable {E:Env}{cx:Cx}{ops:Array Oper}{rest rest':List Oper}{K:St->Prop}{n n0 k:Nat}{l:List (Nat×AV)}{hp:Hp}{α β:Type}{s:Cs α}{F:α->Option β}{er:β->AV}{u:α}{v:β}{fid:FuncId}{w:World}{Z:Nat->Prop}{R:List RI}
/-- A told call, in a world. -/
theorem Za (hX:XOk fid (Ee s F er)) (hh:HR w Z R hp) (hg:GI E0 w Z){xs:List AV}{us:List Value}(hvs:VRs w Z R xs us) (hv:Sl 12 hp s xs u) (hok:EA (er v)=true\/xs.all Dg=true) (hF:F u=some v) :
  Ret E0.P fid us.toArray w fun x w'=>∃ Z',HR w' Z' R hp/\VR w' Z' R (er v) x/\Step w Z R hp w' Z' R hp/\w.grownBy w' none/\(EA (er v)=true->Z'=Z):=by
 obtain ⟨ys,h1,h2⟩:=hv
 by_cases hf:EA (er v)=true
 ·have hz1:∀ c,(Z c\/own R hp c)->c < w.heap.size:=fun c hc=>hc.elim (hh.zlt c) (fun ⟨b,B,r,h1,_,h3,h4⟩=>h4 ▸ hh.rltL h1 h3)
  have hg1:GI E0 w (fun c=>Z c\/own R hp c):=fun q y hy=>(hg q y hy).mono (fun _ _=>rfl) (fun _ h=> .inl h) (fun _ _ h=>h)
  refine Ret.mono (hX.2 ys (er v) (Jl h2 hF) w _ us hz1 hg1 (allV_vr (K3 hh 12) hvs h1)) fun x w' ⟨hs,hx⟩=>?_
  exact ⟨Z,hh.keep hs.size (fun c hc=>hs.block c hc (by simp)),MY hf hx,⟨hs.os,hs.tape,hs.output,hs.size,fun c hc _=>hs.block c hc (by simp),fun _ h=> .inl h,fun _ h=>h,fun _ h=> .inl h,fun _ _ h=>h⟩,hs,fun _=>rfl⟩
 ·have hn:=hok.resolve_left hf
  have e:xs=ys:=OI ((KH fun y hy=>Ki (List.all_eq_true.1 hn y hy) 10).symm.trans h1)
  subst e
  refine Ret.mono (hX.2 xs (er v) (Jl h2 hF) w Z us hh.zlt hg (Px hn hvs)) fun x w' ⟨hs,hx⟩=>?_
  obtain ⟨k1,k2⟩:=hh.addZ hs
  exact ⟨_,k1,hx.up,k2,hs,fun h=>absurd h hf⟩
/-- .. at an operation. -/
theorem Z9 (hP:E.P=E0.P) (hG:E.G=E0.G){caps xs:List AV}{d:Option Nat}{f:Operand}{args:Array Operand}{tys:Array TypeId}{ty:TypeId}{pos:String}{af:Array Edge}{g:Option (Nat×Bool)}{base:Bs}{a:Act}(hX:XOk fid (Ee s F er)) (sr:SR E base w Z R ⟨Fr n l,hp⟩ a)
  (hf:opA E (Fr n l) f=some (.fn fid [] caps)) (ha:Ij (opA E (Fr n l)) args.toList=some xs) (hv:Sl 12 hp s (xs++caps) u) (hok:EA (er v)=true\/(xs++caps).all Dg=true) (hF:F u=some v) {Q:Act->World->Prop}
  (kk:∀ x w' Z',HR w' Z' R hp->VR w' Z' R (er v) x->Step w Z R hp w' Z' R hp->w.grownBy w' none->(EA (er v)=true->Z'=Z)->SR E base w' Z' R ⟨Fr n l,hp⟩ a->Q (a.put d x) w'):Lw E.P ⟨d,.call ⟨.value f,args,tys⟩,ty,pos,af,g⟩ a w Q:=by
 have hρ:∀ o x,opA E (Fr n l) o=some x->VR w Z R x (a.eval o):=fun o x e=>opA_vr sr o x e
 have hvf:=hρ _ _ hf
 have hva:∃ uc:List Value,a.eval f = .func (.func fid) #[] uc.toArray/\VRs w Z R caps uc:=by
  generalize a.eval f=vf at hvf
  cases hvf with
  | fn hl hl' hx hy =>
   rename_i u1 u2
   have e1:u1=[]:=by simpa using hl
   subst e1
   exact ⟨u2,rfl,hl',hy⟩
 obtain ⟨uc,hva,huc⟩:=hva
 have hcl:B8 E.P fid:=hP ▸ hX.1
 unfold Lw
 rw [Fu (uf:=[]) (uc:=uc) rfl hva rfl hcl w]
 have hret:=Za hX sr.hh (by have:=sr.gl; exact fun q y hy=>this q y (by rw [hG]; exact hy)) ((opds_vr hρ ha).append huc) hv hok hF
 rw [<-hP] at hret
 simp only [List.nil_append]
 refine Ret.mono hret fun x w' ⟨Z',k1,k2,k3,k4,k5⟩=>?_
 exact kk x w' Z' k1 k2 k3 k4 k5 (sr.step k1 k3)
theorem A1 (hP:E.P=E0.P) (hG:E.G=E0.G) (hX:XOk fid (Ee s F er)){caps xs:List AV}{d:Nat}{f:Operand}{args:Array Operand}{tys:Array TypeId}{ty:TypeId}{pos:String}{af:Array Edge}{g:Option (Nat×Bool)}(hr:rest=⟨some d,.call ⟨.value f,args,tys⟩,ty,pos,af,g⟩::rest') (hw:CF ops (Fr n l) ⟨some d,.call ⟨.value f,args,tys⟩,ty,pos,af,g⟩=some true)
  (hf:opA E (Fr n l) f=some (.fn fid [] caps)) (ha:Ij (opA E (Fr n l)) args.toList=some xs) (hv:Sl 12 hp s (xs++caps) u) (hok:EA (er v)=true\/(xs++caps).all Dg=true) (hF:F u=some v) (kk:RunS E ops rest' ⟨Fr n ((d,er v)::l),hp⟩ K):RunS E ops rest ⟨Fr n l,hp⟩ K:=by
 subst hr
 intro base Q a w Z R sr q
 refine Jj rfl (wantedA_eq sr hw) (Z9 hP hG hX sr hf ha hv hok hF fun x w' Z' k1 k2 k3 k4 k5 sr'=>?_)
 refine kk base Q _ w' Z' R ?_ fun s' a' w'' Z'' R'' hK sr'' st'=>q s' a' w'' Z'' R'' hK sr'' (k3.w.trans st')
 have:=sr'.put (d:=some d) k2
 rwa [DW] at this
/-- In a region that draws its order; what is handed back is flat. -/
theorem CT (hP:E.P=E0.P) (hG:E.G=E0.G) (hX:XOk fid (Ee s F er)){caps xs:List AV}{d:Nat}{f:Operand}{args:Array Operand}{tys:Array TypeId}{ty:TypeId}{pos:String}{af:Array Edge}{g:Option (Nat×Bool)}(hr:rest=⟨some d,.call ⟨.value f,args,tys⟩,ty,pos,af,g⟩::rest') (hw:CF ops (Fr n l) ⟨some d,.call ⟨.value f,args,tys⟩,ty,pos,af,g⟩=some true)
  (hf:opA E (Fr n l) f=some (.fn fid [] caps)) (ha:Ij (opA E (Fr n l)) args.toList=some xs) (hv:Sl 12 hp s (xs++caps) u) (hok:EA (er v)=true) (hF:F u=some v) (kk:RunDS E ops n0 (k + 1) rest' ⟨Fr n ((d,er v)::l),hp⟩ K):RunDS E ops n0 k rest ⟨Fr n l,hp⟩ K:=by
 subst hr
 intro base Q w0 Z R0 h0 a w R hh0 hn0 hT sr hgr st hpre hTk hlen hops q
 have hok':ops[k]? = some ⟨some d,.call ⟨.value f,args,tys⟩,ty,pos,af,g⟩:=by have:=hops 0; simpa using this.symm
 have hops':∀ j,rest'[j]? = ops[k + 1 + j]?:=fun j=>by have:=hops (j + 1); simpa [Nat.add_assoc,Nat.add_comm 1 j] using this
 have hlen':k + 1 + rest'.length=ops.size:=by simp at hlen ⊢; omega
 have hTk':EB ops=Et rest' (k + 1):=by
  rw [hTk]
  conv=>lhs; unfold Et; rw [if_neg (by simp [isW])]
 refine ⟨fun _=>hgr,?_⟩
 rw [if_pos (wantedA_eq sr hw)]
 have hq:isQ (.call ⟨.value f,args,tys⟩:Op)=false:=rfl
 rw [if_pos (FS hok' hq)]
 refine Z9 hP hG hX sr hf ha hv (.inl hok) hF fun x w' Z' k1 k2 k3 k4 k5 sr'=>?_
 have e:=k5 hok
 subst e
 exact kk base Q w0 Z' R0 h0 _ w' R hh0 hn0 hT (by have:=sr'.put (d:=some d) k2; rwa [DW] at this) (ER hgr k4) (st.trans k3) hpre hTk' hlen' hops' q
/-- What is left of a region that draws its order, of which nothing is read any more. -/
def RunDZ (E:Env) (ops:Array Oper) (k:Nat) (rest:List Oper) (s:St) (K:St->Prop):Prop :=
 ∀ (base:Bs) (Q:Act->World->Prop) (w0:World) (Z:Nat->Prop) (a:Act) (w:World) (R:List RI),EB ops<=ops.size->SR E base w Z R s a->w0.grownBy w none->EB ops=Et rest k->k + rest.length=ops.size->(∀ j,rest[j]? = ops[k + j]?) ->
  (∀ s' a' w' Z' R',K s'->SR E base w' Z' R' s' a'->StepW w Z R s.hp w' Z' R' s'.hp->Q a' w')->H6 E.P ops (fun w'=>w0.grownBy w' none) (D1 ops (EB ops)) (EB ops) Q k rest a w
/-- From now on nothing is read. -/
theorem RunDS.z {s:St}(kk:RunDZ E ops k rest s K):RunDS E ops n0 k rest s K :=
 fun base Q w0 Z _ _ a w R _ _ hT sr hgr st _ hTk hlen hops q=>kk base Q w0 Z a w R hT sr hgr hTk hlen hops fun s' a' w' Z' R' hK sr' st'=>q s' a' w' Z' R' hK sr' (st.w.trans st')
theorem RunDZ.done {s:St}(hr:rest=[]) (kk:K s):RunDZ E ops k rest s K:=by
 subst hr
 exact fun base Q w0 Z a w R _ sr hgr _ _ _ q=>⟨fun _=>hgr,q s a w Z R kk sr (StepW.refl _ _ _ _)⟩
theorem RunDZ.tail {s:St}{o:Oper}(hr:rest=o::rest') (hW:isW o.op=true) (h:RunS E ops rest s K):RunDZ E ops k rest s K:=by
 subst hr
 intro base Q w0 Z a w R hT sr hgr hTk hlen hops q
 have hTk':EB ops=k:=by rw [hTk]; unfold Et; rw [if_pos hW]
 exact KY (h base Q a w Z R sr fun s' a' w' Z' R' hK sr' st'=>q s' a' w' Z' R' hK sr' st') (by omega) (fun _=>hgr) (fun j hj=>Kv (by omega)) hops
theorem KE (hE:EnvOk E):∀ {pre:List Oper}{s s1:St}{k:Nat},(pre.all fun o=>!isW o.op&&!Qj o.op)=true->opsD E (evC E 0) ⟨none,false⟩ ops n0 pre s=some s1->RunDZ E ops (k + pre.length) rest s1 K->RunDZ E ops k (pre++rest) s K
 | [],s,s1,k,_,e,kk=>by injection e with e; subst e; exact kk
 | o::pre,s,s1,k,hp,e,kk=>by
  intro base Q w0 Z a w R hT sr hgr hTk hlen hops q
  simp only [List.all_cons,Bool.and_eq_true,Bool.not_eq_true'] at hp
  obtain ⟨⟨hW,hLd⟩,hp⟩:=hp
  have hok:ops[k]? = some o:=by have:=hops 0; simpa using this.symm
  have hops':∀ j,(pre++rest)[j]? = ops[k + 1 + j]?:=fun j=>by have:=hops (j + 1); simpa [Nat.add_assoc,Nat.add_comm 1 j] using this
  have hk1:k + 1 + pre.length=k + (o::pre).length:=by simp; omega
  have kk':RunDZ E ops (k + 1 + pre.length) rest s1 K:=by rw [hk1]; exact kk
  have hp':(pre.all fun o=>!isW o.op&&!Qj o.op)=true:=by simpa using hp
  have hlen':k + 1 + (pre++rest).length=ops.size:=by simp at hlen ⊢; omega
  have hTk':EB ops=Et (pre++rest) (k + 1):=by
   rw [hTk]
   show Et (o::(pre++rest)) k=_
   conv=>lhs; unfold Et; rw [if_neg (by rw [hW]; simp)]
  have hkT:¬ EB ops<=k:=by have:=Kh (pre++rest) (k + 1); omega
  show H6 E.P ops _ _ _ Q k (o::(pre++rest)) a w
  refine ⟨fun _=>hgr,?_⟩
  unfold opsD at e
  rw [if_neg (by rw [hW]; simp)] at e
  split at e
  ·cases e
  ·next hw =>
   rw [if_neg (by rw [wantedA_eq sr hw]; simp)]
   exact KE hE hp' e kk' base Q w0 Z _ w R hT (sr.put undef_vr) hgr hTk' hlen' hops' q
  ·next hw =>
   rw [if_pos (wantedA_eq sr hw)]
   have hρ:∀ o x,opA E s.fr o=some x->VR w Z R x (a.eval o):=fun o x e=>opA_vr sr o x e
   split at e
   ·next x hx =>
    split at e
    ·have hq:=N0 hx
     rw [if_neg (by rw [KX hok hq hkT]; simp)]
     obtain ⟨u,hu,hrun⟩:=evOpQ_sound sr.hh hρ hx
     exact ⟨u,(fun w' _=>hrun w' fun h=>by rw [hLd] at h; cases h),KE hE hp' e kk' base Q w0 Z _ w R hT (sr.put hu) hgr hTk' hlen' hops' q⟩
    ·cases e
   ·split at e
    ·next x h' hx =>
     have hq:=Iz hx
     rw [if_pos (FS hok hq)]
     obtain ⟨u,w',R',h1,h2,h3,h4,h5⟩:=evOpN_sound hρ sr.hh hx
     exact LE h1 (KE hE hp' e kk' base Q w0 Z _ w' R' hT ((sr.step h2 h4).put h3) (ER hgr h5) hTk' hlen' hops' fun s' a' w'' Z'' R'' hK sr'' st'=>q s' a' w'' Z'' R'' hK sr'' (h4.w.trans st'))
    ·split at e
     ·next f args tys ho =>
      split at e
      ·next fv xs hf hxs =>
       split at e
       ·next r hr =>
        obtain ⟨x,h'⟩:=r
        have hq:isQ o.op=false:=by rw [ho]; rfl
        rw [if_pos (FS hok hq)]
        obtain ⟨g,uf,uc,hva,hcl,hret⟩:=GE hE (code_sound hE 0).1 (hρ _ _ hf) (opds_vr hρ hxs) sr.hh sr.gl hr
        unfold Lw
        rw [Fu (uf:=uf) (uc:=uc) ho hva rfl hcl w]
        refine Ret.mono hret fun v w' hS=>?_
        obtain ⟨hg1,R',k1,k2,k3⟩:=hS
        exact KE hE hp' e kk' base Q w0 Z _ w' R' hT ((sr.step k1 k3).put k2) (ER hgr hg1) hTk' hlen' hops' fun s' a' w'' Z'' R'' hK sr'' st'=>q s' a' w'' Z'' R'' hK sr'' (k3.w.trans st')
       ·cases e
      ·cases e
     ·cases e
theorem RunDZ.one (hE:EnvOk E){s s1:St}{o:Oper}(hr:rest=o::rest') (hW:(!isW o.op&&!Qj o.op)=true) (h:opsD E (evC E 0) ⟨none,false⟩ ops n0 [o] s=some s1) (kk:RunDZ E ops (k + 1) rest' s1 K):RunDZ E ops k rest s K:=by
 subst hr
 exact KE (k:=k) hE (pre:=[o]) (by simpa using hW) h kk
end
/-- A function, entered: from what its body does; the interpreter need not take it. -/
theorem SZ {E:Env}{c:Code}{Q:Ex->St->Prop}{f:FuncId}{fn:Func}{args:List AV}{h:Hp}(hff:E.P.funcs[f]? = some fn) (hc:fn.body=some c) (hle:args.length<=fn.ntmps)
  (hb:Sem E ⟨none,false⟩ c ⟨args.map some++List.replicate (fn.ntmps - args.length) (some (.tp [])),h⟩ fun e s=>(e = .normal\/e = .ret)/\∃ xs,Es E.P s.fr s.hp fn.results.toList=some xs/\Q .ret ⟨[some (FG xs)],s.hp⟩)
  {w:World} {Z:Nat->Prop} {R:List RI} {us:List Value} (hh:HR w Z R h) (hv:VRs w Z R args us) (hg:GI E w Z) :
  Ret E.P f us.toArray w fun v w'=>∃ Z' R' x h',Q .ret ⟨[some x],h'⟩/\HR w' Z' R' h'/\VR w' Z' R' x v/\StepW w Z R h w' Z' R' h':=by
 refine callsIn_wide.1 (callsIn_of_wp_marks (F:=Fw none) (n:=0) hff hc trivial ?_)
 have hul:us.length=args.length:=hv.len
 have hsr:SR E (.of w.heap.size) w Z R ⟨args.map some++List.replicate (fn.ntmps - args.length) (some (.tp [])),h⟩ { tmps:=us.toArray++Array.replicate (fn.ntmps - us.toArray.size) undef,defers:=[] }:=by
  refine ⟨hh,⟨by simp [hul],fun t x hx=>?_⟩,rfl,hg,Nat.le_refl _⟩
  have e0:us.toArray++Array.replicate (fn.ntmps - us.toArray.size) undef=(us++List.replicate (fn.ntmps - us.length) undef).toArray:=by simp
  rw [e0,Array.getD_eq_getD_getElem?,List.getElem?_toArray]
  by_cases ht:t < args.length
  ·rw [List.getElem?_append_left (by simpa using ht),List.getElem?_map] at hx
   rw [List.getElem?_append_left (by omega)]
   cases hat:args[t]? with
   | none=>rw [hat] at hx; cases hx
   | some q =>
    rw [hat] at hx
    have hx:=OI (OI hx)
    subst hx
    obtain ⟨u,hu1,hu2⟩:=hv.get hat
    rw [hu1]; exact hu2
  ·rw [List.getElem?_append_right (by simp; omega),List.getElem?_replicate] at hx
   split at hx
   ·next hlt =>
    have hx:=OI (OI hx)
    subst hx
    rw [List.getElem?_append_right (by omega),List.getElem?_replicate,if_pos (by rw [hul]; simpa using hlt)]
    exact .tp (us:=[]) rfl (fun i x u hx=>by simp at hx)
   ·cases hx
 refine hb none (.of w.heap.size) _ _ w Z R (fun _=>rfl) hsr rfl fun e s' a' w' Z' R' hQ sr' st=>?_
 obtain ⟨hex,xs,hxs,hq⟩:=hQ
 have hl:=IE (base:= .of w.heap.size) rfl (E:=E) (w:=w') (a:=a') (fn:=fn) (S:=fun v w''=>∃ Z' R' x h',Q .ret ⟨[some x],h'⟩/\HR w'' Z' R' h'/\VR w'' Z' R' x v/\StepW w Z R h w'' Z' R' h') hxs (fun w'' u g1 g2 g3 g4 g5 g6 g7=>⟨Z',R',_,_,hq,g6,g7,⟨g2.trans st.os,g3.trans st.tape,g4.trans st.output,by rw [g1]; exact st.size,fun c hc hn=>(g5 c hc).trans (st.block c hc hn),st.own_,st.z,st.z'⟩⟩) (D:=a'.defers) (w1:=w') sr' rfl rfl rfl rfl (fun _ _=>rfl)
 rcases hex with rfl | rfl
 ·exact hl
 ·exact hl
/-- A contract out of what the body does. -/
theorem Ad {f:FuncId}{fn:Func}{c:Code}(hf:E0.P.funcs[f]? = some fn) (hc:fn.body=some c) (hcall:B8 E0.P f){α β:Type}(s:Cs α) (F:α->Option β) (er:β->AV) (hle:∀ a,(s.enc a).length<=fn.ntmps) (hnr:∀ b,Yi (er b)=true)
  (sem:∀ a b,F a=some b->Sem E0 ⟨none,false⟩ c ⟨Fr fn.ntmps (BQ 0 (s.enc a)),[]⟩ fun e s'=>(e = .normal\/e = .ret)/\∃ xs,Es E0.P s'.fr s'.hp fn.results.toList=some xs/\FG xs=er b) :
  XOk f (Ee s F er):=by
 refine ⟨hcall,fun xs x h w Z us hz hg hv=>?_⟩
 obtain ⟨a,ha,h⟩:=OB h
 obtain ⟨b,hb,rfl⟩:=Option.map_eq_some_iff.1 h
 have hh:HR w Z [] []:=⟨rfl,fun b B hB=>by simp at hB,fun b b' B B' r r' hB=>by simp at hB,hz⟩
 refine Ret.mono (SZ hf hc (hle a) (Q:=fun _ s=>s.fr=[some (er b)]) (Sem.mono (CK (Wk.enter (hle a)) (sem a b hb)) fun e s' hs=>?_) hh (s.vr ha hv) hg) fun v w' hS=>?_
 ·obtain ⟨h1,xs,h2,h3⟩:=hs
  exact ⟨h1,xs,h2,by rw [h3]⟩
 ·obtain ⟨Z',R',x,h',hQ,k1,k2,st⟩:=hS
  have hx:x=er b:=by simpa using hQ
  subst hx
  refine ⟨⟨st.os,st.tape,st.output,st.size,fun c hc _=>st.block c hc (fun ⟨b,B,r,hb,_⟩=>by simp at hb)⟩,(VT (hnr b) k2).mono (fun _ _=>rfl) (fun c hc=>?_) (fun _ _ h=>h)⟩
  rcases st.z' c hc with h1 | ⟨b,B,r,hb,_⟩ | h1
  ·exact .inl h1
  ·simp at hb
  ·exact .inr ⟨h1,k1.zlt c hc⟩
/-- A block that a call made is given up. -/
theorem SOk.kill {f:FuncId}{ys:List AV}{Out Out2:AV->Hp->Prop}(b:Nat) (hs:SOk f ys Out) (h:∀ x h',Out x h'->Out2 x (h'.set b none)):SOk f ys Out2 :=
 ⟨hs.1,fun w Z us hz hg hv=>Ret.mono (hs.2 w Z us hz hg hv) fun v w' ⟨Z',R',x,h',hO,h1,h2,st⟩ =>
  let ⟨k1,k2⟩:=h1.kill b
  ⟨Z',R',x,h'.set b none,h x h' hO,k1,h2,st.trans k2.w⟩⟩
/-- How a Lean value is held by an abstract value and own blocks (the list tells which). -/
structure Oc (α:Type) where
 cd:Cd α
 at_:Hp->AV->α->List Nat->Prop
 loc:∀ {h h':Hp} {e:AV} {x:α} {F:List Nat},at_ h e x F->(∀ b ∈ F,h'[b]? = h[b]?)->at_ h' e x F
 own:∀ {h:Hp} {e:AV} {x:α} {F:List Nat} {b:Nat},at_ h e x F->b ∈ F->∃ B,h[b]? = some (some B)/\B.fz=false
 vr:∀ {w:World} {Z:Nat->Prop} {R:List RI} {h:Hp} {e:AV} {x:α} {F:List Nat} {u:Value},HR w Z R h->at_ h e x F->VR w Z R e u->VR w (fun c=>Z c\/∃ b ∈ F,∃ r,R[b]? = some r/\c=r.c) [] (cd.enc x) u
/-- A part of a heap. -/
structure Asn where
 at_:Hp->List Nat->Prop
 loc:∀ {h h':Hp} {F:List Nat},at_ h F->(∀ b ∈ F,h'[b]? = h[b]?)->at_ h' F
 own:∀ {h:Hp} {F:List Nat} {b:Nat},at_ h F->b ∈ F->∃ B,h[b]? = some (some B)/\B.fz=false
def TF (h:Hp):List Asn->List Nat->Prop
 | [],F=>F=[]
 | P::L,F=>∃ F1 F2,F=F1++F2/\P.at_ h F1/\TF h L F2
/-- The assertions hold of different blocks. -/
def T (h:Hp) (L:List Asn):Prop:=∃ F,TF h L F/\F.Nodup
theorem Ib {h:Hp}{b:Nat}{o:Option Blk}(e:h[b]? = some o):b < h.length:=(List.getElem?_eq_some_iff.1 e).1
theorem TF.loc {h h':Hp}:∀ {L:List Asn}{F:List Nat},TF h L F->(∀ b ∈ F,h'[b]? = h[b]?)->TF h' L F
 | [],_,e,_=>e
 | _::_,_,⟨F1,F2,e,p,q⟩,k=>⟨F1,F2,e,Asn.loc _ p (fun b hb=>k b (by rw [e]; exact List.mem_append_left _ hb)),TF.loc q fun b hb=>k b (by rw [e]; exact List.mem_append_right _ hb)⟩
theorem TF.own {h:Hp}:∀ {L:List Asn}{F:List Nat}{b:Nat},TF h L F->b ∈ F->∃ B,h[b]? = some (some B)/\B.fz=false
 | [],_,_,e,hb=>by rw [show _=[] from e] at hb; cases hb
 | _::_,_,_,⟨F1,F2,e,p,q⟩,hb=>by
  rw [e] at hb
  rcases List.mem_append.1 hb with hb | hb
  ·exact Asn.own _ p hb
  ·exact TF.own q hb
theorem TF.lt {h:Hp}{L:List Asn}{F:List Nat}{b:Nat}(t:TF h L F) (hb:b ∈ F):b < h.length:=let ⟨_,e,_⟩:=t.own hb; Ib e
theorem Asn.lt {P:Asn}{h:Hp}{F:List Nat}{b:Nat}(t:P.at_ h F) (hb:b ∈ F):b < h.length:=let ⟨_,e,_⟩:=P.own t hb; Ib e
theorem TF.front {h:Hp}{P:Asn}:∀ {i:Nat}{L:List Asn}{F:List Nat},TF h L F->L[i]? = some P->∃ F',TF h (P::L.eraseIdx i) F'/\F'.Perm F
 | _,[],_,_,e=>by simp at e
 | 0,Q::L,F,t,e=>by
  simp at e; subst e
  exact ⟨F,t,List.Perm.refl _⟩
 | i + 1,Q::L,F,⟨F1,F2,e0,p,q⟩,e=>by
  obtain ⟨F',⟨G1,G2,e1,p1,q1⟩,hp⟩:=TF.front q (by simpa using e)
  subst e0 e1
  refine ⟨G1++(F1++G2),⟨G1,_,rfl,p1,F1,G2,rfl,p,q1⟩,?_⟩
  have h1:(G1++(F1++G2)).Perm (F1++(G1++G2)):=by
   rw [<-List.append_assoc,<-List.append_assoc]
   exact List.Perm.append_right _ List.perm_append_comm
  exact h1.trans (List.Perm.append_left _ hp)
theorem T.front {h:Hp}{L:List Asn}{P:Asn}(i:Nat) (t:T h L) (e:L[i]? = some P):T h (P::L.eraseIdx i) :=
 let ⟨_,t1,hn⟩:=t; let ⟨F',t2,hp⟩:=t1.front e; ⟨F',t2,hp.nodup_iff.2 hn⟩
theorem Fl {F1 F2:List Nat}:(F1++F2).Nodup↔F1.Nodup/\F2.Nodup/\∀ a ∈ F1,a ∉ F2:=by
 rw [List.nodup_append]
 constructor
 ·rintro ⟨h1,h2,h3⟩
  exact ⟨h1,h2,fun a ha hb=>h3 a ha a hb rfl⟩
 ·rintro ⟨h1,h2,h3⟩
  exact ⟨h1,h2,fun a ha b hb e=>h3 a ha (e ▸ hb)⟩
/-- The first assertion turns into another; the rest is as it was. -/
theorem T.act {h:Hp}{P:Asn}{L:List Asn}(t:T h (P::L)):∃ F,P.at_ h F/\F.Nodup/\(∀ (h':Hp) (P':Asn) (F':List Nat),P'.at_ h' F'->F'.Nodup->(∀ b,b ∉ F->b < h.length->h'[b]? = h[b]?)->(∀ b ∈ F',b ∈ F\/h.length<=b)->T h' (P'::L))/\∀ h':Hp,(∀ b,b ∉ F->b < h.length->h'[b]? = h[b]?)->T h' L:=by
 obtain ⟨F,⟨F1,F2,rfl,p,q⟩,hn⟩:=t
 obtain ⟨n1,n2,n3⟩:=Fl.1 hn
 have hq:∀ h':Hp,(∀ b,b ∉ F1->b < h.length->h'[b]? = h[b]?)->TF h' L F2:=fun h' hs=>q.loc fun b hb=>hs b (fun hb1=>n3 b hb1 hb) (q.lt hb)
 refine ⟨F1,p,n1,fun h' P' F' p' hn' hs hb=>⟨F'++F2,⟨F',F2,rfl,p',hq h' hs⟩,Fl.2 ⟨hn',n2,fun a ha ha2=>?_⟩⟩,fun h' hs=>⟨F2,hq h' hs,n2⟩⟩
 rcases hb a ha with h1 | h1
 ·exact n3 a h1 ha2
 ·have:=q.lt ha2; omega
theorem T.drop {h:Hp}{P:Asn}{L:List Asn}(t:T h (P::L)):T h L:=let ⟨_,_,_,_,k⟩:=t.act; k h fun _ _ _=>rfl
/-- New blocks, a new assertion. -/
theorem T.add {h h':Hp}{P:Asn}{L:List Asn}{F:List Nat}(t:T h L) (p:P.at_ h' F) (hn:F.Nodup) (hs:∀ b,b < h.length->h'[b]? = h[b]?) (hb:∀ b ∈ F,h.length<=b):T h' (P::L):=by
 obtain ⟨F2,q,n2⟩:=t
 exact ⟨F++F2,⟨F,F2,rfl,p,q.loc fun b hb=>hs b (q.lt hb)⟩,Fl.2 ⟨hn,n2,fun a ha ha2=>by have:=hb a ha; have:=q.lt ha2; omega⟩⟩
theorem T.grow {h h':Hp}{L:List Asn}(t:T h L) (hs:∀ b,b < h.length->h'[b]? = h[b]?):T h' L:=let ⟨F,q,n⟩:=t; ⟨F,q.loc fun b hb=>hs b (q.lt hb),n⟩
theorem T.nil {h:Hp}:T h []:=⟨[],rfl,List.nodup_nil⟩
/-- Two assertions as one. -/
def AAQ (P Q:Asn):Asn where
 at_ h F:=∃ F1 F2,F=F1++F2/\P.at_ h F1/\Q.at_ h F2
 loc:=fun ⟨F1,F2,e,p,q⟩ k=>⟨F1,F2,e,P.loc p (fun b hb=>k b (by rw [e]; exact List.mem_append_left _ hb)),Q.loc q fun b hb=>k b (by rw [e]; exact List.mem_append_right _ hb)⟩
 own:=fun ⟨F1,F2,e,p,q⟩ hb=>by
  rw [e] at hb
  rcases List.mem_append.1 hb with hb | hb
  ·exact P.own p hb
  ·exact Q.own q hb
theorem T.join {h:Hp}{P Q:Asn}{L:List Asn}:T h (P::Q::L)↔T h (AAQ P Q::L):=by
 constructor
 ·rintro ⟨F,⟨F1,F2,rfl,p,⟨G1,G2,rfl,q,r⟩⟩,hn⟩
  exact ⟨_,⟨F1++G1,G2,(List.append_assoc _ _ _).symm,⟨F1,G1,rfl,p,q⟩,r⟩,hn⟩
 ·rintro ⟨F,⟨F1,F2,rfl,⟨G1,G2,rfl,p,q⟩,r⟩,hn⟩
  exact ⟨_,⟨G1,G2++F2,List.append_assoc _ _ _,p,G2,F2,rfl,q,r⟩,hn⟩
/-- An own value. -/
def own_ {α:Type}(o:Oc α) (e:AV) (x:α):Asn:=⟨fun h F=>o.at_ h e x F,o.loc,o.own⟩
/-- A cell of its own (a variable that closures hold, a struct with an address). -/
def cel (p:AV) (k:Nat) (t:TypeId) (a:AV):Asn where
 at_ h F:=∃ b,p = .pt b 0 0/\F=[b]/\h[b]? = some (some ⟨k,t,[a],false⟩)
 loc:=fun ⟨b,e1,e2,e3⟩ k=>⟨b,e1,e2,(k b (by rw [e2]; simp)).trans e3⟩
 own:=fun ⟨b,e1,e2,e3⟩ hb=>by
  rw [e2] at hb
  simp at hb
  subst hb
  exact ⟨_,e3,rfl⟩
/-- A value as it is. -/
def ocV {α:Type}(c:Cd α):Oc α where
 cd:=c
 at_ _ e x F:=e=c.enc x/\F=[]
 loc h _:=h
 own h hb:=by rw [h.2] at hb; cases hb
 vr:=fun {w Z R h e x F u} _ ha hv=>by
  rw [ha.1] at hv
  exact (I0 (c.nr x) hv).mono (fun _ _=>rfl) (fun _ h=> .inl h) (fun _ _ h=>h)
section
variable {α:Type}{p p':AV->α->List Nat->Prop}
def All3 (p:AV->α->List Nat->Prop):List AV->List α->List Nat->Prop
 | [],[],F=>F=[]
 | e::es,x::xs,F=>∃ F1 F2,F=F1++F2/\p e x F1/\All3 p es xs F2
 | _,_,_=>False
def All3h (p:AV->α->List Nat->Prop):Nat->AV->List AV->List α->List Nat->Prop
 | 0,e',e::es,_::xs,F=>e=e'/\All3 p es xs F
 | j + 1,e',e::es,x::xs,F=>∃ F1 F2,F=F1++F2/\p e x F1/\All3h p j e' es xs F2
 | _,_,_,_,_=>False
theorem All3.len:∀ {es:List AV}{xs:List α}{F:List Nat},All3 p es xs F->es.length=xs.length
 | [],[],_,_=>rfl
 | _::_,_::_,_,⟨_,_,_,_,h⟩=>by simp [All3.len h]
 | [],_::_,_,h=>h.elim
 | _::_,[],_,h=>h.elim
theorem All3.mono:∀ {es:List AV}{xs:List α}{F:List Nat},All3 p es xs F->(∀ e x F',(∀ b ∈ F',b ∈ F)->p e x F'->p' e x F')->All3 p' es xs F
 | [],[],_,h,_=>h
 | _::_,_::_,_,⟨F1,F2,e,h1,h2⟩,k=>⟨F1,F2,e,k _ _ F1 (fun b hb=>by rw [e]; exact List.mem_append_left _ hb) h1,h2.mono fun e' x F' hF=>k e' x F' fun b hb=>by rw [e]; exact List.mem_append_right _ (hF b hb)⟩
 | [],_::_,_,h,_=>h.elim
 | _::_,[],_,h,_=>h.elim
theorem All3h.mono:∀ {j:Nat}{e':AV}{es:List AV}{xs:List α}{F:List Nat},All3h p j e' es xs F->(∀ e x F',(∀ b ∈ F',b ∈ F)->p e x F'->p' e x F')->All3h p' j e' es xs F
 | 0,_,_::_,_::_,_,⟨h1,h2⟩,k=>⟨h1,h2.mono k⟩
 | _ + 1,_,_::_,_::_,_,⟨F1,F2,e,h1,h2⟩,k=>⟨F1,F2,e,k _ _ F1 (fun b hb=>by rw [e]; exact List.mem_append_left _ hb) h1,h2.mono fun e' x F' hF=>k e' x F' fun b hb=>by rw [e]; exact List.mem_append_right _ (hF b hb)⟩
 | 0,_,[],_,_,h,_=>by unfold All3h at h; exact h.elim
 | 0,_,_::_,[],_,h,_=>by unfold All3h at h; exact h.elim
 | _ + 1,_,[],_,_,h,_=>by unfold All3h at h; exact h.elim
 | _ + 1,_,_::_,[],_,h,_=>by unfold All3h at h; exact h.elim
theorem All3.get:∀ {es:List AV}{xs:List α}{F:List Nat}{i:Nat}{x:α},All3 p es xs F->xs[i]? = some x->∃ e Fi,es[i]? = some e/\p e x Fi/\∀ b ∈ Fi,b ∈ F
 | _::_,_::_,_,0,_,⟨F1,F2,e,h1,h2⟩,hx=>by
  simp at hx; subst hx
  exact ⟨_,F1,rfl,h1,fun b hb=>by rw [e]; exact List.mem_append_left _ hb⟩
 | _::_,_::_,_,i + 1,_,⟨F1,F2,e,h1,h2⟩,hx=>by
  obtain ⟨e',Fi,k1,k2,k3⟩:=h2.get (i:=i) (by simpa using hx)
  exact ⟨e',Fi,by simpa using k1,k2,fun b hb=>by rw [e]; exact List.mem_append_right _ (k3 b hb)⟩
 | [],[],_,_,_,_,hx=>by simp at hx
 | [],_::_,_,_,_,h,_=>h.elim
 | _::_,[],_,_,_,h,_=>h.elim
theorem All3.hole:∀ {es:List AV}{xs:List α}{F:List Nat}{i:Nat}{x:α},All3 p es xs F->xs[i]? = some x->∃ e' Fi F',es[i]? = some e'/\p e' x Fi/\All3h p i e' es xs F'/\(Fi++F').Perm F
 | _::_,_::_,_,0,_,⟨F1,F2,e,h1,h2⟩,hx=>by
  simp at hx; subst hx
  exact ⟨_,F1,F2,rfl,h1,⟨rfl,h2⟩,e ▸ List.Perm.refl _⟩
 | _::_,_::_,_,i + 1,_,⟨F1,F2,e,h1,h2⟩,hx=>by
  obtain ⟨e',Fi,F',k1,k2,k3,k4⟩:=h2.hole (i:=i) (by simpa using hx)
  refine ⟨e',Fi,F1++F',by simpa using k1,k2,⟨F1,F',rfl,h1,k3⟩,?_⟩
  rw [e]
  have:(Fi++(F1++F')).Perm (F1++(Fi++F')):=by
   rw [<-List.append_assoc,<-List.append_assoc]
   exact List.Perm.append_right _ List.perm_append_comm
  exact this.trans (List.Perm.append_left _ k4)
 | [],[],_,_,_,_,hx=>by simp at hx
 | [],_::_,_,_,_,h,_=>h.elim
 | _::_,[],_,_,_,h,_=>h.elim
theorem All3h.fill {e'':AV}{y:α}{Fi:List Nat}(hp:p e'' y Fi):∀ {j:Nat}{e':AV}{es:List AV}{xs:List α}{F':List Nat},All3h p j e' es xs F'->∃ F,All3 p (es.set j e'') (xs.set j y) F/\F.Perm (Fi++F')
 | 0,_,_::_,_::_,F',⟨_,h2⟩=>⟨Fi++F',⟨Fi,F',rfl,hp,h2⟩,List.Perm.refl _⟩
 | _ + 1,_,_::_,_::_,_,⟨F1,F2,e,h1,h2⟩=>by
  obtain ⟨F,k1,k2⟩:=All3h.fill hp h2
  refine ⟨F1++F,⟨F1,F,rfl,h1,k1⟩,?_⟩
  rw [e]
  refine (List.Perm.append_left F1 k2).trans ?_
  rw [<-List.append_assoc,<-List.append_assoc]
  exact List.Perm.append_right _ List.perm_append_comm
 | 0,_,[],_,_,h=>by unfold All3h at h; exact h.elim
 | 0,_,_::_,[],_,h=>by unfold All3h at h; exact h.elim
 | _ + 1,_,[],_,_,h=>by unfold All3h at h; exact h.elim
 | _ + 1,_,_::_,[],_,h=>by unfold All3h at h; exact h.elim
theorem All3h.at_:∀ {j:Nat}{e':AV}{es:List AV}{xs:List α}{F':List Nat},All3h p j e' es xs F'->es[j]? = some e'/\es.length=xs.length/\j < xs.length
 | 0,_,_::_,_::_,_,⟨h1,h2⟩=>⟨by simp [h1],by simp [h2.len],by simp⟩
 | _ + 1,_,_::_,_::_,_,⟨_,_,_,_,h2⟩=>by
  obtain ⟨k1,k2,k3⟩:=h2.at_
  exact ⟨by simpa using k1,by simp [k2],by simp; omega⟩
 | 0,_,[],_,_,h=>by unfold All3h at h; exact h.elim
 | 0,_,_::_,[],_,h=>by unfold All3h at h; exact h.elim
 | _ + 1,_,[],_,_,h=>by unfold All3h at h; exact h.elim
 | _ + 1,_,_::_,[],_,h=>by unfold All3h at h; exact h.elim
theorem All3.append:∀ {es:List AV}{xs:List α}{F:List Nat}{es':List AV}{xs':List α}{F':List Nat},All3 p es xs F->All3 p es' xs' F'->All3 p (es++es') (xs++xs') (F++F')
 | [],[],_,_,_,_,h,h'=>by rw [show _=[] from h]; exact h'
 | _::_,_::_,_,_,_,_,⟨F1,F2,e,h1,h2⟩,h'=>⟨F1,_,by rw [e,List.append_assoc],h1,h2.append h'⟩
 | [],_::_,_,_,_,_,h,_=>h.elim
 | _::_,[],_,_,_,_,h,_=>h.elim
theorem All3.mem:∀ {es:List AV}{xs:List α}{F:List Nat}{b:Nat},All3 p es xs F->b ∈ F->∃ e x F',p e x F'/\b ∈ F'
 | [],[],_,_,h,hb=>by rw [show _=[] from h] at hb; cases hb
 | _::_,_::_,_,_,⟨F1,F2,e,h1,h2⟩,hb=>by
  rw [e] at hb
  rcases List.mem_append.1 hb with hb | hb
  ·exact ⟨_,_,F1,h1,hb⟩
  ·exact h2.mem hb
 | [],_::_,_,_,h,_=>h.elim
 | _::_,[],_,_,h,_=>h.elim
theorem All3h.mem:∀ {j:Nat}{e':AV}{es:List AV}{xs:List α}{F:List Nat}{b:Nat},All3h p j e' es xs F->b ∈ F->∃ e x F',p e x F'/\b ∈ F'
 | 0,_,_::_,_::_,_,_,⟨_,h2⟩,hb=>h2.mem hb
 | _ + 1,_,_::_,_::_,_,_,⟨F1,F2,e,h1,h2⟩,hb=>by
  rw [e] at hb
  rcases List.mem_append.1 hb with hb | hb
  ·exact ⟨_,_,F1,h1,hb⟩
  ·exact h2.mem hb
 | 0,_,[],_,_,_,h,_=>by unfold All3h at h; exact h.elim
 | 0,_,_::_,[],_,_,h,_=>by unfold All3h at h; exact h.elim
 | _ + 1,_,[],_,_,_,h,_=>by unfold All3h at h; exact h.elim
 | _ + 1,_,_::_,[],_,_,h,_=>by unfold All3h at h; exact h.elim
end
/-- Leaves. -/
theorem KB {α:Type}{c:Cd α}{h:Hp}:∀ {xs:List α},All3 ((ocV c).at_ h) (xs.map c.enc) xs []
 | []=>rfl
 | _x::_=>⟨[],[],rfl,⟨rfl,rfl⟩,KB⟩
theorem All3.leaf_inv {α:Type}{c:Cd α}{h:Hp}:∀ {es:List AV}{xs:List α}{F:List Nat},All3 ((ocV c).at_ h) es xs F->es=xs.map c.enc/\F=[]
 | [],[],_,e=>⟨rfl,e⟩
 | _::_,_::_,_,⟨F1,F2,e,h1,h2⟩=>by
  obtain ⟨k1,k2⟩:=h2.leaf_inv
  exact ⟨by rw [k1,h1.1]; rfl,by rw [e,h1.2,k2]; rfl⟩
 | [],_::_,_,h=>h.elim
 | _::_,[],_,h=>h.elim
/-- An own slice of own values. -/
def ocL {α:Type}(k:Nat) (t:TypeId) (o:Oc α):Oc (List α) where
 cd:=cdL k o.cd
 at_ h e xs F:=(e = .e0/\xs=[]/\F=[])\/∃ b es F',e = .rf b 0 xs.length xs.length/\h[b]? = some (some ⟨k,t,es,false⟩)/\F=b::F'/\All3 (o.at_ h) es xs F'
 loc:=fun {h h' e x F} ha k=>by
  rcases ha with h1 | ⟨b,es,F',h1,h2,h3,h4⟩
  ·exact .inl h1
  ·subst h3
   exact .inr ⟨b,es,F',h1,(k b (by simp)).trans h2,rfl,h4.mono fun e x G hG h5=>o.loc h5 fun c hc=>k c (List.mem_cons_of_mem _ (hG c hc))⟩
 own:=fun {h e x F b} ha hb=>by
  rcases ha with ⟨_,_,h1⟩ | ⟨b',es,F',h1,h2,h3,h4⟩
  ·rw [h1] at hb; cases hb
  ·subst h3
   rcases List.mem_cons.1 hb with rfl | hb
   ·exact ⟨_,h2,rfl⟩
   ·obtain ⟨e,x,G,k1,k2⟩:=h4.mem hb
    exact o.own k1 k2
 vr:=fun {w Z R h e xs F u} hh ha hv=>by
  rcases ha with ⟨rfl,rfl,rfl⟩ | ⟨b,es,F',rfl,h2,rfl,h4⟩
  ·cases hv
   exact .sl (us:=[]) rfl rfl (Nat.le_refl _) (by unfold maxLen; omega) (fun h=>by omega) (fun i x u hx=>by simp at hx)
  ·obtain ⟨r,arr,us,g1,g2,g3,g4,g5,g6,g7,g8,g9,g10⟩:=hh.blk b _ h2
   have hl:=h4.len
   cases hv with
   | rf hr' q0 q1 q2 q3 =>
    rename_i c r'
    rw [g1] at hr'
    injection hr' with hr'
    subst hr'
    have hul:us.length=es.length:=g9.len
    refine .sl (us:=us) (by simp) (by simp; omega) (by omega) (by omega) (fun _=>⟨⟨r.c,0 * r.k,none⟩,rfl,rfl,.inr ⟨b,by simp,r,g1,rfl⟩,fun i u hu=>?_⟩) (fun i x u hx hu=>?_)
    ·obtain ⟨k1,k2,k3⟩:=g10 i u hu
     refine ⟨k1,k2,fun j q hq=>?_⟩
     have:=k3 j q hq
     rw [Nat.zero_mul,Nat.zero_add]
     simp only [World.cell?,g3]
     simpa using this
    ·rw [List.getElem?_map] at hx
     obtain ⟨y,hy,rfl⟩:=Option.map_eq_some_iff.1 hx
     obtain ⟨e,Fi,k1,k2,k3⟩:=h4.get hy
     have hvi:=g9.at_ i e u k1 hu
     exact (o.vr hh k2 hvi).mono (fun _ _=>rfl) (fun c hc=>hc.imp_right fun ⟨b',hb',hr⟩=>⟨b',List.mem_cons_of_mem _ (k3 b' hb'),hr⟩) (fun _ _ h=>h)
/-- What may be laid in a cell of k cells. -/
def Fit {α:Type}(o:Oc α) (k:Nat):Prop:=∀ (h:Hp) (e:AV) (x:α) (F:List Nat),o.at_ h e x F->e.nc=k/\e.notTp=true/\elm e.cel=e
theorem TX (e:AV):e.cel.length=e.nc:=by cases e <;> rfl
theorem Pp {α:Type}{c:Cd α}{k:Nat}(h:∀ x,(c.enc x).nc=k/\(c.enc x).notTp=true/\elm (c.enc x).cel=c.enc x):Fit (ocV c) k:=fun _ e x _ hx=>by
 rw [hx.1]; exact h x
theorem Wm {α:Type}{o:Oc α}{k:Nat}{t:TypeId}:Fit (ocL k t o) 1:=fun h e x F hx=>by
 rcases hx with ⟨rfl,_,_⟩ | ⟨b,es,F',rfl,_⟩
 ·exact ⟨rfl,rfl,rfl⟩
 ·exact ⟨rfl,rfl,rfl⟩
theorem All3.fit {α:Type}{o:Oc α}{k:Nat}(hf:Fit o k){h:Hp}:∀ {es:List AV}{xs:List α}{F:List Nat},All3 (o.at_ h) es xs F->∀ e ∈ es,e.nc=k/\e.notTp=true/\elm e.cel=e
 | [],[],_,_,e,he=>by cases he
 | _::_,_::_,_,⟨F1,F2,_,h1,h2⟩,e,he=>by
  rcases List.mem_cons.1 he with rfl | he
  ·exact hf _ _ _ _ h1
  ·exact h2.fit hf e he
 | [],_::_,_,h,_,_=>h.elim
 | _::_,[],_,h,_,_=>h.elim
/-- .. of which one element is held elsewhere. -/
def YQ {α:Type}(k:Nat) (t:TypeId) (o:Oc α) (e:AV) (xs:List α) (j:Nat) (e':AV) (x0:α):Asn where
 at_ h F:=∃ b es F',e = .rf b 0 xs.length xs.length/\h[b]? = some (some ⟨k,t,es,false⟩)/\F=b::F'/\All3h (o.at_ h) j e' es xs F'/\(e'.nc=k/\elm e'.cel=e')/\xs[j]? = some x0
 loc:=fun {h h' F} ⟨b,es,F',h1,h2,h3,h4,h5⟩ k=>by
  subst h3
  exact ⟨b,es,F',h1,(k b (by simp)).trans h2,rfl,h4.mono fun e x G hG h5=>o.loc h5 fun c hc=>k c (List.mem_cons_of_mem _ (hG c hc)),h5⟩
 own:=fun {h F b} ⟨b',es,F',h1,h2,h3,h4,_⟩ hb=>by
  subst h3
  rcases List.mem_cons.1 hb with rfl | hb
  ·exact ⟨_,h2,rfl⟩
  ·obtain ⟨e,x,G,k1,k2⟩:=h4.mem hb
   exact o.own k1 k2
/-- The address of an element. -/
def eAt:AV->Nat->AV
 | .rf b lo _ _,i=> .pt b (lo + i) 0
 | x,_=>x
def P1:AV->Nat->AV
 | .pt b i o,n=> .pt b i (o + n)
 | x,_=>x
section
variable {α:Type}{o:Oc α}{k j:Nat}{t:TypeId}{e e':AV}{xs:List α}{x y:α}{h:Hp}{L:List Asn}{c:Cd α}
theorem T.e0 {k:Nat}{ty:TypeId}(t:T h L):T h (own_ (ocL k ty o) .e0 []::L):=t.add (F:=[]) (.inl ⟨rfl,rfl,rfl⟩) List.nodup_nil (fun _ _=>rfl) (fun _ h=>by cases h)
/-- An element is held apart. -/
theorem T.focus (hf:Fit o k) (ht:T h (own_ (ocL k t o) e xs::L)) (hx:xs[j]? = some x):∃ e',T h (own_ o e' x::YQ k t o e xs j e' x::L):=by
 obtain ⟨F,⟨F1,F2,rfl,p,q⟩,hn⟩:=ht
 rcases p with ⟨_,rfl,_⟩ | ⟨b,es,F',h1,h2,rfl,h4⟩
 ·simp at hx
 ·obtain ⟨e',Fi,F'',k1,k2,k3,k4⟩:=h4.hole hx
  refine ⟨e',Fi++((b::F'')++F2),⟨Fi,_,rfl,k2,_,F2,rfl,⟨b,es,F'',h1,h2,rfl,k3,⟨(hf _ _ _ _ k2).1,(hf _ _ _ _ k2).2.2⟩,hx⟩,q⟩,?_⟩
  refine List.Perm.nodup_iff (?_:List.Perm _ ((b::F')++F2)) |>.2 hn
  rw [<-List.append_assoc]
  refine List.Perm.append_right _ ?_
  exact List.perm_middle.trans (List.Perm.cons _ k4)
end
section
variable {P:Program}{α:Type}{o:Oc α}{k j m off:Nat}{t ty ty2 el:TypeId}{e e' y:AV}{xs ys vs:List α}{x v v':α}{h:Hp}{L:List Asn}{c:Cd α}{i:Int}{ki:IntKind}{g:Bool}
theorem W8 (ht:T h (own_ (ocL k t o) e xs::L)) (hu:P.underlying ty=some (.slice el)):M9 P ty e=some (eI xs.length):=by
 obtain ⟨F,p,_⟩:=ht.act
 rcases p with ⟨rfl,rfl,_⟩ | ⟨b,es,F',rfl,_⟩
 ·simp [M9,hu,eI]
 ·simp [M9,hu,eI]
theorem YU (ht:T h (own_ (ocL k t o) e xs::L)) (hu:P.underlying ty=some (.slice el)) (hs:CO P el=some k) (hv:idx xs i=some v):DP P h ty e (.v (.int ki i))=some (eAt e i.toNat):=by
 obtain ⟨F,p,_⟩:=ht.act
 obtain ⟨h0,h1⟩:=Cv hv
 rcases p with ⟨rfl,rfl,_⟩ | ⟨b,es,F',rfl,h2,_⟩
 ·simp at h1
 ·rw [YV hu hs h2 rfl h0 (List.getElem?_eq_some_iff.1 h1).1]
  simp [eAt]
theorem W2 (ht:T h (YQ k t o e xs j e' x::L)) (hu:P.underlying ty=some (.slice el)) (hs:CO P el=some k) (hv:idx xs i=some v):DP P h ty e (.v (.int ki i))=some (eAt e i.toNat):=by
 obtain ⟨F,p,_⟩:=ht.act
 obtain ⟨h0,h1⟩:=Cv hv
 obtain ⟨b,es,F',rfl,h2,_⟩:=p
 rw [YV hu hs h2 rfl h0 (List.getElem?_eq_some_iff.1 h1).1]
 simp [eAt]
theorem YY {n:Nat}(ht:T h (own_ (ocL k t (ocV c)) e xs::L)) (hv:xs[n]? = some v) (hm:CO P ty=some m) (hg:QE P ty=some g) (he:Ts (c.enc v) off m g=some y):G5 P h ty (P1 (eAt e n) off)=some y:=by
 obtain ⟨F,p,_⟩:=ht.act
 rcases p with ⟨rfl,rfl,_⟩ | ⟨b,es,F',rfl,h2,_,h4⟩
 ·simp at hv
 ·obtain ⟨rfl,_⟩:=h4.leaf_inv
  simp [G5,hm,hg,eAt,P1,h2,hv,he]
theorem XV (e:AV) (n:Nat):P1 (eAt e n) 0=eAt e n:=by cases e <;> rfl
theorem FR {n:Nat}(ht:T h (own_ (ocL k t (ocV c)) e xs::L)) (hv:xs[n]? = some v) (hm:CO P ty=some m) (hg:QE P ty=some g) (he:Ts (c.enc v) 0 m g=some y):G5 P h ty (eAt e n)=some y:=by
 have:=YY (off:=0) ht hv hm hg he
 rwa [XV] at this
theorem Yv {n:Nat}(ht:T h (own_ (ocL k t (ocV c)) e xs::L)) (hv:xs[n]? = some v) (hs:CO P ty=some y.nc) (hn:y.notTp=true) (he:Ul (c.enc v) off y=some (c.enc v')):∃ h',Gs P h ty (P1 (eAt e n) off) y=some h'/\T h' (own_ (ocL k t (ocV c)) e (xs.set n v')::L):=by
 obtain ⟨F,p,hn',hk,_⟩:=ht.act
 rcases p with ⟨rfl,rfl,_⟩ | ⟨b,es,F',rfl,h2,rfl,h4⟩
 ·simp at hv
 ·obtain ⟨rfl,rfl⟩:=h4.leaf_inv
  have hb:=Ib h2
  refine ⟨h.set b (some ⟨k,t,(xs.set n v').map c.enc,false⟩),by simp [Gs,eAt,P1,h2,hv,hs,hn,he],hk _ _ [b] (.inr ⟨b,(xs.set n v').map c.enc,[],by simp,by simp [hb],rfl,KB⟩) (by simp) (fun b' hb' _=>?_) (fun b' hb'=> .inl hb')⟩
  rw [List.getElem?_set,if_neg (by intro e; subst e; simp at hb')]
theorem Kg {n:Nat}(ht:T h (own_ (ocL k t (ocV c)) e xs::L)) (hv:xs[n]? = some v) (hs:CO P ty=some y.nc) (hn:y.notTp=true) (he:Ul (c.enc v) 0 y=some (c.enc v')):∃ h',Gs P h ty (eAt e n) y=some h'/\T h' (own_ (ocL k t (ocV c)) e (xs.set n v')::L):=by
 have:=Yv (off:=0) ht hv hs hn he
 rwa [XV] at this
/-- An element that is an own slice itself. -/
theorem VP {n:Nat}{k':Nat}{t':TypeId}{β:Type}{o:Oc β}{xs:List (List β)}{x:List β}(ht:T h (own_ (ocL 1 t (ocL k' t' o)) e xs::L)) (hv:xs[n]? = some x) (hm:CO P ty=some 1) (hg:QE P ty=some false):∃ e',G5 P h ty (eAt e n)=some e'/\T h (own_ (ocL k' t' o) e' x::YQ 1 t (ocL k' t' o) e xs n e' x::L):=by
 obtain ⟨e',ht'⟩:=ht.focus Wm hv
 refine ⟨e',?_,ht'⟩
 obtain ⟨F,p,_⟩:=ht'.act
 have hc:e'.cel=[e']:=by
  rcases p with ⟨rfl,_⟩ | ⟨b,es,F',rfl,_⟩ <;> rfl
 obtain ⟨F2,q,_⟩:=(T.drop ht').act
 obtain ⟨b,es,F',rfl,h2,_,h4,_⟩:=q
 obtain ⟨a1,_,_⟩:=h4.at_
 simp [G5,hm,hg,eAt,h2,a1,Ts,hc]
/-- An own value is laid into a hole of another. -/
theorem Xa {n:Nat}{x0:α}(hf:Fit o k) (ht:T h (YQ k t o e xs n e' x0::own_ o y x::L)) (hm:CO P ty=some k):∃ h',Gs P h ty (eAt e n) y=some h'/\T h' (own_ (ocL k t o) e (xs.set n x)::L):=by
 obtain ⟨F,p,hn',hk,_⟩:=(T.join.1 ht).act
 obtain ⟨F1,F2,rfl,⟨b,es,F',rfl,h2,rfl,h4,⟨h5,h6⟩,_⟩,q⟩:=p
 obtain ⟨a1,a2,a3⟩:=h4.at_
 have hb:=Ib h2
 obtain ⟨F'',k1,k2⟩:=h4.fill q
 obtain ⟨y1,y2,y3⟩:=hf _ _ _ _ q
 have hs:Ul e' 0 y=some y:=by
  unfold Ul
  have l1:=TX e'
  have l2:=TX y
  rw [if_pos (by omega),List.drop_eq_nil_of_le (by omega)]
  simpa using y3
 have hbn:b ∉ F'':=fun hb'=>by
  have:=k2.mem_iff.1 hb'
  rcases List.mem_append.1 this with h1 | h1
  ·exact (Fl.1 hn').2.2 b (by simp) h1
  ·exact (List.nodup_cons.1 (Fl.1 hn').1).1 h1
 have same:∀ c,c≠b->(h.set b (some ⟨k,t,es.set n y,false⟩))[c]? = h[c]?:=fun c hc=>by rw [List.getElem?_set,if_neg (Ne.symm hc)]
 refine ⟨h.set b (some ⟨k,t,es.set n y,false⟩),by simp [Gs,eAt,h2,a1,hm,y1,y2,hs],hk _ _ (b::F'') (.inr ⟨b,es.set n y,F'',by simp,by simp [hb],rfl,k1.mono fun e x G hG h5=>o.loc h5 fun c hc=>same c fun e=>hbn (e ▸ hG c hc)⟩) (List.nodup_cons.2 ⟨hbn,k2.nodup_iff.2 ?_⟩) (fun c hc _=>same c fun e=>hc (by subst e; simp)) (fun c hc=> .inl ?_)⟩
 ·obtain ⟨n1,n2,n3⟩:=Fl.1 hn'
  exact Fl.2 ⟨n2,(List.nodup_cons.1 n1).2,fun a ha ha2=>n3 a (List.mem_cons_of_mem _ ha2) ha⟩
 ·rcases List.mem_cons.1 hc with rfl | hc
  ·simp
  ·rcases List.mem_append.1 (k2.mem_iff.1 hc) with h1 | h1
   ·exact List.mem_append_right _ h1
   ·exact List.mem_append_left _ (List.mem_cons_of_mem _ h1)
/-- Loose elements. -/
def els {α:Type}(o:Oc α) (es:List AV) (xs:List α):Asn where
 at_ h F:=All3 (o.at_ h) es xs F
 loc:=fun h k=>h.mono fun _e _x _G hG h5=>o.loc h5 fun c hc=>k c (hG c hc)
 own:=fun h hb=>let ⟨_,_,_,q1,q2⟩:=h.mem hb; o.own q1 q2
theorem Wh (ht:T h L):T h (els o [] []::L):=ht.add (F:=[]) rfl List.nodup_nil (fun _ _=>rfl) (fun _ h=>by cases h)
theorem U8 {es:List AV}(ht:T h (own_ o e x::els o es xs::L)):T h (els o (e::es) (x::xs)::L):=by
 obtain ⟨F,p,hn',hk,_⟩:=(T.join.1 ht).act
 obtain ⟨F1,F2,rfl,p,q⟩:=p
 exact hk h _ (F1++F2) ⟨F1,F2,rfl,p,q⟩ hn' (fun _ _ _=>rfl) (fun b hb=> .inl hb)
theorem GB (ht:T h L):T h (els (ocV c) (xs.map c.enc) xs::L):=ht.add (F:=[]) KB List.nodup_nil (fun _ _=>rfl) (fun _ h=>by cases h)
/-- The elements of an own slice. -/
theorem Wi (ht:T h (own_ (ocL k t o) y ys::L)) (hu:P.underlying ty2=some (.slice el)):∃ ey,T h (els o ey ys::L)/\JQ h k y=some ey/\JV P ty2 y=true:=by
 obtain ⟨F,p,hn,hk,_⟩:=ht.act
 rcases p with ⟨rfl,rfl,rfl⟩ | ⟨b,es,F',rfl,h2,rfl,h4⟩
 ·exact ⟨[],hk h _ [] rfl List.nodup_nil (fun _ _ _=>rfl) (fun _ h=>by cases h),by simp [JQ],by simp [JV,hu]⟩
 ·refine ⟨es,hk h _ F' h4 (List.nodup_cons.1 hn).2 (fun _ _ _=>rfl) (fun b hb=> .inl (List.mem_cons_of_mem _ hb)),?_,by simp [JV,hu]⟩
  have hl:=h4.len
  simp [JQ,h2,<-hl]
/-- A growing own slice takes elements. -/
theorem TP {bytes:Nat}{i:TypeInfo}{z:AV}{ey:List AV}(ht:T h (own_ (ocL k t o) e xs::els o ey ys::L)) (hsy:JV P ty2 y=true) (hel:JQ h k y=some ey) (hte:G8 P ty=some t) (hi:P.info? t=some i) (hz:F0 P t=some z) (hk:i.size=k) (h0:Nat.blt 0 k=true) (hzn:z.nc=k) (hzt:z.notTp=true) (hib:i.bytes=bytes) (hc:Dj bytes (xs.length + ys.length)=true) :
  ∃ e' h',Dn P h ty ty2 e y=some (e',h')/\T h' (own_ (ocL k t o) e' (xs++ys)::L):=by
 subst hib hk
 obtain ⟨F,p,hn',hk,hk0⟩:=(T.join.1 ht).act
 obtain ⟨F1,Fy,rfl,px,hy4⟩:=p
 obtain ⟨n1,n2,n3⟩:=Fl.1 hn'
 obtain ⟨c1,c2⟩:=Ng hc
 have h0':0 < i.size:=Nat.le_of_ble_eq_true h0
 have hly:ey.length=ys.length:=All3.len hy4
 have hlt:∀ c,c ∈ F1++Fy->c < h.length:=fun c hc=>by
  rcases List.mem_append.1 hc with hc | hc
  ·obtain ⟨B,q,_⟩:=(ocL i.size t o).own px hc
   exact Ib q
  ·obtain ⟨B,q,_⟩:=(els o ey ys).own hy4 hc
   exact Ib q
 cases hey:ey with
 | nil =>
  subst hey
  have:ys=[]:=by cases ys with | nil=>rfl | cons a b=>simp at hly
  subst this
  refine ⟨e,h,?_,?_⟩
  ·rcases px with ⟨rfl,_⟩ | ⟨b,es,F',rfl,_⟩ <;> simp [Dn,hsy,hte,hi,hz,hel]
  ·rw [List.append_nil]
   exact hk h _ F1 px n1 (fun _ _ _=>rfl) (fun b hb=> .inl (List.mem_append_left _ hb))
 | cons a r =>
  have he:ey.isEmpty=false:=by rw [hey]; rfl
  have hne:0 < ys.length:=by rw [<-hly,hey]; simp
  rcases px with ⟨rfl,rfl,rfl⟩ | ⟨bx,ex,Fx,rfl,hx2,rfl,hx4⟩
  ·have hc1:ey.length * i.bytes<=140737488355328/\ey.length<=140737488355328:=by
    rw [hly]; simp at c1 c2; exact ⟨c1,c2⟩
   refine ⟨.rf h.length 0 ys.length ys.length,h++[some ⟨i.size,t,ey,false⟩],?_,hk _ _ (h.length::Fy) (.inr ⟨h.length,ey,Fy,rfl,by simp,rfl,hy4.mono fun e x G hG h5=>o.loc h5 fun c hc=>List.getElem?_append_left (hlt c (List.mem_append_right _ (hG c hc)))⟩) (List.nodup_cons.2 ⟨fun hb=>by have:=hlt _ (List.mem_append_right _ hb); omega,n2⟩) (fun c _ hc=>List.getElem?_append_left hc) (fun c hc=>?_)⟩
   ·simp only [Dn,hsy,hte,hi,hz,hel,he]
    rw [if_neg (by simp),if_neg (by simp),if_pos ⟨h0',hzn,hzt⟩,if_pos hc1,hly]
   ·rcases List.mem_cons.1 hc with rfl | hc
    ·exact .inr (Nat.le_refl _)
    ·exact .inl (List.mem_append_right _ hc)
  ·have hlx:ex.length=xs.length:=hx4.len
   have hbx:=Ib hx2
   have hbx':bx ∉ Fx:=(List.nodup_cons.1 n1).1
   have hby':bx ∉ Fy:=n3 bx (by simp)
   have same:∀ c,c≠bx->c < h.length->((h.set bx none)++[some ⟨i.size,t,ex++ey,false⟩])[c]? = h[c]?:=fun c hc hlt=>by
    rw [List.getElem?_append_left (by simpa using hlt),List.getElem?_set,if_neg (Ne.symm hc)]
   refine ⟨.rf h.length 0 (xs++ys).length (xs++ys).length,(h.set bx none)++[some ⟨i.size,t,ex++ey,false⟩],?_,hk _ _ (h.length::(Fx++Fy)) (.inr ⟨h.length,ex++ey,Fx++Fy,rfl,?_,rfl,All3.append (hx4.mono fun e x G hG h5=>o.loc h5 fun c hc=>same c (fun e=>hbx' (e ▸ hG c hc)) (hlt c (List.mem_append_left _ (List.mem_cons_of_mem _ (hG c hc))))) (hy4.mono fun e x G hG h5=>o.loc h5 fun c hc=>same c (fun e=>hby' (e ▸ hG c hc)) (hlt c (List.mem_append_right _ (hG c hc))))⟩) (List.nodup_cons.2 ⟨fun hb=>?_,?_⟩) (fun c hc hlt=>same c (fun e=>hc (by subst e; simp)) hlt) (fun c hc=>?_)⟩
   ·simp only [Dn,hsy,hte,hi,hz,hel,he,hx2]
    rw [if_neg (by simp),if_neg (by simp),if_pos ⟨h0',hzn,hzt⟩,if_neg (by simp),if_neg (by omega),if_pos ⟨trivial,hlx.symm,by rw [hly]; exact c1,by rw [hly]; exact c2⟩]
    simp [hly]
   ·rw [List.getElem?_append_right (by simp)]; simp
   ·have:h.length < h.length:=hlt _ (by
     rcases List.mem_append.1 hb with hb | hb
     ·exact List.mem_append_left _ (List.mem_cons_of_mem _ hb)
     ·exact List.mem_append_right _ hb)
    omega
   ·exact Fl.2 ⟨(List.nodup_cons.1 n1).2,n2,fun a ha ha2=>n3 a (List.mem_cons_of_mem _ ha) ha2⟩
   ·rcases List.mem_cons.1 hc with rfl | hc
    ·exact .inr (Nat.le_refl _)
    ·rcases List.mem_append.1 hc with h1 | h1
     ·exact .inl (List.mem_append_left _ (List.mem_cons_of_mem _ h1))
     ·exact .inl (List.mem_append_right _ h1)
theorem WR {bytes:Nat}{i:TypeInfo}{z:AV}(ht:T h (own_ (ocL k t o) e xs::own_ (ocL k t o) y ys::L)) (hu:P.underlying ty2=some (.slice el)) (hte:G8 P ty=some t) (hi:P.info? t=some i) (hz:F0 P t=some z) (hk:i.size=k) (h0:Nat.blt 0 k=true) (hzn:z.nc=k) (hzt:z.notTp=true) (hib:i.bytes=bytes) (hc:Dj bytes (xs.length + ys.length)=true) :
  ∃ e' h',Dn P h ty ty2 e y=some (e',h')/\T h' (own_ (ocL k t o) e' (xs++ys)::L):=by
 obtain ⟨ey,h1,h2,h3⟩:=Wi (ht.front 1 rfl) hu
 exact TP (h1.front 1 rfl) h3 h2 hte hi hz hk h0 hzn hzt hib hc
theorem Uq {bytes:Nat}{i:TypeInfo}{z:AV}(ht:T h (own_ (ocL k t (ocV c)) e xs::L)) (hsy:JV P ty2 y=true) (hel:JQ h k y=some (ys.map c.enc)) (hte:G8 P ty=some t) (hi:P.info? t=some i) (hz:F0 P t=some z) (hk:i.size=k) (h0:Nat.blt 0 k=true) (hzn:z.nc=k) (hzt:z.notTp=true) (hib:i.bytes=bytes) (hc:Dj bytes (xs.length + ys.length)=true) :
  ∃ e' h',Dn P h ty ty2 e y=some (e',h')/\T h' (own_ (ocL k t (ocV c)) e' (xs++ys)::L) :=
 TP ((GB ht).front 1 rfl) hsy hel hte hi hz hk h0 hzn hzt hib hc
/-- A block of elements. -/
theorem Pw {es:List AV}{n:Nat}(ht:T h (els o es xs::L)) (hn:xs.length=n):T (h++[some ⟨k,t,es,false⟩]) (own_ (ocL k t o) (.rf h.length 0 n n) xs::L):=by
 obtain ⟨F,p,hn',hk,_⟩:=ht.act
 have hlt:∀ c,c ∈ F->c < h.length:=fun c hc=>by
  obtain ⟨B,q,_⟩:=(els o es xs).own p hc
  exact Ib q
 refine hk _ _ (h.length::F) (.inr ⟨h.length,es,F,by rw [hn],by simp,rfl,All3.mono p fun e x G hG h5=>o.loc h5 fun c hc=>List.getElem?_append_left (hlt c (hG c hc))⟩) (List.nodup_cons.2 ⟨fun hb=>by have:=hlt _ hb; omega,hn'⟩) (fun c _ hc=>List.getElem?_append_left hc) (fun c hc=>?_)
 rcases List.mem_cons.1 hc with rfl | hc
 ·exact .inr (Nat.le_refl _)
 ·exact .inl hc
def K5 (i:Nat):List AV->List (Nat×AV)
 | []=>[]
 | e::r=>(i,e)::K5 (i + 1) r
theorem Qb {z:AV}(hz:z.nc=k):∀ {es pre:List AV},(∀ e ∈ es,e.nc=k/\e.notTp=true/\elm e.cel=e)->Po (pre++List.replicate es.length z) k (K5 pre.length es)=some (pre++es)
 | [],pre,_=>by simp [K5,Po]
 | e::r,pre,hf=>by
  obtain ⟨h1,h2,h3⟩:=hf e (by simp)
  have:=Qb hz (es:=r) (pre:=pre++[e]) (fun e' he=>hf e' (by simp [he]))
  simp only [K5,Po,List.length_cons,List.replicate_succ]
  rw [if_pos ⟨by simp,h1,h2⟩,h3]
  have e1:(pre++z::List.replicate r.length z).set pre.length e=(pre++[e])++List.replicate r.length z:=by simp
  rw [e1]
  simpa using this
theorem XA {i:TypeInfo}{z:AV}{es:List AV}{n:Nat}(hf:Fit o k) (ht:T h (els o es xs::L)) (hn:es.length=n) (hte:G8 P ty=some t) (hi:P.info? t=some i) (hz:F0 P t=some z) (hk:i.size=k) (h0:Nat.blt 0 k=true) (hb:Nat.ble (n * k) 65536=true) (hzn:z.nc=k) (hzt:z.notTp=true) (hze:elm z.cel=z) :
  ∃ e' h',Pn P h ty n (K5 0 es)=some (e',h')/\T h' (own_ (ocL k t o) e' xs::L):=by
 obtain ⟨F,p,_⟩:=ht.act
 have hl:es.length=xs.length:=All3.len p
 have:=Qb hzn (es:=es) (pre:=[]) (All3.fit hf p)
 subst hn
 simp only [List.nil_append,List.length_nil] at this
 refine ⟨_,_,?_,Pw ht hl.symm⟩
 simp only [Pn,hte,hi,hz,hk,hze]
 rw [if_pos ⟨Nat.le_of_ble_eq_true hb,Nat.le_of_ble_eq_true h0,hzn,hzt⟩,this]
theorem VS {i:TypeInfo}{z:AV}{bytes:Nat}{n:Int}{kn kc:IntKind}{x0:α}(ht:T h L) (hx:∀ h,o.at_ h z x0 []) (hte:G8 P ty=some t) (hi:P.info? t=some i) (hz:F0 P t=some z) (hk:i.size=k) (hzn:z.nc=k) (hzt:z.notTp=true) (hib:i.bytes=bytes) (hc:Uk bytes n=true) :
  ∃ e' h',Lz P h ty (.v (.int kn n)) (.v (.int kc n))=some (e',h')/\T h' (own_ (ocL k t o) e' (List.replicate n.toNat x0)::L):=by
 simp only [Uk,Bool.and_eq_true,decide_eq_true_eq] at hc
 subst hk hib
 have ha:∀ m,All3 (o.at_ h) (List.replicate m z) (List.replicate m x0) []:=fun m=>by
  induction m with
  | zero=>exact rfl
  | succ m ih=>exact ⟨[],[],rfl,hx h,ih⟩
 have ht':T h (els o (List.replicate n.toNat z) (List.replicate n.toNat x0)::L):=ht.add (F:=[]) (ha _) List.nodup_nil (fun _ _=>rfl) (fun _ h=>by cases h)
 refine ⟨_,_,?_,Pw ht' (List.length_replicate)⟩
 simp only [Lz,hte,LD,hi,hz]
 rw [if_pos ⟨trivial,hc.1.1,hc.1.2,hc.2,hzn,hzt⟩]
/-- A cell of its own is made, read, written. -/
theorem JY {a:AV}(ht:T h L) (hn:a.notTp=true):∃ p h',M8 h t a=some (p,h')/\T h' (cel p a.nc t a::L):=by
 refine ⟨.pt h.length 0 0,h++[some ⟨a.nc,t,[a],false⟩],by simp [M8,hn],ht.add (F:=[h.length]) ⟨h.length,rfl,rfl,by simp⟩ (by simp) (fun b hb=>List.getElem?_append_left hb) (fun b hb=>by simp at hb; omega)⟩
theorem T2 {p a:AV}(ht:T h (cel p k t a::L)) (hm:CO P ty=some m) (hg:QE P ty=some g) (he:Ts a off m g=some y):G5 P h ty (P1 p off)=some y:=by
 obtain ⟨F,⟨b,rfl,rfl,h2⟩,_⟩:=ht.act
 simp [G5,hm,hg,P1,h2,he]
theorem DQ {p a:AV}(ht:T h (cel p k t a::L)) (hm:CO P ty=some m) (hg:QE P ty=some g) (he:Ts a 0 m g=some y):G5 P h ty p=some y:=by
 have:=T2 (off:=0) ht hm hg he
 obtain ⟨F,⟨b,rfl,rfl,h2⟩,_⟩:=ht.act
 exact this
theorem Yu {p a a':AV}(ht:T h (cel p k t a::L)) (hs:CO P ty=some y.nc) (hn:y.notTp=true) (he:Ul a off y=some a'):∃ h',Gs P h ty (P1 p off) y=some h'/\T h' (cel p k t a'::L):=by
 obtain ⟨F,⟨b,rfl,rfl,h2⟩,hn',hk,_⟩:=ht.act
 have hb:=Ib h2
 refine ⟨h.set b (some ⟨k,t,[a'],false⟩),by simp [Gs,P1,h2,hs,hn,he],hk _ _ [b] ⟨b,rfl,rfl,by simp [hb]⟩ (by simp) (fun c hc _=>?_) (fun c hc=> .inl hc)⟩
 rw [List.getElem?_set,if_neg (by intro e; subst e; simp at hc)]
theorem LZ {p a a':AV}(ht:T h (cel p k t a::L)) (hs:CO P ty=some y.nc) (hn:y.notTp=true) (he:Ul a 0 y=some a'):∃ h',Gs P h ty p y=some h'/\T h' (cel p k t a'::L):=by
 have:=Yu (off:=0) ht hs hn he
 obtain ⟨F,⟨b,rfl,rfl,h2⟩,_⟩:=ht.act
 exact this
theorem Wn {p a:AV}{fs:Array Field}{fd:Field}{f q:Nat}(ht:T h (cel p k t a::L)) (hu:P.underlying ty=some (.struct fs)) (hf:fs[f]? = some fd) (hs:CO P fd.type=some (q + 1)):Fj P ty p f=some (P1 p fd.offset):=by
 obtain ⟨F,⟨b,rfl,rfl,h2⟩,_⟩:=ht.act
 simp [Fj,hu,hf,hs,P1]
end
/-- What is own is written no more: it is a value as others. -/
def L4 (F:List Nat) (h:Hp):Hp:=h.mapIdx fun i B=>if i ∈ F then none else B
theorem KV {F:List Nat}{h:Hp}{b:Nat}{B:Blk}:(L4 F h)[b]? = some (some B)↔b ∉ F/\h[b]? = some (some B):=by
 simp only [L4,List.getElem?_mapIdx]
 constructor
 ·intro hh
  obtain ⟨o,h1,h2⟩:=Option.map_eq_some_iff.1 hh
  split at h2
  ·cases h2
  ·next hb=>exact ⟨hb,by rw [h1,h2]⟩
 ·rintro ⟨h1,h2⟩
  rw [h2]; simp [h1]
theorem PJ {F:List Nat}{h:Hp}{b:Nat}(hb:b ∉ F):(L4 F h)[b]? = h[b]?:=by
 simp only [L4,List.getElem?_mapIdx]
 cases h[b]? <;> simp [hb]
section
variable {E:Env}{n:Nat}{l l':List (Nat×AV)}{hp:Hp}{α:Type}{o:Oc α}{e:AV}{x:α}{L:List Asn}
/-- Slots that stay, and slots that turn. -/
def LkT (l:List (Nat×AV)) (e y:AV):List (Nat×AV)->Prop
 | []=>True
 | (t,z)::r=>(lk l t=some z\/(lk l t=some e/\z=y))/\LkT l e y r
theorem LkT.at_ {e y:AV}:∀ {l':List (Nat×AV)},LkT l e y l'->∀ t z,lk l' t=some z->lk l t=some z\/(lk l t=some e/\z=y)
 | [],_,t,z,h=>by cases h
 | (k,z0)::r,⟨h1,h2⟩,t,z,h=>by
  rw [Ic] at h
  split at h
  ·next hk=>injection h with h; subst hk h; exact h1
  ·exact h2.at_ t z h
/-- Values as a call sees them. -/
def SeeV (hp:Hp) (x y:AV):Prop:=∀ (w:World) (Z:Nat->Prop) (R:List RI) (u:Value),HR w Z R hp->VR w Z R x u->VR w (fun c=>Z c\/own R hp c) [] y u
def Sees (hp:Hp) (xs ys:List AV):Prop:=∀ (w:World) (Z:Nat->Prop) (R:List RI) (us:List Value),HR w Z R hp->VRs w Z R xs us->VRs w (fun c=>Z c\/own R hp c) [] ys us
theorem Sees.nil:Sees hp [] []:=fun w Z R us _ h=>by
 have:us=[]:=by have:=h.len; simpa using this
 subst this
 exact .nil
theorem Sees.cons {x y:AV}{xs ys:List AV}(h:SeeV hp x y) (hs:Sees hp xs ys):Sees hp (x::xs) (y::ys):=fun w Z R us hh hv=>by
 obtain ⟨u,us',rfl,hu,hn⟩:=hv.head
 exact .cons (h w Z R u hh hu) (hs w Z R us' hh hn)
theorem SeeV.id {x:AV}(hx:Dg x=true):SeeV hp x x:=fun _w _Z _R _u _ hv=>(I0 hx hv).mono (fun _ _=>rfl) (fun _ h=> .inl h) (fun _ _ h=>h)
theorem SeeV.enc {c:Cd α}:SeeV hp (c.enc x) (c.enc x):= .id (c.nr x)
theorem SeeV.own {i:Nat}(ht:T hp L) (hi:L[i]? = some (own_ o e x)):SeeV hp e (o.cd.enc x):=fun w Z R u hh hv=>by
 obtain ⟨F,p,_⟩:=(ht.front i hi).act
 refine (o.vr hh p hv).mono (fun _ _=>rfl) (fun c hc=>hc.imp_right fun ⟨b,hb,r,hr,hc⟩=>?_) (fun _ _ h=>h)
 obtain ⟨B,k1,k2⟩:=o.own p hb
 exact ⟨b,B,r,k1,k2,hr,hc.symm⟩
theorem SeeV.ag {cs cs':List AV}(hs:Sees hp cs cs'):SeeV hp (.ag cs) (.ag cs'):=fun w Z R u hh hv=>by
 cases hv with
 | ag hl h1 hx =>
  have:=hs w Z R _ hh ⟨hl,hx⟩
  exact .ag this.len h1 this.at_
end
/-- The operations that are left, one by one, in the caller's blocks. -/
def RunL (E:Env) (cx:Cx) (ops:Array Oper) (rest:List Oper) (s:St) (K:St->Prop):Prop :=
 ∀ (ro:Option Nat) (base:Bs) (Q:Act->World->Prop) (a:Act) (w:World) (Z:Nat->Prop) (R:List RI),(cx.inR=false->ro=none)->SR E base w Z R s a->YI cx w Z R s.hp ->
  (∀ s' a' w' Z' R',K s'->SR E base w' Z' R' s' a'->Step w Z R s.hp w' Z' R' s'.hp->Q a' w')->LwL E.P ops Q rest a w
section
variable {E:Env}{cx:Cx}{ops:Array Oper}{pre rest rest':List Oper}{s s1:St}{K:St->Prop}{n m:Nat}{l l':List (Nat×AV)}{hp hp':Hp}{Q:Ex->St->Prop}{id:Nat}
theorem Aw (hr:rest=[]) (k:K s):RunL E cx ops rest s K:=by
 subst hr
 exact fun ro base Q a w Z R _ sr _ q=>q s a w Z R k sr (Step.refl _ _ _ _)
theorem RunL.mono {K':St->Prop}(h:RunL E cx ops rest s K) (k:∀ s,K s->K' s):RunL E cx ops rest s K':=fun ro base Q a w Z R h1 h2 h3 q=>h ro base Q a w Z R h1 h2 h3 fun s' a' w' Z' R' hK=>q s' a' w' Z' R' (k s' hK)
theorem NM (hE:EnvOk E) (n:Nat):∀ {pre:List Oper}{s:St},Il E (evC E n) ⟨none,false⟩ ops pre s=some s1->RunL E cx ops rest s1 K->RunL E cx ops (pre++rest) s K
 | [],s,e,k=>by injection e with e; subst e; exact k
 | o::pre,s,e,kk=>by
  intro ro base Q a w Z R hro sr hy q
  unfold Il at e
  split at e
  ·cases e
  ·next hw=>exact lwl_no (wantedA_eq sr hw) (NM hE n e kk ro base Q _ w Z R hro (sr.put undef_vr) hy q)
  ·next hw =>
   split at e
   ·next s2 hs2=>exact lwl_op1 hE (code_sound hE n).1 hs2 sr (wantedA_eq sr hw) fun a' w' Z' R' sr' st=>NM hE n e kk ro base Q a' w' Z' R' hro sr' (hy.step sr.hh st) fun s'' a'' w'' Z'' R'' hK sr'' st'=>q s'' a'' w'' Z'' R'' hK sr'' (st.trans st')
   ·cases e
theorem Rx (hE:EnvOk E) (m:Nat) (h:Il E (evC E 0) ⟨none,false⟩ ops (rest.take m) s=some s1) (k:RunL E cx ops (rest.drop m) s1 K):RunL E cx ops rest s K:=by
 have:=NM hE 0 h k
 rwa [List.take_append_drop] at this
theorem II (hE:EnvOk E) (m:Nat){s:St}(l:List (Nat×AV)) (hp:Hp) (h:TJ (Il E (evC E 0) ⟨none,false⟩ ops (rest.take m) s) l=some (n,xs2 l,hp)) (k:RunL E cx ops (rest.drop m) ⟨Fr n l,hp⟩ K):RunL E cx ops rest s K:=by
 obtain ⟨fr,h1,h2,h3⟩:=P6 h
 refine Rx hE m h1 ?_
 exact fun ro base Q a w Z R hro sr hy q=>k ro base Q a w Z R hro (sr.forget h2 h3) hy q
theorem AM (hE:EnvOk E) (n:Nat){o:Oper}(hr:rest=o::rest') (h:Il E (evC E n) ⟨none,false⟩ ops [o] s=some s1) (k:RunL E cx ops rest' s1 K):RunL E cx ops rest s K:=by
 subst hr
 exact NM hE n (pre:=[o]) h k
theorem RunL.store (hE:EnvOk E){t:TypeId}{p q:Operand}{y z:AV}{ty:TypeId}{pos:String}{af:Array Edge}{g:Option (Nat×Bool)}(hr:rest=⟨none,.store t p q,ty,pos,af,g⟩::rest') (hw:CF ops (Fr n l) ⟨none,.store t p q,ty,pos,af,g⟩=some true) (hp1:opA E (Fr n l) p=some y) (hq1:opA E (Fr n l) q=some z) (h:Gs E.P hp t y z=some hp') (k:RunL E cx ops rest' ⟨Fr n l,hp'⟩ K):RunL E cx ops rest ⟨Fr n l,hp⟩ K :=
 AM hE 0 hr (Zv hw hp1 hq1 h) k
theorem AI (h:RunL E cx ops ops.toList s fun s'=>Q .normal s'):SemY E cx (.region id ops false) s Q:=by
 intro ro base Qm a w Z R h1 h2 h3 kk
 exact wpIn_region_list (lwl_list ro (h ro base _ a w Z R h1 h2 h3 fun s' a' w' Z' R' hq sr st=>kk .normal s' a' w' Z' R' hq sr st))
end
section
variable {E:Env}{cx:Cx}{ops:Array Oper}{rest rest':List Oper}{K:St->Prop}{n:Nat}{l:List (Nat×AV)}{hp:Hp}
/-- A call that is gone through in the caller's blocks. -/
theorem HN (hP:E.P=E0.P) (hG:E.G=E0.G){e:Env}(he:EnvOk e) (heP:e.P=E0.P) (heG:e.G=E0.G){d:Nat}{f:Operand}{args:Array Operand}{tys:Array TypeId}{ty:TypeId}{pos:String}{af:Array Edge}{g:Option (Nat×Bool)}{fid:FuncId}{caps xs:List AV}{fn:Func}{c:Code}{Out:AV->Hp->Prop}(hr:rest=⟨some d,.call ⟨.value f,args,tys⟩,ty,pos,af,g⟩::rest') (hw:CF ops (Fr n l) ⟨some d,.call ⟨.value f,args,tys⟩,ty,pos,af,g⟩=some true)
  (hf:opA E (Fr n l) f=some (.fn fid [] caps)) (ha:Ij (opA E (Fr n l)) args.toList=some xs) (hfn:e.fn fid=some fn) (hc:fn.body=some c) (hle:(xs++caps).length<=fn.ntmps)
  (sem:SemY e ⟨none,false⟩ c ⟨Fr fn.ntmps (BQ 0 (xs++caps)),hp⟩ fun x s'=>(x = .normal\/x = .ret)/\∃ ys,Es e.P s'.fr s'.hp fn.results.toList=some ys/\Out (FG ys) s'.hp)
  (k:∀ x h',Out x h'->RunL E cx ops rest' ⟨Fr n ((d,x)::l),h'⟩ K):RunL E cx ops rest ⟨Fr n l,hp⟩ K:=by
 obtain ⟨P,fns,G,X,I⟩:=E
 obtain ⟨P',fns',G',X',I'⟩:=e
 simp only at hP hG heP heG
 subst hP hG heP heG
 subst hr
 intro ro base Q a w Z R hro sr hy q
 have hρ:∀ o x,opA ⟨E0.P,fns,E0.G,X,I⟩ (Fr n l) o=some x->VR w Z R x (a.eval o):=fun o x e=>opA_vr sr o x e
 refine Jj rfl (wantedA_eq sr hw) ?_
 have hvf:=hρ _ _ hf
 generalize hvq:a.eval f=vf at hvf
 cases hvf with
 | fn hl hl' hx hy' =>
  rename_i u1 u2
  have e1:u1=[]:=by simpa using hl
  subst e1
  obtain ⟨hff,hcall,_⟩:=he.fn fid fn hfn
  unfold Lw
  rw [Fu (uf:=[]) (uc:=u2) rfl hvq rfl hcall w]
  simp only [List.nil_append]
  have hargs:VRs w Z R (xs++caps) (args.toList.map a.eval++u2):=(opds_vr hρ ha).append ⟨hl',hy'⟩
  refine Ret.mono (P5 he hfn hc hle sem sr.hh hargs sr.gl (fun y hy=>by cases hy)) fun v w' hS=>?_
  obtain ⟨Z',R',x,h',hO,h1,h2,st⟩:=hS
  have sr':=(sr.step h1 st).put (d:=some d) h2
  rw [show LX (⟨Fr n l,hp⟩:St).fr (some d) x=Fr n ((d,x)::l) from DW n l d _] at sr'
  exact k x h' hO ro base Q _ w' Z' R' hro sr' (hy.step sr.hh st) fun s' a' w'' Z'' R'' hK sr'' st'=>q s' a' w'' Z'' R'' hK sr'' (st.trans st')
theorem MG {s s1:St}(hw:WkY E s s1) (h:RunL E cx ops rest s1 K):RunL E cx ops rest s K:=fun ro base Q a w Z R hro sr hy q=>by
 obtain ⟨Z',R',sr',st⟩:=hw base w Z R a sr
 exact h ro base Q a w Z' R' hro sr' (hy.step sr.hh st) fun s' a' w' Z2 R2 hK sr2 st2=>q s' a' w' Z2 R2 hK sr2 (st.trans st2)
/-- What a part did, told by states for each way out. -/
theorem JJ {c:Code}{s:St}{Q:Ex->St->Prop}{e0:Ex}{A:St->Prop}(h:SemY E cx c s fun e s'=>e=e0/\∃ s2,A s2/\WkY E s' s2) (q:∀ s2,A s2->Q e0 s2):SemY E cx c s Q:=by
 intro ro base Qm a w Z R h1 h2 h3 k
 refine h ro base Qm a w Z R h1 h2 h3 fun e s' a' w' Z' R' hQ sr st=>?_
 obtain ⟨rfl,s2,hA,hw⟩:=hQ
 obtain ⟨Z2,R2,sr2,st2⟩:=hw base w' Z' R' a' sr
 exact k e s2 a' w' Z2 R2 (q s2 hA) sr2 (st.trans st2)
theorem CP {c:Code}{s:St}{Q:Ex->St->Prop}{e0:Ex}{A:St->Prop}{m:Nat}(h:SemYN E cx c m s fun e s'=>e=e0/\∃ s2,A s2/\WkY E s' s2) (q:∀ s2,A s2->Q e0 s2):SemYN E cx c m s Q:=by
 intro ro base Qm a w Z R h1 h2 h3 k
 refine h ro base Qm a w Z R h1 h2 h3 fun e s' a' w' Z' R' hQ sr st=>?_
 obtain ⟨rfl,s2,hA,hw⟩:=hQ
 obtain ⟨Z2,R2,sr2,st2⟩:=hw base w' Z' R' a' sr
 exact k e s2 a' w' Z2 R2 (q s2 hA) sr2 (st.trans st2)
theorem Pa {c:Code}{s:St}{Q:Ex->St->Prop}(h:SemY E cx c s Q):Sem E cx c s Q :=
 fun ro base Qm a w Z R h1 h2 h3 k=>h ro base Qm a w Z R h1 h2 (fun y hy=>by rw [h3] at hy; cases hy) fun e s' a' w' Z' R' hQ sr st=>k e s' a' w' Z' R' hQ sr st.w
end
def RunDT (E:Env) (cx:Cx) (ops:Array Oper) (T:Nat) (n0 k:Nat) (rest:List Oper) (s:St) (K:St->Prop):Prop :=
 ∀ (ro:Option Nat) (base:Bs) (Q:Act->World->Prop) (w0:World) (Z:Nat->Prop) (R0:List RI) (h0:Hp) (a:Act) (w:World) (R:List RI),(cx.inR=false->ro=none)->YI cx w0 Z R0 h0->HR w0 Z R0 h0->n0=h0.length->SR E base w Z R s a->w0.grownBy w none->Step w0 Z R0 h0 w Z R s.hp->(∀ (b:Nat) (B:Option Blk),h0[b]? = some B->s.hp[b]? = some B)->(∀ j,rest[j]? = ops[k + j]?) ->
  (∀ s' a' w' Z' R',K s'->SR E base w' Z' R' s' a'->Step w0 Z R0 h0 w' Z' R' s'.hp->Q a' w')->H6 E.P ops (fun w'=>w0.grownBy w' none) (D1 ops T) T Q k rest a w
section
variable {E:Env}{cx:Cx}{ops:Array Oper}{rest rest':List Oper}{s s1:St}{K:St->Prop}{n n0 k T:Nat}{l:List (Nat×AV)}{hp hp':Hp}{Q:Ex->St->Prop}{id:Nat}{x:AV}{d:Nat}
theorem Va {o:Oper}(hops:∀ j,(o::rest')[j]? = ops[k + j]?) (hk:Nat.blt k T=true) (hq:isQ o.op=true):D1 ops T k=false:=by
 have hok:ops[k]? = some o:=by have:=hops 0; simpa using this.symm
 have hlt:k < T:=Nat.le_of_ble_eq_true hk
 exact KX hok hq (by omega)
theorem XC {o:Oper}(hops:∀ j,(o::rest')[j]? = ops[k + j]?) (hq:isQ o.op=false):D1 ops T k=true:=by
 have hok:ops[k]? = some o:=by have:=hops 0; simpa using this.symm
 exact FS hok hq
theorem Rg {o:Oper}(hops:∀ j,(o::rest')[j]? = ops[k + j]?):∀ j,rest'[j]? = ops[k + 1 + j]?:=fun j=>by have:=hops (j + 1); simpa [Nat.add_assoc,Nat.add_comm 1 j] using this
theorem RunDT.done (hr:rest=[]) (kk:K s):RunDT E cx ops T n0 k rest s K:=by
 subst hr
 exact fun ro base Q w0 Z R0 h0 a w R _ _ _ _ sr hgr st _ _ q=>⟨fun _=>hgr,q s a w Z R kk sr st⟩
theorem RunDT.mono {K':St->Prop}(h:RunDT E cx ops T n0 k rest s K) (hk:∀ s,K s->K' s):RunDT E cx ops T n0 k rest s K':=fun ro base Q w0 Z R0 h0 a w R h1 h2 h3 h4 h5 h6 h7 h8 h9 q=>h ro base Q w0 Z R0 h0 a w R h1 h2 h3 h4 h5 h6 h7 h8 h9 fun s' a' w' Z' R' hK=>q s' a' w' Z' R' (hk s' hK)
/-- An operation that reads. -/
theorem RunDT.q {o:Oper}(hr:rest=o::rest') (hk:Nat.blt k T=true) (hq:isQ o.op=true) (hw:CF ops (Fr n l) o=some true) (hd:o.dst=some d) (h:Gr E.P (opA E (Fr n l)) hp o.op=some x) (hl:S3 n0 (opA E (Fr n l)) o.op=true) (kk:RunDT E cx ops T n0 (k + 1) rest' ⟨Fr n ((d,x)::l),hp⟩ K):RunDT E cx ops T n0 k rest ⟨Fr n l,hp⟩ K:=by
 subst hr
 intro ro base Q w0 Z R0 h0 a w R hro hy hh0 hn0 sr hgr st hpre hops q
 refine ⟨fun _=>hgr,?_⟩
 rw [if_pos (wantedA_eq sr hw),Va hops hk hq,if_neg (by simp)]
 have hρ:∀ o x,opA E (Fr n l) o=some x->VR w Z R x (a.eval o):=fun o x e=>opA_vr sr o x e
 obtain ⟨u,hu,hrun⟩:=evOpQ_sound sr.hh hρ h
 have hquiet:∃ u,VR w Z R x u/\QuietAt E.P (Cf (fun w'=>w0.grownBy w' none) o) o u a:=by
  cases hl':Qj o.op with
  | false=>exact ⟨u,hu,fun w' _=>hrun w' fun h=>by rw [hl'] at h; cases h⟩
  | true =>
   obtain ⟨u1,hu1,hq1⟩:=IF hh0 sr hgr st hpre hl' (by rw [<-hn0]; exact hl) h
   exact ⟨u1,hu1,hq1.up (LR hl')⟩
 obtain ⟨u,hu,hquiet⟩:=hquiet
 refine ⟨u,hquiet,?_⟩
 have sr':=sr.put (d:=o.dst) hu
 rw [hd,show LX (⟨Fr n l,hp⟩:St).fr (some d) x=Fr n ((d,x)::l) from DW n l d _] at sr'
 rw [hd]
 exact kk ro base Q w0 Z R0 h0 _ w R hro hy hh0 hn0 sr' hgr st hpre (Rg hops) q
/-- One that is not wanted. -/
theorem RunDT.skip {o:Oper}(hr:rest=o::rest') (hw:CF ops (Fr n l) o=some false) (hd:o.dst=some d) (kk:RunDT E cx ops T n0 (k + 1) rest' ⟨Fr n ((d,.tp [])::l),hp⟩ K):RunDT E cx ops T n0 k rest ⟨Fr n l,hp⟩ K:=by
 subst hr
 intro ro base Q w0 Z R0 h0 a w R hro hy hh0 hn0 sr hgr st hpre hops q
 refine ⟨fun _=>hgr,?_⟩
 rw [if_neg (by rw [wantedA_eq sr hw]; simp)]
 have sr':=sr.put (d:=o.dst) (x:= .tp []) undef_vr
 rw [hd,show LX (⟨Fr n l,hp⟩:St).fr (some d) (.tp [])=Fr n ((d,.tp [])::l) from DW n l d _] at sr'
 rw [hd]
 exact kk ro base Q w0 Z R0 h0 _ w R hro hy hh0 hn0 sr' hgr st hpre (Rg hops) q
/-- A new block. -/
theorem RunDT.new {o:Oper}(hr:rest=o::rest') (hw:CF ops (Fr n l) o=some true) (hd:o.dst=some d) (h:Ik E.P (opA E (Fr n l)) hp o.op=some (x,hp')) (kk:RunDT E cx ops T n0 (k + 1) rest' ⟨Fr n ((d,x)::l),hp'⟩ K):RunDT E cx ops T n0 k rest ⟨Fr n l,hp⟩ K:=by
 subst hr
 intro ro base Q w0 Z R0 h0 a w R hro hy hh0 hn0 sr hgr st hpre hops q
 refine ⟨fun _=>hgr,?_⟩
 have hq:=Iz h
 rw [if_pos (wantedA_eq sr hw),XC hops hq,if_pos rfl]
 have hρ:∀ o x,opA E (Fr n l) o=some x->VR w Z R x (a.eval o):=fun o x e=>opA_vr sr o x e
 obtain ⟨u,w',R',h1,h2,h3,h4,h5⟩:=evOpN_sound hρ sr.hh h
 have sr':=(sr.step h2 h4).put (d:=o.dst) h3
 rw [hd,show LX (⟨Fr n l,hp⟩:St).fr (some d) x=Fr n ((d,x)::l) from DW n l d _] at sr'
 refine LE h1 ?_
 rw [hd]
 exact kk ro base Q w0 Z R0 h0 _ w' R' hro hy hh0 hn0 sr' (ER hgr h5) (st.trans h4) (fun b B hb=>JS h (hpre b B hb)) (Rg hops) q
theorem RunDT.tail (hT:T=k) (h:RunL E cx ops rest s K):RunDT E cx ops T n0 k rest s K:=by
 subst hT
 intro ro base Q w0 Z R0 h0 a w R hro hy hh0 hn0 sr hgr st hpre hops q
 exact KY (h ro base Q a w Z R hro sr (hy.step hh0 st) fun s' a' w' Z' R' hK sr' st'=>q s' a' w' Z' R' hK sr' (st.trans st')) (Nat.le_refl _) (fun _=>hgr) (fun j hj=>Kv hj) hops
theorem IC (T:Nat) (hm:E.P.follows .mixedOrders=true) (hB:Region.lexB .any ops=true) (hb:NH ops (D1 ops T) T=true) (h:RunDT E cx ops T s.hp.length 0 ops.toList s fun s'=>Q .normal s'):SemY E cx (.region id ops true) s Q:=by
 intro ro base Qm a w Z R hro sr hy kk
 have hgd:w.grownBy w.drew none:=Pg w
 have hops:ops.toList.toArray=ops:=by simp
 have st0:Step w Z R s.hp w.drew Z R s.hp:=⟨rfl,rfl,rfl,Nat.le_refl _,fun c hc _=>rfl,fun _ h=> .inl h,fun _ h=>h,fun _ h=> .inl h,fun _ _ h=>h⟩
 have hsrd:SR E base w.drew Z R s a:=⟨sr.hh.keep (Nat.le_refl _) (fun c hc=>hgd.block c hc (by simp)),sr.fr.off (fun c hc=>rfl),sr.mks.step st0,sr.gl.off (fun c hc=>rfl),sr.bs⟩
 have hm':=h ro base (fun a w=>Qm .normal a w) w.drew Z R s.hp a w.drew R hro (hy.step sr.hh st0) hsrd.hh rfl hsrd (OC _) (Step.refl _ _ _ _) (fun b B hb=>hb) (fun j=>by simp) (fun s' a' w' Z' R' hq sr' st=>kk .normal s' a' w' Z' R' hq sr' (st0.trans st))
 have:=Jo (P:=E.P) (id:=id) (l:=ops.toList) (a:=a) (w:=w) (C:=fun w'=>w.drew.grownBy w' none) (loud:=D1 ops T) (T:=T) (Q':=Qm) ro 0 hm (by rw [hops]; exact hB) (by rw [hops]; exact hb) (by rw [hops]; exact hm')
 rw [hops] at this
 exact this
theorem Xn {a b:Nat}(h:a < b):Nat.blt a b=true:=by unfold Nat.blt; rw [Nat.ble_eq]; exact h
/-- May an own thing be read ahead of the tail? It was there before the region. -/
theorem VO {α:Type}{o:Oc α}{kk off m:Nat}{t ty:TypeId}{e:AV}{xs:List α}{v:α}{h0:Hp}{L:List Asn}{p:Operand}{ρ:Operand->Option AV}(ht:Go.Proofs.YtlalcoehgkmhlaaGreatDoor.T h0 (own_ (ocL kk t o) e xs::L)) (hv:xs[m]? = some v) (hp:ρ p=some (P1 (eAt e m) off)):S3 h0.length ρ (.load ty p)=true:=by
 obtain ⟨F,q,_⟩:=ht.act
 rcases q with ⟨rfl,rfl,_⟩ | ⟨b,es,F',rfl,h2,_⟩
 ·simp at hv
 ·simp only [S3,hp,eAt,P1]
  exact Xn (Ib h2)
theorem Fk {α:Type}{o:Oc α}{kk m:Nat}{t ty:TypeId}{e:AV}{xs:List α}{v:α}{h0:Hp}{L:List Asn}{p:Operand}{ρ:Operand->Option AV}(ht:Go.Proofs.YtlalcoehgkmhlaaGreatDoor.T h0 (own_ (ocL kk t o) e xs::L)) (hv:xs[m]? = some v) (hp:ρ p=some (eAt e m)):S3 h0.length ρ (.load ty p)=true :=
 VO (off:=0) ht hv (by rw [XV]; exact hp)
theorem VN {kk off:Nat}{t ty:TypeId}{q a:AV}{h0:Hp}{L:List Asn}{p:Operand}{ρ:Operand->Option AV}(ht:Go.Proofs.YtlalcoehgkmhlaaGreatDoor.T h0 (cel q kk t a::L)) (hp:ρ p=some (P1 q off)):S3 h0.length ρ (.load ty p)=true:=by
 obtain ⟨F,⟨b,rfl,rfl,h2⟩,_⟩:=ht.act
 simp only [S3,hp,P1]
 exact Xn (Ib h2)
theorem FK {kk:Nat}{t ty:TypeId}{q a:AV}{h0:Hp}{L:List Asn}{p:Operand}{ρ:Operand->Option AV}(ht:Go.Proofs.YtlalcoehgkmhlaaGreatDoor.T h0 (cel q kk t a::L)) (hp:ρ p=some q):S3 h0.length ρ (.load ty p)=true:=by
 obtain ⟨F,⟨b,rfl,rfl,h2⟩,_⟩:=ht.act
 simp only [S3,hp]
 exact Xn (Ib h2)
end
section
variable {P:Program}{h:Hp}{ρ:Operand->Option AV}{α:Type}{o:Oc α}{k:Nat}{t:TypeId}{e:AV}{xs:List α}{L:List Asn}
theorem Yp {ty:TypeId}{x:Operand}{f:Nat}{a r:AV}(hx:ρ x=some a) (he:Fj P ty a f=some r):Gr P ρ h (.fieldAddr ty x f)=some r:=by
 show (match ρ x with | some x=>Fj P ty x f | none=>none)=some r
 rw [hx]; exact he
theorem O1 {ty:TypeId}{n:Nat}{ps:Array (Nat×Operand)}{xs:List (Nat×AV)}{r:AV×Hp}(hp:Jk ρ ps.toList=some xs) (he:Pn P h ty n xs=some r):Ik P ρ h (.buildSlice ty n ps)=some r:=by
 show (match Jk ρ ps.toList with | some ps=>Pn P h ty n ps | none=>none)=some r
 rw [hp]; exact he
theorem Yg {ty:TypeId}{x:Operand}{z:AV}{r:AV×Hp}(hx:ρ x=some z) (he:M8 h ty z=some r):Ik P ρ h (.box ty x)=some r:=by
 show (match ρ x with | some x=>M8 h ty x | none=>none)=some r
 rw [hx]; exact he
theorem LV {ty:TypeId}{z:AV}{r:AV×Hp}(hx:F0 P ty=some z) (he:M8 h ty z=some r):Ik P ρ h (.alloc ty)=some r:=by
 show (match F0 P ty with | some z=>M8 h ty z | none=>none)=some r
 rw [hx]; exact he
theorem Kf (ht:T h (own_ (ocL k t o) e xs::L)):e.notTp=true/\e.notAg=true:=by
 obtain ⟨F,p,_⟩:=ht.act
 rcases p with ⟨rfl,_⟩ | ⟨b,es,F',rfl,_⟩ <;> exact ⟨rfl,rfl⟩
/-- A pointer to a cell of its own seen as another pointer. -/
def cvB (P:Program) (a b k t:Nat):Bool:=match P.underlying a,P.underlying b with
 | some (.pointer t'),some .unsafePointer=>Nat.blt 0 k&&(match CO P t' with | some (_ + 1)=>true | _=>false)
 | some .unsafePointer,some (.pointer u)=>Nat.blt 0 k&&Nat.beq t u&&Nat.beq (P.cellsOf u) k&&(P.info? u).isSome
 | _,_=>false
theorem AAF {t1 t2:TypeId}{x y:Operand}{a b:AV}{r:AV×Hp}(hx:ρ x=some a) (hy:ρ y=some b) (he:Qa P h t1 a b=some r):NA P ρ h (.call ⟨.builtin .unsafeString,#[x,y],#[t1,t2]⟩)=some r:=by
 show (match Ij ρ [x,y],[t1,t2] with | some [x,n],[t,_]=>Qa P h t x n | _,_=>none)=some r
 simp only [Ij,hx,hy]
 exact he
end
def ZK (P:Program) (t:TypeId):Bool:=match P.underlying t with
 | some (.slice _)=>true
 | _=>false
theorem SS {P:Program}{t:TypeId}(h:ZK P t=true):∃ el,P.underlying t=some (.slice el):=by
 unfold ZK at h
 split at h
 ·next el he=>exact ⟨el,he⟩
 ·cases h
def AAD:AV->Bool
 | .ag [_]=>false
 | _=>true
theorem U7 {z:AV}(h:AAD z=true):elm z.cel=z:=by
 cases z with
 | ag cs =>
  match cs,h with
  | [],_=>rfl
  | [x],h=>cases h
  | x::y::l,_=>rfl
 | _=>rfl
def zeB (P:Program) (el:TypeId):Bool:=match F0 P el with
 | some z=>AAD z
 | none=>false
def Zj (P:Program) (t:TypeId) (f off:Nat):Bool:=match P.underlying t with
 | some (.struct fs)=>match fs[f]? with
  | some fd=>match CO P fd.type with
   | some (_ + 1)=>Nat.beq fd.offset off
   | _=>false
  | none=>false
 | _=>false
theorem VG {P:Program}{t:TypeId}{f off:Nat}(h:Zj P t f off=true):∃ fs fd q,P.underlying t=some (.struct fs)/\fs[f]? = some fd/\CO P fd.type=some (q + 1)/\fd.offset=off:=by
 unfold Zj at h
 split at h
 ·next fs h1 =>
  split at h
  ·next fd h2 =>
   split at h
   ·next q h3=>exact ⟨fs,fd,q,h1,h2,h3,Nat.eq_of_beq_eq_true h⟩
   ·cases h
  ·cases h
 ·cases h
section
variable {P:Program}{h:Hp}{α:Type}{o:Oc α}{c:Cd α}{k bytes n:Nat}{t ty ty2:TypeId}{e y:AV}{xs ys:List α}{L:List Asn}{v:α}
theorem S4 (ht:T h (own_ (ocL k t o) e xs::L)) (hu:ZK P ty=true):M9 P ty e=some (eI xs.length):=let ⟨_,h1⟩:=SS hu; W8 ht h1
theorem MZ {i:Int}{ki:IntKind}(ht:T h (own_ (ocL k t o) e xs::L)) (ha:apB P ty t k bytes=true) (hv:idx xs i=some v):DP P h ty e (.v (.int ki i))=some (eAt e i.toNat):=by
 obtain ⟨i',z,a1,a2,a3,a4,_⟩:=KI ha
 have hu:P.underlying ty=some (.slice t):=by
  unfold G8 at a1
  split at a1
  ·next e he=>injection a1 with a1; rw [he,a1]
  ·cases a1
 exact YU ht hu (by rw [CO,a2,<-a4]; rfl) hv
theorem Zq {i:Int}{ki:IntKind}{j:Nat}{e':AV}{x0:α}(ht:T h (YQ k t o e xs j e' x0::L)) (ha:apB P ty t k bytes=true) (hv:idx xs i=some v):DP P h ty e (.v (.int ki i))=some (eAt e i.toNat):=by
 obtain ⟨i',z,a1,a2,a3,a4,_⟩:=KI ha
 have hu:P.underlying ty=some (.slice t):=by
  unfold G8 at a1
  split at a1
  ·next e he=>injection a1 with a1; rw [he,a1]
  ·cases a1
 exact W2 ht hu (by rw [CO,a2,<-a4]; rfl) hv
theorem H9 (ht:T h (own_ (ocL k t o) e xs::own_ (ocL k t o) y ys::L)) (hu:ZK P ty2=true) (ha:apB P ty t k bytes=true) (hc:Dj bytes (xs.length + ys.length)=true):∃ e' h',Dn P h ty ty2 e y=some (e',h')/\T h' (own_ (ocL k t o) e' (xs++ys)::L):=by
 obtain ⟨_,h1⟩:=SS hu
 obtain ⟨i,z,a1,a2,a3,a4,a5,a6,a7,a8⟩:=KI ha
 exact WR ht h1 a1 a2 a3 a4 (Xn a5) a6 a7 a8 hc
theorem TQ (ht:T h (own_ (ocL k t (ocV c)) e xs::L)) (hsy:JV P ty2 y=true) (hel:JQ h k y=some (ys.map c.enc)) (ha:apB P ty t k bytes=true) (hc:Dj bytes (xs.length + ys.length)=true):∃ e' h',Dn P h ty ty2 e y=some (e',h')/\T h' (own_ (ocL k t (ocV c)) e' (xs++ys)::L):=by
 obtain ⟨i,z,a1,a2,a3,a4,a5,a6,a7,a8⟩:=KI ha
 exact Uq ht hsy hel a1 a2 a3 a4 (Xn a5) a6 a7 a8 hc
theorem HM {es:List AV}(hf:Fit o k) (ht:T h (els o es xs::L)) (hn:es.length=n) (ha:apB P ty t k bytes=true) (hz:zeB P t=true) (hb:Nat.ble (n * k) 65536=true):∃ e' h',Pn P h ty n (K5 0 es)=some (e',h')/\T h' (own_ (ocL k t o) e' xs::L):=by
 obtain ⟨i,z,a1,a2,a3,a4,a5,a6,a7,a8⟩:=KI ha
 unfold zeB at hz
 rw [a3] at hz
 exact XA hf ht hn a1 a2 a3 a4 (Xn a5) hb a6 a7 (U7 hz)
theorem N6 {z:AV}{m:Int}{kn kc:IntKind}{x0:α}(ht:T h L) (hx:∀ h,o.at_ h z x0 []) (ha:apB P ty t k bytes=true) (hz:F0 P t=some z) (hc:Uk bytes m=true):∃ e' h',Lz P h ty (.v (.int kn m)) (.v (.int kc m))=some (e',h')/\T h' (own_ (ocL k t o) e' (List.replicate m.toNat x0)::L):=by
 obtain ⟨i,z',a1,a2,a3,a4,a5,a6,a7,a8⟩:=KI ha
 rw [hz] at a3
 injection a3 with a3
 subst a3
 exact VS ht hx a1 a2 hz a4 a6 a7 a8 hc
theorem V3 {f off:Nat}{p a:AV}(ht:T h (cel p k t a::L)) (hf:Zj P ty f off=true):Fj P ty p f=some (P1 p off):=by
 obtain ⟨fs,fd,q,h1,h2,h3,rfl⟩:=VG hf
 exact Wn ht h1 h2 h3
end
/-- What a call is handed, own or not, as it is told. -/
def SeeD {α:Type}(hp:Hp) (c:Cd α) (x:AV) (v:α):Prop:=∃ y,SeeV hp x y/\c.dec y=some v
def SeesD {α:Type}(hp:Hp) (s:Cs α) (xs:List AV) (a:α):Prop:=∃ ys,Sees hp xs ys/\s.dec ys=some a
theorem SeesD.nil {hp:Hp}:SeesD hp csN [] ():=⟨[],.nil,rfl⟩
theorem A2 {α β:Type}{hp:Hp}{c:Cd α}{s:Cs β}{x:AV}{xs:List AV}{v:α}{a:β}(h1:SeeD hp c x v) (h2:SeesD hp s xs a):SeesD hp (csC c s) (x::xs) (v,a):=by
 obtain ⟨y,k1,k2⟩:=h1
 obtain ⟨ys,q1,q2⟩:=h2
 refine ⟨y::ys,.cons k1 q1,?_⟩
 show ((c.dec y).bind fun x=>(s.dec ys).map fun y=>(x,y))=_
 rw [k2,q2]; rfl
theorem CG {α:Type}{hp:Hp}{c:Cd α}{v:α}:SeeD hp c (c.enc v) v:=⟨_,.enc,c.de v⟩
theorem SeeD.e0 {α:Type}{hp:Hp}{c:Cd α}{k:Nat}:SeeD hp (cdL k c) .e0 []:=⟨.e0,.id rfl,rfl⟩
theorem SeeD.own {α:Type}{hp:Hp}{o:Oc α}{e:AV}{x:α}{L:List Asn}{i:Nat}(ht:T hp L) (hi:L[i]? = some (own_ o e x)):SeeD hp o.cd e x:=⟨_,.own ht hi,o.cd.de x⟩
section
variable {E:Env}{cx:Cx}{ops:Array Oper}{rest rest':List Oper}{K:St->Prop}{n n0 k T:Nat}{l:List (Nat×AV)}{hp:Hp}
theorem RunL.call {α β:Type}{s:Cs α}{F:α->Option β}{er:β->AV}{a:α}{b:β}{xs:List AV}(hE:EnvOk E){d:Nat}{f:Operand}{args:Array Operand}{tys:Array TypeId}{ty:TypeId}{pos:String}{af:Array Edge}{g:Option (Nat×Bool)}{fid:FuncId}(hr:rest=⟨some d,.call ⟨.value f,args,tys⟩,ty,pos,af,g⟩::rest') (hw:CF ops (Fr n l) ⟨some d,.call ⟨.value f,args,tys⟩,ty,pos,af,g⟩=some true)
  (hf:opA E (Fr n l) f=some (.fn fid [] [])) (hi:E.I fid=false) (hX:E.X fid=some (Ee s F er)) (ha:Ij (opA E (Fr n l)) args.toList=some xs) (hv:Sns hp s xs a) (hok:xs.all Dg=true\/EA (er b)=true) (hF:F a=some b) (k:RunL E cx ops rest' ⟨Fr n ((d,er b)::l),hp⟩ K):RunL E cx ops rest ⟨Fr n l,hp⟩ K :=
 AM hE 0 hr (Ri hw hf hi hX ha hv hok hF) k
end
section
variable {E:Env}{cx:Cx}{ops:Array Oper}{s:St}{Q:Ex->St->Prop}{id:Nat}{A:St->Prop}{c:Code}
theorem Le (h:RunL E cx ops ops.toList s fun s'=>∃ s1,A s1/\WkY E s' s1) (q:∀ s1,A s1->Q .normal s1):SemY E cx (.region id ops false) s Q :=
 JJ (e0:= .normal) (A:=A) (AI (Q:=fun e s'=>e = .normal/\∃ s2,A s2/\WkY E s' s2) (RunL.mono h fun _s' hs=>⟨rfl,hs⟩)) q
theorem Kr (T:Nat) (hm:E.P.follows .mixedOrders=true) (hB:Region.lexB .any ops=true) (hb:NH ops (D1 ops T) T=true) (h:RunDT E cx ops T s.hp.length 0 ops.toList s fun s'=>∃ s1,A s1/\WkY E s' s1) (q:∀ s1,A s1->Q .normal s1):SemY E cx (.region id ops true) s Q :=
 JJ (e0:= .normal) (A:=A) (IC T hm hB hb (Q:=fun e s'=>e = .normal/\∃ s2,A s2/\WkY E s' s2) (RunDT.mono h fun _s' hs=>⟨rfl,hs⟩)) q
theorem HK (h:SemY E cx c s fun e s'=>∃ s2,WkY E s' s2/\Q e s2):SemY E cx c s Q:=by
 intro ro base Qm a w Z R h1 h2 h3 k
 refine h ro base Qm a w Z R h1 h2 h3 fun e s' a' w' Z' R' hQ sr st=>?_
 obtain ⟨s2,hw,hq⟩:=hQ
 obtain ⟨Z2,R2,sr2,st2⟩:=hw base w' Z' R' a' sr
 exact k e s2 a' w' Z2 R2 hq sr2 (st.trans st2)
end
section
variable {E:Env}{cx:Cx}{ops:Array Oper}{rest rest':List Oper}{K:St->Prop}{n n0 k:Nat}{l:List (Nat×AV)}{hp:Hp}{α β:Type}{s:Cs α}{F:α->Option β}{er:β->AV}{u:α}{v:β}{fid:FuncId}{w:World}{Z:Nat->Prop}{R:List RI}
theorem ZT (hX:XOk fid (Ee s F er)) (hh:HR w Z R hp) (hg:GI E0 w Z){xs:List AV}{us:List Value}(hvs:VRs w Z R xs us) (hv:SeesD hp s xs u) (hok:EA (er v)=true\/xs.all Dg=true/\s.dec xs=some u) (hF:F u=some v) :
  Ret E0.P fid us.toArray w fun x w'=>∃ Z',HR w' Z' R hp/\VR w' Z' R (er v) x/\Step w Z R hp w' Z' R hp/\w.grownBy w' none/\(EA (er v)=true->Z'=Z):=by
 by_cases hf:EA (er v)=true
 ·obtain ⟨ys,hv,hd⟩:=hv
  have hz1:∀ c,(Z c\/own R hp c)->c < w.heap.size:=fun c hc=>hc.elim (hh.zlt c) (fun ⟨b,B,r,h1,_,h3,h4⟩=>h4 ▸ hh.rltL h1 h3)
  have hg1:GI E0 w (fun c=>Z c\/own R hp c):=fun q y hy=>(hg q y hy).mono (fun _ _=>rfl) (fun _ h=> .inl h) (fun _ _ h=>h)
  refine Ret.mono (hX.2 ys (er v) (Jl hd hF) w _ us hz1 hg1 (hv w Z R us hh hvs)) fun x w' ⟨hs,hx⟩=>?_
  exact ⟨Z,hh.keep hs.size (fun c hc=>hs.block c hc (by simp)),MY hf hx,⟨hs.os,hs.tape,hs.output,hs.size,fun c hc _=>hs.block c hc (by simp),fun _ h=> .inl h,fun _ h=>h,fun _ h=> .inl h,fun _ _ h=>h⟩,hs,fun _=>rfl⟩
 ·obtain ⟨hn,hd⟩:=hok.resolve_left hf
  refine Ret.mono (hX.2 xs (er v) (Jl hd hF) w Z us hh.zlt hg (Px hn hvs)) fun x w' ⟨hs,hx⟩=>?_
  obtain ⟨k1,k2⟩:=hh.addZ hs
  exact ⟨_,k1,hx.up,k2,hs,fun h=>absurd h hf⟩
theorem Z8 (hP:E.P=E0.P) (hG:E.G=E0.G){caps xs:List AV}{d:Option Nat}{f:Operand}{args:Array Operand}{tys:Array TypeId}{ty:TypeId}{pos:String}{af:Array Edge}{g:Option (Nat×Bool)}{base:Bs}{a:Act}(hX:XOk fid (Ee s F er)) (sr:SR E base w Z R ⟨Fr n l,hp⟩ a)
  (hf:opA E (Fr n l) f=some (.fn fid [] caps)) (ha:Ij (opA E (Fr n l)) args.toList=some xs) (hv:SeesD hp s (xs++caps) u) (hok:EA (er v)=true\/(xs++caps).all Dg=true/\s.dec (xs++caps)=some u) (hF:F u=some v) {Q:Act->World->Prop}
  (kk:∀ x w' Z',HR w' Z' R hp->VR w' Z' R (er v) x->Step w Z R hp w' Z' R hp->w.grownBy w' none->(EA (er v)=true->Z'=Z)->SR E base w' Z' R ⟨Fr n l,hp⟩ a->Q (a.put d x) w'):Lw E.P ⟨d,.call ⟨.value f,args,tys⟩,ty,pos,af,g⟩ a w Q:=by
 have hρ:∀ o x,opA E (Fr n l) o=some x->VR w Z R x (a.eval o):=fun o x e=>opA_vr sr o x e
 have hvf:=hρ _ _ hf
 have hva:∃ uc:List Value,a.eval f = .func (.func fid) #[] uc.toArray/\VRs w Z R caps uc:=by
  generalize a.eval f=vf at hvf
  cases hvf with
  | fn hl hl' hx hy =>
   rename_i u1 u2
   have e1:u1=[]:=by simpa using hl
   subst e1
   exact ⟨u2,rfl,hl',hy⟩
 obtain ⟨uc,hva,huc⟩:=hva
 have hcl:B8 E.P fid:=hP ▸ hX.1
 unfold Lw
 rw [Fu (uf:=[]) (uc:=uc) rfl hva rfl hcl w]
 have hret:=ZT hX sr.hh (by have:=sr.gl; exact fun q y hy=>this q y (by rw [hG]; exact hy)) ((opds_vr hρ ha).append huc) hv hok hF
 rw [<-hP] at hret
 simp only [List.nil_append]
 refine Ret.mono hret fun x w' ⟨Z',k1,k2,k3,k4,k5⟩=>?_
 exact kk x w' Z' k1 k2 k3 k4 k5 (sr.step k1 k3)
theorem Eg (hP:E.P=E0.P) (hG:E.G=E0.G) (hX:XOk fid (Ee s F er)){caps xs:List AV}{d:Nat}{f:Operand}{args:Array Operand}{tys:Array TypeId}{ty:TypeId}{pos:String}{af:Array Edge}{g:Option (Nat×Bool)}(hr:rest=⟨some d,.call ⟨.value f,args,tys⟩,ty,pos,af,g⟩::rest') (hw:CF ops (Fr n l) ⟨some d,.call ⟨.value f,args,tys⟩,ty,pos,af,g⟩=some true)
  (hf:opA E (Fr n l) f=some (.fn fid [] caps)) (ha:Ij (opA E (Fr n l)) args.toList=some xs) (hv:SeesD hp s (xs++caps) u) (hok:EA (er v)=true\/(xs++caps).all Dg=true/\s.dec (xs++caps)=some u) (hF:F u=some v) (kk:RunL E cx ops rest' ⟨Fr n ((d,er v)::l),hp⟩ K):RunL E cx ops rest ⟨Fr n l,hp⟩ K:=by
 subst hr
 intro ro base Q a w Z R hro sr hy q
 refine Jj rfl (wantedA_eq sr hw) (Z8 hP hG hX sr hf ha hv hok hF fun x w' Z' k1 k2 k3 k4 k5 sr'=>?_)
 refine kk ro base Q _ w' Z' R hro ?_ (hy.step sr.hh k3) fun s' a' w'' Z'' R'' hK sr'' st'=>q s' a' w'' Z'' R'' hK sr'' (k3.trans st')
 have:=sr'.put (d:=some d) k2
 rwa [DW] at this
theorem G9 {T:Nat}(hP:E.P=E0.P) (hG:E.G=E0.G) (hX:XOk fid (Ee s F er)){caps xs:List AV}{d:Nat}{f:Operand}{args:Array Operand}{tys:Array TypeId}{ty:TypeId}{pos:String}{af:Array Edge}{g:Option (Nat×Bool)}(hr:rest=⟨some d,.call ⟨.value f,args,tys⟩,ty,pos,af,g⟩::rest') (hw:CF ops (Fr n l) ⟨some d,.call ⟨.value f,args,tys⟩,ty,pos,af,g⟩=some true)
  (hf:opA E (Fr n l) f=some (.fn fid [] caps)) (ha:Ij (opA E (Fr n l)) args.toList=some xs) (hv:SeesD hp s (xs++caps) u) (hok:EA (er v)=true) (hF:F u=some v) (kk:RunDT E cx ops T n0 (k + 1) rest' ⟨Fr n ((d,er v)::l),hp⟩ K):RunDT E cx ops T n0 k rest ⟨Fr n l,hp⟩ K:=by
 subst hr
 intro ro base Q w0 Z R0 h0 a w R hro hy hh0 hn0 sr hgr st hpre hops q
 have hok':ops[k]? = some ⟨some d,.call ⟨.value f,args,tys⟩,ty,pos,af,g⟩:=by have:=hops 0; simpa using this.symm
 have hops':∀ j,rest'[j]? = ops[k + 1 + j]?:=fun j=>by have:=hops (j + 1); simpa [Nat.add_assoc,Nat.add_comm 1 j] using this
 refine ⟨fun _=>hgr,?_⟩
 rw [if_pos (wantedA_eq sr hw)]
 have hq:isQ (.call ⟨.value f,args,tys⟩:Op)=false:=rfl
 rw [if_pos (FS hok' hq)]
 refine Z8 hP hG hX sr hf ha hv (.inl hok) hF fun x w' Z' k1 k2 k3 k4 k5 sr'=>?_
 have e:=k5 hok
 subst e
 exact kk ro base Q w0 _ R0 h0 _ w' R hro hy hh0 hn0 (by have:=sr'.put (d:=some d) k2; rwa [DW] at this) (ER hgr k4) (st.trans k3) hpre hops' q
end
def Ps:Hp->Bool
 | []=>true
 | none::r=>Ps r
 | some B::r=>!B.fz&&B.es.all Dg&&Ps r
theorem NV:∀ {h:Hp},Ps h=true->∀ (b:Nat) (B:Blk),h[b]? = some (some B)->B.fz=false/\B.es.all Dg=true
 | [],_,b,B,hb=>by simp at hb
 | none::r,h,0,B,hb=>by simp at hb
 | none::r,h,b + 1,B,hb=>NV (h:=r) h b B (by simpa using hb)
 | some B0::r,h,b,B,hb=>by
  unfold Ps at h
  simp only [Bool.and_eq_true,Bool.not_eq_true'] at h
  cases b with
  | zero =>
   have:B0=B:=by simpa using hb
   subst this
   exact h.1
  | succ b=>exact NV h.2 b B (by simpa using hb)
theorem Qk {α:Type}{k:Nat}{t:TypeId}{c:Cd α}(xs:List α):Ps [some ⟨k,t,xs.map c.enc,false⟩]=true:=by
 have:(xs.map c.enc).all Dg=true:=by
  rw [List.all_eq_true]
  intro x hx
  obtain ⟨y,_,rfl⟩:=List.mem_map.1 hx
  exact c.nr y
 show (!false&&(xs.map c.enc).all Dg&&true)=true
 rw [this]; rfl
section
variable {w w':World}{Z Z':Nat->Prop}{R R':List RI}{h h':Hp}
theorem HR.joinF (hh:HR w Z R h) (st:StepW w Z [] [] w' Z' R' h') (hh':HR w' Z' R' h') (hf:Ps h'=true):HR w' Z' (R++R') (h++h')/\Step w Z R h w' Z' (R++R') (h++h'):=by
 have hold:∀ c,c < w.heap.size->w'.heap[c]? = w.heap[c]?:=fun c hc=>st.block c hc fun ⟨b,B,r,hb,_⟩=>by simp at hb
 have hr:∀ (i:Nat) (x:RI),R[i]? = some x->(R++R')[i]? = some x:=fun i x hx=>by
  rw [List.getElem?_append_left (List.getElem?_eq_some_iff.1 hx).1]; exact hx
 have hnew:∀ c,own R' h' c->w.heap.size<=c:=fun c hc=>(st.own_ c hc).resolve_left fun ⟨b,B,r,hb,_⟩=>by simp at hb
 have hz':∀ c,Z' c->Z c\/w.heap.size<=c:=fun c hc=>(st.z' c hc).elim .inl fun h=>h.elim (fun ⟨b,B,r,hb,_⟩=>by simp at hb) .inr
 have hlen:=hh.len
 have hat:∀ (b:Nat) (B:Blk),(h++h')[b]? = some (some B)->(b < h.length/\h[b]? = some (some B)/\(R++R')[b]? = R[b]?)\/(∃ j,b=h.length + j/\h'[j]? = some (some B)/\(R++R')[b]? = R'[j]?):=fun b B hb=>by
  by_cases hlt:b < h.length
  ·rw [List.getElem?_append_left hlt] at hb
   exact .inl ⟨hlt,hb,List.getElem?_append_left (by omega)⟩
  ·rw [List.getElem?_append_right (by omega)] at hb
   exact .inr ⟨b - h.length,by omega,hb,by rw [List.getElem?_append_right (by omega),hlen]⟩
 have hRb:∀ (b:Nat) (B:Blk) (r:RI),h[b]? = some (some B)->R[b]? = some r->r.c < w.heap.size:=fun b B r h1 h2=>hh.rltL h1 h2
 have hRn:∀ (j:Nat) (B:Blk) (r:RI),h'[j]? = some (some B)->R'[j]? = some r->w.heap.size<=r.c:=fun j B r h1 h2=>hnew _ ⟨j,B,r,h1,(NV hf j B h1).1,h2,rfl⟩
 refine ⟨⟨by simp [hh.len,hh'.len],fun b B hB=>?_,fun b b' B B' r r' hB hfz hB' hfz' h1 h2 e=>?_,hh'.zlt⟩,⟨st.os,st.tape,st.output,st.size,fun c hc _=>hold c hc,fun c hc=>?_,st.z,fun c hc=>(hz' c hc).elim .inl fun h=> .inr (.inr h),hr⟩⟩
 ·rcases hat b B hB with ⟨hlt,hb,hRR⟩ | ⟨j,rfl,hb,hRR⟩
  ·obtain ⟨r,arr,us,g1,g2,g3,g4,g5,g6,g7,g8,g9,g10⟩:=hh.blk b B hb
   exact ⟨r,arr,us,hRR.trans g1,g2,(hold _ (hRb b B r hb g1)).trans g3,g4,g5,g6,(fun h=>st.z _ (g7 h)),(fun h hc=>(hz' _ hc).elim (g8 h) fun q=>by have:=hRb b B r hb g1; omega),⟨g9.len,fun i x u hx hu=>(g9.at_ i x u hx hu).mono (fun c hc=>hold c (hh.zlt c hc)) (fun c hc=>st.z c hc) hr⟩,g10⟩
  ·obtain ⟨r,arr,us,g1,g2,g3,g4,g5,g6,g7,g8,g9,g10⟩:=hh'.blk j B hb
   obtain ⟨f1,f2⟩:=NV hf j B hb
   exact ⟨r,arr,us,hRR.trans g1,g2,g3,g4,g5,g6,g7,g8,⟨g9.len,fun i x u hx hu=>(I0 (List.all_eq_true.1 f2 x (List.mem_of_getElem? hx)) (g9.at_ i x u hx hu)).up⟩,g10⟩
 ·rcases hat b B hB with ⟨_,hb,hRR⟩ | ⟨j,rfl,hb,hRR⟩ <;> rcases hat b' B' hB' with ⟨_,hb',hRR'⟩ | ⟨j',rfl,hb',hRR'⟩ <;> rw [hRR] at h1 <;> rw [hRR'] at h2
  ·exact hh.inj b b' B B' r r' hb hfz hb' hfz' h1 h2 e
  ·have:=hRb b B r hb h1; have:=hRn j' B' r' hb' h2; omega
  ·have:=hRb b' B' r' hb' h2; have:=hRn j B r hb h1; omega
  ·rw [hh'.inj j j' B B' r r' hb hfz hb' hfz' h1 h2 e]
 ·obtain ⟨b,B,r,h1,h2,h3,rfl⟩:=hc
  rcases hat b B h1 with ⟨_,hb,hRR⟩ | ⟨j,rfl,hb,hRR⟩ <;> rw [hRR] at h3
  ·exact .inl ⟨b,B,r,hb,h2,h3,rfl⟩
  ·exact .inr (hRn j B r hb h3)
end
theorem SeeV.view {hp:Hp}{x y:AV}(n:Nat) (h:GN hp n x=some y):SeeV hp x y:=fun _w _Z _R u hh hv=>K3 hh n x y u hv h
theorem SeeD.sm {α:Type}{n:Nat}{hp:Hp}{c:Cd α}{x:AV}{v:α}(h:Sm n hp c x v):SeeD hp c x v:=let ⟨y,h1,h2⟩:=h; ⟨y,.view n h1,h2⟩
/-- A cell of its own that holds a frozen thing. -/
theorem SeeD.cel {α:Type}{hp:Hp}{c:Cd α}{p:AV}{v:α}{k:Nat}{t:TypeId}{L:List Asn}{i:Nat}(ht:T hp L) (hi:L[i]? = some (cel p k t (c.enc v))):SeeD hp (cdP c) p v:=by
 obtain ⟨F,⟨b,rfl,_,hb⟩,_⟩:=(ht.front i hi).act
 exact .sm (n:=3) (.pt hb (Ay (n:=0)))
theorem Sp {α:Type}{hp:Hp}{c:Cd α}{x:AV}{v:α}(h:SeeD hp c x v):SeesD hp (csE c) [x] v:=by
 obtain ⟨y,k1,k2⟩:=h
 exact ⟨[y],.cons k1 .nil,k2⟩
theorem SeeD.ag {α:Type}{hp:Hp}{s:Cs α}{hn:∀ x,(s.enc x).all LW=true}{xs:List AV}{a:α}(h:SeesD hp s xs a):SeeD hp (cdA s hn) (.ag xs) a:=by
 obtain ⟨ys,k1,k2⟩:=h
 exact ⟨.ag ys,.ag k1,k2⟩
theorem SeeV.fn {hp:Hp}{f:FuncId}{cs cs':List AV}(hs:Sees hp cs cs'):SeeV hp (.fn f [] cs) (.fn f [] cs'):=fun w Z R u hh hv=>by
 cases hv with
 | fn hl hl' hx hy =>
  have:=hs w Z R _ hh ⟨hl',hy⟩
  exact .fn hl this.len (fun i x u h=>by simp at h) this.at_
/-- A closure over cells. -/
theorem SeeD.fn {α:Type}{hp:Hp}{f:FuncId}{s:Cs α}{hn:∀ x,(s.enc x).all GT=true}{q:List AV}{a:α}(h:SeesD hp s q a):SeeD hp (cdF f s hn) (.fn f [] q) a:=by
 obtain ⟨ys,k1,k2⟩:=h
 refine ⟨.fn f [] ys,.fn k1,?_⟩
 show (if f=f then s.dec ys else none)=_
 rw [if_pos rfl]; exact k2
section
variable {E:Env}{cx:Cx}{ops:Array Oper}{rest rest':List Oper}{K:St->Prop}{n n0 k:Nat}{l:List (Nat×AV)}{hp:Hp}
/-- A call of frozen things that hands own blocks back, whose elements hold frozen things. -/
theorem PD {xs:List AV}{Out:AV->Hp->Prop}(hP:E.P=E0.P) (hG:E.G=E0.G){d:Nat}{f:Operand}{args:Array Operand}{tys:Array TypeId}{ty:TypeId}{pos:String}{af:Array Edge}{g:Option (Nat×Bool)}{fid:FuncId}(hs:SOk fid xs Out) (hr:rest=⟨some d,.call ⟨.value f,args,tys⟩,ty,pos,af,g⟩::rest') (hw:CF ops (Fr n l) ⟨some d,.call ⟨.value f,args,tys⟩,ty,pos,af,g⟩=some true)
  (hf:opA E (Fr n l) f=some (.fn fid [] [])) (ha:Ij (opA E (Fr n l)) args.toList=some xs) (hv:xs.all Dg=true) (hfl:∀ x h',Out x h'->N9 x=true/\Ps h'=true) (k:∀ x h',Out x h'->RunL E cx ops rest' ⟨Fr n ((d,shN hp.length x)::l),hp++h'⟩ K):RunL E cx ops rest ⟨Fr n l,hp⟩ K:=by
 obtain ⟨P,fns,G,X,I⟩:=E
 simp only at hP hG
 subst hP hG
 subst hr
 intro ro base Q a w Z R hro sr hy q
 have hρ:∀ o x,opA ⟨E0.P,fns,E0.G,X,I⟩ (Fr n l) o=some x->VR w Z R x (a.eval o):=fun o x e=>opA_vr sr o x e
 refine Jj rfl (wantedA_eq sr hw) ?_
 have hva:a.eval f = .func (.func fid) ([]:List Value).toArray ([]:List Value).toArray:=by
  have:=hρ _ _ hf
  generalize a.eval f=vf at this
  cases this with
  | fn hl hl' hx hy =>
   rename_i u1 u2
   have e1:u1=[]:=by simpa using hl
   have e2:u2=[]:=by simpa using hl'
   subst e1 e2; rfl
 unfold Lw
 rw [Fu (uf:=[]) (uc:=[]) rfl hva rfl hs.1 w]
 simp only [List.nil_append,List.append_nil]
 have hvs:VRs w Z R xs (args.toList.map a.eval):=opds_vr hρ ha
 have hvs2:VRs w Z [] xs (args.toList.map a.eval):=⟨hvs.len,fun i x u hx hu=>I0 (List.all_eq_true.1 hv x (List.mem_of_getElem? hx)) (hvs.at_ i x u hx hu)⟩
 refine Ret.mono (hs.2 w _ _ sr.hh.zlt sr.gl hvs2) fun v w' hS=>?_
 obtain ⟨Z',R',x,h',hO,h1,h2,st⟩:=hS
 obtain ⟨f1,f2⟩:=hfl x h' hO
 obtain ⟨j1,j2⟩:=sr.hh.joinF st h1 f2
 have hlen:R.length=hp.length:=sr.hh.len
 have hx:=Ys (w:=w') (Z':=Z') (R:=R) hlen f1 h2
 have sr':=(sr.step j1 j2).put (d:=some d) hx
 rw [show LX (⟨Fr n l,hp⟩:St).fr (some d) (shN hp.length x)=Fr n ((d,shN hp.length x)::l) from DW n l d _] at sr'
 exact k x h' hO ro base Q _ w' Z' (R++R') hro sr' (hy.step sr.hh j2) fun s' a' w'' Z'' R'' hK sr'' st'=>q s' a' w'' Z'' R'' hK sr'' (j2.trans st')
end
/-- A nil slice is an empty frozen one, in structs too. -/
def UpV (x y:AV):Prop:=∀ (w:World) (Z:Nat->Prop) (R:List RI) (u:Value),VR w Z R x u->VR w Z R y u
theorem UpV.refl {x:AV}:UpV x x:=fun _ _ _ _ h=>h
theorem UpV.nil {k:Nat}:UpV .e0 (.sl k []):=fun _ _ _ _ h=>by
 cases h
 exact .sl (us:=[]) rfl rfl (Nat.le_refl _) (by unfold maxLen; omega) (fun h=>by omega) (fun i x u hx=>by simp at hx)
def UpVs:List AV->List AV->Prop
 | [],[]=>True
 | x::xs,y::ys=>UpV x y/\UpVs xs ys
 | _,_=>False
theorem UpVs.len:∀ {xs ys:List AV},UpVs xs ys->xs.length=ys.length
 | [],[],_=>rfl
 | _::_,_::_,h=>by simp [UpVs.len h.2]
 | [],_::_,h=>h.elim
 | _::_,[],h=>h.elim
theorem UpVs.get:∀ {xs ys:List AV}{i:Nat}{y:AV},UpVs xs ys->ys[i]? = some y->∃ x,xs[i]? = some x/\UpV x y
 | _::_,_::_,0,_,h,e=>by simp at e; subst e; exact ⟨_,rfl,h.1⟩
 | _::_,_::_,i + 1,_,h,e=>by
  obtain ⟨x,h1,h2⟩:=UpVs.get (i:=i) h.2 (by simpa using e)
  exact ⟨x,by simpa using h1,h2⟩
 | [],[],_,_,_,e=>by simp at e
 | [],_::_,_,_,h,_=>h.elim
 | _::_,[],_,_,h,_=>h.elim
theorem UpV.ag {xs ys:List AV}(h:UpVs xs ys):UpV (.ag xs) (.ag ys):=fun w Z R u hv=>by
 cases hv with
 | ag hl h1 hx =>
  refine .ag (by rw [hl,h.len]) h1 fun i y u hy hu=>?_
  obtain ⟨x,k1,k2⟩:=h.get hy
  exact k2 _ _ _ _ (hx i x u k1 hu)
def LkU (l:List (Nat×AV)):List (Nat×AV)->Prop
 | []=>True
 | (t,z)::r=>(∃ x,lk l t=some x/\UpV x z)/\LkU l r
theorem LkU.at_ {l:List (Nat×AV)}:∀ {l':List (Nat×AV)},LkU l l'->∀ t z,lk l' t=some z->∃ x,lk l t=some x/\UpV x z
 | [],_,t,z,h=>by cases h
 | (k,z0)::r,⟨h1,h2⟩,t,z,h=>by
  rw [Ic] at h
  split at h
  ·next hk=>injection h with h; subst hk h; exact h1
  ·exact h2.at_ t z h
theorem WP {E:Env}{n:Nat}{l l':List (Nat×AV)}{hp:Hp}(h:LkU l l'):WkY E ⟨Fr n l,hp⟩ ⟨Fr n l',hp⟩:=fun base w Z R a sr=>by
 refine ⟨Z,R,⟨sr.hh,⟨?_,fun t z hx=>?_⟩,sr.mks,sr.gl,sr.bs⟩,Step.refl _ _ _ _⟩
 ·rw [Fz]; have:=sr.fr.1; rw [Fz] at this; exact this
 ·rw [FW] at hx
  split at hx
  ·next ht =>
   injection hx with hx
   obtain ⟨x,k1,k2⟩:=h.at_ t z hx
   exact k2 _ _ _ _ (sr.fr.2 t x (by rw [FW,if_pos ht,k1]))
  ·cases hx
/-- A value in which an own thing is frozen. -/
def FzU (e z x y:AV):Prop:=∀ (w:World) (Z Z':Nat->Prop) (R:List RI) (u:Value),(∀ c,Z c->Z' c)->(∀ v,VR w Z R e v->VR w Z' R z v)->VR w Z R x u->VR w Z' R y u
section
variable {e z:AV}
theorem FzU.refl {x:AV}:FzU e z x x:=fun _ _ _ _ _ hz _ h=>h.mono (fun _ _=>rfl) hz (fun _ _ h=>h)
theorem F7:FzU e z e z:=fun _ _ _ _ u _ k h=>k u h
def FzUs (e z:AV):List AV->List AV->Prop
 | [],[]=>True
 | x::xs,y::ys=>FzU e z x y/\FzUs e z xs ys
 | _,_=>False
theorem FzUs.len:∀ {xs ys:List AV},FzUs e z xs ys->xs.length=ys.length
 | [],[],_=>rfl
 | _::_,_::_,h=>by simp [FzUs.len h.2]
 | [],_::_,h=>h.elim
 | _::_,[],h=>h.elim
theorem FzUs.get:∀ {xs ys:List AV}{i:Nat}{y:AV},FzUs e z xs ys->ys[i]? = some y->∃ x,xs[i]? = some x/\FzU e z x y
 | _::_,_::_,0,_,h,q=>by simp at q; subst q; exact ⟨_,rfl,h.1⟩
 | _::_,_::_,i + 1,_,h,q=>by
  obtain ⟨x,h1,h2⟩:=FzUs.get (i:=i) h.2 (by simpa using q)
  exact ⟨x,by simpa using h1,h2⟩
 | [],[],_,_,_,q=>by simp at q
 | [],_::_,_,_,h,_=>h.elim
 | _::_,[],_,_,h,_=>h.elim
theorem FzU.ag {xs ys:List AV}(h:FzUs e z xs ys):FzU e z (.ag xs) (.ag ys):=fun w Z Z' R u hz k hv=>by
 cases hv with
 | ag hl h1 hx =>
  refine .ag (by rw [hl,h.len]) h1 fun i y u hy hu=>?_
  obtain ⟨x,k1,k2⟩:=h.get hy
  exact k2 _ _ _ _ _ hz k (hx i x u k1 hu)
theorem FzU.fn {f:FuncId}{xs ys:List AV}(h:FzUs e z xs ys):FzU e z (.fn f [] xs) (.fn f [] ys):=fun w Z Z' R u hz k hv=>by
 cases hv with
 | fn hl hl' hx hy =>
  refine .fn hl (by rw [hl',h.len]) (fun i x u h=>by simp at h) fun i y u hy' hu=>?_
  obtain ⟨x,k1,k2⟩:=h.get hy'
  exact k2 _ _ _ _ _ hz k (hy i x u k1 hu)
end
def LkF (l:List (Nat×AV)) (e z:AV):List (Nat×AV)->Prop
 | []=>True
 | (t,y)::r=>(∃ x,lk l t=some x/\FzU e z x y)/\LkF l e z r
theorem LkF.at_ {l:List (Nat×AV)}{e z:AV}:∀ {l':List (Nat×AV)},LkF l e z l'->∀ t y,lk l' t=some y->∃ x,lk l t=some x/\FzU e z x y
 | [],_,t,y,h=>by cases h
 | (k,z0)::r,⟨h1,h2⟩,t,y,h=>by
  rw [Ic] at h
  split at h
  ·next hk=>injection h with h; subst hk h; exact h1
  ·exact h2.at_ t y h
theorem HL {E:Env}{n:Nat}{l l':List (Nat×AV)}{hp:Hp}{α:Type}{o:Oc α}{e:AV}{x:α}{L:List Asn}(ht:T hp (own_ o e x::L)) (hl:LkF l e (o.cd.enc x) l'):∃ hp',WkY E ⟨Fr n l,hp⟩ ⟨Fr n l',hp'⟩/\T hp' L:=by
 obtain ⟨F,p,hn',_,hk⟩:=ht.act
 refine ⟨L4 F hp,fun base w Z R a sr=>?_,hk _ fun b hb _=>PJ hb⟩
 have hown:∀ c,(∃ b ∈ F,∃ r,R[b]? = some r/\c=r.c)->own R hp c:=fun c ⟨b,hb,r,hr,hc⟩=>by
  obtain ⟨B,k1,k2⟩:=o.own p hb
  exact ⟨b,B,r,k1,k2,hr,hc.symm⟩
 have hown':∀ c,own R (L4 F hp) c->own R hp c:=fun c ⟨b,B,r,h1,h2,h3,h4⟩=>⟨b,B,r,(KV.1 h1).2,h2,h3,h4⟩
 have hzo:∀ c,(Z c\/∃ b ∈ F,∃ r,R[b]? = some r/\c=r.c)->Z c\/own R hp c:=fun c hc=>hc.imp_right (hown c)
 have up':∀ {x:AV} {u:Value} {R':List RI},VR w Z R' x u->VR w (fun c=>Z c\/∃ b ∈ F,∃ r,R[b]? = some r/\c=r.c) R' x u:=fun hv=>hv.mono (fun _ _=>rfl) (fun _ h=> .inl h) (fun _ _ h=>h)
 refine ⟨fun c=>Z c\/∃ b ∈ F,∃ r,R[b]? = some r/\c=r.c,R,⟨⟨by simp [L4,sr.hh.len],fun b B hB=>?_,fun b b' B B' r r' h1 f1 h2 f2 g1 g2 e=>?_,fun c hc=>?_⟩,⟨?_,fun t x hx=>?_⟩,?_,fun g x hx=>up' (sr.gl g x hx),sr.bs⟩,⟨rfl,rfl,rfl,Nat.le_refl _,fun _ _ _=>rfl,fun c hc=> .inl (hown' c hc),fun _ h=> .inl h,fun c hc=>(hzo c hc).imp_right .inl,fun _ _ h=>h⟩⟩
 ·obtain ⟨hb,hB⟩:=KV.1 hB
  obtain ⟨r,arr,us,g1,g2,g3,g4,g5,g6,g7,g8,g9,g10⟩:=sr.hh.blk b B hB
  refine ⟨r,arr,us,g1,g2,g3,g4,g5,g6,fun hf=> .inl (g7 hf),fun hf hc=>?_,⟨g9.len,fun i x u hx hu=>up' (g9.at_ i x u hx hu)⟩,g10⟩
  rcases hc with hc | ⟨b',hb',r',hr',hc⟩
  ·exact g8 hf hc
  ·obtain ⟨B',k1,k2⟩:=o.own p hb'
   have:=sr.hh.inj b b' B B' r r' hB hf k1 k2 g1 hr' hc
   exact hb (this ▸ hb')
 ·exact sr.hh.inj b b' B B' r r' (KV.1 h1).2 f1 (KV.1 h2).2 f2 g1 g2 e
 ·rcases hzo c hc with hc | ⟨b,B,r,k1,_,k3,k4⟩
  ·exact sr.hh.zlt c hc
  ·exact k4 ▸ sr.hh.rltL k1 k3
 ·rw [Fz]; have:=sr.fr.1; rw [Fz] at this; exact this
 ·rw [FW] at hx
  split at hx
  ·next ht =>
   injection hx with hx
   obtain ⟨x0,h1,hf⟩:=hl.at_ t x hx
   exact hf _ _ _ _ _ (fun c h=> .inl h) (fun v hv=>(o.vr sr.hh p hv).up) (sr.fr.2 t x0 (by rw [FW,if_pos ht,h1]))
  ·cases hx
 ·exact sr.mks.imp fun q h3 h4 h5=>⟨h3,fun hc=>(hzo q hc).elim h4 h5,fun ho=>h5 (hown' q ho)⟩
/-- What slices.Clone makes is own. -/
theorem Sx {α:Type}{c:Cd α}{k:Nat}{t:TypeId}{h:Hp}{L:List Asn}{xs:List α}{x:AV}{h':Hp}(ht:T h L) (hO:(xs=[]/\x = .e0/\h'=[])\/(x = .rf 0 0 xs.length xs.length/\h'=[some ⟨k,t,xs.map c.enc,false⟩])):∃ e hp,e=shN h.length x/\hp=h++h'/\T hp (own_ (ocL k t (ocV c)) e xs::L):=by
 rcases hO with ⟨rfl,rfl,rfl⟩ | ⟨rfl,rfl⟩
 ·exact ⟨.e0,h,rfl,by simp,T.e0 ht⟩
 ·exact ⟨.rf h.length 0 xs.length xs.length,h++[some ⟨k,t,xs.map c.enc,false⟩],rfl,rfl,Pw (GB ht) rfl⟩
theorem Sw {α:Type}{c:Cd α}{k:Nat}{t:TypeId}{xs:List α}:∀ (x:AV) (h':Hp),((xs=[]/\x = .e0/\h'=[])\/(x = .rf 0 0 xs.length xs.length/\h'=[some ⟨k,t,xs.map c.enc,false⟩]))->N9 x=true/\Ps h'=true:=by
 rintro x h' (⟨rfl,rfl,rfl⟩ | ⟨rfl,rfl⟩)
 ·exact ⟨rfl,rfl⟩
 ·exact ⟨rfl,Qk xs⟩
theorem T9 {α:Type}{c:Cd α}{k:Nat}{t:TypeId}{h:Hp}{L:List Asn}{xs:List α}{x:AV}{h':Hp}(ht:T h L) (hO:x=hd 0 (xs.map c.enc)/\h'=[mk k t (xs.map c.enc)]):∃ e hp,e=shN h.length x/\hp=h++h'/\T hp (own_ (ocL k t (ocV c)) e xs::L):=by
 obtain ⟨rfl,rfl⟩:=hO
 cases xs with
 | nil=>exact ⟨.e0,h++[none],rfl,rfl,T.e0 (ht.grow fun b hb=>List.getElem?_append_left hb)⟩
 | cons a r =>
  refine ⟨.rf h.length 0 (a::r).length (a::r).length,h++[some ⟨k,t,(a::r).map c.enc,false⟩],?_,rfl,Pw (GB ht) rfl⟩
  show _=shN h.length (.rf 0 0 (List.map c.enc (a::r)).length (List.map c.enc (a::r)).length)
  rw [List.length_map]
  rfl
theorem T8 {α:Type}{c:Cd α}{k:Nat}{t:TypeId}{xs:List α}:∀ (x:AV) (h':Hp),(x=hd 0 (xs.map c.enc)/\h'=[mk k t (xs.map c.enc)])->N9 x=true/\Ps h'=true:=by
 rintro x h' ⟨rfl,rfl⟩
 cases xs with
 | nil=>exact ⟨rfl,rfl⟩
 | cons a r=>exact ⟨rfl,Qk (a::r)⟩
/-- What a call hands back, out of what the body does; the interpreter need not take the function. -/
theorem Ro {f:FuncId}{fn:Func}{c:Code}(hf:E0.P.funcs[f]? = some fn) (hc:fn.body=some c) (hcall:B8 E0.P f){ys:List AV}(hle:ys.length<=fn.ntmps){Out:AV->Hp->Prop}
  (sem:Sem E0 ⟨none,false⟩ c ⟨Fr fn.ntmps (BQ 0 ys),[]⟩ fun x s'=>(x = .normal\/x = .ret)/\∃ xs,Es E0.P s'.fr s'.hp fn.results.toList=some xs/\Out (FG xs) s'.hp):SOk f ys Out:=by
 refine ⟨hcall,fun w Z us hz hg hv=>?_⟩
 have hh:HR w Z [] []:=⟨rfl,fun b B hB=>by simp at hB,fun b b' B B' r r' hB=>by simp at hB,hz⟩
 refine Ret.mono (SZ hf hc hle (Q:=fun _ s=>∃ x,s.fr=[some x]/\Out x s.hp) (Sem.mono (CK (Wk.enter hle) sem) fun e s' hs=>?_) hh hv hg) fun v w' hS=>?_
 ·obtain ⟨h1,xs,h2,h3⟩:=hs
  exact ⟨h1,xs,h2,_,rfl,h3⟩
 ·obtain ⟨Z',R',x,h',⟨y,hy,hO⟩,k1,k2,st⟩:=hS
  have hy:x=y:=by simpa using hy
  subst hy
  exact ⟨Z',R',x,h',hO,k1,k2,st⟩
/-- An own value that a cell holds is frozen; the cell holds it as a frozen one. -/
theorem Uo {E:Env}{n:Nat}{l l':List (Nat×AV)}{hp:Hp}{α:Type}{o:Oc α}{e p:AV}{x:α}{k:Nat}{t:TypeId}{L:List Asn}(ht:T hp (own_ o e x::cel p k t e::L)) (hl:LkF l e (o.cd.enc x) l'):∃ hp',WkY E ⟨Fr n l,hp⟩ ⟨Fr n l',hp'⟩/\T hp' (cel p k t (o.cd.enc x)::L):=by
 obtain ⟨FF,⟨F,F',rfl,p1,F2,F3,rfl,⟨b0,rfl,rfl,hb0⟩,q3⟩,hnd⟩:=ht
 obtain ⟨n1,n2,n3⟩:=Fl.1 hnd
 obtain ⟨_,n4,n5⟩:=Fl.1 n2
 have p:o.at_ hp e x F:=p1
 have hb0F:b0 ∉ F:=fun h=>n3 b0 h (by simp)
 have hlt0:b0 < (L4 F hp).length:=by
  have:=Ib hb0
  simpa [L4] using this
 have same:∀ b,b ∉ F->b≠b0->((L4 F hp).set b0 (some ⟨k,t,[o.cd.enc x],false⟩))[b]? = hp[b]?:=fun b hb hne=>by
  rw [List.getElem?_set,if_neg (fun h=>hne h.symm)]
  exact PJ hb
 refine ⟨(L4 F hp).set b0 (some ⟨k,t,[o.cd.enc x],false⟩),fun base w Z R a sr=>?_,⟨[b0]++F3,⟨[b0],F3,rfl,⟨b0,rfl,rfl,by rw [List.getElem?_set,if_pos rfl,if_pos hlt0]⟩,q3.loc fun b hb=>same b (fun h=>n3 b h (by simp [hb])) (fun h=>n5 b0 (by simp) (h ▸ hb))⟩,n2⟩⟩
 have hown:∀ c,(∃ b ∈ F,∃ r,R[b]? = some r/\c=r.c)->own R hp c:=fun c ⟨b,hb,r,hr,hc⟩=>by
  obtain ⟨B,k1,k2⟩:=o.own p hb
  exact ⟨b,B,r,k1,k2,hr,hc.symm⟩
 have hzo:∀ c,(Z c\/∃ b ∈ F,∃ r,R[b]? = some r/\c=r.c)->Z c\/own R hp c:=fun c hc=>hc.imp_right (hown c)
 have up':∀ {x:AV} {u:Value} {R':List RI},VR w Z R' x u->VR w (fun c=>Z c\/∃ b ∈ F,∃ r,R[b]? = some r/\c=r.c) R' x u:=fun hv=>hv.mono (fun _ _=>rfl) (fun _ h=> .inl h) (fun _ _ h=>h)
 have hget:∀ (b:Nat) (B:Blk),((L4 F hp).set b0 (some ⟨k,t,[o.cd.enc x],false⟩))[b]? = some (some B)->b ∉ F/\∃ B0,hp[b]? = some (some B0)/\B0.fz=B.fz/\B0.k=B.k/\B0.t=B.t/\B.es.length=B0.es.length/\∀ (i:Nat) (x':AV),B.es[i]? = some x'->∃ x0,B0.es[i]? = some x0/\∀ u,VR w Z R x0 u->VR w (fun c=>Z c\/∃ b ∈ F,∃ r,R[b]? = some r/\c=r.c) R x' u:=fun b B hB=>by
  rw [List.getElem?_set] at hB
  split at hB
  ·next e0 =>
   subst e0
   try rw [if_pos hlt0] at hB
   have hB:=(OI (OI hB)).symm
   subst hB
   refine ⟨hb0F,_,hb0,rfl,rfl,rfl,rfl,fun i x' hx=>?_⟩
   match i with
   | 0 =>
    simp at hx; subst hx
    exact ⟨_,rfl,fun u hu=>(o.vr sr.hh p hu).up⟩
   | i + 1=>simp at hx
  ·obtain ⟨h1,h2⟩:=KV.1 hB
   exact ⟨h1,B,h2,rfl,rfl,rfl,rfl,fun i x' hx=>⟨x',hx,fun u hu=>up' hu⟩⟩
 have hown':∀ c,own R ((L4 F hp).set b0 (some ⟨k,t,[o.cd.enc x],false⟩)) c->own R hp c:=fun c ⟨b,B,r,h1,h2,h3,h4⟩=>by
  obtain ⟨_,B0,q1,q2,_⟩:=hget b B h1
  exact ⟨b,B0,r,q1,q2.trans h2,h3,h4⟩
 refine ⟨fun c=>Z c\/∃ b ∈ F,∃ r,R[b]? = some r/\c=r.c,R,⟨⟨by simp [L4,sr.hh.len],fun b B hB=>?_,fun b b' B B' r r' h1 f1 h2 f2 g1 g2 e=>?_,fun c hc=>?_⟩,⟨?_,fun t x hx=>?_⟩,?_,fun g x hx=>up' (sr.gl g x hx),sr.bs⟩,⟨rfl,rfl,rfl,Nat.le_refl _,fun _ _ _=>rfl,fun c hc=> .inl (hown' c hc),fun _ h=> .inl h,fun c hc=>(hzo c hc).imp_right .inl,fun _ _ h=>h⟩⟩
 ·obtain ⟨hbF,B0,q1,q2,q3,q4,q5,q6⟩:=hget b B hB
  obtain ⟨r,arr,us,g1,g2,g3,g4,g5,g6,g7,g8,g9,g10⟩:=sr.hh.blk b B0 q1
  rw [q3] at g2 g4 g10
  rw [q4] at g3
  rw [q2] at g7 g8
  refine ⟨r,arr,us,g1,g2,g3,g4,by rw [q5]; exact g5,g6,fun hf=> .inl (g7 hf),fun hf hc=>?_,⟨by rw [g9.len,q5],fun i x' u hx hu=>?_⟩,g10⟩
  ·rcases hc with hc | ⟨b',hb',r',hr',hc⟩
   ·exact g8 hf hc
   ·obtain ⟨B',k1,k2⟩:=o.own p hb'
    have:=sr.hh.inj b b' B0 B' r r' q1 (q2.trans hf) k1 k2 g1 hr' hc
    exact hbF (this ▸ hb')
  ·obtain ⟨x0,r1,r2⟩:=q6 i x' hx
   exact r2 u (g9.at_ i x0 u r1 hu)
 ·obtain ⟨_,B0,q1,q2,_⟩:=hget b B h1
  obtain ⟨_,B0',q1',q2',_⟩:=hget b' B' h2
  exact sr.hh.inj b b' B0 B0' r r' q1 (q2.trans f1) q1' (q2'.trans f2) g1 g2 e
 ·rcases hzo c hc with hc | ⟨b,B,r,k1,_,k3,k4⟩
  ·exact sr.hh.zlt c hc
  ·exact k4 ▸ sr.hh.rltL k1 k3
 ·rw [Fz]; have:=sr.fr.1; rw [Fz] at this; exact this
 ·rw [FW] at hx
  split at hx
  ·next ht =>
   injection hx with hx
   obtain ⟨x0,h1,hf⟩:=hl.at_ t x hx
   exact hf _ _ _ _ _ (fun c h=> .inl h) (fun v hv=>(o.vr sr.hh p hv).up) (sr.fr.2 t x0 (by rw [FW,if_pos ht,h1]))
  ·cases hx
 ·exact sr.mks.imp fun q h3 h4 h5=>⟨h3,fun hc=>(hzo q hc).elim h4 h5,fun ho=>h5 (hown' q ho)⟩
/-- One cell of one value. -/
theorem RF {e:AV}(h:e.notTp=true/\e.notAg=true):e.cel=[e]:=by
 obtain ⟨h1,h2⟩:=h
 cases e <;> first | (exact (Bool.false_ne_true h1).elim) | (exact (Bool.false_ne_true h2).elim) | rfl
theorem SK {e:AV}(h:e.notTp=true/\e.notAg=true):Ts e 0 1 false=some e:=by
 unfold Ts
 rw [RF h]; rfl
theorem Vh {e y:AV}(h:e.notTp=true/\e.notAg=true) (hy:y.notTp=true/\y.notAg=true):Ul e 0 y=some y:=by
 unfold Ul
 rw [RF h,RF hy]
 obtain ⟨h1,h2⟩:=hy
 cases y <;> first | (exact (Bool.false_ne_true h1).elim) | (exact (Bool.false_ne_true h2).elim) | rfl
def by8 (ns:List Int):List UInt8:=ns.map fun n=>UInt8.ofNat n.toNat
theorem WH {w:World}{Z:Nat->Prop}{R:List RI}:∀ {ns:List Int}{us:List Value},VRs w Z R (ns.map fun k=> .v (.int .u8 k)) us->us=ns.map (Value.int .u8)
 | [],us,h=>by
  have:=h.len
  simpa using this
 | k::ns,[],h=>by
  have:=h.len
  simp at this
 | k::ns,u::us,h=>by
  have h0:=h.at_ 0 (.v (.int .u8 k)) u rfl rfl
  have h1:u = .int .u8 k:=by cases h0; rfl
  have h2:VRs w Z R (ns.map fun k=> .v (.int .u8 k)) us:=⟨by have:=h.len; simpa using this,fun i x u hx hu=>h.at_ (i + 1) x u (by simpa using hx) (by simpa using hu)⟩
  rw [h1,WH h2]; rfl
theorem Tn:∀ (ns:List Int),Be (ns.map (Value.int .u8))=ns.map (Value.int .u8)
 | []=>rfl
 | k::ns=>by
  have:=Tn ns
  unfold Be at *
  simp only [List.map_cons,List.flatten_cons,this]
  rfl
theorem RunS.bytes {E:Env}{ops:Array Oper}{rest rest':List Oper}{n:Nat}{l:List (Nat×AV)}{hp:Hp}{K:St->Prop}{d:Nat}{a b e:TypeId}{x:Operand}{ty:TypeId}{pos:String}{af:Array Edge}{g:Option (Nat×Bool)}{bb lo q c:Nat}(ns:List Int) (hr:rest=⟨some d,.convert a b x,ty,pos,af,g⟩::rest') (hw:CF ops (Fr n l) ⟨some d,.convert a b x,ty,pos,af,g⟩=some true)
  (h1:E.P.underlying a=some (.slice e)) (h2:E.P.underlying e=some (.int .u8)) (h3:E.P.underlying b=some .string) (hx:opA E (Fr n l) x=some (.rf bb lo q c)) (hl:JQ hp 1 (.rf bb lo q c)=some (ns.map fun k=> .v (.int .u8 k))) (hn:Nat.ble ns.length maxLen=true) (kk:RunS E ops rest' ⟨Fr n ((d,.st (by8 ns))::l),hp⟩ K):RunS E ops rest ⟨Fr n l,hp⟩ K:=by
 subst hr
 intro base Q ac w Z R sr qq
 refine Jj rfl (wantedA_eq sr hw) ?_
 have hv:=opA_vr sr x _ hx
 unfold Lw
 generalize hva:ac.eval x=v at hv
 have hso:JV E.P a (.rf bb lo q c)=true:=by unfold JV; rw [h1]
 obtain ⟨us,u1,u2,u3,u4⟩:=No sr.hh hv hso hl
 cases hv with
 | rf hr h0 h4 h5 h6 =>
  rename_i m r
  have hus:=WH u1
  subst hus
  have hq:q=ns.length:=by
   simp only [JQ] at hl
   split at hl
   ·split at hl
    ·next hc =>
     injection hl with hl
     have:=congrArg List.length hl
     simp at this
     omega
    ·cases hl
   ·cases hl
  subst hq
  have hf:=u4 ns.length (by simp)
  have hfc:(loadCells ⟨r.c,lo * r.k,none⟩ ns.length).run E.P w = .ok (ns.map (Value.int .u8)).toArray w:=by
   simpa [Builtin.firstCells,List.take_of_length_le,Tn] using hf
  have hrun:(execOp ac.eval ⟨some d,.convert a b x,ty,pos,af,g⟩).run E.P w = .ok (.value (.string (strOfNums ns))) w:=by
   have:=run_convert_bytes_string (P:=E.P) w a b e (some ⟨r.c,lo * r.k,none⟩) ns.length m h1 h2 h3
   rw [run_bytesToString w _ ns.length m ns hfc,foldl_push_bytes] at this
   have e2:(⟨ByteArray.empty.data++(ns.map fun n=>UInt8.ofNat n.toNat).toArray⟩:ByteArray)=strOfNums ns:=by
    simp [strOfNums,ByteArray.empty,ByteArray.emptyWithCapacity]
    rfl
   rw [e2] at this
   simp [execOp,hva,this]
  rw [hrun]
  have sr':=sr.put (d:=some d) (VR.st (w:=w) (Z:=Z) (ρ:=R) (s:=strOfNums ns) (bs:=by8 ns) (strOfNums_data ns) (by unfold by8; rw [List.length_map]; exact Nat.le_of_ble_eq_true hn))
  exact kk base Q _ w Z R (by rwa [DW] at sr') qq
theorem kr.{u}{α:Sort u}{a b:α}(h:a=b:=by kernel_rfl):a=b:=h
/-- The slots of a frame that are told. -/
def slG:Nat->List (Option AV)->List (Nat×AV)
 | _,[]=>[]
 | i,some x::r=>(i,x)::slG (i + 1) r
 | i,none::r=>slG (i + 1) r
theorem UU:∀ (fr:List (Option AV)) (i t:Nat) (x:AV),lk (slG i fr) t=some x->∃ j,t=i + j/\fr[j]? = some (some x)
 | [],_,_,_,h=>by cases h
 | some y::r,i,t,x,h=>by
  rw [slG,Ic] at h
  split at h
  ·next e=>injection h with h; subst e h; exact ⟨0,rfl,rfl⟩
  ·obtain ⟨j,h1,h2⟩:=UU r (i + 1) t x h
   exact ⟨j + 1,by omega,by simpa using h2⟩
 | none::r,i,t,x,h=>by
  obtain ⟨j,h1,h2⟩:=UU r (i + 1) t x h
  exact ⟨j + 1,by omega,by simpa using h2⟩
def frO (o:Option St):List (Nat×AV):=match o with
 | some s=>slG 0 s.fr
 | none=>[]
def Zz (o:Option St):Option (Nat×Hp):=match o with
 | some s=>some (s.fr.length,s.hp)
 | none=>none
section
variable {E:Env}{cx:Cx}{ops:Array Oper}{rest:List Oper}{K:St->Prop}{n n0 k0 m:Nat}{l l':List (Nat×AV)}{hp hp':Hp}{Q:Ex->St->Prop}{id:Nat}{c:Code}
theorem Vg {o:Option St}(h:Zz o=some (n,hp)):∃ fr,o=some ⟨fr,hp⟩/\fr.length=n/\frO o=slG 0 fr:=by
 unfold Zz at h
 split at h
 ·next s =>
  injection h with h
  injection h with h1 h2
  subst h2
  exact ⟨s.fr,rfl,h1,rfl⟩
 ·cases h
theorem SR.comp {base:Bs}{w:World}{Z:Nat->Prop}{R:List RI}{a:Act}{fr:List (Option AV)}(sr:SR E base w Z R ⟨fr,hp⟩ a) (hl:fr.length=n):SR E base w Z R ⟨Fr n (slG 0 fr),hp⟩ a:=by
 refine ⟨sr.hh,⟨?_,fun t x hx=>sr.fr.2 t x ?_⟩,sr.mks,sr.gl,sr.bs⟩
 ·rw [Fz,<-hl]; exact sr.fr.1
 ·rw [FW] at hx
  split at hx
  ·injection hx with hx
   obtain ⟨j,h1,h2⟩:=UU fr 0 t x hx
   rw [Nat.zero_add] at h1
   subst h1
   exact h2
  ·cases hx
/-- Some operations: the state behind them is computed. -/
theorem AX (hE:EnvOk E) (m:Nat) (k:RunL E cx ops (rest.drop m) ⟨Fr n (frO (Il E (evC E 0) ⟨none,false⟩ ops (rest.take m) ⟨Fr n l,hp⟩)),hp⟩ K) (h:Zz (Il E (evC E 0) ⟨none,false⟩ ops (rest.take m) ⟨Fr n l,hp⟩)=some (n,hp):=by kernel_rfl):RunL E cx ops rest ⟨Fr n l,hp⟩ K:=by
 obtain ⟨fr,h1,h2,h3⟩:=Vg h
 rw [h3] at k
 refine Rx hE m h1 ?_
 exact fun ro base Q a w Z R hro sr hy q=>k ro base Q a w Z R hro (sr.comp h2) hy q
/-- All that are left. -/
theorem BK (hE:EnvOk E) (l':List (Nat×AV)) (k:K ⟨Fr n l',hp⟩) (h:TJ (Il E (evC E 0) ⟨none,false⟩ ops rest ⟨Fr n l,hp⟩) l'=some (n,xs2 l',hp):=by kernel_rfl):RunL E cx ops rest ⟨Fr n l,hp⟩ K :=
 II hE rest.length l' hp (by rw [List.take_length]; exact h) (Aw (by simp) k)
theorem BH (hE:EnvOk E){s:St}(h:TJ (Il E (evC E 0) ⟨none,false⟩ ops rest s) l'=some (n,xs2 l',hp):=by kernel_rfl):RunS E ops rest s fun s'=>Wk E s' ⟨Fr n l',hp⟩ :=
 AF hE rest.length l' hp (by rw [List.take_length]; exact h) (AR (by simp) Wk.refl)
theorem WK (hE:EnvOk E) (l':List (Nat×AV)) (k:Q .normal ⟨Fr n l',hp⟩) (h:TJ (Il E (evC E 0) ⟨none,false⟩ ops ops.toList ⟨Fr n l,hp⟩) l'=some (n,xs2 l',hp):=by kernel_rfl):SemY E cx (.region id ops false) ⟨Fr n l,hp⟩ Q :=
 AI (BK hE l' k h)
theorem BJ (hE:EnvOk E) (l':List (Nat×AV)) (k:SemY E cx c ⟨Fr n l',hp⟩ Q) (h:TJ (Il E (evC E 0) ⟨none,false⟩ ops ops.toList ⟨Fr n l,hp⟩) l'=some (n,xs2 l',hp):=by kernel_rfl):SemY E cx (.seq (.region id ops false) c) ⟨Fr n l,hp⟩ Q :=
 AK (WK hE l' k h)
theorem Fb (hE:EnvOk E) (l':List (Nat×AV)) (hp':Hp) (k:Q .normal ⟨Fr n l',hp'⟩) (h:TJ (Il E (evC E 0) ⟨none,false⟩ ops ops.toList ⟨Fr n l,hp⟩) l'=some (n,xs2 l',hp'):=by kernel_rfl):Sem E cx (.region id ops false) ⟨Fr n l,hp⟩ Q :=
 AS (BH hE h) k
theorem AP (hE:EnvOk E) (l':List (Nat×AV)) (hp':Hp) (k:Sem E cx c ⟨Fr n l',hp'⟩ Q) (h:TJ (Il E (evC E 0) ⟨none,false⟩ ops ops.toList ⟨Fr n l,hp⟩) l'=some (n,xs2 l',hp'):=by kernel_rfl):Sem E cx (.seq (.region id ops false) c) ⟨Fr n l,hp⟩ Q :=
 AJ (Fb hE l' hp' k h)
end
/- trestle/trestlelaw03.Guest -/
noncomputable def FL:Code:=Bo Tryz.f74
def FM (x0:(Int×Int)) (x1:(List UInt8)):Option ((Int×Int×(List UInt8)×(List UInt8)×(List UInt8)×Int×Int×(List UInt8)×Bool×Bool×(List UInt8)×(List UInt8)×(List UInt8)×Int×Int×(List UInt8)×Bool×Bool)) :=
 if ((D7 .u8 x0.1 4)!=0)=true then
 if (DK (D7 .u8 (x0.1.fdiv 8) 3) (([97,98,99,100]:List UInt8).length:Int) ([97,98,99,100]:List UInt8).length)=true then
 if (DK 0 (1:Int) ((([97,98,99,100]:List UInt8).take (([97,98,99,100]:List UInt8).length:Int).toNat).drop (D7 .u8 (x0.1.fdiv 8) 3).toNat).length)=true then
 some (x0.1,x0.2,[],[],[],0,0,[],false,false,x1,((((([97,98,99,100]:List UInt8).take (([97,98,99,100]:List UInt8).length:Int).toNat).drop (D7 .u8 (x0.1.fdiv 8) 3).toNat).take (1:Int).toNat).drop (0:Int).toNat),[],(wr .i64 (10 * (wr .i64 (x0.2.tmod 4)))),(wr .i64 (x0.1.tmod 3)),[],((D7 .u8 x0.1 64)!=0),((D7 .u8 x0.2 128)!=0))
 else none
 else none
 else
 some (x0.1,x0.2,[],[],[],0,0,[],false,false,x1,[],[],(wr .i64 (10 * (wr .i64 (x0.2.tmod 4)))),(wr .i64 (x0.1.tmod 3)),[],((D7 .u8 x0.1 64)!=0),((D7 .u8 x0.2 128)!=0))
def FN (r22:Int×Int×(List UInt8)×(List UInt8)×(List UInt8)×Int×Int×(List UInt8)×Bool×Bool×(List UInt8)×(List UInt8)×(List UInt8)×Int×Int×(List UInt8)×Bool×Bool):Option ((Int×Int×(List UInt8)×(List UInt8)×(List UInt8)×Int×Int×(List UInt8)×Bool×Bool×(List UInt8)×(List UInt8)×(List UInt8)×Int×Int×(List UInt8)×Bool×Bool)) :=
 if ((D7 .u8 r22.2.1 4)!=0)=true then
 if (DK (D7 .u8 (r22.2.1.fdiv 8) 3) (([97,98,99,100]:List UInt8).length:Int) ([97,98,99,100]:List UInt8).length)=true then
 if (DK 0 (1:Int) ((([97,98,99,100]:List UInt8).take (([97,98,99,100]:List UInt8).length:Int).toNat).drop (D7 .u8 (r22.2.1.fdiv 8) 3).toNat).length)=true then
 some (r22.1,r22.2.1,r22.2.2.1,r22.2.2.2.1,r22.2.2.2.2.1,r22.2.2.2.2.2.1,r22.2.2.2.2.2.2.1,r22.2.2.2.2.2.2.2.1,r22.2.2.2.2.2.2.2.2.1,r22.2.2.2.2.2.2.2.2.2.1,r22.2.2.2.2.2.2.2.2.2.2.1,r22.2.2.2.2.2.2.2.2.2.2.2.1,((((([97,98,99,100]:List UInt8).take (([97,98,99,100]:List UInt8).length:Int).toNat).drop (D7 .u8 (r22.2.1.fdiv 8) 3).toNat).take (1:Int).toNat).drop (0:Int).toNat),r22.2.2.2.2.2.2.2.2.2.2.2.2.2.1,r22.2.2.2.2.2.2.2.2.2.2.2.2.2.2.1,r22.2.2.2.2.2.2.2.2.2.2.2.2.2.2.2.1,r22.2.2.2.2.2.2.2.2.2.2.2.2.2.2.2.2.1,r22.2.2.2.2.2.2.2.2.2.2.2.2.2.2.2.2.2)
 else none
 else none
 else
 some (r22.1,r22.2.1,r22.2.2.1,r22.2.2.2.1,r22.2.2.2.2.1,r22.2.2.2.2.2.1,r22.2.2.2.2.2.2.1,r22.2.2.2.2.2.2.2.1,r22.2.2.2.2.2.2.2.2.1,r22.2.2.2.2.2.2.2.2.2.1,r22.2.2.2.2.2.2.2.2.2.2.1,r22.2.2.2.2.2.2.2.2.2.2.2.1,r22.2.2.2.2.2.2.2.2.2.2.2.2.1,r22.2.2.2.2.2.2.2.2.2.2.2.2.2.1,r22.2.2.2.2.2.2.2.2.2.2.2.2.2.2.1,r22.2.2.2.2.2.2.2.2.2.2.2.2.2.2.2.1,r22.2.2.2.2.2.2.2.2.2.2.2.2.2.2.2.2.1,r22.2.2.2.2.2.2.2.2.2.2.2.2.2.2.2.2.2)
def FO (r44:Int×Int×(List UInt8)×(List UInt8)×(List UInt8)×Int×Int×(List UInt8)×Bool×Bool×(List UInt8)×(List UInt8)×(List UInt8)×Int×Int×(List UInt8)×Bool×Bool):Option ((Int×Int×(List UInt8)×(List UInt8)×(List UInt8)×Int×Int×(List UInt8)×Bool×Bool×(List UInt8)×(List UInt8)×(List UInt8)×Int×Int×(List UInt8)×Bool×Bool×(List (List UInt8)))) :=
 if ((D7 .u8 r44.2.1 64)!=0)=true then
 if (DK (D7 .u8 (r44.1.fdiv 16) 3) (([97,98,99,100]:List UInt8).length:Int) ([97,98,99,100]:List UInt8).length)=true then
 if (DK 0 (1:Int) ((([97,98,99,100]:List UInt8).take (([97,98,99,100]:List UInt8).length:Int).toNat).drop (D7 .u8 (r44.1.fdiv 16) 3).toNat).length)=true then
 some (r44.1,r44.2.1,r44.2.2.1,r44.2.2.2.1,r44.2.2.2.2.1,r44.2.2.2.2.2.1,r44.2.2.2.2.2.2.1,r44.2.2.2.2.2.2.2.1,r44.2.2.2.2.2.2.2.2.1,r44.2.2.2.2.2.2.2.2.2.1,r44.2.2.2.2.2.2.2.2.2.2.1,r44.2.2.2.2.2.2.2.2.2.2.2.1,r44.2.2.2.2.2.2.2.2.2.2.2.2.1,r44.2.2.2.2.2.2.2.2.2.2.2.2.2.1,r44.2.2.2.2.2.2.2.2.2.2.2.2.2.2.1,r44.2.2.2.2.2.2.2.2.2.2.2.2.2.2.2.1,r44.2.2.2.2.2.2.2.2.2.2.2.2.2.2.2.2.1,r44.2.2.2.2.2.2.2.2.2.2.2.2.2.2.2.2.2,[((((([97,98,99,100]:List UInt8).take (([97,98,99,100]:List UInt8).length:Int).toNat).drop (D7 .u8 (r44.1.fdiv 16) 3).toNat).take (1:Int).toNat).drop (0:Int).toNat)])
 else none
 else none
 else
 some (r44.1,r44.2.1,r44.2.2.1,r44.2.2.2.1,r44.2.2.2.2.1,r44.2.2.2.2.2.1,r44.2.2.2.2.2.2.1,r44.2.2.2.2.2.2.2.1,r44.2.2.2.2.2.2.2.2.1,r44.2.2.2.2.2.2.2.2.2.1,r44.2.2.2.2.2.2.2.2.2.2.1,r44.2.2.2.2.2.2.2.2.2.2.2.1,r44.2.2.2.2.2.2.2.2.2.2.2.2.1,r44.2.2.2.2.2.2.2.2.2.2.2.2.2.1,r44.2.2.2.2.2.2.2.2.2.2.2.2.2.2.1,r44.2.2.2.2.2.2.2.2.2.2.2.2.2.2.2.1,r44.2.2.2.2.2.2.2.2.2.2.2.2.2.2.2.2.1,r44.2.2.2.2.2.2.2.2.2.2.2.2.2.2.2.2.2,[])
def FP (r67:Int×Int×(List UInt8)×(List UInt8)×(List UInt8)×Int×Int×(List UInt8)×Bool×Bool×(List UInt8)×(List UInt8)×(List UInt8)×Int×Int×(List UInt8)×Bool×Bool×(List (List UInt8))):Option (((List UInt8)×(List UInt8)×(List UInt8)×Int×Int×(List UInt8)×Bool×Bool×(List UInt8)×(List UInt8)×(List UInt8)×Int×Int×(List UInt8)×Bool×Bool×(List (List UInt8)))) :=
 if ((D7 .u8 r67.1 128)!=0)=true then
 if (DK (D7 .u8 (r67.2.1.fdiv 16) 3) (([97,98,99,100]:List UInt8).length:Int) ([97,98,99,100]:List UInt8).length)=true then
 if (DK 0 (1:Int) ((([97,98,99,100]:List UInt8).take (([97,98,99,100]:List UInt8).length:Int).toNat).drop (D7 .u8 (r67.2.1.fdiv 16) 3).toNat).length)=true then
 some (r67.2.2.1,r67.2.2.2.1,r67.2.2.2.2.1,r67.2.2.2.2.2.1,r67.2.2.2.2.2.2.1,r67.2.2.2.2.2.2.2.1,r67.2.2.2.2.2.2.2.2.1,r67.2.2.2.2.2.2.2.2.2.1,r67.2.2.2.2.2.2.2.2.2.2.1,r67.2.2.2.2.2.2.2.2.2.2.2.1,r67.2.2.2.2.2.2.2.2.2.2.2.2.1,r67.2.2.2.2.2.2.2.2.2.2.2.2.2.1,r67.2.2.2.2.2.2.2.2.2.2.2.2.2.2.1,((((([97,98,99,100]:List UInt8).take (([97,98,99,100]:List UInt8).length:Int).toNat).drop (D7 .u8 (r67.2.1.fdiv 16) 3).toNat).take (1:Int).toNat).drop (0:Int).toNat),r67.2.2.2.2.2.2.2.2.2.2.2.2.2.2.2.2.1,r67.2.2.2.2.2.2.2.2.2.2.2.2.2.2.2.2.2.1,r67.2.2.2.2.2.2.2.2.2.2.2.2.2.2.2.2.2.2)
 else none
 else none
 else
 some (r67.2.2.1,r67.2.2.2.1,r67.2.2.2.2.1,r67.2.2.2.2.2.1,r67.2.2.2.2.2.2.1,r67.2.2.2.2.2.2.2.1,r67.2.2.2.2.2.2.2.2.1,r67.2.2.2.2.2.2.2.2.2.1,r67.2.2.2.2.2.2.2.2.2.2.1,r67.2.2.2.2.2.2.2.2.2.2.2.1,r67.2.2.2.2.2.2.2.2.2.2.2.2.1,r67.2.2.2.2.2.2.2.2.2.2.2.2.2.1,r67.2.2.2.2.2.2.2.2.2.2.2.2.2.2.1,r67.2.2.2.2.2.2.2.2.2.2.2.2.2.2.2.1,r67.2.2.2.2.2.2.2.2.2.2.2.2.2.2.2.2.1,r67.2.2.2.2.2.2.2.2.2.2.2.2.2.2.2.2.2.1,r67.2.2.2.2.2.2.2.2.2.2.2.2.2.2.2.2.2.2)
def FD (x0:(Int×Int)) (x1:(List UInt8)):Option (Aq) :=
 (FM x0 x1).bind fun r22 =>
 (FN r22).bind fun r44 =>
 (FO r44).bind fun r67 =>
 (FP r67).bind fun r88 =>
 some r88.2.2.2.2.2.2.2.2
def I7:Cs (((Int×Int))×(List UInt8)×Unit):=(csC (Oq (cdK .u8) (cdK .u8) (fun _=>rfl) (fun _=>rfl)) (csC cdS csN))
def JA (r:Aq):AV:=AH.enc r
theorem Ma (x0:(Int×Int)) (x1:(List UInt8)) (r:(Int×Int×(List UInt8)×(List UInt8)×(List UInt8)×Int×Int×(List UInt8)×Bool×Bool×(List UInt8)×(List UInt8)×(List UInt8)×Int×Int×(List UInt8)×Bool×Bool)) (h:FM x0 x1=some r):Sem E0 ⟨none,false⟩ (pc FL [1,1,0,1]) ⟨Fr 71 [(2,.pt 0 0 0),(4,.pt 1 0 0),(5,.pt 2 0 0),(28,.v (.bool ((D7 .u8 x0.1 4)!=0)))],[some ⟨2,30,[.ag [.v (.int .u8 x0.1),.v (.int .u8 x0.2)]],false⟩,some ⟨9,42,[.ag [.st [],.st [],.st [],.v (.int .i64 0),.v (.int .i64 0),.st [],.v (.bool false),.v (.bool false),.e0]],false⟩,some ⟨9,42,[.ag [.st x1,.st [],.st [],.v (.int .i64 (wr .i64 (10 * (wr .i64 (x0.2.tmod 4))))),.v (.int .i64 (wr .i64 (x0.1.tmod 3))),.st [],.v (.bool ((D7 .u8 x0.1 64)!=0)),.v (.bool ((D7 .u8 x0.2 128)!=0)),.e0]],false⟩]⟩ (fun e s=>e = .normal/\Wk E0 s ⟨Fr 71 [(2,.pt 0 0 0),(4,.pt 1 0 0),(5,.pt 2 0 0)],[some ⟨2,30,[.ag [.v (.int .u8 r.1),.v (.int .u8 r.2.1)]],false⟩,some ⟨9,42,[.ag [.st r.2.2.1,.st r.2.2.2.1,.st r.2.2.2.2.1,.v (.int .i64 r.2.2.2.2.2.1),.v (.int .i64 r.2.2.2.2.2.2.1),.st r.2.2.2.2.2.2.2.1,.v (.bool r.2.2.2.2.2.2.2.2.1),.v (.bool r.2.2.2.2.2.2.2.2.2.1),.e0]],false⟩,some ⟨9,42,[.ag [.st r.2.2.2.2.2.2.2.2.2.2.1,.st r.2.2.2.2.2.2.2.2.2.2.2.1,.st r.2.2.2.2.2.2.2.2.2.2.2.2.1,.v (.int .i64 r.2.2.2.2.2.2.2.2.2.2.2.2.2.1),.v (.int .i64 r.2.2.2.2.2.2.2.2.2.2.2.2.2.2.1),.st r.2.2.2.2.2.2.2.2.2.2.2.2.2.2.2.1,.v (.bool r.2.2.2.2.2.2.2.2.2.2.2.2.2.2.2.2.1),.v (.bool r.2.2.2.2.2.2.2.2.2.2.2.2.2.2.2.2.2),.e0]],false⟩]⟩):=by
 unfold FM at h;refine Ab (b:=((D7 .u8 x0.1 4)!=0)) kr (fun hb1=>?_) (fun hb1=>?_)
 ·rw [if_pos hb1] at h
  by_cases hk2:(DK (D7 .u8 (x0.1.fdiv 8) 3) (([97,98,99,100]:List UInt8).length:Int) ([97,98,99,100]:List UInt8).length)=true
  case neg=>rw [if_neg hk2] at h; cases h
  rw [if_pos hk2] at h;by_cases hk3:(DK 0 (1:Int) ((([97,98,99,100]:List UInt8).take (([97,98,99,100]:List UInt8).length:Int).toNat).drop (D7 .u8 (x0.1.fdiv 8) 3).toNat).length)=true
  case neg=>rw [if_neg hk3] at h; cases h
  rw [if_pos hk3] at h
  let p1:Option Blk:=some ⟨9,42,[.ag [.st [],.st [],.st [],.v (.int .i64 0),.v (.int .i64 0),.st [],.v (.bool false),.v (.bool false),.e0]],false⟩
  let p2:Option Blk:=some ⟨2,30,[.ag [.v (.int .u8 x0.1),.v (.int .u8 x0.2)]],false⟩
  refine AS (s1:=⟨Fr 71 [(2,.pt 0 0 0),(4,.pt 1 0 0),(5,.pt 2 0 0)],[p2,p1,some ⟨9,42,[.ag [.st x1,.st ((((([97,98,99,100]:List UInt8).take (([97,98,99,100]:List UInt8).length:Int).toNat).drop (D7 .u8 (x0.1.fdiv 8) 3).toNat).take (1:Int).toNat).drop (0:Int).toNat),.st [],.v (.int .i64 (wr .i64 (10 * (wr .i64 (x0.2.tmod 4))))),.v (.int .i64 (wr .i64 (x0.1.tmod 3))),.st [],.v (.bool ((D7 .u8 x0.1 64)!=0)),.v (.bool ((D7 .u8 x0.2 128)!=0)),.e0]],false⟩]⟩) ?_ ?_
  ·refine AF (n:=71) AC 4 [(2,.pt 0 0 0),(4,.pt 1 0 0),(5,.pt 2 0 0),(32,.v (.int .u8 (D7 .u8 (x0.1.fdiv 8) 3)))] [p2,p1,some ⟨9,42,[.ag [.st x1,.st [],.st [],.v (.int .i64 (wr .i64 (10 * (wr .i64 (x0.2.tmod 4))))),.v (.int .i64 (wr .i64 (x0.1.tmod 3))),.st [],.v (.bool ((D7 .u8 x0.1 64)!=0)),.v (.bool ((D7 .u8 x0.2 128)!=0)),.e0]],false⟩] kr ?_
   refine A6 AC 0 rfl (Cw (AA rfl) rfl (EE (a:= .st [97,98,99,100]) (l:=(some (.v (.int .u8 (D7 .u8 (x0.1.fdiv 8) 3))))) (u:=none) (m:=none) kr kr kr rfl (FY (bs:=[97,98,99,100]) (lo:=(D7 .u8 (x0.1.fdiv 8) 3)) (hi:=(([97,98,99,100]:List UInt8).length:Int)) kr (GR (Nn hk2)) rfl hk2))) ?_;refine A6 AC 0 rfl (Cw (AA rfl) rfl (EE (a:= .st ((([97,98,99,100]:List UInt8).take (([97,98,99,100]:List UInt8).length:Int).toNat).drop (D7 .u8 (x0.1.fdiv 8) 3).toNat)) (l:=none) (u:=(some (.v (.int .i64 1)))) (m:=none) kr kr kr rfl (FY (bs:=((([97,98,99,100]:List UInt8).take (([97,98,99,100]:List UInt8).length:Int).toNat).drop (D7 .u8 (x0.1.fdiv 8) 3).toNat)) (lo:=0) (hi:=(1:Int)) kr rfl (GR (JP hk3)) hk3))) ?_;exact BH AC
  have hq:=OI h; subst hq;exact ⟨rfl,(Az [0,1,2] ⟨⟨_,rfl,C8⟩,⟨_,rfl,C8⟩,⟨_,rfl,C8⟩,trivial⟩ ⟨lv,lv,lv,trivial⟩)⟩
 ·rw [Cg hb1] at h
  refine As ?_;have hq:=OI h; subst hq;exact ⟨rfl,(Az [0,1,2] ⟨⟨_,rfl,C8⟩,⟨_,rfl,C8⟩,⟨_,rfl,C8⟩,trivial⟩ ⟨lv,lv,lv,trivial⟩)⟩
theorem Mb (r22:Int×Int×(List UInt8)×(List UInt8)×(List UInt8)×Int×Int×(List UInt8)×Bool×Bool×(List UInt8)×(List UInt8)×(List UInt8)×Int×Int×(List UInt8)×Bool×Bool) (r:(Int×Int×(List UInt8)×(List UInt8)×(List UInt8)×Int×Int×(List UInt8)×Bool×Bool×(List UInt8)×(List UInt8)×(List UInt8)×Int×Int×(List UInt8)×Bool×Bool)) (h:FN r22=some r):Sem E0 ⟨none,false⟩ (pc FL [1,1,1,0,1]) ⟨Fr 71 [(2,.pt 0 0 0),(4,.pt 1 0 0),(5,.pt 2 0 0),(39,.v (.bool ((D7 .u8 r22.2.1 4)!=0)))],[some ⟨2,30,[.ag [.v (.int .u8 r22.1),.v (.int .u8 r22.2.1)]],false⟩,some ⟨9,42,[.ag [.st r22.2.2.1,.st r22.2.2.2.1,.st r22.2.2.2.2.1,.v (.int .i64 r22.2.2.2.2.2.1),.v (.int .i64 r22.2.2.2.2.2.2.1),.st r22.2.2.2.2.2.2.2.1,.v (.bool r22.2.2.2.2.2.2.2.2.1),.v (.bool r22.2.2.2.2.2.2.2.2.2.1),.e0]],false⟩,some ⟨9,42,[.ag [.st r22.2.2.2.2.2.2.2.2.2.2.1,.st r22.2.2.2.2.2.2.2.2.2.2.2.1,.st r22.2.2.2.2.2.2.2.2.2.2.2.2.1,.v (.int .i64 r22.2.2.2.2.2.2.2.2.2.2.2.2.2.1),.v (.int .i64 r22.2.2.2.2.2.2.2.2.2.2.2.2.2.2.1),.st r22.2.2.2.2.2.2.2.2.2.2.2.2.2.2.2.1,.v (.bool r22.2.2.2.2.2.2.2.2.2.2.2.2.2.2.2.2.1),.v (.bool r22.2.2.2.2.2.2.2.2.2.2.2.2.2.2.2.2.2),.e0]],false⟩]⟩ (fun e s=>e = .normal/\Wk E0 s ⟨Fr 71 [(2,.pt 0 0 0),(4,.pt 1 0 0),(5,.pt 2 0 0)],[some ⟨2,30,[.ag [.v (.int .u8 r.1),.v (.int .u8 r.2.1)]],false⟩,some ⟨9,42,[.ag [.st r.2.2.1,.st r.2.2.2.1,.st r.2.2.2.2.1,.v (.int .i64 r.2.2.2.2.2.1),.v (.int .i64 r.2.2.2.2.2.2.1),.st r.2.2.2.2.2.2.2.1,.v (.bool r.2.2.2.2.2.2.2.2.1),.v (.bool r.2.2.2.2.2.2.2.2.2.1),.e0]],false⟩,some ⟨9,42,[.ag [.st r.2.2.2.2.2.2.2.2.2.2.1,.st r.2.2.2.2.2.2.2.2.2.2.2.1,.st r.2.2.2.2.2.2.2.2.2.2.2.2.1,.v (.int .i64 r.2.2.2.2.2.2.2.2.2.2.2.2.2.1),.v (.int .i64 r.2.2.2.2.2.2.2.2.2.2.2.2.2.2.1),.st r.2.2.2.2.2.2.2.2.2.2.2.2.2.2.2.1,.v (.bool r.2.2.2.2.2.2.2.2.2.2.2.2.2.2.2.2.1),.v (.bool r.2.2.2.2.2.2.2.2.2.2.2.2.2.2.2.2.2),.e0]],false⟩]⟩):=by
 unfold FN at h;refine Ab (b:=((D7 .u8 r22.2.1 4)!=0)) kr (fun hb23=>?_) (fun hb23=>?_)
 ·rw [if_pos hb23] at h
  by_cases hk24:(DK (D7 .u8 (r22.2.1.fdiv 8) 3) (([97,98,99,100]:List UInt8).length:Int) ([97,98,99,100]:List UInt8).length)=true
  case neg=>rw [if_neg hk24] at h; cases h
  rw [if_pos hk24] at h;by_cases hk25:(DK 0 (1:Int) ((([97,98,99,100]:List UInt8).take (([97,98,99,100]:List UInt8).length:Int).toNat).drop (D7 .u8 (r22.2.1.fdiv 8) 3).toNat).length)=true
  case neg=>rw [if_neg hk25] at h; cases h
  rw [if_pos hk25] at h
  let p1:Option Blk:=some ⟨9,42,[.ag [.st r22.2.2.1,.st r22.2.2.2.1,.st r22.2.2.2.2.1,.v (.int .i64 r22.2.2.2.2.2.1),.v (.int .i64 r22.2.2.2.2.2.2.1),.st r22.2.2.2.2.2.2.2.1,.v (.bool r22.2.2.2.2.2.2.2.2.1),.v (.bool r22.2.2.2.2.2.2.2.2.2.1),.e0]],false⟩
  let p2:Option Blk:=some ⟨2,30,[.ag [.v (.int .u8 r22.1),.v (.int .u8 r22.2.1)]],false⟩
  refine AS (s1:=⟨Fr 71 [(2,.pt 0 0 0),(4,.pt 1 0 0),(5,.pt 2 0 0)],[p2,p1,some ⟨9,42,[.ag [.st r22.2.2.2.2.2.2.2.2.2.2.1,.st r22.2.2.2.2.2.2.2.2.2.2.2.1,.st ((((([97,98,99,100]:List UInt8).take (([97,98,99,100]:List UInt8).length:Int).toNat).drop (D7 .u8 (r22.2.1.fdiv 8) 3).toNat).take (1:Int).toNat).drop (0:Int).toNat),.v (.int .i64 r22.2.2.2.2.2.2.2.2.2.2.2.2.2.1),.v (.int .i64 r22.2.2.2.2.2.2.2.2.2.2.2.2.2.2.1),.st r22.2.2.2.2.2.2.2.2.2.2.2.2.2.2.2.1,.v (.bool r22.2.2.2.2.2.2.2.2.2.2.2.2.2.2.2.2.1),.v (.bool r22.2.2.2.2.2.2.2.2.2.2.2.2.2.2.2.2.2),.e0]],false⟩]⟩) ?_ ?_
  ·refine AF (n:=71) AC 4 [(2,.pt 0 0 0),(4,.pt 1 0 0),(5,.pt 2 0 0),(43,.v (.int .u8 (D7 .u8 (r22.2.1.fdiv 8) 3)))] [p2,p1,some ⟨9,42,[.ag [.st r22.2.2.2.2.2.2.2.2.2.2.1,.st r22.2.2.2.2.2.2.2.2.2.2.2.1,.st r22.2.2.2.2.2.2.2.2.2.2.2.2.1,.v (.int .i64 r22.2.2.2.2.2.2.2.2.2.2.2.2.2.1),.v (.int .i64 r22.2.2.2.2.2.2.2.2.2.2.2.2.2.2.1),.st r22.2.2.2.2.2.2.2.2.2.2.2.2.2.2.2.1,.v (.bool r22.2.2.2.2.2.2.2.2.2.2.2.2.2.2.2.2.1),.v (.bool r22.2.2.2.2.2.2.2.2.2.2.2.2.2.2.2.2.2),.e0]],false⟩] kr ?_
   refine A6 AC 0 rfl (Cw (AA rfl) rfl (EE (a:= .st [97,98,99,100]) (l:=(some (.v (.int .u8 (D7 .u8 (r22.2.1.fdiv 8) 3))))) (u:=none) (m:=none) kr kr kr rfl (FY (bs:=[97,98,99,100]) (lo:=(D7 .u8 (r22.2.1.fdiv 8) 3)) (hi:=(([97,98,99,100]:List UInt8).length:Int)) kr (GR (Nn hk24)) rfl hk24))) ?_;refine A6 AC 0 rfl (Cw (AA rfl) rfl (EE (a:= .st ((([97,98,99,100]:List UInt8).take (([97,98,99,100]:List UInt8).length:Int).toNat).drop (D7 .u8 (r22.2.1.fdiv 8) 3).toNat)) (l:=none) (u:=(some (.v (.int .i64 1)))) (m:=none) kr kr kr rfl (FY (bs:=((([97,98,99,100]:List UInt8).take (([97,98,99,100]:List UInt8).length:Int).toNat).drop (D7 .u8 (r22.2.1.fdiv 8) 3).toNat)) (lo:=0) (hi:=(1:Int)) kr rfl (GR (JP hk25)) hk25))) ?_;exact BH AC
  have hq:=OI h; subst hq;exact ⟨rfl,(Az [0,1,2] ⟨⟨_,rfl,C8⟩,⟨_,rfl,C8⟩,⟨_,rfl,C8⟩,trivial⟩ ⟨lv,lv,lv,trivial⟩)⟩
 ·rw [Cg hb23] at h
  refine As ?_;have hq:=OI h; subst hq;exact ⟨rfl,(Az [0,1,2] ⟨⟨_,rfl,C8⟩,⟨_,rfl,C8⟩,⟨_,rfl,C8⟩,trivial⟩ ⟨lv,lv,lv,trivial⟩)⟩
theorem Mc (r44:Int×Int×(List UInt8)×(List UInt8)×(List UInt8)×Int×Int×(List UInt8)×Bool×Bool×(List UInt8)×(List UInt8)×(List UInt8)×Int×Int×(List UInt8)×Bool×Bool) (r:(Int×Int×(List UInt8)×(List UInt8)×(List UInt8)×Int×Int×(List UInt8)×Bool×Bool×(List UInt8)×(List UInt8)×(List UInt8)×Int×Int×(List UInt8)×Bool×Bool×(List (List UInt8)))) (h:FO r44=some r):Sem E0 ⟨none,false⟩ (pc FL [1,1,1,1,0,1]) ⟨Fr 71 [(2,.pt 0 0 0),(4,.pt 1 0 0),(5,.pt 2 0 0),(50,.v (.bool ((D7 .u8 r44.2.1 64)!=0)))],[some ⟨2,30,[.ag [.v (.int .u8 r44.1),.v (.int .u8 r44.2.1)]],false⟩,some ⟨9,42,[.ag [.st r44.2.2.1,.st r44.2.2.2.1,.st r44.2.2.2.2.1,.v (.int .i64 r44.2.2.2.2.2.1),.v (.int .i64 r44.2.2.2.2.2.2.1),.st r44.2.2.2.2.2.2.2.1,.v (.bool r44.2.2.2.2.2.2.2.2.1),.v (.bool r44.2.2.2.2.2.2.2.2.2.1),.e0]],false⟩,some ⟨9,42,[.ag [.st r44.2.2.2.2.2.2.2.2.2.2.1,.st r44.2.2.2.2.2.2.2.2.2.2.2.1,.st r44.2.2.2.2.2.2.2.2.2.2.2.2.1,.v (.int .i64 r44.2.2.2.2.2.2.2.2.2.2.2.2.2.1),.v (.int .i64 r44.2.2.2.2.2.2.2.2.2.2.2.2.2.2.1),.st r44.2.2.2.2.2.2.2.2.2.2.2.2.2.2.2.1,.v (.bool r44.2.2.2.2.2.2.2.2.2.2.2.2.2.2.2.2.1),.v (.bool r44.2.2.2.2.2.2.2.2.2.2.2.2.2.2.2.2.2),.e0]],false⟩]⟩ (fun e s=>e = .normal/\Wk E0 s ⟨Fr 71 [(2,.pt 0 0 0),(4,.pt 1 0 0),(5,.pt 2 0 0)],[some ⟨2,30,[.ag [.v (.int .u8 r.1),.v (.int .u8 r.2.1)]],false⟩,some ⟨9,42,[.ag [.st r.2.2.1,.st r.2.2.2.1,.st r.2.2.2.2.1,.v (.int .i64 r.2.2.2.2.2.1),.v (.int .i64 r.2.2.2.2.2.2.1),.st r.2.2.2.2.2.2.2.1,.v (.bool r.2.2.2.2.2.2.2.2.1),.v (.bool r.2.2.2.2.2.2.2.2.2.1),.e0]],false⟩,some ⟨9,42,[AH.enc r.2.2.2.2.2.2.2.2.2.2],false⟩]⟩):=by
 unfold FO at h;refine Ab (b:=((D7 .u8 r44.2.1 64)!=0)) kr (fun hb45=>?_) (fun hb45=>?_)
 ·rw [if_pos hb45] at h
  by_cases hk46:(DK (D7 .u8 (r44.1.fdiv 16) 3) (([97,98,99,100]:List UInt8).length:Int) ([97,98,99,100]:List UInt8).length)=true
  case neg=>rw [if_neg hk46] at h; cases h
  rw [if_pos hk46] at h;by_cases hk47:(DK 0 (1:Int) ((([97,98,99,100]:List UInt8).take (([97,98,99,100]:List UInt8).length:Int).toNat).drop (D7 .u8 (r44.1.fdiv 16) 3).toNat).length)=true
  case neg=>rw [if_neg hk47] at h; cases h
  rw [if_pos hk47] at h
  let p1:Option Blk:=some ⟨9,42,[.ag [.st r44.2.2.2.2.2.2.2.2.2.2.1,.st r44.2.2.2.2.2.2.2.2.2.2.2.1,.st r44.2.2.2.2.2.2.2.2.2.2.2.2.1,.v (.int .i64 r44.2.2.2.2.2.2.2.2.2.2.2.2.2.1),.v (.int .i64 r44.2.2.2.2.2.2.2.2.2.2.2.2.2.2.1),.st r44.2.2.2.2.2.2.2.2.2.2.2.2.2.2.2.1,.v (.bool r44.2.2.2.2.2.2.2.2.2.2.2.2.2.2.2.2.1),.v (.bool r44.2.2.2.2.2.2.2.2.2.2.2.2.2.2.2.2.2),.sl 1 ([((((([97,98,99,100]:List UInt8).take (([97,98,99,100]:List UInt8).length:Int).toNat).drop (D7 .u8 (r44.1.fdiv 16) 3).toNat).take (1:Int).toNat).drop (0:Int).toNat)].map cdS.enc)]],false⟩
  let p2:Option Blk:=some ⟨9,42,[.ag [.st r44.2.2.1,.st r44.2.2.2.1,.st r44.2.2.2.2.1,.v (.int .i64 r44.2.2.2.2.2.1),.v (.int .i64 r44.2.2.2.2.2.2.1),.st r44.2.2.2.2.2.2.2.1,.v (.bool r44.2.2.2.2.2.2.2.2.1),.v (.bool r44.2.2.2.2.2.2.2.2.2.1),.e0]],false⟩
  let p3:Option Blk:=some ⟨2,30,[.ag [.v (.int .u8 r44.1),.v (.int .u8 r44.2.1)]],false⟩
  let p4:Nat×AV:=(5,.pt 2 0 0)
  let p5:Nat×AV:=(4,.pt 1 0 0)
  let p6:Nat×AV:=(2,.pt 0 0 0)
  refine AS (s1:=⟨Fr 71 [p6,p5,p4],[p3,p2,p1]⟩) ?_ ?_
  ·let p7:Option Blk:=some ⟨9,42,[.ag [.st r44.2.2.2.2.2.2.2.2.2.2.1,.st r44.2.2.2.2.2.2.2.2.2.2.2.1,.st r44.2.2.2.2.2.2.2.2.2.2.2.2.1,.v (.int .i64 r44.2.2.2.2.2.2.2.2.2.2.2.2.2.1),.v (.int .i64 r44.2.2.2.2.2.2.2.2.2.2.2.2.2.2.1),.st r44.2.2.2.2.2.2.2.2.2.2.2.2.2.2.2.1,.v (.bool r44.2.2.2.2.2.2.2.2.2.2.2.2.2.2.2.2.1),.v (.bool r44.2.2.2.2.2.2.2.2.2.2.2.2.2.2.2.2.2),.e0]],false⟩
   refine AF (n:=71) AC 4 [p6,p5,p4,(54,.v (.int .u8 (D7 .u8 (r44.1.fdiv 16) 3)))] [p3,p2,p7] kr ?_;refine A6 AC 0 rfl (Cw (AA rfl) rfl (EE (a:= .st [97,98,99,100]) (l:=(some (.v (.int .u8 (D7 .u8 (r44.1.fdiv 16) 3))))) (u:=none) (m:=none) kr kr kr rfl (FY (bs:=[97,98,99,100]) (lo:=(D7 .u8 (r44.1.fdiv 16) 3)) (hi:=(([97,98,99,100]:List UInt8).length:Int)) kr (GR (Nn hk46)) rfl hk46))) ?_;refine A6 AC 0 rfl (Cw (AA rfl) rfl (EE (a:= .st ((([97,98,99,100]:List UInt8).take (([97,98,99,100]:List UInt8).length:Int).toNat).drop (D7 .u8 (r44.1.fdiv 16) 3).toNat)) (l:=none) (u:=(some (.v (.int .i64 1)))) (m:=none) kr kr kr rfl (FY (bs:=((([97,98,99,100]:List UInt8).take (([97,98,99,100]:List UInt8).length:Int).toNat).drop (D7 .u8 (r44.1.fdiv 16) 3).toNat)) (lo:=0) (hi:=(1:Int)) kr rfl (GR (JP hk47)) hk47))) ?_;refine AF (n:=71) AC 2 [p6,p5,p4,(57,hd 3 ([((((([97,98,99,100]:List UInt8).take (([97,98,99,100]:List UInt8).length:Int).toNat).drop (D7 .u8 (r44.1.fdiv 16) 3).toNat).take (1:Int).toNat).drop (0:Int).toNat)].map cdS.enc)),(58,.pt 2 0 8)] [p3,p2,p7,mk 1 9 ([((((([97,98,99,100]:List UInt8).take (([97,98,99,100]:List UInt8).length:Int).toNat).drop (D7 .u8 (r44.1.fdiv 16) 3).toNat).take (1:Int).toNat).drop (0:Int).toNat)].map cdS.enc)] kr ?_;refine PX (s1:=⟨Fr 71 [p6,p5,p4,(57,.sl 1 ([((((([97,98,99,100]:List UInt8).take (([97,98,99,100]:List UInt8).length:Int).toNat).drop (D7 .u8 (r44.1.fdiv 16) 3).toNat).take (1:Int).toNat).drop (0:Int).toNat)].map cdS.enc)),(58,.pt 2 0 8)],[p3,p2,p7,none]⟩) (LJ 3 (.inl kr) ⟨.inr (.inr ⟨_,_,_,_,rfl,rfl,⟨.inl rfl,trivial⟩⟩),.inr (.inr ⟨_,_,_,_,rfl,rfl,⟨.inl rfl,trivial⟩⟩),.inr (.inr ⟨_,_,_,_,rfl,rfl,⟨.inl rfl,trivial⟩⟩),.inl rfl,trivial⟩ ⟨⟨.pt 0 0 0,kr,.inl rfl⟩,⟨.pt 1 0 0,kr,.inl rfl⟩,⟨.pt 2 0 0,kr,.inl rfl⟩,⟨hd 3 ([((((([97,98,99,100]:List UInt8).take (([97,98,99,100]:List UInt8).length:Int).toNat).drop (D7 .u8 (r44.1.fdiv 16) 3).toNat).take (1:Int).toNat).drop (0:Int).toNat)].map cdS.enc),kr,RT (t:=9) kr Lx⟩,⟨.pt 2 0 8,kr,.inl rfl⟩,trivial⟩) ?_
   refine AF (n:=71) AC 1 [p6,p5,p4] [p3,p2,p1,none] kr ?_;exact AR rfl (Az [0,1,2] ⟨⟨_,rfl,C8⟩,⟨_,rfl,C8⟩,⟨_,rfl,C8⟩,trivial⟩ ⟨lv,lv,lv,trivial⟩)
  have hq:=OI h; subst hq;exact ⟨rfl,(Az [0,1,2] ⟨⟨_,rfl,C8⟩,⟨_,rfl,C8⟩,⟨_,rfl,C8⟩,trivial⟩ ⟨lv,lv,lv,trivial⟩)⟩
 ·rw [Cg hb45] at h
  refine As ?_;have hq:=OI h; subst hq
  let p8:Option Blk:=some ⟨9,42,[.ag [.st r44.2.2.1,.st r44.2.2.2.1,.st r44.2.2.2.2.1,.v (.int .i64 r44.2.2.2.2.2.1),.v (.int .i64 r44.2.2.2.2.2.2.1),.st r44.2.2.2.2.2.2.2.1,.v (.bool r44.2.2.2.2.2.2.2.2.1),.v (.bool r44.2.2.2.2.2.2.2.2.2.1),.e0]],false⟩
  let p9:Option Blk:=some ⟨2,30,[.ag [.v (.int .u8 r44.1),.v (.int .u8 r44.2.1)]],false⟩
  let p10:Option Blk:=some ⟨9,42,[.ag [.st r44.2.2.2.2.2.2.2.2.2.2.1,.st r44.2.2.2.2.2.2.2.2.2.2.2.1,.st r44.2.2.2.2.2.2.2.2.2.2.2.2.1,.v (.int .i64 r44.2.2.2.2.2.2.2.2.2.2.2.2.2.1),.v (.int .i64 r44.2.2.2.2.2.2.2.2.2.2.2.2.2.2.1),.st r44.2.2.2.2.2.2.2.2.2.2.2.2.2.2.2.1,.v (.bool r44.2.2.2.2.2.2.2.2.2.2.2.2.2.2.2.2.1),.v (.bool r44.2.2.2.2.2.2.2.2.2.2.2.2.2.2.2.2.2),.e0]],false⟩
  exact ⟨rfl,(Wk.trans (s1:=⟨Fr 71 [(2,.pt 0 0 0),(4,.pt 1 0 0),(5,.pt 2 0 0)],[p9,p8,p10]⟩) AZ (Wk.trans (s1:=⟨Fr 71 [(2,.pt 0 0 0),(4,.pt 1 0 0),(5,.pt 2 0 0)],[p9,p8,p10,none]⟩) Wk.none (Wk.trans (s1:=⟨Fr 71 [(2,.pt 0 0 0),(4,.pt 1 0 0),(5,.pt 2 0 0)],[p9,p8,some ⟨9,42,[.ag [.st r44.2.2.2.2.2.2.2.2.2.2.1,.st r44.2.2.2.2.2.2.2.2.2.2.2.1,.st r44.2.2.2.2.2.2.2.2.2.2.2.2.1,.v (.int .i64 r44.2.2.2.2.2.2.2.2.2.2.2.2.2.1),.v (.int .i64 r44.2.2.2.2.2.2.2.2.2.2.2.2.2.2.1),.st r44.2.2.2.2.2.2.2.2.2.2.2.2.2.2.2.1,.v (.bool r44.2.2.2.2.2.2.2.2.2.2.2.2.2.2.2.2.1),.v (.bool r44.2.2.2.2.2.2.2.2.2.2.2.2.2.2.2.2.2),.sl 1 ([].map cdS.enc)]],false⟩,none]⟩) (NO 3 (.inr kr) ⟨.inr (.inl rfl),.inr (.inl rfl),.inr (.inr ⟨_,_,_,_,rfl,rfl,⟨(.inr ⟨_,_,rfl,rfl,⟨.inl rfl,.inl rfl,.inl rfl,.inl rfl,.inl rfl,.inl rfl,.inl rfl,.inl rfl,Tr,trivial⟩⟩),trivial⟩⟩),.inl rfl,trivial⟩ ⟨⟨.pt 0 0 0,kr,(.inl (.inl rfl))⟩,⟨.pt 1 0 0,kr,(.inl (.inl rfl))⟩,⟨.pt 2 0 0,kr,(.inl (.inl rfl))⟩,trivial⟩) (Az [0,1,2] ⟨⟨_,rfl,C8⟩,⟨_,rfl,C8⟩,⟨_,rfl,C8⟩,trivial⟩ ⟨lv,lv,lv,trivial⟩))))⟩
theorem Md (r67:Int×Int×(List UInt8)×(List UInt8)×(List UInt8)×Int×Int×(List UInt8)×Bool×Bool×(List UInt8)×(List UInt8)×(List UInt8)×Int×Int×(List UInt8)×Bool×Bool×(List (List UInt8))) (r:((List UInt8)×(List UInt8)×(List UInt8)×Int×Int×(List UInt8)×Bool×Bool×(List UInt8)×(List UInt8)×(List UInt8)×Int×Int×(List UInt8)×Bool×Bool×(List (List UInt8)))) (h:FP r67=some r):Sem E0 ⟨none,false⟩ (pc FL [1,1,1,1,1,0,1]) ⟨Fr 71 [(2,.pt 0 0 0),(4,.pt 1 0 0),(5,.pt 2 0 0),(62,.v (.bool ((D7 .u8 r67.1 128)!=0)))],[some ⟨2,30,[.ag [.v (.int .u8 r67.1),.v (.int .u8 r67.2.1)]],false⟩,some ⟨9,42,[.ag [.st r67.2.2.1,.st r67.2.2.2.1,.st r67.2.2.2.2.1,.v (.int .i64 r67.2.2.2.2.2.1),.v (.int .i64 r67.2.2.2.2.2.2.1),.st r67.2.2.2.2.2.2.2.1,.v (.bool r67.2.2.2.2.2.2.2.2.1),.v (.bool r67.2.2.2.2.2.2.2.2.2.1),.e0]],false⟩,some ⟨9,42,[AH.enc r67.2.2.2.2.2.2.2.2.2.2],false⟩]⟩ (fun e s=>e = .normal/\Wk E0 s ⟨Fr 71 [(4,.pt 0 0 0),(5,.pt 1 0 0)],[some ⟨9,42,[.ag [.st r.1,.st r.2.1,.st r.2.2.1,.v (.int .i64 r.2.2.2.1),.v (.int .i64 r.2.2.2.2.1),.st r.2.2.2.2.2.1,.v (.bool r.2.2.2.2.2.2.1),.v (.bool r.2.2.2.2.2.2.2.1),.e0]],false⟩,some ⟨9,42,[AH.enc r.2.2.2.2.2.2.2.2],false⟩]⟩):=by
 unfold FP at h;refine Ab (b:=((D7 .u8 r67.1 128)!=0)) kr (fun hb68=>?_) (fun hb68=>?_)
 ·rw [if_pos hb68] at h
  by_cases hk69:(DK (D7 .u8 (r67.2.1.fdiv 16) 3) (([97,98,99,100]:List UInt8).length:Int) ([97,98,99,100]:List UInt8).length)=true
  case neg=>rw [if_neg hk69] at h; cases h
  rw [if_pos hk69] at h;by_cases hk70:(DK 0 (1:Int) ((([97,98,99,100]:List UInt8).take (([97,98,99,100]:List UInt8).length:Int).toNat).drop (D7 .u8 (r67.2.1.fdiv 16) 3).toNat).length)=true
  case neg=>rw [if_neg hk70] at h; cases h
  rw [if_pos hk70] at h
  let p1:Option Blk:=some ⟨9,42,[.ag [.st r67.2.2.2.2.2.2.2.2.2.2.1,.st r67.2.2.2.2.2.2.2.2.2.2.2.1,.st r67.2.2.2.2.2.2.2.2.2.2.2.2.1,.v (.int .i64 r67.2.2.2.2.2.2.2.2.2.2.2.2.2.1),.v (.int .i64 r67.2.2.2.2.2.2.2.2.2.2.2.2.2.2.1),.st ((((([97,98,99,100]:List UInt8).take (([97,98,99,100]:List UInt8).length:Int).toNat).drop (D7 .u8 (r67.2.1.fdiv 16) 3).toNat).take (1:Int).toNat).drop (0:Int).toNat),.v (.bool r67.2.2.2.2.2.2.2.2.2.2.2.2.2.2.2.2.1),.v (.bool r67.2.2.2.2.2.2.2.2.2.2.2.2.2.2.2.2.2.1),.sl 1 (r67.2.2.2.2.2.2.2.2.2.2.2.2.2.2.2.2.2.2.map cdS.enc)]],false⟩
  let p2:Option Blk:=some ⟨9,42,[.ag [.st r67.2.2.1,.st r67.2.2.2.1,.st r67.2.2.2.2.1,.v (.int .i64 r67.2.2.2.2.2.1),.v (.int .i64 r67.2.2.2.2.2.2.1),.st r67.2.2.2.2.2.2.2.1,.v (.bool r67.2.2.2.2.2.2.2.2.1),.v (.bool r67.2.2.2.2.2.2.2.2.2.1),.e0]],false⟩
  refine AS (s1:=⟨Fr 71 [(4,.pt 0 0 0),(5,.pt 1 0 0)],[p2,p1]⟩) ?_ ?_
  ·let p3:Option Blk:=some ⟨2,30,[.ag [.v (.int .u8 r67.1),.v (.int .u8 r67.2.1)]],false⟩
   refine AF (n:=71) AC 4 [(4,.pt 1 0 0),(5,.pt 2 0 0),(66,.v (.int .u8 (D7 .u8 (r67.2.1.fdiv 16) 3)))] [p3,p2,some ⟨9,42,[AH.enc r67.2.2.2.2.2.2.2.2.2.2],false⟩] kr ?_;refine A6 AC 0 rfl (Cw (AA rfl) rfl (EE (a:= .st [97,98,99,100]) (l:=(some (.v (.int .u8 (D7 .u8 (r67.2.1.fdiv 16) 3))))) (u:=none) (m:=none) kr kr kr rfl (FY (bs:=[97,98,99,100]) (lo:=(D7 .u8 (r67.2.1.fdiv 16) 3)) (hi:=(([97,98,99,100]:List UInt8).length:Int)) kr (GR (Nn hk69)) rfl hk69))) ?_;refine A6 AC 0 rfl (Cw (AA rfl) rfl (EE (a:= .st ((([97,98,99,100]:List UInt8).take (([97,98,99,100]:List UInt8).length:Int).toNat).drop (D7 .u8 (r67.2.1.fdiv 16) 3).toNat)) (l:=none) (u:=(some (.v (.int .i64 1)))) (m:=none) kr kr kr rfl (FY (bs:=((([97,98,99,100]:List UInt8).take (([97,98,99,100]:List UInt8).length:Int).toNat).drop (D7 .u8 (r67.2.1.fdiv 16) 3).toNat)) (lo:=0) (hi:=(1:Int)) kr rfl (GR (JP hk70)) hk70))) ?_;refine AF (n:=71) AC 2 [(4,.pt 1 0 0),(5,.pt 2 0 0)] [p3,p2,p1] kr ?_;exact AR rfl (Az [1,2] ⟨⟨_,rfl,C8⟩,⟨_,rfl,C8⟩,trivial⟩ ⟨lv,lv,trivial⟩)
  have hq:=OI h; subst hq;exact ⟨rfl,(Az [0,1] ⟨⟨_,rfl,C8⟩,⟨_,rfl,C8⟩,trivial⟩ ⟨lv,lv,trivial⟩)⟩
 ·rw [Cg hb68] at h
  refine As ?_;have hq:=OI h; subst hq;exact ⟨rfl,(Az [1,2] ⟨⟨_,rfl,C8⟩,⟨_,rfl,C8⟩,trivial⟩ ⟨lv,lv,trivial⟩)⟩
theorem N2 (x0:(Int×Int)) (x1:(List UInt8)) (r:Aq) (h:FD x0 x1=some r):Sem E0 ⟨none,false⟩ FL ⟨Fr 71 (BQ 0 (I7.enc (x0,x1,()))),[]⟩ fun e s'=>(e = .normal\/e = .ret)/\∃ xs,Es E0.P s'.fr s'.hp Tryz.f74.results.toList=some xs/\FG xs=JA r:=by
 unfold FD at h;refine BV (CK (s1:=⟨Fr 71 [(0,.ag [.v (.int .u8 x0.1),.v (.int .u8 x0.2)]),(1,.st x1)],[]⟩) AZ ?_)
 let p1:Option Blk:=some ⟨9,42,[.ag [.st [],.st [],.st [],.v (.int .i64 0),.v (.int .i64 0),.st [],.v (.bool false),.v (.bool false),.e0]],false⟩
 let p2:Option Blk:=some ⟨2,30,[.ag [.v (.int .u8 x0.1),.v (.int .u8 x0.2)]],false⟩
 let p3:Nat×AV:=(4,.pt 1 0 0)
 let p4:Nat×AV:=(2,.pt 0 0 0)
 refine AP AC [(1,.st x1),p4,p3] [p2,p1] ?_
 let p5:Option Blk:=some ⟨9,42,[.ag [.st x1,.st [],.st [],.v (.int .i64 (wr .i64 (10 * (wr .i64 (x0.2.tmod 4))))),.v (.int .i64 (wr .i64 (x0.1.tmod 3))),.st [],.v (.bool ((D7 .u8 x0.1 64)!=0)),.v (.bool ((D7 .u8 x0.2 128)!=0)),.e0]],false⟩
 let p6:Nat×AV:=(5,.pt 2 0 0)
 refine AP AC [p4,p3,p6] [p2,p1,p5] ?_;refine AJ ?_;refine AP AC [p4,p3,p6,(28,.v (.bool ((D7 .u8 x0.1 4)!=0)))] [p2,p1,p5] ?_;obtain ⟨r22,hr22,h⟩:=OB h;refine DE (Ma x0 x1 _ hr22) ?_;refine AJ ?_;refine AP AC [p4,p3,p6,(39,.v (.bool ((D7 .u8 r22.2.1 4)!=0)))] [some ⟨2,30,[.ag [.v (.int .u8 r22.1),.v (.int .u8 r22.2.1)]],false⟩,some ⟨9,42,[.ag [.st r22.2.2.1,.st r22.2.2.2.1,.st r22.2.2.2.2.1,.v (.int .i64 r22.2.2.2.2.2.1),.v (.int .i64 r22.2.2.2.2.2.2.1),.st r22.2.2.2.2.2.2.2.1,.v (.bool r22.2.2.2.2.2.2.2.2.1),.v (.bool r22.2.2.2.2.2.2.2.2.2.1),.e0]],false⟩,some ⟨9,42,[.ag [.st r22.2.2.2.2.2.2.2.2.2.2.1,.st r22.2.2.2.2.2.2.2.2.2.2.2.1,.st r22.2.2.2.2.2.2.2.2.2.2.2.2.1,.v (.int .i64 r22.2.2.2.2.2.2.2.2.2.2.2.2.2.1),.v (.int .i64 r22.2.2.2.2.2.2.2.2.2.2.2.2.2.2.1),.st r22.2.2.2.2.2.2.2.2.2.2.2.2.2.2.2.1,.v (.bool r22.2.2.2.2.2.2.2.2.2.2.2.2.2.2.2.2.1),.v (.bool r22.2.2.2.2.2.2.2.2.2.2.2.2.2.2.2.2.2),.e0]],false⟩] ?_;obtain ⟨r44,hr44,h⟩:=OB h;refine DE (Mb r22 _ hr44) ?_;refine AJ ?_;refine AP AC [p4,p3,p6,(50,.v (.bool ((D7 .u8 r44.2.1 64)!=0)))] [some ⟨2,30,[.ag [.v (.int .u8 r44.1),.v (.int .u8 r44.2.1)]],false⟩,some ⟨9,42,[.ag [.st r44.2.2.1,.st r44.2.2.2.1,.st r44.2.2.2.2.1,.v (.int .i64 r44.2.2.2.2.2.1),.v (.int .i64 r44.2.2.2.2.2.2.1),.st r44.2.2.2.2.2.2.2.1,.v (.bool r44.2.2.2.2.2.2.2.2.1),.v (.bool r44.2.2.2.2.2.2.2.2.2.1),.e0]],false⟩,some ⟨9,42,[.ag [.st r44.2.2.2.2.2.2.2.2.2.2.1,.st r44.2.2.2.2.2.2.2.2.2.2.2.1,.st r44.2.2.2.2.2.2.2.2.2.2.2.2.1,.v (.int .i64 r44.2.2.2.2.2.2.2.2.2.2.2.2.2.1),.v (.int .i64 r44.2.2.2.2.2.2.2.2.2.2.2.2.2.2.1),.st r44.2.2.2.2.2.2.2.2.2.2.2.2.2.2.2.1,.v (.bool r44.2.2.2.2.2.2.2.2.2.2.2.2.2.2.2.2.1),.v (.bool r44.2.2.2.2.2.2.2.2.2.2.2.2.2.2.2.2.2),.e0]],false⟩] ?_;obtain ⟨r67,hr67,h⟩:=OB h;refine DE (Mc r44 _ hr67) ?_;refine AJ ?_;refine AP AC [p4,p3,p6,(62,.v (.bool ((D7 .u8 r67.1 128)!=0)))] [some ⟨2,30,[.ag [.v (.int .u8 r67.1),.v (.int .u8 r67.2.1)]],false⟩,some ⟨9,42,[.ag [.st r67.2.2.1,.st r67.2.2.2.1,.st r67.2.2.2.2.1,.v (.int .i64 r67.2.2.2.2.2.1),.v (.int .i64 r67.2.2.2.2.2.2.1),.st r67.2.2.2.2.2.2.2.1,.v (.bool r67.2.2.2.2.2.2.2.2.1),.v (.bool r67.2.2.2.2.2.2.2.2.2.1),.e0]],false⟩,some ⟨9,42,[AH.enc r67.2.2.2.2.2.2.2.2.2.2],false⟩] ?_
 obtain ⟨r88,hr88,h⟩:=OB h;refine DE (Md r67 _ hr88) ?_;refine AJ ?_
 let p7:Option Blk:=some ⟨9,42,[AH.enc r88.2.2.2.2.2.2.2.2],false⟩
 refine AS (s1:=⟨Fr 71 [(4,.pt 0 0 0)],[p7]⟩) ?_ ?_
 ·refine AF (n:=71) AC 2 [(4,.pt 0 0 0)] [p7,p7] kr ?_
  exact AR rfl (Az [0] ⟨⟨_,rfl,C8⟩,trivial⟩ ⟨lv,trivial⟩)
 refine Ah ?_;have hq:=OI h; subst hq;exact ⟨⟨Fr 71 [(4,.pt 0 0 0)],[p7]⟩,(Az [0] ⟨⟨_,rfl,C8⟩,trivial⟩ ⟨lv,trivial⟩),.inr rfl,[AH.enc r88.2.2.2.2.2.2.2.2],kr,kr⟩
def QC:List AV->Option AV:=Ee I7 (fun a=>FD a.1 a.2.1) JA
theorem QK:XOk 74 QC:=by
 refine Ad Tryz.func74 (c:=FL) ?h2 ⟨Tryz.call74⟩ I7 (fun a=>FD a.1 a.2.1) JA (fun a=>(by show 2<=71; decide)) ?h3 ?h4
 case h2=>kernel_rfl
 case h3=>intro b; kernel_rfl
 case h4=>exact fun a b h=>N2 a.1 a.2.1 b h
/- trestle/trestlelaw03.Guests -/
noncomputable def IN:Code:=Bo Tryz.f20
def DV (x0:(List (Int×Int))) (x1:Int):Nat->(List Aq)->Int->Option (((List Aq)))
 | 0,_,_=>none
 | f + 1,c2,c3 =>
  if (decide (c3 < (((x0.take (mnI (x0.length:Int) x1).toNat).drop (0:Int).toNat).length:Int)))=true then
  (idx ((x0.take (mnI (x0.length:Int) x1).toNat).drop (0:Int).toNat) c3).bind fun v5 =>
  if (okB ([103]++(by8 [(wr .u8 (wr .i64 (97 + (wr .i64 (c3.tdiv 26))))),(wr .u8 (wr .i64 (97 + (c3.tmod 26))))])))=true then
  (FD (v5.1,v5.2) ([103]++(by8 [(wr .u8 (wr .i64 (97 + (wr .i64 (c3.tdiv 26))))),(wr .u8 (wr .i64 (97 + (c3.tmod 26))))]))).bind fun v7 =>
  if (Dj 112 (c2.length + 1))=true then
  DV x0 x1 f (c2++[v7]) (wr .i64 (c3 + 1))
  else none
  else none
  else
  some c2
def Er (x0:(List (Int×Int))) (x1:Int):Option ((List Aq)) :=
 if (DK 0 (mnI (x0.length:Int) x1) x0.length)=true then
 (DV x0 x1 100000 [] 0).bind fun r10 =>
 some r10
 else none
def Gm:Cs (((List (Int×Int)))×Int×Unit):=(csC (cdL 2 (Oq (cdK .u8) (cdK .u8) (fun _=>rfl) (fun _=>rfl))) (csC cdI csN))
def Ia (r:(List Aq)):AV:=(cdL 9 AH).enc r
theorem L5 (x0:(List (Int×Int))) (x1:Int):∀ (f:Nat) (c2:(List Aq)) (c3:Int) (r:((List Aq))),DV x0 x1 f c2 c3=some r->SemN E0 ⟨none,false⟩ (pc IN [1,1,0,1,0,0]) f ⟨Fr 38 [(5,hd 0 (c2.map AH.enc)),(13,.sl 2 (((x0.take (mnI (x0.length:Int) x1).toNat).drop (0:Int).toNat).map (Oq (cdK .u8) (cdK .u8) (fun _=>rfl) (fun _=>rfl)).enc)),(14,.v (.int .i64 (((x0.take (mnI (x0.length:Int) x1).toNat).drop (0:Int).toNat).length:Int))),(15,.v (.int .i64 c3))],[mk 9 42 (c2.map AH.enc)]⟩ (fun e s=>e=(.exit 0)/\Wk E0 s ⟨Fr 38 [(5,hd 0 (r.map AH.enc))],[mk 9 42 (r.map AH.enc)]⟩):=by
 intro f;induction f with
 | zero=>intro c2 c3 r h; cases h
 | succ f ih0 =>
  intro c2 c3 r h
  have ih:=fun (c2:(List Aq)) (c3:Int)=>ih0 c2 c3 r
  unfold DV at h;refine FI ?_
  let p1:Option Blk:=mk 9 42 (c2.map AH.enc)
  let p2:Nat×AV:=(15,.v (.int .i64 c3))
  let p3:Nat×AV:=(14,.v (.int .i64 (((x0.take (mnI (x0.length:Int) x1).toNat).drop (0:Int).toNat).length:Int)))
  let p4:Nat×AV:=(13,.sl 2 (((x0.take (mnI (x0.length:Int) x1).toNat).drop (0:Int).toNat).map (Oq (cdK .u8) (cdK .u8) (fun _=>rfl) (fun _=>rfl)).enc))
  let p5:Nat×AV:=(5,hd 0 (c2.map AH.enc))
  refine AP AC [p5,p4,p3,p2,(16,.v (.bool (decide (c3 < (((x0.take (mnI (x0.length:Int) x1).toNat).drop (0:Int).toNat).length:Int)))))] [p1] ?_;refine AJ ?_;refine Ab (b:=(decide (c3 < (((x0.take (mnI (x0.length:Int) x1).toNat).drop (0:Int).toNat).length:Int)))) kr (fun hb4=>?_) (fun hb4=>?_)
  ·rw [if_pos hb4] at h
   refine As ?_;refine AJ ?_;refine CI ?_;refine AJ ?_;obtain ⟨v5,hv5,h⟩:=OB h
   let p6:Option Blk:=some ⟨2,30,[.ag [.v (.int .u8 v5.1),.v (.int .u8 v5.2)]],false⟩
   refine AS (s1:=⟨Fr 38 [p5,(6,.v (.int .i64 c3)),(7,.pt 1 0 0),p4,p3,p2],[p1,p6]⟩) ?_ ?_
   ·refine AF (n:=38) AC 1 [p5,p4,p3,p2,(17,.v (.int .i64 c3))] [p1] kr ?_
    refine A6 AC 0 rfl (Cw (AA rfl) rfl (AQ (a:= .sl 2 (((x0.take (mnI (x0.length:Int) x1).toNat).drop (0:Int).toNat).map (Oq (cdK .u8) (cdK .u8) (fun _=>rfl) (fun _=>rfl)).enc)) (b:= .v (.int .i64 c3)) kr kr (GS (e:=(Oq (cdK .u8) (cdK .u8) (fun _=>rfl) (fun _=>rfl)).enc) (el:=30) (k:=2) (ki:= .i64) kr kr hv5))) ?_;exact BH AC
   by_cases hk6:(okB ([103]++(by8 [(wr .u8 (wr .i64 (97 + (wr .i64 (c3.tdiv 26))))),(wr .u8 (wr .i64 (97 + (c3.tmod 26))))])))=true
   case neg=>rw [if_neg hk6] at h; cases h
   rw [if_pos hk6] at h;obtain ⟨v7,hv7,h⟩:=OB h;by_cases hk8:(Dj 112 (c2.length + 1))=true
   case neg=>rw [if_neg hk8] at h; cases h
   rw [if_pos hk8] at h
   let p7:Option Blk:=mk 9 42 ((c2++[v7]).map AH.enc)
   let p8:Nat×AV:=(5,hd 0 ((c2++[v7]).map AH.enc))
   refine AS (s1:=⟨Fr 38 [p8,p4,p3,p2],[p7]⟩) ?_ ?_
   ·let p9:Option Blk:=mk 1 5 ([(wr .u8 (wr .i64 (97 + (wr .i64 (c3.tdiv 26))))),(wr .u8 (wr .i64 (97 + (c3.tmod 26))))].map (cdK .u8).enc)
    refine AF (n:=38) AC 11 [p4,p3,p2,(20,hd 0 (c2.map AH.enc)),(21,.ag [.v (.int .u8 v5.1),.v (.int .u8 v5.2)]),(30,hd 2 ([(wr .u8 (wr .i64 (97 + (wr .i64 (c3.tdiv 26))))),(wr .u8 (wr .i64 (97 + (c3.tmod 26))))].map (cdK .u8).enc))] [p1,p6,p9] kr ?_;refine RunS.bytes (bb:=2) (lo:=0) (q:=2) (c:=2) (e:=5) [(wr .u8 (wr .i64 (97 + (wr .i64 (c3.tdiv 26))))),(wr .u8 (wr .i64 (97 + (c3.tmod 26))))] rfl (AA rfl) kr kr kr kr kr kr ?_;refine A6 AC 0 rfl (Cw (AA rfl) rfl (Zx (a:= .st [103]) (b:= .st (by8 [(wr .u8 (wr .i64 (97 + (wr .i64 (c3.tdiv 26))))),(wr .u8 (wr .i64 (97 + (c3.tmod 26))))])) kr kr (X6 hk6))) ?_;refine A1 (v:=v7) (caps:=[]) (xs:=[.ag [.v (.int .u8 v5.1),.v (.int .u8 v5.2)],.st ([103]++(by8 [(wr .u8 (wr .i64 (97 + (wr .i64 (c3.tdiv 26))))),(wr .u8 (wr .i64 (97 + (c3.tmod 26))))]))]) (u:=((v5.1,v5.2),([103]++(by8 [(wr .u8 (wr .i64 (97 + (wr .i64 (c3.tdiv 26))))),(wr .u8 (wr .i64 (97 + (c3.tmod 26))))])),())) rfl rfl QK rfl (AA rfl) kr kr (AY (Ay (c:=(Oq (cdK .u8) (cdK .u8) (fun _=>rfl) (fun _=>rfl))) (v:=(v5.1,v5.2))) (AY (Ay (c:=cdS) (v:=([103]++(by8 [(wr .u8 (wr .i64 (97 + (wr .i64 (c3.tdiv 26))))),(wr .u8 (wr .i64 (97 + (c3.tmod 26))))])))) CB)) (.inr kr) (by dsimp only; exact hv7) ?_;refine AF (n:=38) AC 1 [p4,p3,p2,(20,hd 0 (c2.map AH.enc)),(34,hd 3 ([v7].map AH.enc))] [p1,p6,p9,mk 9 42 ([v7].map AH.enc)] kr ?_;refine A6 AC 0 rfl (Q9 (AA rfl) rfl kr kr (FE (a:=hd 0 (c2.map AH.enc)) (b:=hd 3 ([v7].map AH.enc)) kr kr (NP (c:=AH) (xs:=c2) (vs:=[v7]) (k:=9) (bytes:=112) (el:=42) kr kr (NQ (t:=42) kr) (List.cons_ne_nil _ _) kr hk8))) ?_;refine AF (n:=38) AC 1 [(5,hd 4 ((c2++[v7]).map AH.enc)),p4,p3,p2] [none,p6,p9,mk 9 42 ([v7].map AH.enc),p7] kr ?_;exact AR rfl (Az [4] ⟨⟨_,rfl,Dl⟩,trivial⟩ ⟨Dp (b':=4) kr kr,lv,lv,lv,trivial⟩)
   let p10:Nat×AV:=(15,.v (.int .i64 (wr .i64 (c3 + 1))))
   refine Fb AC [p8,p4,p3,p10] [p7] ?_;exact Ck (s1:=⟨Fr 38 [p8,p4,p3,p10],[p7]⟩) (Az [0] ⟨⟨_,rfl,Dl⟩,trivial⟩ ⟨Dp (b':=0) kr kr,lv,lv,lv,trivial⟩) (ih (c2++[v7]) (wr .i64 (c3 + 1)) h)
  ·rw [Cg hb4] at h
   refine F8 ?_;have hq:=OI h; subst hq;exact ⟨rfl,(Az [0] ⟨⟨_,rfl,Dl⟩,trivial⟩ ⟨Dp (b':=0) kr kr,trivial⟩)⟩
theorem NB (x0:(List (Int×Int))) (x1:Int) (r:(List Aq)) (h:Er x0 x1=some r):Sem E0 ⟨none,false⟩ IN ⟨Fr 38 (BQ 0 (Gm.enc (x0,x1,()))),[]⟩ fun e s'=>(e = .normal\/e = .ret)/\∃ xs,Es E0.P s'.fr s'.hp Tryz.f20.results.toList=some xs/\FG xs=Ia r:=by
 unfold Er at h
 let p1:Nat×AV:=(1,.v (.int .i64 x1))
 let p2:Nat×AV:=(0,.sl 2 (x0.map (Oq (cdK .u8) (cdK .u8) (fun _=>rfl) (fun _=>rfl)).enc))
 refine BV (CK (s1:=⟨Fr 38 [p2,p1],[]⟩) AZ ?_);refine AP AC [p2,p1] [] ?_;refine AP AC [p2,p1,(5,.e0)] [] ?_;refine AJ ?_;refine AJ ?_;by_cases hk1:(DK 0 (mnI (x0.length:Int) x1) x0.length)=true
 case neg=>rw [if_neg hk1] at h; cases h
 rw [if_pos hk1] at h
 let p3:Nat×AV:=(15,.v (.int .i64 0))
 let p4:Nat×AV:=(14,.v (.int .i64 (((x0.take (mnI (x0.length:Int) x1).toNat).drop (0:Int).toNat).length:Int)))
 let p5:Nat×AV:=(13,.sl 2 (((x0.take (mnI (x0.length:Int) x1).toNat).drop (0:Int).toNat).map (Oq (cdK .u8) (cdK .u8) (fun _=>rfl) (fun _=>rfl)).enc))
 refine AS (s1:=⟨Fr 38 [(5,.e0),p5,p4,p3],[]⟩) ?_ ?_
 ·let p6:Nat×AV:=(8,.sl 2 (x0.map (Oq (cdK .u8) (cdK .u8) (fun _=>rfl) (fun _=>rfl)).enc))
  refine AF (n:=38) AC 2 [p1,(5,.e0),p6,(9,.sl 2 (x0.map (Oq (cdK .u8) (cdK .u8) (fun _=>rfl) (fun _=>rfl)).enc))] [] kr ?_;refine A6 AC 0 rfl (Cw (AA rfl) rfl (Ed (a:= .sl 2 (x0.map (Oq (cdK .u8) (cdK .u8) (fun _=>rfl) (fun _=>rfl)).enc)) kr (DC (el:=30) kr))) ?_;refine AF (n:=38) AC 2 [(5,.e0),p6,(12,.v (.int .i64 (mnI (x0.length:Int) x1)))] [] kr ?_;refine A6 AC 0 rfl (Cw (AA rfl) rfl (EE (a:= .sl 2 (x0.map (Oq (cdK .u8) (cdK .u8) (fun _=>rfl) (fun _=>rfl)).enc)) (l:=none) (u:=(some (.v (.int .i64 (mnI (x0.length:Int) x1))))) (m:=none) kr kr kr rfl (K0 (xs:=x0) (e:=(Oq (cdK .u8) (cdK .u8) (fun _=>rfl) (fun _=>rfl)).enc) (k:=2) (el:=30) (lo:=0) (hi:=(mnI (x0.length:Int) x1)) kr kr rfl (GR (JP hk1)) hk1))) ?_;refine A6 AC 0 rfl (Cw (AA rfl) rfl (Ed (a:= .sl 2 (((x0.take (mnI (x0.length:Int) x1).toNat).drop (0:Int).toNat).map (Oq (cdK .u8) (cdK .u8) (fun _=>rfl) (fun _=>rfl)).enc)) kr (DC (el:=30) kr))) ?_;exact BH AC
 refine CI ?_;obtain ⟨r10,hr10,h⟩:=OB h;refine F9 (n:=100000) ?_;refine DR (Ck (s1:=⟨Fr 38 [(5,hd 0 ([].map AH.enc)),p5,p4,p3],[mk 9 42 ([].map AH.enc)]⟩) (Wk.trans (s1:=⟨Fr 38 [(5,hd 0 ([].map AH.enc)),p5,p4,p3],[mk 9 42 ([].map AH.enc)]⟩) Wk.none (Az [0] ⟨⟨_,rfl,RD⟩,trivial⟩ ⟨lv,lv,lv,lv,trivial⟩)) (L5 x0 x1 _ [] 0 _ hr10)) ?_;refine AP AC [(4,hd 0 (r10.map AH.enc))] [mk 9 42 (r10.map AH.enc)] ?_;refine Ah ?_;have hq:=OI h; subst hq
 let p7:Nat×AV:=(4,.sl 9 (r10.map AH.enc))
 exact ⟨⟨Fr 38 [p7],[]⟩,(Wk.trans (s1:=⟨Fr 38 [p7],[none]⟩) (LJ 0 (.inl kr) ⟨.inl rfl,trivial⟩ ⟨⟨hd 0 (r10.map AH.enc),kr,RT (t:=42) kr Lx⟩,trivial⟩) (Az [] trivial ⟨lv,trivial⟩)),.inr rfl,[.sl 9 (r10.map AH.enc)],kr,kr⟩
def O6:List AV->Option AV:=Ee Gm (fun a=>Er a.1 a.2.1) Ia
theorem PB:XOk 20 O6:=by
 refine Ad Tryz.func20 (c:=IN) ?h2 ⟨Tryz.call20⟩ Gm (fun a=>Er a.1 a.2.1) Ia (fun a=>(by show 2<=38; decide)) ?h3 ?h4
 case h2=>kernel_rfl
 case h3=>intro b; kernel_rfl
 case h4=>exact fun a b h=>NB a.1 a.2.1 b h
/-- The first n blocks are given up. -/
def S2:Nat->Hp->Hp
 | 0,h=>h
 | n + 1,h=>(S2 n h).set n none
theorem ST {w:World}{Z:Nat->Prop}{R:List RI}{h:Hp}(hh:HR w Z R h):∀ n,HR w Z R (S2 n h)
 | 0=>hh
 | n + 1=>((ST hh n).kill n).1
theorem Ql {h:Hp}:∀ {n b:Nat}{B:Blk},(S2 n h)[b]? = some (some B)->n<=b/\h[b]? = some (some B)
 | 0,b,B,e=>⟨Nat.zero_le _,e⟩
 | n + 1,b,B,e=>by
  unfold S2 at e
  rw [List.getElem?_set] at e
  split at e
  ·split at e <;> cases e
  ·next hne =>
   obtain ⟨h1,h2⟩:=Ql e
   exact ⟨by omega,h2⟩
def RunDX (E:Env) (ops:Array Oper) (T:Nat) (n0 k:Nat) (rest:List Oper) (s:St) (K:St->Prop):Prop :=
 ∀ (base:Bs) (Q:Act->World->Prop) (w0:World) (Z:Nat->Prop) (R0:List RI) (h0:Hp) (a:Act) (w:World) (R:List RI),HR w0 Z R0 h0->n0=h0.length->SR E base w Z R s a->w0.grownBy w none->Step w0 Z R0 h0 w Z R s.hp->(∀ (b:Nat) (B:Option Blk),h0[b]? = some B->s.hp[b]? = some B)->(∀ j,rest[j]? = ops[k + j]?) ->
  (∀ s' a' w' Z' R',K s'->SR E base w' Z' R' s' a'->StepW w0 Z R0 h0 w' Z' R' s'.hp->Q a' w')->H6 E.P ops (fun w'=>w0.grownBy w' none) (D1 ops T) T Q k rest a w
section
variable {E:Env}{cx:Cx}{ops:Array Oper}{pre rest rest':List Oper}{s s1:St}{K:St->Prop}{n n0 k T:Nat}{l:List (Nat×AV)}{hp hp':Hp}{Q:Ex->St->Prop}{id:Nat}{fid:FuncId}
theorem RunDX.done (hr:rest=[]) (kk:K s):RunDX E ops T n0 k rest s K:=by
 subst hr
 exact fun base Q w0 Z R0 h0 a w R _ _ sr hgr st _ _ q=>⟨fun _=>hgr,q s a w Z R kk sr st.w⟩
theorem RunDX.tail (hT:T=k) (h:RunS E ops rest s K):RunDX E ops T n0 k rest s K:=by
 subst hT
 intro base Q w0 Z R0 h0 a w R _ _ sr hgr st _ hops q
 exact KY (h base Q a w Z R sr fun s' a' w' Z' R' hK sr' st'=>q s' a' w' Z' R' hK sr' (st.w.trans st')) (Nat.le_refl _) (fun _=>hgr) (fun j hj=>Kv hj) hops
theorem KC (hE:EnvOk E):∀ {pre:List Oper}{s:St}{k:Nat},(pre.all fun o=>!isW o.op)=true->k + pre.length<=T->opsD E (evC E 0) ⟨none,false⟩ ops n0 pre s=some s1->RunDX E ops T n0 (k + pre.length) rest s1 K->RunDX E ops T n0 k (pre++rest) s K
 | [],s,k,_,_,e,kk=>by injection e with e; subst e; exact kk
 | o::pre,s,k,hp,hT,e,kk=>by
  intro base Q w0 Z R0 h0 a w R hh0 hn0 sr hgr st hpre hops q
  simp only [List.all_cons,Bool.and_eq_true,Bool.not_eq_true'] at hp
  obtain ⟨hW,hp⟩:=hp
  have hok:ops[k]? = some o:=by have:=hops 0; simpa using this.symm
  have hops':∀ j,(pre++rest)[j]? = ops[k + 1 + j]?:=fun j=>by have:=hops (j + 1); simpa [Nat.add_assoc,Nat.add_comm 1 j] using this
  have hk1:k + 1 + pre.length=k + (o::pre).length:=by simp; omega
  have kk':RunDX E ops T n0 (k + 1 + pre.length) rest s1 K:=by rw [hk1]; exact kk
  have hT':k + 1 + pre.length<=T:=by rw [hk1]; exact hT
  have hkT:¬ T<=k:=by omega
  show H6 E.P ops _ _ _ Q k (o::(pre++rest)) a w
  refine ⟨fun _=>hgr,?_⟩
  unfold opsD at e
  rw [if_neg (by rw [hW]; simp)] at e
  split at e
  ·cases e
  ·next hw =>
   rw [if_neg (by rw [wantedA_eq sr hw]; simp)]
   exact KC hE hp hT' e kk' base Q w0 Z R0 h0 _ w R hh0 hn0 (sr.put undef_vr) hgr st hpre hops' q
  ·next hw =>
   rw [if_pos (wantedA_eq sr hw)]
   have hρ:∀ o x,opA E s.fr o=some x->VR w Z R x (a.eval o):=fun o x e=>opA_vr sr o x e
   split at e
   ·next x hx =>
    split at e
    ·next hld =>
     have hq:=N0 hx
     rw [if_neg (by rw [KX hok hq hkT]; simp)]
     obtain ⟨u,hu,hrun⟩:=evOpQ_sound sr.hh hρ hx
     have hquiet:∃ u,VR w Z R x u/\QuietAt E.P (Cf (fun w'=>w0.grownBy w' none) o) o u a:=by
      cases hl:Qj o.op with
      | false=>exact ⟨u,hu,fun w' _=>hrun w' fun h=>by rw [hl] at h; cases h⟩
      | true =>
       obtain ⟨u1,hu1,hq1⟩:=IF hh0 sr hgr st hpre hl (by rw [<-hn0]; exact hld) hx
       exact ⟨u1,hu1,hq1.up (LR hl)⟩
     obtain ⟨u,hu,hquiet⟩:=hquiet
     exact ⟨u,hquiet,KC hE hp hT' e kk' base Q w0 Z R0 h0 _ w R hh0 hn0 (sr.put hu) hgr st hpre hops' q⟩
    ·cases e
   ·split at e
    ·next x h' hx =>
     have hq:=Iz hx
     rw [if_pos (FS hok hq)]
     obtain ⟨u,w',R',h1,h2,h3,h4,h5⟩:=evOpN_sound hρ sr.hh hx
     exact LE h1 (KC hE hp hT' e kk' base Q w0 Z R0 h0 _ w' R' hh0 hn0 ((sr.step h2 h4).put h3) (ER hgr h5) (st.trans h4) (fun b B hb=>JS hx (hpre b B hb)) hops' q)
    ·split at e
     ·next f args tys ho =>
      split at e
      ·next fv xs hf hxs =>
       split at e
       ·next r hr =>
        obtain ⟨x,h'⟩:=r
        have hq:isQ o.op=false:=by rw [ho]; rfl
        rw [if_pos (FS hok hq)]
        obtain ⟨g,uf,uc,hva,hcl,hret⟩:=GE hE (code_sound hE 0).1 (hρ _ _ hf) (opds_vr hρ hxs) sr.hh sr.gl hr
        unfold Lw
        rw [Fu (uf:=uf) (uc:=uc) ho hva rfl hcl w]
        refine Ret.mono hret fun v w' hS=>?_
        obtain ⟨hg1,R',k1,k2,k3⟩:=hS
        exact KC hE hp hT' e kk' base Q w0 Z R0 h0 _ w' R' hh0 hn0 ((sr.step k1 k3).put k2) (ER hgr hg1) (st.trans k3) (fun b B hb=>KJ hr (hpre b B hb)) hops' q
       ·cases e
      ·cases e
     ·cases e
theorem RunDX.one (hE:EnvOk E){s s1:St}{o:Oper}(hr:rest=o::rest') (hW:(!isW o.op&&Nat.blt k T)=true) (h:opsD E (evC E 0) ⟨none,false⟩ ops n0 [o] s=some s1) (kk:RunDX E ops T n0 (k + 1) rest' s1 K):RunDX E ops T n0 k rest s K:=by
 subst hr
 rw [Bool.and_eq_true] at hW
 exact KC (k:=k) hE (pre:=[o]) (by simpa using hW.1) (by have:=Nat.le_of_ble_eq_true hW.2; simpa using this) h kk
/-- An append to a block that was made in this region. -/
theorem RunDX.append (_hE:EnvOk E){o:Oper}{x:AV}{d:Nat}{hM:Hp}(hr:rest=o::rest') (hw:CF ops (Fr n l) o=some true) (hd:o.dst=some d) (hq:isQ o.op=false) (h:NA E.P (opA E (Fr n l)) hp o.op=some (x,hp')) (hm:NA E.P (opA E (Fr n l)) (S2 n0 hp) o.op=some (x,hM)) (hpr:hp'.take n0=hp.take n0) (kk:RunDX E ops T n0 (k + 1) rest' ⟨Fr n ((d,x)::l),hp'⟩ K):RunDX E ops T n0 k rest ⟨Fr n l,hp⟩ K:=by
 subst hr
 intro base Q w0 Z R0 h0 a w R hh0 hn0 sr hgr st hpre hops q
 have hok':ops[k]? = some o:=by have:=hops 0; simpa using this.symm
 have hops':∀ j,rest'[j]? = ops[k + 1 + j]?:=fun j=>by have:=hops (j + 1); simpa [Nat.add_assoc,Nat.add_comm 1 j] using this
 refine ⟨fun _=>hgr,?_⟩
 rw [if_pos (wantedA_eq sr hw),if_pos (FS hok' hq)]
 have hρ:∀ o x,opA E (Fr n l) o=some x->VR w Z R x (a.eval o):=fun o x e=>opA_vr sr o x e
 obtain ⟨u,w',R',h1,h2,h3,h4⟩:=evOpW_sound (o:=o) hρ sr.hh h
 obtain ⟨u2,w2,R2,g1,g2,g3,g4⟩:=evOpW_sound (o:=o) hρ (ST sr.hh n0) hm
 rw [h1] at g1
 injection g1 with _ e2
 subst e2
 -- the blocks of before stay
 have hown:∀ c,own R (S2 n0 hp) c->w0.heap.size<=c:=fun c ⟨b,B,r,k1,k2,k3,k4⟩=>by
  obtain ⟨hb,k1⟩:=Ql k1
  rcases st.own_ c ⟨b,B,r,k1,k2,k3,k4⟩ with ⟨b0,B0,r0,q1,q2,q3,q4⟩ | h
  ·have hlt:b0 < h0.length:=(List.getElem?_eq_some_iff.1 q1).1
   have:=sr.hh.inj b b0 B B0 r r0 k1 k2 (hpre b0 _ q1) q2 k3 (st.r b0 r0 q3) (by rw [k4,q4])
   omega
  ·exact h
 have hgr2:w0.grownBy w' none:=⟨g4.os.trans hgr.os,g4.tape.trans hgr.tape,g4.output.trans hgr.output,Nat.le_trans hgr.size g4.size,fun c hc _=>by
  rw [g4.block c (Nat.lt_of_lt_of_le hc hgr.size) fun ho=>by have:=hown c ho; omega]
  exact hgr.block c hc (by simp)⟩
 refine LE h1 ?_
 have sr':=(sr.step h2 h4).put (d:=o.dst) h3
 rw [hd,show LX (⟨Fr n l,hp⟩:St).fr (some d) x=Fr n ((d,x)::l) from DW n l d _] at sr'
 rw [hd]
 exact kk base Q w0 Z R0 h0 _ w' R' hh0 hn0 sr' hgr2 (st.trans h4) (fun b B hb=>by
  have hlt:b < n0:=by rw [hn0]; exact (List.getElem?_eq_some_iff.1 hb).1
  have e:=congrArg (fun l=>l[b]?) hpr
  simp only [List.getElem?_take,hlt,if_true] at e
  show hp'[b]? = _
  rw [e]; exact hpre b B hb) hops' q
end
section
variable {P:Program}{ops:Array Oper}{C:World->Prop}{Q:Act->World->Prop}{loud:Nat->Bool}{T:Nat}
/-- What a quiet operation yields may come ahead of a loud one. -/
theorem T6 {n i j fuel:Nat}{oi oj:Oper}{v:Value}{listed:Array Bool}{a:Act}{w:World}(ht:LA ops loud T n) (hi:ops[i]? = some oi) (hoj:ops[j]? = some oj) (hsel:∀ (j:Nat) (o:Oper) cs b,ops[j]? = some o->o.op≠ .select cs b) (hcl:Closed ops listed) (hsz:listed.size=ops.size)
  (ap1:∀ d,oi.dst=some d->d ∉ oj.looksAt ops) (ap2:∀ d,oi.dst=some d->oj.dst≠some d) (ap3:∀ d,oj.dst=some d->d ∉ oi.looksAt ops) (hr:i ∈ Region.ready .any ops listed) (hj:j ∈ Region.ready .any ops listed) (hji:j≠i) (hlj:loud j=false) (hya:YieldsM P ops C oj v a)
  (H:mOp P ops C loud i (wpM P ops C loud T Q (fuel + 1) (listed.setIfInBounds i true)) a w):mOp P ops C loud i (wpM P ops C loud T Q fuel ((listed.setIfInBounds j true).setIfInBounds i true)) (a.put oj.dst v) w:=by
 have ap2':∀ d,oj.dst=some d->oi.dst≠some d:=fun d hd hd'=>ap2 d hd' hd
 rw [Rb hi ap3 ap2' (fun cs b=>hsel i oi cs b hi)]
 have hG:∀ u,YieldsM P ops C oj v (a.put oi.dst u):=fun u=>hya.same (execOp_put oj (fun cs b=>hsel j oj cs b hoj) a oi.dst u ap1) (wanted_put oj a oi.dst u ap1)
 have hr2:=ready_mono (md:= .any) (ops:=ops) hj hji
 refine Kw (fun a' w'' h2=>?_) (Ra hi hG H)
 obtain ⟨v',hy',h3⟩:=EU hoj hlj (h2.2.2.2 j hr2)
 rw [LB (WV ht (hcl.set hr) (by simpa using hsz) hoj hlj (mem_ready.1 hr2).1 h2.2.c) h2.1 hy',Array.setIfInBounds_comm _ _ hji]
 exact h3
/-- As wpM_lex, from an operation on behind which the loud ones stand in one order. -/
theorem QH (hs:Region.noSelect ops=true){n k0:Nat}(hsp:∀ k j,k0<=k->k < ops.size->j < ops.size->loud k=true->loud j=true->k < j->JW ops n j k=true) (htl:LA ops loud T n) (hTl:T < ops.size->loud T=true):∀ (l:List Oper) (k:Nat) (listed:Array Bool) (a:Act) (w:World),k0<=k->k + l.length=ops.size->(∀ j,l[j]? = ops[k + j]?) ->
  Region.lexFrom .any ops l.length k listed=true->Closed ops listed->listed.size=ops.size->(∀ j,j < k->listed.getD j true=true)->H6 P ops C loud T Q k l a w->wpM P ops C loud T Q l.length listed a w
 | [],k,listed,a,w,_,hkl,_,hB,_,_,hlt,h=>by
  refine ⟨fun hn=>h.1 ?_,by simpa [Region.lexFrom] using hB,h.2⟩
  rcases Nat.lt_or_ge T k with h1 | h1
  ·exfalso
   have hTs:T < ops.size:=by simp at hkl; omega
   have h2:=hn T (Nat.le_refl _) hTs (hTl hTs)
   rw [hlt T h1] at h2
   cases h2
  ·exact h1
 | o::l,k,listed,a,w,hk0,hkl,hl,hB,hcl,hsz,hlt,h=>by
  have h0:ops[k]? = some o:=by simpa using (hl 0).symm
  have hk:k < ops.size:=(Array.getElem?_eq_some_iff.1 h0).1
  simp only [List.length_cons,Region.lexFrom,Bool.and_eq_true] at hB
  obtain ⟨⟨hr,hf⟩,hB'⟩:=hB
  have hr':k ∈ Region.ready .any ops listed:=by simpa using hr
  have rec_:∀ a w,H6 P ops C loud T Q (k + 1) l a w->wpM P ops C loud T Q l.length (listed.setIfInBounds k true) a w:=fun a w hh =>
   QH hs hsp htl hTl l (k + 1) _ a w (by omega) (by simp at hkl; omega) (fun j=>by have:=hl (j + 1); simpa [Nat.add_assoc,Nat.add_comm 1 j] using this) hB' (hcl.set hr') (by simpa using hsz) (fun j hj=>by
    by_cases hjk:k=j
    ·subst hjk
     have hlt':k < listed.size:=by omega
     simp [hlt']
    ·rw [getD_set_ne true hjk]; exact hlt j (by omega)) hh
  obtain ⟨hC,hh⟩:=h
  have hle:Rw ops loud T listed->k<=T:=fun hn=>by
   rcases Nat.lt_or_ge T k with h1 | h1
   ·exfalso
    have h2:=hn T (Nat.le_refl _) (by omega) (hTl (by omega))
    rw [hlt T h1] at h2
    cases h2
   ·exact h1
  have hst:mOp P ops C loud k (H6 P ops C loud T Q (k + 1) l) a w:=by
   unfold mOp
   rw [h0]
   exact hh
  cases hlk:loud k with
  | false =>
   obtain ⟨v,hy,hK⟩:=EU h0 hlk hst
   exact Kk h0 hlk (Region.noSelect_spec hs) l.length listed a w (fun hn=>hC (hle hn)) hcl hsz (Region.free_spec h0 hf) hr' hy (rec_ _ _ hK)
  | true =>
   refine Sj (n:=n) htl h0 (Region.noSelect_spec hs) l.length listed a w (fun j hj hjk hlj hun=>?_) hcl hsz (fun hn=>hC (hle hn)) (Region.free_spec h0 hf) hr' (Kw rec_ hst)
   ·have hkj:k < j:=by
     rcases Nat.lt_trichotomy k j with h1 | h1 | h1
     ·exact h1
     ·exact absurd h1.symm hjk
     ·rw [hlt j h1] at hun; cases hun
    exact hsp k j hk0 hk hj hlk hlj hkj
/-- The walk, of which p and the operation behind it are taken in both orders. -/
def Y6 (P:Program) (ops:Array Oper) (C:World->Prop) (loud:Nat->Bool) (T:Nat) (Q:Act->World->Prop) (p:Nat) (rest:List Oper) (a:Act) (w:World):Prop :=
 C w/\mOp P ops C loud p (fun a w=>C w/\mOp P ops C loud (p + 1) (H6 P ops C loud T Q (p + 2) rest) a w) a w/\mOp P ops C loud (p + 1) (fun a w=>C w/\mOp P ops C loud p (H6 P ops C loud T Q (p + 2) rest) a w) a w
def Q7 (P:Program) (ops:Array Oper) (C:World->Prop) (loud:Nat->Bool) (T:Nat) (Q:Act->World->Prop) (p:Nat):Nat->List Oper->Act->World->Prop
 | _,[],_,_=>False
 | k,_::rest,a,w=>if k=p then Y6 P ops C loud T Q p (rest.drop 1) a w else (k<=T->C w)/\mOp P ops C loud k (Q7 P ops C loud T Q p (k + 1) rest) a w
end
/-- One operation of such a region, whatever stands behind it. -/
def Op1 (E:Env) (ops:Array Oper) (T n0 k:Nat) (o:Oper) (s:St) (Ks:St->Prop):Prop :=
 ∀ (base:Bs) (K:Act->World->Prop) (w0:World) (Z:Nat->Prop) (R0:List RI) (h0:Hp) (a:Act) (w:World) (R:List RI),HR w0 Z R0 h0->n0=h0.length->SR E base w Z R s a->w0.grownBy w none->Step w0 Z R0 h0 w Z R s.hp->(∀ (b:Nat) (B:Option Blk),h0[b]? = some B->s.hp[b]? = some B)->ops[k]? = some o ->
  (∀ s' a' w' R',Ks s'->SR E base w' Z R' s' a'->w0.grownBy w' none->Step w0 Z R0 h0 w' Z R' s'.hp->(∀ (b:Nat) (B:Option Blk),h0[b]? = some B->s'.hp[b]? = some B)->K a' w')->mOp E.P ops (fun w'=>w0.grownBy w' none) (D1 ops T) k K a w
def RunDP (E:Env) (ops:Array Oper) (T p n0 k:Nat) (rest:List Oper) (s:St) (K:St->Prop):Prop :=
 ∀ (base:Bs) (Q:Act->World->Prop) (w0:World) (Z:Nat->Prop) (R0:List RI) (h0:Hp) (a:Act) (w:World) (R:List RI),HR w0 Z R0 h0->n0=h0.length->SR E base w Z R s a->w0.grownBy w none->Step w0 Z R0 h0 w Z R s.hp->(∀ (b:Nat) (B:Option Blk),h0[b]? = some B->s.hp[b]? = some B)->(∀ j,rest[j]? = ops[k + j]?) ->
  (∀ s' a' w' Z' R',K s'->SR E base w' Z' R' s' a'->StepW w0 Z R0 h0 w' Z' R' s'.hp->Q a' w')->Q7 E.P ops (fun w'=>w0.grownBy w' none) (D1 ops T) T Q p k rest a w
section
variable {E:Env}{cx:Cx}{ops:Array Oper}{pre rest rest':List Oper}{s s1:St}{K Ks:St->Prop}{n n0 k T p:Nat}{l:List (Nat×AV)}{hp hp':Hp}{Q:Ex->St->Prop}{id:Nat}{fid:FuncId}{o:Oper}
theorem UH (hW:isW o.op=false) (e:opsD E (evC E 0) ⟨none,false⟩ ops n0 (o::pre) s=some s1):∃ s2,opsD E (evC E 0) ⟨none,false⟩ ops n0 [o] s=some s2/\opsD E (evC E 0) ⟨none,false⟩ ops n0 pre s2=some s1:=by
 have hW':¬ isW o.op=true:=by rw [hW]; simp
 unfold opsD at e
 rw [if_neg hW'] at e
 split at e
 ·cases e
 ·next hw=>exact ⟨_,by unfold opsD; rw [if_neg hW']; simp only [hw]; rfl,e⟩
 ·next hw =>
  split at e
  ·next x hx =>
   split at e
   ·next hld=>exact ⟨_,by unfold opsD; rw [if_neg hW']; simp only [hw,hx,hld,if_true]; rfl,e⟩
   ·cases e
  ·next hx =>
   split at e
   ·next x h' hn=>exact ⟨_,by unfold opsD; rw [if_neg hW']; simp only [hw,hx,hn]; rfl,e⟩
   ·next hn =>
    split at e
    ·next f args tys ho =>
     split at e
     ·next fv xs hf hxs =>
      split at e
      ·next r hr=>exact ⟨_,by unfold opsD; rw [if_neg hW']; simp only [hw,hx,hn,ho,hf,hxs,hr]; rfl,e⟩
      ·cases e
     ·cases e
    ·cases e
theorem Xu (hE:EnvOk E) (hW:isW o.op=false) (hk:k < T) (e:opsD E (evC E 0) ⟨none,false⟩ ops n0 [o] s=some s1) (kk:Ks s1):Op1 E ops T n0 k o s Ks:=by
 intro base K w0 Z R0 h0 a w R hh0 hn0 sr hgr st hpre hok q
 have hkT:¬ T<=k:=by omega
 unfold mOp
 rw [hok]
 dsimp only
 unfold opsD at e
 rw [if_neg (by rw [hW]; simp)] at e
 split at e
 ·cases e
 ·next hw =>
  rw [if_neg (by rw [wantedA_eq sr hw]; simp)]
  injection e with e
  subst e
  exact q _ _ w R kk (sr.put undef_vr) hgr st hpre
 ·next hw =>
  rw [if_pos (wantedA_eq sr hw)]
  have hρ:∀ o x,opA E s.fr o=some x->VR w Z R x (a.eval o):=fun o x e=>opA_vr sr o x e
  split at e
  ·next x hx =>
   split at e
   ·next hld =>
    injection e with e
    subst e
    have hq:=N0 hx
    rw [if_neg (by rw [KX hok hq hkT]; simp)]
    obtain ⟨u,hu,hrun⟩:=evOpQ_sound sr.hh hρ hx
    have hquiet:∃ u,VR w Z R x u/\QuietAt E.P (Cf (fun w'=>w0.grownBy w' none) o) o u a:=by
     cases hl:Qj o.op with
     | false=>exact ⟨u,hu,fun w' _=>hrun w' fun h=>by rw [hl] at h; cases h⟩
     | true =>
      obtain ⟨u1,hu1,hq1⟩:=IF hh0 sr hgr st hpre hl (by rw [<-hn0]; exact hld) hx
      exact ⟨u1,hu1,hq1.up (LR hl)⟩
    obtain ⟨u,hu,hquiet⟩:=hquiet
    exact ⟨u,hquiet,q _ _ w R kk (sr.put hu) hgr st hpre⟩
   ·cases e
  ·split at e
   ·next x h' hx =>
    injection e with e
    subst e
    have hq:=Iz hx
    rw [if_pos (FS hok hq)]
    obtain ⟨u,w',R',h1,h2,h3,h4,h5⟩:=evOpN_sound hρ sr.hh hx
    exact LE h1 (q _ _ w' R' kk ((sr.step h2 h4).put h3) (ER hgr h5) (st.trans h4) fun b B hb=>JS hx (hpre b B hb))
   ·split at e
    ·next f args tys ho =>
     split at e
     ·next fv xs hf hxs =>
      split at e
      ·next r hr =>
       injection e with e
       subst e
       obtain ⟨x,h'⟩:=r
       have hq:isQ o.op=false:=by rw [ho]; rfl
       rw [if_pos (FS hok hq)]
       obtain ⟨g,uf,uc,hva,hcl,hret⟩:=GE hE (code_sound hE 0).1 (hρ _ _ hf) (opds_vr hρ hxs) sr.hh sr.gl hr
       unfold Lw
       rw [Fu (uf:=uf) (uc:=uc) ho hva rfl hcl w]
       refine Ret.mono hret fun v w' hS=>?_
       obtain ⟨hg1,R',k1,k2,k3⟩:=hS
       exact q _ _ w' R' kk ((sr.step k1 k3).put k2) (ER hgr hg1) (st.trans k3) fun b B hb=>KJ hr (hpre b B hb)
      ·cases e
     ·cases e
    ·cases e
theorem Op1.one (hE:EnvOk E) (hW:(!isW o.op&&Nat.blt k T)=true) (h:opsD E (evC E 0) ⟨none,false⟩ ops n0 [o] s=some s1) (kk:Ks s1):Op1 E ops T n0 k o s Ks:=by
 simp only [Bool.and_eq_true,Bool.not_eq_true'] at hW
 exact Xu hE hW.1 (Nat.le_of_ble_eq_true hW.2) h kk
/-- The walk up to the two. -/
theorem QQ (hE:EnvOk E):∀ {pre:List Oper}{s:St}{k:Nat},(pre.all fun o=>!isW o.op)=true->k + pre.length<=p->p + 2<=T->opsD E (evC E 0) ⟨none,false⟩ ops n0 pre s=some s1->RunDP E ops T p n0 (k + pre.length) rest s1 K->RunDP E ops T p n0 k (pre++rest) s K
 | [],s,k,_,_,_,e,kk=>by injection e with e; subst e; exact kk
 | o::pre,s,k,hp,hT,hpT,e,kk=>by
  intro base Q w0 Z R0 h0 a w R hh0 hn0 sr hgr st hpre hops q
  simp only [List.all_cons,Bool.and_eq_true,Bool.not_eq_true'] at hp
  obtain ⟨hW,hp⟩:=hp
  obtain ⟨s2,e1,e2⟩:=UH hW e
  have hok:ops[k]? = some o:=by have:=hops 0; simpa using this.symm
  have hops':∀ j,(pre++rest)[j]? = ops[k + 1 + j]?:=fun j=>by have:=hops (j + 1); simpa [Nat.add_assoc,Nat.add_comm 1 j] using this
  have hk1:k + 1 + pre.length=k + (o::pre).length:=by simp; omega
  have kk':RunDP E ops T p n0 (k + 1 + pre.length) rest s1 K:=by rw [hk1]; exact kk
  simp only [List.length_cons] at hT
  show Q7 E.P ops _ _ _ Q p k (o::(pre++rest)) a w
  unfold Q7
  rw [if_neg (by omega)]
  refine ⟨fun _=>hgr,?_⟩
  refine Xu (Ks:=fun s=>s=s2) hE hW (by omega) e1 rfl base _ w0 Z R0 h0 a w R hh0 hn0 sr hgr st hpre hok fun s' a' w' R' hs sr' hg' st' hp'=>?_
  subst hs
  exact QQ hE hp (by omega) hpT e2 kk' base Q w0 Z R0 h0 a' w' R' hh0 hn0 sr' hg' st' hp' hops' q
theorem RunDP.one (hE:EnvOk E) (hr:rest=o::rest') (hW:(!isW o.op&&Nat.blt k p&&Nat.ble (p + 2) T)=true) (h:opsD E (evC E 0) ⟨none,false⟩ ops n0 [o] s=some s1) (kk:RunDP E ops T p n0 (k + 1) rest' s1 K):RunDP E ops T p n0 k rest s K:=by
 subst hr
 simp only [Bool.and_eq_true] at hW
 exact QQ (k:=k) hE (pre:=[o]) (by simpa using hW.1.1) (by have:=Nat.le_of_ble_eq_true hW.1.2; simpa using this) (Nat.le_of_ble_eq_true hW.2) h kk
/-- The two, in both orders. -/
theorem RunDP.two {o1 o2:Oper}(hr:rest=o1::o2::rest') (hA:Op1 E ops T n0 p o1 s fun s1=>Op1 E ops T n0 (p + 1) o2 s1 fun s2=>RunDX E ops T n0 (p + 2) rest' s2 K) (hB:Op1 E ops T n0 (p + 1) o2 s fun s1=>Op1 E ops T n0 p o1 s1 fun s2=>RunDX E ops T n0 (p + 2) rest' s2 K):RunDP E ops T p n0 p rest s K:=by
 subst hr
 intro base Q w0 Z R0 h0 a w R hh0 hn0 sr hgr st hpre hops q
 have hk1:ops[p]? = some o1:=by have:=hops 0; simpa using this.symm
 have hk2:ops[p + 1]? = some o2:=by have:=hops 1; simpa using this.symm
 have hops':∀ j,rest'[j]? = ops[p + 2 + j]?:=fun j=>by have:=hops (j + 2); rw [show p + 2 + j=p + (j + 2) by omega]; simpa using this
 unfold Q7
 rw [if_pos rfl]
 refine ⟨hgr,?_,?_⟩
 ·refine hA base _ w0 Z R0 h0 a w R hh0 hn0 sr hgr st hpre hk1 fun s1 a1 w1 R1 h1 sr1 hg1 st1 hp1=>⟨hg1,?_⟩
  exact h1 base _ w0 Z R0 h0 a1 w1 R1 hh0 hn0 sr1 hg1 st1 hp1 hk2 fun s2 a2 w2 R2 h2 sr2 hg2 st2 hp2=>h2 base Q w0 Z R0 h0 a2 w2 R2 hh0 hn0 sr2 hg2 st2 hp2 hops' q
 ·refine hB base _ w0 Z R0 h0 a w R hh0 hn0 sr hgr st hpre hk2 fun s1 a1 w1 R1 h1 sr1 hg1 st1 hp1=>⟨hg1,?_⟩
  exact h1 base _ w0 Z R0 h0 a1 w1 R1 hh0 hn0 sr1 hg1 st1 hp1 hk1 fun s2 a2 w2 R2 h2 sr2 hg2 st2 hp2=>h2 base Q w0 Z R0 h0 a2 w2 R2 hh0 hn0 sr2 hg2 st2 hp2 hops' q
end
section
variable {P:Program}{ops:Array Oper}{C:World->Prop}{Q:Act->World->Prop}{loud:Nat->Bool}{T:Nat}
/-- Loud operations that may come up now: one of them is the first loud one, if every other stands behind one of them. -/
theorem Oe {n:Nat}(L:List Nat) (hL:L≠[]) (ht:LA ops loud T n) (hin:∀ i ∈ L,∃ o,ops[i]? = some o) (hsel:∀ (j:Nat) (o:Oper) cs b,ops[j]? = some o->o.op≠ .select cs b) :
  ∀ (fuel:Nat) (listed:Array Bool) (a:Act) (w:World),(∀ j,j < ops.size->j ∉ L->loud j=true->listed.getD j true=false->∃ i ∈ L,JW ops n j i=true)->Closed ops listed->listed.size=ops.size->(Rw ops loud T listed->C w) ->
   (∀ i ∈ L,∀ oi,ops[i]? = some oi->∀ j oj,ops[j]? = some oj->j≠i->listed.getD j true=false->(∀ e ∈ oj.after,Region.binds .any e=true->e.on≠i)->oi.apart ops oj=true) ->
   (∀ i ∈ L,i ∈ Region.ready .any ops listed) ->
   (∀ i ∈ L,mOp P ops C loud i (wpM P ops C loud T Q fuel (listed.setIfInBounds i true)) a w)->wpM P ops C loud T Q (fuel + 1) listed a w:=by
 intro fuel
 obtain ⟨i0,hi0⟩:=List.exists_mem_of_ne_nil L hL
 obtain ⟨o0,ho0⟩:=hin i0 hi0
 induction fuel with
 | zero =>
  intro listed a w _ _ _ hC _ hr H
  refine ⟨hC,fun h=>(by have:=hr i0 hi0; rw [h] at this; cases this),fun j hj=>?_⟩
  by_cases hji:j ∈ L
  ·exact H j hji
  ·obtain ⟨u,w',h1⟩:=L6 ho0 (H i0 hi0)
   have:=ready_mono hj (fun e=>hji (e ▸ hi0))
   rw [h1.2.1] at this
   cases this
 | succ fuel ih =>
  intro listed a w hT hcl hsz hC hfree hr H
  refine ⟨hC,fun h=>(by have:=hr i0 hi0; rw [h] at this; cases this),fun j hj=>?_⟩
  by_cases hji:j ∈ L
  ·exact H j hji
  obtain ⟨hjun,oj,hoj,hall⟩:=mem_ready.1 hj
  have hnl:∀ i ∈ L,¬ listed.getD i false=true:=fun i hi h1=>by
   obtain ⟨ox,hx⟩:=hin i hi
   have hun:=(mem_ready.1 (hr i hi)).1
   have hlt:i < ops.size:=(Array.getElem?_eq_some_iff.1 hx).1
   have h':i < listed.size:=by omega
   simp [h'] at hun h1; rw [hun] at h1; cases h1
  have hne:∀ i ∈ L,j≠i:=fun i hi e=>hji (e ▸ hi)
  have hnot:∀ i ∈ L,∀ e ∈ oj.after,Region.binds .any e=true->e.on≠i:=fun i hi e he hb heq=>hnl i hi (by rw [<-heq]; exact hall e he hb)
  have hjlt:j < ops.size:=(Array.getElem?_eq_some_iff.1 hoj).1
  have hlj:loud j=false:=by
   cases hlj:loud j with
   | false=>rfl
   | true =>
    obtain ⟨i,hi,hw⟩:=hT j hjlt hji hlj hjun
    exact absurd (Jn hcl n j i hw fun o ho e he hb=>by rw [hoj] at ho; injection ho with ho; subst ho; exact hall e he hb) (hnl i hi)
  have ap:∀ i ∈ L,∀ oi,ops[i]? = some oi->oi.apart ops oj=true:=fun i hi oi hoi=>hfree i hi oi hoi j oj hoj (hne i hi) hjun (hnot i hi)
  have hun':∀ k,(listed.setIfInBounds j true).getD k true=false->listed.getD k true=false:=fun k hun=>by
   by_cases hjk:j=k
   ·subst hjk; exact hjun
   ·rw [getD_set_ne true hjk] at hun; exact hun
  have hCw:Rw ops loud T (listed.setIfInBounds j true)->C w:=fun hn=>hC fun k hTk hk hlk=>hun' k (hn k hTk hk hlk)
  obtain ⟨ap1,ap2,ap3⟩:=Oper.apart_spec (ap i0 hi0 o0 ho0)
  obtain ⟨u,w',h1⟩:=L6 ho0 (H i0 hi0)
  obtain ⟨v,hy,_⟩:=EU hoj hlj (h1.2.2 j (ready_mono hj (hne i0 hi0)))
  have hya:YieldsM P ops C oj v a:=hy.same (execOp_put oj (fun cs b=>hsel j oj cs b hoj) _ o0.dst u ap1).symm (wanted_put oj _ o0.dst u ap1).symm
  refine hya.mOp hoj hlj ?_
  exact ih (listed.setIfInBounds j true) (a.put oj.dst v) w (fun k hk h1 h2 h3=>hT k hk h1 h2 (hun' k h3)) (hcl.set hj) (by simpa using hsz) hCw (fun i hi oi hoi k ok hk h1 h2 h3=>hfree i hi oi hoi k ok hk h1 (hun' k h2) h3) (fun i hi=>ready_mono (hr i hi) (Ne.symm (hne i hi)))
   (fun i hi=>by
    obtain ⟨oi,hoi⟩:=hin i hi
    obtain ⟨bp1,bp2,bp3⟩:=Oper.apart_spec (ap i hi oi hoi)
    exact T6 ht hoi hoj hsel hcl hsz bp1 bp2 bp3 (hr i hi) hj (hne i hi) hlj hya (H i hi))
/-- What holds of the region throughout. -/
structure MOk (ops:Array Oper) (T:Nat):Prop where
 ns:Region.noSelect ops=true
 tl:LA ops (D1 ops T) T ops.size
 tT:T < ops.size->D1 ops T T=true
/-- What is checked of an operation that may come up now. -/
def LF (ops:Array Oper) (m:List Bool) (i:Nat):Bool:=(Region.ready .any ops m.toArray).contains i&&Region.free .any ops m.toArray i
def M0 (ops:Array Oper) (T:Nat) (m:List Bool) (L:List Nat):Bool :=
 (L.all fun i=>LF ops m i)&&(List.range ops.size).all fun j=>L.contains j||!D1 ops T j||m.toArray.getD j true||L.any fun i=>JW ops ops.size j i
def Sd (ops:Array Oper) (T p f:Nat) (m:List Bool):Bool :=
 Nat.beq (p + f) ops.size&&Region.lexFrom .any ops f p m.toArray&&((List.range p).all fun j=>m.toArray.getD j true)&&(List.range ops.size).all fun k=>!(Nat.ble p k&&D1 ops T k)||(List.range ops.size).all fun j=>!(Nat.blt k j&&D1 ops T j)||JW ops ops.size j k
end
def RunM (E:Env) (ops:Array Oper) (T n0 f:Nat) (m:List Bool) (s:St) (K:St->Prop):Prop :=
 ∀ (base:Bs) (Q:Act->World->Prop) (w0:World) (Z:Nat->Prop) (R0:List RI) (h0:Hp) (a:Act) (w:World) (R:List RI),MOk ops T->Closed ops m.toArray->m.length=ops.size->HR w0 Z R0 h0->n0=h0.length->SR E base w Z R s a->w0.grownBy w none->Step w0 Z R0 h0 w Z R s.hp->(∀ (b:Nat) (B:Option Blk),h0[b]? = some B->s.hp[b]? = some B) ->
  (∀ s' a' w' Z' R',K s'->SR E base w' Z' R' s' a'->StepW w0 Z R0 h0 w' Z' R' s'.hp->Q a' w')->wpM E.P ops (fun w'=>w0.grownBy w' none) (D1 ops T) T Q f m.toArray a w
section
variable {E:Env}{cx:Cx}{ops:Array Oper}{s s1:St}{K:St->Prop}{n0 f T i j k:Nat}{m:List Bool}{Q:Ex->St->Prop}{id:Nat}{o o2 o3:Oper}
theorem GC (m:List Bool) (i:Nat):m.toArray.setIfInBounds i true=(m.set i true).toArray:=by simp
/-- An operation that is quiet. -/
theorem RunM.q (i:Nat) (hq:(LF ops m i&&!D1 ops T i)=true) (ho:ops[i]? = some o) (h:Op1 E ops T n0 i o s fun s'=>RunM E ops T n0 f (m.set i true) s' K):RunM E ops T n0 (f + 1) m s K:=by
 intro base Q w0 Z R0 h0 a w R hM hcl hsz hh0 hn0 sr hgr st hpre q
 unfold LF at hq
 simp only [Bool.and_eq_true,Bool.not_eq_true'] at hq
 obtain ⟨⟨hr,hf⟩,hl⟩:=hq
 have hr':i ∈ Region.ready .any ops m.toArray:=by simpa using hr
 have hst:=h base (fun a w=>wpM E.P ops (fun w'=>w0.grownBy w' none) (D1 ops T) T Q f (m.set i true).toArray a w) w0 Z R0 h0 a w R hh0 hn0 sr hgr st hpre ho fun s' a' w' R' hk sr' hg' st' hp' =>
  hk base Q w0 Z R0 h0 a' w' R' hM (by rw [<-GC]; exact hcl.set hr') (by simpa using hsz) hh0 hn0 sr' hg' st' hp' q
 obtain ⟨v,hy,hK⟩:=EU ho hl hst
 refine Kk ho hl (Region.noSelect_spec hM.ns) f m.toArray a w (fun _=>hgr) hcl (by simpa using hsz) (Region.free_spec ho hf) hr' hy ?_
 rw [GC]
 exact hK
/-- The loud ones that may come up now: each of them. -/
theorem RunM.loud (L:List Nat) (hne:L≠[]) (hl:M0 ops T m L=true) (h:∀ i ∈ L,∃ o,ops[i]? = some o/\Op1 E ops T n0 i o s fun s'=>RunM E ops T n0 f (m.set i true) s' K):RunM E ops T n0 (f + 1) m s K:=by
 intro base Q w0 Z R0 h0 a w R hM hcl hsz hh0 hn0 sr hgr st hpre q
 unfold M0 at hl
 simp only [Bool.and_eq_true] at hl
 obtain ⟨h1,h2⟩:=hl
 have hr:∀ i ∈ L,i ∈ Region.ready .any ops m.toArray/\Region.free .any ops m.toArray i=true:=fun i hi=>by
  have:=List.all_eq_true.1 h1 i hi
  unfold LF at this
  simp only [Bool.and_eq_true] at this
  exact ⟨by simpa using this.1,this.2⟩
 refine Oe (n:=ops.size) L hne hM.tl (fun i hi=>⟨_,(h i hi).choose_spec.1⟩) (Region.noSelect_spec hM.ns) f m.toArray a w (fun j hj hjL hlj hun=>?_) hcl (by simpa using hsz) (fun _=>hgr) (fun i hi oi hoi=>Region.free_spec hoi (hr i hi).2) (fun i hi=>(hr i hi).1) fun i hi=>?_
 ·have:=List.all_eq_true.1 h2 j (by simpa using hj)
  simp only [Bool.or_eq_true,Bool.not_eq_true',List.any_eq_true] at this
  rcases this with ((h3 | h3) | h3) | h3
  ·exact absurd (by simpa using h3) hjL
  ·rw [hlj] at h3; cases h3
  ·rw [hun] at h3; cases h3
  ·exact h3
 ·obtain ⟨o,ho,hop⟩:=h i hi
  rw [GC]
  exact hop base (fun a w=>wpM E.P ops (fun w'=>w0.grownBy w' none) (D1 ops T) T Q f (m.set i true).toArray a w) w0 Z R0 h0 a w R hh0 hn0 sr hgr st hpre ho fun s' a' w' R' hk sr' hg' st' hp' =>
   hk base Q w0 Z R0 h0 a' w' R' hM (by rw [<-GC]; exact hcl.set (hr i hi).1) (by simpa using hsz) hh0 hn0 sr' hg' st' hp' q
/-- What is left stands in one order. -/
theorem RunM.tail (p:Nat) (hp:Sd ops T p f m=true) (h:RunDX E ops T n0 p (ops.toList.drop p) s K):RunM E ops T n0 f m s K:=by
 intro base Q w0 Z R0 h0 a w R hM hcl hsz hh0 hn0 sr hgr st hpre q
 unfold Sd at hp
 simp only [Bool.and_eq_true] at hp
 obtain ⟨⟨⟨h1,h2⟩,h3⟩,h4⟩:=hp
 have h1:=Nat.eq_of_beq_eq_true h1
 have hlen:(ops.toList.drop p).length=f:=by simp; omega
 have hops:∀ j,(ops.toList.drop p)[j]? = ops[p + j]?:=fun j=>by simp
 have:=QH hM.ns (n:=ops.size) (k0:=p) (fun k j hk hks hj hlk hlj hkj=>?_) hM.tl hM.tT (ops.toList.drop p) p m.toArray a w (Nat.le_refl _) (by omega) hops (by rw [hlen]; exact h2) hcl (by simpa using hsz) (fun j hj=>List.all_eq_true.1 h3 j (by simpa using hj)) (h base Q w0 Z R0 h0 a w R hh0 hn0 sr hgr st hpre hops q)
 ·rwa [hlen] at this
 ·have a1:=List.all_eq_true.1 h4 k (by simpa using hks)
  simp only [hlk,Nat.ble_eq_true_of_le hk,Bool.and_self,Bool.not_true,Bool.false_or] at a1
  have a2:=List.all_eq_true.1 a1 j (by simpa using hj)
  have hb:Nat.blt k j=true:=Nat.ble_eq_true_of_le hkj
  simpa [hlj,hb] using a2
end
/-- As Op1, of an operation behind which nothing is read any more. -/
def OpZ (E:Env) (ops:Array Oper) (T k:Nat) (o:Oper) (s:St) (Ks:St->Prop):Prop :=
 ∀ (base:Bs) (K:Act->World->Prop) (w0:World) (Z:Nat->Prop) (a:Act) (w:World) (R:List RI),SR E base w Z R s a->w0.grownBy w none->ops[k]? = some o ->
  (∀ s' a' w' Z' R',Ks s'->SR E base w' Z' R' s' a'->w0.grownBy w' none->StepW w Z R s.hp w' Z' R' s'.hp->K a' w')->mOp E.P ops (fun w'=>w0.grownBy w' none) (D1 ops T) k K a w
def RunZ (E:Env) (ops:Array Oper) (T f:Nat) (m:List Bool) (s:St) (K:St->Prop):Prop :=
 ∀ (base:Bs) (Q:Act->World->Prop) (w0:World) (Z:Nat->Prop) (a:Act) (w:World) (R:List RI),MOk ops T->Closed ops m.toArray->m.length=ops.size->SR E base w Z R s a->w0.grownBy w none ->
  (∀ s' a' w' Z' R',K s'->SR E base w' Z' R' s' a'->StepW w Z R s.hp w' Z' R' s'.hp->Q a' w')->wpM E.P ops (fun w'=>w0.grownBy w' none) (D1 ops T) T Q f m.toArray a w
section
variable {E:Env}{cx:Cx}{ops:Array Oper}{s s1:St}{K Ks:St->Prop}{n n0 f T i j k:Nat}{m:List Bool}{o o2 o3:Oper}{l:List (Nat×AV)}{hp:Hp}{fid:FuncId}
theorem ZU (hE:EnvOk E) (hW:isW o.op=false) (hLd:Qj o.op=false) (hk:k < T) (e:opsD E (evC E 0) ⟨none,false⟩ ops n0 [o] s=some s1) (kk:Ks s1):OpZ E ops T k o s Ks:=by
 intro base K w0 Z a w R sr hgr hok q
 have hkT:¬ T<=k:=by omega
 unfold mOp
 rw [hok]
 dsimp only
 unfold opsD at e
 rw [if_neg (by rw [hW]; simp)] at e
 split at e
 ·cases e
 ·next hw =>
  rw [if_neg (by rw [wantedA_eq sr hw]; simp)]
  injection e with e
  subst e
  exact q _ _ w Z R kk (sr.put undef_vr) hgr (StepW.refl _ _ _ _)
 ·next hw =>
  rw [if_pos (wantedA_eq sr hw)]
  have hρ:∀ o x,opA E s.fr o=some x->VR w Z R x (a.eval o):=fun o x e=>opA_vr sr o x e
  split at e
  ·next x hx =>
   split at e
   ·injection e with e
    subst e
    have hq:=N0 hx
    rw [if_neg (by rw [KX hok hq hkT]; simp)]
    obtain ⟨u,hu,hrun⟩:=evOpQ_sound sr.hh hρ hx
    exact ⟨u,(fun w' _=>hrun w' fun h=>by rw [hLd] at h; cases h),q _ _ w Z R kk (sr.put hu) hgr (StepW.refl _ _ _ _)⟩
   ·cases e
  ·split at e
   ·next x h' hx =>
    injection e with e
    subst e
    have hq:=Iz hx
    rw [if_pos (FS hok hq)]
    obtain ⟨u,w',R',h1,h2,h3,h4,h5⟩:=evOpN_sound hρ sr.hh hx
    exact LE h1 (q _ _ w' Z R' kk ((sr.step h2 h4).put h3) (ER hgr h5) h4.w)
   ·split at e
    ·next f args tys ho =>
     split at e
     ·next fv xs hf hxs =>
      split at e
      ·next r hr =>
       injection e with e
       subst e
       obtain ⟨x,h'⟩:=r
       have hq:isQ o.op=false:=by rw [ho]; rfl
       rw [if_pos (FS hok hq)]
       obtain ⟨g,uf,uc,hva,hcl,hret⟩:=GE hE (code_sound hE 0).1 (hρ _ _ hf) (opds_vr hρ hxs) sr.hh sr.gl hr
       unfold Lw
       rw [Fu (uf:=uf) (uc:=uc) ho hva rfl hcl w]
       refine Ret.mono hret fun v w' hS=>?_
       obtain ⟨hg1,R',k1,k2,k3⟩:=hS
       exact q _ _ w' Z R' kk ((sr.step k1 k3).put k2) (ER hgr hg1) k3.w
      ·cases e
     ·cases e
    ·cases e
theorem OpZ.one (hE:EnvOk E) (hW:(!isW o.op&&!Qj o.op&&Nat.blt k T)=true) (h:opsD E (evC E 0) ⟨none,false⟩ ops 0 [o] s=some s1) (kk:Ks s1):OpZ E ops T k o s Ks:=by
 simp only [Bool.and_eq_true,Bool.not_eq_true'] at hW
 exact ZU hE hW.1.1 hW.1.2 (Nat.le_of_ble_eq_true hW.2) h kk
theorem RunM.z (h:RunZ E ops T f m s K):RunM E ops T n0 f m s K:=fun base Q w0 Z _ _ a w R hM hcl hsz _ _ sr hgr st _ q=>h base Q w0 Z a w R hM hcl hsz sr hgr fun s' a' w' Z' R' hK sr' st'=>q s' a' w' Z' R' hK sr' (st.w.trans st')
theorem RunZ.q (i:Nat) (hq:(LF ops m i&&!D1 ops T i)=true) (ho:ops[i]? = some o) (h:OpZ E ops T i o s fun s'=>RunZ E ops T f (m.set i true) s' K):RunZ E ops T (f + 1) m s K:=by
 intro base Q w0 Z a w R hM hcl hsz sr hgr q
 unfold LF at hq
 simp only [Bool.and_eq_true,Bool.not_eq_true'] at hq
 obtain ⟨⟨hr,hf⟩,hl⟩:=hq
 have hr':i ∈ Region.ready .any ops m.toArray:=by simpa using hr
 have hst:=h base (fun a w=>wpM E.P ops (fun w'=>w0.grownBy w' none) (D1 ops T) T Q f (m.set i true).toArray a w) w0 Z a w R sr hgr ho fun s' a' w' Z' R' hk sr' hg' st' =>
  hk base Q w0 Z' a' w' R' hM (by rw [<-GC]; exact hcl.set hr') (by simpa using hsz) sr' hg' fun s2 a2 w2 Z2 R2 hK sr2 st2=>q s2 a2 w2 Z2 R2 hK sr2 (st'.trans st2)
 obtain ⟨v,hy,hK⟩:=EU ho hl hst
 refine Kk ho hl (Region.noSelect_spec hM.ns) f m.toArray a w (fun _=>hgr) hcl (by simpa using hsz) (Region.free_spec ho hf) hr' hy ?_
 rw [GC]
 exact hK
theorem Xx (L:List Nat) (hne:L≠[]) (hl:M0 ops T m L=true) (h:∀ i ∈ L,∃ o,ops[i]? = some o/\OpZ E ops T i o s fun s'=>RunZ E ops T f (m.set i true) s' K):RunZ E ops T (f + 1) m s K:=by
 intro base Q w0 Z a w R hM hcl hsz sr hgr q
 unfold M0 at hl
 simp only [Bool.and_eq_true] at hl
 obtain ⟨h1,h2⟩:=hl
 have hr:∀ i ∈ L,i ∈ Region.ready .any ops m.toArray/\Region.free .any ops m.toArray i=true:=fun i hi=>by
  have:=List.all_eq_true.1 h1 i hi
  unfold LF at this
  simp only [Bool.and_eq_true] at this
  exact ⟨by simpa using this.1,this.2⟩
 refine Oe (n:=ops.size) L hne hM.tl (fun i hi=>⟨_,(h i hi).choose_spec.1⟩) (Region.noSelect_spec hM.ns) f m.toArray a w (fun j hj hjL hlj hun=>?_) hcl (by simpa using hsz) (fun _=>hgr) (fun i hi oi hoi=>Region.free_spec hoi (hr i hi).2) (fun i hi=>(hr i hi).1) fun i hi=>?_
 ·have:=List.all_eq_true.1 h2 j (by simpa using hj)
  simp only [Bool.or_eq_true,Bool.not_eq_true',List.any_eq_true] at this
  rcases this with ((h3 | h3) | h3) | h3
  ·exact absurd (by simpa using h3) hjL
  ·rw [hlj] at h3; cases h3
  ·rw [hun] at h3; cases h3
  ·exact h3
 ·obtain ⟨o,ho,hop⟩:=h i hi
  rw [GC]
  exact hop base (fun a w=>wpM E.P ops (fun w'=>w0.grownBy w' none) (D1 ops T) T Q f (m.set i true).toArray a w) w0 Z a w R sr hgr ho fun s' a' w' Z' R' hk sr' hg' st' =>
   hk base Q w0 Z' a' w' R' hM (by rw [<-GC]; exact hcl.set (hr i hi).1) (by simpa using hsz) sr' hg' fun s2 a2 w2 Z2 R2 hK sr2 st2=>q s2 a2 w2 Z2 R2 hK sr2 (st'.trans st2)
/-- The stores. -/
theorem RunZ.tail (hp:Sd ops T T f m=true) (h:RunS E ops (ops.toList.drop T) s K):RunZ E ops T f m s K:=by
 intro base Q w0 Z a w R hM hcl hsz sr hgr q
 unfold Sd at hp
 simp only [Bool.and_eq_true] at hp
 obtain ⟨⟨⟨h1,h2⟩,h3⟩,h4⟩:=hp
 have h1:=Nat.eq_of_beq_eq_true h1
 have hlen:(ops.toList.drop T).length=f:=by simp; omega
 have hops:∀ j,(ops.toList.drop T)[j]? = ops[T + j]?:=fun j=>by simp
 have:=QH (C:=fun w'=>w0.grownBy w' none) hM.ns (n:=ops.size) (k0:=T) (fun k j hk hks hj hlk hlj hkj=>?_) hM.tl hM.tT (ops.toList.drop T) T m.toArray a w (Nat.le_refl _) (by omega) hops (by rw [hlen]; exact h2) hcl (by simpa using hsz) (fun j hj=>List.all_eq_true.1 h3 j (by simpa using hj))
  (KY (h base Q a w Z R sr q) (Nat.le_refl _) (fun _=>hgr) (fun j hj=>Kv (by omega)) hops)
 ·rwa [hlen] at this
 ·have a1:=List.all_eq_true.1 h4 k (by simpa using hks)
  simp only [hlk,Nat.ble_eq_true_of_le hk,Bool.and_self,Bool.not_true,Bool.false_or] at a1
  have a2:=List.all_eq_true.1 a1 j (by simpa using hj)
  have hb:Nat.blt k j=true:=Nat.ble_eq_true_of_le hkj
  simpa [hlj,hb] using a2
end
/-- Every order of what is not free is gone through, in the world as it is. -/
def RunA (E:Env) (ops:Array Oper) (f:Nat) (m:List Bool) (s:St) (K:St->Prop):Prop :=
 ∀ (base:Bs) (Q:Act->World->Prop) (a:Act) (w:World) (Z:Nat->Prop) (R:List RI),Region.noSelect ops=true->Closed ops m.toArray->m.length=ops.size->SR E base w Z R s a ->
  (∀ s' a' w' Z' R',K s'->SR E base w' Z' R' s' a'->StepW w Z R s.hp w' Z' R' s'.hp->Q a' w')->wpM E.P ops (fun _=>True) (D1 ops 0) 0 Q f m.toArray a w
section
variable {E:Env}{cx:Cx}{ops:Array Oper}{s s1:St}{K:St->Prop}{f i j:Nat}{m:List Bool}{Q:Ex->St->Prop}{id k:Nat}{o o2 o3:Oper}
theorem XB {i:Nat}(h:D1 ops 0 i=false):GP ops i=true:=by
 unfold D1 at h
 simp only [Bool.or_eq_false_iff,Bool.and_eq_false_iff,Bool.not_eq_false'] at h
 rcases h.2 with h1 | h1
 ·cases h1
 ·exact h1
theorem Yx (n:Nat):LA ops (D1 ops 0) 0 n:=fun j _ _ _ i _ hl hf=>by rw [XB hl] at hf; cases hf
theorem Ry (hE:EnvOk E) (f:Nat) (hb:(Region.noSelect ops&&Nat.beq f ops.size)=true) (h:RunA E ops f (List.replicate f false) s fun s'=>Wk E s' s1) (q:Q .normal s1):Sem E cx (.region id ops true) s Q:=by
 intro ro base Qm a w Z R _ sr _ kk
 simp only [Bool.and_eq_true] at hb
 have hf:=Nat.eq_of_beq_eq_true hb.2
 have hgd:w.grownBy w.drew none:=Pg w
 have st0:Step w Z R s.hp w.drew Z R s.hp:=⟨rfl,rfl,rfl,Nat.le_refl _,fun c hc _=>rfl,fun _ h=> .inl h,fun _ h=>h,fun _ h=> .inl h,fun _ _ h=>h⟩
 have hsrd:SR E base w.drew Z R s a:=⟨sr.hh.keep (Nat.le_refl _) (fun c hc=>hgd.block c hc (by simp)),sr.fr.off (fun c hc=>rfl),sr.mks.step st0,sr.gl.off (fun c hc=>rfl),sr.bs⟩
 have hrep:(List.replicate f false).toArray=Array.replicate ops.size false:=by rw [hf]; simp
 have hcl:Closed ops (Array.replicate ops.size false):=fun k o hk hlis=>by
  rw [getD_replicate_false] at hlis; cases hlis
 have hm:=h base (fun a w=>Qm .normal a w) a w.drew Z R hb.1 (by rw [hrep]; exact hcl) (by simp [hf]) hsrd (fun s' a' w' Z' R' hw sr' st=>by
  obtain ⟨Z2,R2,sr2,st2⟩:=hw base w' Z' R' a' sr'
  exact kk .normal s1 a' w' Z2 R2 q sr2 ((st0.w.trans st).trans st2))
 rw [hrep,hf] at hm
 exact wpIn_region_any hE.mixed (Kj (C:=fun _=>True) (loud:=D1 ops 0) (T:=0) (n:=ops.size) (Q:=fun a w=>Qm .normal a w) ro 0 (Yx _) (fun _ _ h=>h) _ _ _ _ hcl (by simp) hm)
theorem RunA.q (i:Nat) (hq:(LF ops m i&&!D1 ops 0 i)=true) (ho:ops[i]? = some o) (h:RunS E ops [o] s fun s'=>RunA E ops f (m.set i true) s' K):RunA E ops (f + 1) m s K:=by
 intro base Q a w Z R hns hcl hsz sr q
 unfold LF at hq
 simp only [Bool.and_eq_true,Bool.not_eq_true'] at hq
 obtain ⟨⟨hr,hf⟩,hl⟩:=hq
 have hr':i ∈ Region.ready .any ops m.toArray:=by simpa using hr
 have hst:=h base (fun a w=>wpM E.P ops (fun _=>True) (D1 ops 0) 0 Q f (m.set i true).toArray a w) a w Z R sr fun s' a' w' Z' R' hk sr' st' =>
  hk base Q a' w' Z' R' hns (by rw [<-GC]; exact hcl.set hr') (by simpa using hsz) sr' fun s2 a2 w2 Z2 R2 hK sr2 st2=>q s2 a2 w2 Z2 R2 hK sr2 (st'.trans st2)
 have hfr:Iy o=true:=by have:=XB hl; simpa [GP,ho] using this
 have hy:∃ v,YieldsM E.P ops (fun _=>True) o v a/\wpM E.P ops (fun _=>True) (D1 ops 0) 0 Q f (m.set i true).toArray (a.put o.dst v) w:=by
  unfold LwL at hst
  split at hst
  ·next hw =>
   obtain ⟨u,h1,h2⟩:=hst
   exact ⟨u,.inl ⟨hw,fun w' _=>h1 w'⟩,h2⟩
  ·next hw=>exact ⟨undef,.inr ⟨by simpa using hw,rfl⟩,hst⟩
 obtain ⟨v,hy,hK⟩:=hy
 refine Kk ho hl (Region.noSelect_spec hns) f m.toArray a w (fun _=>trivial) hcl (by simpa using hsz) (Region.free_spec ho hf) hr' hy ?_
 rw [GC]
 exact hK
theorem QP (L:List Nat) (hne:L≠[]) (hl:(M0 ops 0 m L&&L.all fun i=>!GP ops i)=true) (h:∀ i ∈ L,∃ o,ops[i]? = some o/\RunS E ops [o] s fun s'=>RunA E ops f (m.set i true) s' K):RunA E ops (f + 1) m s K:=by
 intro base Q a w Z R hns hcl hsz sr q
 simp only [Bool.and_eq_true] at hl
 obtain ⟨hl,hfr⟩:=hl
 unfold M0 at hl
 simp only [Bool.and_eq_true] at hl
 obtain ⟨h1,h2⟩:=hl
 have hr:∀ i ∈ L,i ∈ Region.ready .any ops m.toArray/\Region.free .any ops m.toArray i=true:=fun i hi=>by
  have:=List.all_eq_true.1 h1 i hi
  unfold LF at this
  simp only [Bool.and_eq_true] at this
  exact ⟨by simpa using this.1,this.2⟩
 refine Oe (n:=ops.size) L hne (Yx _) (fun i hi=>⟨_,(h i hi).choose_spec.1⟩) (Region.noSelect_spec hns) f m.toArray a w (fun j hj hjL hlj hun=>?_) hcl (by simpa using hsz) (fun _=>trivial) (fun i hi oi hoi=>Region.free_spec hoi (hr i hi).2) (fun i hi=>(hr i hi).1) fun i hi=>?_
 ·have:=List.all_eq_true.1 h2 j (by simpa using hj)
  simp only [Bool.or_eq_true,Bool.not_eq_true',List.any_eq_true] at this
  rcases this with ((h3 | h3) | h3) | h3
  ·exact absurd (by simpa using h3) hjL
  ·rw [hlj] at h3; cases h3
  ·rw [hun] at h3; cases h3
  ·exact h3
 ·obtain ⟨o,ho,hop⟩:=h i hi
  have hfi:GP ops i=false:=by simpa using List.all_eq_true.1 hfr i hi
  have hli:D1 ops 0 i=true:=by
   cases hh:D1 ops 0 i with
   | true=>rfl
   | false=>rw [XB hh] at hfi; cases hfi
  have hfo:Iy o=false:=by simpa [GP,ho] using hfi
  rw [GC]
  have hst:=hop base (fun a w=>wpM E.P ops (fun _=>True) (D1 ops 0) 0 Q f (m.set i true).toArray a w) a w Z R sr fun s' a' w' Z' R' hk sr' st' =>
   hk base Q a' w' Z' R' hns (by rw [<-GC]; exact hcl.set (hr i hi).1) (by simpa using hsz) sr' fun s2 a2 w2 Z2 R2 hK sr2 st2=>q s2 a2 w2 Z2 R2 hK sr2 (st'.trans st2)
  unfold mOp
  rw [ho]
  dsimp only
  unfold LwL at hst
  split at hst
  ·next hw =>
   rw [if_pos hw,if_pos hli]
   rw [hfo] at hst
   exact hst
  ·next hw=>rw [if_neg hw]; exact hst
theorem Ef (i:Nat) (hl:(M0 ops 0 m [i]&&[i].all fun i=>!GP ops i)=true) (hi:ops[i]? = some o) (h:RunS E ops [o] s fun s'=>RunA E ops f (m.set i true) s' K):RunA E ops (f + 1) m s K :=
 QP [i] (by simp) hl fun x hx=>by
  obtain rfl:x=i:=by simpa using hx
  exact ⟨o,hi,h⟩
theorem Nd (i j:Nat) (hl:(M0 ops 0 m [i,j]&&[i,j].all fun i=>!GP ops i)=true) (hi:ops[i]? = some o) (hj:ops[j]? = some o2) (h:RunS E ops [o] s fun s'=>RunA E ops f (m.set i true) s' K) (h2:RunS E ops [o2] s fun s'=>RunA E ops f (m.set j true) s' K):RunA E ops (f + 1) m s K :=
 QP [i,j] (by simp) hl fun x hx=>by
  rcases (by simpa using hx:x=i\/x=j) with rfl | rfl
  ·exact ⟨o,hi,h⟩
  ·exact ⟨o2,hj,h2⟩
theorem RunS.only {n:Nat}(hE:EnvOk E){s:St}(l:List (Nat×AV)) (hp:Hp) (h:TJ (Il E (evC E 0) ⟨none,false⟩ ops [o] s) l=some (n,xs2 l,hp)) (k:K ⟨Fr n l,hp⟩):RunS E ops [o] s K :=
 AF (rest:=[o]) hE 1 l hp h (AR rfl k)
theorem RunA.done (h:(Region.ready .any ops m.toArray).isEmpty=true) (kk:K s):RunA E ops 0 m s K:=fun base Q a w Z R _ _ _ sr q =>
 ⟨fun _=>trivial,by simpa using h,q s a w Z R kk sr (StepW.refl _ _ _ _)⟩
end
end Go.Proofs.YtlalcoehgkmhlaaGreatDoor
