/- Lemmas for the proof. -/
import Derived.Test.YtdjhmdbpcfnpgaaGreatDoorCourtRoundM1
import Derived.Test.YtdjhmdbpcfnpgaaGreatDoorCourtRoundM2
import Derived.Test.YtdjhmdbpcfnpgaaGreatDoorCourtRoundM3
import Derived.RecoverIn
import Derived.Shelf.Strings.Search1
import Derived.Shelf.Strings.Count
set_option maxHeartbeats 4000000
set_option maxRecDepth 100000
namespace Go.Proofs.YtdjhmdbpcfnpgaaGreatDoor
open Go.RowKit
/-- A block told in another way. -/
theorem WkY.blk {E:Env}{fr:List (Option AV)}{h:Hp}{b k:Nat}{t:TypeId}{es es':List AV}(hb:h[b]? = some (some ⟨k,t,es,false⟩)) (hl:es'.length=es.length) (hv:∀ (i:Nat) (x':AV),es'[i]? = some x'->∃ x,es[i]? = some x/\∀ w Z R u,VR w Z R x u->VR w Z R x' u):WkY E ⟨fr,h⟩ ⟨fr,h.set b (some ⟨k,t,es',false⟩)⟩:=by
 intro base w Z R a sr
 have hlt:=G4 hb
 have hget:∀ (j:Nat) (B:Blk),(h.set b (some ⟨k,t,es',false⟩))[j]? = some (some B)->∃ B0,h[j]? = some (some B0)/\B0.fz=B.fz/\B0.k=B.k/\B0.t=B.t/\B.es.length=B0.es.length/\∀ (i:Nat) (x':AV),B.es[i]? = some x'->∃ x,B0.es[i]? = some x/\∀ w Z R u,VR w Z R x u->VR w Z R x' u:=fun j B hB=>by
  rw [List.getElem?_set] at hB
  split at hB
  ·next e =>
   subst e
   try rw [if_pos hlt] at hB
   have hB:=(OI (OI hB)).symm
   subst hB
   exact ⟨_,hb,rfl,rfl,rfl,hl,hv⟩
  ·exact ⟨B,hB,rfl,rfl,rfl,rfl,fun i x' hx=>⟨x',hx,fun _ _ _ _ h=>h⟩⟩
 have hown:∀ c,own R (h.set b (some ⟨k,t,es',false⟩)) c->own R h c:=fun c ⟨j,B,r,h1,h2,h3,h4⟩=>by
  obtain ⟨B0,q1,q2,_⟩:=hget j B h1
  exact ⟨j,B0,r,q1,q2.trans h2,h3,h4⟩
 refine ⟨Z,R,⟨⟨by simp [sr.hh.len],fun j B hB=>?_,fun j j' B B' r r' h1 f1 h2 f2 g1 g2 e=>?_,sr.hh.zlt⟩,sr.fr,?_,sr.gl,sr.bs⟩,⟨rfl,rfl,rfl,Nat.le_refl _,fun _ _ _=>rfl,fun c hc=> .inl (hown c hc),fun _ h=>h,fun _ h=> .inl h,fun _ _ h=>h⟩⟩
 ·obtain ⟨B0,q1,q2,q3,q4,q5,q6⟩:=hget j B hB
  obtain ⟨r,arr,us,g1,g2,g3,g4,g5,g6,g7,g8,g9,g10⟩:=sr.hh.blk j B0 q1
  rw [q3] at g2 g4 g10
  rw [q4] at g3
  rw [q2] at g7 g8
  refine ⟨r,arr,us,g1,g2,g3,g4,by rw [q5]; exact g5,g6,g7,g8,⟨by rw [g9.len,q5],fun i x' u hx hu=>?_⟩,g10⟩
  obtain ⟨x,p1,p2⟩:=q6 i x' hx
  exact p2 _ _ _ _ (g9.at_ i x u p1 hu)
 ·obtain ⟨B0,q1,q2,_⟩:=hget j B h1
  obtain ⟨B0',q1',q2',_⟩:=hget j' B' h2
  exact sr.hh.inj j j' B0 B0' r r' q1 (q2.trans f1) q1' (q2'.trans f2) g1 g2 e
 ·exact sr.mks.imp fun q h3 h4 h5=>⟨h3,h4,fun ho=>h5 (hown q ho)⟩
/-- A Builder: not written yet, or with the bytes. -/
def bld (ty:TypeId) (p:AV) (bs:List UInt8):Asn where
 at_ h F:=(bs=[]/\(cel p 2 ty (.ag [.v (.pointer none),.v (.slice none 0 0)])).at_ h F)\/(bs≠[]/\∃ e,(XE (cel p 2 ty (.ag [p,e])) (own_ (ocL 1 5 (ocV (cdK .u8))) e (Bj bs))).at_ h F)
 loc:=fun ha k=>by
  rcases ha with ⟨h1,h2⟩ | ⟨h1,e,h2⟩
  ·exact .inl ⟨h1,Asn.loc _ h2 k⟩
  ·exact .inr ⟨h1,e,Asn.loc _ h2 k⟩
 own:=fun ha hb=>by
  rcases ha with ⟨h1,h2⟩ | ⟨h1,e,h2⟩
  ·exact Asn.own _ h2 hb
  ·exact Asn.own _ h2 hb
section
variable {h:Hp}{ty:TypeId}{p:AV}{bs:List UInt8}{L:List Asn}
theorem Tl (ht:T h (cel p 2 ty (.ag [.v (.pointer none),.v (.slice none 0 0)])::L)):T h (bld ty p []::L):=by
 obtain ⟨F,q,hn,hk,_⟩:=ht.act
 exact hk h _ F (.inl ⟨rfl,q⟩) hn (fun _ _ _=>rfl) (fun b hb=> .inl hb)
theorem O7 {e:AV}(hne:bs≠[]) (ht:T h (cel p 2 ty (.ag [p,e])::own_ (ocL 1 5 (ocV (cdK .u8))) e (Bj bs)::L)):T h (bld ty p bs::L):=by
 obtain ⟨F,q,hn,hk,_⟩:=(T.join.1 ht).act
 exact hk h _ F (.inr ⟨hne,e,q⟩) hn (fun _ _ _=>rfl) (fun b hb=> .inl hb)
theorem QR (ht:T h (bld ty p bs::L)):(bs=[]/\T h (cel p 2 ty (.ag [.v (.pointer none),.v (.slice none 0 0)])::L))\/(bs≠[]/\∃ e,T h (cel p 2 ty (.ag [p,e])::own_ (ocL 1 5 (ocV (cdK .u8))) e (Bj bs)::L)):=by
 obtain ⟨F,q,hn,hk,_⟩:=ht.act
 rcases q with ⟨h1,h2⟩ | ⟨h1,e,h2⟩
 ·exact .inl ⟨h1,hk h _ F h2 hn (fun _ _ _=>rfl) (fun b hb=> .inl hb)⟩
 ·exact .inr ⟨h1,e,T.join.2 (hk h _ F h2 hn (fun _ _ _=>rfl) (fun b hb=> .inl hb))⟩
/-- The buffer that is nil is seen as an empty one. -/
theorem SA {E:Env}{fr:List (Option AV)}(ht:T h (cel p 2 ty (.ag [.v (.pointer none),.v (.slice none 0 0)])::L)):∃ h',WkY E ⟨fr,h⟩ ⟨fr,h'⟩/\T h' (cel p 2 ty (.ag [.v (.pointer none),.e0])::L):=by
 obtain ⟨F,⟨b,rfl,rfl,h2⟩,hn,hk,_⟩:=ht.act
 have hb:=G4 h2
 refine ⟨h.set b (some ⟨2,ty,[.ag [.v (.pointer none),.e0]],false⟩),WkY.blk h2 rfl fun i x' hx=>?_,hk _ _ [b] ⟨b,rfl,rfl,by simp [hb]⟩ (by simp) (fun c hc _=>by rw [List.getElem?_set,if_neg (by intro e; subst e; simp at hc)]) (fun c hc=> .inl hc)⟩
 match i with
 | 0 =>
  simp at hx; subst hx
  refine ⟨_,rfl,fun w Z R u hv=>?_⟩
  cases hv with
  | ag hl h1 hx =>
   refine .ag (by simpa using hl) h1 fun i x u hi hu=>?_
   match i with
   | 0=>simp at hi; subst hi; exact hx 0 _ u rfl hu
   | 1 =>
    simp at hi; subst hi
    have:=(hx 1 _ u rfl hu).v_inv
    subst this
    exact .e0
   | i + 2=>simp at hi
 | i + 1=>simp at hx
end
section
variable {E:Env}{cx:Cx}{ops:Array Oper}{rest rest':List Oper}{K:St->Prop}{n d:Nat}{l:List (Nat×AV)}{hp:Hp}{ty:TypeId}{p:AV}{bs s:List UInt8}{L:List Asn}
theorem OL {t':TypeId}{pos:String}{af:Array Edge}{g:Option (Nat×Bool)}(ht:T hp L) (hr:rest=⟨some d,.alloc ty,t',pos,af,g⟩::rest') (hw:A5 ops (Fr n l) ⟨some d,.alloc ty,t',pos,af,g⟩=some true) (hz0:ET E.P ty=some (.ag [.v (.pointer none),.e0])) (hz:((E.P.info? ty).bind (·.zero))=some (.agg #[.pointer none,.slice none 0 0])) (k:∀ p hp',T hp' (bld ty p []::L)->RunL E cx ops rest' ⟨Fr n ((d,p)::l),hp'⟩ K):RunL E cx ops rest ⟨Fr n l,hp⟩ K:=by
 subst hr
 intro ro base Q a w Z R hro sr hy q
 refine K5 rfl (wantedA_eq sr hw) ?_
 obtain ⟨u,_,_,hrun,i,hi,hiz⟩:=Gf (w:=w) (Z:=Z) (R:=R) hz0
 have hu:u = .agg #[.pointer none,.slice none 0 0]:=by
  rw [hi] at hz
  have hz:i.zero=some _:=hz
  rw [hiz] at hz
  exact OI hz
 have hv:VR w Z R (.ag [.v (.pointer none),.v (.slice none 0 0)]) u:=by
  rw [hu]
  refine .ag (us:=[.pointer none,.slice none 0 0]) rfl rfl fun i x u hx hu=>?_
  match i with
  | 0=>simp at hx hu; subst hx hu; exact .v rfl
  | 1=>simp at hx hu; subst hx hu; exact .v rfl
  | i + 2=>simp at hx
 obtain ⟨p,hp',hb,hT⟩:=KB (t:=ty) (a:= .ag [.v (.pointer none),.v (.slice none 0 0)]) ht rfl
 obtain ⟨w',R',h1,h2,h3,h4,h5⟩:=JF (P:=E.P) sr.hh hv hb
 have sr':=(sr.step h2 h4).put (d:=some d) h3
 rw [show I1 (⟨Fr n l,hp⟩:St).fr (some d) p=Fr n ((d,p)::l) from CF n l d _] at sr'
 refine I9 (u:= .pointer (some ⟨w.heap.size,0,none⟩)) (w':=w') (by simp [execOp,Instr.alloc,hrun,h1]) ?_
 exact k p hp' (Tl hT) ro base Q _ w' Z R' hro sr' (hy.step sr.hh h4) fun s' a' w'' Z'' R'' hK sr'' st'=>q s' a' w'' Z'' R'' hK sr'' (h4.trans st')
theorem EV (hP:E.P=E0.P) (hG:E.G=E0.G){f:Operand}{args:Array Operand}{tys:Array TypeId}{t':TypeId}{pos:String}{af:Array Edge}{g:Option (Nat×Bool)}(ht:T hp (bld 72 p bs::L)) (hn:decide (0 < s.length)=true) (hc:Dy 1 (bs.length + s.length)=true) (hr:rest=⟨some d,.call ⟨.value f,args,tys⟩,t',pos,af,g⟩::rest') (hw:A5 ops (Fr n l) ⟨some d,.call ⟨.value f,args,tys⟩,t',pos,af,g⟩=some true)
  (hf:opA E (Fr n l) f=some (.fn 28 [] [])) (ha:Fl (opA E (Fr n l)) args.toList=some [p,.st s]) (k:∀ hp',T hp' (bld 72 p (bs++s)::L)->RunL E cx ops rest' ⟨Fr n ((d,.tp [.v (.int .i64 (s.length:Int)),.v .nilIface])::l),hp'⟩ K):RunL E cx ops rest ⟨Fr n l,hp⟩ K:=by
 have hne:bs++s≠[]:=fun e=>by
  have:=of_decide_eq_true hn
  have hs:s=[]:=(List.append_eq_nil_iff.1 e).2
  subst hs; simp at this
 rcases QR ht with ⟨rfl,hT⟩ | ⟨hb,e,hT⟩
 ·obtain ⟨h',hwk,hT'⟩:=SA (E:=E) (fr:=Fr n l) hT
  refine JD hwk ?_
  have hv:Bu s=some ((s.length:Int),[]++Bj s):=by
   unfold Bu B8
   simp only [OS]
   rw [if_pos (by rw [HO]; exact hc)]
  refine Fb (e:=BK) hP hG C7 rfl rfl (fid:=28) (caps:=[]) (xs:=[p,.st s]) (fn:=Tryz.f28) (c:=DR) (Out:=fun v h'=>∃ (z0:AV),v = .tp [.v (.int .i64 (s.length:Int)),.v .nilIface]/\T h' (cel p 2 72 (.ag [p,z0])::own_ (ocL 1 5 (ocV (cdK .u8))) z0 ([]++Bj s)::L)) hr hw hf ha (by kernel_rfl) (by kernel_rfl) (by show 2<=19; decide) (FL p s _ hv hT') ?_
  rintro xx hp' ⟨z,hq,hT2⟩; subst xx
  refine k hp' (O7 (e:=z) hne ?_)
  exact hT2
 ·have hv:Bn bs s=some ((s.length:Int),Bj bs++Bj s):=by
   unfold Bn Bw
   simp only [OS]
   rw [if_pos (by rw [HO,HO]; exact hc)]
  refine Fb (e:=BD) hP hG Cy rfl rfl (fid:=28) (caps:=[]) (xs:=[p,.st s]) (fn:=Tryz.f28) (c:=DC) (Out:=fun v h'=>∃ (z0:AV),v = .tp [.v (.int .i64 (s.length:Int)),.v .nilIface]/\T h' (cel p 2 72 (.ag [p,z0])::own_ (ocL 1 5 (ocV (cdK .u8))) z0 (Bj bs++Bj s)::L)) hr hw hf ha (by kernel_rfl) (by kernel_rfl) (by show 2<=19; decide) (Ei p e bs s _ hv hT) ?_
  rintro xx hp' ⟨z,hq,hT2⟩; subst xx
  refine k hp' (O7 (e:=z) hne ?_)
  rw [Pt]
  exact hT2
theorem Nb (hP:E.P=E0.P) (hG:E.G=E0.G){f:Operand}{args:Array Operand}{tys:Array TypeId}{t':TypeId}{pos:String}{af:Array Edge}{g:Option (Nat×Bool)}(ht:T hp (bld 72 p bs::L)) (hk:okB bs=true) (hr:rest=⟨some d,.call ⟨.value f,args,tys⟩,t',pos,af,g⟩::rest') (hw:A5 ops (Fr n l) ⟨some d,.call ⟨.value f,args,tys⟩,t',pos,af,g⟩=some true)
  (hf:opA E (Fr n l) f=some (.fn 31 [] [])) (ha:Fl (opA E (Fr n l)) args.toList=some [p]) (k:∀ hp',T hp' L->RunL E cx ops rest' ⟨Fr n ((d,.st bs)::l),hp'⟩ K):RunL E cx ops rest ⟨Fr n l,hp⟩ K:=by
 rcases QR ht with ⟨rfl,hT⟩ | ⟨hb,e,hT⟩
 ·refine Fb (e:=B7) hP hG Dk rfl rfl (fid:=31) (caps:=[]) (xs:=[p]) (fn:=Tryz.f31) (c:=D2) (Out:=fun v h'=>v = .st []/\T h' (cel p 2 72 (.ag [.v (.pointer none),.v (.slice none 0 0)])::L)) hr hw hf ha (by kernel_rfl) (by kernel_rfl) (by show 1<=14; decide) (F0 p [] rfl hT) ?_
  rintro xx hp' ⟨hq,hT2⟩; subst xx
  exact k hp' hT2.drop
 ·have hlen:0 < bs.length:=by
   cases bs with
   | nil=>exact absurd rfl hb
   | cons a r=>simp
  have hv:Ca bs=some bs:=by
   unfold Ca
   rw [if_pos (by rw [HO]; simpa using hlen),if_pos (by simpa using hlen),if_pos hk]
  refine Fb (e:=CG) hP hG Dw rfl rfl (fid:=31) (caps:=[]) (xs:=[p]) (fn:=Tryz.f31) (c:=D5) (Out:=fun v h'=>v = .st bs/\T h' (cel p 2 72 (.ag [p,e])::L)) hr hw hf ha (by kernel_rfl) (by kernel_rfl) (by show 1<=14; decide) (GD p e bs _ hv hT) ?_
  rintro xx hp' ⟨hq,hT2⟩; subst xx
  exact k hp' hT2.drop
end
/- trestle/court.formed -/
noncomputable def BY:Code:=BX Tryz.f70
def Et (x0:AF):Option ((Bool)) :=
 if (x0.1==8)=true then
 some (x0.1==8)
 else
 some (x0.1==9)
def Es (x0:AF):Option ((Bool)) :=
 if (x0.1==3)=true then
 some (x0.1==3)
 else
 (Et x0).bind fun r14 =>
 some r14
def Er (x0:AF):Option ((Bool)) :=
 if (x0.1==2)=true then
 some (x0.1==2)
 else
 (Es x0).bind fun r15 =>
 some r15
def Ey (x0:AF):Option ((Bool)) :=
 if (x0.1==6)=true then
 some (x0.1==6)
 else
 some (x0.1==7)
def Ez (x0:AF) (r33:Bool):Option ((Int×Int×Bool) ⊕ (Bool)) :=
 if r33=true then
 some (.inl (16,0,true))
 else
 if (x0.1==10)=true then
 some (.inl (0,63,false))
 else
 some (.inr false)
def Ew (x0:AF):Option ((Int×Int×Bool) ⊕ (Bool)) :=
 if (x0.1==5)=true then
 some (.inl (0,0,true))
 else
 (Ey x0).bind fun r33 =>
 (Ez x0 r33).bind fun r40 =>
 match r40 with
 | (.inl w41) =>
  some (.inl (w41.1,w41.2.1,w41.2.2))
 | (.inr w42) =>
  some (.inr w42)
def Ev (x0:AF):Option ((Int×Int×Int×Bool) ⊕ (Bool)) :=
 if (x0.1==4)=true then
 some (.inl (0,1,2,true))
 else
 (Ew x0).bind fun r44 =>
 match r44 with
 | (.inl w45) =>
  some (.inl (w45.1,0,w45.2.1,w45.2.2))
 | (.inr w46) =>
  some (.inr w46)
def Eu (x0:AF) (r16:Bool):Option ((Int×Int×Int×Bool) ⊕ (Bool)) :=
 if r16=true then
 some (.inl (0,0,0,false))
 else
 (Ev x0).bind fun r48 =>
 match r48 with
 | (.inl w49) =>
  some (.inl (w49.1,w49.2.1,w49.2.2.1,w49.2.2.2))
 | (.inr w50) =>
  some (.inr w50)
def EB (x0:AF):Option ((Int×Int×Int×Bool) ⊕ (Bool)) :=
 if (x0.1==1)=true then
 if (!(x0.2.1==[]))=true then
 some (.inr false)
 else
 some (.inl (16,0,0,false))
 else
 (Er x0).bind fun r16 =>
 (Eu x0 r16).bind fun r52 =>
 match r52 with
 | (.inl w53) =>
  some (.inl (w53.1,w53.2.1,w53.2.2.1,w53.2.2.2))
 | (.inr w54) =>
  some (.inr w54)
def A2 (x0:AF):Option (Bool) :=
 (EB x0).bind fun r55 =>
 match r55 with
 | (.inl w56) =>
  (if (decide ((x0.2.2.2.1.length:Int)<=w56.1))=true then if (w56.1==0)=true then if (decide (x0.2.2.2.2≥w56.2.1))=true then if (decide (x0.2.2.2.2<=w56.2.2.1))=true then if w56.2.2.2=true then some true else some (!x0.2.2.1) else some false else some false else if (decide ((x0.2.2.2.1.length:Int) > 0))=true then if (decide (x0.2.2.2.2≥w56.2.1))=true then if (decide (x0.2.2.2.2<=w56.2.2.1))=true then if w56.2.2.2=true then some true else some (!x0.2.2.1) else some false else some false else some false else some false).bind fun j58 =>
  some j58
 | (.inr w68) =>
  some w68
def GT:Cs (AF×Unit):=(csC AB csN)
def GW (r:Bool):AV:=cdB.enc r
theorem Je (x0:AF) (r:(Bool)) (h:Et x0=some r):Sem E0 ⟨none,false⟩ (pc BY [1,1,0,1,0,1,1,0,1,1,1,1,1]) ⟨Fr 63 [(1,.pt 0 0 0),(3,.j 0),(4,.j 0),(5,.j 0),(6,.b false),(8,.v (.int .u8 x0.1)),(14,.b (x0.1==8))],[some ⟨5,66,[AB.enc x0],false⟩]⟩ (fun e s=>e = .normal/\Wk E0 s ⟨Fr 63 [(1,.pt 0 0 0),(3,.j 0),(4,.j 0),(5,.j 0),(6,.b false),(8,.v (.int .u8 x0.1)),(14,.b r)],[some ⟨5,66,[AB.enc x0],false⟩]⟩):=by
 unfold Et at h;refine AU (b:=(x0.1==8)) kr (fun hb12=>?_) (fun hb12=>?_)
 ·rw [if_pos hb12] at h
  refine Ax ?_;have hq:=OI h; subst hq;exact ⟨rfl,(BC [0] ⟨⟨_,rfl,EP⟩,trivial⟩ ⟨lv,lv,lv,lv,lv,lv,lv,trivial⟩)⟩
 ·rw [Bx hb12] at h
  refine Em AC [(1,.pt 0 0 0),(3,.j 0),(4,.j 0),(5,.j 0),(6,.b false),(8,.v (.int .u8 x0.1)),(14,.b (x0.1==9))] [some ⟨5,66,[AB.enc x0],false⟩] ?_;have hq:=OI h; subst hq;exact ⟨rfl,(BC [0] ⟨⟨_,rfl,EP⟩,trivial⟩ ⟨lv,lv,lv,lv,lv,lv,lv,trivial⟩)⟩
theorem Jd (x0:AF) (r:(Bool)) (h:Es x0=some r):Sem E0 ⟨none,false⟩ (pc BY [1,1,0,1,0,1,1,0,1,1,1]) ⟨Fr 63 [(1,.pt 0 0 0),(3,.j 0),(4,.j 0),(5,.j 0),(6,.b false),(8,.v (.int .u8 x0.1)),(14,.b (x0.1==3))],[some ⟨5,66,[AB.enc x0],false⟩]⟩ (fun e s=>e = .normal/\Wk E0 s ⟨Fr 63 [(1,.pt 0 0 0),(3,.j 0),(4,.j 0),(5,.j 0),(6,.b false),(8,.v (.int .u8 x0.1)),(14,.b r)],[some ⟨5,66,[AB.enc x0],false⟩]⟩):=by
 unfold Es at h;refine AU (b:=(x0.1==3)) kr (fun hb10=>?_) (fun hb10=>?_)
 ·rw [if_pos hb10] at h
  refine Ax ?_;have hq:=OI h; subst hq;exact ⟨rfl,(BC [0] ⟨⟨_,rfl,EP⟩,trivial⟩ ⟨lv,lv,lv,lv,lv,lv,lv,trivial⟩)⟩
 ·rw [Bx hb10] at h
  refine Ae AC [(1,.pt 0 0 0),(3,.j 0),(4,.j 0),(5,.j 0),(6,.b false),(8,.v (.int .u8 x0.1)),(14,.b (x0.1==8))] [some ⟨5,66,[AB.enc x0],false⟩] ?_;obtain ⟨r14,hr14,h⟩:=OB h;refine C9 (Je x0 _ hr14) ?_;have hq:=OI h; subst hq;exact ⟨rfl,(BC [0] ⟨⟨_,rfl,EP⟩,trivial⟩ ⟨lv,lv,lv,lv,lv,lv,lv,trivial⟩)⟩
theorem Jc (x0:AF) (r:(Bool)) (h:Er x0=some r):Sem E0 ⟨none,false⟩ (pc BY [1,1,0,1,0,1,1,0,1]) ⟨Fr 63 [(1,.pt 0 0 0),(3,.j 0),(4,.j 0),(5,.j 0),(6,.b false),(8,.v (.int .u8 x0.1)),(14,.b (x0.1==2))],[some ⟨5,66,[AB.enc x0],false⟩]⟩ (fun e s=>e = .normal/\Wk E0 s ⟨Fr 63 [(1,.pt 0 0 0),(3,.j 0),(4,.j 0),(5,.j 0),(6,.b false),(8,.v (.int .u8 x0.1)),(14,.b r)],[some ⟨5,66,[AB.enc x0],false⟩]⟩):=by
 unfold Er at h;refine AU (b:=(x0.1==2)) kr (fun hb8=>?_) (fun hb8=>?_)
 ·rw [if_pos hb8] at h
  refine Ax ?_;have hq:=OI h; subst hq;exact ⟨rfl,(BC [0] ⟨⟨_,rfl,EP⟩,trivial⟩ ⟨lv,lv,lv,lv,lv,lv,lv,trivial⟩)⟩
 ·rw [Bx hb8] at h
  refine Ae AC [(1,.pt 0 0 0),(3,.j 0),(4,.j 0),(5,.j 0),(6,.b false),(8,.v (.int .u8 x0.1)),(14,.b (x0.1==3))] [some ⟨5,66,[AB.enc x0],false⟩] ?_;obtain ⟨r15,hr15,h⟩:=OB h;refine C9 (Jd x0 _ hr15) ?_;have hq:=OI h; subst hq;exact ⟨rfl,(BC [0] ⟨⟨_,rfl,EP⟩,trivial⟩ ⟨lv,lv,lv,lv,lv,lv,lv,trivial⟩)⟩
theorem Jf (x0:AF) (r:(Bool)) (h:Ey x0=some r):Sem E0 ⟨none,false⟩ (pc BY [1,1,0,1,0,1,1,1,1,1,1,1,1,0,1]) ⟨Fr 63 [(1,.pt 0 0 0),(3,.j 0),(4,.j 0),(5,.j 0),(6,.b false),(8,.v (.int .u8 x0.1)),(23,.b (x0.1==6))],[some ⟨5,66,[AB.enc x0],false⟩]⟩ (fun e s=>e = .normal/\Wk E0 s ⟨Fr 63 [(1,.pt 0 0 0),(3,.j 0),(4,.j 0),(5,.j 0),(6,.b false),(8,.v (.int .u8 x0.1)),(23,.b r)],[some ⟨5,66,[AB.enc x0],false⟩]⟩):=by
 unfold Ey at h;refine AU (b:=(x0.1==6)) kr (fun hb31=>?_) (fun hb31=>?_)
 ·rw [if_pos hb31] at h
  refine Ax ?_;have hq:=OI h; subst hq;exact ⟨rfl,(BC [0] ⟨⟨_,rfl,EP⟩,trivial⟩ ⟨lv,lv,lv,lv,lv,lv,lv,trivial⟩)⟩
 ·rw [Bx hb31] at h
  refine Em AC [(1,.pt 0 0 0),(3,.j 0),(4,.j 0),(5,.j 0),(6,.b false),(8,.v (.int .u8 x0.1)),(23,.b (x0.1==7))] [some ⟨5,66,[AB.enc x0],false⟩] ?_;have hq:=OI h; subst hq;exact ⟨rfl,(BC [0] ⟨⟨_,rfl,EP⟩,trivial⟩ ⟨lv,lv,lv,lv,lv,lv,lv,trivial⟩)⟩
theorem Gz (x0:AF) (r33:Bool) (r:(Int×Int×Bool) ⊕ (Bool)) (h:Ez x0 r33=some r):Sem E0 ⟨none,false⟩ (pc BY [1,1,0,1,0,1,1,1,1,1,1,1,1,1]) ⟨Fr 63 [(1,.pt 0 0 0),(3,.j 0),(4,.j 0),(5,.j 0),(6,.b false),(8,.v (.int .u8 x0.1)),(23,.b r33)],[some ⟨5,66,[AB.enc x0],false⟩]⟩ (fun e s=>match r with
 | (.inl w)=>e = .normal/\Wk E0 s ⟨Fr 63 [(1,.pt 0 0 0),(3,.j w.1),(4,.j 0),(5,.j w.2.1),(6,.b w.2.2)],[some ⟨5,66,[AB.enc x0],false⟩]⟩
 | (.inr w)=>e = .ret/\Wk E0 s ⟨Fr 63 [(2,.b w)],[]⟩):=by
 unfold Ez at h;refine AU (b:=r33) kr (fun hb34=>?_) (fun hb34=>?_)
 ·rw [if_pos hb34] at h
  refine Em AC [(1,.pt 0 0 0),(3,.j 16),(4,.j 0),(5,.j 0),(6,.b true)] [some ⟨5,66,[AB.enc x0],false⟩] ?_;have hq:=OI h; subst hq;exact ⟨rfl,(BC [0] ⟨⟨_,rfl,EP⟩,trivial⟩ ⟨lv,lv,lv,lv,lv,trivial⟩)⟩
 ·rw [Bx hb34] at h
  let p1:Option Blk:=some ⟨5,66,[AB.enc x0],false⟩
  refine Ae AC [(1,.pt 0 0 0),(3,.j 0),(4,.j 0),(6,.b false),(26,.b (x0.1==10))] [p1] ?_;refine AU (b:=(x0.1==10)) kr (fun hb38=>?_) (fun hb38=>?_)
  ·rw [if_pos hb38] at h
   refine Em AC [(1,.pt 0 0 0),(3,.j 0),(4,.j 0),(5,.j 63),(6,.b false)] [p1] ?_;have hq:=OI h; subst hq;exact ⟨rfl,(BC [0] ⟨⟨_,rfl,EP⟩,trivial⟩ ⟨lv,lv,lv,lv,lv,trivial⟩)⟩
  ·rw [Bx hb38] at h
   refine AI ?_;refine AL (s1:=⟨Fr 63 [(2,.b false)],[]⟩) ?_ ?_
   ·refine AD (n:=63) AC 1 [(2,.b false)] [p1] kr ?_
    exact AJ rfl (BC [] trivial ⟨lv,trivial⟩)
   refine Ah ?_;have hq:=OI h; subst hq;exact ⟨rfl,AQ⟩
theorem Gy (x0:AF) (r:(Int×Int×Bool) ⊕ (Bool)) (h:Ew x0=some r):Sem E0 ⟨none,false⟩ (pc BY [1,1,0,1,0,1,1,1,1,1,1,1]) ⟨Fr 63 [(1,.pt 0 0 0),(3,.j 0),(4,.j 0),(5,.j 0),(6,.b false),(8,.v (.int .u8 x0.1)),(21,.b (x0.1==5))],[some ⟨5,66,[AB.enc x0],false⟩]⟩ (fun e s=>match r with
 | (.inl w)=>e = .normal/\Wk E0 s ⟨Fr 63 [(1,.pt 0 0 0),(3,.j w.1),(4,.j 0),(5,.j w.2.1),(6,.b w.2.2)],[some ⟨5,66,[AB.enc x0],false⟩]⟩
 | (.inr w)=>e = .ret/\Wk E0 s ⟨Fr 63 [(2,.b w)],[]⟩):=by
 unfold Ew at h;refine AU (b:=(x0.1==5)) kr (fun hb27=>?_) (fun hb27=>?_)
 ·rw [if_pos hb27] at h
  refine Em AC [(1,.pt 0 0 0),(3,.j 0),(4,.j 0),(5,.j 0),(6,.b true)] [some ⟨5,66,[AB.enc x0],false⟩] ?_;have hq:=OI h; subst hq;exact ⟨rfl,(BC [0] ⟨⟨_,rfl,EP⟩,trivial⟩ ⟨lv,lv,lv,lv,lv,trivial⟩)⟩
 ·rw [Bx hb27] at h
  refine AI ?_;refine Ae AC [(1,.pt 0 0 0),(3,.j 0),(4,.j 0),(5,.j 0),(6,.b false),(8,.v (.int .u8 x0.1)),(23,.b (x0.1==6))] [some ⟨5,66,[AB.enc x0],false⟩] ?_;obtain ⟨r33,hr33,h⟩:=OB h;refine C9 (Jf x0 _ hr33) ?_;obtain ⟨r40,hr40,h⟩:=OB h;rcases r40 with w41 | w42
  ·try dsimp only at h
   refine C9 (Gz x0 r33 _ hr40) ?_;have hq:=OI h; subst hq;exact ⟨rfl,(BC [0] ⟨⟨_,rfl,EP⟩,trivial⟩ ⟨lv,lv,lv,lv,lv,trivial⟩)⟩
  ·try dsimp only at h
   refine C9 (Gz x0 r33 _ hr40) ?_;have hq:=OI h; subst hq;exact ⟨rfl,AQ⟩
theorem Gx (x0:AF) (r:(Int×Int×Int×Bool) ⊕ (Bool)) (h:Ev x0=some r):Sem E0 ⟨none,false⟩ (pc BY [1,1,0,1,0,1,1,1,1,1]) ⟨Fr 63 [(1,.pt 0 0 0),(3,.j 0),(4,.j 0),(5,.j 0),(6,.b false),(8,.v (.int .u8 x0.1)),(19,.b (x0.1==4))],[some ⟨5,66,[AB.enc x0],false⟩]⟩ (fun e s=>match r with
 | (.inl w)=>e = .normal/\Wk E0 s ⟨Fr 63 [(1,.pt 0 0 0),(3,.j w.1),(4,.j w.2.1),(5,.j w.2.2.1),(6,.b w.2.2.2)],[some ⟨5,66,[AB.enc x0],false⟩]⟩
 | (.inr w)=>e = .ret/\Wk E0 s ⟨Fr 63 [(2,.b w)],[]⟩):=by
 unfold Ev at h;refine AU (b:=(x0.1==4)) kr (fun hb22=>?_) (fun hb22=>?_)
 ·rw [if_pos hb22] at h
  refine Em AC [(1,.pt 0 0 0),(3,.j 0),(4,.j 1),(5,.j 2),(6,.b true)] [some ⟨5,66,[AB.enc x0],false⟩] ?_;have hq:=OI h; subst hq;exact ⟨rfl,(BC [0] ⟨⟨_,rfl,EP⟩,trivial⟩ ⟨lv,lv,lv,lv,lv,trivial⟩)⟩
 ·rw [Bx hb22] at h
  refine Ae AC [(1,.pt 0 0 0),(3,.j 0),(4,.j 0),(5,.j 0),(6,.b false),(8,.v (.int .u8 x0.1)),(21,.b (x0.1==5))] [some ⟨5,66,[AB.enc x0],false⟩] ?_;obtain ⟨r44,hr44,h⟩:=OB h;rcases r44 with w45 | w46
  ·try dsimp only at h
   refine C9 (Gy x0 _ hr44) ?_;have hq:=OI h; subst hq;exact ⟨rfl,(BC [0] ⟨⟨_,rfl,EP⟩,trivial⟩ ⟨lv,lv,lv,lv,lv,trivial⟩)⟩
  ·try dsimp only at h
   refine C9 (Gy x0 _ hr44) ?_;have hq:=OI h; subst hq;exact ⟨rfl,AQ⟩
theorem Gw (x0:AF) (r16:Bool) (r:(Int×Int×Int×Bool) ⊕ (Bool)) (h:Eu x0 r16=some r):Sem E0 ⟨none,false⟩ (pc BY [1,1,0,1,0,1,1,1]) ⟨Fr 63 [(1,.pt 0 0 0),(3,.j 0),(4,.j 0),(5,.j 0),(6,.b false),(8,.v (.int .u8 x0.1)),(14,.b r16)],[some ⟨5,66,[AB.enc x0],false⟩]⟩ (fun e s=>match r with
 | (.inl w)=>e = .normal/\Wk E0 s ⟨Fr 63 [(1,.pt 0 0 0),(3,.j w.1),(4,.j w.2.1),(5,.j w.2.2.1),(6,.b w.2.2.2)],[some ⟨5,66,[AB.enc x0],false⟩]⟩
 | (.inr w)=>e = .ret/\Wk E0 s ⟨Fr 63 [(2,.b w)],[]⟩):=by
 unfold Eu at h;refine AU (b:=r16) kr (fun hb17=>?_) (fun hb17=>?_)
 ·rw [if_pos hb17] at h
  refine Ax ?_;have hq:=OI h; subst hq;exact ⟨rfl,(BC [0] ⟨⟨_,rfl,EP⟩,trivial⟩ ⟨lv,lv,lv,lv,lv,trivial⟩)⟩
 ·rw [Bx hb17] at h
  refine Ae AC [(1,.pt 0 0 0),(3,.j 0),(4,.j 0),(5,.j 0),(6,.b false),(8,.v (.int .u8 x0.1)),(19,.b (x0.1==4))] [some ⟨5,66,[AB.enc x0],false⟩] ?_;obtain ⟨r48,hr48,h⟩:=OB h;rcases r48 with w49 | w50
  ·try dsimp only at h
   refine C9 (Gx x0 _ hr48) ?_;have hq:=OI h; subst hq;exact ⟨rfl,(BC [0] ⟨⟨_,rfl,EP⟩,trivial⟩ ⟨lv,lv,lv,lv,lv,trivial⟩)⟩
  ·try dsimp only at h
   refine C9 (Gx x0 _ hr48) ?_;have hq:=OI h; subst hq;exact ⟨rfl,AQ⟩
theorem Gv (x0:AF) (r:(Int×Int×Int×Bool) ⊕ (Bool)) (h:EB x0=some r):Sem E0 ⟨none,false⟩ (pc BY [1,1,0,1,0,1]) ⟨Fr 63 [(1,.pt 0 0 0),(3,.j 0),(4,.j 0),(5,.j 0),(6,.b false),(8,.v (.int .u8 x0.1)),(9,.b (x0.1==1))],[some ⟨5,66,[AB.enc x0],false⟩]⟩ (fun e s=>match r with
 | (.inl w)=>e = .normal/\Wk E0 s ⟨Fr 63 [(1,.pt 0 0 0),(3,.j w.1),(4,.j w.2.1),(5,.j w.2.2.1),(6,.b w.2.2.2)],[some ⟨5,66,[AB.enc x0],false⟩]⟩
 | (.inr w)=>e = .ret/\Wk E0 s ⟨Fr 63 [(2,.b w)],[]⟩):=by
 unfold EB at h;refine AU (b:=(x0.1==1)) kr (fun hb1=>?_) (fun hb1=>?_)
 ·rw [if_pos hb1] at h
  refine AI ?_
  let p1:Option Blk:=some ⟨5,66,[AB.enc x0],false⟩
  refine Ae AC [(1,.pt 0 0 0),(4,.j 0),(5,.j 0),(6,.b false),(13,.b (!(x0.2.1==[])))] [p1] ?_;refine AU (b:=(!(x0.2.1==[]))) kr (fun hb2=>?_) (fun hb2=>?_)
  ·rw [if_pos hb2] at h
   refine AI ?_;refine AL (s1:=⟨Fr 63 [(2,.b false)],[]⟩) ?_ ?_
   ·refine AD (n:=63) AC 1 [(2,.b false)] [p1] kr ?_
    exact AJ rfl (BC [] trivial ⟨lv,trivial⟩)
   refine Ah ?_;have hq:=OI h; subst hq;exact ⟨rfl,AQ⟩
  ·rw [Bx hb2] at h
   refine Ax ?_;refine Em AC [(1,.pt 0 0 0),(3,.j 16),(4,.j 0),(5,.j 0),(6,.b false)] [p1] ?_;have hq:=OI h; subst hq;exact ⟨rfl,(BC [0] ⟨⟨_,rfl,EP⟩,trivial⟩ ⟨lv,lv,lv,lv,lv,trivial⟩)⟩
 ·rw [Bx hb1] at h
  refine AI ?_;refine Ae AC [(1,.pt 0 0 0),(3,.j 0),(4,.j 0),(5,.j 0),(6,.b false),(8,.v (.int .u8 x0.1)),(14,.b (x0.1==2))] [some ⟨5,66,[AB.enc x0],false⟩] ?_;obtain ⟨r16,hr16,h⟩:=OB h;refine C9 (Jc x0 _ hr16) ?_;obtain ⟨r52,hr52,h⟩:=OB h;rcases r52 with w53 | w54
  ·try dsimp only at h
   refine C9 (Gw x0 r16 _ hr52) ?_;have hq:=OI h; subst hq;exact ⟨rfl,(BC [0] ⟨⟨_,rfl,EP⟩,trivial⟩ ⟨lv,lv,lv,lv,lv,trivial⟩)⟩
  ·try dsimp only at h
   refine C9 (Gw x0 r16 _ hr52) ?_;have hq:=OI h; subst hq;exact ⟨rfl,AQ⟩
theorem Kh (x0:AF) (r:Bool) (h:A2 x0=some r):Sem E0 ⟨none,false⟩ BY ⟨Fr 63 (BB 0 (GT.enc (x0,()))),[]⟩ fun e s'=>(e = .normal\/e = .ret)/\∃ xs,D4 E0.P s'.fr s'.hp Tryz.f70.results.toList=some xs/\Eh xs=GW r:=by
 unfold A2 at h;refine CB (DP (s1:=⟨Fr 63 [(0,AB.enc x0)],[]⟩) AQ ?_);refine Ae AC [(1,.pt 0 0 0)] [some ⟨5,66,[AB.enc x0],false⟩] ?_;refine Ae AC [(1,.pt 0 0 0),(3,.j 0),(4,.j 0),(5,.j 0),(6,.b false)] [some ⟨5,66,[AB.enc x0],false⟩] ?_;refine AI ?_;refine Ae AC [(1,.pt 0 0 0),(3,.j 0),(4,.j 0),(5,.j 0),(6,.b false),(8,.v (.int .u8 x0.1))] [some ⟨5,66,[AB.enc x0],false⟩] ?_;refine Bh ?_;refine Ae AC [(1,.pt 0 0 0),(3,.j 0),(4,.j 0),(5,.j 0),(6,.b false),(8,.v (.int .u8 x0.1)),(9,.b (x0.1==1))] [some ⟨5,66,[AB.enc x0],false⟩] ?_;obtain ⟨r55,hr55,h⟩:=OB h;rcases r55 with w56 | w68
 ·try dsimp only at h
  refine C9 (Gv x0 _ hr55) ?_;refine AI ?_;obtain ⟨j58,hj58,h⟩:=OB h;refine AL (s1:=⟨Fr 63 [(2,.b j58)],[]⟩) ?_ ?_
  ·refine AD (n:=63) AC 2 [(1,.pt 0 0 0),(3,.j w56.1),(4,.j w56.2.1),(5,.j w56.2.2.1),(6,.b w56.2.2.2),(29,.sl 1 (x0.2.2.2.1.map cdS.enc))] [some ⟨5,66,[AB.enc x0],false⟩] kr ?_
   refine Aw AC 0 rfl (BH (AA rfl) rfl (FT (a:= .sl 1 (x0.2.2.2.1.map cdS.enc)) kr (Dx (el:=9) kr))) ?_;refine AD (n:=63) AC 3 [(1,.pt 0 0 0),(3,.j w56.1),(4,.j w56.2.1),(5,.j w56.2.2.1),(6,.b w56.2.2.2),(33,.b (decide ((x0.2.2.2.1.length:Int)<=w56.1)))] [some ⟨5,66,[AB.enc x0],false⟩] kr ?_;rcases BE (decide ((x0.2.2.2.1.length:Int)<=w56.1)) with hc59 | hc59
   ·rw [if_pos hc59] at hj58
    rw [hc59];refine AD (n:=63) AC 3 [(1,.pt 0 0 0),(4,.j w56.2.1),(5,.j w56.2.2.1),(6,.b w56.2.2.2),(33,.b true),(36,.b (w56.1==0))] [some ⟨5,66,[AB.enc x0],false⟩] kr ?_;rcases BE (w56.1==0) with hc60 | hc60
    ·rw [if_pos hc60] at hj58
     rw [hc60];refine AD (n:=63) AC 13 [(1,.pt 0 0 0),(5,.j w56.2.2.1),(6,.b w56.2.2.2),(49,.b (decide (x0.2.2.2.2≥w56.2.1)))] [some ⟨5,66,[AB.enc x0],false⟩] kr ?_;rcases BE (decide (x0.2.2.2.2≥w56.2.1)) with hc61 | hc61
     ·rw [if_pos hc61] at hj58
      rw [hc61];refine AD (n:=63) AC 6 [(1,.pt 0 0 0),(6,.b w56.2.2.2),(55,.b (decide (x0.2.2.2.2<=w56.2.2.1)))] [some ⟨5,66,[AB.enc x0],false⟩] kr ?_;rcases BE (decide (x0.2.2.2.2<=w56.2.2.1)) with hc62 | hc62
      ·rw [if_pos hc62] at hj58
       rw [hc62];refine AD (n:=63) AC 2 [(1,.pt 0 0 0),(55,.b true),(57,.b w56.2.2.2)] [some ⟨5,66,[AB.enc x0],false⟩] kr ?_;rcases BE w56.2.2.2 with hc63 | hc63
       ·rw [if_pos hc63] at hj58
        rw [hc63];refine AD (n:=63) AC 6 [(2,.b true)] [some ⟨5,66,[AB.enc x0],false⟩] kr ?_;have hq:=OI hj58; subst hq;exact AJ rfl (BC [] trivial ⟨lv,trivial⟩)
       ·rw [Bx hc63] at hj58
        rw [hc63];refine AD (n:=63) AC 6 [(2,.b (!x0.2.2.1))] [some ⟨5,66,[AB.enc x0],false⟩] kr ?_;have hq:=OI hj58; subst hq;exact AJ rfl (BC [] trivial ⟨lv,trivial⟩)
      ·rw [Bx hc62] at hj58
       rw [hc62];refine AD (n:=63) AC 8 [(2,.b false)] [some ⟨5,66,[AB.enc x0],false⟩] kr ?_;have hq:=OI hj58; subst hq;exact AJ rfl (BC [] trivial ⟨lv,trivial⟩)
     ·rw [Bx hc61] at hj58
      rw [hc61];refine AD (n:=63) AC 14 [(2,.b false)] [some ⟨5,66,[AB.enc x0],false⟩] kr ?_;have hq:=OI hj58; subst hq;exact AJ rfl (BC [] trivial ⟨lv,trivial⟩)
    ·rw [Bx hc60] at hj58
     rw [hc60];refine AD (n:=63) AC 2 [(1,.pt 0 0 0),(4,.j w56.2.1),(5,.j w56.2.2.1),(6,.b w56.2.2.2),(33,.b true),(36,.b false),(38,.sl 1 (x0.2.2.2.1.map cdS.enc))] [some ⟨5,66,[AB.enc x0],false⟩] kr ?_;refine Aw AC 0 rfl (BH kr rfl (FT (a:= .sl 1 (x0.2.2.2.1.map cdS.enc)) kr (Dx (el:=9) kr))) ?_;refine AD (n:=63) AC 4 [(1,.pt 0 0 0),(4,.j w56.2.1),(5,.j w56.2.2.1),(6,.b w56.2.2.2),(43,.b (decide ((x0.2.2.2.1.length:Int) > 0)))] [some ⟨5,66,[AB.enc x0],false⟩] kr ?_;rcases BE (decide ((x0.2.2.2.1.length:Int) > 0)) with hc64 | hc64
     ·rw [if_pos hc64] at hj58
      rw [hc64];refine AD (n:=63) AC 6 [(1,.pt 0 0 0),(5,.j w56.2.2.1),(6,.b w56.2.2.2),(49,.b (decide (x0.2.2.2.2≥w56.2.1)))] [some ⟨5,66,[AB.enc x0],false⟩] kr ?_;rcases BE (decide (x0.2.2.2.2≥w56.2.1)) with hc65 | hc65
      ·rw [if_pos hc65] at hj58
       rw [hc65];refine AD (n:=63) AC 6 [(1,.pt 0 0 0),(6,.b w56.2.2.2),(55,.b (decide (x0.2.2.2.2<=w56.2.2.1)))] [some ⟨5,66,[AB.enc x0],false⟩] kr ?_;rcases BE (decide (x0.2.2.2.2<=w56.2.2.1)) with hc66 | hc66
       ·rw [if_pos hc66] at hj58
        rw [hc66];refine AD (n:=63) AC 2 [(1,.pt 0 0 0),(55,.b true),(57,.b w56.2.2.2)] [some ⟨5,66,[AB.enc x0],false⟩] kr ?_;rcases BE w56.2.2.2 with hc67 | hc67
        ·rw [if_pos hc67] at hj58
         rw [hc67];refine AD (n:=63) AC 6 [(2,.b true)] [some ⟨5,66,[AB.enc x0],false⟩] kr ?_;have hq:=OI hj58; subst hq;exact AJ rfl (BC [] trivial ⟨lv,trivial⟩)
        ·rw [Bx hc67] at hj58
         rw [hc67];refine AD (n:=63) AC 6 [(2,.b (!x0.2.2.1))] [some ⟨5,66,[AB.enc x0],false⟩] kr ?_;have hq:=OI hj58; subst hq;exact AJ rfl (BC [] trivial ⟨lv,trivial⟩)
       ·rw [Bx hc66] at hj58
        rw [hc66];refine AD (n:=63) AC 8 [(2,.b false)] [some ⟨5,66,[AB.enc x0],false⟩] kr ?_;have hq:=OI hj58; subst hq;exact AJ rfl (BC [] trivial ⟨lv,trivial⟩)
      ·rw [Bx hc65] at hj58
       rw [hc65];refine AD (n:=63) AC 14 [(2,.b false)] [some ⟨5,66,[AB.enc x0],false⟩] kr ?_;have hq:=OI hj58; subst hq;exact AJ rfl (BC [] trivial ⟨lv,trivial⟩)
     ·rw [Bx hc64] at hj58
      rw [hc64];refine AD (n:=63) AC 20 [(2,.b false)] [some ⟨5,66,[AB.enc x0],false⟩] kr ?_;have hq:=OI hj58; subst hq;exact AJ rfl (BC [] trivial ⟨lv,trivial⟩)
   ·rw [Bx hc59] at hj58
    rw [hc59];refine AD (n:=63) AC 30 [(2,.b false)] [some ⟨5,66,[AB.enc x0],false⟩] kr ?_;have hq:=OI hj58; subst hq;exact AJ rfl (BC [] trivial ⟨lv,trivial⟩)
  refine Ah ?_;have hq:=OI h; subst hq;exact ⟨⟨Fr 63 [(2,.b j58)],[]⟩,AQ,.inr rfl,[.b j58],kr,kr⟩
 ·try dsimp only at h
  refine C9 (Gv x0 _ hr55) ?_;have hq:=OI h; subst hq;exact ⟨⟨Fr 63 [(2,.b w68)],[]⟩,AQ,.inr rfl,[.b w68],kr,kr⟩
def MC:List AV->Option AV:=FZ GT (fun a=>A2 a.1) GW
theorem MH:XOk 70 MC:=by
 refine Az Tryz.func70 (c:=BY) ?h2 ⟨Tryz.call70⟩ GT (fun a=>A2 a.1) GW (fun a=>(by show 1<=63; decide)) ?h3 ?h4
 case h2=>kernel_rfl
 case h3=>intro b; kernel_rfl
 case h4=>exact fun a b h=>Kh a.1 b h
/- trestle/court.name -/
noncomputable def Hd:Code:=BX Tryz.f71
def DF (x0:(List UInt8)):Nat->Int->Option ((Unit) ⊕ (Bool))
 | 0,_=>none
 | f + 1,c1 =>
  if (decide (c1 < (x0.length:Int)))=true then
  (idx x0 c1).bind fun v3 =>
  (if (decide ((v3.toNat:Int) < 97))=true then some true else (idx x0 c1).bind fun v4 =>
  some (decide ((v4.toNat:Int) > 122))).bind fun j6 =>
  if j6=true then
  some (.inr false)
  else
  DF x0 f (wr .i64 (c1 + 1))
  else
  some (.inl ())
def Ed (x0:(List UInt8)):Option (Bool) :=
 (DF x0 100000 0).bind fun r10 =>
 match r10 with
 | (.inl w11) =>
  (if (decide ((x0.length:Int)≥1))=true then some (decide ((x0.length:Int)<=12)) else some false).bind fun j13 =>
  some j13
 | (.inr w15) =>
  some w15
def He:Cs ((List UInt8)×Unit):=(csC cdS csN)
def Hi (r:Bool):AV:=cdB.enc r
theorem H8 (x0:(List UInt8)):∀ (f:Nat) (c1:Int) (r:(Unit) ⊕ (Bool)),DF x0 f c1=some r->SemN E0 ⟨none,false⟩ (pc Hd [1,0,1,0,0]) f ⟨Fr 28 [(0,.st x0),(3,.j c1)],[]⟩ (fun e s=>match r with
 | (.inl w)=>e=(.exit 0)/\Wk E0 s ⟨Fr 28 [(0,.st x0)],[]⟩
 | (.inr w)=>e = .ret/\Wk E0 s ⟨Fr 28 [(2,.b w)],[]⟩):=by
 intro f;induction f with
 | zero=>intro c1 r h; cases h
 | succ f ih0 =>
  intro c1 r h
  have ih:=fun (c1:Int)=>ih0 c1 r
  unfold DF at h;refine En ?_;refine AI ?_;refine Ae AC [(0,.st x0),(3,.j c1),(7,.b (decide (c1 < (x0.length:Int))))] [] ?_;refine AU (b:=(decide (c1 < (x0.length:Int)))) kr (fun hb2=>?_) (fun hb2=>?_)
  ·rw [if_pos hb2] at h
   refine Ax ?_;refine AI ?_;refine Bh ?_;refine AI ?_;obtain ⟨v3,hv3,h⟩:=OB h;obtain ⟨j6,hj6,h⟩:=OB h;refine AL (s1:=⟨Fr 28 [(0,.st x0),(3,.j c1),(19,.b j6)],[]⟩) ?_ ?_
   ·refine AD (n:=28) AC 2 [(0,.st x0),(3,.j c1),(10,.st x0),(11,.j c1)] [] kr ?_
    refine Aw AC 0 rfl (BH (AA rfl) rfl (JL (a:= .st x0) (b:= .j c1) kr kr (Ho (bs:=x0) (ki:= .i64) kr hv3))) ?_;refine AD (n:=28) AC 2 [(0,.st x0),(3,.j c1),(14,.b (decide ((v3.toNat:Int) < 97)))] [] kr ?_;rcases BE (decide ((v3.toNat:Int) < 97)) with hc9 | hc9
    ·rw [if_pos hc9] at hj6
     rw [hc9];refine AD (n:=28) AC 5 [(0,.st x0),(3,.j c1),(15,.tp []),(16,.tp []),(17,.tp []),(18,.tp []),(19,.b true)] [] kr ?_;have hq:=OI hj6; subst hq;exact AJ rfl AQ
    ·rw [Bx hc9] at hj6
     rw [hc9];refine AD (n:=28) AC 2 [(0,.st x0),(3,.j c1),(14,.b false),(15,.st x0),(16,.j c1)] [] kr ?_;obtain ⟨v4,hv4,hj6⟩:=OB hj6;refine Aw AC 0 rfl (BH kr rfl (JL (a:= .st x0) (b:= .j c1) kr kr (Ho (bs:=x0) (ki:= .i64) kr hv4))) ?_;refine AD (n:=28) AC 2 [(0,.st x0),(3,.j c1),(15,.st x0),(16,.j c1),(17,.v (.int .u8 (v4.toNat:Int))),(18,.b (decide ((v4.toNat:Int) > 122))),(19,.b (decide ((v4.toNat:Int) > 122)))] [] kr ?_;have hq:=OI hj6; subst hq;exact AJ rfl AQ
   refine AU (b:=j6) kr (fun hb7=>?_) (fun hb7=>?_)
   ·rw [if_pos hb7] at h
    refine Ae AC [(2,.b false)] [] ?_;refine Ah ?_;have hq:=OI h; subst hq;exact ⟨rfl,AQ⟩
   ·rw [Bx hb7] at h
    refine Ax ?_;refine Em AC [(0,.st x0),(3,.j (wr .i64 (c1 + 1)))] [] ?_;exact CQ (s1:=⟨Fr 28 [(0,.st x0),(3,.j (wr .i64 (c1 + 1)))],[]⟩) AQ (ih (wr .i64 (c1 + 1)) h)
  ·rw [Bx hb2] at h
   refine F8 ?_;have hq:=OI h; subst hq;exact ⟨rfl,AQ⟩
theorem L3 (x0:(List UInt8)) (r:Bool) (h:Ed x0=some r):Sem E0 ⟨none,false⟩ Hd ⟨Fr 28 (BB 0 (He.enc (x0,()))),[]⟩ fun e s'=>(e = .normal\/e = .ret)/\∃ xs,D4 E0.P s'.fr s'.hp Tryz.f71.results.toList=some xs/\Eh xs=Hi r:=by
 unfold Ed at h;refine CB (DP (s1:=⟨Fr 28 [(0,.st x0)],[]⟩) AQ ?_);refine Ae AC [(0,.st x0)] [] ?_;refine AI ?_;refine Ae AC [(0,.st x0),(3,.j 0)] [] ?_;refine Bh ?_;obtain ⟨r10,hr10,h⟩:=OB h;refine F9 (n:=100000) ?_;rcases r10 with w11 | w15
 ·try dsimp only at h
  refine DB (CQ (s1:=⟨Fr 28 [(0,.st x0),(3,.j 0)],[]⟩) AQ (H8 x0 _ 0 _ hr10)) ?_;refine AI ?_;obtain ⟨j13,hj13,h⟩:=OB h;refine AL (s1:=⟨Fr 28 [(2,.b j13)],[]⟩) ?_ ?_
  ·refine AD (n:=28) AC 4 [(0,.st x0),(23,.b (decide ((x0.length:Int)≥1)))] [] kr ?_
   rcases BE (decide ((x0.length:Int)≥1)) with hc14 | hc14
   ·rw [if_pos hc14] at hj13
    rw [hc14];refine AD (n:=28) AC 5 [(2,.b (decide ((x0.length:Int)<=12)))] [] kr ?_;have hq:=OI hj13; subst hq;exact AJ rfl AQ
   ·rw [Bx hc14] at hj13
    rw [hc14];refine AD (n:=28) AC 5 [(2,.b false)] [] kr ?_;have hq:=OI hj13; subst hq;exact AJ rfl AQ
  refine Ah ?_;have hq:=OI h; subst hq;exact ⟨⟨Fr 28 [(2,.b j13)],[]⟩,AQ,.inr rfl,[.b j13],kr,kr⟩
 ·try dsimp only at h
  refine DB (CQ (s1:=⟨Fr 28 [(0,.st x0),(3,.j 0)],[]⟩) AQ (H8 x0 _ 0 _ hr10)) ?_;have hq:=OI h; subst hq;exact ⟨⟨Fr 28 [(2,.b w15)],[]⟩,AQ,.inr rfl,[.b w15],kr,kr⟩
def N4:List AV->Option AV:=FZ He (fun a=>Ed a.1) Hi
theorem Kc:XOk 71 N4:=by
 refine Az Tryz.func71 (c:=Hd) ?h2 ⟨Tryz.call71⟩ He (fun a=>Ed a.1) Hi (fun a=>(by show 1<=28; decide)) ?h3 ?h4
 case h2=>kernel_rfl
 case h3=>intro b; kernel_rfl
 case h4=>exact fun a b h=>L3 a.1 b h
/- trestle/court.check$1 -/
noncomputable def H4:Code:=BX Tryz.f72
def Do (x0:(List UInt8)):Option (Bool) :=
 (Ed x0).bind fun v1 =>
 some (!v1)
def Fm:Cs ((List UInt8)×Unit):=(csC cdS csN)
def Fq (r:Bool):AV:=cdB.enc r
theorem KC (x0:(List UInt8)) (r:Bool) (h:Do x0=some r):Sem E0 ⟨none,false⟩ H4 ⟨Fr 6 (BB 0 (Fm.enc (x0,()))),[]⟩ fun e s'=>(e = .normal\/e = .ret)/\∃ xs,D4 E0.P s'.fr s'.hp Tryz.f72.results.toList=some xs/\Eh xs=Fq r:=by
 unfold Do at h;refine CB (DP (s1:=⟨Fr 6 [(0,.st x0)],[]⟩) AQ ?_);refine Ae AC [(0,.st x0)] [] ?_;refine AI ?_;obtain ⟨v1,hv1,h⟩:=OB h;refine AL (s1:=⟨Fr 6 [(2,.b (!v1))],[]⟩) ?_ ?_
 ·refine AD (n:=6) AC 1 [(3,.st x0)] [] kr ?_
  refine Af (caps:=[]) (xs:=[.st x0]) (u:=(x0,())) rfl rfl Kc rfl (AA rfl) kr kr (As (BU (c:=cdS) (v:=x0)) B3) (.inl kr) hv1 ?_;exact Ar AC
 refine Ah ?_;have hq:=OI h; subst hq;exact ⟨⟨Fr 6 [(2,.b (!v1))],[]⟩,AQ,.inr rfl,[.b (!v1)],kr,kr⟩
def Ll:List AV->Option AV:=FZ Fm (fun a=>Do a.1) Fq
theorem Lv:XOk 72 Ll:=by
 refine Az Tryz.func72 (c:=H4) ?h2 ⟨Tryz.call72⟩ Fm (fun a=>Do a.1) Fq (fun a=>(by show 1<=6; decide)) ?h3 ?h4
 case h2=>kernel_rfl
 case h3=>intro b; kernel_rfl
 case h4=>exact fun a b h=>KC a.1 b h
/- slices.IndexFunc[[]string,string] -/
noncomputable def A8:Code:=BX Tryz.f79
def Ad (x0:(List (List UInt8))):Nat->Int->Option ((Unit) ⊕ (Int))
 | 0,_=>none
 | f + 1,c1 =>
  if (decide (c1 < (x0.length:Int)))=true then
  (idx x0 c1).bind fun v3 =>
  (Do v3).bind fun v4 =>
  if v4=true then
  some (.inr c1)
  else
  Ad x0 f (wr .i64 (c1 + 1))
  else
  some (.inl ())
def Ab (x0:(List (List UInt8))):Option (Int) :=
 (Ad x0 100000 0).bind fun r7 =>
 match r7 with
 | (.inl w8) =>
  some (-1)
 | (.inr w9) =>
  some w9
def A9:Cs ((List (List UInt8))×Unit×Unit):=(csC (cdL 1 cdS) (csC (cdF 72 csN (fun _=>rfl)) csN))
def BA (r:Int):AV:=cdI.enc r
theorem Bc (x0:(List (List UInt8))):∀ (f:Nat) (c1:Int) (r:(Unit) ⊕ (Int)),Ad x0 f c1=some r->SemN E0 ⟨none,false⟩ (pc A8 [1,0,1,0,0]) f ⟨Fr 19 [(0,.sl 1 (x0.map cdS.enc)),(1,.fn 72 [] []),(7,.j (x0.length:Int)),(8,.j c1)],[]⟩ (fun e s=>match r with
 | (.inl w)=>e=(.exit 0)/\Wk E0 s ⟨Fr 19 [],[]⟩
 | (.inr w)=>e = .ret/\Wk E0 s ⟨Fr 19 [(4,.j w)],[]⟩):=by
 intro f;induction f with
 | zero=>intro c1 r h; cases h
 | succ f ih0 =>
  intro c1 r h
  have ih:=fun (c1:Int)=>ih0 c1 r
  unfold Ad at h;refine En ?_
  let p1:Nat×AV:=(8,.j c1)
  let p2:Nat×AV:=(7,.j (x0.length:Int))
  let p3:Nat×AV:=(1,.fn 72 [] [])
  let p4:Nat×AV:=(0,.sl 1 (x0.map cdS.enc))
  refine Ae AC [p4,p3,p2,p1,(9,.b (decide (c1 < (x0.length:Int))))] [] ?_;refine AI ?_;refine AU (b:=(decide (c1 < (x0.length:Int)))) kr (fun hb2=>?_) (fun hb2=>?_)
  ·rw [if_pos hb2] at h
   refine Ax ?_;refine AI ?_;refine Bh ?_
   let p5:Nat×AV:=(5,.j c1)
   refine Ae AC [p4,p3,p5,p2,p1] [] ?_;refine AI ?_;obtain ⟨v3,hv3,h⟩:=OB h;obtain ⟨v4,hv4,h⟩:=OB h;refine AL (s1:=⟨Fr 19 [p4,p3,p5,p2,p1,(16,.b v4)],[]⟩) ?_ ?_
   ·refine AD (n:=19) AC 3 [p4,p3,p5,p2,p1,(11,.fn 72 [] []),(12,.sl 1 (x0.map cdS.enc)),(13,.j c1)] [] kr ?_
    refine Aw AC 0 rfl (BH (AA rfl) rfl (BW (a:= .sl 1 (x0.map cdS.enc)) (b:= .j c1) kr kr (Iy (e:=cdS.enc) (el:=9) (k:=1) (ki:= .i64) kr kr hv3))) ?_;refine AD (n:=19) AC 1 [p4,p3,p5,p2,p1,(11,.fn 72 [] []),(15,.st v3)] [] kr ?_;refine Af (caps:=[]) (xs:=[.st v3]) (u:=(v3,())) rfl rfl Lv rfl (AA rfl) kr kr (As (BU (c:=cdS) (v:=v3)) B3) (.inl kr) hv4 ?_;exact AJ rfl AQ
   refine AU (b:=v4) kr (fun hb5=>?_) (fun hb5=>?_)
   ·rw [if_pos hb5] at h
    refine Ae AC [(4,.j c1)] [] ?_;refine Ah ?_;have hq:=OI h; subst hq;exact ⟨rfl,AQ⟩
   ·rw [Bx hb5] at h
    refine Ax ?_
    let p6:Nat×AV:=(8,.j (wr .i64 (c1 + 1)))
    refine Em AC [p4,p3,p2,p6] [] ?_;exact CQ (s1:=⟨Fr 19 [p4,p3,p2,p6],[]⟩) AQ (ih (wr .i64 (c1 + 1)) h)
  ·rw [Bx hb2] at h
   refine F8 ?_;have hq:=OI h; subst hq;exact ⟨rfl,AQ⟩
theorem DA (x0:(List (List UInt8))) (r:Int) (h:Ab x0=some r):Sem E0 ⟨none,false⟩ A8 ⟨Fr 19 (BB 0 (A9.enc (x0,(),()))),[]⟩ fun e s'=>(e = .normal\/e = .ret)/\∃ xs,D4 E0.P s'.fr s'.hp Tryz.f79.results.toList=some xs/\Eh xs=BA r:=by
 unfold Ab at h
 let p1:Nat×AV:=(1,.fn 72 [] [])
 let p2:Nat×AV:=(0,.sl 1 (x0.map cdS.enc))
 refine CB (DP (s1:=⟨Fr 19 [p2,p1],[]⟩) AQ ?_);refine Ae AC [p2,p1] [] ?_;refine AI ?_;refine AI ?_
 let p3:Nat×AV:=(8,.j 0)
 let p4:Nat×AV:=(7,.j (x0.length:Int))
 refine AL (s1:=⟨Fr 19 [p2,p1,p4,p3],[]⟩) ?_ ?_
 ·refine AD (n:=19) AC 1 [p2,p1,(6,.sl 1 (x0.map cdS.enc))] [] kr ?_
  refine Aw AC 0 rfl (BH (AA rfl) rfl (FT (a:= .sl 1 (x0.map cdS.enc)) kr (Dx (el:=9) kr))) ?_;exact Ar AC
 refine Bh ?_;obtain ⟨r7,hr7,h⟩:=OB h;refine F9 (n:=100000) ?_;rcases r7 with w8 | w9
 ·try dsimp only at h
  refine DB (CQ (s1:=⟨Fr 19 [p2,p1,p4,p3],[]⟩) AQ (Bc x0 _ 0 _ hr7)) ?_;refine Ae AC [(4,.j (-1))] [] ?_;refine Ah ?_;have hq:=OI h; subst hq;exact ⟨⟨Fr 19 [(4,.j (-1))],[]⟩,AQ,.inr rfl,[.j (-1)],kr,kr⟩
 ·try dsimp only at h
  refine DB (CQ (s1:=⟨Fr 19 [p2,p1,p4,p3],[]⟩) AQ (Bc x0 _ 0 _ hr7)) ?_;have hq:=OI h; subst hq;exact ⟨⟨Fr 19 [(4,.j w9)],[]⟩,AQ,.inr rfl,[.j w9],kr,kr⟩
def DN:List AV->Option AV:=FZ A9 (fun a=>Ab a.1) BA
theorem DO:XOk 79 DN:=by
 refine Az Tryz.func79 (c:=A8) ?h2 ⟨Tryz.call79⟩ A9 (fun a=>Ab a.1) BA (fun a=>(by show 2<=19; decide)) ?h3 ?h4
 case h2=>kernel_rfl
 case h3=>intro b; kernel_rfl
 case h4=>exact fun a b h=>DA a.1 b h
/- slices.ContainsFunc[[]string,string] -/
noncomputable def BZ:Code:=BX Tryz.f48
def AP (x0:(List (List UInt8))):Option (Bool) :=
 (Ab x0).bind fun v1 =>
 some (decide (v1≥0))
def A3:Cs ((List (List UInt8))×Unit×Unit):=(csC (cdL 1 cdS) (csC (cdF 72 csN (fun _=>rfl)) csN))
def A4 (r:Bool):AV:=cdB.enc r
theorem Ct (x0:(List (List UInt8))) (r:Bool) (h:AP x0=some r):Sem E0 ⟨none,false⟩ BZ ⟨Fr 9 (BB 0 (A3.enc (x0,(),()))),[]⟩ fun e s'=>(e = .normal\/e = .ret)/\∃ xs,D4 E0.P s'.fr s'.hp Tryz.f48.results.toList=some xs/\Eh xs=A4 r:=by
 unfold AP at h;refine CB (DP (s1:=⟨Fr 9 [(0,.sl 1 (x0.map cdS.enc)),(1,.fn 72 [] [])],[]⟩) AQ ?_);refine Ae AC [(0,.sl 1 (x0.map cdS.enc)),(1,.fn 72 [] [])] [] ?_;refine AI ?_;obtain ⟨v1,hv1,h⟩:=OB h
 let p1:Nat×AV:=(4,.b (decide (v1≥0)))
 refine AL (s1:=⟨Fr 9 [p1],[]⟩) ?_ ?_
 ·refine AD (n:=9) AC 2 [(5,.sl 1 (x0.map cdS.enc)),(6,.fn 72 [] [])] [] kr ?_
  refine Af (caps:=[]) (xs:=[.sl 1 (x0.map cdS.enc),.fn 72 [] []]) (u:=(x0,(),())) rfl rfl DO rfl (AA rfl) kr kr (As (BU (c:=(cdL 1 cdS)) (v:=x0)) (As (Sm.fn B3) B3)) (.inl kr) hv1 ?_;exact Ar AC
 refine Ah ?_;have hq:=OI h; subst hq;exact ⟨⟨Fr 9 [p1],[]⟩,AQ,.inr rfl,[.b (decide (v1≥0))],kr,kr⟩
def C6:List AV->Option AV:=FZ A3 (fun a=>AP a.1) A4
theorem Be:XOk 48 C6:=by
 refine Az Tryz.func48 (c:=BZ) ?h2 ⟨Tryz.call48⟩ A3 (fun a=>AP a.1) A4 (fun a=>(by show 2<=9; decide)) ?h3 ?h4
 case h2=>kernel_rfl
 case h3=>intro b; kernel_rfl
 case h4=>exact fun a b h=>Ct a.1 b h
/- slices.Index[[]string,string] -/
noncomputable def Cc:Code:=BX Tryz.f93
def BR (x0:(List (List UInt8))) (x1:(List UInt8)):Nat->Int->Option ((Unit) ⊕ (Int))
 | 0,_=>none
 | f + 1,c1 =>
  if (decide (c1 < (x0.length:Int)))=true then
  (idx x0 c1).bind fun v3 =>
  if (x1==v3)=true then
  some (.inr c1)
  else
  BR x0 x1 f (wr .i64 (c1 + 1))
  else
  some (.inl ())
def BN (x0:(List (List UInt8))) (x1:(List UInt8)):Option (Int) :=
 (BR x0 x1 100000 0).bind fun r6 =>
 match r6 with
 | (.inl w7) =>
  some (-1)
 | (.inr w8) =>
  some w8
def Cg:Cs ((List (List UInt8))×(List UInt8)×Unit):=(csC (cdL 1 cdS) (csC cdS csN))
def Ci (r:Int):AV:=cdI.enc r
theorem DU (x0:(List (List UInt8))) (x1:(List UInt8)):∀ (f:Nat) (c1:Int) (r:(Unit) ⊕ (Int)),BR x0 x1 f c1=some r->SemN E0 ⟨none,false⟩ (pc Cc [1,0,1,0,0]) f ⟨Fr 19 [(0,.sl 1 (x0.map cdS.enc)),(1,.st x1),(7,.j (x0.length:Int)),(8,.j c1)],[]⟩ (fun e s=>match r with
 | (.inl w)=>e=(.exit 0)/\Wk E0 s ⟨Fr 19 [],[]⟩
 | (.inr w)=>e = .ret/\Wk E0 s ⟨Fr 19 [(4,.j w)],[]⟩):=by
 intro f;induction f with
 | zero=>intro c1 r h; cases h
 | succ f ih0 =>
  intro c1 r h
  have ih:=fun (c1:Int)=>ih0 c1 r
  unfold BR at h;refine En ?_
  let p1:Nat×AV:=(8,.j c1)
  let p2:Nat×AV:=(7,.j (x0.length:Int))
  let p3:Nat×AV:=(0,.sl 1 (x0.map cdS.enc))
  refine Ae AC [p3,(1,.st x1),p2,p1,(9,.b (decide (c1 < (x0.length:Int))))] [] ?_;refine AI ?_;refine AU (b:=(decide (c1 < (x0.length:Int)))) kr (fun hb2=>?_) (fun hb2=>?_)
  ·rw [if_pos hb2] at h
   refine Ax ?_;refine AI ?_;refine Bh ?_
   let p4:Nat×AV:=(5,.j c1)
   refine Ae AC [p3,(1,.st x1),p4,p2,p1] [] ?_;refine AI ?_;obtain ⟨v3,hv3,h⟩:=OB h;refine AL (s1:=⟨Fr 19 [p3,(1,.st x1),p4,p2,p1,(16,.b (x1==v3))],[]⟩) ?_ ?_
   ·refine AD (n:=19) AC 3 [p3,(1,.st x1),p4,p2,p1,(11,.st x1),(12,.sl 1 (x0.map cdS.enc)),(13,.j c1)] [] kr ?_
    refine Aw AC 0 rfl (BH (AA rfl) rfl (BW (a:= .sl 1 (x0.map cdS.enc)) (b:= .j c1) kr kr (Iy (e:=cdS.enc) (el:=9) (k:=1) (ki:= .i64) kr kr hv3))) ?_;exact Ar AC
   refine AU (b:=(x1==v3)) kr (fun hb4=>?_) (fun hb4=>?_)
   ·rw [if_pos hb4] at h
    refine Ae AC [(4,.j c1)] [] ?_;refine Ah ?_;have hq:=OI h; subst hq;exact ⟨rfl,AQ⟩
   ·rw [Bx hb4] at h
    refine Ax ?_
    let p5:Nat×AV:=(8,.j (wr .i64 (c1 + 1)))
    refine Em AC [p3,(1,.st x1),p2,p5] [] ?_;exact CQ (s1:=⟨Fr 19 [p3,(1,.st x1),p2,p5],[]⟩) AQ (ih (wr .i64 (c1 + 1)) h)
  ·rw [Bx hb2] at h
   refine F8 ?_;have hq:=OI h; subst hq;exact ⟨rfl,AQ⟩
theorem Fg (x0:(List (List UInt8))) (x1:(List UInt8)) (r:Int) (h:BN x0 x1=some r):Sem E0 ⟨none,false⟩ Cc ⟨Fr 19 (BB 0 (Cg.enc (x0,x1,()))),[]⟩ fun e s'=>(e = .normal\/e = .ret)/\∃ xs,D4 E0.P s'.fr s'.hp Tryz.f93.results.toList=some xs/\Eh xs=Ci r:=by
 unfold BN at h
 let p1:Nat×AV:=(0,.sl 1 (x0.map cdS.enc))
 refine CB (DP (s1:=⟨Fr 19 [p1,(1,.st x1)],[]⟩) AQ ?_);refine Ae AC [p1,(1,.st x1)] [] ?_;refine AI ?_;refine AI ?_
 let p2:Nat×AV:=(8,.j 0)
 let p3:Nat×AV:=(7,.j (x0.length:Int))
 refine AL (s1:=⟨Fr 19 [p1,(1,.st x1),p3,p2],[]⟩) ?_ ?_
 ·refine AD (n:=19) AC 1 [p1,(1,.st x1),(6,.sl 1 (x0.map cdS.enc))] [] kr ?_
  refine Aw AC 0 rfl (BH (AA rfl) rfl (FT (a:= .sl 1 (x0.map cdS.enc)) kr (Dx (el:=9) kr))) ?_;exact Ar AC
 refine Bh ?_;obtain ⟨r6,hr6,h⟩:=OB h;refine F9 (n:=100000) ?_;rcases r6 with w7 | w8
 ·try dsimp only at h
  refine DB (CQ (s1:=⟨Fr 19 [p1,(1,.st x1),p3,p2],[]⟩) AQ (DU x0 x1 _ 0 _ hr6)) ?_;refine Ae AC [(4,.j (-1))] [] ?_;refine Ah ?_;have hq:=OI h; subst hq;exact ⟨⟨Fr 19 [(4,.j (-1))],[]⟩,AQ,.inr rfl,[.j (-1)],kr,kr⟩
 ·try dsimp only at h
  refine DB (CQ (s1:=⟨Fr 19 [p1,(1,.st x1),p3,p2],[]⟩) AQ (DU x0 x1 _ 0 _ hr6)) ?_;have hq:=OI h; subst hq;exact ⟨⟨Fr 19 [(4,.j w8)],[]⟩,AQ,.inr rfl,[.j w8],kr,kr⟩
def GF:List AV->Option AV:=FZ Cg (fun a=>BN a.1 a.2.1) Ci
theorem GH:XOk 93 GF:=by
 refine Az Tryz.func93 (c:=Cc) ?h2 ⟨Tryz.call93⟩ Cg (fun a=>BN a.1 a.2.1) Ci (fun a=>(by show 2<=19; decide)) ?h3 ?h4
 case h2=>kernel_rfl
 case h3=>intro b; kernel_rfl
 case h4=>exact fun a b h=>Fg a.1 a.2.1 b h
/- slices.Contains[[]string,string] -/
noncomputable def DQ:Code:=BX Tryz.f73
def Am (x0:(List (List UInt8))) (x1:(List UInt8)):Option (Bool) :=
 (BN x0 x1).bind fun v1 =>
 some (decide (v1≥0))
def CC:Cs ((List (List UInt8))×(List UInt8)×Unit):=(csC (cdL 1 cdS) (csC cdS csN))
def CD (r:Bool):AV:=cdB.enc r
theorem FJ (x0:(List (List UInt8))) (x1:(List UInt8)) (r:Bool) (h:Am x0 x1=some r):Sem E0 ⟨none,false⟩ DQ ⟨Fr 9 (BB 0 (CC.enc (x0,x1,()))),[]⟩ fun e s'=>(e = .normal\/e = .ret)/\∃ xs,D4 E0.P s'.fr s'.hp Tryz.f73.results.toList=some xs/\Eh xs=CD r:=by
 unfold Am at h;refine CB (DP (s1:=⟨Fr 9 [(0,.sl 1 (x0.map cdS.enc)),(1,.st x1)],[]⟩) AQ ?_);refine Ae AC [(0,.sl 1 (x0.map cdS.enc)),(1,.st x1)] [] ?_;refine AI ?_;obtain ⟨v1,hv1,h⟩:=OB h
 let p1:Nat×AV:=(4,.b (decide (v1≥0)))
 refine AL (s1:=⟨Fr 9 [p1],[]⟩) ?_ ?_
 ·refine AD (n:=9) AC 2 [(5,.sl 1 (x0.map cdS.enc)),(6,.st x1)] [] kr ?_
  refine Af (caps:=[]) (xs:=[.sl 1 (x0.map cdS.enc),.st x1]) (u:=(x0,x1,())) rfl rfl GH rfl (AA rfl) kr kr (As (BU (c:=(cdL 1 cdS)) (v:=x0)) (As (BU (c:=cdS) (v:=x1)) B3)) (.inl kr) hv1 ?_;exact Ar AC
 refine Ah ?_;have hq:=OI h; subst hq;exact ⟨⟨Fr 9 [p1],[]⟩,AQ,.inr rfl,[.b (decide (v1≥0))],kr,kr⟩
def FV:List AV->Option AV:=FZ CC (fun a=>Am a.1 a.2.1) CD
theorem Dg:XOk 73 FV:=by
 refine Az Tryz.func73 (c:=DQ) ?h2 ⟨Tryz.call73⟩ CC (fun a=>Am a.1 a.2.1) CD (fun a=>(by show 2<=9; decide)) ?h3 ?h4
 case h2=>kernel_rfl
 case h3=>intro b; kernel_rfl
 case h4=>exact fun a b h=>FJ a.1 a.2.1 b h
/- trestle/court.check$2 -/
noncomputable def H5:Code:=BX Tryz.f74
def Dp (x0:AF) (x1:AF):Option (Bool) :=
 (if (x0.1==1)=true then (Am x0.2.2.2.1 x1.2.1).bind fun v1 =>
 some v1 else some false).bind fun j3 =>
 some j3
def Fn:Cs (AF×AF×Unit):=(csC AB (csC (cdP AB) csN))
def Fs (r:Bool):AV:=cdB.enc r
theorem KD (x0:AF) (x1:AF) (r:Bool) (h:Dp x0 x1=some r):Sem E0 ⟨none,false⟩ H5 ⟨Fr 14 (BB 0 (Fn.enc (x0,x1,()))),[]⟩ fun e s'=>(e = .normal\/e = .ret)/\∃ xs,D4 E0.P s'.fr s'.hp Tryz.f74.results.toList=some xs/\Eh xs=Fs r:=by
 unfold Dp at h;refine CB (DP (s1:=⟨Fr 14 [(0,AB.enc x0),(1,.pe (AB.enc x1) 0)],[]⟩) AQ ?_);refine Ae AC [(1,.pe (AB.enc x1) 0),(2,.pt 0 0 0)] [some ⟨5,66,[AB.enc x0],false⟩] ?_;refine AI ?_;obtain ⟨j3,hj3,h⟩:=OB h;refine AL (s1:=⟨Fr 14 [(3,.b j3)],[]⟩) ?_ ?_
 ·refine AD (n:=14) AC 4 [(1,.pe (AB.enc x1) 0),(2,.pt 0 0 0),(7,.b (x0.1==1))] [some ⟨5,66,[AB.enc x0],false⟩] kr ?_
  rcases BE (x0.1==1) with hc4 | hc4
  ·rw [if_pos hc4] at hj3
   rw [hc4];refine AD (n:=14) AC 4 [(7,.b true),(9,.sl 1 (x0.2.2.2.1.map cdS.enc)),(11,.st x1.2.1)] [some ⟨5,66,[AB.enc x0],false⟩] kr ?_;obtain ⟨v1,hv1,hj3⟩:=OB hj3;refine Af (caps:=[]) (xs:=[.sl 1 (x0.2.2.2.1.map cdS.enc),.st x1.2.1]) (u:=(x0.2.2.2.1,x1.2.1,())) rfl rfl Dg rfl kr kr kr (As (BU (c:=(cdL 1 cdS)) (v:=x0.2.2.2.1)) (As (BU (c:=cdS) (v:=x1.2.1)) B3)) (.inl kr) hv1 ?_;refine AD (n:=14) AC 2 [(3,.b v1)] [some ⟨5,66,[AB.enc x0],false⟩] kr ?_;have hq:=OI hj3; subst hq;exact AJ rfl (BC [] trivial ⟨lv,trivial⟩)
  ·rw [Bx hc4] at hj3
   rw [hc4];refine AD (n:=14) AC 7 [(3,.b false)] [some ⟨5,66,[AB.enc x0],false⟩] kr ?_;have hq:=OI hj3; subst hq;exact AJ rfl (BC [] trivial ⟨lv,trivial⟩)
 refine Ah ?_;have hq:=OI h; subst hq;exact ⟨⟨Fr 14 [(3,.b j3)],[]⟩,AQ,.inr rfl,[.b j3],kr,kr⟩
def Lm:List AV->Option AV:=FZ Fn (fun a=>Dp a.1 a.2.1) Fs
theorem Lx:XOk 74 Lm:=by
 refine Az Tryz.func74 (c:=H5) ?h2 ⟨Tryz.call74⟩ Fn (fun a=>Dp a.1 a.2.1) Fs (fun a=>(by show 2<=14; decide)) ?h3 ?h4
 case h2=>kernel_rfl
 case h3=>intro b; kernel_rfl
 case h4=>exact fun a b h=>KD a.1 a.2.1 b h
/- slices.IndexFunc[[]trestle/api.Clause,trestle/api.Clause] -/
noncomputable def At:Code:=BX Tryz.f78
def AT (x0:(List AF)) (x1:AF):Nat->Int->Option ((Unit) ⊕ (Int))
 | 0,_=>none
 | f + 1,c1 =>
  if (decide (c1 < (x0.length:Int)))=true then
  (idx x0 c1).bind fun v3 =>
  (Dp v3 x1).bind fun v4 =>
  if v4=true then
  some (.inr c1)
  else
  AT x0 x1 f (wr .i64 (c1 + 1))
  else
  some (.inl ())
def AR (x0:(List AF)) (x1:AF):Option (Int) :=
 (AT x0 x1 100000 0).bind fun r7 =>
 match r7 with
 | (.inl w8) =>
  some (-1)
 | (.inr w9) =>
  some w9
def Au:Cs ((List AF)×AF×Unit):=(csC (cdL 5 AB) (csC (cdF 74 (csE (cdP AB)) (fun _=>rfl)) csN))
def Av (r:Int):AV:=cdI.enc r
theorem BL (x0:(List AF)) (x1:AF):∀ (f:Nat) (c1:Int) (r:(Unit) ⊕ (Int)),AT x0 x1 f c1=some r->SemN E0 ⟨none,false⟩ (pc At [1,0,1,0,0]) f ⟨Fr 19 [(0,.sl 5 (x0.map AB.enc)),(1,.fn 74 [] [.pe (AB.enc x1) 0]),(7,.j (x0.length:Int)),(8,.j c1)],[]⟩ (fun e s=>match r with
 | (.inl w)=>e=(.exit 0)/\Wk E0 s ⟨Fr 19 [],[]⟩
 | (.inr w)=>e = .ret/\Wk E0 s ⟨Fr 19 [(4,.j w)],[]⟩):=by
 intro f;induction f with
 | zero=>intro c1 r h; cases h
 | succ f ih0 =>
  intro c1 r h
  have ih:=fun (c1:Int)=>ih0 c1 r
  unfold AT at h;refine En ?_
  let p1:Nat×AV:=(8,.j c1)
  let p2:Nat×AV:=(7,.j (x0.length:Int))
  let p3:Nat×AV:=(1,.fn 74 [] [.pe (AB.enc x1) 0])
  let p4:Nat×AV:=(0,.sl 5 (x0.map AB.enc))
  refine Ae AC [p4,p3,p2,p1,(9,.b (decide (c1 < (x0.length:Int))))] [] ?_;refine AI ?_;refine AU (b:=(decide (c1 < (x0.length:Int)))) kr (fun hb2=>?_) (fun hb2=>?_)
  ·rw [if_pos hb2] at h
   refine Ax ?_;refine AI ?_;refine Bh ?_
   let p5:Nat×AV:=(5,.j c1)
   refine Ae AC [p4,p3,p5,p2,p1] [] ?_;refine AI ?_;obtain ⟨v3,hv3,h⟩:=OB h;obtain ⟨v4,hv4,h⟩:=OB h;refine AL (s1:=⟨Fr 19 [p4,p3,p5,p2,p1,(16,.b v4)],[]⟩) ?_ ?_
   ·let p6:Nat×AV:=(11,.fn 74 [] [.pe (AB.enc x1) 0])
    refine AD (n:=19) AC 3 [p4,p3,p5,p2,p1,p6,(12,.sl 5 (x0.map AB.enc)),(13,.j c1)] [] kr ?_;refine Aw AC 0 rfl (BH (AA rfl) rfl (BW (a:= .sl 5 (x0.map AB.enc)) (b:= .j c1) kr kr (Iy (e:=AB.enc) (el:=66) (k:=5) (ki:= .i64) kr kr hv3))) ?_;refine AD (n:=19) AC 1 [p4,p3,p5,p2,p1,p6,(15,AB.enc v3)] [] kr ?_;refine Af (caps:=[.pe (AB.enc x1) 0]) (xs:=[AB.enc v3]) (u:=(v3,x1,())) rfl rfl Lx rfl (AA rfl) kr kr (As (BU (c:=AB) (v:=v3)) (As (BU (c:=(cdP AB)) (v:=x1)) B3)) (.inl kr) hv4 ?_;exact AJ rfl AQ
   refine AU (b:=v4) kr (fun hb5=>?_) (fun hb5=>?_)
   ·rw [if_pos hb5] at h
    refine Ae AC [(4,.j c1)] [] ?_;refine Ah ?_;have hq:=OI h; subst hq;exact ⟨rfl,AQ⟩
   ·rw [Bx hb5] at h
    refine Ax ?_
    let p7:Nat×AV:=(8,.j (wr .i64 (c1 + 1)))
    refine Em AC [p4,p3,p2,p7] [] ?_;exact CQ (s1:=⟨Fr 19 [p4,p3,p2,p7],[]⟩) AQ (ih (wr .i64 (c1 + 1)) h)
  ·rw [Bx hb2] at h
   refine F8 ?_;have hq:=OI h; subst hq;exact ⟨rfl,AQ⟩
theorem CW (x0:(List AF)) (x1:AF) (r:Int) (h:AR x0 x1=some r):Sem E0 ⟨none,false⟩ At ⟨Fr 19 (BB 0 (Au.enc (x0,x1,()))),[]⟩ fun e s'=>(e = .normal\/e = .ret)/\∃ xs,D4 E0.P s'.fr s'.hp Tryz.f78.results.toList=some xs/\Eh xs=Av r:=by
 unfold AR at h
 let p1:Nat×AV:=(1,.fn 74 [] [.pe (AB.enc x1) 0])
 let p2:Nat×AV:=(0,.sl 5 (x0.map AB.enc))
 refine CB (DP (s1:=⟨Fr 19 [p2,p1],[]⟩) AQ ?_);refine Ae AC [p2,p1] [] ?_;refine AI ?_;refine AI ?_
 let p3:Nat×AV:=(8,.j 0)
 let p4:Nat×AV:=(7,.j (x0.length:Int))
 refine AL (s1:=⟨Fr 19 [p2,p1,p4,p3],[]⟩) ?_ ?_
 ·refine AD (n:=19) AC 1 [p2,p1,(6,.sl 5 (x0.map AB.enc))] [] kr ?_
  refine Aw AC 0 rfl (BH (AA rfl) rfl (FT (a:= .sl 5 (x0.map AB.enc)) kr (Dx (el:=66) kr))) ?_;exact Ar AC
 refine Bh ?_;obtain ⟨r7,hr7,h⟩:=OB h;refine F9 (n:=100000) ?_;rcases r7 with w8 | w9
 ·try dsimp only at h
  refine DB (CQ (s1:=⟨Fr 19 [p2,p1,p4,p3],[]⟩) AQ (BL x0 x1 _ 0 _ hr7)) ?_;refine Ae AC [(4,.j (-1))] [] ?_;refine Ah ?_;have hq:=OI h; subst hq;exact ⟨⟨Fr 19 [(4,.j (-1))],[]⟩,AQ,.inr rfl,[.j (-1)],kr,kr⟩
 ·try dsimp only at h
  refine DB (CQ (s1:=⟨Fr 19 [p2,p1,p4,p3],[]⟩) AQ (BL x0 x1 _ 0 _ hr7)) ?_;have hq:=OI h; subst hq;exact ⟨⟨Fr 19 [(4,.j w9)],[]⟩,AQ,.inr rfl,[.j w9],kr,kr⟩
def Cl:List AV->Option AV:=FZ Au (fun a=>AR a.1 a.2.1) Av
theorem Cm:XOk 78 Cl:=by
 refine Az Tryz.func78 (c:=At) ?h2 ⟨Tryz.call78⟩ Au (fun a=>AR a.1 a.2.1) Av (fun a=>(by show 2<=19; decide)) ?h3 ?h4
 case h2=>kernel_rfl
 case h3=>intro b; kernel_rfl
 case h4=>exact fun a b h=>CW a.1 a.2.1 b h
/- slices.ContainsFunc[[]trestle/api.Clause,trestle/api.Clause] -/
noncomputable def BI:Code:=BX Tryz.f46
def AO (x0:(List AF)) (x1:AF):Option (Bool) :=
 (AR x0 x1).bind fun v1 =>
 some (decide (v1≥0))
def Ap:Cs ((List AF)×AF×Unit):=(csC (cdL 5 AB) (csC (cdF 74 (csE (cdP AB)) (fun _=>rfl)) csN))
def Aq (r:Bool):AV:=cdB.enc r
theorem CH (x0:(List AF)) (x1:AF) (r:Bool) (h:AO x0 x1=some r):Sem E0 ⟨none,false⟩ BI ⟨Fr 9 (BB 0 (Ap.enc (x0,x1,()))),[]⟩ fun e s'=>(e = .normal\/e = .ret)/\∃ xs,D4 E0.P s'.fr s'.hp Tryz.f46.results.toList=some xs/\Eh xs=Aq r:=by
 unfold AO at h
 let p1:Nat×AV:=(1,.fn 74 [] [.pe (AB.enc x1) 0])
 let p2:Nat×AV:=(0,.sl 5 (x0.map AB.enc))
 refine CB (DP (s1:=⟨Fr 9 [p2,p1],[]⟩) AQ ?_);refine Ae AC [p2,p1] [] ?_;refine AI ?_;obtain ⟨v1,hv1,h⟩:=OB h
 let p3:Nat×AV:=(4,.b (decide (v1≥0)))
 refine AL (s1:=⟨Fr 9 [p3],[]⟩) ?_ ?_
 ·refine AD (n:=9) AC 2 [(5,.sl 5 (x0.map AB.enc)),(6,.fn 74 [] [.pe (AB.enc x1) 0])] [] kr ?_
  refine Af (caps:=[]) (xs:=[.sl 5 (x0.map AB.enc),.fn 74 [] [.pe (AB.enc x1) 0]]) (u:=(x0,x1,())) rfl rfl Cm rfl (AA rfl) kr kr (As (BU (c:=(cdL 5 AB)) (v:=x0)) (As (Sm.fn (QG (BU (c:=(cdP AB)) (v:=x1)))) B3)) (.inl kr) hv1 ?_;exact Ar AC
 refine Ah ?_;have hq:=OI h; subst hq;exact ⟨⟨Fr 9 [p3],[]⟩,AQ,.inr rfl,[.b (decide (v1≥0))],kr,kr⟩
def CO:List AV->Option AV:=FZ Ap (fun a=>AO a.1 a.2.1) Aq
theorem CP:XOk 46 CO:=by
 refine Az Tryz.func46 (c:=BI) ?h2 ⟨Tryz.call46⟩ Ap (fun a=>AO a.1 a.2.1) Aq (fun a=>(by show 2<=9; decide)) ?h3 ?h4
 case h2=>kernel_rfl
 case h3=>intro b; kernel_rfl
 case h4=>exact fun a b h=>CH a.1 a.2.1 b h
/- trestle/court.check -/
noncomputable def HA:Code:=BX Tryz.f36
def Cp (x0:(List AF)) (x1:AF):Nat->Int->Option ((Unit) ⊕ (Int))
 | 0,_=>none
 | f + 1,c9 =>
  if (decide (c9 < (x1.2.2.2.1.length:Int)))=true then
  (idx x1.2.2.2.1 c9).bind fun v11 =>
  if (Cn 0 c9 x1.2.2.2.1.length)=true then
  (Am ((x1.2.2.2.1.take c9.toNat).drop (0:Int).toNat) v11).bind fun v13 =>
  if v13=true then
  some (.inr 5)
  else
  Cp x0 x1 f (wr .i64 (c9 + 1))
  else none
  else
  some (.inl ())
def DM (x0:(List AF)) (x1:AF):Option (Int) :=
 (A2 x1).bind fun v1 =>
 if (!v1)=true then
 some 30
 else
 (if (!(x1.2.1==[]))=true then (Ed x1.2.1).bind fun v3 =>
 if (!v3)=true then some true else (AP x1.2.2.2.1).bind fun v4 =>
 some v4 else (AP x1.2.2.2.1).bind fun v5 =>
 some v5).bind fun j7 =>
 if j7=true then
 some 4
 else
 (Cp x0 x1 100000 0).bind fun r16 =>
 match r16 with
 | (.inl w17) =>
  (if (x1.2.1==[])=true then some true else (AO x0 x1).bind fun v18 =>
  some v18).bind fun j20 =>
  if j20=true then
  some 0
  else
  some 31
 | (.inr w23) =>
  some w23
def HC:Cs ((List AF)×AF×Unit):=(csC (cdL 5 AB) (csC AB csN))
def HF (r:Int):AV:=cdI.enc r
theorem HS (x0:(List AF)) (x1:AF):∀ (f:Nat) (c9:Int) (r:(Unit) ⊕ (Int)),Cp x0 x1 f c9=some r->SemN E0 ⟨none,false⟩ (pc HA [1,1,1,0,1,0,0]) f ⟨Fr 47 [(0,.sl 5 (x0.map AB.enc)),(3,.pt 0 0 0),(25,.sl 1 (x1.2.2.2.1.map cdS.enc)),(26,.j (x1.2.2.2.1.length:Int)),(27,.j c9)],[some ⟨5,66,[AB.enc x1],false⟩]⟩ (fun e s=>match r with
 | (.inl w)=>e=(.exit 0)/\Wk E0 s ⟨Fr 47 [(0,.sl 5 (x0.map AB.enc)),(3,.pt 0 0 0)],[some ⟨5,66,[AB.enc x1],false⟩]⟩
 | (.inr w)=>e = .ret/\Wk E0 s ⟨Fr 47 [(4,.j w)],[]⟩):=by
 intro f;induction f with
 | zero=>intro c9 r h; cases h
 | succ f ih0 =>
  intro c9 r h
  have ih:=fun (c9:Int)=>ih0 c9 r
  unfold Cp at h;refine En ?_
  let p1:Option Blk:=some ⟨5,66,[AB.enc x1],false⟩
  let p2:Nat×AV:=(27,.j c9)
  let p3:Nat×AV:=(26,.j (x1.2.2.2.1.length:Int))
  let p4:Nat×AV:=(25,.sl 1 (x1.2.2.2.1.map cdS.enc))
  let p5:Nat×AV:=(3,.pt 0 0 0)
  let p6:Nat×AV:=(0,.sl 5 (x0.map AB.enc))
  refine Ae AC [p6,p5,p4,p3,p2,(28,.b (decide (c9 < (x1.2.2.2.1.length:Int))))] [p1] ?_;refine AI ?_;refine AU (b:=(decide (c9 < (x1.2.2.2.1.length:Int)))) kr (fun hb10=>?_) (fun hb10=>?_)
  ·rw [if_pos hb10] at h
   refine Ax ?_;refine AI ?_;refine Bh ?_;refine AI ?_;obtain ⟨v11,hv11,h⟩:=OB h;refine AL (s1:=⟨Fr 47 [p6,p5,(5,.j c9),(6,.st v11),p4,p3,p2],[p1]⟩) ?_ ?_
   ·refine AD (n:=47) AC 1 [p6,p5,p4,p3,p2,(29,.j c9)] [p1] kr ?_
    refine Aw AC 0 rfl (BH (AA rfl) rfl (BW (a:= .sl 1 (x1.2.2.2.1.map cdS.enc)) (b:= .j c9) kr kr (Iy (e:=cdS.enc) (el:=9) (k:=1) (ki:= .i64) kr kr hv11))) ?_;exact Ar AC
   refine AI ?_;by_cases hk12:(Cn 0 c9 x1.2.2.2.1.length)=true
   case neg=>rw [if_neg hk12] at h; cases h
   rw [if_pos hk12] at h;obtain ⟨v13,hv13,h⟩:=OB h;refine AL (s1:=⟨Fr 47 [p6,p5,p4,p3,p2,(37,.b v13)],[p1]⟩) ?_ ?_
   ·refine AD (n:=47) AC 3 [p6,p5,(6,.st v11),p4,p3,p2,(33,.sl 1 (x1.2.2.2.1.map cdS.enc)),(34,.j c9)] [p1] kr ?_
    refine Aw AC 0 rfl (BH (AA rfl) rfl (EO (a:= .sl 1 (x1.2.2.2.1.map cdS.enc)) (l:=none) (u:=(some (.j c9))) (m:=none) kr kr kr rfl (Jt (xs:=x1.2.2.2.1) (e:=cdS.enc) (k:=1) (el:=9) (lo:=0) (hi:=c9) kr kr rfl (Fd (Ji hk12)) hk12))) ?_;refine AD (n:=47) AC 1 [p6,p5,p4,p3,p2,(35,.sl 1 (((x1.2.2.2.1.take c9.toNat).drop (0:Int).toNat).map cdS.enc)),(36,.st v11)] [p1] kr ?_;refine Af (caps:=[]) (xs:=[.sl 1 (((x1.2.2.2.1.take c9.toNat).drop (0:Int).toNat).map cdS.enc),.st v11]) (u:=(((x1.2.2.2.1.take c9.toNat).drop (0:Int).toNat),v11,())) rfl rfl Dg rfl (AA rfl) kr kr (As (BU (c:=(cdL 1 cdS)) (v:=((x1.2.2.2.1.take c9.toNat).drop (0:Int).toNat))) (As (BU (c:=cdS) (v:=v11)) B3)) (.inl kr) hv13 ?_;exact AJ rfl (BC [0] ⟨⟨_,rfl,EP⟩,trivial⟩ ⟨lv,lv,lv,lv,lv,lv,trivial⟩)
   refine AU (b:=v13) kr (fun hb14=>?_) (fun hb14=>?_)
   ·rw [if_pos hb14] at h
    refine AI ?_;refine AL (s1:=⟨Fr 47 [(4,.j 5)],[]⟩) ?_ ?_
    ·refine AD (n:=47) AC 1 [(4,.j 5)] [p1] kr ?_
     exact AJ rfl (BC [] trivial ⟨lv,trivial⟩)
    refine Ah ?_;have hq:=OI h; subst hq;exact ⟨rfl,AQ⟩
   ·rw [Bx hb14] at h
    refine Ax ?_
    let p7:Nat×AV:=(27,.j (wr .i64 (c9 + 1)))
    refine Em AC [p6,p5,p4,p3,p7] [p1] ?_;exact CQ (s1:=⟨Fr 47 [p6,p5,p4,p3,p7],[p1]⟩) (BC [0] ⟨⟨_,rfl,EP⟩,trivial⟩ ⟨lv,lv,lv,lv,lv,trivial⟩) (ih (wr .i64 (c9 + 1)) h)
  ·rw [Bx hb10] at h
   refine F8 ?_;have hq:=OI h; subst hq;exact ⟨rfl,(BC [0] ⟨⟨_,rfl,EP⟩,trivial⟩ ⟨lv,lv,trivial⟩)⟩
theorem LI (x0:(List AF)) (x1:AF) (r:Int) (h:DM x0 x1=some r):Sem E0 ⟨none,false⟩ HA ⟨Fr 47 (BB 0 (HC.enc (x0,x1,()))),[]⟩ fun e s'=>(e = .normal\/e = .ret)/\∃ xs,D4 E0.P s'.fr s'.hp Tryz.f36.results.toList=some xs/\Eh xs=HF r:=by
 unfold DM at h;refine CB (DP (s1:=⟨Fr 47 [(0,.sl 5 (x0.map AB.enc)),(1,AB.enc x1)],[]⟩) AQ ?_);refine Ae AC [(0,.sl 5 (x0.map AB.enc)),(3,.pt 0 0 0)] [some ⟨5,66,[AB.enc x1],false⟩] ?_;refine AI ?_;refine AI ?_;obtain ⟨v1,hv1,h⟩:=OB h;refine AL (s1:=⟨Fr 47 [(0,.sl 5 (x0.map AB.enc)),(3,.pt 0 0 0),(9,.b (!v1))],[some ⟨5,66,[AB.enc x1],false⟩]⟩) ?_ ?_
 ·refine AD (n:=47) AC 1 [(0,.sl 5 (x0.map AB.enc)),(3,.pt 0 0 0),(7,AB.enc x1)] [some ⟨5,66,[AB.enc x1],false⟩] kr ?_
  refine Af (caps:=[]) (xs:=[AB.enc x1]) (u:=(x1,())) rfl rfl MH rfl (AA rfl) kr kr (As (BU (c:=AB) (v:=x1)) B3) (.inl kr) hv1 ?_;exact Ar AC
 refine AU (b:=(!v1)) kr (fun hb2=>?_) (fun hb2=>?_)
 ·rw [if_pos hb2] at h
  refine AI ?_;refine AL (s1:=⟨Fr 47 [(4,.j 30)],[]⟩) ?_ ?_
  ·refine AD (n:=47) AC 1 [(4,.j 30)] [some ⟨5,66,[AB.enc x1],false⟩] kr ?_
   exact AJ rfl (BC [] trivial ⟨lv,trivial⟩)
  refine Ah ?_;have hq:=OI h; subst hq;exact ⟨⟨Fr 47 [(4,.j 30)],[]⟩,AQ,.inr rfl,[.j 30],kr,kr⟩
 ·rw [Bx hb2] at h
  refine Ax ?_;refine AI ?_;refine AI ?_;obtain ⟨j7,hj7,h⟩:=OB h;refine AL (s1:=⟨Fr 47 [(0,.sl 5 (x0.map AB.enc)),(3,.pt 0 0 0),(23,.b j7)],[some ⟨5,66,[AB.enc x1],false⟩]⟩) ?_ ?_
  ·refine AD (n:=47) AC 4 [(0,.sl 5 (x0.map AB.enc)),(3,.pt 0 0 0),(13,.b (!(x1.2.1==[])))] [some ⟨5,66,[AB.enc x1],false⟩] kr ?_
   rcases BE (!(x1.2.1==[])) with hc24 | hc24
   ·rw [if_pos hc24] at hj7
    rw [hc24];refine AD (n:=47) AC 2 [(0,.sl 5 (x0.map AB.enc)),(3,.pt 0 0 0),(13,.b true),(15,.st x1.2.1)] [some ⟨5,66,[AB.enc x1],false⟩] kr ?_;obtain ⟨v3,hv3,hj7⟩:=OB hj7;refine Af (caps:=[]) (xs:=[.st x1.2.1]) (u:=(x1.2.1,())) rfl rfl Kc rfl kr kr kr (As (BU (c:=cdS) (v:=x1.2.1)) B3) (.inl kr) hv3 ?_;refine AD (n:=47) AC 3 [(0,.sl 5 (x0.map AB.enc)),(3,.pt 0 0 0),(19,.b (!v3))] [some ⟨5,66,[AB.enc x1],false⟩] kr ?_;rcases BE (!v3) with hc25 | hc25
    ·rw [if_pos hc25] at hj7
     rw [hc25];refine AD (n:=47) AC 4 [(0,.sl 5 (x0.map AB.enc)),(3,.pt 0 0 0),(23,.b true)] [some ⟨5,66,[AB.enc x1],false⟩] kr ?_;have hq:=OI hj7; subst hq;exact AJ rfl (BC [0] ⟨⟨_,rfl,EP⟩,trivial⟩ ⟨lv,lv,lv,trivial⟩)
    ·rw [Bx hc25] at hj7
     rw [hc25];refine AD (n:=47) AC 2 [(0,.sl 5 (x0.map AB.enc)),(3,.pt 0 0 0),(19,.b false),(21,.sl 1 (x1.2.2.2.1.map cdS.enc))] [some ⟨5,66,[AB.enc x1],false⟩] kr ?_;obtain ⟨v4,hv4,hj7⟩:=OB hj7;refine Af (caps:=[]) (xs:=[.sl 1 (x1.2.2.2.1.map cdS.enc),.fn 72 [] []]) (u:=(x1.2.2.2.1,(),())) rfl rfl Be rfl kr kr kr (As (BU (c:=(cdL 1 cdS)) (v:=x1.2.2.2.1)) (As (Sm.fn B3) B3)) (.inl kr) hv4 ?_;refine AD (n:=47) AC 1 [(0,.sl 5 (x0.map AB.enc)),(3,.pt 0 0 0),(23,.b v4)] [some ⟨5,66,[AB.enc x1],false⟩] kr ?_;have hq:=OI hj7; subst hq;exact AJ rfl (BC [0] ⟨⟨_,rfl,EP⟩,trivial⟩ ⟨lv,lv,lv,trivial⟩)
   ·rw [Bx hc24] at hj7
    rw [hc24];refine AD (n:=47) AC 8 [(0,.sl 5 (x0.map AB.enc)),(3,.pt 0 0 0),(19,.b false),(21,.sl 1 (x1.2.2.2.1.map cdS.enc))] [some ⟨5,66,[AB.enc x1],false⟩] kr ?_;obtain ⟨v5,hv5,hj7⟩:=OB hj7;refine Af (caps:=[]) (xs:=[.sl 1 (x1.2.2.2.1.map cdS.enc),.fn 72 [] []]) (u:=(x1.2.2.2.1,(),())) rfl rfl Be rfl kr kr kr (As (BU (c:=(cdL 1 cdS)) (v:=x1.2.2.2.1)) (As (Sm.fn B3) B3)) (.inl kr) hv5 ?_;refine AD (n:=47) AC 1 [(0,.sl 5 (x0.map AB.enc)),(3,.pt 0 0 0),(23,.b v5)] [some ⟨5,66,[AB.enc x1],false⟩] kr ?_;have hq:=OI hj7; subst hq;exact AJ rfl (BC [0] ⟨⟨_,rfl,EP⟩,trivial⟩ ⟨lv,lv,lv,trivial⟩)
  refine AU (b:=j7) kr (fun hb8=>?_) (fun hb8=>?_)
  ·rw [if_pos hb8] at h
   refine AI ?_;refine AL (s1:=⟨Fr 47 [(4,.j 4)],[]⟩) ?_ ?_
   ·refine AD (n:=47) AC 1 [(4,.j 4)] [some ⟨5,66,[AB.enc x1],false⟩] kr ?_
    exact AJ rfl (BC [] trivial ⟨lv,trivial⟩)
   refine Ah ?_;have hq:=OI h; subst hq;exact ⟨⟨Fr 47 [(4,.j 4)],[]⟩,AQ,.inr rfl,[.j 4],kr,kr⟩
  ·rw [Bx hb8] at h
   refine Ax ?_;refine AI ?_;refine AI ?_;refine AL (s1:=⟨Fr 47 [(0,.sl 5 (x0.map AB.enc)),(3,.pt 0 0 0),(25,.sl 1 (x1.2.2.2.1.map cdS.enc)),(26,.j (x1.2.2.2.1.length:Int)),(27,.j 0)],[some ⟨5,66,[AB.enc x1],false⟩]⟩) ?_ ?_
   ·refine AD (n:=47) AC 2 [(0,.sl 5 (x0.map AB.enc)),(3,.pt 0 0 0),(25,.sl 1 (x1.2.2.2.1.map cdS.enc))] [some ⟨5,66,[AB.enc x1],false⟩] kr ?_
    refine Aw AC 0 rfl (BH (AA rfl) rfl (FT (a:= .sl 1 (x1.2.2.2.1.map cdS.enc)) kr (Dx (el:=9) kr))) ?_;exact Ar AC
   refine Bh ?_;obtain ⟨r16,hr16,h⟩:=OB h;refine F9 (n:=100000) ?_;rcases r16 with w17 | w23
   ·try dsimp only at h
    refine DB (CQ (s1:=⟨Fr 47 [(0,.sl 5 (x0.map AB.enc)),(3,.pt 0 0 0),(25,.sl 1 (x1.2.2.2.1.map cdS.enc)),(26,.j (x1.2.2.2.1.length:Int)),(27,.j 0)],[some ⟨5,66,[AB.enc x1],false⟩]⟩) (BC [0] ⟨⟨_,rfl,EP⟩,trivial⟩ ⟨lv,lv,lv,lv,lv,trivial⟩) (HS x0 x1 _ 0 _ hr16)) ?_;refine AI ?_;refine AI ?_;obtain ⟨j20,hj20,h⟩:=OB h;refine AL (s1:=⟨Fr 47 [(46,.b j20)],[]⟩) ?_ ?_
    ·refine AD (n:=47) AC 4 [(0,.sl 5 (x0.map AB.enc)),(3,.pt 0 0 0),(42,.b (x1.2.1==[]))] [some ⟨5,66,[AB.enc x1],false⟩] kr ?_
     rcases BE (x1.2.1==[]) with hc22 | hc22
     ·rw [if_pos hc22] at hj20
      rw [hc22];refine AD (n:=47) AC 4 [(46,.b true)] [some ⟨5,66,[AB.enc x1],false⟩] kr ?_;have hq:=OI hj20; subst hq;exact AJ rfl (BC [] trivial ⟨lv,trivial⟩)
     ·rw [Bx hc22] at hj20
      rw [hc22];refine AD (n:=47) AC 2 [(42,.b false),(43,.sl 5 (x0.map AB.enc)),(44,.fn 74 [] [.pt 0 0 0])] [some ⟨5,66,[AB.enc x1],false⟩] kr ?_;obtain ⟨v18,hv18,hj20⟩:=OB hj20;refine Af (caps:=[]) (xs:=[.sl 5 (x0.map AB.enc),.fn 74 [] [.pt 0 0 0]]) (u:=(x0,x1,())) rfl rfl CP rfl kr kr kr (As (BU (c:=(cdL 5 AB)) (v:=x0)) (As (Sm.fn (QG (Sm.pt (k:=5) (t:=66) (fz:=false) (y:=(AB.enc x1)) kr (BU (c:=AB) (v:=x1))))) B3)) (.inl kr) hv18 ?_;refine AD (n:=47) AC 1 [(46,.b v18)] [some ⟨5,66,[AB.enc x1],false⟩] kr ?_;have hq:=OI hj20; subst hq;exact AJ rfl (BC [] trivial ⟨lv,trivial⟩)
    refine AU (b:=j20) kr (fun hb21=>?_) (fun hb21=>?_)
    ·rw [if_pos hb21] at h
     refine Ae AC [(4,.j 0)] [] ?_;refine Ah ?_;have hq:=OI h; subst hq;exact ⟨⟨Fr 47 [(4,.j 0)],[]⟩,AQ,.inr rfl,[.j 0],kr,kr⟩
    ·rw [Bx hb21] at h
     refine Ax ?_;refine Ae AC [(4,.j 31)] [] ?_;refine Ah ?_;have hq:=OI h; subst hq;exact ⟨⟨Fr 47 [(4,.j 31)],[]⟩,AQ,.inr rfl,[.j 31],kr,kr⟩
   ·try dsimp only at h
    refine DB (CQ (s1:=⟨Fr 47 [(0,.sl 5 (x0.map AB.enc)),(3,.pt 0 0 0),(25,.sl 1 (x1.2.2.2.1.map cdS.enc)),(26,.j (x1.2.2.2.1.length:Int)),(27,.j 0)],[some ⟨5,66,[AB.enc x1],false⟩]⟩) (BC [0] ⟨⟨_,rfl,EP⟩,trivial⟩ ⟨lv,lv,lv,lv,lv,trivial⟩) (HS x0 x1 _ 0 _ hr16)) ?_;have hq:=OI h; subst hq;exact ⟨⟨Fr 47 [(4,.j w23)],[]⟩,AQ,.inr rfl,[.j w23],kr,kr⟩
def NL:List AV->Option AV:=FZ HC (fun a=>DM a.1 a.2.1) HF
theorem J3:XOk 36 NL:=by
 refine Az Tryz.func36 (c:=HA) ?h2 ⟨Tryz.call36⟩ HC (fun a=>DM a.1 a.2.1) HF (fun a=>(by show 2<=47; decide)) ?h3 ?h4
 case h2=>kernel_rfl
 case h3=>intro b; kernel_rfl
 case h4=>exact fun a b h=>LI a.1 a.2.1 b h
/- trestle/court.Check -/
noncomputable def G9:Code:=BX Tryz.f27
def Co (x0:(List AF)):Nat->Int->Option ((Unit) ⊕ (Int×Int))
 | 0,_=>none
 | f + 1,c2 =>
  if (decide (c2 < (x0.length:Int)))=true then
  (idx x0 c2).bind fun v4 =>
  if (Cn 0 c2 x0.length)=true then
  (DM ((x0.take c2.toNat).drop (0:Int).toNat) v4).bind fun v6 =>
  if (v6 != 0)=true then
  some (.inr (c2,v6))
  else
  Co x0 f (wr .i64 (c2 + 1))
  else none
  else
  some (.inl ())
def D6 (x0:(List AF)):Option (Int×Int) :=
 if (decide ((x0.length:Int) > 32))=true then
 some (0,7)
 else
 (Co x0 100000 0).bind fun r10 =>
 match r10 with
 | (.inl w11) =>
  some (0,0)
 | (.inr w12) =>
  some (w12.1,w12.2)
def HB:Cs ((List AF)×Unit):=(csC (cdL 5 AB) csN)
def HE (r:Int×Int):AV:= .tp [cdI.enc r.1,cdI.enc r.2]
theorem HQ (x0:(List AF)):∀ (f:Nat) (c2:Int) (r:(Unit) ⊕ (Int×Int)),Co x0 f c2=some r->SemN E0 ⟨none,false⟩ (pc G9 [1,1,0,1,0,0]) f ⟨Fr 27 [(0,.sl 5 (x0.map AB.enc)),(10,.sl 5 (x0.map AB.enc)),(11,.j (x0.length:Int)),(12,.j c2)],[]⟩ (fun e s=>match r with
 | (.inl w)=>e=(.exit 0)/\Wk E0 s ⟨Fr 27 [],[]⟩
 | (.inr w)=>e = .ret/\Wk E0 s ⟨Fr 27 [(2,.j w.1),(3,.j w.2)],[]⟩):=by
 intro f;induction f with
 | zero=>intro c2 r h; cases h
 | succ f ih0 =>
  intro c2 r h
  have ih:=fun (c2:Int)=>ih0 c2 r
  unfold Co at h;refine En ?_
  let p1:Nat×AV:=(12,.j c2)
  let p2:Nat×AV:=(11,.j (x0.length:Int))
  let p3:Nat×AV:=(10,.sl 5 (x0.map AB.enc))
  let p4:Nat×AV:=(0,.sl 5 (x0.map AB.enc))
  refine Ae AC [p4,p3,p2,p1,(13,.b (decide (c2 < (x0.length:Int))))] [] ?_;refine AI ?_;refine AU (b:=(decide (c2 < (x0.length:Int)))) kr (fun hb3=>?_) (fun hb3=>?_)
  ·rw [if_pos hb3] at h
   refine Ax ?_;refine AI ?_;refine Bh ?_;refine AI ?_;obtain ⟨v4,hv4,h⟩:=OB h
   let p5:Option Blk:=some ⟨5,66,[AB.enc v4],false⟩
   let p6:Nat×AV:=(4,.j c2)
   refine AL (s1:=⟨Fr 27 [p4,p6,(5,.pt 0 0 0),p3,p2,p1],[p5]⟩) ?_ ?_
   ·refine AD (n:=27) AC 1 [p4,p3,p2,p1,(14,.j c2)] [] kr ?_
    refine Aw AC 0 rfl (BH (AA rfl) rfl (BW (a:= .sl 5 (x0.map AB.enc)) (b:= .j c2) kr kr (Iy (e:=AB.enc) (el:=66) (k:=5) (ki:= .i64) kr kr hv4))) ?_;exact Ar AC
   refine AI ?_;by_cases hk5:(Cn 0 c2 x0.length)=true
   case neg=>rw [if_neg hk5] at h; cases h
   rw [if_pos hk5] at h;obtain ⟨v6,hv6,h⟩:=OB h
   let p7:Nat×AV:=(6,.j v6)
   refine LD AC (s1:=⟨Fr 27 [p4,p6,p7,p3,p2,p1],[]⟩) kr ?_ ?_
   ·refine EG (n:=27) AC 2 [p4,p6,(5,.pt 0 0 0),p3,p2,p1,(17,.sl 5 (x0.map AB.enc)),(18,.j c2)] [p5] kr kr ?_
    refine RunDS.one AC rfl kr (RA kr (AA rfl) rfl (EO (a:= .sl 5 (x0.map AB.enc)) (l:=none) (u:=(some (.j c2))) (m:=none) kr kr kr rfl (Jt (xs:=x0) (e:=AB.enc) (k:=5) (el:=66) (lo:=0) (hi:=c2) kr kr rfl (Fd (Ji hk5)) hk5)) kr) ?_;refine EG (n:=27) AC 1 [p4,p6,p3,p2,p1,(19,.sl 5 (((x0.take c2.toNat).drop (0:Int).toNat).map AB.enc)),(20,AB.enc v4)] [p5] kr kr ?_;refine OK (caps:=[]) (xs:=[.sl 5 (((x0.take c2.toNat).drop (0:Int).toNat).map AB.enc),AB.enc v4]) (u:=(((x0.take c2.toNat).drop (0:Int).toNat),v4,())) rfl rfl J3 rfl (AA rfl) kr kr (As (BU (c:=(cdL 5 AB)) (v:=((x0.take c2.toNat).drop (0:Int).toNat))) (As (BU (c:=AB) (v:=v4)) B3)) kr hv6 ?_;refine EG (n:=27) AC 1 [p4,p6,p7,p3,p2,p1] [p5] kr kr ?_;exact RunDS.done rfl (BC [] trivial ⟨lv,lv,lv,lv,lv,lv,trivial⟩)
   refine Ae AC [p4,p6,p7,p3,p2,p1,(23,.b (v6 != 0))] [] ?_;refine AU (b:=(v6 != 0)) kr (fun hb7=>?_) (fun hb7=>?_)
   ·rw [if_pos hb7] at h
    refine Ae AC [(2,.j c2),(3,.j v6)] [] ?_;refine Ah ?_;have hq:=OI h; subst hq;exact ⟨rfl,AQ⟩
   ·rw [Bx hb7] at h
    refine Ax ?_
    let p8:Nat×AV:=(12,.j (wr .i64 (c2 + 1)))
    refine Em AC [p4,p3,p2,p8] [] ?_;exact CQ (s1:=⟨Fr 27 [p4,p3,p2,p8],[]⟩) AQ (ih (wr .i64 (c2 + 1)) h)
  ·rw [Bx hb3] at h
   refine F8 ?_;have hq:=OI h; subst hq;exact ⟨rfl,AQ⟩
theorem LH (x0:(List AF)) (r:Int×Int) (h:D6 x0=some r):Sem E0 ⟨none,false⟩ G9 ⟨Fr 27 (BB 0 (HB.enc (x0,()))),[]⟩ fun e s'=>(e = .normal\/e = .ret)/\∃ xs,D4 E0.P s'.fr s'.hp Tryz.f27.results.toList=some xs/\Eh xs=HE r:=by
 unfold D6 at h
 let p1:Nat×AV:=(0,.sl 5 (x0.map AB.enc))
 refine CB (DP (s1:=⟨Fr 27 [p1],[]⟩) AQ ?_);refine Ae AC [p1] [] ?_;refine AI ?_;refine AI ?_;refine AL (s1:=⟨Fr 27 [p1,(9,.b (decide ((x0.length:Int) > 32)))],[]⟩) ?_ ?_
 ·refine AD (n:=27) AC 1 [p1,(7,.sl 5 (x0.map AB.enc))] [] kr ?_
  refine Aw AC 0 rfl (BH (AA rfl) rfl (FT (a:= .sl 5 (x0.map AB.enc)) kr (Dx (el:=66) kr))) ?_;exact Ar AC
 refine AU (b:=(decide ((x0.length:Int) > 32))) kr (fun hb1=>?_) (fun hb1=>?_)
 ·rw [if_pos hb1] at h
  refine Ae AC [(2,.j 0),(3,.j 7)] [] ?_;refine Ah ?_;have hq:=OI h; subst hq;exact ⟨⟨Fr 27 [(2,.j 0),(3,.j 7)],[]⟩,AQ,.inr rfl,[.j 0,.j 7],kr,kr⟩
 ·rw [Bx hb1] at h
  refine Ax ?_;refine AI ?_;refine AI ?_
  let p2:Nat×AV:=(12,.j 0)
  let p3:Nat×AV:=(11,.j (x0.length:Int))
  let p4:Nat×AV:=(10,.sl 5 (x0.map AB.enc))
  refine AL (s1:=⟨Fr 27 [p1,p4,p3,p2],[]⟩) ?_ ?_
  ·refine AD (n:=27) AC 1 [p1,p4] [] kr ?_
   refine Aw AC 0 rfl (BH (AA rfl) rfl (FT (a:= .sl 5 (x0.map AB.enc)) kr (Dx (el:=66) kr))) ?_;exact Ar AC
  refine Bh ?_;obtain ⟨r10,hr10,h⟩:=OB h;refine F9 (n:=100000) ?_;rcases r10 with w11 | w12
  ·try dsimp only at h
   refine DB (CQ (s1:=⟨Fr 27 [p1,p4,p3,p2],[]⟩) AQ (HQ x0 _ 0 _ hr10)) ?_;refine Ae AC [(2,.j 0),(3,.j 0)] [] ?_;refine Ah ?_;have hq:=OI h; subst hq;exact ⟨⟨Fr 27 [(2,.j 0),(3,.j 0)],[]⟩,AQ,.inr rfl,[.j 0,.j 0],kr,kr⟩
  ·try dsimp only at h
   refine DB (CQ (s1:=⟨Fr 27 [p1,p4,p3,p2],[]⟩) AQ (HQ x0 _ 0 _ hr10)) ?_;have hq:=OI h; subst hq;exact ⟨⟨Fr 27 [(2,.j w12.1),(3,.j w12.2)],[]⟩,AQ,.inr rfl,[.j w12.1,.j w12.2],kr,kr⟩
def NJ:List AV->Option AV:=FZ HB (fun a=>D6 a.1) HE
theorem NT:XOk 27 NJ:=by
 refine Az Tryz.func27 (c:=G9) ?h2 ⟨Tryz.call27⟩ HB (fun a=>D6 a.1) HE (fun a=>(by show 1<=27; decide)) ?h3 ?h4
 case h2=>kernel_rfl
 case h3=>intro b; kernel_rfl
 case h4=>exact fun a b h=>LH a.1 b h
/- trestle/court.word -/
noncomputable def JT:Code:=BX Tryz.f29
def Ee (x0:Int):Option ((List UInt8)) :=
 if (x0==1)=true then
 some [114,97,110,107]
 else
 if (x0==2)=true then
 some [101,108,100,101,114]
 else
 if (x0==3)=true then
 some [121,111,117,116,104]
 else
 if (x0==4)=true then
 some [115,105,100,101]
 else
 if (x0==5)=true then
 some [104,111,115,116]
 else
 if (x0==6)=true then
 some [116,111,110,103,117,101]
 else
 if (x0==7)=true then
 some [99,111,117,114,116]
 else
 if (x0==8)=true then
 some [110,97,109,101]
 else
 if (x0==9)=true then
 some [108,105,115,116]
 else
 if (x0==10)=true then
 some [108,111,116]
 else
 some []
def Hf:Cs (Int×Unit):=(csC (cdK .u8) csN)
def Hj (r:(List UInt8)):AV:=cdS.enc r
theorem L4 (x0:Int) (r:(List UInt8)) (h:Ee x0=some r):Sem E0 ⟨none,false⟩ JT ⟨Fr 24 (BB 0 (Hf.enc (x0,()))),[]⟩ fun e s'=>(e = .normal\/e = .ret)/\∃ xs,D4 E0.P s'.fr s'.hp Tryz.f29.results.toList=some xs/\Eh xs=Hj r:=by
 unfold Ee at h
 let p1:Nat×AV:=(0,.v (.int .u8 x0))
 refine CB (DP (s1:=⟨Fr 24 [p1],[]⟩) AQ ?_);refine AI ?_;refine AL (s1:=⟨Fr 24 [p1],[]⟩) ?_ ?_
 ·refine AD (n:=24) AC 1 [p1] [] (by kernel_rfl) ?_
  exact AJ rfl AQ
 refine AI ?_;refine AI ?_
 let p2:Nat×AV:=(3,.v (.int .u8 x0))
 refine AL (s1:=⟨Fr 24 [p2],[]⟩) ?_ ?_
 ·refine AD (n:=24) AC 1 [p2] [] (by kernel_rfl) ?_
  exact AJ rfl AQ
 refine Bh ?_;refine AI ?_;refine AL (s1:=⟨Fr 24 [p2,(4,.b (x0==1))],[]⟩) ?_ ?_
 ·refine AD (n:=24) AC 2 [p2,(4,.b (x0==1))] [] (by kernel_rfl) ?_
  exact AJ rfl AQ
 refine AU (b:=(x0==1)) (by kernel_rfl) (fun hb1=>?_) (fun hb1=>?_)
 ·rw [if_pos hb1] at h
  refine AI ?_
  let p3:Nat×AV:=(2,.st [114,97,110,107])
  refine AL (s1:=⟨Fr 24 [p3],[]⟩) ?_ ?_
  ·refine AD (n:=24) AC 1 [p3] [] (by kernel_rfl) ?_
   exact AJ rfl AQ
  refine Ah ?_;have hq:=OI h; subst hq;exact ⟨⟨Fr 24 [p3],[]⟩,AQ,.inr rfl,[.st [114,97,110,107]],(by kernel_rfl),(by kernel_rfl)⟩
 ·rw [Bx hb1] at h
  refine AI ?_;refine AL (s1:=⟨Fr 24 [p2,(6,.b (x0==2))],[]⟩) ?_ ?_
  ·refine AD (n:=24) AC 2 [p2,(6,.b (x0==2))] [] (by kernel_rfl) ?_
   exact AJ rfl AQ
  refine AU (b:=(x0==2)) (by kernel_rfl) (fun hb2=>?_) (fun hb2=>?_)
  ·rw [if_pos hb2] at h
   refine AI ?_
   let p4:Nat×AV:=(2,.st [101,108,100,101,114])
   refine AL (s1:=⟨Fr 24 [p4],[]⟩) ?_ ?_
   ·refine AD (n:=24) AC 1 [p4] [] (by kernel_rfl) ?_
    exact AJ rfl AQ
   refine Ah ?_;have hq:=OI h; subst hq;exact ⟨⟨Fr 24 [p4],[]⟩,AQ,.inr rfl,[.st [101,108,100,101,114]],(by kernel_rfl),(by kernel_rfl)⟩
  ·rw [Bx hb2] at h
   refine AI ?_;refine AL (s1:=⟨Fr 24 [p2,(8,.b (x0==3))],[]⟩) ?_ ?_
   ·refine AD (n:=24) AC 2 [p2,(8,.b (x0==3))] [] (by kernel_rfl) ?_
    exact AJ rfl AQ
   refine AU (b:=(x0==3)) (by kernel_rfl) (fun hb3=>?_) (fun hb3=>?_)
   ·rw [if_pos hb3] at h
    refine AI ?_
    let p5:Nat×AV:=(2,.st [121,111,117,116,104])
    refine AL (s1:=⟨Fr 24 [p5],[]⟩) ?_ ?_
    ·refine AD (n:=24) AC 1 [p5] [] (by kernel_rfl) ?_
     exact AJ rfl AQ
    refine Ah ?_;have hq:=OI h; subst hq;exact ⟨⟨Fr 24 [p5],[]⟩,AQ,.inr rfl,[.st [121,111,117,116,104]],(by kernel_rfl),(by kernel_rfl)⟩
   ·rw [Bx hb3] at h
    refine AI ?_;refine AL (s1:=⟨Fr 24 [p2,(10,.b (x0==4))],[]⟩) ?_ ?_
    ·refine AD (n:=24) AC 2 [p2,(10,.b (x0==4))] [] (by kernel_rfl) ?_
     exact AJ rfl AQ
    refine AU (b:=(x0==4)) (by kernel_rfl) (fun hb4=>?_) (fun hb4=>?_)
    ·rw [if_pos hb4] at h
     refine AI ?_
     let p6:Nat×AV:=(2,.st [115,105,100,101])
     refine AL (s1:=⟨Fr 24 [p6],[]⟩) ?_ ?_
     ·refine AD (n:=24) AC 1 [p6] [] (by kernel_rfl) ?_
      exact AJ rfl AQ
     refine Ah ?_;have hq:=OI h; subst hq;exact ⟨⟨Fr 24 [p6],[]⟩,AQ,.inr rfl,[.st [115,105,100,101]],(by kernel_rfl),(by kernel_rfl)⟩
    ·rw [Bx hb4] at h
     refine AI ?_;refine AL (s1:=⟨Fr 24 [p2,(12,.b (x0==5))],[]⟩) ?_ ?_
     ·refine AD (n:=24) AC 2 [p2,(12,.b (x0==5))] [] (by kernel_rfl) ?_
      exact AJ rfl AQ
     refine AU (b:=(x0==5)) (by kernel_rfl) (fun hb5=>?_) (fun hb5=>?_)
     ·rw [if_pos hb5] at h
      refine AI ?_
      let p7:Nat×AV:=(2,.st [104,111,115,116])
      refine AL (s1:=⟨Fr 24 [p7],[]⟩) ?_ ?_
      ·refine AD (n:=24) AC 1 [p7] [] (by kernel_rfl) ?_
       exact AJ rfl AQ
      refine Ah ?_;have hq:=OI h; subst hq;exact ⟨⟨Fr 24 [p7],[]⟩,AQ,.inr rfl,[.st [104,111,115,116]],(by kernel_rfl),(by kernel_rfl)⟩
     ·rw [Bx hb5] at h
      refine AI ?_;refine AL (s1:=⟨Fr 24 [p2,(14,.b (x0==6))],[]⟩) ?_ ?_
      ·refine AD (n:=24) AC 2 [p2,(14,.b (x0==6))] [] (by kernel_rfl) ?_
       exact AJ rfl AQ
      refine AU (b:=(x0==6)) (by kernel_rfl) (fun hb6=>?_) (fun hb6=>?_)
      ·rw [if_pos hb6] at h
       refine AI ?_
       let p8:Nat×AV:=(2,.st [116,111,110,103,117,101])
       refine AL (s1:=⟨Fr 24 [p8],[]⟩) ?_ ?_
       ·refine AD (n:=24) AC 1 [p8] [] (by kernel_rfl) ?_
        exact AJ rfl AQ
       refine Ah ?_;have hq:=OI h; subst hq;exact ⟨⟨Fr 24 [p8],[]⟩,AQ,.inr rfl,[.st [116,111,110,103,117,101]],(by kernel_rfl),(by kernel_rfl)⟩
      ·rw [Bx hb6] at h
       refine AI ?_;refine AL (s1:=⟨Fr 24 [p2,(16,.b (x0==7))],[]⟩) ?_ ?_
       ·refine AD (n:=24) AC 2 [p2,(16,.b (x0==7))] [] (by kernel_rfl) ?_
        exact AJ rfl AQ
       refine AU (b:=(x0==7)) (by kernel_rfl) (fun hb7=>?_) (fun hb7=>?_)
       ·rw [if_pos hb7] at h
        refine AI ?_
        let p9:Nat×AV:=(2,.st [99,111,117,114,116])
        refine AL (s1:=⟨Fr 24 [p9],[]⟩) ?_ ?_
        ·refine AD (n:=24) AC 1 [p9] [] (by kernel_rfl) ?_
         exact AJ rfl AQ
        refine Ah ?_;have hq:=OI h; subst hq;exact ⟨⟨Fr 24 [p9],[]⟩,AQ,.inr rfl,[.st [99,111,117,114,116]],(by kernel_rfl),(by kernel_rfl)⟩
       ·rw [Bx hb7] at h
        refine AI ?_;refine AL (s1:=⟨Fr 24 [p2,(18,.b (x0==8))],[]⟩) ?_ ?_
        ·refine AD (n:=24) AC 2 [p2,(18,.b (x0==8))] [] (by kernel_rfl) ?_
         exact AJ rfl AQ
        refine AU (b:=(x0==8)) (by kernel_rfl) (fun hb8=>?_) (fun hb8=>?_)
        ·rw [if_pos hb8] at h
         refine AI ?_
         let p10:Nat×AV:=(2,.st [110,97,109,101])
         refine AL (s1:=⟨Fr 24 [p10],[]⟩) ?_ ?_
         ·refine AD (n:=24) AC 1 [p10] [] (by kernel_rfl) ?_
          exact AJ rfl AQ
         refine Ah ?_;have hq:=OI h; subst hq;exact ⟨⟨Fr 24 [p10],[]⟩,AQ,.inr rfl,[.st [110,97,109,101]],(by kernel_rfl),(by kernel_rfl)⟩
        ·rw [Bx hb8] at h
         refine AI ?_;refine AL (s1:=⟨Fr 24 [p2,(20,.b (x0==9))],[]⟩) ?_ ?_
         ·refine AD (n:=24) AC 2 [p2,(20,.b (x0==9))] [] (by kernel_rfl) ?_
          exact AJ rfl AQ
         refine AU (b:=(x0==9)) (by kernel_rfl) (fun hb9=>?_) (fun hb9=>?_)
         ·rw [if_pos hb9] at h
          refine AI ?_
          let p11:Nat×AV:=(2,.st [108,105,115,116])
          refine AL (s1:=⟨Fr 24 [p11],[]⟩) ?_ ?_
          ·refine AD (n:=24) AC 1 [p11] [] (by kernel_rfl) ?_
           exact AJ rfl AQ
          refine Ah ?_;have hq:=OI h; subst hq;exact ⟨⟨Fr 24 [p11],[]⟩,AQ,.inr rfl,[.st [108,105,115,116]],(by kernel_rfl),(by kernel_rfl)⟩
         ·rw [Bx hb9] at h
          refine AI ?_;refine AL (s1:=⟨Fr 24 [(22,.b (x0==10))],[]⟩) ?_ ?_
          ·refine AD (n:=24) AC 2 [(22,.b (x0==10))] [] (by kernel_rfl) ?_
           exact AJ rfl AQ
          refine AU (b:=(x0==10)) (by kernel_rfl) (fun hb10=>?_) (fun hb10=>?_)
          ·rw [if_pos hb10] at h
           refine AI ?_;refine AL (s1:=⟨Fr 24 [(2,.st [108,111,116])],[]⟩) ?_ ?_
           ·refine AD (n:=24) AC 1 [(2,.st [108,111,116])] [] (by kernel_rfl) ?_
            exact AJ rfl AQ
           refine Ah ?_;have hq:=OI h; subst hq;exact ⟨⟨Fr 24 [(2,.st [108,111,116])],[]⟩,AQ,.inr rfl,[.st [108,111,116]],(by kernel_rfl),(by kernel_rfl)⟩
          ·rw [Bx hb10] at h
           refine Ax ?_;refine AI ?_;refine AL (s1:=⟨Fr 24 [(2,.st [])],[]⟩) ?_ ?_
           ·refine AD (n:=24) AC 1 [(2,.st [])] [] (by kernel_rfl) ?_
            exact AJ rfl AQ
           refine Ah ?_;have hq:=OI h; subst hq;exact ⟨⟨Fr 24 [(2,.st [])],[]⟩,AQ,.inr rfl,[.st []],(by kernel_rfl),(by kernel_rfl)⟩
def N5:List AV->Option AV:=FZ Hf (fun a=>Ee a.1) Hj
theorem Kd:XOk 29 N5:=by
 refine Az Tryz.func29 (c:=JT) ?h2 ⟨Tryz.call29⟩ Hf (fun a=>Ee a.1) Hj (fun a=>(by show 1<=24; decide)) ?h3 ?h4
 case h2=>kernel_rfl
 case h3=>intro b; kernel_rfl
 case h4=>exact fun a b h=>L4 a.1 b h
/- internal/strconv.small -/
noncomputable def H6:Code:=BX Tryz.f105
def FK (x0:Int):Option ((List UInt8)) :=
 if (decide (x0 < 10))=true then
 if (Cn x0 (wr .i64 (x0 + 1)) ([48,49,50,51,52,53,54,55,56,57,97,98,99,100,101,102,103,104,105,106,107,108,109,110,111,112,113,114,115,116,117,118,119,120,121,122]:List UInt8).length)=true then
 some ((([48,49,50,51,52,53,54,55,56,57,97,98,99,100,101,102,103,104,105,106,107,108,109,110,111,112,113,114,115,116,117,118,119,120,121,122]:List UInt8).take (wr .i64 (x0 + 1)).toNat).drop x0.toNat)
 else none
 else
 if (Cn (wr .i64 (x0 * 2)) (wr .i64 ((wr .i64 (x0 * 2)) + 2)) ([48,48,48,49,48,50,48,51,48,52,48,53,48,54,48,55,48,56,48,57,49,48,49,49,49,50,49,51,49,52,49,53,49,54,49,55,49,56,49,57,50,48,50,49,50,50,50,51,50,52,50,53,50,54,50,55,50,56,50,57,51,48,51,49,51,50,51,51,51,52,51,53,51,54,51,55,51,56,51,57,52,48,52,49,52,50,52,51,52,52,52,53,52,54,52,55,52,56,52,57,53,48,53,49,53,50,53,51,53,52,53,53,53,54,53,55,53,56,53,57,54,48,54,49,54,50,54,51,54,52,54,53,54,54,54,55,54,56,54,57,55,48,55,49,55,50,55,51,55,52,55,53,55,54,55,55,55,56,55,57,56,48,56,49,56,50,56,51,56,52,56,53,56,54,56,55,56,56,56,57,57,48,57,49,57,50,57,51,57,52,57,53,57,54,57,55,57,56,57,57]:List UInt8).length)=true then
 some ((([48,48,48,49,48,50,48,51,48,52,48,53,48,54,48,55,48,56,48,57,49,48,49,49,49,50,49,51,49,52,49,53,49,54,49,55,49,56,49,57,50,48,50,49,50,50,50,51,50,52,50,53,50,54,50,55,50,56,50,57,51,48,51,49,51,50,51,51,51,52,51,53,51,54,51,55,51,56,51,57,52,48,52,49,52,50,52,51,52,52,52,53,52,54,52,55,52,56,52,57,53,48,53,49,53,50,53,51,53,52,53,53,53,54,53,55,53,56,53,57,54,48,54,49,54,50,54,51,54,52,54,53,54,54,54,55,54,56,54,57,55,48,55,49,55,50,55,51,55,52,55,53,55,54,55,55,55,56,55,57,56,48,56,49,56,50,56,51,56,52,56,53,56,54,56,55,56,56,56,57,57,48,57,49,57,50,57,51,57,52,57,53,57,54,57,55,57,56,57,57]:List UInt8).take (wr .i64 ((wr .i64 (x0 * 2)) + 2)).toNat).drop (wr .i64 (x0 * 2)).toNat)
 else none
def Fo:Cs (Int×Unit):=(csC cdI csN)
def Ft (r:(List UInt8)):AV:=cdS.enc r
theorem KQ (x0:Int) (r:(List UInt8)) (h:FK x0=some r):Sem E0 ⟨none,false⟩ H6 ⟨Fr 15 (BB 0 (Fo.enc (x0,()))),[]⟩ fun e s'=>(e = .normal\/e = .ret)/\∃ xs,D4 E0.P s'.fr s'.hp Tryz.f105.results.toList=some xs/\Eh xs=Ft r:=by
 unfold FK at h
 let p1:Nat×AV:=(0,.j x0)
 refine CB (DP (s1:=⟨Fr 15 [p1],[]⟩) AQ ?_);refine Ae AC [p1] [] ?_;refine AI ?_;refine Ae AC [p1,(4,.b (decide (x0 < 10)))] [] ?_;refine AU (b:=(decide (x0 < 10))) kr (fun hb1=>?_) (fun hb1=>?_)
 ·rw [if_pos hb1] at h
  refine AI ?_;by_cases hk2:(Cn x0 (wr .i64 (x0 + 1)) ([48,49,50,51,52,53,54,55,56,57,97,98,99,100,101,102,103,104,105,106,107,108,109,110,111,112,113,114,115,116,117,118,119,120,121,122]:List UInt8).length)=true
  case neg=>rw [if_neg hk2] at h; cases h
  rw [if_pos hk2] at h
  let p2:Nat×AV:=(2,.st ((([48,49,50,51,52,53,54,55,56,57,97,98,99,100,101,102,103,104,105,106,107,108,109,110,111,112,113,114,115,116,117,118,119,120,121,122]:List UInt8).take (wr .i64 (x0 + 1)).toNat).drop x0.toNat))
  refine AL (s1:=⟨Fr 15 [p2],[]⟩) ?_ ?_
  ·refine AD (n:=15) AC 3 [(5,.j x0),(7,.j (wr .i64 (x0 + 1)))] [] kr ?_
   refine Aw AC 0 rfl (BH (AA rfl) rfl (EO (a:= .st [48,49,50,51,52,53,54,55,56,57,97,98,99,100,101,102,103,104,105,106,107,108,109,110,111,112,113,114,115,116,117,118,119,120,121,122]) (l:=(some (.j x0))) (u:=(some (.j (wr .i64 (x0 + 1))))) (m:=none) kr kr kr rfl (FY (bs:=[48,49,50,51,52,53,54,55,56,57,97,98,99,100,101,102,103,104,105,106,107,108,109,110,111,112,113,114,115,116,117,118,119,120,121,122]) (lo:=x0) (hi:=(wr .i64 (x0 + 1))) kr (Fd (KY hk2)) (Fd (Ji hk2)) hk2))) ?_;exact Ar AC
  refine Ah ?_;have hq:=OI h; subst hq;exact ⟨⟨Fr 15 [p2],[]⟩,AQ,.inr rfl,[.st ((([48,49,50,51,52,53,54,55,56,57,97,98,99,100,101,102,103,104,105,106,107,108,109,110,111,112,113,114,115,116,117,118,119,120,121,122]:List UInt8).take (wr .i64 (x0 + 1)).toNat).drop x0.toNat)],kr,kr⟩
 ·rw [Bx hb1] at h
  refine Ax ?_;refine AI ?_;by_cases hk3:(Cn (wr .i64 (x0 * 2)) (wr .i64 ((wr .i64 (x0 * 2)) + 2)) ([48,48,48,49,48,50,48,51,48,52,48,53,48,54,48,55,48,56,48,57,49,48,49,49,49,50,49,51,49,52,49,53,49,54,49,55,49,56,49,57,50,48,50,49,50,50,50,51,50,52,50,53,50,54,50,55,50,56,50,57,51,48,51,49,51,50,51,51,51,52,51,53,51,54,51,55,51,56,51,57,52,48,52,49,52,50,52,51,52,52,52,53,52,54,52,55,52,56,52,57,53,48,53,49,53,50,53,51,53,52,53,53,53,54,53,55,53,56,53,57,54,48,54,49,54,50,54,51,54,52,54,53,54,54,54,55,54,56,54,57,55,48,55,49,55,50,55,51,55,52,55,53,55,54,55,55,55,56,55,57,56,48,56,49,56,50,56,51,56,52,56,53,56,54,56,55,56,56,56,57,57,48,57,49,57,50,57,51,57,52,57,53,57,54,57,55,57,56,57,57]:List UInt8).length)=true
  case neg=>rw [if_neg hk3] at h; cases h
  rw [if_pos hk3] at h
  let p3:Nat×AV:=(2,.st ((([48,48,48,49,48,50,48,51,48,52,48,53,48,54,48,55,48,56,48,57,49,48,49,49,49,50,49,51,49,52,49,53,49,54,49,55,49,56,49,57,50,48,50,49,50,50,50,51,50,52,50,53,50,54,50,55,50,56,50,57,51,48,51,49,51,50,51,51,51,52,51,53,51,54,51,55,51,56,51,57,52,48,52,49,52,50,52,51,52,52,52,53,52,54,52,55,52,56,52,57,53,48,53,49,53,50,53,51,53,52,53,53,53,54,53,55,53,56,53,57,54,48,54,49,54,50,54,51,54,52,54,53,54,54,54,55,54,56,54,57,55,48,55,49,55,50,55,51,55,52,55,53,55,54,55,55,55,56,55,57,56,48,56,49,56,50,56,51,56,52,56,53,56,54,56,55,56,56,56,57,57,48,57,49,57,50,57,51,57,52,57,53,57,54,57,55,57,56,57,57]:List UInt8).take (wr .i64 ((wr .i64 (x0 * 2)) + 2)).toNat).drop (wr .i64 (x0 * 2)).toNat))
  refine AL (s1:=⟨Fr 15 [p3],[]⟩) ?_ ?_
  ·refine AD (n:=15) AC 5 [(10,.j (wr .i64 (x0 * 2))),(13,.j (wr .i64 ((wr .i64 (x0 * 2)) + 2)))] [] kr ?_
   refine Aw AC 0 rfl (BH (AA rfl) rfl (EO (a:= .st [48,48,48,49,48,50,48,51,48,52,48,53,48,54,48,55,48,56,48,57,49,48,49,49,49,50,49,51,49,52,49,53,49,54,49,55,49,56,49,57,50,48,50,49,50,50,50,51,50,52,50,53,50,54,50,55,50,56,50,57,51,48,51,49,51,50,51,51,51,52,51,53,51,54,51,55,51,56,51,57,52,48,52,49,52,50,52,51,52,52,52,53,52,54,52,55,52,56,52,57,53,48,53,49,53,50,53,51,53,52,53,53,53,54,53,55,53,56,53,57,54,48,54,49,54,50,54,51,54,52,54,53,54,54,54,55,54,56,54,57,55,48,55,49,55,50,55,51,55,52,55,53,55,54,55,55,55,56,55,57,56,48,56,49,56,50,56,51,56,52,56,53,56,54,56,55,56,56,56,57,57,48,57,49,57,50,57,51,57,52,57,53,57,54,57,55,57,56,57,57]) (l:=(some (.j (wr .i64 (x0 * 2))))) (u:=(some (.j (wr .i64 ((wr .i64 (x0 * 2)) + 2))))) (m:=none) kr kr kr rfl (FY (bs:=[48,48,48,49,48,50,48,51,48,52,48,53,48,54,48,55,48,56,48,57,49,48,49,49,49,50,49,51,49,52,49,53,49,54,49,55,49,56,49,57,50,48,50,49,50,50,50,51,50,52,50,53,50,54,50,55,50,56,50,57,51,48,51,49,51,50,51,51,51,52,51,53,51,54,51,55,51,56,51,57,52,48,52,49,52,50,52,51,52,52,52,53,52,54,52,55,52,56,52,57,53,48,53,49,53,50,53,51,53,52,53,53,53,54,53,55,53,56,53,57,54,48,54,49,54,50,54,51,54,52,54,53,54,54,54,55,54,56,54,57,55,48,55,49,55,50,55,51,55,52,55,53,55,54,55,55,55,56,55,57,56,48,56,49,56,50,56,51,56,52,56,53,56,54,56,55,56,56,56,57,57,48,57,49,57,50,57,51,57,52,57,53,57,54,57,55,57,56,57,57]) (lo:=(wr .i64 (x0 * 2))) (hi:=(wr .i64 ((wr .i64 (x0 * 2)) + 2))) kr (Fd (KY hk3)) (Fd (Ji hk3)) hk3))) ?_;exact Ar AC
  refine Ah ?_;have hq:=OI h; subst hq;exact ⟨⟨Fr 15 [p3],[]⟩,AQ,.inr rfl,[.st ((([48,48,48,49,48,50,48,51,48,52,48,53,48,54,48,55,48,56,48,57,49,48,49,49,49,50,49,51,49,52,49,53,49,54,49,55,49,56,49,57,50,48,50,49,50,50,50,51,50,52,50,53,50,54,50,55,50,56,50,57,51,48,51,49,51,50,51,51,51,52,51,53,51,54,51,55,51,56,51,57,52,48,52,49,52,50,52,51,52,52,52,53,52,54,52,55,52,56,52,57,53,48,53,49,53,50,53,51,53,52,53,53,53,54,53,55,53,56,53,57,54,48,54,49,54,50,54,51,54,52,54,53,54,54,54,55,54,56,54,57,55,48,55,49,55,50,55,51,55,52,55,53,55,54,55,55,55,56,55,57,56,48,56,49,56,50,56,51,56,52,56,53,56,54,56,55,56,56,56,57,57,48,57,49,57,50,57,51,57,52,57,53,57,54,57,55,57,56,57,57]:List UInt8).take (wr .i64 ((wr .i64 (x0 * 2)) + 2)).toNat).drop (wr .i64 (x0 * 2)).toNat)],kr,kr⟩
def Ln:List AV->Option AV:=FZ Fo (fun a=>FK a.1) Ft
theorem Ly:XOk 105 Ln:=by
 refine Az Tryz.func105 (c:=H6) ?h2 ⟨Tryz.call105⟩ Fo (fun a=>FK a.1) Ft (fun a=>(by show 1<=15; decide)) ?h3 ?h4
 case h2=>kernel_rfl
 case h3=>intro b; kernel_rfl
 case h4=>exact fun a b h=>KQ a.1 b h
/- internal/strconv.FormatInt -/
noncomputable def F4:Code:=BX Tryz.f91
def De (x0:Int) (x1:Int):Option ((List UInt8)) :=
 if (x1==10)=true then
 (if (decide ((0:Int)<=x0))=true then some (decide (x0 < 100)) else some false).bind fun j3 =>
 if j3=true then
 (FK x0).bind fun v5 =>
 some v5
 else
 none
 else
 none
def EJ:Cs (Int×Int×Unit):=(csC cdI (csC cdI csN))
def EL (r:(List UInt8)):AV:=cdS.enc r
theorem Ii (x0:Int) (x1:Int) (r:(List UInt8)) (h:De x0 x1=some r):Sem E0 ⟨none,false⟩ F4 ⟨Fr 54 (BB 0 (EJ.enc (x0,x1,()))),[]⟩ fun e s'=>(e = .normal\/e = .ret)/\∃ xs,D4 E0.P s'.fr s'.hp Tryz.f91.results.toList=some xs/\Eh xs=EL r:=by
 unfold De at h;refine CB (DP (s1:=⟨Fr 54 [(0,.j x0),(1,.j x1)],[]⟩) AQ ?_);refine Ae AC [(0,.j x0),(1,.j x1)] [] ?_;refine AI ?_;refine Ae AC [(0,.j x0),(11,.b (x1==10))] [] ?_;refine AU (b:=(x1==10)) kr (fun hb1=>?_) (fun hb1=>?_)
 ·rw [if_pos hb1] at h
  refine AI ?_;refine AI ?_;obtain ⟨j3,hj3,h⟩:=OB h;refine AL (s1:=⟨Fr 54 [(0,.j x0),(17,.b j3)],[]⟩) ?_ ?_
  ·refine AD (n:=54) AC 3 [(0,.j x0),(14,.b (decide ((0:Int)<=x0)))] [] kr ?_
   rcases BE (decide ((0:Int)<=x0)) with hc6 | hc6
   ·rw [if_pos hc6] at hj3
    rw [hc6];refine AD (n:=54) AC 3 [(0,.j x0),(17,.b (decide (x0 < 100)))] [] kr ?_;have hq:=OI hj3; subst hq;exact AJ rfl AQ
   ·rw [Bx hc6] at hj3
    rw [hc6];refine AD (n:=54) AC 3 [(0,.j x0),(17,.b false)] [] kr ?_;have hq:=OI hj3; subst hq;exact AJ rfl AQ
  refine AU (b:=j3) kr (fun hb4=>?_) (fun hb4=>?_)
  ·rw [if_pos hb4] at h
   refine AI ?_;obtain ⟨v5,hv5,h⟩:=OB h;refine AL (s1:=⟨Fr 54 [(4,.st v5)],[]⟩) ?_ ?_
   ·refine AD (n:=54) AC 1 [(18,.j x0)] [] kr ?_
    refine Af (caps:=[]) (xs:=[.j x0]) (u:=(x0,())) rfl rfl Ly rfl (AA rfl) kr kr (As (BU (c:=cdI) (v:=x0)) B3) (.inl kr) hv5 ?_;exact Ar AC
   refine Ah ?_;have hq:=OI h; subst hq;exact ⟨⟨Fr 54 [(4,.st v5)],[]⟩,AQ,.inr rfl,[.st v5],kr,kr⟩
  ·rw [Bx hb4] at h
   refine Ax ?_;refine AI ?_;cases h
 ·rw [Bx hb1] at h
  refine Ax ?_;refine AI ?_;cases h
def JO:List AV->Option AV:=FZ EJ (fun a=>De a.1 a.2.1) EL
theorem JQ:XOk 91 JO:=by
 refine Az Tryz.func91 (c:=F4) ?h2 ⟨Tryz.call91⟩ EJ (fun a=>De a.1 a.2.1) EL (fun a=>(by show 2<=54; decide)) ?h3 ?h4
 case h2=>kernel_rfl
 case h3=>intro b; kernel_rfl
 case h4=>exact fun a b h=>Ii a.1 a.2.1 b h
/- internal/strconv.Itoa -/
noncomputable def IM:Code:=BX Tryz.f63
def Fh (x0:Int):Option ((List UInt8)) :=
 (De x0 10).bind fun v1 =>
 some v1
def GV:Cs (Int×Unit):=(csC cdI csN)
def GY (r:(List UInt8)):AV:=cdS.enc r
theorem Kt (x0:Int) (r:(List UInt8)) (h:Fh x0=some r):Sem E0 ⟨none,false⟩ IM ⟨Fr 5 (BB 0 (GV.enc (x0,()))),[]⟩ fun e s'=>(e = .normal\/e = .ret)/\∃ xs,D4 E0.P s'.fr s'.hp Tryz.f63.results.toList=some xs/\Eh xs=GY r:=by
 unfold Fh at h;refine CB (DP (s1:=⟨Fr 5 [(0,.j x0)],[]⟩) AQ ?_);refine Ae AC [(0,.j x0)] [] ?_;refine AI ?_;obtain ⟨v1,hv1,h⟩:=OB h;refine AL (s1:=⟨Fr 5 [(2,.st v1)],[]⟩) ?_ ?_
 ·refine AD (n:=5) AC 1 [(3,.j x0)] [] kr ?_
  refine Af (caps:=[]) (xs:=[.j x0,.j 10]) (u:=(x0,10,())) rfl rfl JQ rfl (AA rfl) kr kr (As (BU (c:=cdI) (v:=x0)) (As (BU (c:=cdI) (v:=10)) B3)) (.inl kr) hv1 ?_;exact Ar AC
 refine Ah ?_;have hq:=OI h; subst hq;exact ⟨⟨Fr 5 [(2,.st v1)],[]⟩,AQ,.inr rfl,[.st v1],kr,kr⟩
def MF:List AV->Option AV:=FZ GV (fun a=>Fh a.1) GY
theorem MJ:XOk 63 MF:=by
 refine Az Tryz.func63 (c:=IM) ?h2 ⟨Tryz.call63⟩ GV (fun a=>Fh a.1) GY (fun a=>(by show 1<=5; decide)) ?h3 ?h4
 case h2=>kernel_rfl
 case h3=>intro b; kernel_rfl
 case h4=>exact fun a b h=>Kt a.1 b h
/- strconv.Itoa -/
noncomputable def IL:Code:=BX Tryz.f30
def Cr (x0:Int):Option ((List UInt8)) :=
 (Fh x0).bind fun v1 =>
 some v1
def GU:Cs (Int×Unit):=(csC cdI csN)
def GX (r:(List UInt8)):AV:=cdS.enc r
theorem Kr (x0:Int) (r:(List UInt8)) (h:Cr x0=some r):Sem E0 ⟨none,false⟩ IL ⟨Fr 5 (BB 0 (GU.enc (x0,()))),[]⟩ fun e s'=>(e = .normal\/e = .ret)/\∃ xs,D4 E0.P s'.fr s'.hp Tryz.f30.results.toList=some xs/\Eh xs=GX r:=by
 unfold Cr at h;refine CB (DP (s1:=⟨Fr 5 [(0,.j x0)],[]⟩) AQ ?_);refine Ae AC [(0,.j x0)] [] ?_;refine AI ?_;obtain ⟨v1,hv1,h⟩:=OB h;refine AL (s1:=⟨Fr 5 [(2,.st v1)],[]⟩) ?_ ?_
 ·refine AD (n:=5) AC 1 [(3,.j x0)] [] kr ?_
  refine Af (caps:=[]) (xs:=[.j x0]) (u:=(x0,())) rfl rfl MJ rfl (AA rfl) kr kr (As (BU (c:=cdI) (v:=x0)) B3) (.inl kr) hv1 ?_;exact Ar AC
 refine Ah ?_;have hq:=OI h; subst hq;exact ⟨⟨Fr 5 [(2,.st v1)],[]⟩,AQ,.inr rfl,[.st v1],kr,kr⟩
def ME:List AV->Option AV:=FZ GU (fun a=>Cr a.1) GX
theorem MI:XOk 30 ME:=by
 refine Az Tryz.func30 (c:=IL) ?h2 ⟨Tryz.call30⟩ GU (fun a=>Cr a.1) GX (fun a=>(by show 1<=5; decide)) ?h3 ?h4
 case h2=>kernel_rfl
 case h3=>intro b; kernel_rfl
 case h4=>exact fun a b h=>Kr a.1 b h
/- trestle/court.Format -/
noncomputable def CR:Code:=BX Tryz.f10
def D7 (c7:(List UInt8)) (v9:AF):Option (((List UInt8))) :=
 if (!(v9.2.1==[]))=true then
 if (okB ([97,109,111,110,103,32]++v9.2.1))=true then
 if (okB (([97,109,111,110,103,32]++v9.2.1)++[32]))=true then
 if (decide (0 < (([97,109,111,110,103,32]++v9.2.1)++[32]).length))=true then
 if (Dy 1 (c7.length + (([97,109,111,110,103,32]++v9.2.1)++[32]).length))=true then
 some (c7++(([97,109,111,110,103,32]++v9.2.1)++[32]))
 else none
 else none
 else none
 else none
 else
 some c7
def D8 (v9:AF) (r27:(List UInt8)) (v31:(List UInt8)) (j38:Bool):Option (((List UInt8))) :=
 if j38=true then
 (Cr v9.2.2.2.2).bind fun v57 =>
 if (okB ([32]++v57))=true then
 if (decide (0 < ([32]++v57).length))=true then
 if (Dy 1 ((r27++v31).length + ([32]++v57).length))=true then
 some ((r27++v31)++([32]++v57))
 else none
 else none
 else none
 else
 some (r27++v31)
def Eo (v9:AF) (r65:(List UInt8)):Option (((List UInt8))) :=
 if v9.2.2.1=true then
 if (decide (0 < ([32,108,97,115,116]:List UInt8).length))=true then
 if (Dy 1 (r65.length + ([32,108,97,115,116]:List UInt8).length))=true then
 some (r65++([32,108,97,115,116]:List UInt8))
 else none
 else none
 else
 if (decide (0 < ([32,102,105,114,115,116]:List UInt8).length))=true then
 if (Dy 1 (r65.length + ([32,102,105,114,115,116]:List UInt8).length))=true then
 some (r65++([32,102,105,114,115,116]:List UInt8))
 else none
 else none
def D9 (v9:AF) (r65:(List UInt8)) (j69:Bool):Option (((List UInt8))) :=
 if j69=true then
 (Eo v9 r65).bind fun r100 =>
 some r100
 else
 some r65
def Ba (v9:AF):Nat->Int->(List UInt8)->Option (((List UInt8)))
 | 0,_,_=>none
 | f + 1,c108,c109 =>
  if (decide (c108 < (v9.2.2.2.1.length:Int)))=true then
  (idx v9.2.2.2.1 c108).bind fun v111 =>
  if (okB ([32]++v111))=true then
  if (decide (0 < ([32]++v111).length))=true then
  if (Dy 1 (c109.length + ([32]++v111).length))=true then
  Ba v9 f (wr .i64 (c108 + 1)) (c109++([32]++v111))
  else none
  else none
  else none
  else
  some c109
def Bo (x0:(List AF)):Nat->Int->(List UInt8)->Option (((List UInt8)))
 | 0,_,_=>none
 | f + 1,c6,c7 =>
  if (decide (c6 < (x0.length:Int)))=true then
  (idx x0 c6).bind fun v9 =>
  (D7 c7 v9).bind fun r27 =>
  (Ee v9.1).bind fun v31 =>
  if (decide (0 < v31.length))=true then
  if (Dy 1 (r27.length + v31.length))=true then
  (if (v9.1==4)=true then some true else some (v9.1==10)).bind fun j38 =>
  (D8 v9 r27 v31 j38).bind fun r65 =>
  (if (decide (v9.1≥4))=true then some (decide (v9.1<=7)) else some false).bind fun j69 =>
  (D9 v9 r65 j69).bind fun r104 =>
  (Ba v9 100000 0 r104).bind fun r119 =>
  if (decide (0 < ([10]:List UInt8).length))=true then
  if (Dy 1 (r119.length + ([10]:List UInt8).length))=true then
  Bo x0 f (wr .i64 (c6 + 1)) (r119++([10]:List UInt8))
  else none
  else none
  else none
  else none
  else
  some c7
def DE (x0:(List AF)):Option ((List UInt8)) :=
 (D6 x0).bind fun v1 =>
 if (v1.2 != 0)=true then
 some []
 else
 (Bo x0 100000 0 ([]:List UInt8)).bind fun r129 =>
 if (okB r129)=true then
 some r129
 else none
theorem JW {L:List Asn}{hp:Hp}(c7:(List UInt8)) (v9:AF) (x0:(List AF)) (e3:AV) (c6:Int) (e10:AV) (r:((List UInt8))) (h:D7 c7 v9=some r) (hT:T hp ((cel e10 5 66 (AB.enc v9))::(bld 72 e3 c7)::L)):SemY E0 ⟨none,false⟩ (pc CR [1,1,1,0,1,0,0,1,1,0,0,1,0,1]) ⟨Fr 74 [(5,e3),(7,e10),(17,.sl 5 (x0.map AB.enc)),(18,.j (x0.length:Int)),(19,.j c6),(25,.b (!(v9.2.1==[])))],hp⟩ (fun e s=>e = .normal/\∃ s2,(∃ (h':Hp),T h' ((bld 72 e3 r)::(cel e10 5 66 (AB.enc v9))::L)/\s2=⟨Fr 74 [(5,e3),(7,e10),(17,.sl 5 (x0.map AB.enc)),(18,.j (x0.length:Int)),(19,.j c6)],h'⟩)/\WkY E0 s s2):=by
 unfold D7 at h;refine Da (b:=(!(v9.2.1==[]))) kr (fun hb17=>?_) (fun hb17=>?_)
 ·rw [if_pos hb17] at h
  refine SemY.regionL ?_;refine AH AC 0 rfl (BH (AA rfl) rfl (C0 (a:=e10) kr (Bb (off:=1) hT kr))) ?_;refine AH AC 0 rfl (BH (AA rfl) rfl (Bz (p:=ER e10 1) kr (CZ (off:=1) (y:= .st v9.2.1) (m:=1) (g:=false) hT kr kr kr))) ?_;by_cases hk18:(okB ([97,109,111,110,103,32]++v9.2.1))=true
  case neg=>rw [if_neg hk18] at h; cases h
  rw [if_pos hk18] at h;refine AH AC 0 rfl (BH (AA rfl) rfl (So (a:= .st [97,109,111,110,103,32]) (b:= .st v9.2.1) kr kr (O9 hk18))) ?_;by_cases hk19:(okB (([97,109,111,110,103,32]++v9.2.1)++[32]))=true
  case neg=>rw [if_neg hk19] at h; cases h
  rw [if_pos hk19] at h;refine AH AC 0 rfl (BH (AA rfl) rfl (So (a:= .st ([97,109,111,110,103,32]++v9.2.1)) (b:= .st [32]) kr kr (O9 hk19))) ?_;by_cases hk20:(decide (0 < (([97,109,111,110,103,32]++v9.2.1)++[32]).length))=true
  case neg=>rw [if_neg hk20] at h; cases h
  rw [if_pos hk20] at h;by_cases hk21:(Dy 1 (c7.length + (([97,109,111,110,103,32]++v9.2.1)++[32]).length))=true
  case neg=>rw [if_neg hk21] at h; cases h
  rw [if_pos hk21] at h
  have hT24:=(hT.front 1 rfl)
  refine EV rfl rfl hT24 hk20 hk21 rfl (AA rfl) kr kr ?_;intro hp22 hT23;refine AE rfl ?_;have hq:=OI h; subst hq;exact ⟨rfl,_,⟨hp22,hT23,rfl⟩,WkY.f1⟩
 ·rw [Bx hb17] at h
  refine SemY.skip ?_;have hq:=OI h; subst hq
  have hT26:=(hT.front 1 rfl)
  exact ⟨rfl,_,⟨hp,hT26,rfl⟩,WkY.f1⟩
theorem JX {L:List Asn}{hp:Hp}(v9:AF) (r27:(List UInt8)) (v31:(List UInt8)) (j38:Bool) (x0:(List AF)) (e3:AV) (c6:Int) (e10:AV) (r:((List UInt8))) (h:D8 v9 r27 v31 j38=some r) (hT:T hp ((bld 72 e3 (r27++v31))::(cel e10 5 66 (AB.enc v9))::L)):SemY E0 ⟨none,false⟩ (pc CR [1,1,1,0,1,0,0,1,1,0,0,1,1,1,0,1]) ⟨Fr 74 [(5,e3),(7,e10),(17,.sl 5 (x0.map AB.enc)),(18,.j (x0.length:Int)),(19,.j c6),(42,.b j38)],hp⟩ (fun e s=>e = .normal/\∃ s2,(∃ (h':Hp),T h' ((bld 72 e3 r)::(cel e10 5 66 (AB.enc v9))::L)/\s2=⟨Fr 74 [(5,e3),(7,e10),(17,.sl 5 (x0.map AB.enc)),(18,.j (x0.length:Int)),(19,.j c6)],h'⟩)/\WkY E0 s s2):=by
 unfold D8 at h;refine Da (b:=j38) kr (fun hb55=>?_) (fun hb55=>?_)
 ·rw [if_pos hb55] at h
  refine SemY.regionL ?_
  have hT56:=(hT.front 1 rfl)
  refine AH AC 0 rfl (BH (AA rfl) rfl (C0 (a:=e10) kr (Bb (off:=4) hT56 kr))) ?_;refine AH AC 0 rfl (BH (AA rfl) rfl (Bz (p:=ER e10 4) kr (CZ (off:=4) (y:= .j v9.2.2.2.2) (m:=1) (g:=false) hT56 kr kr kr))) ?_;obtain ⟨v57,hv57,h⟩:=OB h;refine Eb (v:=v57) (caps:=[]) (xs:=[.j v9.2.2.2.2]) (u:=(v9.2.2.2.2,())) rfl rfl MI rfl (AA rfl) kr kr (AM (AS (c:=cdI) (v:=v9.2.2.2.2)) SeesD.nil) (.inl kr) hv57 ?_;by_cases hk58:(okB ([32]++v57))=true
  case neg=>rw [if_neg hk58] at h; cases h
  rw [if_pos hk58] at h;refine AH AC 0 rfl (BH (AA rfl) rfl (So (a:= .st [32]) (b:= .st v57) kr kr (O9 hk58))) ?_;by_cases hk59:(decide (0 < ([32]++v57).length))=true
  case neg=>rw [if_neg hk59] at h; cases h
  rw [if_pos hk59] at h;by_cases hk60:(Dy 1 ((r27++v31).length + ([32]++v57).length))=true
  case neg=>rw [if_neg hk60] at h; cases h
  rw [if_pos hk60] at h
  have hT63:=(hT56.front 1 rfl)
  refine EV rfl rfl hT63 hk59 hk60 rfl (AA rfl) kr kr ?_;intro hp61 hT62;refine AE rfl ?_;have hq:=OI h; subst hq;exact ⟨rfl,_,⟨hp61,hT62,rfl⟩,WkY.f1⟩
 ·rw [Bx hb55] at h
  refine SemY.skip ?_;have hq:=OI h; subst hq;exact ⟨rfl,_,⟨hp,hT,rfl⟩,WkY.f1⟩
theorem JZ {L:List Asn}{hp:Hp}(v9:AF) (r65:(List UInt8)) (x0:(List AF)) (e3:AV) (c6:Int) (e10:AV) (r:((List UInt8))) (h:Eo v9 r65=some r) (hT:T hp ((cel e10 5 66 (AB.enc v9))::(bld 72 e3 r65)::L)):SemY E0 ⟨none,false⟩ (pc CR [1,1,1,0,1,0,0,1,1,0,0,1,1,1,1,0,1,0,1]) ⟨Fr 74 [(5,e3),(7,e10),(17,.sl 5 (x0.map AB.enc)),(18,.j (x0.length:Int)),(19,.j c6),(57,.b v9.2.2.1)],hp⟩ (fun e s=>e = .normal/\∃ s2,(∃ (h':Hp),T h' ((bld 72 e3 r)::(cel e10 5 66 (AB.enc v9))::L)/\s2=⟨Fr 74 [(5,e3),(7,e10),(17,.sl 5 (x0.map AB.enc)),(18,.j (x0.length:Int)),(19,.j c6)],h'⟩)/\WkY E0 s s2):=by
 unfold Eo at h;refine Da (b:=v9.2.2.1) kr (fun hb88=>?_) (fun hb88=>?_)
 ·rw [if_pos hb88] at h
  refine SemY.regionL ?_;by_cases hk89:(decide (0 < ([32,108,97,115,116]:List UInt8).length))=true
  case neg=>rw [if_neg hk89] at h; cases h
  rw [if_pos hk89] at h;by_cases hk90:(Dy 1 (r65.length + ([32,108,97,115,116]:List UInt8).length))=true
  case neg=>rw [if_neg hk90] at h; cases h
  rw [if_pos hk90] at h
  have hT93:=(hT.front 1 rfl)
  refine EV rfl rfl hT93 hk89 hk90 rfl (AA rfl) kr kr ?_;intro hp91 hT92;refine AE rfl ?_;have hq:=OI h; subst hq;exact ⟨rfl,_,⟨hp91,hT92,rfl⟩,WkY.f1⟩
 ·rw [Bx hb88] at h
  refine SemY.regionL ?_;by_cases hk95:(decide (0 < ([32,102,105,114,115,116]:List UInt8).length))=true
  case neg=>rw [if_neg hk95] at h; cases h
  rw [if_pos hk95] at h;by_cases hk96:(Dy 1 (r65.length + ([32,102,105,114,115,116]:List UInt8).length))=true
  case neg=>rw [if_neg hk96] at h; cases h
  rw [if_pos hk96] at h
  have hT99:=(hT.front 1 rfl)
  refine EV rfl rfl hT99 hk95 hk96 rfl (AA rfl) kr kr ?_;intro hp97 hT98;refine AE rfl ?_;have hq:=OI h; subst hq;exact ⟨rfl,_,⟨hp97,hT98,rfl⟩,WkY.f1⟩
theorem JY {L:List Asn}{hp:Hp}(v9:AF) (r65:(List UInt8)) (j69:Bool) (x0:(List AF)) (e3:AV) (c6:Int) (e10:AV) (r:((List UInt8))) (h:D9 v9 r65 j69=some r) (hT:T hp ((bld 72 e3 r65)::(cel e10 5 66 (AB.enc v9))::L)):SemY E0 ⟨none,false⟩ (pc CR [1,1,1,0,1,0,0,1,1,0,0,1,1,1,1,0,1]) ⟨Fr 74 [(5,e3),(7,e10),(17,.sl 5 (x0.map AB.enc)),(18,.j (x0.length:Int)),(19,.j c6),(55,.b j69)],hp⟩ (fun e s=>e = .normal/\∃ s2,(∃ (h':Hp),T h' ((bld 72 e3 r)::(cel e10 5 66 (AB.enc v9))::L)/\s2=⟨Fr 74 [(5,e3),(7,e10),(17,.sl 5 (x0.map AB.enc)),(18,.j (x0.length:Int)),(19,.j c6)],h'⟩)/\WkY E0 s s2):=by
 unfold D9 at h;refine Da (b:=j69) kr (fun hb86=>?_) (fun hb86=>?_)
 ·rw [if_pos hb86] at h
  refine Aa ?_;refine SemY.regionL ?_
  have hT87:=(hT.front 1 rfl)
  refine AH AC 0 rfl (BH (AA rfl) rfl (C0 (a:=e10) kr (Bb (off:=2) hT87 kr))) ?_;refine AH AC 0 rfl (BH (AA rfl) rfl (Bz (p:=ER e10 2) kr (CZ (off:=2) (y:= .b v9.2.2.1) (m:=1) (g:=false) hT87 kr kr kr))) ?_;refine AE rfl (SemY.fr (l':=[(5,e3),(7,e10),(17,.sl 5 (x0.map AB.enc)),(18,.j (x0.length:Int)),(19,.j c6),(57,.b v9.2.2.1)]) kr ?_);obtain ⟨r100,hr100,h⟩:=OB h;refine HN (JZ v9 r65 x0 e3 c6 e10 _ hr100 hT87) ?_;rintro _ ⟨hp101,hT102,rfl⟩;have hq:=OI h; subst hq;exact ⟨rfl,_,⟨hp101,hT102,rfl⟩,WkY.f1⟩
 ·rw [Bx hb86] at h
  refine SemY.skip ?_;have hq:=OI h; subst hq;exact ⟨rfl,_,⟨hp,hT,rfl⟩,WkY.f1⟩
theorem Jb {L:List Asn}(v9:AF) (x0:(List AF)) (e3:AV) (c6:Int):∀ (f:Nat) (c108:Int) (c109:(List UInt8)) (r:((List UInt8))),Ba v9 f c108 c109=some r->∀ (hp:Hp),T hp ((bld 72 e3 c109)::L)->SemYN E0 ⟨none,false⟩ (pc CR [1,1,1,0,1,0,0,1,1,0,0,1,1,1,1,1,0,1,0,0]) f ⟨Fr 74 [(5,e3),(17,.sl 5 (x0.map AB.enc)),(18,.j (x0.length:Int)),(19,.j c6),(61,.sl 1 (v9.2.2.2.1.map cdS.enc)),(62,.j (v9.2.2.2.1.length:Int)),(63,.j c108)],hp⟩ (fun e s=>e=(.exit 2)/\∃ s2,(∃ (h':Hp),T h' ((bld 72 e3 r)::L)/\s2=⟨Fr 74 [(5,e3),(17,.sl 5 (x0.map AB.enc)),(18,.j (x0.length:Int)),(19,.j c6)],h'⟩)/\WkY E0 s s2):=by
 intro f;induction f with
 | zero=>intro c108 c109 r h; cases h
 | succ f ih0 =>
  intro c108 c109 r h  hp hT;unfold Ba at h;refine J8 ?_
  let p1:Nat×AV:=(63,.j c108)
  let p2:Nat×AV:=(62,.j (v9.2.2.2.1.length:Int))
  let p3:Nat×AV:=(61,.sl 1 (v9.2.2.2.1.map cdS.enc))
  let p4:Nat×AV:=(19,.j c6)
  let p5:Nat×AV:=(18,.j (x0.length:Int))
  let p6:Nat×AV:=(17,.sl 5 (x0.map AB.enc))
  refine GL AC [(5,e3),p6,p5,p4,p3,p2,p1,(64,.b (decide (c108 < (v9.2.2.2.1.length:Int))))] ?_;refine Aa ?_;refine Da (b:=(decide (c108 < (v9.2.2.2.1.length:Int)))) kr (fun hb110=>?_) (fun hb110=>?_)
  ·rw [if_pos hb110] at h
   refine SemY.skip ?_;refine Aa ?_;refine GJ ?_;refine Aa ?_;refine SemY.regionL ?_;obtain ⟨v111,hv111,h⟩:=OB h;refine AH AC 0 rfl (BH (AA rfl) rfl (BW (a:= .sl 1 (v9.2.2.2.1.map cdS.enc)) (b:= .j c108) kr kr (Iy (e:=cdS.enc) (el:=9) (k:=1) (ki:= .i64) kr kr hv111))) ?_;refine El AC [(5,e3),(9,.st v111),p6,p5,p4,p3,p2,p1] ?_;refine SemY.regionL ?_;refine DL AC 1 ?_;by_cases hk112:(okB ([32]++v111))=true
   case neg=>rw [if_neg hk112] at h; cases h
   rw [if_pos hk112] at h;refine AH AC 0 rfl (BH (AA rfl) rfl (So (a:= .st [32]) (b:= .st v111) kr kr (O9 hk112))) ?_;by_cases hk113:(decide (0 < ([32]++v111).length))=true
   case neg=>rw [if_neg hk113] at h; cases h
   rw [if_pos hk113] at h;by_cases hk114:(Dy 1 (c109.length + ([32]++v111).length))=true
   case neg=>rw [if_neg hk114] at h; cases h
   rw [if_pos hk114] at h;refine EV rfl rfl hT hk113 hk114 rfl (AA rfl) kr kr ?_;intro hp115 hT116;refine AE rfl (SemY.fr (l':=[(5,e3),p6,p5,p4,p3,p2,p1]) kr ?_);refine SemY.regionL ?_;refine DL AC 2 ?_;refine AE rfl ?_;exact Ip WkY.f1 (ih0 (wr .i64 (c108 + 1)) (c109++([32]++v111)) _ h  hp115 hT116)
  ·rw [Bx hb110] at h
   refine SemY.exit ?_;have hq:=OI h; subst hq;exact ⟨rfl,_,⟨hp,hT,rfl⟩,WkY.f1⟩
theorem Ja {L:List Asn}(x0:(List AF)) (e3:AV):∀ (f:Nat) (c6:Int) (c7:(List UInt8)) (r:((List UInt8))),Bo x0 f c6 c7=some r->∀ (hp:Hp),T hp ((bld 72 e3 c7)::L)->SemYN E0 ⟨none,false⟩ (pc CR [1,1,1,0,1,0,0]) f ⟨Fr 74 [(5,e3),(17,.sl 5 (x0.map AB.enc)),(18,.j (x0.length:Int)),(19,.j c6)],hp⟩ (fun e s=>e=(.exit 0)/\∃ s2,(∃ (h':Hp),T h' ((bld 72 e3 r)::L)/\s2=⟨Fr 74 [(5,e3)],h'⟩)/\WkY E0 s s2):=by
 intro f;induction f with
 | zero=>intro c6 c7 r h; cases h
 | succ f ih0 =>
  intro c6 c7 r h  hp hT;unfold Bo at h;refine J8 ?_;refine GL AC [(5,e3),(17,.sl 5 (x0.map AB.enc)),(18,.j (x0.length:Int)),(19,.j c6),(20,.b (decide (c6 < (x0.length:Int))))] ?_;refine Aa ?_;refine Da (b:=(decide (c6 < (x0.length:Int)))) kr (fun hb8=>?_) (fun hb8=>?_)
  ·rw [if_pos hb8] at h
   refine SemY.skip ?_;refine Aa ?_;refine GJ ?_;refine Aa ?_;refine SemY.regionL ?_;obtain ⟨v9,hv9,h⟩:=OB h;refine AH AC 0 rfl (BH (AA rfl) rfl (BW (a:= .sl 5 (x0.map AB.enc)) (b:= .j c6) kr kr (Iy (e:=AB.enc) (el:=66) (k:=5) (ki:= .i64) kr kr hv9))) ?_;refine DL AC 1 ?_;obtain ⟨e10,hp11,hb12,hT13⟩:=KB (t:=66) (a:= .ag [.v (.int .u8 0),.st [],.b false,.e0,.j 0]) hT kr;refine AH AC 0 rfl (UL (AA rfl) rfl kr (Mz (z:= .ag [.v (.int .u8 0),.st [],.b false,.e0,.j 0]) kr hb12)) ?_;obtain ⟨hp14,hs15,hT16⟩:=Ih (P:=Tryz.prog) (ty:=66) (y:=(AB.enc v9)) (a':=(AB.enc v9)) hT13 kr kr kr;refine RunL.store AC (y:=e10) (z:=(AB.enc v9)) rfl (AA rfl) kr kr hs15 ?_;refine AE rfl (SemY.fr (l':=[(5,e3),(7,e10),(17,.sl 5 (x0.map AB.enc)),(18,.j (x0.length:Int)),(19,.j c6)]) kr ?_);refine Aa ?_;refine Aa ?_;refine SemY.regionL ?_;refine AH AC 0 rfl (BH (AA rfl) rfl (C0 (a:=e10) kr (Bb (off:=1) hT16 kr))) ?_;refine AH AC 0 rfl (BH (AA rfl) rfl (Bz (p:=ER e10 1) kr (CZ (off:=1) (y:= .st v9.2.1) (m:=1) (g:=false) hT16 kr kr kr))) ?_;refine El AC [(5,e3),(7,e10),(17,.sl 5 (x0.map AB.enc)),(18,.j (x0.length:Int)),(19,.j c6),(25,.b (!(v9.2.1==[])))] ?_;obtain ⟨r27,hr27,h⟩:=OB h;refine HN (JW c7 v9 x0 e3 c6 e10 _ hr27 hT16) ?_;rintro _ ⟨hp28,hT29,rfl⟩;refine Aa ?_;refine SemY.regionL ?_
   have hT30:=(hT29.front 1 rfl)
   refine AH AC 0 rfl (BH (AA rfl) rfl (C0 (a:=e10) kr (Bb (off:=0) hT30 kr))) ?_;refine AH AC 0 rfl (BH (AA rfl) rfl (Bz (p:=ER e10 0) kr (CZ (off:=0) (y:= .v (.int .u8 v9.1)) (m:=1) (g:=false) hT30 kr kr kr))) ?_;obtain ⟨v31,hv31,h⟩:=OB h;refine Eb (v:=v31) (caps:=[]) (xs:=[.v (.int .u8 v9.1)]) (u:=(v9.1,())) rfl rfl Kd rfl (AA rfl) kr kr (AM (AS (c:=(cdK .u8)) (v:=v9.1)) SeesD.nil) (.inl kr) hv31 ?_;by_cases hk32:(decide (0 < v31.length))=true
   case neg=>rw [if_neg hk32] at h; cases h
   rw [if_pos hk32] at h;by_cases hk33:(Dy 1 (r27.length + v31.length))=true
   case neg=>rw [if_neg hk33] at h; cases h
   rw [if_pos hk33] at h
   have hT36:=(hT30.front 1 rfl)
   refine EV rfl rfl hT36 hk32 hk33 rfl (AA rfl) kr kr ?_;intro hp34 hT35;refine AE rfl (SemY.fr (l':=[(5,e3),(7,e10),(17,.sl 5 (x0.map AB.enc)),(18,.j (x0.length:Int)),(19,.j c6)]) kr ?_);refine Aa ?_;refine Aa ?_;obtain ⟨j38,hj38,h⟩:=OB h;refine Nc (A:=fun s1=>∃ (h':Hp),T h' ((bld 72 e3 (r27++v31))::(cel e10 5 66 (AB.enc v9))::L)/\s1=⟨Fr 74 [(5,e3),(7,e10),(17,.sl 5 (x0.map AB.enc)),(18,.j (x0.length:Int)),(19,.j c6),(42,.b j38)],h'⟩) ?_ ?_
   ·have hT37:=(hT35.front 1 rfl)
    refine AH AC 0 rfl (BH (AA rfl) rfl (C0 (a:=e10) kr (Bb (off:=0) hT37 kr))) ?_;refine AH AC 0 rfl (BH (AA rfl) rfl (Bz (p:=ER e10 0) kr (CZ (off:=0) (y:= .v (.int .u8 v9.1)) (m:=1) (g:=false) hT37 kr kr kr))) ?_;refine AG (n:=74) AC 2 [(5,e3),(7,e10),(17,.sl 5 (x0.map AB.enc)),(18,.j (x0.length:Int)),(19,.j c6),(38,.b (v9.1==4))] hp34 kr ?_;rcases BE (v9.1==4) with hc127 | hc127
    ·rw [if_pos hc127] at hj38
     rw [hc127];refine DL AC 4 ?_;have hq:=OI hj38; subst hq
     have hT51:=(hT37.front 1 rfl)
     exact AE rfl ⟨_,⟨hp34,hT51,rfl⟩,WkY.f1⟩
    ·rw [Bx hc127] at hj38
     rw [hc127];refine AH AC 0 rfl (BH kr rfl (C0 (a:=e10) kr (Bb (off:=0) hT37 kr))) ?_;refine AH AC 0 rfl (BH kr rfl (Bz (p:=ER e10 0) kr (CZ (off:=0) (y:= .v (.int .u8 v9.1)) (m:=1) (g:=false) hT37 kr kr kr))) ?_;refine DL AC 2 ?_;have hq:=OI hj38; subst hq
     have hT52:=(hT37.front 1 rfl)
     exact AE rfl ⟨_,⟨hp34,hT52,rfl⟩,WkY.f1⟩
   rintro _ ⟨hp53,hT54,rfl⟩;obtain ⟨r65,hr65,h⟩:=OB h;refine HN (JX v9 r27 v31 j38 x0 e3 c6 e10 _ hr65 hT54) ?_;rintro _ ⟨hp66,hT67,rfl⟩;refine Aa ?_;refine Aa ?_;obtain ⟨j69,hj69,h⟩:=OB h;refine Nc (A:=fun s1=>∃ (h':Hp),T h' ((bld 72 e3 r65)::(cel e10 5 66 (AB.enc v9))::L)/\s1=⟨Fr 74 [(5,e3),(7,e10),(17,.sl 5 (x0.map AB.enc)),(18,.j (x0.length:Int)),(19,.j c6),(55,.b j69)],h'⟩) ?_ ?_
   ·have hT68:=(hT67.front 1 rfl)
    refine AH AC 0 rfl (BH (AA rfl) rfl (C0 (a:=e10) kr (Bb (off:=0) hT68 kr))) ?_;refine AH AC 0 rfl (BH (AA rfl) rfl (Bz (p:=ER e10 0) kr (CZ (off:=0) (y:= .v (.int .u8 v9.1)) (m:=1) (g:=false) hT68 kr kr kr))) ?_;refine AG (n:=74) AC 2 [(5,e3),(7,e10),(17,.sl 5 (x0.map AB.enc)),(18,.j (x0.length:Int)),(19,.j c6),(51,.b (decide (v9.1≥4)))] hp66 kr ?_;rcases BE (decide (v9.1≥4)) with hc126 | hc126
    ·rw [if_pos hc126] at hj69
     rw [hc126];refine AH AC 0 rfl (BH kr rfl (C0 (a:=e10) kr (Bb (off:=0) hT68 kr))) ?_;refine AH AC 0 rfl (BH kr rfl (Bz (p:=ER e10 0) kr (CZ (off:=0) (y:= .v (.int .u8 v9.1)) (m:=1) (g:=false) hT68 kr kr kr))) ?_;refine DL AC 2 ?_;have hq:=OI hj69; subst hq
     have hT82:=(hT68.front 1 rfl)
     exact AE rfl ⟨_,⟨hp66,hT82,rfl⟩,WkY.f1⟩
    ·rw [Bx hc126] at hj69
     rw [hc126];refine DL AC 4 ?_;have hq:=OI hj69; subst hq
     have hT83:=(hT68.front 1 rfl)
     exact AE rfl ⟨_,⟨hp66,hT83,rfl⟩,WkY.f1⟩
   rintro _ ⟨hp84,hT85,rfl⟩;obtain ⟨r104,hr104,h⟩:=OB h;refine HN (JY v9 r65 j69 x0 e3 c6 e10 _ hr104 hT85) ?_;rintro _ ⟨hp105,hT106,rfl⟩;refine Aa ?_;refine Aa ?_;refine SemY.regionL ?_
   have hT107:=(hT106.front 1 rfl)
   refine AH AC 0 rfl (BH (AA rfl) rfl (C0 (a:=e10) kr (Bb (off:=3) hT107 kr))) ?_;refine AH AC 0 rfl (BH (AA rfl) rfl (Bz (p:=ER e10 3) kr (CZ (off:=3) (y:= .sl 1 (v9.2.2.2.1.map cdS.enc)) (m:=1) (g:=false) hT107 kr kr kr))) ?_;refine AH AC 0 rfl (BH (AA rfl) rfl (FT (a:= .sl 1 (v9.2.2.2.1.map cdS.enc)) kr (Dx (el:=9) kr))) ?_;refine El AC [(5,e3),(17,.sl 5 (x0.map AB.enc)),(18,.j (x0.length:Int)),(19,.j c6),(61,.sl 1 (v9.2.2.2.1.map cdS.enc)),(62,.j (v9.2.2.2.1.length:Int)),(63,.j 0)] ?_;refine GJ ?_
   have hT118:=hT107.drop
   refine SemY.loop (n:=100000) ?_;obtain ⟨r119,hr119,h⟩:=OB h;refine J7 (Ip WkY.f1 (Jb v9 x0 e3 c6 _ 0 r104 _ hr119  hp105 hT118)) ?_;rintro _ ⟨hp120,hT121,rfl⟩;refine SemY.regionL ?_;by_cases hk122:(decide (0 < ([10]:List UInt8).length))=true
   case neg=>rw [if_neg hk122] at h; cases h
   rw [if_pos hk122] at h;by_cases hk123:(Dy 1 (r119.length + ([10]:List UInt8).length))=true
   case neg=>rw [if_neg hk123] at h; cases h
   rw [if_pos hk123] at h;refine EV rfl rfl hT121 hk122 hk123 rfl (AA rfl) kr kr ?_;intro hp124 hT125;refine AE rfl (SemY.fr (l':=[(5,e3),(17,.sl 5 (x0.map AB.enc)),(18,.j (x0.length:Int)),(19,.j c6)]) kr ?_);refine SemY.regionL ?_;refine DL AC 2 ?_;refine AE rfl ?_;exact Ip WkY.f1 (ih0 (wr .i64 (c6 + 1)) (r119++([10]:List UInt8)) _ h  hp124 hT125)
  ·rw [Bx hb8] at h
   refine SemY.exit ?_;have hq:=OI h; subst hq;exact ⟨rfl,_,⟨hp,hT,rfl⟩,WkY.f1⟩
theorem Kf {L:List Asn}{hp:Hp}(x0:(List AF)) (r:(List UInt8)) (h:DE x0=some r) (hT:T hp (L)):SemY E0 ⟨none,false⟩ CR ⟨Fr 74 (BB 0 [.sl 5 (x0.map AB.enc)]),hp⟩ fun x s'=>(x = .normal\/x = .ret)/\∃ ys,D4 E0.P s'.fr s'.hp Tryz.f10.results.toList=some ys/\(fun v h'=>v = .st r/\T h' (L)) (Eh ys) s'.hp:=by
 unfold DE at h
 let p1:Nat×AV:=(0,.sl 5 (x0.map AB.enc))
 refine FX (G8 (s1:=⟨Fr 74 [p1],hp⟩) WkY.f1 ?_);refine GL AC [p1] ?_;refine Aa ?_;refine Aa ?_;refine SemY.regionL ?_;refine DL AC 1 ?_;obtain ⟨v1,hv1,h⟩:=OB h;refine Eb (v:=v1) (caps:=[]) (xs:=[.sl 5 (x0.map AB.enc)]) (u:=(x0,())) rfl rfl NT rfl (AA rfl) kr kr (AM (AS (c:=(cdL 5 AB)) (v:=x0)) SeesD.nil) (.inl kr) hv1 ?_;refine El AC [p1,(4,.j v1.2)] ?_;refine GL AC [p1,(16,.b (v1.2 != 0))] ?_;refine Da (b:=(v1.2 != 0)) kr (fun hb2=>?_) (fun hb2=>?_)
 ·rw [if_pos hb2] at h
  refine GL AC [(2,.st [])] ?_;refine SemY.ret ?_;have hq:=OI h; subst hq;exact ⟨⟨Fr 74 [(2,.st [])],hp⟩,WkY.f1,.inr rfl,[.st []],kr,⟨rfl,hT⟩⟩
 ·rw [Bx hb2] at h
  refine SemY.skip ?_;refine Aa ?_;refine SemY.regionL ?_;refine OL (ty:=72) hT rfl (AA rfl) kr kr ?_;intro e3 hp4 hT5;refine AE rfl (SemY.fr (l':=[p1,(5,e3)]) kr ?_);refine Aa ?_;refine Aa ?_;refine SemY.regionL ?_;refine DL AC 1 ?_;refine AH AC 0 rfl (BH (AA rfl) rfl (FT (a:= .sl 5 (x0.map AB.enc)) kr (Dx (el:=66) kr))) ?_;refine El AC [(5,e3),(17,.sl 5 (x0.map AB.enc)),(18,.j (x0.length:Int)),(19,.j 0)] ?_;refine GJ ?_;refine SemY.loop (n:=100000) ?_;obtain ⟨r129,hr129,h⟩:=OB h;refine J7 (Ip WkY.f1 (Ja x0 e3 _ 0 ([]:List UInt8) _ hr129  hp4 hT5)) ?_;rintro _ ⟨hp130,hT131,rfl⟩;refine Aa ?_;refine SemY.regionL ?_;by_cases hk132:(okB r129)=true
  case neg=>rw [if_neg hk132] at h; cases h
  rw [if_pos hk132] at h;refine Nb rfl rfl hT131 hk132 rfl (AA rfl) kr kr ?_;intro hp133 hT134;refine El AC [(2,.st r129)] ?_;refine SemY.ret ?_;have hq:=OI h; subst hq;exact ⟨⟨Fr 74 [(2,.st r129)],hp133⟩,WkY.f1,.inr rfl,[.st r129],kr,⟨rfl,hT134⟩⟩
def IN:Cs ((List AF)×Unit):=(csC (cdL 5 AB) csN)
def IR (r:(List UInt8)):AV:=cdS.enc r
def MA:List AV->Option AV:=FZ IN (fun a=>DE a.1) IR
theorem JB:XOk 10 MA:=by
 refine Az Tryz.func10 (c:=CR) ?h2 ⟨Tryz.call10⟩ IN (fun a=>DE a.1) IR (fun a=>(by show 1<=74; decide)) ?h3 ?h4
 case h2=>kernel_rfl
 case h3=>intro b; kernel_rfl
 case h4 =>
  intro a b h;refine Sem.mono (Sem.ofY (Kf (L:=[]) (hp:=[]) a.1 b h T.nil)) fun e s' hs=>?_
  obtain ⟨h1,ys,h2,h3,-⟩:=hs;exact ⟨h1,ys,h2,h3⟩
/-- An own value that a cell holds is frozen; the cell holds it as a frozen one. -/
theorem Rt {E:Env}{n:Nat}{l l':List (Nat×AV)}{hp:Hp}{α:Type}{o:Oc α}{e p:AV}{x:α}{k:Nat}{t:TypeId}{L:List Asn}(ht:T hp (own_ o e x::cel p k t e::L)) (hl:LkF l e (o.cd.enc x) l'):∃ hp',WkY E ⟨Fr n l,hp⟩ ⟨Fr n l',hp'⟩/\T hp' (cel p k t (o.cd.enc x)::L):=by
 obtain ⟨FF,⟨F,F',rfl,p1,F2,F3,rfl,⟨b0,rfl,rfl,hb0⟩,q3⟩,hnd⟩:=ht
 obtain ⟨n1,n2,n3⟩:=Gc.1 hnd
 obtain ⟨_,n4,n5⟩:=Gc.1 n2
 have p:o.at_ hp e x F:=p1
 have hb0F:b0 ∉ F:=fun h=>n3 b0 h (by simp)
 have hlt0:b0 < (Jo F hp).length:=by
  have:=G4 hb0
  simpa [Jo] using this
 have same:∀ b,b ∉ F->b≠b0->((Jo F hp).set b0 (some ⟨k,t,[o.cd.enc x],false⟩))[b]? = hp[b]?:=fun b hb hne=>by
  rw [List.getElem?_set,if_neg (fun h=>hne h.symm)]
  exact MT hb
 refine ⟨(Jo F hp).set b0 (some ⟨k,t,[o.cd.enc x],false⟩),fun base w Z R a sr=>?_,⟨[b0]++F3,⟨[b0],F3,rfl,⟨b0,rfl,rfl,by rw [List.getElem?_set,if_pos rfl,if_pos hlt0]⟩,q3.loc fun b hb=>same b (fun h=>n3 b h (by simp [hb])) (fun h=>n5 b0 (by simp) (h ▸ hb))⟩,n2⟩⟩
 have hown:∀ c,(∃ b ∈ F,∃ r,R[b]? = some r/\c=r.c)->own R hp c:=fun c ⟨b,hb,r,hr,hc⟩=>by
  obtain ⟨B,k1,k2⟩:=o.own p hb
  exact ⟨b,B,r,k1,k2,hr,hc.symm⟩
 have hzo:∀ c,(Z c\/∃ b ∈ F,∃ r,R[b]? = some r/\c=r.c)->Z c\/own R hp c:=fun c hc=>hc.imp_right (hown c)
 have up':∀ {x:AV} {u:Value} {R':List RI},VR w Z R' x u->VR w (fun c=>Z c\/∃ b ∈ F,∃ r,R[b]? = some r/\c=r.c) R' x u:=fun hv=>hv.mono (fun _ _=>rfl) (fun _ h=> .inl h) (fun _ _ h=>h)
 have hget:∀ (b:Nat) (B:Blk),((Jo F hp).set b0 (some ⟨k,t,[o.cd.enc x],false⟩))[b]? = some (some B)->b ∉ F/\∃ B0,hp[b]? = some (some B0)/\B0.fz=B.fz/\B0.k=B.k/\B0.t=B.t/\B.es.length=B0.es.length/\∀ (i:Nat) (x':AV),B.es[i]? = some x'->∃ x0,B0.es[i]? = some x0/\∀ u,VR w Z R x0 u->VR w (fun c=>Z c\/∃ b ∈ F,∃ r,R[b]? = some r/\c=r.c) R x' u:=fun b B hB=>by
  rw [List.getElem?_set] at hB
  split at hB
  ·next e0 =>
   subst e0
   try rw [if_pos hlt0] at hB
   have hB:=(OI (OI hB)).symm
   subst hB
   refine ⟨hb0F,_,hb0,rfl,rfl,rfl,rfl,fun i x' hx=>?_⟩
   match i with
   | 0 =>
    simp at hx; subst hx
    exact ⟨_,rfl,fun u hu=>(o.vr sr.hh p hu).up⟩
   | i + 1=>simp at hx
  ·obtain ⟨h1,h2⟩:=IY.1 hB
   exact ⟨h1,B,h2,rfl,rfl,rfl,rfl,fun i x' hx=>⟨x',hx,fun u hu=>up' hu⟩⟩
 have hown':∀ c,own R ((Jo F hp).set b0 (some ⟨k,t,[o.cd.enc x],false⟩)) c->own R hp c:=fun c ⟨b,B,r,h1,h2,h3,h4⟩=>by
  obtain ⟨_,B0,q1,q2,_⟩:=hget b B h1
  exact ⟨b,B0,r,q1,q2.trans h2,h3,h4⟩
 refine ⟨fun c=>Z c\/∃ b ∈ F,∃ r,R[b]? = some r/\c=r.c,R,⟨⟨by simp [Jo,sr.hh.len],fun b B hB=>?_,fun b b' B B' r r' h1 f1 h2 f2 g1 g2 e=>?_,fun c hc=>?_⟩,⟨?_,fun t x hx=>?_⟩,?_,fun g x hx=>up' (sr.gl g x hx),sr.bs⟩,⟨rfl,rfl,rfl,Nat.le_refl _,fun _ _ _=>rfl,fun c hc=> .inl (hown' c hc),fun _ h=> .inl h,fun c hc=>(hzo c hc).imp_right .inl,fun _ _ h=>h⟩⟩
 ·obtain ⟨hbF,B0,q1,q2,q3,q4,q5,q6⟩:=hget b B hB
  obtain ⟨r,arr,us,g1,g2,g3,g4,g5,g6,g7,g8,g9,g10⟩:=sr.hh.blk b B0 q1
  rw [q3] at g2 g4 g10
  rw [q4] at g3
  rw [q2] at g7 g8
  refine ⟨r,arr,us,g1,g2,g3,g4,by rw [q5]; exact g5,g6,fun hf=> .inl (g7 hf),fun hf hc=>?_,⟨by rw [g9.len,q5],fun i x' u hx hu=>?_⟩,g10⟩
  ·rcases hc with hc | ⟨b',hb',r',hr',hc⟩
   ·exact g8 hf hc
   ·obtain ⟨B',k1,k2⟩:=o.own p hb'
    have:=sr.hh.inj b b' B0 B' r r' q1 (q2.trans hf) k1 k2 g1 hr' hc
    exact hbF (this ▸ hb')
  ·obtain ⟨x0,r1,r2⟩:=q6 i x' hx
   exact r2 u (g9.at_ i x0 u r1 hu)
 ·obtain ⟨_,B0,q1,q2,_⟩:=hget b B h1
  obtain ⟨_,B0',q1',q2',_⟩:=hget b' B' h2
  exact sr.hh.inj b b' B0 B0' r r' q1 (q2.trans f1) q1' (q2'.trans f2) g1 g2 e
 ·rcases hzo c hc with hc | ⟨b,B,r,k1,_,k3,k4⟩
  ·exact sr.hh.zlt c hc
  ·exact k4 ▸ sr.hh.rltL k1 k3
 ·rw [D1]; have:=sr.fr.1; rw [D1] at this; exact this
 ·rw [Dv] at hx
  split at hx
  ·next ht =>
   injection hx with hx
   obtain ⟨x0,h1,hf⟩:=hl.at_ t x hx
   exact hf _ _ _ _ _ (fun c h=> .inl h) (fun v hv=>(o.vr sr.hh p hv).up) (sr.fr.2 t x0 (by rw [Dv,if_pos ht,h1]))
  ·cases hx
 ·exact sr.mks.imp fun q h3 h4 h5=>⟨h3,fun hc=>(hzo q hc).elim h4 h5,fun ho=>h5 (hown' q ho)⟩
/-- One cell of one value. -/
theorem OR {e:AV}(h:e.notTp=true/\e.notAg=true):e.cel=[e]:=by
 obtain ⟨h1,h2⟩:=h
 cases e <;> first | (exact (Bool.false_ne_true h1).elim) | (exact (Bool.false_ne_true h2).elim) | rfl
theorem K2 {e:AV}(h:e.notTp=true/\e.notAg=true):ST e 0 1 false=some e:=by
 unfold ST
 rw [OR h]; rfl
theorem NG {e y:AV}(h:e.notTp=true/\e.notAg=true) (hy:y.notTp=true/\y.notAg=true):Tb e 0 y=some y:=by
 unfold Tb
 rw [OR h,OR hy]
 obtain ⟨h1,h2⟩:=hy
 cases y <;> first | (exact (Bool.false_ne_true h1).elim) | (exact (Bool.false_ne_true h2).elim) | rfl
theorem Hv {R:List RI}{c:Nat}:¬ own R [] c:=fun ⟨b,B,_,hb,_⟩=>by simp at hb
/-- What a call hands back, seen as frozen. -/
def QA (h:Hp):AV->Option AV
 | .tp l=>(L0 (Ej h 12) l).map .tp
 | x=>Ej h 12 x
theorem S7 {w:World}{Z:Nat->Prop}{R:List RI}{h:Hp}{x y:AV}{v:Value}(hh:HR w Z R h) (hv:VR w Z R x v) (e:QA h x=some y):VR w (fun c=>Z c\/own R h c) [] y v:=by
 unfold QA at e
 split at e
 ·obtain ⟨ys,h1,rfl⟩:=Option.map_eq_some_iff.1 e
  cases hv with
  | tp hl hx =>
   have:=allV_vr (Jy hh 12) ⟨hl,hx⟩ h1
   exact .tp this.len this.at_
 ·exact Jy hh 12 _ _ _ hv e
theorem Qh {E:Env}{f:FuncId}{w:World}{Z:Nat->Prop}{us:List Value}{x y:AV}{h':Hp}(hr:NY E f us w Z [] [] x h') (hv:QA h' x=some y) :
  Ret E.P f us.toArray w fun v w'=>w.grownBy w' none/\VR w' (fun c=>Z c\/(w.heap.size<=c/\c < w'.heap.size)) [] y v:=by
 refine Ret.mono hr fun v w' hS=>?_
 obtain ⟨Z',R',k1,k2,k3⟩:=hS
 refine ⟨⟨k3.os,k3.tape,k3.output,k3.size,fun c hc _=>k3.block c hc Hv⟩,(S7 k1 k2 hv).mono (fun _ _=>rfl) (fun c hc=>?_) (fun _ _ h=>h)⟩
 rcases hc with hc | hc
 ·rcases k3.z' c hc with h1 | h1 | h1
  ·exact .inl h1
  ·exact absurd h1 Hv
  ·exact .inr ⟨h1,k1.zlt c hc⟩
 ·rcases k3.own_ c hc with h1 | h1
  ·exact absurd h1 Hv
  ·obtain ⟨b,B,r,h2,_,h3,rfl⟩:=hc
   exact .inr ⟨h1,k1.rltL h2 h3⟩
theorem LU {w:World}{Z:Nat->Prop}(hz:∀ c,Z c->c < w.heap.size):HR w Z [] []:=⟨rfl,fun b B hB=>by simp at hB,fun b b' B B' r r' hB=>by simp at hB,hz⟩
/-- A closed call is told by what the interpreter finds. -/
theorem QV {E:Env}(hE:EnvOk E){f:FuncId}{g:List AV->Option AV}(hc:BG E.P f) (hg:∀ xs y,g xs=some y->∃ n x h',HU E (evC E n) none f xs []=some (x,h')/\QA h' x=some y):EnvOk (E.withX f g):=by
 refine hE.withX hc fun xs y h w Z us hz hgi hv=>?_
 obtain ⟨n,x,h',he,hvw⟩:=hg xs y h
 exact Qh (FN hE (code_sound hE n).1 he (LU hz) hv hgi (fun y hy=>by cases hy)) hvw
section
variable {E:Env}{w w':World}{Z Z':Nat->Prop}{R R':List RI}{h h':Hp}{base:Bs}{s s':St}{a:Act}{n:Nat}
/-- What a deferred call must bring about when the function below returns: nothing but new blocks. -/
def OH (P:Program) (g:FuncId) (us:List Value):Prop:=∀ w1,CallsDIn (Fw none) 0 P g us.toArray .returning w1 fun e u' w2=>match e with | .returned _=>settle u' = .returning/\w1.grownBy w2 none | _=>False
theorem SR.grown {D:List Deferred}{b':Bs}(sr:SR E base w Z R s a) (hb:b'.n=base.n) (hg:w.grownBy w' none) (hm:MksD base.n w Z R s.hp D b'.D):SR E b' w' Z R s { a with defers:=D }:=by
 have hz:∀ c,Z c->w'.heap[c]? = w.heap[c]?:=fun c hc=>hg.block c (sr.hh.zlt c hc) (by simp)
 refine ⟨sr.hh.keep hg.size (fun c hc=>hg.block c hc (by simp)),sr.fr.off hz,?_,sr.gl.off hz,by rw [hb]; exact Nat.le_trans sr.bs hg.size⟩
 show MksD b'.n _ _ _ _ _ _
 rw [hb]
 exact MksD.imp (fun r h1 h2 h3=>⟨(hg.block r (IA h1) (by simp)).trans h1,h2,h3⟩) hm
theorem KJ {d:Deferred}{g:FuncId}{fv:_}{cap:Array Value}{us:List Value}(hbD:base.D=[d]) (ht:d.target = .fn fv cap) (hinv:∀ w1,(invoke d.target d.args).run E.P w1 = .ok (.enter g us.toArray) w1) (hcall:OH E.P g us){fn:Func}{S:Value->World->Prop}{xs:List AV}(hres:D4 E.P s.fr s.hp fn.results.toList=some xs)
  (hS:∀ w' u,w.heap.size<=w'.heap.size->w'.os=w.os->w'.tape=w.tape->w'.output=w.output->(∀ c,c < base.n->w'.heap[c]? = w.heap[c]?)->HR w' Z R s.hp->VR w' Z R (Eh xs) u->S u w') :
  ∀ {D:List Deferred} {w1:World},SR E base w1 Z R s { a with defers:=D }->w1.heap.size=w.heap.size->w1.os=w.os->w1.tape=w.tape->w1.output=w.output->(∀ c,c < base.n->w1.heap[c]? = w.heap[c]?) ->
  LeavesInM (Fw none) 0 E.P fn a.tmps (fun e w'=>match e with | .returned v=>S v w' | _=>False) D .returning w1
 | [],w1,sr,hz,ho,ht',hp,hb=>by
  have:=sr.mks
  unfold Mks MksD at this
  rw [hbD] at this
  cases this
 | d'::D,w1,sr,hz,ho,ht',hp,hb=>by
  rcases sr.mks with ⟨Ds',e,hno,hD⟩ | ⟨⟨r,h1,h2,h3,h4,h5,h6⟩,hD⟩
  ·rw [hbD] at e
   injection e with e1 e2
   subst e1 e2
   refine ⟨by simp,.inr ⟨(fun h=>by cases h),fv,cap,g,us.toArray,ht,hinv w1,fun _ _=>trivial,CallsDIn.mono (hcall w1) fun e u' w2 he=>?_⟩⟩
   cases e with
   | returned v =>
    obtain ⟨k1,k2⟩:=he
    dsimp only
    rw [k1]
    refine Eg (base:=⟨base.n,[]⟩) (w:=w2) rfl hres (fun w3 u g1 g2 g3 g4 g5 g6 g7=>hS w3 u ?_ (g2.trans (k2.os.trans ho)) (g3.trans (k2.tape.trans ht')) (g4.trans (k2.output.trans hp)) (fun c hc=>?_) g6 g7) (sr.grown (b':=⟨base.n,[]⟩) rfl k2 hD) rfl rfl rfl rfl (fun _ _=>rfl)
    ·rw [g1,<-hz]; exact k2.size
    ·rw [g5 c hc,k2.block c (Nat.lt_of_lt_of_le hc sr.bs) (by simp)]; exact hb c hc
   | panicked c=>exact he.elim
   | outgrown=>exact he.elim
  ·subst h2
   have hb':∀ c,(Z c\/own R s.hp c)->(w1.putObj r (.deferred none)).heap[c]? = w1.heap[c]?:=fun c hc=>ED (fun e=>by subst e; exact hc.elim h4 h5)
   exact ⟨by simp,.inl ⟨r,w1.putObj r (.deferred none),rfl,run_takeDeferred h3,KJ hbD ht hinv hcall hres hS ⟨sr.hh.off (BM _ _ _) hb',sr.fr.off fun c hc=>hb' c (.inl hc),MksD.put hD h6,sr.gl.off fun c hc=>hb' c (.inl hc),by rw [BM]; exact sr.bs⟩ (by rw [BM]; exact hz) ho ht' hp (fun c hc=>(ED (by omega)).trans (hb c hc))⟩⟩
/-- The frame at the entry. -/
theorem UQ {fn:Func}{args:List AV}{us:List Value}(hh:HR w Z R h) (hv:VRs w Z R args us) (hg:GI E w Z):SR E (.of w.heap.size) w Z R ⟨args.map some++List.replicate (fn.ntmps - args.length) (some (.tp [])),h⟩ { tmps:=us.toArray++Array.replicate (fn.ntmps - us.toArray.size) undef,defers:=[] }:=by
 have hul:us.length=args.length:=hv.len
 refine ⟨hh,⟨by simp [hul],fun t x hx=>?_⟩,rfl,hg,Nat.le_refl _⟩
 have e0:us.toArray++Array.replicate (fn.ntmps - us.toArray.size) undef=(us++List.replicate (fn.ntmps - us.length) undef).toArray:=by simp
 rw [e0,Array.getD_eq_getD_getElem?,List.getElem?_toArray]
 by_cases ht:t < args.length
 ·rw [List.getElem?_append_left (by simpa using ht),List.getElem?_map] at hx
  rw [List.getElem?_append_left (by omega)]
  cases hat:args[t]? with
  | none=>rw [hat] at hx; cases hx
  | some q =>
   rw [hat] at hx
   have hx:=OI (OI hx)
   subst hx
   obtain ⟨u,hu1,hu2⟩:=hv.get hat
   rw [hu1]; exact hu2
 ·rw [List.getElem?_append_right (by simp; omega),List.getElem?_replicate] at hx
  split at hx
  ·next hlt =>
   have hx:=OI (OI hx)
   subst hx
   rw [List.getElem?_append_right (by omega),List.getElem?_replicate,if_pos (by rw [hul]; simpa using hlt)]
   exact .tp (us:=[]) rfl (fun i x u hx=>by simp at hx)
  ·cases hx
/-- A function whose body is: A; B; a closure is made and deferred; the rest. -/
theorem Nk (hE:EnvOk E){f g:FuncId}{fn:Func}{A B rest:Code}{id:Nat}{o1 o2:Oper}{args cs xs:List AV}{s1 s2 s3 s4:St}{ex:Ex}{p:Operand}{tys:Array TypeId}{us:List Value}
  (hf:E.P.funcs[f]? = some fn) (hb:fn.body=some (.seq A (.seq B (.seq (.region id #[o1,o2] false) rest)))) (hdA:By A=true) (hdB:By B=true) (hdR:By rest=true)
  (eA:evC E n ⟨none,false⟩ A ⟨args.map some++List.replicate (fn.ntmps - args.length) (some (.tp [])),h⟩=some (.normal,s1)) (eB:evC E n ⟨none,false⟩ B s1=some (.normal,s2)) (hg1:o1.guard=none) (e1:op1 E (evC E n) ⟨none,false⟩ o1 s2=some s3) (hg2:o2.guard=none) (ho2:o2.op = .defer ⟨.value p,#[],tys⟩) (hd2:o2.dst=none) (hp:opA E s3.fr p=some (.fn g [] cs))
  (eR:evC E n ⟨none,false⟩ rest s3=some (ex,s4)) (hex:ex = .normal\/ex = .ret) (hres:D4 E.P s4.fr s4.hp fn.results.toList=some xs) (hcl:BG E.P g) (hdef:∀ us:List Value,us.length=cs.length->OH E.P g us)
  (hh:HR w Z R h) (hv:VRs w Z R args us) (hg:GI E w Z):NY E f us w Z R h (Eh xs) s4.hp:=by
 have hCS:=(code_sound hE n).1
 refine callsIn_wide.1 (callsIn_of_wp_marks (F:=Fw none) (n:=0) hf hb trivial ?_)
 refine wpIn_seq (hCS _ A _ .normal s1 hdA eA none (.of w.heap.size) _ _ w Z R (fun _=>rfl) (UQ hh hv hg) (fun y hy=>by cases hy) fun a1 w1 Z1 R1 sr1 st1=>?_)
 refine wpIn_seq (hCS _ B _ .normal s2 hdB eB none (.of w.heap.size) _ _ w1 Z1 R1 (fun _=>rfl) sr1 (fun y hy=>by cases hy) fun a2 w2 Z2 R2 sr2 st2=>?_)
 refine wpIn_seq (wpIn_region_list ?_)
 unfold wpListIn
 rw [if_pos (by simp [Region.wanted,hg1])]
 refine lw_wpIn none (op1_lw hE hCS e1 sr2 fun a3 w3 Z3 R3 sr3 st3=>?_)
 unfold wpListIn
 rw [if_pos (by simp [Region.wanted,hg2])]
 have hvf:=opA_vr sr3 p _ hp
 generalize hva:a3.eval p=va at hvf
 cases hvf with
 | fn hl hl' hx hy =>
  rename_i u1 u2
  have e1':u1=[]:=by simpa using hl
  subst e1'
  have hrun:(o2.semAt (Fw none).round a3.eval).run E.P w3 = .ok (.defer ⟨.fn (.func g) u2.toArray,#[]⟩) w3:=by
   show (o2.semAt none a3.eval).run E.P w3=_
   rw [Oper.semAt_none]
   simp [execOp,ho2,resolve,hva,Deferred.ofValue]
  refine ⟨fun _ _=>trivial,?_⟩
  rw [hrun,Oper.uponIn_defer,hd2]
  have sr4:SR E ⟨w.heap.size,[⟨.fn (.func g) u2.toArray,#[]⟩]⟩ w3 Z3 R3 s3 { a3 with defers:=⟨.fn (.func g) u2.toArray,#[]⟩::a3.defers }:=by
   refine ⟨sr3.hh,sr3.fr,.inl ⟨_,rfl,fun r h=>?_,sr3.mks⟩,sr3.gl,sr3.bs⟩
   unfold Oj at h
   injection h with h
   cases h
  refine hCS _ rest _ ex s4 hdR eR none ⟨w.heap.size,[⟨.fn (.func g) u2.toArray,#[]⟩]⟩ _ _ w3 Z3 R3 (fun _=>rfl) sr4 (fun y hy=>by cases hy) fun a5 w5 Z5 R5 sr5 st5=>?_
  have st:=((st1.trans st2).trans st3).trans st5
  have hle:=KJ (base:=⟨w.heap.size,[⟨.fn (.func g) u2.toArray,#[]⟩]⟩) (w:=w5) (a:=a5) (fn:=fn) (g:=g) (us:=u2) rfl rfl (fun w1=>by simp [invoke,hcl.run]) (hdef u2 hl') (S:=fun v w''=>∃ Z' R',HR w'' Z' R' s4.hp/\VR w'' Z' R' (Eh xs) v/\Step w Z R h w'' Z' R' s4.hp) hres (fun w'' u g1 g2 g3 g4 g5 g6 g7=>⟨Z5,R5,g6,g7,⟨g2.trans st.os,g3.trans st.tape,g4.trans st.output,Nat.le_trans st.size g1,fun c hc hn=>(g5 c hc).trans (st.block c hc hn),st.own_,st.z,st.z',st.r⟩⟩) (D:=a5.defers) (w1:=w5) sr5 rfl rfl rfl rfl (fun _ _=>rfl)
  rcases hex with rfl | rfl
  ·exact hle
  ·exact hle
end
/-- What is thrown. -/
def IC (e:Int):Value:= .iface 81 (.agg #[.int .i64 e])
def JV (e:Int):List PanicEntry:=[{ v:=IC e,recovered:=false }]
def SemX (E:Env) (cx:Cx) (c:Code) (s:St) (Q:Ex->St->Prop) (PQ:Int->St->Prop):Prop :=
 ∀ (ro:Option Nat) (base:Bs) (Qm:Exit->Act->World->Prop) (a:Act) (w:World) (Z:Nat->Prop) (R:List RI),(cx.inR=false->ro=none)->SR E base w Z R s a->YI cx w Z R s.hp ->
  (∀ e s' a' w' Z' R',Q e s'->SR E base w' Z' R' s' a'->Step w Z R s.hp w' Z' R' s'.hp->Qm (TL e) a' w') ->
  (∀ e s' a' w' Z' R',PQ e s'->SR E base w' Z' R' s' a'->Step w Z R s.hp w' Z' R' s'.hp->Qm (.panic (JV e)) a' w')->c.wpIn (Fw ro) 0 E.P Qm a w
def SemXN (E:Env) (cx:Cx) (c:Code) (n:Nat) (s:St) (Q:Ex->St->Prop) (PQ:Int->St->Prop):Prop :=
 ∀ (ro:Option Nat) (base:Bs) (Qm:Exit->Act->World->Prop) (a:Act) (w:World) (Z:Nat->Prop) (R:List RI),(cx.inR=false->ro=none)->SR E base w Z R s a->YI cx w Z R s.hp ->
  (∀ e s' a' w' Z' R',Q e s'->SR E base w' Z' R' s' a'->Step w Z R s.hp w' Z' R' s'.hp->Qm (TL e) a' w') ->
  (∀ e s' a' w' Z' R',PQ e s'->SR E base w' Z' R' s' a'->Step w Z R s.hp w' Z' R' s'.hp->Qm (.panic (JV e)) a' w')->Code.roundsIn (Fw ro) 0 E.P c Qm n a w
def RunX (E:Env) (cx:Cx) (ops:Array Oper) (rest:List Oper) (s:St) (K:St->Prop) (PK:Int->St->Prop):Prop :=
 ∀ (ro:Option Nat) (base:Bs) (Q:Exit->Act->World->Prop) (a:Act) (w:World) (Z:Nat->Prop) (R:List RI),(cx.inR=false->ro=none)->SR E base w Z R s a->YI cx w Z R s.hp ->
  (∀ s' a' w' Z' R',K s'->SR E base w' Z' R' s' a'->Step w Z R s.hp w' Z' R' s'.hp->Q .normal a' w') ->
  (∀ e s' a' w' Z' R',PK e s'->SR E base w' Z' R' s' a'->Step w Z R s.hp w' Z' R' s'.hp->Q (.panic (JV e)) a' w')->wpListIn (Fw ro) 0 E.P ops Q rest a w
section
variable {E:Env}{cx:Cx}{ops:Array Oper}{rest rest':List Oper}{s s1:St}{K:St->Prop}{PK PQ PQ':Int->St->Prop}{n m:Nat}{l l':List (Nat×AV)}{hp hp':Hp}{Q Q':Ex->St->Prop}{id:Nat}{c c':Code}
theorem SemX.ofY (h:SemY E cx c s Q):SemX E cx c s Q PQ:=fun ro base Qm a w Z R h1 h2 h3 k _=>h ro base Qm a w Z R h1 h2 h3 k
theorem SemX.skip (q:Q .normal s):SemX E cx .skip s Q PQ:= .ofY (.skip q)
theorem SemX.exit {id:Nat}(q:Q (.exit id) s):SemX E cx (.exit id) s Q PQ:= .ofY (.exit q)
theorem SemX.ret (q:Q .ret s):SemX E cx .ret s Q PQ:= .ofY (.ret q)
theorem SemX.seq (h:SemX E cx c s (fun e s'=>match e with | .normal=>SemX E cx c' s' Q PQ | e=>Q e s') PQ):SemX E cx (.seq c c') s Q PQ:=by
 intro ro base Qm a w Z R h1 h2 h3 k p
 refine wpIn_seq (h ro base _ a w Z R h1 h2 h3 (fun e s' a' w' Z' R' hQ sr st=>?_) fun e s' a' w' Z' R' hP sr st=>p e s' a' w' Z' R' hP sr st)
 cases e with
 | normal=>exact hQ ro base Qm a' w' Z' R' h1 sr (h3.step h2.hh st) (fun e2 s2 a2 w2 Z2 R2 hQ2 sr2 st2=>k e2 s2 a2 w2 Z2 R2 hQ2 sr2 (st.trans st2)) fun e2 s2 a2 w2 Z2 R2 hQ2 sr2 st2=>p e2 s2 a2 w2 Z2 R2 hQ2 sr2 (st.trans st2)
 | exit id=>exact k _ s' a' w' Z' R' hQ sr st
 | ret=>exact k _ s' a' w' Z' R' hQ sr st
theorem SemX.cond_true {x:Operand}(hx:opA E s.fr x=some (.v (.bool true))) (h:SemX E cx c s Q PQ):SemX E cx (.cond x c c') s Q PQ :=
 fun ro base Qm a w Z R h1 h2 h3 k p=>wpIn_cond_true (opA_vr h2 _ _ hx).v_inv (h ro base Qm a w Z R h1 h2 h3 k p)
theorem SemX.cond_false {x:Operand}(hx:opA E s.fr x=some (.v (.bool false))) (h:SemX E cx c' s Q PQ):SemX E cx (.cond x c c') s Q PQ :=
 fun ro base Qm a w Z R h1 h2 h3 k p=>wpIn_cond_false (opA_vr h2 _ _ hx).v_inv (h ro base Qm a w Z R h1 h2 h3 k p)
theorem SemX.cond {x:Operand}{b:Bool}(hx:opA E s.fr x=some (.v (.bool b))) (h:b=true->SemX E cx c s Q PQ) (h':b=false->SemX E cx c' s Q PQ):SemX E cx (.cond x c c') s Q PQ:=by
 cases b with
 | true=>exact .cond_true hx (h rfl)
 | false=>exact .cond_false hx (h' rfl)
theorem SemX.block {id:Nat}(h:SemX E cx c s (fun e s'=>match e with | .exit id'=>if id'=id then Q .normal s' else Q (.exit id') s' | e=>Q e s') PQ):SemX E cx (.block id c) s Q PQ:=by
 intro ro base Qm a w Z R h1 h2 h3 k p
 refine wpIn_block (h ro base _ a w Z R h1 h2 h3 (fun e s' a' w' Z' R' hQ sr st=>?_) fun e s' a' w' Z' R' hP sr st=>p e s' a' w' Z' R' hP sr st)
 cases e with
 | normal=>exact k _ s' a' w' Z' R' hQ sr st
 | exit id' =>
  show if id'=id then Qm .normal a' w' else Qm (.exit id') a' w'
  simp only at hQ
  split at hQ
  ·next h=>rw [if_pos h]; exact k .normal s' a' w' Z' R' hQ sr st
  ·next h=>rw [if_neg h]; exact k _ s' a' w' Z' R' hQ sr st
 | ret=>exact k _ s' a' w' Z' R' hQ sr st
theorem SemX.loop (h:SemXN E cx c n s Q PQ):SemX E cx (.loop c) s Q PQ :=
 fun ro base Qm a w Z R h1 h2 h3 k p=>wpIn_loop_rounds n (h ro base Qm a w Z R h1 h2 h3 k p)
theorem Io (h:SemX E cx c s (fun e s'=>match e with | .normal=>SemXN E cx c n s' Q PQ | e=>Q e s') PQ):SemXN E cx c (n + 1) s Q PQ:=by
 intro ro base Qm a w Z R h1 h2 h3 k p
 show c.wpIn (Fw ro) 0 E.P (Exit.then (Code.roundsIn (Fw ro) 0 E.P c Qm n) Qm) a w
 refine h ro base _ a w Z R h1 h2 h3 (fun e s' a' w' Z' R' hQ sr st=>?_) fun e s' a' w' Z' R' hP sr st=>p e s' a' w' Z' R' hP sr st
 cases e with
 | normal=>exact hQ ro base Qm a' w' Z' R' h1 sr (h3.step h2.hh st) (fun e2 s2 a2 w2 Z2 R2 hQ2 sr2 st2=>k e2 s2 a2 w2 Z2 R2 hQ2 sr2 (st.trans st2)) fun e2 s2 a2 w2 Z2 R2 hQ2 sr2 st2=>p e2 s2 a2 w2 Z2 R2 hQ2 sr2 (st.trans st2)
 | exit id=>exact k _ s' a' w' Z' R' hQ sr st
 | ret=>exact k _ s' a' w' Z' R' hQ sr st
theorem SemX.mono (h:SemX E cx c s Q PQ) (hq:∀ e s,Q e s->Q' e s) (hp:∀ e s,PQ e s->PQ' e s):SemX E cx c s Q' PQ' :=
 fun ro base Qm a w Z R h1 h2 h3 k p=>h ro base Qm a w Z R h1 h2 h3 (fun e s' a' w' Z' R' hQ=>k e s' a' w' Z' R' (hq e s' hQ)) fun e s' a' w' Z' R' hQ=>p e s' a' w' Z' R' (hp e s' hQ)
theorem Hc (hw:WkY E s s1) (h:SemX E cx c s1 Q PQ):SemX E cx c s Q PQ:=by
 intro ro base Qm a w Z R h1 h2 h3 k p
 obtain ⟨Z',R',h2',st⟩:=hw base w Z R a h2
 exact h ro base Qm a w Z' R' h1 h2' (h3.step h2.hh st) (fun e s' a' w' Z2 R2 hQ sr st2=>k e s' a' w' Z2 R2 hQ sr (st.trans st2)) fun e s' a' w' Z2 R2 hQ sr st2=>p e s' a' w' Z2 R2 hQ sr (st.trans st2)
theorem FW (hw:WkY E s s1) (h:SemXN E cx c n s1 Q PQ):SemXN E cx c n s Q PQ:=by
 intro ro base Qm a w Z R h1 h2 h3 k p
 obtain ⟨Z',R',h2',st⟩:=hw base w Z R a h2
 exact h ro base Qm a w Z' R' h1 h2' (h3.step h2.hh st) (fun e s' a' w' Z2 R2 hQ sr st2=>k e s' a' w' Z2 R2 hQ sr (st.trans st2)) fun e s' a' w' Z2 R2 hQ sr st2=>p e s' a' w' Z2 R2 hQ sr (st.trans st2)
theorem SemX.fr (h:Mx l l'=NV l') (k:SemX E cx c ⟨Fr n l',hp⟩ Q PQ):SemX E cx c ⟨Fr n l,hp⟩ Q PQ:=Hc (Nd h) k
theorem Im (h:SemX E cx c s (fun e s'=>∃ s2,WkY E s' s2/\Q e s2) PQ):SemX E cx c s Q PQ:=by
 intro ro base Qm a w Z R h1 h2 h3 k p
 refine h ro base Qm a w Z R h1 h2 h3 (fun e s' a' w' Z' R' hQ sr st=>?_) p
 obtain ⟨s2,hw,hq⟩:=hQ
 obtain ⟨Z2,R2,sr2,st2⟩:=hw base w' Z' R' a' sr
 exact k e s2 a' w' Z2 R2 hq sr2 (st.trans st2)
theorem Fc {e0:Ex}{A:St->Prop}(h:SemX E cx c s (fun e s'=>e=e0/\∃ s2,A s2/\WkY E s' s2) PQ) (q:∀ s2,A s2->Q e0 s2):SemX E cx c s Q PQ:=by
 intro ro base Qm a w Z R h1 h2 h3 k p
 refine h ro base Qm a w Z R h1 h2 h3 (fun e s' a' w' Z' R' hQ sr st=>?_) p
 obtain ⟨rfl,s2,hA,hw⟩:=hQ
 obtain ⟨Z2,R2,sr2,st2⟩:=hw base w' Z' R' a' sr
 exact k e s2 a' w' Z2 R2 (q s2 hA) sr2 (st.trans st2)
theorem In {e0:Ex}{A:St->Prop}(h:SemXN E cx c m s (fun e s'=>e=e0/\∃ s2,A s2/\WkY E s' s2) PQ) (q:∀ s2,A s2->Q e0 s2):SemXN E cx c m s Q PQ:=by
 intro ro base Qm a w Z R h1 h2 h3 k p
 refine h ro base Qm a w Z R h1 h2 h3 (fun e s' a' w' Z' R' hQ sr st=>?_) p
 obtain ⟨rfl,s2,hA,hw⟩:=hQ
 obtain ⟨Z2,R2,sr2,st2⟩:=hw base w' Z' R' a' sr
 exact k e s2 a' w' Z2 R2 (q s2 hA) sr2 (st.trans st2)
theorem SemXN.mono (h:SemXN E cx c m s Q PQ) (hq:∀ e s,Q e s->Q' e s) (hp:∀ e s,PQ e s->PQ' e s):SemXN E cx c m s Q' PQ' :=
 fun ro base Qm a w Z R h1 h2 h3 k p=>h ro base Qm a w Z R h1 h2 h3 (fun e s' a' w' Z' R' hQ=>k e s' a' w' Z' R' (hq e s' hQ)) fun e s' a' w' Z' R' hQ=>p e s' a' w' Z' R' (hp e s' hQ)
theorem SemX.regionL (h:RunL E cx ops ops.toList s fun s'=>Q .normal s'):SemX E cx (.region id ops false) s Q PQ:= .ofY (.regionL h)
theorem Al (h:RunX E cx ops ops.toList s (fun s'=>Q .normal s') PQ):SemX E cx (.region id ops false) s Q PQ:=by
 intro ro base Qm a w Z R h1 h2 h3 k p
 exact wpIn_region_list (h ro base _ a w Z R h1 h2 h3 (fun s' a' w' Z' R' hq sr st=>k .normal s' a' w' Z' R' hq sr st) p)
theorem RunX.done (hr:rest=[]) (k:K s):RunX E cx ops rest s K PK:=by
 subst hr
 exact fun ro base Q a w Z R _ sr _ q _=>q s a w Z R k sr (Step.refl _ _ _ _)
theorem lwl_pre (ro:Option Nat){P:Program}{post:List Oper}{Q:Exit->Act->World->Prop}:∀ {pre:List Oper}{a:Act}{w:World},LwL P ops (fun a w=>wpListIn (Fw ro) 0 P ops Q post a w) pre a w->wpListIn (Fw ro) 0 P ops Q (pre++post) a w
 | [],_,_,h=>h
 | o::pre,a,w,h=>by
  show wpListIn (Fw ro) 0 P ops Q (o::(pre++post)) a w
  unfold wpListIn
  split
  ·next hw=>exact lw_wpIn ro ((lwl_lw hw h).mono' fun a w h=>lwl_pre ro h)
  ·next hw =>
   unfold LwL at h
   rw [if_neg hw] at h
   exact ⟨fun _ _=>trivial,lwl_pre ro h⟩
theorem Rp {pre post:List Oper}(hr:rest=pre++post) (h:RunL E cx ops pre s fun s'=>RunX E cx ops post s' K PK):RunX E cx ops rest s K PK:=by
 subst hr
 intro ro base Q a w Z R h1 h2 h3 k p
 exact lwl_pre ro (h ro base _ a w Z R h1 h2 h3 fun s' a' w' Z' R' hK sr st=>hK ro base Q a' w' Z' R' h1 sr (h3.step h2.hh st) (fun s2 a2 w2 Z2 R2 hQ2 sr2 st2=>k s2 a2 w2 Z2 R2 hQ2 sr2 (st.trans st2)) fun e2 s2 a2 w2 Z2 R2 hQ2 sr2 st2=>p e2 s2 a2 w2 Z2 R2 hQ2 sr2 (st.trans st2))
/-- The first m operations do not panic. -/
theorem RunX.pre (m:Nat) (h:RunL E cx ops (rest.take m) s fun s'=>RunX E cx ops (rest.drop m) s' K PK):RunX E cx ops rest s K PK:=Rp (List.take_append_drop m rest).symm h
theorem QF (hw:WkY E s s1) (h:RunX E cx ops rest s1 K PK):RunX E cx ops rest s K PK:=by
 intro ro base Qm a w Z R h1 h2 h3 k p
 obtain ⟨Z',R',h2',st⟩:=hw base w Z R a h2
 exact h ro base Qm a w Z' R' h1 h2' (h3.step h2.hh st) (fun s' a' w' Z2 R2 hQ sr st2=>k s' a' w' Z2 R2 hQ sr (st.trans st2)) fun e s' a' w' Z2 R2 hQ sr st2=>p e s' a' w' Z2 R2 hQ sr (st.trans st2)
theorem RunX.fr (h:Mx l l'=NV l') (k:RunX E cx ops rest ⟨Fr n l',hp⟩ K PK):RunX E cx ops rest ⟨Fr n l,hp⟩ K PK:=QF (Nd h) k
theorem LC (m:Nat){A:St->Prop}(h:RunL E cx ops (rest.take m) s fun s'=>∃ s1,A s1/\WkY E s' s1) (q:∀ s1,A s1->RunX E cx ops (rest.drop m) s1 K PK):RunX E cx ops rest s K PK :=
 RunX.pre m (RunL.mono h fun _s' hs=>let ⟨s1,hA,hw⟩:=hs; QF hw (q s1 hA))
end
/-- What a call hands back or throws. -/
def RetP (P:Program) (f:FuncId) (args:Array Value) (w:World) (S:Value->World->Prop) (SP:Int->World->Prop):Prop :=
 Calls P f args w fun e w'=>match e with
  | .returned v=>S v w'
  | .panicked c=>∃ e,c=JV e/\SP e w'
  | _=>False
theorem RetP.mono {P:Program}{f:FuncId}{args:Array Value}{w:World}{S S':Value->World->Prop}{SP SP':Int->World->Prop}(h:RetP P f args w S SP) (hs:∀ v w',S v w'->S' v w') (hp:∀ e w',SP e w'->SP' e w'):RetP P f args w S' SP' :=
 Calls.mono h fun e w'=>by
  cases e with
  | returned v=>exact hs v w'
  | panicked c=>exact fun ⟨e,h1,h2⟩=>⟨e,h1,hp e w' h2⟩
  | outgrown=>exact fun h=>h
def erP {β:Type}(er:β->AV):β ⊕ Int->AV ⊕ Int
 | .inl b=> .inl (er b)
 | .inr e=> .inr e
def Ls {α β:Type}(s:Cs α) (F:α->Option (β ⊕ Int)) (er:β->AV) (xs:List AV):Option (AV ⊕ Int):=(s.dec xs).bind fun a=>(F a).map (erP er)
theorem Lt {α β:Type}{s:Cs α}{F:α->Option (β ⊕ Int)}{er:β->AV}{xs:List AV}{a:α}{r:β ⊕ Int}(h:s.dec xs=some a) (hF:F a=some r):Ls s F er xs=some (erP er r):=by
 unfold Ls
 rw [h,OS,hF]; rfl
/-- What is told of a function that may throw. -/
def TC (f:FuncId) (g:List AV->Option (AV ⊕ Int)):Prop:=BG E0.P f/\∀ xs r,g xs=some r->∀ w Z us,(∀ c,Z c->c < w.heap.size)->GI E0 w Z->VRs w Z [] xs us ->
 RetP E0.P f us.toArray w (fun v w'=>∃ x,r = .inl x/\w.grownBy w' none/\VR w' (fun c=>Z c\/(w.heap.size<=c/\c < w'.heap.size)) [] x v) (fun e w'=>r = .inr e/\w.grownBy w' none)
/-- One result behind another, or the first that is thrown. -/
def CE {α β:Type}(x:Option (α ⊕ Int)) (k:α->Option (β ⊕ Int)):Option (β ⊕ Int):=x.bind fun r=>match r with
 | .inl v=>k v
 | .inr e=>some (.inr e)
theorem Ak {α β:Type}{x:Option (α ⊕ Int)}{k:α->Option (β ⊕ Int)}{r:β ⊕ Int}(h:CE x k=some r):(∃ v,x=some (.inl v)/\k v=some r)\/∃ e,x=some (.inr e)/\r = .inr e:=by
 obtain ⟨y,hy,h⟩:=OB h
 cases y with
 | inl v=>exact .inl ⟨v,hy,h⟩
 | inr e=>exact .inr ⟨e,hy,(OI h).symm⟩
section
variable {E:Env}{cx:Cx}{ops:Array Oper}{rest rest':List Oper}{K:St->Prop}{PK:Int->St->Prop}{n:Nat}{l:List (Nat×AV)}{hp:Hp}{α β:Type}{s:Cs α}{F:α->Option (β ⊕ Int)}{er:β->AV}{u:α}{v:β}{fid:FuncId}{w:World}{Z:Nat->Prop}{R:List RI}
theorem Up (hX:TC fid (Ls s F er)) (hh:HR w Z R hp) (hg:GI E0 w Z){xs:List AV}{us:List Value}(hvs:VRs w Z R xs us) (hv:SeesD hp s xs u) (hok:Cq (er v)=true\/xs.all C5=true/\s.dec xs=some u) (hF:F u=some (.inl v)) :
  Ret E0.P fid us.toArray w fun x w'=>∃ Z',HR w' Z' R hp/\VR w' Z' R (er v) x/\Step w Z R hp w' Z' R hp:=by
 by_cases hf:Cq (er v)=true
 ·obtain ⟨ys,hv,hd⟩:=hv
  have hz1:∀ c,(Z c\/own R hp c)->c < w.heap.size:=fun c hc=>hc.elim (hh.zlt c) (fun ⟨b,B,r,h1,_,h3,h4⟩=>h4 ▸ hh.rltL h1 h3)
  have hg1:GI E0 w (fun c=>Z c\/own R hp c):=fun q y hy=>(hg q y hy).mono (fun _ _=>rfl) (fun _ h=> .inl h) (fun _ _ h=>h)
  refine Calls.mono (hX.2 ys _ (Lt hd hF) w _ us hz1 hg1 (hv w Z R us hh hvs)) fun e w' he=>?_
  cases e with
  | returned x =>
   obtain ⟨y,hy,hs,hx⟩:=he
   obtain rfl:er v=y:=Sum.inl.inj hy
   exact ⟨Z,hh.keep hs.size (fun c hc=>hs.block c hc (by simp)),JH hf hx,⟨hs.os,hs.tape,hs.output,hs.size,fun c hc _=>hs.block c hc (by simp),fun _ h=> .inl h,fun _ h=>h,fun _ h=> .inl h,fun _ _ h=>h⟩⟩
  | panicked c=>obtain ⟨e,_,h,_⟩:=he; cases h
  | outgrown=>exact he
 ·obtain ⟨hn,hd⟩:=hok.resolve_left hf
  refine Calls.mono (hX.2 xs _ (Lt hd hF) w Z us hh.zlt hg (K8 hn hvs)) fun e w' he=>?_
  cases e with
  | returned x =>
   obtain ⟨y,hy,hs,hx⟩:=he
   obtain rfl:er v=y:=Sum.inl.inj hy
   obtain ⟨k1,k2⟩:=hh.addZ hs
   exact ⟨_,k1,hx.up,k2⟩
  | panicked c=>obtain ⟨e,_,h,_⟩:=he; cases h
  | outgrown=>exact he
theorem Uo (hX:TC fid (Ls s F er)) (hh:HR w Z R hp) (hg:GI E0 w Z){xs:List AV}{us:List Value}(hvs:VRs w Z R xs us) (hv:SeesD hp s xs u){e0:Int}(hF:F u=some (.inr e0)) :
  Calls E0.P fid us.toArray w fun e w'=>match e with | .panicked c=>c=JV e0/\HR w' Z R hp/\Step w Z R hp w' Z R hp | _=>False:=by
 obtain ⟨ys,hv,hd⟩:=hv
 have hz1:∀ c,(Z c\/own R hp c)->c < w.heap.size:=fun c hc=>hc.elim (hh.zlt c) (fun ⟨b,B,r,h1,_,h3,h4⟩=>h4 ▸ hh.rltL h1 h3)
 have hg1:GI E0 w (fun c=>Z c\/own R hp c):=fun q y hy=>(hg q y hy).mono (fun _ _=>rfl) (fun _ h=> .inl h) (fun _ _ h=>h)
 refine Calls.mono (hX.2 ys _ (Lt hd hF) w _ us hz1 hg1 (hv w Z R us hh hvs)) fun e w' he=>?_
 cases e with
 | returned x=>obtain ⟨y,hy,_⟩:=he; cases hy
 | panicked c =>
  obtain ⟨e,rfl,h,hs⟩:=he
  obtain rfl:e0=e:=Sum.inr.inj h
  exact ⟨rfl,hh.keep hs.size (fun c hc=>hs.block c hc (by simp)),⟨hs.os,hs.tape,hs.output,hs.size,fun c hc _=>hs.block c hc (by simp),fun _ h=> .inl h,fun _ h=>h,fun _ h=> .inl h,fun _ _ h=>h⟩⟩
 | outgrown=>exact he
/-- How a call begins. -/
theorem OQ {E:Env}{base:Bs}{a:Act}{caps xs:List AV}{d:Option Nat}{f:Operand}{args:Array Operand}{tys:Array TypeId}{ty:TypeId}{pos:String}{af:Array Edge}{g:Option (Nat×Bool)}(hcl:BG E.P fid) (sr:SR E base w Z R ⟨Fr n l,hp⟩ a) (hf:opA E (Fr n l) f=some (.fn fid [] caps)) (ha:Fl (opA E (Fr n l)) args.toList=some xs) :
  ∃ us:List Value,VRs w Z R (xs++caps) us/\(execOp a.eval ⟨d,.call ⟨.value f,args,tys⟩,ty,pos,af,g⟩).run E.P w = .ok (.enter fid us.toArray) w:=by
 have hρ:∀ o x,opA E (Fr n l) o=some x->VR w Z R x (a.eval o):=fun o x e=>opA_vr sr o x e
 have hvf:=hρ _ _ hf
 have hva:∃ uc:List Value,a.eval f = .func (.func fid) #[] uc.toArray/\VRs w Z R caps uc:=by
  generalize a.eval f=vf at hvf
  cases hvf with
  | fn hl hl' hx hy =>
   rename_i u1 u2
   have e1:u1=[]:=by simpa using hl
   subst e1
   exact ⟨u2,rfl,hl',hy⟩
 obtain ⟨uc,hva,huc⟩:=hva
 refine ⟨args.toList.map a.eval++uc,(opds_vr hρ ha).append huc,?_⟩
 rw [EI (uf:=[]) (uc:=uc) rfl hva rfl hcl w]
 simp only [List.nil_append]
/-- An operation that enters a function. -/
theorem M9 (ro:Option Nat){P:Program}{o:Oper}{a:Act}{us:List Value}{next:Act->World->Prop}{Q:Exit->Act->World->Prop}(hrun:(execOp a.eval o).run P w = .ok (.enter fid us.toArray) w)
  (h:Calls P fid us.toArray w fun e w'=>match e with | .returned v=>next (a.put o.dst v) w' | .panicked c=>Q (.panic c) a w' | _=>False):o.wpIn (Fw ro) 0 P a w next Q:=by
 refine ⟨fun _ _=>trivial,?_⟩
 rw [show (Fw ro).round=ro from rfl,semAt_run ro hrun (by simp)]
 refine ⟨(fun h=>by cases h),CallsIn.mono (Ec ro _ h) fun e w'' hh=>?_⟩
 cases e with
 | returned v=>exact hh
 | panicked c=>exact hh
 | outgrown=>exact hh.elim
theorem CJ (hP:E.P=E0.P) (hG:E.G=E0.G) (hX:TC fid (Ls s F er)){caps xs:List AV}{d:Nat}{f:Operand}{args:Array Operand}{tys:Array TypeId}{ty:TypeId}{pos:String}{af:Array Edge}{g:Option (Nat×Bool)}(hr:rest=⟨some d,.call ⟨.value f,args,tys⟩,ty,pos,af,g⟩::rest') (hw:A5 ops (Fr n l) ⟨some d,.call ⟨.value f,args,tys⟩,ty,pos,af,g⟩=some true)
  (hf:opA E (Fr n l) f=some (.fn fid [] caps)) (ha:Fl (opA E (Fr n l)) args.toList=some xs) (hv:SeesD hp s (xs++caps) u) (hok:Cq (er v)=true\/(xs++caps).all C5=true/\s.dec (xs++caps)=some u) (hF:F u=some (.inl v)) (kk:RunX E cx ops rest' ⟨Fr n ((d,er v)::l),hp⟩ K PK):RunX E cx ops rest ⟨Fr n l,hp⟩ K PK:=by
 subst hr
 intro ro base Q a w Z R hro sr hy k p
 obtain ⟨us,hus,hrun⟩:=OQ (d:=some d) (tys:=tys) (ty:=ty) (pos:=pos) (af:=af) (g:=g) (hP ▸ hX.1) sr hf ha
 unfold wpListIn
 rw [if_pos (wantedA_eq sr hw)]
 refine M9 ro hrun ?_
 have hret:=Up hX sr.hh (fun q y hy=>sr.gl q y (by rw [hG]; exact hy)) hus hv hok hF
 rw [<-hP] at hret
 refine Calls.mono hret fun e w' he=>?_
 cases e with
 | returned x =>
  obtain ⟨Z',k1,k2,k3⟩:=he
  refine kk ro base Q _ w' Z' R hro ?_ (hy.step sr.hh k3) (fun s' a' w'' Z'' R'' hK sr'' st'=>k s' a' w'' Z'' R'' hK sr'' (k3.trans st')) fun e s' a' w'' Z'' R'' hK sr'' st'=>p e s' a' w'' Z'' R'' hK sr'' (k3.trans st')
  have:=(sr.step k1 k3).put (d:=some d) k2
  rwa [CF] at this
 | panicked c=>exact he.elim
 | outgrown=>exact he.elim
theorem CI (hP:E.P=E0.P) (hG:E.G=E0.G) (hX:TC fid (Ls s F er)){caps xs:List AV}{d:Nat}{f:Operand}{args:Array Operand}{tys:Array TypeId}{ty:TypeId}{pos:String}{af:Array Edge}{g:Option (Nat×Bool)}{e0:Int}(hr:rest=⟨some d,.call ⟨.value f,args,tys⟩,ty,pos,af,g⟩::rest') (hw:A5 ops (Fr n l) ⟨some d,.call ⟨.value f,args,tys⟩,ty,pos,af,g⟩=some true)
  (hf:opA E (Fr n l) f=some (.fn fid [] caps)) (ha:Fl (opA E (Fr n l)) args.toList=some xs) (hv:SeesD hp s (xs++caps) u) (hF:F u=some (.inr e0)) (kk:PK e0 ⟨Fr n l,hp⟩):RunX E cx ops rest ⟨Fr n l,hp⟩ K PK:=by
 subst hr
 intro ro base Q a w Z R hro sr hy k p
 obtain ⟨us,hus,hrun⟩:=OQ (d:=some d) (tys:=tys) (ty:=ty) (pos:=pos) (af:=af) (g:=g) (hP ▸ hX.1) sr hf ha
 unfold wpListIn
 rw [if_pos (wantedA_eq sr hw)]
 refine M9 ro hrun ?_
 have hret:=Uo hX sr.hh (fun q y hy=>sr.gl q y (by rw [hG]; exact hy)) hus hv hF
 rw [<-hP] at hret
 refine Calls.mono hret fun e w' he=>?_
 cases e with
 | returned x=>exact he.elim
 | panicked c =>
  obtain ⟨rfl,k1,k3⟩:=he
  exact p e0 ⟨Fr n l,hp⟩ a w' Z R kk (sr.step k1 k3) k3
 | outgrown=>exact he.elim
end
/-- A panic leaves a function that defers nothing. -/
theorem MU {E:Env}{base:Bs}(hbD:base.D=[]){w:World}{Z:Nat->Prop}{R:List RI}{s:St}{a:Act}{fn:Func}{chain:List PanicEntry}{RR:Ending->World->Prop}
  (hS:∀ w',w.heap.size<=w'.heap.size->w'.os=w.os->w'.tape=w.tape->w'.output=w.output->(∀ c,c < base.n->w'.heap[c]? = w.heap[c]?)->HR w' Z R s.hp->RR (.panicked chain) w') :
  ∀ {D:List Deferred} {w1:World},SR E base w1 Z R s { a with defers:=D }->w1.heap.size=w.heap.size->w1.os=w.os->w1.tape=w.tape->w1.output=w.output->(∀ c,c < base.n->w1.heap[c]? = w.heap[c]?) ->
  LeavesInM (Fw none) 0 E.P fn a.tmps RR D (.panicking chain) w1
 | [],w1,sr,hz,ho,ht',hp,hb=>hS w1 (Nat.le_of_eq hz.symm) ho ht' hp hb sr.hh
 | d'::D,w1,sr,hz,ho,ht',hp,hb=>by
  rcases sr.mks with ⟨Ds',e,_,_⟩ | ⟨⟨r,h1,h2,h3,h4,h5,h6⟩,hD⟩
  ·rw [hbD] at e; cases e
  ·subst h2
   have hb':∀ c,(Z c\/own R s.hp c)->(w1.putObj r (.deferred none)).heap[c]? = w1.heap[c]?:=fun c hc=>ED (fun e=>by subst e; exact hc.elim h4 h5)
   exact ⟨by simp,.inl ⟨r,w1.putObj r (.deferred none),rfl,run_takeDeferred h3,MU hbD hS ⟨sr.hh.off (BM _ _ _) hb',sr.fr.off fun c hc=>hb' c (.inl hc),MksD.put hD h6,sr.gl.off fun c hc=>hb' c (.inl hc),by rw [BM]; exact sr.bs⟩ (by rw [BM]; exact hz) ho ht' hp (fun c hc=>(ED (by omega)).trans (hb c hc))⟩⟩
theorem G5 {F:Fence}{n:Nat}{P:Program}{fn:Func}{tmps:Array Value}{R R':Ending->World->Prop}(hR:∀ e w,R e w->R' e w):∀ {D:List Deferred}{u:FrameMode}{w:World},LeavesInM F n P fn tmps R D u w->LeavesInM F n P fn tmps R' D u w
 | [],u,w,h=>by
  cases u with
  | returning=>obtain ⟨v,h1,h2⟩:=h; exact ⟨v,h1,hR _ _ h2⟩
  | panicking c=>exact hR _ _ h
  | run=>exact h.elim
 | d::ds,u,w,⟨h1,h2⟩=>⟨h1,h2.elim (fun ⟨r,w',a,b,c⟩=> .inl ⟨r,w',a,b,G5 hR c⟩) fun ⟨hn,fv,cap,f,args,a,b,c,hcall⟩=> .inr ⟨hn,fv,cap,f,args,a,b,c,CallsDIn.mono hcall fun e u' w' he=>by
   cases e with
   | returned v=>exact G5 hR he
   | panicked c=>exact G5 hR he
   | outgrown=>exact hR _ _ he⟩⟩
theorem Pc {e:Env}{f:FuncId}{fn:Func}{c:Code}(hff:e.P.funcs[f]? = some fn) (hc:fn.body=some c){args:List AV}(hle:args.length<=fn.ntmps){hp:Hp}{Out:AV->Hp->Prop}{PQ:Int->St->Prop}
  (sem:SemX e ⟨none,false⟩ c ⟨Fr fn.ntmps (BB 0 args),hp⟩ (fun x s'=>(x = .normal\/x = .ret)/\∃ ys,D4 e.P s'.fr s'.hp fn.results.toList=some ys/\Out (Eh ys) s'.hp) PQ)
  {w:World} {Z:Nat->Prop} {R:List RI} {us:List Value} (hh:HR w Z R hp) (hv:VRs w Z R args us) (hg:GI e w Z) :
  RetP e.P f us.toArray w (fun v w'=>∃ Z' R' x h',Out x h'/\HR w' Z' R' h'/\VR w' Z' R' x v/\Step w Z R hp w' Z' R' h') fun q w'=>∃ Z' R' s',PQ q s'/\HR w' Z' R' s'.hp/\Step w Z R hp w' Z' R' s'.hp:=by
 refine callsIn_wide.1 (callsIn_of_wp_marks (F:=Fw none) (n:=0) hff hc trivial ?_)
 have hul:us.length=args.length:=hv.len
 have hsr:SR e (.of w.heap.size) w Z R ⟨Fr fn.ntmps (BB 0 args),hp⟩ { tmps:=us.toArray++Array.replicate (fn.ntmps - us.toArray.size) undef,defers:=[] }:=by
  refine ⟨hh,⟨by rw [D1]; simp; omega,fun t x hx=>?_⟩,rfl,hg,Nat.le_refl _⟩
  rw [Dv] at hx
  split at hx
  ·injection hx with hx
   obtain ⟨j,h1,h2⟩:=IZ _ 0 t x hx
   rw [Nat.zero_add] at h1
   subst h1
   obtain ⟨u,hu1,hu2⟩:=hv.get h2
   have e0:us.toArray++Array.replicate (fn.ntmps - us.toArray.size) undef=(us++List.replicate (fn.ntmps - us.length) undef).toArray:=by simp
   rw [e0,Array.getD_eq_getD_getElem?,List.getElem?_toArray,List.getElem?_append_left (List.getElem?_eq_some_iff.1 hu1).1,hu1]
   exact hu2
  ·cases hx
 refine sem none (.of w.heap.size) _ _ w Z R (fun _=>rfl) hsr (fun y hy=>by cases hy) (fun x s' a' w' Z' R' hQ sr' st=>?_) fun q s' a' w' Z' R' hQ sr' st=>?_
 ·obtain ⟨hex,ys,hys,hO⟩:=hQ
  have hl:=Eg (base:= .of w.heap.size) rfl (E:=e) (w:=w') (a:=a') (fn:=fn) (S:=fun v w''=>∃ Z' R' x h',Out x h'/\HR w'' Z' R' h'/\VR w'' Z' R' x v/\Step w Z R hp w'' Z' R' h') hys (fun w'' u g1 g2 g3 g4 g5 g6 g7=>⟨Z',R',_,_,hO,g6,g7,⟨g2.trans st.os,g3.trans st.tape,g4.trans st.output,by rw [g1]; exact st.size,fun c hc hn=>(g5 c hc).trans (st.block c hc hn),st.own_,st.z,st.z',st.r⟩⟩) (D:=a'.defers) (w1:=w') sr' rfl rfl rfl rfl (fun _ _=>rfl)
  have hl':LeavesInM (Fw none) 0 e.P fn a'.tmps (fun e w'=>match e with
   | .returned v=>∃ Z' R' x h',Out x h'/\HR w' Z' R' h'/\VR w' Z' R' x v/\Step w Z R hp w' Z' R' h'
   | .panicked c=>∃ e,c=JV e/\∃ Z' R' s',PQ e s'/\HR w' Z' R' s'.hp/\Step w Z R hp w' Z' R' s'.hp
   | _=>False) a'.defers .returning w':=G5 (fun e w'' he=>by
   cases e with
   | returned v=>exact he
   | panicked c=>exact he.elim
   | outgrown=>exact he.elim) hl
  rcases hex with rfl | rfl
  ·exact hl'
  ·exact hl'
 ·exact MU (base:= .of w.heap.size) rfl (w:=w') (a:=a') (fn:=fn) (fun w'' g1 g2 g3 g4 g5 g6=>⟨q,rfl,Z',R',s',hQ,g6,⟨g2.trans st.os,g3.trans st.tape,g4.trans st.output,Nat.le_trans st.size g1,fun c hc hn=>(g5 c hc).trans (st.block c hc hn),st.own_,st.z,st.z',st.r⟩⟩) (D:=a'.defers) (w1:=w') sr' rfl rfl rfl rfl (fun _ _=>rfl)
/-- A function of frozen things that may throw, told. -/
theorem Il {f:FuncId}{fn:Func}{c:Code}(hf:E0.P.funcs[f]? = some fn) (hc:fn.body=some c) (hcall:BG E0.P f){α β:Type}(s:Cs α) (F:α->Option (β ⊕ Int)) (er:β->AV) (hle:∀ a,(s.enc a).length<=fn.ntmps) (hfl:∀ b,UI (er b)=true)
  (sem:∀ a r,F a=some r->SemX E0 ⟨none,false⟩ c ⟨Fr fn.ntmps (BB 0 (s.enc a)),[]⟩ (fun x s'=>∃ b,r = .inl b/\(x = .normal\/x = .ret)/\∃ ys,D4 E0.P s'.fr s'.hp fn.results.toList=some ys/\Eh ys=er b) fun e _=>r = .inr e):TC f (Ls s F er):=by
 refine ⟨hcall,fun xs r h w Z us hz hg hv=>?_⟩
 unfold Ls at h
 obtain ⟨a,ha,h⟩:=OB h
 obtain ⟨q,hq,rfl⟩:=Option.map_eq_some_iff.1 h
 have hv':=s.vr ha hv
 refine RetP.mono (Pc hf hc (hle a) (Out:=fun x _=>∃ b,q = .inl b/\x=er b) (SemX.mono (sem a q hq) (fun x s' ⟨b,h1,h2,ys,h3,h4⟩=>⟨h2,ys,h3,b,h1,h4⟩) fun _ _ h=>h) (LU hz) hv' hg) (fun v w' hS=>?_) fun e w' hS=>?_
 ·obtain ⟨Z',R',x,h',⟨b,rfl,rfl⟩,h1,h2,st⟩:=hS
  refine ⟨er b,rfl,⟨st.os,st.tape,st.output,st.size,fun c hc _=>st.block c hc Hv⟩,(M3 (hfl b) h2).mono (fun _ _=>rfl) (fun c hc=>?_) (fun _ _ h=>h)⟩
  rcases st.z' c hc with h | h | h
  ·exact .inl h
  ·exact absurd h Hv
  ·exact .inr ⟨h,h1.zlt c hc⟩
 ·obtain ⟨Z',R',s',h0,h1,st⟩:=hS
  subst h0
  exact ⟨rfl,⟨st.os,st.tape,st.output,st.size,fun c hc _=>st.block c hc Hv⟩⟩
section
variable {E:Env}{cx:Cx}{ops:Array Oper}{rest rest':List Oper}{K:St->Prop}{PK:Int->St->Prop}{n:Nat}{l:List (Nat×AV)}{hp:Hp}{fid:FuncId}
/-- A call that may throw, gone through in the caller's blocks. -/
theorem Bg (hP:E.P=E0.P) (hG:E.G=E0.G){d:Nat}{f:Operand}{args:Array Operand}{tys:Array TypeId}{ty:TypeId}{pos:String}{af:Array Edge}{g:Option (Nat×Bool)}{caps xs:List AV}{fn:Func}{c:Code}{Out:AV->Hp->Prop}{PQ:Int->St->Prop}(hr:rest=⟨some d,.call ⟨.value f,args,tys⟩,ty,pos,af,g⟩::rest') (hw:A5 ops (Fr n l) ⟨some d,.call ⟨.value f,args,tys⟩,ty,pos,af,g⟩=some true)
  (hf:opA E (Fr n l) f=some (.fn fid [] caps)) (ha:Fl (opA E (Fr n l)) args.toList=some xs) (hff:E0.P.funcs[fid]? = some fn) (hcl:BG E0.P fid) (hc:fn.body=some c) (hle:(xs++caps).length<=fn.ntmps)
  (sem:SemX E0 ⟨none,false⟩ c ⟨Fr fn.ntmps (BB 0 (xs++caps)),hp⟩ (fun x s'=>(x = .normal\/x = .ret)/\∃ ys,D4 E0.P s'.fr s'.hp fn.results.toList=some ys/\Out (Eh ys) s'.hp) PQ)
  (kp:∀ e s',PQ e s'->PK e ⟨Fr n l,s'.hp⟩) (k:∀ x h',Out x h'->RunX E cx ops rest' ⟨Fr n ((d,x)::l),h'⟩ K PK):RunX E cx ops rest ⟨Fr n l,hp⟩ K PK:=by
 obtain ⟨P,fns,G,X,I⟩:=E
 simp only at hP hG
 subst hP hG
 subst hr
 intro ro base Q a w Z R hro sr hy q p
 obtain ⟨us,hus,hrun⟩:=OQ (E:=⟨E0.P,fns,E0.G,X,I⟩) (d:=some d) (tys:=tys) (ty:=ty) (pos:=pos) (af:=af) (g:=g) hcl sr hf ha
 unfold wpListIn
 rw [if_pos (wantedA_eq sr hw)]
 refine M9 ro hrun (Calls.mono (Pc hff hc hle sem sr.hh hus sr.gl) fun e w' he=>?_)
 cases e with
 | returned v =>
  obtain ⟨Z',R',x,h',hO,h1,h2,st⟩:=he
  have sr':=(sr.step h1 st).put (d:=some d) h2
  rw [show I1 (⟨Fr n l,h'⟩:St).fr (some d) x=Fr n ((d,x)::l) from CF n l d _] at sr'
  exact k x h' hO ro base Q _ w' Z' R' hro sr' (hy.step sr.hh st) (fun s' a' w'' Z'' R'' hK sr'' st'=>q s' a' w'' Z'' R'' hK sr'' (st.trans st')) fun e s' a' w'' Z'' R'' hK sr'' st'=>p e s' a' w'' Z'' R'' hK sr'' (st.trans st')
 | panicked c =>
  obtain ⟨e,rfl,Z',R',s',hQ,h1,st⟩:=he
  exact p e ⟨Fr n l,s'.hp⟩ a w' Z' R' (kp e s' hQ) (sr.step h1 st) st
 | outgrown=>exact he.elim
end
theorem SemX.inl {β:Type}{E:Env}{cx:Cx}{c:Code}{s:St}{PQ:Int->St->Prop}{r:β}{P:β->Ex->St->Prop}(h:SemX E cx c s (fun e s=>∃ q,(Sum.inl r:β ⊕ Int) = .inl q/\P q e s) fun e _=>(Sum.inl r:β ⊕ Int) = .inr e):SemX E cx c s (P r) PQ :=
 SemX.mono h (fun _ _ ⟨_,h1,h2⟩=>Sum.inl.inj h1 ▸ h2) fun _ _ h=>(by cases h)
theorem SemXN.inl {β:Type}{E:Env}{cx:Cx}{c:Code}{s:St}{n:Nat}{PQ:Int->St->Prop}{r:β}{P:β->Ex->St->Prop}(h:SemXN E cx c n s (fun e s=>∃ q,(Sum.inl r:β ⊕ Int) = .inl q/\P q e s) fun e _=>(Sum.inl r:β ⊕ Int) = .inr e):SemXN E cx c n s (P r) PQ :=
 SemXN.mono h (fun _ _ ⟨_,h1,h2⟩=>Sum.inl.inj h1 ▸ h2) fun _ _ h=>(by cases h)
theorem SemX.inr {β:Type}{E:Env}{cx:Cx}{c:Code}{s:St}{Q:Ex->St->Prop}{PQ:Int->St->Prop}{e0:Int}{P:β->Ex->St->Prop}(h:SemX E cx c s (fun e s=>∃ q,(Sum.inr e0:β ⊕ Int) = .inl q/\P q e s) fun e _=>(Sum.inr e0:β ⊕ Int) = .inr e) (hp:∀ s,PQ e0 s):SemX E cx c s Q PQ :=
 SemX.mono h (fun _ _ ⟨_,h1,_⟩=>(by cases h1)) fun _ s h=>Sum.inr.inj h ▸ hp s
theorem SemXN.inr {β:Type}{E:Env}{cx:Cx}{c:Code}{s:St}{n:Nat}{Q:Ex->St->Prop}{PQ:Int->St->Prop}{e0:Int}{P:β->Ex->St->Prop}(h:SemXN E cx c n s (fun e s=>∃ q,(Sum.inr e0:β ⊕ Int) = .inl q/\P q e s) fun e _=>(Sum.inr e0:β ⊕ Int) = .inr e) (hp:∀ s,PQ e0 s):SemXN E cx c n s Q PQ :=
 SemXN.mono h (fun _ _ ⟨_,h1,_⟩=>(by cases h1)) fun _ s h=>Sum.inr.inj h ▸ hp s
/-- A result that lies in a cell. -/
theorem Sr {P:Program}{fr:List (Option AV)}{h:Hp}{a m k:Nat}{t t0:TypeId}{g:Bool}{p x y:AV}{L:List Asn}(hfr:fr[a]? = some (some p)) (ht:T h (cel p k t0 x::L)) (hm:Bq P t=some m) (hg:Ow P t=some g) (he:ST x 0 m g=some y):D4 P fr h [.cell a t]=some [y]:=by
 simp [D4,hfr,FI ht hm hg he]
/-- What a cell of its own holds, told in another way. -/
theorem Iq {E:Env}{hp:Hp}{p x y:AV}{k:Nat}{t:TypeId}{L:List Asn}(ht:T hp (cel p k t x::L)) (hu:UpV x y):∃ hp',(∀ (n:Nat) (l:List (Nat×AV)),WkY E ⟨Fr n l,hp⟩ ⟨Fr n l,hp'⟩)/\T hp' (cel p k t y::L):=by
 obtain ⟨F,⟨b,rfl,rfl,hb⟩,hn',hk,_⟩:=ht.act
 have hlt:=G4 hb
 have same:∀ c,c≠b->(hp.set b (some ⟨k,t,[y],false⟩))[c]? = hp[c]?:=fun c hc=>by rw [List.getElem?_set,if_neg (Ne.symm hc)]
 have hget:∀ (c:Nat) (B:Blk),(hp.set b (some ⟨k,t,[y],false⟩))[c]? = some (some B)->∃ B0,hp[c]? = some (some B0)/\B0.fz=B.fz/\B0.k=B.k/\B0.t=B.t/\B.es.length=B0.es.length/\∀ (i:Nat) (x':AV),B.es[i]? = some x'->∃ x0,B0.es[i]? = some x0/\UpV x0 x':=fun c B hB=>by
  by_cases hc:c=b
  ·subst hc
   rw [List.getElem?_set,if_pos rfl,if_pos hlt] at hB
   obtain rfl:=OI (OI hB)
   refine ⟨_,hb,rfl,rfl,rfl,rfl,fun i x' hx=>?_⟩
   match i with
   | 0=>simp at hx; subst hx; exact ⟨_,rfl,hu⟩
   | i + 1=>simp at hx
  ·rw [same c hc] at hB
   exact ⟨B,hB,rfl,rfl,rfl,rfl,fun i x' hx=>⟨x',hx,UpV.refl⟩⟩
 have hown:∀ (R:List RI) (c:Nat),own R (hp.set b (some ⟨k,t,[y],false⟩)) c->own R hp c:=fun R c ⟨b',B,r,h1,h2,h3,h4⟩=>by
  obtain ⟨B0,q1,q2,_⟩:=hget b' B h1
  exact ⟨b',B0,r,q1,q2.trans h2,h3,h4⟩
 refine ⟨hp.set b (some ⟨k,t,[y],false⟩),fun n l base w Z R a sr=>⟨Z,R,⟨⟨by simp [sr.hh.len],fun c B hB=>?_,fun c c' B B' r r' h1 f1 h2 f2 g1 g2 e=>?_,sr.hh.zlt⟩,sr.fr,sr.mks.imp fun q h3 h4 h5=>⟨h3,h4,fun ho=>h5 (hown R q ho)⟩,sr.gl,sr.bs⟩,⟨rfl,rfl,rfl,Nat.le_refl _,fun _ _ _=>rfl,fun c hc=> .inl (hown R c hc),fun _ h=>h,fun _ h=> .inl h,fun _ _ h=>h⟩⟩,hk _ _ [b] ⟨b,rfl,rfl,by simp [hlt]⟩ (by simp) (fun c hc _=>same c (fun e=>hc (by simp [e]))) (fun c hc=> .inl hc)⟩
 ·obtain ⟨B0,q1,q2,q3,q4,q5,q6⟩:=hget c B hB
  obtain ⟨r,arr,us,g1,g2,g3,g4,g5,g6,g7,g8,g9,g10⟩:=sr.hh.blk c B0 q1
  rw [q3] at g2 g4 g10
  rw [q4] at g3
  rw [q2] at g7 g8
  refine ⟨r,arr,us,g1,g2,g3,g4,by rw [q5]; exact g5,g6,g7,g8,⟨by rw [g9.len,q5],fun i x' u hx hu=>?_⟩,g10⟩
  obtain ⟨x0,r1,r2⟩:=q6 i x' hx
  exact r2 _ _ _ _ (g9.at_ i x0 u r1 hu)
 ·obtain ⟨B0,q1,q2,_⟩:=hget c B h1
  obtain ⟨B0',q1',q2',_⟩:=hget c' B' h2
  exact sr.hh.inj c c' B0 B0' r r' q1 (q2.trans f1) q1' (q2'.trans f2) g1 g2 e
/-- A slot that the state does not tell is written. -/
theorem SR.hide {E:Env}{base:Bs}{w:World}{Z:Nat->Prop}{R:List RI}{n d:Nat}{l:List (Nat×AV)}{hp:Hp}{a:Act}{u:Value}(sr:SR E base w Z R ⟨Fr n l,hp⟩ a) (hd:lk l d=none):SR E base w Z R ⟨Fr n l,hp⟩ (a.put (some d) u):=by
 refine ⟨sr.hh,⟨by simp [Act.put,sr.fr.1],fun t y hy=>?_⟩,sr.mks,sr.gl,sr.bs⟩
 have hne:t≠d:=fun e=>by
  subst e
  rw [Dv] at hy
  split at hy
  ·injection hy with hy; rw [hd] at hy; cases hy
  ·cases hy
 have:=sr.fr.2 t y hy
 simp only [Act.put,Array.getD_eq_getD_getElem?,Array.getElem?_setIfInBounds_ne (Ne.symm hne)] at this ⊢
 exact this
/-- As RunDT; beside the state, one that tells more, by memory that was made in the region. -/
def RunDG (E:Env) (cx:Cx) (ops:Array Oper) (T n0 k:Nat) (rest:List Oper) (n:Nat) (l lg:List (Nat×AV)) (hp:Hp) (K:St->Prop):Prop :=
 ∀ (ro:Option Nat) (base:Bs) (Q:Act->World->Prop) (w0:World) (Z Zg:Nat->Prop) (R0:List RI) (h0:Hp) (a:Act) (w:World) (R:List RI),(cx.inR=false->ro=none)->YI cx w0 Z R0 h0->HR w0 Z R0 h0->n0=h0.length->SR E base w Z R ⟨Fr n l,hp⟩ a->SR E base w Zg R ⟨Fr n lg,hp⟩ a->(∀ c,Z c->Zg c)->w0.grownBy w none->Step w0 Z R0 h0 w Z R hp->(∀ (b:Nat) (B:Option Blk),h0[b]? = some B->hp[b]? = some B)->(∀ j,rest[j]? = ops[k + j]?) ->
  (∀ s' a' w' Z' R',K s'->SR E base w' Z' R' s' a'->Step w0 Z R0 h0 w' Z' R' s'.hp->Q a' w')->Fk E.P ops (fun w'=>w0.grownBy w' none) (CM ops T) T Q k rest a w
section
variable {E:Env}{cx:Cx}{ops:Array Oper}{rest rest':List Oper}{K:St->Prop}{n n0 k T d:Nat}{l lg:List (Nat×AV)}{hp:Hp}{α β:Type}{s:Cs α}{F:α->Option β}{er:β->AV}{u:α}{v:β}{fid:FuncId}
/-- An operation that reads. -/
theorem RunDG.q {o:Oper}{x:AV}(hr:rest=o::rest') (hk:Nat.blt k T=true) (hq:isQ o.op=true) (hw:A5 ops (Fr n l) o=some true) (hd:o.dst=some d) (h:DW E.P (opA E (Fr n l)) hp o.op=some x) (hl:SY n0 (opA E (Fr n l)) o.op=true) (kk:RunDG E cx ops T n0 (k + 1) rest' n ((d,x)::l) ((d,x)::lg) hp K):RunDG E cx ops T n0 k rest n l lg hp K:=by
 subst hr
 intro ro base Q w0 Z Zg R0 h0 a w R hro hy hh0 hn0 sr sg hz hgr st hpre hops q
 refine ⟨fun _=>hgr,?_⟩
 rw [if_pos (wantedA_eq sr hw),Pa hops hk hq,if_neg (by simp)]
 have hρ:∀ o x,opA E (Fr n l) o=some x->VR w Z R x (a.eval o):=fun o x e=>opA_vr sr o x e
 obtain ⟨u,hu,hrun⟩:=evOpQ_sound sr.hh hρ h
 have hquiet:∃ u,VR w Z R x u/\QuietAt E.P (Cf (fun w'=>w0.grownBy w' none) o) o u a:=by
  cases hl':Mu o.op with
  | false=>exact ⟨u,hu,fun w' _=>hrun w' fun h=>by rw [hl'] at h; cases h⟩
  | true =>
   obtain ⟨u1,hu1,hq1⟩:=FR hh0 sr hgr st hpre hl' (by rw [<-hn0]; exact hl) h
   exact ⟨u1,hu1,hq1.up (IW hl')⟩
 obtain ⟨u,hu,hquiet⟩:=hquiet
 refine ⟨u,hquiet,?_⟩
 have sr':=sr.put (d:=o.dst) hu
 have sg':=sg.put (d:=o.dst) (hu.mono (fun _ _=>rfl) hz (fun _ _ h=>h))
 rw [hd,show I1 (⟨Fr n l,hp⟩:St).fr (some d) x=Fr n ((d,x)::l) from CF n l d _] at sr'
 rw [hd,show I1 (⟨Fr n lg,hp⟩:St).fr (some d) x=Fr n ((d,x)::lg) from CF n lg d _] at sg'
 rw [hd]
 exact kk ro base Q w0 Z Zg R0 h0 _ w R hro hy hh0 hn0 sr' sg' hz hgr st hpre (Ol hops) q
end
section
variable {E:Env}{cx:Cx}{ops:Array Oper}{rest:List Oper}{K:St->Prop}{PK:Int->St->Prop}{n:Nat}{l:List (Nat×AV)}{hp:Hp}
theorem Rq (hT:E.P=E0.P){d:Nat}{x:Operand}{t1 t2:TypeId}{p1 p2:String}{a1 a2:Array Edge}{e:Int}(hr:rest=[⟨some d,.makeInterface 81 x,t1,p1,a1,none⟩,⟨none,.panic (.tmp d),t2,p2,a2,none⟩]) (hd:d < n) (hl:lk l d=none) (hx:opA E (Fr n l) x=some (.ag [.v (.int .i64 e)])) (kk:PK e ⟨Fr n l,hp⟩):RunX E cx ops rest ⟨Fr n l,hp⟩ K PK:=by
 subst hr
 intro ro base Q a w Z R hro sr hy k p
 have hv:=opA_vr sr x _ hx
 have hva:a.eval x = .agg #[.int .i64 e]:=by
  generalize a.eval x=u at hv
  cases hv with
  | ag h1 h2 h3 =>
   rename_i us
   match us,h1 with
   | [u],_ =>
    have:=(h3 0 _ u rfl rfl).v_inv
    rw [this]
 have hcon:E.P.concrete 81=true:=by rw [hT]; kernel_rfl
 unfold wpListIn
 rw [if_pos (by simp [Region.wanted])]
 have h1:(execOp a.eval ⟨some d,.makeInterface 81 x,t1,p1,a1,none⟩).run E.P w = .ok (.value (IC e)) w:=by
  simp [execOp,hva,run_makeInterface _ _ _ hcon,IC,Result.andThen]
 refine ⟨fun _ _=>trivial,?_⟩
 rw [show (Fw ro).round=ro from rfl,semAt_run ro h1 (by simp)]
 show wpListIn (Fw ro) 0 E.P ops Q [⟨none,.panic (.tmp d),t2,p2,a2,none⟩] (a.put (some d) (IC e)) w
 unfold wpListIn
 rw [if_pos (by simp [Region.wanted])]
 have hsz:d < a.tmps.size:=by have:=sr.fr.1; rw [D1] at this; omega
 have he:(a.put (some d) (IC e)).eval (.tmp d)=IC e:=by
  simp [Act.eval,Act.put,hsz]
 have h2:(execOp (a.put (some d) (IC e)).eval ⟨none,.panic (.tmp d),t2,p2,a2,none⟩).run E.P w = .halt (.panic (IC e)) w:=by
  simp only [execOp,he]
  rfl
 refine ⟨fun _ _=>trivial,?_⟩
 have h3:((⟨none,.panic (.tmp d),t2,p2,a2,none⟩:Oper).semAt (Fw ro).round (a.put (some d) (IC e)).eval).run E.P w = .halt (.panic (IC e)) w:=by
  rw [<-h2]
  cases ro <;> rfl
 rw [h3]
 exact p e ⟨Fr n l,hp⟩ _ w Z R kk (sr.hide hl) (Step.refl _ _ _ _)
end
/- trestle/court.must -/
noncomputable def Mn:Code:=BX Tryz.f34
def BJ (x0:Bool) (x1:Int):Option (Unit ⊕ Int):=if x0=true then some (.inl ()) else some (.inr x1)
def Jg:Cs (Bool×Int×Unit):=csC cdB (csC cdI csN)
def Jj (_:Unit):AV:= .tp []
def N3:List AV->Option (AV ⊕ Int):=Ls Jg (fun a=>BJ a.1 a.2.1) Jj
theorem Ao:TC 34 N3:=by
 refine Il Tryz.func34 (c:=Mn) ?h2 ⟨Tryz.call34⟩ Jg (fun a=>BJ a.1 a.2.1) Jj (fun a=>(by show 2<=9; decide)) (fun _=>rfl) fun a r h=>?_
 case h2=>kernel_rfl
 obtain ⟨b,e,⟨⟩⟩:=a
 refine Hc (s1:=⟨Fr 9 [(0,.v (.bool b)),(1,.v (.int .i64 e))],[]⟩) (Nd kr) ?_
 refine SemX.seq (SemX.regionL (El AC [(0,.v (.bool b)),(1,.v (.int .i64 e)),(5,.v (.bool (!b)))] ?_))
 have h':(if b=true then (some (.inl ()):Option (Unit ⊕ Int)) else some (.inr e))=some r:=h
 refine SemX.cond (b:=!b) kr (fun hb=>?_) (fun hb=>?_)
 ·have hb':b=false:=by cases b <;> simp at hb ⊢
  subst hb'
  obtain rfl:(.inr e:Unit ⊕ Int)=r:=OI h'
  refine Al (RunX.pre 2 ?_)
  refine AG (n:=9) AC 2 [(0,.v (.bool false)),(1,.v (.int .i64 e)),(7,.ag [.v (.int .i64 e)])] [] kr ?_
  refine AE rfl ?_
  exact Rq rfl rfl (by decide) kr kr rfl
 ·have hb':b=true:=by cases b <;> simp at hb ⊢
  subst hb'
  obtain rfl:(.inl ():Unit ⊕ Int)=r:=OI h'
  exact SemX.skip ⟨(),rfl,.inl rfl,[],kr,rfl⟩
/-- Where a panic leaves two cells and a number. -/
def pqP (N:Nat) (t1 t2:TypeId) (L:List Asn) (p2 p4:AV){β:Type}(r:β ⊕ (Int×Int)) (e:Int) (s:St):Prop :=
 ∃ (n m:Int) (x:AV) (xs:List AF) (hp:Hp),r = .inr (e,n)/\WkY E0 s ⟨Fr N [(2,p2),(3,.v (.int .i64 n)),(4,p4)],hp⟩/\T hp (cel p2 1 t1 x::own_ (ocL 5 66 (ocV AB)) x xs::cel p4 1 t2 (.v (.int .i64 m))::L)
def Oo {α β:Type}(x:Option (α ⊕ Int)) (n:Int) (k:α->Option (β ⊕ (Int×Int))):Option (β ⊕ (Int×Int)):=x.bind fun r=>match r with
 | .inl v=>k v
 | .inr e=>some (.inr (e,n))
theorem Iw {α β:Type}{x:Option (α ⊕ Int)}{n:Int}{k:α->Option (β ⊕ (Int×Int))}{r:β ⊕ (Int×Int)}(h:Oo x n k=some r):(∃ v,x=some (.inl v)/\k v=some r)\/∃ e,x=some (.inr e)/\r = .inr (e,n):=by
 obtain ⟨y,hy,h⟩:=OB h
 cases y with
 | inl v=>exact .inl ⟨v,hy,h⟩
 | inr e=>exact .inr ⟨e,hy,(OI h).symm⟩
def We {α β:Type}(x:Option (α ⊕ (Int×Int))) (k:α->Option (β ⊕ (Int×Int))):Option (β ⊕ (Int×Int)):=x.bind fun r=>match r with
 | .inl v=>k v
 | .inr e=>some (.inr e)
section
variable {β γ:Type}{E:Env}{cx:Cx}{c:Code}{s:St}{n N:Nat}{t1 t2:TypeId}{L:List Asn}{p2 p4:AV}{PQ:Int->St->Prop}
theorem Po {r:β}{P:β->Ex->St->Prop}(h:SemXN E cx c n s (fun e s=>∃ q,(Sum.inl r:β ⊕ (Int×Int)) = .inl q/\P q e s) (pqP N t1 t2 L p2 p4 (Sum.inl r:β ⊕ (Int×Int)))):SemXN E cx c n s (P r) PQ :=
 SemXN.mono h (fun _ _ ⟨_,h1,h2⟩=>Sum.inl.inj h1 ▸ h2) fun _ _ ⟨_,_,_,_,_,h,_⟩=>(by cases h)
theorem Pp {Q:Ex->St->Prop}{r:γ ⊕ (Int×Int)}{e0:Int×Int}{P:β->Ex->St->Prop}(h:SemXN E cx c n s (fun e s=>∃ q,(Sum.inr e0:β ⊕ (Int×Int)) = .inl q/\P q e s) (pqP N t1 t2 L p2 p4 (Sum.inr e0:β ⊕ (Int×Int)))) (hr:r = .inr e0):SemXN E cx c n s Q (pqP N t1 t2 L p2 p4 r) :=
 SemXN.mono h (fun _ _ ⟨_,h1,_⟩=>(by cases h1)) fun _ _ ⟨n,m,x,xs,hp,h,k⟩=>⟨n,m,x,xs,hp,hr.trans (congrArg Sum.inr (Sum.inr.inj h)),k⟩
end
/-- Every order of what is not free is gone through, in the world as it is. -/
def RunAL (E:Env) (ops:Array Oper) (f:Nat) (m:List Bool) (s:St) (K:St->Prop):Prop :=
 ∀ (base:Bs) (Q:Act->World->Prop) (a:Act) (w:World) (Z:Nat->Prop) (R:List RI),Region.noSelect ops=true->Closed ops m.toArray->m.length=ops.size->SR E base w Z R s a ->
  (∀ s' a' w' Z' R',K s'->SR E base w' Z' R' s' a'->Step w Z R s.hp w' Z' R' s'.hp->Q a' w')->wpM E.P ops (fun _=>True) (CM ops 0) 0 Q f m.toArray a w
section
variable {E:Env}{ops:Array Oper}{s:St}{K:St->Prop}{f:Nat}{m:List Bool}{Q:Ex->St->Prop}{id:Nat}{o o2:Oper}
theorem put_defs (a:Act) (d:Option Tmp) (u:Value):(a.put d u).defers=a.defers:=by cases d <;> rfl
theorem Sd {P:Program}{C:World->Prop}{loud:Nat->Bool}{i:Nat}{K:Act->World->Prop}{a:Act}{w:World}(h:mOp P ops C loud i K a w):mOp P ops C loud i (fun a' w'=>K a' w'/\a'.defers=a.defers) a w:=by
 unfold mOp at *
 cases ho:ops[i]? with
 | none=>rw [ho] at h; exact h.elim
 | some o =>
  rw [ho] at h
  dsimp only at h ⊢
  split at h
  ·next hw =>
   rw [if_pos hw]
   split at h
   ·next hl =>
    rw [if_pos hl]
    unfold Lw at *
    generalize (execOp a.eval o).run P w=r at *
    cases r with
    | ok n w'=>cases n <;> simp only at h ⊢ <;> first | exact ⟨h,put_defs _ _ _⟩ | exact Ret.mono h (fun v w'' hh=>⟨hh,put_defs _ _ _⟩) | exact h
    | halt x w'=>exact h
   ·next hl=>rw [if_neg hl]; obtain ⟨v,hv,h⟩:=h; exact ⟨v,hv,h,put_defs _ _ _⟩
  ·next hw=>rw [if_neg hw]; exact ⟨h,put_defs _ _ _⟩
theorem Pm {P:Program}{C:World->Prop}{loud:Nat->Bool}{T:Nat}{Q:Act->World->Prop}{D:List Deferred}:∀ {f:Nat}{l:Array Bool}{a:Act}{w:World},a.defers=D->wpM P ops C loud T (fun a' w'=>a'.defers=D->Q a' w') f l a w->wpM P ops C loud T Q f l a w
 | 0,l,a,w,e,h=>⟨h.1,h.2.1,h.2.2 e⟩
 | f + 1,l,a,w,e,h=>⟨h.1,fun h0=>h.2.1 h0 e,fun i hi=>Ht (fun a' w' ⟨hk,hd⟩=>Pm (hd.trans e) hk) (Sd (h.2.2 i hi))⟩
theorem Rn (hE:EnvOk E) (hb:(Region.noSelect ops&&Nat.beq f ops.size)=true) (h:RunAL E ops f (List.replicate f false) s K){ro:Option Nat}{base:Bs}{Qm:Exit->Act->World->Prop}{a:Act}{w:World}{Z:Nat->Prop}{R:List RI}(sr:SR E base w Z R s a)
  (kk:∀ s' a' w' Z' R',K s'->SR E base w' Z' R' s' a'->Step w Z R s.hp w' Z' R' s'.hp->a'.defers=a.defers->Qm .normal a' w'):(Code.region id ops true).wpIn (Fw ro) 0 E.P Qm a w:=by
 simp only [Bool.and_eq_true] at hb
 have hf:=Nat.eq_of_beq_eq_true hb.2
 have hgd:w.grownBy w.drew none:=LF w
 have st0:Step w Z R s.hp w.drew Z R s.hp:=⟨rfl,rfl,rfl,Nat.le_refl _,fun c hc _=>rfl,fun _ h=> .inl h,fun _ h=>h,fun _ h=> .inl h,fun _ _ h=>h⟩
 have hsrd:SR E base w.drew Z R s a:=⟨sr.hh.keep (Nat.le_refl _) (fun c hc=>hgd.block c hc (by simp)),sr.fr.off (fun c hc=>rfl),sr.mks.step st0,sr.gl.off (fun c hc=>rfl),sr.bs⟩
 have hrep:(List.replicate f false).toArray=Array.replicate ops.size false:=by rw [hf]; simp
 have hcl:Closed ops (Array.replicate ops.size false):=fun k o hk hlis=>by
  rw [getD_replicate_false] at hlis; cases hlis
 have hm:=h base (fun a' w=>a'.defers=a.defers->Qm .normal a' w) a w.drew Z R hb.1 (by rw [hrep]; exact hcl) (by simp [hf]) hsrd (fun s' a' w' Z' R' hq sr' st hd=>kk s' a' w' Z' R' hq sr' (st0.trans st) hd)
 have hm:=Pm (Q:=fun a w=>Qm .normal a w) rfl hm
 rw [hrep,hf] at hm
 exact wpIn_region_any hE.mixed (G7 (C:=fun _=>True) (loud:=CM ops 0) (T:=0) (n:=ops.size) (Q:=fun a w=>Qm .normal a w) ro 0 (Sx _) (fun _ _ h=>h) _ _ _ _ hcl (by simp) hm)
theorem RunAL.q (i:Nat) (hq:(HX ops m i&&!CM ops 0 i)=true) (ho:ops[i]? = some o) (h:RunL E ⟨none,false⟩ ops [o] s fun s'=>RunAL E ops f (m.set i true) s' K):RunAL E ops (f + 1) m s K:=by
 intro base Q a w Z R hns hcl hsz sr q
 unfold HX at hq
 simp only [Bool.and_eq_true,Bool.not_eq_true'] at hq
 obtain ⟨⟨hr,hf⟩,hl⟩:=hq
 have hr':i ∈ Region.ready .any ops m.toArray:=by simpa using hr
 have hst:=h none base (fun a w=>wpM E.P ops (fun _=>True) (CM ops 0) 0 Q f (m.set i true).toArray a w) a w Z R (fun _=>rfl) sr (fun y hy=>by cases hy) fun s' a' w' Z' R' hk sr' st' =>
  hk base Q a' w' Z' R' hns (by rw [<-DY]; exact hcl.set hr') (by simpa using hsz) sr' fun s2 a2 w2 Z2 R2 hK sr2 st2=>q s2 a2 w2 Z2 R2 hK sr2 (st'.trans st2)
 have hfr:F6 o=true:=by have:=Qy hl; simpa [Dl,ho] using this
 have hy:∃ v,YieldsM E.P ops (fun _=>True) o v a/\wpM E.P ops (fun _=>True) (CM ops 0) 0 Q f (m.set i true).toArray (a.put o.dst v) w:=by
  unfold LwL at hst
  split at hst
  ·next hw =>
   obtain ⟨u,h1,h2⟩:=hst
   exact ⟨u,.inl ⟨hw,fun w' _=>h1 w'⟩,h2⟩
  ·next hw=>exact ⟨undef,.inr ⟨by simpa using hw,rfl⟩,hst⟩
 obtain ⟨v,hy,hK⟩:=hy
 refine Hb ho hl (Region.noSelect_spec hns) f m.toArray a w (fun _=>trivial) hcl (by simpa using hsz) (Region.free_spec ho hf) hr' hy ?_
 rw [DY]
 exact hK
theorem RunAL.loud (L:List Nat) (hne:L≠[]) (hl:(IB ops 0 m L&&L.all fun i=>!Dl ops i)=true) (h:∀ i ∈ L,∃ o,ops[i]? = some o/\RunL E ⟨none,false⟩ ops [o] s fun s'=>RunAL E ops f (m.set i true) s' K):RunAL E ops (f + 1) m s K:=by
 intro base Q a w Z R hns hcl hsz sr q
 simp only [Bool.and_eq_true] at hl
 obtain ⟨hl,hfr⟩:=hl
 unfold IB at hl
 simp only [Bool.and_eq_true] at hl
 obtain ⟨h1,h2⟩:=hl
 have hr:∀ i ∈ L,i ∈ Region.ready .any ops m.toArray/\Region.free .any ops m.toArray i=true:=fun i hi=>by
  have:=List.all_eq_true.1 h1 i hi
  unfold HX at this
  simp only [Bool.and_eq_true] at this
  exact ⟨by simpa using this.1,this.2⟩
 refine J1 (n:=ops.size) L hne (Sx _) (fun i hi=>⟨_,(h i hi).choose_spec.1⟩) (Region.noSelect_spec hns) f m.toArray a w (fun j hj hjL hlj hun=>?_) hcl (by simpa using hsz) (fun _=>trivial) (fun i hi oi hoi=>Region.free_spec hoi (hr i hi).2) (fun i hi=>(hr i hi).1) fun i hi=>?_
 ·have:=List.all_eq_true.1 h2 j (by simpa using hj)
  simp only [Bool.or_eq_true,Bool.not_eq_true',List.any_eq_true] at this
  rcases this with ((h3 | h3) | h3) | h3
  ·exact absurd (by simpa using h3) hjL
  ·rw [hlj] at h3; cases h3
  ·rw [hun] at h3; cases h3
  ·exact h3
 ·obtain ⟨o,ho,hop⟩:=h i hi
  have hfi:Dl ops i=false:=by simpa using List.all_eq_true.1 hfr i hi
  have hli:CM ops 0 i=true:=by
   cases hh:CM ops 0 i with
   | true=>rfl
   | false=>rw [Qy hh] at hfi; cases hfi
  have hfo:F6 o=false:=by simpa [Dl,ho] using hfi
  rw [DY]
  have hst:=hop none base (fun a w=>wpM E.P ops (fun _=>True) (CM ops 0) 0 Q f (m.set i true).toArray a w) a w Z R (fun _=>rfl) sr (fun y hy=>by cases hy) fun s' a' w' Z' R' hk sr' st' =>
   hk base Q a' w' Z' R' hns (by rw [<-DY]; exact hcl.set (hr i hi).1) (by simpa using hsz) sr' fun s2 a2 w2 Z2 R2 hK sr2 st2=>q s2 a2 w2 Z2 R2 hK sr2 (st'.trans st2)
  unfold mOp
  rw [ho]
  dsimp only
  unfold LwL at hst
  split at hst
  ·next hw =>
   rw [if_pos hw,if_pos hli]
   rw [hfo] at hst
   exact hst
  ·next hw=>rw [if_neg hw]; exact hst
theorem Kv (i:Nat) (hl:(IB ops 0 m [i]&&[i].all fun i=>!Dl ops i)=true) (hi:ops[i]? = some o) (h:RunL E ⟨none,false⟩ ops [o] s fun s'=>RunAL E ops f (m.set i true) s' K):RunAL E ops (f + 1) m s K :=
 RunAL.loud [i] (by simp) hl fun x hx=>by
  obtain rfl:x=i:=by simpa using hx
  exact ⟨o,hi,h⟩
theorem Rm (i j:Nat) (hl:(IB ops 0 m [i,j]&&[i,j].all fun i=>!Dl ops i)=true) (hi:ops[i]? = some o) (hj:ops[j]? = some o2) (h:RunL E ⟨none,false⟩ ops [o] s fun s'=>RunAL E ops f (m.set i true) s' K) (h2:RunL E ⟨none,false⟩ ops [o2] s fun s'=>RunAL E ops f (m.set j true) s' K):RunAL E ops (f + 1) m s K :=
 RunAL.loud [i,j] (by simp) hl fun x hx=>by
  rcases (by simpa using hx:x=i\/x=j) with rfl | rfl
  ·exact ⟨o,hi,h⟩
  ·exact ⟨o2,hj,h2⟩
theorem RunAL.done (h:(Region.ready .any ops m.toArray).isEmpty=true) (kk:K s):RunAL E ops 0 m s K:=fun base Q a w Z R _ _ _ sr q =>
 ⟨fun _=>trivial,by simpa using h,q s a w Z R kk sr (Step.refl _ _ _ _)⟩
end
noncomputable def Wa:Code:=pc (BX Tryz.f32) [1,1,0]
noncomputable def Va:Array Oper:=match Wa with | .region _ ops _=>ops | _=>#[]
theorem Vb {L:List Asn}{hp:Hp}(p2 x p4 p3:AV) (xs:List AF) (m e:Int) (hT:T hp (cel p2 1 25 x::own_ (ocL 5 66 (ocV AB)) x xs::cel p4 1 28 (.v (.int .i64 m))::cel p3 1 81 (.v (.int .i64 e))::L)) :
  RunAL E0 Va 4 (List.replicate 4 false) ⟨Fr 12 [(0,p2),(1,p4),(2,p3)],hp⟩ fun s'=>T s'.hp (cel p2 1 25 .e0::cel p4 1 28 (.v (.int .i64 e))::own_ (ocL 5 66 (ocV AB)) x xs::cel p3 1 81 (.v (.int .i64 e))::L):=by
 have hT1:T hp (cel p3 1 81 (.v (.int .i64 e))::cel p2 1 25 x::own_ (ocL 5 66 (ocV AB)) x xs::cel p4 1 28 (.v (.int .i64 m))::L):=hT.front 3 rfl
 obtain ⟨hp2,hs3,hT4⟩:=Ih (P:=Tryz.prog) (ty:=25) (y:= .e0) (a':= .e0) hT (by kernel_rfl) (by kernel_rfl) (NG (DJ (hT.front 1 rfl)) ⟨rfl,rfl⟩)
 have hT4b:T hp2 (cel p3 1 81 (.v (.int .i64 e))::cel p2 1 25 .e0::own_ (ocL 5 66 (ocV AB)) x xs::cel p4 1 28 (.v (.int .i64 m))::L):=hT4.front 3 rfl
 obtain ⟨hp6,hs7,hT8⟩:=Ih (P:=Tryz.prog) (ty:=28) (y:= .v (.int .i64 e)) (a':= .v (.int .i64 e)) (hT4.front 2 rfl) (by kernel_rfl) (by kernel_rfl) (by kernel_rfl)
 refine RunAL.q (o:=_) 0 (by kernel_rfl) rfl ?_
 refine AH AC 0 rfl (BH (x:=ER p3 0) (AA rfl) rfl (C0 (a:=p3) (by kernel_rfl) (Bb (off:=0) hT1 (by kernel_rfl)))) (AE rfl ?_)
 refine Rm 1 2 (by kernel_rfl) rfl rfl ?_ ?_
 ·refine AH AC 0 rfl (BH (x:= .v (.int .i64 e)) (AA rfl) rfl (Bz (p:=ER p3 0) (by kernel_rfl) (CZ (off:=0) (y:= .v (.int .i64 e)) (m:=1) (g:=false) hT1 (by kernel_rfl) (by kernel_rfl) (by kernel_rfl)))) (AE rfl ?_)
  refine Kv 2 (by kernel_rfl) rfl ?_
  refine RunL.store AC (y:=p2) (z:= .e0) rfl (AA rfl) (by kernel_rfl) (by kernel_rfl) hs3 (AE rfl ?_)
  refine Kv 3 (by kernel_rfl) rfl ?_
  refine RunL.store AC (y:=p4) (z:= .v (.int .i64 e)) rfl (AA rfl) (by kernel_rfl) (by kernel_rfl) hs7 (AE rfl ?_)
  exact RunAL.done (by kernel_rfl) (hT8.front 1 rfl)
 ·refine RunL.store AC (y:=p2) (z:= .e0) rfl (AA rfl) (by kernel_rfl) (by kernel_rfl) hs3 (AE rfl ?_)
  refine Kv 1 (by kernel_rfl) rfl ?_
  refine AH AC 0 rfl (BH (x:= .v (.int .i64 e)) (AA rfl) rfl (Bz (p:=ER p3 0) (by kernel_rfl) (CZ (off:=0) (y:= .v (.int .i64 e)) (m:=1) (g:=false) hT4b (by kernel_rfl) (by kernel_rfl) (by kernel_rfl)))) (AE rfl ?_)
  refine Kv 3 (by kernel_rfl) rfl ?_
  refine RunL.store AC (y:=p4) (z:= .v (.int .i64 e)) rfl (AA rfl) (by kernel_rfl) (by kernel_rfl) hs7 (AE rfl ?_)
  exact RunAL.done (by kernel_rfl) (hT8.front 1 rfl)
/-- Operations of a deferred call, where nothing is to be recovered. -/
def HT (E:Env):List Oper->St->Option St
 | [],s=>some s
 | o::rest,s=>match o.guard with
  | some _=>none
  | none=>match o.op with
   | .call ⟨.builtin .recover,_,_⟩=>HT E rest ⟨I1 s.fr o.dst (.v .nilIface),s.hp⟩
   | .typeAssert x _ u true=>match opA E s.fr x,E.P.underlying u,ET E.P u with
    | some (.v .nilIface),some _,some z=>HT E rest ⟨I1 s.fr o.dst (.tp [z,.v (.bool false)]),s.hp⟩
    | _,_,_=>none
   | .store t p q=>match o.dst,opA E s.fr p,opA E s.fr q with
    | none,some y,some z=>match Fv E.P s.hp t y z with
     | some h=>HT E rest ⟨s.fr,h⟩
     | none=>none
    | _,_,_=>none
   | op=>match DW E.P (opA E s.fr) s.hp op with
    | some x=>HT E rest ⟨I1 s.fr o.dst x,s.hp⟩
    | none=>match GB E.P (opA E s.fr) s.hp op with
     | some (x,h)=>HT E rest ⟨I1 s.fr o.dst x,h⟩
     | none=>none
section
variable {E:Env}{base:Bs}{ops:Array Oper}{Q:Exit->Act->List Frame->World->Prop}{cs:List Frame}{D:List Deferred}{s':St}
theorem Ma (a:Act) (d:Option Tmp) (u:Value):(a.put d u).defers=a.defers:=by cases d <;> rfl
theorem Vm {P:Program}{t u:TypeId}{d:TypeDesc}{v:Value}{w:World}(hu:P.underlying u=some d) (hz:∀ w,(zeroValue u).run P w = .ok v w):(Instr.typeAssert .nilIface t u true).run P w = .ok (.tuple #[v,.bool false]) w:=by
 unfold Instr.typeAssert
 rw [Sem.run_bind,run_underlying hu]
 cases d <;> simp [hz,Result.andThen]
theorem EY (hrec:recoverD cs=none):∀ {rest:List Oper}{s:St}{a:Act}{w:World}{Z:Nat->Prop}{R:List RI}{k:Nat},HT E rest s=some s'->SR E base w Z R s a->a.defers=D->(∀ j,rest[j]? = ops[k + j]?) ->
  (∀ a' w' Z' R',SR E base w' Z' R' s' a'->a'.defers=D->Step w Z R s.hp w' Z' R' s'.hp->Q .normal a' cs w')->wpOpsSIn (Fw none) 0 E.P ops Q (List.range' k rest.length) a cs w
 | [],s,a,w,Z,R,k,e,sr,hD,hops,q=>by
  injection e with e; subst e
  exact q a w Z R sr hD (Step.refl _ _ _ _)
 | o::rest,s,a,w,Z,R,k,e,sr,hD,hops,q=>by
  have hok:ops[k]? = some o:=by have:=hops 0; simpa using this.symm
  have hops':∀ j,rest[j]? = ops[k + 1 + j]?:=fun j=>by have:=hops (j + 1); simpa [Nat.add_assoc,Nat.add_comm 1 j] using this
  have hρ:∀ o x,opA E s.fr o=some x->VR w Z R x (a.eval o):=fun o x e=>opA_vr sr o x e
  unfold HT at e
  split at e
  ·cases e
  ·next hg =>
   rw [List.length_cons,List.range'_succ]
   unfold wpOpsSIn
   rw [hok]
   dsimp only
   refine ⟨fun _ _=>trivial,?_⟩
   rw [if_pos (by simp [Region.wanted,hg])]
   have val:∀ {x:AV} {h':Hp},Ld E.P w Z R s.hp x h' a.eval o->HT E rest ⟨I1 s.fr o.dst x,h'⟩=some s'->(match (execOp a.eval o).run E.P w with
    | .ok .recover w'=>(match recoverD cs with
     | some (v,cs')=>wpOpsSIn (Fw none) 0 E.P ops Q (List.range' (k + 1) rest.length) (a.put o.dst v) cs' w'
     | none=>wpOpsSIn (Fw none) 0 E.P ops Q (List.range' (k + 1) rest.length) (a.put o.dst .nilIface) cs w')
    | .ok (.value v) w'=>wpOpsSIn (Fw none) 0 E.P ops Q (List.range' (k + 1) rest.length) (a.put o.dst v) cs w'
    | .ok .skip w'=>wpOpsSIn (Fw none) 0 E.P ops Q (List.range' (k + 1) rest.length) (a.put o.dst undef) cs w'
    | .halt (.panic v) w'=>Q (.panic [{ v,recovered:=false }]) a cs w'
    | _=>False):=fun {x h'} hl e=>by
    obtain ⟨u,w',R',h1,h2,h3,h4⟩:=hl
    rw [h1]
    exact EY hrec e ((sr.step h2 h4).put h3) ((Ma _ _ _).trans hD) hops' fun a' w'' Z'' R'' sr'' hD'' st=>q a' w'' Z'' R'' sr'' hD'' (h4.trans st)
   split at e
   ·next b c ho =>
    have hr:(execOp a.eval o).run E.P w = .ok .recover w:=by
     simp [execOp,ho,resolve,invoke]
     rfl
    rw [hr]
    dsimp only
    rw [hrec]
    exact EY hrec e (sr.put (.v rfl)) ((Ma _ _ _).trans hD) hops' q
   ·next x t u ho =>
    split at e
    ·next d z hx hu hz =>
     have hv:=(hρ _ _ hx).v_inv
     obtain ⟨v,hv1,_,hrun,_⟩:=Gf (w:=w) (Z:=Z) (R:=R) hz
     refine val (x:= .tp [z,.v (.bool false)]) (h':=s.hp) ⟨.tuple #[v,.bool false],w,R,?_,sr.hh,.tp (us:=[v,.bool false]) rfl (fun i x u hx hu=>?_),Step.refl _ _ _ _⟩ e
     ·simp only [execOp,ho,hv]
      rw [Sem.run_bind,Vm hu hrun]
      rfl
     ·match i with
      | 0=>simp at hx hu; subst hx hu; exact hv1
      | 1=>simp at hx hu; subst hx hu; exact .v rfl
      | i + 2=>simp at hx
    ·cases e
   ·next t p r ho =>
    split at e
    ·next y z hd hp hq =>
     split at e
     ·next h' hst =>
      obtain ⟨w',h1,h2,h3⟩:=Hm hρ sr.hh ho hp hq hst
      rw [h1,hd]
      dsimp only
      exact EY hrec e (sr.step h2 h3) hD hops' fun a' w'' Z'' R'' sr'' hD'' st=>q a' w'' Z'' R'' sr'' hD'' (h3.trans st)
     ·cases e
    ·cases e
   ·split at e
    ·next x hx=>exact val ((evOpQ_sound sr.hh hρ hx).ld sr.hh) e
    ·split at e
     ·next x h' hx=>exact val (evOpN_sound hρ sr.hh hx).ld e
     ·cases e
/-- A deferred closure of the form: what it recovers is looked at; where it was nothing, nothing is done. -/
theorem TK {g:FuncId}{fn:Func}{id0 id1:Nat}{ops0 ops1:Array Oper}{x:Operand}{X:Code}{s1 s2:St}{us:List Value}(hG:∀ q,E.G q=none) (hf:E.P.funcs[g]? = some fn) (hb:fn.body=some (.seq (.region id0 ops0 false) (.seq (.region id1 ops1 false) (.cond x X .skip)))) (hres:fn.results=#[])
  (e1:HT E ops0.toList ⟨List.replicate fn.ntmps none,[]⟩=some s1) (e2:HT E ops1.toList s1=some s2) (ht:opA E s2.fr x=some (.v (.bool false))) (hl:us.length<=fn.ntmps):OH E.P g us:=by
 intro w1
 refine callsDIn_of_wpSIn hf hb trivial fun c₀ cs hm=>?_
 have hrec:recoverD (c₀::cs)=none:=by simp [recoverD,hm]
 have sr0:SR E (.of w1.heap.size) w1 (fun _=>False) [] ⟨List.replicate fn.ntmps none,[]⟩ { tmps:=us.toArray++Array.replicate (fn.ntmps - us.toArray.size) undef,defers:=[] } :=
  ⟨LU (fun _ h=>h.elim),⟨by simp; omega,fun t x hx=>by simp [List.getElem?_replicate] at hx⟩,rfl,(fun q y hy=>by rw [hG] at hy; cases hy),Nat.le_refl _⟩
 refine wpSIn_seq (wpSIn_region ?_)
 rw [List.range_eq_range',show ops0.size=ops0.toList.length by simp]
 refine EY hrec (rest:=ops0.toList) (k:=0) (D:=[]) e1 sr0 rfl (fun j=>by simp) fun a2 w2 Z2 R2 sr2 hD2 st2=>?_
 show (Code.seq _ _).wpSIn _ _ _ _ _ _ _
 refine wpSIn_seq (wpSIn_region ?_)
 rw [List.range_eq_range',show ops1.size=ops1.toList.length by simp]
 refine EY hrec (rest:=ops1.toList) (k:=0) (D:=[]) e2 sr2 hD2 (fun j=>by simp) fun a3 w3 Z3 R3 sr3 hD3 st3=>?_
 show (Code.cond _ _ _).wpSIn _ _ _ _ _ _ _
 refine wpSIn_cond (t:=false) (opA_vr sr3 _ _ ht).v_inv ?_
 refine wpSIn_of_wpIn rfl (wpIn_skip ?_)
 have st:=st2.trans st3
 have h0:(Array.mapM (Ou a3.tmps) (#[]:Array ResultVar)).run E.P w3 = .ok #[] w3:=KN (us:=[]) (by simp)
 exact ⟨hD3,.returning,by rw [<-hm],.tuple #[],by rw [KM,hres,Sem.run_bind,h0]; rfl,rfl,⟨st.os,st.tape,st.output,st.size,fun c hc _=>st.block c hc Hv⟩⟩
end
def Sf:TypeDesc->Bool
 | .interface _=>false
 | _=>true
section
variable {P:Program}{ops:Array Oper}{Q:Exit->Act->List Frame->World->Prop}{cs cs':List Frame}{a:Act}{w:World}{o:Oper}{i:Nat}{rest:List Nat}{v:Value}
theorem UM {b:Array Operand}{c:Array TypeId}(ho:ops[i]? = some o) (hg:o.guard=none) (hop:o.op = .call ⟨.builtin .recover,b,c⟩) (hrec:recoverD cs=some (v,cs')) (k:wpOpsSIn (Fw none) 0 P ops Q rest (a.put o.dst v) cs' w):wpOpsSIn (Fw none) 0 P ops Q (i::rest) a cs w:=by
 unfold wpOpsSIn
 rw [ho]
 dsimp only
 refine ⟨fun _ _=>trivial,?_⟩
 rw [if_pos (by simp [Region.wanted,hg])]
 have hr:(execOp a.eval o).run P w = .ok .recover w:=by
  simp [execOp,hop,resolve,invoke]
  rfl
 rw [hr]
 dsimp only
 rw [hrec]
 exact k
theorem VV {x:Operand}{t u:TypeId}{d:TypeDesc}(ho:ops[i]? = some o) (hg:o.guard=none) (hop:o.op = .typeAssert x t u true) (hu:P.underlying u=some d) (hd:Sf d=true) (hx:a.eval x = .iface u v) (k:wpOpsSIn (Fw none) 0 P ops Q rest (a.put o.dst (.tuple #[v,.bool true])) cs w):wpOpsSIn (Fw none) 0 P ops Q (i::rest) a cs w:=by
 unfold wpOpsSIn
 rw [ho]
 dsimp only
 refine ⟨fun _ _=>trivial,?_⟩
 rw [if_pos (by simp [Region.wanted,hg])]
 have hr:(execOp a.eval o).run P w = .ok (.value (.tuple #[v,.bool true])) w:=by
  simp only [execOp,hop,hx]
  rw [Sem.run_bind]
  have:(Instr.typeAssert (.iface u v) t u true).run P w = .ok (.tuple #[v,.bool true]) w:=by
   unfold Instr.typeAssert
   rw [Sem.run_bind,run_underlying hu]
   cases d <;> simp [Result.andThen,Sf] at hd ⊢
  rw [this]
  rfl
 rw [hr]
 exact k
end
noncomputable def Ot:Array Oper:=match Tryz.f32.body with | some (.seq (.region _ ops _) _)=>ops | _=>#[]
noncomputable def Mc:Array Oper:=match Tryz.f32.body with | some (.seq _ (.seq (.region _ ops _) _))=>ops | _=>#[]
def WA (u0 u1:Value):List (Option AV):=some (.v u0)::some (.v u1)::List.replicate 10 none
def rcS (u0 u1:Value) (e:Int):St:=⟨I1 (I1 (WA u0 u1) (some 5) (.v (IC e))) (some 6) (.tp [.ag [.v (.int .i64 e)],.v (.bool true)]),[]⟩
noncomputable def W3 (u0 u1:Value) (e:Int):St:=(HT E0 (Ot.toList.drop 2) (rcS u0 u1 e)).getD ⟨[],[]⟩
noncomputable def TZ (u0 u1:Value) (e:Int):St:=(HT E0 Mc.toList (W3 u0 u1 e)).getD ⟨[],[]⟩
theorem XS (u0 u1:Value) (e:Int):HT E0 (Ot.toList.drop 2) (rcS u0 u1 e)=some (W3 u0 u1 e):=by kernel_rfl
theorem XT (u0 u1:Value) (e:Int):HT E0 Mc.toList (W3 u0 u1 e)=some (TZ u0 u1 e):=by kernel_rfl
theorem W4 (u0 u1:Value) (e:Int):(TZ u0 u1 e).hp=[some ⟨1,81,[.v (.int .i64 e)],false⟩]:=by kernel_rfl
theorem Vc (u0 u1:Value) (e:Int):(TZ u0 u1 e).fr[0]? = some (some (.v u0)):=by kernel_rfl
theorem Vd (u0 u1:Value) (e:Int):(TZ u0 u1 e).fr[1]? = some (some (.v u1)):=by kernel_rfl
theorem Ve (u0 u1:Value) (e:Int):(TZ u0 u1 e).fr[2]? = some (some (.pt 0 0 0)):=by kernel_rfl
theorem Vf (u0 u1:Value) (e:Int):opA E0 (TZ u0 u1 e).fr (.tmp 9)=some (.v (.bool true)):=by kernel_rfl
theorem Vg (u0 u1:Value) (e:Int):(TZ u0 u1 e).fr.length=12:=by kernel_rfl
set_option maxHeartbeats 1000000 in
theorem Sq {w1 : World} {Z : Nat → Prop} {R : List RI} {hp : Hp} {L : List Asn} {p2 x p4 : AV} {xs : List AF} {m e : Int} {u0 u1 : Value} (hh : HR w1 Z R hp) (hg : GI E0 w1 Z) (hT : T hp (cel p2 1 25 x :: own_ (ocL 5 66 (ocV AB)) x xs :: cel p4 1 28 (.v (.int .i64 m)) :: L)) (h0 : VR w1 Z R p2 u0) (h1 : VR w1 Z R p4 u1) :
    CallsDIn (Fw none) 0 E0.P 32 #[u0, u1] (.panicking (JV e)) w1 fun ex u' w2 => match ex with
      | .returned _ => settle u' = .returning ∧ ∃ Z2 R2 hp2 L2, HR w2 Z2 R2 hp2 ∧ Step w1 Z R hp w2 Z2 R2 hp2 ∧ T hp2 (cel p2 1 25 .e0 :: cel p4 1 28 (.v (.int .i64 e)) :: L2)
      | _ => False := by
  have o0 : u0.oneCell' = true := by
    obtain ⟨F, ⟨b, rfl, rfl, hb⟩, _⟩ := hT.act
    cases h0; rfl
  have o1 : u1.oneCell' = true := by
    obtain ⟨F, ⟨b, rfl, rfl, hb⟩, _⟩ := (hT.front 2 rfl).act
    cases h1; rfl
  refine callsDIn_of_wpSIn Tryz.func32 rfl trivial fun c₀ cs hm => ?_
  have hrec : recoverD (c₀ :: cs) = some (IC e, { c₀ with mode := .panicking [{ v := IC e, recovered := true }] } :: cs) := by simp [recoverD, hm, JV]
  have hrec' : recoverD ({ c₀ with mode := .panicking [{ v := IC e, recovered := true }] } :: cs) = none := by simp [recoverD]
  have sr0 : SR E0 (.of w1.heap.size) w1 Z [] ⟨WA u0 u1, []⟩ { tmps := #[u0, u1] ++ Array.replicate (Tryz.f32.ntmps - (#[u0, u1] : Array Value).size) undef, defers := [] } := by
    refine ⟨LU hh.zlt, ⟨rfl, fun t x hx => ?_⟩, rfl, hg, Nat.le_refl _⟩
    match t with
    | 0 => simp [WA] at hx; subst hx; exact .v o0
    | 1 => simp [WA] at hx; subst hx; exact .v o1
    | t + 2 =>
      have hx : (List.replicate 10 (none : Option AV))[t]? = some (some x) := hx
      rw [List.getElem?_replicate] at hx
      split at hx <;> cases hx
  refine wpSIn_seq (wpSIn_region ?_)
  show wpOpsSIn (Fw none) 0 E0.P Ot _ (0 :: 1 :: List.range' 2 (Ot.toList.drop 2).length) _ _ _
  refine UM (o := _) rfl rfl rfl hrec ?_
  have hu0 : (match E0.P.underlying 81 with | some d => Sf d | none => false) = true := by kernel_rfl
  obtain ⟨d, hu, hd⟩ : ∃ d, E0.P.underlying 81 = some d ∧ Sf d = true := by
    cases hu : E0.P.underlying 81 with
    | none => rw [hu] at hu0; cases hu0
    | some d => rw [hu] at hu0; exact ⟨d, rfl, hu0⟩
  have sr01 := sr0.put (d := some 5) (x := .v (IC e)) (u := IC e) (.v rfl)
  refine VV (o := _) (u := 81) (v := .agg #[.int .i64 e]) rfl rfl rfl hu hd (opA_vr sr01 (.tmp 5) (.v (IC e)) (by kernel_rfl)).v_inv ?_
  have sr1 := sr01.put (d := some 6) (x := .tp [.ag [.v (.int .i64 e)], .v (.bool true)]) (u := .tuple #[.agg #[.int .i64 e], .bool true]) (.tp (us := [.agg #[.int .i64 e], .bool true]) rfl (fun i x u hx hu => by
    match i with
    | 0 =>
      simp at hx hu; subst hx hu
      exact .ag (us := [.int .i64 e]) rfl rfl (fun i x u hx hu => by
        match i with
        | 0 => simp at hx hu; subst hx hu; exact .v rfl
        | i + 1 => simp at hx)
    | 1 => simp at hx hu; subst hx hu; exact .v rfl
    | i + 2 => simp at hx))
  refine EY hrec' (rest := Ot.toList.drop 2) (k := 2) (D := []) (XS u0 u1 e) sr1 rfl (fun j => by simp) fun a2 w2 Z2 R2 sr2 hD2 st2 => ?_
  show (Code.seq _ _).wpSIn _ _ _ _ _ _ _
  refine wpSIn_seq (wpSIn_region ?_)
  show wpOpsSIn (Fw none) 0 E0.P Mc _ (List.range' 0 Mc.toList.length) _ _ _
  refine EY hrec' (rest := Mc.toList) (k := 0) (D := []) (XT u0 u1 e) sr2 hD2 (fun j => by simp) fun a3 w3 Z3 R3 sr3 hD3 st3 => ?_
  show (Code.cond _ _ _).wpSIn _ _ _ _ _ _ _
  refine wpSIn_cond (t := true) (opA_vr sr3 _ _ (Vf u0 u1 e)).v_inv ?_
  have st : Step w1 Z [] [] w3 Z3 R3 (TZ u0 u1 e).hp := st2.trans st3
  have hh3 := sr3.hh
  rw [W4] at st hh3
  obtain ⟨j1, j2⟩ := hh.joinF st.w hh3 (by kernel_rfl)
  have hz : ∀ b, Z b → w3.heap[b]? = w1.heap[b]? := fun c hc => st.block c (hh.zlt c hc) fun ⟨b, B, r, hb, _⟩ => by simp at hb
  have v0 : a3.tmps.getD 0 undef = u0 := (sr3.fr.2 0 _ (Vc u0 u1 e)).v_inv
  have v1 : a3.tmps.getD 1 undef = u1 := (sr3.fr.2 1 _ (Vd u0 u1 e)).v_inv
  have v2 := sr3.fr.2 2 _ (Ve u0 u1 e)
  have sr4 : SR E0 (.of w1.heap.size) w3 Z3 (R ++ R3) ⟨Fr 12 [(0, p2), (1, p4), (2, .pt hp.length 0 0)], hp ++ [some ⟨1, 81, [.v (.int .i64 e)], false⟩]⟩ a3 := by
    refine ⟨j1, ⟨by rw [D1, ← sr3.fr.1, Vg], fun t x hx => ?_⟩, by rw [hD3]; rfl, sr3.gl, sr3.bs⟩
    rw [Dv] at hx
    match t with
    | 0 => have hx : p2 = x := by simpa [lk] using hx
           subst hx; rw [v0]; exact h0.mono hz st.z j2.r
    | 1 => have hx : p4 = x := by simpa [lk] using hx
           subst hx; rw [v1]; exact h1.mono hz st.z j2.r
    | 2 => have hx : AV.pt hp.length 0 0 = x := by simpa [lk] using hx
           subst hx; exact Vk (x := .pt 0 0 0) hh.len (by kernel_rfl) v2
    | t + 3 => simp [lk] at hx
  have hT4 : T (hp ++ [some ⟨1, 81, [.v (.int .i64 e)], false⟩]) (cel p2 1 25 x :: own_ (ocL 5 66 (ocV AB)) x xs :: cel p4 1 28 (.v (.int .i64 m)) :: cel (.pt hp.length 0 0) 1 81 (.v (.int .i64 e)) :: L) := by
    have := (hT.add (P := cel (.pt hp.length 0 0) 1 81 (.v (.int .i64 e))) (F := [hp.length]) (h' := hp ++ [some ⟨1, 81, [.v (.int .i64 e)], false⟩]) ⟨hp.length, rfl, rfl, by simp⟩ (by simp) (fun b hb => List.getElem?_append_left hb) (fun b hb => by simp at hb; omega))
    exact ((this.front 3 rfl).front 3 rfl).front 3 rfl
  refine wpSIn_of_wpIn rfl ?_
  refine Rn (ops := Va) AC (by kernel_rfl) (Vb _ _ _ _ _ _ _ hT4) sr4 fun s5 a5 w5 Z5 R5 hT5 sr5 st5 hD5 => ?_
  have h00 : (Array.mapM (Ou a5.tmps) (#[] : Array ResultVar)).run E0.P w5 = .ok #[] w5 := KN (us := []) (by simp)
  refine ⟨hD5.trans hD3, .panicking [{ v := IC e, recovered := true }], rfl, .tuple #[], ?_, rfl, Z5, R5, s5.hp, _, sr5.hh, j2.trans st5, hT5⟩
  rw [KM, Sem.run_bind]
  rw [show Tryz.f32.results = #[] from rfl, h00]
  rfl
end Go.Proofs.YtdjhmdbpcfnpgaaGreatDoor
namespace Go.Proofs.YtdjhmdbpcfnpgaaGreatDoor
open Go.Shelf
def Ob:Go.Shelf.Ren:=⟨fun | 217=>94 | 266=>110 | n=>n,fun | 9=>9 | 5=>5 | 3=>3 | n=>n,fun | n=>n⟩
theorem Qv:Go.Proofs.Lays.n217 Tryz.prog Ob:={
 mixed:=by kernel_rfl
 f217:=Tryz.func94.trans (congrArg some (by kernel_rfl))
 f266:=Tryz.func110.trans (congrArg some (by kernel_rfl))
 t3:=Tryz.underlying3
 a3:=Tryz.isAgg3
 z3:=Tryz.sizeOf3
 v3:=Tryz.zeroValue3
 t5:=Tryz.underlying5
 a5:=Tryz.isAgg5
 z5:=Tryz.sizeOf5
 v5:=Tryz.zeroValue5
 t9:=Tryz.underlying9
 a9:=Tryz.isAgg9
 z9:=Tryz.sizeOf9
 v9:=Tryz.zeroValue9 }
def Oa:Go.Shelf.Ren:=⟨fun | 138=>13 | 195=>39 | 218=>40 | 143=>41 | 219=>76 | 217=>94 | 225=>95 | 224=>96 | 267=>97 | 266=>110 | 314=>111 | n=>n,fun | 9=>9 | 3=>3 | 4=>4 | 5=>5 | 0=>0 | 46=>130 | 146=>159 | 51=>158 | n=>n,fun | 1=>0 | n=>n⟩
theorem Qu:Go.Proofs.Lays.n138 Tryz.prog Oa:={
 mixed:=by kernel_rfl
 f138:=Tryz.func13.trans (congrArg some (by kernel_rfl))
 f143:=Tryz.func41.trans (congrArg some (by kernel_rfl))
 f195:=Tryz.func39.trans (congrArg some (by kernel_rfl))
 f217:=Tryz.func94.trans (congrArg some (by kernel_rfl))
 f218:=Tryz.func40.trans (congrArg some (by kernel_rfl))
 f219:=Tryz.func76.trans (congrArg some (by kernel_rfl))
 f224:=Tryz.func96.trans (congrArg some (by kernel_rfl))
 f225:=Tryz.func95.trans (congrArg some (by kernel_rfl))
 f266:=Tryz.func110.trans (congrArg some (by kernel_rfl))
 f267:=Tryz.func97.trans (congrArg some (by kernel_rfl))
 f314:=Tryz.func111.trans (congrArg some (by kernel_rfl))
 t0:=Tryz.underlying0
 a0:=Tryz.isAgg0
 z0:=Tryz.sizeOf0
 v0:=Tryz.zeroValue0
 t3:=Tryz.underlying3
 a3:=Tryz.isAgg3
 z3:=Tryz.sizeOf3
 v3:=Tryz.zeroValue3
 t4:=Tryz.underlying4
 a4:=Tryz.isAgg4
 z4:=Tryz.sizeOf4
 v4:=Tryz.zeroValue4
 t5:=Tryz.underlying5
 a5:=Tryz.isAgg5
 z5:=Tryz.sizeOf5
 v5:=Tryz.zeroValue5
 t9:=Tryz.underlying9
 a9:=Tryz.isAgg9
 z9:=Tryz.sizeOf9
 v9:=Tryz.zeroValue9
 t46:=Tryz.underlying130
 a46:=Tryz.isAgg130
 z46:=Tryz.sizeOf130
 v46:=Tryz.zeroValue130
 t51:=Tryz.underlying158
 a51:=Tryz.isAgg158
 z51:=Tryz.sizeOf158
 v51:=Tryz.zeroValue158
 t146:=Tryz.underlying159
 a146:=Tryz.isAgg159
 z146:=Tryz.sizeOf159
 v146:=Tryz.zeroValue159
 g1:=by kernel_rfl }
open Go.RowKit Go.Lib
/-- The first place of a byte. -/
def ixB:List AV->Option AV
 | [.st s,.v (.int .u8 c)]=>some (.v (.int .i64 (Lib.indexByte s c.toNat.toUInt8)))
 | _=>none
theorem VC {E:Env}(hE:EnvOk E) (hP:E.P=Tryz.prog):EnvOk (E.withX 94 ixB):=by
 refine hE.withX (hP ▸ ⟨Tryz.call94⟩) fun xs x h w Z us _ _ hv=>?_
 unfold ixB at h
 split at h
 ·next s c =>
  injection h with h
  subst h
  obtain ⟨u1,r1,rfl,h1,hv⟩:=hv.head
  obtain ⟨u2,r2,rfl,h2,hv⟩:=hv.head
  have:r2=[]:=List.eq_nil_of_length_eq_zero hv.len
  subst this
  have e2:=h2.v_inv
  subst e2
  cases h1 with
  | st hs hn =>
   rename_i sb
   rw [hP]
   refine Calls.mono (Any.stringslite_IndexByte Qv sb c w) fun e w' he=>?_
   obtain ⟨rfl,rfl⟩:=he
   exact ⟨JK _,by rw [hs]; exact .v rfl⟩
 ·cases h
/-- How often a byte stands in a string. -/
def Wd:List AV->Option AV
 | [.st s,.st [c]]=>some (.v (.int .i64 (Lib.countByte s c)))
 | _=>none
theorem Tw {E:Env}(hE:EnvOk E) (hP:E.P=Tryz.prog):EnvOk (E.withX 13 Wd):=by
 refine hE.withX (hP ▸ ⟨Tryz.call13⟩) fun xs x h w Z us _ _ hv=>?_
 unfold Wd at h
 split at h
 ·next s c =>
  injection h with h
  subst h
  obtain ⟨u1,r1,rfl,h1,hv⟩:=hv.head
  obtain ⟨u2,r2,rfl,h2,hv⟩:=hv.head
  have:r2=[]:=List.eq_nil_of_length_eq_zero hv.len
  subst this
  obtain ⟨sb,rfl,hs⟩:∃ sb,u1 = .string sb/\sb.data.toList=s:=by cases h1 with | st h _=>exact ⟨_,rfl,h⟩
  obtain ⟨sc,rfl,hs2⟩:∃ sc,u2 = .string sc/\sc.data.toList=[c]:=by cases h2 with | st h _=>exact ⟨_,rfl,h⟩
  have e:sc=ByteArray.mk #[c]:=by
   obtain ⟨d⟩:=sc
   congr 1
   apply Array.ext'
   exact hs2
  subst e
  rw [hP]
  refine Calls.mono (Any.strings_Count_one Qu sb c w) fun e w' he=>?_
  obtain ⟨rfl,rfl⟩:=he
  exact ⟨JK _,by rw [hs]; exact .v rfl⟩
 ·cases h
end Go.Proofs.YtdjhmdbpcfnpgaaGreatDoor
namespace Go.Proofs.YtdjhmdbpcfnpgaaGreatDoor
open Go.Shelf
open Go.RowKit Go.Lib
def EF (s:List UInt8) (c:Int):Option Int:=some (Lib.indexByte s c.toNat.toUInt8)
def Ef:Cs (List UInt8×Int×Unit):=csC cdS (csC (cdK .u8) csN)
def HV (r:Int):AV:=cdI.enc r
def Hx:List AV->Option AV:=FZ Ef (fun a=>EF a.1 a.2.1) HV
theorem H3:XOk 94 Hx:=by
 refine ⟨⟨Tryz.call94⟩,fun xs x h w Z us _ _ hv=>?_⟩
 obtain ⟨⟨s,c,u⟩,ha,hh⟩:=OB h
 obtain ⟨r,hb,rfl⟩:=Option.map_eq_some_iff.1 hh
 clear h hh
 replace hv:=Ef.vr ha hv
 clear ha
 obtain ⟨u1,r1,rfl,h1,hv⟩:=hv.head
 obtain ⟨u2,r2,rfl,h2,hv⟩:=hv.head
 have:r2=[]:=List.eq_nil_of_length_eq_zero hv.len
 subst this
 have e2:=h2.v_inv
 subst e2
 have hb:r=Lib.indexByte s c.toNat.toUInt8:=(OI hb).symm
 subst hb
 cases h1 with
 | st hs hn =>
  rename_i sb
  refine Calls.mono (Any.stringslite_IndexByte Qv sb c w) fun e w' he=>?_
  obtain ⟨rfl,rfl⟩:=he
  exact ⟨JK _,by rw [hs]; exact .v rfl⟩
def Du (s sub:List UInt8):Option Int:=match sub with
 | [c]=>some ((Lib.countByte s c:Nat):Int)
 | _=>none
def H9:Cs (List UInt8×List UInt8×Unit):=csC cdS (csC cdS csN)
def Kj (r:Int):AV:=cdI.enc r
def Lp:List AV->Option AV:=FZ H9 (fun a=>Du a.1 a.2.1) Kj
theorem Gg:XOk 13 Lp:=by
 refine ⟨⟨Tryz.call13⟩,fun xs x h w Z us _ _ hv=>?_⟩
 obtain ⟨⟨s,sub,u⟩,ha,hh⟩:=OB h
 obtain ⟨r,hb,rfl⟩:=Option.map_eq_some_iff.1 hh
 clear h hh
 replace hv:=H9.vr ha hv
 clear ha
 obtain ⟨u1,r1,rfl,h1,hv⟩:=hv.head
 obtain ⟨u2,r2,rfl,h2,hv⟩:=hv.head
 have:r2=[]:=List.eq_nil_of_length_eq_zero hv.len
 subst this
 obtain ⟨sb,rfl,hs⟩:∃ sb,u1 = .string sb/\sb.data.toList=s:=by cases h1 with | st h _=>exact ⟨_,rfl,h⟩
 obtain ⟨c,rfl,hr⟩:∃ c,sub=[c]/\r=((Lib.countByte s c:Nat):Int):=by
  have hb:Du s sub=some r:=hb
  match sub,hb with
  | [c],hb=>exact ⟨c,rfl,(OI hb).symm⟩
 clear hb
 subst hr
 obtain ⟨sc,rfl,hs2⟩:∃ sc,u2 = .string sc/\sc.data.toList=[c]:=by cases h2 with | st h _=>exact ⟨_,rfl,h⟩
 have e:sc=ByteArray.mk #[c]:=by
  obtain ⟨d⟩:=sc
  congr 1
  apply Array.ext'
  exact hs2
 subst e
 refine Calls.mono (Any.strings_Count_one Qu sb c w) fun e w' he=>?_
 obtain ⟨rfl,rfl⟩:=he
 exact ⟨JK _,by rw [hs]; exact .v rfl⟩
/- internal/stringslite.Index -/
noncomputable def F5:Code:=BX Tryz.f76
def CK (x0:(List UInt8)) (x1:(List UInt8)):Option (Int) :=
 (if ((x1.length:Int)==0)=true then some true else some (x1==x0)).bind fun j2 =>
 if j2=true then
 some 0
 else
 if ((x1.length:Int)==1)=true then
 (idx x1 0).bind fun v5 =>
 (EF x0 (v5.toNat:Int)).bind fun v6 =>
 some v6
 else
 if (decide ((x1.length:Int)≥(x0.length:Int)))=true then
 some (-1)
 else
 none
def EK:Cs ((List UInt8)×(List UInt8)×Unit):=(csC cdS (csC cdS csN))
def EM (r:Int):AV:=cdI.enc r
theorem Ij (x0:(List UInt8)) (x1:(List UInt8)) (r:Int) (h:CK x0 x1=some r):Sem E0 ⟨none,false⟩ F5 ⟨Fr 143 (BB 0 (EK.enc (x0,x1,()))),[]⟩ fun e s'=>(e = .normal\/e = .ret)/\∃ xs,D4 E0.P s'.fr s'.hp Tryz.f76.results.toList=some xs/\Eh xs=EM r:=by
 unfold CK at h;refine CB (DP (s1:=⟨Fr 143 [(0,.st x0),(1,.st x1)],[]⟩) AQ ?_);refine AI ?_;refine AL (s1:=⟨Fr 143 [(0,.st x0),(1,.st x1)],[]⟩) ?_ ?_
 ·refine AD (n:=143) AC 1 [(0,.st x0),(1,.st x1)] [] (by kernel_rfl) ?_
  exact AJ rfl AQ
 refine AI ?_;refine AL (s1:=⟨Fr 143 [(0,.st x0),(1,.st x1),(5,.j (x1.length:Int))],[]⟩) ?_ ?_
 ·refine AD (n:=143) AC 3 [(0,.st x0),(1,.st x1),(5,.j (x1.length:Int))] [] (by kernel_rfl) ?_
  exact AJ rfl AQ
 refine AI ?_;refine Bh ?_;refine AI ?_;obtain ⟨j2,hj2,h⟩:=OB h;refine AL (s1:=⟨Fr 143 [(0,.st x0),(1,.st x1),(5,.j (x1.length:Int)),(16,.b j2)],[]⟩) ?_ ?_
 ·refine AD (n:=143) AC 3 [(0,.st x0),(1,.st x1),(5,.j (x1.length:Int)),(19,.b ((x1.length:Int)==0))] [] (by kernel_rfl) ?_
  rcases BE ((x1.length:Int)==0) with hc8 | hc8
  ·rw [if_pos hc8] at hj2
   rw [hc8];refine AD (n:=143) AC 5 [(0,.st x0),(1,.st x1),(5,.j (x1.length:Int)),(16,.b true)] [] (by kernel_rfl) ?_;have hq:=OI hj2; subst hq;exact AJ rfl AQ
  ·rw [Bx hc8] at hj2
   rw [hc8];refine AD (n:=143) AC 5 [(0,.st x0),(1,.st x1),(5,.j (x1.length:Int)),(16,.b (x1==x0))] [] (by kernel_rfl) ?_;have hq:=OI hj2; subst hq;exact AJ rfl AQ
 refine AU (b:=j2) (by kernel_rfl) (fun hb3=>?_) (fun hb3=>?_)
 ·rw [if_pos hb3] at h
  refine AI ?_;refine AL (s1:=⟨Fr 143 [(4,.j 0)],[]⟩) ?_ ?_
  ·refine AD (n:=143) AC 1 [(4,.j 0)] [] (by kernel_rfl) ?_
   exact AJ rfl AQ
  refine Ah ?_;have hq:=OI h; subst hq;exact ⟨⟨Fr 143 [(4,.j 0)],[]⟩,AQ,.inr rfl,[.j 0],(by kernel_rfl),(by kernel_rfl)⟩
 ·rw [Bx hb3] at h
  refine AI ?_;refine AL (s1:=⟨Fr 143 [(0,.st x0),(1,.st x1),(5,.j (x1.length:Int)),(24,.b ((x1.length:Int)==1))],[]⟩) ?_ ?_
  ·refine AD (n:=143) AC 3 [(0,.st x0),(1,.st x1),(5,.j (x1.length:Int)),(24,.b ((x1.length:Int)==1))] [] (by kernel_rfl) ?_
   exact AJ rfl AQ
  refine AU (b:=((x1.length:Int)==1)) (by kernel_rfl) (fun hb4=>?_) (fun hb4=>?_)
  ·rw [if_pos hb4] at h
   refine AI ?_;obtain ⟨v5,hv5,h⟩:=OB h;obtain ⟨v6,hv6,h⟩:=OB h;refine AL (s1:=⟨Fr 143 [(4,.j v6)],[]⟩) ?_ ?_
   ·refine AD (n:=143) AC 2 [(27,.st x0),(28,.st x1)] [] (by kernel_rfl) ?_
    refine Aw AC 0 rfl (BH (AA rfl) rfl (JL (a:= .st x1) (b:= .j 0) (by kernel_rfl) (by kernel_rfl) (Ho (bs:=x1) (ki:= .i64) (by kernel_rfl) hv5))) ?_;refine Af (caps:=[]) (xs:=[.st x0,.v (.int .u8 (v5.toNat:Int))]) (u:=(x0,(v5.toNat:Int),())) rfl rfl H3 rfl (AA rfl) (by kernel_rfl) (by kernel_rfl) (As (BU (c:=cdS) (v:=x0)) (As (BU (c:=(cdK .u8)) (v:=(v5.toNat:Int))) B3)) (.inl (by kernel_rfl)) hv6 ?_;refine AD (n:=143) AC 1 [(4,.j v6)] [] (by kernel_rfl) ?_;exact AJ rfl AQ
   refine Ah ?_;have hq:=OI h; subst hq;exact ⟨⟨Fr 143 [(4,.j v6)],[]⟩,AQ,.inr rfl,[.j v6],(by kernel_rfl),(by kernel_rfl)⟩
  ·rw [Bx hb4] at h
   refine AI ?_;refine AL (s1:=⟨Fr 143 [(31,.b (decide ((x1.length:Int)≥(x0.length:Int))))],[]⟩) ?_ ?_
   ·refine AD (n:=143) AC 5 [(31,.b (decide ((x1.length:Int)≥(x0.length:Int))))] [] (by kernel_rfl) ?_
    exact AJ rfl AQ
   refine AU (b:=(decide ((x1.length:Int)≥(x0.length:Int)))) (by kernel_rfl) (fun hb7=>?_) (fun hb7=>?_)
   ·rw [if_pos hb7] at h
    refine AI ?_;refine AL (s1:=⟨Fr 143 [(4,.j (-1))],[]⟩) ?_ ?_
    ·refine AD (n:=143) AC 1 [(4,.j (-1))] [] (by kernel_rfl) ?_
     exact AJ rfl AQ
    refine Ah ?_;have hq:=OI h; subst hq;exact ⟨⟨Fr 143 [(4,.j (-1))],[]⟩,AQ,.inr rfl,[.j (-1)],(by kernel_rfl),(by kernel_rfl)⟩
   ·rw [Bx hb7] at h
    refine AI ?_;cases h
def JP:List AV->Option AV:=FZ EK (fun a=>CK a.1 a.2.1) EM
theorem Gh:XOk 76 JP:=by
 refine Az Tryz.func76 (c:=F5) ?h2 ⟨Tryz.call76⟩ EK (fun a=>CK a.1 a.2.1) EM (fun a=>(by show 2<=143; decide)) ?h3 ?h4
 case h2=>kernel_rfl
 case h3=>intro b; kernel_rfl
 case h4=>exact fun a b h=>Ij a.1 a.2.1 b h
/- internal/stringslite.Cut -/
noncomputable def Gk:Code:=BX Tryz.f64
def Df (x0:(List UInt8)) (x1:(List UInt8)):Option ((List UInt8)×(List UInt8)×Bool) :=
 (CK x0 x1).bind fun v1 =>
 if (decide (v1≥0))=true then
 if (Cn 0 v1 x0.length)=true then
 if (Cn (wr .i64 (v1 + (x1.length:Int))) (x0.length:Int) x0.length)=true then
 some (((x0.take v1.toNat).drop (0:Int).toNat),((x0.take (x0.length:Int).toNat).drop (wr .i64 (v1 + (x1.length:Int))).toNat),true)
 else none
 else none
 else
 some (x0,[],false)
def FB:Cs ((List UInt8)×(List UInt8)×Unit):=(csC cdS (csC cdS csN))
def FC (r:(List UInt8)×(List UInt8)×Bool):AV:= .tp [cdS.enc r.1,cdS.enc r.2.1,cdB.enc r.2.2]
theorem JN (x0:(List UInt8)) (x1:(List UInt8)) (r:(List UInt8)×(List UInt8)×Bool) (h:Df x0 x1=some r):Sem E0 ⟨none,false⟩ Gk ⟨Fr 23 (BB 0 (FB.enc (x0,x1,()))),[]⟩ fun e s'=>(e = .normal\/e = .ret)/\∃ xs,D4 E0.P s'.fr s'.hp Tryz.f64.results.toList=some xs/\Eh xs=FC r:=by
 unfold Df at h;refine CB (DP (s1:=⟨Fr 23 [(0,.st x0),(1,.st x1)],[]⟩) AQ ?_);refine AI ?_;refine AL (s1:=⟨Fr 23 [(0,.st x0),(1,.st x1)],[]⟩) ?_ ?_
 ·refine AD (n:=23) AC 3 [(0,.st x0),(1,.st x1)] [] (by kernel_rfl) ?_
  exact AJ rfl AQ
 refine AI ?_;refine AI ?_;obtain ⟨v1,hv1,h⟩:=OB h
 let p1:Nat×AV:=(7,.j v1)
 refine AL (s1:=⟨Fr 23 [(0,.st x0),(1,.st x1),p1],[]⟩) ?_ ?_
 ·refine AD (n:=23) AC 2 [(0,.st x0),(1,.st x1),(8,.st x0),(9,.st x1)] [] (by kernel_rfl) ?_
  refine Af (caps:=[]) (xs:=[.st x0,.st x1]) (u:=(x0,x1,())) rfl rfl Gh rfl (AA rfl) (by kernel_rfl) (by kernel_rfl) (As (BU (c:=cdS) (v:=x0)) (As (BU (c:=cdS) (v:=x1)) B3)) (.inl (by kernel_rfl)) hv1 ?_;refine AD (n:=23) AC 1 [(0,.st x0),(1,.st x1),p1] [] (by kernel_rfl) ?_;exact AJ rfl AQ
 refine AI ?_
 let p2:Nat×AV:=(12,.b (decide (v1≥0)))
 refine AL (s1:=⟨Fr 23 [(0,.st x0),(1,.st x1),p1,p2],[]⟩) ?_ ?_
 ·refine AD (n:=23) AC 2 [(0,.st x0),(1,.st x1),p1,p2] [] (by kernel_rfl) ?_
  exact AJ rfl AQ
 refine AU (b:=(decide (v1≥0))) (by kernel_rfl) (fun hb2=>?_) (fun hb2=>?_)
 ·rw [if_pos hb2] at h
  refine AI ?_;by_cases hk3:(Cn 0 v1 x0.length)=true
  case neg=>rw [if_neg hk3] at h; cases h
  rw [if_pos hk3] at h;by_cases hk4:(Cn (wr .i64 (v1 + (x1.length:Int))) (x0.length:Int) x0.length)=true
  case neg=>rw [if_neg hk4] at h; cases h
  rw [if_pos hk4] at h
  let p3:Nat×AV:=(6,.b true)
  let p4:Nat×AV:=(5,.st ((x0.take (x0.length:Int).toNat).drop (wr .i64 (v1 + (x1.length:Int))).toNat))
  let p5:Nat×AV:=(4,.st ((x0.take v1.toNat).drop (0:Int).toNat))
  refine LD AC (s1:=⟨Fr 23 [p5,p4,p3],[]⟩) (by kernel_rfl) ?_ ?_
  ·refine EG (n:=23) AC 2 [(0,.st x0),(1,.st x1),p1,(13,.st x0),(14,.j v1)] [] (by kernel_rfl) (by kernel_rfl) ?_
   refine RunDS.one AC rfl (by kernel_rfl) (RA (by kernel_rfl) (AA rfl) rfl (EO (a:= .st x0) (l:=none) (u:=(some (.j v1))) (m:=none) (by kernel_rfl) (by kernel_rfl) (by kernel_rfl) rfl (FY (bs:=x0) (lo:=0) (hi:=v1) (by kernel_rfl) rfl (Fd (Ji hk3)) hk3)) (by kernel_rfl)) ?_;refine EG (n:=23) AC 5 [(15,.st ((x0.take v1.toNat).drop (0:Int).toNat)),(16,.st x0),(20,.j (wr .i64 (v1 + (x1.length:Int))))] [] (by kernel_rfl) (by kernel_rfl) ?_;refine RunDS.one AC rfl (by kernel_rfl) (RA (by kernel_rfl) (AA rfl) rfl (EO (a:= .st x0) (l:=(some (.j (wr .i64 (v1 + (x1.length:Int)))))) (u:=none) (m:=none) (by kernel_rfl) (by kernel_rfl) (by kernel_rfl) rfl (FY (bs:=x0) (lo:=(wr .i64 (v1 + (x1.length:Int)))) (hi:=(x0.length:Int)) (by kernel_rfl) (Fd (KY hk4)) rfl hk4)) (by kernel_rfl)) ?_;refine EG (n:=23) AC 3 [p5,p4,p3] [] (by kernel_rfl) (by kernel_rfl) ?_;exact RunDS.done rfl AQ
  refine Ah ?_;have hq:=OI h; subst hq;exact ⟨⟨Fr 23 [p5,p4,p3],[]⟩,AQ,.inr rfl,[.st ((x0.take v1.toNat).drop (0:Int).toNat),.st ((x0.take (x0.length:Int).toNat).drop (wr .i64 (v1 + (x1.length:Int))).toNat),.b true],(by kernel_rfl),(by kernel_rfl)⟩
 ·rw [Bx hb2] at h
  refine Ax ?_;refine AI ?_
  let p6:Nat×AV:=(6,.b false)
  refine AL (s1:=⟨Fr 23 [(4,.st x0),(5,.st []),p6],[]⟩) ?_ ?_
  ·refine AD (n:=23) AC 4 [(4,.st x0),(5,.st []),p6] [] (by kernel_rfl) ?_
   exact AJ rfl AQ
  refine Ah ?_;have hq:=OI h; subst hq;exact ⟨⟨Fr 23 [(4,.st x0),(5,.st []),p6],[]⟩,AQ,.inr rfl,[.st x0,.st [],.b false],(by kernel_rfl),(by kernel_rfl)⟩
def KS:List AV->Option AV:=FZ FB (fun a=>Df a.1 a.2.1) FC
theorem KW:XOk 64 KS:=by
 refine Az Tryz.func64 (c:=Gk) ?h2 ⟨Tryz.call64⟩ FB (fun a=>Df a.1 a.2.1) FC (fun a=>(by show 2<=23; decide)) ?h3 ?h4
 case h2=>kernel_rfl
 case h3=>intro b; kernel_rfl
 case h4=>exact fun a b h=>JN a.1 a.2.1 b h
/- strings.Cut -/
noncomputable def I5:Code:=BX Tryz.f33
def Ea (x0:(List UInt8)) (x1:(List UInt8)):Option ((List UInt8)×(List UInt8)×Bool) :=
 (Df x0 x1).bind fun v1 =>
 some (v1.1,v1.2.1,v1.2.2)
def HD:Cs ((List UInt8)×(List UInt8)×Unit):=(csC cdS (csC cdS csN))
def HG (r:(List UInt8)×(List UInt8)×Bool):AV:= .tp [cdS.enc r.1,cdS.enc r.2.1,cdB.enc r.2.2]
theorem Lk (x0:(List UInt8)) (x1:(List UInt8)) (r:(List UInt8)×(List UInt8)×Bool) (h:Ea x0 x1=some r):Sem E0 ⟨none,false⟩ I5 ⟨Fr 13 (BB 0 (HD.enc (x0,x1,()))),[]⟩ fun e s'=>(e = .normal\/e = .ret)/\∃ xs,D4 E0.P s'.fr s'.hp Tryz.f33.results.toList=some xs/\Eh xs=HG r:=by
 unfold Ea at h;refine CB (DP (s1:=⟨Fr 13 [(0,.st x0),(1,.st x1)],[]⟩) AQ ?_);refine AI ?_;refine AL (s1:=⟨Fr 13 [(0,.st x0),(1,.st x1)],[]⟩) ?_ ?_
 ·refine AD (n:=13) AC 3 [(0,.st x0),(1,.st x1)] [] (by kernel_rfl) ?_
  exact AJ rfl AQ
 refine AI ?_;obtain ⟨v1,hv1,h⟩:=OB h
 let p1:Nat×AV:=(6,.b v1.2.2)
 refine AL (s1:=⟨Fr 13 [(4,.st v1.1),(5,.st v1.2.1),p1],[]⟩) ?_ ?_
 ·refine AD (n:=13) AC 2 [(7,.st x0),(8,.st x1)] [] (by kernel_rfl) ?_
  refine Af (caps:=[]) (xs:=[.st x0,.st x1]) (u:=(x0,x1,())) rfl rfl KW rfl (AA rfl) (by kernel_rfl) (by kernel_rfl) (As (BU (c:=cdS) (v:=x0)) (As (BU (c:=cdS) (v:=x1)) B3)) (.inl (by kernel_rfl)) hv1 ?_;refine AD (n:=13) AC 6 [(4,.st v1.1),(5,.st v1.2.1),p1] [] (by kernel_rfl) ?_;exact AJ rfl AQ
 refine Ah ?_;have hq:=OI h; subst hq;exact ⟨⟨Fr 13 [(4,.st v1.1),(5,.st v1.2.1),p1],[]⟩,AQ,.inr rfl,[.st v1.1,.st v1.2.1,.b v1.2.2],(by kernel_rfl),(by kernel_rfl)⟩
def NN:List AV->Option AV:=FZ HD (fun a=>Ea a.1 a.2.1) HG
theorem NU:XOk 33 NN:=by
 refine Az Tryz.func33 (c:=I5) ?h2 ⟨Tryz.call33⟩ HD (fun a=>Ea a.1 a.2.1) HG (fun a=>(by show 2<=13; decide)) ?h3 ?h4
 case h2=>kernel_rfl
 case h3=>intro b; kernel_rfl
 case h4=>exact fun a b h=>Lk a.1 a.2.1 b h
end Go.Proofs.YtdjhmdbpcfnpgaaGreatDoor
