/- Lemmas for the proof. -/
import Derived.Test.YteidjjolfapemaaDoorEveningRoundM1
import Derived.Test.YteidjjolfapemaaDoorEveningRoundM2
import Derived.Test.YteidjjolfapemaaDoorEveningRoundM3
import Derived.Shelf.Strings.Search1
import Derived.Shelf.Strings.Count
set_option maxHeartbeats 4000000
set_option maxRecDepth 100000
namespace Go.Proofs.YteidjjolfapemaaDoor
open Go.RowKit
/- (*strings.Builder).WriteString -/
noncomputable def Aa:Env:=E0
theorem Bm:EnvOk Aa:=AD
noncomputable def Bu:Code:=BW Tryd.f22
def Ay (x0:(List UInt8)) (x1:(List UInt8)):Option (Int×(List Int)) :=
 A3.bind fun _v1 =>
 if (B8 1 ((Aw x0).length + (Aw x1).length))=true then
 some ((x1.length:Int),((Aw x0)++(Aw x1)))
 else none
theorem DN {L:List Asn}{hp:Hp}(u0:AV) (u1:AV) (x0:(List UInt8)) (x1:(List UInt8)) (r:Int×(List Int)) (h:Ay x0 x1=some r) (hT:T hp ((cel u0 2 54 (.ag [u0,u1]))::(own_ (ocL 1 5 (ocV (cdK .u8))) u1 (Aw x0))::L)):SemY Aa ⟨none,false⟩ Bu ⟨Fr 19 (At 0 [u0,.st x1]),hp⟩ fun x s'=>(x = .normal\/x = .ret)/\∃ ys,EM Aa.P s'.fr s'.hp Tryd.f22.results.toList=some ys/\(fun v h'=>∃ (z0:AV),v = .tp [.v (.int .i64 r.1),.v .nilIface]/\T h' ((cel u0 2 54 (.ag [u0,z0]))::(own_ (ocL 1 5 (ocV (cdK .u8))) z0 r.2)::L)) (Ef ys) s'.hp:=by
 have he:=Bm
 unfold Ay at h;refine Dt (Eh (s1:=⟨Fr 19 [(0,u0),(1,.st x1)],hp⟩) WkY.f1 ?_);refine Ar he [(0,u0),(1,.st x1)] ?_;refine AN ?_;refine AG ?_;refine Af he 1 ?_;obtain ⟨v1,hv1,h⟩:=OB h;refine D2 (E:=Aa) (e:=Ax) rfl rfl Bx rfl rfl (fid:=46) (caps:=[]) (xs:=[u0]) (fn:=Tryd.f46) (c:=CG) (Out:=fun v h'=>v = .tp []/\T h' ((cel u0 2 54 (.ag [u0,u1]))::(own_ (ocL 1 5 (ocV (cdK .u8))) u1 (Aw x0))::L)) rfl (AA rfl) kr kr kr kr (by show 1<=20; decide) (Dd u0 u1 x0 _ hv1 hT) ?_;rintro xx hp2 ⟨hqhp2,hT3⟩; subst xx;refine As rfl (SemY.fr (l':=[(0,u0),(1,.st x1)]) kr ?_);refine AN ?_;refine AG ?_;refine Af he 2 ?_;refine AO he 0 rfl (Bd (AA rfl) rfl (Ib (EL hT3) kr)) ?_;refine AO he 0 rfl (Bd (AA rfl) rfl (Ia (a:=u0) kr (F4 (off:=1) hT3 kr))) ?_;refine AO he 0 rfl (Bd (AA rfl) rfl (FA (p:=HQ u0 1) kr (Hh (off:=1) (y:=u1) (m:=1) (g:=false) hT3 kr kr kr))) ?_;refine Af he 1 ?_;by_cases hk8:(B8 1 ((Aw x0).length + (Aw x1).length))=true
 case neg=>rw [if_neg hk8] at h; cases h
 rw [if_pos hk8] at h
 have hT9:=(hT3.front 1 rfl)
 obtain ⟨e7,hp4,hb5,hT6⟩:=K0 (P:=Tryd.prog) (ty:=24) (ty2:=9) (bytes:=1) (y:= .st x1) (ys:=(Aw x1)) hT9 kr MO kr hk8;refine AO he 0 rfl (NJ (AA rfl) rfl kr kr (D0 (a:=u1) (b:= .st x1) kr kr hb5)) ?_
 have hT10:=(hT6.front 1 rfl)
 refine AO he 0 rfl (Bd (AA rfl) rfl (Ib (EL hT10) kr)) ?_;refine AO he 0 rfl (Bd (AA rfl) rfl (Ia (a:=u0) kr (F4 (off:=1) hT10 kr))) ?_;obtain ⟨hp11,hs12,hT13⟩:=OT (off:=1) (P:=Tryd.prog) (ty:=24) (y:=e7) (a':= .ag [u0,e7]) hT10 (by have hq:=FW (hT10.front 1 rfl); revert hq; generalize e7=zz; intro hq; cases zz <;> first | (exact (Bool.false_ne_true hq.1).elim) | (exact (Bool.false_ne_true hq.2).elim) | skip; all_goals (first | rfl | kernel_rfl | exact rfl)) (by have hq:=FW (hT10.front 1 rfl); revert hq; generalize e7=zz; intro hq; cases zz <;> first | (exact (Bool.false_ne_true hq.1).elim) | (exact (Bool.false_ne_true hq.2).elim) | skip; all_goals (first | rfl | kernel_rfl | exact rfl)) (by have hq:=FW (hT10.front 1 rfl); revert hq; generalize e7=zz; intro hq; cases zz <;> first | (exact (Bool.false_ne_true hq.1).elim) | (exact (Bool.false_ne_true hq.2).elim) | skip; all_goals (first | rfl | kernel_rfl | exact rfl));refine RunL.store he (y:=HQ u0 1) (z:=e7) rfl (AA rfl) kr kr hs12 ?_;refine As rfl (SemY.fr (l':=[(1,.st x1)]) kr ?_)
 let p1:Nat×AV:=(4,.v (.int .i64 (x1.length:Int)))
 refine Ar he [p1,(5,.v .nilIface)] ?_;refine SemY.ret ?_;have hq:=OI h; subst hq;exact ⟨⟨Fr 19 [p1,(5,.v .nilIface)],hp11⟩,WkY.f1,.inr rfl,[.v (.int .i64 (x1.length:Int)),.v .nilIface],kr,⟨e7,rfl,hT13⟩⟩
/- (*strings.Builder).String -/
noncomputable def BG:Env:=E0
theorem CZ:EnvOk BG:=AD
noncomputable def Ck:Code:=BW Tryd.f24
def BX (x0:(List UInt8)):Option ((List UInt8)) :=
 if (decide (0 < (Aw x0).length))=true then
 if (decide (0 < x0.length))=true then
 if (okB x0)=true then
 some x0
 else none
 else none
 else none
theorem EX {L:List Asn}{hp:Hp}(u0:AV) (u1:AV) (x0:(List UInt8)) (r:(List UInt8)) (h:BX x0=some r) (hT:T hp ((cel u0 2 54 (.ag [u0,u1]))::(own_ (ocL 1 5 (ocV (cdK .u8))) u1 (Aw x0))::L)):SemY BG ⟨none,false⟩ Ck ⟨Fr 14 (At 0 [u0]),hp⟩ fun x s'=>(x = .normal\/x = .ret)/\∃ ys,EM BG.P s'.fr s'.hp Tryd.f24.results.toList=some ys/\(fun v h'=>v = .st r/\T h' ((cel u0 2 54 (.ag [u0,u1]))::L)) (Ef ys) s'.hp:=by
 have he:=CZ
 unfold BX at h;refine Dt (Eh (s1:=⟨Fr 14 [(0,u0)],hp⟩) WkY.f1 ?_);refine Ar he [(0,u0)] ?_;refine AN ?_;refine Jw 10 he.mixed kr kr ?_;refine RunDT.q (x:=u0) rfl kr rfl (AA rfl) rfl kr kr ?_;refine RunDT.q (x:=u0) rfl kr rfl (AA rfl) rfl (Ib (EL hT) kr) kr ?_;refine RunDT.q (x:=HQ u0 1) rfl kr rfl (AA rfl) rfl (Ia (a:=u0) kr (F4 (off:=1) hT kr)) kr ?_;refine RunDT.q (x:=u1) rfl kr rfl (AA rfl) rfl (FA (p:=HQ u0 1) kr (Hh (off:=1) (y:=u1) (m:=1) (g:=false) hT kr kr kr)) (Iq (off:=1) hT kr) ?_;by_cases hk1:(decide (0 < (Aw x0).length))=true
 case neg=>rw [if_neg hk1] at h; cases h
 rw [if_pos hk1] at h
 have hT2:=(hT.front 1 rfl)
 refine RunDT.q (x:=eAt u1 0) rfl kr rfl (AA rfl) rfl (SA (a:=u1) hT2 kr hk1) kr ?_;refine RunDT.q (x:=u0) rfl kr rfl (AA rfl) rfl kr kr ?_
 have hT3:=(hT2.front 1 rfl)
 refine RunDT.q (x:=u0) rfl kr rfl (AA rfl) rfl (Ib (EL hT3) kr) kr ?_;refine RunDT.q (x:=HQ u0 1) rfl kr rfl (AA rfl) rfl (Ia (a:=u0) kr (F4 (off:=1) hT3 kr)) kr ?_;refine RunDT.q (x:=u1) rfl kr rfl (AA rfl) rfl (FA (p:=HQ u0 1) kr (Hh (off:=1) (y:=u1) (m:=1) (g:=false) hT3 kr kr kr)) (Iq (off:=1) hT kr) ?_
 have hT4:=(hT3.front 1 rfl)
 refine RunDT.q (x:= .v (.int .i64 ((Aw x0).length:Int))) rfl kr rfl (AA rfl) rfl (Ca (a:=u1) kr (QA hT4 kr)) kr ?_;refine Ju rfl ?_;by_cases hk5:(decide (0 < x0.length))=true
 case neg=>rw [if_neg hk5] at h; cases h
 rw [if_pos hk5] at h;by_cases hk6:(okB x0)=true
 case neg=>rw [if_neg hk6] at h; cases h
 rw [if_pos hk6] at h;obtain ⟨hp7,hb8,hT9⟩:=PN (P:=Tryd.prog) (ty:=89) (el:=5) hT4 kr kr hk5 hk6;refine AO he 0 rfl (NJ (AA rfl) rfl kr kr (Q9 (a:=eAt u1 0) (b:= .v (.int .i64 ((Aw x0).length:Int))) kr kr hb8)) ?_;refine A5 he [(2,.st x0)] ?_;refine SemY.ret ?_;have hq:=OI h; subst hq;exact ⟨⟨Fr 14 [(2,.st x0)],hp7⟩,WkY.f1,.inr rfl,[.st x0],kr,⟨rfl,hT9⟩⟩
/- (*strings.Builder).String -/
noncomputable def A7:Env:=E0
theorem CQ:EnvOk A7:=AD
noncomputable def Ch:Code:=BW Tryd.f24
def C5  : Option ((List UInt8)) :=
 some []
theorem EN {L:List Asn}{hp:Hp}(u0:AV) (r:(List UInt8)) (h:C5  = some r) (hT:T hp ((cel u0 2 54 (.ag [.v (.pointer none),.v (.slice none 0 0)]))::L)):SemY A7 ⟨none,false⟩ Ch ⟨Fr 14 (At 0 [u0]),hp⟩ fun x s'=>(x = .normal\/x = .ret)/\∃ ys,EM A7.P s'.fr s'.hp Tryd.f24.results.toList=some ys/\(fun v h'=>v = .st r/\T h' ((cel u0 2 54 (.ag [.v (.pointer none),.v (.slice none 0 0)]))::L)) (Ef ys) s'.hp:=by
 have he:=CQ
 unfold C5 at h;refine Dt (Eh (s1:=⟨Fr 14 [(0,u0)],hp⟩) WkY.f1 ?_);refine Ar he [(0,u0)] ?_;refine AN ?_;refine Jw 10 he.mixed kr kr ?_;refine RunDT.q (x:=u0) rfl kr rfl (AA rfl) rfl kr kr ?_;refine RunDT.q (x:=u0) rfl kr rfl (AA rfl) rfl (Ib (EL hT) kr) kr ?_;refine RunDT.q (x:=HQ u0 1) rfl kr rfl (AA rfl) rfl (Ia (a:=u0) kr (F4 (off:=1) hT kr)) kr ?_;refine RunDT.q (x:= .v (.slice none 0 0)) rfl kr rfl (AA rfl) rfl (FA (p:=HQ u0 1) kr (Hh (off:=1) (y:= .v (.slice none 0 0)) (m:=1) (g:=false) hT kr kr kr)) (Iq (off:=1) hT kr) ?_;refine RunDT.q (x:= .v (.pointer none)) rfl kr rfl (AA rfl) rfl kr kr ?_;refine RunDT.q (x:=u0) rfl kr rfl (AA rfl) rfl kr kr ?_;refine RunDT.q (x:=u0) rfl kr rfl (AA rfl) rfl (Ib (EL hT) kr) kr ?_;refine RunDT.q (x:=HQ u0 1) rfl kr rfl (AA rfl) rfl (Ia (a:=u0) kr (F4 (off:=1) hT kr)) kr ?_;refine RunDT.q (x:= .v (.slice none 0 0)) rfl kr rfl (AA rfl) rfl (FA (p:=HQ u0 1) kr (Hh (off:=1) (y:= .v (.slice none 0 0)) (m:=1) (g:=false) hT kr kr kr)) (Iq (off:=1) hT kr) ?_;refine RunDT.q (x:= .v (.int .i64 0)) rfl kr rfl (AA rfl) rfl kr kr ?_;refine Ju rfl ?_;refine A5 he [(2,.st [])] ?_;refine SemY.ret ?_;have hq:=OI h; subst hq;exact ⟨⟨Fr 14 [(2,.st [])],hp⟩,WkY.f1,.inr rfl,[.st []],kr,⟨rfl,hT⟩⟩
/-- A block told in another way. -/
theorem WkY.blk {E:Env}{fr:List (Option AV)}{h:Hp}{b k:Nat}{t:TypeId}{es es':List AV}(hb:h[b]? = some (some ⟨k,t,es,false⟩)) (hl:es'.length=es.length) (hv:∀ (i:Nat) (x':AV),es'[i]? = some x'->∃ x,es[i]? = some x/\∀ w Z R u,VR w Z R x u->VR w Z R x' u):WkY E ⟨fr,h⟩ ⟨fr,h.set b (some ⟨k,t,es',false⟩)⟩:=by
 intro base w Z R a sr
 have hlt:=F5 hb
 have hget:∀ (j:Nat) (B:Blk),(h.set b (some ⟨k,t,es',false⟩))[j]? = some (some B)->∃ B0,h[j]? = some (some B0)/\B0.fz=B.fz/\B0.k=B.k/\B0.t=B.t/\B.es.length=B0.es.length/\∀ (i:Nat) (x':AV),B.es[i]? = some x'->∃ x,B0.es[i]? = some x/\∀ w Z R u,VR w Z R x u->VR w Z R x' u:=fun j B hB=>by
  rw [List.getElem?_set] at hB
  split at hB
  ·next e =>
   subst e
   try rw [if_pos hlt] at hB
   have hB:=(OI (OI hB)).symm
   subst hB
   exact ⟨_,hb,rfl,rfl,rfl,hl,hv⟩
  ·exact ⟨B,hB,rfl,rfl,rfl,rfl,fun i x' hx=>⟨x',hx,fun _ _ _ _ h=>h⟩⟩
 have hown:∀ c,own R (h.set b (some ⟨k,t,es',false⟩)) c->own R h c:=fun c ⟨j,B,r,h1,h2,h3,h4⟩=>by
  obtain ⟨B0,q1,q2,_⟩:=hget j B h1
  exact ⟨j,B0,r,q1,q2.trans h2,h3,h4⟩
 refine ⟨Z,R,⟨⟨by simp [sr.hh.len],fun j B hB=>?_,fun j j' B B' r r' h1 f1 h2 f2 g1 g2 e=>?_,sr.hh.zlt⟩,sr.fr,?_,sr.gl,sr.bs⟩,⟨rfl,rfl,rfl,Nat.le_refl _,fun _ _ _=>rfl,fun c hc=> .inl (hown c hc),fun _ h=>h,fun _ h=> .inl h,fun _ _ h=>h⟩⟩
 ·obtain ⟨B0,q1,q2,q3,q4,q5,q6⟩:=hget j B hB
  obtain ⟨r,arr,us,g1,g2,g3,g4,g5,g6,g7,g8,g9,g10⟩:=sr.hh.blk j B0 q1
  rw [q3] at g2 g4 g10
  rw [q4] at g3
  rw [q2] at g7 g8
  refine ⟨r,arr,us,g1,g2,g3,g4,by rw [q5]; exact g5,g6,g7,g8,⟨by rw [g9.len,q5],fun i x' u hx hu=>?_⟩,g10⟩
  obtain ⟨x,p1,p2⟩:=q6 i x' hx
  exact p2 _ _ _ _ (g9.at_ i x u p1 hu)
 ·obtain ⟨B0,q1,q2,_⟩:=hget j B h1
  obtain ⟨B0',q1',q2',_⟩:=hget j' B' h2
  exact sr.hh.inj j j' B0 B0' r r' q1 (q2.trans f1) q1' (q2'.trans f2) g1 g2 e
 ·exact sr.mks.imp fun q h3 h4 h5=>⟨h3,h4,fun ho=>h5 (hown q ho)⟩
/-- A Builder: not written yet, or with the bytes. -/
def bld (ty:TypeId) (p:AV) (bs:List UInt8):Asn where
 at_ h F:=(bs=[]/\(cel p 2 ty (.ag [.v (.pointer none),.v (.slice none 0 0)])).at_ h F)\/(bs≠[]/\∃ e,(Rq (cel p 2 ty (.ag [p,e])) (own_ (ocL 1 5 (ocV (cdK .u8))) e (Aw bs))).at_ h F)
 loc:=fun ha k=>by
  rcases ha with ⟨h1,h2⟩ | ⟨h1,e,h2⟩
  ·exact .inl ⟨h1,Asn.loc _ h2 k⟩
  ·exact .inr ⟨h1,e,Asn.loc _ h2 k⟩
 own:=fun ha hb=>by
  rcases ha with ⟨h1,h2⟩ | ⟨h1,e,h2⟩
  ·exact Asn.own _ h2 hb
  ·exact Asn.own _ h2 hb
section
variable {h:Hp}{ty:TypeId}{p:AV}{bs:List UInt8}{L:List Asn}
theorem Pn (ht:T h (cel p 2 ty (.ag [.v (.pointer none),.v (.slice none 0 0)])::L)):T h (bld ty p []::L):=by
 obtain ⟨F,q,hn,hk,_⟩:=ht.act
 exact hk h _ F (.inl ⟨rfl,q⟩) hn (fun _ _ _=>rfl) (fun b hb=> .inl hb)
theorem MH {e:AV}(hne:bs≠[]) (ht:T h (cel p 2 ty (.ag [p,e])::own_ (ocL 1 5 (ocV (cdK .u8))) e (Aw bs)::L)):T h (bld ty p bs::L):=by
 obtain ⟨F,q,hn,hk,_⟩:=(T.join.1 ht).act
 exact hk h _ F (.inr ⟨hne,e,q⟩) hn (fun _ _ _=>rfl) (fun b hb=> .inl hb)
theorem Na (ht:T h (bld ty p bs::L)):(bs=[]/\T h (cel p 2 ty (.ag [.v (.pointer none),.v (.slice none 0 0)])::L))\/(bs≠[]/\∃ e,T h (cel p 2 ty (.ag [p,e])::own_ (ocL 1 5 (ocV (cdK .u8))) e (Aw bs)::L)):=by
 obtain ⟨F,q,hn,hk,_⟩:=ht.act
 rcases q with ⟨h1,h2⟩ | ⟨h1,e,h2⟩
 ·exact .inl ⟨h1,hk h _ F h2 hn (fun _ _ _=>rfl) (fun b hb=> .inl hb)⟩
 ·exact .inr ⟨h1,e,T.join.2 (hk h _ F h2 hn (fun _ _ _=>rfl) (fun b hb=> .inl hb))⟩
/-- The buffer that is nil is seen as an empty one. -/
theorem Oq {E:Env}{fr:List (Option AV)}(ht:T h (cel p 2 ty (.ag [.v (.pointer none),.v (.slice none 0 0)])::L)):∃ h',WkY E ⟨fr,h⟩ ⟨fr,h'⟩/\T h' (cel p 2 ty (.ag [.v (.pointer none),.e0])::L):=by
 obtain ⟨F,⟨b,rfl,rfl,h2⟩,hn,hk,_⟩:=ht.act
 have hb:=F5 h2
 refine ⟨h.set b (some ⟨2,ty,[.ag [.v (.pointer none),.e0]],false⟩),WkY.blk h2 rfl fun i x' hx=>?_,hk _ _ [b] ⟨b,rfl,rfl,by simp [hb]⟩ (by simp) (fun c hc _=>by rw [List.getElem?_set,if_neg (by intro e; subst e; simp at hc)]) (fun c hc=> .inl hc)⟩
 match i with
 | 0 =>
  simp at hx; subst hx
  refine ⟨_,rfl,fun w Z R u hv=>?_⟩
  cases hv with
  | ag hl h1 hx =>
   refine .ag (by simpa using hl) h1 fun i x u hi hu=>?_
   match i with
   | 0=>simp at hi; subst hi; exact hx 0 _ u rfl hu
   | 1 =>
    simp at hi; subst hi
    have:=(hx 1 _ u rfl hu).v_inv
    subst this
    exact .e0
   | i + 2=>simp at hi
 | i + 1=>simp at hx
end
section
variable {E:Env}{cx:Cx}{ops:Array Oper}{rest rest':List Oper}{K:St->Prop}{n d:Nat}{l:List (Nat×AV)}{hp:Hp}{ty:TypeId}{p:AV}{bs s:List UInt8}{L:List Asn}
theorem Lg {t':TypeId}{pos:String}{af:Array Edge}{g:Option (Nat×Bool)}(ht:T hp L) (hr:rest=⟨some d,.alloc ty,t',pos,af,g⟩::rest') (hw:Ad ops (Fr n l) ⟨some d,.alloc ty,t',pos,af,g⟩=some true) (hz0:DM E.P ty=some (.ag [.v (.pointer none),.e0])) (hz:((E.P.info? ty).bind (·.zero))=some (.agg #[.pointer none,.slice none 0 0])) (k:∀ p hp',T hp' (bld ty p []::L)->RunL E cx ops rest' ⟨Fr n ((d,p)::l),hp'⟩ K):RunL E cx ops rest ⟨Fr n l,hp⟩ K:=by
 subst hr
 intro ro base Q a w Z R hro sr hy q
 refine Gm rfl (wantedA_eq sr hw) ?_
 obtain ⟨u,_,_,hrun,i,hi,hiz⟩:=FV (w:=w) (Z:=Z) (R:=R) hz0
 have hu:u = .agg #[.pointer none,.slice none 0 0]:=by
  rw [hi] at hz
  have hz:i.zero=some _:=hz
  rw [hiz] at hz
  exact OI hz
 have hv:VR w Z R (.ag [.v (.pointer none),.v (.slice none 0 0)]) u:=by
  rw [hu]
  refine .ag (us:=[.pointer none,.slice none 0 0]) rfl rfl fun i x u hx hu=>?_
  match i with
  | 0=>simp at hx hu; subst hx hu; exact .v rfl
  | 1=>simp at hx hu; subst hx hu; exact .v rfl
  | i + 2=>simp at hx
 obtain ⟨p,hp',hb,hT⟩:=Po (t:=ty) (a:= .ag [.v (.pointer none),.v (.slice none 0 0)]) ht rfl
 obtain ⟨w',R',h1,h2,h3,h4,h5⟩:=HA (P:=E.P) sr.hh hv hb
 have sr':=(sr.step h2 h4).put (d:=some d) h3
 rw [show IZ (⟨Fr n l,hp⟩:St).fr (some d) p=Fr n ((d,p)::l) from Be n l d _] at sr'
 refine J5 (u:= .pointer (some ⟨w.heap.size,0,none⟩)) (w':=w') (by simp [execOp,Instr.alloc,hrun,h1]) ?_
 exact k p hp' (Pn hT) ro base Q _ w' Z R' hro sr' (hy.step sr.hh h4) fun s' a' w'' Z'' R'' hK sr'' st'=>q s' a' w'' Z'' R'' hK sr'' (h4.trans st')
theorem FZ (hP:E.P=E0.P) (hG:E.G=E0.G){f:Operand}{args:Array Operand}{tys:Array TypeId}{t':TypeId}{pos:String}{af:Array Edge}{g:Option (Nat×Bool)}(ht:T hp (bld 54 p bs::L)) (hn:decide (0 < s.length)=true) (hc:B8 1 (bs.length + s.length)=true) (hr:rest=⟨some d,.call ⟨.value f,args,tys⟩,t',pos,af,g⟩::rest') (hw:Ad ops (Fr n l) ⟨some d,.call ⟨.value f,args,tys⟩,t',pos,af,g⟩=some true)
  (hf:opA E (Fr n l) f=some (.fn 22 [] [])) (ha:Ed (opA E (Fr n l)) args.toList=some [p,.st s]) (k:∀ hp',T hp' (bld 54 p (bs++s)::L)->RunL E cx ops rest' ⟨Fr n ((d,.tp [.v (.int .i64 (s.length:Int)),.v .nilIface])::l),hp'⟩ K):RunL E cx ops rest ⟨Fr n l,hp⟩ K:=by
 have hne:bs++s≠[]:=fun e=>by
  have:=of_decide_eq_true hn
  have hs:s=[]:=(List.append_eq_nil_iff.1 e).2
  subst hs; simp at this
 rcases Na ht with ⟨rfl,hT⟩ | ⟨hb,e,hT⟩
 ·obtain ⟨h',hwk,hT'⟩:=Oq (E:=E) (fr:=Fr n l) hT
  refine Lh hwk ?_
  have hv:A1 s=some ((s.length:Int),[]++Aw s):=by
   unfold A1 BC
   simp only [OS]
   rw [if_pos (by rw [FI]; exact hc)]
  refine D2 (e:=Ac) hP hG Bq rfl rfl (fid:=22) (caps:=[]) (xs:=[p,.st s]) (fn:=Tryd.f22) (c:=CB) (Out:=fun v h'=>∃ (z0:AV),v = .tp [.v (.int .i64 (s.length:Int)),.v .nilIface]/\T h' (cel p 2 54 (.ag [p,z0])::own_ (ocL 1 5 (ocV (cdK .u8))) z0 ([]++Aw s)::L)) hr hw hf ha (by kernel_rfl) (by kernel_rfl) (by show 2<=19; decide) (Dc p s _ hv hT') ?_
  rintro xx hp' ⟨z,hq,hT2⟩; subst xx
  refine k hp' (MH (e:=z) hne ?_)
  exact hT2
 ·have hv:Ay bs s=some ((s.length:Int),Aw bs++Aw s):=by
   unfold Ay A3
   simp only [OS]
   rw [if_pos (by rw [FI,FI]; exact hc)]
  refine D2 (e:=Aa) hP hG Bm rfl rfl (fid:=22) (caps:=[]) (xs:=[p,.st s]) (fn:=Tryd.f22) (c:=Bu) (Out:=fun v h'=>∃ (z0:AV),v = .tp [.v (.int .i64 (s.length:Int)),.v .nilIface]/\T h' (cel p 2 54 (.ag [p,z0])::own_ (ocL 1 5 (ocV (cdK .u8))) z0 (Aw bs++Aw s)::L)) hr hw hf ha (by kernel_rfl) (by kernel_rfl) (by show 2<=19; decide) (DN p e bs s _ hv hT) ?_
  rintro xx hp' ⟨z,hq,hT2⟩; subst xx
  refine k hp' (MH (e:=z) hne ?_)
  rw [Mz]
  exact hT2
theorem Kx (hP:E.P=E0.P) (hG:E.G=E0.G){f:Operand}{args:Array Operand}{tys:Array TypeId}{t':TypeId}{pos:String}{af:Array Edge}{g:Option (Nat×Bool)}(ht:T hp (bld 54 p bs::L)) (hk:okB bs=true) (hr:rest=⟨some d,.call ⟨.value f,args,tys⟩,t',pos,af,g⟩::rest') (hw:Ad ops (Fr n l) ⟨some d,.call ⟨.value f,args,tys⟩,t',pos,af,g⟩=some true)
  (hf:opA E (Fr n l) f=some (.fn 24 [] [])) (ha:Ed (opA E (Fr n l)) args.toList=some [p]) (k:∀ hp',T hp' L->RunL E cx ops rest' ⟨Fr n ((d,.st bs)::l),hp'⟩ K):RunL E cx ops rest ⟨Fr n l,hp⟩ K:=by
 rcases Na ht with ⟨rfl,hT⟩ | ⟨hb,e,hT⟩
 ·refine D2 (e:=A7) hP hG CQ rfl rfl (fid:=24) (caps:=[]) (xs:=[p]) (fn:=Tryd.f24) (c:=Ch) (Out:=fun v h'=>v = .st []/\T h' (cel p 2 54 (.ag [.v (.pointer none),.v (.slice none 0 0)])::L)) hr hw hf ha (by kernel_rfl) (by kernel_rfl) (by show 1<=14; decide) (EN p [] rfl hT) ?_
  rintro xx hp' ⟨hq,hT2⟩; subst xx
  exact k hp' hT2.drop
 ·have hlen:0 < bs.length:=by
   cases bs with
   | nil=>exact absurd rfl hb
   | cons a r=>simp
  have hv:BX bs=some bs:=by
   unfold BX
   rw [if_pos (by rw [FI]; simpa using hlen),if_pos (by simpa using hlen),if_pos hk]
  refine D2 (e:=BG) hP hG CZ rfl rfl (fid:=24) (caps:=[]) (xs:=[p]) (fn:=Tryd.f24) (c:=Ck) (Out:=fun v h'=>v = .st bs/\T h' (cel p 2 54 (.ag [p,e])::L)) hr hw hf ha (by kernel_rfl) (by kernel_rfl) (by show 1<=14; decide) (EX p e bs _ hv hT) ?_
  rintro xx hp' ⟨hq,hT2⟩; subst xx
  exact k hp' hT2.drop
end
/- trestle/evening.Format -/
noncomputable def AX:Env:=((E0.withX 21 Gc).withX 23 G5)
theorem Bi:EnvOk AX:=(EnvOk.withX (EnvOk.withX AD Gi.1 Gi.2) G8.1 G8.2)
noncomputable def BI:Code:=BW Tryd.f8
def CK (c10:Int) (c11:(List UInt8)):Option (((List UInt8))) :=
 if (decide (c10 > 0))=true then
 if (decide (0 < ([32,47,32]:List UInt8).length))=true then
 if (B8 1 (c11.length + ([32,47,32]:List UInt8).length))=true then
 some (c11++([32,47,32]:List UInt8))
 else none
 else none
 else
 some c11
def CL (c23:Int) (c24:(List UInt8)):Option (((List UInt8))) :=
 if (decide (c23 > 0))=true then
 if (decide (0 < ([32]:List UInt8).length))=true then
 if (B8 1 (c24.length + ([32]:List UInt8).length))=true then
 some (c24++([32]:List UInt8))
 else none
 else none
 else
 some c24
def Ai (v13:(List Int)):Nat->Int->(List UInt8)->Option (((List UInt8)))
 | 0,_,_=>none
 | f + 1,c23,c24 =>
  if (decide (c23 < (v13.length:Int)))=true then
  (idx v13 c23).bind fun v26 =>
  (CL c23 c24).bind fun r33 =>
  (Bf v26).bind fun v36 =>
  if (decide (0 < v36.length))=true then
  if (B8 1 (r33.length + v36.length))=true then
  Ai v13 f (wr .i64 (c23 + 1)) (r33++v36)
  else none
  else none
  else
  some c24
def Ah (v9:(List (List Int))):Nat->Int->(List UInt8)->Option (((List UInt8)))
 | 0,_,_=>none
 | f + 1,c10,c11 =>
  if (decide (c10 < (v9.length:Int)))=true then
  (idx v9 c10).bind fun v13 =>
  (CK c10 c11).bind fun r20 =>
  (Ai v13 100000 0 r20).bind fun r42 =>
  Ah v9 f (wr .i64 (c10 + 1)) r42
  else
  some c11
def Aq (x1:(List (List (List Int)))):Nat->Int->(List UInt8)->Option (((List UInt8)))
 | 0,_,_=>none
 | f + 1,c6,c7 =>
  if (decide (c6 < (x1.length:Int)))=true then
  (idx x1 c6).bind fun v9 =>
  (Ah v9 100000 0 c7).bind fun r46 =>
  if (decide (0 < ([10]:List UInt8).length))=true then
  if (B8 1 (r46.length + ([10]:List UInt8).length))=true then
  Aq x1 f (wr .i64 (c6 + 1)) (r46++([10]:List UInt8))
  else none
  else none
  else
  some c7
def BL (x0:Int) (x1:(List (List (List Int)))):Option ((List UInt8)) :=
 (Bz x0 x1).bind fun v1 =>
 if (!v1)=true then
 some []
 else
 (Aq x1 100000 0 ([]:List UInt8)).bind fun r54 =>
 if (okB r54)=true then
 some r54
 else none
theorem Gt {L:List Asn}{hp:Hp}(c10:Int) (c11:(List UInt8)) (x1:(List (List (List Int)))) (e3:AV) (c6:Int) (v9:(List (List Int))) (v13:(List Int)) (r:((List UInt8))) (h:CK c10 c11=some r) (hT:T hp ((bld 54 e3 c11)::L)):SemY AX ⟨none,false⟩ (pc BI [1,1,1,0,1,0,0,1,1,0,0,1,0,1,0,0,1,1,0,0,1,0,1]) ⟨Fr 50 [(5,e3),(9,.sl 1 (v13.map cdI.enc)),(16,.sl 1 (x1.map (cdL 1 (cdL 1 cdI)).enc)),(17,.v (.int .i64 (x1.length:Int))),(18,.v (.int .i64 c6)),(22,.sl 1 (v9.map (cdL 1 cdI).enc)),(23,.v (.int .i64 (v9.length:Int))),(24,.v (.int .i64 c10)),(30,.v (.bool (decide (c10 > 0))))],hp⟩ (fun e s=>e = .normal/\∃ s2,(∃ (h':Hp),T h' ((bld 54 e3 r)::L)/\s2=⟨Fr 50 [(5,e3),(9,.sl 1 (v13.map cdI.enc)),(16,.sl 1 (x1.map (cdL 1 (cdL 1 cdI)).enc)),(17,.v (.int .i64 (x1.length:Int))),(18,.v (.int .i64 c6)),(22,.sl 1 (v9.map (cdL 1 cdI).enc)),(23,.v (.int .i64 (v9.length:Int))),(24,.v (.int .i64 c10))],h'⟩)/\WkY AX s s2):=by
 unfold CK at h;refine Bg (b:=(decide (c10 > 0))) kr (fun hb14=>?_) (fun hb14=>?_)
 ·rw [if_pos hb14] at h
  refine AG ?_;by_cases hk15:(decide (0 < ([32,47,32]:List UInt8).length))=true
  case neg=>rw [if_neg hk15] at h; cases h
  rw [if_pos hk15] at h;by_cases hk16:(B8 1 (c11.length + ([32,47,32]:List UInt8).length))=true
  case neg=>rw [if_neg hk16] at h; cases h
  rw [if_pos hk16] at h;refine FZ rfl rfl hT hk15 hk16 rfl (AA rfl) kr kr ?_;intro hp17 hT18;refine As rfl ?_;have hq:=OI h; subst hq;exact ⟨rfl,_,⟨hp17,hT18,rfl⟩,WkY.f1⟩
 ·rw [B3 hb14] at h
  refine SemY.skip ?_;have hq:=OI h; subst hq;exact ⟨rfl,_,⟨hp,hT,rfl⟩,WkY.f1⟩
theorem Gu {L:List Asn}{hp:Hp}(c23:Int) (c24:(List UInt8)) (x1:(List (List (List Int)))) (e3:AV) (c6:Int) (v9:(List (List Int))) (c10:Int) (v13:(List Int)) (v26:Int) (r:((List UInt8))) (h:CL c23 c24=some r) (hT:T hp ((bld 54 e3 c24)::L)):SemY AX ⟨none,false⟩ (pc BI [1,1,1,0,1,0,0,1,1,0,0,1,0,1,0,0,1,1,0,0,1,1,1,0,0,1,1,0,0,1,0,1]) ⟨Fr 50 [(5,e3),(11,.v (.int .i64 v26)),(16,.sl 1 (x1.map (cdL 1 (cdL 1 cdI)).enc)),(17,.v (.int .i64 (x1.length:Int))),(18,.v (.int .i64 c6)),(22,.sl 1 (v9.map (cdL 1 cdI).enc)),(23,.v (.int .i64 (v9.length:Int))),(24,.v (.int .i64 c10)),(32,.sl 1 (v13.map cdI.enc)),(33,.v (.int .i64 (v13.length:Int))),(34,.v (.int .i64 c23)),(40,.v (.bool (decide (c23 > 0))))],hp⟩ (fun e s=>e = .normal/\∃ s2,(∃ (h':Hp),T h' ((bld 54 e3 r)::L)/\s2=⟨Fr 50 [(5,e3),(11,.v (.int .i64 v26)),(16,.sl 1 (x1.map (cdL 1 (cdL 1 cdI)).enc)),(17,.v (.int .i64 (x1.length:Int))),(18,.v (.int .i64 c6)),(22,.sl 1 (v9.map (cdL 1 cdI).enc)),(23,.v (.int .i64 (v9.length:Int))),(24,.v (.int .i64 c10)),(32,.sl 1 (v13.map cdI.enc)),(33,.v (.int .i64 (v13.length:Int))),(34,.v (.int .i64 c23))],h'⟩)/\WkY AX s s2):=by
 unfold CL at h;refine Bg (b:=(decide (c23 > 0))) kr (fun hb27=>?_) (fun hb27=>?_)
 ·rw [if_pos hb27] at h
  refine AG ?_;by_cases hk28:(decide (0 < ([32]:List UInt8).length))=true
  case neg=>rw [if_neg hk28] at h; cases h
  rw [if_pos hk28] at h;by_cases hk29:(B8 1 (c24.length + ([32]:List UInt8).length))=true
  case neg=>rw [if_neg hk29] at h; cases h
  rw [if_pos hk29] at h;refine FZ rfl rfl hT hk28 hk29 rfl (AA rfl) kr kr ?_;intro hp30 hT31;refine As rfl ?_;have hq:=OI h; subst hq;exact ⟨rfl,_,⟨hp30,hT31,rfl⟩,WkY.f1⟩
 ·rw [B3 hb27] at h
  refine SemY.skip ?_;have hq:=OI h; subst hq;exact ⟨rfl,_,⟨hp,hT,rfl⟩,WkY.f1⟩
theorem HE {L:List Asn}(v13:(List Int)) (x1:(List (List (List Int)))) (e3:AV) (c6:Int) (v9:(List (List Int))) (c10:Int):∀ (f:Nat) (c23:Int) (c24:(List UInt8)) (r:((List UInt8))),Ai v13 f c23 c24=some r->∀ (hp:Hp),T hp ((bld 54 e3 c24)::L)->SemYN AX ⟨none,false⟩ (pc BI [1,1,1,0,1,0,0,1,1,0,0,1,0,1,0,0,1,1,0,0,1,1,1,0,0]) f ⟨Fr 50 [(5,e3),(16,.sl 1 (x1.map (cdL 1 (cdL 1 cdI)).enc)),(17,.v (.int .i64 (x1.length:Int))),(18,.v (.int .i64 c6)),(22,.sl 1 (v9.map (cdL 1 cdI).enc)),(23,.v (.int .i64 (v9.length:Int))),(24,.v (.int .i64 c10)),(32,.sl 1 (v13.map cdI.enc)),(33,.v (.int .i64 (v13.length:Int))),(34,.v (.int .i64 c23))],hp⟩ (fun e s=>e=(.exit 4)/\∃ s2,(∃ (h':Hp),T h' ((bld 54 e3 r)::L)/\s2=⟨Fr 50 [(5,e3),(16,.sl 1 (x1.map (cdL 1 (cdL 1 cdI)).enc)),(17,.v (.int .i64 (x1.length:Int))),(18,.v (.int .i64 c6)),(22,.sl 1 (v9.map (cdL 1 cdI).enc)),(23,.v (.int .i64 (v9.length:Int))),(24,.v (.int .i64 c10))],h'⟩)/\WkY AX s s2):=by
 have he:=Bi
 intro f;induction f with
 | zero=>intro c23 c24 r h; cases h
 | succ f ih0 =>
  intro c23 c24 r h  hp hT;unfold Ai at h;refine FH ?_
  let p1:Nat×AV:=(34,.v (.int .i64 c23))
  let p2:Nat×AV:=(33,.v (.int .i64 (v13.length:Int)))
  let p3:Nat×AV:=(32,.sl 1 (v13.map cdI.enc))
  let p4:Nat×AV:=(24,.v (.int .i64 c10))
  let p5:Nat×AV:=(23,.v (.int .i64 (v9.length:Int)))
  let p6:Nat×AV:=(22,.sl 1 (v9.map (cdL 1 cdI).enc))
  let p7:Nat×AV:=(18,.v (.int .i64 c6))
  let p8:Nat×AV:=(17,.v (.int .i64 (x1.length:Int)))
  let p9:Nat×AV:=(16,.sl 1 (x1.map (cdL 1 (cdL 1 cdI)).enc))
  refine Ar he [(5,e3),p9,p8,p7,p6,p5,p4,p3,p2,p1,(35,.v (.bool (decide (c23 < (v13.length:Int)))))] ?_;refine AN ?_;refine Bg (b:=(decide (c23 < (v13.length:Int)))) kr (fun hb25=>?_) (fun hb25=>?_)
  ·rw [if_pos hb25] at h
   refine SemY.skip ?_;refine AN ?_;refine Cc ?_;refine AN ?_;refine AG ?_;refine Af he 1 ?_;obtain ⟨v26,hv26,h⟩:=OB h;refine AO he 0 rfl (Bd (AA rfl) rfl (AR (a:= .sl 1 (v13.map cdI.enc)) (b:= .v (.int .i64 c23)) kr kr (F9 (e:=cdI.enc) (el:=3) (k:=1) (ki:= .i64) kr kr hv26))) ?_;refine A5 he [(5,e3),(10,.v (.int .i64 c23)),(11,.v (.int .i64 v26)),p9,p8,p7,p6,p5,p4,p3,p2,p1] ?_;refine AN ?_;refine Ar he [(5,e3),(11,.v (.int .i64 v26)),p9,p8,p7,p6,p5,p4,p3,p2,p1,(40,.v (.bool (decide (c23 > 0))))] ?_;obtain ⟨r33,hr33,h⟩:=OB h;refine Iz (Gu c23 c24 x1 e3 c6 v9 c10 v13 v26 _ hr33 hT) ?_;rintro _ ⟨hp34,hT35,rfl⟩;refine AG ?_;refine Af he 1 ?_;obtain ⟨v36,hv36,h⟩:=OB h;refine RunL.call he (fid:=23) (b:=v36) (s:=DR) (F:=fun a=>Bf a.1) (er:=DY) (xs:=[.v (.int .i64 v26)]) (a:=(v26,())) rfl (AA rfl) kr kr kr kr (Sns.cons (Sn.enc (c:=cdI) (v:=v26)) Sns.nil) (.inl kr) hv36 ?_;by_cases hk37:(decide (0 < v36.length))=true
   case neg=>rw [if_neg hk37] at h; cases h
   rw [if_pos hk37] at h;by_cases hk38:(B8 1 (r33.length + v36.length))=true
   case neg=>rw [if_neg hk38] at h; cases h
   rw [if_pos hk38] at h;refine FZ rfl rfl hT35 hk37 hk38 rfl (AA rfl) kr kr ?_;intro hp39 hT40;refine As rfl (SemY.fr (l':=[(5,e3),p9,p8,p7,p6,p5,p4,p3,p2,p1]) kr ?_);refine AG ?_;refine Af he 2 ?_;refine As rfl ?_;exact C6 WkY.f1 (ih0 (wr .i64 (c23 + 1)) (r33++v36) _ h  hp39 hT40)
  ·rw [B3 hb25] at h
   refine SemY.exit ?_;have hq:=OI h; subst hq;exact ⟨rfl,_,⟨hp,hT,rfl⟩,WkY.f1⟩
theorem HD {L:List Asn}(v9:(List (List Int))) (x1:(List (List (List Int)))) (e3:AV) (c6:Int):∀ (f:Nat) (c10:Int) (c11:(List UInt8)) (r:((List UInt8))),Ah v9 f c10 c11=some r->∀ (hp:Hp),T hp ((bld 54 e3 c11)::L)->SemYN AX ⟨none,false⟩ (pc BI [1,1,1,0,1,0,0,1,1,0,0,1,0,1,0,0]) f ⟨Fr 50 [(5,e3),(16,.sl 1 (x1.map (cdL 1 (cdL 1 cdI)).enc)),(17,.v (.int .i64 (x1.length:Int))),(18,.v (.int .i64 c6)),(22,.sl 1 (v9.map (cdL 1 cdI).enc)),(23,.v (.int .i64 (v9.length:Int))),(24,.v (.int .i64 c10))],hp⟩ (fun e s=>e=(.exit 2)/\∃ s2,(∃ (h':Hp),T h' ((bld 54 e3 r)::L)/\s2=⟨Fr 50 [(5,e3),(16,.sl 1 (x1.map (cdL 1 (cdL 1 cdI)).enc)),(17,.v (.int .i64 (x1.length:Int))),(18,.v (.int .i64 c6))],h'⟩)/\WkY AX s s2):=by
 have he:=Bi
 intro f;induction f with
 | zero=>intro c10 c11 r h; cases h
 | succ f ih0 =>
  intro c10 c11 r h  hp hT;unfold Ah at h;refine FH ?_
  let p1:Nat×AV:=(24,.v (.int .i64 c10))
  let p2:Nat×AV:=(23,.v (.int .i64 (v9.length:Int)))
  let p3:Nat×AV:=(22,.sl 1 (v9.map (cdL 1 cdI).enc))
  let p4:Nat×AV:=(18,.v (.int .i64 c6))
  let p5:Nat×AV:=(17,.v (.int .i64 (x1.length:Int)))
  let p6:Nat×AV:=(16,.sl 1 (x1.map (cdL 1 (cdL 1 cdI)).enc))
  refine Ar he [(5,e3),p6,p5,p4,p3,p2,p1,(25,.v (.bool (decide (c10 < (v9.length:Int)))))] ?_;refine AN ?_;refine Bg (b:=(decide (c10 < (v9.length:Int)))) kr (fun hb12=>?_) (fun hb12=>?_)
  ·rw [if_pos hb12] at h
   refine SemY.skip ?_;refine AN ?_;refine Cc ?_;refine AN ?_;refine AG ?_;refine Af he 1 ?_;obtain ⟨v13,hv13,h⟩:=OB h;refine AO he 0 rfl (Bd (AA rfl) rfl (AR (a:= .sl 1 (v9.map (cdL 1 cdI).enc)) (b:= .v (.int .i64 c10)) kr kr (F9 (e:=(cdL 1 cdI).enc) (el:=27) (k:=1) (ki:= .i64) kr kr hv13))) ?_;refine A5 he [(5,e3),(8,.v (.int .i64 c10)),(9,.sl 1 (v13.map cdI.enc)),p6,p5,p4,p3,p2,p1] ?_;refine AN ?_;refine Ar he [(5,e3),(9,.sl 1 (v13.map cdI.enc)),p6,p5,p4,p3,p2,p1,(30,.v (.bool (decide (c10 > 0))))] ?_;obtain ⟨r20,hr20,h⟩:=OB h;refine Iz (Gt c10 c11 x1 e3 c6 v9 v13 _ hr20 hT) ?_;rintro _ ⟨hp21,hT22,rfl⟩;refine AN ?_;refine AG ?_;refine Af he 1 ?_;refine AO he 0 rfl (Bd (AA rfl) rfl (Ca (a:= .sl 1 (v13.map cdI.enc)) kr (Bb (el:=3) kr))) ?_;refine A5 he [(5,e3),p6,p5,p4,p3,p2,p1,(32,.sl 1 (v13.map cdI.enc)),(33,.v (.int .i64 (v13.length:Int))),(34,.v (.int .i64 0))] ?_;refine Cc ?_;refine SemY.loop (n:=100000) ?_;obtain ⟨r42,hr42,h⟩:=OB h;refine Ec (C6 WkY.f1 (HE v13 x1 e3 c6 v9 c10 _ 0 r20 _ hr42  hp21 hT22)) ?_;rintro _ ⟨hp43,hT44,rfl⟩;refine AG ?_;refine Af he 2 ?_;refine As rfl ?_;exact C6 WkY.f1 (ih0 (wr .i64 (c10 + 1)) r42 _ h  hp43 hT44)
  ·rw [B3 hb12] at h
   refine SemY.exit ?_;have hq:=OI h; subst hq;exact ⟨rfl,_,⟨hp,hT,rfl⟩,WkY.f1⟩
theorem HC {L:List Asn}(x1:(List (List (List Int)))) (e3:AV):∀ (f:Nat) (c6:Int) (c7:(List UInt8)) (r:((List UInt8))),Aq x1 f c6 c7=some r->∀ (hp:Hp),T hp ((bld 54 e3 c7)::L)->SemYN AX ⟨none,false⟩ (pc BI [1,1,1,0,1,0,0]) f ⟨Fr 50 [(5,e3),(16,.sl 1 (x1.map (cdL 1 (cdL 1 cdI)).enc)),(17,.v (.int .i64 (x1.length:Int))),(18,.v (.int .i64 c6))],hp⟩ (fun e s=>e=(.exit 0)/\∃ s2,(∃ (h':Hp),T h' ((bld 54 e3 r)::L)/\s2=⟨Fr 50 [(5,e3)],h'⟩)/\WkY AX s s2):=by
 have he:=Bi
 intro f;induction f with
 | zero=>intro c6 c7 r h; cases h
 | succ f ih0 =>
  intro c6 c7 r h  hp hT;unfold Aq at h;refine FH ?_
  let p1:Nat×AV:=(18,.v (.int .i64 c6))
  let p2:Nat×AV:=(17,.v (.int .i64 (x1.length:Int)))
  let p3:Nat×AV:=(16,.sl 1 (x1.map (cdL 1 (cdL 1 cdI)).enc))
  refine Ar he [(5,e3),p3,p2,p1,(19,.v (.bool (decide (c6 < (x1.length:Int)))))] ?_;refine AN ?_;refine Bg (b:=(decide (c6 < (x1.length:Int)))) kr (fun hb8=>?_) (fun hb8=>?_)
  ·rw [if_pos hb8] at h
   refine SemY.skip ?_;refine AN ?_;refine Cc ?_;refine AN ?_;refine AG ?_;obtain ⟨v9,hv9,h⟩:=OB h;refine AO he 0 rfl (Bd (AA rfl) rfl (AR (a:= .sl 1 (x1.map (cdL 1 (cdL 1 cdI)).enc)) (b:= .v (.int .i64 c6)) kr kr (F9 (e:=(cdL 1 (cdL 1 cdI)).enc) (el:=43) (k:=1) (ki:= .i64) kr kr hv9))) ?_;refine A5 he [(5,e3),(7,.sl 1 (v9.map (cdL 1 cdI).enc)),p3,p2,p1] ?_;refine AN ?_;refine AN ?_;refine AG ?_;refine Af he 1 ?_;refine AO he 0 rfl (Bd (AA rfl) rfl (Ca (a:= .sl 1 (v9.map (cdL 1 cdI).enc)) kr (Bb (el:=27) kr))) ?_;refine A5 he [(5,e3),p3,p2,p1,(22,.sl 1 (v9.map (cdL 1 cdI).enc)),(23,.v (.int .i64 (v9.length:Int))),(24,.v (.int .i64 0))] ?_;refine Cc ?_;refine SemY.loop (n:=100000) ?_;obtain ⟨r46,hr46,h⟩:=OB h;refine Ec (C6 WkY.f1 (HD v9 x1 e3 c6 _ 0 c7 _ hr46  hp hT)) ?_;rintro _ ⟨hp47,hT48,rfl⟩;refine AG ?_;by_cases hk49:(decide (0 < ([10]:List UInt8).length))=true
   case neg=>rw [if_neg hk49] at h; cases h
   rw [if_pos hk49] at h;by_cases hk50:(B8 1 (r46.length + ([10]:List UInt8).length))=true
   case neg=>rw [if_neg hk50] at h; cases h
   rw [if_pos hk50] at h;refine FZ rfl rfl hT48 hk49 hk50 rfl (AA rfl) kr kr ?_;intro hp51 hT52;refine As rfl (SemY.fr (l':=[(5,e3),p3,p2,p1]) kr ?_);refine AG ?_;refine Af he 2 ?_;refine As rfl ?_;exact C6 WkY.f1 (ih0 (wr .i64 (c6 + 1)) (r46++([10]:List UInt8)) _ h  hp51 hT52)
  ·rw [B3 hb8] at h
   refine SemY.exit ?_;have hq:=OI h; subst hq;exact ⟨rfl,_,⟨hp,hT,rfl⟩,WkY.f1⟩
theorem Ha {L:List Asn}{hp:Hp}(x0:Int) (x1:(List (List (List Int)))) (r:(List UInt8)) (h:BL x0 x1=some r) (hT:T hp (L)):SemY AX ⟨none,false⟩ BI ⟨Fr 50 (At 0 [.v (.int .i64 x0),.sl 1 (x1.map (cdL 1 (cdL 1 cdI)).enc)]),hp⟩ fun x s'=>(x = .normal\/x = .ret)/\∃ ys,EM AX.P s'.fr s'.hp Tryd.f8.results.toList=some ys/\(fun v h'=>v = .st r/\T h' (L)) (Ef ys) s'.hp:=by
 have he:=Bi
 unfold BL at h
 let p1:Nat×AV:=(1,.sl 1 (x1.map (cdL 1 (cdL 1 cdI)).enc))
 refine Dt (Eh (s1:=⟨Fr 50 [(0,.v (.int .i64 x0)),p1],hp⟩) WkY.f1 ?_);refine Ar he [(0,.v (.int .i64 x0)),p1] ?_;refine AN ?_;refine AN ?_;refine AG ?_;refine Af he 2 ?_;obtain ⟨v1,hv1,h⟩:=OB h;refine RunL.call he (fid:=21) (b:=v1) (s:=DB) (F:=fun a=>Bz a.1 a.2.1) (er:=DG) (xs:=[.v (.int .i64 x0),.sl 1 (x1.map (cdL 1 (cdL 1 cdI)).enc)]) (a:=(x0,x1,())) rfl (AA rfl) kr kr kr kr (Sns.cons (Sn.enc (c:=cdI) (v:=x0)) (Sns.cons (Sn.enc (c:=(cdL 1 (cdL 1 (cdL 1 cdI)))) (v:=x1)) Sns.nil)) (.inl kr) hv1 ?_;refine A5 he [p1,(15,.v (.bool (!v1)))] ?_;refine Bg (b:=(!v1)) kr (fun hb2=>?_) (fun hb2=>?_)
 ·rw [if_pos hb2] at h
  refine Ar he [(4,.st [])] ?_;refine SemY.ret ?_;have hq:=OI h; subst hq;exact ⟨⟨Fr 50 [(4,.st [])],hp⟩,WkY.f1,.inr rfl,[.st []],kr,⟨rfl,hT⟩⟩
 ·rw [B3 hb2] at h
  refine SemY.skip ?_;refine AN ?_;refine AG ?_;refine Lg (ty:=54) hT rfl (AA rfl) kr kr ?_;intro e3 hp4 hT5;refine As rfl (SemY.fr (l':=[p1,(5,e3)]) kr ?_);refine AN ?_;refine AN ?_;refine AG ?_;refine Af he 1 ?_;refine AO he 0 rfl (Bd (AA rfl) rfl (Ca (a:= .sl 1 (x1.map (cdL 1 (cdL 1 cdI)).enc)) kr (Bb (el:=43) kr))) ?_;refine A5 he [(5,e3),(16,.sl 1 (x1.map (cdL 1 (cdL 1 cdI)).enc)),(17,.v (.int .i64 (x1.length:Int))),(18,.v (.int .i64 0))] ?_;refine Cc ?_;refine SemY.loop (n:=100000) ?_;obtain ⟨r54,hr54,h⟩:=OB h;refine Ec (C6 WkY.f1 (HC x1 e3 _ 0 ([]:List UInt8) _ hr54  hp4 hT5)) ?_;rintro _ ⟨hp55,hT56,rfl⟩;refine AN ?_;refine AG ?_;by_cases hk57:(okB r54)=true
  case neg=>rw [if_neg hk57] at h; cases h
  rw [if_pos hk57] at h;refine Kx rfl rfl hT56 hk57 rfl (AA rfl) kr kr ?_;intro hp58 hT59;refine A5 he [(4,.st r54)] ?_;refine SemY.ret ?_;have hq:=OI h; subst hq;exact ⟨⟨Fr 50 [(4,.st r54)],hp58⟩,WkY.f1,.inr rfl,[.st r54],kr,⟨rfl,hT59⟩⟩
def FK:Cs (Int×(List (List (List Int)))×Unit):=(csC cdI (csC (cdL 1 (cdL 1 (cdL 1 cdI))) csN))
def FN (r:(List UInt8)):AV:=cdS.enc r
def Ie:List AV->Option AV:=Ea FK (fun a=>BL a.1 a.2.1) FN
theorem F8:XOk 8 Ie:=by
 refine EnvOk.x (E:=AX) (BY Bi (fn:=Tryd.f8) (c:=BI) ?h1 ?h2 ⟨Tryd.call8⟩ FK (fun a=>BL a.1 a.2.1) FN (fun a=>(by show 2<=50; decide)) ?h3 ?h4) rfl rfl
 case h1=>kernel_rfl
 case h2=>kernel_rfl
 case h3=>intro b; kernel_rfl
 case h4 =>
  intro a b h;refine Sem.mono (NS (Ha (L:=[]) (hp:=[]) a.1 a.2.1 b h T.nil)) fun e s' hs=>?_
  obtain ⟨h1,ys,h2,h3,-⟩:=hs;exact ⟨h1,ys,h2,h3⟩
end Go.Proofs.YteidjjolfapemaaDoor
namespace Go.Proofs.YteidjjolfapemaaDoor
open Go.Shelf
def Ly:Go.Shelf.Ren:=⟨fun | 217=>66 | 266=>77 | n=>n,fun | 9=>9 | 5=>5 | 3=>3 | n=>n,fun | n=>n⟩
theorem P8:Go.Proofs.Lays.n217 Tryd.prog Ly:={
 mixed:=by kernel_rfl
 f217:=Tryd.func66.trans (congrArg some (by kernel_rfl))
 f266:=Tryd.func77.trans (congrArg some (by kernel_rfl))
 t3:=Tryd.underlying3
 a3:=Tryd.isAgg3
 z3:=Tryd.sizeOf3
 v3:=Tryd.zeroValue3
 t5:=Tryd.underlying5
 a5:=Tryd.isAgg5
 z5:=Tryd.sizeOf5
 v5:=Tryd.zeroValue5
 t9:=Tryd.underlying9
 a9:=Tryd.isAgg9
 z9:=Tryd.sizeOf9
 v9:=Tryd.zeroValue9 }
def Lx:Go.Shelf.Ren:=⟨fun | 138=>11 | 195=>32 | 218=>33 | 143=>34 | 219=>52 | 217=>66 | 225=>67 | 224=>68 | 267=>69 | 266=>77 | 314=>78 | n=>n,fun | 9=>9 | 3=>3 | 4=>4 | 5=>5 | 0=>0 | 46=>108 | 146=>118 | 51=>117 | n=>n,fun | 1=>0 | n=>n⟩
theorem P7:Go.Proofs.Lays.n138 Tryd.prog Lx:={
 mixed:=by kernel_rfl
 f138:=Tryd.func11.trans (congrArg some (by kernel_rfl))
 f143:=Tryd.func34.trans (congrArg some (by kernel_rfl))
 f195:=Tryd.func32.trans (congrArg some (by kernel_rfl))
 f217:=Tryd.func66.trans (congrArg some (by kernel_rfl))
 f218:=Tryd.func33.trans (congrArg some (by kernel_rfl))
 f219:=Tryd.func52.trans (congrArg some (by kernel_rfl))
 f224:=Tryd.func68.trans (congrArg some (by kernel_rfl))
 f225:=Tryd.func67.trans (congrArg some (by kernel_rfl))
 f266:=Tryd.func77.trans (congrArg some (by kernel_rfl))
 f267:=Tryd.func69.trans (congrArg some (by kernel_rfl))
 f314:=Tryd.func78.trans (congrArg some (by kernel_rfl))
 t0:=Tryd.underlying0
 a0:=Tryd.isAgg0
 z0:=Tryd.sizeOf0
 v0:=Tryd.zeroValue0
 t3:=Tryd.underlying3
 a3:=Tryd.isAgg3
 z3:=Tryd.sizeOf3
 v3:=Tryd.zeroValue3
 t4:=Tryd.underlying4
 a4:=Tryd.isAgg4
 z4:=Tryd.sizeOf4
 v4:=Tryd.zeroValue4
 t5:=Tryd.underlying5
 a5:=Tryd.isAgg5
 z5:=Tryd.sizeOf5
 v5:=Tryd.zeroValue5
 t9:=Tryd.underlying9
 a9:=Tryd.isAgg9
 z9:=Tryd.sizeOf9
 v9:=Tryd.zeroValue9
 t46:=Tryd.underlying108
 a46:=Tryd.isAgg108
 z46:=Tryd.sizeOf108
 v46:=Tryd.zeroValue108
 t51:=Tryd.underlying117
 a51:=Tryd.isAgg117
 z51:=Tryd.sizeOf117
 v51:=Tryd.zeroValue117
 t146:=Tryd.underlying118
 a146:=Tryd.isAgg118
 z146:=Tryd.sizeOf118
 v146:=Tryd.zeroValue118
 g1:=by kernel_rfl }
open Go.RowKit Go.Lib
def Cv (s:List UInt8) (c:Int):Option Int:=some (Lib.indexByte s c.toNat.toUInt8)
def DK:Cs (List UInt8×Int×Unit):=csC cdS (csC (cdK .u8) csN)
def FO (r:Int):AV:=cdI.enc r
def Fk:List AV->Option AV:=Ea DK (fun a=>Cv a.1 a.2.1) FO
theorem Fp:XOk 66 Fk:=by
 refine ⟨⟨Tryd.call66⟩,fun xs x h w Z us _ _ hv=>?_⟩
 obtain ⟨⟨s,c,u⟩,ha,hh⟩:=OB h
 obtain ⟨r,hb,rfl⟩:=Option.map_eq_some_iff.1 hh
 clear h hh
 replace hv:=DK.vr ha hv
 clear ha
 obtain ⟨u1,r1,rfl,h1,hv⟩:=hv.head
 obtain ⟨u2,r2,rfl,h2,hv⟩:=hv.head
 have:r2=[]:=List.eq_nil_of_length_eq_zero hv.len
 subst this
 have e2:=h2.v_inv
 subst e2
 have hb:r=Lib.indexByte s c.toNat.toUInt8:=(OI hb).symm
 subst hb
 cases h1 with
 | st hs hn =>
  rename_i sb
  refine Calls.mono (Any.stringslite_IndexByte P8 sb c w) fun e w' he=>?_
  obtain ⟨rfl,rfl⟩:=he
  exact ⟨JS _,by rw [hs]; exact .v rfl⟩
def B6 (s sub:List UInt8):Option Int:=match sub with
 | [c]=>some ((Lib.countByte s c:Nat):Int)
 | _=>none
def Fv:Cs (List UInt8×List UInt8×Unit):=csC cdS (csC cdS csN)
def IU (r:Int):AV:=cdI.enc r
def Jb:List AV->Option AV:=Ea Fv (fun a=>B6 a.1 a.2.1) IU
theorem Et:XOk 11 Jb:=by
 refine ⟨⟨Tryd.call11⟩,fun xs x h w Z us _ _ hv=>?_⟩
 obtain ⟨⟨s,sub,u⟩,ha,hh⟩:=OB h
 obtain ⟨r,hb,rfl⟩:=Option.map_eq_some_iff.1 hh
 clear h hh
 replace hv:=Fv.vr ha hv
 clear ha
 obtain ⟨u1,r1,rfl,h1,hv⟩:=hv.head
 obtain ⟨u2,r2,rfl,h2,hv⟩:=hv.head
 have:r2=[]:=List.eq_nil_of_length_eq_zero hv.len
 subst this
 obtain ⟨sb,rfl,hs⟩:∃ sb,u1 = .string sb/\sb.data.toList=s:=by cases h1 with | st h _=>exact ⟨_,rfl,h⟩
 obtain ⟨c,rfl,hr⟩:∃ c,sub=[c]/\r=((Lib.countByte s c:Nat):Int):=by
  have hb:B6 s sub=some r:=hb
  match sub,hb with
  | [c],hb=>exact ⟨c,rfl,(OI hb).symm⟩
 clear hb
 subst hr
 obtain ⟨sc,rfl,hs2⟩:∃ sc,u2 = .string sc/\sc.data.toList=[c]:=by cases h2 with | st h _=>exact ⟨_,rfl,h⟩
 have e:sc=ByteArray.mk #[c]:=by
  obtain ⟨d⟩:=sc
  congr 1
  apply Array.ext'
  exact hs2
 subst e
 refine Calls.mono (Any.strings_Count_one P7 sb c w) fun e w' he=>?_
 obtain ⟨rfl,rfl⟩:=he
 exact ⟨JS _,by rw [hs]; exact .v rfl⟩
/- internal/stringslite.Index -/
noncomputable def ER:Code:=BW Tryd.f52
def BK (x0:(List UInt8)) (x1:(List UInt8)):Option (Int) :=
 (if ((x1.length:Int)==0)=true then some true else some (x1==x0)).bind fun j2 =>
 if j2=true then
 some 0
 else
 if ((x1.length:Int)==1)=true then
 (idx x1 0).bind fun v5 =>
 (Cv x0 (v5.toNat:Int)).bind fun v6 =>
 some v6
 else
 if (decide ((x1.length:Int)≥(x0.length:Int)))=true then
 some (-1)
 else
 none
def C1:Cs ((List UInt8)×(List UInt8)×Unit):=(csC cdS (csC cdS csN))
def C3 (r:Int):AV:=cdI.enc r
theorem GZ (x0:(List UInt8)) (x1:(List UInt8)) (r:Int) (h:BK x0 x1=some r):Sem E0 ⟨none,false⟩ ER ⟨Fr 143 (At 0 (C1.enc (x0,x1,()))),[]⟩ fun e s'=>(e = .normal\/e = .ret)/\∃ xs,EM E0.P s'.fr s'.hp Tryd.f52.results.toList=some xs/\Ef xs=C3 r:=by
 unfold BK at h;refine BQ (CO (s1:=⟨Fr 143 [(0,.st x0),(1,.st x1)],[]⟩) AM ?_);refine AL AD [(0,.st x0),(1,.st x1)] [] ?_;refine AL AD [(0,.st x0),(1,.st x1),(5,.v (.int .i64 (x1.length:Int)))] [] ?_;refine AC ?_;refine AW ?_;refine AC ?_;obtain ⟨j2,hj2,h⟩:=OB h;refine AE (s1:=⟨Fr 143 [(0,.st x0),(1,.st x1),(5,.v (.int .i64 (x1.length:Int))),(16,.v (.bool j2))],[]⟩) ?_ ?_
 ·refine AB (n:=143) AD 3 [(0,.st x0),(1,.st x1),(5,.v (.int .i64 (x1.length:Int))),(19,.v (.bool ((x1.length:Int)==0)))] [] kr ?_
  rcases BE ((x1.length:Int)==0) with hc8 | hc8
  ·rw [if_pos hc8] at hj2
   rw [hc8];refine AB (n:=143) AD 5 [(0,.st x0),(1,.st x1),(5,.v (.int .i64 (x1.length:Int))),(16,.v (.bool true))] [] kr ?_;have hq:=OI hj2; subst hq;exact AH rfl AM
  ·rw [B3 hc8] at hj2
   rw [hc8];refine AB (n:=143) AD 5 [(0,.st x0),(1,.st x1),(5,.v (.int .i64 (x1.length:Int))),(16,.v (.bool (x1==x0)))] [] kr ?_;have hq:=OI hj2; subst hq;exact AH rfl AM
 refine AP (b:=j2) kr (fun hb3=>?_) (fun hb3=>?_)
 ·rw [if_pos hb3] at h
  refine AL AD [(4,.v (.int .i64 0))] [] ?_;refine AS ?_;have hq:=OI h; subst hq;exact ⟨⟨Fr 143 [(4,.v (.int .i64 0))],[]⟩,AM,.inr rfl,[.v (.int .i64 0)],kr,kr⟩
 ·rw [B3 hb3] at h
  refine AL AD [(0,.st x0),(1,.st x1),(5,.v (.int .i64 (x1.length:Int))),(24,.v (.bool ((x1.length:Int)==1)))] [] ?_;refine AP (b:=((x1.length:Int)==1)) kr (fun hb4=>?_) (fun hb4=>?_)
  ·rw [if_pos hb4] at h
   refine AC ?_;obtain ⟨v5,hv5,h⟩:=OB h;obtain ⟨v6,hv6,h⟩:=OB h;refine AE (s1:=⟨Fr 143 [(4,.v (.int .i64 v6))],[]⟩) ?_ ?_
   ·refine AB (n:=143) AD 2 [(27,.st x0),(28,.st x1)] [] kr ?_
    refine AI AD 0 rfl (Bd (AA rfl) rfl (JT (a:= .st x1) (b:= .v (.int .i64 0)) kr kr (Hf (bs:=x1) (ki:= .i64) kr hv5))) ?_;refine Ae (caps:=[]) (xs:=[.st x0,.v (.int .u8 (v5.toNat:Int))]) (u:=(x0,(v5.toNat:Int),())) rfl rfl Fp rfl (AA rfl) kr kr (Am (BU (c:=cdS) (v:=x0)) (Am (BU (c:=(cdK .u8)) (v:=(v5.toNat:Int))) Cz)) (.inl kr) hv6 ?_;exact AJ AD
   refine AS ?_;have hq:=OI h; subst hq;exact ⟨⟨Fr 143 [(4,.v (.int .i64 v6))],[]⟩,AM,.inr rfl,[.v (.int .i64 v6)],kr,kr⟩
  ·rw [B3 hb4] at h
   refine AL AD [(31,.v (.bool (decide ((x1.length:Int)≥(x0.length:Int)))))] [] ?_;refine AP (b:=(decide ((x1.length:Int)≥(x0.length:Int)))) kr (fun hb7=>?_) (fun hb7=>?_)
   ·rw [if_pos hb7] at h
    refine AL AD [(4,.v (.int .i64 (-1)))] [] ?_;refine AS ?_;have hq:=OI h; subst hq;exact ⟨⟨Fr 143 [(4,.v (.int .i64 (-1)))],[]⟩,AM,.inr rfl,[.v (.int .i64 (-1))],kr,kr⟩
   ·rw [B3 hb7] at h
    refine AC ?_;cases h
def HM:List AV->Option AV:=Ea C1 (fun a=>BK a.1 a.2.1) C3
theorem Eu:XOk 52 HM:=by
 refine Br Tryd.func52 (c:=ER) ?h2 ⟨Tryd.call52⟩ C1 (fun a=>BK a.1 a.2.1) C3 (fun a=>(by show 2<=143; decide)) ?h3 ?h4
 case h2=>kernel_rfl
 case h3=>intro b; kernel_rfl
 case h4=>exact fun a b h=>GZ a.1 a.2.1 b h
/- internal/stringslite.Cut -/
noncomputable def Ey:Code:=BW Tryd.f48
def CN (x0:(List UInt8)) (x1:(List UInt8)):Option ((List UInt8)×(List UInt8)×Bool) :=
 (BK x0 x1).bind fun v1 =>
 if (decide (v1≥0))=true then
 if (Ce 0 v1 x0.length)=true then
 if (Ce (wr .i64 (v1 + (x1.length:Int))) (x0.length:Int) x0.length)=true then
 some (((x0.take v1.toNat).drop (0:Int).toNat),((x0.take (x0.length:Int).toNat).drop (wr .i64 (v1 + (x1.length:Int))).toNat),true)
 else none
 else none
 else
 some (x0,[],false)
def DS:Cs ((List UInt8)×(List UInt8)×Unit):=(csC cdS (csC cdS csN))
def DZ (r:(List UInt8)×(List UInt8)×Bool):AV:= .tp [cdS.enc r.1,cdS.enc r.2.1,cdB.enc r.2.2]
theorem HK (x0:(List UInt8)) (x1:(List UInt8)) (r:(List UInt8)×(List UInt8)×Bool) (h:CN x0 x1=some r):Sem E0 ⟨none,false⟩ Ey ⟨Fr 23 (At 0 (DS.enc (x0,x1,()))),[]⟩ fun e s'=>(e = .normal\/e = .ret)/\∃ xs,EM E0.P s'.fr s'.hp Tryd.f48.results.toList=some xs/\Ef xs=DZ r:=by
 unfold CN at h;refine BQ (CO (s1:=⟨Fr 23 [(0,.st x0),(1,.st x1)],[]⟩) AM ?_);refine AL AD [(0,.st x0),(1,.st x1)] [] ?_;refine AC ?_;refine AC ?_;obtain ⟨v1,hv1,h⟩:=OB h
 let p1:Nat×AV:=(7,.v (.int .i64 v1))
 refine AE (s1:=⟨Fr 23 [(0,.st x0),(1,.st x1),p1],[]⟩) ?_ ?_
 ·refine AB (n:=23) AD 2 [(0,.st x0),(1,.st x1),(8,.st x0),(9,.st x1)] [] kr ?_
  refine Ae (caps:=[]) (xs:=[.st x0,.st x1]) (u:=(x0,x1,())) rfl rfl Eu rfl (AA rfl) kr kr (Am (BU (c:=cdS) (v:=x0)) (Am (BU (c:=cdS) (v:=x1)) Cz)) (.inl kr) hv1 ?_;exact AJ AD
 refine AL AD [(0,.st x0),(1,.st x1),p1,(12,.v (.bool (decide (v1≥0))))] [] ?_;refine AP (b:=(decide (v1≥0))) kr (fun hb2=>?_) (fun hb2=>?_)
 ·rw [if_pos hb2] at h
  refine AC ?_;by_cases hk3:(Ce 0 v1 x0.length)=true
  case neg=>rw [if_neg hk3] at h; cases h
  rw [if_pos hk3] at h;by_cases hk4:(Ce (wr .i64 (v1 + (x1.length:Int))) (x0.length:Int) x0.length)=true
  case neg=>rw [if_neg hk4] at h; cases h
  rw [if_pos hk4] at h
  let p2:Nat×AV:=(6,.v (.bool true))
  let p3:Nat×AV:=(5,.st ((x0.take (x0.length:Int).toNat).drop (wr .i64 (v1 + (x1.length:Int))).toNat))
  let p4:Nat×AV:=(4,.st ((x0.take v1.toNat).drop (0:Int).toNat))
  refine GG AD (s1:=⟨Fr 23 [p4,p3,p2],[]⟩) kr ?_ ?_
  ·refine BH (n:=23) AD 2 [(0,.st x0),(1,.st x1),p1,(13,.st x0),(14,.v (.int .i64 v1))] [] kr kr ?_
   refine RunDS.one AD rfl kr (H5 kr (AA rfl) rfl (Eq (a:= .st x0) (l:=none) (u:=(some (.v (.int .i64 v1)))) (m:=none) kr kr kr rfl (Gq (bs:=x0) (lo:=0) (hi:=v1) kr rfl (FT (IL hk3)) hk3)) kr) ?_;refine BH (n:=23) AD 5 [(15,.st ((x0.take v1.toNat).drop (0:Int).toNat)),(16,.st x0),(20,.v (.int .i64 (wr .i64 (v1 + (x1.length:Int)))))] [] kr kr ?_;refine RunDS.one AD rfl kr (H5 kr (AA rfl) rfl (Eq (a:= .st x0) (l:=(some (.v (.int .i64 (wr .i64 (v1 + (x1.length:Int))))))) (u:=none) (m:=none) kr kr kr rfl (Gq (bs:=x0) (lo:=(wr .i64 (v1 + (x1.length:Int)))) (hi:=(x0.length:Int)) kr (FT (K4 hk4)) rfl hk4)) kr) ?_;refine BH (n:=23) AD 3 [p4,p3,p2] [] kr kr ?_;exact RunDS.done rfl AM
  refine AS ?_;have hq:=OI h; subst hq;exact ⟨⟨Fr 23 [p4,p3,p2],[]⟩,AM,.inr rfl,[.st ((x0.take v1.toNat).drop (0:Int).toNat),.st ((x0.take (x0.length:Int).toNat).drop (wr .i64 (v1 + (x1.length:Int))).toNat),.v (.bool true)],kr,kr⟩
 ·rw [B3 hb2] at h
  refine AT ?_;refine AL AD [(4,.st x0),(5,.st []),(6,.v (.bool false))] [] ?_;refine AS ?_;have hq:=OI h; subst hq;exact ⟨⟨Fr 23 [(4,.st x0),(5,.st []),(6,.v (.bool false))],[]⟩,AM,.inr rfl,[.st x0,.st [],.v (.bool false)],kr,kr⟩
def IE:List AV->Option AV:=Ea DS (fun a=>CN a.1 a.2.1) DZ
theorem IK:XOk 48 IE:=by
 refine Br Tryd.func48 (c:=Ey) ?h2 ⟨Tryd.call48⟩ DS (fun a=>CN a.1 a.2.1) DZ (fun a=>(by show 2<=23; decide)) ?h3 ?h4
 case h2=>kernel_rfl
 case h3=>intro b; kernel_rfl
 case h4=>exact fun a b h=>HK a.1 a.2.1 b h
/- strings.Cut -/
noncomputable def Gy:Code:=BW Tryd.f26
def DJ (x0:(List UInt8)) (x1:(List UInt8)):Option ((List UInt8)×(List UInt8)×Bool) :=
 (CN x0 x1).bind fun v1 =>
 some (v1.1,v1.2.1,v1.2.2)
def FD:Cs ((List UInt8)×(List UInt8)×Unit):=(csC cdS (csC cdS csN))
def FE (r:(List UInt8)×(List UInt8)×Bool):AV:= .tp [cdS.enc r.1,cdS.enc r.2.1,cdB.enc r.2.2]
theorem JY (x0:(List UInt8)) (x1:(List UInt8)) (r:(List UInt8)×(List UInt8)×Bool) (h:DJ x0 x1=some r):Sem E0 ⟨none,false⟩ Gy ⟨Fr 13 (At 0 (FD.enc (x0,x1,()))),[]⟩ fun e s'=>(e = .normal\/e = .ret)/\∃ xs,EM E0.P s'.fr s'.hp Tryd.f26.results.toList=some xs/\Ef xs=FE r:=by
 unfold DJ at h;refine BQ (CO (s1:=⟨Fr 13 [(0,.st x0),(1,.st x1)],[]⟩) AM ?_);refine AL AD [(0,.st x0),(1,.st x1)] [] ?_;refine AC ?_;obtain ⟨v1,hv1,h⟩:=OB h;refine AE (s1:=⟨Fr 13 [(4,.st v1.1),(5,.st v1.2.1),(6,.v (.bool v1.2.2))],[]⟩) ?_ ?_
 ·refine AB (n:=13) AD 2 [(7,.st x0),(8,.st x1)] [] kr ?_
  refine Ae (caps:=[]) (xs:=[.st x0,.st x1]) (u:=(x0,x1,())) rfl rfl IK rfl (AA rfl) kr kr (Am (BU (c:=cdS) (v:=x0)) (Am (BU (c:=cdS) (v:=x1)) Cz)) (.inl kr) hv1 ?_;exact AJ AD
 refine AS ?_;have hq:=OI h; subst hq;exact ⟨⟨Fr 13 [(4,.st v1.1),(5,.st v1.2.1),(6,.v (.bool v1.2.2))],[]⟩,AM,.inr rfl,[.st v1.1,.st v1.2.1,.v (.bool v1.2.2)],kr,kr⟩
def Kn:List AV->Option AV:=Ea FD (fun a=>DJ a.1 a.2.1) FE
theorem Kt:XOk 26 Kn:=by
 refine Br Tryd.func26 (c:=Gy) ?h2 ⟨Tryd.call26⟩ FD (fun a=>DJ a.1 a.2.1) FE (fun a=>(by show 2<=13; decide)) ?h3 ?h4
 case h2=>kernel_rfl
 case h3=>intro b; kernel_rfl
 case h4=>exact fun a b h=>JY a.1 a.2.1 b h
section
variable {E:Env}{cx:Cx}{ops:Array Oper}{rest rest':List Oper}{K:St->Prop}{n n0 k:Nat}{l:List (Nat×AV)}{hp:Hp}{α β:Type}{s:Cs α}{F:α->Option β}{er:β->AV}{u:α}{v:β}{fid:FuncId}{w:World}{Z:Nat->Prop}{R:List RI}
theorem RM (hX:XOk fid (Ea s F er)) (hh:HR w Z R hp) (hg:GI E0 w Z){xs:List AV}{us:List Value}(hvs:VRs w Z R xs us) (hv:SeesD hp s xs u) (hok:CD (er v)=true\/xs.all Bp=true/\s.dec xs=some u) (hF:F u=some v) :
  Ret E0.P fid us.toArray w fun x w'=>∃ Z',HR w' Z' R hp/\VR w' Z' R (er v) x/\Step w Z R hp w' Z' R hp/\w.grownBy w' none/\(CD (er v)=true->Z'=Z):=by
 by_cases hf:CD (er v)=true
 ·obtain ⟨ys,hv,hd⟩:=hv
  have hz1:∀ c,(Z c\/own R hp c)->c < w.heap.size:=fun c hc=>hc.elim (hh.zlt c) (fun ⟨b,B,r,h1,_,h3,h4⟩=>h4 ▸ hh.rltL h1 h3)
  have hg1:GI E0 w (fun c=>Z c\/own R hp c):=fun q y hy=>(hg q y hy).mono (fun _ _=>rfl) (fun _ h=> .inl h) (fun _ _ h=>h)
  refine Ret.mono (hX.2 ys (er v) (Fl hd hF) w _ us hz1 hg1 (hv w Z R us hh hvs)) fun x w' ⟨hs,hx⟩=>?_
  exact ⟨Z,hh.keep hs.size (fun c hc=>hs.block c hc (by simp)),HH hf hx,⟨hs.os,hs.tape,hs.output,hs.size,fun c hc _=>hs.block c hc (by simp),fun _ h=> .inl h,fun _ h=>h,fun _ h=> .inl h,fun _ _ h=>h⟩,hs,fun _=>rfl⟩
 ·obtain ⟨hn,hd⟩:=hok.resolve_left hf
  refine Ret.mono (hX.2 xs (er v) (Fl hd hF) w Z us hh.zlt hg (KY hn hvs)) fun x w' ⟨hs,hx⟩=>?_
  obtain ⟨k1,k2⟩:=hh.addZ hs
  exact ⟨_,k1,hx.up,k2,hs,fun h=>absurd h hf⟩
theorem Rt (hP:E.P=E0.P) (hG:E.G=E0.G){caps xs:List AV}{d:Option Nat}{f:Operand}{args:Array Operand}{tys:Array TypeId}{ty:TypeId}{pos:String}{af:Array Edge}{g:Option (Nat×Bool)}{base:Bs}{a:Act}(hX:XOk fid (Ea s F er)) (sr:SR E base w Z R ⟨Fr n l,hp⟩ a)
  (hf:opA E (Fr n l) f=some (.fn fid [] caps)) (ha:Ed (opA E (Fr n l)) args.toList=some xs) (hv:SeesD hp s (xs++caps) u) (hok:CD (er v)=true\/(xs++caps).all Bp=true/\s.dec (xs++caps)=some u) (hF:F u=some v) {Q:Act->World->Prop}
  (kk:∀ x w' Z',HR w' Z' R hp->VR w' Z' R (er v) x->Step w Z R hp w' Z' R hp->w.grownBy w' none->(CD (er v)=true->Z'=Z)->SR E base w' Z' R ⟨Fr n l,hp⟩ a->Q (a.put d x) w'):Lw E.P ⟨d,.call ⟨.value f,args,tys⟩,ty,pos,af,g⟩ a w Q:=by
 have hρ:∀ o x,opA E (Fr n l) o=some x->VR w Z R x (a.eval o):=fun o x e=>opA_vr sr o x e
 have hvf:=hρ _ _ hf
 have hva:∃ uc:List Value,a.eval f = .func (.func fid) #[] uc.toArray/\VRs w Z R caps uc:=by
  generalize a.eval f=vf at hvf
  cases hvf with
  | fn hl hl' hx hy =>
   rename_i u1 u2
   have e1:u1=[]:=by simpa using hl
   subst e1
   exact ⟨u2,rfl,hl',hy⟩
 obtain ⟨uc,hva,huc⟩:=hva
 have hcl:A4 E.P fid:=hP ▸ hX.1
 unfold Lw
 rw [Dz (uf:=[]) (uc:=uc) rfl hva rfl hcl w]
 have hret:=RM hX sr.hh (by have:=sr.gl; exact fun q y hy=>this q y (by rw [hG]; exact hy)) ((opds_vr hρ ha).append huc) hv hok hF
 rw [<-hP] at hret
 simp only [List.nil_append]
 refine Ret.mono hret fun x w' ⟨Z',k1,k2,k3,k4,k5⟩=>?_
 exact kk x w' Z' k1 k2 k3 k4 k5 (sr.step k1 k3)
theorem Hw (hP:E.P=E0.P) (hG:E.G=E0.G) (hX:XOk fid (Ea s F er)){caps xs:List AV}{d:Nat}{f:Operand}{args:Array Operand}{tys:Array TypeId}{ty:TypeId}{pos:String}{af:Array Edge}{g:Option (Nat×Bool)}(hr:rest=⟨some d,.call ⟨.value f,args,tys⟩,ty,pos,af,g⟩::rest') (hw:Ad ops (Fr n l) ⟨some d,.call ⟨.value f,args,tys⟩,ty,pos,af,g⟩=some true)
  (hf:opA E (Fr n l) f=some (.fn fid [] caps)) (ha:Ed (opA E (Fr n l)) args.toList=some xs) (hv:SeesD hp s (xs++caps) u) (hok:CD (er v)=true\/(xs++caps).all Bp=true/\s.dec (xs++caps)=some u) (hF:F u=some v) (kk:RunL E cx ops rest' ⟨Fr n ((d,er v)::l),hp⟩ K):RunL E cx ops rest ⟨Fr n l,hp⟩ K:=by
 subst hr
 intro ro base Q a w Z R hro sr hy q
 refine Gm rfl (wantedA_eq sr hw) (Rt hP hG hX sr hf ha hv hok hF fun x w' Z' k1 k2 k3 k4 k5 sr'=>?_)
 refine kk ro base Q _ w' Z' R hro ?_ (hy.step sr.hh k3) fun s' a' w'' Z'' R'' hK sr'' st'=>q s' a' w'' Z'' R'' hK sr'' (k3.trans st')
 have:=sr'.put (d:=some d) k2
 rwa [Be] at this
end
section
variable {w w':World}{Z Z':Nat->Prop}{R R':List RI}{h h':Hp}
end
theorem SeeD.ag {α:Type}{hp:Hp}{s:Cs α}{hn:∀ x,(s.enc x).all HP=true}{xs:List AV}{a:α}(h:SeesD hp s xs a):SeeD hp (cdA s hn) (.ag xs) a:=by
 obtain ⟨ys,k1,k2⟩:=h
 exact ⟨.ag ys,.ag k1,k2⟩
theorem SeeV.fn {hp:Hp}{f:FuncId}{cs cs':List AV}(hs:Sees hp cs cs'):SeeV hp (.fn f [] cs) (.fn f [] cs'):=fun w Z R u hh hv=>by
 cases hv with
 | fn hl hl' hx hy =>
  have:=hs w Z R _ hh ⟨hl',hy⟩
  exact .fn hl this.len (fun i x u h=>by simp at h) this.at_
/-- A closure over cells. -/
theorem SeeD.fn {α:Type}{hp:Hp}{f:FuncId}{s:Cs α}{hn:∀ x,(s.enc x).all Ev=true}{q:List AV}{a:α}(h:SeesD hp s q a):SeeD hp (cdF f s hn) (.fn f [] q) a:=by
 obtain ⟨ys,k1,k2⟩:=h
 refine ⟨.fn f [] ys,.fn k1,?_⟩
 show (if f=f then s.dec ys else none)=_
 rw [if_pos rfl]; exact k2
section
variable {E:Env}{cx:Cx}{ops:Array Oper}{rest rest':List Oper}{K:St->Prop}{n n0 k:Nat}{l:List (Nat×AV)}{hp:Hp}
end
/-- A nil slice is an empty frozen one, in structs too. -/
def UpV (x y:AV):Prop:=∀ (w:World) (Z:Nat->Prop) (R:List RI) (u:Value),VR w Z R x u->VR w Z R y u
theorem UpV.refl {x:AV}:UpV x x:=fun _ _ _ _ h=>h
theorem UpV.nil {k:Nat}:UpV .e0 (.sl k []):=fun _ _ _ _ h=>by
 cases h
 exact .sl (us:=[]) rfl rfl (Nat.le_refl _) (by unfold maxLen; omega) (fun h=>by omega) (fun i x u hx=>by simp at hx)
def UpVs:List AV->List AV->Prop
 | [],[]=>True
 | x::xs,y::ys=>UpV x y/\UpVs xs ys
 | _,_=>False
theorem UpVs.len:∀ {xs ys:List AV},UpVs xs ys->xs.length=ys.length
 | [],[],_=>rfl
 | _::_,_::_,h=>by simp [UpVs.len h.2]
 | [],_::_,h=>h.elim
 | _::_,[],h=>h.elim
theorem UpVs.get:∀ {xs ys:List AV}{i:Nat}{y:AV},UpVs xs ys->ys[i]? = some y->∃ x,xs[i]? = some x/\UpV x y
 | _::_,_::_,0,_,h,e=>by simp at e; subst e; exact ⟨_,rfl,h.1⟩
 | _::_,_::_,i + 1,_,h,e=>by
  obtain ⟨x,h1,h2⟩:=UpVs.get (i:=i) h.2 (by simpa using e)
  exact ⟨x,by simpa using h1,h2⟩
 | [],[],_,_,_,e=>by simp at e
 | [],_::_,_,_,h,_=>h.elim
 | _::_,[],_,_,h,_=>h.elim
theorem UpV.ag {xs ys:List AV}(h:UpVs xs ys):UpV (.ag xs) (.ag ys):=fun w Z R u hv=>by
 cases hv with
 | ag hl h1 hx =>
  refine .ag (by rw [hl,h.len]) h1 fun i y u hy hu=>?_
  obtain ⟨x,k1,k2⟩:=h.get hy
  exact k2 _ _ _ _ (hx i x u k1 hu)
def LkU (l:List (Nat×AV)):List (Nat×AV)->Prop
 | []=>True
 | (t,z)::r=>(∃ x,lk l t=some x/\UpV x z)/\LkU l r
theorem LkU.at_ {l:List (Nat×AV)}:∀ {l':List (Nat×AV)},LkU l l'->∀ t z,lk l' t=some z->∃ x,lk l t=some x/\UpV x z
 | [],_,t,z,h=>by cases h
 | (k,z0)::r,⟨h1,h2⟩,t,z,h=>by
  rw [Ep] at h
  split at h
  ·next hk=>injection h with h; subst hk h; exact h1
  ·exact h2.at_ t z h
/-- A value in which an own thing is frozen. -/
def FzU (e z x y:AV):Prop:=∀ (w:World) (Z Z':Nat->Prop) (R:List RI) (u:Value),(∀ c,Z c->Z' c)->(∀ v,VR w Z R e v->VR w Z' R z v)->VR w Z R x u->VR w Z' R y u
section
variable {e z:AV}
theorem FzU.refl {x:AV}:FzU e z x x:=fun _ _ _ _ _ hz _ h=>h.mono (fun _ _=>rfl) hz (fun _ _ h=>h)
theorem KF:FzU e z e z:=fun _ _ _ _ u _ k h=>k u h
def FzUs (e z:AV):List AV->List AV->Prop
 | [],[]=>True
 | x::xs,y::ys=>FzU e z x y/\FzUs e z xs ys
 | _,_=>False
theorem FzUs.len:∀ {xs ys:List AV},FzUs e z xs ys->xs.length=ys.length
 | [],[],_=>rfl
 | _::_,_::_,h=>by simp [FzUs.len h.2]
 | [],_::_,h=>h.elim
 | _::_,[],h=>h.elim
theorem FzUs.get:∀ {xs ys:List AV}{i:Nat}{y:AV},FzUs e z xs ys->ys[i]? = some y->∃ x,xs[i]? = some x/\FzU e z x y
 | _::_,_::_,0,_,h,q=>by simp at q; subst q; exact ⟨_,rfl,h.1⟩
 | _::_,_::_,i + 1,_,h,q=>by
  obtain ⟨x,h1,h2⟩:=FzUs.get (i:=i) h.2 (by simpa using q)
  exact ⟨x,by simpa using h1,h2⟩
 | [],[],_,_,_,q=>by simp at q
 | [],_::_,_,_,h,_=>h.elim
 | _::_,[],_,_,h,_=>h.elim
theorem FzU.ag {xs ys:List AV}(h:FzUs e z xs ys):FzU e z (.ag xs) (.ag ys):=fun w Z Z' R u hz k hv=>by
 cases hv with
 | ag hl h1 hx =>
  refine .ag (by rw [hl,h.len]) h1 fun i y u hy hu=>?_
  obtain ⟨x,k1,k2⟩:=h.get hy
  exact k2 _ _ _ _ _ hz k (hx i x u k1 hu)
theorem FzU.fn {f:FuncId}{xs ys:List AV}(h:FzUs e z xs ys):FzU e z (.fn f [] xs) (.fn f [] ys):=fun w Z Z' R u hz k hv=>by
 cases hv with
 | fn hl hl' hx hy =>
  refine .fn hl (by rw [hl',h.len]) (fun i x u h=>by simp at h) fun i y u hy' hu=>?_
  obtain ⟨x,k1,k2⟩:=h.get hy'
  exact k2 _ _ _ _ _ hz k (hy i x u k1 hu)
end
def LkF (l:List (Nat×AV)) (e z:AV):List (Nat×AV)->Prop
 | []=>True
 | (t,y)::r=>(∃ x,lk l t=some x/\FzU e z x y)/\LkF l e z r
theorem LkF.at_ {l:List (Nat×AV)}{e z:AV}:∀ {l':List (Nat×AV)},LkF l e z l'->∀ t y,lk l' t=some y->∃ x,lk l t=some x/\FzU e z x y
 | [],_,t,y,h=>by cases h
 | (k,z0)::r,⟨h1,h2⟩,t,y,h=>by
  rw [Ep] at h
  split at h
  ·next hk=>injection h with h; subst hk h; exact h1
  ·exact h2.at_ t y h
theorem KI {E:Env}{n:Nat}{l l':List (Nat×AV)}{hp:Hp}{α:Type}{o:Oc α}{e:AV}{x:α}{L:List Asn}(ht:T hp (own_ o e x::L)) (hl:LkF l e (o.cd.enc x) l'):∃ hp',WkY E ⟨Fr n l,hp⟩ ⟨Fr n l',hp'⟩/\T hp' L:=by
 obtain ⟨F,p,hn',_,hk⟩:=ht.act
 refine ⟨Lv F hp,fun base w Z R a sr=>?_,hk _ fun b hb _=>M6 hb⟩
 have hown:∀ c,(∃ b ∈ F,∃ r,R[b]? = some r/\c=r.c)->own R hp c:=fun c ⟨b,hb,r,hr,hc⟩=>by
  obtain ⟨B,k1,k2⟩:=o.own p hb
  exact ⟨b,B,r,k1,k2,hr,hc.symm⟩
 have hown':∀ c,own R (Lv F hp) c->own R hp c:=fun c ⟨b,B,r,h1,h2,h3,h4⟩=>⟨b,B,r,(Hg.1 h1).2,h2,h3,h4⟩
 have hzo:∀ c,(Z c\/∃ b ∈ F,∃ r,R[b]? = some r/\c=r.c)->Z c\/own R hp c:=fun c hc=>hc.imp_right (hown c)
 have up':∀ {x:AV} {u:Value} {R':List RI},VR w Z R' x u->VR w (fun c=>Z c\/∃ b ∈ F,∃ r,R[b]? = some r/\c=r.c) R' x u:=fun hv=>hv.mono (fun _ _=>rfl) (fun _ h=> .inl h) (fun _ _ h=>h)
 refine ⟨fun c=>Z c\/∃ b ∈ F,∃ r,R[b]? = some r/\c=r.c,R,⟨⟨by simp [Lv,sr.hh.len],fun b B hB=>?_,fun b b' B B' r r' h1 f1 h2 f2 g1 g2 e=>?_,fun c hc=>?_⟩,⟨?_,fun t x hx=>?_⟩,?_,fun g x hx=>up' (sr.gl g x hx),sr.bs⟩,⟨rfl,rfl,rfl,Nat.le_refl _,fun _ _ _=>rfl,fun c hc=> .inl (hown' c hc),fun _ h=> .inl h,fun c hc=>(hzo c hc).imp_right .inl,fun _ _ h=>h⟩⟩
 ·obtain ⟨hb,hB⟩:=Hg.1 hB
  obtain ⟨r,arr,us,g1,g2,g3,g4,g5,g6,g7,g8,g9,g10⟩:=sr.hh.blk b B hB
  refine ⟨r,arr,us,g1,g2,g3,g4,g5,g6,fun hf=> .inl (g7 hf),fun hf hc=>?_,⟨g9.len,fun i x u hx hu=>up' (g9.at_ i x u hx hu)⟩,g10⟩
  rcases hc with hc | ⟨b',hb',r',hr',hc⟩
  ·exact g8 hf hc
  ·obtain ⟨B',k1,k2⟩:=o.own p hb'
   have:=sr.hh.inj b b' B B' r r' hB hf k1 k2 g1 hr' hc
   exact hb (this ▸ hb')
 ·exact sr.hh.inj b b' B B' r r' (Hg.1 h1).2 f1 (Hg.1 h2).2 f2 g1 g2 e
 ·rcases hzo c hc with hc | ⟨b,B,r,k1,_,k3,k4⟩
  ·exact sr.hh.zlt c hc
  ·exact k4 ▸ sr.hh.rltL k1 k3
 ·rw [EP]; have:=sr.fr.1; rw [EP] at this; exact this
 ·rw [D1] at hx
  split at hx
  ·next ht =>
   injection hx with hx
   obtain ⟨x0,h1,hf⟩:=hl.at_ t x hx
   exact hf _ _ _ _ _ (fun c h=> .inl h) (fun v hv=>(o.vr sr.hh p hv).up) (sr.fr.2 t x0 (by rw [D1,if_pos ht,h1]))
  ·cases hx
 ·exact sr.mks.imp fun q h3 h4 h5=>⟨h3,fun hc=>(hzo q hc).elim h4 h5,fun ho=>h5 (hown' q ho)⟩
/- trestle/evening.number -/
noncomputable def Dg:Code:=BW Tryd.f50
def A2 (x0:(List UInt8)):Nat->Int->Int->Option ((Int) ⊕ (Int×Bool))
 | 0,_,_=>none
 | f + 1,c5,c6 =>
  if (decide (c6 < (x0.length:Int)))=true then
  (idx x0 c6).bind fun v8 =>
  (if (decide ((v8.toNat:Int) < 48))=true then some true else (idx x0 c6).bind fun v9 =>
  some (decide ((v9.toNat:Int) > 57))).bind fun j11 =>
  if j11=true then
  some (.inr (0,false))
  else
  (idx x0 c6).bind fun v15 =>
  A2 x0 f (wr .i64 ((wr .i64 (10 * c5)) + (wr .i64 (wr .u8 ((v15.toNat:Int) - 48))))) (wr .i64 (c6 + 1))
  else
  some (.inl c5)
def CA (x0:(List UInt8)):Option (Int×Bool) :=
 (if ((x0.length:Int)==0)=true then some true else if (decide ((x0.length:Int) > 9))=true then some true else if (decide ((x0.length:Int) > 1))=true then (idx x0 0).bind fun v1 =>
 some ((v1.toNat:Int)==48) else some false).bind fun j3 =>
 if j3=true then
 some (0,false)
 else
 (A2 x0 100000 0 0).bind fun r18 =>
 match r18 with
 | (.inl w19) =>
  some (w19,true)
 | (.inr w20) =>
  some (w20.1,w20.2)
def Dh:Cs ((List UInt8)×Unit):=(csC cdS csN)
def Dj (r:Int×Bool):AV:= .tp [cdI.enc r.1,cdB.enc r.2]
theorem ES (x0:(List UInt8)):∀ (f:Nat) (c5:Int) (c6:Int) (r:(Int) ⊕ (Int×Bool)),A2 x0 f c5 c6=some r->SemN E0 ⟨none,false⟩ (pc Dg [1,1,1,0,1,0,0]) f ⟨Fr 49 [(0,.st x0),(4,.v (.int .i64 c5)),(5,.v (.int .i64 c6))],[]⟩ (fun e s=>match r with
 | (.inl w)=>e=(.exit 0)/\Wk E0 s ⟨Fr 49 [(4,.v (.int .i64 w))],[]⟩
 | (.inr w)=>e = .ret/\Wk E0 s ⟨Fr 49 [(2,.v (.int .i64 w.1)),(3,.v (.bool w.2))],[]⟩):=by
 intro f;induction f with
 | zero=>intro c5 c6 r h; cases h
 | succ f ih0 =>
  intro c5 c6 r h
  have ih:=fun (c5:Int) (c6:Int)=>ih0 c5 c6 r
  unfold A2 at h;refine Bt ?_;refine AC ?_;refine AL AD [(0,.st x0),(4,.v (.int .i64 c5)),(5,.v (.int .i64 c6)),(27,.v (.bool (decide (c6 < (x0.length:Int)))))] [] ?_;refine AP (b:=(decide (c6 < (x0.length:Int)))) kr (fun hb7=>?_) (fun hb7=>?_)
  ·rw [if_pos hb7] at h
   refine AT ?_;refine AC ?_;refine AW ?_;refine AC ?_;refine AC ?_;obtain ⟨v8,hv8,h⟩:=OB h;obtain ⟨j11,hj11,h⟩:=OB h;refine AE (s1:=⟨Fr 49 [(0,.st x0),(4,.v (.int .i64 c5)),(5,.v (.int .i64 c6)),(39,.v (.bool j11))],[]⟩) ?_ ?_
   ·refine AB (n:=49) AD 2 [(0,.st x0),(4,.v (.int .i64 c5)),(5,.v (.int .i64 c6)),(30,.st x0),(31,.v (.int .i64 c6))] [] kr ?_
    refine AI AD 0 rfl (Bd (AA rfl) rfl (JT (a:= .st x0) (b:= .v (.int .i64 c6)) kr kr (Hf (bs:=x0) (ki:= .i64) kr hv8))) ?_;refine AB (n:=49) AD 2 [(0,.st x0),(4,.v (.int .i64 c5)),(5,.v (.int .i64 c6)),(34,.v (.bool (decide ((v8.toNat:Int) < 48))))] [] kr ?_;rcases BE (decide ((v8.toNat:Int) < 48)) with hc16 | hc16
    ·rw [if_pos hc16] at hj11
     rw [hc16];refine AB (n:=49) AD 5 [(0,.st x0),(4,.v (.int .i64 c5)),(5,.v (.int .i64 c6)),(35,.tp []),(36,.tp []),(37,.tp []),(38,.tp []),(39,.v (.bool true))] [] kr ?_;have hq:=OI hj11; subst hq;exact AH rfl AM
    ·rw [B3 hc16] at hj11
     rw [hc16];refine AB (n:=49) AD 2 [(0,.st x0),(4,.v (.int .i64 c5)),(5,.v (.int .i64 c6)),(34,.v (.bool false)),(35,.st x0),(36,.v (.int .i64 c6))] [] kr ?_;obtain ⟨v9,hv9,hj11⟩:=OB hj11;refine AI AD 0 rfl (Bd kr rfl (JT (a:= .st x0) (b:= .v (.int .i64 c6)) kr kr (Hf (bs:=x0) (ki:= .i64) kr hv9))) ?_;refine AB (n:=49) AD 2 [(0,.st x0),(4,.v (.int .i64 c5)),(5,.v (.int .i64 c6)),(35,.st x0),(36,.v (.int .i64 c6)),(37,.v (.int .u8 (v9.toNat:Int))),(38,.v (.bool (decide ((v9.toNat:Int) > 57)))),(39,.v (.bool (decide ((v9.toNat:Int) > 57))))] [] kr ?_;have hq:=OI hj11; subst hq;exact AH rfl AM
   refine AP (b:=j11) kr (fun hb12=>?_) (fun hb12=>?_)
   ·rw [if_pos hb12] at h
    refine AL AD [(2,.v (.int .i64 0)),(3,.v (.bool false))] [] ?_;refine AS ?_;have hq:=OI h; subst hq;exact ⟨rfl,AM⟩
   ·rw [B3 hb12] at h
    refine AT ?_;obtain ⟨v15,hv15,h⟩:=OB h;refine AE (s1:=⟨Fr 49 [(0,.st x0),(4,.v (.int .i64 (wr .i64 ((wr .i64 (10 * c5)) + (wr .i64 (wr .u8 ((v15.toNat:Int) - 48))))))),(5,.v (.int .i64 c6))],[]⟩) ?_ ?_
    ·refine AB (n:=49) AD 4 [(0,.st x0),(5,.v (.int .i64 c6)),(41,.v (.int .i64 (wr .i64 (10 * c5)))),(42,.st x0),(43,.v (.int .i64 c6))] [] kr ?_
     refine AI AD 0 rfl (Bd (AA rfl) rfl (JT (a:= .st x0) (b:= .v (.int .i64 c6)) kr kr (Hf (bs:=x0) (ki:= .i64) kr hv15))) ?_;exact AJ AD
    refine C4 AD [(0,.st x0),(4,.v (.int .i64 (wr .i64 ((wr .i64 (10 * c5)) + (wr .i64 (wr .u8 ((v15.toNat:Int) - 48))))))),(5,.v (.int .i64 (wr .i64 (c6 + 1))))] [] ?_;exact Ak (s1:=⟨Fr 49 [(0,.st x0),(4,.v (.int .i64 (wr .i64 ((wr .i64 (10 * c5)) + (wr .i64 (wr .u8 ((v15.toNat:Int) - 48))))))),(5,.v (.int .i64 (wr .i64 (c6 + 1))))],[]⟩) AM (ih (wr .i64 ((wr .i64 (10 * c5)) + (wr .i64 (wr .u8 ((v15.toNat:Int) - 48))))) (wr .i64 (c6 + 1)) h)
  ·rw [B3 hb7] at h
   refine CT ?_;have hq:=OI h; subst hq;exact ⟨rfl,AM⟩
theorem Hd (x0:(List UInt8)) (r:Int×Bool) (h:CA x0=some r):Sem E0 ⟨none,false⟩ Dg ⟨Fr 49 (At 0 (Dh.enc (x0,()))),[]⟩ fun e s'=>(e = .normal\/e = .ret)/\∃ xs,EM E0.P s'.fr s'.hp Tryd.f50.results.toList=some xs/\Ef xs=Dj r:=by
 unfold CA at h;refine BQ (CO (s1:=⟨Fr 49 [(0,.st x0)],[]⟩) AM ?_);refine AL AD [(0,.st x0)] [] ?_;refine AC ?_;refine AC ?_;obtain ⟨j3,hj3,h⟩:=OB h;refine AE (s1:=⟨Fr 49 [(0,.st x0),(23,.v (.bool j3))],[]⟩) ?_ ?_
 ·refine AB (n:=49) AD 4 [(0,.st x0),(9,.v (.bool ((x0.length:Int)==0)))] [] kr ?_
  rcases BE ((x0.length:Int)==0) with hc21 | hc21
  ·rw [if_pos hc21] at hj3
   rw [hc21];refine AB (n:=49) AD 14 [(0,.st x0),(23,.v (.bool true))] [] kr ?_;have hq:=OI hj3; subst hq;exact AH rfl AM
  ·rw [B3 hc21] at hj3
   rw [hc21];refine AB (n:=49) AD 5 [(0,.st x0),(14,.v (.bool (decide ((x0.length:Int) > 9))))] [] kr ?_;rcases BE (decide ((x0.length:Int) > 9)) with hc22 | hc22
   ·rw [if_pos hc22] at hj3
    rw [hc22];refine AB (n:=49) AD 9 [(0,.st x0),(23,.v (.bool true))] [] kr ?_;have hq:=OI hj3; subst hq;exact AH rfl AM
   ·rw [B3 hc22] at hj3
    rw [hc22];refine AB (n:=49) AD 4 [(0,.st x0),(14,.v (.bool false)),(18,.v (.bool (decide ((x0.length:Int) > 1))))] [] kr ?_;rcases BE (decide ((x0.length:Int) > 1)) with hc23 | hc23
    ·rw [if_pos hc23] at hj3
     rw [hc23];refine AB (n:=49) AD 1 [(0,.st x0),(14,.v (.bool false)),(18,.v (.bool true)),(19,.st x0)] [] kr ?_;obtain ⟨v1,hv1,hj3⟩:=OB hj3;refine AI AD 0 rfl (Bd kr rfl (JT (a:= .st x0) (b:= .v (.int .i64 0)) kr kr (Hf (bs:=x0) (ki:= .i64) kr hv1))) ?_;refine AB (n:=49) AD 3 [(0,.st x0),(23,.v (.bool ((v1.toNat:Int)==48)))] [] kr ?_;have hq:=OI hj3; subst hq;exact AH rfl AM
    ·rw [B3 hc23] at hj3
     rw [hc23];refine AB (n:=49) AD 5 [(0,.st x0),(23,.v (.bool false))] [] kr ?_;have hq:=OI hj3; subst hq;exact AH rfl AM
 refine AP (b:=j3) kr (fun hb4=>?_) (fun hb4=>?_)
 ·rw [if_pos hb4] at h
  refine AL AD [(2,.v (.int .i64 0)),(3,.v (.bool false))] [] ?_;refine AS ?_;have hq:=OI h; subst hq;exact ⟨⟨Fr 49 [(2,.v (.int .i64 0)),(3,.v (.bool false))],[]⟩,AM,.inr rfl,[.v (.int .i64 0),.v (.bool false)],kr,kr⟩
 ·rw [B3 hb4] at h
  refine AT ?_;refine AL AD [(0,.st x0),(4,.v (.int .i64 0))] [] ?_;refine AC ?_;refine AL AD [(0,.st x0),(4,.v (.int .i64 0)),(5,.v (.int .i64 0))] [] ?_;refine AW ?_;obtain ⟨r18,hr18,h⟩:=OB h;refine Cg (n:=100000) ?_;rcases r18 with w19 | w20
  ·try dsimp only at h
   refine BF (Ak (s1:=⟨Fr 49 [(0,.st x0),(4,.v (.int .i64 0)),(5,.v (.int .i64 0))],[]⟩) AM (ES x0 _ 0 0 _ hr18)) ?_;refine AL AD [(2,.v (.int .i64 w19)),(3,.v (.bool true))] [] ?_;refine AS ?_;have hq:=OI h; subst hq;exact ⟨⟨Fr 49 [(2,.v (.int .i64 w19)),(3,.v (.bool true))],[]⟩,AM,.inr rfl,[.v (.int .i64 w19),.v (.bool true)],kr,kr⟩
  ·try dsimp only at h
   refine BF (Ak (s1:=⟨Fr 49 [(0,.st x0),(4,.v (.int .i64 0)),(5,.v (.int .i64 0))],[]⟩) AM (ES x0 _ 0 0 _ hr18)) ?_;have hq:=OI h; subst hq;exact ⟨⟨Fr 49 [(2,.v (.int .i64 w20.1)),(3,.v (.bool w20.2))],[]⟩,AM,.inr rfl,[.v (.int .i64 w20.1),.v (.bool w20.2)],kr,kr⟩
def If:List AV->Option AV:=Ea Dh (fun a=>CA a.1) Dj
theorem Ih:XOk 50 If:=by
 refine Br Tryd.func50 (c:=Dg) ?h2 ⟨Tryd.call50⟩ Dh (fun a=>CA a.1) Dj (fun a=>(by show 1<=49; decide)) ?h3 ?h4
 case h2=>kernel_rfl
 case h3=>intro b; kernel_rfl
 case h4=>exact fun a b h=>Hd a.1 b h
/- strings.Index -/
noncomputable def Fu:Code:=BW Tryd.f34
def BP (x0:(List UInt8)) (x1:(List UInt8)):Option (Int) :=
 (BK x0 x1).bind fun v1 =>
 some v1
def EF:Cs ((List UInt8)×(List UInt8)×Unit):=(csC cdS (csC cdS csN))
def EK (r:Int):AV:=cdI.enc r
theorem IC (x0:(List UInt8)) (x1:(List UInt8)) (r:Int) (h:BP x0 x1=some r):Sem E0 ⟨none,false⟩ Fu ⟨Fr 8 (At 0 (EF.enc (x0,x1,()))),[]⟩ fun e s'=>(e = .normal\/e = .ret)/\∃ xs,EM E0.P s'.fr s'.hp Tryd.f34.results.toList=some xs/\Ef xs=EK r:=by
 unfold BP at h;refine BQ (CO (s1:=⟨Fr 8 [(0,.st x0),(1,.st x1)],[]⟩) AM ?_);refine AL AD [(0,.st x0),(1,.st x1)] [] ?_;refine AC ?_;obtain ⟨v1,hv1,h⟩:=OB h;refine AE (s1:=⟨Fr 8 [(4,.v (.int .i64 v1))],[]⟩) ?_ ?_
 ·refine AB (n:=8) AD 2 [(5,.st x0),(6,.st x1)] [] kr ?_
  refine Ae (caps:=[]) (xs:=[.st x0,.st x1]) (u:=(x0,x1,())) rfl rfl Eu rfl (AA rfl) kr kr (Am (BU (c:=cdS) (v:=x0)) (Am (BU (c:=cdS) (v:=x1)) Cz)) (.inl kr) hv1 ?_;exact AJ AD
 refine AS ?_;have hq:=OI h; subst hq;exact ⟨⟨Fr 8 [(4,.v (.int .i64 v1))],[]⟩,AM,.inr rfl,[.v (.int .i64 v1)],kr,kr⟩
def Jc:List AV->Option AV:=Ea EF (fun a=>BP a.1 a.2.1) EK
theorem Jg:XOk 34 Jc:=by
 refine Br Tryd.func34 (c:=Fu) ?h2 ⟨Tryd.call34⟩ EF (fun a=>BP a.1 a.2.1) EK (fun a=>(by show 2<=8; decide)) ?h3 ?h4
 case h2=>kernel_rfl
 case h3=>intro b; kernel_rfl
 case h4=>exact fun a b h=>IC a.1 a.2.1 b h
/-- An own block is shortened. -/
theorem NT {E:Env}{n d:Nat}{l:List (Nat×AV)}{hp:Hp}{b k q m:Nat}{t:TypeId}{es zs:List AV}(hb:hp[b]? = some (some ⟨k,t,es++zs,false⟩)) (_:q<=m):WkY E ⟨Fr n ((d,.rf b 0 q m)::l),hp⟩ ⟨Fr n ((d,.rf b 0 q q)::l),hp.set b (some ⟨k,t,es,false⟩)⟩:=by
 intro base w Z R a sr
 obtain ⟨r,arr,us,g1,g2,g3,g4,g5,g6,g7,g8,g9,g10⟩:=sr.hh.blk b _ hb
 have hel:(es++zs).take es.length=es:=by rw [List.take_append_of_le_length (Nat.le_refl _),List.take_of_length_le (Nat.le_refl _)]
 have hput:=sr.hh.put (w':=w) (es:=es) (us:=us.take es.length) (arr:=arr) hb rfl g1 ⟨rfl,rfl,rfl,Nat.le_refl _,fun _ _ _=>rfl⟩ g3 g4 (by have:(es++zs).length<=r.cap:=g5; rw [List.length_append] at this; omega) (by have:=g9.take es.length; rwa [hel] at this) (fun i u hu=>by
  rw [List.getElem?_take] at hu
  split at hu
  ·exact g10 i u hu
  ·cases hu)
 refine ⟨Z,R,⟨hput.1,⟨?_,fun t x hx=>?_⟩,sr.mks.step hput.2,sr.gl.step sr.hh hput.2,sr.bs⟩,hput.2⟩
 ·have:=sr.fr.1; rw [EP] at this ⊢; exact this
 ·have hold:∀ x,(Fr n ((d,.rf b 0 q m)::l))[t]? = some (some x)->VR w Z R x (a.tmps.getD t undef):=fun x h=>sr.fr.2 t x h
  rw [D1] at hx
  by_cases ht:t < n
  ·rw [if_pos ht] at hx
   injection hx with hx
   rw [Ep] at hx
   by_cases hd:d=t
   ·subst hd
    rw [if_pos rfl] at hx
    injection hx with hx
    subst hx
    have h2:=hold (.rf b 0 q m) (by rw [D1,if_pos ht,Ep,if_pos rfl])
    generalize a.tmps.getD d undef=u at h2
    cases h2 with
    | rf hr h0 h1 h2 hm=>exact .rf hr (Nat.le_refl _) (Nat.le_trans h0 h1) h2 hm
   ·rw [if_neg hd] at hx
    exact hold x (by rw [D1,if_pos ht,Ep,if_neg hd,hx])
  ·rw [if_neg ht] at hx; cases hx
def QY (i:Int) (m:Nat):Bool:=decide (0 < m)&&(decide (0<=i)&&decide (i<=(m:Int)))
section
variable {E:Env}{cx:Cx}{ops:Array Oper}{rest rest':List Oper}{K:St->Prop}{n k d:Nat}{l:List (Nat×AV)}{hp:Hp}{t ty:TypeId}{α:Type}{c:Cd α}{xs:List α}{e:AV}{L:List Asn}
theorem NO (hE:EnvOk E){x y:Operand}{i:Int}{ki:IntKind}{t':TypeId}{pos:String}{af:Array Edge}{g:Option (Nat×Bool)}(ht:T hp (own_ (ocL k t (ocV c)) e xs::L)) (hc:QY i xs.length=true) (hr:rest=⟨some d,.slice ty x none (some y) none,t',pos,af,g⟩::rest') (hw:Ad ops (Fr n l) ⟨some d,.slice ty x none (some y) none,t',pos,af,g⟩=some true)
  (hx:opA E (Fr n l) x=some e) (hy:opA E (Fr n l) y=some (.v (.int ki i))) (hu:E.P.underlying ty=some (.slice t)) (hs:Ap E.P t=some k) (kk:∀ e' hp',T hp' (own_ (ocL k t (ocV c)) e' (xs.take i.toNat)::L)->RunL E cx ops rest' ⟨Fr n ((d,e')::l),hp'⟩ K):RunL E cx ops rest ⟨Fr n l,hp⟩ K:=by
 unfold QY at hc
 simp only [Bool.and_eq_true,decide_eq_true_eq] at hc
 obtain ⟨h0,h1,h2⟩:=hc
 obtain ⟨F,p,hn',hk,_⟩:=ht.act
 rcases p with ⟨rfl,rfl,_⟩ | ⟨b,es,F',rfl,hb,rfl,h4⟩
 ·simp at h0
 ·obtain ⟨rfl,rfl⟩:=h4.leaf_inv
  have hi:i.toNat<=xs.length:=by omega
  have hsl:Dk E.P hp ty (.rf b 0 xs.length xs.length) none (some (.v (.int ki i))) none=some (.rf b 0 i.toNat xs.length):=by
   unfold Dk
   have hni:¬ i < 0:=by omega
   simp only [hu,hb,IP,hni,if_false,hs]
   rw [if_pos ⟨Nat.zero_le _,hi,Nat.le_refl _,.inl rfl,trivial⟩,if_pos h0]
   simp
  refine AO hE 0 hr (Bd hw rfl (Eq hx rfl (by show (opA E (Fr n l) y).map some=_; rw [hy]; rfl) rfl hsl)) ?_
  refine Lh (NT (es:=(xs.take i.toNat).map c.enc) (zs:=(xs.drop i.toNat).map c.enc) (by rw [hb,<-List.map_append,List.take_append_drop]) hi) ?_
  have hlt:=F5 hb
  have hl:(xs.take i.toNat).length=i.toNat:=by rw [List.length_take]; omega
  refine kk _ _ (hk _ _ [b] (.inr ⟨b,(xs.take i.toNat).map c.enc,[],by rw [hl],by simp [hlt],rfl,HS⟩) (by simp) (fun b' hb' _=>?_) (fun b' hb'=> .inl hb'))
  rw [List.getElem?_set,if_neg (by intro e; subst e; simp at hb')]
end
/- strings.genSplit -/
noncomputable def Bv:Code:=BW Tryd.f65
def BT (x0:(List UInt8)) (x1:(List UInt8)) (x3:Int):Option ((Int)) :=
 if (decide (x3 < 0))=true then
 (B6 x0 x1).bind fun v5 =>
 some (wr .i64 (v5 + 1))
 else
 some x3
def Ao (x0:(List UInt8)) (x1:(List UInt8)) (x2:Int) (r7:Int):Nat->(List UInt8)->Int->(List (List UInt8))->Option (((List UInt8)×Int×(List (List UInt8))))
 | 0,_,_,_=>none
 | f + 1,c15,c16,c17 =>
  if (decide (c16 < (wr .i64 ((mnI r7 (wr .i64 ((x0.length:Int) + 1))) - 1))))=true then
  (BP c15 x1).bind fun v19 =>
  if (decide (v19 < 0))=true then
  some (c15,c16,c17)
  else
  if (Ce 0 (wr .i64 (v19 + x2)) c15.length)=true then
  (idx c17 c16).bind fun v25 =>
  if (Ce (wr .i64 (v19 + (x1.length:Int))) (c15.length:Int) c15.length)=true then
  Ao x0 x1 x2 r7 f ((c15.take (c15.length:Int).toNat).drop (wr .i64 (v19 + (x1.length:Int))).toNat) (wr .i64 (c16 + 1)) (c17.set c16.toNat ((c15.take (wr .i64 (v19 + x2)).toNat).drop (0:Int).toNat))
  else none
  else none
  else
  some (c15,c16,c17)
def Ci (x0:(List UInt8)) (x1:(List UInt8)) (x2:Int) (x3:Int):Option ((List (List UInt8))) :=
 if (x3==0)=true then
 some ([]:(List (List UInt8)))
 else
 if (x1==[])=true then
 none
 else
 (BT x0 x1 x3).bind fun r7 =>
 if (LI 16 (mnI r7 (wr .i64 ((x0.length:Int) + 1))))=true then
 (Ao x0 x1 x2 r7 100000 x0 0 (List.replicate (mnI r7 (wr .i64 ((x0.length:Int) + 1))).toNat ([]:(List UInt8)))).bind fun r30 =>
 (idx r30.2.2 r30.2.1).bind fun v33 =>
 if (QY (wr .i64 (r30.2.1 + 1)) (r30.2.2.set r30.2.1.toNat r30.1).length)=true then
 some ((r30.2.2.set r30.2.1.toNat r30.1).take (wr .i64 (r30.2.1 + 1)).toNat)
 else none
 else none
theorem FX {L:List Asn}{hp:Hp}(x0:(List UInt8)) (x1:(List UInt8)) (x3:Int) (x2:Int) (r:(Int)) (h:BT x0 x1 x3=some r) (hT:T hp (L)):SemY E0 ⟨none,false⟩ (pc Bv [1,1,1,0,1]) ⟨Fr 66 [(0,.st x0),(1,.st x1),(2,.v (.int .i64 x2)),(3,.v (.int .i64 x3)),(20,.v (.bool (decide (x3 < 0))))],hp⟩ (fun e s=>e = .normal/\∃ s2,(∃ (h':Hp),T h' (L)/\s2=⟨Fr 66 [(0,.st x0),(1,.st x1),(2,.v (.int .i64 x2)),(3,.v (.int .i64 r))],h'⟩)/\WkY E0 s s2):=by
 unfold BT at h;refine Bg (b:=(decide (x3 < 0))) kr (fun hb4=>?_) (fun hb4=>?_)
 ·rw [if_pos hb4] at h
  refine AG ?_;refine Af AD 2 ?_;obtain ⟨v5,hv5,h⟩:=OB h;refine Hw (v:=v5) (caps:=[]) (xs:=[.st x0,.st x1]) (u:=(x0,x1,())) rfl rfl Et rfl (AA rfl) kr kr (FG (HT (c:=cdS) (v:=x0)) (FG (HT (c:=cdS) (v:=x1)) SeesD.nil)) (.inl kr) hv5 ?_;refine Af AD 2 ?_;refine As rfl ?_;have hq:=OI h; subst hq;exact ⟨rfl,_,⟨hp,hT,rfl⟩,WkY.f1⟩
 ·rw [B3 hb4] at h
  refine SemY.skip ?_;have hq:=OI h; subst hq;exact ⟨rfl,_,⟨hp,hT,rfl⟩,WkY.f1⟩
theorem FY {L:List Asn}(x0:(List UInt8)) (x1:(List UInt8)) (x2:Int) (r7:Int) (e14:AV):∀ (f:Nat) (c15:(List UInt8)) (c16:Int) (c17:(List (List UInt8))) (r:((List UInt8)×Int×(List (List UInt8)))),Ao x0 x1 x2 r7 f c15 c16 c17=some r->∀ (hp:Hp),T hp ((own_ (ocL 1 9 (ocV cdS)) e14 c17)::L)->SemYN E0 ⟨none,false⟩ (pc Bv [1,1,1,1,1,1,1,1,0,0,0]) f ⟨Fr 66 [(0,.st c15),(1,.st x1),(2,.v (.int .i64 x2)),(3,.v (.int .i64 (wr .i64 ((mnI r7 (wr .i64 ((x0.length:Int) + 1))) - 1)))),(9,e14),(10,.v (.int .i64 c16))],hp⟩ (fun e s=>e=(.exit 0)/\∃ s2,(∃ (h':Hp),T h' ((own_ (ocL 1 9 (ocV cdS)) e14 r.2.2)::L)/\s2=⟨Fr 66 [(0,.st r.1),(9,e14),(10,.v (.int .i64 r.2.1))],h'⟩)/\WkY E0 s s2):=by
 intro f;induction f with
 | zero=>intro c15 c16 c17 r h; cases h
 | succ f ih0 =>
  intro c15 c16 c17 r h  hp hT;unfold Ao at h;refine FH ?_;refine AN ?_
  let p1:Nat×AV:=(10,.v (.int .i64 c16))
  let p2:Nat×AV:=(3,.v (.int .i64 (wr .i64 ((mnI r7 (wr .i64 ((x0.length:Int) + 1))) - 1))))
  let p3:Nat×AV:=(2,.v (.int .i64 x2))
  refine Ar AD [(0,.st c15),(1,.st x1),p3,p2,(9,e14),p1,(36,.v (.bool (decide (c16 < (wr .i64 ((mnI r7 (wr .i64 ((x0.length:Int) + 1))) - 1))))))] ?_;refine Bg (b:=(decide (c16 < (wr .i64 ((mnI r7 (wr .i64 ((x0.length:Int) + 1))) - 1))))) kr (fun hb18=>?_) (fun hb18=>?_)
  ·rw [if_pos hb18] at h
   refine SemY.skip ?_;refine Cc ?_;refine AN ?_;refine AG ?_;refine Af AD 2 ?_;obtain ⟨v19,hv19,h⟩:=OB h;refine Hw (v:=v19) (caps:=[]) (xs:=[.st c15,.st x1]) (u:=(c15,x1,())) rfl rfl Jg rfl (AA rfl) kr kr (FG (HT (c:=cdS) (v:=c15)) (FG (HT (c:=cdS) (v:=x1)) SeesD.nil)) (.inl kr) hv19 ?_
   let p4:Nat×AV:=(11,.v (.int .i64 v19))
   refine A5 AD [(0,.st c15),(1,.st x1),p3,p2,(9,e14),p1,p4] ?_;refine AN ?_;refine Ar AD [(0,.st c15),(1,.st x1),p3,p2,(9,e14),p1,p4,(41,.v (.bool (decide (v19 < 0))))] ?_;refine Bg (b:=(decide (v19 < 0))) kr (fun hb20=>?_) (fun hb20=>?_)
   ·rw [if_pos hb20] at h
    refine SemY.exit ?_;have hq:=OI h; subst hq;exact ⟨rfl,_,⟨hp,hT,rfl⟩,WkY.f1⟩
   ·rw [B3 hb20] at h
    refine SemY.skip ?_;refine AN ?_;refine AG ?_;refine Af AD 6 ?_;by_cases hk24:(Ce 0 (wr .i64 (v19 + x2)) c15.length)=true
    case neg=>rw [if_neg hk24] at h; cases h
    rw [if_pos hk24] at h;refine AO AD 0 rfl (Bd (AA rfl) rfl (Eq (a:= .st c15) (l:=none) (u:=(some (.v (.int .i64 (wr .i64 (v19 + x2)))))) (m:=none) kr kr kr rfl (Gq (bs:=c15) (lo:=0) (hi:=(wr .i64 (v19 + x2))) kr rfl (FT (IL hk24)) hk24))) ?_;obtain ⟨v25,hv25,h⟩:=OB h;refine AO AD 0 rfl (Bd (AA rfl) rfl (AR (a:=e14) (b:= .v (.int .i64 c16)) kr kr (Re (bytes:=16) hT kr hv25))) ?_;obtain ⟨hp26,hs27,hT28⟩:=OU (P:=Tryd.prog) (ty:=9) (y:= .st ((c15.take (wr .i64 (v19 + x2)).toNat).drop (0:Int).toNat)) (v':=((c15.take (wr .i64 (v19 + x2)).toNat).drop (0:Int).toNat)) hT (E6 hv25).2 kr kr kr;refine RunL.store AD (y:=eAt e14 c16.toNat) (z:= .st ((c15.take (wr .i64 (v19 + x2)).toNat).drop (0:Int).toNat)) rfl (AA rfl) kr kr hs27 ?_;refine As rfl (SemY.fr (l':=[(0,.st c15),(1,.st x1),p3,p2,(9,e14),p1,p4]) kr ?_);refine AN ?_;refine AG ?_;refine Af AD 5 ?_;by_cases hk29:(Ce (wr .i64 (v19 + (x1.length:Int))) (c15.length:Int) c15.length)=true
    case neg=>rw [if_neg hk29] at h; cases h
    rw [if_pos hk29] at h;refine AO AD 0 rfl (Bd (AA rfl) rfl (Eq (a:= .st c15) (l:=(some (.v (.int .i64 (wr .i64 (v19 + (x1.length:Int))))))) (u:=none) (m:=none) kr kr kr rfl (Gq (bs:=c15) (lo:=(wr .i64 (v19 + (x1.length:Int)))) (hi:=(c15.length:Int)) kr (FT (K4 hk29)) rfl hk29))) ?_;refine A5 AD [(0,.st ((c15.take (c15.length:Int).toNat).drop (wr .i64 (v19 + (x1.length:Int))).toNat)),(1,.st x1),p3,p2,(9,e14),p1] ?_;refine AG ?_;refine Af AD 3 ?_;refine As rfl ?_;exact C6 WkY.f1 (ih0 ((c15.take (c15.length:Int).toNat).drop (wr .i64 (v19 + (x1.length:Int))).toNat) (wr .i64 (c16 + 1)) (c17.set c16.toNat ((c15.take (wr .i64 (v19 + x2)).toNat).drop (0:Int).toNat)) _ h  hp26 hT28)
  ·rw [B3 hb18] at h
   refine SemY.exit ?_;have hq:=OI h; subst hq;exact ⟨rfl,_,⟨hp,hT,rfl⟩,WkY.f1⟩
theorem GC {L:List Asn}{hp:Hp}(x0:(List UInt8)) (x1:(List UInt8)) (x2:Int) (x3:Int) (r:(List (List UInt8))) (h:Ci x0 x1 x2 x3=some r) (hT:T hp (L)):SemY E0 ⟨none,false⟩ Bv ⟨Fr 66 (At 0 [.st x0,.st x1,.v (.int .i64 x2),.v (.int .i64 x3)]),hp⟩ fun x s'=>(x = .normal\/x = .ret)/\∃ ys,EM E0.P s'.fr s'.hp Tryd.f65.results.toList=some ys/\(fun v h'=>∃ (z0:AV),v=z0/\T h' ((own_ (ocL 1 9 (ocV cdS)) z0 r)::L)) (Ef ys) s'.hp:=by
 unfold Ci at h
 let p1:Nat×AV:=(3,.v (.int .i64 x3))
 let p2:Nat×AV:=(2,.v (.int .i64 x2))
 refine Dt (Eh (s1:=⟨Fr 66 [(0,.st x0),(1,.st x1),p2,p1],hp⟩) WkY.f1 ?_);refine Ar AD [(0,.st x0),(1,.st x1),p2,p1] ?_;refine AN ?_;refine Ar AD [(0,.st x0),(1,.st x1),p2,p1,(13,.v (.bool (x3==0)))] ?_;refine Bg (b:=(x3==0)) kr (fun hb1=>?_) (fun hb1=>?_)
 ·rw [if_pos hb1] at h
  refine Ar AD [(8,.e0)] ?_;refine SemY.ret ?_;have hq:=OI h; subst hq
  have hT2:=(T.e0 (k:=1) (ty:=9) (o:=(ocV cdS)) hT)
  exact ⟨⟨Fr 66 [(8,.e0)],hp⟩,WkY.f1,.inr rfl,[.e0],kr,⟨.e0,rfl,hT2⟩⟩
 ·rw [B3 hb1] at h
  refine SemY.skip ?_;refine AN ?_;refine Ar AD [(0,.st x0),(1,.st x1),p2,p1,(15,.v (.bool (x1==[])))] ?_;refine Bg (b:=(x1==[])) kr (fun hb3=>?_) (fun hb3=>?_)
  ·rw [if_pos hb3] at h
   refine AN ?_;cases h
  ·rw [B3 hb3] at h
   refine SemY.skip ?_;refine AN ?_;refine Ar AD [(0,.st x0),(1,.st x1),p2,p1,(20,.v (.bool (decide (x3 < 0))))] ?_;obtain ⟨r7,hr7,h⟩:=OB h;refine Iz (FX x0 x1 x3 x2 _ hr7 hT) ?_;rintro _ ⟨hp8,hT9,rfl⟩
   let p3:Nat×AV:=(3,.v (.int .i64 (mnI r7 (wr .i64 ((x0.length:Int) + 1)))))
   refine Ar AD [(0,.st x0),(1,.st x1),p2,p3] ?_;refine AN ?_;refine AG ?_;refine Af AD 1 ?_;by_cases hk10:(LI 16 (mnI r7 (wr .i64 ((x0.length:Int) + 1))))=true
   case neg=>rw [if_neg hk10] at h; cases h
   rw [if_pos hk10] at h;obtain ⟨e14,hp11,hb12,hT13⟩:=N3 (P:=Tryd.prog) (o:=(ocV cdS)) (k:=1) (t:=9) (ty:=71) (bytes:=16) (kn:= .i64) (kc:= .i64) (m:=(mnI r7 (wr .i64 ((x0.length:Int) + 1)))) (x0:=[]) hT9 (fun _=>⟨rfl,rfl⟩) kr kr hk10;refine AO AD 0 rfl (Qc (AA rfl) rfl kr (N5 (x:= .v (.int .i64 (mnI r7 (wr .i64 ((x0.length:Int) + 1))))) (y:= .v (.int .i64 (mnI r7 (wr .i64 ((x0.length:Int) + 1))))) kr kr hb12)) ?_;refine A5 AD [(0,.st x0),(1,.st x1),p2,p3,(9,e14)] ?_
   let p4:Nat×AV:=(3,.v (.int .i64 (wr .i64 ((mnI r7 (wr .i64 ((x0.length:Int) + 1))) - 1))))
   refine Ar AD [(0,.st x0),(1,.st x1),p2,p4,(9,e14)] ?_;refine Ar AD [(0,.st x0),(1,.st x1),p2,p4,(9,e14),(10,.v (.int .i64 0))] ?_;refine AN ?_;refine Cc ?_;refine SemY.loop (n:=100000) ?_;obtain ⟨r30,hr30,h⟩:=OB h;refine Ec (C6 WkY.f1 (FY x0 x1 x2 r7 e14 _ x0 0 (List.replicate (mnI r7 (wr .i64 ((x0.length:Int) + 1))).toNat ([]:(List UInt8))) _ hr30  hp11 hT13)) ?_;rintro _ ⟨hp31,hT32,rfl⟩;refine AN ?_;refine AG ?_;refine Af AD 3 ?_;obtain ⟨v33,hv33,h⟩:=OB h;refine AO AD 0 rfl (Bd (AA rfl) rfl (AR (a:=e14) (b:= .v (.int .i64 r30.2.1)) kr kr (Re (bytes:=16) hT32 kr hv33))) ?_;obtain ⟨hp34,hs35,hT36⟩:=OU (P:=Tryd.prog) (ty:=9) (y:= .st r30.1) (v':=r30.1) hT32 (E6 hv33).2 kr kr kr;refine RunL.store AD (y:=eAt e14 r30.2.1.toNat) (z:= .st r30.1) rfl (AA rfl) kr kr hs35 ?_;refine As rfl (SemY.fr (l':=[(9,e14),(10,.v (.int .i64 r30.2.1))]) kr ?_);refine AN ?_;refine AG ?_;refine Af AD 3 ?_;by_cases hk37:(QY (wr .i64 (r30.2.1 + 1)) (r30.2.2.set r30.2.1.toNat r30.1).length)=true
   case neg=>rw [if_neg hk37] at h; cases h
   rw [if_pos hk37] at h;refine NO (ki:= .i64) (i:=(wr .i64 (r30.2.1 + 1))) AD hT36 hk37 rfl (AA rfl) kr kr kr kr ?_;intro e38 hp39 hT40;refine A5 AD [(8,e38)] ?_;refine SemY.ret ?_;have hq:=OI h; subst hq;exact ⟨⟨Fr 66 [(8,e38)],hp39⟩,WkY.f1,.inr rfl,[e38],kr,⟨e38,rfl,hT40⟩⟩
/- strings.Split -/
noncomputable def Ew:Code:=BW Tryd.f49
def Cu (x0:(List UInt8)) (x1:(List UInt8)):Option ((List (List UInt8))) :=
 (Ci x0 x1 0 (-1)).bind fun v1 =>
 some v1
theorem HJ {L:List Asn}{hp:Hp}(x0:(List UInt8)) (x1:(List UInt8)) (r:(List (List UInt8))) (h:Cu x0 x1=some r) (hT:T hp (L)):SemY E0 ⟨none,false⟩ Ew ⟨Fr 8 (At 0 [.st x0,.st x1]),hp⟩ fun x s'=>(x = .normal\/x = .ret)/\∃ ys,EM E0.P s'.fr s'.hp Tryd.f49.results.toList=some ys/\(fun v h'=>∃ (z0:AV),v=z0/\T h' ((own_ (ocL 1 9 (ocV cdS)) z0 r)::L)) (Ef ys) s'.hp:=by
 unfold Cu at h;refine Dt (Eh (s1:=⟨Fr 8 [(0,.st x0),(1,.st x1)],hp⟩) WkY.f1 ?_);refine Ar AD [(0,.st x0),(1,.st x1)] ?_;refine AN ?_;refine AG ?_;refine Af AD 2 ?_;obtain ⟨v1,hv1,h⟩:=OB h;refine D2 (E:=E0) (e:=E0) rfl rfl AD rfl rfl (fid:=65) (caps:=[]) (xs:=[.st x0,.st x1,.v (.int .i64 0),.v (.int .i64 (-1))]) (fn:=Tryd.f65) (c:=Bv) (Out:=fun v h'=>∃ (z0:AV),v=z0/\T h' ((own_ (ocL 1 9 (ocV cdS)) z0 v1)::L)) rfl (AA rfl) kr kr kr kr (by show 4<=66; decide) (GC x0 x1 0 (-1) _ hv1 hT) ?_;rintro xx hp3 ⟨e2,hqhp3,hT4⟩; subst xx;refine A5 AD [(4,e2)] ?_;refine SemY.ret ?_;have hq:=OI h; subst hq;exact ⟨⟨Fr 8 [(4,e2)],hp3⟩,WkY.f1,.inr rfl,[e2],kr,⟨e2,rfl,hT4⟩⟩
/- trestle/evening.evening -/
noncomputable def DO:Code:=BW Tryd.f27
def Al (v1:(List (List UInt8))):Nat->Int->(List (List Int))->(List Int)->Option (((List (List Int))) ⊕ (Unit))
 | 0,_,_,_=>none
 | f + 1,c17,c19,c21 =>
  if (decide (c17 < ((v1++([[47]]:List (List UInt8))).length:Int)))=true then
  (idx (v1++([[47]]:List (List UInt8))) c17).bind fun v23 =>
  if (v23==[47])=true then
  if ((c21.length:Int)==0)=true then
  some (.inr ())
  else
  if (B8 24 (c19.length + ([c21]:List (List Int)).length))=true then
  Al v1 f (wr .i64 (c17 + 1)) (c19++([c21]:List (List Int))) ([]:(List Int))
  else none
  else
  (CA v23).bind fun v44 =>
  if (!v44.2)=true then
  some (.inr ())
  else
  if (B8 8 (c21.length + ([v44.1]:List Int).length))=true then
  Al v1 f (wr .i64 (c17 + 1)) c19 (c21++([v44.1]:List Int))
  else none
  else
  some (.inl c19)
def Bo (x0:(List UInt8)):Option ((List (List Int))×Bool) :=
 (Cu x0 [32]).bind fun v1 =>
 if (B8 16 (v1.length + ([[47]]:List (List UInt8)).length))=true then
 (Al v1 100000 0 ([]:(List (List Int))) ([]:(List Int))).bind fun r62 =>
 match r62 with
 | (.inl w63) =>
  some (w63,true)
 | (.inr w70) =>
  some (([]:(List (List Int))),false)
 else none
theorem D6 {L:List Asn}(v1:(List (List UInt8))) (e12:AV):∀ (f:Nat) (c17:Int) (c19:(List (List Int))) (c21:(List Int)) (r:((List (List Int))) ⊕ (Unit)),Al v1 f c17 c19 c21=some r->∀ (e18 e20:AV) (hp:Hp),T hp ((own_ (ocL 1 27 (ocV (cdL 1 cdI))) e18 c19)::(own_ (ocL 1 3 (ocV cdI)) e20 c21)::(own_ (ocL 1 9 (ocV cdS)) e12 (v1++([[47]]:List (List UInt8))))::L)->SemYN E0 ⟨none,false⟩ (pc DO [1,1,1,0,1,0,0]) f ⟨Fr 41 [(4,e18),(5,e20),(13,e12),(14,.v (.int .i64 ((v1++([[47]]:List (List UInt8))).length:Int))),(15,.v (.int .i64 c17))],hp⟩ (fun e s=>match r with
 | (.inl w)=>e=(.exit 0)/\∃ s2,(∃ (e58:AV) (h':Hp),T h' ((own_ (ocL 1 27 (ocV (cdL 1 cdI))) e58 w)::L)/\s2=⟨Fr 41 [(4,e58)],h'⟩)/\WkY E0 s s2
 | (.inr w)=>e = .ret/\∃ s2,(∃ (h':Hp),T h' (L)/\s2=⟨Fr 41 [(2,.e0),(3,.v (.bool false))],h'⟩)/\WkY E0 s s2):=by
 intro f;induction f with
 | zero=>intro c17 c19 c21 r h; cases h
 | succ f ih0 =>
  intro c17 c19 c21 r h e18 e20 hp hT;unfold Al at h;refine FH ?_
  let p1:Nat×AV:=(15,.v (.int .i64 c17))
  let p2:Nat×AV:=(14,.v (.int .i64 ((v1++([[47]]:List (List UInt8))).length:Int)))
  refine Ar AD [(4,e18),(5,e20),(13,e12),p2,p1,(16,.v (.bool (decide (c17 < ((v1++([[47]]:List (List UInt8))).length:Int)))))] ?_;refine AN ?_;refine Bg (b:=(decide (c17 < ((v1++([[47]]:List (List UInt8))).length:Int)))) kr (fun hb22=>?_) (fun hb22=>?_)
  ·rw [if_pos hb22] at h
   refine SemY.skip ?_;refine AN ?_;refine Cc ?_;refine AN ?_;refine AG ?_;obtain ⟨v23,hv23,h⟩:=OB h
   have hT24:=(hT.front 2 rfl)
   refine AO AD 0 rfl (Bd (AA rfl) rfl (AR (a:=e12) (b:= .v (.int .i64 c17)) kr kr (Re (bytes:=16) hT24 kr hv23))) ?_;refine AO AD 0 rfl (Bd (AA rfl) rfl (FA (p:=eAt e12 c17.toNat) kr (P9 (y:= .st v23) (m:=1) (g:=false) hT24 (E6 hv23).2 kr kr kr))) ?_;refine A5 AD [(4,e18),(5,e20),(7,.st v23),(13,e12),p2,p1] ?_;refine AN ?_;refine Ar AD [(4,e18),(5,e20),(7,.st v23),(13,e12),p2,p1,(20,.v (.bool (v23==[47])))] ?_;refine Bg (b:=(v23==[47])) kr (fun hb25=>?_) (fun hb25=>?_)
   ·rw [if_pos hb25] at h
    refine AN ?_;refine AN ?_;refine AG ?_;refine Af AD 1 ?_
    have hT26:=(hT24.front 2 rfl)
    refine AO AD 0 rfl (Bd (AA rfl) rfl (Ca (a:=e20) kr (QA hT26 kr))) ?_;refine A5 AD [(4,e18),(5,e20),(13,e12),p2,p1,(23,.v (.bool ((c21.length:Int)==0)))] ?_;refine Bg (b:=((c21.length:Int)==0)) kr (fun hb27=>?_) (fun hb27=>?_)
    ·rw [if_pos hb27] at h
     refine Ar AD [(2,.e0),(3,.v (.bool false))] ?_;refine SemY.ret ?_;have hq:=OI h; subst hq
     have hT28:=hT26.drop.drop.drop
     exact ⟨rfl,_,⟨hp,hT28,rfl⟩,WkY.f1⟩
    ·rw [B3 hb27] at h
     refine SemY.skip ?_;refine AN ?_;refine AG ?_;refine Af AD 2 ?_;obtain ⟨hp29,hw30,hT31⟩:=KI (E:=E0) (n:=41) (l:=[(13,e12),p2,p1,(24,e18),(25,e20)]) (l':=[(13,e12),p2,p1,(24,e18),(25,.sl 1 (c21.map cdI.enc))]) hT26 ⟨⟨e12,kr,FzU.refl⟩,⟨.v (.int .i64 ((v1++([[47]]:List (List UInt8))).length:Int)),kr,FzU.refl⟩,⟨.v (.int .i64 c17),kr,FzU.refl⟩,⟨e18,kr,FzU.refl⟩,⟨e20,kr,KF⟩,trivial⟩;refine Lh (WkY.trans WkY.f1 hw30) ?_;obtain ⟨e35,hp32,hb33,hT34⟩:=KU (P:=Tryd.prog) (bytes:=24) (k:=1) (t:=27) (ty:=43) (xs:=([c21]:List (List Int))) (n:=1) (Px (k:=1) (fun _=>⟨rfl,rfl,rfl⟩)) (Im (c:=(cdL 1 cdI)) (xs:=([c21]:List (List Int))) hT31) rfl kr kr kr;refine AO AD 0 rfl (Qc (AA rfl) rfl kr (QI (xs:=KM 0 [.sl 1 (c21.map cdI.enc)]) kr hb33)) ?_;by_cases hk40:(B8 24 (c19.length + ([c21]:List (List Int)).length))=true
     case neg=>rw [if_neg hk40] at h; cases h
     rw [if_pos hk40] at h
     have hT41:=((hT34.front 0 rfl).front 2 rfl)
     obtain ⟨e39,hp36,hb37,hT38⟩:=KJ (P:=Tryd.prog) (ty:=43) (ty2:=43) (bytes:=24) hT41 kr kr hk40;refine AO AD 0 rfl (NJ (AA rfl) rfl kr kr (D0 (a:=e18) (b:=e35) kr kr hb37)) ?_;refine A5 AD [(4,e39),(13,e12),p2,p1] ?_;refine Ar AD [(4,e39),(5,.e0),(13,e12),p2,p1] ?_;refine SemY.exit ?_;refine AG ?_;refine Af AD 2 ?_;refine As rfl ?_
     have hT42:=(T.e0 (k:=1) (ty:=3) (o:=(ocV cdI)) hT38)
     have hT43:=(((hT42.front 2 rfl).front 1 rfl).front 2 rfl)
     exact C6 WkY.f1 (ih0 (wr .i64 (c17 + 1)) (c19++([c21]:List (List Int))) ([]:(List Int)) _ h e39 .e0 hp36 hT43)
   ·rw [B3 hb25] at h
    refine SemY.skip ?_;refine AN ?_;refine AG ?_;refine Af AD 1 ?_;obtain ⟨v44,hv44,h⟩:=OB h;refine Hw (v:=v44) (caps:=[]) (xs:=[.st v23]) (u:=(v23,())) rfl rfl Ih rfl (AA rfl) kr kr (FG (HT (c:=cdS) (v:=v23)) SeesD.nil) (.inl kr) hv44 ?_;refine A5 AD [(4,e18),(5,e20),(8,.v (.int .i64 v44.1)),(9,.v (.bool v44.2)),(13,e12),p2,p1] ?_;refine AN ?_;refine Ar AD [(4,e18),(5,e20),(8,.v (.int .i64 v44.1)),(13,e12),p2,p1,(34,.v (.bool (!v44.2)))] ?_;refine Bg (b:=(!v44.2)) kr (fun hb45=>?_) (fun hb45=>?_)
    ·rw [if_pos hb45] at h
     refine Ar AD [(2,.e0),(3,.v (.bool false))] ?_;refine SemY.ret ?_;have hq:=OI h; subst hq
     have hT46:=hT24.drop.drop.drop
     exact ⟨rfl,_,⟨hp,hT46,rfl⟩,WkY.f1⟩
    ·rw [B3 hb45] at h
     refine SemY.skip ?_;refine AG ?_;refine Af AD 2 ?_;obtain ⟨e50,hp47,hb48,hT49⟩:=KU (P:=Tryd.prog) (bytes:=8) (k:=1) (t:=3) (ty:=27) (xs:=([v44.1]:List Int)) (n:=1) (Px (k:=1) (fun _=>⟨rfl,rfl,rfl⟩)) (Im (c:=cdI) (xs:=([v44.1]:List Int)) hT24) rfl kr kr kr;refine AO AD 0 rfl (Qc (AA rfl) rfl kr (QI (xs:=KM 0 [.v (.int .i64 v44.1)]) kr hb48)) ?_;by_cases hk55:(B8 8 (c21.length + ([v44.1]:List Int).length))=true
     case neg=>rw [if_neg hk55] at h; cases h
     rw [if_pos hk55] at h
     have hT56:=((hT49.front 0 rfl).front 3 rfl)
     obtain ⟨e54,hp51,hb52,hT53⟩:=KJ (P:=Tryd.prog) (ty:=27) (ty2:=27) (bytes:=8) hT56 kr kr hk55;refine AO AD 0 rfl (NJ (AA rfl) rfl kr kr (D0 (a:=e20) (b:=e50) kr kr hb52)) ?_;refine A5 AD [(4,e18),(5,e54),(13,e12),p2,p1] ?_;refine AG ?_;refine Af AD 2 ?_;refine As rfl ?_
     have hT57:=(((hT53.front 1 rfl).front 1 rfl).front 2 rfl)
     exact C6 WkY.f1 (ih0 (wr .i64 (c17 + 1)) c19 (c21++([v44.1]:List Int)) _ h e18 e54 hp51 hT57)
  ·rw [B3 hb22] at h
   refine SemY.exit ?_;have hq:=OI h; subst hq
   have hT60:=((hT.front 1 rfl).drop.front 1 rfl).drop
   exact ⟨rfl,_,⟨e18,hp,hT60,rfl⟩,WkY.f1⟩
theorem HG {L:List Asn}{hp:Hp}(x0:(List UInt8)) (r:(List (List Int))×Bool) (h:Bo x0=some r) (hT:T hp (L)):SemY E0 ⟨none,false⟩ DO ⟨Fr 41 (At 0 [.st x0]),hp⟩ fun x s'=>(x = .normal\/x = .ret)/\∃ ys,EM E0.P s'.fr s'.hp Tryd.f27.results.toList=some ys/\(fun v h'=>v = .tp [.sl 1 (r.1.map (cdL 1 cdI).enc),.v (.bool r.2)]/\T h' (L)) (Ef ys) s'.hp:=by
 unfold Bo at h;refine Dt (Eh (s1:=⟨Fr 41 [(0,.st x0)],hp⟩) WkY.f1 ?_);refine Ar AD [(0,.st x0)] ?_;refine Ar AD [(0,.st x0),(4,.e0)] ?_;refine Ar AD [(0,.st x0),(4,.e0),(5,.e0)] ?_;refine AN ?_;refine AN ?_;refine AG ?_;refine Af AD 1 ?_;obtain ⟨v1,hv1,h⟩:=OB h;refine D2 (E:=E0) (e:=E0) rfl rfl AD rfl rfl (fid:=49) (caps:=[]) (xs:=[.st x0,.st [32]]) (fn:=Tryd.f49) (c:=Ew) (Out:=fun v h'=>∃ (z0:AV),v=z0/\T h' ((own_ (ocL 1 9 (ocV cdS)) z0 v1)::L)) rfl (AA rfl) kr kr kr kr (by show 2<=8; decide) (HJ x0 [32] _ hv1 hT) ?_;rintro xx hp3 ⟨e2,hqhp3,hT4⟩; subst xx;obtain ⟨e8,hp5,hb6,hT7⟩:=KU (P:=Tryd.prog) (bytes:=16) (k:=1) (t:=9) (ty:=71) (xs:=([[47]]:List (List UInt8))) (n:=1) (Px (k:=1) (fun _=>⟨rfl,rfl,rfl⟩)) (Im (c:=cdS) (xs:=([[47]]:List (List UInt8))) hT4) rfl kr kr kr;refine AO AD 0 rfl (Qc (AA rfl) rfl kr (QI (xs:=KM 0 [.st [47]]) kr hb6)) ?_;by_cases hk13:(B8 16 (v1.length + ([[47]]:List (List UInt8)).length))=true
 case neg=>rw [if_neg hk13] at h; cases h
 rw [if_pos hk13] at h
 have hT14:=((hT7.front 0 rfl).front 1 rfl)
 obtain ⟨e12,hp9,hb10,hT11⟩:=KJ (P:=Tryd.prog) (ty:=71) (ty2:=71) (bytes:=16) hT14 kr kr hk13;refine AO AD 0 rfl (NJ (AA rfl) rfl kr kr (D0 (a:=e2) (b:=e8) kr kr hb10)) ?_;refine AO AD 0 rfl (Bd (AA rfl) rfl (Ca (a:=e12) kr (QA hT11 kr))) ?_;refine A5 AD [(4,.e0),(5,.e0),(13,e12),(14,.v (.int .i64 ((v1++([[47]]:List (List UInt8))).length:Int))),(15,.v (.int .i64 0))] ?_;refine Cc ?_
 have hT15:=(T.e0 (k:=1) (ty:=27) (o:=(ocV (cdL 1 cdI))) hT11)
 have hT16:=(T.e0 (k:=1) (ty:=3) (o:=(ocV cdI)) hT15)
 have hT61:=(((hT16.front 2 rfl).front 1 rfl).front 2 rfl)
 refine SemY.loop (n:=100000) ?_;obtain ⟨r62,hr62,h⟩:=OB h;rcases r62 with w63 | w70
 ·try dsimp only at h
  refine Ec (C6 WkY.f1 (D6 v1 e12 _ 0 ([]:(List (List Int))) ([]:(List Int)) _ hr62 .e0 .e0 hp9 hT61)) ?_;rintro _ ⟨e64,hp65,hT66,rfl⟩
  let p1:Nat×AV:=(3,.v (.bool true))
  refine Ar AD [(2,e64),p1] ?_;refine SemY.ret ?_;have hq:=OI h; subst hq
  let p2:Nat×AV:=(2,.sl 1 (w63.map (cdL 1 cdI).enc))
  obtain ⟨hp67,hw68,hT69⟩:=KI (E:=E0) (n:=41) (l:=[(2,e64),p1]) (l':=[p2,p1]) hT66 ⟨⟨e64,kr,KF⟩,⟨.v (.bool true),kr,FzU.refl⟩,trivial⟩;exact ⟨⟨Fr 41 [p2,p1],hp67⟩,(WkY.trans (WkY.trans WkY.f1 hw68) WkY.f1),.inr rfl,[.sl 1 (w63.map (cdL 1 cdI).enc),.v (.bool true)],kr,⟨rfl,hT69⟩⟩
 ·try dsimp only at h
  refine Ec (C6 WkY.f1 (D6 v1 e12 _ 0 ([]:(List (List Int))) ([]:(List Int)) _ hr62 .e0 .e0 hp9 hT61)) ?_;rintro _ ⟨hp71,hT72,rfl⟩;have hq:=OI h; subst hq
  have hT73:=(T.e0 (k:=1) (ty:=27) (o:=(ocV (cdL 1 cdI))) hT72)
  let p3:Nat×AV:=(3,.v (.bool false))
  let p4:Nat×AV:=(2,.sl 1 (([]:(List (List Int))).map (cdL 1 cdI).enc))
  obtain ⟨hp74,hw75,hT76⟩:=KI (E:=E0) (n:=41) (l:=[(2,.e0),p3]) (l':=[p4,p3]) hT73 ⟨⟨.e0,kr,KF⟩,⟨.v (.bool false),kr,FzU.refl⟩,trivial⟩;exact ⟨⟨Fr 41 [p4,p3],hp74⟩,(WkY.trans (WkY.trans WkY.f1 hw75) WkY.f1),.inr rfl,[.sl 1 (([]:(List (List Int))).map (cdL 1 cdI).enc),.v (.bool false)],kr,⟨rfl,hT76⟩⟩
def Ez:Cs ((List UInt8)×Unit):=(csC cdS csN)
def E3 (r:(List (List Int))×Bool):AV:= .tp [(cdL 1 (cdL 1 cdI)).enc r.1,cdB.enc r.2]
def ID:List AV->Option AV:=Ea Ez (fun a=>Bo a.1) E3
theorem IJ:XOk 27 ID:=by
 refine Br Tryd.func27 (c:=DO) ?h2 ⟨Tryd.call27⟩ Ez (fun a=>Bo a.1) E3 (fun a=>(by show 1<=41; decide)) ?h3 ?h4
 case h2=>kernel_rfl
 case h3=>intro b; kernel_rfl
 case h4 =>
  intro a b h;refine Sem.mono (NS (HG (L:=[]) (hp:=[]) a.1 b h T.nil)) fun e s' hs=>?_
  obtain ⟨h1,ys,h2,h3,-⟩:=hs;exact ⟨h1,ys,h2,h3⟩
/- trestle/evening.Parse -/
noncomputable def EB:Code:=BW Tryd.f9
def BZ (x0:Int):Nat->(List UInt8)->(List (List (List Int)))->Int->Option (((List (List (List Int)))) ⊕ (Int×Int))
 | 0,_,_,_=>none
 | f + 1,c4,c5,c6 =>
  if (!(c4==[]))=true then
  (DJ c4 [10]).bind fun v8 =>
  (Bo v8.1).bind fun v9 =>
  (if (!v8.2.2)=true then some (c5,true) else some (c5,(!v9.2))).bind fun j12 =>
  if j12.2=true then
  some (.inr (c6,3))
  else
  (BN x0 [] v9.1).bind fun v16 =>
  if (v16 != 0)=true then
  some (.inr (c6,v16))
  else
  if ((j12.1.length:Int)==64)=true then
  some (.inr (c6,7))
  else
  if (B8 24 (j12.1.length + 1))=true then
  BZ x0 f v8.2.1 (j12.1++[v9.1]) (wr .i64 (c6 + 1))
  else none
  else
  some (.inl c5)
def BM (x0:Int) (x1:(List UInt8)):Option ((List (List (List Int)))×Int×Int) :=
 (Aj x0).bind fun v1 =>
 if (!v1)=true then
 some ([],0,90)
 else
 if (decide ((x1.length:Int) > 65536))=true then
 some ([],0,7)
 else
 (BZ x0 100000 x1 [] 0).bind fun r22 =>
 match r22 with
 | (.inl w23) =>
  some (w23,0,0)
 | (.inr w24) =>
  some ([],w24.1,w24.2)
def ED:Cs (Int×(List UInt8)×Unit):=(csC cdI (csC cdS csN))
def EI (r:(List (List (List Int)))×Int×Int):AV:= .tp [(cdL 1 (cdL 1 (cdL 1 cdI))).enc r.1,cdI.enc r.2.1,cdI.enc r.2.2]
theorem En (x0:Int):∀ (f:Nat) (c4:(List UInt8)) (c5:(List (List (List Int)))) (c6:Int) (r:((List (List (List Int)))) ⊕ (Int×Int)),BZ x0 f c4 c5 c6=some r->SemN E0 ⟨none,false⟩ (pc EB [1,1,1,0,1,0,0]) f ⟨Fr 62 [(0,.v (.int .i64 x0)),(1,.st c4),(7,hd 0 (c5.map (cdL 1 (cdL 1 cdI)).enc)),(8,.v (.int .i64 c6))],[mk 1 43 (c5.map (cdL 1 (cdL 1 cdI)).enc)]⟩ (fun e s=>match r with
 | (.inl w)=>e=(.exit 1)/\Wk E0 s ⟨Fr 62 [(7,hd 0 (w.map (cdL 1 (cdL 1 cdI)).enc))],[mk 1 43 (w.map (cdL 1 (cdL 1 cdI)).enc)]⟩
 | (.inr w)=>e = .ret/\Wk E0 s ⟨Fr 62 [(4,.e0),(5,.v (.int .i64 w.1)),(6,.v (.int .i64 w.2))],[]⟩):=by
 intro f;induction f with
 | zero=>intro c4 c5 c6 r h; cases h
 | succ f ih0 =>
  intro c4 c5 c6 r h
  have ih:=fun (c4:(List UInt8)) (c5:(List (List (List Int)))) (c6:Int)=>ih0 c4 c5 c6 r
  unfold BZ at h;refine Bt ?_;refine AC ?_;refine AL AD [(0,.v (.int .i64 x0)),(1,.st c4),(7,hd 0 (c5.map (cdL 1 (cdL 1 cdI)).enc)),(8,.v (.int .i64 c6)),(24,.v (.bool (!(c4==[]))))] [mk 1 43 (c5.map (cdL 1 (cdL 1 cdI)).enc)] ?_;refine AP (b:=(!(c4==[]))) kr (fun hb7=>?_) (fun hb7=>?_)
  ·rw [if_pos hb7] at h
   refine AT ?_;refine AC ?_;refine AW ?_;refine AC ?_;obtain ⟨v8,hv8,h⟩:=OB h;refine AE (s1:=⟨Fr 62 [(0,.v (.int .i64 x0)),(7,hd 0 (c5.map (cdL 1 (cdL 1 cdI)).enc)),(8,.v (.int .i64 c6)),(9,.st v8.1),(10,.st v8.2.1),(11,.v (.bool v8.2.2))],[mk 1 43 (c5.map (cdL 1 (cdL 1 cdI)).enc)]⟩) ?_ ?_
   ·refine AB (n:=62) AD 1 [(0,.v (.int .i64 x0)),(7,hd 0 (c5.map (cdL 1 (cdL 1 cdI)).enc)),(8,.v (.int .i64 c6)),(28,.st c4)] [mk 1 43 (c5.map (cdL 1 (cdL 1 cdI)).enc)] kr ?_
    refine Ae (caps:=[]) (xs:=[.st c4,.st [10]]) (u:=(c4,[10],())) rfl rfl Kt rfl (AA rfl) kr kr (Am (BU (c:=cdS) (v:=c4)) (Am (BU (c:=cdS) (v:=[10])) Cz)) (.inl kr) hv8 ?_;exact AJ AD
   refine AC ?_;obtain ⟨v9,hv9,h⟩:=OB h;refine AE (s1:=⟨Fr 62 [(0,.v (.int .i64 x0)),(7,hd 0 (c5.map (cdL 1 (cdL 1 cdI)).enc)),(8,.v (.int .i64 c6)),(10,.st v8.2.1),(11,.v (.bool v8.2.2)),(12,.sl 1 (v9.1.map (cdL 1 cdI).enc)),(13,.v (.bool v9.2))],[mk 1 43 (c5.map (cdL 1 (cdL 1 cdI)).enc)]⟩) ?_ ?_
   ·refine AB (n:=62) AD 1 [(0,.v (.int .i64 x0)),(7,hd 0 (c5.map (cdL 1 (cdL 1 cdI)).enc)),(8,.v (.int .i64 c6)),(10,.st v8.2.1),(11,.v (.bool v8.2.2)),(34,.st v8.1)] [mk 1 43 (c5.map (cdL 1 (cdL 1 cdI)).enc)] kr ?_
    refine Ae (caps:=[]) (xs:=[.st v8.1]) (u:=(v8.1,())) rfl rfl IJ rfl (AA rfl) kr kr (Am (BU (c:=cdS) (v:=v8.1)) Cz) (.inr kr) hv9 ?_;exact AJ AD
   refine AC ?_;refine AC ?_;obtain ⟨j12,hj12,h⟩:=OB h;refine AE (s1:=⟨Fr 62 [(0,.v (.int .i64 x0)),(7,hd 0 (j12.1.map (cdL 1 (cdL 1 cdI)).enc)),(8,.v (.int .i64 c6)),(10,.st v8.2.1),(12,.sl 1 (v9.1.map (cdL 1 cdI).enc)),(43,.v (.bool j12.2))],[mk 1 43 (j12.1.map (cdL 1 (cdL 1 cdI)).enc)]⟩) ?_ ?_
   ·refine AB (n:=62) AD 3 [(0,.v (.int .i64 x0)),(7,hd 0 (c5.map (cdL 1 (cdL 1 cdI)).enc)),(8,.v (.int .i64 c6)),(10,.st v8.2.1),(12,.sl 1 (v9.1.map (cdL 1 cdI).enc)),(13,.v (.bool v9.2)),(40,.v (.bool (!v8.2.2)))] [mk 1 43 (c5.map (cdL 1 (cdL 1 cdI)).enc)] kr ?_
    rcases BE (!v8.2.2) with hc20 | hc20
    ·rw [if_pos hc20] at hj12
     rw [hc20];refine AB (n:=62) AD 3 [(0,.v (.int .i64 x0)),(7,hd 0 (c5.map (cdL 1 (cdL 1 cdI)).enc)),(8,.v (.int .i64 c6)),(10,.st v8.2.1),(12,.sl 1 (v9.1.map (cdL 1 cdI).enc)),(41,.tp []),(42,.tp []),(43,.v (.bool true))] [mk 1 43 (c5.map (cdL 1 (cdL 1 cdI)).enc)] kr ?_;have hq:=OI hj12; subst hq;exact AH rfl (A6 [0] ⟨⟨_,rfl,ET⟩,trivial⟩ ⟨lv,EW (b':=0) kr kr,lv,lv,lv,lv,trivial⟩)
    ·rw [B3 hc20] at hj12
     rw [hc20];refine AB (n:=62) AD 3 [(0,.v (.int .i64 x0)),(7,hd 0 (c5.map (cdL 1 (cdL 1 cdI)).enc)),(8,.v (.int .i64 c6)),(10,.st v8.2.1),(12,.sl 1 (v9.1.map (cdL 1 cdI).enc)),(41,.v (.bool v9.2)),(42,.v (.bool (!v9.2))),(43,.v (.bool (!v9.2)))] [mk 1 43 (c5.map (cdL 1 (cdL 1 cdI)).enc)] kr ?_;have hq:=OI hj12; subst hq;exact AH rfl (A6 [0] ⟨⟨_,rfl,ET⟩,trivial⟩ ⟨lv,EW (b':=0) kr kr,lv,lv,lv,lv,trivial⟩)
   refine AP (b:=j12.2) kr (fun hb13=>?_) (fun hb13=>?_)
   ·rw [if_pos hb13] at h
    refine AC ?_;refine AE (s1:=⟨Fr 62 [(4,.e0),(5,.v (.int .i64 c6)),(6,.v (.int .i64 3))],[]⟩) ?_ ?_
    ·refine AB (n:=62) AD 4 [(4,.e0),(5,.v (.int .i64 c6)),(6,.v (.int .i64 3))] [mk 1 43 (j12.1.map (cdL 1 (cdL 1 cdI)).enc)] kr ?_
     exact AH rfl (A6 [] trivial ⟨lv,lv,lv,trivial⟩)
    refine AS ?_;have hq:=OI h; subst hq;exact ⟨rfl,AM⟩
   ·rw [B3 hb13] at h
    refine AT ?_;refine AC ?_;refine AC ?_;obtain ⟨v16,hv16,h⟩:=OB h;refine AE (s1:=⟨Fr 62 [(0,.v (.int .i64 x0)),(7,hd 0 (j12.1.map (cdL 1 (cdL 1 cdI)).enc)),(8,.v (.int .i64 c6)),(10,.st v8.2.1),(12,.sl 1 (v9.1.map (cdL 1 cdI).enc)),(14,.v (.int .i64 v16))],[mk 1 43 (j12.1.map (cdL 1 (cdL 1 cdI)).enc)]⟩) ?_ ?_
    ·refine AB (n:=62) AD 2 [(0,.v (.int .i64 x0)),(7,hd 0 (j12.1.map (cdL 1 (cdL 1 cdI)).enc)),(8,.v (.int .i64 c6)),(10,.st v8.2.1),(12,.sl 1 (v9.1.map (cdL 1 cdI).enc)),(45,.v (.int .i64 x0)),(46,.sl 1 (v9.1.map (cdL 1 cdI).enc))] [mk 1 43 (j12.1.map (cdL 1 (cdL 1 cdI)).enc)] kr ?_
     refine Ae (caps:=[]) (xs:=[.v (.int .i64 x0),.e0,.sl 1 (v9.1.map (cdL 1 cdI).enc)]) (u:=(x0,[],v9.1,())) rfl rfl Es rfl (AA rfl) kr kr (Am (BU (c:=cdI) (v:=x0)) (Am Sm.e0 (Am (BU (c:=(cdL 1 (cdL 1 cdI))) (v:=v9.1)) Cz))) (.inl kr) hv16 ?_;exact AJ AD
    refine AL AD [(0,.v (.int .i64 x0)),(7,hd 0 (j12.1.map (cdL 1 (cdL 1 cdI)).enc)),(8,.v (.int .i64 c6)),(10,.st v8.2.1),(12,.sl 1 (v9.1.map (cdL 1 cdI).enc)),(14,.v (.int .i64 v16)),(49,.v (.bool (v16 != 0)))] [mk 1 43 (j12.1.map (cdL 1 (cdL 1 cdI)).enc)] ?_;refine AP (b:=(v16 != 0)) kr (fun hb17=>?_) (fun hb17=>?_)
    ·rw [if_pos hb17] at h
     refine AC ?_;refine AE (s1:=⟨Fr 62 [(4,.e0),(5,.v (.int .i64 c6)),(6,.v (.int .i64 v16))],[]⟩) ?_ ?_
     ·refine AB (n:=62) AD 5 [(4,.e0),(5,.v (.int .i64 c6)),(6,.v (.int .i64 v16))] [mk 1 43 (j12.1.map (cdL 1 (cdL 1 cdI)).enc)] kr ?_
      exact AH rfl (A6 [] trivial ⟨lv,lv,lv,trivial⟩)
     refine AS ?_;have hq:=OI h; subst hq;exact ⟨rfl,AM⟩
    ·rw [B3 hb17] at h
     refine AT ?_;refine AC ?_;refine AC ?_;refine AE (s1:=⟨Fr 62 [(0,.v (.int .i64 x0)),(7,hd 0 (j12.1.map (cdL 1 (cdL 1 cdI)).enc)),(8,.v (.int .i64 c6)),(10,.st v8.2.1),(12,.sl 1 (v9.1.map (cdL 1 cdI).enc)),(54,.v (.bool ((j12.1.length:Int)==64)))],[mk 1 43 (j12.1.map (cdL 1 (cdL 1 cdI)).enc)]⟩) ?_ ?_
     ·refine AB (n:=62) AD 1 [(0,.v (.int .i64 x0)),(7,hd 0 (j12.1.map (cdL 1 (cdL 1 cdI)).enc)),(8,.v (.int .i64 c6)),(10,.st v8.2.1),(12,.sl 1 (v9.1.map (cdL 1 cdI).enc)),(52,hd 0 (j12.1.map (cdL 1 (cdL 1 cdI)).enc))] [mk 1 43 (j12.1.map (cdL 1 (cdL 1 cdI)).enc)] kr ?_
      refine AI AD 0 rfl (Bd (AA rfl) rfl (Ca (a:=hd 0 (j12.1.map (cdL 1 (cdL 1 cdI)).enc)) kr (QB (xs:=j12.1) (e:=(cdL 1 (cdL 1 cdI)).enc) (el:=43) kr))) ?_;exact AJ AD
     refine AP (b:=((j12.1.length:Int)==64)) kr (fun hb18=>?_) (fun hb18=>?_)
     ·rw [if_pos hb18] at h
      refine AC ?_;refine AE (s1:=⟨Fr 62 [(4,.e0),(5,.v (.int .i64 c6)),(6,.v (.int .i64 7))],[]⟩) ?_ ?_
      ·refine AB (n:=62) AD 4 [(4,.e0),(5,.v (.int .i64 c6)),(6,.v (.int .i64 7))] [mk 1 43 (j12.1.map (cdL 1 (cdL 1 cdI)).enc)] kr ?_
       exact AH rfl (A6 [] trivial ⟨lv,lv,lv,trivial⟩)
      refine AS ?_;have hq:=OI h; subst hq;exact ⟨rfl,AM⟩
     ·rw [B3 hb18] at h
      refine AT ?_;refine AC ?_;by_cases hk19:(B8 24 (j12.1.length + 1))=true
      case neg=>rw [if_neg hk19] at h; cases h
      rw [if_pos hk19] at h;refine AE (s1:=⟨Fr 62 [(0,.v (.int .i64 x0)),(7,hd 0 ((j12.1++[v9.1]).map (cdL 1 (cdL 1 cdI)).enc)),(8,.v (.int .i64 c6)),(10,.st v8.2.1)],[mk 1 43 ((j12.1++[v9.1]).map (cdL 1 (cdL 1 cdI)).enc)]⟩) ?_ ?_
      ·refine AB (n:=62) AD 3 [(0,.v (.int .i64 x0)),(8,.v (.int .i64 c6)),(10,.st v8.2.1),(56,hd 0 (j12.1.map (cdL 1 (cdL 1 cdI)).enc)),(58,hd 1 ([v9.1].map (cdL 1 (cdL 1 cdI)).enc))] [mk 1 43 (j12.1.map (cdL 1 (cdL 1 cdI)).enc),mk 1 43 ([v9.1].map (cdL 1 (cdL 1 cdI)).enc)] kr ?_
       refine AI AD 0 rfl (NJ (AA rfl) rfl kr kr (D0 (a:=hd 0 (j12.1.map (cdL 1 (cdL 1 cdI)).enc)) (b:=hd 1 ([v9.1].map (cdL 1 (cdL 1 cdI)).enc)) kr kr (Ik (c:=(cdL 1 (cdL 1 cdI))) (xs:=j12.1) (vs:=[v9.1]) (k:=1) (bytes:=24) (el:=43) kr kr (Il (t:=43) kr) (List.cons_ne_nil _ _) kr hk19))) ?_;refine AB (n:=62) AD 1 [(0,.v (.int .i64 x0)),(7,hd 2 ((j12.1++[v9.1]).map (cdL 1 (cdL 1 cdI)).enc)),(8,.v (.int .i64 c6)),(10,.st v8.2.1)] [none,mk 1 43 ([v9.1].map (cdL 1 (cdL 1 cdI)).enc),mk 1 43 ((j12.1++[v9.1]).map (cdL 1 (cdL 1 cdI)).enc)] kr ?_;exact AH rfl (A6 [2] ⟨⟨_,rfl,ET⟩,trivial⟩ ⟨lv,EW (b':=2) kr kr,lv,lv,trivial⟩)
      refine C4 AD [(0,.v (.int .i64 x0)),(1,.st v8.2.1),(7,hd 0 ((j12.1++[v9.1]).map (cdL 1 (cdL 1 cdI)).enc)),(8,.v (.int .i64 c6))] [mk 1 43 ((j12.1++[v9.1]).map (cdL 1 (cdL 1 cdI)).enc)] ?_;refine C4 AD [(0,.v (.int .i64 x0)),(1,.st v8.2.1),(7,hd 0 ((j12.1++[v9.1]).map (cdL 1 (cdL 1 cdI)).enc)),(8,.v (.int .i64 (wr .i64 (c6 + 1))))] [mk 1 43 ((j12.1++[v9.1]).map (cdL 1 (cdL 1 cdI)).enc)] ?_;exact Ak (s1:=⟨Fr 62 [(0,.v (.int .i64 x0)),(1,.st v8.2.1),(7,hd 0 ((j12.1++[v9.1]).map (cdL 1 (cdL 1 cdI)).enc)),(8,.v (.int .i64 (wr .i64 (c6 + 1))))],[mk 1 43 ((j12.1++[v9.1]).map (cdL 1 (cdL 1 cdI)).enc)]⟩) (A6 [0] ⟨⟨_,rfl,ET⟩,trivial⟩ ⟨lv,lv,EW (b':=0) kr kr,lv,trivial⟩) (ih v8.2.1 (j12.1++[v9.1]) (wr .i64 (c6 + 1)) h)
  ·rw [B3 hb7] at h
   refine CT ?_;have hq:=OI h; subst hq;exact ⟨rfl,(A6 [0] ⟨⟨_,rfl,ET⟩,trivial⟩ ⟨EW (b':=0) kr kr,trivial⟩)⟩
theorem Hy (x0:Int) (x1:(List UInt8)) (r:(List (List (List Int)))×Int×Int) (h:BM x0 x1=some r):Sem E0 ⟨none,false⟩ EB ⟨Fr 62 (At 0 (ED.enc (x0,x1,()))),[]⟩ fun e s'=>(e = .normal\/e = .ret)/\∃ xs,EM E0.P s'.fr s'.hp Tryd.f9.results.toList=some xs/\Ef xs=EI r:=by
 unfold BM at h
 let p1:Nat×AV:=(0,.v (.int .i64 x0))
 refine BQ (CO (s1:=⟨Fr 62 [p1,(1,.st x1)],[]⟩) AM ?_);refine AL AD [p1,(1,.st x1)] [] ?_;refine AC ?_;refine AW ?_;refine AC ?_;obtain ⟨v1,hv1,h⟩:=OB h;refine AE (s1:=⟨Fr 62 [p1,(1,.st x1),(15,.v (.bool (!v1)))],[]⟩) ?_ ?_
 ·refine AB (n:=62) AD 1 [p1,(1,.st x1),(16,.v (.int .i64 x0))] [] kr ?_
  refine Ae (caps:=[]) (xs:=[.v (.int .i64 x0)]) (u:=(x0,())) rfl rfl Cb rfl (AA rfl) kr kr (Am (BU (c:=cdI) (v:=x0)) Cz) (.inl kr) hv1 ?_;exact AJ AD
 refine AP (b:=(!v1)) kr (fun hb2=>?_) (fun hb2=>?_)
 ·rw [if_pos hb2] at h
  let p2:Nat×AV:=(6,.v (.int .i64 90))
  let p3:Nat×AV:=(5,.v (.int .i64 0))
  refine AL AD [(4,.e0),p3,p2] [] ?_;refine AS ?_;have hq:=OI h; subst hq
  let p4:Nat×AV:=(4,.sl 1 ([].map (cdL 1 (cdL 1 cdI)).enc))
  exact ⟨⟨Fr 62 [p4,p3,p2],[]⟩,(Wk.trans (s1:=⟨Fr 62 [(4,.e0),p3,p2],[]⟩) AM (Wk.trans (s1:=⟨Fr 62 [(4,.e0),p3,p2],[none]⟩) Wk.none (Wk.trans (s1:=⟨Fr 62 [p4,p3,p2],[none]⟩) (Fb 0 (.inr kr) ⟨.inl rfl,trivial⟩ ⟨⟨.e0,kr,P3⟩,⟨.v (.int .i64 0),kr,.inl rfl⟩,⟨.v (.int .i64 90),kr,.inl rfl⟩,trivial⟩) (A6 [] trivial ⟨lv,lv,lv,trivial⟩)))),.inr rfl,[.sl 1 ([].map (cdL 1 (cdL 1 cdI)).enc),.v (.int .i64 0),.v (.int .i64 90)],kr,kr⟩
 ·rw [B3 hb2] at h
  refine AL AD [p1,(1,.st x1),(19,.v (.bool (decide ((x1.length:Int) > 65536))))] [] ?_;refine AP (b:=(decide ((x1.length:Int) > 65536))) kr (fun hb3=>?_) (fun hb3=>?_)
  ·rw [if_pos hb3] at h
   let p5:Nat×AV:=(6,.v (.int .i64 7))
   let p6:Nat×AV:=(5,.v (.int .i64 0))
   refine AL AD [(4,.e0),p6,p5] [] ?_;refine AS ?_;have hq:=OI h; subst hq
   let p7:Nat×AV:=(4,.sl 1 ([].map (cdL 1 (cdL 1 cdI)).enc))
   exact ⟨⟨Fr 62 [p7,p6,p5],[]⟩,(Wk.trans (s1:=⟨Fr 62 [(4,.e0),p6,p5],[]⟩) AM (Wk.trans (s1:=⟨Fr 62 [(4,.e0),p6,p5],[none]⟩) Wk.none (Wk.trans (s1:=⟨Fr 62 [p7,p6,p5],[none]⟩) (Fb 0 (.inr kr) ⟨.inl rfl,trivial⟩ ⟨⟨.e0,kr,P3⟩,⟨.v (.int .i64 0),kr,.inl rfl⟩,⟨.v (.int .i64 7),kr,.inl rfl⟩,trivial⟩) (A6 [] trivial ⟨lv,lv,lv,trivial⟩)))),.inr rfl,[.sl 1 ([].map (cdL 1 (cdL 1 cdI)).enc),.v (.int .i64 0),.v (.int .i64 7)],kr,kr⟩
  ·rw [B3 hb3] at h
   refine AT ?_;refine AL AD [p1,(1,.st x1),(7,.e0)] [] ?_;refine AC ?_
   let p8:Nat×AV:=(8,.v (.int .i64 0))
   refine AL AD [p1,(1,.st x1),(7,.e0),p8] [] ?_;refine AW ?_;obtain ⟨r22,hr22,h⟩:=OB h;refine Cg (n:=100000) ?_;rcases r22 with w23 | w24
   ·try dsimp only at h
    let p9:Option Blk:=mk 1 43 ([].map (cdL 1 (cdL 1 cdI)).enc)
    let p10:Nat×AV:=(7,hd 0 ([].map (cdL 1 (cdL 1 cdI)).enc))
    refine BF (Ak (s1:=⟨Fr 62 [p1,(1,.st x1),p10,p8],[p9]⟩) (Wk.trans (s1:=⟨Fr 62 [p1,(1,.st x1),p10,p8],[p9]⟩) Wk.none (A6 [0] ⟨⟨_,rfl,I0⟩,trivial⟩ ⟨lv,lv,lv,lv,trivial⟩)) (En x0 _ x1 [] 0 _ hr22)) ?_
    let p11:Nat×AV:=(6,.v (.int .i64 0))
    let p12:Nat×AV:=(5,.v (.int .i64 0))
    refine AL AD [(4,hd 0 (w23.map (cdL 1 (cdL 1 cdI)).enc)),p12,p11] [mk 1 43 (w23.map (cdL 1 (cdL 1 cdI)).enc)] ?_;refine AS ?_;have hq:=OI h; subst hq
    let p13:Nat×AV:=(4,.sl 1 (w23.map (cdL 1 (cdL 1 cdI)).enc))
    exact ⟨⟨Fr 62 [p13,p12,p11],[]⟩,(Wk.trans (s1:=⟨Fr 62 [p13,p12,p11],[none]⟩) (Fb 0 (.inl kr) ⟨.inl rfl,trivial⟩ ⟨⟨hd 0 (w23.map (cdL 1 (cdL 1 cdI)).enc),kr,Nt (t:=43) kr IM⟩,⟨.v (.int .i64 0),kr,.inl rfl⟩,⟨.v (.int .i64 0),kr,.inl rfl⟩,trivial⟩) (A6 [] trivial ⟨lv,lv,lv,trivial⟩)),.inr rfl,[.sl 1 (w23.map (cdL 1 (cdL 1 cdI)).enc),.v (.int .i64 0),.v (.int .i64 0)],kr,kr⟩
   ·try dsimp only at h
    let p14:Option Blk:=mk 1 43 ([].map (cdL 1 (cdL 1 cdI)).enc)
    let p15:Nat×AV:=(7,hd 0 ([].map (cdL 1 (cdL 1 cdI)).enc))
    refine BF (Ak (s1:=⟨Fr 62 [p1,(1,.st x1),p15,p8],[p14]⟩) (Wk.trans (s1:=⟨Fr 62 [p1,(1,.st x1),p15,p8],[p14]⟩) Wk.none (A6 [0] ⟨⟨_,rfl,I0⟩,trivial⟩ ⟨lv,lv,lv,lv,trivial⟩)) (En x0 _ x1 [] 0 _ hr22)) ?_;have hq:=OI h; subst hq
    let p16:Nat×AV:=(6,.v (.int .i64 w24.2))
    let p17:Nat×AV:=(5,.v (.int .i64 w24.1))
    let p18:Nat×AV:=(4,.sl 1 ([].map (cdL 1 (cdL 1 cdI)).enc))
    exact ⟨⟨Fr 62 [p18,p17,p16],[]⟩,(Wk.trans (s1:=⟨Fr 62 [(4,.e0),p17,p16],[]⟩) AM (Wk.trans (s1:=⟨Fr 62 [(4,.e0),p17,p16],[none]⟩) Wk.none (Wk.trans (s1:=⟨Fr 62 [p18,p17,p16],[none]⟩) (Fb 0 (.inr kr) ⟨.inl rfl,trivial⟩ ⟨⟨.e0,kr,P3⟩,⟨.v (.int .i64 w24.1),kr,.inl rfl⟩,⟨.v (.int .i64 w24.2),kr,.inl rfl⟩,trivial⟩) (A6 [] trivial ⟨lv,lv,lv,trivial⟩)))),.inr rfl,[.sl 1 ([].map (cdL 1 (cdL 1 cdI)).enc),.v (.int .i64 w24.1),.v (.int .i64 w24.2)],kr,kr⟩
def JZ:List AV->Option AV:=Ea ED (fun a=>BM a.1 a.2.1) EI
theorem Gh:XOk 9 JZ:=by
 refine Br Tryd.func9 (c:=EB) ?h2 ⟨Tryd.call9⟩ ED (fun a=>BM a.1 a.2.1) EI (fun a=>(by show 2<=62; decide)) ?h3 ?h4
 case h2=>kernel_rfl
 case h3=>intro b; kernel_rfl
 case h4=>exact fun a b h=>Hy a.1 a.2.1 b h
/- trestle/trestlekit.SameInts -/
noncomputable def B9:Env:=E0
theorem Di:EnvOk B9:=AD
noncomputable def Ei:Code:=BW Tryd.f51
def BO (x0:(List Int)) (x1:(List Int)):Nat->Int->Option ((Unit) ⊕ (Bool))
 | 0,_=>none
 | f + 1,c2 =>
  if (decide (c2 < (x0.length:Int)))=true then
  (idx x0 c2).bind fun v4 =>
  (idx x1 c2).bind fun v5 =>
  if (v4 != v5)=true then
  some (.inr false)
  else
  BO x0 x1 f (wr .i64 (c2 + 1))
  else
  some (.inl ())
def CR (x0:(List Int)) (x1:(List Int)):Option (Bool) :=
 if ((x0.length:Int)!=(x1.length:Int))=true then
 some false
 else
 (BO x0 x1 100000 0).bind fun r8 =>
 match r8 with
 | (.inl w9) =>
  some true
 | (.inr w10) =>
  some w10
def DP:Cs ((List Int)×(List Int)×Unit):=(csC (cdL 1 cdI) (csC (cdL 1 cdI) csN))
def DW (r:Bool):AV:=cdB.enc r
theorem FR (x0:(List Int)) (x1:(List Int)):∀ (f:Nat) (c2:Int) (r:(Unit) ⊕ (Bool)),BO x0 x1 f c2=some r->SemN B9 ⟨none,false⟩ (pc Ei [1,1,0,1,0,0]) f ⟨Fr 26 [(0,.sl 1 (x0.map cdI.enc)),(1,.sl 1 (x1.map cdI.enc)),(5,.v (.int .i64 c2))],[]⟩ (fun e s=>match r with
 | (.inl w)=>e=(.exit 0)/\Wk B9 s ⟨Fr 26 [],[]⟩
 | (.inr w)=>e = .ret/\Wk B9 s ⟨Fr 26 [(4,.v (.bool w))],[]⟩):=by
 have he:=Di
 intro f;induction f with
 | zero=>intro c2 r h; cases h
 | succ f ih0 =>
  intro c2 r h
  have ih:=fun (c2:Int)=>ih0 c2 r
  unfold BO at h;refine Bt ?_;refine AC ?_;refine AC ?_
  let p1:Nat×AV:=(5,.v (.int .i64 c2))
  let p2:Nat×AV:=(1,.sl 1 (x1.map cdI.enc))
  let p3:Nat×AV:=(0,.sl 1 (x0.map cdI.enc))
  refine AE (s1:=⟨Fr 26 [p3,p2,p1,(14,.v (.bool (decide (c2 < (x0.length:Int)))))],[]⟩) ?_ ?_
  ·refine AB (n:=26) he 2 [p3,p2,p1,(11,.v (.int .i64 c2)),(12,.sl 1 (x0.map cdI.enc))] [] kr ?_
   refine AI he 0 rfl (Bd (AA rfl) rfl (Ca (a:= .sl 1 (x0.map cdI.enc)) kr (Bb (el:=3) kr))) ?_;exact AJ he
  refine AP (b:=(decide (c2 < (x0.length:Int)))) kr (fun hb3=>?_) (fun hb3=>?_)
  ·rw [if_pos hb3] at h
   refine AT ?_;refine AC ?_;refine AW ?_;refine AC ?_;obtain ⟨v4,hv4,h⟩:=OB h;obtain ⟨v5,hv5,h⟩:=OB h;refine GG he (s1:=⟨Fr 26 [p3,p2,p1,(25,.v (.bool (v4 != v5)))],[]⟩) kr ?_ ?_
   ·refine BH (n:=26) he 2 [p3,p2,p1,(17,.sl 1 (x0.map cdI.enc)),(18,.v (.int .i64 c2))] [] kr kr ?_
    refine RunDS.one he rfl kr (H5 kr (AA rfl) rfl (AR (a:= .sl 1 (x0.map cdI.enc)) (b:= .v (.int .i64 c2)) kr kr (F9 (e:=cdI.enc) (el:=3) (k:=1) (ki:= .i64) kr kr hv4)) kr) ?_;refine BH (n:=26) he 3 [p3,p2,p1,(20,.v (.int .i64 v4)),(21,.sl 1 (x1.map cdI.enc)),(22,.v (.int .i64 c2))] [] kr kr ?_;refine RunDS.one he rfl kr (H5 kr (AA rfl) rfl (AR (a:= .sl 1 (x1.map cdI.enc)) (b:= .v (.int .i64 c2)) kr kr (F9 (e:=cdI.enc) (el:=3) (k:=1) (ki:= .i64) kr kr hv5)) kr) ?_;refine BH (n:=26) he 2 [p3,p2,p1,(25,.v (.bool (v4 != v5)))] [] kr kr ?_;exact RunDS.done rfl AM
   refine AP (b:=(v4 != v5)) kr (fun hb6=>?_) (fun hb6=>?_)
   ·rw [if_pos hb6] at h
    refine AL he [(4,.v (.bool false))] [] ?_;refine AS ?_;have hq:=OI h; subst hq;exact ⟨rfl,AM⟩
   ·rw [B3 hb6] at h
    refine AT ?_
    let p4:Nat×AV:=(5,.v (.int .i64 (wr .i64 (c2 + 1))))
    refine C4 he [p3,p2,p4] [] ?_;exact Ak (s1:=⟨Fr 26 [p3,p2,p4],[]⟩) AM (ih (wr .i64 (c2 + 1)) h)
  ·rw [B3 hb3] at h
   refine CT ?_;have hq:=OI h; subst hq;exact ⟨rfl,AM⟩
theorem IW (x0:(List Int)) (x1:(List Int)) (r:Bool) (h:CR x0 x1=some r):Sem B9 ⟨none,false⟩ Ei ⟨Fr 26 (At 0 (DP.enc (x0,x1,()))),[]⟩ fun e s'=>(e = .normal\/e = .ret)/\∃ xs,EM B9.P s'.fr s'.hp Tryd.f51.results.toList=some xs/\Ef xs=DW r:=by
 have he:=Di
 unfold CR at h
 let p1:Nat×AV:=(1,.sl 1 (x1.map cdI.enc))
 let p2:Nat×AV:=(0,.sl 1 (x0.map cdI.enc))
 refine BQ (CO (s1:=⟨Fr 26 [p2,p1],[]⟩) AM ?_);refine AL he [p2,p1] [] ?_;refine AC ?_;refine AC ?_;refine AE (s1:=⟨Fr 26 [p2,p1,(10,.v (.bool ((x0.length:Int)!=(x1.length:Int))))],[]⟩) ?_ ?_
 ·refine AB (n:=26) he 1 [p2,p1,(6,.sl 1 (x0.map cdI.enc))] [] kr ?_
  refine AI he 0 rfl (Bd (AA rfl) rfl (Ca (a:= .sl 1 (x0.map cdI.enc)) kr (Bb (el:=3) kr))) ?_;refine AB (n:=26) he 1 [p2,p1,(7,.v (.int .i64 (x0.length:Int))),(8,.sl 1 (x1.map cdI.enc))] [] kr ?_;refine AI he 0 rfl (Bd (AA rfl) rfl (Ca (a:= .sl 1 (x1.map cdI.enc)) kr (Bb (el:=3) kr))) ?_;exact AJ he
 refine AP (b:=((x0.length:Int)!=(x1.length:Int))) kr (fun hb1=>?_) (fun hb1=>?_)
 ·rw [if_pos hb1] at h
  refine AL he [(4,.v (.bool false))] [] ?_;refine AS ?_;have hq:=OI h; subst hq;exact ⟨⟨Fr 26 [(4,.v (.bool false))],[]⟩,AM,.inr rfl,[.v (.bool false)],kr,kr⟩
 ·rw [B3 hb1] at h
  refine AT ?_;refine AC ?_
  let p3:Nat×AV:=(5,.v (.int .i64 0))
  refine AL he [p2,p1,p3] [] ?_;refine AW ?_;obtain ⟨r8,hr8,h⟩:=OB h;refine Cg (n:=100000) ?_;rcases r8 with w9 | w10
  ·try dsimp only at h
   refine BF (Ak (s1:=⟨Fr 26 [p2,p1,p3],[]⟩) AM (FR x0 x1 _ 0 _ hr8)) ?_;refine AL he [(4,.v (.bool true))] [] ?_;refine AS ?_;have hq:=OI h; subst hq;exact ⟨⟨Fr 26 [(4,.v (.bool true))],[]⟩,AM,.inr rfl,[.v (.bool true)],kr,kr⟩
  ·try dsimp only at h
   refine BF (Ak (s1:=⟨Fr 26 [p2,p1,p3],[]⟩) AM (FR x0 x1 _ 0 _ hr8)) ?_;have hq:=OI h; subst hq;exact ⟨⟨Fr 26 [(4,.v (.bool w10))],[]⟩,AM,.inr rfl,[.v (.bool w10)],kr,kr⟩
def G3:List AV->Option AV:=Ea DP (fun a=>CR a.1 a.2.1) DW
theorem G6:XOk 51 G3:=by
 refine EnvOk.x (E:=B9) (BY Di (fn:=Tryd.f51) (c:=Ei) ?h1 ?h2 ⟨Tryd.call51⟩ DP (fun a=>CR a.1 a.2.1) DW (fun a=>(by show 2<=26; decide)) ?h3 ?h4) rfl rfl
 case h1=>kernel_rfl
 case h2=>kernel_rfl
 case h3=>intro b; kernel_rfl
 case h4=>exact fun a b h=>IW a.1 a.2.1 b h
/- trestle/trestlekit.SameLists -/
noncomputable def Bj:Env:=(E0.withX 51 G3)
theorem DV:EnvOk Bj:=(EnvOk.withX AD G6.1 G6.2)
noncomputable def EC:Code:=BW Tryd.f31
def A9 (x0:(List (List Int))) (x1:(List (List Int))):Nat->Int->Option ((Unit) ⊕ (Bool))
 | 0,_=>none
 | f + 1,c2 =>
  if (decide (c2 < (x0.length:Int)))=true then
  (idx x0 c2).bind fun v4 =>
  (idx x1 c2).bind fun v5 =>
  (CR v4 v5).bind fun v6 =>
  if (!v6)=true then
  some (.inr false)
  else
  A9 x0 x1 f (wr .i64 (c2 + 1))
  else
  some (.inl ())
def B4 (x0:(List (List Int))) (x1:(List (List Int))):Option (Bool) :=
 if ((x0.length:Int)!=(x1.length:Int))=true then
 some false
 else
 (A9 x0 x1 100000 0).bind fun r9 =>
 match r9 with
 | (.inl w10) =>
  some true
 | (.inr w11) =>
  some w11
def DC:Cs ((List (List Int))×(List (List Int))×Unit):=(csC (cdL 1 (cdL 1 cdI)) (csC (cdL 1 (cdL 1 cdI)) csN))
def DH (r:Bool):AV:=cdB.enc r
theorem E7 (x0:(List (List Int))) (x1:(List (List Int))):∀ (f:Nat) (c2:Int) (r:(Unit) ⊕ (Bool)),A9 x0 x1 f c2=some r->SemN Bj ⟨none,false⟩ (pc EC [1,1,0,1,0,0]) f ⟨Fr 27 [(0,.sl 1 (x0.map (cdL 1 cdI).enc)),(1,.sl 1 (x1.map (cdL 1 cdI).enc)),(5,.v (.int .i64 c2))],[]⟩ (fun e s=>match r with
 | (.inl w)=>e=(.exit 0)/\Wk Bj s ⟨Fr 27 [],[]⟩
 | (.inr w)=>e = .ret/\Wk Bj s ⟨Fr 27 [(4,.v (.bool w))],[]⟩):=by
 have he:=DV
 intro f;induction f with
 | zero=>intro c2 r h; cases h
 | succ f ih0 =>
  intro c2 r h
  have ih:=fun (c2:Int)=>ih0 c2 r
  unfold A9 at h;refine Bt ?_;refine AC ?_;refine AC ?_
  let p1:Nat×AV:=(5,.v (.int .i64 c2))
  let p2:Nat×AV:=(1,.sl 1 (x1.map (cdL 1 cdI).enc))
  let p3:Nat×AV:=(0,.sl 1 (x0.map (cdL 1 cdI).enc))
  refine AE (s1:=⟨Fr 27 [p3,p2,p1,(14,.v (.bool (decide (c2 < (x0.length:Int)))))],[]⟩) ?_ ?_
  ·refine AB (n:=27) he 2 [p3,p2,p1,(11,.v (.int .i64 c2)),(12,.sl 1 (x0.map (cdL 1 cdI).enc))] [] kr ?_
   refine AI he 0 rfl (Bd (AA rfl) rfl (Ca (a:= .sl 1 (x0.map (cdL 1 cdI).enc)) kr (Bb (el:=27) kr))) ?_;exact AJ he
  refine AP (b:=(decide (c2 < (x0.length:Int)))) kr (fun hb3=>?_) (fun hb3=>?_)
  ·rw [if_pos hb3] at h
   refine AT ?_;refine AC ?_;refine AW ?_;refine AC ?_;obtain ⟨v4,hv4,h⟩:=OB h;obtain ⟨v5,hv5,h⟩:=OB h;obtain ⟨v6,hv6,h⟩:=OB h;refine GG he (s1:=⟨Fr 27 [p3,p2,p1,(26,.v (.bool (!v6)))],[]⟩) kr ?_ ?_
   ·refine BH (n:=27) he 2 [p3,p2,p1,(17,.sl 1 (x0.map (cdL 1 cdI).enc)),(18,.v (.int .i64 c2))] [] kr kr ?_
    refine RunDS.one he rfl kr (H5 kr (AA rfl) rfl (AR (a:= .sl 1 (x0.map (cdL 1 cdI).enc)) (b:= .v (.int .i64 c2)) kr kr (F9 (e:=(cdL 1 cdI).enc) (el:=27) (k:=1) (ki:= .i64) kr kr hv4)) kr) ?_;refine BH (n:=27) he 3 [p3,p2,p1,(20,.sl 1 (v4.map cdI.enc)),(21,.sl 1 (x1.map (cdL 1 cdI).enc)),(22,.v (.int .i64 c2))] [] kr kr ?_;refine RunDS.one he rfl kr (H5 kr (AA rfl) rfl (AR (a:= .sl 1 (x1.map (cdL 1 cdI).enc)) (b:= .v (.int .i64 c2)) kr kr (F9 (e:=(cdL 1 cdI).enc) (el:=27) (k:=1) (ki:= .i64) kr kr hv5)) kr) ?_;refine BH (n:=27) he 1 [p3,p2,p1,(20,.sl 1 (v4.map cdI.enc)),(24,.sl 1 (v5.map cdI.enc))] [] kr kr ?_;refine RunDS.call he (fid:=51) (s:=DP) (F:=fun a=>CR a.1 a.2.1) (er:=DW) (xs:=[.sl 1 (v4.map cdI.enc),.sl 1 (v5.map cdI.enc)]) (a:=(v4,v5,())) rfl (AA rfl) kr kr kr (Sns.cons (Sn.enc (c:=(cdL 1 cdI)) (v:=v4)) (Sns.cons (Sn.enc (c:=(cdL 1 cdI)) (v:=v5)) Sns.nil)) kr hv6 ?_;refine BH (n:=27) he 1 [p3,p2,p1,(26,.v (.bool (!v6)))] [] kr kr ?_;exact RunDS.done rfl AM
   refine AP (b:=(!v6)) kr (fun hb7=>?_) (fun hb7=>?_)
   ·rw [if_pos hb7] at h
    refine AL he [(4,.v (.bool false))] [] ?_;refine AS ?_;have hq:=OI h; subst hq;exact ⟨rfl,AM⟩
   ·rw [B3 hb7] at h
    refine AT ?_
    let p4:Nat×AV:=(5,.v (.int .i64 (wr .i64 (c2 + 1))))
    refine C4 he [p3,p2,p4] [] ?_;exact Ak (s1:=⟨Fr 27 [p3,p2,p4],[]⟩) AM (ih (wr .i64 (c2 + 1)) h)
  ·rw [B3 hb3] at h
   refine CT ?_;have hq:=OI h; subst hq;exact ⟨rfl,AM⟩
theorem H2 (x0:(List (List Int))) (x1:(List (List Int))) (r:Bool) (h:B4 x0 x1=some r):Sem Bj ⟨none,false⟩ EC ⟨Fr 27 (At 0 (DC.enc (x0,x1,()))),[]⟩ fun e s'=>(e = .normal\/e = .ret)/\∃ xs,EM Bj.P s'.fr s'.hp Tryd.f31.results.toList=some xs/\Ef xs=DH r:=by
 have he:=DV
 unfold B4 at h
 let p1:Nat×AV:=(1,.sl 1 (x1.map (cdL 1 cdI).enc))
 let p2:Nat×AV:=(0,.sl 1 (x0.map (cdL 1 cdI).enc))
 refine BQ (CO (s1:=⟨Fr 27 [p2,p1],[]⟩) AM ?_);refine AL he [p2,p1] [] ?_;refine AC ?_;refine AC ?_;refine AE (s1:=⟨Fr 27 [p2,p1,(10,.v (.bool ((x0.length:Int)!=(x1.length:Int))))],[]⟩) ?_ ?_
 ·refine AB (n:=27) he 1 [p2,p1,(6,.sl 1 (x0.map (cdL 1 cdI).enc))] [] kr ?_
  refine AI he 0 rfl (Bd (AA rfl) rfl (Ca (a:= .sl 1 (x0.map (cdL 1 cdI).enc)) kr (Bb (el:=27) kr))) ?_;refine AB (n:=27) he 1 [p2,p1,(7,.v (.int .i64 (x0.length:Int))),(8,.sl 1 (x1.map (cdL 1 cdI).enc))] [] kr ?_;refine AI he 0 rfl (Bd (AA rfl) rfl (Ca (a:= .sl 1 (x1.map (cdL 1 cdI).enc)) kr (Bb (el:=27) kr))) ?_;exact AJ he
 refine AP (b:=((x0.length:Int)!=(x1.length:Int))) kr (fun hb1=>?_) (fun hb1=>?_)
 ·rw [if_pos hb1] at h
  refine AL he [(4,.v (.bool false))] [] ?_;refine AS ?_;have hq:=OI h; subst hq;exact ⟨⟨Fr 27 [(4,.v (.bool false))],[]⟩,AM,.inr rfl,[.v (.bool false)],kr,kr⟩
 ·rw [B3 hb1] at h
  refine AT ?_;refine AC ?_
  let p3:Nat×AV:=(5,.v (.int .i64 0))
  refine AL he [p2,p1,p3] [] ?_;refine AW ?_;obtain ⟨r9,hr9,h⟩:=OB h;refine Cg (n:=100000) ?_;rcases r9 with w10 | w11
  ·try dsimp only at h
   refine BF (Ak (s1:=⟨Fr 27 [p2,p1,p3],[]⟩) AM (E7 x0 x1 _ 0 _ hr9)) ?_;refine AL he [(4,.v (.bool true))] [] ?_;refine AS ?_;have hq:=OI h; subst hq;exact ⟨⟨Fr 27 [(4,.v (.bool true))],[]⟩,AM,.inr rfl,[.v (.bool true)],kr,kr⟩
  ·try dsimp only at h
   refine BF (Ak (s1:=⟨Fr 27 [p2,p1,p3],[]⟩) AM (E7 x0 x1 _ 0 _ hr9)) ?_;have hq:=OI h; subst hq;exact ⟨⟨Fr 27 [(4,.v (.bool w11))],[]⟩,AM,.inr rfl,[.v (.bool w11)],kr,kr⟩
def Gd:List AV->Option AV:=Ea DC (fun a=>B4 a.1 a.2.1) DH
theorem Gj:XOk 31 Gd:=by
 refine EnvOk.x (E:=Bj) (BY DV (fn:=Tryd.f31) (c:=EC) ?h1 ?h2 ⟨Tryd.call31⟩ DC (fun a=>B4 a.1 a.2.1) DH (fun a=>(by show 2<=27; decide)) ?h3 ?h4) rfl rfl
 case h1=>kernel_rfl
 case h2=>kernel_rfl
 case h3=>intro b; kernel_rfl
 case h4=>exact fun a b h=>H2 a.1 a.2.1 b h
/- trestle/trestlelaw09.Same$1 -/
noncomputable def Dw:Env:=(E0.withX 31 Gd)
theorem FL:EnvOk Dw:=(EnvOk.withX AD Gj.1 Gj.2)
noncomputable def GK:Code:=BW Tryd.f30
def Cq (x0:(List (List Int))) (x1:(List (List Int))):Option (Bool) :=
 (B4 x0 x1).bind fun v1 =>
 some v1
def DQ:Cs ((List (List Int))×(List (List Int))×Unit):=(csC (cdL 1 (cdL 1 cdI)) (csC (cdL 1 (cdL 1 cdI)) csN))
def DX (r:Bool):AV:=cdB.enc r
theorem IX (x0:(List (List Int))) (x1:(List (List Int))) (r:Bool) (h:Cq x0 x1=some r):Sem Dw ⟨none,false⟩ GK ⟨Fr 8 (At 0 (DQ.enc (x0,x1,()))),[]⟩ fun e s'=>(e = .normal\/e = .ret)/\∃ xs,EM Dw.P s'.fr s'.hp Tryd.f30.results.toList=some xs/\Ef xs=DX r:=by
 have he:=FL
 unfold Cq at h
 let p1:Nat×AV:=(1,.sl 1 (x1.map (cdL 1 cdI).enc))
 let p2:Nat×AV:=(0,.sl 1 (x0.map (cdL 1 cdI).enc))
 refine BQ (CO (s1:=⟨Fr 8 [p2,p1],[]⟩) AM ?_);refine AL he [p2,p1] [] ?_;refine AC ?_;obtain ⟨v1,hv1,h⟩:=OB h;refine AE (s1:=⟨Fr 8 [(4,.v (.bool v1))],[]⟩) ?_ ?_
 ·refine AB (n:=8) he 2 [(5,.sl 1 (x0.map (cdL 1 cdI).enc)),(6,.sl 1 (x1.map (cdL 1 cdI).enc))] [] kr ?_
  refine RunS.call he (fid:=31) (s:=DC) (F:=fun a=>B4 a.1 a.2.1) (er:=DH) (xs:=[.sl 1 (x0.map (cdL 1 cdI).enc),.sl 1 (x1.map (cdL 1 cdI).enc)]) (a:=(x0,x1,())) rfl (AA rfl) kr kr kr kr (Sns.cons (Sn.enc (c:=(cdL 1 (cdL 1 cdI))) (v:=x0)) (Sns.cons (Sn.enc (c:=(cdL 1 (cdL 1 cdI))) (v:=x1)) Sns.nil)) (.inl kr) hv1 ?_;exact AJ he
 refine AS ?_;have hq:=OI h; subst hq;exact ⟨⟨Fr 8 [(4,.v (.bool v1))],[]⟩,AM,.inr rfl,[.v (.bool v1)],kr,kr⟩
def G4:List AV->Option AV:=Ea DQ (fun a=>Cq a.1 a.2.1) DX
theorem G7:XOk 30 G4:=by
 refine EnvOk.x (E:=Dw) (BY FL (fn:=Tryd.f30) (c:=GK) ?h1 ?h2 ⟨Tryd.call30⟩ DQ (fun a=>Cq a.1 a.2.1) DX (fun a=>(by show 2<=8; decide)) ?h3 ?h4) rfl rfl
 case h1=>kernel_rfl
 case h2=>kernel_rfl
 case h3=>intro b; kernel_rfl
 case h4=>exact fun a b h=>IX a.1 a.2.1 b h
/- slices.EqualFunc[[][][]int,[][][]int,[][]int,[][]int] -/
noncomputable def AK:Env:=(E0.withX 30 G4)
theorem AY:EnvOk AK:=(EnvOk.withX AD G7.1 G7.2)
noncomputable def AZ:Code:=BW Tryd.f29
def AF (x0:(List (List (List Int)))) (x1:(List (List (List Int)))):Nat->Int->Option ((Unit) ⊕ (Bool))
 | 0,_=>none
 | f + 1,c2 =>
  if (decide (c2 < (x0.length:Int)))=true then
  (idx x0 c2).bind fun v4 =>
  (idx x1 c2).bind fun v5 =>
  (Cq v4 v5).bind fun v6 =>
  if (!v6)=true then
  some (.inr false)
  else
  AF x0 x1 f (wr .i64 (c2 + 1))
  else
  some (.inl ())
def AQ (x0:(List (List (List Int)))) (x1:(List (List (List Int)))):Option (Bool) :=
 if ((x0.length:Int)!=(x1.length:Int))=true then
 some false
 else
 (AF x0 x1 100000 0).bind fun r9 =>
 match r9 with
 | (.inl w10) =>
  some true
 | (.inr w11) =>
  some w11
def Az (r:Bool):AV:=cdB.enc r
theorem Av (x0:(List (List (List Int)))) (x1:(List (List (List Int)))):∀ (f:Nat) (c2:Int) (r:(Unit) ⊕ (Bool)),AF x0 x1 f c2=some r->SemN AK ⟨none,false⟩ (pc AZ [1,1,0,1,0,0]) f ⟨Fr 32 [(1,.sl 1 (x1.map (cdL 1 (cdL 1 cdI)).enc)),(2,.fn 30 [] []),(15,.sl 1 (x0.map (cdL 1 (cdL 1 cdI)).enc)),(16,.v (.int .i64 (x0.length:Int))),(17,.v (.int .i64 c2))],[]⟩ (fun e s=>match r with
 | (.inl w)=>e=(.exit 0)/\Wk AK s ⟨Fr 32 [],[]⟩
 | (.inr w)=>e = .ret/\Wk AK s ⟨Fr 32 [(6,.v (.bool w))],[]⟩):=by
 have he:=AY
 intro f;induction f with
 | zero=>intro c2 r h; cases h
 | succ f ih0 =>
  intro c2 r h
  have ih:=fun (c2:Int)=>ih0 c2 r
  unfold AF at h;refine Bt ?_
  let p1:Nat×AV:=(17,.v (.int .i64 c2))
  let p2:Nat×AV:=(16,.v (.int .i64 (x0.length:Int)))
  let p3:Nat×AV:=(15,.sl 1 (x0.map (cdL 1 (cdL 1 cdI)).enc))
  let p4:Nat×AV:=(2,.fn 30 [] [])
  let p5:Nat×AV:=(1,.sl 1 (x1.map (cdL 1 (cdL 1 cdI)).enc))
  refine AL he [p5,p4,p3,p2,p1,(18,.v (.bool (decide (c2 < (x0.length:Int)))))] [] ?_;refine AC ?_;refine AP (b:=(decide (c2 < (x0.length:Int)))) kr (fun hb3=>?_) (fun hb3=>?_)
  ·rw [if_pos hb3] at h
   refine AT ?_;refine AC ?_;refine AW ?_;refine AC ?_;obtain ⟨v4,hv4,h⟩:=OB h
   let p6:Nat×AV:=(8,.sl 1 (v4.map (cdL 1 cdI).enc))
   refine AE (s1:=⟨Fr 32 [p5,p4,(7,.v (.int .i64 c2)),p6,p3,p2,p1],[]⟩) ?_ ?_
   ·refine AB (n:=32) he 1 [p5,p4,p3,p2,p1,(19,.v (.int .i64 c2))] [] kr ?_
    refine AI he 0 rfl (Bd (AA rfl) rfl (AR (a:= .sl 1 (x0.map (cdL 1 (cdL 1 cdI)).enc)) (b:= .v (.int .i64 c2)) kr kr (F9 (e:=(cdL 1 (cdL 1 cdI)).enc) (el:=43) (k:=1) (ki:= .i64) kr kr hv4))) ?_;exact AJ he
   refine AC ?_;obtain ⟨v5,hv5,h⟩:=OB h;refine AE (s1:=⟨Fr 32 [p5,p4,p6,(9,.sl 1 (v5.map (cdL 1 cdI).enc)),p3,p2,p1],[]⟩) ?_ ?_
   ·refine AB (n:=32) he 2 [p5,p4,p6,p3,p2,p1,(22,.sl 1 (x1.map (cdL 1 (cdL 1 cdI)).enc)),(23,.v (.int .i64 c2))] [] kr ?_
    refine AI he 0 rfl (Bd (AA rfl) rfl (AR (a:= .sl 1 (x1.map (cdL 1 (cdL 1 cdI)).enc)) (b:= .v (.int .i64 c2)) kr kr (F9 (e:=(cdL 1 (cdL 1 cdI)).enc) (el:=43) (k:=1) (ki:= .i64) kr kr hv5))) ?_;exact AJ he
   refine AC ?_;obtain ⟨v6,hv6,h⟩:=OB h;refine AE (s1:=⟨Fr 32 [p5,p4,p3,p2,p1,(30,.v (.bool (!v6)))],[]⟩) ?_ ?_
   ·refine AB (n:=32) he 3 [p5,p4,p3,p2,p1,(26,.fn 30 [] []),(27,.sl 1 (v4.map (cdL 1 cdI).enc)),(28,.sl 1 (v5.map (cdL 1 cdI).enc))] [] kr ?_
    refine RunS.call he (fid:=30) (s:=DQ) (F:=fun a=>Cq a.1 a.2.1) (er:=DX) (xs:=[.sl 1 (v4.map (cdL 1 cdI).enc),.sl 1 (v5.map (cdL 1 cdI).enc)]) (a:=(v4,v5,())) rfl (AA rfl) kr kr kr kr (Sns.cons (Sn.enc (c:=(cdL 1 (cdL 1 cdI))) (v:=v4)) (Sns.cons (Sn.enc (c:=(cdL 1 (cdL 1 cdI))) (v:=v5)) Sns.nil)) (.inl kr) hv6 ?_;exact AJ he
   refine AP (b:=(!v6)) kr (fun hb7=>?_) (fun hb7=>?_)
   ·rw [if_pos hb7] at h
    refine AL he [(6,.v (.bool false))] [] ?_;refine AS ?_;have hq:=OI h; subst hq;exact ⟨rfl,AM⟩
   ·rw [B3 hb7] at h
    refine AT ?_
    let p7:Nat×AV:=(17,.v (.int .i64 (wr .i64 (c2 + 1))))
    refine C4 he [p5,p4,p3,p2,p7] [] ?_;exact Ak (s1:=⟨Fr 32 [p5,p4,p3,p2,p7],[]⟩) AM (ih (wr .i64 (c2 + 1)) h)
  ·rw [B3 hb3] at h
   refine CT ?_;have hq:=OI h; subst hq;exact ⟨rfl,AM⟩
theorem B5 (x0:(List (List (List Int)))) (x1:(List (List (List Int)))) (r:Bool) (h:AQ x0 x1=some r):Sem AK ⟨none,false⟩ AZ ⟨Fr 32 (At 0 [.sl 1 (x0.map (cdL 1 (cdL 1 cdI)).enc),.sl 1 (x1.map (cdL 1 (cdL 1 cdI)).enc),.fn 30 [] []]),[]⟩ fun e s'=>(e = .normal\/e = .ret)/\∃ xs,EM AK.P s'.fr s'.hp Tryd.f29.results.toList=some xs/\(Ef xs=Az r/\s'.hp=[]):=by
 have he:=AY
 unfold AQ at h
 let p1:Nat×AV:=(2,.fn 30 [] [])
 let p2:Nat×AV:=(1,.sl 1 (x1.map (cdL 1 (cdL 1 cdI)).enc))
 let p3:Nat×AV:=(0,.sl 1 (x0.map (cdL 1 (cdL 1 cdI)).enc))
 refine BQ (CO (s1:=⟨Fr 32 [p3,p2,p1],[]⟩) AM ?_);refine AL he [p3,p2,p1] [] ?_;refine AC ?_;refine AC ?_;refine AE (s1:=⟨Fr 32 [p3,p2,p1,(14,.v (.bool ((x0.length:Int)!=(x1.length:Int))))],[]⟩) ?_ ?_
 ·refine AB (n:=32) he 1 [p3,p2,p1,(10,.sl 1 (x0.map (cdL 1 (cdL 1 cdI)).enc))] [] kr ?_
  refine AI he 0 rfl (Bd (AA rfl) rfl (Ca (a:= .sl 1 (x0.map (cdL 1 (cdL 1 cdI)).enc)) kr (Bb (el:=43) kr))) ?_;refine AB (n:=32) he 1 [p3,p2,p1,(11,.v (.int .i64 (x0.length:Int))),(12,.sl 1 (x1.map (cdL 1 (cdL 1 cdI)).enc))] [] kr ?_;refine AI he 0 rfl (Bd (AA rfl) rfl (Ca (a:= .sl 1 (x1.map (cdL 1 (cdL 1 cdI)).enc)) kr (Bb (el:=43) kr))) ?_;exact AJ he
 refine AP (b:=((x0.length:Int)!=(x1.length:Int))) kr (fun hb1=>?_) (fun hb1=>?_)
 ·rw [if_pos hb1] at h
  refine AL he [(6,.v (.bool false))] [] ?_;refine AS ?_;have hq:=OI h; subst hq;exact ⟨⟨Fr 32 [(6,.v (.bool false))],[]⟩,AM,.inr rfl,[.v (.bool false)],kr,⟨kr,rfl⟩⟩
 ·rw [B3 hb1] at h
  refine AT ?_;refine AC ?_;refine AC ?_
  let p4:Nat×AV:=(17,.v (.int .i64 0))
  let p5:Nat×AV:=(16,.v (.int .i64 (x0.length:Int)))
  let p6:Nat×AV:=(15,.sl 1 (x0.map (cdL 1 (cdL 1 cdI)).enc))
  refine AE (s1:=⟨Fr 32 [p2,p1,p6,p5,p4],[]⟩) ?_ ?_
  ·refine AB (n:=32) he 1 [p2,p1,p6] [] kr ?_
   refine AI he 0 rfl (Bd (AA rfl) rfl (Ca (a:= .sl 1 (x0.map (cdL 1 (cdL 1 cdI)).enc)) kr (Bb (el:=43) kr))) ?_;exact AJ he
  refine AW ?_;obtain ⟨r9,hr9,h⟩:=OB h;refine Cg (n:=100000) ?_;rcases r9 with w10 | w11
  ·try dsimp only at h
   refine BF (Ak (s1:=⟨Fr 32 [p2,p1,p6,p5,p4],[]⟩) AM (Av x0 x1 _ 0 _ hr9)) ?_;refine AL he [(6,.v (.bool true))] [] ?_;refine AS ?_;have hq:=OI h; subst hq;exact ⟨⟨Fr 32 [(6,.v (.bool true))],[]⟩,AM,.inr rfl,[.v (.bool true)],kr,⟨kr,rfl⟩⟩
  ·try dsimp only at h
   refine BF (Ak (s1:=⟨Fr 32 [p2,p1,p6,p5,p4],[]⟩) AM (Av x0 x1 _ 0 _ hr9)) ?_;have hq:=OI h; subst hq;exact ⟨⟨Fr 32 [(6,.v (.bool w11))],[]⟩,AM,.inr rfl,[.v (.bool w11)],kr,⟨kr,rfl⟩⟩
theorem CE (x0:(List (List (List Int)))) (x1:(List (List (List Int)))) (r:Bool) (h:AQ x0 x1=some r):SOk 29 [.sl 1 (x0.map (cdL 1 (cdL 1 cdI)).enc),.sl 1 (x1.map (cdL 1 (cdL 1 cdI)).enc),.fn 30 [] []] (fun x h'=>x=Az r/\h'=[]) :=
 J9 AY rfl rfl (fn:=Tryd.f29) (c:=AZ) kr kr ⟨Tryd.call29⟩ (by show 3<=32; decide) (B5 x0 x1 r h)
/- trestle/trestlelaw09.Same -/
noncomputable def E2:Env:=E0
theorem GN:EnvOk E2:=AD
noncomputable def HW:Code:=BW Tryd.f10
def DL (x0:(List (List (List Int)))) (x1:(List (List (List Int)))):Option (Bool) :=
 (AQ x0 x1).bind fun v1 =>
 some v1
def Fe:Cs ((List (List (List Int)))×(List (List (List Int)))×Unit):=(csC (cdL 1 (cdL 1 (cdL 1 cdI))) (csC (cdL 1 (cdL 1 (cdL 1 cdI))) csN))
def Fg (r:Bool):AV:=cdB.enc r
theorem Jn (x0:(List (List (List Int)))) (x1:(List (List (List Int)))) (r:Bool) (h:DL x0 x1=some r):Sem E2 ⟨none,false⟩ HW ⟨Fr 8 (At 0 (Fe.enc (x0,x1,()))),[]⟩ fun e s'=>(e = .normal\/e = .ret)/\∃ xs,EM E2.P s'.fr s'.hp Tryd.f10.results.toList=some xs/\Ef xs=Fg r:=by
 have he:=GN
 unfold DL at h
 let p1:Nat×AV:=(1,.sl 1 (x1.map (cdL 1 (cdL 1 cdI)).enc))
 let p2:Nat×AV:=(0,.sl 1 (x0.map (cdL 1 (cdL 1 cdI)).enc))
 refine BQ (CO (s1:=⟨Fr 8 [p2,p1],[]⟩) AM ?_);refine AL he [p2,p1] [] ?_;refine AC ?_;obtain ⟨v1,hv1,h⟩:=OB h;refine AE (s1:=⟨Fr 8 [(4,.v (.bool v1))],[]⟩) ?_ ?_
 ·refine AB (n:=8) he 2 [(5,.sl 1 (x0.map (cdL 1 (cdL 1 cdI)).enc)),(6,.sl 1 (x1.map (cdL 1 (cdL 1 cdI)).enc))] [] kr ?_
  refine Jv rfl rfl (CE x0 x1 _ hv1) rfl (AA rfl) kr (xs:=[.sl 1 (x0.map (cdL 1 (cdL 1 cdI)).enc),.sl 1 (x1.map (cdL 1 (cdL 1 cdI)).enc),.fn 30 [] []]) kr kr (by rintro x h' ⟨rfl,rfl⟩; exact ⟨rfl,rfl⟩) ?_;rintro x h' ⟨rfl,rfl⟩;exact AJ he
 refine AS ?_;have hq:=OI h; subst hq;exact ⟨⟨Fr 8 [(4,.v (.bool v1))],[]⟩,AM,.inr rfl,[.v (.bool v1)],kr,kr⟩
def LT:List AV->Option AV:=Ea Fe (fun a=>DL a.1 a.2.1) Fg
theorem Lc:XOk 10 LT:=by
 refine EnvOk.x (E:=E2) (BY GN (fn:=Tryd.f10) (c:=HW) ?h1 ?h2 ⟨Tryd.call10⟩ Fe (fun a=>DL a.1 a.2.1) Fg (fun a=>(by show 2<=8; decide)) ?h3 ?h4) rfl rfl
 case h1=>kernel_rfl
 case h2=>kernel_rfl
 case h3=>intro b; kernel_rfl
 case h4=>exact fun a b h=>Jn a.1 a.2.1 b h
/- trestle/trestlelaw09.EveningRound -/
noncomputable def D3:Code:=BW Tryd.f4
def BA (x0:(List Int)) (x1:(List (List (Int×Int)))) (x2:(List UInt8)) (x3:Int):Option (Bool) :=
 (Do x0 x1).bind fun v1 =>
 (BL v1.2.2 v1.1).bind fun v2 =>
 (BM v1.2.2 v2).bind fun v3 =>
 (if (v3.2.2 != 0)=true then some true else if (v3.2.1 != 0)=true then some true else (DL v3.1 v1.1).bind fun v4 =>
 if (!v4)=true then some true else (B6 v2 [10]).bind fun v5 =>
 some (v5 != (v1.1.length:Int))).bind fun j7 =>
 if j7=true then
 some false
 else
 if (decide ((x2.length:Int) > 2000))=true then
 Ct.bind fun v10 =>
 some v10
 else
 (BM (wr .i64 (1 + (wr .i64 (x3.tmod 64)))) x2).bind fun v11 =>
 if (v11.2.2 != 0)=true then
 (if ((v11.1.length:Int)==0)=true then if (decide (v11.2.1≥0))=true then (B6 x2 [10]).bind fun v13 =>
 if (decide (v11.2.1<=v13))=true then Ct.bind fun v14 =>
 some v14 else some false else some false else some false).bind fun j16 =>
 some j16
 else
 (BL (wr .i64 (1 + (wr .i64 (x3.tmod 64)))) v11.1).bind fun v20 =>
 (if (v20==x2)=true then if (v11.2.1==0)=true then Ct.bind fun v21 =>
 some v21 else some false else some false).bind fun j23 =>
 some j23
def BR:Cs ((List Int)×((List (List (Int×Int))))×(List UInt8)×Int×Unit):=(csC (cdL 1 (cdK .u8)) (csC (cdL 1 (cdL 2 (C8 (cdK .u8) (cdK .u8) (fun _=>rfl) (fun _=>rfl)))) (csC cdS (csC (cdK .u8) csN))))
def By (r:Bool):AV:=cdB.enc r
theorem GA (x0:(List Int)) (x1:(List (List (Int×Int)))) (x2:(List UInt8)) (x3:Int) (r:Bool) (h:BA x0 x1 x2 x3=some r):Sem E0 ⟨none,false⟩ D3 ⟨Fr 97 (At 0 (BR.enc (x0,x1,x2,x3,()))),[]⟩ fun e s'=>(e = .normal\/e = .ret)/\∃ xs,EM E0.P s'.fr s'.hp Tryd.f4.results.toList=some xs/\Ef xs=By r:=by
 unfold BA at h;refine BQ (CO (s1:=⟨Fr 97 [(0,.sl 1 (x0.map (cdK .u8).enc)),(1,.sl 1 (x1.map (cdL 2 (C8 (cdK .u8) (cdK .u8) (fun _=>rfl) (fun _=>rfl))).enc)),(2,.st x2),(3,.v (.int .u8 x3))],[]⟩) AM ?_);refine AL AD [(0,.sl 1 (x0.map (cdK .u8).enc)),(1,.sl 1 (x1.map (cdL 2 (C8 (cdK .u8) (cdK .u8) (fun _=>rfl) (fun _=>rfl))).enc)),(2,.st x2),(3,.v (.int .u8 x3))] [] ?_;refine AC ?_;obtain ⟨v1,hv1,h⟩:=OB h;refine AE (s1:=⟨Fr 97 [(2,.st x2),(3,.v (.int .u8 x3)),(9,.sl 1 (v1.1.map (cdL 1 (cdL 1 cdI)).enc)),(11,.v (.int .i64 v1.2.2))],[]⟩) ?_ ?_
 ·refine AB (n:=97) AD 2 [(2,.st x2),(3,.v (.int .u8 x3)),(17,.sl 1 (x0.map (cdK .u8).enc)),(18,.sl 1 (x1.map (cdL 2 (C8 (cdK .u8) (cdK .u8) (fun _=>rfl) (fun _=>rfl))).enc))] [] kr ?_
  refine Ae (caps:=[]) (xs:=[.sl 1 (x0.map (cdK .u8).enc),.sl 1 (x1.map (cdL 2 (C8 (cdK .u8) (cdK .u8) (fun _=>rfl) (fun _=>rfl))).enc)]) (u:=(x0,x1,())) rfl rfl Lb rfl (AA rfl) kr kr (Am (BU (c:=(cdL 1 (cdK .u8))) (v:=x0)) (Am (BU (c:=(cdL 1 (cdL 2 (C8 (cdK .u8) (cdK .u8) (fun _=>rfl) (fun _=>rfl))))) (v:=x1)) Cz)) (.inr kr) hv1 ?_;exact AJ AD
 refine AC ?_;obtain ⟨v2,hv2,h⟩:=OB h;refine AE (s1:=⟨Fr 97 [(2,.st x2),(3,.v (.int .u8 x3)),(9,.sl 1 (v1.1.map (cdL 1 (cdL 1 cdI)).enc)),(11,.v (.int .i64 v1.2.2)),(12,.st v2)],[]⟩) ?_ ?_
 ·refine AB (n:=97) AD 2 [(2,.st x2),(3,.v (.int .u8 x3)),(9,.sl 1 (v1.1.map (cdL 1 (cdL 1 cdI)).enc)),(11,.v (.int .i64 v1.2.2)),(23,.v (.int .i64 v1.2.2)),(24,.sl 1 (v1.1.map (cdL 1 (cdL 1 cdI)).enc))] [] kr ?_
  refine Ae (caps:=[]) (xs:=[.v (.int .i64 v1.2.2),.sl 1 (v1.1.map (cdL 1 (cdL 1 cdI)).enc)]) (u:=(v1.2.2,v1.1,())) rfl rfl F8 rfl (AA rfl) kr kr (Am (BU (c:=cdI) (v:=v1.2.2)) (Am (BU (c:=(cdL 1 (cdL 1 (cdL 1 cdI)))) (v:=v1.1)) Cz)) (.inl kr) hv2 ?_;exact AJ AD
 refine AC ?_;obtain ⟨v3,hv3,h⟩:=OB h;refine AE (s1:=⟨Fr 97 [(2,.st x2),(3,.v (.int .u8 x3)),(9,.sl 1 (v1.1.map (cdL 1 (cdL 1 cdI)).enc)),(12,.st v2),(13,.sl 1 (v3.1.map (cdL 1 (cdL 1 cdI)).enc)),(14,.v (.int .i64 v3.2.1)),(15,.v (.int .i64 v3.2.2))],[]⟩) ?_ ?_
 ·refine AB (n:=97) AD 2 [(2,.st x2),(3,.v (.int .u8 x3)),(9,.sl 1 (v1.1.map (cdL 1 (cdL 1 cdI)).enc)),(12,.st v2),(27,.v (.int .i64 v1.2.2)),(28,.st v2)] [] kr ?_
  refine Ae (caps:=[]) (xs:=[.v (.int .i64 v1.2.2),.st v2]) (u:=(v1.2.2,v2,())) rfl rfl Gh rfl (AA rfl) kr kr (Am (BU (c:=cdI) (v:=v1.2.2)) (Am (BU (c:=cdS) (v:=v2)) Cz)) (.inr kr) hv3 ?_;exact AJ AD
 refine AC ?_;refine AC ?_;obtain ⟨j7,hj7,h⟩:=OB h;refine AE (s1:=⟨Fr 97 [(2,.st x2),(3,.v (.int .u8 x3)),(51,.v (.bool j7))],[]⟩) ?_ ?_
 ·refine AB (n:=97) AD 3 [(2,.st x2),(3,.v (.int .u8 x3)),(9,.sl 1 (v1.1.map (cdL 1 (cdL 1 cdI)).enc)),(12,.st v2),(13,.sl 1 (v3.1.map (cdL 1 (cdL 1 cdI)).enc)),(14,.v (.int .i64 v3.2.1)),(35,.v (.bool (v3.2.2 != 0)))] [] kr ?_
  rcases BE (v3.2.2 != 0) with hc26 | hc26
  ·rw [if_pos hc26] at hj7
   rw [hc26];refine AB (n:=97) AD 16 [(2,.st x2),(3,.v (.int .u8 x3)),(51,.v (.bool true))] [] kr ?_;have hq:=OI hj7; subst hq;exact AH rfl AM
  ·rw [B3 hc26] at hj7
   rw [hc26];refine AB (n:=97) AD 4 [(2,.st x2),(3,.v (.int .u8 x3)),(9,.sl 1 (v1.1.map (cdL 1 (cdL 1 cdI)).enc)),(12,.st v2),(13,.sl 1 (v3.1.map (cdL 1 (cdL 1 cdI)).enc)),(39,.v (.bool (v3.2.1 != 0)))] [] kr ?_;rcases BE (v3.2.1 != 0) with hc27 | hc27
   ·rw [if_pos hc27] at hj7
    rw [hc27];refine AB (n:=97) AD 12 [(2,.st x2),(3,.v (.int .u8 x3)),(51,.v (.bool true))] [] kr ?_;have hq:=OI hj7; subst hq;exact AH rfl AM
   ·rw [B3 hc27] at hj7
    rw [hc27];refine AB (n:=97) AD 2 [(2,.st x2),(3,.v (.int .u8 x3)),(9,.sl 1 (v1.1.map (cdL 1 (cdL 1 cdI)).enc)),(12,.st v2),(39,.v (.bool false)),(40,.sl 1 (v3.1.map (cdL 1 (cdL 1 cdI)).enc)),(41,.sl 1 (v1.1.map (cdL 1 (cdL 1 cdI)).enc))] [] kr ?_;obtain ⟨v4,hv4,hj7⟩:=OB hj7;refine Ae (caps:=[]) (xs:=[.sl 1 (v3.1.map (cdL 1 (cdL 1 cdI)).enc),.sl 1 (v1.1.map (cdL 1 (cdL 1 cdI)).enc)]) (u:=(v3.1,v1.1,())) rfl rfl Lc rfl kr kr kr (Am (BU (c:=(cdL 1 (cdL 1 (cdL 1 cdI)))) (v:=v3.1)) (Am (BU (c:=(cdL 1 (cdL 1 (cdL 1 cdI)))) (v:=v1.1)) Cz)) (.inl kr) hv4 ?_;refine AB (n:=97) AD 3 [(2,.st x2),(3,.v (.int .u8 x3)),(9,.sl 1 (v1.1.map (cdL 1 (cdL 1 cdI)).enc)),(12,.st v2),(45,.v (.bool (!v4)))] [] kr ?_;rcases BE (!v4) with hc28 | hc28
    ·rw [if_pos hc28] at hj7
     rw [hc28];refine AB (n:=97) AD 6 [(2,.st x2),(3,.v (.int .u8 x3)),(51,.v (.bool true))] [] kr ?_;have hq:=OI hj7; subst hq;exact AH rfl AM
    ·rw [B3 hc28] at hj7
     rw [hc28];refine AB (n:=97) AD 1 [(2,.st x2),(3,.v (.int .u8 x3)),(9,.sl 1 (v1.1.map (cdL 1 (cdL 1 cdI)).enc)),(45,.v (.bool false)),(46,.st v2)] [] kr ?_;obtain ⟨v5,hv5,hj7⟩:=OB hj7;refine Ae (caps:=[]) (xs:=[.st v2,.st [10]]) (u:=(v2,[10],())) rfl rfl Et rfl kr kr kr (Am (BU (c:=cdS) (v:=v2)) (Am (BU (c:=cdS) (v:=[10])) Cz)) (.inl kr) hv5 ?_;refine AB (n:=97) AD 1 [(2,.st x2),(3,.v (.int .u8 x3)),(45,.v (.bool false)),(47,.v (.int .i64 v5)),(48,.sl 1 (v1.1.map (cdL 1 (cdL 1 cdI)).enc))] [] kr ?_;refine AI AD 0 rfl (Bd kr rfl (Ca (a:= .sl 1 (v1.1.map (cdL 1 (cdL 1 cdI)).enc)) kr (Bb (el:=43) kr))) ?_;refine AB (n:=97) AD 2 [(2,.st x2),(3,.v (.int .u8 x3)),(51,.v (.bool (v5 != (v1.1.length:Int))))] [] kr ?_;have hq:=OI hj7; subst hq;exact AH rfl AM
 refine AP (b:=j7) kr (fun hb8=>?_) (fun hb8=>?_)
 ·rw [if_pos hb8] at h
  refine AL AD [(8,.v (.bool false))] [] ?_;refine AS ?_;have hq:=OI h; subst hq;exact ⟨⟨Fr 97 [(8,.v (.bool false))],[]⟩,AM,.inr rfl,[.v (.bool false)],kr,kr⟩
 ·rw [B3 hb8] at h
  refine AT ?_;refine AC ?_;refine AL AD [(2,.st x2),(3,.v (.int .u8 x3)),(54,.v (.bool (decide ((x2.length:Int) > 2000))))] [] ?_;refine AP (b:=(decide ((x2.length:Int) > 2000))) kr (fun hb9=>?_) (fun hb9=>?_)
  ·rw [if_pos hb9] at h
   refine AC ?_;obtain ⟨v10,hv10,h⟩:=OB h;refine AE (s1:=⟨Fr 97 [(8,.v (.bool v10))],[]⟩) ?_ ?_
   ·refine Ae (caps:=[]) (xs:=[]) (u:=(())) rfl rfl Fo rfl (AA rfl) kr kr Cz (.inl kr) hv10 ?_
    exact AJ AD
   refine AS ?_;have hq:=OI h; subst hq;exact ⟨⟨Fr 97 [(8,.v (.bool v10))],[]⟩,AM,.inr rfl,[.v (.bool v10)],kr,kr⟩
  ·rw [B3 hb9] at h
   refine AT ?_;refine AL AD [(2,.st x2),(11,.v (.int .i64 (wr .i64 (1 + (wr .i64 (x3.tmod 64))))))] [] ?_;refine AC ?_;obtain ⟨v11,hv11,h⟩:=OB h;refine AE (s1:=⟨Fr 97 [(2,.st x2),(11,.v (.int .i64 (wr .i64 (1 + (wr .i64 (x3.tmod 64)))))),(13,.sl 1 (v11.1.map (cdL 1 (cdL 1 cdI)).enc)),(14,.v (.int .i64 v11.2.1)),(15,.v (.int .i64 v11.2.2))],[]⟩) ?_ ?_
   ·refine AB (n:=97) AD 2 [(2,.st x2),(11,.v (.int .i64 (wr .i64 (1 + (wr .i64 (x3.tmod 64)))))),(61,.v (.int .i64 (wr .i64 (1 + (wr .i64 (x3.tmod 64)))))),(62,.st x2)] [] kr ?_
    refine Ae (v:=v11) (caps:=[]) (xs:=[.v (.int .i64 (wr .i64 (1 + (wr .i64 (x3.tmod 64))))),.st x2]) (u:=((wr .i64 (1 + (wr .i64 (x3.tmod 64)))),x2,())) rfl rfl Gh rfl (AA rfl) kr kr (Am (BU (c:=cdI) (v:=(wr .i64 (1 + (wr .i64 (x3.tmod 64)))))) (Am (BU (c:=cdS) (v:=x2)) Cz)) (.inr kr) (by dsimp only; exact hv11) ?_;exact AJ AD
   refine AC ?_;refine AL AD [(2,.st x2),(11,.v (.int .i64 (wr .i64 (1 + (wr .i64 (x3.tmod 64)))))),(13,.sl 1 (v11.1.map (cdL 1 (cdL 1 cdI)).enc)),(14,.v (.int .i64 v11.2.1)),(68,.v (.bool (v11.2.2 != 0)))] [] ?_;refine AP (b:=(v11.2.2 != 0)) kr (fun hb12=>?_) (fun hb12=>?_)
   ·rw [if_pos hb12] at h
    refine AC ?_;obtain ⟨j16,hj16,h⟩:=OB h;refine AE (s1:=⟨Fr 97 [(8,.v (.bool j16))],[]⟩) ?_ ?_
    ·refine AB (n:=97) AD 1 [(2,.st x2),(14,.v (.int .i64 v11.2.1)),(69,.sl 1 (v11.1.map (cdL 1 (cdL 1 cdI)).enc))] [] kr ?_
     refine AI AD 0 rfl (Bd (AA rfl) rfl (Ca (a:= .sl 1 (v11.1.map (cdL 1 (cdL 1 cdI)).enc)) kr (Bb (el:=43) kr))) ?_;refine AB (n:=97) AD 2 [(2,.st x2),(14,.v (.int .i64 v11.2.1)),(72,.v (.bool ((v11.1.length:Int)==0)))] [] kr ?_;rcases BE ((v11.1.length:Int)==0) with hc17 | hc17
     ·rw [if_pos hc17] at hj16
      rw [hc17];refine AB (n:=97) AD 4 [(2,.st x2),(14,.v (.int .i64 v11.2.1)),(76,.v (.bool (decide (v11.2.1≥0))))] [] kr ?_;rcases BE (decide (v11.2.1≥0)) with hc18 | hc18
      ·rw [if_pos hc18] at hj16
       rw [hc18];refine AB (n:=97) AD 2 [(76,.v (.bool true)),(77,.v (.int .i64 v11.2.1)),(78,.st x2)] [] kr ?_;obtain ⟨v13,hv13,hj16⟩:=OB hj16;refine Ae (caps:=[]) (xs:=[.st x2,.st [10]]) (u:=(x2,[10],())) rfl rfl Et rfl kr kr kr (Am (BU (c:=cdS) (v:=x2)) (Am (BU (c:=cdS) (v:=[10])) Cz)) (.inl kr) hv13 ?_;refine AB (n:=97) AD 3 [(82,.v (.bool (decide (v11.2.1<=v13))))] [] kr ?_;rcases BE (decide (v11.2.1<=v13)) with hc19 | hc19
       ·rw [if_pos hc19] at hj16
        rw [hc19];obtain ⟨v14,hv14,hj16⟩:=OB hj16;refine Ae (caps:=[]) (xs:=[]) (u:=(())) rfl rfl Fo rfl kr kr kr Cz (.inl kr) hv14 ?_;refine AB (n:=97) AD 2 [(8,.v (.bool v14))] [] kr ?_;have hq:=OI hj16; subst hq;exact AH rfl AM
       ·rw [B3 hc19] at hj16
        rw [hc19];refine AB (n:=97) AD 3 [(8,.v (.bool false))] [] kr ?_;have hq:=OI hj16; subst hq;exact AH rfl AM
      ·rw [B3 hc18] at hj16
       rw [hc18];refine AB (n:=97) AD 9 [(8,.v (.bool false))] [] kr ?_;have hq:=OI hj16; subst hq;exact AH rfl AM
     ·rw [B3 hc17] at hj16
      rw [hc17];refine AB (n:=97) AD 13 [(8,.v (.bool false))] [] kr ?_;have hq:=OI hj16; subst hq;exact AH rfl AM
    refine AS ?_;have hq:=OI h; subst hq;exact ⟨⟨Fr 97 [(8,.v (.bool j16))],[]⟩,AM,.inr rfl,[.v (.bool j16)],kr,kr⟩
   ·rw [B3 hb12] at h
    refine AT ?_;refine AC ?_;obtain ⟨v20,hv20,h⟩:=OB h;obtain ⟨j23,hj23,h⟩:=OB h;refine AE (s1:=⟨Fr 97 [(8,.v (.bool j23))],[]⟩) ?_ ?_
    ·refine AB (n:=97) AD 2 [(2,.st x2),(14,.v (.int .i64 v11.2.1)),(85,.v (.int .i64 (wr .i64 (1 + (wr .i64 (x3.tmod 64)))))),(86,.sl 1 (v11.1.map (cdL 1 (cdL 1 cdI)).enc))] [] kr ?_
     refine Ae (v:=v20) (caps:=[]) (xs:=[.v (.int .i64 (wr .i64 (1 + (wr .i64 (x3.tmod 64))))),.sl 1 (v11.1.map (cdL 1 (cdL 1 cdI)).enc)]) (u:=((wr .i64 (1 + (wr .i64 (x3.tmod 64)))),v11.1,())) rfl rfl F8 rfl (AA rfl) kr kr (Am (BU (c:=cdI) (v:=(wr .i64 (1 + (wr .i64 (x3.tmod 64)))))) (Am (BU (c:=(cdL 1 (cdL 1 (cdL 1 cdI)))) (v:=v11.1)) Cz)) (.inl kr) (by dsimp only; exact hv20) ?_;refine AB (n:=97) AD 3 [(14,.v (.int .i64 v11.2.1)),(90,.v (.bool (v20==x2)))] [] kr ?_;rcases BE (v20==x2) with hc24 | hc24
     ·rw [if_pos hc24] at hj23
      rw [hc24];refine AB (n:=97) AD 4 [(94,.v (.bool (v11.2.1==0)))] [] kr ?_;rcases BE (v11.2.1==0) with hc25 | hc25
      ·rw [if_pos hc25] at hj23
       rw [hc25];obtain ⟨v21,hv21,hj23⟩:=OB hj23;refine Ae (caps:=[]) (xs:=[]) (u:=(())) rfl rfl Fo rfl kr kr kr Cz (.inl kr) hv21 ?_;refine AB (n:=97) AD 2 [(8,.v (.bool v21))] [] kr ?_;have hq:=OI hj23; subst hq;exact AH rfl AM
      ·rw [B3 hc25] at hj23
       rw [hc25];refine AB (n:=97) AD 3 [(8,.v (.bool false))] [] kr ?_;have hq:=OI hj23; subst hq;exact AH rfl AM
     ·rw [B3 hc24] at hj23
      rw [hc24];refine AB (n:=97) AD 7 [(8,.v (.bool false))] [] kr ?_;have hq:=OI hj23; subst hq;exact AH rfl AM
    refine AS ?_;have hq:=OI h; subst hq;exact ⟨⟨Fr 97 [(8,.v (.bool j23))],[]⟩,AM,.inr rfl,[.v (.bool j23)],kr,kr⟩
def Gv:List AV->Option AV:=Ea BR (fun a=>BA a.1 a.2.1 a.2.2.1 a.2.2.2.1) By
theorem Gw:XOk 4 Gv:=by
 refine Br Tryd.func4 (c:=D3) ?h2 ⟨Tryd.call4⟩ BR (fun a=>BA a.1 a.2.1 a.2.2.1 a.2.2.2.1) By (fun a=>(by show 4<=97; decide)) ?h3 ?h4
 case h2=>kernel_rfl
 case h3=>intro b; kernel_rfl
 case h4=>exact fun a b h=>GA a.1 a.2.1 a.2.2.1 a.2.2.2.1 b h
def SE (n:Int):Prop:= -9223372036854775808<=n/\n<=9223372036854775807
theorem IT {n:Int}(h1 : -9223372036854775808<=n) (h2:n<=9223372036854775807):wr .i64 n=n:=by
 show (if _ then n else _)=n
 rw [if_pos ⟨h1,h2⟩]
theorem Eo {α:Type}(pre:List α) (v:α) (r:List α):idx (pre++v::r) (pre.length:Int)=some v:=by
 unfold idx
 rw [if_pos (by omega)]
 simp
theorem Gz {α:Type}{xs:List α}{i:Nat}(h:i < xs.length):idx xs (i:Int)=some xs[i]:=by
 unfold idx
 rw [if_pos (by omega)]
 simp [h]
theorem Kk {α:Type}(pre:List α) (v:α):((pre.length:Int) + 1)=((pre++[v]).length:Int):=by simp
theorem Og {α:Type}(pre:List α) (v:α) (r:List α) (h:(pre++v::r).length<=1000000000):wr .i64 ((pre.length:Int) + 1)=((pre++[v]).length:Int):=by
 simp at h
 rw [IT (by omega) (by omega)]; simp
theorem N0 {α:Type}(pre:List α) (v:α) (r:List α):decide ((pre.length:Int) < ((pre++v::r).length:Int))=true:=by
 simp; omega
theorem OA {α:Type}(pre:List α):decide ((pre.length:Int) < ((pre++[]).length:Int))=false:=by simp
theorem C7 {b n:Nat}(hb:b<=1000) (h:n<=1000000000):B8 b n=true:=by
 have h1:n * b<=1000000000 * 1000:=Nat.mul_le_mul h hb
 unfold B8
 rw [Bool.and_eq_true]
 exact ⟨Nat.ble_eq_true_of_le (by omega),Nat.ble_eq_true_of_le (by omega)⟩
/- trestle/trestleref09.times -/
/- trestle/trestleref09.CheckEvening -/
/-- Is the shape of an evening wrong? -/
def NK (sizes:List Int):List (List Int)->Int->Bool
 | [],_=>false
 | t::r,i=>((t.length:Int)==0)||(decide ((sizes.length:Int) > 0)&&(match idx sizes i with | some v=>((t.length:Int)!=v) | none=>false))||NK sizes r (i + 1)
abbrev CSt:=Int×Bool×Bool×List Bool
def stepC (n:Int) (s:CSt) (v:Int):CSt:=if v < 0\/v≥n then (s.1,s.2.1,true,s.2.2.2) else ((if (s.2.2.2)[v.toNat]?.getD false then s.1 else s.1 + 1),s.2.1||(s.2.2.2)[v.toNat]?.getD false,s.2.2.1,s.2.2.2.set v.toNat true)
theorem LQ (n:Int) (s:CSt) (v:Int):(stepC n s v).2.2.2.length=s.2.2.2.length:=by
 unfold stepC; split <;> simp
theorem Kl (n:Int) (s:CSt) (v:Int):(stepC n s v).1<=s.1 + 1/\s.1<=(stepC n s v).1:=by
 unfold stepC; split
 ·show s.1<=s.1 + 1/\s.1<=s.1; omega
 ·simp only; split <;> omega
theorem Nf (n:Int) (sizes:List Int) (ev:List (List Int)) (c9:Int) (hn0:0<=n):∀ (r pre:List Int) (s:CSt) (f:Nat) (t:List Int),t=pre++r->t.length<=50000->r.length < f->s.2.2.2.length=n.toNat->0<=s.1->s.1<=1000000 + (pre.length:Int)->BS n sizes ev c9 t f s.1 s.2.1 s.2.2.1 s.2.2.2 pre.length=some (r.foldl (stepC n) s)
 | [],pre,s,f + 1,t,ht,_,_,_,_,_=>by
  subst ht
  unfold BS
  rw [OA]
  rfl
 | v::r,pre,s,f + 1,t,ht,hl,hf,hs,h0,h1=>by
  obtain ⟨m,tw,un,seen⟩:=s
  simp only at hs h0 h1 ⊢
  have ih:=Nf n sizes ev c9 hn0 r (pre++[v]) (stepC n (m,tw,un,seen) v) f t (by rw [ht]; simp) hl (by simp at hf; omega) (by rw [LQ]; exact hs) (by have:=(Kl n (m,tw,un,seen) v).2; simp only at this; omega) (by have:=(Kl n (m,tw,un,seen) v).1; simp only at this; simp; omega)
  subst ht
  unfold BS
  rw [if_pos (N0 pre v r),Eo]
  simp only [OS]
  rw [Og pre v r (by omega)]
  rw [List.foldl_cons]
  by_cases hv:v < 0\/v≥n
  ·have hst:stepC n (m,tw,un,seen) v=(m,tw,true,seen):=by unfold stepC; rw [if_pos hv]
   rw [hst] at ih ⊢
   by_cases hv0:v < 0
   ·simp only [hv0,decide_true,if_true,OS]
    exact ih
   ·have:v≥n:=by omega
    simp only [hv0,this,decide_false,decide_true,Bool.false_eq_true,if_false,if_true,OS]
    exact ih
  ·have hv0:¬ v < 0:=by omega
   have hv1:¬ v≥n:=by omega
   have hlt:v.toNat < seen.length:=by omega
   have hidx:idx seen v=some (seen[v.toNat]'hlt):=by
    unfold idx; rw [if_pos (by omega)]; exact List.getElem?_eq_getElem hlt
   have hg:seen[v.toNat]?.getD false=seen[v.toNat]'hlt:=by rw [List.getElem?_eq_getElem hlt]; rfl
   have hst:stepC n (m,tw,un,seen) v=((if (seen[v.toNat]'hlt) then m else m + 1),tw||(seen[v.toNat]'hlt),un,seen.set v.toNat true):=by
    unfold stepC; rw [if_neg hv]; simp only [hg]
   rw [hst] at ih ⊢
   have hm1:wr .i64 (m + 1)=m + 1:=IT (by omega) (by simp at hl; omega)
   simp only [hv0,hv1,decide_false,Bool.false_eq_true,if_false,OS,hidx,DI]
   cases htw:tw <;> cases hse:seen[v.toNat]'hlt <;> simp only [htw,hse,Bool.false_eq_true,if_false,if_true,OS,Bool.not_true,Bool.not_false,hidx,hm1,Bool.or_true,Bool.or_false] at ih ⊢ <;> exact ih
theorem QQ (sizes:List Int) (_ev:List (List Int)) (t:List Int) (i:Nat) (hs:(sizes.length:Int) > 0->i < sizes.length){β:Type}(b:β):(if ((t.length:Int)==0)=true then some (b,true) else if (decide ((sizes.length:Int) > 0))=true then (idx sizes i).bind fun v12=>some (b,((t.length:Int)!=v12)) else some (b,false))=some (b,((t.length:Int)==0)||(decide ((sizes.length:Int) > 0)&&(match idx sizes i with | some v=>((t.length:Int)!=v) | none=>false))):=by
 cases h1:((t.length:Int)==0) with
 | true=>simp
 | false =>
  by_cases h2:(sizes.length:Int) > 0
  ·have:=hs h2
   rw [Gz this]
   have h3:0 < sizes.length:=by omega
   simp [h3]
  ·have h3:¬ 0 < sizes.length:=by omega
   simp [h3]
theorem Nd (n:Int) (sizes:List Int) (ev:List (List Int)) (hn0:0<=n) (hl:ev.length<=50000) (hsz:(sizes.length:Int) > 0->sizes.length=ev.length):∀ (r pre:List (List Int)) (s:CSt) (f:Nat),ev=pre++r->r.length < f->s.2.2.2.length=n.toNat->0<=s.1->s.1 + r.flatten.length<=50000->Bn n sizes ev f s.1 s.2.1 s.2.2.1 s.2.2.2 pre.length=some (if NK sizes r pre.length then .inr 2 else let q:=r.flatten.foldl (stepC n) s; .inl (q.1,q.2.1,q.2.2.1))
 | [],pre,s,f + 1,h,_,_,_,_=>by
  subst h
  unfold Bn
  rw [OA]
  rfl
 | t::r,pre,s,f + 1,h,hf,hs,h0,h1=>by
  obtain ⟨m,tw,un,seen⟩:=s
  simp only at hs h0 h1 ⊢
  subst h
  unfold Bn
  rw [if_pos (N0 pre t r),Eo]
  simp only [OS]
  rw [QQ sizes (pre++t::r) t pre.length (fun h=>by rw [hsz h]; simp)]
  simp only [OS]
  simp only [List.flatten_cons,List.length_append] at h1
  cases hb:(((t.length:Int)==0)||(decide ((sizes.length:Int) > 0)&&(match idx sizes (pre.length:Int) with | some v=>((t.length:Int)!=v) | none=>false))) with
  | true =>
   simp only [NK,hb,Bool.true_or,if_true]
  | false =>
   simp only [NK,hb,Bool.false_or,Bool.false_eq_true,if_false]
   have h2:=Nf n sizes (pre++t::r) pre.length hn0 t [] (m,tw,un,seen) 100000 t rfl (by omega) (by omega) hs h0 (by simp; omega)
   rw [show ((([]:List Int).length:Nat):Int)=0 from rfl] at h2
   simp only at h2
   rw [h2]
   simp only [OS]
   have hfold:∀ (l:List Int) (s:CSt),(l.foldl (stepC n) s).2.2.2.length=s.2.2.2.length/\(l.foldl (stepC n) s).1<=s.1 + l.length/\s.1<=(l.foldl (stepC n) s).1:=by
    intro l
    induction l with
    | nil=>intro s; simp
    | cons a l ih =>
     intro s
     obtain ⟨a1,a2,a3⟩:=ih (stepC n s a)
     have:=Kl n s a
     rw [List.foldl_cons]
     refine ⟨a1.trans (LQ n s a),?_,?_⟩
     ·simp; omega
     ·omega
   obtain ⟨a1,a2,a3⟩:=hfold t (m,tw,un,seen)
   simp only at a1 a2 a3
   rw [Og pre t r (by omega),Nd n sizes (pre++t::r) hn0 hl hsz r (pre++[t]) (t.foldl (stepC n) (m,tw,un,seen)) f (by simp) (by simp at hf; omega) (by omega) (by omega) (by omega)]
   rw [<-Kk]
   simp only [List.flatten_cons,List.foldl_append]
def NI (n v:Int):Bool:=decide (v < 0\/v≥n)
theorem Q6 (n:Int):∀ (L:List Int) (s:CSt),(L.foldl (stepC n) s).2.2.1=(s.2.2.1||L.any (NI n))
 | [],s=>by simp
 | v::L,s=>by
  rw [List.foldl_cons,Q6 n L,List.any_cons]
  by_cases hv:v < 0\/v≥n
  ·have hb:NI n v=true:=by simp only [NI,decide_eq_true_eq]; exact hv
   have hs:(stepC n s v).2.2.1=true:=by unfold stepC; rw [if_pos hv]
   rw [hb,hs]; simp
  ·have hb:NI n v=false:=by simp only [NI,decide_eq_false_iff_not]; exact hv
   have hs:(stepC n s v).2.2.1=s.2.2.1:=by unfold stepC; rw [if_neg hv]
   rw [hb,hs]; simp
structure InvC (N:Nat) (P:List Int) (s:CSt):Prop where
 len:s.2.2.2.length=N
 seen:∀ k,k < N->s.2.2.2[k]?.getD false=decide ((k:Int) ∈ P)
 tw:s.2.1=true↔∃ x,2<=P.count x
 many:s.1=(s.2.2.2.count true:Int)
theorem K3:∀ (l:List Bool) (k:Nat),k < l.length->((l.set k true).count true:Int)=l.count true + (if l[k]?.getD false then 0 else 1)
 | [],k,h=>by simp at h
 | b::l,0,_=>by cases b <;> simp
 | b::l,k + 1,h=>by
  have:=K3 l k (by simpa using h)
  simp only [List.set_cons_succ,List.getElem?_cons_succ]
  cases b
  ·simpa using this
  ·simp only [List.count_cons_self]; push_cast; omega
theorem InvC.step {n:Int}{P:List Int}{s:CSt}(i:InvC n.toNat P s){v:Int}(h0:0<=v) (h1:v < n):InvC n.toNat (P++[v]) (stepC n s v):=by
 obtain ⟨m,tw,un,seen⟩:=s
 obtain ⟨i1,i2,i3,i4⟩:=i
 simp only at i1 i2 i3 i4
 have hst:stepC n (m,tw,un,seen) v=((if seen[v.toNat]?.getD false then m else m + 1),tw||seen[v.toNat]?.getD false,un,seen.set v.toNat true):=by
  unfold stepC; rw [if_neg (by omega)]
 have hlt:v.toNat < seen.length:=by clear i3; omega
 have hv:=i2 v.toNat (by clear i3; omega)
 have hvv:((v.toNat:Nat):Int)=v:=by clear i3; omega
 rw [hvv] at hv
 rw [hst]
 refine ⟨by simpa using i1,fun k hk=>?_,?_,?_⟩
 ·simp only [List.getElem?_set]
  by_cases hkv:v.toNat=k
  ·subst hkv
   simp [hlt,hvv]
  ·rw [if_neg hkv,i2 k hk]
   have:¬ (k:Int)=v:=by clear i3; omega
   simp [this]
 ·simp only [Bool.or_eq_true,i3,hv,decide_eq_true_eq]
  clear i3 i4
  constructor
  ·rintro (⟨x,hx⟩ | hm)
   ·exact ⟨x,by rw [List.count_append]; omega⟩
   ·exact ⟨v,by rw [List.count_append]; have:=List.count_pos_iff.2 hm; have e:[v].count v=1:=(by simp); omega⟩
  ·rintro ⟨x,hx⟩
   rw [List.count_append] at hx
   by_cases hxv:v=x
   ·subst hxv
    have e:[v].count v=1:=by simp
    rw [e] at hx
    exact .inr (List.count_pos_iff.1 (by omega))
   ·rw [List.count_cons_of_ne hxv] at hx
    exact .inl ⟨x,by simpa using hx⟩
 ·simp only
  rw [K3 seen v.toNat hlt,i4]
  split <;> simp
theorem Ny {n:Int}:∀ (L P:List Int) (s:CSt),InvC n.toNat P s->(∀ v ∈ L,0<=v/\v < n)->InvC n.toNat (P++L) (L.foldl (stepC n) s)
 | [],P,s,h,_=>by simpa using h
 | v::L,P,s,h,hv=>by
  obtain ⟨h0,h1⟩:=hv v (by simp)
  have:=Ny L (P++[v]) (stepC n s v) (h.step h0 h1) fun w hw=>hv w (by simp [hw])
  simpa using this
theorem Rc (N:Nat):InvC N [] (0,false,false,List.replicate N false):=by
 refine ⟨by simp,fun k hk=>by simp [hk],by simp,?_⟩
 simp [List.count_replicate]
theorem HX:∀ (l:List Bool),l.count true<=l.length/\(l.count true < l.length↔∃ k,k < l.length/\l[k]?.getD false=false)
 | []=>by simp
 | b::l=>by
  obtain ⟨h1,h2⟩:=HX l
  cases b with
  | false =>
   refine ⟨by simp; omega,?_⟩
   simp only [List.count_cons_of_ne (show (false:Bool)≠true by decide),List.length_cons]
   exact ⟨fun _=>⟨0,by omega,rfl⟩,fun _=>by omega⟩
  | true =>
   refine ⟨by simp; omega,?_⟩
   simp only [List.count_cons_self,List.length_cons,Nat.add_lt_add_iff_right,h2]
   constructor
   ·rintro ⟨k,a,b⟩; exact ⟨k + 1,by omega,by simpa using b⟩
   ·rintro ⟨k,a,b⟩
    cases k with
    | zero=>simp at b
    | succ k=>exact ⟨k,by omega,by simpa using b⟩
/-- Some number of a stretch. -/
def Kz (p:Int->Bool):Nat->Int->Bool
 | 0,_=>false
 | k + 1,i=>p i||Kz p k (i + 1)
theorem HU (p:Int->Bool):∀ (k:Nat) (i:Int),Kz p k i=true↔∃ x,i<=x/\x < i + k/\p x=true
 | 0,i=>by simp [Kz]; intro x h1 h2; omega
 | k + 1,i=>by
  simp only [Kz,Bool.or_eq_true,HU p k]
  constructor
  ·rintro (h | ⟨x,h1,h2,h3⟩)
   ·exact ⟨i,by omega,by omega,h⟩
   ·exact ⟨x,by omega,by omega,h3⟩
  ·rintro ⟨x,h1,h2,h3⟩
   by_cases hx:x=i
   ·subst hx; exact .inl h3
   ·exact .inr ⟨x,by omega,by omega,h3⟩
/-- What an evening's check answers. -/
def chk (n:Int) (sizes:List Int) (ev:List (List Int)):Int :=
 if (decide ((sizes.length:Int) > 0)&&((sizes.length:Int)!=(ev.length:Int)))=true then 2 else
 if NK sizes ev 0 then 2 else
 if ev.flatten.any (NI n) then 6 else
 if Kz (fun x=>decide ((ev.flatten.count x:Int) > 1)) n.toNat 0 then 5 else
 if Kz (fun x=>((ev.flatten.count x:Int)==0)) n.toNat 0 then 2 else 0
theorem F0 (n:Int) (hn0:0<=n) (hn:n<=64) (sizes:List Int) (ev:List (List Int)) (hl:ev.length<=50000) (hf:ev.flatten.length<=50000):BN n sizes ev=some (chk n sizes ev):=by
 unfold BN chk
 by_cases hs:(decide ((sizes.length:Int) > 0)&&((sizes.length:Int)!=(ev.length:Int)))=true
 ·rw [if_pos hs]
  simp only [Bool.and_eq_true,decide_eq_true_eq] at hs
  rw [if_pos (by simpa using hs.1)]
  simp only [OS,hs.2,if_true]
 ·rw [if_neg hs]
  have hsz:(sizes.length:Int) > 0->sizes.length=ev.length:=fun h=>by
   simp only [Bool.and_eq_true,decide_eq_true_eq,not_and,Bool.not_eq_true,bne_eq_false_iff_eq] at hs
   have:=hs h; omega
  have e1:(if (decide ((sizes.length:Int) > 0))=true then some ((sizes.length:Int)!=(ev.length:Int)) else some false)=some false:=by
   by_cases h:(sizes.length:Int) > 0
   ·have:=hsz h; simp [this]
   ·have h':¬ 0 < sizes.length:=by omega
    simp [h']
  rw [e1]
  simp only [OS,Bool.false_eq_true,if_false]
  have hmk:LI 1 n=true:=by
   simp only [LI,Bool.and_eq_true,decide_eq_true_eq]; omega
  rw [if_pos hmk]
  have h1:=Nd n sizes ev hn0 hl hsz ev [] (0,false,false,List.replicate n.toNat false) 100000 rfl (by omega) (by simp) (by simp) (by simp only; omega)
  rw [show ((([]:List (List Int)).length:Nat):Int)=0 from rfl] at h1
  simp only at h1
  rw [h1]
  simp only [OS]
  cases hb:NK sizes ev 0 with
  | true=>simp
  | false =>
   simp only [Bool.false_eq_true,if_false]
   rw [Q6]
   simp only [Bool.false_or]
   cases hu:ev.flatten.any (NI n) with
   | true=>simp
   | false =>
    simp only [Bool.false_eq_true,if_false]
    have hval:∀ v ∈ ev.flatten,0<=v/\v < n:=fun v hv=>by
     have:=List.any_eq_false.1 hu v hv
     simp only [NI,decide_eq_true_eq] at this
     omega
    obtain ⟨j1,j2,j3,j4⟩:=Ny ev.flatten [] _ (Rc n.toNat) hval
    rw [List.nil_append] at j2 j3
    generalize ev.flatten.foldl (stepC n) (0,false,false,List.replicate n.toNat false)=q at *
    have t1:q.2.1=Kz (fun x=>decide ((ev.flatten.count x:Int) > 1)) n.toNat 0:=by
     rw [Bool.eq_iff_iff,j3,HU]
     constructor
     ·rintro ⟨x,hx⟩
      have:=hval x (List.count_pos_iff.1 (by omega))
      exact ⟨x,by omega,by omega,by simp; omega⟩
     ·rintro ⟨x,_,_,hx⟩
      simp at hx
      exact ⟨x,by omega⟩
    have t2:decide (q.1 < n)=Kz (fun x=>((ev.flatten.count x:Int)==0)) n.toNat 0:=by
     rw [Bool.eq_iff_iff,HU,decide_eq_true_eq,j4]
     have hc:=HX q.2.2.2
     rw [j1] at hc
     constructor
     ·intro h
      obtain ⟨k,k1,k2⟩:=hc.2.1 (by omega)
      rw [j2 k k1] at k2
      have hm:¬ (k:Int) ∈ ev.flatten:=by simpa using k2
      exact ⟨k,by omega,by omega,by rw [List.count_eq_zero.2 hm]; rfl⟩
     ·rintro ⟨x,h1,h2,h3⟩
      have h3:ev.flatten.count x=0:=by simpa using h3
      have hm:=List.count_eq_zero.1 h3
      have:=hc.2.2 ⟨x.toNat,by omega,by rw [j2 _ (by omega),show ((x.toNat:Nat):Int)=x by omega]; simpa using hm⟩
      omega
    rw [t1,t2]
    cases Kz (fun x=>decide ((ev.flatten.count x:Int) > 1)) n.toNat 0 <;> cases Kz (fun x=>((ev.flatten.count x:Int)==0)) n.toNat 0 <;> simp
/-- The pieces between the bytes c. -/
def pcs (c:UInt8):List UInt8->List (List UInt8)
 | []=>[[]]
 | b::r=>if b=c then []::pcs c r else match pcs c r with
  | []=>[[b]]
  | w::ws=>(b::w)::ws
theorem Mj (c:UInt8):∀ s:List UInt8,pcs c s≠[]
 | []=>by simp [pcs]
 | b::r=>by
  unfold pcs
  split
  ·simp
  ·split <;> simp
theorem E8 (c:UInt8) (s:List UInt8):∃ w ws,pcs c s=w::ws:=List.exists_cons_of_ne_nil (Mj c s)
/-- A text without the separator is one piece. -/
theorem JR (c:UInt8):∀ {s:List UInt8},c ∉ s->pcs c s=[s]
 | [],_=>rfl
 | b::r,h=>by
  have h1:b≠c:=fun e=>h (by simp [e])
  unfold pcs
  rw [if_neg h1,JR c fun e=>h (by simp [e])]
/-- The first piece ahead of a separator. -/
theorem Kc (c:UInt8):∀ {s:List UInt8}(r:List UInt8),c ∉ s->pcs c (s++c::r)=s::pcs c r
 | [],r,_=>by
  show pcs c (c::r)=_
  conv=>lhs; unfold pcs
  rw [if_pos rfl]
 | b::s,r,h=>by
  have h1:b≠c:=fun e=>h (by simp [e])
  show pcs c (b::(s++c::r))=_
  conv=>lhs; unfold pcs
  rw [if_neg h1,Kc c r fun e=>h (by simp [e])]
theorem JQ (c:UInt8) (s:List UInt8):(pcs c s).length=s.count c + 1:=by
 induction s with
 | nil=>rfl
 | cons b s ih =>
  unfold pcs
  by_cases h:b=c
  ·rw [if_pos h,List.length_cons,ih,h]; simp
  ·rw [if_neg h]
   obtain ⟨w,ws,e⟩:=E8 c s
   rw [e] at ih ⊢
   rw [List.count_cons_of_ne h]
   exact ih
/-- Where the first separator stands. -/
def Kv (c:UInt8):List UInt8->Option Nat
 | []=>none
 | b::r=>if b=c then some 0 else (Kv c r).map (· + 1)
theorem KS {c:UInt8}:∀ {s:List UInt8},Kv c s=none->c ∉ s
 | [],_=>by simp
 | b::r,h=>by
  unfold Kv at h
  split at h
  ·cases h
  ·next h1 =>
   simp only [Option.map_eq_none_iff] at h
   simp only [List.mem_cons,not_or]
   exact ⟨fun e=>h1 e.symm,KS h⟩
theorem He {c:UInt8}:∀ {s:List UInt8}{i:Nat},Kv c s=some i->i < s.length/\c ∉ s.take i/\s=s.take i++c::s.drop (i + 1)
 | [],_,h=>by cases h
 | b::r,i,h=>by
  unfold Kv at h
  split at h
  ·next h1 =>
   injection h with h
   subst h
   subst h1
   simp
  ·next h1 =>
   obtain ⟨j,hj,rfl⟩:=Option.map_eq_some_iff.1 h
   obtain ⟨a1,a2,a3⟩:=He hj
   refine ⟨by simp; omega,?_,?_⟩
   ·simp only [List.take_succ_cons,List.mem_cons,not_or]
    exact ⟨fun e=>h1 e.symm,a2⟩
   ·simp only [List.take_succ_cons,List.drop_succ_cons,List.cons_append]
    rw [<-a3]
theorem Pf {c:UInt8}{s:List UInt8}{i:Nat}(h:Kv c s=some i):pcs c s=s.take i::pcs c (s.drop (i + 1)):=by
 obtain ⟨_,a2,a3⟩:=He h
 conv=>lhs; rw [a3]
 exact Kc c _ a2
/-- A number of 1 to 9 digits that does not start with 0 unless it is 0. -/
def L7:Nat->List UInt8->Option Nat
 | n,[]=>some n
 | n,b::r=>if 48<=b.toNat/\b.toNat<=57 then L7 (10 * n + (b.toNat - 48)) r else none
def Oh (w:List UInt8):Option Nat:=if w.length=0\/9 < w.length then none else if 1 < w.length/\w.head? = some 48 then none else L7 0 w
/-- An evening out of words. -/
def evW:List (List UInt8)->List (List Int)->List Int->Option (List (List Int))
 | [],out,tab=>if tab=[] then none else some (out++[tab])
 | w::ws,out,tab=>if w=[47] then (if tab=[] then none else evW ws (out++[tab]) []) else match Oh w with
  | none=>none
  | some x=>evW ws out (tab++[(x:Int)])
def evP (line:List UInt8):Option (List (List Int)):=evW (pcs 32 line) [] []
/- trestle/trestlekit.Number -/
/- trestle/trestlekit.Words -/
/- trestle/trestlekit.Lines -/
theorem Nv (s:List UInt8) (c:UInt8):Lib.indexByte s c=match Kv c s with | some i=>(i:Int) | none=> -1:=by
 induction s with
 | nil=>rfl
 | cons b s ih =>
  unfold Lib.indexByte Kv
  by_cases h:b=c
  ·rw [if_pos (by simpa using h),if_pos h]; rfl
  ·rw [if_neg (by simpa using h),if_neg h,ih]
   cases Kv c s with
   | none=>rfl
   | some i =>
    show (if ((i:Int) == -1)=true then (-1:Int) else (i:Int) + 1)=_
    rw [if_neg (by simp)]
    show (i:Int) + 1=((i + 1:Nat):Int)
    omega
theorem LP (s:List UInt8) (c:UInt8) (hc:[c]≠s\/Kv c s=some 0):BP s [c]=some (match Kv c s with | some i=>(i:Int) | none=> -1):=by
 have hu:((c.toNat:Int)).toNat.toUInt8=c:=by rw [Int.toNat_natCast]; exact UInt8.ofNat_toNat
 unfold BP BK
 rw [if_neg (by simp)]
 by_cases h:[c]=s
 ·rw [show ([c]==s)=true by simpa using h]
  rcases hc with hc | hc
  ·exact absurd h hc
  ·rw [hc]; rfl
 ·rw [show ([c]==s)=false by simpa using h]
  rw [OS,if_neg (by simp),if_pos (by simp),show idx [c] 0=some c from rfl,OS]
  unfold Cv
  rw [hu,Nv]
  rfl
theorem O1 (c:UInt8) (r:List UInt8):Kv c (c::r)=some 0:=by unfold Kv; rw [if_pos rfl]
theorem MW (s:List UInt8) (c:UInt8):BP s [c]=some (match Kv c s with | some i=>(i:Int) | none=> -1):=by
 by_cases h:[c]=s
 ·exact LP s c (.inr (by rw [<-h]; exact O1 c []))
 ·exact LP s c (.inl h)
theorem Qn (s:List UInt8) (c:UInt8) (hs:s.length<=100000):DJ s [c]=some (match Kv c s with | some i=>(s.take i,s.drop (i + 1),true) | none=>(s,[],false)):=by
 have hx:=MW s c
 unfold BP at hx
 obtain ⟨v,h1,h2⟩:=OB hx
 have h2:v=_:=OI h2
 unfold DJ CN
 rw [h1,OS]
 cases hf:Kv c s with
 | none =>
  rw [hf] at h2
  have h2:v = -1:=h2
  subst h2
  rw [if_neg (by decide)]
  rfl
 | some i =>
  rw [hf] at h2
  have h2:v=(i:Int):=h2
  subst h2
  obtain ⟨a1,_,_⟩:=He hf
  have e:wr .i64 ((i:Int) + (([c]:List UInt8).length:Int))=((i + 1:Nat):Int):=by
   rw [IT (by simp; omega) (by simp; omega)]; simp
  rw [if_pos (by simp),if_pos (by simp [Ce]; omega),e,if_pos (by simp only [Ce,Bool.and_eq_true,decide_eq_true_eq]; omega),Int.toNat_natCast,Int.toNat_natCast,Int.toNat_natCast,List.take_length]
  rfl
/- Numbers. -/
def Rp:Option Nat->Int×Bool
 | some x=>(x,true)
 | none=>(0,false)
theorem Rm {n:Int}(h0:0<=n) (h1:n<=255):wr .u8 n=n:=by
 have e:wr .u8 n=n % 256:=rfl
 rw [e]
 omega
theorem Md (w:List UInt8) (hw:w.length<=9):∀ (r pre:List UInt8) (f acc:Nat),w=pre++r->r.length < f->acc < 10 ^ pre.length->A2 w f acc pre.length=some (match L7 acc r with | some x=> .inl (x:Int) | none=> .inr (0,false))
 | [],pre,f + 1,acc,h,_,_=>by
  unfold A2
  rw [if_neg (by rw [h]; simp)]
  rfl
 | b::r,pre,f + 1,acc,h,hf,ha=>by
  have hi:idx w (pre.length:Int)=some b:=by rw [h]; exact Eo pre b r
  have hl:pre.length < w.length:=by rw [h]; simp
  unfold A2
  rw [if_pos (by simp; exact hl),hi,OS,OS,OS]
  unfold L7
  by_cases hb:48<=b.toNat/\b.toNat<=57
  ·have hp:10 ^ pre.length<=10 ^ 8:=Nat.pow_le_pow_right (by omega) (by omega)
   have e1:(10:Nat) ^ 8=100000000:=by decide
   have e2:(10:Nat) ^ (pre++[b]).length=10 ^ pre.length * 10:=by rw [List.length_append,List.length_singleton,Nat.pow_succ]
   have e3:wr .i64 (wr .i64 (10 * (acc:Int)) + wr .i64 (wr .u8 ((b.toNat:Int) - 48)))=((10 * acc + (b.toNat - 48):Nat):Int):=by
    rw [Rm (by omega) (by omega),IT (n:=10 * (acc:Int)) (by omega) (by omega),IT (n:=(b.toNat:Int) - 48) (by omega) (by omega),IT (by omega) (by omega)]
    omega
   have ih:=Md w hw r (pre++[b]) f (10 * acc + (b.toNat - 48)) (by rw [h]; simp) (by simp at hf; omega) (by rw [e2]; omega)
   rw [if_neg (by simp; omega),OS,if_neg (by simp; omega),if_pos hb,e3,IT (n:=(pre.length:Int) + 1) (by omega) (by omega),<-ih,Kk pre b]
  ·rw [if_neg hb]
   by_cases h1:(b.toNat:Int) < 48
   ·rw [if_pos (by simpa using h1),OS,if_pos rfl]
   ·rw [if_neg (by simpa using h1),OS,if_pos (by simp; omega)]
theorem OC (w : List UInt8) : CA w = some (Rp (Oh w)) := by
  unfold CA Oh
  by_cases h0 : w.length = 0
  · rw [if_pos (by simp [h0]), OS, if_pos rfl, if_pos (.inl h0)]; rfl
  · rw [if_neg (by rw [beq_iff_eq]; omega)]
    by_cases h9 : 9 < w.length
    · rw [if_pos (decide_eq_true (by omega)), OS, if_pos rfl, if_pos (.inr h9)]; rfl
    · rw [if_neg (by rw [decide_eq_true_eq]; omega), if_neg (show ¬ (w.length = 0 ∨ 9 < w.length) by omega)]
      have hl := Md w (by omega) w [] 100000 0 rfl (by omega) (by simp)
      have hl : A2 w 100000 0 0 = _ := hl
      obtain ⟨b, r, rfl⟩ := List.exists_cons_of_ne_nil (fun e => h0 (by rw [e]; rfl) : w ≠ [])
      rw [hl, show idx (b :: r) 0 = some b from rfl, OS]
      have hd : ((b.toNat : Int) == 48) = decide (b = 48) := by
        rw [Bool.eq_iff_iff]
        simp only [beq_iff_eq, decide_eq_true_eq]
        constructor
        · intro h; exact UInt8.toNat.inj (by have : b.toNat = 48 := by omega
                                             exact this)
        · intro h; rw [h]; rfl
      rw [hd]
      by_cases h1 : 1 < (b :: r).length
      · rw [if_pos (decide_eq_true (by omega)), OS]
        by_cases hb : b = 48
        · rw [if_pos (by simpa using hb), if_pos ⟨h1, by simp [hb]⟩]; rfl
        · rw [if_neg (by simpa using hb), if_neg (by simp [hb]), OS]
          cases L7 0 (b :: r) <;> rfl
      · rw [if_neg (by rw [decide_eq_true_eq]; omega), OS, if_neg (by simp), if_neg (fun h => h1 h.1), OS]
        cases L7 0 (b :: r) <;> rfl
/- Words: none where a piece is empty. -/
theorem OP {α:Type}(a b:List α) (x y:α):(a++x::b).set a.length y=a++y::b:=by
 rw [List.set_append_right _ _ (Nat.le_refl _),Nat.sub_self]; rfl
theorem OF {c:UInt8}{s:List UInt8}(h:(pcs c s).length=1):pcs c s=[s]:=by
 rw [JQ] at h
 exact JR c fun hm=>by
  have:=List.count_pos_iff.2 hm
  omega
theorem ML {lo hi n:Nat}(h1:lo<=hi) (h2:hi<=n):Ce (lo:Int) (hi:Int) n=true:=by
 simp only [Ce,Bool.and_eq_true,decide_eq_true_eq]; omega
theorem KB (line:List UInt8) (N:Nat) (hN:N<=2001) (r7:Int) (hr:wr .i64 ((mnI r7 (wr .i64 ((line.length:Int) + 1))) - 1)=(N:Int) - 1):∀ (d:Nat) (s:List UInt8) (ws:List (List UInt8)) (f:Nat),s.length<=2000->(pcs 32 s).length=d + 1->ws.length + d + 1=N->d < f->∃ (last:List UInt8) (W:List (List UInt8)),Ao line [32] 0 r7 f s ws.length (ws++List.replicate (d + 1) [])=some (last,(W.length:Int),W++[[]])/\W++[last]=ws++pcs 32 s/\W.length + 1=N
 | 0,s,ws,f + 1,_,h,hw,_=>by
  refine ⟨s,ws,?_,by rw [OF h],hw⟩
  unfold Ao
  rw [hr,if_neg (by rw [decide_eq_true_eq]; omega)]
  rfl
 | d + 1,s,ws,f + 1,hs,h,hw,hf=>by
  cases hf2:Kv 32 s with
  | none =>
   rw [JR 32 (KS hf2)] at h
   simp at h
  | some m =>
   obtain ⟨a1,_,_⟩:=He hf2
   have hp:=Pf hf2
   obtain ⟨last,W,b1,b2,b3⟩:=KB line N hN r7 hr d (s.drop (m + 1)) (ws++[s.take m]) f (by simp; omega) (by rw [hp] at h; simpa using h) (by simp; omega) (by omega)
   refine ⟨last,W,?_,by rw [b2,hp]; simp,b3⟩
   have hx:BP s [32]=some (m:Int):=by rw [MW,hf2]
   have e1:wr .i64 ((m:Int) + 0)=(m:Int):=by rw [IT (by omega) (by omega)]; omega
   have e2:wr .i64 ((m:Int) + (([32]:List UInt8).length:Int))=((m + 1:Nat):Int):=by rw [IT (by simp; omega) (by simp; omega)]; simp
   have e3:wr .i64 ((ws.length:Int) + 1)=((ws++[s.take m]).length:Int):=by rw [IT (by omega) (by omega)]; simp
   have e4:ws++List.replicate (d + 1 + 1) ([]:List UInt8)=ws++[]::List.replicate (d + 1) []:=by rw [List.replicate_succ]
   have e5:(ws++List.replicate (d + 1 + 1) ([]:List UInt8)).set ws.length (s.take m)=(ws++[s.take m])++List.replicate (d + 1) []:=by rw [e4,OP]; simp
   have k1:Ce ((0:Nat):Int) (m:Int) s.length=true:=ML (Nat.zero_le _) (Nat.le_of_lt a1)
   have k1:Ce 0 (m:Int) s.length=true:=k1
   have k2:Ce ((m + 1:Nat):Int) (s.length:Int) s.length=true:=ML a1 (Nat.le_refl _)
   have g1:(ws.length:Int) < (N:Int) - 1:=by clear hr; omega
   have g2:¬ (m:Int) < 0:=by clear hr; omega
   have k3:idx (ws++List.replicate (d + 1 + 1) ([]:List UInt8)) (ws.length:Int)=some []:=by rw [e4]; exact Eo _ _ _
   conv=>lhs; unfold Ao
   rw [hr,if_pos (decide_eq_true g1),hx,OS,if_neg (by rw [decide_eq_true_eq]; exact g2),e1,if_pos k1,k3,OS,e2,if_pos k2,Int.toNat_natCast,Int.toNat_natCast,Int.toNat_natCast,Int.toNat_natCast,List.take_length,e3]
   rw [<-b1,<-e5]
   rfl
theorem PI (line:List UInt8) (hl:line.length<=2000):Cu line [32]=some (pcs 32 line):=by
 have hc:line.count 32<=line.length:=List.count_le_length
 have hN:=JQ 32 line
 have hj:BT line [32] (-1)=some (((line.count 32 + 1:Nat)):Int):=by
  unfold BT
  rw [if_pos (by decide)]
  show some (wr .i64 (((line.count 32:Nat):Int) + 1))=_
  rw [IT (by omega) (by omega)]
  rfl
 have hM:mnI ((line.count 32 + 1:Nat):Int) (wr .i64 ((line.length:Int) + 1))=((line.count 32 + 1:Nat):Int):=by
  rw [IT (by omega) (by omega)]
  unfold mnI
  rw [if_neg (by omega)]
 obtain ⟨last,W,a1,a2,a3⟩:=KB line (line.count 32 + 1) (by omega) ((line.count 32 + 1:Nat):Int) (by rw [hM,IT (by omega) (by omega)]) (line.count 32) line [] 100000 hl hN (by simp) (by omega)
 rw [List.nil_append,show ((([]:List (List UInt8)).length:Nat):Int)=0 from rfl] at a1
 rw [List.nil_append] at a2
 unfold Cu Ci
 rw [if_neg (by decide),if_neg (by decide),hj,OS,hM,if_pos (by simp only [LI,Bool.and_eq_true,decide_eq_true_eq]; omega),Int.toNat_natCast,a1,OS]
 have e1:wr .i64 ((W.length:Int) + 1)=((W.length + 1:Nat):Int):=by rw [IT (by omega) (by omega)]; omega
 have e2:(W++[[]]).set W.length last=W++[last]:=OP W [] [] last
 have e3:(W++[last]).take (W.length + 1)=W++[last]:=List.take_of_length_le (by simp)
 have k1:QY ((W.length + 1:Nat):Int) (W++[last]).length=true:=by simp only [QY,List.length_append,List.length_singleton,Bool.and_eq_true,decide_eq_true_eq]; omega
 simp only []
 rw [show idx (W++[[]]) (W.length:Int)=some [] from Eo _ _ _,OS,Int.toNat_natCast,e1,e2,if_pos k1,Int.toNat_natCast,e3,OS,a2]
/- trestle/trestleref09.evening -/
def evL:List (List UInt8)->List (List Int)->List Int->Option (List (List Int))
 | [],out,_=>some out
 | w::ws,out,tab=>if w=[47] then (if tab=[] then none else evL ws (out++[tab]) []) else match Oh w with
  | none=>none
  | some x=>evL ws out (tab++[(x:Int)])
theorem KP:∀ (ws:List (List UInt8)) (out:List (List Int)) (tab:List Int),evL (ws++[[47]]) out tab=evW ws out tab
 | [],out,tab=>by
  show evL [[47]] out tab=_
  unfold evL evW
  rw [if_pos rfl]
  rfl
 | w::ws,out,tab=>by
  show evL (w::(ws++[[47]])) out tab=_
  unfold evL evW
  rw [KP ws]
  cases Oh w with
  | none=>rfl
  | some x=>simp only []; rw [KP ws]
theorem Ls:∀ (ws:List (List UInt8)) (out:List (List Int)) (tab:List Int) (o:List (List Int)),evW ws out tab=some o->o.length<=out.length + ws.length + 1/\o.flatten.length<=out.flatten.length + tab.length + ws.length
 | [],out,tab,o,h=>by
  unfold evW at h
  split at h
  ·cases h
  ·have h:=OI h
   subst h
   simp
 | w::ws,out,tab,o,h=>by
  unfold evW at h
  split at h
  ·split at h
   ·cases h
   ·have:=Ls ws _ _ o h
    simp only [List.length_append,List.flatten_append,List.flatten_cons,List.flatten_nil,List.append_nil,List.length_nil,List.length_cons] at this ⊢
    omega
  ·split at h
   ·cases h
   ·have:=Ls ws _ _ o h
    simp only [List.length_append,List.length_nil,List.length_cons] at this ⊢
    omega
theorem Nm {line:List UInt8}{t:List (List Int)}(h:evP line=some t):t.length<=line.length + 2/\t.flatten.length<=line.length + 1:=by
 have a:=Ls _ _ _ t h
 have b:=JQ 32 line
 have c:line.count 32<=line.length:=List.count_le_length
 simp only [List.length_nil,List.flatten_nil] at a
 omega
theorem Ro {α:Type}(xs:List α):((xs.length:Int)==0)=true↔xs=[]:=by
 rw [beq_iff_eq]
 constructor
 ·intro h; exact List.eq_nil_of_length_eq_zero (by omega)
 ·intro h; rw [h]; rfl
theorem Lt (v1:List (List UInt8)) (hv:v1.length<=3000):∀ (r pre:List (List UInt8)) (out:List (List Int)) (tab:List Int) (f:Nat),v1++[[47]]=pre++r->r.length < f->out.length<=pre.length->tab.length<=pre.length->Al v1 f pre.length out tab=some (match evL r out tab with | some o=> .inl o | none=> .inr ())
 | [],pre,out,tab,f + 1,h,_,_,_=>by
  unfold Al
  rw [if_neg (by rw [h]; simp)]
  rfl
 | w::r,pre,out,tab,f + 1,h,hf,ho,ht=>by
  have hl:pre.length + r.length + 1=v1.length + 1:=by
   have:=congrArg List.length h
   simp at this
   omega
  have hi:idx (v1++[[47]]) (pre.length:Int)=some w:=by rw [h]; exact Eo pre w r
  have h1:wr .i64 ((pre.length:Int) + 1)=((pre++[w]).length:Int):=by rw [IT (by omega) (by omega)]; simp
  have h':v1++[[47]]=(pre++[w])++r:=by rw [h]; simp
  simp only [List.length_cons] at hf
  have hp:(pre++[w]).length=pre.length + 1:=by simp
  unfold Al
  rw [if_pos (by rw [h]; exact N0 pre w r),hi,OS]
  unfold evL
  by_cases hw:w=[47]
  ·rw [if_pos (beq_iff_eq.2 hw),if_pos hw]
   by_cases hz:tab=[]
   ·rw [if_pos ((Ro tab).2 hz),if_pos hz]
   ·rw [if_neg (fun e=>hz ((Ro tab).1 e)),if_neg hz,if_pos (C7 (by omega) (by simp; omega)),h1]
    exact Lt v1 hv r (pre++[w]) (out++[tab]) [] f h' (by omega) (by simp; omega) (by simp)
  ·rw [if_neg (fun e=>hw (beq_iff_eq.1 e)),if_neg hw,OC,OS]
   cases Oh w with
   | none=>rfl
   | some x =>
    have hn:¬ (!(Rp (some x)).2)=true:=by show ¬ (!true)=true; decide
    rw [if_neg hn,if_pos (C7 (by omega) (by simp; omega)),h1]
    exact Lt v1 hv r (pre++[w]) out (tab++[(x:Int)]) f h' (by omega) (by omega) (by simp; omega)
theorem J1 (line:List UInt8) (hl:line.length<=2000):Bo line=some (match evP line with | some t=>(t,true) | none=>([],false)):=by
 have b:=JQ 32 line
 have c:line.count 32<=line.length:=List.count_le_length
 have h:=Lt (pcs 32 line) (by omega) (pcs 32 line++[[47]]) [] [] [] 100000 rfl (by simp; omega) (by simp) (by simp)
 have h:Al (pcs 32 line) 100000 0 [] []=_:=h
 unfold Bo
 rw [PI line hl,OS,if_pos (C7 (by omega) (by simp; omega)),h,OS,KP]
 show (match (match evP line with | some o=>Sum.inl o | none=>Sum.inr ()) with | .inl w63=>some (w63,true) | .inr w70=>some ([],false))=_
 cases evP line <;> rfl
/- trestle/trestleref09.Parse -/
/- trestle/trestlelaw09.parses -/
/- trestle/trestlelaw09.EveningParses -/
def Jh (n:Int):List (List UInt8)->Nat->List (List (List Int))->(List (List (List Int))) ⊕ (Int×Int)
 | [],_,out=> .inl out
 | [p],line,out=>if p=[] then .inl out else .inr ((line:Int),3)
 | p::q::r,line,out=>match evP p with
  | none=> .inr ((line:Int),3)
  | some t=>if chk n [] t≠0 then .inr ((line:Int),chk n [] t) else if out.length=64 then .inr ((line:Int),7) else Jh n (q::r) (line + 1) (out++[t])
theorem Mp (n:Int):∀ (ps:List (List UInt8)) (line:Nat) (out s:List (List (List Int))),(∀ p ∈ ps,p.length<=2000)->out.length<=64->(∀ ev ∈ out,ev.length<=2002/\ev.flatten.length<=2001)->Jh n ps line out = .inl s->s.length<=64/\∀ ev ∈ s,ev.length<=2002/\ev.flatten.length<=2001
 | [],_,out,s,_,ho,hb,h=>by
  have h:out=s:=Sum.inl.inj h
  subst h; exact ⟨ho,hb⟩
 | [p],_,out,s,_,ho,hb,h=>by
  unfold Jh at h
  split at h
  ·have h:out=s:=Sum.inl.inj h
   subst h; exact ⟨ho,hb⟩
  ·cases h
 | p::q::r,line,out,s,hp,ho,hb,h=>by
  unfold Jh at h
  cases he:evP p with
  | none=>rw [he] at h; cases h
  | some t =>
   rw [he] at h
   simp only [] at h
   split at h
   ·cases h
   ·split at h
    ·cases h
    ·refine Mp n (q::r) (line + 1) (out++[t]) s (fun x hx=>hp x (List.mem_cons_of_mem _ hx)) (by simp; omega) (fun ev hev=>?_) h
     rcases List.mem_append.1 hev with hev | hev
     ·exact hb ev hev
     ·rw [List.mem_singleton.1 hev]
      have a:=Nm he
      have b:=hp p (by simp)
      omega
theorem J7 (n:Int) (h0:0<=n) (h64:n<=64):∀ (f:Nat) (text:List UInt8) (out:List (List (List Int))) (line:Nat),text.length<=2000->text.length < f->line + text.length<=4000->out.length<=64->BZ n f text out line=some (Jh n (pcs 10 text) line out)
 | 0,_,_,_,_,h,_,_=>by omega
 | f + 1,text,out,line,hl,hf,hn,ho=>by
  unfold BZ
  by_cases ht:text=[]
  ·subst ht
   rw [if_neg (by simp)]
   rfl
  ·rw [if_pos (by simpa using ht),Qn text 10 (by omega),OS]
   cases hx:Kv 10 text with
   | none =>
    simp only []
    rw [J1 text hl,OS,JR 10 (KS hx),if_pos (by decide),OS,if_pos rfl]
    unfold Jh
    rw [if_neg ht]
   | some i =>
    obtain ⟨a1,_,_⟩:=He hx
    have e1:(text.take i).length<=2000:=by simp; omega
    have e2:(text.drop (i + 1)).length=text.length - (i + 1):=by simp
    obtain ⟨q,r,hq⟩:=E8 10 (text.drop (i + 1))
    have ih:=J7 n h0 h64 f (text.drop (i + 1))
    rw [hq] at ih
    simp only []
    rw [J1 _ e1,OS,Pf hx,hq,if_neg (by decide),OS]
    unfold Jh
    cases he:evP (text.take i) with
    | none=>rfl
    | some t =>
     have hb:=Nm he
     have hc:BN n [] t=some (chk n [] t):=F0 n h0 h64 [] t (by omega) (by omega)
     simp only []
     rw [if_neg (by decide),hc,OS]
     by_cases hk:chk n [] t=0
     ·rw [hk,if_neg (show ¬ (((0:Int)!=0)=true) by decide),if_neg (show ¬ ((0:Int)≠0) from fun e=>e rfl)]
      by_cases h6:out.length=64
      ·rw [if_pos (by rw [beq_iff_eq,h6]; rfl),if_pos h6]
      ·rw [if_neg (by rw [beq_iff_eq]; omega),if_neg h6,if_pos (C7 (by omega) (by omega)),IT (by omega) (by omega)]
       exact ih (out++[t]) (line + 1) (by omega) (by omega) (by omega) (by simp; omega)
     ·rw [if_pos (by simpa using hk),if_pos hk]
/- A schedule is the same as itself. -/
theorem RF {ρ:Type}(n:Nat) (R:Option ρ) (L:Nat->Int->Option ρ) (hn:n<=99999) (hs:∀ i,i < n->∀ f,L (f + 1) (i:Int)=L f (wr .i64 ((i:Int) + 1))) (he:∀ f,L (f + 1) (n:Int)=R):L 100000 0=R:=by
 have go:∀ (d i f:Nat),i + d=n->d < f->L f (i:Int)=R:=by
  intro d
  induction d with
  | zero =>
   intro i f e hf
   obtain ⟨f,rfl⟩:∃ q,f=q + 1:=⟨f - 1,by omega⟩
   rw [show i=n by omega]; exact he f
  | succ d ih =>
   intro i f e hf
   obtain ⟨f,rfl⟩:∃ q,f=q + 1:=⟨f - 1,by omega⟩
   rw [hs i (by omega) f,IT (by omega) (by omega),show ((i:Int) + 1)=((i + 1:Nat):Int) by omega]
   exact ih (i + 1) f (by omega) (by omega)
 exact go n 0 100000 (by omega) (by omega)
theorem Nx (xs:List Int) (h:xs.length<=99999):CR xs xs=some true:=by
 have h1:BO xs xs 100000 0=some (.inl ()):=RF xs.length _ (fun f i=>BO xs xs f i) h (fun i hi f=>by
  conv=>lhs; unfold BO
  rw [if_pos (by simp; exact hi),Gz hi,OS,OS,if_neg (by simp)]) (fun f=>by
  show BO xs xs (f + 1) (xs.length:Int)=_
  unfold BO
  rw [if_neg (by simp)])
 unfold CR
 rw [if_neg (by simp),h1]; rfl
theorem M7 (xs:List (List Int)) (h:xs.length<=99999) (hx:∀ x ∈ xs,x.length<=99999):B4 xs xs=some true:=by
 have h1:A9 xs xs 100000 0=some (.inl ()):=RF xs.length _ (fun f i=>A9 xs xs f i) h (fun i hi f=>by
  conv=>lhs; unfold A9
  rw [if_pos (by simp; exact hi),Gz hi,OS,OS,Nx _ (hx _ (List.getElem_mem hi)),OS,if_neg (by simp)]) (fun f=>by
  show A9 xs xs (f + 1) (xs.length:Int)=_
  unfold A9
  rw [if_neg (by simp)])
 unfold B4
 rw [if_neg (by simp),h1]; rfl
theorem NG (xs:List (List (List Int))) (h:xs.length<=99999) (hx:∀ x ∈ xs,x.length<=99999/\x.flatten.length<=99999):DL xs xs=some true:=by
 have hl:∀ x ∈ xs,∀ t ∈ x,t.length<=99999:=fun x hm t ht=>by
  have a:=(hx x hm).2
  have b:t.length<=x.flatten.length:=by
   obtain ⟨a,b,rfl⟩:=List.append_of_mem ht
   simp; omega
  omega
 have h1:AF xs xs 100000 0=some (.inl ()):=RF xs.length _ (fun f i=>AF xs xs f i) h (fun i hi f=>by
  have hm:=List.getElem_mem hi
  conv=>lhs; unfold AF
  rw [if_pos (by simp; exact hi),Gz hi,OS,OS]
  unfold Cq
  rw [M7 _ (hx _ hm).1 (hl _ hm),OS,OS,if_neg (by simp)]) (fun f=>by
  show AF xs xs (f + 1) (xs.length:Int)=_
  unfold AF
  rw [if_neg (by simp)])
 unfold DL AQ
 rw [if_neg (by simp),h1]; rfl
theorem OE (c:UInt8):∀ (s:List UInt8),∀ p ∈ pcs c s,p.length<=s.length
 | [],p,h=>by
  have h:p ∈ [[]]:=h
  rw [List.mem_singleton.1 h]; simp
 | b::s,p,h=>by
  have ih:=OE c s
  unfold pcs at h
  by_cases hb:b=c
  ·rw [if_pos hb] at h
   rcases List.mem_cons.1 h with h | h
   ·rw [h]; simp
   ·have:=ih p h; simp; omega
  ·rw [if_neg hb] at h
   obtain ⟨w,ws,e⟩:=E8 c s
   rw [e] at h ih
   rcases List.mem_cons.1 h with h | h
   ·have:=ih w (by simp)
    rw [h]; simp; omega
   ·have:=ih p (List.mem_cons_of_mem _ h); simp; omega
def KZ (n:Nat):List UInt8:=(Bf (n:Int)).getD []
def JP (x:Int):List UInt8:=KZ x.toNat
theorem QK:((List.range 64).all fun n=>(Bf (n:Int)==some (KZ n))&&((Oh (KZ n)==some n)&&((!(KZ n).contains 32)&&((!(KZ n).contains 10)&&(((KZ n)!=[47])&&((decide (0 < (KZ n).length)&&decide ((KZ n).length<=2))&&(KZ n==if n < 10 then [UInt8.ofNat (48 + n)] else [UInt8.ofNat (48 + n / 10),UInt8.ofNat (48 + n % 10)])))))))=true:=by kernel_rfl
structure RN (n:Nat):Prop where
 it:Bf (n:Int)=some (KZ n)
 np:Oh (KZ n)=some n
 n32:(32:UInt8) ∉ KZ n
 n10:(10:UInt8) ∉ KZ n
 n47:KZ n≠[47]
 pos:0 < (KZ n).length
 le2:(KZ n).length<=2
 eq:KZ n=if n < 10 then [UInt8.ofNat (48 + n)] else [UInt8.ofNat (48 + n / 10),UInt8.ofNat (48 + n % 10)]
theorem J6 {n:Nat}(h:n < 64):RN n:=by
 have:=List.all_eq_true.1 QK n (by simpa using h)
 simp only [Bool.and_eq_true,beq_iff_eq,decide_eq_true_eq,Bool.not_eq_true',bne_iff_ne,ne_eq] at this
 obtain ⟨a1,a2,a3,a4,a5,⟨a6,a7⟩,a8⟩:=this
 exact ⟨a1,a2,(fun hm=>by rw [List.contains_iff_mem.2 hm] at a3; cases a3),(fun hm=>by rw [List.contains_iff_mem.2 hm] at a4; cases a4),a5,a6,a7,a8⟩
theorem L8:∀ (l:List UInt8) (acc x:Nat),L7 acc l=some x->acc<=x
 | [],acc,x,h=>by
  have h:acc=x:=OI h
  omega
 | b::r,acc,x,h=>by
  unfold L7 at h
  split at h
  ·have:=L8 r _ x h
   omega
  ·cases h
theorem QR (b:UInt8){k:Nat}(h:k=b.toNat):UInt8.ofNat k=b:=by
 subst h
 exact UInt8.ofNat_toNat
theorem O7 {w:List UInt8}{x:Nat}(h:Oh w=some x) (hx:x < 64):w=KZ x:=by
 unfold Oh at h
 split at h
 ·cases h
 ·next h0 =>
  split at h
  ·cases h
  ·next h1 =>
   rw [(J6 hx).eq]
   match w,h0,h1,h with
   | [b],_,_,h =>
    unfold L7 at h
    split at h
    ·next hb =>
     have h:10 * 0 + (b.toNat - 48)=x:=OI h
     rw [if_pos (by omega),QR b (by omega)]
    ·cases h
   | [b,c],_,h1,h =>
    have hb0:b.toNat≠48:=fun e=>h1 ⟨by simp,by
     have:b=48:=UInt8.toNat.inj (by rw [e]; rfl)
     rw [this]; rfl⟩
    unfold L7 at h
    split at h
    ·next hb =>
     unfold L7 at h
     split at h
     ·next hc =>
      have h:10 * (10 * 0 + (b.toNat - 48)) + (c.toNat - 48)=x:=OI h
      rw [if_neg (by omega),QR b (by omega),QR c (by omega)]
     ·cases h
    ·cases h
   | b::c::d::r,_,h1,h =>
    have hb0:b.toNat≠48:=fun e=>h1 ⟨by simp,by
     have:b=48:=UInt8.toNat.inj (by rw [e]; rfl)
     rw [this]; rfl⟩
    unfold L7 at h
    split at h
    ·next hb =>
     unfold L7 at h
     split at h
     ·next hc =>
      have:=L8 _ _ _ (show L7 (10 * (10 * 0 + (b.toNat - 48)) + (c.toNat - 48)) (d::r)=some x from h)
      unfold L7 at h
      split at h
      ·have:=L8 _ _ _ h
       omega
      ·cases h
     ·cases h
    ·cases h
/- Words with a blank between them. -/
def unw:List (List UInt8)->List UInt8
 | []=>[]
 | [w]=>w
 | w::v::r=>w++32::unw (v::r)
theorem Eb (w:List UInt8){ws:List (List UInt8)}(h:ws≠[]):unw (w::ws)=w++32::unw ws:=by
 obtain ⟨v,r,rfl⟩:=List.exists_cons_of_ne_nil h
 rfl
theorem IG:∀ {a b:List (List UInt8)},a≠[]->b≠[]->unw (a++b)=unw a++32::unw b
 | [w],b,_,hb=>Eb w hb
 | w::v::r,b,_,hb=>by
  show unw (w::((v::r)++b))=_
  rw [Eb w (by simp),IG (by simp) hb,Eb w (by simp)]
  simp
theorem OG:∀ {ws:List (List UInt8)},ws≠[]->(∀ w ∈ ws,(32:UInt8) ∉ w)->pcs 32 (unw ws)=ws
 | [w],_,h=>JR 32 (h w (by simp))
 | w::v::r,_,h=>by
  rw [Eb w (by simp),Kc 32 _ (h w (by simp)),OG (by simp) fun x hx=>h x (List.mem_cons_of_mem _ hx)]
theorem OY:∀ s:List UInt8,unw (pcs 32 s)=s
 | []=>rfl
 | b::s=>by
  have ih:=OY s
  obtain ⟨w,ws,e⟩:=E8 32 s
  unfold pcs
  by_cases hb:b=32
  ·rw [if_pos hb,Eb [] (Mj 32 s),ih,hb]; rfl
  ·rw [if_neg hb,e]
   rw [e] at ih
   simp only []
   by_cases hw:ws=[]
   ·subst hw
    show b::w=b::s
    rw [show w=s from ih]
   ·rw [Eb _ hw] at ih ⊢
    rw [<-ih]; rfl
theorem N4 {c:UInt8}:∀ {ws:List (List UInt8)},c ∈ unw ws->c=32\/∃ w ∈ ws,c ∈ w
 | [],h=>by cases h
 | [w],h=> .inr ⟨w,by simp,h⟩
 | w::v::r,h=>by
  rw [Eb w (by simp)] at h
  rcases List.mem_append.1 h with h | h
  ·exact .inr ⟨w,by simp,h⟩
  ·rcases List.mem_cons.1 h with h | h
   ·exact .inl h
   ·rcases N4 h with h | ⟨x,hx,hc⟩
    ·exact .inl h
    ·exact .inr ⟨x,List.mem_cons_of_mem _ hx,hc⟩
/- The words of an evening, a stroke behind each table. -/
def WE (o:List (List Int)):List (List UInt8):=(o.map fun t=>t.map JP++[[47]]).flatten
theorem Li (t:List Int) (r:List (List Int)):WE (t::r)=t.map JP++([47]::WE r):=by simp [WE]
theorem Lj (o:List (List Int)) (t:List Int):WE (o++[t])=WE o++(t.map JP++[[47]]):=by simp [WE]
theorem RV {t:List Int}{r:List (List Int)}:WE (t::r)≠[]:=by rw [Li]; simp
def Mv (o:List (List Int)):Prop:=∀ v ∈ o.flatten,0<=v/\v < 64
theorem Np:∀ (ws:List (List UInt8)) (out:List (List Int)) (tab:List Int) (o:List (List Int)),evW ws out tab=some o->∀ v ∈ tab,v ∈ o.flatten
 | [],out,tab,o,h,v,hv=>by
  unfold evW at h
  split at h
  ·cases h
  ·have h:=OI h
   subst h
   simp [hv]
 | w::ws,out,tab,o,h,v,hv=>by
  unfold evW at h
  split at h
  ·split at h
   ·cases h
   · -- what is in out stays in o
    have key:∀ (ws:List (List UInt8)) (out:List (List Int)) (tab:List Int) (o:List (List Int)),evW ws out tab=some o->∀ t ∈ out,t ∈ o:=by
     intro ws
     induction ws with
     | nil =>
      intro out tab o h t ht
      unfold evW at h
      split at h
      ·cases h
      ·have h:=OI h
       subst h
       simp [ht]
     | cons w ws ih =>
      intro out tab o h t ht
      unfold evW at h
      split at h
      ·split at h
       ·cases h
       ·exact ih _ _ _ h t (by simp [ht])
      ·split at h
       ·cases h
       ·exact ih _ _ _ h t ht
    exact List.mem_flatten.2 ⟨tab,key _ _ _ _ h tab (by simp),hv⟩
  ·split at h
   ·cases h
   ·exact Np ws _ _ o h v (by simp [hv])
theorem No:∀ (ws:List (List UInt8)) (out:List (List Int)) (tab:List Int) (o:List (List Int)),evW ws out tab=some o->Mv o->WE o=WE out++(tab.map JP++(ws++[[47]]))
 | [],out,tab,o,h,_=>by
  unfold evW at h
  split at h
  ·cases h
  ·have h:=OI h
   subst h
   rw [Lj]; rfl
 | w::ws,out,tab,o,h,hi=>by
  have h':=h
  unfold evW at h
  split at h
  ·next hw =>
   split at h
   ·cases h
   ·rw [No ws _ _ o h hi,Lj,hw]
    simp
  ·split at h
   ·cases h
   ·next x hx =>
    have hm:=hi (x:Int) (Np ws _ _ o h (x:Int) (by simp))
    have e:w=JP (x:Int):=by
     unfold JP
     rw [Int.toNat_natCast]
     exact O7 hx (by omega)
    rw [No ws _ _ o h hi,e]
    simp
theorem Nl (r:List (List UInt8)):∀ (t:List Int) (out:List (List Int)) (tab:List Int),(∀ x ∈ t,0<=x/\x < 64)->evL (t.map JP++r) out tab=evL r out (tab++t)
 | [],out,tab,_=>by simp
 | x::t,out,tab,h=>by
  obtain ⟨n,rfl⟩:=Int.eq_ofNat_of_zero_le (h x (by simp)).1
  have hn:n < 64:=by have:=(h (n:Int) (by simp)).2; omega
  have k:=J6 hn
  have e:JP (n:Int)=KZ n:=by unfold JP; rw [Int.toNat_natCast]
  show evL (JP (n:Int)::(t.map JP++r)) out tab=_
  conv=>lhs; unfold evL
  rw [e,if_neg k.n47,k.np]
  simp only []
  rw [Nl r t out _ fun x hx=>h x (List.mem_cons_of_mem _ hx)]
  simp
theorem PW:∀ (ev out:List (List Int)),(∀ t ∈ ev,t≠[])->Mv ev->evL (WE ev) out []=some (out++ev)
 | [],out,_,_=>by simp [WE,evL]
 | t::ev,out,hn,hi=>by
  rw [Li,Nl _ t out [] fun x hx=>hi x (by simp [hx])]
  conv=>lhs; unfold evL
  rw [if_pos rfl,List.nil_append,if_neg (hn t (by simp)),PW ev (out++[t]) (fun u hu=>hn u (by simp [hu])) fun v hv=>hi v (by rw [List.flatten_cons]; exact List.mem_append.2 (.inr hv))]
  simp
/- Text of an evening. -/
def Jp (t:List Int):List UInt8:=unw (t.map JP)
def evF:List (List Int)->List UInt8
 | []=>[]
 | [t]=>Jp t
 | t::u::r=>Jp t++[32,47,32]++evF (u::r)
def Hk (s:List (List (List Int))):List UInt8:=(s.map fun ev=>evF ev++[10]).flatten
theorem MS:∀ {ev:List (List Int)},ev≠[]->(∀ t ∈ ev,t≠[])->evF ev++[32,47]=unw (WE ev)
 | [t],_,hn=>by
  have h1:t.map JP≠[]:=by simpa using hn t (by simp)
  have e:WE [t]=t.map JP++[[47]]:=by simp [WE]
  rw [e,IG h1 (by simp)]
  rfl
 | t::u::r,_,hn=>by
  have h1:t.map JP≠[]:=by simpa using hn t (by simp)
  have ih:=MS (ev:=u::r) (by simp) fun x hx=>hn x (List.mem_cons_of_mem _ hx)
  rw [Li,IG h1 (by simp),Eb [47] RV,<-ih]
  simp [evF,Jp]
/-- The words of an evening: its text's pieces. -/
theorem Pv {ev:List (List Int)}(h0:ev≠[]) (hn:∀ t ∈ ev,t≠[]) (hi:Mv ev):evP (evF ev)=some ev:=by
 obtain ⟨ws,hws⟩:∃ ws,WE ev=ws++[[47]]:=by
  obtain ⟨a,t,rfl⟩:∃ a t,ev=a++[t]:=⟨ev.dropLast,ev.getLast h0,(List.dropLast_concat_getLast h0).symm⟩
  exact ⟨WE a++t.map JP,by rw [Lj]; simp⟩
 have hL:=PW ev [] hn hi
 rw [hws,KP,List.nil_append] at hL
 have hne:ws≠[]:=fun e=>by
  rw [e] at hL
  unfold evW at hL
  rw [if_pos rfl] at hL
  cases hL
 have ht:=MS h0 hn
 rw [hws,IG hne (by simp)] at ht
 have ht:evF ev=unw ws:=List.append_cancel_right (show evF ev++[32,47]=unw ws++[32,47] from ht)
 have h32:∀ w ∈ ws,(32:UInt8) ∉ w:=fun w hw=>by
  have hm:w ∈ WE ev:=by rw [hws]; exact List.mem_append.2 (.inl hw)
  unfold WE at hm
  obtain ⟨l,hl,hwl⟩:=List.mem_flatten.1 hm
  obtain ⟨t,ht,rfl⟩:=List.mem_map.1 hl
  rcases List.mem_append.1 hwl with h | h
  ·obtain ⟨x,hx,rfl⟩:=List.mem_map.1 h
   have:=hi x (List.mem_flatten.2 ⟨t,ht,hx⟩)
   exact (J6 (n:=x.toNat) (by omega)).n32
  ·rw [List.mem_singleton.1 h]; decide
 unfold evP
 rw [ht,OG hne h32]
 exact hL
/-- The text of an evening that was read is the line. -/
theorem Pw {line:List UInt8}{t:List (List Int)}(h:evP line=some t) (hi:Mv t) (h0:t≠[]) (hn:∀ x ∈ t,x≠[]):evF t=line:=by
 have hW:=No _ _ _ t h hi
 have hW:WE t=pcs 32 line++[[47]]:=by rw [hW]; simp [WE]
 have ht:=MS h0 hn
 rw [hW,IG (Mj 32 line) (by simp),OY] at ht
 exact List.append_cancel_right (show evF t++[32,47]=line++[32,47] from ht)
theorem Pu {ev:List (List Int)}(h0:ev≠[]) (hn:∀ t ∈ ev,t≠[]) (hi:Mv ev):(10:UInt8) ∉ evF ev:=fun hm=>by
 have ht:=MS h0 hn
 have hm:(10:UInt8) ∈ unw (WE ev):=by rw [<-ht]; exact List.mem_append.2 (.inl hm)
 rcases N4 hm with h | ⟨w,hw,hc⟩
 ·exact absurd h (by decide)
 ·unfold WE at hw
  obtain ⟨l,hl,hwl⟩:=List.mem_flatten.1 hw
  obtain ⟨t,ht,rfl⟩:=List.mem_map.1 hl
  rcases List.mem_append.1 hwl with h | h
  ·obtain ⟨x,hx,rfl⟩:=List.mem_map.1 h
   have:=hi x (List.mem_flatten.2 ⟨t,ht,hx⟩)
   exact (J6 (n:=x.toNat) (by omega)).n10 hc
  ·rw [List.mem_singleton.1 h] at hc
   exact absurd hc (by decide)
/-- A bit of a number. -/
def tb (m i:Nat):Bool:=Nat.beq (Nat.mod (Nat.shiftRight m i) 2) 1
/-- The numbers of a list as bits; none if one stands there twice. -/
def Rw:List Nat->Nat->Option Nat
 | [],m=>some m
 | i::L,m=>bif tb m i then none else Rw L (Nat.lor m (Nat.shiftLeft 1 i))
def EY (t:List Nat):List Int:=t.map Int.ofNat
def Jq (ev:List (List Nat)):List (List Int):=ev.map EY
def Hv (s:List (List (List Nat))):List (List (List Int)):=s.map Jq
theorem EZ (t:List Nat):(EY t).length=t.length:=by simp [EY]
theorem Mt (t:List (List Nat)):(Jq t).length=t.length:=by simp [Jq]
theorem Hn (t:List (List (List Nat))):(Hv t).length=t.length:=by simp [Hv]
theorem Gf:∀ (ev:List (List Nat)),(Jq ev).flatten=EY ev.flatten
 | []=>rfl
 | t::ev=>by
  show EY t++(Jq ev).flatten=EY (t++ev.flatten)
  rw [Gf ev]; simp [EY]
theorem KC (L:List Nat) (x:Nat):(EY L).count (x:Int)=L.count x:=by
 induction L with
 | nil=>rfl
 | cons v L ih =>
  show (Int.ofNat v::EY L).count (x:Int)=_
  rw [List.count_cons,List.count_cons,ih]
  congr 1
  by_cases h:v=x
  ·subst h; simp
  ·have:¬ (Int.ofNat v)=(x:Int):=fun e=>h (Int.ofNat.inj e)
   simp [h]
   omega
theorem ON:∀ (r:List (List Int)) (pre:List Int) (sz:List Int),(sz=[]\/sz=pre++r.map (fun t=>(t.length:Int)))->(∀ t ∈ r,t.length≠0)->NK sz r pre.length=false
 | [],_,_,_,_=>rfl
 | t::r,pre,sz,h,hne=>by
  have h0:((t.length:Int)==0)=false:=by have:=hne t (by simp); simp; intro h; subst h; simp at this
  have ih:=ON r (pre++[(t.length:Int)]) sz (h.imp id fun h=>by rw [h]; simp) (fun t ht=>hne t (by simp [ht]))
  unfold NK
  rw [h0,Bool.false_or]
  rw [<-Kk] at ih
  rw [ih,Bool.or_false]
  rcases h with h | h
  ·subst h; simp
  ·rw [h,List.map_cons,Eo]; simp
theorem O6 {L:List Nat}{v:Int}(h:v ∈ EY L):∃ j ∈ L,v=Int.ofNat j:=by
 obtain ⟨j,h1,h2⟩:=List.mem_map.1 h
 exact ⟨j,h1,h2.symm⟩
theorem Jy (p:Int->Bool) (k:Nat) (h:∀ x:Nat,x < k->p x=false):Kz p k 0=false:=by
 cases e:Kz p k 0 with
 | false=>rfl
 | true =>
  obtain ⟨x,h1,h2,h3⟩:=(HU p k 0).1 e
  have:=h x.toNat (by omega)
  rw [show ((x.toNat:Nat):Int)=x by omega,h3] at this
  cases this
theorem PJ (a b:List Nat):EY (a++b)=EY a++EY b:=by simp [EY]
theorem O2 (pre:List Nat) (x:Nat) (r:List Nat):idx (EY (pre++x::r)) (pre.length:Int)=some (x:Int):=by
 rw [PJ,<-EZ pre]
 exact Eo _ _ _
theorem La {k:Nat}(h:k<=1000000000):wr .i64 ((k:Int) + 1)=((k + 1:Nat):Int):=by
 rw [IT (by omega) (by omega)]; simp
/-- An evening of these sizes, everybody once. -/
structure Evn (n:Nat) (sz:List Nat) (ev:List (List Nat)):Prop where
 sz_:ev.map List.length=sz
 ne:∀ t ∈ ev,t.length≠0
 cnt:∀ j,ev.flatten.count j=if j < n then 1 else 0
section
variable {n:Nat}{sz:List Nat}{ev:List (List Nat)}{s:List (List (List Nat))}
theorem Evn.flt (h:Evn n sz ev){j:Nat}(hj:j ∈ ev.flatten):j < n:=by
 have:=h.cnt j
 have:=List.count_pos_iff.2 hj
 split at * <;> omega
theorem Evn.lt (h:Evn n sz ev):∀ t ∈ ev,∀ x ∈ t,x < n:=fun t ht _ hx=>h.flt (List.mem_flatten.2 ⟨t,ht,hx⟩)
theorem Evn.len (h:Evn n sz ev):ev.flatten.length=sz.sum:=by rw [List.length_flatten,h.sz_]
theorem Pq (h:Evn n sz ev) (zs:List Int) (hs:zs=[]\/zs=EY sz):chk n zs (Jq ev)=0:=by
 have hz:zs=[]\/zs=(Jq ev).map (fun t=>(t.length:Int)):=hs.imp id fun e=>by rw [e,<-h.sz_]; simp [EY,Jq]
 unfold chk
 have h1:(decide ((zs.length:Int) > 0)&&((zs.length:Int)!=((Jq ev).length:Int)))=false:=by
  rcases hz with h | h
  ·subst h; rfl
  ·rw [h]; simp
 have h2:NK zs (Jq ev) 0=false:=ON (Jq ev) [] zs (by simpa using hz) (fun t ht=>by
  obtain ⟨u,hu,rfl⟩:=List.mem_map.1 ht
  rw [EZ]; exact h.ne u hu)
 have h3:(Jq ev).flatten.any (NI n)=false:=by
  rw [Gf]
  refine List.any_eq_false.2 fun v hv=>?_
  obtain ⟨j,hj,rfl⟩:=O6 hv
  have:=h.flt hj
  simp only [NI,decide_eq_true_eq]
  simp
  omega
 have h4:Kz (fun x=>decide (((Jq ev).flatten.count x:Int) > 1)) (n:Int).toNat 0=false:=Jy _ _ fun x hx=>by
  rw [Gf,KC,h.cnt]
  simp only [decide_eq_false_iff_not]
  split <;> simp
 have h5:Kz (fun x=>(((Jq ev).flatten.count x:Int)==0)) (n:Int).toNat 0=false:=Jy _ _ fun x hx=>by
  rw [Gf,KC,h.cnt,if_pos (by simpa using hx)]
  rfl
 rw [h1,h2,h3,h4,h5]
 rfl
end
def Ph (codes:List Int):List Nat:=(codes.take 8).map fun c=>1 + (c % 6).toNat
theorem Ps {α:Type}(xs:List α) (k:Nat) (K:Int) (hK:K=(k:Int)) (h:xs.length<=140737488355328):Ce 0 (mnI (xs.length:Int) K) xs.length=true/\(xs.take (mnI (xs.length:Int) K).toNat).drop (0:Int).toNat=xs.take k:=by
 subst hK
 have h1:mnI (xs.length:Int) k=((min xs.length k:Nat):Int):=by unfold mnI; split <;> omega
 rw [h1]
 refine ⟨?_,?_⟩
 ·simp only [Ce,Bool.and_eq_true,decide_eq_true_eq]; omega
 ·rw [Int.toNat_natCast]
  show ((xs.take (min xs.length k)).drop 0)=_
  rw [List.drop_zero]
  by_cases hk:k<=xs.length
  ·rw [Nat.min_eq_right hk]
  ·rw [Nat.min_eq_left (by omega),List.take_of_length_le (Nat.le_refl _),List.take_of_length_le (by omega)]
theorem OQ (x0 ys:List Int) (hy:(x0.take (mnI (x0.length:Int) 8).toNat).drop (0:Int).toNat=ys) (hl:ys.length<=8) (hc:∀ c ∈ ys,0<=c/\c<=255):∀ (r pre:List Int) (f:Nat) (out:List Nat) (m:Nat),ys=pre++r->r.length < f->out.length<=pre.length->m<=6 * pre.length->CX x0 f (EY out) m pre.length=some (EY (out++r.map fun c=>1 + (c % 6).toNat),((m + (r.map fun c=>1 + (c % 6).toNat).sum:Nat):Int))
 | [],pre,f + 1,out,m,h,_,_,_=>by
  unfold CX
  rw [hy,if_neg (by rw [h]; simp)]
  simp
 | c::r,pre,f + 1,out,m,h,hf,ho,hm=>by
  obtain ⟨c0,c1⟩:=hc c (by rw [h]; simp)
  have hp:pre.length < ys.length:=by rw [h]; simp
  have e6:c.tmod 6=c % 6:=Int.tmod_eq_emod_of_nonneg c0
  have b1:=Int.emod_nonneg c (show (6:Int)≠0 by decide)
  have b2:=Int.emod_lt_of_pos c (show (0:Int) < 6 by decide)
  have e:wr .i64 (1 + wr .i64 (c.tmod 6))=((1 + (c % 6).toNat:Nat):Int):=by
   have q:wr .i64 (c % 6)=c % 6:=IT (by omega) (by omega)
   rw [e6,q,IT (by omega) (by omega)]; omega
  have ih:=OQ x0 ys hy hl hc r (pre++[c]) f (out++[1 + (c % 6).toNat]) (m + (1 + (c % 6).toNat)) (by rw [h]; simp) (by simp at hf; omega) (by simp; omega) (by simp; omega)
  unfold CX
  rw [hy,if_pos (by rw [h]; simp; omega),show idx ys (pre.length:Int)=some c by rw [h]; exact Eo pre c r]
  simp only [OS]
  rw [if_pos (C7 (by omega) (by rw [EZ]; omega)),e,La (by omega),IT (n:=(m:Int) + _) (by omega) (by omega)]
  have a1:EY out++[((1 + (c % 6).toNat:Nat):Int)]=EY (out++[1 + (c % 6).toNat]):=by simp [EY]
  have a2:(m:Int) + ((1 + (c % 6).toNat:Nat):Int)=((m + (1 + (c % 6).toNat):Nat):Int):=by push_cast; rfl
  have a3:((pre.length + 1:Nat):Int)=((pre++[c]).length:Int):=by simp
  rw [a1,a2,a3,ih]
  simp only [List.map_cons,List.sum_cons,List.append_assoc,List.cons_append,List.nil_append]
  rw [Nat.add_assoc]
structure RT (sz:List Nat) (n:Nat):Prop where
 sum:sz.sum=n
 pos:∀ k ∈ sz,1<=k
 len:sz.length<=8
 n1:1<=n
 n48:n<=48
theorem PG (codes:List Int) (hl:codes.length<=140737488355328) (hc:∀ c ∈ codes,0<=c/\c<=255):∃ sz n,Cr codes=some (EY sz,((n:Nat):Int))/\RT sz n:=by
 obtain ⟨k1,k2⟩:=Ps codes 8 8 rfl hl
 have hc':∀ c ∈ codes.take 8,0<=c/\c<=255:=fun c h=>hc c (List.mem_of_mem_take h)
 have hl8:(codes.take 8).length<=8:=by simp; omega
 have h1:=OQ codes (codes.take 8) k2 hl8 hc' (codes.take 8) [] 100000 [] 0 rfl (by omega) (by simp) (by simp)
 have hpos:∀ k ∈ Ph codes,1<=k/\k<=6:=fun k hk=>by
  obtain ⟨c,hc1,rfl⟩:=List.mem_map.1 hk
  obtain ⟨c0,_⟩:=hc' c hc1
  have b1:=Int.emod_nonneg c (show (6:Int)≠0 by decide)
  have b2:=Int.emod_lt_of_pos c (show (0:Int) < 6 by decide)
  omega
 have hsum:∀ l:List Nat,(∀ k ∈ l,1<=k/\k<=6)->l.sum<=6 * l.length/\l.length<=l.sum:=fun l=>by
  induction l with
  | nil=>intro _; simp
  | cons k l ih =>
   intro h
   have:=ih fun j hj=>h j (by simp [hj])
   have:=h k (by simp)
   simp only [List.sum_cons,List.length_cons]; omega
 obtain ⟨s1,s2⟩:=hsum _ hpos
 have hlen:(Ph codes).length<=8:=by unfold Ph; rw [List.length_map]; exact hl8
 rw [show EY []=[] from rfl,show ((0:Nat):Int)=0 from rfl,show ((([]:List Int).length:Nat):Int)=0 from rfl,List.nil_append,Nat.zero_add] at h1
 unfold Cr
 rw [if_pos k1,h1]
 simp only [OS]
 by_cases h0:(Ph codes).sum=0
 ·refine ⟨[1],1,?_,⟨rfl,by simp,by simp,by omega,by omega⟩⟩
  have:((((codes.take 8).map fun c=>1 + (c % 6).toNat).sum:Nat):Int)=0:=by
   show (((Ph codes).sum:Nat):Int)=0
   rw [h0]; rfl
  rw [this]
  rfl
 ·refine ⟨Ph codes,(Ph codes).sum,?_,⟨rfl,fun k hk=>(hpos k hk).1,hlen,by omega,by omega⟩⟩
  have:((((codes.take 8).map fun c=>1 + (c % 6).toNat).sum:Nat):Int)=(((Ph codes).sum:Nat):Int):=rfl
  rw [this,if_neg (by simpa using h0)]
  rfl
theorem PZ (x1:List (List (Int×Int))) (v1:List Int×Int) (n:Nat) (hv:v1.2=(n:Int)) (hn:n<=64):∀ (k i f:Nat) (c:List Int),i + k=n->k < f->c.length=n->(∀ j,j < i->c[j]? = some (j:Int))->Cm x1 v1 f c i=some (EY (List.range n))
 | 0,i,f + 1,c,h,_,hl,hc=>by
  unfold Cm
  rw [if_neg (by rw [hv]; simp; omega)]
  congr 1
  apply List.ext_getElem?
  intro j
  by_cases hj:j < n
  ·rw [hc j (by omega)]
   simp [EY,hj]
  ·rw [List.getElem?_eq_none (by omega),List.getElem?_eq_none (by simp [EY]; omega)]
 | k + 1,i,f + 1,c,h,hf,hl,hc=>by
  have ih:=PZ x1 v1 n hv hn k (i + 1) f (c.set i (i:Int)) (by omega) (by omega) (by simpa using hl) (fun j hj=>by
   by_cases e:i=j
   ·subst e; rw [List.getElem?_set_self (by omega)]
   ·rw [List.getElem?_set_ne e]; exact hc j (by omega))
  unfold Cm
  rw [if_pos (by rw [hv]; simp; omega),Gz (show i < c.length by omega)]
  simp only [OS]
  rw [La (by omega),Int.toNat_natCast,ih]
/-- Orders of n guests. -/
structure Ord (n:Nat) (o:List Nat):Prop where
 len:o.length=n
 perm:o.Perm (List.range n)
theorem Pb (x1:List (List (Int×Int))) (v1:List Int×Int) (c12:Int) (n:Nat) (hv:v1.2=(n:Int)) (hn1:1<=n) (v14 ys:List (Int×Int)) (hy:(v14.take (mnI (v14.length:Int) 20).toNat).drop (0:Int).toNat=ys) (hyl:ys.length<=20) (hc:∀ p ∈ ys,(0<=p.1/\p.1<=255)/\0<=p.2/\p.2<=255) (c17:List (List (List Int))):∀ (r pre:List (Int×Int)) (f:Nat) (o:List Nat),ys=pre++r->r.length < f->Ord n o->∃ o',Co x1 v1 c12 v14 f (EY o) c17 pre.length=some (EY o',c17)/\Ord n o'
 | [],pre,f + 1,o,h,_,ho=>by
  refine ⟨o,?_,ho⟩
  unfold Co
  rw [hy,if_neg (by rw [h]; simp)]
 | p::r,pre,f + 1,o,h,hf,ho=>by
  obtain ⟨⟨p1,p2⟩,p3,p4⟩:=hc p (by rw [h]; simp)
  have hp:pre.length < ys.length:=by rw [h]; simp
  have hn0:¬ v1.2=0:=by omega
  have ix:∀ x:Int,0<=x->x<=255->∃ a:Nat,a < n/\(wr .i64 x).tmod v1.2=(a:Int):=fun x h0 h1=>by
   rw [IT (by omega) (by omega),hv,Int.tmod_eq_emod_of_nonneg h0]
   have b1:=Int.emod_nonneg x (show (n:Int)≠0 by omega)
   have b2:=Int.emod_lt_of_pos x (show (0:Int) < n by omega)
   exact ⟨(x % (n:Int)).toNat,by omega,by omega⟩
  obtain ⟨a,ha,ea⟩:=ix p.1 p1 p2
  obtain ⟨b,hb,eb⟩:=ix p.2 p3 p4
  have hla:a < o.length:=by rw [ho.len]; exact ha
  have hlb:b < o.length:=by rw [ho.len]; exact hb
  have hI:∀ (l:List Nat) (j:Nat) (hj:j < l.length),idx (EY l) (j:Int)=some ((l[j]:Nat):Int):=fun l j hj=>by
   have hj':j < (EY l).length:=by rw [EZ]; exact hj
   rw [Gz hj']
   simp [EY]
  have hS:∀ (l:List Nat) (j v:Nat),(EY l).set j (v:Int)=EY (l.set j v):=fun l j v=>by
   simp [EY,List.map_set]
  have ho':Ord n ((o.set a o[b]).set b o[a]):=⟨by simp [ho.len],(List.set_set_perm hla hlb).trans ho.perm⟩
  obtain ⟨o',e1,e2⟩:=Pb x1 v1 c12 n hv hn1 v14 ys hy hyl hc c17 r (pre++[p]) f _ (by rw [h]; simp) (by simp at hf; omega) ho'
  refine ⟨o',?_,e2⟩
  unfold Co
  rw [hy,if_pos (by rw [h]; simp; omega),show idx ys (pre.length:Int)=some p by rw [h]; exact Eo pre p r]
  simp only [OS]
  rw [if_neg hn0,if_neg hn0,ea,eb,hI o b hlb,hI o a hla]
  simp only [OS]
  rw [Int.toNat_natCast,hS]
  have hlb':b < (o.set a o[b]).length:=by simpa using hlb
  rw [hI _ b hlb']
  simp only [OS]
  rw [Int.toNat_natCast,hS,La (by omega)]
  have a3:((pre.length + 1:Nat):Int)=((pre++[p]).length:Int):=by simp
  rw [a3]
  exact e1
/-- The tables of an order, of these sizes. -/
def Le (o:List Nat):List Nat->Nat->List (List Nat)
 | [],_=>[]
 | k::sz,i=>((o.take (i + k)).drop i)::Le o sz (i + k)
theorem Pc (x1:List (List (Int×Int))) (v1:List Int×Int) (c12:Int) (r29:List Int×List (List (List Int))) (o:List Nat) (hr:r29.1=EY o) (sz:List Nat) (hv:v1.1=EY sz) (hsz:∀ k ∈ sz,1<=k) (hsl:sz.length<=8) (hol:o.length<=48):∀ (r pre:List Nat) (f i:Nat) (out:List (List Nat)),sz=pre++r->r.length < f->i + r.sum=o.length->out.length<=pre.length->Cp x1 v1 c12 r29 f (Jq out) i pre.length=some (Jq (out++Le o r i))
 | [],pre,f + 1,i,out,h,_,_,_=>by
  unfold Cp
  rw [hv,if_neg (by rw [EZ,h]; simp)]
  simp [Le]
 | k::r,pre,f + 1,i,out,h,hf,hs,ho=>by
  have hk:=hsz k (by rw [h]; simp)
  have hp:pre.length < sz.length:=by rw [h]; simp
  rw [List.sum_cons] at hs
  have ih:=Pc x1 v1 c12 r29 o hr sz hv hsz hsl hol r (pre++[k]) f (i + k) (out++[(o.take (i + k)).drop i]) (by rw [h]; simp) (by simp at hf; omega) (by omega) (by simp; omega)
  have e1:wr .i64 ((i:Int) + (k:Int))=((i + k:Nat):Int):=by rw [IT (by omega) (by omega)]; simp
  have hpk:Go.Proofs.YteidjjolfapemaaDoor.G0 (i:Int) ((i + k:Nat):Int) (EY o).length=true:=by
   simp only [G0,Ce,Bool.and_eq_true,decide_eq_true_eq,EZ]; omega
  have ht:((EY o).take (i + k)).drop i=EY ((o.take (i + k)).drop i):=by simp [EY,List.map_take,List.map_drop]
  unfold Cp
  rw [hv,if_pos (by rw [EZ,h]; simp; omega),show idx (EY sz) (pre.length:Int)=some (k:Int) by rw [h]; exact O2 pre k r]
  simp only [OS]
  rw [e1,hr,if_pos hpk,Int.toNat_natCast,Int.toNat_natCast,ht,if_pos (C7 (by omega) (by rw [EZ,List.length_drop,List.length_take]; omega)),if_pos (C7 (by omega) (by rw [Mt]; omega)),La (by omega)]
  have a1:Jq out++[EY ((o.take (i + k)).drop i)]=Jq (out++[(o.take (i + k)).drop i]):=by simp [Jq]
  have a3:((pre.length + 1:Nat):Int)=((pre++[k]).length:Int):=by simp
  rw [a1,a3,ih]
  simp [Le]
theorem MM {o:List Nat}:∀ (sz:List Nat) (i:Nat),i + sz.sum=o.length->(∀ k ∈ sz,1<=k)->(Le o sz i).map List.length=sz/\(∀ t ∈ Le o sz i,t.length≠0)/\(Le o sz i).flatten=o.drop i
 | [],i,h,_=>by
  refine ⟨rfl,fun t ht=>by simp [Le] at ht,?_⟩
  simp at h
  simp [Le,h]
 | k::sz,i,h,hp=>by
  rw [List.sum_cons] at h
  obtain ⟨a,b,c⟩:=MM (o:=o) sz (i + k) (by omega) fun j hj=>hp j (by simp [hj])
  have hk:=hp k (by simp)
  have hl:((o.take (i + k)).drop i).length=k:=by rw [List.length_drop,List.length_take]; omega
  refine ⟨by simp only [Le,List.map_cons,a,hl],fun t ht=>?_,?_⟩
  ·simp only [Le] at ht
   rcases List.mem_cons.1 ht with rfl | ht
   ·rw [hl]; omega
   ·exact b t ht
  ·simp only [Le,List.flatten_cons,c]
   rw [List.drop_take,Nat.add_sub_cancel_left,<-List.drop_drop,List.take_append_drop]
theorem Pa (x1:List (List (Int×Int))) (hx1:∀ l ∈ x1,l.length<=140737488355328/\∀ p ∈ l,(0<=p.1/\p.1<=255)/\0<=p.2/\p.2<=255) (v1:List Int×Int) (n:Nat) (sz:List Nat) (hv:v1=(EY sz,(n:Int))) (hs:RT sz n) (ys:List (List (Int×Int))) (hy:(x1.take (mnI (x1.length:Int) 10).toNat).drop (0:Int).toNat=ys) (hyl:ys.length<=10) (hym:∀ l ∈ ys,l ∈ x1):∀ (r pre:List (List (Int×Int))) (f:Nat) (o:List Nat) (out:List (List (List Nat))),ys=pre++r->r.length < f->Ord n o->out.length=pre.length->(∀ ev ∈ out,Evn n sz ev)->∃ out',Cn x1 v1 f (EY o) (Hv out) pre.length=some (Hv out')/\(∀ ev ∈ out',Evn n sz ev)/\out'.length=ys.length
 | [],pre,f + 1,o,out,h,_,_,hl,hev=>by
  refine ⟨out,?_,hev,by rw [hl,h]; simp⟩
  unfold Cn
  rw [hy,if_neg (by rw [h]; simp)]
 | l::r,pre,f + 1,o,out,h,hf,ho,hl,hev=>by
  obtain ⟨l1,l2⟩:=hx1 l (hym l (by rw [h]; simp))
  have hp:pre.length < ys.length:=by rw [h]; simp
  obtain ⟨k1,k2⟩:=Ps l 20 20 rfl l1
  have hn1:=hs.n1
  have hn48:=hs.n48
  have hs8:=hs.len
  obtain ⟨o',e1,e2⟩:=Pb x1 v1 pre.length n (by rw [hv]) hs.n1 l (l.take 20) k2 (by simp; omega) (fun p hp=>l2 p (List.mem_of_mem_take hp)) (Hv out) (l.take 20) [] 100000 o rfl (by simp; omega) ho
  rw [show ((([]:List (Int×Int)).length:Nat):Int)=0 from rfl] at e1
  have h4:=Pc x1 v1 pre.length (EY o',Hv out) o' rfl sz (by rw [hv]) hs.pos hs8 (by rw [e2.len]; exact hn48) sz [] 100000 0 [] rfl (by omega) (by rw [e2.len,hs.sum]; omega) (by simp)
  rw [show Jq []=[] from rfl,show ((0:Nat):Int)=0 from rfl,show ((([]:List Nat).length:Nat):Int)=0 from rfl,List.nil_append] at h4
  obtain ⟨c1,c2,c3⟩:=MM (o:=o') sz 0 (by rw [e2.len,hs.sum]; omega) hs.pos
  have hevn:Evn n sz (Le o' sz 0):=⟨c1,c2,fun j=>by
   rw [c3,List.drop_zero,e2.perm.count_eq,List.count_range]⟩
  obtain ⟨out',g1,g2,g3⟩:=Pa x1 hx1 v1 n sz hv hs ys hy hyl hym r (pre++[l]) f o' (out++[Le o' sz 0]) (by rw [h]; simp) (by simp at hf; omega) e2 (by simp [hl]) (fun ev he=>by
   rcases List.mem_append.1 he with he | he
   ·exact hev ev he
   ·rw [List.mem_singleton.1 he]; exact hevn)
  refine ⟨out',?_,g2,g3⟩
  unfold Cn
  rw [hy,if_pos (by rw [h]; simp; omega),show idx ys (pre.length:Int)=some l by rw [h]; exact Eo pre l r]
  simp only [OS]
  rw [if_pos k1,e1]
  simp only [OS]
  rw [h4]
  simp only [OS]
  rw [if_pos (C7 (by omega) (by rw [Hn]; omega)),La (by omega)]
  have a1:Hv out++[Jq (Le o' sz 0)]=Hv (out++[Le o' sz 0]):=by simp [Hv]
  have a3:((pre.length + 1:Nat):Int)=((pre++[l]).length:Int):=by simp
  rw [a1,a3]
  exact g1
/-- What Made returns. -/
structure Qe (s:List (List (List Nat))) (sz:List Nat) (n:Nat):Prop where
 sz_:RT sz n
 ev:∀ ev ∈ s,Evn n sz ev
 len:s.length<=10
theorem QG (codes:List Int) (hl:codes.length<=140737488355328) (hc:∀ c ∈ codes,0<=c/\c<=255) (swaps:List (List (Int×Int))) (hsl:swaps.length<=140737488355328) (hx1:∀ l ∈ swaps,l.length<=140737488355328/\∀ p ∈ l,(0<=p.1/\p.1<=255)/\0<=p.2/\p.2<=255):∃ s sz n,Do codes swaps=some (Hv s,EY sz,((n:Nat):Int))/\Qe s sz n:=by
 obtain ⟨sz,n,h1,hs⟩:=PG codes hl hc
 obtain ⟨k1,k2⟩:=Ps swaps 10 10 rfl hsl
 have hn1:=hs.n1
 have hn48:=hs.n48
 have m1:=PZ swaps (EY sz,(n:Int)) n rfl (by omega) n 0 100000 (List.replicate n 0) (by omega) (by omega) (by simp) (fun j hj=>by omega)
 rw [show ((0:Nat):Int)=0 from rfl] at m1
 obtain ⟨s,g1,g2,g3⟩:=Pa swaps hx1 (EY sz,(n:Int)) n sz rfl hs (swaps.take 10) k2 (by simp; omega) (fun l hl=>List.mem_of_mem_take hl) (swaps.take 10) [] 100000 (List.range n) [] rfl (by simp; omega) ⟨by simp,List.Perm.refl _⟩ rfl (fun ev he=>by cases he)
 rw [show Hv []=[] from rfl,show ((([]:List (List (Int×Int))).length:Nat):Int)=0 from rfl] at g1
 refine ⟨s,sz,n,?_,hs,g2,by rw [g3]; simp; omega⟩
 have hmk:LI 8 (n:Int)=true:=by
  simp only [LI,Bool.and_eq_true,decide_eq_true_eq]; omega
 unfold Do
 rw [h1]
 simp only [OS]
 rw [if_pos hmk,Int.toNat_natCast,m1]
 simp only [OS]
 rw [if_pos k1,g1]
 rfl
end Go.Proofs.YteidjjolfapemaaDoor
