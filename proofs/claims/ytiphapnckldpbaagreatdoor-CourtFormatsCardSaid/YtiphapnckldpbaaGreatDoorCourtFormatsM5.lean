/- Lemmas for the proof. -/
import Derived.Test.YtiphapnckldpbaaGreatDoorCourtFormatsM1
import Derived.Test.YtiphapnckldpbaaGreatDoorCourtFormatsM2
import Derived.Test.YtiphapnckldpbaaGreatDoorCourtFormatsM3
import Derived.Test.YtiphapnckldpbaaGreatDoorCourtFormatsM4
import Derived.Laws.BytesArg
set_option maxHeartbeats 4000000
set_option maxRecDepth 100000
namespace Go.Proofs.YtiphapnckldpbaaGreatDoor
open Go.RowKit
def isT (r:Option (AV×Hp)):Bool:=match r with
 | some (.v (.bool true),_)=>true
 | _=>false
theorem SK {r:Option (AV×Hp)}(h:isT r=true):∃ h',r=some (.v (.bool true),h'):=by
 unfold isT at h
 split at h
 ·exact ⟨_,rfl⟩
 ·cases h
set_option maxRecDepth 1000000 in
theorem TD:isT (Od E13 3000 17 [] [])=true:=by kernel_rfl
theorem Qj:∃ h,Od E13 3000 17 [] []=some (.v (.bool true),h):=SK TD
theorem Pf (w:World):Ret Tryz.prog 17 #[] w fun v w'=>v = .bool true/\w.grownBy w' none:=by
 obtain ⟨h,e⟩:=Qj
 exact RF (E:=E13) (Z:=fun _=>False) (us:=[]) S4 e (fun c hc=>hc.elim) (fun g x h=>by cases h) .nil
theorem Sq {w:World}{Z:Nat->Prop}:VR w Z [] (.v (.bool true)) (.bool true):= .v rfl
def I2:Option Bool:=some true
def LZ:Cs Unit:=csN
def La (b:Bool):AV:=cdB.enc b
def Mp:List AV->Option AV:=EN LZ (fun _=>I2) La
theorem Jq:XOk 17 Mp:=by
 refine ⟨⟨Tryz.call17⟩,fun xs x h w Z us _ _ hv=>?_⟩
 obtain ⟨a,ha,h⟩:=OB h
 obtain ⟨b,hb,rfl⟩:=Option.map_eq_some_iff.1 h
 have hb:=OI hb
 subst hb
 have:xs=[]:=by
  cases xs with
  | nil=>rfl
  | cons x xs=>cases ha
 subst this
 have:us=[]:=by have:=hv.len; simpa using this
 subst this
 exact Ret.mono (Pf w) fun v w' h=>⟨h.2,by rw [h.1]; exact Sq⟩
/-- The first n blocks are given up. -/
def PJ:Nat->Hp->Hp
 | 0,h=>h
 | n + 1,h=>(PJ n h).set n none
theorem Om {w:World}{Z:Nat->Prop}{R:List RI}{h:Hp}(hh:HR w Z R h):∀ n,HR w Z R (PJ n h)
 | 0=>hh
 | n + 1=>((Om hh n).kill n).1
theorem NN {h:Hp}:∀ {n b:Nat}{B:Blk},(PJ n h)[b]? = some (some B)->n<=b/\h[b]? = some (some B)
 | 0,b,B,e=>⟨Nat.zero_le _,e⟩
 | n + 1,b,B,e=>by
  unfold PJ at e
  rw [List.getElem?_set] at e
  split at e
  ·split at e <;> cases e
  ·next hne =>
   obtain ⟨h1,h2⟩:=NN e
   exact ⟨by omega,h2⟩
def RunDX (E:Env) (ops:Array Oper) (T:Nat) (n0 k:Nat) (rest:List Oper) (s:St) (K:St->Prop):Prop :=
 ∀ (base:Bs) (Q:Act->World->Prop) (w0:World) (Z:Nat->Prop) (R0:List RI) (h0:Hp) (a:Act) (w:World) (R:List RI),HR w0 Z R0 h0->n0=h0.length->SR E base w Z R s a->w0.grownBy w none->Step w0 Z R0 h0 w Z R s.hp->(∀ (b:Nat) (B:Option Blk),h0[b]? = some B->s.hp[b]? = some B)->(∀ j,rest[j]? = ops[k + j]?) ->
  (∀ s' a' w' Z' R',K s'->SR E base w' Z' R' s' a'->StepW w0 Z R0 h0 w' Z' R' s'.hp->Q a' w')->FX E.P ops (fun w'=>w0.grownBy w' none) (C4 ops T) T Q k rest a w
section
variable {E:Env}{cx:Cx}{ops:Array Oper}{pre rest rest':List Oper}{s s1:St}{K:St->Prop}{n n0 k T:Nat}{l:List (Nat×AV)}{hp hp':Hp}{Q:Ex->St->Prop}{id:Nat}{fid:FuncId}
theorem RunDX.done (hr:rest=[]) (kk:K s):RunDX E ops T n0 k rest s K:=by
 subst hr
 exact fun base Q w0 Z R0 h0 a w R _ _ sr hgr st _ _ q=>⟨fun _=>hgr,q s a w Z R kk sr st.w⟩
theorem IU (hT:T=k) (h:RunS E ops rest s K):RunDX E ops T n0 k rest s K:=by
 subst hT
 intro base Q w0 Z R0 h0 a w R _ _ sr hgr st _ hops q
 exact IK (h base Q a w Z R sr fun s' a' w' Z' R' hK sr' st'=>q s' a' w' Z' R' hK sr' (st.w.trans st')) (Nat.le_refl _) (fun _=>hgr) (fun j hj=>IY hj) hops
theorem G8 (hE:EnvOk E):∀ {pre:List Oper}{s:St}{k:Nat},(pre.all fun o=>!isW o.op)=true->k + pre.length<=T->opsD E (evC E 0) ⟨none,false⟩ ops n0 pre s=some s1->RunDX E ops T n0 (k + pre.length) rest s1 K->RunDX E ops T n0 k (pre++rest) s K
 | [],s,k,_,_,e,kk=>by injection e with e; subst e; exact kk
 | o::pre,s,k,hp,hT,e,kk=>by
  intro base Q w0 Z R0 h0 a w R hh0 hn0 sr hgr st hpre hops q
  simp only [List.all_cons,Bool.and_eq_true,Bool.not_eq_true'] at hp
  obtain ⟨hW,hp⟩:=hp
  have hok:ops[k]? = some o:=by have:=hops 0; simpa using this.symm
  have hops':∀ j,(pre++rest)[j]? = ops[k + 1 + j]?:=fun j=>by have:=hops (j + 1); simpa [Nat.add_assoc,Nat.add_comm 1 j] using this
  have hk1:k + 1 + pre.length=k + (o::pre).length:=by simp; omega
  have kk':RunDX E ops T n0 (k + 1 + pre.length) rest s1 K:=by rw [hk1]; exact kk
  have hT':k + 1 + pre.length<=T:=by rw [hk1]; exact hT
  have hkT:¬ T<=k:=by omega
  show FX E.P ops _ _ _ Q k (o::(pre++rest)) a w
  refine ⟨fun _=>hgr,?_⟩
  unfold opsD at e
  rw [if_neg (by rw [hW]; simp)] at e
  split at e
  ·cases e
  ·next hw =>
   rw [if_neg (by rw [wantedA_eq sr hw]; simp)]
   exact G8 hE hp hT' e kk' base Q w0 Z R0 h0 _ w R hh0 hn0 (sr.put undef_vr) hgr st hpre hops' q
  ·next hw =>
   rw [if_pos (wantedA_eq sr hw)]
   have hρ:∀ o x,opA E s.fr o=some x->VR w Z R x (a.eval o):=fun o x e=>opA_vr sr o x e
   split at e
   ·next x hx =>
    split at e
    ·next hld =>
     have hq:=K3 hx
     rw [if_neg (by rw [II hok hq hkT]; simp)]
     obtain ⟨u,hu,hrun⟩:=evOpQ_sound sr.hh hρ hx
     have hquiet:∃ u,VR w Z R x u/\QuietAt E.P (Cf (fun w'=>w0.grownBy w' none) o) o u a:=by
      cases hl:NM o.op with
      | false=>exact ⟨u,hu,fun w' _=>hrun w' fun h=>by rw [hl] at h; cases h⟩
      | true =>
       obtain ⟨u1,hu1,hq1⟩:=GB hh0 sr hgr st hpre hl (by rw [<-hn0]; exact hld) hx
       exact ⟨u1,hu1,hq1.up (I1 hl)⟩
     obtain ⟨u,hu,hquiet⟩:=hquiet
     exact ⟨u,hquiet,G8 hE hp hT' e kk' base Q w0 Z R0 h0 _ w R hh0 hn0 (sr.put hu) hgr st hpre hops' q⟩
    ·cases e
   ·split at e
    ·next x h' hx =>
     have hq:=Hf hx
     rw [if_pos (D8 hok hq)]
     obtain ⟨u,w',R',h1,h2,h3,h4,h5⟩:=evOpN_sound hρ sr.hh hx
     exact Ip h1 (G8 hE hp hT' e kk' base Q w0 Z R0 h0 _ w' R' hh0 hn0 ((sr.step h2 h4).put h3) (DY hgr h5) (st.trans h4) (fun b B hb=>IG hx (hpre b B hb)) hops' q)
    ·split at e
     ·next f args tys ho =>
      split at e
      ·next fv xs hf hxs =>
       split at e
       ·next r hr =>
        obtain ⟨x,h'⟩:=r
        have hq:isQ o.op=false:=by rw [ho]; rfl
        rw [if_pos (D8 hok hq)]
        obtain ⟨g,uf,uc,hva,hcl,hret⟩:=ES hE (code_sound hE 0).1 (hρ _ _ hf) (opds_vr hρ hxs) sr.hh sr.gl hr
        unfold Lw
        rw [EH (uf:=uf) (uc:=uc) ho hva rfl hcl w]
        refine Ret.mono hret fun v w' hS=>?_
        obtain ⟨hg1,R',k1,k2,k3⟩:=hS
        exact G8 hE hp hT' e kk' base Q w0 Z R0 h0 _ w' R' hh0 hn0 ((sr.step k1 k3).put k2) (DY hgr hg1) (st.trans k3) (fun b B hb=>H5 hr (hpre b B hb)) hops' q
       ·cases e
      ·cases e
     ·cases e
theorem EZ (hE:EnvOk E) (m:Nat){s:St}(l:List (Nat×AV)) (hp:Hp) (hw:(((rest.take m).all fun o=>!isW o.op)&&Nat.ble (k + (rest.take m).length) T)=true) (h:OE (opsD E (evC E 0) ⟨none,false⟩ ops n0 (rest.take m) s) l=some (n,xs2 l,hp)) (kk:RunDX E ops T n0 (k + (rest.take m).length) (rest.drop m) ⟨Fr n l,hp⟩ K):RunDX E ops T n0 k rest s K:=by
 obtain ⟨fr,h1,h2,h3⟩:=Ic h
 rw [Bool.and_eq_true] at hw
 have:=G8 (k:=k) (T:=T) (pre:=rest.take m) (rest:=rest.drop m) hE hw.1 (Nat.le_of_ble_eq_true hw.2) h1 (fun base Q w0 Z R0 h0 a w R a1 a2 sr a5 a6 a7 a8 q=>kk base Q w0 Z R0 h0 a w R a1 a2 (sr.forget h2 h3) a5 a6 a7 a8 q)
 rwa [List.take_append_drop] at this
theorem RunDX.one (hE:EnvOk E){s s1:St}{o:Oper}(hr:rest=o::rest') (hW:(!isW o.op&&Nat.blt k T)=true) (h:opsD E (evC E 0) ⟨none,false⟩ ops n0 [o] s=some s1) (kk:RunDX E ops T n0 (k + 1) rest' s1 K):RunDX E ops T n0 k rest s K:=by
 subst hr
 rw [Bool.and_eq_true] at hW
 exact G8 (k:=k) hE (pre:=[o]) (by simpa using hW.1) (by have:=Nat.le_of_ble_eq_true hW.2; simpa using this) h kk
/-- An append to a block that was made in this region. -/
theorem RunDX.append (_hE:EnvOk E){o:Oper}{x:AV}{d:Nat}{hM:Hp}(hr:rest=o::rest') (hw:BS ops (Fr n l) o=some true) (hd:o.dst=some d) (hq:isQ o.op=false) (h:JS E.P (opA E (Fr n l)) hp o.op=some (x,hp')) (hm:JS E.P (opA E (Fr n l)) (PJ n0 hp) o.op=some (x,hM)) (hpr:hp'.take n0=hp.take n0) (kk:RunDX E ops T n0 (k + 1) rest' ⟨Fr n ((d,x)::l),hp'⟩ K):RunDX E ops T n0 k rest ⟨Fr n l,hp⟩ K:=by
 subst hr
 intro base Q w0 Z R0 h0 a w R hh0 hn0 sr hgr st hpre hops q
 have hok':ops[k]? = some o:=by have:=hops 0; simpa using this.symm
 have hops':∀ j,rest'[j]? = ops[k + 1 + j]?:=fun j=>by have:=hops (j + 1); simpa [Nat.add_assoc,Nat.add_comm 1 j] using this
 refine ⟨fun _=>hgr,?_⟩
 rw [if_pos (wantedA_eq sr hw),if_pos (D8 hok' hq)]
 have hρ:∀ o x,opA E (Fr n l) o=some x->VR w Z R x (a.eval o):=fun o x e=>opA_vr sr o x e
 obtain ⟨u,w',R',h1,h2,h3,h4⟩:=evOpW_sound (o:=o) hρ sr.hh h
 obtain ⟨u2,w2,R2,g1,g2,g3,g4⟩:=evOpW_sound (o:=o) hρ (Om sr.hh n0) hm
 rw [h1] at g1
 injection g1 with _ e2
 subst e2
 -- the blocks of before stay
 have hown:∀ c,own R (PJ n0 hp) c->w0.heap.size<=c:=fun c ⟨b,B,r,k1,k2,k3,k4⟩=>by
  obtain ⟨hb,k1⟩:=NN k1
  rcases st.own_ c ⟨b,B,r,k1,k2,k3,k4⟩ with ⟨b0,B0,r0,q1,q2,q3,q4⟩ | h
  ·have hlt:b0 < h0.length:=(List.getElem?_eq_some_iff.1 q1).1
   have:=sr.hh.inj b b0 B B0 r r0 k1 k2 (hpre b0 _ q1) q2 k3 (st.r b0 r0 q3) (by rw [k4,q4])
   omega
  ·exact h
 have hgr2:w0.grownBy w' none:=⟨g4.os.trans hgr.os,g4.tape.trans hgr.tape,g4.output.trans hgr.output,Nat.le_trans hgr.size g4.size,fun c hc _=>by
  rw [g4.block c (Nat.lt_of_lt_of_le hc hgr.size) fun ho=>by have:=hown c ho; omega]
  exact hgr.block c hc (by simp)⟩
 refine Ip h1 ?_
 have sr':=(sr.step h2 h4).put (d:=o.dst) h3
 rw [hd,show I6 (⟨Fr n l,hp⟩:St).fr (some d) x=Fr n ((d,x)::l) from CO n l d _] at sr'
 rw [hd]
 exact kk base Q w0 Z R0 h0 _ w' R' hh0 hn0 sr' hgr2 (st.trans h4) (fun b B hb=>by
  have hlt:b < n0:=by rw [hn0]; exact (List.getElem?_eq_some_iff.1 hb).1
  have e:=congrArg (fun l=>l[b]?) hpr
  simp only [List.getElem?_take,hlt,if_true] at e
  show hp'[b]? = _
  rw [e]; exact hpre b B hb) hops' q
end
section
variable {P:Program}{ops:Array Oper}{C:World->Prop}{Q:Act->World->Prop}{loud:Nat->Bool}{T:Nat}
/-- What a quiet operation yields may come ahead of a loud one. -/
theorem K8 {n i j fuel:Nat}{oi oj:Oper}{v:Value}{listed:Array Bool}{a:Act}{w:World}(ht:Hj ops loud T n) (hi:ops[i]? = some oi) (hoj:ops[j]? = some oj) (hsel:∀ (j:Nat) (o:Oper) cs b,ops[j]? = some o->o.op≠ .select cs b) (hcl:Closed ops listed) (hsz:listed.size=ops.size)
  (ap1:∀ d,oi.dst=some d->d ∉ oj.looksAt ops) (ap2:∀ d,oi.dst=some d->oj.dst≠some d) (ap3:∀ d,oj.dst=some d->d ∉ oi.looksAt ops) (hr:i ∈ Region.ready .any ops listed) (hj:j ∈ Region.ready .any ops listed) (hji:j≠i) (hlj:loud j=false) (hya:YieldsM P ops C oj v a)
  (H:mOp P ops C loud i (wpM P ops C loud T Q (fuel + 1) (listed.setIfInBounds i true)) a w):mOp P ops C loud i (wpM P ops C loud T Q fuel ((listed.setIfInBounds j true).setIfInBounds i true)) (a.put oj.dst v) w:=by
 have ap2':∀ d,oj.dst=some d->oi.dst≠some d:=fun d hd hd'=>ap2 d hd' hd
 rw [OA hi ap3 ap2' (fun cs b=>hsel i oi cs b hi)]
 have hG:∀ u,YieldsM P ops C oj v (a.put oi.dst u):=fun u=>hya.same (execOp_put oj (fun cs b=>hsel j oj cs b hoj) a oi.dst u ap1) (wanted_put oj a oi.dst u ap1)
 have hr2:=ready_mono (md:= .any) (ops:=ops) hj hji
 refine Et (fun a' w'' h2=>?_) (N9 hi hG H)
 obtain ⟨v',hy',h3⟩:=CT hoj hlj (h2.2.2.2 j hr2)
 rw [Ij (Ry ht (hcl.set hr) (by simpa using hsz) hoj hlj (mem_ready.1 hr2).1 h2.2.c) h2.1 hy',Array.setIfInBounds_comm _ _ hji]
 exact h3
/-- Two loud operations that may come up now: one of them is the first loud one, if every other stands behind the one. -/
theorem QT {n i i2:Nat}{oi oi2:Oper}(ht:Hj ops loud T n) (hi:ops[i]? = some oi) (hi2:ops[i2]? = some oi2) (hsel:∀ (j:Nat) (o:Oper) cs b,ops[j]? = some o->o.op≠ .select cs b) :
  ∀ (fuel:Nat) (listed:Array Bool) (a:Act) (w:World),(∀ j,j < ops.size->j≠i->j≠i2->loud j=true->listed.getD j true=false->Ec ops n j i=true)->Closed ops listed->listed.size=ops.size->(M0 ops loud T listed->C w) ->
   (∀ j oj,ops[j]? = some oj->j≠i->listed.getD j true=false->(∀ e ∈ oj.after,Region.binds .any e=true->e.on≠i)->oi.apart ops oj=true) ->
   (∀ j oj,ops[j]? = some oj->j≠i2->listed.getD j true=false->(∀ e ∈ oj.after,Region.binds .any e=true->e.on≠i2)->oi2.apart ops oj=true) ->
   i ∈ Region.ready .any ops listed->i2 ∈ Region.ready .any ops listed ->
   mOp P ops C loud i (wpM P ops C loud T Q fuel (listed.setIfInBounds i true)) a w->mOp P ops C loud i2 (wpM P ops C loud T Q fuel (listed.setIfInBounds i2 true)) a w->wpM P ops C loud T Q (fuel + 1) listed a w:=by
 intro fuel
 induction fuel with
 | zero =>
  intro listed a w _ _ _ hC _ _ hr _ H H2
  refine ⟨hC,fun h=>(by rw [h] at hr; cases hr),fun j hj=>?_⟩
  by_cases hji:j=i
  ·subst hji; exact H
  ·obtain ⟨u,w',h1⟩:=Gc hi H
   have:=ready_mono hj hji
   rw [h1.2.1] at this
   cases this
 | succ fuel ih =>
  intro listed a w hT hcl hsz hC hfree hfree2 hr hr2 H H2
  refine ⟨hC,fun h=>(by rw [h] at hr; cases hr),fun j hj=>?_⟩
  by_cases hji:j=i
  ·subst hji; exact H
  by_cases hji2:j=i2
  ·subst hji2; exact H2
  obtain ⟨hjun,oj,hoj,hall⟩:=mem_ready.1 hj
  have notl:∀ {x:Nat} {ox:Oper},ops[x]? = some ox->x ∈ Region.ready .any ops listed->¬ listed.getD x false=true:=fun {x ox} hx hxr h1=>by
   have hun:=(mem_ready.1 hxr).1
   have hlt:x < ops.size:=(Array.getElem?_eq_some_iff.1 hx).1
   have h':x < listed.size:=by omega
   simp [h'] at hun h1; rw [hun] at h1; cases h1
  have hnl:=notl hi hr
  have hnl2:=notl hi2 hr2
  have hnot:∀ e ∈ oj.after,Region.binds .any e=true->e.on≠i:=fun e he hb heq=>hnl (by rw [<-heq]; exact hall e he hb)
  have hnot2:∀ e ∈ oj.after,Region.binds .any e=true->e.on≠i2:=fun e he hb heq=>hnl2 (by rw [<-heq]; exact hall e he hb)
  have hjlt:j < ops.size:=(Array.getElem?_eq_some_iff.1 hoj).1
  have hlj:loud j=false:=by
   cases hlj:loud j with
   | false=>rfl
   | true =>
    exact absurd (Gf hcl n j i (hT j hjlt hji hji2 hlj hjun) fun o ho e he hb=>by rw [hoj] at ho; injection ho with ho; subst ho; exact hall e he hb) hnl
  obtain ⟨ap1,ap2,ap3⟩:=Oper.apart_spec (hfree j oj hoj hji hjun hnot)
  obtain ⟨bp1,bp2,bp3⟩:=Oper.apart_spec (hfree2 j oj hoj hji2 hjun hnot2)
  have hun':∀ k,(listed.setIfInBounds j true).getD k true=false->listed.getD k true=false:=fun k hun=>by
   by_cases hjk:j=k
   ·subst hjk; exact hjun
   ·rw [getD_set_ne true hjk] at hun; exact hun
  have hCw:M0 ops loud T (listed.setIfInBounds j true)->C w:=fun hn=>hC fun k hTk hk hlk=>hun' k (hn k hTk hk hlk)
  obtain ⟨u,w',h1⟩:=Gc hi H
  obtain ⟨v,hy,_⟩:=CT hoj hlj (h1.2.2 j (ready_mono hj hji))
  have hya:YieldsM P ops C oj v a:=hy.same (execOp_put oj (fun cs b=>hsel j oj cs b hoj) _ oi.dst u ap1).symm (wanted_put oj _ oi.dst u ap1).symm
  refine hya.mOp hoj hlj ?_
  exact ih (listed.setIfInBounds j true) (a.put oj.dst v) w (fun k hk h1 h2 h3 h4=>hT k hk h1 h2 h3 (hun' k h4)) (hcl.set hj) (by simpa using hsz) hCw (fun k ok hk h1 h2 h3=>hfree k ok hk h1 (hun' k h2) h3) (fun k ok hk h1 h2 h3=>hfree2 k ok hk h1 (hun' k h2) h3) (ready_mono hr (Ne.symm hji)) (ready_mono hr2 (Ne.symm hji2))
   (K8 ht hi hoj hsel hcl hsz ap1 ap2 ap3 hr hj hji hlj hya H) (K8 ht hi2 hoj hsel hcl hsz bp1 bp2 bp3 hr2 hj hji2 hlj hya H2)
/-- As wpM_lex, from an operation on behind which the loud ones stand in one order. -/
theorem Ki (hs:Region.noSelect ops=true){n k0:Nat}(hsp:∀ k j,k0<=k->k < ops.size->j < ops.size->loud k=true->loud j=true->k < j->Ec ops n j k=true) (htl:Hj ops loud T n) (hTl:T < ops.size->loud T=true):∀ (l:List Oper) (k:Nat) (listed:Array Bool) (a:Act) (w:World),k0<=k->k + l.length=ops.size->(∀ j,l[j]? = ops[k + j]?) ->
  Region.lexFrom .any ops l.length k listed=true->Closed ops listed->listed.size=ops.size->(∀ j,j < k->listed.getD j true=true)->FX P ops C loud T Q k l a w->wpM P ops C loud T Q l.length listed a w
 | [],k,listed,a,w,_,hkl,_,hB,_,_,hlt,h=>by
  refine ⟨fun hn=>h.1 ?_,by simpa [Region.lexFrom] using hB,h.2⟩
  rcases Nat.lt_or_ge T k with h1 | h1
  ·exfalso
   have hTs:T < ops.size:=by simp at hkl; omega
   have h2:=hn T (Nat.le_refl _) hTs (hTl hTs)
   rw [hlt T h1] at h2
   cases h2
  ·exact h1
 | o::l,k,listed,a,w,hk0,hkl,hl,hB,hcl,hsz,hlt,h=>by
  have h0:ops[k]? = some o:=by simpa using (hl 0).symm
  have hk:k < ops.size:=(Array.getElem?_eq_some_iff.1 h0).1
  simp only [List.length_cons,Region.lexFrom,Bool.and_eq_true] at hB
  obtain ⟨⟨hr,hf⟩,hB'⟩:=hB
  have hr':k ∈ Region.ready .any ops listed:=by simpa using hr
  have rec_:∀ a w,FX P ops C loud T Q (k + 1) l a w->wpM P ops C loud T Q l.length (listed.setIfInBounds k true) a w:=fun a w hh =>
   Ki hs hsp htl hTl l (k + 1) _ a w (by omega) (by simp at hkl; omega) (fun j=>by have:=hl (j + 1); simpa [Nat.add_assoc,Nat.add_comm 1 j] using this) hB' (hcl.set hr') (by simpa using hsz) (fun j hj=>by
    by_cases hjk:k=j
    ·subst hjk
     have hlt':k < listed.size:=by omega
     simp [hlt']
    ·rw [getD_set_ne true hjk]; exact hlt j (by omega)) hh
  obtain ⟨hC,hh⟩:=h
  have hle:M0 ops loud T listed->k<=T:=fun hn=>by
   rcases Nat.lt_or_ge T k with h1 | h1
   ·exfalso
    have h2:=hn T (Nat.le_refl _) (by omega) (hTl (by omega))
    rw [hlt T h1] at h2
    cases h2
   ·exact h1
  have hst:mOp P ops C loud k (FX P ops C loud T Q (k + 1) l) a w:=by
   unfold mOp
   rw [h0]
   exact hh
  cases hlk:loud k with
  | false =>
   obtain ⟨v,hy,hK⟩:=CT h0 hlk hst
   exact HK h0 hlk (Region.noSelect_spec hs) l.length listed a w (fun hn=>hC (hle hn)) hcl hsz (Region.free_spec h0 hf) hr' hy (rec_ _ _ hK)
  | true =>
   refine Jn (n:=n) htl h0 (Region.noSelect_spec hs) l.length listed a w (fun j hj hjk hlj hun=>?_) hcl hsz (fun hn=>hC (hle hn)) (Region.free_spec h0 hf) hr' (Et rec_ hst)
   ·have hkj:k < j:=by
     rcases Nat.lt_trichotomy k j with h1 | h1 | h1
     ·exact h1
     ·exact absurd h1.symm hjk
     ·rw [hlt j h1] at hun; cases hun
    exact hsp k j hk0 hk hj hlk hlj hkj
/-- The walk, of which p and the operation behind it are taken in both orders. -/
def Tl (P:Program) (ops:Array Oper) (C:World->Prop) (loud:Nat->Bool) (T:Nat) (Q:Act->World->Prop) (p:Nat) (rest:List Oper) (a:Act) (w:World):Prop :=
 C w/\mOp P ops C loud p (fun a w=>C w/\mOp P ops C loud (p + 1) (FX P ops C loud T Q (p + 2) rest) a w) a w/\mOp P ops C loud (p + 1) (fun a w=>C w/\mOp P ops C loud p (FX P ops C loud T Q (p + 2) rest) a w) a w
def Jo (P:Program) (ops:Array Oper) (C:World->Prop) (loud:Nat->Bool) (T:Nat) (Q:Act->World->Prop) (p:Nat):Nat->List Oper->Act->World->Prop
 | _,[],_,_=>False
 | k,_::rest,a,w=>if k=p then Tl P ops C loud T Q p (rest.drop 1) a w else (k<=T->C w)/\mOp P ops C loud k (Jo P ops C loud T Q p (k + 1) rest) a w
/-- One of two operations is this pair. -/
def Q9 (ops:Array Oper) (loud:Nat->Bool) (T p:Nat):Bool :=
 ((List.range ops.size).all fun k=>!loud k||(List.range ops.size).all fun j=>!(decide (k < j)&&loud j)||(k==p&&j==p + 1)||Ec ops ops.size j k) &&
 ((List.range ops.size).all fun j=>!decide (T<=j)||(if loud j then (List.range ops.size).all fun i=>loud i||Dz ops i||Ec ops ops.size j i else Dz ops j&&decide (j≠T))) &&
 (decide (p + 2<=T)&&loud p&&loud (p + 1)&&match ops[p]?,ops[p + 1]? with
  | some o,some o2=>o2.apart ops o&&o2.after.all fun e=>!Region.binds .any e||e.on != p
  | _,_=>false)
structure RT (ops:Array Oper) (loud:Nat->Bool) (T p:Nat):Prop where
 sp:∀ k j,k < ops.size->j < ops.size->loud k=true->loud j=true->k < j->(k=p/\j=p + 1)\/Ec ops ops.size j k=true
 tl:Hj ops loud T ops.size
 tT:T < ops.size->loud T=true
 le:p + 2<=T
 l1:loud p=true
 l2:loud (p + 1)=true
 ap:∀ o o2,ops[p]? = some o->ops[p + 1]? = some o2->o2.apart ops o=true/\∀ e ∈ o2.after,Region.binds .any e=true->e.on≠p
theorem PM {p:Nat}(h:Q9 ops loud T p=true):RT ops loud T p:=by
 unfold Q9 at h
 simp only [Bool.and_eq_true] at h
 obtain ⟨⟨h1,h2⟩,⟨⟨h3,h4⟩,h5⟩,h6⟩:=h
 have htl:∀ j,T<=j->j < ops.size->(if loud j=true then (List.range ops.size).all (fun i=>loud i||Dz ops i||Ec ops ops.size j i)=true else (Dz ops j&&decide (j≠T))=true):=fun j hTj hj=>by
  have:=List.all_eq_true.1 h2 j (by simpa using hj)
  simp only [hTj,decide_true,Bool.not_true,Bool.false_or] at this
  split
  ·next hl=>rw [if_pos hl] at this; exact this
  ·next hl=>rw [if_neg hl] at this; exact this
 refine ⟨fun k j hk hj hlk hlj hkj=>?_,fun j hTj hj hlj i hi hli hfr=>?_,fun hT=>?_,of_decide_eq_true h3,h4,h5,fun o o2 ho ho2=>?_⟩
 ·have a1:=List.all_eq_true.1 h1 k (by simpa using hk)
  simp only [hlk,Bool.not_true,Bool.false_or] at a1
  have a2:=List.all_eq_true.1 a1 j (by simpa using hj)
  simp only [hkj,hlj,decide_true,Bool.and_self,Bool.not_true,Bool.false_or,Bool.or_eq_true,Bool.and_eq_true,beq_iff_eq] at a2
  exact a2
 ·have a1:=htl j hTj hj
  rw [if_pos hlj] at a1
  have a2:=List.all_eq_true.1 a1 i (by simpa using hi)
  simpa [hli,hfr] using a2
 ·cases hl:loud T with
  | true=>rfl
  | false =>
   have a1:=htl T (Nat.le_refl _) hT
   rw [if_neg (by rw [hl]; simp)] at a1
   simp at a1
 ·rw [ho,ho2] at h6
  simp only [Bool.and_eq_true,Array.all_eq_true_iff_forall_mem] at h6
  refine ⟨h6.1,fun e he hb=>?_⟩
  have:=h6.2 e he
  simpa [hb] using this
theorem O6 (hs : Region.noSelect ops = true) {p : Nat} (hp : RT ops loud T p) : ∀ (l : List Oper) (k : Nat) (listed : Array Bool) (a : Act) (w : World), k ≤ p → k + l.length = ops.size → (∀ j, l[j]? = ops[k + j]?) →
    Region.lexFrom .any ops l.length k listed = true → Closed ops listed → listed.size = ops.size → (∀ j, j < k → listed.getD j true = true) → Jo P ops C loud T Q p k l a w → wpM P ops C loud T Q l.length listed a w
  | [], _, _, _, _, _, _, _, _, _, _, _, h => h.elim
  | o :: l, k, listed, a, w, hkp, hkl, hl, hB, hcl, hsz, hlt, h => by
    have h0 : ops[k]? = some o := by simpa using (hl 0).symm
    have hk : k < ops.size := (Array.getElem?_eq_some_iff.1 h0).1
    simp only [List.length_cons, Region.lexFrom, Bool.and_eq_true] at hB
    obtain ⟨⟨hr, hf⟩, hB'⟩ := hB
    have hr' : k ∈ Region.ready .any ops listed := by simpa using hr
    have hsz' : (listed.setIfInBounds k true).size = ops.size := by simpa using hsz
    have hlt2 : ∀ {q : Nat} {ls : Array Bool}, q < ls.size → (∀ j, j < q → ls.getD j true = true) → ∀ j, j < q + 1 → (ls.setIfInBounds q true).getD j true = true := fun {q ls} hq hh j hj => by
      by_cases hjk : q = j
      · subst hjk; simp [hq]
      · rw [getD_set_ne true hjk]; exact hh j (by omega)
    have hlt' := hlt2 (ls := listed) (by omega) hlt
    have hnext : ∀ j, l[j]? = ops[k + 1 + j]? := fun j => by have := hl (j + 1); simpa [Nat.add_assoc, Nat.add_comm 1 j] using this
    unfold Jo at h
    by_cases hkpe : k = p
    · subst hkpe
      rw [if_pos rfl] at h
      obtain ⟨hC, hA, hB2⟩ := h
      -- the second operation
      match l, hkl, hnext, hB' with
      | [], hkl, _, _ => have := hp.le; have h1 : ops.size ≤ k + 1 := by simp at hkl; omega
                         exact absurd hp.l2 (by
                           have hTl := hp.tT
                           intro hl2
                           rcases Gc h0 hA with ⟨u, w', _, h3⟩
                           unfold mOp at h3
                           rw [Array.getElem?_eq_none (by omega)] at h3
                           exact h3)
      | o2 :: l2, hkl, hnext, hB' =>
        have h02 : ops[k + 1]? = some o2 := by simpa using (hnext 0).symm
        have hk2 : k + 1 < ops.size := (Array.getElem?_eq_some_iff.1 h02).1
        simp only [List.length_cons, Region.lexFrom, Bool.and_eq_true] at hB'
        obtain ⟨⟨hr2, hf2⟩, hB2'⟩ := hB'
        have hr2' : k + 1 ∈ Region.ready .any ops (listed.setIfInBounds k true) := by simpa using hr2
        obtain ⟨hap, hno⟩ := hp.ap o o2 h0 h02
        have hne : k ≠ k + 1 := by omega
        -- ready already ahead of the first
        have hr20 : k + 1 ∈ Region.ready .any ops listed := by
          obtain ⟨q1, oq, q2, q3⟩ := mem_ready.1 hr2'
          rw [h02] at q2
          injection q2 with q2
          subst q2
          refine mem_ready.2 ⟨by rw [getD_set_ne true hne] at q1; exact q1, o2, h02, fun e he hb => ?_⟩
          have := q3 e he hb
          rwa [getD_set_ne false (Ne.symm (hno e he hb))] at this
        have hfr1 := Region.free_spec h0 hf
        have hfr2 : ∀ j oj, ops[j]? = some oj → j ≠ k + 1 → listed.getD j true = false → (∀ e ∈ oj.after, Region.binds .any e = true → e.on ≠ k + 1) → o2.apart ops oj = true := fun j oj hj h1 h2 h3 => by
          by_cases hjk : j = k
          · subst hjk
            rw [h0] at hj
            injection hj with hj
            subst hj
            exact hap
          · exact Region.free_spec h02 hf2 j oj hj h1 (by rw [getD_set_ne true (Ne.symm hjk)]; exact h2) h3
        have hge : ∀ j, listed.getD j true = false → j ≠ k → j ≠ k + 1 → k + 1 < j := fun j hun h1 h2 => by
          rcases Nat.lt_or_ge j k with h | h
          · rw [hlt j h] at hun; cases hun
          · omega
        have hwait : ∀ j, j < ops.size → j ≠ k → j ≠ k + 1 → loud j = true → listed.getD j true = false → Ec ops ops.size j k = true ∧ Ec ops ops.size j (k + 1) = true := fun j hj h1 h2 h3 h4 => by
          have := hge j h4 h1 h2
          refine ⟨(hp.sp k j hk hj hp.l1 h3 (by omega)).resolve_left fun h => by omega, (hp.sp (k + 1) j hk2 hj hp.l2 h3 this).resolve_left fun h => by omega⟩
        have tail : ∀ a w, FX P ops C loud T Q (k + 2) l2 a w → wpM P ops C loud T Q l2.length ((listed.setIfInBounds k true).setIfInBounds (k + 1) true) a w := fun a w hh =>
          Ki hs (n := ops.size) (k0 := k + 2) (fun x j h1 h2 h3 h4 h5 h6 => (hp.sp x j h2 h3 h4 h5 h6).resolve_left fun h => by omega) hp.tl hp.tT l2 (k + 2) _ a w (Nat.le_refl _) (by simp at hkl; omega) (fun j => by rw [show k + 2 + j = k + 1 + (j + 1) by omega]; simpa using hnext (j + 1)) hB2' ((hcl.set hr').set hr2') (by simpa using hsz) (hlt2 (ls := listed.setIfInBounds k true) (by omega) hlt') hh
        refine QT (n := ops.size) hp.tl h0 h02 (Region.noSelect_spec hs) (l2.length + 1) listed a w (fun j hj h1 h2 h3 h4 => (hwait j hj h1 h2 h3 h4).1) hcl hsz (fun _ => hC) hfr1 hfr2 hr' hr20 (Et (fun a' w' hh => ?_) hA) (Et (fun a' w' hh => ?_) hB2)
        · have hun' : ∀ j, (listed.setIfInBounds k true).getD j true = false → listed.getD j true = false ∧ j ≠ k := fun j hun => by
            by_cases hjk : k = j
            · subst hjk
              have : k < listed.size := by omega
              simp [this] at hun
            · rw [getD_set_ne true hjk] at hun; exact ⟨hun, Ne.symm hjk⟩
          exact Jn (n := ops.size) hp.tl h02 (Region.noSelect_spec hs) l2.length (listed.setIfInBounds k true) a' w' (fun j hj h1 h2 h3 => (hwait j hj (hun' j h3).2 h1 h2 (hun' j h3).1).2) (hcl.set hr') hsz' (fun _ => hh.1) (Region.free_spec h02 hf2) hr2' (Et tail hh.2)
        · have hun' : ∀ j, (listed.setIfInBounds (k + 1) true).getD j true = false → listed.getD j true = false ∧ j ≠ k + 1 := fun j hun => by
            by_cases hjk : k + 1 = j
            · subst hjk
              have : k + 1 < listed.size := by omega
              simp [this] at hun
            · rw [getD_set_ne true hjk] at hun; exact ⟨hun, Ne.symm hjk⟩
          refine Jn (n := ops.size) hp.tl h0 (Region.noSelect_spec hs) l2.length (listed.setIfInBounds (k + 1) true) a' w' (fun j hj h1 h2 h3 => (hwait j hj h1 (hun' j h3).2 h2 (hun' j h3).1).1) (hcl.set hr20) (by simpa using hsz) (fun _ => hh.1) (fun j oj hj h1 h2 h3 => hfr1 j oj hj h1 (hun' j h2).1 h3) (ready_mono hr' hne) (Et (fun a2 w2 h2 => ?_) hh.2)
          have := tail a2 w2 h2
          rwa [Array.setIfInBounds_comm _ _ hne] at this
    · rw [if_neg hkpe] at h
      obtain ⟨hC, hst⟩ := h
      have hkp' : k < p := by omega
      have rec_ : ∀ a w, Jo P ops C loud T Q p (k + 1) l a w → wpM P ops C loud T Q l.length (listed.setIfInBounds k true) a w := fun a w hh =>
        O6 hs hp l (k + 1) _ a w (by omega) (by simp at hkl; omega) hnext hB' (hcl.set hr') hsz' hlt' hh
      have hle : M0 ops loud T listed → k ≤ T := fun _ => by have := hp.le; omega
      cases hlk : loud k with
      | false =>
        obtain ⟨v, hy, hK⟩ := CT h0 hlk hst
        exact HK h0 hlk (Region.noSelect_spec hs) l.length listed a w (fun hn => hC (hle hn)) hcl hsz (Region.free_spec h0 hf) hr' hy (rec_ _ _ hK)
      | true =>
        refine Jn (n := ops.size) hp.tl h0 (Region.noSelect_spec hs) l.length listed a w (fun j hj hjk hlj hun => ?_) hcl hsz (fun hn => hC (hle hn)) (Region.free_spec h0 hf) hr' (Et rec_ hst)
        have hkj : k < j := by
          rcases Nat.lt_trichotomy k j with h1 | h1 | h1
          · exact h1
          · exact absurd h1.symm hjk
          · rw [hlt j h1] at hun; cases hun
        exact (hp.sp k j hk hj hlk hlj hkj).resolve_left fun h => hkpe h.1
theorem Lr {id p:Nat}{Q':Exit->Act->World->Prop}{a:Act}{w:World}{l:List Oper}(ro:Option Nat) (m:Nat) (hm:P.follows .mixedOrders=true) (hB:Region.lexB .any l.toArray=true) (hb:Q9 l.toArray loud T p=true)
  (h:Jo P l.toArray C loud T (fun a w=>Q' .normal a w) p 0 l a w.drew):(Code.region id l.toArray true).wpIn (Fw ro) m P Q' a w:=by
 simp only [Region.lexB,Bool.and_eq_true] at hB
 have hp:=PM hb
 have hcl:Closed l.toArray (Array.replicate l.toArray.size false):=fun k o hk hlis=>by
  rw [getD_replicate_false] at hlis; cases hlis
 refine wpIn_region_any hm (Gr (C:=C) (loud:=loud) (T:=T) (n:=l.toArray.size) (Q:=fun a w=>Q' .normal a w) ro m hp.tl (fun _ _ h=>h) _ _ _ _ hcl (by simp) ?_)
 have:=O6 (P:=P) (C:=C) (loud:=loud) (T:=T) (Q:=fun a w=>Q' .normal a w) (ops:=l.toArray) hB.1 hp l 0 (Array.replicate l.toArray.size false) a w.drew (Nat.zero_le _) (by simp) (by simp) (by simpa using hB.2) hcl (by simp) (fun j hj=>by omega) h
 simpa using this
end
/-- One operation of such a region, whatever stands behind it. -/
def Op1 (E:Env) (ops:Array Oper) (T n0 k:Nat) (o:Oper) (s:St) (Ks:St->Prop):Prop :=
 ∀ (base:Bs) (K:Act->World->Prop) (w0:World) (Z:Nat->Prop) (R0:List RI) (h0:Hp) (a:Act) (w:World) (R:List RI),HR w0 Z R0 h0->n0=h0.length->SR E base w Z R s a->w0.grownBy w none->Step w0 Z R0 h0 w Z R s.hp->(∀ (b:Nat) (B:Option Blk),h0[b]? = some B->s.hp[b]? = some B)->ops[k]? = some o ->
  (∀ s' a' w' R',Ks s'->SR E base w' Z R' s' a'->w0.grownBy w' none->Step w0 Z R0 h0 w' Z R' s'.hp->(∀ (b:Nat) (B:Option Blk),h0[b]? = some B->s'.hp[b]? = some B)->K a' w')->mOp E.P ops (fun w'=>w0.grownBy w' none) (C4 ops T) k K a w
def RunDP (E:Env) (ops:Array Oper) (T p n0 k:Nat) (rest:List Oper) (s:St) (K:St->Prop):Prop :=
 ∀ (base:Bs) (Q:Act->World->Prop) (w0:World) (Z:Nat->Prop) (R0:List RI) (h0:Hp) (a:Act) (w:World) (R:List RI),HR w0 Z R0 h0->n0=h0.length->SR E base w Z R s a->w0.grownBy w none->Step w0 Z R0 h0 w Z R s.hp->(∀ (b:Nat) (B:Option Blk),h0[b]? = some B->s.hp[b]? = some B)->(∀ j,rest[j]? = ops[k + j]?) ->
  (∀ s' a' w' Z' R',K s'->SR E base w' Z' R' s' a'->StepW w0 Z R0 h0 w' Z' R' s'.hp->Q a' w')->Jo E.P ops (fun w'=>w0.grownBy w' none) (C4 ops T) T Q p k rest a w
section
variable {E:Env}{cx:Cx}{ops:Array Oper}{pre rest rest':List Oper}{s s1:St}{K Ks:St->Prop}{n n0 k T p:Nat}{l:List (Nat×AV)}{hp hp':Hp}{Q:Ex->St->Prop}{id:Nat}{fid:FuncId}{o:Oper}
theorem PY (hE:EnvOk E) (T p:Nat) (hB:Region.lexB .any ops=true) (hb:Q9 ops (C4 ops T) T p=true) (h:RunDP E ops T p s.hp.length 0 ops.toList s fun s'=>Wk E s' s1) (q:Q .normal s1):Sem E cx (.region id ops true) s Q:=by
 intro ro base Qm a w Z R _ sr _ kk
 have hgd:w.grownBy w.drew none:=Km w
 have hops:ops.toList.toArray=ops:=by simp
 have st0:Step w Z R s.hp w.drew Z R s.hp:=⟨rfl,rfl,rfl,Nat.le_refl _,fun c hc _=>rfl,fun _ h=> .inl h,fun _ h=>h,fun _ h=> .inl h,fun _ _ h=>h⟩
 have hsrd:SR E base w.drew Z R s a:=⟨sr.hh.keep (Nat.le_refl _) (fun c hc=>hgd.block c hc (by simp)),sr.fr.off (fun c hc=>rfl),sr.mks.step st0,sr.gl.off (fun c hc=>rfl),sr.bs⟩
 have hm:=h base (fun a w=>Qm .normal a w) w.drew Z R s.hp a w.drew R hsrd.hh rfl hsrd (J3 _) (Step.refl _ _ _ _) (fun b B hb=>hb) (fun j=>by simp) (fun s' a' w' Z' R' hw sr' st=>by
  obtain ⟨Z2,R2,sr2,st2⟩:=hw base w' Z' R' a' sr'
  exact kk .normal s1 a' w' Z2 R2 q sr2 ((st0.w.trans st).trans st2))
 have:=Lr (P:=E.P) (id:=id) (l:=ops.toList) (a:=a) (w:=w) (C:=fun w'=>w.drew.grownBy w' none) (loud:=C4 ops T) (T:=T) (p:=p) (Q':=Qm) ro 0 hE.mixed (by rw [hops]; exact hB) (by rw [hops]; exact hb) (by rw [hops]; exact hm)
 rw [hops] at this
 exact this
theorem QH (hW:isW o.op=false) (e:opsD E (evC E 0) ⟨none,false⟩ ops n0 (o::pre) s=some s1):∃ s2,opsD E (evC E 0) ⟨none,false⟩ ops n0 [o] s=some s2/\opsD E (evC E 0) ⟨none,false⟩ ops n0 pre s2=some s1:=by
 have hW':¬ isW o.op=true:=by rw [hW]; simp
 unfold opsD at e
 rw [if_neg hW'] at e
 split at e
 ·cases e
 ·next hw=>exact ⟨_,by unfold opsD; rw [if_neg hW']; simp only [hw]; rfl,e⟩
 ·next hw =>
  split at e
  ·next x hx =>
   split at e
   ·next hld=>exact ⟨_,by unfold opsD; rw [if_neg hW']; simp only [hw,hx,hld,if_true]; rfl,e⟩
   ·cases e
  ·next hx =>
   split at e
   ·next x h' hn=>exact ⟨_,by unfold opsD; rw [if_neg hW']; simp only [hw,hx,hn]; rfl,e⟩
   ·next hn =>
    split at e
    ·next f args tys ho =>
     split at e
     ·next fv xs hf hxs =>
      split at e
      ·next r hr=>exact ⟨_,by unfold opsD; rw [if_neg hW']; simp only [hw,hx,hn,ho,hf,hxs,hr]; rfl,e⟩
      ·cases e
     ·cases e
    ·cases e
theorem Op1.d (hE:EnvOk E) (hW:isW o.op=false) (hk:k < T) (e:opsD E (evC E 0) ⟨none,false⟩ ops n0 [o] s=some s1) (kk:Ks s1):Op1 E ops T n0 k o s Ks:=by
 intro base K w0 Z R0 h0 a w R hh0 hn0 sr hgr st hpre hok q
 have hkT:¬ T<=k:=by omega
 unfold mOp
 rw [hok]
 dsimp only
 unfold opsD at e
 rw [if_neg (by rw [hW]; simp)] at e
 split at e
 ·cases e
 ·next hw =>
  rw [if_neg (by rw [wantedA_eq sr hw]; simp)]
  injection e with e
  subst e
  exact q _ _ w R kk (sr.put undef_vr) hgr st hpre
 ·next hw =>
  rw [if_pos (wantedA_eq sr hw)]
  have hρ:∀ o x,opA E s.fr o=some x->VR w Z R x (a.eval o):=fun o x e=>opA_vr sr o x e
  split at e
  ·next x hx =>
   split at e
   ·next hld =>
    injection e with e
    subst e
    have hq:=K3 hx
    rw [if_neg (by rw [II hok hq hkT]; simp)]
    obtain ⟨u,hu,hrun⟩:=evOpQ_sound sr.hh hρ hx
    have hquiet:∃ u,VR w Z R x u/\QuietAt E.P (Cf (fun w'=>w0.grownBy w' none) o) o u a:=by
     cases hl:NM o.op with
     | false=>exact ⟨u,hu,fun w' _=>hrun w' fun h=>by rw [hl] at h; cases h⟩
     | true =>
      obtain ⟨u1,hu1,hq1⟩:=GB hh0 sr hgr st hpre hl (by rw [<-hn0]; exact hld) hx
      exact ⟨u1,hu1,hq1.up (I1 hl)⟩
    obtain ⟨u,hu,hquiet⟩:=hquiet
    exact ⟨u,hquiet,q _ _ w R kk (sr.put hu) hgr st hpre⟩
   ·cases e
  ·split at e
   ·next x h' hx =>
    injection e with e
    subst e
    have hq:=Hf hx
    rw [if_pos (D8 hok hq)]
    obtain ⟨u,w',R',h1,h2,h3,h4,h5⟩:=evOpN_sound hρ sr.hh hx
    exact Ip h1 (q _ _ w' R' kk ((sr.step h2 h4).put h3) (DY hgr h5) (st.trans h4) fun b B hb=>IG hx (hpre b B hb))
   ·split at e
    ·next f args tys ho =>
     split at e
     ·next fv xs hf hxs =>
      split at e
      ·next r hr =>
       injection e with e
       subst e
       obtain ⟨x,h'⟩:=r
       have hq:isQ o.op=false:=by rw [ho]; rfl
       rw [if_pos (D8 hok hq)]
       obtain ⟨g,uf,uc,hva,hcl,hret⟩:=ES hE (code_sound hE 0).1 (hρ _ _ hf) (opds_vr hρ hxs) sr.hh sr.gl hr
       unfold Lw
       rw [EH (uf:=uf) (uc:=uc) ho hva rfl hcl w]
       refine Ret.mono hret fun v w' hS=>?_
       obtain ⟨hg1,R',k1,k2,k3⟩:=hS
       exact q _ _ w' R' kk ((sr.step k1 k3).put k2) (DY hgr hg1) (st.trans k3) fun b B hb=>H5 hr (hpre b B hb)
      ·cases e
     ·cases e
    ·cases e
theorem Nm (hE:EnvOk E){s:St}(l:List (Nat×AV)) (hp:Hp) (hW:(!isW o.op&&Nat.blt k T)=true) (h:OE (opsD E (evC E 0) ⟨none,false⟩ ops n0 [o] s) l=some (n,xs2 l,hp)) (kk:Ks ⟨Fr n l,hp⟩):Op1 E ops T n0 k o s Ks:=by
 obtain ⟨fr,h1,h2,h3⟩:=Ic h
 simp only [Bool.and_eq_true,Bool.not_eq_true'] at hW
 intro base K w0 Z R0 h0 a w R hh0 hn0 sr hgr st hpre hok q
 exact Op1.d (Ks:=fun s=>s=⟨fr,hp⟩) hE hW.1 (Nat.le_of_ble_eq_true hW.2) h1 rfl base K w0 Z R0 h0 a w R hh0 hn0 sr hgr st hpre hok fun s' a' w' R' hs sr' hg' st' hp'=>by
  subst hs
  exact q _ a' w' R' kk (sr'.forget h2 h3) hg' st' hp'
theorem Op1.one (hE:EnvOk E) (hW:(!isW o.op&&Nat.blt k T)=true) (h:opsD E (evC E 0) ⟨none,false⟩ ops n0 [o] s=some s1) (kk:Ks s1):Op1 E ops T n0 k o s Ks:=by
 simp only [Bool.and_eq_true,Bool.not_eq_true'] at hW
 exact Op1.d hE hW.1 (Nat.le_of_ble_eq_true hW.2) h kk
theorem M1 (hP:E.P=E0.P) (hG:E.G=E0.G){xs ys:List AV}{Out:AV->Hp->Prop}{d:Nat}{f:Operand}{args:Array Operand}{tys:Array TypeId}{ty:TypeId}{pos:String}{af:Array Edge}{g:Option (Nat×Bool)}(hs:SOk fid ys Out) (hr:o=⟨some d,.call ⟨.value f,args,tys⟩,ty,pos,af,g⟩) (hw:BS ops (Fr n l) ⟨some d,.call ⟨.value f,args,tys⟩,ty,pos,af,g⟩=some true)
  (hf:opA E (Fr n l) f=some (.fn fid [] [])) (ha:F3 (opA E (Fr n l)) args.toList=some xs) (hv:O5 hp xs=some ys) (hfl:∀ x h',Out x h'->Mb x=true/\NG h'=true) (kk:∀ x h',Out x h'->Ks ⟨Fr n ((d,shN hp.length x)::l),hp++h'⟩):Op1 E ops T n0 k o ⟨Fr n l,hp⟩ Ks:=by
 subst hr
 intro base K w0 Z R0 h0 a w R hh0 hn0 sr hgr st hpre hko q
 have hq:isQ (.call ⟨.value f,args,tys⟩:Op)=false:=rfl
 unfold mOp
 rw [hko]
 dsimp only
 rw [if_pos (wantedA_eq sr hw),if_pos (D8 hko hq)]
 have hρ:∀ o x,opA E (Fr n l) o=some x->VR w Z R x (a.eval o):=fun o x e=>opA_vr sr o x e
 have hva:a.eval f = .func (.func fid) ([]:List Value).toArray ([]:List Value).toArray:=by
  have:=hρ _ _ hf
  generalize a.eval f=vf at this
  cases this with
  | fn hl hl' hx hy =>
   rename_i u1 u2
   have e1:u1=[]:=by simpa using hl
   have e2:u2=[]:=by simpa using hl'
   subst e1 e2; rfl
 have hcl:Ba E.P fid:=hP ▸ hs.1
 unfold Lw
 rw [EH (uf:=[]) (uc:=[]) rfl hva rfl hcl w]
 simp only [List.nil_append,List.append_nil]
 have hz1:∀ c,(Z c\/own R hp c)->c < w.heap.size:=fun c hc=>hc.elim (sr.hh.zlt c) (fun ⟨b,B,r,h1,_,h3,h4⟩=>h4 ▸ sr.hh.rltL h1 h3)
 have hg1:GI E0 w (fun c=>Z c\/own R hp c):=fun q y hy=>(sr.gl q y (by rw [hG]; exact hy)).mono (fun _ _=>rfl) (fun _ h=> .inl h) (fun _ _ h=>h)
 have hret:=hs.2 w _ _ hz1 hg1 (Nb sr.hh (opds_vr hρ ha) hv)
 rw [<-hP] at hret
 refine Ret.mono hret fun v w' hS=>?_
 obtain ⟨Z',R',x,h',hO,h1,h2,st1⟩:=hS
 obtain ⟨f1,f2⟩:=hfl x h' hO
 obtain ⟨j1,j2⟩:=sr.hh.join hz1 st1 h1 f2
 have hlen1:R.length=hp.length:=sr.hh.len
 have hx:=Tb (w:=w') (Z':=Z) (R:=R) hlen1 f1 h2
 have sr':=(sr.step j1 j2).put (d:=some d) hx
 rw [show I6 (⟨Fr n l,hp⟩:St).fr (some d) (shN hp.length x)=Fr n ((d,shN hp.length x)::l) from CO n l d _] at sr'
 have hg2:w.grownBy w' none:=⟨st1.os,st1.tape,st1.output,st1.size,fun c hc _=>st1.block c hc fun ⟨b,B,r,hb,_⟩=>by simp at hb⟩
 exact q _ _ w' (R++R') (kk x h' hO) sr' (DY hgr hg2) (st.trans j2) (fun b B hb=>by
  have hlt:b < hp.length:=(List.getElem?_eq_some_iff.1 (hpre b B hb)).1
  show (hp++h')[b]? = _
  rw [List.getElem?_append_left hlt]; exact hpre b B hb)
/-- The walk up to the two. -/
theorem Kj (hE:EnvOk E):∀ {pre:List Oper}{s:St}{k:Nat},(pre.all fun o=>!isW o.op)=true->k + pre.length<=p->p + 2<=T->opsD E (evC E 0) ⟨none,false⟩ ops n0 pre s=some s1->RunDP E ops T p n0 (k + pre.length) rest s1 K->RunDP E ops T p n0 k (pre++rest) s K
 | [],s,k,_,_,_,e,kk=>by injection e with e; subst e; exact kk
 | o::pre,s,k,hp,hT,hpT,e,kk=>by
  intro base Q w0 Z R0 h0 a w R hh0 hn0 sr hgr st hpre hops q
  simp only [List.all_cons,Bool.and_eq_true,Bool.not_eq_true'] at hp
  obtain ⟨hW,hp⟩:=hp
  obtain ⟨s2,e1,e2⟩:=QH hW e
  have hok:ops[k]? = some o:=by have:=hops 0; simpa using this.symm
  have hops':∀ j,(pre++rest)[j]? = ops[k + 1 + j]?:=fun j=>by have:=hops (j + 1); simpa [Nat.add_assoc,Nat.add_comm 1 j] using this
  have hk1:k + 1 + pre.length=k + (o::pre).length:=by simp; omega
  have kk':RunDP E ops T p n0 (k + 1 + pre.length) rest s1 K:=by rw [hk1]; exact kk
  simp only [List.length_cons] at hT
  show Jo E.P ops _ _ _ Q p k (o::(pre++rest)) a w
  unfold Jo
  rw [if_neg (by omega)]
  refine ⟨fun _=>hgr,?_⟩
  refine Op1.d (Ks:=fun s=>s=s2) hE hW (by omega) e1 rfl base _ w0 Z R0 h0 a w R hh0 hn0 sr hgr st hpre hok fun s' a' w' R' hs sr' hg' st' hp'=>?_
  subst hs
  exact Kj hE hp (by omega) hpT e2 kk' base Q w0 Z R0 h0 a' w' R' hh0 hn0 sr' hg' st' hp' hops' q
theorem O8 (hE:EnvOk E) (m:Nat){s:St}(l:List (Nat×AV)) (hp:Hp) (hw:(((rest.take m).all fun o=>!isW o.op)&&Nat.ble (k + (rest.take m).length) p&&Nat.ble (p + 2) T)=true) (h:OE (opsD E (evC E 0) ⟨none,false⟩ ops n0 (rest.take m) s) l=some (n,xs2 l,hp)) (kk:RunDP E ops T p n0 (k + (rest.take m).length) (rest.drop m) ⟨Fr n l,hp⟩ K):RunDP E ops T p n0 k rest s K:=by
 obtain ⟨fr,h1,h2,h3⟩:=Ic h
 simp only [Bool.and_eq_true] at hw
 have:=Kj (k:=k) (T:=T) (p:=p) (pre:=rest.take m) (rest:=rest.drop m) hE hw.1.1 (Nat.le_of_ble_eq_true hw.1.2) (Nat.le_of_ble_eq_true hw.2) h1 (fun base Q w0 Z R0 h0 a w R a1 a2 sr a5 a6 a7 a8 q=>kk base Q w0 Z R0 h0 a w R a1 a2 (sr.forget h2 h3) a5 a6 a7 a8 q)
 rwa [List.take_append_drop] at this
theorem RunDP.one (hE:EnvOk E) (hr:rest=o::rest') (hW:(!isW o.op&&Nat.blt k p&&Nat.ble (p + 2) T)=true) (h:opsD E (evC E 0) ⟨none,false⟩ ops n0 [o] s=some s1) (kk:RunDP E ops T p n0 (k + 1) rest' s1 K):RunDP E ops T p n0 k rest s K:=by
 subst hr
 simp only [Bool.and_eq_true] at hW
 exact Kj (k:=k) hE (pre:=[o]) (by simpa using hW.1.1) (by have:=Nat.le_of_ble_eq_true hW.1.2; simpa using this) (Nat.le_of_ble_eq_true hW.2) h kk
/-- The two, in both orders. -/
theorem RunDP.two {o1 o2:Oper}(hr:rest=o1::o2::rest') (hA:Op1 E ops T n0 p o1 s fun s1=>Op1 E ops T n0 (p + 1) o2 s1 fun s2=>RunDX E ops T n0 (p + 2) rest' s2 K) (hB:Op1 E ops T n0 (p + 1) o2 s fun s1=>Op1 E ops T n0 p o1 s1 fun s2=>RunDX E ops T n0 (p + 2) rest' s2 K):RunDP E ops T p n0 p rest s K:=by
 subst hr
 intro base Q w0 Z R0 h0 a w R hh0 hn0 sr hgr st hpre hops q
 have hk1:ops[p]? = some o1:=by have:=hops 0; simpa using this.symm
 have hk2:ops[p + 1]? = some o2:=by have:=hops 1; simpa using this.symm
 have hops':∀ j,rest'[j]? = ops[p + 2 + j]?:=fun j=>by have:=hops (j + 2); rw [show p + 2 + j=p + (j + 2) by omega]; simpa using this
 unfold Jo
 rw [if_pos rfl]
 refine ⟨hgr,?_,?_⟩
 ·refine hA base _ w0 Z R0 h0 a w R hh0 hn0 sr hgr st hpre hk1 fun s1 a1 w1 R1 h1 sr1 hg1 st1 hp1=>⟨hg1,?_⟩
  exact h1 base _ w0 Z R0 h0 a1 w1 R1 hh0 hn0 sr1 hg1 st1 hp1 hk2 fun s2 a2 w2 R2 h2 sr2 hg2 st2 hp2=>h2 base Q w0 Z R0 h0 a2 w2 R2 hh0 hn0 sr2 hg2 st2 hp2 hops' q
 ·refine hB base _ w0 Z R0 h0 a w R hh0 hn0 sr hgr st hpre hk2 fun s1 a1 w1 R1 h1 sr1 hg1 st1 hp1=>⟨hg1,?_⟩
  exact h1 base _ w0 Z R0 h0 a1 w1 R1 hh0 hn0 sr1 hg1 st1 hp1 hk1 fun s2 a2 w2 R2 h2 sr2 hg2 st2 hp2=>h2 base Q w0 Z R0 h0 a2 w2 R2 hh0 hn0 sr2 hg2 st2 hp2 hops' q
end
noncomputable def Dv:Code:=Bg Tryz.f99
def As (xs:List (List UInt8)):Option Blk:=some ⟨1,9,xs.map cdS.enc,false⟩
set_option maxRecDepth 100000 in
theorem Eq (xs:List (List UInt8)) (hc:Du 16 xs.length=true):Sem E0 ⟨none,false⟩ Dv ⟨Fr 8 [(0,.sl 1 (xs.map cdS.enc))],[]⟩ fun e s'=>(e = .normal\/e = .ret)/\((xs=[]/\s'=⟨Fr 8 [(2,.e0)],[]⟩)\/s'=⟨Fr 8 [(2,.rf 0 0 xs.length xs.length)],[As xs]⟩):=by
 refine AF ?_
 refine AJ (s1:=⟨Fr 8 [(0,.sl 1 (xs.map cdS.enc)),(2,.e0)],[]⟩) ?_ ?_
 ·refine HL AC 1 (s1:=⟨Fr 8 [(0,.sl 1 (xs.map cdS.enc)),(2,.e0)],[]⟩) (by kernel_rfl) ?_
  exact AE rfl AH
 refine AF ?_
 refine AF (OV ?_)
 refine HL AC 1 (s1:=⟨Fr 8 [(0,.sl 1 (xs.map cdS.enc)),(2,.e0),(3,.sl 1 (xs.map cdS.enc))],[]⟩) (by kernel_rfl) ?_
 refine O9 (k:=1) (el:=9) (es:=xs.map cdS.enc) rfl (AB rfl) (by kernel_rfl) (by kernel_rfl) fun b hb=>AE rfl ?_
 have hb:b=true->xs=[]:=fun h=>List.map_eq_nil_iff.1 (hb h)
 refine AN (b:=b) (by kernel_rfl) (fun hb1=>?_) (fun hb1=>?_)
 ·have hx:=hb hb1
  refine BD ?_
  refine AF (AJ (s1:=⟨Fr 8 [(2,.e0)],[]⟩) ?_ (AS ?_))
  ·refine HL AC 1 (s1:=⟨Fr 8 [(0,.sl 1 (xs.map cdS.enc)),(2,.e0),(3,.sl 1 (xs.map cdS.enc)),(4,.v (.bool b))],[]⟩) (by kernel_rfl) ?_
   exact AE rfl AH
  ·exact ⟨_,Wk.refl,.inr rfl,.inl ⟨hx,rfl⟩⟩
 ·refine AY ?_
  refine BD (AF (OV ?_))
  refine HL AC 2 (s1:=⟨Fr 8 [(0,.sl 1 (xs.map cdS.enc)),(2,.e0),(3,.sl 1 (xs.map cdS.enc)),(4,.v (.bool b)),(5,.rf 0 0 0 0),(6,.sl 1 (xs.map cdS.enc))],[As []]⟩) (by kernel_rfl) ?_
  cases xs with
  | nil =>
   refine AK AC 0 rfl (S0 (x:= .rf 0 0 0 0) (hp':=[As []]) (AB rfl) rfl (by kernel_rfl) (by kernel_rfl) (by kernel_rfl)) ?_
   refine HL AC 1 (s1:=⟨Fr 8 [(0,.sl 1 []),(2,.rf 0 0 0 0),(3,.sl 1 []),(4,.v (.bool b)),(5,.rf 0 0 0 0),(6,.sl 1 []),(7,.rf 0 0 0 0)],[As []]⟩) (by kernel_rfl) (AE rfl (AS ?_))
   exact ⟨⟨Fr 8 [(2,.rf 0 0 0 0)],[As []]⟩,AH,.inr rfl,.inr rfl⟩
  | cons y ys =>
   refine AK AC 0 rfl (S0 (AB rfl) rfl (by kernel_rfl) (by kernel_rfl) (EQ (a:= .rf 0 0 0 0) (b:= .sl 1 ((y::ys).map cdS.enc)) (by kernel_rfl) (by kernel_rfl) (JB (c:=cdS) (xs:=[]) (vs:=y::ys) (k:=1) (bytes:=16) (el:=9) (by kernel_rfl) (by kernel_rfl) Qq (List.cons_ne_nil _ _) (by kernel_rfl) (by rw [List.length_nil,Nat.zero_add]; exact hc)))) ?_
   refine HL AC 1 (s1:=⟨Fr 8 [(0,.sl 1 ((y::ys).map cdS.enc)),(2,.rf 1 0 (y::ys).length (y::ys).length),(3,.sl 1 ((y::ys).map cdS.enc)),(4,.v (.bool b)),(5,.rf 0 0 0 0),(6,.sl 1 ((y::ys).map cdS.enc)),(7,.rf 1 0 (y::ys).length (y::ys).length)],[none,As (y::ys)]⟩) (by kernel_rfl) (AE rfl (AS ?_))
   exact ⟨⟨Fr 8 [(2,.rf 0 0 (y::ys).length (y::ys).length)],[As (y::ys)]⟩,Ax [1] ⟨⟨_,rfl,NA⟩,trivial⟩ ⟨lv,trivial⟩,.inr rfl,.inr rfl⟩
def Dk (xs:List (List UInt8)) (x:AV) (h':Hp):Prop:=(xs=[]/\x = .e0/\h'=[])\/(x = .rf 0 0 xs.length xs.length/\h'=[As xs])
theorem D0 (xs:List (List UInt8)) (hc:Du 16 xs.length=true):SOk 99 [.sl 1 (xs.map cdS.enc)] (Dk xs):=by
 refine PR AC rfl rfl (fn:=Tryz.f99) (c:=Dv) (by kernel_rfl) (by kernel_rfl) ⟨Tryz.call99⟩ (by show 1<=8; decide) (Sem.mono (Eq xs hc) ?_)
 rintro e s' ⟨he,⟨hx,rfl⟩ | rfl⟩
 ·exact ⟨he,[.e0],by kernel_rfl,.inl ⟨hx,rfl,rfl⟩⟩
 ·exact ⟨he,[.rf 0 0 xs.length xs.length],by kernel_rfl,.inr ⟨rfl,rfl⟩⟩
theorem Dx {xs:List (List UInt8)}:∀ x h',Dk xs x h'->Mb x=true/\NG h'=true:=by
 rintro x h' (⟨_,rfl,rfl⟩ | ⟨rfl,rfl⟩)
 ·exact ⟨rfl,rfl⟩
 ·refine ⟨rfl,?_⟩
  show (!false&&(xs.map cdS.enc).all Ht&&true)=true
  have:(xs.map cdS.enc).all Ht=true:=by
   rw [List.all_eq_true]
   intro x hx
   obtain ⟨y,_,rfl⟩:=List.mem_map.1 hx
   rfl
  rw [this]; rfl
def KK:Cs (List (List UInt8)×Unit):=csC (cdL 1 cdS) csN
/- trestle/trestlelaw03.Copy -/
noncomputable def HO:Code:=Bg Tryz.f51
def Cr (x0:(List AG)):Nat->(List AG)->Int->Option (((List AG)))
 | 0,_,_=>none
 | f + 1,c1,c2 =>
  if (decide (c2 < (x0.length:Int)))=true then
  (idx x0 c2).bind fun v4 =>
  if (Du 16 v4.2.2.2.1.length)=true then
  if (Du 16 (v4.2.2.2.1.length + 1))=true then
  if (GQ 0 (v4.2.2.2.1.length:Int) (v4.2.2.2.1++[[115,112,97,114,101]]).length)=true then
  if (Du 64 (c1.length + 1))=true then
  Cr x0 f (c1++[(v4.1,v4.2.1,v4.2.2.1,((v4.2.2.2.1++[[115,112,97,114,101]]).take ((v4.2.2.2.1.length:Int).toNat)),v4.2.2.2.2)]) (wr .i64 (c2 + 1))
  else none
  else none
  else none
  else none
  else
  some c1
def FI (x0:(List AG)):Option ((List AG)) :=
 (Cr x0 100000 [] 0).bind fun r17 =>
 some r17
def HT:Cs ((List AG)×Unit):=(csC (cdL 5 AA) csN)
def HZ (r:(List AG)):AV:=(cdL 5 AA).enc r
theorem KM (x0:(List AG)):∀ (f:Nat) (c1:(List AG)) (c2:Int) (r:((List AG))),Cr x0 f c1 c2=some r->SemN E0 ⟨none,false⟩ (pc HO [1,1,0,1,0,0]) f ⟨Fr 28 [(3,hd 0 (c1.map AA.enc)),(6,.sl 5 (x0.map AA.enc)),(7,.j (x0.length:Int)),(8,.j c2)],[mk 5 70 (c1.map AA.enc)]⟩ (fun e s=>e=(.exit 0)/\Wk E0 s ⟨Fr 28 [(3,hd 0 (r.map AA.enc))],[mk 5 70 (r.map AA.enc)]⟩):=by
 intro f;induction f with
 | zero=>intro c1 c2 r h; cases h
 | succ f ih0 =>
  intro c1 c2 r h
  have ih:=fun (c1:(List AG)) (c2:Int)=>ih0 c1 c2 r
  unfold Cr at h;refine CF ?_;refine AL AC [(3,hd 0 (c1.map AA.enc)),(6,.sl 5 (x0.map AA.enc)),(7,.j (x0.length:Int)),(8,.j c2),(9,.b (decide (c2 < (x0.length:Int))))] [mk 5 70 (c1.map AA.enc)] ?_;refine AF ?_;refine AN (b:=(decide (c2 < (x0.length:Int)))) kr (fun hb3=>?_) (fun hb3=>?_)
  ·rw [if_pos hb3] at h
   refine AY ?_;refine AF ?_;refine Aq ?_;refine AF ?_;obtain ⟨v4,hv4,h⟩:=OB h;refine AJ (s1:=⟨Fr 28 [(3,hd 0 (c1.map AA.enc)),(5,.pt 1 0 0),(6,.sl 5 (x0.map AA.enc)),(7,.j (x0.length:Int)),(8,.j c2)],[mk 5 70 (c1.map AA.enc),some ⟨5,70,[.ag [.v (.int .u8 v4.1),.st v4.2.1,.b v4.2.2.1,.sl 1 (v4.2.2.2.1.map cdS.enc),.j v4.2.2.2.2]],false⟩]⟩) ?_ ?_
   ·refine AK AC 0 rfl (Bi (AB rfl) rfl (AZ (a:= .sl 5 (x0.map AA.enc)) (b:= .j c2) kr kr (Dc (e:=AA.enc) (el:=70) (k:=5) (ki:= .i64) kr kr hv4))) ?_
    exact AW AC
   refine AF ?_;by_cases hk5:(Du 16 v4.2.2.2.1.length)=true
   case neg=>rw [if_neg hk5] at h; cases h
   rw [if_pos hk5] at h;by_cases hk6:(Du 16 (v4.2.2.2.1.length + 1))=true
   case neg=>rw [if_neg hk6] at h; cases h
   rw [if_pos hk6] at h;by_cases hk7:(GQ 0 (v4.2.2.2.1.length:Int) (v4.2.2.2.1++[[115,112,97,114,101]]).length)=true
   case neg=>rw [if_neg hk7] at h; cases h
   rw [if_pos hk7] at h;refine PY (s1:=⟨Fr 28 [(3,hd 0 (c1.map AA.enc)),(5,.pt 1 0 0),(6,.sl 5 (x0.map AA.enc)),(7,.j (x0.length:Int)),(8,.j c2)],[mk 5 70 (c1.map AA.enc),some ⟨5,70,[.ag [.v (.int .u8 v4.1),.st v4.2.1,.b v4.2.2.1,.rf 2 0 ((v4.2.2.2.1.length:Int).toNat) ((v4.2.2.2.1++[[115,112,97,114,101]]).length),.j v4.2.2.2.2]],false⟩,some ⟨1,9,((v4.2.2.2.1++[[115,112,97,114,101]]).map cdS.enc),false⟩]⟩) AC 10 2 kr kr ?_ ?_
   ·refine O8 (n:=28) AC 2 [(3,hd 0 (c1.map AA.enc)),(5,.pt 1 0 0),(6,.sl 5 (x0.map AA.enc)),(7,.j (x0.length:Int)),(8,.j c2),(13,.sl 1 (v4.2.2.2.1.map cdS.enc))] [mk 5 70 (c1.map AA.enc),some ⟨5,70,[.ag [.v (.int .u8 v4.1),.st v4.2.1,.b v4.2.2.1,.sl 1 (v4.2.2.2.1.map cdS.enc),.j v4.2.2.2.2]],false⟩] kr kr ?_
    refine RunDP.two rfl ?_ ?_
    ·refine M1 rfl rfl (D0 v4.2.2.2.1 hk5) rfl (AB rfl) kr (xs:=[.sl 1 (v4.2.2.2.1.map cdS.enc)]) kr kr Dx ?_
     rintro x h' (⟨hx,rfl,rfl⟩ | ⟨rfl,rfl⟩)
     ·rw [hx]
      refine Nm (n:=28) AC [(3,hd 0 (c1.map AA.enc)),(5,.pt 1 0 0),(6,.sl 5 (x0.map AA.enc)),(7,.j (x0.length:Int)),(8,.j c2),(13,.sl 1 (([]:List (List UInt8)).map cdS.enc)),(14,.e0),(15,hd 2 ([[115,112,97,114,101]].map cdS.enc))] [mk 5 70 (c1.map AA.enc),some ⟨5,70,[.ag [.v (.int .u8 v4.1),.st v4.2.1,.b v4.2.2.1,.sl 1 (([]:List (List UInt8)).map cdS.enc),.j v4.2.2.2.2]],false⟩,mk 1 9 ([[115,112,97,114,101]].map cdS.enc)] kr kr ?_;refine RunDX.append AC rfl (AB rfl) rfl rfl (EQ (a:= .e0) (b:=hd 2 ([[115,112,97,114,101]].map cdS.enc)) kr kr (KY (c:=cdS) (vs:=[[115,112,97,114,101]]) (k:=1) (bytes:=16) (el:=9) kr kr (Fz (t:=9) kr) (List.cons_ne_nil _ _) kr)) (EQ (a:= .e0) (b:=hd 2 ([[115,112,97,114,101]].map cdS.enc)) kr kr (KY (c:=cdS) (vs:=[[115,112,97,114,101]]) (k:=1) (bytes:=16) (el:=9) kr kr (Fz (t:=9) kr) (List.cons_ne_nil _ _) kr)) kr ?_;refine EZ (n:=28) AC 2 [(3,hd 0 (c1.map AA.enc)),(5,.pt 1 0 0),(6,.sl 5 (x0.map AA.enc)),(7,.j (x0.length:Int)),(8,.j c2),(16,hd 3 ([[115,112,97,114,101]].map cdS.enc)),(18,.sl 1 (([]:List (List UInt8)).map cdS.enc))] [mk 5 70 (c1.map AA.enc),some ⟨5,70,[.ag [.v (.int .u8 v4.1),.st v4.2.1,.b v4.2.2.1,.sl 1 (([]:List (List UInt8)).map cdS.enc),.j v4.2.2.2.2]],false⟩,mk 1 9 ([[115,112,97,114,101]].map cdS.enc),mk 1 9 ([[115,112,97,114,101]].map cdS.enc)] kr kr ?_;refine RunDX.one AC rfl kr (If kr (AB rfl) rfl (EG (a:= .sl 1 (([]:List (List UInt8)).map cdS.enc)) kr (Cn (el:=9) kr)) kr) ?_;refine EZ (n:=28) AC 2 [(3,hd 0 (c1.map AA.enc)),(5,.pt 1 0 0),(6,.sl 5 (x0.map AA.enc)),(7,.j (x0.length:Int)),(8,.j c2),(20,.rf 3 0 0 1),(21,.pt 1 0 3)] [mk 5 70 (c1.map AA.enc),some ⟨5,70,[.ag [.v (.int .u8 v4.1),.st v4.2.1,.b v4.2.2.1,.sl 1 (([]:List (List UInt8)).map cdS.enc),.j v4.2.2.2.2]],false⟩,mk 1 9 ([[115,112,97,114,101]].map cdS.enc),mk 1 9 ([[115,112,97,114,101]].map cdS.enc)] kr kr ?_
      refine IU rfl ?_;refine AD (n:=28) AC 1 [(3,hd 0 (c1.map AA.enc)),(5,.pt 1 0 0),(6,.sl 5 (x0.map AA.enc)),(7,.j (x0.length:Int)),(8,.j c2)] [mk 5 70 (c1.map AA.enc),some ⟨5,70,[.ag [.v (.int .u8 v4.1),.st v4.2.1,.b v4.2.2.1,.rf 3 0 0 1,.j v4.2.2.2.2]],false⟩,mk 1 9 ([[115,112,97,114,101]].map cdS.enc),mk 1 9 ([[115,112,97,114,101]].map cdS.enc)] kr ?_;exact AE rfl (Ax [0,1,3] ⟨⟨_,rfl,Nq⟩,⟨_,rfl,Hk⟩,⟨_,rfl,NA⟩,trivial⟩ ⟨N8 (b':=0) kr kr,lv,lv,lv,lv,trivial⟩)
     ·refine Nm (n:=28) AC [(3,hd 0 (c1.map AA.enc)),(5,.pt 1 0 0),(6,.sl 5 (x0.map AA.enc)),(7,.j (x0.length:Int)),(8,.j c2),(13,.sl 1 (v4.2.2.2.1.map cdS.enc)),(14,.rf 2 0 v4.2.2.2.1.length v4.2.2.2.1.length),(15,hd 3 ([[115,112,97,114,101]].map cdS.enc))] [mk 5 70 (c1.map AA.enc),some ⟨5,70,[.ag [.v (.int .u8 v4.1),.st v4.2.1,.b v4.2.2.1,.sl 1 (v4.2.2.2.1.map cdS.enc),.j v4.2.2.2.2]],false⟩,some ⟨1,9,(v4.2.2.2.1.map cdS.enc),false⟩,mk 1 9 ([[115,112,97,114,101]].map cdS.enc)] kr kr ?_
      refine RunDX.append AC rfl (AB rfl) rfl rfl (EQ (a:= .rf 2 0 v4.2.2.2.1.length v4.2.2.2.1.length) (b:=hd 3 ([[115,112,97,114,101]].map cdS.enc)) kr kr (JB (c:=cdS) (xs:=v4.2.2.2.1) (vs:=[[115,112,97,114,101]]) (k:=1) (bytes:=16) (el:=9) kr kr (Fz (t:=9) kr) (List.cons_ne_nil _ _) kr hk6)) (EQ (a:= .rf 2 0 v4.2.2.2.1.length v4.2.2.2.1.length) (b:=hd 3 ([[115,112,97,114,101]].map cdS.enc)) kr kr (JB (c:=cdS) (xs:=v4.2.2.2.1) (vs:=[[115,112,97,114,101]]) (k:=1) (bytes:=16) (el:=9) kr kr (Fz (t:=9) kr) (List.cons_ne_nil _ _) kr hk6)) kr ?_;refine EZ (n:=28) AC 2 [(3,hd 0 (c1.map AA.enc)),(5,.pt 1 0 0),(6,.sl 5 (x0.map AA.enc)),(7,.j (x0.length:Int)),(8,.j c2),(16,.rf 4 0 (v4.2.2.2.1++[[115,112,97,114,101]]).length (v4.2.2.2.1++[[115,112,97,114,101]]).length),(18,.sl 1 (v4.2.2.2.1.map cdS.enc))] [mk 5 70 (c1.map AA.enc),some ⟨5,70,[.ag [.v (.int .u8 v4.1),.st v4.2.1,.b v4.2.2.1,.sl 1 (v4.2.2.2.1.map cdS.enc),.j v4.2.2.2.2]],false⟩,none,mk 1 9 ([[115,112,97,114,101]].map cdS.enc),some ⟨1,9,((v4.2.2.2.1++[[115,112,97,114,101]]).map cdS.enc),false⟩] kr kr ?_;refine RunDX.one AC rfl kr (If kr (AB rfl) rfl (EG (a:= .sl 1 (v4.2.2.2.1.map cdS.enc)) kr (Cn (el:=9) kr)) kr) ?_;refine RunDX.one AC rfl kr (If kr (AB rfl) rfl (I7 (a:= .rf 4 0 (v4.2.2.2.1++[[115,112,97,114,101]]).length (v4.2.2.2.1++[[115,112,97,114,101]]).length) (l:=none) (u:=(some (.j (v4.2.2.2.1.length:Int)))) (m:=none) kr kr kr rfl (Oy (xs:=(v4.2.2.2.1++[[115,112,97,114,101]])) (e:=cdS.enc) (t':=9) (k:=1) (el:=9) kr kr kr hk7 (by simp))) kr) ?_;refine EZ (n:=28) AC 1 [(3,hd 0 (c1.map AA.enc)),(5,.pt 1 0 0),(6,.sl 5 (x0.map AA.enc)),(7,.j (x0.length:Int)),(8,.j c2),(20,.rf 4 0 ((v4.2.2.2.1.length:Int).toNat) ((v4.2.2.2.1++[[115,112,97,114,101]]).length)),(21,.pt 1 0 3)] [mk 5 70 (c1.map AA.enc),some ⟨5,70,[.ag [.v (.int .u8 v4.1),.st v4.2.1,.b v4.2.2.1,.sl 1 (v4.2.2.2.1.map cdS.enc),.j v4.2.2.2.2]],false⟩,none,mk 1 9 ([[115,112,97,114,101]].map cdS.enc),some ⟨1,9,((v4.2.2.2.1++[[115,112,97,114,101]]).map cdS.enc),false⟩] kr kr ?_
      refine IU rfl ?_;refine AD (n:=28) AC 1 [(3,hd 0 (c1.map AA.enc)),(5,.pt 1 0 0),(6,.sl 5 (x0.map AA.enc)),(7,.j (x0.length:Int)),(8,.j c2)] [mk 5 70 (c1.map AA.enc),some ⟨5,70,[.ag [.v (.int .u8 v4.1),.st v4.2.1,.b v4.2.2.1,.rf 4 0 ((v4.2.2.2.1.length:Int).toNat) ((v4.2.2.2.1++[[115,112,97,114,101]]).length),.j v4.2.2.2.2]],false⟩,none,mk 1 9 ([[115,112,97,114,101]].map cdS.enc),some ⟨1,9,((v4.2.2.2.1++[[115,112,97,114,101]]).map cdS.enc),false⟩] kr ?_;exact AE rfl (Ax [0,1,4] ⟨⟨_,rfl,Nq⟩,⟨_,rfl,Hk⟩,⟨_,rfl,NA⟩,trivial⟩ ⟨N8 (b':=0) kr kr,lv,lv,lv,lv,trivial⟩)
    ·refine Nm (n:=28) AC [(3,hd 0 (c1.map AA.enc)),(5,.pt 1 0 0),(6,.sl 5 (x0.map AA.enc)),(7,.j (x0.length:Int)),(8,.j c2),(13,.sl 1 (v4.2.2.2.1.map cdS.enc)),(15,hd 2 ([[115,112,97,114,101]].map cdS.enc))] [mk 5 70 (c1.map AA.enc),some ⟨5,70,[.ag [.v (.int .u8 v4.1),.st v4.2.1,.b v4.2.2.1,.sl 1 (v4.2.2.2.1.map cdS.enc),.j v4.2.2.2.2]],false⟩,mk 1 9 ([[115,112,97,114,101]].map cdS.enc)] kr kr ?_
     have hk10:=hk5
     refine M1 rfl rfl (D0 v4.2.2.2.1 hk10) rfl (AB rfl) kr (xs:=[.sl 1 (v4.2.2.2.1.map cdS.enc)]) kr kr Dx ?_;rintro x h' (⟨hx,rfl,rfl⟩ | ⟨rfl,rfl⟩)
     ·rw [hx]
      refine RunDX.append AC rfl (AB rfl) rfl rfl (EQ (a:= .e0) (b:=hd 2 ([[115,112,97,114,101]].map cdS.enc)) kr kr (KY (c:=cdS) (vs:=[[115,112,97,114,101]]) (k:=1) (bytes:=16) (el:=9) kr kr (Fz (t:=9) kr) (List.cons_ne_nil _ _) kr)) (EQ (a:= .e0) (b:=hd 2 ([[115,112,97,114,101]].map cdS.enc)) kr kr (KY (c:=cdS) (vs:=[[115,112,97,114,101]]) (k:=1) (bytes:=16) (el:=9) kr kr (Fz (t:=9) kr) (List.cons_ne_nil _ _) kr)) kr ?_;refine EZ (n:=28) AC 2 [(3,hd 0 (c1.map AA.enc)),(5,.pt 1 0 0),(6,.sl 5 (x0.map AA.enc)),(7,.j (x0.length:Int)),(8,.j c2),(16,hd 3 ([[115,112,97,114,101]].map cdS.enc)),(18,.sl 1 (([]:List (List UInt8)).map cdS.enc))] [mk 5 70 (c1.map AA.enc),some ⟨5,70,[.ag [.v (.int .u8 v4.1),.st v4.2.1,.b v4.2.2.1,.sl 1 (([]:List (List UInt8)).map cdS.enc),.j v4.2.2.2.2]],false⟩,mk 1 9 ([[115,112,97,114,101]].map cdS.enc),mk 1 9 ([[115,112,97,114,101]].map cdS.enc)] kr kr ?_;refine RunDX.one AC rfl kr (If kr (AB rfl) rfl (EG (a:= .sl 1 (([]:List (List UInt8)).map cdS.enc)) kr (Cn (el:=9) kr)) kr) ?_;refine EZ (n:=28) AC 2 [(3,hd 0 (c1.map AA.enc)),(5,.pt 1 0 0),(6,.sl 5 (x0.map AA.enc)),(7,.j (x0.length:Int)),(8,.j c2),(20,.rf 3 0 0 1),(21,.pt 1 0 3)] [mk 5 70 (c1.map AA.enc),some ⟨5,70,[.ag [.v (.int .u8 v4.1),.st v4.2.1,.b v4.2.2.1,.sl 1 (([]:List (List UInt8)).map cdS.enc),.j v4.2.2.2.2]],false⟩,mk 1 9 ([[115,112,97,114,101]].map cdS.enc),mk 1 9 ([[115,112,97,114,101]].map cdS.enc)] kr kr ?_;refine IU rfl ?_;refine AD (n:=28) AC 1 [(3,hd 0 (c1.map AA.enc)),(5,.pt 1 0 0),(6,.sl 5 (x0.map AA.enc)),(7,.j (x0.length:Int)),(8,.j c2)] [mk 5 70 (c1.map AA.enc),some ⟨5,70,[.ag [.v (.int .u8 v4.1),.st v4.2.1,.b v4.2.2.1,.rf 3 0 0 1,.j v4.2.2.2.2]],false⟩,mk 1 9 ([[115,112,97,114,101]].map cdS.enc),mk 1 9 ([[115,112,97,114,101]].map cdS.enc)] kr ?_;exact AE rfl (Ax [0,1,3] ⟨⟨_,rfl,Nq⟩,⟨_,rfl,Hk⟩,⟨_,rfl,NA⟩,trivial⟩ ⟨N8 (b':=0) kr kr,lv,lv,lv,lv,trivial⟩)
     ·have hk11:=hk6
      refine RunDX.append AC rfl (AB rfl) rfl rfl (EQ (a:= .rf 3 0 v4.2.2.2.1.length v4.2.2.2.1.length) (b:=hd 2 ([[115,112,97,114,101]].map cdS.enc)) kr kr (JB (c:=cdS) (xs:=v4.2.2.2.1) (vs:=[[115,112,97,114,101]]) (k:=1) (bytes:=16) (el:=9) kr kr (Fz (t:=9) kr) (List.cons_ne_nil _ _) kr hk11)) (EQ (a:= .rf 3 0 v4.2.2.2.1.length v4.2.2.2.1.length) (b:=hd 2 ([[115,112,97,114,101]].map cdS.enc)) kr kr (JB (c:=cdS) (xs:=v4.2.2.2.1) (vs:=[[115,112,97,114,101]]) (k:=1) (bytes:=16) (el:=9) kr kr (Fz (t:=9) kr) (List.cons_ne_nil _ _) kr hk11)) kr ?_;refine EZ (n:=28) AC 2 [(3,hd 0 (c1.map AA.enc)),(5,.pt 1 0 0),(6,.sl 5 (x0.map AA.enc)),(7,.j (x0.length:Int)),(8,.j c2),(16,.rf 4 0 (v4.2.2.2.1++[[115,112,97,114,101]]).length (v4.2.2.2.1++[[115,112,97,114,101]]).length),(18,.sl 1 (v4.2.2.2.1.map cdS.enc))] [mk 5 70 (c1.map AA.enc),some ⟨5,70,[.ag [.v (.int .u8 v4.1),.st v4.2.1,.b v4.2.2.1,.sl 1 (v4.2.2.2.1.map cdS.enc),.j v4.2.2.2.2]],false⟩,mk 1 9 ([[115,112,97,114,101]].map cdS.enc),none,some ⟨1,9,((v4.2.2.2.1++[[115,112,97,114,101]]).map cdS.enc),false⟩] kr kr ?_;refine RunDX.one AC rfl kr (If kr (AB rfl) rfl (EG (a:= .sl 1 (v4.2.2.2.1.map cdS.enc)) kr (Cn (el:=9) kr)) kr) ?_
      have hk12:=hk7
      refine RunDX.one AC rfl kr (If kr (AB rfl) rfl (I7 (a:= .rf 4 0 (v4.2.2.2.1++[[115,112,97,114,101]]).length (v4.2.2.2.1++[[115,112,97,114,101]]).length) (l:=none) (u:=(some (.j (v4.2.2.2.1.length:Int)))) (m:=none) kr kr kr rfl (Oy (xs:=(v4.2.2.2.1++[[115,112,97,114,101]])) (e:=cdS.enc) (t':=9) (k:=1) (el:=9) kr kr kr hk12 (by simp))) kr) ?_;refine EZ (n:=28) AC 1 [(3,hd 0 (c1.map AA.enc)),(5,.pt 1 0 0),(6,.sl 5 (x0.map AA.enc)),(7,.j (x0.length:Int)),(8,.j c2),(20,.rf 4 0 ((v4.2.2.2.1.length:Int).toNat) ((v4.2.2.2.1++[[115,112,97,114,101]]).length)),(21,.pt 1 0 3)] [mk 5 70 (c1.map AA.enc),some ⟨5,70,[.ag [.v (.int .u8 v4.1),.st v4.2.1,.b v4.2.2.1,.sl 1 (v4.2.2.2.1.map cdS.enc),.j v4.2.2.2.2]],false⟩,mk 1 9 ([[115,112,97,114,101]].map cdS.enc),none,some ⟨1,9,((v4.2.2.2.1++[[115,112,97,114,101]]).map cdS.enc),false⟩] kr kr ?_;refine IU rfl ?_;refine AD (n:=28) AC 1 [(3,hd 0 (c1.map AA.enc)),(5,.pt 1 0 0),(6,.sl 5 (x0.map AA.enc)),(7,.j (x0.length:Int)),(8,.j c2)] [mk 5 70 (c1.map AA.enc),some ⟨5,70,[.ag [.v (.int .u8 v4.1),.st v4.2.1,.b v4.2.2.1,.rf 4 0 ((v4.2.2.2.1.length:Int).toNat) ((v4.2.2.2.1++[[115,112,97,114,101]]).length),.j v4.2.2.2.2]],false⟩,mk 1 9 ([[115,112,97,114,101]].map cdS.enc),none,some ⟨1,9,((v4.2.2.2.1++[[115,112,97,114,101]]).map cdS.enc),false⟩] kr ?_;exact AE rfl (Ax [0,1,4] ⟨⟨_,rfl,Nq⟩,⟨_,rfl,Hk⟩,⟨_,rfl,NA⟩,trivial⟩ ⟨N8 (b':=0) kr kr,lv,lv,lv,lv,trivial⟩)
   by_cases hk15:(Du 64 (c1.length + 1))=true
   case neg=>rw [if_neg hk15] at h; cases h
   rw [if_pos hk15] at h;refine AJ (s1:=⟨Fr 28 [(3,hd 0 ((c1++[(v4.1,v4.2.1,v4.2.2.1,((v4.2.2.2.1++[[115,112,97,114,101]]).take ((v4.2.2.2.1.length:Int).toNat)),v4.2.2.2.2)]).map AA.enc)),(6,.sl 5 (x0.map AA.enc)),(7,.j (x0.length:Int)),(8,.j c2)],[mk 5 70 ((c1++[(v4.1,v4.2.1,v4.2.2.1,((v4.2.2.2.1++[[115,112,97,114,101]]).take ((v4.2.2.2.1.length:Int).toNat)),v4.2.2.2.2)]).map AA.enc)]⟩) ?_ ?_
   ·refine AD (n:=28) AC 2 [(6,.sl 5 (x0.map AA.enc)),(7,.j (x0.length:Int)),(8,.j c2),(22,hd 0 (c1.map AA.enc)),(23,.ag [.v (.int .u8 v4.1),.st v4.2.1,.b v4.2.2.1,.rf 2 0 ((v4.2.2.2.1.length:Int).toNat) ((v4.2.2.2.1++[[115,112,97,114,101]]).length),.j v4.2.2.2.2])] [mk 5 70 (c1.map AA.enc),some ⟨5,70,[.ag [.v (.int .u8 v4.1),.st v4.2.1,.b v4.2.2.1,.rf 2 0 ((v4.2.2.2.1.length:Int).toNat) ((v4.2.2.2.1++[[115,112,97,114,101]]).length),.j v4.2.2.2.2]],false⟩,some ⟨1,9,((v4.2.2.2.1++[[115,112,97,114,101]]).map cdS.enc),false⟩] kr ?_
    refine Rn (s1:=⟨Fr 28 [(6,.sl 5 (x0.map AA.enc)),(7,.j (x0.length:Int)),(8,.j c2),(22,hd 0 (c1.map AA.enc)),(23,.ag [.v (.int .u8 v4.1),.st v4.2.1,.b v4.2.2.1,.sl 1 (((v4.2.2.2.1++[[115,112,97,114,101]]).take ((v4.2.2.2.1.length:Int).toNat)).map cdS.enc),.j v4.2.2.2.2])],[mk 5 70 (c1.map AA.enc),some ⟨5,70,[.ag [.v (.int .u8 v4.1),.st v4.2.1,.b v4.2.2.1,.sl 1 (((v4.2.2.2.1++[[115,112,97,114,101]]).take ((v4.2.2.2.1.length:Int).toNat)).map cdS.enc),.j v4.2.2.2.2]],false⟩,none]⟩) (Qb 2 (.inl kr) ⟨.inr (.inl rfl),.inr (.inr ⟨_,_,_,_,rfl,rfl,⟨(.inr ⟨_,_,rfl,rfl,⟨.inl rfl,.inl rfl,.inl rfl,Rb (c:=cdS) (xs:=(v4.2.2.2.1++[[115,112,97,114,101]])) (t:=9) kr (GR hk7).2.2.2,.inl rfl,trivial⟩⟩),trivial⟩⟩),.inl rfl,trivial⟩ ⟨⟨.sl 5 (x0.map AA.enc),kr,(.inl (.inl rfl))⟩,⟨.j (x0.length:Int),kr,(.inl (.inl rfl))⟩,⟨.j c2,kr,(.inl (.inl rfl))⟩,⟨hd 0 (c1.map AA.enc),kr,(.inl (.inl rfl))⟩,⟨.ag [.v (.int .u8 v4.1),.st v4.2.1,.b v4.2.2.1,.rf 2 0 ((v4.2.2.2.1.length:Int).toNat) ((v4.2.2.2.1++[[115,112,97,114,101]]).length),.j v4.2.2.2.2],kr,(.inr ⟨_,_,rfl,rfl,⟨.inl rfl,.inl rfl,.inl rfl,Rb (c:=cdS) (xs:=(v4.2.2.2.1++[[115,112,97,114,101]])) (t:=9) kr (GR hk7).2.2.2,.inl rfl,trivial⟩⟩)⟩,trivial⟩) ?_;refine AD (n:=28) AC 1 [(6,.sl 5 (x0.map AA.enc)),(7,.j (x0.length:Int)),(8,.j c2),(22,hd 0 (c1.map AA.enc)),(24,hd 3 ([(v4.1,v4.2.1,v4.2.2.1,((v4.2.2.2.1++[[115,112,97,114,101]]).take ((v4.2.2.2.1.length:Int).toNat)),v4.2.2.2.2)].map AA.enc))] [mk 5 70 (c1.map AA.enc),some ⟨5,70,[.ag [.v (.int .u8 v4.1),.st v4.2.1,.b v4.2.2.1,.sl 1 (((v4.2.2.2.1++[[115,112,97,114,101]]).take ((v4.2.2.2.1.length:Int).toNat)).map cdS.enc),.j v4.2.2.2.2]],false⟩,none,mk 5 70 ([(v4.1,v4.2.1,v4.2.2.1,((v4.2.2.2.1++[[115,112,97,114,101]]).take ((v4.2.2.2.1.length:Int).toNat)),v4.2.2.2.2)].map AA.enc)] kr ?_;refine AK AC 0 rfl (S0 (AB rfl) rfl kr kr (EQ (a:=hd 0 (c1.map AA.enc)) (b:=hd 3 ([(v4.1,v4.2.1,v4.2.2.1,((v4.2.2.2.1++[[115,112,97,114,101]]).take ((v4.2.2.2.1.length:Int).toNat)),v4.2.2.2.2)].map AA.enc)) kr kr (Qe (c:=AA) (xs:=c1) (vs:=[(v4.1,v4.2.1,v4.2.2.1,((v4.2.2.2.1++[[115,112,97,114,101]]).take ((v4.2.2.2.1.length:Int).toNat)),v4.2.2.2.2)]) (k:=5) (bytes:=64) (el:=70) kr kr (Fz (t:=70) kr) (List.cons_ne_nil _ _) kr hk15))) ?_
    refine AD (n:=28) AC 1 [(3,hd 4 ((c1++[(v4.1,v4.2.1,v4.2.2.1,((v4.2.2.2.1++[[115,112,97,114,101]]).take ((v4.2.2.2.1.length:Int).toNat)),v4.2.2.2.2)]).map AA.enc)),(6,.sl 5 (x0.map AA.enc)),(7,.j (x0.length:Int)),(8,.j c2)] [none,some ⟨5,70,[.ag [.v (.int .u8 v4.1),.st v4.2.1,.b v4.2.2.1,.sl 1 (((v4.2.2.2.1++[[115,112,97,114,101]]).take ((v4.2.2.2.1.length:Int).toNat)).map cdS.enc),.j v4.2.2.2.2]],false⟩,none,mk 5 70 ([(v4.1,v4.2.1,v4.2.2.1,((v4.2.2.2.1++[[115,112,97,114,101]]).take ((v4.2.2.2.1.length:Int).toNat)),v4.2.2.2.2)].map AA.enc),mk 5 70 ((c1++[(v4.1,v4.2.1,v4.2.2.1,((v4.2.2.2.1++[[115,112,97,114,101]]).take ((v4.2.2.2.1.length:Int).toNat)),v4.2.2.2.2)]).map AA.enc)] kr ?_;exact AE rfl (Ax [4] ⟨⟨_,rfl,Nq⟩,trivial⟩ ⟨N8 (b':=4) kr kr,lv,lv,lv,trivial⟩)
   refine DE AC [(3,hd 0 ((c1++[(v4.1,v4.2.1,v4.2.2.1,((v4.2.2.2.1++[[115,112,97,114,101]]).take ((v4.2.2.2.1.length:Int).toNat)),v4.2.2.2.2)]).map AA.enc)),(6,.sl 5 (x0.map AA.enc)),(7,.j (x0.length:Int)),(8,.j (wr .i64 (c2 + 1)))] [mk 5 70 ((c1++[(v4.1,v4.2.1,v4.2.2.1,((v4.2.2.2.1++[[115,112,97,114,101]]).take ((v4.2.2.2.1.length:Int).toNat)),v4.2.2.2.2)]).map AA.enc)] ?_;exact Aw (s1:=⟨Fr 28 [(3,hd 0 ((c1++[(v4.1,v4.2.1,v4.2.2.1,((v4.2.2.2.1++[[115,112,97,114,101]]).take ((v4.2.2.2.1.length:Int).toNat)),v4.2.2.2.2)]).map AA.enc)),(6,.sl 5 (x0.map AA.enc)),(7,.j (x0.length:Int)),(8,.j (wr .i64 (c2 + 1)))],[mk 5 70 ((c1++[(v4.1,v4.2.1,v4.2.2.1,((v4.2.2.2.1++[[115,112,97,114,101]]).take ((v4.2.2.2.1.length:Int).toNat)),v4.2.2.2.2)]).map AA.enc)]⟩) (Ax [0] ⟨⟨_,rfl,Nq⟩,trivial⟩ ⟨N8 (b':=0) kr kr,lv,lv,lv,trivial⟩) (ih (c1++[(v4.1,v4.2.1,v4.2.2.1,((v4.2.2.2.1++[[115,112,97,114,101]]).take ((v4.2.2.2.1.length:Int).toNat)),v4.2.2.2.2)]) (wr .i64 (c2 + 1)) h)
  ·rw [Bu hb3] at h
   refine Co ?_;have hq:=OI h; subst hq;exact ⟨rfl,(Ax [0] ⟨⟨_,rfl,Nq⟩,trivial⟩ ⟨N8 (b':=0) kr kr,trivial⟩)⟩
theorem Lf (x0:(List AG)) (r:(List AG)) (h:FI x0=some r):Sem E0 ⟨none,false⟩ HO ⟨Fr 28 (BG 0 (HT.enc (x0,()))),[]⟩ fun e s'=>(e = .normal\/e = .ret)/\∃ xs,ED E0.P s'.fr s'.hp Tryz.f51.results.toList=some xs/\EJ xs=HZ r:=by
 unfold FI at h
 let p1:Nat×AV:=(0,.sl 5 (x0.map AA.enc))
 refine BD (Bw (s1:=⟨Fr 28 [p1],[]⟩) AH ?_);refine AL AC [p1] [] ?_;refine AL AC [p1,(3,.e0)] [] ?_;refine AF ?_;refine AF ?_
 let p2:Nat×AV:=(8,.j 0)
 let p3:Nat×AV:=(7,.j (x0.length:Int))
 let p4:Nat×AV:=(6,.sl 5 (x0.map AA.enc))
 refine AJ (s1:=⟨Fr 28 [(3,.e0),p4,p3,p2],[]⟩) ?_ ?_
 ·refine AD (n:=28) AC 1 [(3,.e0),p4] [] kr ?_
  refine AK AC 0 rfl (Bi (AB rfl) rfl (EG (a:= .sl 5 (x0.map AA.enc)) kr (Cn (el:=70) kr))) ?_;exact AW AC
 refine Aq ?_;obtain ⟨r17,hr17,h⟩:=OB h;refine Cp (n:=100000) ?_
 let p5:Nat×AV:=(3,hd 0 ([].map AA.enc))
 refine BH (Aw (s1:=⟨Fr 28 [p5,p4,p3,p2],[mk 5 70 ([].map AA.enc)]⟩) (Wk.trans (s1:=⟨Fr 28 [p5,p4,p3,p2],[mk 5 70 ([].map AA.enc)]⟩) Wk.none (Ax [0] ⟨⟨_,rfl,Rv⟩,trivial⟩ ⟨lv,lv,lv,lv,trivial⟩)) (KM x0 _ [] 0 _ hr17)) ?_;refine AL AC [(2,hd 0 (r17.map AA.enc))] [mk 5 70 (r17.map AA.enc)] ?_;refine AS ?_;have hq:=OI h; subst hq
 let p6:Nat×AV:=(2,.sl 5 (r17.map AA.enc))
 exact ⟨⟨Fr 28 [p6],[]⟩,(Wk.trans (s1:=⟨Fr 28 [p6],[none]⟩) (Rr 0 (.inl kr) ⟨.inl rfl,trivial⟩ ⟨⟨hd 0 (r17.map AA.enc),kr,UM (t:=70) kr Oa⟩,trivial⟩) (Ax [] trivial ⟨lv,trivial⟩)),.inr rfl,[.sl 5 (r17.map AA.enc)],kr,kr⟩
def NV:List AV->Option AV:=EN HT (fun a=>FI a.1) HZ
theorem Nh:XOk 51 NV:=by
 refine Af Tryz.func51 (c:=HO) ?h2 ⟨Tryz.call51⟩ HT (fun a=>FI a.1) HZ (fun a=>(by show 1<=28; decide)) ?h3 ?h4
 case h2=>kernel_rfl
 case h3=>intro b; kernel_rfl
 case h4=>exact fun a b h=>Lf a.1 b h
/- trestle/trestleref03.between -/
noncomputable def Ho:Code:=Bg Tryz.f150
def A8 (x0:Int) (x1:Int) (x2:Int):Option (Bool) :=
 (if (decide (x1<=x0))=true then some (decide (x0<=x2)) else some false).bind fun j2 =>
 some j2
def Fd:Cs (Int×Int×Int×Unit):=(csC cdI (csC cdI (csC cdI csN)))
def Fk (r:Bool):AV:=cdB.enc r
theorem J4 (x0:Int) (x1:Int) (x2:Int) (r:Bool) (h:A8 x0 x1 x2=some r):Sem E0 ⟨none,false⟩ Ho ⟨Fr 15 (BG 0 (Fd.enc (x0,x1,x2,()))),[]⟩ fun e s'=>(e = .normal\/e = .ret)/\∃ xs,ED E0.P s'.fr s'.hp Tryz.f150.results.toList=some xs/\EJ xs=Fk r:=by
 unfold A8 at h;refine BD (Bw (s1:=⟨Fr 15 [(0,.j x0),(1,.j x1),(2,.j x2)],[]⟩) AH ?_);refine AL AC [(0,.j x0),(1,.j x1),(2,.j x2)] [] ?_;refine AF ?_;obtain ⟨j2,hj2,h⟩:=OB h;refine AJ (s1:=⟨Fr 15 [(6,.b j2)],[]⟩) ?_ ?_
 ·refine AD (n:=15) AC 4 [(0,.j x0),(2,.j x2),(10,.b (decide (x1<=x0)))] [] kr ?_
  rcases BE (decide (x1<=x0)) with hc3 | hc3
  ·rw [if_pos hc3] at hj2
   rw [hc3];refine AD (n:=15) AC 5 [(6,.b (decide (x0<=x2)))] [] kr ?_;have hq:=OI hj2; subst hq;exact AE rfl AH
  ·rw [Bu hc3] at hj2
   rw [hc3];refine AD (n:=15) AC 5 [(6,.b false)] [] kr ?_;have hq:=OI hj2; subst hq;exact AE rfl AH
 refine AS ?_;have hq:=OI h; subst hq;exact ⟨⟨Fr 15 [(6,.b j2)],[]⟩,AH,.inr rfl,[.b j2],kr,kr⟩
def LJ:List AV->Option AV:=EN Fd (fun a=>A8 a.1 a.2.1 a.2.2.1) Fk
theorem FA:XOk 150 LJ:=by
 refine Af Tryz.func150 (c:=Ho) ?h2 ⟨Tryz.call150⟩ Fd (fun a=>A8 a.1 a.2.1 a.2.2.1) Fk (fun a=>(by show 3<=15; decide)) ?h3 ?h4
 case h2=>kernel_rfl
 case h3=>intro b; kernel_rfl
 case h4=>exact fun a b h=>J4 a.1 a.2.1 a.2.2.1 b h
/- trestle/trestleref03.formed -/
noncomputable def Da:Code:=Bg Tryz.f136
def Df (x0:AG):Option ((Bool)) :=
 if (x0.1==8)=true then
 some (x0.1==8)
 else
 some (x0.1==9)
def De (x0:AG):Option ((Bool)) :=
 if (x0.1==3)=true then
 some (x0.1==3)
 else
 (Df x0).bind fun r14 =>
 some r14
def Dd (x0:AG):Option ((Bool)) :=
 if (x0.1==2)=true then
 some (x0.1==2)
 else
 (De x0).bind fun r15 =>
 some r15
def Dg (x0:AG):Option ((Bool)) :=
 if (x0.1==6)=true then
 some (x0.1==6)
 else
 some (x0.1==7)
def Aj (x0:AG):Option (Bool) :=
 if (x0.1==1)=true then
 (A8 (x0.2.2.2.1.length:Int) 1 16).bind fun v2 =>
 (if v2=true then if (x0.2.2.2.2==0)=true then if (!x0.2.2.1)=true then some (x0.2.1==[]) else some false else some false else some false).bind fun j4 =>
 some j4
 else
 (Dd x0).bind fun r16 =>
 if r16=true then
 (if ((x0.2.2.2.1.length:Int)==0)=true then if (x0.2.2.2.2==0)=true then some (!x0.2.2.1) else some false else some false).bind fun j19 =>
 some j19
 else
 if (x0.1==4)=true then
 (if ((x0.2.2.2.1.length:Int)==0)=true then (A8 x0.2.2.2.2 1 2).bind fun v23 =>
 some v23 else some false).bind fun j25 =>
 some j25
 else
 if (x0.1==5)=true then
 (if ((x0.2.2.2.1.length:Int)==0)=true then some (x0.2.2.2.2==0) else some false).bind fun j29 =>
 some j29
 else
 (Dg x0).bind fun r33 =>
 if r33=true then
 (A8 (x0.2.2.2.1.length:Int) 1 16).bind fun v35 =>
 (if v35=true then some (x0.2.2.2.2==0) else some false).bind fun j37 =>
 some j37
 else
 if (x0.1==10)=true then
 (if ((x0.2.2.2.1.length:Int)==0)=true then (A8 x0.2.2.2.2 0 63).bind fun v40 =>
 if v40=true then some (!x0.2.2.1) else some false else some false).bind fun j42 =>
 some j42
 else
 some false
def GN:Cs (AG×Unit):=(csC AA csN)
def GW (r:Bool):AV:=cdB.enc r
theorem Jg (x0:AG) (r:(Bool)) (h:Df x0=some r):Sem E0 ⟨none,false⟩ (pc Da [1,1,0,1,0,1,1,0,1,1,1,1,1]) ⟨Fr 87 [(1,.pt 0 0 0),(3,.j (x0.2.2.2.1.length:Int)),(8,.v (.int .u8 x0.1)),(28,.b (x0.1==8))],[some ⟨5,70,[AA.enc x0],false⟩]⟩ (fun e s=>e = .normal/\Wk E0 s ⟨Fr 87 [(1,.pt 0 0 0),(3,.j (x0.2.2.2.1.length:Int)),(8,.v (.int .u8 x0.1)),(28,.b r)],[some ⟨5,70,[AA.enc x0],false⟩]⟩):=by
 unfold Df at h;refine AN (b:=(x0.1==8)) kr (fun hb12=>?_) (fun hb12=>?_)
 ·rw [if_pos hb12] at h
  refine AY ?_;have hq:=OI h; subst hq;exact ⟨rfl,(Ax [0] ⟨⟨_,rfl,Hk⟩,trivial⟩ ⟨lv,lv,lv,lv,trivial⟩)⟩
 ·rw [Bu hb12] at h
  refine DE AC [(1,.pt 0 0 0),(3,.j (x0.2.2.2.1.length:Int)),(8,.v (.int .u8 x0.1)),(28,.b (x0.1==9))] [some ⟨5,70,[AA.enc x0],false⟩] ?_;have hq:=OI h; subst hq;exact ⟨rfl,(Ax [0] ⟨⟨_,rfl,Hk⟩,trivial⟩ ⟨lv,lv,lv,lv,trivial⟩)⟩
theorem Jf (x0:AG) (r:(Bool)) (h:De x0=some r):Sem E0 ⟨none,false⟩ (pc Da [1,1,0,1,0,1,1,0,1,1,1]) ⟨Fr 87 [(1,.pt 0 0 0),(3,.j (x0.2.2.2.1.length:Int)),(8,.v (.int .u8 x0.1)),(28,.b (x0.1==3))],[some ⟨5,70,[AA.enc x0],false⟩]⟩ (fun e s=>e = .normal/\Wk E0 s ⟨Fr 87 [(1,.pt 0 0 0),(3,.j (x0.2.2.2.1.length:Int)),(8,.v (.int .u8 x0.1)),(28,.b r)],[some ⟨5,70,[AA.enc x0],false⟩]⟩):=by
 unfold De at h;refine AN (b:=(x0.1==3)) kr (fun hb10=>?_) (fun hb10=>?_)
 ·rw [if_pos hb10] at h
  refine AY ?_;have hq:=OI h; subst hq;exact ⟨rfl,(Ax [0] ⟨⟨_,rfl,Hk⟩,trivial⟩ ⟨lv,lv,lv,lv,trivial⟩)⟩
 ·rw [Bu hb10] at h
  refine AL AC [(1,.pt 0 0 0),(3,.j (x0.2.2.2.1.length:Int)),(8,.v (.int .u8 x0.1)),(28,.b (x0.1==8))] [some ⟨5,70,[AA.enc x0],false⟩] ?_;obtain ⟨r14,hr14,h⟩:=OB h;refine C2 (Jg x0 _ hr14) ?_;have hq:=OI h; subst hq;exact ⟨rfl,(Ax [0] ⟨⟨_,rfl,Hk⟩,trivial⟩ ⟨lv,lv,lv,lv,trivial⟩)⟩
theorem Je (x0:AG) (r:(Bool)) (h:Dd x0=some r):Sem E0 ⟨none,false⟩ (pc Da [1,1,0,1,0,1,1,0,1]) ⟨Fr 87 [(1,.pt 0 0 0),(3,.j (x0.2.2.2.1.length:Int)),(8,.v (.int .u8 x0.1)),(28,.b (x0.1==2))],[some ⟨5,70,[AA.enc x0],false⟩]⟩ (fun e s=>e = .normal/\Wk E0 s ⟨Fr 87 [(1,.pt 0 0 0),(3,.j (x0.2.2.2.1.length:Int)),(8,.v (.int .u8 x0.1)),(28,.b r)],[some ⟨5,70,[AA.enc x0],false⟩]⟩):=by
 unfold Dd at h;refine AN (b:=(x0.1==2)) kr (fun hb8=>?_) (fun hb8=>?_)
 ·rw [if_pos hb8] at h
  refine AY ?_;have hq:=OI h; subst hq;exact ⟨rfl,(Ax [0] ⟨⟨_,rfl,Hk⟩,trivial⟩ ⟨lv,lv,lv,lv,trivial⟩)⟩
 ·rw [Bu hb8] at h
  refine AL AC [(1,.pt 0 0 0),(3,.j (x0.2.2.2.1.length:Int)),(8,.v (.int .u8 x0.1)),(28,.b (x0.1==3))] [some ⟨5,70,[AA.enc x0],false⟩] ?_;obtain ⟨r15,hr15,h⟩:=OB h;refine C2 (Jf x0 _ hr15) ?_;have hq:=OI h; subst hq;exact ⟨rfl,(Ax [0] ⟨⟨_,rfl,Hk⟩,trivial⟩ ⟨lv,lv,lv,lv,trivial⟩)⟩
theorem Jh (x0:AG) (r:(Bool)) (h:Dg x0=some r):Sem E0 ⟨none,false⟩ (pc Da [1,1,0,1,0,1,1,1,1,1,1,1,1,0,1]) ⟨Fr 87 [(1,.pt 0 0 0),(3,.j (x0.2.2.2.1.length:Int)),(8,.v (.int .u8 x0.1)),(63,.b (x0.1==6))],[some ⟨5,70,[AA.enc x0],false⟩]⟩ (fun e s=>e = .normal/\Wk E0 s ⟨Fr 87 [(1,.pt 0 0 0),(3,.j (x0.2.2.2.1.length:Int)),(8,.v (.int .u8 x0.1)),(63,.b r)],[some ⟨5,70,[AA.enc x0],false⟩]⟩):=by
 unfold Dg at h;refine AN (b:=(x0.1==6)) kr (fun hb31=>?_) (fun hb31=>?_)
 ·rw [if_pos hb31] at h
  refine AY ?_;have hq:=OI h; subst hq;exact ⟨rfl,(Ax [0] ⟨⟨_,rfl,Hk⟩,trivial⟩ ⟨lv,lv,lv,lv,trivial⟩)⟩
 ·rw [Bu hb31] at h
  refine DE AC [(1,.pt 0 0 0),(3,.j (x0.2.2.2.1.length:Int)),(8,.v (.int .u8 x0.1)),(63,.b (x0.1==7))] [some ⟨5,70,[AA.enc x0],false⟩] ?_;have hq:=OI h; subst hq;exact ⟨rfl,(Ax [0] ⟨⟨_,rfl,Hk⟩,trivial⟩ ⟨lv,lv,lv,lv,trivial⟩)⟩
theorem KP (x0:AG) (r:Bool) (h:Aj x0=some r):Sem E0 ⟨none,false⟩ Da ⟨Fr 87 (BG 0 (GN.enc (x0,()))),[]⟩ fun e s'=>(e = .normal\/e = .ret)/\∃ xs,ED E0.P s'.fr s'.hp Tryz.f136.results.toList=some xs/\EJ xs=GW r:=by
 unfold Aj at h;refine BD (Bw (s1:=⟨Fr 87 [(0,AA.enc x0)],[]⟩) AH ?_);refine AL AC [(1,.pt 0 0 0)] [some ⟨5,70,[AA.enc x0],false⟩] ?_;refine AF ?_;refine AJ (s1:=⟨Fr 87 [(1,.pt 0 0 0),(3,.j (x0.2.2.2.1.length:Int))],[some ⟨5,70,[AA.enc x0],false⟩]⟩) ?_ ?_
 ·refine AD (n:=87) AC 2 [(1,.pt 0 0 0),(5,.sl 1 (x0.2.2.2.1.map cdS.enc))] [some ⟨5,70,[AA.enc x0],false⟩] kr ?_
  refine AK AC 0 rfl (Bi (AB rfl) rfl (EG (a:= .sl 1 (x0.2.2.2.1.map cdS.enc)) kr (Cn (el:=9) kr))) ?_;exact AW AC
 refine AF ?_;refine AL AC [(1,.pt 0 0 0),(3,.j (x0.2.2.2.1.length:Int)),(8,.v (.int .u8 x0.1))] [some ⟨5,70,[AA.enc x0],false⟩] ?_;refine Aq ?_;refine AL AC [(1,.pt 0 0 0),(3,.j (x0.2.2.2.1.length:Int)),(8,.v (.int .u8 x0.1)),(9,.b (x0.1==1))] [some ⟨5,70,[AA.enc x0],false⟩] ?_;refine AN (b:=(x0.1==1)) kr (fun hb1=>?_) (fun hb1=>?_)
 ·rw [if_pos hb1] at h
  refine AF ?_;obtain ⟨v2,hv2,h⟩:=OB h;obtain ⟨j4,hj4,h⟩:=OB h;refine AJ (s1:=⟨Fr 87 [(2,.b j4)],[]⟩) ?_ ?_
  ·refine AD (n:=87) AC 1 [(1,.pt 0 0 0),(11,.j (x0.2.2.2.1.length:Int))] [some ⟨5,70,[AA.enc x0],false⟩] kr ?_
   refine AO (caps:=[]) (xs:=[.j (x0.2.2.2.1.length:Int),.j 1,.j 16]) (u:=((x0.2.2.2.1.length:Int),1,16,())) rfl rfl FA rfl (AB rfl) kr kr (AT (Ap (c:=cdI) (v:=(x0.2.2.2.1.length:Int))) (AT (Ap (c:=cdI) (v:=1)) (AT (Ap (c:=cdI) (v:=16)) Ay))) (.inl kr) hv2 ?_;refine AD (n:=87) AC 1 [(1,.pt 0 0 0),(13,.b v2)] [some ⟨5,70,[AA.enc x0],false⟩] kr ?_;rcases BE v2 with hc5 | hc5
   ·rw [if_pos hc5] at hj4
    rw [hc5];refine AD (n:=87) AC 5 [(1,.pt 0 0 0),(18,.b (x0.2.2.2.2==0))] [some ⟨5,70,[AA.enc x0],false⟩] kr ?_;rcases BE (x0.2.2.2.2==0) with hc6 | hc6
    ·rw [if_pos hc6] at hj4
     rw [hc6];refine AD (n:=87) AC 5 [(1,.pt 0 0 0),(23,.b (!x0.2.2.1))] [some ⟨5,70,[AA.enc x0],false⟩] kr ?_;rcases BE (!x0.2.2.1) with hc7 | hc7
     ·rw [if_pos hc7] at hj4
      rw [hc7];refine AD (n:=87) AC 5 [(2,.b (x0.2.1==[]))] [some ⟨5,70,[AA.enc x0],false⟩] kr ?_;have hq:=OI hj4; subst hq;exact AE rfl (Ax [] trivial ⟨lv,trivial⟩)
     ·rw [Bu hc7] at hj4
      rw [hc7];refine AD (n:=87) AC 5 [(2,.b false)] [some ⟨5,70,[AA.enc x0],false⟩] kr ?_;have hq:=OI hj4; subst hq;exact AE rfl (Ax [] trivial ⟨lv,trivial⟩)
    ·rw [Bu hc6] at hj4
     rw [hc6];refine AD (n:=87) AC 10 [(2,.b false)] [some ⟨5,70,[AA.enc x0],false⟩] kr ?_;have hq:=OI hj4; subst hq;exact AE rfl (Ax [] trivial ⟨lv,trivial⟩)
   ·rw [Bu hc5] at hj4
    rw [hc5];refine AD (n:=87) AC 15 [(2,.b false)] [some ⟨5,70,[AA.enc x0],false⟩] kr ?_;have hq:=OI hj4; subst hq;exact AE rfl (Ax [] trivial ⟨lv,trivial⟩)
  refine AS ?_;have hq:=OI h; subst hq;exact ⟨⟨Fr 87 [(2,.b j4)],[]⟩,AH,.inr rfl,[.b j4],kr,kr⟩
 ·rw [Bu hb1] at h
  refine AF ?_;refine AL AC [(1,.pt 0 0 0),(3,.j (x0.2.2.2.1.length:Int)),(8,.v (.int .u8 x0.1)),(28,.b (x0.1==2))] [some ⟨5,70,[AA.enc x0],false⟩] ?_;obtain ⟨r16,hr16,h⟩:=OB h;refine C2 (Je x0 _ hr16) ?_;refine AN (b:=r16) kr (fun hb17=>?_) (fun hb17=>?_)
  ·rw [if_pos hb17] at h
   refine AF ?_;obtain ⟨j19,hj19,h⟩:=OB h;refine AJ (s1:=⟨Fr 87 [(2,.b j19)],[]⟩) ?_ ?_
   ·refine AD (n:=87) AC 3 [(1,.pt 0 0 0),(35,.b ((x0.2.2.2.1.length:Int)==0))] [some ⟨5,70,[AA.enc x0],false⟩] kr ?_
    rcases BE ((x0.2.2.2.1.length:Int)==0) with hc20 | hc20
    ·rw [if_pos hc20] at hj19
     rw [hc20];refine AD (n:=87) AC 5 [(1,.pt 0 0 0),(40,.b (x0.2.2.2.2==0))] [some ⟨5,70,[AA.enc x0],false⟩] kr ?_;rcases BE (x0.2.2.2.2==0) with hc21 | hc21
     ·rw [if_pos hc21] at hj19
      rw [hc21];refine AD (n:=87) AC 5 [(2,.b (!x0.2.2.1))] [some ⟨5,70,[AA.enc x0],false⟩] kr ?_;have hq:=OI hj19; subst hq;exact AE rfl (Ax [] trivial ⟨lv,trivial⟩)
     ·rw [Bu hc21] at hj19
      rw [hc21];refine AD (n:=87) AC 5 [(2,.b false)] [some ⟨5,70,[AA.enc x0],false⟩] kr ?_;have hq:=OI hj19; subst hq;exact AE rfl (Ax [] trivial ⟨lv,trivial⟩)
    ·rw [Bu hc20] at hj19
     rw [hc20];refine AD (n:=87) AC 10 [(2,.b false)] [some ⟨5,70,[AA.enc x0],false⟩] kr ?_;have hq:=OI hj19; subst hq;exact AE rfl (Ax [] trivial ⟨lv,trivial⟩)
   refine AS ?_;have hq:=OI h; subst hq;exact ⟨⟨Fr 87 [(2,.b j19)],[]⟩,AH,.inr rfl,[.b j19],kr,kr⟩
  ·rw [Bu hb17] at h
   refine AL AC [(1,.pt 0 0 0),(3,.j (x0.2.2.2.1.length:Int)),(8,.v (.int .u8 x0.1)),(45,.b (x0.1==4))] [some ⟨5,70,[AA.enc x0],false⟩] ?_;refine AN (b:=(x0.1==4)) kr (fun hb22=>?_) (fun hb22=>?_)
   ·rw [if_pos hb22] at h
    refine AF ?_;obtain ⟨j25,hj25,h⟩:=OB h;refine AJ (s1:=⟨Fr 87 [(2,.b j25)],[]⟩) ?_ ?_
    ·refine AD (n:=87) AC 3 [(1,.pt 0 0 0),(49,.b ((x0.2.2.2.1.length:Int)==0))] [some ⟨5,70,[AA.enc x0],false⟩] kr ?_
     rcases BE ((x0.2.2.2.1.length:Int)==0) with hc26 | hc26
     ·rw [if_pos hc26] at hj25
      rw [hc26];refine AD (n:=87) AC 2 [(49,.b true),(51,.j x0.2.2.2.2)] [some ⟨5,70,[AA.enc x0],false⟩] kr ?_;obtain ⟨v23,hv23,hj25⟩:=OB hj25;refine AO (caps:=[]) (xs:=[.j x0.2.2.2.2,.j 1,.j 2]) (u:=(x0.2.2.2.2,1,2,())) rfl rfl FA rfl kr kr kr (AT (Ap (c:=cdI) (v:=x0.2.2.2.2)) (AT (Ap (c:=cdI) (v:=1)) (AT (Ap (c:=cdI) (v:=2)) Ay))) (.inl kr) hv23 ?_;refine AD (n:=87) AC 2 [(2,.b v23)] [some ⟨5,70,[AA.enc x0],false⟩] kr ?_;have hq:=OI hj25; subst hq;exact AE rfl (Ax [] trivial ⟨lv,trivial⟩)
     ·rw [Bu hc26] at hj25
      rw [hc26];refine AD (n:=87) AC 5 [(2,.b false)] [some ⟨5,70,[AA.enc x0],false⟩] kr ?_;have hq:=OI hj25; subst hq;exact AE rfl (Ax [] trivial ⟨lv,trivial⟩)
    refine AS ?_;have hq:=OI h; subst hq;exact ⟨⟨Fr 87 [(2,.b j25)],[]⟩,AH,.inr rfl,[.b j25],kr,kr⟩
   ·rw [Bu hb22] at h
    refine AL AC [(1,.pt 0 0 0),(3,.j (x0.2.2.2.1.length:Int)),(8,.v (.int .u8 x0.1)),(54,.b (x0.1==5))] [some ⟨5,70,[AA.enc x0],false⟩] ?_;refine AN (b:=(x0.1==5)) kr (fun hb27=>?_) (fun hb27=>?_)
    ·rw [if_pos hb27] at h
     refine AF ?_;obtain ⟨j29,hj29,h⟩:=OB h;refine AJ (s1:=⟨Fr 87 [(2,.b j29)],[]⟩) ?_ ?_
     ·refine AD (n:=87) AC 3 [(1,.pt 0 0 0),(58,.b ((x0.2.2.2.1.length:Int)==0))] [some ⟨5,70,[AA.enc x0],false⟩] kr ?_
      rcases BE ((x0.2.2.2.1.length:Int)==0) with hc30 | hc30
      ·rw [if_pos hc30] at hj29
       rw [hc30];refine AD (n:=87) AC 5 [(2,.b (x0.2.2.2.2==0))] [some ⟨5,70,[AA.enc x0],false⟩] kr ?_;have hq:=OI hj29; subst hq;exact AE rfl (Ax [] trivial ⟨lv,trivial⟩)
      ·rw [Bu hc30] at hj29
       rw [hc30];refine AD (n:=87) AC 5 [(2,.b false)] [some ⟨5,70,[AA.enc x0],false⟩] kr ?_;have hq:=OI hj29; subst hq;exact AE rfl (Ax [] trivial ⟨lv,trivial⟩)
     refine AS ?_;have hq:=OI h; subst hq;exact ⟨⟨Fr 87 [(2,.b j29)],[]⟩,AH,.inr rfl,[.b j29],kr,kr⟩
    ·rw [Bu hb27] at h
     refine AF ?_;refine AL AC [(1,.pt 0 0 0),(3,.j (x0.2.2.2.1.length:Int)),(8,.v (.int .u8 x0.1)),(63,.b (x0.1==6))] [some ⟨5,70,[AA.enc x0],false⟩] ?_;obtain ⟨r33,hr33,h⟩:=OB h;refine C2 (Jh x0 _ hr33) ?_;refine AN (b:=r33) kr (fun hb34=>?_) (fun hb34=>?_)
     ·rw [if_pos hb34] at h
      refine AF ?_;obtain ⟨v35,hv35,h⟩:=OB h;obtain ⟨j37,hj37,h⟩:=OB h;refine AJ (s1:=⟨Fr 87 [(2,.b j37)],[]⟩) ?_ ?_
      ·refine AD (n:=87) AC 1 [(1,.pt 0 0 0),(66,.j (x0.2.2.2.1.length:Int))] [some ⟨5,70,[AA.enc x0],false⟩] kr ?_
       refine AO (caps:=[]) (xs:=[.j (x0.2.2.2.1.length:Int),.j 1,.j 16]) (u:=((x0.2.2.2.1.length:Int),1,16,())) rfl rfl FA rfl (AB rfl) kr kr (AT (Ap (c:=cdI) (v:=(x0.2.2.2.1.length:Int))) (AT (Ap (c:=cdI) (v:=1)) (AT (Ap (c:=cdI) (v:=16)) Ay))) (.inl kr) hv35 ?_;refine AD (n:=87) AC 1 [(1,.pt 0 0 0),(68,.b v35)] [some ⟨5,70,[AA.enc x0],false⟩] kr ?_;rcases BE v35 with hc38 | hc38
       ·rw [if_pos hc38] at hj37
        rw [hc38];refine AD (n:=87) AC 5 [(2,.b (x0.2.2.2.2==0))] [some ⟨5,70,[AA.enc x0],false⟩] kr ?_;have hq:=OI hj37; subst hq;exact AE rfl (Ax [] trivial ⟨lv,trivial⟩)
       ·rw [Bu hc38] at hj37
        rw [hc38];refine AD (n:=87) AC 5 [(2,.b false)] [some ⟨5,70,[AA.enc x0],false⟩] kr ?_;have hq:=OI hj37; subst hq;exact AE rfl (Ax [] trivial ⟨lv,trivial⟩)
      refine AS ?_;have hq:=OI h; subst hq;exact ⟨⟨Fr 87 [(2,.b j37)],[]⟩,AH,.inr rfl,[.b j37],kr,kr⟩
     ·rw [Bu hb34] at h
      refine AL AC [(1,.pt 0 0 0),(3,.j (x0.2.2.2.1.length:Int)),(73,.b (x0.1==10))] [some ⟨5,70,[AA.enc x0],false⟩] ?_;refine AN (b:=(x0.1==10)) kr (fun hb39=>?_) (fun hb39=>?_)
      ·rw [if_pos hb39] at h
       refine AF ?_;obtain ⟨j42,hj42,h⟩:=OB h;refine AJ (s1:=⟨Fr 87 [(2,.b j42)],[]⟩) ?_ ?_
       ·refine AD (n:=87) AC 3 [(1,.pt 0 0 0),(77,.b ((x0.2.2.2.1.length:Int)==0))] [some ⟨5,70,[AA.enc x0],false⟩] kr ?_
        rcases BE ((x0.2.2.2.1.length:Int)==0) with hc43 | hc43
        ·rw [if_pos hc43] at hj42
         rw [hc43];refine AD (n:=87) AC 2 [(1,.pt 0 0 0),(77,.b true),(79,.j x0.2.2.2.2)] [some ⟨5,70,[AA.enc x0],false⟩] kr ?_;obtain ⟨v40,hv40,hj42⟩:=OB hj42;refine AO (caps:=[]) (xs:=[.j x0.2.2.2.2,.j 0,.j 63]) (u:=(x0.2.2.2.2,0,63,())) rfl rfl FA rfl kr kr kr (AT (Ap (c:=cdI) (v:=x0.2.2.2.2)) (AT (Ap (c:=cdI) (v:=0)) (AT (Ap (c:=cdI) (v:=63)) Ay))) (.inl kr) hv40 ?_;refine AD (n:=87) AC 2 [(1,.pt 0 0 0),(82,.b v40)] [some ⟨5,70,[AA.enc x0],false⟩] kr ?_;rcases BE v40 with hc44 | hc44
         ·rw [if_pos hc44] at hj42
          rw [hc44];refine AD (n:=87) AC 5 [(2,.b (!x0.2.2.1))] [some ⟨5,70,[AA.enc x0],false⟩] kr ?_;have hq:=OI hj42; subst hq;exact AE rfl (Ax [] trivial ⟨lv,trivial⟩)
         ·rw [Bu hc44] at hj42
          rw [hc44];refine AD (n:=87) AC 5 [(2,.b false)] [some ⟨5,70,[AA.enc x0],false⟩] kr ?_;have hq:=OI hj42; subst hq;exact AE rfl (Ax [] trivial ⟨lv,trivial⟩)
        ·rw [Bu hc43] at hj42
         rw [hc43];refine AD (n:=87) AC 10 [(2,.b false)] [some ⟨5,70,[AA.enc x0],false⟩] kr ?_;have hq:=OI hj42; subst hq;exact AE rfl (Ax [] trivial ⟨lv,trivial⟩)
       refine AS ?_;have hq:=OI h; subst hq;exact ⟨⟨Fr 87 [(2,.b j42)],[]⟩,AH,.inr rfl,[.b j42],kr,kr⟩
      ·rw [Bu hb39] at h
       refine AY ?_;refine AF ?_;refine AJ (s1:=⟨Fr 87 [(2,.b false)],[]⟩) ?_ ?_
       ·refine AD (n:=87) AC 1 [(2,.b false)] [some ⟨5,70,[AA.enc x0],false⟩] kr ?_
        exact AE rfl (Ax [] trivial ⟨lv,trivial⟩)
       refine AS ?_;have hq:=OI h; subst hq;exact ⟨⟨Fr 87 [(2,.b false)],[]⟩,AH,.inr rfl,[.b false],kr,kr⟩
def Lm:List AV->Option AV:=EN GN (fun a=>Aj a.1) GW
theorem Lv:XOk 136 Lm:=by
 refine Af Tryz.func136 (c:=Da) ?h2 ⟨Tryz.call136⟩ GN (fun a=>Aj a.1) GW (fun a=>(by show 1<=87; decide)) ?h3 ?h4
 case h2=>kernel_rfl
 case h3=>intro b; kernel_rfl
 case h4=>exact fun a b h=>KP a.1 b h
/- trestle/trestlekit.Name -/
noncomputable def Iu:Code:=Bg Tryz.f137
def D6 (x0:(List UInt8)):Nat->Int->Option ((Unit) ⊕ (Bool))
 | 0,_=>none
 | f + 1,c4 =>
  if (decide (c4 < (x0.length:Int)))=true then
  (idx x0 c4).bind fun v6 =>
  (if (decide ((v6.toNat:Int) < 97))=true then some true else (idx x0 c4).bind fun v7 =>
  some (decide ((v7.toNat:Int) > 122))).bind fun j9 =>
  if j9=true then
  some (.inr false)
  else
  D6 x0 f (wr .i64 (c4 + 1))
  else
  some (.inl ())
def Gq (x0:(List UInt8)):Option (Bool) :=
 (if (decide ((x0.length:Int) < 1))=true then some true else some (decide ((x0.length:Int) > 12))).bind fun j2 =>
 if j2=true then
 some false
 else
 (D6 x0 100000 0).bind fun r13 =>
 match r13 with
 | (.inl w14) =>
  some true
 | (.inr w15) =>
  some w15
def Iw:Cs ((List UInt8)×Unit):=(csC cdS csN)
def Ix (r:Bool):AV:=cdB.enc r
theorem In (x0:(List UInt8)):∀ (f:Nat) (c4:Int) (r:(Unit) ⊕ (Bool)),D6 x0 f c4=some r->SemN E0 ⟨none,false⟩ (pc Iu [1,1,0,1,0,0]) f ⟨Fr 28 [(0,.st x0),(3,.j c4)],[]⟩ (fun e s=>match r with
 | (.inl w)=>e=(.exit 0)/\Wk E0 s ⟨Fr 28 [],[]⟩
 | (.inr w)=>e = .ret/\Wk E0 s ⟨Fr 28 [(2,.b w)],[]⟩):=by
 intro f;induction f with
 | zero=>intro c4 r h; cases h
 | succ f ih0 =>
  intro c4 r h
  have ih:=fun (c4:Int)=>ih0 c4 r
  unfold D6 at h;refine CF ?_;refine AF ?_;refine AL AC [(0,.st x0),(3,.j c4),(15,.b (decide (c4 < (x0.length:Int))))] [] ?_;refine AN (b:=(decide (c4 < (x0.length:Int)))) kr (fun hb5=>?_) (fun hb5=>?_)
  ·rw [if_pos hb5] at h
   refine AY ?_;refine AF ?_;refine Aq ?_;refine AF ?_;obtain ⟨v6,hv6,h⟩:=OB h;obtain ⟨j9,hj9,h⟩:=OB h;refine AJ (s1:=⟨Fr 28 [(0,.st x0),(3,.j c4),(27,.b j9)],[]⟩) ?_ ?_
   ·refine AD (n:=28) AC 2 [(0,.st x0),(3,.j c4),(18,.st x0),(19,.j c4)] [] kr ?_
    refine AK AC 0 rfl (Bi (AB rfl) rfl (Md (a:= .st x0) (b:= .j c4) kr kr (Kb (bs:=x0) (ki:= .i64) kr hv6))) ?_;refine AD (n:=28) AC 2 [(0,.st x0),(3,.j c4),(22,.b (decide ((v6.toNat:Int) < 97)))] [] kr ?_;rcases BE (decide ((v6.toNat:Int) < 97)) with hc12 | hc12
    ·rw [if_pos hc12] at hj9
     rw [hc12];refine AD (n:=28) AC 5 [(0,.st x0),(3,.j c4),(23,.tp []),(24,.tp []),(25,.tp []),(26,.tp []),(27,.b true)] [] kr ?_;have hq:=OI hj9; subst hq;exact AE rfl AH
    ·rw [Bu hc12] at hj9
     rw [hc12];refine AD (n:=28) AC 2 [(0,.st x0),(3,.j c4),(22,.b false),(23,.st x0),(24,.j c4)] [] kr ?_;obtain ⟨v7,hv7,hj9⟩:=OB hj9;refine AK AC 0 rfl (Bi kr rfl (Md (a:= .st x0) (b:= .j c4) kr kr (Kb (bs:=x0) (ki:= .i64) kr hv7))) ?_;refine AD (n:=28) AC 2 [(0,.st x0),(3,.j c4),(23,.st x0),(24,.j c4),(25,.v (.int .u8 (v7.toNat:Int))),(26,.b (decide ((v7.toNat:Int) > 122))),(27,.b (decide ((v7.toNat:Int) > 122)))] [] kr ?_;have hq:=OI hj9; subst hq;exact AE rfl AH
   refine AN (b:=j9) kr (fun hb10=>?_) (fun hb10=>?_)
   ·rw [if_pos hb10] at h
    refine AL AC [(2,.b false)] [] ?_;refine AS ?_;have hq:=OI h; subst hq;exact ⟨rfl,AH⟩
   ·rw [Bu hb10] at h
    refine AY ?_;refine DE AC [(0,.st x0),(3,.j (wr .i64 (c4 + 1)))] [] ?_;exact Aw (s1:=⟨Fr 28 [(0,.st x0),(3,.j (wr .i64 (c4 + 1)))],[]⟩) AH (ih (wr .i64 (c4 + 1)) h)
  ·rw [Bu hb5] at h
   refine Co ?_;have hq:=OI h; subst hq;exact ⟨rfl,AH⟩
theorem NO (x0:(List UInt8)) (r:Bool) (h:Gq x0=some r):Sem E0 ⟨none,false⟩ Iu ⟨Fr 28 (BG 0 (Iw.enc (x0,()))),[]⟩ fun e s'=>(e = .normal\/e = .ret)/\∃ xs,ED E0.P s'.fr s'.hp Tryz.f137.results.toList=some xs/\EJ xs=Ix r:=by
 unfold Gq at h;refine BD (Bw (s1:=⟨Fr 28 [(0,.st x0)],[]⟩) AH ?_);refine AL AC [(0,.st x0)] [] ?_;refine AF ?_;refine AF ?_;obtain ⟨j2,hj2,h⟩:=OB h;refine AJ (s1:=⟨Fr 28 [(0,.st x0),(11,.b j2)],[]⟩) ?_ ?_
 ·refine AD (n:=28) AC 4 [(0,.st x0),(7,.b (decide ((x0.length:Int) < 1)))] [] kr ?_
  rcases BE (decide ((x0.length:Int) < 1)) with hc16 | hc16
  ·rw [if_pos hc16] at hj2
   rw [hc16];refine AD (n:=28) AC 4 [(0,.st x0),(11,.b true)] [] kr ?_;have hq:=OI hj2; subst hq;exact AE rfl AH
  ·rw [Bu hc16] at hj2
   rw [hc16];refine AD (n:=28) AC 4 [(0,.st x0),(11,.b (decide ((x0.length:Int) > 12)))] [] kr ?_;have hq:=OI hj2; subst hq;exact AE rfl AH
 refine AN (b:=j2) kr (fun hb3=>?_) (fun hb3=>?_)
 ·rw [if_pos hb3] at h
  refine AL AC [(2,.b false)] [] ?_;refine AS ?_;have hq:=OI h; subst hq;exact ⟨⟨Fr 28 [(2,.b false)],[]⟩,AH,.inr rfl,[.b false],kr,kr⟩
 ·rw [Bu hb3] at h
  refine AY ?_;refine AF ?_;refine AL AC [(0,.st x0),(3,.j 0)] [] ?_;refine Aq ?_;obtain ⟨r13,hr13,h⟩:=OB h;refine Cp (n:=100000) ?_;rcases r13 with w14 | w15
  ·try dsimp only at h
   refine BH (Aw (s1:=⟨Fr 28 [(0,.st x0),(3,.j 0)],[]⟩) AH (In x0 _ 0 _ hr13)) ?_;refine AL AC [(2,.b true)] [] ?_;refine AS ?_;have hq:=OI h; subst hq;exact ⟨⟨Fr 28 [(2,.b true)],[]⟩,AH,.inr rfl,[.b true],kr,kr⟩
  ·try dsimp only at h
   refine BH (Aw (s1:=⟨Fr 28 [(0,.st x0),(3,.j 0)],[]⟩) AH (In x0 _ 0 _ hr13)) ?_;have hq:=OI h; subst hq;exact ⟨⟨Fr 28 [(2,.b w15)],[]⟩,AH,.inr rfl,[.b w15],kr,kr⟩
def PT:List AV->Option AV:=EN Iw (fun a=>Gq a.1) Ix
theorem MI:XOk 137 PT:=by
 refine Af Tryz.func137 (c:=Iu) ?h2 ⟨Tryz.call137⟩ Iw (fun a=>Gq a.1) Ix (fun a=>(by show 1<=28; decide)) ?h3 ?h4
 case h2=>kernel_rfl
 case h3=>intro b; kernel_rfl
 case h4=>exact fun a b h=>NO a.1 b h
/- trestle/trestleref03.has -/
noncomputable def H7:Code:=Bg Tryz.f138
def FS (x0:(List (List UInt8))) (x1:(List UInt8)):Nat->Int->Option ((Unit) ⊕ (Bool))
 | 0,_=>none
 | f + 1,c1 =>
  if (decide (c1 < (x0.length:Int)))=true then
  (idx x0 c1).bind fun v3 =>
  if (v3==x1)=true then
  some (.inr true)
  else
  FS x0 x1 f (wr .i64 (c1 + 1))
  else
  some (.inl ())
def FR (x0:(List (List UInt8))) (x1:(List UInt8)):Option (Bool) :=
 (FS x0 x1 100000 0).bind fun r6 =>
 match r6 with
 | (.inl w7) =>
  some false
 | (.inr w8) =>
  some w8
def IC:Cs ((List (List UInt8))×(List UInt8)×Unit):=(csC (cdL 1 cdS) (csC cdS csN))
def IF (r:Bool):AV:=cdB.enc r
theorem IP (x0:(List (List UInt8))) (x1:(List UInt8)):∀ (f:Nat) (c1:Int) (r:(Unit) ⊕ (Bool)),FS x0 x1 f c1=some r->SemN E0 ⟨none,false⟩ (pc H7 [1,0,1,0,0]) f ⟨Fr 18 [(0,.sl 1 (x0.map cdS.enc)),(1,.st x1),(5,.j c1)],[]⟩ (fun e s=>match r with
 | (.inl w)=>e=(.exit 0)/\Wk E0 s ⟨Fr 18 [],[]⟩
 | (.inr w)=>e = .ret/\Wk E0 s ⟨Fr 18 [(4,.b w)],[]⟩):=by
 intro f;induction f with
 | zero=>intro c1 r h; cases h
 | succ f ih0 =>
  intro c1 r h
  have ih:=fun (c1:Int)=>ih0 c1 r
  unfold FS at h;refine CF ?_;refine AF ?_;refine AF ?_
  let p1:Nat×AV:=(5,.j c1)
  let p2:Nat×AV:=(0,.sl 1 (x0.map cdS.enc))
  refine AJ (s1:=⟨Fr 18 [p2,(1,.st x1),p1,(9,.b (decide (c1 < (x0.length:Int))))],[]⟩) ?_ ?_
  ·refine AD (n:=18) AC 2 [p2,(1,.st x1),p1,(6,.j c1),(7,.sl 1 (x0.map cdS.enc))] [] kr ?_
   refine AK AC 0 rfl (Bi (AB rfl) rfl (EG (a:= .sl 1 (x0.map cdS.enc)) kr (Cn (el:=9) kr))) ?_;exact AW AC
  refine AN (b:=(decide (c1 < (x0.length:Int)))) kr (fun hb2=>?_) (fun hb2=>?_)
  ·rw [if_pos hb2] at h
   refine AY ?_;refine AF ?_;refine Aq ?_;refine AF ?_;obtain ⟨v3,hv3,h⟩:=OB h;refine AJ (s1:=⟨Fr 18 [p2,(1,.st x1),p1,(17,.b (v3==x1))],[]⟩) ?_ ?_
   ·refine AD (n:=18) AC 2 [p2,(1,.st x1),p1,(12,.sl 1 (x0.map cdS.enc)),(13,.j c1)] [] kr ?_
    refine AK AC 0 rfl (Bi (AB rfl) rfl (AZ (a:= .sl 1 (x0.map cdS.enc)) (b:= .j c1) kr kr (Dc (e:=cdS.enc) (el:=9) (k:=1) (ki:= .i64) kr kr hv3))) ?_;exact AW AC
   refine AN (b:=(v3==x1)) kr (fun hb4=>?_) (fun hb4=>?_)
   ·rw [if_pos hb4] at h
    refine AL AC [(4,.b true)] [] ?_;refine AS ?_;have hq:=OI h; subst hq;exact ⟨rfl,AH⟩
   ·rw [Bu hb4] at h
    refine AY ?_
    let p3:Nat×AV:=(5,.j (wr .i64 (c1 + 1)))
    refine DE AC [p2,(1,.st x1),p3] [] ?_;exact Aw (s1:=⟨Fr 18 [p2,(1,.st x1),p3],[]⟩) AH (ih (wr .i64 (c1 + 1)) h)
  ·rw [Bu hb2] at h
   refine Co ?_;have hq:=OI h; subst hq;exact ⟨rfl,AH⟩
theorem Me (x0:(List (List UInt8))) (x1:(List UInt8)) (r:Bool) (h:FR x0 x1=some r):Sem E0 ⟨none,false⟩ H7 ⟨Fr 18 (BG 0 (IC.enc (x0,x1,()))),[]⟩ fun e s'=>(e = .normal\/e = .ret)/\∃ xs,ED E0.P s'.fr s'.hp Tryz.f138.results.toList=some xs/\EJ xs=IF r:=by
 unfold FR at h
 let p1:Nat×AV:=(0,.sl 1 (x0.map cdS.enc))
 refine BD (Bw (s1:=⟨Fr 18 [p1,(1,.st x1)],[]⟩) AH ?_);refine AL AC [p1,(1,.st x1)] [] ?_;refine AF ?_
 let p2:Nat×AV:=(5,.j 0)
 refine AL AC [p1,(1,.st x1),p2] [] ?_;refine Aq ?_;obtain ⟨r6,hr6,h⟩:=OB h;refine Cp (n:=100000) ?_;rcases r6 with w7 | w8
 ·try dsimp only at h
  refine BH (Aw (s1:=⟨Fr 18 [p1,(1,.st x1),p2],[]⟩) AH (IP x0 x1 _ 0 _ hr6)) ?_;refine AL AC [(4,.b false)] [] ?_;refine AS ?_;have hq:=OI h; subst hq;exact ⟨⟨Fr 18 [(4,.b false)],[]⟩,AH,.inr rfl,[.b false],kr,kr⟩
 ·try dsimp only at h
  refine BH (Aw (s1:=⟨Fr 18 [p1,(1,.st x1),p2],[]⟩) AH (IP x0 x1 _ 0 _ hr6)) ?_;have hq:=OI h; subst hq;exact ⟨⟨Fr 18 [(4,.b w8)],[]⟩,AH,.inr rfl,[.b w8],kr,kr⟩
def OH:List AV->Option AV:=EN IC (fun a=>FR a.1 a.2.1) IF
theorem LT:XOk 138 OH:=by
 refine Af Tryz.func138 (c:=H7) ?h2 ⟨Tryz.call138⟩ IC (fun a=>FR a.1 a.2.1) IF (fun a=>(by show 2<=18; decide)) ?h3 ?h4
 case h2=>kernel_rfl
 case h3=>intro b; kernel_rfl
 case h4=>exact fun a b h=>Me a.1 a.2.1 b h
/- trestle/trestleref03.CheckOne -/
noncomputable def DZ:Code:=Bg Tryz.f101
def CA (x0:(List AG)) (x1:Int):Nat->Int->Option ((Unit) ⊕ (Int))
 | 0,_=>none
 | f + 1,c10 =>
  (idx x0 x1).bind fun v11 =>
  if (decide (c10 < (v11.2.2.2.1.length:Int)))=true then
  (idx x0 x1).bind fun v13 =>
  (idx v13.2.2.2.1 c10).bind fun v14 =>
  (Gq v14).bind fun v15 =>
  if (!v15)=true then
  some (.inr 4)
  else
  CA x0 x1 f (wr .i64 (c10 + 1))
  else
  some (.inl ())
def CB (x0:(List AG)) (x1:Int):Nat->Int->Option ((Unit) ⊕ (Int))
 | 0,_=>none
 | f + 1,c20 =>
  (idx x0 x1).bind fun v21 =>
  if (decide (c20 < (v21.2.2.2.1.length:Int)))=true then
  (idx x0 x1).bind fun v23 =>
  if (GQ 0 c20 v23.2.2.2.1.length)=true then
  (idx x0 x1).bind fun v25 =>
  (idx v25.2.2.2.1 c20).bind fun v26 =>
  (FR ((v23.2.2.2.1.take c20.toNat).drop (0:Int).toNat) v26).bind fun v27 =>
  if v27=true then
  some (.inr 5)
  else
  CB x0 x1 f (wr .i64 (c20 + 1))
  else none
  else
  some (.inl ())
def CC (x0:(List AG)) (x1:Int):Nat->Int->Option ((Unit) ⊕ (Int))
 | 0,_=>none
 | f + 1,c34 =>
  if (decide (c34 < x1))=true then
  (idx x0 c34).bind fun v36 =>
  (if (v36.1==1)=true then (idx x0 c34).bind fun v37 =>
  (idx x0 x1).bind fun v38 =>
  (FR v37.2.2.2.1 v38.2.1).bind fun v39 =>
  some v39 else some false).bind fun j41 =>
  if j41=true then
  some (.inr 0)
  else
  CC x0 x1 f (wr .i64 (c34 + 1))
  else
  some (.inl ())
def DO (x0:(List AG)) (x1:Int):Option (Int) :=
 (idx x0 x1).bind fun v1 =>
 (Aj v1).bind fun v2 =>
 if (!v2)=true then
 some 30
 else
 (idx x0 x1).bind fun v4 =>
 (if (!(v4.2.1==[]))=true then (idx x0 x1).bind fun v5 =>
 (Gq v5.2.1).bind fun v6 =>
 some (!v6) else some false).bind fun j8 =>
 if j8=true then
 some 4
 else
 (CA x0 x1 100000 0).bind fun r18 =>
 match r18 with
 | (.inl w19) =>
  (CB x0 x1 100000 0).bind fun r30 =>
  match r30 with
  | (.inl w31) =>
   (idx x0 x1).bind fun v32 =>
   if (v32.2.1==[])=true then
   some 0
   else
   (CC x0 x1 100000 0).bind fun r45 =>
   match r45 with
   | (.inl w46) =>
    some 31
   | (.inr w47) =>
    some w47
  | (.inr w48) =>
   some w48
 | (.inr w49) =>
  some w49
def FE:Cs ((List AG)×Int×Unit):=(csC (cdL 5 AA) (csC cdI csN))
def FG (r:Int):AV:=cdI.enc r
theorem Fs (x0:(List AG)) (x1:Int):∀ (f:Nat) (c10:Int) (r:(Unit) ⊕ (Int)),CA x0 x1 f c10=some r->SemN E0 ⟨none,false⟩ (pc DZ [1,1,1,0,1,0,0]) f ⟨Fr 105 [(0,.sl 5 (x0.map AA.enc)),(1,.j x1),(5,.j c10)],[]⟩ (fun e s=>match r with
 | (.inl w)=>e=(.exit 0)/\Wk E0 s ⟨Fr 105 [(0,.sl 5 (x0.map AA.enc)),(1,.j x1)],[]⟩
 | (.inr w)=>e = .ret/\Wk E0 s ⟨Fr 105 [(4,.j w)],[]⟩):=by
 intro f;induction f with
 | zero=>intro c10 r h; cases h
 | succ f ih0 =>
  intro c10 r h
  have ih:=fun (c10:Int)=>ih0 c10 r
  unfold CA at h;refine CF ?_;refine AF ?_;refine AF ?_;obtain ⟨v11,hv11,h⟩:=OB h
  let p1:Nat×AV:=(5,.j c10)
  let p2:Nat×AV:=(1,.j x1)
  let p3:Nat×AV:=(0,.sl 5 (x0.map AA.enc))
  refine AJ (s1:=⟨Fr 105 [p3,p2,p1,(36,.b (decide (c10 < (v11.2.2.2.1.length:Int))))],[]⟩) ?_ ?_
  ·refine AD (n:=105) AC 3 [p3,p2,p1,(29,.j c10),(30,.sl 5 (x0.map AA.enc)),(31,.j x1)] [] kr ?_
   refine AK AC 0 rfl (Bi (AB rfl) rfl (AZ (a:= .sl 5 (x0.map AA.enc)) (b:= .j x1) kr kr (Dc (e:=AA.enc) (el:=70) (k:=5) (ki:= .i64) kr kr hv11))) ?_;refine AD (n:=105) AC 2 [p3,p2,p1,(29,.j c10),(34,.sl 1 (v11.2.2.2.1.map cdS.enc))] [] kr ?_;refine AK AC 0 rfl (Bi (AB rfl) rfl (EG (a:= .sl 1 (v11.2.2.2.1.map cdS.enc)) kr (Cn (el:=9) kr))) ?_;exact AW AC
  refine AN (b:=(decide (c10 < (v11.2.2.2.1.length:Int)))) kr (fun hb12=>?_) (fun hb12=>?_)
  ·rw [if_pos hb12] at h
   refine AY ?_;refine AF ?_;refine Aq ?_;refine AF ?_;obtain ⟨v13,hv13,h⟩:=OB h;obtain ⟨v14,hv14,h⟩:=OB h;obtain ⟨v15,hv15,h⟩:=OB h;refine AJ (s1:=⟨Fr 105 [p3,p2,p1,(48,.b (!v15))],[]⟩) ?_ ?_
   ·refine AD (n:=105) AC 2 [p3,p2,p1,(39,.sl 5 (x0.map AA.enc)),(40,.j x1)] [] kr ?_
    refine AK AC 0 rfl (Bi (AB rfl) rfl (AZ (a:= .sl 5 (x0.map AA.enc)) (b:= .j x1) kr kr (Dc (e:=AA.enc) (el:=70) (k:=5) (ki:= .i64) kr kr hv13))) ?_;refine AD (n:=105) AC 3 [p3,p2,p1,(43,.sl 1 (v13.2.2.2.1.map cdS.enc)),(44,.j c10)] [] kr ?_;refine AK AC 0 rfl (Bi (AB rfl) rfl (AZ (a:= .sl 1 (v13.2.2.2.1.map cdS.enc)) (b:= .j c10) kr kr (Dc (e:=cdS.enc) (el:=9) (k:=1) (ki:= .i64) kr kr hv14))) ?_;refine AD (n:=105) AC 1 [p3,p2,p1,(46,.st v14)] [] kr ?_;refine AO (caps:=[]) (xs:=[.st v14]) (u:=(v14,())) rfl rfl MI rfl (AB rfl) kr kr (AT (Ap (c:=cdS) (v:=v14)) Ay) (.inl kr) hv15 ?_;exact AW AC
   refine AN (b:=(!v15)) kr (fun hb16=>?_) (fun hb16=>?_)
   ·rw [if_pos hb16] at h
    refine AL AC [(4,.j 4)] [] ?_;refine AS ?_;have hq:=OI h; subst hq;exact ⟨rfl,AH⟩
   ·rw [Bu hb16] at h
    refine AY ?_
    let p4:Nat×AV:=(5,.j (wr .i64 (c10 + 1)))
    refine DE AC [p3,p2,p4] [] ?_;exact Aw (s1:=⟨Fr 105 [p3,p2,p4],[]⟩) AH (ih (wr .i64 (c10 + 1)) h)
  ·rw [Bu hb12] at h
   refine Co ?_;have hq:=OI h; subst hq;exact ⟨rfl,AH⟩
theorem Ft (x0:(List AG)) (x1:Int):∀ (f:Nat) (c20:Int) (r:(Unit) ⊕ (Int)),CB x0 x1 f c20=some r->SemN E0 ⟨none,false⟩ (pc DZ [1,1,1,1,0,1,0,0]) f ⟨Fr 105 [(0,.sl 5 (x0.map AA.enc)),(1,.j x1),(6,.j c20)],[]⟩ (fun e s=>match r with
 | (.inl w)=>e=(.exit 2)/\Wk E0 s ⟨Fr 105 [(0,.sl 5 (x0.map AA.enc)),(1,.j x1)],[]⟩
 | (.inr w)=>e = .ret/\Wk E0 s ⟨Fr 105 [(4,.j w)],[]⟩):=by
 intro f;induction f with
 | zero=>intro c20 r h; cases h
 | succ f ih0 =>
  intro c20 r h
  have ih:=fun (c20:Int)=>ih0 c20 r
  unfold CB at h;refine CF ?_;refine AF ?_;refine AF ?_;obtain ⟨v21,hv21,h⟩:=OB h
  let p1:Nat×AV:=(6,.j c20)
  let p2:Nat×AV:=(1,.j x1)
  let p3:Nat×AV:=(0,.sl 5 (x0.map AA.enc))
  refine AJ (s1:=⟨Fr 105 [p3,p2,p1,(56,.b (decide (c20 < (v21.2.2.2.1.length:Int))))],[]⟩) ?_ ?_
  ·refine AD (n:=105) AC 3 [p3,p2,p1,(49,.j c20),(50,.sl 5 (x0.map AA.enc)),(51,.j x1)] [] kr ?_
   refine AK AC 0 rfl (Bi (AB rfl) rfl (AZ (a:= .sl 5 (x0.map AA.enc)) (b:= .j x1) kr kr (Dc (e:=AA.enc) (el:=70) (k:=5) (ki:= .i64) kr kr hv21))) ?_;refine AD (n:=105) AC 2 [p3,p2,p1,(49,.j c20),(54,.sl 1 (v21.2.2.2.1.map cdS.enc))] [] kr ?_;refine AK AC 0 rfl (Bi (AB rfl) rfl (EG (a:= .sl 1 (v21.2.2.2.1.map cdS.enc)) kr (Cn (el:=9) kr))) ?_;exact AW AC
  refine AN (b:=(decide (c20 < (v21.2.2.2.1.length:Int)))) kr (fun hb22=>?_) (fun hb22=>?_)
  ·rw [if_pos hb22] at h
   refine AY ?_;refine AF ?_;refine Aq ?_;refine AF ?_;obtain ⟨v23,hv23,h⟩:=OB h;by_cases hk24:(GQ 0 c20 v23.2.2.2.1.length)=true
   case neg=>rw [if_neg hk24] at h; cases h
   rw [if_pos hk24] at h;obtain ⟨v25,hv25,h⟩:=OB h;obtain ⟨v26,hv26,h⟩:=OB h;obtain ⟨v27,hv27,h⟩:=OB h;refine JA AC (s1:=⟨Fr 105 [p3,p2,p1,(74,.b v27)],[]⟩) kr ?_ ?_
   ·refine B4 (n:=105) AC 2 [p3,p2,p1,(59,.sl 5 (x0.map AA.enc)),(60,.j x1)] [] kr kr ?_
    refine RunDS.one AC rfl kr (If kr (AB rfl) rfl (AZ (a:= .sl 5 (x0.map AA.enc)) (b:= .j x1) kr kr (Dc (e:=AA.enc) (el:=70) (k:=5) (ki:= .i64) kr kr hv23)) kr) ?_;refine B4 (n:=105) AC 3 [p3,p2,p1,(63,.sl 1 (v23.2.2.2.1.map cdS.enc)),(64,.j c20)] [] kr kr ?_;refine RunDS.one AC rfl kr (If kr (AB rfl) rfl (I7 (a:= .sl 1 (v23.2.2.2.1.map cdS.enc)) (l:=none) (u:=(some (.j c20))) (m:=none) kr kr kr rfl (Ml (xs:=v23.2.2.2.1) (e:=cdS.enc) (k:=1) (el:=9) (lo:=0) (hi:=c20) kr kr rfl (KE (NC hk24)) hk24)) kr) ?_
    let p4:Nat×AV:=(65,.sl 1 (((v23.2.2.2.1.take c20.toNat).drop (0:Int).toNat).map cdS.enc))
    refine B4 (n:=105) AC 2 [p3,p2,p1,p4,(66,.sl 5 (x0.map AA.enc)),(67,.j x1)] [] kr kr ?_;refine RunDS.one AC rfl kr (If kr (AB rfl) rfl (AZ (a:= .sl 5 (x0.map AA.enc)) (b:= .j x1) kr kr (Dc (e:=AA.enc) (el:=70) (k:=5) (ki:= .i64) kr kr hv25)) kr) ?_;refine B4 (n:=105) AC 3 [p3,p2,p1,p4,(70,.sl 1 (v25.2.2.2.1.map cdS.enc)),(71,.j c20)] [] kr kr ?_;refine RunDS.one AC rfl kr (If kr (AB rfl) rfl (AZ (a:= .sl 1 (v25.2.2.2.1.map cdS.enc)) (b:= .j c20) kr kr (Dc (e:=cdS.enc) (el:=9) (k:=1) (ki:= .i64) kr kr hv26)) kr) ?_;refine B4 (n:=105) AC 1 [p3,p2,p1,p4,(73,.st v26)] [] kr kr ?_;refine Is (caps:=[]) (xs:=[.sl 1 (((v23.2.2.2.1.take c20.toNat).drop (0:Int).toNat).map cdS.enc),.st v26]) (u:=(((v23.2.2.2.1.take c20.toNat).drop (0:Int).toNat),v26,())) rfl rfl LT rfl (AB rfl) kr kr (AT (Ap (c:=(cdL 1 cdS)) (v:=((v23.2.2.2.1.take c20.toNat).drop (0:Int).toNat))) (AT (Ap (c:=cdS) (v:=v26)) Ay)) kr hv27 ?_;exact RunDS.done rfl AH
   refine AN (b:=v27) kr (fun hb28=>?_) (fun hb28=>?_)
   ·rw [if_pos hb28] at h
    refine AL AC [(4,.j 5)] [] ?_;refine AS ?_;have hq:=OI h; subst hq;exact ⟨rfl,AH⟩
   ·rw [Bu hb28] at h
    refine AY ?_
    let p5:Nat×AV:=(6,.j (wr .i64 (c20 + 1)))
    refine DE AC [p3,p2,p5] [] ?_;exact Aw (s1:=⟨Fr 105 [p3,p2,p5],[]⟩) AH (ih (wr .i64 (c20 + 1)) h)
  ·rw [Bu hb22] at h
   refine Co ?_;have hq:=OI h; subst hq;exact ⟨rfl,AH⟩
theorem Fu (x0:(List AG)) (x1:Int):∀ (f:Nat) (c34:Int) (r:(Unit) ⊕ (Int)),CC x0 x1 f c34=some r->SemN E0 ⟨none,false⟩ (pc DZ [1,1,1,1,1,1,0,1,0,0]) f ⟨Fr 105 [(0,.sl 5 (x0.map AA.enc)),(1,.j x1),(7,.j c34)],[]⟩ (fun e s=>match r with
 | (.inl w)=>e=(.exit 4)/\Wk E0 s ⟨Fr 105 [],[]⟩
 | (.inr w)=>e = .ret/\Wk E0 s ⟨Fr 105 [(4,.j w)],[]⟩):=by
 intro f;induction f with
 | zero=>intro c34 r h; cases h
 | succ f ih0 =>
  intro c34 r h
  have ih:=fun (c34:Int)=>ih0 c34 r
  unfold CC at h;refine CF ?_;refine AF ?_;refine AL AC [(0,.sl 5 (x0.map AA.enc)),(1,.j x1),(7,.j c34),(83,.b (decide (c34 < x1)))] [] ?_;refine AN (b:=(decide (c34 < x1))) kr (fun hb35=>?_) (fun hb35=>?_)
  ·rw [if_pos hb35] at h
   refine AY ?_;refine AF ?_;refine Aq ?_;refine AF ?_;obtain ⟨v36,hv36,h⟩:=OB h;obtain ⟨j41,hj41,h⟩:=OB h;refine JA AC (s1:=⟨Fr 105 [(0,.sl 5 (x0.map AA.enc)),(1,.j x1),(7,.j c34),(104,.b j41)],[]⟩) kr ?_ ?_
   ·refine B4 (n:=105) AC 2 [(0,.sl 5 (x0.map AA.enc)),(1,.j x1),(7,.j c34),(86,.sl 5 (x0.map AA.enc)),(87,.j c34)] [] kr kr ?_
    refine RunDS.one AC rfl kr (If kr (AB rfl) rfl (AZ (a:= .sl 5 (x0.map AA.enc)) (b:= .j c34) kr kr (Dc (e:=AA.enc) (el:=70) (k:=5) (ki:= .i64) kr kr hv36)) kr) ?_;refine B4 (n:=105) AC 4 [(0,.sl 5 (x0.map AA.enc)),(1,.j x1),(7,.j c34),(92,.b (v36.1==1))] [] kr kr ?_;rcases BE (v36.1==1) with hc44 | hc44
    ·rw [if_pos hc44] at hj41
     rw [hc44];refine B4 (n:=105) AC 2 [(0,.sl 5 (x0.map AA.enc)),(1,.j x1),(7,.j c34),(92,.b true),(93,.sl 5 (x0.map AA.enc)),(94,.j c34)] [] kr kr ?_;obtain ⟨v37,hv37,hj41⟩:=OB hj41;refine RunDS.one AC rfl kr (If kr kr rfl (AZ (a:= .sl 5 (x0.map AA.enc)) (b:= .j c34) kr kr (Dc (e:=AA.enc) (el:=70) (k:=5) (ki:= .i64) kr kr hv37)) kr) ?_;refine B4 (n:=105) AC 4 [(0,.sl 5 (x0.map AA.enc)),(1,.j x1),(7,.j c34),(92,.b true),(93,.sl 5 (x0.map AA.enc)),(94,.j c34),(95,.pe (AA.enc v37) 0),(96,.pe (AA.enc v37) 3),(97,.sl 1 (v37.2.2.2.1.map cdS.enc)),(98,.sl 5 (x0.map AA.enc)),(99,.j x1)] [] kr kr ?_;obtain ⟨v38,hv38,hj41⟩:=OB hj41;refine RunDS.one AC rfl kr (If kr kr rfl (AZ (a:= .sl 5 (x0.map AA.enc)) (b:= .j x1) kr kr (Dc (e:=AA.enc) (el:=70) (k:=5) (ki:= .i64) kr kr hv38)) kr) ?_;refine B4 (n:=105) AC 2 [(0,.sl 5 (x0.map AA.enc)),(1,.j x1),(7,.j c34),(92,.b true),(93,.sl 5 (x0.map AA.enc)),(94,.j c34),(95,.pe (AA.enc v37) 0),(96,.pe (AA.enc v37) 3),(97,.sl 1 (v37.2.2.2.1.map cdS.enc)),(98,.sl 5 (x0.map AA.enc)),(99,.j x1),(100,.pe (AA.enc v38) 0),(101,.pe (AA.enc v38) 1),(102,.st v38.2.1)] [] kr kr ?_;obtain ⟨v39,hv39,hj41⟩:=OB hj41;refine Is (caps:=[]) (xs:=[.sl 1 (v37.2.2.2.1.map cdS.enc),.st v38.2.1]) (u:=(v37.2.2.2.1,v38.2.1,())) rfl rfl LT rfl kr kr kr (AT (Ap (c:=(cdL 1 cdS)) (v:=v37.2.2.2.1)) (AT (Ap (c:=cdS) (v:=v38.2.1)) Ay)) kr hv39 ?_;refine B4 (n:=105) AC 1 [(0,.sl 5 (x0.map AA.enc)),(1,.j x1),(7,.j c34),(93,.sl 5 (x0.map AA.enc)),(94,.j c34),(95,.pe (AA.enc v37) 0),(96,.pe (AA.enc v37) 3),(97,.sl 1 (v37.2.2.2.1.map cdS.enc)),(98,.sl 5 (x0.map AA.enc)),(99,.j x1),(100,.pe (AA.enc v38) 0),(101,.pe (AA.enc v38) 1),(102,.st v38.2.1),(103,.b v39),(104,.b v39)] [] kr kr ?_;have hq:=OI hj41; subst hq;exact RunDS.done rfl AH
    ·rw [Bu hc44] at hj41
     rw [hc44];refine B4 (n:=105) AC 12 [(0,.sl 5 (x0.map AA.enc)),(1,.j x1),(7,.j c34),(93,.tp []),(94,.tp []),(95,.tp []),(96,.tp []),(97,.tp []),(98,.tp []),(99,.tp []),(100,.tp []),(101,.tp []),(102,.tp []),(103,.tp []),(104,.b false)] [] kr kr ?_;have hq:=OI hj41; subst hq;exact RunDS.done rfl AH
   refine AN (b:=j41) kr (fun hb42=>?_) (fun hb42=>?_)
   ·rw [if_pos hb42] at h
    refine AL AC [(4,.j 0)] [] ?_;refine AS ?_;have hq:=OI h; subst hq;exact ⟨rfl,AH⟩
   ·rw [Bu hb42] at h
    refine AY ?_;refine DE AC [(0,.sl 5 (x0.map AA.enc)),(1,.j x1),(7,.j (wr .i64 (c34 + 1)))] [] ?_;exact Aw (s1:=⟨Fr 105 [(0,.sl 5 (x0.map AA.enc)),(1,.j x1),(7,.j (wr .i64 (c34 + 1)))],[]⟩) AH (ih (wr .i64 (c34 + 1)) h)
  ·rw [Bu hb35] at h
   refine Co ?_;have hq:=OI h; subst hq;exact ⟨rfl,AH⟩
theorem JX (x0:(List AG)) (x1:Int) (r:Int) (h:DO x0 x1=some r):Sem E0 ⟨none,false⟩ DZ ⟨Fr 105 (BG 0 (FE.enc (x0,x1,()))),[]⟩ fun e s'=>(e = .normal\/e = .ret)/\∃ xs,ED E0.P s'.fr s'.hp Tryz.f101.results.toList=some xs/\EJ xs=FG r:=by
 unfold DO at h;refine BD (Bw (s1:=⟨Fr 105 [(0,.sl 5 (x0.map AA.enc)),(1,.j x1)],[]⟩) AH ?_);refine AL AC [(0,.sl 5 (x0.map AA.enc)),(1,.j x1)] [] ?_;refine AF ?_;refine AF ?_;obtain ⟨v1,hv1,h⟩:=OB h;obtain ⟨v2,hv2,h⟩:=OB h;refine AJ (s1:=⟨Fr 105 [(0,.sl 5 (x0.map AA.enc)),(1,.j x1),(13,.b (!v2))],[]⟩) ?_ ?_
 ·refine AD (n:=105) AC 2 [(0,.sl 5 (x0.map AA.enc)),(1,.j x1),(8,.sl 5 (x0.map AA.enc)),(9,.j x1)] [] kr ?_
  refine AK AC 0 rfl (Bi (AB rfl) rfl (AZ (a:= .sl 5 (x0.map AA.enc)) (b:= .j x1) kr kr (Dc (e:=AA.enc) (el:=70) (k:=5) (ki:= .i64) kr kr hv1))) ?_;refine AD (n:=105) AC 1 [(0,.sl 5 (x0.map AA.enc)),(1,.j x1),(11,AA.enc v1)] [] kr ?_;refine AO (caps:=[]) (xs:=[AA.enc v1]) (u:=(v1,())) rfl rfl Lv rfl (AB rfl) kr kr (AT (Ap (c:=AA) (v:=v1)) Ay) (.inl kr) hv2 ?_;exact AW AC
 refine AN (b:=(!v2)) kr (fun hb3=>?_) (fun hb3=>?_)
 ·rw [if_pos hb3] at h
  refine AL AC [(4,.j 30)] [] ?_;refine AS ?_;have hq:=OI h; subst hq;exact ⟨⟨Fr 105 [(4,.j 30)],[]⟩,AH,.inr rfl,[.j 30],kr,kr⟩
 ·rw [Bu hb3] at h
  refine AY ?_;refine AF ?_;refine AF ?_;obtain ⟨v4,hv4,h⟩:=OB h;obtain ⟨j8,hj8,h⟩:=OB h;refine AJ (s1:=⟨Fr 105 [(0,.sl 5 (x0.map AA.enc)),(1,.j x1),(28,.b j8)],[]⟩) ?_ ?_
  ·refine AD (n:=105) AC 2 [(0,.sl 5 (x0.map AA.enc)),(1,.j x1),(14,.sl 5 (x0.map AA.enc)),(15,.j x1)] [] kr ?_
   refine AK AC 0 rfl (Bi (AB rfl) rfl (AZ (a:= .sl 5 (x0.map AA.enc)) (b:= .j x1) kr kr (Dc (e:=AA.enc) (el:=70) (k:=5) (ki:= .i64) kr kr hv4))) ?_;refine AD (n:=105) AC 4 [(0,.sl 5 (x0.map AA.enc)),(1,.j x1),(20,.b (!(v4.2.1==[])))] [] kr ?_;rcases BE (!(v4.2.1==[])) with hc50 | hc50
   ·rw [if_pos hc50] at hj8
    rw [hc50];refine AD (n:=105) AC 2 [(0,.sl 5 (x0.map AA.enc)),(1,.j x1),(20,.b true),(21,.sl 5 (x0.map AA.enc)),(22,.j x1)] [] kr ?_;obtain ⟨v5,hv5,hj8⟩:=OB hj8;refine AK AC 0 rfl (Bi kr rfl (AZ (a:= .sl 5 (x0.map AA.enc)) (b:= .j x1) kr kr (Dc (e:=AA.enc) (el:=70) (k:=5) (ki:= .i64) kr kr hv5))) ?_;refine AD (n:=105) AC 2 [(0,.sl 5 (x0.map AA.enc)),(1,.j x1),(20,.b true),(25,.st v5.2.1)] [] kr ?_;obtain ⟨v6,hv6,hj8⟩:=OB hj8;refine AO (caps:=[]) (xs:=[.st v5.2.1]) (u:=(v5.2.1,())) rfl rfl MI rfl kr kr kr (AT (Ap (c:=cdS) (v:=v5.2.1)) Ay) (.inl kr) hv6 ?_;refine AD (n:=105) AC 2 [(0,.sl 5 (x0.map AA.enc)),(1,.j x1),(28,.b (!v6))] [] kr ?_;have hq:=OI hj8; subst hq;exact AE rfl AH
   ·rw [Bu hc50] at hj8
    rw [hc50];refine AD (n:=105) AC 8 [(0,.sl 5 (x0.map AA.enc)),(1,.j x1),(28,.b false)] [] kr ?_;have hq:=OI hj8; subst hq;exact AE rfl AH
  refine AN (b:=j8) kr (fun hb9=>?_) (fun hb9=>?_)
  ·rw [if_pos hb9] at h
   refine AL AC [(4,.j 4)] [] ?_;refine AS ?_;have hq:=OI h; subst hq;exact ⟨⟨Fr 105 [(4,.j 4)],[]⟩,AH,.inr rfl,[.j 4],kr,kr⟩
  ·rw [Bu hb9] at h
   refine AY ?_;refine AF ?_;refine AL AC [(0,.sl 5 (x0.map AA.enc)),(1,.j x1),(5,.j 0)] [] ?_;refine Aq ?_;obtain ⟨r18,hr18,h⟩:=OB h;refine Cp (n:=100000) ?_;rcases r18 with w19 | w49
   ·try dsimp only at h
    refine BH (Aw (s1:=⟨Fr 105 [(0,.sl 5 (x0.map AA.enc)),(1,.j x1),(5,.j 0)],[]⟩) AH (Fs x0 x1 _ 0 _ hr18)) ?_;refine AF ?_;refine AL AC [(0,.sl 5 (x0.map AA.enc)),(1,.j x1),(6,.j 0)] [] ?_;refine Aq ?_;obtain ⟨r30,hr30,h⟩:=OB h;refine Cp (n:=100000) ?_;rcases r30 with w31 | w48
    ·try dsimp only at h
     refine BH (Aw (s1:=⟨Fr 105 [(0,.sl 5 (x0.map AA.enc)),(1,.j x1),(6,.j 0)],[]⟩) AH (Ft x0 x1 _ 0 _ hr30)) ?_;refine AF ?_;refine AF ?_;obtain ⟨v32,hv32,h⟩:=OB h;refine AJ (s1:=⟨Fr 105 [(0,.sl 5 (x0.map AA.enc)),(1,.j x1),(80,.b (v32.2.1==[]))],[]⟩) ?_ ?_
     ·refine AD (n:=105) AC 2 [(0,.sl 5 (x0.map AA.enc)),(1,.j x1),(75,.sl 5 (x0.map AA.enc)),(76,.j x1)] [] kr ?_
      refine AK AC 0 rfl (Bi (AB rfl) rfl (AZ (a:= .sl 5 (x0.map AA.enc)) (b:= .j x1) kr kr (Dc (e:=AA.enc) (el:=70) (k:=5) (ki:= .i64) kr kr hv32))) ?_;exact AW AC
     refine AN (b:=(v32.2.1==[])) kr (fun hb33=>?_) (fun hb33=>?_)
     ·rw [if_pos hb33] at h
      refine AL AC [(4,.j 0)] [] ?_;refine AS ?_;have hq:=OI h; subst hq;exact ⟨⟨Fr 105 [(4,.j 0)],[]⟩,AH,.inr rfl,[.j 0],kr,kr⟩
     ·rw [Bu hb33] at h
      refine AY ?_;refine AF ?_;refine AL AC [(0,.sl 5 (x0.map AA.enc)),(1,.j x1),(7,.j 0)] [] ?_;refine Aq ?_;obtain ⟨r45,hr45,h⟩:=OB h;refine Cp (n:=100000) ?_;rcases r45 with w46 | w47
      ·try dsimp only at h
       refine BH (Aw (s1:=⟨Fr 105 [(0,.sl 5 (x0.map AA.enc)),(1,.j x1),(7,.j 0)],[]⟩) AH (Fu x0 x1 _ 0 _ hr45)) ?_;refine AL AC [(4,.j 31)] [] ?_;refine AS ?_;have hq:=OI h; subst hq;exact ⟨⟨Fr 105 [(4,.j 31)],[]⟩,AH,.inr rfl,[.j 31],kr,kr⟩
      ·try dsimp only at h
       refine BH (Aw (s1:=⟨Fr 105 [(0,.sl 5 (x0.map AA.enc)),(1,.j x1),(7,.j 0)],[]⟩) AH (Fu x0 x1 _ 0 _ hr45)) ?_;have hq:=OI h; subst hq;exact ⟨⟨Fr 105 [(4,.j w47)],[]⟩,AH,.inr rfl,[.j w47],kr,kr⟩
    ·try dsimp only at h
     refine BH (Aw (s1:=⟨Fr 105 [(0,.sl 5 (x0.map AA.enc)),(1,.j x1),(6,.j 0)],[]⟩) AH (Ft x0 x1 _ 0 _ hr30)) ?_;have hq:=OI h; subst hq;exact ⟨⟨Fr 105 [(4,.j w48)],[]⟩,AH,.inr rfl,[.j w48],kr,kr⟩
   ·try dsimp only at h
    refine BH (Aw (s1:=⟨Fr 105 [(0,.sl 5 (x0.map AA.enc)),(1,.j x1),(5,.j 0)],[]⟩) AH (Fs x0 x1 _ 0 _ hr18)) ?_;have hq:=OI h; subst hq;exact ⟨⟨Fr 105 [(4,.j w49)],[]⟩,AH,.inr rfl,[.j w49],kr,kr⟩
def KS:List AV->Option AV:=EN FE (fun a=>DO a.1 a.2.1) FG
theorem KU:XOk 101 KS:=by
 refine Af Tryz.func101 (c:=DZ) ?h2 ⟨Tryz.call101⟩ FE (fun a=>DO a.1 a.2.1) FG (fun a=>(by show 2<=105; decide)) ?h3 ?h4
 case h2=>kernel_rfl
 case h3=>intro b; kernel_rfl
 case h4=>exact fun a b h=>JX a.1 a.2.1 b h
/- trestle/trestleref03.Check -/
noncomputable def Gu:Code:=Bg Tryz.f53
def Cy (x0:(List AG)):Nat->Int->Option ((Unit) ⊕ (Int×Int))
 | 0,_=>none
 | f + 1,c2 =>
  if (decide (c2 < (x0.length:Int)))=true then
  (DO x0 c2).bind fun v4 =>
  if (v4 != 0)=true then
  some (.inr (c2,v4))
  else
  Cy x0 f (wr .i64 (c2 + 1))
  else
  some (.inl ())
def EX (x0:(List AG)):Option (Int×Int) :=
 if (decide ((x0.length:Int) > 32))=true then
 some (0,7)
 else
 (Cy x0 100000 0).bind fun r8 =>
 match r8 with
 | (.inl w9) =>
  some (0,0)
 | (.inr w10) =>
  some (w10.1,w10.2)
def Gy:Cs ((List AG)×Unit):=(csC (cdL 5 AA) csN)
def G5 (r:Int×Int):AV:= .tp [cdI.enc r.1,cdI.enc r.2]
theorem HH (x0:(List AG)):∀ (f:Nat) (c2:Int) (r:(Unit) ⊕ (Int×Int)),Cy x0 f c2=some r->SemN E0 ⟨none,false⟩ (pc Gu [1,1,0,1,0,0]) f ⟨Fr 22 [(0,.sl 5 (x0.map AA.enc)),(4,.j c2)],[]⟩ (fun e s=>match r with
 | (.inl w)=>e=(.exit 0)/\Wk E0 s ⟨Fr 22 [],[]⟩
 | (.inr w)=>e = .ret/\Wk E0 s ⟨Fr 22 [(2,.j w.1),(3,.j w.2)],[]⟩):=by
 intro f;induction f with
 | zero=>intro c2 r h; cases h
 | succ f ih0 =>
  intro c2 r h
  have ih:=fun (c2:Int)=>ih0 c2 r
  unfold Cy at h;refine CF ?_;refine AF ?_;refine AF ?_
  let p1:Nat×AV:=(4,.j c2)
  let p2:Nat×AV:=(0,.sl 5 (x0.map AA.enc))
  refine AJ (s1:=⟨Fr 22 [p2,p1,(12,.b (decide (c2 < (x0.length:Int))))],[]⟩) ?_ ?_
  ·refine AD (n:=22) AC 2 [p2,p1,(9,.j c2),(10,.sl 5 (x0.map AA.enc))] [] kr ?_
   refine AK AC 0 rfl (Bi (AB rfl) rfl (EG (a:= .sl 5 (x0.map AA.enc)) kr (Cn (el:=70) kr))) ?_;exact AW AC
  refine AN (b:=(decide (c2 < (x0.length:Int)))) kr (fun hb3=>?_) (fun hb3=>?_)
  ·rw [if_pos hb3] at h
   refine AY ?_;refine AF ?_;refine Aq ?_;refine AF ?_;obtain ⟨v4,hv4,h⟩:=OB h;refine AJ (s1:=⟨Fr 22 [p2,p1,(5,.j v4)],[]⟩) ?_ ?_
   ·refine AD (n:=22) AC 2 [p2,p1,(15,.sl 5 (x0.map AA.enc)),(16,.j c2)] [] kr ?_
    refine AO (caps:=[]) (xs:=[.sl 5 (x0.map AA.enc),.j c2]) (u:=(x0,c2,())) rfl rfl KU rfl (AB rfl) kr kr (AT (Ap (c:=(cdL 5 AA)) (v:=x0)) (AT (Ap (c:=cdI) (v:=c2)) Ay)) (.inl kr) hv4 ?_;exact AW AC
   refine AL AC [p2,p1,(5,.j v4),(19,.b (v4 != 0))] [] ?_;refine AN (b:=(v4 != 0)) kr (fun hb5=>?_) (fun hb5=>?_)
   ·rw [if_pos hb5] at h
    refine AL AC [(2,.j c2),(3,.j v4)] [] ?_;refine AS ?_;have hq:=OI h; subst hq;exact ⟨rfl,AH⟩
   ·rw [Bu hb5] at h
    refine AY ?_
    let p3:Nat×AV:=(4,.j (wr .i64 (c2 + 1)))
    refine DE AC [p2,p3] [] ?_;exact Aw (s1:=⟨Fr 22 [p2,p3],[]⟩) AH (ih (wr .i64 (c2 + 1)) h)
  ·rw [Bu hb3] at h
   refine Co ?_;have hq:=OI h; subst hq;exact ⟨rfl,AH⟩
theorem LA (x0:(List AG)) (r:Int×Int) (h:EX x0=some r):Sem E0 ⟨none,false⟩ Gu ⟨Fr 22 (BG 0 (Gy.enc (x0,()))),[]⟩ fun e s'=>(e = .normal\/e = .ret)/\∃ xs,ED E0.P s'.fr s'.hp Tryz.f53.results.toList=some xs/\EJ xs=G5 r:=by
 unfold EX at h
 let p1:Nat×AV:=(0,.sl 5 (x0.map AA.enc))
 refine BD (Bw (s1:=⟨Fr 22 [p1],[]⟩) AH ?_);refine AL AC [p1] [] ?_;refine AF ?_;refine AF ?_;refine AJ (s1:=⟨Fr 22 [p1,(8,.b (decide ((x0.length:Int) > 32)))],[]⟩) ?_ ?_
 ·refine AD (n:=22) AC 1 [p1,(6,.sl 5 (x0.map AA.enc))] [] kr ?_
  refine AK AC 0 rfl (Bi (AB rfl) rfl (EG (a:= .sl 5 (x0.map AA.enc)) kr (Cn (el:=70) kr))) ?_;exact AW AC
 refine AN (b:=(decide ((x0.length:Int) > 32))) kr (fun hb1=>?_) (fun hb1=>?_)
 ·rw [if_pos hb1] at h
  refine AL AC [(2,.j 0),(3,.j 7)] [] ?_;refine AS ?_;have hq:=OI h; subst hq;exact ⟨⟨Fr 22 [(2,.j 0),(3,.j 7)],[]⟩,AH,.inr rfl,[.j 0,.j 7],kr,kr⟩
 ·rw [Bu hb1] at h
  refine AY ?_;refine AF ?_
  let p2:Nat×AV:=(4,.j 0)
  refine AL AC [p1,p2] [] ?_;refine Aq ?_;obtain ⟨r8,hr8,h⟩:=OB h;refine Cp (n:=100000) ?_;rcases r8 with w9 | w10
  ·try dsimp only at h
   refine BH (Aw (s1:=⟨Fr 22 [p1,p2],[]⟩) AH (HH x0 _ 0 _ hr8)) ?_;refine AL AC [(2,.j 0),(3,.j 0)] [] ?_;refine AS ?_;have hq:=OI h; subst hq;exact ⟨⟨Fr 22 [(2,.j 0),(3,.j 0)],[]⟩,AH,.inr rfl,[.j 0,.j 0],kr,kr⟩
  ·try dsimp only at h
   refine BH (Aw (s1:=⟨Fr 22 [p1,p2],[]⟩) AH (HH x0 _ 0 _ hr8)) ?_;have hq:=OI h; subst hq;exact ⟨⟨Fr 22 [(2,.j w10.1),(3,.j w10.2)],[]⟩,AH,.inr rfl,[.j w10.1,.j w10.2],kr,kr⟩
def Mq:List AV->Option AV:=EN Gy (fun a=>EX a.1) G5
theorem Mx:XOk 53 Mq:=by
 refine Af Tryz.func53 (c:=Gu) ?h2 ⟨Tryz.call53⟩ Gy (fun a=>EX a.1) G5 (fun a=>(by show 1<=22; decide)) ?h3 ?h4
 case h2=>kernel_rfl
 case h3=>intro b; kernel_rfl
 case h4=>exact fun a b h=>LA a.1 b h
/- trestle/trestleref03.Valid -/
noncomputable def Il:Code:=Bg Tryz.f61
def EY (x0:(List AG)):Option (Bool) :=
 (EX x0).bind fun v1 =>
 some (v1.2==0)
def Gz:Cs ((List AG)×Unit):=(csC (cdL 5 AA) csN)
def G6 (r:Bool):AV:=cdB.enc r
theorem LB (x0:(List AG)) (r:Bool) (h:EY x0=some r):Sem E0 ⟨none,false⟩ Il ⟨Fr 12 (BG 0 (Gz.enc (x0,()))),[]⟩ fun e s'=>(e = .normal\/e = .ret)/\∃ xs,ED E0.P s'.fr s'.hp Tryz.f61.results.toList=some xs/\EJ xs=G6 r:=by
 unfold EY at h
 let p1:Nat×AV:=(0,.sl 5 (x0.map AA.enc))
 refine BD (Bw (s1:=⟨Fr 12 [p1],[]⟩) AH ?_);refine AL AC [p1] [] ?_;refine AF ?_;obtain ⟨v1,hv1,h⟩:=OB h;refine AJ (s1:=⟨Fr 12 [(4,.j v1.2)],[]⟩) ?_ ?_
 ·refine AD (n:=12) AC 1 [(6,.sl 5 (x0.map AA.enc))] [] kr ?_
  refine AO (caps:=[]) (xs:=[.sl 5 (x0.map AA.enc)]) (u:=(x0,())) rfl rfl Mx rfl (AB rfl) kr kr (AT (Ap (c:=(cdL 5 AA)) (v:=x0)) Ay) (.inl kr) hv1 ?_;exact AW AC
 refine AL AC [(2,.b (v1.2==0))] [] ?_;refine AS ?_;have hq:=OI h; subst hq;exact ⟨⟨Fr 12 [(2,.b (v1.2==0))],[]⟩,AH,.inr rfl,[.b (v1.2==0)],kr,kr⟩
def Mr:List AV->Option AV:=EN Gz (fun a=>EY a.1) G6
theorem My:XOk 61 Mr:=by
 refine Af Tryz.func61 (c:=Il) ?h2 ⟨Tryz.call61⟩ Gz (fun a=>EY a.1) G6 (fun a=>(by show 1<=12; decide)) ?h3 ?h4
 case h2=>kernel_rfl
 case h3=>intro b; kernel_rfl
 case h4=>exact fun a b h=>LB a.1 b h
/- trestle/trestleref03.word -/
noncomputable def JH:Code:=Bg Tryz.f110
def GC (x0:Int):Option ((List UInt8)) :=
 (idx [[114,97,110,107],[101,108,100,101,114],[121,111,117,116,104],[115,105,100,101],[104,111,115,116],[116,111,110,103,117,101],[99,111,117,114,116],[110,97,109,101],[108,105,115,116],[108,111,116]] (wr .i64 (x0 - 1))).bind fun v1 =>
 some v1
def HV:Cs (Int×Unit):=(csC cdI csN)
def Hb (r:(List UInt8)):AV:=cdS.enc r
theorem Lh (x0:Int) (r:(List UInt8)) (h:GC x0=some r):Sem E0 ⟨none,false⟩ JH ⟨Fr 10 (BG 0 (HV.enc (x0,()))),[]⟩ fun e s'=>(e = .normal\/e = .ret)/\∃ xs,ED E0.P s'.fr s'.hp Tryz.f110.results.toList=some xs/\EJ xs=Hb r:=by
 unfold GC at h
 let p1:Nat×AV:=(0,.j x0)
 refine BD (Bw (s1:=⟨Fr 10 [p1],[]⟩) AH ?_);refine AL AC [p1] [] ?_
 let p2:Option Blk:=mk 1 9 ([[114,97,110,107],[101,108,100,101,114],[121,111,117,116,104],[115,105,100,101],[104,111,115,116],[116,111,110,103,117,101],[99,111,117,114,116],[110,97,109,101],[108,105,115,116],[108,111,116]].map cdS.enc)
 refine AL AC [p1,(3,hd 0 ([[114,97,110,107],[101,108,100,101,114],[121,111,117,116,104],[115,105,100,101],[104,111,115,116],[116,111,110,103,117,101],[99,111,117,114,116],[110,97,109,101],[108,105,115,116],[108,111,116]].map cdS.enc))] [p2] ?_;refine AF ?_;obtain ⟨v1,hv1,h⟩:=OB h;refine AJ (s1:=⟨Fr 10 [(2,.st v1)],[]⟩) ?_ ?_
 ·refine AD (n:=10) AC 3 [(5,hd 0 ([[114,97,110,107],[101,108,100,101,114],[121,111,117,116,104],[115,105,100,101],[104,111,115,116],[116,111,110,103,117,101],[99,111,117,114,116],[110,97,109,101],[108,105,115,116],[108,111,116]].map cdS.enc)),(7,.j (wr .i64 (x0 - 1)))] [p2] kr ?_
  refine AK AC 0 rfl (Bi (AB rfl) rfl (AZ (a:=hd 0 ([[114,97,110,107],[101,108,100,101,114],[121,111,117,116,104],[115,105,100,101],[104,111,115,116],[116,111,110,103,117,101],[99,111,117,114,116],[110,97,109,101],[108,105,115,116],[108,111,116]].map cdS.enc)) (b:= .j (wr .i64 (x0 - 1))) kr kr (UQ (e:=cdS.enc) (xs:=[[114,97,110,107],[101,108,100,101,114],[121,111,117,116,104],[115,105,100,101],[104,111,115,116],[116,111,110,103,117,101],[99,111,117,114,116],[110,97,109,101],[108,105,115,116],[108,111,116]]) (t':=9) (el:=9) (k:=1) (ki:= .i64) kr kr kr hv1))) ?_;refine AK AC 0 rfl (Bi (AB rfl) rfl (Eb (p:= .pt 0 ((wr .i64 (x0 - 1)).toNat) 0) kr (UT (t':=9) (k:=1) (m:=1) (g:=false) (e:=cdS.enc) (xs:=[[114,97,110,107],[101,108,100,101,114],[121,111,117,116,104],[115,105,100,101],[104,111,115,116],[116,111,110,103,117,101],[99,111,117,114,116],[110,97,109,101],[108,105,115,116],[108,111,116]]) kr kr kr (P5 hv1).2 kr))) ?_;refine AD (n:=10) AC 1 [(2,.st v1)] [p2] kr ?_;exact AE rfl (Ax [] trivial ⟨lv,trivial⟩)
 refine AS ?_;have hq:=OI h; subst hq;exact ⟨⟨Fr 10 [(2,.st v1)],[]⟩,AH,.inr rfl,[.st v1],kr,kr⟩
def NX:List AV->Option AV:=EN HV (fun a=>GC a.1) Hb
theorem Nj:XOk 110 NX:=by
 refine Af Tryz.func110 (c:=JH) ?h2 ⟨Tryz.call110⟩ HV (fun a=>GC a.1) Hb (fun a=>(by show 1<=10; decide)) ?h3 ?h4
 case h2=>kernel_rfl
 case h3=>intro b; kernel_rfl
 case h4=>exact fun a b h=>Lh a.1 b h
section
variable {P:Program}{ops:Array Oper}{C:World->Prop}{Q:Act->World->Prop}{loud:Nat->Bool}{T:Nat}
/-- Loud operations that may come up now: one of them is the first loud one, if every other stands behind one of them. -/
theorem LN {n:Nat}(L:List Nat) (hL:L≠[]) (ht:Hj ops loud T n) (hin:∀ i ∈ L,∃ o,ops[i]? = some o) (hsel:∀ (j:Nat) (o:Oper) cs b,ops[j]? = some o->o.op≠ .select cs b) :
  ∀ (fuel:Nat) (listed:Array Bool) (a:Act) (w:World),(∀ j,j < ops.size->j ∉ L->loud j=true->listed.getD j true=false->∃ i ∈ L,Ec ops n j i=true)->Closed ops listed->listed.size=ops.size->(M0 ops loud T listed->C w) ->
   (∀ i ∈ L,∀ oi,ops[i]? = some oi->∀ j oj,ops[j]? = some oj->j≠i->listed.getD j true=false->(∀ e ∈ oj.after,Region.binds .any e=true->e.on≠i)->oi.apart ops oj=true) ->
   (∀ i ∈ L,i ∈ Region.ready .any ops listed) ->
   (∀ i ∈ L,mOp P ops C loud i (wpM P ops C loud T Q fuel (listed.setIfInBounds i true)) a w)->wpM P ops C loud T Q (fuel + 1) listed a w:=by
 intro fuel
 obtain ⟨i0,hi0⟩:=List.exists_mem_of_ne_nil L hL
 obtain ⟨o0,ho0⟩:=hin i0 hi0
 induction fuel with
 | zero =>
  intro listed a w _ _ _ hC _ hr H
  refine ⟨hC,fun h=>(by have:=hr i0 hi0; rw [h] at this; cases this),fun j hj=>?_⟩
  by_cases hji:j ∈ L
  ·exact H j hji
  ·obtain ⟨u,w',h1⟩:=Gc ho0 (H i0 hi0)
   have:=ready_mono hj (fun e=>hji (e ▸ hi0))
   rw [h1.2.1] at this
   cases this
 | succ fuel ih =>
  intro listed a w hT hcl hsz hC hfree hr H
  refine ⟨hC,fun h=>(by have:=hr i0 hi0; rw [h] at this; cases this),fun j hj=>?_⟩
  by_cases hji:j ∈ L
  ·exact H j hji
  obtain ⟨hjun,oj,hoj,hall⟩:=mem_ready.1 hj
  have hnl:∀ i ∈ L,¬ listed.getD i false=true:=fun i hi h1=>by
   obtain ⟨ox,hx⟩:=hin i hi
   have hun:=(mem_ready.1 (hr i hi)).1
   have hlt:i < ops.size:=(Array.getElem?_eq_some_iff.1 hx).1
   have h':i < listed.size:=by omega
   simp [h'] at hun h1; rw [hun] at h1; cases h1
  have hne:∀ i ∈ L,j≠i:=fun i hi e=>hji (e ▸ hi)
  have hnot:∀ i ∈ L,∀ e ∈ oj.after,Region.binds .any e=true->e.on≠i:=fun i hi e he hb heq=>hnl i hi (by rw [<-heq]; exact hall e he hb)
  have hjlt:j < ops.size:=(Array.getElem?_eq_some_iff.1 hoj).1
  have hlj:loud j=false:=by
   cases hlj:loud j with
   | false=>rfl
   | true =>
    obtain ⟨i,hi,hw⟩:=hT j hjlt hji hlj hjun
    exact absurd (Gf hcl n j i hw fun o ho e he hb=>by rw [hoj] at ho; injection ho with ho; subst ho; exact hall e he hb) (hnl i hi)
  have ap:∀ i ∈ L,∀ oi,ops[i]? = some oi->oi.apart ops oj=true:=fun i hi oi hoi=>hfree i hi oi hoi j oj hoj (hne i hi) hjun (hnot i hi)
  have hun':∀ k,(listed.setIfInBounds j true).getD k true=false->listed.getD k true=false:=fun k hun=>by
   by_cases hjk:j=k
   ·subst hjk; exact hjun
   ·rw [getD_set_ne true hjk] at hun; exact hun
  have hCw:M0 ops loud T (listed.setIfInBounds j true)->C w:=fun hn=>hC fun k hTk hk hlk=>hun' k (hn k hTk hk hlk)
  obtain ⟨ap1,ap2,ap3⟩:=Oper.apart_spec (ap i0 hi0 o0 ho0)
  obtain ⟨u,w',h1⟩:=Gc ho0 (H i0 hi0)
  obtain ⟨v,hy,_⟩:=CT hoj hlj (h1.2.2 j (ready_mono hj (hne i0 hi0)))
  have hya:YieldsM P ops C oj v a:=hy.same (execOp_put oj (fun cs b=>hsel j oj cs b hoj) _ o0.dst u ap1).symm (wanted_put oj _ o0.dst u ap1).symm
  refine hya.mOp hoj hlj ?_
  exact ih (listed.setIfInBounds j true) (a.put oj.dst v) w (fun k hk h1 h2 h3=>hT k hk h1 h2 (hun' k h3)) (hcl.set hj) (by simpa using hsz) hCw (fun i hi oi hoi k ok hk h1 h2 h3=>hfree i hi oi hoi k ok hk h1 (hun' k h2) h3) (fun i hi=>ready_mono (hr i hi) (Ne.symm (hne i hi)))
   (fun i hi=>by
    obtain ⟨oi,hoi⟩:=hin i hi
    obtain ⟨bp1,bp2,bp3⟩:=Oper.apart_spec (ap i hi oi hoi)
    exact K8 ht hoi hoj hsel hcl hsz bp1 bp2 bp3 (hr i hi) hj (hne i hi) hlj hya (H i hi))
/-- What holds of the region throughout. -/
structure MOk (ops:Array Oper) (T:Nat):Prop where
 ns:Region.noSelect ops=true
 tl:Hj ops (C4 ops T) T ops.size
 tT:T < ops.size->C4 ops T T=true
/-- What is checked of an operation that may come up now. -/
def Iq (ops:Array Oper) (m:List Bool) (i:Nat):Bool:=(Region.ready .any ops m.toArray).contains i&&Region.free .any ops m.toArray i
def KD (ops:Array Oper) (T:Nat) (m:List Bool) (L:List Nat):Bool :=
 (L.all fun i=>Iq ops m i)&&(List.range ops.size).all fun j=>L.contains j||!C4 ops T j||m.toArray.getD j true||L.any fun i=>Ec ops ops.size j i
def O2 (ops:Array Oper) (T p f:Nat) (m:List Bool):Bool :=
 Nat.beq (p + f) ops.size&&Region.lexFrom .any ops f p m.toArray&&((List.range p).all fun j=>m.toArray.getD j true)&&(List.range ops.size).all fun k=>!(Nat.ble p k&&C4 ops T k)||(List.range ops.size).all fun j=>!(Nat.blt k j&&C4 ops T j)||Ec ops ops.size j k
end
def RunM (E:Env) (ops:Array Oper) (T n0 f:Nat) (m:List Bool) (s:St) (K:St->Prop):Prop :=
 ∀ (base:Bs) (Q:Act->World->Prop) (w0:World) (Z:Nat->Prop) (R0:List RI) (h0:Hp) (a:Act) (w:World) (R:List RI),MOk ops T->Closed ops m.toArray->m.length=ops.size->HR w0 Z R0 h0->n0=h0.length->SR E base w Z R s a->w0.grownBy w none->Step w0 Z R0 h0 w Z R s.hp->(∀ (b:Nat) (B:Option Blk),h0[b]? = some B->s.hp[b]? = some B) ->
  (∀ s' a' w' Z' R',K s'->SR E base w' Z' R' s' a'->StepW w0 Z R0 h0 w' Z' R' s'.hp->Q a' w')->wpM E.P ops (fun w'=>w0.grownBy w' none) (C4 ops T) T Q f m.toArray a w
section
variable {E:Env}{cx:Cx}{ops:Array Oper}{s s1:St}{K:St->Prop}{n0 f T i j k:Nat}{m:List Bool}{Q:Ex->St->Prop}{id:Nat}{o o2 o3:Oper}
theorem EP (m:List Bool) (i:Nat):m.toArray.setIfInBounds i true=(m.set i true).toArray:=by simp
/-- An operation that is quiet. -/
theorem RunM.q (i:Nat) (hq:(Iq ops m i&&!C4 ops T i)=true) (ho:ops[i]? = some o) (h:Op1 E ops T n0 i o s fun s'=>RunM E ops T n0 f (m.set i true) s' K):RunM E ops T n0 (f + 1) m s K:=by
 intro base Q w0 Z R0 h0 a w R hM hcl hsz hh0 hn0 sr hgr st hpre q
 unfold Iq at hq
 simp only [Bool.and_eq_true,Bool.not_eq_true'] at hq
 obtain ⟨⟨hr,hf⟩,hl⟩:=hq
 have hr':i ∈ Region.ready .any ops m.toArray:=by simpa using hr
 have hst:=h base (fun a w=>wpM E.P ops (fun w'=>w0.grownBy w' none) (C4 ops T) T Q f (m.set i true).toArray a w) w0 Z R0 h0 a w R hh0 hn0 sr hgr st hpre ho fun s' a' w' R' hk sr' hg' st' hp' =>
  hk base Q w0 Z R0 h0 a' w' R' hM (by rw [<-EP]; exact hcl.set hr') (by simpa using hsz) hh0 hn0 sr' hg' st' hp' q
 obtain ⟨v,hy,hK⟩:=CT ho hl hst
 refine HK ho hl (Region.noSelect_spec hM.ns) f m.toArray a w (fun _=>hgr) hcl (by simpa using hsz) (Region.free_spec ho hf) hr' hy ?_
 rw [EP]
 exact hK
/-- The loud ones that may come up now: each of them. -/
theorem RunM.loud (L:List Nat) (hne:L≠[]) (hl:KD ops T m L=true) (h:∀ i ∈ L,∃ o,ops[i]? = some o/\Op1 E ops T n0 i o s fun s'=>RunM E ops T n0 f (m.set i true) s' K):RunM E ops T n0 (f + 1) m s K:=by
 intro base Q w0 Z R0 h0 a w R hM hcl hsz hh0 hn0 sr hgr st hpre q
 unfold KD at hl
 simp only [Bool.and_eq_true] at hl
 obtain ⟨h1,h2⟩:=hl
 have hr:∀ i ∈ L,i ∈ Region.ready .any ops m.toArray/\Region.free .any ops m.toArray i=true:=fun i hi=>by
  have:=List.all_eq_true.1 h1 i hi
  unfold Iq at this
  simp only [Bool.and_eq_true] at this
  exact ⟨by simpa using this.1,this.2⟩
 refine LN (n:=ops.size) L hne hM.tl (fun i hi=>⟨_,(h i hi).choose_spec.1⟩) (Region.noSelect_spec hM.ns) f m.toArray a w (fun j hj hjL hlj hun=>?_) hcl (by simpa using hsz) (fun _=>hgr) (fun i hi oi hoi=>Region.free_spec hoi (hr i hi).2) (fun i hi=>(hr i hi).1) fun i hi=>?_
 ·have:=List.all_eq_true.1 h2 j (by simpa using hj)
  simp only [Bool.or_eq_true,Bool.not_eq_true',List.any_eq_true] at this
  rcases this with ((h3 | h3) | h3) | h3
  ·exact absurd (by simpa using h3) hjL
  ·rw [hlj] at h3; cases h3
  ·rw [hun] at h3; cases h3
  ·exact h3
 ·obtain ⟨o,ho,hop⟩:=h i hi
  rw [EP]
  exact hop base (fun a w=>wpM E.P ops (fun w'=>w0.grownBy w' none) (C4 ops T) T Q f (m.set i true).toArray a w) w0 Z R0 h0 a w R hh0 hn0 sr hgr st hpre ho fun s' a' w' R' hk sr' hg' st' hp' =>
   hk base Q w0 Z R0 h0 a' w' R' hM (by rw [<-EP]; exact hcl.set (hr i hi).1) (by simpa using hsz) hh0 hn0 sr' hg' st' hp' q
/-- What is left stands in one order. -/
theorem S7 (p:Nat) (hp:O2 ops T p f m=true) (h:RunDX E ops T n0 p (ops.toList.drop p) s K):RunM E ops T n0 f m s K:=by
 intro base Q w0 Z R0 h0 a w R hM hcl hsz hh0 hn0 sr hgr st hpre q
 unfold O2 at hp
 simp only [Bool.and_eq_true] at hp
 obtain ⟨⟨⟨h1,h2⟩,h3⟩,h4⟩:=hp
 have h1:=Nat.eq_of_beq_eq_true h1
 have hlen:(ops.toList.drop p).length=f:=by simp; omega
 have hops:∀ j,(ops.toList.drop p)[j]? = ops[p + j]?:=fun j=>by simp
 have:=Ki hM.ns (n:=ops.size) (k0:=p) (fun k j hk hks hj hlk hlj hkj=>?_) hM.tl hM.tT (ops.toList.drop p) p m.toArray a w (Nat.le_refl _) (by omega) hops (by rw [hlen]; exact h2) hcl (by simpa using hsz) (fun j hj=>List.all_eq_true.1 h3 j (by simpa using hj)) (h base Q w0 Z R0 h0 a w R hh0 hn0 sr hgr st hpre hops q)
 ·rwa [hlen] at this
 ·have a1:=List.all_eq_true.1 h4 k (by simpa using hks)
  simp only [hlk,Nat.ble_eq_true_of_le hk,Bool.and_self,Bool.not_true,Bool.false_or] at a1
  have a2:=List.all_eq_true.1 a1 j (by simpa using hj)
  have hb:Nat.blt k j=true:=Nat.ble_eq_true_of_le hkj
  simpa [hlj,hb] using a2
end
/-- As Op1, of an operation behind which nothing is read any more. -/
def OpZ (E:Env) (ops:Array Oper) (T k:Nat) (o:Oper) (s:St) (Ks:St->Prop):Prop :=
 ∀ (base:Bs) (K:Act->World->Prop) (w0:World) (Z:Nat->Prop) (a:Act) (w:World) (R:List RI),SR E base w Z R s a->w0.grownBy w none->ops[k]? = some o ->
  (∀ s' a' w' Z' R',Ks s'->SR E base w' Z' R' s' a'->w0.grownBy w' none->StepW w Z R s.hp w' Z' R' s'.hp->K a' w')->mOp E.P ops (fun w'=>w0.grownBy w' none) (C4 ops T) k K a w
def RunZ (E:Env) (ops:Array Oper) (T f:Nat) (m:List Bool) (s:St) (K:St->Prop):Prop :=
 ∀ (base:Bs) (Q:Act->World->Prop) (w0:World) (Z:Nat->Prop) (a:Act) (w:World) (R:List RI),MOk ops T->Closed ops m.toArray->m.length=ops.size->SR E base w Z R s a->w0.grownBy w none ->
  (∀ s' a' w' Z' R',K s'->SR E base w' Z' R' s' a'->StepW w Z R s.hp w' Z' R' s'.hp->Q a' w')->wpM E.P ops (fun w'=>w0.grownBy w' none) (C4 ops T) T Q f m.toArray a w
section
variable {E:Env}{cx:Cx}{ops:Array Oper}{s s1:St}{K Ks:St->Prop}{n n0 f T i j k:Nat}{m:List Bool}{o o2 o3:Oper}{l:List (Nat×AV)}{hp:Hp}{fid:FuncId}
theorem T5 (hE:EnvOk E) (hW:isW o.op=false) (hLd:NM o.op=false) (hk:k < T) (e:opsD E (evC E 0) ⟨none,false⟩ ops n0 [o] s=some s1) (kk:Ks s1):OpZ E ops T k o s Ks:=by
 intro base K w0 Z a w R sr hgr hok q
 have hkT:¬ T<=k:=by omega
 unfold mOp
 rw [hok]
 dsimp only
 unfold opsD at e
 rw [if_neg (by rw [hW]; simp)] at e
 split at e
 ·cases e
 ·next hw =>
  rw [if_neg (by rw [wantedA_eq sr hw]; simp)]
  injection e with e
  subst e
  exact q _ _ w Z R kk (sr.put undef_vr) hgr (StepW.refl _ _ _ _)
 ·next hw =>
  rw [if_pos (wantedA_eq sr hw)]
  have hρ:∀ o x,opA E s.fr o=some x->VR w Z R x (a.eval o):=fun o x e=>opA_vr sr o x e
  split at e
  ·next x hx =>
   split at e
   ·injection e with e
    subst e
    have hq:=K3 hx
    rw [if_neg (by rw [II hok hq hkT]; simp)]
    obtain ⟨u,hu,hrun⟩:=evOpQ_sound sr.hh hρ hx
    exact ⟨u,(fun w' _=>hrun w' fun h=>by rw [hLd] at h; cases h),q _ _ w Z R kk (sr.put hu) hgr (StepW.refl _ _ _ _)⟩
   ·cases e
  ·split at e
   ·next x h' hx =>
    injection e with e
    subst e
    have hq:=Hf hx
    rw [if_pos (D8 hok hq)]
    obtain ⟨u,w',R',h1,h2,h3,h4,h5⟩:=evOpN_sound hρ sr.hh hx
    exact Ip h1 (q _ _ w' Z R' kk ((sr.step h2 h4).put h3) (DY hgr h5) h4.w)
   ·split at e
    ·next f args tys ho =>
     split at e
     ·next fv xs hf hxs =>
      split at e
      ·next r hr =>
       injection e with e
       subst e
       obtain ⟨x,h'⟩:=r
       have hq:isQ o.op=false:=by rw [ho]; rfl
       rw [if_pos (D8 hok hq)]
       obtain ⟨g,uf,uc,hva,hcl,hret⟩:=ES hE (code_sound hE 0).1 (hρ _ _ hf) (opds_vr hρ hxs) sr.hh sr.gl hr
       unfold Lw
       rw [EH (uf:=uf) (uc:=uc) ho hva rfl hcl w]
       refine Ret.mono hret fun v w' hS=>?_
       obtain ⟨hg1,R',k1,k2,k3⟩:=hS
       exact q _ _ w' Z R' kk ((sr.step k1 k3).put k2) (DY hgr hg1) k3.w
      ·cases e
     ·cases e
    ·cases e
theorem OpZ.one (hE:EnvOk E) (hW:(!isW o.op&&!NM o.op&&Nat.blt k T)=true) (h:opsD E (evC E 0) ⟨none,false⟩ ops 0 [o] s=some s1) (kk:Ks s1):OpZ E ops T k o s Ks:=by
 simp only [Bool.and_eq_true,Bool.not_eq_true'] at hW
 exact T5 hE hW.1.1 hW.1.2 (Nat.le_of_ble_eq_true hW.2) h kk
theorem RunM.z (h:RunZ E ops T f m s K):RunM E ops T n0 f m s K:=fun base Q w0 Z _ _ a w R hM hcl hsz _ _ sr hgr st _ q=>h base Q w0 Z a w R hM hcl hsz sr hgr fun s' a' w' Z' R' hK sr' st'=>q s' a' w' Z' R' hK sr' (st.w.trans st')
theorem RunZ.q (i:Nat) (hq:(Iq ops m i&&!C4 ops T i)=true) (ho:ops[i]? = some o) (h:OpZ E ops T i o s fun s'=>RunZ E ops T f (m.set i true) s' K):RunZ E ops T (f + 1) m s K:=by
 intro base Q w0 Z a w R hM hcl hsz sr hgr q
 unfold Iq at hq
 simp only [Bool.and_eq_true,Bool.not_eq_true'] at hq
 obtain ⟨⟨hr,hf⟩,hl⟩:=hq
 have hr':i ∈ Region.ready .any ops m.toArray:=by simpa using hr
 have hst:=h base (fun a w=>wpM E.P ops (fun w'=>w0.grownBy w' none) (C4 ops T) T Q f (m.set i true).toArray a w) w0 Z a w R sr hgr ho fun s' a' w' Z' R' hk sr' hg' st' =>
  hk base Q w0 Z' a' w' R' hM (by rw [<-EP]; exact hcl.set hr') (by simpa using hsz) sr' hg' fun s2 a2 w2 Z2 R2 hK sr2 st2=>q s2 a2 w2 Z2 R2 hK sr2 (st'.trans st2)
 obtain ⟨v,hy,hK⟩:=CT ho hl hst
 refine HK ho hl (Region.noSelect_spec hM.ns) f m.toArray a w (fun _=>hgr) hcl (by simpa using hsz) (Region.free_spec ho hf) hr' hy ?_
 rw [EP]
 exact hK
theorem S8 (L:List Nat) (hne:L≠[]) (hl:KD ops T m L=true) (h:∀ i ∈ L,∃ o,ops[i]? = some o/\OpZ E ops T i o s fun s'=>RunZ E ops T f (m.set i true) s' K):RunZ E ops T (f + 1) m s K:=by
 intro base Q w0 Z a w R hM hcl hsz sr hgr q
 unfold KD at hl
 simp only [Bool.and_eq_true] at hl
 obtain ⟨h1,h2⟩:=hl
 have hr:∀ i ∈ L,i ∈ Region.ready .any ops m.toArray/\Region.free .any ops m.toArray i=true:=fun i hi=>by
  have:=List.all_eq_true.1 h1 i hi
  unfold Iq at this
  simp only [Bool.and_eq_true] at this
  exact ⟨by simpa using this.1,this.2⟩
 refine LN (n:=ops.size) L hne hM.tl (fun i hi=>⟨_,(h i hi).choose_spec.1⟩) (Region.noSelect_spec hM.ns) f m.toArray a w (fun j hj hjL hlj hun=>?_) hcl (by simpa using hsz) (fun _=>hgr) (fun i hi oi hoi=>Region.free_spec hoi (hr i hi).2) (fun i hi=>(hr i hi).1) fun i hi=>?_
 ·have:=List.all_eq_true.1 h2 j (by simpa using hj)
  simp only [Bool.or_eq_true,Bool.not_eq_true',List.any_eq_true] at this
  rcases this with ((h3 | h3) | h3) | h3
  ·exact absurd (by simpa using h3) hjL
  ·rw [hlj] at h3; cases h3
  ·rw [hun] at h3; cases h3
  ·exact h3
 ·obtain ⟨o,ho,hop⟩:=h i hi
  rw [EP]
  exact hop base (fun a w=>wpM E.P ops (fun w'=>w0.grownBy w' none) (C4 ops T) T Q f (m.set i true).toArray a w) w0 Z a w R sr hgr ho fun s' a' w' Z' R' hk sr' hg' st' =>
   hk base Q w0 Z' a' w' R' hM (by rw [<-EP]; exact hcl.set (hr i hi).1) (by simpa using hsz) sr' hg' fun s2 a2 w2 Z2 R2 hK sr2 st2=>q s2 a2 w2 Z2 R2 hK sr2 (st'.trans st2)
/-- The stores. -/
theorem S9 (hp:O2 ops T T f m=true) (h:RunS E ops (ops.toList.drop T) s K):RunZ E ops T f m s K:=by
 intro base Q w0 Z a w R hM hcl hsz sr hgr q
 unfold O2 at hp
 simp only [Bool.and_eq_true] at hp
 obtain ⟨⟨⟨h1,h2⟩,h3⟩,h4⟩:=hp
 have h1:=Nat.eq_of_beq_eq_true h1
 have hlen:(ops.toList.drop T).length=f:=by simp; omega
 have hops:∀ j,(ops.toList.drop T)[j]? = ops[T + j]?:=fun j=>by simp
 have:=Ki (C:=fun w'=>w0.grownBy w' none) hM.ns (n:=ops.size) (k0:=T) (fun k j hk hks hj hlk hlj hkj=>?_) hM.tl hM.tT (ops.toList.drop T) T m.toArray a w (Nat.le_refl _) (by omega) hops (by rw [hlen]; exact h2) hcl (by simpa using hsz) (fun j hj=>List.all_eq_true.1 h3 j (by simpa using hj))
  (IK (h base Q a w Z R sr q) (Nat.le_refl _) (fun _=>hgr) (fun j hj=>IY (by omega)) hops)
 ·rwa [hlen] at this
 ·have a1:=List.all_eq_true.1 h4 k (by simpa using hks)
  simp only [hlk,Nat.ble_eq_true_of_le hk,Bool.and_self,Bool.not_true,Bool.false_or] at a1
  have a2:=List.all_eq_true.1 a1 j (by simpa using hj)
  have hb:Nat.blt k j=true:=Nat.ble_eq_true_of_le hkj
  simpa [hlj,hb] using a2
end
/-- Every order of what is not free is gone through, in the world as it is. -/
def RunA (E:Env) (ops:Array Oper) (f:Nat) (m:List Bool) (s:St) (K:St->Prop):Prop :=
 ∀ (base:Bs) (Q:Act->World->Prop) (a:Act) (w:World) (Z:Nat->Prop) (R:List RI),Region.noSelect ops=true->Closed ops m.toArray->m.length=ops.size->SR E base w Z R s a ->
  (∀ s' a' w' Z' R',K s'->SR E base w' Z' R' s' a'->StepW w Z R s.hp w' Z' R' s'.hp->Q a' w')->wpM E.P ops (fun _=>True) (C4 ops 0) 0 Q f m.toArray a w
section
variable {E:Env}{cx:Cx}{ops:Array Oper}{s s1:St}{K:St->Prop}{f i j:Nat}{m:List Bool}{Q:Ex->St->Prop}{id k:Nat}{o o2 o3:Oper}
theorem ST {i:Nat}(h:C4 ops 0 i=false):Dz ops i=true:=by
 unfold C4 at h
 simp only [Bool.or_eq_false_iff,Bool.and_eq_false_iff,Bool.not_eq_false'] at h
 rcases h.2 with h1 | h1
 ·cases h1
 ·exact h1
theorem Td (n:Nat):Hj ops (C4 ops 0) 0 n:=fun j _ _ _ i _ hl hf=>by rw [ST hl] at hf; cases hf
theorem QZ (hE:EnvOk E) (f:Nat) (hb:(Region.noSelect ops&&Nat.beq f ops.size)=true) (h:RunA E ops f (List.replicate f false) s fun s'=>Wk E s' s1) (q:Q .normal s1):Sem E cx (.region id ops true) s Q:=by
 intro ro base Qm a w Z R _ sr _ kk
 simp only [Bool.and_eq_true] at hb
 have hf:=Nat.eq_of_beq_eq_true hb.2
 have hgd:w.grownBy w.drew none:=Km w
 have st0:Step w Z R s.hp w.drew Z R s.hp:=⟨rfl,rfl,rfl,Nat.le_refl _,fun c hc _=>rfl,fun _ h=> .inl h,fun _ h=>h,fun _ h=> .inl h,fun _ _ h=>h⟩
 have hsrd:SR E base w.drew Z R s a:=⟨sr.hh.keep (Nat.le_refl _) (fun c hc=>hgd.block c hc (by simp)),sr.fr.off (fun c hc=>rfl),sr.mks.step st0,sr.gl.off (fun c hc=>rfl),sr.bs⟩
 have hrep:(List.replicate f false).toArray=Array.replicate ops.size false:=by rw [hf]; simp
 have hcl:Closed ops (Array.replicate ops.size false):=fun k o hk hlis=>by
  rw [getD_replicate_false] at hlis; cases hlis
 have hm:=h base (fun a w=>Qm .normal a w) a w.drew Z R hb.1 (by rw [hrep]; exact hcl) (by simp [hf]) hsrd (fun s' a' w' Z' R' hw sr' st=>by
  obtain ⟨Z2,R2,sr2,st2⟩:=hw base w' Z' R' a' sr'
  exact kk .normal s1 a' w' Z2 R2 q sr2 ((st0.w.trans st).trans st2))
 rw [hrep,hf] at hm
 exact wpIn_region_any hE.mixed (Gr (C:=fun _=>True) (loud:=C4 ops 0) (T:=0) (n:=ops.size) (Q:=fun a w=>Qm .normal a w) ro 0 (Td _) (fun _ _ h=>h) _ _ _ _ hcl (by simp) hm)
theorem RunA.q (i:Nat) (hq:(Iq ops m i&&!C4 ops 0 i)=true) (ho:ops[i]? = some o) (h:RunS E ops [o] s fun s'=>RunA E ops f (m.set i true) s' K):RunA E ops (f + 1) m s K:=by
 intro base Q a w Z R hns hcl hsz sr q
 unfold Iq at hq
 simp only [Bool.and_eq_true,Bool.not_eq_true'] at hq
 obtain ⟨⟨hr,hf⟩,hl⟩:=hq
 have hr':i ∈ Region.ready .any ops m.toArray:=by simpa using hr
 have hst:=h base (fun a w=>wpM E.P ops (fun _=>True) (C4 ops 0) 0 Q f (m.set i true).toArray a w) a w Z R sr fun s' a' w' Z' R' hk sr' st' =>
  hk base Q a' w' Z' R' hns (by rw [<-EP]; exact hcl.set hr') (by simpa using hsz) sr' fun s2 a2 w2 Z2 R2 hK sr2 st2=>q s2 a2 w2 Z2 R2 hK sr2 (st'.trans st2)
 have hfr:Gp o=true:=by have:=ST hl; simpa [Dz,ho] using this
 have hy:∃ v,YieldsM E.P ops (fun _=>True) o v a/\wpM E.P ops (fun _=>True) (C4 ops 0) 0 Q f (m.set i true).toArray (a.put o.dst v) w:=by
  unfold LwL at hst
  split at hst
  ·next hw =>
   obtain ⟨u,h1,h2⟩:=hst
   exact ⟨u,.inl ⟨hw,fun w' _=>h1 w'⟩,h2⟩
  ·next hw=>exact ⟨undef,.inr ⟨by simpa using hw,rfl⟩,hst⟩
 obtain ⟨v,hy,hK⟩:=hy
 refine HK ho hl (Region.noSelect_spec hns) f m.toArray a w (fun _=>trivial) hcl (by simpa using hsz) (Region.free_spec ho hf) hr' hy ?_
 rw [EP]
 exact hK
theorem M4 (L:List Nat) (hne:L≠[]) (hl:(KD ops 0 m L&&L.all fun i=>!Dz ops i)=true) (h:∀ i ∈ L,∃ o,ops[i]? = some o/\RunS E ops [o] s fun s'=>RunA E ops f (m.set i true) s' K):RunA E ops (f + 1) m s K:=by
 intro base Q a w Z R hns hcl hsz sr q
 simp only [Bool.and_eq_true] at hl
 obtain ⟨hl,hfr⟩:=hl
 unfold KD at hl
 simp only [Bool.and_eq_true] at hl
 obtain ⟨h1,h2⟩:=hl
 have hr:∀ i ∈ L,i ∈ Region.ready .any ops m.toArray/\Region.free .any ops m.toArray i=true:=fun i hi=>by
  have:=List.all_eq_true.1 h1 i hi
  unfold Iq at this
  simp only [Bool.and_eq_true] at this
  exact ⟨by simpa using this.1,this.2⟩
 refine LN (n:=ops.size) L hne (Td _) (fun i hi=>⟨_,(h i hi).choose_spec.1⟩) (Region.noSelect_spec hns) f m.toArray a w (fun j hj hjL hlj hun=>?_) hcl (by simpa using hsz) (fun _=>trivial) (fun i hi oi hoi=>Region.free_spec hoi (hr i hi).2) (fun i hi=>(hr i hi).1) fun i hi=>?_
 ·have:=List.all_eq_true.1 h2 j (by simpa using hj)
  simp only [Bool.or_eq_true,Bool.not_eq_true',List.any_eq_true] at this
  rcases this with ((h3 | h3) | h3) | h3
  ·exact absurd (by simpa using h3) hjL
  ·rw [hlj] at h3; cases h3
  ·rw [hun] at h3; cases h3
  ·exact h3
 ·obtain ⟨o,ho,hop⟩:=h i hi
  have hfi:Dz ops i=false:=by simpa using List.all_eq_true.1 hfr i hi
  have hli:C4 ops 0 i=true:=by
   cases hh:C4 ops 0 i with
   | true=>rfl
   | false=>rw [ST hh] at hfi; cases hfi
  have hfo:Gp o=false:=by simpa [Dz,ho] using hfi
  rw [EP]
  have hst:=hop base (fun a w=>wpM E.P ops (fun _=>True) (C4 ops 0) 0 Q f (m.set i true).toArray a w) a w Z R sr fun s' a' w' Z' R' hk sr' st' =>
   hk base Q a' w' Z' R' hns (by rw [<-EP]; exact hcl.set (hr i hi).1) (by simpa using hsz) sr' fun s2 a2 w2 Z2 R2 hK sr2 st2=>q s2 a2 w2 Z2 R2 hK sr2 (st'.trans st2)
  unfold mOp
  rw [ho]
  dsimp only
  unfold LwL at hst
  split at hst
  ·next hw =>
   rw [if_pos hw,if_pos hli]
   rw [hfo] at hst
   exact hst
  ·next hw=>rw [if_neg hw]; exact hst
theorem RunA.l1 (i:Nat) (hl:(KD ops 0 m [i]&&[i].all fun i=>!Dz ops i)=true) (hi:ops[i]? = some o) (h:RunS E ops [o] s fun s'=>RunA E ops f (m.set i true) s' K):RunA E ops (f + 1) m s K :=
 M4 [i] (by simp) hl fun x hx=>by
  obtain rfl:x=i:=by simpa using hx
  exact ⟨o,hi,h⟩
theorem RunA.l2 (i j:Nat) (hl:(KD ops 0 m [i,j]&&[i,j].all fun i=>!Dz ops i)=true) (hi:ops[i]? = some o) (hj:ops[j]? = some o2) (h:RunS E ops [o] s fun s'=>RunA E ops f (m.set i true) s' K) (h2:RunS E ops [o2] s fun s'=>RunA E ops f (m.set j true) s' K):RunA E ops (f + 1) m s K :=
 M4 [i,j] (by simp) hl fun x hx=>by
  rcases (by simpa using hx:x=i\/x=j) with rfl | rfl
  ·exact ⟨o,hi,h⟩
  ·exact ⟨o2,hj,h2⟩
theorem RunS.only {n:Nat}(hE:EnvOk E){s:St}(l:List (Nat×AV)) (hp:Hp) (h:OE (F4 E (evC E 0) ⟨none,false⟩ ops [o] s) l=some (n,xs2 l,hp)) (k:K ⟨Fr n l,hp⟩):RunS E ops [o] s K :=
 AD (rest:=[o]) hE 1 l hp h (AE rfl k)
theorem RunA.done (h:(Region.ready .any ops m.toArray).isEmpty=true) (kk:K s):RunA E ops 0 m s K:=fun base Q a w Z R _ _ _ sr q =>
 ⟨fun _=>trivial,by simpa using h,q s a w Z R kk sr (StepW.refl _ _ _ _)⟩
end
def by8 (ns:List Int):List UInt8:=ns.map fun n=>UInt8.ofNat n.toNat
theorem Rl {w:World}{Z:Nat->Prop}{R:List RI}:∀ {ns:List Int}{us:List Value},VRs w Z R (ns.map fun k=> .v (.int .u8 k)) us->us=ns.map (Value.int .u8)
 | [],us,h=>by
  have:=h.len
  simpa using this
 | k::ns,[],h=>by
  have:=h.len
  simp at this
 | k::ns,u::us,h=>by
  have h0:=h.at_ 0 (.v (.int .u8 k)) u rfl rfl
  have h1:u = .int .u8 k:=by cases h0; rfl
  have h2:VRs w Z R (ns.map fun k=> .v (.int .u8 k)) us:=⟨by have:=h.len; simpa using this,fun i x u hx hu=>h.at_ (i + 1) x u (by simpa using hx) (by simpa using hu)⟩
  rw [h1,Rl h2]; rfl
theorem Pw:∀ (ns:List Int),BP (ns.map (Value.int .u8))=ns.map (Value.int .u8)
 | []=>rfl
 | k::ns=>by
  have:=Pw ns
  unfold BP at *
  simp only [List.map_cons,List.flatten_cons,this]
  rfl
theorem RunS.bytes {E:Env}{ops:Array Oper}{rest rest':List Oper}{n:Nat}{l:List (Nat×AV)}{hp:Hp}{K:St->Prop}{d:Nat}{a b e:TypeId}{x:Operand}{ty:TypeId}{pos:String}{af:Array Edge}{g:Option (Nat×Bool)}{bb lo q c:Nat}(ns:List Int) (hr:rest=⟨some d,.convert a b x,ty,pos,af,g⟩::rest') (hw:BS ops (Fr n l) ⟨some d,.convert a b x,ty,pos,af,g⟩=some true)
  (h1:E.P.underlying a=some (.slice e)) (h2:E.P.underlying e=some (.int .u8)) (h3:E.P.underlying b=some .string) (hx:opA E (Fr n l) x=some (.rf bb lo q c)) (hl:HD hp 1 (.rf bb lo q c)=some (ns.map fun k=> .v (.int .u8 k))) (hn:Nat.ble ns.length maxLen=true) (kk:RunS E ops rest' ⟨Fr n ((d,.st (by8 ns))::l),hp⟩ K):RunS E ops rest ⟨Fr n l,hp⟩ K:=by
 subst hr
 intro base Q ac w Z R sr qq
 refine IZ rfl (wantedA_eq sr hw) ?_
 have hv:=opA_vr sr x _ hx
 unfold Lw
 generalize hva:ac.eval x=v at hv
 have hso:Hx E.P a (.rf bb lo q c)=true:=by unfold Hx; rw [h1]
 obtain ⟨us,u1,u2,u3,u4⟩:=Kq sr.hh hv hso hl
 cases hv with
 | rf hr h0 h4 h5 h6 =>
  rename_i m r
  have hus:=Rl u1
  subst hus
  have hq:q=ns.length:=by
   simp only [HD] at hl
   split at hl
   ·split at hl
    ·next hc =>
     injection hl with hl
     have:=congrArg List.length hl
     simp at this
     omega
    ·cases hl
   ·cases hl
  subst hq
  have hf:=u4 ns.length (by simp)
  have hfc:(loadCells ⟨r.c,lo * r.k,none⟩ ns.length).run E.P w = .ok (ns.map (Value.int .u8)).toArray w:=by
   simpa [Builtin.firstCells,List.take_of_length_le,Pw] using hf
  have hrun:(execOp ac.eval ⟨some d,.convert a b x,ty,pos,af,g⟩).run E.P w = .ok (.value (.string (strOfNums ns))) w:=by
   have:=run_convert_bytes_string (P:=E.P) w a b e (some ⟨r.c,lo * r.k,none⟩) ns.length m h1 h2 h3
   rw [run_bytesToString w _ ns.length m ns hfc,foldl_push_bytes] at this
   have e2:(⟨ByteArray.empty.data++(ns.map fun n=>UInt8.ofNat n.toNat).toArray⟩:ByteArray)=strOfNums ns:=by
    simp [strOfNums,ByteArray.empty,ByteArray.emptyWithCapacity]
    rfl
   rw [e2] at this
   simp [execOp,hva,this]
  rw [hrun]
  have sr':=sr.put (d:=some d) (VR.st (w:=w) (Z:=Z) (ρ:=R) (s:=strOfNums ns) (bs:=by8 ns) (strOfNums_data ns) (by unfold by8; rw [List.length_map]; exact Nat.le_of_ble_eq_true hn))
  exact kk base Q _ w Z R (by rwa [CO] at sr') qq
/- trestle/trestlekit.Digits -/
noncomputable def H6:Code:=Bg Tryz.f111
def FQ (x0:Int):Option ((List UInt8)) :=
 if (decide (x0 < 10))=true then
 some (by8 [(wr .u8 (wr .i64 (48 + x0)))])
 else
 none
def GL:Cs (Int×Unit):=(csC cdI csN)
def GU (r:(List UInt8)):AV:=cdS.enc r
theorem KL (x0:Int) (r:(List UInt8)) (h:FQ x0=some r):Sem E0 ⟨none,false⟩ H6 ⟨Fr 20 (BG 0 (GL.enc (x0,()))),[]⟩ fun e s'=>(e = .normal\/e = .ret)/\∃ xs,ED E0.P s'.fr s'.hp Tryz.f111.results.toList=some xs/\EJ xs=GU r:=by
 unfold FQ at h
 let p1:Nat×AV:=(0,.j x0)
 refine BD (Bw (s1:=⟨Fr 20 [p1],[]⟩) AH ?_);refine AL AC [p1] [] ?_;refine AF ?_;refine AL AC [p1,(4,.b (decide (x0 < 10)))] [] ?_;refine AN (b:=(decide (x0 < 10))) kr (fun hb1=>?_) (fun hb1=>?_)
 ·rw [if_pos hb1] at h
  refine AF ?_
  let p2:Nat×AV:=(2,.st (by8 [(wr .u8 (wr .i64 (48 + x0)))]))
  refine AJ (s1:=⟨Fr 20 [p2],[]⟩) ?_ ?_
  ·let p3:Option Blk:=mk 1 5 ([(wr .u8 (wr .i64 (48 + x0)))].map (cdK .u8).enc)
   refine AD (n:=20) AC 4 [(8,hd 0 ([(wr .u8 (wr .i64 (48 + x0)))].map (cdK .u8).enc))] [p3] kr ?_;refine RunS.bytes (bb:=0) (lo:=0) (q:=1) (c:=1) (e:=5) [(wr .u8 (wr .i64 (48 + x0)))] rfl (AB rfl) kr kr kr kr kr kr ?_;refine AD (n:=20) AC 1 [p2] [p3] kr ?_;exact AE rfl (Ax [] trivial ⟨lv,trivial⟩)
  refine AS ?_;have hq:=OI h; subst hq;exact ⟨⟨Fr 20 [p2],[]⟩,AH,.inr rfl,[.st (by8 [(wr .u8 (wr .i64 (48 + x0)))])],kr,kr⟩
 ·rw [Bu hb1] at h
  refine AY ?_;refine AF ?_;cases h
def Lk:List AV->Option AV:=EN GL (fun a=>FQ a.1) GU
theorem BQ:XOk 111 Lk:=by
 refine Af Tryz.func111 (c:=H6) ?h2 ⟨Tryz.call111⟩ GL (fun a=>FQ a.1) GU (fun a=>(by show 1<=20; decide)) ?h3 ?h4
 case h2=>kernel_rfl
 case h3=>intro b; kernel_rfl
 case h4=>exact fun a b h=>KL a.1 b h
/- trestle/trestlekit.Digits -/
noncomputable def JF:Code:=Bg Tryz.f111
def EE (x0:Int):Option ((List UInt8)) :=
 if (decide (x0 < 10))=true then
 some (by8 [(wr .u8 (wr .i64 (48 + x0)))])
 else
 (FQ (wr .i64 (x0.tdiv 10))).bind fun v122 =>
 if (okB (v122++(by8 [(wr .u8 (wr .i64 (48 + (x0.tmod 10))))])))=true then
 some (v122++(by8 [(wr .u8 (wr .i64 (48 + (x0.tmod 10))))]))
 else none
def HS:Cs (Int×Unit):=(csC cdI csN)
def HY (r:(List UInt8)):AV:=cdS.enc r
theorem Le (x0:Int) (r:(List UInt8)) (h:EE x0=some r):Sem E0 ⟨none,false⟩ JF ⟨Fr 20 (BG 0 (HS.enc (x0,()))),[]⟩ fun e s'=>(e = .normal\/e = .ret)/\∃ xs,ED E0.P s'.fr s'.hp Tryz.f111.results.toList=some xs/\EJ xs=HY r:=by
 unfold EE at h
 let p1:Nat×AV:=(0,.j x0)
 refine BD (Bw (s1:=⟨Fr 20 [p1],[]⟩) AH ?_);refine AL AC [p1] [] ?_;refine AF ?_;refine AL AC [p1,(4,.b (decide (x0 < 10)))] [] ?_;refine AN (b:=(decide (x0 < 10))) kr (fun hb1=>?_) (fun hb1=>?_)
 ·rw [if_pos hb1] at h
  refine AF ?_
  let p2:Nat×AV:=(2,.st (by8 [(wr .u8 (wr .i64 (48 + x0)))]))
  refine AJ (s1:=⟨Fr 20 [p2],[]⟩) ?_ ?_
  ·let p3:Option Blk:=mk 1 5 ([(wr .u8 (wr .i64 (48 + x0)))].map (cdK .u8).enc)
   refine AD (n:=20) AC 4 [(8,hd 0 ([(wr .u8 (wr .i64 (48 + x0)))].map (cdK .u8).enc))] [p3] kr ?_;refine RunS.bytes (bb:=0) (lo:=0) (q:=1) (c:=1) (e:=5) [(wr .u8 (wr .i64 (48 + x0)))] rfl (AB rfl) kr kr kr kr kr kr ?_;refine AD (n:=20) AC 1 [p2] [p3] kr ?_;exact AE rfl (Ax [] trivial ⟨lv,trivial⟩)
  refine AS ?_;have hq:=OI h; subst hq;exact ⟨⟨Fr 20 [p2],[]⟩,AH,.inr rfl,[.st (by8 [(wr .u8 (wr .i64 (48 + x0)))])],kr,kr⟩
 ·rw [Bu hb1] at h
  refine AY ?_;refine AF ?_;obtain ⟨v122,hv122,h⟩:=OB h;by_cases hk402:(okB (v122++(by8 [(wr .u8 (wr .i64 (48 + (x0.tmod 10))))])))=true
  case neg=>rw [if_neg hk402] at h; cases h
  rw [if_pos hk402] at h
  let p4:Nat×AV:=(2,.st (v122++(by8 [(wr .u8 (wr .i64 (48 + (x0.tmod 10))))])))
  refine QZ (s1:=⟨Fr 20 [p4],[]⟩) AC 11 kr ?_ ?_
  ·refine RunA.q 0 kr rfl ?_
   let p5:Nat×AV:=(10,.j x0)
   refine RunS.only (n:=20) AC [p1,p5] [] kr ?_;refine RunA.q 3 kr rfl ?_;refine RunS.only (n:=20) AC [p5,(13,.j x0)] [] kr ?_;refine RunA.l2 1 4 kr rfl rfl ?_ ?_
   ·let p6:Nat×AV:=(11,.j (wr .i64 (x0.tdiv 10)))
    refine RunS.only (n:=20) AC [p6,(13,.j x0)] [] kr ?_;refine RunA.l2 2 4 kr rfl rfl ?_ ?_
    ·refine AO (v:=v122) (caps:=[]) (xs:=[.j (wr .i64 (x0.tdiv 10))]) (u:=((wr .i64 (x0.tdiv 10)),())) rfl rfl BQ rfl (AB rfl) kr kr (AT (Ap (c:=cdI) (v:=(wr .i64 (x0.tdiv 10)))) Ay) (.inl kr) (by dsimp only; exact hv122) ?_
     refine AE rfl ?_;refine RunA.l1 4 kr rfl ?_;refine RunS.only (n:=20) AC [(12,.st v122),(14,.j (x0.tmod 10))] [] kr ?_;refine RunA.q 5 kr rfl ?_;refine RunS.only (n:=20) AC [(12,.st v122),(15,.j (wr .i64 (48 + (x0.tmod 10))))] [] kr ?_;refine RunA.l1 6 kr rfl ?_;refine RunS.only (n:=20) AC [(12,.st v122),(16,.v (.int .u8 (wr .u8 (wr .i64 (48 + (x0.tmod 10))))))] [] kr ?_;refine RunA.l1 7 kr rfl ?_
     let p7:Option Blk:=mk 1 5 ([(wr .u8 (wr .i64 (48 + (x0.tmod 10))))].map (cdK .u8).enc)
     refine RunS.only (n:=20) AC [(12,.st v122),(17,hd 0 ([(wr .u8 (wr .i64 (48 + (x0.tmod 10))))].map (cdK .u8).enc))] [p7] kr ?_;refine RunA.l1 8 kr rfl ?_;refine RunS.bytes (bb:=0) (lo:=0) (q:=1) (c:=1) (e:=5) [(wr .u8 (wr .i64 (48 + (x0.tmod 10))))] rfl (AB rfl) kr kr kr kr kr kr ?_;refine AE rfl ?_;refine RunA.q 9 kr rfl ?_;refine AK AC 0 rfl (Bi (AB rfl) rfl (Ed (a:= .st v122) (b:= .st (by8 [(wr .u8 (wr .i64 (48 + (x0.tmod 10))))])) kr kr (C8 hk402))) ?_;refine AE rfl ?_;refine RunA.l1 10 kr rfl ?_;refine RunS.only (n:=20) AC [p4] [p7] kr ?_;exact RunA.done kr (Ax [] trivial ⟨lv,trivial⟩)
    ·refine RunS.only (n:=20) AC [p6,(14,.j (x0.tmod 10))] [] kr ?_
     refine RunA.q 5 kr rfl ?_;refine RunS.only (n:=20) AC [p6,(15,.j (wr .i64 (48 + (x0.tmod 10))))] [] kr ?_;refine RunA.l2 2 6 kr rfl rfl ?_ ?_
     ·refine AO (v:=v122) (caps:=[]) (xs:=[.j (wr .i64 (x0.tdiv 10))]) (u:=((wr .i64 (x0.tdiv 10)),())) rfl rfl BQ rfl (AB rfl) kr kr (AT (Ap (c:=cdI) (v:=(wr .i64 (x0.tdiv 10)))) Ay) (.inl kr) (by dsimp only; exact hv122) ?_
      refine AE rfl ?_;refine RunA.l1 6 kr rfl ?_;refine RunS.only (n:=20) AC [(12,.st v122),(16,.v (.int .u8 (wr .u8 (wr .i64 (48 + (x0.tmod 10))))))] [] kr ?_;refine RunA.l1 7 kr rfl ?_
      let p8:Option Blk:=mk 1 5 ([(wr .u8 (wr .i64 (48 + (x0.tmod 10))))].map (cdK .u8).enc)
      refine RunS.only (n:=20) AC [(12,.st v122),(17,hd 0 ([(wr .u8 (wr .i64 (48 + (x0.tmod 10))))].map (cdK .u8).enc))] [p8] kr ?_;refine RunA.l1 8 kr rfl ?_;refine RunS.bytes (bb:=0) (lo:=0) (q:=1) (c:=1) (e:=5) [(wr .u8 (wr .i64 (48 + (x0.tmod 10))))] rfl (AB rfl) kr kr kr kr kr kr ?_;refine AE rfl ?_;refine RunA.q 9 kr rfl ?_;refine AK AC 0 rfl (Bi (AB rfl) rfl (Ed (a:= .st v122) (b:= .st (by8 [(wr .u8 (wr .i64 (48 + (x0.tmod 10))))])) kr kr (C8 hk402))) ?_;refine AE rfl ?_;refine RunA.l1 10 kr rfl ?_;refine RunS.only (n:=20) AC [p4] [p8] kr ?_;exact RunA.done kr (Ax [] trivial ⟨lv,trivial⟩)
     ·refine RunS.only (n:=20) AC [p6,(16,.v (.int .u8 (wr .u8 (wr .i64 (48 + (x0.tmod 10))))))] [] kr ?_
      refine RunA.l2 2 7 kr rfl rfl ?_ ?_
      ·refine AO (v:=v122) (caps:=[]) (xs:=[.j (wr .i64 (x0.tdiv 10))]) (u:=((wr .i64 (x0.tdiv 10)),())) rfl rfl BQ rfl (AB rfl) kr kr (AT (Ap (c:=cdI) (v:=(wr .i64 (x0.tdiv 10)))) Ay) (.inl kr) (by dsimp only; exact hv122) ?_
       refine AE rfl ?_;refine RunA.l1 7 kr rfl ?_
       let p9:Option Blk:=mk 1 5 ([(wr .u8 (wr .i64 (48 + (x0.tmod 10))))].map (cdK .u8).enc)
       refine RunS.only (n:=20) AC [(12,.st v122),(17,hd 0 ([(wr .u8 (wr .i64 (48 + (x0.tmod 10))))].map (cdK .u8).enc))] [p9] kr ?_;refine RunA.l1 8 kr rfl ?_;refine RunS.bytes (bb:=0) (lo:=0) (q:=1) (c:=1) (e:=5) [(wr .u8 (wr .i64 (48 + (x0.tmod 10))))] rfl (AB rfl) kr kr kr kr kr kr ?_;refine AE rfl ?_;refine RunA.q 9 kr rfl ?_;refine AK AC 0 rfl (Bi (AB rfl) rfl (Ed (a:= .st v122) (b:= .st (by8 [(wr .u8 (wr .i64 (48 + (x0.tmod 10))))])) kr kr (C8 hk402))) ?_;refine AE rfl ?_;refine RunA.l1 10 kr rfl ?_;refine RunS.only (n:=20) AC [p4] [p9] kr ?_;exact RunA.done kr (Ax [] trivial ⟨lv,trivial⟩)
      ·let p10:Option Blk:=mk 1 5 ([(wr .u8 (wr .i64 (48 + (x0.tmod 10))))].map (cdK .u8).enc)
       refine RunS.only (n:=20) AC [p6,(17,hd 0 ([(wr .u8 (wr .i64 (48 + (x0.tmod 10))))].map (cdK .u8).enc))] [p10] kr ?_;refine RunA.l2 2 8 kr rfl rfl ?_ ?_
       ·refine AO (v:=v122) (caps:=[]) (xs:=[.j (wr .i64 (x0.tdiv 10))]) (u:=((wr .i64 (x0.tdiv 10)),())) rfl rfl BQ rfl (AB rfl) kr kr (AT (Ap (c:=cdI) (v:=(wr .i64 (x0.tdiv 10)))) Ay) (.inl kr) (by dsimp only; exact hv122) ?_
        refine AE rfl ?_;refine RunA.l1 8 kr rfl ?_;refine RunS.bytes (bb:=0) (lo:=0) (q:=1) (c:=1) (e:=5) [(wr .u8 (wr .i64 (48 + (x0.tmod 10))))] rfl (AB rfl) kr kr kr kr kr kr ?_;refine AE rfl ?_;refine RunA.q 9 kr rfl ?_;refine AK AC 0 rfl (Bi (AB rfl) rfl (Ed (a:= .st v122) (b:= .st (by8 [(wr .u8 (wr .i64 (48 + (x0.tmod 10))))])) kr kr (C8 hk402))) ?_;refine AE rfl ?_;refine RunA.l1 10 kr rfl ?_;refine RunS.only (n:=20) AC [p4] [p10] kr ?_;exact RunA.done kr (Ax [] trivial ⟨lv,trivial⟩)
       ·refine RunS.bytes (bb:=0) (lo:=0) (q:=1) (c:=1) (e:=5) [(wr .u8 (wr .i64 (48 + (x0.tmod 10))))] rfl (AB rfl) kr kr kr kr kr kr ?_
        refine AE rfl ?_;refine RunA.l1 2 kr rfl ?_;refine AO (v:=v122) (caps:=[]) (xs:=[.j (wr .i64 (x0.tdiv 10))]) (u:=((wr .i64 (x0.tdiv 10)),())) rfl rfl BQ rfl (AB rfl) kr kr (AT (Ap (c:=cdI) (v:=(wr .i64 (x0.tdiv 10)))) Ay) (.inl kr) (by dsimp only; exact hv122) ?_;refine AE rfl ?_;refine RunA.q 9 kr rfl ?_;refine AK AC 0 rfl (Bi (AB rfl) rfl (Ed (a:= .st v122) (b:= .st (by8 [(wr .u8 (wr .i64 (48 + (x0.tmod 10))))])) kr kr (C8 hk402))) ?_;refine AE rfl ?_;refine RunA.l1 10 kr rfl ?_;refine RunS.only (n:=20) AC [p4] [p10] kr ?_;exact RunA.done kr (Ax [] trivial ⟨lv,trivial⟩)
   ·refine RunS.only (n:=20) AC [p5,(14,.j (x0.tmod 10))] [] kr ?_
    refine RunA.q 5 kr rfl ?_
    let p11:Nat×AV:=(15,.j (wr .i64 (48 + (x0.tmod 10))))
    refine RunS.only (n:=20) AC [p5,p11] [] kr ?_;refine RunA.l2 1 6 kr rfl rfl ?_ ?_
    ·let p12:Nat×AV:=(11,.j (wr .i64 (x0.tdiv 10)))
     refine RunS.only (n:=20) AC [p12,p11] [] kr ?_;refine RunA.l2 2 6 kr rfl rfl ?_ ?_
     ·refine AO (v:=v122) (caps:=[]) (xs:=[.j (wr .i64 (x0.tdiv 10))]) (u:=((wr .i64 (x0.tdiv 10)),())) rfl rfl BQ rfl (AB rfl) kr kr (AT (Ap (c:=cdI) (v:=(wr .i64 (x0.tdiv 10)))) Ay) (.inl kr) (by dsimp only; exact hv122) ?_
      refine AE rfl ?_;refine RunA.l1 6 kr rfl ?_;refine RunS.only (n:=20) AC [(12,.st v122),(16,.v (.int .u8 (wr .u8 (wr .i64 (48 + (x0.tmod 10))))))] [] kr ?_;refine RunA.l1 7 kr rfl ?_
      let p13:Option Blk:=mk 1 5 ([(wr .u8 (wr .i64 (48 + (x0.tmod 10))))].map (cdK .u8).enc)
      refine RunS.only (n:=20) AC [(12,.st v122),(17,hd 0 ([(wr .u8 (wr .i64 (48 + (x0.tmod 10))))].map (cdK .u8).enc))] [p13] kr ?_;refine RunA.l1 8 kr rfl ?_;refine RunS.bytes (bb:=0) (lo:=0) (q:=1) (c:=1) (e:=5) [(wr .u8 (wr .i64 (48 + (x0.tmod 10))))] rfl (AB rfl) kr kr kr kr kr kr ?_;refine AE rfl ?_;refine RunA.q 9 kr rfl ?_;refine AK AC 0 rfl (Bi (AB rfl) rfl (Ed (a:= .st v122) (b:= .st (by8 [(wr .u8 (wr .i64 (48 + (x0.tmod 10))))])) kr kr (C8 hk402))) ?_;refine AE rfl ?_;refine RunA.l1 10 kr rfl ?_;refine RunS.only (n:=20) AC [p4] [p13] kr ?_;exact RunA.done kr (Ax [] trivial ⟨lv,trivial⟩)
     ·refine RunS.only (n:=20) AC [p12,(16,.v (.int .u8 (wr .u8 (wr .i64 (48 + (x0.tmod 10))))))] [] kr ?_
      refine RunA.l2 2 7 kr rfl rfl ?_ ?_
      ·refine AO (v:=v122) (caps:=[]) (xs:=[.j (wr .i64 (x0.tdiv 10))]) (u:=((wr .i64 (x0.tdiv 10)),())) rfl rfl BQ rfl (AB rfl) kr kr (AT (Ap (c:=cdI) (v:=(wr .i64 (x0.tdiv 10)))) Ay) (.inl kr) (by dsimp only; exact hv122) ?_
       refine AE rfl ?_;refine RunA.l1 7 kr rfl ?_
       let p14:Option Blk:=mk 1 5 ([(wr .u8 (wr .i64 (48 + (x0.tmod 10))))].map (cdK .u8).enc)
       refine RunS.only (n:=20) AC [(12,.st v122),(17,hd 0 ([(wr .u8 (wr .i64 (48 + (x0.tmod 10))))].map (cdK .u8).enc))] [p14] kr ?_;refine RunA.l1 8 kr rfl ?_;refine RunS.bytes (bb:=0) (lo:=0) (q:=1) (c:=1) (e:=5) [(wr .u8 (wr .i64 (48 + (x0.tmod 10))))] rfl (AB rfl) kr kr kr kr kr kr ?_;refine AE rfl ?_;refine RunA.q 9 kr rfl ?_;refine AK AC 0 rfl (Bi (AB rfl) rfl (Ed (a:= .st v122) (b:= .st (by8 [(wr .u8 (wr .i64 (48 + (x0.tmod 10))))])) kr kr (C8 hk402))) ?_;refine AE rfl ?_;refine RunA.l1 10 kr rfl ?_;refine RunS.only (n:=20) AC [p4] [p14] kr ?_;exact RunA.done kr (Ax [] trivial ⟨lv,trivial⟩)
      ·let p15:Option Blk:=mk 1 5 ([(wr .u8 (wr .i64 (48 + (x0.tmod 10))))].map (cdK .u8).enc)
       refine RunS.only (n:=20) AC [p12,(17,hd 0 ([(wr .u8 (wr .i64 (48 + (x0.tmod 10))))].map (cdK .u8).enc))] [p15] kr ?_;refine RunA.l2 2 8 kr rfl rfl ?_ ?_
       ·refine AO (v:=v122) (caps:=[]) (xs:=[.j (wr .i64 (x0.tdiv 10))]) (u:=((wr .i64 (x0.tdiv 10)),())) rfl rfl BQ rfl (AB rfl) kr kr (AT (Ap (c:=cdI) (v:=(wr .i64 (x0.tdiv 10)))) Ay) (.inl kr) (by dsimp only; exact hv122) ?_
        refine AE rfl ?_;refine RunA.l1 8 kr rfl ?_;refine RunS.bytes (bb:=0) (lo:=0) (q:=1) (c:=1) (e:=5) [(wr .u8 (wr .i64 (48 + (x0.tmod 10))))] rfl (AB rfl) kr kr kr kr kr kr ?_;refine AE rfl ?_;refine RunA.q 9 kr rfl ?_;refine AK AC 0 rfl (Bi (AB rfl) rfl (Ed (a:= .st v122) (b:= .st (by8 [(wr .u8 (wr .i64 (48 + (x0.tmod 10))))])) kr kr (C8 hk402))) ?_;refine AE rfl ?_;refine RunA.l1 10 kr rfl ?_;refine RunS.only (n:=20) AC [p4] [p15] kr ?_;exact RunA.done kr (Ax [] trivial ⟨lv,trivial⟩)
       ·refine RunS.bytes (bb:=0) (lo:=0) (q:=1) (c:=1) (e:=5) [(wr .u8 (wr .i64 (48 + (x0.tmod 10))))] rfl (AB rfl) kr kr kr kr kr kr ?_
        refine AE rfl ?_;refine RunA.l1 2 kr rfl ?_;refine AO (v:=v122) (caps:=[]) (xs:=[.j (wr .i64 (x0.tdiv 10))]) (u:=((wr .i64 (x0.tdiv 10)),())) rfl rfl BQ rfl (AB rfl) kr kr (AT (Ap (c:=cdI) (v:=(wr .i64 (x0.tdiv 10)))) Ay) (.inl kr) (by dsimp only; exact hv122) ?_;refine AE rfl ?_;refine RunA.q 9 kr rfl ?_;refine AK AC 0 rfl (Bi (AB rfl) rfl (Ed (a:= .st v122) (b:= .st (by8 [(wr .u8 (wr .i64 (48 + (x0.tmod 10))))])) kr kr (C8 hk402))) ?_;refine AE rfl ?_;refine RunA.l1 10 kr rfl ?_;refine RunS.only (n:=20) AC [p4] [p15] kr ?_;exact RunA.done kr (Ax [] trivial ⟨lv,trivial⟩)
    ·let p16:Nat×AV:=(16,.v (.int .u8 (wr .u8 (wr .i64 (48 + (x0.tmod 10))))))
     refine RunS.only (n:=20) AC [p5,p16] [] kr ?_;refine RunA.l2 1 7 kr rfl rfl ?_ ?_
     ·let p17:Nat×AV:=(11,.j (wr .i64 (x0.tdiv 10)))
      refine RunS.only (n:=20) AC [p17,p16] [] kr ?_;refine RunA.l2 2 7 kr rfl rfl ?_ ?_
      ·refine AO (v:=v122) (caps:=[]) (xs:=[.j (wr .i64 (x0.tdiv 10))]) (u:=((wr .i64 (x0.tdiv 10)),())) rfl rfl BQ rfl (AB rfl) kr kr (AT (Ap (c:=cdI) (v:=(wr .i64 (x0.tdiv 10)))) Ay) (.inl kr) (by dsimp only; exact hv122) ?_
       refine AE rfl ?_;refine RunA.l1 7 kr rfl ?_
       let p18:Option Blk:=mk 1 5 ([(wr .u8 (wr .i64 (48 + (x0.tmod 10))))].map (cdK .u8).enc)
       refine RunS.only (n:=20) AC [(12,.st v122),(17,hd 0 ([(wr .u8 (wr .i64 (48 + (x0.tmod 10))))].map (cdK .u8).enc))] [p18] kr ?_;refine RunA.l1 8 kr rfl ?_;refine RunS.bytes (bb:=0) (lo:=0) (q:=1) (c:=1) (e:=5) [(wr .u8 (wr .i64 (48 + (x0.tmod 10))))] rfl (AB rfl) kr kr kr kr kr kr ?_;refine AE rfl ?_;refine RunA.q 9 kr rfl ?_;refine AK AC 0 rfl (Bi (AB rfl) rfl (Ed (a:= .st v122) (b:= .st (by8 [(wr .u8 (wr .i64 (48 + (x0.tmod 10))))])) kr kr (C8 hk402))) ?_;refine AE rfl ?_;refine RunA.l1 10 kr rfl ?_;refine RunS.only (n:=20) AC [p4] [p18] kr ?_;exact RunA.done kr (Ax [] trivial ⟨lv,trivial⟩)
      ·let p19:Option Blk:=mk 1 5 ([(wr .u8 (wr .i64 (48 + (x0.tmod 10))))].map (cdK .u8).enc)
       refine RunS.only (n:=20) AC [p17,(17,hd 0 ([(wr .u8 (wr .i64 (48 + (x0.tmod 10))))].map (cdK .u8).enc))] [p19] kr ?_;refine RunA.l2 2 8 kr rfl rfl ?_ ?_
       ·refine AO (v:=v122) (caps:=[]) (xs:=[.j (wr .i64 (x0.tdiv 10))]) (u:=((wr .i64 (x0.tdiv 10)),())) rfl rfl BQ rfl (AB rfl) kr kr (AT (Ap (c:=cdI) (v:=(wr .i64 (x0.tdiv 10)))) Ay) (.inl kr) (by dsimp only; exact hv122) ?_
        refine AE rfl ?_;refine RunA.l1 8 kr rfl ?_;refine RunS.bytes (bb:=0) (lo:=0) (q:=1) (c:=1) (e:=5) [(wr .u8 (wr .i64 (48 + (x0.tmod 10))))] rfl (AB rfl) kr kr kr kr kr kr ?_;refine AE rfl ?_;refine RunA.q 9 kr rfl ?_;refine AK AC 0 rfl (Bi (AB rfl) rfl (Ed (a:= .st v122) (b:= .st (by8 [(wr .u8 (wr .i64 (48 + (x0.tmod 10))))])) kr kr (C8 hk402))) ?_;refine AE rfl ?_;refine RunA.l1 10 kr rfl ?_;refine RunS.only (n:=20) AC [p4] [p19] kr ?_;exact RunA.done kr (Ax [] trivial ⟨lv,trivial⟩)
       ·refine RunS.bytes (bb:=0) (lo:=0) (q:=1) (c:=1) (e:=5) [(wr .u8 (wr .i64 (48 + (x0.tmod 10))))] rfl (AB rfl) kr kr kr kr kr kr ?_
        refine AE rfl ?_;refine RunA.l1 2 kr rfl ?_;refine AO (v:=v122) (caps:=[]) (xs:=[.j (wr .i64 (x0.tdiv 10))]) (u:=((wr .i64 (x0.tdiv 10)),())) rfl rfl BQ rfl (AB rfl) kr kr (AT (Ap (c:=cdI) (v:=(wr .i64 (x0.tdiv 10)))) Ay) (.inl kr) (by dsimp only; exact hv122) ?_;refine AE rfl ?_;refine RunA.q 9 kr rfl ?_;refine AK AC 0 rfl (Bi (AB rfl) rfl (Ed (a:= .st v122) (b:= .st (by8 [(wr .u8 (wr .i64 (48 + (x0.tmod 10))))])) kr kr (C8 hk402))) ?_;refine AE rfl ?_;refine RunA.l1 10 kr rfl ?_;refine RunS.only (n:=20) AC [p4] [p19] kr ?_;exact RunA.done kr (Ax [] trivial ⟨lv,trivial⟩)
     ·let p20:Option Blk:=mk 1 5 ([(wr .u8 (wr .i64 (48 + (x0.tmod 10))))].map (cdK .u8).enc)
      let p21:Nat×AV:=(17,hd 0 ([(wr .u8 (wr .i64 (48 + (x0.tmod 10))))].map (cdK .u8).enc))
      refine RunS.only (n:=20) AC [p5,p21] [p20] kr ?_;refine RunA.l2 1 8 kr rfl rfl ?_ ?_
      ·refine RunS.only (n:=20) AC [(11,.j (wr .i64 (x0.tdiv 10))),p21] [p20] kr ?_
       refine RunA.l2 2 8 kr rfl rfl ?_ ?_
       ·refine AO (v:=v122) (caps:=[]) (xs:=[.j (wr .i64 (x0.tdiv 10))]) (u:=((wr .i64 (x0.tdiv 10)),())) rfl rfl BQ rfl (AB rfl) kr kr (AT (Ap (c:=cdI) (v:=(wr .i64 (x0.tdiv 10)))) Ay) (.inl kr) (by dsimp only; exact hv122) ?_
        refine AE rfl ?_;refine RunA.l1 8 kr rfl ?_;refine RunS.bytes (bb:=0) (lo:=0) (q:=1) (c:=1) (e:=5) [(wr .u8 (wr .i64 (48 + (x0.tmod 10))))] rfl (AB rfl) kr kr kr kr kr kr ?_;refine AE rfl ?_;refine RunA.q 9 kr rfl ?_;refine AK AC 0 rfl (Bi (AB rfl) rfl (Ed (a:= .st v122) (b:= .st (by8 [(wr .u8 (wr .i64 (48 + (x0.tmod 10))))])) kr kr (C8 hk402))) ?_;refine AE rfl ?_;refine RunA.l1 10 kr rfl ?_;refine RunS.only (n:=20) AC [p4] [p20] kr ?_;exact RunA.done kr (Ax [] trivial ⟨lv,trivial⟩)
       ·refine RunS.bytes (bb:=0) (lo:=0) (q:=1) (c:=1) (e:=5) [(wr .u8 (wr .i64 (48 + (x0.tmod 10))))] rfl (AB rfl) kr kr kr kr kr kr ?_
        refine AE rfl ?_;refine RunA.l1 2 kr rfl ?_;refine AO (v:=v122) (caps:=[]) (xs:=[.j (wr .i64 (x0.tdiv 10))]) (u:=((wr .i64 (x0.tdiv 10)),())) rfl rfl BQ rfl (AB rfl) kr kr (AT (Ap (c:=cdI) (v:=(wr .i64 (x0.tdiv 10)))) Ay) (.inl kr) (by dsimp only; exact hv122) ?_;refine AE rfl ?_;refine RunA.q 9 kr rfl ?_;refine AK AC 0 rfl (Bi (AB rfl) rfl (Ed (a:= .st v122) (b:= .st (by8 [(wr .u8 (wr .i64 (48 + (x0.tmod 10))))])) kr kr (C8 hk402))) ?_;refine AE rfl ?_;refine RunA.l1 10 kr rfl ?_;refine RunS.only (n:=20) AC [p4] [p20] kr ?_;exact RunA.done kr (Ax [] trivial ⟨lv,trivial⟩)
      ·refine RunS.bytes (bb:=0) (lo:=0) (q:=1) (c:=1) (e:=5) [(wr .u8 (wr .i64 (48 + (x0.tmod 10))))] rfl (AB rfl) kr kr kr kr kr kr ?_
       refine AE rfl ?_;refine RunA.l1 1 kr rfl ?_;refine RunS.only (n:=20) AC [(11,.j (wr .i64 (x0.tdiv 10))),(18,.st (by8 [(wr .u8 (wr .i64 (48 + (x0.tmod 10))))]))] [p20] kr ?_;refine RunA.l1 2 kr rfl ?_;refine AO (v:=v122) (caps:=[]) (xs:=[.j (wr .i64 (x0.tdiv 10))]) (u:=((wr .i64 (x0.tdiv 10)),())) rfl rfl BQ rfl (AB rfl) kr kr (AT (Ap (c:=cdI) (v:=(wr .i64 (x0.tdiv 10)))) Ay) (.inl kr) (by dsimp only; exact hv122) ?_;refine AE rfl ?_;refine RunA.q 9 kr rfl ?_;refine AK AC 0 rfl (Bi (AB rfl) rfl (Ed (a:= .st v122) (b:= .st (by8 [(wr .u8 (wr .i64 (48 + (x0.tmod 10))))])) kr kr (C8 hk402))) ?_;refine AE rfl ?_;refine RunA.l1 10 kr rfl ?_;refine RunS.only (n:=20) AC [p4] [p20] kr ?_;exact RunA.done kr (Ax [] trivial ⟨lv,trivial⟩)
  refine AS ?_;have hq:=OI h; subst hq;exact ⟨⟨Fr 20 [p4],[]⟩,AH,.inr rfl,[.st (v122++(by8 [(wr .u8 (wr .i64 (48 + (x0.tmod 10))))]))],kr,kr⟩
def NU:List AV->Option AV:=EN HS (fun a=>EE a.1) HY
theorem Ng:XOk 111 NU:=by
 refine Af Tryz.func111 (c:=JF) ?h2 ⟨Tryz.call111⟩ HS (fun a=>EE a.1) HY (fun a=>(by show 1<=20; decide)) ?h3 ?h4
 case h2=>kernel_rfl
 case h3=>intro b; kernel_rfl
 case h4=>exact fun a b h=>Le a.1 b h
/- trestle/trestleref03.Format -/
noncomputable def CV:Code:=Bg Tryz.f70
def EA (x0:(List AG)) (c1:(List UInt8)) (c2:Int) (v4:AG):Option (((List UInt8))) :=
 if (!(v4.2.1==[]))=true then
 if (okB (c1++[97,109,111,110,103,32]))=true then
 (idx x0 c2).bind fun v7 =>
 if (okB ((c1++[97,109,111,110,103,32])++v7.2.1))=true then
 if (okB (((c1++[97,109,111,110,103,32])++v7.2.1)++[32]))=true then
 some (((c1++[97,109,111,110,103,32])++v7.2.1)++[32])
 else none
 else none
 else none
 else
 some c1
def EB (x0:(List AG)) (c2:Int) (r11:(List UInt8)) (v13:(List UInt8)) (j18:Bool):Option (((List UInt8))) :=
 if j18=true then
 if (okB ((r11++v13)++[32]))=true then
 (idx x0 c2).bind fun v21 =>
 (EE v21.2.2.2.2).bind fun v22 =>
 if (okB (((r11++v13)++[32])++v22))=true then
 some (((r11++v13)++[32])++v22)
 else none
 else none
 else
 some (r11++v13)
def Ev (x0:(List AG)) (c2:Int) (r25:(List UInt8)) (v31:AG):Option (((List UInt8))) :=
 if v31.2.2.1=true then
 if (okB (r25++[32,108,97,115,116]))=true then
 some (r25++[32,108,97,115,116])
 else none
 else
 if (okB (r25++[32,102,105,114,115,116]))=true then
 some (r25++[32,102,105,114,115,116])
 else none
def EC (x0:(List AG)) (c2:Int) (r25:(List UInt8)) (j29:Bool):Option (((List UInt8))) :=
 if j29=true then
 (idx x0 c2).bind fun v31 =>
 (Ev x0 c2 r25 v31).bind fun r36 =>
 some r36
 else
 some r25
def Bp (x0:(List AG)) (c2:Int):Nat->(List UInt8)->Int->Option (((List UInt8)))
 | 0,_,_=>none
 | f + 1,c39,c40 =>
  (idx x0 c2).bind fun v41 =>
  if (decide (c40 < (v41.2.2.2.1.length:Int)))=true then
  if (okB (c39++[32]))=true then
  (idx x0 c2).bind fun v44 =>
  (idx v44.2.2.2.1 c40).bind fun v45 =>
  if (okB ((c39++[32])++v45))=true then
  Bp x0 c2 f ((c39++[32])++v45) (wr .i64 (c40 + 1))
  else none
  else none
  else
  some c39
def B6 (x0:(List AG)):Nat->(List UInt8)->Int->Option (((List UInt8)))
 | 0,_,_=>none
 | f + 1,c1,c2 =>
  if (decide (c2 < (x0.length:Int)))=true then
  (idx x0 c2).bind fun v4 =>
  (EA x0 c1 c2 v4).bind fun r11 =>
  (idx x0 c2).bind fun v12 =>
  (GC (wr .i64 v12.1)).bind fun v13 =>
  if (okB (r11++v13))=true then
  (idx x0 c2).bind fun v15 =>
  (if (v15.1==4)=true then some true else (idx x0 c2).bind fun v16 =>
  some (v16.1==10)).bind fun j18 =>
  (EB x0 c2 r11 v13 j18).bind fun r25 =>
  (idx x0 c2).bind fun v26 =>
  (if (decide (v26.1≥4))=true then (idx x0 c2).bind fun v27 =>
  some (decide (v27.1<=7)) else some false).bind fun j29 =>
  (EC x0 c2 r25 j29).bind fun r38 =>
  (Bp x0 c2 100000 r38 0).bind fun r48 =>
  if (okB (r48++[10]))=true then
  B6 x0 f (r48++[10]) (wr .i64 (c2 + 1))
  else none
  else none
  else
  some c1
def D9 (x0:(List AG)):Option ((List UInt8)) :=
 (B6 x0 100000 [] 0).bind fun r53 =>
 some r53
def GM:Cs ((List AG)×Unit):=(csC (cdL 5 AA) csN)
def GV (r:(List UInt8)):AV:=cdS.enc r
theorem JY (x0:(List AG)) (c1:(List UInt8)) (c2:Int) (v4:AG) (r:((List UInt8))) (h:EA x0 c1 c2 v4=some r):Sem E0 ⟨none,false⟩ (pc CV [1,1,0,1,0,0,1,0,0,0,1]) ⟨Fr 106 [(0,.sl 5 (x0.map AA.enc)),(3,.st c1),(4,.j c2),(17,.b (!(v4.2.1==[])))],[]⟩ (fun e s=>e = .normal/\Wk E0 s ⟨Fr 106 [(0,.sl 5 (x0.map AA.enc)),(3,.st r),(4,.j c2)],[]⟩):=by
 unfold EA at h;refine AN (b:=(!(v4.2.1==[]))) kr (fun hb5=>?_) (fun hb5=>?_)
 ·rw [if_pos hb5] at h
  by_cases hk6:(okB (c1++[97,109,111,110,103,32]))=true
  case neg=>rw [if_neg hk6] at h; cases h
  rw [if_pos hk6] at h;obtain ⟨v7,hv7,h⟩:=OB h;by_cases hk8:(okB ((c1++[97,109,111,110,103,32])++v7.2.1))=true
  case neg=>rw [if_neg hk8] at h; cases h
  rw [if_pos hk8] at h;by_cases hk9:(okB (((c1++[97,109,111,110,103,32])++v7.2.1)++[32]))=true
  case neg=>rw [if_neg hk9] at h; cases h
  rw [if_pos hk9] at h
  let p1:Nat×AV:=(4,.j c2)
  let p2:Nat×AV:=(0,.sl 5 (x0.map AA.enc))
  refine AJ (s1:=⟨Fr 106 [p2,(3,.st (((c1++[97,109,111,110,103,32])++v7.2.1)++[32])),p1],[]⟩) ?_ ?_
  ·refine AD (n:=106) AC 1 [p2,p1,(18,.st c1)] [] kr ?_
   refine AK AC 0 rfl (Bi (AB rfl) rfl (Ed (a:= .st c1) (b:= .st [97,109,111,110,103,32]) kr kr (C8 hk6))) ?_
   let p3:Nat×AV:=(19,.st (c1++[97,109,111,110,103,32]))
   refine AD (n:=106) AC 2 [p2,p1,p3,(20,.sl 5 (x0.map AA.enc)),(21,.j c2)] [] kr ?_;refine AK AC 0 rfl (Bi (AB rfl) rfl (AZ (a:= .sl 5 (x0.map AA.enc)) (b:= .j c2) kr kr (Dc (e:=AA.enc) (el:=70) (k:=5) (ki:= .i64) kr kr hv7))) ?_;refine AD (n:=106) AC 2 [p2,p1,p3,(24,.st v7.2.1)] [] kr ?_;refine AK AC 0 rfl (Bi (AB rfl) rfl (Ed (a:= .st (c1++[97,109,111,110,103,32])) (b:= .st v7.2.1) kr kr (C8 hk8))) ?_;refine AK AC 0 rfl (Bi (AB rfl) rfl (Ed (a:= .st ((c1++[97,109,111,110,103,32])++v7.2.1)) (b:= .st [32]) kr kr (C8 hk9))) ?_;exact AW AC
  have hq:=OI h; subst hq;exact ⟨rfl,AH⟩
 ·rw [Bu hb5] at h
  refine AY ?_;have hq:=OI h; subst hq;exact ⟨rfl,AH⟩
theorem JZ (x0:(List AG)) (c2:Int) (r11:(List UInt8)) (v13:(List UInt8)) (j18:Bool) (r:((List UInt8))) (h:EB x0 c2 r11 v13 j18=some r):Sem E0 ⟨none,false⟩ (pc CV [1,1,0,1,0,0,1,0,0,1,1,0,1]) ⟨Fr 106 [(0,.sl 5 (x0.map AA.enc)),(3,.st (r11++v13)),(4,.j c2),(49,.b j18)],[]⟩ (fun e s=>e = .normal/\Wk E0 s ⟨Fr 106 [(0,.sl 5 (x0.map AA.enc)),(3,.st r),(4,.j c2)],[]⟩):=by
 unfold EB at h;refine AN (b:=j18) kr (fun hb19=>?_) (fun hb19=>?_)
 ·rw [if_pos hb19] at h
  by_cases hk20:(okB ((r11++v13)++[32]))=true
  case neg=>rw [if_neg hk20] at h; cases h
  rw [if_pos hk20] at h;obtain ⟨v21,hv21,h⟩:=OB h;obtain ⟨v22,hv22,h⟩:=OB h;by_cases hk23:(okB (((r11++v13)++[32])++v22))=true
  case neg=>rw [if_neg hk23] at h; cases h
  rw [if_pos hk23] at h
  let p1:Nat×AV:=(4,.j c2)
  let p2:Nat×AV:=(0,.sl 5 (x0.map AA.enc))
  refine AJ (s1:=⟨Fr 106 [p2,(3,.st (((r11++v13)++[32])++v22)),p1],[]⟩) ?_ ?_
  ·refine AD (n:=106) AC 1 [p2,p1,(50,.st (r11++v13))] [] kr ?_
   refine AK AC 0 rfl (Bi (AB rfl) rfl (Ed (a:= .st (r11++v13)) (b:= .st [32]) kr kr (C8 hk20))) ?_;refine AD (n:=106) AC 2 [p2,p1,(51,.st ((r11++v13)++[32])),(52,.sl 5 (x0.map AA.enc)),(53,.j c2)] [] kr ?_;refine AK AC 0 rfl (Bi (AB rfl) rfl (AZ (a:= .sl 5 (x0.map AA.enc)) (b:= .j c2) kr kr (Dc (e:=AA.enc) (el:=70) (k:=5) (ki:= .i64) kr kr hv21))) ?_;refine AD (n:=106) AC 2 [p2,p1,(51,.st ((r11++v13)++[32])),(56,.j v21.2.2.2.2)] [] kr ?_;refine AO (caps:=[]) (xs:=[.j v21.2.2.2.2]) (u:=(v21.2.2.2.2,())) rfl rfl Ng rfl (AB rfl) kr kr (AT (Ap (c:=cdI) (v:=v21.2.2.2.2)) Ay) (.inl kr) hv22 ?_;refine AK AC 0 rfl (Bi (AB rfl) rfl (Ed (a:= .st ((r11++v13)++[32])) (b:= .st v22) kr kr (C8 hk23))) ?_;exact AW AC
  have hq:=OI h; subst hq;exact ⟨rfl,AH⟩
 ·rw [Bu hb19] at h
  refine AY ?_;have hq:=OI h; subst hq;exact ⟨rfl,AH⟩
theorem Jb (x0:(List AG)) (c2:Int) (r25:(List UInt8)) (v31:AG) (r:((List UInt8))) (h:Ev x0 c2 r25 v31=some r):Sem E0 ⟨none,false⟩ (pc CV [1,1,0,1,0,0,1,0,0,1,1,1,0,1,0,1]) ⟨Fr 106 [(0,.sl 5 (x0.map AA.enc)),(3,.st r25),(4,.j c2),(77,.b v31.2.2.1)],[]⟩ (fun e s=>e = .normal/\Wk E0 s ⟨Fr 106 [(0,.sl 5 (x0.map AA.enc)),(3,.st r),(4,.j c2)],[]⟩):=by
 unfold Ev at h;refine AN (b:=v31.2.2.1) kr (fun hb32=>?_) (fun hb32=>?_)
 ·rw [if_pos hb32] at h
  by_cases hk33:(okB (r25++[32,108,97,115,116]))=true
  case neg=>rw [if_neg hk33] at h; cases h
  rw [if_pos hk33] at h;refine AJ (s1:=⟨Fr 106 [(0,.sl 5 (x0.map AA.enc)),(3,.st (r25++[32,108,97,115,116])),(4,.j c2)],[]⟩) ?_ ?_
  ·refine AD (n:=106) AC 1 [(0,.sl 5 (x0.map AA.enc)),(4,.j c2),(78,.st r25)] [] kr ?_
   refine AK AC 0 rfl (Bi (AB rfl) rfl (Ed (a:= .st r25) (b:= .st [32,108,97,115,116]) kr kr (C8 hk33))) ?_;exact AW AC
  have hq:=OI h; subst hq;exact ⟨rfl,AH⟩
 ·rw [Bu hb32] at h
  by_cases hk35:(okB (r25++[32,102,105,114,115,116]))=true
  case neg=>rw [if_neg hk35] at h; cases h
  rw [if_pos hk35] at h;refine AJ (s1:=⟨Fr 106 [(0,.sl 5 (x0.map AA.enc)),(3,.st (r25++[32,102,105,114,115,116])),(4,.j c2)],[]⟩) ?_ ?_
  ·refine AD (n:=106) AC 1 [(0,.sl 5 (x0.map AA.enc)),(4,.j c2),(80,.st r25)] [] kr ?_
   refine AK AC 0 rfl (Bi (AB rfl) rfl (Ed (a:= .st r25) (b:= .st [32,102,105,114,115,116]) kr kr (C8 hk35))) ?_;exact AW AC
  have hq:=OI h; subst hq;exact ⟨rfl,AH⟩
theorem Ja (x0:(List AG)) (c2:Int) (r25:(List UInt8)) (j29:Bool) (r:((List UInt8))) (h:EC x0 c2 r25 j29=some r):Sem E0 ⟨none,false⟩ (pc CV [1,1,0,1,0,0,1,0,0,1,1,1,0,1]) ⟨Fr 106 [(0,.sl 5 (x0.map AA.enc)),(3,.st r25),(4,.j c2),(72,.b j29)],[]⟩ (fun e s=>e = .normal/\Wk E0 s ⟨Fr 106 [(0,.sl 5 (x0.map AA.enc)),(3,.st r),(4,.j c2)],[]⟩):=by
 unfold EC at h;refine AN (b:=j29) kr (fun hb30=>?_) (fun hb30=>?_)
 ·rw [if_pos hb30] at h
  refine AF ?_;obtain ⟨v31,hv31,h⟩:=OB h;refine AJ (s1:=⟨Fr 106 [(0,.sl 5 (x0.map AA.enc)),(3,.st r25),(4,.j c2),(77,.b v31.2.2.1)],[]⟩) ?_ ?_
  ·refine AD (n:=106) AC 2 [(0,.sl 5 (x0.map AA.enc)),(3,.st r25),(4,.j c2),(73,.sl 5 (x0.map AA.enc)),(74,.j c2)] [] kr ?_
   refine AK AC 0 rfl (Bi (AB rfl) rfl (AZ (a:= .sl 5 (x0.map AA.enc)) (b:= .j c2) kr kr (Dc (e:=AA.enc) (el:=70) (k:=5) (ki:= .i64) kr kr hv31))) ?_;exact AW AC
  obtain ⟨r36,hr36,h⟩:=OB h;refine C2 (Jb x0 c2 r25 v31 _ hr36) ?_;have hq:=OI h; subst hq;exact ⟨rfl,AH⟩
 ·rw [Bu hb30] at h
  refine AY ?_;have hq:=OI h; subst hq;exact ⟨rfl,AH⟩
theorem Jd (x0:(List AG)) (c2:Int):∀ (f:Nat) (c39:(List UInt8)) (c40:Int) (r:((List UInt8))),Bp x0 c2 f c39 c40=some r->SemN E0 ⟨none,false⟩ (pc CV [1,1,0,1,0,0,1,0,0,1,1,1,1,0,1,0,0]) f ⟨Fr 106 [(0,.sl 5 (x0.map AA.enc)),(3,.st c39),(4,.j c2),(5,.j c40)],[]⟩ (fun e s=>e=(.exit 2)/\Wk E0 s ⟨Fr 106 [(0,.sl 5 (x0.map AA.enc)),(3,.st r),(4,.j c2)],[]⟩):=by
 intro f;induction f with
 | zero=>intro c39 c40 r h; cases h
 | succ f ih0 =>
  intro c39 c40 r h
  have ih:=fun (c39:(List UInt8)) (c40:Int)=>ih0 c39 c40 r
  unfold Bp at h;refine CF ?_;refine AF ?_;refine AF ?_;obtain ⟨v41,hv41,h⟩:=OB h
  let p1:Nat×AV:=(5,.j c40)
  let p2:Nat×AV:=(4,.j c2)
  let p3:Nat×AV:=(0,.sl 5 (x0.map AA.enc))
  refine AJ (s1:=⟨Fr 106 [p3,(3,.st c39),p2,p1,(89,.b (decide (c40 < (v41.2.2.2.1.length:Int))))],[]⟩) ?_ ?_
  ·refine AD (n:=106) AC 3 [p3,(3,.st c39),p2,p1,(82,.j c40),(83,.sl 5 (x0.map AA.enc)),(84,.j c2)] [] kr ?_
   refine AK AC 0 rfl (Bi (AB rfl) rfl (AZ (a:= .sl 5 (x0.map AA.enc)) (b:= .j c2) kr kr (Dc (e:=AA.enc) (el:=70) (k:=5) (ki:= .i64) kr kr hv41))) ?_;refine AD (n:=106) AC 2 [p3,(3,.st c39),p2,p1,(82,.j c40),(87,.sl 1 (v41.2.2.2.1.map cdS.enc))] [] kr ?_;refine AK AC 0 rfl (Bi (AB rfl) rfl (EG (a:= .sl 1 (v41.2.2.2.1.map cdS.enc)) kr (Cn (el:=9) kr))) ?_;exact AW AC
  refine AN (b:=(decide (c40 < (v41.2.2.2.1.length:Int)))) kr (fun hb42=>?_) (fun hb42=>?_)
  ·rw [if_pos hb42] at h
   refine AY ?_;refine AF ?_;refine Aq ?_;by_cases hk43:(okB (c39++[32]))=true
   case neg=>rw [if_neg hk43] at h; cases h
   rw [if_pos hk43] at h;obtain ⟨v44,hv44,h⟩:=OB h;obtain ⟨v45,hv45,h⟩:=OB h;by_cases hk46:(okB ((c39++[32])++v45))=true
   case neg=>rw [if_neg hk46] at h; cases h
   rw [if_pos hk46] at h
   let p4:Nat×AV:=(3,.st ((c39++[32])++v45))
   refine AJ (s1:=⟨Fr 106 [p3,p4,p2,p1],[]⟩) ?_ ?_
   ·refine AD (n:=106) AC 1 [p3,p2,p1,(92,.st c39)] [] kr ?_
    refine AK AC 0 rfl (Bi (AB rfl) rfl (Ed (a:= .st c39) (b:= .st [32]) kr kr (C8 hk43))) ?_
    let p5:Nat×AV:=(93,.st (c39++[32]))
    refine AD (n:=106) AC 2 [p3,p2,p1,p5,(94,.sl 5 (x0.map AA.enc)),(95,.j c2)] [] kr ?_;refine AK AC 0 rfl (Bi (AB rfl) rfl (AZ (a:= .sl 5 (x0.map AA.enc)) (b:= .j c2) kr kr (Dc (e:=AA.enc) (el:=70) (k:=5) (ki:= .i64) kr kr hv44))) ?_;refine AD (n:=106) AC 3 [p3,p2,p1,p5,(98,.sl 1 (v44.2.2.2.1.map cdS.enc)),(99,.j c40)] [] kr ?_;refine AK AC 0 rfl (Bi (AB rfl) rfl (AZ (a:= .sl 1 (v44.2.2.2.1.map cdS.enc)) (b:= .j c40) kr kr (Dc (e:=cdS.enc) (el:=9) (k:=1) (ki:= .i64) kr kr hv45))) ?_;refine AD (n:=106) AC 1 [p3,p2,p1,p5,(101,.st v45)] [] kr ?_;refine AK AC 0 rfl (Bi (AB rfl) rfl (Ed (a:= .st (c39++[32])) (b:= .st v45) kr kr (C8 hk46))) ?_;exact AW AC
   let p6:Nat×AV:=(5,.j (wr .i64 (c40 + 1)))
   refine DE AC [p3,p4,p2,p6] [] ?_;exact Aw (s1:=⟨Fr 106 [p3,p4,p2,p6],[]⟩) AH (ih ((c39++[32])++v45) (wr .i64 (c40 + 1)) h)
  ·rw [Bu hb42] at h
   refine Co ?_;have hq:=OI h; subst hq;exact ⟨rfl,AH⟩
theorem Jc (x0:(List AG)):∀ (f:Nat) (c1:(List UInt8)) (c2:Int) (r:((List UInt8))),B6 x0 f c1 c2=some r->SemN E0 ⟨none,false⟩ (pc CV [1,1,0,1,0,0]) f ⟨Fr 106 [(0,.sl 5 (x0.map AA.enc)),(3,.st c1),(4,.j c2)],[]⟩ (fun e s=>e=(.exit 0)/\Wk E0 s ⟨Fr 106 [(3,.st r)],[]⟩):=by
 intro f;induction f with
 | zero=>intro c1 c2 r h; cases h
 | succ f ih0 =>
  intro c1 c2 r h
  have ih:=fun (c1:(List UInt8)) (c2:Int)=>ih0 c1 c2 r
  unfold B6 at h;refine CF ?_;refine AF ?_;refine AF ?_;refine AJ (s1:=⟨Fr 106 [(0,.sl 5 (x0.map AA.enc)),(3,.st c1),(4,.j c2),(9,.b (decide (c2 < (x0.length:Int))))],[]⟩) ?_ ?_
  ·refine AD (n:=106) AC 2 [(0,.sl 5 (x0.map AA.enc)),(3,.st c1),(4,.j c2),(6,.j c2),(7,.sl 5 (x0.map AA.enc))] [] kr ?_
   refine AK AC 0 rfl (Bi (AB rfl) rfl (EG (a:= .sl 5 (x0.map AA.enc)) kr (Cn (el:=70) kr))) ?_;exact AW AC
  refine AN (b:=(decide (c2 < (x0.length:Int)))) kr (fun hb3=>?_) (fun hb3=>?_)
  ·rw [if_pos hb3] at h
   refine AY ?_;refine AF ?_;refine Aq ?_;refine AF ?_;refine AF ?_;obtain ⟨v4,hv4,h⟩:=OB h;refine AJ (s1:=⟨Fr 106 [(0,.sl 5 (x0.map AA.enc)),(3,.st c1),(4,.j c2),(17,.b (!(v4.2.1==[])))],[]⟩) ?_ ?_
   ·refine AD (n:=106) AC 2 [(0,.sl 5 (x0.map AA.enc)),(3,.st c1),(4,.j c2),(12,.sl 5 (x0.map AA.enc)),(13,.j c2)] [] kr ?_
    refine AK AC 0 rfl (Bi (AB rfl) rfl (AZ (a:= .sl 5 (x0.map AA.enc)) (b:= .j c2) kr kr (Dc (e:=AA.enc) (el:=70) (k:=5) (ki:= .i64) kr kr hv4))) ?_;exact AW AC
   obtain ⟨r11,hr11,h⟩:=OB h;refine C2 (JY x0 c1 c2 v4 _ hr11) ?_;refine AF ?_;obtain ⟨v12,hv12,h⟩:=OB h;obtain ⟨v13,hv13,h⟩:=OB h;by_cases hk14:(okB (r11++v13))=true
   case neg=>rw [if_neg hk14] at h; cases h
   rw [if_pos hk14] at h;refine AJ (s1:=⟨Fr 106 [(0,.sl 5 (x0.map AA.enc)),(3,.st (r11++v13)),(4,.j c2)],[]⟩) ?_ ?_
   ·refine AD (n:=106) AC 3 [(0,.sl 5 (x0.map AA.enc)),(4,.j c2),(27,.st r11),(28,.sl 5 (x0.map AA.enc)),(29,.j c2)] [] kr ?_
    refine AK AC 0 rfl (Bi (AB rfl) rfl (AZ (a:= .sl 5 (x0.map AA.enc)) (b:= .j c2) kr kr (Dc (e:=AA.enc) (el:=70) (k:=5) (ki:= .i64) kr kr hv12))) ?_;refine AD (n:=106) AC 3 [(0,.sl 5 (x0.map AA.enc)),(4,.j c2),(27,.st r11),(33,.j (wr .i64 v12.1))] [] kr ?_;refine AO (v:=v13) (caps:=[]) (xs:=[.j (wr .i64 v12.1)]) (u:=((wr .i64 v12.1),())) rfl rfl Nj rfl (AB rfl) kr kr (AT (Ap (c:=cdI) (v:=(wr .i64 v12.1))) Ay) (.inl kr) (by dsimp only; exact hv13) ?_;refine AK AC 0 rfl (Bi (AB rfl) rfl (Ed (a:= .st r11) (b:= .st v13) kr kr (C8 hk14))) ?_;exact AW AC
   refine AF ?_;refine AF ?_;obtain ⟨v15,hv15,h⟩:=OB h;obtain ⟨j18,hj18,h⟩:=OB h;refine AJ (s1:=⟨Fr 106 [(0,.sl 5 (x0.map AA.enc)),(3,.st (r11++v13)),(4,.j c2),(49,.b j18)],[]⟩) ?_ ?_
   ·refine AD (n:=106) AC 2 [(0,.sl 5 (x0.map AA.enc)),(3,.st (r11++v13)),(4,.j c2),(36,.sl 5 (x0.map AA.enc)),(37,.j c2)] [] kr ?_
    refine AK AC 0 rfl (Bi (AB rfl) rfl (AZ (a:= .sl 5 (x0.map AA.enc)) (b:= .j c2) kr kr (Dc (e:=AA.enc) (el:=70) (k:=5) (ki:= .i64) kr kr hv15))) ?_;refine AD (n:=106) AC 4 [(0,.sl 5 (x0.map AA.enc)),(3,.st (r11++v13)),(4,.j c2),(42,.b (v15.1==4))] [] kr ?_;rcases BE (v15.1==4) with hc51 | hc51
    ·rw [if_pos hc51] at hj18
     rw [hc51];refine AD (n:=106) AC 7 [(0,.sl 5 (x0.map AA.enc)),(3,.st (r11++v13)),(4,.j c2),(43,.tp []),(44,.tp []),(45,.tp []),(46,.tp []),(47,.tp []),(48,.tp []),(49,.b true)] [] kr ?_;have hq:=OI hj18; subst hq;exact AE rfl AH
    ·rw [Bu hc51] at hj18
     rw [hc51];refine AD (n:=106) AC 2 [(0,.sl 5 (x0.map AA.enc)),(3,.st (r11++v13)),(4,.j c2),(42,.b false),(43,.sl 5 (x0.map AA.enc)),(44,.j c2)] [] kr ?_;obtain ⟨v16,hv16,hj18⟩:=OB hj18;refine AK AC 0 rfl (Bi kr rfl (AZ (a:= .sl 5 (x0.map AA.enc)) (b:= .j c2) kr kr (Dc (e:=AA.enc) (el:=70) (k:=5) (ki:= .i64) kr kr hv16))) ?_;refine AD (n:=106) AC 4 [(0,.sl 5 (x0.map AA.enc)),(3,.st (r11++v13)),(4,.j c2),(43,.sl 5 (x0.map AA.enc)),(44,.j c2),(45,.pe (AA.enc v16) 0),(46,.pe (AA.enc v16) 0),(47,.v (.int .u8 v16.1)),(48,.b (v16.1==10)),(49,.b (v16.1==10))] [] kr ?_;have hq:=OI hj18; subst hq;exact AE rfl AH
   obtain ⟨r25,hr25,h⟩:=OB h;refine C2 (JZ x0 c2 r11 v13 j18 _ hr25) ?_;refine AF ?_;refine AF ?_;obtain ⟨v26,hv26,h⟩:=OB h;obtain ⟨j29,hj29,h⟩:=OB h;refine AJ (s1:=⟨Fr 106 [(0,.sl 5 (x0.map AA.enc)),(3,.st r25),(4,.j c2),(72,.b j29)],[]⟩) ?_ ?_
   ·refine AD (n:=106) AC 2 [(0,.sl 5 (x0.map AA.enc)),(3,.st r25),(4,.j c2),(59,.sl 5 (x0.map AA.enc)),(60,.j c2)] [] kr ?_
    refine AK AC 0 rfl (Bi (AB rfl) rfl (AZ (a:= .sl 5 (x0.map AA.enc)) (b:= .j c2) kr kr (Dc (e:=AA.enc) (el:=70) (k:=5) (ki:= .i64) kr kr hv26))) ?_;refine AD (n:=106) AC 4 [(0,.sl 5 (x0.map AA.enc)),(3,.st r25),(4,.j c2),(65,.b (decide (v26.1≥4)))] [] kr ?_;rcases BE (decide (v26.1≥4)) with hc50 | hc50
    ·rw [if_pos hc50] at hj29
     rw [hc50];refine AD (n:=106) AC 2 [(0,.sl 5 (x0.map AA.enc)),(3,.st r25),(4,.j c2),(65,.b true),(66,.sl 5 (x0.map AA.enc)),(67,.j c2)] [] kr ?_;obtain ⟨v27,hv27,hj29⟩:=OB hj29;refine AK AC 0 rfl (Bi kr rfl (AZ (a:= .sl 5 (x0.map AA.enc)) (b:= .j c2) kr kr (Dc (e:=AA.enc) (el:=70) (k:=5) (ki:= .i64) kr kr hv27))) ?_;refine AD (n:=106) AC 4 [(0,.sl 5 (x0.map AA.enc)),(3,.st r25),(4,.j c2),(66,.sl 5 (x0.map AA.enc)),(67,.j c2),(68,.pe (AA.enc v27) 0),(69,.pe (AA.enc v27) 0),(70,.v (.int .u8 v27.1)),(71,.b (decide (v27.1<=7))),(72,.b (decide (v27.1<=7)))] [] kr ?_;have hq:=OI hj29; subst hq;exact AE rfl AH
    ·rw [Bu hc50] at hj29
     rw [hc50];refine AD (n:=106) AC 7 [(0,.sl 5 (x0.map AA.enc)),(3,.st r25),(4,.j c2),(66,.tp []),(67,.tp []),(68,.tp []),(69,.tp []),(70,.tp []),(71,.tp []),(72,.b false)] [] kr ?_;have hq:=OI hj29; subst hq;exact AE rfl AH
   obtain ⟨r38,hr38,h⟩:=OB h;refine C2 (Ja x0 c2 r25 j29 _ hr38) ?_;refine AF ?_;refine AL AC [(0,.sl 5 (x0.map AA.enc)),(3,.st r38),(4,.j c2),(5,.j 0)] [] ?_;refine Aq ?_;obtain ⟨r48,hr48,h⟩:=OB h;refine Cp (n:=100000) ?_;refine BH (Aw (s1:=⟨Fr 106 [(0,.sl 5 (x0.map AA.enc)),(3,.st r38),(4,.j c2),(5,.j 0)],[]⟩) AH (Jd x0 c2 _ r38 0 _ hr48)) ?_;by_cases hk49:(okB (r48++[10]))=true
   case neg=>rw [if_neg hk49] at h; cases h
   rw [if_pos hk49] at h;refine AJ (s1:=⟨Fr 106 [(0,.sl 5 (x0.map AA.enc)),(3,.st (r48++[10])),(4,.j c2)],[]⟩) ?_ ?_
   ·refine AD (n:=106) AC 1 [(0,.sl 5 (x0.map AA.enc)),(4,.j c2),(103,.st r48)] [] kr ?_
    refine AK AC 0 rfl (Bi (AB rfl) rfl (Ed (a:= .st r48) (b:= .st [10]) kr kr (C8 hk49))) ?_;exact AW AC
   refine DE AC [(0,.sl 5 (x0.map AA.enc)),(3,.st (r48++[10])),(4,.j (wr .i64 (c2 + 1)))] [] ?_;exact Aw (s1:=⟨Fr 106 [(0,.sl 5 (x0.map AA.enc)),(3,.st (r48++[10])),(4,.j (wr .i64 (c2 + 1)))],[]⟩) AH (ih (r48++[10]) (wr .i64 (c2 + 1)) h)
  ·rw [Bu hb3] at h
   refine Co ?_;have hq:=OI h; subst hq;exact ⟨rfl,AH⟩
theorem KO (x0:(List AG)) (r:(List UInt8)) (h:D9 x0=some r):Sem E0 ⟨none,false⟩ CV ⟨Fr 106 (BG 0 (GM.enc (x0,()))),[]⟩ fun e s'=>(e = .normal\/e = .ret)/\∃ xs,ED E0.P s'.fr s'.hp Tryz.f70.results.toList=some xs/\EJ xs=GV r:=by
 unfold D9 at h
 let p1:Nat×AV:=(0,.sl 5 (x0.map AA.enc))
 refine BD (Bw (s1:=⟨Fr 106 [p1],[]⟩) AH ?_);refine AL AC [p1] [] ?_;refine AL AC [p1,(3,.st [])] [] ?_;refine AF ?_;refine AL AC [p1,(3,.st []),(4,.j 0)] [] ?_;refine Aq ?_;obtain ⟨r53,hr53,h⟩:=OB h;refine Cp (n:=100000) ?_;refine BH (Aw (s1:=⟨Fr 106 [p1,(3,.st []),(4,.j 0)],[]⟩) AH (Jc x0 _ [] 0 _ hr53)) ?_;refine AL AC [(2,.st r53)] [] ?_;refine AS ?_;have hq:=OI h; subst hq;exact ⟨⟨Fr 106 [(2,.st r53)],[]⟩,AH,.inr rfl,[.st r53],kr,kr⟩
def Ll:List AV->Option AV:=EN GM (fun a=>D9 a.1) GV
theorem Lu:XOk 70 Ll:=by
 refine Af Tryz.func70 (c:=CV) ?h2 ⟨Tryz.call70⟩ GM (fun a=>D9 a.1) GV (fun a=>(by show 1<=106; decide)) ?h3 ?h4
 case h2=>kernel_rfl
 case h3=>intro b; kernel_rfl
 case h4=>exact fun a b h=>KO a.1 b h
section
variable {E:Env}{cx:Cx}{ops:Array Oper}{rest rest':List Oper}{K:St->Prop}{n n0 k:Nat}{l:List (Nat×AV)}{hp:Hp}{α β:Type}{s:Cs α}{F:α->Option β}{er:β->AV}{u:α}{v:β}{fid:FuncId}{w:World}{Z:Nat->Prop}{R:List RI}
theorem T4 (hX:XOk fid (EN s F er)) (hh:HR w Z R hp) (hg:GI E0 w Z){xs:List AV}{us:List Value}(hvs:VRs w Z R xs us) (hv:SeesD hp s xs u) (hok:DJ (er v)=true\/xs.all DN=true/\s.dec xs=some u) (hF:F u=some v) :
  Ret E0.P fid us.toArray w fun x w'=>∃ Z',HR w' Z' R hp/\VR w' Z' R (er v) x/\Step w Z R hp w' Z' R hp/\w.grownBy w' none/\(DJ (er v)=true->Z'=Z):=by
 by_cases hf:DJ (er v)=true
 ·obtain ⟨ys,hv,hd⟩:=hv
  have hz1:∀ c,(Z c\/own R hp c)->c < w.heap.size:=fun c hc=>hc.elim (hh.zlt c) (fun ⟨b,B,r,h1,_,h3,h4⟩=>h4 ▸ hh.rltL h1 h3)
  have hg1:GI E0 w (fun c=>Z c\/own R hp c):=fun q y hy=>(hg q y hy).mono (fun _ _=>rfl) (fun _ h=> .inl h) (fun _ _ h=>h)
  refine Ret.mono (hX.2 ys (er v) (Hg hd hF) w _ us hz1 hg1 (hv w Z R us hh hvs)) fun x w' ⟨hs,hx⟩=>?_
  exact ⟨Z,hh.keep hs.size (fun c hc=>hs.block c hc (by simp)),I0 hf hx,⟨hs.os,hs.tape,hs.output,hs.size,fun c hc _=>hs.block c hc (by simp),fun _ h=> .inl h,fun _ h=>h,fun _ h=> .inl h,fun _ _ h=>h⟩,hs,fun _=>rfl⟩
 ·obtain ⟨hn,hd⟩:=hok.resolve_left hf
  refine Ret.mono (hX.2 xs (er v) (Hg hd hF) w Z us hh.zlt hg (MY hn hvs)) fun x w' ⟨hs,hx⟩=>?_
  obtain ⟨k1,k2⟩:=hh.addZ hs
  exact ⟨_,k1,hx.up,k2,hs,fun h=>absurd h hf⟩
theorem Ul (hP:E.P=E0.P) (hG:E.G=E0.G){caps xs:List AV}{d:Option Nat}{f:Operand}{args:Array Operand}{tys:Array TypeId}{ty:TypeId}{pos:String}{af:Array Edge}{g:Option (Nat×Bool)}{base:Bs}{a:Act}(hX:XOk fid (EN s F er)) (sr:SR E base w Z R ⟨Fr n l,hp⟩ a)
  (hf:opA E (Fr n l) f=some (.fn fid [] caps)) (ha:F3 (opA E (Fr n l)) args.toList=some xs) (hv:SeesD hp s (xs++caps) u) (hok:DJ (er v)=true\/(xs++caps).all DN=true/\s.dec (xs++caps)=some u) (hF:F u=some v) {Q:Act->World->Prop}
  (kk:∀ x w' Z',HR w' Z' R hp->VR w' Z' R (er v) x->Step w Z R hp w' Z' R hp->w.grownBy w' none->(DJ (er v)=true->Z'=Z)->SR E base w' Z' R ⟨Fr n l,hp⟩ a->Q (a.put d x) w'):Lw E.P ⟨d,.call ⟨.value f,args,tys⟩,ty,pos,af,g⟩ a w Q:=by
 have hρ:∀ o x,opA E (Fr n l) o=some x->VR w Z R x (a.eval o):=fun o x e=>opA_vr sr o x e
 have hvf:=hρ _ _ hf
 have hva:∃ uc:List Value,a.eval f = .func (.func fid) #[] uc.toArray/\VRs w Z R caps uc:=by
  generalize a.eval f=vf at hvf
  cases hvf with
  | fn hl hl' hx hy =>
   rename_i u1 u2
   have e1:u1=[]:=by simpa using hl
   subst e1
   exact ⟨u2,rfl,hl',hy⟩
 obtain ⟨uc,hva,huc⟩:=hva
 have hcl:Ba E.P fid:=hP ▸ hX.1
 unfold Lw
 rw [EH (uf:=[]) (uc:=uc) rfl hva rfl hcl w]
 have hret:=T4 hX sr.hh (by have:=sr.gl; exact fun q y hy=>this q y (by rw [hG]; exact hy)) ((opds_vr hρ ha).append huc) hv hok hF
 rw [<-hP] at hret
 simp only [List.nil_append]
 refine Ret.mono hret fun x w' ⟨Z',k1,k2,k3,k4,k5⟩=>?_
 exact kk x w' Z' k1 k2 k3 k4 k5 (sr.step k1 k3)
theorem Js (hP:E.P=E0.P) (hG:E.G=E0.G) (hX:XOk fid (EN s F er)){caps xs:List AV}{d:Nat}{f:Operand}{args:Array Operand}{tys:Array TypeId}{ty:TypeId}{pos:String}{af:Array Edge}{g:Option (Nat×Bool)}(hr:rest=⟨some d,.call ⟨.value f,args,tys⟩,ty,pos,af,g⟩::rest') (hw:BS ops (Fr n l) ⟨some d,.call ⟨.value f,args,tys⟩,ty,pos,af,g⟩=some true)
  (hf:opA E (Fr n l) f=some (.fn fid [] caps)) (ha:F3 (opA E (Fr n l)) args.toList=some xs) (hv:SeesD hp s (xs++caps) u) (hok:DJ (er v)=true\/(xs++caps).all DN=true/\s.dec (xs++caps)=some u) (hF:F u=some v) (kk:RunL E cx ops rest' ⟨Fr n ((d,er v)::l),hp⟩ K):RunL E cx ops rest ⟨Fr n l,hp⟩ K:=by
 subst hr
 intro ro base Q a w Z R hro sr hy q
 refine IZ rfl (wantedA_eq sr hw) (Ul hP hG hX sr hf ha hv hok hF fun x w' Z' k1 k2 k3 k4 k5 sr'=>?_)
 refine kk ro base Q _ w' Z' R hro ?_ (hy.step sr.hh k3) fun s' a' w'' Z'' R'' hK sr'' st'=>q s' a' w'' Z'' R'' hK sr'' (k3.trans st')
 have:=sr'.put (d:=some d) k2
 rwa [CO] at this
end
section
variable {w w':World}{Z Z':Nat->Prop}{R R':List RI}{h h':Hp}
end
theorem SeeD.ag {α:Type}{hp:Hp}{s:Cs α}{hn:∀ x,(s.enc x).all Jr=true}{xs:List AV}{a:α}(h:SeesD hp s xs a):SeeD hp (cdA s hn) (.ag xs) a:=by
 obtain ⟨ys,k1,k2⟩:=h
 exact ⟨.ag ys,.ag k1,k2⟩
theorem SeeV.fn {hp:Hp}{f:FuncId}{cs cs':List AV}(hs:Sees hp cs cs'):SeeV hp (.fn f [] cs) (.fn f [] cs'):=fun w Z R u hh hv=>by
 cases hv with
 | fn hl hl' hx hy =>
  have:=hs w Z R _ hh ⟨hl',hy⟩
  exact .fn hl this.len (fun i x u h=>by simp at h) this.at_
/-- A closure over cells. -/
theorem SeeD.fn {α:Type}{hp:Hp}{f:FuncId}{s:Cs α}{hn:∀ x,(s.enc x).all Gg=true}{q:List AV}{a:α}(h:SeesD hp s q a):SeeD hp (cdF f s hn) (.fn f [] q) a:=by
 obtain ⟨ys,k1,k2⟩:=h
 refine ⟨.fn f [] ys,.fn k1,?_⟩
 show (if f=f then s.dec ys else none)=_
 rw [if_pos rfl]; exact k2
section
variable {E:Env}{cx:Cx}{ops:Array Oper}{rest rest':List Oper}{K:St->Prop}{n n0 k:Nat}{l:List (Nat×AV)}{hp:Hp}
end
/-- A nil slice is an empty frozen one, in structs too. -/
def UpV (x y:AV):Prop:=∀ (w:World) (Z:Nat->Prop) (R:List RI) (u:Value),VR w Z R x u->VR w Z R y u
theorem UpV.refl {x:AV}:UpV x x:=fun _ _ _ _ h=>h
theorem UpV.nil {k:Nat}:UpV .e0 (.sl k []):=fun _ _ _ _ h=>by
 cases h
 exact .sl (us:=[]) rfl rfl (Nat.le_refl _) (by unfold maxLen; omega) (fun h=>by omega) (fun i x u hx=>by simp at hx)
def UpVs:List AV->List AV->Prop
 | [],[]=>True
 | x::xs,y::ys=>UpV x y/\UpVs xs ys
 | _,_=>False
theorem UpVs.len:∀ {xs ys:List AV},UpVs xs ys->xs.length=ys.length
 | [],[],_=>rfl
 | _::_,_::_,h=>by simp [UpVs.len h.2]
 | [],_::_,h=>h.elim
 | _::_,[],h=>h.elim
theorem UpVs.get:∀ {xs ys:List AV}{i:Nat}{y:AV},UpVs xs ys->ys[i]? = some y->∃ x,xs[i]? = some x/\UpV x y
 | _::_,_::_,0,_,h,e=>by simp at e; subst e; exact ⟨_,rfl,h.1⟩
 | _::_,_::_,i + 1,_,h,e=>by
  obtain ⟨x,h1,h2⟩:=UpVs.get (i:=i) h.2 (by simpa using e)
  exact ⟨x,by simpa using h1,h2⟩
 | [],[],_,_,_,e=>by simp at e
 | [],_::_,_,_,h,_=>h.elim
 | _::_,[],_,_,h,_=>h.elim
theorem UpV.ag {xs ys:List AV}(h:UpVs xs ys):UpV (.ag xs) (.ag ys):=fun w Z R u hv=>by
 cases hv with
 | ag hl h1 hx =>
  refine .ag (by rw [hl,h.len]) h1 fun i y u hy hu=>?_
  obtain ⟨x,k1,k2⟩:=h.get hy
  exact k2 _ _ _ _ (hx i x u k1 hu)
def LkU (l:List (Nat×AV)):List (Nat×AV)->Prop
 | []=>True
 | (t,z)::r=>(∃ x,lk l t=some x/\UpV x z)/\LkU l r
theorem LkU.at_ {l:List (Nat×AV)}:∀ {l':List (Nat×AV)},LkU l l'->∀ t z,lk l' t=some z->∃ x,lk l t=some x/\UpV x z
 | [],_,t,z,h=>by cases h
 | (k,z0)::r,⟨h1,h2⟩,t,z,h=>by
  rw [Hu] at h
  split at h
  ·next hk=>injection h with h; subst hk h; exact h1
  ·exact h2.at_ t z h
/-- A value in which an own thing is frozen. -/
def FzU (e z x y:AV):Prop:=∀ (w:World) (Z Z':Nat->Prop) (R:List RI) (u:Value),(∀ c,Z c->Z' c)->(∀ v,VR w Z R e v->VR w Z' R z v)->VR w Z R x u->VR w Z' R y u
section
variable {e z:AV}
theorem FzU.refl {x:AV}:FzU e z x x:=fun _ _ _ _ _ hz _ h=>h.mono (fun _ _=>rfl) hz (fun _ _ h=>h)
def FzUs (e z:AV):List AV->List AV->Prop
 | [],[]=>True
 | x::xs,y::ys=>FzU e z x y/\FzUs e z xs ys
 | _,_=>False
theorem FzUs.len:∀ {xs ys:List AV},FzUs e z xs ys->xs.length=ys.length
 | [],[],_=>rfl
 | _::_,_::_,h=>by simp [FzUs.len h.2]
 | [],_::_,h=>h.elim
 | _::_,[],h=>h.elim
theorem FzUs.get:∀ {xs ys:List AV}{i:Nat}{y:AV},FzUs e z xs ys->ys[i]? = some y->∃ x,xs[i]? = some x/\FzU e z x y
 | _::_,_::_,0,_,h,q=>by simp at q; subst q; exact ⟨_,rfl,h.1⟩
 | _::_,_::_,i + 1,_,h,q=>by
  obtain ⟨x,h1,h2⟩:=FzUs.get (i:=i) h.2 (by simpa using q)
  exact ⟨x,by simpa using h1,h2⟩
 | [],[],_,_,_,q=>by simp at q
 | [],_::_,_,_,h,_=>h.elim
 | _::_,[],_,_,h,_=>h.elim
theorem FzU.ag {xs ys:List AV}(h:FzUs e z xs ys):FzU e z (.ag xs) (.ag ys):=fun w Z Z' R u hz k hv=>by
 cases hv with
 | ag hl h1 hx =>
  refine .ag (by rw [hl,h.len]) h1 fun i y u hy hu=>?_
  obtain ⟨x,k1,k2⟩:=h.get hy
  exact k2 _ _ _ _ _ hz k (hx i x u k1 hu)
theorem FzU.fn {f:FuncId}{xs ys:List AV}(h:FzUs e z xs ys):FzU e z (.fn f [] xs) (.fn f [] ys):=fun w Z Z' R u hz k hv=>by
 cases hv with
 | fn hl hl' hx hy =>
  refine .fn hl (by rw [hl',h.len]) (fun i x u h=>by simp at h) fun i y u hy' hu=>?_
  obtain ⟨x,k1,k2⟩:=h.get hy'
  exact k2 _ _ _ _ _ hz k (hy i x u k1 hu)
end
def LkF (l:List (Nat×AV)) (e z:AV):List (Nat×AV)->Prop
 | []=>True
 | (t,y)::r=>(∃ x,lk l t=some x/\FzU e z x y)/\LkF l e z r
theorem LkF.at_ {l:List (Nat×AV)}{e z:AV}:∀ {l':List (Nat×AV)},LkF l e z l'->∀ t y,lk l' t=some y->∃ x,lk l t=some x/\FzU e z x y
 | [],_,t,y,h=>by cases h
 | (k,z0)::r,⟨h1,h2⟩,t,y,h=>by
  rw [Hu] at h
  split at h
  ·next hk=>injection h with h; subst hk h; exact h1
  ·exact h2.at_ t y h
/- (*strings.Builder).copyCheck -/
noncomputable def B7:Env:=E0
theorem DV:EnvOk B7:=AC
noncomputable def Dl:Code:=Bg Tryz.f112
def CI  : Option (Unit) :=
 some ()
theorem FL {L:List Asn}{hp:Hp}(u0:AV) (r:Unit) (h:CI  = some r) (hT:T hp ((cel u0 2 103 (.ag [.v (.pointer none),.e0]))::L)):SemY B7 ⟨none,false⟩ Dl ⟨Fr 20 (BG 0 [u0]),hp⟩ fun x s'=>(x = .normal\/x = .ret)/\∃ ys,ED B7.P s'.fr s'.hp Tryz.f112.results.toList=some ys/\(fun v h'=>v = .tp []/\T h' ((cel u0 2 103 (.ag [u0,.e0]))::L)) (EJ ys) s'.hp:=by
 have he:=DV
 unfold CI at h;refine HM (H1 (s1:=⟨Fr 20 [(0,u0)],hp⟩) WkY.f1 ?_);refine BW ?_;refine Ao ?_;refine DL he 1 ?_;refine Ai he 0 rfl (Bi (AB rfl) rfl (KN (Fm hT) kr)) ?_;refine Ai he 0 rfl (Bi (AB rfl) rfl (Gh (a:=u0) kr (EI (off:=0) hT kr))) ?_;refine Ai he 0 rfl (Bi (AB rfl) rfl (Eb (p:=IN u0 0) kr (Es (off:=0) (y:= .v (.pointer none)) (m:=1) (g:=false) hT kr kr kr))) ?_;refine FN he [(0,u0),(6,.b true)] ?_;refine SemY.cond_true kr ?_;refine Ao ?_;refine DL he 2 ?_;refine PX he rfl hT (AB rfl) kr kr ?_;refine QY (p:=u0) (fid:=141) he rfl (AB rfl) kr kr kr ?_;refine PX he rfl hT (AB rfl) kr kr ?_;refine Ai he 0 rfl (Bi (AB rfl) rfl (KN (Fm hT) kr)) ?_;refine Ai he 0 rfl (Bi (AB rfl) rfl (Gh (a:=u0) kr (EI (off:=0) hT kr))) ?_;obtain ⟨hp1,hs2,hT3⟩:=O0 (off:=0) (P:=Tryz.prog) (ty:=100) (y:=u0) (a':= .ag [u0,.e0]) hT (by have hq:=LE (hT.front 0 rfl); revert hq; generalize u0=zz; intro hq; cases zz <;> first | (exact (Bool.false_ne_true hq.1).elim) | (exact (Bool.false_ne_true hq.2).elim) | skip; all_goals (first | rfl | kernel_rfl | exact rfl)) (by have hq:=LE (hT.front 0 rfl); revert hq; generalize u0=zz; intro hq; cases zz <;> first | (exact (Bool.false_ne_true hq.1).elim) | (exact (Bool.false_ne_true hq.2).elim) | skip; all_goals (first | rfl | kernel_rfl | exact rfl)) (by have hq:=LE (hT.front 0 rfl); revert hq; generalize u0=zz; intro hq; cases zz <;> first | (exact (Bool.false_ne_true hq.1).elim) | (exact (Bool.false_ne_true hq.2).elim) | skip; all_goals (first | rfl | kernel_rfl | exact rfl));refine RunL.store he (y:=IN u0 0) (z:=u0) rfl (AB rfl) kr kr hs2 ?_;refine Bh rfl ?_;have hq:=OI h; subst hq;exact ⟨⟨Fr 20 [],hp1⟩,WkY.f1,.inl rfl,[],kr,⟨rfl,hT3⟩⟩
/- (*strings.Builder).WriteString -/
noncomputable def BU:Env:=E0
theorem C9:EnvOk BU:=AC
noncomputable def DU:Code:=Bg Tryz.f71
def B8 (x0:(List UInt8)):Option (Int×(List Int)) :=
 CI.bind fun _v1 =>
 if (Du 1 (([]:(List Int)).length + (Bx x0).length))=true then
 some ((x0.length:Int),(([]:(List Int))++(Bx x0)))
 else none
theorem Ez {L:List Asn}{hp:Hp}(u0:AV) (x0:(List UInt8)) (r:Int×(List Int)) (h:B8 x0=some r) (hT:T hp ((cel u0 2 103 (.ag [.v (.pointer none),.e0]))::L)):SemY BU ⟨none,false⟩ DU ⟨Fr 19 (BG 0 [u0,.st x0]),hp⟩ fun x s'=>(x = .normal\/x = .ret)/\∃ ys,ED BU.P s'.fr s'.hp Tryz.f71.results.toList=some ys/\(fun v h'=>∃ (z0:AV),v = .tp [.j r.1,.v .nilIface]/\T h' ((cel u0 2 103 (.ag [u0,z0]))::(own_ (ocL 1 5 (ocV (cdK .u8))) z0 r.2)::L)) (EJ ys) s'.hp:=by
 have he:=C9
 unfold B8 at h;refine HM (H1 (s1:=⟨Fr 19 [(0,u0),(1,.st x0)],hp⟩) WkY.f1 ?_);refine GG he [(0,u0),(1,.st x0)] ?_;refine BW ?_;refine Ao ?_;refine DL he 1 ?_;obtain ⟨v1,hv1,h⟩:=OB h;refine G9 (E:=BU) (e:=B7) rfl rfl DV rfl rfl (fid:=112) (caps:=[]) (xs:=[u0]) (fn:=Tryz.f112) (c:=Dl) (Out:=fun v h'=>v = .tp []/\T h' ((cel u0 2 103 (.ag [u0,.e0]))::L)) rfl (AB rfl) kr kr kr kr (by show 1<=20; decide) (FL u0 _ hv1 hT) ?_;rintro xx hp2 ⟨hqhp2,hT3⟩; subst xx;refine Bh rfl (SemY.fr (l':=[(0,u0),(1,.st x0)]) kr ?_);refine BW ?_;refine Ao ?_;refine DL he 2 ?_;refine Ai he 0 rfl (Bi (AB rfl) rfl (KN (Fm hT3) kr)) ?_;refine Ai he 0 rfl (Bi (AB rfl) rfl (Gh (a:=u0) kr (EI (off:=1) hT3 kr))) ?_;refine Ai he 0 rfl (Bi (AB rfl) rfl (Eb (p:=IN u0 1) kr (Es (off:=1) (y:= .e0) (m:=1) (g:=false) hT3 kr kr kr))) ?_;refine DL he 1 ?_;by_cases hk9:(Du 1 (([]:(List Int)).length + (Bx x0).length))=true
 case neg=>rw [if_neg hk9] at h; cases h
 rw [if_pos hk9] at h
 have hT4:=(T.e0 (k:=1) (ty:=5) (o:=(ocV (cdK .u8))) hT3)
 obtain ⟨e8,hp5,hb6,hT7⟩:=M8 (P:=Tryz.prog) (ty:=101) (ty2:=9) (bytes:=1) (y:= .st x0) (ys:=(Bx x0)) hT4 kr OZ kr hk9;refine Ai he 0 rfl (S0 (AB rfl) rfl kr kr (EQ (a:= .e0) (b:= .st x0) kr kr hb6)) ?_
 have hT10:=(hT7.front 1 rfl)
 refine Ai he 0 rfl (Bi (AB rfl) rfl (KN (Fm hT10) kr)) ?_;refine Ai he 0 rfl (Bi (AB rfl) rfl (Gh (a:=u0) kr (EI (off:=1) hT10 kr))) ?_;obtain ⟨hp11,hs12,hT13⟩:=O0 (off:=1) (P:=Tryz.prog) (ty:=101) (y:=e8) (a':= .ag [u0,e8]) hT10 (by have hq:=HI (hT10.front 1 rfl); revert hq; generalize e8=zz; intro hq; cases zz <;> first | (exact (Bool.false_ne_true hq.1).elim) | (exact (Bool.false_ne_true hq.2).elim) | skip; all_goals (first | rfl | kernel_rfl | exact rfl)) (by have hq:=HI (hT10.front 1 rfl); revert hq; generalize e8=zz; intro hq; cases zz <;> first | (exact (Bool.false_ne_true hq.1).elim) | (exact (Bool.false_ne_true hq.2).elim) | skip; all_goals (first | rfl | kernel_rfl | exact rfl)) (by have hq:=HI (hT10.front 1 rfl); revert hq; generalize e8=zz; intro hq; cases zz <;> first | (exact (Bool.false_ne_true hq.1).elim) | (exact (Bool.false_ne_true hq.2).elim) | skip; all_goals (first | rfl | kernel_rfl | exact rfl));refine RunL.store he (y:=IN u0 1) (z:=e8) rfl (AB rfl) kr kr hs12 ?_;refine Bh rfl (SemY.fr (l':=[(1,.st x0)]) kr ?_)
 let p1:Nat×AV:=(4,.j (x0.length:Int))
 refine GG he [p1,(5,.v .nilIface)] ?_;refine SemY.ret ?_;have hq:=OI h; subst hq;exact ⟨⟨Fr 19 [p1,(5,.v .nilIface)],hp11⟩,WkY.f1,.inr rfl,[.j (x0.length:Int),.v .nilIface],kr,⟨e8,rfl,hT13⟩⟩
/- (*strings.Builder).copyCheck -/
noncomputable def By:Env:=E0
theorem DH:EnvOk By:=AC
noncomputable def Db:Code:=Bg Tryz.f112
def CD  : Option (Unit) :=
 some ()
theorem FB {L:List Asn}{hp:Hp}(u0:AV) (u1:AV) (x0:(List UInt8)) (r:Unit) (h:CD  = some r) (hT:T hp ((cel u0 2 103 (.ag [u0,u1]))::(own_ (ocL 1 5 (ocV (cdK .u8))) u1 (Bx x0))::L)):SemY By ⟨none,false⟩ Db ⟨Fr 20 (BG 0 [u0]),hp⟩ fun x s'=>(x = .normal\/x = .ret)/\∃ ys,ED By.P s'.fr s'.hp Tryz.f112.results.toList=some ys/\(fun v h'=>v = .tp []/\T h' ((cel u0 2 103 (.ag [u0,u1]))::(own_ (ocL 1 5 (ocV (cdK .u8))) u1 (Bx x0))::L)) (EJ ys) s'.hp:=by
 have he:=DH
 unfold CD at h;refine HM (H1 (s1:=⟨Fr 20 [(0,u0)],hp⟩) WkY.f1 ?_);refine BW ?_;refine Ao ?_;refine DL he 1 ?_;refine Ai he 0 rfl (Bi (AB rfl) rfl (KN (Fm hT) kr)) ?_;refine Ai he 0 rfl (Bi (AB rfl) rfl (Gh (a:=u0) kr (EI (off:=0) hT kr))) ?_;refine Ai he 0 rfl (Bi (AB rfl) rfl (Eb (p:=IN u0 0) kr (Es (off:=0) (y:=u0) (m:=1) (g:=false) hT kr kr kr))) ?_;refine Ai he 0 rfl (Bi (x:= .b false) (AB rfl) rfl (Ut (Pj hT) kr kr kr kr)) ?_;refine Bh rfl (SemY.fr (l':=[(0,u0),(6,.b false)]) kr ?_);refine SemY.cond_false kr ?_;refine BW ?_;refine Ao ?_;refine DL he 1 ?_;refine Ai he 0 rfl (Bi (AB rfl) rfl (KN (Fm hT) kr)) ?_;refine Ai he 0 rfl (Bi (AB rfl) rfl (Gh (a:=u0) kr (EI (off:=0) hT kr))) ?_;refine Ai he 0 rfl (Bi (AB rfl) rfl (Eb (p:=IN u0 0) kr (Es (off:=0) (y:=u0) (m:=1) (g:=false) hT kr kr kr))) ?_;refine DL he 1 ?_;refine Ai he 0 rfl (Bi (x:= .b false) (AB rfl) rfl (Uu (Pj hT) kr kr kr kr)) ?_;refine Bh rfl (SemY.fr (l':=[(19,.b false)]) kr ?_);refine SemY.cond_false kr ?_;refine SemY.skip ?_;have hq:=OI h; subst hq;exact ⟨⟨Fr 20 [],hp⟩,WkY.f1,.inl rfl,[],kr,⟨rfl,hT⟩⟩
/- (*strings.Builder).WriteString -/
noncomputable def BR:Env:=E0
theorem C3:EnvOk BR:=AC
noncomputable def DF:Code:=Bg Tryz.f71
def B3 (x0:(List UInt8)) (x1:(List UInt8)):Option (Int×(List Int)) :=
 CD.bind fun _v1 =>
 if (Du 1 ((Bx x0).length + (Bx x1).length))=true then
 some ((x1.length:Int),((Bx x0)++(Bx x1)))
 else none
theorem Ee {L:List Asn}{hp:Hp}(u0:AV) (u1:AV) (x0:(List UInt8)) (x1:(List UInt8)) (r:Int×(List Int)) (h:B3 x0 x1=some r) (hT:T hp ((cel u0 2 103 (.ag [u0,u1]))::(own_ (ocL 1 5 (ocV (cdK .u8))) u1 (Bx x0))::L)):SemY BR ⟨none,false⟩ DF ⟨Fr 19 (BG 0 [u0,.st x1]),hp⟩ fun x s'=>(x = .normal\/x = .ret)/\∃ ys,ED BR.P s'.fr s'.hp Tryz.f71.results.toList=some ys/\(fun v h'=>∃ (z0:AV),v = .tp [.j r.1,.v .nilIface]/\T h' ((cel u0 2 103 (.ag [u0,z0]))::(own_ (ocL 1 5 (ocV (cdK .u8))) z0 r.2)::L)) (EJ ys) s'.hp:=by
 have he:=C3
 unfold B3 at h;refine HM (H1 (s1:=⟨Fr 19 [(0,u0),(1,.st x1)],hp⟩) WkY.f1 ?_);refine GG he [(0,u0),(1,.st x1)] ?_;refine BW ?_;refine Ao ?_;refine DL he 1 ?_;obtain ⟨v1,hv1,h⟩:=OB h;refine G9 (E:=BR) (e:=By) rfl rfl DH rfl rfl (fid:=112) (caps:=[]) (xs:=[u0]) (fn:=Tryz.f112) (c:=Db) (Out:=fun v h'=>v = .tp []/\T h' ((cel u0 2 103 (.ag [u0,u1]))::(own_ (ocL 1 5 (ocV (cdK .u8))) u1 (Bx x0))::L)) rfl (AB rfl) kr kr kr kr (by show 1<=20; decide) (FB u0 u1 x0 _ hv1 hT) ?_;rintro xx hp2 ⟨hqhp2,hT3⟩; subst xx;refine Bh rfl (SemY.fr (l':=[(0,u0),(1,.st x1)]) kr ?_);refine BW ?_;refine Ao ?_;refine DL he 2 ?_;refine Ai he 0 rfl (Bi (AB rfl) rfl (KN (Fm hT3) kr)) ?_;refine Ai he 0 rfl (Bi (AB rfl) rfl (Gh (a:=u0) kr (EI (off:=1) hT3 kr))) ?_;refine Ai he 0 rfl (Bi (AB rfl) rfl (Eb (p:=IN u0 1) kr (Es (off:=1) (y:=u1) (m:=1) (g:=false) hT3 kr kr kr))) ?_;refine DL he 1 ?_;by_cases hk8:(Du 1 ((Bx x0).length + (Bx x1).length))=true
 case neg=>rw [if_neg hk8] at h; cases h
 rw [if_pos hk8] at h
 have hT9:=(hT3.front 1 rfl)
 obtain ⟨e7,hp4,hb5,hT6⟩:=M8 (P:=Tryz.prog) (ty:=101) (ty2:=9) (bytes:=1) (y:= .st x1) (ys:=(Bx x1)) hT9 kr OZ kr hk8;refine Ai he 0 rfl (S0 (AB rfl) rfl kr kr (EQ (a:=u1) (b:= .st x1) kr kr hb5)) ?_
 have hT10:=(hT6.front 1 rfl)
 refine Ai he 0 rfl (Bi (AB rfl) rfl (KN (Fm hT10) kr)) ?_;refine Ai he 0 rfl (Bi (AB rfl) rfl (Gh (a:=u0) kr (EI (off:=1) hT10 kr))) ?_;obtain ⟨hp11,hs12,hT13⟩:=O0 (off:=1) (P:=Tryz.prog) (ty:=101) (y:=e7) (a':= .ag [u0,e7]) hT10 (by have hq:=HI (hT10.front 1 rfl); revert hq; generalize e7=zz; intro hq; cases zz <;> first | (exact (Bool.false_ne_true hq.1).elim) | (exact (Bool.false_ne_true hq.2).elim) | skip; all_goals (first | rfl | kernel_rfl | exact rfl)) (by have hq:=HI (hT10.front 1 rfl); revert hq; generalize e7=zz; intro hq; cases zz <;> first | (exact (Bool.false_ne_true hq.1).elim) | (exact (Bool.false_ne_true hq.2).elim) | skip; all_goals (first | rfl | kernel_rfl | exact rfl)) (by have hq:=HI (hT10.front 1 rfl); revert hq; generalize e7=zz; intro hq; cases zz <;> first | (exact (Bool.false_ne_true hq.1).elim) | (exact (Bool.false_ne_true hq.2).elim) | skip; all_goals (first | rfl | kernel_rfl | exact rfl));refine RunL.store he (y:=IN u0 1) (z:=e7) rfl (AB rfl) kr kr hs12 ?_;refine Bh rfl (SemY.fr (l':=[(1,.st x1)]) kr ?_)
 let p1:Nat×AV:=(4,.j (x1.length:Int))
 refine GG he [p1,(5,.v .nilIface)] ?_;refine SemY.ret ?_;have hq:=OI h; subst hq;exact ⟨⟨Fr 19 [p1,(5,.v .nilIface)],hp11⟩,WkY.f1,.inr rfl,[.j (x1.length:Int),.v .nilIface],kr,⟨e7,rfl,hT13⟩⟩
/- (*strings.Builder).String -/
noncomputable def CM:Env:=E0
theorem Dw:EnvOk CM:=AC
noncomputable def D1:Code:=Bg Tryz.f74
def Cb (x0:(List UInt8)):Option ((List UInt8)) :=
 if (decide (0 < (Bx x0).length))=true then
 if (decide (0 < x0.length))=true then
 if (okB x0)=true then
 some x0
 else none
 else none
 else none
theorem F5 {L:List Asn}{hp:Hp}(u0:AV) (u1:AV) (x0:(List UInt8)) (r:(List UInt8)) (h:Cb x0=some r) (hT:T hp ((cel u0 2 103 (.ag [u0,u1]))::(own_ (ocL 1 5 (ocV (cdK .u8))) u1 (Bx x0))::L)):SemY CM ⟨none,false⟩ D1 ⟨Fr 14 (BG 0 [u0]),hp⟩ fun x s'=>(x = .normal\/x = .ret)/\∃ ys,ED CM.P s'.fr s'.hp Tryz.f74.results.toList=some ys/\(fun v h'=>v = .st r/\T h' ((cel u0 2 103 (.ag [u0,u1]))::L)) (EJ ys) s'.hp:=by
 have he:=Dw
 unfold Cb at h;refine HM (H1 (s1:=⟨Fr 14 [(0,u0)],hp⟩) WkY.f1 ?_);refine GG he [(0,u0)] ?_;refine BW ?_;refine L1 10 he.mixed kr kr ?_;refine RunDT.q (x:=u0) rfl kr rfl (AB rfl) rfl kr kr ?_;refine RunDT.q (x:=u0) rfl kr rfl (AB rfl) rfl (KN (Fm hT) kr) kr ?_;refine RunDT.q (x:=IN u0 1) rfl kr rfl (AB rfl) rfl (Gh (a:=u0) kr (EI (off:=1) hT kr)) kr ?_;refine RunDT.q (x:=u1) rfl kr rfl (AB rfl) rfl (Eb (p:=IN u0 1) kr (Es (off:=1) (y:=u1) (m:=1) (g:=false) hT kr kr kr)) (Kc (off:=1) hT kr) ?_;by_cases hk1:(decide (0 < (Bx x0).length))=true
 case neg=>rw [if_neg hk1] at h; cases h
 rw [if_pos hk1] at h
 have hT2:=(hT.front 1 rfl)
 refine RunDT.q (x:=eAt u1 0) rfl kr rfl (AB rfl) rfl (Uv (a:=u1) hT2 kr hk1) kr ?_;refine RunDT.q (x:=u0) rfl kr rfl (AB rfl) rfl kr kr ?_
 have hT3:=(hT2.front 1 rfl)
 refine RunDT.q (x:=u0) rfl kr rfl (AB rfl) rfl (KN (Fm hT3) kr) kr ?_;refine RunDT.q (x:=IN u0 1) rfl kr rfl (AB rfl) rfl (Gh (a:=u0) kr (EI (off:=1) hT3 kr)) kr ?_;refine RunDT.q (x:=u1) rfl kr rfl (AB rfl) rfl (Eb (p:=IN u0 1) kr (Es (off:=1) (y:=u1) (m:=1) (g:=false) hT3 kr kr kr)) (Kc (off:=1) hT kr) ?_
 have hT4:=(hT3.front 1 rfl)
 refine RunDT.q (x:= .j ((Bx x0).length:Int)) rfl kr rfl (AB rfl) rfl (EG (a:=u1) kr (UU hT4 kr)) kr ?_;refine L0 rfl ?_;by_cases hk5:(decide (0 < x0.length))=true
 case neg=>rw [if_neg hk5] at h; cases h
 rw [if_pos hk5] at h;by_cases hk6:(okB x0)=true
 case neg=>rw [if_neg hk6] at h; cases h
 rw [if_pos hk6] at h;obtain ⟨hp7,hb8,hT9⟩:=RN (P:=Tryz.prog) (ty:=156) (el:=5) hT4 kr kr hk5 hk6;refine Ai he 0 rfl (S0 (AB rfl) rfl kr kr (Tj (a:=eAt u1 0) (b:= .j ((Bx x0).length:Int)) kr kr hb8)) ?_;refine FN he [(2,.st x0)] ?_;refine SemY.ret ?_;have hq:=OI h; subst hq;exact ⟨⟨Fr 14 [(2,.st x0)],hp7⟩,WkY.f1,.inr rfl,[.st x0],kr,⟨rfl,hT9⟩⟩
/- (*strings.Builder).String -/
noncomputable def CG:Env:=E0
theorem Dn:EnvOk CG:=AC
noncomputable def Dy:Code:=Bg Tryz.f74
def EO  : Option ((List UInt8)) :=
 some []
theorem Fn {L:List Asn}{hp:Hp}(u0:AV) (r:(List UInt8)) (h:EO  = some r) (hT:T hp ((cel u0 2 103 (.ag [.v (.pointer none),.v (.slice none 0 0)]))::L)):SemY CG ⟨none,false⟩ Dy ⟨Fr 14 (BG 0 [u0]),hp⟩ fun x s'=>(x = .normal\/x = .ret)/\∃ ys,ED CG.P s'.fr s'.hp Tryz.f74.results.toList=some ys/\(fun v h'=>v = .st r/\T h' ((cel u0 2 103 (.ag [.v (.pointer none),.v (.slice none 0 0)]))::L)) (EJ ys) s'.hp:=by
 have he:=Dn
 unfold EO at h;refine HM (H1 (s1:=⟨Fr 14 [(0,u0)],hp⟩) WkY.f1 ?_);refine GG he [(0,u0)] ?_;refine BW ?_;refine L1 10 he.mixed kr kr ?_;refine RunDT.q (x:=u0) rfl kr rfl (AB rfl) rfl kr kr ?_;refine RunDT.q (x:=u0) rfl kr rfl (AB rfl) rfl (KN (Fm hT) kr) kr ?_;refine RunDT.q (x:=IN u0 1) rfl kr rfl (AB rfl) rfl (Gh (a:=u0) kr (EI (off:=1) hT kr)) kr ?_;refine RunDT.q (x:= .v (.slice none 0 0)) rfl kr rfl (AB rfl) rfl (Eb (p:=IN u0 1) kr (Es (off:=1) (y:= .v (.slice none 0 0)) (m:=1) (g:=false) hT kr kr kr)) (Kc (off:=1) hT kr) ?_;refine RunDT.q (x:= .v (.pointer none)) rfl kr rfl (AB rfl) rfl kr kr ?_;refine RunDT.q (x:=u0) rfl kr rfl (AB rfl) rfl kr kr ?_;refine RunDT.q (x:=u0) rfl kr rfl (AB rfl) rfl (KN (Fm hT) kr) kr ?_;refine RunDT.q (x:=IN u0 1) rfl kr rfl (AB rfl) rfl (Gh (a:=u0) kr (EI (off:=1) hT kr)) kr ?_;refine RunDT.q (x:= .v (.slice none 0 0)) rfl kr rfl (AB rfl) rfl (Eb (p:=IN u0 1) kr (Es (off:=1) (y:= .v (.slice none 0 0)) (m:=1) (g:=false) hT kr kr kr)) (Kc (off:=1) hT kr) ?_;refine RunDT.q (x:= .j 0) rfl kr rfl (AB rfl) rfl kr kr ?_;refine L0 rfl ?_;refine FN he [(2,.st [])] ?_;refine SemY.ret ?_;have hq:=OI h; subst hq;exact ⟨⟨Fr 14 [(2,.st [])],hp⟩,WkY.f1,.inr rfl,[.st []],kr,⟨rfl,hT⟩⟩
/-- A block told in another way. -/
theorem WkY.blk {E:Env}{fr:List (Option AV)}{h:Hp}{b k:Nat}{t:TypeId}{es es':List AV}(hb:h[b]? = some (some ⟨k,t,es,false⟩)) (hl:es'.length=es.length) (hv:∀ (i:Nat) (x':AV),es'[i]? = some x'->∃ x,es[i]? = some x/\∀ w Z R u,VR w Z R x u->VR w Z R x' u):WkY E ⟨fr,h⟩ ⟨fr,h.set b (some ⟨k,t,es',false⟩)⟩:=by
 intro base w Z R a sr
 have hlt:=JT hb
 have hget:∀ (j:Nat) (B:Blk),(h.set b (some ⟨k,t,es',false⟩))[j]? = some (some B)->∃ B0,h[j]? = some (some B0)/\B0.fz=B.fz/\B0.k=B.k/\B0.t=B.t/\B.es.length=B0.es.length/\∀ (i:Nat) (x':AV),B.es[i]? = some x'->∃ x,B0.es[i]? = some x/\∀ w Z R u,VR w Z R x u->VR w Z R x' u:=fun j B hB=>by
  rw [List.getElem?_set] at hB
  split at hB
  ·next e =>
   subst e
   try rw [if_pos hlt] at hB
   have hB:=(OI (OI hB)).symm
   subst hB
   exact ⟨_,hb,rfl,rfl,rfl,hl,hv⟩
  ·exact ⟨B,hB,rfl,rfl,rfl,rfl,fun i x' hx=>⟨x',hx,fun _ _ _ _ h=>h⟩⟩
 have hown:∀ c,own R (h.set b (some ⟨k,t,es',false⟩)) c->own R h c:=fun c ⟨j,B,r,h1,h2,h3,h4⟩=>by
  obtain ⟨B0,q1,q2,_⟩:=hget j B h1
  exact ⟨j,B0,r,q1,q2.trans h2,h3,h4⟩
 refine ⟨Z,R,⟨⟨by simp [sr.hh.len],fun j B hB=>?_,fun j j' B B' r r' h1 f1 h2 f2 g1 g2 e=>?_,sr.hh.zlt⟩,sr.fr,?_,sr.gl,sr.bs⟩,⟨rfl,rfl,rfl,Nat.le_refl _,fun _ _ _=>rfl,fun c hc=> .inl (hown c hc),fun _ h=>h,fun _ h=> .inl h,fun _ _ h=>h⟩⟩
 ·obtain ⟨B0,q1,q2,q3,q4,q5,q6⟩:=hget j B hB
  obtain ⟨r,arr,us,g1,g2,g3,g4,g5,g6,g7,g8,g9,g10⟩:=sr.hh.blk j B0 q1
  rw [q3] at g2 g4 g10
  rw [q4] at g3
  rw [q2] at g7 g8
  refine ⟨r,arr,us,g1,g2,g3,g4,by rw [q5]; exact g5,g6,g7,g8,⟨by rw [g9.len,q5],fun i x' u hx hu=>?_⟩,g10⟩
  obtain ⟨x,p1,p2⟩:=q6 i x' hx
  exact p2 _ _ _ _ (g9.at_ i x u p1 hu)
 ·obtain ⟨B0,q1,q2,_⟩:=hget j B h1
  obtain ⟨B0',q1',q2',_⟩:=hget j' B' h2
  exact sr.hh.inj j j' B0 B0' r r' q1 (q2.trans f1) q1' (q2'.trans f2) g1 g2 e
 ·exact sr.mks.imp fun q h3 h4 h5=>⟨h3,h4,fun ho=>h5 (hown q ho)⟩
/-- A Builder: not written yet, or with the bytes. -/
def bld (ty:TypeId) (p:AV) (bs:List UInt8):Asn where
 at_ h F:=(bs=[]/\(cel p 2 ty (.ag [.v (.pointer none),.v (.slice none 0 0)])).at_ h F)\/(bs≠[]/\∃ e,(Uh (cel p 2 ty (.ag [p,e])) (own_ (ocL 1 5 (ocV (cdK .u8))) e (Bx bs))).at_ h F)
 loc:=fun ha k=>by
  rcases ha with ⟨h1,h2⟩ | ⟨h1,e,h2⟩
  ·exact .inl ⟨h1,Asn.loc _ h2 k⟩
  ·exact .inr ⟨h1,e,Asn.loc _ h2 k⟩
 own:=fun ha hb=>by
  rcases ha with ⟨h1,h2⟩ | ⟨h1,e,h2⟩
  ·exact Asn.own _ h2 hb
  ·exact Asn.own _ h2 hb
section
variable {h:Hp}{ty:TypeId}{p:AV}{bs:List UInt8}{L:List Asn}
theorem Ru (ht:T h (cel p 2 ty (.ag [.v (.pointer none),.v (.slice none 0 0)])::L)):T h (bld ty p []::L):=by
 obtain ⟨F,q,hn,hk,_⟩:=ht.act
 exact hk h _ F (.inl ⟨rfl,q⟩) hn (fun _ _ _=>rfl) (fun b hb=> .inl hb)
theorem OW {e:AV}(hne:bs≠[]) (ht:T h (cel p 2 ty (.ag [p,e])::own_ (ocL 1 5 (ocV (cdK .u8))) e (Bx bs)::L)):T h (bld ty p bs::L):=by
 obtain ⟨F,q,hn,hk,_⟩:=(T.join.1 ht).act
 exact hk h _ F (.inr ⟨hne,e,q⟩) hn (fun _ _ _=>rfl) (fun b hb=> .inl hb)
theorem Pg (ht:T h (bld ty p bs::L)):(bs=[]/\T h (cel p 2 ty (.ag [.v (.pointer none),.v (.slice none 0 0)])::L))\/(bs≠[]/\∃ e,T h (cel p 2 ty (.ag [p,e])::own_ (ocL 1 5 (ocV (cdK .u8))) e (Bx bs)::L)):=by
 obtain ⟨F,q,hn,hk,_⟩:=ht.act
 rcases q with ⟨h1,h2⟩ | ⟨h1,e,h2⟩
 ·exact .inl ⟨h1,hk h _ F h2 hn (fun _ _ _=>rfl) (fun b hb=> .inl hb)⟩
 ·exact .inr ⟨h1,e,T.join.2 (hk h _ F h2 hn (fun _ _ _=>rfl) (fun b hb=> .inl hb))⟩
/-- The buffer that is nil is seen as an empty one. -/
theorem Ql {E:Env}{fr:List (Option AV)}(ht:T h (cel p 2 ty (.ag [.v (.pointer none),.v (.slice none 0 0)])::L)):∃ h',WkY E ⟨fr,h⟩ ⟨fr,h'⟩/\T h' (cel p 2 ty (.ag [.v (.pointer none),.e0])::L):=by
 obtain ⟨F,⟨b,rfl,rfl,h2⟩,hn,hk,_⟩:=ht.act
 have hb:=JT h2
 refine ⟨h.set b (some ⟨2,ty,[.ag [.v (.pointer none),.e0]],false⟩),WkY.blk h2 rfl fun i x' hx=>?_,hk _ _ [b] ⟨b,rfl,rfl,by simp [hb]⟩ (by simp) (fun c hc _=>by rw [List.getElem?_set,if_neg (by intro e; subst e; simp at hc)]) (fun c hc=> .inl hc)⟩
 match i with
 | 0 =>
  simp at hx; subst hx
  refine ⟨_,rfl,fun w Z R u hv=>?_⟩
  cases hv with
  | ag hl h1 hx =>
   refine .ag (by simpa using hl) h1 fun i x u hi hu=>?_
   match i with
   | 0=>simp at hi; subst hi; exact hx 0 _ u rfl hu
   | 1 =>
    simp at hi; subst hi
    have:=(hx 1 _ u rfl hu).v_inv
    subst this
    exact .e0
   | i + 2=>simp at hi
 | i + 1=>simp at hx
end
section
variable {E:Env}{cx:Cx}{ops:Array Oper}{rest rest':List Oper}{K:St->Prop}{n d:Nat}{l:List (Nat×AV)}{hp:Hp}{ty:TypeId}{p:AV}{bs s:List UInt8}{L:List Asn}
theorem Nn {t':TypeId}{pos:String}{af:Array Edge}{g:Option (Nat×Bool)}(ht:T hp L) (hr:rest=⟨some d,.alloc ty,t',pos,af,g⟩::rest') (hw:BS ops (Fr n l) ⟨some d,.alloc ty,t',pos,af,g⟩=some true) (hz0:Fv E.P ty=some (.ag [.v (.pointer none),.e0])) (hz:((E.P.info? ty).bind (·.zero))=some (.agg #[.pointer none,.slice none 0 0])) (k:∀ p hp',T hp' (bld ty p []::L)->RunL E cx ops rest' ⟨Fr n ((d,p)::l),hp'⟩ K):RunL E cx ops rest ⟨Fr n l,hp⟩ K:=by
 subst hr
 intro ro base Q a w Z R hro sr hy q
 refine IZ rfl (wantedA_eq sr hw) ?_
 obtain ⟨u,_,_,hrun,i,hi,hiz⟩:=Ge (w:=w) (Z:=Z) (R:=R) hz0
 have hu:u = .agg #[.pointer none,.slice none 0 0]:=by
  rw [hi] at hz
  have hz:i.zero=some _:=hz
  rw [hiz] at hz
  exact OI hz
 have hv:VR w Z R (.ag [.v (.pointer none),.v (.slice none 0 0)]) u:=by
  rw [hu]
  refine .ag (us:=[.pointer none,.slice none 0 0]) rfl rfl fun i x u hx hu=>?_
  match i with
  | 0=>simp at hx hu; subst hx hu; exact .v rfl
  | 1=>simp at hx hu; subst hx hu; exact .v rfl
  | i + 2=>simp at hx
 obtain ⟨p,hp',hb,hT⟩:=Pi (t:=ty) (a:= .ag [.v (.pointer none),.v (.slice none 0 0)]) ht rfl
 obtain ⟨w',R',h1,h2,h3,h4,h5⟩:=Iy (P:=E.P) sr.hh hv hb
 have sr':=(sr.step h2 h4).put (d:=some d) h3
 rw [show I6 (⟨Fr n l,hp⟩:St).fr (some d) p=Fr n ((d,p)::l) from CO n l d _] at sr'
 refine Ip (u:= .pointer (some ⟨w.heap.size,0,none⟩)) (w':=w') (by simp [execOp,Instr.alloc,hrun,h1]) ?_
 exact k p hp' (Ru hT) ro base Q _ w' Z R' hro sr' (hy.step sr.hh h4) fun s' a' w'' Z'' R'' hK sr'' st'=>q s' a' w'' Z'' R'' hK sr'' (h4.trans st')
theorem ER (hP:E.P=E0.P) (hG:E.G=E0.G){f:Operand}{args:Array Operand}{tys:Array TypeId}{t':TypeId}{pos:String}{af:Array Edge}{g:Option (Nat×Bool)}(ht:T hp (bld 103 p bs::L)) (hn:decide (0 < s.length)=true) (hc:Du 1 (bs.length + s.length)=true) (hr:rest=⟨some d,.call ⟨.value f,args,tys⟩,t',pos,af,g⟩::rest') (hw:BS ops (Fr n l) ⟨some d,.call ⟨.value f,args,tys⟩,t',pos,af,g⟩=some true)
  (hf:opA E (Fr n l) f=some (.fn 71 [] [])) (ha:F3 (opA E (Fr n l)) args.toList=some [p,.st s]) (k:∀ hp',T hp' (bld 103 p (bs++s)::L)->RunL E cx ops rest' ⟨Fr n ((d,.tp [.v (.int .i64 (s.length:Int)),.v .nilIface])::l),hp'⟩ K):RunL E cx ops rest ⟨Fr n l,hp⟩ K:=by
 have hne:bs++s≠[]:=fun e=>by
  have:=of_decide_eq_true hn
  have hs:s=[]:=(List.append_eq_nil_iff.1 e).2
  subst hs; simp at this
 rcases Pg ht with ⟨rfl,hT⟩ | ⟨hb,e,hT⟩
 ·obtain ⟨h',hwk,hT'⟩:=Ql (E:=E) (fr:=Fr n l) hT
  refine Rm hwk ?_
  have hv:B8 s=some ((s.length:Int),[]++Bx s):=by
   unfold B8 CI
   simp only [OS]
   rw [if_pos (by rw [HA]; exact hc)]
  refine G9 (e:=BU) hP hG C9 rfl rfl (fid:=71) (caps:=[]) (xs:=[p,.st s]) (fn:=Tryz.f71) (c:=DU) (Out:=fun v h'=>∃ (z0:AV),v = .tp [.v (.int .i64 (s.length:Int)),.v .nilIface]/\T h' (cel p 2 103 (.ag [p,z0])::own_ (ocL 1 5 (ocV (cdK .u8))) z0 ([]++Bx s)::L)) hr hw hf ha (by kernel_rfl) (by kernel_rfl) (by show 2<=19; decide) (Ez p s _ hv hT') ?_
  rintro xx hp' ⟨z,hq,hT2⟩; subst xx
  refine k hp' (OW (e:=z) hne ?_)
  exact hT2
 ·have hv:B3 bs s=some ((s.length:Int),Bx bs++Bx s):=by
   unfold B3 CD
   simp only [OS]
   rw [if_pos (by rw [HA,HA]; exact hc)]
  refine G9 (e:=BR) hP hG C3 rfl rfl (fid:=71) (caps:=[]) (xs:=[p,.st s]) (fn:=Tryz.f71) (c:=DF) (Out:=fun v h'=>∃ (z0:AV),v = .tp [.v (.int .i64 (s.length:Int)),.v .nilIface]/\T h' (cel p 2 103 (.ag [p,z0])::own_ (ocL 1 5 (ocV (cdK .u8))) z0 (Bx bs++Bx s)::L)) hr hw hf ha (by kernel_rfl) (by kernel_rfl) (by show 2<=19; decide) (Ee p e bs s _ hv hT) ?_
  rintro xx hp' ⟨z,hq,hT2⟩; subst xx
  refine k hp' (OW (e:=z) hne ?_)
  rw [PD]
  exact hT2
theorem M5 (hP:E.P=E0.P) (hG:E.G=E0.G){f:Operand}{args:Array Operand}{tys:Array TypeId}{t':TypeId}{pos:String}{af:Array Edge}{g:Option (Nat×Bool)}(ht:T hp (bld 103 p bs::L)) (hk:okB bs=true) (hr:rest=⟨some d,.call ⟨.value f,args,tys⟩,t',pos,af,g⟩::rest') (hw:BS ops (Fr n l) ⟨some d,.call ⟨.value f,args,tys⟩,t',pos,af,g⟩=some true)
  (hf:opA E (Fr n l) f=some (.fn 74 [] [])) (ha:F3 (opA E (Fr n l)) args.toList=some [p]) (k:∀ hp',T hp' L->RunL E cx ops rest' ⟨Fr n ((d,.st bs)::l),hp'⟩ K):RunL E cx ops rest ⟨Fr n l,hp⟩ K:=by
 rcases Pg ht with ⟨rfl,hT⟩ | ⟨hb,e,hT⟩
 ·refine G9 (e:=CG) hP hG Dn rfl rfl (fid:=74) (caps:=[]) (xs:=[p]) (fn:=Tryz.f74) (c:=Dy) (Out:=fun v h'=>v = .st []/\T h' (cel p 2 103 (.ag [.v (.pointer none),.v (.slice none 0 0)])::L)) hr hw hf ha (by kernel_rfl) (by kernel_rfl) (by show 1<=14; decide) (Fn p [] rfl hT) ?_
  rintro xx hp' ⟨hq,hT2⟩; subst xx
  exact k hp' hT2.drop
 ·have hlen:0 < bs.length:=by
   cases bs with
   | nil=>exact absurd rfl hb
   | cons a r=>simp
  have hv:Cb bs=some bs:=by
   unfold Cb
   rw [if_pos (by rw [HA]; simpa using hlen),if_pos (by simpa using hlen),if_pos hk]
  refine G9 (e:=CM) hP hG Dw rfl rfl (fid:=74) (caps:=[]) (xs:=[p]) (fn:=Tryz.f74) (c:=D1) (Out:=fun v h'=>v = .st bs/\T h' (cel p 2 103 (.ag [p,e])::L)) hr hw hf ha (by kernel_rfl) (by kernel_rfl) (by show 1<=14; decide) (F5 p e bs _ hv hT) ?_
  rintro xx hp' ⟨hq,hT2⟩; subst xx
  exact k hp' hT2.drop
end
end Go.Proofs.YtiphapnckldpbaaGreatDoor
