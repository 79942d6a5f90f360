/- Lemmas for the proof. -/
import Derived.Test.YtlalcoehgkmhlaaGreatDoorCourtTurnsM1
import Derived.Test.YtlalcoehgkmhlaaGreatDoorCourtTurnsM2
import Derived.OpenShut
import Derived.Test.YtlalcoehgkmhlaaGreatDoorCards
import Derived.Test.YtlalcoehgkmhlaaGreatDoorTie
import Derived.WalkKit
import Derived.ProofKit
import Derived.Deep.DeepHandedRow
import Derived.Lib.LaidTab
import Derived.RecoverIn
import Derived.Shelf.Strings.Search1
import Derived.Shelf.Strings.Count
set_option maxHeartbeats 4000000
set_option maxRecDepth 100000
namespace Go.Proofs.YtlalcoehgkmhlaaGreatDoor
open Go.RowKit
def AFs:AV->Bool
 | .ag _=>false
 | _=>true
/-- As Sem, but the numbers of the blocks are kept, and a range over a function may be under way. -/
def SemY (E:Env) (cx:Cx) (c:Code) (s:St) (Q:Ex->St->Prop):Prop :=
 ∀ (ro:Option Nat) (base:Bs) (Qm:Exit->Act->World->Prop) (a:Act) (w:World) (Z:Nat->Prop) (R:List RI),(cx.inR=false->ro=none)->SR E base w Z R s a->YI cx w Z R s.hp ->
  (∀ e s' a' w' Z' R',Q e s'->SR E base w' Z' R' s' a'->Step w Z R s.hp w' Z' R' s'.hp->Qm (ADF e) a' w')->c.wpIn (Fw ro) 0 E.P Qm a w
def SemYN (E:Env) (cx:Cx) (c:Code) (n:Nat) (s:St) (Q:Ex->St->Prop):Prop :=
 ∀ (ro:Option Nat) (base:Bs) (Qm:Exit->Act->World->Prop) (a:Act) (w:World) (Z:Nat->Prop) (R:List RI),(cx.inR=false->ro=none)->SR E base w Z R s a->YI cx w Z R s.hp ->
  (∀ e s' a' w' Z' R',Q e s'->SR E base w' Z' R' s' a'->Step w Z R s.hp w' Z' R' s'.hp->Qm (ADF e) a' w')->Code.roundsIn (Fw ro) 0 E.P c Qm n a w
def RunY (E:Env) (cx:Cx) (ops:Array Oper) (rest:List Oper) (s:St) (K:St->Prop):Prop :=
 ∀ (ro:Option Nat) (base:Bs) (Q:Exit->Act->World->Prop) (a:Act) (w:World) (Z:Nat->Prop) (R:List RI),(cx.inR=false->ro=none)->SR E base w Z R s a->YI cx w Z R s.hp ->
  (∀ s' a' w' Z' R',K s'->SR E base w' Z' R' s' a'->Step w Z R s.hp w' Z' R' s'.hp->Q .normal a' w')->wpListIn (Fw ro) 0 E.P ops Q rest a w
/-- A state that says less of the same worlds; the numbers are kept. -/
def WkY (E:Env) (s s':St):Prop:=∀ base w Z R a,SR E base w Z R s a->∃ Z' R',SR E base w Z' R' s' a/\Step w Z R s.hp w Z' R' s'.hp
section
variable {E:Env}{cx:Cx}{ops:Array Oper}{pre rest rest':List Oper}{s s1:St}{K:St->Prop}{n m:Nat}{l l':List (Nat×AV)}{hp hp':Hp}{Q Q':Ex->St->Prop}{id:Nat}{c c':Code}
theorem SemY.skip (q:Q .normal s):SemY E cx .skip s Q:=fun _ _ _ a w Z R _ h2 _ k=>wpIn_skip (k .normal s a w Z R q h2 (Step.refl _ _ _ _))
theorem SemY.exit {id:Nat}(q:Q (.exit id) s):SemY E cx (.exit id) s Q:=fun _ _ _ a w Z R _ h2 _ k=>wpIn_exit (k (.exit id) s a w Z R q h2 (Step.refl _ _ _ _))
theorem SemY.ret (q:Q .ret s):SemY E cx .ret s Q:=fun _ _ _ a w Z R _ h2 _ k=>wpIn_ret (k .ret s a w Z R q h2 (Step.refl _ _ _ _))
theorem AX (h:SemY E cx c s fun e s'=>match e with | .normal=>SemY E cx c' s' Q | e=>Q e s'):SemY E cx (.seq c c') s Q:=by
 intro ro base Qm a w Z R h1 h2 h3 k
 refine wpIn_seq (h ro base _ a w Z R h1 h2 h3 fun e s' a' w' Z' R' hQ sr st=>?_)
 cases e with
 | normal=>exact hQ ro base Qm a' w' Z' R' h1 sr (h3.step h2.hh st) fun e2 s2 a2 w2 Z2 R2 hQ2 sr2 st2=>k e2 s2 a2 w2 Z2 R2 hQ2 sr2 (st.trans st2)
 | exit id=>exact k _ s' a' w' Z' R' hQ sr st
 | ret=>exact k _ s' a' w' Z' R' hQ sr st
theorem SemY.cond_true {x:Operand}(hx:opA E s.fr x=some (.v (.bool true))) (h:SemY E cx c s Q):SemY E cx (.cond x c c') s Q :=
 fun ro base Qm a w Z R h1 h2 h3 k=>wpIn_cond_true (opA_vr h2 _ _ hx).v_inv (h ro base Qm a w Z R h1 h2 h3 k)
theorem SemY.cond_false {x:Operand}(hx:opA E s.fr x=some (.v (.bool false))) (h:SemY E cx c' s Q):SemY E cx (.cond x c c') s Q :=
 fun ro base Qm a w Z R h1 h2 h3 k=>wpIn_cond_false (opA_vr h2 _ _ hx).v_inv (h ro base Qm a w Z R h1 h2 h3 k)
theorem Bo {x:Operand}{b:Bool}(hx:opA E s.fr x=some (.v (.bool b))) (h:b=true->SemY E cx c s Q) (h':b=false->SemY E cx c' s Q):SemY E cx (.cond x c c') s Q:=by
 cases b with
 | true=>exact .cond_true hx (h rfl)
 | false=>exact .cond_false hx (h' rfl)
theorem BZ {id:Nat}(h:SemY E cx c s fun e s'=>match e with | .exit id'=>if id'=id then Q .normal s' else Q (.exit id') s' | e=>Q e s'):SemY E cx (.block id c) s Q:=by
 intro ro base Qm a w Z R h1 h2 h3 k
 refine wpIn_block (h ro base _ a w Z R h1 h2 h3 fun e s' a' w' Z' R' hQ sr st=>?_)
 cases e with
 | normal=>exact k _ s' a' w' Z' R' hQ sr st
 | exit id' =>
  show if id'=id then Qm .normal a' w' else Qm (.exit id') a' w'
  simp only at hQ
  split at hQ
  ·next h=>rw [if_pos h]; exact k .normal s' a' w' Z' R' hQ sr st
  ·next h=>rw [if_neg h]; exact k _ s' a' w' Z' R' hQ sr st
 | ret=>exact k _ s' a' w' Z' R' hQ sr st
theorem SemY.loop (h:SemYN E cx c n s Q):SemY E cx (.loop c) s Q :=
 fun ro base Qm a w Z R h1 h2 h3 k=>wpIn_loop_rounds n (h ro base Qm a w Z R h1 h2 h3 k)
theorem D2 (h:SemY E cx c s fun e s'=>match e with | .normal=>SemYN E cx c n s' Q | e=>Q e s'):SemYN E cx c (n + 1) s Q:=by
 intro ro base Qm a w Z R h1 h2 h3 k
 show c.wpIn (Fw ro) 0 E.P (Exit.then (Code.roundsIn (Fw ro) 0 E.P c Qm n) Qm) a w
 refine h ro base _ a w Z R h1 h2 h3 fun e s' a' w' Z' R' hQ sr st=>?_
 cases e with
 | normal=>exact hQ ro base Qm a' w' Z' R' h1 sr (h3.step h2.hh st) fun e2 s2 a2 w2 Z2 R2 hQ2 sr2 st2=>k e2 s2 a2 w2 Z2 R2 hQ2 sr2 (st.trans st2)
 | exit id=>exact k _ s' a' w' Z' R' hQ sr st
 | ret=>exact k _ s' a' w' Z' R' hQ sr st
theorem SemY.mono (h:SemY E cx c s Q) (hq:∀ e s,Q e s->Q' e s):SemY E cx c s Q' :=
 fun ro base Qm a w Z R h1 h2 h3 k=>h ro base Qm a w Z R h1 h2 h3 fun e s' a' w' Z' R' hQ=>k e s' a' w' Z' R' (hq e s' hQ)
theorem WkY.refl:WkY E s s:=fun _ _ Z R _ h=>⟨Z,R,h,Step.refl _ _ _ _⟩
theorem WkY.trans {s2:St}(h:WkY E s s1) (h':WkY E s1 s2):WkY E s s2:=fun base w Z R a k =>
 let ⟨Z1,R1,k1,st1⟩:=h base w Z R a k
 let ⟨Z2,R2,k2,st2⟩:=h' base w Z1 R1 a k1
 ⟨Z2,R2,k2,st1.trans st2⟩
theorem ABP (h:XV l l'=Xs l'):WkY E ⟨Fr n l,hp⟩ ⟨Fr n l',hp⟩:=fun base w Z R a sr=>by
 refine ⟨Z,R,⟨sr.hh,⟨?_,fun t x hx=>sr.fr.2 t x ?_⟩,sr.mks,sr.gl,sr.bs⟩,Step.refl _ _ _ _⟩
 ·rw [Jy]; have:=sr.fr.1; rw [Jy] at this; exact this
 ·rw [JE] at hx ⊢
  split at hx
  ·next ht=>rw [if_pos ht]; injection hx with hx; rw [lk_mem h hx]
  ·cases hx
theorem WkY.f1 {E:Env}{n:Nat}{l l':List (Nat×AV)}{hp:Hp}(h:XV l l'=Xs l':=by kernel_rfl):WkY E ⟨Fr n l,hp⟩ ⟨Fr n l',hp⟩:=ABP h
theorem Lt (hw:WkY E s s1) (h:SemY E cx c s1 Q):SemY E cx c s Q:=by
 intro ro base Qm a w Z R h1 h2 h3 k
 obtain ⟨Z',R',h2',st⟩:=hw base w Z R a h2
 exact h ro base Qm a w Z' R' h1 h2' (h3.step h2.hh st) fun e s' a' w' Z2 R2 hQ sr st2=>k e s' a' w' Z2 R2 hQ sr (st.trans st2)
theorem CJ (hw:WkY E s s1) (h:SemYN E cx c n s1 Q):SemYN E cx c n s Q:=by
 intro ro base Qm a w Z R h1 h2 h3 k
 obtain ⟨Z',R',h2',st⟩:=hw base w Z R a h2
 exact h ro base Qm a w Z' R' h1 h2' (h3.step h2.hh st) fun e s' a' w' Z2 R2 hQ sr st2=>k e s' a' w' Z2 R2 hQ sr (st.trans st2)
theorem SemY.fr (h:XV l l'=Xs l') (k:SemY E cx c ⟨Fr n l',hp⟩ Q):SemY E cx c ⟨Fr n l,hp⟩ Q:=Lt (ABP h) k
theorem RunY.done (hr:rest=[]) (k:K s):RunY E cx ops rest s K:=by
 subst hr
 exact fun ro base Q a w Z R _ sr _ q=>q s a w Z R k sr (Step.refl _ _ _ _)
theorem Sr (hE:EnvOk E) (n:Nat):∀ {pre:List Oper}{s:St},KU E (evC E n) ⟨none,false⟩ ops pre s=some s1->RunY E cx ops rest s1 K->RunY E cx ops (pre++rest) s K
 | [],s,e,k=>by injection e with e; subst e; exact k
 | o::pre,s,e,kk=>by
  intro ro base Q a w Z R hro sr hy q
  show wpListIn (Fw ro) 0 E.P ops Q (o::(pre++rest)) a w
  unfold KU at e
  unfold wpListIn
  split at e
  ·cases e
  ·next hw =>
   rw [if_neg (by rw [wantedA_eq sr hw]; simp)]
   exact ⟨fun _ _=>trivial,Sr hE n e kk ro base Q _ w Z R hro (sr.put undef_vr) hy q⟩
  ·next hw =>
   rw [if_pos (wantedA_eq sr hw)]
   split at e
   ·next s2 hs2=>exact lw_wpIn ro (op1_lw hE (code_sound hE n).1 hs2 sr fun a' w' Z' R' sr' st=>Sr hE n e kk ro base Q a' w' Z' R' hro sr' (hy.step sr.hh st) fun s'' a'' w'' Z'' R'' hK sr'' st'=>q s'' a'' w'' Z'' R'' hK sr'' (st.trans st'))
   ·cases e
theorem AAK (hE:EnvOk E) (m:Nat) (h:KU E (evC E 0) ⟨none,false⟩ ops (rest.take m) s=some s1) (k:RunY E cx ops (rest.drop m) s1 K):RunY E cx ops rest s K:=by
 have:=Sr hE 0 h k
 rwa [List.take_append_drop] at this
theorem ADR (hE:EnvOk E) (m:Nat){s:St}(l:List (Nat×AV)) (hp:Hp) (h:Vr (KU E (evC E 0) ⟨none,false⟩ ops (rest.take m) s) l=some (n,xs2 l,hp)) (k:RunY E cx ops (rest.drop m) ⟨Fr n l,hp⟩ K):RunY E cx ops rest s K:=by
 obtain ⟨fr,h1,h2,h3⟩:=KP h
 refine AAK hE m h1 ?_
 exact fun ro base Q a w Z R hro sr hy q=>k ro base Q a w Z R hro (sr.forget h2 h3) hy q
theorem RunY.one (hE:EnvOk E) (n:Nat){o:Oper}(hr:rest=o::rest') (h:KU E (evC E n) ⟨none,false⟩ ops [o] s=some s1) (k:RunY E cx ops rest' s1 K):RunY E cx ops rest s K:=by
 subst hr
 exact Sr hE n (pre:=[o]) h k
theorem RunY.call {α β:Type}{s:Cs α}{F:α->Option β}{er:β->AV}{a:α}{b:β}{xs:List AV}(hE:EnvOk E){d:Nat}{f:Operand}{args:Array Operand}{tys:Array TypeId}{ty:TypeId}{pos:String}{af:Array Edge}{g:Option (Nat×Bool)}{fid:FuncId}(hr:rest=⟨some d,.call ⟨.value f,args,tys⟩,ty,pos,af,g⟩::rest') (hw:DS ops (Fr n l) ⟨some d,.call ⟨.value f,args,tys⟩,ty,pos,af,g⟩=some true)
  (hf:opA E (Fr n l) f=some (.fn fid [] [])) (hi:E.I fid=false) (hX:E.X fid=some (ES s F er)) (ha:MR (opA E (Fr n l)) args.toList=some xs) (hv:Sns hp s xs a) (hok:xs.all F3=true\/Gk (er b)=true) (hF:F a=some b) (k:RunY E cx ops rest' ⟨Fr n ((d,er b)::l),hp⟩ K):RunY E cx ops rest ⟨Fr n l,hp⟩ K :=
 RunY.one hE 0 hr (Xa hw hf hi hX ha hv hok hF) k
theorem SemY.region (h:RunY E cx ops ops.toList s fun s'=>Q .normal s'):SemY E cx (.region id ops false) s Q:=by
 intro ro base Qm a w Z R h1 h2 h3 kk
 exact wpIn_region_list (h ro base _ a w Z R h1 h2 h3 fun s' a' w' Z' R' hq sr st=>kk .normal s' a' w' Z' R' hq sr st)
end
def pz:List Nat->List AV->List (Nat×AV)->List (Nat×AV)
 | p::ps,x::xs,l=>pz ps xs ((p,x)::l)
 | _,_,l=>l
theorem YJ {n:Nat}:∀ {ps:List Nat}{xs:List AV}{l:List (Nat×AV)},Rp (Fr n l) ps xs=Fr n (pz ps xs l)
 | [],_,_=>by unfold Rp pz; rfl
 | _::_,[],_=>by unfold Rp pz; rfl
 | p::ps,x::xs,l=>by
  unfold Rp pz
  rw [show (Fr n l).set p (some x)=Fr n ((p,x)::l) from FY n l p x]
  exact YJ
/-- A function, entered: what its body does. -/
theorem Vq {e:Env}(he:EnvOk e){y:Option YC}{f:FuncId}{fn:Func}{c:Code}(hfn:e.fn f=some fn) (hc:fn.body=some c){args:List AV}(hle:args.length<=fn.ntmps){hp:Hp}{Out:AV->Hp->Prop}
  (sem:SemY e ⟨y,false⟩ c ⟨Fr fn.ntmps (A6 0 args),hp⟩ fun x s'=>(x = .normal\/x = .ret)/\∃ ys,EZ e.P s'.fr s'.hp fn.results.toList=some ys/\Out (Ee ys) s'.hp)
  {w:World} {Z:Nat->Prop} {R:List RI} {us:List Value} (hh:HR w Z R hp) (hv:VRs w Z R args us) (hg:GI e w Z) (hy:YI ⟨y,false⟩ w Z R hp) :
  Ret e.P f us.toArray w fun v w'=>∃ Z' R' x h',Out x h'/\HR w' Z' R' h'/\VR w' Z' R' x v/\Step w Z R hp w' Z' R' h':=by
 obtain ⟨hff,hcall,_⟩:=he.fn f fn hfn
 refine callsIn_wide.1 (callsIn_of_wp_marks (F:=Fw none) (n:=0) hff hc trivial ?_)
 have hul:us.length=args.length:=hv.len
 have hsr:SR e (.of w.heap.size) w Z R ⟨Fr fn.ntmps (A6 0 args),hp⟩ { tmps:=us.toArray++Array.replicate (fn.ntmps - us.toArray.size) undef,defers:=[] }:=by
  refine ⟨hh,⟨by rw [Jy]; simp; omega,fun t x hx=>?_⟩,rfl,hg,Nat.le_refl _⟩
  rw [JE] at hx
  split at hx
  ·injection hx with hx
   obtain ⟨j,h1,h2⟩:=TY _ 0 t x hx
   rw [Nat.zero_add] at h1
   subst h1
   obtain ⟨u,hu1,hu2⟩:=hv.get h2
   have e0:us.toArray++Array.replicate (fn.ntmps - us.toArray.size) undef=(us++List.replicate (fn.ntmps - us.length) undef).toArray:=by simp
   rw [e0,Array.getD_eq_getD_getElem?,List.getElem?_toArray,List.getElem?_append_left (List.getElem?_eq_some_iff.1 hu1).1,hu1]
   exact hu2
  ·cases hx
 refine sem none (.of w.heap.size) _ _ w Z R (fun _=>rfl) hsr hy fun x s' a' w' Z' R' hQ sr' st=>?_
 obtain ⟨hex,ys,hys,hO⟩:=hQ
 have hl:=Lp (base:= .of w.heap.size) rfl (E:=e) (w:=w') (a:=a') (fn:=fn) (S:=fun v w''=>∃ Z' R' x h',Out x h'/\HR w'' Z' R' h'/\VR w'' Z' R' x v/\Step w Z R hp w'' Z' R' h') hys (fun w'' u g1 g2 g3 g4 g5 g6 g7=>⟨Z',R',_,_,hO,g6,g7,⟨g2.trans st.os,g3.trans st.tape,g4.trans st.output,by rw [g1]; exact st.size,fun c hc hn=>(g5 c hc).trans (st.block c hc hn),st.own_,st.z,st.z',st.r⟩⟩) (D:=a'.defers) (w1:=w') sr' rfl rfl rfl rfl (fun _ _=>rfl)
 rcases hex with rfl | rfl
 ·exact hl
 ·exact hl
section
variable {E:Env}{cx:Cx}{ops:Array Oper}{rest rest':List Oper}{K:St->Prop}{n:Nat}{l:List (Nat×AV)}{hp:Hp}
/-- Only the first m blocks are kept. -/
theorem AAJ {w0 w:World}{Z0 Z:Nat->Prop}{R0 R:List RI}{h0 h h':Hp}{m:Nat}(st:Step w0 Z0 R0 h0 w Z R h) (hl0:R0.length=h0.length) (hm0:h0.length<=m) (hh:HR w Z R h) (hm:(Nat.ble m h.length&&Nat.ble h.length 1000000000)=true) (hk:HpUp (List.range m) h (List.range m) h') :
  HR w Z (Vd (List.range m) R) h'/\Step w0 Z0 R0 h0 w Z (Vd (List.range m) R) h':=by
 simp only [Bool.and_eq_true] at hm
 have hm1:=Nat.le_of_ble_eq_true hm.1
 have hb:=Nat.le_of_ble_eq_true hm.2
 have hlen:=hh.len
 obtain ⟨k1,k2⟩:=hk.at_
 rw [List.length_range] at k1
 have hι:∀ i ∈ List.range m,i < R.length:=fun i hi=>by have:=List.mem_range.1 hi; omega
 have hbR:R.length<=1000000000:=by omega
 have hget:∀ j,j < m->(Vd (List.range m) R)[j]? = R[j]?:=fun j hj=>by
  unfold Vd
  rw [List.getElem?_map,List.getElem?_range hj,Option.map_some,List.getD_eq_getElem?_getD,List.getElem?_eq_getElem (by omega:j < R.length)]; rfl
 have hrange:∀ (j b:Nat),(List.range m)[j]? = some b->j < m/\b=j:=fun j b hj=>by
  obtain ⟨h1,h2⟩:=List.getElem?_eq_some_iff.1 hj
  rw [List.length_range] at h1
  rw [List.getElem_range] at h2
  exact ⟨h1,h2.symm⟩
 have hown:∀ c,own (Vd (List.range m) R) h' c->own R h c:=fun c ⟨j,B,r,h1,h2,h3,h4⟩=>by
  obtain ⟨b,q1,q2,_⟩:=k2 j B h1
  obtain ⟨hj,rfl⟩:=hrange _ _ q1
  rw [hget b hj] at h3
  exact ⟨b,_,r,q2,h2,h3,h4⟩
 refine ⟨⟨by rw [k1]; simp [Vd],fun j B hB=>?_,fun j j' B B' r r' hB hf hB' hf' h1 h2 e=>?_,hh.zlt⟩,⟨st.os,st.tape,st.output,st.size,st.block,fun c hc=>st.own_ c (hown c hc),st.z,st.z',fun i x hi=>?_⟩⟩
 ·obtain ⟨b,q1,q2,q3⟩:=k2 j B hB
  obtain ⟨hj,rfl⟩:=hrange _ _ q1
  obtain ⟨r,arr,us,g1,g2,g3,g4,g5,g6,g7,g8,g9,g10⟩:=hh.blk b _ q2
  refine ⟨r,arr,us,(hget b hj).trans g1,g2,g3,g4,by simpa using g5,g6,g7,g8,⟨by have:=g9.len; simpa using this,fun i x u hx hu=>?_⟩,g10⟩
  exact ABH hι hbR (q3 x (List.mem_of_getElem? hx)) (g9.at_ i _ u (by simp [hx]) hu)
 ·obtain ⟨b,q1,q2,_⟩:=k2 j B hB
  obtain ⟨b',q1',q2',_⟩:=k2 j' B' hB'
  obtain ⟨hj,rfl⟩:=hrange _ _ q1
  obtain ⟨hj',rfl⟩:=hrange _ _ q1'
  rw [hget b hj] at h1
  rw [hget b' hj'] at h2
  exact hh.inj b b' _ _ r r' q2 hf q2' hf' h1 h2 e
 ·have:=(List.getElem?_eq_some_iff.1 hi).1
  rw [hget i (by omega)]
  exact st.r i x hi
/-- .. in the midst of such a body: what it made is dropped. -/
theorem RunY.inl (hP:E.P=E0.P) (hG:E.G=E0.G){e:Env}(he:EnvOk e) (heP:e.P=E0.P) (heG:e.G=E0.G){d:Nat}{f:Operand}{args:Array Operand}{tys:Array TypeId}{ty:TypeId}{pos:String}{af:Array Edge}{g:Option (Nat×Bool)}{fid:FuncId}{caps xs:List AV}{fn:Func}{c:Code}{Out:AV->Hp->Prop}(m:Nat) (hm0:hp.length=m) (hr:rest=⟨some d,.call ⟨.value f,args,tys⟩,ty,pos,af,g⟩::rest') (hw:DS ops (Fr n l) ⟨some d,.call ⟨.value f,args,tys⟩,ty,pos,af,g⟩=some true)
  (hf:opA E (Fr n l) f=some (.fn fid [] caps)) (ha:MR (opA E (Fr n l)) args.toList=some xs) (hfn:e.fn fid=some fn) (hc:fn.body=some c) (hle:(xs++caps).length<=fn.ntmps)
  (sem:SemY e ⟨none,false⟩ c ⟨Fr fn.ntmps (A6 0 (xs++caps)),hp⟩ fun x s'=>(x = .normal\/x = .ret)/\∃ ys,EZ e.P s'.fr s'.hp fn.results.toList=some ys/\Out (Ee ys) s'.hp)
  (k:∀ x h',Out x h'->∃ h'',(Nat.ble m h'.length&&Nat.ble h'.length 1000000000)=true/\HpUp (List.range m) h' (List.range m) h''/\(up (List.range m) x=x/\Ob x=true)/\RunY E cx ops rest' ⟨Fr n ((d,x)::l),h''⟩ K):RunY E cx ops rest ⟨Fr n l,hp⟩ K:=by
 obtain ⟨P,fns,G,X,I⟩:=E
 obtain ⟨P',fns',G',X',I'⟩:=e
 simp only at hP hG heP heG
 subst hP hG heP heG
 subst hr
 intro ro base Q a w Z R hro sr hy q
 have hρ:∀ o x,opA ⟨E0.P,fns,E0.G,X,I⟩ (Fr n l) o=some x->VR w Z R x (a.eval o):=fun o x e=>opA_vr sr o x e
 unfold wpListIn
 rw [if_pos (wantedA_eq sr hw)]
 refine lw_wpIn ro ?_
 have hvf:=hρ _ _ hf
 generalize hvq:a.eval f=vf at hvf
 cases hvf with
 | fn hl hl' hx hy' =>
  rename_i u1 u2
  have e1:u1=[]:=by simpa using hl
  subst e1
  obtain ⟨hff,hcall,_⟩:=he.fn fid fn hfn
  unfold Lw
  rw [IF (uf:=[]) (uc:=u2) rfl hvq rfl hcall w]
  simp only [List.nil_append]
  have hargs:VRs w Z R (xs++caps) (args.toList.map a.eval++u2):=(opds_vr hρ ha).append ⟨hl',hy'⟩
  refine Ret.mono (Vq he hfn hc hle sem sr.hh hargs sr.gl (fun y hy=>by cases hy)) fun v w' hS=>?_
  obtain ⟨Z',R',x,h',hO,h1,h2,st⟩:=hS
  obtain ⟨h'',hm,hk,⟨hx1,hx2⟩,kk⟩:=k x h' hO
  have hl1:R.length=hp.length:=sr.hh.len
  obtain ⟨j1,j2⟩:=AAJ st hl1 (Nat.le_of_eq hm0) h1 hm hk
  simp only [Bool.and_eq_true] at hm
  have hm1:=Nat.le_of_ble_eq_true hm.1
  have hm2:=Nat.le_of_ble_eq_true hm.2
  have hl2:=h1.len
  have hvx:VR w' Z' (Vd (List.range m) R') x v:=ABH (fun i hi=>by have:=List.mem_range.1 hi; omega) (by omega) hx2 (by rw [hx1]; exact h2)
  have sr':=(sr.step j1 j2).put (d:=some d) hvx
  rw [show P1 (⟨Fr n l,hp⟩:St).fr (some d) x=Fr n ((d,x)::l) from FY n l d _] at sr'
  exact kk ro base Q _ w' Z' _ hro sr' (hy.step sr.hh j2) fun s' a' w'' Z'' R'' hK sr'' st'=>q s' a' w'' Z'' R'' hK sr'' (j2.trans st')
/-- A yield: a round of the range that is under way. -/
theorem RunY.yield (hP:E.P=E0.P) (hG:E.G=E0.G){eb:Env}(hbP:eb.P=E0.P) (hbG:eb.G=E0.G){y:YC}(hcx:cx.y=some y) (hin:cx.inR=false){d:Nat}{f:Operand}{args:Array Operand}{tys:Array TypeId}{ty:TypeId}{pos:String}{af:Array Edge}{g:Option (Nat×Bool)}{xs:List AV}{K1:Hp->Prop}(hr:rest=⟨some d,.call ⟨.value f,args,tys⟩,ty,pos,af,g⟩::rest') (hw:DS ops (Fr n l) ⟨some d,.call ⟨.value f,args,tys⟩,ty,pos,af,g⟩=some true)
  (hf:opA E (Fr n l) f=some (.yl y.b)) (ha:MR (opA E (Fr n l)) args.toList=some xs) (hlen:xs.length=y.ps.length) {n0:Nat} {l0:List (Nat×AV)} (hfr:y.fr=Fr n0 l0)
  (hb:SemY eb ⟨none,true⟩ y.assign ⟨Fr n0 (pz y.ps xs l0),hp⟩ fun e s1=>e = .normal/\SemY eb ⟨none,true⟩ y.body s1 fun e s2=>e = .normal/\K1 s2.hp)
  (k:∀ h',K1 h'->RunY E cx ops rest' ⟨Fr n ((d,.v (.bool true))::l),h'⟩ K):RunY E cx ops rest ⟨Fr n l,hp⟩ K:=by
 obtain ⟨P,fns,G,X,I⟩:=E
 obtain ⟨P',fns',G',X',I'⟩:=eb
 simp only at hP hG hbP hbG
 subst hP hG hbP hbG
 subst hr
 intro ro base Q a w Z R hro sr hy q
 have hρ:∀ o x,opA ⟨E0.P,fns,E0.G,X,I⟩ (Fr n l) o=some x->VR w Z R x (a.eval o):=fun o x e=>opA_vr sr o x e
 unfold wpListIn
 rw [if_pos (wantedA_eq sr hw)]
 have hro':=hro hin
 subst hro'
 have hvs:=opds_vr hρ ha
 have hvf:=hρ _ _ hf
 have hyy:=hy
 obtain ⟨d1,d2,r,L,g1,g2,g3,g4,g5,g6,g7,g8,g9,g10⟩:=hy y hcx
 generalize hvq:a.eval f=vf at hvf
 cases hvf with
 | yl hr =>
  rename_i r'
  rw [g1] at hr
  injection hr with hr
  subst hr
  generalize hus:args.toList.map a.eval=us at hvs
  have hargs:args.map a.eval=us.toArray:=by
   apply Array.ext'
   rw [<-hus,Array.toList_map]
  have hps:us.toArray.size=L.params.size:=by rw [g7]; simp [hvs.len,hlen]
  have hrun:(execOp a.eval (⟨some d,.call ⟨.value f,args,tys⟩,ty,pos,af,g⟩:Oper)).run E0.P w = .ok (.round r.c L.fn ((L.params.zip us.toArray).foldl (fun tmps (t,a)=>tmps.setIfInBounds t a) L.tmps) L.assign L.body) w:=by
   simp only [execOp,resolve,hvq,hargs,Deferred.ofValue]
   rw [Sem.run_bind,Sem.run_pure]
   simp only [Result.andThen,invoke,Array.empty_append]
   exact run_yield g4 hps
  refine ⟨fun _ _=>trivial,?_⟩
  rw [show (Fw none).round=none from rfl,semAt_run none hrun (by simp),Oper.uponIn_round]
  refine ⟨(fun h=>by cases h),?_⟩
  refine roundIn_of_wpIn (F:=Fw none) trivial ?_
  rw [g8,g9]
  have hfr0:FrR w Z R (Rp y.fr y.ps xs) ((L.params.zip us.toArray).foldl (fun tmps (t,a)=>tmps.setIfInBounds t a) L.tmps):=by
   have:=Vs (ps:=y.ps) g10 hvs
   have e0:(L.params.zip us.toArray).foldl (fun tmps (t,a)=>tmps.setIfInBounds t a) L.tmps=(y.ps.zip us).foldl (fun tmps (x:Tmp×Value)=>tmps.setIfInBounds x.1 x.2) L.tmps:=by
    rw [g7,<-Array.foldl_toList]; simp
   rw [e0]; exact this
  rw [hfr,YJ] at hfr0
  have hlt:=OU g4
  refine hb (some r.c) (.of 0) _ { tmps:=_,defers:=[] } w Z R (fun h=>by cases h) ⟨sr.hh,hfr0,rfl,sr.gl,Nat.zero_le _⟩ (fun y hy=>by cases hy) fun e1 s1 a1 w1 Z1 R1 hQ1 sr1 st1=>?_
  obtain ⟨rfl,hb2⟩:=hQ1
  obtain ⟨p1,p2,p3⟩:=st1.other g4 g2 g3
  refine ⟨_,run_beginRound p1 g5,?_⟩
  have hlt1:=OU p1
  have hb1:∀ c,(Z1 c\/own R1 s1.hp c)->(w1.putObj r.c (.loop { L with state:= .busy })).heap[c]? = w1.heap[c]?:=fun c hc=>Jr (fun e=>by subst e; exact hc.elim p2 p3)
  have hh2:=sr1.hh.off (ER _ _ _) hb1
  refine hb2 (some r.c) (.of 0) _ a1 _ Z1 R1 (fun h=>by cases h) ⟨hh2,sr1.fr.off fun c hc=>hb1 c (.inl hc),?_,sr1.gl.off fun c hc=>hb1 c (.inl hc),Nat.zero_le _⟩ (fun y hy=>by cases hy) fun e2 s2 a2 w3 Z3 R3 hQ2 sr3 st3=>?_
  ·exact sr1.mks.put (Uv (by rw [p1]; intro e; cases e) sr1.mks)
  ·obtain ⟨rfl,hK1⟩:=hQ2
   have hput:(w1.putObj r.c (.loop { L with state:= .busy })).heap[r.c]? = some (.loop { L with state:= .busy }):=World.putObj_heap_same hlt1
   obtain ⟨q1,q2,q3⟩:=st3.other hput p2 p3
   have hlt3:=OU q1
   refine ⟨_,_,run_endRound none q1,?_⟩
   have hb3:∀ c,(Z3 c\/own R3 s2.hp c)->(w3.putObj r.c (.loop { { L with state:= .busy } with state:=if (none:Option Code).isNone then .ready else .done,pending:=none })).heap[c]? = w3.heap[c]?:=fun c hc=>Jr (fun e=>by subst e; exact hc.elim q2 q3)
   have hL:({ { L with state:= .busy } with state:=if (none:Option Code).isNone then .ready else .done,pending:=none }:Loop)=L:=by
    cases L; simp at g5 g6; subst g5 g6; rfl
   have stF:Step w Z R hp (w3.putObj r.c (.loop { { L with state:= .busy } with state:=if (none:Option Code).isNone then .ready else .done,pending:=none })) Z3 R3 s2.hp:=by
    refine ⟨?_,?_,?_,?_,fun c hc hn=>?_,fun c hc=>?_,fun c hc=>st3.z c (st1.z c hc),fun c hc=>?_,fun i q hq=>st3.r i q (st1.r i q hq)⟩
    ·exact st3.os.trans st1.os
    ·exact st3.tape.trans st1.tape
    ·exact st3.output.trans st1.output
    ·rw [ER]
     have:=st3.size
     rw [ER] at this
     exact Nat.le_trans st1.size this
    ·by_cases hcr:c=r.c
     ·subst hcr
      rw [World.putObj_heap_same hlt3,hL]
      exact g4.symm
     ·rw [Jr hcr]
      have hc1:c < w1.heap.size:=Nat.lt_of_lt_of_le hc st1.size
      have hno:¬ own R1 s1.hp c:=fun ho=>by
       rcases st1.own_ c ho with h1 | h1
       ·exact hn h1
       ·omega
      rw [st3.block c (by rw [ER]; exact hc1) hno,Jr hcr]
      exact st1.block c hc hn
    ·rcases st3.own_ c hc with h1 | h1
     ·exact st1.own_ c h1
     ·rw [ER] at h1; exact .inr (Nat.le_trans st1.size h1)
    ·rcases st3.z' c hc with h1 | h1 | h1
     ·exact st1.z' c h1
     ·rcases st1.own_ c h1 with h2 | h2
      ·exact .inr (.inl h2)
      ·exact .inr (.inr h2)
     ·rw [ER] at h1; exact .inr (.inr (Nat.le_trans st1.size h1))
   have sr':=(sr.step (sr3.hh.off (ER _ _ _) hb3) stF).put (d:=some d) (x:= .v (.bool true)) (u:= .bool true) (.v rfl)
   rw [show P1 (⟨Fr n l,hp⟩:St).fr (some d) (.v (.bool true))=Fr n ((d,.v (.bool true))::l) from FY n l d _] at sr'
   exact k s2.hp hK1 none base Q _ _ Z3 R3 hro sr' (hyy.step sr.hh stF) fun s' a' w'' Z'' R'' hK sr'' st'=>q s' a' w'' Z'' R'' hK sr'' (stF.trans st')
/-- A range over a function. -/
theorem Sem.range {cx:Cx}{Q:Ex->St->Prop}(hP:E.P=E0.P) (hG:E.G=E0.G){e:Env}(he:EnvOk e) (heP:e.P=E0.P) (heG:e.G=E0.G) (hin:cx.inR=false){f:Operand}{ps:Array Tmp}{assign body:Code}{gid:FuncId}{caps:List AV}{fn:Func}{c:Code}{Out:AV->Hp->Prop}(hd1:EX assign=true) (hd2:EX body=true)
  (hf:opA E (Fr n l) f=some (.fn gid [] caps)) (hfn:e.fn gid=some fn) (hc:fn.body=some c) (hle:(.yl hp.length::caps).length<=fn.ntmps)
  (sem:SemY e ⟨some ⟨hp.length,Fr n l,ps.toList,assign,body⟩,false⟩ c ⟨Fr fn.ntmps (A6 0 (.yl hp.length::caps)),hp++[none]⟩ fun x s'=>(x = .normal\/x = .ret)/\∃ ys,EZ e.P s'.fr s'.hp fn.results.toList=some ys/\Out (Ee ys) s'.hp)
  (k:∀ x h',Out x h'->Q .normal ⟨Fr n l,h'⟩):Sem E cx (.rangeFunc f ps assign body) ⟨Fr n l,hp⟩ Q:=by
 obtain ⟨P,fns,G,X,I⟩:=E
 obtain ⟨P',fns',G',X',I'⟩:=e
 simp only at hP hG heP heG
 subst hP hG heP heG
 intro ro base Qm a w Z R h1 sr h3 kk
 have hro:=h1 hin
 subst hro
 have hvf:VR w Z R (.fn gid [] caps) (a.eval f):=opA_vr sr _ _ hf
 generalize hva:a.eval f=va at hvf
 cases hvf with
 | fn hl hl' hx hy' =>
  rename_i uf uc
  have e1:uf=[]:=by simpa using hl
  subst e1
  refine wpIn_rangeFunc fun fnn _=>?_
  obtain ⟨hff,hcall,_⟩:=he.fn gid fn hfn
  obtain ⟨L,hL⟩:∃ L:Loop,L={ state:= .ready,pending:=none,fn:=fnn,tmps:=a.tmps,params:=ps,assign,body,defers:=w.heap.size }:=⟨_,rfl⟩
  obtain ⟨w1,hw1⟩:∃ w1,w1=(w.alloc (.deferred (some []))).alloc (.loop L):=⟨_,rfl⟩
  have hsz:w1.heap.size=w.heap.size + 2:=by rw [hw1]; simp
  have hg1:w.grownBy w1 none:=by
   rw [hw1]
   refine ⟨rfl,rfl,rfl,by simp; omega,fun c hc _=>?_⟩
   rw [heap_alloc_old _ _ (by simp; omega),heap_alloc_old _ _ hc]
  have hmk:w1.heap[w.heap.size]? = some (.deferred (some [])):=by
   rw [hw1,heap_alloc_old _ _ (by simp)]; exact heap_alloc_new w _
  have hlp:w1.heap[w.heap.size + 1]? = some (.loop L):=by
   rw [hw1]
   have:=heap_alloc_new (w.alloc (.deferred (some []))) (.loop L)
   simpa using this
  have hh1:=sr.hh.keep (w':=w1) hg1.size (fun c hc=>hg1.block c hc (by simp))
  have st0:Step w Z R hp w1 Z R hp:=⟨hg1.os,hg1.tape,hg1.output,hg1.size,fun c hc _=>hg1.block c hc (by simp),fun _ h=> .inl h,fun _ h=>h,fun _ h=> .inl h,fun _ _ h=>h⟩
  obtain ⟨hh2,st2,hlast,hown2⟩:=hh1.dead (r:=⟨w.heap.size + 1,0,0⟩)
  have st02:=st0.trans st2
  have hnz:∀ c,w.heap.size<=c->¬ Z c:=fun c hc hz=>by have:=sr.hh.zlt c hz; omega
  have hno:∀ c,w.heap.size<=c->¬ own (R++[⟨w.heap.size + 1,0,0⟩]) (hp++[none]) c:=fun c hc ho=>by
   obtain ⟨b,B,r,q1,q2,q3,rfl⟩:=hown2 c ho
   have:=sr.hh.rltL q1 q3; omega
  have hvs:VRs w1 Z (R++[⟨w.heap.size + 1,0,0⟩]) (.yl hp.length::caps) (Value.func (.yield (w.heap.size + 1)) #[] #[]::uc) :=
   .cons (.yl hlast) (VRs.step ⟨hl',hy'⟩ sr.hh st02)
  have hy:YI ⟨some ⟨hp.length,Fr n l,ps.toList,assign,body⟩,false⟩ w1 Z (R++[⟨w.heap.size + 1,0,0⟩]) (hp++[none]):=by
   intro y hy
   injection hy with hy
   subst hy
   exact ⟨hd1,hd2,_,L,hlast,hnz _ (by simp),hno _ (by simp),hlp,by rw [hL],by rw [hL],by rw [hL],by rw [hL],by rw [hL],by rw [hL]; exact sr.fr.step sr.hh st02⟩
  have hr:=Vq he hfn hc hle sem hh2 hvs (sr.gl.step sr.hh st02) hy
  refine ⟨w.heap.size + 1,[YB w.heap.size],w1,{ target:= .fn (.func gid) uc.toArray,args:=([]:List Value).toArray++#[Value.func (.yield (w.heap.size + 1)) #[] #[]] },w1,gid,(Value.func (.yield (w.heap.size + 1)) #[] #[]::uc).toArray,w1,?_,?_,fun _ _=>trivial,?_,(fun h=>by cases h),?_⟩
  ·rw [hw1,hL]; exact run_enterLoop_outer fnn a.tmps ps assign body
  ·simp [resolve,hva,Deferred.ofValue]
   rfl
  ·simp [invoke,hcall.run]
  ·refine J1 none _ (WD hr fun v w3 hS=>?_)
   obtain ⟨Z3,R3,x3,h',hO,hh3,_,st3⟩:=hS
   obtain ⟨p1,p2,p3⟩:=st3.other hlp (hnz _ (by simp)) (hno _ (by simp))
   obtain ⟨m1,m2,m3⟩:=st3.other hmk (hnz _ (Nat.le_refl _)) (hno _ (Nat.le_refl _))
   refine ⟨_,_,run_endLoop p1 (by rw [hL]; simp),?_⟩
   have hpend:L.pending=none:=by rw [hL]
   split
   rotate_left
   ·next hc=>rw [hpend] at hc; cases hc
   have hb:∀ c,(Z3 c\/own R3 h' c)->(w3.putObj (w.heap.size + 1) (.loop { L with state:= .exhausted })).heap[c]? = w3.heap[c]?:=fun c hc=>Jr (fun e=>by subst e; exact hc.elim p2 p3)
   have st03:=st02.trans st3
   refine kk .normal ⟨Fr n l,h'⟩ _ _ Z3 R3 (k x3 h' hO) ⟨hh3.off (ER _ _ _) hb,(sr.fr.step sr.hh st03).off fun c hc=>hb c (.inl hc),?_,(sr.gl.step sr.hh st03).off fun c hc=>hb c (.inl hc),?_⟩ (Step.w ⟨st03.os,st03.tape,st03.output,?_,fun c hc hn=>?_,st03.own_,st03.z,st03.z',st03.r⟩)
   ·refine .inr ⟨⟨w.heap.size,sr.bs,rfl,(Jr (by omega)).trans m1,m2,m3,fun d hd e=>?_⟩,?_⟩
    ·exact Uv (fun e=>by have:=OU e; omega) sr.mks d hd e
    ·exact Mks.put (sr.mks.step st03) (Uv (fun e=>by have:=OU e; omega) sr.mks)
   ·rw [ER]; exact Nat.le_trans sr.bs st03.size
   ·rw [ER]; exact st03.size
   ·rw [Jr (by omega)]; exact st03.block c hc hn
end
/-- The last of a list. -/
def csE {α:Type}(c:Cd α):Cs α where
 enc x:=[c.enc x]
 dec l:=match l with
  | [a]=>c.dec a
  | _=>none
 de x:=c.de x
 vr:=fun {w Z a x u} h hv=>by
  split at h
  ·next a =>
   obtain ⟨u,us,rfl,k1,k2⟩:=hv.head
   have:us=[]:=by have:=k2.len; simpa using this
   subst this
   exact .cons (c.vr h k1) .nil
  ·cases h
 nr x:=by simp [c.nr]
/-- Lists one behind the other; the first has n values. -/
def csG {α β:Type}(n:Nat) (s:Cs α) (hn:∀ x,(s.enc x).length=n) (t:Cs β):Cs (α×β) where
 enc x:=s.enc x.1++t.enc x.2
 dec l:=(s.dec (l.take n)).bind fun x=>(t.dec (l.drop n)).map fun y=>(x,y)
 de x:=by
  rw [List.take_left' (hn x.1),List.drop_left' (hn x.1),s.de,t.de]; rfl
 vr:=fun {w Z a x u} h hv=>by
  obtain ⟨x1,h1,h⟩:=OB h
  obtain ⟨x2,h2,rfl⟩:=Option.map_eq_some_iff.1 h
  have k1:=s.vr h1 (hv.take n)
  have k2:=t.vr h2 (hv.drop n)
  have:=k1.append k2
  rwa [List.take_append_drop] at this
 nr x:=by simp [s.nr,t.nr]
/-- Structs. -/
def cdA {α:Type}(s:Cs α) (h:∀ x,(s.enc x).all RH=true):Cd α where
 enc x:= .ag (s.enc x)
 dec a:=match a with
  | .ag l=>s.dec l
  | _=>none
 de x:=s.de x
 vr:=fun {w Z a x u} hd hv=>by
  split at hd
  ·cases hv with
   | ag hl h1 hx =>
    have:=s.vr hd ⟨hl,hx⟩
    exact .ag this.len h1 this.at_
  ·cases hd
 nr x:=h x
/-- The address of something that nobody writes. -/
def cdP {α:Type}(c:Cd α):Cd α where
 enc x:= .pe (c.enc x) 0
 dec a:=match a with
  | .pe y 0=>c.dec y
  | _=>none
 de x:=c.de x
 vr:=fun {w Z a x u} hd hv=>by
  split at hd
  ·cases hv with
   | pe hs hz h1 hu hx=>exact .pe hs hz h1 hu (c.vr hd hx)
  ·cases hd
 nr _:=rfl
/-- Anything that is told by one value. -/
noncomputable def cdJ {α:Type}(e:α->AV) (hi:∀ x y,e x=e y->x=y) (hn:∀ x,F3 (e x)=true):Cd α where
 enc:=e
 dec a:=open Classical in if h:∃ x,e x=a then some h.choose else none
 de x:=by
  have h:∃ y,e y=e x:=⟨x,rfl⟩
  rw [dif_pos h,hi _ _ h.choose_spec]
 vr:=fun {w Z a x u} hd hv=>by
  split at hd
  ·next h=>injection hd with hd; subst hd; rw [h.choose_spec]; exact hv
  ·cases hd
 nr:=hn
end Go.Proofs.YtlalcoehgkmhlaaGreatDoor
namespace Go.Proofs.YtlalcoehgkmhlaaGreatDoor
open Go.RowKit Go.ChangeShapes Go.WideShapes Go.Deep
/-- What a reading of a value's cells says. -/
structure Rc {α:Type} (P:Program) (c:Cd α) (t:TypeId) (good:α->Prop):Prop where
 el:∀ a,elm (c.enc a).cel=c.enc a
 nc:∀ a,(c.enc a).nc=P.cellsOf t
 rd:∀ {H:Type} {enc:TypeId×Value->H} {w:World} {base:Nat} {spare:Nat->Bool} {held:Bool} {fuel:Nat} {cs:List Value} {x:DataW H×List MemPlace},DataW.trod enc P w base spare held fuel t cs=some x->(DataW.weights P t x.1).all (·<=reachBytes)=true->∃ a,VRs w (fun c=>c < w.heap.size) [] (c.enc a).cel cs/\cs.all Value.oneCell'=true/\good a
theorem ABj {P:Program}{t:TypeId}{k:IntKind}(ht:P.underlying t=some (.int k)) (hc:P.cellsOf t=1):Rc P (cdK k) t (fun n=>(Lit.int k n).wf=true):=⟨fun _=>rfl,fun _=>hc.symm,fun h _=>by
 obtain ⟨n,rfl,_,h3⟩:=DataW.trod_int ht h
 exact ⟨n,.cons (.v rfl) .nil,rfl,h3⟩⟩
theorem Vm {P:Program}{t:TypeId}(ht:P.underlying t=some (.int .i64)) (hc:P.cellsOf t=1):Rc P cdI t ADu:=⟨fun _=>rfl,fun _=>hc.symm,fun h hw=>by
 obtain ⟨a,h1,h2,h3⟩:=(ABj ht hc).rd h hw
 exact ⟨a,h1,h2,bounds_i64 h3⟩⟩
theorem Xc {P:Program}{t:TypeId}(ht:P.underlying t=some .bool) (hc:P.cellsOf t=1):Rc P cdB t (fun _=>True):=⟨fun _=>rfl,fun _=>hc.symm,fun h _=>by
 obtain ⟨b,rfl,_⟩:=DataW.trod_bool ht h
 exact ⟨b,.cons (.v rfl) .nil,rfl,trivial⟩⟩
theorem KV {P:Program}{t:TypeId}(ht:P.underlying t=some .string) (hc:P.cellsOf t=1):Rc P cdS t (fun b=>b.length<=140737488355328):=⟨fun _=>rfl,fun _=>hc.symm,fun h hw=>by
 obtain ⟨s,rfl,h2,h3⟩:=DataW.trod_string ht h
 rw [h2] at hw
 simp only [DataW.weights,List.all_cons,List.all_nil,Bool.and_true,decide_eq_true_eq] at hw
 have h8:reachBytes=140737488351232:=rfl
 exact ⟨s.data.toList,.cons (.st rfl (by simpa using h3)) .nil,rfl,by omega⟩⟩
/-- The fields of a struct, one behind the other. -/
structure Rf {α:Type} (P:Program) (s:Cs α) (l:List Field) (off:Nat) (good:α->Prop):Prop where
 rd:∀ {H:Type} {enc:TypeId×Value->H} {w:World} {base:Nat} {spare:Nat->Bool} {held:Bool} {n:Nat} {cs:List Value} {xs:List (DataW H×List MemPlace)},cs.length=off + l.length->xs.length=l.length ->
  (∀ (j:Nat) (f:Field),l[j]? = some f->DataW.trod enc P w base spare held n f.type ((cs.drop f.offset).take (P.cellsOf f.type))=xs[j]?)->(DataW.weightsEach P (l.map (·.type)) (xs.map (·.1))).all (·<=reachBytes)=true ->
  ∃ a,VRs w (fun c=>c < w.heap.size) [] (s.enc a) (cs.drop off)/\(cs.drop off).all Value.oneCell'=true/\good a
theorem RK {w:World}{Z:Nat->Prop}{R:List RI}{x:AV}{cs:List Value}(h1:x.cel=[x]) (h:VRs w Z R x.cel cs):∃ v,cs=[v]/\VR w Z R x v:=by
 rw [h1] at h
 obtain ⟨u,us,rfl,k1,k2⟩:=h.head
 have:us=[]:=by have:=k2.len; simpa using this
 subst this
 exact ⟨u,rfl,k1⟩
theorem ABk {α:Type}{P:Program}{c:Cd α}{f:Field}{good:α->Prop}{off:Nat}(r:Rc P c f.type good) (ho:f.offset=off) (hc:P.cellsOf f.type=1) (h1:∀ a,(c.enc a).cel=[c.enc a]):Rf P (csE c) [f] off good:=⟨fun {H enc w base spare held n cs xs} hl hx ht hw=>by
 match xs,hx with
 | [y],_ =>
  have h0:=ht 0 f rfl
  rw [ho,hc,List.take_of_length_le (by simp at hl ⊢; omega)] at h0
  simp only [List.map_cons,List.map_nil,DataW.weightsEach,List.append_nil] at hw
  obtain ⟨a,k1,k2,k3⟩:=r.rd h0 hw
  obtain ⟨v,hv,k4⟩:=RK (h1 a) k1
  refine ⟨a,?_,k2,k3⟩
  rw [hv]
  exact .cons k4 .nil⟩
theorem LX {α β:Type}{P:Program}{c:Cd α}{s:Cs β}{f:Field}{l:List Field}{good:α->Prop}{good':β->Prop}{off:Nat}(r:Rc P c f.type good) (ho:f.offset=off) (hc:P.cellsOf f.type=1) (h1:∀ a,(c.enc a).cel=[c.enc a]) (q:Rf P s l (off + 1) good'):Rf P (csC c s) (f::l) off (fun x=>good x.1/\good' x.2):=⟨fun {H enc w base spare held n cs xs} hl hx ht hw=>by
 match xs,hx with
 | y::ys,hx =>
  have h0:=ht 0 f rfl
  rw [ho,hc] at h0
  simp only [List.map_cons,DataW.weightsEach,List.all_append,Bool.and_eq_true] at hw
  obtain ⟨a,k1,k2,k3⟩:=r.rd h0 hw.1
  obtain ⟨v,hv,k4⟩:=RK (h1 a) k1
  obtain ⟨b,q1,q2,q3⟩:=q.rd (cs:=cs) (xs:=ys) (by simp at hl ⊢; omega) (by simpa using hx) (fun j g hg=>by simpa using ht (j + 1) g (by simpa using hg)) hw.2
  have hd:cs.drop off=v::cs.drop (off + 1):=by
   have hlt:off < cs.length:=by simp at hl; omega
   rw [List.drop_eq_getElem_cons hlt] at hv ⊢
   rw [List.take_succ_cons,List.take_zero] at hv
   injection hv with hv
   rw [hv]
  refine ⟨(a,b),?_,?_,k3,q3⟩
  ·rw [hd]; exact .cons k4 q1
  ·rw [hd,List.all_cons,q2,Bool.and_true]
   rw [hv] at k2
   simpa using k2⟩
theorem Wl {α:Type}{P:Program}{s:Cs α}{t:TypeId}{fs:Array Field}{good:α->Prop}{hn:∀ x,(s.enc x).all RH=true}(ht:P.underlying t=some (.struct fs)) (hl:P.cellsOf t=fs.size) (hs:∀ a,(s.enc a).length=fs.size) (he:∀ a,elm (s.enc a) = .ag (s.enc a)) (r:Rf P s fs.toList 0 good):Rc P (cdA s hn) t good:=⟨fun a=>he a,fun a=>(hs a).trans hl.symm,fun {H enc w base spare held fuel cs x} h hw=>by
 obtain ⟨xs,n,_,rfl,hlc,hlx,hf⟩:=DataW.trod_struct ht h
 simp only [DataW.weights,ht] at hw
 obtain ⟨a,k1,k2,k3⟩:=r.rd (cs:=cs) (xs:=xs) (n:=n) (by rw [hlc,hl]; simp) (by simpa using hlx) (fun j f hj=>hf j f (by simpa using hj)) hw
 exact ⟨a,k1,k2,k3⟩⟩
/-- An argument of one cell. -/
theorem Zr {α:Type}{H:Type}{enc:TypeId×Value->H}{P:Program}{c:Cd α}{t:TypeId}{good:α->Prop}(r:Rc P c t good){w:World}{base:Nat}{spare:Nat->Bool}{held:Bool}{v:Value}{d:DataW H}{ps:List MemPlace}(ho:v.oneCell'=true) (h1:∀ a,(c.enc a).cel=[c.enc a]) (h:DataW.Trod enc P w base spare held t v d ps)
  {ts:List TypeId} {ds:List (DataW H)} (hs:(DataW.weightsEach P ts ds).all (·<=reachBytes)=true) {j:Nat} (ht:ts[j]? = some t) (hd:ds[j]? = some d):∃ a,VR w (fun c=>c < w.heap.size) [] (c.enc a) v/\good a:=by
 obtain ⟨fuel,hf⟩:=h
 rw [Vg ho] at hf
 obtain ⟨a,k1,_,k2⟩:=r.rd hf (List.all_eq_true.2 fun n hn=>List.all_eq_true.1 hs n (DataW.weights_mem_each ht hd n hn))
 obtain ⟨u,hu,k3⟩:=RK (h1 a) k1
 injection hu with hu
 subst hu
 exact ⟨a,k3,k2⟩
/-- Kind, Among, Last, Names, N. -/
abbrev AF:Type:=Int×List UInt8×Bool×List (List UInt8)×Int
def AAc:Cs AF:=csC (cdK .u8) (csC cdS (csC cdB (csC (cdL 1 cdS) (csE cdI))))
def AA:Cd AF:=cdA AAc (fun _=>rfl)
/-- Name, Rank, Court, Since, Side, Diet, Host, Access, Tongues. -/
abbrev An:Type:=List UInt8×List UInt8×List UInt8×Int×Int×List UInt8×Bool×Bool×List (List UInt8)
def ZM:Cs An:=csC cdS (csC cdS (csC cdS (csC cdI (csC cdI (csC cdS (csC cdB (csC cdB (csE (cdL 1 cdS)))))))))
def AE:Cd An:=cdA ZM (fun _=>rfl)
/-- A guest at a place. -/
abbrev Ab:Type:=An×Int
def AAd:Cs Ab:=csG 9 ZM (fun _=>rfl) (csE cdI)
def AG:Cd Ab:=cdA AAd (fun _=>rfl)
end Go.Proofs.YtlalcoehgkmhlaaGreatDoor
namespace Go.Proofs.YtlalcoehgkmhlaaGreatDoor
open Go.ChangeShapes Go.WideShapes Go.ChangeAt Go.RowKit
def ABV {H:Type}:DataW H->List Value
 | .lit (.int k n)=>[Value.int k n]
 | _=>[.bool false]
def ADb {H:Type}:DataW H->List Value
 | .agg xs=>xs.flatMap ABV
 | x=>ABV x
def L4 {H:Type}:DataW H->Array Value
 | .agg xs=>(xs.flatMap ADb).toArray
 | _=>#[]
def Qx (vs:Array Value):Obj->Obj
 | .cells _ t frozen=> .cells vs t frozen
 | o=>o
noncomputable def TV (os:Os):World :=
 { World.holding Tryz.prog os ⟨#[],#[],[]⟩ with heap:=(((((World.holding Tryz.prog os ⟨#[],#[],[]⟩).heap.modify 1 (Qx (L4 (Rows.laid_internal_strconv_uint64pow10 (H:=Unit))))).modify 4 (Qx (L4 (Rows.laid_math_bits_deBruijn32tab (H:=Unit))))).modify 5 (Qx (L4 (Rows.laid_math_bits_deBruijn64tab (H:=Unit))))).modify 2 (Qx (L4 Rows.laid_unicode_utf8_first))).modify 3 (Qx (L4 (Rows.laid_unicode_utf8_acceptRanges (H:=Unit)))) }
theorem AA1:ownKnob Tryz.prog.godebug=none:=by kernel_rfl
theorem ACY:laidOutB Tryz.prog=true:=by kernel_rfl
theorem QO {x:TypeId}{l:List TypeId}(p:TypeId->Bool) (h:l.all p=true) (hx:x ∈ l):p x=true:=List.all_eq_true.1 h x hx
def RunDY (E:Env) (ops:Array Oper) (n0 k:Nat) (rest:List Oper) (s:St) (K:St->Prop):Prop :=
 ∀ (base:Bs) (Q:Act->World->Prop) (w0:World) (Z:Nat->Prop) (R0:List RI) (h0:Hp) (a:Act) (w:World) (R:List RI),HR w0 Z R0 h0->n0=h0.length->Gl ops<=ops.size->SR E base w Z R s a->w0.grownBy w none->Step w0 Z R0 h0 w Z R s.hp->(∀ (b:Nat) (B:Option Blk),h0[b]? = some B->s.hp[b]? = some B)->Gl ops=Hk rest k->k + rest.length=ops.size->(∀ j,rest[j]? = ops[k + j]?) ->
  (∀ s' a' w' Z' R',K s'->SR E base w' Z' R' s' a'->Step w0 Z R0 h0 w' Z' R' s'.hp->Q a' w')->Kf E.P ops (fun w'=>w0.grownBy w' none) (GQ ops (Gl ops)) (Gl ops) Q k rest a w
section
variable {E:Env}{cx:Cx}{ops:Array Oper}{pre rest rest':List Oper}{s s1:St}{K:St->Prop}{n n0 k:Nat}{l:List (Nat×AV)}{hp hp':Hp}{Q:Ex->St->Prop}{id:Nat}
theorem RunDY.done (hr:rest=[]) (kk:K s):RunDY E ops n0 k rest s K:=by
 subst hr
 exact fun base Q w0 Z R0 h0 a w R _ _ _ sr hgr st _ _ _ _ q=>⟨fun _=>hgr,q s a w Z R kk sr st⟩
theorem NN (hE:EnvOk E):∀ {pre:List Oper}{s:St}{k:Nat},(pre.all fun o=>!isW o.op)=true->opsD E (evC E 0) ⟨none,false⟩ ops n0 pre s=some s1->RunDY E ops n0 (k + pre.length) rest s1 K->RunDY E ops n0 k (pre++rest) s K
 | [],s,k,_,e,kk=>by injection e with e; subst e; exact kk
 | o::pre,s,k,hp,e,kk=>by
  intro base Q w0 Z R0 h0 a w R hh0 hn0 hT sr hgr st hpre hTk hlen hops q
  simp only [List.all_cons,Bool.and_eq_true,Bool.not_eq_true'] at hp
  obtain ⟨hW,hp⟩:=hp
  have hok:ops[k]? = some o:=by have:=hops 0; simpa using this.symm
  have hops':∀ j,(pre++rest)[j]? = ops[k + 1 + j]?:=fun j=>by have:=hops (j + 1); simpa [Nat.add_assoc,Nat.add_comm 1 j] using this
  have hk1:k + 1 + pre.length=k + (o::pre).length:=by simp; omega
  have kk':RunDY E ops n0 (k + 1 + pre.length) rest s1 K:=by rw [hk1]; exact kk
  have hlen':k + 1 + (pre++rest).length=ops.size:=by simp at hlen ⊢; omega
  have hTk':Gl ops=Hk (pre++rest) (k + 1):=by
   rw [hTk]
   show Hk (o::(pre++rest)) k=_
   conv=>lhs; unfold Hk; rw [if_neg (by rw [hW]; simp)]
  have hkT:¬ Gl ops<=k:=by have:=PP (pre++rest) (k + 1); omega
  show Kf E.P ops _ _ _ Q k (o::(pre++rest)) a w
  refine ⟨fun _=>hgr,?_⟩
  unfold opsD at e
  rw [if_neg (by rw [hW]; simp)] at e
  split at e
  ·cases e
  ·next hw =>
   rw [if_neg (by rw [wantedA_eq sr hw]; simp)]
   exact NN hE hp e kk' base Q w0 Z R0 h0 _ w R hh0 hn0 hT (sr.put undef_vr) hgr st hpre hTk' hlen' hops' q
  ·next hw =>
   rw [if_pos (wantedA_eq sr hw)]
   have hρ:∀ o x,opA E s.fr o=some x->VR w Z R x (a.eval o):=fun o x e=>opA_vr sr o x e
   split at e
   ·next x hx =>
    split at e
    ·next hld =>
     have hq:=TU hx
     rw [if_neg (by rw [PB hok hq hkT]; simp)]
     obtain ⟨u,hu,hrun⟩:=evOpQ_sound sr.hh hρ hx
     have hquiet:∃ u,VR w Z R x u/\QuietAt E.P (Cf (fun w'=>w0.grownBy w' none) o) o u a:=by
      cases hl:VX o.op with
      | false=>exact ⟨u,hu,fun w' _=>hrun w' fun h=>by rw [hl] at h; cases h⟩
      | true =>
       obtain ⟨u1,hu1,hq1⟩:=Lq hh0 sr hgr st hpre hl (by rw [<-hn0]; exact hld) hx
       exact ⟨u1,hu1,hq1.up (QI hl)⟩
     obtain ⟨u,hu,hquiet⟩:=hquiet
     exact ⟨u,hquiet,NN hE hp e kk' base Q w0 Z R0 h0 _ w R hh0 hn0 hT (sr.put hu) hgr st hpre hTk' hlen' hops' q⟩
    ·cases e
   ·split at e
    ·next x h' hx =>
     have hq:=Mu hx
     rw [if_pos (H0 hok hq)]
     obtain ⟨u,w',R',h1,h2,h3,h4,h5⟩:=evOpN_sound hρ sr.hh hx
     exact P0 h1 (NN hE hp e kk' base Q w0 Z R0 h0 _ w' R' hh0 hn0 hT ((sr.step h2 h4).put h3) (Gg hgr h5) (st.trans h4) (fun b B hb=>NX hx (hpre b B hb)) hTk' hlen' hops' q)
    ·split at e
     ·next f args tys ho =>
      split at e
      ·next fv xs hf hxs =>
       split at e
       ·next r hr =>
        obtain ⟨x,h'⟩:=r
        have hq:isQ o.op=false:=by rw [ho]; rfl
        rw [if_pos (H0 hok hq)]
        obtain ⟨g,uf,uc,hva,hcl,hret⟩:=I4 hE (code_sound hE 0).1 (hρ _ _ hf) (opds_vr hρ hxs) sr.hh sr.gl hr
        unfold Lw
        rw [IF (uf:=uf) (uc:=uc) ho hva rfl hcl w]
        refine Ret.mono hret fun v w' hS=>?_
        obtain ⟨hg1,R',k1,k2,k3⟩:=hS
        exact NN hE hp e kk' base Q w0 Z R0 h0 _ w' R' hh0 hn0 hT ((sr.step k1 k3).put k2) (Gg hgr hg1) (st.trans k3) (fun b B hb=>Ol hr (hpre b B hb)) hTk' hlen' hops' q
       ·cases e
      ·cases e
     ·cases e
theorem Y0 (hE:EnvOk E) (m:Nat) (hw:((rest.take m).all fun o=>!isW o.op)=true) (h:opsD E (evC E 0) ⟨none,false⟩ ops n0 (rest.take m) s=some s1) (kk:RunDY E ops n0 (k + (rest.take m).length) (rest.drop m) s1 K):RunDY E ops n0 k rest s K:=by
 have:=NN (k:=k) hE hw h kk
 rwa [List.take_append_drop] at this
theorem RunDY.one (hE:EnvOk E){o:Oper}(hr:rest=o::rest') (hW:isW o.op=false) (h:opsD E (evC E 0) ⟨none,false⟩ ops n0 [o] s=some s1) (kk:RunDY E ops n0 (k + 1) rest' s1 K):RunDY E ops n0 k rest s K:=by
 subst hr
 exact NN (k:=k) hE (pre:=[o]) (by simp [hW]) h kk
theorem ADA (hE:EnvOk E) (m:Nat){s:St}(l:List (Nat×AV)) (hp:Hp) (hw:((rest.take m).all fun o=>!isW o.op)=true) (h:Vr (opsD E (evC E 0) ⟨none,false⟩ ops n0 (rest.take m) s) l=some (n,xs2 l,hp)) (kk:RunDY E ops n0 (k + (rest.take m).length) (rest.drop m) ⟨Fr n l,hp⟩ K):RunDY E ops n0 k rest s K:=by
 obtain ⟨fr,h1,h2,h3⟩:=KP h
 refine Y0 hE m hw h1 ?_
 exact fun base Q w0 Z R0 h0 a w R a1 a2 a3 sr a5 a6 a7 a8 a9 a10 q=>kk base Q w0 Z R0 h0 a w R a1 a2 a3 (sr.forget h2 h3) a5 a6 a7 a8 a9 a10 q
end
theorem Oj {g:AV->Option AV}:∀ {xs:List AV},(∀ x ∈ xs,g x=some x)->UR g xs=some xs
 | [],_=>rfl
 | x::xs,h=>by
  unfold UR
  rw [h x (by simp),Oj fun y hy=>h y (List.mem_cons_of_mem _ hy)]
theorem Q9 {h:Hp}{x:AV}(hn:JN x=true):∀ n,JD h n x=some x
 | 0=>by
  have:RH x=true:=by cases x <;> first | exact hn | (simp [JN] at hn)
  unfold JD
  rw [if_pos this]
 | n + 1=>by
  cases x <;> first | (simp [JN] at hn; done) | (unfold JD; rfl)
theorem Wz {h:Hp}{x:AV}(hn:RH x=true) (n:Nat):JD h (n + 1) x=some x:=by
 cases x with
 | fn f p q =>
  simp only [RH,Bool.and_eq_true] at hn
  show (match UR (JD h n) p,UR (JD h n) q with | some p,some q=>some (AV.fn f p q) | _,_=>none)=_
  rw [Oj (g:=JD h n) fun y hy=>Q9 (List.all_eq_true.1 hn.1 y hy) n,Oj (g:=JD h n) fun y hy=>Q9 (List.all_eq_true.1 hn.2 y hy) n]
 | _ =>
  refine Q9 ?_ (n + 1)
  exact hn
theorem PQ {h:Hp}{x:AV}(hn:F3 x=true) (n:Nat):JD h (n + 2) x=some x:=by
 cases x with
 | ag cs =>
  show (UR (JD h (n + 1)) cs).map AV.ag=_
  rw [Oj (g:=JD h (n + 1)) fun y hy=>Wz (List.all_eq_true.1 hn y hy) n]; rfl
 | _ =>
  refine Wz ?_ (n + 1)
  exact hn
/-- What a call sees of an argument. -/
def Sm {α:Type}(n:Nat) (h:Hp) (c:Cd α) (x:AV) (v:α):Prop:=∃ y,JD h n x=some y/\c.dec y=some v
def Sl {α:Type}(n:Nat) (h:Hp) (s:Cs α) (xs:List AV) (a:α):Prop:=∃ ys,UR (JD h n) xs=some ys/\s.dec ys=some a
section
variable {α β:Type}{n b k:Nat}{h:Hp}{c:Cd α}{t:TypeId}
theorem AW {v:α}:Sm (n + 2) h c (c.enc v) v:=⟨_,PQ (c.nr v) n,c.de v⟩
theorem Sm.e0:Sm n h (cdL k c) .e0 []:=⟨.e0,Q9 rfl n,rfl⟩
theorem AE1 {xs:List α}(hb:h[b]? = some (some ⟨k,t,xs.map c.enc,false⟩)):Sm (n + 3) h (cdL k c) (.rf b 0 xs.length xs.length) xs:=by
 refine ⟨.sl k (xs.map c.enc),?_,(cdL k c).de xs⟩
 unfold JD
 simp only [hb]
 rw [if_pos (by simp),List.drop_zero,List.take_of_length_le (by simp),Oj]
 ·rfl
 ·intro y hy
  obtain ⟨z,_,rfl⟩:=List.mem_map.1 hy
  exact PQ (c.nr z) n
theorem Sm.rf {xs:List α}{m q:Nat}(hb:h[b]? = some (some ⟨k,t,xs.map c.enc,false⟩)) (hm:m<=xs.length):Sm (n + 3) h (cdL k c) (.rf b 0 m q) (xs.take m):=by
 refine ⟨.sl k ((xs.take m).map c.enc),?_,(cdL k c).de _⟩
 unfold JD
 simp only [hb]
 rw [if_pos (by simp; omega),List.drop_zero,<-List.map_take,Oj]
 ·rfl
 ·intro y hy
  obtain ⟨z,_,rfl⟩:=List.mem_map.1 hy
  exact PQ (c.nr z) n
theorem Sm.hd {xs:List α}(hb:h[b]? = some (mk k t (xs.map c.enc))):Sm (n + 3) h (cdL k c) (hd b (xs.map c.enc)) xs:=by
 cases xs with
 | nil=>exact .e0
 | cons x xs =>
  have:=AE1 (n:=n) (c:=c) (xs:=x::xs) (b:=b) (k:=k) hb
  simpa [Go.Proofs.YtlalcoehgkmhlaaGreatDoor.hd] using this
theorem Sm.pt {y:AV}{v:α}{fz:Bool}(hb:h[b]? = some (some ⟨k,t,[y],fz⟩)) (hy:Sm n h c y v):Sm (n + 1) h (cdP c) (.pt b 0 0) v:=by
 obtain ⟨z,h1,h2⟩:=hy
 refine ⟨.pe z 0,?_,h2⟩
 unfold JD
 simp only [hb,List.getElem?_cons_zero]
 rw [h1]; rfl
theorem Ao:Sl n h csN [] ():=⟨[],rfl,rfl⟩
theorem AL {s:Cs β}{x:AV}{xs:List AV}{v:α}{a:β}(h1:Sm n h c x v) (h2:Sl n h s xs a):Sl n h (csC c s) (x::xs) (v,a):=by
 obtain ⟨y,k1,k2⟩:=h1
 obtain ⟨ys,q1,q2⟩:=h2
 refine ⟨y::ys,?_,?_⟩
 ·unfold UR; rw [k1,q1]
 ·show ((c.dec y).bind fun x=>(s.dec ys).map fun y=>(x,y))=_
  rw [k2,q2]; rfl
theorem VK {x:AV}{v:α}(h1:Sm n h c x v):Sl n h (csE c) [x] v:=by
 obtain ⟨y,k1,k2⟩:=h1
 exact ⟨[y],by unfold UR UR; rw [k1],k2⟩
theorem Sm.ag {s:Cs α}{hn:∀ x,(s.enc x).all RH=true}{xs:List AV}{a:α}(h1:Sl n h s xs a):Sm (n + 1) h (cdA s hn) (.ag xs) a:=by
 obtain ⟨ys,k1,k2⟩:=h1
 refine ⟨.ag ys,?_,k2⟩
 show (UR (JD h n) xs).map AV.ag=_
 rw [k1]; rfl
end
/-- A closure of a given function. -/
def cdF {α:Type}(f:FuncId) (s:Cs α) (hn:∀ x,(s.enc x).all JN=true):Cd α where
 enc x:= .fn f [] (s.enc x)
 dec a:=match a with
  | .fn g [] q=>if g=f then s.dec q else none
  | _=>none
 de x:=by simp [s.de]
 vr:=fun {w Z a x u} hd hv=>by
  split at hd
  ·split at hd
   ·next e =>
    subst e
    cases hv with
    | fn hl hl' hx hy =>
     have:=s.vr hd ⟨hl',hy⟩
     exact .fn hl this.len hx this.at_
   ·cases hd
  ·cases hd
 nr x:=by simp [F3,RH,hn]
theorem Sm.fn {α:Type}{n:Nat}{h:Hp}{f:FuncId}{s:Cs α}{hn:∀ x,(s.enc x).all JN=true}{q:List AV}{a:α}(h1:Sl n h s q a):Sm (n + 1) h (cdF f s hn) (.fn f [] q) a:=by
 obtain ⟨ys,k1,k2⟩:=h1
 refine ⟨.fn f [] ys,?_,?_⟩
 ·show (match UR (JD h n) [],UR (JD h n) q with | some p,some q=>some (AV.fn f p q) | _,_=>none)=_
  rw [k1]; rfl
 ·show (if f=f then s.dec ys else none)=_
  rw [if_pos rfl]; exact k2
section
variable {E:Env}{cx:Cx}{ops:Array Oper}{rest rest':List Oper}{K:St->Prop}{n n0 k:Nat}{l:List (Nat×AV)}{hp:Hp}{α β:Type}{s:Cs α}{F:α->Option β}{er:β->AV}{u:α}{v:β}{fid:FuncId}{w:World}{Z:Nat->Prop}{R:List RI}
/-- A told call, in a world. -/
theorem AE3 (hX:XOk fid (ES s F er)) (hh:HR w Z R hp) (hg:GI E0 w Z){xs:List AV}{us:List Value}(hvs:VRs w Z R xs us) (hv:Sl 12 hp s xs u) (hok:Gk (er v)=true\/xs.all F3=true) (hF:F u=some v) :
  Ret E0.P fid us.toArray w fun x w'=>∃ Z',HR w' Z' R hp/\VR w' Z' R (er v) x/\Step w Z R hp w' Z' R hp/\w.grownBy w' none/\(Gk (er v)=true->Z'=Z):=by
 obtain ⟨ys,h1,h2⟩:=hv
 by_cases hf:Gk (er v)=true
 ·have hz1:∀ c,(Z c\/own R hp c)->c < w.heap.size:=fun c hc=>hc.elim (hh.zlt c) (fun ⟨b,B,r,h1,_,h3,h4⟩=>h4 ▸ hh.rltL h1 h3)
  have hg1:GI E0 w (fun c=>Z c\/own R hp c):=fun q y hy=>(hg q y hy).mono (fun _ _=>rfl) (fun _ h=> .inl h) (fun _ _ h=>h)
  refine Ret.mono (hX.2 ys (er v) (N4 h2 hF) w _ us hz1 hg1 (allV_vr (Pg hh 12) hvs h1)) fun x w' ⟨hs,hx⟩=>?_
  exact ⟨Z,hh.keep hs.size (fun c hc=>hs.block c hc (by simp)),QH hf hx,⟨hs.os,hs.tape,hs.output,hs.size,fun c hc _=>hs.block c hc (by simp),fun _ h=> .inl h,fun _ h=>h,fun _ h=> .inl h,fun _ _ h=>h⟩,hs,fun _=>rfl⟩
 ·have hn:=hok.resolve_left hf
  have e:xs=ys:=OI ((Oj fun y hy=>PQ (List.all_eq_true.1 hn y hy) 10).symm.trans h1)
  subst e
  refine Ret.mono (hX.2 xs (er v) (N4 h2 hF) w Z us hh.zlt hg (Vf hn hvs)) fun x w' ⟨hs,hx⟩=>?_
  obtain ⟨k1,k2⟩:=hh.addZ hs
  exact ⟨_,k1,hx.up,k2,hs,fun h=>absurd h hf⟩
/-- .. at an operation. -/
theorem AFe (hP:E.P=E0.P) (hG:E.G=E0.G){caps xs:List AV}{d:Option Nat}{f:Operand}{args:Array Operand}{tys:Array TypeId}{ty:TypeId}{pos:String}{af:Array Edge}{g:Option (Nat×Bool)}{base:Bs}{a:Act}(hX:XOk fid (ES s F er)) (sr:SR E base w Z R ⟨Fr n l,hp⟩ a)
  (hf:opA E (Fr n l) f=some (.fn fid [] caps)) (ha:MR (opA E (Fr n l)) args.toList=some xs) (hv:Sl 12 hp s (xs++caps) u) (hok:Gk (er v)=true\/(xs++caps).all F3=true) (hF:F u=some v) {Q:Act->World->Prop}
  (kk:∀ x w' Z',HR w' Z' R hp->VR w' Z' R (er v) x->Step w Z R hp w' Z' R hp->w.grownBy w' none->(Gk (er v)=true->Z'=Z)->SR E base w' Z' R ⟨Fr n l,hp⟩ a->Q (a.put d x) w'):Lw E.P ⟨d,.call ⟨.value f,args,tys⟩,ty,pos,af,g⟩ a w Q:=by
 have hρ:∀ o x,opA E (Fr n l) o=some x->VR w Z R x (a.eval o):=fun o x e=>opA_vr sr o x e
 have hvf:=hρ _ _ hf
 have hva:∃ uc:List Value,a.eval f = .func (.func fid) #[] uc.toArray/\VRs w Z R caps uc:=by
  generalize a.eval f=vf at hvf
  cases hvf with
  | fn hl hl' hx hy =>
   rename_i u1 u2
   have e1:u1=[]:=by simpa using hl
   subst e1
   exact ⟨u2,rfl,hl',hy⟩
 obtain ⟨uc,hva,huc⟩:=hva
 have hcl:DD E.P fid:=hP ▸ hX.1
 unfold Lw
 rw [IF (uf:=[]) (uc:=uc) rfl hva rfl hcl w]
 have hret:=AE3 hX sr.hh (by have:=sr.gl; exact fun q y hy=>this q y (by rw [hG]; exact hy)) ((opds_vr hρ ha).append huc) hv hok hF
 rw [<-hP] at hret
 simp only [List.nil_append]
 refine Ret.mono hret fun x w' ⟨Z',k1,k2,k3,k4,k5⟩=>?_
 exact kk x w' Z' k1 k2 k3 k4 k5 (sr.step k1 k3)
theorem AS (hP:E.P=E0.P) (hG:E.G=E0.G) (hX:XOk fid (ES s F er)){caps xs:List AV}{d:Nat}{f:Operand}{args:Array Operand}{tys:Array TypeId}{ty:TypeId}{pos:String}{af:Array Edge}{g:Option (Nat×Bool)}(hr:rest=⟨some d,.call ⟨.value f,args,tys⟩,ty,pos,af,g⟩::rest') (hw:DS ops (Fr n l) ⟨some d,.call ⟨.value f,args,tys⟩,ty,pos,af,g⟩=some true)
  (hf:opA E (Fr n l) f=some (.fn fid [] caps)) (ha:MR (opA E (Fr n l)) args.toList=some xs) (hv:Sl 12 hp s (xs++caps) u) (hok:Gk (er v)=true\/(xs++caps).all F3=true) (hF:F u=some v) (kk:RunS E ops rest' ⟨Fr n ((d,er v)::l),hp⟩ K):RunS E ops rest ⟨Fr n l,hp⟩ K:=by
 subst hr
 intro base Q a w Z R sr q
 refine Pc rfl (wantedA_eq sr hw) (AFe hP hG hX sr hf ha hv hok hF fun x w' Z' k1 k2 k3 k4 k5 sr'=>?_)
 refine kk base Q _ w' Z' R ?_ fun s' a' w'' Z'' R'' hK sr'' st'=>q s' a' w'' Z'' R'' hK sr'' (k3.w.trans st')
 have:=sr'.put (d:=some d) k2
 rwa [FY] at this
/-- In a region that draws its order; what is handed back is flat. -/
theorem Bx (hP:E.P=E0.P) (hG:E.G=E0.G) (hX:XOk fid (ES s F er)){caps xs:List AV}{d:Nat}{f:Operand}{args:Array Operand}{tys:Array TypeId}{ty:TypeId}{pos:String}{af:Array Edge}{g:Option (Nat×Bool)}(hr:rest=⟨some d,.call ⟨.value f,args,tys⟩,ty,pos,af,g⟩::rest') (hw:DS ops (Fr n l) ⟨some d,.call ⟨.value f,args,tys⟩,ty,pos,af,g⟩=some true)
  (hf:opA E (Fr n l) f=some (.fn fid [] caps)) (ha:MR (opA E (Fr n l)) args.toList=some xs) (hv:Sl 12 hp s (xs++caps) u) (hok:Gk (er v)=true) (hF:F u=some v) (kk:RunDS E ops n0 (k + 1) rest' ⟨Fr n ((d,er v)::l),hp⟩ K):RunDS E ops n0 k rest ⟨Fr n l,hp⟩ K:=by
 subst hr
 intro base Q w0 Z R0 h0 a w R hh0 hn0 hT sr hgr st hpre hTk hlen hops q
 have hok':ops[k]? = some ⟨some d,.call ⟨.value f,args,tys⟩,ty,pos,af,g⟩:=by have:=hops 0; simpa using this.symm
 have hops':∀ j,rest'[j]? = ops[k + 1 + j]?:=fun j=>by have:=hops (j + 1); simpa [Nat.add_assoc,Nat.add_comm 1 j] using this
 have hlen':k + 1 + rest'.length=ops.size:=by simp at hlen ⊢; omega
 have hTk':Gl ops=Hk rest' (k + 1):=by
  rw [hTk]
  conv=>lhs; unfold Hk; rw [if_neg (by simp [isW])]
 refine ⟨fun _=>hgr,?_⟩
 rw [if_pos (wantedA_eq sr hw)]
 have hq:isQ (.call ⟨.value f,args,tys⟩:Op)=false:=rfl
 rw [if_pos (H0 hok' hq)]
 refine AFe hP hG hX sr hf ha hv (.inl hok) hF fun x w' Z' k1 k2 k3 k4 k5 sr'=>?_
 have e:=k5 hok
 subst e
 exact kk base Q w0 Z' R0 h0 _ w' R hh0 hn0 hT (by have:=sr'.put (d:=some d) k2; rwa [FY] at this) (Gg hgr k4) (st.trans k3) hpre hTk' hlen' hops' q
/-- What is left of a region that draws its order, of which nothing is read any more. -/
def RunDZ (E:Env) (ops:Array Oper) (k:Nat) (rest:List Oper) (s:St) (K:St->Prop):Prop :=
 ∀ (base:Bs) (Q:Act->World->Prop) (w0:World) (Z:Nat->Prop) (a:Act) (w:World) (R:List RI),Gl ops<=ops.size->SR E base w Z R s a->w0.grownBy w none->Gl ops=Hk rest k->k + rest.length=ops.size->(∀ j,rest[j]? = ops[k + j]?) ->
  (∀ s' a' w' Z' R',K s'->SR E base w' Z' R' s' a'->StepW w Z R s.hp w' Z' R' s'.hp->Q a' w')->Kf E.P ops (fun w'=>w0.grownBy w' none) (GQ ops (Gl ops)) (Gl ops) Q k rest a w
/-- From now on nothing is read. -/
theorem RunDS.z {s:St}(kk:RunDZ E ops k rest s K):RunDS E ops n0 k rest s K :=
 fun base Q w0 Z _ _ a w R _ _ hT sr hgr st _ hTk hlen hops q=>kk base Q w0 Z a w R hT sr hgr hTk hlen hops fun s' a' w' Z' R' hK sr' st'=>q s' a' w' Z' R' hK sr' (st.w.trans st')
theorem RunDZ.done {s:St}(hr:rest=[]) (kk:K s):RunDZ E ops k rest s K:=by
 subst hr
 exact fun base Q w0 Z a w R _ sr hgr _ _ _ q=>⟨fun _=>hgr,q s a w Z R kk sr (StepW.refl _ _ _ _)⟩
theorem RunDZ.tail {s:St}{o:Oper}(hr:rest=o::rest') (hW:isW o.op=true) (h:RunS E ops rest s K):RunDZ E ops k rest s K:=by
 subst hr
 intro base Q w0 Z a w R hT sr hgr hTk hlen hops q
 have hTk':Gl ops=k:=by rw [hTk]; unfold Hk; rw [if_pos hW]
 exact PC (h base Q a w Z R sr fun s' a' w' Z' R' hK sr' st'=>q s' a' w' Z' R' hK sr' st') (by omega) (fun _=>hgr) (fun j hj=>Pb (by omega)) hops
theorem NO (hE:EnvOk E):∀ {pre:List Oper}{s s1:St}{k:Nat},(pre.all fun o=>!isW o.op&&!VX o.op)=true->opsD E (evC E 0) ⟨none,false⟩ ops n0 pre s=some s1->RunDZ E ops (k + pre.length) rest s1 K->RunDZ E ops k (pre++rest) s K
 | [],s,s1,k,_,e,kk=>by injection e with e; subst e; exact kk
 | o::pre,s,s1,k,hp,e,kk=>by
  intro base Q w0 Z a w R hT sr hgr hTk hlen hops q
  simp only [List.all_cons,Bool.and_eq_true,Bool.not_eq_true'] at hp
  obtain ⟨⟨hW,hLd⟩,hp⟩:=hp
  have hok:ops[k]? = some o:=by have:=hops 0; simpa using this.symm
  have hops':∀ j,(pre++rest)[j]? = ops[k + 1 + j]?:=fun j=>by have:=hops (j + 1); simpa [Nat.add_assoc,Nat.add_comm 1 j] using this
  have hk1:k + 1 + pre.length=k + (o::pre).length:=by simp; omega
  have kk':RunDZ E ops (k + 1 + pre.length) rest s1 K:=by rw [hk1]; exact kk
  have hp':(pre.all fun o=>!isW o.op&&!VX o.op)=true:=by simpa using hp
  have hlen':k + 1 + (pre++rest).length=ops.size:=by simp at hlen ⊢; omega
  have hTk':Gl ops=Hk (pre++rest) (k + 1):=by
   rw [hTk]
   show Hk (o::(pre++rest)) k=_
   conv=>lhs; unfold Hk; rw [if_neg (by rw [hW]; simp)]
  have hkT:¬ Gl ops<=k:=by have:=PP (pre++rest) (k + 1); omega
  show Kf E.P ops _ _ _ Q k (o::(pre++rest)) a w
  refine ⟨fun _=>hgr,?_⟩
  unfold opsD at e
  rw [if_neg (by rw [hW]; simp)] at e
  split at e
  ·cases e
  ·next hw =>
   rw [if_neg (by rw [wantedA_eq sr hw]; simp)]
   exact NO hE hp' e kk' base Q w0 Z _ w R hT (sr.put undef_vr) hgr hTk' hlen' hops' q
  ·next hw =>
   rw [if_pos (wantedA_eq sr hw)]
   have hρ:∀ o x,opA E s.fr o=some x->VR w Z R x (a.eval o):=fun o x e=>opA_vr sr o x e
   split at e
   ·next x hx =>
    split at e
    ·have hq:=TU hx
     rw [if_neg (by rw [PB hok hq hkT]; simp)]
     obtain ⟨u,hu,hrun⟩:=evOpQ_sound sr.hh hρ hx
     exact ⟨u,(fun w' _=>hrun w' fun h=>by rw [hLd] at h; cases h),NO hE hp' e kk' base Q w0 Z _ w R hT (sr.put hu) hgr hTk' hlen' hops' q⟩
    ·cases e
   ·split at e
    ·next x h' hx =>
     have hq:=Mu hx
     rw [if_pos (H0 hok hq)]
     obtain ⟨u,w',R',h1,h2,h3,h4,h5⟩:=evOpN_sound hρ sr.hh hx
     exact P0 h1 (NO hE hp' e kk' base Q w0 Z _ w' R' hT ((sr.step h2 h4).put h3) (Gg hgr h5) hTk' hlen' hops' fun s' a' w'' Z'' R'' hK sr'' st'=>q s' a' w'' Z'' R'' hK sr'' (h4.w.trans st'))
    ·split at e
     ·next f args tys ho =>
      split at e
      ·next fv xs hf hxs =>
       split at e
       ·next r hr =>
        obtain ⟨x,h'⟩:=r
        have hq:isQ o.op=false:=by rw [ho]; rfl
        rw [if_pos (H0 hok hq)]
        obtain ⟨g,uf,uc,hva,hcl,hret⟩:=I4 hE (code_sound hE 0).1 (hρ _ _ hf) (opds_vr hρ hxs) sr.hh sr.gl hr
        unfold Lw
        rw [IF (uf:=uf) (uc:=uc) ho hva rfl hcl w]
        refine Ret.mono hret fun v w' hS=>?_
        obtain ⟨hg1,R',k1,k2,k3⟩:=hS
        exact NO hE hp' e kk' base Q w0 Z _ w' R' hT ((sr.step k1 k3).put k2) (Gg hgr hg1) hTk' hlen' hops' fun s' a' w'' Z'' R'' hK sr'' st'=>q s' a' w'' Z'' R'' hK sr'' (k3.w.trans st')
       ·cases e
      ·cases e
     ·cases e
theorem RunDZ.one (hE:EnvOk E){s s1:St}{o:Oper}(hr:rest=o::rest') (hW:(!isW o.op&&!VX o.op)=true) (h:opsD E (evC E 0) ⟨none,false⟩ ops n0 [o] s=some s1) (kk:RunDZ E ops (k + 1) rest' s1 K):RunDZ E ops k rest s K:=by
 subst hr
 exact NO (k:=k) hE (pre:=[o]) (by simpa using hW) h kk
theorem ADB (hE:EnvOk E) (m:Nat){s:St}(l:List (Nat×AV)) (hp:Hp) (hw:((rest.take m).all fun o=>!isW o.op&&!VX o.op)=true) (h:Vr (opsD E (evC E 0) ⟨none,false⟩ ops n0 (rest.take m) s) l=some (n,xs2 l,hp)) (kk:RunDZ E ops (k + (rest.take m).length) (rest.drop m) ⟨Fr n l,hp⟩ K):RunDZ E ops k rest s K:=by
 obtain ⟨fr,h1,h2,h3⟩:=KP h
 have:=NO (k:=k) (pre:=rest.take m) (rest:=rest.drop m) hE hw h1 (fun base Q w0 Z a w R hT sr hgr hTk hlen hops q=>kk base Q w0 Z a w R hT (sr.forget h2 h3) hgr hTk hlen hops q)
 rwa [List.take_append_drop] at this
end
/-- A function, entered: from what its body does; the interpreter need not take it. -/
theorem AA7 {E:Env}{c:Code}{Q:Ex->St->Prop}{f:FuncId}{fn:Func}{args:List AV}{h:Hp}(hff:E.P.funcs[f]? = some fn) (hc:fn.body=some c) (hle:args.length<=fn.ntmps)
  (hb:Sem E ⟨none,false⟩ c ⟨args.map some++List.replicate (fn.ntmps - args.length) (some (.tp [])),h⟩ fun e s=>(e = .normal\/e = .ret)/\∃ xs,EZ E.P s.fr s.hp fn.results.toList=some xs/\Q .ret ⟨[some (Ee xs)],s.hp⟩)
  {w:World} {Z:Nat->Prop} {R:List RI} {us:List Value} (hh:HR w Z R h) (hv:VRs w Z R args us) (hg:GI E w Z) :
  Ret E.P f us.toArray w fun v w'=>∃ Z' R' x h',Q .ret ⟨[some x],h'⟩/\HR w' Z' R' h'/\VR w' Z' R' x v/\StepW w Z R h w' Z' R' h':=by
 refine callsIn_wide.1 (callsIn_of_wp_marks (F:=Fw none) (n:=0) hff hc trivial ?_)
 have hul:us.length=args.length:=hv.len
 have hsr:SR E (.of w.heap.size) w Z R ⟨args.map some++List.replicate (fn.ntmps - args.length) (some (.tp [])),h⟩ { tmps:=us.toArray++Array.replicate (fn.ntmps - us.toArray.size) undef,defers:=[] }:=by
  refine ⟨hh,⟨by simp [hul],fun t x hx=>?_⟩,rfl,hg,Nat.le_refl _⟩
  have e0:us.toArray++Array.replicate (fn.ntmps - us.toArray.size) undef=(us++List.replicate (fn.ntmps - us.length) undef).toArray:=by simp
  rw [e0,Array.getD_eq_getD_getElem?,List.getElem?_toArray]
  by_cases ht:t < args.length
  ·rw [List.getElem?_append_left (by simpa using ht),List.getElem?_map] at hx
   rw [List.getElem?_append_left (by omega)]
   cases hat:args[t]? with
   | none=>rw [hat] at hx; cases hx
   | some q =>
    rw [hat] at hx
    have hx:=OI (OI hx)
    subst hx
    obtain ⟨u,hu1,hu2⟩:=hv.get hat
    rw [hu1]; exact hu2
  ·rw [List.getElem?_append_right (by simp; omega),List.getElem?_replicate] at hx
   split at hx
   ·next hlt =>
    have hx:=OI (OI hx)
    subst hx
    rw [List.getElem?_append_right (by omega),List.getElem?_replicate,if_pos (by rw [hul]; simpa using hlt)]
    exact .tp (us:=[]) rfl (fun i x u hx=>by simp at hx)
   ·cases hx
 refine hb none (.of w.heap.size) _ _ w Z R (fun _=>rfl) hsr rfl fun e s' a' w' Z' R' hQ sr' st=>?_
 obtain ⟨hex,xs,hxs,hq⟩:=hQ
 have hl:=Lp (base:= .of w.heap.size) rfl (E:=E) (w:=w') (a:=a') (fn:=fn) (S:=fun v w''=>∃ Z' R' x h',Q .ret ⟨[some x],h'⟩/\HR w'' Z' R' h'/\VR w'' Z' R' x v/\StepW w Z R h w'' Z' R' h') hxs (fun w'' u g1 g2 g3 g4 g5 g6 g7=>⟨Z',R',_,_,hq,g6,g7,⟨g2.trans st.os,g3.trans st.tape,g4.trans st.output,by rw [g1]; exact st.size,fun c hc hn=>(g5 c hc).trans (st.block c hc hn),st.own_,st.z,st.z'⟩⟩) (D:=a'.defers) (w1:=w') sr' rfl rfl rfl rfl (fun _ _=>rfl)
 rcases hex with rfl | rfl
 ·exact hl
 ·exact hl
/-- A contract out of what the body does. -/
theorem AU {f:FuncId}{fn:Func}{c:Code}(hf:E0.P.funcs[f]? = some fn) (hc:fn.body=some c) (hcall:DD E0.P f){α β:Type}(s:Cs α) (F:α->Option β) (er:β->AV) (hle:∀ a,(s.enc a).length<=fn.ntmps) (hnr:∀ b,ACl (er b)=true)
  (sem:∀ a b,F a=some b->Sem E0 ⟨none,false⟩ c ⟨Fr fn.ntmps (A6 0 (s.enc a)),[]⟩ fun e s'=>(e = .normal\/e = .ret)/\∃ xs,EZ E0.P s'.fr s'.hp fn.results.toList=some xs/\Ee xs=er b) :
  XOk f (ES s F er):=by
 refine ⟨hcall,fun xs x h w Z us hz hg hv=>?_⟩
 obtain ⟨a,ha,h⟩:=OB h
 obtain ⟨b,hb,rfl⟩:=Option.map_eq_some_iff.1 h
 have hh:HR w Z [] []:=⟨rfl,fun b B hB=>by simp at hB,fun b b' B B' r r' hB=>by simp at hB,hz⟩
 refine Ret.mono (AA7 hf hc (hle a) (Q:=fun _ s=>s.fr=[some (er b)]) (Sem.mono (BY (Wk.enter (hle a)) (sem a b hb)) fun e s' hs=>?_) hh (s.vr ha hv) hg) fun v w' hS=>?_
 ·obtain ⟨h1,xs,h2,h3⟩:=hs
  exact ⟨h1,xs,h2,by rw [h3]⟩
 ·obtain ⟨Z',R',x,h',hQ,k1,k2,st⟩:=hS
  have hx:x=er b:=by simpa using hQ
  subst hx
  refine ⟨⟨st.os,st.tape,st.output,st.size,fun c hc _=>st.block c hc (fun ⟨b,B,r,hb,_⟩=>by simp at hb)⟩,(YD (hnr b) k2).mono (fun _ _=>rfl) (fun c hc=>?_) (fun _ _ h=>h)⟩
  rcases st.z' c hc with h1 | ⟨b,B,r,hb,_⟩ | h1
  ·exact .inl h1
  ·simp at hb
  ·exact .inr ⟨h1,k1.zlt c hc⟩
/-- How a Lean value is held by an abstract value and own blocks (the list tells which). -/
structure Oc (α:Type) where
 cd:Cd α
 at_:Hp->AV->α->List Nat->Prop
 loc:∀ {h h':Hp} {e:AV} {x:α} {F:List Nat},at_ h e x F->(∀ b ∈ F,h'[b]? = h[b]?)->at_ h' e x F
 own:∀ {h:Hp} {e:AV} {x:α} {F:List Nat} {b:Nat},at_ h e x F->b ∈ F->∃ B,h[b]? = some (some B)/\B.fz=false
 vr:∀ {w:World} {Z:Nat->Prop} {R:List RI} {h:Hp} {e:AV} {x:α} {F:List Nat} {u:Value},HR w Z R h->at_ h e x F->VR w Z R e u->VR w (fun c=>Z c\/∃ b ∈ F,∃ r,R[b]? = some r/\c=r.c) [] (cd.enc x) u
/-- A part of a heap. -/
structure Asn where
 at_:Hp->List Nat->Prop
 loc:∀ {h h':Hp} {F:List Nat},at_ h F->(∀ b ∈ F,h'[b]? = h[b]?)->at_ h' F
 own:∀ {h:Hp} {F:List Nat} {b:Nat},at_ h F->b ∈ F->∃ B,h[b]? = some (some B)/\B.fz=false
def TF (h:Hp):List Asn->List Nat->Prop
 | [],F=>F=[]
 | P::L,F=>∃ F1 F2,F=F1++F2/\P.at_ h F1/\TF h L F2
/-- The assertions hold of different blocks. -/
def T (h:Hp) (L:List Asn):Prop:=∃ F,TF h L F/\F.Nodup
theorem Mr {h:Hp}{b:Nat}{o:Option Blk}(e:h[b]? = some o):b < h.length:=(List.getElem?_eq_some_iff.1 e).1
theorem TF.loc {h h':Hp}:∀ {L:List Asn}{F:List Nat},TF h L F->(∀ b ∈ F,h'[b]? = h[b]?)->TF h' L F
 | [],_,e,_=>e
 | _::_,_,⟨F1,F2,e,p,q⟩,k=>⟨F1,F2,e,Asn.loc _ p (fun b hb=>k b (by rw [e]; exact List.mem_append_left _ hb)),TF.loc q fun b hb=>k b (by rw [e]; exact List.mem_append_right _ hb)⟩
theorem TF.own {h:Hp}:∀ {L:List Asn}{F:List Nat}{b:Nat},TF h L F->b ∈ F->∃ B,h[b]? = some (some B)/\B.fz=false
 | [],_,_,e,hb=>by rw [show _=[] from e] at hb; cases hb
 | _::_,_,_,⟨F1,F2,e,p,q⟩,hb=>by
  rw [e] at hb
  rcases List.mem_append.1 hb with hb | hb
  ·exact Asn.own _ p hb
  ·exact TF.own q hb
theorem TF.lt {h:Hp}{L:List Asn}{F:List Nat}{b:Nat}(t:TF h L F) (hb:b ∈ F):b < h.length:=let ⟨_,e,_⟩:=t.own hb; Mr e
theorem Asn.lt {P:Asn}{h:Hp}{F:List Nat}{b:Nat}(t:P.at_ h F) (hb:b ∈ F):b < h.length:=let ⟨_,e,_⟩:=P.own t hb; Mr e
theorem TF.front {h:Hp}{P:Asn}:∀ {i:Nat}{L:List Asn}{F:List Nat},TF h L F->L[i]? = some P->∃ F',TF h (P::L.eraseIdx i) F'/\F'.Perm F
 | _,[],_,_,e=>by simp at e
 | 0,Q::L,F,t,e=>by
  simp at e; subst e
  exact ⟨F,t,List.Perm.refl _⟩
 | i + 1,Q::L,F,⟨F1,F2,e0,p,q⟩,e=>by
  obtain ⟨F',⟨G1,G2,e1,p1,q1⟩,hp⟩:=TF.front q (by simpa using e)
  subst e0 e1
  refine ⟨G1++(F1++G2),⟨G1,_,rfl,p1,F1,G2,rfl,p,q1⟩,?_⟩
  have h1:(G1++(F1++G2)).Perm (F1++(G1++G2)):=by
   rw [<-List.append_assoc,<-List.append_assoc]
   exact List.Perm.append_right _ List.perm_append_comm
  exact h1.trans (List.Perm.append_left _ hp)
theorem T.front {h:Hp}{L:List Asn}{P:Asn}(i:Nat) (t:T h L) (e:L[i]? = some P):T h (P::L.eraseIdx i) :=
 let ⟨_,t1,hn⟩:=t; let ⟨F',t2,hp⟩:=t1.front e; ⟨F',t2,hp.nodup_iff.2 hn⟩
theorem Jq {F1 F2:List Nat}:(F1++F2).Nodup↔F1.Nodup/\F2.Nodup/\∀ a ∈ F1,a ∉ F2:=by
 rw [List.nodup_append]
 constructor
 ·rintro ⟨h1,h2,h3⟩
  exact ⟨h1,h2,fun a ha hb=>h3 a ha a hb rfl⟩
 ·rintro ⟨h1,h2,h3⟩
  exact ⟨h1,h2,fun a ha b hb e=>h3 a ha (e ▸ hb)⟩
/-- The first assertion turns into another; the rest is as it was. -/
theorem T.act {h:Hp}{P:Asn}{L:List Asn}(t:T h (P::L)):∃ F,P.at_ h F/\F.Nodup/\(∀ (h':Hp) (P':Asn) (F':List Nat),P'.at_ h' F'->F'.Nodup->(∀ b,b ∉ F->b < h.length->h'[b]? = h[b]?)->(∀ b ∈ F',b ∈ F\/h.length<=b)->T h' (P'::L))/\∀ h':Hp,(∀ b,b ∉ F->b < h.length->h'[b]? = h[b]?)->T h' L:=by
 obtain ⟨F,⟨F1,F2,rfl,p,q⟩,hn⟩:=t
 obtain ⟨n1,n2,n3⟩:=Jq.1 hn
 have hq:∀ h':Hp,(∀ b,b ∉ F1->b < h.length->h'[b]? = h[b]?)->TF h' L F2:=fun h' hs=>q.loc fun b hb=>hs b (fun hb1=>n3 b hb1 hb) (q.lt hb)
 refine ⟨F1,p,n1,fun h' P' F' p' hn' hs hb=>⟨F'++F2,⟨F',F2,rfl,p',hq h' hs⟩,Jq.2 ⟨hn',n2,fun a ha ha2=>?_⟩⟩,fun h' hs=>⟨F2,hq h' hs,n2⟩⟩
 rcases hb a ha with h1 | h1
 ·exact n3 a h1 ha2
 ·have:=q.lt ha2; omega
theorem T.drop {h:Hp}{P:Asn}{L:List Asn}(t:T h (P::L)):T h L:=let ⟨_,_,_,_,k⟩:=t.act; k h fun _ _ _=>rfl
/-- New blocks, a new assertion. -/
theorem T.add {h h':Hp}{P:Asn}{L:List Asn}{F:List Nat}(t:T h L) (p:P.at_ h' F) (hn:F.Nodup) (hs:∀ b,b < h.length->h'[b]? = h[b]?) (hb:∀ b ∈ F,h.length<=b):T h' (P::L):=by
 obtain ⟨F2,q,n2⟩:=t
 exact ⟨F++F2,⟨F,F2,rfl,p,q.loc fun b hb=>hs b (q.lt hb)⟩,Jq.2 ⟨hn,n2,fun a ha ha2=>by have:=hb a ha; have:=q.lt ha2; omega⟩⟩
theorem T.nil {h:Hp}:T h []:=⟨[],rfl,List.nodup_nil⟩
/-- Two assertions as one. -/
def AFu (P Q:Asn):Asn where
 at_ h F:=∃ F1 F2,F=F1++F2/\P.at_ h F1/\Q.at_ h F2
 loc:=fun ⟨F1,F2,e,p,q⟩ k=>⟨F1,F2,e,P.loc p (fun b hb=>k b (by rw [e]; exact List.mem_append_left _ hb)),Q.loc q fun b hb=>k b (by rw [e]; exact List.mem_append_right _ hb)⟩
 own:=fun ⟨F1,F2,e,p,q⟩ hb=>by
  rw [e] at hb
  rcases List.mem_append.1 hb with hb | hb
  ·exact P.own p hb
  ·exact Q.own q hb
theorem T.join {h:Hp}{P Q:Asn}{L:List Asn}:T h (P::Q::L)↔T h (AFu P Q::L):=by
 constructor
 ·rintro ⟨F,⟨F1,F2,rfl,p,⟨G1,G2,rfl,q,r⟩⟩,hn⟩
  exact ⟨_,⟨F1++G1,G2,(List.append_assoc _ _ _).symm,⟨F1,G1,rfl,p,q⟩,r⟩,hn⟩
 ·rintro ⟨F,⟨F1,F2,rfl,⟨G1,G2,rfl,p,q⟩,r⟩,hn⟩
  exact ⟨_,⟨G1,G2++F2,List.append_assoc _ _ _,p,G2,F2,rfl,q,r⟩,hn⟩
/-- An own value. -/
def own_ {α:Type}(o:Oc α) (e:AV) (x:α):Asn:=⟨fun h F=>o.at_ h e x F,o.loc,o.own⟩
/-- A cell of its own (a variable that closures hold, a struct with an address). -/
def cel (p:AV) (k:Nat) (t:TypeId) (a:AV):Asn where
 at_ h F:=∃ b,p = .pt b 0 0/\F=[b]/\h[b]? = some (some ⟨k,t,[a],false⟩)
 loc:=fun ⟨b,e1,e2,e3⟩ k=>⟨b,e1,e2,(k b (by rw [e2]; simp)).trans e3⟩
 own:=fun ⟨b,e1,e2,e3⟩ hb=>by
  rw [e2] at hb
  simp at hb
  subst hb
  exact ⟨_,e3,rfl⟩
/-- A value as it is. -/
def ocV {α:Type}(c:Cd α):Oc α where
 cd:=c
 at_ _ e x F:=e=c.enc x/\F=[]
 loc h _:=h
 own h hb:=by rw [h.2] at hb; cases hb
 vr:=fun {w Z R h e x F u} _ ha hv=>by
  rw [ha.1] at hv
  exact (Mv (c.nr x) hv).mono (fun _ _=>rfl) (fun _ h=> .inl h) (fun _ _ h=>h)
section
variable {α:Type}{p p':AV->α->List Nat->Prop}
def All3 (p:AV->α->List Nat->Prop):List AV->List α->List Nat->Prop
 | [],[],F=>F=[]
 | e::es,x::xs,F=>∃ F1 F2,F=F1++F2/\p e x F1/\All3 p es xs F2
 | _,_,_=>False
def All3h (p:AV->α->List Nat->Prop):Nat->AV->List AV->List α->List Nat->Prop
 | 0,e',e::es,_::xs,F=>e=e'/\All3 p es xs F
 | j + 1,e',e::es,x::xs,F=>∃ F1 F2,F=F1++F2/\p e x F1/\All3h p j e' es xs F2
 | _,_,_,_,_=>False
theorem All3.len:∀ {es:List AV}{xs:List α}{F:List Nat},All3 p es xs F->es.length=xs.length
 | [],[],_,_=>rfl
 | _::_,_::_,_,⟨_,_,_,_,h⟩=>by simp [All3.len h]
 | [],_::_,_,h=>h.elim
 | _::_,[],_,h=>h.elim
theorem All3.mono:∀ {es:List AV}{xs:List α}{F:List Nat},All3 p es xs F->(∀ e x F',(∀ b ∈ F',b ∈ F)->p e x F'->p' e x F')->All3 p' es xs F
 | [],[],_,h,_=>h
 | _::_,_::_,_,⟨F1,F2,e,h1,h2⟩,k=>⟨F1,F2,e,k _ _ F1 (fun b hb=>by rw [e]; exact List.mem_append_left _ hb) h1,h2.mono fun e' x F' hF=>k e' x F' fun b hb=>by rw [e]; exact List.mem_append_right _ (hF b hb)⟩
 | [],_::_,_,h,_=>h.elim
 | _::_,[],_,h,_=>h.elim
theorem All3h.mono:∀ {j:Nat}{e':AV}{es:List AV}{xs:List α}{F:List Nat},All3h p j e' es xs F->(∀ e x F',(∀ b ∈ F',b ∈ F)->p e x F'->p' e x F')->All3h p' j e' es xs F
 | 0,_,_::_,_::_,_,⟨h1,h2⟩,k=>⟨h1,h2.mono k⟩
 | _ + 1,_,_::_,_::_,_,⟨F1,F2,e,h1,h2⟩,k=>⟨F1,F2,e,k _ _ F1 (fun b hb=>by rw [e]; exact List.mem_append_left _ hb) h1,h2.mono fun e' x F' hF=>k e' x F' fun b hb=>by rw [e]; exact List.mem_append_right _ (hF b hb)⟩
 | 0,_,[],_,_,h,_=>by unfold All3h at h; exact h.elim
 | 0,_,_::_,[],_,h,_=>by unfold All3h at h; exact h.elim
 | _ + 1,_,[],_,_,h,_=>by unfold All3h at h; exact h.elim
 | _ + 1,_,_::_,[],_,h,_=>by unfold All3h at h; exact h.elim
theorem All3.get:∀ {es:List AV}{xs:List α}{F:List Nat}{i:Nat}{x:α},All3 p es xs F->xs[i]? = some x->∃ e Fi,es[i]? = some e/\p e x Fi/\∀ b ∈ Fi,b ∈ F
 | _::_,_::_,_,0,_,⟨F1,F2,e,h1,h2⟩,hx=>by
  simp at hx; subst hx
  exact ⟨_,F1,rfl,h1,fun b hb=>by rw [e]; exact List.mem_append_left _ hb⟩
 | _::_,_::_,_,i + 1,_,⟨F1,F2,e,h1,h2⟩,hx=>by
  obtain ⟨e',Fi,k1,k2,k3⟩:=h2.get (i:=i) (by simpa using hx)
  exact ⟨e',Fi,by simpa using k1,k2,fun b hb=>by rw [e]; exact List.mem_append_right _ (k3 b hb)⟩
 | [],[],_,_,_,_,hx=>by simp at hx
 | [],_::_,_,_,_,h,_=>h.elim
 | _::_,[],_,_,_,h,_=>h.elim
theorem All3.hole:∀ {es:List AV}{xs:List α}{F:List Nat}{i:Nat}{x:α},All3 p es xs F->xs[i]? = some x->∃ e' Fi F',es[i]? = some e'/\p e' x Fi/\All3h p i e' es xs F'/\(Fi++F').Perm F
 | _::_,_::_,_,0,_,⟨F1,F2,e,h1,h2⟩,hx=>by
  simp at hx; subst hx
  exact ⟨_,F1,F2,rfl,h1,⟨rfl,h2⟩,e ▸ List.Perm.refl _⟩
 | _::_,_::_,_,i + 1,_,⟨F1,F2,e,h1,h2⟩,hx=>by
  obtain ⟨e',Fi,F',k1,k2,k3,k4⟩:=h2.hole (i:=i) (by simpa using hx)
  refine ⟨e',Fi,F1++F',by simpa using k1,k2,⟨F1,F',rfl,h1,k3⟩,?_⟩
  rw [e]
  have:(Fi++(F1++F')).Perm (F1++(Fi++F')):=by
   rw [<-List.append_assoc,<-List.append_assoc]
   exact List.Perm.append_right _ List.perm_append_comm
  exact this.trans (List.Perm.append_left _ k4)
 | [],[],_,_,_,_,hx=>by simp at hx
 | [],_::_,_,_,_,h,_=>h.elim
 | _::_,[],_,_,_,h,_=>h.elim
theorem All3h.fill {e'':AV}{y:α}{Fi:List Nat}(hp:p e'' y Fi):∀ {j:Nat}{e':AV}{es:List AV}{xs:List α}{F':List Nat},All3h p j e' es xs F'->∃ F,All3 p (es.set j e'') (xs.set j y) F/\F.Perm (Fi++F')
 | 0,_,_::_,_::_,F',⟨_,h2⟩=>⟨Fi++F',⟨Fi,F',rfl,hp,h2⟩,List.Perm.refl _⟩
 | _ + 1,_,_::_,_::_,_,⟨F1,F2,e,h1,h2⟩=>by
  obtain ⟨F,k1,k2⟩:=All3h.fill hp h2
  refine ⟨F1++F,⟨F1,F,rfl,h1,k1⟩,?_⟩
  rw [e]
  refine (List.Perm.append_left F1 k2).trans ?_
  rw [<-List.append_assoc,<-List.append_assoc]
  exact List.Perm.append_right _ List.perm_append_comm
 | 0,_,[],_,_,h=>by unfold All3h at h; exact h.elim
 | 0,_,_::_,[],_,h=>by unfold All3h at h; exact h.elim
 | _ + 1,_,[],_,_,h=>by unfold All3h at h; exact h.elim
 | _ + 1,_,_::_,[],_,h=>by unfold All3h at h; exact h.elim
theorem All3h.at_:∀ {j:Nat}{e':AV}{es:List AV}{xs:List α}{F':List Nat},All3h p j e' es xs F'->es[j]? = some e'/\es.length=xs.length/\j < xs.length
 | 0,_,_::_,_::_,_,⟨h1,h2⟩=>⟨by simp [h1],by simp [h2.len],by simp⟩
 | _ + 1,_,_::_,_::_,_,⟨_,_,_,_,h2⟩=>by
  obtain ⟨k1,k2,k3⟩:=h2.at_
  exact ⟨by simpa using k1,by simp [k2],by simp; omega⟩
 | 0,_,[],_,_,h=>by unfold All3h at h; exact h.elim
 | 0,_,_::_,[],_,h=>by unfold All3h at h; exact h.elim
 | _ + 1,_,[],_,_,h=>by unfold All3h at h; exact h.elim
 | _ + 1,_,_::_,[],_,h=>by unfold All3h at h; exact h.elim
theorem All3.append:∀ {es:List AV}{xs:List α}{F:List Nat}{es':List AV}{xs':List α}{F':List Nat},All3 p es xs F->All3 p es' xs' F'->All3 p (es++es') (xs++xs') (F++F')
 | [],[],_,_,_,_,h,h'=>by rw [show _=[] from h]; exact h'
 | _::_,_::_,_,_,_,_,⟨F1,F2,e,h1,h2⟩,h'=>⟨F1,_,by rw [e,List.append_assoc],h1,h2.append h'⟩
 | [],_::_,_,_,_,_,h,_=>h.elim
 | _::_,[],_,_,_,_,h,_=>h.elim
theorem All3.mem:∀ {es:List AV}{xs:List α}{F:List Nat}{b:Nat},All3 p es xs F->b ∈ F->∃ e x F',p e x F'/\b ∈ F'
 | [],[],_,_,h,hb=>by rw [show _=[] from h] at hb; cases hb
 | _::_,_::_,_,_,⟨F1,F2,e,h1,h2⟩,hb=>by
  rw [e] at hb
  rcases List.mem_append.1 hb with hb | hb
  ·exact ⟨_,_,F1,h1,hb⟩
  ·exact h2.mem hb
 | [],_::_,_,_,h,_=>h.elim
 | _::_,[],_,_,h,_=>h.elim
theorem All3h.mem:∀ {j:Nat}{e':AV}{es:List AV}{xs:List α}{F:List Nat}{b:Nat},All3h p j e' es xs F->b ∈ F->∃ e x F',p e x F'/\b ∈ F'
 | 0,_,_::_,_::_,_,_,⟨_,h2⟩,hb=>h2.mem hb
 | _ + 1,_,_::_,_::_,_,_,⟨F1,F2,e,h1,h2⟩,hb=>by
  rw [e] at hb
  rcases List.mem_append.1 hb with hb | hb
  ·exact ⟨_,_,F1,h1,hb⟩
  ·exact h2.mem hb
 | 0,_,[],_,_,_,h,_=>by unfold All3h at h; exact h.elim
 | 0,_,_::_,[],_,_,h,_=>by unfold All3h at h; exact h.elim
 | _ + 1,_,[],_,_,_,h,_=>by unfold All3h at h; exact h.elim
 | _ + 1,_,_::_,[],_,_,h,_=>by unfold All3h at h; exact h.elim
end
/-- Leaves. -/
theorem Of {α:Type}{c:Cd α}{h:Hp}:∀ {xs:List α},All3 ((ocV c).at_ h) (xs.map c.enc) xs []
 | []=>rfl
 | _x::_=>⟨[],[],rfl,⟨rfl,rfl⟩,Of⟩
theorem All3.leaf_inv {α:Type}{c:Cd α}{h:Hp}:∀ {es:List AV}{xs:List α}{F:List Nat},All3 ((ocV c).at_ h) es xs F->es=xs.map c.enc/\F=[]
 | [],[],_,e=>⟨rfl,e⟩
 | _::_,_::_,_,⟨F1,F2,e,h1,h2⟩=>by
  obtain ⟨k1,k2⟩:=h2.leaf_inv
  exact ⟨by rw [k1,h1.1]; rfl,by rw [e,h1.2,k2]; rfl⟩
 | [],_::_,_,h=>h.elim
 | _::_,[],_,h=>h.elim
/-- An own slice of own values. -/
def ocL {α:Type}(k:Nat) (t:TypeId) (o:Oc α):Oc (List α) where
 cd:=cdL k o.cd
 at_ h e xs F:=(e = .e0/\xs=[]/\F=[])\/∃ b es F',e = .rf b 0 xs.length xs.length/\h[b]? = some (some ⟨k,t,es,false⟩)/\F=b::F'/\All3 (o.at_ h) es xs F'
 loc:=fun {h h' e x F} ha k=>by
  rcases ha with h1 | ⟨b,es,F',h1,h2,h3,h4⟩
  ·exact .inl h1
  ·subst h3
   exact .inr ⟨b,es,F',h1,(k b (by simp)).trans h2,rfl,h4.mono fun e x G hG h5=>o.loc h5 fun c hc=>k c (List.mem_cons_of_mem _ (hG c hc))⟩
 own:=fun {h e x F b} ha hb=>by
  rcases ha with ⟨_,_,h1⟩ | ⟨b',es,F',h1,h2,h3,h4⟩
  ·rw [h1] at hb; cases hb
  ·subst h3
   rcases List.mem_cons.1 hb with rfl | hb
   ·exact ⟨_,h2,rfl⟩
   ·obtain ⟨e,x,G,k1,k2⟩:=h4.mem hb
    exact o.own k1 k2
 vr:=fun {w Z R h e xs F u} hh ha hv=>by
  rcases ha with ⟨rfl,rfl,rfl⟩ | ⟨b,es,F',rfl,h2,rfl,h4⟩
  ·cases hv
   exact .sl (us:=[]) rfl rfl (Nat.le_refl _) (by unfold maxLen; omega) (fun h=>by omega) (fun i x u hx=>by simp at hx)
  ·obtain ⟨r,arr,us,g1,g2,g3,g4,g5,g6,g7,g8,g9,g10⟩:=hh.blk b _ h2
   have hl:=h4.len
   cases hv with
   | rf hr' q0 q1 q2 q3 =>
    rename_i c r'
    rw [g1] at hr'
    injection hr' with hr'
    subst hr'
    have hul:us.length=es.length:=g9.len
    refine .sl (us:=us) (by simp) (by simp; omega) (by omega) (by omega) (fun _=>⟨⟨r.c,0 * r.k,none⟩,rfl,rfl,.inr ⟨b,by simp,r,g1,rfl⟩,fun i u hu=>?_⟩) (fun i x u hx hu=>?_)
    ·obtain ⟨k1,k2,k3⟩:=g10 i u hu
     refine ⟨k1,k2,fun j q hq=>?_⟩
     have:=k3 j q hq
     rw [Nat.zero_mul,Nat.zero_add]
     simp only [World.cell?,g3]
     simpa using this
    ·rw [List.getElem?_map] at hx
     obtain ⟨y,hy,rfl⟩:=Option.map_eq_some_iff.1 hx
     obtain ⟨e,Fi,k1,k2,k3⟩:=h4.get hy
     have hvi:=g9.at_ i e u k1 hu
     exact (o.vr hh k2 hvi).mono (fun _ _=>rfl) (fun c hc=>hc.imp_right fun ⟨b',hb',hr⟩=>⟨b',List.mem_cons_of_mem _ (k3 b' hb'),hr⟩) (fun _ _ h=>h)
/-- What may be laid in a cell of k cells. -/
def Fit {α:Type}(o:Oc α) (k:Nat):Prop:=∀ (h:Hp) (e:AV) (x:α) (F:List Nat),o.at_ h e x F->e.nc=k/\e.notTp=true/\elm e.cel=e
theorem ZE (e:AV):e.cel.length=e.nc:=by cases e <;> rfl
theorem SS {α:Type}{c:Cd α}{k:Nat}(h:∀ x,(c.enc x).nc=k/\(c.enc x).notTp=true/\elm (c.enc x).cel=c.enc x):Fit (ocV c) k:=fun _ e x _ hx=>by
 rw [hx.1]; exact h x
theorem ACJ {α:Type}{o:Oc α}{k:Nat}{t:TypeId}:Fit (ocL k t o) 1:=fun h e x F hx=>by
 rcases hx with ⟨rfl,_,_⟩ | ⟨b,es,F',rfl,_⟩
 ·exact ⟨rfl,rfl,rfl⟩
 ·exact ⟨rfl,rfl,rfl⟩
theorem All3.fit {α:Type}{o:Oc α}{k:Nat}(hf:Fit o k){h:Hp}:∀ {es:List AV}{xs:List α}{F:List Nat},All3 (o.at_ h) es xs F->∀ e ∈ es,e.nc=k/\e.notTp=true/\elm e.cel=e
 | [],[],_,_,e,he=>by cases he
 | _::_,_::_,_,⟨F1,F2,_,h1,h2⟩,e,he=>by
  rcases List.mem_cons.1 he with rfl | he
  ·exact hf _ _ _ _ h1
  ·exact h2.fit hf e he
 | [],_::_,_,h,_,_=>h.elim
 | _::_,[],_,h,_,_=>h.elim
/-- .. of which one element is held elsewhere. -/
def ADy {α:Type}(k:Nat) (t:TypeId) (o:Oc α) (e:AV) (xs:List α) (j:Nat) (e':AV) (x0:α):Asn where
 at_ h F:=∃ b es F',e = .rf b 0 xs.length xs.length/\h[b]? = some (some ⟨k,t,es,false⟩)/\F=b::F'/\All3h (o.at_ h) j e' es xs F'/\(e'.nc=k/\elm e'.cel=e')/\xs[j]? = some x0
 loc:=fun {h h' F} ⟨b,es,F',h1,h2,h3,h4,h5⟩ k=>by
  subst h3
  exact ⟨b,es,F',h1,(k b (by simp)).trans h2,rfl,h4.mono fun e x G hG h5=>o.loc h5 fun c hc=>k c (List.mem_cons_of_mem _ (hG c hc)),h5⟩
 own:=fun {h F b} ⟨b',es,F',h1,h2,h3,h4,_⟩ hb=>by
  subst h3
  rcases List.mem_cons.1 hb with rfl | hb
  ·exact ⟨_,h2,rfl⟩
  ·obtain ⟨e,x,G,k1,k2⟩:=h4.mem hb
   exact o.own k1 k2
/-- The address of an element. -/
def eAt:AV->Nat->AV
 | .rf b lo _ _,i=> .pt b (lo + i) 0
 | x,_=>x
def Vk:AV->Nat->AV
 | .pt b i o,n=> .pt b i (o + n)
 | x,_=>x
section
variable {α:Type}{o:Oc α}{k j:Nat}{t:TypeId}{e e':AV}{xs:List α}{x y:α}{h:Hp}{L:List Asn}{c:Cd α}
theorem T.e0 {k:Nat}{ty:TypeId}(t:T h L):T h (own_ (ocL k ty o) .e0 []::L):=t.add (F:=[]) (.inl ⟨rfl,rfl,rfl⟩) List.nodup_nil (fun _ _=>rfl) (fun _ h=>by cases h)
/-- An element is held apart. -/
theorem T.focus (hf:Fit o k) (ht:T h (own_ (ocL k t o) e xs::L)) (hx:xs[j]? = some x):∃ e',T h (own_ o e' x::ADy k t o e xs j e' x::L):=by
 obtain ⟨F,⟨F1,F2,rfl,p,q⟩,hn⟩:=ht
 rcases p with ⟨_,rfl,_⟩ | ⟨b,es,F',h1,h2,rfl,h4⟩
 ·simp at hx
 ·obtain ⟨e',Fi,F'',k1,k2,k3,k4⟩:=h4.hole hx
  refine ⟨e',Fi++((b::F'')++F2),⟨Fi,_,rfl,k2,_,F2,rfl,⟨b,es,F'',h1,h2,rfl,k3,⟨(hf _ _ _ _ k2).1,(hf _ _ _ _ k2).2.2⟩,hx⟩,q⟩,?_⟩
  refine List.Perm.nodup_iff (?_:List.Perm _ ((b::F')++F2)) |>.2 hn
  rw [<-List.append_assoc]
  refine List.Perm.append_right _ ?_
  exact List.perm_middle.trans (List.Perm.cons _ k4)
end
section
variable {P:Program}{α:Type}{o:Oc α}{k j m off:Nat}{t ty ty2 el:TypeId}{e e' y:AV}{xs ys vs:List α}{x v v':α}{h:Hp}{L:List Asn}{c:Cd α}{i:Int}{ki:IntKind}{g:Bool}
theorem ACc (ht:T h (own_ (ocL k t o) e xs::L)) (hu:P.underlying ty=some (.slice el)):SP P ty e=some (eI xs.length):=by
 obtain ⟨F,p,_⟩:=ht.act
 rcases p with ⟨rfl,rfl,_⟩ | ⟨b,es,F',rfl,_⟩
 ·simp [SP,hu,eI]
 ·simp [SP,hu,eI]
theorem AD2 (ht:T h (own_ (ocL k t o) e xs::L)) (hu:P.underlying ty=some (.slice el)) (hs:Dx P el=some k) (hv:idx xs i=some v):FJ P h ty e (.v (.int ki i))=some (eAt e i.toNat):=by
 obtain ⟨F,p,_⟩:=ht.act
 obtain ⟨h0,h1⟩:=H6 hv
 rcases p with ⟨rfl,rfl,_⟩ | ⟨b,es,F',rfl,h2,_⟩
 ·simp at h1
 ·rw [AD3 hu hs h2 rfl h0 (List.getElem?_eq_some_iff.1 h1).1]
  simp [eAt]
theorem ACV (ht:T h (ADy k t o e xs j e' x::L)) (hu:P.underlying ty=some (.slice el)) (hs:Dx P el=some k) (hv:idx xs i=some v):FJ P h ty e (.v (.int ki i))=some (eAt e i.toNat):=by
 obtain ⟨F,p,_⟩:=ht.act
 obtain ⟨h0,h1⟩:=H6 hv
 obtain ⟨b,es,F',rfl,h2,_⟩:=p
 rw [AD3 hu hs h2 rfl h0 (List.getElem?_eq_some_iff.1 h1).1]
 simp [eAt]
theorem AD5 {n:Nat}(ht:T h (own_ (ocL k t (ocV c)) e xs::L)) (hv:xs[n]? = some v) (hm:Dx P ty=some m) (hg:V4 P ty=some g) (he:AAn (c.enc v) off m g=some y):J0 P h ty (Vk (eAt e n) off)=some y:=by
 obtain ⟨F,p,_⟩:=ht.act
 rcases p with ⟨rfl,rfl,_⟩ | ⟨b,es,F',rfl,h2,_,h4⟩
 ·simp at hv
 ·obtain ⟨rfl,_⟩:=h4.leaf_inv
  simp [J0,hm,hg,eAt,Vk,h2,hv,he]
theorem ACv (e:AV) (n:Nat):Vk (eAt e n) 0=eAt e n:=by cases e <;> rfl
theorem MN {n:Nat}(ht:T h (own_ (ocL k t (ocV c)) e xs::L)) (hv:xs[n]? = some v) (hm:Dx P ty=some m) (hg:V4 P ty=some g) (he:AAn (c.enc v) 0 m g=some y):J0 P h ty (eAt e n)=some y:=by
 have:=AD5 (off:=0) ht hv hm hg he
 rwa [ACv] at this
theorem AES {n:Nat}(ht:T h (own_ (ocL k t (ocV c)) e xs::L)) (hv:xs[n]? = some v) (hs:Dx P ty=some y.nc) (hn:y.notTp=true) (he:ABl (c.enc v) off y=some (c.enc v')):∃ h',Jm P h ty (Vk (eAt e n) off) y=some h'/\T h' (own_ (ocL k t (ocV c)) e (xs.set n v')::L):=by
 obtain ⟨F,p,hn',hk,_⟩:=ht.act
 rcases p with ⟨rfl,rfl,_⟩ | ⟨b,es,F',rfl,h2,rfl,h4⟩
 ·simp at hv
 ·obtain ⟨rfl,rfl⟩:=h4.leaf_inv
  have hb:=Mr h2
  refine ⟨h.set b (some ⟨k,t,(xs.set n v').map c.enc,false⟩),by simp [Jm,eAt,Vk,h2,hv,hs,hn,he],hk _ _ [b] (.inr ⟨b,(xs.set n v').map c.enc,[],by simp,by simp [hb],rfl,Of⟩) (by simp) (fun b' hb' _=>?_) (fun b' hb'=> .inl hb')⟩
  rw [List.getElem?_set,if_neg (by intro e; subst e; simp at hb')]
theorem Vv {n:Nat}(ht:T h (own_ (ocL k t (ocV c)) e xs::L)) (hv:xs[n]? = some v) (hs:Dx P ty=some y.nc) (hn:y.notTp=true) (he:ABl (c.enc v) 0 y=some (c.enc v')):∃ h',Jm P h ty (eAt e n) y=some h'/\T h' (own_ (ocL k t (ocV c)) e (xs.set n v')::L):=by
 have:=AES (off:=0) ht hv hs hn he
 rwa [ACv] at this
/-- An element that is an own slice itself. -/
theorem AAt {n:Nat}{k':Nat}{t':TypeId}{β:Type}{o:Oc β}{xs:List (List β)}{x:List β}(ht:T h (own_ (ocL 1 t (ocL k' t' o)) e xs::L)) (hv:xs[n]? = some x) (hm:Dx P ty=some 1) (hg:V4 P ty=some false):∃ e',J0 P h ty (eAt e n)=some e'/\T h (own_ (ocL k' t' o) e' x::ADy 1 t (ocL k' t' o) e xs n e' x::L):=by
 obtain ⟨e',ht'⟩:=ht.focus ACJ hv
 refine ⟨e',?_,ht'⟩
 obtain ⟨F,p,_⟩:=ht'.act
 have hc:e'.cel=[e']:=by
  rcases p with ⟨rfl,_⟩ | ⟨b,es,F',rfl,_⟩ <;> rfl
 obtain ⟨F2,q,_⟩:=(T.drop ht').act
 obtain ⟨b,es,F',rfl,h2,_,h4,_⟩:=q
 obtain ⟨a1,_,_⟩:=h4.at_
 simp [J0,hm,hg,eAt,h2,a1,AAn,hc]
/-- An own value is laid into a hole of another. -/
theorem AC1 {n:Nat}{x0:α}(hf:Fit o k) (ht:T h (ADy k t o e xs n e' x0::own_ o y x::L)) (hm:Dx P ty=some k):∃ h',Jm P h ty (eAt e n) y=some h'/\T h' (own_ (ocL k t o) e (xs.set n x)::L):=by
 obtain ⟨F,p,hn',hk,_⟩:=(T.join.1 ht).act
 obtain ⟨F1,F2,rfl,⟨b,es,F',rfl,h2,rfl,h4,⟨h5,h6⟩,_⟩,q⟩:=p
 obtain ⟨a1,a2,a3⟩:=h4.at_
 have hb:=Mr h2
 obtain ⟨F'',k1,k2⟩:=h4.fill q
 obtain ⟨y1,y2,y3⟩:=hf _ _ _ _ q
 have hs:ABl e' 0 y=some y:=by
  unfold ABl
  have l1:=ZE e'
  have l2:=ZE y
  rw [if_pos (by omega),List.drop_eq_nil_of_le (by omega)]
  simpa using y3
 have hbn:b ∉ F'':=fun hb'=>by
  have:=k2.mem_iff.1 hb'
  rcases List.mem_append.1 this with h1 | h1
  ·exact (Jq.1 hn').2.2 b (by simp) h1
  ·exact (List.nodup_cons.1 (Jq.1 hn').1).1 h1
 have same:∀ c,c≠b->(h.set b (some ⟨k,t,es.set n y,false⟩))[c]? = h[c]?:=fun c hc=>by rw [List.getElem?_set,if_neg (Ne.symm hc)]
 refine ⟨h.set b (some ⟨k,t,es.set n y,false⟩),by simp [Jm,eAt,h2,a1,hm,y1,y2,hs],hk _ _ (b::F'') (.inr ⟨b,es.set n y,F'',by simp,by simp [hb],rfl,k1.mono fun e x G hG h5=>o.loc h5 fun c hc=>same c fun e=>hbn (e ▸ hG c hc)⟩) (List.nodup_cons.2 ⟨hbn,k2.nodup_iff.2 ?_⟩) (fun c hc _=>same c fun e=>hc (by subst e; simp)) (fun c hc=> .inl ?_)⟩
 ·obtain ⟨n1,n2,n3⟩:=Jq.1 hn'
  exact Jq.2 ⟨n2,(List.nodup_cons.1 n1).2,fun a ha ha2=>n3 a (List.mem_cons_of_mem _ ha2) ha⟩
 ·rcases List.mem_cons.1 hc with rfl | hc
  ·simp
  ·rcases List.mem_append.1 (k2.mem_iff.1 hc) with h1 | h1
   ·exact List.mem_append_right _ h1
   ·exact List.mem_append_left _ (List.mem_cons_of_mem _ h1)
/-- Loose elements. -/
def els {α:Type}(o:Oc α) (es:List AV) (xs:List α):Asn where
 at_ h F:=All3 (o.at_ h) es xs F
 loc:=fun h k=>h.mono fun _e _x _G hG h5=>o.loc h5 fun c hc=>k c (hG c hc)
 own:=fun h hb=>let ⟨_,_,_,q1,q2⟩:=h.mem hb; o.own q1 q2
theorem ACA (ht:T h L):T h (els o [] []::L):=ht.add (F:=[]) rfl List.nodup_nil (fun _ _=>rfl) (fun _ h=>by cases h)
theorem AAf {es:List AV}(ht:T h (own_ o e x::els o es xs::L)):T h (els o (e::es) (x::xs)::L):=by
 obtain ⟨F,p,hn',hk,_⟩:=(T.join.1 ht).act
 obtain ⟨F1,F2,rfl,p,q⟩:=p
 exact hk h _ (F1++F2) ⟨F1,F2,rfl,p,q⟩ hn' (fun _ _ _=>rfl) (fun b hb=> .inl hb)
theorem ID (ht:T h L):T h (els (ocV c) (xs.map c.enc) xs::L):=ht.add (F:=[]) Of List.nodup_nil (fun _ _=>rfl) (fun _ h=>by cases h)
/-- The elements of an own slice. -/
theorem ACB (ht:T h (own_ (ocL k t o) y ys::L)) (hu:P.underlying ty2=some (.slice el)):∃ ey,T h (els o ey ys::L)/\Nq h k y=some ey/\N3 P ty2 y=true:=by
 obtain ⟨F,p,hn,hk,_⟩:=ht.act
 rcases p with ⟨rfl,rfl,rfl⟩ | ⟨b,es,F',rfl,h2,rfl,h4⟩
 ·exact ⟨[],hk h _ [] rfl List.nodup_nil (fun _ _ _=>rfl) (fun _ h=>by cases h),by simp [Nq],by simp [N3,hu]⟩
 ·refine ⟨es,hk h _ F' h4 (List.nodup_cons.1 hn).2 (fun _ _ _=>rfl) (fun b hb=> .inl (List.mem_cons_of_mem _ hb)),?_,by simp [N3,hu]⟩
  have hl:=h4.len
  simp [Nq,h2,<-hl]
/-- A growing own slice takes elements. -/
theorem Y6 {bytes:Nat}{i:TypeInfo}{z:AV}{ey:List AV}(ht:T h (own_ (ocL k t o) e xs::els o ey ys::L)) (hsy:N3 P ty2 y=true) (hel:Nq h k y=some ey) (hte:Ke P ty=some t) (hi:P.info? t=some i) (hz:JK P t=some z) (hk:i.size=k) (h0:Nat.blt 0 k=true) (hzn:z.nc=k) (hzt:z.notTp=true) (hib:i.bytes=bytes) (hc:EK bytes (xs.length + ys.length)=true) :
  ∃ e' h',FP P h ty ty2 e y=some (e',h')/\T h' (own_ (ocL k t o) e' (xs++ys)::L):=by
 subst hib hk
 obtain ⟨F,p,hn',hk,hk0⟩:=(T.join.1 ht).act
 obtain ⟨F1,Fy,rfl,px,hy4⟩:=p
 obtain ⟨n1,n2,n3⟩:=Jq.1 hn'
 obtain ⟨c1,c2⟩:=QX hc
 have h0':0 < i.size:=Nat.le_of_ble_eq_true h0
 have hly:ey.length=ys.length:=All3.len hy4
 have hlt:∀ c,c ∈ F1++Fy->c < h.length:=fun c hc=>by
  rcases List.mem_append.1 hc with hc | hc
  ·obtain ⟨B,q,_⟩:=(ocL i.size t o).own px hc
   exact Mr q
  ·obtain ⟨B,q,_⟩:=(els o ey ys).own hy4 hc
   exact Mr q
 cases hey:ey with
 | nil =>
  subst hey
  have:ys=[]:=by cases ys with | nil=>rfl | cons a b=>simp at hly
  subst this
  refine ⟨e,h,?_,?_⟩
  ·rcases px with ⟨rfl,_⟩ | ⟨b,es,F',rfl,_⟩ <;> simp [FP,hsy,hte,hi,hz,hel]
  ·rw [List.append_nil]
   exact hk h _ F1 px n1 (fun _ _ _=>rfl) (fun b hb=> .inl (List.mem_append_left _ hb))
 | cons a r =>
  have he:ey.isEmpty=false:=by rw [hey]; rfl
  have hne:0 < ys.length:=by rw [<-hly,hey]; simp
  rcases px with ⟨rfl,rfl,rfl⟩ | ⟨bx,ex,Fx,rfl,hx2,rfl,hx4⟩
  ·have hc1:ey.length * i.bytes<=140737488355328/\ey.length<=140737488355328:=by
    rw [hly]; simp at c1 c2; exact ⟨c1,c2⟩
   refine ⟨.rf h.length 0 ys.length ys.length,h++[some ⟨i.size,t,ey,false⟩],?_,hk _ _ (h.length::Fy) (.inr ⟨h.length,ey,Fy,rfl,by simp,rfl,hy4.mono fun e x G hG h5=>o.loc h5 fun c hc=>List.getElem?_append_left (hlt c (List.mem_append_right _ (hG c hc)))⟩) (List.nodup_cons.2 ⟨fun hb=>by have:=hlt _ (List.mem_append_right _ hb); omega,n2⟩) (fun c _ hc=>List.getElem?_append_left hc) (fun c hc=>?_)⟩
   ·simp only [FP,hsy,hte,hi,hz,hel,he]
    rw [if_neg (by simp),if_neg (by simp),if_pos ⟨h0',hzn,hzt⟩,if_pos hc1,hly]
   ·rcases List.mem_cons.1 hc with rfl | hc
    ·exact .inr (Nat.le_refl _)
    ·exact .inl (List.mem_append_right _ hc)
  ·have hlx:ex.length=xs.length:=hx4.len
   have hbx:=Mr hx2
   have hbx':bx ∉ Fx:=(List.nodup_cons.1 n1).1
   have hby':bx ∉ Fy:=n3 bx (by simp)
   have same:∀ c,c≠bx->c < h.length->((h.set bx none)++[some ⟨i.size,t,ex++ey,false⟩])[c]? = h[c]?:=fun c hc hlt=>by
    rw [List.getElem?_append_left (by simpa using hlt),List.getElem?_set,if_neg (Ne.symm hc)]
   refine ⟨.rf h.length 0 (xs++ys).length (xs++ys).length,(h.set bx none)++[some ⟨i.size,t,ex++ey,false⟩],?_,hk _ _ (h.length::(Fx++Fy)) (.inr ⟨h.length,ex++ey,Fx++Fy,rfl,?_,rfl,All3.append (hx4.mono fun e x G hG h5=>o.loc h5 fun c hc=>same c (fun e=>hbx' (e ▸ hG c hc)) (hlt c (List.mem_append_left _ (List.mem_cons_of_mem _ (hG c hc))))) (hy4.mono fun e x G hG h5=>o.loc h5 fun c hc=>same c (fun e=>hby' (e ▸ hG c hc)) (hlt c (List.mem_append_right _ (hG c hc))))⟩) (List.nodup_cons.2 ⟨fun hb=>?_,?_⟩) (fun c hc hlt=>same c (fun e=>hc (by subst e; simp)) hlt) (fun c hc=>?_)⟩
   ·simp only [FP,hsy,hte,hi,hz,hel,he,hx2]
    rw [if_neg (by simp),if_neg (by simp),if_pos ⟨h0',hzn,hzt⟩,if_neg (by simp),if_neg (by omega),if_pos ⟨trivial,hlx.symm,by rw [hly]; exact c1,by rw [hly]; exact c2⟩]
    simp [hly]
   ·rw [List.getElem?_append_right (by simp)]; simp
   ·have:h.length < h.length:=hlt _ (by
     rcases List.mem_append.1 hb with hb | hb
     ·exact List.mem_append_left _ (List.mem_cons_of_mem _ hb)
     ·exact List.mem_append_right _ hb)
    omega
   ·exact Jq.2 ⟨(List.nodup_cons.1 n1).2,n2,fun a ha ha2=>n3 a (List.mem_cons_of_mem _ ha) ha2⟩
   ·rcases List.mem_cons.1 hc with rfl | hc
    ·exact .inr (Nat.le_refl _)
    ·rcases List.mem_append.1 hc with h1 | h1
     ·exact .inl (List.mem_append_left _ (List.mem_cons_of_mem _ h1))
     ·exact .inl (List.mem_append_right _ h1)
theorem ABv {bytes:Nat}{i:TypeInfo}{z:AV}(ht:T h (own_ (ocL k t o) e xs::own_ (ocL k t o) y ys::L)) (hu:P.underlying ty2=some (.slice el)) (hte:Ke P ty=some t) (hi:P.info? t=some i) (hz:JK P t=some z) (hk:i.size=k) (h0:Nat.blt 0 k=true) (hzn:z.nc=k) (hzt:z.notTp=true) (hib:i.bytes=bytes) (hc:EK bytes (xs.length + ys.length)=true) :
  ∃ e' h',FP P h ty ty2 e y=some (e',h')/\T h' (own_ (ocL k t o) e' (xs++ys)::L):=by
 obtain ⟨ey,h1,h2,h3⟩:=ACB (ht.front 1 rfl) hu
 exact Y6 (h1.front 1 rfl) h3 h2 hte hi hz hk h0 hzn hzt hib hc
theorem AAP {bytes:Nat}{i:TypeInfo}{z:AV}(ht:T h (own_ (ocL k t (ocV c)) e xs::L)) (hsy:N3 P ty2 y=true) (hel:Nq h k y=some (ys.map c.enc)) (hte:Ke P ty=some t) (hi:P.info? t=some i) (hz:JK P t=some z) (hk:i.size=k) (h0:Nat.blt 0 k=true) (hzn:z.nc=k) (hzt:z.notTp=true) (hib:i.bytes=bytes) (hc:EK bytes (xs.length + ys.length)=true) :
  ∃ e' h',FP P h ty ty2 e y=some (e',h')/\T h' (own_ (ocL k t (ocV c)) e' (xs++ys)::L) :=
 Y6 ((ID ht).front 1 rfl) hsy hel hte hi hz hk h0 hzn hzt hib hc
/-- A block of elements. -/
theorem Zn {es:List AV}{n:Nat}(ht:T h (els o es xs::L)) (hn:xs.length=n):T (h++[some ⟨k,t,es,false⟩]) (own_ (ocL k t o) (.rf h.length 0 n n) xs::L):=by
 obtain ⟨F,p,hn',hk,_⟩:=ht.act
 have hlt:∀ c,c ∈ F->c < h.length:=fun c hc=>by
  obtain ⟨B,q,_⟩:=(els o es xs).own p hc
  exact Mr q
 refine hk _ _ (h.length::F) (.inr ⟨h.length,es,F,by rw [hn],by simp,rfl,All3.mono p fun e x G hG h5=>o.loc h5 fun c hc=>List.getElem?_append_left (hlt c (hG c hc))⟩) (List.nodup_cons.2 ⟨fun hb=>by have:=hlt _ hb; omega,hn'⟩) (fun c _ hc=>List.getElem?_append_left hc) (fun c hc=>?_)
 rcases List.mem_cons.1 hc with rfl | hc
 ·exact .inr (Nat.le_refl _)
 ·exact .inl hc
def Nr (i:Nat):List AV->List (Nat×AV)
 | []=>[]
 | e::r=>(i,e)::Nr (i + 1) r
theorem WR {z:AV}(hz:z.nc=k):∀ {es pre:List AV},(∀ e ∈ es,e.nc=k/\e.notTp=true/\elm e.cel=e)->VW (pre++List.replicate es.length z) k (Nr pre.length es)=some (pre++es)
 | [],pre,_=>by simp [Nr,VW]
 | e::r,pre,hf=>by
  obtain ⟨h1,h2,h3⟩:=hf e (by simp)
  have:=WR hz (es:=r) (pre:=pre++[e]) (fun e' he=>hf e' (by simp [he]))
  simp only [Nr,VW,List.length_cons,List.replicate_succ]
  rw [if_pos ⟨by simp,h1,h2⟩,h3]
  have e1:(pre++z::List.replicate r.length z).set pre.length e=(pre++[e])++List.replicate r.length z:=by simp
  rw [e1]
  simpa using this
theorem ACe {i:TypeInfo}{z:AV}{es:List AV}{n:Nat}(hf:Fit o k) (ht:T h (els o es xs::L)) (hn:es.length=n) (hte:Ke P ty=some t) (hi:P.info? t=some i) (hz:JK P t=some z) (hk:i.size=k) (h0:Nat.blt 0 k=true) (hb:Nat.ble (n * k) 65536=true) (hzn:z.nc=k) (hzt:z.notTp=true) (hze:elm z.cel=z) :
  ∃ e' h',VV P h ty n (Nr 0 es)=some (e',h')/\T h' (own_ (ocL k t o) e' xs::L):=by
 obtain ⟨F,p,_⟩:=ht.act
 have hl:es.length=xs.length:=All3.len p
 have:=WR hzn (es:=es) (pre:=[]) (All3.fit hf p)
 subst hn
 simp only [List.nil_append,List.length_nil] at this
 refine ⟨_,_,?_,Zn ht hl.symm⟩
 simp only [VV,hte,hi,hz,hk,hze]
 rw [if_pos ⟨Nat.le_of_ble_eq_true hb,Nat.le_of_ble_eq_true h0,hzn,hzt⟩,this]
/-- A cell of its own is made, read, written. -/
theorem P6 {a:AV}(ht:T h L) (hn:a.notTp=true):∃ p h',SO h t a=some (p,h')/\T h' (cel p a.nc t a::L):=by
 refine ⟨.pt h.length 0 0,h++[some ⟨a.nc,t,[a],false⟩],by simp [SO,hn],ht.add (F:=[h.length]) ⟨h.length,rfl,rfl,by simp⟩ (by simp) (fun b hb=>List.getElem?_append_left hb) (fun b hb=>by simp at hb; omega)⟩
theorem Zg {p a:AV}(ht:T h (cel p k t a::L)) (hm:Dx P ty=some m) (hg:V4 P ty=some g) (he:AAn a off m g=some y):J0 P h ty (Vk p off)=some y:=by
 obtain ⟨F,⟨b,rfl,rfl,h2⟩,_⟩:=ht.act
 simp [J0,hm,hg,Vk,h2,he]
theorem Jo {p a:AV}(ht:T h (cel p k t a::L)) (hm:Dx P ty=some m) (hg:V4 P ty=some g) (he:AAn a 0 m g=some y):J0 P h ty p=some y:=by
 have:=Zg (off:=0) ht hm hg he
 obtain ⟨F,⟨b,rfl,rfl,h2⟩,_⟩:=ht.act
 exact this
theorem AER {p a a':AV}(ht:T h (cel p k t a::L)) (hs:Dx P ty=some y.nc) (hn:y.notTp=true) (he:ABl a off y=some a'):∃ h',Jm P h ty (Vk p off) y=some h'/\T h' (cel p k t a'::L):=by
 obtain ⟨F,⟨b,rfl,rfl,h2⟩,hn',hk,_⟩:=ht.act
 have hb:=Mr h2
 refine ⟨h.set b (some ⟨k,t,[a'],false⟩),by simp [Jm,Vk,h2,hs,hn,he],hk _ _ [b] ⟨b,rfl,rfl,by simp [hb]⟩ (by simp) (fun c hc _=>?_) (fun c hc=> .inl hc)⟩
 rw [List.getElem?_set,if_neg (by intro e; subst e; simp at hc)]
theorem Tj {p a a':AV}(ht:T h (cel p k t a::L)) (hs:Dx P ty=some y.nc) (hn:y.notTp=true) (he:ABl a 0 y=some a'):∃ h',Jm P h ty p y=some h'/\T h' (cel p k t a'::L):=by
 have:=AER (off:=0) ht hs hn he
 obtain ⟨F,⟨b,rfl,rfl,h2⟩,_⟩:=ht.act
 exact this
theorem ACK {p a:AV}{fs:Array Field}{fd:Field}{f q:Nat}(ht:T h (cel p k t a::L)) (hu:P.underlying ty=some (.struct fs)) (hf:fs[f]? = some fd) (hs:Dx P fd.type=some (q + 1)):IX P ty p f=some (Vk p fd.offset):=by
 obtain ⟨F,⟨b,rfl,rfl,h2⟩,_⟩:=ht.act
 simp [IX,hu,hf,hs,Vk]
end
/-- What is own is written no more: it is a value as others. -/
def XR (F:List Nat) (h:Hp):Hp:=h.mapIdx fun i B=>if i ∈ F then none else B
theorem Qs {F:List Nat}{h:Hp}{b:Nat}{B:Blk}:(XR F h)[b]? = some (some B)↔b ∉ F/\h[b]? = some (some B):=by
 simp only [XR,List.getElem?_mapIdx]
 constructor
 ·intro hh
  obtain ⟨o,h1,h2⟩:=Option.map_eq_some_iff.1 hh
  split at h2
  ·cases h2
  ·next hb=>exact ⟨hb,by rw [h1,h2]⟩
 ·rintro ⟨h1,h2⟩
  rw [h2]; simp [h1]
theorem Yi {F:List Nat}{h:Hp}{b:Nat}(hb:b ∉ F):(XR F h)[b]? = h[b]?:=by
 simp only [XR,List.getElem?_mapIdx]
 cases h[b]? <;> simp [hb]
section
variable {E:Env}{n:Nat}{l l':List (Nat×AV)}{hp:Hp}{α:Type}{o:Oc α}{e:AV}{x:α}{L:List Asn}
/-- Slots that stay, and slots that turn. -/
def LkT (l:List (Nat×AV)) (e y:AV):List (Nat×AV)->Prop
 | []=>True
 | (t,z)::r=>(lk l t=some z\/(lk l t=some e/\z=y))/\LkT l e y r
theorem LkT.at_ {e y:AV}:∀ {l':List (Nat×AV)},LkT l e y l'->∀ t z,lk l' t=some z->lk l t=some z\/(lk l t=some e/\z=y)
 | [],_,t,z,h=>by cases h
 | (k,z0)::r,⟨h1,h2⟩,t,z,h=>by
  rw [MO] at h
  split at h
  ·next hk=>injection h with h; subst hk h; exact h1
  ·exact h2.at_ t z h
/-- Values as a call sees them. -/
def SeeV (hp:Hp) (x y:AV):Prop:=∀ (w:World) (Z:Nat->Prop) (R:List RI) (u:Value),HR w Z R hp->VR w Z R x u->VR w (fun c=>Z c\/own R hp c) [] y u
def Sees (hp:Hp) (xs ys:List AV):Prop:=∀ (w:World) (Z:Nat->Prop) (R:List RI) (us:List Value),HR w Z R hp->VRs w Z R xs us->VRs w (fun c=>Z c\/own R hp c) [] ys us
theorem Sees.nil:Sees hp [] []:=fun w Z R us _ h=>by
 have:us=[]:=by have:=h.len; simpa using this
 subst this
 exact .nil
theorem Sees.cons {x y:AV}{xs ys:List AV}(h:SeeV hp x y) (hs:Sees hp xs ys):Sees hp (x::xs) (y::ys):=fun w Z R us hh hv=>by
 obtain ⟨u,us',rfl,hu,hn⟩:=hv.head
 exact .cons (h w Z R u hh hu) (hs w Z R us' hh hn)
theorem SeeV.id {x:AV}(hx:F3 x=true):SeeV hp x x:=fun _w _Z _R _u _ hv=>(Mv hx hv).mono (fun _ _=>rfl) (fun _ h=> .inl h) (fun _ _ h=>h)
theorem SeeV.enc {c:Cd α}:SeeV hp (c.enc x) (c.enc x):= .id (c.nr x)
theorem SeeV.own {i:Nat}(ht:T hp L) (hi:L[i]? = some (own_ o e x)):SeeV hp e (o.cd.enc x):=fun w Z R u hh hv=>by
 obtain ⟨F,p,_⟩:=(ht.front i hi).act
 refine (o.vr hh p hv).mono (fun _ _=>rfl) (fun c hc=>hc.imp_right fun ⟨b,hb,r,hr,hc⟩=>?_) (fun _ _ h=>h)
 obtain ⟨B,k1,k2⟩:=o.own p hb
 exact ⟨b,B,r,k1,k2,hr,hc.symm⟩
theorem SeeV.ag {cs cs':List AV}(hs:Sees hp cs cs'):SeeV hp (.ag cs) (.ag cs'):=fun w Z R u hh hv=>by
 cases hv with
 | ag hl h1 hx =>
  have:=hs w Z R _ hh ⟨hl,hx⟩
  exact .ag this.len h1 this.at_
end
/-- The operations that are left, one by one, in the caller's blocks. -/
def RunL (E:Env) (cx:Cx) (ops:Array Oper) (rest:List Oper) (s:St) (K:St->Prop):Prop :=
 ∀ (ro:Option Nat) (base:Bs) (Q:Act->World->Prop) (a:Act) (w:World) (Z:Nat->Prop) (R:List RI),(cx.inR=false->ro=none)->SR E base w Z R s a->YI cx w Z R s.hp ->
  (∀ s' a' w' Z' R',K s'->SR E base w' Z' R' s' a'->Step w Z R s.hp w' Z' R' s'.hp->Q a' w')->LwL E.P ops Q rest a w
section
variable {E:Env}{cx:Cx}{ops:Array Oper}{pre rest rest':List Oper}{s s1:St}{K:St->Prop}{n m:Nat}{l l':List (Nat×AV)}{hp hp':Hp}{Q:Ex->St->Prop}{id:Nat}
theorem BU (hr:rest=[]) (k:K s):RunL E cx ops rest s K:=by
 subst hr
 exact fun ro base Q a w Z R _ sr _ q=>q s a w Z R k sr (Step.refl _ _ _ _)
theorem RunL.mono {K':St->Prop}(h:RunL E cx ops rest s K) (k:∀ s,K s->K' s):RunL E cx ops rest s K':=fun ro base Q a w Z R h1 h2 h3 q=>h ro base Q a w Z R h1 h2 h3 fun s' a' w' Z' R' hK=>q s' a' w' Z' R' (k s' hK)
theorem Sp (hE:EnvOk E) (n:Nat):∀ {pre:List Oper}{s:St},KU E (evC E n) ⟨none,false⟩ ops pre s=some s1->RunL E cx ops rest s1 K->RunL E cx ops (pre++rest) s K
 | [],s,e,k=>by injection e with e; subst e; exact k
 | o::pre,s,e,kk=>by
  intro ro base Q a w Z R hro sr hy q
  unfold KU at e
  split at e
  ·cases e
  ·next hw=>exact lwl_no (wantedA_eq sr hw) (Sp hE n e kk ro base Q _ w Z R hro (sr.put undef_vr) hy q)
  ·next hw =>
   split at e
   ·next s2 hs2=>exact lwl_op1 hE (code_sound hE n).1 hs2 sr (wantedA_eq sr hw) fun a' w' Z' R' sr' st=>Sp hE n e kk ro base Q a' w' Z' R' hro sr' (hy.step sr.hh st) fun s'' a'' w'' Z'' R'' hK sr'' st'=>q s'' a'' w'' Z'' R'' hK sr'' (st.trans st')
   ·cases e
theorem Xt (hE:EnvOk E) (m:Nat) (h:KU E (evC E 0) ⟨none,false⟩ ops (rest.take m) s=some s1) (k:RunL E cx ops (rest.drop m) s1 K):RunL E cx ops rest s K:=by
 have:=Sp hE 0 h k
 rwa [List.take_append_drop] at this
theorem Og (hE:EnvOk E) (m:Nat){s:St}(l:List (Nat×AV)) (hp:Hp) (h:Vr (KU E (evC E 0) ⟨none,false⟩ ops (rest.take m) s) l=some (n,xs2 l,hp)) (k:RunL E cx ops (rest.drop m) ⟨Fr n l,hp⟩ K):RunL E cx ops rest s K:=by
 obtain ⟨fr,h1,h2,h3⟩:=KP h
 refine Xt hE m h1 ?_
 exact fun ro base Q a w Z R hro sr hy q=>k ro base Q a w Z R hro (sr.forget h2 h3) hy q
theorem Ac (hE:EnvOk E) (n:Nat){o:Oper}(hr:rest=o::rest') (h:KU E (evC E n) ⟨none,false⟩ ops [o] s=some s1) (k:RunL E cx ops rest' s1 K):RunL E cx ops rest s K:=by
 subst hr
 exact Sp hE n (pre:=[o]) h k
theorem RunL.store (hE:EnvOk E){t:TypeId}{p q:Operand}{y z:AV}{ty:TypeId}{pos:String}{af:Array Edge}{g:Option (Nat×Bool)}(hr:rest=⟨none,.store t p q,ty,pos,af,g⟩::rest') (hw:DS ops (Fr n l) ⟨none,.store t p q,ty,pos,af,g⟩=some true) (hp1:opA E (Fr n l) p=some y) (hq1:opA E (Fr n l) q=some z) (h:Jm E.P hp t y z=some hp') (k:RunL E cx ops rest' ⟨Fr n l,hp'⟩ K):RunL E cx ops rest ⟨Fr n l,hp⟩ K :=
 Ac hE 0 hr (AFT hw hp1 hq1 h) k
theorem AQ (h:RunL E cx ops ops.toList s fun s'=>Q .normal s'):SemY E cx (.region id ops false) s Q:=by
 intro ro base Qm a w Z R h1 h2 h3 kk
 exact wpIn_region_list (lwl_list ro (h ro base _ a w Z R h1 h2 h3 fun s' a' w' Z' R' hq sr st=>kk .normal s' a' w' Z' R' hq sr st))
end
section
variable {E:Env}{cx:Cx}{ops:Array Oper}{rest rest':List Oper}{K:St->Prop}{n:Nat}{l:List (Nat×AV)}{hp:Hp}
/-- A call that is gone through in the caller's blocks. -/
theorem NP (hP:E.P=E0.P) (hG:E.G=E0.G){e:Env}(he:EnvOk e) (heP:e.P=E0.P) (heG:e.G=E0.G){d:Nat}{f:Operand}{args:Array Operand}{tys:Array TypeId}{ty:TypeId}{pos:String}{af:Array Edge}{g:Option (Nat×Bool)}{fid:FuncId}{caps xs:List AV}{fn:Func}{c:Code}{Out:AV->Hp->Prop}(hr:rest=⟨some d,.call ⟨.value f,args,tys⟩,ty,pos,af,g⟩::rest') (hw:DS ops (Fr n l) ⟨some d,.call ⟨.value f,args,tys⟩,ty,pos,af,g⟩=some true)
  (hf:opA E (Fr n l) f=some (.fn fid [] caps)) (ha:MR (opA E (Fr n l)) args.toList=some xs) (hfn:e.fn fid=some fn) (hc:fn.body=some c) (hle:(xs++caps).length<=fn.ntmps)
  (sem:SemY e ⟨none,false⟩ c ⟨Fr fn.ntmps (A6 0 (xs++caps)),hp⟩ fun x s'=>(x = .normal\/x = .ret)/\∃ ys,EZ e.P s'.fr s'.hp fn.results.toList=some ys/\Out (Ee ys) s'.hp)
  (k:∀ x h',Out x h'->RunL E cx ops rest' ⟨Fr n ((d,x)::l),h'⟩ K):RunL E cx ops rest ⟨Fr n l,hp⟩ K:=by
 obtain ⟨P,fns,G,X,I⟩:=E
 obtain ⟨P',fns',G',X',I'⟩:=e
 simp only at hP hG heP heG
 subst hP hG heP heG
 subst hr
 intro ro base Q a w Z R hro sr hy q
 have hρ:∀ o x,opA ⟨E0.P,fns,E0.G,X,I⟩ (Fr n l) o=some x->VR w Z R x (a.eval o):=fun o x e=>opA_vr sr o x e
 refine Pc rfl (wantedA_eq sr hw) ?_
 have hvf:=hρ _ _ hf
 generalize hvq:a.eval f=vf at hvf
 cases hvf with
 | fn hl hl' hx hy' =>
  rename_i u1 u2
  have e1:u1=[]:=by simpa using hl
  subst e1
  obtain ⟨hff,hcall,_⟩:=he.fn fid fn hfn
  unfold Lw
  rw [IF (uf:=[]) (uc:=u2) rfl hvq rfl hcall w]
  simp only [List.nil_append]
  have hargs:VRs w Z R (xs++caps) (args.toList.map a.eval++u2):=(opds_vr hρ ha).append ⟨hl',hy'⟩
  refine Ret.mono (Vq he hfn hc hle sem sr.hh hargs sr.gl (fun y hy=>by cases hy)) fun v w' hS=>?_
  obtain ⟨Z',R',x,h',hO,h1,h2,st⟩:=hS
  have sr':=(sr.step h1 st).put (d:=some d) h2
  rw [show P1 (⟨Fr n l,hp⟩:St).fr (some d) x=Fr n ((d,x)::l) from FY n l d _] at sr'
  exact k x h' hO ro base Q _ w' Z' R' hro sr' (hy.step sr.hh st) fun s' a' w'' Z'' R'' hK sr'' st'=>q s' a' w'' Z'' R'' hK sr'' (st.trans st')
theorem VH {s s1:St}(hw:WkY E s s1) (h:RunL E cx ops rest s1 K):RunL E cx ops rest s K:=fun ro base Q a w Z R hro sr hy q=>by
 obtain ⟨Z',R',sr',st⟩:=hw base w Z R a sr
 exact h ro base Q a w Z' R' hro sr' (hy.step sr.hh st) fun s' a' w' Z2 R2 hK sr2 st2=>q s' a' w' Z2 R2 hK sr2 (st.trans st2)
/-- What a part did, told by states for each way out. -/
theorem I0 {c:Code}{s:St}{Q:Ex->St->Prop}{e0:Ex}{A:St->Prop}(h:SemY E cx c s fun e s'=>e=e0/\∃ s2,A s2/\WkY E s' s2) (q:∀ s2,A s2->Q e0 s2):SemY E cx c s Q:=by
 intro ro base Qm a w Z R h1 h2 h3 k
 refine h ro base Qm a w Z R h1 h2 h3 fun e s' a' w' Z' R' hQ sr st=>?_
 obtain ⟨rfl,s2,hA,hw⟩:=hQ
 obtain ⟨Z2,R2,sr2,st2⟩:=hw base w' Z' R' a' sr
 exact k e s2 a' w' Z2 R2 (q s2 hA) sr2 (st.trans st2)
theorem DT {c:Code}{s:St}{Q:Ex->St->Prop}{e0:Ex}{A:St->Prop}{m:Nat}(h:SemYN E cx c m s fun e s'=>e=e0/\∃ s2,A s2/\WkY E s' s2) (q:∀ s2,A s2->Q e0 s2):SemYN E cx c m s Q:=by
 intro ro base Qm a w Z R h1 h2 h3 k
 refine h ro base Qm a w Z R h1 h2 h3 fun e s' a' w' Z' R' hQ sr st=>?_
 obtain ⟨rfl,s2,hA,hw⟩:=hQ
 obtain ⟨Z2,R2,sr2,st2⟩:=hw base w' Z' R' a' sr
 exact k e s2 a' w' Z2 R2 (q s2 hA) sr2 (st.trans st2)
theorem TC {c:Code}{s:St}{Q:Ex->St->Prop}(h:SemY E cx c s Q):Sem E cx c s Q :=
 fun ro base Qm a w Z R h1 h2 h3 k=>h ro base Qm a w Z R h1 h2 (fun y hy=>by rw [h3] at hy; cases hy) fun e s' a' w' Z' R' hQ sr st=>k e s' a' w' Z' R' hQ sr st.w
end
def RunDT (E:Env) (cx:Cx) (ops:Array Oper) (T:Nat) (n0 k:Nat) (rest:List Oper) (s:St) (K:St->Prop):Prop :=
 ∀ (ro:Option Nat) (base:Bs) (Q:Act->World->Prop) (w0:World) (Z:Nat->Prop) (R0:List RI) (h0:Hp) (a:Act) (w:World) (R:List RI),(cx.inR=false->ro=none)->YI cx w0 Z R0 h0->HR w0 Z R0 h0->n0=h0.length->SR E base w Z R s a->w0.grownBy w none->Step w0 Z R0 h0 w Z R s.hp->(∀ (b:Nat) (B:Option Blk),h0[b]? = some B->s.hp[b]? = some B)->(∀ j,rest[j]? = ops[k + j]?) ->
  (∀ s' a' w' Z' R',K s'->SR E base w' Z' R' s' a'->Step w0 Z R0 h0 w' Z' R' s'.hp->Q a' w')->Kf E.P ops (fun w'=>w0.grownBy w' none) (GQ ops T) T Q k rest a w
section
variable {E:Env}{cx:Cx}{ops:Array Oper}{rest rest':List Oper}{s s1:St}{K:St->Prop}{n n0 k T:Nat}{l:List (Nat×AV)}{hp hp':Hp}{Q:Ex->St->Prop}{id:Nat}{x:AV}{d:Nat}
theorem AA3 {o:Oper}(hops:∀ j,(o::rest')[j]? = ops[k + j]?) (hk:Nat.blt k T=true) (hq:isQ o.op=true):GQ ops T k=false:=by
 have hok:ops[k]? = some o:=by have:=hops 0; simpa using this.symm
 have hlt:k < T:=Nat.le_of_ble_eq_true hk
 exact PB hok hq (by omega)
theorem ACg {o:Oper}(hops:∀ j,(o::rest')[j]? = ops[k + j]?) (hq:isQ o.op=false):GQ ops T k=true:=by
 have hok:ops[k]? = some o:=by have:=hops 0; simpa using this.symm
 exact H0 hok hq
theorem XZ {o:Oper}(hops:∀ j,(o::rest')[j]? = ops[k + j]?):∀ j,rest'[j]? = ops[k + 1 + j]?:=fun j=>by have:=hops (j + 1); simpa [Nat.add_assoc,Nat.add_comm 1 j] using this
theorem RunDT.done (hr:rest=[]) (kk:K s):RunDT E cx ops T n0 k rest s K:=by
 subst hr
 exact fun ro base Q w0 Z R0 h0 a w R _ _ _ _ sr hgr st _ _ q=>⟨fun _=>hgr,q s a w Z R kk sr st⟩
theorem RunDT.mono {K':St->Prop}(h:RunDT E cx ops T n0 k rest s K) (hk:∀ s,K s->K' s):RunDT E cx ops T n0 k rest s K':=fun ro base Q w0 Z R0 h0 a w R h1 h2 h3 h4 h5 h6 h7 h8 h9 q=>h ro base Q w0 Z R0 h0 a w R h1 h2 h3 h4 h5 h6 h7 h8 h9 fun s' a' w' Z' R' hK=>q s' a' w' Z' R' (hk s' hK)
/-- An operation that reads. -/
theorem RunDT.q {o:Oper}(hr:rest=o::rest') (hk:Nat.blt k T=true) (hq:isQ o.op=true) (hw:DS ops (Fr n l) o=some true) (hd:o.dst=some d) (h:Jl E.P (opA E (Fr n l)) hp o.op=some x) (hl:Yk n0 (opA E (Fr n l)) o.op=true) (kk:RunDT E cx ops T n0 (k + 1) rest' ⟨Fr n ((d,x)::l),hp⟩ K):RunDT E cx ops T n0 k rest ⟨Fr n l,hp⟩ K:=by
 subst hr
 intro ro base Q w0 Z R0 h0 a w R hro hy hh0 hn0 sr hgr st hpre hops q
 refine ⟨fun _=>hgr,?_⟩
 rw [if_pos (wantedA_eq sr hw),AA3 hops hk hq,if_neg (by simp)]
 have hρ:∀ o x,opA E (Fr n l) o=some x->VR w Z R x (a.eval o):=fun o x e=>opA_vr sr o x e
 obtain ⟨u,hu,hrun⟩:=evOpQ_sound sr.hh hρ h
 have hquiet:∃ u,VR w Z R x u/\QuietAt E.P (Cf (fun w'=>w0.grownBy w' none) o) o u a:=by
  cases hl':VX o.op with
  | false=>exact ⟨u,hu,fun w' _=>hrun w' fun h=>by rw [hl'] at h; cases h⟩
  | true =>
   obtain ⟨u1,hu1,hq1⟩:=Lq hh0 sr hgr st hpre hl' (by rw [<-hn0]; exact hl) h
   exact ⟨u1,hu1,hq1.up (QI hl')⟩
 obtain ⟨u,hu,hquiet⟩:=hquiet
 refine ⟨u,hquiet,?_⟩
 have sr':=sr.put (d:=o.dst) hu
 rw [hd,show P1 (⟨Fr n l,hp⟩:St).fr (some d) x=Fr n ((d,x)::l) from FY n l d _] at sr'
 rw [hd]
 exact kk ro base Q w0 Z R0 h0 _ w R hro hy hh0 hn0 sr' hgr st hpre (XZ hops) q
/-- One that is not wanted. -/
theorem RunDT.skip {o:Oper}(hr:rest=o::rest') (hw:DS ops (Fr n l) o=some false) (hd:o.dst=some d) (kk:RunDT E cx ops T n0 (k + 1) rest' ⟨Fr n ((d,.tp [])::l),hp⟩ K):RunDT E cx ops T n0 k rest ⟨Fr n l,hp⟩ K:=by
 subst hr
 intro ro base Q w0 Z R0 h0 a w R hro hy hh0 hn0 sr hgr st hpre hops q
 refine ⟨fun _=>hgr,?_⟩
 rw [if_neg (by rw [wantedA_eq sr hw]; simp)]
 have sr':=sr.put (d:=o.dst) (x:= .tp []) undef_vr
 rw [hd,show P1 (⟨Fr n l,hp⟩:St).fr (some d) (.tp [])=Fr n ((d,.tp [])::l) from FY n l d _] at sr'
 rw [hd]
 exact kk ro base Q w0 Z R0 h0 _ w R hro hy hh0 hn0 sr' hgr st hpre (XZ hops) q
/-- A new block. -/
theorem RunDT.new {o:Oper}(hr:rest=o::rest') (hw:DS ops (Fr n l) o=some true) (hd:o.dst=some d) (h:MZ E.P (opA E (Fr n l)) hp o.op=some (x,hp')) (kk:RunDT E cx ops T n0 (k + 1) rest' ⟨Fr n ((d,x)::l),hp'⟩ K):RunDT E cx ops T n0 k rest ⟨Fr n l,hp⟩ K:=by
 subst hr
 intro ro base Q w0 Z R0 h0 a w R hro hy hh0 hn0 sr hgr st hpre hops q
 refine ⟨fun _=>hgr,?_⟩
 have hq:=Mu h
 rw [if_pos (wantedA_eq sr hw),ACg hops hq,if_pos rfl]
 have hρ:∀ o x,opA E (Fr n l) o=some x->VR w Z R x (a.eval o):=fun o x e=>opA_vr sr o x e
 obtain ⟨u,w',R',h1,h2,h3,h4,h5⟩:=evOpN_sound hρ sr.hh h
 have sr':=(sr.step h2 h4).put (d:=o.dst) h3
 rw [hd,show P1 (⟨Fr n l,hp⟩:St).fr (some d) x=Fr n ((d,x)::l) from FY n l d _] at sr'
 refine P0 h1 ?_
 rw [hd]
 exact kk ro base Q w0 Z R0 h0 _ w' R' hro hy hh0 hn0 sr' (Gg hgr h5) (st.trans h4) (fun b B hb=>NX h (hpre b B hb)) (XZ hops) q
theorem RunDT.tail (hT:T=k) (h:RunL E cx ops rest s K):RunDT E cx ops T n0 k rest s K:=by
 subst hT
 intro ro base Q w0 Z R0 h0 a w R hro hy hh0 hn0 sr hgr st hpre hops q
 exact PC (h ro base Q a w Z R hro sr (hy.step hh0 st) fun s' a' w' Z' R' hK sr' st'=>q s' a' w' Z' R' hK sr' (st.trans st')) (Nat.le_refl _) (fun _=>hgr) (fun j hj=>Pb hj) hops
theorem Ln (T:Nat) (hm:E.P.follows .mixedOrders=true) (hB:Region.lexB .any ops=true) (hb:SV ops (GQ ops T) T=true) (h:RunDT E cx ops T s.hp.length 0 ops.toList s fun s'=>Q .normal s'):SemY E cx (.region id ops true) s Q:=by
 intro ro base Qm a w Z R hro sr hy kk
 have hgd:w.grownBy w.drew none:=VO w
 have hops:ops.toList.toArray=ops:=by simp
 have st0:Step w Z R s.hp w.drew Z R s.hp:=⟨rfl,rfl,rfl,Nat.le_refl _,fun c hc _=>rfl,fun _ h=> .inl h,fun _ h=>h,fun _ h=> .inl h,fun _ _ h=>h⟩
 have hsrd:SR E base w.drew Z R s a:=⟨sr.hh.keep (Nat.le_refl _) (fun c hc=>hgd.block c hc (by simp)),sr.fr.off (fun c hc=>rfl),sr.mks.step st0,sr.gl.off (fun c hc=>rfl),sr.bs⟩
 have hm':=h ro base (fun a w=>Qm .normal a w) w.drew Z R s.hp a w.drew R hro (hy.step sr.hh st0) hsrd.hh rfl hsrd (Rn _) (Step.refl _ _ _ _) (fun b B hb=>hb) (fun j=>by simp) (fun s' a' w' Z' R' hq sr' st=>kk .normal s' a' w' Z' R' hq sr' (st0.trans st))
 have:=N6 (P:=E.P) (id:=id) (l:=ops.toList) (a:=a) (w:=w) (C:=fun w'=>w.drew.grownBy w' none) (loud:=GQ ops T) (T:=T) (Q':=Qm) ro 0 hm (by rw [hops]; exact hB) (by rw [hops]; exact hb) (by rw [hops]; exact hm')
 rw [hops] at this
 exact this
theorem ADG {a b:Nat}(h:a < b):Nat.blt a b=true:=by unfold Nat.blt; rw [Nat.ble_eq]; exact h
/-- May an own thing be read ahead of the tail? It was there before the region. -/
theorem AAs {α:Type}{o:Oc α}{kk off m:Nat}{t ty:TypeId}{e:AV}{xs:List α}{v:α}{h0:Hp}{L:List Asn}{p:Operand}{ρ:Operand->Option AV}(ht:Go.Proofs.YtlalcoehgkmhlaaGreatDoor.T h0 (own_ (ocL kk t o) e xs::L)) (hv:xs[m]? = some v) (hp:ρ p=some (Vk (eAt e m) off)):Yk h0.length ρ (.load ty p)=true:=by
 obtain ⟨F,q,_⟩:=ht.act
 rcases q with ⟨rfl,rfl,_⟩ | ⟨b,es,F',rfl,h2,_⟩
 ·simp at hv
 ·simp only [Yk,hp,eAt,Vk]
  exact ADG (Mr h2)
theorem NY {α:Type}{o:Oc α}{kk m:Nat}{t ty:TypeId}{e:AV}{xs:List α}{v:α}{h0:Hp}{L:List Asn}{p:Operand}{ρ:Operand->Option AV}(ht:Go.Proofs.YtlalcoehgkmhlaaGreatDoor.T h0 (own_ (ocL kk t o) e xs::L)) (hv:xs[m]? = some v) (hp:ρ p=some (eAt e m)):Yk h0.length ρ (.load ty p)=true :=
 AAs (off:=0) ht hv (by rw [ACv]; exact hp)
theorem AAr {kk off:Nat}{t ty:TypeId}{q a:AV}{h0:Hp}{L:List Asn}{p:Operand}{ρ:Operand->Option AV}(ht:Go.Proofs.YtlalcoehgkmhlaaGreatDoor.T h0 (cel q kk t a::L)) (hp:ρ p=some (Vk q off)):Yk h0.length ρ (.load ty p)=true:=by
 obtain ⟨F,⟨b,rfl,rfl,h2⟩,_⟩:=ht.act
 simp only [Yk,hp,Vk]
 exact ADG (Mr h2)
theorem PA {kk:Nat}{t ty:TypeId}{q a:AV}{h0:Hp}{L:List Asn}{p:Operand}{ρ:Operand->Option AV}(ht:Go.Proofs.YtlalcoehgkmhlaaGreatDoor.T h0 (cel q kk t a::L)) (hp:ρ p=some q):Yk h0.length ρ (.load ty p)=true:=by
 obtain ⟨F,⟨b,rfl,rfl,h2⟩,_⟩:=ht.act
 simp only [Yk,hp]
 exact ADG (Mr h2)
end
section
variable {P:Program}{h:Hp}{ρ:Operand->Option AV}{α:Type}{o:Oc α}{k:Nat}{t:TypeId}{e:AV}{xs:List α}{L:List Asn}
theorem AEH {ty:TypeId}{x:Operand}{f:Nat}{a r:AV}(hx:ρ x=some a) (he:IX P ty a f=some r):Jl P ρ h (.fieldAddr ty x f)=some r:=by
 show (match ρ x with | some x=>IX P ty x f | none=>none)=some r
 rw [hx]; exact he
theorem Rj {ty:TypeId}{n:Nat}{ps:Array (Nat×Operand)}{xs:List (Nat×AV)}{r:AV×Hp}(hp:N2 ρ ps.toList=some xs) (he:VV P h ty n xs=some r):MZ P ρ h (.buildSlice ty n ps)=some r:=by
 show (match N2 ρ ps.toList with | some ps=>VV P h ty n ps | none=>none)=some r
 rw [hp]; exact he
theorem AEC {ty:TypeId}{x:Operand}{z:AV}{r:AV×Hp}(hx:ρ x=some z) (he:SO h ty z=some r):MZ P ρ h (.box ty x)=some r:=by
 show (match ρ x with | some x=>SO h ty x | none=>none)=some r
 rw [hx]; exact he
theorem Ta {ty:TypeId}{z:AV}{r:AV×Hp}(hx:JK P ty=some z) (he:SO h ty z=some r):MZ P ρ h (.alloc ty)=some r:=by
 show (match JK P ty with | some z=>SO h ty z | none=>none)=some r
 rw [hx]; exact he
/-- A pointer to a cell of its own seen as another pointer. -/
def cvB (P:Program) (a b k t:Nat):Bool:=match P.underlying a,P.underlying b with
 | some (.pointer t'),some .unsafePointer=>Nat.blt 0 k&&(match Dx P t' with | some (_ + 1)=>true | _=>false)
 | some .unsafePointer,some (.pointer u)=>Nat.blt 0 k&&Nat.beq t u&&Nat.beq (P.cellsOf u) k&&(P.info? u).isSome
 | _,_=>false
theorem AFj {t1 t2:TypeId}{x y:Operand}{a b:AV}{r:AV×Hp}(hx:ρ x=some a) (hy:ρ y=some b) (he:WQ P h t1 a b=some r):SQ P ρ h (.call ⟨.builtin .unsafeString,#[x,y],#[t1,t2]⟩)=some r:=by
 show (match MR ρ [x,y],[t1,t2] with | some [x,n],[t,_]=>WQ P h t x n | _,_=>none)=some r
 simp only [MR,hx,hy]
 exact he
end
def AEn (P:Program) (t:TypeId):Bool:=match P.underlying t with
 | some (.slice _)=>true
 | _=>false
theorem X9 {P:Program}{t:TypeId}(h:AEn P t=true):∃ el,P.underlying t=some (.slice el):=by
 unfold AEn at h
 split at h
 ·next el he=>exact ⟨el,he⟩
 ·cases h
def AFi:AV->Bool
 | .ag [_]=>false
 | _=>true
theorem AAe {z:AV}(h:AFi z=true):elm z.cel=z:=by
 cases z with
 | ag cs =>
  match cs,h with
  | [],_=>rfl
  | [x],h=>cases h
  | x::y::l,_=>rfl
 | _=>rfl
def zeB (P:Program) (el:TypeId):Bool:=match JK P el with
 | some z=>AFi z
 | none=>false
def AFG (P:Program) (t:TypeId) (f off:Nat):Bool:=match P.underlying t with
 | some (.struct fs)=>match fs[f]? with
  | some fd=>match Dx P fd.type with
   | some (_ + 1)=>Nat.beq fd.offset off
   | _=>false
  | none=>false
 | _=>false
theorem AAm {P:Program}{t:TypeId}{f off:Nat}(h:AFG P t f off=true):∃ fs fd q,P.underlying t=some (.struct fs)/\fs[f]? = some fd/\Dx P fd.type=some (q + 1)/\fd.offset=off:=by
 unfold AFG at h
 split at h
 ·next fs h1 =>
  split at h
  ·next fd h2 =>
   split at h
   ·next q h3=>exact ⟨fs,fd,q,h1,h2,h3,Nat.eq_of_beq_eq_true h⟩
   ·cases h
  ·cases h
 ·cases h
section
variable {P:Program}{h:Hp}{α:Type}{o:Oc α}{c:Cd α}{k bytes n:Nat}{t ty ty2:TypeId}{e y:AV}{xs ys:List α}{L:List Asn}{v:α}
theorem We (ht:T h (own_ (ocL k t o) e xs::L)) (hu:AEn P ty=true):SP P ty e=some (eI xs.length):=let ⟨_,h1⟩:=X9 hu; ACc ht h1
theorem W8 {i:Int}{ki:IntKind}(ht:T h (own_ (ocL k t o) e xs::L)) (ha:apB P ty t k bytes=true) (hv:idx xs i=some v):FJ P h ty e (.v (.int ki i))=some (eAt e i.toNat):=by
 obtain ⟨i',z,a1,a2,a3,a4,_⟩:=Ok ha
 have hu:P.underlying ty=some (.slice t):=by
  unfold Ke at a1
  split at a1
  ·next e he=>injection a1 with a1; rw [he,a1]
  ·cases a1
 exact AD2 ht hu (by rw [Dx,a2,<-a4]; rfl) hv
theorem AFO {i:Int}{ki:IntKind}{j:Nat}{e':AV}{x0:α}(ht:T h (ADy k t o e xs j e' x0::L)) (ha:apB P ty t k bytes=true) (hv:idx xs i=some v):FJ P h ty e (.v (.int ki i))=some (eAt e i.toNat):=by
 obtain ⟨i',z,a1,a2,a3,a4,_⟩:=Ok ha
 have hu:P.underlying ty=some (.slice t):=by
  unfold Ke at a1
  split at a1
  ·next e he=>injection a1 with a1; rw [he,a1]
  ·cases a1
 exact ACV ht hu (by rw [Dx,a2,<-a4]; rfl) hv
theorem Ik (ht:T h (own_ (ocL k t o) e xs::own_ (ocL k t o) y ys::L)) (hu:AEn P ty2=true) (ha:apB P ty t k bytes=true) (hc:EK bytes (xs.length + ys.length)=true):∃ e' h',FP P h ty ty2 e y=some (e',h')/\T h' (own_ (ocL k t o) e' (xs++ys)::L):=by
 obtain ⟨_,h1⟩:=X9 hu
 obtain ⟨i,z,a1,a2,a3,a4,a5,a6,a7,a8⟩:=Ok ha
 exact ABv ht h1 a1 a2 a3 a4 (ADG a5) a6 a7 a8 hc
theorem Y7 (ht:T h (own_ (ocL k t (ocV c)) e xs::L)) (hsy:N3 P ty2 y=true) (hel:Nq h k y=some (ys.map c.enc)) (ha:apB P ty t k bytes=true) (hc:EK bytes (xs.length + ys.length)=true):∃ e' h',FP P h ty ty2 e y=some (e',h')/\T h' (own_ (ocL k t (ocV c)) e' (xs++ys)::L):=by
 obtain ⟨i,z,a1,a2,a3,a4,a5,a6,a7,a8⟩:=Ok ha
 exact AAP ht hsy hel a1 a2 a3 a4 (ADG a5) a6 a7 a8 hc
theorem Iq {es:List AV}(hf:Fit o k) (ht:T h (els o es xs::L)) (hn:es.length=n) (ha:apB P ty t k bytes=true) (hz:zeB P t=true) (hb:Nat.ble (n * k) 65536=true):∃ e' h',VV P h ty n (Nr 0 es)=some (e',h')/\T h' (own_ (ocL k t o) e' xs::L):=by
 obtain ⟨i,z,a1,a2,a3,a4,a5,a6,a7,a8⟩:=Ok ha
 unfold zeB at hz
 rw [a3] at hz
 exact ACe hf ht hn a1 a2 a3 a4 (ADG a5) hb a6 a7 (AAe hz)
theorem ABY {f off:Nat}{p a:AV}(ht:T h (cel p k t a::L)) (hf:AFG P ty f off=true):IX P ty p f=some (Vk p off):=by
 obtain ⟨fs,fd,q,h1,h2,h3,rfl⟩:=AAm hf
 exact ACK ht h1 h2 h3
end
/-- What a call is handed, own or not, as it is told. -/
def SeeD {α:Type}(hp:Hp) (c:Cd α) (x:AV) (v:α):Prop:=∃ y,SeeV hp x y/\c.dec y=some v
def SeesD {α:Type}(hp:Hp) (s:Cs α) (xs:List AV) (a:α):Prop:=∃ ys,Sees hp xs ys/\s.dec ys=some a
theorem SeesD.nil {hp:Hp}:SeesD hp csN [] ():=⟨[],.nil,rfl⟩
theorem Br {α β:Type}{hp:Hp}{c:Cd α}{s:Cs β}{x:AV}{xs:List AV}{v:α}{a:β}(h1:SeeD hp c x v) (h2:SeesD hp s xs a):SeesD hp (csC c s) (x::xs) (v,a):=by
 obtain ⟨y,k1,k2⟩:=h1
 obtain ⟨ys,q1,q2⟩:=h2
 refine ⟨y::ys,.cons k1 q1,?_⟩
 show ((c.dec y).bind fun x=>(s.dec ys).map fun y=>(x,y))=_
 rw [k2,q2]; rfl
theorem Dy {α:Type}{hp:Hp}{c:Cd α}{v:α}:SeeD hp c (c.enc v) v:=⟨_,.enc,c.de v⟩
theorem SeeD.e0 {α:Type}{hp:Hp}{c:Cd α}{k:Nat}:SeeD hp (cdL k c) .e0 []:=⟨.e0,.id rfl,rfl⟩
theorem SeeD.own {α:Type}{hp:Hp}{o:Oc α}{e:AV}{x:α}{L:List Asn}{i:Nat}(ht:T hp L) (hi:L[i]? = some (own_ o e x)):SeeD hp o.cd e x:=⟨_,.own ht hi,o.cd.de x⟩
section
variable {E:Env}{cx:Cx}{ops:Array Oper}{rest rest':List Oper}{K:St->Prop}{n n0 k T:Nat}{l:List (Nat×AV)}{hp:Hp}
theorem RunL.call {α β:Type}{s:Cs α}{F:α->Option β}{er:β->AV}{a:α}{b:β}{xs:List AV}(hE:EnvOk E){d:Nat}{f:Operand}{args:Array Operand}{tys:Array TypeId}{ty:TypeId}{pos:String}{af:Array Edge}{g:Option (Nat×Bool)}{fid:FuncId}(hr:rest=⟨some d,.call ⟨.value f,args,tys⟩,ty,pos,af,g⟩::rest') (hw:DS ops (Fr n l) ⟨some d,.call ⟨.value f,args,tys⟩,ty,pos,af,g⟩=some true)
  (hf:opA E (Fr n l) f=some (.fn fid [] [])) (hi:E.I fid=false) (hX:E.X fid=some (ES s F er)) (ha:MR (opA E (Fr n l)) args.toList=some xs) (hv:Sns hp s xs a) (hok:xs.all F3=true\/Gk (er b)=true) (hF:F a=some b) (k:RunL E cx ops rest' ⟨Fr n ((d,er b)::l),hp⟩ K):RunL E cx ops rest ⟨Fr n l,hp⟩ K :=
 Ac hE 0 hr (Xa hw hf hi hX ha hv hok hF) k
end
section
variable {E:Env}{cx:Cx}{ops:Array Oper}{s:St}{Q:Ex->St->Prop}{id:Nat}{A:St->Prop}{c:Code}
theorem QV (h:RunL E cx ops ops.toList s fun s'=>∃ s1,A s1/\WkY E s' s1) (q:∀ s1,A s1->Q .normal s1):SemY E cx (.region id ops false) s Q :=
 I0 (e0:= .normal) (A:=A) (AQ (Q:=fun e s'=>e = .normal/\∃ s2,A s2/\WkY E s' s2) (RunL.mono h fun _s' hs=>⟨rfl,hs⟩)) q
theorem RJ (T:Nat) (hm:E.P.follows .mixedOrders=true) (hB:Region.lexB .any ops=true) (hb:SV ops (GQ ops T) T=true) (h:RunDT E cx ops T s.hp.length 0 ops.toList s fun s'=>∃ s1,A s1/\WkY E s' s1) (q:∀ s1,A s1->Q .normal s1):SemY E cx (.region id ops true) s Q :=
 I0 (e0:= .normal) (A:=A) (Ln T hm hB hb (Q:=fun e s'=>e = .normal/\∃ s2,A s2/\WkY E s' s2) (RunDT.mono h fun _s' hs=>⟨rfl,hs⟩)) q
theorem KO (h:SemY E cx c s fun e s'=>∃ s2,WkY E s' s2/\Q e s2):SemY E cx c s Q:=by
 intro ro base Qm a w Z R h1 h2 h3 k
 refine h ro base Qm a w Z R h1 h2 h3 fun e s' a' w' Z' R' hQ sr st=>?_
 obtain ⟨s2,hw,hq⟩:=hQ
 obtain ⟨Z2,R2,sr2,st2⟩:=hw base w' Z' R' a' sr
 exact k e s2 a' w' Z2 R2 hq sr2 (st.trans st2)
end
theorem kr.{u}{α:Sort u}{a b:α}(h:a=b:=by kernel_rfl):a=b:=h
/-- The slots of a frame that are told. -/
def slG:Nat->List (Option AV)->List (Nat×AV)
 | _,[]=>[]
 | i,some x::r=>(i,x)::slG (i + 1) r
 | i,none::r=>slG (i + 1) r
theorem Zy:∀ (fr:List (Option AV)) (i t:Nat) (x:AV),lk (slG i fr) t=some x->∃ j,t=i + j/\fr[j]? = some (some x)
 | [],_,_,_,h=>by cases h
 | some y::r,i,t,x,h=>by
  rw [slG,MO] at h
  split at h
  ·next e=>injection h with h; subst e h; exact ⟨0,rfl,rfl⟩
  ·obtain ⟨j,h1,h2⟩:=Zy r (i + 1) t x h
   exact ⟨j + 1,by omega,by simpa using h2⟩
 | none::r,i,t,x,h=>by
  obtain ⟨j,h1,h2⟩:=Zy r (i + 1) t x h
  exact ⟨j + 1,by omega,by simpa using h2⟩
def frO (o:Option St):List (Nat×AV):=match o with
 | some s=>slG 0 s.fr
 | none=>[]
def AFY (o:Option St):Option (Nat×Hp):=match o with
 | some s=>some (s.fr.length,s.hp)
 | none=>none
section
variable {E:Env}{cx:Cx}{ops:Array Oper}{rest:List Oper}{K:St->Prop}{n n0 k0 m:Nat}{l l':List (Nat×AV)}{hp hp':Hp}{Q:Ex->St->Prop}{id:Nat}{c:Code}
theorem ABB {o:Option St}(h:AFY o=some (n,hp)):∃ fr,o=some ⟨fr,hp⟩/\fr.length=n/\frO o=slG 0 fr:=by
 unfold AFY at h
 split at h
 ·next s =>
  injection h with h
  injection h with h1 h2
  subst h2
  exact ⟨s.fr,rfl,h1,rfl⟩
 ·cases h
theorem SR.comp {base:Bs}{w:World}{Z:Nat->Prop}{R:List RI}{a:Act}{fr:List (Option AV)}(sr:SR E base w Z R ⟨fr,hp⟩ a) (hl:fr.length=n):SR E base w Z R ⟨Fr n (slG 0 fr),hp⟩ a:=by
 refine ⟨sr.hh,⟨?_,fun t x hx=>sr.fr.2 t x ?_⟩,sr.mks,sr.gl,sr.bs⟩
 ·rw [Jy,<-hl]; exact sr.fr.1
 ·rw [JE] at hx
  split at hx
  ·injection hx with hx
   obtain ⟨j,h1,h2⟩:=Zy fr 0 t x hx
   rw [Nat.zero_add] at h1
   subst h1
   exact h2
  ·cases hx
/-- Some operations: the state behind them is computed. -/
theorem Aj (hE:EnvOk E) (m:Nat) (k:RunL E cx ops (rest.drop m) ⟨Fr n (frO (KU E (evC E 0) ⟨none,false⟩ ops (rest.take m) ⟨Fr n l,hp⟩)),hp⟩ K) (h:AFY (KU E (evC E 0) ⟨none,false⟩ ops (rest.take m) ⟨Fr n l,hp⟩)=some (n,hp):=by kernel_rfl):RunL E cx ops rest ⟨Fr n l,hp⟩ K:=by
 obtain ⟨fr,h1,h2,h3⟩:=ABB h
 rw [h3] at k
 refine Xt hE m h1 ?_
 exact fun ro base Q a w Z R hro sr hy q=>k ro base Q a w Z R hro (sr.comp h2) hy q
/-- All that are left. -/
theorem B6 (hE:EnvOk E) (l':List (Nat×AV)) (k:K ⟨Fr n l',hp⟩) (h:Vr (KU E (evC E 0) ⟨none,false⟩ ops rest ⟨Fr n l,hp⟩) l'=some (n,xs2 l',hp):=by kernel_rfl):RunL E cx ops rest ⟨Fr n l,hp⟩ K :=
 Og hE rest.length l' hp (by rw [List.take_length]; exact h) (BU (by simp) k)
theorem Ad (hE:EnvOk E){s:St}(h:Vr (KU E (evC E 0) ⟨none,false⟩ ops rest s) l'=some (n,xs2 l',hp):=by kernel_rfl):RunS E ops rest s fun s'=>Wk E s' ⟨Fr n l',hp⟩ :=
 AD hE rest.length l' hp (by rw [List.take_length]; exact h) (AI (by simp) Wk.refl)
theorem ABs (hE:EnvOk E) (l':List (Nat×AV)) (k:Q .normal ⟨Fr n l',hp⟩) (h:Vr (KU E (evC E 0) ⟨none,false⟩ ops ops.toList ⟨Fr n l,hp⟩) l'=some (n,xs2 l',hp):=by kernel_rfl):SemY E cx (.region id ops false) ⟨Fr n l,hp⟩ Q :=
 AQ (B6 hE l' k h)
theorem Bf (hE:EnvOk E) (l':List (Nat×AV)) (k:SemY E cx c ⟨Fr n l',hp⟩ Q) (h:Vr (KU E (evC E 0) ⟨none,false⟩ ops ops.toList ⟨Fr n l,hp⟩) l'=some (n,xs2 l',hp):=by kernel_rfl):SemY E cx (.seq (.region id ops false) c) ⟨Fr n l,hp⟩ Q :=
 AX (ABs hE l' k h)
theorem D1 (hE:EnvOk E) (l':List (Nat×AV)) (hp':Hp) (k:Q .normal ⟨Fr n l',hp'⟩) (h:Vr (KU E (evC E 0) ⟨none,false⟩ ops ops.toList ⟨Fr n l,hp⟩) l'=some (n,xs2 l',hp'):=by kernel_rfl):Sem E cx (.region id ops false) ⟨Fr n l,hp⟩ Q :=
 AM (Ad hE h) k
theorem AK (hE:EnvOk E) (l':List (Nat×AV)) (hp':Hp) (k:Sem E cx c ⟨Fr n l',hp'⟩ Q) (h:Vr (KU E (evC E 0) ⟨none,false⟩ ops ops.toList ⟨Fr n l,hp⟩) l'=some (n,xs2 l',hp'):=by kernel_rfl):Sem E cx (.seq (.region id ops false) c) ⟨Fr n l,hp⟩ Q :=
 AH (D1 hE l' hp' k h)
end
/- trestle/trestlelaw03.Few$1$1 -/
noncomputable def ON:Code:=BL Tryz.f55
def Ip (x0:(List UInt8)):Option (Bool) :=
 some (decide ((x0.length:Int) > 40))
def K8:Cs ((List UInt8)×Unit):=(csC cdS csN)
def LU (r:Bool):AV:=cdB.enc r
theorem Rh (x0:(List UInt8)) (r:Bool) (h:Ip x0=some r):Sem E0 ⟨none,false⟩ ON ⟨Fr 6 (A6 0 (K8.enc (x0,()))),[]⟩ fun e s'=>(e = .normal\/e = .ret)/\∃ xs,EZ E0.P s'.fr s'.hp Tryz.f55.results.toList=some xs/\Ee xs=LU r:=by
 unfold Ip at h;refine Ax (BY (s1:=⟨Fr 6 [(0,.st x0)],[]⟩) AJ ?_);refine AK AC [(0,.st x0)] [] ?_
 let p1:Nat×AV:=(2,.b (decide ((x0.length:Int) > 40)))
 refine AK AC [p1] [] ?_;refine AR ?_;have hq:=OI h; subst hq;exact ⟨⟨Fr 6 [p1],[]⟩,AJ,.inr rfl,[.b (decide ((x0.length:Int) > 40))],kr,kr⟩
def T2:List AV->Option AV:=ES K8 (fun a=>Ip a.1) LU
theorem UO:XOk 55 T2:=by
 refine AU Tryz.func55 (c:=ON) ?h2 ⟨Tryz.call55⟩ K8 (fun a=>Ip a.1) LU (fun a=>(by show 1<=6; decide)) ?h3 ?h4
 case h2=>kernel_rfl
 case h3=>intro b; kernel_rfl
 case h4=>exact fun a b h=>Rh a.1 b h
/- slices.IndexFunc[[]string,string] -/
noncomputable def DF:Code:=BL Tryz.f90
def Bj (x0:(List (List UInt8))):Nat->Int->Option ((Unit) ⊕ (Int))
 | 0,_=>none
 | f + 1,c1 =>
  if (decide (c1 < (x0.length:Int)))=true then
  (idx x0 c1).bind fun v3 =>
  (Ip v3).bind fun v4 =>
  if v4=true then
  some (.inr c1)
  else
  Bj x0 f (wr .i64 (c1 + 1))
  else
  some (.inl ())
def Bb (x0:(List (List UInt8))):Option (Int) :=
 (Bj x0 100000 0).bind fun r7 =>
 match r7 with
 | (.inl w8) =>
  some (-1)
 | (.inr w9) =>
  some w9
def DM:Cs ((List (List UInt8))×Unit×Unit):=(csC (cdL 1 cdS) (csC (cdF 55 csN (fun _=>rfl)) csN))
def DQ (r:Int):AV:=cdI.enc r
theorem EE (x0:(List (List UInt8))):∀ (f:Nat) (c1:Int) (r:(Unit) ⊕ (Int)),Bj x0 f c1=some r->SemN E0 ⟨none,false⟩ (pc DF [1,0,1,0,0]) f ⟨Fr 19 [(0,.sl 1 (x0.map cdS.enc)),(1,.fn 55 [] []),(7,.j (x0.length:Int)),(8,.j c1)],[]⟩ (fun e s=>match r with
 | (.inl w)=>e=(.exit 0)/\Wk E0 s ⟨Fr 19 [],[]⟩
 | (.inr w)=>e = .ret/\Wk E0 s ⟨Fr 19 [(4,.j w)],[]⟩):=by
 intro f;induction f with
 | zero=>intro c1 r h; cases h
 | succ f ih0 =>
  intro c1 r h
  have ih:=fun (c1:Int)=>ih0 c1 r
  unfold Bj at h;refine CI ?_
  let p1:Nat×AV:=(8,.j c1)
  let p2:Nat×AV:=(7,.j (x0.length:Int))
  let p3:Nat×AV:=(1,.fn 55 [] [])
  let p4:Nat×AV:=(0,.sl 1 (x0.map cdS.enc))
  refine AK AC [p4,p3,p2,p1,(9,.b (decide (c1 < (x0.length:Int))))] [] ?_;refine AH ?_;refine AT (b:=(decide (c1 < (x0.length:Int)))) kr (fun hb2=>?_) (fun hb2=>?_)
  ·rw [if_pos hb2] at h
   refine AY ?_;refine AH ?_;refine Al ?_
   let p5:Nat×AV:=(5,.j c1)
   refine AK AC [p4,p3,p5,p2,p1] [] ?_;refine AH ?_;obtain ⟨v3,hv3,h⟩:=OB h;obtain ⟨v4,hv4,h⟩:=OB h;refine AM (s1:=⟨Fr 19 [p4,p3,p5,p2,p1,(16,.b v4)],[]⟩) ?_ ?_
   ·refine AD (n:=19) AC 3 [p4,p3,p5,p2,p1,(11,.fn 55 [] []),(12,.sl 1 (x0.map cdS.enc)),(13,.j c1)] [] kr ?_
    refine AZ AC 0 rfl (DR (AB rfl) rfl (AP (a:= .sl 1 (x0.map cdS.enc)) (b:= .j c1) kr kr (Di (e:=cdS.enc) (el:=9) (k:=1) (ki:= .i64) kr kr hv3))) ?_;refine AD (n:=19) AC 1 [p4,p3,p5,p2,p1,(11,.fn 55 [] []),(15,.st v3)] [] kr ?_;refine AS (caps:=[]) (xs:=[.st v3]) (u:=(v3,())) rfl rfl UO rfl (AB rfl) kr kr (AL (AW (c:=cdS) (v:=v3)) Ao) (.inl kr) hv4 ?_;exact AI rfl AJ
   refine AT (b:=v4) kr (fun hb5=>?_) (fun hb5=>?_)
   ·rw [if_pos hb5] at h
    refine AK AC [(4,.j c1)] [] ?_;refine AR ?_;have hq:=OI h; subst hq;exact ⟨rfl,AJ⟩
   ·rw [Bm hb5] at h
    refine AY ?_
    let p6:Nat×AV:=(8,.j (wr .i64 (c1 + 1)))
    refine D1 AC [p4,p3,p2,p6] [] ?_;exact Aq (s1:=⟨Fr 19 [p4,p3,p2,p6],[]⟩) AJ (ih (wr .i64 (c1 + 1)) h)
  ·rw [Bm hb2] at h
   refine C6 ?_;have hq:=OI h; subst hq;exact ⟨rfl,AJ⟩
theorem Gr (x0:(List (List UInt8))) (r:Int) (h:Bb x0=some r):Sem E0 ⟨none,false⟩ DF ⟨Fr 19 (A6 0 (DM.enc (x0,(),()))),[]⟩ fun e s'=>(e = .normal\/e = .ret)/\∃ xs,EZ E0.P s'.fr s'.hp Tryz.f90.results.toList=some xs/\Ee xs=DQ r:=by
 unfold Bb at h
 let p1:Nat×AV:=(1,.fn 55 [] [])
 let p2:Nat×AV:=(0,.sl 1 (x0.map cdS.enc))
 refine Ax (BY (s1:=⟨Fr 19 [p2,p1],[]⟩) AJ ?_);refine AK AC [p2,p1] [] ?_;refine AH ?_;refine AH ?_
 let p3:Nat×AV:=(8,.j 0)
 let p4:Nat×AV:=(7,.j (x0.length:Int))
 refine AM (s1:=⟨Fr 19 [p2,p1,p4,p3],[]⟩) ?_ ?_
 ·refine AD (n:=19) AC 1 [p2,p1,(6,.sl 1 (x0.map cdS.enc))] [] kr ?_
  refine AZ AC 0 rfl (DR (AB rfl) rfl (C3 (a:= .sl 1 (x0.map cdS.enc)) kr (Bn (el:=9) kr))) ?_;exact Ad AC
 refine Al ?_;obtain ⟨r7,hr7,h⟩:=OB h;refine DB (n:=100000) ?_;rcases r7 with w8 | w9
 ·try dsimp only at h
  refine BB (Aq (s1:=⟨Fr 19 [p2,p1,p4,p3],[]⟩) AJ (EE x0 _ 0 _ hr7)) ?_;refine AK AC [(4,.j (-1))] [] ?_;refine AR ?_;have hq:=OI h; subst hq;exact ⟨⟨Fr 19 [(4,.j (-1))],[]⟩,AJ,.inr rfl,[.j (-1)],kr,kr⟩
 ·try dsimp only at h
  refine BB (Aq (s1:=⟨Fr 19 [p2,p1,p4,p3],[]⟩) AJ (EE x0 _ 0 _ hr7)) ?_;have hq:=OI h; subst hq;exact ⟨⟨Fr 19 [(4,.j w9)],[]⟩,AJ,.inr rfl,[.j w9],kr,kr⟩
def HL:List AV->Option AV:=ES DM (fun a=>Bb a.1) DQ
theorem HQ:XOk 90 HL:=by
 refine AU Tryz.func90 (c:=DF) ?h2 ⟨Tryz.call90⟩ DM (fun a=>Bb a.1) DQ (fun a=>(by show 2<=19; decide)) ?h3 ?h4
 case h2=>kernel_rfl
 case h3=>intro b; kernel_rfl
 case h4=>exact fun a b h=>Gr a.1 b h
/- slices.ContainsFunc[[]string,string] -/
noncomputable def D9:Code:=BL Tryz.f36
def A3 (x0:(List (List UInt8))):Option (Bool) :=
 (Bb x0).bind fun v1 =>
 some (decide (v1≥0))
def C0:Cs ((List (List UInt8))×Unit×Unit):=(csC (cdL 1 cdS) (csC (cdF 55 csN (fun _=>rfl)) csN))
def C2 (r:Bool):AV:=cdB.enc r
theorem GS (x0:(List (List UInt8))) (r:Bool) (h:A3 x0=some r):Sem E0 ⟨none,false⟩ D9 ⟨Fr 9 (A6 0 (C0.enc (x0,(),()))),[]⟩ fun e s'=>(e = .normal\/e = .ret)/\∃ xs,EZ E0.P s'.fr s'.hp Tryz.f36.results.toList=some xs/\Ee xs=C2 r:=by
 unfold A3 at h;refine Ax (BY (s1:=⟨Fr 9 [(0,.sl 1 (x0.map cdS.enc)),(1,.fn 55 [] [])],[]⟩) AJ ?_);refine AK AC [(0,.sl 1 (x0.map cdS.enc)),(1,.fn 55 [] [])] [] ?_;refine AH ?_;obtain ⟨v1,hv1,h⟩:=OB h
 let p1:Nat×AV:=(4,.b (decide (v1≥0)))
 refine AM (s1:=⟨Fr 9 [p1],[]⟩) ?_ ?_
 ·refine AD (n:=9) AC 2 [(5,.sl 1 (x0.map cdS.enc)),(6,.fn 55 [] [])] [] kr ?_
  refine AS (caps:=[]) (xs:=[.sl 1 (x0.map cdS.enc),.fn 55 [] []]) (u:=(x0,(),())) rfl rfl HQ rfl (AB rfl) kr kr (AL (AW (c:=(cdL 1 cdS)) (v:=x0)) (AL (Sm.fn Ao) Ao)) (.inl kr) hv1 ?_;exact Ad AC
 refine AR ?_;have hq:=OI h; subst hq;exact ⟨⟨Fr 9 [p1],[]⟩,AJ,.inr rfl,[.b (decide (v1≥0))],kr,kr⟩
def Gi:List AV->Option AV:=ES C0 (fun a=>A3 a.1) C2
theorem Gj:XOk 36 Gi:=by
 refine AU Tryz.func36 (c:=D9) ?h2 ⟨Tryz.call36⟩ C0 (fun a=>A3 a.1) C2 (fun a=>(by show 2<=9; decide)) ?h3 ?h4
 case h2=>kernel_rfl
 case h3=>intro b; kernel_rfl
 case h4=>exact fun a b h=>GS a.1 b h
/- trestle/trestlelaw03.Few$1 -/
noncomputable def Pv:Code:=BL Tryz.f54
def Ia (x0:AF):Option (Bool) :=
 (if (decide ((x0.2.1.length:Int) > 40))=true then some true else if (decide ((x0.2.2.2.1.length:Int) > 20))=true then some true else (A3 x0.2.2.2.1).bind fun v1 =>
 some v1).bind fun j3 =>
 some j3
def M7:Cs (AF×Unit):=(csC AA csN)
def ND (r:Bool):AV:=cdB.enc r
theorem TW (x0:AF) (r:Bool) (h:Ia x0=some r):Sem E0 ⟨none,false⟩ Pv ⟨Fr 18 (A6 0 (M7.enc (x0,()))),[]⟩ fun e s'=>(e = .normal\/e = .ret)/\∃ xs,EZ E0.P s'.fr s'.hp Tryz.f54.results.toList=some xs/\Ee xs=ND r:=by
 unfold Ia at h;refine Ax (BY (s1:=⟨Fr 18 [(0,AA.enc x0)],[]⟩) AJ ?_);refine AK AC [(1,.pt 0 0 0)] [some ⟨5,60,[AA.enc x0],false⟩] ?_;refine AH ?_;obtain ⟨j3,hj3,h⟩:=OB h;refine AM (s1:=⟨Fr 18 [(2,.b j3)],[]⟩) ?_ ?_
 ·refine AD (n:=18) AC 5 [(1,.pt 0 0 0),(7,.b (decide ((x0.2.1.length:Int) > 40)))] [some ⟨5,60,[AA.enc x0],false⟩] kr ?_
  rcases BE (decide ((x0.2.1.length:Int) > 40)) with hc4 | hc4
  ·rw [if_pos hc4] at hj3
   rw [hc4];refine AD (n:=18) AC 11 [(2,.b true)] [some ⟨5,60,[AA.enc x0],false⟩] kr ?_;have hq:=OI hj3; subst hq;exact AI rfl (Ar [] trivial ⟨lv,trivial⟩)
  ·rw [Bm hc4] at hj3
   rw [hc4];refine AD (n:=18) AC 2 [(1,.pt 0 0 0),(7,.b false),(9,.sl 1 (x0.2.2.2.1.map cdS.enc))] [some ⟨5,60,[AA.enc x0],false⟩] kr ?_;refine AZ AC 0 rfl (DR kr rfl (C3 (a:= .sl 1 (x0.2.2.2.1.map cdS.enc)) kr (Bn (el:=9) kr))) ?_;refine AD (n:=18) AC 3 [(1,.pt 0 0 0),(13,.b (decide ((x0.2.2.2.1.length:Int) > 20)))] [some ⟨5,60,[AA.enc x0],false⟩] kr ?_;rcases BE (decide ((x0.2.2.2.1.length:Int) > 20)) with hc5 | hc5
   ·rw [if_pos hc5] at hj3
    rw [hc5];refine AD (n:=18) AC 5 [(2,.b true)] [some ⟨5,60,[AA.enc x0],false⟩] kr ?_;have hq:=OI hj3; subst hq;exact AI rfl (Ar [] trivial ⟨lv,trivial⟩)
   ·rw [Bm hc5] at hj3
    rw [hc5];refine AD (n:=18) AC 2 [(13,.b false),(15,.sl 1 (x0.2.2.2.1.map cdS.enc))] [some ⟨5,60,[AA.enc x0],false⟩] kr ?_;obtain ⟨v1,hv1,hj3⟩:=OB hj3;refine AS (caps:=[]) (xs:=[.sl 1 (x0.2.2.2.1.map cdS.enc),.fn 55 [] []]) (u:=(x0.2.2.2.1,(),())) rfl rfl Gj rfl kr kr kr (AL (AW (c:=(cdL 1 cdS)) (v:=x0.2.2.2.1)) (AL (Sm.fn Ao) Ao)) (.inl kr) hv1 ?_;refine AD (n:=18) AC 2 [(2,.b v1)] [some ⟨5,60,[AA.enc x0],false⟩] kr ?_;have hq:=OI hj3; subst hq;exact AI rfl (Ar [] trivial ⟨lv,trivial⟩)
 refine AR ?_;have hq:=OI h; subst hq;exact ⟨⟨Fr 18 [(2,.b j3)],[]⟩,AJ,.inr rfl,[.b j3],kr,kr⟩
def Vy:List AV->Option AV:=ES M7 (fun a=>Ia a.1) ND
theorem V8:XOk 54 Vy:=by
 refine AU Tryz.func54 (c:=Pv) ?h2 ⟨Tryz.call54⟩ M7 (fun a=>Ia a.1) ND (fun a=>(by show 1<=18; decide)) ?h3 ?h4
 case h2=>kernel_rfl
 case h3=>intro b; kernel_rfl
 case h4=>exact fun a b h=>TW a.1 b h
/- slices.IndexFunc[[]trestle/api.Clause,trestle/api.Clause] -/
noncomputable def Ce:Code:=BL Tryz.f85
def BS (x0:(List AF)):Nat->Int->Option ((Unit) ⊕ (Int))
 | 0,_=>none
 | f + 1,c1 =>
  if (decide (c1 < (x0.length:Int)))=true then
  (idx x0 c1).bind fun v3 =>
  (Ia v3).bind fun v4 =>
  if v4=true then
  some (.inr c1)
  else
  BS x0 f (wr .i64 (c1 + 1))
  else
  some (.inl ())
def BG (x0:(List AF)):Option (Int) :=
 (BS x0 100000 0).bind fun r7 =>
 match r7 with
 | (.inl w8) =>
  some (-1)
 | (.inr w9) =>
  some w9
def Ch:Cs ((List AF)×Unit×Unit):=(csC (cdL 5 AA) (csC (cdF 54 csN (fun _=>rfl)) csN))
def Cj (r:Int):AV:=cdI.enc r
theorem Dj (x0:(List AF)):∀ (f:Nat) (c1:Int) (r:(Unit) ⊕ (Int)),BS x0 f c1=some r->SemN E0 ⟨none,false⟩ (pc Ce [1,0,1,0,0]) f ⟨Fr 19 [(0,.sl 5 (x0.map AA.enc)),(1,.fn 54 [] []),(7,.j (x0.length:Int)),(8,.j c1)],[]⟩ (fun e s=>match r with
 | (.inl w)=>e=(.exit 0)/\Wk E0 s ⟨Fr 19 [],[]⟩
 | (.inr w)=>e = .ret/\Wk E0 s ⟨Fr 19 [(4,.j w)],[]⟩):=by
 intro f;induction f with
 | zero=>intro c1 r h; cases h
 | succ f ih0 =>
  intro c1 r h
  have ih:=fun (c1:Int)=>ih0 c1 r
  unfold BS at h;refine CI ?_
  let p1:Nat×AV:=(8,.j c1)
  let p2:Nat×AV:=(7,.j (x0.length:Int))
  let p3:Nat×AV:=(1,.fn 54 [] [])
  let p4:Nat×AV:=(0,.sl 5 (x0.map AA.enc))
  refine AK AC [p4,p3,p2,p1,(9,.b (decide (c1 < (x0.length:Int))))] [] ?_;refine AH ?_;refine AT (b:=(decide (c1 < (x0.length:Int)))) kr (fun hb2=>?_) (fun hb2=>?_)
  ·rw [if_pos hb2] at h
   refine AY ?_;refine AH ?_;refine Al ?_
   let p5:Nat×AV:=(5,.j c1)
   refine AK AC [p4,p3,p5,p2,p1] [] ?_;refine AH ?_;obtain ⟨v3,hv3,h⟩:=OB h;obtain ⟨v4,hv4,h⟩:=OB h;refine AM (s1:=⟨Fr 19 [p4,p3,p5,p2,p1,(16,.b v4)],[]⟩) ?_ ?_
   ·refine AD (n:=19) AC 3 [p4,p3,p5,p2,p1,(11,.fn 54 [] []),(12,.sl 5 (x0.map AA.enc)),(13,.j c1)] [] kr ?_
    refine AZ AC 0 rfl (DR (AB rfl) rfl (AP (a:= .sl 5 (x0.map AA.enc)) (b:= .j c1) kr kr (Di (e:=AA.enc) (el:=60) (k:=5) (ki:= .i64) kr kr hv3))) ?_;refine AD (n:=19) AC 1 [p4,p3,p5,p2,p1,(11,.fn 54 [] []),(15,AA.enc v3)] [] kr ?_;refine AS (caps:=[]) (xs:=[AA.enc v3]) (u:=(v3,())) rfl rfl V8 rfl (AB rfl) kr kr (AL (AW (c:=AA) (v:=v3)) Ao) (.inl kr) hv4 ?_;exact AI rfl AJ
   refine AT (b:=v4) kr (fun hb5=>?_) (fun hb5=>?_)
   ·rw [if_pos hb5] at h
    refine AK AC [(4,.j c1)] [] ?_;refine AR ?_;have hq:=OI h; subst hq;exact ⟨rfl,AJ⟩
   ·rw [Bm hb5] at h
    refine AY ?_
    let p6:Nat×AV:=(8,.j (wr .i64 (c1 + 1)))
    refine D1 AC [p4,p3,p2,p6] [] ?_;exact Aq (s1:=⟨Fr 19 [p4,p3,p2,p6],[]⟩) AJ (ih (wr .i64 (c1 + 1)) h)
  ·rw [Bm hb2] at h
   refine C6 ?_;have hq:=OI h; subst hq;exact ⟨rfl,AJ⟩
theorem F4 (x0:(List AF)) (r:Int) (h:BG x0=some r):Sem E0 ⟨none,false⟩ Ce ⟨Fr 19 (A6 0 (Ch.enc (x0,(),()))),[]⟩ fun e s'=>(e = .normal\/e = .ret)/\∃ xs,EZ E0.P s'.fr s'.hp Tryz.f85.results.toList=some xs/\Ee xs=Cj r:=by
 unfold BG at h
 let p1:Nat×AV:=(1,.fn 54 [] [])
 let p2:Nat×AV:=(0,.sl 5 (x0.map AA.enc))
 refine Ax (BY (s1:=⟨Fr 19 [p2,p1],[]⟩) AJ ?_);refine AK AC [p2,p1] [] ?_;refine AH ?_;refine AH ?_
 let p3:Nat×AV:=(8,.j 0)
 let p4:Nat×AV:=(7,.j (x0.length:Int))
 refine AM (s1:=⟨Fr 19 [p2,p1,p4,p3],[]⟩) ?_ ?_
 ·refine AD (n:=19) AC 1 [p2,p1,(6,.sl 5 (x0.map AA.enc))] [] kr ?_
  refine AZ AC 0 rfl (DR (AB rfl) rfl (C3 (a:= .sl 5 (x0.map AA.enc)) kr (Bn (el:=60) kr))) ?_;exact Ad AC
 refine Al ?_;obtain ⟨r7,hr7,h⟩:=OB h;refine DB (n:=100000) ?_;rcases r7 with w8 | w9
 ·try dsimp only at h
  refine BB (Aq (s1:=⟨Fr 19 [p2,p1,p4,p3],[]⟩) AJ (Dj x0 _ 0 _ hr7)) ?_;refine AK AC [(4,.j (-1))] [] ?_;refine AR ?_;have hq:=OI h; subst hq;exact ⟨⟨Fr 19 [(4,.j (-1))],[]⟩,AJ,.inr rfl,[.j (-1)],kr,kr⟩
 ·try dsimp only at h
  refine BB (Aq (s1:=⟨Fr 19 [p2,p1,p4,p3],[]⟩) AJ (Dj x0 _ 0 _ hr7)) ?_;have hq:=OI h; subst hq;exact ⟨⟨Fr 19 [(4,.j w9)],[]⟩,AJ,.inr rfl,[.j w9],kr,kr⟩
def GF:List AV->Option AV:=ES Ch (fun a=>BG a.1) Cj
theorem GH:XOk 85 GF:=by
 refine AU Tryz.func85 (c:=Ce) ?h2 ⟨Tryz.call85⟩ Ch (fun a=>BG a.1) Cj (fun a=>(by show 2<=19; decide)) ?h3 ?h4
 case h2=>kernel_rfl
 case h3=>intro b; kernel_rfl
 case h4=>exact fun a b h=>F4 a.1 b h
/- slices.ContainsFunc[[]trestle/api.Clause,trestle/api.Clause] -/
noncomputable def Dg:Code:=BL Tryz.f53
def As (x0:(List AF)):Option (Bool) :=
 (BG x0).bind fun v1 =>
 some (decide (v1≥0))
def CO:Cs ((List AF)×Unit×Unit):=(csC (cdL 5 AA) (csC (cdF 54 csN (fun _=>rfl)) csN))
def CR (r:Bool):AV:=cdB.enc r
theorem FR (x0:(List AF)) (r:Bool) (h:As x0=some r):Sem E0 ⟨none,false⟩ Dg ⟨Fr 9 (A6 0 (CO.enc (x0,(),()))),[]⟩ fun e s'=>(e = .normal\/e = .ret)/\∃ xs,EZ E0.P s'.fr s'.hp Tryz.f53.results.toList=some xs/\Ee xs=CR r:=by
 unfold As at h
 let p1:Nat×AV:=(0,.sl 5 (x0.map AA.enc))
 refine Ax (BY (s1:=⟨Fr 9 [p1,(1,.fn 54 [] [])],[]⟩) AJ ?_);refine AK AC [p1,(1,.fn 54 [] [])] [] ?_;refine AH ?_;obtain ⟨v1,hv1,h⟩:=OB h
 let p2:Nat×AV:=(4,.b (decide (v1≥0)))
 refine AM (s1:=⟨Fr 9 [p2],[]⟩) ?_ ?_
 ·refine AD (n:=9) AC 2 [(5,.sl 5 (x0.map AA.enc)),(6,.fn 54 [] [])] [] kr ?_
  refine AS (caps:=[]) (xs:=[.sl 5 (x0.map AA.enc),.fn 54 [] []]) (u:=(x0,(),())) rfl rfl GH rfl (AB rfl) kr kr (AL (AW (c:=(cdL 5 AA)) (v:=x0)) (AL (Sm.fn Ao) Ao)) (.inl kr) hv1 ?_;exact Ad AC
 refine AR ?_;have hq:=OI h; subst hq;exact ⟨⟨Fr 9 [p2],[]⟩,AJ,.inr rfl,[.b (decide (v1≥0))],kr,kr⟩
def Fg:List AV->Option AV:=ES CO (fun a=>As a.1) CR
theorem Fk:XOk 53 Fg:=by
 refine AU Tryz.func53 (c:=Dg) ?h2 ⟨Tryz.call53⟩ CO (fun a=>As a.1) CR (fun a=>(by show 2<=9; decide)) ?h3 ?h4
 case h2=>kernel_rfl
 case h3=>intro b; kernel_rfl
 case h4=>exact fun a b h=>FR a.1 b h
/- trestle/trestlelaw03.Few -/
noncomputable def SD:Code:=BL Tryz.f15
def MM (x0:(List AF)):Option (Bool) :=
 (if (decide ((x0.length:Int)<=40))=true then (As x0).bind fun v1 =>
 some (!v1) else some false).bind fun j3 =>
 some j3
def O0:Cs ((List AF)×Unit):=(csC (cdL 5 AA) csN)
def O5 (r:Bool):AV:=cdB.enc r
theorem Vb (x0:(List AF)) (r:Bool) (h:MM x0=some r):Sem E0 ⟨none,false⟩ SD ⟨Fr 11 (A6 0 (O0.enc (x0,()))),[]⟩ fun e s'=>(e = .normal\/e = .ret)/\∃ xs,EZ E0.P s'.fr s'.hp Tryz.f15.results.toList=some xs/\Ee xs=O5 r:=by
 unfold MM at h;refine Ax (BY (s1:=⟨Fr 11 [(0,.sl 5 (x0.map AA.enc))],[]⟩) AJ ?_);refine AK AC [(0,.sl 5 (x0.map AA.enc))] [] ?_;refine AH ?_;obtain ⟨j3,hj3,h⟩:=OB h;refine AM (s1:=⟨Fr 11 [(2,.b j3)],[]⟩) ?_ ?_
 ·refine AD (n:=11) AC 1 [(0,.sl 5 (x0.map AA.enc)),(3,.sl 5 (x0.map AA.enc))] [] kr ?_
  refine AZ AC 0 rfl (DR (AB rfl) rfl (C3 (a:= .sl 5 (x0.map AA.enc)) kr (Bn (el:=60) kr))) ?_;refine AD (n:=11) AC 2 [(0,.sl 5 (x0.map AA.enc)),(6,.b (decide ((x0.length:Int)<=40)))] [] kr ?_;rcases BE (decide ((x0.length:Int)<=40)) with hc4 | hc4
  ·rw [if_pos hc4] at hj3
   rw [hc4];refine AD (n:=11) AC 1 [(6,.b true),(7,.sl 5 (x0.map AA.enc))] [] kr ?_;obtain ⟨v1,hv1,hj3⟩:=OB hj3;refine AS (caps:=[]) (xs:=[.sl 5 (x0.map AA.enc),.fn 54 [] []]) (u:=(x0,(),())) rfl rfl Fk rfl kr kr kr (AL (AW (c:=(cdL 5 AA)) (v:=x0)) (AL (Sm.fn Ao) Ao)) (.inl kr) hv1 ?_;refine AD (n:=11) AC 3 [(2,.b (!v1))] [] kr ?_;have hq:=OI hj3; subst hq;exact AI rfl AJ
  ·rw [Bm hc4] at hj3
   rw [hc4];refine AD (n:=11) AC 5 [(2,.b false)] [] kr ?_;have hq:=OI hj3; subst hq;exact AI rfl AJ
 refine AR ?_;have hq:=OI h; subst hq;exact ⟨⟨Fr 11 [(2,.b j3)],[]⟩,AJ,.inr rfl,[.b j3],kr,kr⟩
def Xi:List AV->Option AV:=ES O0 (fun a=>MM a.1) O5
theorem Xr:XOk 15 Xi:=by
 refine AU Tryz.func15 (c:=SD) ?h2 ⟨Tryz.call15⟩ O0 (fun a=>MM a.1) O5 (fun a=>(by show 1<=11; decide)) ?h3 ?h4
 case h2=>kernel_rfl
 case h3=>intro b; kernel_rfl
 case h4=>exact fun a b h=>Vb a.1 b h
/- trestle/trestlelaw03.FewAll$1 -/
noncomputable def NS:Code:=BL Tryz.f89
def FQ (x0:(List AF)):Option (Bool) :=
 (MM x0).bind fun v1 =>
 some (!v1)
def J8:Cs ((List AF)×Unit):=(csC (cdL 5 AA) csN)
def KF (r:Bool):AV:=cdB.enc r
theorem Qw (x0:(List AF)) (r:Bool) (h:FQ x0=some r):Sem E0 ⟨none,false⟩ NS ⟨Fr 6 (A6 0 (J8.enc (x0,()))),[]⟩ fun e s'=>(e = .normal\/e = .ret)/\∃ xs,EZ E0.P s'.fr s'.hp Tryz.f89.results.toList=some xs/\Ee xs=KF r:=by
 unfold FQ at h
 let p1:Nat×AV:=(0,.sl 5 (x0.map AA.enc))
 refine Ax (BY (s1:=⟨Fr 6 [p1],[]⟩) AJ ?_);refine AK AC [p1] [] ?_;refine AH ?_;obtain ⟨v1,hv1,h⟩:=OB h;refine AM (s1:=⟨Fr 6 [(2,.b (!v1))],[]⟩) ?_ ?_
 ·refine AD (n:=6) AC 1 [(3,.sl 5 (x0.map AA.enc))] [] kr ?_
  refine AS (caps:=[]) (xs:=[.sl 5 (x0.map AA.enc)]) (u:=(x0,())) rfl rfl Xr rfl (AB rfl) kr kr (AL (AW (c:=(cdL 5 AA)) (v:=x0)) Ao) (.inl kr) hv1 ?_;exact Ad AC
 refine AR ?_;have hq:=OI h; subst hq;exact ⟨⟨Fr 6 [(2,.b (!v1))],[]⟩,AJ,.inr rfl,[.b (!v1)],kr,kr⟩
def Sf:List AV->Option AV:=ES J8 (fun a=>FQ a.1) KF
theorem Sk:XOk 89 Sf:=by
 refine AU Tryz.func89 (c:=NS) ?h2 ⟨Tryz.call89⟩ J8 (fun a=>FQ a.1) KF (fun a=>(by show 1<=6; decide)) ?h3 ?h4
 case h2=>kernel_rfl
 case h3=>intro b; kernel_rfl
 case h4=>exact fun a b h=>Qw a.1 b h
/- slices.IndexFunc[[][]trestle/api.Clause,[]trestle/api.Clause] -/
noncomputable def CN:Code:=BL Tryz.f140
def BM (x0:(List (List AF))):Nat->Int->Option ((Unit) ⊕ (Int))
 | 0,_=>none
 | f + 1,c1 =>
  if (decide (c1 < (x0.length:Int)))=true then
  (idx x0 c1).bind fun v3 =>
  (FQ v3).bind fun v4 =>
  if v4=true then
  some (.inr c1)
  else
  BM x0 f (wr .i64 (c1 + 1))
  else
  some (.inl ())
def A5 (x0:(List (List AF))):Option (Int) :=
 (BM x0 100000 0).bind fun r7 =>
 match r7 with
 | (.inl w8) =>
  some (-1)
 | (.inr w9) =>
  some w9
def CQ:Cs ((List (List AF))×Unit×Unit):=(csC (cdL 1 (cdL 5 AA)) (csC (cdF 89 csN (fun _=>rfl)) csN))
def CU (r:Int):AV:=cdI.enc r
theorem DZ (x0:(List (List AF))):∀ (f:Nat) (c1:Int) (r:(Unit) ⊕ (Int)),BM x0 f c1=some r->SemN E0 ⟨none,false⟩ (pc CN [1,0,1,0,0]) f ⟨Fr 19 [(0,.sl 1 (x0.map (cdL 5 AA).enc)),(1,.fn 89 [] []),(7,.j (x0.length:Int)),(8,.j c1)],[]⟩ (fun e s=>match r with
 | (.inl w)=>e=(.exit 0)/\Wk E0 s ⟨Fr 19 [],[]⟩
 | (.inr w)=>e = .ret/\Wk E0 s ⟨Fr 19 [(4,.j w)],[]⟩):=by
 intro f;induction f with
 | zero=>intro c1 r h; cases h
 | succ f ih0 =>
  intro c1 r h
  have ih:=fun (c1:Int)=>ih0 c1 r
  unfold BM at h;refine CI ?_
  let p1:Nat×AV:=(8,.j c1)
  let p2:Nat×AV:=(7,.j (x0.length:Int))
  let p3:Nat×AV:=(1,.fn 89 [] [])
  let p4:Nat×AV:=(0,.sl 1 (x0.map (cdL 5 AA).enc))
  refine AK AC [p4,p3,p2,p1,(9,.b (decide (c1 < (x0.length:Int))))] [] ?_;refine AH ?_;refine AT (b:=(decide (c1 < (x0.length:Int)))) kr (fun hb2=>?_) (fun hb2=>?_)
  ·rw [if_pos hb2] at h
   refine AY ?_;refine AH ?_;refine Al ?_
   let p5:Nat×AV:=(5,.j c1)
   refine AK AC [p4,p3,p5,p2,p1] [] ?_;refine AH ?_;obtain ⟨v3,hv3,h⟩:=OB h;obtain ⟨v4,hv4,h⟩:=OB h;refine AM (s1:=⟨Fr 19 [p4,p3,p5,p2,p1,(16,.b v4)],[]⟩) ?_ ?_
   ·refine AD (n:=19) AC 3 [p4,p3,p5,p2,p1,(11,.fn 89 [] []),(12,.sl 1 (x0.map (cdL 5 AA).enc)),(13,.j c1)] [] kr ?_
    refine AZ AC 0 rfl (DR (AB rfl) rfl (AP (a:= .sl 1 (x0.map (cdL 5 AA).enc)) (b:= .j c1) kr kr (Di (e:=(cdL 5 AA).enc) (el:=22) (k:=1) (ki:= .i64) kr kr hv3))) ?_;refine AD (n:=19) AC 1 [p4,p3,p5,p2,p1,(11,.fn 89 [] []),(15,.sl 5 (v3.map AA.enc))] [] kr ?_;refine AS (caps:=[]) (xs:=[.sl 5 (v3.map AA.enc)]) (u:=(v3,())) rfl rfl Sk rfl (AB rfl) kr kr (AL (AW (c:=(cdL 5 AA)) (v:=v3)) Ao) (.inl kr) hv4 ?_;exact AI rfl AJ
   refine AT (b:=v4) kr (fun hb5=>?_) (fun hb5=>?_)
   ·rw [if_pos hb5] at h
    refine AK AC [(4,.j c1)] [] ?_;refine AR ?_;have hq:=OI h; subst hq;exact ⟨rfl,AJ⟩
   ·rw [Bm hb5] at h
    refine AY ?_
    let p6:Nat×AV:=(8,.j (wr .i64 (c1 + 1)))
    refine D1 AC [p4,p3,p2,p6] [] ?_;exact Aq (s1:=⟨Fr 19 [p4,p3,p2,p6],[]⟩) AJ (ih (wr .i64 (c1 + 1)) h)
  ·rw [Bm hb2] at h
   refine C6 ?_;have hq:=OI h; subst hq;exact ⟨rfl,AJ⟩
theorem FT (x0:(List (List AF))) (r:Int) (h:A5 x0=some r):Sem E0 ⟨none,false⟩ CN ⟨Fr 19 (A6 0 (CQ.enc (x0,(),()))),[]⟩ fun e s'=>(e = .normal\/e = .ret)/\∃ xs,EZ E0.P s'.fr s'.hp Tryz.f140.results.toList=some xs/\Ee xs=CU r:=by
 unfold A5 at h
 let p1:Nat×AV:=(1,.fn 89 [] [])
 let p2:Nat×AV:=(0,.sl 1 (x0.map (cdL 5 AA).enc))
 refine Ax (BY (s1:=⟨Fr 19 [p2,p1],[]⟩) AJ ?_);refine AK AC [p2,p1] [] ?_;refine AH ?_;refine AH ?_
 let p3:Nat×AV:=(8,.j 0)
 let p4:Nat×AV:=(7,.j (x0.length:Int))
 refine AM (s1:=⟨Fr 19 [p2,p1,p4,p3],[]⟩) ?_ ?_
 ·refine AD (n:=19) AC 1 [p2,p1,(6,.sl 1 (x0.map (cdL 5 AA).enc))] [] kr ?_
  refine AZ AC 0 rfl (DR (AB rfl) rfl (C3 (a:= .sl 1 (x0.map (cdL 5 AA).enc)) kr (Bn (el:=22) kr))) ?_;exact Ad AC
 refine Al ?_;obtain ⟨r7,hr7,h⟩:=OB h;refine DB (n:=100000) ?_;rcases r7 with w8 | w9
 ·try dsimp only at h
  refine BB (Aq (s1:=⟨Fr 19 [p2,p1,p4,p3],[]⟩) AJ (DZ x0 _ 0 _ hr7)) ?_;refine AK AC [(4,.j (-1))] [] ?_;refine AR ?_;have hq:=OI h; subst hq;exact ⟨⟨Fr 19 [(4,.j (-1))],[]⟩,AJ,.inr rfl,[.j (-1)],kr,kr⟩
 ·try dsimp only at h
  refine BB (Aq (s1:=⟨Fr 19 [p2,p1,p4,p3],[]⟩) AJ (DZ x0 _ 0 _ hr7)) ?_;have hq:=OI h; subst hq;exact ⟨⟨Fr 19 [(4,.j w9)],[]⟩,AJ,.inr rfl,[.j w9],kr,kr⟩
def Fj:List AV->Option AV:=ES CQ (fun a=>A5 a.1) CU
theorem Fm:XOk 140 Fj:=by
 refine AU Tryz.func140 (c:=CN) ?h2 ⟨Tryz.call140⟩ CQ (fun a=>A5 a.1) CU (fun a=>(by show 2<=19; decide)) ?h3 ?h4
 case h2=>kernel_rfl
 case h3=>intro b; kernel_rfl
 case h4=>exact fun a b h=>FT a.1 b h
/- slices.ContainsFunc[[][]trestle/api.Clause,[]trestle/api.Clause] -/
noncomputable def DY:Code:=BL Tryz.f88
def Az (x0:(List (List AF))):Option (Bool) :=
 (A5 x0).bind fun v1 =>
 some (decide (v1≥0))
def CA:Cs ((List (List AF))×Unit×Unit):=(csC (cdL 1 (cdL 5 AA)) (csC (cdF 89 csN (fun _=>rfl)) csN))
def CB (r:Bool):AV:=cdB.enc r
theorem Ev (x0:(List (List AF))) (r:Bool) (h:Az x0=some r):Sem E0 ⟨none,false⟩ DY ⟨Fr 9 (A6 0 (CA.enc (x0,(),()))),[]⟩ fun e s'=>(e = .normal\/e = .ret)/\∃ xs,EZ E0.P s'.fr s'.hp Tryz.f88.results.toList=some xs/\Ee xs=CB r:=by
 unfold Az at h
 let p1:Nat×AV:=(0,.sl 1 (x0.map (cdL 5 AA).enc))
 refine Ax (BY (s1:=⟨Fr 9 [p1,(1,.fn 89 [] [])],[]⟩) AJ ?_);refine AK AC [p1,(1,.fn 89 [] [])] [] ?_;refine AH ?_;obtain ⟨v1,hv1,h⟩:=OB h
 let p2:Nat×AV:=(4,.b (decide (v1≥0)))
 refine AM (s1:=⟨Fr 9 [p2],[]⟩) ?_ ?_
 ·refine AD (n:=9) AC 2 [(5,.sl 1 (x0.map (cdL 5 AA).enc)),(6,.fn 89 [] [])] [] kr ?_
  refine AS (caps:=[]) (xs:=[.sl 1 (x0.map (cdL 5 AA).enc),.fn 89 [] []]) (u:=(x0,(),())) rfl rfl Fm rfl (AB rfl) kr kr (AL (AW (c:=(cdL 1 (cdL 5 AA))) (v:=x0)) (AL (Sm.fn Ao) Ao)) (.inl kr) hv1 ?_;exact Ad AC
 refine AR ?_;have hq:=OI h; subst hq;exact ⟨⟨Fr 9 [p2],[]⟩,AJ,.inr rfl,[.b (decide (v1≥0))],kr,kr⟩
def FM:List AV->Option AV:=ES CA (fun a=>Az a.1) CB
theorem FN:XOk 88 FM:=by
 refine AU Tryz.func88 (c:=DY) ?h2 ⟨Tryz.call88⟩ CA (fun a=>Az a.1) CB (fun a=>(by show 2<=9; decide)) ?h3 ?h4
 case h2=>kernel_rfl
 case h3=>intro b; kernel_rfl
 case h4=>exact fun a b h=>Ev a.1 b h
/- trestle/trestlelaw03.FewAll -/
noncomputable def Om:Code:=BL Tryz.f35
def IZ (x0:(List (List AF))) (x1:Int):Option (Bool) :=
 (if (decide ((x0.length:Int)<=x1))=true then (Az x0).bind fun v1 =>
 some (!v1) else some false).bind fun j3 =>
 some j3
def L8:Cs ((List (List AF))×Int×Unit):=(csC (cdL 1 (cdL 5 AA)) (csC cdI csN))
def MG (r:Bool):AV:=cdB.enc r
theorem SU (x0:(List (List AF))) (x1:Int) (r:Bool) (h:IZ x0 x1=some r):Sem E0 ⟨none,false⟩ Om ⟨Fr 14 (A6 0 (L8.enc (x0,x1,()))),[]⟩ fun e s'=>(e = .normal\/e = .ret)/\∃ xs,EZ E0.P s'.fr s'.hp Tryz.f35.results.toList=some xs/\Ee xs=MG r:=by
 unfold IZ at h;refine Ax (BY (s1:=⟨Fr 14 [(0,.sl 1 (x0.map (cdL 5 AA).enc)),(1,.j x1)],[]⟩) AJ ?_);refine AK AC [(0,.sl 1 (x0.map (cdL 5 AA).enc)),(1,.j x1)] [] ?_;refine AH ?_;obtain ⟨j3,hj3,h⟩:=OB h;refine AM (s1:=⟨Fr 14 [(4,.b j3)],[]⟩) ?_ ?_
 ·refine AD (n:=14) AC 1 [(0,.sl 1 (x0.map (cdL 5 AA).enc)),(1,.j x1),(5,.sl 1 (x0.map (cdL 5 AA).enc))] [] kr ?_
  refine AZ AC 0 rfl (DR (AB rfl) rfl (C3 (a:= .sl 1 (x0.map (cdL 5 AA).enc)) kr (Bn (el:=22) kr))) ?_;refine AD (n:=14) AC 3 [(0,.sl 1 (x0.map (cdL 5 AA).enc)),(9,.b (decide ((x0.length:Int)<=x1)))] [] kr ?_;rcases BE (decide ((x0.length:Int)<=x1)) with hc4 | hc4
  ·rw [if_pos hc4] at hj3
   rw [hc4];refine AD (n:=14) AC 1 [(9,.b true),(10,.sl 1 (x0.map (cdL 5 AA).enc))] [] kr ?_;obtain ⟨v1,hv1,hj3⟩:=OB hj3;refine AS (caps:=[]) (xs:=[.sl 1 (x0.map (cdL 5 AA).enc),.fn 89 [] []]) (u:=(x0,(),())) rfl rfl FN rfl kr kr kr (AL (AW (c:=(cdL 1 (cdL 5 AA))) (v:=x0)) (AL (Sm.fn Ao) Ao)) (.inl kr) hv1 ?_;refine AD (n:=14) AC 3 [(4,.b (!v1))] [] kr ?_;have hq:=OI hj3; subst hq;exact AI rfl AJ
  ·rw [Bm hc4] at hj3
   rw [hc4];refine AD (n:=14) AC 5 [(4,.b false)] [] kr ?_;have hq:=OI hj3; subst hq;exact AI rfl AJ
 refine AR ?_;have hq:=OI h; subst hq;exact ⟨⟨Fr 14 [(4,.b j3)],[]⟩,AJ,.inr rfl,[.b j3],kr,kr⟩
def Uf:List AV->Option AV:=ES L8 (fun a=>IZ a.1 a.2.1) MG
theorem Uq:XOk 35 Uf:=by
 refine AU Tryz.func35 (c:=Om) ?h2 ⟨Tryz.call35⟩ L8 (fun a=>IZ a.1 a.2.1) MG (fun a=>(by show 2<=14; decide)) ?h3 ?h4
 case h2=>kernel_rfl
 case h3=>intro b; kernel_rfl
 case h4=>exact fun a b h=>SU a.1 a.2.1 b h
theorem Vj {R:List RI}{c:Nat}:¬ own R [] c:=fun ⟨b,B,_,hb,_⟩=>by simp at hb
/-- What a call hands back, seen as frozen. -/
def Yw (h:Hp):AV->Option AV
 | .tp l=>(UR (JD h 12) l).map .tp
 | x=>JD h 12 x
theorem ABJ {w:World}{Z:Nat->Prop}{R:List RI}{h:Hp}{x y:AV}{v:Value}(hh:HR w Z R h) (hv:VR w Z R x v) (e:Yw h x=some y):VR w (fun c=>Z c\/own R h c) [] y v:=by
 unfold Yw at e
 split at e
 ·obtain ⟨ys,h1,rfl⟩:=Option.map_eq_some_iff.1 e
  cases hv with
  | tp hl hx =>
   have:=allV_vr (Pg hh 12) ⟨hl,hx⟩ h1
   exact .tp this.len this.at_
 ·exact Pg hh 12 _ _ _ hv e
theorem frz_ret {E:Env}{f:FuncId}{w:World}{Z:Nat->Prop}{us:List Value}{x y:AV}{h':Hp}(hr:WE E f us w Z [] [] x h') (hv:Yw h' x=some y) :
  Ret E.P f us.toArray w fun v w'=>w.grownBy w' none/\VR w' (fun c=>Z c\/(w.heap.size<=c/\c < w'.heap.size)) [] y v:=by
 refine Ret.mono hr fun v w' hS=>?_
 obtain ⟨Z',R',k1,k2,k3⟩:=hS
 refine ⟨⟨k3.os,k3.tape,k3.output,k3.size,fun c hc _=>k3.block c hc Vj⟩,(ABJ k1 k2 hv).mono (fun _ _=>rfl) (fun c hc=>?_) (fun _ _ h=>h)⟩
 rcases hc with hc | hc
 ·rcases k3.z' c hc with h1 | h1 | h1
  ·exact .inl h1
  ·exact absurd h1 Vj
  ·exact .inr ⟨h1,k1.zlt c hc⟩
 ·rcases k3.own_ c hc with h1 | h1
  ·exact absurd h1 Vj
  ·obtain ⟨b,B,r,h2,_,h3,rfl⟩:=hc
   exact .inr ⟨h1,k1.rltL h2 h3⟩
theorem hr_nil {w:World}{Z:Nat->Prop}(hz:∀ c,Z c->c < w.heap.size):HR w Z [] []:=⟨rfl,fun b B hB=>by simp at hB,fun b b' B B' r r' hB=>by simp at hB,hz⟩
/-- A closed call is told by what the interpreter finds. -/
theorem ZG {E:Env}(hE:EnvOk E){f:FuncId}{g:List AV->Option AV}(hc:DD E.P f) (hg:∀ xs y,g xs=some y->∃ n x h',NW E (evC E n) none f xs []=some (x,h')/\Yw h' x=some y):EnvOk (E.withX f g):=by
 refine hE.withX hc fun xs y h w Z us hz hgi hv=>?_
 obtain ⟨n,x,h',he,hvw⟩:=hg xs y h
 exact frz_ret (enter_sound hE (code_sound hE n).1 he (hr_nil hz) hv hgi (fun y hy=>by cases hy)) hvw
section
variable {E:Env}{w w':World}{Z Z':Nat->Prop}{R R':List RI}{h h':Hp}{base:Bs}{s s':St}{a:Act}{n:Nat}
/-- What a deferred call must bring about when the function below returns: nothing but new blocks. -/
def YR (P:Program) (g:FuncId) (us:List Value):Prop:=∀ w1,CallsDIn (Fw none) 0 P g us.toArray .returning w1 fun e u' w2=>match e with | .returned _=>settle u' = .returning/\w1.grownBy w2 none | _=>False
theorem SR.grown {D:List Deferred}{b':Bs}(sr:SR E base w Z R s a) (hb:b'.n=base.n) (hg:w.grownBy w' none) (hm:MksD base.n w Z R s.hp D b'.D):SR E b' w' Z R s { a with defers:=D }:=by
 have hz:∀ c,Z c->w'.heap[c]? = w.heap[c]?:=fun c hc=>hg.block c (sr.hh.zlt c hc) (by simp)
 refine ⟨sr.hh.keep hg.size (fun c hc=>hg.block c hc (by simp)),sr.fr.off hz,?_,sr.gl.off hz,by rw [hb]; exact Nat.le_trans sr.bs hg.size⟩
 show MksD b'.n _ _ _ _ _ _
 rw [hb]
 exact MksD.imp (fun r h1 h2 h3=>⟨(hg.block r (OU h1) (by simp)).trans h1,h2,h3⟩) hm
theorem U3 {d:Deferred}{g:FuncId}{fv:_}{cap:Array Value}{us:List Value}(hbD:base.D=[d]) (ht:d.target = .fn fv cap) (hinv:∀ w1,(invoke d.target d.args).run E.P w1 = .ok (.enter g us.toArray) w1) (hcall:YR E.P g us){fn:Func}{S:Value->World->Prop}{xs:List AV}(hres:EZ E.P s.fr s.hp fn.results.toList=some xs)
  (hS:∀ w' u,w.heap.size<=w'.heap.size->w'.os=w.os->w'.tape=w.tape->w'.output=w.output->(∀ c,c < base.n->w'.heap[c]? = w.heap[c]?)->HR w' Z R s.hp->VR w' Z R (Ee xs) u->S u w') :
  ∀ {D:List Deferred} {w1:World},SR E base w1 Z R s { a with defers:=D }->w1.heap.size=w.heap.size->w1.os=w.os->w1.tape=w.tape->w1.output=w.output->(∀ c,c < base.n->w1.heap[c]? = w.heap[c]?) ->
  LeavesInM (Fw none) 0 E.P fn a.tmps (fun e w'=>match e with | .returned v=>S v w' | _=>False) D .returning w1
 | [],w1,sr,hz,ho,ht',hp,hb=>by
  have:=sr.mks
  unfold Mks MksD at this
  rw [hbD] at this
  cases this
 | d'::D,w1,sr,hz,ho,ht',hp,hb=>by
  rcases sr.mks with ⟨Ds',e,hno,hD⟩ | ⟨⟨r,h1,h2,h3,h4,h5,h6⟩,hD⟩
  ·rw [hbD] at e
   injection e with e1 e2
   subst e1 e2
   refine ⟨by simp,.inr ⟨(fun h=>by cases h),fv,cap,g,us.toArray,ht,hinv w1,fun _ _=>trivial,CallsDIn.mono (hcall w1) fun e u' w2 he=>?_⟩⟩
   cases e with
   | returned v =>
    obtain ⟨k1,k2⟩:=he
    dsimp only
    rw [k1]
    refine Lp (base:=⟨base.n,[]⟩) (w:=w2) rfl hres (fun w3 u g1 g2 g3 g4 g5 g6 g7=>hS w3 u ?_ (g2.trans (k2.os.trans ho)) (g3.trans (k2.tape.trans ht')) (g4.trans (k2.output.trans hp)) (fun c hc=>?_) g6 g7) (sr.grown (b':=⟨base.n,[]⟩) rfl k2 hD) rfl rfl rfl rfl (fun _ _=>rfl)
    ·rw [g1,<-hz]; exact k2.size
    ·rw [g5 c hc,k2.block c (Nat.lt_of_lt_of_le hc sr.bs) (by simp)]; exact hb c hc
   | panicked c=>exact he.elim
   | outgrown=>exact he.elim
  ·subst h2
   have hb':∀ c,(Z c\/own R s.hp c)->(w1.putObj r (.deferred none)).heap[c]? = w1.heap[c]?:=fun c hc=>Jr (fun e=>by subst e; exact hc.elim h4 h5)
   exact ⟨by simp,.inl ⟨r,w1.putObj r (.deferred none),rfl,run_takeDeferred h3,U3 hbD ht hinv hcall hres hS ⟨sr.hh.off (ER _ _ _) hb',sr.fr.off fun c hc=>hb' c (.inl hc),MksD.put hD h6,sr.gl.off fun c hc=>hb' c (.inl hc),by rw [ER]; exact sr.bs⟩ (by rw [ER]; exact hz) ho ht' hp (fun c hc=>(Jr (by omega)).trans (hb c hc))⟩⟩
/-- The frame at the entry. -/
theorem AC0 {fn:Func}{args:List AV}{us:List Value}(hh:HR w Z R h) (hv:VRs w Z R args us) (hg:GI E w Z):SR E (.of w.heap.size) w Z R ⟨args.map some++List.replicate (fn.ntmps - args.length) (some (.tp [])),h⟩ { tmps:=us.toArray++Array.replicate (fn.ntmps - us.toArray.size) undef,defers:=[] }:=by
 have hul:us.length=args.length:=hv.len
 refine ⟨hh,⟨by simp [hul],fun t x hx=>?_⟩,rfl,hg,Nat.le_refl _⟩
 have e0:us.toArray++Array.replicate (fn.ntmps - us.toArray.size) undef=(us++List.replicate (fn.ntmps - us.length) undef).toArray:=by simp
 rw [e0,Array.getD_eq_getD_getElem?,List.getElem?_toArray]
 by_cases ht:t < args.length
 ·rw [List.getElem?_append_left (by simpa using ht),List.getElem?_map] at hx
  rw [List.getElem?_append_left (by omega)]
  cases hat:args[t]? with
  | none=>rw [hat] at hx; cases hx
  | some q =>
   rw [hat] at hx
   have hx:=OI (OI hx)
   subst hx
   obtain ⟨u,hu1,hu2⟩:=hv.get hat
   rw [hu1]; exact hu2
 ·rw [List.getElem?_append_right (by simp; omega),List.getElem?_replicate] at hx
  split at hx
  ·next hlt =>
   have hx:=OI (OI hx)
   subst hx
   rw [List.getElem?_append_right (by omega),List.getElem?_replicate,if_pos (by rw [hul]; simpa using hlt)]
   exact .tp (us:=[]) rfl (fun i x u hx=>by simp at hx)
  ·cases hx
/-- A function whose body is: A; B; a closure is made and deferred; the rest. -/
theorem WK (hE:EnvOk E){f g:FuncId}{fn:Func}{A B rest:Code}{id:Nat}{o1 o2:Oper}{args cs xs:List AV}{s1 s2 s3 s4:St}{ex:Ex}{p:Operand}{tys:Array TypeId}{us:List Value}
  (hf:E.P.funcs[f]? = some fn) (hb:fn.body=some (.seq A (.seq B (.seq (.region id #[o1,o2] false) rest)))) (hdA:EX A=true) (hdB:EX B=true) (hdR:EX rest=true)
  (eA:evC E n ⟨none,false⟩ A ⟨args.map some++List.replicate (fn.ntmps - args.length) (some (.tp [])),h⟩=some (.normal,s1)) (eB:evC E n ⟨none,false⟩ B s1=some (.normal,s2)) (hg1:o1.guard=none) (e1:op1 E (evC E n) ⟨none,false⟩ o1 s2=some s3) (hg2:o2.guard=none) (ho2:o2.op = .defer ⟨.value p,#[],tys⟩) (hd2:o2.dst=none) (hp:opA E s3.fr p=some (.fn g [] cs))
  (eR:evC E n ⟨none,false⟩ rest s3=some (ex,s4)) (hex:ex = .normal\/ex = .ret) (hres:EZ E.P s4.fr s4.hp fn.results.toList=some xs) (hcl:DD E.P g) (hdef:∀ us:List Value,us.length=cs.length->YR E.P g us)
  (hh:HR w Z R h) (hv:VRs w Z R args us) (hg:GI E w Z):WE E f us w Z R h (Ee xs) s4.hp:=by
 have hCS:=(code_sound hE n).1
 refine callsIn_wide.1 (callsIn_of_wp_marks (F:=Fw none) (n:=0) hf hb trivial ?_)
 refine wpIn_seq (hCS _ A _ .normal s1 hdA eA none (.of w.heap.size) _ _ w Z R (fun _=>rfl) (AC0 hh hv hg) (fun y hy=>by cases hy) fun a1 w1 Z1 R1 sr1 st1=>?_)
 refine wpIn_seq (hCS _ B _ .normal s2 hdB eB none (.of w.heap.size) _ _ w1 Z1 R1 (fun _=>rfl) sr1 (fun y hy=>by cases hy) fun a2 w2 Z2 R2 sr2 st2=>?_)
 refine wpIn_seq (wpIn_region_list ?_)
 unfold wpListIn
 rw [if_pos (by simp [Region.wanted,hg1])]
 refine lw_wpIn none (op1_lw hE hCS e1 sr2 fun a3 w3 Z3 R3 sr3 st3=>?_)
 unfold wpListIn
 rw [if_pos (by simp [Region.wanted,hg2])]
 have hvf:=opA_vr sr3 p _ hp
 generalize hva:a3.eval p=va at hvf
 cases hvf with
 | fn hl hl' hx hy =>
  rename_i u1 u2
  have e1':u1=[]:=by simpa using hl
  subst e1'
  have hrun:(o2.semAt (Fw none).round a3.eval).run E.P w3 = .ok (.defer ⟨.fn (.func g) u2.toArray,#[]⟩) w3:=by
   show (o2.semAt none a3.eval).run E.P w3=_
   rw [Oper.semAt_none]
   simp [execOp,ho2,resolve,hva,Deferred.ofValue]
  refine ⟨fun _ _=>trivial,?_⟩
  rw [hrun,Oper.uponIn_defer,hd2]
  have sr4:SR E ⟨w.heap.size,[⟨.fn (.func g) u2.toArray,#[]⟩]⟩ w3 Z3 R3 s3 { a3 with defers:=⟨.fn (.func g) u2.toArray,#[]⟩::a3.defers }:=by
   refine ⟨sr3.hh,sr3.fr,.inl ⟨_,rfl,fun r h=>?_,sr3.mks⟩,sr3.gl,sr3.bs⟩
   unfold YB at h
   injection h with h
   cases h
  refine hCS _ rest _ ex s4 hdR eR none ⟨w.heap.size,[⟨.fn (.func g) u2.toArray,#[]⟩]⟩ _ _ w3 Z3 R3 (fun _=>rfl) sr4 (fun y hy=>by cases hy) fun a5 w5 Z5 R5 sr5 st5=>?_
  have st:=((st1.trans st2).trans st3).trans st5
  have hle:=U3 (base:=⟨w.heap.size,[⟨.fn (.func g) u2.toArray,#[]⟩]⟩) (w:=w5) (a:=a5) (fn:=fn) (g:=g) (us:=u2) rfl rfl (fun w1=>by simp [invoke,hcl.run]) (hdef u2 hl') (S:=fun v w''=>∃ Z' R',HR w'' Z' R' s4.hp/\VR w'' Z' R' (Ee xs) v/\Step w Z R h w'' Z' R' s4.hp) hres (fun w'' u g1 g2 g3 g4 g5 g6 g7=>⟨Z5,R5,g6,g7,⟨g2.trans st.os,g3.trans st.tape,g4.trans st.output,Nat.le_trans st.size g1,fun c hc hn=>(g5 c hc).trans (st.block c hc hn),st.own_,st.z,st.z',st.r⟩⟩) (D:=a5.defers) (w1:=w5) sr5 rfl rfl rfl rfl (fun _ _=>rfl)
  rcases hex with rfl | rfl
  ·exact hle
  ·exact hle
end
/-- Operations of a deferred call, where nothing is to be recovered. -/
def RX (E:Env):List Oper->St->Option St
 | [],s=>some s
 | o::rest,s=>match o.guard with
  | some _=>none
  | none=>match o.op with
   | .call ⟨.builtin .recover,_,_⟩=>RX E rest ⟨P1 s.fr o.dst (.v .nilIface),s.hp⟩
   | .typeAssert x _ u true=>match opA E s.fr x,E.P.underlying u,JK E.P u with
    | some (.v .nilIface),some _,some z=>RX E rest ⟨P1 s.fr o.dst (.tp [z,.v (.bool false)]),s.hp⟩
    | _,_,_=>none
   | .store t p q=>match o.dst,opA E s.fr p,opA E s.fr q with
    | none,some y,some z=>match Jm E.P s.hp t y z with
     | some h=>RX E rest ⟨s.fr,h⟩
     | none=>none
    | _,_,_=>none
   | op=>match Jl E.P (opA E s.fr) s.hp op with
    | some x=>RX E rest ⟨P1 s.fr o.dst x,s.hp⟩
    | none=>match MZ E.P (opA E s.fr) s.hp op with
     | some (x,h)=>RX E rest ⟨P1 s.fr o.dst x,h⟩
     | none=>none
section
variable {E:Env}{base:Bs}{ops:Array Oper}{Q:Exit->Act->List Frame->World->Prop}{cs:List Frame}{D:List Deferred}{s':St}
theorem U7 (a:Act) (d:Option Tmp) (u:Value):(a.put d u).defers=a.defers:=by cases d <;> rfl
theorem AET {P:Program}{t u:TypeId}{d:TypeDesc}{v:Value}{w:World}(hu:P.underlying u=some d) (hz:∀ w,(zeroValue u).run P w = .ok v w):(Instr.typeAssert .nilIface t u true).run P w = .ok (.tuple #[v,.bool false]) w:=by
 unfold Instr.typeAssert
 rw [Sem.run_bind,run_underlying hu]
 cases d <;> simp [hz,Result.andThen]
theorem MD (hrec:recoverD cs=none):∀ {rest:List Oper}{s:St}{a:Act}{w:World}{Z:Nat->Prop}{R:List RI}{k:Nat},RX E rest s=some s'->SR E base w Z R s a->a.defers=D->(∀ j,rest[j]? = ops[k + j]?) ->
  (∀ a' w' Z' R',SR E base w' Z' R' s' a'->a'.defers=D->Step w Z R s.hp w' Z' R' s'.hp->Q .normal a' cs w')->wpOpsSIn (Fw none) 0 E.P ops Q (List.range' k rest.length) a cs w
 | [],s,a,w,Z,R,k,e,sr,hD,hops,q=>by
  injection e with e; subst e
  exact q a w Z R sr hD (Step.refl _ _ _ _)
 | o::rest,s,a,w,Z,R,k,e,sr,hD,hops,q=>by
  have hok:ops[k]? = some o:=by have:=hops 0; simpa using this.symm
  have hops':∀ j,rest[j]? = ops[k + 1 + j]?:=fun j=>by have:=hops (j + 1); simpa [Nat.add_assoc,Nat.add_comm 1 j] using this
  have hρ:∀ o x,opA E s.fr o=some x->VR w Z R x (a.eval o):=fun o x e=>opA_vr sr o x e
  unfold RX at e
  split at e
  ·cases e
  ·next hg =>
   rw [List.length_cons,List.range'_succ]
   unfold wpOpsSIn
   rw [hok]
   dsimp only
   refine ⟨fun _ _=>trivial,?_⟩
   rw [if_pos (by simp [Region.wanted,hg])]
   have val:∀ {x:AV} {h':Hp},Ld E.P w Z R s.hp x h' a.eval o->RX E rest ⟨P1 s.fr o.dst x,h'⟩=some s'->(match (execOp a.eval o).run E.P w with
    | .ok .recover w'=>(match recoverD cs with
     | some (v,cs')=>wpOpsSIn (Fw none) 0 E.P ops Q (List.range' (k + 1) rest.length) (a.put o.dst v) cs' w'
     | none=>wpOpsSIn (Fw none) 0 E.P ops Q (List.range' (k + 1) rest.length) (a.put o.dst .nilIface) cs w')
    | .ok (.value v) w'=>wpOpsSIn (Fw none) 0 E.P ops Q (List.range' (k + 1) rest.length) (a.put o.dst v) cs w'
    | .ok .skip w'=>wpOpsSIn (Fw none) 0 E.P ops Q (List.range' (k + 1) rest.length) (a.put o.dst undef) cs w'
    | .halt (.panic v) w'=>Q (.panic [{ v,recovered:=false }]) a cs w'
    | _=>False):=fun {x h'} hl e=>by
    obtain ⟨u,w',R',h1,h2,h3,h4⟩:=hl
    rw [h1]
    exact MD hrec e ((sr.step h2 h4).put h3) ((U7 _ _ _).trans hD) hops' fun a' w'' Z'' R'' sr'' hD'' st=>q a' w'' Z'' R'' sr'' hD'' (h4.trans st)
   split at e
   ·next b c ho =>
    have hr:(execOp a.eval o).run E.P w = .ok .recover w:=by
     simp [execOp,ho,resolve,invoke]
     rfl
    rw [hr]
    dsimp only
    rw [hrec]
    exact MD hrec e (sr.put (.v rfl)) ((U7 _ _ _).trans hD) hops' q
   ·next x t u ho =>
    split at e
    ·next d z hx hu hz =>
     have hv:=(hρ _ _ hx).v_inv
     obtain ⟨v,hv1,_,hrun,_⟩:=MV (w:=w) (Z:=Z) (R:=R) hz
     refine val (x:= .tp [z,.v (.bool false)]) (h':=s.hp) ⟨.tuple #[v,.bool false],w,R,?_,sr.hh,.tp (us:=[v,.bool false]) rfl (fun i x u hx hu=>?_),Step.refl _ _ _ _⟩ e
     ·simp only [execOp,ho,hv]
      rw [Sem.run_bind,AET hu hrun]
      rfl
     ·match i with
      | 0=>simp at hx hu; subst hx hu; exact hv1
      | 1=>simp at hx hu; subst hx hu; exact .v rfl
      | i + 2=>simp at hx
    ·cases e
   ·next t p r ho =>
    split at e
    ·next y z hd hp hq =>
     split at e
     ·next h' hst =>
      obtain ⟨w',h1,h2,h3⟩:=Nz hρ sr.hh ho hp hq hst
      rw [h1,hd]
      dsimp only
      exact MD hrec e (sr.step h2 h3) hD hops' fun a' w'' Z'' R'' sr'' hD'' st=>q a' w'' Z'' R'' sr'' hD'' (h3.trans st)
     ·cases e
    ·cases e
   ·split at e
    ·next x hx=>exact val ((evOpQ_sound sr.hh hρ hx).ld sr.hh) e
    ·split at e
     ·next x h' hx=>exact val (evOpN_sound hρ sr.hh hx).ld e
     ·cases e
/-- A deferred closure of the form: what it recovers is looked at; where it was nothing, nothing is done. -/
theorem ADj {g:FuncId}{fn:Func}{id0 id1:Nat}{ops0 ops1:Array Oper}{x:Operand}{X:Code}{s1 s2:St}{us:List Value}(hG:∀ q,E.G q=none) (hf:E.P.funcs[g]? = some fn) (hb:fn.body=some (.seq (.region id0 ops0 false) (.seq (.region id1 ops1 false) (.cond x X .skip)))) (hres:fn.results=#[])
  (e1:RX E ops0.toList ⟨List.replicate fn.ntmps none,[]⟩=some s1) (e2:RX E ops1.toList s1=some s2) (ht:opA E s2.fr x=some (.v (.bool false))) (hl:us.length<=fn.ntmps):YR E.P g us:=by
 intro w1
 refine callsDIn_of_wpSIn hf hb trivial fun c₀ cs hm=>?_
 have hrec:recoverD (c₀::cs)=none:=by simp [recoverD,hm]
 have sr0:SR E (.of w1.heap.size) w1 (fun _=>False) [] ⟨List.replicate fn.ntmps none,[]⟩ { tmps:=us.toArray++Array.replicate (fn.ntmps - us.toArray.size) undef,defers:=[] } :=
  ⟨hr_nil (fun _ h=>h.elim),⟨by simp; omega,fun t x hx=>by simp [List.getElem?_replicate] at hx⟩,rfl,(fun q y hy=>by rw [hG] at hy; cases hy),Nat.le_refl _⟩
 refine wpSIn_seq (wpSIn_region ?_)
 rw [List.range_eq_range',show ops0.size=ops0.toList.length by simp]
 refine MD hrec (rest:=ops0.toList) (k:=0) (D:=[]) e1 sr0 rfl (fun j=>by simp) fun a2 w2 Z2 R2 sr2 hD2 st2=>?_
 show (Code.seq _ _).wpSIn _ _ _ _ _ _ _
 refine wpSIn_seq (wpSIn_region ?_)
 rw [List.range_eq_range',show ops1.size=ops1.toList.length by simp]
 refine MD hrec (rest:=ops1.toList) (k:=0) (D:=[]) e2 sr2 hD2 (fun j=>by simp) fun a3 w3 Z3 R3 sr3 hD3 st3=>?_
 show (Code.cond _ _ _).wpSIn _ _ _ _ _ _ _
 refine wpSIn_cond (t:=false) (opA_vr sr3 _ _ ht).v_inv ?_
 refine wpSIn_of_wpIn rfl (wpIn_skip ?_)
 have st:=st2.trans st3
 have h0:(Array.mapM (Yq a3.tmps) (#[]:Array ResultVar)).run E.P w3 = .ok #[] w3:=U9 (us:=[]) (by simp)
 exact ⟨hD3,.returning,by rw [<-hm],.tuple #[],by rw [U8,hres,Sem.run_bind,h0]; rfl,rfl,⟨st.os,st.tape,st.output,st.size,fun c hc _=>st.block c hc Vj⟩⟩
end
end Go.Proofs.YtlalcoehgkmhlaaGreatDoor
namespace Go.Proofs.YtlalcoehgkmhlaaGreatDoor
open Go.Shelf
def XT:Go.Shelf.Ren:=⟨fun | 217=>194 | 266=>211 | n=>n,fun | 9=>9 | 5=>5 | 3=>3 | n=>n,fun | n=>n⟩
theorem ACb:Go.Proofs.Lays.n217 Tryz.prog XT:={
 mixed:=by kernel_rfl
 f217:=Tryz.func194.trans (congrArg some (by kernel_rfl))
 f266:=Tryz.func211.trans (congrArg some (by kernel_rfl))
 t3:=Tryz.underlying3
 a3:=Tryz.isAgg3
 z3:=Tryz.sizeOf3
 v3:=Tryz.zeroValue3
 t5:=Tryz.underlying5
 a5:=Tryz.isAgg5
 z5:=Tryz.sizeOf5
 v5:=Tryz.zeroValue5
 t9:=Tryz.underlying9
 a9:=Tryz.isAgg9
 z9:=Tryz.sizeOf9
 v9:=Tryz.zeroValue9 }
def XS:Go.Shelf.Ren:=⟨fun | 138=>199 | 195=>213 | 218=>215 | 143=>200 | 219=>173 | 217=>194 | 225=>195 | 224=>196 | 267=>197 | 266=>211 | 314=>212 | n=>n,fun | 9=>9 | 3=>3 | 4=>4 | 5=>5 | 0=>0 | 46=>178 | 146=>222 | 51=>221 | n=>n,fun | 1=>0 | n=>n⟩
theorem ACa:Go.Proofs.Lays.n138 Tryz.prog XS:={
 mixed:=by kernel_rfl
 f138:=Tryz.func199.trans (congrArg some (by kernel_rfl))
 f143:=Tryz.func200.trans (congrArg some (by kernel_rfl))
 f195:=Tryz.func213.trans (congrArg some (by kernel_rfl))
 f217:=Tryz.func194.trans (congrArg some (by kernel_rfl))
 f218:=Tryz.func215.trans (congrArg some (by kernel_rfl))
 f219:=Tryz.func173.trans (congrArg some (by kernel_rfl))
 f224:=Tryz.func196.trans (congrArg some (by kernel_rfl))
 f225:=Tryz.func195.trans (congrArg some (by kernel_rfl))
 f266:=Tryz.func211.trans (congrArg some (by kernel_rfl))
 f267:=Tryz.func197.trans (congrArg some (by kernel_rfl))
 f314:=Tryz.func212.trans (congrArg some (by kernel_rfl))
 t0:=Tryz.underlying0
 a0:=Tryz.isAgg0
 z0:=Tryz.sizeOf0
 v0:=Tryz.zeroValue0
 t3:=Tryz.underlying3
 a3:=Tryz.isAgg3
 z3:=Tryz.sizeOf3
 v3:=Tryz.zeroValue3
 t4:=Tryz.underlying4
 a4:=Tryz.isAgg4
 z4:=Tryz.sizeOf4
 v4:=Tryz.zeroValue4
 t5:=Tryz.underlying5
 a5:=Tryz.isAgg5
 z5:=Tryz.sizeOf5
 v5:=Tryz.zeroValue5
 t9:=Tryz.underlying9
 a9:=Tryz.isAgg9
 z9:=Tryz.sizeOf9
 v9:=Tryz.zeroValue9
 t46:=Tryz.underlying178
 a46:=Tryz.isAgg178
 z46:=Tryz.sizeOf178
 v46:=Tryz.zeroValue178
 t51:=Tryz.underlying221
 a51:=Tryz.isAgg221
 z51:=Tryz.sizeOf221
 v51:=Tryz.zeroValue221
 t146:=Tryz.underlying222
 a146:=Tryz.isAgg222
 z146:=Tryz.sizeOf222
 v146:=Tryz.zeroValue222
 g1:=by kernel_rfl }
open Go.RowKit Go.Lib
/-- The first place of a byte. -/
def ixB:List AV->Option AV
 | [.st s,.v (.int .u8 c)]=>some (.v (.int .i64 (Lib.indexByte s c.toNat.toUInt8)))
 | _=>none
theorem AD1 {E:Env}(hE:EnvOk E) (hP:E.P=Tryz.prog):EnvOk (E.withX 194 ixB):=by
 refine hE.withX (hP ▸ ⟨Tryz.call194⟩) fun xs x h w Z us _ _ hv=>?_
 unfold ixB at h
 split at h
 ·next s c =>
  injection h with h
  subst h
  obtain ⟨u1,r1,rfl,h1,hv⟩:=hv.head
  obtain ⟨u2,r2,rfl,h2,hv⟩:=hv.head
  have:r2=[]:=List.eq_nil_of_length_eq_zero hv.len
  subst this
  have e2:=h2.v_inv
  subst e2
  cases h1 with
  | st hs hn =>
   rename_i sb
   rw [hP]
   refine Calls.mono (Any.stringslite_IndexByte ACb sb c w) fun e w' he=>?_
   obtain ⟨rfl,rfl⟩:=he
   exact ⟨Rn _,by rw [hs]; exact .v rfl⟩
 ·cases h
/-- How often a byte stands in a string. -/
def AE8:List AV->Option AV
 | [.st s,.st [c]]=>some (.v (.int .i64 (Lib.countByte s c)))
 | _=>none
theorem AB6 {E:Env}(hE:EnvOk E) (hP:E.P=Tryz.prog):EnvOk (E.withX 199 AE8):=by
 refine hE.withX (hP ▸ ⟨Tryz.call199⟩) fun xs x h w Z us _ _ hv=>?_
 unfold AE8 at h
 split at h
 ·next s c =>
  injection h with h
  subst h
  obtain ⟨u1,r1,rfl,h1,hv⟩:=hv.head
  obtain ⟨u2,r2,rfl,h2,hv⟩:=hv.head
  have:r2=[]:=List.eq_nil_of_length_eq_zero hv.len
  subst this
  obtain ⟨sb,rfl,hs⟩:∃ sb,u1 = .string sb/\sb.data.toList=s:=by cases h1 with | st h _=>exact ⟨_,rfl,h⟩
  obtain ⟨sc,rfl,hs2⟩:∃ sc,u2 = .string sc/\sc.data.toList=[c]:=by cases h2 with | st h _=>exact ⟨_,rfl,h⟩
  have e:sc=ByteArray.mk #[c]:=by
   obtain ⟨d⟩:=sc
   congr 1
   apply Array.ext'
   exact hs2
  subst e
  rw [hP]
  refine Calls.mono (Any.strings_Count_one ACa sb c w) fun e w' he=>?_
  obtain ⟨rfl,rfl⟩:=he
  exact ⟨Rn _,by rw [hs]; exact .v rfl⟩
 ·cases h
/-- A call of a function that defers one closure: the closure, how many captures it has, what is handed back. -/
def AB9 (E:Env) (n:Nat) (fn:Func) (args:List AV):Option (FuncId×Nat×AV×Hp):=match fn.body with
 | some (.seq A (.seq B (.seq (.region _ ops false) rest)))=>match ops.toList with
  | [o1,o2]=>match o1.guard,o2.guard,o2.dst,o2.op with
   | none,none,none,.defer ⟨.value p,dargs,_⟩ =>
    if dargs.size=0/\EX A=true/\EX B=true/\EX rest=true then
     match evC E n ⟨none,false⟩ A ⟨args.map some++List.replicate (fn.ntmps - args.length) (some (.tp [])),[]⟩ with
     | some (.normal,s1)=>match evC E n ⟨none,false⟩ B s1 with
      | some (.normal,s2)=>match op1 E (evC E n) ⟨none,false⟩ o1 s2 with
       | some s3=>match opA E s3.fr p with
        | some (.fn g [] cs)=>match evC E n ⟨none,false⟩ rest s3 with
         | some (.normal,s4)=>(EZ E.P s4.fr s4.hp fn.results.toList).map fun xs=>(g,cs.length,Ee xs,s4.hp)
         | some (.ret,s4)=>(EZ E.P s4.fr s4.hp fn.results.toList).map fun xs=>(g,cs.length,Ee xs,s4.hp)
         | _=>none
        | _=>none
       | none=>none
      | _=>none
     | _=>none
    else none
   | _,_,_,_=>none
  | _=>none
 | _=>none
theorem XF {E:Env}(hE:EnvOk E){n:Nat}{f:FuncId}{fn:Func}{args:List AV}{g m:Nat}{x:AV}{h':Hp}(hf:E.P.funcs[f]? = some fn) (hcl:DD E.P g) (hdef:∀ us:List Value,us.length=m->YR E.P g us) (e:AB9 E n fn args=some (g,m,x,h')){w:World}{Z:Nat->Prop}{us:List Value}(hz:∀ c,Z c->c < w.heap.size) (hg:GI E w Z) (hv:VRs w Z [] args us):WE E f us w Z [] [] x h':=by
 unfold AB9 at e
 split at e
 ·next A B id ops rest hb =>
  split at e
  ·next o1 o2 hops =>
   split at e
   ·next p dargs tys hg1 hg2 hd2 ho2 =>
    split at e
    ·next hc =>
     obtain ⟨c1,c2,c3,c4⟩:=hc
     have hops':ops=#[o1,o2]:=by apply Array.ext'; exact hops
     have hda:dargs=#[]:=Array.eq_empty_of_size_eq_zero c1
     subst hops' hda
     split at e
     ·next s1 e1 =>
      split at e
      ·next s2 e2 =>
       split at e
       ·next s3 e3 =>
        split at e
        ·next g' cs hp =>
         split at e
         ·next s4 e4 =>
          obtain ⟨xs,hxs,hxe⟩:=Option.map_eq_some_iff.1 e
          injection hxe with k1 k2; injection k2 with k2 k3; injection k3 with k3 k4
          subst k1 k2 k3 k4
          exact WK hE hf hb c2 c3 c4 e1 e2 hg1 e3 hg2 ho2 hd2 hp e4 (.inl rfl) hxs hcl hdef (hr_nil hz) hv hg
         ·next s4 e4 =>
          obtain ⟨xs,hxs,hxe⟩:=Option.map_eq_some_iff.1 e
          injection hxe with k1 k2; injection k2 with k2 k3; injection k3 with k3 k4
          subst k1 k2 k3 k4
          exact WK hE hf hb c2 c3 c4 e1 e2 hg1 e3 hg2 ho2 hd2 hp e4 (.inr rfl) hxs hcl hdef (hr_nil hz) hv hg
         ·cases e
        ·cases e
       ·cases e
      ·cases e
     ·cases e
    ·cases e
   ·cases e
  ·cases e
 ·cases e
/-- .. as a contract. -/
def dfX (E:Env) (n:Nat) (fn:Func) (g m:Nat) (args:List AV):Option AV:=match AB9 E n fn args with
 | some (g',m',x,h')=>if g'=g/\m'=m then Yw h' x else none
 | none=>none
theorem ADk {E:Env}(hE:EnvOk E){n:Nat}{f:FuncId}{fn:Func}{g m:Nat}(hf:E.P.funcs[f]? = some fn) (hc:DD E.P f) (hcl:DD E.P g) (hdef:∀ us:List Value,us.length=m->YR E.P g us):EnvOk (E.withX f (dfX E n fn g m)):=by
 refine hE.withX hc fun xs y h w Z us hz hgi hv=>?_
 unfold dfX at h
 split at h
 ·next g' m' x h' e =>
  split at h
  ·next hgm =>
   obtain ⟨rfl,rfl⟩:=hgm
   exact frz_ret (XF hE hf hcl hdef e hz hgi hv) h
  ·cases h
 ·cases h
/-- What a closed call hands back, frozen. -/
def DG (E:Env) (n:Nat) (f:FuncId) (args:List AV):Option AV:=match NW E (evC E n) none f args [] with
 | some (x,h')=>Yw h' x
 | none=>none
/-- The same values? -/
def kB:IntKind->IntKind->Bool
 | .i64,.i64=>true
 | .u8,.u8=>true
 | _,_=>false
def vB:Value->Value->Bool
 | .int k a,.int k' b=>kB k k'&&a==b
 | .bool a,.bool b=>a==b
 | .pointer none,.pointer none=>true
 | _,_=>false
def bsB:List UInt8->List UInt8->Bool
 | [],[]=>true
 | a::l,b::r=>Nat.beq a.toNat b.toNat&&bsB l r
 | _,_=>false
def AAN (g:AV->AV->Bool):List AV->List AV->Bool
 | [],[]=>true
 | a::l,b::r=>g a b&&AAN g l r
 | _,_=>false
def AAV:Nat->AV->AV->Bool
 | 0,_,_=>false
 | n + 1,x,y=>match x,y with
  | .v a,.v b=>vB a b
  | .st a,.st b=>bsB a b
  | .e0,.e0=>true
  | .sl k a,.sl k' b=>Nat.beq k k'&&AAN (AAV n) a b
  | .pe a o,.pe b o'=>Nat.beq o o'&&AAV n a b
  | .ag a,.ag b=>AAN (AAV n) a b
  | .tp a,.tp b=>AAN (AAV n) a b
  | .fn f a b,.fn f' a' b'=>Nat.beq f f'&&(AAN (AAV n) a a'&&AAN (AAV n) b b')
  | _,_=>false
theorem AFP {a b:IntKind}(h:kB a b=true):a=b:=by
 unfold kB at h
 split at h
 ·rfl
 ·rfl
 ·cases h
theorem AFc {a b:Value}(h:vB a b=true):a=b:=by
 unfold vB at h
 split at h
 ·rw [Bool.and_eq_true] at h
  rw [AFP h.1,eq_of_beq h.2]
 ·rw [eq_of_beq h]
 ·rfl
 ·cases h
theorem ABT:∀ {a b:List UInt8},bsB a b=true->a=b
 | [],[],_=>rfl
 | x::l,y::r,h=>by
  unfold bsB at h
  rw [Bool.and_eq_true] at h
  rw [UInt8.toNat_inj.1 (Nat.eq_of_beq_eq_true h.1),ABT h.2]
 | [],_::_,h=>by cases h
 | _::_,[],h=>by cases h
theorem Oi {g:AV->AV->Bool}(hg:∀ x y,g x y=true->x=y):∀ {a b:List AV},AAN g a b=true->a=b
 | [],[],_=>rfl
 | x::l,y::r,h=>by
  unfold AAN at h
  rw [Bool.and_eq_true] at h
  rw [hg _ _ h.1,Oi hg h.2]
 | [],_::_,h=>by cases h
 | _::_,[],h=>by cases h
theorem XC:∀ (n:Nat) (x y:AV),AAV n x y=true->x=y
 | 0,_,_,h=>by cases h
 | n + 1,x,y,h=>by
  have ih:=XC n
  unfold AAV at h
  split at h
  ·rw [AFc h]
  ·rw [ABT h]
  ·rfl
  ·rw [Bool.and_eq_true] at h
   rw [Nat.eq_of_beq_eq_true h.1,Oi ih h.2]
  ·rw [Bool.and_eq_true] at h
   rw [Nat.eq_of_beq_eq_true h.1,ih _ _ h.2]
  ·rw [Oi ih h]
  ·rw [Oi ih h]
  ·rw [Bool.and_eq_true,Bool.and_eq_true] at h
   rw [Nat.eq_of_beq_eq_true h.1,Oi ih h.2.1,Oi ih h.2.2]
  ·cases h
/-- A table. -/
def VE:List (List AV×AV)->List AV->Option AV
 | [],_=>none
 | (a,r)::l,xs=>if AAN (AAV 40) a xs=true then some r else VE l xs
def ABt (E:Env) (f:FuncId):List (List AV×AV)->Prop
 | []=>True
 | (a,r)::l=>(∃ n,DG E n f a=some r)/\ABt E f l
theorem ABn {E:Env}{f:FuncId}:∀ {l:List (List AV×AV)}{xs:List AV}{y:AV},ABt E f l->VE l xs=some y->∃ n,DG E n f xs=some y
 | (a,r)::l,xs,y,h,e=>by
  unfold VE at e
  split at e
  ·next hb =>
   injection e with e
   subst e
   rw [<-Oi (XC 40) hb]
   exact h.1
  ·exact ABn h.2 e
theorem P3 {E:Env}(hE:EnvOk E){f:FuncId}{l:List (List AV×AV)}(hc:DD E.P f) (h:ABt E f l):EnvOk (E.withX f (VE l)):=by
 refine ZG hE hc fun xs y e=>?_
 obtain ⟨n,hn⟩:=ABn h e
 unfold DG at hn
 split at hn
 ·next x h' he=>exact ⟨n,x,h',he,hn⟩
 ·cases hn
/-- Another contract, told by a table of its own values. -/
theorem AC2 {E:Env}{f:FuncId}{g:List AV->Option AV}{l:List (List AV×AV)}(hE:EnvOk (E.withX f g)) (h:∀ p ∈ l,g p.1=some p.2):EnvOk (E.withX f (VE l)):=by
 have hl:∀ {l:List (List AV×AV)} {xs:List AV} {y:AV},(∀ p ∈ l,g p.1=some p.2)->VE l xs=some y->g xs=some y:=by
  intro l
  induction l with
  | nil=>intro xs y _ e; cases e
  | cons p l ih =>
   intro xs y h e
   obtain ⟨a,r⟩:=p
   unfold VE at e
   split at e
   ·next hb =>
    injection e with e
    subst e
    rw [<-Oi (XC 40) hb]
    exact h (a,r) (by simp)
   ·exact ih (fun p hp=>h p (List.mem_cons_of_mem _ hp)) e
 refine ⟨hE.fn,hE.mixed,hE.I,fun k q hk=>?_⟩
 change (if k=f then some (VE l) else E.X k)=some q at hk
 split at hk
 ·next hkf =>
  injection hk with hk
  subst hk hkf
  obtain ⟨h1,h2⟩:=hE.X k g (if_pos rfl)
  exact ⟨h1,fun xs x hx w Z us hz hg hv=>h2 xs x (hl h hx) w Z us hz hg hv⟩
 ·next hkf=>exact hE.X k q ((if_neg hkf).trans hk)
/-- What is told in one environment may be told in another of the same program. -/
theorem ABK {E E':Env}{f:FuncId}{g:List AV->Option AV}(hE:EnvOk E) (h:EnvOk (E'.withX f g)) (hP:E'.P=E.P) (hG:E'.G=E.G):EnvOk (E.withX f g):=by
 obtain ⟨h1,h2⟩:=h.X f g (if_pos rfl)
 have e1:(E'.withX f g).P=E.P:=hP
 refine hE.withX (e1 ▸ h1) fun xs x hx w Z us hz hg hv=>?_
 have:=h2 xs x hx w Z us hz (fun q y hy=>hg q y (by rw [<-hG]; exact hy)) hv
 exact e1 ▸ this
noncomputable def E1:Env:=(E0.withX 194 ixB).withX 199 AE8
theorem ADM:EnvOk E1:=AB6 (AD1 AC rfl) rfl
theorem AEG (us:List Value) (hl:us.length=2):YR E1.P 124 us :=
 ADj (E:=E1) (s1:=(RX E1 (match Tryz.f124.body with | some (.seq (.region _ ops _) _)=>ops.toList | _=>[]) ⟨List.replicate Tryz.f124.ntmps none,[]⟩).getD ⟨[],[]⟩) (s2:=(RX E1 (match Tryz.f124.body with | some (.seq _ (.seq (.region _ ops _) _))=>ops.toList | _=>[]) ((RX E1 (match Tryz.f124.body with | some (.seq (.region _ ops _) _)=>ops.toList | _=>[]) ⟨List.replicate Tryz.f124.ntmps none,[]⟩).getD ⟨[],[]⟩)).getD ⟨[],[]⟩)
  (fun _=>rfl) Tryz.func124 rfl rfl (by kernel_rfl) (by kernel_rfl) (by kernel_rfl) (by rw [hl]; decide)
noncomputable def E2:Env:=E1.withX 72 (dfX E1 3000 Tryz.f72 124 2)
theorem AEo:EnvOk E2:=ADk ADM Tryz.func72 ⟨Tryz.call72⟩ ⟨Tryz.call124⟩ AEG
def exC:List AV:=[.ag [.v (.int .u8 1),.st [],.v (.bool false),.sl 1 [.st [100,117,107,101],.st [99,111,117,110,116]],.v (.int .i64 0)],.ag [.v (.int .u8 2),.st [100,117,107,101],.v (.bool false),.e0,.v (.int .i64 0)],.ag [.v (.int .u8 4),.st [],.v (.bool false),.e0,.v (.int .i64 1)],.ag [.v (.int .u8 8),.st [],.v (.bool false),.e0,.v (.int .i64 0)]]
def exG:List AV:=[.ag [.st [97,100,97],.st [99,111,117,110,116],.st [],.v (.int .i64 0),.v (.int .i64 2),.st [],.v (.bool false),.v (.bool false),.e0],.ag [.st [98,101,97],.st [100,117,107,101],.st [],.v (.int .i64 1700),.v (.int .i64 0),.st [],.v (.bool false),.v (.bool false),.e0],.ag [.st [99,121,114],.st [100,117,107,101],.st [],.v (.int .i64 1650),.v (.int .i64 0),.st [],.v (.bool false),.v (.bool false),.e0],.ag [.st [100,97,110],.st [],.st [],.v (.int .i64 0),.v (.int .i64 1),.st [],.v (.bool false),.v (.bool false),.e0],.ag [.st [101,118,97],.st [99,111,117,110,116],.st [],.v (.int .i64 0),.v (.int .i64 1),.st [],.v (.bool false),.v (.bool false),.e0]]
def i4 (n:Int):AV:= .v (.int .i64 n)
def exT:List UInt8:=[114,97,110,107,32,100,117,107,101,32,99,111,117,110,116,10,97,109,111,110,103,32,100,117,107,101,32,101,108,100,101,114,10,115,105,100,101,32,49,32,102,105,114,115,116,10,110,97,109,101,10]
end Go.Proofs.YtlalcoehgkmhlaaGreatDoor
