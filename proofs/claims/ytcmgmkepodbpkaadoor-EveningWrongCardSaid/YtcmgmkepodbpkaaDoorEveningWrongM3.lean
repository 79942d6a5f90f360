/- Lemmas for the proof. -/
import Derived.Test.YtcmgmkepodbpkaaDoorEveningWrongM1
import Derived.Test.YtcmgmkepodbpkaaDoorEveningWrongM2
import Derived.OpenShut
import Derived.Test.YtcmgmkepodbpkaaDoorCards
import Derived.Test.YtcmgmkepodbpkaaDoorTie
import Derived.WalkKit
import Derived.ProofKit
import Derived.Deep.DeepHandedRow
import Derived.Lib.LaidTab
set_option maxHeartbeats 4000000
set_option maxRecDepth 100000
namespace Go.Proofs.YtcmgmkepodbpkaaDoor
open Go.RowKit
/-- Structs of values. -/
def XZ {α:Type}(c:Cd α) (hc:∀ x,LG (c.enc x)=true):Cd α where
 enc x:= .ag [c.enc x]
 dec a:=match a with
  | .ag [y]=>c.dec y
  | _=>none
 de x:=c.de x
 vr:=fun {w Z a x u} h hv=>by
  split at h
  ·cases hv with
   | ag hl h1 hx =>
    refine .ag (by simpa using hl) h1 fun i y u hy hu=>?_
    match i with
    | 0=>simp at hy; subst hy; exact c.vr h (hx 0 _ u rfl hu)
    | i + 1=>simp at hy
  ·cases h
 nr x:=by simp [DU,hc]
def EF {α β:Type}(c:Cd α) (d:Cd β) (hc:∀ x,LG (c.enc x)=true) (hd:∀ x,LG (d.enc x)=true):Cd (α×β) where
 enc x:= .ag [c.enc x.1,d.enc x.2]
 dec a:=match a with
  | .ag [y,z]=>(c.dec y).bind fun p=>(d.dec z).map fun q=>(p,q)
  | _=>none
 de x:=by simp [c.de,d.de]
 vr:=fun {w Z a x u} h hv=>by
  split at h
  ·obtain ⟨p,h1,h⟩:=OB h
   obtain ⟨q,h2,rfl⟩:=Option.map_eq_some_iff.1 h
   cases hv with
   | ag hl hh hx =>
    refine .ag (by simpa using hl) hh fun i y u hy hu=>?_
    match i with
    | 0=>simp at hy; subst hy; exact c.vr h1 (hx 0 _ u rfl hu)
    | 1=>simp at hy; subst hy; exact d.vr h2 (hx 1 _ u rfl hu)
    | i + 2=>simp at hy
  ·cases h
 nr x:=by simp [DU,hc,hd]
def XU:AV->Bool
 | .ag _=>false
 | _=>true
/-- The two parts of a range over a function. -/
def U4:Code->Code
 | .rangeFunc _ _ a _=>a
 | c=>c
def U7:Code->Code
 | .rangeFunc _ _ _ b=>b
 | c=>c
/-- As Sem, but the numbers of the blocks are kept, and a range over a function may be under way. -/
def SemY (E:Env) (cx:Cx) (c:Code) (s:St) (Q:Ex->St->Prop):Prop :=
 ∀ (ro:Option Nat) (base:Bs) (Qm:Exit->Act->World->Prop) (a:Act) (w:World) (Z:Nat->Prop) (R:List RI),(cx.inR=false->ro=none)->SR E base w Z R s a->YI cx w Z R s.hp ->
  (∀ e s' a' w' Z' R',Q e s'->SR E base w' Z' R' s' a'->Step w Z R s.hp w' Z' R' s'.hp->Qm (Uv e) a' w')->c.wpIn (Fw ro) 0 E.P Qm a w
def SemYN (E:Env) (cx:Cx) (c:Code) (n:Nat) (s:St) (Q:Ex->St->Prop):Prop :=
 ∀ (ro:Option Nat) (base:Bs) (Qm:Exit->Act->World->Prop) (a:Act) (w:World) (Z:Nat->Prop) (R:List RI),(cx.inR=false->ro=none)->SR E base w Z R s a->YI cx w Z R s.hp ->
  (∀ e s' a' w' Z' R',Q e s'->SR E base w' Z' R' s' a'->Step w Z R s.hp w' Z' R' s'.hp->Qm (Uv e) a' w')->Code.roundsIn (Fw ro) 0 E.P c Qm n a w
def RunY (E:Env) (cx:Cx) (ops:Array Oper) (rest:List Oper) (s:St) (K:St->Prop):Prop :=
 ∀ (ro:Option Nat) (base:Bs) (Q:Exit->Act->World->Prop) (a:Act) (w:World) (Z:Nat->Prop) (R:List RI),(cx.inR=false->ro=none)->SR E base w Z R s a->YI cx w Z R s.hp ->
  (∀ s' a' w' Z' R',K s'->SR E base w' Z' R' s' a'->Step w Z R s.hp w' Z' R' s'.hp->Q .normal a' w')->wpListIn (Fw ro) 0 E.P ops Q rest a w
/-- A state that says less of the same worlds; the numbers are kept. -/
def WkY (E:Env) (s s':St):Prop:=∀ base w Z R a,SR E base w Z R s a->∃ Z' R',SR E base w Z' R' s' a/\Step w Z R s.hp w Z' R' s'.hp
section
variable {E:Env}{cx:Cx}{ops:Array Oper}{pre rest rest':List Oper}{s s1:St}{K:St->Prop}{n m:Nat}{l l':List (Nat×AV)}{hp hp':Hp}{Q Q':Ex->St->Prop}{id:Nat}{c c':Code}
theorem SemY.skip (q:Q .normal s):SemY E cx .skip s Q:=fun _ _ _ a w Z R _ h2 _ k=>wpIn_skip (k .normal s a w Z R q h2 (Step.refl _ _ _ _))
theorem SemY.exit {id:Nat}(q:Q (.exit id) s):SemY E cx (.exit id) s Q:=fun _ _ _ a w Z R _ h2 _ k=>wpIn_exit (k (.exit id) s a w Z R q h2 (Step.refl _ _ _ _))
theorem SemY.ret (q:Q .ret s):SemY E cx .ret s Q:=fun _ _ _ a w Z R _ h2 _ k=>wpIn_ret (k .ret s a w Z R q h2 (Step.refl _ _ _ _))
theorem AD (h:SemY E cx c s fun e s'=>match e with | .normal=>SemY E cx c' s' Q | e=>Q e s'):SemY E cx (.seq c c') s Q:=by
 intro ro base Qm a w Z R h1 h2 h3 k
 refine wpIn_seq (h ro base _ a w Z R h1 h2 h3 fun e s' a' w' Z' R' hQ sr st=>?_)
 cases e with
 | normal=>exact hQ ro base Qm a' w' Z' R' h1 sr (h3.step h2.hh st) fun e2 s2 a2 w2 Z2 R2 hQ2 sr2 st2=>k e2 s2 a2 w2 Z2 R2 hQ2 sr2 (st.trans st2)
 | exit id=>exact k _ s' a' w' Z' R' hQ sr st
 | ret=>exact k _ s' a' w' Z' R' hQ sr st
theorem SemY.cond_true {x:Operand}(hx:opA E s.fr x=some (.v (.bool true))) (h:SemY E cx c s Q):SemY E cx (.cond x c c') s Q :=
 fun ro base Qm a w Z R h1 h2 h3 k=>wpIn_cond_true (opA_vr h2 _ _ hx).v_inv (h ro base Qm a w Z R h1 h2 h3 k)
theorem SemY.cond_false {x:Operand}(hx:opA E s.fr x=some (.v (.bool false))) (h:SemY E cx c' s Q):SemY E cx (.cond x c c') s Q :=
 fun ro base Qm a w Z R h1 h2 h3 k=>wpIn_cond_false (opA_vr h2 _ _ hx).v_inv (h ro base Qm a w Z R h1 h2 h3 k)
theorem Ab {x:Operand}{b:Bool}(hx:opA E s.fr x=some (.v (.bool b))) (h:b=true->SemY E cx c s Q) (h':b=false->SemY E cx c' s Q):SemY E cx (.cond x c c') s Q:=by
 cases b with
 | true=>exact .cond_true hx (h rfl)
 | false=>exact .cond_false hx (h' rfl)
theorem AR {id:Nat}(h:SemY E cx c s fun e s'=>match e with | .exit id'=>if id'=id then Q .normal s' else Q (.exit id') s' | e=>Q e s'):SemY E cx (.block id c) s Q:=by
 intro ro base Qm a w Z R h1 h2 h3 k
 refine wpIn_block (h ro base _ a w Z R h1 h2 h3 fun e s' a' w' Z' R' hQ sr st=>?_)
 cases e with
 | normal=>exact k _ s' a' w' Z' R' hQ sr st
 | exit id' =>
  show if id'=id then Qm .normal a' w' else Qm (.exit id') a' w'
  simp only at hQ
  split at hQ
  ·next h=>rw [if_pos h]; exact k .normal s' a' w' Z' R' hQ sr st
  ·next h=>rw [if_neg h]; exact k _ s' a' w' Z' R' hQ sr st
 | ret=>exact k _ s' a' w' Z' R' hQ sr st
theorem SemY.loop (h:SemYN E cx c n s Q):SemY E cx (.loop c) s Q :=
 fun ro base Qm a w Z R h1 h2 h3 k=>wpIn_loop_rounds n (h ro base Qm a w Z R h1 h2 h3 k)
theorem BA (h:SemY E cx c s fun e s'=>match e with | .normal=>SemYN E cx c n s' Q | e=>Q e s'):SemYN E cx c (n + 1) s Q:=by
 intro ro base Qm a w Z R h1 h2 h3 k
 show c.wpIn (Fw ro) 0 E.P (Exit.then (Code.roundsIn (Fw ro) 0 E.P c Qm n) Qm) a w
 refine h ro base _ a w Z R h1 h2 h3 fun e s' a' w' Z' R' hQ sr st=>?_
 cases e with
 | normal=>exact hQ ro base Qm a' w' Z' R' h1 sr (h3.step h2.hh st) fun e2 s2 a2 w2 Z2 R2 hQ2 sr2 st2=>k e2 s2 a2 w2 Z2 R2 hQ2 sr2 (st.trans st2)
 | exit id=>exact k _ s' a' w' Z' R' hQ sr st
 | ret=>exact k _ s' a' w' Z' R' hQ sr st
theorem SemY.mono (h:SemY E cx c s Q) (hq:∀ e s,Q e s->Q' e s):SemY E cx c s Q' :=
 fun ro base Qm a w Z R h1 h2 h3 k=>h ro base Qm a w Z R h1 h2 h3 fun e s' a' w' Z' R' hQ=>k e s' a' w' Z' R' (hq e s' hQ)
theorem WkY.trans {s2:St}(h:WkY E s s1) (h':WkY E s1 s2):WkY E s s2:=fun base w Z R a k =>
 let ⟨Z1,R1,k1,st1⟩:=h base w Z R a k
 let ⟨Z2,R2,k2,st2⟩:=h' base w Z1 R1 a k1
 ⟨Z2,R2,k2,st1.trans st2⟩
theorem Tv (h:QZ l l'=Qk l'):WkY E ⟨Fr n l,hp⟩ ⟨Fr n l',hp⟩:=fun base w Z R a sr=>by
 refine ⟨Z,R,⟨sr.hh,⟨?_,fun t x hx=>sr.fr.2 t x ?_⟩,sr.mks,sr.gl,sr.bs⟩,Step.refl _ _ _ _⟩
 ·rw [G8]; have:=sr.fr.1; rw [G8] at this; exact this
 ·rw [GE] at hx ⊢
  split at hx
  ·next ht=>rw [if_pos ht]; injection hx with hx; rw [lk_mem h hx]
  ·cases hx
theorem WkY.f1 {E:Env}{n:Nat}{l l':List (Nat×AV)}{hp:Hp}(h:QZ l l'=Qk l':=by kernel_rfl):WkY E ⟨Fr n l,hp⟩ ⟨Fr n l',hp⟩:=Tv h
theorem Ef (hw:WkY E s s1) (h:SemY E cx c s1 Q):SemY E cx c s Q:=by
 intro ro base Qm a w Z R h1 h2 h3 k
 obtain ⟨Z',R',h2',st⟩:=hw base w Z R a h2
 exact h ro base Qm a w Z' R' h1 h2' (h3.step h2.hh st) fun e s' a' w' Z2 R2 hQ sr st2=>k e s' a' w' Z2 R2 hQ sr (st.trans st2)
theorem Ad (hw:WkY E s s1) (h:SemYN E cx c n s1 Q):SemYN E cx c n s Q:=by
 intro ro base Qm a w Z R h1 h2 h3 k
 obtain ⟨Z',R',h2',st⟩:=hw base w Z R a h2
 exact h ro base Qm a w Z' R' h1 h2' (h3.step h2.hh st) fun e s' a' w' Z2 R2 hQ sr st2=>k e s' a' w' Z2 R2 hQ sr (st.trans st2)
theorem SemY.fr (h:QZ l l'=Qk l') (k:SemY E cx c ⟨Fr n l',hp⟩ Q):SemY E cx c ⟨Fr n l,hp⟩ Q:=Ef (Tv h) k
/-- What a part did, told by one state for each way out. -/
theorem TD {e0:Ex}{s2:St}(h:SemY E cx c s fun e s'=>e=e0/\WkY E s' s2) (q:Q e0 s2):SemY E cx c s Q:=by
 intro ro base Qm a w Z R h1 h2 h3 k
 refine h ro base Qm a w Z R h1 h2 h3 fun e s' a' w' Z' R' hQ sr st=>?_
 obtain ⟨rfl,hw⟩:=hQ
 obtain ⟨Z2,R2,sr2,st2⟩:=hw base w' Z' R' a' sr
 exact k e s2 a' w' Z2 R2 q sr2 (st.trans st2)
theorem Lx {e0:Ex}{s2:St}(h:SemYN E cx c n s fun e s'=>e=e0/\WkY E s' s2) (q:Q e0 s2):SemYN E cx c n s Q:=by
 intro ro base Qm a w Z R h1 h2 h3 k
 refine h ro base Qm a w Z R h1 h2 h3 fun e s' a' w' Z' R' hQ sr st=>?_
 obtain ⟨rfl,hw⟩:=hQ
 obtain ⟨Z2,R2,sr2,st2⟩:=hw base w' Z' R' a' sr
 exact k e s2 a' w' Z2 R2 q sr2 (st.trans st2)
theorem RunY.done (hr:rest=[]) (k:K s):RunY E cx ops rest s K:=by
 subst hr
 exact fun ro base Q a w Z R _ sr _ q=>q s a w Z R k sr (Step.refl _ _ _ _)
theorem NR (hE:EnvOk E) (n:Nat):∀ {pre:List Oper}{s:St},Hh E (evC E n) ⟨none,false⟩ ops pre s=some s1->RunY E cx ops rest s1 K->RunY E cx ops (pre++rest) s K
 | [],s,e,k=>by injection e with e; subst e; exact k
 | o::pre,s,e,kk=>by
  intro ro base Q a w Z R hro sr hy q
  show wpListIn (Fw ro) 0 E.P ops Q (o::(pre++rest)) a w
  unfold Hh at e
  unfold wpListIn
  split at e
  ·cases e
  ·next hw =>
   rw [if_neg (by rw [wantedA_eq sr hw]; simp)]
   exact ⟨fun _ _=>trivial,NR hE n e kk ro base Q _ w Z R hro (sr.put undef_vr) hy q⟩
  ·next hw =>
   rw [if_pos (wantedA_eq sr hw)]
   split at e
   ·next s2 hs2=>exact lw_wpIn ro (op1_lw hE (code_sound hE n).1 hs2 sr fun a' w' Z' R' sr' st=>NR hE n e kk ro base Q a' w' Z' R' hro sr' (hy.step sr.hh st) fun s'' a'' w'' Z'' R'' hK sr'' st'=>q s'' a'' w'' Z'' R'' hK sr'' (st.trans st'))
   ·cases e
theorem Qn (hE:EnvOk E) (m:Nat) (h:Hh E (evC E 0) ⟨none,false⟩ ops (rest.take m) s=some s1) (k:RunY E cx ops (rest.drop m) s1 K):RunY E cx ops rest s K:=by
 have:=NR hE 0 h k
 rwa [List.take_append_drop] at this
theorem Pf (hE:EnvOk E) (m:Nat){s:St}(l:List (Nat×AV)) (hp:Hp) (h:RL (Hh E (evC E 0) ⟨none,false⟩ ops (rest.take m) s) l=some (n,xs2 l,hp)) (k:RunY E cx ops (rest.drop m) ⟨Fr n l,hp⟩ K):RunY E cx ops rest s K:=by
 obtain ⟨fr,h1,h2,h3⟩:=MM h
 refine Qn hE m h1 ?_
 exact fun ro base Q a w Z R hro sr hy q=>k ro base Q a w Z R hro (sr.forget h2 h3) hy q
theorem RunY.one (hE:EnvOk E) (n:Nat){o:Oper}(hr:rest=o::rest') (h:Hh E (evC E n) ⟨none,false⟩ ops [o] s=some s1) (k:RunY E cx ops rest' s1 K):RunY E cx ops rest s K:=by
 subst hr
 exact NR hE n (pre:=[o]) h k
theorem RunY.store (hE:EnvOk E){t:TypeId}{p q:Operand}{y z:AV}{ty:TypeId}{pos:String}{af:Array Edge}{g:Option (Nat×Bool)}(hr:rest=⟨none,.store t p q,ty,pos,af,g⟩::rest') (hw:As ops (Fr n l) ⟨none,.store t p q,ty,pos,af,g⟩=some true) (hp1:opA E (Fr n l) p=some y) (hq1:opA E (Fr n l) q=some z) (h:F6 E.P hp t y z=some hp') (k:RunY E cx ops rest' ⟨Fr n l,hp'⟩ K):RunY E cx ops rest ⟨Fr n l,hp⟩ K :=
 RunY.one hE 0 hr (Uc hw hp1 hq1 h) k
theorem RunY.call {α β:Type}{s:Cs α}{F:α->Option β}{er:β->AV}{a:α}{b:β}{xs:List AV}(hE:EnvOk E){d:Nat}{f:Operand}{args:Array Operand}{tys:Array TypeId}{ty:TypeId}{pos:String}{af:Array Edge}{g:Option (Nat×Bool)}{fid:FuncId}(hr:rest=⟨some d,.call ⟨.value f,args,tys⟩,ty,pos,af,g⟩::rest') (hw:As ops (Fr n l) ⟨some d,.call ⟨.value f,args,tys⟩,ty,pos,af,g⟩=some true)
  (hf:opA E (Fr n l) f=some (.fn fid [] [])) (hi:E.I fid=false) (hX:E.X fid=some (GP s F er)) (ha:Hg (opA E (Fr n l)) args.toList=some xs) (hv:Sns hp s xs a) (hok:xs.all DU=true\/EM (er b)=true) (hF:F a=some b) (k:RunY E cx ops rest' ⟨Fr n ((d,er b)::l),hp⟩ K):RunY E cx ops rest ⟨Fr n l,hp⟩ K :=
 RunY.one hE 0 hr (Qb hw hf hi hX ha hv hok hF) k
theorem SemY.region (h:RunY E cx ops ops.toList s fun s'=>Q .normal s'):SemY E cx (.region id ops false) s Q:=by
 intro ro base Qm a w Z R h1 h2 h3 kk
 exact wpIn_region_list (h ro base _ a w Z R h1 h2 h3 fun s' a' w' Z' R' hq sr st=>kk .normal s' a' w' Z' R' hq sr st)
end
def pz:List Nat->List AV->List (Nat×AV)->List (Nat×AV)
 | p::ps,x::xs,l=>pz ps xs ((p,x)::l)
 | _,_,l=>l
theorem RN {n:Nat}:∀ {ps:List Nat}{xs:List AV}{l:List (Nat×AV)},Mt (Fr n l) ps xs=Fr n (pz ps xs l)
 | [],_,_=>by unfold Mt pz; rfl
 | _::_,[],_=>by unfold Mt pz; rfl
 | p::ps,x::xs,l=>by
  unfold Mt pz
  rw [show (Fr n l).set p (some x)=Fr n ((p,x)::l) from CM n l p x]
  exact RN
/-- A function, entered: what its body does. -/
theorem Nb {e:Env}(he:EnvOk e){y:Option YC}{f:FuncId}{fn:Func}{c:Code}(hfn:e.fn f=some fn) (hc:fn.body=some c){args:List AV}(hle:args.length<=fn.ntmps){hp:Hp}{Out:AV->Hp->Prop}
  (sem:SemY e ⟨y,false⟩ c ⟨Fr fn.ntmps (Av 0 args),hp⟩ fun x s'=>(x = .normal\/x = .ret)/\∃ ys,FA e.P s'.fr s'.hp fn.results.toList=some ys/\Out (FZ ys) s'.hp)
  {w:World} {Z:Nat->Prop} {R:List RI} {us:List Value} (hh:HR w Z R hp) (hv:VRs w Z R args us) (hg:GI e w Z) (hy:YI ⟨y,false⟩ w Z R hp) :
  Ret e.P f us.toArray w fun v w'=>∃ Z' R' x h',Out x h'/\HR w' Z' R' h'/\VR w' Z' R' x v/\Step w Z R hp w' Z' R' h':=by
 obtain ⟨hff,hcall,_⟩:=he.fn f fn hfn
 refine callsIn_wide.1 (callsIn_of_wp_marks (F:=Fw none) (n:=0) hff hc trivial ?_)
 have hul:us.length=args.length:=hv.len
 have hsr:SR e (.of w.heap.size) w Z R ⟨Fr fn.ntmps (Av 0 args),hp⟩ { tmps:=us.toArray++Array.replicate (fn.ntmps - us.toArray.size) undef,defers:=[] }:=by
  refine ⟨hh,⟨by rw [G8]; simp; omega,fun t x hx=>?_⟩,rfl,hg,Nat.le_refl _⟩
  rw [GE] at hx
  split at hx
  ·injection hx with hx
   obtain ⟨j,h1,h2⟩:=OD _ 0 t x hx
   rw [Nat.zero_add] at h1
   subst h1
   obtain ⟨u,hu1,hu2⟩:=hv.get h2
   have e0:us.toArray++Array.replicate (fn.ntmps - us.toArray.size) undef=(us++List.replicate (fn.ntmps - us.length) undef).toArray:=by simp
   rw [e0,Array.getD_eq_getD_getElem?,List.getElem?_toArray,List.getElem?_append_left (List.getElem?_eq_some_iff.1 hu1).1,hu1]
   exact hu2
  ·cases hx
 refine sem none (.of w.heap.size) _ _ w Z R (fun _=>rfl) hsr hy fun x s' a' w' Z' R' hQ sr' st=>?_
 obtain ⟨hex,ys,hys,hO⟩:=hQ
 have hl:=JL (base:= .of w.heap.size) rfl (E:=e) (w:=w') (a:=a') (fn:=fn) (S:=fun v w''=>∃ Z' R' x h',Out x h'/\HR w'' Z' R' h'/\VR w'' Z' R' x v/\Step w Z R hp w'' Z' R' h') hys (fun w'' u g1 g2 g3 g4 g5 g6 g7=>⟨Z',R',_,_,hO,g6,g7,⟨g2.trans st.os,g3.trans st.tape,g4.trans st.output,by rw [g1]; exact st.size,fun c hc hn=>(g5 c hc).trans (st.block c hc hn),st.own_,st.z,st.z',st.r⟩⟩) (D:=a'.defers) (w1:=w') sr' rfl rfl rfl rfl (fun _ _=>rfl)
 rcases hex with rfl | rfl
 ·exact hl
 ·exact hl
section
variable {E:Env}{cx:Cx}{ops:Array Oper}{rest rest':List Oper}{K:St->Prop}{n:Nat}{l:List (Nat×AV)}{hp:Hp}
/-- A call whose body is gone through. -/
theorem IJ (hP:E.P=E0.P) (hG:E.G=E0.G){e:Env}(he:EnvOk e) (heP:e.P=E0.P) (heG:e.G=E0.G){d:Nat}{f:Operand}{args:Array Operand}{tys:Array TypeId}{ty:TypeId}{pos:String}{af:Array Edge}{g:Option (Nat×Bool)}{fid:FuncId}{caps xs:List AV}{fn:Func}{c:Code}{Out:AV->Hp->Prop}(hr:rest=⟨some d,.call ⟨.value f,args,tys⟩,ty,pos,af,g⟩::rest') (hw:As ops (Fr n l) ⟨some d,.call ⟨.value f,args,tys⟩,ty,pos,af,g⟩=some true)
  (hf:opA E (Fr n l) f=some (.fn fid [] caps)) (ha:Hg (opA E (Fr n l)) args.toList=some xs) (hfn:e.fn fid=some fn) (hc:fn.body=some c) (hle:(xs++caps).length<=fn.ntmps)
  (sem:SemY e ⟨none,false⟩ c ⟨Fr fn.ntmps (Av 0 (xs++caps)),hp⟩ fun x s'=>(x = .normal\/x = .ret)/\∃ ys,FA e.P s'.fr s'.hp fn.results.toList=some ys/\Out (FZ ys) s'.hp)
  (k:∀ x h',Out x h'->RunS E ops rest' ⟨Fr n ((d,x)::l),h'⟩ K):RunS E ops rest ⟨Fr n l,hp⟩ K:=by
 obtain ⟨P,fns,G,X,I⟩:=E
 obtain ⟨P',fns',G',X',I'⟩:=e
 simp only at hP hG heP heG
 subst hP hG heP heG
 subst hr
 intro base Q a w Z R sr q
 have hρ:∀ o x,opA ⟨E0.P,fns,E0.G,X,I⟩ (Fr n l) o=some x->VR w Z R x (a.eval o):=fun o x e=>opA_vr sr o x e
 refine In rfl (wantedA_eq sr hw) ?_
 have hvf:=hρ _ _ hf
 generalize hvq:a.eval f=vf at hvf
 cases hvf with
 | fn hl hl' hx hy =>
  rename_i u1 u2
  have e1:u1=[]:=by simpa using hl
  subst e1
  obtain ⟨hff,hcall,_⟩:=he.fn fid fn hfn
  unfold Lw
  rw [Ep (uf:=[]) (uc:=u2) rfl hvq rfl hcall w]
  simp only [List.nil_append]
  have hargs:VRs w Z R (xs++caps) (args.toList.map a.eval++u2):=(opds_vr hρ ha).append ⟨hl',hy⟩
  refine Ret.mono (Nb he hfn hc hle sem sr.hh hargs sr.gl (fun y hy=>by cases hy)) fun v w' hS=>?_
  obtain ⟨Z',R',x,h',hO,h1,h2,st⟩:=hS
  have sr':=(sr.step h1 st).put (d:=some d) h2
  rw [show MK (⟨Fr n l,hp⟩:St).fr (some d) x=Fr n ((d,x)::l) from CM n l d _] at sr'
  exact k x h' hO base Q _ w' Z' R' sr' fun s' a' w'' Z'' R'' hK sr'' st'=>q s' a' w'' Z'' R'' hK sr'' (st.w.trans st')
/-- Only the first m blocks are kept. -/
theorem S9 {w0 w:World}{Z0 Z:Nat->Prop}{R0 R:List RI}{h0 h h':Hp}{m:Nat}(st:Step w0 Z0 R0 h0 w Z R h) (hl0:R0.length=h0.length) (hm0:h0.length<=m) (hh:HR w Z R h) (hm:(Nat.ble m h.length&&Nat.ble h.length 1000000000)=true) (hk:HpUp (List.range m) h (List.range m) h') :
  HR w Z (PO (List.range m) R) h'/\Step w0 Z0 R0 h0 w Z (PO (List.range m) R) h':=by
 simp only [Bool.and_eq_true] at hm
 have hm1:=Nat.le_of_ble_eq_true hm.1
 have hb:=Nat.le_of_ble_eq_true hm.2
 have hlen:=hh.len
 obtain ⟨k1,k2⟩:=hk.at_
 rw [List.length_range] at k1
 have hι:∀ i ∈ List.range m,i < R.length:=fun i hi=>by have:=List.mem_range.1 hi; omega
 have hbR:R.length<=1000000000:=by omega
 have hget:∀ j,j < m->(PO (List.range m) R)[j]? = R[j]?:=fun j hj=>by
  unfold PO
  rw [List.getElem?_map,List.getElem?_range hj,Option.map_some,List.getD_eq_getElem?_getD,List.getElem?_eq_getElem (by omega:j < R.length)]; rfl
 have hrange:∀ (j b:Nat),(List.range m)[j]? = some b->j < m/\b=j:=fun j b hj=>by
  obtain ⟨h1,h2⟩:=List.getElem?_eq_some_iff.1 hj
  rw [List.length_range] at h1
  rw [List.getElem_range] at h2
  exact ⟨h1,h2.symm⟩
 have hown:∀ c,own (PO (List.range m) R) h' c->own R h c:=fun c ⟨j,B,r,h1,h2,h3,h4⟩=>by
  obtain ⟨b,q1,q2,_⟩:=k2 j B h1
  obtain ⟨hj,rfl⟩:=hrange _ _ q1
  rw [hget b hj] at h3
  exact ⟨b,_,r,q2,h2,h3,h4⟩
 refine ⟨⟨by rw [k1]; simp [PO],fun j B hB=>?_,fun j j' B B' r r' hB hf hB' hf' h1 h2 e=>?_,hh.zlt⟩,⟨st.os,st.tape,st.output,st.size,st.block,fun c hc=>st.own_ c (hown c hc),st.z,st.z',fun i x hi=>?_⟩⟩
 ·obtain ⟨b,q1,q2,q3⟩:=k2 j B hB
  obtain ⟨hj,rfl⟩:=hrange _ _ q1
  obtain ⟨r,arr,us,g1,g2,g3,g4,g5,g6,g7,g8,g9,g10⟩:=hh.blk b _ q2
  refine ⟨r,arr,us,(hget b hj).trans g1,g2,g3,g4,by simpa using g5,g6,g7,g8,⟨by have:=g9.len; simpa using this,fun i x u hx hu=>?_⟩,g10⟩
  exact Tp hι hbR (q3 x (List.mem_of_getElem? hx)) (g9.at_ i _ u (by simp [hx]) hu)
 ·obtain ⟨b,q1,q2,_⟩:=k2 j B hB
  obtain ⟨b',q1',q2',_⟩:=k2 j' B' hB'
  obtain ⟨hj,rfl⟩:=hrange _ _ q1
  obtain ⟨hj',rfl⟩:=hrange _ _ q1'
  rw [hget b hj] at h1
  rw [hget b' hj'] at h2
  exact hh.inj b b' _ _ r r' q2 hf q2' hf' h1 h2 e
 ·have:=(List.getElem?_eq_some_iff.1 hi).1
  rw [hget i (by omega)]
  exact st.r i x hi
/-- .. in the midst of such a body: what it made is dropped. -/
theorem RunY.inl (hP:E.P=E0.P) (hG:E.G=E0.G){e:Env}(he:EnvOk e) (heP:e.P=E0.P) (heG:e.G=E0.G){d:Nat}{f:Operand}{args:Array Operand}{tys:Array TypeId}{ty:TypeId}{pos:String}{af:Array Edge}{g:Option (Nat×Bool)}{fid:FuncId}{caps xs:List AV}{fn:Func}{c:Code}{Out:AV->Hp->Prop}(m:Nat) (hm0:hp.length=m) (hr:rest=⟨some d,.call ⟨.value f,args,tys⟩,ty,pos,af,g⟩::rest') (hw:As ops (Fr n l) ⟨some d,.call ⟨.value f,args,tys⟩,ty,pos,af,g⟩=some true)
  (hf:opA E (Fr n l) f=some (.fn fid [] caps)) (ha:Hg (opA E (Fr n l)) args.toList=some xs) (hfn:e.fn fid=some fn) (hc:fn.body=some c) (hle:(xs++caps).length<=fn.ntmps)
  (sem:SemY e ⟨none,false⟩ c ⟨Fr fn.ntmps (Av 0 (xs++caps)),hp⟩ fun x s'=>(x = .normal\/x = .ret)/\∃ ys,FA e.P s'.fr s'.hp fn.results.toList=some ys/\Out (FZ ys) s'.hp)
  (k:∀ x h',Out x h'->∃ h'',(Nat.ble m h'.length&&Nat.ble h'.length 1000000000)=true/\HpUp (List.range m) h' (List.range m) h''/\(up (List.range m) x=x/\Jd x=true)/\RunY E cx ops rest' ⟨Fr n ((d,x)::l),h''⟩ K):RunY E cx ops rest ⟨Fr n l,hp⟩ K:=by
 obtain ⟨P,fns,G,X,I⟩:=E
 obtain ⟨P',fns',G',X',I'⟩:=e
 simp only at hP hG heP heG
 subst hP hG heP heG
 subst hr
 intro ro base Q a w Z R hro sr hy q
 have hρ:∀ o x,opA ⟨E0.P,fns,E0.G,X,I⟩ (Fr n l) o=some x->VR w Z R x (a.eval o):=fun o x e=>opA_vr sr o x e
 unfold wpListIn
 rw [if_pos (wantedA_eq sr hw)]
 refine lw_wpIn ro ?_
 have hvf:=hρ _ _ hf
 generalize hvq:a.eval f=vf at hvf
 cases hvf with
 | fn hl hl' hx hy' =>
  rename_i u1 u2
  have e1:u1=[]:=by simpa using hl
  subst e1
  obtain ⟨hff,hcall,_⟩:=he.fn fid fn hfn
  unfold Lw
  rw [Ep (uf:=[]) (uc:=u2) rfl hvq rfl hcall w]
  simp only [List.nil_append]
  have hargs:VRs w Z R (xs++caps) (args.toList.map a.eval++u2):=(opds_vr hρ ha).append ⟨hl',hy'⟩
  refine Ret.mono (Nb he hfn hc hle sem sr.hh hargs sr.gl (fun y hy=>by cases hy)) fun v w' hS=>?_
  obtain ⟨Z',R',x,h',hO,h1,h2,st⟩:=hS
  obtain ⟨h'',hm,hk,⟨hx1,hx2⟩,kk⟩:=k x h' hO
  have hl1:R.length=hp.length:=sr.hh.len
  obtain ⟨j1,j2⟩:=S9 st hl1 (Nat.le_of_eq hm0) h1 hm hk
  simp only [Bool.and_eq_true] at hm
  have hm1:=Nat.le_of_ble_eq_true hm.1
  have hm2:=Nat.le_of_ble_eq_true hm.2
  have hl2:=h1.len
  have hvx:VR w' Z' (PO (List.range m) R') x v:=Tp (fun i hi=>by have:=List.mem_range.1 hi; omega) (by omega) hx2 (by rw [hx1]; exact h2)
  have sr':=(sr.step j1 j2).put (d:=some d) hvx
  rw [show MK (⟨Fr n l,hp⟩:St).fr (some d) x=Fr n ((d,x)::l) from CM n l d _] at sr'
  exact kk ro base Q _ w' Z' _ hro sr' (hy.step sr.hh j2) fun s' a' w'' Z'' R'' hK sr'' st'=>q s' a' w'' Z'' R'' hK sr'' (j2.trans st')
/-- A yield: a round of the range that is under way. -/
theorem RunY.yield (hP:E.P=E0.P) (hG:E.G=E0.G){eb:Env}(hbP:eb.P=E0.P) (hbG:eb.G=E0.G){y:YC}(hcx:cx.y=some y) (hin:cx.inR=false){d:Nat}{f:Operand}{args:Array Operand}{tys:Array TypeId}{ty:TypeId}{pos:String}{af:Array Edge}{g:Option (Nat×Bool)}{xs:List AV}{K1:Hp->Prop}(hr:rest=⟨some d,.call ⟨.value f,args,tys⟩,ty,pos,af,g⟩::rest') (hw:As ops (Fr n l) ⟨some d,.call ⟨.value f,args,tys⟩,ty,pos,af,g⟩=some true)
  (hf:opA E (Fr n l) f=some (.yl y.b)) (ha:Hg (opA E (Fr n l)) args.toList=some xs) (hlen:xs.length=y.ps.length) {n0:Nat} {l0:List (Nat×AV)} (hfr:y.fr=Fr n0 l0)
  (hb:SemY eb ⟨none,true⟩ y.assign ⟨Fr n0 (pz y.ps xs l0),hp⟩ fun e s1=>e = .normal/\SemY eb ⟨none,true⟩ y.body s1 fun e s2=>e = .normal/\K1 s2.hp)
  (k:∀ h',K1 h'->RunY E cx ops rest' ⟨Fr n ((d,.v (.bool true))::l),h'⟩ K):RunY E cx ops rest ⟨Fr n l,hp⟩ K:=by
 obtain ⟨P,fns,G,X,I⟩:=E
 obtain ⟨P',fns',G',X',I'⟩:=eb
 simp only at hP hG hbP hbG
 subst hP hG hbP hbG
 subst hr
 intro ro base Q a w Z R hro sr hy q
 have hρ:∀ o x,opA ⟨E0.P,fns,E0.G,X,I⟩ (Fr n l) o=some x->VR w Z R x (a.eval o):=fun o x e=>opA_vr sr o x e
 unfold wpListIn
 rw [if_pos (wantedA_eq sr hw)]
 have hro':=hro hin
 subst hro'
 have hvs:=opds_vr hρ ha
 have hvf:=hρ _ _ hf
 have hyy:=hy
 obtain ⟨d1,d2,r,L,g1,g2,g3,g4,g5,g6,g7,g8,g9,g10⟩:=hy y hcx
 generalize hvq:a.eval f=vf at hvf
 cases hvf with
 | yl hr =>
  rename_i r'
  rw [g1] at hr
  injection hr with hr
  subst hr
  generalize hus:args.toList.map a.eval=us at hvs
  have hargs:args.map a.eval=us.toArray:=by
   apply Array.ext'
   rw [<-hus,Array.toList_map]
  have hps:us.toArray.size=L.params.size:=by rw [g7]; simp [hvs.len,hlen]
  have hrun:(execOp a.eval (⟨some d,.call ⟨.value f,args,tys⟩,ty,pos,af,g⟩:Oper)).run E0.P w = .ok (.round r.c L.fn ((L.params.zip us.toArray).foldl (fun tmps (t,a)=>tmps.setIfInBounds t a) L.tmps) L.assign L.body) w:=by
   simp only [execOp,resolve,hvq,hargs,Deferred.ofValue]
   rw [Sem.run_bind,Sem.run_pure]
   simp only [Result.andThen,invoke,Array.empty_append]
   exact run_yield g4 hps
  refine ⟨fun _ _=>trivial,?_⟩
  rw [show (Fw none).round=none from rfl,semAt_run none hrun (by simp),Oper.uponIn_round]
  refine ⟨(fun h=>by cases h),?_⟩
  refine roundIn_of_wpIn (F:=Fw none) trivial ?_
  rw [g8,g9]
  have hfr0:FrR w Z R (Mt y.fr y.ps xs) ((L.params.zip us.toArray).foldl (fun tmps (t,a)=>tmps.setIfInBounds t a) L.tmps):=by
   have:=PV (ps:=y.ps) g10 hvs
   have e0:(L.params.zip us.toArray).foldl (fun tmps (t,a)=>tmps.setIfInBounds t a) L.tmps=(y.ps.zip us).foldl (fun tmps (x:Tmp×Value)=>tmps.setIfInBounds x.1 x.2) L.tmps:=by
    rw [g7,<-Array.foldl_toList]; simp
   rw [e0]; exact this
  rw [hfr,RN] at hfr0
  have hlt:=KY g4
  refine hb (some r.c) (.of 0) _ { tmps:=_,defers:=[] } w Z R (fun h=>by cases h) ⟨sr.hh,hfr0,rfl,sr.gl,Nat.zero_le _⟩ (fun y hy=>by cases hy) fun e1 s1 a1 w1 Z1 R1 hQ1 sr1 st1=>?_
  obtain ⟨rfl,hb2⟩:=hQ1
  obtain ⟨p1,p2,p3⟩:=st1.other g4 g2 g3
  refine ⟨_,run_beginRound p1 g5,?_⟩
  have hlt1:=KY p1
  have hb1:∀ c,(Z1 c\/own R1 s1.hp c)->(w1.putObj r.c (.loop { L with state:= .busy })).heap[c]? = w1.heap[c]?:=fun c hc=>Hi (fun e=>by subst e; exact hc.elim p2 p3)
  have hh2:=sr1.hh.off (CG _ _ _) hb1
  refine hb2 (some r.c) (.of 0) _ a1 _ Z1 R1 (fun h=>by cases h) ⟨hh2,sr1.fr.off fun c hc=>hb1 c (.inl hc),?_,sr1.gl.off fun c hc=>hb1 c (.inl hc),Nat.zero_le _⟩ (fun y hy=>by cases hy) fun e2 s2 a2 w3 Z3 R3 hQ2 sr3 st3=>?_
  ·exact sr1.mks.put (Oj (by rw [p1]; intro e; cases e) sr1.mks)
  ·obtain ⟨rfl,hK1⟩:=hQ2
   have hput:(w1.putObj r.c (.loop { L with state:= .busy })).heap[r.c]? = some (.loop { L with state:= .busy }):=World.putObj_heap_same hlt1
   obtain ⟨q1,q2,q3⟩:=st3.other hput p2 p3
   have hlt3:=KY q1
   refine ⟨_,_,run_endRound none q1,?_⟩
   have hb3:∀ c,(Z3 c\/own R3 s2.hp c)->(w3.putObj r.c (.loop { { L with state:= .busy } with state:=if (none:Option Code).isNone then .ready else .done,pending:=none })).heap[c]? = w3.heap[c]?:=fun c hc=>Hi (fun e=>by subst e; exact hc.elim q2 q3)
   have hL:({ { L with state:= .busy } with state:=if (none:Option Code).isNone then .ready else .done,pending:=none }:Loop)=L:=by
    cases L; simp at g5 g6; subst g5 g6; rfl
   have stF:Step w Z R hp (w3.putObj r.c (.loop { { L with state:= .busy } with state:=if (none:Option Code).isNone then .ready else .done,pending:=none })) Z3 R3 s2.hp:=by
    refine ⟨?_,?_,?_,?_,fun c hc hn=>?_,fun c hc=>?_,fun c hc=>st3.z c (st1.z c hc),fun c hc=>?_,fun i q hq=>st3.r i q (st1.r i q hq)⟩
    ·exact st3.os.trans st1.os
    ·exact st3.tape.trans st1.tape
    ·exact st3.output.trans st1.output
    ·rw [CG]
     have:=st3.size
     rw [CG] at this
     exact Nat.le_trans st1.size this
    ·by_cases hcr:c=r.c
     ·subst hcr
      rw [World.putObj_heap_same hlt3,hL]
      exact g4.symm
     ·rw [Hi hcr]
      have hc1:c < w1.heap.size:=Nat.lt_of_lt_of_le hc st1.size
      have hno:¬ own R1 s1.hp c:=fun ho=>by
       rcases st1.own_ c ho with h1 | h1
       ·exact hn h1
       ·omega
      rw [st3.block c (by rw [CG]; exact hc1) hno,Hi hcr]
      exact st1.block c hc hn
    ·rcases st3.own_ c hc with h1 | h1
     ·exact st1.own_ c h1
     ·rw [CG] at h1; exact .inr (Nat.le_trans st1.size h1)
    ·rcases st3.z' c hc with h1 | h1 | h1
     ·exact st1.z' c h1
     ·rcases st1.own_ c h1 with h2 | h2
      ·exact .inr (.inl h2)
      ·exact .inr (.inr h2)
     ·rw [CG] at h1; exact .inr (.inr (Nat.le_trans st1.size h1))
   have sr':=(sr.step (sr3.hh.off (CG _ _ _) hb3) stF).put (d:=some d) (x:= .v (.bool true)) (u:= .bool true) (.v rfl)
   rw [show MK (⟨Fr n l,hp⟩:St).fr (some d) (.v (.bool true))=Fr n ((d,.v (.bool true))::l) from CM n l d _] at sr'
   exact k s2.hp hK1 none base Q _ _ Z3 R3 hro sr' (hyy.step sr.hh stF) fun s' a' w'' Z'' R'' hK sr'' st'=>q s' a' w'' Z'' R'' hK sr'' (stF.trans st')
/-- A range over a function. -/
theorem Sem.range {cx:Cx}{Q:Ex->St->Prop}(hP:E.P=E0.P) (hG:E.G=E0.G){e:Env}(he:EnvOk e) (heP:e.P=E0.P) (heG:e.G=E0.G) (hin:cx.inR=false){f:Operand}{ps:Array Tmp}{assign body:Code}{gid:FuncId}{caps:List AV}{fn:Func}{c:Code}{Out:AV->Hp->Prop}(hd1:CP assign=true) (hd2:CP body=true)
  (hf:opA E (Fr n l) f=some (.fn gid [] caps)) (hfn:e.fn gid=some fn) (hc:fn.body=some c) (hle:(.yl hp.length::caps).length<=fn.ntmps)
  (sem:SemY e ⟨some ⟨hp.length,Fr n l,ps.toList,assign,body⟩,false⟩ c ⟨Fr fn.ntmps (Av 0 (.yl hp.length::caps)),hp++[none]⟩ fun x s'=>(x = .normal\/x = .ret)/\∃ ys,FA e.P s'.fr s'.hp fn.results.toList=some ys/\Out (FZ ys) s'.hp)
  (k:∀ x h',Out x h'->Q .normal ⟨Fr n l,h'⟩):Sem E cx (.rangeFunc f ps assign body) ⟨Fr n l,hp⟩ Q:=by
 obtain ⟨P,fns,G,X,I⟩:=E
 obtain ⟨P',fns',G',X',I'⟩:=e
 simp only at hP hG heP heG
 subst hP hG heP heG
 intro ro base Qm a w Z R h1 sr h3 kk
 have hro:=h1 hin
 subst hro
 have hvf:VR w Z R (.fn gid [] caps) (a.eval f):=opA_vr sr _ _ hf
 generalize hva:a.eval f=va at hvf
 cases hvf with
 | fn hl hl' hx hy' =>
  rename_i uf uc
  have e1:uf=[]:=by simpa using hl
  subst e1
  refine wpIn_rangeFunc fun fnn _=>?_
  obtain ⟨hff,hcall,_⟩:=he.fn gid fn hfn
  obtain ⟨L,hL⟩:∃ L:Loop,L={ state:= .ready,pending:=none,fn:=fnn,tmps:=a.tmps,params:=ps,assign,body,defers:=w.heap.size }:=⟨_,rfl⟩
  obtain ⟨w1,hw1⟩:∃ w1,w1=(w.alloc (.deferred (some []))).alloc (.loop L):=⟨_,rfl⟩
  have hsz:w1.heap.size=w.heap.size + 2:=by rw [hw1]; simp
  have hg1:w.grownBy w1 none:=by
   rw [hw1]
   refine ⟨rfl,rfl,rfl,by simp; omega,fun c hc _=>?_⟩
   rw [heap_alloc_old _ _ (by simp; omega),heap_alloc_old _ _ hc]
  have hmk:w1.heap[w.heap.size]? = some (.deferred (some [])):=by
   rw [hw1,heap_alloc_old _ _ (by simp)]; exact heap_alloc_new w _
  have hlp:w1.heap[w.heap.size + 1]? = some (.loop L):=by
   rw [hw1]
   have:=heap_alloc_new (w.alloc (.deferred (some []))) (.loop L)
   simpa using this
  have hh1:=sr.hh.keep (w':=w1) hg1.size (fun c hc=>hg1.block c hc (by simp))
  have st0:Step w Z R hp w1 Z R hp:=⟨hg1.os,hg1.tape,hg1.output,hg1.size,fun c hc _=>hg1.block c hc (by simp),fun _ h=> .inl h,fun _ h=>h,fun _ h=> .inl h,fun _ _ h=>h⟩
  obtain ⟨hh2,st2,hlast,hown2⟩:=hh1.dead (r:=⟨w.heap.size + 1,0,0⟩)
  have st02:=st0.trans st2
  have hnz:∀ c,w.heap.size<=c->¬ Z c:=fun c hc hz=>by have:=sr.hh.zlt c hz; omega
  have hno:∀ c,w.heap.size<=c->¬ own (R++[⟨w.heap.size + 1,0,0⟩]) (hp++[none]) c:=fun c hc ho=>by
   obtain ⟨b,B,r,q1,q2,q3,rfl⟩:=hown2 c ho
   have:=sr.hh.rltL q1 q3; omega
  have hvs:VRs w1 Z (R++[⟨w.heap.size + 1,0,0⟩]) (.yl hp.length::caps) (Value.func (.yield (w.heap.size + 1)) #[] #[]::uc) :=
   .cons (.yl hlast) (VRs.step ⟨hl',hy'⟩ sr.hh st02)
  have hy:YI ⟨some ⟨hp.length,Fr n l,ps.toList,assign,body⟩,false⟩ w1 Z (R++[⟨w.heap.size + 1,0,0⟩]) (hp++[none]):=by
   intro y hy
   injection hy with hy
   subst hy
   exact ⟨hd1,hd2,_,L,hlast,hnz _ (by simp),hno _ (by simp),hlp,by rw [hL],by rw [hL],by rw [hL],by rw [hL],by rw [hL],by rw [hL]; exact sr.fr.step sr.hh st02⟩
  have hr:=Nb he hfn hc hle sem hh2 hvs (sr.gl.step sr.hh st02) hy
  refine ⟨w.heap.size + 1,[Rl w.heap.size],w1,{ target:= .fn (.func gid) uc.toArray,args:=([]:List Value).toArray++#[Value.func (.yield (w.heap.size + 1)) #[] #[]] },w1,gid,(Value.func (.yield (w.heap.size + 1)) #[] #[]::uc).toArray,w1,?_,?_,fun _ _=>trivial,?_,(fun h=>by cases h),?_⟩
  ·rw [hw1,hL]; exact run_enterLoop_outer fnn a.tmps ps assign body
  ·simp [resolve,hva,Deferred.ofValue]
   rfl
  ·simp [invoke,hcall.run]
  ·refine HC none _ (Pd hr fun v w3 hS=>?_)
   obtain ⟨Z3,R3,x3,h',hO,hh3,_,st3⟩:=hS
   obtain ⟨p1,p2,p3⟩:=st3.other hlp (hnz _ (by simp)) (hno _ (by simp))
   obtain ⟨m1,m2,m3⟩:=st3.other hmk (hnz _ (Nat.le_refl _)) (hno _ (Nat.le_refl _))
   refine ⟨_,_,run_endLoop p1 (by rw [hL]; simp),?_⟩
   have hpend:L.pending=none:=by rw [hL]
   split
   rotate_left
   ·next hc=>rw [hpend] at hc; cases hc
   have hb:∀ c,(Z3 c\/own R3 h' c)->(w3.putObj (w.heap.size + 1) (.loop { L with state:= .exhausted })).heap[c]? = w3.heap[c]?:=fun c hc=>Hi (fun e=>by subst e; exact hc.elim p2 p3)
   have st03:=st02.trans st3
   refine kk .normal ⟨Fr n l,h'⟩ _ _ Z3 R3 (k x3 h' hO) ⟨hh3.off (CG _ _ _) hb,(sr.fr.step sr.hh st03).off fun c hc=>hb c (.inl hc),?_,(sr.gl.step sr.hh st03).off fun c hc=>hb c (.inl hc),?_⟩ (Step.w ⟨st03.os,st03.tape,st03.output,?_,fun c hc hn=>?_,st03.own_,st03.z,st03.z',st03.r⟩)
   ·refine .inr ⟨⟨w.heap.size,sr.bs,rfl,(Hi (by omega)).trans m1,m2,m3,fun d hd e=>?_⟩,?_⟩
    ·exact Oj (fun e=>by have:=KY e; omega) sr.mks d hd e
    ·exact Mks.put (sr.mks.step st03) (Oj (fun e=>by have:=KY e; omega) sr.mks)
   ·rw [CG]; exact Nat.le_trans sr.bs st03.size
   ·rw [CG]; exact st03.size
   ·rw [Hi (by omega)]; exact st03.block c hc hn
end
end Go.Proofs.YtcmgmkepodbpkaaDoor
namespace Go.Proofs.YtcmgmkepodbpkaaDoor
open Go.RowKit Go.ChangeShapes Go.WideShapes Go.Deep
theorem Th {P:Program}{t e e1:TypeId}{k:IntKind}(ht:P.underlying t=some (.slice e)) (he:P.underlying e=some (.array 2 e1)) (h1:P.underlying e1=some (.int k)) (ce:P.cellsOf e=2) (c1:P.cellsOf e1=1) (hb:Nat.blt 0 (P.bytesOf e)=true) :
  Rg P (cdL 2 (EF (cdK k) (cdK k) (fun _=>rfl) (fun _=>rfl))) t (fun xs=>xs.length<=140737488355328/\∀ p ∈ xs,(Lit.int k p.1).wf=true/\(Lit.int k p.2).wf=true):=⟨fun {H enc w base spare held fuel v x} h hw=>by
 rcases open_slice ht h with ⟨h0,_⟩ | ⟨a,len,cap,m,n,D,Pl,g1,g2,g3,g4,g5,hx,g6⟩
 ·injection h0 with h0
  subst h0
  exact ⟨[],.sl (us:=[]) rfl rfl (Nat.le_refl _) (by unfold maxLen; omega) (fun h=>by omega) (fun i x u hx=>by simp at hx),⟨by simp,fun a ha=>by cases ha⟩,rfl⟩
 ·injection g1 with g1
  subst g1
  have hlm:len<=m:=by rw [g5]; split <;> omega
  rw [hx] at hw
  simp only [DataW.weights,ht,List.all_cons,List.all_append,Bool.and_eq_true,decide_eq_true_eq] at hw
  obtain ⟨hw1,_,_⟩:=hw
  have hb':0 < P.bytesOf e:=Nat.le_of_ble_eq_true hb
  have hlen:len<=140737488355328:=by
   have h7:(((List.range len).map D).length + ((List.range (m - len)).map fun j=>D (len + j)).length) * 1<=(((List.range len).map D).length + ((List.range (m - len)).map fun j=>D (len + j)).length) * P.bytesOf e:=Nat.mul_le_mul_left _ hb'
   have h8:reachBytes=140737488351232:=rfl
   simp only [List.length_map,List.length_range,Nat.mul_one] at h7 hw1
   omega
  obtain ⟨A,hAl,hA⟩:=QY (n:=len) (p:=fun i (q:Int×Int)=>w.cell? (a.add (i * 2))=some (.int k q.1)/\w.cell? (a.add (i * 2 + 1))=some (.int k q.2)/\(Lit.int k q.1).wf=true/\(Lit.int k q.2).wf=true) (fun i hi=>by
   obtain ⟨cs',k1,k2⟩:=g6 i (by omega)
   rw [ce] at k1
   obtain ⟨_,hl2,hcell⟩:=World.cells?_some k1
   obtain ⟨xs,mm,_,_,_,hxl,hf⟩:=DataW.trod_array he k2
   match cs',hl2 with
   | [v0,v1],_ =>
    have f0:=hf 0 (by omega)
    have f1:=hf 1 (by omega)
    rw [c1] at f0 f1
    match xs,hxl with
    | [y0,y1],_ =>
     have f0:DataW.trod enc P w base spare held mm e1 [v0]=some y0:=f0
     have f1:DataW.trod enc P w base spare held mm e1 [v1]=some y1:=f1
     obtain ⟨n0,a1,_,a3⟩:=DataW.trod_int h1 f0
     obtain ⟨n1,b1,_,b3⟩:=DataW.trod_int h1 f1
     injection a1 with a1
     injection b1 with b1
     have e0:=hcell 0 (by omega)
     have e1:=hcell 1 (by omega)
     rw [Go.Deep.add_add] at e0 e1
     refine ⟨(n0,n1),?_,?_,a3,b3⟩
     ·rw [<-a1]; simpa using e0
     ·rw [<-b1]; simpa using e1)
  refine ⟨A,?_,⟨by rw [hAl]; exact hlen,fun q hq=>?_⟩,rfl⟩
  ·refine .sl (us:=A.map fun p=> .agg #[.int k p.1,.int k p.2]) (by simp [hAl]) (by simp) g3 g4 (fun h0=>?_) (fun i x u hx hu=>?_)
   ·have hA0:=hA 0 (A[0]'(by omega)) (List.getElem?_eq_getElem (by omega))
    have hs:=OQ (by simpa using hA0.1)
    refine ⟨a,rfl,hs,?_,fun i u hu=>?_⟩
    ·have:=hA0.1
     unfold World.cell? at this
     split at this
     ·next hb=>have:=(Array.getElem?_eq_some_iff.1 hb).1; rw [show (a.add (0 * 2)).block=a.block by unfold Addr.add; split <;> rfl] at this; exact this
     ·cases this
    ·rw [List.getElem?_map] at hu
     obtain ⟨p,hp,rfl⟩:=Option.map_eq_some_iff.1 hu
     obtain ⟨q1,q2,_,_⟩:=hA i p hp
     obtain ⟨ab,ao,asp⟩:=a
     simp only at hs
     subst hs
     rw [Dx] at q1 q2
     refine ⟨rfl,fun q hq=>?_,fun j q hq=>?_⟩
     ·have:q = .int k p.1\/q = .int k p.2:=by simpa [Value.cells] using hq
      rcases this with h | h <;> rw [h] <;> rfl
     ·match j,hq with
      | 0,hq =>
       have:q = .int k p.1:=by simpa [Value.cells] using hq.symm
       rw [this]; simpa using q1
      | 1,hq =>
       have:q = .int k p.2:=by simpa [Value.cells] using hq.symm
       rw [this]; simpa using q2
      | j + 2,hq=>simp [Value.cells] at hq
   ·rw [List.getElem?_map] at hx hu
    obtain ⟨p,hp,rfl⟩:=Option.map_eq_some_iff.1 hx
    obtain ⟨p',hp',rfl⟩:=Option.map_eq_some_iff.1 hu
    rw [hp] at hp'
    injection hp' with hp'
    subst hp'
    refine .ag (us:=[.int k p.1,.int k p.2]) rfl rfl fun j y z hy hz=>?_
    match j,hy,hz with
    | 0,hy,hz=>simp at hy hz; subst hy hz; exact .v rfl
    | 1,hy,hz=>simp at hy hz; subst hy hz; exact .v rfl
    | j + 2,hy,hz=>simp at hy
  ·obtain ⟨i,hi⟩:=List.getElem?_of_mem hq
   exact ⟨(hA i q hi).2.2.1,(hA i q hi).2.2.2⟩⟩
end Go.Proofs.YtcmgmkepodbpkaaDoor
namespace Go.Proofs.YtcmgmkepodbpkaaDoor
open Go.ChangeShapes Go.WideShapes Go.ChangeAt Go.RowKit
def Lb {H:Type}:DataW H->Array Value
 | .agg xs=>(xs.map fun
  | .lit (.int k n)=>Value.int k n
  | _=> .bool false).toArray
 | _=>#[]
def PT (vs:Array Value):Obj->Obj
 | .cells _ t frozen=> .cells vs t frozen
 | o=>o
noncomputable def N5 (os:Os):World :=
 { World.holding Tryd.prog os ⟨#[],#[],[]⟩ with heap:=(((World.holding Tryd.prog os ⟨#[],#[],[]⟩).heap.modify 0 (PT (Lb (Rows.laid_internal_strconv_uint64pow10 (H:=Unit))))).modify 1 (PT (Lb (Rows.laid_math_bits_deBruijn32tab (H:=Unit))))).modify 2 (PT (Lb (Rows.laid_math_bits_deBruijn64tab (H:=Unit)))) }
theorem Te:ownKnob Tryd.prog.godebug=none:=by kernel_rfl
theorem UQ:laidOutB Tryd.prog=true:=by kernel_rfl
theorem Lq {x:TypeId}{l:List TypeId}(p:TypeId->Bool) (h:l.all p=true) (hx:x ∈ l):p x=true:=List.all_eq_true.1 h x hx
def isT (r:Option (AV×Hp)):Bool:=match r with
 | some (.v (.bool true),_)=>true
 | _=>false
theorem UP {r:Option (AV×Hp)}(h:isT r=true):∃ h',r=some (.v (.bool true),h'):=by
 unfold isT at h
 split at h
 ·exact ⟨_,rfl⟩
 ·cases h
set_option maxRecDepth 1000000 in
theorem U6:isT (Q0 E0 1000 13 [] [])=true:=by kernel_rfl
theorem TI:∃ h,Q0 E0 1000 13 [] []=some (.v (.bool true),h):=UP U6
theorem R8 (w:World):Ret Tryd.prog 13 #[] w fun v w'=>v = .bool true/\w.grownBy w' none:=by
 obtain ⟨h,e⟩:=TI
 exact Tk (Z:=fun _=>False) (us:=[]) BB e (fun c hc=>hc.elim) (fun g x h=>by cases h) .nil
theorem Un {w:World}{Z:Nat->Prop}:VR w Z [] (.v (.bool true)) (.bool true):= .v rfl
/-- A block that a call made is given up. -/
theorem SOk.kill {f:FuncId}{ys:List AV}{Out Out2:AV->Hp->Prop}(b:Nat) (hs:SOk f ys Out) (h:∀ x h',Out x h'->Out2 x (h'.set b none)):SOk f ys Out2 :=
 ⟨hs.1,fun w Z us hz hg hv=>Ret.mono (hs.2 w Z us hz hg hv) fun v w' ⟨Z',R',x,h',hO,h1,h2,st⟩ =>
  let ⟨k1,k2⟩:=h1.kill b
  ⟨Z',R',x,h'.set b none,h x h' hO,k1,h2,st.trans k2.w⟩⟩
/-- How a Lean value is held by an abstract value and own blocks (the list tells which). -/
structure Oc (α:Type) where
 cd:Cd α
 at_:Hp->AV->α->List Nat->Prop
 loc:∀ {h h':Hp} {e:AV} {x:α} {F:List Nat},at_ h e x F->(∀ b ∈ F,h'[b]? = h[b]?)->at_ h' e x F
 own:∀ {h:Hp} {e:AV} {x:α} {F:List Nat} {b:Nat},at_ h e x F->b ∈ F->∃ B,h[b]? = some (some B)/\B.fz=false
 vr:∀ {w:World} {Z:Nat->Prop} {R:List RI} {h:Hp} {e:AV} {x:α} {F:List Nat} {u:Value},HR w Z R h->at_ h e x F->VR w Z R e u->VR w (fun c=>Z c\/∃ b ∈ F,∃ r,R[b]? = some r/\c=r.c) [] (cd.enc x) u
/-- A part of a heap. -/
structure Asn where
 at_:Hp->List Nat->Prop
 loc:∀ {h h':Hp} {F:List Nat},at_ h F->(∀ b ∈ F,h'[b]? = h[b]?)->at_ h' F
 own:∀ {h:Hp} {F:List Nat} {b:Nat},at_ h F->b ∈ F->∃ B,h[b]? = some (some B)/\B.fz=false
def TF (h:Hp):List Asn->List Nat->Prop
 | [],F=>F=[]
 | P::L,F=>∃ F1 F2,F=F1++F2/\P.at_ h F1/\TF h L F2
/-- The assertions hold of different blocks. -/
def T (h:Hp) (L:List Asn):Prop:=∃ F,TF h L F/\F.Nodup
theorem Il {h:Hp}{b:Nat}{o:Option Blk}(e:h[b]? = some o):b < h.length:=(List.getElem?_eq_some_iff.1 e).1
theorem TF.loc {h h':Hp}:∀ {L:List Asn}{F:List Nat},TF h L F->(∀ b ∈ F,h'[b]? = h[b]?)->TF h' L F
 | [],_,e,_=>e
 | _::_,_,⟨F1,F2,e,p,q⟩,k=>⟨F1,F2,e,Asn.loc _ p (fun b hb=>k b (by rw [e]; exact List.mem_append_left _ hb)),TF.loc q fun b hb=>k b (by rw [e]; exact List.mem_append_right _ hb)⟩
theorem TF.own {h:Hp}:∀ {L:List Asn}{F:List Nat}{b:Nat},TF h L F->b ∈ F->∃ B,h[b]? = some (some B)/\B.fz=false
 | [],_,_,e,hb=>by rw [show _=[] from e] at hb; cases hb
 | _::_,_,_,⟨F1,F2,e,p,q⟩,hb=>by
  rw [e] at hb
  rcases List.mem_append.1 hb with hb | hb
  ·exact Asn.own _ p hb
  ·exact TF.own q hb
theorem TF.lt {h:Hp}{L:List Asn}{F:List Nat}{b:Nat}(t:TF h L F) (hb:b ∈ F):b < h.length:=let ⟨_,e,_⟩:=t.own hb; Il e
theorem Asn.lt {P:Asn}{h:Hp}{F:List Nat}{b:Nat}(t:P.at_ h F) (hb:b ∈ F):b < h.length:=let ⟨_,e,_⟩:=P.own t hb; Il e
theorem TF.front {h:Hp}{P:Asn}:∀ {i:Nat}{L:List Asn}{F:List Nat},TF h L F->L[i]? = some P->∃ F',TF h (P::L.eraseIdx i) F'/\F'.Perm F
 | _,[],_,_,e=>by simp at e
 | 0,Q::L,F,t,e=>by
  simp at e; subst e
  exact ⟨F,t,List.Perm.refl _⟩
 | i + 1,Q::L,F,⟨F1,F2,e0,p,q⟩,e=>by
  obtain ⟨F',⟨G1,G2,e1,p1,q1⟩,hp⟩:=TF.front q (by simpa using e)
  subst e0 e1
  refine ⟨G1++(F1++G2),⟨G1,_,rfl,p1,F1,G2,rfl,p,q1⟩,?_⟩
  have h1:(G1++(F1++G2)).Perm (F1++(G1++G2)):=by
   rw [<-List.append_assoc,<-List.append_assoc]
   exact List.Perm.append_right _ List.perm_append_comm
  exact h1.trans (List.Perm.append_left _ hp)
theorem T.front {h:Hp}{L:List Asn}{P:Asn}(i:Nat) (t:T h L) (e:L[i]? = some P):T h (P::L.eraseIdx i) :=
 let ⟨_,t1,hn⟩:=t; let ⟨F',t2,hp⟩:=t1.front e; ⟨F',t2,hp.nodup_iff.2 hn⟩
theorem Kf {F1 F2:List Nat}:(F1++F2).Nodup↔F1.Nodup/\F2.Nodup/\∀ a ∈ F1,a ∉ F2:=by
 rw [List.nodup_append]
 constructor
 ·rintro ⟨h1,h2,h3⟩
  exact ⟨h1,h2,fun a ha hb=>h3 a ha a hb rfl⟩
 ·rintro ⟨h1,h2,h3⟩
  exact ⟨h1,h2,fun a ha b hb e=>h3 a ha (e ▸ hb)⟩
/-- The first assertion turns into another; the rest is as it was. -/
theorem T.act {h:Hp}{P:Asn}{L:List Asn}(t:T h (P::L)):∃ F,P.at_ h F/\F.Nodup/\(∀ (h':Hp) (P':Asn) (F':List Nat),P'.at_ h' F'->F'.Nodup->(∀ b,b ∉ F->b < h.length->h'[b]? = h[b]?)->(∀ b ∈ F',b ∈ F\/h.length<=b)->T h' (P'::L))/\∀ h':Hp,(∀ b,b ∉ F->b < h.length->h'[b]? = h[b]?)->T h' L:=by
 obtain ⟨F,⟨F1,F2,rfl,p,q⟩,hn⟩:=t
 obtain ⟨n1,n2,n3⟩:=Kf.1 hn
 have hq:∀ h':Hp,(∀ b,b ∉ F1->b < h.length->h'[b]? = h[b]?)->TF h' L F2:=fun h' hs=>q.loc fun b hb=>hs b (fun hb1=>n3 b hb1 hb) (q.lt hb)
 refine ⟨F1,p,n1,fun h' P' F' p' hn' hs hb=>⟨F'++F2,⟨F',F2,rfl,p',hq h' hs⟩,Kf.2 ⟨hn',n2,fun a ha ha2=>?_⟩⟩,fun h' hs=>⟨F2,hq h' hs,n2⟩⟩
 rcases hb a ha with h1 | h1
 ·exact n3 a h1 ha2
 ·have:=q.lt ha2; omega
theorem T.drop {h:Hp}{P:Asn}{L:List Asn}(t:T h (P::L)):T h L:=let ⟨_,_,_,_,k⟩:=t.act; k h fun _ _ _=>rfl
/-- New blocks, a new assertion. -/
theorem T.add {h h':Hp}{P:Asn}{L:List Asn}{F:List Nat}(t:T h L) (p:P.at_ h' F) (hn:F.Nodup) (hs:∀ b,b < h.length->h'[b]? = h[b]?) (hb:∀ b ∈ F,h.length<=b):T h' (P::L):=by
 obtain ⟨F2,q,n2⟩:=t
 exact ⟨F++F2,⟨F,F2,rfl,p,q.loc fun b hb=>hs b (q.lt hb)⟩,Kf.2 ⟨hn,n2,fun a ha ha2=>by have:=hb a ha; have:=q.lt ha2; omega⟩⟩
theorem T.grow {h h':Hp}{L:List Asn}(t:T h L) (hs:∀ b,b < h.length->h'[b]? = h[b]?):T h' L:=let ⟨F,q,n⟩:=t; ⟨F,q.loc fun b hb=>hs b (q.lt hb),n⟩
theorem T.nil {h:Hp}:T h []:=⟨[],rfl,List.nodup_nil⟩
/-- Two assertions as one. -/
def XK (P Q:Asn):Asn where
 at_ h F:=∃ F1 F2,F=F1++F2/\P.at_ h F1/\Q.at_ h F2
 loc:=fun ⟨F1,F2,e,p,q⟩ k=>⟨F1,F2,e,P.loc p (fun b hb=>k b (by rw [e]; exact List.mem_append_left _ hb)),Q.loc q fun b hb=>k b (by rw [e]; exact List.mem_append_right _ hb)⟩
 own:=fun ⟨F1,F2,e,p,q⟩ hb=>by
  rw [e] at hb
  rcases List.mem_append.1 hb with hb | hb
  ·exact P.own p hb
  ·exact Q.own q hb
theorem T.join {h:Hp}{P Q:Asn}{L:List Asn}:T h (P::Q::L)↔T h (XK P Q::L):=by
 constructor
 ·rintro ⟨F,⟨F1,F2,rfl,p,⟨G1,G2,rfl,q,r⟩⟩,hn⟩
  exact ⟨_,⟨F1++G1,G2,(List.append_assoc _ _ _).symm,⟨F1,G1,rfl,p,q⟩,r⟩,hn⟩
 ·rintro ⟨F,⟨F1,F2,rfl,⟨G1,G2,rfl,p,q⟩,r⟩,hn⟩
  exact ⟨_,⟨G1,G2++F2,List.append_assoc _ _ _,p,G2,F2,rfl,q,r⟩,hn⟩
/-- An own value. -/
def own_ {α:Type}(o:Oc α) (e:AV) (x:α):Asn:=⟨fun h F=>o.at_ h e x F,o.loc,o.own⟩
/-- A cell of its own (a variable that closures hold, a struct with an address). -/
def cel (p:AV) (k:Nat) (t:TypeId) (a:AV):Asn where
 at_ h F:=∃ b,p = .pt b 0 0/\F=[b]/\h[b]? = some (some ⟨k,t,[a],false⟩)
 loc:=fun ⟨b,e1,e2,e3⟩ k=>⟨b,e1,e2,(k b (by rw [e2]; simp)).trans e3⟩
 own:=fun ⟨b,e1,e2,e3⟩ hb=>by
  rw [e2] at hb
  simp at hb
  subst hb
  exact ⟨_,e3,rfl⟩
/-- A value as it is. -/
def ocV {α:Type}(c:Cd α):Oc α where
 cd:=c
 at_ _ e x F:=e=c.enc x/\F=[]
 loc h _:=h
 own h hb:=by rw [h.2] at hb; cases hb
 vr:=fun {w Z R h e x F u} _ ha hv=>by
  rw [ha.1] at hv
  exact (Kv (c.nr x) hv).mono (fun _ _=>rfl) (fun _ h=> .inl h) (fun _ _ h=>h)
section
variable {α:Type}{p p':AV->α->List Nat->Prop}
def All3 (p:AV->α->List Nat->Prop):List AV->List α->List Nat->Prop
 | [],[],F=>F=[]
 | e::es,x::xs,F=>∃ F1 F2,F=F1++F2/\p e x F1/\All3 p es xs F2
 | _,_,_=>False
def All3h (p:AV->α->List Nat->Prop):Nat->AV->List AV->List α->List Nat->Prop
 | 0,e',e::es,_::xs,F=>e=e'/\All3 p es xs F
 | j + 1,e',e::es,x::xs,F=>∃ F1 F2,F=F1++F2/\p e x F1/\All3h p j e' es xs F2
 | _,_,_,_,_=>False
theorem All3.len:∀ {es:List AV}{xs:List α}{F:List Nat},All3 p es xs F->es.length=xs.length
 | [],[],_,_=>rfl
 | _::_,_::_,_,⟨_,_,_,_,h⟩=>by simp [All3.len h]
 | [],_::_,_,h=>h.elim
 | _::_,[],_,h=>h.elim
theorem All3.mono:∀ {es:List AV}{xs:List α}{F:List Nat},All3 p es xs F->(∀ e x F',(∀ b ∈ F',b ∈ F)->p e x F'->p' e x F')->All3 p' es xs F
 | [],[],_,h,_=>h
 | _::_,_::_,_,⟨F1,F2,e,h1,h2⟩,k=>⟨F1,F2,e,k _ _ F1 (fun b hb=>by rw [e]; exact List.mem_append_left _ hb) h1,h2.mono fun e' x F' hF=>k e' x F' fun b hb=>by rw [e]; exact List.mem_append_right _ (hF b hb)⟩
 | [],_::_,_,h,_=>h.elim
 | _::_,[],_,h,_=>h.elim
theorem All3h.mono:∀ {j:Nat}{e':AV}{es:List AV}{xs:List α}{F:List Nat},All3h p j e' es xs F->(∀ e x F',(∀ b ∈ F',b ∈ F)->p e x F'->p' e x F')->All3h p' j e' es xs F
 | 0,_,_::_,_::_,_,⟨h1,h2⟩,k=>⟨h1,h2.mono k⟩
 | _ + 1,_,_::_,_::_,_,⟨F1,F2,e,h1,h2⟩,k=>⟨F1,F2,e,k _ _ F1 (fun b hb=>by rw [e]; exact List.mem_append_left _ hb) h1,h2.mono fun e' x F' hF=>k e' x F' fun b hb=>by rw [e]; exact List.mem_append_right _ (hF b hb)⟩
 | 0,_,[],_,_,h,_=>by unfold All3h at h; exact h.elim
 | 0,_,_::_,[],_,h,_=>by unfold All3h at h; exact h.elim
 | _ + 1,_,[],_,_,h,_=>by unfold All3h at h; exact h.elim
 | _ + 1,_,_::_,[],_,h,_=>by unfold All3h at h; exact h.elim
theorem All3.get:∀ {es:List AV}{xs:List α}{F:List Nat}{i:Nat}{x:α},All3 p es xs F->xs[i]? = some x->∃ e Fi,es[i]? = some e/\p e x Fi/\∀ b ∈ Fi,b ∈ F
 | _::_,_::_,_,0,_,⟨F1,F2,e,h1,h2⟩,hx=>by
  simp at hx; subst hx
  exact ⟨_,F1,rfl,h1,fun b hb=>by rw [e]; exact List.mem_append_left _ hb⟩
 | _::_,_::_,_,i + 1,_,⟨F1,F2,e,h1,h2⟩,hx=>by
  obtain ⟨e',Fi,k1,k2,k3⟩:=h2.get (i:=i) (by simpa using hx)
  exact ⟨e',Fi,by simpa using k1,k2,fun b hb=>by rw [e]; exact List.mem_append_right _ (k3 b hb)⟩
 | [],[],_,_,_,_,hx=>by simp at hx
 | [],_::_,_,_,_,h,_=>h.elim
 | _::_,[],_,_,_,h,_=>h.elim
theorem All3.hole:∀ {es:List AV}{xs:List α}{F:List Nat}{i:Nat}{x:α},All3 p es xs F->xs[i]? = some x->∃ e' Fi F',es[i]? = some e'/\p e' x Fi/\All3h p i e' es xs F'/\(Fi++F').Perm F
 | _::_,_::_,_,0,_,⟨F1,F2,e,h1,h2⟩,hx=>by
  simp at hx; subst hx
  exact ⟨_,F1,F2,rfl,h1,⟨rfl,h2⟩,e ▸ List.Perm.refl _⟩
 | _::_,_::_,_,i + 1,_,⟨F1,F2,e,h1,h2⟩,hx=>by
  obtain ⟨e',Fi,F',k1,k2,k3,k4⟩:=h2.hole (i:=i) (by simpa using hx)
  refine ⟨e',Fi,F1++F',by simpa using k1,k2,⟨F1,F',rfl,h1,k3⟩,?_⟩
  rw [e]
  have:(Fi++(F1++F')).Perm (F1++(Fi++F')):=by
   rw [<-List.append_assoc,<-List.append_assoc]
   exact List.Perm.append_right _ List.perm_append_comm
  exact this.trans (List.Perm.append_left _ k4)
 | [],[],_,_,_,_,hx=>by simp at hx
 | [],_::_,_,_,_,h,_=>h.elim
 | _::_,[],_,_,_,h,_=>h.elim
theorem All3h.fill {e'':AV}{y:α}{Fi:List Nat}(hp:p e'' y Fi):∀ {j:Nat}{e':AV}{es:List AV}{xs:List α}{F':List Nat},All3h p j e' es xs F'->∃ F,All3 p (es.set j e'') (xs.set j y) F/\F.Perm (Fi++F')
 | 0,_,_::_,_::_,F',⟨_,h2⟩=>⟨Fi++F',⟨Fi,F',rfl,hp,h2⟩,List.Perm.refl _⟩
 | _ + 1,_,_::_,_::_,_,⟨F1,F2,e,h1,h2⟩=>by
  obtain ⟨F,k1,k2⟩:=All3h.fill hp h2
  refine ⟨F1++F,⟨F1,F,rfl,h1,k1⟩,?_⟩
  rw [e]
  refine (List.Perm.append_left F1 k2).trans ?_
  rw [<-List.append_assoc,<-List.append_assoc]
  exact List.Perm.append_right _ List.perm_append_comm
 | 0,_,[],_,_,h=>by unfold All3h at h; exact h.elim
 | 0,_,_::_,[],_,h=>by unfold All3h at h; exact h.elim
 | _ + 1,_,[],_,_,h=>by unfold All3h at h; exact h.elim
 | _ + 1,_,_::_,[],_,h=>by unfold All3h at h; exact h.elim
theorem All3h.at_:∀ {j:Nat}{e':AV}{es:List AV}{xs:List α}{F':List Nat},All3h p j e' es xs F'->es[j]? = some e'/\es.length=xs.length/\j < xs.length
 | 0,_,_::_,_::_,_,⟨h1,h2⟩=>⟨by simp [h1],by simp [h2.len],by simp⟩
 | _ + 1,_,_::_,_::_,_,⟨_,_,_,_,h2⟩=>by
  obtain ⟨k1,k2,k3⟩:=h2.at_
  exact ⟨by simpa using k1,by simp [k2],by simp; omega⟩
 | 0,_,[],_,_,h=>by unfold All3h at h; exact h.elim
 | 0,_,_::_,[],_,h=>by unfold All3h at h; exact h.elim
 | _ + 1,_,[],_,_,h=>by unfold All3h at h; exact h.elim
 | _ + 1,_,_::_,[],_,h=>by unfold All3h at h; exact h.elim
theorem All3.append:∀ {es:List AV}{xs:List α}{F:List Nat}{es':List AV}{xs':List α}{F':List Nat},All3 p es xs F->All3 p es' xs' F'->All3 p (es++es') (xs++xs') (F++F')
 | [],[],_,_,_,_,h,h'=>by rw [show _=[] from h]; exact h'
 | _::_,_::_,_,_,_,_,⟨F1,F2,e,h1,h2⟩,h'=>⟨F1,_,by rw [e,List.append_assoc],h1,h2.append h'⟩
 | [],_::_,_,_,_,_,h,_=>h.elim
 | _::_,[],_,_,_,_,h,_=>h.elim
theorem All3.mem:∀ {es:List AV}{xs:List α}{F:List Nat}{b:Nat},All3 p es xs F->b ∈ F->∃ e x F',p e x F'/\b ∈ F'
 | [],[],_,_,h,hb=>by rw [show _=[] from h] at hb; cases hb
 | _::_,_::_,_,_,⟨F1,F2,e,h1,h2⟩,hb=>by
  rw [e] at hb
  rcases List.mem_append.1 hb with hb | hb
  ·exact ⟨_,_,F1,h1,hb⟩
  ·exact h2.mem hb
 | [],_::_,_,_,h,_=>h.elim
 | _::_,[],_,_,h,_=>h.elim
theorem All3h.mem:∀ {j:Nat}{e':AV}{es:List AV}{xs:List α}{F:List Nat}{b:Nat},All3h p j e' es xs F->b ∈ F->∃ e x F',p e x F'/\b ∈ F'
 | 0,_,_::_,_::_,_,_,⟨_,h2⟩,hb=>h2.mem hb
 | _ + 1,_,_::_,_::_,_,_,⟨F1,F2,e,h1,h2⟩,hb=>by
  rw [e] at hb
  rcases List.mem_append.1 hb with hb | hb
  ·exact ⟨_,_,F1,h1,hb⟩
  ·exact h2.mem hb
 | 0,_,[],_,_,_,h,_=>by unfold All3h at h; exact h.elim
 | 0,_,_::_,[],_,_,h,_=>by unfold All3h at h; exact h.elim
 | _ + 1,_,[],_,_,_,h,_=>by unfold All3h at h; exact h.elim
 | _ + 1,_,_::_,[],_,_,h,_=>by unfold All3h at h; exact h.elim
end
/-- Leaves. -/
theorem Lv {α:Type}{c:Cd α}{h:Hp}:∀ {xs:List α},All3 ((ocV c).at_ h) (xs.map c.enc) xs []
 | []=>rfl
 | _x::_=>⟨[],[],rfl,⟨rfl,rfl⟩,Lv⟩
theorem All3.leaf_inv {α:Type}{c:Cd α}{h:Hp}:∀ {es:List AV}{xs:List α}{F:List Nat},All3 ((ocV c).at_ h) es xs F->es=xs.map c.enc/\F=[]
 | [],[],_,e=>⟨rfl,e⟩
 | _::_,_::_,_,⟨F1,F2,e,h1,h2⟩=>by
  obtain ⟨k1,k2⟩:=h2.leaf_inv
  exact ⟨by rw [k1,h1.1]; rfl,by rw [e,h1.2,k2]; rfl⟩
 | [],_::_,_,h=>h.elim
 | _::_,[],_,h=>h.elim
/-- An own slice of own values. -/
def ocL {α:Type}(k:Nat) (t:TypeId) (o:Oc α):Oc (List α) where
 cd:=cdL k o.cd
 at_ h e xs F:=(e = .e0/\xs=[]/\F=[])\/∃ b es F',e = .rf b 0 xs.length xs.length/\h[b]? = some (some ⟨k,t,es,false⟩)/\F=b::F'/\All3 (o.at_ h) es xs F'
 loc:=fun {h h' e x F} ha k=>by
  rcases ha with h1 | ⟨b,es,F',h1,h2,h3,h4⟩
  ·exact .inl h1
  ·subst h3
   exact .inr ⟨b,es,F',h1,(k b (by simp)).trans h2,rfl,h4.mono fun e x G hG h5=>o.loc h5 fun c hc=>k c (List.mem_cons_of_mem _ (hG c hc))⟩
 own:=fun {h e x F b} ha hb=>by
  rcases ha with ⟨_,_,h1⟩ | ⟨b',es,F',h1,h2,h3,h4⟩
  ·rw [h1] at hb; cases hb
  ·subst h3
   rcases List.mem_cons.1 hb with rfl | hb
   ·exact ⟨_,h2,rfl⟩
   ·obtain ⟨e,x,G,k1,k2⟩:=h4.mem hb
    exact o.own k1 k2
 vr:=fun {w Z R h e xs F u} hh ha hv=>by
  rcases ha with ⟨rfl,rfl,rfl⟩ | ⟨b,es,F',rfl,h2,rfl,h4⟩
  ·cases hv
   exact .sl (us:=[]) rfl rfl (Nat.le_refl _) (by unfold maxLen; omega) (fun h=>by omega) (fun i x u hx=>by simp at hx)
  ·obtain ⟨r,arr,us,g1,g2,g3,g4,g5,g6,g7,g8,g9,g10⟩:=hh.blk b _ h2
   have hl:=h4.len
   cases hv with
   | rf hr' q0 q1 q2 q3 =>
    rename_i c r'
    rw [g1] at hr'
    injection hr' with hr'
    subst hr'
    have hul:us.length=es.length:=g9.len
    refine .sl (us:=us) (by simp) (by simp; omega) (by omega) (by omega) (fun _=>⟨⟨r.c,0 * r.k,none⟩,rfl,rfl,.inr ⟨b,by simp,r,g1,rfl⟩,fun i u hu=>?_⟩) (fun i x u hx hu=>?_)
    ·obtain ⟨k1,k2,k3⟩:=g10 i u hu
     refine ⟨k1,k2,fun j q hq=>?_⟩
     have:=k3 j q hq
     rw [Nat.zero_mul,Nat.zero_add]
     simp only [World.cell?,g3]
     simpa using this
    ·rw [List.getElem?_map] at hx
     obtain ⟨y,hy,rfl⟩:=Option.map_eq_some_iff.1 hx
     obtain ⟨e,Fi,k1,k2,k3⟩:=h4.get hy
     have hvi:=g9.at_ i e u k1 hu
     exact (o.vr hh k2 hvi).mono (fun _ _=>rfl) (fun c hc=>hc.imp_right fun ⟨b',hb',hr⟩=>⟨b',List.mem_cons_of_mem _ (k3 b' hb'),hr⟩) (fun _ _ h=>h)
/-- What may be laid in a cell of k cells. -/
def Fit {α:Type}(o:Oc α) (k:Nat):Prop:=∀ (h:Hp) (e:AV) (x:α) (F:List Nat),o.at_ h e x F->e.nc=k/\e.notTp=true/\elm e.cel=e
theorem PJ {α:Type}{c:Cd α}{k:Nat}(h:∀ x,(c.enc x).nc=k/\(c.enc x).notTp=true/\elm (c.enc x).cel=c.enc x):Fit (ocV c) k:=fun _ e x _ hx=>by
 rw [hx.1]; exact h x
theorem TW {α:Type}{o:Oc α}{k:Nat}{t:TypeId}:Fit (ocL k t o) 1:=fun h e x F hx=>by
 rcases hx with ⟨rfl,_,_⟩ | ⟨b,es,F',rfl,_⟩
 ·exact ⟨rfl,rfl,rfl⟩
 ·exact ⟨rfl,rfl,rfl⟩
theorem All3.fit {α:Type}{o:Oc α}{k:Nat}(hf:Fit o k){h:Hp}:∀ {es:List AV}{xs:List α}{F:List Nat},All3 (o.at_ h) es xs F->∀ e ∈ es,e.nc=k/\e.notTp=true/\elm e.cel=e
 | [],[],_,_,e,he=>by cases he
 | _::_,_::_,_,⟨F1,F2,_,h1,h2⟩,e,he=>by
  rcases List.mem_cons.1 he with rfl | he
  ·exact hf _ _ _ _ h1
  ·exact h2.fit hf e he
 | [],_::_,_,h,_,_=>h.elim
 | _::_,[],_,h,_,_=>h.elim
/-- .. of which one element is held elsewhere. -/
def Ob {α:Type}(k:Nat) (t:TypeId) (o:Oc α) (e:AV) (xs:List α) (j:Nat) (e':AV) (x0:α):Asn where
 at_ h F:=∃ b es F',e = .rf b 0 xs.length xs.length/\h[b]? = some (some ⟨k,t,es,false⟩)/\F=b::F'/\All3h (o.at_ h) j e' es xs F'/\(e'.nc=k/\elm e'.cel=e')/\xs[j]? = some x0
 loc:=fun {h h' F} ⟨b,es,F',h1,h2,h3,h4,h5⟩ k=>by
  subst h3
  exact ⟨b,es,F',h1,(k b (by simp)).trans h2,rfl,h4.mono fun e x G hG h5=>o.loc h5 fun c hc=>k c (List.mem_cons_of_mem _ (hG c hc)),h5⟩
 own:=fun {h F b} ⟨b',es,F',h1,h2,h3,h4,_⟩ hb=>by
  subst h3
  rcases List.mem_cons.1 hb with rfl | hb
  ·exact ⟨_,h2,rfl⟩
  ·obtain ⟨e,x,G,k1,k2⟩:=h4.mem hb
   exact o.own k1 k2
/-- The address of an element. -/
def eAt:AV->Nat->AV
 | .rf b lo _ _,i=> .pt b (lo + i) 0
 | x,_=>x
def G6:AV->Nat->AV
 | .pt b i o,n=> .pt b i (o + n)
 | x,_=>x
section
variable {α:Type}{o:Oc α}{k j:Nat}{t:TypeId}{e e':AV}{xs:List α}{x y:α}{h:Hp}{L:List Asn}{c:Cd α}
theorem T.e0 {k:Nat}{ty:TypeId}(t:T h L):T h (own_ (ocL k ty o) .e0 []::L):=t.add (F:=[]) (.inl ⟨rfl,rfl,rfl⟩) List.nodup_nil (fun _ _=>rfl) (fun _ h=>by cases h)
/-- An element is held apart. -/
theorem T.focus (hf:Fit o k) (ht:T h (own_ (ocL k t o) e xs::L)) (hx:xs[j]? = some x):∃ e',T h (own_ o e' x::Ob k t o e xs j e' x::L):=by
 obtain ⟨F,⟨F1,F2,rfl,p,q⟩,hn⟩:=ht
 rcases p with ⟨_,rfl,_⟩ | ⟨b,es,F',h1,h2,rfl,h4⟩
 ·simp at hx
 ·obtain ⟨e',Fi,F'',k1,k2,k3,k4⟩:=h4.hole hx
  refine ⟨e',Fi++((b::F'')++F2),⟨Fi,_,rfl,k2,_,F2,rfl,⟨b,es,F'',h1,h2,rfl,k3,⟨(hf _ _ _ _ k2).1,(hf _ _ _ _ k2).2.2⟩,hx⟩,q⟩,?_⟩
  refine List.Perm.nodup_iff (?_:List.Perm _ ((b::F')++F2)) |>.2 hn
  rw [<-List.append_assoc]
  refine List.Perm.append_right _ ?_
  exact List.perm_middle.trans (List.Perm.cons _ k4)
theorem T.merge (ht:T h (own_ o e' y::Ob k t o e xs j e' x::L)):T h (own_ (ocL k t o) e (xs.set j y)::L):=by
 obtain ⟨F,⟨F1,F2,rfl,p,⟨G1,G2,rfl,⟨b,es,F',h1,h2,rfl,h4,_,_⟩,r⟩⟩,hn⟩:=ht
 obtain ⟨F'',k1,k2⟩:=h4.fill p
 obtain ⟨a1,a2,a3⟩:=h4.at_
 have hset:es.set j e'=es:=by
  apply List.ext_getElem?
  intro i
  rw [List.getElem?_set]
  split
  ·next hij=>subst hij; rw [if_pos (by omega)]; exact a1.symm
  ·rfl
 rw [hset] at k1
 refine ⟨(b::F'')++G2,⟨b::F'',G2,rfl,.inr ⟨b,es,F'',by rw [h1]; simp,h2,rfl,k1⟩,r⟩,?_⟩
 refine List.Perm.nodup_iff (?_:List.Perm _ (F1++(b::F'++G2))) |>.2 hn
 rw [<-List.append_assoc]
 refine List.Perm.append_right _ ?_
 exact (List.Perm.cons b k2).trans List.perm_middle.symm
end
section
variable {P:Program}{α:Type}{o:Oc α}{k j m off:Nat}{t ty ty2 el:TypeId}{e e' y:AV}{xs ys vs:List α}{x v v':α}{h:Hp}{L:List Asn}{c:Cd α}{i:Int}{ki:IntKind}{g:Bool}
theorem US (ht:T h (own_ (ocL k t o) e xs::L)) (hu:P.underlying ty=some (.slice el)):K2 P ty e=some (eI xs.length):=by
 obtain ⟨F,p,_⟩:=ht.act
 rcases p with ⟨rfl,rfl,_⟩ | ⟨b,es,F',rfl,_⟩
 ·simp [K2,hu,eI]
 ·simp [K2,hu,eI]
theorem VE (ht:T h (own_ (ocL k t o) e xs::L)) (hu:P.underlying ty=some (.slice el)) (hs:BO P el=some k) (hv:idx xs i=some v):CV P h ty e (.v (.int ki i))=some (eAt e i.toNat):=by
 obtain ⟨F,p,_⟩:=ht.act
 obtain ⟨h0,h1⟩:=AW hv
 rcases p with ⟨rfl,rfl,_⟩ | ⟨b,es,F',rfl,h2,_⟩
 ·simp at h1
 ·rw [VF hu hs h2 rfl h0 (List.getElem?_eq_some_iff.1 h1).1]
  simp [eAt]
theorem Kb {n:Nat}(ht:T h (own_ (ocL k t (ocV c)) e xs::L)) (hv:xs[n]? = some v) (hm:BO P ty=some m) (hg:Og P ty=some g) (he:S8 (c.enc v) off m g=some y):GJ P h ty (G6 (eAt e n) off)=some y:=by
 obtain ⟨F,p,_⟩:=ht.act
 rcases p with ⟨rfl,rfl,_⟩ | ⟨b,es,F',rfl,h2,_,h4⟩
 ·simp at hv
 ·obtain ⟨rfl,_⟩:=h4.leaf_inv
  simp [GJ,hm,hg,eAt,G6,h2,hv,he]
theorem Ue (e:AV) (n:Nat):G6 (eAt e n) 0=eAt e n:=by cases e <;> rfl
theorem Kc {n:Nat}(ht:T h (own_ (ocL k t (ocV c)) e xs::L)) (hv:xs[n]? = some v) (hm:BO P ty=some m) (hg:Og P ty=some g) (he:S8 (c.enc v) 0 m g=some y):GJ P h ty (eAt e n)=some y:=by
 have:=Kb (off:=0) ht hv hm hg he
 rwa [Ue] at this
theorem WN {n:Nat}(ht:T h (own_ (ocL k t (ocV c)) e xs::L)) (hv:xs[n]? = some v) (hs:BO P ty=some y.nc) (hn:y.notTp=true) (he:Uh (c.enc v) off y=some (c.enc v')):∃ h',F6 P h ty (G6 (eAt e n) off) y=some h'/\T h' (own_ (ocL k t (ocV c)) e (xs.set n v')::L):=by
 obtain ⟨F,p,hn',hk,_⟩:=ht.act
 rcases p with ⟨rfl,rfl,_⟩ | ⟨b,es,F',rfl,h2,rfl,h4⟩
 ·simp at hv
 ·obtain ⟨rfl,rfl⟩:=h4.leaf_inv
  have hb:=Il h2
  refine ⟨h.set b (some ⟨k,t,(xs.set n v').map c.enc,false⟩),by simp [F6,eAt,G6,h2,hv,hs,hn,he],hk _ _ [b] (.inr ⟨b,(xs.set n v').map c.enc,[],by simp,by simp [hb],rfl,Lv⟩) (by simp) (fun b' hb' _=>?_) (fun b' hb'=> .inl hb')⟩
  rw [List.getElem?_set,if_neg (by intro e; subst e; simp at hb')]
theorem Ic {n:Nat}(ht:T h (own_ (ocL k t (ocV c)) e xs::L)) (hv:xs[n]? = some v) (hs:BO P ty=some y.nc) (hn:y.notTp=true) (he:Uh (c.enc v) 0 y=some (c.enc v')):∃ h',F6 P h ty (eAt e n) y=some h'/\T h' (own_ (ocL k t (ocV c)) e (xs.set n v')::L):=by
 have:=WN (off:=0) ht hv hs hn he
 rwa [Ue] at this
/-- An element that is an own slice itself. -/
theorem IA {n:Nat}{k':Nat}{t':TypeId}{β:Type}{o:Oc β}{xs:List (List β)}{x:List β}(ht:T h (own_ (ocL 1 t (ocL k' t' o)) e xs::L)) (hv:xs[n]? = some x) (hm:BO P ty=some 1) (hg:Og P ty=some false):∃ e',GJ P h ty (eAt e n)=some e'/\T h (own_ (ocL k' t' o) e' x::Ob 1 t (ocL k' t' o) e xs n e' x::L):=by
 obtain ⟨e',ht'⟩:=ht.focus TW hv
 refine ⟨e',?_,ht'⟩
 obtain ⟨F,p,_⟩:=ht'.act
 have hc:e'.cel=[e']:=by
  rcases p with ⟨rfl,_⟩ | ⟨b,es,F',rfl,_⟩ <;> rfl
 obtain ⟨F2,q,_⟩:=(T.drop ht').act
 obtain ⟨b,es,F',rfl,h2,_,h4,_⟩:=q
 obtain ⟨a1,_,_⟩:=h4.at_
 simp [GJ,hm,hg,eAt,h2,a1,S8,hc]
/-- Loose elements. -/
def els {α:Type}(o:Oc α) (es:List AV) (xs:List α):Asn where
 at_ h F:=All3 (o.at_ h) es xs F
 loc:=fun h k=>h.mono fun _e _x _G hG h5=>o.loc h5 fun c hc=>k c (hG c hc)
 own:=fun h hb=>let ⟨_,_,_,q1,q2⟩:=h.mem hb; o.own q1 q2
theorem QP (ht:T h L):T h (els o [] []::L):=ht.add (F:=[]) rfl List.nodup_nil (fun _ _=>rfl) (fun _ h=>by cases h)
theorem PD {es:List AV}(ht:T h (own_ o e x::els o es xs::L)):T h (els o (e::es) (x::xs)::L):=by
 obtain ⟨F,p,hn',hk,_⟩:=(T.join.1 ht).act
 obtain ⟨F1,F2,rfl,p,q⟩:=p
 exact hk h _ (F1++F2) ⟨F1,F2,rfl,p,q⟩ hn' (fun _ _ _=>rfl) (fun b hb=> .inl hb)
theorem Fh (ht:T h L):T h (els (ocV c) (xs.map c.enc) xs::L):=ht.add (F:=[]) Lv List.nodup_nil (fun _ _=>rfl) (fun _ h=>by cases h)
/-- The elements of an own slice. -/
theorem UI (ht:T h (own_ (ocL k t o) y ys::L)) (hu:P.underlying ty2=some (.slice el)):∃ ey,T h (els o ey ys::L)/\I9 h k y=some ey/\KC P ty2 y=true:=by
 obtain ⟨F,p,hn,hk,_⟩:=ht.act
 rcases p with ⟨rfl,rfl,rfl⟩ | ⟨b,es,F',rfl,h2,rfl,h4⟩
 ·exact ⟨[],hk h _ [] rfl List.nodup_nil (fun _ _ _=>rfl) (fun _ h=>by cases h),by simp [I9],by simp [KC,hu]⟩
 ·refine ⟨es,hk h _ F' h4 (List.nodup_cons.1 hn).2 (fun _ _ _=>rfl) (fun b hb=> .inl (List.mem_cons_of_mem _ hb)),?_,by simp [KC,hu]⟩
  have hl:=h4.len
  simp [I9,h2,<-hl]
/-- A growing own slice takes elements. -/
theorem R5 {bytes:Nat}{i:TypeInfo}{z:AV}{ey:List AV}(ht:T h (own_ (ocL k t o) e xs::els o ey ys::L)) (hsy:KC P ty2 y=true) (hel:I9 h k y=some ey) (hte:HA P ty=some t) (hi:P.info? t=some i) (hz:FU P t=some z) (hk:i.size=k) (h0:Nat.blt 0 k=true) (hzn:z.nc=k) (hzt:z.notTp=true) (hib:i.bytes=bytes) (hc:Bb bytes (xs.length + ys.length)=true) :
  ∃ e' h',C3 P h ty ty2 e y=some (e',h')/\T h' (own_ (ocL k t o) e' (xs++ys)::L):=by
 subst hib hk
 obtain ⟨F,p,hn',hk,hk0⟩:=(T.join.1 ht).act
 obtain ⟨F1,Fy,rfl,px,hy4⟩:=p
 obtain ⟨n1,n2,n3⟩:=Kf.1 hn'
 obtain ⟨c1,c2⟩:=Np hc
 have h0':0 < i.size:=Nat.le_of_ble_eq_true h0
 have hly:ey.length=ys.length:=All3.len hy4
 have hlt:∀ c,c ∈ F1++Fy->c < h.length:=fun c hc=>by
  rcases List.mem_append.1 hc with hc | hc
  ·obtain ⟨B,q,_⟩:=(ocL i.size t o).own px hc
   exact Il q
  ·obtain ⟨B,q,_⟩:=(els o ey ys).own hy4 hc
   exact Il q
 cases hey:ey with
 | nil =>
  subst hey
  have:ys=[]:=by cases ys with | nil=>rfl | cons a b=>simp at hly
  subst this
  refine ⟨e,h,?_,?_⟩
  ·rcases px with ⟨rfl,_⟩ | ⟨b,es,F',rfl,_⟩ <;> simp [C3,hsy,hte,hi,hz,hel]
  ·rw [List.append_nil]
   exact hk h _ F1 px n1 (fun _ _ _=>rfl) (fun b hb=> .inl (List.mem_append_left _ hb))
 | cons a r =>
  have he:ey.isEmpty=false:=by rw [hey]; rfl
  have hne:0 < ys.length:=by rw [<-hly,hey]; simp
  rcases px with ⟨rfl,rfl,rfl⟩ | ⟨bx,ex,Fx,rfl,hx2,rfl,hx4⟩
  ·have hc1:ey.length * i.bytes<=140737488355328/\ey.length<=140737488355328:=by
    rw [hly]; simp at c1 c2; exact ⟨c1,c2⟩
   refine ⟨.rf h.length 0 ys.length ys.length,h++[some ⟨i.size,t,ey,false⟩],?_,hk _ _ (h.length::Fy) (.inr ⟨h.length,ey,Fy,rfl,by simp,rfl,hy4.mono fun e x G hG h5=>o.loc h5 fun c hc=>List.getElem?_append_left (hlt c (List.mem_append_right _ (hG c hc)))⟩) (List.nodup_cons.2 ⟨fun hb=>by have:=hlt _ (List.mem_append_right _ hb); omega,n2⟩) (fun c _ hc=>List.getElem?_append_left hc) (fun c hc=>?_)⟩
   ·simp only [C3,hsy,hte,hi,hz,hel,he]
    rw [if_neg (by simp),if_neg (by simp),if_pos ⟨h0',hzn,hzt⟩,if_pos hc1,hly]
   ·rcases List.mem_cons.1 hc with rfl | hc
    ·exact .inr (Nat.le_refl _)
    ·exact .inl (List.mem_append_right _ hc)
  ·have hlx:ex.length=xs.length:=hx4.len
   have hbx:=Il hx2
   have hbx':bx ∉ Fx:=(List.nodup_cons.1 n1).1
   have hby':bx ∉ Fy:=n3 bx (by simp)
   have same:∀ c,c≠bx->c < h.length->((h.set bx none)++[some ⟨i.size,t,ex++ey,false⟩])[c]? = h[c]?:=fun c hc hlt=>by
    rw [List.getElem?_append_left (by simpa using hlt),List.getElem?_set,if_neg (Ne.symm hc)]
   refine ⟨.rf h.length 0 (xs++ys).length (xs++ys).length,(h.set bx none)++[some ⟨i.size,t,ex++ey,false⟩],?_,hk _ _ (h.length::(Fx++Fy)) (.inr ⟨h.length,ex++ey,Fx++Fy,rfl,?_,rfl,All3.append (hx4.mono fun e x G hG h5=>o.loc h5 fun c hc=>same c (fun e=>hbx' (e ▸ hG c hc)) (hlt c (List.mem_append_left _ (List.mem_cons_of_mem _ (hG c hc))))) (hy4.mono fun e x G hG h5=>o.loc h5 fun c hc=>same c (fun e=>hby' (e ▸ hG c hc)) (hlt c (List.mem_append_right _ (hG c hc))))⟩) (List.nodup_cons.2 ⟨fun hb=>?_,?_⟩) (fun c hc hlt=>same c (fun e=>hc (by subst e; simp)) hlt) (fun c hc=>?_)⟩
   ·simp only [C3,hsy,hte,hi,hz,hel,he,hx2]
    rw [if_neg (by simp),if_neg (by simp),if_pos ⟨h0',hzn,hzt⟩,if_neg (by simp),if_neg (by omega),if_pos ⟨trivial,hlx.symm,by rw [hly]; exact c1,by rw [hly]; exact c2⟩]
    simp [hly]
   ·rw [List.getElem?_append_right (by simp)]; simp
   ·have:h.length < h.length:=hlt _ (by
     rcases List.mem_append.1 hb with hb | hb
     ·exact List.mem_append_left _ (List.mem_cons_of_mem _ hb)
     ·exact List.mem_append_right _ hb)
    omega
   ·exact Kf.2 ⟨(List.nodup_cons.1 n1).2,n2,fun a ha ha2=>n3 a (List.mem_cons_of_mem _ ha) ha2⟩
   ·rcases List.mem_cons.1 hc with rfl | hc
    ·exact .inr (Nat.le_refl _)
    ·rcases List.mem_append.1 hc with h1 | h1
     ·exact .inl (List.mem_append_left _ (List.mem_cons_of_mem _ h1))
     ·exact .inl (List.mem_append_right _ h1)
theorem UD {bytes:Nat}{i:TypeInfo}{z:AV}(ht:T h (own_ (ocL k t o) e xs::own_ (ocL k t o) y ys::L)) (hu:P.underlying ty2=some (.slice el)) (hte:HA P ty=some t) (hi:P.info? t=some i) (hz:FU P t=some z) (hk:i.size=k) (h0:Nat.blt 0 k=true) (hzn:z.nc=k) (hzt:z.notTp=true) (hib:i.bytes=bytes) (hc:Bb bytes (xs.length + ys.length)=true) :
  ∃ e' h',C3 P h ty ty2 e y=some (e',h')/\T h' (own_ (ocL k t o) e' (xs++ys)::L):=by
 obtain ⟨ey,h1,h2,h3⟩:=UI (ht.front 1 rfl) hu
 exact R5 (h1.front 1 rfl) h3 h2 hte hi hz hk h0 hzn hzt hib hc
theorem TE {bytes:Nat}{i:TypeInfo}{z:AV}(ht:T h (own_ (ocL k t (ocV c)) e xs::L)) (hsy:KC P ty2 y=true) (hel:I9 h k y=some (ys.map c.enc)) (hte:HA P ty=some t) (hi:P.info? t=some i) (hz:FU P t=some z) (hk:i.size=k) (h0:Nat.blt 0 k=true) (hzn:z.nc=k) (hzt:z.notTp=true) (hib:i.bytes=bytes) (hc:Bb bytes (xs.length + ys.length)=true) :
  ∃ e' h',C3 P h ty ty2 e y=some (e',h')/\T h' (own_ (ocL k t (ocV c)) e' (xs++ys)::L) :=
 R5 ((Fh ht).front 1 rfl) hsy hel hte hi hz hk h0 hzn hzt hib hc
/-- A block of elements. -/
theorem PQ {es:List AV}{n:Nat}(ht:T h (els o es xs::L)) (hn:xs.length=n):T (h++[some ⟨k,t,es,false⟩]) (own_ (ocL k t o) (.rf h.length 0 n n) xs::L):=by
 obtain ⟨F,p,hn',hk,_⟩:=ht.act
 have hlt:∀ c,c ∈ F->c < h.length:=fun c hc=>by
  obtain ⟨B,q,_⟩:=(els o es xs).own p hc
  exact Il q
 refine hk _ _ (h.length::F) (.inr ⟨h.length,es,F,by rw [hn],by simp,rfl,All3.mono p fun e x G hG h5=>o.loc h5 fun c hc=>List.getElem?_append_left (hlt c (hG c hc))⟩) (List.nodup_cons.2 ⟨fun hb=>by have:=hlt _ hb; omega,hn'⟩) (fun c _ hc=>List.getElem?_append_left hc) (fun c hc=>?_)
 rcases List.mem_cons.1 hc with rfl | hc
 ·exact .inr (Nat.le_refl _)
 ·exact .inl hc
def J5 (i:Nat):List AV->List (Nat×AV)
 | []=>[]
 | e::r=>(i,e)::J5 (i + 1) r
theorem Pr {z:AV}(hz:z.nc=k):∀ {es pre:List AV},(∀ e ∈ es,e.nc=k/\e.notTp=true/\elm e.cel=e)->PH (pre++List.replicate es.length z) k (J5 pre.length es)=some (pre++es)
 | [],pre,_=>by simp [J5,PH]
 | e::r,pre,hf=>by
  obtain ⟨h1,h2,h3⟩:=hf e (by simp)
  have:=Pr hz (es:=r) (pre:=pre++[e]) (fun e' he=>hf e' (by simp [he]))
  simp only [J5,PH,List.length_cons,List.replicate_succ]
  rw [if_pos ⟨by simp,h1,h2⟩,h3]
  have e1:(pre++z::List.replicate r.length z).set pre.length e=(pre++[e])++List.replicate r.length z:=by simp
  rw [e1]
  simpa using this
theorem UT {i:TypeInfo}{z:AV}{es:List AV}{n:Nat}(hf:Fit o k) (ht:T h (els o es xs::L)) (hn:es.length=n) (hte:HA P ty=some t) (hi:P.info? t=some i) (hz:FU P t=some z) (hk:i.size=k) (h0:Nat.blt 0 k=true) (hb:Nat.ble (n * k) 65536=true) (hzn:z.nc=k) (hzt:z.notTp=true) (hze:elm z.cel=z) :
  ∃ e' h',PG P h ty n (J5 0 es)=some (e',h')/\T h' (own_ (ocL k t o) e' xs::L):=by
 obtain ⟨F,p,_⟩:=ht.act
 have hl:es.length=xs.length:=All3.len p
 have:=Pr hzn (es:=es) (pre:=[]) (All3.fit hf p)
 subst hn
 simp only [List.nil_append,List.length_nil] at this
 refine ⟨_,_,?_,PQ ht hl.symm⟩
 simp only [PG,hte,hi,hz,hk,hze]
 rw [if_pos ⟨Nat.le_of_ble_eq_true hb,Nat.le_of_ble_eq_true h0,hzn,hzt⟩,this]
theorem Tc {i:TypeInfo}{z:AV}{bytes:Nat}{n:Int}{kn kc:IntKind}{x0:α}(ht:T h L) (hx:∀ h,o.at_ h z x0 []) (hte:HA P ty=some t) (hi:P.info? t=some i) (hz:FU P t=some z) (hk:i.size=k) (hzn:z.nc=k) (hzt:z.notTp=true) (hib:i.bytes=bytes) (hc:OV bytes n=true) :
  ∃ e' h',Jo P h ty (.v (.int kn n)) (.v (.int kc n))=some (e',h')/\T h' (own_ (ocL k t o) e' (List.replicate n.toNat x0)::L):=by
 simp only [OV,Bool.and_eq_true,decide_eq_true_eq] at hc
 subst hk hib
 have ha:∀ m,All3 (o.at_ h) (List.replicate m z) (List.replicate m x0) []:=fun m=>by
  induction m with
  | zero=>exact rfl
  | succ m ih=>exact ⟨[],[],rfl,hx h,ih⟩
 have ht':T h (els o (List.replicate n.toNat z) (List.replicate n.toNat x0)::L):=ht.add (F:=[]) (ha _) List.nodup_nil (fun _ _=>rfl) (fun _ h=>by cases h)
 refine ⟨_,_,?_,PQ ht' (List.length_replicate)⟩
 simp only [Jo,hte,LL,hi,hz]
 rw [if_pos ⟨trivial,hc.1.1,hc.1.2,hc.2,hzn,hzt⟩]
/-- A cell of its own is made, read, written. -/
theorem Nm {a:AV}(ht:T h L) (hn:a.notTp=true):∃ p h',M9 h t a=some (p,h')/\T h' (cel p a.nc t a::L):=by
 refine ⟨.pt h.length 0 0,h++[some ⟨a.nc,t,[a],false⟩],by simp [M9,hn],ht.add (F:=[h.length]) ⟨h.length,rfl,rfl,by simp⟩ (by simp) (fun b hb=>List.getElem?_append_left hb) (fun b hb=>by simp at hb; omega)⟩
theorem Js {p a:AV}(ht:T h (cel p k t a::L)) (hm:BO P ty=some m) (hg:Og P ty=some g) (he:S8 a off m g=some y):GJ P h ty (G6 p off)=some y:=by
 obtain ⟨F,⟨b,rfl,rfl,h2⟩,_⟩:=ht.act
 simp [GJ,hm,hg,G6,h2,he]
theorem Ka {p a:AV}(ht:T h (cel p k t a::L)) (hm:BO P ty=some m) (hg:Og P ty=some g) (he:S8 a 0 m g=some y):GJ P h ty p=some y:=by
 have:=Js (off:=0) ht hm hg he
 obtain ⟨F,⟨b,rfl,rfl,h2⟩,_⟩:=ht.act
 exact this
theorem RP {p a a':AV}(ht:T h (cel p k t a::L)) (hs:BO P ty=some y.nc) (hn:y.notTp=true) (he:Uh a off y=some a'):∃ h',F6 P h ty (G6 p off) y=some h'/\T h' (cel p k t a'::L):=by
 obtain ⟨F,⟨b,rfl,rfl,h2⟩,hn',hk,_⟩:=ht.act
 have hb:=Il h2
 refine ⟨h.set b (some ⟨k,t,[a'],false⟩),by simp [F6,G6,h2,hs,hn,he],hk _ _ [b] ⟨b,rfl,rfl,by simp [hb]⟩ (by simp) (fun c hc _=>?_) (fun c hc=> .inl hc)⟩
 rw [List.getElem?_set,if_neg (by intro e; subst e; simp at hc)]
theorem Ul {p a a':AV}(ht:T h (cel p k t a::L)) (hs:BO P ty=some y.nc) (hn:y.notTp=true) (he:Uh a 0 y=some a'):∃ h',F6 P h ty p y=some h'/\T h' (cel p k t a'::L):=by
 have:=RP (off:=0) ht hs hn he
 obtain ⟨F,⟨b,rfl,rfl,h2⟩,_⟩:=ht.act
 exact this
theorem UJ {p a:AV}{fs:Array Field}{fd:Field}{f q:Nat}(ht:T h (cel p k t a::L)) (hu:P.underlying ty=some (.struct fs)) (hf:fs[f]? = some fd) (hs:BO P fd.type=some (q + 1)):DI P ty p f=some (G6 p fd.offset):=by
 obtain ⟨F,⟨b,rfl,rfl,h2⟩,_⟩:=ht.act
 simp [DI,hu,hf,hs,G6]
theorem UK {n:Nat}{fs:Array Field}{fd:Field}{f q:Nat}(ht:T h (own_ (ocL k t o) e xs::L)) (hv:xs[n]? = some v) (hu:P.underlying ty=some (.struct fs)) (hf:fs[f]? = some fd) (hs:BO P fd.type=some (q + 1)):DI P ty (eAt e n) f=some (G6 (eAt e n) fd.offset):=by
 obtain ⟨F,p,_⟩:=ht.act
 rcases p with ⟨rfl,rfl,_⟩ | ⟨b,es,F',rfl,h2,_⟩
 ·simp at hv
 ·simp [DI,hu,hf,hs,G6,eAt]
theorem Ke {n:Nat}(ht:T h (own_ (ocL k t o) e xs::L)) (hv:xs[n]? = some v):∃ b i,eAt e n = .pt b i 0:=by
 obtain ⟨F,p,_⟩:=ht.act
 rcases p with ⟨rfl,rfl,_⟩ | ⟨b,es,F',rfl,h2,_⟩
 ·simp at hv
 ·exact ⟨b,_,rfl⟩
end
/-- What is own is written no more: it is a value as others. -/
def QW (F:List Nat) (h:Hp):Hp:=h.mapIdx fun i B=>if i ∈ F then none else B
theorem ME {F:List Nat}{h:Hp}{b:Nat}{B:Blk}:(QW F h)[b]? = some (some B)↔b ∉ F/\h[b]? = some (some B):=by
 simp only [QW,List.getElem?_mapIdx]
 constructor
 ·intro hh
  obtain ⟨o,h1,h2⟩:=Option.map_eq_some_iff.1 hh
  split at h2
  ·cases h2
  ·next hb=>exact ⟨hb,by rw [h1,h2]⟩
 ·rintro ⟨h1,h2⟩
  rw [h2]; simp [h1]
theorem Rh {F:List Nat}{h:Hp}{b:Nat}(hb:b ∉ F):(QW F h)[b]? = h[b]?:=by
 simp only [QW,List.getElem?_mapIdx]
 cases h[b]? <;> simp [hb]
section
variable {E:Env}{n:Nat}{l l':List (Nat×AV)}{hp:Hp}{α:Type}{o:Oc α}{e:AV}{x:α}{L:List Asn}
theorem DK (ht:T hp (own_ o e x::L)) (hl:∀ t y,lk l' t=some y->lk l t=some y\/(lk l t=some e/\y=o.cd.enc x)):∃ hp',WkY E ⟨Fr n l,hp⟩ ⟨Fr n l',hp'⟩/\T hp' L:=by
 obtain ⟨F,p,hn',_,hk⟩:=ht.act
 refine ⟨QW F hp,fun base w Z R a sr=>?_,hk _ fun b hb _=>Rh hb⟩
 have hown:∀ c,(∃ b ∈ F,∃ r,R[b]? = some r/\c=r.c)->own R hp c:=fun c ⟨b,hb,r,hr,hc⟩=>by
  obtain ⟨B,k1,k2⟩:=o.own p hb
  exact ⟨b,B,r,k1,k2,hr,hc.symm⟩
 have hown':∀ c,own R (QW F hp) c->own R hp c:=fun c ⟨b,B,r,h1,h2,h3,h4⟩=>⟨b,B,r,(ME.1 h1).2,h2,h3,h4⟩
 have hzo:∀ c,(Z c\/∃ b ∈ F,∃ r,R[b]? = some r/\c=r.c)->Z c\/own R hp c:=fun c hc=>hc.imp_right (hown c)
 have up':∀ {x:AV} {u:Value} {R':List RI},VR w Z R' x u->VR w (fun c=>Z c\/∃ b ∈ F,∃ r,R[b]? = some r/\c=r.c) R' x u:=fun hv=>hv.mono (fun _ _=>rfl) (fun _ h=> .inl h) (fun _ _ h=>h)
 refine ⟨fun c=>Z c\/∃ b ∈ F,∃ r,R[b]? = some r/\c=r.c,R,⟨⟨by simp [QW,sr.hh.len],fun b B hB=>?_,fun b b' B B' r r' h1 f1 h2 f2 g1 g2 e=>?_,fun c hc=>?_⟩,⟨?_,fun t x hx=>?_⟩,?_,fun g x hx=>up' (sr.gl g x hx),sr.bs⟩,⟨rfl,rfl,rfl,Nat.le_refl _,fun _ _ _=>rfl,fun c hc=> .inl (hown' c hc),fun _ h=> .inl h,fun c hc=>(hzo c hc).imp_right .inl,fun _ _ h=>h⟩⟩
 ·obtain ⟨hb,hB⟩:=ME.1 hB
  obtain ⟨r,arr,us,g1,g2,g3,g4,g5,g6,g7,g8,g9,g10⟩:=sr.hh.blk b B hB
  refine ⟨r,arr,us,g1,g2,g3,g4,g5,g6,fun hf=> .inl (g7 hf),fun hf hc=>?_,⟨g9.len,fun i x u hx hu=>up' (g9.at_ i x u hx hu)⟩,g10⟩
  rcases hc with hc | ⟨b',hb',r',hr',hc⟩
  ·exact g8 hf hc
  ·obtain ⟨B',k1,k2⟩:=o.own p hb'
   have:=sr.hh.inj b b' B B' r r' hB hf k1 k2 g1 hr' hc
   exact hb (this ▸ hb')
 ·exact sr.hh.inj b b' B B' r r' (ME.1 h1).2 f1 (ME.1 h2).2 f2 g1 g2 e
 ·rcases hzo c hc with hc | ⟨b,B,r,k1,_,k3,k4⟩
  ·exact sr.hh.zlt c hc
  ·exact k4 ▸ sr.hh.rltL k1 k3
 ·rw [G8]; have:=sr.fr.1; rw [G8] at this; exact this
 ·rw [GE] at hx
  split at hx
  ·next ht =>
   injection hx with hx
   rcases hl t x hx with h1 | ⟨h1,rfl⟩
   ·exact up' (sr.fr.2 t x (by rw [GE,if_pos ht,h1]))
   ·exact (o.vr sr.hh p (sr.fr.2 t e (by rw [GE,if_pos ht,h1]))).up
  ·cases hx
 ·exact sr.mks.imp fun q h3 h4 h5=>⟨h3,fun hc=>(hzo q hc).elim h4 h5,fun ho=>h5 (hown' q ho)⟩
/-- Slots that stay, and slots that turn. -/
def LkT (l:List (Nat×AV)) (e y:AV):List (Nat×AV)->Prop
 | []=>True
 | (t,z)::r=>(lk l t=some z\/(lk l t=some e/\z=y))/\LkT l e y r
theorem LkT.at_ {e y:AV}:∀ {l':List (Nat×AV)},LkT l e y l'->∀ t z,lk l' t=some z->lk l t=some z\/(lk l t=some e/\z=y)
 | [],_,t,z,h=>by cases h
 | (k,z0)::r,⟨h1,h2⟩,t,z,h=>by
  rw [JM] at h
  split at h
  ·next hk=>injection h with h; subst hk h; exact h1
  ·exact h2.at_ t z h
/-- Values as a call sees them. -/
def SeeV (hp:Hp) (x y:AV):Prop:=∀ (w:World) (Z:Nat->Prop) (R:List RI) (u:Value),HR w Z R hp->VR w Z R x u->VR w (fun c=>Z c\/own R hp c) [] y u
def Sees (hp:Hp) (xs ys:List AV):Prop:=∀ (w:World) (Z:Nat->Prop) (R:List RI) (us:List Value),HR w Z R hp->VRs w Z R xs us->VRs w (fun c=>Z c\/own R hp c) [] ys us
theorem Sees.nil:Sees hp [] []:=fun w Z R us _ h=>by
 have:us=[]:=by have:=h.len; simpa using this
 subst this
 exact .nil
theorem Sees.cons {x y:AV}{xs ys:List AV}(h:SeeV hp x y) (hs:Sees hp xs ys):Sees hp (x::xs) (y::ys):=fun w Z R us hh hv=>by
 obtain ⟨u,us',rfl,hu,hn⟩:=hv.head
 exact .cons (h w Z R u hh hu) (hs w Z R us' hh hn)
theorem SeeV.id {x:AV}(hx:DU x=true):SeeV hp x x:=fun _w _Z _R _u _ hv=>(Kv hx hv).mono (fun _ _=>rfl) (fun _ h=> .inl h) (fun _ _ h=>h)
theorem SeeV.enc {c:Cd α}:SeeV hp (c.enc x) (c.enc x):= .id (c.nr x)
theorem SeeV.own {i:Nat}(ht:T hp L) (hi:L[i]? = some (own_ o e x)):SeeV hp e (o.cd.enc x):=fun w Z R u hh hv=>by
 obtain ⟨F,p,_⟩:=(ht.front i hi).act
 refine (o.vr hh p hv).mono (fun _ _=>rfl) (fun c hc=>hc.imp_right fun ⟨b,hb,r,hr,hc⟩=>?_) (fun _ _ h=>h)
 obtain ⟨B,k1,k2⟩:=o.own p hb
 exact ⟨b,B,r,k1,k2,hr,hc.symm⟩
theorem SeeV.ag {cs cs':List AV}(hs:Sees hp cs cs'):SeeV hp (.ag cs) (.ag cs'):=fun w Z R u hh hv=>by
 cases hv with
 | ag hl h1 hx =>
  have:=hs w Z R _ hh ⟨hl,hx⟩
  exact .ag this.len h1 this.at_
end
/-- The operations that are left, one by one, in the caller's blocks. -/
def RunL (E:Env) (cx:Cx) (ops:Array Oper) (rest:List Oper) (s:St) (K:St->Prop):Prop :=
 ∀ (ro:Option Nat) (base:Bs) (Q:Act->World->Prop) (a:Act) (w:World) (Z:Nat->Prop) (R:List RI),(cx.inR=false->ro=none)->SR E base w Z R s a->YI cx w Z R s.hp ->
  (∀ s' a' w' Z' R',K s'->SR E base w' Z' R' s' a'->Step w Z R s.hp w' Z' R' s'.hp->Q a' w')->LwL E.P ops Q rest a w
section
variable {E:Env}{cx:Cx}{ops:Array Oper}{pre rest rest':List Oper}{s s1:St}{K:St->Prop}{n m:Nat}{l l':List (Nat×AV)}{hp hp':Hp}{Q:Ex->St->Prop}{id:Nat}
theorem AL (hr:rest=[]) (k:K s):RunL E cx ops rest s K:=by
 subst hr
 exact fun ro base Q a w Z R _ sr _ q=>q s a w Z R k sr (Step.refl _ _ _ _)
theorem RunL.mono {K':St->Prop}(h:RunL E cx ops rest s K) (k:∀ s,K s->K' s):RunL E cx ops rest s K':=fun ro base Q a w Z R h1 h2 h3 q=>h ro base Q a w Z R h1 h2 h3 fun s' a' w' Z' R' hK=>q s' a' w' Z' R' (k s' hK)
theorem NP (hE:EnvOk E) (n:Nat):∀ {pre:List Oper}{s:St},Hh E (evC E n) ⟨none,false⟩ ops pre s=some s1->RunL E cx ops rest s1 K->RunL E cx ops (pre++rest) s K
 | [],s,e,k=>by injection e with e; subst e; exact k
 | o::pre,s,e,kk=>by
  intro ro base Q a w Z R hro sr hy q
  unfold Hh at e
  split at e
  ·cases e
  ·next hw=>exact lwl_no (wantedA_eq sr hw) (NP hE n e kk ro base Q _ w Z R hro (sr.put undef_vr) hy q)
  ·next hw =>
   split at e
   ·next s2 hs2=>exact lwl_op1 hE (code_sound hE n).1 hs2 sr (wantedA_eq sr hw) fun a' w' Z' R' sr' st=>NP hE n e kk ro base Q a' w' Z' R' hro sr' (hy.step sr.hh st) fun s'' a'' w'' Z'' R'' hK sr'' st'=>q s'' a'' w'' Z'' R'' hK sr'' (st.trans st')
   ·cases e
theorem Ql (hE:EnvOk E) (m:Nat) (h:Hh E (evC E 0) ⟨none,false⟩ ops (rest.take m) s=some s1) (k:RunL E cx ops (rest.drop m) s1 K):RunL E cx ops rest s K:=by
 have:=NP hE 0 h k
 rwa [List.take_append_drop] at this
theorem EW (hE:EnvOk E) (m:Nat){s:St}(l:List (Nat×AV)) (hp:Hp) (h:RL (Hh E (evC E 0) ⟨none,false⟩ ops (rest.take m) s) l=some (n,xs2 l,hp)) (k:RunL E cx ops (rest.drop m) ⟨Fr n l,hp⟩ K):RunL E cx ops rest s K:=by
 obtain ⟨fr,h1,h2,h3⟩:=MM h
 refine Ql hE m h1 ?_
 exact fun ro base Q a w Z R hro sr hy q=>k ro base Q a w Z R hro (sr.forget h2 h3) hy q
theorem AG (hE:EnvOk E) (n:Nat){o:Oper}(hr:rest=o::rest') (h:Hh E (evC E n) ⟨none,false⟩ ops [o] s=some s1) (k:RunL E cx ops rest' s1 K):RunL E cx ops rest s K:=by
 subst hr
 exact NP hE n (pre:=[o]) h k
theorem RunL.store (hE:EnvOk E){t:TypeId}{p q:Operand}{y z:AV}{ty:TypeId}{pos:String}{af:Array Edge}{g:Option (Nat×Bool)}(hr:rest=⟨none,.store t p q,ty,pos,af,g⟩::rest') (hw:As ops (Fr n l) ⟨none,.store t p q,ty,pos,af,g⟩=some true) (hp1:opA E (Fr n l) p=some y) (hq1:opA E (Fr n l) q=some z) (h:F6 E.P hp t y z=some hp') (k:RunL E cx ops rest' ⟨Fr n l,hp'⟩ K):RunL E cx ops rest ⟨Fr n l,hp⟩ K :=
 AG hE 0 hr (Uc hw hp1 hq1 h) k
theorem AC (h:RunL E cx ops ops.toList s fun s'=>Q .normal s'):SemY E cx (.region id ops false) s Q:=by
 intro ro base Qm a w Z R h1 h2 h3 kk
 exact wpIn_region_list (lwl_list ro (h ro base _ a w Z R h1 h2 h3 fun s' a' w' Z' R' hq sr st=>kk .normal s' a' w' Z' R' hq sr st))
end
section
variable {E:Env}{cx:Cx}{ops:Array Oper}{rest rest':List Oper}{K:St->Prop}{n:Nat}{l:List (Nat×AV)}{hp:Hp}
/-- A call that is told, of arguments that may be own. -/
theorem RT {α β:Type}{s:Cs α}{F:α->Option β}{er:β->AV}{a:α}{b:β}{xs ys:List AV}(hE:EnvOk E){d:Nat}{f:Operand}{args:Array Operand}{tys:Array TypeId}{ty:TypeId}{pos:String}{af:Array Edge}{g:Option (Nat×Bool)}{fid:FuncId}(hr:rest=⟨some d,.call ⟨.value f,args,tys⟩,ty,pos,af,g⟩::rest') (hw:As ops (Fr n l) ⟨some d,.call ⟨.value f,args,tys⟩,ty,pos,af,g⟩=some true)
  (hf:opA E (Fr n l) f=some (.fn fid [] [])) (hX:E.X fid=some (GP s F er)) (ha:Hg (opA E (Fr n l)) args.toList=some xs) (hv:Sees hp xs ys) (hd:s.dec ys=some a) (hok:xs.all DU=true/\xs=ys\/EM (er b)=true) (hF:F a=some b) (k:RunL E cx ops rest' ⟨Fr n ((d,er b)::l),hp⟩ K):RunL E cx ops rest ⟨Fr n l,hp⟩ K:=by
 subst hr
 intro ro base Q aa w Z R hro sr hy q
 have hρ:∀ o x,opA E (Fr n l) o=some x->VR w Z R x (aa.eval o):=fun o x e=>opA_vr sr o x e
 refine In rfl (wantedA_eq sr hw) ?_
 have hvf:=hρ _ _ hf
 generalize hvq:aa.eval f=vf at hvf
 cases hvf with
 | fn hl hl' hx hy' =>
  rename_i u1 u2
  have e1:u1=[]:=by simpa using hl
  have e2:u2=[]:=by simpa using hl'
  subst e1 e2
  obtain ⟨hcl,hXs⟩:=hE.X fid _ hX
  have htold:GP s F er ys=some (er b):=Ji hd hF
  have hvs:=opds_vr hρ ha
  unfold Lw
  rw [Ep (uf:=[]) (uc:=[]) rfl hvq rfl hcl w]
  simp only [List.nil_append,List.append_nil]
  have go:∀ (w':World) (Z':Nat->Prop) (R':List RI) (v:Value),HR w' Z' R' hp->VR w' Z' R' (er b) v->Step w Z R hp w' Z' R' hp->LwL E.P ops Q rest' (aa.put (some d) v) w':=fun w' Z' R' v k1 k2 st=>by
   have sr':=(sr.step k1 st).put (d:=some d) k2
   rw [show MK (⟨Fr n l,hp⟩:St).fr (some d) (er b)=Fr n ((d,er b)::l) from CM n l d _] at sr'
   exact k ro base Q _ w' Z' R' hro sr' (hy.step sr.hh st) fun s' a' w'' Z'' R'' hK sr'' st'=>q s' a' w'' Z'' R'' hK sr'' (st.trans st')
  rcases hok with ⟨h1,h2⟩ | h1
  ·subst h2
   refine Ret.mono (hXs _ _ htold w _ _ sr.hh.zlt sr.gl (Na h1 hvs)) fun v w' ⟨hs,hv'⟩=>?_
   obtain ⟨k1,k2⟩:=sr.hh.addZ hs
   exact go w' _ R v k1 hv'.up k2
  ·have hz1:∀ c,(Z c\/own R hp c)->c < w.heap.size:=fun c hc=>hc.elim (sr.hh.zlt c) (fun ⟨b,B,r,h1,_,h3,h4⟩=>h4 ▸ sr.hh.rltL h1 h3)
   have hg1:GI E w (fun c=>Z c\/own R hp c):=fun q y hy=>(sr.gl q y hy).mono (fun _ _=>rfl) (fun _ h=> .inl h) (fun _ _ h=>h)
   refine Ret.mono (hXs _ _ htold w _ _ hz1 hg1 (hv w Z R _ sr.hh hvs)) fun v w' ⟨hs,hv'⟩=>?_
   exact go w' Z R v (sr.hh.keep hs.size (fun c hc=>hs.block c hc (by simp))) (flat_vr h1 hv') ⟨hs.os,hs.tape,hs.output,hs.size,fun c hc _=>hs.block c hc (by simp),fun _ h=> .inl h,fun _ h=>h,fun _ h=> .inl h,fun _ _ h=>h⟩
/-- A call that is gone through in the caller's blocks. -/
theorem CO (hP:E.P=E0.P) (hG:E.G=E0.G){e:Env}(he:EnvOk e) (heP:e.P=E0.P) (heG:e.G=E0.G){d:Nat}{f:Operand}{args:Array Operand}{tys:Array TypeId}{ty:TypeId}{pos:String}{af:Array Edge}{g:Option (Nat×Bool)}{fid:FuncId}{caps xs:List AV}{fn:Func}{c:Code}{Out:AV->Hp->Prop}(hr:rest=⟨some d,.call ⟨.value f,args,tys⟩,ty,pos,af,g⟩::rest') (hw:As ops (Fr n l) ⟨some d,.call ⟨.value f,args,tys⟩,ty,pos,af,g⟩=some true)
  (hf:opA E (Fr n l) f=some (.fn fid [] caps)) (ha:Hg (opA E (Fr n l)) args.toList=some xs) (hfn:e.fn fid=some fn) (hc:fn.body=some c) (hle:(xs++caps).length<=fn.ntmps)
  (sem:SemY e ⟨none,false⟩ c ⟨Fr fn.ntmps (Av 0 (xs++caps)),hp⟩ fun x s'=>(x = .normal\/x = .ret)/\∃ ys,FA e.P s'.fr s'.hp fn.results.toList=some ys/\Out (FZ ys) s'.hp)
  (k:∀ x h',Out x h'->RunL E cx ops rest' ⟨Fr n ((d,x)::l),h'⟩ K):RunL E cx ops rest ⟨Fr n l,hp⟩ K:=by
 obtain ⟨P,fns,G,X,I⟩:=E
 obtain ⟨P',fns',G',X',I'⟩:=e
 simp only at hP hG heP heG
 subst hP hG heP heG
 subst hr
 intro ro base Q a w Z R hro sr hy q
 have hρ:∀ o x,opA ⟨E0.P,fns,E0.G,X,I⟩ (Fr n l) o=some x->VR w Z R x (a.eval o):=fun o x e=>opA_vr sr o x e
 refine In rfl (wantedA_eq sr hw) ?_
 have hvf:=hρ _ _ hf
 generalize hvq:a.eval f=vf at hvf
 cases hvf with
 | fn hl hl' hx hy' =>
  rename_i u1 u2
  have e1:u1=[]:=by simpa using hl
  subst e1
  obtain ⟨hff,hcall,_⟩:=he.fn fid fn hfn
  unfold Lw
  rw [Ep (uf:=[]) (uc:=u2) rfl hvq rfl hcall w]
  simp only [List.nil_append]
  have hargs:VRs w Z R (xs++caps) (args.toList.map a.eval++u2):=(opds_vr hρ ha).append ⟨hl',hy'⟩
  refine Ret.mono (Nb he hfn hc hle sem sr.hh hargs sr.gl (fun y hy=>by cases hy)) fun v w' hS=>?_
  obtain ⟨Z',R',x,h',hO,h1,h2,st⟩:=hS
  have sr':=(sr.step h1 st).put (d:=some d) h2
  rw [show MK (⟨Fr n l,hp⟩:St).fr (some d) x=Fr n ((d,x)::l) from CM n l d _] at sr'
  exact k x h' hO ro base Q _ w' Z' R' hro sr' (hy.step sr.hh st) fun s' a' w'' Z'' R'' hK sr'' st'=>q s' a' w'' Z'' R'' hK sr'' (st.trans st')
/-- A call that hands back own blocks. -/
theorem I2 (hP:E.P=E0.P) (hG:E.G=E0.G){d:Nat}{f:Operand}{args:Array Operand}{tys:Array TypeId}{ty:TypeId}{pos:String}{af:Array Edge}{g:Option (Nat×Bool)}{fid:FuncId}{xs ys:List AV}{Out:AV->Hp->Prop}(hs:SOk fid ys Out) (hr:rest=⟨some d,.call ⟨.value f,args,tys⟩,ty,pos,af,g⟩::rest') (hw:As ops (Fr n l) ⟨some d,.call ⟨.value f,args,tys⟩,ty,pos,af,g⟩=some true)
  (hf:opA E (Fr n l) f=some (.fn fid [] [])) (ha:Hg (opA E (Fr n l)) args.toList=some xs) (hv:Sees hp xs ys) (hfl:∀ x h',Out x h'->Mq x=true/\Oa h'=true) (k:∀ x h',Out x h'->RunL E cx ops rest' ⟨Fr n ((d,shN hp.length x)::l),hp++h'⟩ K):RunL E cx ops rest ⟨Fr n l,hp⟩ K:=by
 obtain ⟨P,fns,G,X,I⟩:=E
 simp only at hP hG
 subst hP hG
 subst hr
 intro ro base Q a w Z R hro sr hy q
 have hρ:∀ o x,opA ⟨E0.P,fns,E0.G,X,I⟩ (Fr n l) o=some x->VR w Z R x (a.eval o):=fun o x e=>opA_vr sr o x e
 refine In rfl (wantedA_eq sr hw) ?_
 have hva:a.eval f = .func (.func fid) ([]:List Value).toArray ([]:List Value).toArray:=by
  have:=hρ _ _ hf
  generalize a.eval f=vf at this
  cases this with
  | fn hl hl' hx hy =>
   rename_i u1 u2
   have e1:u1=[]:=by simpa using hl
   have e2:u2=[]:=by simpa using hl'
   subst e1 e2; rfl
 unfold Lw
 rw [Ep (uf:=[]) (uc:=[]) rfl hva rfl hs.1 w]
 simp only [List.nil_append,List.append_nil]
 have hz1:∀ c,(Z c\/own R hp c)->c < w.heap.size:=fun c hc=>hc.elim (sr.hh.zlt c) (fun ⟨b,B,r,h1,_,h3,h4⟩=>h4 ▸ sr.hh.rltL h1 h3)
 have hg1:GI E0 w (fun c=>Z c\/own R hp c):=fun q y hy=>(sr.gl q y hy).mono (fun _ _=>rfl) (fun _ h=> .inl h) (fun _ _ h=>h)
 refine Ret.mono (hs.2 w _ _ hz1 hg1 (hv w Z R _ sr.hh (opds_vr hρ ha))) fun v w' hS=>?_
 obtain ⟨Z',R',x,h',hO,h1,h2,st⟩:=hS
 obtain ⟨f1,f2⟩:=hfl x h' hO
 obtain ⟨j1,j2⟩:=sr.hh.join hz1 st h1 f2
 have hlen:R.length=hp.length:=sr.hh.len
 have hx:=T4 (w:=w') (Z':=Z) (R:=R) hlen f1 h2
 have sr':=(sr.step j1 j2).put (d:=some d) hx
 rw [show MK (⟨Fr n l,hp⟩:St).fr (some d) (shN hp.length x)=Fr n ((d,shN hp.length x)::l) from CM n l d _] at sr'
 exact k x h' hO ro base Q _ w' Z (R++R') hro sr' (hy.step sr.hh j2) fun s' a' w'' Z'' R'' hK sr'' st'=>q s' a' w'' Z'' R'' hK sr'' (j2.trans st')
theorem Ma {s s1:St}(hw:WkY E s s1) (h:RunL E cx ops rest s1 K):RunL E cx ops rest s K:=fun ro base Q a w Z R hro sr hy q=>by
 obtain ⟨Z',R',sr',st⟩:=hw base w Z R a sr
 exact h ro base Q a w Z' R' hro sr' (hy.step sr.hh st) fun s' a' w' Z2 R2 hK sr2 st2=>q s' a' w' Z2 R2 hK sr2 (st.trans st2)
/-- What a part did, told by states for each way out. -/
theorem GQ {c:Code}{s:St}{Q:Ex->St->Prop}{e0:Ex}{A:St->Prop}(h:SemY E cx c s fun e s'=>e=e0/\∃ s2,A s2/\WkY E s' s2) (q:∀ s2,A s2->Q e0 s2):SemY E cx c s Q:=by
 intro ro base Qm a w Z R h1 h2 h3 k
 refine h ro base Qm a w Z R h1 h2 h3 fun e s' a' w' Z' R' hQ sr st=>?_
 obtain ⟨rfl,s2,hA,hw⟩:=hQ
 obtain ⟨Z2,R2,sr2,st2⟩:=hw base w' Z' R' a' sr
 exact k e s2 a' w' Z2 R2 (q s2 hA) sr2 (st.trans st2)
theorem A9 {c:Code}{s:St}{Q:Ex->St->Prop}{e0:Ex}{A:St->Prop}{m:Nat}(h:SemYN E cx c m s fun e s'=>e=e0/\∃ s2,A s2/\WkY E s' s2) (q:∀ s2,A s2->Q e0 s2):SemYN E cx c m s Q:=by
 intro ro base Qm a w Z R h1 h2 h3 k
 refine h ro base Qm a w Z R h1 h2 h3 fun e s' a' w' Z' R' hQ sr st=>?_
 obtain ⟨rfl,s2,hA,hw⟩:=hQ
 obtain ⟨Z2,R2,sr2,st2⟩:=hw base w' Z' R' a' sr
 exact k e s2 a' w' Z2 R2 (q s2 hA) sr2 (st.trans st2)
theorem Nj {c:Code}{s:St}{Q:Ex->St->Prop}(h:SemY E cx c s Q):Sem E cx c s Q :=
 fun ro base Qm a w Z R h1 h2 h3 k=>h ro base Qm a w Z R h1 h2 (fun y hy=>by rw [h3] at hy; cases hy) fun e s' a' w' Z' R' hQ sr st=>k e s' a' w' Z' R' hQ sr st.w
end
def RunDY (E:Env) (ops:Array Oper) (n0 k:Nat) (rest:List Oper) (s:St) (K:St->Prop):Prop :=
 ∀ (base:Bs) (Q:Act->World->Prop) (w0:World) (Z:Nat->Prop) (R0:List RI) (h0:Hp) (a:Act) (w:World) (R:List RI),HR w0 Z R0 h0->n0=h0.length->C0 ops<=ops.size->SR E base w Z R s a->w0.grownBy w none->Step w0 Z R0 h0 w Z R s.hp->(∀ (b:Nat) (B:Option Blk),h0[b]? = some B->s.hp[b]? = some B)->C0 ops=EO rest k->k + rest.length=ops.size->(∀ j,rest[j]? = ops[k + j]?) ->
  (∀ s' a' w' Z' R',K s'->SR E base w' Z' R' s' a'->Step w0 Z R0 h0 w' Z' R' s'.hp->Q a' w')->KD E.P ops (fun w'=>w0.grownBy w' none) (JN ops (C0 ops)) (C0 ops) Q k rest a w
section
variable {E:Env}{cx:Cx}{ops:Array Oper}{pre rest rest':List Oper}{s s1:St}{K:St->Prop}{n n0 k:Nat}{l:List (Nat×AV)}{hp hp':Hp}{Q:Ex->St->Prop}{id:Nat}
theorem RunDY.done (hr:rest=[]) (kk:K s):RunDY E ops n0 k rest s K:=by
 subst hr
 exact fun base Q w0 Z R0 h0 a w R _ _ _ sr hgr st _ _ _ _ q=>⟨fun _=>hgr,q s a w Z R kk sr st⟩
theorem I1 (hE:EnvOk E):∀ {pre:List Oper}{s:St}{k:Nat},(pre.all fun o=>!isW o.op)=true->MJ E (evC E 0) ⟨none,false⟩ ops n0 pre s=some s1->RunDY E ops n0 (k + pre.length) rest s1 K->RunDY E ops n0 k (pre++rest) s K
 | [],s,k,_,e,kk=>by injection e with e; subst e; exact kk
 | o::pre,s,k,hp,e,kk=>by
  intro base Q w0 Z R0 h0 a w R hh0 hn0 hT sr hgr st hpre hTk hlen hops q
  simp only [List.all_cons,Bool.and_eq_true,Bool.not_eq_true'] at hp
  obtain ⟨hW,hp⟩:=hp
  have hok:ops[k]? = some o:=by have:=hops 0; simpa using this.symm
  have hops':∀ j,(pre++rest)[j]? = ops[k + 1 + j]?:=fun j=>by have:=hops (j + 1); simpa [Nat.add_assoc,Nat.add_comm 1 j] using this
  have hk1:k + 1 + pre.length=k + (o::pre).length:=by simp; omega
  have kk':RunDY E ops n0 (k + 1 + pre.length) rest s1 K:=by rw [hk1]; exact kk
  have hlen':k + 1 + (pre++rest).length=ops.size:=by simp at hlen ⊢; omega
  have hTk':C0 ops=EO (pre++rest) (k + 1):=by
   rw [hTk]
   show EO (o::(pre++rest)) k=_
   conv=>lhs; unfold EO; rw [if_neg (by rw [hW]; simp)]
  have hkT:¬ C0 ops<=k:=by have:=Kn (pre++rest) (k + 1); omega
  show KD E.P ops _ _ _ Q k (o::(pre++rest)) a w
  refine ⟨fun _=>hgr,?_⟩
  unfold MJ at e
  rw [if_neg (by rw [hW]; simp)] at e
  split at e
  ·cases e
  ·next hw =>
   rw [if_neg (by rw [wantedA_eq sr hw]; simp)]
   exact I1 hE hp e kk' base Q w0 Z R0 h0 _ w R hh0 hn0 hT (sr.put undef_vr) hgr st hpre hTk' hlen' hops' q
  ·next hw =>
   rw [if_pos (wantedA_eq sr hw)]
   have hρ:∀ o x,opA E s.fr o=some x->VR w Z R x (a.eval o):=fun o x e=>opA_vr sr o x e
   split at e
   ·next x hx =>
    split at e
    ·next hld =>
     have hq:=Q7 hx
     rw [if_neg (by rw [OE hok hq hkT]; simp)]
     obtain ⟨u,hu,hrun⟩:=evOpQ_sound sr.hh hρ hx
     have hquiet:∃ u,VR w Z R x u/\QuietAt E.P (Cf (fun w'=>w0.grownBy w' none) o) o u a:=by
      cases hl:Rf o.op with
      | false=>exact ⟨u,hu,fun w' _=>hrun w' fun h=>by rw [hl] at h; cases h⟩
      | true =>
       obtain ⟨u1,hu1,hq1⟩:=Ku hh0 sr hgr st hpre hl (by rw [<-hn0]; exact hld) hx
       exact ⟨u1,hu1,hq1.up (N2 hl)⟩
     obtain ⟨u,hu,hquiet⟩:=hquiet
     exact ⟨u,hquiet,I1 hE hp e kk' base Q w0 Z R0 h0 _ w R hh0 hn0 hT (sr.put hu) hgr st hpre hTk' hlen' hops' q⟩
    ·cases e
   ·split at e
    ·next x h' hx =>
     have hq:=NV hx
     rw [if_pos (Iw hok hq)]
     obtain ⟨u,w',R',h1,h2,h3,h4,h5⟩:=evOpN_sound hρ sr.hh hx
     exact Ov h1 (I1 hE hp e kk' base Q w0 Z R0 h0 _ w' R' hh0 hn0 hT ((sr.step h2 h4).put h3) (Gt hgr h5) (st.trans h4) (fun b B hb=>Nr hx (hpre b B hb)) hTk' hlen' hops' q)
    ·split at e
     ·next f args tys ho =>
      split at e
      ·next fv xs hf hxs =>
       split at e
       ·next r hr =>
        obtain ⟨x,h'⟩:=r
        have hq:isQ o.op=false:=by rw [ho]; rfl
        rw [if_pos (Iw hok hq)]
        obtain ⟨g,uf,uc,hva,hcl,hret⟩:=JW hE (code_sound hE 0).1 (hρ _ _ hf) (opds_vr hρ hxs) sr.hh sr.gl hr
        unfold Lw
        rw [Ep (uf:=uf) (uc:=uc) ho hva rfl hcl w]
        refine Ret.mono hret fun v w' hS=>?_
        obtain ⟨hg1,R',k1,k2,k3⟩:=hS
        exact I1 hE hp e kk' base Q w0 Z R0 h0 _ w' R' hh0 hn0 hT ((sr.step k1 k3).put k2) (Gt hgr hg1) (st.trans k3) (fun b B hb=>Nn hr (hpre b B hb)) hTk' hlen' hops' q
       ·cases e
      ·cases e
     ·cases e
theorem Rv (hE:EnvOk E) (m:Nat) (hw:((rest.take m).all fun o=>!isW o.op)=true) (h:MJ E (evC E 0) ⟨none,false⟩ ops n0 (rest.take m) s=some s1) (kk:RunDY E ops n0 (k + (rest.take m).length) (rest.drop m) s1 K):RunDY E ops n0 k rest s K:=by
 have:=I1 (k:=k) hE hw h kk
 rwa [List.take_append_drop] at this
theorem RunDY.one (hE:EnvOk E){o:Oper}(hr:rest=o::rest') (hW:isW o.op=false) (h:MJ E (evC E 0) ⟨none,false⟩ ops n0 [o] s=some s1) (kk:RunDY E ops n0 (k + 1) rest' s1 K):RunDY E ops n0 k rest s K:=by
 subst hr
 exact I1 (k:=k) hE (pre:=[o]) (by simp [hW]) h kk
theorem IG (hE:EnvOk E) (m:Nat){s:St}(l:List (Nat×AV)) (hp:Hp) (hw:((rest.take m).all fun o=>!isW o.op)=true) (h:RL (MJ E (evC E 0) ⟨none,false⟩ ops n0 (rest.take m) s) l=some (n,xs2 l,hp)) (kk:RunDY E ops n0 (k + (rest.take m).length) (rest.drop m) ⟨Fr n l,hp⟩ K):RunDY E ops n0 k rest s K:=by
 obtain ⟨fr,h1,h2,h3⟩:=MM h
 refine Rv hE m hw h1 ?_
 exact fun base Q w0 Z R0 h0 a w R a1 a2 a3 sr a5 a6 a7 a8 a9 a10 q=>kk base Q w0 Z R0 h0 a w R a1 a2 a3 (sr.forget h2 h3) a5 a6 a7 a8 a9 a10 q
/-- Is a slice nil? If it is, it is empty. -/
theorem Ok (hE:EnvOk E) (hd:CP (.region id ops true)=true) (h:RunDY E ops s.hp.length 0 ops.toList s fun s'=>Q .normal s'):SemY E cx (.region id ops true) s Q:=by
 intro ro base Qm a w Z R _ sr _ kk
 simp only [CP,Bool.not_true,Bool.false_or,Bool.and_eq_true] at hd
 have hgd:w.grownBy w.drew none:=PC w
 have hops:ops.toList.toArray=ops:=by simp
 have st0:Step w Z R s.hp w.drew Z R s.hp:=⟨rfl,rfl,rfl,Nat.le_refl _,fun c hc _=>rfl,fun _ h=> .inl h,fun _ h=>h,fun _ h=> .inl h,fun _ _ h=>h⟩
 have hsrd:SR E base w.drew Z R s a:=⟨sr.hh.keep (Nat.le_refl _) (fun c hc=>hgd.block c hc (by simp)),sr.fr.off (fun c hc=>rfl),sr.mks.step st0,sr.gl.off (fun c hc=>rfl),sr.bs⟩
 have hm:=h base (fun a w=>Qm .normal a w) w.drew Z R s.hp a w.drew R hsrd.hh rfl (by have:=MR ops.toList 0; unfold C0; simpa using this) hsrd (OG _) (Step.refl _ _ _ _) (fun b B hb=>hb) rfl (by simp) (fun j=>by simp) (fun s' a' w' Z' R' hq sr' st=>kk .normal s' a' w' Z' R' hq sr' (st0.trans st))
 have:=ID (P:=E.P) (id:=id) (l:=ops.toList) (a:=a) (w:=w) (C:=fun w'=>w.drew.grownBy w' none) (loud:=JN ops (C0 ops)) (T:=C0 ops) (Q':=Qm) ro 0 hE.mixed (by rw [hops]; exact hd.1) (by rw [hops]; exact hd.2) (by rw [hops]; exact hm)
 rw [hops] at this
 exact this
end
def RunDT (E:Env) (cx:Cx) (ops:Array Oper) (T:Nat) (n0 k:Nat) (rest:List Oper) (s:St) (K:St->Prop):Prop :=
 ∀ (ro:Option Nat) (base:Bs) (Q:Act->World->Prop) (w0:World) (Z:Nat->Prop) (R0:List RI) (h0:Hp) (a:Act) (w:World) (R:List RI),(cx.inR=false->ro=none)->YI cx w0 Z R0 h0->HR w0 Z R0 h0->n0=h0.length->SR E base w Z R s a->w0.grownBy w none->Step w0 Z R0 h0 w Z R s.hp->(∀ (b:Nat) (B:Option Blk),h0[b]? = some B->s.hp[b]? = some B)->(∀ j,rest[j]? = ops[k + j]?) ->
  (∀ s' a' w' Z' R',K s'->SR E base w' Z' R' s' a'->Step w0 Z R0 h0 w' Z' R' s'.hp->Q a' w')->KD E.P ops (fun w'=>w0.grownBy w' none) (JN ops T) T Q k rest a w
section
variable {E:Env}{cx:Cx}{ops:Array Oper}{rest rest':List Oper}{s s1:St}{K:St->Prop}{n n0 k T:Nat}{l:List (Nat×AV)}{hp hp':Hp}{Q:Ex->St->Prop}{id:Nat}{x:AV}{d:Nat}
theorem Tf {o:Oper}(hops:∀ j,(o::rest')[j]? = ops[k + j]?) (hk:Nat.blt k T=true) (hq:isQ o.op=true):JN ops T k=false:=by
 have hok:ops[k]? = some o:=by have:=hops 0; simpa using this.symm
 have hlt:k < T:=Nat.le_of_ble_eq_true hk
 exact OE hok hq (by omega)
theorem UU {o:Oper}(hops:∀ j,(o::rest')[j]? = ops[k + j]?) (hq:isQ o.op=false):JN ops T k=true:=by
 have hok:ops[k]? = some o:=by have:=hops 0; simpa using this.symm
 exact Iw hok hq
theorem Qa {o:Oper}(hops:∀ j,(o::rest')[j]? = ops[k + j]?):∀ j,rest'[j]? = ops[k + 1 + j]?:=fun j=>by have:=hops (j + 1); simpa [Nat.add_assoc,Nat.add_comm 1 j] using this
theorem RunDT.done (hr:rest=[]) (kk:K s):RunDT E cx ops T n0 k rest s K:=by
 subst hr
 exact fun ro base Q w0 Z R0 h0 a w R _ _ _ _ sr hgr st _ _ q=>⟨fun _=>hgr,q s a w Z R kk sr st⟩
theorem RunDT.mono {K':St->Prop}(h:RunDT E cx ops T n0 k rest s K) (hk:∀ s,K s->K' s):RunDT E cx ops T n0 k rest s K':=fun ro base Q w0 Z R0 h0 a w R h1 h2 h3 h4 h5 h6 h7 h8 h9 q=>h ro base Q w0 Z R0 h0 a w R h1 h2 h3 h4 h5 h6 h7 h8 h9 fun s' a' w' Z' R' hK=>q s' a' w' Z' R' (hk s' hK)
/-- An operation that reads. -/
theorem RunDT.q {o:Oper}(hr:rest=o::rest') (hk:Nat.blt k T=true) (hq:isQ o.op=true) (hw:As ops (Fr n l) o=some true) (hd:o.dst=some d) (h:Ec E.P (opA E (Fr n l)) hp o.op=some x) (hl:Ri n0 (opA E (Fr n l)) o.op=true) (kk:RunDT E cx ops T n0 (k + 1) rest' ⟨Fr n ((d,x)::l),hp⟩ K):RunDT E cx ops T n0 k rest ⟨Fr n l,hp⟩ K:=by
 subst hr
 intro ro base Q w0 Z R0 h0 a w R hro hy hh0 hn0 sr hgr st hpre hops q
 refine ⟨fun _=>hgr,?_⟩
 rw [if_pos (wantedA_eq sr hw),Tf hops hk hq,if_neg (by simp)]
 have hρ:∀ o x,opA E (Fr n l) o=some x->VR w Z R x (a.eval o):=fun o x e=>opA_vr sr o x e
 obtain ⟨u,hu,hrun⟩:=evOpQ_sound sr.hh hρ h
 have hquiet:∃ u,VR w Z R x u/\QuietAt E.P (Cf (fun w'=>w0.grownBy w' none) o) o u a:=by
  cases hl':Rf o.op with
  | false=>exact ⟨u,hu,fun w' _=>hrun w' fun h=>by rw [hl'] at h; cases h⟩
  | true =>
   obtain ⟨u1,hu1,hq1⟩:=Ku hh0 sr hgr st hpre hl' (by rw [<-hn0]; exact hl) h
   exact ⟨u1,hu1,hq1.up (N2 hl')⟩
 obtain ⟨u,hu,hquiet⟩:=hquiet
 refine ⟨u,hquiet,?_⟩
 have sr':=sr.put (d:=o.dst) hu
 rw [hd,show MK (⟨Fr n l,hp⟩:St).fr (some d) x=Fr n ((d,x)::l) from CM n l d _] at sr'
 rw [hd]
 exact kk ro base Q w0 Z R0 h0 _ w R hro hy hh0 hn0 sr' hgr st hpre (Qa hops) q
/-- One that is not wanted. -/
theorem RunDT.skip {o:Oper}(hr:rest=o::rest') (hw:As ops (Fr n l) o=some false) (hd:o.dst=some d) (kk:RunDT E cx ops T n0 (k + 1) rest' ⟨Fr n ((d,.tp [])::l),hp⟩ K):RunDT E cx ops T n0 k rest ⟨Fr n l,hp⟩ K:=by
 subst hr
 intro ro base Q w0 Z R0 h0 a w R hro hy hh0 hn0 sr hgr st hpre hops q
 refine ⟨fun _=>hgr,?_⟩
 rw [if_neg (by rw [wantedA_eq sr hw]; simp)]
 have sr':=sr.put (d:=o.dst) (x:= .tp []) undef_vr
 rw [hd,show MK (⟨Fr n l,hp⟩:St).fr (some d) (.tp [])=Fr n ((d,.tp [])::l) from CM n l d _] at sr'
 rw [hd]
 exact kk ro base Q w0 Z R0 h0 _ w R hro hy hh0 hn0 sr' hgr st hpre (Qa hops) q
/-- A told call that hands back what is flat. -/
theorem QL {α β:Type}{s:Cs α}{F:α->Option β}{er:β->AV}{a:α}{b:β}{xs ys:List AV}(hE:EnvOk E){d:Nat}{f:Operand}{args:Array Operand}{tys:Array TypeId}{ty:TypeId}{pos:String}{af:Array Edge}{g:Option (Nat×Bool)}{fid:FuncId}(hr:rest=⟨some d,.call ⟨.value f,args,tys⟩,ty,pos,af,g⟩::rest') (hw:As ops (Fr n l) ⟨some d,.call ⟨.value f,args,tys⟩,ty,pos,af,g⟩=some true)
  (hf:opA E (Fr n l) f=some (.fn fid [] [])) (hX:E.X fid=some (GP s F er)) (ha:Hg (opA E (Fr n l)) args.toList=some xs) (hv:Sees hp xs ys) (hd:s.dec ys=some a) (hok:EM (er b)=true) (hF:F a=some b) (kk:RunDT E cx ops T n0 (k + 1) rest' ⟨Fr n ((d,er b)::l),hp⟩ K):RunDT E cx ops T n0 k rest ⟨Fr n l,hp⟩ K:=by
 subst hr
 intro ro base Q w0 Z R0 h0 aa w R hro hy hh0 hn0 sr hgr st hpre hops q
 refine ⟨fun _=>hgr,?_⟩
 rw [if_pos (wantedA_eq sr hw),UU hops rfl,if_pos rfl]
 have hρ:∀ o x,opA E (Fr n l) o=some x->VR w Z R x (aa.eval o):=fun o x e=>opA_vr sr o x e
 have hvf:=hρ _ _ hf
 generalize hvq:aa.eval f=vf at hvf
 cases hvf with
 | fn hl hl' hx hy' =>
  rename_i u1 u2
  have e1:u1=[]:=by simpa using hl
  have e2:u2=[]:=by simpa using hl'
  subst e1 e2
  obtain ⟨hcl,hXs⟩:=hE.X fid _ hX
  have htold:GP s F er ys=some (er b):=Ji hd hF
  have hvs:=opds_vr hρ ha
  unfold Lw
  rw [Ep (uf:=[]) (uc:=[]) rfl hvq rfl hcl w]
  simp only [List.nil_append,List.append_nil]
  have hz1:∀ c,(Z c\/own R hp c)->c < w.heap.size:=fun c hc=>hc.elim (sr.hh.zlt c) (fun ⟨b,B,r,h1,_,h3,h4⟩=>h4 ▸ sr.hh.rltL h1 h3)
  have hg1:GI E w (fun c=>Z c\/own R hp c):=fun q y hy=>(sr.gl q y hy).mono (fun _ _=>rfl) (fun _ h=> .inl h) (fun _ _ h=>h)
  refine Ret.mono (hXs _ _ htold w _ _ hz1 hg1 (hv w Z R _ sr.hh hvs)) fun v w' ⟨hs,hv'⟩=>?_
  have k1:=sr.hh.keep hs.size (fun c hc=>hs.block c hc (by simp))
  have k3:Step w Z R hp w' Z R hp:=⟨hs.os,hs.tape,hs.output,hs.size,fun c hc _=>hs.block c hc (by simp),fun _ h=> .inl h,fun _ h=>h,fun _ h=> .inl h,fun _ _ h=>h⟩
  have sr':=(sr.step k1 k3).put (d:=some d) (flat_vr hok hv':VR w' Z R (er b) v)
  rw [show MK (⟨Fr n l,hp⟩:St).fr (some d) (er b)=Fr n ((d,er b)::l) from CM n l d _] at sr'
  exact kk ro base Q w0 Z R0 h0 _ w' R hro hy hh0 hn0 sr' (Gt hgr hs) (st.trans k3) hpre (Qa hops) q
theorem IF (hT:T=k) (h:RunL E cx ops rest s K):RunDT E cx ops T n0 k rest s K:=by
 subst hT
 intro ro base Q w0 Z R0 h0 a w R hro hy hh0 hn0 sr hgr st hpre hops q
 exact Mp (h ro base Q a w Z R hro sr (hy.step hh0 st) fun s' a' w' Z' R' hK sr' st'=>q s' a' w' Z' R' hK sr' (st.trans st')) (Nat.le_refl _) (fun _=>hgr) (fun j hj=>NX hj) hops
theorem HB (T:Nat) (hm:E.P.follows .mixedOrders=true) (hB:Region.lexB .any ops=true) (hb:NK ops (JN ops T) T=true) (h:RunDT E cx ops T s.hp.length 0 ops.toList s fun s'=>Q .normal s'):SemY E cx (.region id ops true) s Q:=by
 intro ro base Qm a w Z R hro sr hy kk
 have hgd:w.grownBy w.drew none:=PC w
 have hops:ops.toList.toArray=ops:=by simp
 have st0:Step w Z R s.hp w.drew Z R s.hp:=⟨rfl,rfl,rfl,Nat.le_refl _,fun c hc _=>rfl,fun _ h=> .inl h,fun _ h=>h,fun _ h=> .inl h,fun _ _ h=>h⟩
 have hsrd:SR E base w.drew Z R s a:=⟨sr.hh.keep (Nat.le_refl _) (fun c hc=>hgd.block c hc (by simp)),sr.fr.off (fun c hc=>rfl),sr.mks.step st0,sr.gl.off (fun c hc=>rfl),sr.bs⟩
 have hm':=h ro base (fun a w=>Qm .normal a w) w.drew Z R s.hp a w.drew R hro (hy.step sr.hh st0) hsrd.hh rfl hsrd (OG _) (Step.refl _ _ _ _) (fun b B hb=>hb) (fun j=>by simp) (fun s' a' w' Z' R' hq sr' st=>kk .normal s' a' w' Z' R' hq sr' (st0.trans st))
 have:=ID (P:=E.P) (id:=id) (l:=ops.toList) (a:=a) (w:=w) (C:=fun w'=>w.drew.grownBy w' none) (loud:=JN ops T) (T:=T) (Q':=Qm) ro 0 hm (by rw [hops]; exact hB) (by rw [hops]; exact hb) (by rw [hops]; exact hm')
 rw [hops] at this
 exact this
theorem Uy {a b:Nat}(h:a < b):Nat.blt a b=true:=by unfold Nat.blt; rw [Nat.ble_eq]; exact h
/-- May an own thing be read ahead of the tail? It was there before the region. -/
theorem Gs {α:Type}{o:Oc α}{kk off m:Nat}{t ty:TypeId}{e:AV}{xs:List α}{v:α}{h0:Hp}{L:List Asn}{p:Operand}{ρ:Operand->Option AV}(ht:Go.Proofs.YtcmgmkepodbpkaaDoor.T h0 (own_ (ocL kk t o) e xs::L)) (hv:xs[m]? = some v) (hp:ρ p=some (G6 (eAt e m) off)):Ri h0.length ρ (.load ty p)=true:=by
 obtain ⟨F,q,_⟩:=ht.act
 rcases q with ⟨rfl,rfl,_⟩ | ⟨b,es,F',rfl,h2,_⟩
 ·simp at hv
 ·simp only [Ri,hp,eAt,G6]
  exact Uy (Il h2)
theorem MF {α:Type}{o:Oc α}{kk m:Nat}{t ty:TypeId}{e:AV}{xs:List α}{v:α}{h0:Hp}{L:List Asn}{p:Operand}{ρ:Operand->Option AV}(ht:Go.Proofs.YtcmgmkepodbpkaaDoor.T h0 (own_ (ocL kk t o) e xs::L)) (hv:xs[m]? = some v) (hp:ρ p=some (eAt e m)):Ri h0.length ρ (.load ty p)=true :=
 Gs (off:=0) ht hv (by rw [Ue]; exact hp)
theorem NW {kk off:Nat}{t ty:TypeId}{q a:AV}{h0:Hp}{L:List Asn}{p:Operand}{ρ:Operand->Option AV}(ht:Go.Proofs.YtcmgmkepodbpkaaDoor.T h0 (cel q kk t a::L)) (hp:ρ p=some (G6 q off)):Ri h0.length ρ (.load ty p)=true:=by
 obtain ⟨F,⟨b,rfl,rfl,h2⟩,_⟩:=ht.act
 simp only [Ri,hp,G6]
 exact Uy (Il h2)
theorem OC {kk:Nat}{t ty:TypeId}{q a:AV}{h0:Hp}{L:List Asn}{p:Operand}{ρ:Operand->Option AV}(ht:Go.Proofs.YtcmgmkepodbpkaaDoor.T h0 (cel q kk t a::L)) (hp:ρ p=some q):Ri h0.length ρ (.load ty p)=true:=by
 obtain ⟨F,⟨b,rfl,rfl,h2⟩,_⟩:=ht.act
 simp only [Ri,hp]
 exact Uy (Il h2)
end
section
variable {P:Program}{h:Hp}{ρ:Operand->Option AV}{α:Type}{o:Oc α}{k:Nat}{t:TypeId}{e:AV}{xs:List α}{L:List Asn}
theorem IB {ty:TypeId}{x:Operand}{f:Nat}{a r:AV}(hx:ρ x=some a) (he:DI P ty a f=some r):Ec P ρ h (.fieldAddr ty x f)=some r:=by
 show (match ρ x with | some x=>DI P ty x f | none=>none)=some r
 rw [hx]; exact he
theorem JP {x:Operand}{a:AV}(ha:∃ b i,a = .pt b i 0) (hx:ρ x=some a):Ec P ρ h (.nilCheck x)=some a:=by
 obtain ⟨b,i,rfl⟩:=ha
 simp only [Ec,hx]
theorem NL {ty:TypeId}{n:Nat}{ps:Array (Nat×Operand)}{xs:List (Nat×AV)}{r:AV×Hp}(hp:Jf ρ ps.toList=some xs) (he:PG P h ty n xs=some r):Ie P ρ h (.buildSlice ty n ps)=some r:=by
 show (match Jf ρ ps.toList with | some ps=>PG P h ty n ps | none=>none)=some r
 rw [hp]; exact he
theorem Ua {ty:TypeId}{x:Operand}{z:AV}{r:AV×Hp}(hx:ρ x=some z) (he:M9 h ty z=some r):Ie P ρ h (.box ty x)=some r:=by
 show (match ρ x with | some x=>M9 h ty x | none=>none)=some r
 rw [hx]; exact he
theorem UZ {ty:TypeId}{z:AV}{r:AV×Hp}(hx:FU P ty=some z) (he:M9 h ty z=some r):Ie P ρ h (.alloc ty)=some r:=by
 show (match FU P ty with | some z=>M9 h ty z | none=>none)=some r
 rw [hx]; exact he
theorem Ee (ht:T h (own_ (ocL k t o) e xs::L)):e.notTp=true/\e.notAg=true:=by
 obtain ⟨F,p,_⟩:=ht.act
 rcases p with ⟨rfl,_⟩ | ⟨b,es,F',rfl,_⟩ <;> exact ⟨rfl,rfl⟩
theorem OO {p a:AV}(ht:T h (cel p k t a::L)):p.notTp=true/\p.notAg=true:=by
 obtain ⟨F,⟨b,rfl,_⟩,_⟩:=ht.act
 exact ⟨rfl,rfl⟩
theorem SB {p a:AV}(ht:T h (cel p k t a::L)):∃ b,p = .pt b 0 0:=by
 obtain ⟨F,⟨b,rfl,_⟩,_⟩:=ht.act
 exact ⟨b,rfl⟩
theorem Hv {p a:AV}(ht:T h (cel p k t a::L)):∃ b i,p = .pt b i 0:=let ⟨b,hb⟩:=SB ht; ⟨b,0,hb⟩
theorem XV {op:BinOp}{ty t':TypeId}{x y:Operand}{p r:AV}(hp:∃ b,p = .pt b 0 0) (hx:ρ x=some p) (hy:ρ y=some (.v (.pointer none))) (hi:PK P ty=true) (hr:eqV op false=some r):Ec P ρ h (.binOp op ty x y t')=some r:=by
 obtain ⟨b,rfl⟩:=hp
 simp [Ec,hx,hy,PE,Uu,hi,hr]
theorem XW {op:BinOp}{ty t':TypeId}{x y:Operand}{p r:AV}(hp:∃ b,p = .pt b 0 0) (hx:ρ x=some p) (hy:ρ y=some p) (hi:PK P ty=true) (hr:eqV op true=some r):Ec P ρ h (.binOp op ty x y t')=some r:=by
 obtain ⟨b,rfl⟩:=hp
 simp [Ec,hx,hy,PE,Uu,hi,hr]
/-- A pointer to a cell of its own seen as another pointer. -/
def cvB (P:Program) (a b k t:Nat):Bool:=match P.underlying a,P.underlying b with
 | some (.pointer t'),some .unsafePointer=>Nat.blt 0 k&&(match BO P t' with | some (_ + 1)=>true | _=>false)
 | some .unsafePointer,some (.pointer u)=>Nat.blt 0 k&&Nat.beq t u&&Nat.beq (P.cellsOf u) k&&(P.info? u).isSome
 | _,_=>false
theorem W1 {E:Env}{ih:IH}{cx:Cx}{ops:Array Oper}{n d:Nat}{l:List (Nat×AV)}{a b:TypeId}{x:Operand}{p c:AV}{ty:TypeId}{pos:String}{af:Array Edge}{g:Option (Nat×Bool)}(ht:T h (cel p k t c::L)) (hw:As ops (Fr n l) ⟨some d,.convert a b x,ty,pos,af,g⟩=some true) (hx:opA E (Fr n l) x=some p) (hc:cvB E.P a b k t=true):Hh E ih cx ops [⟨some d,.convert a b x,ty,pos,af,g⟩] ⟨Fr n l,h⟩=some ⟨Fr n ((d,p)::l),h⟩:=by
 obtain ⟨F,⟨q,rfl,_,h2⟩,_⟩:=ht.act
 have e1:OY E.P E.I (opA E (Fr n l)) h (.convert a b x)=some (.pt q 0 0):=by
  simp only [OY,hx]
  unfold cvB at hc
  unfold PF
  split at hc
  ·next t' h3 h4 =>
   simp only [Bool.and_eq_true] at hc
   obtain ⟨c1,c2⟩:=hc
   split at c2
   ·next m hm =>
    simp only [h3,h4,h2]
    rw [if_pos ⟨by simp,Nat.le_of_ble_eq_true c1,by rw [hm]; rfl,by rw [hm]; simp⟩]
   ·cases c2
  ·next u h3 h4 =>
   simp only [Bool.and_eq_true] at hc
   obtain ⟨⟨⟨c1,c2⟩,c3⟩,c4⟩:=hc
   simp only [h3,h4,h2]
   rw [if_pos ⟨by simp,Nat.le_of_ble_eq_true c1,Nat.eq_of_beq_eq_true c2,Nat.eq_of_beq_eq_true c3,c4⟩]
  ·cases hc
 have e0:Ec E.P (opA E (Fr n l)) h (.convert a b x)=none:=by
  simp only [Ec,hx]
  unfold Q1
  split <;> first | rfl | (next hq=>cases hq) | (rename_i h5; cases h5)
 unfold Hh op1
 simp only [hw,e0,Ie,NA,e1,CM]
 rfl
theorem W2 {E:Env}{ih:IH}{cx:Cx}{ops:Array Oper}{n d:Nat}{l:List (Nat×AV)}{f x:Operand}{p:AV}{tys:Array TypeId}{fid:FuncId}{ty:TypeId}{pos:String}{af:Array Edge}{g:Option (Nat×Bool)}(hw:As ops (Fr n l) ⟨some d,.call ⟨.value f,#[x],tys⟩,ty,pos,af,g⟩=some true) (hf:opA E (Fr n l) f=some (.fn fid [] [])) (hx:opA E (Fr n l) x=some p) (hi:E.I fid=true):Hh E ih cx ops [⟨some d,.call ⟨.value f,#[x],tys⟩,ty,pos,af,g⟩] ⟨Fr n l,h⟩=some ⟨Fr n ((d,p)::l),h⟩:=by
 have e1:OY E.P E.I (opA E (Fr n l)) h (.call ⟨.value f,#[x],tys⟩)=some p:=by
  simp [OY,hf,Hg,hx,hi]
 unfold Hh op1
 simp only [hw,Ec,Ie,NA,e1,CM]
 rfl
/-- The bytes of a string as numbers. -/
def Bn (bs:List UInt8):List Int:=bs.map fun b=>(b.toNat:Int)
theorem RY (a b:List UInt8):Bn (a++b)=Bn a++Bn b:=List.map_append
theorem I4 (a:List UInt8):(Bn a).length=a.length:=List.length_map _
theorem Qy {bs:List UInt8}:I9 h 1 (.st bs)=some ((Bn bs).map (cdK .u8).enc):=by
 simp [I9,Bn,cdK,List.map_map,Function.comp_def]
theorem Qu:∀ (bs:List UInt8),Om ((Bn bs).map (cdK .u8).enc)=some bs
 | []=>rfl
 | b::bs=>by
  have:=Qu bs
  simp only [Bn,List.map_cons] at this ⊢
  show (if 0<=(b.toNat:Int)/\(b.toNat:Int) < 256 then (Om _).map fun l=>(b.toNat:Int).toNat.toUInt8::l else none)=_
  rw [if_pos ⟨by omega,by have:=b.toNat_lt; omega⟩,this]
  simp
theorem XX {args:Array Operand}{tys:Array TypeId}{a:AV}(ht:T h (own_ (ocL k t o) a xs::L)) (hx:Hg ρ args.toList=some [a]) (hn:decide (0 < xs.length)=true):Ec P ρ h (.call ⟨.builtin .unsafeSliceData,args,tys⟩)=some (eAt a (0:Int).toNat):=by
 obtain ⟨F,p,_⟩:=ht.act
 have hn:=of_decide_eq_true hn
 rcases p with ⟨rfl,rfl,_⟩ | ⟨b,es,F',rfl,h2,_⟩
 ·simp at hn
 ·obtain ⟨m,hm⟩:∃ m,xs.length=m + 1:=⟨xs.length - 1,by omega⟩
  simp [Ec,hx,hm,eAt]
theorem Tq {ty el:TypeId}{bs:List UInt8}(ht:T h (own_ (ocL 1 el (ocV (cdK .u8))) e (Bn bs)::L)) (hu:P.underlying ty=some (.pointer el)) (hc:P.cellsOf el=1) (hn:decide (0 < bs.length)=true) (hk:okB bs=true):∃ h',Ns P h ty (eAt e (0:Int).toNat) (.v (.int .i64 ((Bn bs).length:Int)))=some (.st bs,h')/\T h' L:=by
 obtain ⟨F,p,hn',_,hk0⟩:=ht.act
 have hn:=of_decide_eq_true hn
 have hl:=I4 bs
 rcases p with ⟨rfl,h1,_⟩ | ⟨b,es,F',rfl,h2,rfl,h4⟩
 ·rw [h1] at hl; simp at hl; omega
 ·obtain ⟨rfl,rfl⟩:=h4.leaf_inv
  refine ⟨h.set b none,?_,hk0 _ fun c hc hlt=>?_⟩
  ·rw [show eAt (.rf b 0 (Bn bs).length (Bn bs).length) (0:Int).toNat = .pt b 0 0 from rfl]
   simp only [Ns,hu,h2]
   have ht':(((Bn bs).map (cdK .u8).enc).take ((Bn bs).length:Int).toNat)=(Bn bs).map (cdK .u8).enc:=by
    rw [List.take_of_length_le]; simp
   simp only [ht',Qu,hk]
   rw [if_pos ⟨trivial,trivial,trivial,hc,by omega,by simp⟩]
   rfl
  ·rw [List.getElem?_set,if_neg (by intro e; subst e; simp at hc)]
theorem WU {t1 t2:TypeId}{x y:Operand}{a b:AV}{r:AV×Hp}(hx:ρ x=some a) (hy:ρ y=some b) (he:Ns P h t1 a b=some r):NA P ρ h (.call ⟨.builtin .unsafeString,#[x,y],#[t1,t2]⟩)=some r:=by
 show (match Hg ρ [x,y],[t1,t2] with | some [x,n],[t,_]=>Ns P h t x n | _,_=>none)=some r
 simp only [Hg,hx,hy]
 exact he
theorem NS {j:Nat}{e':AV}{y:α}(ht:T h (own_ o e' y::Ob k t o e xs j e' y::L)):T h (own_ (ocL k t o) e xs::L):=by
 have hv:xs[j]? = some y:=by
  obtain ⟨F,p,_⟩:=(T.drop ht).act
  obtain ⟨b,es,F',_,_,_,_,_,hv⟩:=p
  exact hv
 have:=ht.merge
 have he:xs.set j y=xs:=by
  apply List.ext_getElem?
  intro i
  rw [List.getElem?_set]
  split
  ·next hij=>subst hij; rw [if_pos (List.getElem?_eq_some_iff.1 hv).1]; exact hv.symm
  ·rfl
 rwa [he] at this
end
def Wg (P:Program) (t:TypeId):Bool:=match P.underlying t with
 | some (.slice _)=>true
 | _=>false
theorem Q8 {P:Program}{t:TypeId}(h:Wg P t=true):∃ el,P.underlying t=some (.slice el):=by
 unfold Wg at h
 split at h
 ·next el he=>exact ⟨el,he⟩
 ·cases h
def XI:AV->Bool
 | .ag [_]=>false
 | _=>true
theorem TQ {z:AV}(h:XI z=true):elm z.cel=z:=by
 cases z with
 | ag cs =>
  match cs,h with
  | [],_=>rfl
  | [x],h=>cases h
  | x::y::l,_=>rfl
 | _=>rfl
def zeB (P:Program) (el:TypeId):Bool:=match FU P el with
 | some z=>XI z
 | none=>false
def Wc (P:Program) (t:TypeId) (f off:Nat):Bool:=match P.underlying t with
 | some (.struct fs)=>match fs[f]? with
  | some fd=>match BO P fd.type with
   | some (_ + 1)=>Nat.beq fd.offset off
   | _=>false
  | none=>false
 | _=>false
theorem Q4 {P:Program}{t:TypeId}{f off:Nat}(h:Wc P t f off=true):∃ fs fd q,P.underlying t=some (.struct fs)/\fs[f]? = some fd/\BO P fd.type=some (q + 1)/\fd.offset=off:=by
 unfold Wc at h
 split at h
 ·next fs h1 =>
  split at h
  ·next fd h2 =>
   split at h
   ·next q h3=>exact ⟨fs,fd,q,h1,h2,h3,Nat.eq_of_beq_eq_true h⟩
   ·cases h
  ·cases h
 ·cases h
section
variable {P:Program}{h:Hp}{α:Type}{o:Oc α}{c:Cd α}{k bytes n:Nat}{t ty ty2:TypeId}{e y:AV}{xs ys:List α}{L:List Asn}{v:α}
theorem NJ (ht:T h (own_ (ocL k t o) e xs::L)) (hu:Wg P ty=true):K2 P ty e=some (eI xs.length):=let ⟨_,h1⟩:=Q8 hu; US ht h1
theorem Lp {i:Int}{ki:IntKind}(ht:T h (own_ (ocL k t o) e xs::L)) (ha:apB P ty t k bytes=true) (hv:idx xs i=some v):CV P h ty e (.v (.int ki i))=some (eAt e i.toNat):=by
 obtain ⟨i',z,a1,a2,a3,a4,_⟩:=KH ha
 have hu:P.underlying ty=some (.slice t):=by
  unfold HA at a1
  split at a1
  ·next e he=>injection a1 with a1; rw [he,a1]
  ·cases a1
 exact VE ht hu (by rw [BO,a2,<-a4]; rfl) hv
theorem If (ht:T h (own_ (ocL k t o) e xs::own_ (ocL k t o) y ys::L)) (hu:Wg P ty2=true) (ha:apB P ty t k bytes=true) (hc:Bb bytes (xs.length + ys.length)=true):∃ e' h',C3 P h ty ty2 e y=some (e',h')/\T h' (own_ (ocL k t o) e' (xs++ys)::L):=by
 obtain ⟨_,h1⟩:=Q8 hu
 obtain ⟨i,z,a1,a2,a3,a4,a5,a6,a7,a8⟩:=KH ha
 exact UD ht h1 a1 a2 a3 a4 (Uy a5) a6 a7 a8 hc
theorem Ph (ht:T h (own_ (ocL k t (ocV c)) e xs::L)) (hsy:KC P ty2 y=true) (hel:I9 h k y=some (ys.map c.enc)) (ha:apB P ty t k bytes=true) (hc:Bb bytes (xs.length + ys.length)=true):∃ e' h',C3 P h ty ty2 e y=some (e',h')/\T h' (own_ (ocL k t (ocV c)) e' (xs++ys)::L):=by
 obtain ⟨i,z,a1,a2,a3,a4,a5,a6,a7,a8⟩:=KH ha
 exact TE ht hsy hel a1 a2 a3 a4 (Uy a5) a6 a7 a8 hc
theorem Ft {es:List AV}(hf:Fit o k) (ht:T h (els o es xs::L)) (hn:es.length=n) (ha:apB P ty t k bytes=true) (hz:zeB P t=true) (hb:Nat.ble (n * k) 65536=true):∃ e' h',PG P h ty n (J5 0 es)=some (e',h')/\T h' (own_ (ocL k t o) e' xs::L):=by
 obtain ⟨i,z,a1,a2,a3,a4,a5,a6,a7,a8⟩:=KH ha
 unfold zeB at hz
 rw [a3] at hz
 exact UT hf ht hn a1 a2 a3 a4 (Uy a5) hb a6 a7 (TQ hz)
theorem SX {z:AV}{m:Int}{kn kc:IntKind}{x0:α}(ht:T h L) (hx:∀ h,o.at_ h z x0 []) (ha:apB P ty t k bytes=true) (hz:FU P t=some z) (hc:OV bytes m=true):∃ e' h',Jo P h ty (.v (.int kn m)) (.v (.int kc m))=some (e',h')/\T h' (own_ (ocL k t o) e' (List.replicate m.toNat x0)::L):=by
 obtain ⟨i,z',a1,a2,a3,a4,a5,a6,a7,a8⟩:=KH ha
 rw [hz] at a3
 injection a3 with a3
 subst a3
 exact Tc ht hx a1 a2 hz a4 a6 a7 a8 hc
theorem Ik {f off:Nat}{p a:AV}(ht:T h (cel p k t a::L)) (hf:Wc P ty f off=true):DI P ty p f=some (G6 p off):=by
 obtain ⟨fs,fd,q,h1,h2,h3,rfl⟩:=Q4 hf
 exact UJ ht h1 h2 h3
theorem LK {f off m:Nat}(ht:T h (own_ (ocL k t o) e xs::L)) (hv:xs[m]? = some v) (hf:Wc P ty f off=true):DI P ty (eAt e m) f=some (G6 (eAt e m) off):=by
 obtain ⟨fs,fd,q,h1,h2,h3,rfl⟩:=Q4 hf
 exact UK ht hv h1 h2 h3
end
/-- What a call is handed, own or not, as it is told. -/
def SeeD {α:Type}(hp:Hp) (c:Cd α) (x:AV) (v:α):Prop:=∃ y,SeeV hp x y/\c.dec y=some v
def SeesD {α:Type}(hp:Hp) (s:Cs α) (xs:List AV) (a:α):Prop:=∃ ys,Sees hp xs ys/\s.dec ys=some a
theorem SeesD.nil {hp:Hp}:SeesD hp csN [] ():=⟨[],.nil,rfl⟩
theorem CR {α β:Type}{hp:Hp}{c:Cd α}{s:Cs β}{x:AV}{xs:List AV}{v:α}{a:β}(h1:SeeD hp c x v) (h2:SeesD hp s xs a):SeesD hp (csC c s) (x::xs) (v,a):=by
 obtain ⟨y,k1,k2⟩:=h1
 obtain ⟨ys,q1,q2⟩:=h2
 refine ⟨y::ys,.cons k1 q1,?_⟩
 show ((c.dec y).bind fun x=>(s.dec ys).map fun y=>(x,y))=_
 rw [k2,q2]; rfl
theorem H4 {α:Type}{hp:Hp}{c:Cd α}{v:α}:SeeD hp c (c.enc v) v:=⟨_,.enc,c.de v⟩
theorem SeeD.e0 {α:Type}{hp:Hp}{c:Cd α}{k:Nat}:SeeD hp (cdL k c) .e0 []:=⟨.e0,.id rfl,rfl⟩
theorem SeeD.own {α:Type}{hp:Hp}{o:Oc α}{e:AV}{x:α}{L:List Asn}{i:Nat}(ht:T hp L) (hi:L[i]? = some (own_ o e x)):SeeD hp o.cd e x:=⟨_,.own ht hi,o.cd.de x⟩
theorem TB {α β:Type}{hp:Hp}{c:Cd α}{d:Cd β}{hc:∀ x,LG (c.enc x)=true}{hd:∀ x,LG (d.enc x)=true}{x y:AV}{v:α}{w:β}(h1:SeeD hp c x v) (h2:SeeD hp d y w):SeeD hp (EF c d hc hd) (.ag [x,y]) (v,w):=by
 obtain ⟨x',k1,k2⟩:=h1
 obtain ⟨y',q1,q2⟩:=h2
 refine ⟨.ag [x',y'],.ag (.cons k1 (.cons q1 .nil)),?_⟩
 show ((c.dec x').bind fun p=>(d.dec y').map fun q=>(p,q))=_
 rw [k2,q2]; rfl
section
variable {E:Env}{cx:Cx}{ops:Array Oper}{rest rest':List Oper}{K:St->Prop}{n n0 k T:Nat}{l:List (Nat×AV)}{hp:Hp}
theorem MZ {α β:Type}{s:Cs α}{F:α->Option β}{er:β->AV}{a:α}{b:β}{xs:List AV}(hE:EnvOk E){d:Nat}{f:Operand}{args:Array Operand}{tys:Array TypeId}{ty:TypeId}{pos:String}{af:Array Edge}{g:Option (Nat×Bool)}{fid:FuncId}(hr:rest=⟨some d,.call ⟨.value f,args,tys⟩,ty,pos,af,g⟩::rest') (hw:As ops (Fr n l) ⟨some d,.call ⟨.value f,args,tys⟩,ty,pos,af,g⟩=some true)
  (hf:opA E (Fr n l) f=some (.fn fid [] [])) (hX:E.X fid=some (GP s F er)) (ha:Hg (opA E (Fr n l)) args.toList=some xs) (hv:SeesD hp s xs a) (hok:EM (er b)=true) (hF:F a=some b) (k:RunL E cx ops rest' ⟨Fr n ((d,er b)::l),hp⟩ K):RunL E cx ops rest ⟨Fr n l,hp⟩ K :=
 let ⟨_,q1,q2⟩:=hv
 RT hE hr hw hf hX ha q1 q2 (.inr hok) hF k
theorem QK {α β:Type}{s:Cs α}{F:α->Option β}{er:β->AV}{a:α}{b:β}{xs:List AV}(hE:EnvOk E){d:Nat}{f:Operand}{args:Array Operand}{tys:Array TypeId}{ty:TypeId}{pos:String}{af:Array Edge}{g:Option (Nat×Bool)}{fid:FuncId}(hr:rest=⟨some d,.call ⟨.value f,args,tys⟩,ty,pos,af,g⟩::rest') (hw:As ops (Fr n l) ⟨some d,.call ⟨.value f,args,tys⟩,ty,pos,af,g⟩=some true)
  (hf:opA E (Fr n l) f=some (.fn fid [] [])) (hX:E.X fid=some (GP s F er)) (ha:Hg (opA E (Fr n l)) args.toList=some xs) (hv:SeesD hp s xs a) (hok:EM (er b)=true) (hF:F a=some b) (kk:RunDT E cx ops T n0 (k + 1) rest' ⟨Fr n ((d,er b)::l),hp⟩ K):RunDT E cx ops T n0 k rest ⟨Fr n l,hp⟩ K :=
 let ⟨_,q1,q2⟩:=hv
 QL hE hr hw hf hX ha q1 q2 hok hF kk
theorem Rx (hE:EnvOk E){kk d:Nat}{t a b:TypeId}{x:Operand}{p c:AV}{ty:TypeId}{pos:String}{af:Array Edge}{g:Option (Nat×Bool)}{L:List Asn}(hr:rest=⟨some d,.convert a b x,ty,pos,af,g⟩::rest') (ht:Go.Proofs.YtcmgmkepodbpkaaDoor.T hp (cel p kk t c::L)) (hw:As ops (Fr n l) ⟨some d,.convert a b x,ty,pos,af,g⟩=some true) (hx:opA E (Fr n l) x=some p) (hc:cvB E.P a b kk t=true) (k:RunL E cx ops rest' ⟨Fr n ((d,p)::l),hp⟩ K):RunL E cx ops rest ⟨Fr n l,hp⟩ K :=
 AG hE 0 hr (W1 ht hw hx hc) k
theorem TA (hE:EnvOk E){d:Nat}{f x:Operand}{p:AV}{tys:Array TypeId}{fid:FuncId}{ty:TypeId}{pos:String}{af:Array Edge}{g:Option (Nat×Bool)}(hr:rest=⟨some d,.call ⟨.value f,#[x],tys⟩,ty,pos,af,g⟩::rest') (hw:As ops (Fr n l) ⟨some d,.call ⟨.value f,#[x],tys⟩,ty,pos,af,g⟩=some true) (hf:opA E (Fr n l) f=some (.fn fid [] [])) (hx:opA E (Fr n l) x=some p) (hi:E.I fid=true) (k:RunL E cx ops rest' ⟨Fr n ((d,p)::l),hp⟩ K):RunL E cx ops rest ⟨Fr n l,hp⟩ K :=
 AG hE 0 hr (W2 hw hf hx hi) k
theorem RunL.call {α β:Type}{s:Cs α}{F:α->Option β}{er:β->AV}{a:α}{b:β}{xs:List AV}(hE:EnvOk E){d:Nat}{f:Operand}{args:Array Operand}{tys:Array TypeId}{ty:TypeId}{pos:String}{af:Array Edge}{g:Option (Nat×Bool)}{fid:FuncId}(hr:rest=⟨some d,.call ⟨.value f,args,tys⟩,ty,pos,af,g⟩::rest') (hw:As ops (Fr n l) ⟨some d,.call ⟨.value f,args,tys⟩,ty,pos,af,g⟩=some true)
  (hf:opA E (Fr n l) f=some (.fn fid [] [])) (hi:E.I fid=false) (hX:E.X fid=some (GP s F er)) (ha:Hg (opA E (Fr n l)) args.toList=some xs) (hv:Sns hp s xs a) (hok:xs.all DU=true\/EM (er b)=true) (hF:F a=some b) (k:RunL E cx ops rest' ⟨Fr n ((d,er b)::l),hp⟩ K):RunL E cx ops rest ⟨Fr n l,hp⟩ K :=
 AG hE 0 hr (Qb hw hf hi hX ha hv hok hF) k
end
section
variable {E:Env}{cx:Cx}{ops:Array Oper}{s:St}{Q:Ex->St->Prop}{id:Nat}{A:St->Prop}{c:Code}
theorem KF (h:RunL E cx ops ops.toList s fun s'=>∃ s1,A s1/\WkY E s' s1) (q:∀ s1,A s1->Q .normal s1):SemY E cx (.region id ops false) s Q :=
 GQ (e0:= .normal) (A:=A) (AC (Q:=fun e s'=>e = .normal/\∃ s2,A s2/\WkY E s' s2) (RunL.mono h fun _s' hs=>⟨rfl,hs⟩)) q
theorem RW (T:Nat) (hm:E.P.follows .mixedOrders=true) (hB:Region.lexB .any ops=true) (hb:NK ops (JN ops T) T=true) (h:RunDT E cx ops T s.hp.length 0 ops.toList s fun s'=>∃ s1,A s1/\WkY E s' s1) (q:∀ s1,A s1->Q .normal s1):SemY E cx (.region id ops true) s Q :=
 GQ (e0:= .normal) (A:=A) (HB T hm hB hb (Q:=fun e s'=>e = .normal/\∃ s2,A s2/\WkY E s' s2) (RunDT.mono h fun _s' hs=>⟨rfl,hs⟩)) q
theorem Dw (h:SemY E cx c s fun e s'=>∃ s2,WkY E s' s2/\Q e s2):SemY E cx c s Q:=by
 intro ro base Qm a w Z R h1 h2 h3 k
 refine h ro base Qm a w Z R h1 h2 h3 fun e s' a' w' Z' R' hQ sr st=>?_
 obtain ⟨s2,hw,hq⟩:=hQ
 obtain ⟨Z2,R2,sr2,st2⟩:=hw base w' Z' R' a' sr
 exact k e s2 a' w' Z2 R2 hq sr2 (st.trans st2)
end
def IY:Option Bool:=some true
def Is:Cs Unit:=csN
def It (b:Bool):AV:=cdB.enc b
def MQ:List AV->Option AV:=GP Is (fun _=>IY) It
theorem MY:XOk 13 MQ:=by
 refine ⟨⟨Tryd.call13⟩,fun xs x h w Z us _ _ hv=>?_⟩
 obtain ⟨a,ha,h⟩:=OB h
 obtain ⟨b,hb,rfl⟩:=Option.map_eq_some_iff.1 h
 have hb:=OI hb
 subst hb
 have:xs=[]:=by
  cases xs with
  | nil=>rfl
  | cons x xs=>cases ha
 subst this
 have:us=[]:=by have:=hv.len; simpa using this
 subst this
 exact Ret.mono (R8 w) fun v w' h=>⟨h.2,by rw [h.1]; exact Un⟩
/-- slices.Clone: nil for nil, else a new slice. -/
noncomputable def PB:Code:=BK Tryd.f20
def EG (xs:List Int):Option Blk:=some ⟨1,3,xs.map cdI.enc,false⟩
set_option maxRecDepth 100000 in
theorem Pj (xs:List Int) (hc:Bb 8 xs.length=true):Sem E0 ⟨none,false⟩ PB ⟨Fr 8 [(0,.sl 1 (xs.map cdI.enc))],[]⟩ fun e s'=>(e = .normal\/e = .ret)/\((xs=[]/\s'=⟨Fr 8 [(2,.e0)],[]⟩)\/s'=⟨Fr 8 [(2,.rf 0 0 xs.length xs.length)],[EG xs]⟩):=by
 refine AE ?_
 refine AI (s1:=⟨Fr 8 [(0,.sl 1 (xs.map cdI.enc)),(2,.e0)],[]⟩) ?_ ?_
 ·refine JU BB 1 (s1:=⟨Fr 8 [(0,.sl 1 (xs.map cdI.enc)),(2,.e0)],[]⟩) (by kernel_rfl) ?_
  exact AO rfl Ah
 refine AE ?_
 refine AE (Qo ?_)
 refine JU BB 1 (s1:=⟨Fr 8 [(0,.sl 1 (xs.map cdI.enc)),(2,.e0),(3,.sl 1 (xs.map cdI.enc))],[]⟩) (by kernel_rfl) ?_
 refine RV (k:=1) (el:=3) (es:=xs.map cdI.enc) rfl (AA rfl) (by kernel_rfl) (by kernel_rfl) fun b hb=>AO rfl ?_
 have hb:b=true->xs=[]:=fun h=>List.map_eq_nil_iff.1 (hb h)
 refine AU (b:=b) (by kernel_rfl) (fun hb1=>?_) (fun hb1=>?_)
 ·have hx:=hb hb1
  refine Bz ?_
  refine AE (AI (s1:=⟨Fr 8 [(2,.e0)],[]⟩) ?_ (An ?_))
  ·refine JU BB 1 (s1:=⟨Fr 8 [(0,.sl 1 (xs.map cdI.enc)),(2,.e0),(3,.sl 1 (xs.map cdI.enc)),(4,.v (.bool b))],[]⟩) (by kernel_rfl) ?_
   exact AO rfl Ah
  ·exact ⟨_,Wk.refl,.inr rfl,.inl ⟨hx,rfl⟩⟩
 ·refine AX ?_
  refine Bz (AE (Qo ?_))
  refine JU BB 2 (s1:=⟨Fr 8 [(0,.sl 1 (xs.map cdI.enc)),(2,.e0),(3,.sl 1 (xs.map cdI.enc)),(4,.v (.bool b)),(5,.rf 0 0 0 0),(6,.sl 1 (xs.map cdI.enc))],[EG []]⟩) (by kernel_rfl) ?_
  cases xs with
  | nil =>
   refine AJ BB 0 rfl (Ox (x:= .rf 0 0 0 0) (hp':=[EG []]) (AA rfl) rfl (by kernel_rfl) (by kernel_rfl) (by kernel_rfl)) ?_
   refine JU BB 1 (s1:=⟨Fr 8 [(0,.sl 1 []),(2,.rf 0 0 0 0),(3,.sl 1 []),(4,.v (.bool b)),(5,.rf 0 0 0 0),(6,.sl 1 []),(7,.rf 0 0 0 0)],[EG []]⟩) (by kernel_rfl) (AO rfl (An ?_))
   exact ⟨⟨Fr 8 [(2,.rf 0 0 0 0)],[EG []]⟩,Ah,.inr rfl,.inr rfl⟩
  | cons y ys =>
   refine AJ BB 0 rfl (Ox (AA rfl) rfl (by kernel_rfl) (by kernel_rfl) (DO (a:= .rf 0 0 0 0) (b:= .sl 1 ((y::ys).map cdI.enc)) (by kernel_rfl) (by kernel_rfl) (TG (c:=cdI) (xs:=[]) (vs:=y::ys) (k:=1) (bytes:=8) (el:=3) (by kernel_rfl) (by kernel_rfl) TP (List.cons_ne_nil _ _) (by kernel_rfl) (by rw [List.length_nil,Nat.zero_add]; exact hc)))) ?_
   refine JU BB 1 (s1:=⟨Fr 8 [(0,.sl 1 ((y::ys).map cdI.enc)),(2,.rf 1 0 (y::ys).length (y::ys).length),(3,.sl 1 ((y::ys).map cdI.enc)),(4,.v (.bool b)),(5,.rf 0 0 0 0),(6,.sl 1 ((y::ys).map cdI.enc)),(7,.rf 1 0 (y::ys).length (y::ys).length)],[none,EG (y::ys)]⟩) (by kernel_rfl) (AO rfl (An ?_))
   exact ⟨⟨Fr 8 [(2,.rf 0 0 (y::ys).length (y::ys).length)],[EG (y::ys)]⟩,Ac [1] ⟨⟨_,rfl,Ai⟩,trivial⟩ ⟨lv,trivial⟩,.inr rfl,.inr rfl⟩
/-- .. as it is told to those who only read. -/
def Cm (xs:List Int):Option (List Int):=if Bb 8 xs.length=true then some xs else none
def Ev:Cs (List Int×Unit):=csC (cdL 1 cdI) csN
def E2 (r:List Int):AV:=(cdL 1 cdI).enc r
def H0:List AV->Option AV:=GP Ev (fun a=>Cm a.1) E2
theorem H2:XOk 20 H0:=by
 refine EnvOk.x (E:=E0) (Af BB (fn:=Tryd.f20) (c:=PB) ?h1 ?h2 ⟨Tryd.call20⟩ Ev (fun a=>Cm a.1) E2 (fun a=>(by show 1<=8; decide)) ?h3 ?h4) rfl rfl
 case h1=>kernel_rfl
 case h2=>kernel_rfl
 case h3=>intro b; kernel_rfl
 case h4 =>
  intro a r h
  have h:Cm a.1=some r:=h
  unfold Cm at h
  by_cases hc:Bb 8 a.1.length=true
  ·rw [if_pos hc] at h
   injection h with h
   subst h
   refine Bz (Sem.mono (Pj a.1 hc) ?_)
   rintro e s' ⟨he,⟨hx,rfl⟩ | rfl⟩
   ·rw [hx]
    exact ⟨⟨Fr 8 [(2,.sl 1 [])],[none]⟩,Wk.trans (s1:=⟨Fr 8 [(2,.e0)],[none]⟩) Wk.none (FV 0 (.inl (by kernel_rfl)) ⟨.inl rfl,trivial⟩ ⟨⟨.e0,(by kernel_rfl),SS⟩,trivial⟩),he,[.sl 1 []],by kernel_rfl,by kernel_rfl⟩
   ·exact ⟨⟨Fr 8 [(2,.sl 1 (a.1.map cdI.enc))],[none]⟩,FV 0 (.inl (by kernel_rfl)) ⟨.inl rfl,trivial⟩ ⟨⟨.rf 0 0 a.1.length a.1.length,(by kernel_rfl),Oo (c:=cdI) (xs:=a.1) (t:=3) (by kernel_rfl)⟩,trivial⟩,he,[.sl 1 (a.1.map cdI.enc)],by kernel_rfl,by kernel_rfl⟩
  ·rw [if_neg hc] at h; cases h
def O6 (xs:List Int) (x:AV) (h':Hp):Prop:=(xs=[]/\x = .e0/\h'=[])\/(x = .rf 0 0 xs.length xs.length/\h'=[EG xs])
theorem OM (xs:List Int) (hc:Bb 8 xs.length=true):SOk 20 [.sl 1 (xs.map cdI.enc)] (O6 xs):=by
 refine O2 BB rfl rfl (fn:=Tryd.f20) (c:=PB) (by kernel_rfl) (by kernel_rfl) ⟨Tryd.call20⟩ (by show 1<=8; decide) (Sem.mono (Pj xs hc) ?_)
 rintro e s' ⟨he,⟨hx,rfl⟩ | rfl⟩
 ·exact ⟨he,[.e0],by kernel_rfl,.inl ⟨hx,rfl,rfl⟩⟩
 ·exact ⟨he,[.rf 0 0 xs.length xs.length],by kernel_rfl,.inr ⟨rfl,rfl⟩⟩
theorem Pt (xs:List Int):(xs.map cdI.enc).all JF=true:=by
 rw [List.all_eq_true]
 intro x hx
 obtain ⟨y,_,rfl⟩:=List.mem_map.1 hx
 rfl
theorem I6 {xs:List Int}:∀ x h',O6 xs x h'->Mq x=true/\Oa h'=true:=by
 rintro x h' (⟨_,rfl,rfl⟩ | ⟨rfl,rfl⟩)
 ·exact ⟨rfl,rfl⟩
 ·refine ⟨rfl,?_⟩
  show (!false&&(xs.map cdI.enc).all JF&&true)=true
  rw [Pt]; rfl
/-- What slices.Clone makes is own. -/
theorem L0 {h:Hp}{L:List Asn}{xs:List Int}{x:AV}{h':Hp}(ht:T h L) (hO:O6 xs x h'):∃ e hp,e=shN h.length x/\hp=h++h'/\T hp (own_ (ocL 1 3 (ocV cdI)) e xs::L):=by
 rcases hO with ⟨rfl,rfl,rfl⟩ | ⟨rfl,rfl⟩
 ·exact ⟨.e0,h,rfl,by simp,T.e0 ht⟩
 ·exact ⟨.rf h.length 0 xs.length xs.length,h++[EG xs],rfl,rfl,PQ (Fh ht) rfl⟩
/-- .. and a struct of a number and a slice of its own. -/
theorem WI {h:Hp}{L:List Asn}{n:Int}{xs:List Int}{x:AV}{h':Hp}(ht:T h L) (hO:x = .ag [.v (.int .i64 n),.rf 0 0 xs.length xs.length]/\h'=[EG xs,none]):∃ e hp,.ag [.v (.int .i64 n),e]=shN h.length x/\hp=h++h'/\T hp (own_ (ocL 1 3 (ocV cdI)) e xs::L):=by
 obtain ⟨rfl,rfl⟩:=hO
 refine ⟨.rf h.length 0 xs.length xs.length,h++[EG xs,none],rfl,rfl,?_⟩
 have h1:T (h++[EG xs]) (own_ (ocL 1 3 (ocV cdI)) (.rf h.length 0 xs.length xs.length) xs::L):=PQ (Fh ht) rfl
 refine h1.grow fun b hb=>?_
 rw [show h++[EG xs,none]=(h++[EG xs])++[none] by simp,List.getElem?_append_left hb]
theorem Uk {n:Int}{xs:List Int}:∀ x h',(x = .ag [.v (.int .i64 n),.rf 0 0 xs.length xs.length]/\h'=[EG xs,none])->Mq x=true/\Oa h'=true:=by
 rintro x h' ⟨rfl,rfl⟩
 refine ⟨rfl,?_⟩
 show (!false&&(xs.map cdI.enc).all JF&&true)=true
 rw [Pt]; rfl
/-- An element of a slice whose cells were written. -/
theorem VG {α:Type}{e:α->AV}{xs:List α}{P:Program}{h:Hp}{v:α}{n:Nat}{t t' el:TypeId}{b k:Nat}{ki:IntKind}{i:Int}(hn:xs.length=n) (hu:P.underlying t=some (.slice el)) (hs:BO P el=some k) (hb:h[b]? = some (some ⟨k,t',xs.map e,false⟩)) (hv:idx xs i=some v):CV P h t (.rf b 0 n n) (.v (.int ki i))=some (.pt b i.toNat 0):=by
 subst hn; exact LF hu hs hb hv
def LM (lo hi:Int) (n:Nat):Bool:=HG lo hi n&&decide (lo < hi)
theorem Mr {lo hi:Int}{n:Nat}(h:LM lo hi n=true):0<=lo/\lo < hi/\hi<=n:=by
 simp only [LM,HG,Bool.and_eq_true,decide_eq_true_eq] at h
 omega
theorem RD {lo hi:Int}{n:Nat}(h:LM lo hi n=true):HG lo hi n=true:=by
 simp only [LM,Bool.and_eq_true] at h; exact h.1
theorem Uf {α:Type}{xs:List α}{lo hi:Int}(h:LM lo hi xs.length=true):(xs.take hi.toNat).drop lo.toNat≠[]:=by
 obtain ⟨h1,h2,h3⟩:=Mr h
 intro e
 have:=congrArg List.length e
 simp at this
 omega
section
variable {P:Program}{h:Hp}
theorem Tm {α:Type}{e:α->AV}{xs:List α}{t t' el:TypeId}{b k:Nat}{lo hi:Int}{a b':Option AV}(hu:P.underlying t=some (.slice el)) (hs:BO P el=some k) (hb:h[b]? = some (some ⟨k,t',xs.map e,false⟩)) (ha:M0 a 0=some lo.toNat) (hb':M0 b' xs.length=some hi.toNat) (hc:LM lo hi xs.length=true) :
  HK P h t (.rf b 0 xs.length xs.length) a b' none=some (.rf b (0 + lo.toNat) (hi.toNat - lo.toNat) (xs.length - lo.toNat)):=by
 obtain ⟨h1,h2,h3⟩:=Mr hc
 unfold HK
 rw [hu]
 simp only [hb,ha,hb',show M0 none xs.length=some xs.length from rfl]
 rw [if_pos ⟨by omega,by omega,by omega,.inl rfl,hs⟩,if_pos (by omega)]
theorem Sw {α:Type}{c:Cd α}{xs:List α}{t':TypeId}{b k:Nat}{lo hi:Int}(hn:∀ x,DU (c.enc x)=true) (hb:h[b]? = some (some ⟨k,t',xs.map c.enc,false⟩)) (hc:LM lo hi xs.length=true) :
  O5 h [.rf b (0 + lo.toNat) (hi.toNat - lo.toNat) (xs.length - lo.toNat)]=some [.sl k (((xs.take hi.toNat).drop lo.toNat).map c.enc)]:=by
 obtain ⟨h1,h2,h3⟩:=Mr hc
 have e:Um h (.rf b (0 + lo.toNat) (hi.toNat - lo.toNat) (xs.length - lo.toNat))=some (.sl k (((xs.take hi.toNat).drop lo.toNat).map c.enc)):=by
  show PZ h (.rf b (0 + lo.toNat) (hi.toNat - lo.toNat) (xs.length - lo.toNat))=_
  unfold PZ
  simp only [hb]
  rw [if_pos ⟨by simp; omega,by simp [hn]⟩,Nat.zero_add,List.map_drop,List.map_take,List.drop_take]
 unfold O5
 rw [e]
 rfl
end
theorem kr.{u}{α:Sort u}{a b:α}(h:a=b:=by kernel_rfl):a=b:=h
/-- The slots of a frame that are told. -/
def slG:Nat->List (Option AV)->List (Nat×AV)
 | _,[]=>[]
 | i,some x::r=>(i,x)::slG (i + 1) r
 | i,none::r=>slG (i + 1) r
theorem Si:∀ (fr:List (Option AV)) (i t:Nat) (x:AV),lk (slG i fr) t=some x->∃ j,t=i + j/\fr[j]? = some (some x)
 | [],_,_,_,h=>by cases h
 | some y::r,i,t,x,h=>by
  rw [slG,JM] at h
  split at h
  ·next e=>injection h with h; subst e h; exact ⟨0,rfl,rfl⟩
  ·obtain ⟨j,h1,h2⟩:=Si r (i + 1) t x h
   exact ⟨j + 1,by omega,by simpa using h2⟩
 | none::r,i,t,x,h=>by
  obtain ⟨j,h1,h2⟩:=Si r (i + 1) t x h
  exact ⟨j + 1,by omega,by simpa using h2⟩
def frO (o:Option St):List (Nat×AV):=match o with
 | some s=>slG 0 s.fr
 | none=>[]
def Wh (o:Option St):Option (Nat×Hp):=match o with
 | some s=>some (s.fr.length,s.hp)
 | none=>none
section
variable {E:Env}{cx:Cx}{ops:Array Oper}{rest:List Oper}{K:St->Prop}{n n0 k0 m:Nat}{l l':List (Nat×AV)}{hp hp':Hp}{Q:Ex->St->Prop}{id:Nat}{c:Code}
theorem RM {o:Option St}(h:Wh o=some (n,hp)):∃ fr,o=some ⟨fr,hp⟩/\fr.length=n/\frO o=slG 0 fr:=by
 unfold Wh at h
 split at h
 ·next s =>
  injection h with h
  injection h with h1 h2
  subst h2
  exact ⟨s.fr,rfl,h1,rfl⟩
 ·cases h
theorem SR.comp {base:Bs}{w:World}{Z:Nat->Prop}{R:List RI}{a:Act}{fr:List (Option AV)}(sr:SR E base w Z R ⟨fr,hp⟩ a) (hl:fr.length=n):SR E base w Z R ⟨Fr n (slG 0 fr),hp⟩ a:=by
 refine ⟨sr.hh,⟨?_,fun t x hx=>sr.fr.2 t x ?_⟩,sr.mks,sr.gl,sr.bs⟩
 ·rw [G8,<-hl]; exact sr.fr.1
 ·rw [GE] at hx
  split at hx
  ·injection hx with hx
   obtain ⟨j,h1,h2⟩:=Si fr 0 t x hx
   rw [Nat.zero_add] at h1
   subst h1
   exact h2
  ·cases hx
/-- Some operations: the state behind them is computed. -/
theorem AH (hE:EnvOk E) (m:Nat) (k:RunL E cx ops (rest.drop m) ⟨Fr n (frO (Hh E (evC E 0) ⟨none,false⟩ ops (rest.take m) ⟨Fr n l,hp⟩)),hp⟩ K) (h:Wh (Hh E (evC E 0) ⟨none,false⟩ ops (rest.take m) ⟨Fr n l,hp⟩)=some (n,hp):=by kernel_rfl):RunL E cx ops rest ⟨Fr n l,hp⟩ K:=by
 obtain ⟨fr,h1,h2,h3⟩:=RM h
 rw [h3] at k
 refine Ql hE m h1 ?_
 exact fun ro base Q a w Z R hro sr hy q=>k ro base Q a w Z R hro (sr.comp h2) hy q
theorem Cb (hE:EnvOk E) (m:Nat) (hp':Hp) (k:RunY E cx ops (rest.drop m) ⟨Fr n (frO (Hh E (evC E 0) ⟨none,false⟩ ops (rest.take m) ⟨Fr n l,hp⟩)),hp'⟩ K) (h:Wh (Hh E (evC E 0) ⟨none,false⟩ ops (rest.take m) ⟨Fr n l,hp⟩)=some (n,hp'):=by kernel_rfl):RunY E cx ops rest ⟨Fr n l,hp⟩ K:=by
 obtain ⟨fr,h1,h2,h3⟩:=RM h
 rw [h3] at k
 refine Qn hE m h1 ?_
 exact fun ro base Q a w Z R hro sr hy q=>k ro base Q a w Z R hro (sr.comp h2) hy q
/-- All that are left. -/
theorem AS (hE:EnvOk E) (l':List (Nat×AV)) (k:K ⟨Fr n l',hp⟩) (h:RL (Hh E (evC E 0) ⟨none,false⟩ ops rest ⟨Fr n l,hp⟩) l'=some (n,xs2 l',hp):=by kernel_rfl):RunL E cx ops rest ⟨Fr n l,hp⟩ K :=
 EW hE rest.length l' hp (by rw [List.take_length]; exact h) (AL (by simp) k)
theorem BC (hE:EnvOk E) (l':List (Nat×AV)) (hp':Hp) (k:K ⟨Fr n l',hp'⟩) (h:RL (Hh E (evC E 0) ⟨none,false⟩ ops rest ⟨Fr n l,hp⟩) l'=some (n,xs2 l',hp'):=by kernel_rfl):RunY E cx ops rest ⟨Fr n l,hp⟩ K :=
 Pf hE rest.length l' hp' (by rw [List.take_length]; exact h) (RunY.done (by simp) k)
theorem AK (hE:EnvOk E){s:St}(h:RL (Hh E (evC E 0) ⟨none,false⟩ ops rest s) l'=some (n,xs2 l',hp):=by kernel_rfl):RunS E ops rest s fun s'=>Wk E s' ⟨Fr n l',hp⟩ :=
 AB hE rest.length l' hp (by rw [List.take_length]; exact h) (AO (by simp) Wk.refl)
theorem UB (hE:EnvOk E) (l':List (Nat×AV)) (k:Q .normal ⟨Fr n l',hp⟩) (h:RL (Hh E (evC E 0) ⟨none,false⟩ ops ops.toList ⟨Fr n l,hp⟩) l'=some (n,xs2 l',hp):=by kernel_rfl):SemY E cx (.region id ops false) ⟨Fr n l,hp⟩ Q :=
 AC (AS hE l' k h)
theorem AY (hE:EnvOk E) (l':List (Nat×AV)) (k:SemY E cx c ⟨Fr n l',hp⟩ Q) (h:RL (Hh E (evC E 0) ⟨none,false⟩ ops ops.toList ⟨Fr n l,hp⟩) l'=some (n,xs2 l',hp):=by kernel_rfl):SemY E cx (.seq (.region id ops false) c) ⟨Fr n l,hp⟩ Q :=
 AD (UB hE l' k h)
theorem Cq (hE:EnvOk E) (l':List (Nat×AV)) (hp':Hp) (k:Q .normal ⟨Fr n l',hp'⟩) (h:RL (Hh E (evC E 0) ⟨none,false⟩ ops ops.toList ⟨Fr n l,hp⟩) l'=some (n,xs2 l',hp'):=by kernel_rfl):Sem E cx (.region id ops false) ⟨Fr n l,hp⟩ Q :=
 AI (AK hE h) k
theorem AN (hE:EnvOk E) (l':List (Nat×AV)) (hp':Hp) (k:Sem E cx c ⟨Fr n l',hp'⟩ Q) (h:RL (Hh E (evC E 0) ⟨none,false⟩ ops ops.toList ⟨Fr n l,hp⟩) l'=some (n,xs2 l',hp'):=by kernel_rfl):Sem E cx (.seq (.region id ops false) c) ⟨Fr n l,hp⟩ Q :=
 AE (Cq hE l' hp' k h)
end
/- trestle/trestlelaw09.Sizes -/
noncomputable def FG:Env:=E0
theorem Hs:EnvOk FG:=BB
noncomputable def Ir:Code:=BK Tryd.f35
def EV (x0:(List Int)):Nat->(List Int)->Int->Int->Option (((List Int)×Int))
 | 0,_,_,_=>none
 | f + 1,c2,c3,c4 =>
  if (decide (c4 < (((x0.take (mnI (x0.length:Int) 8).toNat).drop (0:Int).toNat).length:Int)))=true then
  (idx ((x0.take (mnI (x0.length:Int) 8).toNat).drop (0:Int).toNat) c4).bind fun v6 =>
  if (Bb 8 (c2.length + 1))=true then
  EV x0 f (c2++[(wr .i64 (1 + (wr .i64 (v6.tmod 6))))]) (wr .i64 (c3 + (wr .i64 (1 + (wr .i64 (v6.tmod 6)))))) (wr .i64 (c4 + 1))
  else none
  else
  some (c2,c3)
def E9 (x0:(List Int)):Option ((List Int)×Int) :=
 if (HG 0 (mnI (x0.length:Int) 8) x0.length)=true then
 (EV x0 100000 [] 0 0).bind fun r10 =>
 if (r10.2==0)=true then
 some ([1],1)
 else
 some (r10.1,r10.2)
 else none
def HW:Cs ((List Int)×Unit):=(csC (cdL 1 (cdK .u8)) csN)
def Ha (r:(List Int)×Int):AV:= .tp [(cdL 1 cdI).enc r.1,cdI.enc r.2]
theorem NI (x0:(List Int)):∀ (f:Nat) (c2:(List Int)) (c3:Int) (c4:Int) (r:((List Int)×Int)),EV x0 f c2 c3 c4=some r->SemN FG ⟨none,false⟩ (pc Ir [1,1,1,0,1,0,0]) f ⟨Fr 37 [(4,hd 0 (c2.map cdI.enc)),(5,.v (.int .i64 c3)),(12,.sl 1 (((x0.take (mnI (x0.length:Int) 8).toNat).drop (0:Int).toNat).map (cdK .u8).enc)),(13,.v (.int .i64 (((x0.take (mnI (x0.length:Int) 8).toNat).drop (0:Int).toNat).length:Int))),(14,.v (.int .i64 c4))],[mk 1 3 (c2.map cdI.enc)]⟩ (fun e s=>e=(.exit 0)/\Wk FG s ⟨Fr 37 [(4,hd 0 (r.1.map cdI.enc)),(5,.v (.int .i64 r.2))],[mk 1 3 (r.1.map cdI.enc)]⟩):=by
 have he:=Hs
 intro f;induction f with
 | zero=>intro c2 c3 c4 r h; cases h
 | succ f ih0 =>
  intro c2 c3 c4 r h
  have ih:=fun (c2:(List Int)) (c3:Int) (c4:Int)=>ih0 c2 c3 c4 r
  unfold EV at h;refine BJ ?_
  let p1:Option Blk:=mk 1 3 (c2.map cdI.enc)
  let p2:Nat×AV:=(14,.v (.int .i64 c4))
  let p3:Nat×AV:=(13,.v (.int .i64 (((x0.take (mnI (x0.length:Int) 8).toNat).drop (0:Int).toNat).length:Int)))
  let p4:Nat×AV:=(12,.sl 1 (((x0.take (mnI (x0.length:Int) 8).toNat).drop (0:Int).toNat).map (cdK .u8).enc))
  let p5:Nat×AV:=(5,.v (.int .i64 c3))
  refine AN he [(4,hd 0 (c2.map cdI.enc)),p5,p4,p3,p2,(15,.v (.bool (decide (c4 < (((x0.take (mnI (x0.length:Int) 8).toNat).drop (0:Int).toNat).length:Int)))))] [p1] ?_;refine AE ?_;refine AU (b:=(decide (c4 < (((x0.take (mnI (x0.length:Int) 8).toNat).drop (0:Int).toNat).length:Int)))) kr (fun hb5=>?_) (fun hb5=>?_)
  ·rw [if_pos hb5] at h
   refine AX ?_;refine AE ?_;refine AQ ?_;refine AE ?_;obtain ⟨v6,hv6,h⟩:=OB h
   let p6:Nat×AV:=(7,.v (.int .u8 v6))
   refine AI (s1:=⟨Fr 37 [(4,hd 0 (c2.map cdI.enc)),p5,p6,p4,p3,p2],[p1]⟩) ?_ ?_
   ·refine AJ he 0 rfl (Am (AA rfl) rfl (AF (a:= .sl 1 (((x0.take (mnI (x0.length:Int) 8).toNat).drop (0:Int).toNat).map (cdK .u8).enc)) (b:= .v (.int .i64 c4)) kr kr (DT (e:=(cdK .u8).enc) (el:=5) (k:=1) (ki:= .i64) kr kr hv6))) ?_
    exact AK he
   refine AE ?_;by_cases hk7:(Bb 8 (c2.length + 1))=true
   case neg=>rw [if_neg hk7] at h; cases h
   rw [if_pos hk7] at h
   let p7:Option Blk:=mk 1 3 ((c2++[(wr .i64 (1 + (wr .i64 (v6.tmod 6))))]).map cdI.enc)
   let p8:Nat×AV:=(4,hd 0 ((c2++[(wr .i64 (1 + (wr .i64 (v6.tmod 6))))]).map cdI.enc))
   refine AI (s1:=⟨Fr 37 [p8,p5,p6,p4,p3,p2],[p7]⟩) ?_ ?_
   ·let p9:Option Blk:=mk 1 3 ([(wr .i64 (1 + (wr .i64 (v6.tmod 6))))].map cdI.enc)
    refine AB (n:=37) he 6 [p5,p6,p4,p3,p2,(18,hd 0 (c2.map cdI.enc)),(23,hd 1 ([(wr .i64 (1 + (wr .i64 (v6.tmod 6))))].map cdI.enc))] [p1,p9] kr ?_;refine AJ he 0 rfl (Ox (AA rfl) rfl kr kr (DO (a:=hd 0 (c2.map cdI.enc)) (b:=hd 1 ([(wr .i64 (1 + (wr .i64 (v6.tmod 6))))].map cdI.enc)) kr kr (JV (c:=cdI) (xs:=c2) (vs:=[(wr .i64 (1 + (wr .i64 (v6.tmod 6))))]) (k:=1) (bytes:=8) (el:=3) kr kr (JX (t:=3) kr) (List.cons_ne_nil _ _) kr hk7))) ?_;refine AB (n:=37) he 1 [(4,hd 2 ((c2++[(wr .i64 (1 + (wr .i64 (v6.tmod 6))))]).map cdI.enc)),p5,p6,p4,p3,p2] [none,p9,p7] kr ?_;exact AO rfl (Ac [2] ⟨⟨_,rfl,DP⟩,trivial⟩ ⟨Do (b':=2) kr kr,lv,lv,lv,lv,lv,trivial⟩)
   let p10:Nat×AV:=(5,.v (.int .i64 (wr .i64 (c3 + (wr .i64 (1 + (wr .i64 (v6.tmod 6))))))))
   refine Cq he [p8,p10,p4,p3,p2] [p7] ?_
   let p11:Nat×AV:=(14,.v (.int .i64 (wr .i64 (c4 + 1))))
   refine Cq he [p8,p10,p4,p3,p11] [p7] ?_;exact Ae (s1:=⟨Fr 37 [p8,p10,p4,p3,p11],[p7]⟩) (Ac [0] ⟨⟨_,rfl,DP⟩,trivial⟩ ⟨Do (b':=0) kr kr,lv,lv,lv,lv,trivial⟩) (ih (c2++[(wr .i64 (1 + (wr .i64 (v6.tmod 6))))]) (wr .i64 (c3 + (wr .i64 (1 + (wr .i64 (v6.tmod 6)))))) (wr .i64 (c4 + 1)) h)
  ·rw [B9 hb5] at h
   refine Ba ?_;have hq:=OI h; subst hq;exact ⟨rfl,(Ac [0] ⟨⟨_,rfl,DP⟩,trivial⟩ ⟨Do (b':=0) kr kr,lv,trivial⟩)⟩
theorem OA (x0:(List Int)) (r:(List Int)×Int) (h:E9 x0=some r):Sem FG ⟨none,false⟩ Ir ⟨Fr 37 (Av 0 (HW.enc (x0,()))),[]⟩ fun e s'=>(e = .normal\/e = .ret)/\∃ xs,FA FG.P s'.fr s'.hp Tryd.f35.results.toList=some xs/\FZ xs=Ha r:=by
 have he:=Hs
 unfold E9 at h
 let p1:Nat×AV:=(0,.sl 1 (x0.map (cdK .u8).enc))
 refine Bz (DX (s1:=⟨Fr 37 [p1],[]⟩) Ah ?_);refine AN he [p1] [] ?_;refine AN he [p1,(4,.e0)] [] ?_
 let p2:Nat×AV:=(5,.v (.int .i64 0))
 refine AN he [p1,(4,.e0),p2] [] ?_;refine AE ?_;refine AE ?_;by_cases hk1:(HG 0 (mnI (x0.length:Int) 8) x0.length)=true
 case neg=>rw [if_neg hk1] at h; cases h
 rw [if_pos hk1] at h
 let p3:Nat×AV:=(14,.v (.int .i64 0))
 let p4:Nat×AV:=(13,.v (.int .i64 (((x0.take (mnI (x0.length:Int) 8).toNat).drop (0:Int).toNat).length:Int)))
 let p5:Nat×AV:=(12,.sl 1 (((x0.take (mnI (x0.length:Int) 8).toNat).drop (0:Int).toNat).map (cdK .u8).enc))
 refine AI (s1:=⟨Fr 37 [(4,.e0),p2,p5,p4,p3],[]⟩) ?_ ?_
 ·let p6:Nat×AV:=(8,.sl 1 (x0.map (cdK .u8).enc))
  refine AB (n:=37) he 2 [(4,.e0),p2,p6,(9,.sl 1 (x0.map (cdK .u8).enc))] [] kr ?_;refine AJ he 0 rfl (Am (AA rfl) rfl (BZ (a:= .sl 1 (x0.map (cdK .u8).enc)) kr (Aw (el:=5) kr))) ?_;refine AB (n:=37) he 1 [(4,.e0),p2,p6,(11,.v (.int .i64 (mnI (x0.length:Int) 8)))] [] kr ?_;refine AJ he 0 rfl (Am (AA rfl) rfl (Jg (a:= .sl 1 (x0.map (cdK .u8).enc)) (l:=none) (u:=(some (.v (.int .i64 (mnI (x0.length:Int) 8))))) (m:=none) kr kr kr rfl (MN (xs:=x0) (e:=(cdK .u8).enc) (k:=1) (el:=5) (lo:=0) (hi:=(mnI (x0.length:Int) 8)) kr kr rfl (Jt (Nq hk1)) hk1))) ?_;refine AJ he 0 rfl (Am (AA rfl) rfl (BZ (a:= .sl 1 (((x0.take (mnI (x0.length:Int) 8).toNat).drop (0:Int).toNat).map (cdK .u8).enc)) kr (Aw (el:=5) kr))) ?_;exact AK he
 refine AQ ?_;obtain ⟨r10,hr10,h⟩:=OB h;refine Bm (n:=100000) ?_;refine BD (Ae (s1:=⟨Fr 37 [(4,hd 0 ([].map cdI.enc)),p2,p5,p4,p3],[mk 1 3 ([].map cdI.enc)]⟩) (Wk.trans (s1:=⟨Fr 37 [(4,hd 0 ([].map cdI.enc)),p2,p5,p4,p3],[mk 1 3 ([].map cdI.enc)]⟩) Wk.none (Ac [0] ⟨⟨_,rfl,KI⟩,trivial⟩ ⟨lv,lv,lv,lv,lv,trivial⟩)) (NI x0 _ [] 0 0 _ hr10)) ?_;refine AE ?_
 let p7:Option Blk:=mk 1 3 (r10.1.map cdI.enc)
 refine AN he [(4,hd 0 (r10.1.map cdI.enc)),(5,.v (.int .i64 r10.2)),(33,.v (.bool (r10.2==0)))] [p7] ?_;refine AU (b:=(r10.2==0)) kr (fun hb11=>?_) (fun hb11=>?_)
 ·rw [if_pos hb11] at h
  refine AE ?_
  let p8:Nat×AV:=(3,.v (.int .i64 1))
  refine AI (s1:=⟨Fr 37 [(2,hd 0 ([1].map cdI.enc)),p8],[mk 1 3 ([1].map cdI.enc)]⟩) ?_ ?_
  ·refine AB (n:=37) he 3 [(2,hd 1 ([1].map cdI.enc)),p8] [p7,mk 1 3 ([1].map cdI.enc)] kr ?_
   exact AO rfl (Ac [1] ⟨⟨_,rfl,DP⟩,trivial⟩ ⟨Do (b':=1) kr kr,lv,trivial⟩)
  refine An ?_;have hq:=OI h; subst hq;exact ⟨⟨Fr 37 [(2,.sl 1 ([1].map cdI.enc)),p8],[]⟩,(Wk.trans (s1:=⟨Fr 37 [(2,.sl 1 ([1].map cdI.enc)),p8],[none]⟩) (FV 0 (.inl kr) ⟨.inl rfl,trivial⟩ ⟨⟨hd 0 ([1].map cdI.enc),kr,Pv (t:=3) kr KO⟩,⟨.v (.int .i64 1),kr,.inl rfl⟩,trivial⟩) (Ac [] trivial ⟨lv,lv,trivial⟩)),.inr rfl,[.sl 1 ([1].map cdI.enc),.v (.int .i64 1)],kr,kr⟩
 ·rw [B9 hb11] at h
  refine AX ?_
  let p9:Nat×AV:=(3,.v (.int .i64 r10.2))
  refine AN he [(2,hd 0 (r10.1.map cdI.enc)),p9] [p7] ?_;refine An ?_;have hq:=OI h; subst hq;exact ⟨⟨Fr 37 [(2,.sl 1 (r10.1.map cdI.enc)),p9],[]⟩,(Wk.trans (s1:=⟨Fr 37 [(2,.sl 1 (r10.1.map cdI.enc)),p9],[none]⟩) (FV 0 (.inl kr) ⟨.inl rfl,trivial⟩ ⟨⟨hd 0 (r10.1.map cdI.enc),kr,Pv (t:=3) kr KO⟩,⟨.v (.int .i64 r10.2),kr,.inl rfl⟩,trivial⟩) (Ac [] trivial ⟨lv,lv,trivial⟩)),.inr rfl,[.sl 1 (r10.1.map cdI.enc),.v (.int .i64 r10.2)],kr,kr⟩
def MP:List AV->Option AV:=GP HW (fun a=>E9 a.1) Ha
theorem MX:XOk 35 MP:=by
 refine EnvOk.x (E:=FG) (Af Hs (fn:=Tryd.f35) (c:=Ir) ?h1 ?h2 ⟨Tryd.call35⟩ HW (fun a=>E9 a.1) Ha (fun a=>(by show 1<=37; decide)) ?h3 ?h4) rfl rfl
 case h1=>kernel_rfl
 case h2=>kernel_rfl
 case h3=>intro b; kernel_rfl
 case h4=>exact fun a b h=>OA a.1 b h
/- trestle/trestlelaw09.Made -/
noncomputable def CJ:Env:=(E0.withX 35 MP)
theorem D9:EnvOk CJ:=(EnvOk.withX BB MX.1 MX.2)
noncomputable def FB:Code:=BK Tryd.f25
def E5 (x1:(List (List (Int×Int)))) (v1:(List Int)×Int):Nat->(List Int)->Int->Option (((List Int)))
 | 0,_,_=>none
 | f + 1,c3,c4 =>
  if (decide (c4 < ((List.replicate v1.2.toNat (0:Int)).length:Int)))=true then
  (idx c3 c4).bind fun v6 =>
  E5 x1 v1 f (c3.set c4.toNat c4) (wr .i64 (c4 + 1))
  else
  some c3
def E7 (x1:(List (List (Int×Int)))) (v1:(List Int)×Int) (c12:Int) (v14:(List (Int×Int))):Nat->(List Int)->(List (List (List Int)))->Int->Option (((List Int)×(List (List (List Int)))))
 | 0,_,_,_=>none
 | f + 1,c16,c17,c18 =>
  if (decide (c18 < (((v14.take (mnI (v14.length:Int) 20).toNat).drop (0:Int).toNat).length:Int)))=true then
  (idx ((v14.take (mnI (v14.length:Int) 20).toNat).drop (0:Int).toNat) c18).bind fun v20 =>
  if v1.2=(0:Int) then none else
  if v1.2=(0:Int) then none else
  (idx c16 ((wr .i64 v20.2).tmod v1.2)).bind fun v23 =>
  (idx c16 ((wr .i64 v20.1).tmod v1.2)).bind fun v24 =>
  (idx c16 ((wr .i64 v20.1).tmod v1.2)).bind fun v25 =>
  (idx (c16.set (((wr .i64 v20.1).tmod v1.2).toNat) v23) ((wr .i64 v20.2).tmod v1.2)).bind fun v26 =>
  E7 x1 v1 c12 v14 f ((c16.set (((wr .i64 v20.1).tmod v1.2).toNat) v23).set (((wr .i64 v20.2).tmod v1.2).toNat) v24) c17 (wr .i64 (c18 + 1))
  else
  some (c16,c17)
def E8 (x1:(List (List (Int×Int)))) (v1:(List Int)×Int) (c12:Int) (r29:(List Int)×(List (List (List Int)))):Nat->(List (List Int))->Int->Int->Option (((List (List Int))))
 | 0,_,_,_=>none
 | f + 1,c30,c31,c32 =>
  if (decide (c32 < (v1.1.length:Int)))=true then
  (idx v1.1 c32).bind fun v34 =>
  if (LM c31 (wr .i64 (c31 + v34)) r29.1.length)=true then
  if (Bb 8 ((r29.1.take (wr .i64 (c31 + v34)).toNat).drop c31.toNat).length)=true then
  if (Bb 24 (c30.length + 1))=true then
  E8 x1 v1 c12 r29 f (c30++[((r29.1.take (wr .i64 (c31 + v34)).toNat).drop c31.toNat)]) (wr .i64 (c31 + v34)) (wr .i64 (c32 + 1))
  else none
  else none
  else none
  else
  some c30
def E6 (x1:(List (List (Int×Int)))) (v1:(List Int)×Int):Nat->(List Int)->(List (List (List Int)))->Int->Option (((List (List (List Int)))))
 | 0,_,_,_=>none
 | f + 1,c10,c11,c12 =>
  if (decide (c12 < (((x1.take (mnI (x1.length:Int) 10).toNat).drop (0:Int).toNat).length:Int)))=true then
  (idx ((x1.take (mnI (x1.length:Int) 10).toNat).drop (0:Int).toNat) c12).bind fun v14 =>
  if (HG 0 (mnI (v14.length:Int) 20) v14.length)=true then
  (E7 x1 v1 c12 v14 100000 c10 c11 0).bind fun r29 =>
  (E8 x1 v1 c12 r29 100000 [] 0 0).bind fun r39 =>
  if (Bb 24 (r29.2.length + 1))=true then
  E6 x1 v1 f r29.1 (r29.2++[r39]) (wr .i64 (c12 + 1))
  else none
  else none
  else
  some c11
def GM (x0:(List Int)) (x1:(List (List (Int×Int)))):Option ((List (List (List Int)))×(List Int)×Int) :=
 (E9 x0).bind fun v1 =>
 if (OV 8 v1.2)=true then
 (E5 x1 v1 100000 (List.replicate v1.2.toNat (0:Int)) 0).bind fun r8 =>
 if (HG 0 (mnI (x1.length:Int) 10) x1.length)=true then
 (E6 x1 v1 100000 r8 [] 0).bind fun r42 =>
 some (r42,v1.1,v1.2)
 else none
 else none
def H5:Cs ((List Int)×(List (List (Int×Int)))×Unit):=(csC (cdL 1 (cdK .u8)) (csC (cdL 1 (cdL 2 (EF (cdK .u8) (cdK .u8) (fun _=>rfl) (fun _=>rfl)))) csN))
def H6 (r:(List (List (List Int)))×(List Int)×Int):AV:= .tp [(cdL 1 (cdL 1 (cdL 1 cdI))).enc r.1,(cdL 1 cdI).enc r.2.1,cdI.enc r.2.2]
theorem N6 (x1:(List (List (Int×Int)))) (v1:(List Int)×Int):∀ (f:Nat) (c3:(List Int)) (c4:Int) (r:((List Int))),E5 x1 v1 f c3 c4=some r->SemN CJ ⟨none,false⟩ (pc FB [1,1,1,0,1,0,0]) f ⟨Fr 112 [(1,.sl 1 (x1.map (cdL 2 (EF (cdK .u8) (cdK .u8) (fun _=>rfl) (fun _=>rfl))).enc)),(7,.sl 1 (v1.1.map cdI.enc)),(8,.v (.int .i64 v1.2)),(9,.rf 0 0 c3.length c3.length),(30,.v (.int .i64 ((List.replicate v1.2.toNat (0:Int)).length:Int))),(31,.v (.int .i64 c4))],[some ⟨1,3,(c3.map cdI.enc),false⟩]⟩ (fun e s=>e=(.exit 0)/\Wk CJ s ⟨Fr 112 [(1,.sl 1 (x1.map (cdL 2 (EF (cdK .u8) (cdK .u8) (fun _=>rfl) (fun _=>rfl))).enc)),(7,.sl 1 (v1.1.map cdI.enc)),(8,.v (.int .i64 v1.2)),(9,.rf 0 0 r.length r.length)],[some ⟨1,3,(r.map cdI.enc),false⟩]⟩):=by
 have he:=D9
 intro f;induction f with
 | zero=>intro c3 c4 r h; cases h
 | succ f ih0 =>
  intro c3 c4 r h
  have ih:=fun (c3:(List Int)) (c4:Int)=>ih0 c3 c4 r
  unfold E5 at h;refine BJ ?_
  let p1:Option Blk:=some ⟨1,3,(c3.map cdI.enc),false⟩
  let p2:Nat×AV:=(31,.v (.int .i64 c4))
  let p3:Nat×AV:=(30,.v (.int .i64 ((List.replicate v1.2.toNat (0:Int)).length:Int)))
  let p4:Nat×AV:=(9,.rf 0 0 c3.length c3.length)
  let p5:Nat×AV:=(8,.v (.int .i64 v1.2))
  let p6:Nat×AV:=(7,.sl 1 (v1.1.map cdI.enc))
  let p7:Nat×AV:=(1,.sl 1 (x1.map (cdL 2 (EF (cdK .u8) (cdK .u8) (fun _=>rfl) (fun _=>rfl))).enc))
  refine AN he [p7,p6,p5,p4,p3,p2,(32,.v (.bool (decide (c4 < ((List.replicate v1.2.toNat (0:Int)).length:Int)))))] [p1] ?_;refine AE ?_;refine AU (b:=(decide (c4 < ((List.replicate v1.2.toNat (0:Int)).length:Int)))) kr (fun hb5=>?_) (fun hb5=>?_)
  ·rw [if_pos hb5] at h
   refine AX ?_;refine AE ?_;refine AQ ?_;refine AN he [p7,p6,p5,p4,(10,.v (.int .i64 c4)),p3,p2] [p1] ?_;obtain ⟨v6,hv6,h⟩:=OB h
   let p8:Option Blk:=some ⟨1,3,((c3.set c4.toNat c4).map cdI.enc),false⟩
   let p9:Nat×AV:=(9,.rf 0 0 (c3.set c4.toNat c4).length (c3.set c4.toNat c4).length)
   refine AI (s1:=⟨Fr 112 [p7,p6,p5,p9,p3,p2],[p8]⟩) ?_ ?_
   ·refine AB (n:=112) he 3 [p7,p6,p5,p4,p3,p2,(34,.rf 0 0 c3.length c3.length),(35,.v (.int .i64 c4)),(36,.v (.int .i64 c4))] [p1] kr ?_
    refine AJ he 0 rfl (Am (AA rfl) rfl (AF (a:= .rf 0 0 c3.length c3.length) (b:= .v (.int .i64 c4)) kr kr (LF (e:=cdI.enc) (xs:=c3) (t':=3) (el:=3) (k:=1) (ki:= .i64) kr kr kr hv6))) ?_;refine RunS.store he (y:= .pt 0 c4.toNat 0) (z:= .v (.int .i64 c4)) rfl (AA rfl) kr kr (M4 (t':=3) (k:=1) (e:=cdI.enc) (xs:=c3) (v:=v6) (v':=c4) kr (AW hv6).2 kr kr kr) ?_;exact AO rfl (Ac [0] ⟨⟨_,rfl,Ai⟩,trivial⟩ ⟨lv,lv,lv,UV (b':=0) (n:=c3.length) kr (by simp) kr,lv,lv,trivial⟩)
   let p10:Nat×AV:=(31,.v (.int .i64 (wr .i64 (c4 + 1))))
   refine Cq he [p7,p6,p5,p9,p3,p10] [p8] ?_;exact Ae (s1:=⟨Fr 112 [p7,p6,p5,p9,p3,p10],[p8]⟩) (Ac [0] ⟨⟨_,rfl,Ai⟩,trivial⟩ ⟨lv,lv,lv,lv,lv,lv,trivial⟩) (ih (c3.set c4.toNat c4) (wr .i64 (c4 + 1)) h)
  ·rw [B9 hb5] at h
   refine Ba ?_;have hq:=OI h; subst hq;exact ⟨rfl,(Ac [0] ⟨⟨_,rfl,Ai⟩,trivial⟩ ⟨lv,lv,lv,lv,trivial⟩)⟩
theorem N8 (x1:(List (List (Int×Int)))) (v1:(List Int)×Int) (c12:Int) (v14:(List (Int×Int))):∀ (f:Nat) (c16:(List Int)) (c17:(List (List (List Int)))) (c18:Int) (r:((List Int)×(List (List (List Int))))),E7 x1 v1 c12 v14 f c16 c17 c18=some r->SemN CJ ⟨none,false⟩ (pc FB [1,1,1,1,1,0,1,0,0,1,1,0,0,1,0,1,0,0]) f ⟨Fr 112 [(7,.sl 1 (v1.1.map cdI.enc)),(8,.v (.int .i64 v1.2)),(9,.rf 0 0 c16.length c16.length),(11,hd 1 (c17.map (cdL 1 (cdL 1 cdI)).enc)),(43,.sl 1 (((x1.take (mnI (x1.length:Int) 10).toNat).drop (0:Int).toNat).map (cdL 2 (EF (cdK .u8) (cdK .u8) (fun _=>rfl) (fun _=>rfl))).enc)),(44,.v (.int .i64 (((x1.take (mnI (x1.length:Int) 10).toNat).drop (0:Int).toNat).length:Int))),(45,.v (.int .i64 c12)),(53,.sl 2 (((v14.take (mnI (v14.length:Int) 20).toNat).drop (0:Int).toNat).map (EF (cdK .u8) (cdK .u8) (fun _=>rfl) (fun _=>rfl)).enc)),(54,.v (.int .i64 (((v14.take (mnI (v14.length:Int) 20).toNat).drop (0:Int).toNat).length:Int))),(55,.v (.int .i64 c18))],[some ⟨1,3,(c16.map cdI.enc),false⟩,mk 1 50 (c17.map (cdL 1 (cdL 1 cdI)).enc)]⟩ (fun e s=>e=(.exit 4)/\Wk CJ s ⟨Fr 112 [(7,.sl 1 (v1.1.map cdI.enc)),(8,.v (.int .i64 v1.2)),(9,.rf 0 0 r.1.length r.1.length),(11,hd 1 (r.2.map (cdL 1 (cdL 1 cdI)).enc)),(43,.sl 1 (((x1.take (mnI (x1.length:Int) 10).toNat).drop (0:Int).toNat).map (cdL 2 (EF (cdK .u8) (cdK .u8) (fun _=>rfl) (fun _=>rfl))).enc)),(44,.v (.int .i64 (((x1.take (mnI (x1.length:Int) 10).toNat).drop (0:Int).toNat).length:Int))),(45,.v (.int .i64 c12))],[some ⟨1,3,(r.1.map cdI.enc),false⟩,mk 1 50 (r.2.map (cdL 1 (cdL 1 cdI)).enc)]⟩):=by
 have he:=D9
 intro f;induction f with
 | zero=>intro c16 c17 c18 r h; cases h
 | succ f ih0 =>
  intro c16 c17 c18 r h
  have ih:=fun (c16:(List Int)) (c17:(List (List (List Int)))) (c18:Int)=>ih0 c16 c17 c18 r
  unfold E7 at h;refine BJ ?_;refine AN he [(7,.sl 1 (v1.1.map cdI.enc)),(8,.v (.int .i64 v1.2)),(9,.rf 0 0 c16.length c16.length),(11,hd 1 (c17.map (cdL 1 (cdL 1 cdI)).enc)),(43,.sl 1 (((x1.take (mnI (x1.length:Int) 10).toNat).drop (0:Int).toNat).map (cdL 2 (EF (cdK .u8) (cdK .u8) (fun _=>rfl) (fun _=>rfl))).enc)),(44,.v (.int .i64 (((x1.take (mnI (x1.length:Int) 10).toNat).drop (0:Int).toNat).length:Int))),(45,.v (.int .i64 c12)),(53,.sl 2 (((v14.take (mnI (v14.length:Int) 20).toNat).drop (0:Int).toNat).map (EF (cdK .u8) (cdK .u8) (fun _=>rfl) (fun _=>rfl)).enc)),(54,.v (.int .i64 (((v14.take (mnI (v14.length:Int) 20).toNat).drop (0:Int).toNat).length:Int))),(55,.v (.int .i64 c18)),(56,.v (.bool (decide (c18 < (((v14.take (mnI (v14.length:Int) 20).toNat).drop (0:Int).toNat).length:Int)))))] [some ⟨1,3,(c16.map cdI.enc),false⟩,mk 1 50 (c17.map (cdL 1 (cdL 1 cdI)).enc)] ?_;refine AE ?_;refine AU (b:=(decide (c18 < (((v14.take (mnI (v14.length:Int) 20).toNat).drop (0:Int).toNat).length:Int)))) kr (fun hb19=>?_) (fun hb19=>?_)
  ·rw [if_pos hb19] at h
   refine AX ?_;refine AE ?_;refine AQ ?_;refine AE ?_;obtain ⟨v20,hv20,h⟩:=OB h;refine AI (s1:=⟨Fr 112 [(7,.sl 1 (v1.1.map cdI.enc)),(8,.v (.int .i64 v1.2)),(9,.rf 0 0 c16.length c16.length),(11,hd 1 (c17.map (cdL 1 (cdL 1 cdI)).enc)),(15,.pt 2 0 0),(43,.sl 1 (((x1.take (mnI (x1.length:Int) 10).toNat).drop (0:Int).toNat).map (cdL 2 (EF (cdK .u8) (cdK .u8) (fun _=>rfl) (fun _=>rfl))).enc)),(44,.v (.int .i64 (((x1.take (mnI (x1.length:Int) 10).toNat).drop (0:Int).toNat).length:Int))),(45,.v (.int .i64 c12)),(53,.sl 2 (((v14.take (mnI (v14.length:Int) 20).toNat).drop (0:Int).toNat).map (EF (cdK .u8) (cdK .u8) (fun _=>rfl) (fun _=>rfl)).enc)),(54,.v (.int .i64 (((v14.take (mnI (v14.length:Int) 20).toNat).drop (0:Int).toNat).length:Int))),(55,.v (.int .i64 c18))],[some ⟨1,3,(c16.map cdI.enc),false⟩,mk 1 50 (c17.map (cdL 1 (cdL 1 cdI)).enc),some ⟨2,53,[.ag [.v (.int .u8 v20.1),.v (.int .u8 v20.2)]],false⟩]⟩) ?_ ?_
   ·refine AJ he 0 rfl (Am (AA rfl) rfl (AF (a:= .sl 2 (((v14.take (mnI (v14.length:Int) 20).toNat).drop (0:Int).toNat).map (EF (cdK .u8) (cdK .u8) (fun _=>rfl) (fun _=>rfl)).enc)) (b:= .v (.int .i64 c18)) kr kr (DT (e:=(EF (cdK .u8) (cdK .u8) (fun _=>rfl) (fun _=>rfl)).enc) (el:=53) (k:=2) (ki:= .i64) kr kr hv20))) ?_
    exact AK he
   refine AE ?_;by_cases hz21:v1.2=(0:Int)
   ·rw [if_pos hz21] at h; cases h
   rw [if_neg hz21] at h;by_cases hz22:v1.2=(0:Int)
   ·rw [if_pos hz22] at h; cases h
   rw [if_neg hz22] at h;refine I3 he (s1:=⟨Fr 112 [(7,.sl 1 (v1.1.map cdI.enc)),(8,.v (.int .i64 v1.2)),(9,.rf 0 0 c16.length c16.length),(11,hd 1 (c17.map (cdL 1 (cdL 1 cdI)).enc)),(16,.v (.int .i64 ((wr .i64 v20.1).tmod v1.2))),(17,.v (.int .i64 ((wr .i64 v20.2).tmod v1.2))),(43,.sl 1 (((x1.take (mnI (x1.length:Int) 10).toNat).drop (0:Int).toNat).map (cdL 2 (EF (cdK .u8) (cdK .u8) (fun _=>rfl) (fun _=>rfl))).enc)),(44,.v (.int .i64 (((x1.take (mnI (x1.length:Int) 10).toNat).drop (0:Int).toNat).length:Int))),(45,.v (.int .i64 c12)),(53,.sl 2 (((v14.take (mnI (v14.length:Int) 20).toNat).drop (0:Int).toNat).map (EF (cdK .u8) (cdK .u8) (fun _=>rfl) (fun _=>rfl)).enc)),(54,.v (.int .i64 (((v14.take (mnI (v14.length:Int) 20).toNat).drop (0:Int).toNat).length:Int))),(55,.v (.int .i64 c18))],[some ⟨1,3,(c16.map cdI.enc),false⟩,mk 1 50 (c17.map (cdL 1 (cdL 1 cdI)).enc)]⟩) kr ?_ ?_
   ·refine B3 (n:=112) he 4 [(7,.sl 1 (v1.1.map cdI.enc)),(8,.v (.int .i64 v1.2)),(9,.rf 0 0 c16.length c16.length),(11,hd 1 (c17.map (cdL 1 (cdL 1 cdI)).enc)),(15,.pt 2 0 0),(43,.sl 1 (((x1.take (mnI (x1.length:Int) 10).toNat).drop (0:Int).toNat).map (cdL 2 (EF (cdK .u8) (cdK .u8) (fun _=>rfl) (fun _=>rfl))).enc)),(44,.v (.int .i64 (((x1.take (mnI (x1.length:Int) 10).toNat).drop (0:Int).toNat).length:Int))),(45,.v (.int .i64 c12)),(53,.sl 2 (((v14.take (mnI (v14.length:Int) 20).toNat).drop (0:Int).toNat).map (EF (cdK .u8) (cdK .u8) (fun _=>rfl) (fun _=>rfl)).enc)),(54,.v (.int .i64 (((v14.take (mnI (v14.length:Int) 20).toNat).drop (0:Int).toNat).length:Int))),(55,.v (.int .i64 c18)),(61,.v (.int .i64 (wr .i64 v20.1))),(62,.v (.int .i64 v1.2))] [some ⟨1,3,(c16.map cdI.enc),false⟩,mk 1 50 (c17.map (cdL 1 (cdL 1 cdI)).enc),some ⟨2,53,[.ag [.v (.int .u8 v20.1),.v (.int .u8 v20.2)]],false⟩] kr kr ?_
    refine RunDS.one he rfl kr (Kg kr (AA rfl) rfl (Sc (a:= .v (.int .i64 (wr .i64 v20.1))) (b:= .v (.int .i64 v1.2)) kr kr (Nl hz21)) kr) ?_;refine B3 (n:=112) he 4 [(7,.sl 1 (v1.1.map cdI.enc)),(8,.v (.int .i64 v1.2)),(9,.rf 0 0 c16.length c16.length),(11,hd 1 (c17.map (cdL 1 (cdL 1 cdI)).enc)),(43,.sl 1 (((x1.take (mnI (x1.length:Int) 10).toNat).drop (0:Int).toNat).map (cdL 2 (EF (cdK .u8) (cdK .u8) (fun _=>rfl) (fun _=>rfl))).enc)),(44,.v (.int .i64 (((x1.take (mnI (x1.length:Int) 10).toNat).drop (0:Int).toNat).length:Int))),(45,.v (.int .i64 c12)),(53,.sl 2 (((v14.take (mnI (v14.length:Int) 20).toNat).drop (0:Int).toNat).map (EF (cdK .u8) (cdK .u8) (fun _=>rfl) (fun _=>rfl)).enc)),(54,.v (.int .i64 (((v14.take (mnI (v14.length:Int) 20).toNat).drop (0:Int).toNat).length:Int))),(55,.v (.int .i64 c18)),(63,.v (.int .i64 ((wr .i64 v20.1).tmod v1.2))),(66,.v (.int .i64 (wr .i64 v20.2))),(67,.v (.int .i64 v1.2))] [some ⟨1,3,(c16.map cdI.enc),false⟩,mk 1 50 (c17.map (cdL 1 (cdL 1 cdI)).enc),some ⟨2,53,[.ag [.v (.int .u8 v20.1),.v (.int .u8 v20.2)]],false⟩] kr kr ?_;refine RunDS.one he rfl kr (Kg kr (AA rfl) rfl (Sc (a:= .v (.int .i64 (wr .i64 v20.2))) (b:= .v (.int .i64 v1.2)) kr kr (Nl hz22)) kr) ?_;refine B3 (n:=112) he 2 [(7,.sl 1 (v1.1.map cdI.enc)),(8,.v (.int .i64 v1.2)),(9,.rf 0 0 c16.length c16.length),(11,hd 1 (c17.map (cdL 1 (cdL 1 cdI)).enc)),(16,.v (.int .i64 ((wr .i64 v20.1).tmod v1.2))),(17,.v (.int .i64 ((wr .i64 v20.2).tmod v1.2))),(43,.sl 1 (((x1.take (mnI (x1.length:Int) 10).toNat).drop (0:Int).toNat).map (cdL 2 (EF (cdK .u8) (cdK .u8) (fun _=>rfl) (fun _=>rfl))).enc)),(44,.v (.int .i64 (((x1.take (mnI (x1.length:Int) 10).toNat).drop (0:Int).toNat).length:Int))),(45,.v (.int .i64 c12)),(53,.sl 2 (((v14.take (mnI (v14.length:Int) 20).toNat).drop (0:Int).toNat).map (EF (cdK .u8) (cdK .u8) (fun _=>rfl) (fun _=>rfl)).enc)),(54,.v (.int .i64 (((v14.take (mnI (v14.length:Int) 20).toNat).drop (0:Int).toNat).length:Int))),(55,.v (.int .i64 c18))] [some ⟨1,3,(c16.map cdI.enc),false⟩,mk 1 50 (c17.map (cdL 1 (cdL 1 cdI)).enc),some ⟨2,53,[.ag [.v (.int .u8 v20.1),.v (.int .u8 v20.2)]],false⟩] kr kr ?_
    exact RunDS.done rfl (Ac [0,1] ⟨⟨_,rfl,Ai⟩,⟨_,rfl,DP⟩,trivial⟩ ⟨lv,lv,lv,Do (b':=1) kr kr,lv,lv,lv,lv,lv,lv,lv,lv,trivial⟩)
   obtain ⟨v23,hv23,h⟩:=OB h;obtain ⟨v24,hv24,h⟩:=OB h;obtain ⟨v25,hv25,h⟩:=OB h;obtain ⟨v26,hv26,h⟩:=OB h;refine I3 he (s1:=⟨Fr 112 [(7,.sl 1 (v1.1.map cdI.enc)),(8,.v (.int .i64 v1.2)),(9,.rf 0 0 ((c16.set (((wr .i64 v20.1).tmod v1.2).toNat) v23).set (((wr .i64 v20.2).tmod v1.2).toNat) v24).length ((c16.set (((wr .i64 v20.1).tmod v1.2).toNat) v23).set (((wr .i64 v20.2).tmod v1.2).toNat) v24).length),(11,hd 1 (c17.map (cdL 1 (cdL 1 cdI)).enc)),(43,.sl 1 (((x1.take (mnI (x1.length:Int) 10).toNat).drop (0:Int).toNat).map (cdL 2 (EF (cdK .u8) (cdK .u8) (fun _=>rfl) (fun _=>rfl))).enc)),(44,.v (.int .i64 (((x1.take (mnI (x1.length:Int) 10).toNat).drop (0:Int).toNat).length:Int))),(45,.v (.int .i64 c12)),(53,.sl 2 (((v14.take (mnI (v14.length:Int) 20).toNat).drop (0:Int).toNat).map (EF (cdK .u8) (cdK .u8) (fun _=>rfl) (fun _=>rfl)).enc)),(54,.v (.int .i64 (((v14.take (mnI (v14.length:Int) 20).toNat).drop (0:Int).toNat).length:Int))),(55,.v (.int .i64 c18))],[some ⟨1,3,(((c16.set (((wr .i64 v20.1).tmod v1.2).toNat) v23).set (((wr .i64 v20.2).tmod v1.2).toNat) v24).map cdI.enc),false⟩,mk 1 50 (c17.map (cdL 1 (cdL 1 cdI)).enc)]⟩) kr ?_ ?_
   ·refine B3 (n:=112) he 6 [(7,.sl 1 (v1.1.map cdI.enc)),(8,.v (.int .i64 v1.2)),(9,.rf 0 0 c16.length c16.length),(11,hd 1 (c17.map (cdL 1 (cdL 1 cdI)).enc)),(16,.v (.int .i64 ((wr .i64 v20.1).tmod v1.2))),(43,.sl 1 (((x1.take (mnI (x1.length:Int) 10).toNat).drop (0:Int).toNat).map (cdL 2 (EF (cdK .u8) (cdK .u8) (fun _=>rfl) (fun _=>rfl))).enc)),(44,.v (.int .i64 (((x1.take (mnI (x1.length:Int) 10).toNat).drop (0:Int).toNat).length:Int))),(45,.v (.int .i64 c12)),(53,.sl 2 (((v14.take (mnI (v14.length:Int) 20).toNat).drop (0:Int).toNat).map (EF (cdK .u8) (cdK .u8) (fun _=>rfl) (fun _=>rfl)).enc)),(54,.v (.int .i64 (((v14.take (mnI (v14.length:Int) 20).toNat).drop (0:Int).toNat).length:Int))),(55,.v (.int .i64 c18)),(69,.rf 0 0 c16.length c16.length),(70,.v (.int .i64 ((wr .i64 v20.1).tmod v1.2))),(71,.rf 0 0 c16.length c16.length),(72,.v (.int .i64 ((wr .i64 v20.2).tmod v1.2))),(73,.rf 0 0 c16.length c16.length),(74,.v (.int .i64 ((wr .i64 v20.2).tmod v1.2)))] [some ⟨1,3,(c16.map cdI.enc),false⟩,mk 1 50 (c17.map (cdL 1 (cdL 1 cdI)).enc)] kr kr ?_
    refine RunDS.one he rfl kr (Kg kr (AA rfl) rfl (AF (a:= .rf 0 0 c16.length c16.length) (b:= .v (.int .i64 ((wr .i64 v20.2).tmod v1.2))) kr kr (LF (e:=cdI.enc) (xs:=c16) (t':=3) (el:=3) (k:=1) (ki:= .i64) kr kr kr hv23)) kr) ?_;refine RunDS.one he rfl kr (Kg kr (AA rfl) rfl (A0 (p:= .pt 0 (((wr .i64 v20.2).tmod v1.2).toNat) 0) kr (Jr (B:=⟨1,3,(c16.map cdI.enc),false⟩) (m:=1) (g:=false) (e:=cdI.enc) (xs:=c16) kr kr kr rfl (AW hv23).2 kr)) kr) ?_;refine B3 (n:=112) he 2 [(7,.sl 1 (v1.1.map cdI.enc)),(8,.v (.int .i64 v1.2)),(9,.rf 0 0 c16.length c16.length),(11,hd 1 (c17.map (cdL 1 (cdL 1 cdI)).enc)),(43,.sl 1 (((x1.take (mnI (x1.length:Int) 10).toNat).drop (0:Int).toNat).map (cdL 2 (EF (cdK .u8) (cdK .u8) (fun _=>rfl) (fun _=>rfl))).enc)),(44,.v (.int .i64 (((x1.take (mnI (x1.length:Int) 10).toNat).drop (0:Int).toNat).length:Int))),(45,.v (.int .i64 c12)),(53,.sl 2 (((v14.take (mnI (v14.length:Int) 20).toNat).drop (0:Int).toNat).map (EF (cdK .u8) (cdK .u8) (fun _=>rfl) (fun _=>rfl)).enc)),(54,.v (.int .i64 (((v14.take (mnI (v14.length:Int) 20).toNat).drop (0:Int).toNat).length:Int))),(55,.v (.int .i64 c18)),(69,.rf 0 0 c16.length c16.length),(70,.v (.int .i64 ((wr .i64 v20.1).tmod v1.2))),(71,.rf 0 0 c16.length c16.length),(72,.v (.int .i64 ((wr .i64 v20.2).tmod v1.2))),(76,.v (.int .i64 v23)),(77,.rf 0 0 c16.length c16.length),(78,.v (.int .i64 ((wr .i64 v20.1).tmod v1.2)))] [some ⟨1,3,(c16.map cdI.enc),false⟩,mk 1 50 (c17.map (cdL 1 (cdL 1 cdI)).enc)] kr kr ?_;refine RunDS.one he rfl kr (Kg kr (AA rfl) rfl (AF (a:= .rf 0 0 c16.length c16.length) (b:= .v (.int .i64 ((wr .i64 v20.1).tmod v1.2))) kr kr (LF (e:=cdI.enc) (xs:=c16) (t':=3) (el:=3) (k:=1) (ki:= .i64) kr kr kr hv24)) kr) ?_;refine RunDS.one he rfl kr (Kg kr (AA rfl) rfl (A0 (p:= .pt 0 (((wr .i64 v20.1).tmod v1.2).toNat) 0) kr (Jr (B:=⟨1,3,(c16.map cdI.enc),false⟩) (m:=1) (g:=false) (e:=cdI.enc) (xs:=c16) kr kr kr rfl (AW hv24).2 kr)) kr) ?_
    refine RunDS.one he rfl kr (Kg kr (AA rfl) rfl (AF (a:= .rf 0 0 c16.length c16.length) (b:= .v (.int .i64 ((wr .i64 v20.1).tmod v1.2))) kr kr (LF (e:=cdI.enc) (xs:=c16) (t':=3) (el:=3) (k:=1) (ki:= .i64) kr kr kr hv25)) kr) ?_;refine RS rfl rfl ?_;refine RunS.store he (y:= .pt 0 (((wr .i64 v20.1).tmod v1.2).toNat) 0) (z:= .v (.int .i64 v23)) rfl (AA rfl) kr kr (M4 (t':=3) (k:=1) (e:=cdI.enc) (xs:=c16) (v:=v25) (v':=v23) kr (AW hv25).2 kr kr kr) ?_;refine AJ he 0 rfl (Am (AA rfl) rfl (AF (a:= .rf 0 0 c16.length c16.length) (b:= .v (.int .i64 ((wr .i64 v20.2).tmod v1.2))) kr kr (VG (e:=cdI.enc) (xs:=(c16.set (((wr .i64 v20.1).tmod v1.2).toNat) v23)) (n:=c16.length) (t':=3) (el:=3) (k:=1) (ki:= .i64) (by simp only [List.length_set]) kr kr kr hv26))) ?_;refine RunS.store he (y:= .pt 0 (((wr .i64 v20.2).tmod v1.2).toNat) 0) (z:= .v (.int .i64 v24)) rfl (AA rfl) kr kr (M4 (t':=3) (k:=1) (e:=cdI.enc) (xs:=(c16.set (((wr .i64 v20.1).tmod v1.2).toNat) v23)) (v:=v26) (v':=v24) kr (AW hv26).2 kr kr kr) ?_;exact AO rfl (Ac [0,1] ⟨⟨_,rfl,Ai⟩,⟨_,rfl,DP⟩,trivial⟩ ⟨lv,lv,UV (b':=0) (n:=c16.length) kr (by simp) kr,Do (b':=1) kr kr,lv,lv,lv,lv,lv,lv,trivial⟩)
   refine Cq he [(7,.sl 1 (v1.1.map cdI.enc)),(8,.v (.int .i64 v1.2)),(9,.rf 0 0 ((c16.set (((wr .i64 v20.1).tmod v1.2).toNat) v23).set (((wr .i64 v20.2).tmod v1.2).toNat) v24).length ((c16.set (((wr .i64 v20.1).tmod v1.2).toNat) v23).set (((wr .i64 v20.2).tmod v1.2).toNat) v24).length),(11,hd 1 (c17.map (cdL 1 (cdL 1 cdI)).enc)),(43,.sl 1 (((x1.take (mnI (x1.length:Int) 10).toNat).drop (0:Int).toNat).map (cdL 2 (EF (cdK .u8) (cdK .u8) (fun _=>rfl) (fun _=>rfl))).enc)),(44,.v (.int .i64 (((x1.take (mnI (x1.length:Int) 10).toNat).drop (0:Int).toNat).length:Int))),(45,.v (.int .i64 c12)),(53,.sl 2 (((v14.take (mnI (v14.length:Int) 20).toNat).drop (0:Int).toNat).map (EF (cdK .u8) (cdK .u8) (fun _=>rfl) (fun _=>rfl)).enc)),(54,.v (.int .i64 (((v14.take (mnI (v14.length:Int) 20).toNat).drop (0:Int).toNat).length:Int))),(55,.v (.int .i64 (wr .i64 (c18 + 1))))] [some ⟨1,3,(((c16.set (((wr .i64 v20.1).tmod v1.2).toNat) v23).set (((wr .i64 v20.2).tmod v1.2).toNat) v24).map cdI.enc),false⟩,mk 1 50 (c17.map (cdL 1 (cdL 1 cdI)).enc)] ?_;exact Ae (s1:=⟨Fr 112 [(7,.sl 1 (v1.1.map cdI.enc)),(8,.v (.int .i64 v1.2)),(9,.rf 0 0 ((c16.set (((wr .i64 v20.1).tmod v1.2).toNat) v23).set (((wr .i64 v20.2).tmod v1.2).toNat) v24).length ((c16.set (((wr .i64 v20.1).tmod v1.2).toNat) v23).set (((wr .i64 v20.2).tmod v1.2).toNat) v24).length),(11,hd 1 (c17.map (cdL 1 (cdL 1 cdI)).enc)),(43,.sl 1 (((x1.take (mnI (x1.length:Int) 10).toNat).drop (0:Int).toNat).map (cdL 2 (EF (cdK .u8) (cdK .u8) (fun _=>rfl) (fun _=>rfl))).enc)),(44,.v (.int .i64 (((x1.take (mnI (x1.length:Int) 10).toNat).drop (0:Int).toNat).length:Int))),(45,.v (.int .i64 c12)),(53,.sl 2 (((v14.take (mnI (v14.length:Int) 20).toNat).drop (0:Int).toNat).map (EF (cdK .u8) (cdK .u8) (fun _=>rfl) (fun _=>rfl)).enc)),(54,.v (.int .i64 (((v14.take (mnI (v14.length:Int) 20).toNat).drop (0:Int).toNat).length:Int))),(55,.v (.int .i64 (wr .i64 (c18 + 1))))],[some ⟨1,3,(((c16.set (((wr .i64 v20.1).tmod v1.2).toNat) v23).set (((wr .i64 v20.2).tmod v1.2).toNat) v24).map cdI.enc),false⟩,mk 1 50 (c17.map (cdL 1 (cdL 1 cdI)).enc)]⟩) (Ac [0,1] ⟨⟨_,rfl,Ai⟩,⟨_,rfl,DP⟩,trivial⟩ ⟨lv,lv,lv,Do (b':=1) kr kr,lv,lv,lv,lv,lv,lv,trivial⟩) (ih ((c16.set (((wr .i64 v20.1).tmod v1.2).toNat) v23).set (((wr .i64 v20.2).tmod v1.2).toNat) v24) c17 (wr .i64 (c18 + 1)) h)
  ·rw [B9 hb19] at h
   refine Ba ?_;have hq:=OI h; subst hq;exact ⟨rfl,(Ac [0,1] ⟨⟨_,rfl,Ai⟩,⟨_,rfl,DP⟩,trivial⟩ ⟨lv,lv,lv,Do (b':=1) kr kr,lv,lv,lv,trivial⟩)⟩
theorem N9 (x1:(List (List (Int×Int)))) (v1:(List Int)×Int) (c12:Int) (r29:(List Int)×(List (List (List Int)))):∀ (f:Nat) (c30:(List (List Int))) (c31:Int) (c32:Int) (r:((List (List Int)))),E8 x1 v1 c12 r29 f c30 c31 c32=some r->SemN CJ ⟨none,false⟩ (pc FB [1,1,1,1,1,0,1,0,0,1,1,0,0,1,1,1,1,0,1,0,0]) f ⟨Fr 112 [(7,.sl 1 (v1.1.map cdI.enc)),(8,.v (.int .i64 v1.2)),(9,.rf 0 0 r29.1.length r29.1.length),(11,hd 1 (r29.2.map (cdL 1 (cdL 1 cdI)).enc)),(18,hd 2 (c30.map (cdL 1 cdI).enc)),(19,.v (.int .i64 c31)),(43,.sl 1 (((x1.take (mnI (x1.length:Int) 10).toNat).drop (0:Int).toNat).map (cdL 2 (EF (cdK .u8) (cdK .u8) (fun _=>rfl) (fun _=>rfl))).enc)),(44,.v (.int .i64 (((x1.take (mnI (x1.length:Int) 10).toNat).drop (0:Int).toNat).length:Int))),(45,.v (.int .i64 c12)),(84,.sl 1 (v1.1.map cdI.enc)),(85,.v (.int .i64 (v1.1.length:Int))),(86,.v (.int .i64 c32))],[some ⟨1,3,(r29.1.map cdI.enc),false⟩,mk 1 50 (r29.2.map (cdL 1 (cdL 1 cdI)).enc),mk 1 31 (c30.map (cdL 1 cdI).enc)]⟩ (fun e s=>e=(.exit 6)/\Wk CJ s ⟨Fr 112 [(7,.sl 1 (v1.1.map cdI.enc)),(8,.v (.int .i64 v1.2)),(9,.rf 0 0 r29.1.length r29.1.length),(11,hd 1 (r29.2.map (cdL 1 (cdL 1 cdI)).enc)),(18,hd 2 (r.map (cdL 1 cdI).enc)),(43,.sl 1 (((x1.take (mnI (x1.length:Int) 10).toNat).drop (0:Int).toNat).map (cdL 2 (EF (cdK .u8) (cdK .u8) (fun _=>rfl) (fun _=>rfl))).enc)),(44,.v (.int .i64 (((x1.take (mnI (x1.length:Int) 10).toNat).drop (0:Int).toNat).length:Int))),(45,.v (.int .i64 c12))],[some ⟨1,3,(r29.1.map cdI.enc),false⟩,mk 1 50 (r29.2.map (cdL 1 (cdL 1 cdI)).enc),mk 1 31 (r.map (cdL 1 cdI).enc)]⟩):=by
 have he:=D9
 intro f;induction f with
 | zero=>intro c30 c31 c32 r h; cases h
 | succ f ih0 =>
  intro c30 c31 c32 r h
  have ih:=fun (c30:(List (List Int))) (c31:Int) (c32:Int)=>ih0 c30 c31 c32 r
  unfold E8 at h;refine BJ ?_
  let p1:Option Blk:=mk 1 31 (c30.map (cdL 1 cdI).enc)
  let p2:Option Blk:=mk 1 50 (r29.2.map (cdL 1 (cdL 1 cdI)).enc)
  let p3:Option Blk:=some ⟨1,3,(r29.1.map cdI.enc),false⟩
  let p4:Nat×AV:=(86,.v (.int .i64 c32))
  let p5:Nat×AV:=(85,.v (.int .i64 (v1.1.length:Int)))
  let p6:Nat×AV:=(84,.sl 1 (v1.1.map cdI.enc))
  let p7:Nat×AV:=(45,.v (.int .i64 c12))
  let p8:Nat×AV:=(44,.v (.int .i64 (((x1.take (mnI (x1.length:Int) 10).toNat).drop (0:Int).toNat).length:Int)))
  let p9:Nat×AV:=(43,.sl 1 (((x1.take (mnI (x1.length:Int) 10).toNat).drop (0:Int).toNat).map (cdL 2 (EF (cdK .u8) (cdK .u8) (fun _=>rfl) (fun _=>rfl))).enc))
  let p10:Nat×AV:=(19,.v (.int .i64 c31))
  let p11:Nat×AV:=(18,hd 2 (c30.map (cdL 1 cdI).enc))
  let p12:Nat×AV:=(11,hd 1 (r29.2.map (cdL 1 (cdL 1 cdI)).enc))
  let p13:Nat×AV:=(9,.rf 0 0 r29.1.length r29.1.length)
  let p14:Nat×AV:=(8,.v (.int .i64 v1.2))
  let p15:Nat×AV:=(7,.sl 1 (v1.1.map cdI.enc))
  refine AN he [p15,p14,p13,p12,p11,p10,p9,p8,p7,p6,p5,p4,(87,.v (.bool (decide (c32 < (v1.1.length:Int)))))] [p3,p2,p1] ?_;refine AE ?_;refine AU (b:=(decide (c32 < (v1.1.length:Int)))) kr (fun hb33=>?_) (fun hb33=>?_)
  ·rw [if_pos hb33] at h
   refine AX ?_;refine AE ?_;refine AQ ?_;refine AE ?_;obtain ⟨v34,hv34,h⟩:=OB h
   let p16:Nat×AV:=(21,.v (.int .i64 v34))
   refine AI (s1:=⟨Fr 112 [p15,p14,p13,p12,p11,p10,p16,p9,p8,p7,p6,p5,p4],[p3,p2,p1]⟩) ?_ ?_
   ·refine AJ he 0 rfl (Am (AA rfl) rfl (AF (a:= .sl 1 (v1.1.map cdI.enc)) (b:= .v (.int .i64 c32)) kr kr (DT (e:=cdI.enc) (el:=3) (k:=1) (ki:= .i64) kr kr hv34))) ?_
    exact AK he
   refine AE ?_;by_cases hk35:(LM c31 (wr .i64 (c31 + v34)) r29.1.length)=true
   case neg=>rw [if_neg hk35] at h; cases h
   rw [if_pos hk35] at h;by_cases hk36:(Bb 8 ((r29.1.take (wr .i64 (c31 + v34)).toNat).drop c31.toNat).length)=true
   case neg=>rw [if_neg hk36] at h; cases h
   rw [if_pos hk36] at h;by_cases hk37:(Bb 24 (c30.length + 1))=true
   case neg=>rw [if_neg hk37] at h; cases h
   rw [if_pos hk37] at h
   let p17:Option Blk:=mk 1 31 ((c30++[((r29.1.take (wr .i64 (c31 + v34)).toNat).drop c31.toNat)]).map (cdL 1 cdI).enc)
   let p18:Nat×AV:=(18,hd 2 ((c30++[((r29.1.take (wr .i64 (c31 + v34)).toNat).drop c31.toNat)]).map (cdL 1 cdI).enc))
   refine AI (s1:=⟨Fr 112 [p15,p14,p13,p12,p18,p10,p16,p9,p8,p7,p6,p5,p4],[p3,p2,p17]⟩) ?_ ?_
   ·let p19:Nat×AV:=(95,.v (.int .i64 (wr .i64 (c31 + v34))))
    let p20:Nat×AV:=(91,.rf 0 0 r29.1.length r29.1.length)
    let p21:Nat×AV:=(90,hd 2 (c30.map (cdL 1 cdI).enc))
    refine AB (n:=112) he 6 [p15,p14,p13,p12,p10,p16,p9,p8,p7,p6,p5,p4,p21,p20,(92,.v (.int .i64 c31)),p19] [p3,p2,p1] kr ?_;refine AJ he 0 rfl (Am (AA rfl) rfl (Jg (a:= .rf 0 0 r29.1.length r29.1.length) (l:=(some (.v (.int .i64 c31)))) (u:=(some (.v (.int .i64 (wr .i64 (c31 + v34)))))) (m:=none) kr kr kr rfl (Tm (xs:=r29.1) (e:=cdI.enc) (t':=3) (k:=1) (el:=3) (lo:=c31) (hi:=(wr .i64 (c31 + v34))) kr kr kr (Jt (Pm (RD hk35))) (Jt (Nq (RD hk35))) hk35))) ?_;refine RU rfl rfl (OM ((r29.1.take (wr .i64 (c31 + v34)).toNat).drop c31.toNat) hk36) rfl (AA rfl) kr (xs:=[.rf 0 (0 + c31.toNat) ((wr .i64 (c31 + v34)).toNat - c31.toNat) (r29.1.length - c31.toNat)]) kr (Sw (c:=cdI) (xs:=r29.1) (t':=3) (k:=1) XT kr hk35) I6 ?_;rintro x h' (⟨hx,rfl,rfl⟩ | ⟨rfl,rfl⟩)
    ·exact absurd hx (Uf hk35)
    refine O7 (s1:=⟨Fr 112 [p15,p14,p13,p12,p10,p16,p9,p8,p7,p6,p5,p4,p21,p20,(92,.v (.int .i64 c31)),p19,(96,.rf 0 (0 + c31.toNat) ((wr .i64 (c31 + v34)).toNat - c31.toNat) (r29.1.length - c31.toNat)),(97,.sl 1 (((r29.1.take (wr .i64 (c31 + v34)).toNat).drop c31.toNat).map cdI.enc))],[p3,p2,p1,none]⟩) (FV 3 (.inl kr) ⟨.inr (.inl rfl),.inr (.inl rfl),.inr (.inl rfl),.inl rfl,trivial⟩ ⟨⟨.sl 1 (v1.1.map cdI.enc),kr,.inl rfl⟩,⟨.v (.int .i64 v1.2),kr,.inl rfl⟩,⟨.rf 0 0 r29.1.length r29.1.length,kr,.inl rfl⟩,⟨hd 1 (r29.2.map (cdL 1 (cdL 1 cdI)).enc),kr,.inl rfl⟩,⟨.v (.int .i64 c31),kr,.inl rfl⟩,⟨.v (.int .i64 v34),kr,.inl rfl⟩,⟨.sl 1 (((x1.take (mnI (x1.length:Int) 10).toNat).drop (0:Int).toNat).map (cdL 2 (EF (cdK .u8) (cdK .u8) (fun _=>rfl) (fun _=>rfl))).enc),kr,.inl rfl⟩,⟨.v (.int .i64 (((x1.take (mnI (x1.length:Int) 10).toNat).drop (0:Int).toNat).length:Int)),kr,.inl rfl⟩,⟨.v (.int .i64 c12),kr,.inl rfl⟩,⟨.sl 1 (v1.1.map cdI.enc),kr,.inl rfl⟩,⟨.v (.int .i64 (v1.1.length:Int)),kr,.inl rfl⟩,⟨.v (.int .i64 c32),kr,.inl rfl⟩,⟨hd 2 (c30.map (cdL 1 cdI).enc),kr,.inl rfl⟩,⟨.rf 0 0 r29.1.length r29.1.length,kr,.inl rfl⟩,⟨.v (.int .i64 c31),kr,.inl rfl⟩,⟨.v (.int .i64 (wr .i64 (c31 + v34))),kr,.inl rfl⟩,⟨.rf 0 (0 + c31.toNat) ((wr .i64 (c31 + v34)).toNat - c31.toNat) (r29.1.length - c31.toNat),kr,.inl rfl⟩,⟨.rf 3 0 ((r29.1.take (wr .i64 (c31 + v34)).toNat).drop c31.toNat).length ((r29.1.take (wr .i64 (c31 + v34)).toNat).drop c31.toNat).length,kr,Oo (c:=cdI) (xs:=((r29.1.take (wr .i64 (c31 + v34)).toNat).drop c31.toNat)) (t:=3) kr⟩,trivial⟩) ?_
    let p22:Option Blk:=mk 1 31 ([((r29.1.take (wr .i64 (c31 + v34)).toNat).drop c31.toNat)].map (cdL 1 cdI).enc)
    refine AB (n:=112) he 1 [p15,p14,p13,p12,p10,p16,p9,p8,p7,p6,p5,p4,p21,(98,hd 4 ([((r29.1.take (wr .i64 (c31 + v34)).toNat).drop c31.toNat)].map (cdL 1 cdI).enc))] [p3,p2,p1,none,p22] kr ?_;refine AJ he 0 rfl (Ox (AA rfl) rfl kr kr (DO (a:=hd 2 (c30.map (cdL 1 cdI).enc)) (b:=hd 4 ([((r29.1.take (wr .i64 (c31 + v34)).toNat).drop c31.toNat)].map (cdL 1 cdI).enc)) kr kr (JV (c:=(cdL 1 cdI)) (xs:=c30) (vs:=[((r29.1.take (wr .i64 (c31 + v34)).toNat).drop c31.toNat)]) (k:=1) (bytes:=24) (el:=31) kr kr (JX (t:=31) kr) (List.cons_ne_nil _ _) kr hk37))) ?_;refine AB (n:=112) he 1 [p15,p14,p13,p12,(18,hd 5 ((c30++[((r29.1.take (wr .i64 (c31 + v34)).toNat).drop c31.toNat)]).map (cdL 1 cdI).enc)),p10,p16,p9,p8,p7,p6,p5,p4] [p3,p2,none,none,p22,p17] kr ?_;exact AO rfl (Ac [0,1,5] ⟨⟨_,rfl,Ai⟩,⟨_,rfl,DP⟩,⟨_,rfl,DP⟩,trivial⟩ ⟨lv,lv,lv,Do (b':=1) kr kr,Do (b':=5) kr kr,lv,lv,lv,lv,lv,lv,lv,lv,trivial⟩)
   let p23:Nat×AV:=(19,.v (.int .i64 (wr .i64 (c31 + v34))))
   refine Cq he [p15,p14,p13,p12,p18,p23,p9,p8,p7,p6,p5,p4] [p3,p2,p17] ?_
   let p24:Nat×AV:=(86,.v (.int .i64 (wr .i64 (c32 + 1))))
   refine Cq he [p15,p14,p13,p12,p18,p23,p9,p8,p7,p6,p5,p24] [p3,p2,p17] ?_;exact Ae (s1:=⟨Fr 112 [p15,p14,p13,p12,p18,p23,p9,p8,p7,p6,p5,p24],[p3,p2,p17]⟩) (Ac [0,1,2] ⟨⟨_,rfl,Ai⟩,⟨_,rfl,DP⟩,⟨_,rfl,DP⟩,trivial⟩ ⟨lv,lv,lv,Do (b':=1) kr kr,Do (b':=2) kr kr,lv,lv,lv,lv,lv,lv,lv,trivial⟩) (ih (c30++[((r29.1.take (wr .i64 (c31 + v34)).toNat).drop c31.toNat)]) (wr .i64 (c31 + v34)) (wr .i64 (c32 + 1)) h)
  ·rw [B9 hb33] at h
   refine Ba ?_;have hq:=OI h; subst hq;exact ⟨rfl,(Ac [0,1,2] ⟨⟨_,rfl,Ai⟩,⟨_,rfl,DP⟩,⟨_,rfl,DP⟩,trivial⟩ ⟨lv,lv,lv,Do (b':=1) kr kr,Do (b':=2) kr kr,lv,lv,lv,trivial⟩)⟩
theorem N7 (x1:(List (List (Int×Int)))) (v1:(List Int)×Int):∀ (f:Nat) (c10:(List Int)) (c11:(List (List (List Int)))) (c12:Int) (r:((List (List (List Int))))),E6 x1 v1 f c10 c11 c12=some r->SemN CJ ⟨none,false⟩ (pc FB [1,1,1,1,1,0,1,0,0]) f ⟨Fr 112 [(7,.sl 1 (v1.1.map cdI.enc)),(8,.v (.int .i64 v1.2)),(9,.rf 0 0 c10.length c10.length),(11,hd 1 (c11.map (cdL 1 (cdL 1 cdI)).enc)),(43,.sl 1 (((x1.take (mnI (x1.length:Int) 10).toNat).drop (0:Int).toNat).map (cdL 2 (EF (cdK .u8) (cdK .u8) (fun _=>rfl) (fun _=>rfl))).enc)),(44,.v (.int .i64 (((x1.take (mnI (x1.length:Int) 10).toNat).drop (0:Int).toNat).length:Int))),(45,.v (.int .i64 c12))],[some ⟨1,3,(c10.map cdI.enc),false⟩,mk 1 50 (c11.map (cdL 1 (cdL 1 cdI)).enc)]⟩ (fun e s=>e=(.exit 2)/\Wk CJ s ⟨Fr 112 [(7,.sl 1 (v1.1.map cdI.enc)),(8,.v (.int .i64 v1.2)),(11,hd 0 (r.map (cdL 1 (cdL 1 cdI)).enc))],[mk 1 50 (r.map (cdL 1 (cdL 1 cdI)).enc)]⟩):=by
 have he:=D9
 intro f;induction f with
 | zero=>intro c10 c11 c12 r h; cases h
 | succ f ih0 =>
  intro c10 c11 c12 r h
  have ih:=fun (c10:(List Int)) (c11:(List (List (List Int)))) (c12:Int)=>ih0 c10 c11 c12 r
  unfold E6 at h;refine BJ ?_
  let p1:Option Blk:=mk 1 50 (c11.map (cdL 1 (cdL 1 cdI)).enc)
  let p2:Option Blk:=some ⟨1,3,(c10.map cdI.enc),false⟩
  let p3:Nat×AV:=(45,.v (.int .i64 c12))
  let p4:Nat×AV:=(44,.v (.int .i64 (((x1.take (mnI (x1.length:Int) 10).toNat).drop (0:Int).toNat).length:Int)))
  let p5:Nat×AV:=(43,.sl 1 (((x1.take (mnI (x1.length:Int) 10).toNat).drop (0:Int).toNat).map (cdL 2 (EF (cdK .u8) (cdK .u8) (fun _=>rfl) (fun _=>rfl))).enc))
  let p6:Nat×AV:=(11,hd 1 (c11.map (cdL 1 (cdL 1 cdI)).enc))
  let p7:Nat×AV:=(9,.rf 0 0 c10.length c10.length)
  let p8:Nat×AV:=(8,.v (.int .i64 v1.2))
  let p9:Nat×AV:=(7,.sl 1 (v1.1.map cdI.enc))
  refine AN he [p9,p8,p7,p6,p5,p4,p3,(46,.v (.bool (decide (c12 < (((x1.take (mnI (x1.length:Int) 10).toNat).drop (0:Int).toNat).length:Int)))))] [p2,p1] ?_;refine AE ?_;refine AU (b:=(decide (c12 < (((x1.take (mnI (x1.length:Int) 10).toNat).drop (0:Int).toNat).length:Int)))) kr (fun hb13=>?_) (fun hb13=>?_)
  ·rw [if_pos hb13] at h
   refine AX ?_;refine AE ?_;refine AQ ?_;refine AE ?_;obtain ⟨v14,hv14,h⟩:=OB h;refine AI (s1:=⟨Fr 112 [p9,p8,p7,p6,(13,.sl 2 (v14.map (EF (cdK .u8) (cdK .u8) (fun _=>rfl) (fun _=>rfl)).enc)),p5,p4,p3],[p2,p1]⟩) ?_ ?_
   ·refine AJ he 0 rfl (Am (AA rfl) rfl (AF (a:= .sl 1 (((x1.take (mnI (x1.length:Int) 10).toNat).drop (0:Int).toNat).map (cdL 2 (EF (cdK .u8) (cdK .u8) (fun _=>rfl) (fun _=>rfl))).enc)) (b:= .v (.int .i64 c12)) kr kr (DT (e:=(cdL 2 (EF (cdK .u8) (cdK .u8) (fun _=>rfl) (fun _=>rfl))).enc) (el:=52) (k:=1) (ki:= .i64) kr kr hv14))) ?_
    exact AK he
   refine AE ?_;refine AE ?_;by_cases hk15:(HG 0 (mnI (v14.length:Int) 20) v14.length)=true
   case neg=>rw [if_neg hk15] at h; cases h
   rw [if_pos hk15] at h
   let p10:Nat×AV:=(54,.v (.int .i64 (((v14.take (mnI (v14.length:Int) 20).toNat).drop (0:Int).toNat).length:Int)))
   let p11:Nat×AV:=(53,.sl 2 (((v14.take (mnI (v14.length:Int) 20).toNat).drop (0:Int).toNat).map (EF (cdK .u8) (cdK .u8) (fun _=>rfl) (fun _=>rfl)).enc))
   refine AI (s1:=⟨Fr 112 [p9,p8,p7,p6,p5,p4,p3,p11,p10,(55,.v (.int .i64 0))],[p2,p1]⟩) ?_ ?_
   ·let p12:Nat×AV:=(49,.sl 2 (v14.map (EF (cdK .u8) (cdK .u8) (fun _=>rfl) (fun _=>rfl)).enc))
    refine AB (n:=112) he 2 [p9,p8,p7,p6,p5,p4,p3,p12,(50,.sl 2 (v14.map (EF (cdK .u8) (cdK .u8) (fun _=>rfl) (fun _=>rfl)).enc))] [p2,p1] kr ?_;refine AJ he 0 rfl (Am (AA rfl) rfl (BZ (a:= .sl 2 (v14.map (EF (cdK .u8) (cdK .u8) (fun _=>rfl) (fun _=>rfl)).enc)) kr (Aw (el:=53) kr))) ?_;refine AB (n:=112) he 1 [p9,p8,p7,p6,p5,p4,p3,p12,(52,.v (.int .i64 (mnI (v14.length:Int) 20)))] [p2,p1] kr ?_;refine AJ he 0 rfl (Am (AA rfl) rfl (Jg (a:= .sl 2 (v14.map (EF (cdK .u8) (cdK .u8) (fun _=>rfl) (fun _=>rfl)).enc)) (l:=none) (u:=(some (.v (.int .i64 (mnI (v14.length:Int) 20))))) (m:=none) kr kr kr rfl (MN (xs:=v14) (e:=(EF (cdK .u8) (cdK .u8) (fun _=>rfl) (fun _=>rfl)).enc) (k:=2) (el:=53) (lo:=0) (hi:=(mnI (v14.length:Int) 20)) kr kr rfl (Jt (Nq hk15)) hk15))) ?_;refine AJ he 0 rfl (Am (AA rfl) rfl (BZ (a:= .sl 2 (((v14.take (mnI (v14.length:Int) 20).toNat).drop (0:Int).toNat).map (EF (cdK .u8) (cdK .u8) (fun _=>rfl) (fun _=>rfl)).enc)) kr (Aw (el:=53) kr))) ?_;exact AK he
   refine AQ ?_;obtain ⟨r29,hr29,h⟩:=OB h;refine Bm (n:=100000) ?_;refine BD (Ae (s1:=⟨Fr 112 [p9,p8,p7,p6,p5,p4,p3,p11,p10,(55,.v (.int .i64 0))],[p2,p1]⟩) (Ac [0,1] ⟨⟨_,rfl,Ai⟩,⟨_,rfl,DP⟩,trivial⟩ ⟨lv,lv,lv,Do (b':=1) kr kr,lv,lv,lv,lv,lv,lv,trivial⟩) (N8 x1 v1 c12 v14 _ c10 c11 0 _ hr29)) ?_
   let p13:Option Blk:=mk 1 50 (r29.2.map (cdL 1 (cdL 1 cdI)).enc)
   let p14:Option Blk:=some ⟨1,3,(r29.1.map cdI.enc),false⟩
   let p15:Nat×AV:=(11,hd 1 (r29.2.map (cdL 1 (cdL 1 cdI)).enc))
   let p16:Nat×AV:=(9,.rf 0 0 r29.1.length r29.1.length)
   refine AN he [p9,p8,p16,p15,(18,.e0),p5,p4,p3] [p14,p13] ?_
   let p17:Nat×AV:=(19,.v (.int .i64 0))
   refine AN he [p9,p8,p16,p15,(18,.e0),p17,p5,p4,p3] [p14,p13] ?_;refine AE ?_;refine AE ?_
   let p18:Nat×AV:=(86,.v (.int .i64 0))
   let p19:Nat×AV:=(85,.v (.int .i64 (v1.1.length:Int)))
   let p20:Nat×AV:=(84,.sl 1 (v1.1.map cdI.enc))
   refine AI (s1:=⟨Fr 112 [p9,p8,p16,p15,(18,.e0),p17,p5,p4,p3,p20,p19,p18],[p14,p13]⟩) ?_ ?_
   ·refine AB (n:=112) he 1 [p9,p8,p16,p15,(18,.e0),p17,p5,p4,p3,p20] [p14,p13] kr ?_
    refine AJ he 0 rfl (Am (AA rfl) rfl (BZ (a:= .sl 1 (v1.1.map cdI.enc)) kr (Aw (el:=3) kr))) ?_;exact AK he
   refine AQ ?_;obtain ⟨r39,hr39,h⟩:=OB h;refine Bm (n:=100000) ?_
   let p21:Nat×AV:=(18,hd 2 ([].map (cdL 1 cdI).enc))
   refine BD (Ae (s1:=⟨Fr 112 [p9,p8,p16,p15,p21,p17,p5,p4,p3,p20,p19,p18],[p14,p13,mk 1 31 ([].map (cdL 1 cdI).enc)]⟩) (Wk.trans (s1:=⟨Fr 112 [p9,p8,p16,p15,p21,p17,p5,p4,p3,p20,p19,p18],[p14,p13,mk 1 31 ([].map (cdL 1 cdI).enc)]⟩) Wk.none (Ac [0,1,2] ⟨⟨_,rfl,Ai⟩,⟨_,rfl,DP⟩,⟨_,rfl,KI⟩,trivial⟩ ⟨lv,lv,lv,Do (b':=1) kr kr,lv,lv,lv,lv,lv,lv,lv,lv,trivial⟩)) (N9 x1 v1 c12 r29 _ [] 0 0 _ hr39)) ?_;by_cases hk40:(Bb 24 (r29.2.length + 1))=true
   case neg=>rw [if_neg hk40] at h; cases h
   rw [if_pos hk40] at h
   let p22:Option Blk:=mk 1 50 ((r29.2++[r39]).map (cdL 1 (cdL 1 cdI)).enc)
   let p23:Nat×AV:=(11,hd 1 ((r29.2++[r39]).map (cdL 1 (cdL 1 cdI)).enc))
   refine AI (s1:=⟨Fr 112 [p9,p8,p16,p23,p5,p4,p3],[p14,p22]⟩) ?_ ?_
   ·let p24:Nat×AV:=(104,hd 1 (r29.2.map (cdL 1 (cdL 1 cdI)).enc))
    refine AB (n:=112) he 2 [p9,p8,p16,p5,p4,p3,p24,(105,hd 2 (r39.map (cdL 1 cdI).enc))] [p14,p13,mk 1 31 (r39.map (cdL 1 cdI).enc)] kr ?_;refine O7 (s1:=⟨Fr 112 [p9,p8,p16,p5,p4,p3,p24,(105,.sl 1 (r39.map (cdL 1 cdI).enc))],[p14,p13,none]⟩) (FV 2 (.inl kr) ⟨.inr (.inl rfl),.inr (.inl rfl),.inl rfl,trivial⟩ ⟨⟨.sl 1 (v1.1.map cdI.enc),kr,.inl rfl⟩,⟨.v (.int .i64 v1.2),kr,.inl rfl⟩,⟨.rf 0 0 r29.1.length r29.1.length,kr,.inl rfl⟩,⟨.sl 1 (((x1.take (mnI (x1.length:Int) 10).toNat).drop (0:Int).toNat).map (cdL 2 (EF (cdK .u8) (cdK .u8) (fun _=>rfl) (fun _=>rfl))).enc),kr,.inl rfl⟩,⟨.v (.int .i64 (((x1.take (mnI (x1.length:Int) 10).toNat).drop (0:Int).toNat).length:Int)),kr,.inl rfl⟩,⟨.v (.int .i64 c12),kr,.inl rfl⟩,⟨hd 1 (r29.2.map (cdL 1 (cdL 1 cdI)).enc),kr,.inl rfl⟩,⟨hd 2 (r39.map (cdL 1 cdI).enc),kr,Pv (t:=31) kr KO⟩,trivial⟩) ?_
    let p25:Option Blk:=mk 1 50 ([r39].map (cdL 1 (cdL 1 cdI)).enc)
    refine AB (n:=112) he 1 [p9,p8,p16,p5,p4,p3,p24,(106,hd 3 ([r39].map (cdL 1 (cdL 1 cdI)).enc))] [p14,p13,none,p25] kr ?_;refine AJ he 0 rfl (Ox (AA rfl) rfl kr kr (DO (a:=hd 1 (r29.2.map (cdL 1 (cdL 1 cdI)).enc)) (b:=hd 3 ([r39].map (cdL 1 (cdL 1 cdI)).enc)) kr kr (JV (c:=(cdL 1 (cdL 1 cdI))) (xs:=r29.2) (vs:=[r39]) (k:=1) (bytes:=24) (el:=50) kr kr (JX (t:=50) kr) (List.cons_ne_nil _ _) kr hk40))) ?_;refine AB (n:=112) he 1 [p9,p8,p16,(11,hd 4 ((r29.2++[r39]).map (cdL 1 (cdL 1 cdI)).enc)),p5,p4,p3] [p14,none,none,p25,p22] kr ?_;exact AO rfl (Ac [0,4] ⟨⟨_,rfl,Ai⟩,⟨_,rfl,DP⟩,trivial⟩ ⟨lv,lv,lv,Do (b':=4) kr kr,lv,lv,lv,trivial⟩)
   let p26:Nat×AV:=(45,.v (.int .i64 (wr .i64 (c12 + 1))))
   refine Cq he [p9,p8,p16,p23,p5,p4,p26] [p14,p22] ?_;exact Ae (s1:=⟨Fr 112 [p9,p8,p16,p23,p5,p4,p26],[p14,p22]⟩) (Ac [0,1] ⟨⟨_,rfl,Ai⟩,⟨_,rfl,DP⟩,trivial⟩ ⟨lv,lv,lv,Do (b':=1) kr kr,lv,lv,lv,trivial⟩) (ih r29.1 (r29.2++[r39]) (wr .i64 (c12 + 1)) h)
  ·rw [B9 hb13] at h
   refine Ba ?_;have hq:=OI h; subst hq;exact ⟨rfl,(Ac [1] ⟨⟨_,rfl,DP⟩,trivial⟩ ⟨lv,lv,Do (b':=1) kr kr,trivial⟩)⟩
theorem Od (x0:(List Int)) (x1:(List (List (Int×Int)))) (r:(List (List (List Int)))×(List Int)×Int) (h:GM x0 x1=some r):Sem CJ ⟨none,false⟩ FB ⟨Fr 112 (Av 0 (H5.enc (x0,x1,()))),[]⟩ fun e s'=>(e = .normal\/e = .ret)/\∃ xs,FA CJ.P s'.fr s'.hp Tryd.f25.results.toList=some xs/\FZ xs=H6 r:=by
 have he:=D9
 unfold GM at h
 let p1:Nat×AV:=(1,.sl 1 (x1.map (cdL 2 (EF (cdK .u8) (cdK .u8) (fun _=>rfl) (fun _=>rfl))).enc))
 let p2:Nat×AV:=(0,.sl 1 (x0.map (cdK .u8).enc))
 refine Bz (DX (s1:=⟨Fr 112 [p2,p1],[]⟩) Ah ?_);refine AN he [p2,p1] [] ?_;refine AE ?_;obtain ⟨v1,hv1,h⟩:=OB h
 let p3:Nat×AV:=(8,.v (.int .i64 v1.2))
 let p4:Nat×AV:=(7,.sl 1 (v1.1.map cdI.enc))
 refine AI (s1:=⟨Fr 112 [p1,p4,p3],[]⟩) ?_ ?_
 ·refine AB (n:=112) he 1 [p1,(23,.sl 1 (x0.map (cdK .u8).enc))] [] kr ?_
  refine RunS.call he (fid:=35) (s:=HW) (F:=fun a=>E9 a.1) (er:=Ha) (xs:=[.sl 1 (x0.map (cdK .u8).enc)]) (a:=(x0,())) rfl (AA rfl) kr kr kr kr (Sns.cons (Sn.enc (c:=(cdL 1 (cdK .u8))) (v:=x0)) Sns.nil) (.inl kr) hv1 ?_;exact AK he
 refine AE ?_;by_cases hk2:(OV 8 v1.2)=true
 case neg=>rw [if_neg hk2] at h; cases h
 rw [if_pos hk2] at h
 let p5:Option Blk:=some ⟨1,3,((List.replicate v1.2.toNat (0:Int)).map cdI.enc),false⟩
 let p6:Nat×AV:=(9,.rf 0 0 (List.replicate v1.2.toNat (0:Int)).length (List.replicate v1.2.toNat (0:Int)).length)
 refine AI (s1:=⟨Fr 112 [p1,p4,p3,p6],[p5]⟩) ?_ ?_
 ·refine AB (n:=112) he 1 [p1,p4,p3,(27,.v (.int .i64 v1.2))] [] kr ?_
  refine AJ he 0 rfl (OW (AA rfl) rfl kr (Ow (x:= .v (.int .i64 v1.2)) (y:= .v (.int .i64 v1.2)) kr kr (Py (c:=cdI) (z:=(0:Int)) (k:=1) (bytes:=8) (el:=3) kr kr hk2))) ?_;exact AK he
 refine AE ?_;refine AE ?_
 let p7:Nat×AV:=(30,.v (.int .i64 ((List.replicate v1.2.toNat (0:Int)).length:Int)))
 refine AI (s1:=⟨Fr 112 [p1,p4,p3,p6,p7,(31,.v (.int .i64 0))],[p5]⟩) ?_ ?_
 ·refine AB (n:=112) he 1 [p1,p4,p3,p6,(29,.rf 0 0 (List.replicate v1.2.toNat (0:Int)).length (List.replicate v1.2.toNat (0:Int)).length)] [p5] kr ?_
  refine AJ he 0 rfl (Am (AA rfl) rfl (BZ (a:= .rf 0 0 (List.replicate v1.2.toNat (0:Int)).length (List.replicate v1.2.toNat (0:Int)).length) kr (VH (xs:=(List.replicate v1.2.toNat (0:Int))) (el:=3) kr))) ?_;exact AK he
 refine AQ ?_;obtain ⟨r8,hr8,h⟩:=OB h;refine Bm (n:=100000) ?_;refine BD (Ae (s1:=⟨Fr 112 [p1,p4,p3,p6,p7,(31,.v (.int .i64 0))],[p5]⟩) (Ac [0] ⟨⟨_,rfl,Ai⟩,trivial⟩ ⟨lv,lv,lv,lv,lv,lv,trivial⟩) (N6 x1 v1 _ (List.replicate v1.2.toNat (0:Int)) 0 _ hr8)) ?_
 let p8:Option Blk:=some ⟨1,3,(r8.map cdI.enc),false⟩
 let p9:Nat×AV:=(9,.rf 0 0 r8.length r8.length)
 refine AN he [p1,p4,p3,p9,(11,.e0)] [p8] ?_;refine AE ?_;refine AE ?_;by_cases hk9:(HG 0 (mnI (x1.length:Int) 10) x1.length)=true
 case neg=>rw [if_neg hk9] at h; cases h
 rw [if_pos hk9] at h
 let p10:Nat×AV:=(45,.v (.int .i64 0))
 let p11:Nat×AV:=(44,.v (.int .i64 (((x1.take (mnI (x1.length:Int) 10).toNat).drop (0:Int).toNat).length:Int)))
 let p12:Nat×AV:=(43,.sl 1 (((x1.take (mnI (x1.length:Int) 10).toNat).drop (0:Int).toNat).map (cdL 2 (EF (cdK .u8) (cdK .u8) (fun _=>rfl) (fun _=>rfl))).enc))
 refine AI (s1:=⟨Fr 112 [p4,p3,p9,(11,.e0),p12,p11,p10],[p8]⟩) ?_ ?_
 ·let p13:Nat×AV:=(39,.sl 1 (x1.map (cdL 2 (EF (cdK .u8) (cdK .u8) (fun _=>rfl) (fun _=>rfl))).enc))
  refine AB (n:=112) he 2 [p4,p3,p9,(11,.e0),p13,(40,.sl 1 (x1.map (cdL 2 (EF (cdK .u8) (cdK .u8) (fun _=>rfl) (fun _=>rfl))).enc))] [p8] kr ?_;refine AJ he 0 rfl (Am (AA rfl) rfl (BZ (a:= .sl 1 (x1.map (cdL 2 (EF (cdK .u8) (cdK .u8) (fun _=>rfl) (fun _=>rfl))).enc)) kr (Aw (el:=52) kr))) ?_;refine AB (n:=112) he 1 [p4,p3,p9,(11,.e0),p13,(42,.v (.int .i64 (mnI (x1.length:Int) 10)))] [p8] kr ?_;refine AJ he 0 rfl (Am (AA rfl) rfl (Jg (a:= .sl 1 (x1.map (cdL 2 (EF (cdK .u8) (cdK .u8) (fun _=>rfl) (fun _=>rfl))).enc)) (l:=none) (u:=(some (.v (.int .i64 (mnI (x1.length:Int) 10))))) (m:=none) kr kr kr rfl (MN (xs:=x1) (e:=(cdL 2 (EF (cdK .u8) (cdK .u8) (fun _=>rfl) (fun _=>rfl))).enc) (k:=1) (el:=52) (lo:=0) (hi:=(mnI (x1.length:Int) 10)) kr kr rfl (Jt (Nq hk9)) hk9))) ?_;refine AJ he 0 rfl (Am (AA rfl) rfl (BZ (a:= .sl 1 (((x1.take (mnI (x1.length:Int) 10).toNat).drop (0:Int).toNat).map (cdL 2 (EF (cdK .u8) (cdK .u8) (fun _=>rfl) (fun _=>rfl))).enc)) kr (Aw (el:=52) kr))) ?_;exact AK he
 refine AQ ?_;obtain ⟨r42,hr42,h⟩:=OB h;refine Bm (n:=100000) ?_
 let p14:Option Blk:=mk 1 50 ([].map (cdL 1 (cdL 1 cdI)).enc)
 let p15:Nat×AV:=(11,hd 1 ([].map (cdL 1 (cdL 1 cdI)).enc))
 refine BD (Ae (s1:=⟨Fr 112 [p4,p3,p9,p15,p12,p11,p10],[p8,p14]⟩) (Wk.trans (s1:=⟨Fr 112 [p4,p3,p9,p15,p12,p11,p10],[p8,p14]⟩) Wk.none (Ac [0,1] ⟨⟨_,rfl,Ai⟩,⟨_,rfl,KI⟩,trivial⟩ ⟨lv,lv,lv,lv,lv,lv,lv,trivial⟩)) (N7 x1 v1 _ r8 [] 0 _ hr42)) ?_
 let p16:Nat×AV:=(6,.v (.int .i64 v1.2))
 let p17:Nat×AV:=(5,.sl 1 (v1.1.map cdI.enc))
 refine AN he [(4,hd 0 (r42.map (cdL 1 (cdL 1 cdI)).enc)),p17,p16] [mk 1 50 (r42.map (cdL 1 (cdL 1 cdI)).enc)] ?_;refine An ?_;have hq:=OI h; subst hq
 let p18:Nat×AV:=(4,.sl 1 (r42.map (cdL 1 (cdL 1 cdI)).enc))
 exact ⟨⟨Fr 112 [p18,p17,p16],[]⟩,(Wk.trans (s1:=⟨Fr 112 [p18,p17,p16],[none]⟩) (FV 0 (.inl kr) ⟨.inl rfl,trivial⟩ ⟨⟨hd 0 (r42.map (cdL 1 (cdL 1 cdI)).enc),kr,Pv (t:=50) kr KO⟩,⟨.sl 1 (v1.1.map cdI.enc),kr,.inl rfl⟩,⟨.v (.int .i64 v1.2),kr,.inl rfl⟩,trivial⟩) (Ac [] trivial ⟨lv,lv,lv,trivial⟩)),.inr rfl,[.sl 1 (r42.map (cdL 1 (cdL 1 cdI)).enc),.sl 1 (v1.1.map cdI.enc),.v (.int .i64 v1.2)],kr,kr⟩
def M6:List AV->Option AV:=GP H5 (fun a=>GM a.1 a.2.1) H6
theorem M8:XOk 25 M6:=by
 refine EnvOk.x (E:=CJ) (Af D9 (fn:=Tryd.f25) (c:=FB) ?h1 ?h2 ⟨Tryd.call25⟩ H5 (fun a=>GM a.1 a.2.1) H6 (fun a=>(by show 2<=112; decide)) ?h3 ?h4) rfl rfl
 case h1=>kernel_rfl
 case h2=>kernel_rfl
 case h3=>intro b; kernel_rfl
 case h4=>exact fun a b h=>Od a.1 a.2.1 b h
/- trestle/evening.guests -/
noncomputable def Fg:Env:=E0
theorem IQ:EnvOk Fg:=BB
noncomputable def I5:Code:=BK Tryd.f82
def Br (x0:Int):Option (Bool) :=
 (if (decide (x0≥1))=true then some (decide (x0<=64)) else some false).bind fun j2 =>
 some j2
def D7:Cs (Int×Unit):=(csC cdI csN)
def EA (r:Bool):AV:=cdB.enc r
theorem MD (x0:Int) (r:Bool) (h:Br x0=some r):Sem Fg ⟨none,false⟩ I5 ⟨Fr 9 (Av 0 (D7.enc (x0,()))),[]⟩ fun e s'=>(e = .normal\/e = .ret)/\∃ xs,FA Fg.P s'.fr s'.hp Tryd.f82.results.toList=some xs/\FZ xs=EA r:=by
 have he:=IQ
 unfold Br at h;refine Bz (DX (s1:=⟨Fr 9 [(0,.v (.int .i64 x0))],[]⟩) Ah ?_);refine AN he [(0,.v (.int .i64 x0))] [] ?_;refine AE ?_;obtain ⟨j2,hj2,h⟩:=OB h;refine AI (s1:=⟨Fr 9 [(2,.v (.bool j2))],[]⟩) ?_ ?_
 ·refine AB (n:=9) he 3 [(0,.v (.int .i64 x0)),(5,.v (.bool (decide (x0≥1))))] [] kr ?_
  rcases BE (decide (x0≥1)) with hc3 | hc3
  ·rw [if_pos hc3] at hj2
   rw [hc3];refine AB (n:=9) he 4 [(2,.v (.bool (decide (x0<=64))))] [] kr ?_;have hq:=OI hj2; subst hq;exact AO rfl Ah
  ·rw [B9 hc3] at hj2
   rw [hc3];refine AB (n:=9) he 4 [(2,.v (.bool false))] [] kr ?_;have hq:=OI hj2; subst hq;exact AO rfl Ah
 refine An ?_;have hq:=OI h; subst hq;exact ⟨⟨Fr 9 [(2,.v (.bool j2))],[]⟩,Ah,.inr rfl,[.v (.bool j2)],kr,kr⟩
def Hx:List AV->Option AV:=GP D7 (fun a=>Br a.1) EA
theorem Fv:XOk 82 Hx:=by
 refine EnvOk.x (E:=Fg) (Af IQ (fn:=Tryd.f82) (c:=I5) ?h1 ?h2 ⟨Tryd.call82⟩ D7 (fun a=>Br a.1) EA (fun a=>(by show 1<=9; decide)) ?h3 ?h4) rfl rfl
 case h1=>kernel_rfl
 case h2=>kernel_rfl
 case h3=>intro b; kernel_rfl
 case h4=>exact fun a b h=>MD a.1 b h
/- trestle/evening.fit -/
noncomputable def EQ:Env:=(E0.withX 82 Hx)
theorem Hr:EnvOk EQ:=(EnvOk.withX BB Fv.1 Fv.2)
noncomputable def Iq:Code:=BK Tryd.f67
def EU (x0:Int) (x1:(List Int)):Nat->Int->Int->Option ((Int) ⊕ (Bool))
 | 0,_,_=>none
 | f + 1,c1,c2 =>
  if (decide (c2 < (x1.length:Int)))=true then
  (idx x1 c2).bind fun v4 =>
  (if (decide (v4 < 1))=true then some true else some (decide (v4 > c1))).bind fun j6 =>
  if j6=true then
  some (.inr false)
  else
  EU x0 x1 f (wr .i64 (c1 - v4)) (wr .i64 (c2 + 1))
  else
  some (.inl c1)
def E3 (x0:Int) (x1:(List Int)):Option (Bool) :=
 (EU x0 x1 100000 x0 0).bind fun r11 =>
 match r11 with
 | (.inl w12) =>
  (Br x0).bind fun v13 =>
  (if v13=true then some (w12==0) else some false).bind fun j15 =>
  some j15
 | (.inr w17) =>
  some w17
def HV:Cs (Int×(List Int)×Unit):=(csC cdI (csC (cdL 1 cdI) csN))
def HZ (r:Bool):AV:=cdB.enc r
theorem Jp (x0:Int) (x1:(List Int)):∀ (f:Nat) (c1:Int) (c2:Int) (r:(Int) ⊕ (Bool)),EU x0 x1 f c1 c2=some r->SemN EQ ⟨none,false⟩ (pc Iq [1,1,0,1,0,0]) f ⟨Fr 32 [(0,.v (.int .i64 x0)),(5,.v (.int .i64 c1)),(9,.sl 1 (x1.map cdI.enc)),(10,.v (.int .i64 (x1.length:Int))),(11,.v (.int .i64 c2))],[]⟩ (fun e s=>match r with
 | (.inl w)=>e=(.exit 0)/\Wk EQ s ⟨Fr 32 [(0,.v (.int .i64 x0)),(5,.v (.int .i64 w))],[]⟩
 | (.inr w)=>e = .ret/\Wk EQ s ⟨Fr 32 [(4,.v (.bool w))],[]⟩):=by
 have he:=Hr
 intro f;induction f with
 | zero=>intro c1 c2 r h; cases h
 | succ f ih0 =>
  intro c1 c2 r h
  have ih:=fun (c1:Int) (c2:Int)=>ih0 c1 c2 r
  unfold EU at h;refine BJ ?_;refine AN he [(0,.v (.int .i64 x0)),(5,.v (.int .i64 c1)),(9,.sl 1 (x1.map cdI.enc)),(10,.v (.int .i64 (x1.length:Int))),(11,.v (.int .i64 c2)),(12,.v (.bool (decide (c2 < (x1.length:Int)))))] [] ?_;refine AE ?_;refine AU (b:=(decide (c2 < (x1.length:Int)))) kr (fun hb3=>?_) (fun hb3=>?_)
  ·rw [if_pos hb3] at h
   refine AX ?_;refine AE ?_;refine AQ ?_;refine AE ?_;obtain ⟨v4,hv4,h⟩:=OB h;refine AI (s1:=⟨Fr 32 [(0,.v (.int .i64 x0)),(5,.v (.int .i64 c1)),(7,.v (.int .i64 v4)),(9,.sl 1 (x1.map cdI.enc)),(10,.v (.int .i64 (x1.length:Int))),(11,.v (.int .i64 c2))],[]⟩) ?_ ?_
   ·refine AJ he 0 rfl (Am (AA rfl) rfl (AF (a:= .sl 1 (x1.map cdI.enc)) (b:= .v (.int .i64 c2)) kr kr (DT (e:=cdI.enc) (el:=3) (k:=1) (ki:= .i64) kr kr hv4))) ?_
    exact AK he
   refine AE ?_;refine AE ?_;obtain ⟨j6,hj6,h⟩:=OB h;refine AI (s1:=⟨Fr 32 [(0,.v (.int .i64 x0)),(5,.v (.int .i64 c1)),(7,.v (.int .i64 v4)),(9,.sl 1 (x1.map cdI.enc)),(10,.v (.int .i64 (x1.length:Int))),(11,.v (.int .i64 c2)),(21,.v (.bool j6))],[]⟩) ?_ ?_
   ·refine AB (n:=32) he 3 [(0,.v (.int .i64 x0)),(5,.v (.int .i64 c1)),(7,.v (.int .i64 v4)),(9,.sl 1 (x1.map cdI.enc)),(10,.v (.int .i64 (x1.length:Int))),(11,.v (.int .i64 c2)),(17,.v (.bool (decide (v4 < 1))))] [] kr ?_
    rcases BE (decide (v4 < 1)) with hc9 | hc9
    ·rw [if_pos hc9] at hj6
     rw [hc9];refine AB (n:=32) he 4 [(0,.v (.int .i64 x0)),(5,.v (.int .i64 c1)),(7,.v (.int .i64 v4)),(9,.sl 1 (x1.map cdI.enc)),(10,.v (.int .i64 (x1.length:Int))),(11,.v (.int .i64 c2)),(18,.tp []),(19,.tp []),(20,.tp []),(21,.v (.bool true))] [] kr ?_;have hq:=OI hj6; subst hq;exact AO rfl Ah
    ·rw [B9 hc9] at hj6
     rw [hc9];refine AB (n:=32) he 4 [(0,.v (.int .i64 x0)),(5,.v (.int .i64 c1)),(7,.v (.int .i64 v4)),(9,.sl 1 (x1.map cdI.enc)),(10,.v (.int .i64 (x1.length:Int))),(11,.v (.int .i64 c2)),(18,.v (.int .i64 v4)),(19,.v (.int .i64 c1)),(20,.v (.bool (decide (v4 > c1)))),(21,.v (.bool (decide (v4 > c1))))] [] kr ?_;have hq:=OI hj6; subst hq;exact AO rfl Ah
   refine AU (b:=j6) kr (fun hb7=>?_) (fun hb7=>?_)
   ·rw [if_pos hb7] at h
    refine AN he [(4,.v (.bool false))] [] ?_;refine An ?_;have hq:=OI h; subst hq;exact ⟨rfl,Ah⟩
   ·rw [B9 hb7] at h
    refine AX ?_;refine Cq he [(0,.v (.int .i64 x0)),(5,.v (.int .i64 (wr .i64 (c1 - v4)))),(9,.sl 1 (x1.map cdI.enc)),(10,.v (.int .i64 (x1.length:Int))),(11,.v (.int .i64 c2))] [] ?_;refine Cq he [(0,.v (.int .i64 x0)),(5,.v (.int .i64 (wr .i64 (c1 - v4)))),(9,.sl 1 (x1.map cdI.enc)),(10,.v (.int .i64 (x1.length:Int))),(11,.v (.int .i64 (wr .i64 (c2 + 1))))] [] ?_;exact Ae (s1:=⟨Fr 32 [(0,.v (.int .i64 x0)),(5,.v (.int .i64 (wr .i64 (c1 - v4)))),(9,.sl 1 (x1.map cdI.enc)),(10,.v (.int .i64 (x1.length:Int))),(11,.v (.int .i64 (wr .i64 (c2 + 1))))],[]⟩) Ah (ih (wr .i64 (c1 - v4)) (wr .i64 (c2 + 1)) h)
  ·rw [B9 hb3] at h
   refine Ba ?_;have hq:=OI h; subst hq;exact ⟨rfl,Ah⟩
theorem Nt (x0:Int) (x1:(List Int)) (r:Bool) (h:E3 x0 x1=some r):Sem EQ ⟨none,false⟩ Iq ⟨Fr 32 (Av 0 (HV.enc (x0,x1,()))),[]⟩ fun e s'=>(e = .normal\/e = .ret)/\∃ xs,FA EQ.P s'.fr s'.hp Tryd.f67.results.toList=some xs/\FZ xs=HZ r:=by
 have he:=Hr
 unfold E3 at h;refine Bz (DX (s1:=⟨Fr 32 [(0,.v (.int .i64 x0)),(1,.sl 1 (x1.map cdI.enc))],[]⟩) Ah ?_);refine AN he [(0,.v (.int .i64 x0)),(1,.sl 1 (x1.map cdI.enc))] [] ?_;refine AN he [(0,.v (.int .i64 x0)),(1,.sl 1 (x1.map cdI.enc)),(5,.v (.int .i64 x0))] [] ?_;refine AE ?_;refine AE ?_;refine AI (s1:=⟨Fr 32 [(0,.v (.int .i64 x0)),(5,.v (.int .i64 x0)),(9,.sl 1 (x1.map cdI.enc)),(10,.v (.int .i64 (x1.length:Int))),(11,.v (.int .i64 0))],[]⟩) ?_ ?_
 ·refine AB (n:=32) he 1 [(0,.v (.int .i64 x0)),(5,.v (.int .i64 x0)),(9,.sl 1 (x1.map cdI.enc))] [] kr ?_
  refine AJ he 0 rfl (Am (AA rfl) rfl (BZ (a:= .sl 1 (x1.map cdI.enc)) kr (Aw (el:=3) kr))) ?_;exact AK he
 refine AQ ?_;obtain ⟨r11,hr11,h⟩:=OB h;refine Bm (n:=100000) ?_;rcases r11 with w12 | w17
 ·try dsimp only at h
  refine BD (Ae (s1:=⟨Fr 32 [(0,.v (.int .i64 x0)),(5,.v (.int .i64 x0)),(9,.sl 1 (x1.map cdI.enc)),(10,.v (.int .i64 (x1.length:Int))),(11,.v (.int .i64 0))],[]⟩) Ah (Jp x0 x1 _ x0 0 _ hr11)) ?_;refine AE ?_;obtain ⟨v13,hv13,h⟩:=OB h;obtain ⟨j15,hj15,h⟩:=OB h;refine AI (s1:=⟨Fr 32 [(4,.v (.bool j15))],[]⟩) ?_ ?_
  ·refine AB (n:=32) he 1 [(5,.v (.int .i64 w12)),(26,.v (.int .i64 x0))] [] kr ?_
   refine RunS.call he (fid:=82) (s:=D7) (F:=fun a=>Br a.1) (er:=EA) (xs:=[.v (.int .i64 x0)]) (a:=(x0,())) rfl (AA rfl) kr kr kr kr (Sns.cons (Sn.enc (c:=cdI) (v:=x0)) Sns.nil) (.inl kr) hv13 ?_;refine AB (n:=32) he 1 [(5,.v (.int .i64 w12)),(28,.v (.bool v13))] [] kr ?_;rcases BE v13 with hc16 | hc16
   ·rw [if_pos hc16] at hj15
    rw [hc16];refine AB (n:=32) he 4 [(4,.v (.bool (w12==0)))] [] kr ?_;have hq:=OI hj15; subst hq;exact AO rfl Ah
   ·rw [B9 hc16] at hj15
    rw [hc16];refine AB (n:=32) he 4 [(4,.v (.bool false))] [] kr ?_;have hq:=OI hj15; subst hq;exact AO rfl Ah
  refine An ?_;have hq:=OI h; subst hq;exact ⟨⟨Fr 32 [(4,.v (.bool j15))],[]⟩,Ah,.inr rfl,[.v (.bool j15)],kr,kr⟩
 ·try dsimp only at h
  refine BD (Ae (s1:=⟨Fr 32 [(0,.v (.int .i64 x0)),(5,.v (.int .i64 x0)),(9,.sl 1 (x1.map cdI.enc)),(10,.v (.int .i64 (x1.length:Int))),(11,.v (.int .i64 0))],[]⟩) Ah (Jp x0 x1 _ x0 0 _ hr11)) ?_;have hq:=OI h; subst hq;exact ⟨⟨Fr 32 [(4,.v (.bool w17))],[]⟩,Ah,.inr rfl,[.v (.bool w17)],kr,kr⟩
def MO:List AV->Option AV:=GP HV (fun a=>E3 a.1 a.2.1) HZ
theorem MW:XOk 67 MO:=by
 refine EnvOk.x (E:=EQ) (Af Hr (fn:=Tryd.f67) (c:=Iq) ?h1 ?h2 ⟨Tryd.call67⟩ HV (fun a=>E3 a.1 a.2.1) HZ (fun a=>(by show 2<=32; decide)) ?h3 ?h4) rfl rfl
 case h1=>kernel_rfl
 case h2=>kernel_rfl
 case h3=>intro b; kernel_rfl
 case h4=>exact fun a b h=>Nt a.1 a.2.1 b h
end Go.Proofs.YtcmgmkepodbpkaaDoor
