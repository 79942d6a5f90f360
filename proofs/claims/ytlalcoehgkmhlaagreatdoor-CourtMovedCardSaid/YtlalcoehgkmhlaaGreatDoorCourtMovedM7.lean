/- Lemmas for the proof. -/
import Derived.Test.YtlalcoehgkmhlaaGreatDoorCourtMovedM1
import Derived.Test.YtlalcoehgkmhlaaGreatDoorCourtMovedM2
import Derived.Test.YtlalcoehgkmhlaaGreatDoorCourtMovedM3
import Derived.Test.YtlalcoehgkmhlaaGreatDoorCourtMovedM4
import Derived.Test.YtlalcoehgkmhlaaGreatDoorCourtMovedM5
import Derived.Test.YtlalcoehgkmhlaaGreatDoorCourtMovedM6
set_option maxHeartbeats 4000000
set_option maxRecDepth 100000
namespace Go.Proofs.YtlalcoehgkmhlaaGreatDoor
open Go.RowKit
def isT (r:Option (AV×Hp)):Bool:=match r with
 | some (.v (.bool true),_)=>true
 | _=>false
theorem Vg {r:Option (AV×Hp)}(h:isT r=true):∃ h',r=some (.v (.bool true),h'):=by
 unfold isT at h
 split at h
 ·exact ⟨_,rfl⟩
 ·cases h
set_option maxRecDepth 1000000 in
theorem Wp:isT (RN E13 3000 18 [] [])=true:=by kernel_rfl
theorem Tp:∃ h,RN E13 3000 18 [] []=some (.v (.bool true),h):=Vg Wp
theorem SZ (w:World):Ret Tryz.prog 18 #[] w fun v w'=>v = .bool true/\w.grownBy w' none:=by
 obtain ⟨h,e⟩:=Tp
 exact UU (E:=E13) (Z:=fun _=>False) (us:=[]) Wd e (fun c hc=>hc.elim) (fun g x h=>by cases h) .nil
theorem WJ {w:World}{Z:Nat->Prop}:VR w Z [] (.v (.bool true)) (.bool true):= .v rfl
def NE:Option Bool:=some true
def Nx:Cs Unit:=csN
def Ny (b:Bool):AV:=cdB.enc b
def PO:List AV->Option AV:=EN Nx (fun _=>NE) Ny
theorem PX:XOk 18 PO:=by
 refine ⟨⟨Tryz.call18⟩,fun xs x h w Z us _ _ hv=>?_⟩
 obtain ⟨a,ha,h⟩:=OB h
 obtain ⟨b,hb,rfl⟩:=Option.map_eq_some_iff.1 h
 have hb:=OI hb
 subst hb
 have:xs=[]:=by
  cases xs with
  | nil=>rfl
  | cons x xs=>cases ha
 subst this
 have:us=[]:=by have:=hv.len; simpa using this
 subst this
 exact Ret.mono (SZ w) fun v w' h=>⟨h.2,by rw [h.1]; exact WJ⟩
/- trestle/trestlelaw03.CourtMoved$1 -/
noncomputable def G4:Code:=Bo Tryz.f30
def Ch (x0:AE):Option (Bool) :=
 (if (x0.1==9)=true then some true else some (x0.1==10)).bind fun j2 =>
 some j2
def FN:Cs (AE×Unit):=(csC AA csN)
def FR (r:Bool):AV:=cdB.enc r
theorem Jc (x0:AE) (r:Bool) (h:Ch x0=some r):Sem E0 ⟨none,false⟩ G4 ⟨Fr 11 (BS 0 (FN.enc (x0,()))),[]⟩ fun e s'=>(e = .normal\/e = .ret)/\∃ xs,Eo E0.P s'.fr s'.hp Tryz.f30.results.toList=some xs/\Er xs=FR r:=by
 unfold Ch at h;refine BJ (CD (s1:=⟨Fr 11 [(0,AA.enc x0)],[]⟩) AT ?_);refine AM AC [(1,.pt 0 0 0)] [some ⟨5,60,[AA.enc x0],false⟩] ?_;refine AH ?_;obtain ⟨j2,hj2,h⟩:=OB h;refine AO (s1:=⟨Fr 11 [(2,.v (.bool j2))],[]⟩) ?_ ?_
 ·refine AF (n:=11) AC 4 [(1,.pt 0 0 0),(6,.v (.bool (x0.1==9)))] [some ⟨5,60,[AA.enc x0],false⟩] kr ?_
  rcases BE (x0.1==9) with hc3 | hc3
  ·rw [if_pos hc3] at hj2
   rw [hc3];refine AF (n:=11) AC 5 [(2,.v (.bool true))] [some ⟨5,60,[AA.enc x0],false⟩] kr ?_;have hq:=OI hj2; subst hq;exact AL rfl (Au [] trivial ⟨lv,trivial⟩)
  ·rw [Cr hc3] at hj2
   rw [hc3];refine AF (n:=11) AC 5 [(2,.v (.bool (x0.1==10)))] [some ⟨5,60,[AA.enc x0],false⟩] kr ?_;have hq:=OI hj2; subst hq;exact AL rfl (Au [] trivial ⟨lv,trivial⟩)
 refine AX ?_;have hq:=OI h; subst hq;exact ⟨⟨Fr 11 [(2,.v (.bool j2))],[]⟩,AT,.inr rfl,[.v (.bool j2)],kr,kr⟩
def KN:List AV->Option AV:=EN FN (fun a=>Ch a.1) FR
theorem Hm:XOk 30 KN:=by
 refine AZ Tryz.func30 (c:=G4) ?h2 ⟨Tryz.call30⟩ FN (fun a=>Ch a.1) FR (fun a=>(by show 1<=11; decide)) ?h3 ?h4
 case h2=>kernel_rfl
 case h3=>intro b; kernel_rfl
 case h4=>exact fun a b h=>Jc a.1 b h
/- slices.IndexFunc[[]trestle/api.Clause,trestle/api.Clause] -/
noncomputable def BA:Code:=Bo Tryz.f85
def AG (x0:(List AE)):Nat->Int->Option ((Unit) ⊕ (Int))
 | 0,_=>none
 | f + 1,c1 =>
  if (decide (c1 < (x0.length:Int)))=true then
  (idx x0 c1).bind fun v3 =>
  (Ch v3).bind fun v4 =>
  if v4=true then
  some (.inr c1)
  else
  AG x0 f (wr .i64 (c1 + 1))
  else
  some (.inl ())
def AN (x0:(List AE)):Option (Int) :=
 (AG x0 100000 0).bind fun r7 =>
 match r7 with
 | (.inl w8) =>
  some (-1)
 | (.inr w9) =>
  some w9
def BB:Cs ((List AE)×Unit×Unit):=(csC (cdL 5 AA) (csC (cdF 30 csN (fun _=>rfl)) csN))
def BC (r:Int):AV:=cdI.enc r
theorem Bi (x0:(List AE)):∀ (f:Nat) (c1:Int) (r:(Unit) ⊕ (Int)),AG x0 f c1=some r->SemN E0 ⟨none,false⟩ (pc BA [1,0,1,0,0]) f ⟨Fr 19 [(0,.sl 5 (x0.map AA.enc)),(1,.fn 30 [] []),(7,.v (.int .i64 (x0.length:Int))),(8,.v (.int .i64 c1))],[]⟩ (fun e s=>match r with
 | (.inl w)=>e=(.exit 0)/\Wk E0 s ⟨Fr 19 [],[]⟩
 | (.inr w)=>e = .ret/\Wk E0 s ⟨Fr 19 [(4,.v (.int .i64 w))],[]⟩):=by
 intro f;induction f with
 | zero=>intro c1 r h; cases h
 | succ f ih0 =>
  intro c1 r h
  have ih:=fun (c1:Int)=>ih0 c1 r
  unfold AG at h;refine D3 ?_
  let p1:Nat×AV:=(8,.v (.int .i64 c1))
  let p2:Nat×AV:=(7,.v (.int .i64 (x0.length:Int)))
  let p3:Nat×AV:=(1,.fn 30 [] [])
  let p4:Nat×AV:=(0,.sl 5 (x0.map AA.enc))
  refine AM AC [p4,p3,p2,p1,(9,.v (.bool (decide (c1 < (x0.length:Int)))))] [] ?_;refine AH ?_;refine AW (b:=(decide (c1 < (x0.length:Int)))) kr (fun hb2=>?_) (fun hb2=>?_)
  ·rw [if_pos hb2] at h
   refine Ai ?_;refine AH ?_;refine Bh ?_
   let p5:Nat×AV:=(5,.v (.int .i64 c1))
   refine AM AC [p4,p3,p5,p2,p1] [] ?_;refine AH ?_;obtain ⟨v3,hv3,h⟩:=OB h;obtain ⟨v4,hv4,h⟩:=OB h;refine AO (s1:=⟨Fr 19 [p4,p3,p5,p2,p1,(16,.v (.bool v4))],[]⟩) ?_ ?_
   ·refine AF (n:=19) AC 3 [p4,p3,p5,p2,p1,(11,.fn 30 [] []),(12,.sl 5 (x0.map AA.enc)),(13,.v (.int .i64 c1))] [] kr ?_
    refine Aq AC 0 rfl (EM (AB rfl) rfl (Ao (a:= .sl 5 (x0.map AA.enc)) (b:= .v (.int .i64 c1)) kr kr (Iw (e:=AA.enc) (el:=60) (k:=5) (ki:= .i64) kr kr hv3))) ?_;refine AF (n:=19) AC 1 [p4,p3,p5,p2,p1,(11,.fn 30 [] []),(15,AA.enc v3)] [] kr ?_;refine Ay (caps:=[]) (xs:=[AA.enc v3]) (u:=(v3,())) rfl rfl Hm rfl (AB rfl) kr kr (Ab (A3 (c:=AA) (v:=v3)) B6) (.inl kr) hv4 ?_;exact AL rfl AT
   refine AW (b:=v4) kr (fun hb5=>?_) (fun hb5=>?_)
   ·rw [if_pos hb5] at h
    refine AM AC [(4,.v (.int .i64 c1))] [] ?_;refine AX ?_;have hq:=OI h; subst hq;exact ⟨rfl,AT⟩
   ·rw [Cr hb5] at h
    refine Ai ?_
    let p6:Nat×AV:=(8,.v (.int .i64 (wr .i64 (c1 + 1))))
    refine Eq AC [p4,p3,p2,p6] [] ?_;exact CF (s1:=⟨Fr 19 [p4,p3,p2,p6],[]⟩) AT (ih (wr .i64 (c1 + 1)) h)
  ·rw [Cr hb2] at h
   refine FD ?_;have hq:=OI h; subst hq;exact ⟨rfl,AT⟩
theorem Ct (x0:(List AE)) (r:Int) (h:AN x0=some r):Sem E0 ⟨none,false⟩ BA ⟨Fr 19 (BS 0 (BB.enc (x0,(),()))),[]⟩ fun e s'=>(e = .normal\/e = .ret)/\∃ xs,Eo E0.P s'.fr s'.hp Tryz.f85.results.toList=some xs/\Er xs=BC r:=by
 unfold AN at h
 let p1:Nat×AV:=(1,.fn 30 [] [])
 let p2:Nat×AV:=(0,.sl 5 (x0.map AA.enc))
 refine BJ (CD (s1:=⟨Fr 19 [p2,p1],[]⟩) AT ?_);refine AM AC [p2,p1] [] ?_;refine AH ?_;refine AH ?_
 let p3:Nat×AV:=(8,.v (.int .i64 0))
 let p4:Nat×AV:=(7,.v (.int .i64 (x0.length:Int)))
 refine AO (s1:=⟨Fr 19 [p2,p1,p4,p3],[]⟩) ?_ ?_
 ·refine AF (n:=19) AC 1 [p2,p1,(6,.sl 5 (x0.map AA.enc))] [] kr ?_
  refine Aq AC 0 rfl (EM (AB rfl) rfl (FU (a:= .sl 5 (x0.map AA.enc)) kr (Dq (el:=60) kr))) ?_;exact A5 AC
 refine Bh ?_;obtain ⟨r7,hr7,h⟩:=OB h;refine FE (n:=100000) ?_;rcases r7 with w8 | w9
 ·try dsimp only at h
  refine Cn (CF (s1:=⟨Fr 19 [p2,p1,p4,p3],[]⟩) AT (Bi x0 _ 0 _ hr7)) ?_;refine AM AC [(4,.v (.int .i64 (-1)))] [] ?_;refine AX ?_;have hq:=OI h; subst hq;exact ⟨⟨Fr 19 [(4,.v (.int .i64 (-1)))],[]⟩,AT,.inr rfl,[.v (.int .i64 (-1))],kr,kr⟩
 ·try dsimp only at h
  refine Cn (CF (s1:=⟨Fr 19 [p2,p1,p4,p3],[]⟩) AT (Bi x0 _ 0 _ hr7)) ?_;have hq:=OI h; subst hq;exact ⟨⟨Fr 19 [(4,.v (.int .i64 w9))],[]⟩,AT,.inr rfl,[.v (.int .i64 w9)],kr,kr⟩
def C4:List AV->Option AV:=EN BB (fun a=>AN a.1) BC
theorem C5:XOk 85 C4:=by
 refine AZ Tryz.func85 (c:=BA) ?h2 ⟨Tryz.call85⟩ BB (fun a=>AN a.1) BC (fun a=>(by show 2<=19; decide)) ?h3 ?h4
 case h2=>kernel_rfl
 case h3=>intro b; kernel_rfl
 case h4=>exact fun a b h=>Ct a.1 b h
/-- An own block is shortened. -/
theorem SU {E:Env}{n d:Nat}{l:List (Nat×AV)}{hp:Hp}{b k q m:Nat}{t:TypeId}{es zs:List AV}(hb:hp[b]? = some (some ⟨k,t,es++zs,false⟩)) (_:q<=m):WkY E ⟨Fr n ((d,.rf b 0 q m)::l),hp⟩ ⟨Fr n ((d,.rf b 0 q q)::l),hp.set b (some ⟨k,t,es,false⟩)⟩:=by
 intro base w Z R a sr
 obtain ⟨r,arr,us,g1,g2,g3,g4,g5,g6,g7,g8,g9,g10⟩:=sr.hh.blk b _ hb
 have hel:(es++zs).take es.length=es:=by rw [List.take_append_of_le_length (Nat.le_refl _),List.take_of_length_le (Nat.le_refl _)]
 have hput:=sr.hh.put (w':=w) (es:=es) (us:=us.take es.length) (arr:=arr) hb rfl g1 ⟨rfl,rfl,rfl,Nat.le_refl _,fun _ _ _=>rfl⟩ g3 g4 (by have:(es++zs).length<=r.cap:=g5; rw [List.length_append] at this; omega) (by have:=g9.take es.length; rwa [hel] at this) (fun i u hu=>by
  rw [List.getElem?_take] at hu
  split at hu
  ·exact g10 i u hu
  ·cases hu)
 refine ⟨Z,R,⟨hput.1,⟨?_,fun t x hx=>?_⟩,sr.mks.step hput.2,sr.gl.step sr.hh hput.2,sr.bs⟩,hput.2⟩
 ·have:=sr.fr.1; rw [Gk] at this ⊢; exact this
 ·have hold:∀ x,(Fr n ((d,.rf b 0 q m)::l))[t]? = some (some x)->VR w Z R x (a.tmps.getD t undef):=fun x h=>sr.fr.2 t x h
  rw [F0] at hx
  by_cases ht:t < n
  ·rw [if_pos ht] at hx
   injection hx with hx
   rw [H9] at hx
   by_cases hd:d=t
   ·subst hd
    rw [if_pos rfl] at hx
    injection hx with hx
    subst hx
    have h2:=hold (.rf b 0 q m) (by rw [F0,if_pos ht,H9,if_pos rfl])
    generalize a.tmps.getD d undef=u at h2
    cases h2 with
    | rf hr h0 h1 h2 hm=>exact .rf hr (Nat.le_refl _) (Nat.le_trans h0 h1) h2 hm
   ·rw [if_neg hd] at hx
    exact hold x (by rw [F0,if_pos ht,H9,if_neg hd,hx])
  ·rw [if_neg ht] at hx; cases hx
def Wz (i:Int) (m:Nat):Bool:=decide (0 < m)&&(decide (0<=i)&&decide (i<=(m:Int)))
section
variable {E:Env}{cx:Cx}{ops:Array Oper}{rest rest':List Oper}{K:St->Prop}{n k d:Nat}{l:List (Nat×AV)}{hp:Hp}{t ty:TypeId}{α:Type}{c:Cd α}{xs:List α}{e:AV}{L:List Asn}
theorem SS (hE:EnvOk E){x y:Operand}{i:Int}{ki:IntKind}{t':TypeId}{pos:String}{af:Array Edge}{g:Option (Nat×Bool)}(ht:T hp (own_ (ocL k t (ocV c)) e xs::L)) (hc:Wz i xs.length=true) (hr:rest=⟨some d,.slice ty x none (some y) none,t',pos,af,g⟩::rest') (hw:CC ops (Fr n l) ⟨some d,.slice ty x none (some y) none,t',pos,af,g⟩=some true)
  (hx:opA E (Fr n l) x=some e) (hy:opA E (Fr n l) y=some (.v (.int ki i))) (hu:E.P.underlying ty=some (.slice t)) (hs:CH E.P t=some k) (kk:∀ e' hp',T hp' (own_ (ocL k t (ocV c)) e' (xs.take i.toNat)::L)->RunL E cx ops rest' ⟨Fr n ((d,e')::l),hp'⟩ K):RunL E cx ops rest ⟨Fr n l,hp⟩ K:=by
 unfold Wz at hc
 simp only [Bool.and_eq_true,decide_eq_true_eq] at hc
 obtain ⟨h0,h1,h2⟩:=hc
 obtain ⟨F,p,hn',hk,_⟩:=ht.act
 rcases p with ⟨rfl,rfl,_⟩ | ⟨b,es,F',rfl,hb,rfl,h4⟩
 ·simp at h0
 ·obtain ⟨rfl,rfl⟩:=h4.leaf_inv
  have hi:i.toNat<=xs.length:=by omega
  have hsl:Gu E.P hp ty (.rf b 0 xs.length xs.length) none (some (.v (.int ki i))) none=some (.rf b 0 i.toNat xs.length):=by
   unfold Gu
   have hni:¬ i < 0:=by omega
   simp only [hu,hb,Mh,hni,if_false,hs]
   rw [if_pos ⟨Nat.zero_le _,hi,Nat.le_refl _,.inl rfl,trivial⟩,if_pos h0]
   simp
  refine BF hE 0 hr (EM hw rfl (En hx rfl (by show (opA E (Fr n l) y).map some=_; rw [hy]; rfl) rfl hsl)) ?_
  refine QO (SU (es:=(xs.take i.toNat).map c.enc) (zs:=(xs.drop i.toNat).map c.enc) (by rw [hb,<-List.map_append,List.take_append_drop]) hi) ?_
  have hlt:=IS hb
  have hl:(xs.take i.toNat).length=i.toNat:=by rw [List.length_take]; omega
  refine kk _ _ (hk _ _ [b] (.inr ⟨b,(xs.take i.toNat).map c.enc,[],by rw [hl],by simp [hlt],rfl,Jh⟩) (by simp) (fun b' hb' _=>?_) (fun b' hb'=> .inl hb'))
  rw [List.getElem?_set,if_neg (by intro e; subst e; simp at hb')]
end
def WV (i:Int) (m:Nat):Bool:=decide (0<=i)&&decide (i < (m:Int))
theorem Kc (z:Value):∀ n:Nat,(Builtin.zeroCells z.cells n).toList=Ba (List.replicate n z)
 | 0=>by simp [Builtin.zeroCells,Ba]
 | n + 1=>by
  have ih:=Kc z n
  have e:Ba (List.replicate (n + 1) z)=Ba (List.replicate n z)++z.cells.toList:=by
   unfold Ba
   rw [List.replicate_succ',List.map_append,List.flatten_append]
   simp
  rw [e,<-ih]
  apply List.ext_getElem?
  intro i
  simp only [Builtin.zeroCells,Array.toList_map,Array.toList_range,List.getElem?_map]
  rw [List.getElem?_append]
  simp only [List.length_map,List.length_range,List.getElem?_map]
  have hs:(n + 1) * z.cells.size=n * z.cells.size + z.cells.size:=Nat.succ_mul _ _
  by_cases h1:i < n * z.cells.size
  ·rw [if_pos h1,List.getElem?_range (by omega),List.getElem?_range h1]
  ·rw [if_neg h1]
   by_cases h2:i < (n + 1) * z.cells.size
   ·rw [List.getElem?_range h2]
    have h3:i - n * z.cells.size < z.cells.size:=by omega
    have h4:i % z.cells.size=i - n * z.cells.size:=by
     have:i=(i - n * z.cells.size) + z.cells.size * n:=by have:=Nat.mul_comm z.cells.size n; omega
     conv=>lhs; rw [this]
     rw [Nat.add_mul_mod_self_left,Nat.mod_eq_of_lt h3]
    simp only [Option.map_some,h4]
    simp [h3]
   ·rw [List.getElem?_eq_none (by rw [List.length_range]; omega),List.getElem?_eq_none (by rw [Array.length_toList]; omega)]; rfl
section
variable {E:Env}{cx:Cx}{ops:Array Oper}{rest rest':List Oper}{K:St->Prop}{n k d:Nat}{l:List (Nat×AV)}{hp:Hp}{t ty:TypeId}{α:Type}{c:Cd α}{xs:List α}{e:AV}{L:List Asn}
theorem RunL.clear {x:Operand}{t2:TypeId}{pos:String}{af:Array Edge}{g:Option (Nat×Bool)}{b lo q m:Nat}{B:Blk}{z0 z:AV}(hr:rest=⟨none,.call ⟨.builtin .clear,#[x],#[ty]⟩,t2,pos,af,g⟩::rest') (hw:CC ops (Fr n l) ⟨none,.call ⟨.builtin .clear,#[x],#[ty]⟩,t2,pos,af,g⟩=some true)
  (hx:opA E (Fr n l) x=some (.rf b lo (q + 1) m)) (hu:E.P.underlying ty=some (.slice t)) (hz:Fj E.P t=some z0) (hup:UpV z0 z) (hnt:z.notTp=true) (hk:z.nc=B.k) (hB:hp[b]? = some (some B)) (hf:B.fz=false) (hle:lo + (q + 1)<=B.es.length)
  (kk:RunL E cx ops rest' ⟨Fr n l,hp.set b (some { B with es:=B.es.take lo++List.replicate (q + 1) z++B.es.drop (lo + (q + 1)) })⟩ K):RunL E cx ops rest ⟨Fr n l,hp⟩ K:=by
 subst hr
 intro ro base Q a w Z R hro sr hy qq
 refine JD rfl (wantedA_eq sr hw) ?_
 have hv:=opA_vr sr x _ hx
 generalize hva:a.eval x=va at hv
 obtain ⟨u,hzu0,_,hzr,i,hi1,hi2⟩:=IB (w:=w) (Z:=Z) (R:=R) hz
 have hzu:=hup _ _ _ _ hzu0
 obtain ⟨r,arr,us,g1,g2,g3,g4,g5,g6,g7,g8,g9,g10⟩:=sr.hh.blk b B hB
 cases hv with
 | rf hr q0 q1 q2 q3 =>
  rename_i c' r'
  rw [g1] at hr
  injection hr with hr
  subst hr
  have hys:VRs w Z R (List.replicate (q + 1) z) (List.replicate (q + 1) u):=VRs.replicate _ hzu
  obtain ⟨k1,k2,k3,k4,k5⟩:=sr.hh.write (lo:=lo) (ys:=List.replicate (q + 1) z) (vs:=List.replicate (q + 1) u) hB hf g1 (by simp; omega) (by omega) hys (fun v hv=>by
   have:=List.eq_of_mem_replicate hv
   subst this
   exact ⟨hzu.cells.1.trans hk,hzu.cells_one hnt⟩)
  rw [List.length_replicate] at k1 k2
  have hst:=run_storeCells_cells (P:=E.P) r.c (lo * r.k) (Ba (List.replicate (q + 1) u)) 0 w (fun j hj=>by rw [g2]; simpa using k3 j hj) (fun j hj=>by rw [g2]; simpa using k4 j hj) k5
  simp only [Nat.add_zero] at hst
  have hst':(storeCells ⟨r.c,lo * r.k,none⟩ (Ba (List.replicate (q + 1) u))).run E.P w = .ok () (w.setCells r.c (lo * B.k) (Ba (List.replicate (q + 1) u))):=by rw [hst,g2]
  have hrun:=Ge (P:=E.P) (ve:=a.eval) (o:=⟨none,.call ⟨.builtin .clear,#[x],#[ty]⟩,t2,pos,af,g⟩) (us:=[.slice (some ⟨r.c,lo * r.k,none⟩) (q + 1) c']) rfl (by simp [hva]) w
  have hfin:(execOp a.eval ⟨none,.call ⟨.builtin .clear,#[x],#[ty]⟩,t2,pos,af,g⟩).run E.P w = .ok (.value (.tuple #[])) (w.setCells r.c (lo * B.k) (Ba (List.replicate (q + 1) u))):=by
   rw [hrun]
   simp [builtin,Builtin.clear_,run_underlying hu,hzr,Kc,hst']
  unfold Lw
  rw [hfin]
  exact kk ro base Q _ _ Z R hro ((sr.step k1 k2).put (d:=none) (x:= .tp []) (u:= .tuple #[]) (.tp (us:=[]) rfl fun i x u h=>by simp at h)) (hy.step sr.hh k2) fun s' a' w'' Z'' R'' hK sr'' st'=>qq s' a' w'' Z'' R'' hK sr'' (k2.trans st')
theorem SQ (hE:EnvOk E){x y:Operand}{i:Int}{ki:IntKind}{z:α}{t1 t2:TypeId}{p1 p2:String}{f1 f2:Array Edge}{g1 g2:Option (Nat×Bool)}(ht:T hp (own_ (ocL k t (ocV c)) e xs::L)) (hc:WV i xs.length=true)
  (hr:rest=⟨some d,.slice ty x (some y) none none,t1,p1,f1,g1⟩::⟨none,.call ⟨.builtin .clear,#[.tmp d],#[ty]⟩,t2,p2,f2,g2⟩::rest') (hw:CC ops (Fr n l) ⟨some d,.slice ty x (some y) none none,t1,p1,f1,g1⟩=some true)
  (hw2:∀ v,CC ops (Fr n ((d,v)::l)) ⟨none,.call ⟨.builtin .clear,#[.tmp d],#[ty]⟩,t2,p2,f2,g2⟩=some true) (hd:Nat.blt d n=true) (hx:opA E (Fr n l) x=some e) (hy:opA E (Fr n l) y=some (.v (.int ki i))) (hu:E.P.underlying ty=some (.slice t)) (hs:CH E.P t=some k) {z0:AV} (hz:Fj E.P t=some z0) (hup:UpV z0 (c.enc z)) (hnt:(c.enc z).notTp=true) (hk:(c.enc z).nc=k)
  (kk:∀ v hp',T hp' (own_ (ocL k t (ocV c)) e (xs.take i.toNat++List.replicate (xs.length - i.toNat) z)::L)->RunL E cx ops rest' ⟨Fr n ((d,v)::l),hp'⟩ K):RunL E cx ops rest ⟨Fr n l,hp⟩ K:=by
 unfold WV at hc
 simp only [Bool.and_eq_true,decide_eq_true_eq] at hc
 obtain ⟨h1,h2⟩:=hc
 obtain ⟨F,p,hn',hk',_⟩:=ht.act
 rcases p with ⟨rfl,rfl,_⟩ | ⟨b,es,F',rfl,hb,rfl,h4⟩
 ·simp at h2; omega
 ·obtain ⟨rfl,rfl⟩:=h4.leaf_inv
  obtain ⟨j,rfl⟩:∃ j:Nat,i=(j:Int):=⟨i.toNat,by omega⟩
  have hj:j < xs.length:=by omega
  obtain ⟨q,hq⟩:∃ q,xs.length=j + (q + 1):=⟨xs.length - j - 1,by omega⟩
  have hsl:Gu E.P hp ty (.rf b 0 xs.length xs.length) (some (.v (.int ki (j:Int)))) none none=some (.rf b j (q + 1) (q + 1)):=by
   unfold Gu
   have hni:¬ (j:Int) < 0:=by omega
   simp only [hu,hb,Mh,hni,if_false,hs,Int.toNat_natCast]
   rw [if_pos ⟨by omega,Nat.le_refl _,Nat.le_refl _,.inl rfl,trivial⟩,if_pos (by omega)]
   rw [hq]
   simp
  refine BF hE 0 hr (EM hw rfl (En hx (by show (opA E (Fr n l) y).map some=_; rw [hy]; rfl) rfl rfl hsl)) ?_
  refine RunL.clear (z:=c.enc z) (q:=q) (lo:=j) (m:=q + 1) (b:=b) (B:=⟨k,t,xs.map c.enc,false⟩) rfl (hw2 _) ?_ hu hz hup hnt hk hb rfl (by simp; omega) ?_
  ·show (match (Fr n ((d,AV.rf b j (q + 1) (q + 1))::l))[d]? with | some (some x)=>some x | _=>none)=_
   rw [F0,if_pos (show d < n from Nat.le_of_ble_eq_true hd)]
   simp [lk]
  ·have e1:(xs.map c.enc).take j++List.replicate (q + 1) (c.enc z)++(xs.map c.enc).drop (j + (q + 1))=(xs.take j++List.replicate (xs.length - j) z).map c.enc:=by
    rw [List.drop_eq_nil_of_le (by simp; omega),List.append_nil,List.map_append,List.map_take,List.map_replicate,show xs.length - j=q + 1 by omega]
   have hl:(xs.take j++List.replicate (xs.length - j) z).length=xs.length:=by simp; omega
   simp only [e1,Int.toNat_natCast] at kk ⊢
   have hlt:=IS hb
   refine kk _ _ (hk' _ _ [b] (.inr ⟨b,(xs.take j++List.replicate (xs.length - j) z).map c.enc,[],by rw [hl],by simp [hlt],rfl,Jh⟩) (by simp) (fun b' hb' _=>?_) (fun b' hb'=> .inl hb'))
   rw [List.getElem?_set,if_neg (by intro e; subst e; simp at hb')]
end
/- slices.DeleteFunc[[]trestle/api.Clause,trestle/api.Clause] -/
noncomputable def BV:Code:=Bo Tryz.f29
def Am (c3:Int) (c5:(List AE)) (v7:AE) (v15:Bool):Option ((Int×(List AE))) :=
 if (!v15)=true then
 (idx c5 c3).bind fun v17 =>
 some ((wr .i64 (c3 + 1)),(c5.set c3.toNat v7))
 else
 some (c3,c5)
def Aa  : Nat->Int->Int->(List AE)->Option ((Int×(List AE)))
 | 0,_,_,_=>none
 | f + 1,c3,c4,c5 =>
  if (decide (c4 < (c5.length:Int)))=true then
  (idx c5 c4).bind fun v7 =>
  (Ch v7).bind fun v15 =>
  (Am c3 c5 v7 v15).bind fun r26 =>
  Aa f r26.1 (wr .i64 (c4 + 1)) r26.2
  else
  some (c3,c5)
def BD (x0:(List AE)):Option ((List AE)) :=
 (AN x0).bind fun v1 =>
 if (v1==(-1))=true then
 some x0
 else
 (Aa  100000 v1 (wr .i64 (v1 + 1)) x0).bind fun r31 =>
 if (WV r31.1 r31.2.length)=true then
 if (Wz r31.1 (r31.2.take r31.1.toNat++List.replicate (r31.2.length - r31.1.toNat) ((0:Int),([]:List UInt8),false,([]:(List (List UInt8))),(0:Int))).length)=true then
 some ((r31.2.take r31.1.toNat++List.replicate (r31.2.length - r31.1.toNat) ((0:Int),([]:List UInt8),false,([]:(List (List UInt8))),(0:Int))).take r31.1.toNat)
 else none
 else none
theorem EC {L:List Asn}{hp:Hp}(c3:Int) (c5:(List AE)) (v7:AE) (v15:Bool) (u0:AV) (c4:Int) (e8:AV) (r:(Int×(List AE))) (h:Am c3 c5 v7 v15=some r) (hT:T hp ((cel e8 5 60 (AA.enc v7))::(own_ (ocL 5 60 (ocV AA)) u0 c5)::L)):SemY E0 ⟨none,false⟩ (pc BV [1,1,1,0,1,0,0,1,0,0,1,1]) ⟨Fr 42 [(0,u0),(1,.fn 30 [] []),(5,.v (.int .i64 c3)),(6,.v (.int .i64 c4)),(7,e8),(29,.v (.bool (!v15)))],hp⟩ (fun e s=>e = .normal/\∃ s2,(∃ (h':Hp),T h' ((own_ (ocL 5 60 (ocV AA)) u0 r.2)::L)/\s2=⟨Fr 42 [(0,u0),(1,.fn 30 [] []),(5,.v (.int .i64 r.1)),(6,.v (.int .i64 c4))],h'⟩)/\WkY E0 s s2):=by
 unfold Am at h;refine DL (b:=(!v15)) kr (fun hb16=>?_) (fun hb16=>?_)
 ·rw [if_pos hb16] at h
  refine An ?_;refine AS ?_;refine BI AC 2 ?_;refine BF AC 0 rfl (EM (AB rfl) rfl (Hl (p:=e8) kr (Qg (y:=(AA.enc v7)) (m:=5) (g:=true) hT kr kr kr))) ?_;obtain ⟨v17,hv17,h⟩:=OB h
  have hT18:=(hT.front 1 rfl)
  refine BF AC 0 rfl (EM (AB rfl) rfl (Ao (a:=u0) (b:= .v (.int .i64 c3)) kr kr (QM (bytes:=64) hT18 kr hv17))) ?_;obtain ⟨hp19,hs20,hT21⟩:=Lz (P:=Tryz.prog) (ty:=60) (y:=(AA.enc v7)) (v':=v7) hT18 (EV hv17).2 kr kr kr;refine RunL.store AC (y:=eAt u0 c3.toNat) (z:=(AA.enc v7)) rfl (AB rfl) kr kr hs20 ?_;refine Bj rfl (SemY.fr (l':=[(0,u0),(1,.fn 30 [] []),(5,.v (.int .i64 c3)),(6,.v (.int .i64 c4))]) kr ?_);refine AS ?_;refine BI AC 3 ?_;refine Bj rfl ?_;have hq:=OI h; subst hq
  have hT24:=(hT21.front 1 rfl).drop
  exact ⟨rfl,_,⟨hp19,hT24,rfl⟩,WkY.f1⟩
 ·rw [Cr hb16] at h
  refine SemY.skip ?_;have hq:=OI h; subst hq
  have hT25:=hT.drop
  exact ⟨rfl,_,⟨hp,hT25,rfl⟩,WkY.f1⟩
theorem ED {L:List Asn}(u0:AV):∀ (f:Nat) (c3:Int) (c4:Int) (c5:(List AE)) (r:(Int×(List AE))),Aa  f c3 c4 c5=some r->∀ (hp:Hp),T hp ((own_ (ocL 5 60 (ocV AA)) u0 c5)::L)->SemYN E0 ⟨none,false⟩ (pc BV [1,1,1,0,1,0,0]) f ⟨Fr 42 [(0,u0),(1,.fn 30 [] []),(5,.v (.int .i64 c3)),(6,.v (.int .i64 c4))],hp⟩ (fun e s=>e=(.exit 0)/\∃ s2,(∃ (h':Hp),T h' ((own_ (ocL 5 60 (ocV AA)) u0 r.2)::L)/\s2=⟨Fr 42 [(0,u0),(5,.v (.int .i64 r.1))],h'⟩)/\WkY E0 s s2):=by
 intro f;induction f with
 | zero=>intro c3 c4 c5 r h; cases h
 | succ f ih0 =>
  intro c3 c4 c5 r h  hp hT;unfold Aa at h;refine Es ?_;refine An ?_;refine An ?_;refine AS ?_;refine BI AC 2 ?_;refine BF AC 0 rfl (EM (AB rfl) rfl (FU (a:=u0) kr (S4 hT kr))) ?_
  let p1:Nat×AV:=(6,.v (.int .i64 c4))
  let p2:Nat×AV:=(5,.v (.int .i64 c3))
  refine C0 AC [(0,u0),(1,.fn 30 [] []),p2,p1,(19,.v (.bool (decide (c4 < (c5.length:Int)))))] ?_;refine DL (b:=(decide (c4 < (c5.length:Int)))) kr (fun hb6=>?_) (fun hb6=>?_)
  ·rw [if_pos hb6] at h
   refine SemY.skip ?_;refine An ?_;refine CK ?_;refine An ?_;refine AS ?_;refine BI AC 2 ?_;obtain ⟨v7,hv7,h⟩:=OB h;refine BF AC 0 rfl (EM (AB rfl) rfl (Ao (a:=u0) (b:= .v (.int .i64 c4)) kr kr (QM (bytes:=64) hT kr hv7))) ?_;refine BF AC 0 rfl (EM (AB rfl) rfl (Hl (p:=eAt u0 c4.toNat) kr (JC (y:=(AA.enc v7)) (m:=5) (g:=true) hT (EV hv7).2 kr kr kr))) ?_;obtain ⟨e8,hp9,hb10,hT11⟩:=Mq (t:=60) (a:= .ag [.v (.int .u8 0),.st [],.v (.bool false),.e0,.v (.int .i64 0)]) hT kr;refine BF AC 0 rfl (Vy (AB rfl) rfl kr (O0 (z:= .ag [.v (.int .u8 0),.st [],.v (.bool false),.e0,.v (.int .i64 0)]) kr hb10)) ?_;obtain ⟨hp12,hs13,hT14⟩:=PI (P:=Tryz.prog) (ty:=60) (y:=(AA.enc v7)) (a':=(AA.enc v7)) hT11 kr kr kr;refine RunL.store AC (y:=e8) (z:=(AA.enc v7)) rfl (AB rfl) kr kr hs13 ?_;refine Bj rfl (SemY.fr (l':=[(0,u0),(1,.fn 30 [] []),p2,p1,(7,e8)]) kr ?_);refine An ?_;refine AS ?_;refine BI AC 1 ?_;refine BF AC 0 rfl (EM (AB rfl) rfl (Hl (p:=e8) kr (Qg (y:=(AA.enc v7)) (m:=5) (g:=true) hT14 kr kr kr))) ?_;obtain ⟨v15,hv15,h⟩:=OB h;refine F3 (v:=v15) (caps:=[]) (xs:=[AA.enc v7]) (u:=(v7,())) rfl rfl Hm rfl (AB rfl) kr kr (CZ (Ee (c:=AA) (v:=v7)) SeesD.nil) (.inl kr) hv15 ?_;refine C0 AC [(0,u0),(1,.fn 30 [] []),p2,p1,(7,e8),(29,.v (.bool (!v15)))] ?_;obtain ⟨r26,hr26,h⟩:=OB h;refine Io (EC c3 c5 v7 v15 u0 c4 e8 _ hr26 hT14) ?_;rintro _ ⟨hp27,hT28,rfl⟩;refine AS ?_;refine BI AC 3 ?_;refine Bj rfl ?_;exact DS WkY.f1 (ih0 r26.1 (wr .i64 (c4 + 1)) r26.2 _ h  hp27 hT28)
  ·rw [Cr hb6] at h
   refine SemY.exit ?_;have hq:=OI h; subst hq;exact ⟨rfl,_,⟨hp,hT,rfl⟩,WkY.f1⟩
theorem Ea {L:List Asn}{hp:Hp}(u0:AV) (x0:(List AE)) (r:(List AE)) (h:BD x0=some r) (hT:T hp ((own_ (ocL 5 60 (ocV AA)) u0 x0)::L)):SemY E0 ⟨none,false⟩ BV ⟨Fr 42 (BS 0 [u0,.fn 30 [] []]),hp⟩ fun x s'=>(x = .normal\/x = .ret)/\∃ ys,Eo E0.P s'.fr s'.hp Tryz.f29.results.toList=some ys/\(fun v h'=>∃ (z0:AV),v=z0/\T h' ((own_ (ocL 5 60 (ocV AA)) z0 r)::L)) (Er ys) s'.hp:=by
 unfold BD at h
 let p1:Nat×AV:=(1,.fn 30 [] [])
 refine Iz (Jm (s1:=⟨Fr 42 [(0,u0),p1],hp⟩) WkY.f1 ?_);refine Cv AC [(0,u0),p1] ?_;refine An ?_;refine AS ?_;refine BI AC 2 ?_;obtain ⟨v1,hv1,h⟩:=OB h;refine F3 (v:=v1) (caps:=[]) (xs:=[u0,.fn 30 [] []]) (u:=(x0,(),())) rfl rfl C5 rfl (AB rfl) kr kr (CZ (SeeD.own hT (i:=0) rfl) (CZ (Ee (c:=(cdF 30 csN (fun _=>rfl))) (v:=())) SeesD.nil)) (.inl kr) hv1 ?_
 let p2:Nat×AV:=(5,.v (.int .i64 v1))
 refine C0 AC [(0,u0),p1,p2] ?_;refine An ?_;refine Cv AC [(0,u0),p1,p2,(12,.v (.bool (v1==(-1))))] ?_;refine DL (b:=(v1==(-1))) kr (fun hb2=>?_) (fun hb2=>?_)
 ·rw [if_pos hb2] at h
  refine Cv AC [(4,u0)] ?_;refine SemY.ret ?_;have hq:=OI h; subst hq;exact ⟨⟨Fr 42 [(4,u0)],hp⟩,WkY.f1,.inr rfl,[u0],kr,⟨u0,rfl,hT⟩⟩
 ·rw [Cr hb2] at h
  refine SemY.skip ?_;refine An ?_;refine Cv AC [(0,u0),p1,p2,(6,.v (.int .i64 (wr .i64 (v1 + 1))))] ?_;refine CK ?_;refine SemY.loop (n:=100000) ?_;obtain ⟨r31,hr31,h⟩:=OB h;refine EP (DS WkY.f1 (ED u0 _ v1 (wr .i64 (v1 + 1)) x0 _ hr31  hp hT)) ?_;rintro _ ⟨hp32,hT33,rfl⟩;refine An ?_;refine AS ?_;refine BI AC 2 ?_;by_cases hk34:(WV r31.1 r31.2.length)=true
  case neg=>rw [if_neg hk34] at h; cases h
  rw [if_pos hk34] at h;refine SQ (ki:= .i64) (i:=r31.1) (z:=((0:Int),([]:List UInt8),false,([]:(List (List UInt8))),(0:Int))) (z0:= .ag [.v (.int .u8 0),.st [],.v (.bool false),.e0,.v (.int .i64 0)]) AC hT33 hk34 rfl (AB rfl) (fun _=>AB rfl) kr kr kr kr kr kr (UpV.ag ⟨UpV.refl,UpV.refl,UpV.refl,UpV.nil,UpV.refl,trivial⟩) kr kr ?_;intro _ hp35 hT36;refine Bj rfl (SemY.fr (l':=[(0,u0),(5,.v (.int .i64 r31.1))]) kr ?_);refine An ?_;refine AS ?_;refine BI AC 2 ?_;by_cases hk37:(Wz r31.1 (r31.2.take r31.1.toNat++List.replicate (r31.2.length - r31.1.toNat) ((0:Int),([]:List UInt8),false,([]:(List (List UInt8))),(0:Int))).length)=true
  case neg=>rw [if_neg hk37] at h; cases h
  rw [if_pos hk37] at h;refine SS (ki:= .i64) (i:=r31.1) AC hT36 hk37 rfl (AB rfl) kr kr kr kr ?_;intro e38 hp39 hT40;refine C0 AC [(4,e38)] ?_;refine SemY.ret ?_;have hq:=OI h; subst hq;exact ⟨⟨Fr 42 [(4,e38)],hp39⟩,WkY.f1,.inr rfl,[e38],kr,⟨e38,rfl,hT40⟩⟩
/- trestle/trestlelaw03.CourtMoved -/
noncomputable def Dk:Code:=Bo Tryz.f6
def Dp (v9:(List Aw)) (c16:(List Aw)) (v18:(Int×Int)):Option (((List Aw))) :=
 if (decide ((v9.length:Int) > 0))=true then
 if (v9.length:Int)=(0:Int) then none else
 if (v9.length:Int)=(0:Int) then none else
 (idx c16 ((wr .i64 v18.2).tmod (v9.length:Int))).bind fun v29 =>
 (idx c16 ((wr .i64 v18.1).tmod (v9.length:Int))).bind fun v31 =>
 (idx c16 ((wr .i64 v18.1).tmod (v9.length:Int))).bind fun v32 =>
 (idx (c16.set (((wr .i64 v18.1).tmod (v9.length:Int)).toNat) v29) ((wr .i64 v18.2).tmod (v9.length:Int))).bind fun v36 =>
 some ((c16.set (((wr .i64 v18.1).tmod (v9.length:Int)).toNat) v29).set (((wr .i64 v18.2).tmod (v9.length:Int)).toNat) v31)
 else
 some c16
def CU (x2:(List (Int×Int))) (v9:(List Aw)):Nat->Int->(List Aw)->Option (((List Aw)))
 | 0,_,_=>none
 | f + 1,c15,c16 =>
  if (decide (c15 < (((x2.take (mnI (x2.length:Int) 30).toNat).drop (0:Int).toNat).length:Int)))=true then
  (idx ((x2.take (mnI (x2.length:Int) 30).toNat).drop (0:Int).toNat) c15).bind fun v18 =>
  (Dp v9 c16 v18).bind fun r43 =>
  CU x2 v9 f (wr .i64 (c15 + 1)) r43
  else
  some c16
def B3 (v9:(List Aw)) (r48:(List Aw)) (v54:(List Int)) (v58:(List Int)):Nat->Int->Option ((Unit) ⊕ (Unit))
 | 0,_=>none
 | f + 1,c64 =>
  if (decide (c64 < (v9.length:Int)))=true then
  (idx v9 c64).bind fun v66 =>
  (AR r48 v66).bind fun v74 =>
  (idx v54 c64).bind fun v75 =>
  (idx v58 v74).bind fun v76 =>
  if (v75 != v76)=true then
  some (.inr ())
  else
  B3 v9 r48 v54 v58 f (wr .i64 (c64 + 1))
  else
  some (.inl ())
def DY (x0:(List (Int×Int×Int×Bool×Bool))) (x1:(List (Int×Int))) (x2:(List (Int×Int))):Option (Bool) :=
 (Ht x0).bind fun v1 =>
 (BD v1).bind fun v5 =>
 (Ec x1 20).bind fun v9 =>
 if (Fe 112 v9.length)=true then
 if (Do 0 (mnI (x2.length:Int) 30) x2.length)=true then
 (CU x2 v9 100000 0 v9).bind fun r48 =>
 (FI v5 v9).bind fun v54 =>
 (FI v5 r48).bind fun v58 =>
 (if ((v54.length:Int)!=(v9.length:Int))=true then some true else some ((v58.length:Int)!=(v9.length:Int))).bind fun j59 =>
 if j59=true then
 some false
 else
 (B3 v9 r48 v54 v58 100000 0).bind fun r80 =>
 match r80 with
 | (.inl w81) =>
  NE.bind fun v84 =>
  some v84
 | (.inr w85) =>
  some false
 else none
 else none
theorem Je {L:List Asn}{hp:Hp}(v9:(List Aw)) (c16:(List Aw)) (v18:(Int×Int)) (x2:(List (Int×Int))) (v5:(List AE)) (e6:AV) (e11:AV) (c15:Int) (e19:AV) (r:((List Aw))) (h:Dp v9 c16 v18=some r) (hT:T hp ((cel e19 2 63 (.ag [.v (.int .u8 v18.1),.v (.int .u8 v18.2)]))::(own_ (ocL 5 60 (ocV AA)) e6 v5)::(own_ (ocL 9 42 (ocV AI)) e11 c16)::L)):SemY E0 ⟨none,false⟩ (pc Dk [1,1,1,1,0,1,0,0,1,1,0,0,1,1,1]) ⟨Fr 105 [(7,e6),(8,.sl 9 (v9.map AI.enc)),(9,e11),(11,e19),(12,.v (.int .i64 (v9.length:Int))),(31,.sl 2 (((x2.take (mnI (x2.length:Int) 30).toNat).drop (0:Int).toNat).map (IZ (cdK .u8) (cdK .u8) (fun _=>rfl) (fun _=>rfl)).enc)),(32,.v (.int .i64 (((x2.take (mnI (x2.length:Int) 30).toNat).drop (0:Int).toNat).length:Int))),(33,.v (.int .i64 c15)),(40,.v (.bool (decide ((v9.length:Int) > 0))))],hp⟩ (fun e s=>e = .normal/\∃ s2,(∃ (h':Hp),T h' ((own_ (ocL 5 60 (ocV AA)) e6 v5)::(own_ (ocL 9 42 (ocV AI)) e11 r)::L)/\s2=⟨Fr 105 [(7,e6),(8,.sl 9 (v9.map AI.enc)),(9,e11),(31,.sl 2 (((x2.take (mnI (x2.length:Int) 30).toNat).drop (0:Int).toNat).map (IZ (cdK .u8) (cdK .u8) (fun _=>rfl) (fun _=>rfl)).enc)),(32,.v (.int .i64 (((x2.take (mnI (x2.length:Int) 30).toNat).drop (0:Int).toNat).length:Int))),(33,.v (.int .i64 c15))],h'⟩)/\WkY E0 s s2):=by
 unfold Dp at h;refine DL (b:=(decide ((v9.length:Int) > 0))) kr (fun hb26=>?_) (fun hb26=>?_)
 ·rw [if_pos hb26] at h
  refine An ?_;refine Hs 12 AC.mixed kr kr ?_;refine RunDT.q (x:=MD e19 0) rfl kr rfl (AB rfl) rfl (Ao (a:=e19) (b:= .v (.int .i64 0)) kr kr (Uu (s:=1) hT kr)) kr ?_;refine RunDT.q (x:= .v (.int .u8 v18.1)) rfl kr rfl (AB rfl) rfl (Hl (p:=MD e19 0) kr (RY (off:=0) (y:= .v (.int .u8 v18.1)) (m:=1) (g:=false) hT kr kr kr)) (Oz (off:=0) hT kr) ?_;refine RunDT.q (x:= .v (.int .i64 (wr .i64 v18.1))) rfl kr rfl (AB rfl) rfl kr kr ?_;refine RunDT.q (x:= .v (.int .i64 (v9.length:Int))) rfl kr rfl (AB rfl) rfl kr kr ?_;by_cases hz27:(v9.length:Int)=(0:Int)
  ·rw [if_pos hz27] at h; cases h
  rw [if_neg hz27] at h;refine RunDT.q (x:= .v (.int .i64 ((wr .i64 v18.1).tmod (v9.length:Int)))) rfl kr rfl (AB rfl) rfl (WA (a:= .v (.int .i64 (wr .i64 v18.1))) (b:= .v (.int .i64 (v9.length:Int))) kr kr (Sa hz27)) kr ?_;refine RunDT.q (x:=MD e19 1) rfl kr rfl (AB rfl) rfl (Ao (a:=e19) (b:= .v (.int .i64 1)) kr kr (Uu (s:=1) hT kr)) kr ?_;refine RunDT.q (x:= .v (.int .u8 v18.2)) rfl kr rfl (AB rfl) rfl (Hl (p:=MD e19 1) kr (RY (off:=1) (y:= .v (.int .u8 v18.2)) (m:=1) (g:=false) hT kr kr kr)) (Oz (off:=1) hT kr) ?_;refine RunDT.q (x:= .v (.int .i64 (wr .i64 v18.2))) rfl kr rfl (AB rfl) rfl kr kr ?_;refine RunDT.q (x:= .v (.int .i64 (v9.length:Int))) rfl kr rfl (AB rfl) rfl kr kr ?_;by_cases hz28:(v9.length:Int)=(0:Int)
  ·rw [if_pos hz28] at h; cases h
  rw [if_neg hz28] at h;refine RunDT.q (x:= .v (.int .i64 ((wr .i64 v18.2).tmod (v9.length:Int)))) rfl kr rfl (AB rfl) rfl (WA (a:= .v (.int .i64 (wr .i64 v18.2))) (b:= .v (.int .i64 (v9.length:Int))) kr kr (Sa hz28)) kr ?_;refine RunDT.q (x:= .v (.int .i64 ((wr .i64 v18.1).tmod (v9.length:Int)))) rfl kr rfl (AB rfl) rfl kr kr ?_;refine RunDT.q (x:= .v (.int .i64 ((wr .i64 v18.2).tmod (v9.length:Int)))) rfl kr rfl (AB rfl) rfl kr kr ?_;refine RunDT.done rfl (SemY.fr (l':=[(7,e6),(8,.sl 9 (v9.map AI.enc)),(9,e11),(13,.v (.int .i64 ((wr .i64 v18.1).tmod (v9.length:Int)))),(14,.v (.int .i64 ((wr .i64 v18.2).tmod (v9.length:Int)))),(31,.sl 2 (((x2.take (mnI (x2.length:Int) 30).toNat).drop (0:Int).toNat).map (IZ (cdK .u8) (cdK .u8) (fun _=>rfl) (fun _=>rfl)).enc)),(32,.v (.int .i64 (((x2.take (mnI (x2.length:Int) 30).toNat).drop (0:Int).toNat).length:Int))),(33,.v (.int .i64 c15))]) kr ?_);refine Hs 13 AC.mixed kr kr ?_;refine RunDT.q (x:=e11) rfl kr rfl (AB rfl) rfl kr kr ?_;refine RunDT.q (x:= .v (.int .i64 ((wr .i64 v18.1).tmod (v9.length:Int)))) rfl kr rfl (AB rfl) rfl kr kr ?_;refine RunDT.q (x:=e11) rfl kr rfl (AB rfl) rfl kr kr ?_;refine RunDT.q (x:= .v (.int .i64 ((wr .i64 v18.2).tmod (v9.length:Int)))) rfl kr rfl (AB rfl) rfl kr kr ?_;refine RunDT.q (x:=e11) rfl kr rfl (AB rfl) rfl kr kr ?_;refine RunDT.q (x:= .v (.int .i64 ((wr .i64 v18.2).tmod (v9.length:Int)))) rfl kr rfl (AB rfl) rfl kr kr ?_;obtain ⟨v29,hv29,h⟩:=OB h
  have hT30:=(hT.front 2 rfl)
  refine RunDT.q (x:=eAt e11 (((wr .i64 v18.2).tmod (v9.length:Int)).toNat)) rfl kr rfl (AB rfl) rfl (Ao (a:=e11) (b:= .v (.int .i64 ((wr .i64 v18.2).tmod (v9.length:Int)))) kr kr (QM (bytes:=112) hT30 kr hv29)) kr ?_;refine RunDT.q (x:=(AI.enc v29)) rfl kr rfl (AB rfl) rfl (Hl (p:=eAt e11 (((wr .i64 v18.2).tmod (v9.length:Int)).toNat)) kr (JC (y:=(AI.enc v29)) (m:=9) (g:=true) hT30 (EV hv29).2 kr kr kr)) (G6 (hT.front 2 rfl) (EV hv29).2 kr) ?_;refine RunDT.q (x:=e11) rfl kr rfl (AB rfl) rfl kr kr ?_;refine RunDT.q (x:= .v (.int .i64 ((wr .i64 v18.1).tmod (v9.length:Int)))) rfl kr rfl (AB rfl) rfl kr kr ?_;obtain ⟨v31,hv31,h⟩:=OB h;refine RunDT.q (x:=eAt e11 (((wr .i64 v18.1).tmod (v9.length:Int)).toNat)) rfl kr rfl (AB rfl) rfl (Ao (a:=e11) (b:= .v (.int .i64 ((wr .i64 v18.1).tmod (v9.length:Int)))) kr kr (QM (bytes:=112) hT30 kr hv31)) kr ?_;refine RunDT.q (x:=(AI.enc v31)) rfl kr rfl (AB rfl) rfl (Hl (p:=eAt e11 (((wr .i64 v18.1).tmod (v9.length:Int)).toNat)) kr (JC (y:=(AI.enc v31)) (m:=9) (g:=true) hT30 (EV hv31).2 kr kr kr)) (G6 (hT.front 2 rfl) (EV hv31).2 kr) ?_;obtain ⟨v32,hv32,h⟩:=OB h;refine RunDT.q (x:=eAt e11 (((wr .i64 v18.1).tmod (v9.length:Int)).toNat)) rfl kr rfl (AB rfl) rfl (Ao (a:=e11) (b:= .v (.int .i64 ((wr .i64 v18.1).tmod (v9.length:Int)))) kr kr (QM (bytes:=112) hT30 kr hv32)) kr ?_;refine LO rfl ?_;obtain ⟨hp33,hs34,hT35⟩:=Lz (P:=Tryz.prog) (ty:=42) (y:=(AI.enc v29)) (v':=v29) hT30 (EV hv32).2 kr kr kr;refine RunL.store AC (y:=eAt e11 (((wr .i64 v18.1).tmod (v9.length:Int)).toNat)) (z:=(AI.enc v29)) rfl (AB rfl) kr kr hs34 ?_;obtain ⟨v36,hv36,h⟩:=OB h;refine BF AC 0 rfl (EM (AB rfl) rfl (Ao (a:=e11) (b:= .v (.int .i64 ((wr .i64 v18.2).tmod (v9.length:Int)))) kr kr (QM (bytes:=112) hT35 kr hv36))) ?_;obtain ⟨hp37,hs38,hT39⟩:=Lz (P:=Tryz.prog) (ty:=42) (y:=(AI.enc v31)) (v':=v31) hT35 (EV hv36).2 kr kr kr;refine RunL.store AC (y:=eAt e11 (((wr .i64 v18.2).tmod (v9.length:Int)).toNat)) (z:=(AI.enc v31)) rfl (AB rfl) kr kr hs38 ?_
  refine Bj rfl ?_;have hq:=OI h; subst hq
  have hT41:=((hT39.front 1 rfl).drop.front 1 rfl)
  exact ⟨rfl,_,⟨hp37,hT41,rfl⟩,WkY.f1⟩
 ·rw [Cr hb26] at h
  refine SemY.skip ?_;have hq:=OI h; subst hq
  have hT42:=hT.drop
  exact ⟨rfl,_,⟨hp,hT42,rfl⟩,WkY.f1⟩
theorem Jf {L:List Asn}(x2:(List (Int×Int))) (v9:(List Aw)) (v5:(List AE)) (e6:AV) (e11:AV):∀ (f:Nat) (c15:Int) (c16:(List Aw)) (r:((List Aw))),CU x2 v9 f c15 c16=some r->∀ (hp:Hp),T hp ((own_ (ocL 5 60 (ocV AA)) e6 v5)::(own_ (ocL 9 42 (ocV AI)) e11 c16)::L)->SemYN E0 ⟨none,false⟩ (pc Dk [1,1,1,1,0,1,0,0]) f ⟨Fr 105 [(7,e6),(8,.sl 9 (v9.map AI.enc)),(9,e11),(31,.sl 2 (((x2.take (mnI (x2.length:Int) 30).toNat).drop (0:Int).toNat).map (IZ (cdK .u8) (cdK .u8) (fun _=>rfl) (fun _=>rfl)).enc)),(32,.v (.int .i64 (((x2.take (mnI (x2.length:Int) 30).toNat).drop (0:Int).toNat).length:Int))),(33,.v (.int .i64 c15))],hp⟩ (fun e s=>e=(.exit 0)/\∃ s2,(∃ (h':Hp),T h' ((own_ (ocL 5 60 (ocV AA)) e6 v5)::(own_ (ocL 9 42 (ocV AI)) e11 r)::L)/\s2=⟨Fr 105 [(7,e6),(8,.sl 9 (v9.map AI.enc)),(9,e11)],h'⟩)/\WkY E0 s s2):=by
 intro f;induction f with
 | zero=>intro c15 c16 r h; cases h
 | succ f ih0 =>
  intro c15 c16 r h  hp hT;unfold CU at h;refine Es ?_
  let p1:Nat×AV:=(33,.v (.int .i64 c15))
  let p2:Nat×AV:=(32,.v (.int .i64 (((x2.take (mnI (x2.length:Int) 30).toNat).drop (0:Int).toNat).length:Int)))
  let p3:Nat×AV:=(31,.sl 2 (((x2.take (mnI (x2.length:Int) 30).toNat).drop (0:Int).toNat).map (IZ (cdK .u8) (cdK .u8) (fun _=>rfl) (fun _=>rfl)).enc))
  let p4:Nat×AV:=(8,.sl 9 (v9.map AI.enc))
  refine Cv AC [(7,e6),p4,(9,e11),p3,p2,p1,(34,.v (.bool (decide (c15 < (((x2.take (mnI (x2.length:Int) 30).toNat).drop (0:Int).toNat).length:Int)))))] ?_;refine An ?_;refine DL (b:=(decide (c15 < (((x2.take (mnI (x2.length:Int) 30).toNat).drop (0:Int).toNat).length:Int)))) kr (fun hb17=>?_) (fun hb17=>?_)
  ·rw [if_pos hb17] at h
   refine SemY.skip ?_;refine An ?_;refine CK ?_;refine An ?_;refine AS ?_;obtain ⟨v18,hv18,h⟩:=OB h;refine BF AC 0 rfl (EM (AB rfl) rfl (Ao (a:= .sl 2 (((x2.take (mnI (x2.length:Int) 30).toNat).drop (0:Int).toNat).map (IZ (cdK .u8) (cdK .u8) (fun _=>rfl) (fun _=>rfl)).enc)) (b:= .v (.int .i64 c15)) kr kr (Iw (e:=(IZ (cdK .u8) (cdK .u8) (fun _=>rfl) (fun _=>rfl)).enc) (el:=63) (k:=2) (ki:= .i64) kr kr hv18))) ?_;refine BI AC 1 ?_;obtain ⟨e19,hp20,hb21,hT22⟩:=Mq (t:=63) (a:= .ag [.v (.int .u8 0),.v (.int .u8 0)]) hT kr;refine BF AC 0 rfl (Vy (AB rfl) rfl kr (O0 (z:= .ag [.v (.int .u8 0),.v (.int .u8 0)]) kr hb21)) ?_;obtain ⟨hp23,hs24,hT25⟩:=PI (P:=Tryz.prog) (ty:=63) (y:= .ag [.v (.int .u8 v18.1),.v (.int .u8 v18.2)]) (a':= .ag [.v (.int .u8 v18.1),.v (.int .u8 v18.2)]) hT22 kr kr kr;refine RunL.store AC (y:=e19) (z:= .ag [.v (.int .u8 v18.1),.v (.int .u8 v18.2)]) rfl (AB rfl) kr kr hs24 ?_;refine Bj rfl (SemY.fr (l':=[(7,e6),p4,(9,e11),(11,e19),p3,p2,p1]) kr ?_);refine An ?_;refine AS ?_;refine BI AC 1 ?_;refine BF AC 0 rfl (EM (AB rfl) rfl (FU (a:= .sl 9 (v9.map AI.enc)) kr (Dq (el:=42) kr))) ?_
   let p5:Nat×AV:=(12,.v (.int .i64 (v9.length:Int)))
   refine C0 AC [(7,e6),p4,(9,e11),(11,e19),p5,p3,p2,p1] ?_;refine Cv AC [(7,e6),p4,(9,e11),(11,e19),p5,p3,p2,p1,(40,.v (.bool (decide ((v9.length:Int) > 0))))] ?_;obtain ⟨r43,hr43,h⟩:=OB h;refine Io (Je v9 c16 v18 x2 v5 e6 e11 c15 e19 _ hr43 hT25) ?_;rintro _ ⟨hp44,hT45,rfl⟩;refine AS ?_;refine BI AC 2 ?_;refine Bj rfl ?_;exact DS WkY.f1 (ih0 (wr .i64 (c15 + 1)) r43 _ h  hp44 hT45)
  ·rw [Cr hb17] at h
   refine SemY.exit ?_;have hq:=OI h; subst hq;exact ⟨rfl,_,⟨hp,hT,rfl⟩,WkY.f1⟩
theorem Gm {L:List Asn}(v9:(List Aw)) (r48:(List Aw)) (v54:(List Int)) (v58:(List Int)):∀ (f:Nat) (c64:Int) (r:(Unit) ⊕ (Unit)),B3 v9 r48 v54 v58 f c64=some r->∀ (hp:Hp),T hp (L)->SemYN E0 ⟨none,false⟩ (pc Dk [1,1,1,1,1,1,1,0,1,0,0]) f ⟨Fr 105 [(9,.sl 9 (r48.map AI.enc)),(15,.sl 1 (v54.map cdI.enc)),(16,.sl 1 (v58.map cdI.enc)),(84,.sl 9 (v9.map AI.enc)),(85,.v (.int .i64 (v9.length:Int))),(86,.v (.int .i64 c64))],hp⟩ (fun e s=>match r with
 | (.inl w)=>e=(.exit 2)/\∃ s2,(∃ (h':Hp),T h' (L)/\s2=⟨Fr 105 [],h'⟩)/\WkY E0 s s2
 | (.inr w)=>e = .ret/\∃ s2,(∃ (h':Hp),T h' (L)/\s2=⟨Fr 105 [(6,.v (.bool false))],h'⟩)/\WkY E0 s s2):=by
 intro f;induction f with
 | zero=>intro c64 r h; cases h
 | succ f ih0 =>
  intro c64 r h  hp hT;unfold B3 at h;refine Es ?_
  let p1:Nat×AV:=(86,.v (.int .i64 c64))
  let p2:Nat×AV:=(85,.v (.int .i64 (v9.length:Int)))
  let p3:Nat×AV:=(84,.sl 9 (v9.map AI.enc))
  let p4:Nat×AV:=(16,.sl 1 (v58.map cdI.enc))
  let p5:Nat×AV:=(15,.sl 1 (v54.map cdI.enc))
  let p6:Nat×AV:=(9,.sl 9 (r48.map AI.enc))
  refine Cv AC [p6,p5,p4,p3,p2,p1,(87,.v (.bool (decide (c64 < (v9.length:Int)))))] ?_;refine An ?_;refine DL (b:=(decide (c64 < (v9.length:Int)))) kr (fun hb65=>?_) (fun hb65=>?_)
  ·rw [if_pos hb65] at h
   refine SemY.skip ?_;refine An ?_;refine CK ?_;refine An ?_;refine AS ?_;refine BI AC 1 ?_;obtain ⟨v66,hv66,h⟩:=OB h;refine BF AC 0 rfl (EM (AB rfl) rfl (Ao (a:= .sl 9 (v9.map AI.enc)) (b:= .v (.int .i64 c64)) kr kr (Iw (e:=AI.enc) (el:=42) (k:=9) (ki:= .i64) kr kr hv66))) ?_;refine BI AC 1 ?_;obtain ⟨e67,hp68,hb69,hT70⟩:=Mq (t:=42) (a:= .ag [.st [],.st [],.st [],.v (.int .i64 0),.v (.int .i64 0),.st [],.v (.bool false),.v (.bool false),.e0]) hT kr;refine BF AC 0 rfl (Vy (AB rfl) rfl kr (O0 (z:= .ag [.st [],.st [],.st [],.v (.int .i64 0),.v (.int .i64 0),.st [],.v (.bool false),.v (.bool false),.e0]) kr hb69)) ?_;refine BI AC 1 ?_;obtain ⟨hp71,hs72,hT73⟩:=PI (P:=Tryz.prog) (ty:=42) (y:=(AI.enc v66)) (a':=(AI.enc v66)) hT70 kr kr kr;refine RunL.store AC (y:=e67) (z:=(AI.enc v66)) rfl (AB rfl) kr kr hs72 ?_;refine Bj rfl (SemY.fr (l':=[p6,p5,p4,(17,.v (.int .i64 c64)),(18,e67),p3,p2,p1]) kr ?_);refine An ?_;refine AS ?_;refine BI AC 2 ?_;obtain ⟨v74,hv74,h⟩:=OB h;refine F3 (v:=v74) (caps:=[]) (xs:=[.sl 9 (r48.map AI.enc),.fn 33 [] [e67]]) (u:=(r48,v66,())) rfl rfl DK rfl (AB rfl) kr kr (CZ (Ee (c:=(cdL 9 AI)) (v:=r48)) (CZ (SeeD.fn (Rr (SeeD.cel (c:=AI) (v:=v66) hT73 (i:=0) rfl))) SeesD.nil)) (.inl kr) hv74 ?_;refine C0 AC [p6,p5,p4,(17,.v (.int .i64 c64)),(19,.v (.int .i64 v74)),p3,p2,p1] ?_;refine An ?_;refine Hs 9 AC.mixed kr kr ?_;refine RunDT.q (x:= .sl 1 (v54.map cdI.enc)) rfl kr rfl (AB rfl) rfl kr kr ?_;refine RunDT.q (x:= .v (.int .i64 c64)) rfl kr rfl (AB rfl) rfl kr kr ?_;obtain ⟨v75,hv75,h⟩:=OB h;refine RunDT.q (x:= .pe (.v (.int .i64 v75)) 0) rfl kr rfl (AB rfl) rfl (Ao (a:= .sl 1 (v54.map cdI.enc)) (b:= .v (.int .i64 c64)) kr kr (Iw (e:=cdI.enc) (el:=3) (k:=1) (ki:= .i64) kr kr hv75)) kr ?_;refine RunDT.q (x:= .v (.int .i64 v75)) rfl kr rfl (AB rfl) rfl kr kr ?_;refine RunDT.q (x:= .sl 1 (v58.map cdI.enc)) rfl kr rfl (AB rfl) rfl kr kr ?_;refine RunDT.q (x:= .v (.int .i64 v74)) rfl kr rfl (AB rfl) rfl kr kr ?_
   obtain ⟨v76,hv76,h⟩:=OB h;refine RunDT.q (x:= .pe (.v (.int .i64 v76)) 0) rfl kr rfl (AB rfl) rfl (Ao (a:= .sl 1 (v58.map cdI.enc)) (b:= .v (.int .i64 v74)) kr kr (Iw (e:=cdI.enc) (el:=3) (k:=1) (ki:= .i64) kr kr hv76)) kr ?_;refine RunDT.q (x:= .v (.int .i64 v76)) rfl kr rfl (AB rfl) rfl kr kr ?_;refine RunDT.q (x:= .v (.bool (v75 != v76))) rfl kr rfl (AB rfl) rfl kr kr ?_;refine RunDT.done rfl (SemY.fr (l':=[p6,p5,p4,p3,p2,p1,(102,.v (.bool (v75 != v76)))]) kr ?_);refine DL (b:=(v75 != v76)) kr (fun hb77=>?_) (fun hb77=>?_)
   ·rw [if_pos hb77] at h
    refine Cv AC [(6,.v (.bool false))] ?_;refine SemY.ret ?_;have hq:=OI h; subst hq
    have hT78:=hT73.drop
    exact ⟨rfl,_,⟨hp71,hT78,rfl⟩,WkY.f1⟩
   ·rw [Cr hb77] at h
    refine SemY.skip ?_;refine AS ?_;refine BI AC 2 ?_;refine Bj rfl ?_
    have hT79:=hT73.drop
    exact DS WkY.f1 (ih0 (wr .i64 (c64 + 1)) _ h  hp71 hT79)
  ·rw [Cr hb65] at h
   refine SemY.exit ?_;have hq:=OI h; subst hq;exact ⟨rfl,_,⟨hp,hT,rfl⟩,WkY.f1⟩
theorem KL {L:List Asn}{hp:Hp}(x0:(List (Int×Int×Int×Bool×Bool))) (x1:(List (Int×Int))) (x2:(List (Int×Int))) (r:Bool) (h:DY x0 x1 x2=some r) (hT:T hp (L)):SemY E0 ⟨none,false⟩ Dk ⟨Fr 105 (BS 0 [.sl 5 (x0.map (cdA (csC (cdK .u8) (csC (cdK .u8) (csC (cdK .u8) (csC cdB (csE cdB))))) (fun _=>rfl)).enc),.sl 2 (x1.map (IZ (cdK .u8) (cdK .u8) (fun _=>rfl) (fun _=>rfl)).enc),.sl 2 (x2.map (IZ (cdK .u8) (cdK .u8) (fun _=>rfl) (fun _=>rfl)).enc)]),hp⟩ fun x s'=>(x = .normal\/x = .ret)/\∃ ys,Eo E0.P s'.fr s'.hp Tryz.f6.results.toList=some ys/\(fun v h'=>v = .v (.bool r)/\T h' (L)) (Er ys) s'.hp:=by
 unfold DY at h;refine Iz (Jm (s1:=⟨Fr 105 [(0,.sl 5 (x0.map (cdA (csC (cdK .u8) (csC (cdK .u8) (csC (cdK .u8) (csC cdB (csE cdB))))) (fun _=>rfl)).enc)),(1,.sl 2 (x1.map (IZ (cdK .u8) (cdK .u8) (fun _=>rfl) (fun _=>rfl)).enc)),(2,.sl 2 (x2.map (IZ (cdK .u8) (cdK .u8) (fun _=>rfl) (fun _=>rfl)).enc))],hp⟩) WkY.f1 ?_);refine Cv AC [(0,.sl 5 (x0.map (cdA (csC (cdK .u8) (csC (cdK .u8) (csC (cdK .u8) (csC cdB (csE cdB))))) (fun _=>rfl)).enc)),(1,.sl 2 (x1.map (IZ (cdK .u8) (cdK .u8) (fun _=>rfl) (fun _=>rfl)).enc)),(2,.sl 2 (x2.map (IZ (cdK .u8) (cdK .u8) (fun _=>rfl) (fun _=>rfl)).enc))] ?_;refine An ?_;refine AS ?_;refine BI AC 1 ?_;obtain ⟨v1,hv1,h⟩:=OB h;refine LP rfl rfl (P7 x0 _ hv1) rfl (AB rfl) kr kr kr (TA (c:=AA) (xs:=v1)) ?_;intro x h' hO; obtain ⟨e2,hp3,e2q,hp3q,hT4⟩:=TB (c:=AA) (k:=5) (t:=60) hT hO; rw [<-e2q,<-hp3q];obtain ⟨v5,hv5,h⟩:=OB h;refine Jl (E:=E0) (e:=E0) rfl rfl AC rfl rfl (fid:=29) (caps:=[]) (xs:=[e2,.fn 30 [] []]) (fn:=Tryz.f29) (c:=BV) (Out:=fun v h'=>∃ (z0:AV),v=z0/\T h' ((own_ (ocL 5 60 (ocV AA)) z0 v5)::L)) rfl (AB rfl) kr kr kr kr (by show 2<=42; decide) (Ea e2 v1 _ hv5 hT4) ?_;rintro xx hp7 ⟨e6,hqhp7,hT8⟩; subst xx;refine C0 AC [(1,.sl 2 (x1.map (IZ (cdK .u8) (cdK .u8) (fun _=>rfl) (fun _=>rfl)).enc)),(2,.sl 2 (x2.map (IZ (cdK .u8) (cdK .u8) (fun _=>rfl) (fun _=>rfl)).enc)),(7,e6)] ?_;refine An ?_;refine AS ?_;refine BI AC 1 ?_;obtain ⟨v9,hv9,h⟩:=OB h;refine F3 (v:=v9) (caps:=[]) (xs:=[.sl 2 (x1.map (IZ (cdK .u8) (cdK .u8) (fun _=>rfl) (fun _=>rfl)).enc),.v (.int .i64 20)]) (u:=(x1,20,())) rfl rfl N8 rfl (AB rfl) kr kr (CZ (Ee (c:=(cdL 2 (IZ (cdK .u8) (cdK .u8) (fun _=>rfl) (fun _=>rfl)))) (v:=x1)) (CZ (Ee (c:=cdI) (v:=20)) SeesD.nil)) (.inr ⟨by kernel_rfl,GR.de (x1,20,())⟩) hv9 ?_;refine C0 AC [(2,.sl 2 (x2.map (IZ (cdK .u8) (cdK .u8) (fun _=>rfl) (fun _=>rfl)).enc)),(7,e6),(8,.sl 9 (v9.map AI.enc))] ?_
 refine An ?_;refine AS ?_;refine BI AC 1 ?_;by_cases hk10:(Fe 112 v9.length)=true
 case neg=>rw [if_neg hk10] at h; cases h
 rw [if_pos hk10] at h;refine LP rfl rfl (F7 v9 hk10) rfl (AB rfl) kr kr kr OF ?_;intro x h' hO; obtain ⟨e11,hp12,e11q,hp12q,hT13⟩:=OG (c:=AI) (k:=9) (t:=42) hT8 hO; rw [<-e11q,<-hp12q];refine C0 AC [(2,.sl 2 (x2.map (IZ (cdK .u8) (cdK .u8) (fun _=>rfl) (fun _=>rfl)).enc)),(7,e6),(8,.sl 9 (v9.map AI.enc)),(9,e11)] ?_;refine An ?_;refine An ?_;refine AS ?_;refine BI AC 2 ?_;refine BF AC 0 rfl (EM (AB rfl) rfl (FU (a:= .sl 2 (x2.map (IZ (cdK .u8) (cdK .u8) (fun _=>rfl) (fun _=>rfl)).enc)) kr (Dq (el:=63) kr))) ?_;refine BI AC 1 ?_;by_cases hk14:(Do 0 (mnI (x2.length:Int) 30) x2.length)=true
 case neg=>rw [if_neg hk14] at h; cases h
 rw [if_pos hk14] at h;refine BF AC 0 rfl (EM (AB rfl) rfl (En (a:= .sl 2 (x2.map (IZ (cdK .u8) (cdK .u8) (fun _=>rfl) (fun _=>rfl)).enc)) (l:=none) (u:=(some (.v (.int .i64 (mnI (x2.length:Int) 30))))) (m:=none) kr kr kr rfl (LH (xs:=x2) (e:=(IZ (cdK .u8) (cdK .u8) (fun _=>rfl) (fun _=>rfl)).enc) (k:=2) (el:=63) (lo:=0) (hi:=(mnI (x2.length:Int) 30)) kr kr rfl (G7 (Jt hk14)) hk14))) ?_;refine BF AC 0 rfl (EM (AB rfl) rfl (FU (a:= .sl 2 (((x2.take (mnI (x2.length:Int) 30).toNat).drop (0:Int).toNat).map (IZ (cdK .u8) (cdK .u8) (fun _=>rfl) (fun _=>rfl)).enc)) kr (Dq (el:=63) kr))) ?_;refine C0 AC [(7,e6),(8,.sl 9 (v9.map AI.enc)),(9,e11),(31,.sl 2 (((x2.take (mnI (x2.length:Int) 30).toNat).drop (0:Int).toNat).map (IZ (cdK .u8) (cdK .u8) (fun _=>rfl) (fun _=>rfl)).enc)),(32,.v (.int .i64 (((x2.take (mnI (x2.length:Int) 30).toNat).drop (0:Int).toNat).length:Int))),(33,.v (.int .i64 0))] ?_;refine CK ?_
 have hT47:=(hT13.front 1 rfl)
 refine SemY.loop (n:=100000) ?_;obtain ⟨r48,hr48,h⟩:=OB h;refine EP (DS WkY.f1 (Jf x2 v9 v5 e6 e11 _ 0 v9 _ hr48  hp12 hT47)) ?_;rintro _ ⟨hp49,hT50,rfl⟩;refine An ?_;refine AS ?_;refine BI AC 2 ?_;obtain ⟨hp51,hw52,hT53⟩:=Mc (E:=E0) (n:=105) (l:=[(7,e6),(8,.sl 9 (v9.map AI.enc)),(9,e11),(66,e6),(67,.sl 9 (v9.map AI.enc))]) (l':=[(7,.sl 5 (v5.map AA.enc)),(8,.sl 9 (v9.map AI.enc)),(9,e11),(66,.sl 5 (v5.map AA.enc)),(67,.sl 9 (v9.map AI.enc))]) hT50 ⟨⟨e6,kr,KB⟩,⟨.sl 9 (v9.map AI.enc),kr,FzU.refl⟩,⟨e11,kr,FzU.refl⟩,⟨e6,kr,KB⟩,⟨.sl 9 (v9.map AI.enc),kr,FzU.refl⟩,trivial⟩;refine QO (WkY.trans WkY.f1 hw52) ?_;obtain ⟨v54,hv54,h⟩:=OB h;refine F3 (v:=v54) (caps:=[]) (xs:=[.sl 5 (v5.map AA.enc),.sl 9 (v9.map AI.enc)]) (u:=(v5,v9,())) rfl rfl LM rfl (AB rfl) kr kr (CZ (Ee (c:=(cdL 5 AA)) (v:=v5)) (CZ (Ee (c:=(cdL 9 AI)) (v:=v9)) SeesD.nil)) (.inr ⟨by kernel_rfl,Gz.de (v5,v9,())⟩) hv54 ?_;refine BI AC 2 ?_;obtain ⟨hp55,hw56,hT57⟩:=Mc (E:=E0) (n:=105) (l:=[(8,.sl 9 (v9.map AI.enc)),(9,e11),(68,.sl 1 (v54.map cdI.enc)),(69,.sl 5 (v5.map AA.enc)),(70,e11)]) (l':=[(8,.sl 9 (v9.map AI.enc)),(9,.sl 9 (r48.map AI.enc)),(68,.sl 1 (v54.map cdI.enc)),(69,.sl 5 (v5.map AA.enc)),(70,.sl 9 (r48.map AI.enc))]) hT53 ⟨⟨.sl 9 (v9.map AI.enc),kr,FzU.refl⟩,⟨e11,kr,KB⟩,⟨.sl 1 (v54.map cdI.enc),kr,FzU.refl⟩,⟨.sl 5 (v5.map AA.enc),kr,FzU.refl⟩,⟨e11,kr,KB⟩,trivial⟩;refine QO (WkY.trans WkY.f1 hw56) ?_;obtain ⟨v58,hv58,h⟩:=OB h;refine F3 (v:=v58) (caps:=[]) (xs:=[.sl 5 (v5.map AA.enc),.sl 9 (r48.map AI.enc)]) (u:=(v5,r48,())) rfl rfl LM rfl (AB rfl) kr kr (CZ (Ee (c:=(cdL 5 AA)) (v:=v5)) (CZ (Ee (c:=(cdL 9 AI)) (v:=r48)) SeesD.nil)) (.inr ⟨by kernel_rfl,Gz.de (v5,r48,())⟩) hv58 ?_;refine C0 AC [(8,.sl 9 (v9.map AI.enc)),(9,.sl 9 (r48.map AI.enc)),(15,.sl 1 (v54.map cdI.enc)),(16,.sl 1 (v58.map cdI.enc))] ?_;refine An ?_;refine An ?_;obtain ⟨j59,hj59,h⟩:=OB h
 refine ST (A:=fun s1=>∃ (h':Hp),T h' (L)/\s1=⟨Fr 105 [(8,.sl 9 (v9.map AI.enc)),(9,.sl 9 (r48.map AI.enc)),(15,.sl 1 (v54.map cdI.enc)),(16,.sl 1 (v58.map cdI.enc)),(83,.v (.bool j59))],h'⟩) ?_ ?_
 ·refine BI AC 1 ?_
  refine BF AC 0 rfl (EM (AB rfl) rfl (FU (a:= .sl 1 (v54.map cdI.enc)) kr (Dq (el:=3) kr))) ?_;refine BI AC 1 ?_;refine BF AC 0 rfl (EM (AB rfl) rfl (FU (a:= .sl 9 (v9.map AI.enc)) kr (Dq (el:=42) kr))) ?_;refine Pd (n:=105) AC 2 [(8,.sl 9 (v9.map AI.enc)),(9,.sl 9 (r48.map AI.enc)),(15,.sl 1 (v54.map cdI.enc)),(16,.sl 1 (v58.map cdI.enc)),(77,.v (.bool ((v54.length:Int)!=(v9.length:Int))))] hp55 kr ?_;rcases BE ((v54.length:Int)!=(v9.length:Int)) with hc88 | hc88
  ·rw [if_pos hc88] at hj59
   rw [hc88];refine BI AC 6 ?_;have hq:=OI hj59; subst hq;exact Bj rfl ⟨_,⟨hp55,hT57,rfl⟩,WkY.f1⟩
  ·rw [Cr hc88] at hj59
   rw [hc88];refine BI AC 1 ?_;refine BF AC 0 rfl (EM kr rfl (FU (a:= .sl 1 (v58.map cdI.enc)) kr (Dq (el:=3) kr))) ?_;refine BI AC 1 ?_;refine BF AC 0 rfl (EM kr rfl (FU (a:= .sl 9 (v9.map AI.enc)) kr (Dq (el:=42) kr))) ?_;refine BI AC 2 ?_;have hq:=OI hj59; subst hq;exact Bj rfl ⟨_,⟨hp55,hT57,rfl⟩,WkY.f1⟩
 rintro _ ⟨hp61,hT62,rfl⟩;refine DL (b:=j59) kr (fun hb63=>?_) (fun hb63=>?_)
 ·rw [if_pos hb63] at h
  refine Cv AC [(6,.v (.bool false))] ?_;refine SemY.ret ?_;have hq:=OI h; subst hq;exact ⟨⟨Fr 105 [(6,.v (.bool false))],hp61⟩,WkY.f1,.inr rfl,[.v (.bool false)],kr,⟨rfl,hT62⟩⟩
 ·rw [Cr hb63] at h
  refine SemY.skip ?_;refine An ?_;refine An ?_;refine AS ?_;refine BI AC 1 ?_;refine BF AC 0 rfl (EM (AB rfl) rfl (FU (a:= .sl 9 (v9.map AI.enc)) kr (Dq (el:=42) kr))) ?_;refine C0 AC [(9,.sl 9 (r48.map AI.enc)),(15,.sl 1 (v54.map cdI.enc)),(16,.sl 1 (v58.map cdI.enc)),(84,.sl 9 (v9.map AI.enc)),(85,.v (.int .i64 (v9.length:Int))),(86,.v (.int .i64 0))] ?_;refine CK ?_;refine SemY.loop (n:=100000) ?_;obtain ⟨r80,hr80,h⟩:=OB h;rcases r80 with w81 | w85
  ·try dsimp only at h
   refine EP (DS WkY.f1 (Gm v9 r48 v54 v58 _ 0 _ hr80  hp61 hT62)) ?_;rintro _ ⟨hp82,hT83,rfl⟩;refine An ?_;refine AS ?_;obtain ⟨v84,hv84,h⟩:=OB h;refine F3 (v:=v84) (caps:=[]) (xs:=[]) (u:=(())) rfl rfl PX rfl (AB rfl) kr kr SeesD.nil (.inl kr) hv84 ?_;refine C0 AC [(6,.v (.bool v84))] ?_;refine SemY.ret ?_;have hq:=OI h; subst hq;exact ⟨⟨Fr 105 [(6,.v (.bool v84))],hp82⟩,WkY.f1,.inr rfl,[.v (.bool v84)],kr,⟨rfl,hT83⟩⟩
  ·try dsimp only at h
   refine EP (DS WkY.f1 (Gm v9 r48 v54 v58 _ 0 _ hr80  hp61 hT62)) ?_;rintro _ ⟨hp86,hT87,rfl⟩;have hq:=OI h; subst hq;exact ⟨⟨Fr 105 [(6,.v (.bool false))],hp86⟩,WkY.f1,.inr rfl,[.v (.bool false)],kr,⟨rfl,hT87⟩⟩
def El:Cs (((List (Int×Int×Int×Bool×Bool)))×((List (Int×Int)))×((List (Int×Int)))×Unit):=(csC (cdL 5 (cdA (csC (cdK .u8) (csC (cdK .u8) (csC (cdK .u8) (csC cdB (csE cdB))))) (fun _=>rfl))) (csC (cdL 2 (IZ (cdK .u8) (cdK .u8) (fun _=>rfl) (fun _=>rfl))) (csC (cdL 2 (IZ (cdK .u8) (cdK .u8) (fun _=>rfl) (fun _=>rfl))) csN)))
def Fv (r:Bool):AV:=cdB.enc r
def LJ:List AV->Option AV:=EN El (fun a=>DY a.1 a.2.1 a.2.2.1) Fv
theorem LN:XOk 6 LJ:=by
 refine AZ Tryz.func6 (c:=Dk) ?h2 ⟨Tryz.call6⟩ El (fun a=>DY a.1 a.2.1 a.2.2.1) Fv (fun a=>(by show 3<=105; decide)) ?h3 ?h4
 case h2=>kernel_rfl
 case h3=>intro b; kernel_rfl
 case h4 =>
  intro a b h;refine Sem.mono (QP (KL (L:=[]) (hp:=[]) a.1 a.2.1 a.2.2.1 b h T.nil)) fun e s' hs=>?_
  obtain ⟨h1,ys,h2,h3,-⟩:=hs;exact ⟨h1,ys,h2,h3⟩
theorem QK {n:Int}(h1 : -9223372036854775808<=n) (h2:n<=9223372036854775807):wr .i64 n=n:=by
 show (if _ then n else _)=n
 rw [if_pos ⟨h1,h2⟩]
theorem Ez {α:Type}(pre:List α) (v:α) (r:List α):idx (pre++v::r) (pre.length:Int)=some v:=by
 unfold idx
 rw [if_pos (by omega)]
 simp
theorem Jw {α:Type}{xs:List α}{i:Nat}(h:i < xs.length):idx xs (i:Int)=some xs[i]:=by
 unfold idx
 rw [if_pos (by omega)]
 simp [h]
theorem Gy {α:Type}(pre:List α) (v:α) (r:List α) (h:(pre++v::r).length<=1000000000):wr .i64 ((pre.length:Int) + 1)=((pre++[v]).length:Int):=by
 simp at h
 rw [QK (by omega) (by omega)]; simp
theorem JW {α:Type}(pre:List α) (v:α) (r:List α):decide ((pre.length:Int) < ((pre++v::r).length:Int))=true:=by
 simp; omega
theorem Hn {b n:Nat}(hb:b<=1000) (h:n<=1000000000):Fe b n=true:=by
 have h1:n * b<=1000000000 * 1000:=Nat.mul_le_mul h hb
 unfold Fe
 rw [Bool.and_eq_true]
 exact ⟨Nat.ble_eq_true_of_le (by omega),Nat.ble_eq_true_of_le (by omega)⟩
/-- A loop over a list: v, its index, the rest. -/
def goU {α ρ:Type}(B:α->Nat->Option ρ->Option ρ) (D:Option ρ):List α->Nat->Option ρ
 | [],_=>D
 | v::r,i=>B v i (goU B D r (i + 1))
theorem XG {α ρ:Type}(xs:List α) (L:Nat->Int->Option ρ) (B:α->Nat->Option ρ->Option ρ) (D:Option ρ)
  (hs:∀ f (pre:List α) v r,xs=pre++v::r->L (f + 1) (pre.length:Int)=B v pre.length (L f (((pre++[v]).length:Nat):Int))) (hd:∀ f,L (f + 1) (xs.length:Int)=D) :
  ∀ (r pre:List α) (f:Nat),xs=pre++r->r.length < f->L f (pre.length:Int)=goU B D r pre.length
 | [],pre,f + 1,hx,_=>by
  rw [show pre.length=xs.length by rw [hx]; simp]
  exact hd f
 | v::r,pre,f + 1,hx,hf=>by
  rw [hs f pre v r hx]
  have:=XG xs L B D hs hd r (pre++[v]) f (by rw [hx]; simp) (by simp at hf; omega)
  rw [this]
  show B v pre.length _=B v pre.length _
  congr 1
  simp
theorem ON {α ρ:Type}(xs:List α) (L:Nat->Int->Option ρ) (B:α->Nat->Option ρ->Option ρ) (D:Option ρ) (f:Nat) (hf:xs.length < f)
  (hs:∀ f (pre:List α) v r,xs=pre++v::r->L (f + 1) (pre.length:Int)=B v pre.length (L f (((pre++[v]).length:Nat):Int))) (hd:∀ f,L (f + 1) (xs.length:Int)=D):L f 0=goU B D xs 0 :=
 XG xs L B D hs hd xs [] f rfl hf
/-- The first that meets a test. -/
theorem Sx {α:Type}(P:α->Option Bool) (p:α->Bool):∀ (xs:List α) (i:Nat),(∀ x ∈ xs,P x=some (p x))->∃ r:Unit ⊕ Int,goU (fun v i k=>(P v).bind fun b=>if b=true then some (.inr (i:Int)) else k) (some (.inl ())) xs i=some r/\(match r with | .inl _=>xs.any p=false | .inr n=>xs.any p=true/\0<=n)
 | [],i,_=>⟨.inl (),rfl,rfl⟩
 | x::xs,i,h=>by
  unfold goU
  rw [h x (by simp),OS]
  cases hp:p x with
  | true=>exact ⟨.inr i,by simp,by simp [hp]⟩
  | false =>
   obtain ⟨r,h1,h2⟩:=Sx P p xs (i + 1) fun y hy=>h y (List.mem_cons_of_mem _ hy)
   refine ⟨r,by simpa using h1,?_⟩
   cases r with
   | inl u=>simpa [hp] using h2
   | inr n=>simpa [hp] using h2
/-- slices.IndexFunc and slices.ContainsFunc. -/
theorem Q9 {α:Type}(xs:List α) (hx:xs.length<=99999) (P:α->Option Bool) (p:α->Bool) (hP:∀ x ∈ xs,P x=some (p x)) (L:Nat->Int->Option (Unit ⊕ Int))
  (h:∀ f c,L (f + 1) c=if decide (c < (xs.length:Int))=true then (idx xs c).bind fun v=>(P v).bind fun b=>if b=true then some (.inr c) else L f (wr .i64 (c + 1)) else some (.inl ())) :
  ∃ n,((L 100000 0).bind fun r=>match r with | .inl _=>some (-1) | .inr w=>some w)=some n/\decide (n≥0)=xs.any p:=by
 have e:=ON xs L (fun v i k=>(P v).bind fun b=>if b=true then some (.inr (i:Int)) else k) (some (.inl ())) 100000 (by omega) (fun f pre v r e=>by
  subst e
  rw [h,if_pos (JW pre v r),Ez,OS,Gy pre v r (by omega)]) (fun f=>by rw [h,if_neg (by simp)])
 obtain ⟨r,h1,h2⟩:=Sx P p xs 0 hP
 rw [e,h1]
 cases r with
 | inl u=>exact ⟨-1,rfl,by rw [h2]; rfl⟩
 | inr n=>exact ⟨n,rfl,by rw [h2.1]; simpa using h2.2⟩
/- slices.Equal[[]string,string] -/
/- trestle/trestlelaw03.SameClause -/
/- slices.EqualFunc[[]trestle/api.Clause,[]trestle/api.Clause,trestle/api.Clause,trestle/api.Clause] -/
/- trestle/trestlelaw03.Same -/
/- trestle/trestlelaw03.Copy -/
/- trestle/trestlelaw03.Few$1$1 -/
/- slices.IndexFunc[[]string,string] -/
/- slices.ContainsFunc[[]string,string] -/
/- trestle/trestlelaw03.Few$1 -/
/- slices.IndexFunc[[]trestle/api.Clause,trestle/api.Clause] -/
/- slices.ContainsFunc[[]trestle/api.Clause,trestle/api.Clause] -/
/- trestle/trestlelaw03.Few -/
/- trestle/trestleref03.between -/
def BZ (x0:Int) (x1:Int) (x2:Int):Option (Bool) :=
 (if (decide (x1<=x0))=true then some (decide (x0<=x2)) else some false).bind fun j2 =>
 some j2
/- trestle/trestleref03.formed -/
def EY (x0:AE):Option ((Bool)) :=
 if (x0.1==8)=true then
 some (x0.1==8)
 else
 some (x0.1==9)
def EX (x0:AE):Option ((Bool)) :=
 if (x0.1==3)=true then
 some (x0.1==3)
 else
 (EY x0).bind fun r14 =>
 some r14
def EW (x0:AE):Option ((Bool)) :=
 if (x0.1==2)=true then
 some (x0.1==2)
 else
 (EX x0).bind fun r15 =>
 some r15
def EZ (x0:AE):Option ((Bool)) :=
 if (x0.1==6)=true then
 some (x0.1==6)
 else
 some (x0.1==7)
def A1 (x0:AE):Option (Bool) :=
 if (x0.1==1)=true then
 (BZ (x0.2.2.2.1.length:Int) 1 16).bind fun v2 =>
 (if v2=true then if (x0.2.2.2.2==0)=true then if (!x0.2.2.1)=true then some (x0.2.1==[]) else some false else some false else some false).bind fun j4 =>
 some j4
 else
 (EW x0).bind fun r16 =>
 if r16=true then
 (if ((x0.2.2.2.1.length:Int)==0)=true then if (x0.2.2.2.2==0)=true then some (!x0.2.2.1) else some false else some false).bind fun j19 =>
 some j19
 else
 if (x0.1==4)=true then
 (if ((x0.2.2.2.1.length:Int)==0)=true then (BZ x0.2.2.2.2 1 2).bind fun v23 =>
 some v23 else some false).bind fun j25 =>
 some j25
 else
 if (x0.1==5)=true then
 (if ((x0.2.2.2.1.length:Int)==0)=true then some (x0.2.2.2.2==0) else some false).bind fun j29 =>
 some j29
 else
 (EZ x0).bind fun r33 =>
 if r33=true then
 (BZ (x0.2.2.2.1.length:Int) 1 16).bind fun v35 =>
 (if v35=true then some (x0.2.2.2.2==0) else some false).bind fun j37 =>
 some j37
 else
 if (x0.1==10)=true then
 (if ((x0.2.2.2.1.length:Int)==0)=true then (BZ x0.2.2.2.2 0 63).bind fun v40 =>
 if v40=true then some (!x0.2.2.1) else some false else some false).bind fun j42 =>
 some j42
 else
 some false
/- trestle/trestlekit.Name -/
/- trestle/trestleref03.has -/
/- trestle/trestleref03.CheckOne -/
/- trestle/trestleref03.Check -/
def W3 (x:AE):Prop:=x.2.1.length<=40/\x.2.2.2.1.length<=20/\∀ s ∈ x.2.2.2.1,s.length<=40
def few (c:List AE):Prop:=c.length<=40/\∀ x ∈ c,W3 x
/-- Names. -/
def Vr (c:UInt8):Bool:=decide ((c.toNat:Int) < 97)||decide ((c.toNat:Int) > 122)
def Fd (s:List UInt8):Bool:=decide (1<=s.length)&&decide (s.length<=12)&&!s.any Vr
theorem S0:∀ (s:List UInt8) (i:Nat),goU (fun v _ (k:Option (Unit ⊕ Bool))=>if Vr v=true then some (.inr false) else k) (some (.inl ())) s i=some (if s.any Vr=true then .inr false else .inl ())
 | [],_=>rfl
 | c::s,i=>by
  unfold goU
  rw [S0 s (i + 1),List.any_cons]
  cases Vr c <;> rfl
theorem XM (s:List UInt8) (h:s.length<=99999):D4 s 100000 0=some (if s.any Vr=true then .inr false else .inl ()):=by
 rw [<-S0 s 0]
 refine ON s (D4 s) _ _ 100000 (by omega) (fun f pre v r e=>?_) (fun f=>?_)
 ·conv=>lhs; unfold D4
  rw [e,if_pos (JW pre v r),Ez,OS,OS,Gy pre v r (by rw [<-e]; omega)]
  unfold Vr
  by_cases h:(v.toNat:Int) < 97 <;> simp [h]
 ·conv=>lhs; unfold D4
  rw [if_neg (by simp)]
theorem TE (s:List UInt8) (h:s.length<=99999):F4 s=some (Fd s):=by
 unfold F4 Fd
 rw [XM s h,OS]
 cases hb:s.any Vr
 ·by_cases h1:s.length < 1
  ·have:s.length=0:=by omega
   simp [this]
  ·simp [show (s.length:Int)≥1 by omega,show 1<=s.length by omega]; omega
 ·simp
theorem Vv (l:List (List UInt8)) (h:l.length<=99999) (hs:∀ s ∈ l,s.length<=99999):AU l=some (l.any fun s=>!Fd s):=by
 unfold AU Av
 obtain ⟨n,h1,h2⟩:=Q9 l h Eh (fun s=>!Fd s) (fun x hx=>by unfold Eh; rw [TE x (hs x hx)]; rfl) (A4 l) (fun f c=>rfl)
 rw [<-h2]
 exact (congrArg (fun o=>o.bind fun v1=>some (decide (v1≥0))) h1)
def Me (l:List (List UInt8)) (s:List UInt8):Bool:=l.any fun v=>s==v
theorem H1 (l:List (List UInt8)) (s:List UInt8) (h:l.length<=99999):Az l s=some (Me l s):=by
 unfold Az BU
 obtain ⟨n,h1,h2⟩:=Q9 l h (fun v=>some (s==v)) (fun v=>s==v) (fun _ _=>rfl) (A6 l s) (fun f c=>rfl)
 unfold Me
 rw [<-h2]
 exact (congrArg (fun o=>o.bind fun v1=>some (decide (v1≥0))) h1)
/-- What is asked of the fields, by a row: names, from, to, last. -/
def fin (L:Nat) (n:Int) (la:Bool) (w:Int×Int×Int×Bool):Option Bool :=
 (if (decide ((L:Int)<=w.1))=true then if (w.1==0)=true then if (decide (n≥w.2.1))=true then if (decide (n<=w.2.2.1))=true then if w.2.2.2=true then some true else some (!la) else some false else some false else if (decide ((L:Int) > 0))=true then if (decide (n≥w.2.1))=true then if (decide (n<=w.2.2.1))=true then if w.2.2.2=true then some true else some (!la) else some false else some false else some false else some false).bind fun j58=>some j58
theorem KX (L:Nat) (n:Int) (la:Bool) (a lo hi:Int) (last:Bool):fin L n la (a,lo,hi,last)=some ((decide ((L:Int)<=a)&&(a==0||decide ((L:Int) > 0)))&&(decide (n≥lo)&&(decide (n<=hi)&&(last||!la)))):=by
 unfold fin
 dsimp only
 generalize decide ((L:Int)<=a)=b1
 generalize (a==0)=b2
 generalize decide ((L:Int) > 0)=b3
 generalize decide (n≥lo)=b4
 generalize decide (n<=hi)=b5
 cases b1 <;> cases b2 <;> cases b3 <;> cases b4 <;> cases b5 <;> cases last <;> cases la <;> rfl
theorem Su (x:AE):∃ b,Bp x=some b/\A1 x=some b:=by
 obtain ⟨k,am,la,nm,n⟩:=x
 by_cases h1:k=1
 ·subst h1
  have hr:A1 (1,am,la,nm,n)=some ((decide (1<=(nm.length:Int))&&decide ((nm.length:Int)<=16))&&((n==0)&&(!la&&(am==[])))):=by
   unfold A1
   unfold BZ
   dsimp only
   generalize decide (1<=(nm.length:Int))=b0
   generalize decide ((nm.length:Int)<=16)=b1
   generalize (n==0)=b2
   generalize (am==[])=b3
   cases b0 <;> cases b1 <;> cases b2 <;> cases la <;> cases b3 <;> rfl
  refine ⟨_,?_,hr⟩
  cases am with
  | cons a am =>
   have hc:Bp (1,a::am,la,nm,n)=some false:=rfl
   rw [hc]
   simp
  | nil =>
   have hc:Bp (1,[],la,nm,n)=fin nm.length n la (16,0,0,false):=rfl
   rw [hc,KX]
   congr 1
   rw [Bool.eq_iff_iff]
   generalize nm.length=L
   cases la <;> simp <;> omega
 by_cases h2:k=2
 ·subst h2
  have hr:A1 (2,am,la,nm,n)=some (((nm.length:Int)==0)&&((n==0)&&!la)):=by
   unfold A1
   unfold BZ
   dsimp only
   generalize ((nm.length:Int)==0)=b0
   generalize (n==0)=b1
   cases b0 <;> cases b1 <;> cases la <;> rfl
  refine ⟨_,?_,hr⟩
  have hc:Bp (2,am,la,nm,n)=fin nm.length n la (0,0,0,false):=rfl
  rw [hc,KX]
  congr 1
  rw [Bool.eq_iff_iff]
  generalize nm.length=L
  cases la <;> simp <;> omega
 by_cases h3:k=3
 ·subst h3
  have hr:A1 (3,am,la,nm,n)=some (((nm.length:Int)==0)&&((n==0)&&!la)):=by
   unfold A1
   unfold BZ
   dsimp only
   generalize ((nm.length:Int)==0)=b0
   generalize (n==0)=b1
   cases b0 <;> cases b1 <;> cases la <;> rfl
  refine ⟨_,?_,hr⟩
  have hc:Bp (3,am,la,nm,n)=fin nm.length n la (0,0,0,false):=rfl
  rw [hc,KX]
  congr 1
  rw [Bool.eq_iff_iff]
  generalize nm.length=L
  cases la <;> simp <;> omega
 by_cases h8:k=8
 ·subst h8
  have hr:A1 (8,am,la,nm,n)=some (((nm.length:Int)==0)&&((n==0)&&!la)):=by
   unfold A1
   unfold BZ
   dsimp only
   generalize ((nm.length:Int)==0)=b0
   generalize (n==0)=b1
   cases b0 <;> cases b1 <;> cases la <;> rfl
  refine ⟨_,?_,hr⟩
  have hc:Bp (8,am,la,nm,n)=fin nm.length n la (0,0,0,false):=rfl
  rw [hc,KX]
  congr 1
  rw [Bool.eq_iff_iff]
  generalize nm.length=L
  cases la <;> simp <;> omega
 by_cases h9:k=9
 ·subst h9
  have hr:A1 (9,am,la,nm,n)=some (((nm.length:Int)==0)&&((n==0)&&!la)):=by
   unfold A1
   unfold BZ
   dsimp only
   generalize ((nm.length:Int)==0)=b0
   generalize (n==0)=b1
   cases b0 <;> cases b1 <;> cases la <;> rfl
  refine ⟨_,?_,hr⟩
  have hc:Bp (9,am,la,nm,n)=fin nm.length n la (0,0,0,false):=rfl
  rw [hc,KX]
  congr 1
  rw [Bool.eq_iff_iff]
  generalize nm.length=L
  cases la <;> simp <;> omega
 by_cases h4:k=4
 ·subst h4
  have hr:A1 (4,am,la,nm,n)=some (((nm.length:Int)==0)&&(decide (1<=n)&&decide (n<=2))):=by
   unfold A1
   unfold BZ
   dsimp only
   generalize ((nm.length:Int)==0)=b0
   generalize decide (1<=n)=b1
   generalize decide (n<=2)=b2
   cases b0 <;> cases b1 <;> cases b2 <;> cases la <;> rfl
  refine ⟨_,?_,hr⟩
  have hc:Bp (4,am,la,nm,n)=fin nm.length n la (0,1,2,true):=rfl
  rw [hc,KX]
  congr 1
  rw [Bool.eq_iff_iff]
  generalize nm.length=L
  cases la <;> simp <;> omega
 by_cases h5:k=5
 ·subst h5
  have hr:A1 (5,am,la,nm,n)=some (((nm.length:Int)==0)&&(n==0)):=by
   unfold A1
   unfold BZ
   dsimp only
   generalize ((nm.length:Int)==0)=b0
   generalize (n==0)=b1
   cases b0 <;> cases b1 <;> cases la <;> rfl
  refine ⟨_,?_,hr⟩
  have hc:Bp (5,am,la,nm,n)=fin nm.length n la (0,0,0,true):=rfl
  rw [hc,KX]
  congr 1
  rw [Bool.eq_iff_iff]
  generalize nm.length=L
  cases la <;> simp <;> omega
 by_cases h6:k=6
 ·subst h6
  have hr:A1 (6,am,la,nm,n)=some ((decide (1<=(nm.length:Int))&&decide ((nm.length:Int)<=16))&&(n==0)):=by
   unfold A1
   unfold BZ
   dsimp only
   generalize decide (1<=(nm.length:Int))=b0
   generalize decide ((nm.length:Int)<=16)=b1
   generalize (n==0)=b2
   cases b0 <;> cases b1 <;> cases b2 <;> cases la <;> rfl
  refine ⟨_,?_,hr⟩
  have hc:Bp (6,am,la,nm,n)=fin nm.length n la (16,0,0,true):=rfl
  rw [hc,KX]
  congr 1
  rw [Bool.eq_iff_iff]
  generalize nm.length=L
  cases la <;> simp <;> omega
 by_cases h7:k=7
 ·subst h7
  have hr:A1 (7,am,la,nm,n)=some ((decide (1<=(nm.length:Int))&&decide ((nm.length:Int)<=16))&&(n==0)):=by
   unfold A1
   unfold BZ
   dsimp only
   generalize decide (1<=(nm.length:Int))=b0
   generalize decide ((nm.length:Int)<=16)=b1
   generalize (n==0)=b2
   cases b0 <;> cases b1 <;> cases b2 <;> cases la <;> rfl
  refine ⟨_,?_,hr⟩
  have hc:Bp (7,am,la,nm,n)=fin nm.length n la (16,0,0,true):=rfl
  rw [hc,KX]
  congr 1
  rw [Bool.eq_iff_iff]
  generalize nm.length=L
  cases la <;> simp <;> omega
 by_cases h10:k=10
 ·subst h10
  have hr:A1 (10,am,la,nm,n)=some (((nm.length:Int)==0)&&((decide (0<=n)&&decide (n<=63))&&!la)):=by
   unfold A1
   unfold BZ
   dsimp only
   generalize ((nm.length:Int)==0)=b0
   generalize decide (0<=n)=b1
   generalize decide (n<=63)=b2
   cases b0 <;> cases b1 <;> cases b2 <;> cases la <;> rfl
  refine ⟨_,?_,hr⟩
  have hc:Bp (10,am,la,nm,n)=fin nm.length n la (0,0,63,false):=rfl
  rw [hc,KX]
  congr 1
  rw [Bool.eq_iff_iff]
  generalize nm.length=L
  cases la <;> simp <;> omega
 have e:∀ m:Int,(m=1\/m=2\/m=3\/m=4\/m=5\/m=6\/m=7\/m=8\/m=9\/m=10)->(k==m)=false:=fun m hm=>by
  rw [beq_eq_false_iff_ne]
  rintro rfl
  omega
 refine ⟨false,?_,?_⟩
 ·simp [Bp,GA,GB,GC,GD,GE,GF,GG,GH,GJ,e]
 ·simp [A1,EW,EX,EY,EZ,e]
def fm (x:AE):Bool:=(A1 x).getD false
theorem Y2 (x:AE):Bp x=some (fm x):=by
 obtain ⟨b,h1,h2⟩:=Su x
 rw [h1]; unfold fm; rw [h2]; rfl
/-- Is a name there twice? -/
def Tg (l:List (List UInt8)):List (List UInt8)->Nat->Bool
 | [],_=>false
 | v::r,i=>Me (l.take i) v||Tg l r (i + 1)
def Gd (before:List AE) (am:List UInt8):Bool:=before.any fun b=>(b.1==1)&&Me b.2.2.2.1 am
def chk (before:List AE) (x:AE):Int :=
 if fm x=false then 30 else
 if ((!(x.2.1==[]))&&!Fd x.2.1)=true\/(x.2.2.2.1.any fun s=>!Fd s)=true then 4 else
 if Tg x.2.2.2.1 x.2.2.2.1 0=true then 5 else
 if x.2.1=[]\/Gd before x.2.1=true then 0 else 31
theorem Sz (l:List (List UInt8)):∀ (r:List (List UInt8)) (i:Nat),goU (fun v i (k:Option (Unit ⊕ Int))=>if Me (l.take i) v=true then some (.inr 5) else k) (some (.inl ())) r i=some (if Tg l r i=true then .inr 5 else .inl ())
 | [],_=>rfl
 | v::r,i=>by
  unfold goU Tg
  rw [Sz l r (i + 1)]
  cases Me (l.take i) v <;> rfl
theorem YR (b:List AE) (j:AE) (h:j.2.2.2.1.length<=99999):Dg b j 100000 0=some (if Tg j.2.2.2.1 j.2.2.2.1 0=true then .inr 5 else .inl ()):=by
 rw [<-Sz]
 refine ON j.2.2.2.1 (Dg b j) _ _ 100000 (by omega) (fun f pre v r e=>?_) (fun f=>?_)
 ·conv=>lhs; unfold Dg
  have hl:j.2.2.2.1.length=pre.length + r.length + 1:=by rw [e]; simp; omega
  rw [if_pos (by rw [e]; exact JW pre v r),show idx j.2.2.2.1 (pre.length:Int)=some v by rw [e,Ez],OS,if_pos (by unfold Do; simp; omega),Int.toNat_natCast]
  rw [show ((j.2.2.2.1.take pre.length).drop (0:Int).toNat)=j.2.2.2.1.take pre.length from rfl,H1 _ _ (by simp; omega),OS,Gy pre v r (by rw [<-e]; omega)]
 ·conv=>lhs; unfold Dg
  rw [if_neg (by simp)]
theorem US (b:List AE) (x:AE) (h:b.length<=99999) (hb:∀ y ∈ b,y.2.2.2.1.length<=99999):AQ b x=some (Gd b x.2.1):=by
 unfold AQ Ae
 obtain ⟨n,h1,h2⟩:=Q9 b h (fun v=>Ei v x) (fun y=>(y.1==1)&&Me y.2.2.2.1 x.2.1) (fun y hy=>by
  unfold Ei
  rw [H1 _ _ (hb y hy)]
  cases (y.1==1) <;> rfl) (Ap b x) (fun f c=>rfl)
 unfold Gd
 rw [<-h2]
 exact (congrArg (fun o=>o.bind fun v1=>some (decide (v1≥0))) h1)
theorem YN (b:List AE) (x:AE) (hb:few b) (hx:W3 x):Fs b x=some (chk b x):=by
 have hn:∀ s ∈ x.2.2.2.1,s.length<=99999:=fun s hs=>by have:=hx.2.2 s hs; omega
 unfold Fs chk
 rw [Y2,OS]
 cases hf:fm x with
 | false=>simp
 | true =>
  rw [if_neg (show ¬ ((!true)=true) by simp),if_neg (show ¬ (true=false) by simp),Vv _ (by have:=hx.2.1; omega) hn,TE _ (by have:=hx.1; omega)]
  have e:((if (!(x.2.1==[]))=true then (some (Fd x.2.1)).bind fun v3=>if (!v3)=true then some true else (some (x.2.2.2.1.any fun s=>!Fd s)).bind fun v4=>some v4 else (some (x.2.2.2.1.any fun s=>!Fd s)).bind fun v5=>some v5):Option Bool)=some (((!(x.2.1==[]))&&!Fd x.2.1)||(x.2.2.2.1.any fun s=>!Fd s)):=by
   cases (x.2.1==[]) <;> cases Fd x.2.1 <;> rfl
  rw [e,OS]
  cases hq:(((!(x.2.1==[]))&&!Fd x.2.1)||(x.2.2.2.1.any fun s=>!Fd s)) with
  | true=>rw [if_pos rfl,if_pos (by simpa using hq)]
  | false =>
   rw [if_neg (show ¬ (false=true) by simp),if_neg (show ¬ (((!(x.2.1==[]))&&!Fd x.2.1)=true\/(x.2.2.2.1.any fun s=>!Fd s)=true) by simpa using hq),YR _ _ (by have:=hx.2.1; omega),OS]
   try dsimp only
   cases hd:Tg x.2.2.2.1 x.2.2.2.1 0 with
   | true=>rfl
   | false =>
    rw [if_neg (show ¬ (false=true) by simp)]
    dsimp only
    have hr:=US b x (by have:=hb.1; omega) (fun y hy=>by have:=(hb.2 y hy).2.1; omega)
    rw [hr]
    by_cases ha:x.2.1=[]
    ·simp [ha]
    ·simp only [ha,false_or]
     cases Gd b x.2.1 <;> simp [ha]
section
variable (c pre r:List AE) (x:AE) (e:c=pre++x::r) (h:few c)
include e h
end
/-- The first error of a text: its place, and which. -/
def RF (c:List AE):List AE->Nat->Unit ⊕ (Int×Int)
 | [],_=> .inl ()
 | x::r,i=>if chk (c.take i) x≠0 then .inr ((i:Int),chk (c.take i) x) else RF c r (i + 1)
def On (c:List AE):Int×Int:=if c.length > 32 then (0,7) else match RF c c 0 with
 | .inl _=>(0,0)
 | .inr w=>w
theorem Sy (c:List AE):∀ (r:List AE) (i:Nat),goU (fun x i (k:Option (Unit ⊕ (Int×Int)))=>if (chk (c.take i) x != 0)=true then some (.inr ((i:Int),chk (c.take i) x)) else k) (some (.inl ())) r i=some (RF c r i)
 | [],_=>rfl
 | x::r,i=>by
  unfold goU RF
  rw [Sy c r (i + 1)]
  by_cases h:chk (c.take i) x=0 <;> simp [h]
theorem T3 {c:List AE}(h:few c) (n:Nat):few (c.take n):=⟨by have:=h.1; simp; omega,fun x hx=>h.2 x (List.mem_of_mem_take hx)⟩
theorem VD (c:List AE) (h:few c):Fp c=some (On c):=by
 have hl:=h.1
 have e1:Df c 100000 0=some (RF c c 0):=by
  rw [<-Sy]
  refine ON c (Df c) _ _ 100000 (by omega) (fun f pre v r e=>?_) (fun f=>?_)
  ·conv=>lhs; unfold Df
   have hl2:c.length=pre.length + r.length + 1:=by rw [e]; simp; omega
   rw [if_pos (by rw [e]; exact JW pre v r),show idx c (pre.length:Int)=some v by rw [e,Ez],OS,if_pos (by unfold Do; simp; omega),Int.toNat_natCast,
    show ((c.take pre.length).drop (0:Int).toNat)=c.take pre.length from rfl,YN _ v (T3 h _) (h.2 v (by rw [e]; simp)),OS,Gy pre v r (by rw [<-e]; omega)]
  ·conv=>lhs; unfold Df
   rw [if_neg (by simp)]
 unfold Fp On
 by_cases h32:c.length > 32
 ·rw [if_pos (by simp; omega),if_pos h32]
 ·rw [if_neg (by simp; omega),if_neg h32,e1,OS]
  cases RF c c 0 <;> rfl
/- trestle/court.Reason -/
/- trestle/court.Compare -/
/- trestle/trestleref03.rank -/
/- trestle/trestleref03.key -/
/- trestle/trestleref03.named -/
/- trestle/trestleref03.before -/
/- trestle/trestleref03.Reason -/
/-- The first of a word in a list, from a number on. -/
def rkN (s:List UInt8):List (List UInt8)->Nat->Nat
 | [],i=>i
 | v::r,i=>if (s==v)=true then i else rkN s r (i + 1)
theorem Uw (s:List UInt8):∀ (l:List (List UInt8)) (i:Nat),Me l s=false->rkN s l i=i + l.length
 | [],i,_=>rfl
 | v::r,i,h=>by
  have h':((s==v)||Me r s)=false:=h
  simp only [Bool.or_eq_false_iff] at h'
  unfold rkN
  rw [if_neg (show ¬ (s==v)=true by rw [h'.1]; decide),Uw s r (i + 1) h'.2]
  simp; omega
theorem Uq (s:List UInt8):∀ (l:List (List UInt8)) (i:Nat),goU (fun v i (k:Option (Unit ⊕ Int))=>if (s==v)=true then some (.inr (i:Int)) else k) (some (.inl ())) l i=some (if Me l s=true then .inr (rkN s l i:Int) else .inl ())
 | [],_=>rfl
 | v::r,i=>by
  unfold goU rkN
  rw [Uq s r (i + 1)]
  have:Me (v::r) s=((s==v)||Me r s):=rfl
  rw [this]
  cases (s==v) <;> rfl
def rk (l:List (List UInt8)) (s:List UInt8):Int:=(rkN s l 0:Nat)
theorem Uv (x:AP) (c:AE) (h:c.2.2.2.1.length<=99999):DG x c=some (rk c.2.2.2.1 x.1.2.1):=by
 unfold DG BU
 have e:A6 c.2.2.2.1 x.1.2.1 100000 0=some (if Me c.2.2.2.1 x.1.2.1=true then .inr (rkN x.1.2.1 c.2.2.2.1 0:Int) else .inl ()):=by
  rw [<-Uq]
  refine ON c.2.2.2.1 (A6 c.2.2.2.1 x.1.2.1) _ _ 100000 (by omega) (fun f pre v r e=>?_) (fun f=>?_)
  ·conv=>lhs; unfold A6
   rw [if_pos (by rw [e]; exact JW pre v r),show idx c.2.2.2.1 (pre.length:Int)=some v by rw [e,Ez],OS,Gy pre v r (by rw [<-e]; omega)]
  ·conv=>lhs; unfold A6
   rw [if_neg (by simp)]
 rw [e]
 cases hh:Me c.2.2.2.1 x.1.2.1 with
 | true=>simp [rk]
 | false=>simp [rk,Uw _ _ _ hh]
/-- -1, 0 or 1. -/
def KC (x y:Int):Int:=if x < y then -1 else if y < x then 1 else 0
theorem Tu (x y:Int):CA x y=some (KC x y):=by
 unfold CA Eg KC
 simp only [bne_self_eq_false,OS,Bool.false_eq_true,if_false,decide_eq_true_eq,gt_iff_lt]
 split
 ·rfl
 ·split <;> rfl
def Se (x y:List UInt8):Int:=if Go.Op.bytesLess x y=true then -1 else if (!(Go.Op.bytesLess x y||x==y))=true then 1 else 0
theorem YO (x y:List UInt8):Cp x y=some (Se x y):=by
 unfold Cp DV Se
 simp only [beq_self_eq_true,Bool.not_true,OS,Bool.false_eq_true,if_false]
 split
 ·rfl
 ·split <;> rfl
/-- Does a clause name a guest? -/
def nmB (c:AE) (g:Aw):Bool :=
 if (c.1==4)=true then g.2.2.2.2.1==c.2.2.2.2 else
 if (c.1==5)=true then g.2.2.2.2.2.2.1 else
 if (c.1==7)=true then Me c.2.2.2.1 g.2.2.1 else g.2.2.2.2.2.2.2.2.any fun s=>Me c.2.2.2.1 s
theorem QF (t:List (List UInt8)) (c:AE) (ht:t.length<=99999) (h:c.2.2.2.1.length<=99999):AY t c=some (t.any fun s=>Me c.2.2.2.1 s):=by
 unfold AY Ar
 obtain ⟨n,h1,h2⟩:=Q9 t ht (fun v=>Dn v c) (fun s=>Me c.2.2.2.1 s) (fun v _=>by unfold Dn; rw [H1 _ _ h]; rfl) (A0 t c) (fun f c=>rfl)
 rw [<-h2]
 exact (congrArg (fun o=>o.bind fun v1=>some (decide (v1≥0))) h1)
def nv (c:AE) (g:Aw):Int:=if (!(nmB c g==c.2.2.1))=true then 0 else 1
def Px (i:Int):Bool:=decide (i≥0)&&decide (i<=63)
theorem YZ (i:Int):CX i=some (Px i):=by
 unfold CX Px
 by_cases h:i≥0 <;> simp [h]
def kyI (i n:Int):Int:=(wr .i64 ((wr .i64 (i * (wr .i64 ((wr .i64 (n + n)) + 1)))) + n)).tmod 64
theorem Yf (i:Int) (c:AE):Dd i c=some (kyI i c.2.2.2.2):=by
 unfold Dd kyI
 rw [Int.two_mul]
def b2 (b:Bool):Int:=if b=true then 1 else 0
theorem Yz (b:Bool):H2 b=some (b2 b):=by cases b <;> rfl
def snc (y:Bool) (s t:Int):Int:=if (!((s==0)==(t==0)))=true then KC (b2 (s==0)) (b2 (t==0)) else if y=true then wr .i64 (0 - KC s t) else KC s t
/-- What a clause says of two guests at their places, without regard to Among. -/
def NI (c:AE) (a b:Aw) (i j:Int):Int :=
 if (c.1==1)=true then KC (rk c.2.2.2.1 a.2.1) (rk c.2.2.2.1 b.2.1) else
 if (c.1==2)=true then snc false a.2.2.2.1 b.2.2.2.1 else
 if (c.1==3)=true then snc true a.2.2.2.1 b.2.2.2.1 else
 if (c.1==8)=true then Se a.1 b.1 else
 if (c.1==9)=true then if (!Px i||!Px j)=true then 0 else KC i j else
 if (c.1==10)=true then if (!Px i||!Px j)=true then 0 else KC (kyI i c.2.2.2.2) (kyI j c.2.2.2.2) else
 KC (nv c a) (nv c b)
def amB (c:AE) (a b:Aw):Bool:=(!(c.2.1==[]))&&((!(a.2.1==c.2.1))||(!(b.2.1==c.2.1)))
def dir (c:AE) (a b:Aw) (i j:Int):Int:=if amB c a b=true then 0 else NI c a b i j
theorem Yy (c:AE) (a b:Aw):((if (!(c.2.1==[]))=true then if (!(a.2.1==c.2.1))=true then some true else some (!(b.2.1==c.2.1)) else some false):Option Bool)=some (amB c a b):=by
 unfold amB
 cases (c.2.1==[]) <;> cases (a.2.1==c.2.1) <;> rfl
theorem Rh (a b:Aw) (i j:Int) (c:AE):Ck (a,i) (b,j) c=some (snc (c.1==3) a.2.2.2.1 b.2.2.2.1):=by
 unfold Ck snc Fk
 simp only [Yz,Tu,OS]
 split
 ·rfl
 ·split <;> rfl
theorem YQ (c:AE) (a b:Aw) (i j:Int) (h:c.2.2.2.1.length<=99999) (ha:a.2.2.2.2.2.2.2.2.length<=99999) (hb:b.2.2.2.2.2.2.2.2.length<=99999) (hk:1<=c.1/\c.1<=10):Dm (a,i) (b,j) c=some (dir c a b i j):=by
 have cl:∀ (o:Option Int) (x:Int),o=some x->((((if (!(c.2.1==[]))=true then if (!(a.2.1==c.2.1))=true then some true else some (!(b.2.1==c.2.1)) else some false):Option Bool).bind fun j2=>if j2=true then some 0 else o.bind fun v4=>some v4):Option Int)=some (if amB c a b=true then 0 else x):=fun o x e=>by
  rw [Yy,OS,e]
  cases amB c a b <;> rfl
 have nm:∀ (p q:Bool),((if (!(p==c.2.2.1))=true then some 0 else some 1:Option Int).bind fun v1=>(if (!(q==c.2.2.1))=true then some 0 else some 1:Option Int).bind fun v2=>(CA v1 v2).bind fun v3=>some v3)=some (KC (if (!(p==c.2.2.1))=true then 0 else 1) (if (!(q==c.2.2.1))=true then 0 else 1)):=fun p q=>by
  simp only [Tu]
  cases (p==c.2.2.1) <;> cases (q==c.2.2.1) <;> rfl
 have pl:∀ (o:Int->Option Int) (k:Int->Int),(∀ i,o i=some (k i))->(((CX i).bind fun v1=>((if (!v1)=true then some true else (CX j).bind fun v2=>some (!v2)):Option Bool).bind fun j4=>if j4=true then some 0 else (o i).bind fun v6=>(o j).bind fun v7=>(CA v6 v7).bind fun v8=>some v8):Option Int)=some (if (!Px i||!Px j)=true then 0 else KC (k i) (k j)):=fun o k e=>by
  simp only [YZ,OS,e,Tu]
  cases Px i <;> cases Px j <;> rfl
 unfold Dm dir
 by_cases h1:c.1=1
 ·have e1:(c.1==1)=true:=by simp [h1]
  rw [if_pos e1]
  refine cl (CE (fun x (v:AE×Unit)=>DG x v.1) (a,i) (b,j) (c,())) _ ?_
  unfold CE NI
  dsimp only
  rw [if_pos e1,Uv _ c h,OS,Uv _ c h,OS,Tu]; rfl
 rw [if_neg (show ¬ (c.1==1)=true by simpa using h1)]
 by_cases h2:c.1=2
 ·have e2:(c.1==2)=true:=by simp [h2]
  rw [if_pos e2]
  refine cl (Ck (a,i) (b,j) c) _ ?_
  unfold NI
  rw [if_neg (show ¬ (c.1==1)=true by simpa using h1),if_pos e2,Rh,h2]; rfl
 rw [if_neg (show ¬ (c.1==2)=true by simpa using h2)]
 by_cases h3:c.1=3
 ·have e3:(c.1==3)=true:=by simp [h3]
  rw [if_pos e3]
  refine cl (Ck (a,i) (b,j) c) _ ?_
  unfold NI
  rw [if_neg (show ¬ (c.1==1)=true by simpa using h1),if_neg (show ¬ (c.1==2)=true by simpa using h2),if_pos e3,Rh,h3]; rfl
 rw [if_neg (show ¬ (c.1==3)=true by simpa using h3)]
 by_cases h4:c.1=4
 ·have e4:(c.1==4)=true:=by simp [h4]
  rw [if_pos e4]
  refine cl (CE (fun x (v:AE×AE×Unit)=>BG x v.1 v.2.1) (a,i) (b,j) (c,c,())) _ ?_
  have:NI c a b i j=KC (nv c a) (nv c b):=by unfold NI; simp [h4]
  rw [this]
  unfold nv nmB
  rw [if_pos e4,if_pos e4]
  exact nm _ _
 rw [if_neg (show ¬ (c.1==4)=true by simpa using h4)]
 by_cases h5:c.1=5
 ·have e5:(c.1==5)=true:=by simp [h5]
  rw [if_pos e5]
  refine cl (CE (fun x (v:Unit×AE×Unit)=>BH x v.2.1) (a,i) (b,j) ((),c,())) _ ?_
  have:NI c a b i j=KC (nv c a) (nv c b):=by unfold NI; simp [h5]
  rw [this]
  unfold nv nmB
  simp only [h5]
  exact nm _ _
 rw [if_neg (show ¬ (c.1==5)=true by simpa using h5)]
 by_cases h6:c.1=6
 ·have e6:(c.1==6)=true:=by simp [h6]
  rw [if_pos e6]
  refine cl (CE (fun x (v:AE×AE×Unit)=>A8 x v.1 v.2.1) (a,i) (b,j) (c,c,())) _ ?_
  have:NI c a b i j=KC (nv c a) (nv c b):=by unfold NI; simp [h6]
  rw [this]
  unfold CE A8 FX
  dsimp only
  rw [QF _ _ ha h,QF _ _ hb h]
  unfold nv nmB
  simp only [h6]
  exact nm _ _
 rw [if_neg (show ¬ (c.1==6)=true by simpa using h6)]
 by_cases h7:c.1=7
 ·have e7:(c.1==7)=true:=by simp [h7]
  rw [if_pos e7]
  refine cl (CE (fun x (v:AE×AE×Unit)=>A9 x v.1 v.2.1) (a,i) (b,j) (c,c,())) _ ?_
  have:NI c a b i j=KC (nv c a) (nv c b):=by unfold NI; simp [h7]
  rw [this]
  unfold CE A9 FY
  dsimp only
  rw [H1 _ _ h,H1 _ _ h]
  unfold nv nmB
  simp only [h7]
  exact nm _ _
 rw [if_neg (show ¬ (c.1==7)=true by simpa using h7)]
 by_cases h8:c.1=8
 ·have e8:(c.1==8)=true:=by simp [h8]
  rw [if_pos e8]
  refine cl (D5 (a,i) (b,j)) _ ?_
  have:NI c a b i j=Se a.1 b.1:=by unfold NI; simp [h8]
  rw [this]
  unfold D5
  rw [YO]; rfl
 rw [if_neg (show ¬ (c.1==8)=true by simpa using h8)]
 by_cases h10:c.1=10
 ·have e10:(c.1==10)=true:=by simp [h10]
  rw [if_pos e10]
  refine cl (Aj (a,i) (b,j) c) _ ?_
  have:NI c a b i j=if (!Px i||!Px j)=true then 0 else KC (kyI i c.2.2.2.2) (kyI j c.2.2.2.2):=by unfold NI; simp [h10]
  rw [this]
  exact pl (fun i=>Dd i c) (fun i=>kyI i c.2.2.2.2) (fun i=>Yf i c)
 rw [if_neg (show ¬ (c.1==10)=true by simpa using h10)]
 have h9:c.1=9:=by omega
 refine cl (Ak (a,i) (b,j)) _ ?_
 have:NI c a b i j=if (!Px i||!Px j)=true then 0 else KC i j:=by unfold NI; simp [h9]
 rw [this]
 exact pl (fun i=>Ek i) (fun i=>i) (fun i=>rfl)
theorem RD:∀ (x y:List UInt8),Go.Op.bytesLess x y=false->Go.Op.bytesLess y x=!(x==y)
 | [],[],_=>rfl
 | a::x,[],_=>rfl
 | [],b::y,h=>by cases h
 | a::x,b::y,h=>by
  have h':(decide (a < b)||(a==b&&Go.Op.bytesLess x y))=false:=h
  simp only [Bool.or_eq_false_iff,decide_eq_false_iff_not] at h'
  show (decide (b < a)||(b==a&&Go.Op.bytesLess y x))=!(a::x==b::y)
  by_cases e:a=b
  ·subst e
   have h2:Go.Op.bytesLess x y=false:=by simpa using h'.2
   have:=RD x y h2
   simp [this]
  ·have hlt:b < a:=by
    rcases Nat.lt_trichotomy a.toNat b.toNat with q | q | q
    ·exact absurd (UInt8.lt_iff_toNat_lt.2 q) h'.1
    ·exact absurd (UInt8.toNat_inj.1 q) e
    ·exact UInt8.lt_iff_toNat_lt.2 q
   simp [hlt,e]
theorem XU (y:Bool) (s t:Int):snc y s t=if ((s != 0)&&((t==0)||(if y=true then decide (s > t) else decide (s < t))))=true then -1 else if ((t != 0)&&((s==0)||(if y=true then decide (t > s) else decide (t < s))))=true then 1 else 0:=by
 have w1:wr .i64 1=1:=by decide
 have w2:wr .i64 (-1) = -1:=by decide
 have w3:wr .i64 0=0:=by decide
 unfold snc KC b2
 by_cases hs:s=0 <;> by_cases ht:t=0
 ·subst hs ht; cases y <;> simp [w3]
 ·subst hs; simp [ht]
 ·subst ht; simp [hs]
 ·have e1:(s==0)=false:=by simpa using hs
  have e2:(t==0)=false:=by simpa using ht
  have e3:(s != 0)=true:=by simpa using hs
  have e4:(t != 0)=true:=by simpa using ht
  rw [e1,e2,e3,e4]
  rcases Int.lt_trichotomy s t with q | q | q
  ·have q2:¬ t < s:=by omega
   cases y <;> simp [q,q2,w1]
  ·subst q; cases y <;> simp [w3]
  ·have q2:¬ s < t:=by omega
   cases y <;> simp [q,q2,w2]
/-- The first clause that separates two guests. -/
def rsn (a b:Aw) (i j:Int):List AE->Nat->Unit ⊕ (Int×Int)
 | [],_=> .inl ()
 | x::r,k=>if dir x a b i j=0 then rsn a b i j r (k + 1) else .inr ((k:Int),dir x a b i j)
def X0 (c:List AE) (a b:Aw) (i j:Int):Int×Int:=match rsn a b i j c 0 with
 | .inl _=>(-1,0)
 | .inr w=>w
theorem W6 (a b:Aw) (i j:Int):∀ (r:List AE) (k:Nat),goU (fun x k (n:Option (Unit ⊕ (Int×Int)))=>if (dir x a b i j != 0)=true then some (.inr ((k:Int),dir x a b i j)) else n) (some (.inl ())) r k=some (rsn a b i j r k)
 | [],_=>rfl
 | x::r,k=>by
  unfold goU rsn
  rw [W6 a b i j r (k + 1)]
  by_cases h:dir x a b i j=0 <;> simp [h]
def Th (g:Aw):Prop:=g.2.2.2.2.2.2.2.2.length<=10
def Vi (c:List AE):Prop:=∀ x ∈ c,1<=x.1/\x.1<=10
theorem VP (c:List AE) (a b:Aw) (i j:Int) (h:few c) (hk:Vi c) (ha:Th a) (hb:Th b):As c (a,i) (b,j)=some (X0 c a b i j):=by
 have hl:=h.1
 have e:Ac c 100000 a.1 a.2.1 a.2.2.1 a.2.2.2.1 a.2.2.2.2.1 a.2.2.2.2.2.1 a.2.2.2.2.2.2.1 a.2.2.2.2.2.2.2.1 a.2.2.2.2.2.2.2.2 i b.1 b.2.1 b.2.2.1 b.2.2.2.1 b.2.2.2.2.1 b.2.2.2.2.2.1 b.2.2.2.2.2.2.1 b.2.2.2.2.2.2.2.1 b.2.2.2.2.2.2.2.2 j 0=some (rsn a b i j c 0):=by
  rw [<-W6]
  refine ON c (fun f n=>Ac c f a.1 a.2.1 a.2.2.1 a.2.2.2.1 a.2.2.2.2.1 a.2.2.2.2.2.1 a.2.2.2.2.2.2.1 a.2.2.2.2.2.2.2.1 a.2.2.2.2.2.2.2.2 i b.1 b.2.1 b.2.2.1 b.2.2.2.1 b.2.2.2.2.1 b.2.2.2.2.2.1 b.2.2.2.2.2.2.1 b.2.2.2.2.2.2.2.1 b.2.2.2.2.2.2.2.2 j n) _ _ 100000 (by omega) (fun f pre v r e=>?_) (fun f=>?_)
  ·conv=>lhs; unfold Ac
   have hv:W3 v:=h.2 v (by rw [e]; simp)
   have hd:=YQ v a b i j (by have:=hv.2.1; omega) (by unfold Th at ha; omega) (by unfold Th at hb; omega) (hk v (by rw [e]; simp))
   rw [if_pos (by rw [e]; exact JW pre v r),show idx c (pre.length:Int)=some v by rw [e,Ez],OS]
   rw [show Dm ((a.1,a.2.1,a.2.2.1,a.2.2.2.1,a.2.2.2.2.1,a.2.2.2.2.2.1,a.2.2.2.2.2.2.1,a.2.2.2.2.2.2.2.1,a.2.2.2.2.2.2.2.2),i) ((b.1,b.2.1,b.2.2.1,b.2.2.2.1,b.2.2.2.2.1,b.2.2.2.2.2.1,b.2.2.2.2.2.2.1,b.2.2.2.2.2.2.2.1,b.2.2.2.2.2.2.2.2),j) v=some (dir v a b i j) from hd,OS,Gy pre v r (by rw [<-e]; omega)]
  ·show Ac c (f + 1) a.1 a.2.1 a.2.2.1 a.2.2.2.1 a.2.2.2.2.1 a.2.2.2.2.2.1 a.2.2.2.2.2.2.1 a.2.2.2.2.2.2.2.1 a.2.2.2.2.2.2.2.2 i b.1 b.2.1 b.2.2.1 b.2.2.2.1 b.2.2.2.2.1 b.2.2.2.2.2.1 b.2.2.2.2.2.2.1 b.2.2.2.2.2.2.2.1 b.2.2.2.2.2.2.2.2 j (c.length:Int)=_
   conv=>lhs; unfold Ac
   rw [if_neg (by simp)]
 unfold As X0
 dsimp only
 rw [e,OS]
 cases rsn a b i j c 0 <;> rfl
theorem P2 (c:List AE) (h:few c) (hk:Vi c):∀ (r pre:List AE) (f:Nat),c=pre++r->r.length < f->DM c f pre (pre.length:Int)=some c
 | [],pre,f + 1,e,_=>by
  unfold DM
  rw [if_neg (by rw [e]; simp),e,List.append_nil]
 | v::r,pre,f + 1,e,hf=>by
  have hl:=h.1
  have hl2:c.length=pre.length + r.length + 1:=by rw [e]; simp; omega
  simp only [List.length_cons] at hf
  have hkv:=hk v (by rw [e]; simp)
  unfold DM
  rw [if_pos (by rw [e]; exact JW pre v r),show idx c (pre.length:Int)=some v by rw [e,Ez],OS,show Ej v=some v by unfold Ej; rw [if_pos hkv],OS,if_pos (Hn (by omega) (by omega)),show wr .i64 ((pre.length:Int) + 1)=((pre++[v]).length:Int) from Gy pre v r (by rw [<-e]; omega)]
  exact P2 c h hk r (pre++[v]) f (by rw [e]; simp) (by omega)
theorem VT {x:AE}(h:fm x=true):1<=x.1/\x.1<=10:=by
 by_cases hk:1<=x.1/\x.1<=10
 ·exact hk
 ·exfalso
  have n:∀ q:Int,1<=q->q<=10->¬ (x.1==q)=true:=fun q h1 h2 e=>hk (by have:x.1=q:=(by simpa using e); omega)
  have e:A1 x=some false:=by
   unfold A1 EW EX EY EZ
   have n9:(x.1==9)=false:=by simpa using n 9 (by omega) (by omega)
   have n7:(x.1==7)=false:=by simpa using n 7 (by omega) (by omega)
   rw [if_neg (n 1 (by omega) (by omega)),if_neg (n 2 (by omega) (by omega)),if_neg (n 3 (by omega) (by omega)),if_neg (n 8 (by omega) (by omega)),if_neg (n 4 (by omega) (by omega)),if_neg (n 5 (by omega) (by omega)),if_neg (n 6 (by omega) (by omega)),if_neg (n 10 (by omega) (by omega)),n9,n7]
   rfl
  unfold fm at h
  rw [e] at h
  cases h
theorem Om (c:List AE):∀ (r:List AE) (i:Nat),(∃ u,RF c r i = .inl u/\∀ x ∈ r,fm x=true)\/∃ w,RF c r i = .inr w/\w.2≠0
 | [],i=> .inl ⟨(),rfl,fun x hx=>by cases hx⟩
 | x::r,i=>by
  unfold RF
  by_cases h:chk (c.take i) x=0
  ·rw [if_neg (by simpa using h)]
   rcases Om c r (i + 1) with ⟨u,h1,h2⟩ | h1
   ·refine .inl ⟨u,h1,fun y hy=>?_⟩
    rcases List.mem_cons.1 hy with rfl | hy
    ·cases hf:fm y with
     | true=>rfl
     | false=>unfold chk at h; rw [if_pos hf] at h; cases h
    ·exact h2 y hy
   ·exact .inr h1
  ·rw [if_pos h]
   exact .inr ⟨_,rfl,h⟩
theorem Nd {c:List AE}(h:(On c).2=0):Vi c:=by
 unfold On at h
 split at h
 ·cases h
 ·rcases Om c c 0 with ⟨u,h1,h2⟩ | ⟨w,h1,h2⟩
  ·exact fun x hx=>VT (h2 x hx)
  ·rw [h1] at h; exact absurd h h2
/-- A letter a to d. -/
def wd (k:Int):List UInt8:=((((([97,98,99,100]:List UInt8).take (([97,98,99,100]:List UInt8).length:Int).toNat).drop k.toNat).take (1:Int).toNat).drop (0:Int).toNat)
theorem Xy {k:Int}(h1:0<=k) (h2:k < 4):k=0\/k=1\/k=2\/k=3:=by omega
theorem Tb {k:Int}(h1:0<=k) (h2:k < 4):Fd (wd k)=true/\(wd k).length=1:=by
 rcases Xy h1 h2 with rfl | rfl | rfl | rfl <;> decide
theorem Xh {a b:Int}(h1:0<=a) (h2:a < 4) (h3:0<=b) (h4:b < 4) (h:(wd a==wd b)=true):a=b:=by
 rcases Xy h1 h2 with rfl | rfl | rfl | rfl <;> rcases Xy h3 h4 with rfl | rfl | rfl | rfl <;> first | rfl | (exact absurd h (by decide))
theorem WW {k:Int}(h1:0<=k) (h2:k < 4):Do k (([97,98,99,100]:List UInt8).length:Int) ([97,98,99,100]:List UInt8).length=true/\Do 0 (1:Int) ((([97,98,99,100]:List UInt8).take (([97,98,99,100]:List UInt8).length:Int).toNat).drop k.toNat).length=true:=by
 rcases Xy h1 h2 with rfl | rfl | rfl | rfl <;> exact ⟨by decide,by decide⟩
def u8 (n:Int):Prop:=0<=n/\n<=255
theorem tm4 {n:Int}(h:u8 n):0<=n.tmod 4/\n.tmod 4 < 4:=by
 have:=h.1
 rw [Int.tmod_eq_emod_of_nonneg this]
 omega
theorem wr8 (n:Int) (h:u8 n):u8 (wr .u8 (n + 1))/\(wr .u8 (n + 1)).tmod 4≠n.tmod 4:=by
 have e:wr .u8 (n + 1)=(n + 1) % 256:=rfl
 have h2:u8 ((n + 1) % 256):=⟨by omega,by omega⟩
 refine ⟨e ▸ h2,?_⟩
 rw [e,Int.tmod_eq_emod_of_nonneg h2.1,Int.tmod_eq_emod_of_nonneg h.1]
 unfold u8 at h
 omega
/-- The names of a code. -/
def nms (v:Int×Int×Int×Bool×Bool):List (List UInt8):=if ((Du .u8 v.2.2.1 4)!=0)=true then [wd (v.2.2.1.tmod 4),wd ((wr .u8 (v.2.2.1 + 1)).tmod 4)] else [wd (v.2.2.1.tmod 4)]
theorem XI (x0:List (Int×Int×Int×Bool×Bool)) (c2:List AE) (c3:List UInt8) (c4:Int) (v:Int×Int×Int×Bool×Bool) (h:u8 v.2.2.1):GY x0 c2 c3 c4 v=some (nms v):=by
 unfold GY nms
 obtain ⟨h1,_⟩:=wr8 _ h
 obtain ⟨q1,q2⟩:=tm4 h1
 obtain ⟨d1,d2⟩:=WW q1 q2
 by_cases hc:((Du .u8 v.2.2.1 4)!=0)=true
 ·rw [if_pos hc,if_pos hc,if_pos d1,if_pos d2]
  refine (if_pos ?_).trans rfl
  show Fe 16 2=true
  decide
 ·rw [if_neg hc,if_neg hc]; rfl
/-- The clause of a code. -/
def clz (k:Int) (am:List UInt8) (la:Bool) (nm:List (List UInt8)) (b:Int):AE :=
 if k=1 then (1,am,false,nm,0) else if k=4 then (4,am,la,[],wr .i64 (1 + wr .i64 (b.tmod 2))) else if k=5 then (5,am,la,[],0) else
 if k=6 then (6,am,la,nm,0) else if k=7 then (7,am,la,nm,0) else if k=10 then (10,am,false,[],wr .i64 (b.tmod 64)) else (k,am,false,[],0)
theorem ten {k:Int}(h1:1<=k) (h2:k<=10):k=1\/k=2\/k=3\/k=4\/k=5\/k=6\/k=7\/k=8\/k=9\/k=10:=by omega
theorem XJ (x0:List (Int×Int×Int×Bool×Bool)) (c2:List AE) (c3:List UInt8) (c4 a b d:Int) (e g:Bool) (k:Int) (am:List UInt8) (w:List UInt8) (nm:List (List UInt8)) (h1:1<=k) (h2:k<=10) :
  GZ x0 c3 c4 (c2,a,b,d,e,g,k,am,false,0,w::nm)=some (c2,(if k=1 then w else c3),clz k am e (w::nm) b):=by
 rcases ten h1 h2 with rfl | rfl | rfl | rfl | rfl | rfl | rfl | rfl | rfl | rfl <;> rfl
/-- Names that are fit. -/
def Xs (nm:List (List UInt8)):Prop:=1<=nm.length/\nm.length<=2/\(nm.any fun s=>!Fd s)=false/\Tg nm nm 0=false/\∀ s ∈ nm,s.length<=40
theorem TI (v:Int×Int×Int×Bool×Bool) (h:u8 v.2.2.1):Xs (nms v)/\∃ r,nms v=wd (v.2.2.1.tmod 4)::r:=by
 obtain ⟨h1,h0⟩:=wr8 _ h
 obtain ⟨q1,q2⟩:=tm4 h1
 obtain ⟨p1,p2⟩:=tm4 h
 obtain ⟨a1,a2⟩:=Tb p1 p2
 obtain ⟨b1,b2⟩:=Tb q1 q2
 have hne:(wd ((wr .u8 (v.2.2.1 + 1)).tmod 4)==wd (v.2.2.1.tmod 4))=false:=by
  cases hh:(wd ((wr .u8 (v.2.2.1 + 1)).tmod 4)==wd (v.2.2.1.tmod 4)) with
  | false=>rfl
  | true=>exact absurd (Xh q1 q2 p1 p2 hh) h0
 unfold nms
 split
 ·refine ⟨⟨by simp,by simp,by simp [a1,b1],?_,fun s hs=>?_⟩,_,rfl⟩
  ·simp [Tg,Me,hne]
  ·rcases (by simpa using hs:s=_\/s=_) with rfl | rfl <;> omega
 ·refine ⟨⟨by simp,by simp,by simp [a1],by simp [Tg,Me],fun s hs=>?_⟩,_,rfl⟩
  have:s=wd (v.2.2.1.tmod 4):=by simpa using hs
  rw [this]; omega
theorem Ww (k:Int) (am:List UInt8) (la:Bool) (nm:List (List UInt8)) (b:Int) (h1:1<=k) (h2:k<=10) (hb:u8 b) (ha:k=1->am=[]) (hn:Xs nm):fm (clz k am la nm b)=true:=by
 obtain ⟨n1,n2,_⟩:=hn
 have hl:nm.length=1\/nm.length=2:=by omega
 have e2:wr .i64 (1 + wr .i64 (b.tmod 2))=1\/wr .i64 (1 + wr .i64 (b.tmod 2))=2:=by
  rw [Int.tmod_eq_emod_of_nonneg hb.1]
  have hw:wr .i64 (b % 2)=b % 2:=QK (by omega) (by omega)
  rw [hw,QK (by omega) (by omega)]
  omega
 have e64:0<=wr .i64 (b.tmod 64)/\wr .i64 (b.tmod 64)<=63:=by
  rw [Int.tmod_eq_emod_of_nonneg hb.1,QK (by omega) (by omega)]
  omega
 unfold fm
 rcases ten h1 h2 with rfl | rfl | rfl | rfl | rfl | rfl | rfl | rfl | rfl | rfl
 ·obtain rfl:=ha rfl
  have:clz 1 [] la nm b=(1,[],false,nm,0):=rfl
  rw [this]
  rcases hl with h | h <;> simp [A1,BZ,h]
 ·rfl
 ·rfl
 ·have:clz 4 am la nm b=(4,am,la,[],wr .i64 (1 + wr .i64 (b.tmod 2))):=rfl
  rw [this]
  rcases e2 with h | h <;> rw [h] <;> rfl
 ·rfl
 ·have:clz 6 am la nm b=(6,am,la,nm,0):=rfl
  rw [this]
  rcases hl with h | h <;> simp [A1,EW,EX,EY,EZ,BZ,h]
 ·have:clz 7 am la nm b=(7,am,la,nm,0):=rfl
  rw [this]
  rcases hl with h | h <;> simp [A1,EW,EX,EY,EZ,BZ,h]
 ·rfl
 ·rfl
 ·have:clz 10 am la nm b=(10,am,false,[],wr .i64 (b.tmod 64)):=rfl
  rw [this]
  simp [A1,EW,EX,EY,EZ,BZ,e64.1,e64.2]
/-- Every clause is valid behind what stands before it. -/
def IE (pre:List AE):List AE->Prop
 | []=>True
 | x::r=>chk pre x=0/\IE (pre++[x]) r
theorem K9:∀ (a pre b:List AE),IE pre (a++b)↔IE pre a/\IE (pre++a) b
 | [],pre,b=>by simp [IE]
 | x::a,pre,b=>by
  simp only [List.cons_append,IE,K9 a (pre++[x]) b,List.append_assoc,List.cons_append,List.nil_append,and_assoc]
theorem OT (a b:List AE) (s:List UInt8):Gd (a++b) s=(Gd a s||Gd b s):=by
 unfold Gd
 rw [List.any_append]
theorem Pu (c:List AE):∀ (r pre:List AE),c=pre++r->IE pre r->RF c r pre.length = .inl ()
 | [],_,_,_=>rfl
 | x::r,pre,e,h=>by
  unfold RF
  have ht:c.take pre.length=pre:=by rw [e]; simp
  rw [ht,if_neg (by rw [h.1]; decide)]
  have:=Pu c r (pre++[x]) (by rw [e]; simp) h.2
  simpa using this
theorem Va {c:List AE}(hl:c.length<=32) (h:IE [] c):On c=(0,0):=by
 unfold On
 have:RF c c 0 = .inl ():=Pu c c [] rfl h
 rw [if_neg (by omega),this]
theorem Up (k:Int) (am:List UInt8) (la:Bool) (nm:List (List UInt8)) (b:Int):(clz k am la nm b).2.1=am:=by
 unfold clz
 split; · rfl
 split; · rfl
 split; · rfl
 split; · rfl
 split; · rfl
 split <;> rfl
theorem RH (k:Int) (am:List UInt8) (la:Bool) (nm:List (List UInt8)) (b:Int):(clz k am la nm b).2.2.2.1=nm\/(clz k am la nm b).2.2.2.1=[]:=by
 unfold clz
 split; · exact .inl rfl
 split; · exact .inr rfl
 split; · exact .inr rfl
 split; · exact .inl rfl
 split; · exact .inl rfl
 split <;> exact .inr rfl
theorem VE (pre:List AE) (k:Int) (am:List UInt8) (la:Bool) (nm:List (List UInt8)) (b:Int) (h1:1<=k) (h2:k<=10) (hb:u8 b) (ha:k=1->am=[]) (hn:Xs nm) (hr:am=[]\/Gd pre am=true/\Fd am=true):chk pre (clz k am la nm b)=0:=by
 unfold chk
 rw [Ww k am la nm b h1 h2 hb ha hn,if_neg (by decide),Up]
 have hN:((clz k am la nm b).2.2.2.1.any fun s=>!Fd s)=false:=by
  rcases RH k am la nm b with e | e <;> rw [e]
  ·exact hn.2.2.1
  ·rfl
 have hD:Tg (clz k am la nm b).2.2.2.1 (clz k am la nm b).2.2.2.1 0=false:=by
  rcases RH k am la nm b with e | e <;> rw [e]
  ·exact hn.2.2.2.1
  ·rfl
 rw [hN,hD]
 rcases hr with rfl | ⟨h3,h4⟩
 ·simp
 ·simp [h3,h4]
theorem VF (k:Int) (am:List UInt8) (la:Bool) (nm:List (List UInt8)) (b:Int) (ha:am.length<=40) (hn:Xs nm):W3 (clz k am la nm b):=by
 refine ⟨by rw [Up]; exact ha,?_,?_⟩
 ·rcases RH k am la nm b with e | e <;> rw [e]
  ·have:=hn.2.1; omega
  ·simp
 ·rcases RH k am la nm b with e | e <;> rw [e]
  ·exact hn.2.2.2.2
  ·simp
theorem XC {a:Int}(h:u8 a):1<=wr .u8 (1 + a.tmod 10)/\wr .u8 (1 + a.tmod 10)<=10:=by
 rw [Int.tmod_eq_emod_of_nonneg h.1]
 have e:wr .u8 (1 + a % 10)=(1 + a % 10) % 256:=rfl
 rw [e]
 omega
def RJ (v:Int×Int×Int×Bool×Bool):Prop:=u8 v.1/\u8 v.2.1/\u8 v.2.2.1
/-- What the loop keeps. -/
def UE (c2:List AE) (c3:List UInt8):Prop:=IE [] c2/\(∀ x ∈ c2,W3 x)/\(c3=[]\/(Gd c2 c3=true/\Fd c3=true/\c3.length<=40))
theorem S2 {c2:List AE}{c3:List UInt8}(h:UE c2 c3) (v:Int×Int×Int×Bool×Bool) (hv:RJ v) (am:List UInt8) (ham:am=[]\/am=c3) (hk1:wr .u8 (1 + v.1.tmod 10)=1->am=[]) (w:List UInt8) (r:List (List UInt8)) (hw:nms v=w::r) :
  UE (c2++[clz (wr .u8 (1 + v.1.tmod 10)) am v.2.2.2.1 (w::r) v.2.1]) (if wr .u8 (1 + v.1.tmod 10)=1 then w else c3):=by
 obtain ⟨g1,g2,g3⟩:=h
 obtain ⟨k1,k2⟩:=XC hv.1
 obtain ⟨n1,r',n2⟩:=TI v hv.2.2
 rw [hw] at n1
 have ha:am=[]\/Gd c2 am=true/\Fd am=true:=by
  rcases ham with e | e
  ·exact .inl e
  ·rcases g3 with g3 | ⟨q1,q2,_⟩
   ·exact .inl (e.trans g3)
   ·rw [e]; exact .inr ⟨q1,q2⟩
 have ha40:am.length<=40:=by
  rcases ham with e | e
  ·rw [e]; simp
  ·rcases g3 with g3 | ⟨_,_,q3⟩
   ·rw [e,g3]; simp
   ·rw [e]; exact q3
 refine ⟨(K9 _ _ _).2 ⟨g1,VE _ _ _ _ _ _ k1 k2 hv.2.1 hk1 n1 ha,trivial⟩,fun x hx=>?_,?_⟩
 ·rcases List.mem_append.1 hx with hx | hx
  ·exact g2 x hx
  ·rw [List.mem_singleton.1 hx]
   exact VF _ _ _ _ _ ha40 n1
 ·by_cases hk:wr .u8 (1 + v.1.tmod 10)=1
  ·rw [if_pos hk]
   refine .inr ⟨?_,?_,n1.2.2.2.2 w (by simp)⟩
   ·rw [OT,hk]
    have:Gd [clz 1 am v.2.2.2.1 (w::r) v.2.1] w=true:=by
     unfold Gd clz Me
     simp
    rw [this]; simp
   ·have:=n1.2.2.1
    simp at this
    exact this.1
  ·rw [if_neg hk]
   rcases g3 with g3 | ⟨q1,q2,q3⟩
   ·exact .inl g3
   ·exact .inr ⟨by rw [OT,q1]; simp,q2,q3⟩
theorem S9 (x0:List (Int×Int×Int×Bool×Bool)) (ys:List (Int×Int×Int×Bool×Bool)) (hys:((x0.take (mnI (x0.length:Int) 8).toNat).drop (0:Int).toNat)=ys) (hb:∀ v ∈ ys,RJ v) (h8:ys.length<=8):∀ (r pre:List (Int×Int×Int×Bool×Bool)) (c2:List AE) (c3:List UInt8) (f:Nat),ys=pre++r->r.length < f->c2.length=pre.length->UE c2 c3 ->
  ∃ c c3',D7 x0 f c2 c3 (pre.length:Int)=some c/\UE c c3'/\c.length=ys.length
 | [],pre,c2,c3,f + 1,e,_,hl,hk=>by
  refine ⟨c2,c3,?_,hk,by rw [hl,e]; simp⟩
  unfold D7
  rw [hys,if_neg (by rw [e]; simp)]
 | v::r,pre,c2,c3,f + 1,e,hf,hl,hk=>by
  have hv:=hb v (by rw [e]; simp)
  have hl2:ys.length=pre.length + r.length + 1:=by rw [e]; simp; omega
  simp only [List.length_cons] at hf
  obtain ⟨p1,p2⟩:=tm4 hv.2.2
  obtain ⟨d1,d2⟩:=WW p1 p2
  obtain ⟨k1,k2⟩:=XC hv.1
  obtain ⟨n1,r',n2⟩:=TI v hv.2.2
  have hstep:∃ am,(am=[]\/am=c3)/\(wr .u8 (1 + v.1.tmod 10)=1->am=[])/\((if v.2.2.2.2=true then some (c2,v.1,v.2.1,v.2.2.1,v.2.2.2.1,true,(wr .u8 (1 + (v.1.tmod 10))),([]:List UInt8),false,(0:Int),nms v,((wr .u8 (1 + (v.1.tmod 10)))!=1)) else some (c2,v.1,v.2.1,v.2.2.1,v.2.2.2.1,false,(wr .u8 (1 + (v.1.tmod 10))),([]:List UInt8),false,(0:Int),nms v,false)).bind fun j27=>FZ x0 c3 (pre.length:Int) j27)=some (c2,v.1,v.2.1,v.2.2.1,v.2.2.2.1,v.2.2.2.2,(wr .u8 (1 + (v.1.tmod 10))),am,false,(0:Int),nms v):=by
   cases ht:v.2.2.2.2 with
   | false=>exact ⟨[],.inl rfl,fun _=>rfl,rfl⟩
   | true =>
    by_cases h1:wr .u8 (1 + v.1.tmod 10)=1
    ·refine ⟨[],.inl rfl,fun _=>rfl,?_⟩
     rw [if_pos rfl,OS]
     unfold FZ
     rw [if_neg (by simp [h1])]
    ·refine ⟨c3,.inr rfl,fun q=>absurd q h1,?_⟩
     rw [if_pos rfl,OS]
     unfold FZ
     rw [if_pos (by simpa using h1)]
  obtain ⟨am,ham,hk1,hj⟩:=hstep
  have hm4:GZ x0 c3 (pre.length:Int) (c2,v.1,v.2.1,v.2.2.1,v.2.2.2.1,v.2.2.2.2,(wr .u8 (1 + (v.1.tmod 10))),am,false,(0:Int),nms v)=some (c2,(if wr .u8 (1 + v.1.tmod 10)=1 then wd (v.2.2.1.tmod 4) else c3),clz (wr .u8 (1 + v.1.tmod 10)) am v.2.2.2.1 (nms v) v.2.1):=by
   rw [n2]
   exact XJ x0 c2 c3 _ _ _ _ _ _ _ am _ _ k1 k2
  have hks:=S2 hk v hv am ham hk1 _ _ n2
  obtain ⟨c,c3',q1,q2,q3⟩:=S9 x0 ys hys hb h8 r (pre++[v]) _ _ f (by rw [e]; simp) (by omega) (by simp [hl]) hks
  refine ⟨c,c3',?_,q2,q3⟩
  rw [<-q1]
  conv=>lhs; unfold D7
  rw [hys,if_pos (by rw [e]; exact JW pre v r),show idx ys (pre.length:Int)=some v by rw [e,Ez],OS,if_pos d1,if_pos d2,XI x0 c2 c3 _ v hv.2.2,OS]
  rw [<-Option.bind_assoc,hj,OS,hm4,OS]
  dsimp only
  rw [if_pos (Hn (by omega) (by omega)),Gy pre v r (by rw [<-e]; omega),n2]
theorem Vt (x0:List (Int×Int×Int×Bool×Bool)) (hb:∀ v ∈ x0,RJ v):∃ c,Ht x0=some c/\few c/\IE [] c/\c.length<=8:=by
 have hm:0<=mnI (x0.length:Int) 8/\mnI (x0.length:Int) 8<=8/\mnI (x0.length:Int) 8<=x0.length:=by
  unfold mnI
  split <;> omega
 have h8:((x0.take (mnI (x0.length:Int) 8).toNat).drop (0:Int).toNat).length<=8:=by
  rw [List.length_drop,List.length_take]; omega
 obtain ⟨c,c3,h1,h2,h3⟩:=S9 x0 _ rfl (fun v hv=>hb v (List.mem_of_mem_take (List.mem_of_mem_drop hv))) h8 _ [] [] [] 100000 rfl (Nat.lt_of_le_of_lt h8 (by decide)) rfl ⟨trivial,fun x hx=>by simp at hx,.inl rfl⟩
 refine ⟨c,?_,⟨by omega,h2.2.1⟩,h2.1,by omega⟩
 unfold Ht
 rw [if_pos (by unfold Do; simp; omega)]
 have e:D7 x0 100000 [] [] 0=some c:=h1
 rw [e]; rfl
/-- The decision of a merged text. -/
theorem KH (a b:Aw) (i j:Int) (x:AE) (r:List AE) (k:Nat):rsn a b i j (x::r) k=if dir x a b i j=0 then rsn a b i j r (k + 1) else .inr ((k:Int),dir x a b i j):=rfl
theorem TT (a b:Aw) (i j:Int):∀ (c d:List AE) (k:Nat),rsn a b i j (c++d) k=match rsn a b i j c k with | .inl _=>rsn a b i j d (k + c.length) | .inr w=> .inr w
 | [],d,k=>rfl
 | x::c,d,k=>by
  rw [List.cons_append,KH,KH]
  by_cases h:dir x a b i j=0
  ·rw [if_pos h,if_pos h,TT a b i j c d (k + 1),List.length_cons,show k + 1 + c.length=k + (c.length + 1) by omega]
  ·rw [if_neg h,if_neg h]
theorem TU (a b:Aw) (i j:Int):∀ (c:List AE) (k:Nat),(∃ u,rsn a b i j c k = .inl u)\/∃ w,rsn a b i j c k = .inr w/\w.2≠0
 | [],k=> .inl ⟨(),rfl⟩
 | x::c,k=>by
  unfold rsn
  by_cases h:dir x a b i j=0
  ·rw [if_pos h]; exact TU a b i j c (k + 1)
  ·rw [if_neg h]; exact .inr ⟨_,rfl,h⟩
theorem XS (a b:Aw) (i j:Int):∀ (c:List AE) (k q:Nat),(match rsn a b i j c k with | .inl _=>(0:Int) | .inr w=>w.2)=(match rsn a b i j c q with | .inl _=>(0:Int) | .inr w=>w.2)
 | [],_,_=>rfl
 | x::c,k,q=>by
  unfold rsn
  by_cases h:dir x a b i j=0
  ·rw [if_pos h,if_pos h]; exact XS a b i j c (k + 1) (q + 1)
  ·rw [if_neg h,if_neg h]
def PY (c:List AE) (a b:Aw) (i j:Int):Int:=(X0 c a b i j).2
theorem Ke (c:List AE) (a b:Aw) (i j:Int):PY c a b i j=match rsn a b i j c 0 with | .inl _=>(0:Int) | .inr w=>w.2:=by
 unfold PY X0
 cases rsn a b i j c 0 <;> rfl
theorem VG (c d:List AE) (a b:Aw) (i j:Int):PY (c++d) a b i j=if PY c a b i j=0 then PY d a b i j else PY c a b i j:=by
 rw [Ke,Ke,Ke,TT]
 rcases TU a b i j c 0 with ⟨u,h⟩ | ⟨w,h,hw⟩
 ·rw [h]
  simp only [if_true]
  exact XS a b i j d _ _
 ·rw [h]
  simp only [hw,if_false]
/-- -1, 0 or 1, turned round with its arguments, and a chain decides by its least. -/
structure Wk3 {α:Type} (f:α->α->Int):Prop where
 v:∀ a b,f a b = -1\/f a b=0\/f a b=1
 s:∀ a b,f a b = - f b a
 t:∀ a b c,f a b<=0->f b c<=0->f a c=min (f a b) (f b c)
theorem PR {α:Type}(k:α->Int):Wk3 (fun a b=>KC (k a) (k b)):=by
 refine ⟨fun a b=>?_,fun a b=>?_,fun a b c h1 h2=>?_⟩
 ·unfold KC; split
  ·exact .inl rfl
  ·split
   ·exact .inr (.inr rfl)
   ·exact .inr (.inl rfl)
 ·unfold KC; split <;> split <;> first | rfl | omega | (split <;> first | rfl | omega)
 ·(try dsimp only at h1 h2 ⊢)
  unfold KC at *
  split at h1 <;> split at h2 <;> first | (split at h1 <;> first | omega | skip) | skip
  all_goals first | (split at h2 <;> first | omega | skip) | skip
  all_goals (split <;> first | omega | skip)
  all_goals first | rfl | omega | (split <;> first | rfl | omega)
theorem RC:∀ (x:List UInt8),Go.Op.bytesLess x x=false
 | []=>rfl
 | a::x=>by
  show (decide (a < a)||(a==a&&Go.Op.bytesLess x x))=false
  rw [RC x]; simp
theorem Oi:∀ (x y z:List UInt8),Go.Op.bytesLess x y=true->Go.Op.bytesLess y z=true->Go.Op.bytesLess x z=true
 | x,[],_,h,_=>by cases x <;> cases h
 | _,_::_,[],_,h=>by cases h
 | [],_::_,_::_,_,_=>rfl
 | a::x,b::y,c::z,h1,h2=>by
  have h1':(decide (a < b)||(a==b&&Go.Op.bytesLess x y))=true:=h1
  have h2':(decide (b < c)||(b==c&&Go.Op.bytesLess y z))=true:=h2
  show (decide (a < c)||(a==c&&Go.Op.bytesLess x z))=true
  simp only [Bool.or_eq_true,Bool.and_eq_true,decide_eq_true_eq,beq_iff_eq] at h1' h2' ⊢
  rcases h1' with q1 | ⟨rfl,q1⟩ <;> rcases h2' with q2 | ⟨rfl,q2⟩
  ·exact .inl (UInt8.lt_trans q1 q2)
  ·exact .inl q1
  ·exact .inl q2
  ·exact .inr ⟨rfl,Oi x y z q1 q2⟩
theorem WK {α:Type}(k:α->List UInt8):Wk3 (fun a b=>Se (k a) (k b)):=by
 have val:∀ x y:List UInt8,(Go.Op.bytesLess x y=true/\Se x y = -1)\/(x=y/\Se x y=0)\/(Go.Op.bytesLess y x=true/\Se x y=1):=fun x y=>by
  unfold Se
  cases h:Go.Op.bytesLess x y with
  | true=>exact .inl ⟨rfl,rfl⟩
  | false =>
   have:=RD x y h
   cases he:(x==y) with
   | true=>exact .inr (.inl ⟨by simpa using he,rfl⟩)
   | false=>exact .inr (.inr ⟨by rw [this,he]; rfl,rfl⟩)
 have asy:∀ x y:List UInt8,Go.Op.bytesLess x y=true->Go.Op.bytesLess y x=true->False:=fun x y h1 h2=>by
  have:=Oi x y x h1 h2
  rw [RC] at this
  cases this
 refine ⟨fun a b=>?_,fun a b=>?_,fun a b c h1 h2=>?_⟩
 ·rcases val (k a) (k b) with ⟨_,h⟩ | ⟨_,h⟩ | ⟨_,h⟩
  ·exact .inl h
  ·exact .inr (.inl h)
  ·exact .inr (.inr h)
 ·(try dsimp only)
  rcases val (k a) (k b) with ⟨p,h⟩ | ⟨p,h⟩ | ⟨p,h⟩ <;> rcases val (k b) (k a) with ⟨q,g⟩ | ⟨q,g⟩ | ⟨q,g⟩ <;> rw [h,g] <;> first | rfl | (exfalso; first | exact asy _ _ p q | (rw [q,RC] at p; cases p) | (rw [p,RC] at q; cases q))
 ·(try dsimp only at h1 h2 ⊢)
  rcases val (k a) (k b) with ⟨p,h⟩ | ⟨p,h⟩ | ⟨p,h⟩ <;> rcases val (k b) (k c) with ⟨q,g⟩ | ⟨q,g⟩ | ⟨q,g⟩ <;> first | (rw [h] at h1; exact absurd h1 (by decide)) | (rw [g] at h2; exact absurd h2 (by decide)) | skip
  ·rw [h,g]
   have:=Oi _ _ _ p q
   unfold Se
   rw [if_pos this]; rfl
  ·rw [h,g,<-q,h]; rfl
  ·rw [h,g,p,g]; rfl
  ·rw [h,g,p,g]; rfl
theorem U0 {α:Type}(y:Bool) (k:α->Int):Wk3 (fun a b=>snc y (k a) (k b)):=by
 have val:∀ s t:Int,snc y s t=if s=0 then (if t=0 then 0 else 1) else if t=0 then -1 else if y=true then KC t s else KC s t:=fun s t=>by
  rw [XU]
  unfold KC
  by_cases hs:s=0 <;> by_cases ht:t=0
  ·simp [hs,ht]
  ·simp [hs,ht]
  ·simp [hs,ht]
  ·cases y <;> simp [hs,ht]
 refine ⟨fun a b=>?_,fun a b=>?_,fun a b c h1 h2=>?_⟩
 ·(try dsimp only)
  rw [val]
  unfold KC
  split
  ·split
   ·exact .inr (.inl rfl)
   ·exact .inr (.inr rfl)
  ·split
   ·exact .inl rfl
   ·split <;> (split; · exact .inl rfl) <;> (split; · exact .inr (.inr rfl)) <;> exact .inr (.inl rfl)
 ·(try dsimp only)
  rw [val,val]
  unfold KC
  cases y <;> simp only [if_true,if_false,Bool.false_eq_true] <;> (repeat' split) <;> first | rfl | omega
 ·(try dsimp only at h1 h2 ⊢)
  rw [val] at h1 h2
  rw [val,val,val]
  unfold KC at *
  cases y <;> simp only [if_true,if_false,Bool.false_eq_true] at h1 h2 ⊢ <;> (repeat' split at h1) <;> (repeat' split at h2) <;> first | omega | ((repeat' split) <;> first | rfl | omega)
/-- A second order where a first one ties. -/
theorem Xi {α:Type}{f g:α->α->Int}(hf:Wk3 f) (gv:∀ a b,g a b = -1\/g a b=0\/g a b=1) (gs:∀ a b,g a b = - g b a)
  (gt:∀ a b c,f a b=0->f b c=0->g a b<=0->g b c<=0->g a c=min (g a b) (g b c)):Wk3 (fun a b=>if f a b=0 then g a b else f a b):=by
 refine ⟨fun a b=>?_,fun a b=>?_,fun a b c h1 h2=>?_⟩
 ·show (if f a b=0 then g a b else f a b) = -1\/_
  split
  ·exact gv a b
  ·exact hf.v a b
 ·show (if f a b=0 then g a b else f a b) = - (if f b a=0 then g b a else f b a)
  have:=hf.s a b
  by_cases h:f b a=0
  ·rw [if_pos h,if_pos (by omega)]; exact gs a b
  ·rw [if_neg h,if_neg (by omega)]; exact this
 ·have h1':(if f a b=0 then g a b else f a b)<=0:=h1
  have h2':(if f b c=0 then g b c else f b c)<=0:=h2
  show (if f a c=0 then g a c else f a c)=min (if f a b=0 then g a b else f a b) (if f b c=0 then g b c else f b c)
  have ab:=hf.v a b
  have bc:=hf.v b c
  have gab:=gv a b
  have gbc:=gv b c
  by_cases x:f a b=0 <;> by_cases y:f b c=0
  ·have:=hf.t a b c (by omega) (by omega)
   rw [if_pos x] at h1' ⊢
   rw [if_pos y] at h2' ⊢
   rw [if_pos (by omega)]
   exact gt a b c x y h1' h2'
  ·rw [if_pos x] at h1' ⊢
   rw [if_neg y] at h2' ⊢
   have:=hf.t a b c (by omega) (by omega)
   rw [if_neg (by omega)]
   omega
  ·rw [if_neg x] at h1' ⊢
   rw [if_pos y] at h2' ⊢
   have:=hf.t a b c (by omega) (by omega)
   rw [if_neg (by omega)]
   omega
  ·rw [if_neg x] at h1' ⊢
   rw [if_neg y] at h2' ⊢
   have:=hf.t a b c (by omega) (by omega)
   rw [if_neg (by omega)]
   omega
/-- A guest at a place of the row. -/
abbrev At:={ p:Aw×Int // Px p.2=true }
theorem Xj (x:AE):Wk3 (fun a b:At=>NI x a.1.1 b.1.1 a.1.2 b.1.2):=by
 have e:(fun a b:At=>NI x a.1.1 b.1.1 a.1.2 b.1.2)=fun a b:At =>
   if (x.1==1)=true then KC (rk x.2.2.2.1 a.1.1.2.1) (rk x.2.2.2.1 b.1.1.2.1) else
   if (x.1==2)=true then snc false a.1.1.2.2.2.1 b.1.1.2.2.2.1 else
   if (x.1==3)=true then snc true a.1.1.2.2.2.1 b.1.1.2.2.2.1 else
   if (x.1==8)=true then Se a.1.1.1 b.1.1.1 else
   if (x.1==9)=true then KC a.1.2 b.1.2 else
   if (x.1==10)=true then KC (kyI a.1.2 x.2.2.2.2) (kyI b.1.2 x.2.2.2.2) else
   KC (nv x a.1.1) (nv x b.1.1):=by
  funext a b
  unfold NI
  rw [a.2,b.2]
  simp only [Bool.not_true,Bool.or_self,Bool.false_eq_true,if_false]
 rw [e]
 by_cases h1:(x.1==1)=true
 ·simp only [h1,if_true]; exact PR (fun a:At=>rk x.2.2.2.1 a.1.1.2.1)
 by_cases h2:(x.1==2)=true
 ·simp only [h1,h2,if_true,if_false,Bool.false_eq_true]; exact U0 false (fun a:At=>a.1.1.2.2.2.1)
 by_cases h3:(x.1==3)=true
 ·simp only [h1,h2,h3,if_true,if_false,Bool.false_eq_true]; exact U0 true (fun a:At=>a.1.1.2.2.2.1)
 by_cases h8:(x.1==8)=true
 ·simp only [h1,h2,h3,h8,if_true,if_false,Bool.false_eq_true]; exact WK (fun a:At=>a.1.1.1)
 by_cases h9:(x.1==9)=true
 ·simp only [h1,h2,h3,h8,h9,if_true,if_false,Bool.false_eq_true]; exact PR (fun a:At=>a.1.2)
 by_cases h10:(x.1==10)=true
 ·simp only [h1,h2,h3,h8,h9,h10,if_true,if_false,Bool.false_eq_true]; exact PR (fun a:At=>kyI a.1.2 x.2.2.2.2)
 ·simp only [h1,h2,h3,h8,h9,h10,if_false,Bool.false_eq_true]; exact PR (fun a:At=>nv x a.1.1)
theorem TS (s:List UInt8):∀ (l:List (List UInt8)) (i:Nat),i<=rkN s l i
 | [],i=>Nat.le_refl i
 | v::r,i=>by
  unfold rkN
  split
  ·exact Nat.le_refl i
  ·have:=TS s r (i + 1); omega
theorem Qr (s t:List UInt8):∀ (l:List (List UInt8)) (i:Nat),Me l s=true->rkN s l i=rkN t l i->t=s
 | [],_,h,_=>by cases h
 | v::r,i,h,e=>by
  have h':((s==v)||Me r s)=true:=h
  unfold rkN at e
  by_cases hs:(s==v)=true
  ·rw [if_pos hs] at e
   by_cases ht:(t==v)=true
   ·rw [beq_iff_eq] at hs ht; rw [hs,ht]
   ·rw [if_neg ht] at e
    have:=TS t r (i + 1)
    omega
  ·rw [if_neg hs] at e
   by_cases ht:(t==v)=true
   ·rw [if_pos ht] at e
    have:=TS s r (i + 1)
    omega
   ·rw [if_neg ht] at e
    have h2:Me r s=true:=by
     cases hq:(s==v) with
     | true=>exact absurd hq hs
     | false=>rwa [hq,Bool.false_or] at h'
    exact Qr s t r (i + 1) h2 e
theorem YV {x:AE}(h:fm x=true) (hk:(x.1==1)=true):x.2.1=[]:=by
 unfold fm A1 at h
 rw [if_pos hk] at h
 cases hb:BZ (x.2.2.2.1.length:Int) 1 16 with
 | none=>rw [hb] at h; cases h
 | some v =>
  rw [hb,OS] at h
  cases v with
  | false=>cases h
  | true =>
   by_cases h2:(x.2.2.2.2==0)=true
   ·by_cases h3:(!x.2.2.1)=true
    ·rw [if_pos rfl,if_pos h2,if_pos h3] at h
     simpa using h
    ·rw [if_pos rfl,if_pos h2,if_neg h3] at h; cases h
   ·rw [if_pos rfl,if_neg h2] at h; cases h
theorem Wu {pre:List AE}{x:AE}(h:chk pre x=0):fm x=true:=by
 unfold chk at h
 split at h
 ·cases h
 ·next h1=>simpa using h1
theorem Wt {pre:List AE}{x:AE}(h:chk pre x=0):x.2.1=[]\/Gd pre x.2.1=true:=by
 unfold chk at h
 split at h
 ·cases h
 split at h
 ·cases h
 split at h
 ·cases h
 split at h
 ·next h4=>exact h4
 ·cases h
theorem Pv:∀ (c pre:List AE),IE pre c->∀ x ∈ c,fm x=true
 | y::r,pre,h,x,hx=>by
  rcases List.mem_cons.1 hx with e | e
  ·rw [e]; exact Wu h.1
  ·exact Pv r _ h.2 x e
/-- Ties of a text tie every clause of it. -/
theorem Sg (a b:Aw) (i j:Int):∀ (c:List AE) (k:Nat),rsn a b i j c k = .inl ()->∀ x ∈ c,dir x a b i j=0
 | y::r,k,h,x,hx=>by
  rw [KH] at h
  by_cases q:dir y a b i j=0
  ·rw [if_pos q] at h
   rcases List.mem_cons.1 hx with e | e
   ·rw [e]; exact q
   ·exact Sg a b i j r (k + 1) h x e
  ·rw [if_neg q] at h; cases h
theorem Tv {c:List AE}{a b:Aw}{i j:Int}(h:PY c a b i j=0):∀ x ∈ c,dir x a b i j=0:=by
 rw [Ke] at h
 rcases TU a b i j c 0 with ⟨u,e⟩ | ⟨w,e,hw⟩
 ·exact Sg a b i j c 0 e
 ·rw [e] at h; exact absurd h hw
theorem Wx {x y:Int}(h:KC x y=0):x=y:=by
 unfold KC at h
 split at h
 ·cases h
 split at h
 ·cases h
 ·omega
/-- A text that ranks a rank ties nobody of it with anybody of another rank. -/
theorem Rn {c:List AE}{s:List UInt8}(hc:∀ x ∈ c,fm x=true) (hr:Gd c s=true){a b:Aw}{i j:Int}(h:PY c a b i j=0):(a.2.1==s)=(b.2.1==s):=by
 unfold Gd at hr
 obtain ⟨y,hy,e⟩:=List.any_eq_true.1 hr
 rw [Bool.and_eq_true] at e
 have hd:=Tv h y hy
 have ham:=YV (hc y hy) e.1
 unfold dir amB at hd
 rw [ham,if_neg (by simp)] at hd
 unfold NI at hd
 rw [if_pos e.1] at hd
 have hk:=Wx hd
 unfold rk at hk
 have hn:rkN a.2.1 y.2.2.2.1 0=rkN b.2.1 y.2.2.2.1 0:=by omega
 by_cases ha:a.2.1=s
 ·have hb:=Qr a.2.1 b.2.1 _ 0 (by rw [ha]; exact e.2) hn
  rw [hb]
 ·by_cases hb:b.2.1=s
  ·have:=Qr b.2.1 a.2.1 _ 0 (by rw [hb]; exact e.2) hn.symm
   exact absurd (this.trans hb) ha
  ·rw [beq_eq_false_iff_ne.2 ha,beq_eq_false_iff_ne.2 hb]
theorem Wo (x:AE) (a b:Aw):amB x a b=amB x b a:=by
 unfold amB
 cases (x.2.1==[]) <;> cases (a.2.1==x.2.1) <;> cases (b.2.1==x.2.1) <;> rfl
theorem VH (x:AE) (a b:Aw) (i j:Int):PY [x] a b i j=dir x a b i j:=by
 rw [Ke,KH]
 by_cases h:dir x a b i j=0
 ·rw [if_pos h,h]; rfl
 ·rw [if_neg h]
theorem Tc:∀ (c pre:List AE),IE [] (pre++c)->Wk3 (fun a b:At=>PY pre a.1.1 b.1.1 a.1.2 b.1.2)->Wk3 (fun a b:At=>PY (pre++c) a.1.1 b.1.1 a.1.2 b.1.2)
 | [],pre,_,h=>by rw [List.append_nil]; exact h
 | x::r,pre,hg,h=>by
  have e:pre++x::r=(pre++[x])++r:=by simp
  rw [e] at hg ⊢
  refine Tc r (pre++[x]) hg ?_
  have hgx:=(K9 (pre++[x]) [] r).1 hg
  have hp:=(K9 pre [] [x]).1 hgx.1
  have hchk:chk pre x=0:=by simpa using hp.2.1
  have hfm:=Pv pre [] hp.1
  have ho:=Xj x
  have hx:(fun a b:At=>PY (pre++[x]) a.1.1 b.1.1 a.1.2 b.1.2)=fun a b:At=>if PY pre a.1.1 b.1.1 a.1.2 b.1.2=0 then dir x a.1.1 b.1.1 a.1.2 b.1.2 else PY pre a.1.1 b.1.1 a.1.2 b.1.2:=by
   funext a b
   rw [VG,VH]
  rw [hx]
  refine Xi h (fun a b=>?_) (fun a b=>?_) (fun a b c h1 h2=>?_)
  ·unfold dir
   split
   ·exact .inr (.inl rfl)
   ·exact ho.v a b
  ·unfold dir
   rw [Wo x b.1.1 a.1.1]
   split
   ·rfl
   ·exact ho.s a b
  ·unfold dir
   rcases Wt hchk with ha | ha
   ·have q:∀ u v:Aw,amB x u v=false:=fun u v=>by unfold amB; rw [ha]; rfl
    rw [q,q,q,if_neg (by decide),if_neg (by decide),if_neg (by decide)]
    exact ho.t a b c
   ·have t1:=Rn hfm ha h1
    have t2:=Rn hfm ha h2
    unfold amB
    rw [<-t2,<-t1]
    cases (!(x.2.1==[]))
    ·exact ho.t a b c
    ·cases (a.1.1.2.1==x.2.1)
     ·intro _ _; rfl
     ·exact ho.t a b c
theorem Uf (c:List AE) (hg:IE [] c):Wk3 (fun a b:At=>PY c a.1.1 b.1.1 a.1.2 b.1.2) :=
 Tc c [] hg ⟨fun _ _=> .inr (.inl rfl),fun _ _=>rfl,fun _ _ _ _ _=>rfl⟩
/- trestle/court.table -/
/- trestle/trestleref03.Goes -/
/- trestle/trestleref03.votes -/
/- trestle/trestleref03.Votes -/
/- trestle/trestleref03.Valid -/
/- trestle/trestleref03.AllValid -/
/-- A loop whose states are known. -/
theorem Ys {σ ρ:Type}(n:Nat) (S:Nat->σ) (R:Option ρ) (L:Nat->Int->σ->Option ρ) (hn:n<=1000000) (hs:∀ i,i < n->∀ f,L (f + 1) (i:Int) (S i)=L f (wr .i64 ((i:Int) + 1)) (S (i + 1))) (he:∀ f,L (f + 1) (n:Int) (S n)=R):∀ (d i f:Nat),i + d=n->d < f->L f (i:Int) (S i)=R
 | 0,i,f + 1,e,_=>by
  rw [show i=n by omega]
  exact he f
 | d + 1,i,f + 1,e,hf=>by
  rw [hs i (by omega) f,QK (by omega) (by omega),show ((i:Int) + 1)=((i + 1:Nat):Int) by omega]
  exact Ys n S R L hn hs he d (i + 1) f (by omega) (by omega)
theorem VJ {σ ρ:Type}(n:Nat) (S:Nat->σ) (R:Option ρ) (L:Nat->Int->σ->Option ρ) (hn:n<=99999) (hs:∀ i,i < n->∀ f,L (f + 1) (i:Int) (S i)=L f (wr .i64 ((i:Int) + 1)) (S (i + 1))) (he:∀ f,L (f + 1) (n:Int) (S n)=R):L 100000 0 (S 0)=R :=
 Ys n S R L (by omega) hs he n 0 100000 (by omega) (by omega)
theorem Wy {σ ρ:Type}(n lo:Nat) (S:Nat->σ) (R:Option ρ) (L:Nat->Int->σ->Option ρ) (hn:n<=1000000) (hs:∀ i,lo<=i->i < n->∀ f,L (f + 1) (i:Int) (S i)=L f (wr .i64 ((i:Int) + 1)) (S (i + 1))) (he:∀ f,L (f + 1) (n:Int) (S n)=R):∀ (d i f:Nat),lo<=i->i + d=n->d < f->L f (i:Int) (S i)=R
 | 0,i,f + 1,_,e,_=>by
  rw [show i=n by omega]
  exact he f
 | d + 1,i,f + 1,hi,e,hf=>by
  rw [hs i hi (by omega) f,QK (by omega) (by omega),show ((i:Int) + 1)=((i + 1:Nat):Int) by omega]
  exact Wy n lo S R L hn hs he d (i + 1) f (by omega) (by omega) (by omega)
/-- A valid text, as it is checked. -/
theorem Pg (c:List AE):∀ (r pre:List AE),c=pre++r->(∃ u,RF c r pre.length = .inl u)->IE pre r
 | [],_,_,_=>trivial
 | x::r,pre,e,⟨u,h⟩=>by
  unfold RF at h
  rw [show c.take pre.length=pre by rw [e]; simp] at h
  by_cases hx:chk pre x=0
  ·rw [if_neg (by simpa using hx)] at h
   exact ⟨hx,Pg c r (pre++[x]) (by rw [e]; simp) ⟨u,by simpa using h⟩⟩
  ·rw [if_pos hx] at h; cases h
theorem Kt {c:List AE}(h:(On c).2=0):c.length<=32/\IE [] c:=by
 unfold On at h
 split at h
 ·cases h
 ·next hl =>
  refine ⟨by omega,Pg c c [] rfl ?_⟩
  rcases Om c c 0 with ⟨u,h1,_⟩ | ⟨w,h1,h2⟩
  ·exact ⟨u,h1⟩
  ·rw [h1] at h; exact absurd h h2
theorem UP (c:List AE) (h:few c):FL c=some (if (On c).2=0 then (c,true) else ([],false)):=by
 unfold FL
 rw [VD c h,OS]
 by_cases hv:(On c).2=0
 ·have e0:DM c 100000 [] 0=some c:=P2 c h (Nd hv) c [] 100000 rfl (by have:=h.1; omega)
  rw [if_neg (by simpa using hv),if_pos hv,e0]; rfl
 ·rw [if_pos (by simpa using hv),if_neg hv]
/-- Guests at their places. -/
def Gb:List Aw->Nat->List AP
 | [],_=>[]
 | g::r,i=>(g,(i:Int))::Gb r (i + 1)
theorem OQ:∀ (g:List Aw) (i:Nat),(Gb g i).length=g.length
 | [],_=>rfl
 | _::r,i=>by simp [Gb,OQ r (i + 1)]
theorem NK:∀ (g:List Aw) (x:Aw) (i:Nat),Gb (g++[x]) i=Gb g i++[(x,((i + g.length:Nat):Int))]
 | [],x,i=>by simp [Gb]
 | y::r,x,i=>by
  simp only [List.cons_append,Gb,NK r x (i + 1),List.length_cons]
  rw [show i + 1 + r.length=i + (r.length + 1) by omega]
theorem XF (g:List Aw) (h:g.length<=99999):Gp g=some (Gb g 0):=by
 unfold Gp
 have:Cq g 100000 [] 0=some (Gb g 0):=by
  have:=VJ (σ:=List AP) g.length (fun i=>Gb (g.take i) 0) (some (Gb g 0)) (fun f c s=>Cq g f s c) h (fun i hi f=>by
   show Cq g (f + 1) (Gb (g.take i) 0) (i:Int)=_
   conv=>lhs; unfold Cq
   rw [if_pos (by simp; omega),Jw hi,OS,if_pos (Hn (by omega) (by rw [OQ]; simp; omega))]
   have e:Gb (g.take (i + 1)) 0=Gb (g.take i) 0++[(g[i],(i:Int))]:=by
    rw [List.take_succ_eq_append_getElem hi,NK]; simp; omega
   show _=Cq g f (Gb (g.take (i + 1)) 0) _
   rw [e]) (fun f=>by
   show Cq g (f + 1) (Gb (g.take g.length) 0) (g.length:Int)=_
   conv=>lhs; unfold Cq
   rw [if_neg (by simp),List.take_length])
  exact this
 rw [this]; rfl
/-- What a text says of the guests at two places. -/
def dG:Aw:=([],[],[],0,0,[],false,false,[])
def gAt (g:List Aw) (x:Nat):Aw:=g.getD x dG
def cm (c:List AE) (g:List Aw) (x y:Nat):Int:=PY c (gAt g x) (gAt g y) (x:Int) (y:Int)
theorem W8 {x:Nat}(h:x < 64):Px (x:Int)=true:=by simp [Px]; omega
/-- Who sits in a row of at most 64. -/
abbrev Pl:={ x:Nat // x < 64 }
theorem Ue {c:List AE}(g:List Aw) (hg:IE [] c):Wk3 (fun a b:Pl=>cm c g a.1 b.1) :=
 let h:=Uf c hg
 let k:Pl->At:=fun a=>⟨(gAt g a.1,(a.1:Int)),W8 a.2⟩
 ⟨fun a b=>h.v (k a) (k b),fun a b=>h.s (k a) (k b),fun a b d=>h.t (k a) (k b) (k d)⟩
theorem Yr {c:List AE}{g:List Aw}(hg:IE [] c){x y:Nat}(hx:x < 64) (hy:y < 64):cm c g x y = -1\/cm c g x y=0\/cm c g x y=1:=(Ue g hg).v ⟨x,hx⟩ ⟨y,hy⟩
theorem Y1 {c:List AE}{g:List Aw}(hg:IE [] c){x y:Nat}(hx:x < 64) (hy:y < 64):cm c g x y = - cm c g y x:=(Ue g hg).s ⟨x,hx⟩ ⟨y,hy⟩
/-- Few guests, their places. -/
structure FewR (g:List Aw):Prop where
 n:g.length<=64
 f:∀ x ∈ g,Th x
theorem FewR.at_ {g:List Aw}(h:FewR g){x:Nat}(hx:x < g.length):Th (gAt g x):=h.f _ (by unfold gAt; rw [List.getD_eq_getElem?_getD,List.getElem?_eq_getElem hx]; exact List.getElem_mem hx)
theorem YY (g:List Aw){x:Nat}(hx:x < g.length):idx g (x:Int)=some (gAt g x):=by
 rw [Jw hx]; simp [gAt,hx]
section
variable {c:List AE}{g:List Aw}(hc:few c) (hv:(On c).2=0) (hg:FewR g)
include hc hv hg
theorem T6 {x y:Nat}(hx:x < g.length) (hy:y < g.length):∃ k,As c (gAt g x,(x:Int)) (gAt g y,(y:Int))=some (k,cm c g x y) :=
 ⟨_,VP c (gAt g x) (gAt g y) x y hc (Nd hv) (hg.at_ hx) (hg.at_ hy)⟩
/-- What a text adds to the table. -/
def dl (c:List AE) (g:List Aw) (x y:Nat):Int:=if cm c g x y = -1 then 1 else 0
def Y3 (M:Nat->Nat->Int) (c:List AE) (g:List Aw) (i k:Nat):Nat->Nat->Int:=fun x y=>M x y + if (x=i/\y < k)\/(y=i/\x < k) then dl c g x y else 0
end
section
variable {l:List (List AE)}{g:List Aw}(hl:∀ c ∈ l,few c) (hg:FewR g)
include hl hg
end
end Go.Proofs.YtlalcoehgkmhlaaGreatDoor
namespace Go.Proofs.YtlalcoehgkmhlaaGreatDoor
section
variable {α:Type}
/-- Groups of things that tie, each in the order of their places, each ahead of the later ones. -/
structure GL (f:α->α->Int) (p:α->Int) (L:List (List α)):Prop where
 ne:∀ g ∈ L,g≠[]
 tie:∀ g ∈ L,g.Pairwise fun a b=>p a < p b
 eq:∀ g ∈ L,∀ a ∈ g,∀ b ∈ g,f a b=0
 lt:L.Pairwise fun g h=>∀ a ∈ g,∀ b ∈ h,f a b = -1
theorem YA {f:α->α->Int}{p:α->Int}{g:List α}{L:List (List α)}(h:GL f p (g::L)):GL f p L :=
 ⟨fun x hx=>h.ne x (List.mem_cons_of_mem _ hx),fun x hx=>h.tie x (List.mem_cons_of_mem _ hx),fun x hx=>h.eq x (List.mem_cons_of_mem _ hx),(List.pairwise_cons.1 h.lt).2⟩
end
/-- What a text says of two places, as a weak order of all numbers. -/
def fN (c:List AE) (g:List Aw) (x y:Nat):Int:=if x < 64 then (if y < 64 then cm c g x y else -1) else if y < 64 then 1 else 0
theorem VO {c:List AE}{g:List Aw}{x y:Nat}(hx:x < 64) (hy:y < 64):fN c g x y=cm c g x y:=by unfold fN; rw [if_pos hx,if_pos hy]
theorem X1 {c:List AE}(g:List Aw) (hg:IE [] c):Wk3 (fN c g):=by
 refine ⟨fun a b=>?_,fun a b=>?_,fun a b d h1 h2=>?_⟩
 ·unfold fN
  split <;> split <;> first | exact Yr hg ‹_› ‹_› | omega
 ·unfold fN
  by_cases ha:a < 64 <;> by_cases hb:b < 64 <;> simp only [ha,hb,if_true,if_false] <;> first | exact Y1 hg ha hb | rfl
 ·have:=(Ue g hg).t
  by_cases ha:a < 64 <;> by_cases hb:b < 64 <;> by_cases hd:d < 64 <;> simp only [fN,ha,hb,hd,if_true,if_false] at h1 h2 ⊢ <;> first | exact (Ue g hg).t ⟨a,ha⟩ ⟨b,hb⟩ ⟨d,hd⟩ h1 h2 | omega | (have:=Yr (g:=g) hg ha hb; omega)
/-- Before, or tied and at an earlier place. -/
def ltN (f:Nat->Nat->Int) (x y:Nat):Prop:=f x y = -1\/(f x y=0/\x < y)
/-- One more is laid into its place, from the end on. -/
def RR (f:Nat->Nat->Int) (x:Nat):List Nat->List Nat->List Nat
 | [],b=>x::b
 | y::a,b=>if f x y < 0 then RR f x a (y::b) else (y::a).reverse++x::b
theorem RT {f:Nat->Nat->Int}(x z:Nat):∀ (a b:List Nat),z ∈ RR f x a b↔z=x\/z ∈ a\/z ∈ b
 | [],b=>by simp [RR]
 | y::a,b=>by
  unfold RR
  split
  ·rw [RT x z a (y::b)]
   simp only [List.mem_cons]
   constructor
   ·rintro (h | h | h | h)
    ·exact .inl h
    ·exact .inr (.inl (.inr h))
    ·exact .inr (.inl (.inl h))
    ·exact .inr (.inr h)
   ·rintro (h | (h | h) | h)
    ·exact .inl h
    ·exact .inr (.inr (.inl h))
    ·exact .inr (.inl h)
    ·exact .inr (.inr (.inr h))
  ·simp only [List.mem_append,List.mem_reverse,List.mem_cons]
   constructor
   ·rintro (h | h | h)
    ·exact .inr (.inl h)
    ·exact .inl h
    ·exact .inr (.inr h)
   ·rintro (h | h | h)
    ·exact .inr (.inl h)
    ·exact .inl h
    ·exact .inr (.inr h)
theorem RS {f:Nat->Nat->Int}(x:Nat):∀ (a b:List Nat),(RR f x a b).length=a.length + b.length + 1
 | [],b=>by simp [RR]
 | y::a,b=>by
  unfold RR
  split
  ·rw [RS x a (y::b)]; simp; omega
  ·simp; omega
/-- Insertion sort. -/
def LA (f:Nat->Nat->Int) (l:List Nat):List Nat:=l.foldl (fun acc x=>RR f x acc.reverse []) []
theorem LB {f:Nat->Nat->Int}(l:List Nat) (x:Nat):LA f (l++[x])=RR f x (LA f l).reverse []:=by
 unfold LA; rw [List.foldl_append]; rfl
theorem PH {α:Type}{P:List α->Prop}(h0:P []) (h1:∀ l x,P l->P (l++[x])) (l:List α):P l:=by
 have:∀ r:List α,P r.reverse:=by
  intro r
  induction r with
  | nil=>exact h0
  | cons x r ih=>rw [List.reverse_cons]; exact h1 _ _ ih
 simpa using this l.reverse
theorem Mf {f:Nat->Nat->Int}(z:Nat) (l:List Nat):z ∈ LA f l↔z ∈ l:=by
 refine PH (P:=fun l=>z ∈ LA f l↔z ∈ l) (by simp [LA]) (fun l x ih=>?_) l
 rw [LB,RT]
 simp [ih,or_comm]
theorem Ox {f:Nat->Nat->Int}(l:List Nat):(LA f l).length=l.length:=by
 refine PH (P:=fun l=>(LA f l).length=l.length) (by simp [LA]) (fun l x ih=>?_) l
 rw [LB,RS]
 simp [ih]
section
variable {f:Nat->Nat->Int}(hf:Wk3 f)
include hf
theorem S7 {x y z:Nat}(h1:ltN f x y) (h2:ltN f y z):ltN f x z:=by
 have:=hf.t x y z (by rcases h1 with h | h <;> omega) (by rcases h2 with h | h <;> omega)
 unfold ltN
 rcases h1 with h1 | h1 <;> rcases h2 with h2 | h2 <;> omega
theorem M7 (x:Nat):∀ (a b:List Nat),(a.reverse++b).Pairwise (ltN f)->(∀ y ∈ b,f x y = -1)->(∀ y ∈ a,y < x)->(RR f x a b).Pairwise (ltN f)
 | [],b,h,hb,_=>by
  unfold RR
  exact List.pairwise_cons.2 ⟨fun y hy=> .inl (hb y hy),by simpa using h⟩
 | y::a,b,h,hb,ha=>by
  unfold RR
  by_cases hxy:f x y < 0
  ·rw [if_pos hxy]
   have e:f x y = -1:=by have:=hf.v x y; omega
   refine M7 x a (y::b) (by simpa using h) (fun z hz=>?_) fun z hz=>ha z (List.mem_cons_of_mem _ hz)
   rcases List.mem_cons.1 hz with rfl | hz
   ·exact e
   ·exact hb z hz
  ·rw [if_neg hxy]
   have hyx:ltN f y x:=by
    have:=hf.s x y
    have:=hf.v x y
    have:=ha y (by simp)
    unfold ltN; omega
   rw [List.pairwise_append] at h ⊢
   obtain ⟨h1,h2,h3⟩:=h
   refine ⟨h1,List.pairwise_cons.2 ⟨fun z hz=> .inl (hb z hz),h2⟩,fun z hz w hw=>?_⟩
   rcases List.mem_cons.1 hw with rfl | hw
   ·rw [List.reverse_cons] at h1 hz
    rcases List.mem_append.1 hz with hz | hz
    ·exact S7 hf ((List.pairwise_append.1 h1).2.2 z hz y (by simp)) hyx
    ·simp at hz; subst hz; exact hyx
   ·exact h3 z hz w hw
theorem Qc (l:List Nat):l.Pairwise (fun a b=>a < b)->(LA f l).Pairwise (ltN f):=by
 refine PH (P:=fun l=>l.Pairwise (fun a b=>a < b)->(LA f l).Pairwise (ltN f)) (fun _=>by simp [LA]) (fun l x ih h=>?_) l
 obtain ⟨h1,_,h3⟩:=List.pairwise_append.1 h
 rw [LB]
 refine M7 hf x _ [] (by simpa using ih h1) (fun y hy=>by cases hy) fun y hy=>?_
 exact h3 y ((Mf y l).1 (List.mem_reverse.1 hy)) x (by simp)
end
/-- Guests by their places. -/
def sd (g:List Aw) (x:Nat):AP:=(gAt g x,(x:Int))
def sdL (g:List Aw) (l:List Nat):List AP:=l.map (sd g)
theorem Qs (g:List Aw) (a b:List Nat):sdL g (a++b)=sdL g a++sdL g b:=List.map_append
theorem Mm (g:List Aw) (x:Nat) (b:List Nat):sdL g (x::b)=sd g x::sdL g b:=rfl
theorem Il (g:List Aw) (a:List Nat):(sdL g a).length=a.length:=List.length_map _
theorem Qv {α:Type}(p:List α) (v w:α) (r:List α):(p++v::r).set p.length w=p++w::r:=by simp
theorem P3 (g:List Aw):∀ (r:List Aw) (p:List Aw),g=p++r->Gb r p.length=sdL g ((List.range' p.length r.length))
 | [],_,_=>rfl
 | x::r,p,e=>by
  have:=P3 g r (p++[x]) (by rw [e]; simp)
  simp only [List.length_append,List.length_cons,List.length_nil,Nat.zero_add] at this
  simp only [Gb,this,List.length_cons,List.range'_succ,Mm]
  congr 1
  unfold sd gAt
  rw [e]; simp
theorem SF (g:List Aw):Gb g 0=sdL g (List.range g.length):=by
 have:=P3 g g [] rfl
 rw [List.range_eq_range']
 exact this
section
variable {c:List AE}{g:List Aw}(hc:few c) (hv:(On c).2=0) (hg:FewR g)
include hc hv hg
theorem Ur {x y:Nat}(hx:x < g.length) (hy:y < g.length):Co (sd g x) (sd g y) c=some (fN c g x y):=by
 have hn:=hg.n
 obtain ⟨k,h⟩:=T6 hc hv hg hx hy
 unfold Co
 rw [show sd g x=(gAt g x,(x:Int)) from rfl,show sd g y=(gAt g y,(y:Int)) from rfl,h,VO (by omega) (by omega)]; rfl
theorem Ut (x:Nat) (hx:x < g.length) (rest:List Nat):∀ (a b:List Nat) (fu:Nat),(∀ y ∈ a,y < g.length)->a.length < fu->a.length<=1000->Al 0 c fu (a.length:Int) (sdL g (a.reverse++x::(b++rest)))=some (sdL g (RR (fN c g) x a b++rest))
 | [],b,fu + 1,_,_,_=>by
  unfold Al
  rw [if_neg (by simp),OS,if_neg (by simp)]; rfl
 | y::a,b,fu + 1,ha,hf,hl=>by
  have hy:=ha y (by simp)
  simp only [List.length_cons] at hf hl
  have e1:sdL g ((y::a).reverse++x::(b++rest))=(sdL g a.reverse++[sd g y])++sd g x::sdL g (b++rest):=by
   simp [sdL]
  have e2:(sdL g a.reverse++[sd g y])++sd g x::sdL g (b++rest)=sdL g a.reverse++sd g y::sd g x::sdL g (b++rest):=by simp
  have l1:(((y::a).length:Nat):Int)=(((sdL g a.reverse++[sd g y]).length:Nat):Int):=by simp [Il]
  have l2:wr .i64 ((((y::a).length:Nat):Int) - 1)=(((sdL g a.reverse).length:Nat):Int):=by
   rw [QK (by simp <;> omega) (by simp <;> omega)]; simp [Il]
  have i1:idx (sdL g ((y::a).reverse++x::(b++rest))) (((y::a).length:Nat):Int)=some (sd g x):=by rw [e1,l1,Ez]
  have i2:idx (sdL g ((y::a).reverse++x::(b++rest))) (wr .i64 ((((y::a).length:Nat):Int) - 1))=some (sd g y):=by rw [e1,e2,l2,Ez]
  have s1:(sdL g ((y::a).reverse++x::(b++rest))).set (((y::a).length:Nat):Int).toNat (sd g y)=sdL g a.reverse++sd g y::sd g y::sdL g (b++rest):=by
   rw [e1,l1,Int.toNat_natCast,Qv]; simp
  have i3:idx (sdL g a.reverse++sd g y::sd g y::sdL g (b++rest)) (wr .i64 ((((y::a).length:Nat):Int) - 1))=some (sd g y):=by rw [l2,Ez]
  have s2:(sdL g a.reverse++sd g y::sd g y::sdL g (b++rest)).set (wr .i64 ((((y::a).length:Nat):Int) - 1)).toNat (sd g x)=sdL g (a.reverse++x::((y::b)++rest)):=by
   rw [l2,Int.toNat_natCast,Qv]; simp [Qs,Mm]
  unfold Al
  rw [if_pos (by simp <;> omega),i1,OS,i2,OS,Ur hc hv hg hx hy,OS,OS]
  unfold RR
  by_cases h:fN c g x y < 0
  ·rw [if_pos (by simpa using h),if_pos h,OS,OS,OS,s1,i3,OS,s2,l2,Il,List.length_reverse]
   exact Ut x hx rest a (y::b) fu (fun z hz=>ha z (List.mem_cons_of_mem _ hz)) (by omega) (by omega)
  ·rw [if_neg (by simpa using h),if_neg h]
   congr 2
   simp
theorem Ya (ns:List Nat) (hns:∀ x ∈ ns,x < g.length) (hl:ns.length<=1000):Ad (sdL g ns) 0 (ns.length:Int) c=some (sdL g (LA (fN c g) ns),c):=by
 have hin:AK 0 (ns.length:Int) c 100000 (wr .i64 (0 + 1)) (sdL g ns)=some (sdL g (LA (fN c g) ns)):=by
  rw [show wr .i64 (0 + 1)=((1:Nat):Int) from rfl]
  cases hns0:ns with
  | nil =>
   unfold AK
   rw [if_neg (by simp)]; rfl
  | cons n0 nr =>
   rw [<-hns0]
   have hpos:1<=ns.length:=by rw [hns0]; simp
   have e0:sdL g (LA (fN c g) (ns.take 1)++ns.drop 1)=sdL g ns:=by rw [hns0]; rfl
   have h:=Wy (σ:=List AP) ns.length 1 (fun i=>sdL g (LA (fN c g) (ns.take i)++ns.drop i)) (some (sdL g (LA (fN c g) ns))) (fun f c1 s=>AK 0 (ns.length:Int) c f c1 s) (by omega) (fun i h1 hi f=>by
    show AK 0 (ns.length:Int) c (f + 1) (i:Int) (sdL g (LA (fN c g) (ns.take i)++ns.drop i))=_
    conv=>lhs; unfold AK
    have hil:((LA (fN c g) (ns.take i)).reverse.length:Int)=(i:Int):=by rw [List.length_reverse,Ox]; simp; omega
    have:=Ut hc hv hg ns[i] (hns _ (List.getElem_mem hi)) (ns.drop (i + 1)) (LA (fN c g) (ns.take i)).reverse [] 100000 (fun y hy=>hns y (List.mem_of_mem_take ((Mf y _).1 (List.mem_reverse.1 hy)))) (by omega) (by omega)
    rw [hil,List.reverse_reverse,List.nil_append,<-LB,<-List.take_succ_eq_append_getElem hi,<-List.drop_eq_getElem_cons hi] at this
    rw [if_pos (by simp; omega),this,OS]) (fun f=>by
    show AK 0 (ns.length:Int) c (f + 1) (ns.length:Int) (sdL g (LA (fN c g) (ns.take ns.length)++ns.drop ns.length))=_
    conv=>lhs; unfold AK
    rw [if_neg (by simp),List.take_length,List.drop_length,List.append_nil]) (ns.length - 1) 1 100000 (by omega) (by omega) (by omega)
   rw [<-e0]; exact h
 unfold Ad
 rw [hin]; rfl
theorem XV (ns:List Nat) (hns:∀ x ∈ ns,x < g.length) (hl:ns.length<=20):A2 (sdL g ns) c=some (sdL g (LA (fN c g) ns),c):=by
 have hi:=Ya hc hv hg ns hns (by omega)
 have e:Bd (sdL g ns) (ns.length:Int) c=some (sdL g (LA (fN c g) ns),c):=by
  unfold Bd
  have e2:BT (ns.length:Int) 100000=some ():=by
   unfold BT
   rw [if_neg (by simp; omega)]
  by_cases h20:ns.length=20
  ·have e1:Af (ns.length:Int) 100000 0 20 (sdL g ns) c=some (20,sdL g (LA (fN c g) ns),c):=by
    unfold Af
    rw [h20] at hi
    rw [if_pos (by rw [h20]; rfl),show ((20:Int))=((20:Nat):Int) from rfl,hi,OS]
    unfold Af
    rw [if_neg (by rw [h20]; show ¬ (false=true); decide)]
   have e3:Ad (sdL g (LA (fN c g) ns)) 20 (ns.length:Int) c=some (sdL g (LA (fN c g) ns),c):=by
    unfold Ad AK
    rw [if_neg (by rw [h20]; show ¬ (false=true); decide)]; rfl
   rw [e1,OS,e3,OS,e2]; rfl
  ·have e1:Af (ns.length:Int) 100000 0 20 (sdL g ns) c=some (0,sdL g ns,c):=by
    unfold Af
    rw [if_neg (by simp; omega)]
   rw [e1,OS,hi,OS,e2]; rfl
 unfold A2
 rw [Il,e]; rfl
end
theorem P9 {α:Type}(l:List α):l=[]\/∃ a x,l=a++[x]:=by
 refine PH (P:=fun l=>l=[]\/∃ a x,l=a++[x]) (.inl rfl) (fun l x _=> .inr ⟨l,x,rfl⟩) l
def pI (x:Nat):Int:=(x:Int)
def toG (l:List Nat):List Int:=l.map pI
def toI (L:List (List Nat)):List (List Int):=L.map toG
theorem Q0 (L M:List (List Nat)):toI (L++M)=toI L++toI M:=List.map_append
theorem Ko (L:List (List Nat)):(toI L).length=L.length:=List.length_map _
theorem Qz (L:List Nat):(toG L).length=L.length:=List.length_map _
section
variable {f:Nat->Nat->Int}{L:List (List Nat)}{gr:List Nat}{x:Nat}
theorem GL.snocNew (h:GL f pI L) (hx:f x x=0) (hn:∀ z ∈ L.flatten,f z x = -1):GL f pI (L++[[x]]):=by
 refine ⟨fun q hq=>?_,fun q hq=>?_,fun q hq=>?_,?_⟩
 ·rcases List.mem_append.1 hq with hq | hq
  ·exact h.ne q hq
  ·simp at hq; subst hq; simp
 ·rcases List.mem_append.1 hq with hq | hq
  ·exact h.tie q hq
  ·simp at hq; subst hq; simp
 ·rcases List.mem_append.1 hq with hq | hq
  ·exact h.eq q hq
  ·simp at hq; subst hq
   intro a ha b hb
   simp at ha hb; subst ha hb; exact hx
 ·refine List.pairwise_append.2 ⟨h.lt,by simp,fun q hq k hk a ha b hb=>?_⟩
  simp at hk; subst hk
  simp at hb; subst hb
  exact hn a (List.mem_flatten.2 ⟨q,hq,ha⟩)
theorem GL.snocIn (h:GL f pI (L++[gr])) (hx:f x x=0) (hg:∀ z ∈ gr,f z x=0/\f x z=0/\z < x) (hn:∀ q ∈ L,∀ z ∈ q,f z x = -1):GL f pI (L++[gr++[x]]):=by
 refine ⟨fun q hq=>?_,fun q hq=>?_,fun q hq=>?_,?_⟩
 ·rcases List.mem_append.1 hq with hq | hq
  ·exact h.ne q (List.mem_append_left _ hq)
  ·simp at hq; subst hq; simp
 ·rcases List.mem_append.1 hq with hq | hq
  ·exact h.tie q (List.mem_append_left _ hq)
  ·simp at hq; subst hq
   refine List.pairwise_append.2 ⟨h.tie gr (by simp),by simp,fun a ha b hb=>?_⟩
   simp at hb; subst hb
   have:=(hg a ha).2.2
   unfold pI; omega
 ·rcases List.mem_append.1 hq with hq | hq
  ·exact h.eq q (List.mem_append_left _ hq)
  ·simp at hq; subst hq
   intro a ha b hb
   have e:=h.eq gr (by simp)
   rcases List.mem_append.1 ha with h5 | h5 <;> rcases List.mem_append.1 hb with h6 | h6
   ·exact e a h5 b h6
   ·rw [show b=x by simpa using h6]; exact (hg a h5).1
   ·rw [show a=x by simpa using h5]; exact (hg b h6).2.1
   ·rw [show a=x by simpa using h5,show b=x by simpa using h6]; exact hx
 ·obtain ⟨h1,_,h3⟩:=List.pairwise_append.1 h.lt
  refine List.pairwise_append.2 ⟨h1,by simp,fun q hq k hk a ha b hb=>?_⟩
  simp at hk; subst hk
  rcases List.mem_append.1 hb with hb | hb
  ·exact h3 q hq gr (by simp) a ha b hb
  ·simp at hb; subst hb; exact hn q hq a ha
end
theorem Pw {α:Type}(p:List α) (v:α) (h:p.length<=1000000):idx (p++[v]) (wr .i64 (((p++[v]).length:Int) - 1))=some v:=by
 rw [QK (by simp <;> omega) (by simp <;> omega),show (((p++[v]).length:Int) - 1)=(p.length:Int) by simp,Ez]
theorem P8 {α:Type}(p:List α) (v w:α) (h:p.length<=1000000):(p++[v]).set (wr .i64 (((p++[v]).length:Int) - 1)).toNat w=p++[w]:=by
 rw [QK (by simp <;> omega) (by simp <;> omega),show (((p++[v]).length:Int) - 1)=(p.length:Int) by simp,Int.toNat_natCast,Qv]
section
variable {c:List AE}{g:List Aw}(hc:few c) (hv:(On c).2=0) (hg:FewR g)
include hc hv hg
theorem Us (ms:List Nat) (hs:ms.Pairwise (ltN (fN c g))) (hb:∀ x ∈ ms,x < g.length) (hl:ms.length<=1000):∀ (r pre:List Nat) (fu:Nat) (L:List (List Nat)),ms=pre++r->r.length < fu->L.flatten=pre->GL (fN c g) pI L->L.length<=pre.length->∃ L',CQ (sdL g ms,c) fu (pre.length:Int) (toI L)=some (toI L')/\L'.flatten=ms/\GL (fN c g) pI L'
 | [],pre,fu + 1,L,e,_,hf,hL,_=>by
  refine ⟨L,?_,by rw [hf,e]; simp,hL⟩
  unfold CQ
  rw [if_neg (by rw [e]; simp [Il])]
 | x::r,pre,fu + 1,L,e,hfu,hf,hL,hLl=>by
  have hw:=X1 g (Kt hv).2
  have hxx:fN c g x x=0:=by have:=hw.s x x; omega
  have hlen:ms.length=pre.length + r.length + 1:=by rw [e]; simp; omega
  simp only [List.length_cons] at hfu
  have hx:=hb x (by rw [e]; simp)
  have hlt:∀ z ∈ pre,ltN (fN c g) z x:=fun z hz=>by
   rw [e] at hs
   exact (List.pairwise_append.1 hs).2.2 z hz x (by simp)
  have hi:idx (sdL g ms) (pre.length:Int)=some (sd g x):=by
   rw [e,Qs,Mm,<-Il g pre,Ez]
  have hwr:wr .i64 ((pre.length:Int) + 1)=(((pre++[x]).length:Nat):Int):=Gy pre x r (by rw [<-e]; omega)
  have next:∀ L2:List (List Nat),L2.flatten=pre++[x]->GL (fN c g) pI L2->L2.length<=(pre++[x]).length->∃ L',CQ (sdL g ms,c) fu (wr .i64 ((pre.length:Int) + 1)) (toI L2)=some (toI L')/\L'.flatten=ms/\GL (fN c g) pI L':=fun L2 h1 h2 h3=>by
   rw [hwr]
   exact Us ms hs hb hl r (pre++[x]) fu L2 (by rw [e]; simp) (by omega) h1 h2 h3
  have new:(∀ z ∈ pre,fN c g z x = -1)->∀ j,(if (pre.length:Int)==0 then some true else (idx (sdL g ms) (wr .i64 ((pre.length:Int) - 1))).bind fun v25=>(Co v25 (sd g x) c).bind fun v28=>some (v28 != 0))=some j->j=true->∃ L',CQ (sdL g ms,c) (fu + 1) (pre.length:Int) (toI L)=some (toI L')/\L'.flatten=ms/\GL (fN c g) pI L':=fun hn j hj hjt=>by
   subst hjt
   obtain ⟨L',h1,h2⟩:=next (L++[[x]]) (by rw [List.flatten_append,hf]; simp) (hL.snocNew hxx (by rw [hf]; exact hn)) (by simp; omega)
   refine ⟨L',?_,h2⟩
   rw [<-h1]
   conv=>lhs; unfold CQ
   rw [if_pos (by simp [Il]; omega),hi,OS,hj,OS]
   unfold FK
   rw [if_pos rfl,if_pos (Hn (by omega) (by rw [Ko]; simp; omega)),OS,Pw _ _ (by rw [Ko]; omega),OS,if_pos (Hn (by omega) (by simp)),OS,P8 _ _ _ (by rw [Ko]; omega),Q0]
   rfl
  rcases P9 L with h0 | ⟨L0,gr,h0⟩
  ·subst h0
   have hp:pre=[]:=by rw [<-hf]; rfl
   subst hp
   exact new (fun z hz=>by cases hz) true (by simp) rfl
  ·subst h0
   rcases P9 gr with h1 | ⟨gr0,y,h1⟩
   ·exact absurd h1 (hL.ne gr (by simp))
   ·subst h1
    have hpre:pre=(L0.flatten++gr0)++[y]:=by rw [<-hf]; simp
    have hyp:y ∈ pre:=by rw [hpre]; simp
    have hy:=hb y (by rw [e]; exact List.mem_append_left _ hyp)
    have hprev:(if (pre.length:Int)==0 then some true else (idx (sdL g ms) (wr .i64 ((pre.length:Int) - 1))).bind fun v25=>(Co v25 (sd g x) c).bind fun v28=>some (v28 != 0))=some (fN c g y x != 0):=by
     have hpl:(pre.length:Int)=(((L0.flatten++gr0).length:Nat):Int) + 1:=by rw [hpre]; simp; omega
     have hp0:¬ (((pre.length:Int)==0)=true):=by simp; intro h; rw [h] at hyp; cases hyp
     have hii:idx (sdL g ms) (wr .i64 ((pre.length:Int) - 1))=some (sd g y):=by
      have q1:wr .i64 ((pre.length:Int) - 1)=((L0.flatten++gr0).length:Int):=by rw [QK (by omega) (by omega)]; omega
      have q2:ms=(L0.flatten++gr0)++y::(x::r):=by rw [e,hpre]; simp
      rw [q1,q2,Qs,Mm,<-Il g (L0.flatten++gr0),Ez]
     rw [if_neg hp0,hii,OS,Ur hc hv hg hy hx,OS]
    have hlyx:=hlt y hyp
    by_cases h0:fN c g y x=0
    ·have hLlen:(L0++[gr0++[y]++[x]]).length<=(pre++[x]).length:=by simp at hLl ⊢; omega
     have tie:∀ z ∈ gr0++[y],fN c g z x=0:=fun z hz=>by
      have e1:=hL.eq (gr0++[y]) (by simp) z hz y (by simp)
      have:=hw.t z y x (by omega) (by omega)
      omega
     obtain ⟨L',h1,h2⟩:=next (L0++[gr0++[y]++[x]]) (by rw [hpre]; simp) (hL.snocIn hxx (fun z hz=>by
      have e1:=tie z hz
      have:=hw.s z x
      refine ⟨e1,by omega,?_⟩
      have hzp:z ∈ pre:=by rw [hpre,List.append_assoc]; exact List.mem_append_right _ hz
      rcases hlt z hzp with h | h
      ·omega
      ·exact h.2) (fun q hq z hz=>by
      have e1:=(List.pairwise_append.1 hL.lt).2.2 q hq (gr0++[y]) (by simp) z hz y (by simp)
      have:=hw.t z y x (by omega) (by omega)
      omega)) hLlen
     refine ⟨L',?_,h2⟩
     rw [<-h1]
     conv=>lhs; unfold CQ
     rw [if_pos (by simp [Il]; omega),hi,OS,hprev,OS]
     unfold FK
     have hLle:L0.length<=1000:=by simp at hLl; omega
     have hgl:(gr0++[y]).length<=1000:=by
      have:pre.length=(L0.flatten).length + (gr0++[y]).length:=by rw [hpre]; simp
      omega
     have e3:toI (L0++[gr0++[y]])=toI L0++[toG (gr0++[y])]:=by rw [Q0]; rfl
     rw [if_neg (by simp [h0]),OS,e3,Pw _ _ (by rw [Ko]; omega),OS,if_pos (Hn (by omega) (by rw [Qz]; simp at hgl ⊢; omega)),OS,P8 _ _ _ (by rw [Ko]; omega)]
     have e4:toI L0++[toG (gr0++[y])++[(sd g x).2]]=toI (L0++[gr0++[y]++[x]]):=by
      rw [Q0]
      show _=toI L0++[toG (gr0++[y]++[x])]
      unfold toG
      rw [List.map_append (l₂:=[x])]
      rfl
     rw [e4]
    ·have hm1:fN c g y x = -1:=by rcases hlyx with h | h <;> omega
     refine new (fun z hz=>?_) (fN c g y x != 0) hprev (by simp [h0])
     have hzy:z=y\/ltN (fN c g) z y:=by
      rw [hpre] at hz
      rcases List.mem_append.1 hz with hz | hz
      ·right
       rw [e,hpre] at hs
       have:=(List.pairwise_append.1 (List.pairwise_append.1 hs).1).2.2 z hz y (by simp)
       exact this
      ·left; simpa using hz
     rcases hzy with rfl | hzy
     ·exact hm1
     ·have:=hw.t z y x (by rcases hzy with h | h <;> omega) (by omega)
      rcases hzy with h | h <;> omega
theorem UA (ns:List Nat) (ha:ns.Pairwise fun a b=>a < b) (hns:∀ x ∈ ns,x < g.length) (hl:ns.length<=20):∃ L,FJ c (sdL g ns)=some (toI L)/\GL (fN c g) pI L/\∀ x,x ∈ L.flatten↔x ∈ ns:=by
 have hw:=X1 g (Kt hv).2
 obtain ⟨L,h1,h2,h3⟩:=Us hc hv hg (LA (fN c g) ns) (Qc hw ns ha) (fun x hx=>hns x ((Mf x ns).1 hx)) (by rw [Ox]; omega) (LA (fN c g) ns) [] 100000 [] rfl (by rw [Ox]; omega) rfl ⟨fun _ h=>(by cases h),fun _ h=>(by cases h),fun _ h=>(by cases h),List.Pairwise.nil⟩ (Nat.le_refl _)
 refine ⟨L,?_,h3,fun x=>by rw [h2,Mf]⟩
 unfold FJ
 rw [if_pos (Hn (by omega) (by rw [Il]; omega)),XV hc hv hg ns hns hl,OS]
 have h1':CQ (sdL g (LA (fN c g) ns),c) 100000 0 []=some (toI L):=h1
 rw [h1']; rfl
theorem V8 (hn:g.length<=20):∃ L,Fq c g=some (toI L)/\GL (fN c g) pI L/\∀ x,x ∈ L.flatten↔x < g.length:=by
 obtain ⟨L,h1,h2,h3⟩:=UA hc hv hg (List.range g.length) List.pairwise_lt_range (fun x hx=>List.mem_range.1 hx) (by simpa using hn)
 refine ⟨L,?_,h2,fun x=>by rw [h3,List.mem_range]⟩
 unfold Fq
 rw [UP c hc,if_pos hv,OS,if_neg (by simp),OS,if_neg (by simp; omega),XF g (by omega),OS,SF,h1]; rfl
end
/- trestle/trestleref03.all -/
/- trestle/trestleref03.groups -/
/- trestle/trestleref03.Order -/
/- trestle/court.line -/
/- trestle/court.Line -/
/- trestle/trestleref03.single -/
/- trestle/trestleref03.Line -/
/- trestle/trestleref03.all -/
/- trestle/trestleref03.Class -/
theorem Xd (l:List Nat) (i:Nat) (h:i < l.length):idx (toG l) (i:Int)=some (pI l[i]):=by
 unfold toG
 rw [Jw (by simpa using h)]; simp
section
variable {c:List AE}{g:List Aw}(hc:few c) (hv:(On c).2=0) (hg:FewR g)
include hc hv hg
end
/-- All of a group get a number. -/
def PD (j:Int) (gr:List Nat) (s:List Int):List Int:=gr.foldl (fun s x=>s.set x j) s
theorem PE (j:Int):∀ (gr:List Nat) (s:List Int),(PD j gr s).length=s.length
 | [],_=>rfl
 | x::gr,s=>by
  show (PD j gr (s.set x j)).length=_
  rw [PE j gr]; simp
theorem Qu (j:Int){y:Nat}:∀ (gr:List Nat) (s:List Int),y ∉ gr->(PD j gr s)[y]? = s[y]?
 | [],_,_=>rfl
 | x::gr,s,h=>by
  show (PD j gr (s.set x j))[y]? = _
  have h1:¬ x=y:=fun e=>h (by rw [e]; simp)
  rw [Qu j gr _ (fun hm=>h (List.mem_cons_of_mem _ hm)),List.getElem?_set,if_neg h1]
theorem Rj (j:Int){y:Nat}:∀ (gr:List Nat) (s:List Int),y ∈ gr->y < s.length->(PD j gr s)[y]? = some j
 | x::gr,s,h,hy=>by
  show (PD j gr (s.set x j))[y]? = _
  by_cases hm:y ∈ gr
  ·exact Rj j gr _ hm (by simpa using hy)
  ·rw [Qu j gr _ hm]
   have e:y=x:=by rcases List.mem_cons.1 h with e | e; exact e; exact absurd e hm
   subst e
   rw [List.getElem?_set,if_pos rfl,if_pos hy]
/-- A list tells each one's group. -/
def Nz (L:List (List Nat)) (n k:Nat) (s:List Int):Prop:=s.length=n/\∀ j,j < k->∀ (gr:List Nat),L[j]? = some gr->∀ x ∈ gr,s[x]? = some (j:Int)
section
variable {f:Nat->Nat->Int}(hs:∀ a b,f a b = - f b a){L:List (List Nat)}(hL:GL f pI L)
include hs hL
theorem GL.disj {i j:Nat}{a b:List Nat}(hi:L[i]? = some a) (hj:L[j]? = some b){x:Nat}(ha:x ∈ a) (hb:x ∈ b):i=j:=by
 have key:∀ {i j:Nat} {a b:List Nat},i < j->L[i]? = some a->L[j]? = some b->x ∈ a->x ∈ b->False:=fun {i j a b} hij hi hj ha hb=>by
  obtain ⟨i1,i2⟩:=List.getElem?_eq_some_iff.1 hi
  obtain ⟨j1,j2⟩:=List.getElem?_eq_some_iff.1 hj
  have:=List.pairwise_iff_getElem.1 hL.lt i j i1 j1 hij x (i2 ▸ ha) x (j2 ▸ hb)
  have:=hs x x
  omega
 rcases Nat.lt_trichotomy i j with h | h | h
 ·exact (key h hi hj ha hb).elim
 ·exact h
 ·exact (key h hj hi hb ha).elim
theorem Tt {n k:Nat}{s:List Int}{gr:List Nat}(h:Nz L n k s) (hk:L[k]? = some gr) (hb:∀ x ∈ gr,x < n):Nz L n (k + 1) (PD (k:Int) gr s):=by
 refine ⟨by rw [PE]; exact h.1,fun j hj g2 hg2 x hx=>?_⟩
 by_cases e:j=k
 ·subst e
  rw [hk] at hg2
  have:=OI hg2
  subst this
  exact Rj _ _ _ hx (by rw [h.1]; exact hb x hx)
 ·have hn:x ∉ gr:=fun hm=>e (hL.disj hs hg2 hk hx hm)
  rw [Qu _ _ _ hn]
  exact h.2 j (by omega) g2 hg2 x hx
end
theorem Xe (L:List (List Nat)) (i:Nat) (h:i < L.length):idx (toI L) (i:Int)=some (toG L[i]):=by
 unfold toI
 rw [Jw (by simpa using h)]; simp
theorem T8 {s:List Int}{x:Nat}(h:x < s.length):∃ v,idx s (pI x)=some v:=⟨s[x],Jw h⟩
/-- The inner loops that give a group its number. -/
theorem Wv (gr:List Nat) (j:Int) (s:List Int) (hb:∀ x ∈ gr,x < s.length) (hl:gr.length<=1000):CW j (toG gr) 100000 0 s=some (PD j gr s):=by
 have h:=VJ (σ:=List Int) gr.length (fun k=>PD j (gr.take k) s) (some (PD j gr s)) (fun f c' s=>CW j (toG gr) f c' s) (by omega) (fun k hk f=>by
  show CW j (toG gr) (f + 1) (k:Int) (PD j (gr.take k) s)=_
  conv=>lhs; unfold CW
  obtain ⟨v,hv⟩:=T8 (s:=PD j (gr.take k) s) (x:=gr[k]) (by rw [PE]; exact hb _ (List.getElem_mem hk))
  rw [if_pos (by rw [Qz]; simp; omega),Xd gr k hk,OS,hv,OS]
  have e:PD j (gr.take (k + 1)) s=(PD j (gr.take k) s).set gr[k] j:=by
   unfold PD
   rw [List.take_succ_eq_append_getElem hk,List.foldl_append]; rfl
  show _=CW j (toG gr) f _ (PD j (gr.take (k + 1)) s)
  rw [e,show (pI gr[k]).toNat=gr[k] from Int.toNat_natCast _]) (fun f=>by
  show CW j (toG gr) (f + 1) (gr.length:Int) (PD j (gr.take gr.length) s)=_
  conv=>lhs; unfold CW
  rw [if_neg (by rw [Qz]; simp),List.take_length])
 exact h
section
theorem LF:∀ {l m:List Nat},l.Nodup->(∀ x ∈ l,x ∈ m)->l.length<=m.length
 | [],_,_,_=>Nat.zero_le _
 | x::l,m,h,s=>by
  obtain ⟨h1,h2⟩:=List.nodup_cons.1 h
  have hx:=s x (by simp)
  have:=LF (l:=l) (m:=m.erase x) h2 fun y hy=>(List.mem_erase_of_ne (fun e:y=x=>h1 (e ▸ hy))).2 (s y (List.mem_cons_of_mem _ hy))
  rw [List.length_erase_of_mem hx] at this
  have:0 < m.length:=List.length_pos_of_mem hx
  simp; omega
variable {c:List AE}{g:List Aw}(hc:few c) (hv:(On c).2=0) (hg:FewR g) (hn:g.length<=20){L:List (List Nat)}(hL:GL (fN c g) pI L) (hall:∀ x,x ∈ L.flatten↔x < g.length)
include hL hall
theorem Qa {gr:List Nat}(h:gr ∈ L):∀ x ∈ gr,x < g.length:=have _:=hL; fun x hx=>(hall x).1 (List.mem_flatten.2 ⟨gr,h,hx⟩)
theorem Vb {gr:List Nat}(h:gr ∈ L):gr.length<=g.length:=by
 have hnd:gr.Nodup:=(hL.tie gr h).imp fun h e=>by subst e; exact absurd h (Int.lt_irrefl _)
 have:=LF hnd (m:=List.range g.length) fun x hx=>List.mem_range.2 (Qa hL hall h x hx)
 simpa using this
theorem R8 (hs:∀ a b,fN c g a b = - fN c g b a):L.flatten.Nodup:=by
 have _:=hall
 refine List.pairwise_flatten.2 ⟨fun gr h=>(hL.tie gr h).imp fun h e=>by subst e; exact absurd h (Int.lt_irrefl _),hL.lt.imp fun h a ha b hb e=>?_⟩
 subst e
 have:=h a ha a hb
 have:=hs a a
 omega
theorem Sr (hs:∀ a b,fN c g a b = - fN c g b a):L.flatten.length=g.length:=by
 have h1:=LF (R8 hL hall hs) (m:=List.range g.length) fun x hx=>List.mem_range.2 ((hall x).1 hx)
 have h2:=LF (List.nodup_range (n:=g.length)) (m:=L.flatten) fun x hx=>(hall x).2 (List.mem_range.1 hx)
 simp at h1 h2 ⊢
 omega
theorem XP (hs:∀ a b,fN c g a b = - fN c g b a):L.length<=g.length:=by
 have h1:=Sr hL hall hs
 have:∀ M:List (List Nat),(∀ gr ∈ M,gr≠[])->M.length<=M.flatten.length:=fun M hM=>by
  induction M with
  | nil=>simp
  | cons a M ih =>
   have:=ih fun gr h=>hM gr (List.mem_cons_of_mem _ h)
   have:=List.length_pos_iff.2 (hM a (by simp))
   simp only [List.flatten_cons,List.length_append,List.length_cons]
   omega
 have:=this L hL.ne
 omega
include hn
theorem Ts (hs:∀ a b,fN c g a b = - fN c g b a):∃ s,DF g (toI L) 100000 0 []=some s/\Nz L g.length L.length s:=by
 have hnl:=XP hL hall hs
 by_cases h0:L.length=0
 ·have:L=[]:=List.eq_nil_of_length_eq_zero h0
  subst this
  have hg0:g.length=0:=by
   rcases Nat.eq_zero_or_pos g.length with h | h
   ·exact h
   ·have:=(hall 0).2 h; simp at this
  refine ⟨[],?_,by simp [hg0],fun j hj=>by simp at hj⟩
  unfold DF
  rw [if_neg (by simp [toI])]
 ·have go:∀ (d k fu:Nat) (s:List Int),k + d=L.length->d < fu->(if k=0 then s=[] else Nz L g.length k s)->∃ t,DF g (toI L) fu (k:Int) s=some t/\Nz L g.length L.length t:=by
   intro d
   induction d with
   | zero =>
    intro k fu s hk hf h
    obtain ⟨fu,rfl⟩:∃ q,fu=q + 1:=⟨fu - 1,by omega⟩
    rw [if_neg (by omega)] at h
    refine ⟨s,?_,by rw [show k=L.length by omega] at h; exact h⟩
    unfold DF
    rw [if_neg (by rw [Ko]; simp; omega)]
   | succ d ih =>
    intro k fu s hk hf h
    obtain ⟨fu,rfl⟩:∃ q,fu=q + 1:=⟨fu - 1,by omega⟩
    have hkl:k < L.length:=by omega
    have hgm:L[k] ∈ L:=List.getElem_mem hkl
    have hgk:L[k]? = some L[k]:=List.getElem?_eq_getElem hkl
    obtain ⟨s',e1,e2⟩:∃ s',Fh g (k:Int) s=some s'/\Nz L g.length k s':=by
     unfold Fh
     by_cases hk0:k=0
     ·subst hk0
      refine ⟨_,by rw [if_pos (by rfl),if_pos (by simp [WZ]; omega)],by simp,fun j hj=>by omega⟩
     ·rw [if_neg hk0] at h
      exact ⟨s,by rw [if_neg (by simp; omega)],h⟩
    have e3:CW (k:Int) (toG L[k]) 100000 0 s'=some (PD (k:Int) L[k] s'):=Wv L[k] (k:Int) s' (fun x hx=>by rw [e2.1]; exact Qa hL hall hgm x hx) (by have:=Vb hL hall hgm; omega)
    obtain ⟨t,t1,t2⟩:=ih (k + 1) fu (PD (k:Int) L[k] s') (by omega) (by omega) (by rw [if_neg (by omega)]; exact Tt hs hL e2 hgk (Qa hL hall hgm))
    refine ⟨t,?_,t2⟩
    unfold DF
    rw [if_pos (by rw [Ko]; simp; omega),Xe L k hkl,OS,e1,OS,e3,OS,QK (by omega) (by omega),show ((k:Int) + 1)=((k + 1:Nat):Int) by omega]
    exact t1
  exact go L.length 0 100000 [] (by omega) (by omega) rfl
end
theorem U4:((List.range 256).all fun n=>decide (0<=Du .u8 ((n:Int).fdiv 8) 3)&&decide (Du .u8 ((n:Int).fdiv 8) 3 < 4)&&(decide (0<=Du .u8 ((n:Int).fdiv 16) 3)&&decide (Du .u8 ((n:Int).fdiv 16) 3 < 4)))=true:=by kernel_rfl
theorem Xo {a:Int}(h:u8 a):(0<=Du .u8 (a.fdiv 8) 3/\Du .u8 (a.fdiv 8) 3 < 4)/\0<=Du .u8 (a.fdiv 16) 3/\Du .u8 (a.fdiv 16) 3 < 4:=by
 obtain ⟨n,rfl⟩:=Int.eq_ofNat_of_zero_le h.1
 have hn:n < 256:=by have:=h.2; omega
 have:=List.all_eq_true.1 U4 n (by simpa using hn)
 simp only [Bool.and_eq_true,decide_eq_true_eq] at this
 exact ⟨this.1,this.2⟩
theorem Vc (x:Int×Int) (nm:List UInt8) (h1:u8 x.1):∃ r,Eu x nm=some r/\r.1=x.1/\r.2.1=x.2:=by
 obtain ⟨⟨a1,a2⟩,_⟩:=Xo h1
 obtain ⟨d1,d2⟩:=WW a1 a2
 unfold Eu
 by_cases hc:((Du .u8 x.1 4)!=0)=true
 ·rw [if_pos hc,if_pos d1,if_pos d2]; exact ⟨_,rfl,rfl,rfl⟩
 ·rw [if_neg hc]; exact ⟨_,rfl,rfl,rfl⟩
theorem Vd (r) (h2:u8 r.2.1):∃ r',Ev r=some r'/\r'.1=r.1/\r'.2.1=r.2.1:=by
 obtain ⟨⟨a1,a2⟩,_⟩:=Xo h2
 obtain ⟨d1,d2⟩:=WW a1 a2
 unfold Ev
 by_cases hc:((Du .u8 r.2.1 4)!=0)=true
 ·rw [if_pos hc,if_pos d1,if_pos d2]; exact ⟨_,rfl,rfl,rfl⟩
 ·rw [if_neg hc]; exact ⟨_,rfl,rfl,rfl⟩
theorem Ve (r) (h1:u8 r.1):∃ r',Ew r=some r'/\r'.1=r.1/\r'.2.1=r.2.1/\r'.2.2.2.2.2.2.2.2.2.2.2.2.2.2.2.2.2.2.length<=1:=by
 obtain ⟨_,a1,a2⟩:=Xo h1
 obtain ⟨d1,d2⟩:=WW a1 a2
 unfold Ew
 by_cases hc:((Du .u8 r.2.1 64)!=0)=true
 ·rw [if_pos hc,if_pos d1,if_pos d2]; exact ⟨_,rfl,rfl,rfl,by simp⟩
 ·rw [if_neg hc]; exact ⟨_,rfl,rfl,rfl,by simp⟩
theorem Vf (r) (h2:u8 r.2.1):∃ r',Ey r=some r'/\r'.2.2.2.2.2.2.2.2.2.2.2.2.2.2.2.2=r.2.2.2.2.2.2.2.2.2.2.2.2.2.2.2.2.2.2:=by
 obtain ⟨_,a1,a2⟩:=Xo h2
 obtain ⟨d1,d2⟩:=WW a1 a2
 unfold Ey
 by_cases hc:((Du .u8 r.1 128)!=0)=true
 ·rw [if_pos hc,if_pos d1,if_pos d2]; exact ⟨_,rfl,rfl⟩
 ·rw [if_neg hc]; exact ⟨_,rfl,rfl⟩
theorem UB (x:Int×Int) (nm:List UInt8) (h1:u8 x.1) (h2:u8 x.2):∃ g,Em x nm=some g/\Th g:=by
 obtain ⟨r1,e1,p1,q1⟩:=Vc x nm h1
 obtain ⟨r2,e2,p2,q2⟩:=Vd r1 (q1 ▸ h2)
 obtain ⟨r3,e3,p3,q3,t3⟩:=Ve r2 (by rw [p2,p1]; exact h1)
 obtain ⟨r4,e4,t4⟩:=Vf r3 (by rw [q3,q2,q1]; exact h2)
 refine ⟨r4.2.2.2.2.2.2.2.2,?_,?_⟩
 ·unfold Em
  rw [e1,OS,e2,OS,e3,OS,e4]; rfl
 ·unfold Th
  rw [t4]; omega
theorem ok3 (a b:Int):okB ([103]++by8 [a,b])=true:=rfl
/- trestle/court.Inversions$1 -/
/- slices.IndexFunc[[]int,int] -/
/- slices.ContainsFunc[[]int,int] -/
/- trestle/court.Inversions -/
/- slices.Equal[[]int,int] -/
/-- How many stand behind x and below it. -/
def Wq (x:Int) (r:List Int):Nat:=r.countP fun y=>decide (x > y)
section
variable (cl od:List Int)
end
/- cmp.Less[int] -/
/- slices.IsSorted[[]int,int] -/
/- trestle/trestlelaw03.CourtGroups -/
section
variable {c:List AE}{g:List Aw}(hc:few c) (hv:(On c).2=0) (hg:FewR g) (hn:g.length<=20){L:List (List Nat)}(hL:GL (fN c g) pI L) (hall:∀ x,x ∈ L.flatten↔x < g.length){s:List Int}(hs:Nz L g.length L.length s) (v5:List Int×Int)
include hc hv hg hn hL hall hs
theorem Uo {x:Nat}(hx:x < g.length):∃ j gr,j < L.length/\L[j]? = some gr/\x ∈ gr/\idx s (x:Int)=some (j:Int):=by
 have _:=hc; have _:=hv; have _:=hg; have _:=hn; have _:=hL
 obtain ⟨gr,h1,h2⟩:=List.mem_flatten.1 ((hall x).2 hx)
 obtain ⟨j,hj,e⟩:=List.getElem_of_mem h1
 have hj':L[j]? = some gr:=by rw [List.getElem?_eq_getElem hj,e]
 refine ⟨j,gr,hj,hj',h2,?_⟩
 unfold idx
 rw [if_pos (by omega),Int.toNat_natCast]
 exact hs.2 j hj gr hj' x h2
theorem Sf {x y j k:Nat}{a b:List Nat}(hj:L[j]? = some a) (hk:L[k]? = some b) (hx:x ∈ a) (hy:y ∈ b):(fN c g x y < 0↔j < k)/\(fN c g x y=0↔j=k):=by
 have _:=hc; have _:=hg; have _:=hn; have _:=hall; have _:=hs
 have hsy:=(X1 g (Kt hv).2).s
 obtain ⟨j1,j2⟩:=List.getElem?_eq_some_iff.1 hj
 obtain ⟨k1,k2⟩:=List.getElem?_eq_some_iff.1 hk
 rcases Nat.lt_trichotomy j k with h | h | h
 ·have:=List.pairwise_iff_getElem.1 hL.lt j k j1 k1 h x (j2 ▸ hx) y (k2 ▸ hy)
  omega
 ·subst h
  rw [hj] at hk
  have:=OI hk
  subst this
  have:=hL.eq a (List.mem_of_getElem? hj) x hx y hy
  omega
 ·have:=List.pairwise_iff_getElem.1 hL.lt k j k1 j1 h y (k2 ▸ hy) x (j2 ▸ hx)
  have:=hsy x y
  omega
end
theorem TO {n:Nat}(r q:Nat->Nat) (R:Nat->Nat->Prop) (h1:∀ i,i < n->∃ k,k < n/\R i k) (h2:∀ k,k < n->∃ i,i < n/\R i k) (hc:∀ i i' k k',i < n->i' < n->k < n->k' < n->R i k->R i' k'->(r i < r i'↔q k < q k')) (g1:∀ i j,i < n->j < r i->∃ y,y < n/\r y=j) (g2:∀ k j,k < n->j < q k->∃ y,y < n/\q y=j):∀ v i k,i < n->k < n->R i k->r i=v->q k=v:=by
 intro v
 induction v using Nat.strongRecOn with
 | ind v ih =>
  intro i k hi hk hR hr
  rcases Nat.lt_trichotomy v (q k) with h | h | h
  ·obtain ⟨k',k1,k2⟩:=g2 k v hk h
   obtain ⟨i',i1,i2⟩:=h2 k' k1
   have a1:=(hc i' i k' k i1 hi k1 hk i2 hR).2 (by omega)
   have a2:=ih (r i') (by omega) i' k' i1 k1 i2 rfl
   omega
  ·exact h.symm
  ·obtain ⟨i',i1,i2⟩:=g1 i (q k) hi (by omega)
   obtain ⟨k',k1,k2⟩:=h1 i' i1
   have a1:=(hc i' i k' k i1 hi k1 hk k2 hR).1 (by omega)
   have a2:=ih (r i') (by omega) i' k' i1 k1 k2 rfl
   omega
/-- A text without lists and lots. -/
def plB (x:AE):Bool:=!((x.1==9)||(x.1==10))
theorem NM (s:List UInt8):∀ c:List AE,Gd (c.filter plB) s=Gd c s
 | []=>rfl
 | x::r=>by
  have ih:=NM s r
  unfold Gd at ih ⊢
  rw [List.filter_cons]
  by_cases h:plB x=true
  ·rw [if_pos h,List.any_cons,List.any_cons,ih]
  ·rw [if_neg h,ih,List.any_cons]
   have hk:(x.1==1)=false:=by
    unfold plB at h
    rw [Bool.not_eq_true,Bool.not_eq_false',Bool.or_eq_true,beq_iff_eq,beq_iff_eq] at h
    rw [beq_eq_false_iff_ne]
    omega
   rw [hk]; rfl
theorem OJ:∀ (c pre:List AE),IE pre c->IE (pre.filter plB) (c.filter plB)
 | [],_,_=>trivial
 | x::r,pre,h=>by
  have ih:=OJ r (pre++[x]) h.2
  rw [List.filter_cons]
  by_cases hx:plB x=true
  ·rw [if_pos hx]
   have e:(pre++[x]).filter plB=pre.filter plB++[x]:=by
    rw [List.filter_append]; simp [hx]
   rw [e] at ih
   refine ⟨?_,ih⟩
   have:=h.1
   unfold chk at this ⊢
   rw [NM]
   exact this
  ·rw [if_neg hx]
   have e:(pre++[x]).filter plB=pre.filter plB:=by
    rw [List.filter_append]; simp [hx]
   rwa [e] at ih
theorem Sk {x:AE}(hx:plB x=true) (a b:Aw) (i j i' j':Int):dir x a b i j=dir x a b i' j':=by
 unfold plB at hx
 rw [Bool.not_eq_true',Bool.or_eq_false_iff] at hx
 unfold dir NI
 rw [hx.1,hx.2]
 rfl
theorem P5 (a b:Aw) (i j i' j':Int):∀ (c:List AE) (k:Nat),(∀ x ∈ c,plB x=true)->rsn a b i j c k=rsn a b i' j' c k
 | [],_,_=>rfl
 | x::r,k,h=>by
  rw [KH,KH,Sk (h x (by simp)) a b i j i' j',P5 a b i j i' j' r (k + 1) fun y hy=>h y (List.mem_cons_of_mem _ hy)]
theorem Ry {c:List AE}(h:∀ x ∈ c,plB x=true) (a b:Aw) (i j i' j':Int):PY c a b i j=PY c a b i' j':=by
 rw [Ke,Ke,P5 a b i j i' j' c 0 h]
/-- The classes of the same guests in two orders. -/
theorem Rx {c:List AE}{g m:List Aw}(hc:few c) (hv:(On c).2=0) (hg:FewR g) (hm:FewR m) (hn:g.length<=20) (hl:m.length=g.length) (hp:∀ x ∈ c,plB x=true)
  (h1:∀ i,i < g.length->∃ k,k < g.length/\gAt m k=gAt g i) (h2:∀ k,k < g.length->∃ i,i < g.length/\gAt m k=gAt g i) {L M:List (List Nat)} (hL:GL (fN c g) pI L) (hall:∀ x,x ∈ L.flatten↔x < g.length) {s t:List Int} (hs:Nz L g.length L.length s)
  (hM:GL (fN c m) pI M) (hallM:∀ x,x ∈ M.flatten↔x < m.length) (ht:Nz M m.length M.length t) (i k:Nat) (hi:i < g.length) (hk:k < g.length) (e:gAt m k=gAt g i):idx s (i:Int)=idx t (k:Int)/\∃ v,idx s (i:Int)=some v:=by
 have hn':m.length<=20:=by omega
 have a1:=fun x hx=>Uo hc hv hg hn hL hall hs (x:=x) hx
 have a2:=fun x hx=>Uo hc hv hm hn' hM hallM ht (x:=x) hx
 have rank:∀ (z:List Int) (x j:Nat),idx z (x:Int)=some (j:Int)->((idx z (x:Int)).getD 0).toNat=j:=fun z x j h=>by rw [h]; simp
 have key:=TO (n:=g.length) (fun x=>((idx s (x:Int)).getD 0).toNat) (fun x=>((idx t (x:Int)).getD 0).toNat) (fun i k=>gAt m k=gAt g i) h1 h2 (fun i i' k k' hi hi' hk hk' e e'=>by
  obtain ⟨j,gr,j1,j2,j3,j4⟩:=a1 i hi
  obtain ⟨j',gr',j1',j2',j3',j4'⟩:=a1 i' hi'
  obtain ⟨q,gq,q1,q2,q3,q4⟩:=a2 k (by omega)
  obtain ⟨q',gq',q1',q2',q3',q4'⟩:=a2 k' (by omega)
  have c1:=(Sf hc hv hg hn hL hall hs j2 j2' j3 j3').1
  have c2:=(Sf hc hv hm hn' hM hallM ht q2 q2' q3 q3').1
  have f:fN c m k k'=fN c g i i':=by
   rw [VO (by omega) (by omega),VO (by omega) (by omega)]
   unfold cm
   rw [e,e']
   exact Ry hp _ _ _ _ _ _
  show ((idx s (i:Int)).getD 0).toNat < ((idx s (i':Int)).getD 0).toNat↔((idx t (k:Int)).getD 0).toNat < ((idx t (k':Int)).getD 0).toNat
  rw [rank s i j j4,rank s i' j' j4',rank t k q q4,rank t k' q' q4',<-c1,<-c2,f]) (fun i j hi hj=>by
  obtain ⟨j0,gr,j1,j2,j3,j4⟩:=a1 i hi
  have hj':j < L.length:=by
   have:((idx s (i:Int)).getD 0).toNat=j0:=rank s i j0 j4
   have hj:j < ((idx s (i:Int)).getD 0).toNat:=hj
   omega
  obtain ⟨y,hy⟩:=List.exists_mem_of_ne_nil _ (hL.ne L[j] (List.getElem_mem hj'))
  have hyl:=(hall y).1 (List.mem_flatten.2 ⟨_,List.getElem_mem hj',hy⟩)
  refine ⟨y,hyl,rank s y j ?_⟩
  unfold idx
  rw [if_pos (by omega),Int.toNat_natCast]
  exact hs.2 j hj' L[j] (List.getElem?_eq_getElem hj') y hy) (fun i j hi hj=>by
  obtain ⟨j0,gr,j1,j2,j3,j4⟩:=a2 i (by omega)
  have hj':j < M.length:=by
   have:((idx t (i:Int)).getD 0).toNat=j0:=rank t i j0 j4
   have hj:j < ((idx t (i:Int)).getD 0).toNat:=hj
   omega
  obtain ⟨y,hy⟩:=List.exists_mem_of_ne_nil _ (hM.ne M[j] (List.getElem_mem hj'))
  have hyl:=(hallM y).1 (List.mem_flatten.2 ⟨_,List.getElem_mem hj',hy⟩)
  refine ⟨y,by omega,rank t y j ?_⟩
  unfold idx
  rw [if_pos (by omega),Int.toNat_natCast]
  exact ht.2 j hj' M[j] (List.getElem?_eq_getElem hj') y hy)
 obtain ⟨j,gr,j1,j2,j3,j4⟩:=a1 i hi
 obtain ⟨q,gq,q1,q2,q3,q4⟩:=a2 k (by omega)
 have:=key j i k hi hk e (rank s i j j4)
 have h9:((idx t (k:Int)).getD 0).toNat=j:=this
 rw [rank t k q q4] at h9
 exact ⟨by rw [j4,q4,h9],_,j4⟩
theorem Qn (v:AE):Ch v=some (!plB v):=by
 unfold Ch plB
 cases (v.1==9) <;> cases (v.1==10) <;> rfl
section
variable {x0:List AE}(hn:x0.length<=1000)
include hn
theorem Mx:∀ (d j i f:Nat) (c5:List AE),i<=j->j + d=x0.length->d < f->c5.length=x0.length->c5.take i=(x0.take j).filter plB->c5.drop j=x0.drop j->∃ (i':Nat) (c':List AE),Aa f (i:Int) (j:Int) c5=some ((i':Int),c')/\i'<=i + d/\c'.length=x0.length/\c'.take i'=x0.filter plB
 | 0,j,i,f + 1,c5,_,hj,_,hl,ht,_=>by
  refine ⟨i,c5,?_,by omega,hl,?_⟩
  ·unfold Aa
   rw [if_neg (by simp; omega)]
  ·rw [ht,List.take_of_length_le (by omega)]
 | d + 1,j,i,f + 1,c5,hij,hj,hf,hl,ht,hd=>by
  have hjl:j < x0.length:=by omega
  have hv:c5[j]? = x0[j]?:=by
   have:=congrArg (fun l:List AE=>l[0]?) hd
   simpa using this
  have hc:c5[j]'(by omega)=x0[j]:=by
   rw [List.getElem?_eq_getElem (by omega),List.getElem?_eq_getElem hjl] at hv
   exact OI hv
  have hstep:(x0.take (j + 1)).filter plB=(x0.take j).filter plB++if plB x0[j]=true then [x0[j]] else []:=by
   rw [List.take_succ_eq_append_getElem hjl,List.filter_append]
   cases h:plB x0[j] <;> simp [h]
  have hdr:∀ c:List AE,c.drop j=x0.drop j->c.drop (j + 1)=x0.drop (j + 1):=fun c h=>by
   have:=congrArg (List.drop 1) h
   simpa [List.drop_drop,Nat.add_comm] using this
  cases hpj:plB x0[j] with
  | false =>
   rw [hpj,if_neg (by simp),List.append_nil] at hstep
   obtain ⟨i',c',e1,e2,e3,e4⟩:=Mx d (j + 1) i f c5 (by omega) (by omega) (by omega) hl (by rw [hstep]; exact ht) (hdr c5 hd)
   refine ⟨i',c',?_,by omega,e3,e4⟩
   unfold Aa
   rw [if_pos (by simp; omega),Jw (by omega),OS,hc,Qn,OS,hpj]
   show (Am (i:Int) c5 x0[j] true).bind _=_
   unfold Am
   rw [if_neg (by simp),OS,QK (by omega) (by omega),show ((j:Int) + 1)=((j + 1:Nat):Int) by omega]
   exact e1
  | true =>
   rw [hpj,if_pos rfl] at hstep
   have hil:i < c5.length:=by omega
   obtain ⟨i',c',e1,e2,e3,e4⟩:=Mx d (j + 1) (i + 1) f (c5.set i x0[j]) (by omega) (by omega) (by omega) (by simp [hl]) (by
    rw [hstep,<-ht,List.take_succ_eq_append_getElem (by simp; omega),List.take_set_of_le (Nat.le_refl _)]
    simp) (by
    rw [List.drop_set_of_lt (by omega)]
    exact hdr c5 hd)
   refine ⟨i',c',?_,by omega,e3,e4⟩
   unfold Aa
   rw [if_pos (by simp; omega),Jw (by omega),OS,hc,Qn,OS,hpj]
   show (Am (i:Int) c5 x0[j] false).bind _=_
   unfold Am
   rw [if_pos (by rfl),Jw hil,OS,OS,QK (n:=(i:Int) + 1) (by omega) (by omega),QK (n:=(j:Int) + 1) (by omega) (by omega),show ((j:Int) + 1)=((j + 1:Nat):Int) by omega,show ((i:Int) + 1)=((i + 1:Nat):Int) by omega,Int.toNat_natCast]
   exact e1
theorem Rz:(AN x0=some (-1)/\∀ v ∈ x0,plB v=true)\/∃ i:Nat,AN x0=some (i:Int)/\i < x0.length/\(x0.take (i + 1)).filter plB=x0.take i:=by
 have go:∀ (r pre:List AE) (f:Nat),x0=pre++r->r.length < f->(∀ v ∈ pre,plB v=true)->(AG x0 f (pre.length:Int)=some (.inl ())/\∀ v ∈ x0,plB v=true)\/∃ i:Nat,AG x0 f (pre.length:Int)=some (.inr (i:Int))/\i < x0.length/\(x0.take (i + 1)).filter plB=x0.take i:=by
  intro r
  induction r with
  | nil =>
   intro pre f e hf hk
   obtain ⟨f,rfl⟩:∃ q,f=q + 1:=⟨f - 1,by simp at hf; omega⟩
   refine .inl ⟨?_,fun v hv=>hk v (by rw [e] at hv; simpa using hv)⟩
   unfold AG
   rw [if_neg (by rw [e]; simp)]
  | cons v r ih =>
   intro pre f e hf hk
   obtain ⟨f,rfl⟩:∃ q,f=q + 1:=⟨f - 1,by simp at hf; omega⟩
   simp only [List.length_cons] at hf
   have hl:x0.length=pre.length + r.length + 1:=by rw [e]; simp; omega
   have hstep:AG x0 (f + 1) (pre.length:Int)=if (!plB v)=true then some (.inr (pre.length:Int)) else AG x0 f ((pre++[v]).length:Int):=by
    conv=>lhs; unfold AG
    rw [if_pos (by rw [e]; exact JW pre v r),show idx x0 (pre.length:Int)=some v by rw [e,Ez],OS,Qn,OS,Gy pre v r (by rw [<-e]; omega)]
   rw [hstep]
   cases hpv:plB v with
   | false =>
    refine .inr ⟨pre.length,by rw [if_pos (by rfl)],by omega,?_⟩
    have e1:x0.take (pre.length + 1)=pre++[v]:=by
     rw [e,show pre++v::r=(pre++[v])++r by simp]
     exact List.take_left' (by simp)
    have e2:x0.take pre.length=pre:=by rw [e]; exact List.take_left' rfl
    rw [e1,e2,List.filter_append,List.filter_eq_self.2 (fun w hw=>hk w hw)]
    simp [hpv]
   | true =>
    rw [if_neg (by simp)]
    exact ih (pre++[v]) f (by rw [e]; simp) (by omega) fun w hw=>by
     rcases List.mem_append.1 hw with h | h
     ·exact hk w h
     ·rw [List.mem_singleton.1 h]; exact hpv
 unfold AN
 rcases go x0 [] 100000 rfl (by omega) (fun v hv=>by cases hv) with ⟨h,k⟩ | ⟨i,h,k⟩
 ·have h':AG x0 100000 0=some (.inl ()):=h
  exact .inl ⟨by rw [h']; rfl,k⟩
 ·have h':AG x0 100000 0=some (.inr (i:Int)):=h
  exact .inr ⟨i,by rw [h']; rfl,k⟩
theorem W1:BD x0=some (x0.filter plB):=by
 unfold BD
 rcases Rz hn with ⟨h,k⟩ | ⟨i,h,k1,k2⟩
 ·rw [h,OS,if_pos (by rfl),List.filter_eq_self.2 k]
 ·obtain ⟨i',c',e1,e2,e3,e4⟩:=Mx hn (x0.length - (i + 1)) (i + 1) i 100000 x0 (by omega) (by omega) (by omega) rfl k2.symm rfl
  rw [h,OS,if_neg (by simp <;> omega),QK (by omega) (by omega),show ((i:Int) + 1)=((i + 1:Nat):Int) by omega,e1,OS]
  have hi':i' < c'.length:=by omega
  show (if (WV (i':Int) c'.length)=true then _ else none)=_
  rw [if_pos (by unfold WV; simp <;> omega),Int.toNat_natCast,if_pos (by unfold Wz; simp <;> omega),List.take_append_of_le_length (by simp; omega),List.take_take,Nat.min_self,e4]
end
/-- The name of a guest of numbers. -/
def nmI (i:Nat):List UInt8:=[103]++(by8 [(wr .u8 (wr .i64 (97 + (wr .i64 ((i:Int).tdiv 26))))),(wr .u8 (wr .i64 (97 + ((i:Int).tmod 26))))])
theorem Vw:((List.range 20).all fun i=>(List.range 20).all fun j=>(i==j)||!(nmI i==nmI j))=true:=by kernel_rfl
theorem Vx {i j:Nat}(hi:i < 20) (hj:j < 20) (h:nmI i=nmI j):i=j:=by
 have:=List.all_eq_true.1 (List.all_eq_true.1 Vw i (by simpa using hi)) j (by simpa using hj)
 rw [h] at this
 simpa using this
theorem UC {x:Int×Int}{nm:List UInt8}{g:Aw}(h:Em x nm=some g):g.1=nm:=by
 unfold Em at h
 obtain ⟨r1,e1,h⟩:=OB h
 obtain ⟨r2,e2,h⟩:=OB h
 obtain ⟨r3,e3,h⟩:=OB h
 obtain ⟨r4,e4,h⟩:=OB h
 have k1:r1.2.2.2.2.2.2.2.2.2.2.1=nm:=by
  unfold Eu at e1
  repeat' split at e1
  all_goals first | (cases e1; done) | (injection e1 with e1; subst e1; rfl)
 have k2:r2.2.2.2.2.2.2.2.2.2.2.1=r1.2.2.2.2.2.2.2.2.2.2.1:=by
  unfold Ev at e2
  repeat' split at e2
  all_goals first | (cases e2; done) | (injection e2 with e2; subst e2; rfl)
 have k3:r3.2.2.2.2.2.2.2.2.2.2.1=r2.2.2.2.2.2.2.2.2.2.2.1:=by
  unfold Ew at e3
  repeat' split at e3
  all_goals first | (cases e3; done) | (injection e3 with e3; subst e3; rfl)
 have k4:r4.2.2.2.2.2.2.2.2.1=r3.2.2.2.2.2.2.2.2.2.2.1:=by
  unfold Ey at e4
  repeat' split at e4
  all_goals first | (cases e4; done) | (injection e4 with e4; subst e4; rfl)
 injection h with h
 rw [<-h,k4,k3,k2,k1]
theorem Ow {g:List Aw}{x:Nat}(hx:x < g.length):gAt g x ∈ g:=by
 unfold gAt; rw [List.getD_eq_getElem?_getD,List.getElem?_eq_getElem hx]; exact List.getElem_mem hx
theorem Ql {g:List Aw}{v:Aw}(h:v ∈ g):∃ x,x < g.length/\gAt g x=v:=by
 obtain ⟨x,hx,e⟩:=List.getElem_of_mem h
 refine ⟨x,hx,?_⟩
 unfold gAt; rw [List.getD_eq_getElem?_getD,List.getElem?_eq_getElem hx]; exact e
theorem OK (x0:List (Int×Int)) (n:Int) (ys:List (Int×Int)) (hys:((x0.take (mnI (x0.length:Int) n).toNat).drop (0:Int).toNat)=ys) (hb:∀ v ∈ ys,u8 v.1/\u8 v.2) (h20:ys.length<=20):∀ (r pre:List (Int×Int)) (c2:List Aw) (f:Nat),ys=pre++r->r.length < f->c2.length=pre.length->(∀ g ∈ c2,Th g)->(∀ i,i < c2.length->(gAt c2 i).1=nmI i) ->
  ∃ c,DN x0 n f c2 (pre.length:Int)=some c/\(∀ g ∈ c,Th g)/\c.length=ys.length/\∀ i,i < c.length->(gAt c i).1=nmI i
 | [],pre,c2,f + 1,e,_,hl,hk,hm=>by
  refine ⟨c2,?_,hk,by rw [hl,e]; simp,hm⟩
  unfold DN
  rw [hys,if_neg (by rw [e]; simp)]
 | v::r,pre,c2,f + 1,e,hf,hl,hk,hm=>by
  have hv:=hb v (by rw [e]; simp)
  have hl2:ys.length=pre.length + r.length + 1:=by rw [e]; simp; omega
  simp only [List.length_cons] at hf
  obtain ⟨g,hg,hgf⟩:=UB (v.1,v.2) ([103]++(by8 [(wr .u8 (wr .i64 (97 + (wr .i64 ((pre.length:Int).tdiv 26))))),(wr .u8 (wr .i64 (97 + ((pre.length:Int).tmod 26))))])) hv.1 hv.2
  have hgn:g.1=nmI pre.length:=UC hg
  obtain ⟨c,q1,q2,q3,q4⟩:=OK x0 n ys hys hb h20 r (pre++[v]) (c2++[g]) f (by rw [e]; simp) (by omega) (by simp [hl]) (fun y hy=>by
   rcases List.mem_append.1 hy with hy | hy
   ·exact hk y hy
   ·rw [List.mem_singleton.1 hy]; exact hgf) (fun i hi=>by
   rw [List.length_append,List.length_singleton] at hi
   by_cases h:i < c2.length
   ·have:gAt (c2++[g]) i=gAt c2 i:=by
     unfold gAt
     rw [List.getD_eq_getElem?_getD,List.getD_eq_getElem?_getD,List.getElem?_append_left h]
    rw [this]; exact hm i h
   ·have hi':i=c2.length:=by omega
    have:gAt (c2++[g]) i=g:=by
     unfold gAt
     rw [List.getD_eq_getElem?_getD,hi',List.getElem?_append_right (Nat.le_refl _)]
     simp
    rw [this,hgn,hi',hl])
  refine ⟨c,?_,q2,q3,q4⟩
  rw [<-q1]
  conv=>lhs; unfold DN
  rw [hys,if_pos (by rw [e]; exact JW pre v r),show idx ys (pre.length:Int)=some v by rw [e,Ez],OS,if_pos (ok3 _ _),hg,OS,if_pos (Hn (by omega) (by omega)),Gy pre v r (by rw [<-e]; omega)]
theorem S1 (x0:List (Int×Int)) (n:Nat) (hn:n<=20) (hb:∀ v ∈ x0,u8 v.1/\u8 v.2):∃ c,Ec x0 (n:Int)=some c/\FewR c/\c.length<=n/\∀ i,i < c.length->(gAt c i).1=nmI i:=by
 have hm:0<=mnI (x0.length:Int) n/\mnI (x0.length:Int) n<=n/\mnI (x0.length:Int) n<=x0.length:=by
  unfold mnI
  split <;> omega
 have h8:((x0.take (mnI (x0.length:Int) n).toNat).drop (0:Int).toNat).length<=n:=by
  rw [List.length_drop,List.length_take]; omega
 obtain ⟨c,h1,h2,h3,h4⟩:=OK x0 n _ rfl (fun v hv=>hb v (List.mem_of_mem_take (List.mem_of_mem_drop hv))) (Nat.le_trans h8 hn) _ [] [] 100000 rfl (Nat.lt_of_le_of_lt h8 (by omega)) rfl (fun g hg=>by simp at hg) (fun i hi=>by simp at hi)
 refine ⟨c,?_,⟨by omega,h2⟩,by omega,h4⟩
 unfold Ec
 rw [if_pos (by unfold Do; simp; omega)]
 have e:DN x0 n 100000 [] 0=some c:=h1
 rw [e]; rfl
/-- Two that change places. -/
theorem XY (g o:List Aw) (hol:o.length=g.length) (v:Int×Int) (hv:u8 v.1/\u8 v.2):∃ o',Dp g o v=some o'/\o'.Perm o:=by
 unfold Dp
 unfold u8 at hv
 by_cases h0:g.length=0
 ·exact ⟨o,by rw [if_neg (by rw [decide_eq_true_eq]; omega)],List.Perm.refl _⟩
 ·have w1:wr .i64 v.1=v.1:=QK (by omega) (by omega)
  have w2:wr .i64 v.2=v.2:=QK (by omega) (by omega)
  have r1:0<=v.1.tmod (g.length:Int)/\v.1.tmod (g.length:Int) < g.length:=⟨Int.tmod_nonneg _ (by omega),Int.tmod_lt_of_pos _ (by omega)⟩
  have r2:0<=v.2.tmod (g.length:Int)/\v.2.tmod (g.length:Int) < g.length:=⟨Int.tmod_nonneg _ (by omega),Int.tmod_lt_of_pos _ (by omega)⟩
  rw [w1,w2]
  obtain ⟨i,hi⟩:∃ i:Nat,v.1.tmod (g.length:Int)=(i:Int):=⟨_,(Int.toNat_of_nonneg r1.1).symm⟩
  obtain ⟨j,hj⟩:∃ j:Nat,v.2.tmod (g.length:Int)=(j:Int):=⟨_,(Int.toNat_of_nonneg r2.1).symm⟩
  rw [hi] at r1
  rw [hj] at r2
  have hi':i < o.length:=by omega
  have hj':j < o.length:=by omega
  rw [hi,hj,if_pos (by simp; omega),if_neg (by omega),if_neg (by omega),Jw hj',OS,Jw hi',OS,OS,Int.toNat_natCast,Int.toNat_natCast,Jw (by rw [List.length_set]; exact hj'),OS]
  exact ⟨_,rfl,List.set_set_perm hi' hj'⟩
/-- The first of a name. -/
theorem UD (m:List Aw) (w:Aw) (hl:m.length<=1000) (hx:∃ v ∈ m,v.1=w.1):∃ k:Nat,AR m w=some (k:Int)/\k < m.length/\(gAt m k).1=w.1:=by
 have go:∀ (r pre:List Aw) (f:Nat),m=pre++r->r.length < f->(∀ v ∈ pre,v.1≠w.1)->∃ k:Nat,AJ m w f (pre.length:Int)=some (.inr (k:Int))/\k < m.length/\(gAt m k).1=w.1:=by
  intro r
  induction r with
  | nil =>
   intro pre f e hf hk
   obtain ⟨v,h1,h2⟩:=hx
   exact absurd h2 (hk v (by rw [e] at h1; simpa using h1))
  | cons v r ih =>
   intro pre f e hf hk
   obtain ⟨f,rfl⟩:∃ q,f=q + 1:=⟨f - 1,by simp at hf; omega⟩
   simp only [List.length_cons] at hf
   have hll:m.length=pre.length + r.length + 1:=by rw [e]; simp; omega
   have hstep:AJ m w (f + 1) (pre.length:Int)=if (v.1==w.1)=true then some (.inr (pre.length:Int)) else AJ m w f ((pre++[v]).length:Int):=by
    conv=>lhs; unfold AJ
    rw [if_pos (by rw [e]; exact JW pre v r),show idx m (pre.length:Int)=some v by rw [e,Ez],OS,show DT v w=some (v.1==w.1) from rfl,OS,Gy pre v r (by rw [<-e]; omega)]
   rw [hstep]
   by_cases hv:v.1=w.1
   ·refine ⟨pre.length,by rw [if_pos (by simpa using hv)],by omega,?_⟩
    have:gAt m pre.length=v:=by
     unfold gAt
     rw [List.getD_eq_getElem?_getD,e,List.getElem?_append_right (Nat.le_refl _)]; simp
    rw [this]; exact hv
   ·rw [if_neg (by simpa using hv)]
    exact ih (pre++[v]) f (by rw [e]; simp) (by omega) fun y hy=>by
     rcases List.mem_append.1 hy with h | h
     ·exact hk y h
     ·rw [List.mem_singleton.1 h]; exact hv
 obtain ⟨k,h1,h2⟩:=go m [] 100000 rfl (by omega) (fun v hv=>by cases hv)
 have h1':AJ m w 100000 0=some (.inr (k:Int)):=h1
 refine ⟨k,?_,h2⟩
 unfold AR
 rw [h1']; rfl
theorem RG {c:List AE}{g:List Aw}(hc:few c) (hv:(On c).2=0) (hg:FewR g) (hn:g.length<=20):∃ (L:List (List Nat)) (s:List Int),FI c g=some s/\GL (fN c g) pI L/\(∀ x,x ∈ L.flatten↔x < g.length)/\Nz L g.length L.length s:=by
 have hs:=(X1 g (Kt hv).2).s
 obtain ⟨L,o1,hL,hall⟩:=V8 hc hv hg hn
 obtain ⟨s,s1,s2⟩:=Ts hn hL hall hs
 refine ⟨L,s,?_,hL,hall,s2⟩
 unfold FI
 rw [o1,OS,s1]; rfl
theorem TD (l:List (Int×Int×Int×Bool×Bool)) (p s:List (Int×Int)) (hl:∀ v ∈ l,RJ v) (hp:∀ v ∈ p,u8 v.1/\u8 v.2) (hs:∀ v ∈ s,u8 v.1/\u8 v.2):DY l p s=some true:=by
 obtain ⟨c0,m1,m2,m3,m4⟩:=Vt l hl
 obtain ⟨g,g1,hg,hn,hnm⟩:=S1 p 20 (by omega) hp
 have hcl:=List.length_filter_le plB c0
 have hcf:few (c0.filter plB):=⟨by omega,fun x hx=>m2.2 x (List.mem_filter.1 hx).1⟩
 have hgd:IE [] (c0.filter plB):=OJ c0 [] m3
 have hv:(On (c0.filter plB)).2=0:=by rw [Va (by omega) hgd]
 have hpl:∀ x ∈ c0.filter plB,plB x=true:=fun x hx=>(List.mem_filter.1 hx).2
 have hms:0<=mnI (s.length:Int) 30/\mnI (s.length:Int) 30<=30/\mnI (s.length:Int) 30<=s.length:=by
  unfold mnI
  split <;> omega
 have go:∀ (r pre:List (Int×Int)) (f:Nat) (o:List Aw),((s.take (mnI (s.length:Int) 30).toNat).drop (0:Int).toNat)=pre++r->r.length < f->o.Perm g->∃ o',CU s g f (pre.length:Int) o=some o'/\o'.Perm g:=by
  intro r
  induction r with
  | nil =>
   intro pre f o e hf ho
   obtain ⟨f,rfl⟩:∃ q,f=q + 1:=⟨f - 1,by simp at hf; omega⟩
   refine ⟨o,?_,ho⟩
   unfold CU
   rw [if_neg (by rw [e]; simp)]
  | cons v r ih =>
   intro pre f o e hf ho
   obtain ⟨f,rfl⟩:∃ q,f=q + 1:=⟨f - 1,by simp at hf; omega⟩
   simp only [List.length_cons] at hf
   have hle:(pre++v::r).length<=1000:=by rw [<-e,List.length_drop,List.length_take]; omega
   obtain ⟨o1,e1,p1⟩:=XY g o ho.length_eq v (hs v (List.mem_of_mem_take (List.mem_of_mem_drop (by rw [e]; simp))))
   obtain ⟨o2,e2,p2⟩:=ih (pre++[v]) f o1 (by rw [e]; simp) (by omega) (p1.trans ho)
   refine ⟨o2,?_,p2⟩
   unfold CU
   rw [if_pos (by rw [e]; exact JW pre v r),show idx ((s.take (mnI (s.length:Int) 30).toNat).drop (0:Int).toNat) (pre.length:Int)=some v by rw [e,Ez],OS,e1,OS,Gy pre v r (by omega)]
   exact e2
 obtain ⟨m,o1,o2⟩:=go _ [] 100000 g rfl (by first | (rw [List.length_drop,List.length_take]; omega) | (rw [List.length_take]; omega)) (List.Perm.refl _)
 have o1':CU s g 100000 0 g=some m:=o1
 have ml:m.length=g.length:=o2.length_eq
 have hm:FewR m:=⟨by rw [ml]; exact hg.n,fun x hx=>hg.f x (o2.mem_iff.1 hx)⟩
 obtain ⟨L,sc,a1,hL,hall,a4⟩:=RG hcf hv hg hn
 obtain ⟨M,tc,b1,hM,hallM,b4⟩:=RG hcf hv hm (by omega)
 have sl:sc.length=g.length:=a4.1
 have tl:tc.length=g.length:=by rw [b4.1,ml]
 have same:∀ i k:Nat,i < g.length->k < g.length->(gAt m k).1=(gAt g i).1->gAt m k=gAt g i:=fun i k hi hk e=>by
  obtain ⟨j,hj,ej⟩:=Ql (o2.mem_iff.1 (Ow (g:=m) (x:=k) (by omega)))
  have:j=i:=Vx (by omega) (by omega) (by rw [<-hnm j hj,<-hnm i hi,ej]; exact e)
  rw [<-ej,this]
 have h1:∀ i,i < g.length->∃ k,k < g.length/\gAt m k=gAt g i:=fun i hi=>by
  obtain ⟨k,hk,e⟩:=Ql (o2.mem_iff.2 (Ow hi))
  exact ⟨k,by omega,e⟩
 have h2:∀ k,k < g.length->∃ i,i < g.length/\gAt m k=gAt g i:=fun k hk=>by
  obtain ⟨i,hi,e⟩:=Ql (o2.mem_iff.1 (Ow (g:=m) (x:=k) (by omega)))
  exact ⟨i,hi,e.symm⟩
 have loop:B3 g m sc tc 100000 0=some (.inl ()):=VJ (σ:=Unit) g.length (fun _=>()) (some (.inl ())) (fun f c' _=>B3 g m sc tc f c') (by omega) (fun i hi f=>by
  show B3 g m sc tc (f + 1) (i:Int)=_
  conv=>lhs; unfold B3
  obtain ⟨k0,hk0,e0⟩:=h1 i hi
  obtain ⟨k,k1,k2,k3⟩:=UD m (gAt g i) (by omega) ⟨_,Ow (g:=m) (x:=k0) (by omega),by rw [e0]⟩
  obtain ⟨q1,v,q2⟩:=Rx hcf hv hg hm hn ml hpl h1 h2 hL hall a4 hM hallM b4 i k hi (by omega) (same i k hi (by omega) k3)
  rw [if_pos (by simp; omega),YY g hi,OS,k1,OS,<-q1,q2,OS,OS,if_neg (by simp)]) (fun f=>by
  show B3 g m sc tc (f + 1) (g.length:Int)=_
  conv=>lhs; unfold B3
  rw [if_neg (by simp)])
 unfold DY
 have g1':Ec p 20=some g:=g1
 rw [m1,OS,W1 (by omega),OS,g1',OS,if_pos (Hn (by omega) (by omega)),if_pos (by unfold Do; simp; omega),o1',OS,a1,OS,b1,OS,sl,tl,if_neg (by simp),OS,if_neg (by simp),loop]
 rfl
end Go.Proofs.YtlalcoehgkmhlaaGreatDoor
namespace Go.Proofs.YtlalcoehgkmhlaaGreatDoor
open Go.RowKit Go.ChangeShapes Go.WideShapes Go.Deep
theorem WB {α:Type}{P:Program}{c:Cd α}{t e:TypeId}{good:α->Prop}{hn:∀ x,((csC c (csE c)).enc x).all KZ=true}(ht:P.underlying t=some (.array 2 e)) (hl:P.cellsOf t=2) (hc:P.cellsOf e=1) (hs:∀ a,((csC c (csE c)).enc a).length=2) (he:∀ a,elm ((csC c (csE c)).enc a) = .ag ((csC c (csE c)).enc a)) (h1:∀ a,(c.enc a).cel=[c.enc a]) (r:Rc P c e good):Rc P (cdA (csC c (csE c)) hn) t (fun x=>good x.1/\good x.2):=⟨fun a=>he a,fun a=>(hs a).trans hl.symm,fun {H enc w base spare held fuel cs x} h hw=>by
 obtain ⟨xs,m,_,rfl,hlc,hlx,hf⟩:=DataW.trod_array ht h
 simp only [DataW.weights,ht] at hw
 have r2 : Rf P (csC c (csE c)) [Field.mk "" e 0 false "" "" 0, Field.mk "" e 1 false "" "" 0] 0 (fun x => good x.1 ∧ good x.2) := Lv r rfl hc h1 (TR r rfl hc h1)
 obtain ⟨a,k1,k2,k3⟩:=r2.rd (cs:=cs) (xs:=xs) (n:=m) (by rw [hlc,hl]; rfl) (by rw [hlx]; rfl) (fun j f hj=>by
  match j,hj with
  | 0,hj =>
   obtain rfl:=OI hj
   have:=hf 0 (by omega)
   rw [Nat.zero_mul] at this
   exact this
  | 1,hj =>
   obtain rfl:=OI hj
   have:=hf 1 (by omega)
   rw [Nat.one_mul,hc] at this
   rw [hc]
   exact this) (by
  match xs,hlx with
  | [y,z],_ =>
   simp only [List.map_cons,List.map_nil,DataW.weightsAll,DataW.weightsEach] at hw ⊢
   exact hw)
 exact ⟨a,k1,k2,k3⟩⟩
end Go.Proofs.YtlalcoehgkmhlaaGreatDoor
