/- Lemmas for the proof. -/
import Derived.Test.YtdjhmdbpcfnpgaaGreatDoorCourtRoundM1
import Derived.Test.YtdjhmdbpcfnpgaaGreatDoorCourtRoundM2
import Derived.Test.YtdjhmdbpcfnpgaaGreatDoorCourtRoundM3
import Derived.Test.YtdjhmdbpcfnpgaaGreatDoorCourtRoundM4
set_option maxHeartbeats 4000000
set_option maxRecDepth 100000
namespace Go.Proofs.YtdjhmdbpcfnpgaaGreatDoor
open Go.RowKit
/- trestle/court.number -/
noncomputable def GM:Code:=BX Tryz.f68
def B6 (x0:(List UInt8)):Nat->Int->Int->Option (((Int)) ⊕ Int)
 | 0,_,_=>none
 | f + 1,c7,c8 =>
  if (decide (c8 < (x0.length:Int)))=true then
  (idx x0 c8).bind fun v10 =>
  (if (decide ((v10.toNat:Int)≥48))=true then (idx x0 c8).bind fun v11 =>
  some (decide ((v11.toNat:Int)<=57)) else some false).bind fun j12 =>
  CE (BJ j12 3) fun v16 =>
  (idx x0 c8).bind fun v17 =>
  B6 x0 f (wr .i64 ((wr .i64 (10 * c7)) + (wr .i64 (wr .u8 ((v17.toNat:Int) - 48))))) (wr .i64 (c8 + 1))
  else
  some (.inl c7)
def Dj (x0:(List UInt8)):Option ((Int) ⊕ Int) :=
 (if (decide ((x0.length:Int)≥1))=true then if (decide ((x0.length:Int)<=9))=true then if ((x0.length:Int)==1)=true then some true else (idx x0 0).bind fun v1 =>
 some ((v1.toNat:Int)!=48) else some false else some false).bind fun j2 =>
 CE (BJ j2 3) fun v6 =>
 CE (B6 x0 100000 0 0) fun r20 =>
 some (.inl r20)
theorem G0 {L:List Asn}(x0:(List UInt8)):∀ (f:Nat) (c7:Int) (c8:Int) (r:((Int)) ⊕ Int),B6 x0 f c7 c8=some r->∀ (hp:Hp),T hp (L)->SemXN E0 ⟨none,false⟩ (pc GM [1,1,1,0,1,0,0]) f ⟨Fr 50 [(0,.st x0),(3,.j c7),(4,.j c8)],hp⟩ (fun e s=>∃ q,r = .inl q/\e=(.exit 0)/\∃ s2,(∃ (h':Hp),T h' (L)/\s2=⟨Fr 50 [(3,.j q)],h'⟩)/\WkY E0 s s2) fun e _=>r = .inr e:=by
 intro f;induction f with
 | zero=>intro c7 c8 r h; cases h
 | succ f ih0 =>
  intro c7 c8 r h  hp hT;unfold B6 at h;refine Io ?_;refine SemX.seq ?_;refine SemX.seq ?_;refine SemX.regionL ?_;refine AG (n:=50) AC 4 [(0,.st x0),(3,.j c7),(4,.j c8),(27,.b (decide (c8 < (x0.length:Int))))] hp (by kernel_rfl) ?_;refine AE rfl (SemX.fr (l':=[(0,.st x0),(3,.j c7),(4,.j c8),(27,.b (decide (c8 < (x0.length:Int))))]) (by kernel_rfl) ?_);refine SemX.cond (b:=(decide (c8 < (x0.length:Int)))) (by kernel_rfl) (fun hb9=>?_) (fun hb9=>?_)
  ·rw [if_pos hb9] at h
   refine SemX.skip ?_;refine SemX.seq ?_;refine SemX.block ?_;refine SemX.seq ?_;refine Al ?_;obtain ⟨v10,hv10,h⟩:=OB h;obtain ⟨j12,hj12,h⟩:=OB h;refine LC 10 (A:=fun s1=>∃ (h':Hp),T h' (L)/\s1=⟨Fr 50 [(0,.st x0),(3,.j c7),(4,.j c8),(39,.b j12)],h'⟩) ?_ ?_
   ·refine AG (n:=50) AC 2 [(0,.st x0),(3,.j c7),(4,.j c8),(30,.st x0),(31,.j c8)] hp (by kernel_rfl) ?_
    refine AH AC 0 rfl (BH (AA rfl) rfl (JL (a:= .st x0) (b:= .j c8) (by kernel_rfl) (by kernel_rfl) (Ho (bs:=x0) (ki:= .i64) (by kernel_rfl) hv10))) ?_;refine AG (n:=50) AC 2 [(0,.st x0),(3,.j c7),(4,.j c8),(34,.b (decide ((v10.toNat:Int)≥48)))] hp (by kernel_rfl) ?_;rcases BE (decide ((v10.toNat:Int)≥48)) with hc18 | hc18
    ·rw [if_pos hc18] at hj12
     rw [hc18];refine AG (n:=50) AC 2 [(0,.st x0),(3,.j c7),(4,.j c8),(34,.b true),(35,.st x0),(36,.j c8)] hp (by kernel_rfl) ?_;obtain ⟨v11,hv11,hj12⟩:=OB hj12;refine AH AC 0 rfl (BH (by kernel_rfl) rfl (JL (a:= .st x0) (b:= .j c8) (by kernel_rfl) (by kernel_rfl) (Ho (bs:=x0) (ki:= .i64) (by kernel_rfl) hv11))) ?_;refine AG (n:=50) AC 2 [(0,.st x0),(3,.j c7),(4,.j c8),(35,.st x0),(36,.j c8),(37,.v (.int .u8 (v11.toNat:Int))),(38,.b (decide ((v11.toNat:Int)<=57))),(39,.b (decide ((v11.toNat:Int)<=57)))] hp (by kernel_rfl) ?_;have hq:=OI hj12; subst hq;exact AE rfl ⟨_,⟨hp,hT,rfl⟩,WkY.f1⟩
    ·rw [Bx hc18] at hj12
     rw [hc18];refine AG (n:=50) AC 5 [(0,.st x0),(3,.j c7),(4,.j c8),(35,.tp []),(36,.tp []),(37,.tp []),(38,.tp []),(39,.b false)] hp (by kernel_rfl) ?_;have hq:=OI hj12; subst hq;exact AE rfl ⟨_,⟨hp,hT,rfl⟩,WkY.f1⟩
   rintro _ ⟨hp14,hT15,rfl⟩;rcases Ak h with ⟨v16,hv16,h⟩ | ⟨v16x,hv16,hv16q⟩
   case inr=>exact CI (caps:=[]) (xs:=[.b j12,.j 3]) (u:=(j12,3,())) rfl rfl Ao rfl (AA rfl) (by kernel_rfl) (by kernel_rfl) (AM (AS (c:=cdB) (v:=j12)) (AM (AS (c:=cdI) (v:=3)) SeesD.nil)) hv16 hv16q
   refine CJ (caps:=[]) (xs:=[.b j12,.j 3]) (u:=(j12,3,())) rfl rfl Ao rfl (AA rfl) (by kernel_rfl) (by kernel_rfl) (AM (AS (c:=cdB) (v:=j12)) (AM (AS (c:=cdI) (v:=3)) SeesD.nil)) (.inl (by kernel_rfl)) hv16 ?_;refine RunX.done rfl (SemX.fr (l':=[(0,.st x0),(3,.j c7),(4,.j c8)]) (by kernel_rfl) ?_);refine SemX.regionL ?_;refine AG (n:=50) AC 4 [(0,.st x0),(4,.j c8),(42,.j (wr .i64 (10 * c7))),(43,.st x0),(44,.j c8)] hp14 (by kernel_rfl) ?_;obtain ⟨v17,hv17,h⟩:=OB h;refine AH AC 0 rfl (BH (AA rfl) rfl (JL (a:= .st x0) (b:= .j c8) (by kernel_rfl) (by kernel_rfl) (Ho (bs:=x0) (ki:= .i64) (by kernel_rfl) hv17))) ?_;refine AG (n:=50) AC 4 [(0,.st x0),(3,.j (wr .i64 ((wr .i64 (10 * c7)) + (wr .i64 (wr .u8 ((v17.toNat:Int) - 48)))))),(4,.j c8)] hp14 (by kernel_rfl) ?_;refine AE rfl (SemX.fr (l':=[(0,.st x0),(3,.j (wr .i64 ((wr .i64 (10 * c7)) + (wr .i64 (wr .u8 ((v17.toNat:Int) - 48)))))),(4,.j c8)]) (by kernel_rfl) ?_);refine SemX.regionL ?_;refine AG (n:=50) AC 3 [(0,.st x0),(3,.j (wr .i64 ((wr .i64 (10 * c7)) + (wr .i64 (wr .u8 ((v17.toNat:Int) - 48)))))),(4,.j (wr .i64 (c8 + 1)))] hp14 (by kernel_rfl) ?_;refine AE rfl ?_;exact FW WkY.f1 (ih0 (wr .i64 ((wr .i64 (10 * c7)) + (wr .i64 (wr .u8 ((v17.toNat:Int) - 48))))) (wr .i64 (c8 + 1)) _ h  hp14 hT15)
  ·rw [Bx hb9] at h
   refine SemX.exit ?_;have hq:=OI h; subst hq;exact ⟨_,rfl,rfl,_,⟨hp,hT,rfl⟩,WkY.f1⟩
theorem Ki {L:List Asn}{hp:Hp}(x0:(List UInt8)) (r:(Int) ⊕ Int) (h:Dj x0=some r) (hT:T hp (L)):SemX E0 ⟨none,false⟩ GM ⟨Fr 50 (BB 0 [.st x0]),hp⟩ (fun x s'=>∃ q,r = .inl q/\(x = .normal\/x = .ret)/\∃ ys,D4 E0.P s'.fr s'.hp Tryz.f68.results.toList=some ys/\(fun v h'=>v = .j q/\T h' (L)) (Eh ys) s'.hp) fun e _=>r = .inr e:=by
 unfold Dj at h;refine Im (Hc (s1:=⟨Fr 50 [(0,.st x0)],hp⟩) WkY.f1 ?_);refine SemX.seq ?_;refine SemX.regionL ?_;refine AG (n:=50) AC 1 [(0,.st x0)] hp (by kernel_rfl) ?_;refine AE rfl (SemX.fr (l':=[(0,.st x0)]) (by kernel_rfl) ?_);refine SemX.seq ?_;refine Al ?_;obtain ⟨j2,hj2,h⟩:=OB h;refine LC 18 (A:=fun s1=>∃ (h':Hp),T h' (L)/\s1=⟨Fr 50 [(0,.st x0),(22,.b j2)],h'⟩) ?_ ?_
 ·refine AG (n:=50) AC 4 [(0,.st x0),(8,.b (decide ((x0.length:Int)≥1)))] hp (by kernel_rfl) ?_
  rcases BE (decide ((x0.length:Int)≥1)) with hc24 | hc24
  ·rw [if_pos hc24] at hj2
   rw [hc24];refine AG (n:=50) AC 5 [(0,.st x0),(13,.b (decide ((x0.length:Int)<=9)))] hp (by kernel_rfl) ?_;rcases BE (decide ((x0.length:Int)<=9)) with hc25 | hc25
   ·rw [if_pos hc25] at hj2
    rw [hc25];refine AG (n:=50) AC 4 [(0,.st x0),(13,.b true),(17,.b ((x0.length:Int)==1))] hp (by kernel_rfl) ?_;rcases BE ((x0.length:Int)==1) with hc26 | hc26
    ·rw [if_pos hc26] at hj2
     rw [hc26];refine AG (n:=50) AC 5 [(0,.st x0),(22,.b true)] hp (by kernel_rfl) ?_;have hq:=OI hj2; subst hq;exact AE rfl ⟨_,⟨hp,hT,rfl⟩,WkY.f1⟩
    ·rw [Bx hc26] at hj2
     rw [hc26];refine AG (n:=50) AC 1 [(0,.st x0),(13,.b true),(17,.b false),(18,.st x0)] hp (by kernel_rfl) ?_;obtain ⟨v1,hv1,hj2⟩:=OB hj2;refine AH AC 0 rfl (BH (by kernel_rfl) rfl (JL (a:= .st x0) (b:= .j 0) (by kernel_rfl) (by kernel_rfl) (Ho (bs:=x0) (ki:= .i64) (by kernel_rfl) hv1))) ?_;refine AG (n:=50) AC 3 [(0,.st x0),(22,.b ((v1.toNat:Int)!=48))] hp (by kernel_rfl) ?_;have hq:=OI hj2; subst hq;exact AE rfl ⟨_,⟨hp,hT,rfl⟩,WkY.f1⟩
   ·rw [Bx hc25] at hj2
    rw [hc25];refine AG (n:=50) AC 9 [(0,.st x0),(22,.b false)] hp (by kernel_rfl) ?_;have hq:=OI hj2; subst hq;exact AE rfl ⟨_,⟨hp,hT,rfl⟩,WkY.f1⟩
  ·rw [Bx hc24] at hj2
   rw [hc24];refine AG (n:=50) AC 14 [(0,.st x0),(22,.b false)] hp (by kernel_rfl) ?_;have hq:=OI hj2; subst hq;exact AE rfl ⟨_,⟨hp,hT,rfl⟩,WkY.f1⟩
 rintro _ ⟨hp4,hT5,rfl⟩;rcases Ak h with ⟨v6,hv6,h⟩ | ⟨v6x,hv6,hv6q⟩
 case inr=>exact CI (caps:=[]) (xs:=[.b j2,.j 3]) (u:=(j2,3,())) rfl rfl Ao rfl (AA rfl) (by kernel_rfl) (by kernel_rfl) (AM (AS (c:=cdB) (v:=j2)) (AM (AS (c:=cdI) (v:=3)) SeesD.nil)) hv6 hv6q
 refine CJ (caps:=[]) (xs:=[.b j2,.j 3]) (u:=(j2,3,())) rfl rfl Ao rfl (AA rfl) (by kernel_rfl) (by kernel_rfl) (AM (AS (c:=cdB) (v:=j2)) (AM (AS (c:=cdI) (v:=3)) SeesD.nil)) (.inl (by kernel_rfl)) hv6 ?_;refine RunX.done rfl (SemX.fr (l':=[(0,.st x0)]) (by kernel_rfl) ?_);refine SemX.seq ?_;refine SemX.regionL ?_;refine AG (n:=50) AC 1 [(0,.st x0),(3,.j 0)] hp4 (by kernel_rfl) ?_;refine AE rfl (SemX.fr (l':=[(0,.st x0),(3,.j 0)]) (by kernel_rfl) ?_);refine SemX.seq ?_;refine SemX.seq ?_;refine SemX.regionL ?_;refine AG (n:=50) AC 1 [(0,.st x0),(3,.j 0),(4,.j 0)] hp4 (by kernel_rfl) ?_;refine AE rfl (SemX.fr (l':=[(0,.st x0),(3,.j 0),(4,.j 0)]) (by kernel_rfl) ?_);refine SemX.block ?_;refine SemX.loop (n:=100000) ?_;rcases Ak h with ⟨r20,hr20,h⟩ | ⟨er21,hr20,hr20q⟩
 case inr=>exact SemXN.inr (FW WkY.f1 (G0 x0 _ 0 0 _ hr20  hp4 hT5)) (fun _=>hr20q)
 refine In (SemXN.inl (FW WkY.f1 (G0 x0 _ 0 0 _ hr20  hp4 hT5))) ?_;rintro _ ⟨hp22,hT23,rfl⟩;refine SemX.seq ?_;refine SemX.regionL ?_;refine AG (n:=50) AC 2 [(2,.j r20)] hp22 (by kernel_rfl) ?_;refine AE rfl (SemX.fr (l':=[(2,.j r20)]) (by kernel_rfl) ?_);refine SemX.ret ?_;have hq:=OI h; subst hq;exact ⟨⟨Fr 50 [(2,.j r20)],hp22⟩,WkY.f1,_,rfl,.inr rfl,[.j r20],(by kernel_rfl),⟨rfl,hT23⟩⟩
def IP:Cs ((List UInt8)×Unit):=(csC cdS csN)
def IT (r:Int):AV:=cdI.enc r
def MD:List AV->Option (AV ⊕ Int):=Ls IP (fun a=>Dj a.1) IT
theorem Fa:TC 68 MD:=by
 refine Il Tryz.func68 (c:=GM) ?h2 ⟨Tryz.call68⟩ IP (fun a=>Dj a.1) IT (fun a=>(by show 1<=50; decide)) ?h3 ?h4
 case h2=>kernel_rfl
 case h3=>intro b; kernel_rfl
 case h4 =>
  intro a r h;refine SemX.mono (Ki (L:=[]) (hp:=[]) a.1 r h T.nil) (fun e s' hs=>?_) (fun _ _ hh=>hh);obtain ⟨q,h0,h1,ys,h2,h3,-⟩:=hs;exact ⟨q,h0,h1,ys,h2,h3⟩
/- strings.Index -/
noncomputable def H7:Code:=BX Tryz.f41
def CN (x0:(List UInt8)) (x1:(List UInt8)):Option (Int) :=
 (CK x0 x1).bind fun v1 =>
 some v1
def Fp:Cs ((List UInt8)×(List UInt8)×Unit):=(csC cdS (csC cdS csN))
def Fu (r:Int):AV:=cdI.enc r
theorem KR (x0:(List UInt8)) (x1:(List UInt8)) (r:Int) (h:CN x0 x1=some r):Sem E0 ⟨none,false⟩ H7 ⟨Fr 8 (BB 0 (Fp.enc (x0,x1,()))),[]⟩ fun e s'=>(e = .normal\/e = .ret)/\∃ xs,D4 E0.P s'.fr s'.hp Tryz.f41.results.toList=some xs/\Eh xs=Fu r:=by
 unfold CN at h;refine CB (DP (s1:=⟨Fr 8 [(0,.st x0),(1,.st x1)],[]⟩) AQ ?_);refine AI ?_;refine AL (s1:=⟨Fr 8 [(0,.st x0),(1,.st x1)],[]⟩) ?_ ?_
 ·refine AD (n:=8) AC 1 [(0,.st x0),(1,.st x1)] [] (by kernel_rfl) ?_
  exact AJ rfl AQ
 refine AI ?_;obtain ⟨v1,hv1,h⟩:=OB h
 let p1:Nat×AV:=(4,.j v1)
 refine AL (s1:=⟨Fr 8 [p1],[]⟩) ?_ ?_
 ·refine AD (n:=8) AC 2 [(5,.st x0),(6,.st x1)] [] (by kernel_rfl) ?_
  refine Af (caps:=[]) (xs:=[.st x0,.st x1]) (u:=(x0,x1,())) rfl rfl Gh rfl (AA rfl) (by kernel_rfl) (by kernel_rfl) (As (BU (c:=cdS) (v:=x0)) (As (BU (c:=cdS) (v:=x1)) B3)) (.inl (by kernel_rfl)) hv1 ?_;refine AD (n:=8) AC 1 [p1] [] (by kernel_rfl) ?_;exact AJ rfl AQ
 refine Ah ?_;have hq:=OI h; subst hq;exact ⟨⟨Fr 8 [p1],[]⟩,AQ,.inr rfl,[.j v1],(by kernel_rfl),(by kernel_rfl)⟩
def Lq:List AV->Option AV:=FZ Fp (fun a=>CN a.1 a.2.1) Fu
theorem Lz:XOk 41 Lq:=by
 refine Az Tryz.func41 (c:=H7) ?h2 ⟨Tryz.call41⟩ Fp (fun a=>CN a.1 a.2.1) Fu (fun a=>(by show 2<=8; decide)) ?h3 ?h4
 case h2=>kernel_rfl
 case h3=>intro b; kernel_rfl
 case h4=>exact fun a b h=>KR a.1 a.2.1 b h
/-- An own block is shortened. -/
theorem QH {E:Env}{n d:Nat}{l:List (Nat×AV)}{hp:Hp}{b k q m:Nat}{t:TypeId}{es zs:List AV}(hb:hp[b]? = some (some ⟨k,t,es++zs,false⟩)) (_:q<=m):WkY E ⟨Fr n ((d,.rf b 0 q m)::l),hp⟩ ⟨Fr n ((d,.rf b 0 q q)::l),hp.set b (some ⟨k,t,es,false⟩)⟩:=by
 intro base w Z R a sr
 obtain ⟨r,arr,us,g1,g2,g3,g4,g5,g6,g7,g8,g9,g10⟩:=sr.hh.blk b _ hb
 have hel:(es++zs).take es.length=es:=by rw [List.take_append_of_le_length (Nat.le_refl _),List.take_of_length_le (Nat.le_refl _)]
 have hput:=sr.hh.put (w':=w) (es:=es) (us:=us.take es.length) (arr:=arr) hb rfl g1 ⟨rfl,rfl,rfl,Nat.le_refl _,fun _ _ _=>rfl⟩ g3 g4 (by have:(es++zs).length<=r.cap:=g5; rw [List.length_append] at this; omega) (by have:=g9.take es.length; rwa [hel] at this) (fun i u hu=>by
  rw [List.getElem?_take] at hu
  split at hu
  ·exact g10 i u hu
  ·cases hu)
 refine ⟨Z,R,⟨hput.1,⟨?_,fun t x hx=>?_⟩,sr.mks.step hput.2,sr.gl.step sr.hh hput.2,sr.bs⟩,hput.2⟩
 ·have:=sr.fr.1; rw [D1] at this ⊢; exact this
 ·have hold:∀ x,(Fr n ((d,.rf b 0 q m)::l))[t]? = some (some x)->VR w Z R x (a.tmps.getD t undef):=fun x h=>sr.fr.2 t x h
  rw [Dv] at hx
  by_cases ht:t < n
  ·rw [if_pos ht] at hx
   injection hx with hx
   rw [Gb] at hx
   by_cases hd:d=t
   ·subst hd
    rw [if_pos rfl] at hx
    injection hx with hx
    subst hx
    have h2:=hold (.rf b 0 q m) (by rw [Dv,if_pos ht,Gb,if_pos rfl])
    generalize a.tmps.getD d undef=u at h2
    cases h2 with
    | rf hr h0 h1 h2 hm=>exact .rf hr (Nat.le_refl _) (Nat.le_trans h0 h1) h2 hm
   ·rw [if_neg hd] at hx
    exact hold x (by rw [Dv,if_pos ht,Gb,if_neg hd,hx])
  ·rw [if_neg ht] at hx; cases hx
def Ub (i:Int) (m:Nat):Bool:=decide (0 < m)&&(decide (0<=i)&&decide (i<=(m:Int)))
section
variable {E:Env}{cx:Cx}{ops:Array Oper}{rest rest':List Oper}{K:St->Prop}{n k d:Nat}{l:List (Nat×AV)}{hp:Hp}{t ty:TypeId}{α:Type}{c:Cd α}{xs:List α}{e:AV}{L:List Asn}
theorem QD (hE:EnvOk E){x y:Operand}{i:Int}{ki:IntKind}{t':TypeId}{pos:String}{af:Array Edge}{g:Option (Nat×Bool)}(ht:T hp (own_ (ocL k t (ocV c)) e xs::L)) (hc:Ub i xs.length=true) (hr:rest=⟨some d,.slice ty x none (some y) none,t',pos,af,g⟩::rest') (hw:A5 ops (Fr n l) ⟨some d,.slice ty x none (some y) none,t',pos,af,g⟩=some true)
  (hx:opA E (Fr n l) x=some e) (hy:opA E (Fr n l) y=some (.v (.int ki i))) (hu:E.P.underlying ty=some (.slice t)) (hs:Bq E.P t=some k) (kk:∀ e' hp',T hp' (own_ (ocL k t (ocV c)) e' (xs.take i.toNat)::L)->RunL E cx ops rest' ⟨Fr n ((d,e')::l),hp'⟩ K):RunL E cx ops rest ⟨Fr n l,hp⟩ K:=by
 unfold Ub at hc
 simp only [Bool.and_eq_true,decide_eq_true_eq] at hc
 obtain ⟨h0,h1,h2⟩:=hc
 obtain ⟨F,p,hn',hk,_⟩:=ht.act
 rcases p with ⟨rfl,rfl,_⟩ | ⟨b,es,F',rfl,hb,rfl,h4⟩
 ·simp at h0
 ·obtain ⟨rfl,rfl⟩:=h4.leaf_inv
  have hi:i.toNat<=xs.length:=by omega
  have hsl:GZ E.P hp ty (.rf b 0 xs.length xs.length) none (some (.v (.int ki i))) none=some (.rf b 0 i.toNat xs.length):=by
   unfold GZ
   have hni:¬ i < 0:=by omega
   simp only [hu,hb,Lb,hni,if_false,hs]
   rw [if_pos ⟨Nat.zero_le _,hi,Nat.le_refl _,.inl rfl,trivial⟩,if_pos h0]
   simp
  refine AH hE 0 hr (BH hw rfl (EO hx rfl (by show (opA E (Fr n l) y).map some=_; rw [hy]; rfl) rfl hsl)) ?_
  refine JD (QH (es:=(xs.take i.toNat).map c.enc) (zs:=(xs.drop i.toNat).map c.enc) (by rw [hb,<-List.map_append,List.take_append_drop]) hi) ?_
  have hlt:=G4 hb
  have hl:(xs.take i.toNat).length=i.toNat:=by rw [List.length_take]; omega
  refine kk _ _ (hk _ _ [b] (.inr ⟨b,(xs.take i.toNat).map c.enc,[],by rw [hl],by simp [hlt],rfl,JR⟩) (by simp) (fun b' hb' _=>?_) (fun b' hb'=> .inl hb'))
  rw [List.getElem?_set,if_neg (by intro e; subst e; simp at hb')]
end
/- strings.genSplit -/
noncomputable def DD:Code:=BX Tryz.f92
def CX (x0:(List UInt8)) (x1:(List UInt8)) (x3:Int):Option ((Int)) :=
 if (decide (x3 < 0))=true then
 (Du x0 x1).bind fun v5 =>
 some (wr .i64 (v5 + 1))
 else
 some x3
def Bd (x0:(List UInt8)) (x1:(List UInt8)) (x2:Int) (r7:Int):Nat->(List UInt8)->Int->(List (List UInt8))->Option (((List UInt8)×Int×(List (List UInt8))))
 | 0,_,_,_=>none
 | f + 1,c15,c16,c17 =>
  if (decide (c16 < (wr .i64 ((mnI r7 (wr .i64 ((x0.length:Int) + 1))) - 1))))=true then
  (CN c15 x1).bind fun v19 =>
  if (decide (v19 < 0))=true then
  some (c15,c16,c17)
  else
  if (Cn 0 (wr .i64 (v19 + x2)) c15.length)=true then
  (idx c17 c16).bind fun v25 =>
  if (Cn (wr .i64 (v19 + (x1.length:Int))) (c15.length:Int) c15.length)=true then
  Bd x0 x1 x2 r7 f ((c15.take (c15.length:Int).toNat).drop (wr .i64 (v19 + (x1.length:Int))).toNat) (wr .i64 (c16 + 1)) (c17.set c16.toNat ((c15.take (wr .i64 (v19 + x2)).toNat).drop (0:Int).toNat))
  else none
  else none
  else
  some (c15,c16,c17)
def D3 (x0:(List UInt8)) (x1:(List UInt8)) (x2:Int) (x3:Int):Option ((List (List UInt8))) :=
 if (x3==0)=true then
 some ([]:(List (List UInt8)))
 else
 if (x1==[])=true then
 none
 else
 (CX x0 x1 x3).bind fun r7 =>
 if (Uf 16 (mnI r7 (wr .i64 ((x0.length:Int) + 1))))=true then
 (Bd x0 x1 x2 r7 100000 x0 0 (List.replicate (mnI r7 (wr .i64 ((x0.length:Int) + 1))).toNat ([]:(List UInt8)))).bind fun r30 =>
 (idx r30.2.2 r30.2.1).bind fun v33 =>
 if (Ub (wr .i64 (r30.2.1 + 1)) (r30.2.2.set r30.2.1.toNat r30.1).length)=true then
 some ((r30.2.2.set r30.2.1.toNat r30.1).take (wr .i64 (r30.2.1 + 1)).toNat)
 else none
 else none
theorem HY {L:List Asn}{hp:Hp}(x0:(List UInt8)) (x1:(List UInt8)) (x3:Int) (x2:Int) (r:(Int)) (h:CX x0 x1 x3=some r) (hT:T hp (L)):SemY E0 ⟨none,false⟩ (pc DD [1,1,1,0,1]) ⟨Fr 66 [(0,.st x0),(1,.st x1),(2,.j x2),(3,.j x3),(20,.b (decide (x3 < 0)))],hp⟩ (fun e s=>e = .normal/\∃ s2,(∃ (h':Hp),T h' (L)/\s2=⟨Fr 66 [(0,.st x0),(1,.st x1),(2,.j x2),(3,.j r)],h'⟩)/\WkY E0 s s2):=by
 unfold CX at h;refine Da (b:=(decide (x3 < 0))) (by kernel_rfl) (fun hb4=>?_) (fun hb4=>?_)
 ·rw [if_pos hb4] at h
  refine SemY.regionL ?_;refine AG (n:=66) AC 2 [(0,.st x0),(1,.st x1),(2,.j x2),(21,.st x0),(22,.st x1)] hp (by kernel_rfl) ?_;obtain ⟨v5,hv5,h⟩:=OB h;refine Eb (v:=v5) (caps:=[]) (xs:=[.st x0,.st x1]) (u:=(x0,x1,())) rfl rfl Gg rfl (AA rfl) (by kernel_rfl) (by kernel_rfl) (AM (AS (c:=cdS) (v:=x0)) (AM (AS (c:=cdS) (v:=x1)) SeesD.nil)) (.inl (by kernel_rfl)) hv5 ?_;refine AG (n:=66) AC 2 [(0,.st x0),(1,.st x1),(2,.j x2),(3,.j (wr .i64 (v5 + 1)))] hp (by kernel_rfl) ?_;refine AE rfl ?_;have hq:=OI h; subst hq;exact ⟨rfl,_,⟨hp,hT,rfl⟩,WkY.f1⟩
 ·rw [Bx hb4] at h
  refine SemY.skip ?_;have hq:=OI h; subst hq;exact ⟨rfl,_,⟨hp,hT,rfl⟩,WkY.f1⟩
theorem HZ {L:List Asn}(x0:(List UInt8)) (x1:(List UInt8)) (x2:Int) (r7:Int) (e14:AV):∀ (f:Nat) (c15:(List UInt8)) (c16:Int) (c17:(List (List UInt8))) (r:((List UInt8)×Int×(List (List UInt8)))),Bd x0 x1 x2 r7 f c15 c16 c17=some r->∀ (hp:Hp),T hp ((own_ (ocL 1 9 (ocV cdS)) e14 c17)::L)->SemYN E0 ⟨none,false⟩ (pc DD [1,1,1,1,1,1,1,1,0,0,0]) f ⟨Fr 66 [(0,.st c15),(1,.st x1),(2,.j x2),(3,.j (wr .i64 ((mnI r7 (wr .i64 ((x0.length:Int) + 1))) - 1))),(9,e14),(10,.j c16)],hp⟩ (fun e s=>e=(.exit 0)/\∃ s2,(∃ (h':Hp),T h' ((own_ (ocL 1 9 (ocV cdS)) e14 r.2.2)::L)/\s2=⟨Fr 66 [(0,.st r.1),(9,e14),(10,.j r.2.1)],h'⟩)/\WkY E0 s s2):=by
 intro f;induction f with
 | zero=>intro c15 c16 c17 r h; cases h
 | succ f ih0 =>
  intro c15 c16 c17 r h  hp hT;unfold Bd at h;refine J8 ?_;refine Aa ?_;refine Aa ?_;refine SemY.regionL ?_
  let p1:Nat×AV:=(36,.b (decide (c16 < (wr .i64 ((mnI r7 (wr .i64 ((x0.length:Int) + 1))) - 1)))))
  let p2:Nat×AV:=(10,.j c16)
  let p3:Nat×AV:=(3,.j (wr .i64 ((mnI r7 (wr .i64 ((x0.length:Int) + 1))) - 1)))
  let p4:Nat×AV:=(2,.j x2)
  refine AG (n:=66) AC 3 [(0,.st c15),(1,.st x1),p4,p3,(9,e14),p2,p1] hp (by kernel_rfl) ?_;refine AE rfl (SemY.fr (l':=[(0,.st c15),(1,.st x1),p4,p3,(9,e14),p2,p1]) (by kernel_rfl) ?_);refine Da (b:=(decide (c16 < (wr .i64 ((mnI r7 (wr .i64 ((x0.length:Int) + 1))) - 1))))) (by kernel_rfl) (fun hb18=>?_) (fun hb18=>?_)
  ·rw [if_pos hb18] at h
   refine SemY.skip ?_;refine GJ ?_;refine Aa ?_;refine SemY.regionL ?_;refine AG (n:=66) AC 2 [(0,.st c15),(1,.st x1),p4,p3,(9,e14),p2,(37,.st c15),(38,.st x1)] hp (by kernel_rfl) ?_;obtain ⟨v19,hv19,h⟩:=OB h;refine Eb (v:=v19) (caps:=[]) (xs:=[.st c15,.st x1]) (u:=(c15,x1,())) rfl rfl Lz rfl (AA rfl) (by kernel_rfl) (by kernel_rfl) (AM (AS (c:=cdS) (v:=c15)) (AM (AS (c:=cdS) (v:=x1)) SeesD.nil)) (.inl (by kernel_rfl)) hv19 ?_
   let p5:Nat×AV:=(11,.j v19)
   refine AG (n:=66) AC 1 [(0,.st c15),(1,.st x1),p4,p3,(9,e14),p2,p5] hp (by kernel_rfl) ?_;refine AE rfl (SemY.fr (l':=[(0,.st c15),(1,.st x1),p4,p3,(9,e14),p2,p5]) (by kernel_rfl) ?_);refine Aa ?_;refine Aa ?_;refine SemY.regionL ?_
   let p6:Nat×AV:=(41,.b (decide (v19 < 0)))
   refine AG (n:=66) AC 2 [(0,.st c15),(1,.st x1),p4,p3,(9,e14),p2,p5,p6] hp (by kernel_rfl) ?_;refine AE rfl (SemY.fr (l':=[(0,.st c15),(1,.st x1),p4,p3,(9,e14),p2,p5,p6]) (by kernel_rfl) ?_);refine Da (b:=(decide (v19 < 0))) (by kernel_rfl) (fun hb20=>?_) (fun hb20=>?_)
   ·rw [if_pos hb20] at h
    refine SemY.exit ?_;have hq:=OI h; subst hq;exact ⟨rfl,_,⟨hp,hT,rfl⟩,WkY.f1⟩
   ·rw [Bx hb20] at h
    refine SemY.skip ?_;refine Aa ?_;refine SemY.regionL ?_;refine AG (n:=66) AC 6 [(0,.st c15),(1,.st x1),p4,p3,(9,e14),p2,p5,(42,e14),(43,.j c16),(44,.st c15),(47,.j (wr .i64 (v19 + x2)))] hp (by kernel_rfl) ?_;by_cases hk24:(Cn 0 (wr .i64 (v19 + x2)) c15.length)=true
    case neg=>rw [if_neg hk24] at h; cases h
    rw [if_pos hk24] at h;refine AH AC 0 rfl (BH (AA rfl) rfl (EO (a:= .st c15) (l:=none) (u:=(some (.j (wr .i64 (v19 + x2))))) (m:=none) (by kernel_rfl) (by kernel_rfl) (by kernel_rfl) rfl (FY (bs:=c15) (lo:=0) (hi:=(wr .i64 (v19 + x2))) (by kernel_rfl) rfl (Fd (Ji hk24)) hk24))) ?_;obtain ⟨v25,hv25,h⟩:=OB h;refine AH AC 0 rfl (BH (AA rfl) rfl (BW (a:=e14) (b:= .j c16) (by kernel_rfl) (by kernel_rfl) (XC (bytes:=16) hT (by kernel_rfl) hv25))) ?_;obtain ⟨hp26,hs27,hT280⟩:=RT (P:=Tryz.prog) (ty:=9) (y:= .st ((c15.take (wr .i64 (v19 + x2)).toNat).drop (0:Int).toNat)) (v':=((c15.take (wr .i64 (v19 + x2)).toNat).drop (0:Int).toNat)) hT (PP hv25).2 (by kernel_rfl) (by kernel_rfl) (by kernel_rfl)
    have hT28:T hp26 ((own_ (ocL 1 9 (ocV cdS)) e14 (c17.set c16.toNat ((c15.take (wr .i64 (v19 + x2)).toNat).drop (0:Int).toNat)))::L):=hT280
    refine RunL.store AC (y:=eAt e14 c16.toNat) (z:= .st ((c15.take (wr .i64 (v19 + x2)).toNat).drop (0:Int).toNat)) rfl (AA rfl) (by kernel_rfl) (by kernel_rfl) hs27 ?_;refine AE rfl (SemY.fr (l':=[(0,.st c15),(1,.st x1),p4,p3,(9,e14),p2,p5]) (by kernel_rfl) ?_);refine Aa ?_;refine SemY.regionL ?_;refine AG (n:=66) AC 5 [(1,.st x1),p4,p3,(9,e14),p2,(50,.st c15),(54,.j (wr .i64 (v19 + (x1.length:Int))))] hp26 (by kernel_rfl) ?_;by_cases hk29:(Cn (wr .i64 (v19 + (x1.length:Int))) (c15.length:Int) c15.length)=true
    case neg=>rw [if_neg hk29] at h; cases h
    rw [if_pos hk29] at h;refine AH AC 0 rfl (BH (AA rfl) rfl (EO (a:= .st c15) (l:=(some (.j (wr .i64 (v19 + (x1.length:Int)))))) (u:=none) (m:=none) (by kernel_rfl) (by kernel_rfl) (by kernel_rfl) rfl (FY (bs:=c15) (lo:=(wr .i64 (v19 + (x1.length:Int)))) (hi:=(c15.length:Int)) (by kernel_rfl) (Fd (KY hk29)) rfl hk29))) ?_
    let p7:Nat×AV:=(0,.st ((c15.take (c15.length:Int).toNat).drop (wr .i64 (v19 + (x1.length:Int))).toNat))
    refine AG (n:=66) AC 1 [p7,(1,.st x1),p4,p3,(9,e14),p2] hp26 (by kernel_rfl) ?_;refine AE rfl (SemY.fr (l':=[p7,(1,.st x1),p4,p3,(9,e14),p2]) (by kernel_rfl) ?_);refine SemY.regionL ?_;refine AG (n:=66) AC 3 [p7,(1,.st x1),p4,p3,(9,e14),(10,.j (wr .i64 (c16 + 1)))] hp26 (by kernel_rfl) ?_;refine AE rfl ?_;exact Ip WkY.f1 (ih0 ((c15.take (c15.length:Int).toNat).drop (wr .i64 (v19 + (x1.length:Int))).toNat) (wr .i64 (c16 + 1)) (c17.set c16.toNat ((c15.take (wr .i64 (v19 + x2)).toNat).drop (0:Int).toNat)) _ h  hp26 hT28)
  ·rw [Bx hb18] at h
   refine SemY.exit ?_;have hq:=OI h; subst hq;exact ⟨rfl,_,⟨hp,hT,rfl⟩,WkY.f1⟩
theorem IE {L:List Asn}{hp:Hp}(x0:(List UInt8)) (x1:(List UInt8)) (x2:Int) (x3:Int) (r:(List (List UInt8))) (h:D3 x0 x1 x2 x3=some r) (hT:T hp (L)):SemY E0 ⟨none,false⟩ DD ⟨Fr 66 (BB 0 [.st x0,.st x1,.j x2,.j x3]),hp⟩ fun x s'=>(x = .normal\/x = .ret)/\∃ ys,D4 E0.P s'.fr s'.hp Tryz.f92.results.toList=some ys/\(fun v h'=>∃ (z0:AV),v=z0/\T h' ((own_ (ocL 1 9 (ocV cdS)) z0 r)::L)) (Eh ys) s'.hp:=by
 unfold D3 at h
 let p1:Nat×AV:=(3,.j x3)
 let p2:Nat×AV:=(2,.j x2)
 refine FX (G8 (s1:=⟨Fr 66 [(0,.st x0),(1,.st x1),p2,p1],hp⟩) WkY.f1 ?_);refine Aa ?_;refine SemY.regionL ?_;refine AG (n:=66) AC 1 [(0,.st x0),(1,.st x1),p2,p1] hp (by kernel_rfl) ?_;refine AE rfl (SemY.fr (l':=[(0,.st x0),(1,.st x1),p2,p1]) (by kernel_rfl) ?_);refine Aa ?_;refine Aa ?_;refine SemY.regionL ?_;refine AG (n:=66) AC 2 [(0,.st x0),(1,.st x1),p2,p1,(13,.b (x3==0))] hp (by kernel_rfl) ?_;refine AE rfl (SemY.fr (l':=[(0,.st x0),(1,.st x1),p2,p1,(13,.b (x3==0))]) (by kernel_rfl) ?_);refine Da (b:=(x3==0)) (by kernel_rfl) (fun hb1=>?_) (fun hb1=>?_)
 ·rw [if_pos hb1] at h
  refine Aa ?_;refine SemY.regionL ?_;refine AG (n:=66) AC 1 [(8,.e0)] hp (by kernel_rfl) ?_;refine AE rfl (SemY.fr (l':=[(8,.e0)]) (by kernel_rfl) ?_);refine SemY.ret ?_;have hq:=OI h; subst hq
  have hT2:T hp ((own_ (ocL 1 9 (ocV cdS)) .e0 ([]:(List (List UInt8))))::L):=(T.e0 (o:=(ocV cdS)) hT)
  exact ⟨⟨Fr 66 [(8,.e0)],hp⟩,WkY.f1,.inr rfl,[.e0],(by kernel_rfl),⟨.e0,rfl,hT2⟩⟩
 ·rw [Bx hb1] at h
  refine SemY.skip ?_;refine Aa ?_;refine Aa ?_;refine SemY.regionL ?_;refine AG (n:=66) AC 2 [(0,.st x0),(1,.st x1),p2,p1,(15,.b (x1==[]))] hp (by kernel_rfl) ?_;refine AE rfl (SemY.fr (l':=[(0,.st x0),(1,.st x1),p2,p1,(15,.b (x1==[]))]) (by kernel_rfl) ?_);refine Da (b:=(x1==[])) (by kernel_rfl) (fun hb3=>?_) (fun hb3=>?_)
  ·rw [if_pos hb3] at h
   refine Aa ?_;cases h
  ·rw [Bx hb3] at h
   refine SemY.skip ?_;refine Aa ?_;refine Aa ?_;refine SemY.regionL ?_;refine AG (n:=66) AC 2 [(0,.st x0),(1,.st x1),p2,p1,(20,.b (decide (x3 < 0)))] hp (by kernel_rfl) ?_;refine AE rfl (SemY.fr (l':=[(0,.st x0),(1,.st x1),p2,p1,(20,.b (decide (x3 < 0)))]) (by kernel_rfl) ?_);obtain ⟨r7,hr7,h⟩:=OB h;refine HN (HY x0 x1 x3 x2 _ hr7 hT) ?_;rintro _ ⟨hp8,hT9,rfl⟩;refine Aa ?_;refine SemY.regionL ?_
   let p3:Nat×AV:=(3,.j (mnI r7 (wr .i64 ((x0.length:Int) + 1))))
   refine AG (n:=66) AC 6 [(0,.st x0),(1,.st x1),p2,p3] hp8 (by kernel_rfl) ?_;refine AE rfl (SemY.fr (l':=[(0,.st x0),(1,.st x1),p2,p3]) (by kernel_rfl) ?_);refine Aa ?_;refine SemY.regionL ?_;refine AG (n:=66) AC 1 [(0,.st x0),(1,.st x1),p2,p3,(30,.j (mnI r7 (wr .i64 ((x0.length:Int) + 1))))] hp8 (by kernel_rfl) ?_;by_cases hk10:(Uf 16 (mnI r7 (wr .i64 ((x0.length:Int) + 1))))=true
   case neg=>rw [if_neg hk10] at h; cases h
   rw [if_pos hk10] at h;obtain ⟨e14,hp11,hb12,hT130⟩:=Q2 (P:=Tryz.prog) (o:=(ocV cdS)) (k:=1) (t:=9) (ty:=45) (bytes:=16) (kn:= .i64) (kc:= .i64) (m:=(mnI r7 (wr .i64 ((x0.length:Int) + 1)))) (x0:=[]) hT9 (fun _=>⟨rfl,rfl⟩) (by kernel_rfl) (by kernel_rfl) hk10
   have hT13:T hp11 ((own_ (ocL 1 9 (ocV cdS)) e14 (List.replicate (mnI r7 (wr .i64 ((x0.length:Int) + 1))).toNat ([]:(List UInt8))))::L):=hT130
   refine AH AC 0 rfl (UL (AA rfl) rfl (by kernel_rfl) (VQ (x:= .j (mnI r7 (wr .i64 ((x0.length:Int) + 1)))) (y:= .j (mnI r7 (wr .i64 ((x0.length:Int) + 1)))) (by kernel_rfl) (by kernel_rfl) hb12)) ?_;refine AG (n:=66) AC 1 [(0,.st x0),(1,.st x1),p2,p3,(9,e14)] hp11 (by kernel_rfl) ?_;refine AE rfl (SemY.fr (l':=[(0,.st x0),(1,.st x1),p2,p3,(9,e14)]) (by kernel_rfl) ?_);refine Aa ?_;refine SemY.regionL ?_
   let p4:Nat×AV:=(3,.j (wr .i64 ((mnI r7 (wr .i64 ((x0.length:Int) + 1))) - 1)))
   refine AG (n:=66) AC 3 [(0,.st x0),(1,.st x1),p2,p4,(9,e14)] hp11 (by kernel_rfl) ?_;refine AE rfl (SemY.fr (l':=[(0,.st x0),(1,.st x1),p2,p4,(9,e14)]) (by kernel_rfl) ?_);refine Aa ?_;refine SemY.regionL ?_;refine AG (n:=66) AC 1 [(0,.st x0),(1,.st x1),p2,p4,(9,e14),(10,.j 0)] hp11 (by kernel_rfl) ?_;refine AE rfl (SemY.fr (l':=[(0,.st x0),(1,.st x1),p2,p4,(9,e14),(10,.j 0)]) (by kernel_rfl) ?_);refine Aa ?_;refine GJ ?_;refine SemY.loop (n:=100000) ?_;obtain ⟨r30,hr30,h⟩:=OB h;refine J7 (Ip WkY.f1 (HZ x0 x1 x2 r7 e14 _ x0 0 (List.replicate (mnI r7 (wr .i64 ((x0.length:Int) + 1))).toNat ([]:(List UInt8))) _ hr30  hp11 hT13)) ?_;rintro _ ⟨hp31,hT32,rfl⟩;refine Aa ?_;refine SemY.regionL ?_;refine AG (n:=66) AC 3 [(9,e14),(10,.j r30.2.1),(58,e14),(59,.j r30.2.1),(60,.st r30.1)] hp31 (by kernel_rfl) ?_;obtain ⟨v33,hv33,h⟩:=OB h;refine AH AC 0 rfl (BH (AA rfl) rfl (BW (a:=e14) (b:= .j r30.2.1) (by kernel_rfl) (by kernel_rfl) (XC (bytes:=16) hT32 (by kernel_rfl) hv33))) ?_;obtain ⟨hp34,hs35,hT360⟩:=RT (P:=Tryz.prog) (ty:=9) (y:= .st r30.1) (v':=r30.1) hT32 (PP hv33).2 (by kernel_rfl) (by kernel_rfl) (by kernel_rfl)
   have hT36:T hp34 ((own_ (ocL 1 9 (ocV cdS)) e14 (r30.2.2.set r30.2.1.toNat r30.1))::L):=hT360
   refine RunL.store AC (y:=eAt e14 r30.2.1.toNat) (z:= .st r30.1) rfl (AA rfl) (by kernel_rfl) (by kernel_rfl) hs35 ?_;refine AE rfl (SemY.fr (l':=[(9,e14),(10,.j r30.2.1)]) (by kernel_rfl) ?_);refine Aa ?_;refine SemY.regionL ?_;refine AG (n:=66) AC 3 [(62,e14),(64,.j (wr .i64 (r30.2.1 + 1)))] hp34 (by kernel_rfl) ?_;by_cases hk37:(Ub (wr .i64 (r30.2.1 + 1)) (r30.2.2.set r30.2.1.toNat r30.1).length)=true
   case neg=>rw [if_neg hk37] at h; cases h
   rw [if_pos hk37] at h;refine QD (ki:= .i64) (i:=(wr .i64 (r30.2.1 + 1))) AC hT36 hk37 rfl (AA rfl) (by kernel_rfl) (by kernel_rfl) (by kernel_rfl) (by kernel_rfl) ?_;intro e38 hp39 hT400
   have hT40:T hp39 ((own_ (ocL 1 9 (ocV cdS)) e38 ((r30.2.2.set r30.2.1.toNat r30.1).take (wr .i64 (r30.2.1 + 1)).toNat))::L):=hT400
   refine AG (n:=66) AC 1 [(8,e38)] hp39 (by kernel_rfl) ?_;refine AE rfl (SemY.fr (l':=[(8,e38)]) (by kernel_rfl) ?_);refine SemY.ret ?_;have hq:=OI h; subst hq;exact ⟨⟨Fr 66 [(8,e38)],hp39⟩,WkY.f1,.inr rfl,[e38],(by kernel_rfl),⟨e38,rfl,hT40⟩⟩
/- strings.Split -/
noncomputable def Gj:Code:=BX Tryz.f65
def EE (x0:(List UInt8)) (x1:(List UInt8)):Option ((List (List UInt8))) :=
 (D3 x0 x1 0 (-1)).bind fun v1 =>
 some v1
theorem JM {L:List Asn}{hp:Hp}(x0:(List UInt8)) (x1:(List UInt8)) (r:(List (List UInt8))) (h:EE x0 x1=some r) (hT:T hp (L)):SemY E0 ⟨none,false⟩ Gj ⟨Fr 8 (BB 0 [.st x0,.st x1]),hp⟩ fun x s'=>(x = .normal\/x = .ret)/\∃ ys,D4 E0.P s'.fr s'.hp Tryz.f65.results.toList=some ys/\(fun v h'=>∃ (z0:AV),v=z0/\T h' ((own_ (ocL 1 9 (ocV cdS)) z0 r)::L)) (Eh ys) s'.hp:=by
 unfold EE at h;refine FX (G8 (s1:=⟨Fr 8 [(0,.st x0),(1,.st x1)],hp⟩) WkY.f1 ?_);refine Aa ?_;refine SemY.regionL ?_;refine AG (n:=8) AC 1 [(0,.st x0),(1,.st x1)] hp (by kernel_rfl) ?_;refine AE rfl (SemY.fr (l':=[(0,.st x0),(1,.st x1)]) (by kernel_rfl) ?_);refine Aa ?_;refine SemY.regionL ?_;refine AG (n:=8) AC 2 [(5,.st x0),(6,.st x1)] hp (by kernel_rfl) ?_;obtain ⟨v1,hv1,h⟩:=OB h;refine Fb (E:=E0) (e:=E0) rfl rfl AC rfl rfl (fid:=92) (caps:=[]) (xs:=[.st x0,.st x1,.j 0,.j (-1)]) (fn:=Tryz.f92) (c:=DD) (Out:=fun v h'=>∃ (z0:AV),v=z0/\T h' ((own_ (ocL 1 9 (ocV cdS)) z0 v1)::L)) rfl (AA rfl) (by kernel_rfl) (by kernel_rfl) (by kernel_rfl) (by kernel_rfl) (by show 4<=66; decide) (IE x0 x1 0 (-1) _ hv1 hT) ?_;rintro xx hp3 ⟨e2,hqhp3,hT40⟩; subst xx
 have hT4:T hp3 ((own_ (ocL 1 9 (ocV cdS)) e2 v1)::L):=hT40
 refine AG (n:=8) AC 1 [(4,e2)] hp3 (by kernel_rfl) ?_;refine AE rfl (SemY.fr (l':=[(4,e2)]) (by kernel_rfl) ?_);refine SemY.ret ?_;have hq:=OI h; subst hq;exact ⟨⟨Fr 8 [(4,e2)],hp3⟩,WkY.f1,.inr rfl,[e2],(by kernel_rfl),⟨e2,rfl,hT4⟩⟩
/- (*trestle/court.reader).next -/
noncomputable def Dz:Code:=BX Tryz.f66
def Dq (x0:((List (List UInt8)))):Option (((List UInt8)×(List (List UInt8))) ⊕ Int) :=
 CE (BJ (decide ((x0.length:Int) > 0)) 3) fun v1 =>
 (idx x0 0).bind fun v2 =>
 if (Cn 1 (x0.length:Int) x0.length)=true then
 some (.inl (v2,((x0.take (x0.length:Int).toNat).drop (1:Int).toNat)))
 else none
theorem FA {L:List Asn}{hp:Hp}(u0:AV) (x0:((List (List UInt8)))) (r:((List UInt8)×(List (List UInt8))) ⊕ Int) (h:Dq x0=some r) (hT:T hp ((cel u0 1 126 (.ag [.sl 1 (x0.map cdS.enc)]))::L)):SemX E0 ⟨none,false⟩ Dz ⟨Fr 26 (BB 0 [u0]),hp⟩ (fun x s'=>∃ q,r = .inl q/\(x = .normal\/x = .ret)/\∃ ys,D4 E0.P s'.fr s'.hp Tryz.f66.results.toList=some ys/\(fun v h'=>v = .st q.1/\T h' ((cel u0 1 126 (.sl 1 (q.2.map cdS.enc)))::L)) (Eh ys) s'.hp) fun e _=>r = .inr e:=by
 unfold Dq at h;refine Im (Hc (s1:=⟨Fr 26 [(0,u0)],hp⟩) WkY.f1 ?_);refine SemX.seq ?_;refine SemX.regionL ?_;refine AG (n:=26) AC 1 [(0,u0)] hp (by kernel_rfl) ?_;refine AE rfl (SemX.fr (l':=[(0,u0)]) (by kernel_rfl) ?_);refine SemX.seq ?_;refine Al ?_;refine RunX.pre 6 ?_;refine AG (n:=26) AC 1 [(0,u0),(4,u0)] hp (by kernel_rfl) ?_;refine AH AC 0 rfl (BH (AA rfl) rfl (Fz (Ck hT) (by kernel_rfl))) ?_;refine AH AC 0 rfl (BH (AA rfl) rfl (C0 (a:=u0) (by kernel_rfl) (Bb (off:=0) hT (by kernel_rfl)))) ?_;refine AH AC 0 rfl (BH (AA rfl) rfl (Bz (p:=ER u0 0) (by kernel_rfl) (CZ (off:=0) (y:= .sl 1 (x0.map cdS.enc)) (m:=1) (g:=false) hT (by kernel_rfl) (by kernel_rfl) (by kernel_rfl)))) ?_;refine AH AC 0 rfl (BH (AA rfl) rfl (FT (a:= .sl 1 (x0.map cdS.enc)) (by kernel_rfl) (Dx (el:=9) (by kernel_rfl)))) ?_;refine AG (n:=26) AC 1 [(0,u0),(9,.b (decide ((x0.length:Int) > 0)))] hp (by kernel_rfl) ?_;refine AE rfl ?_;rcases Ak h with ⟨v1,hv1,h⟩ | ⟨v1x,hv1,hv1q⟩
 case inr=>exact CI (caps:=[]) (xs:=[.b (decide ((x0.length:Int) > 0)),.j 3]) (u:=((decide ((x0.length:Int) > 0)),3,())) rfl rfl Ao rfl (AA rfl) (by kernel_rfl) (by kernel_rfl) (AM (AS (c:=cdB) (v:=(decide ((x0.length:Int) > 0)))) (AM (AS (c:=cdI) (v:=3)) SeesD.nil)) hv1 hv1q
 refine CJ (caps:=[]) (xs:=[.b (decide ((x0.length:Int) > 0)),.j 3]) (u:=((decide ((x0.length:Int) > 0)),3,())) rfl rfl Ao rfl (AA rfl) (by kernel_rfl) (by kernel_rfl) (AM (AS (c:=cdB) (v:=(decide ((x0.length:Int) > 0)))) (AM (AS (c:=cdI) (v:=3)) SeesD.nil)) (.inl (by kernel_rfl)) hv1 ?_;refine RunX.done rfl (SemX.fr (l':=[(0,u0)]) (by kernel_rfl) ?_);refine SemX.seq ?_;refine SemX.regionL ?_;refine AG (n:=26) AC 1 [(0,u0),(11,u0)] hp (by kernel_rfl) ?_;refine AH AC 0 rfl (BH (AA rfl) rfl (Fz (Ck hT) (by kernel_rfl))) ?_;refine AH AC 0 rfl (BH (AA rfl) rfl (C0 (a:=u0) (by kernel_rfl) (Bb (off:=0) hT (by kernel_rfl)))) ?_;refine AH AC 0 rfl (BH (AA rfl) rfl (Bz (p:=ER u0 0) (by kernel_rfl) (CZ (off:=0) (y:= .sl 1 (x0.map cdS.enc)) (m:=1) (g:=false) hT (by kernel_rfl) (by kernel_rfl) (by kernel_rfl)))) ?_;obtain ⟨v2,hv2,h⟩:=OB h;refine AH AC 0 rfl (BH (AA rfl) rfl (BW (a:= .sl 1 (x0.map cdS.enc)) (b:= .j 0) (by kernel_rfl) (by kernel_rfl) (Iy (e:=cdS.enc) (el:=9) (k:=1) (ki:= .i64) (by kernel_rfl) (by kernel_rfl) hv2))) ?_;refine AG (n:=26) AC 2 [(0,u0),(3,.st v2)] hp (by kernel_rfl) ?_;refine AE rfl (SemX.fr (l':=[(0,u0),(3,.st v2)]) (by kernel_rfl) ?_);refine SemX.seq ?_;refine SemX.regionL ?_;refine AG (n:=26) AC 2 [(3,.st v2),(17,u0),(18,u0)] hp (by kernel_rfl) ?_;refine AH AC 0 rfl (BH (AA rfl) rfl (Fz (Ck hT) (by kernel_rfl))) ?_;refine AH AC 0 rfl (BH (AA rfl) rfl (C0 (a:=u0) (by kernel_rfl) (Bb (off:=0) hT (by kernel_rfl)))) ?_;refine AH AC 0 rfl (BH (AA rfl) rfl (Bz (p:=ER u0 0) (by kernel_rfl) (CZ (off:=0) (y:= .sl 1 (x0.map cdS.enc)) (m:=1) (g:=false) hT (by kernel_rfl) (by kernel_rfl) (by kernel_rfl)))) ?_;by_cases hk3:(Cn 1 (x0.length:Int) x0.length)=true
 case neg=>rw [if_neg hk3] at h; cases h
 rw [if_pos hk3] at h;refine AH AC 0 rfl (BH (AA rfl) rfl (EO (a:= .sl 1 (x0.map cdS.enc)) (l:=(some (.j 1))) (u:=none) (m:=none) (by kernel_rfl) (by kernel_rfl) (by kernel_rfl) rfl (Jt (xs:=x0) (e:=cdS.enc) (k:=1) (el:=9) (lo:=1) (hi:=(x0.length:Int)) (by kernel_rfl) (by kernel_rfl) (Fd (KY hk3)) rfl hk3))) ?_;refine AH AC 0 rfl (BH (AA rfl) rfl (Fz (Ck hT) (by kernel_rfl))) ?_;refine AH AC 0 rfl (BH (AA rfl) rfl (C0 (a:=u0) (by kernel_rfl) (Bb (off:=0) hT (by kernel_rfl)))) ?_;obtain ⟨hp4,hs5,hT60⟩:=F7 (off:=0) (P:=Tryz.prog) (ty:=45) (y:= .sl 1 (((x0.take (x0.length:Int).toNat).drop (1:Int).toNat).map cdS.enc)) (a':= .sl 1 (((x0.take (x0.length:Int).toNat).drop (1:Int).toNat).map cdS.enc)) hT (by kernel_rfl) (by kernel_rfl) (by kernel_rfl)
 have hT6:T hp4 ((cel u0 1 126 (.sl 1 (((x0.take (x0.length:Int).toNat).drop (1:Int).toNat).map cdS.enc)))::L):=hT60
 refine RunL.store AC (y:=ER u0 0) (z:= .sl 1 (((x0.take (x0.length:Int).toNat).drop (1:Int).toNat).map cdS.enc)) rfl (AA rfl) (by kernel_rfl) (by kernel_rfl) hs5 ?_;refine AE rfl (SemX.fr (l':=[(3,.st v2)]) (by kernel_rfl) ?_);refine SemX.seq ?_;refine SemX.regionL ?_;refine AG (n:=26) AC 2 [(2,.st v2)] hp4 (by kernel_rfl) ?_;refine AE rfl (SemX.fr (l':=[(2,.st v2)]) (by kernel_rfl) ?_);refine SemX.ret ?_;have hq:=OI h; subst hq;exact ⟨⟨Fr 26 [(2,.st v2)],hp4⟩,WkY.f1,_,rfl,.inr rfl,[.st v2],(by kernel_rfl),⟨rfl,hT6⟩⟩
/- (*trestle/court.reader).next -/
noncomputable def Aj:Code:=BX Tryz.f66
def A6 (x0:(List (List UInt8))):Option (((List UInt8)×(List (List UInt8))) ⊕ Int) :=
 CE (BJ (decide ((x0.length:Int) > 0)) 3) fun v1 =>
 (idx x0 0).bind fun v2 =>
 if (Cn 1 (x0.length:Int) x0.length)=true then
 some (.inl (v2,((x0.take (x0.length:Int).toNat).drop (1:Int).toNat)))
 else none
theorem An {L:List Asn}{hp:Hp}(u0:AV) (x0:(List (List UInt8))) (r:((List UInt8)×(List (List UInt8))) ⊕ Int) (h:A6 x0=some r) (hT:T hp ((cel u0 1 126 (.sl 1 (x0.map cdS.enc)))::L)):SemX E0 ⟨none,false⟩ Aj ⟨Fr 26 (BB 0 [u0]),hp⟩ (fun x s'=>∃ q,r = .inl q/\(x = .normal\/x = .ret)/\∃ ys,D4 E0.P s'.fr s'.hp Tryz.f66.results.toList=some ys/\(fun v h'=>v = .st q.1/\T h' ((cel u0 1 126 (.sl 1 (q.2.map cdS.enc)))::L)) (Eh ys) s'.hp) fun e _=>r = .inr e:=by
 unfold A6 at h;refine Im (Hc (s1:=⟨Fr 26 [(0,u0)],hp⟩) WkY.f1 ?_);refine SemX.seq ?_;refine SemX.regionL ?_;refine AG (n:=26) AC 1 [(0,u0)] hp (by kernel_rfl) ?_;refine AE rfl (SemX.fr (l':=[(0,u0)]) (by kernel_rfl) ?_);refine SemX.seq ?_;refine Al ?_;refine RunX.pre 6 ?_;refine AG (n:=26) AC 1 [(0,u0),(4,u0)] hp (by kernel_rfl) ?_;refine AH AC 0 rfl (BH (AA rfl) rfl (Fz (Ck hT) (by kernel_rfl))) ?_;refine AH AC 0 rfl (BH (AA rfl) rfl (C0 (a:=u0) (by kernel_rfl) (Bb (off:=0) hT (by kernel_rfl)))) ?_;refine AH AC 0 rfl (BH (AA rfl) rfl (Bz (p:=ER u0 0) (by kernel_rfl) (CZ (off:=0) (y:= .sl 1 (x0.map cdS.enc)) (m:=1) (g:=false) hT (by kernel_rfl) (by kernel_rfl) (by kernel_rfl)))) ?_;refine AH AC 0 rfl (BH (AA rfl) rfl (FT (a:= .sl 1 (x0.map cdS.enc)) (by kernel_rfl) (Dx (el:=9) (by kernel_rfl)))) ?_;refine AG (n:=26) AC 1 [(0,u0),(9,.b (decide ((x0.length:Int) > 0)))] hp (by kernel_rfl) ?_;refine AE rfl ?_;rcases Ak h with ⟨v1,hv1,h⟩ | ⟨v1x,hv1,hv1q⟩
 case inr=>exact CI (caps:=[]) (xs:=[.b (decide ((x0.length:Int) > 0)),.j 3]) (u:=((decide ((x0.length:Int) > 0)),3,())) rfl rfl Ao rfl (AA rfl) (by kernel_rfl) (by kernel_rfl) (AM (AS (c:=cdB) (v:=(decide ((x0.length:Int) > 0)))) (AM (AS (c:=cdI) (v:=3)) SeesD.nil)) hv1 hv1q
 refine CJ (caps:=[]) (xs:=[.b (decide ((x0.length:Int) > 0)),.j 3]) (u:=((decide ((x0.length:Int) > 0)),3,())) rfl rfl Ao rfl (AA rfl) (by kernel_rfl) (by kernel_rfl) (AM (AS (c:=cdB) (v:=(decide ((x0.length:Int) > 0)))) (AM (AS (c:=cdI) (v:=3)) SeesD.nil)) (.inl (by kernel_rfl)) hv1 ?_;refine RunX.done rfl (SemX.fr (l':=[(0,u0)]) (by kernel_rfl) ?_);refine SemX.seq ?_;refine SemX.regionL ?_;refine AG (n:=26) AC 1 [(0,u0),(11,u0)] hp (by kernel_rfl) ?_;refine AH AC 0 rfl (BH (AA rfl) rfl (Fz (Ck hT) (by kernel_rfl))) ?_;refine AH AC 0 rfl (BH (AA rfl) rfl (C0 (a:=u0) (by kernel_rfl) (Bb (off:=0) hT (by kernel_rfl)))) ?_;refine AH AC 0 rfl (BH (AA rfl) rfl (Bz (p:=ER u0 0) (by kernel_rfl) (CZ (off:=0) (y:= .sl 1 (x0.map cdS.enc)) (m:=1) (g:=false) hT (by kernel_rfl) (by kernel_rfl) (by kernel_rfl)))) ?_;obtain ⟨v2,hv2,h⟩:=OB h;refine AH AC 0 rfl (BH (AA rfl) rfl (BW (a:= .sl 1 (x0.map cdS.enc)) (b:= .j 0) (by kernel_rfl) (by kernel_rfl) (Iy (e:=cdS.enc) (el:=9) (k:=1) (ki:= .i64) (by kernel_rfl) (by kernel_rfl) hv2))) ?_;refine AG (n:=26) AC 2 [(0,u0),(3,.st v2)] hp (by kernel_rfl) ?_;refine AE rfl (SemX.fr (l':=[(0,u0),(3,.st v2)]) (by kernel_rfl) ?_);refine SemX.seq ?_;refine SemX.regionL ?_;refine AG (n:=26) AC 2 [(3,.st v2),(17,u0),(18,u0)] hp (by kernel_rfl) ?_;refine AH AC 0 rfl (BH (AA rfl) rfl (Fz (Ck hT) (by kernel_rfl))) ?_;refine AH AC 0 rfl (BH (AA rfl) rfl (C0 (a:=u0) (by kernel_rfl) (Bb (off:=0) hT (by kernel_rfl)))) ?_;refine AH AC 0 rfl (BH (AA rfl) rfl (Bz (p:=ER u0 0) (by kernel_rfl) (CZ (off:=0) (y:= .sl 1 (x0.map cdS.enc)) (m:=1) (g:=false) hT (by kernel_rfl) (by kernel_rfl) (by kernel_rfl)))) ?_;by_cases hk3:(Cn 1 (x0.length:Int) x0.length)=true
 case neg=>rw [if_neg hk3] at h; cases h
 rw [if_pos hk3] at h;refine AH AC 0 rfl (BH (AA rfl) rfl (EO (a:= .sl 1 (x0.map cdS.enc)) (l:=(some (.j 1))) (u:=none) (m:=none) (by kernel_rfl) (by kernel_rfl) (by kernel_rfl) rfl (Jt (xs:=x0) (e:=cdS.enc) (k:=1) (el:=9) (lo:=1) (hi:=(x0.length:Int)) (by kernel_rfl) (by kernel_rfl) (Fd (KY hk3)) rfl hk3))) ?_;refine AH AC 0 rfl (BH (AA rfl) rfl (Fz (Ck hT) (by kernel_rfl))) ?_;refine AH AC 0 rfl (BH (AA rfl) rfl (C0 (a:=u0) (by kernel_rfl) (Bb (off:=0) hT (by kernel_rfl)))) ?_;obtain ⟨hp4,hs5,hT60⟩:=F7 (off:=0) (P:=Tryz.prog) (ty:=45) (y:= .sl 1 (((x0.take (x0.length:Int).toNat).drop (1:Int).toNat).map cdS.enc)) (a':= .sl 1 (((x0.take (x0.length:Int).toNat).drop (1:Int).toNat).map cdS.enc)) hT (by kernel_rfl) (by kernel_rfl) (by kernel_rfl)
 have hT6:T hp4 ((cel u0 1 126 (.sl 1 (((x0.take (x0.length:Int).toNat).drop (1:Int).toNat).map cdS.enc)))::L):=hT60
 refine RunL.store AC (y:=ER u0 0) (z:= .sl 1 (((x0.take (x0.length:Int).toNat).drop (1:Int).toNat).map cdS.enc)) rfl (AA rfl) (by kernel_rfl) (by kernel_rfl) hs5 ?_;refine AE rfl (SemX.fr (l':=[(3,.st v2)]) (by kernel_rfl) ?_);refine SemX.seq ?_;refine SemX.regionL ?_;refine AG (n:=26) AC 2 [(2,.st v2)] hp4 (by kernel_rfl) ?_;refine AE rfl (SemX.fr (l':=[(2,.st v2)]) (by kernel_rfl) ?_);refine SemX.ret ?_;have hq:=OI h; subst hq;exact ⟨⟨Fr 26 [(2,.st v2)],hp4⟩,WkY.f1,_,rfl,.inr rfl,[.st v2],(by kernel_rfl),⟨rfl,hT6⟩⟩
/- (*trestle/court.reader).names -/
noncomputable def B4:Code:=BX Tryz.f67
def B9 (x0:(List (List UInt8))):Option (((List (List UInt8))×(List (List UInt8))) ⊕ Int) :=
 CE (BJ (decide ((x0.length:Int) > 0)) 3) fun v1 =>
 some (.inl (x0,[]))
theorem CY {L:List Asn}{hp:Hp}(u0:AV) (x0:(List (List UInt8))) (r:((List (List UInt8))×(List (List UInt8))) ⊕ Int) (h:B9 x0=some r) (hT:T hp ((cel u0 1 126 (.sl 1 (x0.map cdS.enc)))::L)):SemX E0 ⟨none,false⟩ B4 ⟨Fr 19 (BB 0 [u0]),hp⟩ (fun x s'=>∃ q,r = .inl q/\(x = .normal\/x = .ret)/\∃ ys,D4 E0.P s'.fr s'.hp Tryz.f67.results.toList=some ys/\(fun v h'=>v = .sl 1 (q.1.map cdS.enc)/\T h' ((cel u0 1 126 (.sl 1 (q.2.map cdS.enc)))::L)) (Eh ys) s'.hp) fun e _=>r = .inr e:=by
 unfold B9 at h;refine Im (Hc (s1:=⟨Fr 19 [(0,u0)],hp⟩) WkY.f1 ?_);refine SemX.seq ?_;refine SemX.regionL ?_;refine AG (n:=19) AC 1 [(0,u0)] hp (by kernel_rfl) ?_;refine AE rfl (SemX.fr (l':=[(0,u0)]) (by kernel_rfl) ?_);refine SemX.seq ?_;refine Al ?_;refine RunX.pre 6 ?_;refine AG (n:=19) AC 1 [(0,u0),(4,u0)] hp (by kernel_rfl) ?_;refine AH AC 0 rfl (BH (AA rfl) rfl (Fz (Ck hT) (by kernel_rfl))) ?_;refine AH AC 0 rfl (BH (AA rfl) rfl (C0 (a:=u0) (by kernel_rfl) (Bb (off:=0) hT (by kernel_rfl)))) ?_;refine AH AC 0 rfl (BH (AA rfl) rfl (Bz (p:=ER u0 0) (by kernel_rfl) (CZ (off:=0) (y:= .sl 1 (x0.map cdS.enc)) (m:=1) (g:=false) hT (by kernel_rfl) (by kernel_rfl) (by kernel_rfl)))) ?_;refine AH AC 0 rfl (BH (AA rfl) rfl (FT (a:= .sl 1 (x0.map cdS.enc)) (by kernel_rfl) (Dx (el:=9) (by kernel_rfl)))) ?_;refine AG (n:=19) AC 1 [(0,u0),(9,.b (decide ((x0.length:Int) > 0)))] hp (by kernel_rfl) ?_;refine AE rfl ?_;rcases Ak h with ⟨v1,hv1,h⟩ | ⟨v1x,hv1,hv1q⟩
 case inr=>exact CI (caps:=[]) (xs:=[.b (decide ((x0.length:Int) > 0)),.j 3]) (u:=((decide ((x0.length:Int) > 0)),3,())) rfl rfl Ao rfl (AA rfl) (by kernel_rfl) (by kernel_rfl) (AM (AS (c:=cdB) (v:=(decide ((x0.length:Int) > 0)))) (AM (AS (c:=cdI) (v:=3)) SeesD.nil)) hv1 hv1q
 refine CJ (caps:=[]) (xs:=[.b (decide ((x0.length:Int) > 0)),.j 3]) (u:=((decide ((x0.length:Int) > 0)),3,())) rfl rfl Ao rfl (AA rfl) (by kernel_rfl) (by kernel_rfl) (AM (AS (c:=cdB) (v:=(decide ((x0.length:Int) > 0)))) (AM (AS (c:=cdI) (v:=3)) SeesD.nil)) (.inl (by kernel_rfl)) hv1 ?_;refine RunX.done rfl (SemX.fr (l':=[(0,u0)]) (by kernel_rfl) ?_);refine SemX.seq ?_;refine SemX.regionL ?_;refine AG (n:=19) AC 1 [(0,u0),(11,u0)] hp (by kernel_rfl) ?_;refine AH AC 0 rfl (BH (AA rfl) rfl (Fz (Ck hT) (by kernel_rfl))) ?_;refine AH AC 0 rfl (BH (AA rfl) rfl (C0 (a:=u0) (by kernel_rfl) (Bb (off:=0) hT (by kernel_rfl)))) ?_;refine AH AC 0 rfl (BH (AA rfl) rfl (Bz (p:=ER u0 0) (by kernel_rfl) (CZ (off:=0) (y:= .sl 1 (x0.map cdS.enc)) (m:=1) (g:=false) hT (by kernel_rfl) (by kernel_rfl) (by kernel_rfl)))) ?_
 let p1:Nat×AV:=(3,.sl 1 (x0.map cdS.enc))
 refine AG (n:=19) AC 1 [(0,u0),p1] hp (by kernel_rfl) ?_;refine AE rfl (SemX.fr (l':=[(0,u0),p1]) (by kernel_rfl) ?_);refine SemX.seq ?_;refine SemX.regionL ?_;refine AG (n:=19) AC 1 [p1,(15,u0)] hp (by kernel_rfl) ?_;refine AH AC 0 rfl (BH (AA rfl) rfl (Fz (Ck hT) (by kernel_rfl))) ?_;refine AH AC 0 rfl (BH (AA rfl) rfl (C0 (a:=u0) (by kernel_rfl) (Bb (off:=0) hT (by kernel_rfl)))) ?_;obtain ⟨hp2,hs3,hT40⟩:=F7 (off:=0) (P:=Tryz.prog) (ty:=45) (y:= .e0) (a':= .e0) hT (by kernel_rfl) (by kernel_rfl) (by kernel_rfl)
 have hT4:T hp2 ((cel u0 1 126 (.e0))::L):=hT40
 refine RunL.store AC (y:=ER u0 0) (z:= .e0) rfl (AA rfl) (by kernel_rfl) (by kernel_rfl) hs3 ?_;obtain ⟨hp5,hw6,hT70⟩:=Iq (E:=E0) (y:= .sl 1 ([].map cdS.enc)) hT4 UpV.nil
 have hT7:T hp5 ((cel u0 1 126 (.sl 1 ([].map cdS.enc)))::L):=hT70
 refine JD (hw6 _ _) ?_;refine AE rfl (SemX.fr (l':=[p1]) (by kernel_rfl) ?_);refine SemX.seq ?_;refine SemX.regionL ?_
 let p2:Nat×AV:=(2,.sl 1 (x0.map cdS.enc))
 refine AG (n:=19) AC 2 [p2] hp5 (by kernel_rfl) ?_;refine AE rfl (SemX.fr (l':=[p2]) (by kernel_rfl) ?_);refine SemX.ret ?_;have hq:=OI h; subst hq;exact ⟨⟨Fr 19 [p2],hp5⟩,WkY.f1,_,rfl,.inr rfl,[.sl 1 (x0.map cdS.enc)],(by kernel_rfl),⟨rfl,hT7⟩⟩
/- (*trestle/court.reader).last -/
noncomputable def BV:Code:=BX Tryz.f69
def Bv (x0:(List (List UInt8))):Option ((Bool×(List (List UInt8))) ⊕ Int) :=
 CE (A6 x0) fun v1 =>
 (if (v1.1==[102,105,114,115,116])=true then some true else some (v1.1==[108,97,115,116])).bind fun j4 =>
 CE (BJ j4 3) fun v11 =>
 some (.inl ((v1.1==[108,97,115,116]),v1.2))
theorem Bf {L:List Asn}{hp:Hp}(u0:AV) (x0:(List (List UInt8))) (r:(Bool×(List (List UInt8))) ⊕ Int) (h:Bv x0=some r) (hT:T hp ((cel u0 1 126 (.sl 1 (x0.map cdS.enc)))::L)):SemX E0 ⟨none,false⟩ BV ⟨Fr 15 (BB 0 [u0]),hp⟩ (fun x s'=>∃ q,r = .inl q/\(x = .normal\/x = .ret)/\∃ ys,D4 E0.P s'.fr s'.hp Tryz.f69.results.toList=some ys/\(fun v h'=>v = .b q.1/\T h' ((cel u0 1 126 (.sl 1 (q.2.map cdS.enc)))::L)) (Eh ys) s'.hp) fun e _=>r = .inr e:=by
 unfold Bv at h;refine Im (Hc (s1:=⟨Fr 15 [(0,u0)],hp⟩) WkY.f1 ?_);refine SemX.seq ?_;refine SemX.regionL ?_;refine AG (n:=15) AC 1 [(0,u0)] hp (by kernel_rfl) ?_;refine AE rfl (SemX.fr (l':=[(0,u0)]) (by kernel_rfl) ?_);refine SemX.seq ?_;refine Al ?_;refine RunX.pre 1 ?_;refine AG (n:=15) AC 1 [(4,u0)] hp (by kernel_rfl) ?_;refine AE rfl ?_;rcases Ak h with ⟨v1,hv1,h⟩ | ⟨v1x,hv1,hv1q⟩
 case inr=>exact Bg rfl rfl (fid:=66) (caps:=[]) (xs:=[u0]) (fn:=Tryz.f66) (c:=Aj) (Out:=fun _ _=>False) rfl (AA rfl) (by kernel_rfl) (by kernel_rfl) Tryz.func66 ⟨Tryz.call66⟩ (by kernel_rfl) (by show 1<=26; decide) (SemX.mono (An u0 x0 _ hv1 hT) (fun _ _ hh=>by obtain ⟨_,hh1,_⟩:=hh; cases hh1) (fun _ _ hh=>hh)) (fun _ _ hh=>by cases hh; exact hv1q) (fun _ _ hh=>hh.elim)
 refine Bg rfl rfl (fid:=66) (caps:=[]) (xs:=[u0]) (fn:=Tryz.f66) (c:=Aj) (Out:=fun v h'=>v = .st v1.1/\T h' ((cel u0 1 126 (.sl 1 (v1.2.map cdS.enc)))::L)) (PQ:=fun _ _=>False) rfl (AA rfl) (by kernel_rfl) (by kernel_rfl) Tryz.func66 ⟨Tryz.call66⟩ (by kernel_rfl) (by show 1<=26; decide) (SemX.inl (An u0 x0 _ hv1 hT)) (fun _ _ hh=>hh.elim) ?_;rintro xx hp2 ⟨hqhp2,hT30⟩; subst xx
 have hT3:T hp2 ((cel u0 1 126 (.sl 1 (v1.2.map cdS.enc)))::L):=hT30
 refine RunX.pre 1 ?_;refine AG (n:=15) AC 1 [(3,.st v1.1)] hp2 (by kernel_rfl) ?_;refine AE rfl ?_;refine RunX.done rfl (SemX.fr (l':=[(3,.st v1.1)]) (by kernel_rfl) ?_);refine SemX.seq ?_;refine Al ?_;obtain ⟨j4,hj4,h⟩:=OB h;refine LC 6 (A:=fun s1=>∃ (h':Hp),T h' ((cel u0 1 126 (.sl 1 (v1.2.map cdS.enc)))::L)/\s1=⟨Fr 15 [(3,.st v1.1),(11,.b j4)],h'⟩) ?_ ?_
 ·refine AG (n:=15) AC 3 [(3,.st v1.1),(8,.b (v1.1==[102,105,114,115,116]))] hp2 (by kernel_rfl) ?_
  rcases BE (v1.1==[102,105,114,115,116]) with hc12 | hc12
  ·rw [if_pos hc12] at hj4
   rw [hc12];refine AG (n:=15) AC 3 [(3,.st v1.1),(11,.b true)] hp2 (by kernel_rfl) ?_;have hq:=OI hj4; subst hq;exact AE rfl ⟨_,⟨hp2,hT3,rfl⟩,WkY.f1⟩
  ·rw [Bx hc12] at hj4
   rw [hc12];refine AG (n:=15) AC 3 [(3,.st v1.1),(11,.b (v1.1==[108,97,115,116]))] hp2 (by kernel_rfl) ?_;have hq:=OI hj4; subst hq;exact AE rfl ⟨_,⟨hp2,hT3,rfl⟩,WkY.f1⟩
 rintro _ ⟨hp9,hT10,rfl⟩;rcases Ak h with ⟨v11,hv11,h⟩ | ⟨v11x,hv11,hv11q⟩
 case inr=>exact CI (caps:=[]) (xs:=[.b j4,.j 3]) (u:=(j4,3,())) rfl rfl Ao rfl (AA rfl) (by kernel_rfl) (by kernel_rfl) (AM (AS (c:=cdB) (v:=j4)) (AM (AS (c:=cdI) (v:=3)) SeesD.nil)) hv11 hv11q
 refine CJ (caps:=[]) (xs:=[.b j4,.j 3]) (u:=(j4,3,())) rfl rfl Ao rfl (AA rfl) (by kernel_rfl) (by kernel_rfl) (AM (AS (c:=cdB) (v:=j4)) (AM (AS (c:=cdI) (v:=3)) SeesD.nil)) (.inl (by kernel_rfl)) hv11 ?_;refine RunX.done rfl (SemX.fr (l':=[(3,.st v1.1)]) (by kernel_rfl) ?_);refine SemX.seq ?_;refine SemX.regionL ?_;refine AG (n:=15) AC 3 [(2,.b (v1.1==[108,97,115,116]))] hp9 (by kernel_rfl) ?_;refine AE rfl (SemX.fr (l':=[(2,.b (v1.1==[108,97,115,116]))]) (by kernel_rfl) ?_);refine SemX.ret ?_;have hq:=OI h; subst hq;exact ⟨⟨Fr 15 [(2,.b (v1.1==[108,97,115,116]))],hp9⟩,WkY.f1,_,rfl,.inr rfl,[.b (v1.1==[108,97,115,116])],(by kernel_rfl),⟨rfl,hT10⟩⟩
/- trestle/court.clause -/
noncomputable def BP:Code:=BX Tryz.f35
def CV (v8:(List (List UInt8))):Nat->Int->Option (((Unit)) ⊕ Int)
 | 0,_=>none
 | f + 1,c19 =>
  if (decide (c19 < (v8.length:Int)))=true then
  (idx v8 c19).bind fun v21 =>
  CE (BJ (!(v21==[])) 3) fun v22 =>
  CV v8 f (wr .i64 (c19 + 1))
  else
  some (.inl ())
def Ep (v36:(List UInt8)×(List (List UInt8))):Option ((((List UInt8)×(List (List UInt8))×(List UInt8))) ⊕ Int) :=
 if (v36.1==[97,109,111,110,103])=true then
 CE (A6 v36.2) fun v40 =>
 CE (A6 v40.2) fun v48 =>
 some (.inl (v48.1,v48.2,v40.1))
 else
 some (.inl (v36.1,v36.2,[]))
def Eq (r56:(List UInt8)×(List (List UInt8))×(List UInt8)) (c60:Int) (c61:Int) (v63:(List UInt8)):Option (((Int)) ⊕ Int) :=
 if (v63==r56.1)=true then
 some (.inl c60)
 else
 some (.inl c61)
def Cv (r56:(List UInt8)×(List (List UInt8))×(List UInt8)):Nat->Int->Int->Option (((Int)) ⊕ Int)
 | 0,_,_=>none
 | f + 1,c60,c61 =>
  if (decide (c60<=10))=true then
  (Ee c60).bind fun v63 =>
  CE (Eq r56 c60 c61 v63) fun r71 =>
  Cv r56 f (wr .u8 (c60 + 1)) r71
  else
  some (.inl c61)
def Dc (r76:Int):Option (((Bool)) ⊕ Int) :=
 if (r76==6)=true then
 some (.inl (r76==6))
 else
 some (.inl (r76==7))
def EU (r56:(List UInt8)×(List (List UInt8))×(List UInt8)) (r76:Int):Option ((((List (List UInt8))×Int)) ⊕ Int) :=
 if (r76==10)=true then
 CE (A6 r56.2.1) fun v165 =>
 CE (Dj v165.1) fun v168 =>
 some (.inl (v165.2,v168))
 else
 some (.inl (r56.2.1,0))
def Dd (r56:(List UInt8)×(List (List UInt8))×(List UInt8)) (r76:Int) (r137:Bool):Option ((((List (List UInt8))×Bool×(List (List UInt8))×Int)) ⊕ Int) :=
 if r137=true then
 CE (Bv r56.2.1) fun v143 =>
 CE (B9 v143.2) fun v151 =>
 some (.inl (v151.2,v143.1,v151.1,0))
 else
 CE (EU r56 r76) fun r176 =>
 some (.inl (r176.1,false,[],r176.2))
def Cu (r56:(List UInt8)×(List (List UInt8))×(List UInt8)) (r76:Int):Option ((((List (List UInt8))×Bool×(List (List UInt8))×Int)) ⊕ Int) :=
 if (r76==5)=true then
 CE (Bv r56.2.1) fun v121 =>
 some (.inl (v121.2,v121.1,[],0))
 else
 CE (Dc r76) fun r137 =>
 CE (Dd r56 r76 r137) fun r180 =>
 some (.inl (r180.1,r180.2.1,r180.2.2.1,r180.2.2.2))
def CU (r56:(List UInt8)×(List (List UInt8))×(List UInt8)) (r76:Int):Option ((((List (List UInt8))×Bool×(List (List UInt8))×Int)) ⊕ Int) :=
 if (r76==4)=true then
 CE (A6 r56.2.1) fun v98 =>
 CE (Dj v98.1) fun v101 =>
 CE (Bv v98.2) fun v107 =>
 some (.inl (v107.2,v107.1,[],v101))
 else
 CE (Cu r56 r76) fun r184 =>
 some (.inl (r184.1,r184.2.1,r184.2.2.1,r184.2.2.2))
def Ay (r56:(List UInt8)×(List (List UInt8))×(List UInt8)) (r76:Int):Option ((((List (List UInt8))×Bool×(List (List UInt8))×Int)) ⊕ Int) :=
 if (r76==1)=true then
 CE (B9 r56.2.1) fun v84 =>
 some (.inl (v84.2,false,v84.1,0))
 else
 CE (CU r56 r76) fun r188 =>
 some (.inl (r188.1,r188.2.1,r188.2.2.1,r188.2.2.2))
def Di (x0:(List UInt8)):Option ((Int×(List UInt8)×Bool×(List (List UInt8))×Int) ⊕ Int) :=
 (EE x0 [32]).bind fun v8 =>
 CE (CV v8 100000 0) fun r24 =>
 CE (Dq v8) fun v36 =>
 CE (Ep v36) fun r56 =>
 CE (Cv r56 100000 1 0) fun r76 =>
 CE (BJ (r76 != 0) 3) fun v81 =>
 CE (Ay r56 r76) fun r192 =>
 CE (BJ ((r192.1.length:Int)==0) 3) fun v197 =>
 some (.inl (r76,r56.2.2,r192.2.1,r192.2.2.1,r192.2.2.2))
theorem Gt {L:List Asn}(v8:(List (List UInt8))) (e1:AV) (e15:AV):∀ (f:Nat) (c19:Int) (r:((Unit)) ⊕ Int),CV v8 f c19=some r->∀ (hp:Hp),T hp ((cel e1 5 66 (.ag [.v (.int .u8 0),.st [],.b false,.sl 1 ([].map cdS.enc),.j 0]))::(cel e15 1 126 (.ag [.sl 1 (v8.map cdS.enc)]))::L)->SemXN E0 ⟨none,false⟩ (pc BP [1,1,0,1,0,0]) f ⟨Fr 93 [(2,e1),(3,e15),(16,.sl 1 (v8.map cdS.enc)),(17,.j (v8.length:Int)),(18,.j c19)],hp⟩ (fun e s=>∃ q,r = .inl q/\e=(.exit 0)/\∃ s2,(∃ (h':Hp),T h' ((cel e1 5 66 (.ag [.v (.int .u8 0),.st [],.b false,.sl 1 ([].map cdS.enc),.j 0]))::(cel e15 1 126 (.ag [.sl 1 (v8.map cdS.enc)]))::L)/\s2=⟨Fr 93 [(2,e1),(3,e15)],h'⟩)/\WkY E0 s s2) fun e _=>r = .inr e:=by
 intro f;induction f with
 | zero=>intro c19 r h; cases h
 | succ f ih0 =>
  intro c19 r h  hp hT;unfold CV at h;refine Io ?_;refine SemX.seq ?_;refine SemX.regionL ?_
  let p1:Nat×AV:=(19,.b (decide (c19 < (v8.length:Int))))
  let p2:Nat×AV:=(18,.j c19)
  let p3:Nat×AV:=(17,.j (v8.length:Int))
  let p4:Nat×AV:=(16,.sl 1 (v8.map cdS.enc))
  refine AG (n:=93) AC 1 [(2,e1),(3,e15),p4,p3,p2,p1] hp (by kernel_rfl) ?_;refine AE rfl (SemX.fr (l':=[(2,e1),(3,e15),p4,p3,p2,p1]) (by kernel_rfl) ?_);refine SemX.seq ?_;refine SemX.cond (b:=(decide (c19 < (v8.length:Int)))) (by kernel_rfl) (fun hb20=>?_) (fun hb20=>?_)
  ·rw [if_pos hb20] at h
   refine SemX.skip ?_;refine SemX.seq ?_;refine SemX.block ?_;refine SemX.seq ?_;refine SemX.regionL ?_;obtain ⟨v21,hv21,h⟩:=OB h;refine AH AC 0 rfl (BH (AA rfl) rfl (BW (a:= .sl 1 (v8.map cdS.enc)) (b:= .j c19) (by kernel_rfl) (by kernel_rfl) (Iy (e:=cdS.enc) (el:=9) (k:=1) (ki:= .i64) (by kernel_rfl) (by kernel_rfl) hv21))) ?_;refine AG (n:=93) AC 2 [(2,e1),(3,e15),(5,.st v21),p4,p3,p2] hp (by kernel_rfl) ?_;refine AE rfl (SemX.fr (l':=[(2,e1),(3,e15),(5,.st v21),p4,p3,p2]) (by kernel_rfl) ?_);refine Al ?_;refine RunX.pre 2 ?_;refine AG (n:=93) AC 2 [(2,e1),(3,e15),p4,p3,p2,(23,.b (!(v21==[])))] hp (by kernel_rfl) ?_;refine AE rfl ?_;rcases Ak h with ⟨v22,hv22,h⟩ | ⟨v22x,hv22,hv22q⟩
   case inr=>exact CI (caps:=[]) (xs:=[.b (!(v21==[])),.j 3]) (u:=((!(v21==[])),3,())) rfl rfl Ao rfl (AA rfl) (by kernel_rfl) (by kernel_rfl) (AM (AS (c:=cdB) (v:=(!(v21==[])))) (AM (AS (c:=cdI) (v:=3)) SeesD.nil)) hv22 hv22q
   refine CJ (caps:=[]) (xs:=[.b (!(v21==[])),.j 3]) (u:=((!(v21==[])),3,())) rfl rfl Ao rfl (AA rfl) (by kernel_rfl) (by kernel_rfl) (AM (AS (c:=cdB) (v:=(!(v21==[])))) (AM (AS (c:=cdI) (v:=3)) SeesD.nil)) (.inl (by kernel_rfl)) hv22 ?_;refine RunX.done rfl (SemX.fr (l':=[(2,e1),(3,e15),p4,p3,p2]) (by kernel_rfl) ?_);refine SemX.regionL ?_;refine AG (n:=93) AC 2 [(2,e1),(3,e15),p4,p3,(18,.j (wr .i64 (c19 + 1)))] hp (by kernel_rfl) ?_;refine AE rfl ?_;exact FW WkY.f1 (ih0 (wr .i64 (c19 + 1)) _ h  hp hT)
  ·rw [Bx hb20] at h
   refine SemX.exit ?_;have hq:=OI h; subst hq;exact ⟨_,rfl,rfl,_,⟨hp,hT,rfl⟩,WkY.f1⟩
theorem Gl {L:List Asn}{hp:Hp}(v36:(List UInt8)×(List (List UInt8))) (e1:AV) (e15:AV) (e28:AV) (r:(((List UInt8)×(List (List UInt8))×(List UInt8))) ⊕ Int) (h:Ep v36=some r) (hT:T hp ((cel e15 1 126 (.sl 1 (v36.2.map cdS.enc)))::(cel e28 5 66 (.ag [.v (.int .u8 0),.st [],.b false,.sl 1 ([].map cdS.enc),.j 0]))::(cel e1 5 66 (.ag [.v (.int .u8 0),.st [],.b false,.sl 1 ([].map cdS.enc),.j 0]))::L)):SemX E0 ⟨none,false⟩ (pc BP [1,1,1,1,1,0,1]) ⟨Fr 93 [(2,e1),(3,e15),(6,e28),(7,.st v36.1),(29,.b (v36.1==[97,109,111,110,103]))],hp⟩ (fun e s=>∃ q,r = .inl q/\e = .normal/\∃ s2,(∃ (h':Hp),T h' ((cel e1 5 66 (.ag [.v (.int .u8 0),.st [],.b false,.sl 1 ([].map cdS.enc),.j 0]))::(cel e15 1 126 (.sl 1 (q.2.1.map cdS.enc)))::(cel e28 5 66 (.ag [.v (.int .u8 0),.st q.2.2,.b false,.sl 1 ([].map cdS.enc),.j 0]))::L)/\s2=⟨Fr 93 [(2,e1),(3,e15),(6,e28),(7,.st q.1)],h'⟩)/\WkY E0 s s2) fun e _=>r = .inr e:=by
 unfold Ep at h;refine SemX.cond (b:=(v36.1==[97,109,111,110,103])) (by kernel_rfl) (fun hb39=>?_) (fun hb39=>?_)
 ·rw [if_pos hb39] at h
  refine SemX.seq ?_;refine Al ?_;refine RunX.pre 1 ?_;refine AG (n:=93) AC 1 [(2,e1),(3,e15),(6,e28),(30,e15)] hp (by kernel_rfl) ?_;refine AE rfl ?_;rcases Ak h with ⟨v40,hv40,h⟩ | ⟨v40x,hv40,hv40q⟩
  case inr=>exact Bg rfl rfl (fid:=66) (caps:=[]) (xs:=[e15]) (fn:=Tryz.f66) (c:=Aj) (Out:=fun _ _=>False) rfl (AA rfl) (by kernel_rfl) (by kernel_rfl) Tryz.func66 ⟨Tryz.call66⟩ (by kernel_rfl) (by show 1<=26; decide) (SemX.mono (An e15 v36.2 _ hv40 hT) (fun _ _ hh=>by obtain ⟨_,hh1,_⟩:=hh; cases hh1) (fun _ _ hh=>hh)) (fun _ _ hh=>by cases hh; exact hv40q) (fun _ _ hh=>hh.elim)
  refine Bg rfl rfl (fid:=66) (caps:=[]) (xs:=[e15]) (fn:=Tryz.f66) (c:=Aj) (Out:=fun v h'=>v = .st v40.1/\T h' ((cel e15 1 126 (.sl 1 (v40.2.map cdS.enc)))::(cel e28 5 66 (.ag [.v (.int .u8 0),.st [],.b false,.sl 1 ([].map cdS.enc),.j 0]))::(cel e1 5 66 (.ag [.v (.int .u8 0),.st [],.b false,.sl 1 ([].map cdS.enc),.j 0]))::L)) (PQ:=fun _ _=>False) rfl (AA rfl) (by kernel_rfl) (by kernel_rfl) Tryz.func66 ⟨Tryz.call66⟩ (by kernel_rfl) (by show 1<=26; decide) (SemX.inl (An e15 v36.2 _ hv40 hT)) (fun _ _ hh=>hh.elim) ?_;rintro xx hp41 ⟨hqhp41,hT420⟩; subst xx
  have hT42:T hp41 ((cel e15 1 126 (.sl 1 (v40.2.map cdS.enc)))::(cel e28 5 66 (.ag [.v (.int .u8 0),.st [],.b false,.sl 1 ([].map cdS.enc),.j 0]))::(cel e1 5 66 (.ag [.v (.int .u8 0),.st [],.b false,.sl 1 ([].map cdS.enc),.j 0]))::L):=hT420
  refine RunX.pre 2 ?_
  have hT43:T hp41 ((cel e28 5 66 (.ag [.v (.int .u8 0),.st [],.b false,.sl 1 ([].map cdS.enc),.j 0]))::(cel e15 1 126 (.sl 1 (v40.2.map cdS.enc)))::(cel e1 5 66 (.ag [.v (.int .u8 0),.st [],.b false,.sl 1 ([].map cdS.enc),.j 0]))::L):=(hT42.front 1 rfl)
  refine AH AC 0 rfl (BH (AA rfl) rfl (C0 (a:=e28) (by kernel_rfl) (Bb (off:=1) hT43 (by kernel_rfl)))) ?_;obtain ⟨hp44,hs45,hT460⟩:=F7 (off:=1) (P:=Tryz.prog) (ty:=9) (y:= .st v40.1) (a':= .ag [.v (.int .u8 0),.st v40.1,.b false,.sl 1 ([].map cdS.enc),.j 0]) hT43 (by kernel_rfl) (by kernel_rfl) (by kernel_rfl)
  have hT46:T hp44 ((cel e28 5 66 (.ag [.v (.int .u8 0),.st v40.1,.b false,.sl 1 ([].map cdS.enc),.j 0]))::(cel e15 1 126 (.sl 1 (v40.2.map cdS.enc)))::(cel e1 5 66 (.ag [.v (.int .u8 0),.st [],.b false,.sl 1 ([].map cdS.enc),.j 0]))::L):=hT460
  refine RunL.store AC (y:=ER e28 1) (z:= .st v40.1) rfl (AA rfl) (by kernel_rfl) (by kernel_rfl) hs45 ?_;refine AE rfl ?_;refine RunX.done rfl (SemX.fr (l':=[(2,e1),(3,e15),(6,e28)]) (by kernel_rfl) ?_);refine Al ?_;refine RunX.pre 1 ?_;refine AG (n:=93) AC 1 [(2,e1),(3,e15),(6,e28),(33,e15)] hp44 (by kernel_rfl) ?_;refine AE rfl ?_
  have hT47:T hp44 ((cel e15 1 126 (.sl 1 (v40.2.map cdS.enc)))::(cel e28 5 66 (.ag [.v (.int .u8 0),.st v40.1,.b false,.sl 1 ([].map cdS.enc),.j 0]))::(cel e1 5 66 (.ag [.v (.int .u8 0),.st [],.b false,.sl 1 ([].map cdS.enc),.j 0]))::L):=(hT46.front 1 rfl)
  rcases Ak h with ⟨v48,hv48,h⟩ | ⟨v48x,hv48,hv48q⟩
  case inr=>exact Bg rfl rfl (fid:=66) (caps:=[]) (xs:=[e15]) (fn:=Tryz.f66) (c:=Aj) (Out:=fun _ _=>False) rfl (AA rfl) (by kernel_rfl) (by kernel_rfl) Tryz.func66 ⟨Tryz.call66⟩ (by kernel_rfl) (by show 1<=26; decide) (SemX.mono (An e15 v40.2 _ hv48 hT47) (fun _ _ hh=>by obtain ⟨_,hh1,_⟩:=hh; cases hh1) (fun _ _ hh=>hh)) (fun _ _ hh=>by cases hh; exact hv48q) (fun _ _ hh=>hh.elim)
  refine Bg rfl rfl (fid:=66) (caps:=[]) (xs:=[e15]) (fn:=Tryz.f66) (c:=Aj) (Out:=fun v h'=>v = .st v48.1/\T h' ((cel e15 1 126 (.sl 1 (v48.2.map cdS.enc)))::(cel e28 5 66 (.ag [.v (.int .u8 0),.st v40.1,.b false,.sl 1 ([].map cdS.enc),.j 0]))::(cel e1 5 66 (.ag [.v (.int .u8 0),.st [],.b false,.sl 1 ([].map cdS.enc),.j 0]))::L)) (PQ:=fun _ _=>False) rfl (AA rfl) (by kernel_rfl) (by kernel_rfl) Tryz.func66 ⟨Tryz.call66⟩ (by kernel_rfl) (by show 1<=26; decide) (SemX.inl (An e15 v40.2 _ hv48 hT47)) (fun _ _ hh=>hh.elim) ?_;rintro xx hp49 ⟨hqhp49,hT500⟩; subst xx
  have hT50:T hp49 ((cel e15 1 126 (.sl 1 (v48.2.map cdS.enc)))::(cel e28 5 66 (.ag [.v (.int .u8 0),.st v40.1,.b false,.sl 1 ([].map cdS.enc),.j 0]))::(cel e1 5 66 (.ag [.v (.int .u8 0),.st [],.b false,.sl 1 ([].map cdS.enc),.j 0]))::L):=hT500
  refine RunX.pre 1 ?_;refine AG (n:=93) AC 1 [(2,e1),(3,e15),(6,e28),(7,.st v48.1)] hp49 (by kernel_rfl) ?_;refine AE rfl ?_;refine RunX.done rfl ?_;have hq:=OI h; subst hq
  have hT54:T hp49 ((cel e1 5 66 (.ag [.v (.int .u8 0),.st [],.b false,.sl 1 ([].map cdS.enc),.j 0]))::(cel e15 1 126 (.sl 1 (v48.2.map cdS.enc)))::(cel e28 5 66 (.ag [.v (.int .u8 0),.st v40.1,.b false,.sl 1 ([].map cdS.enc),.j 0]))::L):=(((hT50.front 1 rfl).front 1 rfl).front 2 rfl)
  exact ⟨_,rfl,rfl,_,⟨hp49,hT54,rfl⟩,WkY.f1⟩
 ·rw [Bx hb39] at h
  refine SemX.skip ?_;have hq:=OI h; subst hq
  have hT55:T hp ((cel e1 5 66 (.ag [.v (.int .u8 0),.st [],.b false,.sl 1 ([].map cdS.enc),.j 0]))::(cel e15 1 126 (.sl 1 (v36.2.map cdS.enc)))::(cel e28 5 66 (.ag [.v (.int .u8 0),.st [],.b false,.sl 1 ([].map cdS.enc),.j 0]))::L):=(((hT.front 1 rfl).front 1 rfl).front 2 rfl)
  exact ⟨_,rfl,rfl,_,⟨hp,hT55,rfl⟩,WkY.f1⟩
theorem Gm {L:List Asn}{hp:Hp}(r56:(List UInt8)×(List (List UInt8))×(List UInt8)) (c60:Int) (c61:Int) (v63:(List UInt8)) (e1:AV) (e15:AV) (e28:AV) (r:((Int)) ⊕ Int) (h:Eq r56 c60 c61 v63=some r) (hT:T hp ((cel e1 5 66 (.ag [.v (.int .u8 0),.st [],.b false,.sl 1 ([].map cdS.enc),.j 0]))::(cel e15 1 126 (.sl 1 (r56.2.1.map cdS.enc)))::(cel e28 5 66 (.ag [.v (.int .u8 c61),.st r56.2.2,.b false,.sl 1 ([].map cdS.enc),.j 0]))::L)):SemX E0 ⟨none,false⟩ (pc BP [1,1,1,1,1,1,0,1,0,0,1,0,0,1]) ⟨Fr 93 [(2,e1),(3,e15),(6,e28),(7,.st r56.1),(8,.v (.int .u8 c60)),(42,.b (v63==r56.1))],hp⟩ (fun e s=>∃ q,r = .inl q/\e = .normal/\∃ s2,(∃ (h':Hp),T h' ((cel e1 5 66 (.ag [.v (.int .u8 0),.st [],.b false,.sl 1 ([].map cdS.enc),.j 0]))::(cel e15 1 126 (.sl 1 (r56.2.1.map cdS.enc)))::(cel e28 5 66 (.ag [.v (.int .u8 q),.st r56.2.2,.b false,.sl 1 ([].map cdS.enc),.j 0]))::L)/\s2=⟨Fr 93 [(2,e1),(3,e15),(6,e28),(7,.st r56.1),(8,.v (.int .u8 c60))],h'⟩)/\WkY E0 s s2) fun e _=>r = .inr e:=by
 unfold Eq at h;refine SemX.cond (b:=(v63==r56.1)) (by kernel_rfl) (fun hb64=>?_) (fun hb64=>?_)
 ·rw [if_pos hb64] at h
  refine SemX.regionL ?_;refine AG (n:=93) AC 1 [(2,e1),(3,e15),(6,e28),(7,.st r56.1),(8,.v (.int .u8 c60)),(43,.v (.int .u8 c60))] hp (by kernel_rfl) ?_
  have hT65:T hp ((cel e28 5 66 (.ag [.v (.int .u8 c61),.st r56.2.2,.b false,.sl 1 ([].map cdS.enc),.j 0]))::(cel e1 5 66 (.ag [.v (.int .u8 0),.st [],.b false,.sl 1 ([].map cdS.enc),.j 0]))::(cel e15 1 126 (.sl 1 (r56.2.1.map cdS.enc)))::L):=(hT.front 2 rfl)
  refine AH AC 0 rfl (BH (AA rfl) rfl (C0 (a:=e28) (by kernel_rfl) (Bb (off:=0) hT65 (by kernel_rfl)))) ?_;obtain ⟨hp66,hs67,hT680⟩:=F7 (off:=0) (P:=Tryz.prog) (ty:=64) (y:= .v (.int .u8 c60)) (a':= .ag [.v (.int .u8 c60),.st r56.2.2,.b false,.sl 1 ([].map cdS.enc),.j 0]) hT65 (by kernel_rfl) (by kernel_rfl) (by kernel_rfl)
  have hT68:T hp66 ((cel e28 5 66 (.ag [.v (.int .u8 c60),.st r56.2.2,.b false,.sl 1 ([].map cdS.enc),.j 0]))::(cel e1 5 66 (.ag [.v (.int .u8 0),.st [],.b false,.sl 1 ([].map cdS.enc),.j 0]))::(cel e15 1 126 (.sl 1 (r56.2.1.map cdS.enc)))::L):=hT680
  refine RunL.store AC (y:=ER e28 0) (z:= .v (.int .u8 c60)) rfl (AA rfl) (by kernel_rfl) (by kernel_rfl) hs67 ?_;refine AE rfl ?_;have hq:=OI h; subst hq
  have hT70:T hp66 ((cel e1 5 66 (.ag [.v (.int .u8 0),.st [],.b false,.sl 1 ([].map cdS.enc),.j 0]))::(cel e15 1 126 (.sl 1 (r56.2.1.map cdS.enc)))::(cel e28 5 66 (.ag [.v (.int .u8 c60),.st r56.2.2,.b false,.sl 1 ([].map cdS.enc),.j 0]))::L):=((hT68.front 2 rfl).front 2 rfl)
  exact ⟨_,rfl,rfl,_,⟨hp66,hT70,rfl⟩,WkY.f1⟩
 ·rw [Bx hb64] at h
  refine SemX.skip ?_;have hq:=OI h; subst hq;exact ⟨_,rfl,rfl,_,⟨hp,hT,rfl⟩,WkY.f1⟩
theorem Gu {L:List Asn}(r56:(List UInt8)×(List (List UInt8))×(List UInt8)) (e1:AV) (e15:AV) (e28:AV):∀ (f:Nat) (c60:Int) (c61:Int) (r:((Int)) ⊕ Int),Cv r56 f c60 c61=some r->∀ (hp:Hp),T hp ((cel e1 5 66 (.ag [.v (.int .u8 0),.st [],.b false,.sl 1 ([].map cdS.enc),.j 0]))::(cel e15 1 126 (.sl 1 (r56.2.1.map cdS.enc)))::(cel e28 5 66 (.ag [.v (.int .u8 c61),.st r56.2.2,.b false,.sl 1 ([].map cdS.enc),.j 0]))::L)->SemXN E0 ⟨none,false⟩ (pc BP [1,1,1,1,1,1,0,1,0,0]) f ⟨Fr 93 [(2,e1),(3,e15),(6,e28),(7,.st r56.1),(8,.v (.int .u8 c60))],hp⟩ (fun e s=>∃ q,r = .inl q/\e=(.exit 2)/\∃ s2,(∃ (h':Hp),T h' ((cel e1 5 66 (.ag [.v (.int .u8 0),.st [],.b false,.sl 1 ([].map cdS.enc),.j 0]))::(cel e15 1 126 (.sl 1 (r56.2.1.map cdS.enc)))::(cel e28 5 66 (.ag [.v (.int .u8 q),.st r56.2.2,.b false,.sl 1 ([].map cdS.enc),.j 0]))::L)/\s2=⟨Fr 93 [(2,e1),(3,e15),(6,e28)],h'⟩)/\WkY E0 s s2) fun e _=>r = .inr e:=by
 intro f;induction f with
 | zero=>intro c60 c61 r h; cases h
 | succ f ih0 =>
  intro c60 c61 r h  hp hT;unfold Cv at h;refine Io ?_;refine SemX.seq ?_;refine SemX.seq ?_;refine SemX.regionL ?_
  let p1:Nat×AV:=(36,.b (decide (c60<=10)))
  let p2:Nat×AV:=(8,.v (.int .u8 c60))
  let p3:Nat×AV:=(7,.st r56.1)
  refine AG (n:=93) AC 2 [(2,e1),(3,e15),(6,e28),p3,p2,p1] hp (by kernel_rfl) ?_;refine AE rfl (SemX.fr (l':=[(2,e1),(3,e15),(6,e28),p3,p2,p1]) (by kernel_rfl) ?_);refine SemX.cond (b:=(decide (c60<=10))) (by kernel_rfl) (fun hb62=>?_) (fun hb62=>?_)
  ·rw [if_pos hb62] at h
   refine SemX.skip ?_;refine SemX.seq ?_;refine SemX.block ?_;refine SemX.seq ?_;refine SemX.regionL ?_;refine AG (n:=93) AC 1 [(2,e1),(3,e15),(6,e28),p3,p2,(39,.v (.int .u8 c60))] hp (by kernel_rfl) ?_;obtain ⟨v63,hv63,h⟩:=OB h;refine Eb (v:=v63) (caps:=[]) (xs:=[.v (.int .u8 c60)]) (u:=(c60,())) rfl rfl Kd rfl (AA rfl) (by kernel_rfl) (by kernel_rfl) (AM (AS (c:=(cdK .u8)) (v:=c60)) SeesD.nil) (.inl (by kernel_rfl)) hv63 ?_;refine AG (n:=93) AC 2 [(2,e1),(3,e15),(6,e28),p3,p2,(42,.b (v63==r56.1))] hp (by kernel_rfl) ?_;refine AE rfl (SemX.fr (l':=[(2,e1),(3,e15),(6,e28),p3,p2,(42,.b (v63==r56.1))]) (by kernel_rfl) ?_);rcases Ak h with ⟨r71,hr71,h⟩ | ⟨er72,hr71,hr71q⟩
   case inr=>exact SemX.inr (Gm r56 c60 c61 v63 e1 e15 e28 _ hr71 hT) (fun _=>hr71q)
   refine Fc (SemX.inl (Gm r56 c60 c61 v63 e1 e15 e28 _ hr71 hT)) ?_;rintro _ ⟨hp73,hT74,rfl⟩;refine SemX.regionL ?_;refine AG (n:=93) AC 3 [(2,e1),(3,e15),(6,e28),p3,(8,.v (.int .u8 (wr .u8 (c60 + 1))))] hp73 (by kernel_rfl) ?_;refine AE rfl ?_;exact FW WkY.f1 (ih0 (wr .u8 (c60 + 1)) r71 _ h  hp73 hT74)
  ·rw [Bx hb62] at h
   refine SemX.exit ?_;have hq:=OI h; subst hq;exact ⟨_,rfl,rfl,_,⟨hp,hT,rfl⟩,WkY.f1⟩
theorem Gr {L:List Asn}{hp:Hp}(r76:Int) (e1:AV) (e15:AV) (e28:AV) (r56:(List UInt8)×(List (List UInt8))×(List UInt8)) (r:((Bool)) ⊕ Int) (h:Dc r76=some r) (hT:T hp ((cel e28 5 66 (.ag [.v (.int .u8 r76),.st r56.2.2,.b false,.sl 1 ([].map cdS.enc),.j 0]))::(cel e1 5 66 (.ag [.v (.int .u8 0),.st [],.b false,.sl 1 ([].map cdS.enc),.j 0]))::(cel e15 1 126 (.sl 1 (r56.2.1.map cdS.enc)))::L)):SemX E0 ⟨none,false⟩ (pc BP [1,1,1,1,1,1,1,1,0,1,0,1,1,1,1,1,1,0,1]) ⟨Fr 93 [(2,e1),(3,e15),(6,e28),(50,.v (.int .u8 r76)),(70,.b (r76==6))],hp⟩ (fun e s=>∃ q,r = .inl q/\e = .normal/\∃ s2,(∃ (h':Hp),T h' ((cel e1 5 66 (.ag [.v (.int .u8 0),.st [],.b false,.sl 1 ([].map cdS.enc),.j 0]))::(cel e15 1 126 (.sl 1 (r56.2.1.map cdS.enc)))::(cel e28 5 66 (.ag [.v (.int .u8 r76),.st r56.2.2,.b false,.sl 1 ([].map cdS.enc),.j 0]))::L)/\s2=⟨Fr 93 [(2,e1),(3,e15),(6,e28),(50,.v (.int .u8 r76)),(70,.b q)],h'⟩)/\WkY E0 s s2) fun e _=>r = .inr e:=by
 unfold Dc at h;refine SemX.cond (b:=(r76==6)) (by kernel_rfl) (fun hb133=>?_) (fun hb133=>?_)
 ·rw [if_pos hb133] at h
  refine SemX.skip ?_;have hq:=OI h; subst hq
  have hT135:T hp ((cel e1 5 66 (.ag [.v (.int .u8 0),.st [],.b false,.sl 1 ([].map cdS.enc),.j 0]))::(cel e15 1 126 (.sl 1 (r56.2.1.map cdS.enc)))::(cel e28 5 66 (.ag [.v (.int .u8 r76),.st r56.2.2,.b false,.sl 1 ([].map cdS.enc),.j 0]))::L):=((hT.front 2 rfl).front 2 rfl)
  exact ⟨_,rfl,rfl,_,⟨hp,hT135,rfl⟩,WkY.f1⟩
 ·rw [Bx hb133] at h
  refine SemX.regionL ?_;refine AG (n:=93) AC 2 [(2,e1),(3,e15),(6,e28),(50,.v (.int .u8 r76)),(70,.b (r76==7))] hp (by kernel_rfl) ?_;refine AE rfl ?_;have hq:=OI h; subst hq
  have hT136:T hp ((cel e1 5 66 (.ag [.v (.int .u8 0),.st [],.b false,.sl 1 ([].map cdS.enc),.j 0]))::(cel e15 1 126 (.sl 1 (r56.2.1.map cdS.enc)))::(cel e28 5 66 (.ag [.v (.int .u8 r76),.st r56.2.2,.b false,.sl 1 ([].map cdS.enc),.j 0]))::L):=((hT.front 2 rfl).front 2 rfl)
  exact ⟨_,rfl,rfl,_,⟨hp,hT136,rfl⟩,WkY.f1⟩
theorem GR {L:List Asn}{hp:Hp}(r56:(List UInt8)×(List (List UInt8))×(List UInt8)) (r76:Int) (e1:AV) (e15:AV) (e28:AV) (r:(((List (List UInt8))×Int)) ⊕ Int) (h:EU r56 r76=some r) (hT:T hp ((cel e1 5 66 (.ag [.v (.int .u8 0),.st [],.b false,.sl 1 ([].map cdS.enc),.j 0]))::(cel e15 1 126 (.sl 1 (r56.2.1.map cdS.enc)))::(cel e28 5 66 (.ag [.v (.int .u8 r76),.st r56.2.2,.b false,.sl 1 ([].map cdS.enc),.j 0]))::L)):SemX E0 ⟨none,false⟩ (pc BP [1,1,1,1,1,1,1,1,0,1,0,1,1,1,1,1,1,1,1,1]) ⟨Fr 93 [(2,e1),(3,e15),(6,e28),(79,.b (r76==10))],hp⟩ (fun e s=>∃ q,r = .inl q/\e = .normal/\∃ s2,(∃ (h':Hp),T h' ((cel e1 5 66 (.ag [.v (.int .u8 0),.st [],.b false,.sl 1 ([].map cdS.enc),.j 0]))::(cel e15 1 126 (.sl 1 (q.1.map cdS.enc)))::(cel e28 5 66 (.ag [.v (.int .u8 r76),.st r56.2.2,.b false,.sl 1 ([].map cdS.enc),.j q.2]))::L)/\s2=⟨Fr 93 [(2,e1),(3,e15),(6,e28)],h'⟩)/\WkY E0 s s2) fun e _=>r = .inr e:=by
 unfold EU at h;refine SemX.cond (b:=(r76==10)) (by kernel_rfl) (fun hb163=>?_) (fun hb163=>?_)
 ·rw [if_pos hb163] at h
  refine Al ?_;refine RunX.pre 1 ?_;refine AG (n:=93) AC 1 [(2,e1),(3,e15),(6,e28),(81,e15)] hp (by kernel_rfl) ?_;refine AE rfl ?_
  have hT164:T hp ((cel e15 1 126 (.sl 1 (r56.2.1.map cdS.enc)))::(cel e1 5 66 (.ag [.v (.int .u8 0),.st [],.b false,.sl 1 ([].map cdS.enc),.j 0]))::(cel e28 5 66 (.ag [.v (.int .u8 r76),.st r56.2.2,.b false,.sl 1 ([].map cdS.enc),.j 0]))::L):=(hT.front 1 rfl)
  rcases Ak h with ⟨v165,hv165,h⟩ | ⟨v165x,hv165,hv165q⟩
  case inr=>exact Bg rfl rfl (fid:=66) (caps:=[]) (xs:=[e15]) (fn:=Tryz.f66) (c:=Aj) (Out:=fun _ _=>False) rfl (AA rfl) (by kernel_rfl) (by kernel_rfl) Tryz.func66 ⟨Tryz.call66⟩ (by kernel_rfl) (by show 1<=26; decide) (SemX.mono (An e15 r56.2.1 _ hv165 hT164) (fun _ _ hh=>by obtain ⟨_,hh1,_⟩:=hh; cases hh1) (fun _ _ hh=>hh)) (fun _ _ hh=>by cases hh; exact hv165q) (fun _ _ hh=>hh.elim)
  refine Bg rfl rfl (fid:=66) (caps:=[]) (xs:=[e15]) (fn:=Tryz.f66) (c:=Aj) (Out:=fun v h'=>v = .st v165.1/\T h' ((cel e15 1 126 (.sl 1 (v165.2.map cdS.enc)))::(cel e1 5 66 (.ag [.v (.int .u8 0),.st [],.b false,.sl 1 ([].map cdS.enc),.j 0]))::(cel e28 5 66 (.ag [.v (.int .u8 r76),.st r56.2.2,.b false,.sl 1 ([].map cdS.enc),.j 0]))::L)) (PQ:=fun _ _=>False) rfl (AA rfl) (by kernel_rfl) (by kernel_rfl) Tryz.func66 ⟨Tryz.call66⟩ (by kernel_rfl) (by show 1<=26; decide) (SemX.inl (An e15 r56.2.1 _ hv165 hT164)) (fun _ _ hh=>hh.elim) ?_;rintro xx hp166 ⟨hqhp166,hT1670⟩; subst xx
  have hT167:T hp166 ((cel e15 1 126 (.sl 1 (v165.2.map cdS.enc)))::(cel e1 5 66 (.ag [.v (.int .u8 0),.st [],.b false,.sl 1 ([].map cdS.enc),.j 0]))::(cel e28 5 66 (.ag [.v (.int .u8 r76),.st r56.2.2,.b false,.sl 1 ([].map cdS.enc),.j 0]))::L):=hT1670
  rcases Ak h with ⟨v168,hv168,h⟩ | ⟨v168x,hv168,hv168q⟩
  case inr=>exact CI (caps:=[]) (xs:=[.st v165.1]) (u:=(v165.1,())) rfl rfl Fa rfl (AA rfl) (by kernel_rfl) (by kernel_rfl) (AM (AS (c:=cdS) (v:=v165.1)) SeesD.nil) hv168 hv168q
  refine CJ (caps:=[]) (xs:=[.st v165.1]) (u:=(v165.1,())) rfl rfl Fa rfl (AA rfl) (by kernel_rfl) (by kernel_rfl) (AM (AS (c:=cdS) (v:=v165.1)) SeesD.nil) (.inl (by kernel_rfl)) hv168 ?_;refine RunX.pre 2 ?_
  have hT169:T hp166 ((cel e28 5 66 (.ag [.v (.int .u8 r76),.st r56.2.2,.b false,.sl 1 ([].map cdS.enc),.j 0]))::(cel e15 1 126 (.sl 1 (v165.2.map cdS.enc)))::(cel e1 5 66 (.ag [.v (.int .u8 0),.st [],.b false,.sl 1 ([].map cdS.enc),.j 0]))::L):=(hT167.front 2 rfl)
  refine AH AC 0 rfl (BH (AA rfl) rfl (C0 (a:=e28) (by kernel_rfl) (Bb (off:=4) hT169 (by kernel_rfl)))) ?_;obtain ⟨hp170,hs171,hT1720⟩:=F7 (off:=4) (P:=Tryz.prog) (ty:=3) (y:= .j v168) (a':= .ag [.v (.int .u8 r76),.st r56.2.2,.b false,.sl 1 ([].map cdS.enc),.j v168]) hT169 (by kernel_rfl) (by kernel_rfl) (by kernel_rfl)
  have hT172:T hp170 ((cel e28 5 66 (.ag [.v (.int .u8 r76),.st r56.2.2,.b false,.sl 1 ([].map cdS.enc),.j v168]))::(cel e15 1 126 (.sl 1 (v165.2.map cdS.enc)))::(cel e1 5 66 (.ag [.v (.int .u8 0),.st [],.b false,.sl 1 ([].map cdS.enc),.j 0]))::L):=hT1720
  refine RunL.store AC (y:=ER e28 4) (z:= .j v168) rfl (AA rfl) (by kernel_rfl) (by kernel_rfl) hs171 ?_;refine AE rfl ?_;refine RunX.done rfl ?_;have hq:=OI h; subst hq
  have hT175:T hp170 ((cel e1 5 66 (.ag [.v (.int .u8 0),.st [],.b false,.sl 1 ([].map cdS.enc),.j 0]))::(cel e15 1 126 (.sl 1 (v165.2.map cdS.enc)))::(cel e28 5 66 (.ag [.v (.int .u8 r76),.st r56.2.2,.b false,.sl 1 ([].map cdS.enc),.j v168]))::L):=((hT172.front 1 rfl).front 2 rfl)
  exact ⟨_,rfl,rfl,_,⟨hp170,hT175,rfl⟩,WkY.f1⟩
 ·rw [Bx hb163] at h
  refine SemX.skip ?_;have hq:=OI h; subst hq;exact ⟨_,rfl,rfl,_,⟨hp,hT,rfl⟩,WkY.f1⟩
theorem Gs {L:List Asn}{hp:Hp}(r56:(List UInt8)×(List (List UInt8))×(List UInt8)) (r76:Int) (r137:Bool) (e1:AV) (e15:AV) (e28:AV) (r:(((List (List UInt8))×Bool×(List (List UInt8))×Int)) ⊕ Int) (h:Dd r56 r76 r137=some r) (hT:T hp ((cel e1 5 66 (.ag [.v (.int .u8 0),.st [],.b false,.sl 1 ([].map cdS.enc),.j 0]))::(cel e15 1 126 (.sl 1 (r56.2.1.map cdS.enc)))::(cel e28 5 66 (.ag [.v (.int .u8 r76),.st r56.2.2,.b false,.sl 1 ([].map cdS.enc),.j 0]))::L)):SemX E0 ⟨none,false⟩ (pc BP [1,1,1,1,1,1,1,1,0,1,0,1,1,1,1,1,1,1]) ⟨Fr 93 [(2,e1),(3,e15),(6,e28),(50,.v (.int .u8 r76)),(70,.b r137)],hp⟩ (fun e s=>∃ q,r = .inl q/\e = .normal/\∃ s2,(∃ (h':Hp),T h' ((cel e1 5 66 (.ag [.v (.int .u8 0),.st [],.b false,.sl 1 ([].map cdS.enc),.j 0]))::(cel e15 1 126 (.sl 1 (q.1.map cdS.enc)))::(cel e28 5 66 (.ag [.v (.int .u8 r76),.st r56.2.2,.b q.2.1,.sl 1 (q.2.2.1.map cdS.enc),.j q.2.2.2]))::L)/\s2=⟨Fr 93 [(2,e1),(3,e15),(6,e28)],h'⟩)/\WkY E0 s s2) fun e _=>r = .inr e:=by
 unfold Dd at h;refine SemX.cond (b:=r137) (by kernel_rfl) (fun hb141=>?_) (fun hb141=>?_)
 ·rw [if_pos hb141] at h
  refine SemX.seq ?_;refine Al ?_;refine RunX.pre 1 ?_;refine AG (n:=93) AC 1 [(2,e1),(3,e15),(6,e28),(73,e15)] hp (by kernel_rfl) ?_;refine AE rfl ?_
  have hT142:T hp ((cel e15 1 126 (.sl 1 (r56.2.1.map cdS.enc)))::(cel e1 5 66 (.ag [.v (.int .u8 0),.st [],.b false,.sl 1 ([].map cdS.enc),.j 0]))::(cel e28 5 66 (.ag [.v (.int .u8 r76),.st r56.2.2,.b false,.sl 1 ([].map cdS.enc),.j 0]))::L):=(hT.front 1 rfl)
  rcases Ak h with ⟨v143,hv143,h⟩ | ⟨v143x,hv143,hv143q⟩
  case inr=>exact Bg rfl rfl (fid:=69) (caps:=[]) (xs:=[e15]) (fn:=Tryz.f69) (c:=BV) (Out:=fun _ _=>False) rfl (AA rfl) (by kernel_rfl) (by kernel_rfl) Tryz.func69 ⟨Tryz.call69⟩ (by kernel_rfl) (by show 1<=15; decide) (SemX.mono (Bf e15 r56.2.1 _ hv143 hT142) (fun _ _ hh=>by obtain ⟨_,hh1,_⟩:=hh; cases hh1) (fun _ _ hh=>hh)) (fun _ _ hh=>by cases hh; exact hv143q) (fun _ _ hh=>hh.elim)
  refine Bg rfl rfl (fid:=69) (caps:=[]) (xs:=[e15]) (fn:=Tryz.f69) (c:=BV) (Out:=fun v h'=>v = .b v143.1/\T h' ((cel e15 1 126 (.sl 1 (v143.2.map cdS.enc)))::(cel e1 5 66 (.ag [.v (.int .u8 0),.st [],.b false,.sl 1 ([].map cdS.enc),.j 0]))::(cel e28 5 66 (.ag [.v (.int .u8 r76),.st r56.2.2,.b false,.sl 1 ([].map cdS.enc),.j 0]))::L)) (PQ:=fun _ _=>False) rfl (AA rfl) (by kernel_rfl) (by kernel_rfl) Tryz.func69 ⟨Tryz.call69⟩ (by kernel_rfl) (by show 1<=15; decide) (SemX.inl (Bf e15 r56.2.1 _ hv143 hT142)) (fun _ _ hh=>hh.elim) ?_;rintro xx hp144 ⟨hqhp144,hT1450⟩; subst xx
  have hT145:T hp144 ((cel e15 1 126 (.sl 1 (v143.2.map cdS.enc)))::(cel e1 5 66 (.ag [.v (.int .u8 0),.st [],.b false,.sl 1 ([].map cdS.enc),.j 0]))::(cel e28 5 66 (.ag [.v (.int .u8 r76),.st r56.2.2,.b false,.sl 1 ([].map cdS.enc),.j 0]))::L):=hT1450
  refine RunX.pre 2 ?_
  have hT146:T hp144 ((cel e28 5 66 (.ag [.v (.int .u8 r76),.st r56.2.2,.b false,.sl 1 ([].map cdS.enc),.j 0]))::(cel e15 1 126 (.sl 1 (v143.2.map cdS.enc)))::(cel e1 5 66 (.ag [.v (.int .u8 0),.st [],.b false,.sl 1 ([].map cdS.enc),.j 0]))::L):=(hT145.front 2 rfl)
  refine AH AC 0 rfl (BH (AA rfl) rfl (C0 (a:=e28) (by kernel_rfl) (Bb (off:=2) hT146 (by kernel_rfl)))) ?_;obtain ⟨hp147,hs148,hT1490⟩:=F7 (off:=2) (P:=Tryz.prog) (ty:=4) (y:= .b v143.1) (a':= .ag [.v (.int .u8 r76),.st r56.2.2,.b v143.1,.sl 1 ([].map cdS.enc),.j 0]) hT146 (by kernel_rfl) (by kernel_rfl) (by kernel_rfl)
  have hT149:T hp147 ((cel e28 5 66 (.ag [.v (.int .u8 r76),.st r56.2.2,.b v143.1,.sl 1 ([].map cdS.enc),.j 0]))::(cel e15 1 126 (.sl 1 (v143.2.map cdS.enc)))::(cel e1 5 66 (.ag [.v (.int .u8 0),.st [],.b false,.sl 1 ([].map cdS.enc),.j 0]))::L):=hT1490
  refine RunL.store AC (y:=ER e28 2) (z:= .b v143.1) rfl (AA rfl) (by kernel_rfl) (by kernel_rfl) hs148 ?_;refine AE rfl ?_;refine RunX.done rfl (SemX.fr (l':=[(2,e1),(3,e15),(6,e28)]) (by kernel_rfl) ?_);refine Al ?_;refine RunX.pre 1 ?_;refine AG (n:=93) AC 1 [(2,e1),(3,e15),(6,e28),(76,e15)] hp147 (by kernel_rfl) ?_;refine AE rfl ?_
  have hT150:T hp147 ((cel e15 1 126 (.sl 1 (v143.2.map cdS.enc)))::(cel e28 5 66 (.ag [.v (.int .u8 r76),.st r56.2.2,.b v143.1,.sl 1 ([].map cdS.enc),.j 0]))::(cel e1 5 66 (.ag [.v (.int .u8 0),.st [],.b false,.sl 1 ([].map cdS.enc),.j 0]))::L):=(hT149.front 1 rfl)
  rcases Ak h with ⟨v151,hv151,h⟩ | ⟨v151x,hv151,hv151q⟩
  case inr=>exact Bg rfl rfl (fid:=67) (caps:=[]) (xs:=[e15]) (fn:=Tryz.f67) (c:=B4) (Out:=fun _ _=>False) rfl (AA rfl) (by kernel_rfl) (by kernel_rfl) Tryz.func67 ⟨Tryz.call67⟩ (by kernel_rfl) (by show 1<=19; decide) (SemX.mono (CY e15 v143.2 _ hv151 hT150) (fun _ _ hh=>by obtain ⟨_,hh1,_⟩:=hh; cases hh1) (fun _ _ hh=>hh)) (fun _ _ hh=>by cases hh; exact hv151q) (fun _ _ hh=>hh.elim)
  refine Bg rfl rfl (fid:=67) (caps:=[]) (xs:=[e15]) (fn:=Tryz.f67) (c:=B4) (Out:=fun v h'=>v = .sl 1 (v151.1.map cdS.enc)/\T h' ((cel e15 1 126 (.sl 1 (v151.2.map cdS.enc)))::(cel e28 5 66 (.ag [.v (.int .u8 r76),.st r56.2.2,.b v143.1,.sl 1 ([].map cdS.enc),.j 0]))::(cel e1 5 66 (.ag [.v (.int .u8 0),.st [],.b false,.sl 1 ([].map cdS.enc),.j 0]))::L)) (PQ:=fun _ _=>False) rfl (AA rfl) (by kernel_rfl) (by kernel_rfl) Tryz.func67 ⟨Tryz.call67⟩ (by kernel_rfl) (by show 1<=19; decide) (SemX.inl (CY e15 v143.2 _ hv151 hT150)) (fun _ _ hh=>hh.elim) ?_;rintro xx hp152 ⟨hqhp152,hT1530⟩; subst xx
  have hT153:T hp152 ((cel e15 1 126 (.sl 1 (v151.2.map cdS.enc)))::(cel e28 5 66 (.ag [.v (.int .u8 r76),.st r56.2.2,.b v143.1,.sl 1 ([].map cdS.enc),.j 0]))::(cel e1 5 66 (.ag [.v (.int .u8 0),.st [],.b false,.sl 1 ([].map cdS.enc),.j 0]))::L):=hT1530
  refine RunX.pre 2 ?_
  have hT154:T hp152 ((cel e28 5 66 (.ag [.v (.int .u8 r76),.st r56.2.2,.b v143.1,.sl 1 ([].map cdS.enc),.j 0]))::(cel e15 1 126 (.sl 1 (v151.2.map cdS.enc)))::(cel e1 5 66 (.ag [.v (.int .u8 0),.st [],.b false,.sl 1 ([].map cdS.enc),.j 0]))::L):=(hT153.front 1 rfl)
  refine AH AC 0 rfl (BH (AA rfl) rfl (C0 (a:=e28) (by kernel_rfl) (Bb (off:=3) hT154 (by kernel_rfl)))) ?_;obtain ⟨hp155,hs156,hT1570⟩:=F7 (off:=3) (P:=Tryz.prog) (ty:=45) (y:= .sl 1 (v151.1.map cdS.enc)) (a':= .ag [.v (.int .u8 r76),.st r56.2.2,.b v143.1,.sl 1 (v151.1.map cdS.enc),.j 0]) hT154 (by kernel_rfl) (by kernel_rfl) (by kernel_rfl)
  have hT157:T hp155 ((cel e28 5 66 (.ag [.v (.int .u8 r76),.st r56.2.2,.b v143.1,.sl 1 (v151.1.map cdS.enc),.j 0]))::(cel e15 1 126 (.sl 1 (v151.2.map cdS.enc)))::(cel e1 5 66 (.ag [.v (.int .u8 0),.st [],.b false,.sl 1 ([].map cdS.enc),.j 0]))::L):=hT1570
  refine RunL.store AC (y:=ER e28 3) (z:= .sl 1 (v151.1.map cdS.enc)) rfl (AA rfl) (by kernel_rfl) (by kernel_rfl) hs156 ?_;refine AE rfl ?_;refine RunX.done rfl ?_;have hq:=OI h; subst hq
  have hT162:T hp155 ((cel e1 5 66 (.ag [.v (.int .u8 0),.st [],.b false,.sl 1 ([].map cdS.enc),.j 0]))::(cel e15 1 126 (.sl 1 (v151.2.map cdS.enc)))::(cel e28 5 66 (.ag [.v (.int .u8 r76),.st r56.2.2,.b v143.1,.sl 1 (v151.1.map cdS.enc),.j 0]))::L):=((hT157.front 1 rfl).front 2 rfl)
  exact ⟨_,rfl,rfl,_,⟨hp155,hT162,rfl⟩,WkY.f1⟩
 ·rw [Bx hb141] at h
  refine SemX.seq ?_;refine SemX.regionL ?_;refine AG (n:=93) AC 2 [(2,e1),(3,e15),(6,e28),(79,.b (r76==10))] hp (by kernel_rfl) ?_;refine AE rfl (SemX.fr (l':=[(2,e1),(3,e15),(6,e28),(79,.b (r76==10))]) (by kernel_rfl) ?_);rcases Ak h with ⟨r176,hr176,h⟩ | ⟨er177,hr176,hr176q⟩
  case inr=>exact SemX.inr (GR r56 r76 e1 e15 e28 _ hr176 hT) (fun _=>hr176q)
  refine Fc (SemX.inl (GR r56 r76 e1 e15 e28 _ hr176 hT)) ?_;rintro _ ⟨hp178,hT179,rfl⟩;have hq:=OI h; subst hq;exact ⟨_,rfl,rfl,_,⟨hp178,hT179,rfl⟩,WkY.f1⟩
theorem Gq {L:List Asn}{hp:Hp}(r56:(List UInt8)×(List (List UInt8))×(List UInt8)) (r76:Int) (e1:AV) (e15:AV) (e28:AV) (r:(((List (List UInt8))×Bool×(List (List UInt8))×Int)) ⊕ Int) (h:Cu r56 r76=some r) (hT:T hp ((cel e28 5 66 (.ag [.v (.int .u8 r76),.st r56.2.2,.b false,.sl 1 ([].map cdS.enc),.j 0]))::(cel e1 5 66 (.ag [.v (.int .u8 0),.st [],.b false,.sl 1 ([].map cdS.enc),.j 0]))::(cel e15 1 126 (.sl 1 (r56.2.1.map cdS.enc)))::L)):SemX E0 ⟨none,false⟩ (pc BP [1,1,1,1,1,1,1,1,0,1,0,1,1,1,1,1]) ⟨Fr 93 [(2,e1),(3,e15),(6,e28),(50,.v (.int .u8 r76)),(65,.b (r76==5))],hp⟩ (fun e s=>∃ q,r = .inl q/\e = .normal/\∃ s2,(∃ (h':Hp),T h' ((cel e1 5 66 (.ag [.v (.int .u8 0),.st [],.b false,.sl 1 ([].map cdS.enc),.j 0]))::(cel e15 1 126 (.sl 1 (q.1.map cdS.enc)))::(cel e28 5 66 (.ag [.v (.int .u8 r76),.st r56.2.2,.b q.2.1,.sl 1 (q.2.2.1.map cdS.enc),.j q.2.2.2]))::L)/\s2=⟨Fr 93 [(2,e1),(3,e15),(6,e28)],h'⟩)/\WkY E0 s s2) fun e _=>r = .inr e:=by
 unfold Cu at h;refine SemX.cond (b:=(r76==5)) (by kernel_rfl) (fun hb119=>?_) (fun hb119=>?_)
 ·rw [if_pos hb119] at h
  refine Al ?_;refine RunX.pre 1 ?_;refine AG (n:=93) AC 1 [(2,e1),(3,e15),(6,e28),(67,e15)] hp (by kernel_rfl) ?_;refine AE rfl ?_
  have hT120:T hp ((cel e15 1 126 (.sl 1 (r56.2.1.map cdS.enc)))::(cel e28 5 66 (.ag [.v (.int .u8 r76),.st r56.2.2,.b false,.sl 1 ([].map cdS.enc),.j 0]))::(cel e1 5 66 (.ag [.v (.int .u8 0),.st [],.b false,.sl 1 ([].map cdS.enc),.j 0]))::L):=(hT.front 2 rfl)
  rcases Ak h with ⟨v121,hv121,h⟩ | ⟨v121x,hv121,hv121q⟩
  case inr=>exact Bg rfl rfl (fid:=69) (caps:=[]) (xs:=[e15]) (fn:=Tryz.f69) (c:=BV) (Out:=fun _ _=>False) rfl (AA rfl) (by kernel_rfl) (by kernel_rfl) Tryz.func69 ⟨Tryz.call69⟩ (by kernel_rfl) (by show 1<=15; decide) (SemX.mono (Bf e15 r56.2.1 _ hv121 hT120) (fun _ _ hh=>by obtain ⟨_,hh1,_⟩:=hh; cases hh1) (fun _ _ hh=>hh)) (fun _ _ hh=>by cases hh; exact hv121q) (fun _ _ hh=>hh.elim)
  refine Bg rfl rfl (fid:=69) (caps:=[]) (xs:=[e15]) (fn:=Tryz.f69) (c:=BV) (Out:=fun v h'=>v = .b v121.1/\T h' ((cel e15 1 126 (.sl 1 (v121.2.map cdS.enc)))::(cel e28 5 66 (.ag [.v (.int .u8 r76),.st r56.2.2,.b false,.sl 1 ([].map cdS.enc),.j 0]))::(cel e1 5 66 (.ag [.v (.int .u8 0),.st [],.b false,.sl 1 ([].map cdS.enc),.j 0]))::L)) (PQ:=fun _ _=>False) rfl (AA rfl) (by kernel_rfl) (by kernel_rfl) Tryz.func69 ⟨Tryz.call69⟩ (by kernel_rfl) (by show 1<=15; decide) (SemX.inl (Bf e15 r56.2.1 _ hv121 hT120)) (fun _ _ hh=>hh.elim) ?_;rintro xx hp122 ⟨hqhp122,hT1230⟩; subst xx
  have hT123:T hp122 ((cel e15 1 126 (.sl 1 (v121.2.map cdS.enc)))::(cel e28 5 66 (.ag [.v (.int .u8 r76),.st r56.2.2,.b false,.sl 1 ([].map cdS.enc),.j 0]))::(cel e1 5 66 (.ag [.v (.int .u8 0),.st [],.b false,.sl 1 ([].map cdS.enc),.j 0]))::L):=hT1230
  refine RunX.pre 2 ?_
  have hT124:T hp122 ((cel e28 5 66 (.ag [.v (.int .u8 r76),.st r56.2.2,.b false,.sl 1 ([].map cdS.enc),.j 0]))::(cel e15 1 126 (.sl 1 (v121.2.map cdS.enc)))::(cel e1 5 66 (.ag [.v (.int .u8 0),.st [],.b false,.sl 1 ([].map cdS.enc),.j 0]))::L):=(hT123.front 1 rfl)
  refine AH AC 0 rfl (BH (AA rfl) rfl (C0 (a:=e28) (by kernel_rfl) (Bb (off:=2) hT124 (by kernel_rfl)))) ?_;obtain ⟨hp125,hs126,hT1270⟩:=F7 (off:=2) (P:=Tryz.prog) (ty:=4) (y:= .b v121.1) (a':= .ag [.v (.int .u8 r76),.st r56.2.2,.b v121.1,.sl 1 ([].map cdS.enc),.j 0]) hT124 (by kernel_rfl) (by kernel_rfl) (by kernel_rfl)
  have hT127:T hp125 ((cel e28 5 66 (.ag [.v (.int .u8 r76),.st r56.2.2,.b v121.1,.sl 1 ([].map cdS.enc),.j 0]))::(cel e15 1 126 (.sl 1 (v121.2.map cdS.enc)))::(cel e1 5 66 (.ag [.v (.int .u8 0),.st [],.b false,.sl 1 ([].map cdS.enc),.j 0]))::L):=hT1270
  refine RunL.store AC (y:=ER e28 2) (z:= .b v121.1) rfl (AA rfl) (by kernel_rfl) (by kernel_rfl) hs126 ?_;refine AE rfl ?_;refine RunX.done rfl ?_;have hq:=OI h; subst hq
  have hT132:T hp125 ((cel e1 5 66 (.ag [.v (.int .u8 0),.st [],.b false,.sl 1 ([].map cdS.enc),.j 0]))::(cel e15 1 126 (.sl 1 (v121.2.map cdS.enc)))::(cel e28 5 66 (.ag [.v (.int .u8 r76),.st r56.2.2,.b v121.1,.sl 1 ([].map cdS.enc),.j 0]))::L):=((hT127.front 1 rfl).front 2 rfl)
  exact ⟨_,rfl,rfl,_,⟨hp125,hT132,rfl⟩,WkY.f1⟩
 ·rw [Bx hb119] at h
  refine SemX.seq ?_;refine SemX.seq ?_;refine SemX.regionL ?_;refine AG (n:=93) AC 2 [(2,e1),(3,e15),(6,e28),(50,.v (.int .u8 r76)),(70,.b (r76==6))] hp (by kernel_rfl) ?_;refine AE rfl (SemX.fr (l':=[(2,e1),(3,e15),(6,e28),(50,.v (.int .u8 r76)),(70,.b (r76==6))]) (by kernel_rfl) ?_);rcases Ak h with ⟨r137,hr137,h⟩ | ⟨er138,hr137,hr137q⟩
  case inr=>exact SemX.inr (Gr r76 e1 e15 e28 r56 _ hr137 hT) (fun _=>hr137q)
  refine Fc (SemX.inl (Gr r76 e1 e15 e28 r56 _ hr137 hT)) ?_;rintro _ ⟨hp139,hT140,rfl⟩;rcases Ak h with ⟨r180,hr180,h⟩ | ⟨er181,hr180,hr180q⟩
  case inr=>exact SemX.inr (Gs r56 r76 r137 e1 e15 e28 _ hr180 hT140) (fun _=>hr180q)
  refine Fc (SemX.inl (Gs r56 r76 r137 e1 e15 e28 _ hr180 hT140)) ?_;rintro _ ⟨hp182,hT183,rfl⟩;have hq:=OI h; subst hq;exact ⟨_,rfl,rfl,_,⟨hp182,hT183,rfl⟩,WkY.f1⟩
theorem Gp {L:List Asn}{hp:Hp}(r56:(List UInt8)×(List (List UInt8))×(List UInt8)) (r76:Int) (e1:AV) (e15:AV) (e28:AV) (r:(((List (List UInt8))×Bool×(List (List UInt8))×Int)) ⊕ Int) (h:CU r56 r76=some r) (hT:T hp ((cel e28 5 66 (.ag [.v (.int .u8 r76),.st r56.2.2,.b false,.sl 1 ([].map cdS.enc),.j 0]))::(cel e1 5 66 (.ag [.v (.int .u8 0),.st [],.b false,.sl 1 ([].map cdS.enc),.j 0]))::(cel e15 1 126 (.sl 1 (r56.2.1.map cdS.enc)))::L)):SemX E0 ⟨none,false⟩ (pc BP [1,1,1,1,1,1,1,1,0,1,0,1,1,1]) ⟨Fr 93 [(2,e1),(3,e15),(6,e28),(50,.v (.int .u8 r76)),(56,.b (r76==4))],hp⟩ (fun e s=>∃ q,r = .inl q/\e = .normal/\∃ s2,(∃ (h':Hp),T h' ((cel e1 5 66 (.ag [.v (.int .u8 0),.st [],.b false,.sl 1 ([].map cdS.enc),.j 0]))::(cel e15 1 126 (.sl 1 (q.1.map cdS.enc)))::(cel e28 5 66 (.ag [.v (.int .u8 r76),.st r56.2.2,.b q.2.1,.sl 1 (q.2.2.1.map cdS.enc),.j q.2.2.2]))::L)/\s2=⟨Fr 93 [(2,e1),(3,e15),(6,e28)],h'⟩)/\WkY E0 s s2) fun e _=>r = .inr e:=by
 unfold CU at h;refine SemX.cond (b:=(r76==4)) (by kernel_rfl) (fun hb96=>?_) (fun hb96=>?_)
 ·rw [if_pos hb96] at h
  refine SemX.seq ?_;refine Al ?_;refine RunX.pre 1 ?_;refine AG (n:=93) AC 1 [(2,e1),(3,e15),(6,e28),(58,e15)] hp (by kernel_rfl) ?_;refine AE rfl ?_
  have hT97:T hp ((cel e15 1 126 (.sl 1 (r56.2.1.map cdS.enc)))::(cel e28 5 66 (.ag [.v (.int .u8 r76),.st r56.2.2,.b false,.sl 1 ([].map cdS.enc),.j 0]))::(cel e1 5 66 (.ag [.v (.int .u8 0),.st [],.b false,.sl 1 ([].map cdS.enc),.j 0]))::L):=(hT.front 2 rfl)
  rcases Ak h with ⟨v98,hv98,h⟩ | ⟨v98x,hv98,hv98q⟩
  case inr=>exact Bg rfl rfl (fid:=66) (caps:=[]) (xs:=[e15]) (fn:=Tryz.f66) (c:=Aj) (Out:=fun _ _=>False) rfl (AA rfl) (by kernel_rfl) (by kernel_rfl) Tryz.func66 ⟨Tryz.call66⟩ (by kernel_rfl) (by show 1<=26; decide) (SemX.mono (An e15 r56.2.1 _ hv98 hT97) (fun _ _ hh=>by obtain ⟨_,hh1,_⟩:=hh; cases hh1) (fun _ _ hh=>hh)) (fun _ _ hh=>by cases hh; exact hv98q) (fun _ _ hh=>hh.elim)
  refine Bg rfl rfl (fid:=66) (caps:=[]) (xs:=[e15]) (fn:=Tryz.f66) (c:=Aj) (Out:=fun v h'=>v = .st v98.1/\T h' ((cel e15 1 126 (.sl 1 (v98.2.map cdS.enc)))::(cel e28 5 66 (.ag [.v (.int .u8 r76),.st r56.2.2,.b false,.sl 1 ([].map cdS.enc),.j 0]))::(cel e1 5 66 (.ag [.v (.int .u8 0),.st [],.b false,.sl 1 ([].map cdS.enc),.j 0]))::L)) (PQ:=fun _ _=>False) rfl (AA rfl) (by kernel_rfl) (by kernel_rfl) Tryz.func66 ⟨Tryz.call66⟩ (by kernel_rfl) (by show 1<=26; decide) (SemX.inl (An e15 r56.2.1 _ hv98 hT97)) (fun _ _ hh=>hh.elim) ?_;rintro xx hp99 ⟨hqhp99,hT1000⟩; subst xx
  have hT100:T hp99 ((cel e15 1 126 (.sl 1 (v98.2.map cdS.enc)))::(cel e28 5 66 (.ag [.v (.int .u8 r76),.st r56.2.2,.b false,.sl 1 ([].map cdS.enc),.j 0]))::(cel e1 5 66 (.ag [.v (.int .u8 0),.st [],.b false,.sl 1 ([].map cdS.enc),.j 0]))::L):=hT1000
  rcases Ak h with ⟨v101,hv101,h⟩ | ⟨v101x,hv101,hv101q⟩
  case inr=>exact CI (caps:=[]) (xs:=[.st v98.1]) (u:=(v98.1,())) rfl rfl Fa rfl (AA rfl) (by kernel_rfl) (by kernel_rfl) (AM (AS (c:=cdS) (v:=v98.1)) SeesD.nil) hv101 hv101q
  refine CJ (caps:=[]) (xs:=[.st v98.1]) (u:=(v98.1,())) rfl rfl Fa rfl (AA rfl) (by kernel_rfl) (by kernel_rfl) (AM (AS (c:=cdS) (v:=v98.1)) SeesD.nil) (.inl (by kernel_rfl)) hv101 ?_;refine RunX.pre 2 ?_
  have hT102:T hp99 ((cel e28 5 66 (.ag [.v (.int .u8 r76),.st r56.2.2,.b false,.sl 1 ([].map cdS.enc),.j 0]))::(cel e15 1 126 (.sl 1 (v98.2.map cdS.enc)))::(cel e1 5 66 (.ag [.v (.int .u8 0),.st [],.b false,.sl 1 ([].map cdS.enc),.j 0]))::L):=(hT100.front 1 rfl)
  refine AH AC 0 rfl (BH (AA rfl) rfl (C0 (a:=e28) (by kernel_rfl) (Bb (off:=4) hT102 (by kernel_rfl)))) ?_;obtain ⟨hp103,hs104,hT1050⟩:=F7 (off:=4) (P:=Tryz.prog) (ty:=3) (y:= .j v101) (a':= .ag [.v (.int .u8 r76),.st r56.2.2,.b false,.sl 1 ([].map cdS.enc),.j v101]) hT102 (by kernel_rfl) (by kernel_rfl) (by kernel_rfl)
  have hT105:T hp103 ((cel e28 5 66 (.ag [.v (.int .u8 r76),.st r56.2.2,.b false,.sl 1 ([].map cdS.enc),.j v101]))::(cel e15 1 126 (.sl 1 (v98.2.map cdS.enc)))::(cel e1 5 66 (.ag [.v (.int .u8 0),.st [],.b false,.sl 1 ([].map cdS.enc),.j 0]))::L):=hT1050
  refine RunL.store AC (y:=ER e28 4) (z:= .j v101) rfl (AA rfl) (by kernel_rfl) (by kernel_rfl) hs104 ?_;refine AE rfl ?_;refine RunX.done rfl (SemX.fr (l':=[(2,e1),(3,e15),(6,e28)]) (by kernel_rfl) ?_);refine Al ?_;refine RunX.pre 1 ?_;refine AG (n:=93) AC 1 [(2,e1),(3,e15),(6,e28),(62,e15)] hp103 (by kernel_rfl) ?_;refine AE rfl ?_
  have hT106:T hp103 ((cel e15 1 126 (.sl 1 (v98.2.map cdS.enc)))::(cel e28 5 66 (.ag [.v (.int .u8 r76),.st r56.2.2,.b false,.sl 1 ([].map cdS.enc),.j v101]))::(cel e1 5 66 (.ag [.v (.int .u8 0),.st [],.b false,.sl 1 ([].map cdS.enc),.j 0]))::L):=(hT105.front 1 rfl)
  rcases Ak h with ⟨v107,hv107,h⟩ | ⟨v107x,hv107,hv107q⟩
  case inr=>exact Bg rfl rfl (fid:=69) (caps:=[]) (xs:=[e15]) (fn:=Tryz.f69) (c:=BV) (Out:=fun _ _=>False) rfl (AA rfl) (by kernel_rfl) (by kernel_rfl) Tryz.func69 ⟨Tryz.call69⟩ (by kernel_rfl) (by show 1<=15; decide) (SemX.mono (Bf e15 v98.2 _ hv107 hT106) (fun _ _ hh=>by obtain ⟨_,hh1,_⟩:=hh; cases hh1) (fun _ _ hh=>hh)) (fun _ _ hh=>by cases hh; exact hv107q) (fun _ _ hh=>hh.elim)
  refine Bg rfl rfl (fid:=69) (caps:=[]) (xs:=[e15]) (fn:=Tryz.f69) (c:=BV) (Out:=fun v h'=>v = .b v107.1/\T h' ((cel e15 1 126 (.sl 1 (v107.2.map cdS.enc)))::(cel e28 5 66 (.ag [.v (.int .u8 r76),.st r56.2.2,.b false,.sl 1 ([].map cdS.enc),.j v101]))::(cel e1 5 66 (.ag [.v (.int .u8 0),.st [],.b false,.sl 1 ([].map cdS.enc),.j 0]))::L)) (PQ:=fun _ _=>False) rfl (AA rfl) (by kernel_rfl) (by kernel_rfl) Tryz.func69 ⟨Tryz.call69⟩ (by kernel_rfl) (by show 1<=15; decide) (SemX.inl (Bf e15 v98.2 _ hv107 hT106)) (fun _ _ hh=>hh.elim) ?_;rintro xx hp108 ⟨hqhp108,hT1090⟩; subst xx
  have hT109:T hp108 ((cel e15 1 126 (.sl 1 (v107.2.map cdS.enc)))::(cel e28 5 66 (.ag [.v (.int .u8 r76),.st r56.2.2,.b false,.sl 1 ([].map cdS.enc),.j v101]))::(cel e1 5 66 (.ag [.v (.int .u8 0),.st [],.b false,.sl 1 ([].map cdS.enc),.j 0]))::L):=hT1090
  refine RunX.pre 2 ?_
  have hT110:T hp108 ((cel e28 5 66 (.ag [.v (.int .u8 r76),.st r56.2.2,.b false,.sl 1 ([].map cdS.enc),.j v101]))::(cel e15 1 126 (.sl 1 (v107.2.map cdS.enc)))::(cel e1 5 66 (.ag [.v (.int .u8 0),.st [],.b false,.sl 1 ([].map cdS.enc),.j 0]))::L):=(hT109.front 1 rfl)
  refine AH AC 0 rfl (BH (AA rfl) rfl (C0 (a:=e28) (by kernel_rfl) (Bb (off:=2) hT110 (by kernel_rfl)))) ?_;obtain ⟨hp111,hs112,hT1130⟩:=F7 (off:=2) (P:=Tryz.prog) (ty:=4) (y:= .b v107.1) (a':= .ag [.v (.int .u8 r76),.st r56.2.2,.b v107.1,.sl 1 ([].map cdS.enc),.j v101]) hT110 (by kernel_rfl) (by kernel_rfl) (by kernel_rfl)
  have hT113:T hp111 ((cel e28 5 66 (.ag [.v (.int .u8 r76),.st r56.2.2,.b v107.1,.sl 1 ([].map cdS.enc),.j v101]))::(cel e15 1 126 (.sl 1 (v107.2.map cdS.enc)))::(cel e1 5 66 (.ag [.v (.int .u8 0),.st [],.b false,.sl 1 ([].map cdS.enc),.j 0]))::L):=hT1130
  refine RunL.store AC (y:=ER e28 2) (z:= .b v107.1) rfl (AA rfl) (by kernel_rfl) (by kernel_rfl) hs112 ?_;refine AE rfl ?_;refine RunX.done rfl ?_;have hq:=OI h; subst hq
  have hT118:T hp111 ((cel e1 5 66 (.ag [.v (.int .u8 0),.st [],.b false,.sl 1 ([].map cdS.enc),.j 0]))::(cel e15 1 126 (.sl 1 (v107.2.map cdS.enc)))::(cel e28 5 66 (.ag [.v (.int .u8 r76),.st r56.2.2,.b v107.1,.sl 1 ([].map cdS.enc),.j v101]))::L):=((hT113.front 1 rfl).front 2 rfl)
  exact ⟨_,rfl,rfl,_,⟨hp111,hT118,rfl⟩,WkY.f1⟩
 ·rw [Bx hb96] at h
  refine SemX.seq ?_;refine SemX.regionL ?_;refine AG (n:=93) AC 2 [(2,e1),(3,e15),(6,e28),(50,.v (.int .u8 r76)),(65,.b (r76==5))] hp (by kernel_rfl) ?_;refine AE rfl (SemX.fr (l':=[(2,e1),(3,e15),(6,e28),(50,.v (.int .u8 r76)),(65,.b (r76==5))]) (by kernel_rfl) ?_);rcases Ak h with ⟨r184,hr184,h⟩ | ⟨er185,hr184,hr184q⟩
  case inr=>exact SemX.inr (Gq r56 r76 e1 e15 e28 _ hr184 hT) (fun _=>hr184q)
  refine Fc (SemX.inl (Gq r56 r76 e1 e15 e28 _ hr184 hT)) ?_;rintro _ ⟨hp186,hT187,rfl⟩;have hq:=OI h; subst hq;exact ⟨_,rfl,rfl,_,⟨hp186,hT187,rfl⟩,WkY.f1⟩
theorem Gn {L:List Asn}{hp:Hp}(r56:(List UInt8)×(List (List UInt8))×(List UInt8)) (r76:Int) (e1:AV) (e15:AV) (e28:AV) (r:(((List (List UInt8))×Bool×(List (List UInt8))×Int)) ⊕ Int) (h:Ay r56 r76=some r) (hT:T hp ((cel e28 5 66 (.ag [.v (.int .u8 r76),.st r56.2.2,.b false,.sl 1 ([].map cdS.enc),.j 0]))::(cel e1 5 66 (.ag [.v (.int .u8 0),.st [],.b false,.sl 1 ([].map cdS.enc),.j 0]))::(cel e15 1 126 (.sl 1 (r56.2.1.map cdS.enc)))::L)):SemX E0 ⟨none,false⟩ (pc BP [1,1,1,1,1,1,1,1,0,1,0,1]) ⟨Fr 93 [(2,e1),(3,e15),(6,e28),(50,.v (.int .u8 r76)),(51,.b (r76==1))],hp⟩ (fun e s=>∃ q,r = .inl q/\e = .normal/\∃ s2,(∃ (h':Hp),T h' ((cel e1 5 66 (.ag [.v (.int .u8 0),.st [],.b false,.sl 1 ([].map cdS.enc),.j 0]))::(cel e15 1 126 (.sl 1 (q.1.map cdS.enc)))::(cel e28 5 66 (.ag [.v (.int .u8 r76),.st r56.2.2,.b q.2.1,.sl 1 (q.2.2.1.map cdS.enc),.j q.2.2.2]))::L)/\s2=⟨Fr 93 [(2,e1),(3,e15),(6,e28)],h'⟩)/\WkY E0 s s2) fun e _=>r = .inr e:=by
 unfold Ay at h;refine SemX.cond (b:=(r76==1)) (by kernel_rfl) (fun hb82=>?_) (fun hb82=>?_)
 ·rw [if_pos hb82] at h
  refine Al ?_;refine RunX.pre 1 ?_;refine AG (n:=93) AC 1 [(2,e1),(3,e15),(6,e28),(53,e15)] hp (by kernel_rfl) ?_;refine AE rfl ?_
  have hT83:T hp ((cel e15 1 126 (.sl 1 (r56.2.1.map cdS.enc)))::(cel e28 5 66 (.ag [.v (.int .u8 r76),.st r56.2.2,.b false,.sl 1 ([].map cdS.enc),.j 0]))::(cel e1 5 66 (.ag [.v (.int .u8 0),.st [],.b false,.sl 1 ([].map cdS.enc),.j 0]))::L):=(hT.front 2 rfl)
  rcases Ak h with ⟨v84,hv84,h⟩ | ⟨v84x,hv84,hv84q⟩
  case inr=>exact Bg rfl rfl (fid:=67) (caps:=[]) (xs:=[e15]) (fn:=Tryz.f67) (c:=B4) (Out:=fun _ _=>False) rfl (AA rfl) (by kernel_rfl) (by kernel_rfl) Tryz.func67 ⟨Tryz.call67⟩ (by kernel_rfl) (by show 1<=19; decide) (SemX.mono (CY e15 r56.2.1 _ hv84 hT83) (fun _ _ hh=>by obtain ⟨_,hh1,_⟩:=hh; cases hh1) (fun _ _ hh=>hh)) (fun _ _ hh=>by cases hh; exact hv84q) (fun _ _ hh=>hh.elim)
  refine Bg rfl rfl (fid:=67) (caps:=[]) (xs:=[e15]) (fn:=Tryz.f67) (c:=B4) (Out:=fun v h'=>v = .sl 1 (v84.1.map cdS.enc)/\T h' ((cel e15 1 126 (.sl 1 (v84.2.map cdS.enc)))::(cel e28 5 66 (.ag [.v (.int .u8 r76),.st r56.2.2,.b false,.sl 1 ([].map cdS.enc),.j 0]))::(cel e1 5 66 (.ag [.v (.int .u8 0),.st [],.b false,.sl 1 ([].map cdS.enc),.j 0]))::L)) (PQ:=fun _ _=>False) rfl (AA rfl) (by kernel_rfl) (by kernel_rfl) Tryz.func67 ⟨Tryz.call67⟩ (by kernel_rfl) (by show 1<=19; decide) (SemX.inl (CY e15 r56.2.1 _ hv84 hT83)) (fun _ _ hh=>hh.elim) ?_;rintro xx hp85 ⟨hqhp85,hT860⟩; subst xx
  have hT86:T hp85 ((cel e15 1 126 (.sl 1 (v84.2.map cdS.enc)))::(cel e28 5 66 (.ag [.v (.int .u8 r76),.st r56.2.2,.b false,.sl 1 ([].map cdS.enc),.j 0]))::(cel e1 5 66 (.ag [.v (.int .u8 0),.st [],.b false,.sl 1 ([].map cdS.enc),.j 0]))::L):=hT860
  refine RunX.pre 2 ?_
  have hT87:T hp85 ((cel e28 5 66 (.ag [.v (.int .u8 r76),.st r56.2.2,.b false,.sl 1 ([].map cdS.enc),.j 0]))::(cel e15 1 126 (.sl 1 (v84.2.map cdS.enc)))::(cel e1 5 66 (.ag [.v (.int .u8 0),.st [],.b false,.sl 1 ([].map cdS.enc),.j 0]))::L):=(hT86.front 1 rfl)
  refine AH AC 0 rfl (BH (AA rfl) rfl (C0 (a:=e28) (by kernel_rfl) (Bb (off:=3) hT87 (by kernel_rfl)))) ?_;obtain ⟨hp88,hs89,hT900⟩:=F7 (off:=3) (P:=Tryz.prog) (ty:=45) (y:= .sl 1 (v84.1.map cdS.enc)) (a':= .ag [.v (.int .u8 r76),.st r56.2.2,.b false,.sl 1 (v84.1.map cdS.enc),.j 0]) hT87 (by kernel_rfl) (by kernel_rfl) (by kernel_rfl)
  have hT90:T hp88 ((cel e28 5 66 (.ag [.v (.int .u8 r76),.st r56.2.2,.b false,.sl 1 (v84.1.map cdS.enc),.j 0]))::(cel e15 1 126 (.sl 1 (v84.2.map cdS.enc)))::(cel e1 5 66 (.ag [.v (.int .u8 0),.st [],.b false,.sl 1 ([].map cdS.enc),.j 0]))::L):=hT900
  refine RunL.store AC (y:=ER e28 3) (z:= .sl 1 (v84.1.map cdS.enc)) rfl (AA rfl) (by kernel_rfl) (by kernel_rfl) hs89 ?_;refine AE rfl ?_;refine RunX.done rfl ?_;have hq:=OI h; subst hq
  have hT95:T hp88 ((cel e1 5 66 (.ag [.v (.int .u8 0),.st [],.b false,.sl 1 ([].map cdS.enc),.j 0]))::(cel e15 1 126 (.sl 1 (v84.2.map cdS.enc)))::(cel e28 5 66 (.ag [.v (.int .u8 r76),.st r56.2.2,.b false,.sl 1 (v84.1.map cdS.enc),.j 0]))::L):=((hT90.front 1 rfl).front 2 rfl)
  exact ⟨_,rfl,rfl,_,⟨hp88,hT95,rfl⟩,WkY.f1⟩
 ·rw [Bx hb82] at h
  refine SemX.seq ?_;refine SemX.regionL ?_;refine AG (n:=93) AC 2 [(2,e1),(3,e15),(6,e28),(50,.v (.int .u8 r76)),(56,.b (r76==4))] hp (by kernel_rfl) ?_;refine AE rfl (SemX.fr (l':=[(2,e1),(3,e15),(6,e28),(50,.v (.int .u8 r76)),(56,.b (r76==4))]) (by kernel_rfl) ?_);rcases Ak h with ⟨r188,hr188,h⟩ | ⟨er189,hr188,hr188q⟩
  case inr=>exact SemX.inr (Gp r56 r76 e1 e15 e28 _ hr188 hT) (fun _=>hr188q)
  refine Fc (SemX.inl (Gp r56 r76 e1 e15 e28 _ hr188 hT)) ?_;rintro _ ⟨hp190,hT191,rfl⟩;have hq:=OI h; subst hq;exact ⟨_,rfl,rfl,_,⟨hp190,hT191,rfl⟩,WkY.f1⟩
theorem Kg {L:List Asn}{hp:Hp}(x0:(List UInt8)) (r:(Int×(List UInt8)×Bool×(List (List UInt8))×Int) ⊕ Int) (h:Di x0=some r) (hT:T hp (L)):SemX E0 ⟨none,false⟩ BP ⟨Fr 93 (BB 0 [.st x0]),hp⟩ (fun x s'=>∃ q,r = .inl q/\(x = .normal\/x = .ret)/\∃ ys,D4 E0.P s'.fr s'.hp Tryz.f35.results.toList=some ys/\(fun v h'=>v=(AB.enc q)/\T h' (L)) (Eh ys) s'.hp) fun e _=>r = .inr e:=by
 unfold Di at h;refine Im (Hc (s1:=⟨Fr 93 [(0,.st x0)],hp⟩) WkY.f1 ?_);refine SemX.seq ?_;refine SemX.regionL ?_;obtain ⟨e1,hp2,hb3,hT40⟩:=KB (t:=66) (a:= .ag [.v (.int .u8 0),.st [],.b false,.e0,.j 0]) hT (by kernel_rfl)
 have hT4:T hp2 ((cel e1 5 66 (.ag [.v (.int .u8 0),.st [],.b false,.e0,.j 0]))::L):=hT40
 refine AH AC 0 rfl (UL (AA rfl) rfl (by kernel_rfl) (Mz (z:= .ag [.v (.int .u8 0),.st [],.b false,.e0,.j 0]) (by kernel_rfl) hb3)) ?_;obtain ⟨hp5,hw6,hT70⟩:=Iq (E:=E0) (y:= .ag [.v (.int .u8 0),.st [],.b false,.sl 1 ([].map cdS.enc),.j 0]) hT4 (UpV.ag ⟨UpV.refl,UpV.refl,UpV.refl,UpV.nil,UpV.refl,trivial⟩)
 have hT7:T hp5 ((cel e1 5 66 (.ag [.v (.int .u8 0),.st [],.b false,.sl 1 ([].map cdS.enc),.j 0]))::L):=hT70
 refine JD (hw6 _ _) ?_;refine AE rfl (SemX.fr (l':=[(0,.st x0),(2,e1)]) (by kernel_rfl) ?_);refine SemX.seq ?_;refine SemX.regionL ?_;refine AG (n:=93) AC 1 [(2,e1),(9,.st x0)] hp5 (by kernel_rfl) ?_;obtain ⟨v8,hv8,h⟩:=OB h;refine Fb (E:=E0) (e:=E0) rfl rfl AC rfl rfl (fid:=65) (caps:=[]) (xs:=[.st x0,.st [32]]) (fn:=Tryz.f65) (c:=Gj) (Out:=fun v h'=>∃ (z0:AV),v=z0/\T h' ((own_ (ocL 1 9 (ocV cdS)) z0 v8)::(cel e1 5 66 (.ag [.v (.int .u8 0),.st [],.b false,.sl 1 ([].map cdS.enc),.j 0]))::L)) rfl (AA rfl) (by kernel_rfl) (by kernel_rfl) (by kernel_rfl) (by kernel_rfl) (by show 2<=8; decide) (JM x0 [32] _ hv8 hT7) ?_;rintro xx hp10 ⟨e9,hqhp10,hT110⟩; subst xx
 have hT11:T hp10 ((own_ (ocL 1 9 (ocV cdS)) e9 v8)::(cel e1 5 66 (.ag [.v (.int .u8 0),.st [],.b false,.sl 1 ([].map cdS.enc),.j 0]))::L):=hT110
 obtain ⟨hp12,hw13,hT140⟩:=Ru (E:=E0) (n:=93) (l:=[(2,e1),(10,e9)]) (l':=[(2,e1),(10,.sl 1 (v8.map cdS.enc))]) hT11 ⟨⟨e1,(by kernel_rfl),FzU.refl⟩,⟨e9,(by kernel_rfl),Rk⟩,trivial⟩
 have hT14:T hp12 ((cel e1 5 66 (.ag [.v (.int .u8 0),.st [],.b false,.sl 1 ([].map cdS.enc),.j 0]))::L):=hT140
 refine JD (WkY.trans WkY.f1 hw13) ?_;refine AG (n:=93) AC 1 [(2,e1),(11,.ag [.sl 1 (v8.map cdS.enc)])] hp12 (by kernel_rfl) ?_;obtain ⟨e15,hp16,hb17,hT180⟩:=KB (t:=126) (a:= .ag [.sl 1 (v8.map cdS.enc)]) hT14 (by kernel_rfl)
 have hT18:T hp16 ((cel e15 1 126 (.ag [.sl 1 (v8.map cdS.enc)]))::(cel e1 5 66 (.ag [.v (.int .u8 0),.st [],.b false,.sl 1 ([].map cdS.enc),.j 0]))::L):=hT180
 refine AH AC 0 rfl (UL (AA rfl) rfl (by kernel_rfl) (Wv (z:= .ag [.sl 1 (v8.map cdS.enc)]) (by kernel_rfl) hb17)) ?_;refine AG (n:=93) AC 1 [(2,e1),(3,e15)] hp16 (by kernel_rfl) ?_;refine AE rfl (SemX.fr (l':=[(2,e1),(3,e15)]) (by kernel_rfl) ?_);refine SemX.seq ?_;refine SemX.seq ?_;refine SemX.regionL ?_;refine AG (n:=93) AC 1 [(2,e1),(3,e15),(13,e15)] hp16 (by kernel_rfl) ?_;refine AH AC 0 rfl (BH (AA rfl) rfl (Fz (Ck hT18) (by kernel_rfl))) ?_;refine AH AC 0 rfl (BH (AA rfl) rfl (C0 (a:=e15) (by kernel_rfl) (Bb (off:=0) hT18 (by kernel_rfl)))) ?_;refine AH AC 0 rfl (BH (AA rfl) rfl (Bz (p:=ER e15 0) (by kernel_rfl) (CZ (off:=0) (y:= .sl 1 (v8.map cdS.enc)) (m:=1) (g:=false) hT18 (by kernel_rfl) (by kernel_rfl) (by kernel_rfl)))) ?_;refine AH AC 0 rfl (BH (AA rfl) rfl (FT (a:= .sl 1 (v8.map cdS.enc)) (by kernel_rfl) (Dx (el:=9) (by kernel_rfl)))) ?_
 let p1:Nat×AV:=(17,.j (v8.length:Int))
 refine AG (n:=93) AC 1 [(2,e1),(3,e15),(16,.sl 1 (v8.map cdS.enc)),p1,(18,.j 0)] hp16 (by kernel_rfl) ?_;refine AE rfl (SemX.fr (l':=[(2,e1),(3,e15),(16,.sl 1 (v8.map cdS.enc)),p1,(18,.j 0)]) (by kernel_rfl) ?_);refine SemX.block ?_
 have hT23:T hp16 ((cel e1 5 66 (.ag [.v (.int .u8 0),.st [],.b false,.sl 1 ([].map cdS.enc),.j 0]))::(cel e15 1 126 (.ag [.sl 1 (v8.map cdS.enc)]))::L):=(hT18.front 1 rfl)
 refine SemX.loop (n:=100000) ?_;rcases Ak h with ⟨r24,hr24,h⟩ | ⟨er25,hr24,hr24q⟩
 case inr=>exact SemXN.inr (FW WkY.f1 (Gt v8 e1 e15 _ 0 _ hr24  hp16 hT23)) (fun _=>hr24q)
 refine In (SemXN.inl (FW WkY.f1 (Gt v8 e1 e15 _ 0 _ hr24  hp16 hT23))) ?_;rintro _ ⟨hp26,hT27,rfl⟩;refine SemX.seq ?_;refine SemX.regionL ?_;obtain ⟨e28,hp29,hb30,hT310⟩:=KB (t:=66) (a:= .ag [.v (.int .u8 0),.st [],.b false,.e0,.j 0]) hT27 (by kernel_rfl)
 have hT31:T hp29 ((cel e28 5 66 (.ag [.v (.int .u8 0),.st [],.b false,.e0,.j 0]))::(cel e1 5 66 (.ag [.v (.int .u8 0),.st [],.b false,.sl 1 ([].map cdS.enc),.j 0]))::(cel e15 1 126 (.ag [.sl 1 (v8.map cdS.enc)]))::L):=hT310
 refine AH AC 0 rfl (UL (AA rfl) rfl (by kernel_rfl) (Mz (z:= .ag [.v (.int .u8 0),.st [],.b false,.e0,.j 0]) (by kernel_rfl) hb30)) ?_;obtain ⟨hp32,hw33,hT340⟩:=Iq (E:=E0) (y:= .ag [.v (.int .u8 0),.st [],.b false,.sl 1 ([].map cdS.enc),.j 0]) hT31 (UpV.ag ⟨UpV.refl,UpV.refl,UpV.refl,UpV.nil,UpV.refl,trivial⟩)
 have hT34:T hp32 ((cel e28 5 66 (.ag [.v (.int .u8 0),.st [],.b false,.sl 1 ([].map cdS.enc),.j 0]))::(cel e1 5 66 (.ag [.v (.int .u8 0),.st [],.b false,.sl 1 ([].map cdS.enc),.j 0]))::(cel e15 1 126 (.ag [.sl 1 (v8.map cdS.enc)]))::L):=hT340
 refine JD (hw33 _ _) ?_;refine AE rfl (SemX.fr (l':=[(2,e1),(3,e15),(6,e28)]) (by kernel_rfl) ?_);refine SemX.seq ?_;refine Al ?_;refine RunX.pre 1 ?_;refine AG (n:=93) AC 1 [(2,e1),(3,e15),(6,e28),(26,e15)] hp32 (by kernel_rfl) ?_;refine AE rfl ?_
 have hT35:T hp32 ((cel e15 1 126 (.ag [.sl 1 (v8.map cdS.enc)]))::(cel e28 5 66 (.ag [.v (.int .u8 0),.st [],.b false,.sl 1 ([].map cdS.enc),.j 0]))::(cel e1 5 66 (.ag [.v (.int .u8 0),.st [],.b false,.sl 1 ([].map cdS.enc),.j 0]))::L):=(hT34.front 2 rfl)
 rcases Ak h with ⟨v36,hv36,h⟩ | ⟨v36x,hv36,hv36q⟩
 case inr=>exact Bg rfl rfl (fid:=66) (caps:=[]) (xs:=[e15]) (fn:=Tryz.f66) (c:=Dz) (Out:=fun _ _=>False) rfl (AA rfl) (by kernel_rfl) (by kernel_rfl) Tryz.func66 ⟨Tryz.call66⟩ (by kernel_rfl) (by show 1<=26; decide) (SemX.mono (FA e15 v8 _ hv36 hT35) (fun _ _ hh=>by obtain ⟨_,hh1,_⟩:=hh; cases hh1) (fun _ _ hh=>hh)) (fun _ _ hh=>by cases hh; exact hv36q) (fun _ _ hh=>hh.elim)
 refine Bg rfl rfl (fid:=66) (caps:=[]) (xs:=[e15]) (fn:=Tryz.f66) (c:=Dz) (Out:=fun v h'=>v = .st v36.1/\T h' ((cel e15 1 126 (.sl 1 (v36.2.map cdS.enc)))::(cel e28 5 66 (.ag [.v (.int .u8 0),.st [],.b false,.sl 1 ([].map cdS.enc),.j 0]))::(cel e1 5 66 (.ag [.v (.int .u8 0),.st [],.b false,.sl 1 ([].map cdS.enc),.j 0]))::L)) (PQ:=fun _ _=>False) rfl (AA rfl) (by kernel_rfl) (by kernel_rfl) Tryz.func66 ⟨Tryz.call66⟩ (by kernel_rfl) (by show 1<=26; decide) (SemX.inl (FA e15 v8 _ hv36 hT35)) (fun _ _ hh=>hh.elim) ?_;rintro xx hp37 ⟨hqhp37,hT380⟩; subst xx
 have hT38:T hp37 ((cel e15 1 126 (.sl 1 (v36.2.map cdS.enc)))::(cel e28 5 66 (.ag [.v (.int .u8 0),.st [],.b false,.sl 1 ([].map cdS.enc),.j 0]))::(cel e1 5 66 (.ag [.v (.int .u8 0),.st [],.b false,.sl 1 ([].map cdS.enc),.j 0]))::L):=hT380
 refine RunX.pre 1 ?_
 let p2:Nat×AV:=(7,.st v36.1)
 refine AG (n:=93) AC 1 [(2,e1),(3,e15),(6,e28),p2] hp37 (by kernel_rfl) ?_;refine AE rfl ?_;refine RunX.done rfl (SemX.fr (l':=[(2,e1),(3,e15),(6,e28),p2]) (by kernel_rfl) ?_);refine SemX.seq ?_;refine SemX.seq ?_;refine SemX.regionL ?_
 let p3:Nat×AV:=(29,.b (v36.1==[97,109,111,110,103]))
 refine AG (n:=93) AC 2 [(2,e1),(3,e15),(6,e28),p2,p3] hp37 (by kernel_rfl) ?_;refine AE rfl (SemX.fr (l':=[(2,e1),(3,e15),(6,e28),p2,p3]) (by kernel_rfl) ?_);rcases Ak h with ⟨r56,hr56,h⟩ | ⟨er57,hr56,hr56q⟩
 case inr=>exact SemX.inr (Gl v36 e1 e15 e28 _ hr56 hT38) (fun _=>hr56q)
 refine Fc (SemX.inl (Gl v36 e1 e15 e28 _ hr56 hT38)) ?_;rintro _ ⟨hp58,hT59,rfl⟩;refine SemX.seq ?_;refine SemX.seq ?_;refine SemX.regionL ?_;refine AG (n:=93) AC 1 [(2,e1),(3,e15),(6,e28),(7,.st r56.1),(8,.v (.int .u8 1))] hp58 (by kernel_rfl) ?_;refine AE rfl (SemX.fr (l':=[(2,e1),(3,e15),(6,e28),(7,.st r56.1),(8,.v (.int .u8 1))]) (by kernel_rfl) ?_);refine SemX.block ?_;refine SemX.loop (n:=100000) ?_;rcases Ak h with ⟨r76,hr76,h⟩ | ⟨er77,hr76,hr76q⟩
 case inr=>exact SemXN.inr (FW WkY.f1 (Gu r56 e1 e15 e28 _ 1 0 _ hr76  hp58 hT59)) (fun _=>hr76q)
 refine In (SemXN.inl (FW WkY.f1 (Gu r56 e1 e15 e28 _ 1 0 _ hr76  hp58 hT59))) ?_;rintro _ ⟨hp78,hT79,rfl⟩;refine SemX.seq ?_;refine Al ?_;refine RunX.pre 3 ?_
 have hT80:T hp78 ((cel e28 5 66 (.ag [.v (.int .u8 r76),.st r56.2.2,.b false,.sl 1 ([].map cdS.enc),.j 0]))::(cel e1 5 66 (.ag [.v (.int .u8 0),.st [],.b false,.sl 1 ([].map cdS.enc),.j 0]))::(cel e15 1 126 (.sl 1 (r56.2.1.map cdS.enc)))::L):=(hT79.front 2 rfl)
 refine AH AC 0 rfl (BH (AA rfl) rfl (C0 (a:=e28) (by kernel_rfl) (Bb (off:=0) hT80 (by kernel_rfl)))) ?_;refine AH AC 0 rfl (BH (AA rfl) rfl (Bz (p:=ER e28 0) (by kernel_rfl) (CZ (off:=0) (y:= .v (.int .u8 r76)) (m:=1) (g:=false) hT80 (by kernel_rfl) (by kernel_rfl) (by kernel_rfl)))) ?_;refine AG (n:=93) AC 1 [(2,e1),(3,e15),(6,e28),(47,.b (r76 != 0))] hp78 (by kernel_rfl) ?_;refine AE rfl ?_;rcases Ak h with ⟨v81,hv81,h⟩ | ⟨v81x,hv81,hv81q⟩
 case inr=>exact CI (caps:=[]) (xs:=[.b (r76 != 0),.j 3]) (u:=((r76 != 0),3,())) rfl rfl Ao rfl (AA rfl) (by kernel_rfl) (by kernel_rfl) (AM (AS (c:=cdB) (v:=(r76 != 0))) (AM (AS (c:=cdI) (v:=3)) SeesD.nil)) hv81 hv81q
 refine CJ (caps:=[]) (xs:=[.b (r76 != 0),.j 3]) (u:=((r76 != 0),3,())) rfl rfl Ao rfl (AA rfl) (by kernel_rfl) (by kernel_rfl) (AM (AS (c:=cdB) (v:=(r76 != 0))) (AM (AS (c:=cdI) (v:=3)) SeesD.nil)) (.inl (by kernel_rfl)) hv81 ?_;refine RunX.done rfl (SemX.fr (l':=[(2,e1),(3,e15),(6,e28)]) (by kernel_rfl) ?_);refine SemX.seq ?_;refine SemX.seq ?_;refine SemX.regionL ?_;refine AH AC 0 rfl (BH (AA rfl) rfl (C0 (a:=e28) (by kernel_rfl) (Bb (off:=0) hT80 (by kernel_rfl)))) ?_;refine AH AC 0 rfl (BH (AA rfl) rfl (Bz (p:=ER e28 0) (by kernel_rfl) (CZ (off:=0) (y:= .v (.int .u8 r76)) (m:=1) (g:=false) hT80 (by kernel_rfl) (by kernel_rfl) (by kernel_rfl)))) ?_
 let p4:Nat×AV:=(50,.v (.int .u8 r76))
 refine AE rfl (SemX.fr (l':=[(2,e1),(3,e15),(6,e28),p4]) (by kernel_rfl) ?_);refine SemX.block ?_;refine SemX.seq ?_;refine SemX.regionL ?_;refine AG (n:=93) AC 2 [(2,e1),(3,e15),(6,e28),p4,(51,.b (r76==1))] hp78 (by kernel_rfl) ?_;refine AE rfl (SemX.fr (l':=[(2,e1),(3,e15),(6,e28),p4,(51,.b (r76==1))]) (by kernel_rfl) ?_);rcases Ak h with ⟨r192,hr192,h⟩ | ⟨er193,hr192,hr192q⟩
 case inr=>exact SemX.inr (Gn r56 r76 e1 e15 e28 _ hr192 hT80) (fun _=>hr192q)
 refine Fc (SemX.inl (Gn r56 r76 e1 e15 e28 _ hr192 hT80)) ?_;rintro _ ⟨hp194,hT195,rfl⟩;refine SemX.seq ?_;refine Al ?_;refine RunX.pre 6 ?_;refine AG (n:=93) AC 1 [(2,e1),(6,e28),(85,e15)] hp194 (by kernel_rfl) ?_
 have hT196:T hp194 ((cel e15 1 126 (.sl 1 (r192.1.map cdS.enc)))::(cel e1 5 66 (.ag [.v (.int .u8 0),.st [],.b false,.sl 1 ([].map cdS.enc),.j 0]))::(cel e28 5 66 (.ag [.v (.int .u8 r76),.st r56.2.2,.b r192.2.1,.sl 1 (r192.2.2.1.map cdS.enc),.j r192.2.2.2]))::L):=(hT195.front 1 rfl)
 refine AH AC 0 rfl (BH (AA rfl) rfl (Fz (Ck hT196) (by kernel_rfl))) ?_;refine AH AC 0 rfl (BH (AA rfl) rfl (C0 (a:=e15) (by kernel_rfl) (Bb (off:=0) hT196 (by kernel_rfl)))) ?_;refine AH AC 0 rfl (BH (AA rfl) rfl (Bz (p:=ER e15 0) (by kernel_rfl) (CZ (off:=0) (y:= .sl 1 (r192.1.map cdS.enc)) (m:=1) (g:=false) hT196 (by kernel_rfl) (by kernel_rfl) (by kernel_rfl)))) ?_;refine AH AC 0 rfl (BH (AA rfl) rfl (FT (a:= .sl 1 (r192.1.map cdS.enc)) (by kernel_rfl) (Dx (el:=9) (by kernel_rfl)))) ?_;refine AG (n:=93) AC 1 [(2,e1),(6,e28),(90,.b ((r192.1.length:Int)==0))] hp194 (by kernel_rfl) ?_;refine AE rfl ?_;rcases Ak h with ⟨v197,hv197,h⟩ | ⟨v197x,hv197,hv197q⟩
 case inr=>exact CI (caps:=[]) (xs:=[.b ((r192.1.length:Int)==0),.j 3]) (u:=(((r192.1.length:Int)==0),3,())) rfl rfl Ao rfl (AA rfl) (by kernel_rfl) (by kernel_rfl) (AM (AS (c:=cdB) (v:=((r192.1.length:Int)==0))) (AM (AS (c:=cdI) (v:=3)) SeesD.nil)) hv197 hv197q
 refine CJ (caps:=[]) (xs:=[.b ((r192.1.length:Int)==0),.j 3]) (u:=(((r192.1.length:Int)==0),3,())) rfl rfl Ao rfl (AA rfl) (by kernel_rfl) (by kernel_rfl) (AM (AS (c:=cdB) (v:=((r192.1.length:Int)==0))) (AM (AS (c:=cdI) (v:=3)) SeesD.nil)) (.inl (by kernel_rfl)) hv197 ?_;refine RunX.done rfl (SemX.fr (l':=[(2,e1),(6,e28)]) (by kernel_rfl) ?_);refine SemX.seq ?_;refine SemX.regionL ?_
 have hT198:T hp194 ((cel e28 5 66 (.ag [.v (.int .u8 r76),.st r56.2.2,.b r192.2.1,.sl 1 (r192.2.2.1.map cdS.enc),.j r192.2.2.2]))::(cel e15 1 126 (.sl 1 (r192.1.map cdS.enc)))::(cel e1 5 66 (.ag [.v (.int .u8 0),.st [],.b false,.sl 1 ([].map cdS.enc),.j 0]))::L):=(hT196.front 2 rfl)
 refine AH AC 0 rfl (BH (AA rfl) rfl (Bz (p:=e28) (by kernel_rfl) (FI (y:= .ag [.v (.int .u8 r76),.st r56.2.2,.b r192.2.1,.sl 1 (r192.2.2.1.map cdS.enc),.j r192.2.2.2]) (m:=5) (g:=true) hT198 (by kernel_rfl) (by kernel_rfl) (by kernel_rfl)))) ?_
 have hT202:T hp194 ((cel e1 5 66 (.ag [.v (.int .u8 0),.st [],.b false,.sl 1 ([].map cdS.enc),.j 0]))::(cel e28 5 66 (.ag [.v (.int .u8 r76),.st r56.2.2,.b r192.2.1,.sl 1 (r192.2.2.1.map cdS.enc),.j r192.2.2.2]))::(cel e15 1 126 (.sl 1 (r192.1.map cdS.enc)))::L):=(hT198.front 2 rfl)
 obtain ⟨hp199,hs200,hT2010⟩:=Ih (P:=Tryz.prog) (ty:=66) (y:= .ag [.v (.int .u8 r76),.st r56.2.2,.b r192.2.1,.sl 1 (r192.2.2.1.map cdS.enc),.j r192.2.2.2]) (a':= .ag [.v (.int .u8 r76),.st r56.2.2,.b r192.2.1,.sl 1 (r192.2.2.1.map cdS.enc),.j r192.2.2.2]) hT202 (by kernel_rfl) (by kernel_rfl) (by kernel_rfl)
 have hT201:T hp199 ((cel e1 5 66 (.ag [.v (.int .u8 r76),.st r56.2.2,.b r192.2.1,.sl 1 (r192.2.2.1.map cdS.enc),.j r192.2.2.2]))::(cel e28 5 66 (.ag [.v (.int .u8 r76),.st r56.2.2,.b r192.2.1,.sl 1 (r192.2.2.1.map cdS.enc),.j r192.2.2.2]))::(cel e15 1 126 (.sl 1 (r192.1.map cdS.enc)))::L):=hT2010
 refine RunL.store AC (y:=e1) (z:= .ag [.v (.int .u8 r76),.st r56.2.2,.b r192.2.1,.sl 1 (r192.2.2.1.map cdS.enc),.j r192.2.2.2]) rfl (AA rfl) (by kernel_rfl) (by kernel_rfl) hs200 ?_;refine AE rfl (SemX.fr (l':=[(2,e1)]) (by kernel_rfl) ?_);refine SemX.ret ?_;have hq:=OI h; subst hq;exact ⟨⟨Fr 93 [(2,e1)],hp199⟩,WkY.f1,_,rfl,.inr rfl,[.ag [.v (.int .u8 r76),.st r56.2.2,.b r192.2.1,.sl 1 (r192.2.2.1.map cdS.enc),.j r192.2.2.2]],(Sr (y:= .ag [.v (.int .u8 r76),.st r56.2.2,.b r192.2.1,.sl 1 (r192.2.2.1.map cdS.enc),.j r192.2.2.2]) (m:=5) (g:=true) rfl hT201 (by kernel_rfl) (by kernel_rfl) (by kernel_rfl)),⟨rfl,hT201.drop.drop.drop⟩⟩
def GS:Cs ((List UInt8)×Unit):=(csC cdS csN)
def IS (r:AF):AV:=AB.enc r
def MB:List AV->Option (AV ⊕ Int):=Ls GS (fun a=>Di a.1) IS
theorem JC:TC 35 MB:=by
 refine Il Tryz.func35 (c:=BP) ?h2 ⟨Tryz.call35⟩ GS (fun a=>Di a.1) IS (fun a=>(by show 1<=93; decide)) ?h3 ?h4
 case h2=>kernel_rfl
 case h3=>intro b; kernel_rfl
 case h4 =>
  intro a r h;refine SemX.mono (Kg (L:=[]) (hp:=[]) a.1 r h T.nil) (fun e s' hs=>?_) (fun _ _ hh=>hh);obtain ⟨q,h0,h1,ys,h2,h3,-⟩:=hs;exact ⟨q,h0,h1,ys,h2,h3⟩
/- trestle/court.Parse -/
noncomputable def Ke:Code:=pc (BX Tryz.f11) [1,1,1,0]
def Br  : Nat->(List UInt8)->Int->(List AF)->Option (((Int×(List AF))) ⊕ (Int×Int))
 | 0,_,_,_=>none
 | f + 1,c1,c2,c4 =>
  if (!(c1==[]))=true then
  (Ea c1 [10]).bind fun v6 =>
  Oo (BJ v6.2.2 3) c2 fun v7 =>
  Oo (Di v6.1) c2 fun v8 =>
  (DM c4 v8).bind fun v22 =>
  Oo (BJ (v22==0) v22) c2 fun v23 =>
  Oo (BJ (decide ((c4.length:Int) < 32)) 7) c2 fun v27 =>
  if (Dy 64 (c4.length + ([v8]:List AF).length))=true then
  Br f v6.2.1 (wr .i64 (c2 + 1)) (c4++([v8]:List AF))
  else none
  else
  some (.inl (c2,c4))
def SF (x0:(List UInt8)) (x1:(List AF)) (x2:Int) (x3:Int):Option ((Int×(List AF)×Int) ⊕ (Int×Int)) :=
 We (Br  100000 x0 x2 x1) fun r50 =>
 some (.inl (r50.1,r50.2,x3))
theorem GQ {L:List Asn}(u0:AV) (u2:AV) (x3:Int):∀ (f:Nat) (c1:(List UInt8)) (c2:Int) (c4:(List AF)) (r:((Int×(List AF))) ⊕ (Int×Int)),Br  f c1 c2 c4=some r->∀ (e3:AV) (hp:Hp),T hp ((cel u0 1 25 (e3))::(own_ (ocL 5 66 (ocV AB)) e3 c4)::(cel u2 1 28 (.v (.int .i64 x3)))::L)->SemXN E0 ⟨none,false⟩ (pc Ke [0,0]) f ⟨Fr 45 [(0,.st c1),(2,u0),(3,.v (.int .i64 c2)),(4,u2)],hp⟩ (fun e s=>∃ q,r = .inl q/\e=(.exit 0)/\∃ s2,(∃ (e48:AV) (h':Hp),T h' ((cel u0 1 25 (e48))::(own_ (ocL 5 66 (ocV AB)) e48 q.2)::(cel u2 1 28 (.v (.int .i64 x3)))::L)/\s2=⟨Fr 45 [(2,u0),(3,.v (.int .i64 q.1)),(4,u2)],h'⟩)/\WkY E0 s s2) (pqP 45 25 28 L u0 u2 r):=by
 intro f
 induction f with
 | zero=>intro c1 c2 c4 r h; cases h
 | succ f ih0 =>
  intro c1 c2 c4 r h e3 hp hT
  unfold Br at h
  refine Io ?_
  refine SemX.seq ?_
  refine SemX.seq ?_
  refine SemX.regionL ?_
  refine AG (n:=45) AC 2 [(0,.st c1),(2,u0),(3,.v (.int .i64 c2)),(4,u2),(15,.v (.bool (!(c1==[]))))] hp (by kernel_rfl) ?_
  refine AE rfl (SemX.fr (l':=[(0,.st c1),(2,u0),(3,.v (.int .i64 c2)),(4,u2),(15,.v (.bool (!(c1==[]))))]) (by kernel_rfl) ?_)
  refine SemX.cond (b:=(!(c1==[]))) (by kernel_rfl) (fun hb5=>?_) (fun hb5=>?_)
  ·rw [if_pos hb5] at h
   refine SemX.skip ?_
   refine SemX.seq ?_
   refine SemX.block ?_
   refine SemX.seq ?_
   refine SemX.regionL ?_
   refine AG (n:=45) AC 1 [(2,u0),(3,.v (.int .i64 c2)),(4,u2),(19,.st c1)] hp (by kernel_rfl) ?_
   obtain ⟨v6,hv6,h⟩:=OB h
   refine Eb (v:=v6) (caps:=[]) (xs:=[.st c1,.st [10]]) (u:=(c1,[10],())) rfl rfl NU rfl (AA rfl) (by kernel_rfl) (by kernel_rfl) (AM (AS (c:=cdS) (v:=c1)) (AM (AS (c:=cdS) (v:=[10])) SeesD.nil)) (.inl (by kernel_rfl)) hv6 ?_
   refine AG (n:=45) AC 7 [(2,u0),(3,.v (.int .i64 c2)),(4,u2),(5,.st v6.1),(6,.st v6.2.1),(7,.v (.bool v6.2.2))] hp (by kernel_rfl) ?_
   refine AE rfl (SemX.fr (l':=[(2,u0),(3,.v (.int .i64 c2)),(4,u2),(5,.st v6.1),(6,.st v6.2.1),(7,.v (.bool v6.2.2))]) (by kernel_rfl) ?_)
   refine SemX.seq ?_
   refine Al ?_
   refine RunX.pre 1 ?_
   refine AG (n:=45) AC 1 [(2,u0),(3,.v (.int .i64 c2)),(4,u2),(5,.st v6.1),(6,.st v6.2.1),(24,.v (.bool v6.2.2))] hp (by kernel_rfl) ?_
   refine AE rfl ?_
   rcases Iw h with ⟨v7,hv7,h⟩ | ⟨v7x,hv7,hv7q⟩
   case inr=>exact CI (caps:=[]) (xs:=[.v (.bool v6.2.2),.v (.int .i64 3)]) (u:=(v6.2.2,3,())) rfl rfl Ao rfl (AA rfl) (by kernel_rfl) (by kernel_rfl) (AM (AS (c:=cdB) (v:=v6.2.2)) (AM (AS (c:=cdI) (v:=3)) SeesD.nil)) hv7 ⟨_,_,_,_,hp,hv7q,WkY.f1,hT⟩
   refine CJ (caps:=[]) (xs:=[.v (.bool v6.2.2),.v (.int .i64 3)]) (u:=(v6.2.2,3,())) rfl rfl Ao rfl (AA rfl) (by kernel_rfl) (by kernel_rfl) (AM (AS (c:=cdB) (v:=v6.2.2)) (AM (AS (c:=cdI) (v:=3)) SeesD.nil)) (.inl (by kernel_rfl)) hv7 ?_
   refine RunX.done rfl (SemX.fr (l':=[(2,u0),(3,.v (.int .i64 c2)),(4,u2),(5,.st v6.1),(6,.st v6.2.1)]) (by kernel_rfl) ?_)
   refine SemX.seq ?_
   refine Al ?_
   refine RunX.pre 1 ?_
   refine AG (n:=45) AC 1 [(2,u0),(3,.v (.int .i64 c2)),(4,u2),(6,.st v6.2.1),(26,.st v6.1)] hp (by kernel_rfl) ?_
   refine AE rfl ?_
   rcases Iw h with ⟨v8,hv8,h⟩ | ⟨v8x,hv8,hv8q⟩
   case inr=>exact CI (caps:=[]) (xs:=[.st v6.1]) (u:=(v6.1,())) rfl rfl JC rfl (AA rfl) (by kernel_rfl) (by kernel_rfl) (AM (AS (c:=cdS) (v:=v6.1)) SeesD.nil) hv8 ⟨_,_,_,_,hp,hv8q,WkY.f1,hT⟩
   refine CJ (caps:=[]) (xs:=[.st v6.1]) (u:=(v6.1,())) rfl rfl JC rfl (AA rfl) (by kernel_rfl) (by kernel_rfl) (AM (AS (c:=cdS) (v:=v6.1)) SeesD.nil) (.inr ⟨by kernel_rfl,GS.de (v6.1,())⟩) hv8 ?_
   refine RunX.pre 2 ?_
   obtain ⟨e9,hp10,hb11,hT120⟩:=KB (t:=66) (a:= .ag [.v (.int .u8 0),.st [],.v (.bool false),.e0,.v (.int .i64 0)]) hT (by kernel_rfl)
   have hT12:T hp10 ((cel e9 5 66 (.ag [.v (.int .u8 0),.st [],.v (.bool false),.e0,.v (.int .i64 0)]))::(cel u0 1 25 (e3))::(own_ (ocL 5 66 (ocV AB)) e3 c4)::(cel u2 1 28 (.v (.int .i64 x3)))::L):=hT120
   refine AH AC 0 rfl (UL (AA rfl) rfl (by kernel_rfl) (Mz (z:= .ag [.v (.int .u8 0),.st [],.v (.bool false),.e0,.v (.int .i64 0)]) (by kernel_rfl) hb11)) ?_
   obtain ⟨hp13,hw14,hT150⟩:=Iq (E:=E0) (y:= .ag [.v (.int .u8 0),.st [],.v (.bool false),.sl 1 ([].map cdS.enc),.v (.int .i64 0)]) hT12 (UpV.ag ⟨UpV.refl,UpV.refl,UpV.refl,UpV.nil,UpV.refl,trivial⟩)
   have hT15:T hp13 ((cel e9 5 66 (.ag [.v (.int .u8 0),.st [],.v (.bool false),.sl 1 ([].map cdS.enc),.v (.int .i64 0)]))::(cel u0 1 25 (e3))::(own_ (ocL 5 66 (ocV AB)) e3 c4)::(cel u2 1 28 (.v (.int .i64 x3)))::L):=hT150
   refine JD (hw14 _ _) ?_
   obtain ⟨hp16,hs17,hT180⟩:=Ih (P:=Tryz.prog) (ty:=66) (y:=(AB.enc v8)) (a':=(AB.enc v8)) hT15 (by kernel_rfl) (by kernel_rfl) (by kernel_rfl)
   have hT18:T hp16 ((cel e9 5 66 (AB.enc v8))::(cel u0 1 25 (e3))::(own_ (ocL 5 66 (ocV AB)) e3 c4)::(cel u2 1 28 (.v (.int .i64 x3)))::L):=hT180
   refine RunL.store AC (y:=e9) (z:=(AB.enc v8)) rfl (AA rfl) (by kernel_rfl) (by kernel_rfl) hs17 ?_
   refine AE rfl ?_
   refine RunX.done rfl (SemX.fr (l':=[(2,u0),(3,.v (.int .i64 c2)),(4,u2),(6,.st v6.2.1),(8,e9)]) (by kernel_rfl) ?_)
   refine SemX.seq ?_
   refine SemX.regionL ?_
   have hq19:=DJ (hT18.front 2 rfl)
   have hT20:T hp16 ((cel u0 1 25 (e3))::(cel e9 5 66 (AB.enc v8))::(own_ (ocL 5 66 (ocV AB)) e3 c4)::(cel u2 1 28 (.v (.int .i64 x3)))::L):=(hT18.front 1 rfl)
   refine AH AC 0 rfl (BH (AA rfl) rfl (Bz (p:=u0) (by kernel_rfl) (FI (y:=e3) (m:=1) (g:=false) hT20 (by kernel_rfl) (by kernel_rfl) (K2 hq19)))) ?_
   have hT21:T hp16 ((cel e9 5 66 (AB.enc v8))::(cel u0 1 25 (e3))::(own_ (ocL 5 66 (ocV AB)) e3 c4)::(cel u2 1 28 (.v (.int .i64 x3)))::L):=(hT20.front 1 rfl)
   refine AH AC 0 rfl (BH (AA rfl) rfl (Bz (p:=e9) (by kernel_rfl) (FI (y:=(AB.enc v8)) (m:=5) (g:=true) hT21 (by kernel_rfl) (by kernel_rfl) (by kernel_rfl)))) ?_
   obtain ⟨v22,hv22,h⟩:=OB h
   refine Eb (v:=v22) (caps:=[]) (xs:=[e3,AB.enc v8]) (u:=(c4,v8,())) rfl rfl J3 rfl (AA rfl) (by kernel_rfl) (by kernel_rfl) (AM (SeeD.own hT21 (i:=2) rfl) (AM (AS (c:=AB) (v:=v8)) SeesD.nil)) (.inl (by kernel_rfl)) hv22 ?_
   refine AG (n:=45) AC 1 [(2,u0),(3,.v (.int .i64 c2)),(4,u2),(6,.st v6.2.1),(8,e9),(9,.v (.int .i64 v22))] hp16 (by kernel_rfl) ?_
   refine AE rfl (SemX.fr (l':=[(2,u0),(3,.v (.int .i64 c2)),(4,u2),(6,.st v6.2.1),(8,e9),(9,.v (.int .i64 v22))]) (by kernel_rfl) ?_)
   refine SemX.seq ?_
   refine Al ?_
   refine RunX.pre 3 ?_
   refine AG (n:=45) AC 3 [(2,u0),(3,.v (.int .i64 c2)),(4,u2),(6,.st v6.2.1),(8,e9),(32,.v (.bool (v22==0))),(33,.v (.int .i64 v22))] hp16 (by kernel_rfl) ?_
   refine AE rfl ?_
   rcases Iw h with ⟨v23,hv23,h⟩ | ⟨v23x,hv23,hv23q⟩
   case inr=>exact CI (caps:=[]) (xs:=[.v (.bool (v22==0)),.v (.int .i64 v22)]) (u:=((v22==0),v22,())) rfl rfl Ao rfl (AA rfl) (by kernel_rfl) (by kernel_rfl) (AM (AS (c:=cdB) (v:=(v22==0))) (AM (AS (c:=cdI) (v:=v22)) SeesD.nil)) hv23 ⟨_,_,_,_,hp16,hv23q,WkY.f1,hT21.drop⟩
   refine CJ (caps:=[]) (xs:=[.v (.bool (v22==0)),.v (.int .i64 v22)]) (u:=((v22==0),v22,())) rfl rfl Ao rfl (AA rfl) (by kernel_rfl) (by kernel_rfl) (AM (AS (c:=cdB) (v:=(v22==0))) (AM (AS (c:=cdI) (v:=v22)) SeesD.nil)) (.inl (by kernel_rfl)) hv23 ?_
   refine RunX.done rfl (SemX.fr (l':=[(2,u0),(3,.v (.int .i64 c2)),(4,u2),(6,.st v6.2.1),(8,e9)]) (by kernel_rfl) ?_)
   refine SemX.seq ?_
   refine Al ?_
   refine RunX.pre 3 ?_
   have hq24:=DJ (hT21.front 2 rfl)
   have hT25:T hp16 ((cel u0 1 25 (e3))::(cel e9 5 66 (AB.enc v8))::(own_ (ocL 5 66 (ocV AB)) e3 c4)::(cel u2 1 28 (.v (.int .i64 x3)))::L):=(hT21.front 1 rfl)
   refine AH AC 0 rfl (BH (AA rfl) rfl (Bz (p:=u0) (by kernel_rfl) (FI (y:=e3) (m:=1) (g:=false) hT25 (by kernel_rfl) (by kernel_rfl) (K2 hq24)))) ?_
   have hT26:T hp16 ((own_ (ocL 5 66 (ocV AB)) e3 c4)::(cel u0 1 25 (e3))::(cel e9 5 66 (AB.enc v8))::(cel u2 1 28 (.v (.int .i64 x3)))::L):=(hT25.front 2 rfl)
   refine AH AC 0 rfl (BH (AA rfl) rfl (FT (a:=e3) (by kernel_rfl) (VH hT26 (by kernel_rfl)))) ?_
   refine AG (n:=45) AC 1 [(2,u0),(3,.v (.int .i64 c2)),(4,u2),(6,.st v6.2.1),(8,e9),(37,.v (.bool (decide ((c4.length:Int) < 32))))] hp16 (by kernel_rfl) ?_
   refine AE rfl ?_
   rcases Iw h with ⟨v27,hv27,h⟩ | ⟨v27x,hv27,hv27q⟩
   case inr=>exact CI (caps:=[]) (xs:=[.v (.bool (decide ((c4.length:Int) < 32))),.v (.int .i64 7)]) (u:=((decide ((c4.length:Int) < 32)),7,())) rfl rfl Ao rfl (AA rfl) (by kernel_rfl) (by kernel_rfl) (AM (AS (c:=cdB) (v:=(decide ((c4.length:Int) < 32)))) (AM (AS (c:=cdI) (v:=7)) SeesD.nil)) hv27 ⟨_,_,_,_,hp16,hv27q,WkY.f1,((((hT26.front 2 rfl).drop.front 2 rfl).front 1 rfl).front 2 rfl)⟩
   refine CJ (caps:=[]) (xs:=[.v (.bool (decide ((c4.length:Int) < 32))),.v (.int .i64 7)]) (u:=((decide ((c4.length:Int) < 32)),7,())) rfl rfl Ao rfl (AA rfl) (by kernel_rfl) (by kernel_rfl) (AM (AS (c:=cdB) (v:=(decide ((c4.length:Int) < 32)))) (AM (AS (c:=cdI) (v:=7)) SeesD.nil)) (.inl (by kernel_rfl)) hv27 ?_
   refine RunX.done rfl (SemX.fr (l':=[(2,u0),(3,.v (.int .i64 c2)),(4,u2),(6,.st v6.2.1),(8,e9)]) (by kernel_rfl) ?_)
   refine SemX.seq ?_
   refine SemX.regionL ?_
   have hq28:=DJ (hT26.front 0 rfl)
   have hT29:T hp16 ((cel u0 1 25 (e3))::(own_ (ocL 5 66 (ocV AB)) e3 c4)::(cel e9 5 66 (AB.enc v8))::(cel u2 1 28 (.v (.int .i64 x3)))::L):=(hT26.front 1 rfl)
   refine AH AC 0 rfl (BH (AA rfl) rfl (Bz (p:=u0) (by kernel_rfl) (FI (y:=e3) (m:=1) (g:=false) hT29 (by kernel_rfl) (by kernel_rfl) (K2 hq28)))) ?_
   have hT30:T hp16 ((cel e9 5 66 (AB.enc v8))::(cel u0 1 25 (e3))::(own_ (ocL 5 66 (ocV AB)) e3 c4)::(cel u2 1 28 (.v (.int .i64 x3)))::L):=(hT29.front 2 rfl)
   refine AH AC 0 rfl (BH (AA rfl) rfl (Bz (p:=e9) (by kernel_rfl) (FI (y:=(AB.enc v8)) (m:=5) (g:=true) hT30 (by kernel_rfl) (by kernel_rfl) (by kernel_rfl)))) ?_
   obtain ⟨e34,hp31,hb32,hT330⟩:=SZ (P:=Tryz.prog) (bytes:=64) (k:=5) (t:=66) (ty:=25) (xs:=([v8]:List AF)) (n:=1) (Wh (k:=5) (fun _=>⟨rfl,rfl,rfl⟩)) (PG (c:=AB) (xs:=([v8]:List AF)) hT30) rfl (by kernel_rfl) (by kernel_rfl) (by kernel_rfl)
   have hT33:T hp31 ((own_ (ocL 5 66 (ocV AB)) e34 ([v8]:List AF))::(cel e9 5 66 (AB.enc v8))::(cel u0 1 25 (e3))::(own_ (ocL 5 66 (ocV AB)) e3 c4)::(cel u2 1 28 (.v (.int .i64 x3)))::L):=hT330
   refine AH AC 0 rfl (UL (AA rfl) rfl (by kernel_rfl) (Ww (xs:=OU 0 [AB.enc v8]) (by kernel_rfl) hb32)) ?_
   by_cases hk39:(Dy 64 (c4.length + ([v8]:List AF).length))=true
   case neg=>rw [if_neg hk39] at h; cases h
   rw [if_pos hk39] at h
   have hT40:T hp31 ((own_ (ocL 5 66 (ocV AB)) e3 c4)::(own_ (ocL 5 66 (ocV AB)) e34 ([v8]:List AF))::(cel e9 5 66 (AB.enc v8))::(cel u0 1 25 (e3))::(cel u2 1 28 (.v (.int .i64 x3)))::L):=((hT33.front 0 rfl).front 3 rfl)
   obtain ⟨e38,hp35,hb36,hT370⟩:=Rx (P:=Tryz.prog) (ty:=25) (ty2:=25) (bytes:=64) hT40 (by kernel_rfl) (by kernel_rfl) hk39
   have hT37:T hp35 ((own_ (ocL 5 66 (ocV AB)) e38 (c4++([v8]:List AF)))::(cel e9 5 66 (AB.enc v8))::(cel u0 1 25 (e3))::(cel u2 1 28 (.v (.int .i64 x3)))::L):=hT370
   refine AH AC 0 rfl (Ug (AA rfl) rfl (by kernel_rfl) (by kernel_rfl) (J0 (a:=e3) (b:=e34) (by kernel_rfl) (by kernel_rfl) hb36)) ?_
   have hT44:T hp35 ((cel u0 1 25 (e3))::(own_ (ocL 5 66 (ocV AB)) e38 (c4++([v8]:List AF)))::(cel e9 5 66 (AB.enc v8))::(cel u2 1 28 (.v (.int .i64 x3)))::L):=(hT37.front 2 rfl)
   have hq45:=DJ (hT44.front 1 rfl)
   obtain ⟨hp41,hs42,hT430⟩:=Ih (P:=Tryz.prog) (ty:=25) (y:=e38) (a':=e38) hT44 (by have hq:=DJ (hT44.front 1 rfl); revert hq; generalize e38=zz; intro hq; cases zz <;> first | (exact (Bool.false_ne_true hq.1).elim) | (exact (Bool.false_ne_true hq.2).elim) | skip; all_goals (first | rfl | kernel_rfl | exact rfl)) (by have hq:=DJ (hT44.front 1 rfl); revert hq; generalize e38=zz; intro hq; cases zz <;> first | (exact (Bool.false_ne_true hq.1).elim) | (exact (Bool.false_ne_true hq.2).elim) | skip; all_goals (first | rfl | kernel_rfl | exact rfl)) (NG hq28 hq45)
   have hT43:T hp41 ((cel u0 1 25 (e38))::(own_ (ocL 5 66 (ocV AB)) e38 (c4++([v8]:List AF)))::(cel e9 5 66 (AB.enc v8))::(cel u2 1 28 (.v (.int .i64 x3)))::L):=hT430
   refine RunL.store AC (y:=u0) (z:=e38) rfl (AA rfl) (by kernel_rfl) (by kernel_rfl) hs42 ?_
   refine AE rfl (SemX.fr (l':=[(2,u0),(3,.v (.int .i64 c2)),(4,u2),(6,.st v6.2.1)]) (by kernel_rfl) ?_)
   refine SemX.regionL ?_
   refine AG (n:=45) AC 2 [(0,.st v6.2.1),(2,u0),(3,.v (.int .i64 c2)),(4,u2)] hp41 (by kernel_rfl) ?_
   refine AE rfl (SemX.fr (l':=[(0,.st v6.2.1),(2,u0),(3,.v (.int .i64 c2)),(4,u2)]) (by kernel_rfl) ?_)
   refine SemX.regionL ?_
   refine AG (n:=45) AC 3 [(0,.st v6.2.1),(2,u0),(3,.v (.int .i64 (wr .i64 (c2 + 1)))),(4,u2)] hp41 (by kernel_rfl) ?_
   refine AE rfl ?_
   have hT46:T hp41 ((cel u0 1 25 (e38))::(own_ (ocL 5 66 (ocV AB)) e38 (c4++([v8]:List AF)))::(cel u2 1 28 (.v (.int .i64 x3)))::L):=(hT43.front 2 rfl).drop
   exact FW WkY.f1 (ih0 v6.2.1 (wr .i64 (c2 + 1)) (c4++([v8]:List AF)) _ h e38 hp41 hT46)
  ·rw [Bx hb5] at h
   refine SemX.exit ?_
   have hq:=OI h; subst hq
   exact ⟨_,rfl,rfl,_,⟨e3,hp,hT,rfl⟩,WkY.f1⟩
noncomputable def WZ:Code:=pc (BX Tryz.f11) [1,1,1]
theorem Sy {L:List Asn}{hp:Hp}(x0:List UInt8) (p2 x:AV) (xs:List AF) (p4:AV) (m n:Int) (r:(Int×List AF) ⊕ (Int×Int)) (h:Br 100000 x0 n xs=some r) (hT:T hp (cel p2 1 25 x::own_ (ocL 5 66 (ocV AB)) x xs::cel p4 1 28 (.v (.int .i64 m))::L)) :
  SemX E0 ⟨none,false⟩ WZ ⟨Fr 45 [(0,.st x0),(2,p2),(3,.v (.int .i64 n)),(4,p4)],hp⟩ (fun ex s'=>∃ q,r = .inl q/\ex = .ret/\∃ hp',WkY E0 s' ⟨Fr 45 [(2,p2),(3,.v (.int .i64 0)),(4,p4)],hp'⟩/\T hp' (cel p2 1 25 (.sl 5 (q.2.map AB.enc))::cel p4 1 28 (.v (.int .i64 0))::L)) (pqP 45 25 28 L p2 p4 r):=by
 refine SemX.seq ?_
 refine SemX.block ?_
 refine SemX.loop (n:=100000) ?_
 cases r with
 | inr e0=>exact Pp (GQ p2 p4 m _ x0 n xs _ h x hp hT) rfl
 | inl q =>
  refine In (Po (GQ p2 p4 m _ x0 n xs _ h x hp hT)) ?_
  rintro _ ⟨z,hp5,hT5,rfl⟩
  refine SemX.seq ?_
  refine SemX.regionL ?_
  have hz:=DJ (hT5.front 1 rfl)
  refine AH AC 0 rfl (BH (x:=z) (AA rfl) rfl (Bz (p:=p2) (by kernel_rfl) (FI (y:=z) (m:=1) (g:=false) hT5 (by kernel_rfl) (by kernel_rfl) (K2 hz)))) ?_
  obtain ⟨hp6,hs6,hT6⟩:=Ih (P:=Tryz.prog) (ty:=25) (y:=z) (a':=z) hT5 (by have hq:=hz; revert hq; clear hz hT5; generalize z=zz; intro hq; cases zz <;> first | (exact (Bool.false_ne_true hq.1).elim) | (exact (Bool.false_ne_true hq.2).elim) | skip; all_goals (first | rfl | kernel_rfl | exact rfl)) hz.1 (NG hz hz)
  refine RunL.store AC (y:=p2) (z:=z) rfl (AA rfl) (by kernel_rfl) (by kernel_rfl) hs6 ?_
  refine AG (n:=45) AC 1 [(2,p2),(3,.v (.int .i64 0)),(4,p4)] hp6 (by kernel_rfl) ?_
  obtain ⟨hp7,hs7,hT7⟩:=Ih (P:=Tryz.prog) (ty:=28) (y:= .v (.int .i64 0)) (a':= .v (.int .i64 0)) (hT6.front 2 rfl) (by kernel_rfl) (by kernel_rfl) (by kernel_rfl)
  refine RunL.store AC (y:=p4) (z:= .v (.int .i64 0)) rfl (AA rfl) (by kernel_rfl) (by kernel_rfl) hs7 ?_
  refine AE rfl (SemX.ret ?_)
  obtain ⟨hp8,hw8,hT8⟩:=Rt (E:=E0) (n:=45) (l:=[(2,p2),(3,.v (.int .i64 0)),(4,p4)]) (l':=[(2,p2),(3,.v (.int .i64 0)),(4,p4)]) (o:=ocL 5 66 (ocV AB)) (p:=p2) (k:=1) (t:=25) ((hT7.front 1 rfl).front 2 rfl) ⟨⟨_,rfl,FzU.refl⟩,⟨_,rfl,FzU.refl⟩,⟨_,rfl,FzU.refl⟩,trivial⟩
  exact ⟨q,rfl,rfl,hp8,hw8,hT8⟩
theorem UN (us:List Value) (hl:us.length=2):OH E0.P 32 us :=
 TK (E:=E0) (s1:=(HT E0 Ot.toList ⟨List.replicate 12 none,[]⟩).getD ⟨[],[]⟩) (s2:=(HT E0 Mc.toList ((HT E0 Ot.toList ⟨List.replicate 12 none,[]⟩).getD ⟨[],[]⟩)).getD ⟨[],[]⟩)
  (fun _=>rfl) Tryz.func32 rfl rfl (by kernel_rfl) (by kernel_rfl) (by kernel_rfl) (by rw [hl]; decide)
section
variable {w:World}{Z:Nat->Prop}{R:List RI}{s:St}{a:Act}{base:Bs}
theorem VR.ptw {w w':World}{Z Z':Nat->Prop}{R R':List RI}{b i off:Nat}{u:Value}(h:VR w Z R (.pt b i off) u) (hr:∀ (i:Nat) (r:RI),R[i]? = some r->R'[i]? = some r):VR w' Z' R' (.pt b i off) u:=by
 cases h with
 | pt h=>exact .pt (hr _ _ h)
/-- The way out of a function that has deferred the closure, where the program's own error goes up. -/
theorem MV {d:Deferred}{fv:_}{cap:Array Value}{u0 u1:Value}(hbD:base.D=[d]) (ht:d.target = .fn fv cap) (hinv:∀ w1,(invoke d.target d.args).run E0.P w1 = .ok (.enter 32 #[u0,u1]) w1){fn:Func}{S:Value->World->Prop}{L:List Asn}{b0 b1:Nat}{x:AV}{xs:List AF}{m n e:Int}(hs:s=⟨Fr 45 [(2,.pt b0 0 0),(3,.v (.int .i64 n)),(4,.pt b1 0 0)],s.hp⟩)
  (hT:T s.hp (cel (.pt b0 0 0) 1 25 x::own_ (ocL 5 66 (ocV AB)) x xs::cel (.pt b1 0 0) 1 28 (.v (.int .i64 m))::L)) (h0:VR w Z R (.pt b0 0 0) u0) (h1:VR w Z R (.pt b1 0 0) u1) (hfn:fn.results.toList=[.cell 2 25,.tmp 3,.cell 4 28])
  (hS:∀ w' Z' R' h' u,HR w' Z' R' h'->VR w' Z' R' (.tp [.sl 5 ([].map AB.enc),.v (.int .i64 n),.v (.int .i64 e)]) u->(∀ c,c < base.n->¬ own R s.hp c->w'.heap[c]? = w.heap[c]?)->w'.os=w.os->w'.tape=w.tape->w'.output=w.output->w.heap.size<=w'.heap.size->(∀ c,own R' h' c->own R s.hp c\/w.heap.size<=c)->(∀ c,Z c->Z' c)->(∀ c,Z' c->Z c\/own R s.hp c\/w.heap.size<=c)->S u w') :
  ∀ {D:List Deferred} {w1:World},SR E0 base w1 Z R s { a with defers:=D }->w1.heap.size=w.heap.size->w1.os=w.os->w1.tape=w.tape->w1.output=w.output->(∀ c,c < base.n->w1.heap[c]? = w.heap[c]?) ->
  LeavesInM (Fw none) 0 E0.P fn a.tmps (fun e w'=>match e with | .returned v=>S v w' | _=>False) D (.panicking (JV e)) w1
 | [],w1,sr,hz,ho,ht',hp,hb=>by
  have:=sr.mks
  unfold Mks MksD at this
  rw [hbD] at this
  cases this
 | d'::D,w1,sr,hz,ho,ht',hp,hb=>by
  rcases sr.mks with ⟨Ds',e1,hno,hD⟩ | ⟨⟨r,k1,k2,k3,k4,k5,k6⟩,hD⟩
  ·rw [hbD] at e1
   injection e1 with e1 e2
   subst e1 e2
   refine ⟨by simp,.inr ⟨(fun h=>by cases h),fv,cap,32,#[u0,u1],ht,hinv w1,fun _ _=>trivial,CallsDIn.mono (Sq sr.hh sr.gl hT (h0.ptw fun _ _ h=>h) (h1.ptw fun _ _ h=>h)) fun ex u' w2 he=>?_⟩⟩
   cases ex with
   | returned v =>
    obtain ⟨q1,Z2,R2,hp2,L2,q2,q3,q4⟩:=he
    dsimp only
    rw [q1]
    have sr1:SR E0 ⟨base.n,[]⟩ w1 Z R s { a with defers:=D }:=⟨sr.hh,sr.fr,hD,sr.gl,sr.bs⟩
    have sr2:=sr1.step q2 q3
    obtain ⟨hp3,hw3,hT3⟩:=Iq (E:=E0) (y:= .sl 5 ([].map AB.enc)) q4 UpV.nil
    have hse:(⟨s.fr,hp2⟩:St)=⟨Fr 45 [(2,.pt b0 0 0),(3,.v (.int .i64 n)),(4,.pt b1 0 0)],hp2⟩:=by rw [hs]
    rw [hse] at sr2
    obtain ⟨Z3,R3,sr3,st3⟩:=hw3 45 _ _ _ _ _ _ sr2
    have st:=q3.trans st3
    have hres:D4 E0.P (Fr 45 [(2,.pt b0 0 0),(3,.v (.int .i64 n)),(4,.pt b1 0 0)]) hp3 fn.results.toList=some [.sl 5 ([].map AB.enc),.v (.int .i64 n),.v (.int .i64 e)]:=by
     rw [hfn]
     have l1:FD E0.P hp3 25 (.pt b0 0 0)=some (.sl 5 ([].map AB.enc)):=FI (m:=1) (g:=false) hT3 (by kernel_rfl) (by kernel_rfl) (by kernel_rfl)
     have l2:FD E0.P hp3 28 (.pt b1 0 0)=some (.v (.int .i64 e)):=FI (m:=1) (g:=false) (hT3.front 1 rfl) (by kernel_rfl) (by kernel_rfl) (by kernel_rfl)
     have f2:(Fr 45 [(2,.pt b0 0 0),(3,.v (.int .i64 n)),(4,.pt b1 0 0)])[2]? = some (some (.pt b0 0 0)):=by kernel_rfl
     have f3:(Fr 45 [(2,.pt b0 0 0),(3,.v (.int .i64 n)),(4,.pt b1 0 0)])[3]? = some (some (.v (.int .i64 n))):=by kernel_rfl
     have f4:(Fr 45 [(2,.pt b0 0 0),(3,.v (.int .i64 n)),(4,.pt b1 0 0)])[4]? = some (some (.pt b1 0 0)):=by kernel_rfl
     simp only [D4,f2,f3,f4,l1,l2]
    refine Eg (base:=⟨base.n,[]⟩) (w:=w2) rfl hres (fun w3 u g1 g2 g3 g4 g5 g6 g7=>hS w3 Z3 R3 hp3 u g6 g7 (fun c hc hno=>?_) ?_ ?_ ?_ ?_ (fun c hc=>(st.own_ c hc).imp id (fun h=>by omega)) st.z (fun c hc=>(st.z' c hc).imp id (fun h=>h.imp id (fun h=>by omega)))) sr3 rfl rfl rfl rfl (fun _ _=>rfl)
    ·rw [g5 c hc,q3.block c (Nat.lt_of_lt_of_le hc sr.bs) hno]; exact hb c hc
    ·rw [g2,q3.os,ho]
    ·rw [g3,q3.tape,ht']
    ·rw [g4,q3.output,hp]
    ·rw [g1,<-hz]; exact q3.size
   | panicked c=>exact he.elim
   | outgrown=>exact he.elim
  ·subst k2
   have hb':∀ c,(Z c\/own R s.hp c)->(w1.putObj r (.deferred none)).heap[c]? = w1.heap[c]?:=fun c hc=>ED (fun e=>by subst e; exact hc.elim k4 k5)
   exact ⟨by simp,.inl ⟨r,w1.putObj r (.deferred none),rfl,run_takeDeferred k3,MV hbD ht hinv hs hT h0 h1 hfn hS ⟨sr.hh.off (BM _ _ _) hb',sr.fr.off fun c hc=>hb' c (.inl hc),MksD.put hD k6,sr.gl.off fun c hc=>hb' c (.inl hc),by rw [BM]; exact sr.bs⟩ (by rw [BM]; exact hz) ho ht' hp (fun c hc=>(ED (by omega)).trans (hb c hc))⟩⟩
end
def EA (x0:List UInt8):Option (List AF×Int×Int) :=
 if decide ((x0.length:Int) > 65536)=true then some ([],0,7) else
 (Br 100000 x0 0 []).bind fun r=>match r with
  | .inl q=>some (q.2,0,0)
  | .inr e=>some ([],e.2,e.1)
def I6:Cs ((List UInt8)×Unit):=(csC cdS csN)
def EQ (r:(List AF)×Int×Int):AV:= .tp [(cdL 5 AB).enc r.1,cdI.enc r.2.1,cdI.enc r.2.2]
def NK:List AV->Option AV:=FZ I6 (fun a=>EA a.1) EQ
noncomputable def cpA:Code:=pc (BX Tryz.f11) [0]
noncomputable def cpB:Code:=pc (BX Tryz.f11) [1,0]
def hpA:Hp:=[some ⟨1,25,[.e0],false⟩,some ⟨1,28,[.v (.int .i64 0)],false⟩]
def Wo:Hp:=[some ⟨1,25,[.e0],false⟩,some ⟨1,28,[.v (.int .i64 7)],false⟩]
theorem Wn:T hpA [cel (.pt 0 0 0) 1 25 .e0,own_ (ocL 5 66 (ocV AB)) .e0 [],cel (.pt 1 0 0) 1 28 (.v (.int .i64 0))]:=by
 have h1:T hpA [cel (.pt 1 0 0) 1 28 (.v (.int .i64 0))]:=(T.nil (h:=[some ⟨1,25,[.e0],false⟩])).add (F:=[1]) ⟨1,rfl,rfl,rfl⟩ (by simp) (fun b hb=>by
  have:b=0:=by simpa using hb
  subst this; rfl) (fun b hb=>by simp at hb; subst hb; decide)
 exact ⟨[0]++([]++([1]++[])),⟨[0],_,rfl,⟨0,rfl,rfl,rfl⟩,[],_,rfl,.inl ⟨rfl,rfl,rfl⟩,[1],[],rfl,⟨1,rfl,rfl,rfl⟩,rfl⟩,by decide⟩
set_option maxRecDepth 100000 in
theorem VX (x0:List UInt8):SemY E0 ⟨none,false⟩ cpA ⟨Fr 45 (BB 0 [.st x0]),[]⟩ fun e s'=>e = .normal/\s'=⟨Fr 45 [(0,.st x0),(2,.pt 0 0 0),(3,.v (.int .i64 0)),(4,.pt 1 0 0)],hpA⟩:=by
 refine SemY.regionL ?_
 refine AG (n:=45) AC 3 [(0,.st x0),(2,.pt 0 0 0),(3,.v (.int .i64 0)),(4,.pt 1 0 0)] hpA (by kernel_rfl) ?_
 exact AE rfl ⟨rfl,rfl⟩
set_option maxRecDepth 100000 in
theorem VY (x0:List UInt8):SemY E0 ⟨none,false⟩ cpB ⟨Fr 45 [(0,.st x0),(2,.pt 0 0 0),(3,.v (.int .i64 0)),(4,.pt 1 0 0)],hpA⟩ fun e s'=>(decide ((x0.length:Int) > 65536)=false/\e = .normal/\s'=⟨Fr 45 [(0,.st x0),(2,.pt 0 0 0),(3,.v (.int .i64 0)),(4,.pt 1 0 0)],hpA⟩)\/(decide ((x0.length:Int) > 65536)=true/\e = .ret/\s'=⟨Fr 45 [(2,.pt 0 0 0),(3,.v (.int .i64 0)),(4,.pt 1 0 0)],Wo⟩):=by
 refine Aa ?_
 refine SemY.regionL ?_
 refine AG (n:=45) AC 3 [(0,.st x0),(2,.pt 0 0 0),(3,.v (.int .i64 0)),(4,.pt 1 0 0),(12,.v (.bool (decide ((x0.length:Int) > 65536))))] hpA (by kernel_rfl) ?_
 refine AE rfl ?_
 refine Da (b:=decide ((x0.length:Int) > 65536)) (by kernel_rfl) (fun hb=>?_) (fun hb=>?_)
 ·refine Aa ?_
  refine SemY.regionL ?_
  refine AG (n:=45) AC 3 [(2,.pt 0 0 0),(3,.v (.int .i64 0)),(4,.pt 1 0 0)] Wo (by kernel_rfl) ?_
  exact AE rfl (SemY.ret (.inr ⟨hb,rfl,rfl⟩))
 ·exact FX (SemY.fr (l':=[(0,.st x0),(2,.pt 0 0 0),(3,.v (.int .i64 0)),(4,.pt 1 0 0)]) (by kernel_rfl) (SemY.skip ⟨_,WkY.refl,.inl ⟨hb,rfl,rfl⟩⟩))
/-- A closure is made and deferred. -/
theorem Pw {E:Env}(hE:EnvOk E){n:Nat}{g:FuncId}{id:Nat}{o1 o2:Oper}{rest:Code}{s2 s3:St}{p:Operand}{tys:Array TypeId}{cs:List AV}{base:Bs}{w:World}{Z:Nat->Prop}{R:List RI}{a:Act}{Q:Exit->Act->World->Prop}
  (hg1:o1.guard=none) (e1:op1 E (evC E n) ⟨none,false⟩ o1 s2=some s3) (hg2:o2.guard=none) (ho2:o2.op = .defer ⟨.value p,#[],tys⟩) (hd2:o2.dst=none) (hp:opA E s3.fr p=some (.fn g [] cs)) (sr2:SR E base w Z R s2 a)
  (k:∀ (a3:Act) (w3:World) (Z3:Nat->Prop) (R3:List RI) (u2:List Value),VRs w3 Z3 R3 cs u2->SR E ⟨base.n,(⟨.fn (.func g) u2.toArray,#[]⟩:Deferred)::base.D⟩ w3 Z3 R3 s3 { a3 with defers:=(⟨.fn (.func g) u2.toArray,#[]⟩:Deferred)::a3.defers }->Step w Z R s2.hp w3 Z3 R3 s3.hp->rest.wpIn (Fw none) 0 E.P Q { a3 with defers:=(⟨.fn (.func g) u2.toArray,#[]⟩:Deferred)::a3.defers } w3) :
  (Code.seq (.region id #[o1,o2] false) rest).wpIn (Fw none) 0 E.P Q a w:=by
 have hCS:=(code_sound hE n).1
 refine wpIn_seq (wpIn_region_list ?_)
 unfold wpListIn
 rw [if_pos (by simp [Region.wanted,hg1])]
 refine lw_wpIn none (op1_lw hE hCS e1 sr2 fun a3 w3 Z3 R3 sr3 st3=>?_)
 unfold wpListIn
 rw [if_pos (by simp [Region.wanted,hg2])]
 have hvf:=opA_vr sr3 p _ hp
 generalize hva:a3.eval p=va at hvf
 cases hvf with
 | fn hl hl' hx hy =>
  rename_i u1 u2
  have e1':u1=[]:=by simpa using hl
  subst e1'
  have hrun:(o2.semAt (Fw none).round a3.eval).run E.P w3 = .ok (.defer ⟨.fn (.func g) u2.toArray,#[]⟩) w3:=by
   show (o2.semAt none a3.eval).run E.P w3=_
   rw [Oper.semAt_none]
   simp [execOp,ho2,resolve,hva,Deferred.ofValue]
  refine ⟨fun _ _=>trivial,?_⟩
  rw [hrun,Oper.uponIn_defer,hd2]
  refine k a3 w3 Z3 R3 u2 ⟨hl',hy⟩ ⟨sr3.hh,sr3.fr,.inl ⟨_,rfl,fun r h=>?_,sr3.mks⟩,sr3.gl,sr3.bs⟩ st3
  unfold Oj at h
  injection h with h
  cases h
theorem RE {x0:List UInt8}{q:List AF×Int×Int}(hq:EA x0=some q){w:World}{Z:Nat->Prop}{us:List Value}(hz:∀ c,Z c->c < w.heap.size) (hg:GI E0 w Z) (hv:VRs w Z [] [.st x0] us) :
  Ret E0.P 11 us.toArray w fun v w'=>∃ Z' R' h',HR w' Z' R' h'/\VR w' Z' R' (EQ q) v/\Step w Z [] [] w' Z' R' h':=by
 refine callsIn_wide.1 (callsIn_of_wp_marks (F:=Fw none) (n:=0) Tryz.func11 rfl trivial ?_)
 have hul:us.length=1:=hv.len
 have sr0:SR E0 (.of w.heap.size) w Z [] ⟨Fr 45 (BB 0 [.st x0]),[]⟩ { tmps:=us.toArray++Array.replicate (Tryz.f11.ntmps - us.toArray.size) undef,defers:=[] }:=by
  refine ⟨LU hz,⟨by rw [D1]; simp [hul],fun t x hx=>?_⟩,rfl,hg,Nat.le_refl _⟩
  rw [Dv] at hx
  split at hx
  ·injection hx with hx
   obtain ⟨j,h1,h2⟩:=IZ _ 0 t x hx
   rw [Nat.zero_add] at h1
   subst h1
   obtain ⟨u,hu1,hu2⟩:=hv.get h2
   have e0:us.toArray++Array.replicate (Tryz.f11.ntmps - us.toArray.size) undef=(us++List.replicate (Tryz.f11.ntmps - us.length) undef).toArray:=by simp
   rw [e0,Array.getD_eq_getD_getElem?,List.getElem?_toArray,List.getElem?_append_left (List.getElem?_eq_some_iff.1 hu1).1,hu1]
   exact hu2
  ·cases hx
 unfold EA at hq
 refine wpIn_seq (VX x0 none (.of w.heap.size) _ _ w Z [] (fun _=>rfl) sr0 (fun y hy=>by cases hy) fun e s1 a1 w1 Z1 R1 hQ1 sr1 st1=>?_)
 obtain ⟨rfl,rfl⟩:=hQ1
 refine wpIn_seq (VY x0 none (.of w.heap.size) _ _ w1 Z1 R1 (fun _=>rfl) sr1 (fun y hy=>by cases hy) fun e s2 a2 w2 Z2 R2 hQ2 sr2 st2=>?_)
 have st12:=st1.trans st2
 rcases hQ2 with ⟨hb,rfl,rfl⟩ | ⟨hb,rfl,rfl⟩
 ·rw [if_neg (by rw [hb]; exact Bool.false_ne_true)] at hq
  obtain ⟨r,hr,hq⟩:=OB hq
  refine Pw AC (n:=0) (g:=32) (cs:=[.pt 0 0 0,.pt 1 0 0]) (s3:=⟨Fr 45 [(13,.fn 32 [] [.pt 0 0 0,.pt 1 0 0]),(0,.st x0),(2,.pt 0 0 0),(3,.v (.int .i64 0)),(4,.pt 1 0 0)],hpA⟩) rfl (by kernel_rfl) rfl rfl rfl (by kernel_rfl) sr2 fun a3 w3 Z3 R3 u2 hu sr3 st3=>?_
  obtain ⟨u0,ut,rfl,hu0,hut⟩:=hu.head
  obtain ⟨u1,ut2,rfl,hu1,hut2⟩:=hut.head
  have e2:ut2=[]:=by have:=hut2.len; simpa using this
  subst e2
  have st123:=st12.trans st3
  have hinv:∀ w1,(invoke (Target.fn (.func 32) [u0,u1].toArray) #[]).run E0.P w1 = .ok (.enter 32 #[u0,u1]) w1:=fun w1=>by simp [invoke,(⟨Tryz.call32⟩:BG E0.P 32).run]
  refine (Hc WkY.f1 (Sy x0 (.pt 0 0 0) .e0 [] (.pt 1 0 0) 0 0 r hr Wn)) none ⟨w.heap.size,[⟨.fn (.func 32) [u0,u1].toArray,#[]⟩]⟩ _ _ w3 Z3 R3 (fun _=>rfl) sr3 (fun y hy=>by cases hy) (fun e s5 a5 w5 Z5 R5 hQ5 sr5 st5=>?_) (fun e s5 a5 w5 Z5 R5 hP5 sr5 st5=>?_)
  ·obtain ⟨q',rfl,rfl,hp6,hw6,hT6⟩:=hQ5
   obtain rfl:=OI hq
   obtain ⟨Z6,R6,sr6,st6⟩:=hw6 _ _ _ _ _ sr5
   have st:=(st123.trans st5).trans st6
   have hres:D4 E0.P (Fr 45 [(2,.pt 0 0 0),(3,.v (.int .i64 0)),(4,.pt 1 0 0)]) hp6 Tryz.f11.results.toList=some [.sl 5 (q'.2.map AB.enc),.v (.int .i64 0),.v (.int .i64 0)]:=by
    rw [show Tryz.f11.results.toList=[.cell 2 25,.tmp 3,.cell 4 28] from rfl]
    have l1:FD E0.P hp6 25 (.pt 0 0 0)=some (.sl 5 (q'.2.map AB.enc)):=FI (m:=1) (g:=false) hT6 (by kernel_rfl) (by kernel_rfl) (by kernel_rfl)
    have l2:FD E0.P hp6 28 (.pt 1 0 0)=some (.v (.int .i64 0)):=FI (m:=1) (g:=false) (hT6.front 1 rfl) (by kernel_rfl) (by kernel_rfl) (by kernel_rfl)
    have f2:(Fr 45 [(2,.pt 0 0 0),(3,.v (.int .i64 0)),(4,.pt 1 0 0)])[2]? = some (some (.pt 0 0 0)):=by kernel_rfl
    have f3:(Fr 45 [(2,.pt 0 0 0),(3,.v (.int .i64 0)),(4,.pt 1 0 0)])[3]? = some (some (.v (.int .i64 0))):=by kernel_rfl
    have f4:(Fr 45 [(2,.pt 0 0 0),(3,.v (.int .i64 0)),(4,.pt 1 0 0)])[4]? = some (some (.pt 1 0 0)):=by kernel_rfl
    simp only [D4,f2,f3,f4,l1,l2]
   exact KJ (a:=a5) (w:=w5) (base:=⟨w.heap.size,[⟨.fn (.func 32) [u0,u1].toArray,#[]⟩]⟩) rfl rfl hinv (UN [u0,u1] rfl) (xs:=[.sl 5 (q'.2.map AB.enc),.v (.int .i64 0),.v (.int .i64 0)]) (S:=fun v w''=>∃ Z' R' h',HR w'' Z' R' h'/\VR w'' Z' R' (EQ (q'.2,0,0)) v/\Step w Z [] [] w'' Z' R' h') hres (fun w'' u g1 g2 g3 g4 g5 g6 g7=>⟨Z6,R6,_,g6,g7,⟨g2.trans st.os,g3.trans st.tape,g4.trans st.output,Nat.le_trans st.size g1,fun c hc hn=>(g5 c hc).trans (st.block c hc hn),st.own_,st.z,st.z',st.r⟩⟩) (D:=a5.defers) sr6 rfl rfl rfl rfl (fun _ _=>rfl)
  ·obtain ⟨n,m,x,xs,hp6,rfl,hw6,hT6⟩:=hP5
   obtain rfl:=OI hq
   obtain ⟨Z6,R6,sr6,st6⟩:=hw6 _ _ _ _ _ sr5
   have st:=(st123.trans st5).trans st6
   refine MV (a:=a5) (w:=w5) (base:=⟨w.heap.size,[⟨.fn (.func 32) [u0,u1].toArray,#[]⟩]⟩) rfl rfl hinv rfl hT6 (hu0.ptw (st5.trans st6).r) (hu1.ptw (st5.trans st6).r) rfl (S:=fun v w''=>∃ Z' R' h',HR w'' Z' R' h'/\VR w'' Z' R' (EQ ([],n,e)) v/\Step w Z [] [] w'' Z' R' h') (fun w'' Z'' R'' h'' u k1 k2 k3 k4 k5 k6 k7 k8 k9 k10=>⟨Z'',R'',h'',k1,k2,k4.trans st.os,k5.trans st.tape,k6.trans st.output,Nat.le_trans st.size k7,fun c hc hn=>(k3 c hc fun ho=>(st.own_ c ho).elim hn (by omega)).trans (st.block c hc hn),fun c hc=>(k8 c hc).elim (fun h=>st.own_ c h) (fun h=> .inr (Nat.le_trans st.size h)),fun c hc=>k9 c (st.z c hc),fun c hc=>?_,fun i x h=>by simp at h⟩) (D:=a5.defers) sr6 rfl rfl rfl rfl (fun _ _=>rfl)
   rcases k10 c hc with h | h | h
   ·exact st.z' c h
   ·exact .inr (st.own_ c h)
   ·exact .inr (.inr (Nat.le_trans st.size h))
 ·rw [if_pos hb] at hq
  obtain rfl:=OI hq
  have hT0:T Wo [cel (.pt 0 0 0) 1 25 .e0,cel (.pt 1 0 0) 1 28 (.v (.int .i64 7))]:=⟨[0]++([1]++[]),⟨[0],_,rfl,⟨0,rfl,rfl,rfl⟩,[1],[],rfl,⟨1,rfl,rfl,rfl⟩,rfl⟩,by decide⟩
  obtain ⟨hp3,hw3,hT3⟩:=Iq (E:=E0) (y:= .sl 5 ([].map AB.enc)) hT0 UpV.nil
  obtain ⟨Z6,R6,sr6,st6⟩:=hw3 _ _ _ _ _ _ _ sr2
  have st:=st12.trans st6
  have hres:D4 E0.P (Fr 45 [(2,.pt 0 0 0),(3,.v (.int .i64 0)),(4,.pt 1 0 0)]) hp3 Tryz.f11.results.toList=some [.sl 5 ([].map AB.enc),.v (.int .i64 0),.v (.int .i64 7)]:=by
   rw [show Tryz.f11.results.toList=[.cell 2 25,.tmp 3,.cell 4 28] from rfl]
   have l1:FD E0.P hp3 25 (.pt 0 0 0)=some (.sl 5 ([].map AB.enc)):=FI (m:=1) (g:=false) hT3 (by kernel_rfl) (by kernel_rfl) (by kernel_rfl)
   have l2:FD E0.P hp3 28 (.pt 1 0 0)=some (.v (.int .i64 7)):=FI (m:=1) (g:=false) (hT3.front 1 rfl) (by kernel_rfl) (by kernel_rfl) (by kernel_rfl)
   have f2:(Fr 45 [(2,.pt 0 0 0),(3,.v (.int .i64 0)),(4,.pt 1 0 0)])[2]? = some (some (.pt 0 0 0)):=by kernel_rfl
   have f3:(Fr 45 [(2,.pt 0 0 0),(3,.v (.int .i64 0)),(4,.pt 1 0 0)])[3]? = some (some (.v (.int .i64 0))):=by kernel_rfl
   have f4:(Fr 45 [(2,.pt 0 0 0),(3,.v (.int .i64 0)),(4,.pt 1 0 0)])[4]? = some (some (.pt 1 0 0)):=by kernel_rfl
   simp only [D4,f2,f3,f4,l1,l2]
  exact Eg (base:= .of w.heap.size) rfl (E:=E0) (w:=w2) (a:=a2) (xs:=[.sl 5 ([].map AB.enc),.v (.int .i64 0),.v (.int .i64 7)]) (S:=fun v w''=>∃ Z' R' h',HR w'' Z' R' h'/\VR w'' Z' R' (EQ ([],0,7)) v/\Step w Z [] [] w'' Z' R' h') hres (fun w'' u g1 g2 g3 g4 g5 g6 g7=>⟨Z6,R6,_,g6,g7,⟨g2.trans st.os,g3.trans st.tape,g4.trans st.output,by rw [g1]; exact st.size,fun c hc hn=>(g5 c hc).trans (st.block c hc hn),st.own_,st.z,st.z',st.r⟩⟩) (D:=a2.defers) (w1:=w2) sr6 rfl rfl rfl rfl (fun _ _=>rfl)
theorem J2:XOk 11 NK:=by
 refine ⟨⟨Tryz.call11⟩,fun xs y h w Z us hz hg hv=>?_⟩
 obtain ⟨a,ha,h⟩:=OB h
 obtain ⟨b,hb,rfl⟩:=Option.map_eq_some_iff.1 h
 refine Ret.mono (RE hb hz hg (I6.vr ha hv)) fun v w' hS=>?_
 obtain ⟨Z',R',h',h1,h2,st⟩:=hS
 refine ⟨⟨st.os,st.tape,st.output,st.size,fun c hc _=>st.block c hc Hv⟩,(M3 (by kernel_rfl) h2).mono (fun _ _=>rfl) (fun c hc=>?_) (fun _ _ h=>h)⟩
 rcases st.z' c hc with h | h | h
 ·exact .inl h
 ·exact absurd h Hv
 ·exact .inr ⟨h,h1.zlt c hc⟩
/- slices.Equal[[]string,string] -/
noncomputable def Cb:Code:=BX Tryz.f75
def BQ (x0:(List (List UInt8))) (x1:(List (List UInt8))):Nat->Int->Option ((Unit) ⊕ (Bool))
 | 0,_=>none
 | f + 1,c2 =>
  if (decide (c2 < (x0.length:Int)))=true then
  (idx x0 c2).bind fun v4 =>
  (idx x1 c2).bind fun v5 =>
  if (!(v4==v5))=true then
  some (.inr false)
  else
  BQ x0 x1 f (wr .i64 (c2 + 1))
  else
  some (.inl ())
def A7 (x0:(List (List UInt8))) (x1:(List (List UInt8))):Option (Bool) :=
 if ((x0.length:Int)!=(x1.length:Int))=true then
 some false
 else
 (BQ x0 x1 100000 0).bind fun r8 =>
 match r8 with
 | (.inl w9) =>
  some true
 | (.inr w10) =>
  some w10
def Ce:Cs ((List (List UInt8))×(List (List UInt8))×Unit):=(csC (cdL 1 cdS) (csC (cdL 1 cdS) csN))
def Ch (r:Bool):AV:=cdB.enc r
theorem DT (x0:(List (List UInt8))) (x1:(List (List UInt8))):∀ (f:Nat) (c2:Int) (r:(Unit) ⊕ (Bool)),BQ x0 x1 f c2=some r->SemN E0 ⟨none,false⟩ (pc Cb [1,1,0,1,0,0]) f ⟨Fr 26 [(0,.sl 1 (x0.map cdS.enc)),(1,.sl 1 (x1.map cdS.enc)),(12,.j (x0.length:Int)),(13,.j c2)],[]⟩ (fun e s=>match r with
 | (.inl w)=>e=(.exit 0)/\Wk E0 s ⟨Fr 26 [],[]⟩
 | (.inr w)=>e = .ret/\Wk E0 s ⟨Fr 26 [(4,.b w)],[]⟩):=by
 intro f;induction f with
 | zero=>intro c2 r h; cases h
 | succ f ih0 =>
  intro c2 r h
  have ih:=fun (c2:Int)=>ih0 c2 r
  unfold BQ at h;refine En ?_
  let p1:Nat×AV:=(13,.j c2)
  let p2:Nat×AV:=(12,.j (x0.length:Int))
  let p3:Nat×AV:=(1,.sl 1 (x1.map cdS.enc))
  let p4:Nat×AV:=(0,.sl 1 (x0.map cdS.enc))
  refine Ae AC [p4,p3,p2,p1,(14,.b (decide (c2 < (x0.length:Int))))] [] ?_;refine AI ?_;refine AU (b:=(decide (c2 < (x0.length:Int)))) kr (fun hb3=>?_) (fun hb3=>?_)
  ·rw [if_pos hb3] at h
   refine Ax ?_;refine AI ?_;refine Bh ?_;refine Ae AC [p4,p3,(5,.j c2),p2,p1] [] ?_;refine AI ?_;obtain ⟨v4,hv4,h⟩:=OB h;obtain ⟨v5,hv5,h⟩:=OB h;refine LD AC (s1:=⟨Fr 26 [p4,p3,p2,p1,(24,.b (!(v4==v5)))],[]⟩) kr ?_ ?_
   ·refine EG (n:=26) AC 2 [p4,p3,(5,.j c2),p2,p1,(16,.sl 1 (x0.map cdS.enc)),(17,.j c2)] [] kr kr ?_
    refine RunDS.one AC rfl kr (RA kr (AA rfl) rfl (BW (a:= .sl 1 (x0.map cdS.enc)) (b:= .j c2) kr kr (Iy (e:=cdS.enc) (el:=9) (k:=1) (ki:= .i64) kr kr hv4)) kr) ?_;refine EG (n:=26) AC 3 [p4,p3,p2,p1,(19,.st v4),(20,.sl 1 (x1.map cdS.enc)),(21,.j c2)] [] kr kr ?_;refine RunDS.one AC rfl kr (RA kr (AA rfl) rfl (BW (a:= .sl 1 (x1.map cdS.enc)) (b:= .j c2) kr kr (Iy (e:=cdS.enc) (el:=9) (k:=1) (ki:= .i64) kr kr hv5)) kr) ?_;refine EG (n:=26) AC 2 [p4,p3,p2,p1,(24,.b (!(v4==v5)))] [] kr kr ?_;exact RunDS.done rfl AQ
   refine AU (b:=(!(v4==v5))) kr (fun hb6=>?_) (fun hb6=>?_)
   ·rw [if_pos hb6] at h
    refine Ae AC [(4,.b false)] [] ?_;refine Ah ?_;have hq:=OI h; subst hq;exact ⟨rfl,AQ⟩
   ·rw [Bx hb6] at h
    refine Ax ?_
    let p5:Nat×AV:=(13,.j (wr .i64 (c2 + 1)))
    refine Em AC [p4,p3,p2,p5] [] ?_;exact CQ (s1:=⟨Fr 26 [p4,p3,p2,p5],[]⟩) AQ (ih (wr .i64 (c2 + 1)) h)
  ·rw [Bx hb3] at h
   refine F8 ?_;have hq:=OI h; subst hq;exact ⟨rfl,AQ⟩
theorem Ff (x0:(List (List UInt8))) (x1:(List (List UInt8))) (r:Bool) (h:A7 x0 x1=some r):Sem E0 ⟨none,false⟩ Cb ⟨Fr 26 (BB 0 (Ce.enc (x0,x1,()))),[]⟩ fun e s'=>(e = .normal\/e = .ret)/\∃ xs,D4 E0.P s'.fr s'.hp Tryz.f75.results.toList=some xs/\Eh xs=Ch r:=by
 unfold A7 at h
 let p1:Nat×AV:=(1,.sl 1 (x1.map cdS.enc))
 let p2:Nat×AV:=(0,.sl 1 (x0.map cdS.enc))
 refine CB (DP (s1:=⟨Fr 26 [p2,p1],[]⟩) AQ ?_);refine Ae AC [p2,p1] [] ?_;refine AI ?_;refine AI ?_;refine AL (s1:=⟨Fr 26 [p2,p1,(10,.b ((x0.length:Int)!=(x1.length:Int)))],[]⟩) ?_ ?_
 ·refine AD (n:=26) AC 1 [p2,p1,(6,.sl 1 (x0.map cdS.enc))] [] kr ?_
  refine Aw AC 0 rfl (BH (AA rfl) rfl (FT (a:= .sl 1 (x0.map cdS.enc)) kr (Dx (el:=9) kr))) ?_;refine AD (n:=26) AC 1 [p2,p1,(7,.j (x0.length:Int)),(8,.sl 1 (x1.map cdS.enc))] [] kr ?_;refine Aw AC 0 rfl (BH (AA rfl) rfl (FT (a:= .sl 1 (x1.map cdS.enc)) kr (Dx (el:=9) kr))) ?_;exact Ar AC
 refine AU (b:=((x0.length:Int)!=(x1.length:Int))) kr (fun hb1=>?_) (fun hb1=>?_)
 ·rw [if_pos hb1] at h
  refine Ae AC [(4,.b false)] [] ?_;refine Ah ?_;have hq:=OI h; subst hq;exact ⟨⟨Fr 26 [(4,.b false)],[]⟩,AQ,.inr rfl,[.b false],kr,kr⟩
 ·rw [Bx hb1] at h
  refine Ax ?_;refine AI ?_;refine AI ?_
  let p3:Nat×AV:=(13,.j 0)
  let p4:Nat×AV:=(12,.j (x0.length:Int))
  refine AL (s1:=⟨Fr 26 [p2,p1,p4,p3],[]⟩) ?_ ?_
  ·refine AD (n:=26) AC 1 [p2,p1,(11,.sl 1 (x0.map cdS.enc))] [] kr ?_
   refine Aw AC 0 rfl (BH (AA rfl) rfl (FT (a:= .sl 1 (x0.map cdS.enc)) kr (Dx (el:=9) kr))) ?_;exact Ar AC
  refine Bh ?_;obtain ⟨r8,hr8,h⟩:=OB h;refine F9 (n:=100000) ?_;rcases r8 with w9 | w10
  ·try dsimp only at h
   refine DB (CQ (s1:=⟨Fr 26 [p2,p1,p4,p3],[]⟩) AQ (DT x0 x1 _ 0 _ hr8)) ?_;refine Ae AC [(4,.b true)] [] ?_;refine Ah ?_;have hq:=OI h; subst hq;exact ⟨⟨Fr 26 [(4,.b true)],[]⟩,AQ,.inr rfl,[.b true],kr,kr⟩
  ·try dsimp only at h
   refine DB (CQ (s1:=⟨Fr 26 [p2,p1,p4,p3],[]⟩) AQ (DT x0 x1 _ 0 _ hr8)) ?_;have hq:=OI h; subst hq;exact ⟨⟨Fr 26 [(4,.b w10)],[]⟩,AQ,.inr rfl,[.b w10],kr,kr⟩
def GE:List AV->Option AV:=FZ Ce (fun a=>A7 a.1 a.2.1) Ch
theorem GG:XOk 75 GE:=by
 refine Az Tryz.func75 (c:=Cb) ?h2 ⟨Tryz.call75⟩ Ce (fun a=>A7 a.1 a.2.1) Ch (fun a=>(by show 2<=26; decide)) ?h3 ?h4
 case h2=>kernel_rfl
 case h3=>intro b; kernel_rfl
 case h4=>exact fun a b h=>Ff a.1 a.2.1 b h
/- trestle/trestlelaw03.SameClause -/
noncomputable def GO:Code:=BX Tryz.f38
def CA (x0:AF) (x1:AF):Option (Bool) :=
 (if (x0.1==x1.1)=true then if (x0.2.1==x1.2.1)=true then if (x0.2.2.1==x1.2.2.1)=true then if (x0.2.2.2.2==x1.2.2.2.2)=true then (A7 x0.2.2.2.1 x1.2.2.2.1).bind fun v1 =>
 some v1 else some false else some false else some false else some false).bind fun j3 =>
 some j3
def EX:Cs (AF×AF×Unit):=(csC AB (csC AB csN))
def EZ (r:Bool):AV:=cdB.enc r
theorem I0 (x0:AF) (x1:AF) (r:Bool) (h:CA x0 x1=some r):Sem E0 ⟨none,false⟩ GO ⟨Fr 38 (BB 0 (EX.enc (x0,x1,()))),[]⟩ fun e s'=>(e = .normal\/e = .ret)/\∃ xs,D4 E0.P s'.fr s'.hp Tryz.f38.results.toList=some xs/\Eh xs=EZ r:=by
 unfold CA at h;refine CB (DP (s1:=⟨Fr 38 [(0,AB.enc x0),(1,AB.enc x1)],[]⟩) AQ ?_);refine Ae AC [(2,.pt 0 0 0),(3,.pt 1 0 0)] [some ⟨5,66,[AB.enc x0],false⟩,some ⟨5,66,[AB.enc x1],false⟩] ?_;refine AI ?_;obtain ⟨j3,hj3,h⟩:=OB h;refine AL (s1:=⟨Fr 38 [(4,.b j3)],[]⟩) ?_ ?_
 ·refine AD (n:=38) AC 6 [(2,.pt 0 0 0),(3,.pt 1 0 0),(10,.b (x0.1==x1.1))] [some ⟨5,66,[AB.enc x0],false⟩,some ⟨5,66,[AB.enc x1],false⟩] kr ?_
  rcases BE (x0.1==x1.1) with hc4 | hc4
  ·rw [if_pos hc4] at hj3
   rw [hc4];refine AD (n:=38) AC 7 [(2,.pt 0 0 0),(3,.pt 1 0 0),(17,.b (x0.2.1==x1.2.1))] [some ⟨5,66,[AB.enc x0],false⟩,some ⟨5,66,[AB.enc x1],false⟩] kr ?_;rcases BE (x0.2.1==x1.2.1) with hc5 | hc5
   ·rw [if_pos hc5] at hj3
    rw [hc5];refine AD (n:=38) AC 7 [(2,.pt 0 0 0),(3,.pt 1 0 0),(24,.b (x0.2.2.1==x1.2.2.1))] [some ⟨5,66,[AB.enc x0],false⟩,some ⟨5,66,[AB.enc x1],false⟩] kr ?_;rcases BE (x0.2.2.1==x1.2.2.1) with hc6 | hc6
    ·rw [if_pos hc6] at hj3
     rw [hc6];refine AD (n:=38) AC 7 [(2,.pt 0 0 0),(3,.pt 1 0 0),(31,.b (x0.2.2.2.2==x1.2.2.2.2))] [some ⟨5,66,[AB.enc x0],false⟩,some ⟨5,66,[AB.enc x1],false⟩] kr ?_;rcases BE (x0.2.2.2.2==x1.2.2.2.2) with hc7 | hc7
     ·rw [if_pos hc7] at hj3
      rw [hc7];refine AD (n:=38) AC 4 [(31,.b true),(33,.sl 1 (x0.2.2.2.1.map cdS.enc)),(35,.sl 1 (x1.2.2.2.1.map cdS.enc))] [some ⟨5,66,[AB.enc x0],false⟩,some ⟨5,66,[AB.enc x1],false⟩] kr ?_;obtain ⟨v1,hv1,hj3⟩:=OB hj3;refine Af (caps:=[]) (xs:=[.sl 1 (x0.2.2.2.1.map cdS.enc),.sl 1 (x1.2.2.2.1.map cdS.enc)]) (u:=(x0.2.2.2.1,x1.2.2.2.1,())) rfl rfl GG rfl kr kr kr (As (BU (c:=(cdL 1 cdS)) (v:=x0.2.2.2.1)) (As (BU (c:=(cdL 1 cdS)) (v:=x1.2.2.2.1)) B3)) (.inl kr) hv1 ?_;refine AD (n:=38) AC 2 [(4,.b v1)] [some ⟨5,66,[AB.enc x0],false⟩,some ⟨5,66,[AB.enc x1],false⟩] kr ?_;have hq:=OI hj3; subst hq;exact AJ rfl (BC [] trivial ⟨lv,trivial⟩)
     ·rw [Bx hc7] at hj3
      rw [hc7];refine AD (n:=38) AC 7 [(4,.b false)] [some ⟨5,66,[AB.enc x0],false⟩,some ⟨5,66,[AB.enc x1],false⟩] kr ?_;have hq:=OI hj3; subst hq;exact AJ rfl (BC [] trivial ⟨lv,trivial⟩)
    ·rw [Bx hc6] at hj3
     rw [hc6];refine AD (n:=38) AC 14 [(4,.b false)] [some ⟨5,66,[AB.enc x0],false⟩,some ⟨5,66,[AB.enc x1],false⟩] kr ?_;have hq:=OI hj3; subst hq;exact AJ rfl (BC [] trivial ⟨lv,trivial⟩)
   ·rw [Bx hc5] at hj3
    rw [hc5];refine AD (n:=38) AC 21 [(4,.b false)] [some ⟨5,66,[AB.enc x0],false⟩,some ⟨5,66,[AB.enc x1],false⟩] kr ?_;have hq:=OI hj3; subst hq;exact AJ rfl (BC [] trivial ⟨lv,trivial⟩)
  ·rw [Bx hc4] at hj3
   rw [hc4];refine AD (n:=38) AC 28 [(4,.b false)] [some ⟨5,66,[AB.enc x0],false⟩,some ⟨5,66,[AB.enc x1],false⟩] kr ?_;have hq:=OI hj3; subst hq;exact AJ rfl (BC [] trivial ⟨lv,trivial⟩)
 refine Ah ?_;have hq:=OI h; subst hq;exact ⟨⟨Fr 38 [(4,.b j3)],[]⟩,AQ,.inr rfl,[.b j3],kr,kr⟩
def Jv:List AV->Option AV:=FZ EX (fun a=>CA a.1 a.2.1) EZ
theorem J5:XOk 38 Jv:=by
 refine Az Tryz.func38 (c:=GO) ?h2 ⟨Tryz.call38⟩ EX (fun a=>CA a.1 a.2.1) EZ (fun a=>(by show 2<=38; decide)) ?h3 ?h4
 case h2=>kernel_rfl
 case h3=>intro b; kernel_rfl
 case h4=>exact fun a b h=>I0 a.1 a.2.1 b h
/- slices.EqualFunc[[]trestle/api.Clause,[]trestle/api.Clause,trestle/api.Clause,trestle/api.Clause] -/
noncomputable def AW:Code:=BX Tryz.f37
def AN (x0:(List AF)) (x1:(List AF)):Nat->Int->Option ((Unit) ⊕ (Bool))
 | 0,_=>none
 | f + 1,c2 =>
  if (decide (c2 < (x0.length:Int)))=true then
  (idx x0 c2).bind fun v4 =>
  (idx x1 c2).bind fun v5 =>
  (CA v4 v5).bind fun v6 =>
  if (!v6)=true then
  some (.inr false)
  else
  AN x0 x1 f (wr .i64 (c2 + 1))
  else
  some (.inl ())
def AK (x0:(List AF)) (x1:(List AF)):Option (Bool) :=
 if ((x0.length:Int)!=(x1.length:Int))=true then
 some false
 else
 (AN x0 x1 100000 0).bind fun r9 =>
 match r9 with
 | (.inl w10) =>
  some true
 | (.inr w11) =>
  some w11
def AX:Cs ((List AF)×(List AF)×Unit×Unit):=(csC (cdL 5 AB) (csC (cdL 5 AB) (csC (cdF 38 csN (fun _=>rfl)) csN)))
def AY (r:Bool):AV:=cdB.enc r
theorem Ai (x0:(List AF)) (x1:(List AF)):∀ (f:Nat) (c2:Int) (r:(Unit) ⊕ (Bool)),AN x0 x1 f c2=some r->SemN E0 ⟨none,false⟩ (pc AW [1,1,0,1,0,0]) f ⟨Fr 32 [(1,.sl 5 (x1.map AB.enc)),(2,.fn 38 [] []),(15,.sl 5 (x0.map AB.enc)),(16,.j (x0.length:Int)),(17,.j c2)],[]⟩ (fun e s=>match r with
 | (.inl w)=>e=(.exit 0)/\Wk E0 s ⟨Fr 32 [],[]⟩
 | (.inr w)=>e = .ret/\Wk E0 s ⟨Fr 32 [(6,.b w)],[]⟩):=by
 intro f;induction f with
 | zero=>intro c2 r h; cases h
 | succ f ih0 =>
  intro c2 r h
  have ih:=fun (c2:Int)=>ih0 c2 r
  unfold AN at h;refine En ?_
  let p1:Nat×AV:=(17,.j c2)
  let p2:Nat×AV:=(16,.j (x0.length:Int))
  let p3:Nat×AV:=(15,.sl 5 (x0.map AB.enc))
  let p4:Nat×AV:=(2,.fn 38 [] [])
  let p5:Nat×AV:=(1,.sl 5 (x1.map AB.enc))
  refine Ae AC [p5,p4,p3,p2,p1,(18,.b (decide (c2 < (x0.length:Int))))] [] ?_;refine AI ?_;refine AU (b:=(decide (c2 < (x0.length:Int)))) kr (fun hb3=>?_) (fun hb3=>?_)
  ·rw [if_pos hb3] at h
   refine Ax ?_;refine AI ?_;refine Bh ?_;refine AI ?_;obtain ⟨v4,hv4,h⟩:=OB h
   let p6:Option Blk:=some ⟨5,66,[AB.enc v4],false⟩
   refine AL (s1:=⟨Fr 32 [p5,p4,(7,.j c2),(8,.pt 0 0 0),p3,p2,p1],[p6]⟩) ?_ ?_
   ·refine AD (n:=32) AC 1 [p5,p4,p3,p2,p1,(19,.j c2)] [] kr ?_
    refine Aw AC 0 rfl (BH (AA rfl) rfl (BW (a:= .sl 5 (x0.map AB.enc)) (b:= .j c2) kr kr (Iy (e:=AB.enc) (el:=66) (k:=5) (ki:= .i64) kr kr hv4))) ?_;exact Ar AC
   refine AI ?_;obtain ⟨v5,hv5,h⟩:=OB h
   let p7:Option Blk:=some ⟨5,66,[AB.enc v5],false⟩
   refine AL (s1:=⟨Fr 32 [p5,p4,(8,.pt 0 0 0),(9,.pt 1 0 0),p3,p2,p1],[p6,p7]⟩) ?_ ?_
   ·refine AD (n:=32) AC 2 [p5,p4,(8,.pt 0 0 0),p3,p2,p1,(22,.sl 5 (x1.map AB.enc)),(23,.j c2)] [p6] kr ?_
    refine Aw AC 0 rfl (BH (AA rfl) rfl (BW (a:= .sl 5 (x1.map AB.enc)) (b:= .j c2) kr kr (Iy (e:=AB.enc) (el:=66) (k:=5) (ki:= .i64) kr kr hv5))) ?_;exact Ar AC
   refine AI ?_;obtain ⟨v6,hv6,h⟩:=OB h;refine AL (s1:=⟨Fr 32 [p5,p4,p3,p2,p1,(30,.b (!v6))],[]⟩) ?_ ?_
   ·refine AD (n:=32) AC 3 [p5,p4,p3,p2,p1,(26,.fn 38 [] []),(27,AB.enc v4),(28,AB.enc v5)] [p6,p7] kr ?_
    refine Af (caps:=[]) (xs:=[AB.enc v4,AB.enc v5]) (u:=(v4,v5,())) rfl rfl J5 rfl (AA rfl) kr kr (As (BU (c:=AB) (v:=v4)) (As (BU (c:=AB) (v:=v5)) B3)) (.inl kr) hv6 ?_;refine AD (n:=32) AC 1 [p5,p4,p3,p2,p1,(30,.b (!v6))] [p6,p7] kr ?_;exact AJ rfl (BC [] trivial ⟨lv,lv,lv,lv,lv,lv,trivial⟩)
   refine AU (b:=(!v6)) kr (fun hb7=>?_) (fun hb7=>?_)
   ·rw [if_pos hb7] at h
    refine Ae AC [(6,.b false)] [] ?_;refine Ah ?_;have hq:=OI h; subst hq;exact ⟨rfl,AQ⟩
   ·rw [Bx hb7] at h
    refine Ax ?_
    let p8:Nat×AV:=(17,.j (wr .i64 (c2 + 1)))
    refine Em AC [p5,p4,p3,p2,p8] [] ?_;exact CQ (s1:=⟨Fr 32 [p5,p4,p3,p2,p8],[]⟩) AQ (ih (wr .i64 (c2 + 1)) h)
  ·rw [Bx hb3] at h
   refine F8 ?_;have hq:=OI h; subst hq;exact ⟨rfl,AQ⟩
theorem BO (x0:(List AF)) (x1:(List AF)) (r:Bool) (h:AK x0 x1=some r):Sem E0 ⟨none,false⟩ AW ⟨Fr 32 (BB 0 (AX.enc (x0,x1,(),()))),[]⟩ fun e s'=>(e = .normal\/e = .ret)/\∃ xs,D4 E0.P s'.fr s'.hp Tryz.f37.results.toList=some xs/\Eh xs=AY r:=by
 unfold AK at h
 let p1:Nat×AV:=(2,.fn 38 [] [])
 let p2:Nat×AV:=(1,.sl 5 (x1.map AB.enc))
 let p3:Nat×AV:=(0,.sl 5 (x0.map AB.enc))
 refine CB (DP (s1:=⟨Fr 32 [p3,p2,p1],[]⟩) AQ ?_);refine Ae AC [p3,p2,p1] [] ?_;refine AI ?_;refine AI ?_;refine AL (s1:=⟨Fr 32 [p3,p2,p1,(14,.b ((x0.length:Int)!=(x1.length:Int)))],[]⟩) ?_ ?_
 ·refine AD (n:=32) AC 1 [p3,p2,p1,(10,.sl 5 (x0.map AB.enc))] [] kr ?_
  refine Aw AC 0 rfl (BH (AA rfl) rfl (FT (a:= .sl 5 (x0.map AB.enc)) kr (Dx (el:=66) kr))) ?_;refine AD (n:=32) AC 1 [p3,p2,p1,(11,.j (x0.length:Int)),(12,.sl 5 (x1.map AB.enc))] [] kr ?_;refine Aw AC 0 rfl (BH (AA rfl) rfl (FT (a:= .sl 5 (x1.map AB.enc)) kr (Dx (el:=66) kr))) ?_;exact Ar AC
 refine AU (b:=((x0.length:Int)!=(x1.length:Int))) kr (fun hb1=>?_) (fun hb1=>?_)
 ·rw [if_pos hb1] at h
  refine Ae AC [(6,.b false)] [] ?_;refine Ah ?_;have hq:=OI h; subst hq;exact ⟨⟨Fr 32 [(6,.b false)],[]⟩,AQ,.inr rfl,[.b false],kr,kr⟩
 ·rw [Bx hb1] at h
  refine Ax ?_;refine AI ?_;refine AI ?_
  let p4:Nat×AV:=(17,.j 0)
  let p5:Nat×AV:=(16,.j (x0.length:Int))
  let p6:Nat×AV:=(15,.sl 5 (x0.map AB.enc))
  refine AL (s1:=⟨Fr 32 [p2,p1,p6,p5,p4],[]⟩) ?_ ?_
  ·refine AD (n:=32) AC 1 [p2,p1,p6] [] kr ?_
   refine Aw AC 0 rfl (BH (AA rfl) rfl (FT (a:= .sl 5 (x0.map AB.enc)) kr (Dx (el:=66) kr))) ?_;exact Ar AC
  refine Bh ?_;obtain ⟨r9,hr9,h⟩:=OB h;refine F9 (n:=100000) ?_;rcases r9 with w10 | w11
  ·try dsimp only at h
   refine DB (CQ (s1:=⟨Fr 32 [p2,p1,p6,p5,p4],[]⟩) AQ (Ai x0 x1 _ 0 _ hr9)) ?_;refine Ae AC [(6,.b true)] [] ?_;refine Ah ?_;have hq:=OI h; subst hq;exact ⟨⟨Fr 32 [(6,.b true)],[]⟩,AQ,.inr rfl,[.b true],kr,kr⟩
  ·try dsimp only at h
   refine DB (CQ (s1:=⟨Fr 32 [p2,p1,p6,p5,p4],[]⟩) AQ (Ai x0 x1 _ 0 _ hr9)) ?_;have hq:=OI h; subst hq;exact ⟨⟨Fr 32 [(6,.b w11)],[]⟩,AQ,.inr rfl,[.b w11],kr,kr⟩
def BS:List AV->Option AV:=FZ AX (fun a=>AK a.1 a.2.1) AY
theorem BT:XOk 37 BS:=by
 refine Az Tryz.func37 (c:=AW) ?h2 ⟨Tryz.call37⟩ AX (fun a=>AK a.1 a.2.1) AY (fun a=>(by show 3<=32; decide)) ?h3 ?h4
 case h2=>kernel_rfl
 case h3=>intro b; kernel_rfl
 case h4=>exact fun a b h=>BO a.1 a.2.1 b h
/- trestle/trestlelaw03.Same -/
noncomputable def JU:Code:=BX Tryz.f12
def FQ (x0:(List AF)) (x1:(List AF)):Option (Bool) :=
 (AK x0 x1).bind fun v1 =>
 some v1
def Hh:Cs ((List AF)×(List AF)×Unit):=(csC (cdL 5 AB) (csC (cdL 5 AB) csN))
def Hl (r:Bool):AV:=cdB.enc r
theorem L9 (x0:(List AF)) (x1:(List AF)) (r:Bool) (h:FQ x0 x1=some r):Sem E0 ⟨none,false⟩ JU ⟨Fr 8 (BB 0 (Hh.enc (x0,x1,()))),[]⟩ fun e s'=>(e = .normal\/e = .ret)/\∃ xs,D4 E0.P s'.fr s'.hp Tryz.f12.results.toList=some xs/\Eh xs=Hl r:=by
 unfold FQ at h
 let p1:Nat×AV:=(1,.sl 5 (x1.map AB.enc))
 let p2:Nat×AV:=(0,.sl 5 (x0.map AB.enc))
 refine CB (DP (s1:=⟨Fr 8 [p2,p1],[]⟩) AQ ?_);refine Ae AC [p2,p1] [] ?_;refine AI ?_;obtain ⟨v1,hv1,h⟩:=OB h;refine AL (s1:=⟨Fr 8 [(4,.b v1)],[]⟩) ?_ ?_
 ·refine AD (n:=8) AC 2 [(5,.sl 5 (x0.map AB.enc)),(6,.sl 5 (x1.map AB.enc))] [] kr ?_
  refine Af (caps:=[]) (xs:=[.sl 5 (x0.map AB.enc),.sl 5 (x1.map AB.enc),.fn 38 [] []]) (u:=(x0,x1,(),())) rfl rfl BT rfl (AA rfl) kr kr (As (BU (c:=(cdL 5 AB)) (v:=x0)) (As (BU (c:=(cdL 5 AB)) (v:=x1)) (As (Sm.fn B3) B3))) (.inl kr) hv1 ?_;exact Ar AC
 refine Ah ?_;have hq:=OI h; subst hq;exact ⟨⟨Fr 8 [(4,.b v1)],[]⟩,AQ,.inr rfl,[.b v1],kr,kr⟩
def N7:List AV->Option AV:=FZ Hh (fun a=>FQ a.1 a.2.1) Hl
theorem OG:XOk 12 N7:=by
 refine Az Tryz.func12 (c:=JU) ?h2 ⟨Tryz.call12⟩ Hh (fun a=>FQ a.1 a.2.1) Hl (fun a=>(by show 2<=8; decide)) ?h3 ?h4
 case h2=>kernel_rfl
 case h3=>intro b; kernel_rfl
 case h4=>exact fun a b h=>L9 a.1 a.2.1 b h
/-- A call of a function that defers one closure: the closure, how many captures it has, what is handed back. -/
def Tx (E:Env) (n:Nat) (fn:Func) (args:List AV):Option (FuncId×Nat×AV×Hp):=match fn.body with
 | some (.seq A (.seq B (.seq (.region _ ops false) rest)))=>match ops.toList with
  | [o1,o2]=>match o1.guard,o2.guard,o2.dst,o2.op with
   | none,none,none,.defer ⟨.value p,dargs,_⟩ =>
    if dargs.size=0/\By A=true/\By B=true/\By rest=true then
     match evC E n ⟨none,false⟩ A ⟨args.map some++List.replicate (fn.ntmps - args.length) (some (.tp [])),[]⟩ with
     | some (.normal,s1)=>match evC E n ⟨none,false⟩ B s1 with
      | some (.normal,s2)=>match op1 E (evC E n) ⟨none,false⟩ o1 s2 with
       | some s3=>match opA E s3.fr p with
        | some (.fn g [] cs)=>match evC E n ⟨none,false⟩ rest s3 with
         | some (.normal,s4)=>(D4 E.P s4.fr s4.hp fn.results.toList).map fun xs=>(g,cs.length,Eh xs,s4.hp)
         | some (.ret,s4)=>(D4 E.P s4.fr s4.hp fn.results.toList).map fun xs=>(g,cs.length,Eh xs,s4.hp)
         | _=>none
        | _=>none
       | none=>none
      | _=>none
     | _=>none
    else none
   | _,_,_,_=>none
  | _=>none
 | _=>none
theorem OT {E:Env}(hE:EnvOk E){n:Nat}{f:FuncId}{fn:Func}{args:List AV}{g m:Nat}{x:AV}{h':Hp}(hf:E.P.funcs[f]? = some fn) (hcl:BG E.P g) (hdef:∀ us:List Value,us.length=m->OH E.P g us) (e:Tx E n fn args=some (g,m,x,h')){w:World}{Z:Nat->Prop}{us:List Value}(hz:∀ c,Z c->c < w.heap.size) (hg:GI E w Z) (hv:VRs w Z [] args us):NY E f us w Z [] [] x h':=by
 unfold Tx at e
 split at e
 ·next A B id ops rest hb =>
  split at e
  ·next o1 o2 hops =>
   split at e
   ·next p dargs tys hg1 hg2 hd2 ho2 =>
    split at e
    ·next hc =>
     obtain ⟨c1,c2,c3,c4⟩:=hc
     have hops':ops=#[o1,o2]:=by apply Array.ext'; exact hops
     have hda:dargs=#[]:=Array.eq_empty_of_size_eq_zero c1
     subst hops' hda
     split at e
     ·next s1 e1 =>
      split at e
      ·next s2 e2 =>
       split at e
       ·next s3 e3 =>
        split at e
        ·next g' cs hp =>
         split at e
         ·next s4 e4 =>
          obtain ⟨xs,hxs,hxe⟩:=Option.map_eq_some_iff.1 e
          injection hxe with k1 k2; injection k2 with k2 k3; injection k3 with k3 k4
          subst k1 k2 k3 k4
          exact Nk hE hf hb c2 c3 c4 e1 e2 hg1 e3 hg2 ho2 hd2 hp e4 (.inl rfl) hxs hcl hdef (LU hz) hv hg
         ·next s4 e4 =>
          obtain ⟨xs,hxs,hxe⟩:=Option.map_eq_some_iff.1 e
          injection hxe with k1 k2; injection k2 with k2 k3; injection k3 with k3 k4
          subst k1 k2 k3 k4
          exact Nk hE hf hb c2 c3 c4 e1 e2 hg1 e3 hg2 ho2 hd2 hp e4 (.inr rfl) hxs hcl hdef (LU hz) hv hg
         ·cases e
        ·cases e
       ·cases e
      ·cases e
     ·cases e
    ·cases e
   ·cases e
  ·cases e
 ·cases e
/-- .. as a contract. -/
def dfX (E:Env) (n:Nat) (fn:Func) (g m:Nat) (args:List AV):Option AV:=match Tx E n fn args with
 | some (g',m',x,h')=>if g'=g/\m'=m then QA h' x else none
 | none=>none
theorem U9 {E:Env}(hE:EnvOk E){n:Nat}{f:FuncId}{fn:Func}{g m:Nat}(hf:E.P.funcs[f]? = some fn) (hc:BG E.P f) (hcl:BG E.P g) (hdef:∀ us:List Value,us.length=m->OH E.P g us):EnvOk (E.withX f (dfX E n fn g m)):=by
 refine hE.withX hc fun xs y h w Z us hz hgi hv=>?_
 unfold dfX at h
 split at h
 ·next g' m' x h' e =>
  split at h
  ·next hgm =>
   obtain ⟨rfl,rfl⟩:=hgm
   exact Qh (OT hE hf hcl hdef e hz hgi hv) h
  ·cases h
 ·cases h
/-- What a closed call hands back, frozen. -/
def CT (E:Env) (n:Nat) (f:FuncId) (args:List AV):Option AV:=match HU E (evC E n) none f args [] with
 | some (x,h')=>QA h' x
 | none=>none
/-- The same values? -/
def kB:IntKind->IntKind->Bool
 | .i64,.i64=>true
 | .u8,.u8=>true
 | _,_=>false
def vB:Value->Value->Bool
 | .int k a,.int k' b=>kB k k'&&a==b
 | .bool a,.bool b=>a==b
 | .pointer none,.pointer none=>true
 | _,_=>false
def bsB:List UInt8->List UInt8->Bool
 | [],[]=>true
 | a::l,b::r=>Nat.beq a.toNat b.toNat&&bsB l r
 | _,_=>false
def Rv (g:AV->AV->Bool):List AV->List AV->Bool
 | [],[]=>true
 | a::l,b::r=>g a b&&Rv g l r
 | _,_=>false
def R9:Nat->AV->AV->Bool
 | 0,_,_=>false
 | n + 1,x,y=>match x,y with
  | .v a,.v b=>vB a b
  | .st a,.st b=>bsB a b
  | .e0,.e0=>true
  | .sl k a,.sl k' b=>Nat.beq k k'&&Rv (R9 n) a b
  | .pe a o,.pe b o'=>Nat.beq o o'&&R9 n a b
  | .ag a,.ag b=>Rv (R9 n) a b
  | .tp a,.tp b=>Rv (R9 n) a b
  | .fn f a b,.fn f' a' b'=>Nat.beq f f'&&(Rv (R9 n) a a'&&Rv (R9 n) b b')
  | _,_=>false
theorem Wq {a b:IntKind}(h:kB a b=true):a=b:=by
 unfold kB at h
 split at h
 ·rfl
 ·rfl
 ·cases h
theorem W6 {a b:Value}(h:vB a b=true):a=b:=by
 unfold vB at h
 split at h
 ·rw [Bool.and_eq_true] at h
  rw [Wq h.1,eq_of_beq h.2]
 ·rw [eq_of_beq h]
 ·rfl
 ·cases h
theorem TG:∀ {a b:List UInt8},bsB a b=true->a=b
 | [],[],_=>rfl
 | x::l,y::r,h=>by
  unfold bsB at h
  rw [Bool.and_eq_true] at h
  rw [UInt8.toNat_inj.1 (Nat.eq_of_beq_eq_true h.1),TG h.2]
 | [],_::_,h=>by cases h
 | _::_,[],h=>by cases h
theorem IJ {g:AV->AV->Bool}(hg:∀ x y,g x y=true->x=y):∀ {a b:List AV},Rv g a b=true->a=b
 | [],[],_=>rfl
 | x::l,y::r,h=>by
  unfold Rv at h
  rw [Bool.and_eq_true] at h
  rw [hg _ _ h.1,IJ hg h.2]
 | [],_::_,h=>by cases h
 | _::_,[],h=>by cases h
theorem OO:∀ (n:Nat) (x y:AV),R9 n x y=true->x=y
 | 0,_,_,h=>by cases h
 | n + 1,x,y,h=>by
  have ih:=OO n
  unfold R9 at h
  split at h
  ·rw [W6 h]
  ·rw [TG h]
  ·rfl
  ·rw [Bool.and_eq_true] at h
   rw [Nat.eq_of_beq_eq_true h.1,IJ ih h.2]
  ·rw [Bool.and_eq_true] at h
   rw [Nat.eq_of_beq_eq_true h.1,ih _ _ h.2]
  ·rw [IJ ih h]
  ·rw [IJ ih h]
  ·rw [Bool.and_eq_true,Bool.and_eq_true] at h
   rw [Nat.eq_of_beq_eq_true h.1,IJ ih h.2.1,IJ ih h.2.2]
  ·cases h
/-- A table. -/
def Mg:List (List AV×AV)->List AV->Option AV
 | [],_=>none
 | (a,r)::l,xs=>if Rv (R9 40) a xs=true then some r else Mg l xs
def Ti (E:Env) (f:FuncId):List (List AV×AV)->Prop
 | []=>True
 | (a,r)::l=>(∃ n,CT E n f a=some r)/\Ti E f l
theorem Tc {E:Env}{f:FuncId}:∀ {l:List (List AV×AV)}{xs:List AV}{y:AV},Ti E f l->Mg l xs=some y->∃ n,CT E n f xs=some y
 | (a,r)::l,xs,y,h,e=>by
  unfold Mg at e
  split at e
  ·next hb =>
   injection e with e
   subst e
   rw [<-IJ (OO 40) hb]
   exact h.1
  ·exact Tc h.2 e
theorem JA {E:Env}(hE:EnvOk E){f:FuncId}{l:List (List AV×AV)}(hc:BG E.P f) (h:Ti E f l):EnvOk (E.withX f (Mg l)):=by
 refine QV hE hc fun xs y e=>?_
 obtain ⟨n,hn⟩:=Tc h e
 unfold CT at hn
 split at hn
 ·next x h' he=>exact ⟨n,x,h',he,hn⟩
 ·cases hn
/-- Another contract, told by a table of its own values. -/
theorem UR {E:Env}{f:FuncId}{g:List AV->Option AV}{l:List (List AV×AV)}(hE:EnvOk (E.withX f g)) (h:∀ p ∈ l,g p.1=some p.2):EnvOk (E.withX f (Mg l)):=by
 have hl:∀ {l:List (List AV×AV)} {xs:List AV} {y:AV},(∀ p ∈ l,g p.1=some p.2)->Mg l xs=some y->g xs=some y:=by
  intro l
  induction l with
  | nil=>intro xs y _ e; cases e
  | cons p l ih =>
   intro xs y h e
   obtain ⟨a,r⟩:=p
   unfold Mg at e
   split at e
   ·next hb =>
    injection e with e
    subst e
    rw [<-IJ (OO 40) hb]
    exact h (a,r) (by simp)
   ·exact ih (fun p hp=>h p (List.mem_cons_of_mem _ hp)) e
 refine ⟨hE.fn,hE.mixed,hE.I,fun k q hk=>?_⟩
 change (if k=f then some (Mg l) else E.X k)=some q at hk
 split at hk
 ·next hkf =>
  injection hk with hk
  subst hk hkf
  obtain ⟨h1,h2⟩:=hE.X k g (if_pos rfl)
  exact ⟨h1,fun xs x hx w Z us hz hg hv=>h2 xs x (hl h hx) w Z us hz hg hv⟩
 ·next hkf=>exact hE.X k q ((if_neg hkf).trans hk)
/-- What is told in one environment may be told in another of the same program. -/
theorem TA {E E':Env}{f:FuncId}{g:List AV->Option AV}(hE:EnvOk E) (h:EnvOk (E'.withX f g)) (hP:E'.P=E.P) (hG:E'.G=E.G):EnvOk (E.withX f g):=by
 obtain ⟨h1,h2⟩:=h.X f g (if_pos rfl)
 have e1:(E'.withX f g).P=E.P:=hP
 refine hE.withX (e1 ▸ h1) fun xs x hx w Z us hz hg hv=>?_
 have:=h2 xs x hx w Z us hz (fun q y hy=>hg q y (by rw [<-hG]; exact hy)) hv
 exact e1 ▸ this
noncomputable def E1:Env:=(E0.withX 94 ixB).withX 13 Wd
theorem Un:EnvOk E1:=Tw (VC AC rfl) rfl
theorem VZ (us:List Value) (hl:us.length=2):OH E1.P 32 us :=
 TK (E:=E1) (s1:=(HT E1 (match Tryz.f32.body with | some (.seq (.region _ ops _) _)=>ops.toList | _=>[]) ⟨List.replicate Tryz.f32.ntmps none,[]⟩).getD ⟨[],[]⟩) (s2:=(HT E1 (match Tryz.f32.body with | some (.seq _ (.seq (.region _ ops _) _))=>ops.toList | _=>[]) ((HT E1 (match Tryz.f32.body with | some (.seq (.region _ ops _) _)=>ops.toList | _=>[]) ⟨List.replicate Tryz.f32.ntmps none,[]⟩).getD ⟨[],[]⟩)).getD ⟨[],[]⟩)
  (fun _=>rfl) Tryz.func32 rfl rfl (by kernel_rfl) (by kernel_rfl) (by kernel_rfl) (by rw [hl]; decide)
noncomputable def E2:Env:=E1.withX 11 (dfX E1 3000 Tryz.f11 32 2)
theorem WB:EnvOk E2:=U9 Un Tryz.func11 ⟨Tryz.call11⟩ ⟨Tryz.call32⟩ VZ
def exC:List AV:=[.ag [.v (.int .u8 1),.st [],.v (.bool false),.sl 1 [.st [100,117,107,101],.st [99,111,117,110,116]],.v (.int .i64 0)],.ag [.v (.int .u8 2),.st [100,117,107,101],.v (.bool false),.e0,.v (.int .i64 0)],.ag [.v (.int .u8 4),.st [],.v (.bool false),.e0,.v (.int .i64 1)],.ag [.v (.int .u8 8),.st [],.v (.bool false),.e0,.v (.int .i64 0)]]
def exG:List AV:=[.ag [.st [97,100,97],.st [99,111,117,110,116],.st [],.v (.int .i64 0),.v (.int .i64 2),.st [],.v (.bool false),.v (.bool false),.e0],.ag [.st [98,101,97],.st [100,117,107,101],.st [],.v (.int .i64 1700),.v (.int .i64 0),.st [],.v (.bool false),.v (.bool false),.e0],.ag [.st [99,121,114],.st [100,117,107,101],.st [],.v (.int .i64 1650),.v (.int .i64 0),.st [],.v (.bool false),.v (.bool false),.e0],.ag [.st [100,97,110],.st [],.st [],.v (.int .i64 0),.v (.int .i64 1),.st [],.v (.bool false),.v (.bool false),.e0],.ag [.st [101,118,97],.st [99,111,117,110,116],.st [],.v (.int .i64 0),.v (.int .i64 1),.st [],.v (.bool false),.v (.bool false),.e0]]
def i4 (n:Int):AV:= .v (.int .i64 n)
def exT:List UInt8:=[114,97,110,107,32,100,117,107,101,32,99,111,117,110,116,10,97,109,111,110,103,32,100,117,107,101,32,101,108,100,101,114,10,115,105,100,101,32,49,32,102,105,114,115,116,10,110,97,109,101,10]
end Go.Proofs.YtdjhmdbpcfnpgaaGreatDoor
