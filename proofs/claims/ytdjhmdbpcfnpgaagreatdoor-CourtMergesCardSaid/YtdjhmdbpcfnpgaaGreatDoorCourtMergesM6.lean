/- Lemmas for the proof. -/
import Derived.Test.YtdjhmdbpcfnpgaaGreatDoorCourtMergesM1
import Derived.Test.YtdjhmdbpcfnpgaaGreatDoorCourtMergesM2
import Derived.Test.YtdjhmdbpcfnpgaaGreatDoorCourtMergesM3
import Derived.Test.YtdjhmdbpcfnpgaaGreatDoorCourtMergesM4
import Derived.Test.YtdjhmdbpcfnpgaaGreatDoorCourtMergesM5
import Derived.Shelf.Spec.SlicesGrow
set_option maxHeartbeats 4000000
set_option maxRecDepth 100000
namespace Go.Proofs.YtdjhmdbpcfnpgaaGreatDoor
open Go.RowKit
/- trestle/court.check -/
noncomputable def Fg:Code:=CC Tryz.f36
def Cm (x0:(List AE)) (x1:AE):Nat->Int->Option ((Unit) ⊕ (Int))
 | 0,_=>none
 | f + 1,c9 =>
  if (decide (c9 < (x1.2.2.2.1.length:Int)))=true then
  (idx x1.2.2.2.1 c9).bind fun v11 =>
  if (Gn 0 c9 x1.2.2.2.1.length)=true then
  (At ((x1.2.2.2.1.take c9.toNat).drop (0:Int).toNat) v11).bind fun v13 =>
  if v13=true then
  some (.inr 5)
  else
  Cm x0 x1 f (wr .i64 (c9 + 1))
  else none
  else
  some (.inl ())
def Do (x0:(List AE)) (x1:AE):Option (Int) :=
 (BK x1).bind fun v1 =>
 if (!v1)=true then
 some 30
 else
 (if (!(x1.2.1==[]))=true then (Dx x1.2.1).bind fun v3 =>
 if (!v3)=true then some true else (AN x1.2.2.2.1).bind fun v4 =>
 some v4 else (AN x1.2.2.2.1).bind fun v5 =>
 some v5).bind fun j7 =>
 if j7=true then
 some 4
 else
 (Cm x0 x1 100000 0).bind fun r16 =>
 match r16 with
 | (.inl w17) =>
  (if (x1.2.1==[])=true then some true else (AJ x0 x1).bind fun v18 =>
  some v18).bind fun j20 =>
  if j20=true then
  some 0
  else
  some 31
 | (.inr w23) =>
  some w23
def Fk:Cs ((List AE)×AE×Unit):=(csC (cdL 5 AA) (csC AA csN))
def Fp (r:Int):AV:=cdI.enc r
theorem F0 (x0:(List AE)) (x1:AE):∀ (f:Nat) (c9:Int) (r:(Unit) ⊕ (Int)),Cm x0 x1 f c9=some r->SemN E0 ⟨none,false⟩ (pc Fg [1,1,1,0,1,0,0]) f ⟨Fr 47 [(0,.sl 5 (x0.map AA.enc)),(3,.pt 0 0 0),(25,.sl 1 (x1.2.2.2.1.map cdS.enc)),(26,.j (x1.2.2.2.1.length:Int)),(27,.j c9)],[some ⟨5,66,[AA.enc x1],false⟩]⟩ (fun e s=>match r with
 | (.inl w)=>e=(.exit 0)/\Wk E0 s ⟨Fr 47 [(0,.sl 5 (x0.map AA.enc)),(3,.pt 0 0 0)],[some ⟨5,66,[AA.enc x1],false⟩]⟩
 | (.inr w)=>e = .ret/\Wk E0 s ⟨Fr 47 [(4,.j w)],[]⟩):=by
 intro f;induction f with
 | zero=>intro c9 r h; cases h
 | succ f ih0 =>
  intro c9 r h
  have ih:=fun (c9:Int)=>ih0 c9 r
  unfold Cm at h;refine B4 ?_
  let p1:Option Blk:=some ⟨5,66,[AA.enc x1],false⟩
  let p2:Nat×AV:=(27,.j c9)
  let p3:Nat×AV:=(26,.j (x1.2.2.2.1.length:Int))
  let p4:Nat×AV:=(25,.sl 1 (x1.2.2.2.1.map cdS.enc))
  let p5:Nat×AV:=(3,.pt 0 0 0)
  let p6:Nat×AV:=(0,.sl 5 (x0.map AA.enc))
  refine AO AB [p6,p5,p4,p3,p2,(28,.b (decide (c9 < (x1.2.2.2.1.length:Int))))] [p1] ?_;refine AF ?_;refine AQ (b:=(decide (c9 < (x1.2.2.2.1.length:Int)))) kr (fun hb10=>?_) (fun hb10=>?_)
  ·rw [if_pos hb10] at h
   refine Ac ?_;refine AF ?_;refine Ao ?_;refine AF ?_;obtain ⟨v11,hv11,h⟩:=OB h;refine AL (s1:=⟨Fr 47 [p6,p5,(5,.j c9),(6,.st v11),p4,p3,p2],[p1]⟩) ?_ ?_
   ·refine AD (n:=47) AB 1 [p6,p5,p4,p3,p2,(29,.j c9)] [p1] kr ?_
    refine Ab AB 0 rfl (DQ (AC rfl) rfl (Ad (a:= .sl 1 (x1.2.2.2.1.map cdS.enc)) (b:= .j c9) kr kr (EF (e:=cdS.enc) (el:=9) (k:=1) (ki:= .i64) kr kr hv11))) ?_;exact Ai AB
   refine AF ?_;by_cases hk12:(Gn 0 c9 x1.2.2.2.1.length)=true
   case neg=>rw [if_neg hk12] at h; cases h
   rw [if_pos hk12] at h;obtain ⟨v13,hv13,h⟩:=OB h;refine AL (s1:=⟨Fr 47 [p6,p5,p4,p3,p2,(37,.b v13)],[p1]⟩) ?_ ?_
   ·refine AD (n:=47) AB 3 [p6,p5,(6,.st v11),p4,p3,p2,(33,.sl 1 (x1.2.2.2.1.map cdS.enc)),(34,.j c9)] [p1] kr ?_
    refine Ab AB 0 rfl (DQ (AC rfl) rfl (JT (a:= .sl 1 (x1.2.2.2.1.map cdS.enc)) (l:=none) (u:=(some (.j c9))) (m:=none) kr kr kr rfl (Kl (xs:=x1.2.2.2.1) (e:=cdS.enc) (k:=1) (el:=9) (lo:=0) (hi:=c9) kr kr rfl (Mg (Nl hk12)) hk12))) ?_;refine AD (n:=47) AB 1 [p6,p5,p4,p3,p2,(35,.sl 1 (((x1.2.2.2.1.take c9.toNat).drop (0:Int).toNat).map cdS.enc)),(36,.st v11)] [p1] kr ?_;refine An (caps:=[]) (xs:=[.sl 1 (((x1.2.2.2.1.take c9.toNat).drop (0:Int).toNat).map cdS.enc),.st v11]) (u:=(((x1.2.2.2.1.take c9.toNat).drop (0:Int).toNat),v11,())) rfl rfl DH rfl (AC rfl) kr kr (Am (BH (c:=(cdL 1 cdS)) (v:=((x1.2.2.2.1.take c9.toNat).drop (0:Int).toNat))) (Am (BH (c:=cdS) (v:=v11)) Bg)) (.inl kr) hv13 ?_;exact AH rfl (A7 [0] ⟨⟨_,rfl,GR⟩,trivial⟩ ⟨lv,lv,lv,lv,lv,lv,trivial⟩)
   refine AQ (b:=v13) kr (fun hb14=>?_) (fun hb14=>?_)
   ·rw [if_pos hb14] at h
    refine AF ?_;refine AL (s1:=⟨Fr 47 [(4,.j 5)],[]⟩) ?_ ?_
    ·refine AD (n:=47) AB 1 [(4,.j 5)] [p1] kr ?_
     exact AH rfl (A7 [] trivial ⟨lv,trivial⟩)
    refine Ah ?_;have hq:=OI h; subst hq;exact ⟨rfl,AK⟩
   ·rw [B3 hb14] at h
    refine Ac ?_
    let p7:Nat×AV:=(27,.j (wr .i64 (c9 + 1)))
    refine C0 AB [p6,p5,p4,p3,p7] [p1] ?_;exact Ax (s1:=⟨Fr 47 [p6,p5,p4,p3,p7],[p1]⟩) (A7 [0] ⟨⟨_,rfl,GR⟩,trivial⟩ ⟨lv,lv,lv,lv,lv,trivial⟩) (ih (wr .i64 (c9 + 1)) h)
  ·rw [B3 hb10] at h
   refine Cc ?_;have hq:=OI h; subst hq;exact ⟨rfl,(A7 [0] ⟨⟨_,rfl,GR⟩,trivial⟩ ⟨lv,lv,trivial⟩)⟩
theorem JD (x0:(List AE)) (x1:AE) (r:Int) (h:Do x0 x1=some r):Sem E0 ⟨none,false⟩ Fg ⟨Fr 47 (Bo 0 (Fk.enc (x0,x1,()))),[]⟩ fun e s'=>(e = .normal\/e = .ret)/\∃ xs,EQ E0.P s'.fr s'.hp Tryz.f36.results.toList=some xs/\Ea xs=Fp r:=by
 unfold Do at h;refine Bf (CN (s1:=⟨Fr 47 [(0,.sl 5 (x0.map AA.enc)),(1,AA.enc x1)],[]⟩) AK ?_);refine AO AB [(0,.sl 5 (x0.map AA.enc)),(3,.pt 0 0 0)] [some ⟨5,66,[AA.enc x1],false⟩] ?_;refine AF ?_;refine AF ?_;obtain ⟨v1,hv1,h⟩:=OB h;refine AL (s1:=⟨Fr 47 [(0,.sl 5 (x0.map AA.enc)),(3,.pt 0 0 0),(9,.b (!v1))],[some ⟨5,66,[AA.enc x1],false⟩]⟩) ?_ ?_
 ·refine AD (n:=47) AB 1 [(0,.sl 5 (x0.map AA.enc)),(3,.pt 0 0 0),(7,AA.enc x1)] [some ⟨5,66,[AA.enc x1],false⟩] kr ?_
  refine An (caps:=[]) (xs:=[AA.enc x1]) (u:=(x1,())) rfl rfl J0 rfl (AC rfl) kr kr (Am (BH (c:=AA) (v:=x1)) Bg) (.inl kr) hv1 ?_;exact Ai AB
 refine AQ (b:=(!v1)) kr (fun hb2=>?_) (fun hb2=>?_)
 ·rw [if_pos hb2] at h
  refine AF ?_;refine AL (s1:=⟨Fr 47 [(4,.j 30)],[]⟩) ?_ ?_
  ·refine AD (n:=47) AB 1 [(4,.j 30)] [some ⟨5,66,[AA.enc x1],false⟩] kr ?_
   exact AH rfl (A7 [] trivial ⟨lv,trivial⟩)
  refine Ah ?_;have hq:=OI h; subst hq;exact ⟨⟨Fr 47 [(4,.j 30)],[]⟩,AK,.inr rfl,[.j 30],kr,kr⟩
 ·rw [B3 hb2] at h
  refine Ac ?_;refine AF ?_;refine AF ?_;obtain ⟨j7,hj7,h⟩:=OB h;refine AL (s1:=⟨Fr 47 [(0,.sl 5 (x0.map AA.enc)),(3,.pt 0 0 0),(23,.b j7)],[some ⟨5,66,[AA.enc x1],false⟩]⟩) ?_ ?_
  ·refine AD (n:=47) AB 4 [(0,.sl 5 (x0.map AA.enc)),(3,.pt 0 0 0),(13,.b (!(x1.2.1==[])))] [some ⟨5,66,[AA.enc x1],false⟩] kr ?_
   rcases BE (!(x1.2.1==[])) with hc24 | hc24
   ·rw [if_pos hc24] at hj7
    rw [hc24];refine AD (n:=47) AB 2 [(0,.sl 5 (x0.map AA.enc)),(3,.pt 0 0 0),(13,.b true),(15,.st x1.2.1)] [some ⟨5,66,[AA.enc x1],false⟩] kr ?_;obtain ⟨v3,hv3,hj7⟩:=OB hj7;refine An (caps:=[]) (xs:=[.st x1.2.1]) (u:=(x1.2.1,())) rfl rfl Ih rfl kr kr kr (Am (BH (c:=cdS) (v:=x1.2.1)) Bg) (.inl kr) hv3 ?_;refine AD (n:=47) AB 3 [(0,.sl 5 (x0.map AA.enc)),(3,.pt 0 0 0),(19,.b (!v3))] [some ⟨5,66,[AA.enc x1],false⟩] kr ?_;rcases BE (!v3) with hc25 | hc25
    ·rw [if_pos hc25] at hj7
     rw [hc25];refine AD (n:=47) AB 4 [(0,.sl 5 (x0.map AA.enc)),(3,.pt 0 0 0),(23,.b true)] [some ⟨5,66,[AA.enc x1],false⟩] kr ?_;have hq:=OI hj7; subst hq;exact AH rfl (A7 [0] ⟨⟨_,rfl,GR⟩,trivial⟩ ⟨lv,lv,lv,trivial⟩)
    ·rw [B3 hc25] at hj7
     rw [hc25];refine AD (n:=47) AB 2 [(0,.sl 5 (x0.map AA.enc)),(3,.pt 0 0 0),(19,.b false),(21,.sl 1 (x1.2.2.2.1.map cdS.enc))] [some ⟨5,66,[AA.enc x1],false⟩] kr ?_;obtain ⟨v4,hv4,hj7⟩:=OB hj7;refine An (caps:=[]) (xs:=[.sl 1 (x1.2.2.2.1.map cdS.enc),.fn 72 [] []]) (u:=(x1.2.2.2.1,(),())) rfl rfl Bq rfl kr kr kr (Am (BH (c:=(cdL 1 cdS)) (v:=x1.2.2.2.1)) (Am (Sm.fn Bg) Bg)) (.inl kr) hv4 ?_;refine AD (n:=47) AB 1 [(0,.sl 5 (x0.map AA.enc)),(3,.pt 0 0 0),(23,.b v4)] [some ⟨5,66,[AA.enc x1],false⟩] kr ?_;have hq:=OI hj7; subst hq;exact AH rfl (A7 [0] ⟨⟨_,rfl,GR⟩,trivial⟩ ⟨lv,lv,lv,trivial⟩)
   ·rw [B3 hc24] at hj7
    rw [hc24];refine AD (n:=47) AB 8 [(0,.sl 5 (x0.map AA.enc)),(3,.pt 0 0 0),(19,.b false),(21,.sl 1 (x1.2.2.2.1.map cdS.enc))] [some ⟨5,66,[AA.enc x1],false⟩] kr ?_;obtain ⟨v5,hv5,hj7⟩:=OB hj7;refine An (caps:=[]) (xs:=[.sl 1 (x1.2.2.2.1.map cdS.enc),.fn 72 [] []]) (u:=(x1.2.2.2.1,(),())) rfl rfl Bq rfl kr kr kr (Am (BH (c:=(cdL 1 cdS)) (v:=x1.2.2.2.1)) (Am (Sm.fn Bg) Bg)) (.inl kr) hv5 ?_;refine AD (n:=47) AB 1 [(0,.sl 5 (x0.map AA.enc)),(3,.pt 0 0 0),(23,.b v5)] [some ⟨5,66,[AA.enc x1],false⟩] kr ?_;have hq:=OI hj7; subst hq;exact AH rfl (A7 [0] ⟨⟨_,rfl,GR⟩,trivial⟩ ⟨lv,lv,lv,trivial⟩)
  refine AQ (b:=j7) kr (fun hb8=>?_) (fun hb8=>?_)
  ·rw [if_pos hb8] at h
   refine AF ?_;refine AL (s1:=⟨Fr 47 [(4,.j 4)],[]⟩) ?_ ?_
   ·refine AD (n:=47) AB 1 [(4,.j 4)] [some ⟨5,66,[AA.enc x1],false⟩] kr ?_
    exact AH rfl (A7 [] trivial ⟨lv,trivial⟩)
   refine Ah ?_;have hq:=OI h; subst hq;exact ⟨⟨Fr 47 [(4,.j 4)],[]⟩,AK,.inr rfl,[.j 4],kr,kr⟩
  ·rw [B3 hb8] at h
   refine Ac ?_;refine AF ?_;refine AF ?_;refine AL (s1:=⟨Fr 47 [(0,.sl 5 (x0.map AA.enc)),(3,.pt 0 0 0),(25,.sl 1 (x1.2.2.2.1.map cdS.enc)),(26,.j (x1.2.2.2.1.length:Int)),(27,.j 0)],[some ⟨5,66,[AA.enc x1],false⟩]⟩) ?_ ?_
   ·refine AD (n:=47) AB 2 [(0,.sl 5 (x0.map AA.enc)),(3,.pt 0 0 0),(25,.sl 1 (x1.2.2.2.1.map cdS.enc))] [some ⟨5,66,[AA.enc x1],false⟩] kr ?_
    refine Ab AB 0 rfl (DQ (AC rfl) rfl (DI (a:= .sl 1 (x1.2.2.2.1.map cdS.enc)) kr (CD (el:=9) kr))) ?_;exact Ai AB
   refine Ao ?_;obtain ⟨r16,hr16,h⟩:=OB h;refine Ce (n:=100000) ?_;rcases r16 with w17 | w23
   ·try dsimp only at h
    refine BG (Ax (s1:=⟨Fr 47 [(0,.sl 5 (x0.map AA.enc)),(3,.pt 0 0 0),(25,.sl 1 (x1.2.2.2.1.map cdS.enc)),(26,.j (x1.2.2.2.1.length:Int)),(27,.j 0)],[some ⟨5,66,[AA.enc x1],false⟩]⟩) (A7 [0] ⟨⟨_,rfl,GR⟩,trivial⟩ ⟨lv,lv,lv,lv,lv,trivial⟩) (F0 x0 x1 _ 0 _ hr16)) ?_;refine AF ?_;refine AF ?_;obtain ⟨j20,hj20,h⟩:=OB h;refine AL (s1:=⟨Fr 47 [(46,.b j20)],[]⟩) ?_ ?_
    ·refine AD (n:=47) AB 4 [(0,.sl 5 (x0.map AA.enc)),(3,.pt 0 0 0),(42,.b (x1.2.1==[]))] [some ⟨5,66,[AA.enc x1],false⟩] kr ?_
     rcases BE (x1.2.1==[]) with hc22 | hc22
     ·rw [if_pos hc22] at hj20
      rw [hc22];refine AD (n:=47) AB 4 [(46,.b true)] [some ⟨5,66,[AA.enc x1],false⟩] kr ?_;have hq:=OI hj20; subst hq;exact AH rfl (A7 [] trivial ⟨lv,trivial⟩)
     ·rw [B3 hc22] at hj20
      rw [hc22];refine AD (n:=47) AB 2 [(42,.b false),(43,.sl 5 (x0.map AA.enc)),(44,.fn 74 [] [.pt 0 0 0])] [some ⟨5,66,[AA.enc x1],false⟩] kr ?_;obtain ⟨v18,hv18,hj20⟩:=OB hj20;refine An (caps:=[]) (xs:=[.sl 5 (x0.map AA.enc),.fn 74 [] [.pt 0 0 0]]) (u:=(x0,x1,())) rfl rfl CH rfl kr kr kr (Am (BH (c:=(cdL 5 AA)) (v:=x0)) (Am (Sm.fn (NU (Sm.pt (k:=5) (t:=66) (fz:=false) (y:=(AA.enc x1)) kr (BH (c:=AA) (v:=x1))))) Bg)) (.inl kr) hv18 ?_;refine AD (n:=47) AB 1 [(46,.b v18)] [some ⟨5,66,[AA.enc x1],false⟩] kr ?_;have hq:=OI hj20; subst hq;exact AH rfl (A7 [] trivial ⟨lv,trivial⟩)
    refine AQ (b:=j20) kr (fun hb21=>?_) (fun hb21=>?_)
    ·rw [if_pos hb21] at h
     refine AO AB [(4,.j 0)] [] ?_;refine Ah ?_;have hq:=OI h; subst hq;exact ⟨⟨Fr 47 [(4,.j 0)],[]⟩,AK,.inr rfl,[.j 0],kr,kr⟩
    ·rw [B3 hb21] at h
     refine Ac ?_;refine AO AB [(4,.j 31)] [] ?_;refine Ah ?_;have hq:=OI h; subst hq;exact ⟨⟨Fr 47 [(4,.j 31)],[]⟩,AK,.inr rfl,[.j 31],kr,kr⟩
   ·try dsimp only at h
    refine BG (Ax (s1:=⟨Fr 47 [(0,.sl 5 (x0.map AA.enc)),(3,.pt 0 0 0),(25,.sl 1 (x1.2.2.2.1.map cdS.enc)),(26,.j (x1.2.2.2.1.length:Int)),(27,.j 0)],[some ⟨5,66,[AA.enc x1],false⟩]⟩) (A7 [0] ⟨⟨_,rfl,GR⟩,trivial⟩ ⟨lv,lv,lv,lv,lv,trivial⟩) (F0 x0 x1 _ 0 _ hr16)) ?_;have hq:=OI h; subst hq;exact ⟨⟨Fr 47 [(4,.j w23)],[]⟩,AK,.inr rfl,[.j w23],kr,kr⟩
def Kn:List AV->Option AV:=ER Fk (fun a=>Do a.1 a.2.1) Fp
theorem Kw:XOk 36 Kn:=by
 refine Aq Tryz.func36 (c:=Fg) ?h2 ⟨Tryz.call36⟩ Fk (fun a=>Do a.1 a.2.1) Fp (fun a=>(by show 2<=47; decide)) ?h3 ?h4
 case h2=>kernel_rfl
 case h3=>intro b; kernel_rfl
 case h4=>exact fun a b h=>JD a.1 a.2.1 b h
/- trestle/court.Check -/
noncomputable def Ff:Code:=CC Tryz.f27
def Cl (x0:(List AE)):Nat->Int->Option ((Unit) ⊕ (Int×Int))
 | 0,_=>none
 | f + 1,c2 =>
  if (decide (c2 < (x0.length:Int)))=true then
  (idx x0 c2).bind fun v4 =>
  if (Gn 0 c2 x0.length)=true then
  (Do ((x0.take c2.toNat).drop (0:Int).toNat) v4).bind fun v6 =>
  if (v6 != 0)=true then
  some (.inr (c2,v6))
  else
  Cl x0 f (wr .i64 (c2 + 1))
  else none
  else
  some (.inl ())
def Dn (x0:(List AE)):Option (Int×Int) :=
 if (decide ((x0.length:Int) > 32))=true then
 some (0,7)
 else
 (Cl x0 100000 0).bind fun r10 =>
 match r10 with
 | (.inl w11) =>
  some (0,0)
 | (.inr w12) =>
  some (w12.1,w12.2)
def Fj:Cs ((List AE)×Unit):=(csC (cdL 5 AA) csN)
def Fo (r:Int×Int):AV:= .tp [cdI.enc r.1,cdI.enc r.2]
theorem Fz (x0:(List AE)):∀ (f:Nat) (c2:Int) (r:(Unit) ⊕ (Int×Int)),Cl x0 f c2=some r->SemN E0 ⟨none,false⟩ (pc Ff [1,1,0,1,0,0]) f ⟨Fr 27 [(0,.sl 5 (x0.map AA.enc)),(10,.sl 5 (x0.map AA.enc)),(11,.j (x0.length:Int)),(12,.j c2)],[]⟩ (fun e s=>match r with
 | (.inl w)=>e=(.exit 0)/\Wk E0 s ⟨Fr 27 [],[]⟩
 | (.inr w)=>e = .ret/\Wk E0 s ⟨Fr 27 [(2,.j w.1),(3,.j w.2)],[]⟩):=by
 intro f;induction f with
 | zero=>intro c2 r h; cases h
 | succ f ih0 =>
  intro c2 r h
  have ih:=fun (c2:Int)=>ih0 c2 r
  unfold Cl at h;refine B4 ?_
  let p1:Nat×AV:=(12,.j c2)
  let p2:Nat×AV:=(11,.j (x0.length:Int))
  let p3:Nat×AV:=(10,.sl 5 (x0.map AA.enc))
  let p4:Nat×AV:=(0,.sl 5 (x0.map AA.enc))
  refine AO AB [p4,p3,p2,p1,(13,.b (decide (c2 < (x0.length:Int))))] [] ?_;refine AF ?_;refine AQ (b:=(decide (c2 < (x0.length:Int)))) kr (fun hb3=>?_) (fun hb3=>?_)
  ·rw [if_pos hb3] at h
   refine Ac ?_;refine AF ?_;refine Ao ?_;refine AF ?_;obtain ⟨v4,hv4,h⟩:=OB h
   let p5:Option Blk:=some ⟨5,66,[AA.enc v4],false⟩
   let p6:Nat×AV:=(4,.j c2)
   refine AL (s1:=⟨Fr 27 [p4,p6,(5,.pt 0 0 0),p3,p2,p1],[p5]⟩) ?_ ?_
   ·refine AD (n:=27) AB 1 [p4,p3,p2,p1,(14,.j c2)] [] kr ?_
    refine Ab AB 0 rfl (DQ (AC rfl) rfl (Ad (a:= .sl 5 (x0.map AA.enc)) (b:= .j c2) kr kr (EF (e:=AA.enc) (el:=66) (k:=5) (ki:= .i64) kr kr hv4))) ?_;exact Ai AB
   refine AF ?_;by_cases hk5:(Gn 0 c2 x0.length)=true
   case neg=>rw [if_neg hk5] at h; cases h
   rw [if_pos hk5] at h;obtain ⟨v6,hv6,h⟩:=OB h
   let p7:Nat×AV:=(6,.j v6)
   refine Hl AB (s1:=⟨Fr 27 [p4,p6,p7,p3,p2,p1],[]⟩) kr ?_ ?_
   ·refine Bv (n:=27) AB 2 [p4,p6,(5,.pt 0 0 0),p3,p2,p1,(17,.sl 5 (x0.map AA.enc)),(18,.j c2)] [p5] kr kr ?_
    refine RunDS.one AB rfl kr (HJ kr (AC rfl) rfl (JT (a:= .sl 5 (x0.map AA.enc)) (l:=none) (u:=(some (.j c2))) (m:=none) kr kr kr rfl (Kl (xs:=x0) (e:=AA.enc) (k:=5) (el:=66) (lo:=0) (hi:=c2) kr kr rfl (Mg (Nl hk5)) hk5)) kr) ?_;refine Bv (n:=27) AB 1 [p4,p6,p3,p2,p1,(19,.sl 5 (((x0.take c2.toNat).drop (0:Int).toNat).map AA.enc)),(20,AA.enc v4)] [p5] kr kr ?_;refine HW (caps:=[]) (xs:=[.sl 5 (((x0.take c2.toNat).drop (0:Int).toNat).map AA.enc),AA.enc v4]) (u:=(((x0.take c2.toNat).drop (0:Int).toNat),v4,())) rfl rfl Kw rfl (AC rfl) kr kr (Am (BH (c:=(cdL 5 AA)) (v:=((x0.take c2.toNat).drop (0:Int).toNat))) (Am (BH (c:=AA) (v:=v4)) Bg)) kr hv6 ?_;refine Bv (n:=27) AB 1 [p4,p6,p7,p3,p2,p1] [p5] kr kr ?_;exact RunDS.done rfl (A7 [] trivial ⟨lv,lv,lv,lv,lv,lv,trivial⟩)
   refine AO AB [p4,p6,p7,p3,p2,p1,(23,.b (v6 != 0))] [] ?_;refine AQ (b:=(v6 != 0)) kr (fun hb7=>?_) (fun hb7=>?_)
   ·rw [if_pos hb7] at h
    refine AO AB [(2,.j c2),(3,.j v6)] [] ?_;refine Ah ?_;have hq:=OI h; subst hq;exact ⟨rfl,AK⟩
   ·rw [B3 hb7] at h
    refine Ac ?_
    let p8:Nat×AV:=(12,.j (wr .i64 (c2 + 1)))
    refine C0 AB [p4,p3,p2,p8] [] ?_;exact Ax (s1:=⟨Fr 27 [p4,p3,p2,p8],[]⟩) AK (ih (wr .i64 (c2 + 1)) h)
  ·rw [B3 hb3] at h
   refine Cc ?_;have hq:=OI h; subst hq;exact ⟨rfl,AK⟩
theorem JC (x0:(List AE)) (r:Int×Int) (h:Dn x0=some r):Sem E0 ⟨none,false⟩ Ff ⟨Fr 27 (Bo 0 (Fj.enc (x0,()))),[]⟩ fun e s'=>(e = .normal\/e = .ret)/\∃ xs,EQ E0.P s'.fr s'.hp Tryz.f27.results.toList=some xs/\Ea xs=Fo r:=by
 unfold Dn at h
 let p1:Nat×AV:=(0,.sl 5 (x0.map AA.enc))
 refine Bf (CN (s1:=⟨Fr 27 [p1],[]⟩) AK ?_);refine AO AB [p1] [] ?_;refine AF ?_;refine AF ?_;refine AL (s1:=⟨Fr 27 [p1,(9,.b (decide ((x0.length:Int) > 32)))],[]⟩) ?_ ?_
 ·refine AD (n:=27) AB 1 [p1,(7,.sl 5 (x0.map AA.enc))] [] kr ?_
  refine Ab AB 0 rfl (DQ (AC rfl) rfl (DI (a:= .sl 5 (x0.map AA.enc)) kr (CD (el:=66) kr))) ?_;exact Ai AB
 refine AQ (b:=(decide ((x0.length:Int) > 32))) kr (fun hb1=>?_) (fun hb1=>?_)
 ·rw [if_pos hb1] at h
  refine AO AB [(2,.j 0),(3,.j 7)] [] ?_;refine Ah ?_;have hq:=OI h; subst hq;exact ⟨⟨Fr 27 [(2,.j 0),(3,.j 7)],[]⟩,AK,.inr rfl,[.j 0,.j 7],kr,kr⟩
 ·rw [B3 hb1] at h
  refine Ac ?_;refine AF ?_;refine AF ?_
  let p2:Nat×AV:=(12,.j 0)
  let p3:Nat×AV:=(11,.j (x0.length:Int))
  let p4:Nat×AV:=(10,.sl 5 (x0.map AA.enc))
  refine AL (s1:=⟨Fr 27 [p1,p4,p3,p2],[]⟩) ?_ ?_
  ·refine AD (n:=27) AB 1 [p1,p4] [] kr ?_
   refine Ab AB 0 rfl (DQ (AC rfl) rfl (DI (a:= .sl 5 (x0.map AA.enc)) kr (CD (el:=66) kr))) ?_;exact Ai AB
  refine Ao ?_;obtain ⟨r10,hr10,h⟩:=OB h;refine Ce (n:=100000) ?_;rcases r10 with w11 | w12
  ·try dsimp only at h
   refine BG (Ax (s1:=⟨Fr 27 [p1,p4,p3,p2],[]⟩) AK (Fz x0 _ 0 _ hr10)) ?_;refine AO AB [(2,.j 0),(3,.j 0)] [] ?_;refine Ah ?_;have hq:=OI h; subst hq;exact ⟨⟨Fr 27 [(2,.j 0),(3,.j 0)],[]⟩,AK,.inr rfl,[.j 0,.j 0],kr,kr⟩
  ·try dsimp only at h
   refine BG (Ax (s1:=⟨Fr 27 [p1,p4,p3,p2],[]⟩) AK (Fz x0 _ 0 _ hr10)) ?_;have hq:=OI h; subst hq;exact ⟨⟨Fr 27 [(2,.j w12.1),(3,.j w12.2)],[]⟩,AK,.inr rfl,[.j w12.1,.j w12.2],kr,kr⟩
def Km:List AV->Option AV:=ER Fj (fun a=>Dn a.1) Fo
theorem Kv:XOk 27 Km:=by
 refine Aq Tryz.func27 (c:=Ff) ?h2 ⟨Tryz.call27⟩ Fj (fun a=>Dn a.1) Fo (fun a=>(by show 1<=27; decide)) ?h3 ?h4
 case h2=>kernel_rfl
 case h3=>intro b; kernel_rfl
 case h4=>exact fun a b h=>JC a.1 b h
section
variable {E:Env}{ops:Array Oper}{rest rest':List Oper}{K:St->Prop}{n d b k q:Nat}{l:List (Nat×AV)}{hp:Hp}{t:TypeId}{es:List AV}{w:World}{Z:Nat->Prop}{R:List RI}{base:Bs}{a:Act}
theorem KY {j:Nat}{B:Blk}(hb:hp[b]? = some (some ⟨k,t,es,false⟩)) (h:((hp.set b none)++[some ⟨k,t,es,false⟩])[j]? = some (some B)):(j≠b/\hp[j]? = some (some B))\/(j=hp.length/\B=⟨k,t,es,false⟩):=by
 have hlt:=(List.getElem?_eq_some_iff.1 hb).1
 rcases Nat.lt_or_ge j hp.length with h1 | h1
 ·rw [List.getElem?_append_left (by simpa using h1),List.getElem?_set] at h
  split at h
  ·cases h
  ·next hne=>exact .inl ⟨fun e=>hne e.symm,h⟩
 ·rw [List.getElem?_append_right (by simpa using h1)] at h
  simp only [List.length_set] at h
  have h2:j - hp.length=0:=by
   rcases Nat.eq_zero_or_pos (j - hp.length) with h0 | h0
   ·exact h0
   ·rw [List.getElem?_eq_none (by simp; omega)] at h; cases h
  rw [h2] at h
  simp at h
  exact .inr ⟨by omega,h.symm⟩
theorem SR.move (sr:SR E base w Z R ⟨Fr n ((d,.rf b 0 q q)::l),hp⟩ a) (hb:hp[b]? = some (some ⟨k,t,es,false⟩)) :
  ∃ R',SR E base w Z R' ⟨Fr n ((d,.rf hp.length 0 q q)::l),(hp.set b none)++[some ⟨k,t,es,false⟩]⟩ a/\Step w Z R hp w Z R' ((hp.set b none)++[some ⟨k,t,es,false⟩]):=by
 obtain ⟨r,arr,us,g1,g2,g3,g4,g5,g6,g7,g8,g9,g10⟩:=sr.hh.blk b _ hb
 have hlen:=sr.hh.len
 dsimp only at hlen
 have hold:∀ (i:Nat) (x:RI),R[i]? = some x->(R++[r])[i]? = some x:=fun i x hx=>by
  rw [List.getElem?_append_left (List.getElem?_eq_some_iff.1 hx).1]; exact hx
 have hnew:(R++[r])[hp.length]? = some r:=by rw [<-hlen]; simp
 have up:∀ {x:AV} {u:Value},VR w Z R x u->VR w Z (R++[r]) x u:=fun h=>h.mono (fun _ _=>rfl) (fun _ h=>h) hold
 have own1:∀ c,own (R++[r]) ((hp.set b none)++[some ⟨k,t,es,false⟩]) c->own R hp c:=fun c hc=>by
  obtain ⟨j,B,r',h1,h2,h3,h4⟩:=hc
  rcases KY hb h1 with ⟨hne,h5⟩ | ⟨rfl,rfl⟩
  ·obtain ⟨rj,_,_,e1,_⟩:=sr.hh.blk j B h5
   have:rj=r':=by have:=hold j rj e1; rw [h3] at this; exact (OI this).symm
   subst this
   exact ⟨j,B,rj,h5,h2,e1,h4⟩
  ·rw [hnew] at h3
   injection h3 with h3
   subst h3
   exact ⟨b,_,r,hb,rfl,g1,h4⟩
 have hh:HR w Z (R++[r]) ((hp.set b none)++[some ⟨k,t,es,false⟩]):=by
  refine ⟨by simp [hlen],fun j B hB=>?_,fun j j' B B' r1 r2 h1 f1 h2 f2 e1 e2 hc=>?_,sr.hh.zlt⟩
  ·rcases KY hb hB with ⟨hne,h5⟩ | ⟨rfl,rfl⟩
   ·obtain ⟨rj,ar,uj,e1,e2,e3,e4,e5,e6,e7,e8,e9,e10⟩:=sr.hh.blk j B h5
    exact ⟨rj,ar,uj,hold _ _ e1,e2,e3,e4,e5,e6,e7,e8,⟨e9.len,fun i x u hx hu=>up (e9.at_ i x u hx hu)⟩,e10⟩
   ·exact ⟨r,arr,us,hnew,g2,g3,g4,g5,g6,g7,g8,⟨g9.len,fun i x u hx hu=>up (g9.at_ i x u hx hu)⟩,g10⟩
  ·have src:∀ {j:Nat} {B:Blk} {r1:RI},((hp.set b none)++[some ⟨k,t,es,false⟩])[j]? = some (some B)->(R++[r])[j]? = some r1->∃ j0,hp[j0]? = some (some B)/\R[j0]? = some r1/\(j=j0/\j≠b\/j=hp.length/\j0=b):=fun {j B r1} h1 e1=>by
    rcases KY hb h1 with ⟨hne,h5⟩ | ⟨rfl,rfl⟩
    ·obtain ⟨rj,_,_,q1,_⟩:=sr.hh.blk j B h5
     have:rj=r1:=by have:=hold j rj q1; rw [e1] at this; exact (OI this).symm
     subst this
     exact ⟨j,h5,q1,.inl ⟨rfl,hne⟩⟩
    ·rw [hnew] at e1
     injection e1 with e1
     subst e1
     exact ⟨b,hb,g1,.inr ⟨rfl,rfl⟩⟩
   obtain ⟨i1,p1,p2,p3⟩:=src h1 e1
   obtain ⟨i2,q1,q2,q3⟩:=src h2 e2
   have:=sr.hh.inj i1 i2 B B' r1 r2 p1 f1 q1 f2 p2 q2 hc
   subst this
   rcases p3 with ⟨rfl,p4⟩ | ⟨rfl,rfl⟩ <;> rcases q3 with ⟨q4,q5⟩ | ⟨q4,q5⟩
   ·exact q4.symm
   ·exact absurd q5 p4
   ·exact absurd q4 q5
   ·exact q4.symm
 have st:Step w Z R hp w Z (R++[r]) ((hp.set b none)++[some ⟨k,t,es,false⟩]):=⟨rfl,rfl,rfl,Nat.le_refl _,fun _ _ _=>rfl,fun c hc=> .inl (own1 c hc),fun _ h=>h,fun _ h=> .inl h,hold⟩
 refine ⟨R++[r],⟨hh,⟨by have:=sr.fr.1; rwa [EP] at this ⊢,fun s x hx=>?_⟩,sr.mks.step st,sr.gl,sr.bs⟩,st⟩
 rw [Fr_get] at hx
 split at hx
 ·next hs =>
  injection hx with hx
  rw [lk_put] at hx
  split at hx
  ·next e =>
   injection hx with hx
   subst hx
   have hold2:=sr.fr.2 s (.rf b 0 q q) (by rw [Fr_get,if_pos hs,lk_put,if_pos e])
   generalize a.tmps.getD s undef=u at hold2 ⊢
   cases hold2 with
   | rf hr h0 h1 h2 hm =>
    rename_i c r'
    rw [g1] at hr
    injection hr with hr
    subst hr
    exact .rf hnew h0 h1 h2 hm
  ·next e=>exact up (sr.fr.2 s x (by rw [Fr_get,if_pos hs,lk_put,if_neg e,hx]))
 ·cases hx
/-- append: with nothing in the list the slice stays where it is. -/
theorem NQ (hE:EnvOk E){α:Type}{c:Cd α}{xs vs:List α}{x y:Operand}{el ty t2:TypeId}{bytes:Nat}{pos:String}{af:Array Edge}{g:Option (Nat×Bool)}{ty':TypeId}(hr:rest=⟨some d,.call ⟨.builtin .append,#[x,y],#[ty,t2]⟩,ty',pos,af,g⟩::rest') (hw:Be ops (Fr n l) ⟨some d,.call ⟨.builtin .append,#[x,y],#[ty,t2]⟩,ty',pos,af,g⟩=some true)
  (hx:opA E (Fr n l) x=some (.rf b 0 xs.length xs.length)) (hy:opA E (Fr n l) y=some (.sl k (vs.map c.enc))) (ha:apB E.P ty el k bytes=true) (hu:E.P.underlying t2=some (.slice el)) (hb:hp[b]? = some (some ⟨k,el,xs.map c.enc,false⟩)) (hc:EO bytes (xs.length + vs.length)=true)
  (kk:RunS E ops rest' ⟨Fr n ((d,.rf hp.length 0 (xs++vs).length (xs++vs).length)::l),(hp.set b none)++[some ⟨k,el,(xs++vs).map c.enc,false⟩]⟩ K):RunS E ops rest ⟨Fr n l,hp⟩ K:=by
 have hs:∀ zs,Gc E.P t2 (.sl k zs)=true:=fun zs=>by unfold Gc; rw [hu]
 have hq:EC E.P (opA E (Fr n l)) hp (.call ⟨.builtin .append,#[x,y],#[ty,t2]⟩)=none:=rfl
 have hn:GG E.P (opA E (Fr n l)) hp (.call ⟨.builtin .append,#[x,y],#[ty,t2]⟩)=none:=rfl
 by_cases hv:vs=[]
 ·subst hv
  have he:CE E.P hp ty t2 (.rf b 0 xs.length xs.length) (.sl k (([]:List α).map c.enc))=some (.rf b 0 xs.length xs.length,hp):=by
   obtain ⟨i,z,a1,a2,a3,a4,a5,a6,a7,a8⟩:=Gh ha
   unfold CE
   rw [if_neg (by rw [hs]; simp)]
   simp [a1,a2,a3,Gq]
  refine Ab hE 0 hr (QU hw rfl hq hn (DZ hx hy he)) ?_
  intro base Q ac w Z R sr q
  obtain ⟨R',sr',st⟩:=sr.move hb
  refine kk base Q ac w Z R' (by simpa using sr') fun s' a' w' Z' R'' hK sr'' st'=>q s' a' w' Z' R'' hK sr'' (st.w.trans ?_)
  simpa using st'
 ·exact Ab hE 0 hr (QU hw rfl hq hn (DZ hx hy (HA (c:=c) ha (hs _) Iw hv hb hc))) kk
end
end Go.Proofs.YtdjhmdbpcfnpgaaGreatDoor
namespace Go.Proofs.YtdjhmdbpcfnpgaaGreatDoor
open Go.Shelf
def lays4_ren:Go.Shelf.Ren:=⟨fun | 4=>100 | n=>n,fun | 25=>66 | 22=>25 | n=>n,fun n=>n⟩
theorem QM:Go.Proofs.Lays8.n4 Tryz.prog lays4_ren:={
 mixed:=by kernel_rfl
 f4:=⟨Tryz.f100.name,by kernel_rfl,Tryz.func100.trans (congrArg some (by kernel_rfl))⟩
 t0:=Tryz.underlying0
 a0:=Tryz.isAgg0
 z0:=Tryz.sizeOf0
 v0:=Tryz.zeroValue0
 t3:=Tryz.underlying3
 a3:=Tryz.isAgg3
 z3:=Tryz.sizeOf3
 v3:=Tryz.zeroValue3
 t4:=Tryz.underlying4
 a4:=Tryz.isAgg4
 z4:=Tryz.sizeOf4
 v4:=Tryz.zeroValue4
 t9:=Tryz.underlying9
 a9:=Tryz.isAgg9
 z9:=Tryz.sizeOf9
 v9:=Tryz.zeroValue9
 t20:=Tryz.underlying20
 a20:=Tryz.isAgg20
 z20:=Tryz.sizeOf20
 v20:=Tryz.zeroValue20
 t22:=Tryz.underlying25
 a22:=Tryz.isAgg25
 z22:=Tryz.sizeOf25
 v22:=Tryz.zeroValue25 }
open Go.RowKit Go.Lib
def SN (n:Nat) (x:AV) (h':Hp):Prop:=(n=0/\x = .e0/\h'=[])\/(0 < n/\x = .rf 0 0 0 0/\h'=[some ⟨5,66,[],false⟩])
theorem RU (n:Nat) (hn:n<=1000000):SOk 100 [.e0,.v (.int .i64 (n:Int))] (SN n):=by
 refine ⟨⟨Tryz.call100⟩,fun w Z us hz _ hv=>?_⟩
 obtain ⟨u1,r1,rfl,h1,hv⟩:=hv.head
 obtain ⟨u2,r2,rfl,h2,hv⟩:=hv.head
 have:r2=[]:=List.eq_nil_of_length_eq_zero hv.len
 subst this
 have e2:=h2.v_inv
 subst e2
 have hh:HR w Z [] []:=⟨rfl,fun b B hB=>by simp at hB,fun b b' B B' r r' hB=>by simp at hB,hz⟩
 cases h1 with
 | e0 =>
  rename_i A
  rcases Nat.eq_zero_or_pos n with h0 | h0
  ·subst h0
   refine Calls.mono (Any8.slices_Grow_room QM A 0 0 0 w (Nat.le_refl _) (by decide) (by decide) (by decide)) fun e w' he=>?_
   obtain ⟨rfl,rfl⟩:=he
   exact ⟨Z,[],.e0,[],.inl ⟨rfl,rfl,rfl⟩,hh,.e0,StepW.refl _ _ _ _⟩
  ·have hs:(Tryz.prog.info? 66).isSome=true:=by kernel_rfl
   have g2:(Tryz.prog.info? 66).map (fun i=>(i.size,i.bytes))=some (5,64):=by kernel_rfl
   have g3:(Tryz.prog.info? 66).bind (fun i=>i.zero)=some (.agg #[.int .u8 0,.string ⟨#[]⟩,.bool false,.slice none 0 0,.int .i64 0]):=by kernel_rfl
   obtain ⟨i,hi1⟩:=Option.isSome_iff_exists.1 hs
   rw [hi1] at g2 g3
   have hi2:i.size=5:=congrArg Prod.fst (OI g2)
   have hi3:i.bytes=64:=congrArg Prod.snd (OI g2)
   have hi4:i.zero=some (.agg #[.int .u8 0,.string ⟨#[]⟩,.bool false,.slice none 0 0,.int .i64 0]):=g3
   refine Calls.mono (Any8.slices_Grow_grow QM i _ hi1 hi4 (by rw [hi2]; decide) A 0 0 n [] w (Nat.le_refl _) (by omega) (by rw [hi3]; omega) (by omega) (by simp) (fun _=>rfl) (fun a _ j v hj=>by simp at hj)) fun e w' he=>?_
   obtain ⟨rfl,rfl⟩:=he
   have hge:=grownCap_ge w (0 + n) 0 (lays4_ren.t 25)
   have hcm:grownCap w (0 + n) 0 (lays4_ren.t 25)<=maxLen:=grownCap_le_maxLen w (0 + n) 0 _ (by unfold maxLen; omega)
   generalize grownCap w (0 + n) 0 (lays4_ren.t 25)=G at hge hcm ⊢
   have hgd:w.grownBy (w.drew.alloc (.cells (([]:List Value).toArray++Builtin.zeroCells (Value.agg #[.int .u8 0,.string ⟨#[]⟩,.bool false,.slice none 0 0,.int .i64 0]).cells (0 + n - 0)++Builtin.zeroCells (Value.agg #[.int .u8 0,.string ⟨#[]⟩,.bool false,.slice none 0 0,.int .i64 0]).cells (G - (0 + n))) (lays4_ren.t 25))) none:=⟨rfl,rfl,rfl,by simp,fun k hk _=>heap_alloc_old w.drew _ hk⟩
   obtain ⟨r1,r2,r3⟩:=hh.new (c:=w.heap.size) (cap:=G) (k:=5) (t:=lays4_ren.t 25) (es:=[]) (us:=[]) hgd (Nat.le_refl _) (heap_alloc_new w.drew _) VRs.nil (by simp [Builtin.zeroCells,Value.cells]; omega) (Nat.zero_le _) hcm (fun i u h=>by simp at h)
   refine ⟨Z,_,.rf 0 0 0 0,[some ⟨5,66,[],false⟩],.inr ⟨h0,rfl,rfl⟩,r1,?_,r2.w⟩
   have:=VR.rf (w:=w.drew.alloc (.cells (([]:List Value).toArray++Builtin.zeroCells (Value.agg #[.int .u8 0,.string ⟨#[]⟩,.bool false,.slice none 0 0,.int .i64 0]).cells (0 + n - 0)++Builtin.zeroCells (Value.agg #[.int .u8 0,.string ⟨#[]⟩,.bool false,.slice none 0 0,.int .i64 0]).cells (G - (0 + n))) (lays4_ren.t 25))) (Z:=Z) (b:=0) (lo:=0) (n:=0) (m:=0) (c:=G) r3 (Nat.le_refl _) (Nat.zero_le _) (by simp) hcm
   simpa using this
theorem QY (m:Int) (h:(decide (0 < m)&&decide (m<=1000000))=true):SOk 100 [.e0,.v (.int .i64 m)] (fun x h'=>x = .rf 0 0 0 0/\h'=[some ⟨5,66,[],false⟩]):=by
 simp only [Bool.and_eq_true,decide_eq_true_eq] at h
 obtain ⟨n,rfl⟩:=Int.eq_ofNat_of_zero_le (show 0<=m by omega)
 obtain ⟨h1,h2⟩:=RU n (by omega)
 refine ⟨h1,fun w Z us a b c=>Ret.mono (h2 w Z us a b c) fun v w' hS=>?_⟩
 obtain ⟨Z',R',x,h',hO,k⟩:=hS
 rcases hO with ⟨h0,_,_⟩ | ⟨_,q1,q2⟩
 ·omega
 ·exact ⟨Z',R',x,h',⟨q1,q2⟩,k⟩
theorem P9:∀ (x:AV) (h':Hp),(x = .rf 0 0 0 0/\h'=[some ⟨5,66,[],false⟩])->Gy x=true/\Jr h'=true:=by
 rintro x h' ⟨rfl,rfl⟩
 exact ⟨rfl,rfl⟩
/- slices.Concat[[]trestle/api.Clause,trestle/api.Clause] -/
noncomputable def BP:Code:=CC Tryz.f81
def AU (x0:(List (List AE))):Nat->Int->Int->Option ((Int))
 | 0,_,_=>none
 | f + 1,c1,c2 =>
  if (decide (c2 < (x0.length:Int)))=true then
  (idx x0 c2).bind fun v4 =>
  if (decide ((wr .i64 (c1 + (v4.length:Int))) < 0))=true then none else
  AU x0 f (wr .i64 (c1 + (v4.length:Int))) (wr .i64 (c2 + 1))
  else
  some c1
def AW (x0:(List (List AE))):Nat->(List AE)->Int->Option (((List AE)))
 | 0,_,_=>none
 | f + 1,c9,c10 =>
  if (decide (c10 < (x0.length:Int)))=true then
  (idx x0 c10).bind fun v12 =>
  if (EO 64 (c9.length + v12.length))=true then
  AW x0 f (c9++v12) (wr .i64 (c10 + 1))
  else none
  else
  some c9
def Aw (x0:(List (List AE))):Option (List AE) :=
 (AU x0 100000 0 0).bind fun r7 =>
 if (decide (0 < r7)&&decide (r7<=1000000))=true then
 (AW x0 100000 ([]:List AE) 0).bind fun r15 =>
 some r15
 else none
def BQ:Cs ((List (List AE))×Unit):=(csC (cdL 1 (cdL 5 AA)) csN)
theorem DV (x0:(List (List AE))):∀ (f:Nat) (c1:Int) (c2:Int) (r:(Int)),AU x0 f c1 c2=some r->SemN E0 ⟨none,false⟩ (pc BP [1,1,0,1,0,0]) f ⟨Fr 36 [(0,.sl 1 (x0.map (cdL 5 AA).enc)),(3,.j c1),(9,.sl 1 (x0.map (cdL 5 AA).enc)),(10,.j (x0.length:Int)),(11,.j c2)],[]⟩ (fun e s=>e=(.exit 0)/\Wk E0 s ⟨Fr 36 [(0,.sl 1 (x0.map (cdL 5 AA).enc)),(3,.j r)],[]⟩):=by
 intro f;induction f with
 | zero=>intro c1 c2 r h; cases h
 | succ f ih0 =>
  intro c1 c2 r h
  have ih:=fun (c1:Int) (c2:Int)=>ih0 c1 c2 r
  unfold AU at h;refine B4 ?_
  let p1:Nat×AV:=(11,.j c2)
  let p2:Nat×AV:=(10,.j (x0.length:Int))
  let p3:Nat×AV:=(9,.sl 1 (x0.map (cdL 5 AA).enc))
  let p4:Nat×AV:=(0,.sl 1 (x0.map (cdL 5 AA).enc))
  refine AO AB [p4,(3,.j c1),p3,p2,p1,(12,.b (decide (c2 < (x0.length:Int))))] [] ?_;refine AF ?_;refine AQ (b:=(decide (c2 < (x0.length:Int)))) kr (fun hb3=>?_) (fun hb3=>?_)
  ·rw [if_pos hb3] at h
   refine Ac ?_;refine AF ?_;refine Ao ?_;refine AF ?_;obtain ⟨v4,hv4,h⟩:=OB h;refine AL (s1:=⟨Fr 36 [p4,(3,.j c1),(5,.sl 5 (v4.map AA.enc)),p3,p2,p1],[]⟩) ?_ ?_
   ·refine Ab AB 0 rfl (DQ (AC rfl) rfl (Ad (a:= .sl 1 (x0.map (cdL 5 AA).enc)) (b:= .j c2) kr kr (EF (e:=(cdL 5 AA).enc) (el:=25) (k:=1) (ki:= .i64) kr kr hv4))) ?_
    exact Ai AB
   refine AF ?_
   let p5:Nat×AV:=(3,.j (wr .i64 (c1 + (v4.length:Int))))
   refine AL (s1:=⟨Fr 36 [p4,p5,p3,p2,p1],[]⟩) ?_ ?_
   ·refine AD (n:=36) AB 2 [p4,p3,p2,p1,(15,.j c1),(16,.sl 5 (v4.map AA.enc))] [] kr ?_
    refine Ab AB 0 rfl (DQ (AC rfl) rfl (DI (a:= .sl 5 (v4.map AA.enc)) kr (CD (el:=66) kr))) ?_;exact Ai AB
   refine AO AB [p4,p5,p3,p2,p1,(20,.b (decide ((wr .i64 (c1 + (v4.length:Int))) < 0)))] [] ?_;refine AQ (b:=(decide ((wr .i64 (c1 + (v4.length:Int))) < 0))) kr (fun hb5=>?_) (fun hb5=>?_)
   ·rw [if_pos hb5] at h
    cases h
   ·rw [B3 hb5] at h
    refine Ac ?_
    let p6:Nat×AV:=(11,.j (wr .i64 (c2 + 1)))
    refine C0 AB [p4,p5,p3,p2,p6] [] ?_;exact Ax (s1:=⟨Fr 36 [p4,p5,p3,p2,p6],[]⟩) AK (ih (wr .i64 (c1 + (v4.length:Int))) (wr .i64 (c2 + 1)) h)
  ·rw [B3 hb3] at h
   refine Cc ?_;have hq:=OI h; subst hq;exact ⟨rfl,AK⟩
theorem DW (x0:(List (List AE))):∀ (f:Nat) (c9:(List AE)) (c10:Int) (r:((List AE))),AW x0 f c9 c10=some r->SemN E0 ⟨none,false⟩ (pc BP [1,1,1,1,0,1,0,0]) f ⟨Fr 36 [(6,.rf 0 0 c9.length c9.length),(25,.sl 1 (x0.map (cdL 5 AA).enc)),(26,.j (x0.length:Int)),(27,.j c10)],[some ⟨5,66,(c9.map AA.enc),false⟩]⟩ (fun e s=>e=(.exit 2)/\Wk E0 s ⟨Fr 36 [(6,.rf 0 0 r.length r.length)],[some ⟨5,66,(r.map AA.enc),false⟩]⟩):=by
 intro f;induction f with
 | zero=>intro c9 c10 r h; cases h
 | succ f ih0 =>
  intro c9 c10 r h
  have ih:=fun (c9:(List AE)) (c10:Int)=>ih0 c9 c10 r
  unfold AW at h;refine B4 ?_
  let p1:Option Blk:=some ⟨5,66,(c9.map AA.enc),false⟩
  let p2:Nat×AV:=(27,.j c10)
  let p3:Nat×AV:=(26,.j (x0.length:Int))
  let p4:Nat×AV:=(25,.sl 1 (x0.map (cdL 5 AA).enc))
  refine AO AB [(6,.rf 0 0 c9.length c9.length),p4,p3,p2,(28,.b (decide (c10 < (x0.length:Int))))] [p1] ?_;refine AF ?_;refine AQ (b:=(decide (c10 < (x0.length:Int)))) kr (fun hb11=>?_) (fun hb11=>?_)
  ·rw [if_pos hb11] at h
   refine Ac ?_;refine AF ?_;refine Ao ?_;refine AF ?_;obtain ⟨v12,hv12,h⟩:=OB h;refine AL (s1:=⟨Fr 36 [(6,.rf 0 0 c9.length c9.length),(8,.sl 5 (v12.map AA.enc)),p4,p3,p2],[p1]⟩) ?_ ?_
   ·refine Ab AB 0 rfl (DQ (AC rfl) rfl (Ad (a:= .sl 1 (x0.map (cdL 5 AA).enc)) (b:= .j c10) kr kr (EF (e:=(cdL 5 AA).enc) (el:=25) (k:=1) (ki:= .i64) kr kr hv12))) ?_
    exact Ai AB
   by_cases hk13:(EO 64 (c9.length + v12.length))=true
   case neg=>rw [if_neg hk13] at h; cases h
   rw [if_pos hk13] at h
   let p5:Option Blk:=some ⟨5,66,((c9++v12).map AA.enc),false⟩
   let p6:Nat×AV:=(6,.rf 0 0 (c9++v12).length (c9++v12).length)
   refine AL (s1:=⟨Fr 36 [p6,p4,p3,p2],[p5]⟩) ?_ ?_
   ·refine AD (n:=36) AB 2 [p4,p3,p2,(31,.rf 0 0 c9.length c9.length),(32,.sl 5 (v12.map AA.enc))] [p1] kr ?_
    refine NQ AB (c:=AA) (xs:=c9) (vs:=v12) (b:=0) (k:=5) (el:=66) (bytes:=64) rfl (AC rfl) kr kr kr kr kr hk13 ?_;refine AD (n:=36) AB 1 [(6,.rf 1 0 (c9++v12).length (c9++v12).length),p4,p3,p2] [none,p5] kr ?_;exact AH rfl (A7 [1] ⟨⟨_,rfl,HM⟩,trivial⟩ ⟨lv,lv,lv,lv,trivial⟩)
   let p7:Nat×AV:=(27,.j (wr .i64 (c10 + 1)))
   refine C0 AB [p6,p4,p3,p7] [p5] ?_;exact Ax (s1:=⟨Fr 36 [p6,p4,p3,p7],[p5]⟩) (A7 [0] ⟨⟨_,rfl,HM⟩,trivial⟩ ⟨lv,lv,lv,lv,trivial⟩) (ih (c9++v12) (wr .i64 (c10 + 1)) h)
  ·rw [B3 hb11] at h
   refine Cc ?_;have hq:=OI h; subst hq;exact ⟨rfl,(A7 [0] ⟨⟨_,rfl,HM⟩,trivial⟩ ⟨lv,trivial⟩)⟩
theorem Df (x0:(List (List AE))) (r:(List AE)) (h:Aw x0=some r):Sem E0 ⟨none,false⟩ BP ⟨Fr 36 (Bo 0 (BQ.enc (x0,()))),[]⟩ fun e s'=>(e = .normal\/e = .ret)/\∃ xs,EQ E0.P s'.fr s'.hp Tryz.f81.results.toList=some xs/\(Ea xs = .rf 0 0 r.length r.length/\s'.hp=[some ⟨5,66,(r.map AA.enc),false⟩]):=by
 unfold Aw at h
 let p1:Nat×AV:=(0,.sl 1 (x0.map (cdL 5 AA).enc))
 refine Bf (CN (s1:=⟨Fr 36 [p1],[]⟩) AK ?_);refine AO AB [p1] [] ?_
 let p2:Nat×AV:=(3,.j 0)
 refine AO AB [p1,p2] [] ?_;refine AF ?_;refine AF ?_
 let p3:Nat×AV:=(10,.j (x0.length:Int))
 let p4:Nat×AV:=(9,.sl 1 (x0.map (cdL 5 AA).enc))
 refine AL (s1:=⟨Fr 36 [p1,p2,p4,p3,(11,.j 0)],[]⟩) ?_ ?_
 ·refine AD (n:=36) AB 1 [p1,p2,p4] [] kr ?_
  refine Ab AB 0 rfl (DQ (AC rfl) rfl (DI (a:= .sl 1 (x0.map (cdL 5 AA).enc)) kr (CD (el:=25) kr))) ?_;exact Ai AB
 refine Ao ?_;obtain ⟨r7,hr7,h⟩:=OB h;refine Ce (n:=100000) ?_;refine BG (Ax (s1:=⟨Fr 36 [p1,p2,p4,p3,(11,.j 0)],[]⟩) AK (DV x0 _ 0 0 _ hr7)) ?_;refine AF ?_;by_cases hk8:(decide (0 < r7)&&decide (r7<=1000000))=true
 case neg=>rw [if_neg hk8] at h; cases h
 rw [if_pos hk8] at h
 let p5:Option Blk:=some ⟨5,66,(([]:List AE).map AA.enc),false⟩
 let p6:Nat×AV:=(6,.rf 0 0 ([]:List AE).length ([]:List AE).length)
 refine AL (s1:=⟨Fr 36 [p1,p6],[p5]⟩) ?_ ?_
 ·refine AD (n:=36) AB 1 [p1,(23,.j r7)] [] kr ?_
  refine Mw rfl rfl (QY r7 hk8) rfl (AC rfl) kr (xs:=[.e0,.j r7]) kr kr P9 ?_;rintro x h' ⟨rfl,rfl⟩;exact Ai AB
 refine AF ?_;refine AF ?_
 let p7:Nat×AV:=(26,.j (x0.length:Int))
 let p8:Nat×AV:=(25,.sl 1 (x0.map (cdL 5 AA).enc))
 refine AL (s1:=⟨Fr 36 [p6,p8,p7,(27,.j 0)],[p5]⟩) ?_ ?_
 ·refine AD (n:=36) AB 1 [p6,p8] [p5] kr ?_
  refine Ab AB 0 rfl (DQ (AC rfl) rfl (DI (a:= .sl 1 (x0.map (cdL 5 AA).enc)) kr (CD (el:=25) kr))) ?_;exact Ai AB
 refine Ao ?_;obtain ⟨r15,hr15,h⟩:=OB h;refine Ce (n:=100000) ?_;refine BG (Ax (s1:=⟨Fr 36 [p6,p8,p7,(27,.j 0)],[p5]⟩) (A7 [0] ⟨⟨_,rfl,HM⟩,trivial⟩ ⟨lv,lv,lv,lv,trivial⟩) (DW x0 _ ([]:List AE) 0 _ hr15)) ?_
 let p9:Option Blk:=some ⟨5,66,(r15.map AA.enc),false⟩
 let p10:Nat×AV:=(2,.rf 0 0 r15.length r15.length)
 refine AO AB [p10] [p9] ?_;refine Ah ?_;have hq:=OI h; subst hq;exact ⟨⟨Fr 36 [p10],[p9]⟩,(A7 [0] ⟨⟨_,rfl,HM⟩,trivial⟩ ⟨lv,trivial⟩),.inr rfl,[.rf 0 0 r15.length r15.length],kr,rfl,rfl⟩
theorem Dj (x0:(List (List AE))) (r:(List AE)) (h:Aw x0=some r):SOk 81 (BQ.enc (x0,())) (fun x h'=>x = .rf 0 0 r.length r.length/\h'=[some ⟨5,66,(r.map AA.enc),false⟩]):=KI AB rfl rfl (fn:=Tryz.f81) (c:=BP) kr kr ⟨Tryz.call81⟩ (by show 1<=36; decide) (Df x0 r h)
end Go.Proofs.YtdjhmdbpcfnpgaaGreatDoor
namespace Go.Proofs.YtdjhmdbpcfnpgaaGreatDoor
open Go.Shelf Go.RowKit Go.Lib
def Nz:List AV->Option AV
 | [.e0,.v (.int .i64 n)]=>if n=0 then some .e0 else none
 | _=>none
theorem grow_0_ok:EnvOk (E0.withX 100 Nz):=by
 refine AB.withX ⟨Tryz.call100⟩ fun xs x h w Z us _ _ hv=>?_
 unfold Nz at h
 split at h
 ·next n =>
  split at h
  ·next h0 =>
   subst h0
   injection h with h
   subst h
   obtain ⟨u1,r1,rfl,h1,hv⟩:=hv.head
   obtain ⟨u2,r2,rfl,h2,hv⟩:=hv.head
   have:r2=[]:=List.eq_nil_of_length_eq_zero hv.len
   subst this
   have e2:=h2.v_inv
   subst e2
   cases h1 with
   | e0 =>
    rename_i A
    refine Calls.mono (Any8.slices_Grow_room QM A 0 0 0 w (Nat.le_refl _) (by decide) (by decide) (by decide)) fun e w' he=>?_
    obtain ⟨rfl,rfl⟩:=he
    exact ⟨IV _,.e0⟩
  ·cases h
 ·cases h
theorem Qa {f:FuncId}{ys:List AV}(hc:BX E0.P f) (h:∀ (w:World) (Z:Nat->Prop) (us:List Value),(∀ c,Z c->c < w.heap.size)->GI E0 w Z->VRs w Z [] ys us->Ret E0.P f us.toArray w fun v w'=>w.grownBy w' none/\VR w' (fun c=>Z c\/(w.heap.size<=c/\c < w'.heap.size)) [] .e0 v):SOk f ys (fun x h'=>x = .e0/\h'=[]) :=
 ⟨hc,fun w Z us hz hg hv=>Ret.mono (h w Z us hz hg hv) fun v w' ⟨hs,hx⟩=>⟨fun c=>Z c\/(w.heap.size<=c/\c < w'.heap.size),[],.e0,[],⟨rfl,rfl⟩,hr_nil fun c hc=>hc.elim (fun h=>Nat.lt_of_lt_of_le (hz c h) hs.size) (·.2),hx,
  ⟨hs.os,hs.tape,hs.output,hs.size,fun c hc _=>hs.block c hc (by simp),fun c hc=>absurd hc JS,fun c hc=> .inl hc,fun c hc=>hc.elim .inl fun h=> .inr (.inr h.1)⟩⟩⟩
theorem SOk.mono {f:FuncId}{ys:List AV}{Out Out2:AV->Hp->Prop}(hs:SOk f ys Out) (h:∀ x h',Out x h'->Out2 x h'):SOk f ys Out2 :=
 ⟨hs.1,fun w Z us hz hg hv=>Ret.mono (hs.2 w Z us hz hg hv) fun v w' ⟨Z',R',x,h',hO,k⟩=>⟨Z',R',x,h',h x h' hO,k⟩⟩
theorem M3:B5 (E0.withX 100 Nz) 300 81 (BQ.enc ([[],[]],()))=some .e0:=by kernel_rfl
/-- .. -/
def KT:List (List AE)->Option (List AE)
 | [[],[]]=>some []
 | x0=>Aw x0
theorem OL (x0:List (List AE)) (r:List AE) (h:KT x0=some r):SOk 81 (BQ.enc (x0,())) (fun x h'=>(r=[]/\x = .e0/\h'=[])\/(x = .rf 0 0 r.length r.length/\h'=[some ⟨5,66,r.map AA.enc,false⟩])):=by
 unfold KT at h
 split at h
 ·have hr:r=[]:=(OI h).symm
  subst hr
  refine SOk.mono (Qa ⟨Tryz.call81⟩ fun w Z us hz hg hv=>?_) fun x h' hO=> .inl ⟨rfl,hO⟩
  have e:=M3
  unfold B5 at e
  split at e
  ·next he=>exact frz_ret (enter_sound grow_0_ok (code_sound grow_0_ok 300).1 he (hr_nil hz) hv hg (fun y hy=>by cases hy)) e
  ·cases e
 ·exact SOk.mono (Dj _ r h) fun x h' hO=> .inr hO
/- trestle/court.Merge -/
noncomputable def Dm:Code:=CC Tryz.f51
def CQ (x0:(List AE)) (x1:(List AE)):Nat->Int->Option ((Unit) ⊕ (Int))
 | 0,_=>none
 | f + 1,c5 =>
  if (decide (c5 < (([x0,x1]:List (List AE)).length:Int)))=true then
  (idx ([x0,x1]:List (List AE)) c5).bind fun v7 =>
  (Dn v7).bind fun v8 =>
  if (v8.2 != 0)=true then
  some (.inr v8.2)
  else
  CQ x0 x1 f (wr .i64 (c5 + 1))
  else
  some (.inl ())
def B6 (v28:(List AE)):Nat->Int->(List AE)->Option (((List AE)))
 | 0,_,_=>none
 | f + 1,c33,c34 =>
  if (decide (c33 < (v28.length:Int)))=true then
  (idx c34 c33).bind fun v36 =>
  if (EO 16 v36.2.2.2.1.length)=true then
  (idx c34 c33).bind fun v41 =>
  if (decide ((wr .i64 (c33 + 1)).toNat=c33.toNat + 1))=true then
  B6 v28 f (wr .i64 (c33 + 1)) (c34.set c33.toNat (v41.1,v41.2.1,v41.2.2.1,v36.2.2.2.1,v41.2.2.2.2))
  else none
  else none
  else
  if (decide (c33.toNat=c34.length))=true then
  some c34
  else none
def D0 (x0:(List AE)) (x1:(List AE)):Option (Int×(List AE)) :=
 (CQ x0 x1 100000 0).bind fun r15 =>
 match r15 with
 | (.inl w16) =>
  if (decide ((wr .i64 ((x0.length:Int) + (x1.length:Int))) > 32))=true then
  some (7,([]:(List AE)))
  else
  (KT ([x0,x1]:List (List AE))).bind fun v28 =>
  (B6 v28 100000 0 v28).bind fun r50 =>
  some (0,r50)
 | (.inr w53) =>
  some (w53,([]:(List AE)))
theorem FM {L:List Asn}(x0:(List AE)) (x1:(List AE)) (e4:AV):∀ (f:Nat) (c5:Int) (r:(Unit) ⊕ (Int)),CQ x0 x1 f c5=some r->∀ (hp:Hp),T hp ((own_ (ocL 1 25 (ocV (cdL 5 AA))) e4 ([x0,x1]:List (List AE)))::L)->SemYN E0 ⟨none,false⟩ (pc Dm [1,0,1,0,0]) f ⟨Fr 56 [(0,.sl 5 (x0.map AA.enc)),(1,.sl 5 (x1.map AA.enc)),(14,e4),(15,.j (([x0,x1]:List (List AE)).length:Int)),(16,.j c5)],hp⟩ (fun e s=>match r with
 | (.inl w)=>e=(.exit 0)/\∃ s2,(∃ (h':Hp),T h' (L)/\s2=⟨Fr 56 [(0,.sl 5 (x0.map AA.enc)),(1,.sl 5 (x1.map AA.enc))],h'⟩)/\WkY E0 s s2
 | (.inr w)=>e = .ret/\∃ s2,(∃ (h':Hp),T h' ((own_ (ocL 5 66 (ocS 9)) .e0 ([]:(List AE)))::L)/\s2=⟨Fr 56 [(4,.e0),(5,.j w)],h'⟩)/\WkY E0 s s2):=by
 intro f;induction f with
 | zero=>intro c5 r h; cases h
 | succ f ih0 =>
  intro c5 r h  hp hT;unfold CQ at h;refine G9 ?_
  let p1:Nat×AV:=(16,.j c5)
  let p2:Nat×AV:=(15,.j (([x0,x1]:List (List AE)).length:Int))
  let p3:Nat×AV:=(1,.sl 5 (x1.map AA.enc))
  let p4:Nat×AV:=(0,.sl 5 (x0.map AA.enc))
  refine C3 AB [p4,p3,(14,e4),p2,p1,(17,.b (decide (c5 < (([x0,x1]:List (List AE)).length:Int))))] ?_;refine BD ?_;refine Dk (b:=(decide (c5 < (([x0,x1]:List (List AE)).length:Int)))) kr (fun hb6=>?_) (fun hb6=>?_)
  ·rw [if_pos hb6] at h
   refine SemY.skip ?_;refine BD ?_;refine Dw ?_;refine BD ?_;refine Ar ?_;obtain ⟨v7,hv7,h⟩:=OB h;refine Bb AB 0 rfl (DQ (AC rfl) rfl (Ad (a:=e4) (b:= .j c5) kr kr (RE (bytes:=24) hT kr hv7))) ?_;refine Bb AB 0 rfl (DQ (AC rfl) rfl (Mm (p:=eAt e4 c5.toNat) kr (QN (y:= .sl 5 (v7.map AA.enc)) (m:=1) (g:=false) hT (FS hv7).2 kr kr kr))) ?_;refine Cz AB [p4,p3,(7,.sl 5 (v7.map AA.enc)),(14,e4),p2,p1] ?_;refine BD ?_;refine Ar ?_;refine Bt AB 1 ?_;obtain ⟨v8,hv8,h⟩:=OB h;refine Dg (v:=v8) (caps:=[]) (xs:=[.sl 5 (v7.map AA.enc)]) (u:=(v7,())) rfl rfl Kv rfl (AC rfl) kr kr (Co (Dl (c:=(cdL 5 AA)) (v:=v7)) SeesD.nil) (.inl kr) hv8 ?_;refine Cz AB [p4,p3,(9,.j v8.2),(14,e4),p2,p1] ?_;refine C3 AB [p4,p3,(9,.j v8.2),(14,e4),p2,p1,(26,.b (v8.2 != 0))] ?_;refine Dk (b:=(v8.2 != 0)) kr (fun hb9=>?_) (fun hb9=>?_)
   ·rw [if_pos hb9] at h
    refine C3 AB [(4,.e0),(5,.j v8.2)] ?_;refine SemY.ret ?_;have hq:=OI h; subst hq
    have hT12:=(T.e0 (k:=5) (ty:=66) (o:=(ocS 9)) hT)
    have hT13:=(hT12.front 1 rfl).drop
    exact ⟨rfl,_,⟨hp,hT13,rfl⟩,WkY.f1⟩
   ·rw [B3 hb9] at h
    refine SemY.skip ?_;refine Ar ?_;refine Bt AB 2 ?_;refine DR rfl ?_;exact Ez WkY.f1 (ih0 (wr .i64 (c5 + 1)) _ h  hp hT)
  ·rw [B3 hb6] at h
   refine SemY.exit ?_;have hq:=OI h; subst hq
   have hT14:=hT.drop
   exact ⟨rfl,_,⟨hp,hT14,rfl⟩,WkY.f1⟩
theorem HZ {L:List Asn}(v28:(List AE)) (e29:AV):∀ (f:Nat) (c33:Int) (c34:(List AE)) (r:((List AE))),B6 v28 f c33 c34=some r->∀ (hp:Hp),T hp ((Oa 66 9 e29 c34 c33.toNat)::L)->SemYN E0 ⟨none,false⟩ (pc Dm [1,1,1,1,0,1,0,0]) f ⟨Fr 56 [(10,e29),(40,.j (v28.length:Int)),(41,.j c33)],hp⟩ (fun e s=>e=(.exit 2)/\∃ s2,(∃ (h':Hp),T h' ((own_ (ocL 5 66 (ocS 9)) e29 r)::L)/\s2=⟨Fr 56 [(10,e29)],h'⟩)/\WkY E0 s s2):=by
 intro f;induction f with
 | zero=>intro c33 c34 r h; cases h
 | succ f ih0 =>
  intro c33 c34 r h  hp hT;unfold B6 at h;refine G9 ?_
  let p1:Nat×AV:=(41,.j c33)
  let p2:Nat×AV:=(40,.j (v28.length:Int))
  refine C3 AB [(10,e29),p2,p1,(42,.b (decide (c33 < (v28.length:Int))))] ?_;refine BD ?_;refine Dk (b:=(decide (c33 < (v28.length:Int)))) kr (fun hb35=>?_) (fun hb35=>?_)
  ·rw [if_pos hb35] at h
   refine SemY.skip ?_;refine BD ?_;refine Dw ?_;refine C3 AB [(10,e29),(11,.j c33),p2,p1] ?_;refine Ar ?_;refine Bt AB 4 ?_;obtain ⟨v36,hv36,h⟩:=OB h;refine Bb AB 0 rfl (DQ (AC rfl) rfl (Ad (a:=e29) (b:= .j c33) kr kr (RD (bytes:=64) hT kr hv36))) ?_;refine Bb AB 0 rfl (DQ (AC rfl) rfl (OG (a:=eAt e29 c33.toNat) kr (Pe (off:=3) hT (FS hv36).2 kr))) ?_;refine Bb AB 0 rfl (DQ (AC rfl) rfl (Mm (p:=I4 (eAt e29 c33.toNat) 3) kr (ldM hT (FS hv36).2 kr kr))) ?_;by_cases hk37:(EO 16 v36.2.2.2.1.length)=true
   case neg=>rw [if_neg hk37] at h; cases h
   rw [if_pos hk37] at h;refine J4 rfl rfl (Ci v36.2.2.2.1 hk37) rfl (AC rfl) kr kr kr J7 ?_;intro x h' hO; obtain ⟨e38,hp39,e38q,hp39q,hT40⟩:=J8 (c:=cdS) (k:=1) (t:=9) hT hO; rw [<-e38q,<-hp39q];obtain ⟨v41,hv41,h⟩:=OB h
   have hT42:=(hT40.front 1 rfl)
   refine Bb AB 0 rfl (DQ (AC rfl) rfl (Ad (a:=e29) (b:= .j c33) kr kr (RD (bytes:=64) hT42 kr hv41))) ?_;refine Bb AB 0 rfl (DQ (AC rfl) rfl (OG (a:=eAt e29 c33.toNat) kr (Pe (off:=3) hT42 (FS hv41).2 kr))) ?_;by_cases hk46:(decide ((wr .i64 (c33 + 1)).toNat=c33.toNat + 1))=true
   case neg=>rw [if_neg hk46] at h; cases h
   rw [if_pos hk46] at h;obtain ⟨hp43,hs44,hT450⟩:=stM (P:=Tryz.prog) (ty:=45) hT42 (FS hv41).2 kr
   have hT45:=(congrArg (fun z=>T hp43 (Oa 66 9 e29 (c34.set c33.toNat (v41.1,v41.2.1,v41.2.2.1,v36.2.2.2.1,v41.2.2.2.2)) z::L)) (of_decide_eq_true hk46).symm).mp hT450
   refine RunL.store AB (y:=I4 (eAt e29 c33.toNat) 3) (z:=e38) rfl (AC rfl) kr kr hs44 ?_;refine DR rfl (SemY.fr (l':=[(10,e29),p2,p1]) kr ?_);refine Ar ?_;refine Bt AB 2 ?_;refine DR rfl ?_;exact Ez WkY.f1 (ih0 (wr .i64 (c33 + 1)) (c34.set c33.toNat (v41.1,v41.2.1,v41.2.2.1,v36.2.2.2.1,v41.2.2.2.2)) _ h  hp43 hT45)
  ·rw [B3 hb35] at h
   by_cases hk47:(decide (c33.toNat=c34.length))=true
   case neg=>rw [if_neg hk47] at h; cases h
   rw [if_pos hk47] at h
   have hT48:=PC ((congrArg (fun z=>T hp (Oa 66 9 e29 c34 z::L)) (of_decide_eq_true hk47)).mp hT)
   refine SemY.exit ?_;have hq:=OI h; subst hq;exact ⟨rfl,_,⟨hp,hT48,rfl⟩,WkY.f1⟩
theorem IN {L:List Asn}{hp:Hp}(x0:(List AE)) (x1:(List AE)) (r:Int×(List AE)) (h:D0 x0 x1=some r) (hT:T hp (L)):SemY E0 ⟨none,false⟩ Dm ⟨Fr 56 (Bo 0 [.sl 5 (x0.map AA.enc),.sl 5 (x1.map AA.enc)]),hp⟩ fun x s'=>(x = .normal\/x = .ret)/\∃ ys,EQ E0.P s'.fr s'.hp Tryz.f51.results.toList=some ys/\(fun v h'=>∃ (z0:AV),v = .tp [z0,.j r.1]/\T h' ((own_ (ocL 5 66 (ocS 9)) z0 r.2)::L)) (Ea ys) s'.hp:=by
 unfold D0 at h
 let p1:Nat×AV:=(1,.sl 5 (x1.map AA.enc))
 let p2:Nat×AV:=(0,.sl 5 (x0.map AA.enc))
 refine KQ (KP (s1:=⟨Fr 56 [p2,p1],hp⟩) WkY.f1 ?_);refine C3 AB [p2,p1] ?_;refine BD ?_;refine BD ?_;refine Ar ?_;refine Bt AB 2 ?_;obtain ⟨e4,hp1,hb2,hT3⟩:=Mc (P:=Tryz.prog) (bytes:=24) (k:=1) (t:=25) (ty:=135) (xs:=([x0,x1]:List (List AE))) (n:=2) (Q9 (k:=1) (fun _=>⟨rfl,rfl,rfl⟩)) (Ix (c:=(cdL 5 AA)) (xs:=([x0,x1]:List (List AE))) hT) rfl kr kr kr;refine Bb AB 0 rfl (Sb (AC rfl) rfl kr (RN (xs:=LA 0 [.sl 5 (x0.map AA.enc),.sl 5 (x1.map AA.enc)]) kr hb2)) ?_;refine Bb AB 0 rfl (DQ (AC rfl) rfl (DI (a:=e4) kr (O5 hT3 kr))) ?_;refine Cz AB [p2,p1,(14,e4),(15,.j (([x0,x1]:List (List AE)).length:Int)),(16,.j 0)] ?_;refine Dw ?_;refine SemY.loop (n:=100000) ?_;obtain ⟨r15,hr15,h⟩:=OB h;rcases r15 with w16 | w53
 ·try dsimp only at h
  refine Fv (Ez WkY.f1 (FM x0 x1 e4 _ 0 _ hr15  hp1 hT3)) ?_;rintro _ ⟨hp17,hT18,rfl⟩;refine BD ?_;refine BD ?_;refine Ar ?_;refine Bt AB 1 ?_;refine Bb AB 0 rfl (DQ (AC rfl) rfl (DI (a:= .sl 5 (x0.map AA.enc)) kr (CD (el:=66) kr))) ?_;refine Bt AB 1 ?_;refine Bb AB 0 rfl (DQ (AC rfl) rfl (DI (a:= .sl 5 (x1.map AA.enc)) kr (CD (el:=66) kr))) ?_;refine Cz AB [p2,p1,(34,.b (decide ((wr .i64 ((x0.length:Int) + (x1.length:Int))) > 32)))] ?_;refine Dk (b:=(decide ((wr .i64 ((x0.length:Int) + (x1.length:Int))) > 32))) kr (fun hb19=>?_) (fun hb19=>?_)
  ·rw [if_pos hb19] at h
   refine C3 AB [(4,.e0),(5,.j 7)] ?_;refine SemY.ret ?_;have hq:=OI h; subst hq
   have hT20:=(T.e0 (k:=5) (ty:=66) (o:=(ocS 9)) hT18)
   exact ⟨⟨Fr 56 [(4,.e0),(5,.j 7)],hp17⟩,WkY.f1,.inr rfl,[.e0,.j 7],kr,⟨.e0,rfl,hT20⟩⟩
  ·rw [B3 hb19] at h
   refine SemY.skip ?_;refine BD ?_;refine Ar ?_;refine Bt AB 2 ?_;obtain ⟨e24,hp21,hb22,hT23⟩:=Mc (P:=Tryz.prog) (bytes:=24) (k:=1) (t:=25) (ty:=135) (xs:=([x0,x1]:List (List AE))) (n:=2) (Q9 (k:=1) (fun _=>⟨rfl,rfl,rfl⟩)) (Ix (c:=(cdL 5 AA)) (xs:=([x0,x1]:List (List AE))) hT18) rfl kr kr kr;refine Bb AB 0 rfl (Sb (AC rfl) rfl kr (RN (xs:=LA 0 [.sl 5 (x0.map AA.enc),.sl 5 (x1.map AA.enc)]) kr hb22)) ?_;obtain ⟨hp25,hw26,hT27⟩:=Hn (E:=E0) (n:=56) (l:=[(37,e24)]) (l':=[(37,.sl 1 (([x0,x1]:List (List AE)).map (cdL 5 AA).enc))]) hT23 ⟨⟨e24,kr,Hk⟩,trivial⟩;refine Po (WkY.trans WkY.f1 hw26) ?_;obtain ⟨v28,hv28,h⟩:=OB h;refine J4 rfl rfl (OL ([x0,x1]:List (List AE)) _ hv28) rfl (AC rfl) kr kr kr J7 ?_;intro x h' hO; obtain ⟨e29,hp30,e29q,hp30q,hT31⟩:=J8 (c:=AA) (k:=5) (t:=66) hT27 hO; rw [<-e29q,<-hp30q];refine Cz AB [(10,e29)] ?_;refine BD ?_;refine BD ?_;refine Ar ?_;refine Bt AB 1 ?_;refine Bb AB 0 rfl (DQ (AC rfl) rfl (DI (a:=e29) kr (O5 hT31 kr))) ?_;refine Cz AB [(10,e29),(40,.j (v28.length:Int)),(41,.j 0)] ?_
   have hT32:=(RQ (tn:=9) hT31)
   refine Dw ?_;refine SemY.loop (n:=100000) ?_;obtain ⟨r50,hr50,h⟩:=OB h;refine Fv (Ez WkY.f1 (HZ v28 e29 _ 0 v28 _ hr50  hp30 hT32)) ?_;rintro _ ⟨hp51,hT52,rfl⟩;refine C3 AB [(4,e29),(5,.j 0)] ?_;refine SemY.ret ?_;have hq:=OI h; subst hq;exact ⟨⟨Fr 56 [(4,e29),(5,.j 0)],hp51⟩,WkY.f1,.inr rfl,[e29,.j 0],kr,⟨e29,rfl,hT52⟩⟩
 ·try dsimp only at h
  refine Fv (Ez WkY.f1 (FM x0 x1 e4 _ 0 _ hr15  hp1 hT3)) ?_;rintro _ ⟨hp54,hT55,rfl⟩;have hq:=OI h; subst hq;exact ⟨⟨Fr 56 [(4,.e0),(5,.j w53)],hp54⟩,WkY.f1,.inr rfl,[.e0,.j w53],kr,⟨.e0,rfl,hT55⟩⟩
/- trestle/trestlelaw03.merges -/
noncomputable def Dz:Code:=CC Tryz.f19
def CJ (c17:Int) (v20:AE):Nat->Int->(List AE)->Option (((List AE)))
 | 0,_,_=>none
 | f + 1,c25,c26 =>
  if (decide (c25 < (v20.2.2.2.1.length:Int)))=true then
  (idx c26 c17).bind fun v28 =>
  (idx v28.2.2.2.1 c25).bind fun v32 =>
  CJ c17 v20 f (wr .i64 (c25 + 1)) (c26.set c17.toNat (v28.1,v28.2.1,v28.2.2.1,(v28.2.2.2.1.set c25.toNat [113]),v28.2.2.2.2))
  else
  some c26
def CI (v3:Int×(List AE)):Nat->Int->(List AE)->Option ((Unit))
 | 0,_,_=>none
 | f + 1,c17,c18 =>
  if (decide (c17 < (v3.2.length:Int)))=true then
  (idx c18 c17).bind fun v20 =>
  (CJ c17 v20 100000 0 c18).bind fun r39 =>
  (idx r39 c17).bind fun v42 =>
  CI v3 f (wr .i64 (c17 + 1)) (r39.set c17.toNat (v42.1,[113],v42.2.2))
  else
  some ()
def Dd (x0:(List AE)) (x1:(List AE)):Option (Bool) :=
 (Dy x0).bind fun v1 =>
 (Dy x1).bind fun v2 =>
 (D0 v1 v2).bind fun v3 =>
 (Dt x0 x1).bind fun v7 =>
 (if (v3.1 != v7.2)=true then some true else (Di v3.2 v7.1).bind fun v8 =>
 some (!v8)).bind fun j9 =>
 if j9=true then
 some false
 else
 (CI v3 100000 0 v3.2).bind fun r47 =>
 (Di v1 x0).bind fun v50 =>
 (if v50=true then (Di v2 x1).bind fun v51 =>
 some v51 else some false).bind fun j52 =>
 some j52
theorem H0 {L:List Asn}(c17:Int) (v20:AE) (x0:(List AE)) (x1:(List AE)) (v1:(List AE)) (v2:(List AE)) (v3:Int×(List AE)) (e4:AV):∀ (f:Nat) (c25:Int) (c26:(List AE)) (r:((List AE))),CJ c17 v20 f c25 c26=some r->∀ (hp:Hp),T hp ((own_ (ocL 5 66 (ocS 9)) e4 c26)::L)->SemYN E0 ⟨none,false⟩ (pc Dz [1,1,1,1,1,0,1,0,0,1,1,0,0,1,0,1,0,0]) f ⟨Fr 73 [(0,.sl 5 (x0.map AA.enc)),(1,.sl 5 (x1.map AA.enc)),(5,.sl 5 (v1.map AA.enc)),(6,.sl 5 (v2.map AA.enc)),(7,e4),(11,.j c17),(39,.j (v3.2.length:Int)),(40,.j c17),(48,.j (v20.2.2.2.1.length:Int)),(49,.j c25)],hp⟩ (fun e s=>e=(.exit 2)/\∃ s2,(∃ (h':Hp),T h' ((own_ (ocL 5 66 (ocS 9)) e4 r)::L)/\s2=⟨Fr 73 [(0,.sl 5 (x0.map AA.enc)),(1,.sl 5 (x1.map AA.enc)),(5,.sl 5 (v1.map AA.enc)),(6,.sl 5 (v2.map AA.enc)),(7,e4),(11,.j c17),(39,.j (v3.2.length:Int)),(40,.j c17)],h'⟩)/\WkY E0 s s2):=by
 intro f;induction f with
 | zero=>intro c25 c26 r h; cases h
 | succ f ih0 =>
  intro c25 c26 r h  hp hT;unfold CJ at h;refine G9 ?_
  let p1:Nat×AV:=(49,.j c25)
  let p2:Nat×AV:=(48,.j (v20.2.2.2.1.length:Int))
  let p3:Nat×AV:=(40,.j c17)
  let p4:Nat×AV:=(39,.j (v3.2.length:Int))
  let p5:Nat×AV:=(11,.j c17)
  let p6:Nat×AV:=(6,.sl 5 (v2.map AA.enc))
  let p7:Nat×AV:=(5,.sl 5 (v1.map AA.enc))
  let p8:Nat×AV:=(1,.sl 5 (x1.map AA.enc))
  let p9:Nat×AV:=(0,.sl 5 (x0.map AA.enc))
  refine C3 AB [p9,p8,p7,p6,(7,e4),p5,p4,p3,p2,p1,(50,.b (decide (c25 < (v20.2.2.2.1.length:Int))))] ?_;refine BD ?_;refine Dk (b:=(decide (c25 < (v20.2.2.2.1.length:Int)))) kr (fun hb27=>?_) (fun hb27=>?_)
  ·rw [if_pos hb27] at h
   refine SemY.skip ?_;refine BD ?_;refine Dw ?_;refine C3 AB [p9,p8,p7,p6,(7,e4),p5,(12,.j c25),p4,p3,p2,p1] ?_;refine Ar ?_;refine Bt AB 2 ?_;obtain ⟨v28,hv28,h⟩:=OB h;refine Bb AB 0 rfl (DQ (AC rfl) rfl (Ad (a:=e4) (b:= .j c17) kr kr (RE (bytes:=64) hT kr hv28))) ?_;refine Bb AB 0 rfl (DQ (AC rfl) rfl (OG (a:=eAt e4 c17.toNat) kr (Ns (off:=3) hT (FS hv28).2 kr))) ?_;obtain ⟨e29,hl30,hT31⟩:=Mb (P:=Tryz.prog) (ty:=45) hT (FS hv28).2 kr kr;refine Bb AB 0 rfl (DQ (AC rfl) rfl (Mm (p:=I4 (eAt e4 c17.toNat) 3) kr hl30)) ?_;refine Bt AB 1 ?_;obtain ⟨v32,hv32,h⟩:=OB h;refine Bb AB 0 rfl (DQ (AC rfl) rfl (Ad (a:=e29) (b:= .j c25) kr kr (RE (bytes:=16) hT31 kr hv32))) ?_;obtain ⟨hp33,hs34,hT35⟩:=Qc (P:=Tryz.prog) (ty:=9) (y:= .st [113]) (v':=[113]) hT31 (FS hv32).2 kr kr kr;refine RunL.store AB (y:=eAt e29 c25.toNat) (z:= .st [113]) rfl (AC rfl) kr kr hs34 ?_;refine DR rfl (SemY.fr (l':=[p9,p8,p7,p6,(7,e4),p5,p4,p3,p2,p1]) kr ?_);refine Ar ?_;refine Bt AB 2 ?_;refine DR rfl ?_
   have hT36:=(Of hT35)
   exact Ez WkY.f1 (ih0 (wr .i64 (c25 + 1)) (c26.set c17.toNat (v28.1,v28.2.1,v28.2.2.1,(v28.2.2.2.1.set c25.toNat [113]),v28.2.2.2.2)) _ h  hp33 hT36)
  ·rw [B3 hb27] at h
   refine SemY.exit ?_;have hq:=OI h; subst hq;exact ⟨rfl,_,⟨hp,hT,rfl⟩,WkY.f1⟩
theorem Hz {L:List Asn}(v3:Int×(List AE)) (x0:(List AE)) (x1:(List AE)) (v1:(List AE)) (v2:(List AE)) (e4:AV):∀ (f:Nat) (c17:Int) (c18:(List AE)) (r:(Unit)),CI v3 f c17 c18=some r->∀ (hp:Hp),T hp ((own_ (ocL 5 66 (ocS 9)) e4 c18)::L)->SemYN E0 ⟨none,false⟩ (pc Dz [1,1,1,1,1,0,1,0,0]) f ⟨Fr 73 [(0,.sl 5 (x0.map AA.enc)),(1,.sl 5 (x1.map AA.enc)),(5,.sl 5 (v1.map AA.enc)),(6,.sl 5 (v2.map AA.enc)),(7,e4),(39,.j (v3.2.length:Int)),(40,.j c17)],hp⟩ (fun e s=>e=(.exit 0)/\∃ s2,(∃ (h':Hp),T h' (L)/\s2=⟨Fr 73 [(0,.sl 5 (x0.map AA.enc)),(1,.sl 5 (x1.map AA.enc)),(5,.sl 5 (v1.map AA.enc)),(6,.sl 5 (v2.map AA.enc))],h'⟩)/\WkY E0 s s2):=by
 intro f;induction f with
 | zero=>intro c17 c18 r h; cases h
 | succ f ih0 =>
  intro c17 c18 r h  hp hT;unfold CI at h;refine G9 ?_
  let p1:Nat×AV:=(40,.j c17)
  let p2:Nat×AV:=(39,.j (v3.2.length:Int))
  let p3:Nat×AV:=(6,.sl 5 (v2.map AA.enc))
  let p4:Nat×AV:=(5,.sl 5 (v1.map AA.enc))
  let p5:Nat×AV:=(1,.sl 5 (x1.map AA.enc))
  let p6:Nat×AV:=(0,.sl 5 (x0.map AA.enc))
  refine C3 AB [p6,p5,p4,p3,(7,e4),p2,p1,(41,.b (decide (c17 < (v3.2.length:Int))))] ?_;refine BD ?_;refine Dk (b:=(decide (c17 < (v3.2.length:Int)))) kr (fun hb19=>?_) (fun hb19=>?_)
  ·rw [if_pos hb19] at h
   refine SemY.skip ?_;refine BD ?_;refine Dw ?_;refine C3 AB [p6,p5,p4,p3,(7,e4),(11,.j c17),p2,p1] ?_;refine BD ?_;refine BD ?_;refine Ar ?_;refine Bt AB 2 ?_;obtain ⟨v20,hv20,h⟩:=OB h;refine Bb AB 0 rfl (DQ (AC rfl) rfl (Ad (a:=e4) (b:= .j c17) kr kr (RE (bytes:=64) hT kr hv20))) ?_;refine Bb AB 0 rfl (DQ (AC rfl) rfl (OG (a:=eAt e4 c17.toNat) kr (Ns (off:=3) hT (FS hv20).2 kr))) ?_;obtain ⟨e21,hl22,hT23⟩:=Mb (P:=Tryz.prog) (ty:=45) hT (FS hv20).2 kr kr;refine Bb AB 0 rfl (DQ (AC rfl) rfl (Mm (p:=I4 (eAt e4 c17.toNat) 3) kr hl22)) ?_;refine Bb AB 0 rfl (DQ (AC rfl) rfl (DI (a:=e21) kr (O5 hT23 kr))) ?_;refine Cz AB [p6,p5,p4,p3,(7,e4),(11,.j c17),p2,p1,(48,.j (v20.2.2.2.1.length:Int)),(49,.j 0)] ?_;refine Dw ?_
   have hT38:=(Oe (JR v20 hT23))
   refine SemY.loop (n:=100000) ?_;obtain ⟨r39,hr39,h⟩:=OB h;refine Fv (Ez WkY.f1 (H0 c17 v20 x0 x1 v1 v2 v3 e4 _ 0 c18 _ hr39  hp hT38)) ?_;rintro _ ⟨hp40,hT41,rfl⟩;refine Ar ?_;refine Bt AB 2 ?_;obtain ⟨v42,hv42,h⟩:=OB h;refine Bb AB 0 rfl (DQ (AC rfl) rfl (Ad (a:=e4) (b:= .j c17) kr kr (RE (bytes:=64) hT41 kr hv42))) ?_;refine Bb AB 0 rfl (DQ (AC rfl) rfl (OG (a:=eAt e4 c17.toNat) kr (Ns (off:=1) hT41 (FS hv42).2 kr))) ?_;obtain ⟨hp43,hs44,hT45⟩:=PK (P:=Tryz.prog) (ty:=9) (s:=[113]) hT41 (FS hv42).2 kr;refine RunL.store AB (y:=I4 (eAt e4 c17.toNat) 1) (z:= .st [113]) rfl (AC rfl) kr kr hs44 ?_;refine DR rfl (SemY.fr (l':=[p6,p5,p4,p3,(7,e4),p2,p1]) kr ?_);refine Ar ?_;refine Bt AB 2 ?_;refine DR rfl ?_;exact Ez WkY.f1 (ih0 (wr .i64 (c17 + 1)) (r39.set c17.toNat (v42.1,[113],v42.2.2)) _ h  hp43 hT45)
  ·rw [B3 hb19] at h
   refine SemY.exit ?_;have hq:=OI h; subst hq
   have hT46:=hT.drop
   exact ⟨rfl,_,⟨hp,hT46,rfl⟩,WkY.f1⟩
theorem In {L:List Asn}{hp:Hp}(x0:(List AE)) (x1:(List AE)) (r:Bool) (h:Dd x0 x1=some r) (hT:T hp (L)):SemY E0 ⟨none,false⟩ Dz ⟨Fr 73 (Bo 0 [.sl 5 (x0.map AA.enc),.sl 5 (x1.map AA.enc)]),hp⟩ fun x s'=>(x = .normal\/x = .ret)/\∃ ys,EQ E0.P s'.fr s'.hp Tryz.f19.results.toList=some ys/\(fun v h'=>v = .b r/\T h' (L)) (Ea ys) s'.hp:=by
 unfold Dd at h;refine KQ (KP (s1:=⟨Fr 73 [(0,.sl 5 (x0.map AA.enc)),(1,.sl 5 (x1.map AA.enc))],hp⟩) WkY.f1 ?_);refine C3 AB [(0,.sl 5 (x0.map AA.enc)),(1,.sl 5 (x1.map AA.enc))] ?_;refine BD ?_;refine Ar ?_;refine Bt AB 1 ?_;obtain ⟨v1,hv1,h⟩:=OB h;refine Dg (v:=v1) (caps:=[]) (xs:=[.sl 5 (x0.map AA.enc)]) (u:=(x0,())) rfl rfl Ii rfl (AC rfl) kr kr (Co (Dl (c:=(cdL 5 AA)) (v:=x0)) SeesD.nil) (.inr ⟨by kernel_rfl,EA.de (x0,())⟩) hv1 ?_;refine Bt AB 1 ?_;obtain ⟨v2,hv2,h⟩:=OB h;refine Dg (v:=v2) (caps:=[]) (xs:=[.sl 5 (x1.map AA.enc)]) (u:=(x1,())) rfl rfl Ii rfl (AC rfl) kr kr (Co (Dl (c:=(cdL 5 AA)) (v:=x1)) SeesD.nil) (.inr ⟨by kernel_rfl,EA.de (x1,())⟩) hv2 ?_;refine Cz AB [(0,.sl 5 (x0.map AA.enc)),(1,.sl 5 (x1.map AA.enc)),(5,.sl 5 (v1.map AA.enc)),(6,.sl 5 (v2.map AA.enc))] ?_;refine BD ?_;refine Ar ?_;refine Bt AB 2 ?_;obtain ⟨v3,hv3,h⟩:=OB h;refine NP (E:=E0) (e:=E0) rfl rfl AB rfl rfl (fid:=51) (caps:=[]) (xs:=[.sl 5 (v1.map AA.enc),.sl 5 (v2.map AA.enc)]) (fn:=Tryz.f51) (c:=Dm) (Out:=fun v h'=>∃ (z0:AV),v = .tp [z0,.j v3.1]/\T h' ((own_ (ocL 5 66 (ocS 9)) z0 v3.2)::L)) rfl (AC rfl) kr kr kr kr (by show 2<=56; decide) (IN v1 v2 _ hv3 hT) ?_;rintro xx hp5 ⟨e4,hqhp5,hT6⟩; subst xx;refine Cz AB [(0,.sl 5 (x0.map AA.enc)),(1,.sl 5 (x1.map AA.enc)),(5,.sl 5 (v1.map AA.enc)),(6,.sl 5 (v2.map AA.enc)),(7,e4),(8,.j v3.1)] ?_;refine BD ?_;refine Ar ?_;refine Bt AB 2 ?_;obtain ⟨v7,hv7,h⟩:=OB h;refine Dg (v:=v7) (caps:=[]) (xs:=[.sl 5 (x0.map AA.enc),.sl 5 (x1.map AA.enc)]) (u:=(x0,x1,())) rfl rfl Ky rfl (AC rfl) kr kr (Co (Dl (c:=(cdL 5 AA)) (v:=x0)) (Co (Dl (c:=(cdL 5 AA)) (v:=x1)) SeesD.nil)) (.inr ⟨by kernel_rfl,Fn.de (x0,x1,())⟩) hv7 ?_;refine Cz AB [(0,.sl 5 (x0.map AA.enc)),(1,.sl 5 (x1.map AA.enc)),(5,.sl 5 (v1.map AA.enc)),(6,.sl 5 (v2.map AA.enc)),(7,e4),(8,.j v3.1),(9,.sl 5 (v7.1.map AA.enc)),(10,.j v7.2)] ?_;refine BD ?_;refine BD ?_
 obtain ⟨j9,hj9,h⟩:=OB h;refine K3 (A:=fun s1=>∃ (h':Hp),T h' ((own_ (ocL 5 66 (ocS 9)) e4 v3.2)::L)/\s1=⟨Fr 73 [(0,.sl 5 (x0.map AA.enc)),(1,.sl 5 (x1.map AA.enc)),(5,.sl 5 (v1.map AA.enc)),(6,.sl 5 (v2.map AA.enc)),(7,e4),(37,.b j9)],h'⟩) ?_ ?_
 ·refine I9 (n:=73) AB 4 [(0,.sl 5 (x0.map AA.enc)),(1,.sl 5 (x1.map AA.enc)),(5,.sl 5 (v1.map AA.enc)),(6,.sl 5 (v2.map AA.enc)),(7,e4),(9,.sl 5 (v7.1.map AA.enc)),(32,.b (v3.1 != v7.2))] hp5 kr ?_
  rcases BE (v3.1 != v7.2) with hc57 | hc57
  ·rw [if_pos hc57] at hj9
   rw [hc57];refine Bt AB 5 ?_;have hq:=OI hj9; subst hq;exact DR rfl ⟨_,⟨hp5,hT6,rfl⟩,WkY.f1⟩
  ·rw [B3 hc57] at hj9
   rw [hc57];refine Bt AB 2 ?_;obtain ⟨v8,hv8,hj9⟩:=OB hj9;refine Dg (v:=v8) (caps:=[]) (xs:=[e4,.sl 5 (v7.1.map AA.enc)]) (u:=(v3.2,v7.1,())) rfl rfl G7 rfl kr kr kr (Co (SeeD.own hT6 (i:=0) rfl) (Co (Dl (c:=(cdL 5 AA)) (v:=v7.1)) SeesD.nil)) (.inl kr) hv8 ?_;refine Bt AB 2 ?_;have hq:=OI hj9; subst hq;exact DR rfl ⟨_,⟨hp5,hT6,rfl⟩,WkY.f1⟩
 rintro _ ⟨hp14,hT15,rfl⟩;refine Dk (b:=j9) kr (fun hb16=>?_) (fun hb16=>?_)
 ·rw [if_pos hb16] at h
  refine C3 AB [(4,.b false)] ?_;refine SemY.ret ?_;have hq:=OI h; subst hq;exact ⟨⟨Fr 73 [(4,.b false)],hp14⟩,WkY.f1,.inr rfl,[.b false],kr,⟨rfl,hT15.drop⟩⟩
 ·rw [B3 hb16] at h
  refine SemY.skip ?_;refine BD ?_;refine BD ?_;refine Ar ?_;refine Bt AB 1 ?_;refine Bb AB 0 rfl (DQ (AC rfl) rfl (DI (a:=e4) kr (O5 hT15 kr))) ?_;refine Cz AB [(0,.sl 5 (x0.map AA.enc)),(1,.sl 5 (x1.map AA.enc)),(5,.sl 5 (v1.map AA.enc)),(6,.sl 5 (v2.map AA.enc)),(7,e4),(39,.j (v3.2.length:Int)),(40,.j 0)] ?_;refine Dw ?_;refine SemY.loop (n:=100000) ?_;obtain ⟨r47,hr47,h⟩:=OB h;refine Fv (Ez WkY.f1 (Hz v3 x0 x1 v1 v2 e4 _ 0 v3.2 _ hr47  hp14 hT15)) ?_;rintro _ ⟨hp48,hT49,rfl⟩;refine BD ?_;obtain ⟨v50,hv50,h⟩:=OB h;obtain ⟨j52,hj52,h⟩:=OB h;refine K3 (A:=fun s1=>∃ (h':Hp),T h' (L)/\s1=⟨Fr 73 [(4,.b j52)],h'⟩) ?_ ?_
  ·refine Bt AB 2 ?_
   refine Dg (v:=v50) (caps:=[]) (xs:=[.sl 5 (v1.map AA.enc),.sl 5 (x0.map AA.enc)]) (u:=(v1,x0,())) rfl rfl G7 rfl (AC rfl) kr kr (Co (Dl (c:=(cdL 5 AA)) (v:=v1)) (Co (Dl (c:=(cdL 5 AA)) (v:=x0)) SeesD.nil)) (.inl kr) hv50 ?_;refine I9 (n:=73) AB 1 [(1,.sl 5 (x1.map AA.enc)),(6,.sl 5 (v2.map AA.enc)),(68,.b v50)] hp48 kr ?_;rcases BE v50 with hc56 | hc56
   ·rw [if_pos hc56] at hj52
    rw [hc56];refine Bt AB 2 ?_;obtain ⟨v51,hv51,hj52⟩:=OB hj52;refine Dg (v:=v51) (caps:=[]) (xs:=[.sl 5 (v2.map AA.enc),.sl 5 (x1.map AA.enc)]) (u:=(v2,x1,())) rfl rfl G7 rfl kr kr kr (Co (Dl (c:=(cdL 5 AA)) (v:=v2)) (Co (Dl (c:=(cdL 5 AA)) (v:=x1)) SeesD.nil)) (.inl kr) hv51 ?_;refine Bt AB 2 ?_;have hq:=OI hj52; subst hq;exact DR rfl ⟨_,⟨hp48,hT49,rfl⟩,WkY.f1⟩
   ·rw [B3 hc56] at hj52
    rw [hc56];refine Bt AB 5 ?_;have hq:=OI hj52; subst hq;exact DR rfl ⟨_,⟨hp48,hT49,rfl⟩,WkY.f1⟩
  rintro _ ⟨hp54,hT55,rfl⟩;refine SemY.ret ?_;have hq:=OI h; subst hq;exact ⟨⟨Fr 73 [(4,.b j52)],hp54⟩,WkY.f1,.inr rfl,[.b j52],kr,⟨rfl,hT55⟩⟩
def Gl:Cs ((List AE)×(List AE)×Unit):=(csC (cdL 5 AA) (csC (cdL 5 AA) csN))
def Gs (r:Bool):AV:=cdB.enc r
def Jw:List AV->Option AV:=ER Gl (fun a=>Dd a.1 a.2.1) Gs
theorem J1:XOk 19 Jw:=by
 refine Aq Tryz.func19 (c:=Dz) ?h2 ⟨Tryz.call19⟩ Gl (fun a=>Dd a.1 a.2.1) Gs (fun a=>(by show 2<=73; decide)) ?h3 ?h4
 case h2=>kernel_rfl
 case h3=>intro b; kernel_rfl
 case h4 =>
  intro a b h;refine Sem.mono (NR (In (L:=[]) (hp:=[]) a.1 a.2.1 b h T.nil)) fun e s' hs=>?_
  obtain ⟨h1,ys,h2,h3,-⟩:=hs;exact ⟨h1,ys,h2,h3⟩
/- trestle/trestlelaw03.CourtMerges -/
noncomputable def Et:Code:=CC Tryz.f6
def CB (x0:(List AE)) (x1:(List AE)):Option (Bool) :=
 (Ed x0).bind fun v1 =>
 (if (!v1)=true then GL.bind fun v2 =>
 some v2 else (Ed x1).bind fun v3 =>
 if (!v3)=true then GL.bind fun v4 =>
 some v4 else (Dd x0 x1).bind fun v5 =>
 if v5=true then GL.bind fun v6 =>
 some v6 else some false).bind fun j8 =>
 some j8
def Cb:Cs ((List AE)×(List AE)×Unit):=(csC (cdL 5 AA) (csC (cdL 5 AA) csN))
def DD (r:Bool):AV:=cdB.enc r
theorem Gv (x0:(List AE)) (x1:(List AE)) (r:Bool) (h:CB x0 x1=some r):Sem E0 ⟨none,false⟩ Et ⟨Fr 21 (Bo 0 (Cb.enc (x0,x1,()))),[]⟩ fun e s'=>(e = .normal\/e = .ret)/\∃ xs,EQ E0.P s'.fr s'.hp Tryz.f6.results.toList=some xs/\Ea xs=DD r:=by
 unfold CB at h;refine Bf (CN (s1:=⟨Fr 21 [(0,.sl 5 (x0.map AA.enc)),(1,.sl 5 (x1.map AA.enc))],[]⟩) AK ?_);refine AO AB [(0,.sl 5 (x0.map AA.enc)),(1,.sl 5 (x1.map AA.enc))] [] ?_;refine AF ?_;obtain ⟨v1,hv1,h⟩:=OB h;obtain ⟨j8,hj8,h⟩:=OB h;refine AL (s1:=⟨Fr 21 [(4,.b j8)],[]⟩) ?_ ?_
 ·refine AD (n:=21) AB 1 [(0,.sl 5 (x0.map AA.enc)),(1,.sl 5 (x1.map AA.enc)),(5,.sl 5 (x0.map AA.enc))] [] kr ?_
  refine An (caps:=[]) (xs:=[.sl 5 (x0.map AA.enc)]) (u:=(x0,())) rfl rfl Ji rfl (AC rfl) kr kr (Am (BH (c:=(cdL 5 AA)) (v:=x0)) Bg) (.inl kr) hv1 ?_;refine AD (n:=21) AB 2 [(0,.sl 5 (x0.map AA.enc)),(1,.sl 5 (x1.map AA.enc)),(8,.b (!v1))] [] kr ?_;rcases BE (!v1) with hc9 | hc9
  ·rw [if_pos hc9] at hj8
   rw [hc9];refine AD (n:=21) AB 10 [(18,.b true)] [] kr ?_;obtain ⟨v2,hv2,hj8⟩:=OB hj8;refine An (caps:=[]) (xs:=[]) (u:=(())) rfl rfl GQ rfl kr kr kr Bg (.inl kr) hv2 ?_;refine AD (n:=21) AB 2 [(4,.b v2)] [] kr ?_;have hq:=OI hj8; subst hq;exact AH rfl AK
  ·rw [B3 hc9] at hj8
   rw [hc9];refine AD (n:=21) AB 1 [(0,.sl 5 (x0.map AA.enc)),(1,.sl 5 (x1.map AA.enc)),(8,.b false),(9,.sl 5 (x1.map AA.enc))] [] kr ?_;obtain ⟨v3,hv3,hj8⟩:=OB hj8;refine An (caps:=[]) (xs:=[.sl 5 (x1.map AA.enc)]) (u:=(x1,())) rfl rfl Ji rfl kr kr kr (Am (BH (c:=(cdL 5 AA)) (v:=x1)) Bg) (.inl kr) hv3 ?_;refine AD (n:=21) AB 3 [(0,.sl 5 (x0.map AA.enc)),(1,.sl 5 (x1.map AA.enc)),(13,.b (!v3))] [] kr ?_;rcases BE (!v3) with hc10 | hc10
   ·rw [if_pos hc10] at hj8
    rw [hc10];refine AD (n:=21) AB 5 [(18,.b true)] [] kr ?_;obtain ⟨v4,hv4,hj8⟩:=OB hj8;refine An (caps:=[]) (xs:=[]) (u:=(())) rfl rfl GQ rfl kr kr kr Bg (.inl kr) hv4 ?_;refine AD (n:=21) AB 2 [(4,.b v4)] [] kr ?_;have hq:=OI hj8; subst hq;exact AH rfl AK
   ·rw [B3 hc10] at hj8
    rw [hc10];refine AD (n:=21) AB 2 [(13,.b false),(14,.sl 5 (x0.map AA.enc)),(15,.sl 5 (x1.map AA.enc))] [] kr ?_;obtain ⟨v5,hv5,hj8⟩:=OB hj8;refine An (caps:=[]) (xs:=[.sl 5 (x0.map AA.enc),.sl 5 (x1.map AA.enc)]) (u:=(x0,x1,())) rfl rfl J1 rfl kr kr kr (Am (BH (c:=(cdL 5 AA)) (v:=x0)) (Am (BH (c:=(cdL 5 AA)) (v:=x1)) Bg)) (.inl kr) hv5 ?_;refine AD (n:=21) AB 2 [(18,.b v5)] [] kr ?_;rcases BE v5 with hc11 | hc11
    ·rw [if_pos hc11] at hj8
     rw [hc11];obtain ⟨v6,hv6,hj8⟩:=OB hj8;refine An (caps:=[]) (xs:=[]) (u:=(())) rfl rfl GQ rfl kr kr kr Bg (.inl kr) hv6 ?_;refine AD (n:=21) AB 2 [(4,.b v6)] [] kr ?_;have hq:=OI hj8; subst hq;exact AH rfl AK
    ·rw [B3 hc11] at hj8
     rw [hc11];refine AD (n:=21) AB 3 [(4,.b false)] [] kr ?_;have hq:=OI hj8; subst hq;exact AH rfl AK
 refine Ah ?_;have hq:=OI h; subst hq;exact ⟨⟨Fr 21 [(4,.b j8)],[]⟩,AK,.inr rfl,[.b j8],kr,kr⟩
def Hi:List AV->Option AV:=ER Cb (fun a=>CB a.1 a.2.1) DD
theorem Hj:XOk 6 Hi:=by
 refine Aq Tryz.func6 (c:=Et) ?h2 ⟨Tryz.call6⟩ Cb (fun a=>CB a.1 a.2.1) DD (fun a=>(by show 2<=21; decide)) ?h3 ?h4
 case h2=>kernel_rfl
 case h3=>intro b; kernel_rfl
 case h4=>exact fun a b h=>Gv a.1 a.2.1 b h
theorem Qs {n:Int}(h1 : -9223372036854775808<=n) (h2:n<=9223372036854775807):wr .i64 n=n:=by
 show (if _ then n else _)=n
 rw [if_pos ⟨h1,h2⟩]
theorem Da {α:Type}(pre:List α) (v:α) (r:List α):idx (pre++v::r) (pre.length:Int)=some v:=by
 unfold idx
 rw [if_pos (by omega)]
 simp
theorem EZ {α:Type}(pre:List α) (v:α) (r:List α) (h:(pre++v::r).length<=1000000000):wr .i64 ((pre.length:Int) + 1)=((pre++[v]).length:Int):=by
 simp at h
 rw [Qs (by omega) (by omega)]; simp
theorem Ga {α:Type}(pre:List α) (v:α) (r:List α):decide ((pre.length:Int) < ((pre++v::r).length:Int))=true:=by
 simp; omega
theorem QT {α:Type}(pre:List α):decide ((pre.length:Int) < ((pre++[]).length:Int))=false:=by simp
theorem FX {b n:Nat}(hb:b<=1000) (h:n<=1000000000):EO b n=true:=by
 have h1:n * b<=1000000000 * 1000:=Nat.mul_le_mul h hb
 unfold EO
 rw [Bool.and_eq_true]
 exact ⟨Nat.ble_eq_true_of_le (by omega),Nat.ble_eq_true_of_le (by omega)⟩
/-- A loop over a list: v, its index, the rest. -/
def goU {α ρ:Type}(B:α->Nat->Option ρ->Option ρ) (D:Option ρ):List α->Nat->Option ρ
 | [],_=>D
 | v::r,i=>B v i (goU B D r (i + 1))
theorem RL {α ρ:Type}(xs:List α) (L:Nat->Int->Option ρ) (B:α->Nat->Option ρ->Option ρ) (D:Option ρ)
  (hs:∀ f (pre:List α) v r,xs=pre++v::r->L (f + 1) (pre.length:Int)=B v pre.length (L f (((pre++[v]).length:Nat):Int))) (hd:∀ f,L (f + 1) (xs.length:Int)=D) :
  ∀ (r pre:List α) (f:Nat),xs=pre++r->r.length < f->L f (pre.length:Int)=goU B D r pre.length
 | [],pre,f + 1,hx,_=>by
  rw [show pre.length=xs.length by rw [hx]; simp]
  exact hd f
 | v::r,pre,f + 1,hx,hf=>by
  rw [hs f pre v r hx]
  have:=RL xs L B D hs hd r (pre++[v]) f (by rw [hx]; simp) (by simp at hf; omega)
  rw [this]
  show B v pre.length _=B v pre.length _
  congr 1
  simp
theorem HT {α ρ:Type}(xs:List α) (L:Nat->Int->Option ρ) (B:α->Nat->Option ρ->Option ρ) (D:Option ρ) (f:Nat) (hf:xs.length < f)
  (hs:∀ f (pre:List α) v r,xs=pre++v::r->L (f + 1) (pre.length:Int)=B v pre.length (L f (((pre++[v]).length:Nat):Int))) (hd:∀ f,L (f + 1) (xs.length:Int)=D):L f 0=goU B D xs 0 :=
 RL xs L B D hs hd xs [] f rfl hf
/-- .. as it is printed. -/
theorem SQ {α ρ:Type}(xs:List α) (L:Nat->Int->Option ρ) (B:α->Nat->Option ρ->Option ρ) (D:Option ρ) (f:Nat) (hf:xs.length < f) (hx:xs.length<=1000000)
  (h:∀ f c,L (f + 1) c=if decide (c < (xs.length:Int))=true then (idx xs c).bind fun v=>B v c.toNat (L f (wr .i64 (c + 1))) else D):L f 0=goU B D xs 0 :=
 HT xs L B D f hf (fun f pre v r e=>by
  subst e
  rw [h,if_pos (Ga pre v r),Da,OS,EZ pre v r (by omega),Int.toNat_natCast]) (fun f=>by rw [h,if_neg (by simp)])
/-- The first that meets a test. -/
theorem Nx {α:Type}(P:α->Option Bool) (p:α->Bool):∀ (xs:List α) (i:Nat),(∀ x ∈ xs,P x=some (p x))->∃ r:Unit ⊕ Int,goU (fun v i k=>(P v).bind fun b=>if b=true then some (.inr (i:Int)) else k) (some (.inl ())) xs i=some r/\(match r with | .inl _=>xs.any p=false | .inr n=>xs.any p=true/\0<=n)
 | [],i,_=>⟨.inl (),rfl,rfl⟩
 | x::xs,i,h=>by
  unfold goU
  rw [h x (by simp),OS]
  cases hp:p x with
  | true=>exact ⟨.inr i,by simp,by simp [hp]⟩
  | false =>
   obtain ⟨r,h1,h2⟩:=Nx P p xs (i + 1) fun y hy=>h y (List.mem_cons_of_mem _ hy)
   refine ⟨r,by simpa using h1,?_⟩
   cases r with
   | inl u=>simpa [hp] using h2
   | inr n=>simpa [hp] using h2
/-- slices.IndexFunc and slices.ContainsFunc. -/
theorem K4 {α:Type}(xs:List α) (hx:xs.length<=99999) (P:α->Option Bool) (p:α->Bool) (hP:∀ x ∈ xs,P x=some (p x)) (L:Nat->Int->Option (Unit ⊕ Int))
  (h:∀ f c,L (f + 1) c=if decide (c < (xs.length:Int))=true then (idx xs c).bind fun v=>(P v).bind fun b=>if b=true then some (.inr c) else L f (wr .i64 (c + 1)) else some (.inl ())) :
  ∃ n,((L 100000 0).bind fun r=>match r with | .inl _=>some (-1) | .inr w=>some w)=some n/\decide (n≥0)=xs.any p:=by
 have e:=HT xs L (fun v i k=>(P v).bind fun b=>if b=true then some (.inr (i:Int)) else k) (some (.inl ())) 100000 (by omega) (fun f pre v r e=>by
  subst e
  rw [h,if_pos (Ga pre v r),Da,OS,EZ pre v r (by omega)]) (fun f=>by rw [h,if_neg (by simp)])
 obtain ⟨r,h1,h2⟩:=Nx P p xs 0 hP
 rw [e,h1]
 cases r with
 | inl u=>exact ⟨-1,rfl,by rw [h2]; rfl⟩
 | inr n=>exact ⟨n,rfl,by rw [h2.1]; simpa using h2.2⟩
/-- Two lists side by side. -/
def go2 {α β ρ:Type}(B:α->β->Option ρ->Option ρ) (D:Option ρ):List α->List β->Option ρ
 | v::r,u::q=>B v u (go2 B D r q)
 | _,_=>D
theorem RK {α β ρ:Type}(L:Nat->Int->Option ρ) (B:α->β->Option ρ->Option ρ) (D:Option ρ) (xs:List α) (ys:List β) (hl:xs.length=ys.length) (hx:xs.length<=1000000)
  (h:∀ f c,L (f + 1) c=if decide (c < (xs.length:Int))=true then (idx xs c).bind fun v=>(idx ys c).bind fun u=>B v u (L f (wr .i64 (c + 1))) else D) :
  ∀ (r:List α) (q:List β) (pre:List α) (pre':List β) (f:Nat),xs=pre++r->ys=pre'++q->pre.length=pre'.length->r.length < f->L f (pre.length:Int)=go2 B D r q
 | [],q,pre,pre',f + 1,e1,e2,e3,_=>by
  have:q=[]:=by
   have:xs.length=pre.length:=by rw [e1]; simp
   have h2:ys.length=pre'.length + q.length:=by rw [e2]; simp
   exact List.eq_nil_of_length_eq_zero (by omega)
  subst this
  subst e1
  rw [h,QT]
  rfl
 | v::r,[],pre,pre',f + 1,e1,e2,e3,_=>by
  exfalso
  have h1:xs.length=pre.length + (r.length + 1):=by rw [e1]; simp
  have h2:ys.length=pre'.length:=by rw [e2]; simp
  omega
 | v::r,u::q,pre,pre',f + 1,e1,e2,e3,hf=>by
  have ih:=RK L B D xs ys hl hx h r q (pre++[v]) (pre'++[u]) f (by rw [e1]; simp) (by rw [e2]; simp) (by simp [e3]) (by simp at hf; omega)
  have k1:idx xs (pre.length:Int)=some v:=by rw [e1,Da]
  have k2:idx ys (pre.length:Int)=some u:=by rw [e2,e3,Da]
  have k3:decide ((pre.length:Int) < (xs.length:Int))=true:=by rw [e1]; exact Ga pre v r
  have k4:wr .i64 ((pre.length:Int) + 1)=((pre++[v]).length:Int):=EZ pre v r (by rw [<-e1]; omega)
  rw [h,if_pos k3,k1,OS,k2,OS,k4,ih]
  rfl
theorem Nv {α β:Type}(P:α->β->Option Bool) (p:α->β->Bool):∀ (xs:List α) (ys:List β),(∀ x ∈ xs,∀ y ∈ ys,P x y=some (p x y))->xs.length=ys.length ->
  go2 (fun v u k=>(P v u).bind fun b=>if (!b)=true then some (Sum.inr false) else k) (some (Sum.inl ())) xs ys=some (if (xs.zip ys).all (fun x=>p x.1 x.2) then Sum.inl () else Sum.inr false)
 | [],[],_,_=>rfl
 | x::xs,y::ys,h,hl=>by
  unfold go2
  rw [h x (by simp) y (by simp),OS,Nv P p xs ys (fun a ha b hb=>h a (List.mem_cons_of_mem _ ha) b (List.mem_cons_of_mem _ hb)) (by simpa using hl)]
  rw [List.zip_cons_cons,List.all_cons]
  show (if (!p x y)=true then _ else _)=some (if (p x y&&_)=true then _ else _)
  cases p x y <;> rfl
 | [],_::_,_,hl=>by simp at hl
 | _::_,[],_,hl=>by simp at hl
/-- slices.EqualFunc. -/
theorem NV {α β:Type}(xs:List α) (ys:List β) (hx:xs.length<=99999) (P:α->β->Option Bool) (p:α->β->Bool) (hP:∀ x ∈ xs,∀ y ∈ ys,P x y=some (p x y)) (L:Nat->Int->Option (Unit ⊕ Bool))
  (h:∀ f c,L (f + 1) c=if decide (c < (xs.length:Int))=true then (idx xs c).bind fun v=>(idx ys c).bind fun u=>(P v u).bind fun b=>if (!b)=true then some (.inr false) else L f (wr .i64 (c + 1)) else some (.inl ())) :
  (if ((xs.length:Int)!=(ys.length:Int))=true then some false else (L 100000 0).bind fun r=>match r with | .inl _=>some true | .inr w=>some w)=some (decide (xs.length=ys.length)&&(xs.zip ys).all fun x=>p x.1 x.2):=by
 by_cases hl:xs.length=ys.length
 ·rw [if_neg (by simp [hl])]
  have e:=RK L (fun v u k=>(P v u).bind fun b=>if (!b)=true then some (Sum.inr false) else k) (some (Sum.inl ())) xs ys hl (by omega) h xs ys [] [] 100000 rfl rfl rfl (by omega)
  have e0:L 100000 (([]:List α).length:Int)=L 100000 0:=rfl
  rw [<-e0,e,Nv P p xs ys hP hl]
  cases hq:(xs.zip ys).all (fun x=>p x.1 x.2) <;> simp [hl]
 ·rw [if_pos (by simp; omega)]
  simp [hl]
theorem Ib {α:Type} [DecidableEq α] {p:α->α->Bool}(hp:∀ a b,p a b=decide (a=b)):∀ (xs ys:List α),(decide (xs.length=ys.length)&&(xs.zip ys).all fun x=>p x.1 x.2)=decide (xs=ys)
 | [],[]=>rfl
 | x::xs,y::ys=>by
  have ih:=Ib hp xs ys
  simp only [List.length_cons,Nat.add_right_cancel_iff,List.zip_cons_cons,List.all_cons,List.cons.injEq,hp]
  simp only [hp] at ih
  by_cases h1:x=y
  ·subst h1; simpa using ih
  ·simp [h1]
 | [],_::_=>by simp
 | _::_,[]=>by simp
/-- slices.Equal. -/
theorem SG {α:Type} [DecidableEq α] [BEq α] [LawfulBEq α] (xs ys:List α) (hx:xs.length<=99999) (L:Nat->Int->Option (Unit ⊕ Bool))
  (h:∀ f c,L (f + 1) c=if decide (c < (xs.length:Int))=true then (idx xs c).bind fun v=>(idx ys c).bind fun u=>if (v != u)=true then some (.inr false) else L f (wr .i64 (c + 1)) else some (.inl ())) :
  (if ((xs.length:Int)!=(ys.length:Int))=true then some false else (L 100000 0).bind fun r=>match r with | .inl _=>some true | .inr w=>some w)=some (decide (xs=ys)):=by
 rw [NV xs ys hx (fun v u=>some (v==u)) (fun v u=>v==u) (fun _ _ _ _=>rfl) L (fun f c=>by rw [h]; rfl),Ib (fun a b=>by by_cases h:a=b <;> simp [h])]
def NN (x:AE):Prop:=x.2.1.length<=40/\x.2.2.2.1.length<=20/\∀ s ∈ x.2.2.2.1,s.length<=40
def few (c:List AE):Prop:=c.length<=40/\∀ x ∈ c,NN x
theorem Nr (l:List (List UInt8)) (h:l.length<=99999):AP l=some (l.any fun s=>decide ((s.length:Int) > 40)):=by
 unfold AP Af
 obtain ⟨n,h1,h2⟩:=K4 l h Dh (fun s=>decide ((s.length:Int) > 40)) (fun x _=>rfl) (Al l) (fun f c=>rfl)
 rw [<-h2]
 exact (congrArg (fun o=>o.bind fun v1=>some (decide (v1≥0))) h1)
def P8 (x:AE):Bool:=decide ((x.2.1.length:Int) > 40)||decide ((x.2.2.2.1.length:Int) > 20)||x.2.2.2.1.any fun s=>decide ((s.length:Int) > 40)
theorem SJ (x:AE):Dc x=some (P8 x):=by
 unfold Dc P8
 by_cases h1:(x.2.1.length:Int) > 40
 ·simp [h1]
 ·by_cases h2:(x.2.2.2.1.length:Int) > 20
  ·simp [h2]
  ·rw [Nr _ (by omega)]
   simp [h1,h2]
theorem MX (x:AE):P8 x=false↔NN x:=by
 unfold P8 NN
 simp only [Bool.or_eq_false_iff,decide_eq_false_iff_not,List.any_eq_false,decide_eq_true_eq]
 constructor
 ·rintro ⟨⟨h1,h2⟩,h3⟩
  exact ⟨by omega,by omega,fun s hs=>by have:=h3 s hs; omega⟩
 ·rintro ⟨h1,h2,h3⟩
  exact ⟨⟨by omega,by omega⟩,fun s hs=>by have:=h3 s hs; omega⟩
theorem Pd (c:List AE):∃ b,Ed c=some b/\(b=true↔few c):=by
 unfold Ed
 by_cases h:c.length<=40
 ·rw [if_pos (by simp; omega)]
  have e:AM c=some (c.any P8):=by
   unfold AM AS
   obtain ⟨n,h1,h2⟩:=K4 c (by omega) Dc P8 (fun x _=>SJ x) (Aa c) (fun f c=>rfl)
   rw [<-h2]
   exact (congrArg (fun o=>o.bind fun v1=>some (decide (v1≥0))) h1)
  rw [e]
  refine ⟨!c.any P8,rfl,?_⟩
  simp only [Bool.not_eq_true',List.any_eq_false,few,h,true_and]
  exact ⟨fun q x hx=>(MX x).1 (by simpa using q x hx),fun q x hx=>by simp [(MX x).2 (q x hx)]⟩
 ·rw [if_neg (by simp; omega)]
  exact ⟨false,rfl,by simp [few,h]⟩
/-- Copies. -/
theorem Nk (c:List AE) (h:few c):∀ (r pre:List AE) (f:Nat),c=pre++r->r.length < f->Cg c f pre (pre.length:Int)=some c
 | [],pre,f + 1,e,_=>by
  unfold Cg
  rw [if_neg (by rw [e]; simp),e,List.append_nil]
 | v::r,pre,f + 1,e,hf=>by
  have hv:NN v:=h.2 v (by rw [e]; simp)
  have hl:=h.1
  have hl2:c.length=pre.length + r.length + 1:=by rw [e]; simp; omega
  simp only [List.length_cons] at hf
  obtain ⟨h1,h2,h3⟩:=hv
  unfold Cg
  have hi:idx c (pre.length:Int)=some v:=by rw [e,Da]
  rw [if_pos (by rw [e]; exact Ga pre v r),hi,OS,if_pos (FX (by omega) (by omega)),if_pos (FX (by omega) (by omega)),if_pos (by unfold Gn; simp; omega),if_pos (FX (by omega) (by omega))]
  have hv2:(v.1,v.2.1,v.2.2.1,((v.2.2.2.1++[[115,112,97,114,101]]).take ((v.2.2.2.1.length:Int).toNat)),v.2.2.2.2)=v:=by
   rw [Int.toNat_natCast,List.take_left]
  rw [hv2,show wr .i64 ((pre.length:Int) + 1)=((pre++[v]).length:Int) from EZ pre v r (by rw [<-e]; omega)]
  exact Nk c h r (pre++[v]) f (by rw [e]; simp) (by omega)
theorem Nj (c:List AE) (h:few c):Dy c=some c:=by
 unfold Dy
 have:=Nk c h c [] 100000 rfl (by have:=h.1; omega)
 have e0:Cg c 100000 [] (([]:List AE).length:Int)=Cg c 100000 [] 0:=rfl
 rw [<-e0,this]; rfl
/-- Comparisons. -/
theorem P5 (xs ys:List (List UInt8)) (h:xs.length<=99999):BF xs ys=some (decide (xs=ys)):=by
 unfold BF
 exact SG xs ys h (BZ xs ys) (fun f c=>rfl)
theorem RV (a b:AE) (h:a.2.2.2.1.length<=99999):B7 a b=some (decide (a=b)):=by
 unfold B7
 rw [P5 _ _ h]
 obtain ⟨a1,a2,a3,a4,a5⟩:=a
 obtain ⟨b1,b2,b3,b4,b5⟩:=b
 by_cases h1:a1=b1
 ·by_cases h2:a2=b2
  ·by_cases h3:a3=b3
   ·by_cases h5:a5=b5
    ·simp [h1,h2,h3,h5]
    ·simp [h5]
   ·simp [h3]
  ·simp [h2]
 ·simp [h1]
theorem MD (a b:List AE) (h:few a):Di a b=some (decide (a=b)):=by
 unfold Di AG
 rw [<-Ib (p:=fun x y=>decide (x=y)) (fun _ _=>rfl) a b]
 have:=NV a b (by have:=h.1; omega) B7 (fun x y=>decide (x=y)) (fun x hx y _=>RV x y (by have:=(h.2 x hx).2.1; omega)) (AI a b) (fun f c=>rfl)
 exact (congrArg (fun o=>o.bind fun v1=>some v1) this)
/-- Names. -/
def OZ (c:UInt8):Bool:=decide ((c.toNat:Int) < 97)||decide ((c.toNat:Int) > 122)
def DK (s:List UInt8):Bool:=decide (1<=s.length)&&decide (s.length<=12)&&!s.any OZ
theorem Lz:∀ (s:List UInt8) (i:Nat),goU (fun v _ (k:Option (Unit ⊕ Bool))=>if OZ v=true then some (.inr false) else k) (some (.inl ())) s i=some (if s.any OZ=true then .inr false else .inl ())
 | [],_=>rfl
 | c::s,i=>by
  unfold goU
  rw [Lz s (i + 1),List.any_cons]
  cases OZ c <;> rfl
theorem RO (s:List UInt8) (h:s.length<=99999):C1 s 100000 0=some (if s.any OZ=true then .inr false else .inl ()):=by
 rw [<-Lz s 0]
 refine HT s (C1 s) _ _ 100000 (by omega) (fun f pre v r e=>?_) (fun f=>?_)
 ·conv=>lhs; unfold C1
  rw [e,if_pos (Ga pre v r),Da,OS,OS,EZ pre v r (by rw [<-e]; omega)]
  unfold OZ
  by_cases h:(v.toNat:Int) < 97 <;> simp [h]
 ·conv=>lhs; unfold C1
  rw [if_neg (by simp)]
theorem QH (s:List UInt8) (h:s.length<=99999):Db s 100000 0=some (if s.any OZ=true then .inr false else .inl ()):=by
 rw [<-Lz s 0]
 refine HT s (Db s) _ _ 100000 (by omega) (fun f pre v r e=>?_) (fun f=>?_)
 ·conv=>lhs; unfold Db
  rw [e,if_pos (Ga pre v r),Da,OS,OS,EZ pre v r (by rw [<-e]; omega)]
  unfold OZ
  by_cases h:(v.toNat:Int) < 97 <;> simp [h]
 ·conv=>lhs; unfold Db
  rw [if_neg (by simp)]
theorem N5 (s:List UInt8) (h:s.length<=99999):Dx s=some (DK s):=by
 unfold Dx DK
 rw [RO s h,OS]
 cases hb:s.any OZ
 ·by_cases h1:s.length < 1
  ·have:s.length=0:=by omega
   simp [this]
  ·simp [show (s.length:Int)≥1 by omega,show 1<=s.length by omega]; omega
 ·simp
theorem Ma (s:List UInt8) (h:s.length<=99999):Fd s=some (DK s):=by
 unfold Fd DK
 by_cases h1:s.length < 1
 ·have:s.length=0:=by omega
  simp [this]
 ·by_cases h2:s.length > 12
  ·simp [show ¬ ((s.length:Int) < 1) by omega,show ((s.length:Int) > 12) by omega,show ¬ (s.length<=12) by omega]
  ·rw [QH s h]
   cases hb:s.any OZ
   ·simp [show ¬ ((s.length:Int) < 1) by omega,show ¬ ((s.length:Int) > 12) by omega,show (s.length<=12) by omega,show 1<=s.length by omega]
   ·simp [show ¬ ((s.length:Int) < 1) by omega,show ¬ ((s.length:Int) > 12) by omega]
theorem QS (l:List (List UInt8)) (h:l.length<=99999) (hs:∀ s ∈ l,s.length<=99999):AN l=some (l.any fun s=>!DK s):=by
 unfold AN Ae
 obtain ⟨n,h1,h2⟩:=K4 l h DN (fun s=>!DK s) (fun x hx=>by unfold DN; rw [N5 x (hs x hx)]; rfl) (Ak l) (fun f c=>rfl)
 rw [<-h2]
 exact (congrArg (fun o=>o.bind fun v1=>some (decide (v1≥0))) h1)
def Le (l:List (List UInt8)) (s:List UInt8):Bool:=l.any fun v=>s==v
theorem JB (l:List (List UInt8)) (s:List UInt8) (h:l.length<=99999):At l s=some (Le l s):=by
 unfold At BW
 obtain ⟨n,h1,h2⟩:=K4 l h (fun v=>some (s==v)) (fun v=>s==v) (fun _ _=>rfl) (Ba l s) (fun f c=>rfl)
 unfold Le
 rw [<-h2]
 exact (congrArg (fun o=>o.bind fun v1=>some (decide (v1≥0))) h1)
theorem Ny (s:List UInt8):∀ (l:List (List UInt8)) (i:Nat),goU (fun v _ (k:Option (Unit ⊕ Bool))=>if (v==s)=true then some (.inr true) else k) (some (.inl ())) l i=some (if Le l s=true then .inr true else .inl ())
 | [],_=>rfl
 | c::l,i=>by
  unfold goU
  rw [Ny s l (i + 1)]
  have:Le (c::l) s=((c==s)||Le l s):=by
   unfold Le
   rw [List.any_cons,Bool.beq_comm]
  rw [this]
  cases (c==s) <;> rfl
theorem Pj (l:List (List UInt8)) (s:List UInt8) (h:l.length<=99999):Ee l s=some (Le l s):=by
 unfold Ee
 have e:=SQ l (Ef l s) (fun v _ (k:Option (Unit ⊕ Bool))=>if (v==s)=true then some (.inr true) else k) (some (.inl ())) 100000 (by omega) (by omega) (fun f c=>rfl)
 rw [e,Ny]
 cases Le l s <;> rfl
/-- What is asked of the fields, by a row: names, from, to, last. -/
def fin (L:Nat) (n:Int) (la:Bool) (w:Int×Int×Int×Bool):Option Bool :=
 (if (decide ((L:Int)<=w.1))=true then if (w.1==0)=true then if (decide (n≥w.2.1))=true then if (decide (n<=w.2.2.1))=true then if w.2.2.2=true then some true else some (!la) else some false else some false else if (decide ((L:Int) > 0))=true then if (decide (n≥w.2.1))=true then if (decide (n<=w.2.2.1))=true then if w.2.2.2=true then some true else some (!la) else some false else some false else some false else some false).bind fun j58=>some j58
theorem HQ (L:Nat) (n:Int) (la:Bool) (a lo hi:Int) (last:Bool):fin L n la (a,lo,hi,last)=some ((decide ((L:Int)<=a)&&(a==0||decide ((L:Int) > 0)))&&(decide (n≥lo)&&(decide (n<=hi)&&(last||!la)))):=by
 unfold fin
 dsimp only
 generalize decide ((L:Int)<=a)=b1
 generalize (a==0)=b2
 generalize decide ((L:Int) > 0)=b3
 generalize decide (n≥lo)=b4
 generalize decide (n<=hi)=b5
 cases b1 <;> cases b2 <;> cases b3 <;> cases b4 <;> cases b5 <;> cases last <;> cases la <;> rfl
theorem LG (x:AE):∃ b,BK x=some b/\Aj x=some b:=by
 obtain ⟨k,am,la,nm,n⟩:=x
 by_cases h1:k=1
 ·subst h1
  have hr:Aj (1,am,la,nm,n)=some ((decide (1<=(nm.length:Int))&&decide ((nm.length:Int)<=16))&&((n==0)&&(!la&&(am==[])))):=by
   unfold Aj
   unfold BC
   dsimp only
   generalize decide (1<=(nm.length:Int))=b0
   generalize decide ((nm.length:Int)<=16)=b1
   generalize (n==0)=b2
   generalize (am==[])=b3
   cases b0 <;> cases b1 <;> cases b2 <;> cases la <;> cases b3 <;> rfl
  refine ⟨_,?_,hr⟩
  cases am with
  | cons a am =>
   have hc:BK (1,a::am,la,nm,n)=some false:=rfl
   rw [hc]
   simp
  | nil =>
   have hc:BK (1,[],la,nm,n)=fin nm.length n la (16,0,0,false):=rfl
   rw [hc,HQ]
   congr 1
   rw [Bool.eq_iff_iff]
   generalize nm.length=L
   cases la <;> simp <;> omega
 by_cases h2:k=2
 ·subst h2
  have hr:Aj (2,am,la,nm,n)=some (((nm.length:Int)==0)&&((n==0)&&!la)):=by
   unfold Aj
   unfold BC
   dsimp only
   generalize ((nm.length:Int)==0)=b0
   generalize (n==0)=b1
   cases b0 <;> cases b1 <;> cases la <;> rfl
  refine ⟨_,?_,hr⟩
  have hc:BK (2,am,la,nm,n)=fin nm.length n la (0,0,0,false):=rfl
  rw [hc,HQ]
  congr 1
  rw [Bool.eq_iff_iff]
  generalize nm.length=L
  cases la <;> simp <;> omega
 by_cases h3:k=3
 ·subst h3
  have hr:Aj (3,am,la,nm,n)=some (((nm.length:Int)==0)&&((n==0)&&!la)):=by
   unfold Aj
   unfold BC
   dsimp only
   generalize ((nm.length:Int)==0)=b0
   generalize (n==0)=b1
   cases b0 <;> cases b1 <;> cases la <;> rfl
  refine ⟨_,?_,hr⟩
  have hc:BK (3,am,la,nm,n)=fin nm.length n la (0,0,0,false):=rfl
  rw [hc,HQ]
  congr 1
  rw [Bool.eq_iff_iff]
  generalize nm.length=L
  cases la <;> simp <;> omega
 by_cases h8:k=8
 ·subst h8
  have hr:Aj (8,am,la,nm,n)=some (((nm.length:Int)==0)&&((n==0)&&!la)):=by
   unfold Aj
   unfold BC
   dsimp only
   generalize ((nm.length:Int)==0)=b0
   generalize (n==0)=b1
   cases b0 <;> cases b1 <;> cases la <;> rfl
  refine ⟨_,?_,hr⟩
  have hc:BK (8,am,la,nm,n)=fin nm.length n la (0,0,0,false):=rfl
  rw [hc,HQ]
  congr 1
  rw [Bool.eq_iff_iff]
  generalize nm.length=L
  cases la <;> simp <;> omega
 by_cases h9:k=9
 ·subst h9
  have hr:Aj (9,am,la,nm,n)=some (((nm.length:Int)==0)&&((n==0)&&!la)):=by
   unfold Aj
   unfold BC
   dsimp only
   generalize ((nm.length:Int)==0)=b0
   generalize (n==0)=b1
   cases b0 <;> cases b1 <;> cases la <;> rfl
  refine ⟨_,?_,hr⟩
  have hc:BK (9,am,la,nm,n)=fin nm.length n la (0,0,0,false):=rfl
  rw [hc,HQ]
  congr 1
  rw [Bool.eq_iff_iff]
  generalize nm.length=L
  cases la <;> simp <;> omega
 by_cases h4:k=4
 ·subst h4
  have hr:Aj (4,am,la,nm,n)=some (((nm.length:Int)==0)&&(decide (1<=n)&&decide (n<=2))):=by
   unfold Aj
   unfold BC
   dsimp only
   generalize ((nm.length:Int)==0)=b0
   generalize decide (1<=n)=b1
   generalize decide (n<=2)=b2
   cases b0 <;> cases b1 <;> cases b2 <;> cases la <;> rfl
  refine ⟨_,?_,hr⟩
  have hc:BK (4,am,la,nm,n)=fin nm.length n la (0,1,2,true):=rfl
  rw [hc,HQ]
  congr 1
  rw [Bool.eq_iff_iff]
  generalize nm.length=L
  cases la <;> simp <;> omega
 by_cases h5:k=5
 ·subst h5
  have hr:Aj (5,am,la,nm,n)=some (((nm.length:Int)==0)&&(n==0)):=by
   unfold Aj
   unfold BC
   dsimp only
   generalize ((nm.length:Int)==0)=b0
   generalize (n==0)=b1
   cases b0 <;> cases b1 <;> cases la <;> rfl
  refine ⟨_,?_,hr⟩
  have hc:BK (5,am,la,nm,n)=fin nm.length n la (0,0,0,true):=rfl
  rw [hc,HQ]
  congr 1
  rw [Bool.eq_iff_iff]
  generalize nm.length=L
  cases la <;> simp <;> omega
 by_cases h6:k=6
 ·subst h6
  have hr:Aj (6,am,la,nm,n)=some ((decide (1<=(nm.length:Int))&&decide ((nm.length:Int)<=16))&&(n==0)):=by
   unfold Aj
   unfold BC
   dsimp only
   generalize decide (1<=(nm.length:Int))=b0
   generalize decide ((nm.length:Int)<=16)=b1
   generalize (n==0)=b2
   cases b0 <;> cases b1 <;> cases b2 <;> cases la <;> rfl
  refine ⟨_,?_,hr⟩
  have hc:BK (6,am,la,nm,n)=fin nm.length n la (16,0,0,true):=rfl
  rw [hc,HQ]
  congr 1
  rw [Bool.eq_iff_iff]
  generalize nm.length=L
  cases la <;> simp <;> omega
 by_cases h7:k=7
 ·subst h7
  have hr:Aj (7,am,la,nm,n)=some ((decide (1<=(nm.length:Int))&&decide ((nm.length:Int)<=16))&&(n==0)):=by
   unfold Aj
   unfold BC
   dsimp only
   generalize decide (1<=(nm.length:Int))=b0
   generalize decide ((nm.length:Int)<=16)=b1
   generalize (n==0)=b2
   cases b0 <;> cases b1 <;> cases b2 <;> cases la <;> rfl
  refine ⟨_,?_,hr⟩
  have hc:BK (7,am,la,nm,n)=fin nm.length n la (16,0,0,true):=rfl
  rw [hc,HQ]
  congr 1
  rw [Bool.eq_iff_iff]
  generalize nm.length=L
  cases la <;> simp <;> omega
 by_cases h10:k=10
 ·subst h10
  have hr:Aj (10,am,la,nm,n)=some (((nm.length:Int)==0)&&((decide (0<=n)&&decide (n<=63))&&!la)):=by
   unfold Aj
   unfold BC
   dsimp only
   generalize ((nm.length:Int)==0)=b0
   generalize decide (0<=n)=b1
   generalize decide (n<=63)=b2
   cases b0 <;> cases b1 <;> cases b2 <;> cases la <;> rfl
  refine ⟨_,?_,hr⟩
  have hc:BK (10,am,la,nm,n)=fin nm.length n la (0,0,63,false):=rfl
  rw [hc,HQ]
  congr 1
  rw [Bool.eq_iff_iff]
  generalize nm.length=L
  cases la <;> simp <;> omega
 have e:∀ m:Int,(m=1\/m=2\/m=3\/m=4\/m=5\/m=6\/m=7\/m=8\/m=9\/m=10)->(k==m)=false:=fun m hm=>by
  rw [beq_eq_false_iff_ne]
  rintro rfl
  omega
 refine ⟨false,?_,?_⟩
 ·simp [BK,D1,D2,D3,D4,D5,D6,D7,D8,D9,e]
 ·simp [Aj,EI,EJ,EK,EL,e]
def fm (x:AE):Bool:=(Aj x).getD false
theorem Si (x:AE):BK x=some (fm x):=by
 obtain ⟨b,h1,h2⟩:=LG x
 rw [h1]; unfold fm; rw [h2]; rfl
theorem Sj (x:AE):Aj x=some (fm x):=by
 obtain ⟨b,h1,h2⟩:=LG x
 unfold fm; rw [h2]; rfl
/-- Is a name there twice? -/
def Pc (l:List (List UInt8)):List (List UInt8)->Nat->Bool
 | [],_=>false
 | v::r,i=>Le (l.take i) v||Pc l r (i + 1)
def H4 (before:List AE) (am:List UInt8):Bool:=before.any fun b=>(b.1==1)&&Le b.2.2.2.1 am
def chk (before:List AE) (x:AE):Int :=
 if fm x=false then 30 else
 if ((!(x.2.1==[]))&&!DK x.2.1)=true\/(x.2.2.2.1.any fun s=>!DK s)=true then 4 else
 if Pc x.2.2.2.1 x.2.2.2.1 0=true then 5 else
 if x.2.1=[]\/H4 before x.2.1=true then 0 else 31
theorem Ly (l:List (List UInt8)):∀ (r:List (List UInt8)) (i:Nat),goU (fun v i (k:Option (Unit ⊕ Int))=>if Le (l.take i) v=true then some (.inr 5) else k) (some (.inl ())) r i=some (if Pc l r i=true then .inr 5 else .inl ())
 | [],_=>rfl
 | v::r,i=>by
  unfold goU Pc
  rw [Ly l r (i + 1)]
  cases Le (l.take i) v <;> rfl
theorem SF (b:List AE) (j:AE) (h:j.2.2.2.1.length<=99999):Cm b j 100000 0=some (if Pc j.2.2.2.1 j.2.2.2.1 0=true then .inr 5 else .inl ()):=by
 rw [<-Ly]
 refine HT j.2.2.2.1 (Cm b j) _ _ 100000 (by omega) (fun f pre v r e=>?_) (fun f=>?_)
 ·conv=>lhs; unfold Cm
  have hl:j.2.2.2.1.length=pre.length + r.length + 1:=by rw [e]; simp; omega
  rw [if_pos (by rw [e]; exact Ga pre v r),show idx j.2.2.2.1 (pre.length:Int)=some v by rw [e,Da],OS,if_pos (by unfold Gn; simp; omega),Int.toNat_natCast]
  rw [show ((j.2.2.2.1.take pre.length).drop (0:Int).toNat)=j.2.2.2.1.take pre.length from rfl,JB _ _ (by simp; omega),OS,EZ pre v r (by rw [<-e]; omega)]
 ·conv=>lhs; unfold Cm
  rw [if_neg (by simp)]
theorem PF (b:List AE) (x:AE) (h:b.length<=99999) (hb:∀ y ∈ b,y.2.2.2.1.length<=99999):AJ b x=some (H4 b x.2.1):=by
 unfold AJ AR
 obtain ⟨n,h1,h2⟩:=K4 b h (fun v=>DO v x) (fun y=>(y.1==1)&&Le y.2.2.2.1 x.2.1) (fun y hy=>by
  unfold DO
  rw [JB _ _ (hb y hy)]
  cases (y.1==1) <;> rfl) (AT b x) (fun f c=>rfl)
 unfold H4
 rw [<-h2]
 exact (congrArg (fun o=>o.bind fun v1=>some (decide (v1≥0))) h1)
theorem SC (b:List AE) (x:AE) (hb:few b) (hx:NN x):Do b x=some (chk b x):=by
 have hn:∀ s ∈ x.2.2.2.1,s.length<=99999:=fun s hs=>by have:=hx.2.2 s hs; omega
 unfold Do chk
 rw [Si,OS]
 cases hf:fm x with
 | false=>simp
 | true =>
  rw [if_neg (show ¬ ((!true)=true) by simp),if_neg (show ¬ (true=false) by simp),QS _ (by have:=hx.2.1; omega) hn,N5 _ (by have:=hx.1; omega)]
  have e:((if (!(x.2.1==[]))=true then (some (DK x.2.1)).bind fun v3=>if (!v3)=true then some true else (some (x.2.2.2.1.any fun s=>!DK s)).bind fun v4=>some v4 else (some (x.2.2.2.1.any fun s=>!DK s)).bind fun v5=>some v5):Option Bool)=some (((!(x.2.1==[]))&&!DK x.2.1)||(x.2.2.2.1.any fun s=>!DK s)):=by
   cases (x.2.1==[]) <;> cases DK x.2.1 <;> rfl
  rw [e,OS]
  cases hq:(((!(x.2.1==[]))&&!DK x.2.1)||(x.2.2.2.1.any fun s=>!DK s)) with
  | true=>rw [if_pos rfl,if_pos (by simpa using hq)]
  | false =>
   rw [if_neg (show ¬ (false=true) by simp),if_neg (show ¬ (((!(x.2.1==[]))&&!DK x.2.1)=true\/(x.2.2.2.1.any fun s=>!DK s)=true) by simpa using hq),SF _ _ (by have:=hx.2.1; omega),OS]
   try dsimp only
   cases hd:Pc x.2.2.2.1 x.2.2.2.1 0 with
   | true=>rfl
   | false =>
    rw [if_neg (show ¬ (false=true) by simp)]
    dsimp only
    have hr:=PF b x (by have:=hb.1; omega) (fun y hy=>by have:=(hb.2 y hy).2.1; omega)
    rw [hr]
    by_cases ha:x.2.1=[]
    ·simp [ha]
    ·simp only [ha,false_or]
     cases H4 b x.2.1 <;> simp [ha]
/-- .. of the reference. -/
theorem Ph:∀ (l:List (List UInt8)) (i:Nat),goU (fun v _ (k:Option (Unit ⊕ Int))=>if (!DK v)=true then some (.inr 4) else k) (some (.inl ())) l i=some (if (l.any fun s=>!DK s)=true then .inr 4 else .inl ())
 | [],_=>rfl
 | v::r,i=>by
  unfold goU
  rw [Ph r (i + 1),List.any_cons]
  cases DK v <;> rfl
theorem Pi (am:List UInt8):∀ (l:List AE) (i:Nat),goU (fun (v:AE) _ (k:Option (Unit ⊕ Int))=>if ((v.1==1)&&Le v.2.2.2.1 am)=true then some (.inr 0) else k) (some (.inl ())) l i=some (if H4 l am=true then .inr 0 else .inl ())
 | [],_=>rfl
 | v::r,i=>by
  unfold goU
  have:H4 (v::r) am=(((v.1==1)&&Le v.2.2.2.1 am)||H4 r am):=rfl
  rw [Pi am r (i + 1),this]
  cases ((v.1==1)&&Le v.2.2.2.1 am) <;> rfl
section
variable (c pre r:List AE) (x:AE) (e:c=pre++x::r) (h:few c)
include e h
theorem OK:Bw c (pre.length:Int) 100000 0=some (if (x.2.2.2.1.any fun s=>!DK s)=true then .inr 4 else .inl ()):=by
 have hx:NN x:=h.2 x (by rw [e]; simp)
 have hi:idx c (pre.length:Int)=some x:=by rw [e,Da]
 rw [<-Ph _ 0]
 refine HT x.2.2.2.1 (Bw c (pre.length:Int)) _ _ 100000 (by have:=hx.2.1; omega) (fun f p v q e'=>?_) (fun f=>?_)
 ·conv=>lhs; unfold Bw
  have hv:=hx.2.2 v (by rw [e']; simp)
  rw [hi,OS,if_pos (by rw [e']; exact Ga p v q),OS,show idx x.2.2.2.1 (p.length:Int)=some v by rw [e',Da],OS,Ma v (by omega),OS,EZ p v q (by have:=hx.2.1; rw [<-e']; omega)]
 ·conv=>lhs; unfold Bw
  rw [hi,OS,if_neg (by simp)]
theorem QV:Bx c (pre.length:Int) 100000 0=some (if Pc x.2.2.2.1 x.2.2.2.1 0=true then .inr 5 else .inl ()):=by
 have hx:NN x:=h.2 x (by rw [e]; simp)
 have hi:idx c (pre.length:Int)=some x:=by rw [e,Da]
 rw [<-Ly]
 refine HT x.2.2.2.1 (Bx c (pre.length:Int)) _ _ 100000 (by have:=hx.2.1; omega) (fun f p v q e'=>?_) (fun f=>?_)
 ·conv=>lhs; unfold Bx
  have hl:x.2.2.2.1.length=p.length + q.length + 1:=by rw [e']; simp; omega
  have:=hx.2.1
  rw [hi,OS,if_pos (by rw [e']; exact Ga p v q),OS,if_pos (by unfold Gn; simp; omega),OS,show idx x.2.2.2.1 (p.length:Int)=some v by rw [e',Da],OS,Int.toNat_natCast,
   show ((x.2.2.2.1.take p.length).drop (0:Int).toNat)=x.2.2.2.1.take p.length from rfl,Pj _ _ (by simp; omega),OS,EZ p v q (by rw [<-e']; omega)]
 ·conv=>lhs; unfold Bx
  rw [hi,OS,if_neg (by simp)]
theorem NH:By c (pre.length:Int) 100000 0=some (if H4 pre x.2.1=true then .inr 0 else .inl ()):=by
 have hi:idx c (pre.length:Int)=some x:=by rw [e,Da]
 have hl:c.length=pre.length + r.length + 1:=by rw [e]; simp; omega
 have hc:=h.1
 rw [<-Pi _ _ 0]
 refine HT pre (By c (pre.length:Int)) _ _ 100000 (by omega) (fun f p v q e'=>?_) (fun f=>?_)
 ·conv=>lhs; unfold By
  have hv:NN v:=h.2 v (by rw [e,e']; simp)
  have hl2:pre.length=p.length + q.length + 1:=by rw [e']; simp; omega
  rw [if_pos (by simp; omega),show idx c (p.length:Int)=some v by rw [e,e',List.append_assoc,List.cons_append,Da],OS,hi,OS,OS,Pj _ _ (by have:=hv.2.1; omega),EZ p v q (by rw [<-e']; omega)]
  cases (v.1==1) <;> rfl
 ·conv=>lhs; unfold By
  rw [if_neg (by simp)]
theorem SD:C5 c (pre.length:Int)=some (chk pre x):=by
 have hx:NN x:=h.2 x (by rw [e]; simp)
 have hi:idx c (pre.length:Int)=some x:=by rw [e,Da]
 unfold C5 chk
 rw [hi,OS,Sj,OS,OS,OS,OK c pre r x e h,QV c pre r x e h,NH c pre r x e h,Ma _ (by have:=hx.1; omega)]
 cases hf:fm x with
 | false=>simp
 | true =>
  rw [if_neg (show ¬ ((!true)=true) by simp),if_neg (show ¬ (true=false) by simp)]
  have e2:((if (!(x.2.1==[]))=true then (some (DK x.2.1)).bind fun v6=>some (!v6) else some false):Option Bool)=some ((!(x.2.1==[]))&&!DK x.2.1):=by
   cases (x.2.1==[]) <;> rfl
  rw [e2,OS,OS]
  cases hq:((!(x.2.1==[]))&&!DK x.2.1) <;> cases hn:(x.2.2.2.1.any fun s=>!DK s) <;> cases hd:Pc x.2.2.2.1 x.2.2.2.1 0 <;> cases hr:H4 pre x.2.1 <;> by_cases ha:x.2.1=[] <;> simp [ha]
end
/-- The first error of a text: its place, and which. -/
def Pa (c:List AE):List AE->Nat->Unit ⊕ (Int×Int)
 | [],_=> .inl ()
 | x::r,i=>if chk (c.take i) x≠0 then .inr ((i:Int),chk (c.take i) x) else Pa c r (i + 1)
def Pb (c:List AE):Int×Int:=if c.length > 32 then (0,7) else match Pa c c 0 with
 | .inl _=>(0,0)
 | .inr w=>w
theorem Lx (c:List AE):∀ (r:List AE) (i:Nat),goU (fun x i (k:Option (Unit ⊕ (Int×Int)))=>if (chk (c.take i) x != 0)=true then some (.inr ((i:Int),chk (c.take i) x)) else k) (some (.inl ())) r i=some (Pa c r i)
 | [],_=>rfl
 | x::r,i=>by
  unfold goU Pa
  rw [Lx c r (i + 1)]
  by_cases h:chk (c.take i) x=0 <;> simp [h]
theorem Oz {c:List AE}(h:few c) (n:Nat):few (c.take n):=⟨by have:=h.1; simp; omega,fun x hx=>h.2 x (List.mem_of_mem_take hx)⟩
theorem Nf (c:List AE) (h:few c):Dn c=some (Pb c):=by
 have hl:=h.1
 have e1:Cl c 100000 0=some (Pa c c 0):=by
  rw [<-Lx]
  refine HT c (Cl c) _ _ 100000 (by omega) (fun f pre v r e=>?_) (fun f=>?_)
  ·conv=>lhs; unfold Cl
   have hl2:c.length=pre.length + r.length + 1:=by rw [e]; simp; omega
   rw [if_pos (by rw [e]; exact Ga pre v r),show idx c (pre.length:Int)=some v by rw [e,Da],OS,if_pos (by unfold Gn; simp; omega),Int.toNat_natCast,
    show ((c.take pre.length).drop (0:Int).toNat)=c.take pre.length from rfl,SC _ v (Oz h _) (h.2 v (by rw [e]; simp)),OS,EZ pre v r (by rw [<-e]; omega)]
  ·conv=>lhs; unfold Cl
   rw [if_neg (by simp)]
 unfold Dn Pb
 by_cases h32:c.length > 32
 ·rw [if_pos (by simp; omega),if_pos h32]
 ·rw [if_neg (by simp; omega),if_neg h32,e1,OS]
  cases Pa c c 0 <;> rfl
theorem Ng (c:List AE) (h:few c):De c=some (Pb c):=by
 have hl:=h.1
 have e1:Cn c 100000 0=some (Pa c c 0):=by
  rw [<-Lx]
  refine HT c (Cn c) _ _ 100000 (by omega) (fun f pre v r e=>?_) (fun f=>?_)
  ·conv=>lhs; unfold Cn
   rw [if_pos (by rw [e]; exact Ga pre v r),SD c pre r v e h,OS,EZ pre v r (by rw [<-e]; omega),show c.take pre.length=pre by rw [e]; simp]
  ·conv=>lhs; unfold Cn
   rw [if_neg (by simp)]
 unfold De Pb
 by_cases h32:c.length > 32
 ·rw [if_pos (by simp; omega),if_pos h32]
 ·rw [if_neg (by simp; omega),if_neg h32,e1,OS]
  cases Pa c c 0 <;> rfl
theorem MQ (c d:List AE) (hc:c.length<=1000) (hd:d.length<=1000) (h0:¬ (c=[]/\d=[])):Aw [c,d]=some (c++d):=by
 have hp:0 < c.length + d.length:=by
  rcases c with _ | ⟨x,c⟩
  ·rcases d with _ | ⟨y,d⟩
   ·exact absurd ⟨rfl,rfl⟩ h0
   ·simp
  ·simp; omega
 have w1:wr .i64 ((0:Int) + (c.length:Int))=(c.length:Int):=by rw [Int.zero_add]; exact Qs (by omega) (by omega)
 have w2:wr .i64 ((c.length:Int) + (d.length:Int))=((c.length + d.length:Nat):Int):=by rw [Qs (by omega) (by omega)]; simp
 have e1:AU [c,d] 100000 0 0=some ((c.length + d.length:Nat):Int):=by
  unfold AU
  rw [if_pos (by rfl),show idx [c,d] 0=some c from rfl,OS,w1,if_neg (by simp)]
  unfold AU
  rw [if_pos (by rfl),show idx [c,d] (wr .i64 (0 + 1))=some d from rfl,OS,w2,if_neg (by simp; omega)]
  unfold AU
  rw [if_neg (by show ¬ (false=true); decide)]
 have e2:AW [c,d] 100000 ([]:List AE) 0=some (c++d):=by
  unfold AW
  rw [if_pos (by rfl),show idx [c,d] 0=some c from rfl,OS,if_pos (FX (by omega) (by simp; omega))]
  unfold AW
  rw [if_pos (by rfl),show idx [c,d] (wr .i64 (0 + 1))=some d from rfl,OS,if_pos (FX (by omega) (by simp; omega))]
  unfold AW
  rw [if_neg (by show ¬ (false=true); decide)]; rfl
 unfold Aw
 rw [e1,OS,if_pos (by simp; omega),e2]; rfl
theorem Ou (c d:List AE) (hc:c.length<=1000) (hd:d.length<=1000):KT [c,d]=some (c++d):=by
 rcases c with _ | ⟨x,c⟩
 ·rcases d with _ | ⟨y,d⟩
  ·rfl
  ·exact MQ [] (y::d) hc hd (fun h=>by cases h.2)
 ·exact MQ (x::c) d hc hd (fun h=>by cases h.1)
/-- The copies of the names leave the text as it is. -/
theorem N6 (v10:List AE) (hl:v10.length<=1000) (hf:∀ x ∈ v10,NN x):∀ (r pre:List AE) (f:Nat),v10=pre++r->r.length < f->B6 v10 f (pre.length:Int) v10=some v10
 | [],pre,f + 1,e,_=>by
  unfold B6
  rw [if_neg (by rw [e]; simp),if_pos (by rw [e]; simp)]
 | v::r,pre,f + 1,e,hf'=>by
  have hv:NN v:=hf v (by rw [e]; simp)
  simp only [List.length_cons] at hf'
  have hl2:v10.length=pre.length + r.length + 1:=by rw [e]; simp; omega
  have hi:idx v10 (pre.length:Int)=some v:=by rw [e,Da]
  have hw:wr .i64 ((pre.length:Int) + 1)=((pre++[v]).length:Int):=EZ pre v r (by rw [<-e]; omega)
  have hset:v10.set pre.length (v.1,v.2.1,v.2.2.1,v.2.2.2.1,v.2.2.2.2)=v10:=by
   rw [e]
   show (pre++v::r).set pre.length v=_
   simp
  unfold B6
  rw [if_pos (by rw [e]; exact Ga pre v r),hi,OS,if_pos (FX (by omega) (by have:=hv.2.1; omega)),OS,hw,if_pos (by simp),Int.toNat_natCast,hset]
  exact N6 v10 hl hf r (pre++[v]) f (by rw [e]; simp) (by omega)
theorem Q4 (c d:List AE) (hc:few c) (hd:few d):∃ r e,D0 c d=some (e,r)/\Dt c d=some (r,e)/\few r:=by
 have lc:=hc.1
 have ld:=hd.1
 have fnil:few ([]:List AE):=⟨Nat.zero_le _,fun x hx=>by cases hx⟩
 unfold D0 Dt CQ
 rw [if_pos (by rfl),show idx ([c,d]:List (List AE)) 0=some c from rfl,OS,Nf c hc,Ng c hc,OS,OS]
 by_cases k1:(Pb c).2=0
 ·rw [k1,if_neg (show ¬ ((0:Int)!=0)=true by decide),if_neg (show ¬ ((0:Int)!=0)=true by decide)]
  unfold CQ
  rw [if_pos (by rfl),show idx ([c,d]:List (List AE)) (wr .i64 (0 + 1))=some d from rfl,OS,Nf d hd,Ng d hd,OS,OS]
  by_cases k2:(Pb d).2=0
  ·rw [k2,if_neg (show ¬ ((0:Int)!=0)=true by decide),if_neg (show ¬ ((0:Int)!=0)=true by decide)]
   unfold CQ
   rw [if_neg (by show ¬ (false=true); decide),OS]
   simp only []
   have w:wr .i64 ((c.length:Int) + (d.length:Int))=((c.length + d.length:Nat):Int):=by rw [Qs (by omega) (by omega)]; simp
   rw [w]
   by_cases k3:32 < c.length + d.length
   ·rw [if_pos (by rw [decide_eq_true_eq]; omega),if_pos (by rw [decide_eq_true_eq]; omega)]
    exact ⟨[],7,rfl,rfl,fnil⟩
   ·have hl:(c++d).length<=1000:=by simp; omega
    have hm:∀ x ∈ c++d,NN x:=fun x hx=>(List.mem_append.1 hx).elim (hc.2 x) (hd.2 x)
    have hn:B6 (c++d) 100000 0 (c++d)=some (c++d):=N6 (c++d) hl hm (c++d) [] 100000 rfl (by simp; omega)
    rw [if_neg (by rw [decide_eq_true_eq]; omega),if_neg (by rw [decide_eq_true_eq]; omega),Ou c d (by omega) (by omega),OS,hn,if_pos (FX (by omega) (by simp; omega)),if_pos (FX (by omega) (by simp; omega))]
    exact ⟨c++d,0,rfl,rfl,by simp; omega,hm⟩
  ·have k2':((Pb d).2 != 0)=true:=by simpa using k2
   rw [if_pos k2',if_pos k2']
   exact ⟨[],_,rfl,rfl,fnil⟩
 ·have k1':((Pb c).2 != 0)=true:=by simpa using k1
  rw [if_pos k1',if_pos k1']
  exact ⟨[],_,rfl,rfl,fnil⟩
theorem O2 {α:Type}(xs:List α) (i:Nat):idx xs (i:Int)=xs[i]?:=by
 unfold idx
 rw [if_pos (by omega),Int.toNat_natCast]
/-- A slice of clauses that is written: as long as before, the lists of names not long. -/
def okM (N:Nat) (w:List AE):Prop:=w.length=N/\∀ x ∈ w,x.2.2.2.1.length<=20
theorem OC {N i:Nat}{w:List AE}{y:AE}(h:okM N w) (hy:y.2.2.2.1.length<=20):okM N (w.set i y) :=
 ⟨by rw [List.length_set]; exact h.1,fun x hx=>(List.mem_or_eq_of_mem_set hx).elim (h.2 x) (fun e=>e ▸ hy)⟩
theorem Mf {N i:Nat}(hi:i < N) (v20:AE) (h20:v20.2.2.2.1.length<=20):∀ (m k f:Nat) (w:List AE),k + m=v20.2.2.2.1.length->m < f->okM N w->(∃ v,w[i]? = some v/\v.2.2.2.1.length=v20.2.2.2.1.length)->∃ w',CJ (i:Int) v20 f (k:Int) w=some w'/\okM N w'
 | 0,k,f + 1,w,hk,_,hw,_=>by
  refine ⟨w,?_,hw⟩
  unfold CJ
  rw [if_neg (by rw [decide_eq_true_eq]; omega)]
 | m + 1,k,f + 1,w,hk,hf,hw,⟨v,hv,hvl⟩=>by
  have hk2:k < v.2.2.2.1.length:=by omega
  have hset:okM N (w.set i (v.1,v.2.1,v.2.2.1,v.2.2.2.1.set k [113],v.2.2.2.2)):=OC hw (by rw [List.length_set]; omega)
  obtain ⟨w',q1,q2⟩:=Mf hi v20 h20 m (k + 1) f (w.set i (v.1,v.2.1,v.2.2.1,v.2.2.2.1.set k [113],v.2.2.2.2)) (by omega) (by omega) hset ⟨_,by rw [List.getElem?_set_self (by have:=hw.1; omega)],by rw [List.length_set]; exact hvl⟩
  refine ⟨w',?_,q2⟩
  unfold CJ
  rw [if_pos (by rw [decide_eq_true_eq]; omega),O2,hv,OS,O2,List.getElem?_eq_getElem hk2,OS,Int.toNat_natCast,Int.toNat_natCast,Qs (by omega) (by omega)]
  exact q1
theorem Me (v3:Int×List AE) (h3:v3.2.length<=40):∀ (m i f:Nat) (w:List AE),i + m=v3.2.length->m < f->okM v3.2.length w->CI v3 f (i:Int) w=some ()
 | 0,i,f + 1,w,hk,_,hw=>by
  unfold CI
  rw [if_neg (by rw [decide_eq_true_eq]; omega)]
 | m + 1,i,f + 1,w,hk,hf,hw=>by
  have hi:i < v3.2.length:=by omega
  have hiw:i < w.length:=by rw [hw.1]; exact hi
  have hm:=hw.2 w[i] (List.getElem_mem hiw)
  obtain ⟨w',q1,q2⟩:=Mf hi w[i] hm w[i].2.2.2.1.length 0 100000 w (by omega) (by omega) hw ⟨_,List.getElem?_eq_getElem hiw,rfl⟩
  have q1':CJ (i:Int) w[i] 100000 0 w=some w':=q1
  have hiw':i < w'.length:=by rw [q2.1]; exact hi
  unfold CI
  rw [if_pos (by rw [decide_eq_true_eq]; omega),O2,List.getElem?_eq_getElem hiw,OS,q1',OS,O2,List.getElem?_eq_getElem hiw',OS,Int.toNat_natCast,Qs (by omega) (by omega)]
  exact Me v3 h3 m (i + 1) f _ (by omega) (by omega) (OC q2 (q2.2 w'[i] (List.getElem_mem hiw')))
theorem NC (c d:List AE) (hc:few c) (hd:few d):Dd c d=some true:=by
 obtain ⟨r,e,q1,q2,q3⟩:=Q4 c d hc hd
 have hL:CI (e,r) 100000 0 r=some ():=Me (e,r) q3.1 r.length 0 100000 r (by simp) (by have:=q3.1; omega) ⟨rfl,fun x hx=>(q3.2 x hx).2.1⟩
 unfold Dd
 rw [Nj c hc,OS,Nj d hd,OS,q1,OS,q2,OS]
 simp only [bne_self_eq_false,Bool.false_eq_true,if_false,MD r r q3,MD c c hc,MD d d hd,OS,decide_true,Bool.not_true,hL,if_true]
theorem ND (c d:List AE):CB c d=some true:=by
 obtain ⟨b1,f1,g1⟩:=Pd c
 obtain ⟨b2,f2,g2⟩:=Pd d
 unfold CB
 rw [f1,OS,f2]
 cases b1
 ·rfl
 ·cases b2
  ·rfl
  ·rw [NC c d (g1.1 rfl) (g2.1 rfl)]
   rfl
end Go.Proofs.YtdjhmdbpcfnpgaaGreatDoor
