/- Lemmas for the proof. -/
import Derived.Test.YtlalcoehgkmhlaaGreatDoorCourtGroupsM1
import Derived.Test.YtlalcoehgkmhlaaGreatDoorCourtGroupsM2
import Derived.Test.YtlalcoehgkmhlaaGreatDoorCourtGroupsM3
import Derived.Test.YtlalcoehgkmhlaaGreatDoorCourtGroupsM4
import Derived.RecoverIn
import Derived.Shelf.Strings.Search1
import Derived.Shelf.Strings.Count
set_option maxHeartbeats 4000000
set_option maxRecDepth 100000
namespace Go.Proofs.YtlalcoehgkmhlaaGreatDoor
open Go.RowKit
/- trestle/court.placed$2 -/
noncomputable def Ca:Code:=BS Tryz.f209
def Aj (x0:AR) (x1:AR):Option (Int) :=
 (CR x0.2).bind fun v1 =>
 (if (!v1)=true then some true else (CR x1.2).bind fun v2 =>
 some (!v2)).bind fun j4 =>
 if j4=true then
 some 0
 else
 (Er x0.2).bind fun v6 =>
 (Er x1.2).bind fun v7 =>
 (B3 v6 v7).bind fun v8 =>
 some v8
def Bj:Cs (AR×AR×Unit×Unit×Unit):=(csC AE (csC AE (csC (cdP (cdF 208 csN (fun _=>rfl))) (csC (cdP (cdF 191 csN (fun _=>rfl))) csN))))
def Bp (r:Int):AV:=cdI.enc r
theorem Dz (x0:AR) (x1:AR) (r:Int) (h:Aj x0 x1=some r):Sem E0 ⟨none,false⟩ Ca ⟨Fr 28 (BG 0 (Bj.enc (x0,x1,(),(),()))),[]⟩ fun e s'=>(e = .normal\/e = .ret)/\∃ xs,Ef E0.P s'.fr s'.hp Tryz.f209.results.toList=some xs/\Eh xs=Bp r:=by
 unfold Aj at h;refine A7 (Bt (s1:=⟨Fr 28 [(0,AE.enc x0),(1,AE.enc x1),(2,.pe (.fn 208 [] []) 0),(3,.pe (.fn 191 [] []) 0)],[]⟩) AL ?_);refine AK AC [(2,.pe (.fn 208 [] []) 0),(3,.pe (.fn 191 [] []) 0),(4,.pt 0 0 0),(5,.pt 1 0 0)] [some ⟨10,115,[AE.enc x0],false⟩,some ⟨10,115,[AE.enc x1],false⟩] ?_;refine AH ?_;refine AH ?_;obtain ⟨v1,hv1,h⟩:=OB h;obtain ⟨j4,hj4,h⟩:=OB h;refine AI (s1:=⟨Fr 28 [(3,.pe (.fn 191 [] []) 0),(4,.pt 0 0 0),(5,.pt 1 0 0),(18,.v (.bool j4))],[some ⟨10,115,[AE.enc x0],false⟩,some ⟨10,115,[AE.enc x1],false⟩]⟩) ?_ ?_
 ·refine AD (n:=28) AC 3 [(2,.pe (.fn 208 [] []) 0),(3,.pe (.fn 191 [] []) 0),(4,.pt 0 0 0),(5,.pt 1 0 0),(7,.fn 208 [] []),(9,.v (.int .i64 x0.2))] [some ⟨10,115,[AE.enc x0],false⟩,some ⟨10,115,[AE.enc x1],false⟩] kr ?_
  refine AW (caps:=[]) (xs:=[.v (.int .i64 x0.2)]) (u:=(x0.2,())) rfl rfl Fm rfl (AB rfl) kr kr (AN (AZ (c:=cdI) (v:=x0.2)) BA) (.inl kr) hv1 ?_;refine AD (n:=28) AC 2 [(2,.pe (.fn 208 [] []) 0),(3,.pe (.fn 191 [] []) 0),(4,.pt 0 0 0),(5,.pt 1 0 0),(12,.v (.bool (!v1)))] [some ⟨10,115,[AE.enc x0],false⟩,some ⟨10,115,[AE.enc x1],false⟩] kr ?_;rcases BE (!v1) with hc9 | hc9
  ·rw [if_pos hc9] at hj4
   rw [hc9];refine AD (n:=28) AC 6 [(3,.pe (.fn 191 [] []) 0),(4,.pt 0 0 0),(5,.pt 1 0 0),(18,.v (.bool true))] [some ⟨10,115,[AE.enc x0],false⟩,some ⟨10,115,[AE.enc x1],false⟩] kr ?_;have hq:=OI hj4; subst hq;exact AJ rfl (An [0,1] ⟨⟨_,rfl,Cm⟩,⟨_,rfl,Cm⟩,trivial⟩ ⟨lv,lv,lv,lv,trivial⟩)
  ·rw [CT hc9] at hj4
   rw [hc9];refine AD (n:=28) AC 3 [(3,.pe (.fn 191 [] []) 0),(4,.pt 0 0 0),(5,.pt 1 0 0),(12,.v (.bool false)),(13,.fn 208 [] []),(15,.v (.int .i64 x1.2))] [some ⟨10,115,[AE.enc x0],false⟩,some ⟨10,115,[AE.enc x1],false⟩] kr ?_;obtain ⟨v2,hv2,hj4⟩:=OB hj4;refine AW (caps:=[]) (xs:=[.v (.int .i64 x1.2)]) (u:=(x1.2,())) rfl rfl Fm rfl kr kr kr (AN (AZ (c:=cdI) (v:=x1.2)) BA) (.inl kr) hv2 ?_;refine AD (n:=28) AC 2 [(3,.pe (.fn 191 [] []) 0),(4,.pt 0 0 0),(5,.pt 1 0 0),(18,.v (.bool (!v2)))] [some ⟨10,115,[AE.enc x0],false⟩,some ⟨10,115,[AE.enc x1],false⟩] kr ?_;have hq:=OI hj4; subst hq;exact AJ rfl (An [0,1] ⟨⟨_,rfl,Cm⟩,⟨_,rfl,Cm⟩,trivial⟩ ⟨lv,lv,lv,lv,trivial⟩)
 refine AO (b:=j4) kr (fun hb5=>?_) (fun hb5=>?_)
 ·rw [if_pos hb5] at h
  refine AH ?_;refine AI (s1:=⟨Fr 28 [(6,.v (.int .i64 0))],[]⟩) ?_ ?_
  ·refine AD (n:=28) AC 1 [(6,.v (.int .i64 0))] [some ⟨10,115,[AE.enc x0],false⟩,some ⟨10,115,[AE.enc x1],false⟩] kr ?_
   exact AJ rfl (An [] trivial ⟨lv,trivial⟩)
  refine AQ ?_;have hq:=OI h; subst hq;exact ⟨⟨Fr 28 [(6,.v (.int .i64 0))],[]⟩,AL,.inr rfl,[.v (.int .i64 0)],kr,kr⟩
 ·rw [CT hb5] at h
  refine AS ?_;refine AH ?_;obtain ⟨v6,hv6,h⟩:=OB h;obtain ⟨v7,hv7,h⟩:=OB h;obtain ⟨v8,hv8,h⟩:=OB h;refine ES AC (s1:=⟨Fr 28 [(6,.v (.int .i64 v8))],[]⟩) kr ?_ ?_
  ·refine Ar (n:=28) AC 3 [(3,.pe (.fn 191 [] []) 0),(5,.pt 1 0 0),(19,.fn 191 [] []),(21,.v (.int .i64 x0.2))] [some ⟨10,115,[AE.enc x0],false⟩,some ⟨10,115,[AE.enc x1],false⟩] kr kr ?_
   refine B9 (caps:=[]) (xs:=[.v (.int .i64 x0.2)]) (u:=(x0.2,())) rfl rfl KQ rfl (AB rfl) kr kr (AN (AZ (c:=cdI) (v:=x0.2)) BA) kr hv6 ?_;refine Ar (n:=28) AC 3 [(22,.v (.int .i64 v6)),(23,.fn 191 [] []),(25,.v (.int .i64 x1.2))] [some ⟨10,115,[AE.enc x0],false⟩,some ⟨10,115,[AE.enc x1],false⟩] kr kr ?_;refine B9 (caps:=[]) (xs:=[.v (.int .i64 x1.2)]) (u:=(x1.2,())) rfl rfl KQ rfl (AB rfl) kr kr (AN (AZ (c:=cdI) (v:=x1.2)) BA) kr hv7 ?_;refine B9 (caps:=[]) (xs:=[.v (.int .i64 v6),.v (.int .i64 v7)]) (u:=(v6,v7,())) rfl rfl Eg rfl (AB rfl) kr kr (AN (AZ (c:=cdI) (v:=v6)) (AN (AZ (c:=cdI) (v:=v7)) BA)) kr hv8 ?_;refine Ar (n:=28) AC 1 [(6,.v (.int .i64 v8))] [some ⟨10,115,[AE.enc x0],false⟩,some ⟨10,115,[AE.enc x1],false⟩] kr kr ?_;exact RunDS.done rfl (An [] trivial ⟨lv,trivial⟩)
  refine AQ ?_;have hq:=OI h; subst hq;exact ⟨⟨Fr 28 [(6,.v (.int .i64 v8))],[]⟩,AL,.inr rfl,[.v (.int .i64 v8)],kr,kr⟩
def EF:List AV->Option AV:=Dx Bj (fun a=>Aj a.1 a.2.1) Bp
theorem EJ:XOk 209 EF:=by
 refine AU Tryz.func209 (c:=Ca) ?h2 ⟨Tryz.call209⟩ Bj (fun a=>Aj a.1 a.2.1) Bp (fun a=>(by show 4<=28; decide)) ?h3 ?h4
 case h2=>kernel_rfl
 case h3=>intro b; kernel_rfl
 case h4=>exact fun a b h=>Dz a.1 a.2.1 b h
theorem Wy {f:FuncId}(hc:Bw E0.P f){α β:Type}(s:Cs α) (F:α->Option β) (er:β->AV) (h:∀ a b,F a=some b->∃ t,XOk f t/\t (s.enc a)=some (er b)):XOk f (Dx s F er):=by
 refine ⟨hc,fun xs y hy w Z us hz hg hv=>?_⟩
 obtain ⟨a,ha,hy⟩:=OB hy
 obtain ⟨b,hb,rfl⟩:=Option.map_eq_some_iff.1 hy
 obtain ⟨t,hX,ht⟩:=h a b hb
 exact hX.2 _ _ ht w Z us hz hg (s.vr ha hv)
def Dm (a b:AR) (c:AF):Option Int :=
 if (c.1==1)=true then Bh (fun a b (v:(AF×Unit)×Unit)=>B8 (fun x (v:AF×Unit)=>DI x v.1) a b v.1) a b c ((c,()),()) else
 if (c.1==2)=true then Bh (fun a b (v:AF×Unit)=>Cj a b v.1) a b c (c,()) else
 if (c.1==3)=true then Bh (fun a b (v:AF×Unit)=>Cj a b v.1) a b c (c,()) else
 if (c.1==4)=true then Bh (fun a b (v:(AF×AF×Unit)×Unit)=>B8 (fun x (v:AF×AF×Unit)=>BB x v.1 v.2.1) a b v.1) a b c ((c,c,()),()) else
 if (c.1==5)=true then Bh (fun a b (v:(Unit×AF×Unit)×Unit)=>B8 (fun x (v:Unit×AF×Unit)=>BC x v.2.1) a b v.1) a b c (((),c,()),()) else
 if (c.1==6)=true then Bh (fun a b (v:(AF×AF×Unit)×Unit)=>B8 (fun x (v:AF×AF×Unit)=>A4 x v.1 v.2.1) a b v.1) a b c ((c,c,()),()) else
 if (c.1==7)=true then Bh (fun a b (v:(AF×AF×Unit)×Unit)=>B8 (fun x (v:AF×AF×Unit)=>A5 x v.1 v.2.1) a b v.1) a b c ((c,c,()),()) else
 if (c.1==8)=true then Bh (fun a b (_:Unit)=>D8 a b) a b c () else
 if (c.1==10)=true then Bh (fun a b (v:Unit×AF×Unit)=>Ai a b v.2.1) a b c ((),c,()) else
 Bh (fun a b (_:Unit×Unit×Unit)=>Aj a b) a b c ((),(),())
noncomputable def GN:Cs (AR×AR×AF):=csC AE (csC AE P2)
noncomputable def IY (r:Int):AV:=cdI.enc r
noncomputable def MQ:List AV->Option AV:=Dx GN (fun a=>Dm a.1 a.2.1 a.2.2) IY
theorem Is {α β:Type}{s:Cs α}{F:α->Option β}{er:β->AV}{a:α}{b:β}{xs:List AV}(h:F a=some b) (e:xs=s.enc a):Dx s F er xs=some (er b):=e ▸ NB h
theorem V1 (a b:AR) (c:AF):GN.enc (a,b,c)=[AE.enc a,AE.enc b,.pe (AA.enc c) 0,.pe (LR c) 0]:=rfl
theorem MV:XOk 165 MQ:=by
 refine Wy ⟨Tryz.call165⟩ GN (fun a=>Dm a.1 a.2.1 a.2.2) IY fun x r h=>?_
 obtain ⟨a,b,c⟩:=x
 rw [V1]
 dsimp only at h
 unfold Dm at h
 unfold LR
 rcases BE (c.1==1) with h1 | h1
 ·rw [if_pos h1] at h; rw [if_pos h1]
  exact ⟨_,CB (sx:=csC (cdP (cdF 178 (csC (cdP AA) csN) (fun _=>rfl))) csN) (hn:=fun _=>rfl) (G:=fun a b (v:(AF×Unit)×Unit)=>B8 (fun x (v:AF×Unit)=>DI x v.1) a b v.1) (HH (sx:=csC (cdP AA) csN) (hn:=fun _=>rfl) (G:=fun x (v:AF×Unit)=>DI x v.1) OA),Is (a:=(a,b,c,((c,()),()),())) h rfl⟩
 rw [if_neg (by rw [h1]; decide)] at h; rw [if_neg (by rw [h1]; decide)]
 rcases BE (c.1==2) with h1 | h1
 ·rw [if_pos h1] at h; rw [if_pos h1]
  exact ⟨_,CB (sx:=csC (cdP AA) csN) (hn:=fun _=>rfl) (G:=fun a b (v:AF×Unit)=>Cj a b v.1) KO,Is (a:=(a,b,c,(c,()),())) h rfl⟩
 rw [if_neg (by rw [h1]; decide)] at h; rw [if_neg (by rw [h1]; decide)]
 rcases BE (c.1==3) with h1 | h1
 ·rw [if_pos h1] at h; rw [if_pos h1]
  exact ⟨_,CB (sx:=csC (cdP AA) csN) (hn:=fun _=>rfl) (G:=fun a b (v:AF×Unit)=>Cj a b v.1) KO,Is (a:=(a,b,c,(c,()),())) h rfl⟩
 rw [if_neg (by rw [h1]; decide)] at h; rw [if_neg (by rw [h1]; decide)]
 rcases BE (c.1==4) with h1 | h1
 ·rw [if_pos h1] at h; rw [if_pos h1]
  exact ⟨_,CB (sx:=csC (cdP (cdF 206 (csC (cdP (cdF 182 (csE (cdP AA)) (fun _=>rfl))) (csC (cdP AA) csN)) (fun _=>rfl))) csN) (hn:=fun _=>rfl) (G:=fun a b (v:(AF×AF×Unit)×Unit)=>B8 (fun x (v:AF×AF×Unit)=>BB x v.1 v.2.1) a b v.1) (HH (sx:=csC (cdP (cdF 182 (csE (cdP AA)) (fun _=>rfl))) (csC (cdP AA) csN)) (hn:=fun _=>rfl) (G:=fun x (v:AF×AF×Unit)=>BB x v.1 v.2.1) HI),Is (a:=(a,b,c,((c,c,()),()),())) h rfl⟩
 rw [if_neg (by rw [h1]; decide)] at h; rw [if_neg (by rw [h1]; decide)]
 rcases BE (c.1==5) with h1 | h1
 ·rw [if_pos h1] at h; rw [if_pos h1]
  exact ⟨_,CB (sx:=csC (cdP (cdF 206 (csC (cdP (cdF 183 csN (fun _=>rfl))) (csC (cdP AA) csN)) (fun _=>rfl))) csN) (hn:=fun _=>rfl) (G:=fun a b (v:(Unit×AF×Unit)×Unit)=>B8 (fun x (v:Unit×AF×Unit)=>BC x v.2.1) a b v.1) (HH (sx:=csC (cdP (cdF 183 csN (fun _=>rfl))) (csC (cdP AA) csN)) (hn:=fun _=>rfl) (G:=fun x (v:Unit×AF×Unit)=>BC x v.2.1) HJ),Is (a:=(a,b,c,(((),c,()),()),())) h rfl⟩
 rw [if_neg (by rw [h1]; decide)] at h; rw [if_neg (by rw [h1]; decide)]
 rcases BE (c.1==6) with h1 | h1
 ·rw [if_pos h1] at h; rw [if_pos h1]
  exact ⟨_,CB (sx:=csC (cdP (cdF 206 (csC (cdP (cdF 184 (csE (cdP AA)) (fun _=>rfl))) (csC (cdP AA) csN)) (fun _=>rfl))) csN) (hn:=fun _=>rfl) (G:=fun a b (v:(AF×AF×Unit)×Unit)=>B8 (fun x (v:AF×AF×Unit)=>A4 x v.1 v.2.1) a b v.1) (HH (sx:=csC (cdP (cdF 184 (csE (cdP AA)) (fun _=>rfl))) (csC (cdP AA) csN)) (hn:=fun _=>rfl) (G:=fun x (v:AF×AF×Unit)=>A4 x v.1 v.2.1) HK),Is (a:=(a,b,c,((c,c,()),()),())) h rfl⟩
 rw [if_neg (by rw [h1]; decide)] at h; rw [if_neg (by rw [h1]; decide)]
 rcases BE (c.1==7) with h1 | h1
 ·rw [if_pos h1] at h; rw [if_pos h1]
  exact ⟨_,CB (sx:=csC (cdP (cdF 206 (csC (cdP (cdF 186 (csE (cdP AA)) (fun _=>rfl))) (csC (cdP AA) csN)) (fun _=>rfl))) csN) (hn:=fun _=>rfl) (G:=fun a b (v:(AF×AF×Unit)×Unit)=>B8 (fun x (v:AF×AF×Unit)=>A5 x v.1 v.2.1) a b v.1) (HH (sx:=csC (cdP (cdF 186 (csE (cdP AA)) (fun _=>rfl))) (csC (cdP AA) csN)) (hn:=fun _=>rfl) (G:=fun x (v:AF×AF×Unit)=>A5 x v.1 v.2.1) HL),Is (a:=(a,b,c,((c,c,()),()),())) h rfl⟩
 rw [if_neg (by rw [h1]; decide)] at h; rw [if_neg (by rw [h1]; decide)]
 rcases BE (c.1==8) with h1 | h1
 ·rw [if_pos h1] at h; rw [if_pos h1]
  exact ⟨_,CB (sx:=csN) (hn:=fun _=>rfl) (G:=fun a b (_:Unit)=>D8 a b) OG,Is (a:=(a,b,c,(),())) h rfl⟩
 rw [if_neg (by rw [h1]; decide)] at h; rw [if_neg (by rw [h1]; decide)]
 rcases BE (c.1==10) with h1 | h1
 ·rw [if_pos h1] at h; rw [if_pos h1]
  exact ⟨_,CB (sx:=csC (cdP (cdF 208 csN (fun _=>rfl))) (csC (cdP (cdF 190 (csE (cdP AA)) (fun _=>rfl))) csN)) (hn:=fun _=>rfl) (G:=fun a b (v:Unit×AF×Unit)=>Ai a b v.2.1) EI,Is (a:=(a,b,c,((),c,()),())) h rfl⟩
 rw [if_neg (by rw [h1]; decide)] at h; rw [if_neg (by rw [h1]; decide)]
 exact ⟨_,CB (sx:=csC (cdP (cdF 208 csN (fun _=>rfl))) (csC (cdP (cdF 191 csN (fun _=>rfl))) csN)) (hn:=fun _=>rfl) (G:=fun a b (_:Unit×Unit×Unit)=>Aj a b) EJ,Is (a:=(a,b,c,((),(),()),())) h rfl⟩
/- trestle/court.first[trestle/court.seated,trestle/court.order] -/
noncomputable def CG:Code:=BS Tryz.f76
def Ab (x0:(List AF)):Nat->(List UInt8)->(List UInt8)->(List UInt8)->Int->Int->(List UInt8)->Bool->Bool->(List (List UInt8))->Int->(List UInt8)->(List UInt8)->(List UInt8)->Int->Int->(List UInt8)->Bool->Bool->(List (List UInt8))->Int->Int->Option ((Unit) ⊕ (Int×Int))
 | 0,_,_,_,_,_,_,_,_,_,_,_,_,_,_,_,_,_,_,_,_,_=>none
 | f + 1,c1,c2,c3,c4,c5,c6,c7,c8,c9,c10,c11,c12,c13,c14,c15,c16,c17,c18,c19,c20,c21 =>
  if (decide (c21 < (x0.length:Int)))=true then
  (idx x0 c21).bind fun v23 =>
  (Dm ((c1,c2,c3,c4,c5,c6,c7,c8,c9),c10) ((c11,c12,c13,c14,c15,c16,c17,c18,c19),c20) v23).bind fun v24 =>
  if (v24 != 0)=true then
  some (.inr (c21,v24))
  else
  Ab x0 f c1 c2 c3 c4 c5 c6 c7 c8 c9 c10 c11 c12 c13 c14 c15 c16 c17 c18 c19 c20 (wr .i64 (c21 + 1))
  else
  some (.inl ())
def Am (x0:(List AF)) (x1:AR) (x2:AR):Option (Int×Int) :=
 (Ab x0 100000 x1.1.1 x1.1.2.1 x1.1.2.2.1 x1.1.2.2.2.1 x1.1.2.2.2.2.1 x1.1.2.2.2.2.2.1 x1.1.2.2.2.2.2.2.1 x1.1.2.2.2.2.2.2.2.1 x1.1.2.2.2.2.2.2.2.2 x1.2 x2.1.1 x2.1.2.1 x2.1.2.2.1 x2.1.2.2.2.1 x2.1.2.2.2.2.1 x2.1.2.2.2.2.2.1 x2.1.2.2.2.2.2.2.1 x2.1.2.2.2.2.2.2.2.1 x2.1.2.2.2.2.2.2.2.2 x2.2 0).bind fun r28 =>
 match r28 with
 | (.inl _w29) =>
  some ((-1),0)
 | (.inr w30) =>
  some (w30.1,w30.2)
noncomputable def CL:Cs ((List AF)×AR×AR×Unit):=(csC (cdL 1 Bc) (csC AE (csC AE csN)))
noncomputable def CM (r:Int×Int):AV:= .tp [cdI.enc r.1,cdI.enc r.2]
theorem Cv (x0:(List AF)):∀ (f:Nat) (c1:(List UInt8)) (c2:(List UInt8)) (c3:(List UInt8)) (c4:Int) (c5:Int) (c6:(List UInt8)) (c7:Bool) (c8:Bool) (c9:(List (List UInt8))) (c10:Int) (c11:(List UInt8)) (c12:(List UInt8)) (c13:(List UInt8)) (c14:Int) (c15:Int) (c16:(List UInt8)) (c17:Bool) (c18:Bool) (c19:(List (List UInt8))) (c20:Int) (c21:Int) (r:(Unit) ⊕ (Int×Int)),Ab x0 f c1 c2 c3 c4 c5 c6 c7 c8 c9 c10 c11 c12 c13 c14 c15 c16 c17 c18 c19 c20 c21=some r->SemN E0 ⟨none,false⟩ (pc CG [1,0,1,0,0]) f ⟨Fr 27 [(4,.pt 0 0 0),(5,.pt 1 0 0),(11,.sl 1 (x0.map Bc.enc)),(12,.v (.int .i64 (x0.length:Int))),(13,.v (.int .i64 c21))],[some ⟨10,115,[.ag [.st c1,.st c2,.st c3,.v (.int .i64 c4),.v (.int .i64 c5),.st c6,.v (.bool c7),.v (.bool c8),.sl 1 (c9.map cdS.enc),.v (.int .i64 c10)]],false⟩,some ⟨10,115,[.ag [.st c11,.st c12,.st c13,.v (.int .i64 c14),.v (.int .i64 c15),.st c16,.v (.bool c17),.v (.bool c18),.sl 1 (c19.map cdS.enc),.v (.int .i64 c20)]],false⟩]⟩ (fun e s=>match r with
 | (.inl _w)=>e=(.exit 0)/\Wk E0 s ⟨Fr 27 [],[]⟩
 | (.inr w)=>e = .ret/\Wk E0 s ⟨Fr 27 [(6,.v (.int .i64 w.1)),(7,.v (.int .i64 w.2))],[]⟩):=by
 intro f;induction f with
 | zero=>intro c1 c2 c3 c4 c5 c6 c7 c8 c9 c10 c11 c12 c13 c14 c15 c16 c17 c18 c19 c20 c21 r h; cases h
 | succ f ih0 =>
  intro c1 c2 c3 c4 c5 c6 c7 c8 c9 c10 c11 c12 c13 c14 c15 c16 c17 c18 c19 c20 c21 r h
  have ih:=fun (c1:(List UInt8)) (c2:(List UInt8)) (c3:(List UInt8)) (c4:Int) (c5:Int) (c6:(List UInt8)) (c7:Bool) (c8:Bool) (c9:(List (List UInt8))) (c10:Int) (c11:(List UInt8)) (c12:(List UInt8)) (c13:(List UInt8)) (c14:Int) (c15:Int) (c16:(List UInt8)) (c17:Bool) (c18:Bool) (c19:(List (List UInt8))) (c20:Int) (c21:Int)=>ih0 c1 c2 c3 c4 c5 c6 c7 c8 c9 c10 c11 c12 c13 c14 c15 c16 c17 c18 c19 c20 c21 r
  unfold Ab at h;refine Ch ?_
  let p1:Option Blk:=some ⟨10,115,[.ag [.st c11,.st c12,.st c13,.v (.int .i64 c14),.v (.int .i64 c15),.st c16,.v (.bool c17),.v (.bool c18),.sl 1 (c19.map cdS.enc),.v (.int .i64 c20)]],false⟩
  let p2:Option Blk:=some ⟨10,115,[.ag [.st c1,.st c2,.st c3,.v (.int .i64 c4),.v (.int .i64 c5),.st c6,.v (.bool c7),.v (.bool c8),.sl 1 (c9.map cdS.enc),.v (.int .i64 c10)]],false⟩
  let p3:Nat×AV:=(13,.v (.int .i64 c21))
  let p4:Nat×AV:=(12,.v (.int .i64 (x0.length:Int)))
  let p5:Nat×AV:=(11,.sl 1 (x0.map Bc.enc))
  let p6:Nat×AV:=(5,.pt 1 0 0)
  let p7:Nat×AV:=(4,.pt 0 0 0)
  refine AK AC [p7,p6,p5,p4,p3,(14,.v (.bool (decide (c21 < (x0.length:Int)))))] [p2,p1] ?_;refine AH ?_;refine AO (b:=(decide (c21 < (x0.length:Int)))) kr (fun hb22=>?_) (fun hb22=>?_)
  ·rw [if_pos hb22] at h
   refine AS ?_;refine AH ?_;refine Ay ?_;refine AH ?_;obtain ⟨v23,hv23,h⟩:=OB h
   let p8:Nat×AV:=(8,.v (.int .i64 c21))
   refine AI (s1:=⟨Fr 27 [p7,p6,p8,(9,Bc.enc v23),p5,p4,p3],[p2,p1]⟩) ?_ ?_
   ·refine AD (n:=27) AC 1 [p7,p6,p5,p4,p3,(15,.v (.int .i64 c21))] [p2,p1] kr ?_
    refine AP AC 0 rfl (Dq (AB rfl) rfl (Ac (a:= .sl 1 (x0.map Bc.enc)) (b:= .v (.int .i64 c21)) kr kr (Fa (e:=Bc.enc) (el:=117) (k:=1) (ki:= .i64) kr kr hv23))) ?_;exact AY AC
   refine AH ?_;obtain ⟨v24,hv24,h⟩:=OB h;refine AI (s1:=⟨Fr 27 [p7,p6,p8,(10,.v (.int .i64 v24)),p5,p4,p3],[p2,p1]⟩) ?_ ?_
   ·refine AD (n:=27) AC 3 [p7,p6,p8,p5,p4,p3,(18,Bc.enc v23),(19,.ag [.st c1,.st c2,.st c3,.v (.int .i64 c4),.v (.int .i64 c5),.st c6,.v (.bool c7),.v (.bool c8),.sl 1 (c9.map cdS.enc),.v (.int .i64 c10)]),(20,.ag [.st c11,.st c12,.st c13,.v (.int .i64 c14),.v (.int .i64 c15),.st c16,.v (.bool c17),.v (.bool c18),.sl 1 (c19.map cdS.enc),.v (.int .i64 c20)])] [p2,p1] kr ?_
    refine AW (caps:=[.pe (AA.enc v23) 0,.pe (LR v23) 0]) (xs:=[.ag [.st c1,.st c2,.st c3,.v (.int .i64 c4),.v (.int .i64 c5),.st c6,.v (.bool c7),.v (.bool c8),.sl 1 (c9.map cdS.enc),.v (.int .i64 c10)],.ag [.st c11,.st c12,.st c13,.v (.int .i64 c14),.v (.int .i64 c15),.st c16,.v (.bool c17),.v (.bool c18),.sl 1 (c19.map cdS.enc),.v (.int .i64 c20)]]) (u:=(((c1,c2,c3,c4,c5,c6,c7,c8,c9),c10),((c11,c12,c13,c14,c15,c16,c17,c18,c19),c20),v23)) rfl rfl MV rfl (AB rfl) kr kr (AN (AZ (c:=AE) (v:=((c1,c2,c3,c4,c5,c6,c7,c8,c9),c10))) (AN (AZ (c:=AE) (v:=((c11,c12,c13,c14,c15,c16,c17,c18,c19),c20))) (O8 (n:=10) (s:=P2) (a:=v23)))) (.inl kr) hv24 ?_;exact AY AC
   refine AK AC [p7,p6,p8,(10,.v (.int .i64 v24)),p5,p4,p3,(23,.v (.bool (v24 != 0)))] [p2,p1] ?_;refine AO (b:=(v24 != 0)) kr (fun hb25=>?_) (fun hb25=>?_)
   ·rw [if_pos hb25] at h
    refine AH ?_;refine AI (s1:=⟨Fr 27 [(6,.v (.int .i64 c21)),(7,.v (.int .i64 v24))],[]⟩) ?_ ?_
    ·refine AD (n:=27) AC 4 [(6,.v (.int .i64 c21)),(7,.v (.int .i64 v24))] [p2,p1] kr ?_
     exact AJ rfl (An [] trivial ⟨lv,lv,trivial⟩)
    refine AQ ?_;have hq:=OI h; subst hq;exact ⟨rfl,AL⟩
   ·rw [CT hb25] at h
    refine AS ?_
    let p9:Nat×AV:=(13,.v (.int .i64 (wr .i64 (c21 + 1))))
    refine DO AC [p7,p6,p5,p4,p9] [p2,p1] ?_;exact A9 (s1:=⟨Fr 27 [p7,p6,p5,p4,p9],[p2,p1]⟩) (An [0,1] ⟨⟨_,rfl,Cm⟩,⟨_,rfl,Cm⟩,trivial⟩ ⟨lv,lv,lv,lv,lv,trivial⟩) (ih c1 c2 c3 c4 c5 c6 c7 c8 c9 c10 c11 c12 c13 c14 c15 c16 c17 c18 c19 c20 (wr .i64 (c21 + 1)) h)
  ·rw [CT hb22] at h
   refine DE ?_;have hq:=OI h; subst hq;exact ⟨rfl,(An [] trivial trivial)⟩
theorem Ez (x0:(List AF)) (x1:AR) (x2:AR) (r:Int×Int) (h:Am x0 x1 x2=some r):Sem E0 ⟨none,false⟩ CG ⟨Fr 27 (BG 0 (CL.enc (x0,x1,x2,()))),[]⟩ fun e s'=>(e = .normal\/e = .ret)/\∃ xs,Ef E0.P s'.fr s'.hp Tryz.f76.results.toList=some xs/\Eh xs=CM r:=by
 unfold Am at h;refine A7 (Bt (s1:=⟨Fr 27 [(0,.sl 1 (x0.map Bc.enc)),(1,AE.enc x1),(2,AE.enc x2)],[]⟩) AL ?_)
 let p1:Option Blk:=some ⟨10,115,[AE.enc x2],false⟩
 let p2:Option Blk:=some ⟨10,115,[AE.enc x1],false⟩
 let p3:Nat×AV:=(5,.pt 1 0 0)
 let p4:Nat×AV:=(4,.pt 0 0 0)
 refine AK AC [(0,.sl 1 (x0.map Bc.enc)),p4,p3] [p2,p1] ?_;refine AH ?_;refine AH ?_
 let p5:Nat×AV:=(13,.v (.int .i64 0))
 let p6:Nat×AV:=(12,.v (.int .i64 (x0.length:Int)))
 let p7:Nat×AV:=(11,.sl 1 (x0.map Bc.enc))
 refine AI (s1:=⟨Fr 27 [p4,p3,p7,p6,p5],[p2,p1]⟩) ?_ ?_
 ·refine AD (n:=27) AC 1 [p4,p3,p7] [p2,p1] kr ?_
  refine AP AC 0 rfl (Dq (AB rfl) rfl (Dg (a:= .sl 1 (x0.map Bc.enc)) kr (CW (el:=117) kr))) ?_;exact AY AC
 refine Ay ?_;obtain ⟨r28,hr28,h⟩:=OB h;refine DF (n:=100000) ?_;rcases r28 with w29 | w30
 ·try dsimp only at h
  refine Bd (A9 (s1:=⟨Fr 27 [p4,p3,p7,p6,p5],[p2,p1]⟩) (An [0,1] ⟨⟨_,rfl,Cm⟩,⟨_,rfl,Cm⟩,trivial⟩ ⟨lv,lv,lv,lv,lv,trivial⟩) (Cv x0 _ x1.1.1 x1.1.2.1 x1.1.2.2.1 x1.1.2.2.2.1 x1.1.2.2.2.2.1 x1.1.2.2.2.2.2.1 x1.1.2.2.2.2.2.2.1 x1.1.2.2.2.2.2.2.2.1 x1.1.2.2.2.2.2.2.2.2 x1.2 x2.1.1 x2.1.2.1 x2.1.2.2.1 x2.1.2.2.2.1 x2.1.2.2.2.2.1 x2.1.2.2.2.2.2.1 x2.1.2.2.2.2.2.2.1 x2.1.2.2.2.2.2.2.2.1 x2.1.2.2.2.2.2.2.2.2 x2.2 0 _ hr28)) ?_;refine AK AC [(6,.v (.int .i64 (-1))),(7,.v (.int .i64 0))] [] ?_;refine AQ ?_;have hq:=OI h; subst hq;exact ⟨⟨Fr 27 [(6,.v (.int .i64 (-1))),(7,.v (.int .i64 0))],[]⟩,AL,.inr rfl,[.v (.int .i64 (-1)),.v (.int .i64 0)],kr,kr⟩
 ·try dsimp only at h
  refine Bd (A9 (s1:=⟨Fr 27 [p4,p3,p7,p6,p5],[p2,p1]⟩) (An [0,1] ⟨⟨_,rfl,Cm⟩,⟨_,rfl,Cm⟩,trivial⟩ ⟨lv,lv,lv,lv,lv,trivial⟩) (Cv x0 _ x1.1.1 x1.1.2.1 x1.1.2.2.1 x1.1.2.2.2.1 x1.1.2.2.2.2.1 x1.1.2.2.2.2.2.1 x1.1.2.2.2.2.2.2.1 x1.1.2.2.2.2.2.2.2.1 x1.1.2.2.2.2.2.2.2.2 x1.2 x2.1.1 x2.1.2.1 x2.1.2.2.1 x2.1.2.2.2.1 x2.1.2.2.2.2.1 x2.1.2.2.2.2.2.1 x2.1.2.2.2.2.2.2.1 x2.1.2.2.2.2.2.2.2.1 x2.1.2.2.2.2.2.2.2.2 x2.2 0 _ hr28)) ?_;have hq:=OI h; subst hq;exact ⟨⟨Fr 27 [(6,.v (.int .i64 w30.1)),(7,.v (.int .i64 w30.2))],[]⟩,AL,.inr rfl,[.v (.int .i64 w30.1),.v (.int .i64 w30.2)],kr,kr⟩
noncomputable def FX:List AV->Option AV:=Dx CL (fun a=>Am a.1 a.2.1 a.2.2.1) CM
theorem DP:XOk 76 FX:=by
 refine AU Tryz.func76 (c:=CG) ?h2 ⟨Tryz.call76⟩ CL (fun a=>Am a.1 a.2.1 a.2.2.1) CM (fun a=>(by show 3<=27; decide)) ?h3 ?h4
 case h2=>kernel_rfl
 case h3=>intro b; kernel_rfl
 case h4=>exact fun a b h=>Ez a.1 a.2.1 a.2.2.1 b h
/- trestle/court.groups$1 -/
noncomputable def Iu:Code:=BS Tryz.f134
def Cn (x0:AR) (x1:AR) (x2:(List AF)):Option (Int) :=
 (Am x2 x0 x1).bind fun v1 =>
 some v1.2
noncomputable def Gu:Cs (AR×AR×(List AF)×Unit):=(csC AE (csC AE (csC (cdP (cdL 1 Bc)) csN)))
noncomputable def Gw (r:Int):AV:=cdI.enc r
theorem LJ (x0:AR) (x1:AR) (x2:(List AF)) (r:Int) (h:Cn x0 x1 x2=some r):Sem E0 ⟨none,false⟩ Iu ⟨Fr 16 (BG 0 (Gu.enc (x0,x1,x2,()))),[]⟩ fun e s'=>(e = .normal\/e = .ret)/\∃ xs,Ef E0.P s'.fr s'.hp Tryz.f134.results.toList=some xs/\Eh xs=Gw r:=by
 unfold Cn at h
 let p1:Nat×AV:=(2,.pe (.sl 1 (x2.map Bc.enc)) 0)
 refine A7 (Bt (s1:=⟨Fr 16 [(0,AE.enc x0),(1,AE.enc x1),p1],[]⟩) AL ?_)
 let p2:Option Blk:=some ⟨10,115,[AE.enc x1],false⟩
 let p3:Option Blk:=some ⟨10,115,[AE.enc x0],false⟩
 refine AK AC [p1,(3,.pt 0 0 0),(4,.pt 1 0 0)] [p3,p2] ?_;refine AH ?_;obtain ⟨v1,hv1,h⟩:=OB h;refine AI (s1:=⟨Fr 16 [(7,.v (.int .i64 v1.2))],[]⟩) ?_ ?_
 ·refine AD (n:=16) AC 3 [(9,.sl 1 (x2.map Bc.enc)),(10,AE.enc x0),(11,AE.enc x1)] [p3,p2] kr ?_
  refine AW (caps:=[]) (xs:=[.sl 1 (x2.map Bc.enc),AE.enc x0,AE.enc x1]) (u:=(x2,x0,x1,())) rfl rfl DP rfl (AB rfl) kr kr (AN (AZ (c:=(cdL 1 Bc)) (v:=x2)) (AN (AZ (c:=AE) (v:=x0)) (AN (AZ (c:=AE) (v:=x1)) BA))) (.inl kr) hv1 ?_;refine AD (n:=16) AC 5 [(7,.v (.int .i64 v1.2))] [p3,p2] kr ?_;exact AJ rfl (An [] trivial ⟨lv,trivial⟩)
 refine AK AC [(5,.v (.int .i64 v1.2))] [] ?_;refine AQ ?_;have hq:=OI h; subst hq;exact ⟨⟨Fr 16 [(5,.v (.int .i64 v1.2))],[]⟩,AL,.inr rfl,[.v (.int .i64 v1.2)],kr,kr⟩
noncomputable def Mv:List AV->Option AV:=Dx Gu (fun a=>Cn a.1 a.2.1 a.2.2.1) Gw
theorem Jq:XOk 134 Mv:=by
 refine AU Tryz.func134 (c:=Iu) ?h2 ⟨Tryz.call134⟩ Gu (fun a=>Cn a.1 a.2.1 a.2.2.1) Gw (fun a=>(by show 3<=16; decide)) ?h3 ?h4
 case h2=>kernel_rfl
 case h3=>intro b; kernel_rfl
 case h4=>exact fun a b h=>LJ a.1 a.2.1 a.2.2.1 b h
/- slices.insertionSortCmpFunc[trestle/court.seated] -/
noncomputable def A2:Code:=BS Tryz.f192
def Al (x1:Int) (x3:(List AF)):Nat->Int->(List AR)->Option (((List AR)))
 | 0,_,_=>none
 | f + 1,c4,c5 =>
  (if (decide (c4 > x1))=true then (idx c5 c4).bind fun v6 =>
  (idx c5 (wr .i64 (c4 - 1))).bind fun v7 =>
  (Cn v6 v7 x3).bind fun v8 =>
  some (decide (v8 < 0)) else some false).bind fun j9 =>
  if j9=true then
  (idx c5 (wr .i64 (c4 - 1))).bind fun v19 =>
  (idx c5 c4).bind fun v20 =>
  (idx c5 c4).bind fun _v21 =>
  (idx (c5.set c4.toNat v19) (wr .i64 (c4 - 1))).bind fun _v25 =>
  Al x1 x3 f (wr .i64 (c4 - 1)) ((c5.set c4.toNat v19).set ((wr .i64 (c4 - 1)).toNat) v20)
  else
  some c5
def AM (x1:Int) (x2:Int) (x3:(List AF)):Nat->Int->(List AR)->Option (((List AR)))
 | 0,_,_=>none
 | f + 1,c1,c2 =>
  if (decide (c1 < x2))=true then
  (Al x1 x3 100000 c1 c2).bind fun r31 =>
  AM x1 x2 x3 f (wr .i64 (c1 + 1)) r31
  else
  some c2
def Ad (x0:(List AR)) (x1:Int) (x2:Int) (x3:(List AF)):Option ((List AR)×(List AF)) :=
 (AM x1 x2 x3 100000 (wr .i64 (x1 + 1)) x0).bind fun r35 =>
 some (r35,x3)
theorem EC {L:List Asn}(x1:Int) (x3:(List AF)) (u0:AV) (x2:Int) (u1:AV) (c1:Int):∀ (f:Nat) (c4:Int) (c5:(List AR)) (r:((List AR))),Al x1 x3 f c4 c5=some r->∀ (hp:Hp),T hp ((own_ (ocL 10 115 (ocV AE)) u0 c5)::(cel u1 1 110 (.sl 1 (x3.map Bc.enc)))::L)->SemYN E0 ⟨none,false⟩ (pc A2 [1,0,0,1,0,0,1,0,0]) f ⟨Fr 53 [(0,u0),(1,.v (.int .i64 x1)),(2,.v (.int .i64 x2)),(3,.fn 134 [] [u1]),(8,.v (.int .i64 c1)),(9,.v (.int .i64 c4))],hp⟩ (fun e s=>e=(.exit 2)/\∃ s2,(∃ (h':Hp),T h' ((own_ (ocL 10 115 (ocV AE)) u0 r)::(cel u1 1 110 (.sl 1 (x3.map Bc.enc)))::L)/\s2=⟨Fr 53 [(0,u0),(1,.v (.int .i64 x1)),(2,.v (.int .i64 x2)),(3,.fn 134 [] [u1]),(8,.v (.int .i64 c1))],h'⟩)/\WkY E0 s s2):=by
 intro f;induction f with
 | zero=>intro c4 c5 r h; cases h
 | succ f ih0 =>
  intro c4 c5 r h  hp hT;unfold Al at h;refine F3 ?_;refine BN ?_;refine BN ?_;obtain ⟨j9,hj9,h⟩:=OB h;refine Ok 17 (A:=fun s1=>∃ (h':Hp),T h' ((own_ (ocL 10 115 (ocV AE)) u0 c5)::(cel u1 1 110 (.sl 1 (x3.map Bc.enc)))::L)/\s1=⟨Fr 53 [(0,u0),(1,.v (.int .i64 x1)),(2,.v (.int .i64 x2)),(3,.fn 134 [] [u1]),(8,.v (.int .i64 c1)),(9,.v (.int .i64 c4)),(34,.v (.bool j9))],h'⟩) AC.mixed kr kr ?_ ?_
  ·refine RunDT.q (x:= .v (.int .i64 c4)) rfl kr rfl (AB rfl) rfl kr kr ?_
   refine RunDT.q (x:= .v (.int .i64 x1)) rfl kr rfl (AB rfl) rfl kr kr ?_;refine RunDT.q (x:= .v (.bool (decide (c4 > x1)))) rfl kr rfl (AB rfl) rfl kr kr ?_;refine RunDT.q (x:= .v (.bool (decide (c4 > x1)))) rfl kr rfl (AB rfl) rfl kr kr ?_;rcases BE (decide (c4 > x1)) with hc30 | hc30
   ·rw [if_pos hc30] at hj9
    rw [hc30];refine RunDT.q (x:= .fn 134 [] [u1]) rfl kr rfl kr rfl kr kr ?_;refine RunDT.q (x:=u0) rfl kr rfl kr rfl kr kr ?_;refine RunDT.q (x:= .v (.int .i64 c4)) rfl kr rfl kr rfl kr kr ?_;obtain ⟨v6,hv6,hj9⟩:=OB hj9;refine RunDT.q (x:=eAt u0 c4.toNat) rfl kr rfl kr rfl (Ac (a:=u0) (b:= .v (.int .i64 c4)) kr kr (T6 (bytes:=120) hT kr hv6)) kr ?_;refine RunDT.q (x:=(AE.enc v6)) rfl kr rfl kr rfl (Le (p:=eAt u0 c4.toNat) kr (ML (y:=(AE.enc v6)) (m:=10) (g:=true) hT (GW hv6).2 kr kr kr)) (I4 hT (GW hv6).2 kr) ?_;refine RunDT.q (x:=u0) rfl kr rfl kr rfl kr kr ?_;refine RunDT.q (x:= .v (.int .i64 c4)) rfl kr rfl kr rfl kr kr ?_;refine RunDT.q (x:= .v (.int .i64 (wr .i64 (c4 - 1)))) rfl kr rfl kr rfl kr kr ?_;obtain ⟨v7,hv7,hj9⟩:=OB hj9;refine RunDT.q (x:=eAt u0 ((wr .i64 (c4 - 1)).toNat)) rfl kr rfl kr rfl (Ac (a:=u0) (b:= .v (.int .i64 (wr .i64 (c4 - 1)))) kr kr (T6 (bytes:=120) hT kr hv7)) kr ?_;refine RunDT.q (x:=(AE.enc v7)) rfl kr rfl kr rfl (Le (p:=eAt u0 ((wr .i64 (c4 - 1)).toNat)) kr (ML (y:=(AE.enc v7)) (m:=10) (g:=true) hT (GW hv7).2 kr kr kr)) (I4 hT (GW hv7).2 kr) ?_;obtain ⟨v8,hv8,hj9⟩:=OB hj9;refine NE (v:=v8) (caps:=[u1]) (xs:=[AE.enc v6,AE.enc v7]) (u:=(v6,v7,x3,())) rfl rfl Jq rfl kr kr kr (F0 (KR (c:=AE) (v:=v6)) (F0 (KR (c:=AE) (v:=v7)) (F0 (SeeD.cel (c:=(cdL 1 Bc)) (v:=x3) hT (i:=1) rfl) SeesD.nil))) kr hv8 ?_;refine RunDT.q (x:= .v (.bool (decide (v8 < 0)))) rfl kr rfl kr rfl kr kr ?_;refine RunDT.q (x:= .v (.bool (decide (v8 < 0)))) rfl kr rfl (AB rfl) rfl kr kr ?_;have hq:=OI hj9; subst hq;exact RunDT.done rfl ⟨_,⟨hp,hT,rfl⟩,WkY.f1⟩
   ·rw [CT hc30] at hj9
    rw [hc30];refine RunDT.skip rfl kr rfl ?_;refine RunDT.skip rfl kr rfl ?_;refine RunDT.skip rfl kr rfl ?_;refine RunDT.skip rfl kr rfl ?_;refine RunDT.skip rfl kr rfl ?_;refine RunDT.skip rfl kr rfl ?_;refine RunDT.skip rfl kr rfl ?_;refine RunDT.skip rfl kr rfl ?_;refine RunDT.skip rfl kr rfl ?_;refine RunDT.skip rfl kr rfl ?_;refine RunDT.skip rfl kr rfl ?_;refine RunDT.skip rfl kr rfl ?_;refine RunDT.q (x:= .v (.bool false)) rfl kr rfl (AB rfl) rfl kr kr ?_;have hq:=OI hj9; subst hq;exact RunDT.done rfl ⟨_,⟨hp,hT,rfl⟩,WkY.f1⟩
  rintro _ ⟨hp16,hT17,rfl⟩;refine FB (b:=j9) kr (fun hb18=>?_) (fun hb18=>?_)
  ·rw [if_pos hb18] at h
   refine SemY.skip ?_;refine BN ?_;refine Ct ?_;refine Ln 15 AC.mixed kr kr ?_;refine RunDT.q (x:=u0) rfl kr rfl (AB rfl) rfl kr kr ?_;refine RunDT.q (x:= .v (.int .i64 c4)) rfl kr rfl (AB rfl) rfl kr kr ?_;refine RunDT.q (x:=u0) rfl kr rfl (AB rfl) rfl kr kr ?_;refine RunDT.q (x:= .v (.int .i64 c4)) rfl kr rfl (AB rfl) rfl kr kr ?_;refine RunDT.q (x:= .v (.int .i64 (wr .i64 (c4 - 1)))) rfl kr rfl (AB rfl) rfl kr kr ?_;refine RunDT.q (x:=u0) rfl kr rfl (AB rfl) rfl kr kr ?_;refine RunDT.q (x:= .v (.int .i64 c4)) rfl kr rfl (AB rfl) rfl kr kr ?_;refine RunDT.q (x:= .v (.int .i64 (wr .i64 (c4 - 1)))) rfl kr rfl (AB rfl) rfl kr kr ?_;obtain ⟨v19,hv19,h⟩:=OB h;refine RunDT.q (x:=eAt u0 ((wr .i64 (c4 - 1)).toNat)) rfl kr rfl (AB rfl) rfl (Ac (a:=u0) (b:= .v (.int .i64 (wr .i64 (c4 - 1)))) kr kr (T6 (bytes:=120) hT17 kr hv19)) kr ?_;refine RunDT.q (x:=(AE.enc v19)) rfl kr rfl (AB rfl) rfl (Le (p:=eAt u0 ((wr .i64 (c4 - 1)).toNat)) kr (ML (y:=(AE.enc v19)) (m:=10) (g:=true) hT17 (GW hv19).2 kr kr kr)) (I4 hT17 (GW hv19).2 kr) ?_;refine RunDT.q (x:=u0) rfl kr rfl (AB rfl) rfl kr kr ?_;refine RunDT.q (x:= .v (.int .i64 c4)) rfl kr rfl (AB rfl) rfl kr kr ?_;obtain ⟨v20,hv20,h⟩:=OB h;refine RunDT.q (x:=eAt u0 c4.toNat) rfl kr rfl (AB rfl) rfl (Ac (a:=u0) (b:= .v (.int .i64 c4)) kr kr (T6 (bytes:=120) hT17 kr hv20)) kr ?_;refine RunDT.q (x:=(AE.enc v20)) rfl kr rfl (AB rfl) rfl (Le (p:=eAt u0 c4.toNat) kr (ML (y:=(AE.enc v20)) (m:=10) (g:=true) hT17 (GW hv20).2 kr kr kr)) (I4 hT17 (GW hv20).2 kr) ?_;obtain ⟨v21,hv21,h⟩:=OB h;refine RunDT.q (x:=eAt u0 c4.toNat) rfl kr rfl (AB rfl) rfl (Ac (a:=u0) (b:= .v (.int .i64 c4)) kr kr (T6 (bytes:=120) hT17 kr hv21)) kr ?_;refine Oj rfl ?_;obtain ⟨hp22,hs23,hT24⟩:=RQ (P:=Tryz.prog) (ty:=115) (y:=(AE.enc v19)) (v':=v19) hT17 (GW hv21).2 kr kr kr;refine RunL.store AC (y:=eAt u0 c4.toNat) (z:=(AE.enc v19)) rfl (AB rfl) kr kr hs23 ?_;obtain ⟨v25,hv25,h⟩:=OB h;refine Ci AC 0 rfl (Dq (AB rfl) rfl (Ac (a:=u0) (b:= .v (.int .i64 (wr .i64 (c4 - 1)))) kr kr (T6 (bytes:=120) hT24 kr hv25))) ?_
   obtain ⟨hp26,hs27,hT28⟩:=RQ (P:=Tryz.prog) (ty:=115) (y:=(AE.enc v20)) (v':=v20) hT24 (GW hv25).2 kr kr kr;refine RunL.store AC (y:=eAt u0 ((wr .i64 (c4 - 1)).toNat)) (z:=(AE.enc v20)) rfl (AB rfl) kr kr hs27 ?_;refine C1 rfl (SemY.fr (l':=[(0,u0),(1,.v (.int .i64 x1)),(2,.v (.int .i64 x2)),(3,.fn 134 [] [u1]),(8,.v (.int .i64 c1)),(9,.v (.int .i64 c4))]) kr ?_);refine A0 ?_;refine Cw AC 3 ?_;refine C1 rfl ?_;exact EP WkY.f1 (ih0 (wr .i64 (c4 - 1)) ((c5.set c4.toNat v19).set ((wr .i64 (c4 - 1)).toNat) v20) _ h  hp26 hT28)
  ·rw [CT hb18] at h
   refine SemY.exit ?_;have hq:=OI h; subst hq;exact ⟨rfl,_,⟨hp16,hT17,rfl⟩,WkY.f1⟩
theorem EB {L:List Asn}(x1:Int) (x2:Int) (x3:(List AF)) (u0:AV) (u1:AV):∀ (f:Nat) (c1:Int) (c2:(List AR)) (r:((List AR))),AM x1 x2 x3 f c1 c2=some r->∀ (hp:Hp),T hp ((own_ (ocL 10 115 (ocV AE)) u0 c2)::(cel u1 1 110 (.sl 1 (x3.map Bc.enc)))::L)->SemYN E0 ⟨none,false⟩ (pc A2 [1,0,0]) f ⟨Fr 53 [(0,u0),(1,.v (.int .i64 x1)),(2,.v (.int .i64 x2)),(3,.fn 134 [] [u1]),(8,.v (.int .i64 c1))],hp⟩ (fun e s=>e=(.exit 0)/\∃ s2,(∃ (h':Hp),T h' ((own_ (ocL 10 115 (ocV AE)) u0 r)::(cel u1 1 110 (.sl 1 (x3.map Bc.enc)))::L)/\s2=⟨Fr 53 [],h'⟩)/\WkY E0 s s2):=by
 intro f;induction f with
 | zero=>intro c1 c2 r h; cases h
 | succ f ih0 =>
  intro c1 c2 r h  hp hT;unfold AM at h;refine F3 ?_;refine BN ?_;refine Dk AC [(0,u0),(1,.v (.int .i64 x1)),(2,.v (.int .i64 x2)),(3,.fn 134 [] [u1]),(8,.v (.int .i64 c1)),(14,.v (.bool (decide (c1 < x2))))] ?_;refine FB (b:=(decide (c1 < x2))) kr (fun hb3=>?_) (fun hb3=>?_)
  ·rw [if_pos hb3] at h
   refine SemY.skip ?_;refine BN ?_;refine Ct ?_;refine Dk AC [(0,u0),(1,.v (.int .i64 x1)),(2,.v (.int .i64 x2)),(3,.fn 134 [] [u1]),(8,.v (.int .i64 c1)),(9,.v (.int .i64 c1))] ?_;refine Ct ?_;refine SemY.loop (n:=100000) ?_;obtain ⟨r31,hr31,h⟩:=OB h;refine FS (EP WkY.f1 (EC x1 x3 u0 x2 u1 c1 _ c1 c2 _ hr31  hp hT)) ?_;rintro _ ⟨hp32,hT33,rfl⟩;refine A0 ?_;refine Cw AC 3 ?_;refine C1 rfl ?_;exact EP WkY.f1 (ih0 (wr .i64 (c1 + 1)) r31 _ h  hp32 hT33)
  ·rw [CT hb3] at h
   refine SemY.exit ?_;have hq:=OI h; subst hq;exact ⟨rfl,_,⟨hp,hT,rfl⟩,WkY.f1⟩
theorem Cl {L:List Asn}{hp:Hp}(u0:AV) (x0:(List AR)) (x1:Int) (x2:Int) (u1:AV) (x3:(List AF)) (r:(List AR)×(List AF)) (h:Ad x0 x1 x2 x3=some r) (hT:T hp ((own_ (ocL 10 115 (ocV AE)) u0 x0)::(cel u1 1 110 (.sl 1 (x3.map Bc.enc)))::L)):SemY E0 ⟨none,false⟩ A2 ⟨Fr 53 (BG 0 [u0,.v (.int .i64 x1),.v (.int .i64 x2),.fn 134 [] [u1]]),hp⟩ fun x s'=>(x = .normal\/x = .ret)/\∃ ys,Ef E0.P s'.fr s'.hp Tryz.f192.results.toList=some ys/\(fun v h'=>v = .tp []/\T h' ((own_ (ocL 10 115 (ocV AE)) u0 r.1)::(cel u1 1 110 (.sl 1 (r.2.map Bc.enc)))::L)) (Eh ys) s'.hp:=by
 unfold Ad at h;refine KS (Kv (s1:=⟨Fr 53 [(0,u0),(1,.v (.int .i64 x1)),(2,.v (.int .i64 x2)),(3,.fn 134 [] [u1])],hp⟩) WkY.f1 ?_);refine Dk AC [(0,u0),(1,.v (.int .i64 x1)),(2,.v (.int .i64 x2)),(3,.fn 134 [] [u1]),(8,.v (.int .i64 (wr .i64 (x1 + 1))))] ?_;refine Ct ?_;refine SemY.loop (n:=100000) ?_;obtain ⟨r35,hr35,h⟩:=OB h;refine FS (EP WkY.f1 (EB x1 x2 x3 u0 u1 _ (wr .i64 (x1 + 1)) x0 _ hr35  hp hT)) ?_;rintro _ ⟨hp36,hT37,rfl⟩;have hq:=OI h; subst hq;exact ⟨⟨Fr 53 [],hp36⟩,WkY.f1,.inl rfl,[],kr,⟨rfl,hT37⟩⟩
/- slices.stableCmpFunc[trestle/court.seated] -/
noncomputable def Bv:Code:=BS Tryz.f166
def Af (x1:Int):Nat->Int->Int->(List AR)->(List AF)->Option ((Int×(List AR)×(List AF)))
 | 0,_,_,_,_=>none
 | f + 1,c1,c2,c3,c4 =>
  if (decide (c2<=x1))=true then
  (Ad c3 c1 c2 c4).bind fun v6 =>
  Af x1 f c2 (wr .i64 (c2 + 20)) v6.1 v6.2
  else
  some (c1,c3,c4)
def BL (x1:Int):Nat->Option ((Unit))
 | 0=>none
 | _f + 1 =>
  if (decide ((20:Int) < x1))=true then
  none
  else
  some ()
def BV (x0:(List AR)) (x1:Int) (x2:(List AF)):Option ((List AR)×(List AF)) :=
 (Af x1 100000 0 20 x0 x2).bind fun r12 =>
 (Ad r12.2.1 r12.1 x1 r12.2.2).bind fun v15 =>
 (BL x1 100000 ).bind fun _r19 =>
 some (v15.1,v15.2)
theorem Ev {L:List Asn}(x1:Int) (u0:AV) (u1:AV):∀ (f:Nat) (c1:Int) (c2:Int) (c3:(List AR)) (c4:(List AF)) (r:(Int×(List AR)×(List AF))),Af x1 f c1 c2 c3 c4=some r->∀ (hp:Hp),T hp ((own_ (ocL 10 115 (ocV AE)) u0 c3)::(cel u1 1 110 (.sl 1 (c4.map Bc.enc)))::L)->SemYN E0 ⟨none,false⟩ (pc Bv [1,1,0,0,0]) f ⟨Fr 63 [(0,u0),(1,.v (.int .i64 x1)),(2,.fn 134 [] [u1]),(6,.v (.int .i64 20)),(7,.v (.int .i64 c1)),(8,.v (.int .i64 c2))],hp⟩ (fun e s=>e=(.exit 0)/\∃ s2,(∃ (h':Hp),T h' ((own_ (ocL 10 115 (ocV AE)) u0 r.2.1)::(cel u1 1 110 (.sl 1 (r.2.2.map Bc.enc)))::L)/\s2=⟨Fr 63 [(0,u0),(1,.v (.int .i64 x1)),(2,.fn 134 [] [u1]),(6,.v (.int .i64 20)),(7,.v (.int .i64 r.1))],h'⟩)/\WkY E0 s s2):=by
 intro f;induction f with
 | zero=>intro c1 c2 c3 c4 r h; cases h
 | succ f ih0 =>
  intro c1 c2 c3 c4 r h  hp hT;unfold Af at h;refine F3 ?_;refine BN ?_
  let p1:Nat×AV:=(8,.v (.int .i64 c2))
  let p2:Nat×AV:=(6,.v (.int .i64 20))
  let p3:Nat×AV:=(2,.fn 134 [] [u1])
  let p4:Nat×AV:=(1,.v (.int .i64 x1))
  refine Dk AC [(0,u0),p4,p3,p2,(7,.v (.int .i64 c1)),p1,(13,.v (.bool (decide (c2<=x1))))] ?_;refine FB (b:=(decide (c2<=x1))) kr (fun hb5=>?_) (fun hb5=>?_)
  ·rw [if_pos hb5] at h
   refine SemY.skip ?_;refine Ct ?_;refine BN ?_;refine A0 ?_;refine Cw AC 4 ?_;obtain ⟨v6,hv6,h⟩:=OB h;refine LA (E:=E0) (e:=E0) rfl rfl AC rfl rfl (fid:=192) (caps:=[]) (xs:=[u0,.v (.int .i64 c1),.v (.int .i64 c2),.fn 134 [] [u1]]) (fn:=Tryz.f192) (c:=A2) (Out:=fun v h'=>v = .tp []/\T h' ((own_ (ocL 10 115 (ocV AE)) u0 v6.1)::(cel u1 1 110 (.sl 1 (v6.2.map Bc.enc)))::L)) rfl (AB rfl) kr kr kr kr (by show 4<=53; decide) (Cl u0 c3 c1 c2 u1 c4 _ hv6 hT) ?_;rintro xx hp7 ⟨hqhp7,hT8⟩; subst xx;refine C1 rfl (SemY.fr (l':=[(0,u0),p4,p3,p2,p1]) kr ?_);refine Dk AC [(0,u0),p4,p3,p2,(7,.v (.int .i64 c2)),p1] ?_;refine A0 ?_;refine Cw AC 4 ?_;refine C1 rfl ?_;exact EP WkY.f1 (ih0 c2 (wr .i64 (c2 + 20)) v6.1 v6.2 _ h  hp7 hT8)
  ·rw [CT hb5] at h
   refine SemY.exit ?_;have hq:=OI h; subst hq;exact ⟨rfl,_,⟨hp,hT,rfl⟩,WkY.f1⟩
theorem Ew {L:List Asn}(x1:Int) (u0:AV) (u1:AV) (v15:(List AR)×(List AF)):∀ (f:Nat)  (r:(Unit)),BL x1 f  = some r->∀ (hp:Hp),T hp ((own_ (ocL 10 115 (ocV AE)) u0 v15.1)::(cel u1 1 110 (.sl 1 (v15.2.map Bc.enc)))::L)->SemYN E0 ⟨none,false⟩ (pc Bv [1,1,1,1,0,0]) f ⟨Fr 63 [(1,.v (.int .i64 x1)),(6,.v (.int .i64 20))],hp⟩ (fun e s=>e=(.exit 2)/\∃ s2,(∃ (h':Hp),T h' ((own_ (ocL 10 115 (ocV AE)) u0 v15.1)::(cel u1 1 110 (.sl 1 (v15.2.map Bc.enc)))::L)/\s2=⟨Fr 63 [],h'⟩)/\WkY E0 s s2):=by
 intro f;induction f with
 | zero=>intro  r h; cases h
 | succ f ih0 =>
  intro  r h  hp hT;unfold BL at h;refine F3 ?_;refine BN ?_;refine Dk AC [(30,.v (.bool (decide ((20:Int) < x1))))] ?_;refine FB (b:=(decide ((20:Int) < x1))) kr (fun hb18=>?_) (fun hb18=>?_)
  ·rw [if_pos hb18] at h
   refine SemY.skip ?_;refine Ct ?_;cases h
  ·rw [CT hb18] at h
   refine SemY.exit ?_;have hq:=OI h; subst hq;exact ⟨rfl,_,⟨hp,hT,rfl⟩,WkY.f1⟩
theorem FQ {L:List Asn}{hp:Hp}(u0:AV) (x0:(List AR)) (x1:Int) (u1:AV) (x2:(List AF)) (r:(List AR)×(List AF)) (h:BV x0 x1 x2=some r) (hT:T hp ((own_ (ocL 10 115 (ocV AE)) u0 x0)::(cel u1 1 110 (.sl 1 (x2.map Bc.enc)))::L)):SemY E0 ⟨none,false⟩ Bv ⟨Fr 63 (BG 0 [u0,.v (.int .i64 x1),.fn 134 [] [u1]]),hp⟩ fun x s'=>(x = .normal\/x = .ret)/\∃ ys,Ef E0.P s'.fr s'.hp Tryz.f166.results.toList=some ys/\(fun v h'=>v = .tp []/\T h' ((own_ (ocL 10 115 (ocV AE)) u0 r.1)::(cel u1 1 110 (.sl 1 (r.2.map Bc.enc)))::L)) (Eh ys) s'.hp:=by
 unfold BV at h
 let p1:Nat×AV:=(2,.fn 134 [] [u1])
 let p2:Nat×AV:=(1,.v (.int .i64 x1))
 refine KS (Kv (s1:=⟨Fr 63 [(0,u0),p2,p1],hp⟩) WkY.f1 ?_)
 let p3:Nat×AV:=(6,.v (.int .i64 20))
 refine Dk AC [(0,u0),p2,p1,p3] ?_;refine Dk AC [(0,u0),p2,p1,p3,(7,.v (.int .i64 0)),(8,.v (.int .i64 20))] ?_;refine BN ?_;refine Ct ?_;refine SemY.loop (n:=100000) ?_;obtain ⟨r12,hr12,h⟩:=OB h;refine FS (EP WkY.f1 (Ev x1 u0 u1 _ 0 20 x0 x2 _ hr12  hp hT)) ?_;rintro _ ⟨hp13,hT14,rfl⟩;refine BN ?_;refine A0 ?_;refine Cw AC 4 ?_;obtain ⟨v15,hv15,h⟩:=OB h;refine LA (E:=E0) (e:=E0) rfl rfl AC rfl rfl (fid:=192) (caps:=[]) (xs:=[u0,.v (.int .i64 r12.1),.v (.int .i64 x1),.fn 134 [] [u1]]) (fn:=Tryz.f192) (c:=A2) (Out:=fun v h'=>v = .tp []/\T h' ((own_ (ocL 10 115 (ocV AE)) u0 v15.1)::(cel u1 1 110 (.sl 1 (v15.2.map Bc.enc)))::L)) rfl (AB rfl) kr kr kr kr (by show 4<=53; decide) (Cl u0 r12.2.1 r12.1 x1 u1 r12.2.2 _ hv15 hT14) ?_;rintro xx hp16 ⟨hqhp16,hT17⟩; subst xx;refine C1 rfl (SemY.fr (l':=[p2,p3]) kr ?_);refine Ct ?_;refine SemY.loop (n:=100000) ?_;obtain ⟨r19,hr19,h⟩:=OB h;refine FS (EP WkY.f1 (Ew x1 u0 u1 v15 _  _ hr19  hp16 hT17)) ?_;rintro _ ⟨hp20,hT21,rfl⟩;have hq:=OI h; subst hq;exact ⟨⟨Fr 63 [],hp20⟩,WkY.f1,.inl rfl,[],kr,⟨rfl,hT21⟩⟩
/- slices.SortStableFunc[[]trestle/court.seated,trestle/court.seated] -/
noncomputable def CF:Code:=BS Tryz.f136
def Aw (x0:(List AR)) (x1:(List AF)):Option ((List AR)×(List AF)) :=
 (BV x0 (x0.length:Int) x1).bind fun v1 =>
 some (v1.1,v1.2)
theorem Dd {L:List Asn}{hp:Hp}(u0:AV) (x0:(List AR)) (u1:AV) (x1:(List AF)) (r:(List AR)×(List AF)) (h:Aw x0 x1=some r) (hT:T hp ((own_ (ocL 10 115 (ocV AE)) u0 x0)::(cel u1 1 110 (.sl 1 (x1.map Bc.enc)))::L)):SemY E0 ⟨none,false⟩ CF ⟨Fr 9 (BG 0 [u0,.fn 134 [] [u1]]),hp⟩ fun x s'=>(x = .normal\/x = .ret)/\∃ ys,Ef E0.P s'.fr s'.hp Tryz.f136.results.toList=some ys/\(fun v h'=>v = .tp []/\T h' ((own_ (ocL 10 115 (ocV AE)) u0 r.1)::(cel u1 1 110 (.sl 1 (r.2.map Bc.enc)))::L)) (Eh ys) s'.hp:=by
 unfold Aw at h;refine KS (Kv (s1:=⟨Fr 9 [(0,u0),(1,.fn 134 [] [u1])],hp⟩) WkY.f1 ?_);refine A0 ?_;refine Cw AC 2 ?_;refine Ci AC 0 rfl (Dq (AB rfl) rfl (Dg (a:=u0) kr (Um hT kr))) ?_;refine Cw AC 1 ?_;obtain ⟨v1,hv1,h⟩:=OB h;refine LA (E:=E0) (e:=E0) rfl rfl AC rfl rfl (fid:=166) (caps:=[]) (xs:=[u0,.v (.int .i64 (x0.length:Int)),.fn 134 [] [u1]]) (fn:=Tryz.f166) (c:=Bv) (Out:=fun v h'=>v = .tp []/\T h' ((own_ (ocL 10 115 (ocV AE)) u0 v1.1)::(cel u1 1 110 (.sl 1 (v1.2.map Bc.enc)))::L)) rfl (AB rfl) kr kr kr kr (by show 3<=63; decide) (FQ u0 x0 (x0.length:Int) u1 x1 _ hv1 hT) ?_;rintro xx hp2 ⟨hqhp2,hT3⟩; subst xx;refine C1 rfl ?_;have hq:=OI h; subst hq;exact ⟨⟨Fr 9 [],hp2⟩,WkY.f1,.inl rfl,[],kr,⟨rfl,hT3⟩⟩
/- trestle/court.groups -/
noncomputable def F8:Code:=BS Tryz.f78
def FG (c15:(List (List Int))) (j29:Bool):Option (((List (List Int)))) :=
 if j29=true then
 if (FZ 24 (c15.length + ([([]:(List Int))]:List (List Int)).length))=true then
 some (c15++([([]:(List Int))]:List (List Int)))
 else none
 else
 some c15
def CK (v9:(List AR)×(List AF)):Nat->Int->(List (List Int))->Option (((List (List Int))))
 | 0,_,_=>none
 | f + 1,c13,c15 =>
  if (decide (c13 < (v9.1.length:Int)))=true then
  (idx v9.1 c13).bind fun v17 =>
  (if (c13==0)=true then some true else (idx v9.1 (wr .i64 (c13 - 1))).bind fun v25 =>
  (Cn v25 v17 v9.2).bind fun v28 =>
  some (v28 != 0)).bind fun j29 =>
  (FG c15 j29).bind fun r71 =>
  (idx r71 (wr .i64 ((r71.length:Int) - 1))).bind fun v76 =>
  if (FZ 8 (v76.length + ([v17.2]:List Int).length))=true then
  (idx r71 (wr .i64 ((r71.length:Int) - 1))).bind fun _v91 =>
  CK v9 f (wr .i64 (c13 + 1)) (r71.set ((wr .i64 ((r71.length:Int) - 1)).toNat) (v76++([v17.2]:List Int)))
  else none
  else
  some c15
def FF (x0:(List AF)) (x1:(List AR)):Option ((List (List Int))) :=
 if (FZ 120 x1.length)=true then
 (Aw x1 x0).bind fun v9 =>
 (CK v9 100000 0 ([]:(List (List Int)))).bind fun r102 =>
 some r102
 else none
theorem LK {L:List Asn}{hp:Hp}(c15:(List (List Int))) (j29:Bool) (e1:AV) (e6:AV) (v9:(List AR)×(List AF)) (c13:Int) (e14:AV) (v17:AR) (e18:AV) (r:((List (List Int)))) (h:FG c15 j29=some r) (hT:T hp ((own_ (ocL 10 115 (ocV AE)) e6 v9.1)::(cel e1 1 110 (.sl 1 (v9.2.map Bc.enc)))::(own_ (ocL 1 48 (ocL 1 3 (ocV cdI))) e14 c15)::(cel e18 10 115 (AE.enc v17))::L)):SemY E0 ⟨none,false⟩ (pc F8 [1,1,1,1,1,0,1,0,0,1,1,0,0,1,0,1]) ⟨Fr 55 [(1,e6),(5,.fn 134 [] [e1]),(6,e14),(8,e18),(16,e6),(17,.v (.int .i64 (v9.1.length:Int))),(18,.v (.int .i64 c13)),(35,.v (.bool j29))],hp⟩ (fun e s=>e = .normal/\∃ s2,(∃ (e68:AV) (h':Hp),T h' ((own_ (ocL 10 115 (ocV AE)) e6 v9.1)::(cel e1 1 110 (.sl 1 (v9.2.map Bc.enc)))::(own_ (ocL 1 48 (ocL 1 3 (ocV cdI))) e68 r)::(cel e18 10 115 (AE.enc v17))::L)/\s2=⟨Fr 55 [(1,e6),(5,.fn 134 [] [e1]),(6,e68),(8,e18),(16,e6),(17,.v (.int .i64 (v9.1.length:Int))),(18,.v (.int .i64 c13))],h'⟩)/\WkY E0 s s2):=by
 unfold FG at h;refine FB (b:=j29) kr (fun hb55=>?_) (fun hb55=>?_)
 ·rw [if_pos hb55] at h
  refine A0 ?_;refine Cw AC 1 ?_
  have hT60:=(T.e0 (k:=1) (ty:=3) (o:=(ocV cdI)) hT)
  have hl61:Mm Tryz.prog 48 .e0=some (eI ([]:(List Int)).length):=Um hT60 kr
  obtain ⟨e59,hp56,hb57,hT58⟩:=R4 (P:=Tryz.prog) (bytes:=24) (k:=1) (t:=48) (ty:=46) (xs:=([([]:(List Int))]:List (List Int))) (n:=1) V2 (UT ((Vz (o:=(ocL 1 3 (ocV cdI))) hT60).front 1 rfl)) rfl kr kr kr;refine Ci AC 0 rfl (Yb (AB rfl) rfl kr (Xy (xs:=P4 0 [.e0]) kr hb57)) ?_;by_cases hk66:(FZ 24 (c15.length + ([([]:(List Int))]:List (List Int)).length))=true
  case neg=>rw [if_neg hk66] at h; cases h
  rw [if_pos hk66] at h
  have hT67:=((hT58.front 0 rfl).front 3 rfl)
  obtain ⟨e65,hp62,hb63,hT64⟩:=Re (P:=Tryz.prog) (ty:=46) (ty2:=46) (bytes:=24) hT67 kr kr hk66;refine Ci AC 0 rfl (T7 (AB rfl) rfl kr kr (Hy (a:=e14) (b:=e59) kr kr hb63)) ?_;refine Cw AC 1 ?_;refine C1 rfl ?_;have hq:=OI h; subst hq
  have hT70:=((((hT64.front 3 rfl).front 1 rfl).front 3 rfl).front 3 rfl)
  exact ⟨rfl,_,⟨e65,hp62,hT70,rfl⟩,WkY.f1⟩
 ·rw [CT hb55] at h
  refine SemY.skip ?_;have hq:=OI h; subst hq;exact ⟨rfl,_,⟨e14,hp,hT,rfl⟩,WkY.f1⟩
theorem LL {L:List Asn}(v9:(List AR)×(List AF)) (e1:AV) (e6:AV):∀ (f:Nat) (c13:Int) (c15:(List (List Int))) (r:((List (List Int)))),CK v9 f c13 c15=some r->∀ (e14:AV) (hp:Hp),T hp ((own_ (ocL 10 115 (ocV AE)) e6 v9.1)::(cel e1 1 110 (.sl 1 (v9.2.map Bc.enc)))::(own_ (ocL 1 48 (ocL 1 3 (ocV cdI))) e14 c15)::L)->SemYN E0 ⟨none,false⟩ (pc F8 [1,1,1,1,1,0,1,0,0]) f ⟨Fr 55 [(1,e6),(5,.fn 134 [] [e1]),(6,e14),(16,e6),(17,.v (.int .i64 (v9.1.length:Int))),(18,.v (.int .i64 c13))],hp⟩ (fun e s=>e=(.exit 0)/\∃ s2,(∃ (e98:AV) (h':Hp),T h' ((own_ (ocL 1 48 (ocL 1 3 (ocV cdI))) e98 r)::L)/\s2=⟨Fr 55 [(6,e98)],h'⟩)/\WkY E0 s s2):=by
 intro f;induction f with
 | zero=>intro c13 c15 r h; cases h
 | succ f ih0 =>
  intro c13 c15 r h e14 hp hT;unfold CK at h;refine F3 ?_;refine Dk AC [(1,e6),(5,.fn 134 [] [e1]),(6,e14),(16,e6),(17,.v (.int .i64 (v9.1.length:Int))),(18,.v (.int .i64 c13)),(19,.v (.bool (decide (c13 < (v9.1.length:Int)))))] ?_;refine BN ?_;refine FB (b:=(decide (c13 < (v9.1.length:Int)))) kr (fun hb16=>?_) (fun hb16=>?_)
  ·rw [if_pos hb16] at h
   refine SemY.skip ?_;refine BN ?_;refine Ct ?_;refine BN ?_;refine A0 ?_;refine Cw AC 1 ?_;obtain ⟨v17,hv17,h⟩:=OB h;refine Ci AC 0 rfl (Dq (AB rfl) rfl (Ac (a:=e6) (b:= .v (.int .i64 c13)) kr kr (T6 (bytes:=120) hT kr hv17))) ?_;refine Ci AC 0 rfl (Dq (AB rfl) rfl (Le (p:=eAt e6 c13.toNat) kr (ML (y:=(AE.enc v17)) (m:=10) (g:=true) hT (GW hv17).2 kr kr kr))) ?_;obtain ⟨e18,hp19,hb20,hT21⟩:=S5 (t:=115) (a:= .ag [.st [],.st [],.st [],.v (.int .i64 0),.v (.int .i64 0),.st [],.v (.bool false),.v (.bool false),.e0,.v (.int .i64 0)]) hT kr;refine Ci AC 0 rfl (Yb (AB rfl) rfl kr (Wa (z:= .ag [.st [],.st [],.st [],.v (.int .i64 0),.v (.int .i64 0),.st [],.v (.bool false),.v (.bool false),.e0,.v (.int .i64 0)]) kr hb20)) ?_;refine Cw AC 1 ?_;obtain ⟨hp22,hs23,hT24⟩:=Wr (P:=Tryz.prog) (ty:=115) (y:=(AE.enc v17)) (a':=(AE.enc v17)) hT21 kr kr kr;refine RunL.store AC (y:=e18) (z:=(AE.enc v17)) rfl (AB rfl) kr kr hs23 ?_;refine C1 rfl (SemY.fr (l':=[(1,e6),(5,.fn 134 [] [e1]),(6,e14),(7,.v (.int .i64 c13)),(8,e18),(16,e6),(17,.v (.int .i64 (v9.1.length:Int))),(18,.v (.int .i64 c13))]) kr ?_);refine BN ?_;refine BN ?_;obtain ⟨j29,hj29,h⟩:=OB h;refine Ok 13 (A:=fun s1=>∃ (h':Hp),T h' ((own_ (ocL 10 115 (ocV AE)) e6 v9.1)::(cel e1 1 110 (.sl 1 (v9.2.map Bc.enc)))::(own_ (ocL 1 48 (ocL 1 3 (ocV cdI))) e14 c15)::(cel e18 10 115 (AE.enc v17))::L)/\s1=⟨Fr 55 [(1,e6),(5,.fn 134 [] [e1]),(6,e14),(8,e18),(16,e6),(17,.v (.int .i64 (v9.1.length:Int))),(18,.v (.int .i64 c13)),(35,.v (.bool j29))],h'⟩) AC.mixed kr kr ?_ ?_
   ·refine RunDT.q (x:= .v (.int .i64 c13)) rfl kr rfl (AB rfl) rfl kr kr ?_
    refine RunDT.q (x:= .v (.bool (c13==0))) rfl kr rfl (AB rfl) rfl kr kr ?_;refine RunDT.q (x:= .v (.bool (c13==0))) rfl kr rfl (AB rfl) rfl kr kr ?_;rcases BE (c13==0) with hc97 | hc97
    ·rw [if_pos hc97] at hj29
     rw [hc97];refine RunDT.skip rfl kr rfl ?_;refine RunDT.skip rfl kr rfl ?_;refine RunDT.skip rfl kr rfl ?_;refine RunDT.skip rfl kr rfl ?_;refine RunDT.skip rfl kr rfl ?_;refine RunDT.skip rfl kr rfl ?_;refine RunDT.skip rfl kr rfl ?_;refine RunDT.skip rfl kr rfl ?_;refine RunDT.skip rfl kr rfl ?_;refine RunDT.q (x:= .v (.bool true)) rfl kr rfl (AB rfl) rfl kr kr ?_;have hq:=OI hj29; subst hq
     have hT51:=(((hT24.front 3 rfl).front 3 rfl).front 3 rfl)
     exact RunDT.done rfl ⟨_,⟨hp22,hT51,rfl⟩,WkY.f1⟩
    ·rw [CT hc97] at hj29
     rw [hc97];refine RunDT.q (x:= .fn 134 [] [e1]) rfl kr rfl kr rfl kr kr ?_;refine RunDT.q (x:=e6) rfl kr rfl kr rfl kr kr ?_;refine RunDT.q (x:= .v (.int .i64 c13)) rfl kr rfl kr rfl kr kr ?_;refine RunDT.q (x:= .v (.int .i64 (wr .i64 (c13 - 1)))) rfl kr rfl kr rfl kr kr ?_;obtain ⟨v25,hv25,hj29⟩:=OB hj29
     have hT26:=(hT24.front 1 rfl)
     refine RunDT.q (x:=eAt e6 ((wr .i64 (c13 - 1)).toNat)) rfl kr rfl kr rfl (Ac (a:=e6) (b:= .v (.int .i64 (wr .i64 (c13 - 1)))) kr kr (T6 (bytes:=120) hT26 kr hv25)) kr ?_;refine RunDT.q (x:=(AE.enc v25)) rfl kr rfl kr rfl (Le (p:=eAt e6 ((wr .i64 (c13 - 1)).toNat)) kr (ML (y:=(AE.enc v25)) (m:=10) (g:=true) hT26 (GW hv25).2 kr kr kr)) (I4 (hT24.front 1 rfl) (GW hv25).2 kr) ?_
     have hT27:=(hT26.front 1 rfl)
     refine RunDT.q (x:=(AE.enc v17)) rfl kr rfl kr rfl (Le (p:=e18) kr (WQ (y:=(AE.enc v17)) (m:=10) (g:=true) hT27 kr kr kr)) (TX hT24 kr) ?_;obtain ⟨v28,hv28,hj29⟩:=OB hj29;refine NE (v:=v28) (caps:=[e1]) (xs:=[AE.enc v25,AE.enc v17]) (u:=(v25,v17,v9.2,())) rfl rfl Jq rfl kr kr kr (F0 (KR (c:=AE) (v:=v25)) (F0 (KR (c:=AE) (v:=v17)) (F0 (SeeD.cel (c:=(cdL 1 Bc)) (v:=v9.2) hT27 (i:=2) rfl) SeesD.nil))) kr hv28 ?_;refine RunDT.q (x:= .v (.bool (v28 != 0))) rfl kr rfl kr rfl kr kr ?_;refine RunDT.q (x:= .v (.bool (v28 != 0))) rfl kr rfl (AB rfl) rfl kr kr ?_;have hq:=OI hj29; subst hq
     have hT52:=(((hT27.front 3 rfl).front 3 rfl).front 3 rfl)
     exact RunDT.done rfl ⟨_,⟨hp22,hT52,rfl⟩,WkY.f1⟩
   rintro _ ⟨hp53,hT54,rfl⟩;obtain ⟨r71,hr71,h⟩:=OB h;refine NF (LK c15 j29 e1 e6 v9 c13 e14 v17 e18 _ hr71 hT54) ?_;rintro _ ⟨e72,hp73,hT74,rfl⟩;refine BN ?_;refine A0 ?_;refine Cw AC 1 ?_
   have hT75:=(hT74.front 2 rfl)
   refine Ci AC 0 rfl (Dq (AB rfl) rfl (Dg (a:=e72) kr (Um hT75 kr))) ?_;refine FR AC [(1,e6),(5,.fn 134 [] [e1]),(6,e72),(8,e18),(9,.v (.int .i64 (wr .i64 ((r71.length:Int) - 1)))),(16,e6),(17,.v (.int .i64 (v9.1.length:Int))),(18,.v (.int .i64 c13))] ?_;refine Ln 9 AC.mixed kr kr ?_;refine RunDT.q (x:=e72) rfl kr rfl (AB rfl) rfl kr kr ?_;refine RunDT.q (x:= .v (.int .i64 (wr .i64 ((r71.length:Int) - 1)))) rfl kr rfl (AB rfl) rfl kr kr ?_;refine RunDT.q (x:=e72) rfl kr rfl (AB rfl) rfl kr kr ?_;refine RunDT.q (x:= .v (.int .i64 (wr .i64 ((r71.length:Int) - 1)))) rfl kr rfl (AB rfl) rfl kr kr ?_;obtain ⟨v76,hv76,h⟩:=OB h;refine RunDT.q (x:=eAt e72 ((wr .i64 ((r71.length:Int) - 1)).toNat)) rfl kr rfl (AB rfl) rfl (Ac (a:=e72) (b:= .v (.int .i64 (wr .i64 ((r71.length:Int) - 1)))) kr kr (T6 (bytes:=24) hT75 kr hv76)) kr ?_;obtain ⟨e77,hl78,hT79⟩:=Ul (P:=Tryz.prog) (ty:=48) hT75 (GW hv76).2 kr kr;refine RunDT.q (x:=e77) rfl kr rfl (AB rfl) rfl (Le (p:=eAt e72 ((wr .i64 ((r71.length:Int) - 1)).toNat)) kr hl78) (I4 hT75 (GW hv76).2 kr) ?_
   have hT80:=(hT79.front 4 rfl)
   refine RunDT.q (x:=Ps e18 9) rfl kr rfl (AB rfl) rfl (ZH (a:=e18) kr (Xd (off:=9) hT80 kr)) kr ?_;refine RunDT.q (x:= .v (.int .i64 v17.2)) rfl kr rfl (AB rfl) rfl (Le (p:=Ps e18 9) kr (VU (off:=9) (y:= .v (.int .i64 v17.2)) (m:=1) (g:=false) hT80 kr kr kr)) (Uj (off:=9) (hT75.front 3 rfl) kr) ?_;obtain ⟨e84,hp81,hb82,hT83⟩:=R4 (P:=Tryz.prog) (bytes:=8) (k:=1) (t:=3) (ty:=48) (xs:=([v17.2]:List Int)) (n:=1) (Y2 (k:=1) (fun _=>⟨rfl,rfl,rfl⟩)) (PF (c:=cdI) (xs:=([v17.2]:List Int)) hT80) rfl kr kr kr;refine RunDT.new rfl (AB rfl) rfl (Xy (xs:=P4 0 [.v (.int .i64 v17.2)]) kr hb82) ?_;refine Oj rfl ?_;by_cases hk89:(FZ 8 (v76.length + ([v17.2]:List Int).length))=true
   case neg=>rw [if_neg hk89] at h; cases h
   rw [if_pos hk89] at h
   have hT90:=((hT83.front 0 rfl).front 2 rfl)
   obtain ⟨e88,hp85,hb86,hT87⟩:=Re (P:=Tryz.prog) (ty:=48) (ty2:=48) (bytes:=8) hT90 kr kr hk89;refine Ci AC 0 rfl (T7 (AB rfl) rfl kr kr (Hy (a:=e77) (b:=e84) kr kr hb86)) ?_;obtain ⟨v91,hv91,h⟩:=OB h
   have hT92:=(hT87.front 2 rfl)
   refine Ci AC 0 rfl (Dq (AB rfl) rfl (Ac (a:=e72) (b:= .v (.int .i64 (wr .i64 ((r71.length:Int) - 1)))) kr kr (Y9 (bytes:=24) hT92 kr hv91))) ?_;obtain ⟨hp93,hs94,hT95⟩:=Ws (P:=Tryz.prog) (ty:=48) V2 hT92 kr;refine RunL.store AC (y:=eAt e72 ((wr .i64 ((r71.length:Int) - 1)).toNat)) (z:=e88) rfl (AB rfl) kr kr hs94 ?_;refine C1 rfl (SemY.fr (l':=[(1,e6),(5,.fn 134 [] [e1]),(6,e72),(16,e6),(17,.v (.int .i64 (v9.1.length:Int))),(18,.v (.int .i64 c13))]) kr ?_);refine A0 ?_;refine Cw AC 2 ?_;refine C1 rfl ?_
   have hT96:=(((hT95.front 1 rfl).drop.front 2 rfl).front 2 rfl)
   exact EP WkY.f1 (ih0 (wr .i64 (c13 + 1)) (r71.set ((wr .i64 ((r71.length:Int) - 1)).toNat) (v76++([v17.2]:List Int))) _ h e72 hp93 hT96)
  ·rw [CT hb16] at h
   refine SemY.exit ?_;have hq:=OI h; subst hq
   have hT100:=hT.drop.drop
   exact ⟨rfl,_,⟨e14,hp,hT100,rfl⟩,WkY.f1⟩
theorem Mh {L:List Asn}{hp:Hp}(x0:(List AF)) (x1:(List AR)) (r:(List (List Int))) (h:FF x0 x1=some r) (hT:T hp (L)):SemY E0 ⟨none,false⟩ F8 ⟨Fr 55 (BG 0 [.sl 1 (x0.map Bc.enc),.sl 10 (x1.map AE.enc)]),hp⟩ fun x s'=>(x = .normal\/x = .ret)/\∃ ys,Ef E0.P s'.fr s'.hp Tryz.f78.results.toList=some ys/\(fun v h'=>v = .sl 1 (r.map (cdL 1 cdI).enc)/\T h' (L)) (Eh ys) s'.hp:=by
 unfold FF at h
 let p1:Nat×AV:=(1,.sl 10 (x1.map AE.enc))
 refine KS (Kv (s1:=⟨Fr 55 [(0,.sl 1 (x0.map Bc.enc)),p1],hp⟩) WkY.f1 ?_);refine BN ?_;refine A0 ?_;obtain ⟨e1,hp2,hb3,hT4⟩:=S5 (t:=110) (a:= .sl 1 (x0.map Bc.enc)) hT kr;refine Ci AC 0 rfl (Yb (AB rfl) rfl kr (ZD (z:= .sl 1 (x0.map Bc.enc)) kr hb3)) ?_;refine FR AC [p1,(2,e1)] ?_
 let p2:Nat×AV:=(5,.fn 134 [] [e1])
 refine Dk AC [p1,p2] ?_;refine BN ?_;refine A0 ?_;refine Cw AC 1 ?_;by_cases hk5:(FZ 120 x1.length)=true
 case neg=>rw [if_neg hk5] at h; cases h
 rw [if_pos hk5] at h;refine SL rfl rfl (FA x1 hk5) rfl (AB rfl) kr kr kr SU ?_;intro x h' hO; obtain ⟨e6,hp7,e6q,hp7q,hT8⟩:=SV (c:=AE) (k:=10) (t:=115) hT4 hO; rw [<-e6q,<-hp7q];refine FR AC [(1,e6),p2] ?_;refine BN ?_;refine A0 ?_;refine Cw AC 2 ?_;obtain ⟨v9,hv9,h⟩:=OB h;refine LA (E:=E0) (e:=E0) rfl rfl AC rfl rfl (fid:=136) (caps:=[]) (xs:=[e6,.fn 134 [] [e1]]) (fn:=Tryz.f136) (c:=CF) (Out:=fun v h'=>v = .tp []/\T h' ((own_ (ocL 10 115 (ocV AE)) e6 v9.1)::(cel e1 1 110 (.sl 1 (v9.2.map Bc.enc)))::L)) rfl (AB rfl) kr kr kr kr (by show 2<=9; decide) (Dd e6 x1 e1 x0 _ hv9 hT8) ?_;rintro xx hp10 ⟨hqhp10,hT11⟩; subst xx;refine C1 rfl (SemY.fr (l':=[(1,e6),p2]) kr ?_);refine Dk AC [(1,e6),p2,(6,.e0)] ?_;refine BN ?_;refine BN ?_;refine A0 ?_;refine Cw AC 1 ?_;refine Ci AC 0 rfl (Dq (AB rfl) rfl (Dg (a:=e6) kr (Um hT11 kr))) ?_;refine FR AC [(1,e6),p2,(6,.e0),(16,e6),(17,.v (.int .i64 (v9.1.length:Int))),(18,.v (.int .i64 0))] ?_;refine Ct ?_
 have hT12:=(T.e0 (k:=1) (ty:=48) (o:=(ocL 1 3 (ocV cdI))) hT11)
 have hT101:=((hT12.front 2 rfl).front 2 rfl)
 refine SemY.loop (n:=100000) ?_;obtain ⟨r102,hr102,h⟩:=OB h;refine FS (EP WkY.f1 (LL v9 e1 e6 _ 0 ([]:(List (List Int))) _ hr102 .e0 hp10 hT101)) ?_;rintro _ ⟨e103,hp104,hT105,rfl⟩;refine Dk AC [(4,e103)] ?_;refine SemY.ret ?_;have hq:=OI h; subst hq
 let p3:Nat×AV:=(4,.sl 1 (r102.map (cdL 1 cdI).enc))
 obtain ⟨hp106,hw107,hT108⟩:=M1 (E:=E0) (n:=55) (l:=[(4,e103)]) (l':=[p3]) hT105 (LkT.at_ ⟨.inr ⟨kr,rfl⟩,trivial⟩);exact ⟨⟨Fr 55 [p3],hp106⟩,(WkY.trans (WkY.trans WkY.f1 hw107) WkY.f1),.inr rfl,[.sl 1 (r102.map (cdL 1 cdI).enc)],kr,⟨rfl,hT108⟩⟩
noncomputable def J9:Cs ((List AF)×(List AR)×Unit):=(csC (cdL 1 Bc) (csC (cdL 10 AE) csN))
noncomputable def KC (r:(List (List Int))):AV:=(cdL 1 (cdL 1 cdI)).enc r
noncomputable def OY:List AV->Option AV:=Dx J9 (fun a=>FF a.1 a.2.1) KC
theorem Og:XOk 78 OY:=by
 refine AU Tryz.func78 (c:=F8) ?h2 ⟨Tryz.call78⟩ J9 (fun a=>FF a.1 a.2.1) KC (fun a=>(by show 2<=55; decide)) ?h3 ?h4
 case h2=>kernel_rfl
 case h3=>intro b; kernel_rfl
 case h4 =>
  intro a b h;refine Sem.mono (Qq (Mh (L:=[]) (hp:=[]) a.1 a.2.1 b h T.nil)) fun e s' hs=>?_
  obtain ⟨h1,ys,h2,h3,-⟩:=hs;exact ⟨h1,ys,h2,h3⟩
/- trestle/court.Order -/
noncomputable def Kk:Code:=BS Tryz.f24
def En (x0:(List AF)) (x1:(List A6)):Option ((List (List Int))) :=
 (D7 x0).bind fun v1 =>
 (if (!v1.2)=true then some true else some (decide ((x1.length:Int) > 64))).bind fun j3 =>
 if j3=true then
 some []
 else
 (Gt x1).bind fun v5 =>
 (FF v1.1 v5).bind fun v6 =>
 some v6
noncomputable def G4:Cs ((List AF)×(List A6)×Unit):=(csC (cdL 5 AA) (csC (cdL 9 AG) csN))
noncomputable def Ij (r:(List (List Int))):AV:=(cdL 1 (cdL 1 cdI)).enc r
theorem NM (x0:(List AF)) (x1:(List A6)) (r:(List (List Int))) (h:En x0 x1=some r):Sem E0 ⟨none,false⟩ Kk ⟨Fr 23 (BG 0 (G4.enc (x0,x1,()))),[]⟩ fun e s'=>(e = .normal\/e = .ret)/\∃ xs,Ef E0.P s'.fr s'.hp Tryz.f24.results.toList=some xs/\Eh xs=Ij r:=by
 unfold En at h;refine A7 (Bt (s1:=⟨Fr 23 [(0,.sl 5 (x0.map AA.enc)),(1,.sl 9 (x1.map AG.enc))],[]⟩) AL ?_);refine AK AC [(0,.sl 5 (x0.map AA.enc)),(1,.sl 9 (x1.map AG.enc))] [] ?_;refine AH ?_;obtain ⟨v1,hv1,h⟩:=OB h;refine AI (s1:=⟨Fr 23 [(1,.sl 9 (x1.map AG.enc)),(5,.sl 1 (v1.1.map Bc.enc)),(6,.v (.bool v1.2))],[]⟩) ?_ ?_
 ·refine AD (n:=23) AC 1 [(1,.sl 9 (x1.map AG.enc)),(8,.sl 5 (x0.map AA.enc))] [] kr ?_
  refine AW (caps:=[]) (xs:=[.sl 5 (x0.map AA.enc)]) (u:=(x0,())) rfl rfl Ku rfl (AB rfl) kr kr (AN (AZ (c:=(cdL 5 AA)) (v:=x0)) BA) (.inr kr) hv1 ?_;exact AY AC
 refine AH ?_;refine AH ?_;obtain ⟨j3,hj3,h⟩:=OB h;refine AI (s1:=⟨Fr 23 [(1,.sl 9 (x1.map AG.enc)),(5,.sl 1 (v1.1.map Bc.enc)),(18,.v (.bool j3))],[]⟩) ?_ ?_
 ·refine AD (n:=23) AC 3 [(1,.sl 9 (x1.map AG.enc)),(5,.sl 1 (v1.1.map Bc.enc)),(14,.v (.bool (!v1.2)))] [] kr ?_
  rcases BE (!v1.2) with hc7 | hc7
  ·rw [if_pos hc7] at hj3
   rw [hc7];refine AD (n:=23) AC 4 [(1,.sl 9 (x1.map AG.enc)),(5,.sl 1 (v1.1.map Bc.enc)),(18,.v (.bool true))] [] kr ?_;have hq:=OI hj3; subst hq;exact AJ rfl AL
  ·rw [CT hc7] at hj3
   rw [hc7];refine AD (n:=23) AC 1 [(1,.sl 9 (x1.map AG.enc)),(5,.sl 1 (v1.1.map Bc.enc)),(14,.v (.bool false)),(15,.sl 9 (x1.map AG.enc))] [] kr ?_;refine AP AC 0 rfl (Dq kr rfl (Dg (a:= .sl 9 (x1.map AG.enc)) kr (CW (el:=42) kr))) ?_;refine AD (n:=23) AC 2 [(1,.sl 9 (x1.map AG.enc)),(5,.sl 1 (v1.1.map Bc.enc)),(18,.v (.bool (decide ((x1.length:Int) > 64))))] [] kr ?_;have hq:=OI hj3; subst hq;exact AJ rfl AL
 refine AO (b:=j3) kr (fun hb4=>?_) (fun hb4=>?_)
 ·rw [if_pos hb4] at h
  refine AK AC [(4,.e0)] [] ?_;refine AQ ?_;have hq:=OI h; subst hq;exact ⟨⟨Fr 23 [(4,.sl 1 ([].map (cdL 1 cdI).enc))],[]⟩,(Wk.trans (s1:=⟨Fr 23 [(4,.e0)],[]⟩) AL (Wk.trans (s1:=⟨Fr 23 [(4,.e0)],[none]⟩) Wk.none (Wk.trans (s1:=⟨Fr 23 [(4,.sl 1 ([].map (cdL 1 cdI).enc))],[none]⟩) (HM 0 (.inr kr) ⟨.inl rfl,trivial⟩ ⟨⟨.e0,kr,QC⟩,trivial⟩) (An [] trivial ⟨lv,trivial⟩)))),.inr rfl,[.sl 1 ([].map (cdL 1 cdI).enc)],kr,kr⟩
 ·rw [CT hb4] at h
  refine AS ?_;refine AH ?_;obtain ⟨v5,hv5,h⟩:=OB h;obtain ⟨v6,hv6,h⟩:=OB h;refine AI (s1:=⟨Fr 23 [(4,.sl 1 (v6.map (cdL 1 cdI).enc))],[]⟩) ?_ ?_
  ·refine AD (n:=23) AC 2 [(19,.sl 1 (v1.1.map Bc.enc)),(20,.sl 9 (x1.map AG.enc))] [] kr ?_
   refine AW (caps:=[]) (xs:=[.sl 9 (x1.map AG.enc)]) (u:=(x1,())) rfl rfl Qn rfl (AB rfl) kr kr (AN (AZ (c:=(cdL 9 AG)) (v:=x1)) BA) (.inr kr) hv5 ?_;refine AW (caps:=[]) (xs:=[.sl 1 (v1.1.map Bc.enc),.sl 10 (v5.map AE.enc)]) (u:=(v1.1,v5,())) rfl rfl Og rfl (AB rfl) kr kr (AN (AZ (c:=(cdL 1 Bc)) (v:=v1.1)) (AN (AZ (c:=(cdL 10 AE)) (v:=v5)) BA)) (.inr kr) hv6 ?_;exact AY AC
  refine AQ ?_;have hq:=OI h; subst hq;exact ⟨⟨Fr 23 [(4,.sl 1 (v6.map (cdL 1 cdI).enc))],[]⟩,AL,.inr rfl,[.sl 1 (v6.map (cdL 1 cdI).enc)],kr,kr⟩
noncomputable def Pf:List AV->Option AV:=Dx G4 (fun a=>En a.1 a.2.1) Ij
theorem JX:XOk 24 Pf:=by
 refine AU Tryz.func24 (c:=Kk) ?h2 ⟨Tryz.call24⟩ G4 (fun a=>En a.1 a.2.1) Ij (fun a=>(by show 2<=23; decide)) ?h3 ?h4
 case h2=>kernel_rfl
 case h3=>intro b; kernel_rfl
 case h4=>exact fun a b h=>NM a.1 a.2.1 b h
/- trestle/court.Class -/
noncomputable def Fc:Code:=BS Tryz.f25
def Fd (x1:(List A6)) (c3:Int) (c5:(List Int)):Option (((List Int))) :=
 if (c3==0)=true then
 if (W8 8 (x1.length:Int))=true then
 some (List.replicate (x1.length:Int).toNat (0:Int))
 else none
 else
 some c5
def CQ (c3:Int) (v7:(List Int)):Nat->Int->(List Int)->Option (((List Int)))
 | 0,_,_=>none
 | f + 1,c21,c22 =>
  if (decide (c21 < (v7.length:Int)))=true then
  (idx v7 c21).bind fun v24 =>
  (idx c22 v24).bind fun _v25 =>
  CQ c3 v7 f (wr .i64 (c21 + 1)) (c22.set v24.toNat c3)
  else
  some c22
def DH (x1:(List A6)) (v1:(List (List Int))):Nat->Int->(List Int)->Option (((List Int)))
 | 0,_,_=>none
 | f + 1,c3,c5 =>
  if (decide (c3 < (v1.length:Int)))=true then
  (idx v1 c3).bind fun v7 =>
  (Fd x1 c3 c5).bind fun r17 =>
  (CQ c3 v7 100000 0 r17).bind fun r30 =>
  DH x1 v1 f (wr .i64 (c3 + 1)) r30
  else
  some c5
def Fo (x0:(List AF)) (x1:(List A6)):Option ((List Int)) :=
 (En x0 x1).bind fun v1 =>
 (DH x1 v1 100000 0 ([]:(List Int))).bind fun r35 =>
 some r35
theorem Ls {L:List Asn}{hp:Hp}(x1:(List A6)) (c3:Int) (c5:(List Int)) (v1:(List (List Int))) (e4:AV) (v7:(List Int)) (r:((List Int))) (h:Fd x1 c3 c5=some r) (hT:T hp ((own_ (ocL 1 3 (ocV cdI)) e4 c5)::L)):SemY E0 ⟨none,false⟩ (pc Fc [1,1,0,1,0,0,1,1,0,0,1,0,1]) ⟨Fr 37 [(1,.sl 9 (x1.map AG.enc)),(5,e4),(6,.v (.int .i64 c3)),(7,.sl 1 (v7.map cdI.enc)),(12,.sl 1 (v1.map (cdL 1 cdI).enc)),(13,.v (.int .i64 (v1.length:Int))),(14,.v (.int .i64 c3)),(20,.v (.bool (c3==0)))],hp⟩ (fun e s=>e = .normal/\∃ s2,(∃ (e14:AV) (h':Hp),T h' ((own_ (ocL 1 3 (ocV cdI)) e14 r)::L)/\s2=⟨Fr 37 [(1,.sl 9 (x1.map AG.enc)),(5,e14),(6,.v (.int .i64 c3)),(7,.sl 1 (v7.map cdI.enc)),(12,.sl 1 (v1.map (cdL 1 cdI).enc)),(13,.v (.int .i64 (v1.length:Int))),(14,.v (.int .i64 c3))],h'⟩)/\WkY E0 s s2):=by
 unfold Fd at h;refine FB (b:=(c3==0)) kr (fun hb8=>?_) (fun hb8=>?_)
 ·rw [if_pos hb8] at h
  refine A0 ?_;refine Cw AC 1 ?_;refine Ci AC 0 rfl (Dq (AB rfl) rfl (Dg (a:= .sl 9 (x1.map AG.enc)) kr (CW (el:=42) kr))) ?_;by_cases hk9:(W8 8 (x1.length:Int))=true
  case neg=>rw [if_neg hk9] at h; cases h
  rw [if_pos hk9] at h;obtain ⟨e13,hp10,hb11,hT12⟩:=Td (P:=Tryz.prog) (o:=(ocV cdI)) (k:=1) (t:=3) (ty:=48) (bytes:=8) (kn:= .i64) (kc:= .i64) (m:=(x1.length:Int)) (x0:=0) hT (fun _=>⟨rfl,rfl⟩) kr kr hk9;refine Ci AC 0 rfl (Yb (AB rfl) rfl kr (Xz (x:= .v (.int .i64 (x1.length:Int))) (y:= .v (.int .i64 (x1.length:Int))) kr kr hb11)) ?_;refine Cw AC 1 ?_;refine C1 rfl ?_;have hq:=OI h; subst hq
  have hT16:=(hT12.front 1 rfl).drop
  exact ⟨rfl,_,⟨e13,hp10,hT16,rfl⟩,WkY.f1⟩
 ·rw [CT hb8] at h
  refine SemY.skip ?_;have hq:=OI h; subst hq;exact ⟨rfl,_,⟨e4,hp,hT,rfl⟩,WkY.f1⟩
theorem Lu {L:List Asn}(c3:Int) (v7:(List Int)) (x1:(List A6)) (v1:(List (List Int))) (e18:AV):∀ (f:Nat) (c21:Int) (c22:(List Int)) (r:((List Int))),CQ c3 v7 f c21 c22=some r->∀ (hp:Hp),T hp ((own_ (ocL 1 3 (ocV cdI)) e18 c22)::L)->SemYN E0 ⟨none,false⟩ (pc Fc [1,1,0,1,0,0,1,1,0,0,1,1,1,0,0]) f ⟨Fr 37 [(1,.sl 9 (x1.map AG.enc)),(5,e18),(6,.v (.int .i64 c3)),(12,.sl 1 (v1.map (cdL 1 cdI).enc)),(13,.v (.int .i64 (v1.length:Int))),(14,.v (.int .i64 c3)),(24,.sl 1 (v7.map cdI.enc)),(25,.v (.int .i64 (v7.length:Int))),(26,.v (.int .i64 c21))],hp⟩ (fun e s=>e=(.exit 2)/\∃ s2,(∃ (h':Hp),T h' ((own_ (ocL 1 3 (ocV cdI)) e18 r)::L)/\s2=⟨Fr 37 [(1,.sl 9 (x1.map AG.enc)),(5,e18),(12,.sl 1 (v1.map (cdL 1 cdI).enc)),(13,.v (.int .i64 (v1.length:Int))),(14,.v (.int .i64 c3))],h'⟩)/\WkY E0 s s2):=by
 intro f;induction f with
 | zero=>intro c21 c22 r h; cases h
 | succ f ih0 =>
  intro c21 c22 r h  hp hT;unfold CQ at h;refine F3 ?_
  let p1:Nat×AV:=(26,.v (.int .i64 c21))
  let p2:Nat×AV:=(25,.v (.int .i64 (v7.length:Int)))
  let p3:Nat×AV:=(24,.sl 1 (v7.map cdI.enc))
  let p4:Nat×AV:=(14,.v (.int .i64 c3))
  let p5:Nat×AV:=(13,.v (.int .i64 (v1.length:Int)))
  let p6:Nat×AV:=(12,.sl 1 (v1.map (cdL 1 cdI).enc))
  let p7:Nat×AV:=(6,.v (.int .i64 c3))
  let p8:Nat×AV:=(1,.sl 9 (x1.map AG.enc))
  refine Dk AC [p8,(5,e18),p7,p6,p5,p4,p3,p2,p1,(27,.v (.bool (decide (c21 < (v7.length:Int)))))] ?_;refine BN ?_;refine FB (b:=(decide (c21 < (v7.length:Int)))) kr (fun hb23=>?_) (fun hb23=>?_)
  ·rw [if_pos hb23] at h
   refine SemY.skip ?_;refine BN ?_;refine Ct ?_;refine BN ?_;refine A0 ?_;obtain ⟨v24,hv24,h⟩:=OB h;refine Ci AC 0 rfl (Dq (AB rfl) rfl (Ac (a:= .sl 1 (v7.map cdI.enc)) (b:= .v (.int .i64 c21)) kr kr (Fa (e:=cdI.enc) (el:=3) (k:=1) (ki:= .i64) kr kr hv24))) ?_;refine FR AC [p8,(5,e18),p7,(9,.v (.int .i64 v24)),p6,p5,p4,p3,p2,p1] ?_;refine A0 ?_;refine Cw AC 3 ?_;obtain ⟨v25,hv25,h⟩:=OB h;refine Ci AC 0 rfl (Dq (AB rfl) rfl (Ac (a:=e18) (b:= .v (.int .i64 v24)) kr kr (T6 (bytes:=8) hT kr hv25))) ?_;obtain ⟨hp26,hs27,hT28⟩:=RQ (P:=Tryz.prog) (ty:=3) (y:= .v (.int .i64 c3)) (v':=c3) hT (GW hv25).2 kr kr kr;refine RunL.store AC (y:=eAt e18 v24.toNat) (z:= .v (.int .i64 c3)) rfl (AB rfl) kr kr hs27 ?_;refine C1 rfl (SemY.fr (l':=[p8,(5,e18),p7,p6,p5,p4,p3,p2,p1]) kr ?_);refine A0 ?_;refine Cw AC 2 ?_;refine C1 rfl ?_;exact EP WkY.f1 (ih0 (wr .i64 (c21 + 1)) (c22.set v24.toNat c3) _ h  hp26 hT28)
  ·rw [CT hb23] at h
   refine SemY.exit ?_;have hq:=OI h; subst hq;exact ⟨rfl,_,⟨hp,hT,rfl⟩,WkY.f1⟩
theorem Lt {L:List Asn}(x1:(List A6)) (v1:(List (List Int))):∀ (f:Nat) (c3:Int) (c5:(List Int)) (r:((List Int))),DH x1 v1 f c3 c5=some r->∀ (e4:AV) (hp:Hp),T hp ((own_ (ocL 1 3 (ocV cdI)) e4 c5)::L)->SemYN E0 ⟨none,false⟩ (pc Fc [1,1,0,1,0,0]) f ⟨Fr 37 [(1,.sl 9 (x1.map AG.enc)),(5,e4),(12,.sl 1 (v1.map (cdL 1 cdI).enc)),(13,.v (.int .i64 (v1.length:Int))),(14,.v (.int .i64 c3))],hp⟩ (fun e s=>e=(.exit 0)/\∃ s2,(∃ (e33:AV) (h':Hp),T h' ((own_ (ocL 1 3 (ocV cdI)) e33 r)::L)/\s2=⟨Fr 37 [(5,e33)],h'⟩)/\WkY E0 s s2):=by
 intro f;induction f with
 | zero=>intro c3 c5 r h; cases h
 | succ f ih0 =>
  intro c3 c5 r h e4 hp hT;unfold DH at h;refine F3 ?_
  let p1:Nat×AV:=(14,.v (.int .i64 c3))
  let p2:Nat×AV:=(13,.v (.int .i64 (v1.length:Int)))
  let p3:Nat×AV:=(12,.sl 1 (v1.map (cdL 1 cdI).enc))
  let p4:Nat×AV:=(1,.sl 9 (x1.map AG.enc))
  refine Dk AC [p4,(5,e4),p3,p2,p1,(15,.v (.bool (decide (c3 < (v1.length:Int)))))] ?_;refine BN ?_;refine FB (b:=(decide (c3 < (v1.length:Int)))) kr (fun hb6=>?_) (fun hb6=>?_)
  ·rw [if_pos hb6] at h
   refine SemY.skip ?_;refine BN ?_;refine Ct ?_;refine BN ?_;refine A0 ?_;refine Cw AC 1 ?_;obtain ⟨v7,hv7,h⟩:=OB h;refine Ci AC 0 rfl (Dq (AB rfl) rfl (Ac (a:= .sl 1 (v1.map (cdL 1 cdI).enc)) (b:= .v (.int .i64 c3)) kr kr (Fa (e:=(cdL 1 cdI).enc) (el:=48) (k:=1) (ki:= .i64) kr kr hv7))) ?_
   let p5:Nat×AV:=(6,.v (.int .i64 c3))
   refine FR AC [p4,(5,e4),p5,(7,.sl 1 (v7.map cdI.enc)),p3,p2,p1] ?_;refine BN ?_;refine Dk AC [p4,(5,e4),p5,(7,.sl 1 (v7.map cdI.enc)),p3,p2,p1,(20,.v (.bool (c3==0)))] ?_;obtain ⟨r17,hr17,h⟩:=OB h;refine NF (Ls x1 c3 c5 v1 e4 v7 _ hr17 hT) ?_;rintro _ ⟨e18,hp19,hT20,rfl⟩;refine BN ?_;refine A0 ?_;refine Cw AC 1 ?_;refine Ci AC 0 rfl (Dq (AB rfl) rfl (Dg (a:= .sl 1 (v7.map cdI.enc)) kr (CW (el:=3) kr))) ?_;refine FR AC [p4,(5,e18),p5,p3,p2,p1,(24,.sl 1 (v7.map cdI.enc)),(25,.v (.int .i64 (v7.length:Int))),(26,.v (.int .i64 0))] ?_;refine Ct ?_;refine SemY.loop (n:=100000) ?_;obtain ⟨r30,hr30,h⟩:=OB h;refine FS (EP WkY.f1 (Lu c3 v7 x1 v1 e18 _ 0 r17 _ hr30  hp19 hT20)) ?_;rintro _ ⟨hp31,hT32,rfl⟩;refine A0 ?_;refine Cw AC 2 ?_;refine C1 rfl ?_;exact EP WkY.f1 (ih0 (wr .i64 (c3 + 1)) r30 _ h e18 hp31 hT32)
  ·rw [CT hb6] at h
   refine SemY.exit ?_;have hq:=OI h; subst hq;exact ⟨rfl,_,⟨e4,hp,hT,rfl⟩,WkY.f1⟩
theorem NL {L:List Asn}{hp:Hp}(x0:(List AF)) (x1:(List A6)) (r:(List Int)) (h:Fo x0 x1=some r) (hT:T hp (L)):SemY E0 ⟨none,false⟩ Fc ⟨Fr 37 (BG 0 [.sl 5 (x0.map AA.enc),.sl 9 (x1.map AG.enc)]),hp⟩ fun x s'=>(x = .normal\/x = .ret)/\∃ ys,Ef E0.P s'.fr s'.hp Tryz.f25.results.toList=some ys/\(fun v h'=>v = .sl 1 (r.map cdI.enc)/\T h' (L)) (Eh ys) s'.hp:=by
 unfold Fo at h
 let p1:Nat×AV:=(1,.sl 9 (x1.map AG.enc))
 let p2:Nat×AV:=(0,.sl 5 (x0.map AA.enc))
 refine KS (Kv (s1:=⟨Fr 37 [p2,p1],hp⟩) WkY.f1 ?_);refine Dk AC [p2,p1] ?_;refine Dk AC [p2,p1,(5,.e0)] ?_;refine BN ?_;refine BN ?_;refine A0 ?_;refine Cw AC 2 ?_;obtain ⟨v1,hv1,h⟩:=OB h;refine SM (v:=v1) (caps:=[]) (xs:=[.sl 5 (x0.map AA.enc),.sl 9 (x1.map AG.enc)]) (u:=(x0,x1,())) rfl rfl JX rfl (AB rfl) kr kr (F0 (KR (c:=(cdL 5 AA)) (v:=x0)) (F0 (KR (c:=(cdL 9 AG)) (v:=x1)) SeesD.nil)) (.inr ⟨by kernel_rfl,G4.de (x0,x1,())⟩) hv1 ?_;refine Ci AC 0 rfl (Dq (AB rfl) rfl (Dg (a:= .sl 1 (v1.map (cdL 1 cdI).enc)) kr (CW (el:=48) kr))) ?_;refine FR AC [p1,(5,.e0),(12,.sl 1 (v1.map (cdL 1 cdI).enc)),(13,.v (.int .i64 (v1.length:Int))),(14,.v (.int .i64 0))] ?_;refine Ct ?_
 have hT2:=(T.e0 (k:=1) (ty:=3) (o:=(ocV cdI)) hT)
 refine SemY.loop (n:=100000) ?_;obtain ⟨r35,hr35,h⟩:=OB h;refine FS (EP WkY.f1 (Lt x1 v1 _ 0 ([]:(List Int)) _ hr35 .e0 hp hT2)) ?_;rintro _ ⟨e36,hp37,hT38,rfl⟩;refine Dk AC [(4,e36)] ?_;refine SemY.ret ?_;have hq:=OI h; subst hq;obtain ⟨hp39,hw40,hT41⟩:=M1 (E:=E0) (n:=37) (l:=[(4,e36)]) (l':=[(4,.sl 1 (r35.map cdI.enc))]) hT38 (LkT.at_ ⟨.inr ⟨kr,rfl⟩,trivial⟩);exact ⟨⟨Fr 37 [(4,.sl 1 (r35.map cdI.enc))],hp39⟩,(WkY.trans (WkY.trans WkY.f1 hw40) WkY.f1),.inr rfl,[.sl 1 (r35.map cdI.enc)],kr,⟨rfl,hT41⟩⟩
def Kl:Cs ((List AF)×(List A6)×Unit):=(csC (cdL 5 AA) (csC (cdL 9 AG) csN))
def Kn (r:(List Int)):AV:=(cdL 1 cdI).enc r
def Pe:List AV->Option AV:=Dx Kl (fun a=>Fo a.1 a.2.1) Kn
theorem Po:XOk 25 Pe:=by
 refine AU Tryz.func25 (c:=Fc) ?h2 ⟨Tryz.call25⟩ Kl (fun a=>Fo a.1 a.2.1) Kn (fun a=>(by show 2<=37; decide)) ?h3 ?h4
 case h2=>kernel_rfl
 case h3=>intro b; kernel_rfl
 case h4 =>
  intro a b h;refine Sem.mono (Qq (NL (L:=[]) (hp:=[]) a.1 a.2.1 b h T.nil)) fun e s' hs=>?_
  obtain ⟨h1,ys,h2,h3,-⟩:=hs;exact ⟨h1,ys,h2,h3⟩
/- trestle/court.line -/
noncomputable def JA:Code:=BS Tryz.f81
def D5 (x0:(List (List Int))):Nat->Int->(List Int)->Option (((List Int)) ⊕ (Unit))
 | 0,_,_=>none
 | f + 1,c2,c4 =>
  if (decide (c2 < (x0.length:Int)))=true then
  (idx x0 c2).bind fun v6 =>
  if (decide ((v6.length:Int) > 1))=true then
  some (.inr ())
  else
  if (FZ 8 (c4.length + v6.length))=true then
  D5 x0 f (wr .i64 (c2 + 1)) (c4++v6)
  else none
  else
  some (.inl c4)
def Gs (x0:(List (List Int))):Option ((List Int)×Int) :=
 (D5 x0 100000 0 ([]:(List Int))).bind fun r16 =>
 match r16 with
 | (.inl w17) =>
  some (w17,0)
 | (.inr _w24) =>
  some (([]:(List Int)),32)
theorem Jl {L:List Asn}(x0:(List (List Int))):∀ (f:Nat) (c2:Int) (c4:(List Int)) (r:((List Int)) ⊕ (Unit)),D5 x0 f c2 c4=some r->∀ (e3:AV) (hp:Hp),T hp ((own_ (ocL 1 3 (ocV cdI)) e3 c4)::L)->SemYN E0 ⟨none,false⟩ (pc JA [1,1,0,1,0,0]) f ⟨Fr 21 [(4,e3),(7,.sl 1 (x0.map (cdL 1 cdI).enc)),(8,.v (.int .i64 (x0.length:Int))),(9,.v (.int .i64 c2))],hp⟩ (fun e s=>match r with
 | (.inl w)=>e=(.exit 0)/\∃ s2,(∃ (e14:AV) (h':Hp),T h' ((own_ (ocL 1 3 (ocV cdI)) e14 w)::L)/\s2=⟨Fr 21 [(4,e14)],h'⟩)/\WkY E0 s s2
 | (.inr _w)=>e = .ret/\∃ s2,(∃ (h':Hp),T h' (L)/\s2=⟨Fr 21 [(2,.e0),(3,.v (.int .i64 32))],h'⟩)/\WkY E0 s s2):=by
 intro f;induction f with
 | zero=>intro c2 c4 r h; cases h
 | succ f ih0 =>
  intro c2 c4 r h e3 hp hT;unfold D5 at h;refine F3 ?_
  let p1:Nat×AV:=(9,.v (.int .i64 c2))
  let p2:Nat×AV:=(8,.v (.int .i64 (x0.length:Int)))
  let p3:Nat×AV:=(7,.sl 1 (x0.map (cdL 1 cdI).enc))
  refine Dk AC [(4,e3),p3,p2,p1,(10,.v (.bool (decide (c2 < (x0.length:Int)))))] ?_;refine BN ?_;refine FB (b:=(decide (c2 < (x0.length:Int)))) kr (fun hb5=>?_) (fun hb5=>?_)
  ·rw [if_pos hb5] at h
   refine SemY.skip ?_;refine BN ?_;refine Ct ?_;refine BN ?_;refine A0 ?_;obtain ⟨v6,hv6,h⟩:=OB h;refine Ci AC 0 rfl (Dq (AB rfl) rfl (Ac (a:= .sl 1 (x0.map (cdL 1 cdI).enc)) (b:= .v (.int .i64 c2)) kr kr (Fa (e:=(cdL 1 cdI).enc) (el:=48) (k:=1) (ki:= .i64) kr kr hv6))) ?_;refine FR AC [(4,e3),(6,.sl 1 (v6.map cdI.enc)),p3,p2,p1] ?_;refine BN ?_;refine BN ?_;refine A0 ?_;refine Cw AC 1 ?_;refine Ci AC 0 rfl (Dq (AB rfl) rfl (Dg (a:= .sl 1 (v6.map cdI.enc)) kr (CW (el:=3) kr))) ?_;refine FR AC [(4,e3),(6,.sl 1 (v6.map cdI.enc)),p3,p2,p1,(15,.v (.bool (decide ((v6.length:Int) > 1))))] ?_;refine FB (b:=(decide ((v6.length:Int) > 1))) kr (fun hb7=>?_) (fun hb7=>?_)
   ·rw [if_pos hb7] at h
    refine Dk AC [(2,.e0),(3,.v (.int .i64 32))] ?_;refine SemY.ret ?_;have hq:=OI h; subst hq
    have hT8:=hT.drop
    exact ⟨rfl,_,⟨hp,hT8,rfl⟩,WkY.f1⟩
   ·rw [CT hb7] at h
    refine SemY.skip ?_;refine A0 ?_;refine Cw AC 2 ?_;by_cases hk13:(FZ 8 (c4.length + v6.length))=true
    case neg=>rw [if_neg hk13] at h; cases h
    rw [if_pos hk13] at h;obtain ⟨e12,hp9,hb10,hT11⟩:=Sy (P:=Tryz.prog) (ty:=48) (ty2:=48) (bytes:=8) (y:= .sl 1 (v6.map cdI.enc)) (ys:=v6) hT kr Rn kr hk13;refine Ci AC 0 rfl (T7 (AB rfl) rfl kr kr (Hy (a:=e3) (b:= .sl 1 (v6.map cdI.enc)) kr kr hb10)) ?_;refine FR AC [(4,e12),p3,p2,p1] ?_;refine A0 ?_;refine Cw AC 2 ?_;refine C1 rfl ?_;exact EP WkY.f1 (ih0 (wr .i64 (c2 + 1)) (c4++v6) _ h e12 hp9 hT11)
  ·rw [CT hb5] at h
   refine SemY.exit ?_;have hq:=OI h; subst hq;exact ⟨rfl,_,⟨e3,hp,hT,rfl⟩,WkY.f1⟩
theorem OO {L:List Asn}{hp:Hp}(x0:(List (List Int))) (r:(List Int)×Int) (h:Gs x0=some r) (hT:T hp (L)):SemY E0 ⟨none,false⟩ JA ⟨Fr 21 (BG 0 [.sl 1 (x0.map (cdL 1 cdI).enc)]),hp⟩ fun x s'=>(x = .normal\/x = .ret)/\∃ ys,Ef E0.P s'.fr s'.hp Tryz.f81.results.toList=some ys/\(fun v h'=>v = .tp [.sl 1 (r.1.map cdI.enc),.v (.int .i64 r.2)]/\T h' (L)) (Eh ys) s'.hp:=by
 unfold Gs at h
 let p1:Nat×AV:=(0,.sl 1 (x0.map (cdL 1 cdI).enc))
 refine KS (Kv (s1:=⟨Fr 21 [p1],hp⟩) WkY.f1 ?_);refine Dk AC [p1] ?_;refine Dk AC [p1,(4,.e0)] ?_;refine BN ?_;refine BN ?_;refine A0 ?_;refine Cw AC 1 ?_;refine Ci AC 0 rfl (Dq (AB rfl) rfl (Dg (a:= .sl 1 (x0.map (cdL 1 cdI).enc)) kr (CW (el:=48) kr))) ?_;refine FR AC [(4,.e0),(7,.sl 1 (x0.map (cdL 1 cdI).enc)),(8,.v (.int .i64 (x0.length:Int))),(9,.v (.int .i64 0))] ?_;refine Ct ?_
 have hT1:=(T.e0 (k:=1) (ty:=3) (o:=(ocV cdI)) hT)
 refine SemY.loop (n:=100000) ?_;obtain ⟨r16,hr16,h⟩:=OB h;rcases r16 with w17 | w24
 ·try dsimp only at h
  refine FS (EP WkY.f1 (Jl x0 _ 0 ([]:(List Int)) _ hr16 .e0 hp hT1)) ?_;rintro _ ⟨e18,hp19,hT20,rfl⟩
  let p2:Nat×AV:=(3,.v (.int .i64 0))
  refine Dk AC [(2,e18),p2] ?_;refine SemY.ret ?_;have hq:=OI h; subst hq;obtain ⟨hp21,hw22,hT23⟩:=M1 (E:=E0) (n:=21) (l:=[(2,e18),p2]) (l':=[(2,.sl 1 (w17.map cdI.enc)),p2]) hT20 (LkT.at_ ⟨.inr ⟨kr,rfl⟩,.inl kr,trivial⟩);exact ⟨⟨Fr 21 [(2,.sl 1 (w17.map cdI.enc)),p2],hp21⟩,(WkY.trans (WkY.trans WkY.f1 hw22) WkY.f1),.inr rfl,[.sl 1 (w17.map cdI.enc),.v (.int .i64 0)],kr,⟨rfl,hT23⟩⟩
 ·try dsimp only at h
  refine FS (EP WkY.f1 (Jl x0 _ 0 ([]:(List Int)) _ hr16 .e0 hp hT1)) ?_;rintro _ ⟨hp25,hT26,rfl⟩;have hq:=OI h; subst hq
  have hT27:=(T.e0 (k:=1) (ty:=3) (o:=(ocV cdI)) hT26)
  let p3:Nat×AV:=(3,.v (.int .i64 32))
  let p4:Nat×AV:=(2,.sl 1 (([]:(List Int)).map cdI.enc))
  obtain ⟨hp28,hw29,hT30⟩:=M1 (E:=E0) (n:=21) (l:=[(2,.e0),p3]) (l':=[p4,p3]) hT27 (LkT.at_ ⟨.inr ⟨kr,rfl⟩,.inl kr,trivial⟩);exact ⟨⟨Fr 21 [p4,p3],hp28⟩,(WkY.trans (WkY.trans WkY.f1 hw29) WkY.f1),.inr rfl,[.sl 1 (([]:(List Int)).map cdI.enc),.v (.int .i64 32)],kr,⟨rfl,hT30⟩⟩
def LO:Cs ((List (List Int))×Unit):=(csC (cdL 1 (cdL 1 cdI)) csN)
def LT (r:(List Int)×Int):AV:= .tp [(cdL 1 cdI).enc r.1,cdI.enc r.2]
def QY:List AV->Option AV:=Dx LO (fun a=>Gs a.1) LT
theorem Ql:XOk 81 QY:=by
 refine AU Tryz.func81 (c:=JA) ?h2 ⟨Tryz.call81⟩ LO (fun a=>Gs a.1) LT (fun a=>(by show 1<=21; decide)) ?h3 ?h4
 case h2=>kernel_rfl
 case h3=>intro b; kernel_rfl
 case h4 =>
  intro a b h;refine Sem.mono (Qq (OO (L:=[]) (hp:=[]) a.1 b h T.nil)) fun e s' hs=>?_
  obtain ⟨h1,ys,h2,h3,-⟩:=hs;exact ⟨h1,ys,h2,h3⟩
/- trestle/court.Line -/
noncomputable def LD:Code:=BS Tryz.f26
def Gr (x0:(List AF)) (x1:(List A6)):Option ((List Int)×Int) :=
 (FD x0).bind fun v1 =>
 if (v1.2 != 0)=true then
 some ([],v1.2)
 else
 if (decide ((x1.length:Int) > 64))=true then
 some ([],7)
 else
 (En x0 x1).bind fun v4 =>
 (Gs v4).bind fun v5 =>
 some (v5.1,v5.2)
def JD:Cs ((List AF)×(List A6)×Unit):=(csC (cdL 5 AA) (csC (cdL 9 AG) csN))
def JI (r:(List Int)×Int):AV:= .tp [(cdL 1 cdI).enc r.1,cdI.enc r.2]
theorem OM (x0:(List AF)) (x1:(List A6)) (r:(List Int)×Int) (h:Gr x0 x1=some r):Sem E0 ⟨none,false⟩ LD ⟨Fr 25 (BG 0 (JD.enc (x0,x1,()))),[]⟩ fun e s'=>(e = .normal\/e = .ret)/\∃ xs,Ef E0.P s'.fr s'.hp Tryz.f26.results.toList=some xs/\Eh xs=JI r:=by
 unfold Gr at h
 let p1:Nat×AV:=(1,.sl 9 (x1.map AG.enc))
 let p2:Nat×AV:=(0,.sl 5 (x0.map AA.enc))
 refine A7 (Bt (s1:=⟨Fr 25 [p2,p1],[]⟩) AL ?_);refine AK AC [p2,p1] [] ?_;refine AH ?_;refine AH ?_;obtain ⟨v1,hv1,h⟩:=OB h;refine AI (s1:=⟨Fr 25 [p2,p1,(7,.v (.int .i64 v1.2))],[]⟩) ?_ ?_
 ·refine AD (n:=25) AC 1 [p2,p1,(9,.sl 5 (x0.map AA.enc))] [] kr ?_
  refine AW (caps:=[]) (xs:=[.sl 5 (x0.map AA.enc)]) (u:=(x0,())) rfl rfl Lk rfl (AB rfl) kr kr (AN (AZ (c:=(cdL 5 AA)) (v:=x0)) BA) (.inl kr) hv1 ?_;exact AY AC
 refine AK AC [p2,p1,(7,.v (.int .i64 v1.2)),(14,.v (.bool (v1.2 != 0)))] [] ?_;refine AO (b:=(v1.2 != 0)) kr (fun hb2=>?_) (fun hb2=>?_)
 ·rw [if_pos hb2] at h
  let p3:Nat×AV:=(5,.v (.int .i64 v1.2))
  refine AK AC [(4,.e0),p3] [] ?_;refine AQ ?_;have hq:=OI h; subst hq;exact ⟨⟨Fr 25 [(4,.sl 1 ([].map cdI.enc)),p3],[]⟩,(Wk.trans (s1:=⟨Fr 25 [(4,.e0),p3],[]⟩) AL (Wk.trans (s1:=⟨Fr 25 [(4,.e0),p3],[none]⟩) Wk.none (Wk.trans (s1:=⟨Fr 25 [(4,.sl 1 ([].map cdI.enc)),p3],[none]⟩) (HM 0 (.inr kr) ⟨.inl rfl,trivial⟩ ⟨⟨.e0,kr,QC⟩,⟨.v (.int .i64 v1.2),kr,.inl rfl⟩,trivial⟩) (An [] trivial ⟨lv,lv,trivial⟩)))),.inr rfl,[.sl 1 ([].map cdI.enc),.v (.int .i64 v1.2)],kr,kr⟩
 ·rw [CT hb2] at h
  refine AS ?_;refine AH ?_;refine AH ?_;refine AI (s1:=⟨Fr 25 [p2,p1,(18,.v (.bool (decide ((x1.length:Int) > 64))))],[]⟩) ?_ ?_
  ·refine AD (n:=25) AC 1 [p2,p1,(16,.sl 9 (x1.map AG.enc))] [] kr ?_
   refine AP AC 0 rfl (Dq (AB rfl) rfl (Dg (a:= .sl 9 (x1.map AG.enc)) kr (CW (el:=42) kr))) ?_;exact AY AC
  refine AO (b:=(decide ((x1.length:Int) > 64))) kr (fun hb3=>?_) (fun hb3=>?_)
  ·rw [if_pos hb3] at h
   let p4:Nat×AV:=(5,.v (.int .i64 7))
   refine AK AC [(4,.e0),p4] [] ?_;refine AQ ?_;have hq:=OI h; subst hq;exact ⟨⟨Fr 25 [(4,.sl 1 ([].map cdI.enc)),p4],[]⟩,(Wk.trans (s1:=⟨Fr 25 [(4,.e0),p4],[]⟩) AL (Wk.trans (s1:=⟨Fr 25 [(4,.e0),p4],[none]⟩) Wk.none (Wk.trans (s1:=⟨Fr 25 [(4,.sl 1 ([].map cdI.enc)),p4],[none]⟩) (HM 0 (.inr kr) ⟨.inl rfl,trivial⟩ ⟨⟨.e0,kr,QC⟩,⟨.v (.int .i64 7),kr,.inl rfl⟩,trivial⟩) (An [] trivial ⟨lv,lv,trivial⟩)))),.inr rfl,[.sl 1 ([].map cdI.enc),.v (.int .i64 7)],kr,kr⟩
  ·rw [CT hb3] at h
   refine AS ?_;refine AH ?_;obtain ⟨v4,hv4,h⟩:=OB h;obtain ⟨v5,hv5,h⟩:=OB h;refine AI (s1:=⟨Fr 25 [(4,.sl 1 (v5.1.map cdI.enc)),(5,.v (.int .i64 v5.2))],[]⟩) ?_ ?_
   ·refine AD (n:=25) AC 2 [(19,.sl 5 (x0.map AA.enc)),(20,.sl 9 (x1.map AG.enc))] [] kr ?_
    refine AW (caps:=[]) (xs:=[.sl 5 (x0.map AA.enc),.sl 9 (x1.map AG.enc)]) (u:=(x0,x1,())) rfl rfl JX rfl (AB rfl) kr kr (AN (AZ (c:=(cdL 5 AA)) (v:=x0)) (AN (AZ (c:=(cdL 9 AG)) (v:=x1)) BA)) (.inr kr) hv4 ?_;refine AW (caps:=[]) (xs:=[.sl 1 (v4.map (cdL 1 cdI).enc)]) (u:=(v4,())) rfl rfl Ql rfl (AB rfl) kr kr (AN (AZ (c:=(cdL 1 (cdL 1 cdI))) (v:=v4)) BA) (.inr kr) hv5 ?_;exact AY AC
   refine AQ ?_;have hq:=OI h; subst hq;exact ⟨⟨Fr 25 [(4,.sl 1 (v5.1.map cdI.enc)),(5,.v (.int .i64 v5.2))],[]⟩,AL,.inr rfl,[.sl 1 (v5.1.map cdI.enc),.v (.int .i64 v5.2)],kr,kr⟩
def QW:List AV->Option AV:=Dx JD (fun a=>Gr a.1 a.2.1) JI
theorem Qk:XOk 26 QW:=by
 refine AU Tryz.func26 (c:=LD) ?h2 ⟨Tryz.call26⟩ JD (fun a=>Gr a.1 a.2.1) JI (fun a=>(by show 2<=25; decide)) ?h3 ?h4
 case h2=>kernel_rfl
 case h3=>intro b; kernel_rfl
 case h4=>exact fun a b h=>OM a.1 a.2.1 b h
/- cmp.Less[int] -/
noncomputable def J6:Code:=BS Tryz.f82
def FC (x0:Int) (x1:Int):Option (Bool) :=
 (DG x0).bind fun v1 =>
 (if v1=true then (DG x1).bind fun v2 =>
 if (!v2)=true then some true else some (decide (x0 < x1)) else some (decide (x0 < x1))).bind fun j4 =>
 some j4
def H8:Cs (Int×Int×Unit):=(csC cdI (csC cdI csN))
def IE (r:Bool):AV:=cdB.enc r
theorem Me (x0:Int) (x1:Int) (r:Bool) (h:FC x0 x1=some r):Sem E0 ⟨none,false⟩ J6 ⟨Fr 17 (BG 0 (H8.enc (x0,x1,()))),[]⟩ fun e s'=>(e = .normal\/e = .ret)/\∃ xs,Ef E0.P s'.fr s'.hp Tryz.f82.results.toList=some xs/\Eh xs=IE r:=by
 unfold FC at h;refine A7 (Bt (s1:=⟨Fr 17 [(0,.v (.int .i64 x0)),(1,.v (.int .i64 x1))],[]⟩) AL ?_);refine AK AC [(0,.v (.int .i64 x0)),(1,.v (.int .i64 x1))] [] ?_;refine AH ?_;obtain ⟨v1,hv1,h⟩:=OB h;obtain ⟨j4,hj4,h⟩:=OB h;refine AI (s1:=⟨Fr 17 [(4,.v (.bool j4))],[]⟩) ?_ ?_
 ·refine AD (n:=17) AC 1 [(0,.v (.int .i64 x0)),(1,.v (.int .i64 x1)),(5,.v (.int .i64 x0))] [] kr ?_
  refine AW (caps:=[]) (xs:=[.v (.int .i64 x0)]) (u:=(x0,())) rfl rfl Gi rfl (AB rfl) kr kr (AN (AZ (c:=cdI) (v:=x0)) BA) (.inl kr) hv1 ?_;refine AD (n:=17) AC 1 [(0,.v (.int .i64 x0)),(1,.v (.int .i64 x1)),(7,.v (.bool v1))] [] kr ?_;rcases BE v1 with hc5 | hc5
  ·rw [if_pos hc5] at hj4
   rw [hc5];refine AD (n:=17) AC 1 [(0,.v (.int .i64 x0)),(1,.v (.int .i64 x1)),(7,.v (.bool true)),(8,.v (.int .i64 x1))] [] kr ?_;obtain ⟨v2,hv2,hj4⟩:=OB hj4;refine AW (caps:=[]) (xs:=[.v (.int .i64 x1)]) (u:=(x1,())) rfl rfl Gi rfl kr kr kr (AN (AZ (c:=cdI) (v:=x1)) BA) (.inl kr) hv2 ?_;refine AD (n:=17) AC 3 [(0,.v (.int .i64 x0)),(1,.v (.int .i64 x1)),(12,.v (.bool (!v2)))] [] kr ?_;rcases BE (!v2) with hc6 | hc6
   ·rw [if_pos hc6] at hj4
    rw [hc6];refine AD (n:=17) AC 5 [(4,.v (.bool true))] [] kr ?_;have hq:=OI hj4; subst hq;exact AJ rfl AL
   ·rw [CT hc6] at hj4
    rw [hc6];refine AD (n:=17) AC 5 [(4,.v (.bool (decide (x0 < x1))))] [] kr ?_;have hq:=OI hj4; subst hq;exact AJ rfl AL
  ·rw [CT hc5] at hj4
   rw [hc5];refine AD (n:=17) AC 10 [(4,.v (.bool (decide (x0 < x1))))] [] kr ?_;have hq:=OI hj4; subst hq;exact AJ rfl AL
 refine AQ ?_;have hq:=OI h; subst hq;exact ⟨⟨Fr 17 [(4,.v (.bool j4))],[]⟩,AL,.inr rfl,[.v (.bool j4)],kr,kr⟩
def OV:List AV->Option AV:=Dx H8 (fun a=>FC a.1 a.2.1) IE
theorem Od:XOk 82 OV:=by
 refine AU Tryz.func82 (c:=J6) ?h2 ⟨Tryz.call82⟩ H8 (fun a=>FC a.1 a.2.1) IE (fun a=>(by show 2<=17; decide)) ?h3 ?h4
 case h2=>kernel_rfl
 case h3=>intro b; kernel_rfl
 case h4=>exact fun a b h=>Me a.1 a.2.1 b h
/- slices.IsSorted[[]int,int] -/
noncomputable def EX:Code:=BS Tryz.f27
def B7 (x0:(List Int)):Nat->Int->Option ((Unit) ⊕ (Bool))
 | 0,_=>none
 | f + 1,c1 =>
  if (decide (c1 > 0))=true then
  (idx x0 c1).bind fun v3 =>
  (idx x0 (wr .i64 (c1 - 1))).bind fun v4 =>
  (FC v3 v4).bind fun v5 =>
  if v5=true then
  some (.inr false)
  else
  B7 x0 f (wr .i64 (c1 - 1))
  else
  some (.inl ())
def CO (x0:(List Int)):Option (Bool) :=
 (B7 x0 100000 (wr .i64 ((x0.length:Int) - 1))).bind fun r8 =>
 match r8 with
 | (.inl _w9) =>
  some true
 | (.inr w10) =>
  some w10
def EZ:Cs ((List Int)×Unit):=(csC (cdL 1 cdI) csN)
def Ea (r:Bool):AV:=cdB.enc r
theorem FP (x0:(List Int)):∀ (f:Nat) (c1:Int) (r:(Unit) ⊕ (Bool)),B7 x0 f c1=some r->SemN E0 ⟨none,false⟩ (pc EX [1,0,1,0,0]) f ⟨Fr 21 [(0,.sl 1 (x0.map cdI.enc)),(3,.v (.int .i64 c1))],[]⟩ (fun e s=>match r with
 | (.inl _w)=>e=(.exit 0)/\Wk E0 s ⟨Fr 21 [],[]⟩
 | (.inr w)=>e = .ret/\Wk E0 s ⟨Fr 21 [(2,.v (.bool w))],[]⟩):=by
 intro f;induction f with
 | zero=>intro c1 r h; cases h
 | succ f ih0 =>
  intro c1 r h
  have ih:=fun (c1:Int)=>ih0 c1 r
  unfold B7 at h;refine Ch ?_;refine AH ?_
  let p1:Nat×AV:=(3,.v (.int .i64 c1))
  let p2:Nat×AV:=(0,.sl 1 (x0.map cdI.enc))
  refine AK AC [p2,p1,(8,.v (.bool (decide (c1 > 0))))] [] ?_;refine AO (b:=(decide (c1 > 0))) kr (fun hb2=>?_) (fun hb2=>?_)
  ·rw [if_pos hb2] at h
   refine AS ?_;refine AH ?_;refine Ay ?_;refine AH ?_;obtain ⟨v3,hv3,h⟩:=OB h;obtain ⟨v4,hv4,h⟩:=OB h;obtain ⟨v5,hv5,h⟩:=OB h;refine ES AC (s1:=⟨Fr 21 [p2,p1,(20,.v (.bool v5))],[]⟩) kr ?_ ?_
   ·refine Ar (n:=21) AC 2 [p2,p1,(11,.sl 1 (x0.map cdI.enc)),(12,.v (.int .i64 c1))] [] kr kr ?_
    refine RunDS.one AC rfl kr (Ng kr (AB rfl) rfl (Ac (a:= .sl 1 (x0.map cdI.enc)) (b:= .v (.int .i64 c1)) kr kr (Fa (e:=cdI.enc) (el:=3) (k:=1) (ki:= .i64) kr kr hv3)) kr) ?_;refine Ar (n:=21) AC 4 [p2,p1,(14,.v (.int .i64 v3)),(15,.sl 1 (x0.map cdI.enc)),(17,.v (.int .i64 (wr .i64 (c1 - 1))))] [] kr kr ?_;refine RunDS.one AC rfl kr (Ng kr (AB rfl) rfl (Ac (a:= .sl 1 (x0.map cdI.enc)) (b:= .v (.int .i64 (wr .i64 (c1 - 1)))) kr kr (Fa (e:=cdI.enc) (el:=3) (k:=1) (ki:= .i64) kr kr hv4)) kr) ?_;refine Ar (n:=21) AC 1 [p2,p1,(14,.v (.int .i64 v3)),(19,.v (.int .i64 v4))] [] kr kr ?_;refine B9 (caps:=[]) (xs:=[.v (.int .i64 v3),.v (.int .i64 v4)]) (u:=(v3,v4,())) rfl rfl Od rfl (AB rfl) kr kr (AN (AZ (c:=cdI) (v:=v3)) (AN (AZ (c:=cdI) (v:=v4)) BA)) kr hv5 ?_;exact RunDS.done rfl AL
   refine AO (b:=v5) kr (fun hb6=>?_) (fun hb6=>?_)
   ·rw [if_pos hb6] at h
    refine AK AC [(2,.v (.bool false))] [] ?_;refine AQ ?_;have hq:=OI h; subst hq;exact ⟨rfl,AL⟩
   ·rw [CT hb6] at h
    refine AS ?_
    let p3:Nat×AV:=(3,.v (.int .i64 (wr .i64 (c1 - 1))))
    refine DO AC [p2,p3] [] ?_;exact A9 (s1:=⟨Fr 21 [p2,p3],[]⟩) AL (ih (wr .i64 (c1 - 1)) h)
  ·rw [CT hb2] at h
   refine DE ?_;have hq:=OI h; subst hq;exact ⟨rfl,AL⟩
theorem Ir (x0:(List Int)) (r:Bool) (h:CO x0=some r):Sem E0 ⟨none,false⟩ EX ⟨Fr 21 (BG 0 (EZ.enc (x0,()))),[]⟩ fun e s'=>(e = .normal\/e = .ret)/\∃ xs,Ef E0.P s'.fr s'.hp Tryz.f27.results.toList=some xs/\Eh xs=Ea r:=by
 unfold CO at h
 let p1:Nat×AV:=(0,.sl 1 (x0.map cdI.enc))
 refine A7 (Bt (s1:=⟨Fr 21 [p1],[]⟩) AL ?_);refine AK AC [p1] [] ?_;refine AH ?_;refine AH ?_
 let p2:Nat×AV:=(3,.v (.int .i64 (wr .i64 ((x0.length:Int) - 1))))
 refine AI (s1:=⟨Fr 21 [p1,p2],[]⟩) ?_ ?_
 ·refine AD (n:=21) AC 1 [p1,(4,.sl 1 (x0.map cdI.enc))] [] kr ?_
  refine AP AC 0 rfl (Dq (AB rfl) rfl (Dg (a:= .sl 1 (x0.map cdI.enc)) kr (CW (el:=3) kr))) ?_;exact AY AC
 refine Ay ?_;obtain ⟨r8,hr8,h⟩:=OB h;refine DF (n:=100000) ?_;rcases r8 with w9 | w10
 ·try dsimp only at h
  refine Bd (A9 (s1:=⟨Fr 21 [p1,p2],[]⟩) AL (FP x0 _ (wr .i64 ((x0.length:Int) - 1)) _ hr8)) ?_;refine AK AC [(2,.v (.bool true))] [] ?_;refine AQ ?_;have hq:=OI h; subst hq;exact ⟨⟨Fr 21 [(2,.v (.bool true))],[]⟩,AL,.inr rfl,[.v (.bool true)],kr,kr⟩
 ·try dsimp only at h
  refine Bd (A9 (s1:=⟨Fr 21 [p1,p2],[]⟩) AL (FP x0 _ (wr .i64 ((x0.length:Int) - 1)) _ hr8)) ?_;have hq:=OI h; subst hq;exact ⟨⟨Fr 21 [(2,.v (.bool w10))],[]⟩,AL,.inr rfl,[.v (.bool w10)],kr,kr⟩
def JS:List AV->Option AV:=Dx EZ (fun a=>CO a.1) Ea
theorem JY:XOk 27 JS:=by
 refine AU Tryz.func27 (c:=EX) ?h2 ⟨Tryz.call27⟩ EZ (fun a=>CO a.1) Ea (fun a=>(by show 1<=21; decide)) ?h3 ?h4
 case h2=>kernel_rfl
 case h3=>intro b; kernel_rfl
 case h4=>exact fun a b h=>Ir a.1 b h
/- trestle/court.Reason -/
noncomputable def J7:Code:=BS Tryz.f21
def FE (x0:(List AF)) (x1:A6) (x2:A6) (x3:Int) (x4:Int):Option (Int×Int) :=
 (D7 x0).bind fun v1 =>
 if (!v1.2)=true then
 some (0,0)
 else
 (Am v1.1 (x1,x3) (x2,x4)).bind fun v3 =>
 some (v3.1,v3.2)
noncomputable def H9:Cs ((List AF)×A6×A6×Int×Int×Unit):=(csC (cdL 5 AA) (csC AG (csC AG (csC cdI (csC cdI csN)))))
noncomputable def IF (r:Int×Int):AV:= .tp [cdI.enc r.1,cdI.enc r.2]
theorem Mf (x0:(List AF)) (x1:A6) (x2:A6) (x3:Int) (x4:Int) (r:Int×Int) (h:FE x0 x1 x2 x3 x4=some r):Sem E0 ⟨none,false⟩ J7 ⟨Fr 31 (BG 0 (H9.enc (x0,x1,x2,x3,x4,()))),[]⟩ fun e s'=>(e = .normal\/e = .ret)/\∃ xs,Ef E0.P s'.fr s'.hp Tryz.f21.results.toList=some xs/\Eh xs=IF r:=by
 unfold FE at h
 let p1:Nat×AV:=(4,.v (.int .i64 x4))
 let p2:Nat×AV:=(3,.v (.int .i64 x3))
 let p3:Nat×AV:=(0,.sl 5 (x0.map AA.enc))
 refine A7 (Bt (s1:=⟨Fr 31 [p3,(1,AG.enc x1),(2,AG.enc x2),p2,p1],[]⟩) AL ?_)
 let p4:Option Blk:=some ⟨9,42,[AG.enc x2],false⟩
 let p5:Option Blk:=some ⟨9,42,[AG.enc x1],false⟩
 let p6:Nat×AV:=(7,.pt 1 0 0)
 let p7:Nat×AV:=(6,.pt 0 0 0)
 refine AK AC [p3,p2,p1,p7,p6] [p5,p4] ?_;refine AH ?_;obtain ⟨v1,hv1,h⟩:=OB h
 let p8:Nat×AV:=(12,.sl 1 (v1.1.map Bc.enc))
 refine AI (s1:=⟨Fr 31 [p2,p1,p7,p6,p8,(13,.v (.bool v1.2))],[p5,p4]⟩) ?_ ?_
 ·refine AD (n:=31) AC 1 [p2,p1,p7,p6,(15,.sl 5 (x0.map AA.enc))] [p5,p4] kr ?_
  refine AW (caps:=[]) (xs:=[.sl 5 (x0.map AA.enc)]) (u:=(x0,())) rfl rfl Ku rfl (AB rfl) kr kr (AN (AZ (c:=(cdL 5 AA)) (v:=x0)) BA) (.inr kr) hv1 ?_;exact AY AC
 refine AH ?_;refine AK AC [p2,p1,p7,p6,p8,(20,.v (.bool (!v1.2)))] [p5,p4] ?_;refine AO (b:=(!v1.2)) kr (fun hb2=>?_) (fun hb2=>?_)
 ·rw [if_pos hb2] at h
  refine AH ?_
  let p9:Nat×AV:=(11,.v (.int .i64 0))
  let p10:Nat×AV:=(10,.v (.int .i64 0))
  refine AI (s1:=⟨Fr 31 [p10,p9],[]⟩) ?_ ?_
  ·refine AD (n:=31) AC 2 [p10,p9] [p5,p4] kr ?_
   exact AJ rfl (An [] trivial ⟨lv,lv,trivial⟩)
  refine AQ ?_;have hq:=OI h; subst hq;exact ⟨⟨Fr 31 [p10,p9],[]⟩,AL,.inr rfl,[.v (.int .i64 0),.v (.int .i64 0)],kr,kr⟩
 ·rw [CT hb2] at h
  refine AS ?_;refine AH ?_;obtain ⟨v3,hv3,h⟩:=OB h
  let p11:Nat×AV:=(11,.v (.int .i64 v3.2))
  let p12:Nat×AV:=(10,.v (.int .i64 v3.1))
  refine AI (s1:=⟨Fr 31 [p12,p11],[]⟩) ?_ ?_
  ·refine AD (n:=31) AC 7 [(21,.sl 1 (v1.1.map Bc.enc)),(24,.ag [.st x1.1,.st x1.2.1,.st x1.2.2.1,.v (.int .i64 x1.2.2.2.1),.v (.int .i64 x1.2.2.2.2.1),.st x1.2.2.2.2.2.1,.v (.bool x1.2.2.2.2.2.2.1),.v (.bool x1.2.2.2.2.2.2.2.1),.sl 1 (x1.2.2.2.2.2.2.2.2.map cdS.enc),.v (.int .i64 x3)]),(27,.ag [.st x2.1,.st x2.2.1,.st x2.2.2.1,.v (.int .i64 x2.2.2.2.1),.v (.int .i64 x2.2.2.2.2.1),.st x2.2.2.2.2.2.1,.v (.bool x2.2.2.2.2.2.2.1),.v (.bool x2.2.2.2.2.2.2.2.1),.sl 1 (x2.2.2.2.2.2.2.2.2.map cdS.enc),.v (.int .i64 x4)])] [p5,p4] kr ?_
   refine AW (caps:=[]) (xs:=[.sl 1 (v1.1.map Bc.enc),.ag [.st x1.1,.st x1.2.1,.st x1.2.2.1,.v (.int .i64 x1.2.2.2.1),.v (.int .i64 x1.2.2.2.2.1),.st x1.2.2.2.2.2.1,.v (.bool x1.2.2.2.2.2.2.1),.v (.bool x1.2.2.2.2.2.2.2.1),.sl 1 (x1.2.2.2.2.2.2.2.2.map cdS.enc),.v (.int .i64 x3)],.ag [.st x2.1,.st x2.2.1,.st x2.2.2.1,.v (.int .i64 x2.2.2.2.1),.v (.int .i64 x2.2.2.2.2.1),.st x2.2.2.2.2.2.1,.v (.bool x2.2.2.2.2.2.2.1),.v (.bool x2.2.2.2.2.2.2.2.1),.sl 1 (x2.2.2.2.2.2.2.2.2.map cdS.enc),.v (.int .i64 x4)]]) (u:=(v1.1,(x1,x3),(x2,x4),())) rfl rfl DP rfl (AB rfl) kr kr (AN (AZ (c:=(cdL 1 Bc)) (v:=v1.1)) (AN (AZ (c:=AE) (v:=(x1,x3))) (AN (AZ (c:=AE) (v:=(x2,x4))) BA))) (.inl kr) hv3 ?_;refine AD (n:=31) AC 4 [p12,p11] [p5,p4] kr ?_;exact AJ rfl (An [] trivial ⟨lv,lv,trivial⟩)
  refine AQ ?_;have hq:=OI h; subst hq;exact ⟨⟨Fr 31 [p12,p11],[]⟩,AL,.inr rfl,[.v (.int .i64 v3.1),.v (.int .i64 v3.2)],kr,kr⟩
noncomputable def OW:List AV->Option AV:=Dx H9 (fun a=>FE a.1 a.2.1 a.2.2.1 a.2.2.2.1 a.2.2.2.2.1) IF
theorem Oe:XOk 21 OW:=by
 refine AU Tryz.func21 (c:=J7) ?h2 ⟨Tryz.call21⟩ H9 (fun a=>FE a.1 a.2.1 a.2.2.1 a.2.2.2.1 a.2.2.2.2.1) IF (fun a=>(by show 5<=31; decide)) ?h3 ?h4
 case h2=>kernel_rfl
 case h3=>intro b; kernel_rfl
 case h4=>exact fun a b h=>Mf a.1 a.2.1 a.2.2.1 a.2.2.2.1 a.2.2.2.2.1 b h
/- trestle/court.Compare -/
noncomputable def Ja:Code:=BS Tryz.f22
def D4 (x0:(List AF)) (x1:A6) (x2:A6) (x3:Int) (x4:Int):Option (Int) :=
 (FE x0 x1 x2 x3 x4).bind fun v1 =>
 some v1.2
def HP:Cs ((List AF)×A6×A6×Int×Int×Unit):=(csC (cdL 5 AA) (csC AG (csC AG (csC cdI (csC cdI csN)))))
def Hd (r:Int):AV:=cdI.enc r
theorem Lv (x0:(List AF)) (x1:A6) (x2:A6) (x3:Int) (x4:Int) (r:Int) (h:D4 x0 x1 x2 x3 x4=some r):Sem E0 ⟨none,false⟩ Ja ⟨Fr 23 (BG 0 (HP.enc (x0,x1,x2,x3,x4,()))),[]⟩ fun e s'=>(e = .normal\/e = .ret)/\∃ xs,Ef E0.P s'.fr s'.hp Tryz.f22.results.toList=some xs/\Eh xs=Hd r:=by
 unfold D4 at h
 let p1:Nat×AV:=(0,.sl 5 (x0.map AA.enc))
 refine A7 (Bt (s1:=⟨Fr 23 [p1,(1,AG.enc x1),(2,AG.enc x2),(3,.v (.int .i64 x3)),(4,.v (.int .i64 x4))],[]⟩) AL ?_)
 let p2:Option Blk:=some ⟨9,42,[AG.enc x2],false⟩
 let p3:Option Blk:=some ⟨9,42,[AG.enc x1],false⟩
 refine AK AC [p1,(3,.v (.int .i64 x3)),(4,.v (.int .i64 x4)),(6,.pt 0 0 0),(7,.pt 1 0 0)] [p3,p2] ?_;refine AH ?_;obtain ⟨v1,hv1,h⟩:=OB h;refine AI (s1:=⟨Fr 23 [(12,.v (.int .i64 v1.2))],[]⟩) ?_ ?_
 ·refine AD (n:=23) AC 5 [(14,.sl 5 (x0.map AA.enc)),(15,AG.enc x1),(16,AG.enc x2),(17,.v (.int .i64 x3)),(18,.v (.int .i64 x4))] [p3,p2] kr ?_
  refine AW (caps:=[]) (xs:=[.sl 5 (x0.map AA.enc),AG.enc x1,AG.enc x2,.v (.int .i64 x3),.v (.int .i64 x4)]) (u:=(x0,x1,x2,x3,x4,())) rfl rfl Oe rfl (AB rfl) kr kr (AN (AZ (c:=(cdL 5 AA)) (v:=x0)) (AN (AZ (c:=AG) (v:=x1)) (AN (AZ (c:=AG) (v:=x2)) (AN (AZ (c:=cdI) (v:=x3)) (AN (AZ (c:=cdI) (v:=x4)) BA))))) (.inl kr) hv1 ?_;refine AD (n:=23) AC 5 [(12,.v (.int .i64 v1.2))] [p3,p2] kr ?_;exact AJ rfl (An [] trivial ⟨lv,trivial⟩)
 refine AK AC [(10,.v (.int .i64 v1.2))] [] ?_;refine AQ ?_;have hq:=OI h; subst hq;exact ⟨⟨Fr 23 [(10,.v (.int .i64 v1.2))],[]⟩,AL,.inr rfl,[.v (.int .i64 v1.2)],kr,kr⟩
def No:List AV->Option AV:=Dx HP (fun a=>D4 a.1 a.2.1 a.2.2.1 a.2.2.2.1 a.2.2.2.2.1) Hd
theorem N5:XOk 22 No:=by
 refine AU Tryz.func22 (c:=Ja) ?h2 ⟨Tryz.call22⟩ HP (fun a=>D4 a.1 a.2.1 a.2.2.1 a.2.2.2.1 a.2.2.2.2.1) Hd (fun a=>(by show 5<=23; decide)) ?h3 ?h4
 case h2=>kernel_rfl
 case h3=>intro b; kernel_rfl
 case h4=>exact fun a b h=>Lv a.1 a.2.1 a.2.2.1 a.2.2.2.1 a.2.2.2.2.1 b h
section
variable {E:Env}{w w':World}{Z Z':Nat->Prop}{R R':List RI}{h h':Hp}{base:Bs}{s s':St}{a:Act}{n:Nat}
/-- What a deferred call must bring about when the function below returns: nothing but new blocks. -/
def SK (P:Program) (g:FuncId) (us:List Value):Prop:=∀ w1,CallsDIn (Fw none) 0 P g us.toArray .returning w1 fun e u' w2=>match e with | .returned _=>settle u' = .returning/\w1.grownBy w2 none | _=>False
theorem SR.grown {D:List Deferred}{b':Bs}(sr:SR E base w Z R s a) (hb:b'.n=base.n) (hg:w.grownBy w' none) (hm:MksD base.n w Z R s.hp D b'.D):SR E b' w' Z R s { a with defers:=D }:=by
 have hz:∀ c,Z c->w'.heap[c]? = w.heap[c]?:=fun c hc=>hg.block c (sr.hh.zlt c hc) (by simp)
 refine ⟨sr.hh.keep hg.size (fun c hc=>hg.block c hc (by simp)),sr.fr.off hz,?_,sr.gl.off hz,by rw [hb]; exact Nat.le_trans sr.bs hg.size⟩
 show MksD b'.n _ _ _ _ _ _
 rw [hb]
 exact MksD.imp (fun r h1 h2 h3=>⟨(hg.block r (Jo h1) (by simp)).trans h1,h2,h3⟩) hm
theorem Oq {d:Deferred}{g:FuncId}{fv:_}{cap:Array Value}{us:List Value}(hbD:base.D=[d]) (ht:d.target = .fn fv cap) (hinv:∀ w1,(invoke d.target d.args).run E.P w1 = .ok (.enter g us.toArray) w1) (hcall:SK E.P g us){fn:Func}{S:Value->World->Prop}{xs:List AV}(hres:Ef E.P s.fr s.hp fn.results.toList=some xs)
  (hS:∀ w' u,w.heap.size<=w'.heap.size->w'.os=w.os->w'.tape=w.tape->w'.output=w.output->(∀ c,c < base.n->w'.heap[c]? = w.heap[c]?)->HR w' Z R s.hp->VR w' Z R (Eh xs) u->S u w') :
  ∀ {D:List Deferred} {w1:World},SR E base w1 Z R s { a with defers:=D }->w1.heap.size=w.heap.size->w1.os=w.os->w1.tape=w.tape->w1.output=w.output->(∀ c,c < base.n->w1.heap[c]? = w.heap[c]?) ->
  LeavesInM (Fw none) 0 E.P fn a.tmps (fun e w'=>match e with | .returned v=>S v w' | _=>False) D .returning w1
 | [],w1,sr,hz,ho,ht',hp,hb=>by
  have:=sr.mks
  unfold Mks MksD at this
  rw [hbD] at this
  cases this
 | d'::D,w1,sr,hz,ho,ht',hp,hb=>by
  rcases sr.mks with ⟨Ds',e,hno,hD⟩ | ⟨⟨r,h1,h2,h3,h4,h5,h6⟩,hD⟩
  ·rw [hbD] at e
   injection e with e1 e2
   subst e1 e2
   refine ⟨by simp,.inr ⟨(fun h=>by cases h),fv,cap,g,us.toArray,ht,hinv w1,fun _ _=>trivial,CallsDIn.mono (hcall w1) fun e u' w2 he=>?_⟩⟩
   cases e with
   | returned v =>
    obtain ⟨k1,k2⟩:=he
    dsimp only
    rw [k1]
    refine Hz (base:=⟨base.n,[]⟩) (w:=w2) rfl hres (fun w3 u g1 g2 g3 g4 g5 g6 g7=>hS w3 u ?_ (g2.trans (k2.os.trans ho)) (g3.trans (k2.tape.trans ht')) (g4.trans (k2.output.trans hp)) (fun c hc=>?_) g6 g7) (sr.grown (b':=⟨base.n,[]⟩) rfl k2 hD) rfl rfl rfl rfl (fun _ _=>rfl)
    ·rw [g1,<-hz]; exact k2.size
    ·rw [g5 c hc,k2.block c (Nat.lt_of_lt_of_le hc sr.bs) (by simp)]; exact hb c hc
   | panicked c=>exact he.elim
   | outgrown=>exact he.elim
  ·subst h2
   have hb':∀ c,(Z c\/own R s.hp c)->(w1.putObj r (.deferred none)).heap[c]? = w1.heap[c]?:=fun c hc=>Gg (fun e=>by subst e; exact hc.elim h4 h5)
   exact ⟨by simp,.inl ⟨r,w1.putObj r (.deferred none),rfl,run_takeDeferred h3,Oq hbD ht hinv hcall hres hS ⟨sr.hh.off (Ce _ _ _) hb',sr.fr.off fun c hc=>hb' c (.inl hc),MksD.put hD h6,sr.gl.off fun c hc=>hb' c (.inl hc),by rw [Ce]; exact sr.bs⟩ (by rw [Ce]; exact hz) ho ht' hp (fun c hc=>(Gg (by omega)).trans (hb c hc))⟩⟩
/-- The frame at the entry. -/
theorem Wq {fn:Func}{args:List AV}{us:List Value}(hh:HR w Z R h) (hv:VRs w Z R args us) (hg:GI E w Z):SR E (.of w.heap.size) w Z R ⟨args.map some++List.replicate (fn.ntmps - args.length) (some (.tp [])),h⟩ { tmps:=us.toArray++Array.replicate (fn.ntmps - us.toArray.size) undef,defers:=[] }:=by
 have hul:us.length=args.length:=hv.len
 refine ⟨hh,⟨by simp [hul],fun t x hx=>?_⟩,rfl,hg,Nat.le_refl _⟩
 have e0:us.toArray++Array.replicate (fn.ntmps - us.toArray.size) undef=(us++List.replicate (fn.ntmps - us.length) undef).toArray:=by simp
 rw [e0,Array.getD_eq_getD_getElem?,List.getElem?_toArray]
 by_cases ht:t < args.length
 ·rw [List.getElem?_append_left (by simpa using ht),List.getElem?_map] at hx
  rw [List.getElem?_append_left (by omega)]
  cases hat:args[t]? with
  | none=>rw [hat] at hx; cases hx
  | some q =>
   rw [hat] at hx
   have hx:=OI (OI hx)
   subst hx
   obtain ⟨u,hu1,hu2⟩:=hv.get hat
   rw [hu1]; exact hu2
 ·rw [List.getElem?_append_right (by simp; omega),List.getElem?_replicate] at hx
  split at hx
  ·next hlt =>
   have hx:=OI (OI hx)
   subst hx
   rw [List.getElem?_append_right (by omega),List.getElem?_replicate,if_pos (by rw [hul]; simpa using hlt)]
   exact .tp (us:=[]) rfl (fun i x u hx=>by simp at hx)
  ·cases hx
/-- A function whose body is: A; B; a closure is made and deferred; the rest. -/
theorem P3 (hE:EnvOk E){f g:FuncId}{fn:Func}{A B rest:Code}{id:Nat}{o1 o2:Oper}{args cs xs:List AV}{s1 s2 s3 s4:St}{ex:Ex}{p:Operand}{tys:Array TypeId}{us:List Value}
  (hf:E.P.funcs[f]? = some fn) (hb:fn.body=some (.seq A (.seq B (.seq (.region id #[o1,o2] false) rest)))) (hdA:Ck A=true) (hdB:Ck B=true) (hdR:Ck rest=true)
  (eA:evC E n ⟨none,false⟩ A ⟨args.map some++List.replicate (fn.ntmps - args.length) (some (.tp [])),h⟩=some (.normal,s1)) (eB:evC E n ⟨none,false⟩ B s1=some (.normal,s2)) (hg1:o1.guard=none) (e1:op1 E (evC E n) ⟨none,false⟩ o1 s2=some s3) (hg2:o2.guard=none) (ho2:o2.op = .defer ⟨.value p,#[],tys⟩) (hd2:o2.dst=none) (hp:opA E s3.fr p=some (.fn g [] cs))
  (eR:evC E n ⟨none,false⟩ rest s3=some (ex,s4)) (hex:ex = .normal\/ex = .ret) (hres:Ef E.P s4.fr s4.hp fn.results.toList=some xs) (hcl:Bw E.P g) (hdef:∀ us:List Value,us.length=cs.length->SK E.P g us)
  (hh:HR w Z R h) (hv:VRs w Z R args us) (hg:GI E w Z):Pv E f us w Z R h (Eh xs) s4.hp:=by
 have hCS:=(code_sound hE n).1
 refine callsIn_wide.1 (callsIn_of_wp_marks (F:=Fw none) (n:=0) hf hb trivial ?_)
 refine wpIn_seq (hCS _ A _ .normal s1 hdA eA none (.of w.heap.size) _ _ w Z R (fun _=>rfl) (Wq hh hv hg) (fun y hy=>by cases hy) fun a1 w1 Z1 R1 sr1 st1=>?_)
 refine wpIn_seq (hCS _ B _ .normal s2 hdB eB none (.of w.heap.size) _ _ w1 Z1 R1 (fun _=>rfl) sr1 (fun y hy=>by cases hy) fun a2 w2 Z2 R2 sr2 st2=>?_)
 refine wpIn_seq (wpIn_region_list ?_)
 unfold wpListIn
 rw [if_pos (by simp [Region.wanted,hg1])]
 refine lw_wpIn none (op1_lw hE hCS e1 sr2 fun a3 w3 Z3 R3 sr3 st3=>?_)
 unfold wpListIn
 rw [if_pos (by simp [Region.wanted,hg2])]
 have hvf:=opA_vr sr3 p _ hp
 generalize hva:a3.eval p=va at hvf
 cases hvf with
 | fn hl hl' hx hy =>
  rename_i u1 u2
  have e1':u1=[]:=by simpa using hl
  subst e1'
  have hrun:(o2.semAt (Fw none).round a3.eval).run E.P w3 = .ok (.defer ⟨.fn (.func g) u2.toArray,#[]⟩) w3:=by
   show (o2.semAt none a3.eval).run E.P w3=_
   rw [Oper.semAt_none]
   simp [execOp,ho2,resolve,hva,Deferred.ofValue]
  refine ⟨fun _ _=>trivial,?_⟩
  rw [hrun,Oper.uponIn_defer,hd2]
  have sr4:SR E ⟨w.heap.size,[⟨.fn (.func g) u2.toArray,#[]⟩]⟩ w3 Z3 R3 s3 { a3 with defers:=⟨.fn (.func g) u2.toArray,#[]⟩::a3.defers }:=by
   refine ⟨sr3.hh,sr3.fr,.inl ⟨_,rfl,fun r h=>?_,sr3.mks⟩,sr3.gl,sr3.bs⟩
   unfold R6 at h
   injection h with h
   cases h
  refine hCS _ rest _ ex s4 hdR eR none ⟨w.heap.size,[⟨.fn (.func g) u2.toArray,#[]⟩]⟩ _ _ w3 Z3 R3 (fun _=>rfl) sr4 (fun y hy=>by cases hy) fun a5 w5 Z5 R5 sr5 st5=>?_
  have st:=((st1.trans st2).trans st3).trans st5
  have hle:=Oq (base:=⟨w.heap.size,[⟨.fn (.func g) u2.toArray,#[]⟩]⟩) (w:=w5) (a:=a5) (fn:=fn) (g:=g) (us:=u2) rfl rfl (fun w1=>by simp [invoke,hcl.run]) (hdef u2 hl') (S:=fun v w''=>∃ Z' R',HR w'' Z' R' s4.hp/\VR w'' Z' R' (Eh xs) v/\Step w Z R h w'' Z' R' s4.hp) hres (fun w'' u g1 g2 g3 g4 g5 g6 g7=>⟨Z5,R5,g6,g7,⟨g2.trans st.os,g3.trans st.tape,g4.trans st.output,Nat.le_trans st.size g1,fun c hc hn=>(g5 c hc).trans (st.block c hc hn),st.own_,st.z,st.z',st.r⟩⟩) (D:=a5.defers) (w1:=w5) sr5 rfl rfl rfl rfl (fun _ _=>rfl)
  rcases hex with rfl | rfl
  ·exact hle
  ·exact hle
end
/-- Operations of a deferred call, where nothing is to be recovered. -/
def MA (E:Env):List Oper->St->Option St
 | [],s=>some s
 | o::rest,s=>match o.guard with
  | some _=>none
  | none=>match o.op with
   | .call ⟨.builtin .recover,_,_⟩=>MA E rest ⟨K6 s.fr o.dst (.v .nilIface),s.hp⟩
   | .typeAssert x _ u true=>match opA E s.fr x,E.P.underlying u,F6 E.P u with
    | some (.v .nilIface),some _,some z=>MA E rest ⟨K6 s.fr o.dst (.tp [z,.v (.bool false)]),s.hp⟩
    | _,_,_=>none
   | .store t p q=>match o.dst,opA E s.fr p,opA E s.fr q with
    | none,some y,some z=>match GU E.P s.hp t y z with
     | some h=>MA E rest ⟨s.fr,h⟩
     | none=>none
    | _,_,_=>none
   | op=>match GT E.P (opA E s.fr) s.hp op with
    | some x=>MA E rest ⟨K6 s.fr o.dst x,s.hp⟩
    | none=>match IM E.P (opA E s.fr) s.hp op with
     | some (x,h)=>MA E rest ⟨K6 s.fr o.dst x,h⟩
     | none=>none
section
variable {E:Env}{base:Bs}{ops:Array Oper}{Q:Exit->Act->List Frame->World->Prop}{cs:List Frame}{D:List Deferred}{s':St}
theorem Ox (a:Act) (d:Option Tmp) (u:Value):(a.put d u).defers=a.defers:=by cases d <;> rfl
theorem YA {P:Program}{t u:TypeId}{d:TypeDesc}{v:Value}{w:World}(hu:P.underlying u=some d) (hz:∀ w,(zeroValue u).run P w = .ok v w):(Instr.typeAssert .nilIface t u true).run P w = .ok (.tuple #[v,.bool false]) w:=by
 unfold Instr.typeAssert
 rw [Sem.run_bind,run_underlying hu]
 cases d <;> simp [hz,Result.andThen]
theorem ID (hrec:recoverD cs=none):∀ {rest:List Oper}{s:St}{a:Act}{w:World}{Z:Nat->Prop}{R:List RI}{k:Nat},MA E rest s=some s'->SR E base w Z R s a->a.defers=D->(∀ j,rest[j]? = ops[k + j]?) ->
  (∀ a' w' Z' R',SR E base w' Z' R' s' a'->a'.defers=D->Step w Z R s.hp w' Z' R' s'.hp->Q .normal a' cs w')->wpOpsSIn (Fw none) 0 E.P ops Q (List.range' k rest.length) a cs w
 | [],s,a,w,Z,R,k,e,sr,hD,hops,q=>by
  injection e with e; subst e
  exact q a w Z R sr hD (Step.refl _ _ _ _)
 | o::rest,s,a,w,Z,R,k,e,sr,hD,hops,q=>by
  have hok:ops[k]? = some o:=by have:=hops 0; simpa using this.symm
  have hops':∀ j,rest[j]? = ops[k + 1 + j]?:=fun j=>by have:=hops (j + 1); simpa [Nat.add_assoc,Nat.add_comm 1 j] using this
  have hρ:∀ o x,opA E s.fr o=some x->VR w Z R x (a.eval o):=fun o x e=>opA_vr sr o x e
  unfold MA at e
  split at e
  ·cases e
  ·next hg =>
   rw [List.length_cons,List.range'_succ]
   unfold wpOpsSIn
   rw [hok]
   dsimp only
   refine ⟨fun _ _=>trivial,?_⟩
   rw [if_pos (by simp [Region.wanted,hg])]
   have val:∀ {x:AV} {h':Hp},Ld E.P w Z R s.hp x h' a.eval o->MA E rest ⟨K6 s.fr o.dst x,h'⟩=some s'->(match (execOp a.eval o).run E.P w with
    | .ok .recover w'=>(match recoverD cs with
     | some (v,cs')=>wpOpsSIn (Fw none) 0 E.P ops Q (List.range' (k + 1) rest.length) (a.put o.dst v) cs' w'
     | none=>wpOpsSIn (Fw none) 0 E.P ops Q (List.range' (k + 1) rest.length) (a.put o.dst .nilIface) cs w')
    | .ok (.value v) w'=>wpOpsSIn (Fw none) 0 E.P ops Q (List.range' (k + 1) rest.length) (a.put o.dst v) cs w'
    | .ok .skip w'=>wpOpsSIn (Fw none) 0 E.P ops Q (List.range' (k + 1) rest.length) (a.put o.dst undef) cs w'
    | .halt (.panic v) w'=>Q (.panic [{ v,recovered:=false }]) a cs w'
    | _=>False):=fun {x h'} hl e=>by
    obtain ⟨u,w',R',h1,h2,h3,h4⟩:=hl
    rw [h1]
    exact ID hrec e ((sr.step h2 h4).put h3) ((Ox _ _ _).trans hD) hops' fun a' w'' Z'' R'' sr'' hD'' st=>q a' w'' Z'' R'' sr'' hD'' (h4.trans st)
   split at e
   ·next b c ho =>
    have hr:(execOp a.eval o).run E.P w = .ok .recover w:=by
     simp [execOp,ho,resolve,invoke]
     rfl
    rw [hr]
    dsimp only
    rw [hrec]
    exact ID hrec e (sr.put (.v rfl)) ((Ox _ _ _).trans hD) hops' q
   ·next x t u ho =>
    split at e
    ·next d z hx hu hz =>
     have hv:=(hρ _ _ hx).v_inv
     obtain ⟨v,hv1,_,hrun,_⟩:=I6 (w:=w) (Z:=Z) (R:=R) hz
     refine val (x:= .tp [z,.v (.bool false)]) (h':=s.hp) ⟨.tuple #[v,.bool false],w,R,?_,sr.hh,.tp (us:=[v,.bool false]) rfl (fun i x u hx hu=>?_),Step.refl _ _ _ _⟩ e
     ·simp only [execOp,ho,hv]
      rw [Sem.run_bind,YA hu hrun]
      rfl
     ·match i with
      | 0=>simp at hx hu; subst hx hu; exact hv1
      | 1=>simp at hx hu; subst hx hu; exact .v rfl
      | i + 2=>simp at hx
    ·cases e
   ·next t p r ho =>
    split at e
    ·next y z hd hp hq =>
     split at e
     ·next h' hst =>
      obtain ⟨w',h1,h2,h3⟩:=JO hρ sr.hh ho hp hq hst
      rw [h1,hd]
      dsimp only
      exact ID hrec e (sr.step h2 h3) hD hops' fun a' w'' Z'' R'' sr'' hD'' st=>q a' w'' Z'' R'' sr'' hD'' (h3.trans st)
     ·cases e
    ·cases e
   ·split at e
    ·next x hx=>exact val ((evOpQ_sound sr.hh hρ hx).ld sr.hh) e
    ·split at e
     ·next x h' hx=>exact val (evOpN_sound hρ sr.hh hx).ld e
     ·cases e
/-- A deferred closure of the form: what it recovers is looked at; where it was nothing, nothing is done. -/
theorem XZ {g:FuncId}{fn:Func}{id0 id1:Nat}{ops0 ops1:Array Oper}{x:Operand}{X:Code}{s1 s2:St}{us:List Value}(hG:∀ q,E.G q=none) (hf:E.P.funcs[g]? = some fn) (hb:fn.body=some (.seq (.region id0 ops0 false) (.seq (.region id1 ops1 false) (.cond x X .skip)))) (hres:fn.results=#[])
  (e1:MA E ops0.toList ⟨List.replicate fn.ntmps none,[]⟩=some s1) (e2:MA E ops1.toList s1=some s2) (ht:opA E s2.fr x=some (.v (.bool false))) (hl:us.length<=fn.ntmps):SK E.P g us:=by
 intro w1
 refine callsDIn_of_wpSIn hf hb trivial fun c₀ cs hm=>?_
 have hrec:recoverD (c₀::cs)=none:=by simp [recoverD,hm]
 have sr0:SR E (.of w1.heap.size) w1 (fun _=>False) [] ⟨List.replicate fn.ntmps none,[]⟩ { tmps:=us.toArray++Array.replicate (fn.ntmps - us.toArray.size) undef,defers:=[] } :=
  ⟨hr_nil (fun _ h=>h.elim),⟨by simp; omega,fun t x hx=>by simp [List.getElem?_replicate] at hx⟩,rfl,(fun q y hy=>by rw [hG] at hy; cases hy),Nat.le_refl _⟩
 refine wpSIn_seq (wpSIn_region ?_)
 rw [List.range_eq_range',show ops0.size=ops0.toList.length by simp]
 refine ID hrec (rest:=ops0.toList) (k:=0) (D:=[]) e1 sr0 rfl (fun j=>by simp) fun a2 w2 Z2 R2 sr2 hD2 st2=>?_
 show (Code.seq _ _).wpSIn _ _ _ _ _ _ _
 refine wpSIn_seq (wpSIn_region ?_)
 rw [List.range_eq_range',show ops1.size=ops1.toList.length by simp]
 refine ID hrec (rest:=ops1.toList) (k:=0) (D:=[]) e2 sr2 hD2 (fun j=>by simp) fun a3 w3 Z3 R3 sr3 hD3 st3=>?_
 show (Code.cond _ _ _).wpSIn _ _ _ _ _ _ _
 refine wpSIn_cond (t:=false) (opA_vr sr3 _ _ ht).v_inv ?_
 refine wpSIn_of_wpIn rfl (wpIn_skip ?_)
 have st:=st2.trans st3
 have h0:(Array.mapM (Si a3.tmps) (#[]:Array ResultVar)).run E.P w3 = .ok #[] w3:=O0 (us:=[]) (by simp)
 exact ⟨hD3,.returning,by rw [<-hm],.tuple #[],by rw [Oz,hres,Sem.run_bind,h0]; rfl,rfl,⟨st.os,st.tape,st.output,st.size,fun c hc _=>st.block c hc PU⟩⟩
end
end Go.Proofs.YtlalcoehgkmhlaaGreatDoor
namespace Go.Proofs.YtlalcoehgkmhlaaGreatDoor
open Go.Shelf
def RB:Go.Shelf.Ren:=⟨fun | 217=>194 | 266=>211 | n=>n,fun | 9=>9 | 5=>5 | 3=>3 | n=>n,fun | n=>n⟩
theorem WP:Go.Proofs.Lays.n217 Tryz.prog RB:={
 mixed:=by kernel_rfl
 f217:=Tryz.func194.trans (congrArg some (by kernel_rfl))
 f266:=Tryz.func211.trans (congrArg some (by kernel_rfl))
 t3:=Tryz.underlying3
 a3:=Tryz.isAgg3
 z3:=Tryz.sizeOf3
 v3:=Tryz.zeroValue3
 t5:=Tryz.underlying5
 a5:=Tryz.isAgg5
 z5:=Tryz.sizeOf5
 v5:=Tryz.zeroValue5
 t9:=Tryz.underlying9
 a9:=Tryz.isAgg9
 z9:=Tryz.sizeOf9
 v9:=Tryz.zeroValue9 }
def RA:Go.Shelf.Ren:=⟨fun | 138=>199 | 195=>213 | 218=>215 | 143=>200 | 219=>173 | 217=>194 | 225=>195 | 224=>196 | 267=>197 | 266=>211 | 314=>212 | n=>n,fun | 9=>9 | 3=>3 | 4=>4 | 5=>5 | 0=>0 | 46=>178 | 146=>222 | 51=>221 | n=>n,fun | 1=>0 | n=>n⟩
theorem WO:Go.Proofs.Lays.n138 Tryz.prog RA:={
 mixed:=by kernel_rfl
 f138:=Tryz.func199.trans (congrArg some (by kernel_rfl))
 f143:=Tryz.func200.trans (congrArg some (by kernel_rfl))
 f195:=Tryz.func213.trans (congrArg some (by kernel_rfl))
 f217:=Tryz.func194.trans (congrArg some (by kernel_rfl))
 f218:=Tryz.func215.trans (congrArg some (by kernel_rfl))
 f219:=Tryz.func173.trans (congrArg some (by kernel_rfl))
 f224:=Tryz.func196.trans (congrArg some (by kernel_rfl))
 f225:=Tryz.func195.trans (congrArg some (by kernel_rfl))
 f266:=Tryz.func211.trans (congrArg some (by kernel_rfl))
 f267:=Tryz.func197.trans (congrArg some (by kernel_rfl))
 f314:=Tryz.func212.trans (congrArg some (by kernel_rfl))
 t0:=Tryz.underlying0
 a0:=Tryz.isAgg0
 z0:=Tryz.sizeOf0
 v0:=Tryz.zeroValue0
 t3:=Tryz.underlying3
 a3:=Tryz.isAgg3
 z3:=Tryz.sizeOf3
 v3:=Tryz.zeroValue3
 t4:=Tryz.underlying4
 a4:=Tryz.isAgg4
 z4:=Tryz.sizeOf4
 v4:=Tryz.zeroValue4
 t5:=Tryz.underlying5
 a5:=Tryz.isAgg5
 z5:=Tryz.sizeOf5
 v5:=Tryz.zeroValue5
 t9:=Tryz.underlying9
 a9:=Tryz.isAgg9
 z9:=Tryz.sizeOf9
 v9:=Tryz.zeroValue9
 t46:=Tryz.underlying178
 a46:=Tryz.isAgg178
 z46:=Tryz.sizeOf178
 v46:=Tryz.zeroValue178
 t51:=Tryz.underlying221
 a51:=Tryz.isAgg221
 z51:=Tryz.sizeOf221
 v51:=Tryz.zeroValue221
 t146:=Tryz.underlying222
 a146:=Tryz.isAgg222
 z146:=Tryz.sizeOf222
 v146:=Tryz.zeroValue222
 g1:=by kernel_rfl }
open Go.RowKit Go.Lib
/-- The first place of a byte. -/
def ixB:List AV->Option AV
 | [.st s,.v (.int .u8 c)]=>some (.v (.int .i64 (Lib.indexByte s c.toNat.toUInt8)))
 | _=>none
theorem Xj {E:Env}(hE:EnvOk E) (hP:E.P=Tryz.prog):EnvOk (E.withX 194 ixB):=by
 refine hE.withX (hP ▸ ⟨Tryz.call194⟩) fun xs x h w Z us _ _ hv=>?_
 unfold ixB at h
 split at h
 ·next s c =>
  injection h with h
  subst h
  obtain ⟨u1,r1,rfl,h1,hv⟩:=hv.head
  obtain ⟨u2,r2,rfl,h2,hv⟩:=hv.head
  have:r2=[]:=List.eq_nil_of_length_eq_zero hv.len
  subst this
  have e2:=h2.v_inv
  subst e2
  cases h1 with
  | st hs hn =>
   rename_i sb
   rw [hP]
   refine Calls.mono (Any.stringslite_IndexByte WP sb c w) fun e w' he=>?_
   obtain ⟨rfl,rfl⟩:=he
   exact ⟨Nj _,by rw [hs]; exact .v rfl⟩
 ·cases h
/-- How often a byte stands in a string. -/
def Yy:List AV->Option AV
 | [.st s,.st [c]]=>some (.v (.int .i64 (Lib.countByte s c)))
 | _=>none
theorem Vw {E:Env}(hE:EnvOk E) (hP:E.P=Tryz.prog):EnvOk (E.withX 199 Yy):=by
 refine hE.withX (hP ▸ ⟨Tryz.call199⟩) fun xs x h w Z us _ _ hv=>?_
 unfold Yy at h
 split at h
 ·next s c =>
  injection h with h
  subst h
  obtain ⟨u1,r1,rfl,h1,hv⟩:=hv.head
  obtain ⟨u2,r2,rfl,h2,hv⟩:=hv.head
  have:r2=[]:=List.eq_nil_of_length_eq_zero hv.len
  subst this
  obtain ⟨sb,rfl,hs⟩:∃ sb,u1 = .string sb/\sb.data.toList=s:=by cases h1 with | st h _=>exact ⟨_,rfl,h⟩
  obtain ⟨sc,rfl,hs2⟩:∃ sc,u2 = .string sc/\sc.data.toList=[c]:=by cases h2 with | st h _=>exact ⟨_,rfl,h⟩
  have e:sc=ByteArray.mk #[c]:=by
   obtain ⟨d⟩:=sc
   congr 1
   apply Array.ext'
   exact hs2
  subst e
  rw [hP]
  refine Calls.mono (Any.strings_Count_one WO sb c w) fun e w' he=>?_
  obtain ⟨rfl,rfl⟩:=he
  exact ⟨Nj _,by rw [hs]; exact .v rfl⟩
 ·cases h
/-- A call of a function that defers one closure: the closure, how many captures it has, what is handed back. -/
def Vy (E:Env) (n:Nat) (fn:Func) (args:List AV):Option (FuncId×Nat×AV×Hp):=match fn.body with
 | some (.seq A (.seq B (.seq (.region _ ops false) rest)))=>match ops.toList with
  | [o1,o2]=>match o1.guard,o2.guard,o2.dst,o2.op with
   | none,none,none,.defer ⟨.value p,dargs,_⟩ =>
    if dargs.size=0/\Ck A=true/\Ck B=true/\Ck rest=true then
     match evC E n ⟨none,false⟩ A ⟨args.map some++List.replicate (fn.ntmps - args.length) (some (.tp [])),[]⟩ with
     | some (.normal,s1)=>match evC E n ⟨none,false⟩ B s1 with
      | some (.normal,s2)=>match op1 E (evC E n) ⟨none,false⟩ o1 s2 with
       | some s3=>match opA E s3.fr p with
        | some (.fn g [] cs)=>match evC E n ⟨none,false⟩ rest s3 with
         | some (.normal,s4)=>(Ef E.P s4.fr s4.hp fn.results.toList).map fun xs=>(g,cs.length,Eh xs,s4.hp)
         | some (.ret,s4)=>(Ef E.P s4.fr s4.hp fn.results.toList).map fun xs=>(g,cs.length,Eh xs,s4.hp)
         | _=>none
        | _=>none
       | none=>none
      | _=>none
     | _=>none
    else none
   | _,_,_,_=>none
  | _=>none
 | _=>none
theorem Qx {E:Env}(hE:EnvOk E){n:Nat}{f:FuncId}{fn:Func}{args:List AV}{g m:Nat}{x:AV}{h':Hp}(hf:E.P.funcs[f]? = some fn) (hcl:Bw E.P g) (hdef:∀ us:List Value,us.length=m->SK E.P g us) (e:Vy E n fn args=some (g,m,x,h')){w:World}{Z:Nat->Prop}{us:List Value}(hz:∀ c,Z c->c < w.heap.size) (hg:GI E w Z) (hv:VRs w Z [] args us):Pv E f us w Z [] [] x h':=by
 unfold Vy at e
 split at e
 ·next A B id ops rest hb =>
  split at e
  ·next o1 o2 hops =>
   split at e
   ·next p dargs tys hg1 hg2 hd2 ho2 =>
    split at e
    ·next hc =>
     obtain ⟨c1,c2,c3,c4⟩:=hc
     have hops':ops=#[o1,o2]:=by apply Array.ext'; exact hops
     have hda:dargs=#[]:=Array.eq_empty_of_size_eq_zero c1
     subst hops' hda
     split at e
     ·next s1 e1 =>
      split at e
      ·next s2 e2 =>
       split at e
       ·next s3 e3 =>
        split at e
        ·next g' cs hp =>
         split at e
         ·next s4 e4 =>
          obtain ⟨xs,hxs,hxe⟩:=Option.map_eq_some_iff.1 e
          injection hxe with k1 k2; injection k2 with k2 k3; injection k3 with k3 k4
          subst k1 k2 k3 k4
          exact P3 hE hf hb c2 c3 c4 e1 e2 hg1 e3 hg2 ho2 hd2 hp e4 (.inl rfl) hxs hcl hdef (hr_nil hz) hv hg
         ·next s4 e4 =>
          obtain ⟨xs,hxs,hxe⟩:=Option.map_eq_some_iff.1 e
          injection hxe with k1 k2; injection k2 with k2 k3; injection k3 with k3 k4
          subst k1 k2 k3 k4
          exact P3 hE hf hb c2 c3 c4 e1 e2 hg1 e3 hg2 ho2 hd2 hp e4 (.inr rfl) hxs hcl hdef (hr_nil hz) hv hg
         ·cases e
        ·cases e
       ·cases e
      ·cases e
     ·cases e
    ·cases e
   ·cases e
  ·cases e
 ·cases e
/-- .. as a contract. -/
def dfX (E:Env) (n:Nat) (fn:Func) (g m:Nat) (args:List AV):Option AV:=match Vy E n fn args with
 | some (g',m',x,h')=>if g'=g/\m'=m then Sr h' x else none
 | none=>none
theorem Xa {E:Env}(hE:EnvOk E){n:Nat}{f:FuncId}{fn:Func}{g m:Nat}(hf:E.P.funcs[f]? = some fn) (hc:Bw E.P f) (hcl:Bw E.P g) (hdef:∀ us:List Value,us.length=m->SK E.P g us):EnvOk (E.withX f (dfX E n fn g m)):=by
 refine hE.withX hc fun xs y h w Z us hz hgi hv=>?_
 unfold dfX at h
 split at h
 ·next g' m' x h' e =>
  split at h
  ·next hgm =>
   obtain ⟨rfl,rfl⟩:=hgm
   exact frz_ret (Qx hE hf hcl hdef e hz hgi hv) h
  ·cases h
 ·cases h
noncomputable def E1:Env:=(E0.withX 194 ixB).withX 199 Yy
theorem XF:EnvOk E1:=Vw (Xj AC rfl) rfl
theorem X3 (us:List Value) (hl:us.length=2):SK E1.P 124 us :=
 XZ (E:=E1) (s1:=(MA E1 (match Tryz.f124.body with | some (.seq (.region _ ops _) _)=>ops.toList | _=>[]) ⟨List.replicate Tryz.f124.ntmps none,[]⟩).getD ⟨[],[]⟩) (s2:=(MA E1 (match Tryz.f124.body with | some (.seq _ (.seq (.region _ ops _) _))=>ops.toList | _=>[]) ((MA E1 (match Tryz.f124.body with | some (.seq (.region _ ops _) _)=>ops.toList | _=>[]) ⟨List.replicate Tryz.f124.ntmps none,[]⟩).getD ⟨[],[]⟩)).getD ⟨[],[]⟩)
  (fun _=>rfl) Tryz.func124 rfl rfl (by kernel_rfl) (by kernel_rfl) (by kernel_rfl) (by rw [hl]; decide)
noncomputable def E2:Env:=E1.withX 72 (dfX E1 3000 Tryz.f72 124 2)
theorem Yc:EnvOk E2:=Xa XF Tryz.func72 ⟨Tryz.call72⟩ ⟨Tryz.call124⟩ X3
def exC:List AV:=[.ag [.v (.int .u8 1),.st [],.v (.bool false),.sl 1 [.st [100,117,107,101],.st [99,111,117,110,116]],.v (.int .i64 0)],.ag [.v (.int .u8 2),.st [100,117,107,101],.v (.bool false),.e0,.v (.int .i64 0)],.ag [.v (.int .u8 4),.st [],.v (.bool false),.e0,.v (.int .i64 1)],.ag [.v (.int .u8 8),.st [],.v (.bool false),.e0,.v (.int .i64 0)]]
def exG:List AV:=[.ag [.st [97,100,97],.st [99,111,117,110,116],.st [],.v (.int .i64 0),.v (.int .i64 2),.st [],.v (.bool false),.v (.bool false),.e0],.ag [.st [98,101,97],.st [100,117,107,101],.st [],.v (.int .i64 1700),.v (.int .i64 0),.st [],.v (.bool false),.v (.bool false),.e0],.ag [.st [99,121,114],.st [100,117,107,101],.st [],.v (.int .i64 1650),.v (.int .i64 0),.st [],.v (.bool false),.v (.bool false),.e0],.ag [.st [100,97,110],.st [],.st [],.v (.int .i64 0),.v (.int .i64 1),.st [],.v (.bool false),.v (.bool false),.e0],.ag [.st [101,118,97],.st [99,111,117,110,116],.st [],.v (.int .i64 0),.v (.int .i64 1),.st [],.v (.bool false),.v (.bool false),.e0]]
def i4 (n:Int):AV:= .v (.int .i64 n)
def exT:List UInt8:=[114,97,110,107,32,100,117,107,101,32,99,111,117,110,116,10,97,109,111,110,103,32,100,117,107,101,32,101,108,100,101,114,10,115,105,100,101,32,49,32,102,105,114,115,116,10,110,97,109,101,10]
end Go.Proofs.YtlalcoehgkmhlaaGreatDoor
