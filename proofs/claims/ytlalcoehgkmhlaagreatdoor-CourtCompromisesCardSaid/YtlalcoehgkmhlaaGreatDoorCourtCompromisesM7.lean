/- Lemmas for the proof. -/
import Derived.Test.YtlalcoehgkmhlaaGreatDoorCourtCompromisesM1
import Derived.Test.YtlalcoehgkmhlaaGreatDoorCourtCompromisesM2
import Derived.Test.YtlalcoehgkmhlaaGreatDoorCourtCompromisesM3
import Derived.Test.YtlalcoehgkmhlaaGreatDoorCourtCompromisesM4
import Derived.Test.YtlalcoehgkmhlaaGreatDoorCourtCompromisesM5
import Derived.Test.YtlalcoehgkmhlaaGreatDoorCourtCompromisesM6
set_option maxHeartbeats 4000000
set_option maxRecDepth 100000
namespace Go.Proofs.YtlalcoehgkmhlaaGreatDoor
open Go.RowKit
/- trestle/trestleref03.before -/
noncomputable def Nm:Code:=BG Tryz.f151
def Gq (x0:AG) (x1:Ai) (x2:Ai) (x3:Int) (x4:Int):Option (Bool) :=
 if (x0.1==1)=true then
 (IJ x0.2.2.2.1 x1.2.1).bind fun v2 =>
 (IJ x0.2.2.2.1 x2.2.1).bind fun v3 =>
 some (decide (v2 < v3))
 else
 if (x0.1==2)=true then
 (if (x1.2.2.2.1 != 0)=true then if (x2.2.2.2.1==0)=true then some true else some (decide (x1.2.2.2.1 < x2.2.2.2.1)) else some false).bind fun j6 =>
 some j6
 else
 if (x0.1==3)=true then
 (if (x1.2.2.2.1 != 0)=true then if (x2.2.2.2.1==0)=true then some true else some (decide (x1.2.2.2.1 > x2.2.2.2.1)) else some false).bind fun j11 =>
 some j11
 else
 if (x0.1==8)=true then
 some (Go.Op.bytesLess x1.1 x2.1)
 else
 if (x0.1==9)=true then
 (BV x3 0 63).bind fun v16 =>
 (if v16=true then (BV x4 0 63).bind fun v17 =>
 if v17=true then some (decide (x3 < x4)) else some false else some false).bind fun j19 =>
 some j19
 else
 if (x0.1==10)=true then
 (BV x3 0 63).bind fun v23 =>
 (if v23=true then (BV x4 0 63).bind fun v24 =>
 if v24=true then (LR x3 x0.2.2.2.2).bind fun v25 =>
 (LR x4 x0.2.2.2.2).bind fun v26 =>
 some (decide (v25 < v26)) else some false else some false).bind fun j28 =>
 some j28
 else
 if x0.2.2.1=true then
 (GR x0 x1).bind fun v32 =>
 (if (!v32)=true then (GR x0 x2).bind fun v33 =>
 some v33 else some false).bind fun j35 =>
 some j35
 else
 (GR x0 x1).bind fun v37 =>
 (if v37=true then (GR x0 x2).bind fun v38 =>
 some (!v38) else some false).bind fun j40 =>
 some j40
def K9:Cs (AG×Ai×Ai×Int×Int×Unit):=(csC AA (csC AE (csC AE (csC cdI (csC cdI csN)))))
def LH (r:Bool):AV:=cdB.enc r
theorem RF (x0:AG) (x1:Ai) (x2:Ai) (x3:Int) (x4:Int) (r:Bool) (h:Gq x0 x1 x2 x3 x4=some r):Sem E0 ⟨none,false⟩ Nm ⟨Fr 119 (A3 0 (K9.enc (x0,x1,x2,x3,x4,()))),[]⟩ fun e s'=>(e = .normal\/e = .ret)/\∃ xs,EG E0.P s'.fr s'.hp Tryz.f151.results.toList=some xs/\EN xs=LH r:=by
 unfold Gq at h;refine An (BP (s1:=⟨Fr 119 [(0,AA.enc x0),(1,AE.enc x1),(2,AE.enc x2),(3,.v (.int .i64 x3)),(4,.v (.int .i64 x4))],[]⟩) AL ?_);refine AJ AC [(3,.v (.int .i64 x3)),(4,.v (.int .i64 x4)),(5,.pt 0 0 0),(6,.pt 1 0 0),(7,.pt 2 0 0)] [some ⟨5,60,[AA.enc x0],false⟩,some ⟨9,42,[AE.enc x1],false⟩,some ⟨9,42,[AE.enc x2],false⟩] ?_;refine AF ?_;refine AJ AC [(3,.v (.int .i64 x3)),(4,.v (.int .i64 x4)),(5,.pt 0 0 0),(6,.pt 1 0 0),(7,.pt 2 0 0),(12,.v (.int .u8 x0.1))] [some ⟨5,60,[AA.enc x0],false⟩,some ⟨9,42,[AE.enc x1],false⟩,some ⟨9,42,[AE.enc x2],false⟩] ?_;refine AZ ?_;refine AJ AC [(3,.v (.int .i64 x3)),(4,.v (.int .i64 x4)),(5,.pt 0 0 0),(6,.pt 1 0 0),(7,.pt 2 0 0),(12,.v (.int .u8 x0.1)),(13,.v (.bool (x0.1==1)))] [some ⟨5,60,[AA.enc x0],false⟩,some ⟨9,42,[AE.enc x1],false⟩,some ⟨9,42,[AE.enc x2],false⟩] ?_;refine AP (b:=(x0.1==1)) kr (fun hb1=>?_) (fun hb1=>?_)
 ·rw [if_pos hb1] at h
  refine AF ?_;obtain ⟨v2,hv2,h⟩:=OB h;obtain ⟨v3,hv3,h⟩:=OB h;refine DL AC (s1:=⟨Fr 119 [(10,.v (.bool (decide (v2 < v3))))],[]⟩) kr ?_ ?_
  ·refine AY (n:=119) AC 4 [(5,.pt 0 0 0),(7,.pt 2 0 0),(16,.sl 1 (x0.2.2.2.1.map cdS.enc)),(18,.st x1.2.1)] [some ⟨5,60,[AA.enc x0],false⟩,some ⟨9,42,[AE.enc x1],false⟩,some ⟨9,42,[AE.enc x2],false⟩] kr kr ?_
   refine Bb (caps:=[]) (xs:=[.sl 1 (x0.2.2.2.1.map cdS.enc),.st x1.2.1]) (u:=(x0.2.2.2.1,x1.2.1,())) rfl rfl Q5 rfl (AB rfl) kr kr (AM (AX (c:=(cdL 1 cdS)) (v:=x0.2.2.2.1)) (AM (AX (c:=cdS) (v:=x1.2.1)) Aj)) kr hv2 ?_;refine AY (n:=119) AC 4 [(19,.v (.int .i64 v2)),(21,.sl 1 (x0.2.2.2.1.map cdS.enc)),(23,.st x2.2.1)] [some ⟨5,60,[AA.enc x0],false⟩,some ⟨9,42,[AE.enc x1],false⟩,some ⟨9,42,[AE.enc x2],false⟩] kr kr ?_;refine Bb (caps:=[]) (xs:=[.sl 1 (x0.2.2.2.1.map cdS.enc),.st x2.2.1]) (u:=(x0.2.2.2.1,x2.2.1,())) rfl rfl Q5 rfl (AB rfl) kr kr (AM (AX (c:=(cdL 1 cdS)) (v:=x0.2.2.2.1)) (AM (AX (c:=cdS) (v:=x2.2.1)) Aj)) kr hv3 ?_;refine AY (n:=119) AC 2 [(10,.v (.bool (decide (v2 < v3))))] [some ⟨5,60,[AA.enc x0],false⟩,some ⟨9,42,[AE.enc x1],false⟩,some ⟨9,42,[AE.enc x2],false⟩] kr kr ?_;exact RunDS.done rfl (Ad [] trivial ⟨lv,trivial⟩)
  refine AQ ?_;have hq:=OI h; subst hq;exact ⟨⟨Fr 119 [(10,.v (.bool (decide (v2 < v3))))],[]⟩,AL,.inr rfl,[.v (.bool (decide (v2 < v3)))],kr,kr⟩
 ·rw [BZ hb1] at h
  refine AJ AC [(3,.v (.int .i64 x3)),(4,.v (.int .i64 x4)),(5,.pt 0 0 0),(6,.pt 1 0 0),(7,.pt 2 0 0),(12,.v (.int .u8 x0.1)),(26,.v (.bool (x0.1==2)))] [some ⟨5,60,[AA.enc x0],false⟩,some ⟨9,42,[AE.enc x1],false⟩,some ⟨9,42,[AE.enc x2],false⟩] ?_;refine AP (b:=(x0.1==2)) kr (fun hb4=>?_) (fun hb4=>?_)
  ·rw [if_pos hb4] at h
   refine AF ?_;obtain ⟨j6,hj6,h⟩:=OB h;refine AK (s1:=⟨Fr 119 [(10,.v (.bool j6))],[]⟩) ?_ ?_
   ·refine AD (n:=119) AC 4 [(6,.pt 1 0 0),(7,.pt 2 0 0),(31,.v (.bool (x1.2.2.2.1 != 0)))] [some ⟨5,60,[AA.enc x0],false⟩,some ⟨9,42,[AE.enc x1],false⟩,some ⟨9,42,[AE.enc x2],false⟩] kr ?_
    rcases BE (x1.2.2.2.1 != 0) with hc7 | hc7
    ·rw [if_pos hc7] at hj6
     rw [hc7];refine AD (n:=119) AC 4 [(6,.pt 1 0 0),(7,.pt 2 0 0),(31,.v (.bool true)),(35,.v (.bool (x2.2.2.2.1==0)))] [some ⟨5,60,[AA.enc x0],false⟩,some ⟨9,42,[AE.enc x1],false⟩,some ⟨9,42,[AE.enc x2],false⟩] kr ?_;rcases BE (x2.2.2.2.1==0) with hc8 | hc8
     ·rw [if_pos hc8] at hj6
      rw [hc8];refine AD (n:=119) AC 8 [(10,.v (.bool true))] [some ⟨5,60,[AA.enc x0],false⟩,some ⟨9,42,[AE.enc x1],false⟩,some ⟨9,42,[AE.enc x2],false⟩] kr ?_;have hq:=OI hj6; subst hq;exact AI rfl (Ad [] trivial ⟨lv,trivial⟩)
     ·rw [BZ hc8] at hj6
      rw [hc8];refine AD (n:=119) AC 8 [(10,.v (.bool (decide (x1.2.2.2.1 < x2.2.2.2.1))))] [some ⟨5,60,[AA.enc x0],false⟩,some ⟨9,42,[AE.enc x1],false⟩,some ⟨9,42,[AE.enc x2],false⟩] kr ?_;have hq:=OI hj6; subst hq;exact AI rfl (Ad [] trivial ⟨lv,trivial⟩)
    ·rw [BZ hc7] at hj6
     rw [hc7];refine AD (n:=119) AC 12 [(10,.v (.bool false))] [some ⟨5,60,[AA.enc x0],false⟩,some ⟨9,42,[AE.enc x1],false⟩,some ⟨9,42,[AE.enc x2],false⟩] kr ?_;have hq:=OI hj6; subst hq;exact AI rfl (Ad [] trivial ⟨lv,trivial⟩)
   refine AQ ?_;have hq:=OI h; subst hq;exact ⟨⟨Fr 119 [(10,.v (.bool j6))],[]⟩,AL,.inr rfl,[.v (.bool j6)],kr,kr⟩
  ·rw [BZ hb4] at h
   refine AJ AC [(3,.v (.int .i64 x3)),(4,.v (.int .i64 x4)),(5,.pt 0 0 0),(6,.pt 1 0 0),(7,.pt 2 0 0),(12,.v (.int .u8 x0.1)),(43,.v (.bool (x0.1==3)))] [some ⟨5,60,[AA.enc x0],false⟩,some ⟨9,42,[AE.enc x1],false⟩,some ⟨9,42,[AE.enc x2],false⟩] ?_;refine AP (b:=(x0.1==3)) kr (fun hb9=>?_) (fun hb9=>?_)
   ·rw [if_pos hb9] at h
    refine AF ?_;obtain ⟨j11,hj11,h⟩:=OB h;refine AK (s1:=⟨Fr 119 [(10,.v (.bool j11))],[]⟩) ?_ ?_
    ·refine AD (n:=119) AC 4 [(6,.pt 1 0 0),(7,.pt 2 0 0),(48,.v (.bool (x1.2.2.2.1 != 0)))] [some ⟨5,60,[AA.enc x0],false⟩,some ⟨9,42,[AE.enc x1],false⟩,some ⟨9,42,[AE.enc x2],false⟩] kr ?_
     rcases BE (x1.2.2.2.1 != 0) with hc12 | hc12
     ·rw [if_pos hc12] at hj11
      rw [hc12];refine AD (n:=119) AC 4 [(6,.pt 1 0 0),(7,.pt 2 0 0),(48,.v (.bool true)),(52,.v (.bool (x2.2.2.2.1==0)))] [some ⟨5,60,[AA.enc x0],false⟩,some ⟨9,42,[AE.enc x1],false⟩,some ⟨9,42,[AE.enc x2],false⟩] kr ?_;rcases BE (x2.2.2.2.1==0) with hc13 | hc13
      ·rw [if_pos hc13] at hj11
       rw [hc13];refine AD (n:=119) AC 8 [(10,.v (.bool true))] [some ⟨5,60,[AA.enc x0],false⟩,some ⟨9,42,[AE.enc x1],false⟩,some ⟨9,42,[AE.enc x2],false⟩] kr ?_;have hq:=OI hj11; subst hq;exact AI rfl (Ad [] trivial ⟨lv,trivial⟩)
      ·rw [BZ hc13] at hj11
       rw [hc13];refine AD (n:=119) AC 8 [(10,.v (.bool (decide (x1.2.2.2.1 > x2.2.2.2.1))))] [some ⟨5,60,[AA.enc x0],false⟩,some ⟨9,42,[AE.enc x1],false⟩,some ⟨9,42,[AE.enc x2],false⟩] kr ?_;have hq:=OI hj11; subst hq;exact AI rfl (Ad [] trivial ⟨lv,trivial⟩)
     ·rw [BZ hc12] at hj11
      rw [hc12];refine AD (n:=119) AC 12 [(10,.v (.bool false))] [some ⟨5,60,[AA.enc x0],false⟩,some ⟨9,42,[AE.enc x1],false⟩,some ⟨9,42,[AE.enc x2],false⟩] kr ?_;have hq:=OI hj11; subst hq;exact AI rfl (Ad [] trivial ⟨lv,trivial⟩)
    refine AQ ?_;have hq:=OI h; subst hq;exact ⟨⟨Fr 119 [(10,.v (.bool j11))],[]⟩,AL,.inr rfl,[.v (.bool j11)],kr,kr⟩
   ·rw [BZ hb9] at h
    refine AJ AC [(3,.v (.int .i64 x3)),(4,.v (.int .i64 x4)),(5,.pt 0 0 0),(6,.pt 1 0 0),(7,.pt 2 0 0),(12,.v (.int .u8 x0.1)),(60,.v (.bool (x0.1==8)))] [some ⟨5,60,[AA.enc x0],false⟩,some ⟨9,42,[AE.enc x1],false⟩,some ⟨9,42,[AE.enc x2],false⟩] ?_;refine AP (b:=(x0.1==8)) kr (fun hb14=>?_) (fun hb14=>?_)
    ·rw [if_pos hb14] at h
     refine AF ?_;refine AK (s1:=⟨Fr 119 [(10,.v (.bool (Go.Op.bytesLess x1.1 x2.1)))],[]⟩) ?_ ?_
     ·refine AD (n:=119) AC 6 [(10,.v (.bool (Go.Op.bytesLess x1.1 x2.1)))] [some ⟨5,60,[AA.enc x0],false⟩,some ⟨9,42,[AE.enc x1],false⟩,some ⟨9,42,[AE.enc x2],false⟩] kr ?_
      exact AI rfl (Ad [] trivial ⟨lv,trivial⟩)
     refine AQ ?_;have hq:=OI h; subst hq;exact ⟨⟨Fr 119 [(10,.v (.bool (Go.Op.bytesLess x1.1 x2.1)))],[]⟩,AL,.inr rfl,[.v (.bool (Go.Op.bytesLess x1.1 x2.1))],kr,kr⟩
    ·rw [BZ hb14] at h
     refine AJ AC [(3,.v (.int .i64 x3)),(4,.v (.int .i64 x4)),(5,.pt 0 0 0),(6,.pt 1 0 0),(7,.pt 2 0 0),(12,.v (.int .u8 x0.1)),(67,.v (.bool (x0.1==9)))] [some ⟨5,60,[AA.enc x0],false⟩,some ⟨9,42,[AE.enc x1],false⟩,some ⟨9,42,[AE.enc x2],false⟩] ?_;refine AP (b:=(x0.1==9)) kr (fun hb15=>?_) (fun hb15=>?_)
     ·rw [if_pos hb15] at h
      refine AF ?_;obtain ⟨v16,hv16,h⟩:=OB h;obtain ⟨j19,hj19,h⟩:=OB h;refine AK (s1:=⟨Fr 119 [(10,.v (.bool j19))],[]⟩) ?_ ?_
      ·refine AD (n:=119) AC 1 [(3,.v (.int .i64 x3)),(4,.v (.int .i64 x4)),(69,.v (.int .i64 x3))] [some ⟨5,60,[AA.enc x0],false⟩,some ⟨9,42,[AE.enc x1],false⟩,some ⟨9,42,[AE.enc x2],false⟩] kr ?_
       refine AT (caps:=[]) (xs:=[.v (.int .i64 x3),.v (.int .i64 0),.v (.int .i64 63)]) (u:=(x3,0,63,())) rfl rfl Eu rfl (AB rfl) kr kr (AM (AX (c:=cdI) (v:=x3)) (AM (AX (c:=cdI) (v:=0)) (AM (AX (c:=cdI) (v:=63)) Aj))) (.inl kr) hv16 ?_;refine AD (n:=119) AC 1 [(3,.v (.int .i64 x3)),(4,.v (.int .i64 x4)),(71,.v (.bool v16))] [some ⟨5,60,[AA.enc x0],false⟩,some ⟨9,42,[AE.enc x1],false⟩,some ⟨9,42,[AE.enc x2],false⟩] kr ?_;rcases BE v16 with hc20 | hc20
       ·rw [if_pos hc20] at hj19
        rw [hc20];refine AD (n:=119) AC 1 [(3,.v (.int .i64 x3)),(4,.v (.int .i64 x4)),(71,.v (.bool true)),(72,.v (.int .i64 x4))] [some ⟨5,60,[AA.enc x0],false⟩,some ⟨9,42,[AE.enc x1],false⟩,some ⟨9,42,[AE.enc x2],false⟩] kr ?_;obtain ⟨v17,hv17,hj19⟩:=OB hj19;refine AT (caps:=[]) (xs:=[.v (.int .i64 x4),.v (.int .i64 0),.v (.int .i64 63)]) (u:=(x4,0,63,())) rfl rfl Eu rfl kr kr kr (AM (AX (c:=cdI) (v:=x4)) (AM (AX (c:=cdI) (v:=0)) (AM (AX (c:=cdI) (v:=63)) Aj))) (.inl kr) hv17 ?_;refine AD (n:=119) AC 2 [(3,.v (.int .i64 x3)),(4,.v (.int .i64 x4)),(75,.v (.bool v17))] [some ⟨5,60,[AA.enc x0],false⟩,some ⟨9,42,[AE.enc x1],false⟩,some ⟨9,42,[AE.enc x2],false⟩] kr ?_;rcases BE v17 with hc21 | hc21
        ·rw [if_pos hc21] at hj19
         rw [hc21];refine AD (n:=119) AC 5 [(10,.v (.bool (decide (x3 < x4))))] [some ⟨5,60,[AA.enc x0],false⟩,some ⟨9,42,[AE.enc x1],false⟩,some ⟨9,42,[AE.enc x2],false⟩] kr ?_;have hq:=OI hj19; subst hq;exact AI rfl (Ad [] trivial ⟨lv,trivial⟩)
        ·rw [BZ hc21] at hj19
         rw [hc21];refine AD (n:=119) AC 5 [(10,.v (.bool false))] [some ⟨5,60,[AA.enc x0],false⟩,some ⟨9,42,[AE.enc x1],false⟩,some ⟨9,42,[AE.enc x2],false⟩] kr ?_;have hq:=OI hj19; subst hq;exact AI rfl (Ad [] trivial ⟨lv,trivial⟩)
       ·rw [BZ hc20] at hj19
        rw [hc20];refine AD (n:=119) AC 9 [(10,.v (.bool false))] [some ⟨5,60,[AA.enc x0],false⟩,some ⟨9,42,[AE.enc x1],false⟩,some ⟨9,42,[AE.enc x2],false⟩] kr ?_;have hq:=OI hj19; subst hq;exact AI rfl (Ad [] trivial ⟨lv,trivial⟩)
      refine AQ ?_;have hq:=OI h; subst hq;exact ⟨⟨Fr 119 [(10,.v (.bool j19))],[]⟩,AL,.inr rfl,[.v (.bool j19)],kr,kr⟩
     ·rw [BZ hb15] at h
      refine AJ AC [(3,.v (.int .i64 x3)),(4,.v (.int .i64 x4)),(5,.pt 0 0 0),(6,.pt 1 0 0),(7,.pt 2 0 0),(80,.v (.bool (x0.1==10)))] [some ⟨5,60,[AA.enc x0],false⟩,some ⟨9,42,[AE.enc x1],false⟩,some ⟨9,42,[AE.enc x2],false⟩] ?_;refine AP (b:=(x0.1==10)) kr (fun hb22=>?_) (fun hb22=>?_)
      ·rw [if_pos hb22] at h
       refine AF ?_;obtain ⟨v23,hv23,h⟩:=OB h;obtain ⟨j28,hj28,h⟩:=OB h;refine DL AC (s1:=⟨Fr 119 [(10,.v (.bool j28))],[]⟩) kr ?_ ?_
       ·refine AY (n:=119) AC 1 [(3,.v (.int .i64 x3)),(4,.v (.int .i64 x4)),(5,.pt 0 0 0),(82,.v (.int .i64 x3))] [some ⟨5,60,[AA.enc x0],false⟩,some ⟨9,42,[AE.enc x1],false⟩,some ⟨9,42,[AE.enc x2],false⟩] kr kr ?_
        refine Bb (caps:=[]) (xs:=[.v (.int .i64 x3),.v (.int .i64 0),.v (.int .i64 63)]) (u:=(x3,0,63,())) rfl rfl Eu rfl (AB rfl) kr kr (AM (AX (c:=cdI) (v:=x3)) (AM (AX (c:=cdI) (v:=0)) (AM (AX (c:=cdI) (v:=63)) Aj))) kr hv23 ?_;refine AY (n:=119) AC 1 [(3,.v (.int .i64 x3)),(4,.v (.int .i64 x4)),(5,.pt 0 0 0),(84,.v (.bool v23))] [some ⟨5,60,[AA.enc x0],false⟩,some ⟨9,42,[AE.enc x1],false⟩,some ⟨9,42,[AE.enc x2],false⟩] kr kr ?_;rcases BE v23 with hc29 | hc29
        ·rw [if_pos hc29] at hj28
         rw [hc29];refine AY (n:=119) AC 1 [(3,.v (.int .i64 x3)),(4,.v (.int .i64 x4)),(5,.pt 0 0 0),(84,.v (.bool true)),(85,.v (.int .i64 x4))] [some ⟨5,60,[AA.enc x0],false⟩,some ⟨9,42,[AE.enc x1],false⟩,some ⟨9,42,[AE.enc x2],false⟩] kr kr ?_;obtain ⟨v24,hv24,hj28⟩:=OB hj28;refine Bb (caps:=[]) (xs:=[.v (.int .i64 x4),.v (.int .i64 0),.v (.int .i64 63)]) (u:=(x4,0,63,())) rfl rfl Eu rfl kr kr kr (AM (AX (c:=cdI) (v:=x4)) (AM (AX (c:=cdI) (v:=0)) (AM (AX (c:=cdI) (v:=63)) Aj))) kr hv24 ?_;refine AY (n:=119) AC 2 [(3,.v (.int .i64 x3)),(4,.v (.int .i64 x4)),(5,.pt 0 0 0),(88,.v (.bool v24))] [some ⟨5,60,[AA.enc x0],false⟩,some ⟨9,42,[AE.enc x1],false⟩,some ⟨9,42,[AE.enc x2],false⟩] kr kr ?_;rcases BE v24 with hc30 | hc30
         ·rw [if_pos hc30] at hj28
          rw [hc30];refine AY (n:=119) AC 3 [(4,.v (.int .i64 x4)),(5,.pt 0 0 0),(88,.v (.bool true)),(89,.v (.int .i64 x3)),(91,.v (.int .i64 x0.2.2.2.2))] [some ⟨5,60,[AA.enc x0],false⟩,some ⟨9,42,[AE.enc x1],false⟩,some ⟨9,42,[AE.enc x2],false⟩] kr kr ?_;obtain ⟨v25,hv25,hj28⟩:=OB hj28;refine Bb (caps:=[]) (xs:=[.v (.int .i64 x3),.v (.int .i64 x0.2.2.2.2)]) (u:=(x3,x0.2.2.2.2,())) rfl rfl TG rfl kr kr kr (AM (AX (c:=cdI) (v:=x3)) (AM (AX (c:=cdI) (v:=x0.2.2.2.2)) Aj)) kr hv25 ?_;refine AY (n:=119) AC 3 [(88,.v (.bool true)),(92,.v (.int .i64 v25)),(93,.v (.int .i64 x4)),(95,.v (.int .i64 x0.2.2.2.2))] [some ⟨5,60,[AA.enc x0],false⟩,some ⟨9,42,[AE.enc x1],false⟩,some ⟨9,42,[AE.enc x2],false⟩] kr kr ?_;obtain ⟨v26,hv26,hj28⟩:=OB hj28;refine Bb (caps:=[]) (xs:=[.v (.int .i64 x4),.v (.int .i64 x0.2.2.2.2)]) (u:=(x4,x0.2.2.2.2,())) rfl rfl TG rfl kr kr kr (AM (AX (c:=cdI) (v:=x4)) (AM (AX (c:=cdI) (v:=x0.2.2.2.2)) Aj)) kr hv26 ?_;refine AY (n:=119) AC 3 [(10,.v (.bool (decide (v25 < v26))))] [some ⟨5,60,[AA.enc x0],false⟩,some ⟨9,42,[AE.enc x1],false⟩,some ⟨9,42,[AE.enc x2],false⟩] kr kr ?_;have hq:=OI hj28; subst hq;exact RunDS.done rfl (Ad [] trivial ⟨lv,trivial⟩)
         ·rw [BZ hc30] at hj28
          rw [hc30];refine AY (n:=119) AC 11 [(10,.v (.bool false))] [some ⟨5,60,[AA.enc x0],false⟩,some ⟨9,42,[AE.enc x1],false⟩,some ⟨9,42,[AE.enc x2],false⟩] kr kr ?_;have hq:=OI hj28; subst hq;exact RunDS.done rfl (Ad [] trivial ⟨lv,trivial⟩)
        ·rw [BZ hc29] at hj28
         rw [hc29];refine AY (n:=119) AC 15 [(10,.v (.bool false))] [some ⟨5,60,[AA.enc x0],false⟩,some ⟨9,42,[AE.enc x1],false⟩,some ⟨9,42,[AE.enc x2],false⟩] kr kr ?_;have hq:=OI hj28; subst hq;exact RunDS.done rfl (Ad [] trivial ⟨lv,trivial⟩)
       refine AQ ?_;have hq:=OI h; subst hq;exact ⟨⟨Fr 119 [(10,.v (.bool j28))],[]⟩,AL,.inr rfl,[.v (.bool j28)],kr,kr⟩
      ·rw [BZ hb22] at h
       refine AS ?_;refine AF ?_;refine AJ AC [(5,.pt 0 0 0),(6,.pt 1 0 0),(7,.pt 2 0 0),(100,.v (.bool x0.2.2.1))] [some ⟨5,60,[AA.enc x0],false⟩,some ⟨9,42,[AE.enc x1],false⟩,some ⟨9,42,[AE.enc x2],false⟩] ?_;refine AP (b:=x0.2.2.1) kr (fun hb31=>?_) (fun hb31=>?_)
       ·rw [if_pos hb31] at h
        refine AF ?_;obtain ⟨v32,hv32,h⟩:=OB h;obtain ⟨j35,hj35,h⟩:=OB h;refine AK (s1:=⟨Fr 119 [(10,.v (.bool j35))],[]⟩) ?_ ?_
        ·refine AD (n:=119) AC 2 [(5,.pt 0 0 0),(7,.pt 2 0 0),(101,AA.enc x0),(102,AE.enc x1)] [some ⟨5,60,[AA.enc x0],false⟩,some ⟨9,42,[AE.enc x1],false⟩,some ⟨9,42,[AE.enc x2],false⟩] kr ?_
         refine AT (caps:=[]) (xs:=[AA.enc x0,AE.enc x1]) (u:=(x0,x1,())) rfl rfl Kq rfl (AB rfl) kr kr (AM (AX (c:=AA) (v:=x0)) (AM (AX (c:=AE) (v:=x1)) Aj)) (.inl kr) hv32 ?_;refine AD (n:=119) AC 2 [(5,.pt 0 0 0),(7,.pt 2 0 0),(105,.v (.bool (!v32)))] [some ⟨5,60,[AA.enc x0],false⟩,some ⟨9,42,[AE.enc x1],false⟩,some ⟨9,42,[AE.enc x2],false⟩] kr ?_;rcases BE (!v32) with hc36 | hc36
         ·rw [if_pos hc36] at hj35
          rw [hc36];refine AD (n:=119) AC 2 [(105,.v (.bool true)),(106,AA.enc x0),(107,AE.enc x2)] [some ⟨5,60,[AA.enc x0],false⟩,some ⟨9,42,[AE.enc x1],false⟩,some ⟨9,42,[AE.enc x2],false⟩] kr ?_;obtain ⟨v33,hv33,hj35⟩:=OB hj35;refine AT (caps:=[]) (xs:=[AA.enc x0,AE.enc x2]) (u:=(x0,x2,())) rfl rfl Kq rfl kr kr kr (AM (AX (c:=AA) (v:=x0)) (AM (AX (c:=AE) (v:=x2)) Aj)) (.inl kr) hv33 ?_;refine AD (n:=119) AC 2 [(10,.v (.bool v33))] [some ⟨5,60,[AA.enc x0],false⟩,some ⟨9,42,[AE.enc x1],false⟩,some ⟨9,42,[AE.enc x2],false⟩] kr ?_;have hq:=OI hj35; subst hq;exact AI rfl (Ad [] trivial ⟨lv,trivial⟩)
         ·rw [BZ hc36] at hj35
          rw [hc36];refine AD (n:=119) AC 5 [(10,.v (.bool false))] [some ⟨5,60,[AA.enc x0],false⟩,some ⟨9,42,[AE.enc x1],false⟩,some ⟨9,42,[AE.enc x2],false⟩] kr ?_;have hq:=OI hj35; subst hq;exact AI rfl (Ad [] trivial ⟨lv,trivial⟩)
        refine AQ ?_;have hq:=OI h; subst hq;exact ⟨⟨Fr 119 [(10,.v (.bool j35))],[]⟩,AL,.inr rfl,[.v (.bool j35)],kr,kr⟩
       ·rw [BZ hb31] at h
        refine AS ?_;refine AF ?_;obtain ⟨v37,hv37,h⟩:=OB h;obtain ⟨j40,hj40,h⟩:=OB h;refine AK (s1:=⟨Fr 119 [(10,.v (.bool j40))],[]⟩) ?_ ?_
        ·refine AD (n:=119) AC 2 [(5,.pt 0 0 0),(7,.pt 2 0 0),(110,AA.enc x0),(111,AE.enc x1)] [some ⟨5,60,[AA.enc x0],false⟩,some ⟨9,42,[AE.enc x1],false⟩,some ⟨9,42,[AE.enc x2],false⟩] kr ?_
         refine AT (caps:=[]) (xs:=[AA.enc x0,AE.enc x1]) (u:=(x0,x1,())) rfl rfl Kq rfl (AB rfl) kr kr (AM (AX (c:=AA) (v:=x0)) (AM (AX (c:=AE) (v:=x1)) Aj)) (.inl kr) hv37 ?_;refine AD (n:=119) AC 1 [(5,.pt 0 0 0),(7,.pt 2 0 0),(113,.v (.bool v37))] [some ⟨5,60,[AA.enc x0],false⟩,some ⟨9,42,[AE.enc x1],false⟩,some ⟨9,42,[AE.enc x2],false⟩] kr ?_;rcases BE v37 with hc41 | hc41
         ·rw [if_pos hc41] at hj40
          rw [hc41];refine AD (n:=119) AC 2 [(113,.v (.bool true)),(114,AA.enc x0),(115,AE.enc x2)] [some ⟨5,60,[AA.enc x0],false⟩,some ⟨9,42,[AE.enc x1],false⟩,some ⟨9,42,[AE.enc x2],false⟩] kr ?_;obtain ⟨v38,hv38,hj40⟩:=OB hj40;refine AT (caps:=[]) (xs:=[AA.enc x0,AE.enc x2]) (u:=(x0,x2,())) rfl rfl Kq rfl kr kr kr (AM (AX (c:=AA) (v:=x0)) (AM (AX (c:=AE) (v:=x2)) Aj)) (.inl kr) hv38 ?_;refine AD (n:=119) AC 3 [(10,.v (.bool (!v38)))] [some ⟨5,60,[AA.enc x0],false⟩,some ⟨9,42,[AE.enc x1],false⟩,some ⟨9,42,[AE.enc x2],false⟩] kr ?_;have hq:=OI hj40; subst hq;exact AI rfl (Ad [] trivial ⟨lv,trivial⟩)
         ·rw [BZ hc41] at hj40
          rw [hc41];refine AD (n:=119) AC 6 [(10,.v (.bool false))] [some ⟨5,60,[AA.enc x0],false⟩,some ⟨9,42,[AE.enc x1],false⟩,some ⟨9,42,[AE.enc x2],false⟩] kr ?_;have hq:=OI hj40; subst hq;exact AI rfl (Ad [] trivial ⟨lv,trivial⟩)
        refine AQ ?_;have hq:=OI h; subst hq;exact ⟨⟨Fr 119 [(10,.v (.bool j40))],[]⟩,AL,.inr rfl,[.v (.bool j40)],kr,kr⟩
def TX:List AV->Option AV:=Dx K9 (fun a=>Gq a.1 a.2.1 a.2.2.1 a.2.2.2.1 a.2.2.2.2.1) LH
theorem Ow:XOk 151 TX:=by
 refine AU Tryz.func151 (c:=Nm) ?h2 ⟨Tryz.call151⟩ K9 (fun a=>Gq a.1 a.2.1 a.2.2.1 a.2.2.2.1 a.2.2.2.2.1) LH (fun a=>(by show 5<=119; decide)) ?h3 ?h4
 case h2=>kernel_rfl
 case h3=>intro b; kernel_rfl
 case h4=>exact fun a b h=>RF a.1 a.2.1 a.2.2.1 a.2.2.2.1 a.2.2.2.2.1 b h
/- trestle/trestleref03.Reason -/
noncomputable def K0:Code:=BG Tryz.f119
def EE (x0:(List AG)) (x1:Ai) (x2:Ai) (x3:Int) (x4:Int):Nat->Int->Option ((Unit) ⊕ (Int×Int))
 | 0,_=>none
 | f + 1,c1 =>
  if (decide (c1 < (x0.length:Int)))=true then
  (idx x0 c1).bind fun v3 =>
  (if (!(v3.2.1==[]))=true then (idx x0 c1).bind fun v4 =>
  if (!(x1.2.1==v4.2.1))=true then some true else (idx x0 c1).bind fun v5 =>
  some (!(x2.2.1==v5.2.1)) else some false).bind fun j7 =>
  if j7=true then
  EE x0 x1 x2 x3 x4 f (wr .i64 (c1 + 1))
  else
  (idx x0 c1).bind fun v9 =>
  (Gq v9 x1 x2 x3 x4).bind fun v10 =>
  if v10=true then
  some (.inr (c1,(-1)))
  else
  (idx x0 c1).bind fun v14 =>
  (Gq v14 x2 x1 x4 x3).bind fun v15 =>
  if v15=true then
  some (.inr (c1,1))
  else
  EE x0 x1 x2 x3 x4 f (wr .i64 (c1 + 1))
  else
  some (.inl ())
def HX (x0:(List AG)) (x1:Ai) (x2:Ai) (x3:Int) (x4:Int):Option (Int×Int) :=
 (EE x0 x1 x2 x3 x4 100000 0).bind fun r19 =>
 match r19 with
 | (.inl _w20) =>
  some ((-1),0)
 | (.inr w21) =>
  some (w21.1,w21.2)
def K8:Cs ((List AG)×Ai×Ai×Int×Int×Unit):=(csC (cdL 5 AA) (csC AE (csC AE (csC cdI (csC cdI csN)))))
def LG (r:Int×Int):AV:= .tp [cdI.enc r.1,cdI.enc r.2]
theorem Ln (x0:(List AG)) (x1:Ai) (x2:Ai) (x3:Int) (x4:Int):∀ (f:Nat) (c1:Int) (r:(Unit) ⊕ (Int×Int)),EE x0 x1 x2 x3 x4 f c1=some r->SemN E0 ⟨none,false⟩ (pc K0 [1,0,1,0,0]) f ⟨Fr 65 [(0,.sl 5 (x0.map AA.enc)),(3,.v (.int .i64 x3)),(4,.v (.int .i64 x4)),(6,.pt 0 0 0),(7,.pt 1 0 0),(12,.v (.int .i64 c1))],[some ⟨9,42,[AE.enc x1],false⟩,some ⟨9,42,[AE.enc x2],false⟩]⟩ (fun e s=>match r with
 | (.inl _w)=>e=(.exit 0)/\Wk E0 s ⟨Fr 65 [],[]⟩
 | (.inr w)=>e = .ret/\Wk E0 s ⟨Fr 65 [(10,.v (.int .i64 w.1)),(11,.v (.int .i64 w.2))],[]⟩):=by
 intro f;induction f with
 | zero=>intro c1 r h; cases h
 | succ f ih0 =>
  intro c1 r h
  have ih:=fun (c1:Int)=>ih0 c1 r
  unfold EE at h;refine BR ?_;refine AF ?_;refine AF ?_;refine AK (s1:=⟨Fr 65 [(0,.sl 5 (x0.map AA.enc)),(3,.v (.int .i64 x3)),(4,.v (.int .i64 x4)),(6,.pt 0 0 0),(7,.pt 1 0 0),(12,.v (.int .i64 c1)),(16,.v (.bool (decide (c1 < (x0.length:Int)))))],[some ⟨9,42,[AE.enc x1],false⟩,some ⟨9,42,[AE.enc x2],false⟩]⟩) ?_ ?_
  ·refine AD (n:=65) AC 2 [(0,.sl 5 (x0.map AA.enc)),(3,.v (.int .i64 x3)),(4,.v (.int .i64 x4)),(6,.pt 0 0 0),(7,.pt 1 0 0),(12,.v (.int .i64 c1)),(13,.v (.int .i64 c1)),(14,.sl 5 (x0.map AA.enc))] [some ⟨9,42,[AE.enc x1],false⟩,some ⟨9,42,[AE.enc x2],false⟩] kr ?_
   refine AR AC 0 rfl (C7 (AB rfl) rfl (Ck (a:= .sl 5 (x0.map AA.enc)) kr (Ba (el:=60) kr))) ?_;exact AW AC
  refine AP (b:=(decide (c1 < (x0.length:Int)))) kr (fun hb2=>?_) (fun hb2=>?_)
  ·rw [if_pos hb2] at h
   refine AS ?_;refine AF ?_;refine AZ ?_;refine AF ?_;refine AF ?_;obtain ⟨v3,hv3,h⟩:=OB h;obtain ⟨j7,hj7,h⟩:=OB h;refine DL AC (s1:=⟨Fr 65 [(0,.sl 5 (x0.map AA.enc)),(3,.v (.int .i64 x3)),(4,.v (.int .i64 x4)),(6,.pt 0 0 0),(7,.pt 1 0 0),(12,.v (.int .i64 c1)),(44,.v (.bool j7))],[some ⟨9,42,[AE.enc x1],false⟩,some ⟨9,42,[AE.enc x2],false⟩]⟩) kr ?_ ?_
   ·refine AY (n:=65) AC 2 [(0,.sl 5 (x0.map AA.enc)),(3,.v (.int .i64 x3)),(4,.v (.int .i64 x4)),(6,.pt 0 0 0),(7,.pt 1 0 0),(12,.v (.int .i64 c1)),(19,.sl 5 (x0.map AA.enc)),(20,.v (.int .i64 c1))] [some ⟨9,42,[AE.enc x1],false⟩,some ⟨9,42,[AE.enc x2],false⟩] kr kr ?_
    refine RunDS.one AC rfl kr (HK kr (AB rfl) rfl (AO (a:= .sl 5 (x0.map AA.enc)) (b:= .v (.int .i64 c1)) kr kr (Dn (e:=AA.enc) (el:=60) (k:=5) (ki:= .i64) kr kr hv3)) kr) ?_;refine AY (n:=65) AC 4 [(0,.sl 5 (x0.map AA.enc)),(3,.v (.int .i64 x3)),(4,.v (.int .i64 x4)),(6,.pt 0 0 0),(7,.pt 1 0 0),(12,.v (.int .i64 c1)),(25,.v (.bool (!(v3.2.1==[]))))] [some ⟨9,42,[AE.enc x1],false⟩,some ⟨9,42,[AE.enc x2],false⟩] kr kr ?_;rcases BE (!(v3.2.1==[])) with hc17 | hc17
    ·rw [if_pos hc17] at hj7
     rw [hc17];refine AY (n:=65) AC 4 [(0,.sl 5 (x0.map AA.enc)),(3,.v (.int .i64 x3)),(4,.v (.int .i64 x4)),(6,.pt 0 0 0),(7,.pt 1 0 0),(12,.v (.int .i64 c1)),(25,.v (.bool true)),(26,.pt 0 0 1),(27,.st x1.2.1),(28,.sl 5 (x0.map AA.enc)),(29,.v (.int .i64 c1))] [some ⟨9,42,[AE.enc x1],false⟩,some ⟨9,42,[AE.enc x2],false⟩] kr kr ?_;obtain ⟨v4,hv4,hj7⟩:=OB hj7;refine RunDS.one AC rfl kr (HK kr kr rfl (AO (a:= .sl 5 (x0.map AA.enc)) (b:= .v (.int .i64 c1)) kr kr (Dn (e:=AA.enc) (el:=60) (k:=5) (ki:= .i64) kr kr hv4)) kr) ?_;refine AY (n:=65) AC 4 [(0,.sl 5 (x0.map AA.enc)),(3,.v (.int .i64 x3)),(4,.v (.int .i64 x4)),(6,.pt 0 0 0),(7,.pt 1 0 0),(12,.v (.int .i64 c1)),(25,.v (.bool true)),(26,.pt 0 0 1),(27,.st x1.2.1),(28,.sl 5 (x0.map AA.enc)),(29,.v (.int .i64 c1)),(30,.pe (AA.enc v4) 0),(31,.pe (AA.enc v4) 1),(32,.st v4.2.1),(33,.v (.bool (!(x1.2.1==v4.2.1)))),(34,.v (.bool (!(x1.2.1==v4.2.1))))] [some ⟨9,42,[AE.enc x1],false⟩,some ⟨9,42,[AE.enc x2],false⟩] kr kr ?_;rcases BE (!(x1.2.1==v4.2.1)) with hc18 | hc18
     ·rw [if_pos hc18] at hj7
      rw [hc18];refine AY (n:=65) AC 10 [(0,.sl 5 (x0.map AA.enc)),(3,.v (.int .i64 x3)),(4,.v (.int .i64 x4)),(6,.pt 0 0 0),(7,.pt 1 0 0),(12,.v (.int .i64 c1)),(26,.pt 0 0 1),(27,.st x1.2.1),(28,.sl 5 (x0.map AA.enc)),(29,.v (.int .i64 c1)),(30,.pe (AA.enc v4) 0),(31,.pe (AA.enc v4) 1),(32,.st v4.2.1),(33,.v (.bool true)),(34,.v (.bool true)),(35,.tp []),(36,.tp []),(37,.tp []),(38,.tp []),(39,.tp []),(40,.tp []),(41,.tp []),(42,.tp []),(43,.v (.bool true)),(44,.v (.bool true))] [some ⟨9,42,[AE.enc x1],false⟩,some ⟨9,42,[AE.enc x2],false⟩] kr kr ?_;have hq:=OI hj7; subst hq;exact RunDS.done rfl (Ad [0,1] ⟨⟨_,rfl,Ga⟩,⟨_,rfl,Ga⟩,trivial⟩ ⟨lv,lv,lv,lv,lv,lv,lv,trivial⟩)
     ·rw [BZ hc18] at hj7
      rw [hc18];refine AY (n:=65) AC 4 [(0,.sl 5 (x0.map AA.enc)),(3,.v (.int .i64 x3)),(4,.v (.int .i64 x4)),(6,.pt 0 0 0),(7,.pt 1 0 0),(12,.v (.int .i64 c1)),(25,.v (.bool true)),(26,.pt 0 0 1),(27,.st x1.2.1),(28,.sl 5 (x0.map AA.enc)),(29,.v (.int .i64 c1)),(30,.pe (AA.enc v4) 0),(31,.pe (AA.enc v4) 1),(32,.st v4.2.1),(33,.v (.bool false)),(34,.v (.bool false)),(35,.pt 1 0 1),(36,.st x2.2.1),(37,.sl 5 (x0.map AA.enc)),(38,.v (.int .i64 c1))] [some ⟨9,42,[AE.enc x1],false⟩,some ⟨9,42,[AE.enc x2],false⟩] kr kr ?_;obtain ⟨v5,hv5,hj7⟩:=OB hj7;refine RunDS.one AC rfl kr (HK kr kr rfl (AO (a:= .sl 5 (x0.map AA.enc)) (b:= .v (.int .i64 c1)) kr kr (Dn (e:=AA.enc) (el:=60) (k:=5) (ki:= .i64) kr kr hv5)) kr) ?_;refine AY (n:=65) AC 5 [(0,.sl 5 (x0.map AA.enc)),(3,.v (.int .i64 x3)),(4,.v (.int .i64 x4)),(6,.pt 0 0 0),(7,.pt 1 0 0),(12,.v (.int .i64 c1)),(26,.pt 0 0 1),(27,.st x1.2.1),(28,.sl 5 (x0.map AA.enc)),(29,.v (.int .i64 c1)),(30,.pe (AA.enc v4) 0),(31,.pe (AA.enc v4) 1),(32,.st v4.2.1),(33,.v (.bool false)),(34,.v (.bool false)),(35,.pt 1 0 1),(36,.st x2.2.1),(37,.sl 5 (x0.map AA.enc)),(38,.v (.int .i64 c1)),(39,.pe (AA.enc v5) 0),(40,.pe (AA.enc v5) 1),(41,.st v5.2.1),(42,.v (.bool (!(x2.2.1==v5.2.1)))),(43,.v (.bool (!(x2.2.1==v5.2.1)))),(44,.v (.bool (!(x2.2.1==v5.2.1))))] [some ⟨9,42,[AE.enc x1],false⟩,some ⟨9,42,[AE.enc x2],false⟩] kr kr ?_;have hq:=OI hj7; subst hq;exact RunDS.done rfl (Ad [0,1] ⟨⟨_,rfl,Ga⟩,⟨_,rfl,Ga⟩,trivial⟩ ⟨lv,lv,lv,lv,lv,lv,lv,trivial⟩)
    ·rw [BZ hc17] at hj7
     rw [hc17];refine AY (n:=65) AC 19 [(0,.sl 5 (x0.map AA.enc)),(3,.v (.int .i64 x3)),(4,.v (.int .i64 x4)),(6,.pt 0 0 0),(7,.pt 1 0 0),(12,.v (.int .i64 c1)),(26,.tp []),(27,.tp []),(28,.tp []),(29,.tp []),(30,.tp []),(31,.tp []),(32,.tp []),(33,.tp []),(34,.tp []),(35,.tp []),(36,.tp []),(37,.tp []),(38,.tp []),(39,.tp []),(40,.tp []),(41,.tp []),(42,.tp []),(43,.tp []),(44,.v (.bool false))] [some ⟨9,42,[AE.enc x1],false⟩,some ⟨9,42,[AE.enc x2],false⟩] kr kr ?_;have hq:=OI hj7; subst hq;exact RunDS.done rfl (Ad [0,1] ⟨⟨_,rfl,Ga⟩,⟨_,rfl,Ga⟩,trivial⟩ ⟨lv,lv,lv,lv,lv,lv,lv,trivial⟩)
   refine AP (b:=j7) kr (fun hb8=>?_) (fun hb8=>?_)
   ·rw [if_pos hb8] at h
    refine Bd ?_;refine Cn AC [(0,.sl 5 (x0.map AA.enc)),(3,.v (.int .i64 x3)),(4,.v (.int .i64 x4)),(6,.pt 0 0 0),(7,.pt 1 0 0),(12,.v (.int .i64 (wr .i64 (c1 + 1))))] [some ⟨9,42,[AE.enc x1],false⟩,some ⟨9,42,[AE.enc x2],false⟩] ?_;exact Ac (s1:=⟨Fr 65 [(0,.sl 5 (x0.map AA.enc)),(3,.v (.int .i64 x3)),(4,.v (.int .i64 x4)),(6,.pt 0 0 0),(7,.pt 1 0 0),(12,.v (.int .i64 (wr .i64 (c1 + 1))))],[some ⟨9,42,[AE.enc x1],false⟩,some ⟨9,42,[AE.enc x2],false⟩]⟩) (Ad [0,1] ⟨⟨_,rfl,Ga⟩,⟨_,rfl,Ga⟩,trivial⟩ ⟨lv,lv,lv,lv,lv,lv,trivial⟩) (ih (wr .i64 (c1 + 1)) h)
   ·rw [BZ hb8] at h
    refine AS ?_;refine AF ?_;refine AF ?_;obtain ⟨v9,hv9,h⟩:=OB h;obtain ⟨v10,hv10,h⟩:=OB h;refine DL AC (s1:=⟨Fr 65 [(0,.sl 5 (x0.map AA.enc)),(3,.v (.int .i64 x3)),(4,.v (.int .i64 x4)),(6,.pt 0 0 0),(7,.pt 1 0 0),(12,.v (.int .i64 c1)),(53,.v (.bool v10))],[some ⟨9,42,[AE.enc x1],false⟩,some ⟨9,42,[AE.enc x2],false⟩]⟩) kr ?_ ?_
    ·refine AY (n:=65) AC 2 [(0,.sl 5 (x0.map AA.enc)),(3,.v (.int .i64 x3)),(4,.v (.int .i64 x4)),(6,.pt 0 0 0),(7,.pt 1 0 0),(12,.v (.int .i64 c1)),(45,.sl 5 (x0.map AA.enc)),(46,.v (.int .i64 c1))] [some ⟨9,42,[AE.enc x1],false⟩,some ⟨9,42,[AE.enc x2],false⟩] kr kr ?_
     refine RunDS.one AC rfl kr (HK kr (AB rfl) rfl (AO (a:= .sl 5 (x0.map AA.enc)) (b:= .v (.int .i64 c1)) kr kr (Dn (e:=AA.enc) (el:=60) (k:=5) (ki:= .i64) kr kr hv9)) kr) ?_;refine AY (n:=65) AC 5 [(0,.sl 5 (x0.map AA.enc)),(3,.v (.int .i64 x3)),(4,.v (.int .i64 x4)),(6,.pt 0 0 0),(7,.pt 1 0 0),(12,.v (.int .i64 c1)),(48,AA.enc v9),(49,AE.enc x1),(50,AE.enc x2),(51,.v (.int .i64 x3)),(52,.v (.int .i64 x4))] [some ⟨9,42,[AE.enc x1],false⟩,some ⟨9,42,[AE.enc x2],false⟩] kr kr ?_;refine Bb (caps:=[]) (xs:=[AA.enc v9,AE.enc x1,AE.enc x2,.v (.int .i64 x3),.v (.int .i64 x4)]) (u:=(v9,x1,x2,x3,x4,())) rfl rfl Ow rfl (AB rfl) kr kr (AM (AX (c:=AA) (v:=v9)) (AM (AX (c:=AE) (v:=x1)) (AM (AX (c:=AE) (v:=x2)) (AM (AX (c:=cdI) (v:=x3)) (AM (AX (c:=cdI) (v:=x4)) Aj))))) kr hv10 ?_;exact RunDS.done rfl (Ad [0,1] ⟨⟨_,rfl,Ga⟩,⟨_,rfl,Ga⟩,trivial⟩ ⟨lv,lv,lv,lv,lv,lv,lv,trivial⟩)
    refine AP (b:=v10) kr (fun hb11=>?_) (fun hb11=>?_)
    ·rw [if_pos hb11] at h
     refine AF ?_;refine AK (s1:=⟨Fr 65 [(10,.v (.int .i64 c1)),(11,.v (.int .i64 (-1)))],[]⟩) ?_ ?_
     ·refine AD (n:=65) AC 3 [(10,.v (.int .i64 c1)),(11,.v (.int .i64 (-1)))] [some ⟨9,42,[AE.enc x1],false⟩,some ⟨9,42,[AE.enc x2],false⟩] kr ?_
      exact AI rfl (Ad [] trivial ⟨lv,lv,trivial⟩)
     refine AQ ?_;have hq:=OI h; subst hq;exact ⟨rfl,AL⟩
    ·rw [BZ hb11] at h
     refine AS ?_;refine AF ?_;obtain ⟨v14,hv14,h⟩:=OB h;obtain ⟨v15,hv15,h⟩:=OB h;refine DL AC (s1:=⟨Fr 65 [(0,.sl 5 (x0.map AA.enc)),(3,.v (.int .i64 x3)),(4,.v (.int .i64 x4)),(6,.pt 0 0 0),(7,.pt 1 0 0),(12,.v (.int .i64 c1)),(63,.v (.bool v15))],[some ⟨9,42,[AE.enc x1],false⟩,some ⟨9,42,[AE.enc x2],false⟩]⟩) kr ?_ ?_
     ·refine AY (n:=65) AC 2 [(0,.sl 5 (x0.map AA.enc)),(3,.v (.int .i64 x3)),(4,.v (.int .i64 x4)),(6,.pt 0 0 0),(7,.pt 1 0 0),(12,.v (.int .i64 c1)),(55,.sl 5 (x0.map AA.enc)),(56,.v (.int .i64 c1))] [some ⟨9,42,[AE.enc x1],false⟩,some ⟨9,42,[AE.enc x2],false⟩] kr kr ?_
      refine RunDS.one AC rfl kr (HK kr (AB rfl) rfl (AO (a:= .sl 5 (x0.map AA.enc)) (b:= .v (.int .i64 c1)) kr kr (Dn (e:=AA.enc) (el:=60) (k:=5) (ki:= .i64) kr kr hv14)) kr) ?_;refine AY (n:=65) AC 5 [(0,.sl 5 (x0.map AA.enc)),(3,.v (.int .i64 x3)),(4,.v (.int .i64 x4)),(6,.pt 0 0 0),(7,.pt 1 0 0),(12,.v (.int .i64 c1)),(58,AA.enc v14),(59,AE.enc x2),(60,AE.enc x1),(61,.v (.int .i64 x4)),(62,.v (.int .i64 x3))] [some ⟨9,42,[AE.enc x1],false⟩,some ⟨9,42,[AE.enc x2],false⟩] kr kr ?_;refine Bb (caps:=[]) (xs:=[AA.enc v14,AE.enc x2,AE.enc x1,.v (.int .i64 x4),.v (.int .i64 x3)]) (u:=(v14,x2,x1,x4,x3,())) rfl rfl Ow rfl (AB rfl) kr kr (AM (AX (c:=AA) (v:=v14)) (AM (AX (c:=AE) (v:=x2)) (AM (AX (c:=AE) (v:=x1)) (AM (AX (c:=cdI) (v:=x4)) (AM (AX (c:=cdI) (v:=x3)) Aj))))) kr hv15 ?_;exact RunDS.done rfl (Ad [0,1] ⟨⟨_,rfl,Ga⟩,⟨_,rfl,Ga⟩,trivial⟩ ⟨lv,lv,lv,lv,lv,lv,lv,trivial⟩)
     refine AP (b:=v15) kr (fun hb16=>?_) (fun hb16=>?_)
     ·rw [if_pos hb16] at h
      refine AF ?_;refine AK (s1:=⟨Fr 65 [(10,.v (.int .i64 c1)),(11,.v (.int .i64 1))],[]⟩) ?_ ?_
      ·refine AD (n:=65) AC 3 [(10,.v (.int .i64 c1)),(11,.v (.int .i64 1))] [some ⟨9,42,[AE.enc x1],false⟩,some ⟨9,42,[AE.enc x2],false⟩] kr ?_
       exact AI rfl (Ad [] trivial ⟨lv,lv,trivial⟩)
      refine AQ ?_;have hq:=OI h; subst hq;exact ⟨rfl,AL⟩
     ·rw [BZ hb16] at h
      refine AS ?_;refine Cn AC [(0,.sl 5 (x0.map AA.enc)),(3,.v (.int .i64 x3)),(4,.v (.int .i64 x4)),(6,.pt 0 0 0),(7,.pt 1 0 0),(12,.v (.int .i64 (wr .i64 (c1 + 1))))] [some ⟨9,42,[AE.enc x1],false⟩,some ⟨9,42,[AE.enc x2],false⟩] ?_;exact Ac (s1:=⟨Fr 65 [(0,.sl 5 (x0.map AA.enc)),(3,.v (.int .i64 x3)),(4,.v (.int .i64 x4)),(6,.pt 0 0 0),(7,.pt 1 0 0),(12,.v (.int .i64 (wr .i64 (c1 + 1))))],[some ⟨9,42,[AE.enc x1],false⟩,some ⟨9,42,[AE.enc x2],false⟩]⟩) (Ad [0,1] ⟨⟨_,rfl,Ga⟩,⟨_,rfl,Ga⟩,trivial⟩ ⟨lv,lv,lv,lv,lv,lv,trivial⟩) (ih (wr .i64 (c1 + 1)) h)
  ·rw [BZ hb2] at h
   refine Bd ?_;have hq:=OI h; subst hq;exact ⟨rfl,(Ad [] trivial trivial)⟩
theorem RE (x0:(List AG)) (x1:Ai) (x2:Ai) (x3:Int) (x4:Int) (r:Int×Int) (h:HX x0 x1 x2 x3 x4=some r):Sem E0 ⟨none,false⟩ K0 ⟨Fr 65 (A3 0 (K8.enc (x0,x1,x2,x3,x4,()))),[]⟩ fun e s'=>(e = .normal\/e = .ret)/\∃ xs,EG E0.P s'.fr s'.hp Tryz.f119.results.toList=some xs/\EN xs=LG r:=by
 unfold HX at h
 let p1:Nat×AV:=(4,.v (.int .i64 x4))
 let p2:Nat×AV:=(3,.v (.int .i64 x3))
 let p3:Nat×AV:=(0,.sl 5 (x0.map AA.enc))
 refine An (BP (s1:=⟨Fr 65 [p3,(1,AE.enc x1),(2,AE.enc x2),p2,p1],[]⟩) AL ?_)
 let p4:Option Blk:=some ⟨9,42,[AE.enc x2],false⟩
 let p5:Option Blk:=some ⟨9,42,[AE.enc x1],false⟩
 let p6:Nat×AV:=(7,.pt 1 0 0)
 let p7:Nat×AV:=(6,.pt 0 0 0)
 refine AJ AC [p3,p2,p1,p7,p6] [p5,p4] ?_;refine AF ?_
 let p8:Nat×AV:=(12,.v (.int .i64 0))
 refine AJ AC [p3,p2,p1,p7,p6,p8] [p5,p4] ?_;refine AZ ?_;obtain ⟨r19,hr19,h⟩:=OB h;refine Bj (n:=100000) ?_;rcases r19 with w20 | w21
 ·try dsimp only at h
  refine Aq (Ac (s1:=⟨Fr 65 [p3,p2,p1,p7,p6,p8],[p5,p4]⟩) (Ad [0,1] ⟨⟨_,rfl,Ga⟩,⟨_,rfl,Ga⟩,trivial⟩ ⟨lv,lv,lv,lv,lv,lv,trivial⟩) (Ln x0 x1 x2 x3 x4 _ 0 _ hr19)) ?_;refine AJ AC [(10,.v (.int .i64 (-1))),(11,.v (.int .i64 0))] [] ?_;refine AQ ?_;have hq:=OI h; subst hq;exact ⟨⟨Fr 65 [(10,.v (.int .i64 (-1))),(11,.v (.int .i64 0))],[]⟩,AL,.inr rfl,[.v (.int .i64 (-1)),.v (.int .i64 0)],kr,kr⟩
 ·try dsimp only at h
  refine Aq (Ac (s1:=⟨Fr 65 [p3,p2,p1,p7,p6,p8],[p5,p4]⟩) (Ad [0,1] ⟨⟨_,rfl,Ga⟩,⟨_,rfl,Ga⟩,trivial⟩ ⟨lv,lv,lv,lv,lv,lv,trivial⟩) (Ln x0 x1 x2 x3 x4 _ 0 _ hr19)) ?_;have hq:=OI h; subst hq;exact ⟨⟨Fr 65 [(10,.v (.int .i64 w21.1)),(11,.v (.int .i64 w21.2))],[]⟩,AL,.inr rfl,[.v (.int .i64 w21.1),.v (.int .i64 w21.2)],kr,kr⟩
def TW:List AV->Option AV:=Dx K8 (fun a=>HX a.1 a.2.1 a.2.2.1 a.2.2.2.1 a.2.2.2.2.1) LG
theorem Te:XOk 119 TW:=by
 refine AU Tryz.func119 (c:=K0) ?h2 ⟨Tryz.call119⟩ K8 (fun a=>HX a.1 a.2.1 a.2.2.1 a.2.2.2.1 a.2.2.2.2.1) LG (fun a=>(by show 5<=65; decide)) ?h3 ?h4
 case h2=>kernel_rfl
 case h3=>intro b; kernel_rfl
 case h4=>exact fun a b h=>RE a.1 a.2.1 a.2.2.1 a.2.2.2.1 a.2.2.2.2.1 b h
/- trestle/trestleref03.Goes -/
noncomputable def PR:Code:=BG Tryz.f150
def JN (x0:(List AG)) (x1:(List Ai)) (x2:Int) (x3:Int):Option (Bool) :=
 (idx x1 x2).bind fun v1 =>
 (idx x1 x3).bind fun v2 =>
 (HX x0 v1 v2 x2 x3).bind fun v3 =>
 some (decide (v3.2 < 0))
def Mh:Cs ((List AG)×(List Ai)×Int×Int×Unit):=(csC (cdL 5 AA) (csC (cdL 9 AE) (csC cdI (csC cdI csN))))
def Mp (r:Bool):AV:=cdB.enc r
theorem TR (x0:(List AG)) (x1:(List Ai)) (x2:Int) (x3:Int) (r:Bool) (h:JN x0 x1 x2 x3=some r):Sem E0 ⟨none,false⟩ PR ⟨Fr 28 (A3 0 (Mh.enc (x0,x1,x2,x3,()))),[]⟩ fun e s'=>(e = .normal\/e = .ret)/\∃ xs,EG E0.P s'.fr s'.hp Tryz.f150.results.toList=some xs/\EN xs=Mp r:=by
 unfold JN at h
 let p1:Nat×AV:=(3,.v (.int .i64 x3))
 let p2:Nat×AV:=(2,.v (.int .i64 x2))
 let p3:Nat×AV:=(1,.sl 9 (x1.map AE.enc))
 let p4:Nat×AV:=(0,.sl 5 (x0.map AA.enc))
 refine An (BP (s1:=⟨Fr 28 [p4,p3,p2,p1],[]⟩) AL ?_);refine AJ AC [p4,p3,p2,p1] [] ?_;refine AF ?_;obtain ⟨v1,hv1,h⟩:=OB h;obtain ⟨v2,hv2,h⟩:=OB h;obtain ⟨v3,hv3,h⟩:=OB h;refine DL AC (s1:=⟨Fr 28 [(10,.v (.int .i64 v3.2))],[]⟩) kr ?_ ?_
 ·let p5:Nat×AV:=(12,.sl 5 (x0.map AA.enc))
  refine AY (n:=28) AC 3 [p3,p2,p1,p5,(13,.sl 9 (x1.map AE.enc)),(14,.v (.int .i64 x2))] [] kr kr ?_;refine RunDS.one AC rfl kr (HK kr (AB rfl) rfl (AO (a:= .sl 9 (x1.map AE.enc)) (b:= .v (.int .i64 x2)) kr kr (Dn (e:=AE.enc) (el:=42) (k:=9) (ki:= .i64) kr kr hv1)) kr) ?_;refine AY (n:=28) AC 3 [p2,p1,p5,(16,AE.enc v1),(17,.sl 9 (x1.map AE.enc)),(18,.v (.int .i64 x3))] [] kr kr ?_;refine RunDS.one AC rfl kr (HK kr (AB rfl) rfl (AO (a:= .sl 9 (x1.map AE.enc)) (b:= .v (.int .i64 x3)) kr kr (Dn (e:=AE.enc) (el:=42) (k:=9) (ki:= .i64) kr kr hv2)) kr) ?_;refine AY (n:=28) AC 3 [p5,(16,AE.enc v1),(20,AE.enc v2),(21,.v (.int .i64 x2)),(22,.v (.int .i64 x3))] [] kr kr ?_;refine Bb (caps:=[]) (xs:=[.sl 5 (x0.map AA.enc),AE.enc v1,AE.enc v2,.v (.int .i64 x2),.v (.int .i64 x3)]) (u:=(x0,v1,v2,x2,x3,())) rfl rfl Te rfl (AB rfl) kr kr (AM (AX (c:=(cdL 5 AA)) (v:=x0)) (AM (AX (c:=AE) (v:=v1)) (AM (AX (c:=AE) (v:=v2)) (AM (AX (c:=cdI) (v:=x2)) (AM (AX (c:=cdI) (v:=x3)) Aj))))) kr hv3 ?_;refine AY (n:=28) AC 5 [(10,.v (.int .i64 v3.2))] [] kr kr ?_;exact RunDS.done rfl AL
 let p6:Nat×AV:=(8,.v (.bool (decide (v3.2 < 0))))
 refine AJ AC [p6] [] ?_;refine AQ ?_;have hq:=OI h; subst hq;exact ⟨⟨Fr 28 [p6],[]⟩,AL,.inr rfl,[.v (.bool (decide (v3.2 < 0)))],kr,kr⟩
def Vb:List AV->Option AV:=Dx Mh (fun a=>JN a.1 a.2.1 a.2.2.1 a.2.2.2.1) Mp
theorem Vo:XOk 150 Vb:=by
 refine AU Tryz.func150 (c:=PR) ?h2 ⟨Tryz.call150⟩ Mh (fun a=>JN a.1 a.2.1 a.2.2.1 a.2.2.2.1) Mp (fun a=>(by show 4<=28; decide)) ?h3 ?h4
 case h2=>kernel_rfl
 case h3=>intro b; kernel_rfl
 case h4=>exact fun a b h=>TR a.1 a.2.1 a.2.2.1 a.2.2.2.1 b h
/- trestle/trestleref03.votes -/
noncomputable def JR:Code:=BG Tryz.f147
def Hu (_x0:(List (List AG))) (_x1:(List Ai)) (_x2:Int) (_x3:Int) (c1:Int) (_c2:Int) (v5:Bool):Option ((Int)) :=
 if v5=true then
 some (wr .i64 (c1 + 1))
 else
 some c1
def EA (x0:(List (List AG))) (x1:(List Ai)) (x2:Int) (x3:Int):Nat->Int->Int->Option ((Int))
 | 0,_,_=>none
 | f + 1,c1,c2 =>
  if (decide (c2 < (x0.length:Int)))=true then
  (idx x0 c2).bind fun v4 =>
  (JN v4 x1 x2 x3).bind fun v5 =>
  (Hu x0 x1 x2 x3 c1 c2 v5).bind fun r8 =>
  EA x0 x1 x2 x3 f r8 (wr .i64 (c2 + 1))
  else
  some c1
def ID (x0:(List (List AG))) (x1:(List Ai)) (x2:Int) (x3:Int):Option (Int) :=
 (EA x0 x1 x2 x3 100000 0 0).bind fun r10 =>
 some r10
def L1:Cs ((List (List AG))×(List Ai)×Int×Int×Unit):=(csC (cdL 1 (cdL 5 AA)) (csC (cdL 9 AE) (csC cdI (csC cdI csN))))
def L8 (r:Int):AV:=cdI.enc r
theorem Qc (x0:(List (List AG))) (x1:(List Ai)) (x2:Int) (x3:Int) (c1:Int) (c2:Int) (v5:Bool) (r:(Int)) (h:Hu x0 x1 x2 x3 c1 c2 v5=some r):Sem E0 ⟨none,false⟩ (pc JR [1,1,0,1,0,0,1,0,0,1]) ⟨Fr 28 [(0,.sl 1 (x0.map (cdL 5 AA).enc)),(1,.sl 9 (x1.map AE.enc)),(2,.v (.int .i64 x2)),(3,.v (.int .i64 x3)),(9,.v (.int .i64 c1)),(10,.v (.int .i64 c2)),(24,.v (.bool v5))],[]⟩ (fun e s=>e = .normal/\Wk E0 s ⟨Fr 28 [(0,.sl 1 (x0.map (cdL 5 AA).enc)),(1,.sl 9 (x1.map AE.enc)),(2,.v (.int .i64 x2)),(3,.v (.int .i64 x3)),(9,.v (.int .i64 r)),(10,.v (.int .i64 c2))],[]⟩):=by
 unfold Hu at h;refine AP (b:=v5) kr (fun hb6=>?_) (fun hb6=>?_)
 ·rw [if_pos hb6] at h
  refine Cn AC [(0,.sl 1 (x0.map (cdL 5 AA).enc)),(1,.sl 9 (x1.map AE.enc)),(2,.v (.int .i64 x2)),(3,.v (.int .i64 x3)),(9,.v (.int .i64 (wr .i64 (c1 + 1)))),(10,.v (.int .i64 c2))] [] ?_;have hq:=OI h; subst hq;exact ⟨rfl,AL⟩
 ·rw [BZ hb6] at h
  refine AS ?_;have hq:=OI h; subst hq;exact ⟨rfl,AL⟩
theorem Qd (x0:(List (List AG))) (x1:(List Ai)) (x2:Int) (x3:Int):∀ (f:Nat) (c1:Int) (c2:Int) (r:(Int)),EA x0 x1 x2 x3 f c1 c2=some r->SemN E0 ⟨none,false⟩ (pc JR [1,1,0,1,0,0]) f ⟨Fr 28 [(0,.sl 1 (x0.map (cdL 5 AA).enc)),(1,.sl 9 (x1.map AE.enc)),(2,.v (.int .i64 x2)),(3,.v (.int .i64 x3)),(9,.v (.int .i64 c1)),(10,.v (.int .i64 c2))],[]⟩ (fun e s=>e=(.exit 0)/\Wk E0 s ⟨Fr 28 [(9,.v (.int .i64 r))],[]⟩):=by
 intro f;induction f with
 | zero=>intro c1 c2 r h; cases h
 | succ f ih0 =>
  intro c1 c2 r h
  have ih:=fun (c1:Int) (c2:Int)=>ih0 c1 c2 r
  unfold EA at h;refine BR ?_;refine AF ?_;refine AF ?_
  let p1:Nat×AV:=(10,.v (.int .i64 c2))
  let p2:Nat×AV:=(9,.v (.int .i64 c1))
  let p3:Nat×AV:=(3,.v (.int .i64 x3))
  let p4:Nat×AV:=(2,.v (.int .i64 x2))
  let p5:Nat×AV:=(1,.sl 9 (x1.map AE.enc))
  let p6:Nat×AV:=(0,.sl 1 (x0.map (cdL 5 AA).enc))
  refine AK (s1:=⟨Fr 28 [p6,p5,p4,p3,p2,p1,(14,.v (.bool (decide (c2 < (x0.length:Int)))))],[]⟩) ?_ ?_
  ·refine AD (n:=28) AC 2 [p6,p5,p4,p3,p2,p1,(11,.v (.int .i64 c2)),(12,.sl 1 (x0.map (cdL 5 AA).enc))] [] kr ?_
   refine AR AC 0 rfl (C7 (AB rfl) rfl (Ck (a:= .sl 1 (x0.map (cdL 5 AA).enc)) kr (Ba (el:=22) kr))) ?_;exact AW AC
  refine AP (b:=(decide (c2 < (x0.length:Int)))) kr (fun hb3=>?_) (fun hb3=>?_)
  ·rw [if_pos hb3] at h
   refine AS ?_;refine AF ?_;refine AZ ?_;refine AF ?_;obtain ⟨v4,hv4,h⟩:=OB h;obtain ⟨v5,hv5,h⟩:=OB h;refine AK (s1:=⟨Fr 28 [p6,p5,p4,p3,p2,p1,(24,.v (.bool v5))],[]⟩) ?_ ?_
   ·refine AD (n:=28) AC 2 [p6,p5,p4,p3,p2,p1,(17,.sl 1 (x0.map (cdL 5 AA).enc)),(18,.v (.int .i64 c2))] [] kr ?_
    refine AR AC 0 rfl (C7 (AB rfl) rfl (AO (a:= .sl 1 (x0.map (cdL 5 AA).enc)) (b:= .v (.int .i64 c2)) kr kr (Dn (e:=(cdL 5 AA).enc) (el:=22) (k:=1) (ki:= .i64) kr kr hv4))) ?_;refine AD (n:=28) AC 4 [p6,p5,p4,p3,p2,p1,(20,.sl 5 (v4.map AA.enc)),(21,.sl 9 (x1.map AE.enc)),(22,.v (.int .i64 x2)),(23,.v (.int .i64 x3))] [] kr ?_;refine AT (caps:=[]) (xs:=[.sl 5 (v4.map AA.enc),.sl 9 (x1.map AE.enc),.v (.int .i64 x2),.v (.int .i64 x3)]) (u:=(v4,x1,x2,x3,())) rfl rfl Vo rfl (AB rfl) kr kr (AM (AX (c:=(cdL 5 AA)) (v:=v4)) (AM (AX (c:=(cdL 9 AE)) (v:=x1)) (AM (AX (c:=cdI) (v:=x2)) (AM (AX (c:=cdI) (v:=x3)) Aj)))) (.inl kr) hv5 ?_;exact AI rfl AL
   obtain ⟨r8,hr8,h⟩:=OB h;refine F7 (Qc x0 x1 x2 x3 c1 c2 v5 _ hr8) ?_
   let p7:Nat×AV:=(10,.v (.int .i64 (wr .i64 (c2 + 1))))
   refine Cn AC [p6,p5,p4,p3,(9,.v (.int .i64 r8)),p7] [] ?_;exact Ac (s1:=⟨Fr 28 [p6,p5,p4,p3,(9,.v (.int .i64 r8)),p7],[]⟩) AL (ih r8 (wr .i64 (c2 + 1)) h)
  ·rw [BZ hb3] at h
   refine Bd ?_;have hq:=OI h; subst hq;exact ⟨rfl,AL⟩
theorem SQ (x0:(List (List AG))) (x1:(List Ai)) (x2:Int) (x3:Int) (r:Int) (h:ID x0 x1 x2 x3=some r):Sem E0 ⟨none,false⟩ JR ⟨Fr 28 (A3 0 (L1.enc (x0,x1,x2,x3,()))),[]⟩ fun e s'=>(e = .normal\/e = .ret)/\∃ xs,EG E0.P s'.fr s'.hp Tryz.f147.results.toList=some xs/\EN xs=L8 r:=by
 unfold ID at h
 let p1:Nat×AV:=(3,.v (.int .i64 x3))
 let p2:Nat×AV:=(2,.v (.int .i64 x2))
 let p3:Nat×AV:=(1,.sl 9 (x1.map AE.enc))
 let p4:Nat×AV:=(0,.sl 1 (x0.map (cdL 5 AA).enc))
 refine An (BP (s1:=⟨Fr 28 [p4,p3,p2,p1],[]⟩) AL ?_);refine AJ AC [p4,p3,p2,p1] [] ?_
 let p5:Nat×AV:=(9,.v (.int .i64 0))
 refine AJ AC [p4,p3,p2,p1,p5] [] ?_;refine AF ?_;refine AJ AC [p4,p3,p2,p1,p5,(10,.v (.int .i64 0))] [] ?_;refine AZ ?_;obtain ⟨r10,hr10,h⟩:=OB h;refine Bj (n:=100000) ?_;refine Aq (Ac (s1:=⟨Fr 28 [p4,p3,p2,p1,p5,(10,.v (.int .i64 0))],[]⟩) AL (Qd x0 x1 x2 x3 _ 0 0 _ hr10)) ?_;refine AJ AC [(8,.v (.int .i64 r10))] [] ?_;refine AQ ?_;have hq:=OI h; subst hq;exact ⟨⟨Fr 28 [(8,.v (.int .i64 r10))],[]⟩,AL,.inr rfl,[.v (.int .i64 r10)],kr,kr⟩
def Ui:List AV->Option AV:=Dx L1 (fun a=>ID a.1 a.2.1 a.2.2.1 a.2.2.2.1) L8
theorem Uq:XOk 147 Ui:=by
 refine AU Tryz.func147 (c:=JR) ?h2 ⟨Tryz.call147⟩ L1 (fun a=>ID a.1 a.2.1 a.2.2.1 a.2.2.2.1) L8 (fun a=>(by show 4<=28; decide)) ?h3 ?h4
 case h2=>kernel_rfl
 case h3=>intro b; kernel_rfl
 case h4=>exact fun a b h=>SQ a.1 a.2.1 a.2.2.1 a.2.2.2.1 b h
/- trestle/trestleref03.Votes -/
noncomputable def JQ:Code:=BG Tryz.f105
def D8 (x0:(List (List AG))) (x1:(List Ai)) (c1:(List (List Int))) (c2:Int):Nat->(List Int)->Int->Option (((List Int)))
 | 0,_,_=>none
 | f + 1,c4,c5 =>
  if (decide (c5 < (x1.length:Int)))=true then
  (ID x0 x1 c2 c5).bind fun v7 =>
  if (Gf 8 (c4.length + 1))=true then
  D8 x0 x1 c1 c2 f (c4++[v7]) (wr .i64 (c5 + 1))
  else none
  else
  some c4
def Dd (x0:(List (List AG))) (x1:(List Ai)):Nat->(List (List Int))->Int->Option (((List (List Int))))
 | 0,_,_=>none
 | f + 1,c1,c2 =>
  if (decide (c2 < (x1.length:Int)))=true then
  (D8 x0 x1 c1 c2 100000 [] 0).bind fun r10 =>
  if (Gf 24 (c1.length + 1))=true then
  Dd x0 x1 f (c1++[r10]) (wr .i64 (c2 + 1))
  else none
  else
  some c1
def IC (x0:(List (List AG))) (x1:(List Ai)):Option ((List (List Int))) :=
 (Dd x0 x1 100000 [] 0).bind fun r13 =>
 some r13
def JT:Cs ((List (List AG))×(List Ai)×Unit):=(csC (cdL 1 (cdL 5 AA)) (csC (cdL 9 AE) csN))
def L6 (r:(List (List Int))):AV:=(cdL 1 (cdL 1 cdI)).enc r
theorem QZ (x0:(List (List AG))) (x1:(List Ai)) (c1:(List (List Int))) (c2:Int):∀ (f:Nat) (c4:(List Int)) (c5:Int) (r:((List Int))),D8 x0 x1 c1 c2 f c4 c5=some r->SemN E0 ⟨none,false⟩ (pc JQ [1,1,0,1,0,0,1,0,0,1,0,1,0,0]) f ⟨Fr 34 [(0,.sl 1 (x0.map (cdL 5 AA).enc)),(1,.sl 9 (x1.map AE.enc)),(5,hd 0 (c1.map (cdL 1 cdI).enc)),(6,.v (.int .i64 c2)),(7,hd 1 (c4.map cdI.enc)),(8,.v (.int .i64 c5))],[mk 1 48 (c1.map (cdL 1 cdI).enc),mk 1 3 (c4.map cdI.enc)]⟩ (fun e s=>e=(.exit 2)/\Wk E0 s ⟨Fr 34 [(0,.sl 1 (x0.map (cdL 5 AA).enc)),(1,.sl 9 (x1.map AE.enc)),(5,hd 0 (c1.map (cdL 1 cdI).enc)),(6,.v (.int .i64 c2)),(7,hd 1 (r.map cdI.enc))],[mk 1 48 (c1.map (cdL 1 cdI).enc),mk 1 3 (r.map cdI.enc)]⟩):=by
 intro f;induction f with
 | zero=>intro c4 c5 r h; cases h
 | succ f ih0 =>
  intro c4 c5 r h
  have ih:=fun (c4:(List Int)) (c5:Int)=>ih0 c4 c5 r
  unfold D8 at h;refine BR ?_;refine AF ?_;refine AF ?_
  let p1:Option Blk:=mk 1 3 (c4.map cdI.enc)
  let p2:Option Blk:=mk 1 48 (c1.map (cdL 1 cdI).enc)
  let p3:Nat×AV:=(8,.v (.int .i64 c5))
  let p4:Nat×AV:=(6,.v (.int .i64 c2))
  let p5:Nat×AV:=(5,hd 0 (c1.map (cdL 1 cdI).enc))
  let p6:Nat×AV:=(1,.sl 9 (x1.map AE.enc))
  let p7:Nat×AV:=(0,.sl 1 (x0.map (cdL 5 AA).enc))
  refine AK (s1:=⟨Fr 34 [p7,p6,p5,p4,(7,hd 1 (c4.map cdI.enc)),p3,(18,.v (.bool (decide (c5 < (x1.length:Int)))))],[p2,p1]⟩) ?_ ?_
  ·refine AD (n:=34) AC 2 [p7,p6,p5,p4,(7,hd 1 (c4.map cdI.enc)),p3,(15,.v (.int .i64 c5)),(16,.sl 9 (x1.map AE.enc))] [p2,p1] kr ?_
   refine AR AC 0 rfl (C7 (AB rfl) rfl (Ck (a:= .sl 9 (x1.map AE.enc)) kr (Ba (el:=42) kr))) ?_;exact AW AC
  refine AP (b:=(decide (c5 < (x1.length:Int)))) kr (fun hb6=>?_) (fun hb6=>?_)
  ·rw [if_pos hb6] at h
   refine AS ?_;refine AF ?_;refine AZ ?_;obtain ⟨v7,hv7,h⟩:=OB h;by_cases hk8:(Gf 8 (c4.length + 1))=true
   case neg=>rw [if_neg hk8] at h; cases h
   rw [if_pos hk8] at h
   let p8:Option Blk:=mk 1 3 ((c4++[v7]).map cdI.enc)
   let p9:Nat×AV:=(7,hd 1 ((c4++[v7]).map cdI.enc))
   refine AK (s1:=⟨Fr 34 [p7,p6,p5,p4,p9,p3],[p2,p8]⟩) ?_ ?_
   ·refine AD (n:=34) AC 5 [p7,p6,p5,p4,p3,(21,hd 1 (c4.map cdI.enc)),(22,.sl 1 (x0.map (cdL 5 AA).enc)),(23,.sl 9 (x1.map AE.enc)),(24,.v (.int .i64 c2)),(25,.v (.int .i64 c5))] [p2,p1] kr ?_
    refine AT (caps:=[]) (xs:=[.sl 1 (x0.map (cdL 5 AA).enc),.sl 9 (x1.map AE.enc),.v (.int .i64 c2),.v (.int .i64 c5)]) (u:=(x0,x1,c2,c5,())) rfl rfl Uq rfl (AB rfl) kr kr (AM (AX (c:=(cdL 1 (cdL 5 AA))) (v:=x0)) (AM (AX (c:=(cdL 9 AE)) (v:=x1)) (AM (AX (c:=cdI) (v:=c2)) (AM (AX (c:=cdI) (v:=c5)) Aj)))) (.inl kr) hv7 ?_;refine AD (n:=34) AC 1 [p7,p6,p5,p4,p3,(21,hd 1 (c4.map cdI.enc)),(27,hd 2 ([v7].map cdI.enc))] [p2,p1,mk 1 3 ([v7].map cdI.enc)] kr ?_;refine AR AC 0 rfl (Xe (AB rfl) rfl kr kr (FE (a:=hd 1 (c4.map cdI.enc)) (b:=hd 2 ([v7].map cdI.enc)) kr kr (Kj (c:=cdI) (xs:=c4) (vs:=[v7]) (k:=1) (bytes:=8) (el:=3) kr kr (GK (t:=3) kr) (List.cons_ne_nil _ _) kr hk8))) ?_;refine AD (n:=34) AC 1 [p7,p6,p5,p4,(7,hd 3 ((c4++[v7]).map cdI.enc)),p3] [p2,none,mk 1 3 ([v7].map cdI.enc),p8] kr ?_;exact AI rfl (Ad [0,3] ⟨⟨_,rfl,HH⟩,⟨_,rfl,HH⟩,trivial⟩ ⟨lv,lv,HJ (b':=0) kr kr,lv,HJ (b':=3) kr kr,lv,trivial⟩)
   let p10:Nat×AV:=(8,.v (.int .i64 (wr .i64 (c5 + 1))))
   refine Cn AC [p7,p6,p5,p4,p9,p10] [p2,p8] ?_;exact Ac (s1:=⟨Fr 34 [p7,p6,p5,p4,p9,p10],[p2,p8]⟩) (Ad [0,1] ⟨⟨_,rfl,HH⟩,⟨_,rfl,HH⟩,trivial⟩ ⟨lv,lv,HJ (b':=0) kr kr,lv,HJ (b':=1) kr kr,lv,trivial⟩) (ih (c4++[v7]) (wr .i64 (c5 + 1)) h)
  ·rw [BZ hb6] at h
   refine Bd ?_;have hq:=OI h; subst hq;exact ⟨rfl,(Ad [0,1] ⟨⟨_,rfl,HH⟩,⟨_,rfl,HH⟩,trivial⟩ ⟨lv,lv,HJ (b':=0) kr kr,lv,HJ (b':=1) kr kr,trivial⟩)⟩
theorem QY (x0:(List (List AG))) (x1:(List Ai)):∀ (f:Nat) (c1:(List (List Int))) (c2:Int) (r:((List (List Int)))),Dd x0 x1 f c1 c2=some r->SemN E0 ⟨none,false⟩ (pc JQ [1,1,0,1,0,0]) f ⟨Fr 34 [(0,.sl 1 (x0.map (cdL 5 AA).enc)),(1,.sl 9 (x1.map AE.enc)),(5,hd 0 (c1.map (cdL 1 cdI).enc)),(6,.v (.int .i64 c2))],[mk 1 48 (c1.map (cdL 1 cdI).enc)]⟩ (fun e s=>e=(.exit 0)/\Wk E0 s ⟨Fr 34 [(5,hd 0 (r.map (cdL 1 cdI).enc))],[mk 1 48 (r.map (cdL 1 cdI).enc)]⟩):=by
 intro f;induction f with
 | zero=>intro c1 c2 r h; cases h
 | succ f ih0 =>
  intro c1 c2 r h
  have ih:=fun (c1:(List (List Int))) (c2:Int)=>ih0 c1 c2 r
  unfold Dd at h;refine BR ?_;refine AF ?_;refine AF ?_
  let p1:Option Blk:=mk 1 48 (c1.map (cdL 1 cdI).enc)
  let p2:Nat×AV:=(6,.v (.int .i64 c2))
  let p3:Nat×AV:=(5,hd 0 (c1.map (cdL 1 cdI).enc))
  let p4:Nat×AV:=(1,.sl 9 (x1.map AE.enc))
  let p5:Nat×AV:=(0,.sl 1 (x0.map (cdL 5 AA).enc))
  refine AK (s1:=⟨Fr 34 [p5,p4,p3,p2,(12,.v (.bool (decide (c2 < (x1.length:Int)))))],[p1]⟩) ?_ ?_
  ·refine AD (n:=34) AC 2 [p5,p4,p3,p2,(9,.v (.int .i64 c2)),(10,.sl 9 (x1.map AE.enc))] [p1] kr ?_
   refine AR AC 0 rfl (C7 (AB rfl) rfl (Ck (a:= .sl 9 (x1.map AE.enc)) kr (Ba (el:=42) kr))) ?_;exact AW AC
  refine AP (b:=(decide (c2 < (x1.length:Int)))) kr (fun hb3=>?_) (fun hb3=>?_)
  ·rw [if_pos hb3] at h
   refine AS ?_;refine AF ?_;refine AZ ?_;refine AJ AC [p5,p4,p3,p2,(7,.e0)] [p1] ?_;refine AF ?_
   let p6:Nat×AV:=(8,.v (.int .i64 0))
   refine AJ AC [p5,p4,p3,p2,(7,.e0),p6] [p1] ?_;refine AZ ?_;obtain ⟨r10,hr10,h⟩:=OB h;refine Bj (n:=100000) ?_;refine Aq (Ac (s1:=⟨Fr 34 [p5,p4,p3,p2,(7,hd 1 ([].map cdI.enc)),p6],[p1,mk 1 3 ([].map cdI.enc)]⟩) (Wk.trans (s1:=⟨Fr 34 [p5,p4,p3,p2,(7,hd 1 ([].map cdI.enc)),p6],[p1,mk 1 3 ([].map cdI.enc)]⟩) Wk.none (Ad [0,1] ⟨⟨_,rfl,HH⟩,⟨_,rfl,MY⟩,trivial⟩ ⟨lv,lv,HJ (b':=0) kr kr,lv,lv,lv,trivial⟩)) (QZ x0 x1 c1 c2 _ [] 0 _ hr10)) ?_;by_cases hk11:(Gf 24 (c1.length + 1))=true
   case neg=>rw [if_neg hk11] at h; cases h
   rw [if_pos hk11] at h
   let p7:Option Blk:=mk 1 48 ((c1++[r10]).map (cdL 1 cdI).enc)
   let p8:Nat×AV:=(5,hd 0 ((c1++[r10]).map (cdL 1 cdI).enc))
   refine AK (s1:=⟨Fr 34 [p5,p4,p8,p2],[p7]⟩) ?_ ?_
   ·let p9:Nat×AV:=(29,hd 0 (c1.map (cdL 1 cdI).enc))
    refine AD (n:=34) AC 2 [p5,p4,p2,p9,(30,hd 1 (r10.map cdI.enc))] [p1,mk 1 3 (r10.map cdI.enc)] kr ?_;refine Xu (s1:=⟨Fr 34 [p5,p4,p2,p9,(30,.sl 1 (r10.map cdI.enc))],[p1,none]⟩) (I4 1 (.inl kr) ⟨.inr (.inl rfl),.inl rfl,trivial⟩ ⟨⟨.sl 1 (x0.map (cdL 5 AA).enc),kr,.inl rfl⟩,⟨.sl 9 (x1.map AE.enc),kr,.inl rfl⟩,⟨.v (.int .i64 c2),kr,.inl rfl⟩,⟨hd 0 (c1.map (cdL 1 cdI).enc),kr,.inl rfl⟩,⟨hd 1 (r10.map cdI.enc),kr,UF (t:=3) kr NM⟩,trivial⟩) ?_;refine AD (n:=34) AC 1 [p5,p4,p2,p9,(31,hd 2 ([r10].map (cdL 1 cdI).enc))] [p1,none,mk 1 48 ([r10].map (cdL 1 cdI).enc)] kr ?_;refine AR AC 0 rfl (Xe (AB rfl) rfl kr kr (FE (a:=hd 0 (c1.map (cdL 1 cdI).enc)) (b:=hd 2 ([r10].map (cdL 1 cdI).enc)) kr kr (Kj (c:=(cdL 1 cdI)) (xs:=c1) (vs:=[r10]) (k:=1) (bytes:=24) (el:=48) kr kr (GK (t:=48) kr) (List.cons_ne_nil _ _) kr hk11))) ?_;refine AD (n:=34) AC 1 [p5,p4,(5,hd 3 ((c1++[r10]).map (cdL 1 cdI).enc)),p2] [none,none,mk 1 48 ([r10].map (cdL 1 cdI).enc),p7] kr ?_;exact AI rfl (Ad [3] ⟨⟨_,rfl,HH⟩,trivial⟩ ⟨lv,lv,HJ (b':=3) kr kr,lv,trivial⟩)
   let p10:Nat×AV:=(6,.v (.int .i64 (wr .i64 (c2 + 1))))
   refine Cn AC [p5,p4,p8,p10] [p7] ?_;exact Ac (s1:=⟨Fr 34 [p5,p4,p8,p10],[p7]⟩) (Ad [0] ⟨⟨_,rfl,HH⟩,trivial⟩ ⟨lv,lv,HJ (b':=0) kr kr,lv,trivial⟩) (ih (c1++[r10]) (wr .i64 (c2 + 1)) h)
  ·rw [BZ hb3] at h
   refine Bd ?_;have hq:=OI h; subst hq;exact ⟨rfl,(Ad [0] ⟨⟨_,rfl,HH⟩,trivial⟩ ⟨HJ (b':=0) kr kr,trivial⟩)⟩
theorem SN (x0:(List (List AG))) (x1:(List Ai)) (r:(List (List Int))) (h:IC x0 x1=some r):Sem E0 ⟨none,false⟩ JQ ⟨Fr 34 (A3 0 (JT.enc (x0,x1,()))),[]⟩ fun e s'=>(e = .normal\/e = .ret)/\∃ xs,EG E0.P s'.fr s'.hp Tryz.f105.results.toList=some xs/\EN xs=L6 r:=by
 unfold IC at h
 let p1:Nat×AV:=(1,.sl 9 (x1.map AE.enc))
 let p2:Nat×AV:=(0,.sl 1 (x0.map (cdL 5 AA).enc))
 refine An (BP (s1:=⟨Fr 34 [p2,p1],[]⟩) AL ?_);refine AJ AC [p2,p1] [] ?_;refine AJ AC [p2,p1,(5,.e0)] [] ?_;refine AF ?_
 let p3:Nat×AV:=(6,.v (.int .i64 0))
 refine AJ AC [p2,p1,(5,.e0),p3] [] ?_;refine AZ ?_;obtain ⟨r13,hr13,h⟩:=OB h;refine Bj (n:=100000) ?_
 let p4:Option Blk:=mk 1 48 ([].map (cdL 1 cdI).enc)
 let p5:Nat×AV:=(5,hd 0 ([].map (cdL 1 cdI).enc))
 refine Aq (Ac (s1:=⟨Fr 34 [p2,p1,p5,p3],[p4]⟩) (Wk.trans (s1:=⟨Fr 34 [p2,p1,p5,p3],[p4]⟩) Wk.none (Ad [0] ⟨⟨_,rfl,MY⟩,trivial⟩ ⟨lv,lv,lv,lv,trivial⟩)) (QY x0 x1 _ [] 0 _ hr13)) ?_;refine AJ AC [(4,hd 0 (r13.map (cdL 1 cdI).enc))] [mk 1 48 (r13.map (cdL 1 cdI).enc)] ?_;refine AQ ?_;have hq:=OI h; subst hq
 let p6:Nat×AV:=(4,.sl 1 (r13.map (cdL 1 cdI).enc))
 exact ⟨⟨Fr 34 [p6],[]⟩,(Wk.trans (s1:=⟨Fr 34 [p6],[none]⟩) (I4 0 (.inl kr) ⟨.inl rfl,trivial⟩ ⟨⟨hd 0 (r13.map (cdL 1 cdI).enc),kr,UF (t:=48) kr NM⟩,trivial⟩) (Ad [] trivial ⟨lv,trivial⟩)),.inr rfl,[.sl 1 (r13.map (cdL 1 cdI).enc)],kr,kr⟩
def Ug:List AV->Option AV:=Dx JT (fun a=>IC a.1 a.2.1) L6
theorem Up:XOk 105 Ug:=by
 refine AU Tryz.func105 (c:=JQ) ?h2 ⟨Tryz.call105⟩ JT (fun a=>IC a.1 a.2.1) L6 (fun a=>(by show 2<=34; decide)) ?h3 ?h4
 case h2=>kernel_rfl
 case h3=>intro b; kernel_rfl
 case h4=>exact fun a b h=>SN a.1 a.2.1 b h
/- trestle/trestleref03.Disagreements -/
noncomputable def Fz:Code:=BG Tryz.f104
def BU (x0:(List (List Int))) (x1:(List Int)) (c2:Int):Nat->Int->Int->Option ((Int))
 | 0,_,_=>none
 | f + 1,c4,c5 =>
  if (decide (c5 < c2))=true then
  (idx x1 c2).bind fun v7 =>
  (idx x0 v7).bind fun v8 =>
  (idx x1 c5).bind fun v9 =>
  (idx v8 v9).bind fun v10 =>
  BU x0 x1 c2 f (wr .i64 (c4 + v10)) (wr .i64 (c5 + 1))
  else
  some c4
def DK (x0:(List (List Int))) (x1:(List Int)):Nat->Int->Int->Option ((Int))
 | 0,_,_=>none
 | f + 1,c1,c2 =>
  if (decide (c2 < (x1.length:Int)))=true then
  (BU x0 x1 c2 100000 c1 0).bind fun r12 =>
  DK x0 x1 f r12 (wr .i64 (c2 + 1))
  else
  some c1
def Cl (x0:(List (List Int))) (x1:(List Int)):Option (Int) :=
 (DK x0 x1 100000 0 0).bind fun r14 =>
 some r14
def HB:Cs ((List (List Int))×(List Int)×Unit):=(csC (cdL 1 (cdL 1 cdI)) (csC (cdL 1 cdI) csN))
def HD (r:Int):AV:=cdI.enc r
theorem MA (x0:(List (List Int))) (x1:(List Int)) (c2:Int):∀ (f:Nat) (c4:Int) (c5:Int) (r:(Int)),BU x0 x1 c2 f c4 c5=some r->SemN E0 ⟨none,false⟩ (pc Fz [1,1,0,1,0,0,1,0,0,1,0,0]) f ⟨Fr 35 [(0,.sl 1 (x0.map (cdL 1 cdI).enc)),(1,.sl 1 (x1.map cdI.enc)),(5,.v (.int .i64 c4)),(6,.v (.int .i64 c2)),(7,.v (.int .i64 c5))],[]⟩ (fun e s=>e=(.exit 2)/\Wk E0 s ⟨Fr 35 [(0,.sl 1 (x0.map (cdL 1 cdI).enc)),(1,.sl 1 (x1.map cdI.enc)),(5,.v (.int .i64 r)),(6,.v (.int .i64 c2))],[]⟩):=by
 intro f;induction f with
 | zero=>intro c4 c5 r h; cases h
 | succ f ih0 =>
  intro c4 c5 r h
  have ih:=fun (c4:Int) (c5:Int)=>ih0 c4 c5 r
  unfold BU at h;refine BR ?_;refine AF ?_
  let p1:Nat×AV:=(7,.v (.int .i64 c5))
  let p2:Nat×AV:=(6,.v (.int .i64 c2))
  let p3:Nat×AV:=(1,.sl 1 (x1.map cdI.enc))
  let p4:Nat×AV:=(0,.sl 1 (x0.map (cdL 1 cdI).enc))
  refine AJ AC [p4,p3,(5,.v (.int .i64 c4)),p2,p1,(16,.v (.bool (decide (c5 < c2))))] [] ?_;refine AP (b:=(decide (c5 < c2))) kr (fun hb6=>?_) (fun hb6=>?_)
  ·rw [if_pos hb6] at h
   refine AS ?_;refine AF ?_;refine AZ ?_;obtain ⟨v7,hv7,h⟩:=OB h;obtain ⟨v8,hv8,h⟩:=OB h;obtain ⟨v9,hv9,h⟩:=OB h;obtain ⟨v10,hv10,h⟩:=OB h
   let p5:Nat×AV:=(5,.v (.int .i64 (wr .i64 (c4 + v10))))
   refine DL AC (s1:=⟨Fr 35 [p4,p3,p5,p2,p1],[]⟩) kr ?_ ?_
   ·let p6:Nat×AV:=(19,.v (.int .i64 c4))
    refine AY (n:=35) AC 4 [p4,p3,p2,p1,p6,(20,.sl 1 (x0.map (cdL 1 cdI).enc)),(21,.sl 1 (x1.map cdI.enc)),(22,.v (.int .i64 c2))] [] kr kr ?_;refine RunDS.one AC rfl kr (HK kr (AB rfl) rfl (AO (a:= .sl 1 (x1.map cdI.enc)) (b:= .v (.int .i64 c2)) kr kr (Dn (e:=cdI.enc) (el:=3) (k:=1) (ki:= .i64) kr kr hv7)) kr) ?_;refine AY (n:=35) AC 1 [p4,p3,p2,p1,p6,(20,.sl 1 (x0.map (cdL 1 cdI).enc)),(24,.v (.int .i64 v7))] [] kr kr ?_;refine RunDS.one AC rfl kr (HK kr (AB rfl) rfl (AO (a:= .sl 1 (x0.map (cdL 1 cdI).enc)) (b:= .v (.int .i64 v7)) kr kr (Dn (e:=(cdL 1 cdI).enc) (el:=48) (k:=1) (ki:= .i64) kr kr hv8)) kr) ?_;refine AY (n:=35) AC 3 [p4,p3,p2,p1,p6,(26,.sl 1 (v8.map cdI.enc)),(27,.sl 1 (x1.map cdI.enc)),(28,.v (.int .i64 c5))] [] kr kr ?_;refine RunDS.one AC rfl kr (HK kr (AB rfl) rfl (AO (a:= .sl 1 (x1.map cdI.enc)) (b:= .v (.int .i64 c5)) kr kr (Dn (e:=cdI.enc) (el:=3) (k:=1) (ki:= .i64) kr kr hv9)) kr) ?_;refine AY (n:=35) AC 1 [p4,p3,p2,p1,p6,(26,.sl 1 (v8.map cdI.enc)),(30,.v (.int .i64 v9))] [] kr kr ?_;refine RunDS.one AC rfl kr (HK kr (AB rfl) rfl (AO (a:= .sl 1 (v8.map cdI.enc)) (b:= .v (.int .i64 v9)) kr kr (Dn (e:=cdI.enc) (el:=3) (k:=1) (ki:= .i64) kr kr hv10)) kr) ?_;refine AY (n:=35) AC 3 [p4,p3,p5,p2,p1] [] kr kr ?_;exact RunDS.done rfl AL
   let p7:Nat×AV:=(7,.v (.int .i64 (wr .i64 (c5 + 1))))
   refine Cn AC [p4,p3,p5,p2,p7] [] ?_;exact Ac (s1:=⟨Fr 35 [p4,p3,p5,p2,p7],[]⟩) AL (ih (wr .i64 (c4 + v10)) (wr .i64 (c5 + 1)) h)
  ·rw [BZ hb6] at h
   refine Bd ?_;have hq:=OI h; subst hq;exact ⟨rfl,AL⟩
theorem L9 (x0:(List (List Int))) (x1:(List Int)):∀ (f:Nat) (c1:Int) (c2:Int) (r:(Int)),DK x0 x1 f c1 c2=some r->SemN E0 ⟨none,false⟩ (pc Fz [1,1,0,1,0,0]) f ⟨Fr 35 [(0,.sl 1 (x0.map (cdL 1 cdI).enc)),(1,.sl 1 (x1.map cdI.enc)),(5,.v (.int .i64 c1)),(6,.v (.int .i64 c2))],[]⟩ (fun e s=>e=(.exit 0)/\Wk E0 s ⟨Fr 35 [(5,.v (.int .i64 r))],[]⟩):=by
 intro f;induction f with
 | zero=>intro c1 c2 r h; cases h
 | succ f ih0 =>
  intro c1 c2 r h
  have ih:=fun (c1:Int) (c2:Int)=>ih0 c1 c2 r
  unfold DK at h;refine BR ?_;refine AF ?_;refine AF ?_
  let p1:Nat×AV:=(6,.v (.int .i64 c2))
  let p2:Nat×AV:=(5,.v (.int .i64 c1))
  let p3:Nat×AV:=(1,.sl 1 (x1.map cdI.enc))
  let p4:Nat×AV:=(0,.sl 1 (x0.map (cdL 1 cdI).enc))
  refine AK (s1:=⟨Fr 35 [p4,p3,p2,p1,(11,.v (.bool (decide (c2 < (x1.length:Int)))))],[]⟩) ?_ ?_
  ·refine AD (n:=35) AC 2 [p4,p3,p2,p1,(8,.v (.int .i64 c2)),(9,.sl 1 (x1.map cdI.enc))] [] kr ?_
   refine AR AC 0 rfl (C7 (AB rfl) rfl (Ck (a:= .sl 1 (x1.map cdI.enc)) kr (Ba (el:=3) kr))) ?_;exact AW AC
  refine AP (b:=(decide (c2 < (x1.length:Int)))) kr (fun hb3=>?_) (fun hb3=>?_)
  ·rw [if_pos hb3] at h
   refine AS ?_;refine AF ?_;refine AZ ?_;refine AJ AC [p4,p3,p2,p1,(7,.v (.int .i64 0))] [] ?_;refine AZ ?_;obtain ⟨r12,hr12,h⟩:=OB h;refine Bj (n:=100000) ?_;refine Aq (Ac (s1:=⟨Fr 35 [p4,p3,p2,p1,(7,.v (.int .i64 0))],[]⟩) AL (MA x0 x1 c2 _ c1 0 _ hr12)) ?_
   let p5:Nat×AV:=(6,.v (.int .i64 (wr .i64 (c2 + 1))))
   refine Cn AC [p4,p3,(5,.v (.int .i64 r12)),p5] [] ?_;exact Ac (s1:=⟨Fr 35 [p4,p3,(5,.v (.int .i64 r12)),p5],[]⟩) AL (ih r12 (wr .i64 (c2 + 1)) h)
  ·rw [BZ hb3] at h
   refine Bd ?_;have hq:=OI h; subst hq;exact ⟨rfl,AL⟩
theorem My (x0:(List (List Int))) (x1:(List Int)) (r:Int) (h:Cl x0 x1=some r):Sem E0 ⟨none,false⟩ Fz ⟨Fr 35 (A3 0 (HB.enc (x0,x1,()))),[]⟩ fun e s'=>(e = .normal\/e = .ret)/\∃ xs,EG E0.P s'.fr s'.hp Tryz.f104.results.toList=some xs/\EN xs=HD r:=by
 unfold Cl at h
 let p1:Nat×AV:=(1,.sl 1 (x1.map cdI.enc))
 let p2:Nat×AV:=(0,.sl 1 (x0.map (cdL 1 cdI).enc))
 refine An (BP (s1:=⟨Fr 35 [p2,p1],[]⟩) AL ?_);refine AJ AC [p2,p1] [] ?_
 let p3:Nat×AV:=(5,.v (.int .i64 0))
 refine AJ AC [p2,p1,p3] [] ?_;refine AF ?_;refine AJ AC [p2,p1,p3,(6,.v (.int .i64 0))] [] ?_;refine AZ ?_;obtain ⟨r14,hr14,h⟩:=OB h;refine Bj (n:=100000) ?_;refine Aq (Ac (s1:=⟨Fr 35 [p2,p1,p3,(6,.v (.int .i64 0))],[]⟩) AL (L9 x0 x1 _ 0 0 _ hr14)) ?_;refine AJ AC [(4,.v (.int .i64 r14))] [] ?_;refine AQ ?_;have hq:=OI h; subst hq;exact ⟨⟨Fr 35 [(4,.v (.int .i64 r14))],[]⟩,AL,.inr rfl,[.v (.int .i64 r14)],kr,kr⟩
def OE:List AV->Option AV:=Dx HB (fun a=>Cl a.1 a.2.1) HD
theorem Jr:XOk 104 OE:=by
 refine AU Tryz.func104 (c:=Fz) ?h2 ⟨Tryz.call104⟩ HB (fun a=>Cl a.1 a.2.1) HD (fun a=>(by show 2<=35; decide)) ?h3 ?h4
 case h2=>kernel_rfl
 case h3=>intro b; kernel_rfl
 case h4=>exact fun a b h=>My a.1 a.2.1 b h
/- trestle/trestleref03.all -/
noncomputable def Lt:Code:=BG Tryz.f118
def D9 (x0:Int):Nat->Int->(List Int)->Option (((List Int)))
 | 0,_,_=>none
 | f + 1,c2,c4 =>
  if (decide (c2 < x0))=true then
  if (Gf 8 (c4.length + ([c2]:List Int).length))=true then
  D9 x0 f (wr .i64 (c2 + 1)) (c4++([c2]:List Int))
  else none
  else
  some c4
def LQ (x0:Int):Option ((List Int)) :=
 (D9 x0 100000 0 ([]:(List Int))).bind fun r18 =>
 some r18
theorem Qa {L:List Asn}(x0:Int):∀ (f:Nat) (c2:Int) (c4:(List Int)) (r:((List Int))),D9 x0 f c2 c4=some r->∀ (e3:AV) (hp:Hp),T hp ((own_ (ocL 1 3 (ocV cdI)) e3 c4)::L)->SemYN E0 ⟨none,false⟩ (pc Lt [1,1,0,1,0,0]) f ⟨Fr 15 [(0,.v (.int .i64 x0)),(3,e3),(4,.v (.int .i64 c2))],hp⟩ (fun e s=>e=(.exit 0)/\∃ s2,(∃ (e16:AV) (h':Hp),T h' ((own_ (ocL 1 3 (ocV cdI)) e16 r)::L)/\s2=⟨Fr 15 [(3,e16)],h'⟩)/\WkY E0 s s2):=by
 intro f;induction f with
 | zero=>intro c2 c4 r h; cases h
 | succ f ih0 =>
  intro c2 c4 r h e3 hp hT;unfold D9 at h;refine Ge ?_;refine BF ?_;refine C5 AC [(0,.v (.int .i64 x0)),(3,e3),(4,.v (.int .i64 c2)),(7,.v (.bool (decide (c2 < x0))))] ?_;refine Dz (b:=(decide (c2 < x0))) kr (fun hb5=>?_) (fun hb5=>?_)
  ·rw [if_pos hb5] at h
   refine SemY.skip ?_;refine BF ?_;refine Cv ?_;refine As ?_;refine CP AC 2 ?_;obtain ⟨e9,hp6,hb7,hT8⟩:=Wz (P:=Tryz.prog) (bytes:=8) (k:=1) (t:=3) (ty:=48) (xs:=([c2]:List Int)) (n:=1) (ADC (k:=1) (fun _=>⟨rfl,rfl,rfl⟩)) (Wl (c:=cdI) (xs:=([c2]:List Int)) hT) rfl kr kr kr;refine CB AC 0 rfl (ACZ (AB rfl) rfl kr (ADX (xs:=U5 0 [.v (.int .i64 c2)]) kr hb7)) ?_;by_cases hk14:(Gf 8 (c4.length + ([c2]:List Int).length))=true
   case neg=>rw [if_neg hk14] at h; cases h
   rw [if_pos hk14] at h
   have hT15:=((hT8.front 0 rfl).front 1 rfl)
   obtain ⟨e13,hp10,hb11,hT12⟩:=Wf (P:=Tryz.prog) (ty:=48) (ty2:=48) (bytes:=8) hT15 kr kr hk14;refine CB AC 0 rfl (Xe (AB rfl) rfl kr kr (FE (a:=e3) (b:=e9) kr kr hb11)) ?_;refine EB AC [(0,.v (.int .i64 x0)),(3,e13),(4,.v (.int .i64 c2))] ?_;refine As ?_;refine CP AC 3 ?_;refine Dy rfl ?_;exact D4 WkY.f1 (ih0 (wr .i64 (c2 + 1)) (c4++([c2]:List Int)) _ h e13 hp10 hT12)
  ·rw [BZ hb5] at h
   refine SemY.exit ?_;have hq:=OI h; subst hq;exact ⟨rfl,_,⟨e3,hp,hT,rfl⟩,WkY.f1⟩
theorem SO {L:List Asn}{hp:Hp}(x0:Int) (r:(List Int)) (h:LQ x0=some r) (hT:T hp (L)):SemY E0 ⟨none,false⟩ Lt ⟨Fr 15 (A3 0 [.v (.int .i64 x0)]),hp⟩ fun x s'=>(x = .normal\/x = .ret)/\∃ ys,EG E0.P s'.fr s'.hp Tryz.f118.results.toList=some ys/\(fun v h'=>∃ (z0:AV),v=z0/\T h' ((own_ (ocL 1 3 (ocV cdI)) z0 r)::L)) (EN ys) s'.hp:=by
 unfold LQ at h
 let p1:Nat×AV:=(0,.v (.int .i64 x0))
 refine PK (P3 (s1:=⟨Fr 15 [p1],hp⟩) WkY.f1 ?_);refine C5 AC [p1] ?_;refine C5 AC [p1,(3,.e0)] ?_;refine BF ?_;refine C5 AC [p1,(3,.e0),(4,.v (.int .i64 0))] ?_;refine Cv ?_
 have hT1:=(T.e0 (k:=1) (ty:=3) (o:=(ocV cdI)) hT)
 refine SemY.loop (n:=100000) ?_;obtain ⟨r18,hr18,h⟩:=OB h;refine Fg (D4 WkY.f1 (Qa x0 _ 0 ([]:(List Int)) _ hr18 .e0 hp hT1)) ?_;rintro _ ⟨e19,hp20,hT21,rfl⟩;refine C5 AC [(2,e19)] ?_;refine SemY.ret ?_;have hq:=OI h; subst hq;exact ⟨⟨Fr 15 [(2,e19)],hp20⟩,WkY.f1,.inr rfl,[e19],kr,⟨e19,rfl,hT21⟩⟩
/- trestle/trestlekit.CopyInts -/
noncomputable def Hc:Code:=BG Tryz.f145
def DE (x0:(List Int)):Nat->Int->(List Int)->Option (((List Int)))
 | 0,_,_=>none
 | f + 1,c2,c4 =>
  if (decide (c2 < (x0.length:Int)))=true then
  (idx x0 c2).bind fun v6 =>
  if (Gf 8 (c4.length + ([v6]:List Int).length))=true then
  DE x0 f (wr .i64 (c2 + 1)) (c4++([v6]:List Int))
  else none
  else
  some c4
def G9 (x0:(List Int)):Option ((List Int)) :=
 (DE x0 100000 0 ([]:(List Int))).bind fun r22 =>
 some r22
theorem Oa {L:List Asn}(x0:(List Int)) (u0:AV):∀ (f:Nat) (c2:Int) (c4:(List Int)) (r:((List Int))),DE x0 f c2 c4=some r->∀ (e3:AV) (hp:Hp),T hp ((own_ (ocL 1 3 (ocV cdI)) u0 x0)::(own_ (ocL 1 3 (ocV cdI)) e3 c4)::L)->SemYN E0 ⟨none,false⟩ (pc Hc [1,1,0,1,0,0]) f ⟨Fr 19 [(0,u0),(3,e3),(4,.v (.int .i64 c2))],hp⟩ (fun e s=>e=(.exit 0)/\∃ s2,(∃ (e18:AV) (h':Hp),T h' ((own_ (ocL 1 3 (ocV cdI)) e18 r)::(own_ (ocL 1 3 (ocV cdI)) u0 x0)::L)/\s2=⟨Fr 19 [(3,e18)],h'⟩)/\WkY E0 s s2):=by
 intro f;induction f with
 | zero=>intro c2 c4 r h; cases h
 | succ f ih0 =>
  intro c2 c4 r h e3 hp hT;unfold DE at h;refine Ge ?_;refine BF ?_;refine BF ?_;refine As ?_;refine CP AC 2 ?_;refine CB AC 0 rfl (C7 (AB rfl) rfl (Ck (a:=u0) kr (YY hT kr))) ?_;refine EB AC [(0,u0),(3,e3),(4,.v (.int .i64 c2)),(8,.v (.bool (decide (c2 < (x0.length:Int)))))] ?_;refine Dz (b:=(decide (c2 < (x0.length:Int)))) kr (fun hb5=>?_) (fun hb5=>?_)
  ·rw [if_pos hb5] at h
   refine SemY.skip ?_;refine BF ?_;refine Cv ?_;refine As ?_;refine CP AC 3 ?_;obtain ⟨v6,hv6,h⟩:=OB h;refine CB AC 0 rfl (C7 (AB rfl) rfl (AO (a:=u0) (b:= .v (.int .i64 c2)) kr kr (Tn (bytes:=8) hT kr hv6))) ?_;refine CB AC 0 rfl (C7 (AB rfl) rfl (Ip (p:=eAt u0 c2.toNat) kr (LL (y:= .v (.int .i64 v6)) (m:=1) (g:=false) hT (D6 hv6).2 kr kr kr))) ?_;obtain ⟨e10,hp7,hb8,hT9⟩:=Wz (P:=Tryz.prog) (bytes:=8) (k:=1) (t:=3) (ty:=48) (xs:=([v6]:List Int)) (n:=1) (ADC (k:=1) (fun _=>⟨rfl,rfl,rfl⟩)) (Wl (c:=cdI) (xs:=([v6]:List Int)) hT) rfl kr kr kr;refine CB AC 0 rfl (ACZ (AB rfl) rfl kr (ADX (xs:=U5 0 [.v (.int .i64 v6)]) kr hb8)) ?_;by_cases hk15:(Gf 8 (c4.length + ([v6]:List Int).length))=true
   case neg=>rw [if_neg hk15] at h; cases h
   rw [if_pos hk15] at h
   have hT16:=((hT9.front 0 rfl).front 2 rfl)
   obtain ⟨e14,hp11,hb12,hT13⟩:=Wf (P:=Tryz.prog) (ty:=48) (ty2:=48) (bytes:=8) hT16 kr kr hk15;refine CB AC 0 rfl (Xe (AB rfl) rfl kr kr (FE (a:=e3) (b:=e10) kr kr hb12)) ?_;refine EB AC [(0,u0),(3,e14),(4,.v (.int .i64 c2))] ?_;refine As ?_;refine CP AC 3 ?_;refine Dy rfl ?_
   have hT17:=(hT13.front 1 rfl)
   exact D4 WkY.f1 (ih0 (wr .i64 (c2 + 1)) (c4++([v6]:List Int)) _ h e14 hp11 hT17)
  ·rw [BZ hb5] at h
   refine SemY.exit ?_;have hq:=OI h; subst hq
   have hT20:=(hT.front 1 rfl)
   exact ⟨rfl,_,⟨e3,hp,hT20,rfl⟩,WkY.f1⟩
theorem Ll {L:List Asn}{hp:Hp}(u0:AV) (x0:(List Int)) (r:(List Int)) (h:G9 x0=some r) (hT:T hp ((own_ (ocL 1 3 (ocV cdI)) u0 x0)::L)):SemY E0 ⟨none,false⟩ Hc ⟨Fr 19 (A3 0 [u0]),hp⟩ fun x s'=>(x = .normal\/x = .ret)/\∃ ys,EG E0.P s'.fr s'.hp Tryz.f145.results.toList=some ys/\(fun v h'=>∃ (z0:AV),v=z0/\T h' ((own_ (ocL 1 3 (ocV cdI)) u0 x0)::(own_ (ocL 1 3 (ocV cdI)) z0 r)::L)) (EN ys) s'.hp:=by
 unfold G9 at h;refine PK (P3 (s1:=⟨Fr 19 [(0,u0)],hp⟩) WkY.f1 ?_);refine C5 AC [(0,u0)] ?_;refine C5 AC [(0,u0),(3,.e0)] ?_;refine BF ?_;refine C5 AC [(0,u0),(3,.e0),(4,.v (.int .i64 0))] ?_;refine Cv ?_
 have hT1:=(T.e0 (k:=1) (ty:=3) (o:=(ocV cdI)) hT)
 have hT21:=(hT1.front 1 rfl)
 refine SemY.loop (n:=100000) ?_;obtain ⟨r22,hr22,h⟩:=OB h;refine Fg (D4 WkY.f1 (Oa x0 u0 _ 0 ([]:(List Int)) _ hr22 .e0 hp hT21)) ?_;rintro _ ⟨e23,hp24,hT25,rfl⟩;refine C5 AC [(2,e23)] ?_;refine SemY.ret ?_;have hq:=OI h; subst hq;exact ⟨⟨Fr 19 [(2,e23)],hp24⟩,WkY.f1,.inr rfl,[e23],kr,⟨e23,rfl,(hT25.front 1 rfl)⟩⟩
/- trestle/trestleref03.next -/
noncomputable def HL:Code:=BG Tryz.f146
def Iq (x0:(List Int)):Nat->Int->Option ((Int))
 | 0,_=>none
 | f + 1,c1 =>
  (if (decide (c1≥0))=true then (idx x0 c1).bind fun v2 =>
  (idx x0 (wr .i64 (c1 + 1))).bind fun v3 =>
  some (decide (v2 > v3)) else some false).bind fun j4 =>
  if j4=true then
  Iq x0 f (wr .i64 (c1 - 1))
  else
  some c1
def Ir (x0:(List Int)) (r14:Int):Nat->Int->Option ((Int))
 | 0,_=>none
 | f + 1,c18 =>
  (idx x0 c18).bind fun v19 =>
  (idx x0 r14).bind fun v20 =>
  if (decide (v19 < v20))=true then
  Ir x0 r14 f (wr .i64 (c18 - 1))
  else
  some c18
def Is  : Nat->Int->Int->(List Int)->Option (((List Int)))
 | 0,_,_,_=>none
 | f + 1,c36,c37,c38 =>
  if (decide (c36 < c37))=true then
  (idx c38 c37).bind fun v40 =>
  (idx c38 c36).bind fun v41 =>
  (idx c38 c36).bind fun _v42 =>
  (idx (c38.set c36.toNat v40) c37).bind fun _v46 =>
  Is f (wr .i64 (c36 + 1)) (wr .i64 (c37 - 1)) ((c38.set c36.toNat v40).set c37.toNat v41)
  else
  some c38
def II (x0:(List Int)):Option (Bool×(List Int)) :=
 (Iq x0 100000 (wr .i64 ((x0.length:Int) - 2))).bind fun r14 =>
 if (decide (r14 < 0))=true then
 some (false,x0)
 else
 (Ir x0 r14 100000 (wr .i64 ((x0.length:Int) - 1))).bind fun r23 =>
 (idx x0 r23).bind fun v26 =>
 (idx x0 r14).bind fun v27 =>
 (idx x0 r14).bind fun _v28 =>
 (idx (x0.set r14.toNat v26) r23).bind fun _v32 =>
 (Is  100000 (wr .i64 (r14 + 1)) (wr .i64 ((((x0.set r14.toNat v26).set r23.toNat v27).length:Int) - 1)) ((x0.set r14.toNat v26).set r23.toNat v27)).bind fun r51 =>
 some (true,r51)
theorem Pn {L:List Asn}(x0:(List Int)) (u0:AV):∀ (f:Nat) (c1:Int) (r:(Int)),Iq x0 f c1=some r->∀ (hp:Hp),T hp ((own_ (ocL 1 3 (ocV cdI)) u0 x0)::L)->SemYN E0 ⟨none,false⟩ (pc HL [1,1,0,0,0]) f ⟨Fr 82 [(0,u0),(3,.v (.int .i64 c1))],hp⟩ (fun e s=>e=(.exit 0)/\∃ s2,(∃ (h':Hp),T h' ((own_ (ocL 1 3 (ocV cdI)) u0 x0)::L)/\s2=⟨Fr 82 [(0,u0),(3,.v (.int .i64 r))],h'⟩)/\WkY E0 s s2):=by
 intro f;induction f with
 | zero=>intro c1 r h; cases h
 | succ f ih0 =>
  intro c1 r h  hp hT;unfold Iq at h;refine Ge ?_;refine BF ?_;refine BF ?_;obtain ⟨j4,hj4,h⟩:=OB h;refine XN 14 (A:=fun s1=>∃ (h':Hp),T h' ((own_ (ocL 1 3 (ocV cdI)) u0 x0)::L)/\s1=⟨Fr 82 [(0,u0),(3,.v (.int .i64 c1)),(23,.v (.bool j4))],h'⟩) AC.mixed kr kr ?_ ?_
  ·refine RunDT.q (x:= .v (.int .i64 c1)) rfl kr rfl (AB rfl) rfl kr kr ?_
   refine RunDT.q (x:= .v (.bool (decide (c1≥0)))) rfl kr rfl (AB rfl) rfl kr kr ?_;refine RunDT.q (x:= .v (.bool (decide (c1≥0)))) rfl kr rfl (AB rfl) rfl kr kr ?_;rcases BE (decide (c1≥0)) with hc13 | hc13
   ·rw [if_pos hc13] at hj4
    rw [hc13];refine RunDT.q (x:=u0) rfl kr rfl kr rfl kr kr ?_;refine RunDT.q (x:= .v (.int .i64 c1)) rfl kr rfl kr rfl kr kr ?_;obtain ⟨v2,hv2,hj4⟩:=OB hj4;refine RunDT.q (x:=eAt u0 c1.toNat) rfl kr rfl kr rfl (AO (a:=u0) (b:= .v (.int .i64 c1)) kr kr (Tn (bytes:=8) hT kr hv2)) kr ?_;refine RunDT.q (x:= .v (.int .i64 v2)) rfl kr rfl kr rfl (Ip (p:=eAt u0 c1.toNat) kr (LL (y:= .v (.int .i64 v2)) (m:=1) (g:=false) hT (D6 hv2).2 kr kr kr)) (Ja hT (D6 hv2).2 kr) ?_;refine RunDT.q (x:=u0) rfl kr rfl kr rfl kr kr ?_;refine RunDT.q (x:= .v (.int .i64 c1)) rfl kr rfl kr rfl kr kr ?_;refine RunDT.q (x:= .v (.int .i64 (wr .i64 (c1 + 1)))) rfl kr rfl kr rfl kr kr ?_;obtain ⟨v3,hv3,hj4⟩:=OB hj4;refine RunDT.q (x:=eAt u0 ((wr .i64 (c1 + 1)).toNat)) rfl kr rfl kr rfl (AO (a:=u0) (b:= .v (.int .i64 (wr .i64 (c1 + 1)))) kr kr (Tn (bytes:=8) hT kr hv3)) kr ?_;refine RunDT.q (x:= .v (.int .i64 v3)) rfl kr rfl kr rfl (Ip (p:=eAt u0 ((wr .i64 (c1 + 1)).toNat)) kr (LL (y:= .v (.int .i64 v3)) (m:=1) (g:=false) hT (D6 hv3).2 kr kr kr)) (Ja hT (D6 hv3).2 kr) ?_;refine RunDT.q (x:= .v (.bool (decide (v2 > v3)))) rfl kr rfl kr rfl kr kr ?_;refine RunDT.q (x:= .v (.bool (decide (v2 > v3)))) rfl kr rfl (AB rfl) rfl kr kr ?_;have hq:=OI hj4; subst hq;exact RunDT.done rfl ⟨_,⟨hp,hT,rfl⟩,WkY.f1⟩
   ·rw [BZ hc13] at hj4
    rw [hc13];refine RunDT.skip rfl kr rfl ?_;refine RunDT.skip rfl kr rfl ?_;refine RunDT.skip rfl kr rfl ?_;refine RunDT.skip rfl kr rfl ?_;refine RunDT.skip rfl kr rfl ?_;refine RunDT.skip rfl kr rfl ?_;refine RunDT.skip rfl kr rfl ?_;refine RunDT.skip rfl kr rfl ?_;refine RunDT.skip rfl kr rfl ?_;refine RunDT.skip rfl kr rfl ?_;refine RunDT.q (x:= .v (.bool false)) rfl kr rfl (AB rfl) rfl kr kr ?_;have hq:=OI hj4; subst hq;exact RunDT.done rfl ⟨_,⟨hp,hT,rfl⟩,WkY.f1⟩
  rintro _ ⟨hp9,hT10,rfl⟩;refine Dz (b:=j4) kr (fun hb11=>?_) (fun hb11=>?_)
  ·rw [if_pos hb11] at h
   refine SemY.skip ?_;refine Cv ?_;refine As ?_;refine CP AC 3 ?_;refine Dy rfl ?_;exact D4 WkY.f1 (ih0 (wr .i64 (c1 - 1)) _ h  hp9 hT10)
  ·rw [BZ hb11] at h
   refine SemY.exit ?_;have hq:=OI h; subst hq;exact ⟨rfl,_,⟨hp9,hT10,rfl⟩,WkY.f1⟩
theorem Po {L:List Asn}(x0:(List Int)) (r14:Int) (u0:AV):∀ (f:Nat) (c18:Int) (r:(Int)),Ir x0 r14 f c18=some r->∀ (hp:Hp),T hp ((own_ (ocL 1 3 (ocV cdI)) u0 x0)::L)->SemYN E0 ⟨none,false⟩ (pc HL [1,1,1,1,1,0,0,0]) f ⟨Fr 82 [(0,u0),(3,.v (.int .i64 r14)),(4,.v (.int .i64 c18))],hp⟩ (fun e s=>e=(.exit 2)/\∃ s2,(∃ (h':Hp),T h' ((own_ (ocL 1 3 (ocV cdI)) u0 x0)::L)/\s2=⟨Fr 82 [(0,u0),(3,.v (.int .i64 r14)),(4,.v (.int .i64 r))],h'⟩)/\WkY E0 s s2):=by
 intro f;induction f with
 | zero=>intro c18 r h; cases h
 | succ f ih0 =>
  intro c18 r h  hp hT;unfold Ir at h;refine Ge ?_;refine BF ?_;refine BF ?_;refine MG 9 AC.mixed kr kr ?_;refine RunDT.q (x:=u0) rfl kr rfl (AB rfl) rfl kr kr ?_;refine RunDT.q (x:= .v (.int .i64 c18)) rfl kr rfl (AB rfl) rfl kr kr ?_;obtain ⟨v19,hv19,h⟩:=OB h;refine RunDT.q (x:=eAt u0 c18.toNat) rfl kr rfl (AB rfl) rfl (AO (a:=u0) (b:= .v (.int .i64 c18)) kr kr (Tn (bytes:=8) hT kr hv19)) kr ?_;refine RunDT.q (x:= .v (.int .i64 v19)) rfl kr rfl (AB rfl) rfl (Ip (p:=eAt u0 c18.toNat) kr (LL (y:= .v (.int .i64 v19)) (m:=1) (g:=false) hT (D6 hv19).2 kr kr kr)) (Ja hT (D6 hv19).2 kr) ?_;refine RunDT.q (x:=u0) rfl kr rfl (AB rfl) rfl kr kr ?_;refine RunDT.q (x:= .v (.int .i64 r14)) rfl kr rfl (AB rfl) rfl kr kr ?_;obtain ⟨v20,hv20,h⟩:=OB h;refine RunDT.q (x:=eAt u0 r14.toNat) rfl kr rfl (AB rfl) rfl (AO (a:=u0) (b:= .v (.int .i64 r14)) kr kr (Tn (bytes:=8) hT kr hv20)) kr ?_;refine RunDT.q (x:= .v (.int .i64 v20)) rfl kr rfl (AB rfl) rfl (Ip (p:=eAt u0 r14.toNat) kr (LL (y:= .v (.int .i64 v20)) (m:=1) (g:=false) hT (D6 hv20).2 kr kr kr)) (Ja hT (D6 hv20).2 kr) ?_;refine RunDT.q (x:= .v (.bool (decide (v19 < v20)))) rfl kr rfl (AB rfl) rfl kr kr ?_;refine RunDT.done rfl (SemY.fr (l':=[(0,u0),(3,.v (.int .i64 r14)),(4,.v (.int .i64 c18)),(39,.v (.bool (decide (v19 < v20))))]) kr ?_);refine Dz (b:=(decide (v19 < v20))) kr (fun hb21=>?_) (fun hb21=>?_)
  ·rw [if_pos hb21] at h
   refine SemY.skip ?_;refine Cv ?_;refine As ?_;refine CP AC 3 ?_;refine Dy rfl ?_;exact D4 WkY.f1 (ih0 (wr .i64 (c18 - 1)) _ h  hp hT)
  ·rw [BZ hb21] at h
   refine SemY.exit ?_;have hq:=OI h; subst hq;exact ⟨rfl,_,⟨hp,hT,rfl⟩,WkY.f1⟩
theorem Pp {L:List Asn}(u0:AV):∀ (f:Nat) (c36:Int) (c37:Int) (c38:(List Int)) (r:((List Int))),Is  f c36 c37 c38=some r->∀ (hp:Hp),T hp ((own_ (ocL 1 3 (ocV cdI)) u0 c38)::L)->SemYN E0 ⟨none,false⟩ (pc HL [1,1,1,1,1,1,1,0,1,0,0]) f ⟨Fr 82 [(0,u0),(5,.v (.int .i64 c36)),(6,.v (.int .i64 c37))],hp⟩ (fun e s=>e=(.exit 4)/\∃ s2,(∃ (h':Hp),T h' ((own_ (ocL 1 3 (ocV cdI)) u0 r)::L)/\s2=⟨Fr 82 [],h'⟩)/\WkY E0 s s2):=by
 intro f;induction f with
 | zero=>intro c36 c37 c38 r h; cases h
 | succ f ih0 =>
  intro c36 c37 c38 r h  hp hT;unfold Is at h;refine Ge ?_;refine BF ?_;refine C5 AC [(0,u0),(5,.v (.int .i64 c36)),(6,.v (.int .i64 c37)),(63,.v (.bool (decide (c36 < c37))))] ?_;refine Dz (b:=(decide (c36 < c37))) kr (fun hb39=>?_) (fun hb39=>?_)
  ·rw [if_pos hb39] at h
   refine SemY.skip ?_;refine BF ?_;refine Cv ?_;refine MG 13 AC.mixed kr kr ?_;refine RunDT.q (x:=u0) rfl kr rfl (AB rfl) rfl kr kr ?_;refine RunDT.q (x:= .v (.int .i64 c36)) rfl kr rfl (AB rfl) rfl kr kr ?_;refine RunDT.q (x:=u0) rfl kr rfl (AB rfl) rfl kr kr ?_;refine RunDT.q (x:= .v (.int .i64 c37)) rfl kr rfl (AB rfl) rfl kr kr ?_;refine RunDT.q (x:=u0) rfl kr rfl (AB rfl) rfl kr kr ?_;refine RunDT.q (x:= .v (.int .i64 c37)) rfl kr rfl (AB rfl) rfl kr kr ?_;obtain ⟨v40,hv40,h⟩:=OB h;refine RunDT.q (x:=eAt u0 c37.toNat) rfl kr rfl (AB rfl) rfl (AO (a:=u0) (b:= .v (.int .i64 c37)) kr kr (Tn (bytes:=8) hT kr hv40)) kr ?_;refine RunDT.q (x:= .v (.int .i64 v40)) rfl kr rfl (AB rfl) rfl (Ip (p:=eAt u0 c37.toNat) kr (LL (y:= .v (.int .i64 v40)) (m:=1) (g:=false) hT (D6 hv40).2 kr kr kr)) (Ja hT (D6 hv40).2 kr) ?_;refine RunDT.q (x:=u0) rfl kr rfl (AB rfl) rfl kr kr ?_;refine RunDT.q (x:= .v (.int .i64 c36)) rfl kr rfl (AB rfl) rfl kr kr ?_;obtain ⟨v41,hv41,h⟩:=OB h;refine RunDT.q (x:=eAt u0 c36.toNat) rfl kr rfl (AB rfl) rfl (AO (a:=u0) (b:= .v (.int .i64 c36)) kr kr (Tn (bytes:=8) hT kr hv41)) kr ?_;refine RunDT.q (x:= .v (.int .i64 v41)) rfl kr rfl (AB rfl) rfl (Ip (p:=eAt u0 c36.toNat) kr (LL (y:= .v (.int .i64 v41)) (m:=1) (g:=false) hT (D6 hv41).2 kr kr kr)) (Ja hT (D6 hv41).2 kr) ?_;obtain ⟨v42,hv42,h⟩:=OB h;refine RunDT.q (x:=eAt u0 c36.toNat) rfl kr rfl (AB rfl) rfl (AO (a:=u0) (b:= .v (.int .i64 c36)) kr kr (Tn (bytes:=8) hT kr hv42)) kr ?_;refine Th rfl ?_;obtain ⟨hp43,hs44,hT45⟩:=Qh (P:=Tryz.prog) (ty:=3) (y:= .v (.int .i64 v40)) (v':=v40) hT (D6 hv42).2 kr kr kr;refine RunL.store AC (y:=eAt u0 c36.toNat) (z:= .v (.int .i64 v40)) rfl (AB rfl) kr kr hs44 ?_;obtain ⟨v46,hv46,h⟩:=OB h;refine CB AC 0 rfl (C7 (AB rfl) rfl (AO (a:=u0) (b:= .v (.int .i64 c37)) kr kr (Tn (bytes:=8) hT45 kr hv46))) ?_;obtain ⟨hp47,hs48,hT49⟩:=Qh (P:=Tryz.prog) (ty:=3) (y:= .v (.int .i64 v41)) (v':=v41) hT45 (D6 hv46).2 kr kr kr
   refine RunL.store AC (y:=eAt u0 c37.toNat) (z:= .v (.int .i64 v41)) rfl (AB rfl) kr kr hs48 ?_;refine Dy rfl (SemY.fr (l':=[(0,u0),(5,.v (.int .i64 c36)),(6,.v (.int .i64 c37))]) kr ?_);refine As ?_;refine CP AC 6 ?_;refine Dy rfl ?_;exact D4 WkY.f1 (ih0 (wr .i64 (c36 + 1)) (wr .i64 (c37 - 1)) ((c38.set c36.toNat v40).set c37.toNat v41) _ h  hp47 hT49)
  ·rw [BZ hb39] at h
   refine SemY.exit ?_;have hq:=OI h; subst hq;exact ⟨rfl,_,⟨hp,hT,rfl⟩,WkY.f1⟩
theorem RH {L:List Asn}{hp:Hp}(u0:AV) (x0:(List Int)) (r:Bool×(List Int)) (h:II x0=some r) (hT:T hp ((own_ (ocL 1 3 (ocV cdI)) u0 x0)::L)):SemY E0 ⟨none,false⟩ HL ⟨Fr 82 (A3 0 [u0]),hp⟩ fun x s'=>(x = .normal\/x = .ret)/\∃ ys,EG E0.P s'.fr s'.hp Tryz.f146.results.toList=some ys/\(fun v h'=>v = .v (.bool r.1)/\T h' ((own_ (ocL 1 3 (ocV cdI)) u0 r.2)::L)) (EN ys) s'.hp:=by
 unfold II at h;refine PK (P3 (s1:=⟨Fr 82 [(0,u0)],hp⟩) WkY.f1 ?_);refine C5 AC [(0,u0)] ?_;refine BF ?_;refine As ?_;refine CP AC 1 ?_;refine CB AC 0 rfl (C7 (AB rfl) rfl (Ck (a:=u0) kr (YY hT kr))) ?_;refine EB AC [(0,u0),(3,.v (.int .i64 (wr .i64 ((x0.length:Int) - 2))))] ?_;refine BF ?_;refine Cv ?_;refine SemY.loop (n:=100000) ?_;obtain ⟨r14,hr14,h⟩:=OB h;refine Fg (D4 WkY.f1 (Pn x0 u0 _ (wr .i64 ((x0.length:Int) - 2)) _ hr14  hp hT)) ?_;rintro _ ⟨hp15,hT16,rfl⟩;refine BF ?_
 let p1:Nat×AV:=(3,.v (.int .i64 r14))
 refine C5 AC [(0,u0),p1,(27,.v (.bool (decide (r14 < 0))))] ?_;refine Dz (b:=(decide (r14 < 0))) kr (fun hb17=>?_) (fun hb17=>?_)
 ·rw [if_pos hb17] at h
  refine C5 AC [(2,.v (.bool false))] ?_;refine SemY.ret ?_;have hq:=OI h; subst hq;exact ⟨⟨Fr 82 [(2,.v (.bool false))],hp15⟩,WkY.f1,.inr rfl,[.v (.bool false)],kr,⟨rfl,hT16⟩⟩
 ·rw [BZ hb17] at h
  refine SemY.skip ?_;refine BF ?_;refine As ?_;refine CP AC 1 ?_;refine CB AC 0 rfl (C7 (AB rfl) rfl (Ck (a:=u0) kr (YY hT16 kr))) ?_;refine EB AC [(0,u0),p1,(4,.v (.int .i64 (wr .i64 ((x0.length:Int) - 1))))] ?_;refine BF ?_;refine Cv ?_;refine SemY.loop (n:=100000) ?_;obtain ⟨r23,hr23,h⟩:=OB h;refine Fg (D4 WkY.f1 (Po x0 r14 u0 _ (wr .i64 ((x0.length:Int) - 1)) _ hr23  hp15 hT16)) ?_;rintro _ ⟨hp24,hT25,rfl⟩;refine BF ?_;refine MG 13 AC.mixed kr kr ?_;refine RunDT.q (x:=u0) rfl kr rfl (AB rfl) rfl kr kr ?_;refine RunDT.q (x:= .v (.int .i64 r14)) rfl kr rfl (AB rfl) rfl kr kr ?_;refine RunDT.q (x:=u0) rfl kr rfl (AB rfl) rfl kr kr ?_;refine RunDT.q (x:= .v (.int .i64 r23)) rfl kr rfl (AB rfl) rfl kr kr ?_;refine RunDT.q (x:=u0) rfl kr rfl (AB rfl) rfl kr kr ?_;refine RunDT.q (x:= .v (.int .i64 r23)) rfl kr rfl (AB rfl) rfl kr kr ?_;obtain ⟨v26,hv26,h⟩:=OB h;refine RunDT.q (x:=eAt u0 r23.toNat) rfl kr rfl (AB rfl) rfl (AO (a:=u0) (b:= .v (.int .i64 r23)) kr kr (Tn (bytes:=8) hT25 kr hv26)) kr ?_;refine RunDT.q (x:= .v (.int .i64 v26)) rfl kr rfl (AB rfl) rfl (Ip (p:=eAt u0 r23.toNat) kr (LL (y:= .v (.int .i64 v26)) (m:=1) (g:=false) hT25 (D6 hv26).2 kr kr kr)) (Ja hT25 (D6 hv26).2 kr) ?_;refine RunDT.q (x:=u0) rfl kr rfl (AB rfl) rfl kr kr ?_;refine RunDT.q (x:= .v (.int .i64 r14)) rfl kr rfl (AB rfl) rfl kr kr ?_;obtain ⟨v27,hv27,h⟩:=OB h;refine RunDT.q (x:=eAt u0 r14.toNat) rfl kr rfl (AB rfl) rfl (AO (a:=u0) (b:= .v (.int .i64 r14)) kr kr (Tn (bytes:=8) hT25 kr hv27)) kr ?_;refine RunDT.q (x:= .v (.int .i64 v27)) rfl kr rfl (AB rfl) rfl (Ip (p:=eAt u0 r14.toNat) kr (LL (y:= .v (.int .i64 v27)) (m:=1) (g:=false) hT25 (D6 hv27).2 kr kr kr)) (Ja hT25 (D6 hv27).2 kr) ?_;obtain ⟨v28,hv28,h⟩:=OB h;refine RunDT.q (x:=eAt u0 r14.toNat) rfl kr rfl (AB rfl) rfl (AO (a:=u0) (b:= .v (.int .i64 r14)) kr kr (Tn (bytes:=8) hT25 kr hv28)) kr ?_;refine Th rfl ?_;obtain ⟨hp29,hs30,hT31⟩:=Qh (P:=Tryz.prog) (ty:=3) (y:= .v (.int .i64 v26)) (v':=v26) hT25 (D6 hv28).2 kr kr kr
  refine RunL.store AC (y:=eAt u0 r14.toNat) (z:= .v (.int .i64 v26)) rfl (AB rfl) kr kr hs30 ?_;obtain ⟨v32,hv32,h⟩:=OB h;refine CB AC 0 rfl (C7 (AB rfl) rfl (AO (a:=u0) (b:= .v (.int .i64 r23)) kr kr (Tn (bytes:=8) hT31 kr hv32))) ?_;obtain ⟨hp33,hs34,hT35⟩:=Qh (P:=Tryz.prog) (ty:=3) (y:= .v (.int .i64 v27)) (v':=v27) hT31 (D6 hv32).2 kr kr kr;refine RunL.store AC (y:=eAt u0 r23.toNat) (z:= .v (.int .i64 v27)) rfl (AB rfl) kr kr hs34 ?_;refine Dy rfl (SemY.fr (l':=[(0,u0),p1]) kr ?_);refine BF ?_;refine BF ?_;refine As ?_;refine CP AC 3 ?_;refine CB AC 0 rfl (C7 (AB rfl) rfl (Ck (a:=u0) kr (YY hT35 kr))) ?_;refine EB AC [(0,u0),(5,.v (.int .i64 (wr .i64 (r14 + 1)))),(6,.v (.int .i64 (wr .i64 ((((x0.set r14.toNat v26).set r23.toNat v27).length:Int) - 1))))] ?_;refine Cv ?_;refine SemY.loop (n:=100000) ?_;obtain ⟨r51,hr51,h⟩:=OB h;refine Fg (D4 WkY.f1 (Pp u0 _ (wr .i64 (r14 + 1)) (wr .i64 ((((x0.set r14.toNat v26).set r23.toNat v27).length:Int) - 1)) ((x0.set r14.toNat v26).set r23.toNat v27) _ hr51  hp33 hT35)) ?_;rintro _ ⟨hp52,hT53,rfl⟩;refine C5 AC [(2,.v (.bool true))] ?_;refine SemY.ret ?_;have hq:=OI h; subst hq;exact ⟨⟨Fr 82 [(2,.v (.bool true))],hp52⟩,WkY.f1,.inr rfl,[.v (.bool true)],kr,⟨rfl,hT53⟩⟩
/- trestle/trestleref03.Compromise -/
noncomputable def Fm:Code:=BG Tryz.f100
def DY (x0:(List (List AG))):Nat->Int->Option ((Unit) ⊕ (Int))
 | 0,_=>none
 | f + 1,c6 =>
  if (decide (c6 < (x0.length:Int)))=true then
  (idx x0 c6).bind fun v8 =>
  (IB v8).bind fun v9 =>
  if (v9.2 != 0)=true then
  some (.inr v9.2)
  else
  DY x0 f (wr .i64 (c6 + 1))
  else
  some (.inl ())
def Ft (c31:Int) (c34:(List Int)) (v35:Bool×(List Int)) (v39:Int):Option ((Int×(List Int))) :=
 if (decide (v39 < c31))=true then
 (G9 v35.2).bind fun v41 =>
 some (v39,v41)
 else
 some (c31,c34)
def Dw (v21:(List (List Int))):Nat->Int->(List Int)->(List Int)->Option ((Int×(List Int)))
 | 0,_,_,_=>none
 | f + 1,c31,c32,c34 =>
  (II c32).bind fun v35 =>
  if v35.1=true then
  (Cl v21 v35.2).bind fun v39 =>
  (Ft c31 c34 v35 v39).bind fun r49 =>
  Dw v21 f r49.1 v35.2 r49.2
  else
  some (c31,c34)
def DA (x0:(List (List AG))) (x1:(List Ai)):Option ((List Int)×Int×Int) :=
 if (decide ((x0.length:Int) > 16))=true then
 some (([]:(List Int)),0,7)
 else
 (DY x0 100000 0).bind fun r12 =>
 match r12 with
 | (.inl _w13) =>
  if (decide ((x1.length:Int) > 7))=true then
  some (([]:(List Int)),0,8)
  else
  (IC x0 x1).bind fun v21 =>
  (LQ (x1.length:Int)).bind fun v22 =>
  (G9 v22).bind fun v26 =>
  (Cl v21 v22).bind fun v30 =>
  (Dw v21 100000 v30 v22 v26).bind fun r57 =>
  some (r57.2,r57.1,0)
 | (.inr w64) =>
  some (([]:(List Int)),0,w64)
theorem I2 {L:List Asn}(x0:(List (List AG))) (x1:(List Ai)):∀ (f:Nat) (c6:Int) (r:(Unit) ⊕ (Int)),DY x0 f c6=some r->∀ (hp:Hp),T hp (L)->SemYN E0 ⟨none,false⟩ (pc Fm [1,1,0,1,0,0]) f ⟨Fr 62 [(0,.sl 1 (x0.map (cdL 5 AA).enc)),(1,.sl 9 (x1.map AE.enc)),(7,.v (.int .i64 c6))],hp⟩ (fun e s=>match r with
 | (.inl _w)=>e=(.exit 0)/\∃ s2,(∃ (h':Hp),T h' (L)/\s2=⟨Fr 62 [(0,.sl 1 (x0.map (cdL 5 AA).enc)),(1,.sl 9 (x1.map AE.enc))],h'⟩)/\WkY E0 s s2
 | (.inr w)=>e = .ret/\∃ s2,(∃ (h':Hp),T h' (L)/\s2=⟨Fr 62 [(4,.e0),(5,.v (.int .i64 0)),(6,.v (.int .i64 w))],h'⟩)/\WkY E0 s s2):=by
 intro f;induction f with
 | zero=>intro c6 r h; cases h
 | succ f ih0 =>
  intro c6 r h  hp hT;unfold DY at h;refine Ge ?_;refine BF ?_;refine BF ?_;refine As ?_;refine CP AC 2 ?_;refine CB AC 0 rfl (C7 (AB rfl) rfl (Ck (a:= .sl 1 (x0.map (cdL 5 AA).enc)) kr (Ba (el:=22) kr))) ?_
  let p1:Nat×AV:=(7,.v (.int .i64 c6))
  let p2:Nat×AV:=(1,.sl 9 (x1.map AE.enc))
  let p3:Nat×AV:=(0,.sl 1 (x0.map (cdL 5 AA).enc))
  refine EB AC [p3,p2,p1,(21,.v (.bool (decide (c6 < (x0.length:Int)))))] ?_;refine Dz (b:=(decide (c6 < (x0.length:Int)))) kr (fun hb7=>?_) (fun hb7=>?_)
  ·rw [if_pos hb7] at h
   refine SemY.skip ?_;refine BF ?_;refine Cv ?_;refine BF ?_;refine As ?_;refine CP AC 2 ?_;obtain ⟨v8,hv8,h⟩:=OB h;refine CB AC 0 rfl (C7 (AB rfl) rfl (AO (a:= .sl 1 (x0.map (cdL 5 AA).enc)) (b:= .v (.int .i64 c6)) kr kr (Dn (e:=(cdL 5 AA).enc) (el:=22) (k:=1) (ki:= .i64) kr kr hv8))) ?_;refine CP AC 1 ?_;obtain ⟨v9,hv9,h⟩:=OB h;refine Kt (v:=v9) (caps:=[]) (xs:=[.sl 5 (v8.map AA.enc)]) (u:=(v8,())) rfl rfl Uo rfl (AB rfl) kr kr (GG (JP (c:=(cdL 5 AA)) (v:=v8)) SeesD.nil) (.inl kr) hv9 ?_;refine EB AC [p3,p2,p1,(9,.v (.int .i64 v9.2))] ?_;refine C5 AC [p3,p2,p1,(9,.v (.int .i64 v9.2)),(33,.v (.bool (v9.2 != 0)))] ?_;refine Dz (b:=(v9.2 != 0)) kr (fun hb10=>?_) (fun hb10=>?_)
   ·rw [if_pos hb10] at h
    refine C5 AC [(4,.e0),(5,.v (.int .i64 0)),(6,.v (.int .i64 v9.2))] ?_;refine SemY.ret ?_;have hq:=OI h; subst hq;exact ⟨rfl,_,⟨hp,hT,rfl⟩,WkY.f1⟩
   ·rw [BZ hb10] at h
    refine SemY.skip ?_;refine As ?_;refine CP AC 3 ?_;refine Dy rfl ?_;exact D4 WkY.f1 (ih0 (wr .i64 (c6 + 1)) _ h  hp hT)
  ·rw [BZ hb7] at h
   refine SemY.exit ?_;have hq:=OI h; subst hq;exact ⟨rfl,_,⟨hp,hT,rfl⟩,WkY.f1⟩
theorem Nb {L:List Asn}{hp:Hp}(c31:Int) (c34:(List Int)) (v35:Bool×(List Int)) (v39:Int) (v21:(List (List Int))) (e23:AV) (e33:AV) (r:(Int×(List Int))) (h:Ft c31 c34 v35 v39=some r) (hT:T hp ((own_ (ocL 1 3 (ocV cdI)) e23 v35.2)::(own_ (ocL 1 3 (ocV cdI)) e33 c34)::L)):SemY E0 ⟨none,false⟩ (pc Fm [1,1,1,1,1,1,1,1,0,0,0,1,0,1,1]) ⟨Fr 62 [(10,.sl 1 (v21.map (cdL 1 cdI).enc)),(11,e23),(12,e33),(13,.v (.int .i64 c31)),(14,.v (.int .i64 v39)),(56,.v (.bool (decide (v39 < c31))))],hp⟩ (fun e s=>e = .normal/\∃ s2,(∃ (e46:AV) (h':Hp),T h' ((own_ (ocL 1 3 (ocV cdI)) e23 v35.2)::(own_ (ocL 1 3 (ocV cdI)) e46 r.2)::L)/\s2=⟨Fr 62 [(10,.sl 1 (v21.map (cdL 1 cdI).enc)),(11,e23),(12,e46),(13,.v (.int .i64 r.1))],h'⟩)/\WkY E0 s s2):=by
 unfold Ft at h;refine Dz (b:=(decide (v39 < c31))) kr (fun hb40=>?_) (fun hb40=>?_)
 ·rw [if_pos hb40] at h
  refine C5 AC [(10,.sl 1 (v21.map (cdL 1 cdI).enc)),(11,e23),(13,.v (.int .i64 v39))] ?_;refine As ?_;refine CP AC 1 ?_;obtain ⟨v41,hv41,h⟩:=OB h;refine PJ (E:=E0) (e:=E0) rfl rfl AC rfl rfl (fid:=145) (caps:=[]) (xs:=[e23]) (fn:=Tryz.f145) (c:=Hc) (Out:=fun v h'=>∃ (z0:AV),v=z0/\T h' ((own_ (ocL 1 3 (ocV cdI)) e23 v35.2)::(own_ (ocL 1 3 (ocV cdI)) z0 v41)::(own_ (ocL 1 3 (ocV cdI)) e33 c34)::L)) rfl (AB rfl) kr kr kr kr (by show 1<=19; decide) (Ll e23 v35.2 _ hv41 hT) ?_;rintro xx hp43 ⟨e42,hqhp43,hT44⟩; subst xx;refine CP AC 1 ?_;refine Dy rfl ?_;have hq:=OI h; subst hq
  have hT48:=(hT44.front 2 rfl).drop
  exact ⟨rfl,_,⟨e42,hp43,hT48,rfl⟩,WkY.f1⟩
 ·rw [BZ hb40] at h
  refine SemY.skip ?_;have hq:=OI h; subst hq;exact ⟨rfl,_,⟨e33,hp,hT,rfl⟩,WkY.f1⟩
theorem Nc {L:List Asn}(v21:(List (List Int))) (e23:AV):∀ (f:Nat) (c31:Int) (c32:(List Int)) (c34:(List Int)) (r:(Int×(List Int))),Dw v21 f c31 c32 c34=some r->∀ (e33:AV) (hp:Hp),T hp ((own_ (ocL 1 3 (ocV cdI)) e23 c32)::(own_ (ocL 1 3 (ocV cdI)) e33 c34)::L)->SemYN E0 ⟨none,false⟩ (pc Fm [1,1,1,1,1,1,1,1,0,0,0]) f ⟨Fr 62 [(10,.sl 1 (v21.map (cdL 1 cdI).enc)),(11,e23),(12,e33),(13,.v (.int .i64 c31))],hp⟩ (fun e s=>e=(.exit 2)/\∃ s2,(∃ (e54:AV) (h':Hp),T h' ((own_ (ocL 1 3 (ocV cdI)) e54 r.2)::L)/\s2=⟨Fr 62 [(12,e54),(13,.v (.int .i64 r.1))],h'⟩)/\WkY E0 s s2):=by
 intro f;induction f with
 | zero=>intro c31 c32 c34 r h; cases h
 | succ f ih0 =>
  intro c31 c32 c34 r h e33 hp hT;unfold Dw at h;refine Ge ?_;refine BF ?_;refine BF ?_;refine As ?_;refine CP AC 1 ?_;obtain ⟨v35,hv35,h⟩:=OB h;refine PJ (E:=E0) (e:=E0) rfl rfl AC rfl rfl (fid:=146) (caps:=[]) (xs:=[e23]) (fn:=Tryz.f146) (c:=HL) (Out:=fun v h'=>v = .v (.bool v35.1)/\T h' ((own_ (ocL 1 3 (ocV cdI)) e23 v35.2)::(own_ (ocL 1 3 (ocV cdI)) e33 c34)::L)) rfl (AB rfl) kr kr kr kr (by show 1<=82; decide) (RH e23 c32 _ hv35 hT) ?_;rintro xx hp36 ⟨hqhp36,hT37⟩; subst xx
  let p1:Nat×AV:=(13,.v (.int .i64 c31))
  let p2:Nat×AV:=(10,.sl 1 (v21.map (cdL 1 cdI).enc))
  refine Dy rfl (SemY.fr (l':=[p2,(11,e23),(12,e33),p1,(50,.v (.bool v35.1))]) kr ?_);refine Dz (b:=v35.1) kr (fun hb38=>?_) (fun hb38=>?_)
  ·rw [if_pos hb38] at h
   refine SemY.skip ?_;refine Cv ?_;refine BF ?_;refine As ?_;refine CP AC 2 ?_;obtain ⟨v39,hv39,h⟩:=OB h;refine Kt (v:=v39) (caps:=[]) (xs:=[.sl 1 (v21.map (cdL 1 cdI).enc),e23]) (u:=(v21,v35.2,())) rfl rfl Jr rfl (AB rfl) kr kr (GG (JP (c:=(cdL 1 (cdL 1 cdI))) (v:=v21)) (GG (SeeD.own hT37 (i:=0) rfl) SeesD.nil)) (.inl kr) hv39 ?_;refine EB AC [p2,(11,e23),(12,e33),p1,(14,.v (.int .i64 v39))] ?_;refine C5 AC [p2,(11,e23),(12,e33),p1,(14,.v (.int .i64 v39)),(56,.v (.bool (decide (v39 < c31))))] ?_;obtain ⟨r49,hr49,h⟩:=OB h;refine Nf (Nb c31 c34 v35 v39 v21 e23 e33 _ hr49 hT37) ?_;rintro _ ⟨e50,hp51,hT52,rfl⟩;exact D4 WkY.f1 (ih0 r49.1 v35.2 r49.2 _ h e50 hp51 hT52)
  ·rw [BZ hb38] at h
   refine SemY.exit ?_;have hq:=OI h; subst hq
   have hT56:=hT37.drop
   exact ⟨rfl,_,⟨e33,hp36,hT56,rfl⟩,WkY.f1⟩
theorem Oe {L:List Asn}{hp:Hp}(x0:(List (List AG))) (x1:(List Ai)) (r:(List Int)×Int×Int) (h:DA x0 x1=some r) (hT:T hp (L)):SemY E0 ⟨none,false⟩ Fm ⟨Fr 62 (A3 0 [.sl 1 (x0.map (cdL 5 AA).enc),.sl 9 (x1.map AE.enc)]),hp⟩ fun x s'=>(x = .normal\/x = .ret)/\∃ ys,EG E0.P s'.fr s'.hp Tryz.f100.results.toList=some ys/\(fun v h'=>v = .tp [.sl 1 (r.1.map cdI.enc),.v (.int .i64 r.2.1),.v (.int .i64 r.2.2)]/\T h' (L)) (EN ys) s'.hp:=by
 unfold DA at h
 let p1:Nat×AV:=(1,.sl 9 (x1.map AE.enc))
 let p2:Nat×AV:=(0,.sl 1 (x0.map (cdL 5 AA).enc))
 refine PK (P3 (s1:=⟨Fr 62 [p2,p1],hp⟩) WkY.f1 ?_);refine C5 AC [p2,p1] ?_;refine BF ?_;refine BF ?_;refine As ?_;refine CP AC 1 ?_;refine CB AC 0 rfl (C7 (AB rfl) rfl (Ck (a:= .sl 1 (x0.map (cdL 5 AA).enc)) kr (Ba (el:=22) kr))) ?_;refine EB AC [p2,p1,(17,.v (.bool (decide ((x0.length:Int) > 16))))] ?_;refine Dz (b:=(decide ((x0.length:Int) > 16))) kr (fun hb1=>?_) (fun hb1=>?_)
 ·rw [if_pos hb1] at h
  let p3:Nat×AV:=(6,.v (.int .i64 7))
  let p4:Nat×AV:=(5,.v (.int .i64 0))
  refine C5 AC [(4,.e0),p4,p3] ?_;refine SemY.ret ?_;have hq:=OI h; subst hq
  have hT2:=(T.e0 (k:=1) (ty:=3) (o:=(ocV cdI)) hT)
  let p5:Nat×AV:=(4,.sl 1 (([]:(List Int)).map cdI.enc))
  obtain ⟨hp3,hw4,hT5⟩:=MX (E:=E0) (n:=62) (l:=[(4,.e0),p4,p3]) (l':=[p5,p4,p3]) hT2 (LkT.at_ ⟨.inr ⟨kr,rfl⟩,.inl kr,.inl kr,trivial⟩);exact ⟨⟨Fr 62 [p5,p4,p3],hp3⟩,(WkY.trans (WkY.trans WkY.f1 hw4) WkY.f1),.inr rfl,[.sl 1 (([]:(List Int)).map cdI.enc),.v (.int .i64 0),.v (.int .i64 7)],kr,⟨rfl,hT5⟩⟩
 ·rw [BZ hb1] at h
  refine SemY.skip ?_;refine BF ?_;refine C5 AC [p2,p1,(7,.v (.int .i64 0))] ?_;refine Cv ?_;refine SemY.loop (n:=100000) ?_;obtain ⟨r12,hr12,h⟩:=OB h;rcases r12 with w13 | w64
  ·try dsimp only at h
   refine Fg (D4 WkY.f1 (I2 x0 x1 _ 0 _ hr12  hp hT)) ?_;rintro _ ⟨hp14,hT15,rfl⟩;refine BF ?_;refine BF ?_;refine As ?_;refine CP AC 1 ?_;refine CB AC 0 rfl (C7 (AB rfl) rfl (Ck (a:= .sl 9 (x1.map AE.enc)) kr (Ba (el:=42) kr))) ?_;refine EB AC [p2,p1,(37,.v (.bool (decide ((x1.length:Int) > 7))))] ?_;refine Dz (b:=(decide ((x1.length:Int) > 7))) kr (fun hb16=>?_) (fun hb16=>?_)
   ·rw [if_pos hb16] at h
    let p6:Nat×AV:=(6,.v (.int .i64 8))
    let p7:Nat×AV:=(5,.v (.int .i64 0))
    refine C5 AC [(4,.e0),p7,p6] ?_;refine SemY.ret ?_;have hq:=OI h; subst hq
    have hT17:=(T.e0 (k:=1) (ty:=3) (o:=(ocV cdI)) hT15)
    let p8:Nat×AV:=(4,.sl 1 (([]:(List Int)).map cdI.enc))
    obtain ⟨hp18,hw19,hT20⟩:=MX (E:=E0) (n:=62) (l:=[(4,.e0),p7,p6]) (l':=[p8,p7,p6]) hT17 (LkT.at_ ⟨.inr ⟨kr,rfl⟩,.inl kr,.inl kr,trivial⟩);exact ⟨⟨Fr 62 [p8,p7,p6],hp18⟩,(WkY.trans (WkY.trans WkY.f1 hw19) WkY.f1),.inr rfl,[.sl 1 (([]:(List Int)).map cdI.enc),.v (.int .i64 0),.v (.int .i64 8)],kr,⟨rfl,hT20⟩⟩
   ·rw [BZ hb16] at h
    refine SemY.skip ?_;refine BF ?_;refine As ?_;refine CP AC 2 ?_;obtain ⟨v21,hv21,h⟩:=OB h;refine Kt (v:=v21) (caps:=[]) (xs:=[.sl 1 (x0.map (cdL 5 AA).enc),.sl 9 (x1.map AE.enc)]) (u:=(x0,x1,())) rfl rfl Up rfl (AB rfl) kr kr (GG (JP (c:=(cdL 1 (cdL 5 AA))) (v:=x0)) (GG (JP (c:=(cdL 9 AE)) (v:=x1)) SeesD.nil)) (.inr ⟨by kernel_rfl,JT.de (x0,x1,())⟩) hv21 ?_
    let p9:Nat×AV:=(10,.sl 1 (v21.map (cdL 1 cdI).enc))
    refine EB AC [p1,p9] ?_;refine BF ?_;refine As ?_;refine CP AC 1 ?_;refine CB AC 0 rfl (C7 (AB rfl) rfl (Ck (a:= .sl 9 (x1.map AE.enc)) kr (Ba (el:=42) kr))) ?_;obtain ⟨v22,hv22,h⟩:=OB h;refine PJ (E:=E0) (e:=E0) rfl rfl AC rfl rfl (fid:=118) (caps:=[]) (xs:=[.v (.int .i64 (x1.length:Int))]) (fn:=Tryz.f118) (c:=Lt) (Out:=fun v h'=>∃ (z0:AV),v=z0/\T h' ((own_ (ocL 1 3 (ocV cdI)) z0 v22)::L)) rfl (AB rfl) kr kr kr kr (by show 1<=15; decide) (SO (x1.length:Int) _ hv22 hT15) ?_;rintro xx hp24 ⟨e23,hqhp24,hT25⟩; subst xx;refine EB AC [p9,(11,e23)] ?_;refine BF ?_;refine As ?_;refine CP AC 1 ?_;obtain ⟨v26,hv26,h⟩:=OB h;refine PJ (E:=E0) (e:=E0) rfl rfl AC rfl rfl (fid:=145) (caps:=[]) (xs:=[e23]) (fn:=Tryz.f145) (c:=Hc) (Out:=fun v h'=>∃ (z0:AV),v=z0/\T h' ((own_ (ocL 1 3 (ocV cdI)) e23 v22)::(own_ (ocL 1 3 (ocV cdI)) z0 v26)::L)) rfl (AB rfl) kr kr kr kr (by show 1<=19; decide) (Ll e23 v22 _ hv26 hT25) ?_;rintro xx hp28 ⟨e27,hqhp28,hT29⟩; subst xx;refine EB AC [p9,(11,e23),(12,e27)] ?_;refine BF ?_;refine As ?_;refine CP AC 2 ?_;obtain ⟨v30,hv30,h⟩:=OB h;refine Kt (v:=v30) (caps:=[]) (xs:=[.sl 1 (v21.map (cdL 1 cdI).enc),e23]) (u:=(v21,v22,())) rfl rfl Jr rfl (AB rfl) kr kr (GG (JP (c:=(cdL 1 (cdL 1 cdI))) (v:=v21)) (GG (SeeD.own hT29 (i:=0) rfl) SeesD.nil)) (.inl kr) hv30 ?_;refine EB AC [p9,(11,e23),(12,e27),(13,.v (.int .i64 v30))] ?_;refine BF ?_;refine Cv ?_;refine SemY.loop (n:=100000) ?_;obtain ⟨r57,hr57,h⟩:=OB h;refine Fg (D4 WkY.f1 (Nc v21 e23 _ v30 v22 v26 _ hr57 e27 hp28 hT29)) ?_;rintro _ ⟨e58,hp59,hT60,rfl⟩
    let p10:Nat×AV:=(6,.v (.int .i64 0))
    let p11:Nat×AV:=(5,.v (.int .i64 r57.1))
    refine C5 AC [(4,e58),p11,p10] ?_;refine SemY.ret ?_;have hq:=OI h; subst hq;obtain ⟨hp61,hw62,hT63⟩:=MX (E:=E0) (n:=62) (l:=[(4,e58),p11,p10]) (l':=[(4,.sl 1 (r57.2.map cdI.enc)),p11,p10]) hT60 (LkT.at_ ⟨.inr ⟨kr,rfl⟩,.inl kr,.inl kr,trivial⟩);exact ⟨⟨Fr 62 [(4,.sl 1 (r57.2.map cdI.enc)),p11,p10],hp61⟩,(WkY.trans (WkY.trans WkY.f1 hw62) WkY.f1),.inr rfl,[.sl 1 (r57.2.map cdI.enc),.v (.int .i64 r57.1),.v (.int .i64 0)],kr,⟨rfl,hT63⟩⟩
  ·try dsimp only at h
   refine Fg (D4 WkY.f1 (I2 x0 x1 _ 0 _ hr12  hp hT)) ?_;rintro _ ⟨hp65,hT66,rfl⟩;have hq:=OI h; subst hq
   have hT67:=(T.e0 (k:=1) (ty:=3) (o:=(ocV cdI)) hT66)
   let p12:Nat×AV:=(6,.v (.int .i64 w64))
   let p13:Nat×AV:=(5,.v (.int .i64 0))
   let p14:Nat×AV:=(4,.sl 1 (([]:(List Int)).map cdI.enc))
   obtain ⟨hp68,hw69,hT70⟩:=MX (E:=E0) (n:=62) (l:=[(4,.e0),p13,p12]) (l':=[p14,p13,p12]) hT67 (LkT.at_ ⟨.inr ⟨kr,rfl⟩,.inl kr,.inl kr,trivial⟩);exact ⟨⟨Fr 62 [p14,p13,p12],hp68⟩,(WkY.trans (WkY.trans WkY.f1 hw69) WkY.f1),.inr rfl,[.sl 1 (([]:(List Int)).map cdI.enc),.v (.int .i64 0),.v (.int .i64 w64)],kr,⟨rfl,hT70⟩⟩
def K7:Cs ((List (List AG))×(List Ai)×Unit):=(csC (cdL 1 (cdL 5 AA)) (csC (cdL 9 AE) csN))
def LF (r:(List Int)×Int×Int):AV:= .tp [(cdL 1 cdI).enc r.1,cdI.enc r.2.1,cdI.enc r.2.2]
def Pt:List AV->Option AV:=Dx K7 (fun a=>DA a.1 a.2.1) LF
theorem P1:XOk 100 Pt:=by
 refine AU Tryz.func100 (c:=Fm) ?h2 ⟨Tryz.call100⟩ K7 (fun a=>DA a.1 a.2.1) LF (fun a=>(by show 2<=62; decide)) ?h3 ?h4
 case h2=>kernel_rfl
 case h3=>intro b; kernel_rfl
 case h4 =>
  intro a b h;refine Sem.mono (Xv (Oe (L:=[]) (hp:=[]) a.1 a.2.1 b h T.nil)) fun e s' hs=>?_
  obtain ⟨h1,ys,h2,h3,-⟩:=hs;exact ⟨h1,ys,h2,h3⟩
/- slices.Equal[[]int,int] -/
noncomputable def HM:Code:=BG Tryz.f66
def Er (x0:(List Int)) (x1:(List Int)):Nat->Int->Option ((Unit) ⊕ (Bool))
 | 0,_=>none
 | f + 1,c2 =>
  if (decide (c2 < (x0.length:Int)))=true then
  (idx x0 c2).bind fun v4 =>
  (idx x1 c2).bind fun v5 =>
  if (v4 != v5)=true then
  some (.inr false)
  else
  Er x0 x1 f (wr .i64 (c2 + 1))
  else
  some (.inl ())
def EF (x0:(List Int)) (x1:(List Int)):Option (Bool) :=
 if ((x0.length:Int)!=(x1.length:Int))=true then
 some false
 else
 (Er x0 x1 100000 0).bind fun r8 =>
 match r8 with
 | (.inl _w9) =>
  some true
 | (.inr w10) =>
  some w10
def HQ:Cs ((List Int)×(List Int)×Unit):=(csC (cdL 1 cdI) (csC (cdL 1 cdI) csN))
def HT (r:Bool):AV:=cdB.enc r
theorem IK (x0:(List Int)) (x1:(List Int)):∀ (f:Nat) (c2:Int) (r:(Unit) ⊕ (Bool)),Er x0 x1 f c2=some r->SemN E0 ⟨none,false⟩ (pc HM [1,1,0,1,0,0]) f ⟨Fr 26 [(0,.sl 1 (x0.map cdI.enc)),(1,.sl 1 (x1.map cdI.enc)),(12,.v (.int .i64 (x0.length:Int))),(13,.v (.int .i64 c2))],[]⟩ (fun e s=>match r with
 | (.inl _w)=>e=(.exit 0)/\Wk E0 s ⟨Fr 26 [],[]⟩
 | (.inr w)=>e = .ret/\Wk E0 s ⟨Fr 26 [(4,.v (.bool w))],[]⟩):=by
 intro f;induction f with
 | zero=>intro c2 r h; cases h
 | succ f ih0 =>
  intro c2 r h
  have ih:=fun (c2:Int)=>ih0 c2 r
  unfold Er at h;refine BR ?_
  let p1:Nat×AV:=(13,.v (.int .i64 c2))
  let p2:Nat×AV:=(12,.v (.int .i64 (x0.length:Int)))
  let p3:Nat×AV:=(1,.sl 1 (x1.map cdI.enc))
  let p4:Nat×AV:=(0,.sl 1 (x0.map cdI.enc))
  refine AJ AC [p4,p3,p2,p1,(14,.v (.bool (decide (c2 < (x0.length:Int)))))] [] ?_;refine AF ?_;refine AP (b:=(decide (c2 < (x0.length:Int)))) kr (fun hb3=>?_) (fun hb3=>?_)
  ·rw [if_pos hb3] at h
   refine AS ?_;refine AF ?_;refine AZ ?_;refine AJ AC [p4,p3,(5,.v (.int .i64 c2)),p2,p1] [] ?_;refine AF ?_;obtain ⟨v4,hv4,h⟩:=OB h;obtain ⟨v5,hv5,h⟩:=OB h;refine DL AC (s1:=⟨Fr 26 [p4,p3,p2,p1,(24,.v (.bool (v4 != v5)))],[]⟩) kr ?_ ?_
   ·refine AY (n:=26) AC 2 [p4,p3,(5,.v (.int .i64 c2)),p2,p1,(16,.sl 1 (x0.map cdI.enc)),(17,.v (.int .i64 c2))] [] kr kr ?_
    refine RunDS.one AC rfl kr (HK kr (AB rfl) rfl (AO (a:= .sl 1 (x0.map cdI.enc)) (b:= .v (.int .i64 c2)) kr kr (Dn (e:=cdI.enc) (el:=3) (k:=1) (ki:= .i64) kr kr hv4)) kr) ?_;refine AY (n:=26) AC 3 [p4,p3,p2,p1,(19,.v (.int .i64 v4)),(20,.sl 1 (x1.map cdI.enc)),(21,.v (.int .i64 c2))] [] kr kr ?_;refine RunDS.one AC rfl kr (HK kr (AB rfl) rfl (AO (a:= .sl 1 (x1.map cdI.enc)) (b:= .v (.int .i64 c2)) kr kr (Dn (e:=cdI.enc) (el:=3) (k:=1) (ki:= .i64) kr kr hv5)) kr) ?_;refine AY (n:=26) AC 2 [p4,p3,p2,p1,(24,.v (.bool (v4 != v5)))] [] kr kr ?_;exact RunDS.done rfl AL
   refine AP (b:=(v4 != v5)) kr (fun hb6=>?_) (fun hb6=>?_)
   ·rw [if_pos hb6] at h
    refine AJ AC [(4,.v (.bool false))] [] ?_;refine AQ ?_;have hq:=OI h; subst hq;exact ⟨rfl,AL⟩
   ·rw [BZ hb6] at h
    refine AS ?_
    let p5:Nat×AV:=(13,.v (.int .i64 (wr .i64 (c2 + 1))))
    refine Cn AC [p4,p3,p2,p5] [] ?_;exact Ac (s1:=⟨Fr 26 [p4,p3,p2,p5],[]⟩) AL (ih (wr .i64 (c2 + 1)) h)
  ·rw [BZ hb3] at h
   refine Bd ?_;have hq:=OI h; subst hq;exact ⟨rfl,AL⟩
theorem Nd (x0:(List Int)) (x1:(List Int)) (r:Bool) (h:EF x0 x1=some r):Sem E0 ⟨none,false⟩ HM ⟨Fr 26 (A3 0 (HQ.enc (x0,x1,()))),[]⟩ fun e s'=>(e = .normal\/e = .ret)/\∃ xs,EG E0.P s'.fr s'.hp Tryz.f66.results.toList=some xs/\EN xs=HT r:=by
 unfold EF at h
 let p1:Nat×AV:=(1,.sl 1 (x1.map cdI.enc))
 let p2:Nat×AV:=(0,.sl 1 (x0.map cdI.enc))
 refine An (BP (s1:=⟨Fr 26 [p2,p1],[]⟩) AL ?_);refine AJ AC [p2,p1] [] ?_;refine AF ?_;refine AF ?_;refine AK (s1:=⟨Fr 26 [p2,p1,(10,.v (.bool ((x0.length:Int)!=(x1.length:Int))))],[]⟩) ?_ ?_
 ·refine AD (n:=26) AC 1 [p2,p1,(6,.sl 1 (x0.map cdI.enc))] [] kr ?_
  refine AR AC 0 rfl (C7 (AB rfl) rfl (Ck (a:= .sl 1 (x0.map cdI.enc)) kr (Ba (el:=3) kr))) ?_;refine AD (n:=26) AC 1 [p2,p1,(7,.v (.int .i64 (x0.length:Int))),(8,.sl 1 (x1.map cdI.enc))] [] kr ?_;refine AR AC 0 rfl (C7 (AB rfl) rfl (Ck (a:= .sl 1 (x1.map cdI.enc)) kr (Ba (el:=3) kr))) ?_;exact AW AC
 refine AP (b:=((x0.length:Int)!=(x1.length:Int))) kr (fun hb1=>?_) (fun hb1=>?_)
 ·rw [if_pos hb1] at h
  refine AJ AC [(4,.v (.bool false))] [] ?_;refine AQ ?_;have hq:=OI h; subst hq;exact ⟨⟨Fr 26 [(4,.v (.bool false))],[]⟩,AL,.inr rfl,[.v (.bool false)],kr,kr⟩
 ·rw [BZ hb1] at h
  refine AS ?_;refine AF ?_;refine AF ?_
  let p3:Nat×AV:=(13,.v (.int .i64 0))
  let p4:Nat×AV:=(12,.v (.int .i64 (x0.length:Int)))
  refine AK (s1:=⟨Fr 26 [p2,p1,p4,p3],[]⟩) ?_ ?_
  ·refine AD (n:=26) AC 1 [p2,p1,(11,.sl 1 (x0.map cdI.enc))] [] kr ?_
   refine AR AC 0 rfl (C7 (AB rfl) rfl (Ck (a:= .sl 1 (x0.map cdI.enc)) kr (Ba (el:=3) kr))) ?_;exact AW AC
  refine AZ ?_;obtain ⟨r8,hr8,h⟩:=OB h;refine Bj (n:=100000) ?_;rcases r8 with w9 | w10
  ·try dsimp only at h
   refine Aq (Ac (s1:=⟨Fr 26 [p2,p1,p4,p3],[]⟩) AL (IK x0 x1 _ 0 _ hr8)) ?_;refine AJ AC [(4,.v (.bool true))] [] ?_;refine AQ ?_;have hq:=OI h; subst hq;exact ⟨⟨Fr 26 [(4,.v (.bool true))],[]⟩,AL,.inr rfl,[.v (.bool true)],kr,kr⟩
  ·try dsimp only at h
   refine Aq (Ac (s1:=⟨Fr 26 [p2,p1,p4,p3],[]⟩) AL (IK x0 x1 _ 0 _ hr8)) ?_;have hq:=OI h; subst hq;exact ⟨⟨Fr 26 [(4,.v (.bool w10))],[]⟩,AL,.inr rfl,[.v (.bool w10)],kr,kr⟩
def Og:List AV->Option AV:=Dx HQ (fun a=>EF a.1 a.2.1) HT
theorem Oj:XOk 66 Og:=by
 refine AU Tryz.func66 (c:=HM) ?h2 ⟨Tryz.call66⟩ HQ (fun a=>EF a.1 a.2.1) HT (fun a=>(by show 2<=26; decide)) ?h3 ?h4
 case h2=>kernel_rfl
 case h3=>intro b; kernel_rfl
 case h4=>exact fun a b h=>Nd a.1 a.2.1 b h
/- slices.Equal[[]string,string] -/
noncomputable def FF:Code:=BG Tryz.f95
def DB (x0:(List (List UInt8))) (x1:(List (List UInt8))):Nat->Int->Option ((Unit) ⊕ (Bool))
 | 0,_=>none
 | f + 1,c2 =>
  if (decide (c2 < (x0.length:Int)))=true then
  (idx x0 c2).bind fun v4 =>
  (idx x1 c2).bind fun v5 =>
  if (!(v4==v5))=true then
  some (.inr false)
  else
  DB x0 x1 f (wr .i64 (c2 + 1))
  else
  some (.inl ())
def CU (x0:(List (List UInt8))) (x1:(List (List UInt8))):Option (Bool) :=
 if ((x0.length:Int)!=(x1.length:Int))=true then
 some false
 else
 (DB x0 x1 100000 0).bind fun r8 =>
 match r8 with
 | (.inl _w9) =>
  some true
 | (.inr w10) =>
  some w10
def FI:Cs ((List (List UInt8))×(List (List UInt8))×Unit):=(csC (cdL 1 cdS) (csC (cdL 1 cdS) csN))
def FK (r:Bool):AV:=cdB.enc r
theorem Gc (x0:(List (List UInt8))) (x1:(List (List UInt8))):∀ (f:Nat) (c2:Int) (r:(Unit) ⊕ (Bool)),DB x0 x1 f c2=some r->SemN E0 ⟨none,false⟩ (pc FF [1,1,0,1,0,0]) f ⟨Fr 26 [(0,.sl 1 (x0.map cdS.enc)),(1,.sl 1 (x1.map cdS.enc)),(12,.v (.int .i64 (x0.length:Int))),(13,.v (.int .i64 c2))],[]⟩ (fun e s=>match r with
 | (.inl _w)=>e=(.exit 0)/\Wk E0 s ⟨Fr 26 [],[]⟩
 | (.inr w)=>e = .ret/\Wk E0 s ⟨Fr 26 [(4,.v (.bool w))],[]⟩):=by
 intro f;induction f with
 | zero=>intro c2 r h; cases h
 | succ f ih0 =>
  intro c2 r h
  have ih:=fun (c2:Int)=>ih0 c2 r
  unfold DB at h;refine BR ?_
  let p1:Nat×AV:=(13,.v (.int .i64 c2))
  let p2:Nat×AV:=(12,.v (.int .i64 (x0.length:Int)))
  let p3:Nat×AV:=(1,.sl 1 (x1.map cdS.enc))
  let p4:Nat×AV:=(0,.sl 1 (x0.map cdS.enc))
  refine AJ AC [p4,p3,p2,p1,(14,.v (.bool (decide (c2 < (x0.length:Int)))))] [] ?_;refine AF ?_;refine AP (b:=(decide (c2 < (x0.length:Int)))) kr (fun hb3=>?_) (fun hb3=>?_)
  ·rw [if_pos hb3] at h
   refine AS ?_;refine AF ?_;refine AZ ?_;refine AJ AC [p4,p3,(5,.v (.int .i64 c2)),p2,p1] [] ?_;refine AF ?_;obtain ⟨v4,hv4,h⟩:=OB h;obtain ⟨v5,hv5,h⟩:=OB h;refine DL AC (s1:=⟨Fr 26 [p4,p3,p2,p1,(24,.v (.bool (!(v4==v5))))],[]⟩) kr ?_ ?_
   ·refine AY (n:=26) AC 2 [p4,p3,(5,.v (.int .i64 c2)),p2,p1,(16,.sl 1 (x0.map cdS.enc)),(17,.v (.int .i64 c2))] [] kr kr ?_
    refine RunDS.one AC rfl kr (HK kr (AB rfl) rfl (AO (a:= .sl 1 (x0.map cdS.enc)) (b:= .v (.int .i64 c2)) kr kr (Dn (e:=cdS.enc) (el:=9) (k:=1) (ki:= .i64) kr kr hv4)) kr) ?_;refine AY (n:=26) AC 3 [p4,p3,p2,p1,(19,.st v4),(20,.sl 1 (x1.map cdS.enc)),(21,.v (.int .i64 c2))] [] kr kr ?_;refine RunDS.one AC rfl kr (HK kr (AB rfl) rfl (AO (a:= .sl 1 (x1.map cdS.enc)) (b:= .v (.int .i64 c2)) kr kr (Dn (e:=cdS.enc) (el:=9) (k:=1) (ki:= .i64) kr kr hv5)) kr) ?_;refine AY (n:=26) AC 2 [p4,p3,p2,p1,(24,.v (.bool (!(v4==v5))))] [] kr kr ?_;exact RunDS.done rfl AL
   refine AP (b:=(!(v4==v5))) kr (fun hb6=>?_) (fun hb6=>?_)
   ·rw [if_pos hb6] at h
    refine AJ AC [(4,.v (.bool false))] [] ?_;refine AQ ?_;have hq:=OI h; subst hq;exact ⟨rfl,AL⟩
   ·rw [BZ hb6] at h
    refine AS ?_
    let p5:Nat×AV:=(13,.v (.int .i64 (wr .i64 (c2 + 1))))
    refine Cn AC [p4,p3,p2,p5] [] ?_;exact Ac (s1:=⟨Fr 26 [p4,p3,p2,p5],[]⟩) AL (ih (wr .i64 (c2 + 1)) h)
  ·rw [BZ hb3] at h
   refine Bd ?_;have hq:=OI h; subst hq;exact ⟨rfl,AL⟩
theorem Je (x0:(List (List UInt8))) (x1:(List (List UInt8))) (r:Bool) (h:CU x0 x1=some r):Sem E0 ⟨none,false⟩ FF ⟨Fr 26 (A3 0 (FI.enc (x0,x1,()))),[]⟩ fun e s'=>(e = .normal\/e = .ret)/\∃ xs,EG E0.P s'.fr s'.hp Tryz.f95.results.toList=some xs/\EN xs=FK r:=by
 unfold CU at h
 let p1:Nat×AV:=(1,.sl 1 (x1.map cdS.enc))
 let p2:Nat×AV:=(0,.sl 1 (x0.map cdS.enc))
 refine An (BP (s1:=⟨Fr 26 [p2,p1],[]⟩) AL ?_);refine AJ AC [p2,p1] [] ?_;refine AF ?_;refine AF ?_;refine AK (s1:=⟨Fr 26 [p2,p1,(10,.v (.bool ((x0.length:Int)!=(x1.length:Int))))],[]⟩) ?_ ?_
 ·refine AD (n:=26) AC 1 [p2,p1,(6,.sl 1 (x0.map cdS.enc))] [] kr ?_
  refine AR AC 0 rfl (C7 (AB rfl) rfl (Ck (a:= .sl 1 (x0.map cdS.enc)) kr (Ba (el:=9) kr))) ?_;refine AD (n:=26) AC 1 [p2,p1,(7,.v (.int .i64 (x0.length:Int))),(8,.sl 1 (x1.map cdS.enc))] [] kr ?_;refine AR AC 0 rfl (C7 (AB rfl) rfl (Ck (a:= .sl 1 (x1.map cdS.enc)) kr (Ba (el:=9) kr))) ?_;exact AW AC
 refine AP (b:=((x0.length:Int)!=(x1.length:Int))) kr (fun hb1=>?_) (fun hb1=>?_)
 ·rw [if_pos hb1] at h
  refine AJ AC [(4,.v (.bool false))] [] ?_;refine AQ ?_;have hq:=OI h; subst hq;exact ⟨⟨Fr 26 [(4,.v (.bool false))],[]⟩,AL,.inr rfl,[.v (.bool false)],kr,kr⟩
 ·rw [BZ hb1] at h
  refine AS ?_;refine AF ?_;refine AF ?_
  let p3:Nat×AV:=(13,.v (.int .i64 0))
  let p4:Nat×AV:=(12,.v (.int .i64 (x0.length:Int)))
  refine AK (s1:=⟨Fr 26 [p2,p1,p4,p3],[]⟩) ?_ ?_
  ·refine AD (n:=26) AC 1 [p2,p1,(11,.sl 1 (x0.map cdS.enc))] [] kr ?_
   refine AR AC 0 rfl (C7 (AB rfl) rfl (Ck (a:= .sl 1 (x0.map cdS.enc)) kr (Ba (el:=9) kr))) ?_;exact AW AC
  refine AZ ?_;obtain ⟨r8,hr8,h⟩:=OB h;refine Bj (n:=100000) ?_;rcases r8 with w9 | w10
  ·try dsimp only at h
   refine Aq (Ac (s1:=⟨Fr 26 [p2,p1,p4,p3],[]⟩) AL (Gc x0 x1 _ 0 _ hr8)) ?_;refine AJ AC [(4,.v (.bool true))] [] ?_;refine AQ ?_;have hq:=OI h; subst hq;exact ⟨⟨Fr 26 [(4,.v (.bool true))],[]⟩,AL,.inr rfl,[.v (.bool true)],kr,kr⟩
  ·try dsimp only at h
   refine Aq (Ac (s1:=⟨Fr 26 [p2,p1,p4,p3],[]⟩) AL (Gc x0 x1 _ 0 _ hr8)) ?_;have hq:=OI h; subst hq;exact ⟨⟨Fr 26 [(4,.v (.bool w10))],[]⟩,AL,.inr rfl,[.v (.bool w10)],kr,kr⟩
def Ko:List AV->Option AV:=Dx FI (fun a=>CU a.1 a.2.1) FK
theorem Kr:XOk 95 Ko:=by
 refine AU Tryz.func95 (c:=FF) ?h2 ⟨Tryz.call95⟩ FI (fun a=>CU a.1 a.2.1) FK (fun a=>(by show 2<=26; decide)) ?h3 ?h4
 case h2=>kernel_rfl
 case h3=>intro b; kernel_rfl
 case h4=>exact fun a b h=>Je a.1 a.2.1 b h
/- trestle/trestlelaw03.SameClause -/
noncomputable def Kz:Code:=BG Tryz.f122
def EM (x0:AG) (x1:AG):Option (Bool) :=
 (if (x0.1==x1.1)=true then if (x0.2.1==x1.2.1)=true then if (x0.2.2.1==x1.2.2.1)=true then if (x0.2.2.2.2==x1.2.2.2.2)=true then (CU x0.2.2.2.1 x1.2.2.2.1).bind fun v1 =>
 some v1 else some false else some false else some false else some false).bind fun j3 =>
 some j3
def H5:Cs (AG×AG×Unit):=(csC AA (csC AA csN))
def H8 (r:Bool):AV:=cdB.enc r
theorem Ob (x0:AG) (x1:AG) (r:Bool) (h:EM x0 x1=some r):Sem E0 ⟨none,false⟩ Kz ⟨Fr 38 (A3 0 (H5.enc (x0,x1,()))),[]⟩ fun e s'=>(e = .normal\/e = .ret)/\∃ xs,EG E0.P s'.fr s'.hp Tryz.f122.results.toList=some xs/\EN xs=H8 r:=by
 unfold EM at h;refine An (BP (s1:=⟨Fr 38 [(0,AA.enc x0),(1,AA.enc x1)],[]⟩) AL ?_);refine AJ AC [(2,.pt 0 0 0),(3,.pt 1 0 0)] [some ⟨5,60,[AA.enc x0],false⟩,some ⟨5,60,[AA.enc x1],false⟩] ?_;refine AF ?_;obtain ⟨j3,hj3,h⟩:=OB h;refine AK (s1:=⟨Fr 38 [(4,.v (.bool j3))],[]⟩) ?_ ?_
 ·refine AD (n:=38) AC 6 [(2,.pt 0 0 0),(3,.pt 1 0 0),(10,.v (.bool (x0.1==x1.1)))] [some ⟨5,60,[AA.enc x0],false⟩,some ⟨5,60,[AA.enc x1],false⟩] kr ?_
  rcases BE (x0.1==x1.1) with hc4 | hc4
  ·rw [if_pos hc4] at hj3
   rw [hc4];refine AD (n:=38) AC 7 [(2,.pt 0 0 0),(3,.pt 1 0 0),(17,.v (.bool (x0.2.1==x1.2.1)))] [some ⟨5,60,[AA.enc x0],false⟩,some ⟨5,60,[AA.enc x1],false⟩] kr ?_;rcases BE (x0.2.1==x1.2.1) with hc5 | hc5
   ·rw [if_pos hc5] at hj3
    rw [hc5];refine AD (n:=38) AC 7 [(2,.pt 0 0 0),(3,.pt 1 0 0),(24,.v (.bool (x0.2.2.1==x1.2.2.1)))] [some ⟨5,60,[AA.enc x0],false⟩,some ⟨5,60,[AA.enc x1],false⟩] kr ?_;rcases BE (x0.2.2.1==x1.2.2.1) with hc6 | hc6
    ·rw [if_pos hc6] at hj3
     rw [hc6];refine AD (n:=38) AC 7 [(2,.pt 0 0 0),(3,.pt 1 0 0),(31,.v (.bool (x0.2.2.2.2==x1.2.2.2.2)))] [some ⟨5,60,[AA.enc x0],false⟩,some ⟨5,60,[AA.enc x1],false⟩] kr ?_;rcases BE (x0.2.2.2.2==x1.2.2.2.2) with hc7 | hc7
     ·rw [if_pos hc7] at hj3
      rw [hc7];refine AD (n:=38) AC 4 [(31,.v (.bool true)),(33,.sl 1 (x0.2.2.2.1.map cdS.enc)),(35,.sl 1 (x1.2.2.2.1.map cdS.enc))] [some ⟨5,60,[AA.enc x0],false⟩,some ⟨5,60,[AA.enc x1],false⟩] kr ?_;obtain ⟨v1,hv1,hj3⟩:=OB hj3;refine AT (caps:=[]) (xs:=[.sl 1 (x0.2.2.2.1.map cdS.enc),.sl 1 (x1.2.2.2.1.map cdS.enc)]) (u:=(x0.2.2.2.1,x1.2.2.2.1,())) rfl rfl Kr rfl kr kr kr (AM (AX (c:=(cdL 1 cdS)) (v:=x0.2.2.2.1)) (AM (AX (c:=(cdL 1 cdS)) (v:=x1.2.2.2.1)) Aj)) (.inl kr) hv1 ?_;refine AD (n:=38) AC 2 [(4,.v (.bool v1))] [some ⟨5,60,[AA.enc x0],false⟩,some ⟨5,60,[AA.enc x1],false⟩] kr ?_;have hq:=OI hj3; subst hq;exact AI rfl (Ad [] trivial ⟨lv,trivial⟩)
     ·rw [BZ hc7] at hj3
      rw [hc7];refine AD (n:=38) AC 7 [(4,.v (.bool false))] [some ⟨5,60,[AA.enc x0],false⟩,some ⟨5,60,[AA.enc x1],false⟩] kr ?_;have hq:=OI hj3; subst hq;exact AI rfl (Ad [] trivial ⟨lv,trivial⟩)
    ·rw [BZ hc6] at hj3
     rw [hc6];refine AD (n:=38) AC 14 [(4,.v (.bool false))] [some ⟨5,60,[AA.enc x0],false⟩,some ⟨5,60,[AA.enc x1],false⟩] kr ?_;have hq:=OI hj3; subst hq;exact AI rfl (Ad [] trivial ⟨lv,trivial⟩)
   ·rw [BZ hc5] at hj3
    rw [hc5];refine AD (n:=38) AC 21 [(4,.v (.bool false))] [some ⟨5,60,[AA.enc x0],false⟩,some ⟨5,60,[AA.enc x1],false⟩] kr ?_;have hq:=OI hj3; subst hq;exact AI rfl (Ad [] trivial ⟨lv,trivial⟩)
  ·rw [BZ hc4] at hj3
   rw [hc4];refine AD (n:=38) AC 28 [(4,.v (.bool false))] [some ⟨5,60,[AA.enc x0],false⟩,some ⟨5,60,[AA.enc x1],false⟩] kr ?_;have hq:=OI hj3; subst hq;exact AI rfl (Ad [] trivial ⟨lv,trivial⟩)
 refine AQ ?_;have hq:=OI h; subst hq;exact ⟨⟨Fr 38 [(4,.v (.bool j3))],[]⟩,AL,.inr rfl,[.v (.bool j3)],kr,kr⟩
def Ps:List AV->Option AV:=Dx H5 (fun a=>EM a.1 a.2.1) H8
theorem P0:XOk 122 Ps:=by
 refine AU Tryz.func122 (c:=Kz) ?h2 ⟨Tryz.call122⟩ H5 (fun a=>EM a.1 a.2.1) H8 (fun a=>(by show 2<=38; decide)) ?h3 ?h4
 case h2=>kernel_rfl
 case h3=>intro b; kernel_rfl
 case h4=>exact fun a b h=>Ob a.1 a.2.1 b h
/- slices.EqualFunc[[]trestle/api.Clause,[]trestle/api.Clause,trestle/api.Clause,trestle/api.Clause] -/
noncomputable def A7:Code:=BG Tryz.f121
def Ae (x0:(List AG)) (x1:(List AG)):Nat->Int->Option ((Unit) ⊕ (Bool))
 | 0,_=>none
 | f + 1,c2 =>
  if (decide (c2 < (x0.length:Int)))=true then
  (idx x0 c2).bind fun v4 =>
  (idx x1 c2).bind fun v5 =>
  (EM v4 v5).bind fun v6 =>
  if (!v6)=true then
  some (.inr false)
  else
  Ae x0 x1 f (wr .i64 (c2 + 1))
  else
  some (.inl ())
def Aa (x0:(List AG)) (x1:(List AG)):Option (Bool) :=
 if ((x0.length:Int)!=(x1.length:Int))=true then
 some false
 else
 (Ae x0 x1 100000 0).bind fun r9 =>
 match r9 with
 | (.inl _w10) =>
  some true
 | (.inr w11) =>
  some w11
def A8:Cs ((List AG)×(List AG)×Unit×Unit):=(csC (cdL 5 AA) (csC (cdL 5 AA) (csC (cdF 122 csN (fun _=>rfl)) csN)))
def A9 (r:Bool):AV:=cdB.enc r
theorem Bc (x0:(List AG)) (x1:(List AG)):∀ (f:Nat) (c2:Int) (r:(Unit) ⊕ (Bool)),Ae x0 x1 f c2=some r->SemN E0 ⟨none,false⟩ (pc A7 [1,1,0,1,0,0]) f ⟨Fr 32 [(1,.sl 5 (x1.map AA.enc)),(2,.fn 122 [] []),(15,.sl 5 (x0.map AA.enc)),(16,.v (.int .i64 (x0.length:Int))),(17,.v (.int .i64 c2))],[]⟩ (fun e s=>match r with
 | (.inl _w)=>e=(.exit 0)/\Wk E0 s ⟨Fr 32 [],[]⟩
 | (.inr w)=>e = .ret/\Wk E0 s ⟨Fr 32 [(6,.v (.bool w))],[]⟩):=by
 intro f;induction f with
 | zero=>intro c2 r h; cases h
 | succ f ih0 =>
  intro c2 r h
  have ih:=fun (c2:Int)=>ih0 c2 r
  unfold Ae at h;refine BR ?_
  let p1:Nat×AV:=(17,.v (.int .i64 c2))
  let p2:Nat×AV:=(16,.v (.int .i64 (x0.length:Int)))
  let p3:Nat×AV:=(15,.sl 5 (x0.map AA.enc))
  let p4:Nat×AV:=(2,.fn 122 [] [])
  let p5:Nat×AV:=(1,.sl 5 (x1.map AA.enc))
  refine AJ AC [p5,p4,p3,p2,p1,(18,.v (.bool (decide (c2 < (x0.length:Int)))))] [] ?_;refine AF ?_;refine AP (b:=(decide (c2 < (x0.length:Int)))) kr (fun hb3=>?_) (fun hb3=>?_)
  ·rw [if_pos hb3] at h
   refine AS ?_;refine AF ?_;refine AZ ?_;refine AF ?_;obtain ⟨v4,hv4,h⟩:=OB h
   let p6:Option Blk:=some ⟨5,60,[AA.enc v4],false⟩
   refine AK (s1:=⟨Fr 32 [p5,p4,(7,.v (.int .i64 c2)),(8,.pt 0 0 0),p3,p2,p1],[p6]⟩) ?_ ?_
   ·refine AD (n:=32) AC 1 [p5,p4,p3,p2,p1,(19,.v (.int .i64 c2))] [] kr ?_
    refine AR AC 0 rfl (C7 (AB rfl) rfl (AO (a:= .sl 5 (x0.map AA.enc)) (b:= .v (.int .i64 c2)) kr kr (Dn (e:=AA.enc) (el:=60) (k:=5) (ki:= .i64) kr kr hv4))) ?_;exact AW AC
   refine AF ?_;obtain ⟨v5,hv5,h⟩:=OB h
   let p7:Option Blk:=some ⟨5,60,[AA.enc v5],false⟩
   refine AK (s1:=⟨Fr 32 [p5,p4,(8,.pt 0 0 0),(9,.pt 1 0 0),p3,p2,p1],[p6,p7]⟩) ?_ ?_
   ·refine AD (n:=32) AC 2 [p5,p4,(8,.pt 0 0 0),p3,p2,p1,(22,.sl 5 (x1.map AA.enc)),(23,.v (.int .i64 c2))] [p6] kr ?_
    refine AR AC 0 rfl (C7 (AB rfl) rfl (AO (a:= .sl 5 (x1.map AA.enc)) (b:= .v (.int .i64 c2)) kr kr (Dn (e:=AA.enc) (el:=60) (k:=5) (ki:= .i64) kr kr hv5))) ?_;exact AW AC
   refine AF ?_;obtain ⟨v6,hv6,h⟩:=OB h;refine AK (s1:=⟨Fr 32 [p5,p4,p3,p2,p1,(30,.v (.bool (!v6)))],[]⟩) ?_ ?_
   ·refine AD (n:=32) AC 3 [p5,p4,p3,p2,p1,(26,.fn 122 [] []),(27,AA.enc v4),(28,AA.enc v5)] [p6,p7] kr ?_
    refine AT (caps:=[]) (xs:=[AA.enc v4,AA.enc v5]) (u:=(v4,v5,())) rfl rfl P0 rfl (AB rfl) kr kr (AM (AX (c:=AA) (v:=v4)) (AM (AX (c:=AA) (v:=v5)) Aj)) (.inl kr) hv6 ?_;refine AD (n:=32) AC 1 [p5,p4,p3,p2,p1,(30,.v (.bool (!v6)))] [p6,p7] kr ?_;exact AI rfl (Ad [] trivial ⟨lv,lv,lv,lv,lv,lv,trivial⟩)
   refine AP (b:=(!v6)) kr (fun hb7=>?_) (fun hb7=>?_)
   ·rw [if_pos hb7] at h
    refine AJ AC [(6,.v (.bool false))] [] ?_;refine AQ ?_;have hq:=OI h; subst hq;exact ⟨rfl,AL⟩
   ·rw [BZ hb7] at h
    refine AS ?_
    let p8:Nat×AV:=(17,.v (.int .i64 (wr .i64 (c2 + 1))))
    refine Cn AC [p5,p4,p3,p2,p8] [] ?_;exact Ac (s1:=⟨Fr 32 [p5,p4,p3,p2,p8],[]⟩) AL (ih (wr .i64 (c2 + 1)) h)
  ·rw [BZ hb3] at h
   refine Bd ?_;have hq:=OI h; subst hq;exact ⟨rfl,AL⟩
theorem C8 (x0:(List AG)) (x1:(List AG)) (r:Bool) (h:Aa x0 x1=some r):Sem E0 ⟨none,false⟩ A7 ⟨Fr 32 (A3 0 (A8.enc (x0,x1,(),()))),[]⟩ fun e s'=>(e = .normal\/e = .ret)/\∃ xs,EG E0.P s'.fr s'.hp Tryz.f121.results.toList=some xs/\EN xs=A9 r:=by
 unfold Aa at h
 let p1:Nat×AV:=(2,.fn 122 [] [])
 let p2:Nat×AV:=(1,.sl 5 (x1.map AA.enc))
 let p3:Nat×AV:=(0,.sl 5 (x0.map AA.enc))
 refine An (BP (s1:=⟨Fr 32 [p3,p2,p1],[]⟩) AL ?_);refine AJ AC [p3,p2,p1] [] ?_;refine AF ?_;refine AF ?_;refine AK (s1:=⟨Fr 32 [p3,p2,p1,(14,.v (.bool ((x0.length:Int)!=(x1.length:Int))))],[]⟩) ?_ ?_
 ·refine AD (n:=32) AC 1 [p3,p2,p1,(10,.sl 5 (x0.map AA.enc))] [] kr ?_
  refine AR AC 0 rfl (C7 (AB rfl) rfl (Ck (a:= .sl 5 (x0.map AA.enc)) kr (Ba (el:=60) kr))) ?_;refine AD (n:=32) AC 1 [p3,p2,p1,(11,.v (.int .i64 (x0.length:Int))),(12,.sl 5 (x1.map AA.enc))] [] kr ?_;refine AR AC 0 rfl (C7 (AB rfl) rfl (Ck (a:= .sl 5 (x1.map AA.enc)) kr (Ba (el:=60) kr))) ?_;exact AW AC
 refine AP (b:=((x0.length:Int)!=(x1.length:Int))) kr (fun hb1=>?_) (fun hb1=>?_)
 ·rw [if_pos hb1] at h
  refine AJ AC [(6,.v (.bool false))] [] ?_;refine AQ ?_;have hq:=OI h; subst hq;exact ⟨⟨Fr 32 [(6,.v (.bool false))],[]⟩,AL,.inr rfl,[.v (.bool false)],kr,kr⟩
 ·rw [BZ hb1] at h
  refine AS ?_;refine AF ?_;refine AF ?_
  let p4:Nat×AV:=(17,.v (.int .i64 0))
  let p5:Nat×AV:=(16,.v (.int .i64 (x0.length:Int)))
  let p6:Nat×AV:=(15,.sl 5 (x0.map AA.enc))
  refine AK (s1:=⟨Fr 32 [p2,p1,p6,p5,p4],[]⟩) ?_ ?_
  ·refine AD (n:=32) AC 1 [p2,p1,p6] [] kr ?_
   refine AR AC 0 rfl (C7 (AB rfl) rfl (Ck (a:= .sl 5 (x0.map AA.enc)) kr (Ba (el:=60) kr))) ?_;exact AW AC
  refine AZ ?_;obtain ⟨r9,hr9,h⟩:=OB h;refine Bj (n:=100000) ?_;rcases r9 with w10 | w11
  ·try dsimp only at h
   refine Aq (Ac (s1:=⟨Fr 32 [p2,p1,p6,p5,p4],[]⟩) AL (Bc x0 x1 _ 0 _ hr9)) ?_;refine AJ AC [(6,.v (.bool true))] [] ?_;refine AQ ?_;have hq:=OI h; subst hq;exact ⟨⟨Fr 32 [(6,.v (.bool true))],[]⟩,AL,.inr rfl,[.v (.bool true)],kr,kr⟩
  ·try dsimp only at h
   refine Aq (Ac (s1:=⟨Fr 32 [p2,p1,p6,p5,p4],[]⟩) AL (Bc x0 x1 _ 0 _ hr9)) ?_;have hq:=OI h; subst hq;exact ⟨⟨Fr 32 [(6,.v (.bool w11))],[]⟩,AL,.inr rfl,[.v (.bool w11)],kr,kr⟩
def DG:List AV->Option AV:=Dx A8 (fun a=>Aa a.1 a.2.1) A9
theorem DI:XOk 121 DG:=by
 refine AU Tryz.func121 (c:=A7) ?h2 ⟨Tryz.call121⟩ A8 (fun a=>Aa a.1 a.2.1) A9 (fun a=>(by show 3<=32; decide)) ?h3 ?h4
 case h2=>kernel_rfl
 case h3=>intro b; kernel_rfl
 case h4=>exact fun a b h=>C8 a.1 a.2.1 b h
/- trestle/trestlelaw03.Same -/
noncomputable def PQ:Code:=BG Tryz.f69
def JL (x0:(List AG)) (x1:(List AG)):Option (Bool) :=
 (Aa x0 x1).bind fun v1 =>
 some v1
def Mg:Cs ((List AG)×(List AG)×Unit):=(csC (cdL 5 AA) (csC (cdL 5 AA) csN))
def Mo (r:Bool):AV:=cdB.enc r
theorem TQ (x0:(List AG)) (x1:(List AG)) (r:Bool) (h:JL x0 x1=some r):Sem E0 ⟨none,false⟩ PQ ⟨Fr 8 (A3 0 (Mg.enc (x0,x1,()))),[]⟩ fun e s'=>(e = .normal\/e = .ret)/\∃ xs,EG E0.P s'.fr s'.hp Tryz.f69.results.toList=some xs/\EN xs=Mo r:=by
 unfold JL at h
 let p1:Nat×AV:=(1,.sl 5 (x1.map AA.enc))
 let p2:Nat×AV:=(0,.sl 5 (x0.map AA.enc))
 refine An (BP (s1:=⟨Fr 8 [p2,p1],[]⟩) AL ?_);refine AJ AC [p2,p1] [] ?_;refine AF ?_;obtain ⟨v1,hv1,h⟩:=OB h;refine AK (s1:=⟨Fr 8 [(4,.v (.bool v1))],[]⟩) ?_ ?_
 ·refine AD (n:=8) AC 2 [(5,.sl 5 (x0.map AA.enc)),(6,.sl 5 (x1.map AA.enc))] [] kr ?_
  refine AT (caps:=[]) (xs:=[.sl 5 (x0.map AA.enc),.sl 5 (x1.map AA.enc),.fn 122 [] []]) (u:=(x0,x1,(),())) rfl rfl DI rfl (AB rfl) kr kr (AM (AX (c:=(cdL 5 AA)) (v:=x0)) (AM (AX (c:=(cdL 5 AA)) (v:=x1)) (AM (Sm.fn Aj) Aj))) (.inl kr) hv1 ?_;exact AW AC
 refine AQ ?_;have hq:=OI h; subst hq;exact ⟨⟨Fr 8 [(4,.v (.bool v1))],[]⟩,AL,.inr rfl,[.v (.bool v1)],kr,kr⟩
def Va:List AV->Option AV:=Dx Mg (fun a=>JL a.1 a.2.1) Mo
theorem Vn:XOk 69 Va:=by
 refine AU Tryz.func69 (c:=PQ) ?h2 ⟨Tryz.call69⟩ Mg (fun a=>JL a.1 a.2.1) Mo (fun a=>(by show 2<=8; decide)) ?h3 ?h4
 case h2=>kernel_rfl
 case h3=>intro b; kernel_rfl
 case h4=>exact fun a b h=>TQ a.1 a.2.1 b h
/- slices.EqualFunc[[][]trestle/api.Clause,[][]trestle/api.Clause,[]trestle/api.Clause,[]trestle/api.Clause] -/
noncomputable def BL:Code:=BG Tryz.f143
def AN (x0:(List (List AG))) (x1:(List (List AG))):Nat->Int->Option ((Unit) ⊕ (Bool))
 | 0,_=>none
 | f + 1,c2 =>
  if (decide (c2 < (x0.length:Int)))=true then
  (idx x0 c2).bind fun v4 =>
  (idx x1 c2).bind fun v5 =>
  (JL v4 v5).bind fun v6 =>
  if (!v6)=true then
  some (.inr false)
  else
  AN x0 x1 f (wr .i64 (c2 + 1))
  else
  some (.inl ())
def Ab (x0:(List (List AG))) (x1:(List (List AG))):Option (Bool) :=
 if ((x0.length:Int)!=(x1.length:Int))=true then
 some false
 else
 (AN x0 x1 100000 0).bind fun r9 =>
 match r9 with
 | (.inl _w10) =>
  some true
 | (.inr w11) =>
  some w11
def BM:Cs ((List (List AG))×(List (List AG))×Unit×Unit):=(csC (cdL 1 (cdL 5 AA)) (csC (cdL 1 (cdL 5 AA)) (csC (cdF 69 csN (fun _=>rfl)) csN)))
def BN (r:Bool):AV:=cdB.enc r
theorem Bo (x0:(List (List AG))) (x1:(List (List AG))):∀ (f:Nat) (c2:Int) (r:(Unit) ⊕ (Bool)),AN x0 x1 f c2=some r->SemN E0 ⟨none,false⟩ (pc BL [1,1,0,1,0,0]) f ⟨Fr 32 [(1,.sl 1 (x1.map (cdL 5 AA).enc)),(2,.fn 69 [] []),(15,.sl 1 (x0.map (cdL 5 AA).enc)),(16,.v (.int .i64 (x0.length:Int))),(17,.v (.int .i64 c2))],[]⟩ (fun e s=>match r with
 | (.inl _w)=>e=(.exit 0)/\Wk E0 s ⟨Fr 32 [],[]⟩
 | (.inr w)=>e = .ret/\Wk E0 s ⟨Fr 32 [(6,.v (.bool w))],[]⟩):=by
 intro f;induction f with
 | zero=>intro c2 r h; cases h
 | succ f ih0 =>
  intro c2 r h
  have ih:=fun (c2:Int)=>ih0 c2 r
  unfold AN at h;refine BR ?_
  let p1:Nat×AV:=(17,.v (.int .i64 c2))
  let p2:Nat×AV:=(16,.v (.int .i64 (x0.length:Int)))
  let p3:Nat×AV:=(15,.sl 1 (x0.map (cdL 5 AA).enc))
  let p4:Nat×AV:=(2,.fn 69 [] [])
  let p5:Nat×AV:=(1,.sl 1 (x1.map (cdL 5 AA).enc))
  refine AJ AC [p5,p4,p3,p2,p1,(18,.v (.bool (decide (c2 < (x0.length:Int)))))] [] ?_;refine AF ?_;refine AP (b:=(decide (c2 < (x0.length:Int)))) kr (fun hb3=>?_) (fun hb3=>?_)
  ·rw [if_pos hb3] at h
   refine AS ?_;refine AF ?_;refine AZ ?_;refine AF ?_;obtain ⟨v4,hv4,h⟩:=OB h
   let p6:Nat×AV:=(8,.sl 5 (v4.map AA.enc))
   refine AK (s1:=⟨Fr 32 [p5,p4,(7,.v (.int .i64 c2)),p6,p3,p2,p1],[]⟩) ?_ ?_
   ·refine AD (n:=32) AC 1 [p5,p4,p3,p2,p1,(19,.v (.int .i64 c2))] [] kr ?_
    refine AR AC 0 rfl (C7 (AB rfl) rfl (AO (a:= .sl 1 (x0.map (cdL 5 AA).enc)) (b:= .v (.int .i64 c2)) kr kr (Dn (e:=(cdL 5 AA).enc) (el:=22) (k:=1) (ki:= .i64) kr kr hv4))) ?_;exact AW AC
   refine AF ?_;obtain ⟨v5,hv5,h⟩:=OB h;refine AK (s1:=⟨Fr 32 [p5,p4,p6,(9,.sl 5 (v5.map AA.enc)),p3,p2,p1],[]⟩) ?_ ?_
   ·refine AD (n:=32) AC 2 [p5,p4,p6,p3,p2,p1,(22,.sl 1 (x1.map (cdL 5 AA).enc)),(23,.v (.int .i64 c2))] [] kr ?_
    refine AR AC 0 rfl (C7 (AB rfl) rfl (AO (a:= .sl 1 (x1.map (cdL 5 AA).enc)) (b:= .v (.int .i64 c2)) kr kr (Dn (e:=(cdL 5 AA).enc) (el:=22) (k:=1) (ki:= .i64) kr kr hv5))) ?_;exact AW AC
   refine AF ?_;obtain ⟨v6,hv6,h⟩:=OB h;refine AK (s1:=⟨Fr 32 [p5,p4,p3,p2,p1,(30,.v (.bool (!v6)))],[]⟩) ?_ ?_
   ·refine AD (n:=32) AC 3 [p5,p4,p3,p2,p1,(26,.fn 69 [] []),(27,.sl 5 (v4.map AA.enc)),(28,.sl 5 (v5.map AA.enc))] [] kr ?_
    refine AT (caps:=[]) (xs:=[.sl 5 (v4.map AA.enc),.sl 5 (v5.map AA.enc)]) (u:=(v4,v5,())) rfl rfl Vn rfl (AB rfl) kr kr (AM (AX (c:=(cdL 5 AA)) (v:=v4)) (AM (AX (c:=(cdL 5 AA)) (v:=v5)) Aj)) (.inl kr) hv6 ?_;exact AW AC
   refine AP (b:=(!v6)) kr (fun hb7=>?_) (fun hb7=>?_)
   ·rw [if_pos hb7] at h
    refine AJ AC [(6,.v (.bool false))] [] ?_;refine AQ ?_;have hq:=OI h; subst hq;exact ⟨rfl,AL⟩
   ·rw [BZ hb7] at h
    refine AS ?_
    let p7:Nat×AV:=(17,.v (.int .i64 (wr .i64 (c2 + 1))))
    refine Cn AC [p5,p4,p3,p2,p7] [] ?_;exact Ac (s1:=⟨Fr 32 [p5,p4,p3,p2,p7],[]⟩) AL (ih (wr .i64 (c2 + 1)) h)
  ·rw [BZ hb3] at h
   refine Bd ?_;have hq:=OI h; subst hq;exact ⟨rfl,AL⟩
theorem DP (x0:(List (List AG))) (x1:(List (List AG))) (r:Bool) (h:Ab x0 x1=some r):Sem E0 ⟨none,false⟩ BL ⟨Fr 32 (A3 0 (BM.enc (x0,x1,(),()))),[]⟩ fun e s'=>(e = .normal\/e = .ret)/\∃ xs,EG E0.P s'.fr s'.hp Tryz.f143.results.toList=some xs/\EN xs=BN r:=by
 unfold Ab at h
 let p1:Nat×AV:=(2,.fn 69 [] [])
 let p2:Nat×AV:=(1,.sl 1 (x1.map (cdL 5 AA).enc))
 let p3:Nat×AV:=(0,.sl 1 (x0.map (cdL 5 AA).enc))
 refine An (BP (s1:=⟨Fr 32 [p3,p2,p1],[]⟩) AL ?_);refine AJ AC [p3,p2,p1] [] ?_;refine AF ?_;refine AF ?_;refine AK (s1:=⟨Fr 32 [p3,p2,p1,(14,.v (.bool ((x0.length:Int)!=(x1.length:Int))))],[]⟩) ?_ ?_
 ·refine AD (n:=32) AC 1 [p3,p2,p1,(10,.sl 1 (x0.map (cdL 5 AA).enc))] [] kr ?_
  refine AR AC 0 rfl (C7 (AB rfl) rfl (Ck (a:= .sl 1 (x0.map (cdL 5 AA).enc)) kr (Ba (el:=22) kr))) ?_;refine AD (n:=32) AC 1 [p3,p2,p1,(11,.v (.int .i64 (x0.length:Int))),(12,.sl 1 (x1.map (cdL 5 AA).enc))] [] kr ?_;refine AR AC 0 rfl (C7 (AB rfl) rfl (Ck (a:= .sl 1 (x1.map (cdL 5 AA).enc)) kr (Ba (el:=22) kr))) ?_;exact AW AC
 refine AP (b:=((x0.length:Int)!=(x1.length:Int))) kr (fun hb1=>?_) (fun hb1=>?_)
 ·rw [if_pos hb1] at h
  refine AJ AC [(6,.v (.bool false))] [] ?_;refine AQ ?_;have hq:=OI h; subst hq;exact ⟨⟨Fr 32 [(6,.v (.bool false))],[]⟩,AL,.inr rfl,[.v (.bool false)],kr,kr⟩
 ·rw [BZ hb1] at h
  refine AS ?_;refine AF ?_;refine AF ?_
  let p4:Nat×AV:=(17,.v (.int .i64 0))
  let p5:Nat×AV:=(16,.v (.int .i64 (x0.length:Int)))
  let p6:Nat×AV:=(15,.sl 1 (x0.map (cdL 5 AA).enc))
  refine AK (s1:=⟨Fr 32 [p2,p1,p6,p5,p4],[]⟩) ?_ ?_
  ·refine AD (n:=32) AC 1 [p2,p1,p6] [] kr ?_
   refine AR AC 0 rfl (C7 (AB rfl) rfl (Ck (a:= .sl 1 (x0.map (cdL 5 AA).enc)) kr (Ba (el:=22) kr))) ?_;exact AW AC
  refine AZ ?_;obtain ⟨r9,hr9,h⟩:=OB h;refine Bj (n:=100000) ?_;rcases r9 with w10 | w11
  ·try dsimp only at h
   refine Aq (Ac (s1:=⟨Fr 32 [p2,p1,p6,p5,p4],[]⟩) AL (Bo x0 x1 _ 0 _ hr9)) ?_;refine AJ AC [(6,.v (.bool true))] [] ?_;refine AQ ?_;have hq:=OI h; subst hq;exact ⟨⟨Fr 32 [(6,.v (.bool true))],[]⟩,AL,.inr rfl,[.v (.bool true)],kr,kr⟩
  ·try dsimp only at h
   refine Aq (Ac (s1:=⟨Fr 32 [p2,p1,p6,p5,p4],[]⟩) AL (Bo x0 x1 _ 0 _ hr9)) ?_;have hq:=OI h; subst hq;exact ⟨⟨Fr 32 [(6,.v (.bool w11))],[]⟩,AL,.inr rfl,[.v (.bool w11)],kr,kr⟩
def De:List AV->Option AV:=Dx BM (fun a=>Ab a.1 a.2.1) BN
theorem Df:XOk 143 De:=by
 refine AU Tryz.func143 (c:=BL) ?h2 ⟨Tryz.call143⟩ BM (fun a=>Ab a.1 a.2.1) BN (fun a=>(by show 3<=32; decide)) ?h3 ?h4
 case h2=>kernel_rfl
 case h3=>intro b; kernel_rfl
 case h4=>exact fun a b h=>DP a.1 a.2.1 b h
/- trestle/trestlelaw03.SameAll -/
noncomputable def NI:Code:=BG Tryz.f94
def G4 (x0:(List (List AG))) (x1:(List (List AG))):Option (Bool) :=
 (Ab x0 x1).bind fun v1 =>
 some v1
def KE:Cs ((List (List AG))×(List (List AG))×Unit):=(csC (cdL 1 (cdL 5 AA)) (csC (cdL 1 (cdL 5 AA)) csN))
def KZ (r:Bool):AV:=cdB.enc r
theorem QV (x0:(List (List AG))) (x1:(List (List AG))) (r:Bool) (h:G4 x0 x1=some r):Sem E0 ⟨none,false⟩ NI ⟨Fr 8 (A3 0 (KE.enc (x0,x1,()))),[]⟩ fun e s'=>(e = .normal\/e = .ret)/\∃ xs,EG E0.P s'.fr s'.hp Tryz.f94.results.toList=some xs/\EN xs=KZ r:=by
 unfold G4 at h
 let p1:Nat×AV:=(1,.sl 1 (x1.map (cdL 5 AA).enc))
 let p2:Nat×AV:=(0,.sl 1 (x0.map (cdL 5 AA).enc))
 refine An (BP (s1:=⟨Fr 8 [p2,p1],[]⟩) AL ?_);refine AJ AC [p2,p1] [] ?_;refine AF ?_;obtain ⟨v1,hv1,h⟩:=OB h;refine AK (s1:=⟨Fr 8 [(4,.v (.bool v1))],[]⟩) ?_ ?_
 ·refine AD (n:=8) AC 2 [(5,.sl 1 (x0.map (cdL 5 AA).enc)),(6,.sl 1 (x1.map (cdL 5 AA).enc))] [] kr ?_
  refine AT (caps:=[]) (xs:=[.sl 1 (x0.map (cdL 5 AA).enc),.sl 1 (x1.map (cdL 5 AA).enc),.fn 69 [] []]) (u:=(x0,x1,(),())) rfl rfl Df rfl (AB rfl) kr kr (AM (AX (c:=(cdL 1 (cdL 5 AA))) (v:=x0)) (AM (AX (c:=(cdL 1 (cdL 5 AA))) (v:=x1)) (AM (Sm.fn Aj) Aj))) (.inl kr) hv1 ?_;exact AW AC
 refine AQ ?_;have hq:=OI h; subst hq;exact ⟨⟨Fr 8 [(4,.v (.bool v1))],[]⟩,AL,.inr rfl,[.v (.bool v1)],kr,kr⟩
def Sr:List AV->Option AV:=Dx KE (fun a=>G4 a.1 a.2.1) KZ
theorem TE:XOk 94 Sr:=by
 refine AU Tryz.func94 (c:=NI) ?h2 ⟨Tryz.call94⟩ KE (fun a=>G4 a.1 a.2.1) KZ (fun a=>(by show 2<=8; decide)) ?h3 ?h4
 case h2=>kernel_rfl
 case h3=>intro b; kernel_rfl
 case h4=>exact fun a b h=>QV a.1 a.2.1 b h
/- trestle/trestlekit.SameWords -/
noncomputable def Ju:Code:=BG Tryz.f152
def EL (x0:(List (List UInt8))) (x1:(List (List UInt8))):Nat->Int->Option ((Unit) ⊕ (Bool))
 | 0,_=>none
 | f + 1,c2 =>
  if (decide (c2 < (x0.length:Int)))=true then
  (idx x0 c2).bind fun v4 =>
  (idx x1 c2).bind fun v5 =>
  if (!(v4==v5))=true then
  some (.inr false)
  else
  EL x0 x1 f (wr .i64 (c2 + 1))
  else
  some (.inl ())
def G0 (x0:(List (List UInt8))) (x1:(List (List UInt8))):Option (Bool) :=
 if ((x0.length:Int)!=(x1.length:Int))=true then
 some false
 else
 (EL x0 x1 200000000000000 0).bind fun r8 =>
 match r8 with
 | (.inl _w9) =>
  some true
 | (.inr w10) =>
  some w10
def KB:Cs ((List (List UInt8))×(List (List UInt8))×Unit):=(csC (cdL 1 cdS) (csC (cdL 1 cdS) csN))
def KW (r:Bool):AV:=cdB.enc r
theorem LJ (x0:(List (List UInt8))) (x1:(List (List UInt8))):∀ (f:Nat) (c2:Int) (r:(Unit) ⊕ (Bool)),EL x0 x1 f c2=some r->SemN E0 ⟨none,false⟩ (pc Ju [1,1,0,1,0,0]) f ⟨Fr 26 [(0,.sl 1 (x0.map cdS.enc)),(1,.sl 1 (x1.map cdS.enc)),(5,.v (.int .i64 c2))],[]⟩ (fun e s=>match r with
 | (.inl _w)=>e=(.exit 0)/\Wk E0 s ⟨Fr 26 [],[]⟩
 | (.inr w)=>e = .ret/\Wk E0 s ⟨Fr 26 [(4,.v (.bool w))],[]⟩):=by
 intro f;induction f with
 | zero=>intro c2 r h; cases h
 | succ f ih0 =>
  intro c2 r h
  have ih:=fun (c2:Int)=>ih0 c2 r
  unfold EL at h;refine BR ?_;refine AF ?_;refine AF ?_
  let p1:Nat×AV:=(5,.v (.int .i64 c2))
  let p2:Nat×AV:=(1,.sl 1 (x1.map cdS.enc))
  let p3:Nat×AV:=(0,.sl 1 (x0.map cdS.enc))
  refine AK (s1:=⟨Fr 26 [p3,p2,p1,(14,.v (.bool (decide (c2 < (x0.length:Int)))))],[]⟩) ?_ ?_
  ·refine AD (n:=26) AC 2 [p3,p2,p1,(11,.v (.int .i64 c2)),(12,.sl 1 (x0.map cdS.enc))] [] kr ?_
   refine AR AC 0 rfl (C7 (AB rfl) rfl (Ck (a:= .sl 1 (x0.map cdS.enc)) kr (Ba (el:=9) kr))) ?_;exact AW AC
  refine AP (b:=(decide (c2 < (x0.length:Int)))) kr (fun hb3=>?_) (fun hb3=>?_)
  ·rw [if_pos hb3] at h
   refine AS ?_;refine AF ?_;refine AZ ?_;refine AF ?_;obtain ⟨v4,hv4,h⟩:=OB h;obtain ⟨v5,hv5,h⟩:=OB h;refine DL AC (s1:=⟨Fr 26 [p3,p2,p1,(25,.v (.bool (!(v4==v5))))],[]⟩) kr ?_ ?_
   ·refine AY (n:=26) AC 2 [p3,p2,p1,(17,.sl 1 (x0.map cdS.enc)),(18,.v (.int .i64 c2))] [] kr kr ?_
    refine RunDS.one AC rfl kr (HK kr (AB rfl) rfl (AO (a:= .sl 1 (x0.map cdS.enc)) (b:= .v (.int .i64 c2)) kr kr (Dn (e:=cdS.enc) (el:=9) (k:=1) (ki:= .i64) kr kr hv4)) kr) ?_;refine AY (n:=26) AC 3 [p3,p2,p1,(20,.st v4),(21,.sl 1 (x1.map cdS.enc)),(22,.v (.int .i64 c2))] [] kr kr ?_;refine RunDS.one AC rfl kr (HK kr (AB rfl) rfl (AO (a:= .sl 1 (x1.map cdS.enc)) (b:= .v (.int .i64 c2)) kr kr (Dn (e:=cdS.enc) (el:=9) (k:=1) (ki:= .i64) kr kr hv5)) kr) ?_;refine AY (n:=26) AC 2 [p3,p2,p1,(25,.v (.bool (!(v4==v5))))] [] kr kr ?_;exact RunDS.done rfl AL
   refine AP (b:=(!(v4==v5))) kr (fun hb6=>?_) (fun hb6=>?_)
   ·rw [if_pos hb6] at h
    refine AJ AC [(4,.v (.bool false))] [] ?_;refine AQ ?_;have hq:=OI h; subst hq;exact ⟨rfl,AL⟩
   ·rw [BZ hb6] at h
    refine AS ?_
    let p4:Nat×AV:=(5,.v (.int .i64 (wr .i64 (c2 + 1))))
    refine Cn AC [p3,p2,p4] [] ?_;exact Ac (s1:=⟨Fr 26 [p3,p2,p4],[]⟩) AL (ih (wr .i64 (c2 + 1)) h)
  ·rw [BZ hb3] at h
   refine Bd ?_;have hq:=OI h; subst hq;exact ⟨rfl,AL⟩
theorem QS (x0:(List (List UInt8))) (x1:(List (List UInt8))) (r:Bool) (h:G0 x0 x1=some r):Sem E0 ⟨none,false⟩ Ju ⟨Fr 26 (A3 0 (KB.enc (x0,x1,()))),[]⟩ fun e s'=>(e = .normal\/e = .ret)/\∃ xs,EG E0.P s'.fr s'.hp Tryz.f152.results.toList=some xs/\EN xs=KW r:=by
 unfold G0 at h
 let p1:Nat×AV:=(1,.sl 1 (x1.map cdS.enc))
 let p2:Nat×AV:=(0,.sl 1 (x0.map cdS.enc))
 refine An (BP (s1:=⟨Fr 26 [p2,p1],[]⟩) AL ?_);refine AJ AC [p2,p1] [] ?_;refine AF ?_;refine AF ?_;refine AK (s1:=⟨Fr 26 [p2,p1,(10,.v (.bool ((x0.length:Int)!=(x1.length:Int))))],[]⟩) ?_ ?_
 ·refine AD (n:=26) AC 1 [p2,p1,(6,.sl 1 (x0.map cdS.enc))] [] kr ?_
  refine AR AC 0 rfl (C7 (AB rfl) rfl (Ck (a:= .sl 1 (x0.map cdS.enc)) kr (Ba (el:=9) kr))) ?_;refine AD (n:=26) AC 1 [p2,p1,(7,.v (.int .i64 (x0.length:Int))),(8,.sl 1 (x1.map cdS.enc))] [] kr ?_;refine AR AC 0 rfl (C7 (AB rfl) rfl (Ck (a:= .sl 1 (x1.map cdS.enc)) kr (Ba (el:=9) kr))) ?_;exact AW AC
 refine AP (b:=((x0.length:Int)!=(x1.length:Int))) kr (fun hb1=>?_) (fun hb1=>?_)
 ·rw [if_pos hb1] at h
  refine AJ AC [(4,.v (.bool false))] [] ?_;refine AQ ?_;have hq:=OI h; subst hq;exact ⟨⟨Fr 26 [(4,.v (.bool false))],[]⟩,AL,.inr rfl,[.v (.bool false)],kr,kr⟩
 ·rw [BZ hb1] at h
  refine AS ?_;refine AF ?_
  let p3:Nat×AV:=(5,.v (.int .i64 0))
  refine AJ AC [p2,p1,p3] [] ?_;refine AZ ?_;obtain ⟨r8,hr8,h⟩:=OB h;refine Bj (n:=200000000000000) ?_;rcases r8 with w9 | w10
  ·try dsimp only at h
   refine Aq (Ac (s1:=⟨Fr 26 [p2,p1,p3],[]⟩) AL (LJ x0 x1 _ 0 _ hr8)) ?_;refine AJ AC [(4,.v (.bool true))] [] ?_;refine AQ ?_;have hq:=OI h; subst hq;exact ⟨⟨Fr 26 [(4,.v (.bool true))],[]⟩,AL,.inr rfl,[.v (.bool true)],kr,kr⟩
  ·try dsimp only at h
   refine Aq (Ac (s1:=⟨Fr 26 [p2,p1,p3],[]⟩) AL (LJ x0 x1 _ 0 _ hr8)) ?_;have hq:=OI h; subst hq;exact ⟨⟨Fr 26 [(4,.v (.bool w10))],[]⟩,AL,.inr rfl,[.v (.bool w10)],kr,kr⟩
def So:List AV->Option AV:=Dx KB (fun a=>G0 a.1 a.2.1) KW
theorem TB:XOk 152 So:=by
 refine AU Tryz.func152 (c:=Ju) ?h2 ⟨Tryz.call152⟩ KB (fun a=>G0 a.1 a.2.1) KW (fun a=>(by show 2<=26; decide)) ?h3 ?h4
 case h2=>kernel_rfl
 case h3=>intro b; kernel_rfl
 case h4=>exact fun a b h=>QS a.1 a.2.1 b h
/- trestle/trestlekit.SameGuest -/
noncomputable def NG:Code:=BG Tryz.f123
def Gz (x0:Ai) (x1:Ai):Option (Bool) :=
 (if (x0.1==x1.1)=true then if (x0.2.1==x1.2.1)=true then if (x0.2.2.1==x1.2.2.1)=true then if (x0.2.2.2.1==x1.2.2.2.1)=true then if (x0.2.2.2.2.1==x1.2.2.2.2.1)=true then if (x0.2.2.2.2.2.1==x1.2.2.2.2.2.1)=true then if (x0.2.2.2.2.2.2.1==x1.2.2.2.2.2.2.1)=true then if (x0.2.2.2.2.2.2.2.1==x1.2.2.2.2.2.2.2.1)=true then (G0 x0.2.2.2.2.2.2.2.2 x1.2.2.2.2.2.2.2.2).bind fun v1 =>
 some v1 else some false else some false else some false else some false else some false else some false else some false else some false).bind fun j3 =>
 some j3
def KA:Cs (Ai×Ai×Unit):=(csC AE (csC AE csN))
def KV (r:Bool):AV:=cdB.enc r
theorem QR (x0:Ai) (x1:Ai) (r:Bool) (h:Gz x0 x1=some r):Sem E0 ⟨none,false⟩ NG ⟨Fr 66 (A3 0 (KA.enc (x0,x1,()))),[]⟩ fun e s'=>(e = .normal\/e = .ret)/\∃ xs,EG E0.P s'.fr s'.hp Tryz.f123.results.toList=some xs/\EN xs=KV r:=by
 unfold Gz at h;refine An (BP (s1:=⟨Fr 66 [(0,AE.enc x0),(1,AE.enc x1)],[]⟩) AL ?_);refine AJ AC [(2,.pt 0 0 0),(3,.pt 1 0 0)] [some ⟨9,42,[AE.enc x0],false⟩,some ⟨9,42,[AE.enc x1],false⟩] ?_;refine AF ?_;obtain ⟨j3,hj3,h⟩:=OB h;refine AK (s1:=⟨Fr 66 [(4,.v (.bool j3))],[]⟩) ?_ ?_
 ·refine AD (n:=66) AC 6 [(2,.pt 0 0 0),(3,.pt 1 0 0),(10,.v (.bool (x0.1==x1.1)))] [some ⟨9,42,[AE.enc x0],false⟩,some ⟨9,42,[AE.enc x1],false⟩] kr ?_
  rcases BE (x0.1==x1.1) with hc4 | hc4
  ·rw [if_pos hc4] at hj3
   rw [hc4];refine AD (n:=66) AC 7 [(2,.pt 0 0 0),(3,.pt 1 0 0),(17,.v (.bool (x0.2.1==x1.2.1)))] [some ⟨9,42,[AE.enc x0],false⟩,some ⟨9,42,[AE.enc x1],false⟩] kr ?_;rcases BE (x0.2.1==x1.2.1) with hc5 | hc5
   ·rw [if_pos hc5] at hj3
    rw [hc5];refine AD (n:=66) AC 7 [(2,.pt 0 0 0),(3,.pt 1 0 0),(24,.v (.bool (x0.2.2.1==x1.2.2.1)))] [some ⟨9,42,[AE.enc x0],false⟩,some ⟨9,42,[AE.enc x1],false⟩] kr ?_;rcases BE (x0.2.2.1==x1.2.2.1) with hc6 | hc6
    ·rw [if_pos hc6] at hj3
     rw [hc6];refine AD (n:=66) AC 7 [(2,.pt 0 0 0),(3,.pt 1 0 0),(31,.v (.bool (x0.2.2.2.1==x1.2.2.2.1)))] [some ⟨9,42,[AE.enc x0],false⟩,some ⟨9,42,[AE.enc x1],false⟩] kr ?_;rcases BE (x0.2.2.2.1==x1.2.2.2.1) with hc7 | hc7
     ·rw [if_pos hc7] at hj3
      rw [hc7];refine AD (n:=66) AC 7 [(2,.pt 0 0 0),(3,.pt 1 0 0),(38,.v (.bool (x0.2.2.2.2.1==x1.2.2.2.2.1)))] [some ⟨9,42,[AE.enc x0],false⟩,some ⟨9,42,[AE.enc x1],false⟩] kr ?_;rcases BE (x0.2.2.2.2.1==x1.2.2.2.2.1) with hc8 | hc8
      ·rw [if_pos hc8] at hj3
       rw [hc8];refine AD (n:=66) AC 7 [(2,.pt 0 0 0),(3,.pt 1 0 0),(45,.v (.bool (x0.2.2.2.2.2.1==x1.2.2.2.2.2.1)))] [some ⟨9,42,[AE.enc x0],false⟩,some ⟨9,42,[AE.enc x1],false⟩] kr ?_;rcases BE (x0.2.2.2.2.2.1==x1.2.2.2.2.2.1) with hc9 | hc9
       ·rw [if_pos hc9] at hj3
        rw [hc9];refine AD (n:=66) AC 7 [(2,.pt 0 0 0),(3,.pt 1 0 0),(52,.v (.bool (x0.2.2.2.2.2.2.1==x1.2.2.2.2.2.2.1)))] [some ⟨9,42,[AE.enc x0],false⟩,some ⟨9,42,[AE.enc x1],false⟩] kr ?_;rcases BE (x0.2.2.2.2.2.2.1==x1.2.2.2.2.2.2.1) with hc10 | hc10
        ·rw [if_pos hc10] at hj3
         rw [hc10];refine AD (n:=66) AC 7 [(2,.pt 0 0 0),(3,.pt 1 0 0),(59,.v (.bool (x0.2.2.2.2.2.2.2.1==x1.2.2.2.2.2.2.2.1)))] [some ⟨9,42,[AE.enc x0],false⟩,some ⟨9,42,[AE.enc x1],false⟩] kr ?_;rcases BE (x0.2.2.2.2.2.2.2.1==x1.2.2.2.2.2.2.2.1) with hc11 | hc11
         ·rw [if_pos hc11] at hj3
          rw [hc11];refine AD (n:=66) AC 4 [(59,.v (.bool true)),(61,.sl 1 (x0.2.2.2.2.2.2.2.2.map cdS.enc)),(63,.sl 1 (x1.2.2.2.2.2.2.2.2.map cdS.enc))] [some ⟨9,42,[AE.enc x0],false⟩,some ⟨9,42,[AE.enc x1],false⟩] kr ?_;obtain ⟨v1,hv1,hj3⟩:=OB hj3;refine AT (caps:=[]) (xs:=[.sl 1 (x0.2.2.2.2.2.2.2.2.map cdS.enc),.sl 1 (x1.2.2.2.2.2.2.2.2.map cdS.enc)]) (u:=(x0.2.2.2.2.2.2.2.2,x1.2.2.2.2.2.2.2.2,())) rfl rfl TB rfl kr kr kr (AM (AX (c:=(cdL 1 cdS)) (v:=x0.2.2.2.2.2.2.2.2)) (AM (AX (c:=(cdL 1 cdS)) (v:=x1.2.2.2.2.2.2.2.2)) Aj)) (.inl kr) hv1 ?_;refine AD (n:=66) AC 2 [(4,.v (.bool v1))] [some ⟨9,42,[AE.enc x0],false⟩,some ⟨9,42,[AE.enc x1],false⟩] kr ?_;have hq:=OI hj3; subst hq;exact AI rfl (Ad [] trivial ⟨lv,trivial⟩)
         ·rw [BZ hc11] at hj3
          rw [hc11];refine AD (n:=66) AC 7 [(4,.v (.bool false))] [some ⟨9,42,[AE.enc x0],false⟩,some ⟨9,42,[AE.enc x1],false⟩] kr ?_;have hq:=OI hj3; subst hq;exact AI rfl (Ad [] trivial ⟨lv,trivial⟩)
        ·rw [BZ hc10] at hj3
         rw [hc10];refine AD (n:=66) AC 14 [(4,.v (.bool false))] [some ⟨9,42,[AE.enc x0],false⟩,some ⟨9,42,[AE.enc x1],false⟩] kr ?_;have hq:=OI hj3; subst hq;exact AI rfl (Ad [] trivial ⟨lv,trivial⟩)
       ·rw [BZ hc9] at hj3
        rw [hc9];refine AD (n:=66) AC 21 [(4,.v (.bool false))] [some ⟨9,42,[AE.enc x0],false⟩,some ⟨9,42,[AE.enc x1],false⟩] kr ?_;have hq:=OI hj3; subst hq;exact AI rfl (Ad [] trivial ⟨lv,trivial⟩)
      ·rw [BZ hc8] at hj3
       rw [hc8];refine AD (n:=66) AC 28 [(4,.v (.bool false))] [some ⟨9,42,[AE.enc x0],false⟩,some ⟨9,42,[AE.enc x1],false⟩] kr ?_;have hq:=OI hj3; subst hq;exact AI rfl (Ad [] trivial ⟨lv,trivial⟩)
     ·rw [BZ hc7] at hj3
      rw [hc7];refine AD (n:=66) AC 35 [(4,.v (.bool false))] [some ⟨9,42,[AE.enc x0],false⟩,some ⟨9,42,[AE.enc x1],false⟩] kr ?_;have hq:=OI hj3; subst hq;exact AI rfl (Ad [] trivial ⟨lv,trivial⟩)
    ·rw [BZ hc6] at hj3
     rw [hc6];refine AD (n:=66) AC 42 [(4,.v (.bool false))] [some ⟨9,42,[AE.enc x0],false⟩,some ⟨9,42,[AE.enc x1],false⟩] kr ?_;have hq:=OI hj3; subst hq;exact AI rfl (Ad [] trivial ⟨lv,trivial⟩)
   ·rw [BZ hc5] at hj3
    rw [hc5];refine AD (n:=66) AC 49 [(4,.v (.bool false))] [some ⟨9,42,[AE.enc x0],false⟩,some ⟨9,42,[AE.enc x1],false⟩] kr ?_;have hq:=OI hj3; subst hq;exact AI rfl (Ad [] trivial ⟨lv,trivial⟩)
  ·rw [BZ hc4] at hj3
   rw [hc4];refine AD (n:=66) AC 56 [(4,.v (.bool false))] [some ⟨9,42,[AE.enc x0],false⟩,some ⟨9,42,[AE.enc x1],false⟩] kr ?_;have hq:=OI hj3; subst hq;exact AI rfl (Ad [] trivial ⟨lv,trivial⟩)
 refine AQ ?_;have hq:=OI h; subst hq;exact ⟨⟨Fr 66 [(4,.v (.bool j3))],[]⟩,AL,.inr rfl,[.v (.bool j3)],kr,kr⟩
def Sk:List AV->Option AV:=Dx KA (fun a=>Gz a.1 a.2.1) KV
theorem TA:XOk 123 Sk:=by
 refine AU Tryz.func123 (c:=NG) ?h2 ⟨Tryz.call123⟩ KA (fun a=>Gz a.1 a.2.1) KV (fun a=>(by show 2<=66; decide)) ?h3 ?h4
 case h2=>kernel_rfl
 case h3=>intro b; kernel_rfl
 case h4=>exact fun a b h=>QR a.1 a.2.1 b h
/- trestle/trestlekit.SameGuests -/
noncomputable def I7:Code:=BG Tryz.f70
def DF (x0:(List Ai)) (x1:(List Ai)):Nat->Int->Option ((Unit) ⊕ (Bool))
 | 0,_=>none
 | f + 1,c2 =>
  if (decide (c2 < (x0.length:Int)))=true then
  (idx x0 c2).bind fun v4 =>
  (idx x1 c2).bind fun v5 =>
  (Gz v4 v5).bind fun v6 =>
  if (!v6)=true then
  some (.inr false)
  else
  DF x0 x1 f (wr .i64 (c2 + 1))
  else
  some (.inl ())
def GP (x0:(List Ai)) (x1:(List Ai)):Option (Bool) :=
 if ((x0.length:Int)!=(x1.length:Int))=true then
 some false
 else
 (DF x0 x1 100000 0).bind fun r9 =>
 match r9 with
 | (.inl _w10) =>
  some true
 | (.inr w11) =>
  some w11
def JB:Cs ((List Ai)×(List Ai)×Unit):=(csC (cdL 9 AE) (csC (cdL 9 AE) csN))
def JG (r:Bool):AV:=cdB.enc r
theorem Kf (x0:(List Ai)) (x1:(List Ai)):∀ (f:Nat) (c2:Int) (r:(Unit) ⊕ (Bool)),DF x0 x1 f c2=some r->SemN E0 ⟨none,false⟩ (pc I7 [1,1,0,1,0,0]) f ⟨Fr 27 [(0,.sl 9 (x0.map AE.enc)),(1,.sl 9 (x1.map AE.enc)),(5,.v (.int .i64 c2))],[]⟩ (fun e s=>match r with
 | (.inl _w)=>e=(.exit 0)/\Wk E0 s ⟨Fr 27 [],[]⟩
 | (.inr w)=>e = .ret/\Wk E0 s ⟨Fr 27 [(4,.v (.bool w))],[]⟩):=by
 intro f;induction f with
 | zero=>intro c2 r h; cases h
 | succ f ih0 =>
  intro c2 r h
  have ih:=fun (c2:Int)=>ih0 c2 r
  unfold DF at h;refine BR ?_;refine AF ?_;refine AF ?_
  let p1:Nat×AV:=(5,.v (.int .i64 c2))
  let p2:Nat×AV:=(1,.sl 9 (x1.map AE.enc))
  let p3:Nat×AV:=(0,.sl 9 (x0.map AE.enc))
  refine AK (s1:=⟨Fr 27 [p3,p2,p1,(14,.v (.bool (decide (c2 < (x0.length:Int)))))],[]⟩) ?_ ?_
  ·refine AD (n:=27) AC 2 [p3,p2,p1,(11,.v (.int .i64 c2)),(12,.sl 9 (x0.map AE.enc))] [] kr ?_
   refine AR AC 0 rfl (C7 (AB rfl) rfl (Ck (a:= .sl 9 (x0.map AE.enc)) kr (Ba (el:=42) kr))) ?_;exact AW AC
  refine AP (b:=(decide (c2 < (x0.length:Int)))) kr (fun hb3=>?_) (fun hb3=>?_)
  ·rw [if_pos hb3] at h
   refine AS ?_;refine AF ?_;refine AZ ?_;refine AF ?_;obtain ⟨v4,hv4,h⟩:=OB h;obtain ⟨v5,hv5,h⟩:=OB h;obtain ⟨v6,hv6,h⟩:=OB h;refine DL AC (s1:=⟨Fr 27 [p3,p2,p1,(26,.v (.bool (!v6)))],[]⟩) kr ?_ ?_
   ·refine AY (n:=27) AC 2 [p3,p2,p1,(17,.sl 9 (x0.map AE.enc)),(18,.v (.int .i64 c2))] [] kr kr ?_
    refine RunDS.one AC rfl kr (HK kr (AB rfl) rfl (AO (a:= .sl 9 (x0.map AE.enc)) (b:= .v (.int .i64 c2)) kr kr (Dn (e:=AE.enc) (el:=42) (k:=9) (ki:= .i64) kr kr hv4)) kr) ?_;refine AY (n:=27) AC 3 [p3,p2,p1,(20,AE.enc v4),(21,.sl 9 (x1.map AE.enc)),(22,.v (.int .i64 c2))] [] kr kr ?_;refine RunDS.one AC rfl kr (HK kr (AB rfl) rfl (AO (a:= .sl 9 (x1.map AE.enc)) (b:= .v (.int .i64 c2)) kr kr (Dn (e:=AE.enc) (el:=42) (k:=9) (ki:= .i64) kr kr hv5)) kr) ?_;refine AY (n:=27) AC 1 [p3,p2,p1,(20,AE.enc v4),(24,AE.enc v5)] [] kr kr ?_;refine Bb (caps:=[]) (xs:=[AE.enc v4,AE.enc v5]) (u:=(v4,v5,())) rfl rfl TA rfl (AB rfl) kr kr (AM (AX (c:=AE) (v:=v4)) (AM (AX (c:=AE) (v:=v5)) Aj)) kr hv6 ?_;refine AY (n:=27) AC 1 [p3,p2,p1,(26,.v (.bool (!v6)))] [] kr kr ?_;exact RunDS.done rfl AL
   refine AP (b:=(!v6)) kr (fun hb7=>?_) (fun hb7=>?_)
   ·rw [if_pos hb7] at h
    refine AJ AC [(4,.v (.bool false))] [] ?_;refine AQ ?_;have hq:=OI h; subst hq;exact ⟨rfl,AL⟩
   ·rw [BZ hb7] at h
    refine AS ?_
    let p4:Nat×AV:=(5,.v (.int .i64 (wr .i64 (c2 + 1))))
    refine Cn AC [p3,p2,p4] [] ?_;exact Ac (s1:=⟨Fr 27 [p3,p2,p4],[]⟩) AL (ih (wr .i64 (c2 + 1)) h)
  ·rw [BZ hb3] at h
   refine Bd ?_;have hq:=OI h; subst hq;exact ⟨rfl,AL⟩
theorem Pd (x0:(List Ai)) (x1:(List Ai)) (r:Bool) (h:GP x0 x1=some r):Sem E0 ⟨none,false⟩ I7 ⟨Fr 27 (A3 0 (JB.enc (x0,x1,()))),[]⟩ fun e s'=>(e = .normal\/e = .ret)/\∃ xs,EG E0.P s'.fr s'.hp Tryz.f70.results.toList=some xs/\EN xs=JG r:=by
 unfold GP at h
 let p1:Nat×AV:=(1,.sl 9 (x1.map AE.enc))
 let p2:Nat×AV:=(0,.sl 9 (x0.map AE.enc))
 refine An (BP (s1:=⟨Fr 27 [p2,p1],[]⟩) AL ?_);refine AJ AC [p2,p1] [] ?_;refine AF ?_;refine AF ?_;refine AK (s1:=⟨Fr 27 [p2,p1,(10,.v (.bool ((x0.length:Int)!=(x1.length:Int))))],[]⟩) ?_ ?_
 ·refine AD (n:=27) AC 1 [p2,p1,(6,.sl 9 (x0.map AE.enc))] [] kr ?_
  refine AR AC 0 rfl (C7 (AB rfl) rfl (Ck (a:= .sl 9 (x0.map AE.enc)) kr (Ba (el:=42) kr))) ?_;refine AD (n:=27) AC 1 [p2,p1,(7,.v (.int .i64 (x0.length:Int))),(8,.sl 9 (x1.map AE.enc))] [] kr ?_;refine AR AC 0 rfl (C7 (AB rfl) rfl (Ck (a:= .sl 9 (x1.map AE.enc)) kr (Ba (el:=42) kr))) ?_;exact AW AC
 refine AP (b:=((x0.length:Int)!=(x1.length:Int))) kr (fun hb1=>?_) (fun hb1=>?_)
 ·rw [if_pos hb1] at h
  refine AJ AC [(4,.v (.bool false))] [] ?_;refine AQ ?_;have hq:=OI h; subst hq;exact ⟨⟨Fr 27 [(4,.v (.bool false))],[]⟩,AL,.inr rfl,[.v (.bool false)],kr,kr⟩
 ·rw [BZ hb1] at h
  refine AS ?_;refine AF ?_
  let p3:Nat×AV:=(5,.v (.int .i64 0))
  refine AJ AC [p2,p1,p3] [] ?_;refine AZ ?_;obtain ⟨r9,hr9,h⟩:=OB h;refine Bj (n:=100000) ?_;rcases r9 with w10 | w11
  ·try dsimp only at h
   refine Aq (Ac (s1:=⟨Fr 27 [p2,p1,p3],[]⟩) AL (Kf x0 x1 _ 0 _ hr9)) ?_;refine AJ AC [(4,.v (.bool true))] [] ?_;refine AQ ?_;have hq:=OI h; subst hq;exact ⟨⟨Fr 27 [(4,.v (.bool true))],[]⟩,AL,.inr rfl,[.v (.bool true)],kr,kr⟩
  ·try dsimp only at h
   refine Aq (Ac (s1:=⟨Fr 27 [p2,p1,p3],[]⟩) AL (Kf x0 x1 _ 0 _ hr9)) ?_;have hq:=OI h; subst hq;exact ⟨⟨Fr 27 [(4,.v (.bool w11))],[]⟩,AL,.inr rfl,[.v (.bool w11)],kr,kr⟩
def RL:List AV->Option AV:=Dx JB (fun a=>GP a.1 a.2.1) JG
theorem RR:XOk 70 RL:=by
 refine AU Tryz.func70 (c:=I7) ?h2 ⟨Tryz.call70⟩ JB (fun a=>GP a.1 a.2.1) JG (fun a=>(by show 2<=27; decide)) ?h3 ?h4
 case h2=>kernel_rfl
 case h3=>intro b; kernel_rfl
 case h4=>exact fun a b h=>Pd a.1 a.2.1 b h
/- trestle/trestlelaw03.compromises -/
noncomputable def Kd:Code:=BG Tryz.f42
def Dh (x0:(List (List AG))) (x1:(List Ai)):Option (Bool) :=
 (G3 x0).bind fun v1 =>
 (GO x1).bind fun v2 =>
 (C9 v1 v2).bind fun v3 =>
 (DA x0 x1).bind fun v4 =>
 (EF v3.1 v4.1).bind fun v5 =>
 (if v5=true then if (v3.2.1==v4.2.1)=true then if (v3.2.2==v4.2.2)=true then (G4 v1 x0).bind fun v6 =>
 if v6=true then (GP v2 x1).bind fun v7 =>
 some v7 else some false else some false else some false else some false).bind fun j9 =>
 some j9
def Hn:Cs ((List (List AG))×(List Ai)×Unit):=(csC (cdL 1 (cdL 5 AA)) (csC (cdL 9 AE) csN))
def Hq (r:Bool):AV:=cdB.enc r
theorem N3 (x0:(List (List AG))) (x1:(List Ai)) (r:Bool) (h:Dh x0 x1=some r):Sem E0 ⟨none,false⟩ Kd ⟨Fr 54 (A3 0 (Hn.enc (x0,x1,()))),[]⟩ fun e s'=>(e = .normal\/e = .ret)/\∃ xs,EG E0.P s'.fr s'.hp Tryz.f42.results.toList=some xs/\EN xs=Hq r:=by
 unfold Dh at h;refine An (BP (s1:=⟨Fr 54 [(0,.sl 1 (x0.map (cdL 5 AA).enc)),(1,.sl 9 (x1.map AE.enc))],[]⟩) AL ?_);refine AJ AC [(0,.sl 1 (x0.map (cdL 5 AA).enc)),(1,.sl 9 (x1.map AE.enc))] [] ?_;refine AF ?_;obtain ⟨v1,hv1,h⟩:=OB h;obtain ⟨v2,hv2,h⟩:=OB h;refine AK (s1:=⟨Fr 54 [(0,.sl 1 (x0.map (cdL 5 AA).enc)),(1,.sl 9 (x1.map AE.enc)),(5,.sl 1 (v1.map (cdL 5 AA).enc)),(6,.sl 9 (v2.map AE.enc))],[]⟩) ?_ ?_
 ·refine AD (n:=54) AC 1 [(0,.sl 1 (x0.map (cdL 5 AA).enc)),(1,.sl 9 (x1.map AE.enc)),(13,.sl 1 (x0.map (cdL 5 AA).enc))] [] kr ?_
  refine AT (caps:=[]) (xs:=[.sl 1 (x0.map (cdL 5 AA).enc)]) (u:=(x0,())) rfl rfl TC rfl (AB rfl) kr kr (AM (AX (c:=(cdL 1 (cdL 5 AA))) (v:=x0)) Aj) (.inr kr) hv1 ?_;refine AD (n:=54) AC 1 [(0,.sl 1 (x0.map (cdL 5 AA).enc)),(1,.sl 9 (x1.map AE.enc)),(14,.sl 1 (v1.map (cdL 5 AA).enc)),(15,.sl 9 (x1.map AE.enc))] [] kr ?_;refine AT (caps:=[]) (xs:=[.sl 9 (x1.map AE.enc)]) (u:=(x1,())) rfl rfl RQ rfl (AB rfl) kr kr (AM (AX (c:=(cdL 9 AE)) (v:=x1)) Aj) (.inr kr) hv2 ?_;exact AW AC
 refine AF ?_;obtain ⟨v3,hv3,h⟩:=OB h;refine AK (s1:=⟨Fr 54 [(0,.sl 1 (x0.map (cdL 5 AA).enc)),(1,.sl 9 (x1.map AE.enc)),(5,.sl 1 (v1.map (cdL 5 AA).enc)),(6,.sl 9 (v2.map AE.enc)),(7,.sl 1 (v3.1.map cdI.enc)),(8,.v (.int .i64 v3.2.1)),(9,.v (.int .i64 v3.2.2))],[]⟩) ?_ ?_
 ·refine AD (n:=54) AC 2 [(0,.sl 1 (x0.map (cdL 5 AA).enc)),(1,.sl 9 (x1.map AE.enc)),(5,.sl 1 (v1.map (cdL 5 AA).enc)),(6,.sl 9 (v2.map AE.enc)),(18,.sl 1 (v1.map (cdL 5 AA).enc)),(19,.sl 9 (v2.map AE.enc))] [] kr ?_
  refine AT (caps:=[]) (xs:=[.sl 1 (v1.map (cdL 5 AA).enc),.sl 9 (v2.map AE.enc)]) (u:=(v1,v2,())) rfl rfl Pz rfl (AB rfl) kr kr (AM (AX (c:=(cdL 1 (cdL 5 AA))) (v:=v1)) (AM (AX (c:=(cdL 9 AE)) (v:=v2)) Aj)) (.inr kr) hv3 ?_;exact AW AC
 refine AF ?_;obtain ⟨v4,hv4,h⟩:=OB h;refine AK (s1:=⟨Fr 54 [(0,.sl 1 (x0.map (cdL 5 AA).enc)),(1,.sl 9 (x1.map AE.enc)),(5,.sl 1 (v1.map (cdL 5 AA).enc)),(6,.sl 9 (v2.map AE.enc)),(7,.sl 1 (v3.1.map cdI.enc)),(8,.v (.int .i64 v3.2.1)),(9,.v (.int .i64 v3.2.2)),(10,.sl 1 (v4.1.map cdI.enc)),(11,.v (.int .i64 v4.2.1)),(12,.v (.int .i64 v4.2.2))],[]⟩) ?_ ?_
 ·refine AD (n:=54) AC 2 [(0,.sl 1 (x0.map (cdL 5 AA).enc)),(1,.sl 9 (x1.map AE.enc)),(5,.sl 1 (v1.map (cdL 5 AA).enc)),(6,.sl 9 (v2.map AE.enc)),(7,.sl 1 (v3.1.map cdI.enc)),(8,.v (.int .i64 v3.2.1)),(9,.v (.int .i64 v3.2.2)),(25,.sl 1 (x0.map (cdL 5 AA).enc)),(26,.sl 9 (x1.map AE.enc))] [] kr ?_
  refine AT (caps:=[]) (xs:=[.sl 1 (x0.map (cdL 5 AA).enc),.sl 9 (x1.map AE.enc)]) (u:=(x0,x1,())) rfl rfl P1 rfl (AB rfl) kr kr (AM (AX (c:=(cdL 1 (cdL 5 AA))) (v:=x0)) (AM (AX (c:=(cdL 9 AE)) (v:=x1)) Aj)) (.inr kr) hv4 ?_;exact AW AC
 refine AF ?_;obtain ⟨v5,hv5,h⟩:=OB h;obtain ⟨j9,hj9,h⟩:=OB h;refine AK (s1:=⟨Fr 54 [(4,.v (.bool j9))],[]⟩) ?_ ?_
 ·refine AD (n:=54) AC 2 [(0,.sl 1 (x0.map (cdL 5 AA).enc)),(1,.sl 9 (x1.map AE.enc)),(5,.sl 1 (v1.map (cdL 5 AA).enc)),(6,.sl 9 (v2.map AE.enc)),(8,.v (.int .i64 v3.2.1)),(9,.v (.int .i64 v3.2.2)),(11,.v (.int .i64 v4.2.1)),(12,.v (.int .i64 v4.2.2)),(31,.sl 1 (v3.1.map cdI.enc)),(32,.sl 1 (v4.1.map cdI.enc))] [] kr ?_
  refine AT (caps:=[]) (xs:=[.sl 1 (v3.1.map cdI.enc),.sl 1 (v4.1.map cdI.enc)]) (u:=(v3.1,v4.1,())) rfl rfl Oj rfl (AB rfl) kr kr (AM (AX (c:=(cdL 1 cdI)) (v:=v3.1)) (AM (AX (c:=(cdL 1 cdI)) (v:=v4.1)) Aj)) (.inl kr) hv5 ?_;refine AD (n:=54) AC 1 [(0,.sl 1 (x0.map (cdL 5 AA).enc)),(1,.sl 9 (x1.map AE.enc)),(5,.sl 1 (v1.map (cdL 5 AA).enc)),(6,.sl 9 (v2.map AE.enc)),(8,.v (.int .i64 v3.2.1)),(9,.v (.int .i64 v3.2.2)),(11,.v (.int .i64 v4.2.1)),(12,.v (.int .i64 v4.2.2)),(34,.v (.bool v5))] [] kr ?_;rcases BE v5 with hc10 | hc10
  ·rw [if_pos hc10] at hj9
   rw [hc10];refine AD (n:=54) AC 5 [(0,.sl 1 (x0.map (cdL 5 AA).enc)),(1,.sl 9 (x1.map AE.enc)),(5,.sl 1 (v1.map (cdL 5 AA).enc)),(6,.sl 9 (v2.map AE.enc)),(9,.v (.int .i64 v3.2.2)),(12,.v (.int .i64 v4.2.2)),(39,.v (.bool (v3.2.1==v4.2.1)))] [] kr ?_;rcases BE (v3.2.1==v4.2.1) with hc11 | hc11
   ·rw [if_pos hc11] at hj9
    rw [hc11];refine AD (n:=54) AC 5 [(0,.sl 1 (x0.map (cdL 5 AA).enc)),(1,.sl 9 (x1.map AE.enc)),(5,.sl 1 (v1.map (cdL 5 AA).enc)),(6,.sl 9 (v2.map AE.enc)),(44,.v (.bool (v3.2.2==v4.2.2)))] [] kr ?_;rcases BE (v3.2.2==v4.2.2) with hc12 | hc12
    ·rw [if_pos hc12] at hj9
     rw [hc12];refine AD (n:=54) AC 2 [(1,.sl 9 (x1.map AE.enc)),(6,.sl 9 (v2.map AE.enc)),(44,.v (.bool true)),(45,.sl 1 (v1.map (cdL 5 AA).enc)),(46,.sl 1 (x0.map (cdL 5 AA).enc))] [] kr ?_;obtain ⟨v6,hv6,hj9⟩:=OB hj9;refine AT (caps:=[]) (xs:=[.sl 1 (v1.map (cdL 5 AA).enc),.sl 1 (x0.map (cdL 5 AA).enc)]) (u:=(v1,x0,())) rfl rfl TE rfl kr kr kr (AM (AX (c:=(cdL 1 (cdL 5 AA))) (v:=v1)) (AM (AX (c:=(cdL 1 (cdL 5 AA))) (v:=x0)) Aj)) (.inl kr) hv6 ?_;refine AD (n:=54) AC 2 [(1,.sl 9 (x1.map AE.enc)),(6,.sl 9 (v2.map AE.enc)),(49,.v (.bool v6))] [] kr ?_;rcases BE v6 with hc13 | hc13
     ·rw [if_pos hc13] at hj9
      rw [hc13];refine AD (n:=54) AC 2 [(49,.v (.bool true)),(50,.sl 9 (v2.map AE.enc)),(51,.sl 9 (x1.map AE.enc))] [] kr ?_;obtain ⟨v7,hv7,hj9⟩:=OB hj9;refine AT (caps:=[]) (xs:=[.sl 9 (v2.map AE.enc),.sl 9 (x1.map AE.enc)]) (u:=(v2,x1,())) rfl rfl RR rfl kr kr kr (AM (AX (c:=(cdL 9 AE)) (v:=v2)) (AM (AX (c:=(cdL 9 AE)) (v:=x1)) Aj)) (.inl kr) hv7 ?_;refine AD (n:=54) AC 2 [(4,.v (.bool v7))] [] kr ?_;have hq:=OI hj9; subst hq;exact AI rfl AL
     ·rw [BZ hc13] at hj9
      rw [hc13];refine AD (n:=54) AC 5 [(4,.v (.bool false))] [] kr ?_;have hq:=OI hj9; subst hq;exact AI rfl AL
    ·rw [BZ hc12] at hj9
     rw [hc12];refine AD (n:=54) AC 10 [(4,.v (.bool false))] [] kr ?_;have hq:=OI hj9; subst hq;exact AI rfl AL
   ·rw [BZ hc11] at hj9
    rw [hc11];refine AD (n:=54) AC 15 [(4,.v (.bool false))] [] kr ?_;have hq:=OI hj9; subst hq;exact AI rfl AL
  ·rw [BZ hc10] at hj9
   rw [hc10];refine AD (n:=54) AC 20 [(4,.v (.bool false))] [] kr ?_;have hq:=OI hj9; subst hq;exact AI rfl AL
 refine AQ ?_;have hq:=OI h; subst hq;exact ⟨⟨Fr 54 [(4,.v (.bool j9))],[]⟩,AL,.inr rfl,[.v (.bool j9)],kr,kr⟩
def PG:List AV->Option AV:=Dx Hn (fun a=>Dh a.1 a.2.1) Hq
theorem LV:XOk 42 PG:=by
 refine AU Tryz.func42 (c:=Kd) ?h2 ⟨Tryz.call42⟩ Hn (fun a=>Dh a.1 a.2.1) Hq (fun a=>(by show 2<=54; decide)) ?h3 ?h4
 case h2=>kernel_rfl
 case h3=>intro b; kernel_rfl
 case h4=>exact fun a b h=>N3 a.1 a.2.1 b h
/- trestle/trestlelaw03.CourtCompromises -/
noncomputable def Hr:Code:=BG Tryz.f10
def DJ (x0:(List (List AG))) (x1:(List Ai)):Option (Bool) :=
 (HV x0 20).bind fun v1 =>
 (if (!v1)=true then IA.bind fun v2 =>
 some v2 else if (decide ((x1.length:Int)<=7))=true then (Fq x1 7).bind fun v3 =>
 if (!v3)=true then IA.bind fun v4 =>
 some v4 else if (decide ((x1.length:Int) > 70))=true then IA.bind fun v5 =>
 some v5 else (Dh x0 x1).bind fun v6 =>
 if v6=true then IA.bind fun v7 =>
 some v7 else some false else if (decide ((x1.length:Int) > 70))=true then IA.bind fun v8 =>
 some v8 else (Dh x0 x1).bind fun v9 =>
 if v9=true then IA.bind fun v10 =>
 some v10 else some false).bind fun j12 =>
 some j12
def Dq:Cs ((List (List AG))×(List Ai)×Unit):=(csC (cdL 1 (cdL 5 AA)) (csC (cdL 9 AE) csN))
def Ei (r:Bool):AV:=cdB.enc r
theorem LX (x0:(List (List AG))) (x1:(List Ai)) (r:Bool) (h:DJ x0 x1=some r):Sem E0 ⟨none,false⟩ Hr ⟨Fr 31 (A3 0 (Dq.enc (x0,x1,()))),[]⟩ fun e s'=>(e = .normal\/e = .ret)/\∃ xs,EG E0.P s'.fr s'.hp Tryz.f10.results.toList=some xs/\EN xs=Ei r:=by
 unfold DJ at h;refine An (BP (s1:=⟨Fr 31 [(0,.sl 1 (x0.map (cdL 5 AA).enc)),(1,.sl 9 (x1.map AE.enc))],[]⟩) AL ?_);refine AJ AC [(0,.sl 1 (x0.map (cdL 5 AA).enc)),(1,.sl 9 (x1.map AE.enc))] [] ?_;refine AF ?_;obtain ⟨v1,hv1,h⟩:=OB h;obtain ⟨j12,hj12,h⟩:=OB h;refine AK (s1:=⟨Fr 31 [(4,.v (.bool j12))],[]⟩) ?_ ?_
 ·refine AD (n:=31) AC 1 [(0,.sl 1 (x0.map (cdL 5 AA).enc)),(1,.sl 9 (x1.map AE.enc)),(5,.sl 1 (x0.map (cdL 5 AA).enc))] [] kr ?_
  refine AT (caps:=[]) (xs:=[.sl 1 (x0.map (cdL 5 AA).enc),.v (.int .i64 20)]) (u:=(x0,20,())) rfl rfl Td rfl (AB rfl) kr kr (AM (AX (c:=(cdL 1 (cdL 5 AA))) (v:=x0)) (AM (AX (c:=cdI) (v:=20)) Aj)) (.inl kr) hv1 ?_;refine AD (n:=31) AC 2 [(0,.sl 1 (x0.map (cdL 5 AA).enc)),(1,.sl 9 (x1.map AE.enc)),(8,.v (.bool (!v1)))] [] kr ?_;rcases BE (!v1) with hc13 | hc13
  ·rw [if_pos hc13] at hj12
   rw [hc13];refine AD (n:=31) AC 20 [(28,.v (.bool true))] [] kr ?_;obtain ⟨v2,hv2,hj12⟩:=OB hj12;refine AT (caps:=[]) (xs:=[]) (u:=(())) rfl rfl Hk rfl kr kr kr Aj (.inl kr) hv2 ?_;refine AD (n:=31) AC 2 [(4,.v (.bool v2))] [] kr ?_;have hq:=OI hj12; subst hq;exact AI rfl AL
  ·rw [BZ hc13] at hj12
   rw [hc13];refine AD (n:=31) AC 1 [(0,.sl 1 (x0.map (cdL 5 AA).enc)),(1,.sl 9 (x1.map AE.enc)),(8,.v (.bool false)),(9,.sl 9 (x1.map AE.enc))] [] kr ?_;refine AR AC 0 rfl (C7 kr rfl (Ck (a:= .sl 9 (x1.map AE.enc)) kr (Ba (el:=42) kr))) ?_;refine AD (n:=31) AC 2 [(0,.sl 1 (x0.map (cdL 5 AA).enc)),(1,.sl 9 (x1.map AE.enc)),(8,.v (.bool false)),(12,.v (.bool (decide ((x1.length:Int)<=7))))] [] kr ?_;rcases BE (decide ((x1.length:Int)<=7)) with hc14 | hc14
   ·rw [if_pos hc14] at hj12
    rw [hc14];refine AD (n:=31) AC 1 [(0,.sl 1 (x0.map (cdL 5 AA).enc)),(1,.sl 9 (x1.map AE.enc)),(8,.v (.bool false)),(12,.v (.bool true)),(13,.sl 9 (x1.map AE.enc))] [] kr ?_;obtain ⟨v3,hv3,hj12⟩:=OB hj12;refine AT (caps:=[]) (xs:=[.sl 9 (x1.map AE.enc),.v (.int .i64 7)]) (u:=(x1,7,())) rfl rfl Qu rfl kr kr kr (AM (AX (c:=(cdL 9 AE)) (v:=x1)) (AM (AX (c:=cdI) (v:=7)) Aj)) (.inl kr) hv3 ?_;refine AD (n:=31) AC 4 [(0,.sl 1 (x0.map (cdL 5 AA).enc)),(1,.sl 9 (x1.map AE.enc)),(18,.v (.bool (!v3)))] [] kr ?_;rcases BE (!v3) with hc15 | hc15
    ·rw [if_pos hc15] at hj12
     rw [hc15];refine AD (n:=31) AC 10 [(28,.v (.bool true))] [] kr ?_;obtain ⟨v4,hv4,hj12⟩:=OB hj12;refine AT (caps:=[]) (xs:=[]) (u:=(())) rfl rfl Hk rfl kr kr kr Aj (.inl kr) hv4 ?_;refine AD (n:=31) AC 2 [(4,.v (.bool v4))] [] kr ?_;have hq:=OI hj12; subst hq;exact AI rfl AL
    ·rw [BZ hc15] at hj12
     rw [hc15];refine AD (n:=31) AC 1 [(0,.sl 1 (x0.map (cdL 5 AA).enc)),(1,.sl 9 (x1.map AE.enc)),(18,.v (.bool false)),(19,.sl 9 (x1.map AE.enc))] [] kr ?_;refine AR AC 0 rfl (C7 kr rfl (Ck (a:= .sl 9 (x1.map AE.enc)) kr (Ba (el:=42) kr))) ?_;refine AD (n:=31) AC 3 [(0,.sl 1 (x0.map (cdL 5 AA).enc)),(1,.sl 9 (x1.map AE.enc)),(23,.v (.bool (decide ((x1.length:Int) > 70))))] [] kr ?_;rcases BE (decide ((x1.length:Int) > 70)) with hc16 | hc16
     ·rw [if_pos hc16] at hj12
      rw [hc16];refine AD (n:=31) AC 5 [(28,.v (.bool true))] [] kr ?_;obtain ⟨v5,hv5,hj12⟩:=OB hj12;refine AT (caps:=[]) (xs:=[]) (u:=(())) rfl rfl Hk rfl kr kr kr Aj (.inl kr) hv5 ?_;refine AD (n:=31) AC 2 [(4,.v (.bool v5))] [] kr ?_;have hq:=OI hj12; subst hq;exact AI rfl AL
     ·rw [BZ hc16] at hj12
      rw [hc16];refine AD (n:=31) AC 2 [(23,.v (.bool false)),(24,.sl 1 (x0.map (cdL 5 AA).enc)),(25,.sl 9 (x1.map AE.enc))] [] kr ?_;obtain ⟨v6,hv6,hj12⟩:=OB hj12;refine AT (caps:=[]) (xs:=[.sl 1 (x0.map (cdL 5 AA).enc),.sl 9 (x1.map AE.enc)]) (u:=(x0,x1,())) rfl rfl LV rfl kr kr kr (AM (AX (c:=(cdL 1 (cdL 5 AA))) (v:=x0)) (AM (AX (c:=(cdL 9 AE)) (v:=x1)) Aj)) (.inl kr) hv6 ?_;refine AD (n:=31) AC 2 [(28,.v (.bool v6))] [] kr ?_;rcases BE v6 with hc17 | hc17
      ·rw [if_pos hc17] at hj12
       rw [hc17];obtain ⟨v7,hv7,hj12⟩:=OB hj12;refine AT (caps:=[]) (xs:=[]) (u:=(())) rfl rfl Hk rfl kr kr kr Aj (.inl kr) hv7 ?_;refine AD (n:=31) AC 2 [(4,.v (.bool v7))] [] kr ?_;have hq:=OI hj12; subst hq;exact AI rfl AL
      ·rw [BZ hc17] at hj12
       rw [hc17];refine AD (n:=31) AC 3 [(4,.v (.bool false))] [] kr ?_;have hq:=OI hj12; subst hq;exact AI rfl AL
   ·rw [BZ hc14] at hj12
    rw [hc14];refine AD (n:=31) AC 7 [(0,.sl 1 (x0.map (cdL 5 AA).enc)),(1,.sl 9 (x1.map AE.enc)),(18,.v (.bool false)),(19,.sl 9 (x1.map AE.enc))] [] kr ?_;refine AR AC 0 rfl (C7 kr rfl (Ck (a:= .sl 9 (x1.map AE.enc)) kr (Ba (el:=42) kr))) ?_;refine AD (n:=31) AC 3 [(0,.sl 1 (x0.map (cdL 5 AA).enc)),(1,.sl 9 (x1.map AE.enc)),(23,.v (.bool (decide ((x1.length:Int) > 70))))] [] kr ?_;rcases BE (decide ((x1.length:Int) > 70)) with hc18 | hc18
    ·rw [if_pos hc18] at hj12
     rw [hc18];refine AD (n:=31) AC 5 [(28,.v (.bool true))] [] kr ?_;obtain ⟨v8,hv8,hj12⟩:=OB hj12;refine AT (caps:=[]) (xs:=[]) (u:=(())) rfl rfl Hk rfl kr kr kr Aj (.inl kr) hv8 ?_;refine AD (n:=31) AC 2 [(4,.v (.bool v8))] [] kr ?_;have hq:=OI hj12; subst hq;exact AI rfl AL
    ·rw [BZ hc18] at hj12
     rw [hc18];refine AD (n:=31) AC 2 [(23,.v (.bool false)),(24,.sl 1 (x0.map (cdL 5 AA).enc)),(25,.sl 9 (x1.map AE.enc))] [] kr ?_;obtain ⟨v9,hv9,hj12⟩:=OB hj12;refine AT (caps:=[]) (xs:=[.sl 1 (x0.map (cdL 5 AA).enc),.sl 9 (x1.map AE.enc)]) (u:=(x0,x1,())) rfl rfl LV rfl kr kr kr (AM (AX (c:=(cdL 1 (cdL 5 AA))) (v:=x0)) (AM (AX (c:=(cdL 9 AE)) (v:=x1)) Aj)) (.inl kr) hv9 ?_;refine AD (n:=31) AC 2 [(28,.v (.bool v9))] [] kr ?_;rcases BE v9 with hc19 | hc19
     ·rw [if_pos hc19] at hj12
      rw [hc19];obtain ⟨v10,hv10,hj12⟩:=OB hj12;refine AT (caps:=[]) (xs:=[]) (u:=(())) rfl rfl Hk rfl kr kr kr Aj (.inl kr) hv10 ?_;refine AD (n:=31) AC 2 [(4,.v (.bool v10))] [] kr ?_;have hq:=OI hj12; subst hq;exact AI rfl AL
     ·rw [BZ hc19] at hj12
      rw [hc19];refine AD (n:=31) AC 3 [(4,.v (.bool false))] [] kr ?_;have hq:=OI hj12; subst hq;exact AI rfl AL
 refine AQ ?_;have hq:=OI h; subst hq;exact ⟨⟨Fr 31 [(4,.v (.bool j12))],[]⟩,AL,.inr rfl,[.v (.bool j12)],kr,kr⟩
def MT:List AV->Option AV:=Dx Dq (fun a=>DJ a.1 a.2.1) Ei
theorem MV:XOk 10 MT:=by
 refine AU Tryz.func10 (c:=Hr) ?h2 ⟨Tryz.call10⟩ Dq (fun a=>DJ a.1 a.2.1) Ei (fun a=>(by show 2<=31; decide)) ?h3 ?h4
 case h2=>kernel_rfl
 case h3=>intro b; kernel_rfl
 case h4=>exact fun a b h=>LX a.1 a.2.1 b h
theorem Xr {n:Int}(h1 : -9223372036854775808<=n) (h2:n<=9223372036854775807):wr .i64 n=n:=by
 show (if _ then n else _)=n
 rw [if_pos ⟨h1,h2⟩]
theorem D5 {α:Type}(pre:List α) (v:α) (r:List α):idx (pre++v::r) (pre.length:Int)=some v:=by
 unfold idx
 rw [if_pos (by omega)]
 simp
theorem Ke {α:Type}{xs:List α}{i:Nat}(h:i < xs.length):idx xs (i:Int)=some xs[i]:=by
 unfold idx
 rw [if_pos (by omega)]
 simp [h]
theorem Fv {α:Type}(pre:List α) (v:α) (r:List α) (h:(pre++v::r).length<=1000000000):wr .i64 ((pre.length:Int) + 1)=((pre++[v]).length:Int):=by
 simp at h
 rw [Xr (by omega) (by omega)]; simp
theorem G7 {α:Type}(pre:List α) (v:α) (r:List α):decide ((pre.length:Int) < ((pre++v::r).length:Int))=true:=by
 simp; omega
theorem ABv {α:Type}(pre:List α):decide ((pre.length:Int) < ((pre++[]).length:Int))=false:=by simp
theorem Hv {b n:Nat}(hb:b<=1000) (h:n<=1000000000):Gf b n=true:=by
 have h1:n * b<=1000000000 * 1000:=Nat.mul_le_mul h hb
 unfold Gf
 rw [Bool.and_eq_true]
 exact ⟨Nat.ble_eq_true_of_le (by omega),Nat.ble_eq_true_of_le (by omega)⟩
theorem Zg {α:Type}{xs:List α}{i:Int}{v:α}(h:idx xs i=some v):v ∈ xs:=by
 unfold idx at h
 split at h
 ·exact List.mem_of_getElem? h
 ·cases h
/-- A loop over a list: v, its index, the rest. -/
def goU {α ρ:Type}(B:α->Nat->Option ρ->Option ρ) (D:Option ρ):List α->Nat->Option ρ
 | [],_=>D
 | v::r,i=>B v i (goU B D r (i + 1))
theorem ADU {α ρ:Type}(xs:List α) (L:Nat->Int->Option ρ) (B:α->Nat->Option ρ->Option ρ) (D:Option ρ)
  (hs:∀ f (pre:List α) v r,xs=pre++v::r->L (f + 1) (pre.length:Int)=B v pre.length (L f (((pre++[v]).length:Nat):Int))) (hd:∀ f,L (f + 1) (xs.length:Int)=D) :
  ∀ (r pre:List α) (f:Nat),xs=pre++r->r.length < f->L f (pre.length:Int)=goU B D r pre.length
 | [],pre,f + 1,hx,_=>by
  rw [show pre.length=xs.length by rw [hx]; simp]
  exact hd f
 | v::r,pre,f + 1,hx,hf=>by
  rw [hs f pre v r hx]
  have:=ADU xs L B D hs hd r (pre++[v]) f (by rw [hx]; simp) (by simp at hf; omega)
  rw [this]
  show B v pre.length _=B v pre.length _
  congr 1
  simp
theorem LM {α ρ:Type}(xs:List α) (L:Nat->Int->Option ρ) (B:α->Nat->Option ρ->Option ρ) (D:Option ρ) (f:Nat) (hf:xs.length < f)
  (hs:∀ f (pre:List α) v r,xs=pre++v::r->L (f + 1) (pre.length:Int)=B v pre.length (L f (((pre++[v]).length:Nat):Int))) (hd:∀ f,L (f + 1) (xs.length:Int)=D):L f 0=goU B D xs 0 :=
 ADU xs L B D hs hd xs [] f rfl hf
/-- .. as it is printed. -/
theorem AEh {α ρ:Type}(xs:List α) (L:Nat->Int->Option ρ) (B:α->Nat->Option ρ->Option ρ) (D:Option ρ) (f:Nat) (hf:xs.length < f) (hx:xs.length<=1000000)
  (h:∀ f c,L (f + 1) c=if decide (c < (xs.length:Int))=true then (idx xs c).bind fun v=>B v c.toNat (L f (wr .i64 (c + 1))) else D):L f 0=goU B D xs 0 :=
 LM xs L B D f hf (fun f pre v r e=>by
  subst e
  rw [h,if_pos (G7 pre v r),D5,OS,Fv pre v r (by omega),Int.toNat_natCast]) (fun f=>by rw [h,if_neg (by simp)])
/-- The first that meets a test. -/
theorem YU {α:Type}(P:α->Option Bool) (p:α->Bool):∀ (xs:List α) (i:Nat),(∀ x ∈ xs,P x=some (p x))->∃ r:Unit ⊕ Int,goU (fun v i k=>(P v).bind fun b=>if b=true then some (.inr (i:Int)) else k) (some (.inl ())) xs i=some r/\(match r with | .inl _=>xs.any p=false | .inr n=>xs.any p=true/\0<=n)
 | [],i,_=>⟨.inl (),rfl,rfl⟩
 | x::xs,i,h=>by
  unfold goU
  rw [h x (by simp),OS]
  cases hp:p x with
  | true=>exact ⟨.inr i,by simp,by simp [hp]⟩
  | false =>
   obtain ⟨r,h1,h2⟩:=YU P p xs (i + 1) fun y hy=>h y (List.mem_cons_of_mem _ hy)
   refine ⟨r,by simpa using h1,?_⟩
   cases r with
   | inl u=>simpa [hp] using h2
   | inr n=>simpa [hp] using h2
/-- slices.IndexFunc and slices.ContainsFunc. -/
theorem PL {α:Type}(xs:List α) (hx:xs.length<=99999) (P:α->Option Bool) (p:α->Bool) (hP:∀ x ∈ xs,P x=some (p x)) (L:Nat->Int->Option (Unit ⊕ Int))
  (h:∀ f c,L (f + 1) c=if decide (c < (xs.length:Int))=true then (idx xs c).bind fun v=>(P v).bind fun b=>if b=true then some (.inr c) else L f (wr .i64 (c + 1)) else some (.inl ())) :
  ∃ n,((L 100000 0).bind fun r=>match r with | .inl _=>some (-1) | .inr w=>some w)=some n/\decide (n≥0)=xs.any p:=by
 have e:=LM xs L (fun v i k=>(P v).bind fun b=>if b=true then some (.inr (i:Int)) else k) (some (.inl ())) 100000 (by omega) (fun f pre v r e=>by
  subst e
  rw [h,if_pos (G7 pre v r),D5,OS,Fv pre v r (by omega)]) (fun f=>by rw [h,if_neg (by simp)])
 obtain ⟨r,h1,h2⟩:=YU P p xs 0 hP
 rw [e,h1]
 cases r with
 | inl u=>exact ⟨-1,rfl,by rw [h2]; rfl⟩
 | inr n=>exact ⟨n,rfl,by rw [h2.1]; simpa using h2.2⟩
/-- Two lists side by side. -/
def go2 {α β ρ:Type}(B:α->β->Option ρ->Option ρ) (D:Option ρ):List α->List β->Option ρ
 | v::r,u::q=>B v u (go2 B D r q)
 | _,_=>D
theorem ADT {α β ρ:Type}(L:Nat->Int->Option ρ) (B:α->β->Option ρ->Option ρ) (D:Option ρ) (xs:List α) (ys:List β) (hl:xs.length=ys.length) (hx:xs.length<=1000000)
  (h:∀ f c,L (f + 1) c=if decide (c < (xs.length:Int))=true then (idx xs c).bind fun v=>(idx ys c).bind fun u=>B v u (L f (wr .i64 (c + 1))) else D) :
  ∀ (r:List α) (q:List β) (pre:List α) (pre':List β) (f:Nat),xs=pre++r->ys=pre'++q->pre.length=pre'.length->r.length < f->L f (pre.length:Int)=go2 B D r q
 | [],q,pre,pre',f + 1,e1,e2,e3,_=>by
  have:q=[]:=by
   have:xs.length=pre.length:=by rw [e1]; simp
   have h2:ys.length=pre'.length + q.length:=by rw [e2]; simp
   exact List.eq_nil_of_length_eq_zero (by omega)
  subst this
  subst e1
  rw [h,ABv]
  rfl
 | v::r,[],pre,pre',f + 1,e1,e2,e3,_=>by
  exfalso
  have h1:xs.length=pre.length + (r.length + 1):=by rw [e1]; simp
  have h2:ys.length=pre'.length:=by rw [e2]; simp
  omega
 | v::r,u::q,pre,pre',f + 1,e1,e2,e3,hf=>by
  have ih:=ADT L B D xs ys hl hx h r q (pre++[v]) (pre'++[u]) f (by rw [e1]; simp) (by rw [e2]; simp) (by simp [e3]) (by simp at hf; omega)
  have k1:idx xs (pre.length:Int)=some v:=by rw [e1,D5]
  have k2:idx ys (pre.length:Int)=some u:=by rw [e2,e3,D5]
  have k3:decide ((pre.length:Int) < (xs.length:Int))=true:=by rw [e1]; exact G7 pre v r
  have k4:wr .i64 ((pre.length:Int) + 1)=((pre++[v]).length:Int):=Fv pre v r (by rw [<-e1]; omega)
  rw [h,if_pos k3,k1,OS,k2,OS,k4,ih]
  rfl
theorem YT {α β:Type}(P:α->β->Option Bool) (p:α->β->Bool):∀ (xs:List α) (ys:List β),(∀ x ∈ xs,∀ y ∈ ys,P x y=some (p x y))->xs.length=ys.length ->
  go2 (fun v u k=>(P v u).bind fun b=>if (!b)=true then some (Sum.inr false) else k) (some (Sum.inl ())) xs ys=some (if (xs.zip ys).all (fun x=>p x.1 x.2) then Sum.inl () else Sum.inr false)
 | [],[],_,_=>rfl
 | x::xs,y::ys,h,hl=>by
  unfold go2
  rw [h x (by simp) y (by simp),OS,YT P p xs ys (fun a ha b hb=>h a (List.mem_cons_of_mem _ ha) b (List.mem_cons_of_mem _ hb)) (by simpa using hl)]
  rw [List.zip_cons_cons,List.all_cons]
  show (if (!p x y)=true then _ else _)=some (if (p x y&&_)=true then _ else _)
  cases p x y <;> rfl
 | [],_::_,_,hl=>by simp at hl
 | _::_,[],_,hl=>by simp at hl
/-- slices.EqualFunc. -/
theorem Xz {α β:Type}(xs:List α) (ys:List β) (hx:xs.length<=99999) (P:α->β->Option Bool) (p:α->β->Bool) (hP:∀ x ∈ xs,∀ y ∈ ys,P x y=some (p x y)) (L:Nat->Int->Option (Unit ⊕ Bool))
  (h:∀ f c,L (f + 1) c=if decide (c < (xs.length:Int))=true then (idx xs c).bind fun v=>(idx ys c).bind fun u=>(P v u).bind fun b=>if (!b)=true then some (.inr false) else L f (wr .i64 (c + 1)) else some (.inl ())) :
  (if ((xs.length:Int)!=(ys.length:Int))=true then some false else (L 100000 0).bind fun r=>match r with | .inl _=>some true | .inr w=>some w)=some (decide (xs.length=ys.length)&&(xs.zip ys).all fun x=>p x.1 x.2):=by
 by_cases hl:xs.length=ys.length
 ·rw [if_neg (by simp [hl])]
  have e:=ADT L (fun v u k=>(P v u).bind fun b=>if (!b)=true then some (Sum.inr false) else k) (some (Sum.inl ())) xs ys hl (by omega) h xs ys [] [] 100000 rfl rfl rfl (by omega)
  have e0:L 100000 (([]:List α).length:Int)=L 100000 0:=rfl
  rw [<-e0,e,YT P p xs ys hP hl]
  cases hq:(xs.zip ys).all (fun x=>p x.1 x.2) <;> simp [hl]
 ·rw [if_pos (by simp; omega)]
  simp [hl]
theorem Qv {α:Type} [DecidableEq α] {p:α->α->Bool}(hp:∀ a b,p a b=decide (a=b)):∀ (xs ys:List α),(decide (xs.length=ys.length)&&(xs.zip ys).all fun x=>p x.1 x.2)=decide (xs=ys)
 | [],[]=>rfl
 | x::xs,y::ys=>by
  have ih:=Qv hp xs ys
  simp only [List.length_cons,Nat.add_right_cancel_iff,List.zip_cons_cons,List.all_cons,List.cons.injEq,hp]
  simp only [hp] at ih
  by_cases h1:x=y
  ·subst h1; simpa using ih
  ·simp [h1]
 | [],_::_=>by simp
 | _::_,[]=>by simp
/-- slices.Equal. -/
theorem AC7 {α:Type} [DecidableEq α] [BEq α] [LawfulBEq α] (xs ys:List α) (hx:xs.length<=99999) (L:Nat->Int->Option (Unit ⊕ Bool))
  (h:∀ f c,L (f + 1) c=if decide (c < (xs.length:Int))=true then (idx xs c).bind fun v=>(idx ys c).bind fun u=>if (v != u)=true then some (.inr false) else L f (wr .i64 (c + 1)) else some (.inl ())) :
  (if ((xs.length:Int)!=(ys.length:Int))=true then some false else (L 100000 0).bind fun r=>match r with | .inl _=>some true | .inr w=>some w)=some (decide (xs=ys)):=by
 rw [Xz xs ys hx (fun v u=>some (v==u)) (fun v u=>v==u) (fun _ _ _ _=>rfl) L (fun f c=>by rw [h]; rfl),Qv (fun a b=>by by_cases h:a=b <;> simp [h])]
def YO (x:AG):Prop:=x.2.1.length<=40/\x.2.2.2.1.length<=20/\∀ s ∈ x.2.2.2.1,s.length<=40
def few (c:List AG):Prop:=c.length<=40/\∀ x ∈ c,YO x
theorem YP (l:List (List UInt8)) (h:l.length<=99999):Av l=some (l.any fun s=>decide ((s.length:Int) > 40)):=by
 unfold Av BK
 obtain ⟨n,h1,h2⟩:=PL l h Hg (fun s=>decide ((s.length:Int) > 40)) (fun x _=>rfl) (BT l) (fun f c=>rfl)
 rw [<-h2]
 exact (congrArg (fun o=>o.bind fun v1=>some (decide (v1≥0))) h1)
def ABW (x:AG):Bool:=decide ((x.2.1.length:Int) > 40)||decide ((x.2.2.2.1.length:Int) > 20)||x.2.2.2.1.any fun s=>decide ((s.length:Int) > 40)
theorem AEY (x:AG):HW x=some (ABW x):=by
 unfold HW ABW
 by_cases h1:(x.2.1.length:Int) > 40
 ·simp [h1]
 ·by_cases h2:(x.2.2.2.1.length:Int) > 20
  ·simp [h2]
  ·rw [YP _ (by omega)]
   simp [h1,h2]
theorem Wq (x:AG):ABW x=false↔YO x:=by
 unfold ABW YO
 simp only [Bool.or_eq_false_iff,decide_eq_false_iff_not,List.any_eq_false,decide_eq_true_eq]
 constructor
 ·rintro ⟨⟨h1,h2⟩,h3⟩
  exact ⟨by omega,by omega,fun s hs=>by have:=h3 s hs; omega⟩
 ·rintro ⟨h1,h2,h3⟩
  exact ⟨⟨by omega,by omega⟩,fun s hs=>by have:=h3 s hs; omega⟩
theorem AC9 (c:List AG):∃ b,LK c=some b/\(b=true↔few c):=by
 unfold LK
 by_cases h:c.length<=40
 ·rw [if_pos (by simp; omega)]
  have e:Ak c=some (c.any ABW):=by
   unfold Ak A0
   obtain ⟨n,h1,h2⟩:=PL c (by omega) HW ABW (fun x _=>AEY x) (BC c) (fun f c=>rfl)
   rw [<-h2]
   exact (congrArg (fun o=>o.bind fun v1=>some (decide (v1≥0))) h1)
  rw [e]
  refine ⟨!c.any ABW,rfl,?_⟩
  simp only [Bool.not_eq_true',List.any_eq_false,few,h,true_and]
  exact ⟨fun q x hx=>(Wq x).1 (by simpa using q x hx),fun q x hx=>by simp [(Wq x).2 (q x hx)]⟩
 ·rw [if_neg (by simp; omega)]
  exact ⟨false,rfl,by simp [few,h]⟩
/-- Copies. -/
theorem YG (c:List AG) (h:few c):∀ (r pre:List AG) (f:Nat),c=pre++r->r.length < f->FU c f pre (pre.length:Int)=some c
 | [],pre,f + 1,e,_=>by
  unfold FU
  rw [if_neg (by rw [e]; simp),e,List.append_nil]
 | v::r,pre,f + 1,e,hf=>by
  have hv:YO v:=h.2 v (by rw [e]; simp)
  have hl:=h.1
  have hl2:c.length=pre.length + r.length + 1:=by rw [e]; simp; omega
  simp only [List.length_cons] at hf
  obtain ⟨h1,h2,h3⟩:=hv
  unfold FU
  have hi:idx c (pre.length:Int)=some v:=by rw [e,D5]
  rw [if_pos (by rw [e]; exact G7 pre v r),hi,OS,if_pos (Hv (by omega) (by omega)),if_pos (Hv (by omega) (by omega)),if_pos (by unfold Ns; simp; omega),if_pos (Hv (by omega) (by omega))]
  have hv2:(v.1,v.2.1,v.2.2.1,((v.2.2.2.1++[[115,112,97,114,101]]).take ((v.2.2.2.1.length:Int).toNat)),v.2.2.2.2)=v:=by
   rw [Int.toNat_natCast,List.take_left]
  rw [hv2,show wr .i64 ((pre.length:Int) + 1)=((pre++[v]).length:Int) from Fv pre v r (by rw [<-e]; omega)]
  exact YG c h r (pre++[v]) f (by rw [e]; simp) (by omega)
theorem ABO (c:List AG) (h:few c):JK c=some c:=by
 unfold JK
 have:=YG c h c [] 100000 rfl (by have:=h.1; omega)
 have e0:FU c 100000 [] (([]:List AG).length:Int)=FU c 100000 [] 0:=rfl
 rw [<-e0,this]; rfl
/-- Comparisons. -/
theorem ABU (xs ys:List (List UInt8)) (h:xs.length<=99999):CU xs ys=some (decide (xs=ys)):=by
 unfold CU
 exact AC7 xs ys h (DB xs ys) (fun f c=>rfl)
theorem ADi (a b:AG) (h:a.2.2.2.1.length<=99999):EM a b=some (decide (a=b)):=by
 unfold EM
 rw [ABU _ _ h]
 obtain ⟨a1,a2,a3,a4,a5⟩:=a
 obtain ⟨b1,b2,b3,b4,b5⟩:=b
 by_cases h1:a1=b1
 ·by_cases h2:a2=b2
  ·by_cases h3:a3=b3
   ·by_cases h5:a5=b5
    ·simp [h1,h2,h3,h5]
    ·simp [h5]
   ·simp [h3]
  ·simp [h2]
 ·simp [h1]
theorem ACD (a b:List AG) (h:few a):JL a b=some (decide (a=b)):=by
 unfold JL Aa
 rw [<-Qv (p:=fun x y=>decide (x=y)) (fun _ _=>rfl) a b]
 have:=Xz a b (by have:=h.1; omega) EM (fun x y=>decide (x=y)) (fun x hx y _=>ADi x y (by have:=(h.2 x hx).2.1; omega)) (Ae a b) (fun f c=>rfl)
 exact (congrArg (fun o=>o.bind fun v1=>some v1) this)
/-- Names. -/
def Y9 (c:UInt8):Bool:=decide ((c.toNat:Int) < 97)||decide ((c.toNat:Int) > 122)
def Gp (s:List UInt8):Bool:=decide (1<=s.length)&&decide (s.length<=12)&&!s.any Y9
theorem V7:∀ (s:List UInt8) (i:Nat),goU (fun v _ (k:Option (Unit ⊕ Bool))=>if Y9 v=true then some (.inr false) else k) (some (.inl ())) s i=some (if s.any Y9=true then .inr false else .inl ())
 | [],_=>rfl
 | c::s,i=>by
  unfold goU
  rw [V7 s (i + 1),List.any_cons]
  cases Y9 c <;> rfl
theorem ADY (s:List UInt8) (h:s.length<=99999):GH s 100000 0=some (if s.any Y9=true then .inr false else .inl ()):=by
 rw [<-V7 s 0]
 refine LM s (GH s) _ _ 100000 (by omega) (fun f pre v r e=>?_) (fun f=>?_)
 ·conv=>lhs; unfold GH
  rw [e,if_pos (G7 pre v r),D5,OS,OS,Fv pre v r (by rw [<-e]; omega)]
  unfold Y9
  by_cases h:(v.toNat:Int) < 97 <;> simp [h]
 ·conv=>lhs; unfold GH
  rw [if_neg (by simp)]
theorem ABi (s:List UInt8) (h:s.length<=99999):HU s 100000 0=some (if s.any Y9=true then .inr false else .inl ()):=by
 rw [<-V7 s 0]
 refine LM s (HU s) _ _ 100000 (by omega) (fun f pre v r e=>?_) (fun f=>?_)
 ·conv=>lhs; unfold HU
  rw [e,if_pos (G7 pre v r),D5,OS,OS,Fv pre v r (by rw [<-e]; omega)]
  unfold Y9
  by_cases h:(v.toNat:Int) < 97 <;> simp [h]
 ·conv=>lhs; unfold HU
  rw [if_neg (by simp)]
theorem Yb (s:List UInt8) (h:s.length<=99999):IG s=some (Gp s):=by
 unfold IG Gp
 rw [ADY s h,OS]
 cases hb:s.any Y9
 ·by_cases h1:s.length < 1
  ·have:s.length=0:=by omega
   simp [this]
  ·simp [show (s.length:Int)≥1 by omega,show 1<=s.length by omega]; omega
 ·simp
theorem Wx (s:List UInt8) (h:s.length<=99999):Lm s=some (Gp s):=by
 unfold Lm Gp
 by_cases h1:s.length < 1
 ·have:s.length=0:=by omega
  simp [this]
 ·by_cases h2:s.length > 12
  ·simp [show ¬ ((s.length:Int) < 1) by omega,show ((s.length:Int) > 12) by omega,show ¬ (s.length<=12) by omega]
  ·rw [ABi s h]
   cases hb:s.any Y9
   ·simp [show ¬ ((s.length:Int) < 1) by omega,show ¬ ((s.length:Int) > 12) by omega,show (s.length<=12) by omega,show 1<=s.length by omega]
   ·simp [show ¬ ((s.length:Int) < 1) by omega,show ¬ ((s.length:Int) > 12) by omega]
theorem ABu (l:List (List UInt8)) (h:l.length<=99999) (hs:∀ s ∈ l,s.length<=99999):Am l=some (l.any fun s=>!Gp s):=by
 unfold Am BJ
 obtain ⟨n,h1,h2⟩:=PL l h Gu (fun s=>!Gp s) (fun x hx=>by unfold Gu; rw [Yb x (hs x hx)]; rfl) (BS l) (fun f c=>rfl)
 rw [<-h2]
 exact (congrArg (fun o=>o.bind fun v1=>some (decide (v1≥0))) h1)
def NO (l:List (List UInt8)) (s:List UInt8):Bool:=l.any fun v=>s==v
theorem K3 (l:List (List UInt8)) (s:List UInt8) (h:l.length<=99999):BO l s=some (NO l s):=by
 unfold BO CA
 obtain ⟨n,h1,h2⟩:=PL l h (fun v=>some (s==v)) (fun v=>s==v) (fun _ _=>rfl) (BW l s) (fun f c=>rfl)
 unfold NO
 rw [<-h2]
 exact (congrArg (fun o=>o.bind fun v1=>some (decide (v1≥0))) h1)
theorem YV (s:List UInt8):∀ (l:List (List UInt8)) (i:Nat),goU (fun v _ (k:Option (Unit ⊕ Bool))=>if (v==s)=true then some (.inr true) else k) (some (.inl ())) l i=some (if NO l s=true then .inr true else .inl ())
 | [],_=>rfl
 | c::l,i=>by
  unfold goU
  rw [YV s l (i + 1)]
  have:NO (c::l) s=((c==s)||NO l s):=by
   unfold NO
   rw [List.any_cons,Bool.beq_comm]
  rw [this]
  cases (c==s) <;> rfl
theorem Wt (l:List (List UInt8)) (s:List UInt8) (h:l.length<=99999):Ht l s=some (NO l s):=by
 unfold Ht
 have e:=AEh l (Jc l s) (fun v _ (k:Option (Unit ⊕ Bool))=>if (v==s)=true then some (.inr true) else k) (some (.inl ())) 100000 (by omega) (by omega) (fun f c=>rfl)
 rw [e,YV]
 cases NO l s <;> rfl
/-- What is asked of the fields, by a row: names, from, to, last. -/
def fin (L:Nat) (n:Int) (la:Bool) (w:Int×Int×Int×Bool):Option Bool :=
 (if (decide ((L:Int)<=w.1))=true then if (w.1==0)=true then if (decide (n≥w.2.1))=true then if (decide (n<=w.2.2.1))=true then if w.2.2.2=true then some true else some (!la) else some false else some false else if (decide ((L:Int) > 0))=true then if (decide (n≥w.2.1))=true then if (decide (n<=w.2.2.1))=true then if w.2.2.2=true then some true else some (!la) else some false else some false else some false else some false).bind fun j58=>some j58
theorem Oq (L:Nat) (n:Int) (la:Bool) (a lo hi:Int) (last:Bool):fin L n la (a,lo,hi,last)=some ((decide ((L:Int)<=a)&&(a==0||decide ((L:Int) > 0)))&&(decide (n≥lo)&&(decide (n<=hi)&&(last||!la)))):=by
 unfold fin
 dsimp only
 generalize decide ((L:Int)<=a)=b1
 generalize (a==0)=b2
 generalize decide ((L:Int) > 0)=b3
 generalize decide (n≥lo)=b4
 generalize decide (n<=hi)=b5
 cases b1 <;> cases b2 <;> cases b3 <;> cases b4 <;> cases b5 <;> cases last <;> cases la <;> rfl
theorem VD (x:AG):∃ b,CY x=some b/\BI x=some b:=by
 obtain ⟨k,am,la,nm,n⟩:=x
 by_cases h1:k=1
 ·subst h1
  have hr:BI (1,am,la,nm,n)=some ((decide (1<=(nm.length:Int))&&decide ((nm.length:Int)<=16))&&((n==0)&&(!la&&(am==[])))):=by
   unfold BI
   unfold BV
   dsimp only
   generalize decide (1<=(nm.length:Int))=b0
   generalize decide ((nm.length:Int)<=16)=b1
   generalize (n==0)=b2
   generalize (am==[])=b3
   cases b0 <;> cases b1 <;> cases b2 <;> cases la <;> cases b3 <;> rfl
  refine ⟨_,?_,hr⟩
  cases am with
  | cons a am =>
   have hc:CY (1,a::am,la,nm,n)=some false:=rfl
   rw [hc]
   simp
  | nil =>
   have hc:CY (1,[],la,nm,n)=fin nm.length n la (16,0,0,false):=rfl
   rw [hc,Oq]
   congr 1
   rw [Bool.eq_iff_iff]
   generalize nm.length=L
   cases la <;> simp <;> omega
 by_cases h2:k=2
 ·subst h2
  have hr:BI (2,am,la,nm,n)=some (((nm.length:Int)==0)&&((n==0)&&!la)):=by
   unfold BI
   unfold BV
   dsimp only
   generalize ((nm.length:Int)==0)=b0
   generalize (n==0)=b1
   cases b0 <;> cases b1 <;> cases la <;> rfl
  refine ⟨_,?_,hr⟩
  have hc:CY (2,am,la,nm,n)=fin nm.length n la (0,0,0,false):=rfl
  rw [hc,Oq]
  congr 1
  rw [Bool.eq_iff_iff]
  generalize nm.length=L
  cases la <;> simp <;> omega
 by_cases h3:k=3
 ·subst h3
  have hr:BI (3,am,la,nm,n)=some (((nm.length:Int)==0)&&((n==0)&&!la)):=by
   unfold BI
   unfold BV
   dsimp only
   generalize ((nm.length:Int)==0)=b0
   generalize (n==0)=b1
   cases b0 <;> cases b1 <;> cases la <;> rfl
  refine ⟨_,?_,hr⟩
  have hc:CY (3,am,la,nm,n)=fin nm.length n la (0,0,0,false):=rfl
  rw [hc,Oq]
  congr 1
  rw [Bool.eq_iff_iff]
  generalize nm.length=L
  cases la <;> simp <;> omega
 by_cases h8:k=8
 ·subst h8
  have hr:BI (8,am,la,nm,n)=some (((nm.length:Int)==0)&&((n==0)&&!la)):=by
   unfold BI
   unfold BV
   dsimp only
   generalize ((nm.length:Int)==0)=b0
   generalize (n==0)=b1
   cases b0 <;> cases b1 <;> cases la <;> rfl
  refine ⟨_,?_,hr⟩
  have hc:CY (8,am,la,nm,n)=fin nm.length n la (0,0,0,false):=rfl
  rw [hc,Oq]
  congr 1
  rw [Bool.eq_iff_iff]
  generalize nm.length=L
  cases la <;> simp <;> omega
 by_cases h9:k=9
 ·subst h9
  have hr:BI (9,am,la,nm,n)=some (((nm.length:Int)==0)&&((n==0)&&!la)):=by
   unfold BI
   unfold BV
   dsimp only
   generalize ((nm.length:Int)==0)=b0
   generalize (n==0)=b1
   cases b0 <;> cases b1 <;> cases la <;> rfl
  refine ⟨_,?_,hr⟩
  have hc:CY (9,am,la,nm,n)=fin nm.length n la (0,0,0,false):=rfl
  rw [hc,Oq]
  congr 1
  rw [Bool.eq_iff_iff]
  generalize nm.length=L
  cases la <;> simp <;> omega
 by_cases h4:k=4
 ·subst h4
  have hr:BI (4,am,la,nm,n)=some (((nm.length:Int)==0)&&(decide (1<=n)&&decide (n<=2))):=by
   unfold BI
   unfold BV
   dsimp only
   generalize ((nm.length:Int)==0)=b0
   generalize decide (1<=n)=b1
   generalize decide (n<=2)=b2
   cases b0 <;> cases b1 <;> cases b2 <;> cases la <;> rfl
  refine ⟨_,?_,hr⟩
  have hc:CY (4,am,la,nm,n)=fin nm.length n la (0,1,2,true):=rfl
  rw [hc,Oq]
  congr 1
  rw [Bool.eq_iff_iff]
  generalize nm.length=L
  cases la <;> simp <;> omega
 by_cases h5:k=5
 ·subst h5
  have hr:BI (5,am,la,nm,n)=some (((nm.length:Int)==0)&&(n==0)):=by
   unfold BI
   unfold BV
   dsimp only
   generalize ((nm.length:Int)==0)=b0
   generalize (n==0)=b1
   cases b0 <;> cases b1 <;> cases la <;> rfl
  refine ⟨_,?_,hr⟩
  have hc:CY (5,am,la,nm,n)=fin nm.length n la (0,0,0,true):=rfl
  rw [hc,Oq]
  congr 1
  rw [Bool.eq_iff_iff]
  generalize nm.length=L
  cases la <;> simp <;> omega
 by_cases h6:k=6
 ·subst h6
  have hr:BI (6,am,la,nm,n)=some ((decide (1<=(nm.length:Int))&&decide ((nm.length:Int)<=16))&&(n==0)):=by
   unfold BI
   unfold BV
   dsimp only
   generalize decide (1<=(nm.length:Int))=b0
   generalize decide ((nm.length:Int)<=16)=b1
   generalize (n==0)=b2
   cases b0 <;> cases b1 <;> cases b2 <;> cases la <;> rfl
  refine ⟨_,?_,hr⟩
  have hc:CY (6,am,la,nm,n)=fin nm.length n la (16,0,0,true):=rfl
  rw [hc,Oq]
  congr 1
  rw [Bool.eq_iff_iff]
  generalize nm.length=L
  cases la <;> simp <;> omega
 by_cases h7:k=7
 ·subst h7
  have hr:BI (7,am,la,nm,n)=some ((decide (1<=(nm.length:Int))&&decide ((nm.length:Int)<=16))&&(n==0)):=by
   unfold BI
   unfold BV
   dsimp only
   generalize decide (1<=(nm.length:Int))=b0
   generalize decide ((nm.length:Int)<=16)=b1
   generalize (n==0)=b2
   cases b0 <;> cases b1 <;> cases b2 <;> cases la <;> rfl
  refine ⟨_,?_,hr⟩
  have hc:CY (7,am,la,nm,n)=fin nm.length n la (16,0,0,true):=rfl
  rw [hc,Oq]
  congr 1
  rw [Bool.eq_iff_iff]
  generalize nm.length=L
  cases la <;> simp <;> omega
 by_cases h10:k=10
 ·subst h10
  have hr:BI (10,am,la,nm,n)=some (((nm.length:Int)==0)&&((decide (0<=n)&&decide (n<=63))&&!la)):=by
   unfold BI
   unfold BV
   dsimp only
   generalize ((nm.length:Int)==0)=b0
   generalize decide (0<=n)=b1
   generalize decide (n<=63)=b2
   cases b0 <;> cases b1 <;> cases b2 <;> cases la <;> rfl
  refine ⟨_,?_,hr⟩
  have hc:CY (10,am,la,nm,n)=fin nm.length n la (0,0,63,false):=rfl
  rw [hc,Oq]
  congr 1
  rw [Bool.eq_iff_iff]
  generalize nm.length=L
  cases la <;> simp <;> omega
 have e:∀ m:Int,(m=1\/m=2\/m=3\/m=4\/m=5\/m=6\/m=7\/m=8\/m=9\/m=10)->(k==m)=false:=fun m hm=>by
  rw [beq_eq_false_iff_ne]
  rintro rfl
  omega
 refine ⟨false,?_,?_⟩
 ·simp [CY,IN,IP,IQ,IR,IS,IT,IU,IV,IW,e]
 ·simp [BI,HY,HZ,Ha,Hb,e]
def fm (x:AG):Bool:=(BI x).getD false
theorem AE7 (x:AG):CY x=some (fm x):=by
 obtain ⟨b,h1,h2⟩:=VD x
 rw [h1]; unfold fm; rw [h2]; rfl
theorem AE8 (x:AG):BI x=some (fm x):=by
 obtain ⟨b,h1,h2⟩:=VD x
 unfold fm; rw [h2]; rfl
/-- Is a name there twice? -/
def AAb (l:List (List UInt8)):List (List UInt8)->Nat->Bool
 | [],_=>false
 | v::r,i=>NO (l.take i) v||AAb l r (i + 1)
def NS (before:List AG) (am:List UInt8):Bool:=before.any fun b=>(b.1==1)&&NO b.2.2.2.1 am
def chk (before:List AG) (x:AG):Int :=
 if fm x=false then 30 else
 if ((!(x.2.1==[]))&&!Gp x.2.1)=true\/(x.2.2.2.1.any fun s=>!Gp s)=true then 4 else
 if AAb x.2.2.2.1 x.2.2.2.1 0=true then 5 else
 if x.2.1=[]\/NS before x.2.1=true then 0 else 31
theorem V6 (l:List (List UInt8)):∀ (r:List (List UInt8)) (i:Nat),goU (fun v i (k:Option (Unit ⊕ Int))=>if NO (l.take i) v=true then some (.inr 5) else k) (some (.inl ())) r i=some (if AAb l r i=true then .inr 5 else .inl ())
 | [],_=>rfl
 | v::r,i=>by
  unfold goU AAb
  rw [V6 l r (i + 1)]
  cases NO (l.take i) v <;> rfl
theorem AEW (b:List AG) (j:AG) (h:j.2.2.2.1.length<=99999):Fc b j 100000 0=some (if AAb j.2.2.2.1 j.2.2.2.1 0=true then .inr 5 else .inl ()):=by
 rw [<-V6]
 refine LM j.2.2.2.1 (Fc b j) _ _ 100000 (by omega) (fun f pre v r e=>?_) (fun f=>?_)
 ·conv=>lhs; unfold Fc
  have hl:j.2.2.2.1.length=pre.length + r.length + 1:=by rw [e]; simp; omega
  rw [if_pos (by rw [e]; exact G7 pre v r),show idx j.2.2.2.1 (pre.length:Int)=some v by rw [e,D5],OS,if_pos (by unfold Ns; simp; omega),Int.toNat_natCast]
  rw [show ((j.2.2.2.1.take pre.length).drop (0:Int).toNat)=j.2.2.2.1.take pre.length from rfl,K3 _ _ (by simp; omega),OS,Fv pre v r (by rw [<-e]; omega)]
 ·conv=>lhs; unfold Fc
  rw [if_neg (by simp)]
theorem Z4 (b:List AG) (x:AG) (h:b.length<=99999) (hb:∀ y ∈ b,y.2.2.2.1.length<=99999):Ah b x=some (NS b x.2.1):=by
 unfold Ah Ax
 obtain ⟨n,h1,h2⟩:=PL b h (fun v=>Gv v x) (fun y=>(y.1==1)&&NO y.2.2.2.1 x.2.1) (fun y hy=>by
  unfold Gv
  rw [K3 _ _ (hb y hy)]
  cases (y.1==1) <;> rfl) (A6 b x) (fun f c=>rfl)
 unfold NS
 rw [<-h2]
 exact (congrArg (fun o=>o.bind fun v1=>some (decide (v1≥0))) h1)
theorem AEQ (b:List AG) (x:AG) (hb:few b) (hx:YO x):H0 b x=some (chk b x):=by
 have hn:∀ s ∈ x.2.2.2.1,s.length<=99999:=fun s hs=>by have:=hx.2.2 s hs; omega
 unfold H0 chk
 rw [AE7,OS]
 cases hf:fm x with
 | false=>simp
 | true =>
  rw [if_neg (show ¬ ((!true)=true) by simp),if_neg (show ¬ (true=false) by simp),ABu _ (by have:=hx.2.1; omega) hn,Yb _ (by have:=hx.1; omega)]
  have e:((if (!(x.2.1==[]))=true then (some (Gp x.2.1)).bind fun v3=>if (!v3)=true then some true else (some (x.2.2.2.1.any fun s=>!Gp s)).bind fun v4=>some v4 else (some (x.2.2.2.1.any fun s=>!Gp s)).bind fun v5=>some v5):Option Bool)=some (((!(x.2.1==[]))&&!Gp x.2.1)||(x.2.2.2.1.any fun s=>!Gp s)):=by
   cases (x.2.1==[]) <;> cases Gp x.2.1 <;> rfl
  rw [e,OS]
  cases hq:(((!(x.2.1==[]))&&!Gp x.2.1)||(x.2.2.2.1.any fun s=>!Gp s)) with
  | true=>rw [if_pos rfl,if_pos (by simpa using hq)]
  | false =>
   rw [if_neg (show ¬ (false=true) by simp),if_neg (show ¬ (((!(x.2.1==[]))&&!Gp x.2.1)=true\/(x.2.2.2.1.any fun s=>!Gp s)=true) by simpa using hq),AEW _ _ (by have:=hx.2.1; omega),OS]
   try dsimp only
   cases hd:AAb x.2.2.2.1 x.2.2.2.1 0 with
   | true=>rfl
   | false =>
    rw [if_neg (show ¬ (false=true) by simp)]
    dsimp only
    have hr:=Z4 b x (by have:=hb.1; omega) (fun y hy=>by have:=(hb.2 y hy).2.1; omega)
    rw [hr]
    by_cases ha:x.2.1=[]
    ·simp [ha]
    ·simp only [ha,false_or]
     cases NS b x.2.1 <;> simp [ha]
/-- .. of the reference. -/
theorem AAf:∀ (l:List (List UInt8)) (i:Nat),goU (fun v _ (k:Option (Unit ⊕ Int))=>if (!Gp v)=true then some (.inr 4) else k) (some (.inl ())) l i=some (if (l.any fun s=>!Gp s)=true then .inr 4 else .inl ())
 | [],_=>rfl
 | v::r,i=>by
  unfold goU
  rw [AAf r (i + 1),List.any_cons]
  cases Gp v <;> rfl
theorem AAg (am:List UInt8):∀ (l:List AG) (i:Nat),goU (fun (v:AG) _ (k:Option (Unit ⊕ Int))=>if ((v.1==1)&&NO v.2.2.2.1 am)=true then some (.inr 0) else k) (some (.inl ())) l i=some (if NS l am=true then .inr 0 else .inl ())
 | [],_=>rfl
 | v::r,i=>by
  unfold goU
  have:NS (v::r) am=(((v.1==1)&&NO v.2.2.2.1 am)||NS r am):=rfl
  rw [AAg am r (i + 1),this]
  cases ((v.1==1)&&NO v.2.2.2.1 am) <;> rfl
section
variable (c pre r:List AG) (x:AG) (e:c=pre++x::r) (h:few c)
include e h
theorem Ym:D1 c (pre.length:Int) 100000 0=some (if (x.2.2.2.1.any fun s=>!Gp s)=true then .inr 4 else .inl ()):=by
 have hx:YO x:=h.2 x (by rw [e]; simp)
 have hi:idx c (pre.length:Int)=some x:=by rw [e,D5]
 rw [<-AAf _ 0]
 refine LM x.2.2.2.1 (D1 c (pre.length:Int)) _ _ 100000 (by have:=hx.2.1; omega) (fun f p v q e'=>?_) (fun f=>?_)
 ·conv=>lhs; unfold D1
  have hv:=hx.2.2 v (by rw [e']; simp)
  rw [hi,OS,if_pos (by rw [e']; exact G7 p v q),OS,show idx x.2.2.2.1 (p.length:Int)=some v by rw [e',D5],OS,Wx v (by omega),OS,Fv p v q (by have:=hx.2.1; rw [<-e']; omega)]
 ·conv=>lhs; unfold D1
  rw [hi,OS,if_neg (by simp)]
theorem AB8:D2 c (pre.length:Int) 100000 0=some (if AAb x.2.2.2.1 x.2.2.2.1 0=true then .inr 5 else .inl ()):=by
 have hx:YO x:=h.2 x (by rw [e]; simp)
 have hi:idx c (pre.length:Int)=some x:=by rw [e,D5]
 rw [<-V6]
 refine LM x.2.2.2.1 (D2 c (pre.length:Int)) _ _ 100000 (by have:=hx.2.1; omega) (fun f p v q e'=>?_) (fun f=>?_)
 ·conv=>lhs; unfold D2
  have hl:x.2.2.2.1.length=p.length + q.length + 1:=by rw [e']; simp; omega
  have:=hx.2.1
  rw [hi,OS,if_pos (by rw [e']; exact G7 p v q),OS,if_pos (by unfold Ns; simp; omega),OS,show idx x.2.2.2.1 (p.length:Int)=some v by rw [e',D5],OS,Int.toNat_natCast,
   show ((x.2.2.2.1.take p.length).drop (0:Int).toNat)=x.2.2.2.1.take p.length from rfl,Wt _ _ (by simp; omega),OS,Fv p v q (by rw [<-e']; omega)]
 ·conv=>lhs; unfold D2
  rw [hi,OS,if_neg (by simp)]
theorem Xi:D3 c (pre.length:Int) 100000 0=some (if NS pre x.2.1=true then .inr 0 else .inl ()):=by
 have hi:idx c (pre.length:Int)=some x:=by rw [e,D5]
 have hl:c.length=pre.length + r.length + 1:=by rw [e]; simp; omega
 have hc:=h.1
 rw [<-AAg _ _ 0]
 refine LM pre (D3 c (pre.length:Int)) _ _ 100000 (by omega) (fun f p v q e'=>?_) (fun f=>?_)
 ·conv=>lhs; unfold D3
  have hv:YO v:=h.2 v (by rw [e,e']; simp)
  have hl2:pre.length=p.length + q.length + 1:=by rw [e']; simp; omega
  rw [if_pos (by simp; omega),show idx c (p.length:Int)=some v by rw [e,e',List.append_assoc,List.cons_append,D5],OS,hi,OS,OS,Wt _ _ (by have:=hv.2.1; omega),Fv p v q (by rw [<-e']; omega)]
  cases (v.1==1) <;> rfl
 ·conv=>lhs; unfold D3
  rw [if_neg (by simp)]
theorem AER:GQ c (pre.length:Int)=some (chk pre x):=by
 have hx:YO x:=h.2 x (by rw [e]; simp)
 have hi:idx c (pre.length:Int)=some x:=by rw [e,D5]
 unfold GQ chk
 rw [hi,OS,AE8,OS,OS,OS,Ym c pre r x e h,AB8 c pre r x e h,Xi c pre r x e h,Wx _ (by have:=hx.1; omega)]
 cases hf:fm x with
 | false=>simp
 | true =>
  rw [if_neg (show ¬ ((!true)=true) by simp),if_neg (show ¬ (true=false) by simp)]
  have e2:((if (!(x.2.1==[]))=true then (some (Gp x.2.1)).bind fun v6=>some (!v6) else some false):Option Bool)=some ((!(x.2.1==[]))&&!Gp x.2.1):=by
   cases (x.2.1==[]) <;> rfl
  rw [e2,OS,OS]
  cases hq:((!(x.2.1==[]))&&!Gp x.2.1) <;> cases hn:(x.2.2.2.1.any fun s=>!Gp s) <;> cases hd:AAb x.2.2.2.1 x.2.2.2.1 0 <;> cases hr:NS pre x.2.1 <;> by_cases ha:x.2.1=[] <;> simp [ha]
end
/-- The first error of a text: its place, and which. -/
def XU (c:List AG):List AG->Nat->Unit ⊕ (Int×Int)
 | [],_=> .inl ()
 | x::r,i=>if chk (c.take i) x≠0 then .inr ((i:Int),chk (c.take i) x) else XU c r (i + 1)
def Tk (c:List AG):Int×Int:=if c.length > 32 then (0,7) else match XU c c 0 with
 | .inl _=>(0,0)
 | .inr w=>w
theorem V5 (c:List AG):∀ (r:List AG) (i:Nat),goU (fun x i (k:Option (Unit ⊕ (Int×Int)))=>if (chk (c.take i) x != 0)=true then some (.inr ((i:Int),chk (c.take i) x)) else k) (some (.inl ())) r i=some (XU c r i)
 | [],_=>rfl
 | x::r,i=>by
  unfold goU XU
  rw [V5 c r (i + 1)]
  by_cases h:chk (c.take i) x=0 <;> simp [h]
theorem ZY {c:List AG}(h:few c) (n:Nat):few (c.take n):=⟨by have:=h.1; simp; omega,fun x hx=>h.2 x (List.mem_of_mem_take hx)⟩
theorem X9 (c:List AG) (h:few c):HN c=some (Tk c):=by
 have hl:=h.1
 have e1:Fb c 100000 0=some (XU c c 0):=by
  rw [<-V5]
  refine LM c (Fb c) _ _ 100000 (by omega) (fun f pre v r e=>?_) (fun f=>?_)
  ·conv=>lhs; unfold Fb
   have hl2:c.length=pre.length + r.length + 1:=by rw [e]; simp; omega
   rw [if_pos (by rw [e]; exact G7 pre v r),show idx c (pre.length:Int)=some v by rw [e,D5],OS,if_pos (by unfold Ns; simp; omega),Int.toNat_natCast,
    show ((c.take pre.length).drop (0:Int).toNat)=c.take pre.length from rfl,AEQ _ v (ZY h _) (h.2 v (by rw [e]; simp)),OS,Fv pre v r (by rw [<-e]; omega)]
  ·conv=>lhs; unfold Fb
   rw [if_neg (by simp)]
 unfold HN Tk
 by_cases h32:c.length > 32
 ·rw [if_pos (by simp; omega),if_pos h32]
 ·rw [if_neg (by simp; omega),if_neg h32,e1,OS]
  cases XU c c 0 <;> rfl
theorem ABJ (c:List AG) (h:few c):IB c=some (Tk c):=by
 have hl:=h.1
 have e1:Fe c 100000 0=some (XU c c 0):=by
  rw [<-V5]
  refine LM c (Fe c) _ _ 100000 (by omega) (fun f pre v r e=>?_) (fun f=>?_)
  ·conv=>lhs; unfold Fe
   rw [if_pos (by rw [e]; exact G7 pre v r),AER c pre r v e h,OS,Fv pre v r (by rw [<-e]; omega),show c.take pre.length=pre by rw [e]; simp]
  ·conv=>lhs; unfold Fe
   rw [if_neg (by simp)]
 unfold IB Tk
 by_cases h32:c.length > 32
 ·rw [if_pos (by simp; omega),if_pos h32]
 ·rw [if_neg (by simp; omega),if_neg h32,e1,OS]
  cases XU c c 0 <;> rfl
/- trestle/court.Reason -/
/- trestle/court.Compare -/
/-- The first of a word in a list, from a number on. -/
def rkN (s:List UInt8):List (List UInt8)->Nat->Nat
 | [],i=>i
 | v::r,i=>if (s==v)=true then i else rkN s r (i + 1)
theorem Yo (s:List UInt8):∀ (l:List (List UInt8)) (i:Nat),NO l s=false->rkN s l i=i + l.length
 | [],i,_=>rfl
 | v::r,i,h=>by
  have h':((s==v)||NO r s)=false:=h
  simp only [Bool.or_eq_false_iff] at h'
  unfold rkN
  rw [if_neg (show ¬ (s==v)=true by rw [h'.1]; decide),Yo s r (i + 1) h'.2]
  simp; omega
theorem YW (s:List UInt8):∀ (l:List (List UInt8)) (i:Nat),goU (fun v i (k:Option (Unit ⊕ Int))=>if (s==v)=true then some (.inr (i:Int)) else k) (some (.inl ())) l i=some (if NO l s=true then .inr (rkN s l i:Int) else .inl ())
 | [],_=>rfl
 | v::r,i=>by
  unfold goU rkN
  rw [YW s r (i + 1)]
  have:NO (v::r) s=((s==v)||NO r s):=rfl
  rw [this]
  cases (s==v) <;> rfl
theorem ABf (s:List UInt8) (l:List (List UInt8)) (i:Nat):goU (fun v i (k:Option (Unit ⊕ Int))=>if (v==s)=true then some (.inr (i:Int)) else k) (some (.inl ())) l i=some (if NO l s=true then .inr (rkN s l i:Int) else .inl ()):=by
 rw [<-YW]
 congr 1
 funext v i k
 rw [Bool.beq_comm]
def rk (l:List (List UInt8)) (s:List UInt8):Int:=(rkN s l 0:Nat)
theorem AAk (x:A5) (c:AG) (h:c.2.2.2.1.length<=99999):Eh x c=some (rk c.2.2.2.1 x.1.2.1):=by
 unfold Eh CA
 have e:BW c.2.2.2.1 x.1.2.1 100000 0=some (if NO c.2.2.2.1 x.1.2.1=true then .inr (rkN x.1.2.1 c.2.2.2.1 0:Int) else .inl ()):=by
  rw [<-YW]
  refine LM c.2.2.2.1 (BW c.2.2.2.1 x.1.2.1) _ _ 100000 (by omega) (fun f pre v r e=>?_) (fun f=>?_)
  ·conv=>lhs; unfold BW
   rw [if_pos (by rw [e]; exact G7 pre v r),show idx c.2.2.2.1 (pre.length:Int)=some v by rw [e,D5],OS,Fv pre v r (by rw [<-e]; omega)]
  ·conv=>lhs; unfold BW
   rw [if_neg (by simp)]
 rw [e]
 cases hh:NO c.2.2.2.1 x.1.2.1 with
 | true=>simp [rk]
 | false=>simp [rk,Yo _ _ _ hh]
theorem AAl (l:List (List UInt8)) (s:List UInt8) (h:l.length<=99999):IJ l s=some (rk l s):=by
 unfold IJ
 have e:GM l s 100000 0=some (if NO l s=true then .inr (rkN s l 0:Int) else .inl ()):=by
  rw [<-ABf]
  refine LM l (GM l s) _ _ 100000 (by omega) (fun f pre v r e=>?_) (fun f=>?_)
  ·conv=>lhs; unfold GM
   rw [if_pos (by rw [e]; exact G7 pre v r),show idx l (pre.length:Int)=some v by rw [e,D5],OS,Fv pre v r (by rw [<-e]; omega)]
  ·conv=>lhs; unfold GM
   rw [if_neg (by simp)]
 rw [e]
 cases hh:NO l s with
 | true=>simp [rk]
 | false=>simp [rk,Yo _ _ _ hh]
/-- -1, 0 or 1. -/
def NK (x y:Int):Int:=if x < y then -1 else if y < x then 1 else 0
theorem ZM (x y:Int):Cy x y=some (NK x y):=by
 unfold Cy Gt NK
 simp only [bne_self_eq_false,OS,Bool.false_eq_true,if_false,decide_eq_true_eq,gt_iff_lt]
 split
 ·rfl
 ·split <;> rfl
def Xq (x y:List UInt8):Int:=if Go.Op.bytesLess x y=true then -1 else if (!(Go.Op.bytesLess x y||x==y))=true then 1 else 0
theorem AES (x y:List UInt8):EC x y=some (Xq x y):=by
 unfold EC FH Xq
 simp only [beq_self_eq_true,Bool.not_true,OS,Bool.false_eq_true,if_false]
 split
 ·rfl
 ·split <;> rfl
/-- Does a clause name a guest? -/
def nmB (c:AG) (g:Ai):Bool :=
 if (c.1==4)=true then g.2.2.2.2.1==c.2.2.2.2 else
 if (c.1==5)=true then g.2.2.2.2.2.2.1 else
 if (c.1==7)=true then NO c.2.2.2.1 g.2.2.1 else g.2.2.2.2.2.2.2.2.any fun s=>NO c.2.2.2.1 s
theorem AAh (l:List (List UInt8)):∀ (t:List (List UInt8)) (i:Nat),goU (fun v _ (k:Option (Unit ⊕ Bool))=>if NO l v=true then some (.inr true) else k) (some (.inl ())) t i=some (if (t.any fun s=>NO l s)=true then .inr true else .inl ())
 | [],_=>rfl
 | v::r,i=>by
  unfold goU
  rw [AAh l r (i + 1),List.any_cons]
  cases NO l v <;> rfl
theorem Yc (c:AG) (g:Ai) (h:c.2.2.2.1.length<=99999) (ht:g.2.2.2.2.2.2.2.2.length<=99999):GR c g=some (nmB c g):=by
 unfold GR nmB
 split
 ·rfl
 split
 ·rfl
 split
 ·rw [Wt _ _ h]; rfl
 have e:Ff c g 100000 0=some (if (g.2.2.2.2.2.2.2.2.any fun s=>NO c.2.2.2.1 s)=true then .inr true else .inl ()):=by
  rw [<-AAh _ _ 0]
  refine LM g.2.2.2.2.2.2.2.2 (Ff c g) _ _ 100000 (by omega) (fun f pre v r e=>?_) (fun f=>?_)
  ·conv=>lhs; unfold Ff
   rw [if_pos (by rw [e]; exact G7 pre v r),show idx g.2.2.2.2.2.2.2.2 (pre.length:Int)=some v by rw [e,D5],OS,Wt _ _ h,OS,Fv pre v r (by rw [<-e]; omega)]
  ·conv=>lhs; unfold Ff
   rw [if_neg (by simp)]
 rw [e]
 cases (g.2.2.2.2.2.2.2.2.any fun s=>NO c.2.2.2.1 s) <;> rfl
theorem Vf (t:List (List UInt8)) (c:AG) (ht:t.length<=99999) (h:c.2.2.2.1.length<=99999):Ap t c=some (t.any fun s=>NO c.2.2.2.1 s):=by
 unfold Ap BA
 obtain ⟨n,h1,h2⟩:=PL t ht (fun v=>Fp v c) (fun s=>NO c.2.2.2.1 s) (fun v _=>by unfold Fp; rw [K3 _ _ h]; rfl) (BQ t c) (fun f c=>rfl)
 rw [<-h2]
 exact (congrArg (fun o=>o.bind fun v1=>some (decide (v1≥0))) h1)
def nv (c:AG) (g:Ai):Int:=if (!(nmB c g==c.2.2.1))=true then 0 else 1
def O9 (i:Int):Bool:=decide (i≥0)&&decide (i<=63)
theorem AEe (i:Int):Db i=some (O9 i):=by
 unfold Db O9
 by_cases h:i≥0 <;> simp [h]
theorem ADK (i:Int):BV i 0 63=some (O9 i):=by
 unfold BV O9
 by_cases h:i≥0 <;> simp [h]
def kyI (i n:Int):Int:=(wr .i64 ((wr .i64 (i * (wr .i64 ((wr .i64 (n + n)) + 1)))) + n)).tmod 64
theorem AEg (i:Int) (c:AG):FS i c=some (kyI i c.2.2.2.2):=by
 unfold FS kyI
 rw [Int.two_mul]
theorem ADP (i n:Int):LR i n=some (kyI i n):=rfl
def b2 (b:Bool):Int:=if b=true then 1 else 0
theorem AE5 (b:Bool):K4 b=some (b2 b):=by cases b <;> rfl
def snc (y:Bool) (s t:Int):Int:=if (!((s==0)==(t==0)))=true then NK (b2 (s==0)) (b2 (t==0)) else if y=true then wr .i64 (0 - NK s t) else NK s t
/-- What a clause says of two guests at their places, without regard to Among. -/
def Ri (c:AG) (a b:Ai) (i j:Int):Int :=
 if (c.1==1)=true then NK (rk c.2.2.2.1 a.2.1) (rk c.2.2.2.1 b.2.1) else
 if (c.1==2)=true then snc false a.2.2.2.1 b.2.2.2.1 else
 if (c.1==3)=true then snc true a.2.2.2.1 b.2.2.2.1 else
 if (c.1==8)=true then Xq a.1 b.1 else
 if (c.1==9)=true then if (!O9 i||!O9 j)=true then 0 else NK i j else
 if (c.1==10)=true then if (!O9 i||!O9 j)=true then 0 else NK (kyI i c.2.2.2.2) (kyI j c.2.2.2.2) else
 NK (nv c a) (nv c b)
def amB (c:AG) (a b:Ai):Bool:=(!(c.2.1==[]))&&((!(a.2.1==c.2.1))||(!(b.2.1==c.2.1)))
def dir (c:AG) (a b:Ai) (i j:Int):Int:=if amB c a b=true then 0 else Ri c a b i j
theorem AEr (c:AG) (a b:Ai):((if (!(c.2.1==[]))=true then if (!(a.2.1==c.2.1))=true then some true else some (!(b.2.1==c.2.1)) else some false):Option Bool)=some (amB c a b):=by
 unfold amB
 cases (c.2.1==[]) <;> cases (a.2.1==c.2.1) <;> rfl
theorem W7 (a b:Ai) (i j:Int) (c:AG):Dt (a,i) (b,j) c=some (snc (c.1==3) a.2.2.2.1 b.2.2.2.1):=by
 unfold Dt snc Hw
 simp only [AE5,ZM,OS]
 split
 ·rfl
 ·split <;> rfl
theorem AEU (c:AG) (a b:Ai) (i j:Int) (h:c.2.2.2.1.length<=99999) (ha:a.2.2.2.2.2.2.2.2.length<=99999) (hb:b.2.2.2.2.2.2.2.2.length<=99999) (hk:1<=c.1/\c.1<=10):Fo (a,i) (b,j) c=some (dir c a b i j):=by
 have cl:∀ (o:Option Int) (x:Int),o=some x->((((if (!(c.2.1==[]))=true then if (!(a.2.1==c.2.1))=true then some true else some (!(b.2.1==c.2.1)) else some false):Option Bool).bind fun j2=>if j2=true then some 0 else o.bind fun v4=>some v4):Option Int)=some (if amB c a b=true then 0 else x):=fun o x e=>by
  rw [AEr,OS,e]
  cases amB c a b <;> rfl
 have nm:∀ (p q:Bool),((if (!(p==c.2.2.1))=true then some 0 else some 1:Option Int).bind fun v1=>(if (!(q==c.2.2.1))=true then some 0 else some 1:Option Int).bind fun v2=>(Cy v1 v2).bind fun v3=>some v3)=some (NK (if (!(p==c.2.2.1))=true then 0 else 1) (if (!(q==c.2.2.1))=true then 0 else 1)):=fun p q=>by
  simp only [ZM]
  cases (p==c.2.2.1) <;> cases (q==c.2.2.1) <;> rfl
 have pl:∀ (o:Int->Option Int) (k:Int->Int),(∀ i,o i=some (k i))->(((Db i).bind fun v1=>((if (!v1)=true then some true else (Db j).bind fun v2=>some (!v2)):Option Bool).bind fun j4=>if j4=true then some 0 else (o i).bind fun v6=>(o j).bind fun v7=>(Cy v6 v7).bind fun v8=>some v8):Option Int)=some (if (!O9 i||!O9 j)=true then 0 else NK (k i) (k j)):=fun o k e=>by
  simp only [AEe,OS,e,ZM]
  cases O9 i <;> cases O9 j <;> rfl
 unfold Fo dir
 by_cases h1:c.1=1
 ·have e1:(c.1==1)=true:=by simp [h1]
  rw [if_pos e1]
  refine cl (C4 (fun x (v:AG×Unit)=>Eh x v.1) (a,i) (b,j) (c,())) _ ?_
  unfold C4 Ri
  dsimp only
  rw [if_pos e1,AAk _ c h,OS,AAk _ c h,OS,ZM]; rfl
 rw [if_neg (show ¬ (c.1==1)=true by simpa using h1)]
 by_cases h2:c.1=2
 ·have e2:(c.1==2)=true:=by simp [h2]
  rw [if_pos e2]
  refine cl (Dt (a,i) (b,j) c) _ ?_
  unfold Ri
  rw [if_neg (show ¬ (c.1==1)=true by simpa using h1),if_pos e2,W7,h2]; rfl
 rw [if_neg (show ¬ (c.1==2)=true by simpa using h2)]
 by_cases h3:c.1=3
 ·have e3:(c.1==3)=true:=by simp [h3]
  rw [if_pos e3]
  refine cl (Dt (a,i) (b,j) c) _ ?_
  unfold Ri
  rw [if_neg (show ¬ (c.1==1)=true by simpa using h1),if_neg (show ¬ (c.1==2)=true by simpa using h2),if_pos e3,W7,h3]; rfl
 rw [if_neg (show ¬ (c.1==3)=true by simpa using h3)]
 by_cases h4:c.1=4
 ·have e4:(c.1==4)=true:=by simp [h4]
  rw [if_pos e4]
  refine cl (C4 (fun x (v:AG×AG×Unit)=>Bm x v.1 v.2.1) (a,i) (b,j) (c,c,())) _ ?_
  have:Ri c a b i j=NK (nv c a) (nv c b):=by unfold Ri; simp [h4]
  rw [this]
  unfold nv nmB
  rw [if_pos e4,if_pos e4]
  exact nm _ _
 rw [if_neg (show ¬ (c.1==4)=true by simpa using h4)]
 by_cases h5:c.1=5
 ·have e5:(c.1==5)=true:=by simp [h5]
  rw [if_pos e5]
  refine cl (C4 (fun x (v:Unit×AG×Unit)=>Bn x v.2.1) (a,i) (b,j) ((),c,())) _ ?_
  have:Ri c a b i j=NK (nv c a) (nv c b):=by unfold Ri; simp [h5]
  rw [this]
  unfold nv nmB
  simp only [h5]
  exact nm _ _
 rw [if_neg (show ¬ (c.1==5)=true by simpa using h5)]
 by_cases h6:c.1=6
 ·have e6:(c.1==6)=true:=by simp [h6]
  rw [if_pos e6]
  refine cl (C4 (fun x (v:AG×AG×Unit)=>BX x v.1 v.2.1) (a,i) (b,j) (c,c,())) _ ?_
  have:Ri c a b i j=NK (nv c a) (nv c b):=by unfold Ri; simp [h6]
  rw [this]
  unfold C4 BX Hd
  dsimp only
  rw [Vf _ _ ha h,Vf _ _ hb h]
  unfold nv nmB
  simp only [h6]
  exact nm _ _
 rw [if_neg (show ¬ (c.1==6)=true by simpa using h6)]
 by_cases h7:c.1=7
 ·have e7:(c.1==7)=true:=by simp [h7]
  rw [if_pos e7]
  refine cl (C4 (fun x (v:AG×AG×Unit)=>BY x v.1 v.2.1) (a,i) (b,j) (c,c,())) _ ?_
  have:Ri c a b i j=NK (nv c a) (nv c b):=by unfold Ri; simp [h7]
  rw [this]
  unfold C4 BY He
  dsimp only
  rw [K3 _ _ h,K3 _ _ h]
  unfold nv nmB
  simp only [h7]
  exact nm _ _
 rw [if_neg (show ¬ (c.1==7)=true by simpa using h7)]
 by_cases h8:c.1=8
 ·have e8:(c.1==8)=true:=by simp [h8]
  rw [if_pos e8]
  refine cl (GJ (a,i) (b,j)) _ ?_
  have:Ri c a b i j=Xq a.1 b.1:=by unfold Ri; simp [h8]
  rw [this]
  unfold GJ
  rw [AES]; rfl
 rw [if_neg (show ¬ (c.1==8)=true by simpa using h8)]
 by_cases h10:c.1=10
 ·have e10:(c.1==10)=true:=by simp [h10]
  rw [if_pos e10]
  refine cl (Ay (a,i) (b,j) c) _ ?_
  have:Ri c a b i j=if (!O9 i||!O9 j)=true then 0 else NK (kyI i c.2.2.2.2) (kyI j c.2.2.2.2):=by unfold Ri; simp [h10]
  rw [this]
  exact pl (fun i=>FS i c) (fun i=>kyI i c.2.2.2.2) (fun i=>AEg i c)
 rw [if_neg (show ¬ (c.1==10)=true by simpa using h10)]
 have h9:c.1=9:=by omega
 refine cl (Az (a,i) (b,j)) _ ?_
 have:Ri c a b i j=if (!O9 i||!O9 j)=true then 0 else NK i j:=by unfold Ri; simp [h9]
 rw [this]
 exact pl (fun i=>Gx i) (fun i=>i) (fun i=>rfl)
/-- Does a guest go before another by a clause? -/
def bf (c:AG) (a b:Ai) (i j:Int):Bool :=
 if (c.1==1)=true then decide (rk c.2.2.2.1 a.2.1 < rk c.2.2.2.1 b.2.1) else
 if (c.1==2)=true then (a.2.2.2.1 != 0)&&((b.2.2.2.1==0)||decide (a.2.2.2.1 < b.2.2.2.1)) else
 if (c.1==3)=true then (a.2.2.2.1 != 0)&&((b.2.2.2.1==0)||decide (a.2.2.2.1 > b.2.2.2.1)) else
 if (c.1==8)=true then Go.Op.bytesLess a.1 b.1 else
 if (c.1==9)=true then O9 i&&(O9 j&&decide (i < j)) else
 if (c.1==10)=true then O9 i&&(O9 j&&decide (kyI i c.2.2.2.2 < kyI j c.2.2.2.2)) else
 if c.2.2.1=true then (!nmB c a)&&nmB c b else nmB c a&&!nmB c b
theorem Wg (c:AG) (a b:Ai) (i j:Int) (h:c.2.2.2.1.length<=99999) (ha:a.2.2.2.2.2.2.2.2.length<=99999) (hb:b.2.2.2.2.2.2.2.2.length<=99999):Gq c a b i j=some (bf c a b i j):=by
 unfold Gq bf
 rw [AAl _ _ h,AAl _ _ h,Yc c a h ha,Yc c b h hb,ADK,ADK,ADP,ADP]
 simp only [OS]
 split
 ·rfl
 split
 ·cases (a.2.2.2.1 != 0) <;> cases (b.2.2.2.1==0) <;> rfl
 split
 ·cases (a.2.2.2.1 != 0) <;> cases (b.2.2.2.1==0) <;> rfl
 split
 ·rfl
 split
 ·cases O9 i <;> cases O9 j <;> rfl
 split
 ·cases O9 i <;> cases O9 j <;> rfl
 split
 ·cases nmB c a <;> cases nmB c b <;> rfl
 ·cases nmB c a <;> cases nmB c b <;> rfl
theorem T6:∀ (x y:List UInt8),Go.Op.bytesLess x y=false->Go.Op.bytesLess y x=!(x==y)
 | [],[],_=>rfl
 | a::x,[],_=>rfl
 | [],b::y,h=>by cases h
 | a::x,b::y,h=>by
  have h':(decide (a < b)||(a==b&&Go.Op.bytesLess x y))=false:=h
  simp only [Bool.or_eq_false_iff,decide_eq_false_iff_not] at h'
  show (decide (b < a)||(b==a&&Go.Op.bytesLess y x))=!(a::x==b::y)
  by_cases e:a=b
  ·subst e
   have h2:Go.Op.bytesLess x y=false:=by simpa using h'.2
   have:=T6 x y h2
   simp [this]
  ·have hlt:b < a:=by
    rcases Nat.lt_trichotomy a.toNat b.toNat with q | q | q
    ·exact absurd (UInt8.lt_iff_toNat_lt.2 q) h'.1
    ·exact absurd (UInt8.toNat_inj.1 q) e
    ·exact UInt8.lt_iff_toNat_lt.2 q
   simp [hlt,e]
theorem Yt (y:Bool) (s t:Int):snc y s t=if ((s != 0)&&((t==0)||(if y=true then decide (s > t) else decide (s < t))))=true then -1 else if ((t != 0)&&((s==0)||(if y=true then decide (t > s) else decide (t < s))))=true then 1 else 0:=by
 have w1:wr .i64 1=1:=by decide
 have w2:wr .i64 (-1) = -1:=by decide
 have w3:wr .i64 0=0:=by decide
 unfold snc NK b2
 by_cases hs:s=0 <;> by_cases ht:t=0
 ·subst hs ht; cases y <;> simp [w3]
 ·subst hs; simp [ht]
 ·subst ht; simp [hs]
 ·have e1:(s==0)=false:=by simpa using hs
  have e2:(t==0)=false:=by simpa using ht
  have e3:(s != 0)=true:=by simpa using hs
  have e4:(t != 0)=true:=by simpa using ht
  rw [e1,e2,e3,e4]
  rcases Int.lt_trichotomy s t with q | q | q
  ·have q2:¬ t < s:=by omega
   cases y <;> simp [q,q2,w1]
  ·subst q; cases y <;> simp [w3]
  ·have q2:¬ s < t:=by omega
   cases y <;> simp [q,q2,w2]
theorem ADb (c:AG) (a b:Ai) (i j:Int):Ri c a b i j=if bf c a b i j=true then -1 else if bf c b a j i=true then 1 else 0:=by
 unfold Ri bf
 split
 ·unfold NK; simp
 split
 ·rw [Yt]; simp
 split
 ·rw [Yt]; simp
 split
 ·unfold Xq
  cases h:Go.Op.bytesLess a.1 b.1 with
  | true=>rfl
  | false=>rw [T6 _ _ h]; simp
 split
 ·unfold NK
  cases O9 i <;> cases O9 j <;> simp
 split
 ·unfold NK
  cases O9 i <;> cases O9 j <;> simp
 ·unfold nv NK
  cases nmB c a <;> cases nmB c b <;> cases c.2.2.1 <;> decide
/-- The first clause that separates two guests. -/
def rsn (a b:Ai) (i j:Int):List AG->Nat->Unit ⊕ (Int×Int)
 | [],_=> .inl ()
 | x::r,k=>if dir x a b i j=0 then rsn a b i j r (k + 1) else .inr ((k:Int),dir x a b i j)
def ACa (c:List AG) (a b:Ai) (i j:Int):Int×Int:=match rsn a b i j c 0 with
 | .inl _=>(-1,0)
 | .inr w=>w
theorem ADE (a b:Ai) (i j:Int):∀ (r:List AG) (k:Nat),goU (fun x k (n:Option (Unit ⊕ (Int×Int)))=>if (dir x a b i j != 0)=true then some (.inr ((k:Int),dir x a b i j)) else n) (some (.inl ())) r k=some (rsn a b i j r k)
 | [],_=>rfl
 | x::r,k=>by
  unfold goU rsn
  rw [ADE a b i j r (k + 1)]
  by_cases h:dir x a b i j=0 <;> simp [h]
theorem ADF (a b:Ai) (i j:Int):∀ (r:List AG) (k:Nat),goU (fun x k (n:Option (Unit ⊕ (Int×Int)))=>if amB x a b=true then n else if bf x a b i j=true then some (.inr ((k:Int),-1)) else if bf x b a j i=true then some (.inr ((k:Int),1)) else n) (some (.inl ())) r k=some (rsn a b i j r k)
 | [],_=>rfl
 | x::r,k=>by
  unfold goU rsn
  rw [ADF a b i j r (k + 1)]
  unfold dir
  rw [ADb]
  cases amB x a b <;> cases bf x a b i j <;> cases bf x b a j i <;> simp
def Wr (g:Ai):Prop:=g.2.2.2.2.2.2.2.2.length<=10
def ABh (c:List AG):Prop:=∀ x ∈ c,1<=x.1/\x.1<=10
theorem ABX (c:List AG) (a b:Ai) (i j:Int) (h:few c) (hk:ABh c) (ha:Wr a) (hb:Wr b):BH c (a,i) (b,j)=some (ACa c a b i j):=by
 have hl:=h.1
 have e:Au c 100000 a.1 a.2.1 a.2.2.1 a.2.2.2.1 a.2.2.2.2.1 a.2.2.2.2.2.1 a.2.2.2.2.2.2.1 a.2.2.2.2.2.2.2.1 a.2.2.2.2.2.2.2.2 i b.1 b.2.1 b.2.2.1 b.2.2.2.1 b.2.2.2.2.1 b.2.2.2.2.2.1 b.2.2.2.2.2.2.1 b.2.2.2.2.2.2.2.1 b.2.2.2.2.2.2.2.2 j 0=some (rsn a b i j c 0):=by
  rw [<-ADE]
  refine LM c (fun f n=>Au c f a.1 a.2.1 a.2.2.1 a.2.2.2.1 a.2.2.2.2.1 a.2.2.2.2.2.1 a.2.2.2.2.2.2.1 a.2.2.2.2.2.2.2.1 a.2.2.2.2.2.2.2.2 i b.1 b.2.1 b.2.2.1 b.2.2.2.1 b.2.2.2.2.1 b.2.2.2.2.2.1 b.2.2.2.2.2.2.1 b.2.2.2.2.2.2.2.1 b.2.2.2.2.2.2.2.2 j n) _ _ 100000 (by omega) (fun f pre v r e=>?_) (fun f=>?_)
  ·conv=>lhs; unfold Au
   have hv:YO v:=h.2 v (by rw [e]; simp)
   have hd:=AEU v a b i j (by have:=hv.2.1; omega) (by unfold Wr at ha; omega) (by unfold Wr at hb; omega) (hk v (by rw [e]; simp))
   rw [if_pos (by rw [e]; exact G7 pre v r),show idx c (pre.length:Int)=some v by rw [e,D5],OS]
   rw [show Fo ((a.1,a.2.1,a.2.2.1,a.2.2.2.1,a.2.2.2.2.1,a.2.2.2.2.2.1,a.2.2.2.2.2.2.1,a.2.2.2.2.2.2.2.1,a.2.2.2.2.2.2.2.2),i) ((b.1,b.2.1,b.2.2.1,b.2.2.2.1,b.2.2.2.2.1,b.2.2.2.2.2.1,b.2.2.2.2.2.2.1,b.2.2.2.2.2.2.2.1,b.2.2.2.2.2.2.2.2),j) v=some (dir v a b i j) from hd,OS,Fv pre v r (by rw [<-e]; omega)]
  ·show Au c (f + 1) a.1 a.2.1 a.2.2.1 a.2.2.2.1 a.2.2.2.2.1 a.2.2.2.2.2.1 a.2.2.2.2.2.2.1 a.2.2.2.2.2.2.2.1 a.2.2.2.2.2.2.2.2 i b.1 b.2.1 b.2.2.1 b.2.2.2.1 b.2.2.2.2.1 b.2.2.2.2.2.1 b.2.2.2.2.2.2.1 b.2.2.2.2.2.2.2.1 b.2.2.2.2.2.2.2.2 j (c.length:Int)=_
   conv=>lhs; unfold Au
   rw [if_neg (by simp)]
 unfold BH ACa
 dsimp only
 rw [e,OS]
 cases rsn a b i j c 0 <;> rfl
theorem Z6 (c:List AG) (a b:Ai) (i j:Int) (h:few c) (ha:Wr a) (hb:Wr b):HX c a b i j=some (ACa c a b i j):=by
 have hl:=h.1
 have e:EE c a b i j 100000 0=some (rsn a b i j c 0):=by
  rw [<-ADF]
  refine LM c (EE c a b i j) _ _ 100000 (by omega) (fun f pre v r e=>?_) (fun f=>?_)
  ·conv=>lhs; unfold EE
   have hv:YO v:=h.2 v (by rw [e]; simp)
   have hb1:=Wg v a b i j (by have:=hv.2.1; omega) (by unfold Wr at ha; omega) (by unfold Wr at hb; omega)
   have hb2:=Wg v b a j i (by have:=hv.2.1; omega) (by unfold Wr at hb; omega) (by unfold Wr at ha; omega)
   have hi:idx c (pre.length:Int)=some v:=by rw [e,D5]
   rw [if_pos (by rw [e]; exact G7 pre v r),hi,OS,OS,OS,AEr,OS,OS,OS,hb1,OS,hb2,OS,Fv pre v r (by rw [<-e]; omega)]
  ·conv=>lhs; unfold EE
   rw [if_neg (by simp)]
 unfold HX ACa
 rw [e,OS]
 cases rsn a b i j c 0 <;> rfl
theorem VQ (c:List AG) (h:few c) (hk:ABh c):∀ (r pre:List AG) (f:Nat),c=pre++r->r.length < f->Eq c f pre (pre.length:Int)=some c
 | [],pre,f + 1,e,_=>by
  unfold Eq
  rw [if_neg (by rw [e]; simp),e,List.append_nil]
 | v::r,pre,f + 1,e,hf=>by
  have hl:=h.1
  have hl2:c.length=pre.length + r.length + 1:=by rw [e]; simp; omega
  simp only [List.length_cons] at hf
  have hkv:=hk v (by rw [e]; simp)
  unfold Eq
  rw [if_pos (by rw [e]; exact G7 pre v r),show idx c (pre.length:Int)=some v by rw [e,D5],OS,show Gw v=some v by unfold Gw; rw [if_pos hkv],OS,if_pos (Hv (by omega) (by omega)),show wr .i64 ((pre.length:Int) + 1)=((pre++[v]).length:Int) from Fv pre v r (by rw [<-e]; omega)]
  exact VQ c h hk r (pre++[v]) f (by rw [e]; simp) (by omega)
theorem ABY {x:AG}(h:fm x=true):1<=x.1/\x.1<=10:=by
 by_cases hk:1<=x.1/\x.1<=10
 ·exact hk
 ·exfalso
  have n:∀ q:Int,1<=q->q<=10->¬ (x.1==q)=true:=fun q h1 h2 e=>hk (by have:x.1=q:=(by simpa using e); omega)
  have e:BI x=some false:=by
   unfold BI HY HZ Ha Hb
   have n9:(x.1==9)=false:=by simpa using n 9 (by omega) (by omega)
   have n7:(x.1==7)=false:=by simpa using n 7 (by omega) (by omega)
   rw [if_neg (n 1 (by omega) (by omega)),if_neg (n 2 (by omega) (by omega)),if_neg (n 3 (by omega) (by omega)),if_neg (n 8 (by omega) (by omega)),if_neg (n 4 (by omega) (by omega)),if_neg (n 5 (by omega) (by omega)),if_neg (n 6 (by omega) (by omega)),if_neg (n 10 (by omega) (by omega)),n9,n7]
   rfl
  unfold fm at h
  rw [e] at h
  cases h
theorem UA (c:List AG):∀ (r:List AG) (i:Nat),(∃ u,XU c r i = .inl u/\∀ x ∈ r,fm x=true)\/∃ w,XU c r i = .inr w/\w.2≠0
 | [],i=> .inl ⟨(),rfl,fun x hx=>by cases hx⟩
 | x::r,i=>by
  unfold XU
  by_cases h:chk (c.take i) x=0
  ·rw [if_neg (by simpa using h)]
   rcases UA c r (i + 1) with ⟨u,h1,h2⟩ | h1
   ·refine .inl ⟨u,h1,fun y hy=>?_⟩
    rcases List.mem_cons.1 hy with rfl | hy
    ·cases hf:fm y with
     | true=>rfl
     | false=>unfold chk at h; rw [if_pos hf] at h; cases h
    ·exact h2 y hy
   ·exact .inr h1
  ·rw [if_pos h]
   exact .inr ⟨_,rfl,h⟩
theorem Sv {c:List AG}(h:(Tk c).2=0):ABh c:=by
 unfold Tk at h
 split at h
 ·cases h
 ·rcases UA c c 0 with ⟨u,h1,h2⟩ | ⟨w,h1,h2⟩
  ·exact fun x hx=>ABY (h2 x hx)
  ·rw [h1] at h; exact absurd h h2
end Go.Proofs.YtlalcoehgkmhlaaGreatDoor
