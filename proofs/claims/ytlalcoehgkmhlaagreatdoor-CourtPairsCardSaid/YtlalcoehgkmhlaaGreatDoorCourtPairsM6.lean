/- Lemmas for the proof. -/
import Derived.Test.YtlalcoehgkmhlaaGreatDoorCourtPairsM1
import Derived.Test.YtlalcoehgkmhlaaGreatDoorCourtPairsM2
import Derived.Test.YtlalcoehgkmhlaaGreatDoorCourtPairsM3
import Derived.Test.YtlalcoehgkmhlaaGreatDoorCourtPairsM4
import Derived.Test.YtlalcoehgkmhlaaGreatDoorCourtPairsM5
set_option maxHeartbeats 4000000
set_option maxRecDepth 100000
namespace Go.Proofs.YtlalcoehgkmhlaaGreatDoor
open Go.RowKit
/- trestle/trestleref03.Reason -/
noncomputable def L4:Code:=A3 Tryz.f119
def EO (x0:(List AF)) (x1:Ai) (x2:Ai) (x3:Int) (x4:Int):Nat->Int->Option ((Unit) ⊕ (Int×Int))
 | 0,_=>none
 | f + 1,c1 =>
  if (decide (c1 < (x0.length:Int)))=true then
  (idx x0 c1).bind fun v3 =>
  (if (!(v3.2.1==[]))=true then (idx x0 c1).bind fun v4 =>
  if (!(x1.2.1==v4.2.1))=true then some true else (idx x0 c1).bind fun v5 =>
  some (!(x2.2.1==v5.2.1)) else some false).bind fun j7 =>
  if j7=true then
  EO x0 x1 x2 x3 x4 f (wr .i64 (c1 + 1))
  else
  (idx x0 c1).bind fun v9 =>
  (HJ v9 x1 x2 x3 x4).bind fun v10 =>
  if v10=true then
  some (.inr (c1,(-1)))
  else
  (idx x0 c1).bind fun v14 =>
  (HJ v14 x2 x1 x4 x3).bind fun v15 =>
  if v15=true then
  some (.inr (c1,1))
  else
  EO x0 x1 x2 x3 x4 f (wr .i64 (c1 + 1))
  else
  some (.inl ())
def H6 (x0:(List AF)) (x1:Ai) (x2:Ai) (x3:Int) (x4:Int):Option (Int×Int) :=
 (EO x0 x1 x2 x3 x4 100000 0).bind fun r19 =>
 match r19 with
 | (.inl _w20) =>
  some ((-1),0)
 | (.inr w21) =>
  some (w21.1,w21.2)
def MA:Cs ((List AF)×Ai×Ai×Int×Int×Unit):=(csC (cdL 5 AA) (csC AE (csC AE (csC cdI (csC cdI csN)))))
def MH (r:Int×Int):AV:= .tp [cdI.enc r.1,cdI.enc r.2]
theorem Mt (x0:(List AF)) (x1:Ai) (x2:Ai) (x3:Int) (x4:Int):∀ (f:Nat) (c1:Int) (r:(Unit) ⊕ (Int×Int)),EO x0 x1 x2 x3 x4 f c1=some r->SemN E0 ⟨none,false⟩ (pc L4 [1,0,1,0,0]) f ⟨Fr 65 [(0,.sl 5 (x0.map AA.enc)),(3,.v (.int .i64 x3)),(4,.v (.int .i64 x4)),(6,.pt 0 0 0),(7,.pt 1 0 0),(12,.v (.int .i64 c1))],[some ⟨9,42,[AE.enc x1],false⟩,some ⟨9,42,[AE.enc x2],false⟩]⟩ (fun e s=>match r with
 | (.inl _w)=>e=(.exit 0)/\Wk E0 s ⟨Fr 65 [],[]⟩
 | (.inr w)=>e = .ret/\Wk E0 s ⟨Fr 65 [(10,.v (.int .i64 w.1)),(11,.v (.int .i64 w.2))],[]⟩):=by
 intro f;induction f with
 | zero=>intro c1 r h; cases h
 | succ f ih0 =>
  intro c1 r h
  have ih:=fun (c1:Int)=>ih0 c1 r
  unfold EO at h;refine BR ?_;refine AG ?_;refine AG ?_;refine AL (s1:=⟨Fr 65 [(0,.sl 5 (x0.map AA.enc)),(3,.v (.int .i64 x3)),(4,.v (.int .i64 x4)),(6,.pt 0 0 0),(7,.pt 1 0 0),(12,.v (.int .i64 c1)),(16,.v (.bool (decide (c1 < (x0.length:Int)))))],[some ⟨9,42,[AE.enc x1],false⟩,some ⟨9,42,[AE.enc x2],false⟩]⟩) ?_ ?_
  ·refine AD (n:=65) AC 2 [(0,.sl 5 (x0.map AA.enc)),(3,.v (.int .i64 x3)),(4,.v (.int .i64 x4)),(6,.pt 0 0 0),(7,.pt 1 0 0),(12,.v (.int .i64 c1)),(13,.v (.int .i64 c1)),(14,.sl 5 (x0.map AA.enc))] [some ⟨9,42,[AE.enc x1],false⟩,some ⟨9,42,[AE.enc x2],false⟩] kr ?_
   refine AS AC 0 rfl (DH (AB rfl) rfl (CX (a:= .sl 5 (x0.map AA.enc)) kr (BS (el:=60) kr))) ?_;exact AX AC
  refine AP (b:=(decide (c1 < (x0.length:Int)))) kr (fun hb2=>?_) (fun hb2=>?_)
  ·rw [if_pos hb2] at h
   refine AT ?_;refine AG ?_;refine AZ ?_;refine AG ?_;refine AG ?_;obtain ⟨v3,hv3,h⟩:=OB h;obtain ⟨j7,hj7,h⟩:=OB h;refine DI AC (s1:=⟨Fr 65 [(0,.sl 5 (x0.map AA.enc)),(3,.v (.int .i64 x3)),(4,.v (.int .i64 x4)),(6,.pt 0 0 0),(7,.pt 1 0 0),(12,.v (.int .i64 c1)),(44,.v (.bool j7))],[some ⟨9,42,[AE.enc x1],false⟩,some ⟨9,42,[AE.enc x2],false⟩]⟩) kr ?_ ?_
   ·refine AY (n:=65) AC 2 [(0,.sl 5 (x0.map AA.enc)),(3,.v (.int .i64 x3)),(4,.v (.int .i64 x4)),(6,.pt 0 0 0),(7,.pt 1 0 0),(12,.v (.int .i64 c1)),(19,.sl 5 (x0.map AA.enc)),(20,.v (.int .i64 c1))] [some ⟨9,42,[AE.enc x1],false⟩,some ⟨9,42,[AE.enc x2],false⟩] kr kr ?_
    refine RunDS.one AC rfl kr (Hd kr (AB rfl) rfl (AW (a:= .sl 5 (x0.map AA.enc)) (b:= .v (.int .i64 c1)) kr kr (DK (e:=AA.enc) (el:=60) (k:=5) (ki:= .i64) kr kr hv3)) kr) ?_;refine AY (n:=65) AC 4 [(0,.sl 5 (x0.map AA.enc)),(3,.v (.int .i64 x3)),(4,.v (.int .i64 x4)),(6,.pt 0 0 0),(7,.pt 1 0 0),(12,.v (.int .i64 c1)),(25,.v (.bool (!(v3.2.1==[]))))] [some ⟨9,42,[AE.enc x1],false⟩,some ⟨9,42,[AE.enc x2],false⟩] kr kr ?_;rcases BE (!(v3.2.1==[])) with hc17 | hc17
    ·rw [if_pos hc17] at hj7
     rw [hc17];refine AY (n:=65) AC 4 [(0,.sl 5 (x0.map AA.enc)),(3,.v (.int .i64 x3)),(4,.v (.int .i64 x4)),(6,.pt 0 0 0),(7,.pt 1 0 0),(12,.v (.int .i64 c1)),(25,.v (.bool true)),(26,.pt 0 0 1),(27,.st x1.2.1),(28,.sl 5 (x0.map AA.enc)),(29,.v (.int .i64 c1))] [some ⟨9,42,[AE.enc x1],false⟩,some ⟨9,42,[AE.enc x2],false⟩] kr kr ?_;obtain ⟨v4,hv4,hj7⟩:=OB hj7;refine RunDS.one AC rfl kr (Hd kr kr rfl (AW (a:= .sl 5 (x0.map AA.enc)) (b:= .v (.int .i64 c1)) kr kr (DK (e:=AA.enc) (el:=60) (k:=5) (ki:= .i64) kr kr hv4)) kr) ?_;refine AY (n:=65) AC 4 [(0,.sl 5 (x0.map AA.enc)),(3,.v (.int .i64 x3)),(4,.v (.int .i64 x4)),(6,.pt 0 0 0),(7,.pt 1 0 0),(12,.v (.int .i64 c1)),(25,.v (.bool true)),(26,.pt 0 0 1),(27,.st x1.2.1),(28,.sl 5 (x0.map AA.enc)),(29,.v (.int .i64 c1)),(30,.pe (AA.enc v4) 0),(31,.pe (AA.enc v4) 1),(32,.st v4.2.1),(33,.v (.bool (!(x1.2.1==v4.2.1)))),(34,.v (.bool (!(x1.2.1==v4.2.1))))] [some ⟨9,42,[AE.enc x1],false⟩,some ⟨9,42,[AE.enc x2],false⟩] kr kr ?_;rcases BE (!(x1.2.1==v4.2.1)) with hc18 | hc18
     ·rw [if_pos hc18] at hj7
      rw [hc18];refine AY (n:=65) AC 10 [(0,.sl 5 (x0.map AA.enc)),(3,.v (.int .i64 x3)),(4,.v (.int .i64 x4)),(6,.pt 0 0 0),(7,.pt 1 0 0),(12,.v (.int .i64 c1)),(26,.pt 0 0 1),(27,.st x1.2.1),(28,.sl 5 (x0.map AA.enc)),(29,.v (.int .i64 c1)),(30,.pe (AA.enc v4) 0),(31,.pe (AA.enc v4) 1),(32,.st v4.2.1),(33,.v (.bool true)),(34,.v (.bool true)),(35,.tp []),(36,.tp []),(37,.tp []),(38,.tp []),(39,.tp []),(40,.tp []),(41,.tp []),(42,.tp []),(43,.v (.bool true)),(44,.v (.bool true))] [some ⟨9,42,[AE.enc x1],false⟩,some ⟨9,42,[AE.enc x2],false⟩] kr kr ?_;have hq:=OI hj7; subst hq;exact RunDS.done rfl (Ae [0,1] ⟨⟨_,rfl,Gy⟩,⟨_,rfl,Gy⟩,trivial⟩ ⟨lv,lv,lv,lv,lv,lv,lv,trivial⟩)
     ·rw [BY hc18] at hj7
      rw [hc18];refine AY (n:=65) AC 4 [(0,.sl 5 (x0.map AA.enc)),(3,.v (.int .i64 x3)),(4,.v (.int .i64 x4)),(6,.pt 0 0 0),(7,.pt 1 0 0),(12,.v (.int .i64 c1)),(25,.v (.bool true)),(26,.pt 0 0 1),(27,.st x1.2.1),(28,.sl 5 (x0.map AA.enc)),(29,.v (.int .i64 c1)),(30,.pe (AA.enc v4) 0),(31,.pe (AA.enc v4) 1),(32,.st v4.2.1),(33,.v (.bool false)),(34,.v (.bool false)),(35,.pt 1 0 1),(36,.st x2.2.1),(37,.sl 5 (x0.map AA.enc)),(38,.v (.int .i64 c1))] [some ⟨9,42,[AE.enc x1],false⟩,some ⟨9,42,[AE.enc x2],false⟩] kr kr ?_;obtain ⟨v5,hv5,hj7⟩:=OB hj7;refine RunDS.one AC rfl kr (Hd kr kr rfl (AW (a:= .sl 5 (x0.map AA.enc)) (b:= .v (.int .i64 c1)) kr kr (DK (e:=AA.enc) (el:=60) (k:=5) (ki:= .i64) kr kr hv5)) kr) ?_;refine AY (n:=65) AC 5 [(0,.sl 5 (x0.map AA.enc)),(3,.v (.int .i64 x3)),(4,.v (.int .i64 x4)),(6,.pt 0 0 0),(7,.pt 1 0 0),(12,.v (.int .i64 c1)),(26,.pt 0 0 1),(27,.st x1.2.1),(28,.sl 5 (x0.map AA.enc)),(29,.v (.int .i64 c1)),(30,.pe (AA.enc v4) 0),(31,.pe (AA.enc v4) 1),(32,.st v4.2.1),(33,.v (.bool false)),(34,.v (.bool false)),(35,.pt 1 0 1),(36,.st x2.2.1),(37,.sl 5 (x0.map AA.enc)),(38,.v (.int .i64 c1)),(39,.pe (AA.enc v5) 0),(40,.pe (AA.enc v5) 1),(41,.st v5.2.1),(42,.v (.bool (!(x2.2.1==v5.2.1)))),(43,.v (.bool (!(x2.2.1==v5.2.1)))),(44,.v (.bool (!(x2.2.1==v5.2.1))))] [some ⟨9,42,[AE.enc x1],false⟩,some ⟨9,42,[AE.enc x2],false⟩] kr kr ?_;have hq:=OI hj7; subst hq;exact RunDS.done rfl (Ae [0,1] ⟨⟨_,rfl,Gy⟩,⟨_,rfl,Gy⟩,trivial⟩ ⟨lv,lv,lv,lv,lv,lv,lv,trivial⟩)
    ·rw [BY hc17] at hj7
     rw [hc17];refine AY (n:=65) AC 19 [(0,.sl 5 (x0.map AA.enc)),(3,.v (.int .i64 x3)),(4,.v (.int .i64 x4)),(6,.pt 0 0 0),(7,.pt 1 0 0),(12,.v (.int .i64 c1)),(26,.tp []),(27,.tp []),(28,.tp []),(29,.tp []),(30,.tp []),(31,.tp []),(32,.tp []),(33,.tp []),(34,.tp []),(35,.tp []),(36,.tp []),(37,.tp []),(38,.tp []),(39,.tp []),(40,.tp []),(41,.tp []),(42,.tp []),(43,.tp []),(44,.v (.bool false))] [some ⟨9,42,[AE.enc x1],false⟩,some ⟨9,42,[AE.enc x2],false⟩] kr kr ?_;have hq:=OI hj7; subst hq;exact RunDS.done rfl (Ae [0,1] ⟨⟨_,rfl,Gy⟩,⟨_,rfl,Gy⟩,trivial⟩ ⟨lv,lv,lv,lv,lv,lv,lv,trivial⟩)
   refine AP (b:=j7) kr (fun hb8=>?_) (fun hb8=>?_)
   ·rw [if_pos hb8] at h
    refine Bi ?_;refine Ci AC [(0,.sl 5 (x0.map AA.enc)),(3,.v (.int .i64 x3)),(4,.v (.int .i64 x4)),(6,.pt 0 0 0),(7,.pt 1 0 0),(12,.v (.int .i64 (wr .i64 (c1 + 1))))] [some ⟨9,42,[AE.enc x1],false⟩,some ⟨9,42,[AE.enc x2],false⟩] ?_;exact Ab (s1:=⟨Fr 65 [(0,.sl 5 (x0.map AA.enc)),(3,.v (.int .i64 x3)),(4,.v (.int .i64 x4)),(6,.pt 0 0 0),(7,.pt 1 0 0),(12,.v (.int .i64 (wr .i64 (c1 + 1))))],[some ⟨9,42,[AE.enc x1],false⟩,some ⟨9,42,[AE.enc x2],false⟩]⟩) (Ae [0,1] ⟨⟨_,rfl,Gy⟩,⟨_,rfl,Gy⟩,trivial⟩ ⟨lv,lv,lv,lv,lv,lv,trivial⟩) (ih (wr .i64 (c1 + 1)) h)
   ·rw [BY hb8] at h
    refine AT ?_;refine AG ?_;refine AG ?_;obtain ⟨v9,hv9,h⟩:=OB h;obtain ⟨v10,hv10,h⟩:=OB h;refine DI AC (s1:=⟨Fr 65 [(0,.sl 5 (x0.map AA.enc)),(3,.v (.int .i64 x3)),(4,.v (.int .i64 x4)),(6,.pt 0 0 0),(7,.pt 1 0 0),(12,.v (.int .i64 c1)),(53,.v (.bool v10))],[some ⟨9,42,[AE.enc x1],false⟩,some ⟨9,42,[AE.enc x2],false⟩]⟩) kr ?_ ?_
    ·refine AY (n:=65) AC 2 [(0,.sl 5 (x0.map AA.enc)),(3,.v (.int .i64 x3)),(4,.v (.int .i64 x4)),(6,.pt 0 0 0),(7,.pt 1 0 0),(12,.v (.int .i64 c1)),(45,.sl 5 (x0.map AA.enc)),(46,.v (.int .i64 c1))] [some ⟨9,42,[AE.enc x1],false⟩,some ⟨9,42,[AE.enc x2],false⟩] kr kr ?_
     refine RunDS.one AC rfl kr (Hd kr (AB rfl) rfl (AW (a:= .sl 5 (x0.map AA.enc)) (b:= .v (.int .i64 c1)) kr kr (DK (e:=AA.enc) (el:=60) (k:=5) (ki:= .i64) kr kr hv9)) kr) ?_;refine AY (n:=65) AC 5 [(0,.sl 5 (x0.map AA.enc)),(3,.v (.int .i64 x3)),(4,.v (.int .i64 x4)),(6,.pt 0 0 0),(7,.pt 1 0 0),(12,.v (.int .i64 c1)),(48,AA.enc v9),(49,AE.enc x1),(50,AE.enc x2),(51,.v (.int .i64 x3)),(52,.v (.int .i64 x4))] [some ⟨9,42,[AE.enc x1],false⟩,some ⟨9,42,[AE.enc x2],false⟩] kr kr ?_;refine Bg (caps:=[]) (xs:=[AA.enc v9,AE.enc x1,AE.enc x2,.v (.int .i64 x3),.v (.int .i64 x4)]) (u:=(v9,x1,x2,x3,x4,())) rfl rfl QK rfl (AB rfl) kr kr (AM (AU (c:=AA) (v:=v9)) (AM (AU (c:=AE) (v:=x1)) (AM (AU (c:=AE) (v:=x2)) (AM (AU (c:=cdI) (v:=x3)) (AM (AU (c:=cdI) (v:=x4)) Af))))) kr hv10 ?_;exact RunDS.done rfl (Ae [0,1] ⟨⟨_,rfl,Gy⟩,⟨_,rfl,Gy⟩,trivial⟩ ⟨lv,lv,lv,lv,lv,lv,lv,trivial⟩)
    refine AP (b:=v10) kr (fun hb11=>?_) (fun hb11=>?_)
    ·rw [if_pos hb11] at h
     refine AG ?_;refine AL (s1:=⟨Fr 65 [(10,.v (.int .i64 c1)),(11,.v (.int .i64 (-1)))],[]⟩) ?_ ?_
     ·refine AD (n:=65) AC 3 [(10,.v (.int .i64 c1)),(11,.v (.int .i64 (-1)))] [some ⟨9,42,[AE.enc x1],false⟩,some ⟨9,42,[AE.enc x2],false⟩] kr ?_
      exact AI rfl (Ae [] trivial ⟨lv,lv,trivial⟩)
     refine AN ?_;have hq:=OI h; subst hq;exact ⟨rfl,AJ⟩
    ·rw [BY hb11] at h
     refine AT ?_;refine AG ?_;obtain ⟨v14,hv14,h⟩:=OB h;obtain ⟨v15,hv15,h⟩:=OB h;refine DI AC (s1:=⟨Fr 65 [(0,.sl 5 (x0.map AA.enc)),(3,.v (.int .i64 x3)),(4,.v (.int .i64 x4)),(6,.pt 0 0 0),(7,.pt 1 0 0),(12,.v (.int .i64 c1)),(63,.v (.bool v15))],[some ⟨9,42,[AE.enc x1],false⟩,some ⟨9,42,[AE.enc x2],false⟩]⟩) kr ?_ ?_
     ·refine AY (n:=65) AC 2 [(0,.sl 5 (x0.map AA.enc)),(3,.v (.int .i64 x3)),(4,.v (.int .i64 x4)),(6,.pt 0 0 0),(7,.pt 1 0 0),(12,.v (.int .i64 c1)),(55,.sl 5 (x0.map AA.enc)),(56,.v (.int .i64 c1))] [some ⟨9,42,[AE.enc x1],false⟩,some ⟨9,42,[AE.enc x2],false⟩] kr kr ?_
      refine RunDS.one AC rfl kr (Hd kr (AB rfl) rfl (AW (a:= .sl 5 (x0.map AA.enc)) (b:= .v (.int .i64 c1)) kr kr (DK (e:=AA.enc) (el:=60) (k:=5) (ki:= .i64) kr kr hv14)) kr) ?_;refine AY (n:=65) AC 5 [(0,.sl 5 (x0.map AA.enc)),(3,.v (.int .i64 x3)),(4,.v (.int .i64 x4)),(6,.pt 0 0 0),(7,.pt 1 0 0),(12,.v (.int .i64 c1)),(58,AA.enc v14),(59,AE.enc x2),(60,AE.enc x1),(61,.v (.int .i64 x4)),(62,.v (.int .i64 x3))] [some ⟨9,42,[AE.enc x1],false⟩,some ⟨9,42,[AE.enc x2],false⟩] kr kr ?_;refine Bg (caps:=[]) (xs:=[AA.enc v14,AE.enc x2,AE.enc x1,.v (.int .i64 x4),.v (.int .i64 x3)]) (u:=(v14,x2,x1,x4,x3,())) rfl rfl QK rfl (AB rfl) kr kr (AM (AU (c:=AA) (v:=v14)) (AM (AU (c:=AE) (v:=x2)) (AM (AU (c:=AE) (v:=x1)) (AM (AU (c:=cdI) (v:=x4)) (AM (AU (c:=cdI) (v:=x3)) Af))))) kr hv15 ?_;exact RunDS.done rfl (Ae [0,1] ⟨⟨_,rfl,Gy⟩,⟨_,rfl,Gy⟩,trivial⟩ ⟨lv,lv,lv,lv,lv,lv,lv,trivial⟩)
     refine AP (b:=v15) kr (fun hb16=>?_) (fun hb16=>?_)
     ·rw [if_pos hb16] at h
      refine AG ?_;refine AL (s1:=⟨Fr 65 [(10,.v (.int .i64 c1)),(11,.v (.int .i64 1))],[]⟩) ?_ ?_
      ·refine AD (n:=65) AC 3 [(10,.v (.int .i64 c1)),(11,.v (.int .i64 1))] [some ⟨9,42,[AE.enc x1],false⟩,some ⟨9,42,[AE.enc x2],false⟩] kr ?_
       exact AI rfl (Ae [] trivial ⟨lv,lv,trivial⟩)
      refine AN ?_;have hq:=OI h; subst hq;exact ⟨rfl,AJ⟩
     ·rw [BY hb16] at h
      refine AT ?_;refine Ci AC [(0,.sl 5 (x0.map AA.enc)),(3,.v (.int .i64 x3)),(4,.v (.int .i64 x4)),(6,.pt 0 0 0),(7,.pt 1 0 0),(12,.v (.int .i64 (wr .i64 (c1 + 1))))] [some ⟨9,42,[AE.enc x1],false⟩,some ⟨9,42,[AE.enc x2],false⟩] ?_;exact Ab (s1:=⟨Fr 65 [(0,.sl 5 (x0.map AA.enc)),(3,.v (.int .i64 x3)),(4,.v (.int .i64 x4)),(6,.pt 0 0 0),(7,.pt 1 0 0),(12,.v (.int .i64 (wr .i64 (c1 + 1))))],[some ⟨9,42,[AE.enc x1],false⟩,some ⟨9,42,[AE.enc x2],false⟩]⟩) (Ae [0,1] ⟨⟨_,rfl,Gy⟩,⟨_,rfl,Gy⟩,trivial⟩ ⟨lv,lv,lv,lv,lv,lv,trivial⟩) (ih (wr .i64 (c1 + 1)) h)
  ·rw [BY hb2] at h
   refine Bi ?_;have hq:=OI h; subst hq;exact ⟨rfl,(Ae [] trivial trivial)⟩
theorem Sw (x0:(List AF)) (x1:Ai) (x2:Ai) (x3:Int) (x4:Int) (r:Int×Int) (h:H6 x0 x1 x2 x3 x4=some r):Sem E0 ⟨none,false⟩ L4 ⟨Fr 65 (Av 0 (MA.enc (x0,x1,x2,x3,x4,()))),[]⟩ fun e s'=>(e = .normal\/e = .ret)/\∃ xs,D6 E0.P s'.fr s'.hp Tryz.f119.results.toList=some xs/\EA xs=MH r:=by
 unfold H6 at h
 let p1:Nat×AV:=(4,.v (.int .i64 x4))
 let p2:Nat×AV:=(3,.v (.int .i64 x3))
 let p3:Nat×AV:=(0,.sl 5 (x0.map AA.enc))
 refine Aj (A8 (s1:=⟨Fr 65 [p3,(1,AE.enc x1),(2,AE.enc x2),p2,p1],[]⟩) AJ ?_)
 let p4:Option Blk:=some ⟨9,42,[AE.enc x2],false⟩
 let p5:Option Blk:=some ⟨9,42,[AE.enc x1],false⟩
 let p6:Nat×AV:=(7,.pt 1 0 0)
 let p7:Nat×AV:=(6,.pt 0 0 0)
 refine AK AC [p3,p2,p1,p7,p6] [p5,p4] ?_;refine AG ?_
 let p8:Nat×AV:=(12,.v (.int .i64 0))
 refine AK AC [p3,p2,p1,p7,p6,p8] [p5,p4] ?_;refine AZ ?_;obtain ⟨r19,hr19,h⟩:=OB h;refine Bj (n:=100000) ?_;rcases r19 with w20 | w21
 ·try dsimp only at h
  refine Ao (Ab (s1:=⟨Fr 65 [p3,p2,p1,p7,p6,p8],[p5,p4]⟩) (Ae [0,1] ⟨⟨_,rfl,Gy⟩,⟨_,rfl,Gy⟩,trivial⟩ ⟨lv,lv,lv,lv,lv,lv,trivial⟩) (Mt x0 x1 x2 x3 x4 _ 0 _ hr19)) ?_;refine AK AC [(10,.v (.int .i64 (-1))),(11,.v (.int .i64 0))] [] ?_;refine AN ?_;have hq:=OI h; subst hq;exact ⟨⟨Fr 65 [(10,.v (.int .i64 (-1))),(11,.v (.int .i64 0))],[]⟩,AJ,.inr rfl,[.v (.int .i64 (-1)),.v (.int .i64 0)],kr,kr⟩
 ·try dsimp only at h
  refine Ao (Ab (s1:=⟨Fr 65 [p3,p2,p1,p7,p6,p8],[p5,p4]⟩) (Ae [0,1] ⟨⟨_,rfl,Gy⟩,⟨_,rfl,Gy⟩,trivial⟩ ⟨lv,lv,lv,lv,lv,lv,trivial⟩) (Mt x0 x1 x2 x3 x4 _ 0 _ hr19)) ?_;have hq:=OI h; subst hq;exact ⟨⟨Fr 65 [(10,.v (.int .i64 w21.1)),(11,.v (.int .i64 w21.2))],[]⟩,AJ,.inr rfl,[.v (.int .i64 w21.1),.v (.int .i64 w21.2)],kr,kr⟩
def VD:List AV->Option AV:=Dk MA (fun a=>H6 a.1 a.2.1 a.2.2.1 a.2.2.2.1 a.2.2.2.2.1) MH
theorem VM:XOk 119 VD:=by
 refine AQ Tryz.func119 (c:=L4) ?h2 ⟨Tryz.call119⟩ MA (fun a=>H6 a.1 a.2.1 a.2.2.1 a.2.2.2.1 a.2.2.2.2.1) MH (fun a=>(by show 5<=65; decide)) ?h3 ?h4
 case h2=>kernel_rfl
 case h3=>intro b; kernel_rfl
 case h4=>exact fun a b h=>Sw a.1 a.2.1 a.2.2.1 a.2.2.2.1 a.2.2.2.2.1 b h
/- trestle/trestleref03.Goes -/
noncomputable def Qy:Code:=A3 Tryz.f150
def KA (x0:(List AF)) (x1:(List Ai)) (x2:Int) (x3:Int):Option (Bool) :=
 (idx x1 x2).bind fun v1 =>
 (idx x1 x3).bind fun v2 =>
 (H6 x0 v1 v2 x2 x3).bind fun v3 =>
 some (decide (v3.2 < 0))
def Ns:Cs ((List AF)×(List Ai)×Int×Int×Unit):=(csC (cdL 5 AA) (csC (cdL 9 AE) (csC cdI (csC cdI csN))))
def N0 (r:Bool):AV:=cdB.enc r
theorem U8 (x0:(List AF)) (x1:(List Ai)) (x2:Int) (x3:Int) (r:Bool) (h:KA x0 x1 x2 x3=some r):Sem E0 ⟨none,false⟩ Qy ⟨Fr 28 (Av 0 (Ns.enc (x0,x1,x2,x3,()))),[]⟩ fun e s'=>(e = .normal\/e = .ret)/\∃ xs,D6 E0.P s'.fr s'.hp Tryz.f150.results.toList=some xs/\EA xs=N0 r:=by
 unfold KA at h
 let p1:Nat×AV:=(3,.v (.int .i64 x3))
 let p2:Nat×AV:=(2,.v (.int .i64 x2))
 let p3:Nat×AV:=(1,.sl 9 (x1.map AE.enc))
 let p4:Nat×AV:=(0,.sl 5 (x0.map AA.enc))
 refine Aj (A8 (s1:=⟨Fr 28 [p4,p3,p2,p1],[]⟩) AJ ?_);refine AK AC [p4,p3,p2,p1] [] ?_;refine AG ?_;obtain ⟨v1,hv1,h⟩:=OB h;obtain ⟨v2,hv2,h⟩:=OB h;obtain ⟨v3,hv3,h⟩:=OB h;refine DI AC (s1:=⟨Fr 28 [(10,.v (.int .i64 v3.2))],[]⟩) kr ?_ ?_
 ·let p5:Nat×AV:=(12,.sl 5 (x0.map AA.enc))
  refine AY (n:=28) AC 3 [p3,p2,p1,p5,(13,.sl 9 (x1.map AE.enc)),(14,.v (.int .i64 x2))] [] kr kr ?_;refine RunDS.one AC rfl kr (Hd kr (AB rfl) rfl (AW (a:= .sl 9 (x1.map AE.enc)) (b:= .v (.int .i64 x2)) kr kr (DK (e:=AE.enc) (el:=42) (k:=9) (ki:= .i64) kr kr hv1)) kr) ?_;refine AY (n:=28) AC 3 [p2,p1,p5,(16,AE.enc v1),(17,.sl 9 (x1.map AE.enc)),(18,.v (.int .i64 x3))] [] kr kr ?_;refine RunDS.one AC rfl kr (Hd kr (AB rfl) rfl (AW (a:= .sl 9 (x1.map AE.enc)) (b:= .v (.int .i64 x3)) kr kr (DK (e:=AE.enc) (el:=42) (k:=9) (ki:= .i64) kr kr hv2)) kr) ?_;refine AY (n:=28) AC 3 [p5,(16,AE.enc v1),(20,AE.enc v2),(21,.v (.int .i64 x2)),(22,.v (.int .i64 x3))] [] kr kr ?_;refine Bg (caps:=[]) (xs:=[.sl 5 (x0.map AA.enc),AE.enc v1,AE.enc v2,.v (.int .i64 x2),.v (.int .i64 x3)]) (u:=(x0,v1,v2,x2,x3,())) rfl rfl VM rfl (AB rfl) kr kr (AM (AU (c:=(cdL 5 AA)) (v:=x0)) (AM (AU (c:=AE) (v:=v1)) (AM (AU (c:=AE) (v:=v2)) (AM (AU (c:=cdI) (v:=x2)) (AM (AU (c:=cdI) (v:=x3)) Af))))) kr hv3 ?_;refine AY (n:=28) AC 5 [(10,.v (.int .i64 v3.2))] [] kr kr ?_;exact RunDS.done rfl AJ
 let p6:Nat×AV:=(8,.v (.bool (decide (v3.2 < 0))))
 refine AK AC [p6] [] ?_;refine AN ?_;have hq:=OI h; subst hq;exact ⟨⟨Fr 28 [p6],[]⟩,AJ,.inr rfl,[.v (.bool (decide (v3.2 < 0)))],kr,kr⟩
def XS:List AV->Option AV:=Dk Ns (fun a=>KA a.1 a.2.1 a.2.2.1 a.2.2.2.1) N0
theorem Xe:XOk 150 XS:=by
 refine AQ Tryz.func150 (c:=Qy) ?h2 ⟨Tryz.call150⟩ Ns (fun a=>KA a.1 a.2.1 a.2.2.1 a.2.2.2.1) N0 (fun a=>(by show 4<=28; decide)) ?h3 ?h4
 case h2=>kernel_rfl
 case h3=>intro b; kernel_rfl
 case h4=>exact fun a b h=>U8 a.1 a.2.1 a.2.2.1 a.2.2.2.1 b h
/- trestle/trestleref03.votes -/
noncomputable def KE:Code:=A3 Tryz.f147
def If (_x0:(List (List AF))) (_x1:(List Ai)) (_x2:Int) (_x3:Int) (c1:Int) (_c2:Int) (v5:Bool):Option ((Int)) :=
 if v5=true then
 some (wr .i64 (c1 + 1))
 else
 some c1
def EJ (x0:(List (List AF))) (x1:(List Ai)) (x2:Int) (x3:Int):Nat->Int->Int->Option ((Int))
 | 0,_,_=>none
 | f + 1,c1,c2 =>
  if (decide (c2 < (x0.length:Int)))=true then
  (idx x0 c2).bind fun v4 =>
  (KA v4 x1 x2 x3).bind fun v5 =>
  (If x0 x1 x2 x3 c1 c2 v5).bind fun r8 =>
  EJ x0 x1 x2 x3 f r8 (wr .i64 (c2 + 1))
  else
  some c1
def Fd (x0:(List (List AF))) (x1:(List Ai)) (x2:Int) (x3:Int):Option (Int) :=
 (EJ x0 x1 x2 x3 100000 0 0).bind fun r10 =>
 some r10
def M9:Cs ((List (List AF))×(List Ai)×Int×Int×Unit):=(csC (cdL 1 (cdL 5 AA)) (csC (cdL 9 AE) (csC cdI (csC cdI csN))))
def NJ (r:Int):AV:=cdI.enc r
theorem SG (x0:(List (List AF))) (x1:(List Ai)) (x2:Int) (x3:Int) (c1:Int) (c2:Int) (v5:Bool) (r:(Int)) (h:If x0 x1 x2 x3 c1 c2 v5=some r):Sem E0 ⟨none,false⟩ (pc KE [1,1,0,1,0,0,1,0,0,1]) ⟨Fr 28 [(0,.sl 1 (x0.map (cdL 5 AA).enc)),(1,.sl 9 (x1.map AE.enc)),(2,.v (.int .i64 x2)),(3,.v (.int .i64 x3)),(9,.v (.int .i64 c1)),(10,.v (.int .i64 c2)),(24,.v (.bool v5))],[]⟩ (fun e s=>e = .normal/\Wk E0 s ⟨Fr 28 [(0,.sl 1 (x0.map (cdL 5 AA).enc)),(1,.sl 9 (x1.map AE.enc)),(2,.v (.int .i64 x2)),(3,.v (.int .i64 x3)),(9,.v (.int .i64 r)),(10,.v (.int .i64 c2))],[]⟩):=by
 unfold If at h;refine AP (b:=v5) kr (fun hb6=>?_) (fun hb6=>?_)
 ·rw [if_pos hb6] at h
  refine Ci AC [(0,.sl 1 (x0.map (cdL 5 AA).enc)),(1,.sl 9 (x1.map AE.enc)),(2,.v (.int .i64 x2)),(3,.v (.int .i64 x3)),(9,.v (.int .i64 (wr .i64 (c1 + 1)))),(10,.v (.int .i64 c2))] [] ?_;have hq:=OI h; subst hq;exact ⟨rfl,AJ⟩
 ·rw [BY hb6] at h
  refine AT ?_;have hq:=OI h; subst hq;exact ⟨rfl,AJ⟩
theorem SH (x0:(List (List AF))) (x1:(List Ai)) (x2:Int) (x3:Int):∀ (f:Nat) (c1:Int) (c2:Int) (r:(Int)),EJ x0 x1 x2 x3 f c1 c2=some r->SemN E0 ⟨none,false⟩ (pc KE [1,1,0,1,0,0]) f ⟨Fr 28 [(0,.sl 1 (x0.map (cdL 5 AA).enc)),(1,.sl 9 (x1.map AE.enc)),(2,.v (.int .i64 x2)),(3,.v (.int .i64 x3)),(9,.v (.int .i64 c1)),(10,.v (.int .i64 c2))],[]⟩ (fun e s=>e=(.exit 0)/\Wk E0 s ⟨Fr 28 [(9,.v (.int .i64 r))],[]⟩):=by
 intro f;induction f with
 | zero=>intro c1 c2 r h; cases h
 | succ f ih0 =>
  intro c1 c2 r h
  have ih:=fun (c1:Int) (c2:Int)=>ih0 c1 c2 r
  unfold EJ at h;refine BR ?_;refine AG ?_;refine AG ?_
  let p1:Nat×AV:=(10,.v (.int .i64 c2))
  let p2:Nat×AV:=(9,.v (.int .i64 c1))
  let p3:Nat×AV:=(3,.v (.int .i64 x3))
  let p4:Nat×AV:=(2,.v (.int .i64 x2))
  let p5:Nat×AV:=(1,.sl 9 (x1.map AE.enc))
  let p6:Nat×AV:=(0,.sl 1 (x0.map (cdL 5 AA).enc))
  refine AL (s1:=⟨Fr 28 [p6,p5,p4,p3,p2,p1,(14,.v (.bool (decide (c2 < (x0.length:Int)))))],[]⟩) ?_ ?_
  ·refine AD (n:=28) AC 2 [p6,p5,p4,p3,p2,p1,(11,.v (.int .i64 c2)),(12,.sl 1 (x0.map (cdL 5 AA).enc))] [] kr ?_
   refine AS AC 0 rfl (DH (AB rfl) rfl (CX (a:= .sl 1 (x0.map (cdL 5 AA).enc)) kr (BS (el:=22) kr))) ?_;exact AX AC
  refine AP (b:=(decide (c2 < (x0.length:Int)))) kr (fun hb3=>?_) (fun hb3=>?_)
  ·rw [if_pos hb3] at h
   refine AT ?_;refine AG ?_;refine AZ ?_;refine AG ?_;obtain ⟨v4,hv4,h⟩:=OB h;obtain ⟨v5,hv5,h⟩:=OB h;refine AL (s1:=⟨Fr 28 [p6,p5,p4,p3,p2,p1,(24,.v (.bool v5))],[]⟩) ?_ ?_
   ·refine AD (n:=28) AC 2 [p6,p5,p4,p3,p2,p1,(17,.sl 1 (x0.map (cdL 5 AA).enc)),(18,.v (.int .i64 c2))] [] kr ?_
    refine AS AC 0 rfl (DH (AB rfl) rfl (AW (a:= .sl 1 (x0.map (cdL 5 AA).enc)) (b:= .v (.int .i64 c2)) kr kr (DK (e:=(cdL 5 AA).enc) (el:=22) (k:=1) (ki:= .i64) kr kr hv4))) ?_;refine AD (n:=28) AC 4 [p6,p5,p4,p3,p2,p1,(20,.sl 5 (v4.map AA.enc)),(21,.sl 9 (x1.map AE.enc)),(22,.v (.int .i64 x2)),(23,.v (.int .i64 x3))] [] kr ?_;refine AR (caps:=[]) (xs:=[.sl 5 (v4.map AA.enc),.sl 9 (x1.map AE.enc),.v (.int .i64 x2),.v (.int .i64 x3)]) (u:=(v4,x1,x2,x3,())) rfl rfl Xe rfl (AB rfl) kr kr (AM (AU (c:=(cdL 5 AA)) (v:=v4)) (AM (AU (c:=(cdL 9 AE)) (v:=x1)) (AM (AU (c:=cdI) (v:=x2)) (AM (AU (c:=cdI) (v:=x3)) Af)))) (.inl kr) hv5 ?_;exact AI rfl AJ
   obtain ⟨r8,hr8,h⟩:=OB h;refine GU (SG x0 x1 x2 x3 c1 c2 v5 _ hr8) ?_
   let p7:Nat×AV:=(10,.v (.int .i64 (wr .i64 (c2 + 1))))
   refine Ci AC [p6,p5,p4,p3,(9,.v (.int .i64 r8)),p7] [] ?_;exact Ab (s1:=⟨Fr 28 [p6,p5,p4,p3,(9,.v (.int .i64 r8)),p7],[]⟩) AJ (ih r8 (wr .i64 (c2 + 1)) h)
  ·rw [BY hb3] at h
   refine Bi ?_;have hq:=OI h; subst hq;exact ⟨rfl,AJ⟩
theorem T8 (x0:(List (List AF))) (x1:(List Ai)) (x2:Int) (x3:Int) (r:Int) (h:Fd x0 x1 x2 x3=some r):Sem E0 ⟨none,false⟩ KE ⟨Fr 28 (Av 0 (M9.enc (x0,x1,x2,x3,()))),[]⟩ fun e s'=>(e = .normal\/e = .ret)/\∃ xs,D6 E0.P s'.fr s'.hp Tryz.f147.results.toList=some xs/\EA xs=NJ r:=by
 unfold Fd at h
 let p1:Nat×AV:=(3,.v (.int .i64 x3))
 let p2:Nat×AV:=(2,.v (.int .i64 x2))
 let p3:Nat×AV:=(1,.sl 9 (x1.map AE.enc))
 let p4:Nat×AV:=(0,.sl 1 (x0.map (cdL 5 AA).enc))
 refine Aj (A8 (s1:=⟨Fr 28 [p4,p3,p2,p1],[]⟩) AJ ?_);refine AK AC [p4,p3,p2,p1] [] ?_
 let p5:Nat×AV:=(9,.v (.int .i64 0))
 refine AK AC [p4,p3,p2,p1,p5] [] ?_;refine AG ?_;refine AK AC [p4,p3,p2,p1,p5,(10,.v (.int .i64 0))] [] ?_;refine AZ ?_;obtain ⟨r10,hr10,h⟩:=OB h;refine Bj (n:=100000) ?_;refine Ao (Ab (s1:=⟨Fr 28 [p4,p3,p2,p1,p5,(10,.v (.int .i64 0))],[]⟩) AJ (SH x0 x1 x2 x3 _ 0 0 _ hr10)) ?_;refine AK AC [(8,.v (.int .i64 r10))] [] ?_;refine AN ?_;have hq:=OI h; subst hq;exact ⟨⟨Fr 28 [(8,.v (.int .i64 r10))],[]⟩,AJ,.inr rfl,[.v (.int .i64 r10)],kr,kr⟩
def WY:List AV->Option AV:=Dk M9 (fun a=>Fd a.1 a.2.1 a.2.2.1 a.2.2.2.1) NJ
theorem Lr:XOk 147 WY:=by
 refine AQ Tryz.func147 (c:=KE) ?h2 ⟨Tryz.call147⟩ M9 (fun a=>Fd a.1 a.2.1 a.2.2.1 a.2.2.2.1) NJ (fun a=>(by show 4<=28; decide)) ?h3 ?h4
 case h2=>kernel_rfl
 case h3=>intro b; kernel_rfl
 case h4=>exact fun a b h=>T8 a.1 a.2.1 a.2.2.1 a.2.2.2.1 b h
/- trestle/trestleref03.Agree -/
noncomputable def IY:Code:=A3 Tryz.f102
def KI (c2:Int) (c6:Int) (c8:(List (Int×Int))) (j11:Bool):Option (((List (Int×Int)))) :=
 if j11=true then
 if (Gd 16 (c8.length + ([(c2,c6)]:List (Int×Int)).length))=true then
 some (c8++([(c2,c6)]:List (Int×Int)))
 else none
 else
 some c8
def Ey (x0:(List (List AF))) (x1:(List Ai)) (c2:Int):Nat->Int->(List (Int×Int))->Option (((List (Int×Int))))
 | 0,_,_=>none
 | f + 1,c6,c8 =>
  if (decide (c6 < (x1.length:Int)))=true then
  (if (decide ((x0.length:Int) > 0))=true then (Fd x0 x1 c2 c6).bind fun v10 =>
  some (v10==(x0.length:Int)) else some false).bind fun j11 =>
  (KI c2 c6 c8 j11).bind fun r31 =>
  Ey x0 x1 c2 f (wr .i64 (c6 + 1)) r31
  else
  some c8
def EH (x0:(List (List AF))) (x1:(List Ai)):Nat->Int->(List (Int×Int))->Option (((List (Int×Int))))
 | 0,_,_=>none
 | f + 1,c2,c4 =>
  if (decide (c2 < (x1.length:Int)))=true then
  (Ey x0 x1 c2 100000 0 c4).bind fun r38 =>
  EH x0 x1 f (wr .i64 (c2 + 1)) r38
  else
  some c4
def Is (x0:(List (List AF))) (x1:(List Ai)):Option ((List (Int×Int))) :=
 (EH x0 x1 100000 0 ([]:(List (Int×Int)))).bind fun r44 =>
 some r44
theorem SA {L:List Asn}{hp:Hp}(c2:Int) (c6:Int) (c8:(List (Int×Int))) (j11:Bool) (x0:(List (List AF))) (x1:(List Ai)) (e7:AV) (r:((List (Int×Int)))) (h:KI c2 c6 c8 j11=some r) (hT:T hp ((own_ (ocL 2 90 (ocV (ET cdI cdI (fun _=>rfl) (fun _=>rfl)))) e7 c8)::L)):SemY E0 ⟨none,false⟩ (pc IY [1,1,0,1,0,0,1,0,0,1,0,0,1,0,0,1]) ⟨Fr 40 [(0,.sl 1 (x0.map (cdL 5 AA).enc)),(1,.sl 9 (x1.map AE.enc)),(5,e7),(6,.v (.int .i64 c2)),(7,.v (.int .i64 c6)),(32,.v (.bool j11))],hp⟩ (fun e s=>e = .normal/\∃ s2,(∃ (e29:AV) (h':Hp),T h' ((own_ (ocL 2 90 (ocV (ET cdI cdI (fun _=>rfl) (fun _=>rfl)))) e29 r)::L)/\s2=⟨Fr 40 [(0,.sl 1 (x0.map (cdL 5 AA).enc)),(1,.sl 9 (x1.map AE.enc)),(5,e29),(6,.v (.int .i64 c2)),(7,.v (.int .i64 c6))],h'⟩)/\WkY E0 s s2):=by
 unfold KI at h;refine Du (b:=j11) kr (fun hb18=>?_) (fun hb18=>?_)
 ·rw [if_pos hb18] at h
  refine As ?_;refine Bd AC 4 ?_;obtain ⟨e22,hp19,hb20,hT21⟩:=TM (P:=Tryz.prog) (bytes:=16) (k:=2) (t:=90) (ty:=84) (xs:=([(c2,c6)]:List (Int×Int))) (n:=1) (ABQ (k:=2) (fun _=>⟨rfl,rfl,rfl⟩)) (TI (c:=(ET cdI cdI (fun _=>rfl) (fun _=>rfl))) (xs:=([(c2,c6)]:List (Int×Int))) hT) rfl kr kr kr;refine Bq AC 0 rfl (AAz (AB rfl) rfl kr (ABZ (xs:=U3 0 [.ag [.v (.int .i64 c2),.v (.int .i64 c6)]]) kr hb20)) ?_;by_cases hk27:(Gd 16 (c8.length + ([(c2,c6)]:List (Int×Int)).length))=true
  case neg=>rw [if_neg hk27] at h; cases h
  rw [if_pos hk27] at h
  have hT28:=((hT21.front 0 rfl).front 1 rfl)
  obtain ⟨e26,hp23,hb24,hT25⟩:=TG (P:=Tryz.prog) (ty:=84) (ty2:=84) (bytes:=16) hT28 kr kr hk27;refine Bq AC 0 rfl (Xg (AB rfl) rfl kr kr (Eb (a:=e7) (b:=e22) kr kr hb24)) ?_;refine Bd AC 1 ?_;refine Cb rfl ?_;have hq:=OI h; subst hq;exact ⟨rfl,_,⟨e26,hp23,hT25,rfl⟩,WkY.f1⟩
 ·rw [BY hb18] at h
  refine SemY.skip ?_;have hq:=OI h; subst hq;exact ⟨rfl,_,⟨e7,hp,hT,rfl⟩,WkY.f1⟩
theorem SC {L:List Asn}(x0:(List (List AF))) (x1:(List Ai)) (c2:Int):∀ (f:Nat) (c6:Int) (c8:(List (Int×Int))) (r:((List (Int×Int)))),Ey x0 x1 c2 f c6 c8=some r->∀ (e7:AV) (hp:Hp),T hp ((own_ (ocL 2 90 (ocV (ET cdI cdI (fun _=>rfl) (fun _=>rfl)))) e7 c8)::L)->SemYN E0 ⟨none,false⟩ (pc IY [1,1,0,1,0,0,1,0,0,1,0,0]) f ⟨Fr 40 [(0,.sl 1 (x0.map (cdL 5 AA).enc)),(1,.sl 9 (x1.map AE.enc)),(5,e7),(6,.v (.int .i64 c2)),(7,.v (.int .i64 c6))],hp⟩ (fun e s=>e=(.exit 2)/\∃ s2,(∃ (e36:AV) (h':Hp),T h' ((own_ (ocL 2 90 (ocV (ET cdI cdI (fun _=>rfl) (fun _=>rfl)))) e36 r)::L)/\s2=⟨Fr 40 [(0,.sl 1 (x0.map (cdL 5 AA).enc)),(1,.sl 9 (x1.map AE.enc)),(5,e36),(6,.v (.int .i64 c2))],h'⟩)/\WkY E0 s s2):=by
 intro f;induction f with
 | zero=>intro c6 c8 r h; cases h
 | succ f ih0 =>
  intro c6 c8 r h e7 hp hT;unfold Ey at h;refine Gb ?_;refine BK ?_;refine BK ?_;refine As ?_;refine Bd AC 2 ?_;refine Bq AC 0 rfl (DH (AB rfl) rfl (CX (a:= .sl 9 (x1.map AE.enc)) kr (BS (el:=42) kr))) ?_;refine Gc AC [(0,.sl 1 (x0.map (cdL 5 AA).enc)),(1,.sl 9 (x1.map AE.enc)),(5,e7),(6,.v (.int .i64 c2)),(7,.v (.int .i64 c6)),(17,.v (.bool (decide (c6 < (x1.length:Int)))))] ?_;refine Du (b:=(decide (c6 < (x1.length:Int)))) kr (fun hb9=>?_) (fun hb9=>?_)
  ·rw [if_pos hb9] at h
   refine SemY.skip ?_;refine BK ?_;refine Ch ?_;refine BK ?_;obtain ⟨j11,hj11,h⟩:=OB h;refine Qr (A:=fun s1=>∃ (h':Hp),T h' ((own_ (ocL 2 90 (ocV (ET cdI cdI (fun _=>rfl) (fun _=>rfl)))) e7 c8)::L)/\s1=⟨Fr 40 [(0,.sl 1 (x0.map (cdL 5 AA).enc)),(1,.sl 9 (x1.map AE.enc)),(5,e7),(6,.v (.int .i64 c2)),(7,.v (.int .i64 c6)),(32,.v (.bool j11))],h'⟩) ?_ ?_
   ·refine Bd AC 1 ?_
    refine Bq AC 0 rfl (DH (AB rfl) rfl (CX (a:= .sl 1 (x0.map (cdL 5 AA).enc)) kr (BS (el:=22) kr))) ?_;refine Ou (n:=40) AC 2 [(0,.sl 1 (x0.map (cdL 5 AA).enc)),(1,.sl 9 (x1.map AE.enc)),(5,e7),(6,.v (.int .i64 c2)),(7,.v (.int .i64 c6)),(23,.v (.bool (decide ((x0.length:Int) > 0))))] hp kr ?_;rcases BE (decide ((x0.length:Int) > 0)) with hc35 | hc35
    ·rw [if_pos hc35] at hj11
     rw [hc35];refine Bd AC 4 ?_;obtain ⟨v10,hv10,hj11⟩:=OB hj11;refine G6 (v:=v10) (caps:=[]) (xs:=[.sl 1 (x0.map (cdL 5 AA).enc),.sl 9 (x1.map AE.enc),.v (.int .i64 c2),.v (.int .i64 c6)]) (u:=(x0,x1,c2,c6,())) rfl rfl Lr rfl kr kr kr (Bp (C8 (c:=(cdL 1 (cdL 5 AA))) (v:=x0)) (Bp (C8 (c:=(cdL 9 AE)) (v:=x1)) (Bp (C8 (c:=cdI) (v:=c2)) (Bp (C8 (c:=cdI) (v:=c6)) SeesD.nil)))) (.inl kr) hv10 ?_;refine Bd AC 1 ?_;refine Bq AC 0 rfl (DH kr rfl (CX (a:= .sl 1 (x0.map (cdL 5 AA).enc)) kr (BS (el:=22) kr))) ?_;refine Bd AC 2 ?_;have hq:=OI hj11; subst hq;exact Cb rfl ⟨_,⟨hp,hT,rfl⟩,WkY.f1⟩
    ·rw [BY hc35] at hj11
     rw [hc35];refine Bd AC 9 ?_;have hq:=OI hj11; subst hq;exact Cb rfl ⟨_,⟨hp,hT,rfl⟩,WkY.f1⟩
   rintro _ ⟨hp16,hT17,rfl⟩;obtain ⟨r31,hr31,h⟩:=OB h;refine Lx (SA c2 c6 c8 j11 x0 x1 e7 _ hr31 hT17) ?_;rintro _ ⟨e32,hp33,hT34,rfl⟩;refine As ?_;refine Bd AC 3 ?_;refine Cb rfl ?_;exact D3 WkY.f1 (ih0 (wr .i64 (c6 + 1)) r31 _ h e32 hp33 hT34)
  ·rw [BY hb9] at h
   refine SemY.exit ?_;have hq:=OI h; subst hq;exact ⟨rfl,_,⟨e7,hp,hT,rfl⟩,WkY.f1⟩
theorem SB {L:List Asn}(x0:(List (List AF))) (x1:(List Ai)):∀ (f:Nat) (c2:Int) (c4:(List (Int×Int))) (r:((List (Int×Int)))),EH x0 x1 f c2 c4=some r->∀ (e3:AV) (hp:Hp),T hp ((own_ (ocL 2 90 (ocV (ET cdI cdI (fun _=>rfl) (fun _=>rfl)))) e3 c4)::L)->SemYN E0 ⟨none,false⟩ (pc IY [1,1,0,1,0,0]) f ⟨Fr 40 [(0,.sl 1 (x0.map (cdL 5 AA).enc)),(1,.sl 9 (x1.map AE.enc)),(5,e3),(6,.v (.int .i64 c2))],hp⟩ (fun e s=>e=(.exit 0)/\∃ s2,(∃ (e42:AV) (h':Hp),T h' ((own_ (ocL 2 90 (ocV (ET cdI cdI (fun _=>rfl) (fun _=>rfl)))) e42 r)::L)/\s2=⟨Fr 40 [(5,e42)],h'⟩)/\WkY E0 s s2):=by
 intro f;induction f with
 | zero=>intro c2 c4 r h; cases h
 | succ f ih0 =>
  intro c2 c4 r h e3 hp hT;unfold EH at h;refine Gb ?_;refine BK ?_;refine BK ?_;refine As ?_;refine Bd AC 2 ?_;refine Bq AC 0 rfl (DH (AB rfl) rfl (CX (a:= .sl 9 (x1.map AE.enc)) kr (BS (el:=42) kr))) ?_
  let p1:Nat×AV:=(0,.sl 1 (x0.map (cdL 5 AA).enc))
  refine Gc AC [p1,(1,.sl 9 (x1.map AE.enc)),(5,e3),(6,.v (.int .i64 c2)),(11,.v (.bool (decide (c2 < (x1.length:Int)))))] ?_;refine Du (b:=(decide (c2 < (x1.length:Int)))) kr (fun hb5=>?_) (fun hb5=>?_)
  ·rw [if_pos hb5] at h
   refine SemY.skip ?_;refine BK ?_;refine Ch ?_;refine CR AC [p1,(1,.sl 9 (x1.map AE.enc)),(5,e3),(6,.v (.int .i64 c2)),(7,.v (.int .i64 0))] ?_;refine Ch ?_;refine SemY.loop (n:=100000) ?_;obtain ⟨r38,hr38,h⟩:=OB h;refine F5 (D3 WkY.f1 (SC x0 x1 c2 _ 0 c4 _ hr38 e3 hp hT)) ?_;rintro _ ⟨e39,hp40,hT41,rfl⟩;refine As ?_;refine Bd AC 3 ?_;refine Cb rfl ?_;exact D3 WkY.f1 (ih0 (wr .i64 (c2 + 1)) r38 _ h e39 hp40 hT41)
  ·rw [BY hb5] at h
   refine SemY.exit ?_;have hq:=OI h; subst hq;exact ⟨rfl,_,⟨e3,hp,hT,rfl⟩,WkY.f1⟩
theorem T3 {L:List Asn}{hp:Hp}(x0:(List (List AF))) (x1:(List Ai)) (r:(List (Int×Int))) (h:Is x0 x1=some r) (hT:T hp (L)):SemY E0 ⟨none,false⟩ IY ⟨Fr 40 (Av 0 [.sl 1 (x0.map (cdL 5 AA).enc),.sl 9 (x1.map AE.enc)]),hp⟩ fun x s'=>(x = .normal\/x = .ret)/\∃ ys,D6 E0.P s'.fr s'.hp Tryz.f102.results.toList=some ys/\(fun v h'=>v = .sl 2 (r.map (ET cdI cdI (fun _=>rfl) (fun _=>rfl)).enc)/\T h' (L)) (EA ys) s'.hp:=by
 unfold Is at h
 let p1:Nat×AV:=(1,.sl 9 (x1.map AE.enc))
 let p2:Nat×AV:=(0,.sl 1 (x0.map (cdL 5 AA).enc))
 refine Nh (Ov (s1:=⟨Fr 40 [p2,p1],hp⟩) WkY.f1 ?_);refine CR AC [p2,p1] ?_;refine CR AC [p2,p1,(5,.e0)] ?_;refine BK ?_;refine CR AC [p2,p1,(5,.e0),(6,.v (.int .i64 0))] ?_;refine Ch ?_
 have hT1:=(T.e0 (k:=2) (ty:=90) (o:=(ocV (ET cdI cdI (fun _=>rfl) (fun _=>rfl)))) hT)
 refine SemY.loop (n:=100000) ?_;obtain ⟨r44,hr44,h⟩:=OB h;refine F5 (D3 WkY.f1 (SB x0 x1 _ 0 ([]:(List (Int×Int))) _ hr44 .e0 hp hT1)) ?_;rintro _ ⟨e45,hp46,hT47,rfl⟩;refine CR AC [(4,e45)] ?_;refine SemY.ret ?_;have hq:=OI h; subst hq
 let p3:Nat×AV:=(4,.sl 2 (r44.map (ET cdI cdI (fun _=>rfl) (fun _=>rfl)).enc))
 obtain ⟨hp48,hw49,hT50⟩:=Ni (E:=E0) (n:=40) (l:=[(4,e45)]) (l':=[p3]) hT47 (LkT.at_ ⟨.inr ⟨kr,rfl⟩,trivial⟩);exact ⟨⟨Fr 40 [p3],hp48⟩,(WkY.trans (WkY.trans WkY.f1 hw49) WkY.f1),.inr rfl,[.sl 2 (r44.map (ET cdI cdI (fun _=>rfl) (fun _=>rfl)).enc)],kr,⟨rfl,hT50⟩⟩
def QC:Cs ((List (List AF))×(List Ai)×Unit):=(csC (cdL 1 (cdL 5 AA)) (csC (cdL 9 AE) csN))
def QF (r:(List (Int×Int))):AV:=(cdL 2 (ET cdI cdI (fun _=>rfl) (fun _=>rfl))).enc r
def WS:List AV->Option AV:=Dk QC (fun a=>Is a.1 a.2.1) QF
theorem Wi:XOk 102 WS:=by
 refine AQ Tryz.func102 (c:=IY) ?h2 ⟨Tryz.call102⟩ QC (fun a=>Is a.1 a.2.1) QF (fun a=>(by show 2<=40; decide)) ?h3 ?h4
 case h2=>kernel_rfl
 case h3=>intro b; kernel_rfl
 case h4 =>
  intro a b h;refine Sem.mono (QL (T3 (L:=[]) (hp:=[]) a.1 a.2.1 b h T.nil)) fun e s' hs=>?_
  obtain ⟨h1,ys,h2,h3,-⟩:=hs;exact ⟨h1,ys,h2,h3⟩
/- trestle/trestleref03.Conflicts -/
noncomputable def Ge:Code:=A3 Tryz.f103
def Ho (c2:Int) (c6:Int) (c8:(List (Int×Int))) (j12:Bool):Option (((List (Int×Int)))) :=
 if j12=true then
 if (Gd 16 (c8.length + ([(c2,c6)]:List (Int×Int)).length))=true then
 some (c8++([(c2,c6)]:List (Int×Int)))
 else none
 else
 some c8
def DW (x0:(List (List AF))) (x1:(List Ai)) (c2:Int):Nat->Int->(List (Int×Int))->Option (((List (Int×Int))))
 | 0,_,_=>none
 | f + 1,c6,c8 =>
  if (decide (c6 < (x1.length:Int)))=true then
  (Fd x0 x1 c2 c6).bind fun v10 =>
  (if (decide (v10 > 0))=true then (Fd x0 x1 c6 c2).bind fun v11 =>
  some (decide (v11 > 0)) else some false).bind fun j12 =>
  (Ho c2 c6 c8 j12).bind fun r32 =>
  DW x0 x1 c2 f (wr .i64 (c6 + 1)) r32
  else
  some c8
def C9 (x0:(List (List AF))) (x1:(List Ai)):Nat->Int->(List (Int×Int))->Option (((List (Int×Int))))
 | 0,_,_=>none
 | f + 1,c2,c4 =>
  if (decide (c2 < (x1.length:Int)))=true then
  (DW x0 x1 c2 100000 (wr .i64 (c2 + 1)) c4).bind fun r39 =>
  C9 x0 x1 f (wr .i64 (c2 + 1)) r39
  else
  some c4
def GJ (x0:(List (List AF))) (x1:(List Ai)):Option ((List (Int×Int))) :=
 (C9 x0 x1 100000 0 ([]:(List (Int×Int)))).bind fun r45 =>
 some r45
theorem PO {L:List Asn}{hp:Hp}(c2:Int) (c6:Int) (c8:(List (Int×Int))) (j12:Bool) (x0:(List (List AF))) (x1:(List Ai)) (e7:AV) (r:((List (Int×Int)))) (h:Ho c2 c6 c8 j12=some r) (hT:T hp ((own_ (ocL 2 90 (ocV (ET cdI cdI (fun _=>rfl) (fun _=>rfl)))) e7 c8)::L)):SemY E0 ⟨none,false⟩ (pc Ge [1,1,0,1,0,0,1,0,0,1,0,0,1,0,0,1]) ⟨Fr 43 [(0,.sl 1 (x0.map (cdL 5 AA).enc)),(1,.sl 9 (x1.map AE.enc)),(5,e7),(6,.v (.int .i64 c2)),(7,.v (.int .i64 c6)),(35,.v (.bool j12))],hp⟩ (fun e s=>e = .normal/\∃ s2,(∃ (e30:AV) (h':Hp),T h' ((own_ (ocL 2 90 (ocV (ET cdI cdI (fun _=>rfl) (fun _=>rfl)))) e30 r)::L)/\s2=⟨Fr 43 [(0,.sl 1 (x0.map (cdL 5 AA).enc)),(1,.sl 9 (x1.map AE.enc)),(5,e30),(6,.v (.int .i64 c2)),(7,.v (.int .i64 c6))],h'⟩)/\WkY E0 s s2):=by
 unfold Ho at h;refine Du (b:=j12) kr (fun hb19=>?_) (fun hb19=>?_)
 ·rw [if_pos hb19] at h
  refine As ?_;refine Bd AC 4 ?_;obtain ⟨e23,hp20,hb21,hT22⟩:=TM (P:=Tryz.prog) (bytes:=16) (k:=2) (t:=90) (ty:=84) (xs:=([(c2,c6)]:List (Int×Int))) (n:=1) (ABQ (k:=2) (fun _=>⟨rfl,rfl,rfl⟩)) (TI (c:=(ET cdI cdI (fun _=>rfl) (fun _=>rfl))) (xs:=([(c2,c6)]:List (Int×Int))) hT) rfl kr kr kr;refine Bq AC 0 rfl (AAz (AB rfl) rfl kr (ABZ (xs:=U3 0 [.ag [.v (.int .i64 c2),.v (.int .i64 c6)]]) kr hb21)) ?_;by_cases hk28:(Gd 16 (c8.length + ([(c2,c6)]:List (Int×Int)).length))=true
  case neg=>rw [if_neg hk28] at h; cases h
  rw [if_pos hk28] at h
  have hT29:=((hT22.front 0 rfl).front 1 rfl)
  obtain ⟨e27,hp24,hb25,hT26⟩:=TG (P:=Tryz.prog) (ty:=84) (ty2:=84) (bytes:=16) hT29 kr kr hk28;refine Bq AC 0 rfl (Xg (AB rfl) rfl kr kr (Eb (a:=e7) (b:=e23) kr kr hb25)) ?_;refine Bd AC 1 ?_;refine Cb rfl ?_;have hq:=OI h; subst hq;exact ⟨rfl,_,⟨e27,hp24,hT26,rfl⟩,WkY.f1⟩
 ·rw [BY hb19] at h
  refine SemY.skip ?_;have hq:=OI h; subst hq;exact ⟨rfl,_,⟨e7,hp,hT,rfl⟩,WkY.f1⟩
theorem PQ {L:List Asn}(x0:(List (List AF))) (x1:(List Ai)) (c2:Int):∀ (f:Nat) (c6:Int) (c8:(List (Int×Int))) (r:((List (Int×Int)))),DW x0 x1 c2 f c6 c8=some r->∀ (e7:AV) (hp:Hp),T hp ((own_ (ocL 2 90 (ocV (ET cdI cdI (fun _=>rfl) (fun _=>rfl)))) e7 c8)::L)->SemYN E0 ⟨none,false⟩ (pc Ge [1,1,0,1,0,0,1,0,0,1,0,0]) f ⟨Fr 43 [(0,.sl 1 (x0.map (cdL 5 AA).enc)),(1,.sl 9 (x1.map AE.enc)),(5,e7),(6,.v (.int .i64 c2)),(7,.v (.int .i64 c6))],hp⟩ (fun e s=>e=(.exit 2)/\∃ s2,(∃ (e37:AV) (h':Hp),T h' ((own_ (ocL 2 90 (ocV (ET cdI cdI (fun _=>rfl) (fun _=>rfl)))) e37 r)::L)/\s2=⟨Fr 43 [(0,.sl 1 (x0.map (cdL 5 AA).enc)),(1,.sl 9 (x1.map AE.enc)),(5,e37),(6,.v (.int .i64 c2))],h'⟩)/\WkY E0 s s2):=by
 intro f;induction f with
 | zero=>intro c6 c8 r h; cases h
 | succ f ih0 =>
  intro c6 c8 r h e7 hp hT;unfold DW at h;refine Gb ?_;refine BK ?_;refine BK ?_;refine As ?_;refine Bd AC 2 ?_;refine Bq AC 0 rfl (DH (AB rfl) rfl (CX (a:= .sl 9 (x1.map AE.enc)) kr (BS (el:=42) kr))) ?_;refine Gc AC [(0,.sl 1 (x0.map (cdL 5 AA).enc)),(1,.sl 9 (x1.map AE.enc)),(5,e7),(6,.v (.int .i64 c2)),(7,.v (.int .i64 c6)),(19,.v (.bool (decide (c6 < (x1.length:Int)))))] ?_;refine Du (b:=(decide (c6 < (x1.length:Int)))) kr (fun hb9=>?_) (fun hb9=>?_)
  ·rw [if_pos hb9] at h
   refine SemY.skip ?_;refine BK ?_;refine Ch ?_;refine BK ?_;obtain ⟨v10,hv10,h⟩:=OB h;obtain ⟨j12,hj12,h⟩:=OB h;refine Qr (A:=fun s1=>∃ (h':Hp),T h' ((own_ (ocL 2 90 (ocV (ET cdI cdI (fun _=>rfl) (fun _=>rfl)))) e7 c8)::L)/\s1=⟨Fr 43 [(0,.sl 1 (x0.map (cdL 5 AA).enc)),(1,.sl 9 (x1.map AE.enc)),(5,e7),(6,.v (.int .i64 c2)),(7,.v (.int .i64 c6)),(35,.v (.bool j12))],h'⟩) ?_ ?_
   ·refine Bd AC 4 ?_
    refine G6 (v:=v10) (caps:=[]) (xs:=[.sl 1 (x0.map (cdL 5 AA).enc),.sl 9 (x1.map AE.enc),.v (.int .i64 c2),.v (.int .i64 c6)]) (u:=(x0,x1,c2,c6,())) rfl rfl Lr rfl (AB rfl) kr kr (Bp (C8 (c:=(cdL 1 (cdL 5 AA))) (v:=x0)) (Bp (C8 (c:=(cdL 9 AE)) (v:=x1)) (Bp (C8 (c:=cdI) (v:=c2)) (Bp (C8 (c:=cdI) (v:=c6)) SeesD.nil)))) (.inl kr) hv10 ?_;refine Ou (n:=43) AC 2 [(0,.sl 1 (x0.map (cdL 5 AA).enc)),(1,.sl 9 (x1.map AE.enc)),(5,e7),(6,.v (.int .i64 c2)),(7,.v (.int .i64 c6)),(28,.v (.bool (decide (v10 > 0))))] hp kr ?_;rcases BE (decide (v10 > 0)) with hc36 | hc36
    ·rw [if_pos hc36] at hj12
     rw [hc36];refine Bd AC 4 ?_;obtain ⟨v11,hv11,hj12⟩:=OB hj12;refine G6 (v:=v11) (caps:=[]) (xs:=[.sl 1 (x0.map (cdL 5 AA).enc),.sl 9 (x1.map AE.enc),.v (.int .i64 c6),.v (.int .i64 c2)]) (u:=(x0,x1,c6,c2,())) rfl rfl Lr rfl kr kr kr (Bp (C8 (c:=(cdL 1 (cdL 5 AA))) (v:=x0)) (Bp (C8 (c:=(cdL 9 AE)) (v:=x1)) (Bp (C8 (c:=cdI) (v:=c6)) (Bp (C8 (c:=cdI) (v:=c2)) SeesD.nil)))) (.inl kr) hv11 ?_;refine Bd AC 2 ?_;have hq:=OI hj12; subst hq;exact Cb rfl ⟨_,⟨hp,hT,rfl⟩,WkY.f1⟩
    ·rw [BY hc36] at hj12
     rw [hc36];refine Bd AC 7 ?_;have hq:=OI hj12; subst hq;exact Cb rfl ⟨_,⟨hp,hT,rfl⟩,WkY.f1⟩
   rintro _ ⟨hp17,hT18,rfl⟩;obtain ⟨r32,hr32,h⟩:=OB h;refine Lx (PO c2 c6 c8 j12 x0 x1 e7 _ hr32 hT18) ?_;rintro _ ⟨e33,hp34,hT35,rfl⟩;refine As ?_;refine Bd AC 3 ?_;refine Cb rfl ?_;exact D3 WkY.f1 (ih0 (wr .i64 (c6 + 1)) r32 _ h e33 hp34 hT35)
  ·rw [BY hb9] at h
   refine SemY.exit ?_;have hq:=OI h; subst hq;exact ⟨rfl,_,⟨e7,hp,hT,rfl⟩,WkY.f1⟩
theorem PP {L:List Asn}(x0:(List (List AF))) (x1:(List Ai)):∀ (f:Nat) (c2:Int) (c4:(List (Int×Int))) (r:((List (Int×Int)))),C9 x0 x1 f c2 c4=some r->∀ (e3:AV) (hp:Hp),T hp ((own_ (ocL 2 90 (ocV (ET cdI cdI (fun _=>rfl) (fun _=>rfl)))) e3 c4)::L)->SemYN E0 ⟨none,false⟩ (pc Ge [1,1,0,1,0,0]) f ⟨Fr 43 [(0,.sl 1 (x0.map (cdL 5 AA).enc)),(1,.sl 9 (x1.map AE.enc)),(5,e3),(6,.v (.int .i64 c2))],hp⟩ (fun e s=>e=(.exit 0)/\∃ s2,(∃ (e43:AV) (h':Hp),T h' ((own_ (ocL 2 90 (ocV (ET cdI cdI (fun _=>rfl) (fun _=>rfl)))) e43 r)::L)/\s2=⟨Fr 43 [(5,e43)],h'⟩)/\WkY E0 s s2):=by
 intro f;induction f with
 | zero=>intro c2 c4 r h; cases h
 | succ f ih0 =>
  intro c2 c4 r h e3 hp hT;unfold C9 at h;refine Gb ?_;refine BK ?_;refine BK ?_;refine As ?_;refine Bd AC 2 ?_;refine Bq AC 0 rfl (DH (AB rfl) rfl (CX (a:= .sl 9 (x1.map AE.enc)) kr (BS (el:=42) kr))) ?_
  let p1:Nat×AV:=(0,.sl 1 (x0.map (cdL 5 AA).enc))
  refine Gc AC [p1,(1,.sl 9 (x1.map AE.enc)),(5,e3),(6,.v (.int .i64 c2)),(11,.v (.bool (decide (c2 < (x1.length:Int)))))] ?_;refine Du (b:=(decide (c2 < (x1.length:Int)))) kr (fun hb5=>?_) (fun hb5=>?_)
  ·rw [if_pos hb5] at h
   refine SemY.skip ?_;refine BK ?_;refine Ch ?_;refine CR AC [p1,(1,.sl 9 (x1.map AE.enc)),(5,e3),(6,.v (.int .i64 c2)),(7,.v (.int .i64 (wr .i64 (c2 + 1))))] ?_;refine Ch ?_;refine SemY.loop (n:=100000) ?_;obtain ⟨r39,hr39,h⟩:=OB h;refine F5 (D3 WkY.f1 (PQ x0 x1 c2 _ (wr .i64 (c2 + 1)) c4 _ hr39 e3 hp hT)) ?_;rintro _ ⟨e40,hp41,hT42,rfl⟩;refine As ?_;refine Bd AC 3 ?_;refine Cb rfl ?_;exact D3 WkY.f1 (ih0 (wr .i64 (c2 + 1)) r39 _ h e40 hp41 hT42)
  ·rw [BY hb5] at h
   refine SemY.exit ?_;have hq:=OI h; subst hq;exact ⟨rfl,_,⟨e3,hp,hT,rfl⟩,WkY.f1⟩
theorem Qf {L:List Asn}{hp:Hp}(x0:(List (List AF))) (x1:(List Ai)) (r:(List (Int×Int))) (h:GJ x0 x1=some r) (hT:T hp (L)):SemY E0 ⟨none,false⟩ Ge ⟨Fr 43 (Av 0 [.sl 1 (x0.map (cdL 5 AA).enc),.sl 9 (x1.map AE.enc)]),hp⟩ fun x s'=>(x = .normal\/x = .ret)/\∃ ys,D6 E0.P s'.fr s'.hp Tryz.f103.results.toList=some ys/\(fun v h'=>v = .sl 2 (r.map (ET cdI cdI (fun _=>rfl) (fun _=>rfl)).enc)/\T h' (L)) (EA ys) s'.hp:=by
 unfold GJ at h
 let p1:Nat×AV:=(1,.sl 9 (x1.map AE.enc))
 let p2:Nat×AV:=(0,.sl 1 (x0.map (cdL 5 AA).enc))
 refine Nh (Ov (s1:=⟨Fr 43 [p2,p1],hp⟩) WkY.f1 ?_);refine CR AC [p2,p1] ?_;refine CR AC [p2,p1,(5,.e0)] ?_;refine BK ?_;refine CR AC [p2,p1,(5,.e0),(6,.v (.int .i64 0))] ?_;refine Ch ?_
 have hT1:=(T.e0 (k:=2) (ty:=90) (o:=(ocV (ET cdI cdI (fun _=>rfl) (fun _=>rfl)))) hT)
 refine SemY.loop (n:=100000) ?_;obtain ⟨r45,hr45,h⟩:=OB h;refine F5 (D3 WkY.f1 (PP x0 x1 _ 0 ([]:(List (Int×Int))) _ hr45 .e0 hp hT1)) ?_;rintro _ ⟨e46,hp47,hT48,rfl⟩;refine CR AC [(4,e46)] ?_;refine SemY.ret ?_;have hq:=OI h; subst hq
 let p3:Nat×AV:=(4,.sl 2 (r45.map (ET cdI cdI (fun _=>rfl) (fun _=>rfl)).enc))
 obtain ⟨hp49,hw50,hT51⟩:=Ni (E:=E0) (n:=43) (l:=[(4,e46)]) (l':=[p3]) hT48 (LkT.at_ ⟨.inr ⟨kr,rfl⟩,trivial⟩);exact ⟨⟨Fr 43 [p3],hp49⟩,(WkY.trans (WkY.trans WkY.f1 hw50) WkY.f1),.inr rfl,[.sl 2 (r45.map (ET cdI cdI (fun _=>rfl) (fun _=>rfl)).enc)],kr,⟨rfl,hT51⟩⟩
def Mm:Cs ((List (List AF))×(List Ai)×Unit):=(csC (cdL 1 (cdL 5 AA)) (csC (cdL 9 AE) csN))
def Mq (r:(List (Int×Int))):AV:=(cdL 2 (ET cdI cdI (fun _=>rfl) (fun _=>rfl))).enc r
def ST:List AV->Option AV:=Dk Mm (fun a=>GJ a.1 a.2.1) Mq
theorem Sa:XOk 103 ST:=by
 refine AQ Tryz.func103 (c:=Ge) ?h2 ⟨Tryz.call103⟩ Mm (fun a=>GJ a.1 a.2.1) Mq (fun a=>(by show 2<=43; decide)) ?h3 ?h4
 case h2=>kernel_rfl
 case h3=>intro b; kernel_rfl
 case h4 =>
  intro a b h;refine Sem.mono (QL (Qf (L:=[]) (hp:=[]) a.1 a.2.1 b h T.nil)) fun e s' hs=>?_
  obtain ⟨h1,ys,h2,h3,-⟩:=hs;exact ⟨h1,ys,h2,h3⟩
/- slices.Index[[]int,int] -/
noncomputable def Hu:Code:=A3 Tryz.f52
def EF (x0:(List Int)) (x1:Int):Nat->Int->Option ((Unit) ⊕ (Int))
 | 0,_=>none
 | f + 1,c1 =>
  if (decide (c1 < (x0.length:Int)))=true then
  (idx x0 c1).bind fun v3 =>
  if (x1==v3)=true then
  some (.inr c1)
  else
  EF x0 x1 f (wr .i64 (c1 + 1))
  else
  some (.inl ())
def FS (x0:(List Int)) (x1:Int):Option (Int) :=
 (EF x0 x1 100000 0).bind fun r6 =>
 match r6 with
 | (.inl _w7) =>
  some (-1)
 | (.inr w8) =>
  some w8
def Hy:Cs ((List Int)×Int×Unit):=(csC (cdL 1 cdI) (csC cdI csN))
def H1 (r:Int):AV:=cdI.enc r
theorem I3 (x0:(List Int)) (x1:Int):∀ (f:Nat) (c1:Int) (r:(Unit) ⊕ (Int)),EF x0 x1 f c1=some r->SemN E0 ⟨none,false⟩ (pc Hu [1,0,1,0,0]) f ⟨Fr 19 [(0,.sl 1 (x0.map cdI.enc)),(1,.v (.int .i64 x1)),(7,.v (.int .i64 (x0.length:Int))),(8,.v (.int .i64 c1))],[]⟩ (fun e s=>match r with
 | (.inl _w)=>e=(.exit 0)/\Wk E0 s ⟨Fr 19 [],[]⟩
 | (.inr w)=>e = .ret/\Wk E0 s ⟨Fr 19 [(4,.v (.int .i64 w))],[]⟩):=by
 intro f;induction f with
 | zero=>intro c1 r h; cases h
 | succ f ih0 =>
  intro c1 r h
  have ih:=fun (c1:Int)=>ih0 c1 r
  unfold EF at h;refine BR ?_
  let p1:Nat×AV:=(8,.v (.int .i64 c1))
  let p2:Nat×AV:=(7,.v (.int .i64 (x0.length:Int)))
  let p3:Nat×AV:=(1,.v (.int .i64 x1))
  let p4:Nat×AV:=(0,.sl 1 (x0.map cdI.enc))
  refine AK AC [p4,p3,p2,p1,(9,.v (.bool (decide (c1 < (x0.length:Int)))))] [] ?_;refine AG ?_;refine AP (b:=(decide (c1 < (x0.length:Int)))) kr (fun hb2=>?_) (fun hb2=>?_)
  ·rw [if_pos hb2] at h
   refine AT ?_;refine AG ?_;refine AZ ?_
   let p5:Nat×AV:=(5,.v (.int .i64 c1))
   refine AK AC [p4,p3,p5,p2,p1] [] ?_;refine AG ?_;obtain ⟨v3,hv3,h⟩:=OB h;refine AL (s1:=⟨Fr 19 [p4,p3,p5,p2,p1,(16,.v (.bool (x1==v3)))],[]⟩) ?_ ?_
   ·refine AD (n:=19) AC 3 [p4,p3,p5,p2,p1,(11,.v (.int .i64 x1)),(12,.sl 1 (x0.map cdI.enc)),(13,.v (.int .i64 c1))] [] kr ?_
    refine AS AC 0 rfl (DH (AB rfl) rfl (AW (a:= .sl 1 (x0.map cdI.enc)) (b:= .v (.int .i64 c1)) kr kr (DK (e:=cdI.enc) (el:=3) (k:=1) (ki:= .i64) kr kr hv3))) ?_;exact AX AC
   refine AP (b:=(x1==v3)) kr (fun hb4=>?_) (fun hb4=>?_)
   ·rw [if_pos hb4] at h
    refine AK AC [(4,.v (.int .i64 c1))] [] ?_;refine AN ?_;have hq:=OI h; subst hq;exact ⟨rfl,AJ⟩
   ·rw [BY hb4] at h
    refine AT ?_
    let p6:Nat×AV:=(8,.v (.int .i64 (wr .i64 (c1 + 1))))
    refine Ci AC [p4,p3,p2,p6] [] ?_;exact Ab (s1:=⟨Fr 19 [p4,p3,p2,p6],[]⟩) AJ (ih (wr .i64 (c1 + 1)) h)
  ·rw [BY hb2] at h
   refine Bi ?_;have hq:=OI h; subst hq;exact ⟨rfl,AJ⟩
theorem Ot (x0:(List Int)) (x1:Int) (r:Int) (h:FS x0 x1=some r):Sem E0 ⟨none,false⟩ Hu ⟨Fr 19 (Av 0 (Hy.enc (x0,x1,()))),[]⟩ fun e s'=>(e = .normal\/e = .ret)/\∃ xs,D6 E0.P s'.fr s'.hp Tryz.f52.results.toList=some xs/\EA xs=H1 r:=by
 unfold FS at h
 let p1:Nat×AV:=(1,.v (.int .i64 x1))
 let p2:Nat×AV:=(0,.sl 1 (x0.map cdI.enc))
 refine Aj (A8 (s1:=⟨Fr 19 [p2,p1],[]⟩) AJ ?_);refine AK AC [p2,p1] [] ?_;refine AG ?_;refine AG ?_
 let p3:Nat×AV:=(8,.v (.int .i64 0))
 let p4:Nat×AV:=(7,.v (.int .i64 (x0.length:Int)))
 refine AL (s1:=⟨Fr 19 [p2,p1,p4,p3],[]⟩) ?_ ?_
 ·refine AD (n:=19) AC 1 [p2,p1,(6,.sl 1 (x0.map cdI.enc))] [] kr ?_
  refine AS AC 0 rfl (DH (AB rfl) rfl (CX (a:= .sl 1 (x0.map cdI.enc)) kr (BS (el:=3) kr))) ?_;exact AX AC
 refine AZ ?_;obtain ⟨r6,hr6,h⟩:=OB h;refine Bj (n:=100000) ?_;rcases r6 with w7 | w8
 ·try dsimp only at h
  refine Ao (Ab (s1:=⟨Fr 19 [p2,p1,p4,p3],[]⟩) AJ (I3 x0 x1 _ 0 _ hr6)) ?_;refine AK AC [(4,.v (.int .i64 (-1)))] [] ?_;refine AN ?_;have hq:=OI h; subst hq;exact ⟨⟨Fr 19 [(4,.v (.int .i64 (-1)))],[]⟩,AJ,.inr rfl,[.v (.int .i64 (-1))],kr,kr⟩
 ·try dsimp only at h
  refine Ao (Ab (s1:=⟨Fr 19 [p2,p1,p4,p3],[]⟩) AJ (I3 x0 x1 _ 0 _ hr6)) ?_;have hq:=OI h; subst hq;exact ⟨⟨Fr 19 [(4,.v (.int .i64 w8))],[]⟩,AJ,.inr rfl,[.v (.int .i64 w8)],kr,kr⟩
def P0:List AV->Option AV:=Dk Hy (fun a=>FS a.1 a.2.1) H1
theorem P4:XOk 52 P0:=by
 refine AQ Tryz.func52 (c:=Hu) ?h2 ⟨Tryz.call52⟩ Hy (fun a=>FS a.1 a.2.1) H1 (fun a=>(by show 2<=19; decide)) ?h3 ?h4
 case h2=>kernel_rfl
 case h3=>intro b; kernel_rfl
 case h4=>exact fun a b h=>Ot a.1 a.2.1 b h
/- slices.Contains[[]int,int] -/
noncomputable def Iy:Code:=A3 Tryz.f112
def Dg (x0:(List Int)) (x1:Int):Option (Bool) :=
 (FS x0 x1).bind fun v1 =>
 some (decide (v1≥0))
def HD:Cs ((List Int)×Int×Unit):=(csC (cdL 1 cdI) (csC cdI csN))
def HE (r:Bool):AV:=cdB.enc r
theorem NM (x0:(List Int)) (x1:Int) (r:Bool) (h:Dg x0 x1=some r):Sem E0 ⟨none,false⟩ Iy ⟨Fr 9 (Av 0 (HD.enc (x0,x1,()))),[]⟩ fun e s'=>(e = .normal\/e = .ret)/\∃ xs,D6 E0.P s'.fr s'.hp Tryz.f112.results.toList=some xs/\EA xs=HE r:=by
 unfold Dg at h;refine Aj (A8 (s1:=⟨Fr 9 [(0,.sl 1 (x0.map cdI.enc)),(1,.v (.int .i64 x1))],[]⟩) AJ ?_);refine AK AC [(0,.sl 1 (x0.map cdI.enc)),(1,.v (.int .i64 x1))] [] ?_;refine AG ?_;obtain ⟨v1,hv1,h⟩:=OB h
 let p1:Nat×AV:=(4,.v (.bool (decide (v1≥0))))
 refine AL (s1:=⟨Fr 9 [p1],[]⟩) ?_ ?_
 ·refine AD (n:=9) AC 2 [(5,.sl 1 (x0.map cdI.enc)),(6,.v (.int .i64 x1))] [] kr ?_
  refine AR (caps:=[]) (xs:=[.sl 1 (x0.map cdI.enc),.v (.int .i64 x1)]) (u:=(x0,x1,())) rfl rfl P4 rfl (AB rfl) kr kr (AM (AU (c:=(cdL 1 cdI)) (v:=x0)) (AM (AU (c:=cdI) (v:=x1)) Af)) (.inl kr) hv1 ?_;exact AX AC
 refine AN ?_;have hq:=OI h; subst hq;exact ⟨⟨Fr 9 [p1],[]⟩,AJ,.inr rfl,[.v (.bool (decide (v1≥0)))],kr,kr⟩
def OA:List AV->Option AV:=Dk HD (fun a=>Dg a.1 a.2.1) HE
theorem OH:XOk 112 OA:=by
 refine AQ Tryz.func112 (c:=Iy) ?h2 ⟨Tryz.call112⟩ HD (fun a=>Dg a.1 a.2.1) HE (fun a=>(by show 2<=9; decide)) ?h3 ?h4
 case h2=>kernel_rfl
 case h3=>intro b; kernel_rfl
 case h4=>exact fun a b h=>NM a.1 a.2.1 b h
/- trestle/trestlelaw03.permutation -/
noncomputable def IN:Code:=A3 Tryz.f50
def Dx (x0:(List Int)) (x1:Int):Nat->Int->Option ((Unit) ⊕ (Bool))
 | 0,_=>none
 | f + 1,c2 =>
  if (decide (c2 < x1))=true then
  (Dg x0 c2).bind fun v4 =>
  if (!v4)=true then
  some (.inr false)
  else
  Dx x0 x1 f (wr .i64 (c2 + 1))
  else
  some (.inl ())
def Eq (x0:(List Int)) (x1:Int):Option (Bool) :=
 if ((x0.length:Int)!=x1)=true then
 some false
 else
 (Dx x0 x1 100000 0).bind fun r7 =>
 match r7 with
 | (.inl _w8) =>
  some true
 | (.inr w9) =>
  some w9
def IS:Cs ((List Int)×Int×Unit):=(csC (cdL 1 cdI) (csC cdI csN))
def IW (r:Bool):AV:=cdB.enc r
theorem JZ (x0:(List Int)) (x1:Int):∀ (f:Nat) (c2:Int) (r:(Unit) ⊕ (Bool)),Dx x0 x1 f c2=some r->SemN E0 ⟨none,false⟩ (pc IN [1,1,0,1,0,0]) f ⟨Fr 19 [(0,.sl 1 (x0.map cdI.enc)),(10,.v (.int .i64 x1)),(11,.v (.int .i64 c2))],[]⟩ (fun e s=>match r with
 | (.inl _w)=>e=(.exit 0)/\Wk E0 s ⟨Fr 19 [],[]⟩
 | (.inr w)=>e = .ret/\Wk E0 s ⟨Fr 19 [(4,.v (.bool w))],[]⟩):=by
 intro f;induction f with
 | zero=>intro c2 r h; cases h
 | succ f ih0 =>
  intro c2 r h
  have ih:=fun (c2:Int)=>ih0 c2 r
  unfold Dx at h;refine BR ?_
  let p1:Nat×AV:=(11,.v (.int .i64 c2))
  let p2:Nat×AV:=(10,.v (.int .i64 x1))
  let p3:Nat×AV:=(0,.sl 1 (x0.map cdI.enc))
  refine AK AC [p3,p2,p1,(12,.v (.bool (decide (c2 < x1))))] [] ?_;refine AG ?_;refine AP (b:=(decide (c2 < x1))) kr (fun hb3=>?_) (fun hb3=>?_)
  ·rw [if_pos hb3] at h
   refine AT ?_;refine AG ?_;refine AZ ?_;refine AK AC [p3,(5,.v (.int .i64 c2)),p2,p1] [] ?_;refine AG ?_;obtain ⟨v4,hv4,h⟩:=OB h;refine AL (s1:=⟨Fr 19 [p3,p2,p1,(17,.v (.bool (!v4)))],[]⟩) ?_ ?_
   ·refine AD (n:=19) AC 2 [p3,p2,p1,(14,.sl 1 (x0.map cdI.enc)),(15,.v (.int .i64 c2))] [] kr ?_
    refine AR (caps:=[]) (xs:=[.sl 1 (x0.map cdI.enc),.v (.int .i64 c2)]) (u:=(x0,c2,())) rfl rfl OH rfl (AB rfl) kr kr (AM (AU (c:=(cdL 1 cdI)) (v:=x0)) (AM (AU (c:=cdI) (v:=c2)) Af)) (.inl kr) hv4 ?_;exact AX AC
   refine AP (b:=(!v4)) kr (fun hb5=>?_) (fun hb5=>?_)
   ·rw [if_pos hb5] at h
    refine AK AC [(4,.v (.bool false))] [] ?_;refine AN ?_;have hq:=OI h; subst hq;exact ⟨rfl,AJ⟩
   ·rw [BY hb5] at h
    refine AT ?_
    let p4:Nat×AV:=(11,.v (.int .i64 (wr .i64 (c2 + 1))))
    refine Ci AC [p3,p2,p4] [] ?_;exact Ab (s1:=⟨Fr 19 [p3,p2,p4],[]⟩) AJ (ih (wr .i64 (c2 + 1)) h)
  ·rw [BY hb3] at h
   refine Bi ?_;have hq:=OI h; subst hq;exact ⟨rfl,AJ⟩
theorem PK (x0:(List Int)) (x1:Int) (r:Bool) (h:Eq x0 x1=some r):Sem E0 ⟨none,false⟩ IN ⟨Fr 19 (Av 0 (IS.enc (x0,x1,()))),[]⟩ fun e s'=>(e = .normal\/e = .ret)/\∃ xs,D6 E0.P s'.fr s'.hp Tryz.f50.results.toList=some xs/\EA xs=IW r:=by
 unfold Eq at h
 let p1:Nat×AV:=(1,.v (.int .i64 x1))
 let p2:Nat×AV:=(0,.sl 1 (x0.map cdI.enc))
 refine Aj (A8 (s1:=⟨Fr 19 [p2,p1],[]⟩) AJ ?_);refine AK AC [p2,p1] [] ?_;refine AG ?_;refine AG ?_;refine AL (s1:=⟨Fr 19 [p2,p1,(9,.v (.bool ((x0.length:Int)!=x1)))],[]⟩) ?_ ?_
 ·refine AD (n:=19) AC 1 [p2,p1,(6,.sl 1 (x0.map cdI.enc))] [] kr ?_
  refine AS AC 0 rfl (DH (AB rfl) rfl (CX (a:= .sl 1 (x0.map cdI.enc)) kr (BS (el:=3) kr))) ?_;exact AX AC
 refine AP (b:=((x0.length:Int)!=x1)) kr (fun hb1=>?_) (fun hb1=>?_)
 ·rw [if_pos hb1] at h
  refine AK AC [(4,.v (.bool false))] [] ?_;refine AN ?_;have hq:=OI h; subst hq;exact ⟨⟨Fr 19 [(4,.v (.bool false))],[]⟩,AJ,.inr rfl,[.v (.bool false)],kr,kr⟩
 ·rw [BY hb1] at h
  refine AT ?_;refine AG ?_
  let p3:Nat×AV:=(11,.v (.int .i64 0))
  let p4:Nat×AV:=(10,.v (.int .i64 x1))
  refine AK AC [p2,p4,p3] [] ?_;refine AZ ?_;obtain ⟨r7,hr7,h⟩:=OB h;refine Bj (n:=100000) ?_;rcases r7 with w8 | w9
  ·try dsimp only at h
   refine Ao (Ab (s1:=⟨Fr 19 [p2,p4,p3],[]⟩) AJ (JZ x0 x1 _ 0 _ hr7)) ?_;refine AK AC [(4,.v (.bool true))] [] ?_;refine AN ?_;have hq:=OI h; subst hq;exact ⟨⟨Fr 19 [(4,.v (.bool true))],[]⟩,AJ,.inr rfl,[.v (.bool true)],kr,kr⟩
  ·try dsimp only at h
   refine Ao (Ab (s1:=⟨Fr 19 [p2,p4,p3],[]⟩) AJ (JZ x0 x1 _ 0 _ hr7)) ?_;have hq:=OI h; subst hq;exact ⟨⟨Fr 19 [(4,.v (.bool w9))],[]⟩,AJ,.inr rfl,[.v (.bool w9)],kr,kr⟩
def Qj:List AV->Option AV:=Dk IS (fun a=>Eq a.1 a.2.1) IW
theorem Qo:XOk 50 Qj:=by
 refine AQ Tryz.func50 (c:=IN) ?h2 ⟨Tryz.call50⟩ IS (fun a=>Eq a.1 a.2.1) IW (fun a=>(by show 2<=19; decide)) ?h3 ?h4
 case h2=>kernel_rfl
 case h3=>intro b; kernel_rfl
 case h4=>exact fun a b h=>PK a.1 a.2.1 b h
/- trestle/trestleref03.Votes -/
noncomputable def KD:Code:=A3 Tryz.f105
def EI (x0:(List (List AF))) (x1:(List Ai)) (c1:(List (List Int))) (c2:Int):Nat->(List Int)->Int->Option (((List Int)))
 | 0,_,_=>none
 | f + 1,c4,c5 =>
  if (decide (c5 < (x1.length:Int)))=true then
  (Fd x0 x1 c2 c5).bind fun v7 =>
  if (Gd 8 (c4.length + 1))=true then
  EI x0 x1 c1 c2 f (c4++[v7]) (wr .i64 (c5 + 1))
  else none
  else
  some c4
def Do (x0:(List (List AF))) (x1:(List Ai)):Nat->(List (List Int))->Int->Option (((List (List Int))))
 | 0,_,_=>none
 | f + 1,c1,c2 =>
  if (decide (c2 < (x1.length:Int)))=true then
  (EI x0 x1 c1 c2 100000 [] 0).bind fun r10 =>
  if (Gd 24 (c1.length + 1))=true then
  Do x0 x1 f (c1++[r10]) (wr .i64 (c2 + 1))
  else none
  else
  some c1
def Iw (x0:(List (List AF))) (x1:(List Ai)):Option ((List (List Int))) :=
 (Do x0 x1 100000 [] 0).bind fun r13 =>
 some r13
def M7:Cs ((List (List AF))×(List Ai)×Unit):=(csC (cdL 1 (cdL 5 AA)) (csC (cdL 9 AE) csN))
def NH (r:(List (List Int))):AV:=(cdL 1 (cdL 1 cdI)).enc r
theorem SE (x0:(List (List AF))) (x1:(List Ai)) (c1:(List (List Int))) (c2:Int):∀ (f:Nat) (c4:(List Int)) (c5:Int) (r:((List Int))),EI x0 x1 c1 c2 f c4 c5=some r->SemN E0 ⟨none,false⟩ (pc KD [1,1,0,1,0,0,1,0,0,1,0,1,0,0]) f ⟨Fr 34 [(0,.sl 1 (x0.map (cdL 5 AA).enc)),(1,.sl 9 (x1.map AE.enc)),(5,hd 0 (c1.map (cdL 1 cdI).enc)),(6,.v (.int .i64 c2)),(7,hd 1 (c4.map cdI.enc)),(8,.v (.int .i64 c5))],[mk 1 48 (c1.map (cdL 1 cdI).enc),mk 1 3 (c4.map cdI.enc)]⟩ (fun e s=>e=(.exit 2)/\Wk E0 s ⟨Fr 34 [(0,.sl 1 (x0.map (cdL 5 AA).enc)),(1,.sl 9 (x1.map AE.enc)),(5,hd 0 (c1.map (cdL 1 cdI).enc)),(6,.v (.int .i64 c2)),(7,hd 1 (r.map cdI.enc))],[mk 1 48 (c1.map (cdL 1 cdI).enc),mk 1 3 (r.map cdI.enc)]⟩):=by
 intro f;induction f with
 | zero=>intro c4 c5 r h; cases h
 | succ f ih0 =>
  intro c4 c5 r h
  have ih:=fun (c4:(List Int)) (c5:Int)=>ih0 c4 c5 r
  unfold EI at h;refine BR ?_;refine AG ?_;refine AG ?_
  let p1:Option Blk:=mk 1 3 (c4.map cdI.enc)
  let p2:Option Blk:=mk 1 48 (c1.map (cdL 1 cdI).enc)
  let p3:Nat×AV:=(8,.v (.int .i64 c5))
  let p4:Nat×AV:=(6,.v (.int .i64 c2))
  let p5:Nat×AV:=(5,hd 0 (c1.map (cdL 1 cdI).enc))
  let p6:Nat×AV:=(1,.sl 9 (x1.map AE.enc))
  let p7:Nat×AV:=(0,.sl 1 (x0.map (cdL 5 AA).enc))
  refine AL (s1:=⟨Fr 34 [p7,p6,p5,p4,(7,hd 1 (c4.map cdI.enc)),p3,(18,.v (.bool (decide (c5 < (x1.length:Int)))))],[p2,p1]⟩) ?_ ?_
  ·refine AD (n:=34) AC 2 [p7,p6,p5,p4,(7,hd 1 (c4.map cdI.enc)),p3,(15,.v (.int .i64 c5)),(16,.sl 9 (x1.map AE.enc))] [p2,p1] kr ?_
   refine AS AC 0 rfl (DH (AB rfl) rfl (CX (a:= .sl 9 (x1.map AE.enc)) kr (BS (el:=42) kr))) ?_;exact AX AC
  refine AP (b:=(decide (c5 < (x1.length:Int)))) kr (fun hb6=>?_) (fun hb6=>?_)
  ·rw [if_pos hb6] at h
   refine AT ?_;refine AG ?_;refine AZ ?_;obtain ⟨v7,hv7,h⟩:=OB h;by_cases hk8:(Gd 8 (c4.length + 1))=true
   case neg=>rw [if_neg hk8] at h; cases h
   rw [if_pos hk8] at h
   let p8:Option Blk:=mk 1 3 ((c4++[v7]).map cdI.enc)
   let p9:Nat×AV:=(7,hd 1 ((c4++[v7]).map cdI.enc))
   refine AL (s1:=⟨Fr 34 [p7,p6,p5,p4,p9,p3],[p2,p8]⟩) ?_ ?_
   ·refine AD (n:=34) AC 5 [p7,p6,p5,p4,p3,(21,hd 1 (c4.map cdI.enc)),(22,.sl 1 (x0.map (cdL 5 AA).enc)),(23,.sl 9 (x1.map AE.enc)),(24,.v (.int .i64 c2)),(25,.v (.int .i64 c5))] [p2,p1] kr ?_
    refine AR (caps:=[]) (xs:=[.sl 1 (x0.map (cdL 5 AA).enc),.sl 9 (x1.map AE.enc),.v (.int .i64 c2),.v (.int .i64 c5)]) (u:=(x0,x1,c2,c5,())) rfl rfl Lr rfl (AB rfl) kr kr (AM (AU (c:=(cdL 1 (cdL 5 AA))) (v:=x0)) (AM (AU (c:=(cdL 9 AE)) (v:=x1)) (AM (AU (c:=cdI) (v:=c2)) (AM (AU (c:=cdI) (v:=c5)) Af)))) (.inl kr) hv7 ?_;refine AD (n:=34) AC 1 [p7,p6,p5,p4,p3,(21,hd 1 (c4.map cdI.enc)),(27,hd 2 ([v7].map cdI.enc))] [p2,p1,mk 1 3 ([v7].map cdI.enc)] kr ?_;refine AS AC 0 rfl (Xg (AB rfl) rfl kr kr (Eb (a:=hd 1 (c4.map cdI.enc)) (b:=hd 2 ([v7].map cdI.enc)) kr kr (MZ (c:=cdI) (xs:=c4) (vs:=[v7]) (k:=1) (bytes:=8) (el:=3) kr kr (G5 (t:=3) kr) (List.cons_ne_nil _ _) kr hk8))) ?_;refine AD (n:=34) AC 1 [p7,p6,p5,p4,(7,hd 3 ((c4++[v7]).map cdI.enc)),p3] [p2,none,mk 1 3 ([v7].map cdI.enc),p8] kr ?_;exact AI rfl (Ae [0,3] ⟨⟨_,rfl,IX⟩,⟨_,rfl,IX⟩,trivial⟩ ⟨lv,lv,Id (b':=0) kr kr,lv,Id (b':=3) kr kr,lv,trivial⟩)
   let p10:Nat×AV:=(8,.v (.int .i64 (wr .i64 (c5 + 1))))
   refine Ci AC [p7,p6,p5,p4,p9,p10] [p2,p8] ?_;exact Ab (s1:=⟨Fr 34 [p7,p6,p5,p4,p9,p10],[p2,p8]⟩) (Ae [0,1] ⟨⟨_,rfl,IX⟩,⟨_,rfl,IX⟩,trivial⟩ ⟨lv,lv,Id (b':=0) kr kr,lv,Id (b':=1) kr kr,lv,trivial⟩) (ih (c4++[v7]) (wr .i64 (c5 + 1)) h)
  ·rw [BY hb6] at h
   refine Bi ?_;have hq:=OI h; subst hq;exact ⟨rfl,(Ae [0,1] ⟨⟨_,rfl,IX⟩,⟨_,rfl,IX⟩,trivial⟩ ⟨lv,lv,Id (b':=0) kr kr,lv,Id (b':=1) kr kr,trivial⟩)⟩
theorem SD (x0:(List (List AF))) (x1:(List Ai)):∀ (f:Nat) (c1:(List (List Int))) (c2:Int) (r:((List (List Int)))),Do x0 x1 f c1 c2=some r->SemN E0 ⟨none,false⟩ (pc KD [1,1,0,1,0,0]) f ⟨Fr 34 [(0,.sl 1 (x0.map (cdL 5 AA).enc)),(1,.sl 9 (x1.map AE.enc)),(5,hd 0 (c1.map (cdL 1 cdI).enc)),(6,.v (.int .i64 c2))],[mk 1 48 (c1.map (cdL 1 cdI).enc)]⟩ (fun e s=>e=(.exit 0)/\Wk E0 s ⟨Fr 34 [(5,hd 0 (r.map (cdL 1 cdI).enc))],[mk 1 48 (r.map (cdL 1 cdI).enc)]⟩):=by
 intro f;induction f with
 | zero=>intro c1 c2 r h; cases h
 | succ f ih0 =>
  intro c1 c2 r h
  have ih:=fun (c1:(List (List Int))) (c2:Int)=>ih0 c1 c2 r
  unfold Do at h;refine BR ?_;refine AG ?_;refine AG ?_
  let p1:Option Blk:=mk 1 48 (c1.map (cdL 1 cdI).enc)
  let p2:Nat×AV:=(6,.v (.int .i64 c2))
  let p3:Nat×AV:=(5,hd 0 (c1.map (cdL 1 cdI).enc))
  let p4:Nat×AV:=(1,.sl 9 (x1.map AE.enc))
  let p5:Nat×AV:=(0,.sl 1 (x0.map (cdL 5 AA).enc))
  refine AL (s1:=⟨Fr 34 [p5,p4,p3,p2,(12,.v (.bool (decide (c2 < (x1.length:Int)))))],[p1]⟩) ?_ ?_
  ·refine AD (n:=34) AC 2 [p5,p4,p3,p2,(9,.v (.int .i64 c2)),(10,.sl 9 (x1.map AE.enc))] [p1] kr ?_
   refine AS AC 0 rfl (DH (AB rfl) rfl (CX (a:= .sl 9 (x1.map AE.enc)) kr (BS (el:=42) kr))) ?_;exact AX AC
  refine AP (b:=(decide (c2 < (x1.length:Int)))) kr (fun hb3=>?_) (fun hb3=>?_)
  ·rw [if_pos hb3] at h
   refine AT ?_;refine AG ?_;refine AZ ?_;refine AK AC [p5,p4,p3,p2,(7,.e0)] [p1] ?_;refine AG ?_
   let p6:Nat×AV:=(8,.v (.int .i64 0))
   refine AK AC [p5,p4,p3,p2,(7,.e0),p6] [p1] ?_;refine AZ ?_;obtain ⟨r10,hr10,h⟩:=OB h;refine Bj (n:=100000) ?_;refine Ao (Ab (s1:=⟨Fr 34 [p5,p4,p3,p2,(7,hd 1 ([].map cdI.enc)),p6],[p1,mk 1 3 ([].map cdI.enc)]⟩) (Wk.trans (s1:=⟨Fr 34 [p5,p4,p3,p2,(7,hd 1 ([].map cdI.enc)),p6],[p1,mk 1 3 ([].map cdI.enc)]⟩) Wk.none (Ae [0,1] ⟨⟨_,rfl,IX⟩,⟨_,rfl,O0⟩,trivial⟩ ⟨lv,lv,Id (b':=0) kr kr,lv,lv,lv,trivial⟩)) (SE x0 x1 c1 c2 _ [] 0 _ hr10)) ?_;by_cases hk11:(Gd 24 (c1.length + 1))=true
   case neg=>rw [if_neg hk11] at h; cases h
   rw [if_pos hk11] at h
   let p7:Option Blk:=mk 1 48 ((c1++[r10]).map (cdL 1 cdI).enc)
   let p8:Nat×AV:=(5,hd 0 ((c1++[r10]).map (cdL 1 cdI).enc))
   refine AL (s1:=⟨Fr 34 [p5,p4,p8,p2],[p7]⟩) ?_ ?_
   ·let p9:Nat×AV:=(29,hd 0 (c1.map (cdL 1 cdI).enc))
    refine AD (n:=34) AC 2 [p5,p4,p2,p9,(30,hd 1 (r10.map cdI.enc))] [p1,mk 1 3 (r10.map cdI.enc)] kr ?_;refine ZZ (s1:=⟨Fr 34 [p5,p4,p2,p9,(30,.sl 1 (r10.map cdI.enc))],[p1,none]⟩) (Kg 1 (.inl kr) ⟨.inr (.inl rfl),.inl rfl,trivial⟩ ⟨⟨.sl 1 (x0.map (cdL 5 AA).enc),kr,.inl rfl⟩,⟨.sl 9 (x1.map AE.enc),kr,.inl rfl⟩,⟨.v (.int .i64 c2),kr,.inl rfl⟩,⟨hd 0 (c1.map (cdL 1 cdI).enc),kr,.inl rfl⟩,⟨hd 1 (r10.map cdI.enc),kr,W6 (t:=3) kr Of⟩,trivial⟩) ?_;refine AD (n:=34) AC 1 [p5,p4,p2,p9,(31,hd 2 ([r10].map (cdL 1 cdI).enc))] [p1,none,mk 1 48 ([r10].map (cdL 1 cdI).enc)] kr ?_;refine AS AC 0 rfl (Xg (AB rfl) rfl kr kr (Eb (a:=hd 0 (c1.map (cdL 1 cdI).enc)) (b:=hd 2 ([r10].map (cdL 1 cdI).enc)) kr kr (MZ (c:=(cdL 1 cdI)) (xs:=c1) (vs:=[r10]) (k:=1) (bytes:=24) (el:=48) kr kr (G5 (t:=48) kr) (List.cons_ne_nil _ _) kr hk11))) ?_;refine AD (n:=34) AC 1 [p5,p4,(5,hd 3 ((c1++[r10]).map (cdL 1 cdI).enc)),p2] [none,none,mk 1 48 ([r10].map (cdL 1 cdI).enc),p7] kr ?_;exact AI rfl (Ae [3] ⟨⟨_,rfl,IX⟩,trivial⟩ ⟨lv,lv,Id (b':=3) kr kr,lv,trivial⟩)
   let p10:Nat×AV:=(6,.v (.int .i64 (wr .i64 (c2 + 1))))
   refine Ci AC [p5,p4,p8,p10] [p7] ?_;exact Ab (s1:=⟨Fr 34 [p5,p4,p8,p10],[p7]⟩) (Ae [0] ⟨⟨_,rfl,IX⟩,trivial⟩ ⟨lv,lv,Id (b':=0) kr kr,lv,trivial⟩) (ih (c1++[r10]) (wr .i64 (c2 + 1)) h)
  ·rw [BY hb3] at h
   refine Bi ?_;have hq:=OI h; subst hq;exact ⟨rfl,(Ae [0] ⟨⟨_,rfl,IX⟩,trivial⟩ ⟨Id (b':=0) kr kr,trivial⟩)⟩
theorem T6 (x0:(List (List AF))) (x1:(List Ai)) (r:(List (List Int))) (h:Iw x0 x1=some r):Sem E0 ⟨none,false⟩ KD ⟨Fr 34 (Av 0 (M7.enc (x0,x1,()))),[]⟩ fun e s'=>(e = .normal\/e = .ret)/\∃ xs,D6 E0.P s'.fr s'.hp Tryz.f105.results.toList=some xs/\EA xs=NH r:=by
 unfold Iw at h
 let p1:Nat×AV:=(1,.sl 9 (x1.map AE.enc))
 let p2:Nat×AV:=(0,.sl 1 (x0.map (cdL 5 AA).enc))
 refine Aj (A8 (s1:=⟨Fr 34 [p2,p1],[]⟩) AJ ?_);refine AK AC [p2,p1] [] ?_;refine AK AC [p2,p1,(5,.e0)] [] ?_;refine AG ?_
 let p3:Nat×AV:=(6,.v (.int .i64 0))
 refine AK AC [p2,p1,(5,.e0),p3] [] ?_;refine AZ ?_;obtain ⟨r13,hr13,h⟩:=OB h;refine Bj (n:=100000) ?_
 let p4:Option Blk:=mk 1 48 ([].map (cdL 1 cdI).enc)
 let p5:Nat×AV:=(5,hd 0 ([].map (cdL 1 cdI).enc))
 refine Ao (Ab (s1:=⟨Fr 34 [p2,p1,p5,p3],[p4]⟩) (Wk.trans (s1:=⟨Fr 34 [p2,p1,p5,p3],[p4]⟩) Wk.none (Ae [0] ⟨⟨_,rfl,O0⟩,trivial⟩ ⟨lv,lv,lv,lv,trivial⟩)) (SD x0 x1 _ [] 0 _ hr13)) ?_;refine AK AC [(4,hd 0 (r13.map (cdL 1 cdI).enc))] [mk 1 48 (r13.map (cdL 1 cdI).enc)] ?_;refine AN ?_;have hq:=OI h; subst hq
 let p6:Nat×AV:=(4,.sl 1 (r13.map (cdL 1 cdI).enc))
 exact ⟨⟨Fr 34 [p6],[]⟩,(Wk.trans (s1:=⟨Fr 34 [p6],[none]⟩) (Kg 0 (.inl kr) ⟨.inl rfl,trivial⟩ ⟨⟨hd 0 (r13.map (cdL 1 cdI).enc),kr,W6 (t:=48) kr Of⟩,trivial⟩) (Ae [] trivial ⟨lv,trivial⟩)),.inr rfl,[.sl 1 (r13.map (cdL 1 cdI).enc)],kr,kr⟩
def WW:List AV->Option AV:=Dk M7 (fun a=>Iw a.1 a.2.1) NH
theorem Wm:XOk 105 WW:=by
 refine AQ Tryz.func105 (c:=KD) ?h2 ⟨Tryz.call105⟩ M7 (fun a=>Iw a.1 a.2.1) NH (fun a=>(by show 2<=34; decide)) ?h3 ?h4
 case h2=>kernel_rfl
 case h3=>intro b; kernel_rfl
 case h4=>exact fun a b h=>T6 a.1 a.2.1 b h
/- trestle/trestleref03.Disagreements -/
noncomputable def GN:Code:=A3 Tryz.f104
def BX (x0:(List (List Int))) (x1:(List Int)) (c2:Int):Nat->Int->Int->Option ((Int))
 | 0,_,_=>none
 | f + 1,c4,c5 =>
  if (decide (c5 < c2))=true then
  (idx x1 c2).bind fun v7 =>
  (idx x0 v7).bind fun v8 =>
  (idx x1 c5).bind fun v9 =>
  (idx v8 v9).bind fun v10 =>
  BX x0 x1 c2 f (wr .i64 (c4 + v10)) (wr .i64 (c5 + 1))
  else
  some c4
def DT (x0:(List (List Int))) (x1:(List Int)):Nat->Int->Int->Option ((Int))
 | 0,_,_=>none
 | f + 1,c1,c2 =>
  if (decide (c2 < (x1.length:Int)))=true then
  (BX x0 x1 c2 100000 c1 0).bind fun r12 =>
  DT x0 x1 f r12 (wr .i64 (c2 + 1))
  else
  some c1
def D9 (x0:(List (List Int))) (x1:(List Int)):Option (Int) :=
 (DT x0 x1 100000 0 0).bind fun r14 =>
 some r14
def Hj:Cs ((List (List Int))×(List Int)×Unit):=(csC (cdL 1 (cdL 1 cdI)) (csC (cdL 1 cdI) csN))
def Hm (r:Int):AV:=cdI.enc r
theorem NL (x0:(List (List Int))) (x1:(List Int)) (c2:Int):∀ (f:Nat) (c4:Int) (c5:Int) (r:(Int)),BX x0 x1 c2 f c4 c5=some r->SemN E0 ⟨none,false⟩ (pc GN [1,1,0,1,0,0,1,0,0,1,0,0]) f ⟨Fr 35 [(0,.sl 1 (x0.map (cdL 1 cdI).enc)),(1,.sl 1 (x1.map cdI.enc)),(5,.v (.int .i64 c4)),(6,.v (.int .i64 c2)),(7,.v (.int .i64 c5))],[]⟩ (fun e s=>e=(.exit 2)/\Wk E0 s ⟨Fr 35 [(0,.sl 1 (x0.map (cdL 1 cdI).enc)),(1,.sl 1 (x1.map cdI.enc)),(5,.v (.int .i64 r)),(6,.v (.int .i64 c2))],[]⟩):=by
 intro f;induction f with
 | zero=>intro c4 c5 r h; cases h
 | succ f ih0 =>
  intro c4 c5 r h
  have ih:=fun (c4:Int) (c5:Int)=>ih0 c4 c5 r
  unfold BX at h;refine BR ?_;refine AG ?_
  let p1:Nat×AV:=(7,.v (.int .i64 c5))
  let p2:Nat×AV:=(6,.v (.int .i64 c2))
  let p3:Nat×AV:=(1,.sl 1 (x1.map cdI.enc))
  let p4:Nat×AV:=(0,.sl 1 (x0.map (cdL 1 cdI).enc))
  refine AK AC [p4,p3,(5,.v (.int .i64 c4)),p2,p1,(16,.v (.bool (decide (c5 < c2))))] [] ?_;refine AP (b:=(decide (c5 < c2))) kr (fun hb6=>?_) (fun hb6=>?_)
  ·rw [if_pos hb6] at h
   refine AT ?_;refine AG ?_;refine AZ ?_;obtain ⟨v7,hv7,h⟩:=OB h;obtain ⟨v8,hv8,h⟩:=OB h;obtain ⟨v9,hv9,h⟩:=OB h;obtain ⟨v10,hv10,h⟩:=OB h
   let p5:Nat×AV:=(5,.v (.int .i64 (wr .i64 (c4 + v10))))
   refine DI AC (s1:=⟨Fr 35 [p4,p3,p5,p2,p1],[]⟩) kr ?_ ?_
   ·let p6:Nat×AV:=(19,.v (.int .i64 c4))
    refine AY (n:=35) AC 4 [p4,p3,p2,p1,p6,(20,.sl 1 (x0.map (cdL 1 cdI).enc)),(21,.sl 1 (x1.map cdI.enc)),(22,.v (.int .i64 c2))] [] kr kr ?_;refine RunDS.one AC rfl kr (Hd kr (AB rfl) rfl (AW (a:= .sl 1 (x1.map cdI.enc)) (b:= .v (.int .i64 c2)) kr kr (DK (e:=cdI.enc) (el:=3) (k:=1) (ki:= .i64) kr kr hv7)) kr) ?_;refine AY (n:=35) AC 1 [p4,p3,p2,p1,p6,(20,.sl 1 (x0.map (cdL 1 cdI).enc)),(24,.v (.int .i64 v7))] [] kr kr ?_;refine RunDS.one AC rfl kr (Hd kr (AB rfl) rfl (AW (a:= .sl 1 (x0.map (cdL 1 cdI).enc)) (b:= .v (.int .i64 v7)) kr kr (DK (e:=(cdL 1 cdI).enc) (el:=48) (k:=1) (ki:= .i64) kr kr hv8)) kr) ?_;refine AY (n:=35) AC 3 [p4,p3,p2,p1,p6,(26,.sl 1 (v8.map cdI.enc)),(27,.sl 1 (x1.map cdI.enc)),(28,.v (.int .i64 c5))] [] kr kr ?_;refine RunDS.one AC rfl kr (Hd kr (AB rfl) rfl (AW (a:= .sl 1 (x1.map cdI.enc)) (b:= .v (.int .i64 c5)) kr kr (DK (e:=cdI.enc) (el:=3) (k:=1) (ki:= .i64) kr kr hv9)) kr) ?_;refine AY (n:=35) AC 1 [p4,p3,p2,p1,p6,(26,.sl 1 (v8.map cdI.enc)),(30,.v (.int .i64 v9))] [] kr kr ?_;refine RunDS.one AC rfl kr (Hd kr (AB rfl) rfl (AW (a:= .sl 1 (v8.map cdI.enc)) (b:= .v (.int .i64 v9)) kr kr (DK (e:=cdI.enc) (el:=3) (k:=1) (ki:= .i64) kr kr hv10)) kr) ?_;refine AY (n:=35) AC 3 [p4,p3,p5,p2,p1] [] kr kr ?_;exact RunDS.done rfl AJ
   let p7:Nat×AV:=(7,.v (.int .i64 (wr .i64 (c5 + 1))))
   refine Ci AC [p4,p3,p5,p2,p7] [] ?_;exact Ab (s1:=⟨Fr 35 [p4,p3,p5,p2,p7],[]⟩) AJ (ih (wr .i64 (c4 + v10)) (wr .i64 (c5 + 1)) h)
  ·rw [BY hb6] at h
   refine Bi ?_;have hq:=OI h; subst hq;exact ⟨rfl,AJ⟩
theorem NK (x0:(List (List Int))) (x1:(List Int)):∀ (f:Nat) (c1:Int) (c2:Int) (r:(Int)),DT x0 x1 f c1 c2=some r->SemN E0 ⟨none,false⟩ (pc GN [1,1,0,1,0,0]) f ⟨Fr 35 [(0,.sl 1 (x0.map (cdL 1 cdI).enc)),(1,.sl 1 (x1.map cdI.enc)),(5,.v (.int .i64 c1)),(6,.v (.int .i64 c2))],[]⟩ (fun e s=>e=(.exit 0)/\Wk E0 s ⟨Fr 35 [(5,.v (.int .i64 r))],[]⟩):=by
 intro f;induction f with
 | zero=>intro c1 c2 r h; cases h
 | succ f ih0 =>
  intro c1 c2 r h
  have ih:=fun (c1:Int) (c2:Int)=>ih0 c1 c2 r
  unfold DT at h;refine BR ?_;refine AG ?_;refine AG ?_
  let p1:Nat×AV:=(6,.v (.int .i64 c2))
  let p2:Nat×AV:=(5,.v (.int .i64 c1))
  let p3:Nat×AV:=(1,.sl 1 (x1.map cdI.enc))
  let p4:Nat×AV:=(0,.sl 1 (x0.map (cdL 1 cdI).enc))
  refine AL (s1:=⟨Fr 35 [p4,p3,p2,p1,(11,.v (.bool (decide (c2 < (x1.length:Int)))))],[]⟩) ?_ ?_
  ·refine AD (n:=35) AC 2 [p4,p3,p2,p1,(8,.v (.int .i64 c2)),(9,.sl 1 (x1.map cdI.enc))] [] kr ?_
   refine AS AC 0 rfl (DH (AB rfl) rfl (CX (a:= .sl 1 (x1.map cdI.enc)) kr (BS (el:=3) kr))) ?_;exact AX AC
  refine AP (b:=(decide (c2 < (x1.length:Int)))) kr (fun hb3=>?_) (fun hb3=>?_)
  ·rw [if_pos hb3] at h
   refine AT ?_;refine AG ?_;refine AZ ?_;refine AK AC [p4,p3,p2,p1,(7,.v (.int .i64 0))] [] ?_;refine AZ ?_;obtain ⟨r12,hr12,h⟩:=OB h;refine Bj (n:=100000) ?_;refine Ao (Ab (s1:=⟨Fr 35 [p4,p3,p2,p1,(7,.v (.int .i64 0))],[]⟩) AJ (NL x0 x1 c2 _ c1 0 _ hr12)) ?_
   let p5:Nat×AV:=(6,.v (.int .i64 (wr .i64 (c2 + 1))))
   refine Ci AC [p4,p3,(5,.v (.int .i64 r12)),p5] [] ?_;exact Ab (s1:=⟨Fr 35 [p4,p3,(5,.v (.int .i64 r12)),p5],[]⟩) AJ (ih r12 (wr .i64 (c2 + 1)) h)
  ·rw [BY hb3] at h
   refine Bi ?_;have hq:=OI h; subst hq;exact ⟨rfl,AJ⟩
theorem N9 (x0:(List (List Int))) (x1:(List Int)) (r:Int) (h:D9 x0 x1=some r):Sem E0 ⟨none,false⟩ GN ⟨Fr 35 (Av 0 (Hj.enc (x0,x1,()))),[]⟩ fun e s'=>(e = .normal\/e = .ret)/\∃ xs,D6 E0.P s'.fr s'.hp Tryz.f104.results.toList=some xs/\EA xs=Hm r:=by
 unfold D9 at h
 let p1:Nat×AV:=(1,.sl 1 (x1.map cdI.enc))
 let p2:Nat×AV:=(0,.sl 1 (x0.map (cdL 1 cdI).enc))
 refine Aj (A8 (s1:=⟨Fr 35 [p2,p1],[]⟩) AJ ?_);refine AK AC [p2,p1] [] ?_
 let p3:Nat×AV:=(5,.v (.int .i64 0))
 refine AK AC [p2,p1,p3] [] ?_;refine AG ?_;refine AK AC [p2,p1,p3,(6,.v (.int .i64 0))] [] ?_;refine AZ ?_;obtain ⟨r14,hr14,h⟩:=OB h;refine Bj (n:=100000) ?_;refine Ao (Ab (s1:=⟨Fr 35 [p2,p1,p3,(6,.v (.int .i64 0))],[]⟩) AJ (NK x0 x1 _ 0 0 _ hr14)) ?_;refine AK AC [(4,.v (.int .i64 r14))] [] ?_;refine AN ?_;have hq:=OI h; subst hq;exact ⟨⟨Fr 35 [(4,.v (.int .i64 r14))],[]⟩,AJ,.inr rfl,[.v (.int .i64 r14)],kr,kr⟩
def PX:List AV->Option AV:=Dk Hj (fun a=>D9 a.1 a.2.1) Hm
theorem Ph:XOk 104 PX:=by
 refine AQ Tryz.func104 (c:=GN) ?h2 ⟨Tryz.call104⟩ Hj (fun a=>D9 a.1 a.2.1) Hm (fun a=>(by show 2<=35; decide)) ?h3 ?h4
 case h2=>kernel_rfl
 case h3=>intro b; kernel_rfl
 case h4=>exact fun a b h=>N9 a.1 a.2.1 b h
/-- Lists that are told by one value. -/
noncomputable def csJ {α:Type}(e:α->List AV) (hi:∀ x y,e x=e y->x=y) (hn:∀ x,(e x).all F6=true):Cs α where
 enc:=e
 dec a:=open Classical in if h:∃ x,e x=a then some h.choose else none
 de x:=by
  have h:∃ y,e y=e x:=⟨x,rfl⟩
  rw [dif_pos h,hi _ _ h.choose_spec]
 vr:=fun {w Z a x u} hd hv=>by
  split at hd
  ·next h=>injection hd with hd; subst hd; rw [h.choose_spec]; exact hv
  ·cases hd
 nr:=hn
theorem Vk {α:Type}{n:Nat}{h:Hp}{s:Cs α}{a:α}:Sl (n + 2) h s (s.enc a) a :=
 ⟨s.enc a,Oy fun y hy=>PZ (List.all_eq_true.1 (s.nr a) y hy) n,s.de a⟩
theorem ACC {α:Type}{c:Cd α}{x y:α}(h:c.enc x=c.enc y):x=y:=by
 have h1:=c.de x
 rw [h,c.de y] at h1
 exact (OI h1).symm
/-- The order of a clause without regard to Among. -/
def Q5 (c:AF):AV :=
 if (c.1==1)=true then .fn 205 [] [.pe (.fn 178 [] [.pe (AA.enc c) 0]) 0] else
 if (c.1==2)=true then .fn 179 [] [.pe (AA.enc c) 0] else
 if (c.1==3)=true then .fn 179 [] [.pe (AA.enc c) 0] else
 if (c.1==4)=true then .fn 205 [] [.pe (.fn 206 [] [.pe (.fn 182 [] [.pe (AA.enc c) 0]) 0,.pe (AA.enc c) 0]) 0] else
 if (c.1==5)=true then .fn 205 [] [.pe (.fn 206 [] [.pe (.fn 183 [] []) 0,.pe (AA.enc c) 0]) 0] else
 if (c.1==6)=true then .fn 205 [] [.pe (.fn 206 [] [.pe (.fn 184 [] [.pe (AA.enc c) 0]) 0,.pe (AA.enc c) 0]) 0] else
 if (c.1==7)=true then .fn 205 [] [.pe (.fn 206 [] [.pe (.fn 186 [] [.pe (AA.enc c) 0]) 0,.pe (AA.enc c) 0]) 0] else
 if (c.1==8)=true then .fn 187 [] [] else
 if (c.1==10)=true then .fn 209 [] [.pe (.fn 208 [] []) 0,.pe (.fn 190 [] [.pe (AA.enc c) 0]) 0] else
 .fn 209 [] [.pe (.fn 208 [] []) 0,.pe (.fn 191 [] []) 0]
def Mn (c:AF):AV:= .fn 165 [] [.pe (AA.enc c) 0,.pe (Q5 c) 0]
noncomputable def ER:Cd AF:=cdJ Mn (fun x y h=>by
 unfold Mn at h
 injection h with _ _ h
 injection h with h
 injection h with h
 exact ACC h) (fun _=>rfl)
noncomputable def Ww:Cs AF:=csJ (fun c=>[.pe (AA.enc c) 0,.pe (Q5 c) 0]) (fun x y h=>by
 injection h with h
 injection h with h
 exact ACC h) (fun _=>rfl)
/-- A straight call, told by what the interpreter finds. -/
theorem ZV {f:FuncId}(hc:Cc E0.P f){α β:Type}(s:Cs α) (F:α->Option β) (er:β->AV) (h:∀ a b,F a=some b->∃ n,Cm E0 n f (s.enc a)=some (er b)):XOk f (Dk s F er):=by
 refine ⟨hc,fun xs y hy w Z us hz hg hv=>?_⟩
 obtain ⟨a,ha,hy⟩:=OB hy
 obtain ⟨b,hb,rfl⟩:=Option.map_eq_some_iff.1 hy
 obtain ⟨n,hn⟩:=h a b hb
 unfold Cm at hn
 split at hn
 ·next x h' he=>exact frz_ret (enter_sound AC (code_sound AC n).1 he (hr_nil hz) (s.vr ha hv) hg (fun y hy=>by cases hy)) hn
 ·cases hn
def HT (x0:AF):Option AF:=if 1<=x0.1/\x0.1<=10 then some x0 else none
def C4:Cs (AF×Unit):=csC AA csN
noncomputable def LC (r:AF):AV:=ER.enc r
noncomputable def UG:List AV->Option AV:=Dk C4 (fun a=>HT a.1) LC
section
variable (am:List UInt8) (la:Bool) (nm:List (List UInt8)) (m:Int)
theorem ADP:Cm E0 300 133 (C4.enc ((1,am,la,nm,m),()))=some (Mn (1,am,la,nm,m)):=by kernel_rfl
theorem ADQ:Cm E0 300 133 (C4.enc ((2,am,la,nm,m),()))=some (Mn (2,am,la,nm,m)):=by kernel_rfl
theorem ADR:Cm E0 300 133 (C4.enc ((3,am,la,nm,m),()))=some (Mn (3,am,la,nm,m)):=by kernel_rfl
theorem ADS:Cm E0 300 133 (C4.enc ((4,am,la,nm,m),()))=some (Mn (4,am,la,nm,m)):=by kernel_rfl
theorem ADT:Cm E0 300 133 (C4.enc ((5,am,la,nm,m),()))=some (Mn (5,am,la,nm,m)):=by kernel_rfl
theorem ADU:Cm E0 300 133 (C4.enc ((6,am,la,nm,m),()))=some (Mn (6,am,la,nm,m)):=by kernel_rfl
theorem ADV:Cm E0 300 133 (C4.enc ((7,am,la,nm,m),()))=some (Mn (7,am,la,nm,m)):=by kernel_rfl
theorem ADW:Cm E0 300 133 (C4.enc ((8,am,la,nm,m),()))=some (Mn (8,am,la,nm,m)):=by kernel_rfl
theorem ADX:Cm E0 300 133 (C4.enc ((9,am,la,nm,m),()))=some (Mn (9,am,la,nm,m)):=by kernel_rfl
theorem ABb:Cm E0 300 133 (C4.enc ((10,am,la,nm,m),()))=some (Mn (10,am,la,nm,m)):=by kernel_rfl
end
theorem Uh:XOk 133 UG:=by
 refine ZV ⟨Tryz.call133⟩ C4 (fun a=>HT a.1) LC fun a b h=>⟨300,?_⟩
 obtain ⟨⟨k,am,la,nm,m⟩,⟨⟩⟩:=a
 by_cases hk:1<=k/\k<=10
 ·have h1:some (k,am,la,nm,m)=some b:=(if_pos hk:HT (k,am,la,nm,m)=_).symm.trans h
  have h2:LC b=Mn (k,am,la,nm,m):=congrArg Mn (OI h1).symm
  rw [h2]
  clear h h1 h2
  have hk':k=1\/k=2\/k=3\/k=4\/k=5\/k=6\/k=7\/k=8\/k=9\/k=10:=by omega
  rcases hk' with rfl | rfl | rfl | rfl | rfl | rfl | rfl | rfl | rfl | rfl
  ·exact ADP am la nm m
  ·exact ADQ am la nm m
  ·exact ADR am la nm m
  ·exact ADS am la nm m
  ·exact ADT am la nm m
  ·exact ADU am la nm m
  ·exact ADV am la nm m
  ·exact ADW am la nm m
  ·exact ADX am la nm m
  ·exact ABb am la nm m
 ·exact nomatch ((if_neg hk:HT (k,am,la,nm,m)=_).symm.trans h)
/- trestle/court.list -/
noncomputable def Nj:Code:=A3 Tryz.f79
def EM (x0:(List Ai)):Nat->(List A6)->Int->Option (((List A6)))
 | 0,_,_=>none
 | f + 1,c1,c2 =>
  if (decide (c2 < (x0.length:Int)))=true then
  (idx x0 c2).bind fun v4 =>
  if (Gd 120 (c1.length + 1))=true then
  EM x0 f (c1++[(v4,c2)]) (wr .i64 (c2 + 1))
  else none
  else
  some c1
def Jt (x0:(List Ai)):Option ((List A6)) :=
 (EM x0 100000 [] 0).bind fun r7 =>
 some r7
def Lf:Cs ((List Ai)×Unit):=(csC (cdL 9 AE) csN)
def Nv (r:(List A6)):AV:=(cdL 10 AH).enc r
theorem So (x0:(List Ai)):∀ (f:Nat) (c1:(List A6)) (c2:Int) (r:((List A6))),EM x0 f c1 c2=some r->SemN E0 ⟨none,false⟩ (pc Nj [1,1,0,1,0,0]) f ⟨Fr 21 [(3,hd 0 (c1.map AH.enc)),(6,.sl 9 (x0.map AE.enc)),(7,.v (.int .i64 (x0.length:Int))),(8,.v (.int .i64 c2))],[mk 10 115 (c1.map AH.enc)]⟩ (fun e s=>e=(.exit 0)/\Wk E0 s ⟨Fr 21 [(3,hd 0 (r.map AH.enc))],[mk 10 115 (r.map AH.enc)]⟩):=by
 intro f;induction f with
 | zero=>intro c1 c2 r h; cases h
 | succ f ih0 =>
  intro c1 c2 r h
  have ih:=fun (c1:(List A6)) (c2:Int)=>ih0 c1 c2 r
  unfold EM at h;refine BR ?_
  let p1:Option Blk:=mk 10 115 (c1.map AH.enc)
  let p2:Nat×AV:=(8,.v (.int .i64 c2))
  let p3:Nat×AV:=(7,.v (.int .i64 (x0.length:Int)))
  let p4:Nat×AV:=(6,.sl 9 (x0.map AE.enc))
  let p5:Nat×AV:=(3,hd 0 (c1.map AH.enc))
  refine AK AC [p5,p4,p3,p2,(9,.v (.bool (decide (c2 < (x0.length:Int)))))] [p1] ?_;refine AG ?_;refine AP (b:=(decide (c2 < (x0.length:Int)))) kr (fun hb3=>?_) (fun hb3=>?_)
  ·rw [if_pos hb3] at h
   refine AT ?_;refine AG ?_;refine AZ ?_;refine AG ?_;obtain ⟨v4,hv4,h⟩:=OB h
   let p6:Option Blk:=some ⟨9,42,[AE.enc v4],false⟩
   refine AL (s1:=⟨Fr 21 [p5,(4,.v (.int .i64 c2)),(5,.pt 1 0 0),p4,p3,p2],[p1,p6]⟩) ?_ ?_
   ·refine AD (n:=21) AC 1 [p5,p4,p3,p2,(10,.v (.int .i64 c2))] [p1] kr ?_
    refine AS AC 0 rfl (DH (AB rfl) rfl (AW (a:= .sl 9 (x0.map AE.enc)) (b:= .v (.int .i64 c2)) kr kr (DK (e:=AE.enc) (el:=42) (k:=9) (ki:= .i64) kr kr hv4))) ?_;exact AX AC
   by_cases hk5:(Gd 120 (c1.length + 1))=true
   case neg=>rw [if_neg hk5] at h; cases h
   rw [if_pos hk5] at h
   let p7:Option Blk:=mk 10 115 ((c1++[(v4,c2)]).map AH.enc)
   let p8:Nat×AV:=(3,hd 0 ((c1++[(v4,c2)]).map AH.enc))
   refine AL (s1:=⟨Fr 21 [p8,p4,p3,p2],[p7]⟩) ?_ ?_
   ·let p9:Option Blk:=mk 10 115 ([(v4,c2)].map AH.enc)
    refine AD (n:=21) AC 5 [p4,p3,p2,(13,hd 0 (c1.map AH.enc)),(17,hd 2 ([(v4,c2)].map AH.enc))] [p1,p6,p9] kr ?_;refine AS AC 0 rfl (Xg (AB rfl) rfl kr kr (Eb (a:=hd 0 (c1.map AH.enc)) (b:=hd 2 ([(v4,c2)].map AH.enc)) kr kr (MZ (c:=AH) (xs:=c1) (vs:=[(v4,c2)]) (k:=10) (bytes:=120) (el:=115) kr kr (G5 (t:=115) kr) (List.cons_ne_nil _ _) kr hk5))) ?_;refine AD (n:=21) AC 1 [(3,hd 3 ((c1++[(v4,c2)]).map AH.enc)),p4,p3,p2] [none,p6,p9,p7] kr ?_;exact AI rfl (Ae [3] ⟨⟨_,rfl,IX⟩,trivial⟩ ⟨Id (b':=3) kr kr,lv,lv,lv,trivial⟩)
   let p10:Nat×AV:=(8,.v (.int .i64 (wr .i64 (c2 + 1))))
   refine Ci AC [p8,p4,p3,p10] [p7] ?_;exact Ab (s1:=⟨Fr 21 [p8,p4,p3,p10],[p7]⟩) (Ae [0] ⟨⟨_,rfl,IX⟩,trivial⟩ ⟨Id (b':=0) kr kr,lv,lv,lv,trivial⟩) (ih (c1++[(v4,c2)]) (wr .i64 (c2 + 1)) h)
  ·rw [BY hb3] at h
   refine Bi ?_;have hq:=OI h; subst hq;exact ⟨rfl,(Ae [0] ⟨⟨_,rfl,IX⟩,trivial⟩ ⟨Id (b':=0) kr kr,trivial⟩)⟩
theorem U0 (x0:(List Ai)) (r:(List A6)) (h:Jt x0=some r):Sem E0 ⟨none,false⟩ Nj ⟨Fr 21 (Av 0 (Lf.enc (x0,()))),[]⟩ fun e s'=>(e = .normal\/e = .ret)/\∃ xs,D6 E0.P s'.fr s'.hp Tryz.f79.results.toList=some xs/\EA xs=Nv r:=by
 unfold Jt at h
 let p1:Nat×AV:=(0,.sl 9 (x0.map AE.enc))
 refine Aj (A8 (s1:=⟨Fr 21 [p1],[]⟩) AJ ?_);refine AK AC [p1] [] ?_;refine AK AC [p1,(3,.e0)] [] ?_;refine AG ?_;refine AG ?_
 let p2:Nat×AV:=(8,.v (.int .i64 0))
 let p3:Nat×AV:=(7,.v (.int .i64 (x0.length:Int)))
 let p4:Nat×AV:=(6,.sl 9 (x0.map AE.enc))
 refine AL (s1:=⟨Fr 21 [(3,.e0),p4,p3,p2],[]⟩) ?_ ?_
 ·refine AD (n:=21) AC 1 [(3,.e0),p4] [] kr ?_
  refine AS AC 0 rfl (DH (AB rfl) rfl (CX (a:= .sl 9 (x0.map AE.enc)) kr (BS (el:=42) kr))) ?_;exact AX AC
 refine AZ ?_;obtain ⟨r7,hr7,h⟩:=OB h;refine Bj (n:=100000) ?_
 let p5:Option Blk:=mk 10 115 ([].map AH.enc)
 let p6:Nat×AV:=(3,hd 0 ([].map AH.enc))
 refine Ao (Ab (s1:=⟨Fr 21 [p6,p4,p3,p2],[p5]⟩) (Wk.trans (s1:=⟨Fr 21 [p6,p4,p3,p2],[p5]⟩) Wk.none (Ae [0] ⟨⟨_,rfl,O0⟩,trivial⟩ ⟨lv,lv,lv,lv,trivial⟩)) (So x0 _ [] 0 _ hr7)) ?_;refine AK AC [(2,hd 0 (r7.map AH.enc))] [mk 10 115 (r7.map AH.enc)] ?_;refine AN ?_;have hq:=OI h; subst hq
 let p7:Nat×AV:=(2,.sl 10 (r7.map AH.enc))
 exact ⟨⟨Fr 21 [p7],[]⟩,(Wk.trans (s1:=⟨Fr 21 [p7],[none]⟩) (Kg 0 (.inl kr) ⟨.inl rfl,trivial⟩ ⟨⟨hd 0 (r7.map AH.enc),kr,W6 (t:=115) kr Of⟩,trivial⟩) (Ae [] trivial ⟨lv,trivial⟩)),.inr rfl,[.sl 10 (r7.map AH.enc)],kr,kr⟩
def XO:List AV->Option AV:=Dk Lf (fun a=>Jt a.1) Nv
theorem Xb:XOk 79 XO:=by
 refine AQ Tryz.func79 (c:=Nj) ?h2 ⟨Tryz.call79⟩ Lf (fun a=>Jt a.1) Nv (fun a=>(by show 1<=21; decide)) ?h3 ?h4
 case h2=>kernel_rfl
 case h3=>intro b; kernel_rfl
 case h4=>exact fun a b h=>U0 a.1 b h
/- trestle/court.formed -/
noncomputable def Da:Code:=A3 Tryz.f159
def JE (x0:AF):Option ((Bool)) :=
 if (x0.1==8)=true then
 some (x0.1==8)
 else
 some (x0.1==9)
def JD (x0:AF):Option ((Bool)) :=
 if (x0.1==3)=true then
 some (x0.1==3)
 else
 (JE x0).bind fun r14 =>
 some r14
def JC (x0:AF):Option ((Bool)) :=
 if (x0.1==2)=true then
 some (x0.1==2)
 else
 (JD x0).bind fun r15 =>
 some r15
def JI (x0:AF):Option ((Bool)) :=
 if (x0.1==6)=true then
 some (x0.1==6)
 else
 some (x0.1==7)
def JJ (x0:AF) (r33:Bool):Option ((Int×Int×Bool) ⊕ (Bool)) :=
 if r33=true then
 some (.inl (16,0,true))
 else
 if (x0.1==10)=true then
 some (.inl (0,63,false))
 else
 some (.inr false)
def JH (x0:AF):Option ((Int×Int×Bool) ⊕ (Bool)) :=
 if (x0.1==5)=true then
 some (.inl (0,0,true))
 else
 (JI x0).bind fun r33 =>
 (JJ x0 r33).bind fun r40 =>
 match r40 with
 | (.inl w41) =>
  some (.inl (w41.1,w41.2.1,w41.2.2))
 | (.inr w42) =>
  some (.inr w42)
def JG (x0:AF):Option ((Int×Int×Int×Bool) ⊕ (Bool)) :=
 if (x0.1==4)=true then
 some (.inl (0,1,2,true))
 else
 (JH x0).bind fun r44 =>
 match r44 with
 | (.inl w45) =>
  some (.inl (w45.1,0,w45.2.1,w45.2.2))
 | (.inr w46) =>
  some (.inr w46)
def JF (x0:AF) (r16:Bool):Option ((Int×Int×Int×Bool) ⊕ (Bool)) :=
 if r16=true then
 some (.inl (0,0,0,false))
 else
 (JG x0).bind fun r48 =>
 match r48 with
 | (.inl w49) =>
  some (.inl (w49.1,w49.2.1,w49.2.2.1,w49.2.2.2))
 | (.inr w50) =>
  some (.inr w50)
def JB (x0:AF):Option ((Int×Int×Int×Bool) ⊕ (Bool)) :=
 if (x0.1==1)=true then
 if (!(x0.2.1==[]))=true then
 some (.inr false)
 else
 some (.inl (16,0,0,false))
 else
 (JC x0).bind fun r16 =>
 (JF x0 r16).bind fun r52 =>
 match r52 with
 | (.inl w53) =>
  some (.inl (w53.1,w53.2.1,w53.2.2.1,w53.2.2.2))
 | (.inr w54) =>
  some (.inr w54)
def Cn (x0:AF):Option (Bool) :=
 (JB x0).bind fun r55 =>
 match r55 with
 | (.inl w56) =>
  (if (decide ((x0.2.2.2.1.length:Int)<=w56.1))=true then if (w56.1==0)=true then if (decide (x0.2.2.2.2≥w56.2.1))=true then if (decide (x0.2.2.2.2<=w56.2.2.1))=true then if w56.2.2.2=true then some true else some (!x0.2.2.1) else some false else some false else if (decide ((x0.2.2.2.1.length:Int) > 0))=true then if (decide (x0.2.2.2.2≥w56.2.1))=true then if (decide (x0.2.2.2.2<=w56.2.2.1))=true then if w56.2.2.2=true then some true else some (!x0.2.2.1) else some false else some false else some false else some false).bind fun j58 =>
  some j58
 | (.inr w68) =>
  some w68
def L8:Cs (AF×Unit):=(csC AA csN)
def ME (r:Bool):AV:=cdB.enc r
theorem Q1 (x0:AF) (r:(Bool)) (h:JE x0=some r):Sem E0 ⟨none,false⟩ (pc Da [1,1,0,1,0,1,1,0,1,1,1,1,1]) ⟨Fr 63 [(1,.pt 0 0 0),(3,.v (.int .i64 0)),(4,.v (.int .i64 0)),(5,.v (.int .i64 0)),(6,.v (.bool false)),(8,.v (.int .u8 x0.1)),(14,.v (.bool (x0.1==8)))],[some ⟨5,60,[AA.enc x0],false⟩]⟩ (fun e s=>e = .normal/\Wk E0 s ⟨Fr 63 [(1,.pt 0 0 0),(3,.v (.int .i64 0)),(4,.v (.int .i64 0)),(5,.v (.int .i64 0)),(6,.v (.bool false)),(8,.v (.int .u8 x0.1)),(14,.v (.bool r))],[some ⟨5,60,[AA.enc x0],false⟩]⟩):=by
 unfold JE at h;refine AP (b:=(x0.1==8)) kr (fun hb12=>?_) (fun hb12=>?_)
 ·rw [if_pos hb12] at h
  refine AT ?_;have hq:=OI h; subst hq;exact ⟨rfl,(Ae [0] ⟨⟨_,rfl,Gy⟩,trivial⟩ ⟨lv,lv,lv,lv,lv,lv,lv,trivial⟩)⟩
 ·rw [BY hb12] at h
  refine Ci AC [(1,.pt 0 0 0),(3,.v (.int .i64 0)),(4,.v (.int .i64 0)),(5,.v (.int .i64 0)),(6,.v (.bool false)),(8,.v (.int .u8 x0.1)),(14,.v (.bool (x0.1==9)))] [some ⟨5,60,[AA.enc x0],false⟩] ?_;have hq:=OI h; subst hq;exact ⟨rfl,(Ae [0] ⟨⟨_,rfl,Gy⟩,trivial⟩ ⟨lv,lv,lv,lv,lv,lv,lv,trivial⟩)⟩
theorem Q0 (x0:AF) (r:(Bool)) (h:JD x0=some r):Sem E0 ⟨none,false⟩ (pc Da [1,1,0,1,0,1,1,0,1,1,1]) ⟨Fr 63 [(1,.pt 0 0 0),(3,.v (.int .i64 0)),(4,.v (.int .i64 0)),(5,.v (.int .i64 0)),(6,.v (.bool false)),(8,.v (.int .u8 x0.1)),(14,.v (.bool (x0.1==3)))],[some ⟨5,60,[AA.enc x0],false⟩]⟩ (fun e s=>e = .normal/\Wk E0 s ⟨Fr 63 [(1,.pt 0 0 0),(3,.v (.int .i64 0)),(4,.v (.int .i64 0)),(5,.v (.int .i64 0)),(6,.v (.bool false)),(8,.v (.int .u8 x0.1)),(14,.v (.bool r))],[some ⟨5,60,[AA.enc x0],false⟩]⟩):=by
 unfold JD at h;refine AP (b:=(x0.1==3)) kr (fun hb10=>?_) (fun hb10=>?_)
 ·rw [if_pos hb10] at h
  refine AT ?_;have hq:=OI h; subst hq;exact ⟨rfl,(Ae [0] ⟨⟨_,rfl,Gy⟩,trivial⟩ ⟨lv,lv,lv,lv,lv,lv,lv,trivial⟩)⟩
 ·rw [BY hb10] at h
  refine AK AC [(1,.pt 0 0 0),(3,.v (.int .i64 0)),(4,.v (.int .i64 0)),(5,.v (.int .i64 0)),(6,.v (.bool false)),(8,.v (.int .u8 x0.1)),(14,.v (.bool (x0.1==8)))] [some ⟨5,60,[AA.enc x0],false⟩] ?_;obtain ⟨r14,hr14,h⟩:=OB h;refine GU (Q1 x0 _ hr14) ?_;have hq:=OI h; subst hq;exact ⟨rfl,(Ae [0] ⟨⟨_,rfl,Gy⟩,trivial⟩ ⟨lv,lv,lv,lv,lv,lv,lv,trivial⟩)⟩
theorem Qz (x0:AF) (r:(Bool)) (h:JC x0=some r):Sem E0 ⟨none,false⟩ (pc Da [1,1,0,1,0,1,1,0,1]) ⟨Fr 63 [(1,.pt 0 0 0),(3,.v (.int .i64 0)),(4,.v (.int .i64 0)),(5,.v (.int .i64 0)),(6,.v (.bool false)),(8,.v (.int .u8 x0.1)),(14,.v (.bool (x0.1==2)))],[some ⟨5,60,[AA.enc x0],false⟩]⟩ (fun e s=>e = .normal/\Wk E0 s ⟨Fr 63 [(1,.pt 0 0 0),(3,.v (.int .i64 0)),(4,.v (.int .i64 0)),(5,.v (.int .i64 0)),(6,.v (.bool false)),(8,.v (.int .u8 x0.1)),(14,.v (.bool r))],[some ⟨5,60,[AA.enc x0],false⟩]⟩):=by
 unfold JC at h;refine AP (b:=(x0.1==2)) kr (fun hb8=>?_) (fun hb8=>?_)
 ·rw [if_pos hb8] at h
  refine AT ?_;have hq:=OI h; subst hq;exact ⟨rfl,(Ae [0] ⟨⟨_,rfl,Gy⟩,trivial⟩ ⟨lv,lv,lv,lv,lv,lv,lv,trivial⟩)⟩
 ·rw [BY hb8] at h
  refine AK AC [(1,.pt 0 0 0),(3,.v (.int .i64 0)),(4,.v (.int .i64 0)),(5,.v (.int .i64 0)),(6,.v (.bool false)),(8,.v (.int .u8 x0.1)),(14,.v (.bool (x0.1==3)))] [some ⟨5,60,[AA.enc x0],false⟩] ?_;obtain ⟨r15,hr15,h⟩:=OB h;refine GU (Q0 x0 _ hr15) ?_;have hq:=OI h; subst hq;exact ⟨rfl,(Ae [0] ⟨⟨_,rfl,Gy⟩,trivial⟩ ⟨lv,lv,lv,lv,lv,lv,lv,trivial⟩)⟩
theorem Q2 (x0:AF) (r:(Bool)) (h:JI x0=some r):Sem E0 ⟨none,false⟩ (pc Da [1,1,0,1,0,1,1,1,1,1,1,1,1,0,1]) ⟨Fr 63 [(1,.pt 0 0 0),(3,.v (.int .i64 0)),(4,.v (.int .i64 0)),(5,.v (.int .i64 0)),(6,.v (.bool false)),(8,.v (.int .u8 x0.1)),(23,.v (.bool (x0.1==6)))],[some ⟨5,60,[AA.enc x0],false⟩]⟩ (fun e s=>e = .normal/\Wk E0 s ⟨Fr 63 [(1,.pt 0 0 0),(3,.v (.int .i64 0)),(4,.v (.int .i64 0)),(5,.v (.int .i64 0)),(6,.v (.bool false)),(8,.v (.int .u8 x0.1)),(23,.v (.bool r))],[some ⟨5,60,[AA.enc x0],false⟩]⟩):=by
 unfold JI at h;refine AP (b:=(x0.1==6)) kr (fun hb31=>?_) (fun hb31=>?_)
 ·rw [if_pos hb31] at h
  refine AT ?_;have hq:=OI h; subst hq;exact ⟨rfl,(Ae [0] ⟨⟨_,rfl,Gy⟩,trivial⟩ ⟨lv,lv,lv,lv,lv,lv,lv,trivial⟩)⟩
 ·rw [BY hb31] at h
  refine Ci AC [(1,.pt 0 0 0),(3,.v (.int .i64 0)),(4,.v (.int .i64 0)),(5,.v (.int .i64 0)),(6,.v (.bool false)),(8,.v (.int .u8 x0.1)),(23,.v (.bool (x0.1==7)))] [some ⟨5,60,[AA.enc x0],false⟩] ?_;have hq:=OI h; subst hq;exact ⟨rfl,(Ae [0] ⟨⟨_,rfl,Gy⟩,trivial⟩ ⟨lv,lv,lv,lv,lv,lv,lv,trivial⟩)⟩
theorem Mj (x0:AF) (r33:Bool) (r:(Int×Int×Bool) ⊕ (Bool)) (h:JJ x0 r33=some r):Sem E0 ⟨none,false⟩ (pc Da [1,1,0,1,0,1,1,1,1,1,1,1,1,1]) ⟨Fr 63 [(1,.pt 0 0 0),(3,.v (.int .i64 0)),(4,.v (.int .i64 0)),(5,.v (.int .i64 0)),(6,.v (.bool false)),(8,.v (.int .u8 x0.1)),(23,.v (.bool r33))],[some ⟨5,60,[AA.enc x0],false⟩]⟩ (fun e s=>match r with
 | (.inl w)=>e = .normal/\Wk E0 s ⟨Fr 63 [(1,.pt 0 0 0),(3,.v (.int .i64 w.1)),(4,.v (.int .i64 0)),(5,.v (.int .i64 w.2.1)),(6,.v (.bool w.2.2))],[some ⟨5,60,[AA.enc x0],false⟩]⟩
 | (.inr w)=>e = .ret/\Wk E0 s ⟨Fr 63 [(2,.v (.bool w))],[]⟩):=by
 unfold JJ at h;refine AP (b:=r33) kr (fun hb34=>?_) (fun hb34=>?_)
 ·rw [if_pos hb34] at h
  refine Ci AC [(1,.pt 0 0 0),(3,.v (.int .i64 16)),(4,.v (.int .i64 0)),(5,.v (.int .i64 0)),(6,.v (.bool true))] [some ⟨5,60,[AA.enc x0],false⟩] ?_;have hq:=OI h; subst hq;exact ⟨rfl,(Ae [0] ⟨⟨_,rfl,Gy⟩,trivial⟩ ⟨lv,lv,lv,lv,lv,trivial⟩)⟩
 ·rw [BY hb34] at h
  let p1:Option Blk:=some ⟨5,60,[AA.enc x0],false⟩
  refine AK AC [(1,.pt 0 0 0),(3,.v (.int .i64 0)),(4,.v (.int .i64 0)),(6,.v (.bool false)),(26,.v (.bool (x0.1==10)))] [p1] ?_;refine AP (b:=(x0.1==10)) kr (fun hb38=>?_) (fun hb38=>?_)
  ·rw [if_pos hb38] at h
   refine Ci AC [(1,.pt 0 0 0),(3,.v (.int .i64 0)),(4,.v (.int .i64 0)),(5,.v (.int .i64 63)),(6,.v (.bool false))] [p1] ?_;have hq:=OI h; subst hq;exact ⟨rfl,(Ae [0] ⟨⟨_,rfl,Gy⟩,trivial⟩ ⟨lv,lv,lv,lv,lv,trivial⟩)⟩
  ·rw [BY hb38] at h
   refine AG ?_;refine AL (s1:=⟨Fr 63 [(2,.v (.bool false))],[]⟩) ?_ ?_
   ·refine AD (n:=63) AC 1 [(2,.v (.bool false))] [p1] kr ?_
    exact AI rfl (Ae [] trivial ⟨lv,trivial⟩)
   refine AN ?_;have hq:=OI h; subst hq;exact ⟨rfl,AJ⟩
theorem Mi (x0:AF) (r:(Int×Int×Bool) ⊕ (Bool)) (h:JH x0=some r):Sem E0 ⟨none,false⟩ (pc Da [1,1,0,1,0,1,1,1,1,1,1,1]) ⟨Fr 63 [(1,.pt 0 0 0),(3,.v (.int .i64 0)),(4,.v (.int .i64 0)),(5,.v (.int .i64 0)),(6,.v (.bool false)),(8,.v (.int .u8 x0.1)),(21,.v (.bool (x0.1==5)))],[some ⟨5,60,[AA.enc x0],false⟩]⟩ (fun e s=>match r with
 | (.inl w)=>e = .normal/\Wk E0 s ⟨Fr 63 [(1,.pt 0 0 0),(3,.v (.int .i64 w.1)),(4,.v (.int .i64 0)),(5,.v (.int .i64 w.2.1)),(6,.v (.bool w.2.2))],[some ⟨5,60,[AA.enc x0],false⟩]⟩
 | (.inr w)=>e = .ret/\Wk E0 s ⟨Fr 63 [(2,.v (.bool w))],[]⟩):=by
 unfold JH at h;refine AP (b:=(x0.1==5)) kr (fun hb27=>?_) (fun hb27=>?_)
 ·rw [if_pos hb27] at h
  refine Ci AC [(1,.pt 0 0 0),(3,.v (.int .i64 0)),(4,.v (.int .i64 0)),(5,.v (.int .i64 0)),(6,.v (.bool true))] [some ⟨5,60,[AA.enc x0],false⟩] ?_;have hq:=OI h; subst hq;exact ⟨rfl,(Ae [0] ⟨⟨_,rfl,Gy⟩,trivial⟩ ⟨lv,lv,lv,lv,lv,trivial⟩)⟩
 ·rw [BY hb27] at h
  refine AG ?_;refine AK AC [(1,.pt 0 0 0),(3,.v (.int .i64 0)),(4,.v (.int .i64 0)),(5,.v (.int .i64 0)),(6,.v (.bool false)),(8,.v (.int .u8 x0.1)),(23,.v (.bool (x0.1==6)))] [some ⟨5,60,[AA.enc x0],false⟩] ?_;obtain ⟨r33,hr33,h⟩:=OB h;refine GU (Q2 x0 _ hr33) ?_;obtain ⟨r40,hr40,h⟩:=OB h;rcases r40 with w41 | w42
  ·try dsimp only at h
   refine GU (Mj x0 r33 _ hr40) ?_;have hq:=OI h; subst hq;exact ⟨rfl,(Ae [0] ⟨⟨_,rfl,Gy⟩,trivial⟩ ⟨lv,lv,lv,lv,lv,trivial⟩)⟩
  ·try dsimp only at h
   refine GU (Mj x0 r33 _ hr40) ?_;have hq:=OI h; subst hq;exact ⟨rfl,AJ⟩
theorem Mh (x0:AF) (r:(Int×Int×Int×Bool) ⊕ (Bool)) (h:JG x0=some r):Sem E0 ⟨none,false⟩ (pc Da [1,1,0,1,0,1,1,1,1,1]) ⟨Fr 63 [(1,.pt 0 0 0),(3,.v (.int .i64 0)),(4,.v (.int .i64 0)),(5,.v (.int .i64 0)),(6,.v (.bool false)),(8,.v (.int .u8 x0.1)),(19,.v (.bool (x0.1==4)))],[some ⟨5,60,[AA.enc x0],false⟩]⟩ (fun e s=>match r with
 | (.inl w)=>e = .normal/\Wk E0 s ⟨Fr 63 [(1,.pt 0 0 0),(3,.v (.int .i64 w.1)),(4,.v (.int .i64 w.2.1)),(5,.v (.int .i64 w.2.2.1)),(6,.v (.bool w.2.2.2))],[some ⟨5,60,[AA.enc x0],false⟩]⟩
 | (.inr w)=>e = .ret/\Wk E0 s ⟨Fr 63 [(2,.v (.bool w))],[]⟩):=by
 unfold JG at h;refine AP (b:=(x0.1==4)) kr (fun hb22=>?_) (fun hb22=>?_)
 ·rw [if_pos hb22] at h
  refine Ci AC [(1,.pt 0 0 0),(3,.v (.int .i64 0)),(4,.v (.int .i64 1)),(5,.v (.int .i64 2)),(6,.v (.bool true))] [some ⟨5,60,[AA.enc x0],false⟩] ?_;have hq:=OI h; subst hq;exact ⟨rfl,(Ae [0] ⟨⟨_,rfl,Gy⟩,trivial⟩ ⟨lv,lv,lv,lv,lv,trivial⟩)⟩
 ·rw [BY hb22] at h
  refine AK AC [(1,.pt 0 0 0),(3,.v (.int .i64 0)),(4,.v (.int .i64 0)),(5,.v (.int .i64 0)),(6,.v (.bool false)),(8,.v (.int .u8 x0.1)),(21,.v (.bool (x0.1==5)))] [some ⟨5,60,[AA.enc x0],false⟩] ?_;obtain ⟨r44,hr44,h⟩:=OB h;rcases r44 with w45 | w46
  ·try dsimp only at h
   refine GU (Mi x0 _ hr44) ?_;have hq:=OI h; subst hq;exact ⟨rfl,(Ae [0] ⟨⟨_,rfl,Gy⟩,trivial⟩ ⟨lv,lv,lv,lv,lv,trivial⟩)⟩
  ·try dsimp only at h
   refine GU (Mi x0 _ hr44) ?_;have hq:=OI h; subst hq;exact ⟨rfl,AJ⟩
theorem Mg (x0:AF) (r16:Bool) (r:(Int×Int×Int×Bool) ⊕ (Bool)) (h:JF x0 r16=some r):Sem E0 ⟨none,false⟩ (pc Da [1,1,0,1,0,1,1,1]) ⟨Fr 63 [(1,.pt 0 0 0),(3,.v (.int .i64 0)),(4,.v (.int .i64 0)),(5,.v (.int .i64 0)),(6,.v (.bool false)),(8,.v (.int .u8 x0.1)),(14,.v (.bool r16))],[some ⟨5,60,[AA.enc x0],false⟩]⟩ (fun e s=>match r with
 | (.inl w)=>e = .normal/\Wk E0 s ⟨Fr 63 [(1,.pt 0 0 0),(3,.v (.int .i64 w.1)),(4,.v (.int .i64 w.2.1)),(5,.v (.int .i64 w.2.2.1)),(6,.v (.bool w.2.2.2))],[some ⟨5,60,[AA.enc x0],false⟩]⟩
 | (.inr w)=>e = .ret/\Wk E0 s ⟨Fr 63 [(2,.v (.bool w))],[]⟩):=by
 unfold JF at h;refine AP (b:=r16) kr (fun hb17=>?_) (fun hb17=>?_)
 ·rw [if_pos hb17] at h
  refine AT ?_;have hq:=OI h; subst hq;exact ⟨rfl,(Ae [0] ⟨⟨_,rfl,Gy⟩,trivial⟩ ⟨lv,lv,lv,lv,lv,trivial⟩)⟩
 ·rw [BY hb17] at h
  refine AK AC [(1,.pt 0 0 0),(3,.v (.int .i64 0)),(4,.v (.int .i64 0)),(5,.v (.int .i64 0)),(6,.v (.bool false)),(8,.v (.int .u8 x0.1)),(19,.v (.bool (x0.1==4)))] [some ⟨5,60,[AA.enc x0],false⟩] ?_;obtain ⟨r48,hr48,h⟩:=OB h;rcases r48 with w49 | w50
  ·try dsimp only at h
   refine GU (Mh x0 _ hr48) ?_;have hq:=OI h; subst hq;exact ⟨rfl,(Ae [0] ⟨⟨_,rfl,Gy⟩,trivial⟩ ⟨lv,lv,lv,lv,lv,trivial⟩)⟩
  ·try dsimp only at h
   refine GU (Mh x0 _ hr48) ?_;have hq:=OI h; subst hq;exact ⟨rfl,AJ⟩
theorem Mf (x0:AF) (r:(Int×Int×Int×Bool) ⊕ (Bool)) (h:JB x0=some r):Sem E0 ⟨none,false⟩ (pc Da [1,1,0,1,0,1]) ⟨Fr 63 [(1,.pt 0 0 0),(3,.v (.int .i64 0)),(4,.v (.int .i64 0)),(5,.v (.int .i64 0)),(6,.v (.bool false)),(8,.v (.int .u8 x0.1)),(9,.v (.bool (x0.1==1)))],[some ⟨5,60,[AA.enc x0],false⟩]⟩ (fun e s=>match r with
 | (.inl w)=>e = .normal/\Wk E0 s ⟨Fr 63 [(1,.pt 0 0 0),(3,.v (.int .i64 w.1)),(4,.v (.int .i64 w.2.1)),(5,.v (.int .i64 w.2.2.1)),(6,.v (.bool w.2.2.2))],[some ⟨5,60,[AA.enc x0],false⟩]⟩
 | (.inr w)=>e = .ret/\Wk E0 s ⟨Fr 63 [(2,.v (.bool w))],[]⟩):=by
 unfold JB at h;refine AP (b:=(x0.1==1)) kr (fun hb1=>?_) (fun hb1=>?_)
 ·rw [if_pos hb1] at h
  refine AG ?_
  let p1:Option Blk:=some ⟨5,60,[AA.enc x0],false⟩
  refine AK AC [(1,.pt 0 0 0),(4,.v (.int .i64 0)),(5,.v (.int .i64 0)),(6,.v (.bool false)),(13,.v (.bool (!(x0.2.1==[]))))] [p1] ?_;refine AP (b:=(!(x0.2.1==[]))) kr (fun hb2=>?_) (fun hb2=>?_)
  ·rw [if_pos hb2] at h
   refine AG ?_;refine AL (s1:=⟨Fr 63 [(2,.v (.bool false))],[]⟩) ?_ ?_
   ·refine AD (n:=63) AC 1 [(2,.v (.bool false))] [p1] kr ?_
    exact AI rfl (Ae [] trivial ⟨lv,trivial⟩)
   refine AN ?_;have hq:=OI h; subst hq;exact ⟨rfl,AJ⟩
  ·rw [BY hb2] at h
   refine AT ?_;refine Ci AC [(1,.pt 0 0 0),(3,.v (.int .i64 16)),(4,.v (.int .i64 0)),(5,.v (.int .i64 0)),(6,.v (.bool false))] [p1] ?_;have hq:=OI h; subst hq;exact ⟨rfl,(Ae [0] ⟨⟨_,rfl,Gy⟩,trivial⟩ ⟨lv,lv,lv,lv,lv,trivial⟩)⟩
 ·rw [BY hb1] at h
  refine AG ?_;refine AK AC [(1,.pt 0 0 0),(3,.v (.int .i64 0)),(4,.v (.int .i64 0)),(5,.v (.int .i64 0)),(6,.v (.bool false)),(8,.v (.int .u8 x0.1)),(14,.v (.bool (x0.1==2)))] [some ⟨5,60,[AA.enc x0],false⟩] ?_;obtain ⟨r16,hr16,h⟩:=OB h;refine GU (Qz x0 _ hr16) ?_;obtain ⟨r52,hr52,h⟩:=OB h;rcases r52 with w53 | w54
  ·try dsimp only at h
   refine GU (Mg x0 r16 _ hr52) ?_;have hq:=OI h; subst hq;exact ⟨rfl,(Ae [0] ⟨⟨_,rfl,Gy⟩,trivial⟩ ⟨lv,lv,lv,lv,lv,trivial⟩)⟩
  ·try dsimp only at h
   refine GU (Mg x0 r16 _ hr52) ?_;have hq:=OI h; subst hq;exact ⟨rfl,AJ⟩
theorem Sk (x0:AF) (r:Bool) (h:Cn x0=some r):Sem E0 ⟨none,false⟩ Da ⟨Fr 63 (Av 0 (L8.enc (x0,()))),[]⟩ fun e s'=>(e = .normal\/e = .ret)/\∃ xs,D6 E0.P s'.fr s'.hp Tryz.f159.results.toList=some xs/\EA xs=ME r:=by
 unfold Cn at h;refine Aj (A8 (s1:=⟨Fr 63 [(0,AA.enc x0)],[]⟩) AJ ?_);refine AK AC [(1,.pt 0 0 0)] [some ⟨5,60,[AA.enc x0],false⟩] ?_;refine AK AC [(1,.pt 0 0 0),(3,.v (.int .i64 0)),(4,.v (.int .i64 0)),(5,.v (.int .i64 0)),(6,.v (.bool false))] [some ⟨5,60,[AA.enc x0],false⟩] ?_;refine AG ?_;refine AK AC [(1,.pt 0 0 0),(3,.v (.int .i64 0)),(4,.v (.int .i64 0)),(5,.v (.int .i64 0)),(6,.v (.bool false)),(8,.v (.int .u8 x0.1))] [some ⟨5,60,[AA.enc x0],false⟩] ?_;refine AZ ?_;refine AK AC [(1,.pt 0 0 0),(3,.v (.int .i64 0)),(4,.v (.int .i64 0)),(5,.v (.int .i64 0)),(6,.v (.bool false)),(8,.v (.int .u8 x0.1)),(9,.v (.bool (x0.1==1)))] [some ⟨5,60,[AA.enc x0],false⟩] ?_;obtain ⟨r55,hr55,h⟩:=OB h;rcases r55 with w56 | w68
 ·try dsimp only at h
  refine GU (Mf x0 _ hr55) ?_;refine AG ?_;obtain ⟨j58,hj58,h⟩:=OB h;refine AL (s1:=⟨Fr 63 [(2,.v (.bool j58))],[]⟩) ?_ ?_
  ·refine AD (n:=63) AC 2 [(1,.pt 0 0 0),(3,.v (.int .i64 w56.1)),(4,.v (.int .i64 w56.2.1)),(5,.v (.int .i64 w56.2.2.1)),(6,.v (.bool w56.2.2.2)),(29,.sl 1 (x0.2.2.2.1.map cdS.enc))] [some ⟨5,60,[AA.enc x0],false⟩] kr ?_
   refine AS AC 0 rfl (DH (AB rfl) rfl (CX (a:= .sl 1 (x0.2.2.2.1.map cdS.enc)) kr (BS (el:=9) kr))) ?_;refine AD (n:=63) AC 3 [(1,.pt 0 0 0),(3,.v (.int .i64 w56.1)),(4,.v (.int .i64 w56.2.1)),(5,.v (.int .i64 w56.2.2.1)),(6,.v (.bool w56.2.2.2)),(33,.v (.bool (decide ((x0.2.2.2.1.length:Int)<=w56.1))))] [some ⟨5,60,[AA.enc x0],false⟩] kr ?_;rcases BE (decide ((x0.2.2.2.1.length:Int)<=w56.1)) with hc59 | hc59
   ·rw [if_pos hc59] at hj58
    rw [hc59];refine AD (n:=63) AC 3 [(1,.pt 0 0 0),(4,.v (.int .i64 w56.2.1)),(5,.v (.int .i64 w56.2.2.1)),(6,.v (.bool w56.2.2.2)),(33,.v (.bool true)),(36,.v (.bool (w56.1==0)))] [some ⟨5,60,[AA.enc x0],false⟩] kr ?_;rcases BE (w56.1==0) with hc60 | hc60
    ·rw [if_pos hc60] at hj58
     rw [hc60];refine AD (n:=63) AC 13 [(1,.pt 0 0 0),(5,.v (.int .i64 w56.2.2.1)),(6,.v (.bool w56.2.2.2)),(49,.v (.bool (decide (x0.2.2.2.2≥w56.2.1))))] [some ⟨5,60,[AA.enc x0],false⟩] kr ?_;rcases BE (decide (x0.2.2.2.2≥w56.2.1)) with hc61 | hc61
     ·rw [if_pos hc61] at hj58
      rw [hc61];refine AD (n:=63) AC 6 [(1,.pt 0 0 0),(6,.v (.bool w56.2.2.2)),(55,.v (.bool (decide (x0.2.2.2.2<=w56.2.2.1))))] [some ⟨5,60,[AA.enc x0],false⟩] kr ?_;rcases BE (decide (x0.2.2.2.2<=w56.2.2.1)) with hc62 | hc62
      ·rw [if_pos hc62] at hj58
       rw [hc62];refine AD (n:=63) AC 2 [(1,.pt 0 0 0),(55,.v (.bool true)),(57,.v (.bool w56.2.2.2))] [some ⟨5,60,[AA.enc x0],false⟩] kr ?_;rcases BE w56.2.2.2 with hc63 | hc63
       ·rw [if_pos hc63] at hj58
        rw [hc63];refine AD (n:=63) AC 6 [(2,.v (.bool true))] [some ⟨5,60,[AA.enc x0],false⟩] kr ?_;have hq:=OI hj58; subst hq;exact AI rfl (Ae [] trivial ⟨lv,trivial⟩)
       ·rw [BY hc63] at hj58
        rw [hc63];refine AD (n:=63) AC 6 [(2,.v (.bool (!x0.2.2.1)))] [some ⟨5,60,[AA.enc x0],false⟩] kr ?_;have hq:=OI hj58; subst hq;exact AI rfl (Ae [] trivial ⟨lv,trivial⟩)
      ·rw [BY hc62] at hj58
       rw [hc62];refine AD (n:=63) AC 8 [(2,.v (.bool false))] [some ⟨5,60,[AA.enc x0],false⟩] kr ?_;have hq:=OI hj58; subst hq;exact AI rfl (Ae [] trivial ⟨lv,trivial⟩)
     ·rw [BY hc61] at hj58
      rw [hc61];refine AD (n:=63) AC 14 [(2,.v (.bool false))] [some ⟨5,60,[AA.enc x0],false⟩] kr ?_;have hq:=OI hj58; subst hq;exact AI rfl (Ae [] trivial ⟨lv,trivial⟩)
    ·rw [BY hc60] at hj58
     rw [hc60];refine AD (n:=63) AC 2 [(1,.pt 0 0 0),(4,.v (.int .i64 w56.2.1)),(5,.v (.int .i64 w56.2.2.1)),(6,.v (.bool w56.2.2.2)),(33,.v (.bool true)),(36,.v (.bool false)),(38,.sl 1 (x0.2.2.2.1.map cdS.enc))] [some ⟨5,60,[AA.enc x0],false⟩] kr ?_;refine AS AC 0 rfl (DH kr rfl (CX (a:= .sl 1 (x0.2.2.2.1.map cdS.enc)) kr (BS (el:=9) kr))) ?_;refine AD (n:=63) AC 4 [(1,.pt 0 0 0),(4,.v (.int .i64 w56.2.1)),(5,.v (.int .i64 w56.2.2.1)),(6,.v (.bool w56.2.2.2)),(43,.v (.bool (decide ((x0.2.2.2.1.length:Int) > 0))))] [some ⟨5,60,[AA.enc x0],false⟩] kr ?_;rcases BE (decide ((x0.2.2.2.1.length:Int) > 0)) with hc64 | hc64
     ·rw [if_pos hc64] at hj58
      rw [hc64];refine AD (n:=63) AC 6 [(1,.pt 0 0 0),(5,.v (.int .i64 w56.2.2.1)),(6,.v (.bool w56.2.2.2)),(49,.v (.bool (decide (x0.2.2.2.2≥w56.2.1))))] [some ⟨5,60,[AA.enc x0],false⟩] kr ?_;rcases BE (decide (x0.2.2.2.2≥w56.2.1)) with hc65 | hc65
      ·rw [if_pos hc65] at hj58
       rw [hc65];refine AD (n:=63) AC 6 [(1,.pt 0 0 0),(6,.v (.bool w56.2.2.2)),(55,.v (.bool (decide (x0.2.2.2.2<=w56.2.2.1))))] [some ⟨5,60,[AA.enc x0],false⟩] kr ?_;rcases BE (decide (x0.2.2.2.2<=w56.2.2.1)) with hc66 | hc66
       ·rw [if_pos hc66] at hj58
        rw [hc66];refine AD (n:=63) AC 2 [(1,.pt 0 0 0),(55,.v (.bool true)),(57,.v (.bool w56.2.2.2))] [some ⟨5,60,[AA.enc x0],false⟩] kr ?_;rcases BE w56.2.2.2 with hc67 | hc67
        ·rw [if_pos hc67] at hj58
         rw [hc67];refine AD (n:=63) AC 6 [(2,.v (.bool true))] [some ⟨5,60,[AA.enc x0],false⟩] kr ?_;have hq:=OI hj58; subst hq;exact AI rfl (Ae [] trivial ⟨lv,trivial⟩)
        ·rw [BY hc67] at hj58
         rw [hc67];refine AD (n:=63) AC 6 [(2,.v (.bool (!x0.2.2.1)))] [some ⟨5,60,[AA.enc x0],false⟩] kr ?_;have hq:=OI hj58; subst hq;exact AI rfl (Ae [] trivial ⟨lv,trivial⟩)
       ·rw [BY hc66] at hj58
        rw [hc66];refine AD (n:=63) AC 8 [(2,.v (.bool false))] [some ⟨5,60,[AA.enc x0],false⟩] kr ?_;have hq:=OI hj58; subst hq;exact AI rfl (Ae [] trivial ⟨lv,trivial⟩)
      ·rw [BY hc65] at hj58
       rw [hc65];refine AD (n:=63) AC 14 [(2,.v (.bool false))] [some ⟨5,60,[AA.enc x0],false⟩] kr ?_;have hq:=OI hj58; subst hq;exact AI rfl (Ae [] trivial ⟨lv,trivial⟩)
     ·rw [BY hc64] at hj58
      rw [hc64];refine AD (n:=63) AC 20 [(2,.v (.bool false))] [some ⟨5,60,[AA.enc x0],false⟩] kr ?_;have hq:=OI hj58; subst hq;exact AI rfl (Ae [] trivial ⟨lv,trivial⟩)
   ·rw [BY hc59] at hj58
    rw [hc59];refine AD (n:=63) AC 30 [(2,.v (.bool false))] [some ⟨5,60,[AA.enc x0],false⟩] kr ?_;have hq:=OI hj58; subst hq;exact AI rfl (Ae [] trivial ⟨lv,trivial⟩)
  refine AN ?_;have hq:=OI h; subst hq;exact ⟨⟨Fr 63 [(2,.v (.bool j58))],[]⟩,AJ,.inr rfl,[.v (.bool j58)],kr,kr⟩
 ·try dsimp only at h
  refine GU (Mf x0 _ hr55) ?_;have hq:=OI h; subst hq;exact ⟨⟨Fr 63 [(2,.v (.bool w68))],[]⟩,AJ,.inr rfl,[.v (.bool w68)],kr,kr⟩
def VA:List AV->Option AV:=Dk L8 (fun a=>Cn a.1) ME
theorem VJ:XOk 159 VA:=by
 refine AQ Tryz.func159 (c:=Da) ?h2 ⟨Tryz.call159⟩ L8 (fun a=>Cn a.1) ME (fun a=>(by show 1<=63; decide)) ?h3 ?h4
 case h2=>kernel_rfl
 case h3=>intro b; kernel_rfl
 case h4=>exact fun a b h=>Sk a.1 b h
/- trestle/court.name -/
noncomputable def Nk:Code:=A3 Tryz.f96
def Gf (x0:(List UInt8)):Nat->Int->Option ((Unit) ⊕ (Bool))
 | 0,_=>none
 | f + 1,c1 =>
  if (decide (c1 < (x0.length:Int)))=true then
  (idx x0 c1).bind fun v3 =>
  (if (decide ((v3.toNat:Int) < 97))=true then some true else (idx x0 c1).bind fun v4 =>
  some (decide ((v4.toNat:Int) > 122))).bind fun j6 =>
  if j6=true then
  some (.inr false)
  else
  Gf x0 f (wr .i64 (c1 + 1))
  else
  some (.inl ())
def Iz (x0:(List UInt8)):Option (Bool) :=
 (Gf x0 100000 0).bind fun r10 =>
 match r10 with
 | (.inl _w11) =>
  (if (decide ((x0.length:Int)≥1))=true then some (decide ((x0.length:Int)<=12)) else some false).bind fun j13 =>
  some j13
 | (.inr w15) =>
  some w15
def Np:Cs ((List UInt8)×Unit):=(csC cdS csN)
def Nx (r:Bool):AV:=cdB.enc r
theorem Oe (x0:(List UInt8)):∀ (f:Nat) (c1:Int) (r:(Unit) ⊕ (Bool)),Gf x0 f c1=some r->SemN E0 ⟨none,false⟩ (pc Nk [1,0,1,0,0]) f ⟨Fr 28 [(0,.st x0),(3,.v (.int .i64 c1))],[]⟩ (fun e s=>match r with
 | (.inl _w)=>e=(.exit 0)/\Wk E0 s ⟨Fr 28 [(0,.st x0)],[]⟩
 | (.inr w)=>e = .ret/\Wk E0 s ⟨Fr 28 [(2,.v (.bool w))],[]⟩):=by
 intro f;induction f with
 | zero=>intro c1 r h; cases h
 | succ f ih0 =>
  intro c1 r h
  have ih:=fun (c1:Int)=>ih0 c1 r
  unfold Gf at h;refine BR ?_;refine AG ?_;refine AK AC [(0,.st x0),(3,.v (.int .i64 c1)),(7,.v (.bool (decide (c1 < (x0.length:Int)))))] [] ?_;refine AP (b:=(decide (c1 < (x0.length:Int)))) kr (fun hb2=>?_) (fun hb2=>?_)
  ·rw [if_pos hb2] at h
   refine AT ?_;refine AG ?_;refine AZ ?_;refine AG ?_;obtain ⟨v3,hv3,h⟩:=OB h;obtain ⟨j6,hj6,h⟩:=OB h;refine AL (s1:=⟨Fr 28 [(0,.st x0),(3,.v (.int .i64 c1)),(19,.v (.bool j6))],[]⟩) ?_ ?_
   ·refine AD (n:=28) AC 2 [(0,.st x0),(3,.v (.int .i64 c1)),(10,.st x0),(11,.v (.int .i64 c1))] [] kr ?_
    refine AS AC 0 rfl (DH (AB rfl) rfl (WB (a:= .st x0) (b:= .v (.int .i64 c1)) kr kr (TL (bs:=x0) (ki:= .i64) kr hv3))) ?_;refine AD (n:=28) AC 2 [(0,.st x0),(3,.v (.int .i64 c1)),(14,.v (.bool (decide ((v3.toNat:Int) < 97))))] [] kr ?_;rcases BE (decide ((v3.toNat:Int) < 97)) with hc9 | hc9
    ·rw [if_pos hc9] at hj6
     rw [hc9];refine AD (n:=28) AC 5 [(0,.st x0),(3,.v (.int .i64 c1)),(15,.tp []),(16,.tp []),(17,.tp []),(18,.tp []),(19,.v (.bool true))] [] kr ?_;have hq:=OI hj6; subst hq;exact AI rfl AJ
    ·rw [BY hc9] at hj6
     rw [hc9];refine AD (n:=28) AC 2 [(0,.st x0),(3,.v (.int .i64 c1)),(14,.v (.bool false)),(15,.st x0),(16,.v (.int .i64 c1))] [] kr ?_;obtain ⟨v4,hv4,hj6⟩:=OB hj6;refine AS AC 0 rfl (DH kr rfl (WB (a:= .st x0) (b:= .v (.int .i64 c1)) kr kr (TL (bs:=x0) (ki:= .i64) kr hv4))) ?_;refine AD (n:=28) AC 2 [(0,.st x0),(3,.v (.int .i64 c1)),(15,.st x0),(16,.v (.int .i64 c1)),(17,.v (.int .u8 (v4.toNat:Int))),(18,.v (.bool (decide ((v4.toNat:Int) > 122)))),(19,.v (.bool (decide ((v4.toNat:Int) > 122))))] [] kr ?_;have hq:=OI hj6; subst hq;exact AI rfl AJ
   refine AP (b:=j6) kr (fun hb7=>?_) (fun hb7=>?_)
   ·rw [if_pos hb7] at h
    refine AK AC [(2,.v (.bool false))] [] ?_;refine AN ?_;have hq:=OI h; subst hq;exact ⟨rfl,AJ⟩
   ·rw [BY hb7] at h
    refine AT ?_;refine Ci AC [(0,.st x0),(3,.v (.int .i64 (wr .i64 (c1 + 1))))] [] ?_;exact Ab (s1:=⟨Fr 28 [(0,.st x0),(3,.v (.int .i64 (wr .i64 (c1 + 1))))],[]⟩) AJ (ih (wr .i64 (c1 + 1)) h)
  ·rw [BY hb2] at h
   refine Bi ?_;have hq:=OI h; subst hq;exact ⟨rfl,AJ⟩
theorem U1 (x0:(List UInt8)) (r:Bool) (h:Iz x0=some r):Sem E0 ⟨none,false⟩ Nk ⟨Fr 28 (Av 0 (Np.enc (x0,()))),[]⟩ fun e s'=>(e = .normal\/e = .ret)/\∃ xs,D6 E0.P s'.fr s'.hp Tryz.f96.results.toList=some xs/\EA xs=Nx r:=by
 unfold Iz at h;refine Aj (A8 (s1:=⟨Fr 28 [(0,.st x0)],[]⟩) AJ ?_);refine AK AC [(0,.st x0)] [] ?_;refine AG ?_;refine AK AC [(0,.st x0),(3,.v (.int .i64 0))] [] ?_;refine AZ ?_;obtain ⟨r10,hr10,h⟩:=OB h;refine Bj (n:=100000) ?_;rcases r10 with w11 | w15
 ·try dsimp only at h
  refine Ao (Ab (s1:=⟨Fr 28 [(0,.st x0),(3,.v (.int .i64 0))],[]⟩) AJ (Oe x0 _ 0 _ hr10)) ?_;refine AG ?_;obtain ⟨j13,hj13,h⟩:=OB h;refine AL (s1:=⟨Fr 28 [(2,.v (.bool j13))],[]⟩) ?_ ?_
  ·refine AD (n:=28) AC 4 [(0,.st x0),(23,.v (.bool (decide ((x0.length:Int)≥1))))] [] kr ?_
   rcases BE (decide ((x0.length:Int)≥1)) with hc14 | hc14
   ·rw [if_pos hc14] at hj13
    rw [hc14];refine AD (n:=28) AC 5 [(2,.v (.bool (decide ((x0.length:Int)<=12))))] [] kr ?_;have hq:=OI hj13; subst hq;exact AI rfl AJ
   ·rw [BY hc14] at hj13
    rw [hc14];refine AD (n:=28) AC 5 [(2,.v (.bool false))] [] kr ?_;have hq:=OI hj13; subst hq;exact AI rfl AJ
  refine AN ?_;have hq:=OI h; subst hq;exact ⟨⟨Fr 28 [(2,.v (.bool j13))],[]⟩,AJ,.inr rfl,[.v (.bool j13)],kr,kr⟩
 ·try dsimp only at h
  refine Ao (Ab (s1:=⟨Fr 28 [(0,.st x0),(3,.v (.int .i64 0))],[]⟩) AJ (Oe x0 _ 0 _ hr10)) ?_;have hq:=OI h; subst hq;exact ⟨⟨Fr 28 [(2,.v (.bool w15))],[]⟩,AJ,.inr rfl,[.v (.bool w15)],kr,kr⟩
def XP:List AV->Option AV:=Dk Np (fun a=>Iz a.1) Nx
theorem Sh:XOk 96 XP:=by
 refine AQ Tryz.func96 (c:=Nk) ?h2 ⟨Tryz.call96⟩ Np (fun a=>Iz a.1) Nx (fun a=>(by show 1<=28; decide)) ?h3 ?h4
 case h2=>kernel_rfl
 case h3=>intro b; kernel_rfl
 case h4=>exact fun a b h=>U1 a.1 b h
/- trestle/court.check$1 -/
noncomputable def OM:Code:=A3 Tryz.f160
def HQ (x0:(List UInt8)):Option (Bool) :=
 (Iz x0).bind fun v1 =>
 some (!v1)
def Kn:Cs ((List UInt8)×Unit):=(csC cdS csN)
def LA (r:Bool):AV:=cdB.enc r
theorem RW (x0:(List UInt8)) (r:Bool) (h:HQ x0=some r):Sem E0 ⟨none,false⟩ OM ⟨Fr 6 (Av 0 (Kn.enc (x0,()))),[]⟩ fun e s'=>(e = .normal\/e = .ret)/\∃ xs,D6 E0.P s'.fr s'.hp Tryz.f160.results.toList=some xs/\EA xs=LA r:=by
 unfold HQ at h;refine Aj (A8 (s1:=⟨Fr 6 [(0,.st x0)],[]⟩) AJ ?_);refine AK AC [(0,.st x0)] [] ?_;refine AG ?_;obtain ⟨v1,hv1,h⟩:=OB h;refine AL (s1:=⟨Fr 6 [(2,.v (.bool (!v1)))],[]⟩) ?_ ?_
 ·refine AD (n:=6) AC 1 [(3,.st x0)] [] kr ?_
  refine AR (caps:=[]) (xs:=[.st x0]) (u:=(x0,())) rfl rfl Sh rfl (AB rfl) kr kr (AM (AU (c:=cdS) (v:=x0)) Af) (.inl kr) hv1 ?_;exact AX AC
 refine AN ?_;have hq:=OI h; subst hq;exact ⟨⟨Fr 6 [(2,.v (.bool (!v1)))],[]⟩,AJ,.inr rfl,[.v (.bool (!v1))],kr,kr⟩
def UE:List AV->Option AV:=Dk Kn (fun a=>HQ a.1) LA
theorem Uf:XOk 160 UE:=by
 refine AQ Tryz.func160 (c:=OM) ?h2 ⟨Tryz.call160⟩ Kn (fun a=>HQ a.1) LA (fun a=>(by show 1<=6; decide)) ?h3 ?h4
 case h2=>kernel_rfl
 case h3=>intro b; kernel_rfl
 case h4=>exact fun a b h=>RW a.1 b h
/- slices.IndexFunc[[]string,string] -/
noncomputable def Ck:Code:=A3 Tryz.f90
def BU (x0:(List (List UInt8))):Nat->Int->Option ((Unit) ⊕ (Int))
 | 0,_=>none
 | f + 1,c1 =>
  if (decide (c1 < (x0.length:Int)))=true then
  (idx x0 c1).bind fun v3 =>
  (HQ v3).bind fun v4 =>
  if v4=true then
  some (.inr c1)
  else
  BU x0 f (wr .i64 (c1 + 1))
  else
  some (.inl ())
def BL (x0:(List (List UInt8))):Option (Int) :=
 (BU x0 100000 0).bind fun r7 =>
 match r7 with
 | (.inl _w8) =>
  some (-1)
 | (.inr w9) =>
  some w9
def Cr:Cs ((List (List UInt8))×Unit×Unit):=(csC (cdL 1 cdS) (csC (cdF 160 csN (fun _=>rfl)) csN))
def Cw (r:Int):AV:=cdI.enc r
theorem Di (x0:(List (List UInt8))):∀ (f:Nat) (c1:Int) (r:(Unit) ⊕ (Int)),BU x0 f c1=some r->SemN E0 ⟨none,false⟩ (pc Ck [1,0,1,0,0]) f ⟨Fr 19 [(0,.sl 1 (x0.map cdS.enc)),(1,.fn 160 [] []),(7,.v (.int .i64 (x0.length:Int))),(8,.v (.int .i64 c1))],[]⟩ (fun e s=>match r with
 | (.inl _w)=>e=(.exit 0)/\Wk E0 s ⟨Fr 19 [],[]⟩
 | (.inr w)=>e = .ret/\Wk E0 s ⟨Fr 19 [(4,.v (.int .i64 w))],[]⟩):=by
 intro f;induction f with
 | zero=>intro c1 r h; cases h
 | succ f ih0 =>
  intro c1 r h
  have ih:=fun (c1:Int)=>ih0 c1 r
  unfold BU at h;refine BR ?_
  let p1:Nat×AV:=(8,.v (.int .i64 c1))
  let p2:Nat×AV:=(7,.v (.int .i64 (x0.length:Int)))
  let p3:Nat×AV:=(1,.fn 160 [] [])
  let p4:Nat×AV:=(0,.sl 1 (x0.map cdS.enc))
  refine AK AC [p4,p3,p2,p1,(9,.v (.bool (decide (c1 < (x0.length:Int)))))] [] ?_;refine AG ?_;refine AP (b:=(decide (c1 < (x0.length:Int)))) kr (fun hb2=>?_) (fun hb2=>?_)
  ·rw [if_pos hb2] at h
   refine AT ?_;refine AG ?_;refine AZ ?_
   let p5:Nat×AV:=(5,.v (.int .i64 c1))
   refine AK AC [p4,p3,p5,p2,p1] [] ?_;refine AG ?_;obtain ⟨v3,hv3,h⟩:=OB h;obtain ⟨v4,hv4,h⟩:=OB h;refine AL (s1:=⟨Fr 19 [p4,p3,p5,p2,p1,(16,.v (.bool v4))],[]⟩) ?_ ?_
   ·refine AD (n:=19) AC 3 [p4,p3,p5,p2,p1,(11,.fn 160 [] []),(12,.sl 1 (x0.map cdS.enc)),(13,.v (.int .i64 c1))] [] kr ?_
    refine AS AC 0 rfl (DH (AB rfl) rfl (AW (a:= .sl 1 (x0.map cdS.enc)) (b:= .v (.int .i64 c1)) kr kr (DK (e:=cdS.enc) (el:=9) (k:=1) (ki:= .i64) kr kr hv3))) ?_;refine AD (n:=19) AC 1 [p4,p3,p5,p2,p1,(11,.fn 160 [] []),(15,.st v3)] [] kr ?_;refine AR (caps:=[]) (xs:=[.st v3]) (u:=(v3,())) rfl rfl Uf rfl (AB rfl) kr kr (AM (AU (c:=cdS) (v:=v3)) Af) (.inl kr) hv4 ?_;exact AI rfl AJ
   refine AP (b:=v4) kr (fun hb5=>?_) (fun hb5=>?_)
   ·rw [if_pos hb5] at h
    refine AK AC [(4,.v (.int .i64 c1))] [] ?_;refine AN ?_;have hq:=OI h; subst hq;exact ⟨rfl,AJ⟩
   ·rw [BY hb5] at h
    refine AT ?_
    let p6:Nat×AV:=(8,.v (.int .i64 (wr .i64 (c1 + 1))))
    refine Ci AC [p4,p3,p2,p6] [] ?_;exact Ab (s1:=⟨Fr 19 [p4,p3,p2,p6],[]⟩) AJ (ih (wr .i64 (c1 + 1)) h)
  ·rw [BY hb2] at h
   refine Bi ?_;have hq:=OI h; subst hq;exact ⟨rfl,AJ⟩
theorem GX (x0:(List (List UInt8))) (r:Int) (h:BL x0=some r):Sem E0 ⟨none,false⟩ Ck ⟨Fr 19 (Av 0 (Cr.enc (x0,(),()))),[]⟩ fun e s'=>(e = .normal\/e = .ret)/\∃ xs,D6 E0.P s'.fr s'.hp Tryz.f90.results.toList=some xs/\EA xs=Cw r:=by
 unfold BL at h
 let p1:Nat×AV:=(1,.fn 160 [] [])
 let p2:Nat×AV:=(0,.sl 1 (x0.map cdS.enc))
 refine Aj (A8 (s1:=⟨Fr 19 [p2,p1],[]⟩) AJ ?_);refine AK AC [p2,p1] [] ?_;refine AG ?_;refine AG ?_
 let p3:Nat×AV:=(8,.v (.int .i64 0))
 let p4:Nat×AV:=(7,.v (.int .i64 (x0.length:Int)))
 refine AL (s1:=⟨Fr 19 [p2,p1,p4,p3],[]⟩) ?_ ?_
 ·refine AD (n:=19) AC 1 [p2,p1,(6,.sl 1 (x0.map cdS.enc))] [] kr ?_
  refine AS AC 0 rfl (DH (AB rfl) rfl (CX (a:= .sl 1 (x0.map cdS.enc)) kr (BS (el:=9) kr))) ?_;exact AX AC
 refine AZ ?_;obtain ⟨r7,hr7,h⟩:=OB h;refine Bj (n:=100000) ?_;rcases r7 with w8 | w9
 ·try dsimp only at h
  refine Ao (Ab (s1:=⟨Fr 19 [p2,p1,p4,p3],[]⟩) AJ (Di x0 _ 0 _ hr7)) ?_;refine AK AC [(4,.v (.int .i64 (-1)))] [] ?_;refine AN ?_;have hq:=OI h; subst hq;exact ⟨⟨Fr 19 [(4,.v (.int .i64 (-1)))],[]⟩,AJ,.inr rfl,[.v (.int .i64 (-1))],kr,kr⟩
 ·try dsimp only at h
  refine Ao (Ab (s1:=⟨Fr 19 [p2,p1,p4,p3],[]⟩) AJ (Di x0 _ 0 _ hr7)) ?_;have hq:=OI h; subst hq;exact ⟨⟨Fr 19 [(4,.v (.int .i64 w9))],[]⟩,AJ,.inr rfl,[.v (.int .i64 w9)],kr,kr⟩
def Gs:List AV->Option AV:=Dk Cr (fun a=>BL a.1) Cw
theorem Gw:XOk 90 Gs:=by
 refine AQ Tryz.func90 (c:=Ck) ?h2 ⟨Tryz.call90⟩ Cr (fun a=>BL a.1) Cw (fun a=>(by show 2<=19; decide)) ?h3 ?h4
 case h2=>kernel_rfl
 case h3=>intro b; kernel_rfl
 case h4=>exact fun a b h=>GX a.1 b h
/- slices.ContainsFunc[[]string,string] -/
noncomputable def Db:Code:=A3 Tryz.f36
def An (x0:(List (List UInt8))):Option (Bool) :=
 (BL x0).bind fun v1 =>
 some (decide (v1≥0))
def CT:Cs ((List (List UInt8))×Unit×Unit):=(csC (cdL 1 cdS) (csC (cdF 160 csN (fun _=>rfl)) csN))
def CV (r:Bool):AV:=cdB.enc r
theorem F7 (x0:(List (List UInt8))) (r:Bool) (h:An x0=some r):Sem E0 ⟨none,false⟩ Db ⟨Fr 9 (Av 0 (CT.enc (x0,(),()))),[]⟩ fun e s'=>(e = .normal\/e = .ret)/\∃ xs,D6 E0.P s'.fr s'.hp Tryz.f36.results.toList=some xs/\EA xs=CV r:=by
 unfold An at h;refine Aj (A8 (s1:=⟨Fr 9 [(0,.sl 1 (x0.map cdS.enc)),(1,.fn 160 [] [])],[]⟩) AJ ?_);refine AK AC [(0,.sl 1 (x0.map cdS.enc)),(1,.fn 160 [] [])] [] ?_;refine AG ?_;obtain ⟨v1,hv1,h⟩:=OB h
 let p1:Nat×AV:=(4,.v (.bool (decide (v1≥0))))
 refine AL (s1:=⟨Fr 9 [p1],[]⟩) ?_ ?_
 ·refine AD (n:=9) AC 2 [(5,.sl 1 (x0.map cdS.enc)),(6,.fn 160 [] [])] [] kr ?_
  refine AR (caps:=[]) (xs:=[.sl 1 (x0.map cdS.enc),.fn 160 [] []]) (u:=(x0,(),())) rfl rfl Gw rfl (AB rfl) kr kr (AM (AU (c:=(cdL 1 cdS)) (v:=x0)) (AM (Sm.fn Af) Af)) (.inl kr) hv1 ?_;exact AX AC
 refine AN ?_;have hq:=OI h; subst hq;exact ⟨⟨Fr 9 [p1],[]⟩,AJ,.inr rfl,[.v (.bool (decide (v1≥0)))],kr,kr⟩
def GQ:List AV->Option AV:=Dk CT (fun a=>An a.1) CV
theorem Dr:XOk 36 GQ:=by
 refine AQ Tryz.func36 (c:=Db) ?h2 ⟨Tryz.call36⟩ CT (fun a=>An a.1) CV (fun a=>(by show 2<=9; decide)) ?h3 ?h4
 case h2=>kernel_rfl
 case h3=>intro b; kernel_rfl
 case h4=>exact fun a b h=>F7 a.1 b h
/- slices.Index[[]string,string] -/
noncomputable def FU:Code:=A3 Tryz.f41
def Bc (x0:(List (List UInt8))) (x1:(List UInt8)):Nat->Int->Option ((Unit) ⊕ (Int))
 | 0,_=>none
 | f + 1,c1 =>
  if (decide (c1 < (x0.length:Int)))=true then
  (idx x0 c1).bind fun v3 =>
  if (x1==v3)=true then
  some (.inr c1)
  else
  Bc x0 x1 f (wr .i64 (c1 + 1))
  else
  some (.inl ())
def CH (x0:(List (List UInt8))) (x1:(List UInt8)):Option (Int) :=
 (Bc x0 x1 100000 0).bind fun r6 =>
 match r6 with
 | (.inl _w7) =>
  some (-1)
 | (.inr w8) =>
  some w8
def FY:Cs ((List (List UInt8))×(List UInt8)×Unit):=(csC (cdL 1 cdS) (csC cdS csN))
def Fa (r:Int):AV:=cdI.enc r
theorem G3 (x0:(List (List UInt8))) (x1:(List UInt8)):∀ (f:Nat) (c1:Int) (r:(Unit) ⊕ (Int)),Bc x0 x1 f c1=some r->SemN E0 ⟨none,false⟩ (pc FU [1,0,1,0,0]) f ⟨Fr 19 [(0,.sl 1 (x0.map cdS.enc)),(1,.st x1),(7,.v (.int .i64 (x0.length:Int))),(8,.v (.int .i64 c1))],[]⟩ (fun e s=>match r with
 | (.inl _w)=>e=(.exit 0)/\Wk E0 s ⟨Fr 19 [],[]⟩
 | (.inr w)=>e = .ret/\Wk E0 s ⟨Fr 19 [(4,.v (.int .i64 w))],[]⟩):=by
 intro f;induction f with
 | zero=>intro c1 r h; cases h
 | succ f ih0 =>
  intro c1 r h
  have ih:=fun (c1:Int)=>ih0 c1 r
  unfold Bc at h;refine BR ?_
  let p1:Nat×AV:=(8,.v (.int .i64 c1))
  let p2:Nat×AV:=(7,.v (.int .i64 (x0.length:Int)))
  let p3:Nat×AV:=(0,.sl 1 (x0.map cdS.enc))
  refine AK AC [p3,(1,.st x1),p2,p1,(9,.v (.bool (decide (c1 < (x0.length:Int)))))] [] ?_;refine AG ?_;refine AP (b:=(decide (c1 < (x0.length:Int)))) kr (fun hb2=>?_) (fun hb2=>?_)
  ·rw [if_pos hb2] at h
   refine AT ?_;refine AG ?_;refine AZ ?_
   let p4:Nat×AV:=(5,.v (.int .i64 c1))
   refine AK AC [p3,(1,.st x1),p4,p2,p1] [] ?_;refine AG ?_;obtain ⟨v3,hv3,h⟩:=OB h;refine AL (s1:=⟨Fr 19 [p3,(1,.st x1),p4,p2,p1,(16,.v (.bool (x1==v3)))],[]⟩) ?_ ?_
   ·refine AD (n:=19) AC 3 [p3,(1,.st x1),p4,p2,p1,(11,.st x1),(12,.sl 1 (x0.map cdS.enc)),(13,.v (.int .i64 c1))] [] kr ?_
    refine AS AC 0 rfl (DH (AB rfl) rfl (AW (a:= .sl 1 (x0.map cdS.enc)) (b:= .v (.int .i64 c1)) kr kr (DK (e:=cdS.enc) (el:=9) (k:=1) (ki:= .i64) kr kr hv3))) ?_;exact AX AC
   refine AP (b:=(x1==v3)) kr (fun hb4=>?_) (fun hb4=>?_)
   ·rw [if_pos hb4] at h
    refine AK AC [(4,.v (.int .i64 c1))] [] ?_;refine AN ?_;have hq:=OI h; subst hq;exact ⟨rfl,AJ⟩
   ·rw [BY hb4] at h
    refine AT ?_
    let p5:Nat×AV:=(8,.v (.int .i64 (wr .i64 (c1 + 1))))
    refine Ci AC [p3,(1,.st x1),p2,p5] [] ?_;exact Ab (s1:=⟨Fr 19 [p3,(1,.st x1),p2,p5],[]⟩) AJ (ih (wr .i64 (c1 + 1)) h)
  ·rw [BY hb2] at h
   refine Bi ?_;have hq:=OI h; subst hq;exact ⟨rfl,AJ⟩
theorem KU (x0:(List (List UInt8))) (x1:(List UInt8)) (r:Int) (h:CH x0 x1=some r):Sem E0 ⟨none,false⟩ FU ⟨Fr 19 (Av 0 (FY.enc (x0,x1,()))),[]⟩ fun e s'=>(e = .normal\/e = .ret)/\∃ xs,D6 E0.P s'.fr s'.hp Tryz.f41.results.toList=some xs/\EA xs=Fa r:=by
 unfold CH at h
 let p1:Nat×AV:=(0,.sl 1 (x0.map cdS.enc))
 refine Aj (A8 (s1:=⟨Fr 19 [p1,(1,.st x1)],[]⟩) AJ ?_);refine AK AC [p1,(1,.st x1)] [] ?_;refine AG ?_;refine AG ?_
 let p2:Nat×AV:=(8,.v (.int .i64 0))
 let p3:Nat×AV:=(7,.v (.int .i64 (x0.length:Int)))
 refine AL (s1:=⟨Fr 19 [p1,(1,.st x1),p3,p2],[]⟩) ?_ ?_
 ·refine AD (n:=19) AC 1 [p1,(1,.st x1),(6,.sl 1 (x0.map cdS.enc))] [] kr ?_
  refine AS AC 0 rfl (DH (AB rfl) rfl (CX (a:= .sl 1 (x0.map cdS.enc)) kr (BS (el:=9) kr))) ?_;exact AX AC
 refine AZ ?_;obtain ⟨r6,hr6,h⟩:=OB h;refine Bj (n:=100000) ?_;rcases r6 with w7 | w8
 ·try dsimp only at h
  refine Ao (Ab (s1:=⟨Fr 19 [p1,(1,.st x1),p3,p2],[]⟩) AJ (G3 x0 x1 _ 0 _ hr6)) ?_;refine AK AC [(4,.v (.int .i64 (-1)))] [] ?_;refine AN ?_;have hq:=OI h; subst hq;exact ⟨⟨Fr 19 [(4,.v (.int .i64 (-1)))],[]⟩,AJ,.inr rfl,[.v (.int .i64 (-1))],kr,kr⟩
 ·try dsimp only at h
  refine Ao (Ab (s1:=⟨Fr 19 [p1,(1,.st x1),p3,p2],[]⟩) AJ (G3 x0 x1 _ 0 _ hr6)) ?_;have hq:=OI h; subst hq;exact ⟨⟨Fr 19 [(4,.v (.int .i64 w8))],[]⟩,AJ,.inr rfl,[.v (.int .i64 w8)],kr,kr⟩
def Lm:List AV->Option AV:=Dk FY (fun a=>CH a.1 a.2.1) Fa
theorem Hr:XOk 41 Lm:=by
 refine AQ Tryz.func41 (c:=FU) ?h2 ⟨Tryz.call41⟩ FY (fun a=>CH a.1 a.2.1) Fa (fun a=>(by show 2<=19; decide)) ?h3 ?h4
 case h2=>kernel_rfl
 case h3=>intro b; kernel_rfl
 case h4=>exact fun a b h=>KU a.1 a.2.1 b h
/- slices.Contains[[]string,string] -/
noncomputable def Gz:Code:=A3 Tryz.f97
def BQ (x0:(List (List UInt8))) (x1:(List UInt8)):Option (Bool) :=
 (CH x0 x1).bind fun v1 =>
 some (decide (v1≥0))
def EY:Cs ((List (List UInt8))×(List UInt8)×Unit):=(csC (cdL 1 cdS) (csC cdS csN))
def EZ (r:Bool):AV:=cdB.enc r
theorem Jd (x0:(List (List UInt8))) (x1:(List UInt8)) (r:Bool) (h:BQ x0 x1=some r):Sem E0 ⟨none,false⟩ Gz ⟨Fr 9 (Av 0 (EY.enc (x0,x1,()))),[]⟩ fun e s'=>(e = .normal\/e = .ret)/\∃ xs,D6 E0.P s'.fr s'.hp Tryz.f97.results.toList=some xs/\EA xs=EZ r:=by
 unfold BQ at h;refine Aj (A8 (s1:=⟨Fr 9 [(0,.sl 1 (x0.map cdS.enc)),(1,.st x1)],[]⟩) AJ ?_);refine AK AC [(0,.sl 1 (x0.map cdS.enc)),(1,.st x1)] [] ?_;refine AG ?_;obtain ⟨v1,hv1,h⟩:=OB h
 let p1:Nat×AV:=(4,.v (.bool (decide (v1≥0))))
 refine AL (s1:=⟨Fr 9 [p1],[]⟩) ?_ ?_
 ·refine AD (n:=9) AC 2 [(5,.sl 1 (x0.map cdS.enc)),(6,.st x1)] [] kr ?_
  refine AR (caps:=[]) (xs:=[.sl 1 (x0.map cdS.enc),.st x1]) (u:=(x0,x1,())) rfl rfl Hr rfl (AB rfl) kr kr (AM (AU (c:=(cdL 1 cdS)) (v:=x0)) (AM (AU (c:=cdS) (v:=x1)) Af)) (.inl kr) hv1 ?_;exact AX AC
 refine AN ?_;have hq:=OI h; subst hq;exact ⟨⟨Fr 9 [p1],[]⟩,AJ,.inr rfl,[.v (.bool (decide (v1≥0)))],kr,kr⟩
def KB:List AV->Option AV:=Dk EY (fun a=>BQ a.1 a.2.1) EZ
theorem Dt:XOk 97 KB:=by
 refine AQ Tryz.func97 (c:=Gz) ?h2 ⟨Tryz.call97⟩ EY (fun a=>BQ a.1 a.2.1) EZ (fun a=>(by show 2<=9; decide)) ?h3 ?h4
 case h2=>kernel_rfl
 case h3=>intro b; kernel_rfl
 case h4=>exact fun a b h=>Jd a.1 a.2.1 b h
/- trestle/court.check$2 -/
noncomputable def ON:Code:=A3 Tryz.f161
def HS (x0:AF) (x1:AF):Option (Bool) :=
 (if (x0.1==1)=true then (BQ x0.2.2.2.1 x1.2.1).bind fun v1 =>
 some v1 else some false).bind fun j3 =>
 some j3
def Ko:Cs (AF×AF×Unit):=(csC AA (csC (cdP AA) csN))
def LB (r:Bool):AV:=cdB.enc r
theorem RX (x0:AF) (x1:AF) (r:Bool) (h:HS x0 x1=some r):Sem E0 ⟨none,false⟩ ON ⟨Fr 14 (Av 0 (Ko.enc (x0,x1,()))),[]⟩ fun e s'=>(e = .normal\/e = .ret)/\∃ xs,D6 E0.P s'.fr s'.hp Tryz.f161.results.toList=some xs/\EA xs=LB r:=by
 unfold HS at h;refine Aj (A8 (s1:=⟨Fr 14 [(0,AA.enc x0),(1,.pe (AA.enc x1) 0)],[]⟩) AJ ?_);refine AK AC [(1,.pe (AA.enc x1) 0),(2,.pt 0 0 0)] [some ⟨5,60,[AA.enc x0],false⟩] ?_;refine AG ?_;obtain ⟨j3,hj3,h⟩:=OB h;refine AL (s1:=⟨Fr 14 [(3,.v (.bool j3))],[]⟩) ?_ ?_
 ·refine AD (n:=14) AC 4 [(1,.pe (AA.enc x1) 0),(2,.pt 0 0 0),(7,.v (.bool (x0.1==1)))] [some ⟨5,60,[AA.enc x0],false⟩] kr ?_
  rcases BE (x0.1==1) with hc4 | hc4
  ·rw [if_pos hc4] at hj3
   rw [hc4];refine AD (n:=14) AC 4 [(7,.v (.bool true)),(9,.sl 1 (x0.2.2.2.1.map cdS.enc)),(11,.st x1.2.1)] [some ⟨5,60,[AA.enc x0],false⟩] kr ?_;obtain ⟨v1,hv1,hj3⟩:=OB hj3;refine AR (caps:=[]) (xs:=[.sl 1 (x0.2.2.2.1.map cdS.enc),.st x1.2.1]) (u:=(x0.2.2.2.1,x1.2.1,())) rfl rfl Dt rfl kr kr kr (AM (AU (c:=(cdL 1 cdS)) (v:=x0.2.2.2.1)) (AM (AU (c:=cdS) (v:=x1.2.1)) Af)) (.inl kr) hv1 ?_;refine AD (n:=14) AC 2 [(3,.v (.bool v1))] [some ⟨5,60,[AA.enc x0],false⟩] kr ?_;have hq:=OI hj3; subst hq;exact AI rfl (Ae [] trivial ⟨lv,trivial⟩)
  ·rw [BY hc4] at hj3
   rw [hc4];refine AD (n:=14) AC 7 [(3,.v (.bool false))] [some ⟨5,60,[AA.enc x0],false⟩] kr ?_;have hq:=OI hj3; subst hq;exact AI rfl (Ae [] trivial ⟨lv,trivial⟩)
 refine AN ?_;have hq:=OI h; subst hq;exact ⟨⟨Fr 14 [(3,.v (.bool j3))],[]⟩,AJ,.inr rfl,[.v (.bool j3)],kr,kr⟩
def UF:List AV->Option AV:=Dk Ko (fun a=>HS a.1 a.2.1) LB
theorem Ug:XOk 161 UF:=by
 refine AQ Tryz.func161 (c:=ON) ?h2 ⟨Tryz.call161⟩ Ko (fun a=>HS a.1 a.2.1) LB (fun a=>(by show 2<=14; decide)) ?h3 ?h4
 case h2=>kernel_rfl
 case h3=>intro b; kernel_rfl
 case h4=>exact fun a b h=>RX a.1 a.2.1 b h
/- slices.IndexFunc[[]trestle/api.Clause,trestle/api.Clause] -/
noncomputable def CD:Code:=A3 Tryz.f85
def A7 (x0:(List AF)) (x1:AF):Nat->Int->Option ((Unit) ⊕ (Int))
 | 0,_=>none
 | f + 1,c1 =>
  if (decide (c1 < (x0.length:Int)))=true then
  (idx x0 c1).bind fun v3 =>
  (HS v3 x1).bind fun v4 =>
  if v4=true then
  some (.inr c1)
  else
  A7 x0 x1 f (wr .i64 (c1 + 1))
  else
  some (.inl ())
def Ay (x0:(List AF)) (x1:AF):Option (Int) :=
 (A7 x0 x1 100000 0).bind fun r7 =>
 match r7 with
 | (.inl _w8) =>
  some (-1)
 | (.inr w9) =>
  some w9
def CE:Cs ((List AF)×AF×Unit):=(csC (cdL 5 AA) (csC (cdF 161 (csE (cdP AA)) (fun _=>rfl)) csN))
def CF (r:Int):AV:=cdI.enc r
theorem C7 (x0:(List AF)) (x1:AF):∀ (f:Nat) (c1:Int) (r:(Unit) ⊕ (Int)),A7 x0 x1 f c1=some r->SemN E0 ⟨none,false⟩ (pc CD [1,0,1,0,0]) f ⟨Fr 19 [(0,.sl 5 (x0.map AA.enc)),(1,.fn 161 [] [.pe (AA.enc x1) 0]),(7,.v (.int .i64 (x0.length:Int))),(8,.v (.int .i64 c1))],[]⟩ (fun e s=>match r with
 | (.inl _w)=>e=(.exit 0)/\Wk E0 s ⟨Fr 19 [],[]⟩
 | (.inr w)=>e = .ret/\Wk E0 s ⟨Fr 19 [(4,.v (.int .i64 w))],[]⟩):=by
 intro f;induction f with
 | zero=>intro c1 r h; cases h
 | succ f ih0 =>
  intro c1 r h
  have ih:=fun (c1:Int)=>ih0 c1 r
  unfold A7 at h;refine BR ?_
  let p1:Nat×AV:=(8,.v (.int .i64 c1))
  let p2:Nat×AV:=(7,.v (.int .i64 (x0.length:Int)))
  let p3:Nat×AV:=(1,.fn 161 [] [.pe (AA.enc x1) 0])
  let p4:Nat×AV:=(0,.sl 5 (x0.map AA.enc))
  refine AK AC [p4,p3,p2,p1,(9,.v (.bool (decide (c1 < (x0.length:Int)))))] [] ?_;refine AG ?_;refine AP (b:=(decide (c1 < (x0.length:Int)))) kr (fun hb2=>?_) (fun hb2=>?_)
  ·rw [if_pos hb2] at h
   refine AT ?_;refine AG ?_;refine AZ ?_
   let p5:Nat×AV:=(5,.v (.int .i64 c1))
   refine AK AC [p4,p3,p5,p2,p1] [] ?_;refine AG ?_;obtain ⟨v3,hv3,h⟩:=OB h;obtain ⟨v4,hv4,h⟩:=OB h;refine AL (s1:=⟨Fr 19 [p4,p3,p5,p2,p1,(16,.v (.bool v4))],[]⟩) ?_ ?_
   ·let p6:Nat×AV:=(11,.fn 161 [] [.pe (AA.enc x1) 0])
    refine AD (n:=19) AC 3 [p4,p3,p5,p2,p1,p6,(12,.sl 5 (x0.map AA.enc)),(13,.v (.int .i64 c1))] [] kr ?_;refine AS AC 0 rfl (DH (AB rfl) rfl (AW (a:= .sl 5 (x0.map AA.enc)) (b:= .v (.int .i64 c1)) kr kr (DK (e:=AA.enc) (el:=60) (k:=5) (ki:= .i64) kr kr hv3))) ?_;refine AD (n:=19) AC 1 [p4,p3,p5,p2,p1,p6,(15,AA.enc v3)] [] kr ?_;refine AR (caps:=[.pe (AA.enc x1) 0]) (xs:=[AA.enc v3]) (u:=(v3,x1,())) rfl rfl Ug rfl (AB rfl) kr kr (AM (AU (c:=AA) (v:=v3)) (AM (AU (c:=(cdP AA)) (v:=x1)) Af)) (.inl kr) hv4 ?_;exact AI rfl AJ
   refine AP (b:=v4) kr (fun hb5=>?_) (fun hb5=>?_)
   ·rw [if_pos hb5] at h
    refine AK AC [(4,.v (.int .i64 c1))] [] ?_;refine AN ?_;have hq:=OI h; subst hq;exact ⟨rfl,AJ⟩
   ·rw [BY hb5] at h
    refine AT ?_
    let p7:Nat×AV:=(8,.v (.int .i64 (wr .i64 (c1 + 1))))
    refine Ci AC [p4,p3,p2,p7] [] ?_;exact Ab (s1:=⟨Fr 19 [p4,p3,p2,p7],[]⟩) AJ (ih (wr .i64 (c1 + 1)) h)
  ·rw [BY hb2] at h
   refine Bi ?_;have hq:=OI h; subst hq;exact ⟨rfl,AJ⟩
theorem FH (x0:(List AF)) (x1:AF) (r:Int) (h:Ay x0 x1=some r):Sem E0 ⟨none,false⟩ CD ⟨Fr 19 (Av 0 (CE.enc (x0,x1,()))),[]⟩ fun e s'=>(e = .normal\/e = .ret)/\∃ xs,D6 E0.P s'.fr s'.hp Tryz.f85.results.toList=some xs/\EA xs=CF r:=by
 unfold Ay at h
 let p1:Nat×AV:=(1,.fn 161 [] [.pe (AA.enc x1) 0])
 let p2:Nat×AV:=(0,.sl 5 (x0.map AA.enc))
 refine Aj (A8 (s1:=⟨Fr 19 [p2,p1],[]⟩) AJ ?_);refine AK AC [p2,p1] [] ?_;refine AG ?_;refine AG ?_
 let p3:Nat×AV:=(8,.v (.int .i64 0))
 let p4:Nat×AV:=(7,.v (.int .i64 (x0.length:Int)))
 refine AL (s1:=⟨Fr 19 [p2,p1,p4,p3],[]⟩) ?_ ?_
 ·refine AD (n:=19) AC 1 [p2,p1,(6,.sl 5 (x0.map AA.enc))] [] kr ?_
  refine AS AC 0 rfl (DH (AB rfl) rfl (CX (a:= .sl 5 (x0.map AA.enc)) kr (BS (el:=60) kr))) ?_;exact AX AC
 refine AZ ?_;obtain ⟨r7,hr7,h⟩:=OB h;refine Bj (n:=100000) ?_;rcases r7 with w8 | w9
 ·try dsimp only at h
  refine Ao (Ab (s1:=⟨Fr 19 [p2,p1,p4,p3],[]⟩) AJ (C7 x0 x1 _ 0 _ hr7)) ?_;refine AK AC [(4,.v (.int .i64 (-1)))] [] ?_;refine AN ?_;have hq:=OI h; subst hq;exact ⟨⟨Fr 19 [(4,.v (.int .i64 (-1)))],[]⟩,AJ,.inr rfl,[.v (.int .i64 (-1))],kr,kr⟩
 ·try dsimp only at h
  refine Ao (Ab (s1:=⟨Fr 19 [p2,p1,p4,p3],[]⟩) AJ (C7 x0 x1 _ 0 _ hr7)) ?_;have hq:=OI h; subst hq;exact ⟨⟨Fr 19 [(4,.v (.int .i64 w9))],[]⟩,AJ,.inr rfl,[.v (.int .i64 w9)],kr,kr⟩
def Fg:List AV->Option AV:=Dk CE (fun a=>Ay a.1 a.2.1) CF
theorem Fh:XOk 85 Fg:=by
 refine AQ Tryz.func85 (c:=CD) ?h2 ⟨Tryz.call85⟩ CE (fun a=>Ay a.1 a.2.1) CF (fun a=>(by show 2<=19; decide)) ?h3 ?h4
 case h2=>kernel_rfl
 case h3=>intro b; kernel_rfl
 case h4=>exact fun a b h=>FH a.1 a.2.1 b h
/- slices.ContainsFunc[[]trestle/api.Clause,trestle/api.Clause] -/
noncomputable def C5:Code:=A3 Tryz.f53
def Ak (x0:(List AF)) (x1:AF):Option (Bool) :=
 (Ay x0 x1).bind fun v1 =>
 some (decide (v1≥0))
def Bx:Cs ((List AF)×AF×Unit):=(csC (cdL 5 AA) (csC (cdF 161 (csE (cdP AA)) (fun _=>rfl)) csN))
def By (r:Bool):AV:=cdB.enc r
theorem Ec (x0:(List AF)) (x1:AF) (r:Bool) (h:Ak x0 x1=some r):Sem E0 ⟨none,false⟩ C5 ⟨Fr 9 (Av 0 (Bx.enc (x0,x1,()))),[]⟩ fun e s'=>(e = .normal\/e = .ret)/\∃ xs,D6 E0.P s'.fr s'.hp Tryz.f53.results.toList=some xs/\EA xs=By r:=by
 unfold Ak at h
 let p1:Nat×AV:=(1,.fn 161 [] [.pe (AA.enc x1) 0])
 let p2:Nat×AV:=(0,.sl 5 (x0.map AA.enc))
 refine Aj (A8 (s1:=⟨Fr 9 [p2,p1],[]⟩) AJ ?_);refine AK AC [p2,p1] [] ?_;refine AG ?_;obtain ⟨v1,hv1,h⟩:=OB h
 let p3:Nat×AV:=(4,.v (.bool (decide (v1≥0))))
 refine AL (s1:=⟨Fr 9 [p3],[]⟩) ?_ ?_
 ·refine AD (n:=9) AC 2 [(5,.sl 5 (x0.map AA.enc)),(6,.fn 161 [] [.pe (AA.enc x1) 0])] [] kr ?_
  refine AR (caps:=[]) (xs:=[.sl 5 (x0.map AA.enc),.fn 161 [] [.pe (AA.enc x1) 0]]) (u:=(x0,x1,())) rfl rfl Fh rfl (AB rfl) kr kr (AM (AU (c:=(cdL 5 AA)) (v:=x0)) (AM (Sm.fn (Vl (AU (c:=(cdP AA)) (v:=x1)))) Af)) (.inl kr) hv1 ?_;exact AX AC
 refine AN ?_;have hq:=OI h; subst hq;exact ⟨⟨Fr 9 [p3],[]⟩,AJ,.inr rfl,[.v (.bool (decide (v1≥0)))],kr,kr⟩
def FC:List AV->Option AV:=Dk Bx (fun a=>Ak a.1 a.2.1) By
theorem FD:XOk 53 FC:=by
 refine AQ Tryz.func53 (c:=C5) ?h2 ⟨Tryz.call53⟩ Bx (fun a=>Ak a.1 a.2.1) By (fun a=>(by show 2<=9; decide)) ?h3 ?h4
 case h2=>kernel_rfl
 case h3=>intro b; kernel_rfl
 case h4=>exact fun a b h=>Ec a.1 a.2.1 b h
/- trestle/court.check -/
noncomputable def Mw:Code:=A3 Tryz.f128
def Fv (x0:(List AF)) (x1:AF):Nat->Int->Option ((Unit) ⊕ (Int))
 | 0,_=>none
 | f + 1,c9 =>
  if (decide (c9 < (x1.2.2.2.1.length:Int)))=true then
  (idx x1.2.2.2.1 c9).bind fun v11 =>
  if (MW 0 c9 x1.2.2.2.1.length)=true then
  (BQ ((x1.2.2.2.1.take c9.toNat).drop (0:Int).toNat) v11).bind fun v13 =>
  if v13=true then
  some (.inr 5)
  else
  Fv x0 x1 f (wr .i64 (c9 + 1))
  else none
  else
  some (.inl ())
def Im (x0:(List AF)) (x1:AF):Option (Int) :=
 (Cn x1).bind fun v1 =>
 if (!v1)=true then
 some 30
 else
 (if (!(x1.2.1==[]))=true then (Iz x1.2.1).bind fun v3 =>
 if (!v3)=true then some true else (An x1.2.2.2.1).bind fun v4 =>
 some v4 else (An x1.2.2.2.1).bind fun v5 =>
 some v5).bind fun j7 =>
 if j7=true then
 some 4
 else
 (Fv x0 x1 100000 0).bind fun r16 =>
 match r16 with
 | (.inl _w17) =>
  (if (x1.2.1==[])=true then some true else (Ak x0 x1).bind fun v18 =>
  some v18).bind fun j20 =>
  if j20=true then
  some 0
  else
  some 31
 | (.inr w23) =>
  some w23
def M2:Cs ((List AF)×AF×Unit):=(csC (cdL 5 AA) (csC AA csN))
def NC (r:Int):AV:=cdI.enc r
theorem NX (x0:(List AF)) (x1:AF):∀ (f:Nat) (c9:Int) (r:(Unit) ⊕ (Int)),Fv x0 x1 f c9=some r->SemN E0 ⟨none,false⟩ (pc Mw [1,1,1,0,1,0,0]) f ⟨Fr 47 [(0,.sl 5 (x0.map AA.enc)),(3,.pt 0 0 0),(25,.sl 1 (x1.2.2.2.1.map cdS.enc)),(26,.v (.int .i64 (x1.2.2.2.1.length:Int))),(27,.v (.int .i64 c9))],[some ⟨5,60,[AA.enc x1],false⟩]⟩ (fun e s=>match r with
 | (.inl _w)=>e=(.exit 0)/\Wk E0 s ⟨Fr 47 [(0,.sl 5 (x0.map AA.enc)),(3,.pt 0 0 0)],[some ⟨5,60,[AA.enc x1],false⟩]⟩
 | (.inr w)=>e = .ret/\Wk E0 s ⟨Fr 47 [(4,.v (.int .i64 w))],[]⟩):=by
 intro f;induction f with
 | zero=>intro c9 r h; cases h
 | succ f ih0 =>
  intro c9 r h
  have ih:=fun (c9:Int)=>ih0 c9 r
  unfold Fv at h;refine BR ?_
  let p1:Option Blk:=some ⟨5,60,[AA.enc x1],false⟩
  let p2:Nat×AV:=(27,.v (.int .i64 c9))
  let p3:Nat×AV:=(26,.v (.int .i64 (x1.2.2.2.1.length:Int)))
  let p4:Nat×AV:=(25,.sl 1 (x1.2.2.2.1.map cdS.enc))
  let p5:Nat×AV:=(3,.pt 0 0 0)
  let p6:Nat×AV:=(0,.sl 5 (x0.map AA.enc))
  refine AK AC [p6,p5,p4,p3,p2,(28,.v (.bool (decide (c9 < (x1.2.2.2.1.length:Int)))))] [p1] ?_;refine AG ?_;refine AP (b:=(decide (c9 < (x1.2.2.2.1.length:Int)))) kr (fun hb10=>?_) (fun hb10=>?_)
  ·rw [if_pos hb10] at h
   refine AT ?_;refine AG ?_;refine AZ ?_;refine AG ?_;obtain ⟨v11,hv11,h⟩:=OB h;refine AL (s1:=⟨Fr 47 [p6,p5,(5,.v (.int .i64 c9)),(6,.st v11),p4,p3,p2],[p1]⟩) ?_ ?_
   ·refine AD (n:=47) AC 1 [p6,p5,p4,p3,p2,(29,.v (.int .i64 c9))] [p1] kr ?_
    refine AS AC 0 rfl (DH (AB rfl) rfl (AW (a:= .sl 1 (x1.2.2.2.1.map cdS.enc)) (b:= .v (.int .i64 c9)) kr kr (DK (e:=cdS.enc) (el:=9) (k:=1) (ki:= .i64) kr kr hv11))) ?_;exact AX AC
   refine AG ?_;by_cases hk12:(MW 0 c9 x1.2.2.2.1.length)=true
   case neg=>rw [if_neg hk12] at h; cases h
   rw [if_pos hk12] at h;obtain ⟨v13,hv13,h⟩:=OB h;refine AL (s1:=⟨Fr 47 [p6,p5,p4,p3,p2,(37,.v (.bool v13))],[p1]⟩) ?_ ?_
   ·refine AD (n:=47) AC 3 [p6,p5,(6,.st v11),p4,p3,p2,(33,.sl 1 (x1.2.2.2.1.map cdS.enc)),(34,.v (.int .i64 c9))] [p1] kr ?_
    refine AS AC 0 rfl (DH (AB rfl) rfl (R9 (a:= .sl 1 (x1.2.2.2.1.map cdS.enc)) (l:=none) (u:=(some (.v (.int .i64 c9)))) (m:=none) kr kr kr rfl (TT (xs:=x1.2.2.2.1) (e:=cdS.enc) (k:=1) (el:=9) (lo:=0) (hi:=c9) kr kr rfl (XF (Zp hk12)) hk12))) ?_;refine AD (n:=47) AC 1 [p6,p5,p4,p3,p2,(35,.sl 1 (((x1.2.2.2.1.take c9.toNat).drop (0:Int).toNat).map cdS.enc)),(36,.st v11)] [p1] kr ?_;refine AR (caps:=[]) (xs:=[.sl 1 (((x1.2.2.2.1.take c9.toNat).drop (0:Int).toNat).map cdS.enc),.st v11]) (u:=(((x1.2.2.2.1.take c9.toNat).drop (0:Int).toNat),v11,())) rfl rfl Dt rfl (AB rfl) kr kr (AM (AU (c:=(cdL 1 cdS)) (v:=((x1.2.2.2.1.take c9.toNat).drop (0:Int).toNat))) (AM (AU (c:=cdS) (v:=v11)) Af)) (.inl kr) hv13 ?_;exact AI rfl (Ae [0] ⟨⟨_,rfl,Gy⟩,trivial⟩ ⟨lv,lv,lv,lv,lv,lv,trivial⟩)
   refine AP (b:=v13) kr (fun hb14=>?_) (fun hb14=>?_)
   ·rw [if_pos hb14] at h
    refine AG ?_;refine AL (s1:=⟨Fr 47 [(4,.v (.int .i64 5))],[]⟩) ?_ ?_
    ·refine AD (n:=47) AC 1 [(4,.v (.int .i64 5))] [p1] kr ?_
     exact AI rfl (Ae [] trivial ⟨lv,trivial⟩)
    refine AN ?_;have hq:=OI h; subst hq;exact ⟨rfl,AJ⟩
   ·rw [BY hb14] at h
    refine AT ?_
    let p7:Nat×AV:=(27,.v (.int .i64 (wr .i64 (c9 + 1))))
    refine Ci AC [p6,p5,p4,p3,p7] [p1] ?_;exact Ab (s1:=⟨Fr 47 [p6,p5,p4,p3,p7],[p1]⟩) (Ae [0] ⟨⟨_,rfl,Gy⟩,trivial⟩ ⟨lv,lv,lv,lv,lv,trivial⟩) (ih (wr .i64 (c9 + 1)) h)
  ·rw [BY hb10] at h
   refine Bi ?_;have hq:=OI h; subst hq;exact ⟨rfl,(Ae [0] ⟨⟨_,rfl,Gy⟩,trivial⟩ ⟨lv,lv,trivial⟩)⟩
theorem Te (x0:(List AF)) (x1:AF) (r:Int) (h:Im x0 x1=some r):Sem E0 ⟨none,false⟩ Mw ⟨Fr 47 (Av 0 (M2.enc (x0,x1,()))),[]⟩ fun e s'=>(e = .normal\/e = .ret)/\∃ xs,D6 E0.P s'.fr s'.hp Tryz.f128.results.toList=some xs/\EA xs=NC r:=by
 unfold Im at h;refine Aj (A8 (s1:=⟨Fr 47 [(0,.sl 5 (x0.map AA.enc)),(1,AA.enc x1)],[]⟩) AJ ?_);refine AK AC [(0,.sl 5 (x0.map AA.enc)),(3,.pt 0 0 0)] [some ⟨5,60,[AA.enc x1],false⟩] ?_;refine AG ?_;refine AG ?_;obtain ⟨v1,hv1,h⟩:=OB h;refine AL (s1:=⟨Fr 47 [(0,.sl 5 (x0.map AA.enc)),(3,.pt 0 0 0),(9,.v (.bool (!v1)))],[some ⟨5,60,[AA.enc x1],false⟩]⟩) ?_ ?_
 ·refine AD (n:=47) AC 1 [(0,.sl 5 (x0.map AA.enc)),(3,.pt 0 0 0),(7,AA.enc x1)] [some ⟨5,60,[AA.enc x1],false⟩] kr ?_
  refine AR (caps:=[]) (xs:=[AA.enc x1]) (u:=(x1,())) rfl rfl VJ rfl (AB rfl) kr kr (AM (AU (c:=AA) (v:=x1)) Af) (.inl kr) hv1 ?_;exact AX AC
 refine AP (b:=(!v1)) kr (fun hb2=>?_) (fun hb2=>?_)
 ·rw [if_pos hb2] at h
  refine AG ?_;refine AL (s1:=⟨Fr 47 [(4,.v (.int .i64 30))],[]⟩) ?_ ?_
  ·refine AD (n:=47) AC 1 [(4,.v (.int .i64 30))] [some ⟨5,60,[AA.enc x1],false⟩] kr ?_
   exact AI rfl (Ae [] trivial ⟨lv,trivial⟩)
  refine AN ?_;have hq:=OI h; subst hq;exact ⟨⟨Fr 47 [(4,.v (.int .i64 30))],[]⟩,AJ,.inr rfl,[.v (.int .i64 30)],kr,kr⟩
 ·rw [BY hb2] at h
  refine AT ?_;refine AG ?_;refine AG ?_;obtain ⟨j7,hj7,h⟩:=OB h;refine AL (s1:=⟨Fr 47 [(0,.sl 5 (x0.map AA.enc)),(3,.pt 0 0 0),(23,.v (.bool j7))],[some ⟨5,60,[AA.enc x1],false⟩]⟩) ?_ ?_
  ·refine AD (n:=47) AC 4 [(0,.sl 5 (x0.map AA.enc)),(3,.pt 0 0 0),(13,.v (.bool (!(x1.2.1==[]))))] [some ⟨5,60,[AA.enc x1],false⟩] kr ?_
   rcases BE (!(x1.2.1==[])) with hc24 | hc24
   ·rw [if_pos hc24] at hj7
    rw [hc24];refine AD (n:=47) AC 2 [(0,.sl 5 (x0.map AA.enc)),(3,.pt 0 0 0),(13,.v (.bool true)),(15,.st x1.2.1)] [some ⟨5,60,[AA.enc x1],false⟩] kr ?_;obtain ⟨v3,hv3,hj7⟩:=OB hj7;refine AR (caps:=[]) (xs:=[.st x1.2.1]) (u:=(x1.2.1,())) rfl rfl Sh rfl kr kr kr (AM (AU (c:=cdS) (v:=x1.2.1)) Af) (.inl kr) hv3 ?_;refine AD (n:=47) AC 3 [(0,.sl 5 (x0.map AA.enc)),(3,.pt 0 0 0),(19,.v (.bool (!v3)))] [some ⟨5,60,[AA.enc x1],false⟩] kr ?_;rcases BE (!v3) with hc25 | hc25
    ·rw [if_pos hc25] at hj7
     rw [hc25];refine AD (n:=47) AC 4 [(0,.sl 5 (x0.map AA.enc)),(3,.pt 0 0 0),(23,.v (.bool true))] [some ⟨5,60,[AA.enc x1],false⟩] kr ?_;have hq:=OI hj7; subst hq;exact AI rfl (Ae [0] ⟨⟨_,rfl,Gy⟩,trivial⟩ ⟨lv,lv,lv,trivial⟩)
    ·rw [BY hc25] at hj7
     rw [hc25];refine AD (n:=47) AC 2 [(0,.sl 5 (x0.map AA.enc)),(3,.pt 0 0 0),(19,.v (.bool false)),(21,.sl 1 (x1.2.2.2.1.map cdS.enc))] [some ⟨5,60,[AA.enc x1],false⟩] kr ?_;obtain ⟨v4,hv4,hj7⟩:=OB hj7;refine AR (caps:=[]) (xs:=[.sl 1 (x1.2.2.2.1.map cdS.enc),.fn 160 [] []]) (u:=(x1.2.2.2.1,(),())) rfl rfl Dr rfl kr kr kr (AM (AU (c:=(cdL 1 cdS)) (v:=x1.2.2.2.1)) (AM (Sm.fn Af) Af)) (.inl kr) hv4 ?_;refine AD (n:=47) AC 1 [(0,.sl 5 (x0.map AA.enc)),(3,.pt 0 0 0),(23,.v (.bool v4))] [some ⟨5,60,[AA.enc x1],false⟩] kr ?_;have hq:=OI hj7; subst hq;exact AI rfl (Ae [0] ⟨⟨_,rfl,Gy⟩,trivial⟩ ⟨lv,lv,lv,trivial⟩)
   ·rw [BY hc24] at hj7
    rw [hc24];refine AD (n:=47) AC 8 [(0,.sl 5 (x0.map AA.enc)),(3,.pt 0 0 0),(19,.v (.bool false)),(21,.sl 1 (x1.2.2.2.1.map cdS.enc))] [some ⟨5,60,[AA.enc x1],false⟩] kr ?_;obtain ⟨v5,hv5,hj7⟩:=OB hj7;refine AR (caps:=[]) (xs:=[.sl 1 (x1.2.2.2.1.map cdS.enc),.fn 160 [] []]) (u:=(x1.2.2.2.1,(),())) rfl rfl Dr rfl kr kr kr (AM (AU (c:=(cdL 1 cdS)) (v:=x1.2.2.2.1)) (AM (Sm.fn Af) Af)) (.inl kr) hv5 ?_;refine AD (n:=47) AC 1 [(0,.sl 5 (x0.map AA.enc)),(3,.pt 0 0 0),(23,.v (.bool v5))] [some ⟨5,60,[AA.enc x1],false⟩] kr ?_;have hq:=OI hj7; subst hq;exact AI rfl (Ae [0] ⟨⟨_,rfl,Gy⟩,trivial⟩ ⟨lv,lv,lv,trivial⟩)
  refine AP (b:=j7) kr (fun hb8=>?_) (fun hb8=>?_)
  ·rw [if_pos hb8] at h
   refine AG ?_;refine AL (s1:=⟨Fr 47 [(4,.v (.int .i64 4))],[]⟩) ?_ ?_
   ·refine AD (n:=47) AC 1 [(4,.v (.int .i64 4))] [some ⟨5,60,[AA.enc x1],false⟩] kr ?_
    exact AI rfl (Ae [] trivial ⟨lv,trivial⟩)
   refine AN ?_;have hq:=OI h; subst hq;exact ⟨⟨Fr 47 [(4,.v (.int .i64 4))],[]⟩,AJ,.inr rfl,[.v (.int .i64 4)],kr,kr⟩
  ·rw [BY hb8] at h
   refine AT ?_;refine AG ?_;refine AG ?_;refine AL (s1:=⟨Fr 47 [(0,.sl 5 (x0.map AA.enc)),(3,.pt 0 0 0),(25,.sl 1 (x1.2.2.2.1.map cdS.enc)),(26,.v (.int .i64 (x1.2.2.2.1.length:Int))),(27,.v (.int .i64 0))],[some ⟨5,60,[AA.enc x1],false⟩]⟩) ?_ ?_
   ·refine AD (n:=47) AC 2 [(0,.sl 5 (x0.map AA.enc)),(3,.pt 0 0 0),(25,.sl 1 (x1.2.2.2.1.map cdS.enc))] [some ⟨5,60,[AA.enc x1],false⟩] kr ?_
    refine AS AC 0 rfl (DH (AB rfl) rfl (CX (a:= .sl 1 (x1.2.2.2.1.map cdS.enc)) kr (BS (el:=9) kr))) ?_;exact AX AC
   refine AZ ?_;obtain ⟨r16,hr16,h⟩:=OB h;refine Bj (n:=100000) ?_;rcases r16 with w17 | w23
   ·try dsimp only at h
    refine Ao (Ab (s1:=⟨Fr 47 [(0,.sl 5 (x0.map AA.enc)),(3,.pt 0 0 0),(25,.sl 1 (x1.2.2.2.1.map cdS.enc)),(26,.v (.int .i64 (x1.2.2.2.1.length:Int))),(27,.v (.int .i64 0))],[some ⟨5,60,[AA.enc x1],false⟩]⟩) (Ae [0] ⟨⟨_,rfl,Gy⟩,trivial⟩ ⟨lv,lv,lv,lv,lv,trivial⟩) (NX x0 x1 _ 0 _ hr16)) ?_;refine AG ?_;refine AG ?_;obtain ⟨j20,hj20,h⟩:=OB h;refine AL (s1:=⟨Fr 47 [(46,.v (.bool j20))],[]⟩) ?_ ?_
    ·refine AD (n:=47) AC 4 [(0,.sl 5 (x0.map AA.enc)),(3,.pt 0 0 0),(42,.v (.bool (x1.2.1==[])))] [some ⟨5,60,[AA.enc x1],false⟩] kr ?_
     rcases BE (x1.2.1==[]) with hc22 | hc22
     ·rw [if_pos hc22] at hj20
      rw [hc22];refine AD (n:=47) AC 4 [(46,.v (.bool true))] [some ⟨5,60,[AA.enc x1],false⟩] kr ?_;have hq:=OI hj20; subst hq;exact AI rfl (Ae [] trivial ⟨lv,trivial⟩)
     ·rw [BY hc22] at hj20
      rw [hc22];refine AD (n:=47) AC 2 [(42,.v (.bool false)),(43,.sl 5 (x0.map AA.enc)),(44,.fn 161 [] [.pt 0 0 0])] [some ⟨5,60,[AA.enc x1],false⟩] kr ?_;obtain ⟨v18,hv18,hj20⟩:=OB hj20;refine AR (caps:=[]) (xs:=[.sl 5 (x0.map AA.enc),.fn 161 [] [.pt 0 0 0]]) (u:=(x0,x1,())) rfl rfl FD rfl kr kr kr (AM (AU (c:=(cdL 5 AA)) (v:=x0)) (AM (Sm.fn (Vl (Sm.pt (k:=5) (t:=60) (fz:=false) (y:=(AA.enc x1)) kr (AU (c:=AA) (v:=x1))))) Af)) (.inl kr) hv18 ?_;refine AD (n:=47) AC 1 [(46,.v (.bool v18))] [some ⟨5,60,[AA.enc x1],false⟩] kr ?_;have hq:=OI hj20; subst hq;exact AI rfl (Ae [] trivial ⟨lv,trivial⟩)
    refine AP (b:=j20) kr (fun hb21=>?_) (fun hb21=>?_)
    ·rw [if_pos hb21] at h
     refine AK AC [(4,.v (.int .i64 0))] [] ?_;refine AN ?_;have hq:=OI h; subst hq;exact ⟨⟨Fr 47 [(4,.v (.int .i64 0))],[]⟩,AJ,.inr rfl,[.v (.int .i64 0)],kr,kr⟩
    ·rw [BY hb21] at h
     refine AT ?_;refine AK AC [(4,.v (.int .i64 31))] [] ?_;refine AN ?_;have hq:=OI h; subst hq;exact ⟨⟨Fr 47 [(4,.v (.int .i64 31))],[]⟩,AJ,.inr rfl,[.v (.int .i64 31)],kr,kr⟩
   ·try dsimp only at h
    refine Ao (Ab (s1:=⟨Fr 47 [(0,.sl 5 (x0.map AA.enc)),(3,.pt 0 0 0),(25,.sl 1 (x1.2.2.2.1.map cdS.enc)),(26,.v (.int .i64 (x1.2.2.2.1.length:Int))),(27,.v (.int .i64 0))],[some ⟨5,60,[AA.enc x1],false⟩]⟩) (Ae [0] ⟨⟨_,rfl,Gy⟩,trivial⟩ ⟨lv,lv,lv,lv,lv,trivial⟩) (NX x0 x1 _ 0 _ hr16)) ?_;have hq:=OI h; subst hq;exact ⟨⟨Fr 47 [(4,.v (.int .i64 w23))],[]⟩,AJ,.inr rfl,[.v (.int .i64 w23)],kr,kr⟩
def WN:List AV->Option AV:=Dk M2 (fun a=>Im a.1 a.2.1) NC
theorem Wf:XOk 128 WN:=by
 refine AQ Tryz.func128 (c:=Mw) ?h2 ⟨Tryz.call128⟩ M2 (fun a=>Im a.1 a.2.1) NC (fun a=>(by show 2<=47; decide)) ?h3 ?h4
 case h2=>kernel_rfl
 case h3=>intro b; kernel_rfl
 case h4=>exact fun a b h=>Te a.1 a.2.1 b h
/- trestle/court.Check -/
noncomputable def Mv:Code:=A3 Tryz.f80
def Fu (x0:(List AF)):Nat->Int->Option ((Unit) ⊕ (Int×Int))
 | 0,_=>none
 | f + 1,c2 =>
  if (decide (c2 < (x0.length:Int)))=true then
  (idx x0 c2).bind fun v4 =>
  if (MW 0 c2 x0.length)=true then
  (Im ((x0.take c2.toNat).drop (0:Int).toNat) v4).bind fun v6 =>
  if (v6 != 0)=true then
  some (.inr (c2,v6))
  else
  Fu x0 f (wr .i64 (c2 + 1))
  else none
  else
  some (.inl ())
def Il (x0:(List AF)):Option (Int×Int) :=
 if (decide ((x0.length:Int) > 32))=true then
 some (0,7)
 else
 (Fu x0 100000 0).bind fun r10 =>
 match r10 with
 | (.inl _w11) =>
  some (0,0)
 | (.inr w12) =>
  some (w12.1,w12.2)
def M1:Cs ((List AF)×Unit):=(csC (cdL 5 AA) csN)
def NB (r:Int×Int):AV:= .tp [cdI.enc r.1,cdI.enc r.2]
theorem NW (x0:(List AF)):∀ (f:Nat) (c2:Int) (r:(Unit) ⊕ (Int×Int)),Fu x0 f c2=some r->SemN E0 ⟨none,false⟩ (pc Mv [1,1,0,1,0,0]) f ⟨Fr 27 [(0,.sl 5 (x0.map AA.enc)),(10,.sl 5 (x0.map AA.enc)),(11,.v (.int .i64 (x0.length:Int))),(12,.v (.int .i64 c2))],[]⟩ (fun e s=>match r with
 | (.inl _w)=>e=(.exit 0)/\Wk E0 s ⟨Fr 27 [],[]⟩
 | (.inr w)=>e = .ret/\Wk E0 s ⟨Fr 27 [(2,.v (.int .i64 w.1)),(3,.v (.int .i64 w.2))],[]⟩):=by
 intro f;induction f with
 | zero=>intro c2 r h; cases h
 | succ f ih0 =>
  intro c2 r h
  have ih:=fun (c2:Int)=>ih0 c2 r
  unfold Fu at h;refine BR ?_
  let p1:Nat×AV:=(12,.v (.int .i64 c2))
  let p2:Nat×AV:=(11,.v (.int .i64 (x0.length:Int)))
  let p3:Nat×AV:=(10,.sl 5 (x0.map AA.enc))
  let p4:Nat×AV:=(0,.sl 5 (x0.map AA.enc))
  refine AK AC [p4,p3,p2,p1,(13,.v (.bool (decide (c2 < (x0.length:Int)))))] [] ?_;refine AG ?_;refine AP (b:=(decide (c2 < (x0.length:Int)))) kr (fun hb3=>?_) (fun hb3=>?_)
  ·rw [if_pos hb3] at h
   refine AT ?_;refine AG ?_;refine AZ ?_;refine AG ?_;obtain ⟨v4,hv4,h⟩:=OB h
   let p5:Option Blk:=some ⟨5,60,[AA.enc v4],false⟩
   let p6:Nat×AV:=(4,.v (.int .i64 c2))
   refine AL (s1:=⟨Fr 27 [p4,p6,(5,.pt 0 0 0),p3,p2,p1],[p5]⟩) ?_ ?_
   ·refine AD (n:=27) AC 1 [p4,p3,p2,p1,(14,.v (.int .i64 c2))] [] kr ?_
    refine AS AC 0 rfl (DH (AB rfl) rfl (AW (a:= .sl 5 (x0.map AA.enc)) (b:= .v (.int .i64 c2)) kr kr (DK (e:=AA.enc) (el:=60) (k:=5) (ki:= .i64) kr kr hv4))) ?_;exact AX AC
   refine AG ?_;by_cases hk5:(MW 0 c2 x0.length)=true
   case neg=>rw [if_neg hk5] at h; cases h
   rw [if_pos hk5] at h;obtain ⟨v6,hv6,h⟩:=OB h
   let p7:Nat×AV:=(6,.v (.int .i64 v6))
   refine DI AC (s1:=⟨Fr 27 [p4,p6,p7,p3,p2,p1],[]⟩) kr ?_ ?_
   ·refine AY (n:=27) AC 2 [p4,p6,(5,.pt 0 0 0),p3,p2,p1,(17,.sl 5 (x0.map AA.enc)),(18,.v (.int .i64 c2))] [p5] kr kr ?_
    refine RunDS.one AC rfl kr (Hd kr (AB rfl) rfl (R9 (a:= .sl 5 (x0.map AA.enc)) (l:=none) (u:=(some (.v (.int .i64 c2)))) (m:=none) kr kr kr rfl (TT (xs:=x0) (e:=AA.enc) (k:=5) (el:=60) (lo:=0) (hi:=c2) kr kr rfl (XF (Zp hk5)) hk5)) kr) ?_;refine AY (n:=27) AC 1 [p4,p6,p3,p2,p1,(19,.sl 5 (((x0.take c2.toNat).drop (0:Int).toNat).map AA.enc)),(20,AA.enc v4)] [p5] kr kr ?_;refine Bg (caps:=[]) (xs:=[.sl 5 (((x0.take c2.toNat).drop (0:Int).toNat).map AA.enc),AA.enc v4]) (u:=(((x0.take c2.toNat).drop (0:Int).toNat),v4,())) rfl rfl Wf rfl (AB rfl) kr kr (AM (AU (c:=(cdL 5 AA)) (v:=((x0.take c2.toNat).drop (0:Int).toNat))) (AM (AU (c:=AA) (v:=v4)) Af)) kr hv6 ?_;refine AY (n:=27) AC 1 [p4,p6,p7,p3,p2,p1] [p5] kr kr ?_;exact RunDS.done rfl (Ae [] trivial ⟨lv,lv,lv,lv,lv,lv,trivial⟩)
   refine AK AC [p4,p6,p7,p3,p2,p1,(23,.v (.bool (v6 != 0)))] [] ?_;refine AP (b:=(v6 != 0)) kr (fun hb7=>?_) (fun hb7=>?_)
   ·rw [if_pos hb7] at h
    refine AK AC [(2,.v (.int .i64 c2)),(3,.v (.int .i64 v6))] [] ?_;refine AN ?_;have hq:=OI h; subst hq;exact ⟨rfl,AJ⟩
   ·rw [BY hb7] at h
    refine AT ?_
    let p8:Nat×AV:=(12,.v (.int .i64 (wr .i64 (c2 + 1))))
    refine Ci AC [p4,p3,p2,p8] [] ?_;exact Ab (s1:=⟨Fr 27 [p4,p3,p2,p8],[]⟩) AJ (ih (wr .i64 (c2 + 1)) h)
  ·rw [BY hb3] at h
   refine Bi ?_;have hq:=OI h; subst hq;exact ⟨rfl,AJ⟩
theorem Td (x0:(List AF)) (r:Int×Int) (h:Il x0=some r):Sem E0 ⟨none,false⟩ Mv ⟨Fr 27 (Av 0 (M1.enc (x0,()))),[]⟩ fun e s'=>(e = .normal\/e = .ret)/\∃ xs,D6 E0.P s'.fr s'.hp Tryz.f80.results.toList=some xs/\EA xs=NB r:=by
 unfold Il at h
 let p1:Nat×AV:=(0,.sl 5 (x0.map AA.enc))
 refine Aj (A8 (s1:=⟨Fr 27 [p1],[]⟩) AJ ?_);refine AK AC [p1] [] ?_;refine AG ?_;refine AG ?_;refine AL (s1:=⟨Fr 27 [p1,(9,.v (.bool (decide ((x0.length:Int) > 32))))],[]⟩) ?_ ?_
 ·refine AD (n:=27) AC 1 [p1,(7,.sl 5 (x0.map AA.enc))] [] kr ?_
  refine AS AC 0 rfl (DH (AB rfl) rfl (CX (a:= .sl 5 (x0.map AA.enc)) kr (BS (el:=60) kr))) ?_;exact AX AC
 refine AP (b:=(decide ((x0.length:Int) > 32))) kr (fun hb1=>?_) (fun hb1=>?_)
 ·rw [if_pos hb1] at h
  refine AK AC [(2,.v (.int .i64 0)),(3,.v (.int .i64 7))] [] ?_;refine AN ?_;have hq:=OI h; subst hq;exact ⟨⟨Fr 27 [(2,.v (.int .i64 0)),(3,.v (.int .i64 7))],[]⟩,AJ,.inr rfl,[.v (.int .i64 0),.v (.int .i64 7)],kr,kr⟩
 ·rw [BY hb1] at h
  refine AT ?_;refine AG ?_;refine AG ?_
  let p2:Nat×AV:=(12,.v (.int .i64 0))
  let p3:Nat×AV:=(11,.v (.int .i64 (x0.length:Int)))
  let p4:Nat×AV:=(10,.sl 5 (x0.map AA.enc))
  refine AL (s1:=⟨Fr 27 [p1,p4,p3,p2],[]⟩) ?_ ?_
  ·refine AD (n:=27) AC 1 [p1,p4] [] kr ?_
   refine AS AC 0 rfl (DH (AB rfl) rfl (CX (a:= .sl 5 (x0.map AA.enc)) kr (BS (el:=60) kr))) ?_;exact AX AC
  refine AZ ?_;obtain ⟨r10,hr10,h⟩:=OB h;refine Bj (n:=100000) ?_;rcases r10 with w11 | w12
  ·try dsimp only at h
   refine Ao (Ab (s1:=⟨Fr 27 [p1,p4,p3,p2],[]⟩) AJ (NW x0 _ 0 _ hr10)) ?_;refine AK AC [(2,.v (.int .i64 0)),(3,.v (.int .i64 0))] [] ?_;refine AN ?_;have hq:=OI h; subst hq;exact ⟨⟨Fr 27 [(2,.v (.int .i64 0)),(3,.v (.int .i64 0))],[]⟩,AJ,.inr rfl,[.v (.int .i64 0),.v (.int .i64 0)],kr,kr⟩
  ·try dsimp only at h
   refine Ao (Ab (s1:=⟨Fr 27 [p1,p4,p3,p2],[]⟩) AJ (NW x0 _ 0 _ hr10)) ?_;have hq:=OI h; subst hq;exact ⟨⟨Fr 27 [(2,.v (.int .i64 w12.1)),(3,.v (.int .i64 w12.2))],[]⟩,AJ,.inr rfl,[.v (.int .i64 w12.1),.v (.int .i64 w12.2)],kr,kr⟩
def WK:List AV->Option AV:=Dk M1 (fun a=>Il a.1) NB
theorem We:XOk 80 WK:=by
 refine AQ Tryz.func80 (c:=Mv) ?h2 ⟨Tryz.call80⟩ M1 (fun a=>Il a.1) NB (fun a=>(by show 1<=27; decide)) ?h3 ?h4
 case h2=>kernel_rfl
 case h3=>intro b; kernel_rfl
 case h4=>exact fun a b h=>Td a.1 b h
/- trestle/court.orders -/
noncomputable def Lz:Code:=A3 Tryz.f75
def FF (x0:(List AF)):Nat->(List AF)->Int->Option (((List AF)))
 | 0,_,_=>none
 | f + 1,c3,c4 =>
  if (decide (c4 < (x0.length:Int)))=true then
  (idx x0 c4).bind fun v6 =>
  (HT v6).bind fun v7 =>
  if (Gd 8 (c3.length + 1))=true then
  FF x0 f (c3++[v7]) (wr .i64 (c4 + 1))
  else none
  else
  some c3
def Hv (x0:(List AF)):Option ((List AF)×Bool) :=
 (Il x0).bind fun v1 =>
 if (v1.2 != 0)=true then
 some ([],false)
 else
 (FF x0 100000 [] 0).bind fun r10 =>
 some (r10,true)
noncomputable def JQ:Cs ((List AF)×Unit):=(csC (cdL 5 AA) csN)
noncomputable def MF (r:(List AF)×Bool):AV:= .tp [(cdL 1 ER).enc r.1,cdB.enc r.2]
theorem Q3 (x0:(List AF)):∀ (f:Nat) (c3:(List AF)) (c4:Int) (r:((List AF))),FF x0 f c3 c4=some r->SemN E0 ⟨none,false⟩ (pc Lz [1,1,1,0,1,0,0]) f ⟨Fr 29 [(6,hd 0 (c3.map ER.enc)),(16,.sl 5 (x0.map AA.enc)),(17,.v (.int .i64 (x0.length:Int))),(18,.v (.int .i64 c4))],[mk 1 117 (c3.map ER.enc)]⟩ (fun e s=>e=(.exit 0)/\Wk E0 s ⟨Fr 29 [(6,hd 0 (r.map ER.enc))],[mk 1 117 (r.map ER.enc)]⟩):=by
 intro f;induction f with
 | zero=>intro c3 c4 r h; cases h
 | succ f ih0 =>
  intro c3 c4 r h
  have ih:=fun (c3:(List AF)) (c4:Int)=>ih0 c3 c4 r
  unfold FF at h;refine BR ?_
  let p1:Option Blk:=mk 1 117 (c3.map ER.enc)
  let p2:Nat×AV:=(18,.v (.int .i64 c4))
  let p3:Nat×AV:=(17,.v (.int .i64 (x0.length:Int)))
  let p4:Nat×AV:=(16,.sl 5 (x0.map AA.enc))
  refine AK AC [(6,hd 0 (c3.map ER.enc)),p4,p3,p2,(19,.v (.bool (decide (c4 < (x0.length:Int)))))] [p1] ?_;refine AG ?_;refine AP (b:=(decide (c4 < (x0.length:Int)))) kr (fun hb5=>?_) (fun hb5=>?_)
  ·rw [if_pos hb5] at h
   refine AT ?_;refine AG ?_;refine AZ ?_;refine AG ?_;obtain ⟨v6,hv6,h⟩:=OB h
   let p5:Option Blk:=some ⟨5,60,[AA.enc v6],false⟩
   refine AL (s1:=⟨Fr 29 [(6,hd 0 (c3.map ER.enc)),(8,.pt 1 0 0),p4,p3,p2],[p1,p5]⟩) ?_ ?_
   ·refine AS AC 0 rfl (DH (AB rfl) rfl (AW (a:= .sl 5 (x0.map AA.enc)) (b:= .v (.int .i64 c4)) kr kr (DK (e:=AA.enc) (el:=60) (k:=5) (ki:= .i64) kr kr hv6))) ?_
    exact AX AC
   obtain ⟨v7,hv7,h⟩:=OB h;by_cases hk8:(Gd 8 (c3.length + 1))=true
   case neg=>rw [if_neg hk8] at h; cases h
   rw [if_pos hk8] at h
   let p6:Option Blk:=mk 1 117 ((c3++[v7]).map ER.enc)
   let p7:Nat×AV:=(6,hd 0 ((c3++[v7]).map ER.enc))
   refine AL (s1:=⟨Fr 29 [p7,p4,p3,p2],[p6]⟩) ?_ ?_
   ·refine AD (n:=29) AC 2 [p4,p3,p2,(22,hd 0 (c3.map ER.enc)),(23,AA.enc v6)] [p1,p5] kr ?_
    refine AR (caps:=[]) (xs:=[AA.enc v6]) (u:=(v6,())) rfl rfl Uh rfl (AB rfl) kr kr (AM (AU (c:=AA) (v:=v6)) Af) (.inr kr) hv7 ?_;refine AD (n:=29) AC 1 [p4,p3,p2,(22,hd 0 (c3.map ER.enc)),(25,hd 2 ([v7].map ER.enc))] [p1,p5,mk 1 117 ([v7].map ER.enc)] kr ?_;refine AS AC 0 rfl (Xg (AB rfl) rfl kr kr (Eb (a:=hd 0 (c3.map ER.enc)) (b:=hd 2 ([v7].map ER.enc)) kr kr (MZ (c:=ER) (xs:=c3) (vs:=[v7]) (k:=1) (bytes:=8) (el:=117) kr kr (G5 (t:=117) kr) (List.cons_ne_nil _ _) kr hk8))) ?_;refine AD (n:=29) AC 1 [(6,hd 3 ((c3++[v7]).map ER.enc)),p4,p3,p2] [none,p5,mk 1 117 ([v7].map ER.enc),p6] kr ?_;exact AI rfl (Ae [3] ⟨⟨_,rfl,IX⟩,trivial⟩ ⟨Id (b':=3) kr kr,lv,lv,lv,trivial⟩)
   let p8:Nat×AV:=(18,.v (.int .i64 (wr .i64 (c4 + 1))))
   refine Ci AC [p7,p4,p3,p8] [p6] ?_;exact Ab (s1:=⟨Fr 29 [p7,p4,p3,p8],[p6]⟩) (Ae [0] ⟨⟨_,rfl,IX⟩,trivial⟩ ⟨Id (b':=0) kr kr,lv,lv,lv,trivial⟩) (ih (c3++[v7]) (wr .i64 (c4 + 1)) h)
  ·rw [BY hb5] at h
   refine Bi ?_;have hq:=OI h; subst hq;exact ⟨rfl,(Ae [0] ⟨⟨_,rfl,IX⟩,trivial⟩ ⟨Id (b':=0) kr kr,trivial⟩)⟩
theorem Sp (x0:(List AF)) (r:(List AF)×Bool) (h:Hv x0=some r):Sem E0 ⟨none,false⟩ Lz ⟨Fr 29 (Av 0 (JQ.enc (x0,()))),[]⟩ fun e s'=>(e = .normal\/e = .ret)/\∃ xs,D6 E0.P s'.fr s'.hp Tryz.f75.results.toList=some xs/\EA xs=MF r:=by
 unfold Hv at h
 let p1:Nat×AV:=(0,.sl 5 (x0.map AA.enc))
 refine Aj (A8 (s1:=⟨Fr 29 [p1],[]⟩) AJ ?_);refine AK AC [p1] [] ?_;refine AG ?_;refine AG ?_;obtain ⟨v1,hv1,h⟩:=OB h;refine AL (s1:=⟨Fr 29 [p1,(5,.v (.int .i64 v1.2))],[]⟩) ?_ ?_
 ·refine AD (n:=29) AC 1 [p1,(10,.sl 5 (x0.map AA.enc))] [] kr ?_
  refine AR (caps:=[]) (xs:=[.sl 5 (x0.map AA.enc)]) (u:=(x0,())) rfl rfl We rfl (AB rfl) kr kr (AM (AU (c:=(cdL 5 AA)) (v:=x0)) Af) (.inl kr) hv1 ?_;exact AX AC
 refine AK AC [p1,(15,.v (.bool (v1.2 != 0)))] [] ?_;refine AP (b:=(v1.2 != 0)) kr (fun hb2=>?_) (fun hb2=>?_)
 ·rw [if_pos hb2] at h
  let p2:Nat×AV:=(3,.v (.bool false))
  refine AK AC [(2,.e0),p2] [] ?_;refine AN ?_;have hq:=OI h; subst hq;exact ⟨⟨Fr 29 [(2,.sl 1 ([].map ER.enc)),p2],[]⟩,(Wk.trans (s1:=⟨Fr 29 [(2,.e0),p2],[]⟩) AJ (Wk.trans (s1:=⟨Fr 29 [(2,.e0),p2],[none]⟩) Wk.none (Wk.trans (s1:=⟨Fr 29 [(2,.sl 1 ([].map ER.enc)),p2],[none]⟩) (Kg 0 (.inr kr) ⟨.inl rfl,trivial⟩ ⟨⟨.e0,kr,ABR⟩,⟨.v (.bool false),kr,.inl rfl⟩,trivial⟩) (Ae [] trivial ⟨lv,lv,trivial⟩)))),.inr rfl,[.sl 1 ([].map ER.enc),.v (.bool false)],kr,kr⟩
 ·rw [BY hb2] at h
  refine AT ?_;refine AK AC [p1,(6,.e0)] [] ?_;refine AG ?_;refine AG ?_
  let p3:Nat×AV:=(18,.v (.int .i64 0))
  let p4:Nat×AV:=(17,.v (.int .i64 (x0.length:Int)))
  let p5:Nat×AV:=(16,.sl 5 (x0.map AA.enc))
  refine AL (s1:=⟨Fr 29 [(6,.e0),p5,p4,p3],[]⟩) ?_ ?_
  ·refine AD (n:=29) AC 1 [(6,.e0),p5] [] kr ?_
   refine AS AC 0 rfl (DH (AB rfl) rfl (CX (a:= .sl 5 (x0.map AA.enc)) kr (BS (el:=60) kr))) ?_;exact AX AC
  refine AZ ?_;obtain ⟨r10,hr10,h⟩:=OB h;refine Bj (n:=100000) ?_;refine Ao (Ab (s1:=⟨Fr 29 [(6,hd 0 ([].map ER.enc)),p5,p4,p3],[mk 1 117 ([].map ER.enc)]⟩) (Wk.trans (s1:=⟨Fr 29 [(6,hd 0 ([].map ER.enc)),p5,p4,p3],[mk 1 117 ([].map ER.enc)]⟩) Wk.none (Ae [0] ⟨⟨_,rfl,O0⟩,trivial⟩ ⟨lv,lv,lv,lv,trivial⟩)) (Q3 x0 _ [] 0 _ hr10)) ?_
  let p6:Nat×AV:=(3,.v (.bool true))
  refine AK AC [(2,hd 0 (r10.map ER.enc)),p6] [mk 1 117 (r10.map ER.enc)] ?_;refine AN ?_;have hq:=OI h; subst hq;exact ⟨⟨Fr 29 [(2,.sl 1 (r10.map ER.enc)),p6],[]⟩,(Wk.trans (s1:=⟨Fr 29 [(2,.sl 1 (r10.map ER.enc)),p6],[none]⟩) (Kg 0 (.inl kr) ⟨.inl rfl,trivial⟩ ⟨⟨hd 0 (r10.map ER.enc),kr,W6 (t:=117) kr Of⟩,⟨.v (.bool true),kr,.inl rfl⟩,trivial⟩) (Ae [] trivial ⟨lv,lv,trivial⟩)),.inr rfl,[.sl 1 (r10.map ER.enc),.v (.bool true)],kr,kr⟩
noncomputable def VB:List AV->Option AV:=Dk JQ (fun a=>Hv a.1) MF
theorem VK:XOk 75 VB:=by
 refine AQ Tryz.func75 (c:=Lz) ?h2 ⟨Tryz.call75⟩ JQ (fun a=>Hv a.1) MF (fun a=>(by show 1<=29; decide)) ?h3 ?h4
 case h2=>kernel_rfl
 case h3=>intro b; kernel_rfl
 case h4=>exact fun a b h=>Sp a.1 b h
/- trestle/court.orderOf$1 -/
noncomputable def Mc:Code:=A3 Tryz.f165
def Co {β:Type}(G:A6->A6->β->Option Int) (x0:A6) (x1:A6) (x2:AF) (x3:β):Option (Int) :=
 (if (!(x2.2.1==[]))=true then if (!(x0.1.2.1==x2.2.1))=true then some true else some (!(x1.1.2.1==x2.2.1)) else some false).bind fun j2 =>
 if j2=true then
 some 0
 else
 (G x0 x1 x3).bind fun v4 =>
 some v4
def JP {β:Type}(fid:FuncId) (sx:Cs β) (hn:∀ x,(sx.enc x).all I7=true):Cs (A6×A6×AF×β×Unit):=(csC AH (csC AH (csC (cdP AA) (csC (cdP (cdF fid sx hn)) csN))))
def JV (r:Int):AV:=cdI.enc r
theorem QP {β:Type}{fid:FuncId}{sx:Cs β}{hn:∀ x,(sx.enc x).all I7=true}{G:A6->A6->β->Option Int}(hX:XOk fid (Dk (csC AH (csC AH sx)) (fun a=>G a.1 a.2.1 a.2.2) cdI.enc)) (x0:A6) (x1:A6) (x2:AF) (x3:β) (r:Int) (h:Co G x0 x1 x2 x3=some r):Sem E0 ⟨none,false⟩ Mc ⟨Fr 30 (Av 0 ((JP fid sx hn).enc (x0,x1,x2,x3,()))),[]⟩ fun e s'=>(e = .normal\/e = .ret)/\∃ xs,D6 E0.P s'.fr s'.hp Tryz.f165.results.toList=some xs/\EA xs=JV r:=by
 unfold Co at h
 refine Aj (A8 (s1:=⟨Fr 30 [(0,AH.enc x0),(1,AH.enc x1),(2,.pe (AA.enc x2) 0),(3,.pe (.fn fid [] (sx.enc x3)) 0)],[]⟩) AJ ?_)
 refine AK AC [(2,.pe (AA.enc x2) 0),(3,.pe (.fn fid [] (sx.enc x3)) 0),(4,.pt 0 0 0),(5,.pt 1 0 0)] [some ⟨10,115,[AH.enc x0],false⟩,some ⟨10,115,[AH.enc x1],false⟩] ?_
 refine AG ?_
 refine AG ?_
 obtain ⟨j2,hj2,h⟩:=OB h
 refine AL (s1:=⟨Fr 30 [(3,.pe (.fn fid [] (sx.enc x3)) 0),(4,.pt 0 0 0),(5,.pt 1 0 0),(25,.v (.bool j2))],[some ⟨10,115,[AH.enc x0],false⟩,some ⟨10,115,[AH.enc x1],false⟩]⟩) ?_ ?_
 ·refine AD (n:=30) AC 4 [(2,.pe (AA.enc x2) 0),(3,.pe (.fn fid [] (sx.enc x3)) 0),(4,.pt 0 0 0),(5,.pt 1 0 0),(10,.v (.bool (!(x2.2.1==[]))))] [some ⟨10,115,[AH.enc x0],false⟩,some ⟨10,115,[AH.enc x1],false⟩] kr ?_
  rcases BE (!(x2.2.1==[])) with hc5 | hc5
  ·rw [if_pos hc5] at hj2
   rw [hc5]
   refine AD (n:=30) AC 7 [(2,.pe (AA.enc x2) 0),(3,.pe (.fn fid [] (sx.enc x3)) 0),(4,.pt 0 0 0),(5,.pt 1 0 0),(10,.v (.bool true)),(17,.v (.bool (!(x0.1.2.1==x2.2.1))))] [some ⟨10,115,[AH.enc x0],false⟩,some ⟨10,115,[AH.enc x1],false⟩] kr ?_
   rcases BE (!(x0.1.2.1==x2.2.1)) with hc6 | hc6
   ·rw [if_pos hc6] at hj2
    rw [hc6]
    refine AD (n:=30) AC 8 [(3,.pe (.fn fid [] (sx.enc x3)) 0),(4,.pt 0 0 0),(5,.pt 1 0 0),(25,.v (.bool true))] [some ⟨10,115,[AH.enc x0],false⟩,some ⟨10,115,[AH.enc x1],false⟩] kr ?_
    have hq:=OI hj2; subst hq
    exact AI rfl (Ae [0,1] ⟨⟨_,rfl,Gy⟩,⟨_,rfl,Gy⟩,trivial⟩ ⟨lv,lv,lv,lv,trivial⟩)
   ·rw [BY hc6] at hj2
    rw [hc6]
    refine AD (n:=30) AC 8 [(3,.pe (.fn fid [] (sx.enc x3)) 0),(4,.pt 0 0 0),(5,.pt 1 0 0),(25,.v (.bool (!(x1.1.2.1==x2.2.1))))] [some ⟨10,115,[AH.enc x0],false⟩,some ⟨10,115,[AH.enc x1],false⟩] kr ?_
    have hq:=OI hj2; subst hq
    exact AI rfl (Ae [0,1] ⟨⟨_,rfl,Gy⟩,⟨_,rfl,Gy⟩,trivial⟩ ⟨lv,lv,lv,lv,trivial⟩)
  ·rw [BY hc5] at hj2
   rw [hc5]
   refine AD (n:=30) AC 15 [(3,.pe (.fn fid [] (sx.enc x3)) 0),(4,.pt 0 0 0),(5,.pt 1 0 0),(25,.v (.bool false))] [some ⟨10,115,[AH.enc x0],false⟩,some ⟨10,115,[AH.enc x1],false⟩] kr ?_
   have hq:=OI hj2; subst hq
   exact AI rfl (Ae [0,1] ⟨⟨_,rfl,Gy⟩,⟨_,rfl,Gy⟩,trivial⟩ ⟨lv,lv,lv,lv,trivial⟩)
 refine AP (b:=j2) kr (fun hb3=>?_) (fun hb3=>?_)
 ·rw [if_pos hb3] at h
  refine AG ?_
  refine AL (s1:=⟨Fr 30 [(6,.v (.int .i64 0))],[]⟩) ?_ ?_
  ·refine AD (n:=30) AC 1 [(6,.v (.int .i64 0))] [some ⟨10,115,[AH.enc x0],false⟩,some ⟨10,115,[AH.enc x1],false⟩] kr ?_
   exact AI rfl (Ae [] trivial ⟨lv,trivial⟩)
  refine AN ?_
  have hq:=OI h; subst hq
  exact ⟨⟨Fr 30 [(6,.v (.int .i64 0))],[]⟩,AJ,.inr rfl,[.v (.int .i64 0)],kr,kr⟩
 ·rw [BY hb3] at h
  refine AT ?_
  refine AG ?_
  obtain ⟨v4,hv4,h⟩:=OB h
  refine AL (s1:=⟨Fr 30 [(6,.v (.int .i64 v4))],[]⟩) ?_ ?_
  ·refine AD (n:=30) AC 3 [(26,.fn fid [] (sx.enc x3)),(27,AH.enc x0),(28,AH.enc x1)] [some ⟨10,115,[AH.enc x0],false⟩,some ⟨10,115,[AH.enc x1],false⟩] kr ?_
   refine AR (caps:=sx.enc x3) (xs:=[AH.enc x0,AH.enc x1]) (u:=(x0,x1,x3)) rfl rfl hX rfl (AB rfl) kr kr (AM (AU (c:=AH) (v:=x0)) (AM (AU (c:=AH) (v:=x1)) (Vk (n:=10) (s:=sx) (a:=x3)))) (.inl kr) hv4 ?_
   refine AD (n:=30) AC 1 [(6,.v (.int .i64 v4))] [some ⟨10,115,[AH.enc x0],false⟩,some ⟨10,115,[AH.enc x1],false⟩] kr ?_
   exact AI rfl (Ae [] trivial ⟨lv,trivial⟩)
  refine AN ?_
  have hq:=OI h; subst hq
  exact ⟨⟨Fr 30 [(6,.v (.int .i64 v4))],[]⟩,AJ,.inr rfl,[.v (.int .i64 v4)],kr,kr⟩
def SP {β:Type}(fid:FuncId) (sx:Cs β) (hn:∀ x,(sx.enc x).all I7=true) (G:A6->A6->β->Option Int):List AV->Option AV:=Dk (JP fid sx hn) (fun a=>Co G a.1 a.2.1 a.2.2.1 a.2.2.2.1) JV
theorem DQ {β:Type}{fid:FuncId}{sx:Cs β}{hn:∀ x,(sx.enc x).all I7=true}{G:A6->A6->β->Option Int}(hX:XOk fid (Dk (csC AH (csC AH sx)) (fun a=>G a.1 a.2.1 a.2.2) cdI.enc)):XOk 165 (SP fid sx hn G):=by
 refine AQ Tryz.func165 (c:=Mc) ?h2 ⟨Tryz.call165⟩ (JP fid sx hn) (fun a=>Co G a.1 a.2.1 a.2.2.1 a.2.2.2.1) JV (fun a=>(by show 4<=30; decide)) ?h3 ?h4
 case h2=>kernel_rfl
 case h3=>intro b; kernel_rfl
 case h4=>exact fun a b h=>QP hX a.1 a.2.1 a.2.2.1 a.2.2.2.1 b h
/- cmp.isNaN[int] -/
noncomputable def OK:Code:=A3 Tryz.f137
def HN (x0:Int):Option (Bool) :=
 some (x0 != x0)
def Kl:Cs (Int×Unit):=(csC cdI csN)
def K8 (r:Bool):AV:=cdB.enc r
theorem RU (x0:Int) (r:Bool) (h:HN x0=some r):Sem E0 ⟨none,false⟩ OK ⟨Fr 6 (Av 0 (Kl.enc (x0,()))),[]⟩ fun e s'=>(e = .normal\/e = .ret)/\∃ xs,D6 E0.P s'.fr s'.hp Tryz.f137.results.toList=some xs/\EA xs=K8 r:=by
 unfold HN at h;refine Aj (A8 (s1:=⟨Fr 6 [(0,.v (.int .i64 x0))],[]⟩) AJ ?_);refine AK AC [(0,.v (.int .i64 x0))] [] ?_;refine AK AC [(2,.v (.bool (x0 != x0)))] [] ?_;refine AN ?_;have hq:=OI h; subst hq;exact ⟨⟨Fr 6 [(2,.v (.bool (x0 != x0)))],[]⟩,AJ,.inr rfl,[.v (.bool (x0 != x0))],kr,kr⟩
def UC:List AV->Option AV:=Dk Kl (fun a=>HN a.1) K8
theorem Pb:XOk 137 UC:=by
 refine AQ Tryz.func137 (c:=OK) ?h2 ⟨Tryz.call137⟩ Kl (fun a=>HN a.1) K8 (fun a=>(by show 1<=6; decide)) ?h3 ?h4
 case h2=>kernel_rfl
 case h3=>intro b; kernel_rfl
 case h4=>exact fun a b h=>RU a.1 b h
/- cmp.Compare[int] -/
noncomputable def Ma:Code:=A3 Tryz.f113
def C6 (x0:Int) (x1:Int):Option (Int) :=
 (HN x0).bind fun v1 =>
 (HN x1).bind fun v2 =>
 if v1=true then
 if v2=true then
 some 0
 else
 some (-1)
 else
 if v2=true then
 some 1
 else
 if (decide (x0 < x1))=true then
 some (-1)
 else
 if (decide (x0 > x1))=true then
 some 1
 else
 some 0
def JN:Cs (Int×Int×Unit):=(csC cdI (csC cdI csN))
def JU (r:Int):AV:=cdI.enc r
theorem QN (x0:Int) (x1:Int) (r:Int) (h:C6 x0 x1=some r):Sem E0 ⟨none,false⟩ Ma ⟨Fr 20 (Av 0 (JN.enc (x0,x1,()))),[]⟩ fun e s'=>(e = .normal\/e = .ret)/\∃ xs,D6 E0.P s'.fr s'.hp Tryz.f113.results.toList=some xs/\EA xs=JU r:=by
 unfold C6 at h
 let p1:Nat×AV:=(1,.v (.int .i64 x1))
 let p2:Nat×AV:=(0,.v (.int .i64 x0))
 refine Aj (A8 (s1:=⟨Fr 20 [p2,p1],[]⟩) AJ ?_);refine AK AC [p2,p1] [] ?_;refine AG ?_;obtain ⟨v1,hv1,h⟩:=OB h
 let p3:Nat×AV:=(5,.v (.bool v1))
 refine AL (s1:=⟨Fr 20 [p2,p1,p3],[]⟩) ?_ ?_
 ·refine AD (n:=20) AC 1 [p2,p1,(7,.v (.int .i64 x0))] [] kr ?_
  refine AR (caps:=[]) (xs:=[.v (.int .i64 x0)]) (u:=(x0,())) rfl rfl Pb rfl (AB rfl) kr kr (AM (AU (c:=cdI) (v:=x0)) Af) (.inl kr) hv1 ?_;exact AX AC
 refine AG ?_;obtain ⟨v2,hv2,h⟩:=OB h;refine AL (s1:=⟨Fr 20 [p2,p1,p3,(6,.v (.bool v2))],[]⟩) ?_ ?_
 ·refine AD (n:=20) AC 1 [p2,p1,p3,(9,.v (.int .i64 x1))] [] kr ?_
  refine AR (caps:=[]) (xs:=[.v (.int .i64 x1)]) (u:=(x1,())) rfl rfl Pb rfl (AB rfl) kr kr (AM (AU (c:=cdI) (v:=x1)) Af) (.inl kr) hv2 ?_;exact AX AC
 refine AG ?_;refine AK AC [p2,p1,(6,.v (.bool v2)),(11,.v (.bool v1))] [] ?_;refine AP (b:=v1) kr (fun hb3=>?_) (fun hb3=>?_)
 ·rw [if_pos hb3] at h
  refine AG ?_;refine AK AC [(12,.v (.bool v2))] [] ?_;refine AP (b:=v2) kr (fun hb4=>?_) (fun hb4=>?_)
  ·rw [if_pos hb4] at h
   refine AK AC [(4,.v (.int .i64 0))] [] ?_;refine AN ?_;have hq:=OI h; subst hq;exact ⟨⟨Fr 20 [(4,.v (.int .i64 0))],[]⟩,AJ,.inr rfl,[.v (.int .i64 0)],kr,kr⟩
  ·rw [BY hb4] at h
   refine AT ?_;refine AK AC [(4,.v (.int .i64 (-1)))] [] ?_;refine AN ?_;have hq:=OI h; subst hq;exact ⟨⟨Fr 20 [(4,.v (.int .i64 (-1)))],[]⟩,AJ,.inr rfl,[.v (.int .i64 (-1))],kr,kr⟩
 ·rw [BY hb3] at h
  refine AT ?_;refine AG ?_;refine AK AC [p2,p1,(13,.v (.bool v2))] [] ?_;refine AP (b:=v2) kr (fun hb5=>?_) (fun hb5=>?_)
  ·rw [if_pos hb5] at h
   refine AK AC [(4,.v (.int .i64 1))] [] ?_;refine AN ?_;have hq:=OI h; subst hq;exact ⟨⟨Fr 20 [(4,.v (.int .i64 1))],[]⟩,AJ,.inr rfl,[.v (.int .i64 1)],kr,kr⟩
  ·rw [BY hb5] at h
   refine AT ?_;refine AG ?_;refine AK AC [p2,p1,(16,.v (.bool (decide (x0 < x1))))] [] ?_;refine AP (b:=(decide (x0 < x1))) kr (fun hb6=>?_) (fun hb6=>?_)
   ·rw [if_pos hb6] at h
    refine AK AC [(4,.v (.int .i64 (-1)))] [] ?_;refine AN ?_;have hq:=OI h; subst hq;exact ⟨⟨Fr 20 [(4,.v (.int .i64 (-1)))],[]⟩,AJ,.inr rfl,[.v (.int .i64 (-1))],kr,kr⟩
   ·rw [BY hb6] at h
    refine AT ?_;refine AG ?_;refine AK AC [(19,.v (.bool (decide (x0 > x1))))] [] ?_;refine AP (b:=(decide (x0 > x1))) kr (fun hb7=>?_) (fun hb7=>?_)
    ·rw [if_pos hb7] at h
     refine AK AC [(4,.v (.int .i64 1))] [] ?_;refine AN ?_;have hq:=OI h; subst hq;exact ⟨⟨Fr 20 [(4,.v (.int .i64 1))],[]⟩,AJ,.inr rfl,[.v (.int .i64 1)],kr,kr⟩
    ·rw [BY hb7] at h
     refine AT ?_;refine AK AC [(4,.v (.int .i64 0))] [] ?_;refine AN ?_;have hq:=OI h; subst hq;exact ⟨⟨Fr 20 [(4,.v (.int .i64 0))],[]⟩,AJ,.inr rfl,[.v (.int .i64 0)],kr,kr⟩
def SM:List AV->Option AV:=Dk JN (fun a=>C6 a.1 a.2.1) JU
theorem HF:XOk 113 SM:=by
 refine AQ Tryz.func113 (c:=Ma) ?h2 ⟨Tryz.call113⟩ JN (fun a=>C6 a.1 a.2.1) JU (fun a=>(by show 2<=20; decide)) ?h3 ?h4
 case h2=>kernel_rfl
 case h3=>intro b; kernel_rfl
 case h4=>exact fun a b h=>QN a.1 a.2.1 b h
/- trestle/court.by$1 -/
noncomputable def Qw:Code:=A3 Tryz.f205
def DE {β:Type}(G:A6->β->Option Int) (x0:A6) (x1:A6) (x2:β):Option (Int) :=
 (G x0 x2).bind fun v1 =>
 (G x1 x2).bind fun v2 =>
 (C6 v1 v2).bind fun v3 =>
 some v3
def No {β:Type}(fid:FuncId) (sx:Cs β) (hn:∀ x,(sx.enc x).all I7=true):Cs (A6×A6×β×Unit):=(csC AH (csC AH (csC (cdP (cdF fid sx hn)) csN)))
def Nu (r:Int):AV:=cdI.enc r
theorem Uz {β:Type}{fid:FuncId}{sx:Cs β}{hn:∀ x,(sx.enc x).all I7=true}{G:A6->β->Option Int}(hX:XOk fid (Dk (csC AH sx) (fun a=>G a.1 a.2) cdI.enc)) (x0:A6) (x1:A6) (x2:β) (r:Int) (h:DE G x0 x1 x2=some r):Sem E0 ⟨none,false⟩ Qw ⟨Fr 13 (Av 0 ((No fid sx hn).enc (x0,x1,x2,()))),[]⟩ fun e s'=>(e = .normal\/e = .ret)/\∃ xs,D6 E0.P s'.fr s'.hp Tryz.f205.results.toList=some xs/\EA xs=Nu r:=by
 unfold DE at h
 refine Aj (A8 (s1:=⟨Fr 13 [(0,AH.enc x0),(1,AH.enc x1),(2,.pe (.fn fid [] (sx.enc x2)) 0)],[]⟩) AJ ?_)
 refine AK AC [(2,.pe (.fn fid [] (sx.enc x2)) 0),(3,.pt 0 0 0),(4,.pt 1 0 0)] [some ⟨10,115,[AH.enc x0],false⟩,some ⟨10,115,[AH.enc x1],false⟩] ?_
 refine AG ?_
 obtain ⟨v1,hv1,h⟩:=OB h
 obtain ⟨v2,hv2,h⟩:=OB h
 obtain ⟨v3,hv3,h⟩:=OB h
 refine DI AC (s1:=⟨Fr 13 [(5,.v (.int .i64 v3))],[]⟩) kr ?_ ?_
 ·refine AY (n:=13) AC 2 [(2,.pe (.fn fid [] (sx.enc x2)) 0),(4,.pt 1 0 0),(6,.fn fid [] (sx.enc x2)),(7,AH.enc x0)] [some ⟨10,115,[AH.enc x0],false⟩,some ⟨10,115,[AH.enc x1],false⟩] kr kr ?_
  refine Bg (caps:=sx.enc x2) (xs:=[AH.enc x0]) (u:=(x0,x2)) rfl rfl hX rfl (AB rfl) kr kr (AM (AU (c:=AH) (v:=x0)) (Vk (n:=10) (s:=sx) (a:=x2))) kr hv1 ?_
  refine AY (n:=13) AC 2 [(8,.v (.int .i64 v1)),(9,.fn fid [] (sx.enc x2)),(10,AH.enc x1)] [some ⟨10,115,[AH.enc x0],false⟩,some ⟨10,115,[AH.enc x1],false⟩] kr kr ?_
  refine Bg (caps:=sx.enc x2) (xs:=[AH.enc x1]) (u:=(x1,x2)) rfl rfl hX rfl (AB rfl) kr kr (AM (AU (c:=AH) (v:=x1)) (Vk (n:=10) (s:=sx) (a:=x2))) kr hv2 ?_
  refine Bg (caps:=[]) (xs:=[.v (.int .i64 v1),.v (.int .i64 v2)]) (u:=(v1,v2,())) rfl rfl HF rfl (AB rfl) kr kr (AM (AU (c:=cdI) (v:=v1)) (AM (AU (c:=cdI) (v:=v2)) Af)) kr hv3 ?_
  refine AY (n:=13) AC 1 [(5,.v (.int .i64 v3))] [some ⟨10,115,[AH.enc x0],false⟩,some ⟨10,115,[AH.enc x1],false⟩] kr kr ?_
  exact RunDS.done rfl (Ae [] trivial ⟨lv,trivial⟩)
 refine AN ?_
 have hq:=OI h; subst hq
 exact ⟨⟨Fr 13 [(5,.v (.int .i64 v3))],[]⟩,AJ,.inr rfl,[.v (.int .i64 v3)],kr,kr⟩
def XN {β:Type}(fid:FuncId) (sx:Cs β) (hn:∀ x,(sx.enc x).all I7=true) (G:A6->β->Option Int):List AV->Option AV:=Dk (No fid sx hn) (fun a=>DE G a.1 a.2.1 a.2.2.1) Nu
theorem Kb {β:Type}{fid:FuncId}{sx:Cs β}{hn:∀ x,(sx.enc x).all I7=true}{G:A6->β->Option Int}(hX:XOk fid (Dk (csC AH sx) (fun a=>G a.1 a.2) cdI.enc)):XOk 205 (XN fid sx hn G):=by
 refine AQ Tryz.func205 (c:=Qw) ?h2 ⟨Tryz.call205⟩ (No fid sx hn) (fun a=>DE G a.1 a.2.1 a.2.2.1) Nu (fun a=>(by show 3<=13; decide)) ?h3 ?h4
 case h2=>kernel_rfl
 case h3=>intro b; kernel_rfl
 case h4=>exact fun a b h=>Uz hX a.1 a.2.1 a.2.2.1 b h
/- trestle/court.plain$1 -/
noncomputable def OO:Code:=A3 Tryz.f178
def Ev (x0:A6) (x1:AF):Option (Int) :=
 (CH x1.2.2.2.1 x0.1.2.1).bind fun v1 =>
 if (decide (v1≥0))=true then
 some v1
 else
 some (x1.2.2.2.1.length:Int)
def Kp:Cs (A6×AF×Unit):=(csC AH (csC (cdP AA) csN))
def LD (r:Int):AV:=cdI.enc r
theorem RY (x0:A6) (x1:AF) (r:Int) (h:Ev x0 x1=some r):Sem E0 ⟨none,false⟩ OO ⟨Fr 17 (Av 0 (Kp.enc (x0,x1,()))),[]⟩ fun e s'=>(e = .normal\/e = .ret)/\∃ xs,D6 E0.P s'.fr s'.hp Tryz.f178.results.toList=some xs/\EA xs=LD r:=by
 unfold Ev at h
 let p1:Nat×AV:=(1,.pe (AA.enc x1) 0)
 refine Aj (A8 (s1:=⟨Fr 17 [(0,AH.enc x0),p1],[]⟩) AJ ?_)
 let p2:Option Blk:=some ⟨10,115,[AH.enc x0],false⟩
 refine AK AC [p1,(2,.pt 0 0 0)] [p2] ?_;refine AG ?_;refine AG ?_;obtain ⟨v1,hv1,h⟩:=OB h
 let p3:Nat×AV:=(4,.v (.int .i64 v1))
 refine AL (s1:=⟨Fr 17 [p1,p3],[]⟩) ?_ ?_
 ·refine AD (n:=17) AC 5 [p1,(6,.sl 1 (x1.2.2.2.1.map cdS.enc)),(9,.st x0.1.2.1)] [p2] kr ?_
  refine AR (caps:=[]) (xs:=[.sl 1 (x1.2.2.2.1.map cdS.enc),.st x0.1.2.1]) (u:=(x1.2.2.2.1,x0.1.2.1,())) rfl rfl Hr rfl (AB rfl) kr kr (AM (AU (c:=(cdL 1 cdS)) (v:=x1.2.2.2.1)) (AM (AU (c:=cdS) (v:=x0.1.2.1)) Af)) (.inl kr) hv1 ?_;refine AD (n:=17) AC 1 [p1,p3] [p2] kr ?_;exact AI rfl (Ae [] trivial ⟨lv,lv,trivial⟩)
 refine AK AC [p1,p3,(12,.v (.bool (decide (v1≥0))))] [] ?_;refine AP (b:=(decide (v1≥0))) kr (fun hb2=>?_) (fun hb2=>?_)
 ·rw [if_pos hb2] at h
  refine AK AC [(3,.v (.int .i64 v1))] [] ?_;refine AN ?_;have hq:=OI h; subst hq;exact ⟨⟨Fr 17 [(3,.v (.int .i64 v1))],[]⟩,AJ,.inr rfl,[.v (.int .i64 v1)],kr,kr⟩
 ·rw [BY hb2] at h
  refine AT ?_;refine AG ?_
  let p4:Nat×AV:=(3,.v (.int .i64 (x1.2.2.2.1.length:Int)))
  refine AL (s1:=⟨Fr 17 [p4],[]⟩) ?_ ?_
  ·refine AD (n:=17) AC 2 [(15,.sl 1 (x1.2.2.2.1.map cdS.enc))] [] kr ?_
   refine AS AC 0 rfl (DH (AB rfl) rfl (CX (a:= .sl 1 (x1.2.2.2.1.map cdS.enc)) kr (BS (el:=9) kr))) ?_;exact AX AC
  refine AN ?_;have hq:=OI h; subst hq;exact ⟨⟨Fr 17 [p4],[]⟩,AJ,.inr rfl,[.v (.int .i64 (x1.2.2.2.1.length:Int))],kr,kr⟩
def UH:List AV->Option AV:=Dk Kp (fun a=>Ev a.1 a.2.1) LD
theorem Ui:XOk 178 UH:=by
 refine AQ Tryz.func178 (c:=OO) ?h2 ⟨Tryz.call178⟩ Kp (fun a=>Ev a.1 a.2.1) LD (fun a=>(by show 2<=17; decide)) ?h3 ?h4
 case h2=>kernel_rfl
 case h3=>intro b; kernel_rfl
 case h4=>exact fun a b h=>RY a.1 a.2.1 b h
/- trestle/court.b2i -/
noncomputable def Sb:Code:=A3 Tryz.f180
def L7 (x0:Bool):Option (Int) :=
 if x0=true then
 some 1
 else
 some 0
def O7:Cs (Bool×Unit):=(csC cdB csN)
def PC (r:Int):AV:=cdI.enc r
theorem Vr (x0:Bool) (r:Int) (h:L7 x0=some r):Sem E0 ⟨none,false⟩ Sb ⟨Fr 4 (Av 0 (O7.enc (x0,()))),[]⟩ fun e s'=>(e = .normal\/e = .ret)/\∃ xs,D6 E0.P s'.fr s'.hp Tryz.f180.results.toList=some xs/\EA xs=PC r:=by
 unfold L7 at h;refine Aj (A8 (s1:=⟨Fr 4 [(0,.v (.bool x0))],[]⟩) AJ ?_);refine AK AC [(0,.v (.bool x0))] [] ?_;refine AG ?_;refine AK AC [(3,.v (.bool x0))] [] ?_;refine AP (b:=x0) kr (fun hb1=>?_) (fun hb1=>?_)
 ·rw [if_pos hb1] at h
  refine AK AC [(2,.v (.int .i64 1))] [] ?_;refine AN ?_;have hq:=OI h; subst hq;exact ⟨⟨Fr 4 [(2,.v (.int .i64 1))],[]⟩,AJ,.inr rfl,[.v (.int .i64 1)],kr,kr⟩
 ·rw [BY hb1] at h
  refine AT ?_;refine AK AC [(2,.v (.int .i64 0))] [] ?_;refine AN ?_;have hq:=OI h; subst hq;exact ⟨⟨Fr 4 [(2,.v (.int .i64 0))],[]⟩,AJ,.inr rfl,[.v (.int .i64 0)],kr,kr⟩
def YH:List AV->Option AV:=Dk O7 (fun a=>L7 a.1) PC
theorem Ue:XOk 180 YH:=by
 refine AQ Tryz.func180 (c:=Sb) ?h2 ⟨Tryz.call180⟩ O7 (fun a=>L7 a.1) PC (fun a=>(by show 1<=4; decide)) ?h3 ?h4
 case h2=>kernel_rfl
 case h3=>intro b; kernel_rfl
 case h4=>exact fun a b h=>Vr a.1 b h
/- trestle/court.plain$2 -/
noncomputable def Kh:Code:=A3 Tryz.f179
def Ih (x2:AF) (v5:Int):Option ((Int)) :=
 if (x2.1==3)=true then
 some (wr .i64 (0 - v5))
 else
 some v5
def D5 (x0:A6) (x1:A6) (x2:AF):Option (Int) :=
 if (!((x0.1.2.2.2.1==0)==(x1.1.2.2.2.1==0)))=true then
 (L7 (x0.1.2.2.2.1==0)).bind fun v2 =>
 (L7 (x1.1.2.2.2.1==0)).bind fun v3 =>
 (C6 v2 v3).bind fun v4 =>
 some v4
 else
 (C6 x0.1.2.2.2.1 x1.1.2.2.2.1).bind fun v5 =>
 (Ih x2 v5).bind fun r8 =>
 some r8
def Kq:Cs (A6×A6×AF×Unit):=(csC AH (csC AH (csC (cdP AA) csN)))
def LE (r:Int):AV:=cdI.enc r
theorem QQ (x2:AF) (v5:Int) (r:(Int)) (h:Ih x2 v5=some r):Sem E0 ⟨none,false⟩ (pc Kh [1,1,1,0,1]) ⟨Fr 40 [(6,.v (.int .i64 v5)),(36,.v (.bool (x2.1==3)))],[]⟩ (fun e s=>e = .normal/\Wk E0 s ⟨Fr 40 [(6,.v (.int .i64 r))],[]⟩):=by
 unfold Ih at h;refine AP (b:=(x2.1==3)) kr (fun hb6=>?_) (fun hb6=>?_)
 ·rw [if_pos hb6] at h
  refine Ci AC [(6,.v (.int .i64 (wr .i64 (0 - v5))))] [] ?_;have hq:=OI h; subst hq;exact ⟨rfl,AJ⟩
 ·rw [BY hb6] at h
  refine AT ?_;have hq:=OI h; subst hq;exact ⟨rfl,AJ⟩
theorem RZ (x0:A6) (x1:A6) (x2:AF) (r:Int) (h:D5 x0 x1 x2=some r):Sem E0 ⟨none,false⟩ Kh ⟨Fr 40 (Av 0 (Kq.enc (x0,x1,x2,()))),[]⟩ fun e s'=>(e = .normal\/e = .ret)/\∃ xs,D6 E0.P s'.fr s'.hp Tryz.f179.results.toList=some xs/\EA xs=LE r:=by
 unfold D5 at h
 let p1:Nat×AV:=(2,.pe (AA.enc x2) 0)
 refine Aj (A8 (s1:=⟨Fr 40 [(0,AH.enc x0),(1,AH.enc x1),p1],[]⟩) AJ ?_)
 let p2:Option Blk:=some ⟨10,115,[AH.enc x1],false⟩
 let p3:Option Blk:=some ⟨10,115,[AH.enc x0],false⟩
 refine AK AC [p1,(3,.pt 0 0 0),(4,.pt 1 0 0)] [p3,p2] ?_;refine AG ?_;refine AK AC [p1,(3,.pt 0 0 0),(4,.pt 1 0 0),(15,.v (.bool (!((x0.1.2.2.2.1==0)==(x1.1.2.2.2.1==0)))))] [p3,p2] ?_;refine AP (b:=(!((x0.1.2.2.2.1==0)==(x1.1.2.2.2.1==0)))) kr (fun hb1=>?_) (fun hb1=>?_)
 ·rw [if_pos hb1] at h
  refine AG ?_;obtain ⟨v2,hv2,h⟩:=OB h;obtain ⟨v3,hv3,h⟩:=OB h;obtain ⟨v4,hv4,h⟩:=OB h
  let p4:Nat×AV:=(5,.v (.int .i64 v4))
  refine DI AC (s1:=⟨Fr 40 [p4],[]⟩) kr ?_ ?_
  ·refine AY (n:=40) AC 4 [(4,.pt 1 0 0),(19,.v (.bool (x0.1.2.2.2.1==0)))] [p3,p2] kr kr ?_
   refine Bg (caps:=[]) (xs:=[.v (.bool (x0.1.2.2.2.1==0))]) (u:=((x0.1.2.2.2.1==0),())) rfl rfl Ue rfl (AB rfl) kr kr (AM (AU (c:=cdB) (v:=(x0.1.2.2.2.1==0))) Af) kr hv2 ?_;refine AY (n:=40) AC 4 [(20,.v (.int .i64 v2)),(24,.v (.bool (x1.1.2.2.2.1==0)))] [p3,p2] kr kr ?_;refine Bg (caps:=[]) (xs:=[.v (.bool (x1.1.2.2.2.1==0))]) (u:=((x1.1.2.2.2.1==0),())) rfl rfl Ue rfl (AB rfl) kr kr (AM (AU (c:=cdB) (v:=(x1.1.2.2.2.1==0))) Af) kr hv3 ?_;refine Bg (caps:=[]) (xs:=[.v (.int .i64 v2),.v (.int .i64 v3)]) (u:=(v2,v3,())) rfl rfl HF rfl (AB rfl) kr kr (AM (AU (c:=cdI) (v:=v2)) (AM (AU (c:=cdI) (v:=v3)) Af)) kr hv4 ?_;refine AY (n:=40) AC 1 [p4] [p3,p2] kr kr ?_;exact RunDS.done rfl (Ae [] trivial ⟨lv,trivial⟩)
  refine AN ?_;have hq:=OI h; subst hq;exact ⟨⟨Fr 40 [p4],[]⟩,AJ,.inr rfl,[.v (.int .i64 v4)],kr,kr⟩
 ·rw [BY hb1] at h
  refine AT ?_;refine AG ?_;obtain ⟨v5,hv5,h⟩:=OB h
  let p5:Nat×AV:=(6,.v (.int .i64 v5))
  refine AL (s1:=⟨Fr 40 [p1,p5],[]⟩) ?_ ?_
  ·refine AD (n:=40) AC 6 [p1,(29,.v (.int .i64 x0.1.2.2.2.1)),(32,.v (.int .i64 x1.1.2.2.2.1))] [p3,p2] kr ?_
   refine AR (caps:=[]) (xs:=[.v (.int .i64 x0.1.2.2.2.1),.v (.int .i64 x1.1.2.2.2.1)]) (u:=(x0.1.2.2.2.1,x1.1.2.2.2.1,())) rfl rfl HF rfl (AB rfl) kr kr (AM (AU (c:=cdI) (v:=x0.1.2.2.2.1)) (AM (AU (c:=cdI) (v:=x1.1.2.2.2.1)) Af)) (.inl kr) hv5 ?_;refine AD (n:=40) AC 1 [p1,p5] [p3,p2] kr ?_;exact AI rfl (Ae [] trivial ⟨lv,lv,trivial⟩)
  refine AG ?_;refine AK AC [p5,(36,.v (.bool (x2.1==3)))] [] ?_;obtain ⟨r8,hr8,h⟩:=OB h;refine GU (QQ x2 v5 _ hr8) ?_;refine AK AC [(5,.v (.int .i64 r8))] [] ?_;refine AN ?_;have hq:=OI h; subst hq;exact ⟨⟨Fr 40 [(5,.v (.int .i64 r8))],[]⟩,AJ,.inr rfl,[.v (.int .i64 r8)],kr,kr⟩
def UI:List AV->Option AV:=Dk Kq (fun a=>D5 a.1 a.2.1 a.2.2.1) LE
theorem Pd:XOk 179 UI:=by
 refine AQ Tryz.func179 (c:=Kh) ?h2 ⟨Tryz.call179⟩ Kq (fun a=>D5 a.1 a.2.1 a.2.2.1) LE (fun a=>(by show 3<=40; decide)) ?h3 ?h4
 case h2=>kernel_rfl
 case h3=>intro b; kernel_rfl
 case h4=>exact fun a b h=>RZ a.1 a.2.1 a.2.2.1 b h
/- cmp.isNaN[string] -/
noncomputable def Ly:Code:=A3 Tryz.f207
def FV (x0:(List UInt8)):Option (Bool) :=
 some (!(x0==x0))
def In:Cs ((List UInt8)×Unit):=(csC cdS csN)
def Ip (r:Bool):AV:=cdB.enc r
theorem Ps (x0:(List UInt8)) (r:Bool) (h:FV x0=some r):Sem E0 ⟨none,false⟩ Ly ⟨Fr 6 (Av 0 (In.enc (x0,()))),[]⟩ fun e s'=>(e = .normal\/e = .ret)/\∃ xs,D6 E0.P s'.fr s'.hp Tryz.f207.results.toList=some xs/\EA xs=Ip r:=by
 unfold FV at h;refine Aj (A8 (s1:=⟨Fr 6 [(0,.st x0)],[]⟩) AJ ?_);refine AK AC [(0,.st x0)] [] ?_;refine AK AC [(2,.v (.bool (!(x0==x0))))] [] ?_;refine AN ?_;have hq:=OI h; subst hq;exact ⟨⟨Fr 6 [(2,.v (.bool (!(x0==x0))))],[]⟩,AJ,.inr rfl,[.v (.bool (!(x0==x0)))],kr,kr⟩
def RJ:List AV->Option AV:=Dk In (fun a=>FV a.1) Ip
theorem Mu:XOk 207 RJ:=by
 refine AQ Tryz.func207 (c:=Ly) ?h2 ⟨Tryz.call207⟩ In (fun a=>FV a.1) Ip (fun a=>(by show 1<=6; decide)) ?h3 ?h4
 case h2=>kernel_rfl
 case h3=>intro b; kernel_rfl
 case h4=>exact fun a b h=>Ps a.1 b h
/- cmp.Compare[string] -/
noncomputable def KK:Code:=A3 Tryz.f188
def EK (x0:(List UInt8)) (x1:(List UInt8)):Option (Int) :=
 (FV x0).bind fun v1 =>
 (FV x1).bind fun v2 =>
 if v1=true then
 if v2=true then
 some 0
 else
 some (-1)
 else
 if v2=true then
 some 1
 else
 if (Go.Op.bytesLess x0 x1)=true then
 some (-1)
 else
 if (!((Go.Op.bytesLess x0 x1)||(x0==x1)))=true then
 some 1
 else
 some 0
def Hw:Cs ((List UInt8)×(List UInt8)×Unit):=(csC cdS (csC cdS csN))
def Hz (r:Int):AV:=cdI.enc r
theorem Oo (x0:(List UInt8)) (x1:(List UInt8)) (r:Int) (h:EK x0 x1=some r):Sem E0 ⟨none,false⟩ KK ⟨Fr 20 (Av 0 (Hw.enc (x0,x1,()))),[]⟩ fun e s'=>(e = .normal\/e = .ret)/\∃ xs,D6 E0.P s'.fr s'.hp Tryz.f188.results.toList=some xs/\EA xs=Hz r:=by
 unfold EK at h;refine Aj (A8 (s1:=⟨Fr 20 [(0,.st x0),(1,.st x1)],[]⟩) AJ ?_);refine AK AC [(0,.st x0),(1,.st x1)] [] ?_;refine AG ?_;obtain ⟨v1,hv1,h⟩:=OB h
 let p1:Nat×AV:=(5,.v (.bool v1))
 refine AL (s1:=⟨Fr 20 [(0,.st x0),(1,.st x1),p1],[]⟩) ?_ ?_
 ·refine AD (n:=20) AC 1 [(0,.st x0),(1,.st x1),(7,.st x0)] [] kr ?_
  refine AR (caps:=[]) (xs:=[.st x0]) (u:=(x0,())) rfl rfl Mu rfl (AB rfl) kr kr (AM (AU (c:=cdS) (v:=x0)) Af) (.inl kr) hv1 ?_;exact AX AC
 refine AG ?_;obtain ⟨v2,hv2,h⟩:=OB h;refine AL (s1:=⟨Fr 20 [(0,.st x0),(1,.st x1),p1,(6,.v (.bool v2))],[]⟩) ?_ ?_
 ·refine AD (n:=20) AC 1 [(0,.st x0),(1,.st x1),p1,(9,.st x1)] [] kr ?_
  refine AR (caps:=[]) (xs:=[.st x1]) (u:=(x1,())) rfl rfl Mu rfl (AB rfl) kr kr (AM (AU (c:=cdS) (v:=x1)) Af) (.inl kr) hv2 ?_;exact AX AC
 refine AG ?_;refine AK AC [(0,.st x0),(1,.st x1),(6,.v (.bool v2)),(11,.v (.bool v1))] [] ?_;refine AP (b:=v1) kr (fun hb3=>?_) (fun hb3=>?_)
 ·rw [if_pos hb3] at h
  refine AG ?_;refine AK AC [(12,.v (.bool v2))] [] ?_;refine AP (b:=v2) kr (fun hb4=>?_) (fun hb4=>?_)
  ·rw [if_pos hb4] at h
   refine AK AC [(4,.v (.int .i64 0))] [] ?_;refine AN ?_;have hq:=OI h; subst hq;exact ⟨⟨Fr 20 [(4,.v (.int .i64 0))],[]⟩,AJ,.inr rfl,[.v (.int .i64 0)],kr,kr⟩
  ·rw [BY hb4] at h
   refine AT ?_;refine AK AC [(4,.v (.int .i64 (-1)))] [] ?_;refine AN ?_;have hq:=OI h; subst hq;exact ⟨⟨Fr 20 [(4,.v (.int .i64 (-1)))],[]⟩,AJ,.inr rfl,[.v (.int .i64 (-1))],kr,kr⟩
 ·rw [BY hb3] at h
  refine AT ?_;refine AG ?_;refine AK AC [(0,.st x0),(1,.st x1),(13,.v (.bool v2))] [] ?_;refine AP (b:=v2) kr (fun hb5=>?_) (fun hb5=>?_)
  ·rw [if_pos hb5] at h
   refine AK AC [(4,.v (.int .i64 1))] [] ?_;refine AN ?_;have hq:=OI h; subst hq;exact ⟨⟨Fr 20 [(4,.v (.int .i64 1))],[]⟩,AJ,.inr rfl,[.v (.int .i64 1)],kr,kr⟩
  ·rw [BY hb5] at h
   refine AT ?_;refine AG ?_;refine AK AC [(0,.st x0),(1,.st x1),(16,.v (.bool (Go.Op.bytesLess x0 x1)))] [] ?_;refine AP (b:=(Go.Op.bytesLess x0 x1)) kr (fun hb6=>?_) (fun hb6=>?_)
   ·rw [if_pos hb6] at h
    refine AK AC [(4,.v (.int .i64 (-1)))] [] ?_;refine AN ?_;have hq:=OI h; subst hq;exact ⟨⟨Fr 20 [(4,.v (.int .i64 (-1)))],[]⟩,AJ,.inr rfl,[.v (.int .i64 (-1))],kr,kr⟩
   ·rw [BY hb6] at h
    refine AT ?_;refine AG ?_;refine AK AC [(19,.v (.bool (!((Go.Op.bytesLess x0 x1)||(x0==x1)))))] [] ?_;refine AP (b:=(!((Go.Op.bytesLess x0 x1)||(x0==x1)))) kr (fun hb7=>?_) (fun hb7=>?_)
    ·rw [if_pos hb7] at h
     refine AK AC [(4,.v (.int .i64 1))] [] ?_;refine AN ?_;have hq:=OI h; subst hq;exact ⟨⟨Fr 20 [(4,.v (.int .i64 1))],[]⟩,AJ,.inr rfl,[.v (.int .i64 1)],kr,kr⟩
    ·rw [BY hb7] at h
     refine AT ?_;refine AK AC [(4,.v (.int .i64 0))] [] ?_;refine AN ?_;have hq:=OI h; subst hq;exact ⟨⟨Fr 20 [(4,.v (.int .i64 0))],[]⟩,AJ,.inr rfl,[.v (.int .i64 0)],kr,kr⟩
def Px:List AV->Option AV:=Dk Hw (fun a=>EK a.1 a.2.1) Hz
theorem P1:XOk 188 Px:=by
 refine AQ Tryz.func188 (c:=KK) ?h2 ⟨Tryz.call188⟩ Hw (fun a=>EK a.1 a.2.1) Hz (fun a=>(by show 2<=20; decide)) ?h3 ?h4
 case h2=>kernel_rfl
 case h3=>intro b; kernel_rfl
 case h4=>exact fun a b h=>Oo a.1 a.2.1 b h
/- trestle/court.plain$7 -/
noncomputable def OU:Code:=A3 Tryz.f187
def Gg (x0:A6) (x1:A6):Option (Int) :=
 (EK x0.1.1 x1.1.1).bind fun v1 =>
 some v1
def Kw:Cs (A6×A6×Unit):=(csC AH (csC AH csN))
def LJ (r:Int):AV:=cdI.enc r
theorem Rh (x0:A6) (x1:A6) (r:Int) (h:Gg x0 x1=some r):Sem E0 ⟨none,false⟩ OU ⟨Fr 12 (Av 0 (Kw.enc (x0,x1,()))),[]⟩ fun e s'=>(e = .normal\/e = .ret)/\∃ xs,D6 E0.P s'.fr s'.hp Tryz.f187.results.toList=some xs/\EA xs=LJ r:=by
 unfold Gg at h;refine Aj (A8 (s1:=⟨Fr 12 [(0,AH.enc x0),(1,AH.enc x1)],[]⟩) AJ ?_)
 let p1:Option Blk:=some ⟨10,115,[AH.enc x1],false⟩
 let p2:Option Blk:=some ⟨10,115,[AH.enc x0],false⟩
 refine AK AC [(2,.pt 0 0 0),(3,.pt 1 0 0)] [p2,p1] ?_;refine AG ?_;obtain ⟨v1,hv1,h⟩:=OB h
 let p3:Nat×AV:=(4,.v (.int .i64 v1))
 refine AL (s1:=⟨Fr 12 [p3],[]⟩) ?_ ?_
 ·refine AD (n:=12) AC 6 [(7,.st x0.1.1),(10,.st x1.1.1)] [p2,p1] kr ?_
  refine AR (caps:=[]) (xs:=[.st x0.1.1,.st x1.1.1]) (u:=(x0.1.1,x1.1.1,())) rfl rfl P1 rfl (AB rfl) kr kr (AM (AU (c:=cdS) (v:=x0.1.1)) (AM (AU (c:=cdS) (v:=x1.1.1)) Af)) (.inl kr) hv1 ?_;refine AD (n:=12) AC 1 [p3] [p2,p1] kr ?_;exact AI rfl (Ae [] trivial ⟨lv,trivial⟩)
 refine AN ?_;have hq:=OI h; subst hq;exact ⟨⟨Fr 12 [p3],[]⟩,AJ,.inr rfl,[.v (.int .i64 v1)],kr,kr⟩
def UN:List AV->Option AV:=Dk Kw (fun a=>Gg a.1 a.2.1) LJ
theorem Un:XOk 187 UN:=by
 refine AQ Tryz.func187 (c:=OU) ?h2 ⟨Tryz.call187⟩ Kw (fun a=>Gg a.1 a.2.1) LJ (fun a=>(by show 2<=12; decide)) ?h3 ?h4
 case h2=>kernel_rfl
 case h3=>intro b; kernel_rfl
 case h4=>exact fun a b h=>Rh a.1 a.2.1 b h
/- trestle/court.plain$3 -/
noncomputable def OP:Code:=A3 Tryz.f182
def JL (x0:A6) (x1:AF):Option (Bool) :=
 some (x0.1.2.2.2.2.1==x1.2.2.2.2)
def Kr:Cs (A6×AF×Unit):=(csC AH (csC (cdP AA) csN))
def LF (r:Bool):AV:=cdB.enc r
theorem Ra (x0:A6) (x1:AF) (r:Bool) (h:JL x0 x1=some r):Sem E0 ⟨none,false⟩ OP ⟨Fr 10 (Av 0 (Kr.enc (x0,x1,()))),[]⟩ fun e s'=>(e = .normal\/e = .ret)/\∃ xs,D6 E0.P s'.fr s'.hp Tryz.f182.results.toList=some xs/\EA xs=LF r:=by
 unfold JL at h;refine Aj (A8 (s1:=⟨Fr 10 [(0,AH.enc x0),(1,.pe (AA.enc x1) 0)],[]⟩) AJ ?_)
 let p1:Option Blk:=some ⟨10,115,[AH.enc x0],false⟩
 refine AK AC [(1,.pe (AA.enc x1) 0),(2,.pt 0 0 0)] [p1] ?_;refine AG ?_
 let p2:Nat×AV:=(3,.v (.bool (x0.1.2.2.2.2.1==x1.2.2.2.2)))
 refine AL (s1:=⟨Fr 10 [p2],[]⟩) ?_ ?_
 ·refine AD (n:=10) AC 7 [p2] [p1] kr ?_
  exact AI rfl (Ae [] trivial ⟨lv,trivial⟩)
 refine AN ?_;have hq:=OI h; subst hq;exact ⟨⟨Fr 10 [p2],[]⟩,AJ,.inr rfl,[.v (.bool (x0.1.2.2.2.2.1==x1.2.2.2.2))],kr,kr⟩
def UJ:List AV->Option AV:=Dk Kr (fun a=>JL a.1 a.2.1) LF
theorem Uj:XOk 182 UJ:=by
 refine AQ Tryz.func182 (c:=OP) ?h2 ⟨Tryz.call182⟩ Kr (fun a=>JL a.1 a.2.1) LF (fun a=>(by show 2<=10; decide)) ?h3 ?h4
 case h2=>kernel_rfl
 case h3=>intro b; kernel_rfl
 case h4=>exact fun a b h=>Ra a.1 a.2.1 b h
/- trestle/court.named$1 -/
noncomputable def G7:Code:=A3 Tryz.f206
def Bu (x0:A6) (x1:AF) (x2:AF):Option (Int) :=
 (JL x0 x1).bind fun v1 =>
 if (!(v1==x2.2.2.1))=true then
 some 0
 else
 some 1
def Eh:Cs (A6×AF×AF×Unit):=(csC AH (csC (cdP (cdF 182 (csE (cdP AA)) (fun _=>rfl))) (csC (cdP AA) csN)))
def El (r:Int):AV:=cdI.enc r
theorem Jf (x0:A6) (x1:AF) (x2:AF) (r:Int) (h:Bu x0 x1 x2=some r):Sem E0 ⟨none,false⟩ G7 ⟨Fr 11 (Av 0 (Eh.enc (x0,x1,x2,()))),[]⟩ fun e s'=>(e = .normal\/e = .ret)/\∃ xs,D6 E0.P s'.fr s'.hp Tryz.f206.results.toList=some xs/\EA xs=El r:=by
 unfold Bu at h
 let p1:Nat×AV:=(2,.pe (AA.enc x2) 0)
 let p2:Nat×AV:=(1,.pe (.fn 182 [] [.pe (AA.enc x1) 0]) 0)
 refine Aj (A8 (s1:=⟨Fr 11 [(0,AH.enc x0),p2,p1],[]⟩) AJ ?_)
 let p3:Option Blk:=some ⟨10,115,[AH.enc x0],false⟩
 refine AK AC [p2,p1,(3,.pt 0 0 0)] [p3] ?_;refine AG ?_;refine AG ?_;obtain ⟨v1,hv1,h⟩:=OB h
 let p4:Nat×AV:=(10,.v (.bool (!(v1==x2.2.2.1))))
 refine DI AC (s1:=⟨Fr 11 [p4],[]⟩) kr ?_ ?_
 ·refine AY (n:=11) AC 2 [p1,(5,.fn 182 [] [.pe (AA.enc x1) 0]),(6,AH.enc x0)] [p3] kr kr ?_
  refine Bg (caps:=[.pe (AA.enc x1) 0]) (xs:=[AH.enc x0]) (u:=(x0,x1,())) rfl rfl Uj rfl (AB rfl) kr kr (AM (AU (c:=AH) (v:=x0)) (AM (AU (c:=(cdP AA)) (v:=x1)) Af)) kr hv1 ?_;refine AY (n:=11) AC 3 [p4] [p3] kr kr ?_;exact RunDS.done rfl (Ae [] trivial ⟨lv,trivial⟩)
 refine AP (b:=(!(v1==x2.2.2.1))) kr (fun hb2=>?_) (fun hb2=>?_)
 ·rw [if_pos hb2] at h
  refine AK AC [(4,.v (.int .i64 0))] [] ?_;refine AN ?_;have hq:=OI h; subst hq;exact ⟨⟨Fr 11 [(4,.v (.int .i64 0))],[]⟩,AJ,.inr rfl,[.v (.int .i64 0)],kr,kr⟩
 ·rw [BY hb2] at h
  refine AT ?_;refine AK AC [(4,.v (.int .i64 1))] [] ?_;refine AN ?_;have hq:=OI h; subst hq;exact ⟨⟨Fr 11 [(4,.v (.int .i64 1))],[]⟩,AJ,.inr rfl,[.v (.int .i64 1)],kr,kr⟩
def KV:List AV->Option AV:=Dk Eh (fun a=>Bu a.1 a.2.1 a.2.2.1) El
theorem Kc:XOk 206 KV:=by
 refine AQ Tryz.func206 (c:=G7) ?h2 ⟨Tryz.call206⟩ Eh (fun a=>Bu a.1 a.2.1 a.2.2.1) El (fun a=>(by show 3<=11; decide)) ?h3 ?h4
 case h2=>kernel_rfl
 case h3=>intro b; kernel_rfl
 case h4=>exact fun a b h=>Jf a.1 a.2.1 a.2.2.1 b h
/- trestle/court.plain$4 -/
noncomputable def OQ:Code:=A3 Tryz.f183
def JM (x0:A6):Option (Bool) :=
 some x0.1.2.2.2.2.2.2.1
def Kt:Cs (A6×Unit):=(csC AH csN)
def LG (r:Bool):AV:=cdB.enc r
theorem Rb (x0:A6) (r:Bool) (h:JM x0=some r):Sem E0 ⟨none,false⟩ OQ ⟨Fr 6 (Av 0 (Kt.enc (x0,()))),[]⟩ fun e s'=>(e = .normal\/e = .ret)/\∃ xs,D6 E0.P s'.fr s'.hp Tryz.f183.results.toList=some xs/\EA xs=LG r:=by
 unfold JM at h;refine Aj (A8 (s1:=⟨Fr 6 [(0,AH.enc x0)],[]⟩) AJ ?_)
 let p1:Option Blk:=some ⟨10,115,[AH.enc x0],false⟩
 refine AK AC [(1,.pt 0 0 0)] [p1] ?_;refine AG ?_
 let p2:Nat×AV:=(2,.v (.bool x0.1.2.2.2.2.2.2.1))
 refine AL (s1:=⟨Fr 6 [p2],[]⟩) ?_ ?_
 ·refine AD (n:=6) AC 4 [p2] [p1] kr ?_
  exact AI rfl (Ae [] trivial ⟨lv,trivial⟩)
 refine AN ?_;have hq:=OI h; subst hq;exact ⟨⟨Fr 6 [p2],[]⟩,AJ,.inr rfl,[.v (.bool x0.1.2.2.2.2.2.2.1)],kr,kr⟩
def UK:List AV->Option AV:=Dk Kt (fun a=>JM a.1) LG
theorem Uk:XOk 183 UK:=by
 refine AQ Tryz.func183 (c:=OQ) ?h2 ⟨Tryz.call183⟩ Kt (fun a=>JM a.1) LG (fun a=>(by show 1<=6; decide)) ?h3 ?h4
 case h2=>kernel_rfl
 case h3=>intro b; kernel_rfl
 case h4=>exact fun a b h=>Rb a.1 b h
/- trestle/court.named$1 -/
noncomputable def G8:Code:=A3 Tryz.f206
def Bv (x0:A6) (x2:AF):Option (Int) :=
 (JM x0).bind fun v1 =>
 if (!(v1==x2.2.2.1))=true then
 some 0
 else
 some 1
def Ei:Cs (A6×Unit×AF×Unit):=(csC AH (csC (cdP (cdF 183 csN (fun _=>rfl))) (csC (cdP AA) csN)))
def Em (r:Int):AV:=cdI.enc r
theorem Jg (x0:A6) (x2:AF) (r:Int) (h:Bv x0 x2=some r):Sem E0 ⟨none,false⟩ G8 ⟨Fr 11 (Av 0 (Ei.enc (x0,(),x2,()))),[]⟩ fun e s'=>(e = .normal\/e = .ret)/\∃ xs,D6 E0.P s'.fr s'.hp Tryz.f206.results.toList=some xs/\EA xs=Em r:=by
 unfold Bv at h
 let p1:Nat×AV:=(2,.pe (AA.enc x2) 0)
 refine Aj (A8 (s1:=⟨Fr 11 [(0,AH.enc x0),(1,.pe (.fn 183 [] []) 0),p1],[]⟩) AJ ?_)
 let p2:Option Blk:=some ⟨10,115,[AH.enc x0],false⟩
 refine AK AC [(1,.pe (.fn 183 [] []) 0),p1,(3,.pt 0 0 0)] [p2] ?_;refine AG ?_;refine AG ?_;obtain ⟨v1,hv1,h⟩:=OB h
 let p3:Nat×AV:=(10,.v (.bool (!(v1==x2.2.2.1))))
 refine DI AC (s1:=⟨Fr 11 [p3],[]⟩) kr ?_ ?_
 ·refine AY (n:=11) AC 2 [p1,(5,.fn 183 [] []),(6,AH.enc x0)] [p2] kr kr ?_
  refine Bg (caps:=[]) (xs:=[AH.enc x0]) (u:=(x0,())) rfl rfl Uk rfl (AB rfl) kr kr (AM (AU (c:=AH) (v:=x0)) Af) kr hv1 ?_;refine AY (n:=11) AC 3 [p3] [p2] kr kr ?_;exact RunDS.done rfl (Ae [] trivial ⟨lv,trivial⟩)
 refine AP (b:=(!(v1==x2.2.2.1))) kr (fun hb2=>?_) (fun hb2=>?_)
 ·rw [if_pos hb2] at h
  refine AK AC [(4,.v (.int .i64 0))] [] ?_;refine AN ?_;have hq:=OI h; subst hq;exact ⟨⟨Fr 11 [(4,.v (.int .i64 0))],[]⟩,AJ,.inr rfl,[.v (.int .i64 0)],kr,kr⟩
 ·rw [BY hb2] at h
  refine AT ?_;refine AK AC [(4,.v (.int .i64 1))] [] ?_;refine AN ?_;have hq:=OI h; subst hq;exact ⟨⟨Fr 11 [(4,.v (.int .i64 1))],[]⟩,AJ,.inr rfl,[.v (.int .i64 1)],kr,kr⟩
def KW:List AV->Option AV:=Dk Ei (fun a=>Bv a.1 a.2.2.1) Em
theorem Kd:XOk 206 KW:=by
 refine AQ Tryz.func206 (c:=G8) ?h2 ⟨Tryz.call206⟩ Ei (fun a=>Bv a.1 a.2.2.1) Em (fun a=>(by show 3<=11; decide)) ?h3 ?h4
 case h2=>kernel_rfl
 case h3=>intro b; kernel_rfl
 case h4=>exact fun a b h=>Jg a.1 a.2.2.1 b h
/- trestle/court.plain$5$1 -/
noncomputable def Md:Code:=A3 Tryz.f185
def GD (x0:(List UInt8)) (x1:AF):Option (Bool) :=
 (BQ x1.2.2.2.1 x0).bind fun v1 =>
 some v1
def JR:Cs ((List UInt8)×AF×Unit):=(csC cdS (csC (cdP AA) csN))
def JW (r:Bool):AV:=cdB.enc r
theorem QR (x0:(List UInt8)) (x1:AF) (r:Bool) (h:GD x0 x1=some r):Sem E0 ⟨none,false⟩ Md ⟨Fr 8 (Av 0 (JR.enc (x0,x1,()))),[]⟩ fun e s'=>(e = .normal\/e = .ret)/\∃ xs,D6 E0.P s'.fr s'.hp Tryz.f185.results.toList=some xs/\EA xs=JW r:=by
 unfold GD at h;refine Aj (A8 (s1:=⟨Fr 8 [(0,.st x0),(1,.pe (AA.enc x1) 0)],[]⟩) AJ ?_);refine AK AC [(0,.st x0),(1,.pe (AA.enc x1) 0)] [] ?_;refine AG ?_;obtain ⟨v1,hv1,h⟩:=OB h;refine AL (s1:=⟨Fr 8 [(3,.v (.bool v1))],[]⟩) ?_ ?_
 ·refine AD (n:=8) AC 3 [(5,.sl 1 (x1.2.2.2.1.map cdS.enc)),(6,.st x0)] [] kr ?_
  refine AR (caps:=[]) (xs:=[.sl 1 (x1.2.2.2.1.map cdS.enc),.st x0]) (u:=(x1.2.2.2.1,x0,())) rfl rfl Dt rfl (AB rfl) kr kr (AM (AU (c:=(cdL 1 cdS)) (v:=x1.2.2.2.1)) (AM (AU (c:=cdS) (v:=x0)) Af)) (.inl kr) hv1 ?_;exact AX AC
 refine AN ?_;have hq:=OI h; subst hq;exact ⟨⟨Fr 8 [(3,.v (.bool v1))],[]⟩,AJ,.inr rfl,[.v (.bool v1)],kr,kr⟩
def SQ:List AV->Option AV:=Dk JR (fun a=>GD a.1 a.2.1) JW
theorem SY:XOk 185 SQ:=by
 refine AQ Tryz.func185 (c:=Md) ?h2 ⟨Tryz.call185⟩ JR (fun a=>GD a.1 a.2.1) JW (fun a=>(by show 2<=8; decide)) ?h3 ?h4
 case h2=>kernel_rfl
 case h3=>intro b; kernel_rfl
 case h4=>exact fun a b h=>QR a.1 a.2.1 b h
/- slices.IndexFunc[[]string,string] -/
noncomputable def CY:Code:=A3 Tryz.f90
def BT (x0:(List (List UInt8))) (x1:AF):Nat->Int->Option ((Unit) ⊕ (Int))
 | 0,_=>none
 | f + 1,c1 =>
  if (decide (c1 < (x0.length:Int)))=true then
  (idx x0 c1).bind fun v3 =>
  (GD v3 x1).bind fun v4 =>
  if v4=true then
  some (.inr c1)
  else
  BT x0 x1 f (wr .i64 (c1 + 1))
  else
  some (.inl ())
def BC (x0:(List (List UInt8))) (x1:AF):Option (Int) :=
 (BT x0 x1 100000 0).bind fun r7 =>
 match r7 with
 | (.inl _w8) =>
  some (-1)
 | (.inr w9) =>
  some w9
def CZ:Cs ((List (List UInt8))×AF×Unit):=(csC (cdL 1 cdS) (csC (cdF 185 (csE (cdP AA)) (fun _=>rfl)) csN))
def Ca (r:Int):AV:=cdI.enc r
theorem DX (x0:(List (List UInt8))) (x1:AF):∀ (f:Nat) (c1:Int) (r:(Unit) ⊕ (Int)),BT x0 x1 f c1=some r->SemN E0 ⟨none,false⟩ (pc CY [1,0,1,0,0]) f ⟨Fr 19 [(0,.sl 1 (x0.map cdS.enc)),(1,.fn 185 [] [.pe (AA.enc x1) 0]),(7,.v (.int .i64 (x0.length:Int))),(8,.v (.int .i64 c1))],[]⟩ (fun e s=>match r with
 | (.inl _w)=>e=(.exit 0)/\Wk E0 s ⟨Fr 19 [],[]⟩
 | (.inr w)=>e = .ret/\Wk E0 s ⟨Fr 19 [(4,.v (.int .i64 w))],[]⟩):=by
 intro f;induction f with
 | zero=>intro c1 r h; cases h
 | succ f ih0 =>
  intro c1 r h
  have ih:=fun (c1:Int)=>ih0 c1 r
  unfold BT at h;refine BR ?_
  let p1:Nat×AV:=(8,.v (.int .i64 c1))
  let p2:Nat×AV:=(7,.v (.int .i64 (x0.length:Int)))
  let p3:Nat×AV:=(1,.fn 185 [] [.pe (AA.enc x1) 0])
  let p4:Nat×AV:=(0,.sl 1 (x0.map cdS.enc))
  refine AK AC [p4,p3,p2,p1,(9,.v (.bool (decide (c1 < (x0.length:Int)))))] [] ?_;refine AG ?_;refine AP (b:=(decide (c1 < (x0.length:Int)))) kr (fun hb2=>?_) (fun hb2=>?_)
  ·rw [if_pos hb2] at h
   refine AT ?_;refine AG ?_;refine AZ ?_
   let p5:Nat×AV:=(5,.v (.int .i64 c1))
   refine AK AC [p4,p3,p5,p2,p1] [] ?_;refine AG ?_;obtain ⟨v3,hv3,h⟩:=OB h;obtain ⟨v4,hv4,h⟩:=OB h;refine AL (s1:=⟨Fr 19 [p4,p3,p5,p2,p1,(16,.v (.bool v4))],[]⟩) ?_ ?_
   ·let p6:Nat×AV:=(11,.fn 185 [] [.pe (AA.enc x1) 0])
    refine AD (n:=19) AC 3 [p4,p3,p5,p2,p1,p6,(12,.sl 1 (x0.map cdS.enc)),(13,.v (.int .i64 c1))] [] kr ?_;refine AS AC 0 rfl (DH (AB rfl) rfl (AW (a:= .sl 1 (x0.map cdS.enc)) (b:= .v (.int .i64 c1)) kr kr (DK (e:=cdS.enc) (el:=9) (k:=1) (ki:= .i64) kr kr hv3))) ?_;refine AD (n:=19) AC 1 [p4,p3,p5,p2,p1,p6,(15,.st v3)] [] kr ?_;refine AR (caps:=[.pe (AA.enc x1) 0]) (xs:=[.st v3]) (u:=(v3,x1,())) rfl rfl SY rfl (AB rfl) kr kr (AM (AU (c:=cdS) (v:=v3)) (AM (AU (c:=(cdP AA)) (v:=x1)) Af)) (.inl kr) hv4 ?_;exact AI rfl AJ
   refine AP (b:=v4) kr (fun hb5=>?_) (fun hb5=>?_)
   ·rw [if_pos hb5] at h
    refine AK AC [(4,.v (.int .i64 c1))] [] ?_;refine AN ?_;have hq:=OI h; subst hq;exact ⟨rfl,AJ⟩
   ·rw [BY hb5] at h
    refine AT ?_
    let p7:Nat×AV:=(8,.v (.int .i64 (wr .i64 (c1 + 1))))
    refine Ci AC [p4,p3,p2,p7] [] ?_;exact Ab (s1:=⟨Fr 19 [p4,p3,p2,p7],[]⟩) AJ (ih (wr .i64 (c1 + 1)) h)
  ·rw [BY hb2] at h
   refine Bi ?_;have hq:=OI h; subst hq;exact ⟨rfl,AJ⟩
theorem GK (x0:(List (List UInt8))) (x1:AF) (r:Int) (h:BC x0 x1=some r):Sem E0 ⟨none,false⟩ CY ⟨Fr 19 (Av 0 (CZ.enc (x0,x1,()))),[]⟩ fun e s'=>(e = .normal\/e = .ret)/\∃ xs,D6 E0.P s'.fr s'.hp Tryz.f90.results.toList=some xs/\EA xs=Ca r:=by
 unfold BC at h
 let p1:Nat×AV:=(1,.fn 185 [] [.pe (AA.enc x1) 0])
 let p2:Nat×AV:=(0,.sl 1 (x0.map cdS.enc))
 refine Aj (A8 (s1:=⟨Fr 19 [p2,p1],[]⟩) AJ ?_);refine AK AC [p2,p1] [] ?_;refine AG ?_;refine AG ?_
 let p3:Nat×AV:=(8,.v (.int .i64 0))
 let p4:Nat×AV:=(7,.v (.int .i64 (x0.length:Int)))
 refine AL (s1:=⟨Fr 19 [p2,p1,p4,p3],[]⟩) ?_ ?_
 ·refine AD (n:=19) AC 1 [p2,p1,(6,.sl 1 (x0.map cdS.enc))] [] kr ?_
  refine AS AC 0 rfl (DH (AB rfl) rfl (CX (a:= .sl 1 (x0.map cdS.enc)) kr (BS (el:=9) kr))) ?_;exact AX AC
 refine AZ ?_;obtain ⟨r7,hr7,h⟩:=OB h;refine Bj (n:=100000) ?_;rcases r7 with w8 | w9
 ·try dsimp only at h
  refine Ao (Ab (s1:=⟨Fr 19 [p2,p1,p4,p3],[]⟩) AJ (DX x0 x1 _ 0 _ hr7)) ?_;refine AK AC [(4,.v (.int .i64 (-1)))] [] ?_;refine AN ?_;have hq:=OI h; subst hq;exact ⟨⟨Fr 19 [(4,.v (.int .i64 (-1)))],[]⟩,AJ,.inr rfl,[.v (.int .i64 (-1))],kr,kr⟩
 ·try dsimp only at h
  refine Ao (Ab (s1:=⟨Fr 19 [p2,p1,p4,p3],[]⟩) AJ (DX x0 x1 _ 0 _ hr7)) ?_;have hq:=OI h; subst hq;exact ⟨⟨Fr 19 [(4,.v (.int .i64 w9))],[]⟩,AJ,.inr rfl,[.v (.int .i64 w9)],kr,kr⟩
def GZ:List AV->Option AV:=Dk CZ (fun a=>BC a.1 a.2.1) Ca
theorem Ga:XOk 90 GZ:=by
 refine AQ Tryz.func90 (c:=CY) ?h2 ⟨Tryz.call90⟩ CZ (fun a=>BC a.1 a.2.1) Ca (fun a=>(by show 2<=19; decide)) ?h3 ?h4
 case h2=>kernel_rfl
 case h3=>intro b; kernel_rfl
 case h4=>exact fun a b h=>GK a.1 a.2.1 b h
/- slices.ContainsFunc[[]string,string] -/
noncomputable def DU:Code:=A3 Tryz.f36
def Aq (x0:(List (List UInt8))) (x1:AF):Option (Bool) :=
 (BC x0 x1).bind fun v1 =>
 some (decide (v1≥0))
def CO:Cs ((List (List UInt8))×AF×Unit):=(csC (cdL 1 cdS) (csC (cdF 185 (csE (cdP AA)) (fun _=>rfl)) csN))
def CP (r:Bool):AV:=cdB.enc r
theorem Fj (x0:(List (List UInt8))) (x1:AF) (r:Bool) (h:Aq x0 x1=some r):Sem E0 ⟨none,false⟩ DU ⟨Fr 9 (Av 0 (CO.enc (x0,x1,()))),[]⟩ fun e s'=>(e = .normal\/e = .ret)/\∃ xs,D6 E0.P s'.fr s'.hp Tryz.f36.results.toList=some xs/\EA xs=CP r:=by
 unfold Aq at h
 let p1:Nat×AV:=(1,.fn 185 [] [.pe (AA.enc x1) 0])
 refine Aj (A8 (s1:=⟨Fr 9 [(0,.sl 1 (x0.map cdS.enc)),p1],[]⟩) AJ ?_);refine AK AC [(0,.sl 1 (x0.map cdS.enc)),p1] [] ?_;refine AG ?_;obtain ⟨v1,hv1,h⟩:=OB h
 let p2:Nat×AV:=(4,.v (.bool (decide (v1≥0))))
 refine AL (s1:=⟨Fr 9 [p2],[]⟩) ?_ ?_
 ·refine AD (n:=9) AC 2 [(5,.sl 1 (x0.map cdS.enc)),(6,.fn 185 [] [.pe (AA.enc x1) 0])] [] kr ?_
  refine AR (caps:=[]) (xs:=[.sl 1 (x0.map cdS.enc),.fn 185 [] [.pe (AA.enc x1) 0]]) (u:=(x0,x1,())) rfl rfl Ga rfl (AB rfl) kr kr (AM (AU (c:=(cdL 1 cdS)) (v:=x0)) (AM (Sm.fn (Vl (AU (c:=(cdP AA)) (v:=x1)))) Af)) (.inl kr) hv1 ?_;exact AX AC
 refine AN ?_;have hq:=OI h; subst hq;exact ⟨⟨Fr 9 [p2],[]⟩,AJ,.inr rfl,[.v (.bool (decide (v1≥0)))],kr,kr⟩
def F9:List AV->Option AV:=Dk CO (fun a=>Aq a.1 a.2.1) CP
theorem GA:XOk 36 F9:=by
 refine AQ Tryz.func36 (c:=DU) ?h2 ⟨Tryz.call36⟩ CO (fun a=>Aq a.1 a.2.1) CP (fun a=>(by show 2<=9; decide)) ?h3 ?h4
 case h2=>kernel_rfl
 case h3=>intro b; kernel_rfl
 case h4=>exact fun a b h=>Fj a.1 a.2.1 b h
/- trestle/court.plain$5 -/
noncomputable def OR:Code:=A3 Tryz.f184
def IC (x0:A6) (x1:AF):Option (Bool) :=
 (Aq x0.1.2.2.2.2.2.2.2.2 x1).bind fun v1 =>
 some v1
def Ku:Cs (A6×AF×Unit):=(csC AH (csC (cdP AA) csN))
def LH (r:Bool):AV:=cdB.enc r
theorem Re (x0:A6) (x1:AF) (r:Bool) (h:IC x0 x1=some r):Sem E0 ⟨none,false⟩ OR ⟨Fr 9 (Av 0 (Ku.enc (x0,x1,()))),[]⟩ fun e s'=>(e = .normal\/e = .ret)/\∃ xs,D6 E0.P s'.fr s'.hp Tryz.f184.results.toList=some xs/\EA xs=LH r:=by
 unfold IC at h;refine Aj (A8 (s1:=⟨Fr 9 [(0,AH.enc x0),(1,.pe (AA.enc x1) 0)],[]⟩) AJ ?_)
 let p1:Option Blk:=some ⟨10,115,[AH.enc x0],false⟩
 refine AK AC [(1,.pe (AA.enc x1) 0),(2,.pt 0 0 0)] [p1] ?_;refine AG ?_;obtain ⟨v1,hv1,h⟩:=OB h
 let p2:Nat×AV:=(3,.v (.bool v1))
 refine AL (s1:=⟨Fr 9 [p2],[]⟩) ?_ ?_
 ·refine AD (n:=9) AC 4 [(6,.sl 1 (x0.1.2.2.2.2.2.2.2.2.map cdS.enc)),(7,.fn 185 [] [.pe (AA.enc x1) 0])] [p1] kr ?_
  refine AR (caps:=[]) (xs:=[.sl 1 (x0.1.2.2.2.2.2.2.2.2.map cdS.enc),.fn 185 [] [.pe (AA.enc x1) 0]]) (u:=(x0.1.2.2.2.2.2.2.2.2,x1,())) rfl rfl GA rfl (AB rfl) kr kr (AM (AU (c:=(cdL 1 cdS)) (v:=x0.1.2.2.2.2.2.2.2.2)) (AM (Sm.fn (Vl (AU (c:=(cdP AA)) (v:=x1)))) Af)) (.inl kr) hv1 ?_;refine AD (n:=9) AC 1 [p2] [p1] kr ?_;exact AI rfl (Ae [] trivial ⟨lv,trivial⟩)
 refine AN ?_;have hq:=OI h; subst hq;exact ⟨⟨Fr 9 [p2],[]⟩,AJ,.inr rfl,[.v (.bool v1)],kr,kr⟩
def UL:List AV->Option AV:=Dk Ku (fun a=>IC a.1 a.2.1) LH
theorem Ul:XOk 184 UL:=by
 refine AQ Tryz.func184 (c:=OR) ?h2 ⟨Tryz.call184⟩ Ku (fun a=>IC a.1 a.2.1) LH (fun a=>(by show 2<=9; decide)) ?h3 ?h4
 case h2=>kernel_rfl
 case h3=>intro b; kernel_rfl
 case h4=>exact fun a b h=>Re a.1 a.2.1 b h
/- trestle/court.named$1 -/
noncomputable def G9:Code:=A3 Tryz.f206
def Be (x0:A6) (x1:AF) (x2:AF):Option (Int) :=
 (IC x0 x1).bind fun v1 =>
 if (!(v1==x2.2.2.1))=true then
 some 0
 else
 some 1
def Ej:Cs (A6×AF×AF×Unit):=(csC AH (csC (cdP (cdF 184 (csE (cdP AA)) (fun _=>rfl))) (csC (cdP AA) csN)))
def En (r:Int):AV:=cdI.enc r
theorem Jh (x0:A6) (x1:AF) (x2:AF) (r:Int) (h:Be x0 x1 x2=some r):Sem E0 ⟨none,false⟩ G9 ⟨Fr 11 (Av 0 (Ej.enc (x0,x1,x2,()))),[]⟩ fun e s'=>(e = .normal\/e = .ret)/\∃ xs,D6 E0.P s'.fr s'.hp Tryz.f206.results.toList=some xs/\EA xs=En r:=by
 unfold Be at h
 let p1:Nat×AV:=(2,.pe (AA.enc x2) 0)
 let p2:Nat×AV:=(1,.pe (.fn 184 [] [.pe (AA.enc x1) 0]) 0)
 refine Aj (A8 (s1:=⟨Fr 11 [(0,AH.enc x0),p2,p1],[]⟩) AJ ?_)
 let p3:Option Blk:=some ⟨10,115,[AH.enc x0],false⟩
 refine AK AC [p2,p1,(3,.pt 0 0 0)] [p3] ?_;refine AG ?_;refine AG ?_;obtain ⟨v1,hv1,h⟩:=OB h
 let p4:Nat×AV:=(10,.v (.bool (!(v1==x2.2.2.1))))
 refine DI AC (s1:=⟨Fr 11 [p4],[]⟩) kr ?_ ?_
 ·refine AY (n:=11) AC 2 [p1,(5,.fn 184 [] [.pe (AA.enc x1) 0]),(6,AH.enc x0)] [p3] kr kr ?_
  refine Bg (caps:=[.pe (AA.enc x1) 0]) (xs:=[AH.enc x0]) (u:=(x0,x1,())) rfl rfl Ul rfl (AB rfl) kr kr (AM (AU (c:=AH) (v:=x0)) (AM (AU (c:=(cdP AA)) (v:=x1)) Af)) kr hv1 ?_;refine AY (n:=11) AC 3 [p4] [p3] kr kr ?_;exact RunDS.done rfl (Ae [] trivial ⟨lv,trivial⟩)
 refine AP (b:=(!(v1==x2.2.2.1))) kr (fun hb2=>?_) (fun hb2=>?_)
 ·rw [if_pos hb2] at h
  refine AK AC [(4,.v (.int .i64 0))] [] ?_;refine AN ?_;have hq:=OI h; subst hq;exact ⟨⟨Fr 11 [(4,.v (.int .i64 0))],[]⟩,AJ,.inr rfl,[.v (.int .i64 0)],kr,kr⟩
 ·rw [BY hb2] at h
  refine AT ?_;refine AK AC [(4,.v (.int .i64 1))] [] ?_;refine AN ?_;have hq:=OI h; subst hq;exact ⟨⟨Fr 11 [(4,.v (.int .i64 1))],[]⟩,AJ,.inr rfl,[.v (.int .i64 1)],kr,kr⟩
def KX:List AV->Option AV:=Dk Ej (fun a=>Be a.1 a.2.1 a.2.2.1) En
theorem Ke:XOk 206 KX:=by
 refine AQ Tryz.func206 (c:=G9) ?h2 ⟨Tryz.call206⟩ Ej (fun a=>Be a.1 a.2.1 a.2.2.1) En (fun a=>(by show 3<=11; decide)) ?h3 ?h4
 case h2=>kernel_rfl
 case h3=>intro b; kernel_rfl
 case h4=>exact fun a b h=>Jh a.1 a.2.1 a.2.2.1 b h
/- trestle/court.plain$6 -/
noncomputable def OT:Code:=A3 Tryz.f186
def ID (x0:A6) (x1:AF):Option (Bool) :=
 (BQ x1.2.2.2.1 x0.1.2.2.1).bind fun v1 =>
 some v1
def Kv:Cs (A6×AF×Unit):=(csC AH (csC (cdP AA) csN))
def LI (r:Bool):AV:=cdB.enc r
theorem Rg (x0:A6) (x1:AF) (r:Bool) (h:ID x0 x1=some r):Sem E0 ⟨none,false⟩ OT ⟨Fr 10 (Av 0 (Kv.enc (x0,x1,()))),[]⟩ fun e s'=>(e = .normal\/e = .ret)/\∃ xs,D6 E0.P s'.fr s'.hp Tryz.f186.results.toList=some xs/\EA xs=LI r:=by
 unfold ID at h;refine Aj (A8 (s1:=⟨Fr 10 [(0,AH.enc x0),(1,.pe (AA.enc x1) 0)],[]⟩) AJ ?_)
 let p1:Option Blk:=some ⟨10,115,[AH.enc x0],false⟩
 refine AK AC [(1,.pe (AA.enc x1) 0),(2,.pt 0 0 0)] [p1] ?_;refine AG ?_;obtain ⟨v1,hv1,h⟩:=OB h
 let p2:Nat×AV:=(3,.v (.bool v1))
 refine AL (s1:=⟨Fr 10 [p2],[]⟩) ?_ ?_
 ·refine AD (n:=10) AC 5 [(5,.sl 1 (x1.2.2.2.1.map cdS.enc)),(8,.st x0.1.2.2.1)] [p1] kr ?_
  refine AR (caps:=[]) (xs:=[.sl 1 (x1.2.2.2.1.map cdS.enc),.st x0.1.2.2.1]) (u:=(x1.2.2.2.1,x0.1.2.2.1,())) rfl rfl Dt rfl (AB rfl) kr kr (AM (AU (c:=(cdL 1 cdS)) (v:=x1.2.2.2.1)) (AM (AU (c:=cdS) (v:=x0.1.2.2.1)) Af)) (.inl kr) hv1 ?_;refine AD (n:=10) AC 1 [p2] [p1] kr ?_;exact AI rfl (Ae [] trivial ⟨lv,trivial⟩)
 refine AN ?_;have hq:=OI h; subst hq;exact ⟨⟨Fr 10 [p2],[]⟩,AJ,.inr rfl,[.v (.bool v1)],kr,kr⟩
def UM:List AV->Option AV:=Dk Kv (fun a=>ID a.1 a.2.1) LI
theorem Um:XOk 186 UM:=by
 refine AQ Tryz.func186 (c:=OT) ?h2 ⟨Tryz.call186⟩ Kv (fun a=>ID a.1 a.2.1) LI (fun a=>(by show 2<=10; decide)) ?h3 ?h4
 case h2=>kernel_rfl
 case h3=>intro b; kernel_rfl
 case h4=>exact fun a b h=>Rg a.1 a.2.1 b h
/- trestle/court.named$1 -/
noncomputable def HA:Code:=A3 Tryz.f206
def Bf (x0:A6) (x1:AF) (x2:AF):Option (Int) :=
 (ID x0 x1).bind fun v1 =>
 if (!(v1==x2.2.2.1))=true then
 some 0
 else
 some 1
def Ek:Cs (A6×AF×AF×Unit):=(csC AH (csC (cdP (cdF 186 (csE (cdP AA)) (fun _=>rfl))) (csC (cdP AA) csN)))
def Eo (r:Int):AV:=cdI.enc r
theorem Ji (x0:A6) (x1:AF) (x2:AF) (r:Int) (h:Bf x0 x1 x2=some r):Sem E0 ⟨none,false⟩ HA ⟨Fr 11 (Av 0 (Ek.enc (x0,x1,x2,()))),[]⟩ fun e s'=>(e = .normal\/e = .ret)/\∃ xs,D6 E0.P s'.fr s'.hp Tryz.f206.results.toList=some xs/\EA xs=Eo r:=by
 unfold Bf at h
 let p1:Nat×AV:=(2,.pe (AA.enc x2) 0)
 let p2:Nat×AV:=(1,.pe (.fn 186 [] [.pe (AA.enc x1) 0]) 0)
 refine Aj (A8 (s1:=⟨Fr 11 [(0,AH.enc x0),p2,p1],[]⟩) AJ ?_)
 let p3:Option Blk:=some ⟨10,115,[AH.enc x0],false⟩
 refine AK AC [p2,p1,(3,.pt 0 0 0)] [p3] ?_;refine AG ?_;refine AG ?_;obtain ⟨v1,hv1,h⟩:=OB h
 let p4:Nat×AV:=(10,.v (.bool (!(v1==x2.2.2.1))))
 refine DI AC (s1:=⟨Fr 11 [p4],[]⟩) kr ?_ ?_
 ·refine AY (n:=11) AC 2 [p1,(5,.fn 186 [] [.pe (AA.enc x1) 0]),(6,AH.enc x0)] [p3] kr kr ?_
  refine Bg (caps:=[.pe (AA.enc x1) 0]) (xs:=[AH.enc x0]) (u:=(x0,x1,())) rfl rfl Um rfl (AB rfl) kr kr (AM (AU (c:=AH) (v:=x0)) (AM (AU (c:=(cdP AA)) (v:=x1)) Af)) kr hv1 ?_;refine AY (n:=11) AC 3 [p4] [p3] kr kr ?_;exact RunDS.done rfl (Ae [] trivial ⟨lv,trivial⟩)
 refine AP (b:=(!(v1==x2.2.2.1))) kr (fun hb2=>?_) (fun hb2=>?_)
 ·rw [if_pos hb2] at h
  refine AK AC [(4,.v (.int .i64 0))] [] ?_;refine AN ?_;have hq:=OI h; subst hq;exact ⟨⟨Fr 11 [(4,.v (.int .i64 0))],[]⟩,AJ,.inr rfl,[.v (.int .i64 0)],kr,kr⟩
 ·rw [BY hb2] at h
  refine AT ?_;refine AK AC [(4,.v (.int .i64 1))] [] ?_;refine AN ?_;have hq:=OI h; subst hq;exact ⟨⟨Fr 11 [(4,.v (.int .i64 1))],[]⟩,AJ,.inr rfl,[.v (.int .i64 1)],kr,kr⟩
def KY:List AV->Option AV:=Dk Ek (fun a=>Bf a.1 a.2.1 a.2.2.1) Eo
theorem Kf:XOk 206 KY:=by
 refine AQ Tryz.func206 (c:=HA) ?h2 ⟨Tryz.call206⟩ Ek (fun a=>Bf a.1 a.2.1 a.2.2.1) Eo (fun a=>(by show 3<=11; decide)) ?h3 ?h4
 case h2=>kernel_rfl
 case h3=>intro b; kernel_rfl
 case h4=>exact fun a b h=>Ji a.1 a.2.1 a.2.2.1 b h
/- trestle/court.placed$1 -/
noncomputable def NU:Code:=A3 Tryz.f208
def Dm (x0:Int):Option (Bool) :=
 (if (decide (x0≥0))=true then some (decide (x0<=63)) else some false).bind fun j2 =>
 some j2
def Ju:Cs (Int×Unit):=(csC cdI csN)
def J0 (r:Bool):AV:=cdB.enc r
theorem Q4 (x0:Int) (r:Bool) (h:Dm x0=some r):Sem E0 ⟨none,false⟩ NU ⟨Fr 9 (Av 0 (Ju.enc (x0,()))),[]⟩ fun e s'=>(e = .normal\/e = .ret)/\∃ xs,D6 E0.P s'.fr s'.hp Tryz.f208.results.toList=some xs/\EA xs=J0 r:=by
 unfold Dm at h;refine Aj (A8 (s1:=⟨Fr 9 [(0,.v (.int .i64 x0))],[]⟩) AJ ?_);refine AK AC [(0,.v (.int .i64 x0))] [] ?_;refine AG ?_;obtain ⟨j2,hj2,h⟩:=OB h;refine AL (s1:=⟨Fr 9 [(2,.v (.bool j2))],[]⟩) ?_ ?_
 ·refine AD (n:=9) AC 3 [(0,.v (.int .i64 x0)),(5,.v (.bool (decide (x0≥0))))] [] kr ?_
  rcases BE (decide (x0≥0)) with hc3 | hc3
  ·rw [if_pos hc3] at hj2
   rw [hc3];refine AD (n:=9) AC 4 [(2,.v (.bool (decide (x0<=63))))] [] kr ?_;have hq:=OI hj2; subst hq;exact AI rfl AJ
  ·rw [BY hc3] at hj2
   rw [hc3];refine AD (n:=9) AC 4 [(2,.v (.bool false))] [] kr ?_;have hq:=OI hj2; subst hq;exact AI rfl AJ
 refine AN ?_;have hq:=OI h; subst hq;exact ⟨⟨Fr 9 [(2,.v (.bool j2))],[]⟩,AJ,.inr rfl,[.v (.bool j2)],kr,kr⟩
def Sz:List AV->Option AV:=Dk Ju (fun a=>Dm a.1) J0
theorem Ij:XOk 208 Sz:=by
 refine AQ Tryz.func208 (c:=NU) ?h2 ⟨Tryz.call208⟩ Ju (fun a=>Dm a.1) J0 (fun a=>(by show 1<=9; decide)) ?h3 ?h4
 case h2=>kernel_rfl
 case h3=>intro b; kernel_rfl
 case h4=>exact fun a b h=>Q4 a.1 b h
/- trestle/court.plain$8 -/
noncomputable def OV:Code:=A3 Tryz.f190
def Fk (x0:Int) (x1:AF):Option (Int) :=
 some ((wr .i64 ((wr .i64 (x0 * (wr .i64 ((wr .i64 (2 * x1.2.2.2.2)) + 1)))) + x1.2.2.2.2)).tmod 64)
def Kx:Cs (Int×AF×Unit):=(csC cdI (csC (cdP AA) csN))
def LK (r:Int):AV:=cdI.enc r
theorem Ri (x0:Int) (x1:AF) (r:Int) (h:Fk x0 x1=some r):Sem E0 ⟨none,false⟩ OV ⟨Fr 14 (Av 0 (Kx.enc (x0,x1,()))),[]⟩ fun e s'=>(e = .normal\/e = .ret)/\∃ xs,D6 E0.P s'.fr s'.hp Tryz.f190.results.toList=some xs/\EA xs=LK r:=by
 unfold Fk at h;refine Aj (A8 (s1:=⟨Fr 14 [(0,.v (.int .i64 x0)),(1,.pe (AA.enc x1) 0)],[]⟩) AJ ?_);refine AK AC [(0,.v (.int .i64 x0)),(1,.pe (AA.enc x1) 0)] [] ?_
 let p1:Nat×AV:=(3,.v (.int .i64 ((wr .i64 ((wr .i64 (x0 * (wr .i64 ((wr .i64 (2 * x1.2.2.2.2)) + 1)))) + x1.2.2.2.2)).tmod 64)))
 refine AK AC [p1] [] ?_;refine AN ?_;have hq:=OI h; subst hq;exact ⟨⟨Fr 14 [p1],[]⟩,AJ,.inr rfl,[.v (.int .i64 ((wr .i64 ((wr .i64 (x0 * (wr .i64 ((wr .i64 (2 * x1.2.2.2.2)) + 1)))) + x1.2.2.2.2)).tmod 64))],kr,kr⟩
def UO:List AV->Option AV:=Dk Kx (fun a=>Fk a.1 a.2.1) LK
theorem Pe:XOk 190 UO:=by
 refine AQ Tryz.func190 (c:=OV) ?h2 ⟨Tryz.call190⟩ Kx (fun a=>Fk a.1 a.2.1) LK (fun a=>(by show 2<=14; decide)) ?h3 ?h4
 case h2=>kernel_rfl
 case h3=>intro b; kernel_rfl
 case h4=>exact fun a b h=>Ri a.1 a.2.1 b h
end Go.Proofs.YtlalcoehgkmhlaaGreatDoor
