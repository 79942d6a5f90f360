/- Lemmas for the proof. -/
import Derived.Test.YtlalcoehgkmhlaaGreatDoorCourtOrdersM1
import Derived.Test.YtlalcoehgkmhlaaGreatDoorCourtOrdersM2
import Derived.Test.YtlalcoehgkmhlaaGreatDoorCourtOrdersM3
import Derived.Test.YtlalcoehgkmhlaaGreatDoorCourtOrdersM4
import Derived.Test.YtlalcoehgkmhlaaGreatDoorCourtOrdersM5
import Derived.Test.YtlalcoehgkmhlaaGreatDoorCourtOrdersM6
set_option maxHeartbeats 4000000
set_option maxRecDepth 100000
namespace Go.Proofs.YtlalcoehgkmhlaaGreatDoor
open Go.RowKit
/- trestle/trestleref03.Reason -/
noncomputable def Kk:Code:=A9 Tryz.f119
def D5 (x0:(List AH)) (x1:Af) (x2:Af) (x3:Int) (x4:Int):Nat->Int->Option ((Unit) ⊕ (Int×Int))
 | 0,_=>none
 | f + 1,c1 =>
  if (decide (c1 < (x0.length:Int)))=true then
  (idx x0 c1).bind fun v3 =>
  (if (!(v3.2.1==[]))=true then (idx x0 c1).bind fun v4 =>
  if (!(x1.2.1==v4.2.1))=true then some true else (idx x0 c1).bind fun v5 =>
  some (!(x2.2.1==v5.2.1)) else some false).bind fun j7 =>
  if j7=true then
  D5 x0 x1 x2 x3 x4 f (wr .i64 (c1 + 1))
  else
  (idx x0 c1).bind fun v9 =>
  (Gk v9 x1 x2 x3 x4).bind fun v10 =>
  if v10=true then
  some (.inr (c1,(-1)))
  else
  (idx x0 c1).bind fun v14 =>
  (Gk v14 x2 x1 x4 x3).bind fun v15 =>
  if v15=true then
  some (.inr (c1,1))
  else
  D5 x0 x1 x2 x3 x4 f (wr .i64 (c1 + 1))
  else
  some (.inl ())
def F5 (x0:(List AH)) (x1:Af) (x2:Af) (x3:Int) (x4:Int):Option (Int×Int) :=
 (D5 x0 x1 x2 x3 x4 100000 0).bind fun r19 =>
 match r19 with
 | (.inl _w20) =>
  some ((-1),0)
 | (.inr w21) =>
  some (w21.1,w21.2)
def Kv:Cs ((List AH)×Af×Af×Int×Int×Unit):=(csC (cdL 5 AA) (csC AE (csC AE (csC cdI (csC cdI csN)))))
def K5 (r:Int×Int):AV:= .tp [cdI.enc r.1,cdI.enc r.2]
theorem Lh (x0:(List AH)) (x1:Af) (x2:Af) (x3:Int) (x4:Int):∀ (f:Nat) (c1:Int) (r:(Unit) ⊕ (Int×Int)),D5 x0 x1 x2 x3 x4 f c1=some r->SemN E0 ⟨none,false⟩ (pc Kk [1,0,1,0,0]) f ⟨Fr 65 [(0,.sl 5 (x0.map AA.enc)),(3,.v (.int .i64 x3)),(4,.v (.int .i64 x4)),(6,.pt 0 0 0),(7,.pt 1 0 0),(12,.v (.int .i64 c1))],[some ⟨9,42,[AE.enc x1],false⟩,some ⟨9,42,[AE.enc x2],false⟩]⟩ (fun e s=>match r with
 | (.inl _w)=>e=(.exit 0)/\Wk E0 s ⟨Fr 65 [],[]⟩
 | (.inr w)=>e = .ret/\Wk E0 s ⟨Fr 65 [(10,.v (.int .i64 w.1)),(11,.v (.int .i64 w.2))],[]⟩):=by
 intro f;induction f with
 | zero=>intro c1 r h; cases h
 | succ f ih0 =>
  intro c1 r h
  have ih:=fun (c1:Int)=>ih0 c1 r
  unfold D5 at h;refine Bc ?_;refine AG ?_;refine AG ?_;refine AL (s1:=⟨Fr 65 [(0,.sl 5 (x0.map AA.enc)),(3,.v (.int .i64 x3)),(4,.v (.int .i64 x4)),(6,.pt 0 0 0),(7,.pt 1 0 0),(12,.v (.int .i64 c1)),(16,.v (.bool (decide (c1 < (x0.length:Int)))))],[some ⟨9,42,[AE.enc x1],false⟩,some ⟨9,42,[AE.enc x2],false⟩]⟩) ?_ ?_
  ·refine AD (n:=65) AC 2 [(0,.sl 5 (x0.map AA.enc)),(3,.v (.int .i64 x3)),(4,.v (.int .i64 x4)),(6,.pt 0 0 0),(7,.pt 1 0 0),(12,.v (.int .i64 c1)),(13,.v (.int .i64 c1)),(14,.sl 5 (x0.map AA.enc))] [some ⟨9,42,[AE.enc x1],false⟩,some ⟨9,42,[AE.enc x2],false⟩] kr ?_
   refine AW AC 0 rfl (DW (AB rfl) rfl (CO (a:= .sl 5 (x0.map AA.enc)) kr (BS (el:=60) kr))) ?_;exact AX AC
  refine AP (b:=(decide (c1 < (x0.length:Int)))) kr (fun hb2=>?_) (fun hb2=>?_)
  ·rw [if_pos hb2] at h
   refine AT ?_;refine AG ?_;refine Aa ?_;refine AG ?_;refine AG ?_;obtain ⟨v3,hv3,h⟩:=OB h;obtain ⟨j7,hj7,h⟩:=OB h;refine C0 AC (s1:=⟨Fr 65 [(0,.sl 5 (x0.map AA.enc)),(3,.v (.int .i64 x3)),(4,.v (.int .i64 x4)),(6,.pt 0 0 0),(7,.pt 1 0 0),(12,.v (.int .i64 c1)),(44,.v (.bool j7))],[some ⟨9,42,[AE.enc x1],false⟩,some ⟨9,42,[AE.enc x2],false⟩]⟩) kr ?_ ?_
   ·refine AU (n:=65) AC 2 [(0,.sl 5 (x0.map AA.enc)),(3,.v (.int .i64 x3)),(4,.v (.int .i64 x4)),(6,.pt 0 0 0),(7,.pt 1 0 0),(12,.v (.int .i64 c1)),(19,.sl 5 (x0.map AA.enc)),(20,.v (.int .i64 c1))] [some ⟨9,42,[AE.enc x1],false⟩,some ⟨9,42,[AE.enc x2],false⟩] kr kr ?_
    refine RunDS.one AC rfl kr (HF kr (AB rfl) rfl (AS (a:= .sl 5 (x0.map AA.enc)) (b:= .v (.int .i64 c1)) kr kr (DP (e:=AA.enc) (el:=60) (k:=5) (ki:= .i64) kr kr hv3)) kr) ?_;refine AU (n:=65) AC 4 [(0,.sl 5 (x0.map AA.enc)),(3,.v (.int .i64 x3)),(4,.v (.int .i64 x4)),(6,.pt 0 0 0),(7,.pt 1 0 0),(12,.v (.int .i64 c1)),(25,.v (.bool (!(v3.2.1==[]))))] [some ⟨9,42,[AE.enc x1],false⟩,some ⟨9,42,[AE.enc x2],false⟩] kr kr ?_;rcases BE (!(v3.2.1==[])) with hc17 | hc17
    ·rw [if_pos hc17] at hj7
     rw [hc17];refine AU (n:=65) AC 4 [(0,.sl 5 (x0.map AA.enc)),(3,.v (.int .i64 x3)),(4,.v (.int .i64 x4)),(6,.pt 0 0 0),(7,.pt 1 0 0),(12,.v (.int .i64 c1)),(25,.v (.bool true)),(26,.pt 0 0 1),(27,.st x1.2.1),(28,.sl 5 (x0.map AA.enc)),(29,.v (.int .i64 c1))] [some ⟨9,42,[AE.enc x1],false⟩,some ⟨9,42,[AE.enc x2],false⟩] kr kr ?_;obtain ⟨v4,hv4,hj7⟩:=OB hj7;refine RunDS.one AC rfl kr (HF kr kr rfl (AS (a:= .sl 5 (x0.map AA.enc)) (b:= .v (.int .i64 c1)) kr kr (DP (e:=AA.enc) (el:=60) (k:=5) (ki:= .i64) kr kr hv4)) kr) ?_;refine AU (n:=65) AC 4 [(0,.sl 5 (x0.map AA.enc)),(3,.v (.int .i64 x3)),(4,.v (.int .i64 x4)),(6,.pt 0 0 0),(7,.pt 1 0 0),(12,.v (.int .i64 c1)),(25,.v (.bool true)),(26,.pt 0 0 1),(27,.st x1.2.1),(28,.sl 5 (x0.map AA.enc)),(29,.v (.int .i64 c1)),(30,.pe (AA.enc v4) 0),(31,.pe (AA.enc v4) 1),(32,.st v4.2.1),(33,.v (.bool (!(x1.2.1==v4.2.1)))),(34,.v (.bool (!(x1.2.1==v4.2.1))))] [some ⟨9,42,[AE.enc x1],false⟩,some ⟨9,42,[AE.enc x2],false⟩] kr kr ?_;rcases BE (!(x1.2.1==v4.2.1)) with hc18 | hc18
     ·rw [if_pos hc18] at hj7
      rw [hc18];refine AU (n:=65) AC 10 [(0,.sl 5 (x0.map AA.enc)),(3,.v (.int .i64 x3)),(4,.v (.int .i64 x4)),(6,.pt 0 0 0),(7,.pt 1 0 0),(12,.v (.int .i64 c1)),(26,.pt 0 0 1),(27,.st x1.2.1),(28,.sl 5 (x0.map AA.enc)),(29,.v (.int .i64 c1)),(30,.pe (AA.enc v4) 0),(31,.pe (AA.enc v4) 1),(32,.st v4.2.1),(33,.v (.bool true)),(34,.v (.bool true)),(35,.tp []),(36,.tp []),(37,.tp []),(38,.tp []),(39,.tp []),(40,.tp []),(41,.tp []),(42,.tp []),(43,.v (.bool true)),(44,.v (.bool true))] [some ⟨9,42,[AE.enc x1],false⟩,some ⟨9,42,[AE.enc x2],false⟩] kr kr ?_;have hq:=OI hj7; subst hq;exact RunDS.done rfl (Ac [0,1] ⟨⟨_,rfl,GO⟩,⟨_,rfl,GO⟩,trivial⟩ ⟨lv,lv,lv,lv,lv,lv,lv,trivial⟩)
     ·rw [BV hc18] at hj7
      rw [hc18];refine AU (n:=65) AC 4 [(0,.sl 5 (x0.map AA.enc)),(3,.v (.int .i64 x3)),(4,.v (.int .i64 x4)),(6,.pt 0 0 0),(7,.pt 1 0 0),(12,.v (.int .i64 c1)),(25,.v (.bool true)),(26,.pt 0 0 1),(27,.st x1.2.1),(28,.sl 5 (x0.map AA.enc)),(29,.v (.int .i64 c1)),(30,.pe (AA.enc v4) 0),(31,.pe (AA.enc v4) 1),(32,.st v4.2.1),(33,.v (.bool false)),(34,.v (.bool false)),(35,.pt 1 0 1),(36,.st x2.2.1),(37,.sl 5 (x0.map AA.enc)),(38,.v (.int .i64 c1))] [some ⟨9,42,[AE.enc x1],false⟩,some ⟨9,42,[AE.enc x2],false⟩] kr kr ?_;obtain ⟨v5,hv5,hj7⟩:=OB hj7;refine RunDS.one AC rfl kr (HF kr kr rfl (AS (a:= .sl 5 (x0.map AA.enc)) (b:= .v (.int .i64 c1)) kr kr (DP (e:=AA.enc) (el:=60) (k:=5) (ki:= .i64) kr kr hv5)) kr) ?_;refine AU (n:=65) AC 5 [(0,.sl 5 (x0.map AA.enc)),(3,.v (.int .i64 x3)),(4,.v (.int .i64 x4)),(6,.pt 0 0 0),(7,.pt 1 0 0),(12,.v (.int .i64 c1)),(26,.pt 0 0 1),(27,.st x1.2.1),(28,.sl 5 (x0.map AA.enc)),(29,.v (.int .i64 c1)),(30,.pe (AA.enc v4) 0),(31,.pe (AA.enc v4) 1),(32,.st v4.2.1),(33,.v (.bool false)),(34,.v (.bool false)),(35,.pt 1 0 1),(36,.st x2.2.1),(37,.sl 5 (x0.map AA.enc)),(38,.v (.int .i64 c1)),(39,.pe (AA.enc v5) 0),(40,.pe (AA.enc v5) 1),(41,.st v5.2.1),(42,.v (.bool (!(x2.2.1==v5.2.1)))),(43,.v (.bool (!(x2.2.1==v5.2.1)))),(44,.v (.bool (!(x2.2.1==v5.2.1))))] [some ⟨9,42,[AE.enc x1],false⟩,some ⟨9,42,[AE.enc x2],false⟩] kr kr ?_;have hq:=OI hj7; subst hq;exact RunDS.done rfl (Ac [0,1] ⟨⟨_,rfl,GO⟩,⟨_,rfl,GO⟩,trivial⟩ ⟨lv,lv,lv,lv,lv,lv,lv,trivial⟩)
    ·rw [BV hc17] at hj7
     rw [hc17];refine AU (n:=65) AC 19 [(0,.sl 5 (x0.map AA.enc)),(3,.v (.int .i64 x3)),(4,.v (.int .i64 x4)),(6,.pt 0 0 0),(7,.pt 1 0 0),(12,.v (.int .i64 c1)),(26,.tp []),(27,.tp []),(28,.tp []),(29,.tp []),(30,.tp []),(31,.tp []),(32,.tp []),(33,.tp []),(34,.tp []),(35,.tp []),(36,.tp []),(37,.tp []),(38,.tp []),(39,.tp []),(40,.tp []),(41,.tp []),(42,.tp []),(43,.tp []),(44,.v (.bool false))] [some ⟨9,42,[AE.enc x1],false⟩,some ⟨9,42,[AE.enc x2],false⟩] kr kr ?_;have hq:=OI hj7; subst hq;exact RunDS.done rfl (Ac [0,1] ⟨⟨_,rfl,GO⟩,⟨_,rfl,GO⟩,trivial⟩ ⟨lv,lv,lv,lv,lv,lv,lv,trivial⟩)
   refine AP (b:=j7) kr (fun hb8=>?_) (fun hb8=>?_)
   ·rw [if_pos hb8] at h
    refine CA ?_;refine DC AC [(0,.sl 5 (x0.map AA.enc)),(3,.v (.int .i64 x3)),(4,.v (.int .i64 x4)),(6,.pt 0 0 0),(7,.pt 1 0 0),(12,.v (.int .i64 (wr .i64 (c1 + 1))))] [some ⟨9,42,[AE.enc x1],false⟩,some ⟨9,42,[AE.enc x2],false⟩] ?_;exact Aj (s1:=⟨Fr 65 [(0,.sl 5 (x0.map AA.enc)),(3,.v (.int .i64 x3)),(4,.v (.int .i64 x4)),(6,.pt 0 0 0),(7,.pt 1 0 0),(12,.v (.int .i64 (wr .i64 (c1 + 1))))],[some ⟨9,42,[AE.enc x1],false⟩,some ⟨9,42,[AE.enc x2],false⟩]⟩) (Ac [0,1] ⟨⟨_,rfl,GO⟩,⟨_,rfl,GO⟩,trivial⟩ ⟨lv,lv,lv,lv,lv,lv,trivial⟩) (ih (wr .i64 (c1 + 1)) h)
   ·rw [BV hb8] at h
    refine AT ?_;refine AG ?_;refine AG ?_;obtain ⟨v9,hv9,h⟩:=OB h;obtain ⟨v10,hv10,h⟩:=OB h;refine C0 AC (s1:=⟨Fr 65 [(0,.sl 5 (x0.map AA.enc)),(3,.v (.int .i64 x3)),(4,.v (.int .i64 x4)),(6,.pt 0 0 0),(7,.pt 1 0 0),(12,.v (.int .i64 c1)),(53,.v (.bool v10))],[some ⟨9,42,[AE.enc x1],false⟩,some ⟨9,42,[AE.enc x2],false⟩]⟩) kr ?_ ?_
    ·refine AU (n:=65) AC 2 [(0,.sl 5 (x0.map AA.enc)),(3,.v (.int .i64 x3)),(4,.v (.int .i64 x4)),(6,.pt 0 0 0),(7,.pt 1 0 0),(12,.v (.int .i64 c1)),(45,.sl 5 (x0.map AA.enc)),(46,.v (.int .i64 c1))] [some ⟨9,42,[AE.enc x1],false⟩,some ⟨9,42,[AE.enc x2],false⟩] kr kr ?_
     refine RunDS.one AC rfl kr (HF kr (AB rfl) rfl (AS (a:= .sl 5 (x0.map AA.enc)) (b:= .v (.int .i64 c1)) kr kr (DP (e:=AA.enc) (el:=60) (k:=5) (ki:= .i64) kr kr hv9)) kr) ?_;refine AU (n:=65) AC 5 [(0,.sl 5 (x0.map AA.enc)),(3,.v (.int .i64 x3)),(4,.v (.int .i64 x4)),(6,.pt 0 0 0),(7,.pt 1 0 0),(12,.v (.int .i64 c1)),(48,AA.enc v9),(49,AE.enc x1),(50,AE.enc x2),(51,.v (.int .i64 x3)),(52,.v (.int .i64 x4))] [some ⟨9,42,[AE.enc x1],false⟩,some ⟨9,42,[AE.enc x2],false⟩] kr kr ?_;refine BQ (caps:=[]) (xs:=[AA.enc v9,AE.enc x1,AE.enc x2,.v (.int .i64 x3),.v (.int .i64 x4)]) (u:=(v9,x1,x2,x3,x4,())) rfl rfl PG rfl (AB rfl) kr kr (AJ (AQ (c:=AA) (v:=v9)) (AJ (AQ (c:=AE) (v:=x1)) (AJ (AQ (c:=AE) (v:=x2)) (AJ (AQ (c:=cdI) (v:=x3)) (AJ (AQ (c:=cdI) (v:=x4)) Ah))))) kr hv10 ?_;exact RunDS.done rfl (Ac [0,1] ⟨⟨_,rfl,GO⟩,⟨_,rfl,GO⟩,trivial⟩ ⟨lv,lv,lv,lv,lv,lv,lv,trivial⟩)
    refine AP (b:=v10) kr (fun hb11=>?_) (fun hb11=>?_)
    ·rw [if_pos hb11] at h
     refine AG ?_;refine AL (s1:=⟨Fr 65 [(10,.v (.int .i64 c1)),(11,.v (.int .i64 (-1)))],[]⟩) ?_ ?_
     ·refine AD (n:=65) AC 3 [(10,.v (.int .i64 c1)),(11,.v (.int .i64 (-1)))] [some ⟨9,42,[AE.enc x1],false⟩,some ⟨9,42,[AE.enc x2],false⟩] kr ?_
      exact AI rfl (Ac [] trivial ⟨lv,lv,trivial⟩)
     refine AO ?_;have hq:=OI h; subst hq;exact ⟨rfl,AM⟩
    ·rw [BV hb11] at h
     refine AT ?_;refine AG ?_;obtain ⟨v14,hv14,h⟩:=OB h;obtain ⟨v15,hv15,h⟩:=OB h;refine C0 AC (s1:=⟨Fr 65 [(0,.sl 5 (x0.map AA.enc)),(3,.v (.int .i64 x3)),(4,.v (.int .i64 x4)),(6,.pt 0 0 0),(7,.pt 1 0 0),(12,.v (.int .i64 c1)),(63,.v (.bool v15))],[some ⟨9,42,[AE.enc x1],false⟩,some ⟨9,42,[AE.enc x2],false⟩]⟩) kr ?_ ?_
     ·refine AU (n:=65) AC 2 [(0,.sl 5 (x0.map AA.enc)),(3,.v (.int .i64 x3)),(4,.v (.int .i64 x4)),(6,.pt 0 0 0),(7,.pt 1 0 0),(12,.v (.int .i64 c1)),(55,.sl 5 (x0.map AA.enc)),(56,.v (.int .i64 c1))] [some ⟨9,42,[AE.enc x1],false⟩,some ⟨9,42,[AE.enc x2],false⟩] kr kr ?_
      refine RunDS.one AC rfl kr (HF kr (AB rfl) rfl (AS (a:= .sl 5 (x0.map AA.enc)) (b:= .v (.int .i64 c1)) kr kr (DP (e:=AA.enc) (el:=60) (k:=5) (ki:= .i64) kr kr hv14)) kr) ?_;refine AU (n:=65) AC 5 [(0,.sl 5 (x0.map AA.enc)),(3,.v (.int .i64 x3)),(4,.v (.int .i64 x4)),(6,.pt 0 0 0),(7,.pt 1 0 0),(12,.v (.int .i64 c1)),(58,AA.enc v14),(59,AE.enc x2),(60,AE.enc x1),(61,.v (.int .i64 x4)),(62,.v (.int .i64 x3))] [some ⟨9,42,[AE.enc x1],false⟩,some ⟨9,42,[AE.enc x2],false⟩] kr kr ?_;refine BQ (caps:=[]) (xs:=[AA.enc v14,AE.enc x2,AE.enc x1,.v (.int .i64 x4),.v (.int .i64 x3)]) (u:=(v14,x2,x1,x4,x3,())) rfl rfl PG rfl (AB rfl) kr kr (AJ (AQ (c:=AA) (v:=v14)) (AJ (AQ (c:=AE) (v:=x2)) (AJ (AQ (c:=AE) (v:=x1)) (AJ (AQ (c:=cdI) (v:=x4)) (AJ (AQ (c:=cdI) (v:=x3)) Ah))))) kr hv15 ?_;exact RunDS.done rfl (Ac [0,1] ⟨⟨_,rfl,GO⟩,⟨_,rfl,GO⟩,trivial⟩ ⟨lv,lv,lv,lv,lv,lv,lv,trivial⟩)
     refine AP (b:=v15) kr (fun hb16=>?_) (fun hb16=>?_)
     ·rw [if_pos hb16] at h
      refine AG ?_;refine AL (s1:=⟨Fr 65 [(10,.v (.int .i64 c1)),(11,.v (.int .i64 1))],[]⟩) ?_ ?_
      ·refine AD (n:=65) AC 3 [(10,.v (.int .i64 c1)),(11,.v (.int .i64 1))] [some ⟨9,42,[AE.enc x1],false⟩,some ⟨9,42,[AE.enc x2],false⟩] kr ?_
       exact AI rfl (Ac [] trivial ⟨lv,lv,trivial⟩)
      refine AO ?_;have hq:=OI h; subst hq;exact ⟨rfl,AM⟩
     ·rw [BV hb16] at h
      refine AT ?_;refine DC AC [(0,.sl 5 (x0.map AA.enc)),(3,.v (.int .i64 x3)),(4,.v (.int .i64 x4)),(6,.pt 0 0 0),(7,.pt 1 0 0),(12,.v (.int .i64 (wr .i64 (c1 + 1))))] [some ⟨9,42,[AE.enc x1],false⟩,some ⟨9,42,[AE.enc x2],false⟩] ?_;exact Aj (s1:=⟨Fr 65 [(0,.sl 5 (x0.map AA.enc)),(3,.v (.int .i64 x3)),(4,.v (.int .i64 x4)),(6,.pt 0 0 0),(7,.pt 1 0 0),(12,.v (.int .i64 (wr .i64 (c1 + 1))))],[some ⟨9,42,[AE.enc x1],false⟩,some ⟨9,42,[AE.enc x2],false⟩]⟩) (Ac [0,1] ⟨⟨_,rfl,GO⟩,⟨_,rfl,GO⟩,trivial⟩ ⟨lv,lv,lv,lv,lv,lv,trivial⟩) (ih (wr .i64 (c1 + 1)) h)
  ·rw [BV hb2] at h
   refine CA ?_;have hq:=OI h; subst hq;exact ⟨rfl,(Ac [] trivial trivial)⟩
theorem Rl (x0:(List AH)) (x1:Af) (x2:Af) (x3:Int) (x4:Int) (r:Int×Int) (h:F5 x0 x1 x2 x3 x4=some r):Sem E0 ⟨none,false⟩ Kk ⟨Fr 65 (A0 0 (Kv.enc (x0,x1,x2,x3,x4,()))),[]⟩ fun e s'=>(e = .normal\/e = .ret)/\∃ xs,Dz E0.P s'.fr s'.hp Tryz.f119.results.toList=some xs/\D0 xs=K5 r:=by
 unfold F5 at h
 let p1:Nat×AV:=(4,.v (.int .i64 x4))
 let p2:Nat×AV:=(3,.v (.int .i64 x3))
 let p3:Nat×AV:=(0,.sl 5 (x0.map AA.enc))
 refine Ao (BL (s1:=⟨Fr 65 [p3,(1,AE.enc x1),(2,AE.enc x2),p2,p1],[]⟩) AM ?_)
 let p4:Option Blk:=some ⟨9,42,[AE.enc x2],false⟩
 let p5:Option Blk:=some ⟨9,42,[AE.enc x1],false⟩
 let p6:Nat×AV:=(7,.pt 1 0 0)
 let p7:Nat×AV:=(6,.pt 0 0 0)
 refine AK AC [p3,p2,p1,p7,p6] [p5,p4] ?_;refine AG ?_
 let p8:Nat×AV:=(12,.v (.int .i64 0))
 refine AK AC [p3,p2,p1,p7,p6,p8] [p5,p4] ?_;refine Aa ?_;obtain ⟨r19,hr19,h⟩:=OB h;refine CF (n:=100000) ?_;rcases r19 with w20 | w21
 ·try dsimp only at h
  refine A1 (Aj (s1:=⟨Fr 65 [p3,p2,p1,p7,p6,p8],[p5,p4]⟩) (Ac [0,1] ⟨⟨_,rfl,GO⟩,⟨_,rfl,GO⟩,trivial⟩ ⟨lv,lv,lv,lv,lv,lv,trivial⟩) (Lh x0 x1 x2 x3 x4 _ 0 _ hr19)) ?_;refine AK AC [(10,.v (.int .i64 (-1))),(11,.v (.int .i64 0))] [] ?_;refine AO ?_;have hq:=OI h; subst hq;exact ⟨⟨Fr 65 [(10,.v (.int .i64 (-1))),(11,.v (.int .i64 0))],[]⟩,AM,.inr rfl,[.v (.int .i64 (-1)),.v (.int .i64 0)],kr,kr⟩
 ·try dsimp only at h
  refine A1 (Aj (s1:=⟨Fr 65 [p3,p2,p1,p7,p6,p8],[p5,p4]⟩) (Ac [0,1] ⟨⟨_,rfl,GO⟩,⟨_,rfl,GO⟩,trivial⟩ ⟨lv,lv,lv,lv,lv,lv,trivial⟩) (Lh x0 x1 x2 x3 x4 _ 0 _ hr19)) ?_;have hq:=OI h; subst hq;exact ⟨⟨Fr 65 [(10,.v (.int .i64 w21.1)),(11,.v (.int .i64 w21.2))],[]⟩,AM,.inr rfl,[.v (.int .i64 w21.1),.v (.int .i64 w21.2)],kr,kr⟩
def UA:List AV->Option AV:=Dm Kv (fun a=>F5 a.1 a.2.1 a.2.2.1 a.2.2.2.1 a.2.2.2.2.1) K5
theorem PF:XOk 119 UA:=by
 refine AR Tryz.func119 (c:=Kk) ?h2 ⟨Tryz.call119⟩ Kv (fun a=>F5 a.1 a.2.1 a.2.2.1 a.2.2.2.1 a.2.2.2.2.1) K5 (fun a=>(by show 5<=65; decide)) ?h3 ?h4
 case h2=>kernel_rfl
 case h3=>intro b; kernel_rfl
 case h4=>exact fun a b h=>Rl a.1 a.2.1 a.2.2.1 a.2.2.2.1 a.2.2.2.2.1 b h
/- trestle/trestleref03.Goes -/
noncomputable def Pj:Code:=A9 Tryz.f150
def IG (x0:(List AH)) (x1:(List Af)) (x2:Int) (x3:Int):Option (Bool) :=
 (idx x1 x2).bind fun v1 =>
 (idx x1 x3).bind fun v2 =>
 (F5 x0 v1 v2 x2 x3).bind fun v3 =>
 some (decide (v3.2 < 0))
def Mj:Cs ((List AH)×(List Af)×Int×Int×Unit):=(csC (cdL 5 AA) (csC (cdL 9 AE) (csC cdI (csC cdI csN))))
def Mu (r:Bool):AV:=cdB.enc r
theorem T2 (x0:(List AH)) (x1:(List Af)) (x2:Int) (x3:Int) (r:Bool) (h:IG x0 x1 x2 x3=some r):Sem E0 ⟨none,false⟩ Pj ⟨Fr 28 (A0 0 (Mj.enc (x0,x1,x2,x3,()))),[]⟩ fun e s'=>(e = .normal\/e = .ret)/\∃ xs,Dz E0.P s'.fr s'.hp Tryz.f150.results.toList=some xs/\D0 xs=Mu r:=by
 unfold IG at h
 let p1:Nat×AV:=(3,.v (.int .i64 x3))
 let p2:Nat×AV:=(2,.v (.int .i64 x2))
 let p3:Nat×AV:=(1,.sl 9 (x1.map AE.enc))
 let p4:Nat×AV:=(0,.sl 5 (x0.map AA.enc))
 refine Ao (BL (s1:=⟨Fr 28 [p4,p3,p2,p1],[]⟩) AM ?_);refine AK AC [p4,p3,p2,p1] [] ?_;refine AG ?_;obtain ⟨v1,hv1,h⟩:=OB h;obtain ⟨v2,hv2,h⟩:=OB h;obtain ⟨v3,hv3,h⟩:=OB h;refine C0 AC (s1:=⟨Fr 28 [(10,.v (.int .i64 v3.2))],[]⟩) kr ?_ ?_
 ·let p5:Nat×AV:=(12,.sl 5 (x0.map AA.enc))
  refine AU (n:=28) AC 3 [p3,p2,p1,p5,(13,.sl 9 (x1.map AE.enc)),(14,.v (.int .i64 x2))] [] kr kr ?_;refine RunDS.one AC rfl kr (HF kr (AB rfl) rfl (AS (a:= .sl 9 (x1.map AE.enc)) (b:= .v (.int .i64 x2)) kr kr (DP (e:=AE.enc) (el:=42) (k:=9) (ki:= .i64) kr kr hv1)) kr) ?_;refine AU (n:=28) AC 3 [p2,p1,p5,(16,AE.enc v1),(17,.sl 9 (x1.map AE.enc)),(18,.v (.int .i64 x3))] [] kr kr ?_;refine RunDS.one AC rfl kr (HF kr (AB rfl) rfl (AS (a:= .sl 9 (x1.map AE.enc)) (b:= .v (.int .i64 x3)) kr kr (DP (e:=AE.enc) (el:=42) (k:=9) (ki:= .i64) kr kr hv2)) kr) ?_;refine AU (n:=28) AC 3 [p5,(16,AE.enc v1),(20,AE.enc v2),(21,.v (.int .i64 x2)),(22,.v (.int .i64 x3))] [] kr kr ?_;refine BQ (caps:=[]) (xs:=[.sl 5 (x0.map AA.enc),AE.enc v1,AE.enc v2,.v (.int .i64 x2),.v (.int .i64 x3)]) (u:=(x0,v1,v2,x2,x3,())) rfl rfl PF rfl (AB rfl) kr kr (AJ (AQ (c:=(cdL 5 AA)) (v:=x0)) (AJ (AQ (c:=AE) (v:=v1)) (AJ (AQ (c:=AE) (v:=v2)) (AJ (AQ (c:=cdI) (v:=x2)) (AJ (AQ (c:=cdI) (v:=x3)) Ah))))) kr hv3 ?_;refine AU (n:=28) AC 5 [(10,.v (.int .i64 v3.2))] [] kr kr ?_;exact RunDS.done rfl AM
 let p6:Nat×AV:=(8,.v (.bool (decide (v3.2 < 0))))
 refine AK AC [p6] [] ?_;refine AO ?_;have hq:=OI h; subst hq;exact ⟨⟨Fr 28 [p6],[]⟩,AM,.inr rfl,[.v (.bool (decide (v3.2 < 0)))],kr,kr⟩
def WX:List AV->Option AV:=Dm Mj (fun a=>IG a.1 a.2.1 a.2.2.1 a.2.2.2.1) Mu
theorem Wn:XOk 150 WX:=by
 refine AR Tryz.func150 (c:=Pj) ?h2 ⟨Tryz.call150⟩ Mj (fun a=>IG a.1 a.2.1 a.2.2.1 a.2.2.2.1) Mu (fun a=>(by show 4<=28; decide)) ?h3 ?h4
 case h2=>kernel_rfl
 case h3=>intro b; kernel_rfl
 case h4=>exact fun a b h=>T2 a.1 a.2.1 a.2.2.1 a.2.2.2.1 b h
/- trestle/trestleref03.groups -/
noncomputable def Ga:Code:=A9 Tryz.f117
def Dl (x0:(List AH)) (x1:(List Af)) (c2:(List Int)) (c8:Int):Nat->Bool->Int->Option ((Bool))
 | 0,_,_=>none
 | f + 1,c14,c15 =>
  if (decide (c15 < (c2.length:Int)))=true then
  (if c14=true then (idx c2 c15).bind fun v17 =>
  (idx c2 c8).bind fun v18 =>
  (IG x0 x1 v17 v18).bind fun v19 =>
  some (!v19) else some false).bind fun j20 =>
  Dl x0 x1 c2 c8 f j20 (wr .i64 (c15 + 1))
  else
  some c14
def Hf (c2:(List Int)) (c8:Int) (c10:(List Int)) (c12:(List Int)) (r33:Bool):Option (((List Int)×(List Int))) :=
 if r33=true then
 (idx c2 c8).bind fun v37 =>
 if (EC 8 (c10.length + ([v37]:List Int).length))=true then
 some ((c10++([v37]:List Int)),c12)
 else none
 else
 (idx c2 c8).bind fun v53 =>
 if (EC 8 (c12.length + ([v53]:List Int).length))=true then
 some (c10,(c12++([v53]:List Int)))
 else none
def Dk (x0:(List AH)) (x1:(List Af)) (c2:(List Int)):Nat->Int->(List Int)->(List Int)->Option (((List Int)×(List Int)))
 | 0,_,_,_=>none
 | f + 1,c8,c10,c12 =>
  if (decide (c8 < (c2.length:Int)))=true then
  (Dl x0 x1 c2 c8 100000 true 0).bind fun r33 =>
  (Hf c2 c8 c10 c12 r33).bind fun r65 =>
  Dk x0 x1 c2 f (wr .i64 (c8 + 1)) r65.1 r65.2
  else
  some (c10,c12)
def D6 (x0:(List AH)) (x1:(List Af)):Nat->(List Int)->(List (List Int))->Option (((List (List Int))) ⊕ ((List (List Int))))
 | 0,_,_=>none
 | f + 1,c2,c4 =>
  if (decide ((c2.length:Int) > 0))=true then
  (Dk x0 x1 c2 100000 0 ([]:(List Int)) ([]:(List Int))).bind fun r75 =>
  if ((r75.1.length:Int)==0)=true then
  some (.inr c4)
  else
  if (EC 24 (c4.length + ([r75.1]:List (List Int)).length))=true then
  D6 x0 x1 f r75.2 (c4++([r75.1]:List (List Int)))
  else none
  else
  some (.inl c4)
def He (x0:(List AH)) (x1:(List Af)) (x2:(List Int)):Option ((List (List Int))) :=
 (D6 x0 x1 100000 x2 ([]:(List (List Int)))).bind fun r107 =>
 match r107 with
 | (.inl w108) =>
  some w108
 | (.inr w115) =>
  some w115
theorem QJ {L:List Asn}(x0:(List AH)) (x1:(List Af)) (c2:(List Int)) (c8:Int) (e3:AV) (c4:(List (List Int))) (e9:AV) (c10:(List Int)) (e11:AV) (c12:(List Int)):∀ (f:Nat) (c14:Bool) (c15:Int) (r:(Bool)),Dl x0 x1 c2 c8 f c14 c15=some r->∀ (hp:Hp),T hp ((own_ (ocL 1 48 (ocV (cdL 1 cdI))) e3 c4)::(own_ (ocL 1 3 (ocV cdI)) e9 c10)::(own_ (ocL 1 3 (ocV cdI)) e11 c12)::L)->SemYN E0 ⟨none,false⟩ (pc Ga [1,1,0,0,0,1,0,1,0,1,0,0,1,0,0,1,0,1,0,0]) f ⟨Fr 68 [(0,.sl 5 (x0.map AA.enc)),(1,.sl 9 (x1.map AE.enc)),(2,.sl 1 (c2.map cdI.enc)),(7,e3),(8,e9),(9,e11),(10,.v (.int .i64 c8)),(11,.v (.bool c14)),(12,.v (.int .i64 c15))],hp⟩ (fun e s=>e=(.exit 4)/\∃ s2,(∃ (h':Hp),T h' ((own_ (ocL 1 48 (ocV (cdL 1 cdI))) e3 c4)::(own_ (ocL 1 3 (ocV cdI)) e9 c10)::(own_ (ocL 1 3 (ocV cdI)) e11 c12)::L)/\s2=⟨Fr 68 [(0,.sl 5 (x0.map AA.enc)),(1,.sl 9 (x1.map AE.enc)),(2,.sl 1 (c2.map cdI.enc)),(7,e3),(8,e9),(9,e11),(10,.v (.int .i64 c8)),(11,.v (.bool r))],h'⟩)/\WkY E0 s s2):=by
 intro f;induction f with
 | zero=>intro c14 c15 r h; cases h
 | succ f ih0 =>
  intro c14 c15 r h  hp hT;unfold Dl at h;refine Dr ?_;refine Ap ?_;refine Ap ?_;refine Ab ?_;refine BR AC 2 ?_;refine BW AC 0 rfl (DW (AB rfl) rfl (CO (a:= .sl 1 (c2.map cdI.enc)) kr (BS (el:=3) kr))) ?_;refine Dx AC [(0,.sl 5 (x0.map AA.enc)),(1,.sl 9 (x1.map AE.enc)),(2,.sl 1 (c2.map cdI.enc)),(7,e3),(8,e9),(9,e11),(10,.v (.int .i64 c8)),(11,.v (.bool c14)),(12,.v (.int .i64 c15)),(25,.v (.bool (decide (c15 < (c2.length:Int)))))] ?_;refine DH (b:=(decide (c15 < (c2.length:Int)))) kr (fun hb16=>?_) (fun hb16=>?_)
  ·rw [if_pos hb16] at h
   refine SemY.skip ?_;refine Ap ?_;refine Ba ?_;obtain ⟨j20,hj20,h⟩:=OB h;refine QY 16 (A:=fun s1=>∃ (h':Hp),T h' ((own_ (ocL 1 48 (ocV (cdL 1 cdI))) e3 c4)::(own_ (ocL 1 3 (ocV cdI)) e9 c10)::(own_ (ocL 1 3 (ocV cdI)) e11 c12)::L)/\s1=⟨Fr 68 [(0,.sl 5 (x0.map AA.enc)),(1,.sl 9 (x1.map AE.enc)),(2,.sl 1 (c2.map cdI.enc)),(7,e3),(8,e9),(9,e11),(10,.v (.int .i64 c8)),(11,.v (.bool j20)),(12,.v (.int .i64 c15))],h'⟩) AC.mixed kr kr ?_ ?_
   ·refine RunDT.q (x:= .v (.bool c14)) rfl kr rfl (AB rfl) rfl kr kr ?_
    refine RunDT.q (x:= .v (.bool c14)) rfl kr rfl (AB rfl) rfl kr kr ?_;rcases BE c14 with hc31 | hc31
    ·rw [if_pos hc31] at hj20
     rw [hc31];refine RunDT.q (x:= .sl 5 (x0.map AA.enc)) rfl kr rfl kr rfl kr kr ?_;refine RunDT.q (x:= .sl 9 (x1.map AE.enc)) rfl kr rfl kr rfl kr kr ?_;refine RunDT.q (x:= .sl 1 (c2.map cdI.enc)) rfl kr rfl kr rfl kr kr ?_;refine RunDT.q (x:= .v (.int .i64 c15)) rfl kr rfl kr rfl kr kr ?_;obtain ⟨v17,hv17,hj20⟩:=OB hj20;refine RunDT.q (x:= .pe (.v (.int .i64 v17)) 0) rfl kr rfl kr rfl (AS (a:= .sl 1 (c2.map cdI.enc)) (b:= .v (.int .i64 c15)) kr kr (DP (e:=cdI.enc) (el:=3) (k:=1) (ki:= .i64) kr kr hv17)) kr ?_;refine RunDT.q (x:= .v (.int .i64 v17)) rfl kr rfl kr rfl kr kr ?_;refine RunDT.q (x:= .sl 1 (c2.map cdI.enc)) rfl kr rfl kr rfl kr kr ?_;refine RunDT.q (x:= .v (.int .i64 c8)) rfl kr rfl kr rfl kr kr ?_;obtain ⟨v18,hv18,hj20⟩:=OB hj20;refine RunDT.q (x:= .pe (.v (.int .i64 v18)) 0) rfl kr rfl kr rfl (AS (a:= .sl 1 (c2.map cdI.enc)) (b:= .v (.int .i64 c8)) kr kr (DP (e:=cdI.enc) (el:=3) (k:=1) (ki:= .i64) kr kr hv18)) kr ?_;refine RunDT.q (x:= .v (.int .i64 v18)) rfl kr rfl kr rfl kr kr ?_;obtain ⟨v19,hv19,hj20⟩:=OB hj20;refine MV (v:=v19) (caps:=[]) (xs:=[.sl 5 (x0.map AA.enc),.sl 9 (x1.map AE.enc),.v (.int .i64 v17),.v (.int .i64 v18)]) (u:=(x0,x1,v17,v18,())) rfl rfl Wn rfl kr kr kr (Dq (Gm (c:=(cdL 5 AA)) (v:=x0)) (Dq (Gm (c:=(cdL 9 AE)) (v:=x1)) (Dq (Gm (c:=cdI) (v:=v17)) (Dq (Gm (c:=cdI) (v:=v18)) SeesD.nil)))) kr hv19 ?_;refine RunDT.q (x:= .v (.bool (!v19))) rfl kr rfl kr rfl kr kr ?_;refine RunDT.q (x:= .v (.bool (!v19))) rfl kr rfl (AB rfl) rfl kr kr ?_;refine RunDT.q (x:= .v (.bool (!v19))) rfl kr rfl (AB rfl) rfl kr kr ?_;have hq:=OI hj20; subst hq;exact RunDT.done rfl ⟨_,⟨hp,hT,rfl⟩,WkY.f1⟩
    ·rw [BV hc31] at hj20
     rw [hc31];refine RunDT.skip rfl kr rfl ?_;refine RunDT.skip rfl kr rfl ?_;refine RunDT.skip rfl kr rfl ?_;refine RunDT.skip rfl kr rfl ?_;refine RunDT.skip rfl kr rfl ?_;refine RunDT.skip rfl kr rfl ?_;refine RunDT.skip rfl kr rfl ?_;refine RunDT.skip rfl kr rfl ?_;refine RunDT.skip rfl kr rfl ?_;refine RunDT.skip rfl kr rfl ?_;refine RunDT.skip rfl kr rfl ?_;refine RunDT.skip rfl kr rfl ?_;refine RunDT.q (x:= .v (.bool false)) rfl kr rfl (AB rfl) rfl kr kr ?_;refine RunDT.q (x:= .v (.bool false)) rfl kr rfl (AB rfl) rfl kr kr ?_;have hq:=OI hj20; subst hq;exact RunDT.done rfl ⟨_,⟨hp,hT,rfl⟩,WkY.f1⟩
   rintro _ ⟨hp29,hT30,rfl⟩;refine Ab ?_;refine BR AC 3 ?_;refine Bq rfl ?_;exact CQ WkY.f1 (ih0 j20 (wr .i64 (c15 + 1)) _ h  hp29 hT30)
  ·rw [BV hb16] at h
   refine SemY.exit ?_;have hq:=OI h; subst hq;exact ⟨rfl,_,⟨hp,hT,rfl⟩,WkY.f1⟩
theorem QH {L:List Asn}{hp:Hp}(c2:(List Int)) (c8:Int) (c10:(List Int)) (c12:(List Int)) (r33:Bool) (x0:(List AH)) (x1:(List Af)) (e3:AV) (c4:(List (List Int))) (e9:AV) (e11:AV) (r:((List Int)×(List Int))) (h:Hf c2 c8 c10 c12 r33=some r) (hT:T hp ((own_ (ocL 1 48 (ocV (cdL 1 cdI))) e3 c4)::(own_ (ocL 1 3 (ocV cdI)) e9 c10)::(own_ (ocL 1 3 (ocV cdI)) e11 c12)::L)):SemY E0 ⟨none,false⟩ (pc Ga [1,1,0,0,0,1,0,1,0,1,0,0,1,0,0,1,1,1]) ⟨Fr 68 [(0,.sl 5 (x0.map AA.enc)),(1,.sl 9 (x1.map AE.enc)),(2,.sl 1 (c2.map cdI.enc)),(7,e3),(8,e9),(9,e11),(10,.v (.int .i64 c8)),(43,.v (.bool r33))],hp⟩ (fun e s=>e = .normal/\∃ s2,(∃ (e48 e50:AV) (h':Hp),T h' ((own_ (ocL 1 48 (ocV (cdL 1 cdI))) e3 c4)::(own_ (ocL 1 3 (ocV cdI)) e48 r.1)::(own_ (ocL 1 3 (ocV cdI)) e50 r.2)::L)/\s2=⟨Fr 68 [(0,.sl 5 (x0.map AA.enc)),(1,.sl 9 (x1.map AE.enc)),(2,.sl 1 (c2.map cdI.enc)),(7,e3),(8,e48),(9,e50),(10,.v (.int .i64 c8))],h'⟩)/\WkY E0 s s2):=by
 unfold Hf at h;refine DH (b:=r33) kr (fun hb36=>?_) (fun hb36=>?_)
 ·rw [if_pos hb36] at h
  refine Ab ?_;refine BR AC 3 ?_;obtain ⟨v37,hv37,h⟩:=OB h;refine BW AC 0 rfl (DW (AB rfl) rfl (AS (a:= .sl 1 (c2.map cdI.enc)) (b:= .v (.int .i64 c8)) kr kr (DP (e:=cdI.enc) (el:=3) (k:=1) (ki:= .i64) kr kr hv37))) ?_;refine BR AC 1 ?_;obtain ⟨e41,hp38,hb39,hT40⟩:=M3 (P:=Tryz.prog) (bytes:=8) (k:=1) (t:=3) (ty:=48) (xs:=([v37]:List Int)) (n:=1) (Yg (k:=1) (fun _=>⟨rfl,rfl,rfl⟩)) (LY (c:=cdI) (xs:=([v37]:List Int)) hT) rfl kr kr kr;refine BW AC 0 rfl (AAK (AB rfl) rfl kr (XI (xs:=Qr 0 [.v (.int .i64 v37)]) kr hb39)) ?_;by_cases hk46:(EC 8 (c10.length + ([v37]:List Int).length))=true
  case neg=>rw [if_neg hk46] at h; cases h
  rw [if_pos hk46] at h
  have hT47:=((hT40.front 0 rfl).front 2 rfl)
  obtain ⟨e45,hp42,hb43,hT44⟩:=MW (P:=Tryz.prog) (ty:=48) (ty2:=48) (bytes:=8) hT47 kr kr hk46;refine BW AC 0 rfl (UX (AB rfl) rfl kr kr (Dg (a:=e9) (b:=e41) kr kr hb43)) ?_;refine BR AC 1 ?_;refine Bq rfl ?_;have hq:=OI h; subst hq
  have hT52:=(((hT44.front 2 rfl).front 1 rfl).front 2 rfl)
  exact ⟨rfl,_,⟨e45,e11,hp42,hT52,rfl⟩,WkY.f1⟩
 ·rw [BV hb36] at h
  refine Ab ?_;refine BR AC 3 ?_;obtain ⟨v53,hv53,h⟩:=OB h;refine BW AC 0 rfl (DW (AB rfl) rfl (AS (a:= .sl 1 (c2.map cdI.enc)) (b:= .v (.int .i64 c8)) kr kr (DP (e:=cdI.enc) (el:=3) (k:=1) (ki:= .i64) kr kr hv53))) ?_;refine BR AC 1 ?_;obtain ⟨e57,hp54,hb55,hT56⟩:=M3 (P:=Tryz.prog) (bytes:=8) (k:=1) (t:=3) (ty:=48) (xs:=([v53]:List Int)) (n:=1) (Yg (k:=1) (fun _=>⟨rfl,rfl,rfl⟩)) (LY (c:=cdI) (xs:=([v53]:List Int)) hT) rfl kr kr kr;refine BW AC 0 rfl (AAK (AB rfl) rfl kr (XI (xs:=Qr 0 [.v (.int .i64 v53)]) kr hb55)) ?_;by_cases hk62:(EC 8 (c12.length + ([v53]:List Int).length))=true
  case neg=>rw [if_neg hk62] at h; cases h
  rw [if_pos hk62] at h
  have hT63:=((hT56.front 0 rfl).front 3 rfl)
  obtain ⟨e61,hp58,hb59,hT60⟩:=MW (P:=Tryz.prog) (ty:=48) (ty2:=48) (bytes:=8) hT63 kr kr hk62;refine BW AC 0 rfl (UX (AB rfl) rfl kr kr (Dg (a:=e11) (b:=e57) kr kr hb59)) ?_;refine BR AC 1 ?_;refine Bq rfl ?_;have hq:=OI h; subst hq
  have hT64:=((hT60.front 2 rfl).front 2 rfl)
  exact ⟨rfl,_,⟨e9,e61,hp58,hT64,rfl⟩,WkY.f1⟩
theorem QI {L:List Asn}(x0:(List AH)) (x1:(List Af)) (c2:(List Int)) (e3:AV) (c4:(List (List Int))):∀ (f:Nat) (c8:Int) (c10:(List Int)) (c12:(List Int)) (r:((List Int)×(List Int))),Dk x0 x1 c2 f c8 c10 c12=some r->∀ (e9 e11:AV) (hp:Hp),T hp ((own_ (ocL 1 48 (ocV (cdL 1 cdI))) e3 c4)::(own_ (ocL 1 3 (ocV cdI)) e9 c10)::(own_ (ocL 1 3 (ocV cdI)) e11 c12)::L)->SemYN E0 ⟨none,false⟩ (pc Ga [1,1,0,0,0,1,0,1,0,1,0,0]) f ⟨Fr 68 [(0,.sl 5 (x0.map AA.enc)),(1,.sl 9 (x1.map AE.enc)),(2,.sl 1 (c2.map cdI.enc)),(7,e3),(8,e9),(9,e11),(10,.v (.int .i64 c8))],hp⟩ (fun e s=>e=(.exit 2)/\∃ s2,(∃ (e70 e72:AV) (h':Hp),T h' ((own_ (ocL 1 48 (ocV (cdL 1 cdI))) e3 c4)::(own_ (ocL 1 3 (ocV cdI)) e70 r.1)::(own_ (ocL 1 3 (ocV cdI)) e72 r.2)::L)/\s2=⟨Fr 68 [(0,.sl 5 (x0.map AA.enc)),(1,.sl 9 (x1.map AE.enc)),(7,e3),(8,e70),(9,e72)],h'⟩)/\WkY E0 s s2):=by
 intro f;induction f with
 | zero=>intro c8 c10 c12 r h; cases h
 | succ f ih0 =>
  intro c8 c10 c12 r h e9 e11 hp hT;unfold Dk at h;refine Dr ?_;refine Ap ?_;refine Ap ?_;refine Ab ?_;refine BR AC 2 ?_;refine BW AC 0 rfl (DW (AB rfl) rfl (CO (a:= .sl 1 (c2.map cdI.enc)) kr (BS (el:=3) kr))) ?_
  let p1:Nat×AV:=(10,.v (.int .i64 c8))
  let p2:Nat×AV:=(2,.sl 1 (c2.map cdI.enc))
  let p3:Nat×AV:=(1,.sl 9 (x1.map AE.enc))
  let p4:Nat×AV:=(0,.sl 5 (x0.map AA.enc))
  refine Dx AC [p4,p3,p2,(7,e3),(8,e9),(9,e11),p1,(19,.v (.bool (decide (c8 < (c2.length:Int)))))] ?_;refine DH (b:=(decide (c8 < (c2.length:Int)))) kr (fun hb13=>?_) (fun hb13=>?_)
  ·rw [if_pos hb13] at h
   refine SemY.skip ?_;refine Ap ?_;refine Ba ?_;refine CB AC [p4,p3,p2,(7,e3),(8,e9),(9,e11),p1,(11,.v (.bool true))] ?_;refine Ap ?_;refine CB AC [p4,p3,p2,(7,e3),(8,e9),(9,e11),p1,(11,.v (.bool true)),(12,.v (.int .i64 0))] ?_;refine Ba ?_;refine SemY.loop (n:=100000) ?_;obtain ⟨r33,hr33,h⟩:=OB h;refine DY (CQ WkY.f1 (QJ x0 x1 c2 c8 e3 c4 e9 c10 e11 c12 _ true 0 _ hr33  hp hT)) ?_;rintro _ ⟨hp34,hT35,rfl⟩;refine CB AC [p4,p3,p2,(7,e3),(8,e9),(9,e11),p1,(43,.v (.bool r33))] ?_;obtain ⟨r65,hr65,h⟩:=OB h;refine MG (QH c2 c8 c10 c12 r33 x0 x1 e3 c4 e9 e11 _ hr65 hT35) ?_;rintro _ ⟨e66,e67,hp68,hT69,rfl⟩;refine Ab ?_;refine BR AC 3 ?_;refine Bq rfl ?_;exact CQ WkY.f1 (ih0 (wr .i64 (c8 + 1)) r65.1 r65.2 _ h e66 e67 hp68 hT69)
  ·rw [BV hb13] at h
   refine SemY.exit ?_;have hq:=OI h; subst hq;exact ⟨rfl,_,⟨e9,e11,hp,hT,rfl⟩,WkY.f1⟩
theorem Li {L:List Asn}(x0:(List AH)) (x1:(List Af)):∀ (f:Nat) (c2:(List Int)) (c4:(List (List Int))) (r:((List (List Int))) ⊕ ((List (List Int)))),D6 x0 x1 f c2 c4=some r->∀ (e3:AV) (hp:Hp),T hp ((own_ (ocL 1 48 (ocV (cdL 1 cdI))) e3 c4)::L)->SemYN E0 ⟨none,false⟩ (pc Ga [1,1,0,0,0]) f ⟨Fr 68 [(0,.sl 5 (x0.map AA.enc)),(1,.sl 9 (x1.map AE.enc)),(2,.sl 1 (c2.map cdI.enc)),(7,e3)],hp⟩ (fun e s=>match r with
 | (.inl w)=>e=(.exit 0)/\∃ s2,(∃ (e105:AV) (h':Hp),T h' ((own_ (ocL 1 48 (ocV (cdL 1 cdI))) e105 w)::L)/\s2=⟨Fr 68 [(7,e105)],h'⟩)/\WkY E0 s s2
 | (.inr w)=>e = .ret/\∃ s2,(∃ (h':Hp),T h' (L)/\s2=⟨Fr 68 [(6,.sl 1 (w.map (cdL 1 cdI).enc))],h'⟩)/\WkY E0 s s2):=by
 intro f;induction f with
 | zero=>intro c2 c4 r h; cases h
 | succ f ih0 =>
  intro c2 c4 r h e3 hp hT;unfold D6 at h;refine Dr ?_;refine Ap ?_;refine Ap ?_;refine Ab ?_;refine BR AC 1 ?_;refine BW AC 0 rfl (DW (AB rfl) rfl (CO (a:= .sl 1 (c2.map cdI.enc)) kr (BS (el:=3) kr))) ?_
  let p1:Nat×AV:=(2,.sl 1 (c2.map cdI.enc))
  let p2:Nat×AV:=(1,.sl 9 (x1.map AE.enc))
  let p3:Nat×AV:=(0,.sl 5 (x0.map AA.enc))
  refine Dx AC [p3,p2,p1,(7,e3),(15,.v (.bool (decide ((c2.length:Int) > 0))))] ?_;refine DH (b:=(decide ((c2.length:Int) > 0))) kr (fun hb5=>?_) (fun hb5=>?_)
  ·rw [if_pos hb5] at h
   refine SemY.skip ?_;refine Ba ?_;refine CB AC [p3,p2,p1,(7,e3),(8,.e0),(9,.e0)] ?_;refine Ap ?_;refine CB AC [p3,p2,p1,(7,e3),(8,.e0),(9,.e0),(10,.v (.int .i64 0))] ?_;refine Ba ?_
   have hT6:=(T.e0 (k:=1) (ty:=3) (o:=(ocV cdI)) hT)
   have hT7:=(T.e0 (k:=1) (ty:=3) (o:=(ocV cdI)) hT6)
   have hT74:=((hT7.front 1 rfl).front 2 rfl)
   refine SemY.loop (n:=100000) ?_;obtain ⟨r75,hr75,h⟩:=OB h;refine DY (CQ WkY.f1 (QI x0 x1 c2 e3 c4 _ 0 ([]:(List Int)) ([]:(List Int)) _ hr75 .e0 .e0 hp hT74)) ?_;rintro _ ⟨e76,e77,hp78,hT79,rfl⟩;refine Ap ?_;refine Ap ?_;refine Ab ?_;refine BR AC 1 ?_
   have hT80:=(hT79.front 1 rfl)
   refine BW AC 0 rfl (DW (AB rfl) rfl (CO (a:=e76) kr (Zh hT80 kr))) ?_;refine Dx AC [p3,p2,(7,e3),(8,e76),(9,e77),(60,.v (.bool ((r75.1.length:Int)==0)))] ?_;refine DH (b:=((r75.1.length:Int)==0)) kr (fun hb81=>?_) (fun hb81=>?_)
   ·rw [if_pos hb81] at h
    refine CB AC [(6,e3)] ?_;refine SemY.ret ?_;have hq:=OI h; subst hq
    have hT83:=(hT80.front 1 rfl)
    obtain ⟨hp84,hw85,hT86⟩:=JL (E:=E0) (n:=68) (l:=[(6,e3)]) (l':=[(6,.sl 1 (c4.map (cdL 1 cdI).enc))]) hT83 (LkT.at_ ⟨.inr ⟨kr,rfl⟩,trivial⟩)
    have hT87:=hT86.drop.drop
    exact ⟨rfl,_,⟨hp84,hT87,rfl⟩,(WkY.trans (WkY.trans WkY.f1 hw85) WkY.f1)⟩
   ·rw [BV hb81] at h
    refine SemY.skip ?_;refine Ap ?_;refine Ab ?_;refine BR AC 2 ?_;obtain ⟨hp88,hw89,hT90⟩:=JL (E:=E0) (n:=68) (l:=[p3,p2,(9,e77),(62,e3),(63,e76)]) (l':=[p3,p2,(9,e77),(62,e3),(63,.sl 1 (r75.1.map cdI.enc))]) hT80 (LkT.at_ ⟨.inl kr,.inl kr,.inl kr,.inl kr,.inr ⟨kr,rfl⟩,trivial⟩);refine ABt (WkY.trans WkY.f1 hw89) ?_;obtain ⟨e94,hp91,hb92,hT93⟩:=M3 (P:=Tryz.prog) (bytes:=24) (k:=1) (t:=48) (ty:=46) (xs:=([r75.1]:List (List Int))) (n:=1) (Yg (k:=1) (fun _=>⟨rfl,rfl,rfl⟩)) (LY (c:=(cdL 1 cdI)) (xs:=([r75.1]:List (List Int))) hT90) rfl kr kr kr;refine BW AC 0 rfl (AAK (AB rfl) rfl kr (XI (xs:=Qr 0 [.sl 1 (r75.1.map cdI.enc)]) kr hb92)) ?_;by_cases hk99:(EC 24 (c4.length + ([r75.1]:List (List Int)).length))=true
    case neg=>rw [if_neg hk99] at h; cases h
    rw [if_pos hk99] at h
    have hT100:=((hT93.front 0 rfl).front 1 rfl)
    obtain ⟨e98,hp95,hb96,hT97⟩:=MW (P:=Tryz.prog) (ty:=46) (ty2:=46) (bytes:=24) hT100 kr kr hk99;refine BW AC 0 rfl (UX (AB rfl) rfl kr kr (Dg (a:=e3) (b:=e94) kr kr hb96)) ?_;refine Dx AC [p3,p2,(7,e98),(9,e77)] ?_;refine Ab ?_;refine BR AC 2 ?_;refine Bq rfl ?_
    have hT101:=(hT97.front 1 rfl)
    obtain ⟨hp102,hw103,hT104⟩:=JL (E:=E0) (n:=68) (l:=[p3,p2,(2,e77),(7,e98)]) (l':=[p3,p2,(2,.sl 1 (r75.2.map cdI.enc)),(7,e98)]) hT101 (LkT.at_ ⟨.inl kr,.inl kr,.inr ⟨kr,rfl⟩,.inl kr,trivial⟩);exact CQ (WkY.trans (WkY.trans WkY.f1 hw103) WkY.f1) (ih0 r75.2 (c4++([r75.1]:List (List Int))) _ h e98 hp102 hT104)
  ·rw [BV hb5] at h
   refine SemY.exit ?_;have hq:=OI h; subst hq;exact ⟨rfl,_,⟨e3,hp,hT,rfl⟩,WkY.f1⟩
theorem Ro {L:List Asn}{hp:Hp}(x0:(List AH)) (x1:(List Af)) (x2:(List Int)) (r:(List (List Int))) (h:He x0 x1 x2=some r) (hT:T hp (L)):SemY E0 ⟨none,false⟩ Ga ⟨Fr 68 (A0 0 [.sl 5 (x0.map AA.enc),.sl 9 (x1.map AE.enc),.sl 1 (x2.map cdI.enc)]),hp⟩ fun x s'=>(x = .normal\/x = .ret)/\∃ ys,Dz E0.P s'.fr s'.hp Tryz.f117.results.toList=some ys/\(fun v h'=>v = .sl 1 (r.map (cdL 1 cdI).enc)/\T h' (L)) (D0 ys) s'.hp:=by
 unfold He at h
 let p1:Nat×AV:=(2,.sl 1 (x2.map cdI.enc))
 let p2:Nat×AV:=(1,.sl 9 (x1.map AE.enc))
 let p3:Nat×AV:=(0,.sl 5 (x0.map AA.enc))
 refine JK (Ke (s1:=⟨Fr 68 [p3,p2,p1],hp⟩) WkY.f1 ?_);refine CB AC [p3,p2,p1] ?_;refine CB AC [p3,p2,p1,(7,.e0)] ?_;refine Ap ?_;refine Ba ?_
 have hT1:=(T.e0 (k:=1) (ty:=48) (o:=(ocV (cdL 1 cdI))) hT)
 refine SemY.loop (n:=100000) ?_;obtain ⟨r107,hr107,h⟩:=OB h;rcases r107 with w108 | w115
 ·try dsimp only at h
  refine DY (CQ WkY.f1 (Li x0 x1 _ x2 ([]:(List (List Int))) _ hr107 .e0 hp hT1)) ?_;rintro _ ⟨e109,hp110,hT111,rfl⟩;refine CB AC [(6,e109)] ?_;refine SemY.ret ?_;have hq:=OI h; subst hq
  let p4:Nat×AV:=(6,.sl 1 (w108.map (cdL 1 cdI).enc))
  obtain ⟨hp112,hw113,hT114⟩:=JL (E:=E0) (n:=68) (l:=[(6,e109)]) (l':=[p4]) hT111 (LkT.at_ ⟨.inr ⟨kr,rfl⟩,trivial⟩);exact ⟨⟨Fr 68 [p4],hp112⟩,(WkY.trans (WkY.trans WkY.f1 hw113) WkY.f1),.inr rfl,[.sl 1 (w108.map (cdL 1 cdI).enc)],kr,⟨rfl,hT114⟩⟩
 ·try dsimp only at h
  refine DY (CQ WkY.f1 (Li x0 x1 _ x2 ([]:(List (List Int))) _ hr107 .e0 hp hT1)) ?_;rintro _ ⟨hp116,hT117,rfl⟩;have hq:=OI h; subst hq;exact ⟨⟨Fr 68 [(6,.sl 1 (w115.map (cdL 1 cdI).enc))],hp116⟩,WkY.f1,.inr rfl,[.sl 1 (w115.map (cdL 1 cdI).enc)],kr,⟨rfl,hT117⟩⟩
def Nt:Cs ((List AH)×(List Af)×(List Int)×Unit):=(csC (cdL 5 AA) (csC (cdL 9 AE) (csC (cdL 1 cdI) csN)))
def N4 (r:(List (List Int))):AV:=(cdL 1 (cdL 1 cdI)).enc r
def UD:List AV->Option AV:=Dm Nt (fun a=>He a.1 a.2.1 a.2.2.1) N4
theorem UM:XOk 117 UD:=by
 refine AR Tryz.func117 (c:=Ga) ?h2 ⟨Tryz.call117⟩ Nt (fun a=>He a.1 a.2.1 a.2.2.1) N4 (fun a=>(by show 3<=68; decide)) ?h3 ?h4
 case h2=>kernel_rfl
 case h3=>intro b; kernel_rfl
 case h4 =>
  intro a b h;refine Sem.mono (QX (Ro (L:=[]) (hp:=[]) a.1 a.2.1 a.2.2.1 b h T.nil)) fun e s' hs=>?_
  obtain ⟨h1,ys,h2,h3,-⟩:=hs;exact ⟨h1,ys,h2,h3⟩
/- trestle/trestleref03.Order -/
noncomputable def Oz:Code:=A9 Tryz.f63
def Gz (x0:(List AH)) (x1:(List Af)):Option ((List (List Int))) :=
 (LI (x1.length:Int)).bind fun v1 =>
 (He x0 x1 v1).bind fun v2 =>
 some v2
def Lx:Cs ((List AH)×(List Af)×Unit):=(csC (cdL 5 AA) (csC (cdL 9 AE) csN))
def L7 (r:(List (List Int))):AV:=(cdL 1 (cdL 1 cdI)).enc r
theorem S3 (x0:(List AH)) (x1:(List Af)) (r:(List (List Int))) (h:Gz x0 x1=some r):Sem E0 ⟨none,false⟩ Oz ⟨Fr 11 (A0 0 (Lx.enc (x0,x1,()))),[]⟩ fun e s'=>(e = .normal\/e = .ret)/\∃ xs,Dz E0.P s'.fr s'.hp Tryz.f63.results.toList=some xs/\D0 xs=L7 r:=by
 unfold Gz at h
 let p1:Nat×AV:=(1,.sl 9 (x1.map AE.enc))
 let p2:Nat×AV:=(0,.sl 5 (x0.map AA.enc))
 refine Ao (BL (s1:=⟨Fr 11 [p2,p1],[]⟩) AM ?_);refine AK AC [p2,p1] [] ?_;refine AG ?_;obtain ⟨v1,hv1,h⟩:=OB h;obtain ⟨v2,hv2,h⟩:=OB h
 let p3:Nat×AV:=(4,.sl 1 (v2.map (cdL 1 cdI).enc))
 refine AL (s1:=⟨Fr 11 [p3],[]⟩) ?_ ?_
 ·refine AD (n:=11) AC 3 [(5,.sl 5 (x0.map AA.enc)),(6,.sl 9 (x1.map AE.enc)),(7,.sl 9 (x1.map AE.enc))] [] kr ?_
  refine AW AC 0 rfl (DW (AB rfl) rfl (CO (a:= .sl 9 (x1.map AE.enc)) kr (BS (el:=42) kr))) ?_;refine AN (caps:=[]) (xs:=[.v (.int .i64 (x1.length:Int))]) (u:=((x1.length:Int),())) rfl rfl Xg rfl (AB rfl) kr kr (AJ (AQ (c:=cdI) (v:=(x1.length:Int))) Ah) (.inr kr) hv1 ?_;refine AN (caps:=[]) (xs:=[.sl 5 (x0.map AA.enc),.sl 9 (x1.map AE.enc),.sl 1 (v1.map cdI.enc)]) (u:=(x0,x1,v1,())) rfl rfl UM rfl (AB rfl) kr kr (AJ (AQ (c:=(cdL 5 AA)) (v:=x0)) (AJ (AQ (c:=(cdL 9 AE)) (v:=x1)) (AJ (AQ (c:=(cdL 1 cdI)) (v:=v1)) Ah))) (.inr kr) hv2 ?_;exact AX AC
 refine AO ?_;have hq:=OI h; subst hq;exact ⟨⟨Fr 11 [p3],[]⟩,AM,.inr rfl,[.sl 1 (v2.map (cdL 1 cdI).enc)],kr,kr⟩
def VW:List AV->Option AV:=Dm Lx (fun a=>Gz a.1 a.2.1) L7
theorem QV:XOk 63 VW:=by
 refine AR Tryz.func63 (c:=Oz) ?h2 ⟨Tryz.call63⟩ Lx (fun a=>Gz a.1 a.2.1) L7 (fun a=>(by show 2<=11; decide)) ?h3 ?h4
 case h2=>kernel_rfl
 case h3=>intro b; kernel_rfl
 case h4=>exact fun a b h=>S3 a.1 a.2.1 b h
/- trestle/trestleref03.single -/
noncomputable def Kl:Code:=A9 Tryz.f116
def Eh (x0:(List (List Int))):Nat->(List Int)->Int->Option (((List Int)) ⊕ (Int))
 | 0,_,_=>none
 | f + 1,c1,c2 =>
  if (decide (c2 < (x0.length:Int)))=true then
  (idx x0 c2).bind fun v4 =>
  if ((v4.length:Int)!=1)=true then
  some (.inr 32)
  else
  (idx x0 c2).bind fun v7 =>
  (idx v7 0).bind fun v8 =>
  if (EC 8 (c1.length + 1))=true then
  Eh x0 f (c1++[v8]) (wr .i64 (c2 + 1))
  else none
  else
  some (.inl c1)
def Hg (x0:(List (List Int))):Option ((List Int)×Int) :=
 (Eh x0 100000 [] 0).bind fun r11 =>
 match r11 with
 | (.inl w12) =>
  some (w12,0)
 | (.inr w13) =>
  some ([],w13)
def Ky:Cs ((List (List Int))×Unit):=(csC (cdL 1 (cdL 1 cdI)) csN)
def K8 (r:(List Int)×Int):AV:= .tp [(cdL 1 cdI).enc r.1,cdI.enc r.2]
theorem Lj (x0:(List (List Int))):∀ (f:Nat) (c1:(List Int)) (c2:Int) (r:((List Int)) ⊕ (Int)),Eh x0 f c1 c2=some r->SemN E0 ⟨none,false⟩ (pc Kl [1,1,0,1,0,0]) f ⟨Fr 28 [(0,.sl 1 (x0.map (cdL 1 cdI).enc)),(4,hd 0 (c1.map cdI.enc)),(5,.v (.int .i64 c2))],[mk 1 3 (c1.map cdI.enc)]⟩ (fun e s=>match r with
 | (.inl w)=>e=(.exit 0)/\Wk E0 s ⟨Fr 28 [(4,hd 0 (w.map cdI.enc))],[mk 1 3 (w.map cdI.enc)]⟩
 | (.inr w)=>e = .ret/\Wk E0 s ⟨Fr 28 [(2,.e0),(3,.v (.int .i64 w))],[]⟩):=by
 intro f;induction f with
 | zero=>intro c1 c2 r h; cases h
 | succ f ih0 =>
  intro c1 c2 r h
  have ih:=fun (c1:(List Int)) (c2:Int)=>ih0 c1 c2 r
  unfold Eh at h;refine Bc ?_;refine AG ?_;refine AG ?_
  let p1:Option Blk:=mk 1 3 (c1.map cdI.enc)
  let p2:Nat×AV:=(5,.v (.int .i64 c2))
  let p3:Nat×AV:=(4,hd 0 (c1.map cdI.enc))
  let p4:Nat×AV:=(0,.sl 1 (x0.map (cdL 1 cdI).enc))
  refine AL (s1:=⟨Fr 28 [p4,p3,p2,(9,.v (.bool (decide (c2 < (x0.length:Int)))))],[p1]⟩) ?_ ?_
  ·refine AD (n:=28) AC 2 [p4,p3,p2,(6,.v (.int .i64 c2)),(7,.sl 1 (x0.map (cdL 1 cdI).enc))] [p1] kr ?_
   refine AW AC 0 rfl (DW (AB rfl) rfl (CO (a:= .sl 1 (x0.map (cdL 1 cdI).enc)) kr (BS (el:=48) kr))) ?_;exact AX AC
  refine AP (b:=(decide (c2 < (x0.length:Int)))) kr (fun hb3=>?_) (fun hb3=>?_)
  ·rw [if_pos hb3] at h
   refine AT ?_;refine AG ?_;refine Aa ?_;refine AG ?_;refine AG ?_;obtain ⟨v4,hv4,h⟩:=OB h;refine AL (s1:=⟨Fr 28 [p4,p3,p2,(17,.v (.bool ((v4.length:Int)!=1)))],[p1]⟩) ?_ ?_
   ·refine AD (n:=28) AC 2 [p4,p3,p2,(12,.sl 1 (x0.map (cdL 1 cdI).enc)),(13,.v (.int .i64 c2))] [p1] kr ?_
    refine AW AC 0 rfl (DW (AB rfl) rfl (AS (a:= .sl 1 (x0.map (cdL 1 cdI).enc)) (b:= .v (.int .i64 c2)) kr kr (DP (e:=(cdL 1 cdI).enc) (el:=48) (k:=1) (ki:= .i64) kr kr hv4))) ?_;refine AD (n:=28) AC 1 [p4,p3,p2,(15,.sl 1 (v4.map cdI.enc))] [p1] kr ?_;refine AW AC 0 rfl (DW (AB rfl) rfl (CO (a:= .sl 1 (v4.map cdI.enc)) kr (BS (el:=3) kr))) ?_;exact AX AC
   refine AP (b:=((v4.length:Int)!=1)) kr (fun hb5=>?_) (fun hb5=>?_)
   ·rw [if_pos hb5] at h
    refine AG ?_;refine AL (s1:=⟨Fr 28 [(2,.e0),(3,.v (.int .i64 32))],[]⟩) ?_ ?_
    ·refine AD (n:=28) AC 2 [(2,.e0),(3,.v (.int .i64 32))] [p1] kr ?_
     exact AI rfl (Ac [] trivial ⟨lv,lv,trivial⟩)
    refine AO ?_;have hq:=OI h; subst hq;exact ⟨rfl,AM⟩
   ·rw [BV hb5] at h
    refine AT ?_;obtain ⟨v7,hv7,h⟩:=OB h;obtain ⟨v8,hv8,h⟩:=OB h;by_cases hk9:(EC 8 (c1.length + 1))=true
    case neg=>rw [if_neg hk9] at h; cases h
    rw [if_pos hk9] at h
    let p5:Option Blk:=mk 1 3 ((c1++[v8]).map cdI.enc)
    let p6:Nat×AV:=(4,hd 0 ((c1++[v8]).map cdI.enc))
    refine AL (s1:=⟨Fr 28 [p4,p6,p2],[p5]⟩) ?_ ?_
    ·let p7:Nat×AV:=(18,hd 0 (c1.map cdI.enc))
     refine AD (n:=28) AC 3 [p4,p2,p7,(19,.sl 1 (x0.map (cdL 1 cdI).enc)),(20,.v (.int .i64 c2))] [p1] kr ?_;refine AW AC 0 rfl (DW (AB rfl) rfl (AS (a:= .sl 1 (x0.map (cdL 1 cdI).enc)) (b:= .v (.int .i64 c2)) kr kr (DP (e:=(cdL 1 cdI).enc) (el:=48) (k:=1) (ki:= .i64) kr kr hv7))) ?_;refine AD (n:=28) AC 1 [p4,p2,p7,(22,.sl 1 (v7.map cdI.enc))] [p1] kr ?_;refine AW AC 0 rfl (DW (AB rfl) rfl (AS (a:= .sl 1 (v7.map cdI.enc)) (b:= .v (.int .i64 0)) kr kr (DP (e:=cdI.enc) (el:=3) (k:=1) (ki:= .i64) kr kr hv8))) ?_;refine AD (n:=28) AC 2 [p4,p2,p7,(25,hd 1 ([v8].map cdI.enc))] [p1,mk 1 3 ([v8].map cdI.enc)] kr ?_;refine AW AC 0 rfl (UX (AB rfl) rfl kr kr (Dg (a:=hd 0 (c1.map cdI.enc)) (b:=hd 1 ([v8].map cdI.enc)) kr kr (LN (c:=cdI) (xs:=c1) (vs:=[v8]) (k:=1) (bytes:=8) (el:=3) kr kr (GS (t:=3) kr) (List.cons_ne_nil _ _) kr hk9))) ?_;refine AD (n:=28) AC 1 [p4,(4,hd 2 ((c1++[v8]).map cdI.enc)),p2] [none,mk 1 3 ([v8].map cdI.enc),p5] kr ?_;exact AI rfl (Ac [2] ⟨⟨_,rfl,IL⟩,trivial⟩ ⟨lv,IM (b':=2) kr kr,lv,trivial⟩)
    let p8:Nat×AV:=(5,.v (.int .i64 (wr .i64 (c2 + 1))))
    refine DC AC [p4,p6,p8] [p5] ?_;exact Aj (s1:=⟨Fr 28 [p4,p6,p8],[p5]⟩) (Ac [0] ⟨⟨_,rfl,IL⟩,trivial⟩ ⟨lv,IM (b':=0) kr kr,lv,trivial⟩) (ih (c1++[v8]) (wr .i64 (c2 + 1)) h)
  ·rw [BV hb3] at h
   refine CA ?_;have hq:=OI h; subst hq;exact ⟨rfl,(Ac [0] ⟨⟨_,rfl,IL⟩,trivial⟩ ⟨IM (b':=0) kr kr,trivial⟩)⟩
theorem Rp (x0:(List (List Int))) (r:(List Int)×Int) (h:Hg x0=some r):Sem E0 ⟨none,false⟩ Kl ⟨Fr 28 (A0 0 (Ky.enc (x0,()))),[]⟩ fun e s'=>(e = .normal\/e = .ret)/\∃ xs,Dz E0.P s'.fr s'.hp Tryz.f116.results.toList=some xs/\D0 xs=K8 r:=by
 unfold Hg at h
 let p1:Nat×AV:=(0,.sl 1 (x0.map (cdL 1 cdI).enc))
 refine Ao (BL (s1:=⟨Fr 28 [p1],[]⟩) AM ?_);refine AK AC [p1] [] ?_;refine AK AC [p1,(4,.e0)] [] ?_;refine AG ?_
 let p2:Nat×AV:=(5,.v (.int .i64 0))
 refine AK AC [p1,(4,.e0),p2] [] ?_;refine Aa ?_;obtain ⟨r11,hr11,h⟩:=OB h;refine CF (n:=100000) ?_;rcases r11 with w12 | w13
 ·try dsimp only at h
  refine A1 (Aj (s1:=⟨Fr 28 [p1,(4,hd 0 ([].map cdI.enc)),p2],[mk 1 3 ([].map cdI.enc)]⟩) (Wk.trans (s1:=⟨Fr 28 [p1,(4,hd 0 ([].map cdI.enc)),p2],[mk 1 3 ([].map cdI.enc)]⟩) Wk.none (Ac [0] ⟨⟨_,rfl,MX⟩,trivial⟩ ⟨lv,lv,lv,trivial⟩)) (Lj x0 _ [] 0 _ hr11)) ?_
  let p3:Nat×AV:=(3,.v (.int .i64 0))
  refine AK AC [(2,hd 0 (w12.map cdI.enc)),p3] [mk 1 3 (w12.map cdI.enc)] ?_;refine AO ?_;have hq:=OI h; subst hq;exact ⟨⟨Fr 28 [(2,.sl 1 (w12.map cdI.enc)),p3],[]⟩,(Wk.trans (s1:=⟨Fr 28 [(2,.sl 1 (w12.map cdI.enc)),p3],[none]⟩) (HH 0 (.inl kr) ⟨.inl rfl,trivial⟩ ⟨⟨hd 0 (w12.map cdI.enc),kr,V4 (t:=3) kr Nz⟩,⟨.v (.int .i64 0),kr,.inl rfl⟩,trivial⟩) (Ac [] trivial ⟨lv,lv,trivial⟩)),.inr rfl,[.sl 1 (w12.map cdI.enc),.v (.int .i64 0)],kr,kr⟩
 ·try dsimp only at h
  refine A1 (Aj (s1:=⟨Fr 28 [p1,(4,hd 0 ([].map cdI.enc)),p2],[mk 1 3 ([].map cdI.enc)]⟩) (Wk.trans (s1:=⟨Fr 28 [p1,(4,hd 0 ([].map cdI.enc)),p2],[mk 1 3 ([].map cdI.enc)]⟩) Wk.none (Ac [0] ⟨⟨_,rfl,MX⟩,trivial⟩ ⟨lv,lv,lv,trivial⟩)) (Lj x0 _ [] 0 _ hr11)) ?_;have hq:=OI h; subst hq
  let p4:Nat×AV:=(3,.v (.int .i64 w13))
  exact ⟨⟨Fr 28 [(2,.sl 1 ([].map cdI.enc)),p4],[]⟩,(Wk.trans (s1:=⟨Fr 28 [(2,.e0),p4],[]⟩) AM (Wk.trans (s1:=⟨Fr 28 [(2,.e0),p4],[none]⟩) Wk.none (Wk.trans (s1:=⟨Fr 28 [(2,.sl 1 ([].map cdI.enc)),p4],[none]⟩) (HH 0 (.inr kr) ⟨.inl rfl,trivial⟩ ⟨⟨.e0,kr,Si⟩,⟨.v (.int .i64 w13),kr,.inl rfl⟩,trivial⟩) (Ac [] trivial ⟨lv,lv,trivial⟩)))),.inr rfl,[.sl 1 ([].map cdI.enc),.v (.int .i64 w13)],kr,kr⟩
def UE:List AV->Option AV:=Dm Ky (fun a=>Hg a.1) K8
theorem UN:XOk 116 UE:=by
 refine AR Tryz.func116 (c:=Kl) ?h2 ⟨Tryz.call116⟩ Ky (fun a=>Hg a.1) K8 (fun a=>(by show 1<=28; decide)) ?h3 ?h4
 case h2=>kernel_rfl
 case h3=>intro b; kernel_rfl
 case h4=>exact fun a b h=>Rp a.1 b h
/- trestle/trestleref03.Line -/
noncomputable def Pk:Code:=A9 Tryz.f61
def G6 (x0:(List AH)) (x1:(List Af)):Option ((List Int)×Int) :=
 (HX x0).bind fun v1 =>
 if (v1.2 != 0)=true then
 some ([],v1.2)
 else
 if (decide ((x1.length:Int) > 64))=true then
 some ([],7)
 else
 (Gz x0 x1).bind fun v4 =>
 (Hg v4).bind fun v5 =>
 some (v5.1,v5.2)
def Ml:Cs ((List AH)×(List Af)×Unit):=(csC (cdL 5 AA) (csC (cdL 9 AE) csN))
def Mv (r:(List Int)×Int):AV:= .tp [(cdL 1 cdI).enc r.1,cdI.enc r.2]
theorem T3 (x0:(List AH)) (x1:(List Af)) (r:(List Int)×Int) (h:G6 x0 x1=some r):Sem E0 ⟨none,false⟩ Pk ⟨Fr 25 (A0 0 (Ml.enc (x0,x1,()))),[]⟩ fun e s'=>(e = .normal\/e = .ret)/\∃ xs,Dz E0.P s'.fr s'.hp Tryz.f61.results.toList=some xs/\D0 xs=Mv r:=by
 unfold G6 at h
 let p1:Nat×AV:=(1,.sl 9 (x1.map AE.enc))
 let p2:Nat×AV:=(0,.sl 5 (x0.map AA.enc))
 refine Ao (BL (s1:=⟨Fr 25 [p2,p1],[]⟩) AM ?_);refine AK AC [p2,p1] [] ?_;refine AG ?_;refine AG ?_;obtain ⟨v1,hv1,h⟩:=OB h;refine AL (s1:=⟨Fr 25 [p2,p1,(7,.v (.int .i64 v1.2))],[]⟩) ?_ ?_
 ·refine AD (n:=25) AC 1 [p2,p1,(9,.sl 5 (x0.map AA.enc))] [] kr ?_
  refine AN (caps:=[]) (xs:=[.sl 5 (x0.map AA.enc)]) (u:=(x0,())) rfl rfl QU rfl (AB rfl) kr kr (AJ (AQ (c:=(cdL 5 AA)) (v:=x0)) Ah) (.inl kr) hv1 ?_;exact AX AC
 refine AK AC [p2,p1,(7,.v (.int .i64 v1.2)),(14,.v (.bool (v1.2 != 0)))] [] ?_;refine AP (b:=(v1.2 != 0)) kr (fun hb2=>?_) (fun hb2=>?_)
 ·rw [if_pos hb2] at h
  let p3:Nat×AV:=(5,.v (.int .i64 v1.2))
  refine AK AC [(4,.e0),p3] [] ?_;refine AO ?_;have hq:=OI h; subst hq;exact ⟨⟨Fr 25 [(4,.sl 1 ([].map cdI.enc)),p3],[]⟩,(Wk.trans (s1:=⟨Fr 25 [(4,.e0),p3],[]⟩) AM (Wk.trans (s1:=⟨Fr 25 [(4,.e0),p3],[none]⟩) Wk.none (Wk.trans (s1:=⟨Fr 25 [(4,.sl 1 ([].map cdI.enc)),p3],[none]⟩) (HH 0 (.inr kr) ⟨.inl rfl,trivial⟩ ⟨⟨.e0,kr,Si⟩,⟨.v (.int .i64 v1.2),kr,.inl rfl⟩,trivial⟩) (Ac [] trivial ⟨lv,lv,trivial⟩)))),.inr rfl,[.sl 1 ([].map cdI.enc),.v (.int .i64 v1.2)],kr,kr⟩
 ·rw [BV hb2] at h
  refine AT ?_;refine AG ?_;refine AG ?_;refine AL (s1:=⟨Fr 25 [p2,p1,(18,.v (.bool (decide ((x1.length:Int) > 64))))],[]⟩) ?_ ?_
  ·refine AD (n:=25) AC 1 [p2,p1,(16,.sl 9 (x1.map AE.enc))] [] kr ?_
   refine AW AC 0 rfl (DW (AB rfl) rfl (CO (a:= .sl 9 (x1.map AE.enc)) kr (BS (el:=42) kr))) ?_;exact AX AC
  refine AP (b:=(decide ((x1.length:Int) > 64))) kr (fun hb3=>?_) (fun hb3=>?_)
  ·rw [if_pos hb3] at h
   let p4:Nat×AV:=(5,.v (.int .i64 7))
   refine AK AC [(4,.e0),p4] [] ?_;refine AO ?_;have hq:=OI h; subst hq;exact ⟨⟨Fr 25 [(4,.sl 1 ([].map cdI.enc)),p4],[]⟩,(Wk.trans (s1:=⟨Fr 25 [(4,.e0),p4],[]⟩) AM (Wk.trans (s1:=⟨Fr 25 [(4,.e0),p4],[none]⟩) Wk.none (Wk.trans (s1:=⟨Fr 25 [(4,.sl 1 ([].map cdI.enc)),p4],[none]⟩) (HH 0 (.inr kr) ⟨.inl rfl,trivial⟩ ⟨⟨.e0,kr,Si⟩,⟨.v (.int .i64 7),kr,.inl rfl⟩,trivial⟩) (Ac [] trivial ⟨lv,lv,trivial⟩)))),.inr rfl,[.sl 1 ([].map cdI.enc),.v (.int .i64 7)],kr,kr⟩
  ·rw [BV hb3] at h
   refine AT ?_;refine AG ?_;obtain ⟨v4,hv4,h⟩:=OB h;obtain ⟨v5,hv5,h⟩:=OB h;refine AL (s1:=⟨Fr 25 [(4,.sl 1 (v5.1.map cdI.enc)),(5,.v (.int .i64 v5.2))],[]⟩) ?_ ?_
   ·refine AD (n:=25) AC 2 [(19,.sl 5 (x0.map AA.enc)),(20,.sl 9 (x1.map AE.enc))] [] kr ?_
    refine AN (caps:=[]) (xs:=[.sl 5 (x0.map AA.enc),.sl 9 (x1.map AE.enc)]) (u:=(x0,x1,())) rfl rfl QV rfl (AB rfl) kr kr (AJ (AQ (c:=(cdL 5 AA)) (v:=x0)) (AJ (AQ (c:=(cdL 9 AE)) (v:=x1)) Ah)) (.inr kr) hv4 ?_;refine AN (caps:=[]) (xs:=[.sl 1 (v4.map (cdL 1 cdI).enc)]) (u:=(v4,())) rfl rfl UN rfl (AB rfl) kr kr (AJ (AQ (c:=(cdL 1 (cdL 1 cdI))) (v:=v4)) Ah) (.inr kr) hv5 ?_;exact AX AC
   refine AO ?_;have hq:=OI h; subst hq;exact ⟨⟨Fr 25 [(4,.sl 1 (v5.1.map cdI.enc)),(5,.v (.int .i64 v5.2))],[]⟩,AM,.inr rfl,[.sl 1 (v5.1.map cdI.enc),.v (.int .i64 v5.2)],kr,kr⟩
def WY:List AV->Option AV:=Dm Ml (fun a=>G6 a.1 a.2.1) Mv
theorem Wo:XOk 61 WY:=by
 refine AR Tryz.func61 (c:=Pk) ?h2 ⟨Tryz.call61⟩ Ml (fun a=>G6 a.1 a.2.1) Mv (fun a=>(by show 2<=25; decide)) ?h3 ?h4
 case h2=>kernel_rfl
 case h3=>intro b; kernel_rfl
 case h4=>exact fun a b h=>T3 a.1 a.2.1 b h
/- trestle/trestleref03.Valid -/
noncomputable def O0:Code:=A9 Tryz.f62
def HZ (x0:(List AH)):Option (Bool) :=
 (HX x0).bind fun v1 =>
 some (v1.2==0)
def Ly:Cs ((List AH)×Unit):=(csC (cdL 5 AA) csN)
def L8 (r:Bool):AV:=cdB.enc r
theorem S4 (x0:(List AH)) (r:Bool) (h:HZ x0=some r):Sem E0 ⟨none,false⟩ O0 ⟨Fr 12 (A0 0 (Ly.enc (x0,()))),[]⟩ fun e s'=>(e = .normal\/e = .ret)/\∃ xs,Dz E0.P s'.fr s'.hp Tryz.f62.results.toList=some xs/\D0 xs=L8 r:=by
 unfold HZ at h
 let p1:Nat×AV:=(0,.sl 5 (x0.map AA.enc))
 refine Ao (BL (s1:=⟨Fr 12 [p1],[]⟩) AM ?_);refine AK AC [p1] [] ?_;refine AG ?_;obtain ⟨v1,hv1,h⟩:=OB h;refine AL (s1:=⟨Fr 12 [(4,.v (.int .i64 v1.2))],[]⟩) ?_ ?_
 ·refine AD (n:=12) AC 1 [(6,.sl 5 (x0.map AA.enc))] [] kr ?_
  refine AN (caps:=[]) (xs:=[.sl 5 (x0.map AA.enc)]) (u:=(x0,())) rfl rfl QU rfl (AB rfl) kr kr (AJ (AQ (c:=(cdL 5 AA)) (v:=x0)) Ah) (.inl kr) hv1 ?_;exact AX AC
 refine AK AC [(2,.v (.bool (v1.2==0)))] [] ?_;refine AO ?_;have hq:=OI h; subst hq;exact ⟨⟨Fr 12 [(2,.v (.bool (v1.2==0)))],[]⟩,AM,.inr rfl,[.v (.bool (v1.2==0))],kr,kr⟩
def VX:List AV->Option AV:=Dm Ly (fun a=>HZ a.1) L8
theorem Vg:XOk 62 VX:=by
 refine AR Tryz.func62 (c:=O0) ?h2 ⟨Tryz.call62⟩ Ly (fun a=>HZ a.1) L8 (fun a=>(by show 1<=12; decide)) ?h3 ?h4
 case h2=>kernel_rfl
 case h3=>intro b; kernel_rfl
 case h4=>exact fun a b h=>S4 a.1 b h
/- trestle/trestleref03.Deciding -/
noncomputable def FW:Code:=A9 Tryz.f64
def Cp (x0:(List AH)) (x1:(List Af)) (c2:Int) (c7:Int):Nat->Bool->Int->Option ((Bool))
 | 0,_,_=>none
 | f + 1,c16,c17 =>
  if (decide (c17 < (x1.length:Int)))=true then
  (idx x1 c7).bind fun v19 =>
  (idx x1 c17).bind fun v20 =>
  (F5 x0 v19 v20 c7 c17).bind fun v21 =>
  (if c16=true then some true else some (v21.1==c2)).bind fun j22 =>
  Cp x0 x1 c2 c7 f j22 (wr .i64 (c17 + 1))
  else
  some c16
def DZ (x0:(List AH)) (x1:(List Af)) (c2:Int):Nat->Bool->Int->Option ((Bool))
 | 0,_,_=>none
 | f + 1,c6,c7 =>
  (if (decide (c7 < (x1.length:Int)))=true then some (!c6) else some false).bind fun j8 =>
  if j8=true then
  (Cp x0 x1 c2 c7 100000 c6 0).bind fun r31 =>
  DZ x0 x1 c2 f r31 (wr .i64 (c7 + 1))
  else
  some c6
def Ge (c2:Int) (c4:(List Int)) (r36:Bool):Option (((List Int))) :=
 if r36=true then
 if (EC 8 (c4.length + ([c2]:List Int).length))=true then
 some (c4++([c2]:List Int))
 else none
 else
 some c4
def C8 (x0:(List AH)) (x1:(List Af)):Nat->Int->(List Int)->Option (((List Int)))
 | 0,_,_=>none
 | f + 1,c2,c4 =>
  if (decide (c2 < (x0.length:Int)))=true then
  (DZ x0 x1 c2 100000 false 0).bind fun r36 =>
  (Ge c2 c4 r36).bind fun r52 =>
  C8 x0 x1 f (wr .i64 (c2 + 1)) r52
  else
  some c4
def FU (x0:(List AH)) (x1:(List Af)):Option ((List Int)) :=
 (C8 x0 x1 100000 0 ([]:(List Int))).bind fun r58 =>
 some r58
theorem Oo {L:List Asn}(x0:(List AH)) (x1:(List Af)) (c2:Int) (c7:Int) (e3:AV) (c4:(List Int)):∀ (f:Nat) (c16:Bool) (c17:Int) (r:(Bool)),Cp x0 x1 c2 c7 f c16 c17=some r->∀ (hp:Hp),T hp ((own_ (ocL 1 3 (ocV cdI)) e3 c4)::L)->SemYN E0 ⟨none,false⟩ (pc FW [1,1,0,1,0,0,1,0,0,1,0,1,0,0,1,0,0,1,0,0]) f ⟨Fr 61 [(0,.sl 5 (x0.map AA.enc)),(1,.sl 9 (x1.map AE.enc)),(5,e3),(6,.v (.int .i64 c2)),(7,.v (.bool c16)),(8,.v (.int .i64 c7)),(9,.v (.int .i64 c17))],hp⟩ (fun e s=>e=(.exit 4)/\∃ s2,(∃ (h':Hp),T h' ((own_ (ocL 1 3 (ocV cdI)) e3 c4)::L)/\s2=⟨Fr 61 [(0,.sl 5 (x0.map AA.enc)),(1,.sl 9 (x1.map AE.enc)),(5,e3),(6,.v (.int .i64 c2)),(7,.v (.bool r)),(8,.v (.int .i64 c7))],h'⟩)/\WkY E0 s s2):=by
 intro f;induction f with
 | zero=>intro c16 c17 r h; cases h
 | succ f ih0 =>
  intro c16 c17 r h  hp hT;unfold Cp at h;refine Dr ?_;refine Ap ?_;refine Ap ?_;refine Ab ?_;refine BR AC 2 ?_;refine BW AC 0 rfl (DW (AB rfl) rfl (CO (a:= .sl 9 (x1.map AE.enc)) kr (BS (el:=42) kr))) ?_;refine Dx AC [(0,.sl 5 (x0.map AA.enc)),(1,.sl 9 (x1.map AE.enc)),(5,e3),(6,.v (.int .i64 c2)),(7,.v (.bool c16)),(8,.v (.int .i64 c7)),(9,.v (.int .i64 c17)),(31,.v (.bool (decide (c17 < (x1.length:Int)))))] ?_;refine DH (b:=(decide (c17 < (x1.length:Int)))) kr (fun hb18=>?_) (fun hb18=>?_)
  ·rw [if_pos hb18] at h
   refine SemY.skip ?_;refine Ap ?_;refine Ba ?_;refine Ap ?_;refine OT 17 AC.mixed kr kr ?_;refine RunDT.q (x:= .sl 5 (x0.map AA.enc)) rfl kr rfl (AB rfl) rfl kr kr ?_;refine RunDT.q (x:= .sl 9 (x1.map AE.enc)) rfl kr rfl (AB rfl) rfl kr kr ?_;refine RunDT.q (x:= .v (.int .i64 c7)) rfl kr rfl (AB rfl) rfl kr kr ?_;obtain ⟨v19,hv19,h⟩:=OB h;refine RunDT.q (x:= .pe (AE.enc v19) 0) rfl kr rfl (AB rfl) rfl (AS (a:= .sl 9 (x1.map AE.enc)) (b:= .v (.int .i64 c7)) kr kr (DP (e:=AE.enc) (el:=42) (k:=9) (ki:= .i64) kr kr hv19)) kr ?_;refine RunDT.q (x:=(AE.enc v19)) rfl kr rfl (AB rfl) rfl kr kr ?_;refine RunDT.q (x:= .sl 9 (x1.map AE.enc)) rfl kr rfl (AB rfl) rfl kr kr ?_;refine RunDT.q (x:= .v (.int .i64 c17)) rfl kr rfl (AB rfl) rfl kr kr ?_;obtain ⟨v20,hv20,h⟩:=OB h;refine RunDT.q (x:= .pe (AE.enc v20) 0) rfl kr rfl (AB rfl) rfl (AS (a:= .sl 9 (x1.map AE.enc)) (b:= .v (.int .i64 c17)) kr kr (DP (e:=AE.enc) (el:=42) (k:=9) (ki:= .i64) kr kr hv20)) kr ?_;refine RunDT.q (x:=(AE.enc v20)) rfl kr rfl (AB rfl) rfl kr kr ?_;refine RunDT.q (x:= .v (.int .i64 c7)) rfl kr rfl (AB rfl) rfl kr kr ?_;refine RunDT.q (x:= .v (.int .i64 c17)) rfl kr rfl (AB rfl) rfl kr kr ?_;obtain ⟨v21,hv21,h⟩:=OB h;refine MV (v:=v21) (caps:=[]) (xs:=[.sl 5 (x0.map AA.enc),AE.enc v19,AE.enc v20,.v (.int .i64 c7),.v (.int .i64 c17)]) (u:=(x0,v19,v20,c7,c17,())) rfl rfl PF rfl (AB rfl) kr kr (Dq (Gm (c:=(cdL 5 AA)) (v:=x0)) (Dq (Gm (c:=AE) (v:=v19)) (Dq (Gm (c:=AE) (v:=v20)) (Dq (Gm (c:=cdI) (v:=c7)) (Dq (Gm (c:=cdI) (v:=c17)) SeesD.nil))))) kr hv21 ?_;refine RunDT.q (x:= .tp [.v (.int .i64 v21.1),.v (.int .i64 v21.2)]) rfl kr rfl (AB rfl) rfl kr kr ?_;refine RunDT.q (x:= .v (.int .i64 v21.1)) rfl kr rfl (AB rfl) rfl kr kr ?_;refine RunDT.q (x:= .v (.int .i64 v21.2)) rfl kr rfl (AB rfl) rfl kr kr ?_;refine RunDT.q (x:= .v (.int .i64 v21.1)) rfl kr rfl (AB rfl) rfl kr kr ?_;refine RunDT.q (x:= .v (.int .i64 v21.2)) rfl kr rfl (AB rfl) rfl kr kr ?_
   refine RunDT.done rfl (SemY.fr (l':=[(0,.sl 5 (x0.map AA.enc)),(1,.sl 9 (x1.map AE.enc)),(5,e3),(6,.v (.int .i64 c2)),(7,.v (.bool c16)),(8,.v (.int .i64 c7)),(9,.v (.int .i64 c17)),(10,.v (.int .i64 v21.1))]) kr ?_);obtain ⟨j22,hj22,h⟩:=OB h;refine Vn (A:=fun s1=>∃ (h':Hp),T h' ((own_ (ocL 1 3 (ocV cdI)) e3 c4)::L)/\s1=⟨Fr 61 [(0,.sl 5 (x0.map AA.enc)),(1,.sl 9 (x1.map AE.enc)),(5,e3),(6,.v (.int .i64 c2)),(7,.v (.bool j22)),(8,.v (.int .i64 c7)),(9,.v (.int .i64 c17))],h'⟩) ?_ ?_
   ·refine SU (n:=61) AC 2 [(0,.sl 5 (x0.map AA.enc)),(1,.sl 9 (x1.map AE.enc)),(5,e3),(6,.v (.int .i64 c2)),(8,.v (.int .i64 c7)),(9,.v (.int .i64 c17)),(10,.v (.int .i64 v21.1)),(50,.v (.bool c16))] hp kr ?_
    rcases BE c16 with hc29 | hc29
    ·rw [if_pos hc29] at hj22
     rw [hc29];refine BR AC 5 ?_;have hq:=OI hj22; subst hq;exact Bq rfl ⟨_,⟨hp,hT,rfl⟩,WkY.f1⟩
    ·rw [BV hc29] at hj22
     rw [hc29];refine BR AC 5 ?_;have hq:=OI hj22; subst hq;exact Bq rfl ⟨_,⟨hp,hT,rfl⟩,WkY.f1⟩
   rintro _ ⟨hp27,hT28,rfl⟩;refine Ab ?_;refine BR AC 3 ?_;refine Bq rfl ?_;exact CQ WkY.f1 (ih0 j22 (wr .i64 (c17 + 1)) _ h  hp27 hT28)
  ·rw [BV hb18] at h
   refine SemY.exit ?_;have hq:=OI h; subst hq;exact ⟨rfl,_,⟨hp,hT,rfl⟩,WkY.f1⟩
theorem On {L:List Asn}(x0:(List AH)) (x1:(List Af)) (c2:Int) (e3:AV) (c4:(List Int)):∀ (f:Nat) (c6:Bool) (c7:Int) (r:(Bool)),DZ x0 x1 c2 f c6 c7=some r->∀ (hp:Hp),T hp ((own_ (ocL 1 3 (ocV cdI)) e3 c4)::L)->SemYN E0 ⟨none,false⟩ (pc FW [1,1,0,1,0,0,1,0,0,1,0,1,0,0]) f ⟨Fr 61 [(0,.sl 5 (x0.map AA.enc)),(1,.sl 9 (x1.map AE.enc)),(5,e3),(6,.v (.int .i64 c2)),(7,.v (.bool c6)),(8,.v (.int .i64 c7))],hp⟩ (fun e s=>e=(.exit 2)/\∃ s2,(∃ (h':Hp),T h' ((own_ (ocL 1 3 (ocV cdI)) e3 c4)::L)/\s2=⟨Fr 61 [(0,.sl 5 (x0.map AA.enc)),(1,.sl 9 (x1.map AE.enc)),(5,e3),(6,.v (.int .i64 c2)),(7,.v (.bool r))],h'⟩)/\WkY E0 s s2):=by
 intro f;induction f with
 | zero=>intro c6 c7 r h; cases h
 | succ f ih0 =>
  intro c6 c7 r h  hp hT;unfold DZ at h;refine Dr ?_;refine Ap ?_;refine Ap ?_;obtain ⟨j8,hj8,h⟩:=OB h;refine Vn (A:=fun s1=>∃ (h':Hp),T h' ((own_ (ocL 1 3 (ocV cdI)) e3 c4)::L)/\s1=⟨Fr 61 [(0,.sl 5 (x0.map AA.enc)),(1,.sl 9 (x1.map AE.enc)),(5,e3),(6,.v (.int .i64 c2)),(7,.v (.bool c6)),(8,.v (.int .i64 c7)),(25,.v (.bool j8))],h'⟩) ?_ ?_
  ·refine BR AC 2 ?_
   refine BW AC 0 rfl (DW (AB rfl) rfl (CO (a:= .sl 9 (x1.map AE.enc)) kr (BS (el:=42) kr))) ?_;refine SU (n:=61) AC 2 [(0,.sl 5 (x0.map AA.enc)),(1,.sl 9 (x1.map AE.enc)),(5,e3),(6,.v (.int .i64 c2)),(7,.v (.bool c6)),(8,.v (.int .i64 c7)),(22,.v (.bool (decide (c7 < (x1.length:Int)))))] hp kr ?_;rcases BE (decide (c7 < (x1.length:Int))) with hc35 | hc35
   ·rw [if_pos hc35] at hj8
    rw [hc35];refine BR AC 3 ?_;have hq:=OI hj8; subst hq;exact Bq rfl ⟨_,⟨hp,hT,rfl⟩,WkY.f1⟩
   ·rw [BV hc35] at hj8
    rw [hc35];refine BR AC 3 ?_;have hq:=OI hj8; subst hq;exact Bq rfl ⟨_,⟨hp,hT,rfl⟩,WkY.f1⟩
  rintro _ ⟨hp13,hT14,rfl⟩;refine DH (b:=j8) kr (fun hb15=>?_) (fun hb15=>?_)
  ·rw [if_pos hb15] at h
   refine SemY.skip ?_;refine Ap ?_;refine Ba ?_;refine CB AC [(0,.sl 5 (x0.map AA.enc)),(1,.sl 9 (x1.map AE.enc)),(5,e3),(6,.v (.int .i64 c2)),(7,.v (.bool c6)),(8,.v (.int .i64 c7)),(9,.v (.int .i64 0))] ?_;refine Ba ?_;refine SemY.loop (n:=100000) ?_;obtain ⟨r31,hr31,h⟩:=OB h;refine DY (CQ WkY.f1 (Oo x0 x1 c2 c7 e3 c4 _ c6 0 _ hr31  hp13 hT14)) ?_;rintro _ ⟨hp32,hT33,rfl⟩;refine Ab ?_;refine BR AC 3 ?_;refine Bq rfl ?_;exact CQ WkY.f1 (ih0 r31 (wr .i64 (c7 + 1)) _ h  hp32 hT33)
  ·rw [BV hb15] at h
   refine SemY.exit ?_;have hq:=OI h; subst hq;exact ⟨rfl,_,⟨hp13,hT14,rfl⟩,WkY.f1⟩
theorem Ol {L:List Asn}{hp:Hp}(c2:Int) (c4:(List Int)) (r36:Bool) (x0:(List AH)) (x1:(List Af)) (e3:AV) (r:((List Int))) (h:Ge c2 c4 r36=some r) (hT:T hp ((own_ (ocL 1 3 (ocV cdI)) e3 c4)::L)):SemY E0 ⟨none,false⟩ (pc FW [1,1,0,1,0,0,1,0,0,1,1,1]) ⟨Fr 61 [(0,.sl 5 (x0.map AA.enc)),(1,.sl 9 (x1.map AE.enc)),(5,e3),(6,.v (.int .i64 c2)),(55,.v (.bool r36))],hp⟩ (fun e s=>e = .normal/\∃ s2,(∃ (e50:AV) (h':Hp),T h' ((own_ (ocL 1 3 (ocV cdI)) e50 r)::L)/\s2=⟨Fr 61 [(0,.sl 5 (x0.map AA.enc)),(1,.sl 9 (x1.map AE.enc)),(5,e50),(6,.v (.int .i64 c2))],h'⟩)/\WkY E0 s s2):=by
 unfold Ge at h;refine DH (b:=r36) kr (fun hb39=>?_) (fun hb39=>?_)
 ·rw [if_pos hb39] at h
  refine Ab ?_;refine BR AC 2 ?_;obtain ⟨e43,hp40,hb41,hT42⟩:=M3 (P:=Tryz.prog) (bytes:=8) (k:=1) (t:=3) (ty:=48) (xs:=([c2]:List Int)) (n:=1) (Yg (k:=1) (fun _=>⟨rfl,rfl,rfl⟩)) (LY (c:=cdI) (xs:=([c2]:List Int)) hT) rfl kr kr kr;refine BW AC 0 rfl (AAK (AB rfl) rfl kr (XI (xs:=Qr 0 [.v (.int .i64 c2)]) kr hb41)) ?_;by_cases hk48:(EC 8 (c4.length + ([c2]:List Int).length))=true
  case neg=>rw [if_neg hk48] at h; cases h
  rw [if_pos hk48] at h
  have hT49:=((hT42.front 0 rfl).front 1 rfl)
  obtain ⟨e47,hp44,hb45,hT46⟩:=MW (P:=Tryz.prog) (ty:=48) (ty2:=48) (bytes:=8) hT49 kr kr hk48;refine BW AC 0 rfl (UX (AB rfl) rfl kr kr (Dg (a:=e3) (b:=e43) kr kr hb45)) ?_;refine BR AC 1 ?_;refine Bq rfl ?_;have hq:=OI h; subst hq;exact ⟨rfl,_,⟨e47,hp44,hT46,rfl⟩,WkY.f1⟩
 ·rw [BV hb39] at h
  refine SemY.skip ?_;have hq:=OI h; subst hq;exact ⟨rfl,_,⟨e3,hp,hT,rfl⟩,WkY.f1⟩
theorem Om {L:List Asn}(x0:(List AH)) (x1:(List Af)):∀ (f:Nat) (c2:Int) (c4:(List Int)) (r:((List Int))),C8 x0 x1 f c2 c4=some r->∀ (e3:AV) (hp:Hp),T hp ((own_ (ocL 1 3 (ocV cdI)) e3 c4)::L)->SemYN E0 ⟨none,false⟩ (pc FW [1,1,0,1,0,0]) f ⟨Fr 61 [(0,.sl 5 (x0.map AA.enc)),(1,.sl 9 (x1.map AE.enc)),(5,e3),(6,.v (.int .i64 c2))],hp⟩ (fun e s=>e=(.exit 0)/\∃ s2,(∃ (e56:AV) (h':Hp),T h' ((own_ (ocL 1 3 (ocV cdI)) e56 r)::L)/\s2=⟨Fr 61 [(5,e56)],h'⟩)/\WkY E0 s s2):=by
 intro f;induction f with
 | zero=>intro c2 c4 r h; cases h
 | succ f ih0 =>
  intro c2 c4 r h e3 hp hT;unfold C8 at h;refine Dr ?_;refine Ap ?_;refine Ap ?_;refine Ab ?_;refine BR AC 2 ?_;refine BW AC 0 rfl (DW (AB rfl) rfl (CO (a:= .sl 5 (x0.map AA.enc)) kr (BS (el:=60) kr))) ?_
  let p1:Nat×AV:=(6,.v (.int .i64 c2))
  let p2:Nat×AV:=(1,.sl 9 (x1.map AE.enc))
  let p3:Nat×AV:=(0,.sl 5 (x0.map AA.enc))
  refine Dx AC [p3,p2,(5,e3),p1,(15,.v (.bool (decide (c2 < (x0.length:Int)))))] ?_;refine DH (b:=(decide (c2 < (x0.length:Int)))) kr (fun hb5=>?_) (fun hb5=>?_)
  ·rw [if_pos hb5] at h
   refine SemY.skip ?_;refine Ap ?_;refine Ba ?_;refine CB AC [p3,p2,(5,e3),p1,(7,.v (.bool false))] ?_;refine Ap ?_;refine CB AC [p3,p2,(5,e3),p1,(7,.v (.bool false)),(8,.v (.int .i64 0))] ?_;refine Ba ?_;refine SemY.loop (n:=100000) ?_;obtain ⟨r36,hr36,h⟩:=OB h;refine DY (CQ WkY.f1 (On x0 x1 c2 e3 c4 _ false 0 _ hr36  hp hT)) ?_;rintro _ ⟨hp37,hT38,rfl⟩;refine CB AC [p3,p2,(5,e3),p1,(55,.v (.bool r36))] ?_;obtain ⟨r52,hr52,h⟩:=OB h;refine MG (Ol c2 c4 r36 x0 x1 e3 _ hr52 hT38) ?_;rintro _ ⟨e53,hp54,hT55,rfl⟩;refine Ab ?_;refine BR AC 3 ?_;refine Bq rfl ?_;exact CQ WkY.f1 (ih0 (wr .i64 (c2 + 1)) r52 _ h e53 hp54 hT55)
  ·rw [BV hb5] at h
   refine SemY.exit ?_;have hq:=OI h; subst hq;exact ⟨rfl,_,⟨e3,hp,hT,rfl⟩,WkY.f1⟩
theorem QC {L:List Asn}{hp:Hp}(x0:(List AH)) (x1:(List Af)) (r:(List Int)) (h:FU x0 x1=some r) (hT:T hp (L)):SemY E0 ⟨none,false⟩ FW ⟨Fr 61 (A0 0 [.sl 5 (x0.map AA.enc),.sl 9 (x1.map AE.enc)]),hp⟩ fun x s'=>(x = .normal\/x = .ret)/\∃ ys,Dz E0.P s'.fr s'.hp Tryz.f64.results.toList=some ys/\(fun v h'=>v = .sl 1 (r.map cdI.enc)/\T h' (L)) (D0 ys) s'.hp:=by
 unfold FU at h
 let p1:Nat×AV:=(1,.sl 9 (x1.map AE.enc))
 let p2:Nat×AV:=(0,.sl 5 (x0.map AA.enc))
 refine JK (Ke (s1:=⟨Fr 61 [p2,p1],hp⟩) WkY.f1 ?_);refine CB AC [p2,p1] ?_;refine CB AC [p2,p1,(5,.e0)] ?_;refine Ap ?_;refine CB AC [p2,p1,(5,.e0),(6,.v (.int .i64 0))] ?_;refine Ba ?_
 have hT1:=(T.e0 (k:=1) (ty:=3) (o:=(ocV cdI)) hT)
 refine SemY.loop (n:=100000) ?_;obtain ⟨r58,hr58,h⟩:=OB h;refine DY (CQ WkY.f1 (Om x0 x1 _ 0 ([]:(List Int)) _ hr58 .e0 hp hT1)) ?_;rintro _ ⟨e59,hp60,hT61,rfl⟩;refine CB AC [(4,e59)] ?_;refine SemY.ret ?_;have hq:=OI h; subst hq;obtain ⟨hp62,hw63,hT64⟩:=JL (E:=E0) (n:=61) (l:=[(4,e59)]) (l':=[(4,.sl 1 (r58.map cdI.enc))]) hT61 (LkT.at_ ⟨.inr ⟨kr,rfl⟩,trivial⟩);exact ⟨⟨Fr 61 [(4,.sl 1 (r58.map cdI.enc))],hp62⟩,(WkY.trans (WkY.trans WkY.f1 hw63) WkY.f1),.inr rfl,[.sl 1 (r58.map cdI.enc)],kr,⟨rfl,hT64⟩⟩
def ML:Cs ((List AH)×(List Af)×Unit):=(csC (cdL 5 AA) (csC (cdL 9 AE) csN))
def MN (r:(List Int)):AV:=(cdL 1 cdI).enc r
def Rw:List AV->Option AV:=Dm ML (fun a=>FU a.1 a.2.1) MN
theorem R7:XOk 64 Rw:=by
 refine AR Tryz.func64 (c:=FW) ?h2 ⟨Tryz.call64⟩ ML (fun a=>FU a.1 a.2.1) MN (fun a=>(by show 2<=61; decide)) ?h3 ?h4
 case h2=>kernel_rfl
 case h3=>intro b; kernel_rfl
 case h4 =>
  intro a b h;refine Sem.mono (QX (QC (L:=[]) (hp:=[]) a.1 a.2.1 b h T.nil)) fun e s' hs=>?_
  obtain ⟨h1,ys,h2,h3,-⟩:=hs;exact ⟨h1,ys,h2,h3⟩
/- trestle/trestleref03.all -/
noncomputable def Lq:Code:=A9 Tryz.f118
def Dj (x0:Int):Nat->Int->(List Int)->Option (((List Int)))
 | 0,_,_=>none
 | f + 1,c2,c4 =>
  if (decide (c2 < x0))=true then
  if (EC 8 (c4.length + ([c2]:List Int).length))=true then
  Dj x0 f (wr .i64 (c2 + 1)) (c4++([c2]:List Int))
  else none
  else
  some c4
def LJ (x0:Int):Option ((List Int)) :=
 (Dj x0 100000 0 ([]:(List Int))).bind fun r18 =>
 some r18
theorem Q6 {L:List Asn}(x0:Int):∀ (f:Nat) (c2:Int) (c4:(List Int)) (r:((List Int))),Dj x0 f c2 c4=some r->∀ (e3:AV) (hp:Hp),T hp ((own_ (ocL 1 3 (ocV cdI)) e3 c4)::L)->SemYN E0 ⟨none,false⟩ (pc Lq [1,1,0,1,0,0]) f ⟨Fr 15 [(0,.v (.int .i64 x0)),(3,e3),(4,.v (.int .i64 c2))],hp⟩ (fun e s=>e=(.exit 0)/\∃ s2,(∃ (e16:AV) (h':Hp),T h' ((own_ (ocL 1 3 (ocV cdI)) e16 r)::L)/\s2=⟨Fr 15 [(3,e16)],h'⟩)/\WkY E0 s s2):=by
 intro f;induction f with
 | zero=>intro c2 c4 r h; cases h
 | succ f ih0 =>
  intro c2 c4 r h e3 hp hT;unfold Dj at h;refine Dr ?_;refine Ap ?_;refine CB AC [(0,.v (.int .i64 x0)),(3,e3),(4,.v (.int .i64 c2)),(7,.v (.bool (decide (c2 < x0))))] ?_;refine DH (b:=(decide (c2 < x0))) kr (fun hb5=>?_) (fun hb5=>?_)
  ·rw [if_pos hb5] at h
   refine SemY.skip ?_;refine Ap ?_;refine Ba ?_;refine Ab ?_;refine BR AC 2 ?_;obtain ⟨e9,hp6,hb7,hT8⟩:=M3 (P:=Tryz.prog) (bytes:=8) (k:=1) (t:=3) (ty:=48) (xs:=([c2]:List Int)) (n:=1) (Yg (k:=1) (fun _=>⟨rfl,rfl,rfl⟩)) (LY (c:=cdI) (xs:=([c2]:List Int)) hT) rfl kr kr kr;refine BW AC 0 rfl (AAK (AB rfl) rfl kr (XI (xs:=Qr 0 [.v (.int .i64 c2)]) kr hb7)) ?_;by_cases hk14:(EC 8 (c4.length + ([c2]:List Int).length))=true
   case neg=>rw [if_neg hk14] at h; cases h
   rw [if_pos hk14] at h
   have hT15:=((hT8.front 0 rfl).front 1 rfl)
   obtain ⟨e13,hp10,hb11,hT12⟩:=MW (P:=Tryz.prog) (ty:=48) (ty2:=48) (bytes:=8) hT15 kr kr hk14;refine BW AC 0 rfl (UX (AB rfl) rfl kr kr (Dg (a:=e3) (b:=e9) kr kr hb11)) ?_;refine Dx AC [(0,.v (.int .i64 x0)),(3,e13),(4,.v (.int .i64 c2))] ?_;refine Ab ?_;refine BR AC 3 ?_;refine Bq rfl ?_;exact CQ WkY.f1 (ih0 (wr .i64 (c2 + 1)) (c4++([c2]:List Int)) _ h e13 hp10 hT12)
  ·rw [BV hb5] at h
   refine SemY.exit ?_;have hq:=OI h; subst hq;exact ⟨rfl,_,⟨e3,hp,hT,rfl⟩,WkY.f1⟩
theorem S6 {L:List Asn}{hp:Hp}(x0:Int) (r:(List Int)) (h:LJ x0=some r) (hT:T hp (L)):SemY E0 ⟨none,false⟩ Lq ⟨Fr 15 (A0 0 [.v (.int .i64 x0)]),hp⟩ fun x s'=>(x = .normal\/x = .ret)/\∃ ys,Dz E0.P s'.fr s'.hp Tryz.f118.results.toList=some ys/\(fun v h'=>∃ (z0:AV),v=z0/\T h' ((own_ (ocL 1 3 (ocV cdI)) z0 r)::L)) (D0 ys) s'.hp:=by
 unfold LJ at h
 let p1:Nat×AV:=(0,.v (.int .i64 x0))
 refine JK (Ke (s1:=⟨Fr 15 [p1],hp⟩) WkY.f1 ?_);refine CB AC [p1] ?_;refine CB AC [p1,(3,.e0)] ?_;refine Ap ?_;refine CB AC [p1,(3,.e0),(4,.v (.int .i64 0))] ?_;refine Ba ?_
 have hT1:=(T.e0 (k:=1) (ty:=3) (o:=(ocV cdI)) hT)
 refine SemY.loop (n:=100000) ?_;obtain ⟨r18,hr18,h⟩:=OB h;refine DY (CQ WkY.f1 (Q6 x0 _ 0 ([]:(List Int)) _ hr18 .e0 hp hT1)) ?_;rintro _ ⟨e19,hp20,hT21,rfl⟩;refine CB AC [(2,e19)] ?_;refine SemY.ret ?_;have hq:=OI h; subst hq;exact ⟨⟨Fr 15 [(2,e19)],hp20⟩,WkY.f1,.inr rfl,[e19],kr,⟨e19,rfl,hT21⟩⟩
/- trestle/trestleref03.Class -/
noncomputable def JM:Code:=A9 Tryz.f65
def Di (x0:(List (List Int))) (c5:Int):Nat->Int->(List Int)->Option (((List Int)))
 | 0,_,_=>none
 | f + 1,c8,c9 =>
  (idx x0 c5).bind fun v10 =>
  if (decide (c8 < (v10.length:Int)))=true then
  (idx x0 c5).bind fun v12 =>
  (idx v12 c8).bind fun v13 =>
  (idx c9 v13).bind fun _v14 =>
  Di x0 c5 f (wr .i64 (c8 + 1)) (c9.set v13.toNat c5)
  else
  some c9
def FT (x0:(List (List Int))):Nat->Int->(List Int)->Option (((List Int)))
 | 0,_,_=>none
 | f + 1,c5,c6 =>
  if (decide (c5 < (x0.length:Int)))=true then
  (Di x0 c5 100000 0 c6).bind fun r19 =>
  FT x0 f (wr .i64 (c5 + 1)) r19
  else
  some c6
def HY (x0:(List (List Int))) (x1:Int):Option ((List Int)) :=
 (LJ x1).bind fun v1 =>
 (FT x0 100000 0 v1).bind fun r23 =>
 some r23
theorem Q5 {L:List Asn}(x0:(List (List Int))) (c5:Int) (e2:AV):∀ (f:Nat) (c8:Int) (c9:(List Int)) (r:((List Int))),Di x0 c5 f c8 c9=some r->∀ (hp:Hp),T hp ((own_ (ocL 1 3 (ocV cdI)) e2 c9)::L)->SemYN E0 ⟨none,false⟩ (pc JM [1,1,0,1,0,0,1,0,0,1,0,0]) f ⟨Fr 36 [(0,.sl 1 (x0.map (cdL 1 cdI).enc)),(5,e2),(6,.v (.int .i64 c5)),(7,.v (.int .i64 c8))],hp⟩ (fun e s=>e=(.exit 2)/\∃ s2,(∃ (h':Hp),T h' ((own_ (ocL 1 3 (ocV cdI)) e2 r)::L)/\s2=⟨Fr 36 [(0,.sl 1 (x0.map (cdL 1 cdI).enc)),(5,e2),(6,.v (.int .i64 c5))],h'⟩)/\WkY E0 s s2):=by
 intro f;induction f with
 | zero=>intro c8 c9 r h; cases h
 | succ f ih0 =>
  intro c8 c9 r h  hp hT;unfold Di at h;refine Dr ?_;refine Ap ?_;refine Ap ?_;refine Ab ?_;refine BR AC 3 ?_;obtain ⟨v10,hv10,h⟩:=OB h;refine BW AC 0 rfl (DW (AB rfl) rfl (AS (a:= .sl 1 (x0.map (cdL 1 cdI).enc)) (b:= .v (.int .i64 c5)) kr kr (DP (e:=(cdL 1 cdI).enc) (el:=48) (k:=1) (ki:= .i64) kr kr hv10))) ?_;refine BR AC 1 ?_;refine BW AC 0 rfl (DW (AB rfl) rfl (CO (a:= .sl 1 (v10.map cdI.enc)) kr (BS (el:=3) kr))) ?_
  let p1:Nat×AV:=(0,.sl 1 (x0.map (cdL 1 cdI).enc))
  refine Dx AC [p1,(5,e2),(6,.v (.int .i64 c5)),(7,.v (.int .i64 c8)),(22,.v (.bool (decide (c8 < (v10.length:Int)))))] ?_;refine DH (b:=(decide (c8 < (v10.length:Int)))) kr (fun hb11=>?_) (fun hb11=>?_)
  ·rw [if_pos hb11] at h
   refine SemY.skip ?_;refine Ap ?_;refine Ba ?_;refine Ab ?_;refine BR AC 3 ?_;obtain ⟨v12,hv12,h⟩:=OB h;refine BW AC 0 rfl (DW (AB rfl) rfl (AS (a:= .sl 1 (x0.map (cdL 1 cdI).enc)) (b:= .v (.int .i64 c5)) kr kr (DP (e:=(cdL 1 cdI).enc) (el:=48) (k:=1) (ki:= .i64) kr kr hv12))) ?_;refine BR AC 2 ?_;obtain ⟨v13,hv13,h⟩:=OB h;refine BW AC 0 rfl (DW (AB rfl) rfl (AS (a:= .sl 1 (v12.map cdI.enc)) (b:= .v (.int .i64 c8)) kr kr (DP (e:=cdI.enc) (el:=3) (k:=1) (ki:= .i64) kr kr hv13))) ?_;refine BR AC 2 ?_;obtain ⟨v14,hv14,h⟩:=OB h;refine BW AC 0 rfl (DW (AB rfl) rfl (AS (a:=e2) (b:= .v (.int .i64 v13)) kr kr (Ze (bytes:=8) hT kr hv14))) ?_;obtain ⟨hp15,hs16,hT17⟩:=VM (P:=Tryz.prog) (ty:=3) (y:= .v (.int .i64 c5)) (v':=c5) hT (HT hv14).2 kr kr kr;refine RunL.store AC (y:=eAt e2 v13.toNat) (z:= .v (.int .i64 c5)) rfl (AB rfl) kr kr hs16 ?_;refine Bq rfl (SemY.fr (l':=[p1,(5,e2),(6,.v (.int .i64 c5)),(7,.v (.int .i64 c8))]) kr ?_);refine Ab ?_;refine BR AC 3 ?_;refine Bq rfl ?_;exact CQ WkY.f1 (ih0 (wr .i64 (c8 + 1)) (c9.set v13.toNat c5) _ h  hp15 hT17)
  ·rw [BV hb11] at h
   refine SemY.exit ?_;have hq:=OI h; subst hq;exact ⟨rfl,_,⟨hp,hT,rfl⟩,WkY.f1⟩
theorem Q4 {L:List Asn}(x0:(List (List Int))) (e2:AV):∀ (f:Nat) (c5:Int) (c6:(List Int)) (r:((List Int))),FT x0 f c5 c6=some r->∀ (hp:Hp),T hp ((own_ (ocL 1 3 (ocV cdI)) e2 c6)::L)->SemYN E0 ⟨none,false⟩ (pc JM [1,1,0,1,0,0]) f ⟨Fr 36 [(0,.sl 1 (x0.map (cdL 1 cdI).enc)),(5,e2),(6,.v (.int .i64 c5))],hp⟩ (fun e s=>e=(.exit 0)/\∃ s2,(∃ (h':Hp),T h' ((own_ (ocL 1 3 (ocV cdI)) e2 r)::L)/\s2=⟨Fr 36 [(5,e2)],h'⟩)/\WkY E0 s s2):=by
 intro f;induction f with
 | zero=>intro c5 c6 r h; cases h
 | succ f ih0 =>
  intro c5 c6 r h  hp hT;unfold FT at h;refine Dr ?_;refine Ap ?_;refine Ap ?_;refine Ab ?_;refine BR AC 2 ?_;refine BW AC 0 rfl (DW (AB rfl) rfl (CO (a:= .sl 1 (x0.map (cdL 1 cdI).enc)) kr (BS (el:=48) kr))) ?_
  let p1:Nat×AV:=(0,.sl 1 (x0.map (cdL 1 cdI).enc))
  refine Dx AC [p1,(5,e2),(6,.v (.int .i64 c5)),(13,.v (.bool (decide (c5 < (x0.length:Int)))))] ?_;refine DH (b:=(decide (c5 < (x0.length:Int)))) kr (fun hb7=>?_) (fun hb7=>?_)
  ·rw [if_pos hb7] at h
   refine SemY.skip ?_;refine Ap ?_;refine Ba ?_;refine CB AC [p1,(5,e2),(6,.v (.int .i64 c5)),(7,.v (.int .i64 0))] ?_;refine Ba ?_;refine SemY.loop (n:=100000) ?_;obtain ⟨r19,hr19,h⟩:=OB h;refine DY (CQ WkY.f1 (Q5 x0 c5 e2 _ 0 c6 _ hr19  hp hT)) ?_;rintro _ ⟨hp20,hT21,rfl⟩;refine Ab ?_;refine BR AC 3 ?_;refine Bq rfl ?_;exact CQ WkY.f1 (ih0 (wr .i64 (c5 + 1)) r19 _ h  hp20 hT21)
  ·rw [BV hb7] at h
   refine SemY.exit ?_;have hq:=OI h; subst hq;exact ⟨rfl,_,⟨hp,hT,rfl⟩,WkY.f1⟩
theorem S2 {L:List Asn}{hp:Hp}(x0:(List (List Int))) (x1:Int) (r:(List Int)) (h:HY x0 x1=some r) (hT:T hp (L)):SemY E0 ⟨none,false⟩ JM ⟨Fr 36 (A0 0 [.sl 1 (x0.map (cdL 1 cdI).enc),.v (.int .i64 x1)]),hp⟩ fun x s'=>(x = .normal\/x = .ret)/\∃ ys,Dz E0.P s'.fr s'.hp Tryz.f65.results.toList=some ys/\(fun v h'=>v = .sl 1 (r.map cdI.enc)/\T h' (L)) (D0 ys) s'.hp:=by
 unfold HY at h
 let p1:Nat×AV:=(0,.sl 1 (x0.map (cdL 1 cdI).enc))
 refine JK (Ke (s1:=⟨Fr 36 [p1,(1,.v (.int .i64 x1))],hp⟩) WkY.f1 ?_);refine CB AC [p1,(1,.v (.int .i64 x1))] ?_;refine Ap ?_;refine Ab ?_;refine BR AC 1 ?_;obtain ⟨v1,hv1,h⟩:=OB h;refine Nh (E:=E0) (e:=E0) rfl rfl AC rfl rfl (fid:=118) (caps:=[]) (xs:=[.v (.int .i64 x1)]) (fn:=Tryz.f118) (c:=Lq) (Out:=fun v h'=>∃ (z0:AV),v=z0/\T h' ((own_ (ocL 1 3 (ocV cdI)) z0 v1)::L)) rfl (AB rfl) kr kr kr kr (by show 1<=15; decide) (S6 x1 _ hv1 hT) ?_;rintro xx hp3 ⟨e2,hqhp3,hT4⟩; subst xx;refine Dx AC [p1,(5,e2)] ?_;refine Ap ?_;refine CB AC [p1,(5,e2),(6,.v (.int .i64 0))] ?_;refine Ba ?_;refine SemY.loop (n:=100000) ?_;obtain ⟨r23,hr23,h⟩:=OB h;refine DY (CQ WkY.f1 (Q4 x0 e2 _ 0 v1 _ hr23  hp3 hT4)) ?_;rintro _ ⟨hp24,hT25,rfl⟩;refine CB AC [(4,e2)] ?_;refine SemY.ret ?_;have hq:=OI h; subst hq;obtain ⟨hp26,hw27,hT28⟩:=JL (E:=E0) (n:=36) (l:=[(4,e2)]) (l':=[(4,.sl 1 (r23.map cdI.enc))]) hT25 (LkT.at_ ⟨.inr ⟨kr,rfl⟩,trivial⟩);exact ⟨⟨Fr 36 [(4,.sl 1 (r23.map cdI.enc))],hp26⟩,(WkY.trans (WkY.trans WkY.f1 hw27) WkY.f1),.inr rfl,[.sl 1 (r23.map cdI.enc)],kr,⟨rfl,hT28⟩⟩
def O2:Cs ((List (List Int))×Int×Unit):=(csC (cdL 1 (cdL 1 cdI)) (csC cdI csN))
def O4 (r:(List Int)):AV:=(cdL 1 cdI).enc r
def VV:List AV->Option AV:=Dm O2 (fun a=>HY a.1 a.2.1) O4
theorem Vf:XOk 65 VV:=by
 refine AR Tryz.func65 (c:=JM) ?h2 ⟨Tryz.call65⟩ O2 (fun a=>HY a.1 a.2.1) O4 (fun a=>(by show 2<=36; decide)) ?h3 ?h4
 case h2=>kernel_rfl
 case h3=>intro b; kernel_rfl
 case h4 =>
  intro a b h;refine Sem.mono (QX (S2 (L:=[]) (hp:=[]) a.1 a.2.1 b h T.nil)) fun e s' hs=>?_
  obtain ⟨h1,ys,h2,h3,-⟩:=hs;exact ⟨h1,ys,h2,h3⟩
/- slices.Equal[[]int,int] -/
noncomputable def HI:Code:=A9 Tryz.f66
def Ei (x0:(List Int)) (x1:(List Int)):Nat->Int->Option ((Unit) ⊕ (Bool))
 | 0,_=>none
 | f + 1,c2 =>
  if (decide (c2 < (x0.length:Int)))=true then
  (idx x0 c2).bind fun v4 =>
  (idx x1 c2).bind fun v5 =>
  if (v4 != v5)=true then
  some (.inr false)
  else
  Ei x0 x1 f (wr .i64 (c2 + 1))
  else
  some (.inl ())
def DE (x0:(List Int)) (x1:(List Int)):Option (Bool) :=
 if ((x0.length:Int)!=(x1.length:Int))=true then
 some false
 else
 (Ei x0 x1 100000 0).bind fun r8 =>
 match r8 with
 | (.inl _w9) =>
  some true
 | (.inr w10) =>
  some w10
def HN:Cs ((List Int)×(List Int)×Unit):=(csC (cdL 1 cdI) (csC (cdL 1 cdI) csN))
def HP (r:Bool):AV:=cdB.enc r
theorem IJ (x0:(List Int)) (x1:(List Int)):∀ (f:Nat) (c2:Int) (r:(Unit) ⊕ (Bool)),Ei x0 x1 f c2=some r->SemN E0 ⟨none,false⟩ (pc HI [1,1,0,1,0,0]) f ⟨Fr 26 [(0,.sl 1 (x0.map cdI.enc)),(1,.sl 1 (x1.map cdI.enc)),(12,.v (.int .i64 (x0.length:Int))),(13,.v (.int .i64 c2))],[]⟩ (fun e s=>match r with
 | (.inl _w)=>e=(.exit 0)/\Wk E0 s ⟨Fr 26 [],[]⟩
 | (.inr w)=>e = .ret/\Wk E0 s ⟨Fr 26 [(4,.v (.bool w))],[]⟩):=by
 intro f;induction f with
 | zero=>intro c2 r h; cases h
 | succ f ih0 =>
  intro c2 r h
  have ih:=fun (c2:Int)=>ih0 c2 r
  unfold Ei at h;refine Bc ?_
  let p1:Nat×AV:=(13,.v (.int .i64 c2))
  let p2:Nat×AV:=(12,.v (.int .i64 (x0.length:Int)))
  let p3:Nat×AV:=(1,.sl 1 (x1.map cdI.enc))
  let p4:Nat×AV:=(0,.sl 1 (x0.map cdI.enc))
  refine AK AC [p4,p3,p2,p1,(14,.v (.bool (decide (c2 < (x0.length:Int)))))] [] ?_;refine AG ?_;refine AP (b:=(decide (c2 < (x0.length:Int)))) kr (fun hb3=>?_) (fun hb3=>?_)
  ·rw [if_pos hb3] at h
   refine AT ?_;refine AG ?_;refine Aa ?_;refine AK AC [p4,p3,(5,.v (.int .i64 c2)),p2,p1] [] ?_;refine AG ?_;obtain ⟨v4,hv4,h⟩:=OB h;obtain ⟨v5,hv5,h⟩:=OB h;refine C0 AC (s1:=⟨Fr 26 [p4,p3,p2,p1,(24,.v (.bool (v4 != v5)))],[]⟩) kr ?_ ?_
   ·refine AU (n:=26) AC 2 [p4,p3,(5,.v (.int .i64 c2)),p2,p1,(16,.sl 1 (x0.map cdI.enc)),(17,.v (.int .i64 c2))] [] kr kr ?_
    refine RunDS.one AC rfl kr (HF kr (AB rfl) rfl (AS (a:= .sl 1 (x0.map cdI.enc)) (b:= .v (.int .i64 c2)) kr kr (DP (e:=cdI.enc) (el:=3) (k:=1) (ki:= .i64) kr kr hv4)) kr) ?_;refine AU (n:=26) AC 3 [p4,p3,p2,p1,(19,.v (.int .i64 v4)),(20,.sl 1 (x1.map cdI.enc)),(21,.v (.int .i64 c2))] [] kr kr ?_;refine RunDS.one AC rfl kr (HF kr (AB rfl) rfl (AS (a:= .sl 1 (x1.map cdI.enc)) (b:= .v (.int .i64 c2)) kr kr (DP (e:=cdI.enc) (el:=3) (k:=1) (ki:= .i64) kr kr hv5)) kr) ?_;refine AU (n:=26) AC 2 [p4,p3,p2,p1,(24,.v (.bool (v4 != v5)))] [] kr kr ?_;exact RunDS.done rfl AM
   refine AP (b:=(v4 != v5)) kr (fun hb6=>?_) (fun hb6=>?_)
   ·rw [if_pos hb6] at h
    refine AK AC [(4,.v (.bool false))] [] ?_;refine AO ?_;have hq:=OI h; subst hq;exact ⟨rfl,AM⟩
   ·rw [BV hb6] at h
    refine AT ?_
    let p5:Nat×AV:=(13,.v (.int .i64 (wr .i64 (c2 + 1))))
    refine DC AC [p4,p3,p2,p5] [] ?_;exact Aj (s1:=⟨Fr 26 [p4,p3,p2,p5],[]⟩) AM (ih (wr .i64 (c2 + 1)) h)
  ·rw [BV hb3] at h
   refine CA ?_;have hq:=OI h; subst hq;exact ⟨rfl,AM⟩
theorem Ng (x0:(List Int)) (x1:(List Int)) (r:Bool) (h:DE x0 x1=some r):Sem E0 ⟨none,false⟩ HI ⟨Fr 26 (A0 0 (HN.enc (x0,x1,()))),[]⟩ fun e s'=>(e = .normal\/e = .ret)/\∃ xs,Dz E0.P s'.fr s'.hp Tryz.f66.results.toList=some xs/\D0 xs=HP r:=by
 unfold DE at h
 let p1:Nat×AV:=(1,.sl 1 (x1.map cdI.enc))
 let p2:Nat×AV:=(0,.sl 1 (x0.map cdI.enc))
 refine Ao (BL (s1:=⟨Fr 26 [p2,p1],[]⟩) AM ?_);refine AK AC [p2,p1] [] ?_;refine AG ?_;refine AG ?_;refine AL (s1:=⟨Fr 26 [p2,p1,(10,.v (.bool ((x0.length:Int)!=(x1.length:Int))))],[]⟩) ?_ ?_
 ·refine AD (n:=26) AC 1 [p2,p1,(6,.sl 1 (x0.map cdI.enc))] [] kr ?_
  refine AW AC 0 rfl (DW (AB rfl) rfl (CO (a:= .sl 1 (x0.map cdI.enc)) kr (BS (el:=3) kr))) ?_;refine AD (n:=26) AC 1 [p2,p1,(7,.v (.int .i64 (x0.length:Int))),(8,.sl 1 (x1.map cdI.enc))] [] kr ?_;refine AW AC 0 rfl (DW (AB rfl) rfl (CO (a:= .sl 1 (x1.map cdI.enc)) kr (BS (el:=3) kr))) ?_;exact AX AC
 refine AP (b:=((x0.length:Int)!=(x1.length:Int))) kr (fun hb1=>?_) (fun hb1=>?_)
 ·rw [if_pos hb1] at h
  refine AK AC [(4,.v (.bool false))] [] ?_;refine AO ?_;have hq:=OI h; subst hq;exact ⟨⟨Fr 26 [(4,.v (.bool false))],[]⟩,AM,.inr rfl,[.v (.bool false)],kr,kr⟩
 ·rw [BV hb1] at h
  refine AT ?_;refine AG ?_;refine AG ?_
  let p3:Nat×AV:=(13,.v (.int .i64 0))
  let p4:Nat×AV:=(12,.v (.int .i64 (x0.length:Int)))
  refine AL (s1:=⟨Fr 26 [p2,p1,p4,p3],[]⟩) ?_ ?_
  ·refine AD (n:=26) AC 1 [p2,p1,(11,.sl 1 (x0.map cdI.enc))] [] kr ?_
   refine AW AC 0 rfl (DW (AB rfl) rfl (CO (a:= .sl 1 (x0.map cdI.enc)) kr (BS (el:=3) kr))) ?_;exact AX AC
  refine Aa ?_;obtain ⟨r8,hr8,h⟩:=OB h;refine CF (n:=100000) ?_;rcases r8 with w9 | w10
  ·try dsimp only at h
   refine A1 (Aj (s1:=⟨Fr 26 [p2,p1,p4,p3],[]⟩) AM (IJ x0 x1 _ 0 _ hr8)) ?_;refine AK AC [(4,.v (.bool true))] [] ?_;refine AO ?_;have hq:=OI h; subst hq;exact ⟨⟨Fr 26 [(4,.v (.bool true))],[]⟩,AM,.inr rfl,[.v (.bool true)],kr,kr⟩
  ·try dsimp only at h
   refine A1 (Aj (s1:=⟨Fr 26 [p2,p1,p4,p3],[]⟩) AM (IJ x0 x1 _ 0 _ hr8)) ?_;have hq:=OI h; subst hq;exact ⟨⟨Fr 26 [(4,.v (.bool w10))],[]⟩,AM,.inr rfl,[.v (.bool w10)],kr,kr⟩
def Ot:List AV->Option AV:=Dm HN (fun a=>DE a.1 a.2.1) HP
theorem Hu:XOk 66 Ot:=by
 refine AR Tryz.func66 (c:=HI) ?h2 ⟨Tryz.call66⟩ HN (fun a=>DE a.1 a.2.1) HP (fun a=>(by show 2<=26; decide)) ?h3 ?h4
 case h2=>kernel_rfl
 case h3=>intro b; kernel_rfl
 case h4=>exact fun a b h=>Ng a.1 a.2.1 b h
/- trestle/trestlekit.SameInts -/
noncomputable def Kh:Code:=A9 Tryz.f120
def Dh (x0:(List Int)) (x1:(List Int)):Nat->Int->Option ((Unit) ⊕ (Bool))
 | 0,_=>none
 | f + 1,c2 =>
  if (decide (c2 < (x0.length:Int)))=true then
  (idx x0 c2).bind fun v4 =>
  (idx x1 c2).bind fun v5 =>
  if (v4 != v5)=true then
  some (.inr false)
  else
  Dh x0 x1 f (wr .i64 (c2 + 1))
  else
  some (.inl ())
def HV (x0:(List Int)) (x1:(List Int)):Option (Bool) :=
 if ((x0.length:Int)!=(x1.length:Int))=true then
 some false
 else
 (Dh x0 x1 100000 0).bind fun r8 =>
 match r8 with
 | (.inl _w9) =>
  some true
 | (.inr w10) =>
  some w10
def Kt:Cs ((List Int)×(List Int)×Unit):=(csC (cdL 1 cdI) (csC (cdL 1 cdI) csN))
def K3 (r:Bool):AV:=cdB.enc r
theorem Lf (x0:(List Int)) (x1:(List Int)):∀ (f:Nat) (c2:Int) (r:(Unit) ⊕ (Bool)),Dh x0 x1 f c2=some r->SemN E0 ⟨none,false⟩ (pc Kh [1,1,0,1,0,0]) f ⟨Fr 26 [(0,.sl 1 (x0.map cdI.enc)),(1,.sl 1 (x1.map cdI.enc)),(5,.v (.int .i64 c2))],[]⟩ (fun e s=>match r with
 | (.inl _w)=>e=(.exit 0)/\Wk E0 s ⟨Fr 26 [],[]⟩
 | (.inr w)=>e = .ret/\Wk E0 s ⟨Fr 26 [(4,.v (.bool w))],[]⟩):=by
 intro f;induction f with
 | zero=>intro c2 r h; cases h
 | succ f ih0 =>
  intro c2 r h
  have ih:=fun (c2:Int)=>ih0 c2 r
  unfold Dh at h;refine Bc ?_;refine AG ?_;refine AG ?_
  let p1:Nat×AV:=(5,.v (.int .i64 c2))
  let p2:Nat×AV:=(1,.sl 1 (x1.map cdI.enc))
  let p3:Nat×AV:=(0,.sl 1 (x0.map cdI.enc))
  refine AL (s1:=⟨Fr 26 [p3,p2,p1,(14,.v (.bool (decide (c2 < (x0.length:Int)))))],[]⟩) ?_ ?_
  ·refine AD (n:=26) AC 2 [p3,p2,p1,(11,.v (.int .i64 c2)),(12,.sl 1 (x0.map cdI.enc))] [] kr ?_
   refine AW AC 0 rfl (DW (AB rfl) rfl (CO (a:= .sl 1 (x0.map cdI.enc)) kr (BS (el:=3) kr))) ?_;exact AX AC
  refine AP (b:=(decide (c2 < (x0.length:Int)))) kr (fun hb3=>?_) (fun hb3=>?_)
  ·rw [if_pos hb3] at h
   refine AT ?_;refine AG ?_;refine Aa ?_;refine AG ?_;obtain ⟨v4,hv4,h⟩:=OB h;obtain ⟨v5,hv5,h⟩:=OB h;refine C0 AC (s1:=⟨Fr 26 [p3,p2,p1,(25,.v (.bool (v4 != v5)))],[]⟩) kr ?_ ?_
   ·refine AU (n:=26) AC 2 [p3,p2,p1,(17,.sl 1 (x0.map cdI.enc)),(18,.v (.int .i64 c2))] [] kr kr ?_
    refine RunDS.one AC rfl kr (HF kr (AB rfl) rfl (AS (a:= .sl 1 (x0.map cdI.enc)) (b:= .v (.int .i64 c2)) kr kr (DP (e:=cdI.enc) (el:=3) (k:=1) (ki:= .i64) kr kr hv4)) kr) ?_;refine AU (n:=26) AC 3 [p3,p2,p1,(20,.v (.int .i64 v4)),(21,.sl 1 (x1.map cdI.enc)),(22,.v (.int .i64 c2))] [] kr kr ?_;refine RunDS.one AC rfl kr (HF kr (AB rfl) rfl (AS (a:= .sl 1 (x1.map cdI.enc)) (b:= .v (.int .i64 c2)) kr kr (DP (e:=cdI.enc) (el:=3) (k:=1) (ki:= .i64) kr kr hv5)) kr) ?_;refine AU (n:=26) AC 2 [p3,p2,p1,(25,.v (.bool (v4 != v5)))] [] kr kr ?_;exact RunDS.done rfl AM
   refine AP (b:=(v4 != v5)) kr (fun hb6=>?_) (fun hb6=>?_)
   ·rw [if_pos hb6] at h
    refine AK AC [(4,.v (.bool false))] [] ?_;refine AO ?_;have hq:=OI h; subst hq;exact ⟨rfl,AM⟩
   ·rw [BV hb6] at h
    refine AT ?_
    let p4:Nat×AV:=(5,.v (.int .i64 (wr .i64 (c2 + 1))))
    refine DC AC [p3,p2,p4] [] ?_;exact Aj (s1:=⟨Fr 26 [p3,p2,p4],[]⟩) AM (ih (wr .i64 (c2 + 1)) h)
  ·rw [BV hb3] at h
   refine CA ?_;have hq:=OI h; subst hq;exact ⟨rfl,AM⟩
theorem Rh (x0:(List Int)) (x1:(List Int)) (r:Bool) (h:HV x0 x1=some r):Sem E0 ⟨none,false⟩ Kh ⟨Fr 26 (A0 0 (Kt.enc (x0,x1,()))),[]⟩ fun e s'=>(e = .normal\/e = .ret)/\∃ xs,Dz E0.P s'.fr s'.hp Tryz.f120.results.toList=some xs/\D0 xs=K3 r:=by
 unfold HV at h
 let p1:Nat×AV:=(1,.sl 1 (x1.map cdI.enc))
 let p2:Nat×AV:=(0,.sl 1 (x0.map cdI.enc))
 refine Ao (BL (s1:=⟨Fr 26 [p2,p1],[]⟩) AM ?_);refine AK AC [p2,p1] [] ?_;refine AG ?_;refine AG ?_;refine AL (s1:=⟨Fr 26 [p2,p1,(10,.v (.bool ((x0.length:Int)!=(x1.length:Int))))],[]⟩) ?_ ?_
 ·refine AD (n:=26) AC 1 [p2,p1,(6,.sl 1 (x0.map cdI.enc))] [] kr ?_
  refine AW AC 0 rfl (DW (AB rfl) rfl (CO (a:= .sl 1 (x0.map cdI.enc)) kr (BS (el:=3) kr))) ?_;refine AD (n:=26) AC 1 [p2,p1,(7,.v (.int .i64 (x0.length:Int))),(8,.sl 1 (x1.map cdI.enc))] [] kr ?_;refine AW AC 0 rfl (DW (AB rfl) rfl (CO (a:= .sl 1 (x1.map cdI.enc)) kr (BS (el:=3) kr))) ?_;exact AX AC
 refine AP (b:=((x0.length:Int)!=(x1.length:Int))) kr (fun hb1=>?_) (fun hb1=>?_)
 ·rw [if_pos hb1] at h
  refine AK AC [(4,.v (.bool false))] [] ?_;refine AO ?_;have hq:=OI h; subst hq;exact ⟨⟨Fr 26 [(4,.v (.bool false))],[]⟩,AM,.inr rfl,[.v (.bool false)],kr,kr⟩
 ·rw [BV hb1] at h
  refine AT ?_;refine AG ?_
  let p3:Nat×AV:=(5,.v (.int .i64 0))
  refine AK AC [p2,p1,p3] [] ?_;refine Aa ?_;obtain ⟨r8,hr8,h⟩:=OB h;refine CF (n:=100000) ?_;rcases r8 with w9 | w10
  ·try dsimp only at h
   refine A1 (Aj (s1:=⟨Fr 26 [p2,p1,p3],[]⟩) AM (Lf x0 x1 _ 0 _ hr8)) ?_;refine AK AC [(4,.v (.bool true))] [] ?_;refine AO ?_;have hq:=OI h; subst hq;exact ⟨⟨Fr 26 [(4,.v (.bool true))],[]⟩,AM,.inr rfl,[.v (.bool true)],kr,kr⟩
  ·try dsimp only at h
   refine A1 (Aj (s1:=⟨Fr 26 [p2,p1,p3],[]⟩) AM (Lf x0 x1 _ 0 _ hr8)) ?_;have hq:=OI h; subst hq;exact ⟨⟨Fr 26 [(4,.v (.bool w10))],[]⟩,AM,.inr rfl,[.v (.bool w10)],kr,kr⟩
def T8:List AV->Option AV:=Dm Kt (fun a=>HV a.1 a.2.1) K3
theorem UK:XOk 120 T8:=by
 refine AR Tryz.func120 (c:=Kh) ?h2 ⟨Tryz.call120⟩ Kt (fun a=>HV a.1 a.2.1) K3 (fun a=>(by show 2<=26; decide)) ?h3 ?h4
 case h2=>kernel_rfl
 case h3=>intro b; kernel_rfl
 case h4=>exact fun a b h=>Rh a.1 a.2.1 b h
/- trestle/trestlekit.SameLists -/
noncomputable def Jk:Code:=A9 Tryz.f67
def DV (x0:(List (List Int))) (x1:(List (List Int))):Nat->Int->Option ((Unit) ⊕ (Bool))
 | 0,_=>none
 | f + 1,c2 =>
  if (decide (c2 < (x0.length:Int)))=true then
  (idx x0 c2).bind fun v4 =>
  (idx x1 c2).bind fun v5 =>
  (HV v4 v5).bind fun v6 =>
  if (!v6)=true then
  some (.inr false)
  else
  DV x0 x1 f (wr .i64 (c2 + 1))
  else
  some (.inl ())
def Gw (x0:(List (List Int))) (x1:(List (List Int))):Option (Bool) :=
 if ((x0.length:Int)!=(x1.length:Int))=true then
 some false
 else
 (DV x0 x1 100000 0).bind fun r9 =>
 match r9 with
 | (.inl _w10) =>
  some true
 | (.inr w11) =>
  some w11
def J1:Cs ((List (List Int))×(List (List Int))×Unit):=(csC (cdL 1 (cdL 1 cdI)) (csC (cdL 1 (cdL 1 cdI)) csN))
def KL (r:Bool):AV:=cdB.enc r
theorem LA (x0:(List (List Int))) (x1:(List (List Int))):∀ (f:Nat) (c2:Int) (r:(Unit) ⊕ (Bool)),DV x0 x1 f c2=some r->SemN E0 ⟨none,false⟩ (pc Jk [1,1,0,1,0,0]) f ⟨Fr 27 [(0,.sl 1 (x0.map (cdL 1 cdI).enc)),(1,.sl 1 (x1.map (cdL 1 cdI).enc)),(5,.v (.int .i64 c2))],[]⟩ (fun e s=>match r with
 | (.inl _w)=>e=(.exit 0)/\Wk E0 s ⟨Fr 27 [],[]⟩
 | (.inr w)=>e = .ret/\Wk E0 s ⟨Fr 27 [(4,.v (.bool w))],[]⟩):=by
 intro f;induction f with
 | zero=>intro c2 r h; cases h
 | succ f ih0 =>
  intro c2 r h
  have ih:=fun (c2:Int)=>ih0 c2 r
  unfold DV at h;refine Bc ?_;refine AG ?_;refine AG ?_
  let p1:Nat×AV:=(5,.v (.int .i64 c2))
  let p2:Nat×AV:=(1,.sl 1 (x1.map (cdL 1 cdI).enc))
  let p3:Nat×AV:=(0,.sl 1 (x0.map (cdL 1 cdI).enc))
  refine AL (s1:=⟨Fr 27 [p3,p2,p1,(14,.v (.bool (decide (c2 < (x0.length:Int)))))],[]⟩) ?_ ?_
  ·refine AD (n:=27) AC 2 [p3,p2,p1,(11,.v (.int .i64 c2)),(12,.sl 1 (x0.map (cdL 1 cdI).enc))] [] kr ?_
   refine AW AC 0 rfl (DW (AB rfl) rfl (CO (a:= .sl 1 (x0.map (cdL 1 cdI).enc)) kr (BS (el:=48) kr))) ?_;exact AX AC
  refine AP (b:=(decide (c2 < (x0.length:Int)))) kr (fun hb3=>?_) (fun hb3=>?_)
  ·rw [if_pos hb3] at h
   refine AT ?_;refine AG ?_;refine Aa ?_;refine AG ?_;obtain ⟨v4,hv4,h⟩:=OB h;obtain ⟨v5,hv5,h⟩:=OB h;obtain ⟨v6,hv6,h⟩:=OB h;refine C0 AC (s1:=⟨Fr 27 [p3,p2,p1,(26,.v (.bool (!v6)))],[]⟩) kr ?_ ?_
   ·refine AU (n:=27) AC 2 [p3,p2,p1,(17,.sl 1 (x0.map (cdL 1 cdI).enc)),(18,.v (.int .i64 c2))] [] kr kr ?_
    refine RunDS.one AC rfl kr (HF kr (AB rfl) rfl (AS (a:= .sl 1 (x0.map (cdL 1 cdI).enc)) (b:= .v (.int .i64 c2)) kr kr (DP (e:=(cdL 1 cdI).enc) (el:=48) (k:=1) (ki:= .i64) kr kr hv4)) kr) ?_;refine AU (n:=27) AC 3 [p3,p2,p1,(20,.sl 1 (v4.map cdI.enc)),(21,.sl 1 (x1.map (cdL 1 cdI).enc)),(22,.v (.int .i64 c2))] [] kr kr ?_;refine RunDS.one AC rfl kr (HF kr (AB rfl) rfl (AS (a:= .sl 1 (x1.map (cdL 1 cdI).enc)) (b:= .v (.int .i64 c2)) kr kr (DP (e:=(cdL 1 cdI).enc) (el:=48) (k:=1) (ki:= .i64) kr kr hv5)) kr) ?_;refine AU (n:=27) AC 1 [p3,p2,p1,(20,.sl 1 (v4.map cdI.enc)),(24,.sl 1 (v5.map cdI.enc))] [] kr kr ?_;refine BQ (caps:=[]) (xs:=[.sl 1 (v4.map cdI.enc),.sl 1 (v5.map cdI.enc)]) (u:=(v4,v5,())) rfl rfl UK rfl (AB rfl) kr kr (AJ (AQ (c:=(cdL 1 cdI)) (v:=v4)) (AJ (AQ (c:=(cdL 1 cdI)) (v:=v5)) Ah)) kr hv6 ?_;refine AU (n:=27) AC 1 [p3,p2,p1,(26,.v (.bool (!v6)))] [] kr kr ?_;exact RunDS.done rfl AM
   refine AP (b:=(!v6)) kr (fun hb7=>?_) (fun hb7=>?_)
   ·rw [if_pos hb7] at h
    refine AK AC [(4,.v (.bool false))] [] ?_;refine AO ?_;have hq:=OI h; subst hq;exact ⟨rfl,AM⟩
   ·rw [BV hb7] at h
    refine AT ?_
    let p4:Nat×AV:=(5,.v (.int .i64 (wr .i64 (c2 + 1))))
    refine DC AC [p3,p2,p4] [] ?_;exact Aj (s1:=⟨Fr 27 [p3,p2,p4],[]⟩) AM (ih (wr .i64 (c2 + 1)) h)
  ·rw [BV hb3] at h
   refine CA ?_;have hq:=OI h; subst hq;exact ⟨rfl,AM⟩
theorem Qx (x0:(List (List Int))) (x1:(List (List Int))) (r:Bool) (h:Gw x0 x1=some r):Sem E0 ⟨none,false⟩ Jk ⟨Fr 27 (A0 0 (J1.enc (x0,x1,()))),[]⟩ fun e s'=>(e = .normal\/e = .ret)/\∃ xs,Dz E0.P s'.fr s'.hp Tryz.f67.results.toList=some xs/\D0 xs=KL r:=by
 unfold Gw at h
 let p1:Nat×AV:=(1,.sl 1 (x1.map (cdL 1 cdI).enc))
 let p2:Nat×AV:=(0,.sl 1 (x0.map (cdL 1 cdI).enc))
 refine Ao (BL (s1:=⟨Fr 27 [p2,p1],[]⟩) AM ?_);refine AK AC [p2,p1] [] ?_;refine AG ?_;refine AG ?_;refine AL (s1:=⟨Fr 27 [p2,p1,(10,.v (.bool ((x0.length:Int)!=(x1.length:Int))))],[]⟩) ?_ ?_
 ·refine AD (n:=27) AC 1 [p2,p1,(6,.sl 1 (x0.map (cdL 1 cdI).enc))] [] kr ?_
  refine AW AC 0 rfl (DW (AB rfl) rfl (CO (a:= .sl 1 (x0.map (cdL 1 cdI).enc)) kr (BS (el:=48) kr))) ?_;refine AD (n:=27) AC 1 [p2,p1,(7,.v (.int .i64 (x0.length:Int))),(8,.sl 1 (x1.map (cdL 1 cdI).enc))] [] kr ?_;refine AW AC 0 rfl (DW (AB rfl) rfl (CO (a:= .sl 1 (x1.map (cdL 1 cdI).enc)) kr (BS (el:=48) kr))) ?_;exact AX AC
 refine AP (b:=((x0.length:Int)!=(x1.length:Int))) kr (fun hb1=>?_) (fun hb1=>?_)
 ·rw [if_pos hb1] at h
  refine AK AC [(4,.v (.bool false))] [] ?_;refine AO ?_;have hq:=OI h; subst hq;exact ⟨⟨Fr 27 [(4,.v (.bool false))],[]⟩,AM,.inr rfl,[.v (.bool false)],kr,kr⟩
 ·rw [BV hb1] at h
  refine AT ?_;refine AG ?_
  let p3:Nat×AV:=(5,.v (.int .i64 0))
  refine AK AC [p2,p1,p3] [] ?_;refine Aa ?_;obtain ⟨r9,hr9,h⟩:=OB h;refine CF (n:=100000) ?_;rcases r9 with w10 | w11
  ·try dsimp only at h
   refine A1 (Aj (s1:=⟨Fr 27 [p2,p1,p3],[]⟩) AM (LA x0 x1 _ 0 _ hr9)) ?_;refine AK AC [(4,.v (.bool true))] [] ?_;refine AO ?_;have hq:=OI h; subst hq;exact ⟨⟨Fr 27 [(4,.v (.bool true))],[]⟩,AM,.inr rfl,[.v (.bool true)],kr,kr⟩
  ·try dsimp only at h
   refine A1 (Aj (s1:=⟨Fr 27 [p2,p1,p3],[]⟩) AM (LA x0 x1 _ 0 _ hr9)) ?_;have hq:=OI h; subst hq;exact ⟨⟨Fr 27 [(4,.v (.bool w11))],[]⟩,AM,.inr rfl,[.v (.bool w11)],kr,kr⟩
def TR:List AV->Option AV:=Dm J1 (fun a=>Gw a.1 a.2.1) KL
theorem Tl:XOk 67 TR:=by
 refine AR Tryz.func67 (c:=Jk) ?h2 ⟨Tryz.call67⟩ J1 (fun a=>Gw a.1 a.2.1) KL (fun a=>(by show 2<=27; decide)) ?h3 ?h4
 case h2=>kernel_rfl
 case h3=>intro b; kernel_rfl
 case h4=>exact fun a b h=>Qx a.1 a.2.1 b h
/- trestle/court.Class -/
noncomputable def Hw:Code:=A9 Tryz.f25
def Hx (x1:(List Af)) (c3:Int) (c5:(List Int)):Option (((List Int))) :=
 if (c3==0)=true then
 if (Y3 8 (x1.length:Int))=true then
 some (List.replicate (x1.length:Int).toNat (0:Int))
 else none
 else
 some c5
def DS (c3:Int) (v7:(List Int)):Nat->Int->(List Int)->Option (((List Int)))
 | 0,_,_=>none
 | f + 1,c21,c22 =>
  if (decide (c21 < (v7.length:Int)))=true then
  (idx v7 c21).bind fun v24 =>
  (idx c22 v24).bind fun _v25 =>
  DS c3 v7 f (wr .i64 (c21 + 1)) (c22.set v24.toNat c3)
  else
  some c22
def EW (x1:(List Af)) (v1:(List (List Int))):Nat->Int->(List Int)->Option (((List Int)))
 | 0,_,_=>none
 | f + 1,c3,c5 =>
  if (decide (c3 < (v1.length:Int)))=true then
  (idx v1 c3).bind fun v7 =>
  (Hx x1 c3 c5).bind fun r17 =>
  (DS c3 v7 100000 0 r17).bind fun r30 =>
  EW x1 v1 f (wr .i64 (c3 + 1)) r30
  else
  some c5
def F9 (x0:(List AH)) (x1:(List Af)):Option ((List Int)) :=
 (Dc x0 x1).bind fun v1 =>
 (EW x1 v1 100000 0 ([]:(List Int))).bind fun r35 =>
 some r35
theorem Qb {L:List Asn}{hp:Hp}(x1:(List Af)) (c3:Int) (c5:(List Int)) (v1:(List (List Int))) (e4:AV) (v7:(List Int)) (r:((List Int))) (h:Hx x1 c3 c5=some r) (hT:T hp ((own_ (ocL 1 3 (ocV cdI)) e4 c5)::L)):SemY E0 ⟨none,false⟩ (pc Hw [1,1,0,1,0,0,1,1,0,0,1,0,1]) ⟨Fr 37 [(1,.sl 9 (x1.map AE.enc)),(5,e4),(6,.v (.int .i64 c3)),(7,.sl 1 (v7.map cdI.enc)),(12,.sl 1 (v1.map (cdL 1 cdI).enc)),(13,.v (.int .i64 (v1.length:Int))),(14,.v (.int .i64 c3)),(20,.v (.bool (c3==0)))],hp⟩ (fun e s=>e = .normal/\∃ s2,(∃ (e14:AV) (h':Hp),T h' ((own_ (ocL 1 3 (ocV cdI)) e14 r)::L)/\s2=⟨Fr 37 [(1,.sl 9 (x1.map AE.enc)),(5,e14),(6,.v (.int .i64 c3)),(7,.sl 1 (v7.map cdI.enc)),(12,.sl 1 (v1.map (cdL 1 cdI).enc)),(13,.v (.int .i64 (v1.length:Int))),(14,.v (.int .i64 c3))],h'⟩)/\WkY E0 s s2):=by
 unfold Hx at h;refine DH (b:=(c3==0)) kr (fun hb8=>?_) (fun hb8=>?_)
 ·rw [if_pos hb8] at h
  refine Ab ?_;refine BR AC 1 ?_;refine BW AC 0 rfl (DW (AB rfl) rfl (CO (a:= .sl 9 (x1.map AE.enc)) kr (BS (el:=42) kr))) ?_;by_cases hk9:(Y3 8 (x1.length:Int))=true
  case neg=>rw [if_neg hk9] at h; cases h
  rw [if_pos hk9] at h;obtain ⟨e13,hp10,hb11,hT12⟩:=Zl (P:=Tryz.prog) (o:=(ocV cdI)) (k:=1) (t:=3) (ty:=48) (bytes:=8) (kn:= .i64) (kc:= .i64) (m:=(x1.length:Int)) (x0:=0) hT (fun _=>⟨rfl,rfl⟩) kr kr hk9;refine BW AC 0 rfl (AAK (AB rfl) rfl kr (ABi (x:= .v (.int .i64 (x1.length:Int))) (y:= .v (.int .i64 (x1.length:Int))) kr kr hb11)) ?_;refine BR AC 1 ?_;refine Bq rfl ?_;have hq:=OI h; subst hq
  have hT16:=(hT12.front 1 rfl).drop
  exact ⟨rfl,_,⟨e13,hp10,hT16,rfl⟩,WkY.f1⟩
 ·rw [BV hb8] at h
  refine SemY.skip ?_;have hq:=OI h; subst hq;exact ⟨rfl,_,⟨e4,hp,hT,rfl⟩,WkY.f1⟩
theorem Qd {L:List Asn}(c3:Int) (v7:(List Int)) (x1:(List Af)) (v1:(List (List Int))) (e18:AV):∀ (f:Nat) (c21:Int) (c22:(List Int)) (r:((List Int))),DS c3 v7 f c21 c22=some r->∀ (hp:Hp),T hp ((own_ (ocL 1 3 (ocV cdI)) e18 c22)::L)->SemYN E0 ⟨none,false⟩ (pc Hw [1,1,0,1,0,0,1,1,0,0,1,1,1,0,0]) f ⟨Fr 37 [(1,.sl 9 (x1.map AE.enc)),(5,e18),(6,.v (.int .i64 c3)),(12,.sl 1 (v1.map (cdL 1 cdI).enc)),(13,.v (.int .i64 (v1.length:Int))),(14,.v (.int .i64 c3)),(24,.sl 1 (v7.map cdI.enc)),(25,.v (.int .i64 (v7.length:Int))),(26,.v (.int .i64 c21))],hp⟩ (fun e s=>e=(.exit 2)/\∃ s2,(∃ (h':Hp),T h' ((own_ (ocL 1 3 (ocV cdI)) e18 r)::L)/\s2=⟨Fr 37 [(1,.sl 9 (x1.map AE.enc)),(5,e18),(12,.sl 1 (v1.map (cdL 1 cdI).enc)),(13,.v (.int .i64 (v1.length:Int))),(14,.v (.int .i64 c3))],h'⟩)/\WkY E0 s s2):=by
 intro f;induction f with
 | zero=>intro c21 c22 r h; cases h
 | succ f ih0 =>
  intro c21 c22 r h  hp hT;unfold DS at h;refine Dr ?_
  let p1:Nat×AV:=(26,.v (.int .i64 c21))
  let p2:Nat×AV:=(25,.v (.int .i64 (v7.length:Int)))
  let p3:Nat×AV:=(24,.sl 1 (v7.map cdI.enc))
  let p4:Nat×AV:=(14,.v (.int .i64 c3))
  let p5:Nat×AV:=(13,.v (.int .i64 (v1.length:Int)))
  let p6:Nat×AV:=(12,.sl 1 (v1.map (cdL 1 cdI).enc))
  let p7:Nat×AV:=(6,.v (.int .i64 c3))
  let p8:Nat×AV:=(1,.sl 9 (x1.map AE.enc))
  refine CB AC [p8,(5,e18),p7,p6,p5,p4,p3,p2,p1,(27,.v (.bool (decide (c21 < (v7.length:Int)))))] ?_;refine Ap ?_;refine DH (b:=(decide (c21 < (v7.length:Int)))) kr (fun hb23=>?_) (fun hb23=>?_)
  ·rw [if_pos hb23] at h
   refine SemY.skip ?_;refine Ap ?_;refine Ba ?_;refine Ap ?_;refine Ab ?_;obtain ⟨v24,hv24,h⟩:=OB h;refine BW AC 0 rfl (DW (AB rfl) rfl (AS (a:= .sl 1 (v7.map cdI.enc)) (b:= .v (.int .i64 c21)) kr kr (DP (e:=cdI.enc) (el:=3) (k:=1) (ki:= .i64) kr kr hv24))) ?_;refine Dx AC [p8,(5,e18),p7,(9,.v (.int .i64 v24)),p6,p5,p4,p3,p2,p1] ?_;refine Ab ?_;refine BR AC 3 ?_;obtain ⟨v25,hv25,h⟩:=OB h;refine BW AC 0 rfl (DW (AB rfl) rfl (AS (a:=e18) (b:= .v (.int .i64 v24)) kr kr (Ze (bytes:=8) hT kr hv25))) ?_;obtain ⟨hp26,hs27,hT28⟩:=VM (P:=Tryz.prog) (ty:=3) (y:= .v (.int .i64 c3)) (v':=c3) hT (HT hv25).2 kr kr kr;refine RunL.store AC (y:=eAt e18 v24.toNat) (z:= .v (.int .i64 c3)) rfl (AB rfl) kr kr hs27 ?_;refine Bq rfl (SemY.fr (l':=[p8,(5,e18),p7,p6,p5,p4,p3,p2,p1]) kr ?_);refine Ab ?_;refine BR AC 2 ?_;refine Bq rfl ?_;exact CQ WkY.f1 (ih0 (wr .i64 (c21 + 1)) (c22.set v24.toNat c3) _ h  hp26 hT28)
  ·rw [BV hb23] at h
   refine SemY.exit ?_;have hq:=OI h; subst hq;exact ⟨rfl,_,⟨hp,hT,rfl⟩,WkY.f1⟩
theorem Qc {L:List Asn}(x1:(List Af)) (v1:(List (List Int))):∀ (f:Nat) (c3:Int) (c5:(List Int)) (r:((List Int))),EW x1 v1 f c3 c5=some r->∀ (e4:AV) (hp:Hp),T hp ((own_ (ocL 1 3 (ocV cdI)) e4 c5)::L)->SemYN E0 ⟨none,false⟩ (pc Hw [1,1,0,1,0,0]) f ⟨Fr 37 [(1,.sl 9 (x1.map AE.enc)),(5,e4),(12,.sl 1 (v1.map (cdL 1 cdI).enc)),(13,.v (.int .i64 (v1.length:Int))),(14,.v (.int .i64 c3))],hp⟩ (fun e s=>e=(.exit 0)/\∃ s2,(∃ (e33:AV) (h':Hp),T h' ((own_ (ocL 1 3 (ocV cdI)) e33 r)::L)/\s2=⟨Fr 37 [(5,e33)],h'⟩)/\WkY E0 s s2):=by
 intro f;induction f with
 | zero=>intro c3 c5 r h; cases h
 | succ f ih0 =>
  intro c3 c5 r h e4 hp hT;unfold EW at h;refine Dr ?_
  let p1:Nat×AV:=(14,.v (.int .i64 c3))
  let p2:Nat×AV:=(13,.v (.int .i64 (v1.length:Int)))
  let p3:Nat×AV:=(12,.sl 1 (v1.map (cdL 1 cdI).enc))
  let p4:Nat×AV:=(1,.sl 9 (x1.map AE.enc))
  refine CB AC [p4,(5,e4),p3,p2,p1,(15,.v (.bool (decide (c3 < (v1.length:Int)))))] ?_;refine Ap ?_;refine DH (b:=(decide (c3 < (v1.length:Int)))) kr (fun hb6=>?_) (fun hb6=>?_)
  ·rw [if_pos hb6] at h
   refine SemY.skip ?_;refine Ap ?_;refine Ba ?_;refine Ap ?_;refine Ab ?_;refine BR AC 1 ?_;obtain ⟨v7,hv7,h⟩:=OB h;refine BW AC 0 rfl (DW (AB rfl) rfl (AS (a:= .sl 1 (v1.map (cdL 1 cdI).enc)) (b:= .v (.int .i64 c3)) kr kr (DP (e:=(cdL 1 cdI).enc) (el:=48) (k:=1) (ki:= .i64) kr kr hv7))) ?_
   let p5:Nat×AV:=(6,.v (.int .i64 c3))
   refine Dx AC [p4,(5,e4),p5,(7,.sl 1 (v7.map cdI.enc)),p3,p2,p1] ?_;refine Ap ?_;refine CB AC [p4,(5,e4),p5,(7,.sl 1 (v7.map cdI.enc)),p3,p2,p1,(20,.v (.bool (c3==0)))] ?_;obtain ⟨r17,hr17,h⟩:=OB h;refine MG (Qb x1 c3 c5 v1 e4 v7 _ hr17 hT) ?_;rintro _ ⟨e18,hp19,hT20,rfl⟩;refine Ap ?_;refine Ab ?_;refine BR AC 1 ?_;refine BW AC 0 rfl (DW (AB rfl) rfl (CO (a:= .sl 1 (v7.map cdI.enc)) kr (BS (el:=3) kr))) ?_;refine Dx AC [p4,(5,e18),p5,p3,p2,p1,(24,.sl 1 (v7.map cdI.enc)),(25,.v (.int .i64 (v7.length:Int))),(26,.v (.int .i64 0))] ?_;refine Ba ?_;refine SemY.loop (n:=100000) ?_;obtain ⟨r30,hr30,h⟩:=OB h;refine DY (CQ WkY.f1 (Qd c3 v7 x1 v1 e18 _ 0 r17 _ hr30  hp19 hT20)) ?_;rintro _ ⟨hp31,hT32,rfl⟩;refine Ab ?_;refine BR AC 2 ?_;refine Bq rfl ?_;exact CQ WkY.f1 (ih0 (wr .i64 (c3 + 1)) r30 _ h e18 hp31 hT32)
  ·rw [BV hb6] at h
   refine SemY.exit ?_;have hq:=OI h; subst hq;exact ⟨rfl,_,⟨e4,hp,hT,rfl⟩,WkY.f1⟩
theorem SY {L:List Asn}{hp:Hp}(x0:(List AH)) (x1:(List Af)) (r:(List Int)) (h:F9 x0 x1=some r) (hT:T hp (L)):SemY E0 ⟨none,false⟩ Hw ⟨Fr 37 (A0 0 [.sl 5 (x0.map AA.enc),.sl 9 (x1.map AE.enc)]),hp⟩ fun x s'=>(x = .normal\/x = .ret)/\∃ ys,Dz E0.P s'.fr s'.hp Tryz.f25.results.toList=some ys/\(fun v h'=>v = .sl 1 (r.map cdI.enc)/\T h' (L)) (D0 ys) s'.hp:=by
 unfold F9 at h
 let p1:Nat×AV:=(1,.sl 9 (x1.map AE.enc))
 let p2:Nat×AV:=(0,.sl 5 (x0.map AA.enc))
 refine JK (Ke (s1:=⟨Fr 37 [p2,p1],hp⟩) WkY.f1 ?_);refine CB AC [p2,p1] ?_;refine CB AC [p2,p1,(5,.e0)] ?_;refine Ap ?_;refine Ap ?_;refine Ab ?_;refine BR AC 2 ?_;obtain ⟨v1,hv1,h⟩:=OB h;refine YO (v:=v1) (caps:=[]) (xs:=[.sl 5 (x0.map AA.enc),.sl 9 (x1.map AE.enc)]) (u:=(x0,x1,())) rfl rfl M9 rfl (AB rfl) kr kr (Dq (Gm (c:=(cdL 5 AA)) (v:=x0)) (Dq (Gm (c:=(cdL 9 AE)) (v:=x1)) SeesD.nil)) (.inr ⟨by kernel_rfl,JN.de (x0,x1,())⟩) hv1 ?_;refine BW AC 0 rfl (DW (AB rfl) rfl (CO (a:= .sl 1 (v1.map (cdL 1 cdI).enc)) kr (BS (el:=48) kr))) ?_;refine Dx AC [p1,(5,.e0),(12,.sl 1 (v1.map (cdL 1 cdI).enc)),(13,.v (.int .i64 (v1.length:Int))),(14,.v (.int .i64 0))] ?_;refine Ba ?_
 have hT2:=(T.e0 (k:=1) (ty:=3) (o:=(ocV cdI)) hT)
 refine SemY.loop (n:=100000) ?_;obtain ⟨r35,hr35,h⟩:=OB h;refine DY (CQ WkY.f1 (Qc x1 v1 _ 0 ([]:(List Int)) _ hr35 .e0 hp hT2)) ?_;rintro _ ⟨e36,hp37,hT38,rfl⟩;refine CB AC [(4,e36)] ?_;refine SemY.ret ?_;have hq:=OI h; subst hq;obtain ⟨hp39,hw40,hT41⟩:=JL (E:=E0) (n:=37) (l:=[(4,e36)]) (l':=[(4,.sl 1 (r35.map cdI.enc))]) hT38 (LkT.at_ ⟨.inr ⟨kr,rfl⟩,trivial⟩);exact ⟨⟨Fr 37 [(4,.sl 1 (r35.map cdI.enc))],hp39⟩,(WkY.trans (WkY.trans WkY.f1 hw40) WkY.f1),.inr rfl,[.sl 1 (r35.map cdI.enc)],kr,⟨rfl,hT41⟩⟩
def O1:Cs ((List AH)×(List Af)×Unit):=(csC (cdL 5 AA) (csC (cdL 9 AE) csN))
def O3 (r:(List Int)):AV:=(cdL 1 cdI).enc r
def VO:List AV->Option AV:=Dm O1 (fun a=>F9 a.1 a.2.1) O3
theorem Vc:XOk 25 VO:=by
 refine AR Tryz.func25 (c:=Hw) ?h2 ⟨Tryz.call25⟩ O1 (fun a=>F9 a.1 a.2.1) O3 (fun a=>(by show 2<=37; decide)) ?h3 ?h4
 case h2=>kernel_rfl
 case h3=>intro b; kernel_rfl
 case h4 =>
  intro a b h;refine Sem.mono (QX (SY (L:=[]) (hp:=[]) a.1 a.2.1 b h T.nil)) fun e s' hs=>?_
  obtain ⟨h1,ys,h2,h3,-⟩:=hs;exact ⟨h1,ys,h2,h3⟩
/- trestle/court.Deciding -/
noncomputable def EK:Code:=A9 Tryz.f68
def Gb (_v1:(List AH)×Bool) (_v5:(List Ae)) (_c8:Int) (c10:(List Bool)) (_c11:Int) (v15:Int×Int):Option (((List Bool))) :=
 if (decide (v15.1≥0))=true then
 (idx c10 v15.1).bind fun _v17 =>
 some (c10.set v15.1.toNat true)
 else
 some c10
def C4 (v1:(List AH)×Bool) (v5:(List Ae)) (c8:Int):Nat->(List Bool)->Int->Option (((List Bool)))
 | 0,_,_=>none
 | f + 1,c10,c11 =>
  if (decide (c11 < c8))=true then
  (idx v5 c8).bind fun v13 =>
  (idx v5 c11).bind fun v14 =>
  (As v1.1 v13 v14).bind fun v15 =>
  (Gb v1 v5 c8 c10 c11 v15).bind fun r19 =>
  C4 v1 v5 c8 f r19 (wr .i64 (c11 + 1))
  else
  some c10
def C3 (v1:(List AH)×Bool) (v5:(List Ae)):Nat->(List Bool)->Int->Option (((List Bool)))
 | 0,_,_=>none
 | f + 1,c7,c8 =>
  if (decide (c8 < (v5.length:Int)))=true then
  (C4 v1 v5 c8 100000 c7 0).bind fun r21 =>
  C3 v1 v5 f r21 (wr .i64 (c8 + 1))
  else
  some c7
def Gc (_r23:(List Bool)) (c24:(List Int)) (c25:Int) (v27:Bool):Option (((List Int))) :=
 if v27=true then
 if (EC 8 (c24.length + 1))=true then
 some (c24++[c25])
 else none
 else
 some c24
def C5 (r23:(List Bool)):Nat->(List Int)->Int->Option (((List Int)))
 | 0,_,_=>none
 | f + 1,c24,c25 =>
  if (decide (c25 < (r23.length:Int)))=true then
  (idx r23 c25).bind fun v27 =>
  (Gc r23 c24 c25 v27).bind fun r31 =>
  C5 r23 f r31 (wr .i64 (c25 + 1))
  else
  some c24
def DT (x0:(List AH)) (x1:(List Af)):Option ((List Int)) :=
 (Gi x0).bind fun v1 =>
 (if (!v1.2)=true then some true else some (decide ((x1.length:Int) > 64))).bind fun j3 =>
 if j3=true then
 some []
 else
 (ID x1).bind fun v5 =>
 if (Y3 1 (x0.length:Int))=true then
 (C3 v1 v5 100000 (List.replicate (x0.length:Int).toNat false) 0).bind fun r23 =>
 (C5 r23 100000 [] 0).bind fun r33 =>
 some r33
 else none
noncomputable def I3:Cs ((List AH)×(List Af)×Unit):=(csC (cdL 5 AA) (csC (cdL 9 AE) csN))
noncomputable def I9 (r:(List Int)):AV:=(cdL 1 cdI).enc r
theorem Oe (v1:(List AH)×Bool) (v5:(List Ae)) (c8:Int) (c10:(List Bool)) (c11:Int) (v15:Int×Int) (r:((List Bool))) (h:Gb v1 v5 c8 c10 c11 v15=some r):Sem E0 ⟨none,false⟩ (pc EK [1,1,1,1,1,0,1,0,0,1,1,0,0,1,1,0,0,1,1,0,0,1,1,1]) ⟨Fr 76 [(5,.sl 1 (v1.1.map Bg.enc)),(7,.sl 10 (v5.map AF.enc)),(8,.rf 0 0 c10.length c10.length),(9,.v (.int .i64 c8)),(11,.v (.int .i64 v15.1)),(34,.v (.int .i64 (v5.length:Int))),(35,.v (.int .i64 c8)),(38,.v (.int .i64 c8)),(39,.v (.int .i64 c11)),(56,.v (.bool (decide (v15.1≥0))))],[some ⟨1,4,(c10.map cdB.enc),false⟩]⟩ (fun e s=>e = .normal/\Wk E0 s ⟨Fr 76 [(5,.sl 1 (v1.1.map Bg.enc)),(7,.sl 10 (v5.map AF.enc)),(8,.rf 0 0 r.length r.length),(9,.v (.int .i64 c8)),(34,.v (.int .i64 (v5.length:Int))),(35,.v (.int .i64 c8)),(38,.v (.int .i64 c8)),(39,.v (.int .i64 c11))],[some ⟨1,4,(r.map cdB.enc),false⟩]⟩):=by
 unfold Gb at h;refine AP (b:=(decide (v15.1≥0))) kr (fun hb16=>?_) (fun hb16=>?_)
 ·rw [if_pos hb16] at h
  obtain ⟨v17,hv17,h⟩:=OB h
  let p1:Nat×AV:=(34,.v (.int .i64 (v5.length:Int)))
  let p2:Nat×AV:=(7,.sl 10 (v5.map AF.enc))
  refine AL (s1:=⟨Fr 76 [(5,.sl 1 (v1.1.map Bg.enc)),p2,(8,.rf 0 0 (c10.set v15.1.toNat true).length (c10.set v15.1.toNat true).length),(9,.v (.int .i64 c8)),p1,(35,.v (.int .i64 c8)),(38,.v (.int .i64 c8)),(39,.v (.int .i64 c11))],[some ⟨1,4,((c10.set v15.1.toNat true).map cdB.enc),false⟩]⟩) ?_ ?_
  ·refine AD (n:=76) AC 2 [(5,.sl 1 (v1.1.map Bg.enc)),p2,(8,.rf 0 0 c10.length c10.length),(9,.v (.int .i64 c8)),p1,(35,.v (.int .i64 c8)),(38,.v (.int .i64 c8)),(39,.v (.int .i64 c11)),(57,.rf 0 0 c10.length c10.length),(58,.v (.int .i64 v15.1))] [some ⟨1,4,(c10.map cdB.enc),false⟩] kr ?_
   refine AW AC 0 rfl (DW (AB rfl) rfl (AS (a:= .rf 0 0 c10.length c10.length) (b:= .v (.int .i64 v15.1)) kr kr (AEB (e:=cdB.enc) (xs:=c10) (t':=4) (el:=4) (k:=1) (ki:= .i64) kr kr kr hv17))) ?_;refine RunS.store AC (y:= .pt 0 v15.1.toNat 0) (z:= .v (.bool true)) rfl (AB rfl) kr kr (AEZ (t':=4) (k:=1) (e:=cdB.enc) (xs:=c10) (v:=v17) (v':=true) kr (HT hv17).2 kr kr kr) ?_;exact AI rfl (Ac [0] ⟨⟨_,rfl,Hv⟩,trivial⟩ ⟨lv,lv,AFb (b':=0) (n:=c10.length) kr (by simp) kr,lv,lv,lv,lv,lv,trivial⟩)
  have hq:=OI h; subst hq;exact ⟨rfl,(Ac [0] ⟨⟨_,rfl,Hv⟩,trivial⟩ ⟨lv,lv,lv,lv,lv,lv,lv,lv,trivial⟩)⟩
 ·rw [BV hb16] at h
  refine AT ?_;have hq:=OI h; subst hq;exact ⟨rfl,(Ac [0] ⟨⟨_,rfl,Hv⟩,trivial⟩ ⟨lv,lv,lv,lv,lv,lv,lv,lv,trivial⟩)⟩
theorem Oh (v1:(List AH)×Bool) (v5:(List Ae)) (c8:Int):∀ (f:Nat) (c10:(List Bool)) (c11:Int) (r:((List Bool))),C4 v1 v5 c8 f c10 c11=some r->SemN E0 ⟨none,false⟩ (pc EK [1,1,1,1,1,0,1,0,0,1,1,0,0,1,1,0,0]) f ⟨Fr 76 [(5,.sl 1 (v1.1.map Bg.enc)),(7,.sl 10 (v5.map AF.enc)),(8,.rf 0 0 c10.length c10.length),(9,.v (.int .i64 c8)),(34,.v (.int .i64 (v5.length:Int))),(35,.v (.int .i64 c8)),(38,.v (.int .i64 c8)),(39,.v (.int .i64 c11))],[some ⟨1,4,(c10.map cdB.enc),false⟩]⟩ (fun e s=>e=(.exit 2)/\Wk E0 s ⟨Fr 76 [(5,.sl 1 (v1.1.map Bg.enc)),(7,.sl 10 (v5.map AF.enc)),(8,.rf 0 0 r.length r.length),(34,.v (.int .i64 (v5.length:Int))),(35,.v (.int .i64 c8))],[some ⟨1,4,(r.map cdB.enc),false⟩]⟩):=by
 intro f;induction f with
 | zero=>intro c10 c11 r h; cases h
 | succ f ih0 =>
  intro c10 c11 r h
  have ih:=fun (c10:(List Bool)) (c11:Int)=>ih0 c10 c11 r
  unfold C4 at h;refine Bc ?_
  let p1:Option Blk:=some ⟨1,4,(c10.map cdB.enc),false⟩
  let p2:Nat×AV:=(39,.v (.int .i64 c11))
  let p3:Nat×AV:=(38,.v (.int .i64 c8))
  let p4:Nat×AV:=(35,.v (.int .i64 c8))
  let p5:Nat×AV:=(34,.v (.int .i64 (v5.length:Int)))
  let p6:Nat×AV:=(9,.v (.int .i64 c8))
  let p7:Nat×AV:=(8,.rf 0 0 c10.length c10.length)
  let p8:Nat×AV:=(7,.sl 10 (v5.map AF.enc))
  let p9:Nat×AV:=(5,.sl 1 (v1.1.map Bg.enc))
  refine AK AC [p9,p8,p7,p6,p5,p4,p3,p2,(40,.v (.bool (decide (c11 < c8))))] [p1] ?_;refine AG ?_;refine AP (b:=(decide (c11 < c8))) kr (fun hb12=>?_) (fun hb12=>?_)
  ·rw [if_pos hb12] at h
   refine AT ?_;refine AG ?_;refine Aa ?_;refine AK AC [p9,p8,p7,p6,(10,.v (.int .i64 c11)),p5,p4,p3,p2] [p1] ?_;refine AG ?_;obtain ⟨v13,hv13,h⟩:=OB h;obtain ⟨v14,hv14,h⟩:=OB h;obtain ⟨v15,hv15,h⟩:=OB h
   let p10:Nat×AV:=(11,.v (.int .i64 v15.1))
   refine C0 AC (s1:=⟨Fr 76 [p9,p8,p7,p6,p10,p5,p4,p3,p2],[p1]⟩) kr ?_ ?_
   ·let p11:Nat×AV:=(43,.sl 1 (v1.1.map Bg.enc))
    refine AU (n:=76) AC 3 [p9,p8,p7,p6,(10,.v (.int .i64 c11)),p5,p4,p3,p2,p11,(44,.sl 10 (v5.map AF.enc)),(45,.v (.int .i64 c8))] [p1] kr kr ?_;refine RunDS.one AC rfl kr (HF kr (AB rfl) rfl (AS (a:= .sl 10 (v5.map AF.enc)) (b:= .v (.int .i64 c8)) kr kr (DP (e:=AF.enc) (el:=115) (k:=10) (ki:= .i64) kr kr hv13)) kr) ?_;refine AU (n:=76) AC 3 [p9,p8,p7,p6,p5,p4,p3,p2,p11,(47,AF.enc v13),(48,.sl 10 (v5.map AF.enc)),(49,.v (.int .i64 c11))] [p1] kr kr ?_;refine RunDS.one AC rfl kr (HF kr (AB rfl) rfl (AS (a:= .sl 10 (v5.map AF.enc)) (b:= .v (.int .i64 c11)) kr kr (DP (e:=AF.enc) (el:=115) (k:=10) (ki:= .i64) kr kr hv14)) kr) ?_;refine AU (n:=76) AC 1 [p9,p8,p7,p6,p5,p4,p3,p2,p11,(47,AF.enc v13),(51,AF.enc v14)] [p1] kr kr ?_;refine BQ (caps:=[]) (xs:=[.sl 1 (v1.1.map Bg.enc),AF.enc v13,AF.enc v14]) (u:=(v1.1,v13,v14,())) rfl rfl Er rfl (AB rfl) kr kr (AJ (AQ (c:=(cdL 1 Bg)) (v:=v1.1)) (AJ (AQ (c:=AF) (v:=v13)) (AJ (AQ (c:=AF) (v:=v14)) Ah))) kr hv15 ?_;refine AU (n:=76) AC 5 [p9,p8,p7,p6,p10,p5,p4,p3,p2] [p1] kr kr ?_;exact RunDS.done rfl (Ac [0] ⟨⟨_,rfl,Hv⟩,trivial⟩ ⟨lv,lv,lv,lv,lv,lv,lv,lv,lv,trivial⟩)
   refine AK AC [p9,p8,p7,p6,p10,p5,p4,p3,p2,(56,.v (.bool (decide (v15.1≥0))))] [p1] ?_;obtain ⟨r19,hr19,h⟩:=OB h;refine Fo (Oe v1 v5 c8 c10 c11 v15 _ hr19) ?_
   let p12:Option Blk:=some ⟨1,4,(r19.map cdB.enc),false⟩
   let p13:Nat×AV:=(39,.v (.int .i64 (wr .i64 (c11 + 1))))
   refine DC AC [p9,p8,(8,.rf 0 0 r19.length r19.length),p6,p5,p4,p3,p13] [p12] ?_;exact Aj (s1:=⟨Fr 76 [p9,p8,(8,.rf 0 0 r19.length r19.length),p6,p5,p4,p3,p13],[p12]⟩) (Ac [0] ⟨⟨_,rfl,Hv⟩,trivial⟩ ⟨lv,lv,lv,lv,lv,lv,lv,lv,trivial⟩) (ih r19 (wr .i64 (c11 + 1)) h)
  ·rw [BV hb12] at h
   refine CA ?_;have hq:=OI h; subst hq;exact ⟨rfl,(Ac [0] ⟨⟨_,rfl,Hv⟩,trivial⟩ ⟨lv,lv,lv,lv,lv,trivial⟩)⟩
theorem Og (v1:(List AH)×Bool) (v5:(List Ae)):∀ (f:Nat) (c7:(List Bool)) (c8:Int) (r:((List Bool))),C3 v1 v5 f c7 c8=some r->SemN E0 ⟨none,false⟩ (pc EK [1,1,1,1,1,0,1,0,0]) f ⟨Fr 76 [(5,.sl 1 (v1.1.map Bg.enc)),(7,.sl 10 (v5.map AF.enc)),(8,.rf 0 0 c7.length c7.length),(34,.v (.int .i64 (v5.length:Int))),(35,.v (.int .i64 c8))],[some ⟨1,4,(c7.map cdB.enc),false⟩]⟩ (fun e s=>e=(.exit 0)/\Wk E0 s ⟨Fr 76 [(8,.rf 0 0 r.length r.length)],[some ⟨1,4,(r.map cdB.enc),false⟩]⟩):=by
 intro f;induction f with
 | zero=>intro c7 c8 r h; cases h
 | succ f ih0 =>
  intro c7 c8 r h
  have ih:=fun (c7:(List Bool)) (c8:Int)=>ih0 c7 c8 r
  unfold C3 at h;refine Bc ?_
  let p1:Option Blk:=some ⟨1,4,(c7.map cdB.enc),false⟩
  let p2:Nat×AV:=(35,.v (.int .i64 c8))
  let p3:Nat×AV:=(34,.v (.int .i64 (v5.length:Int)))
  let p4:Nat×AV:=(8,.rf 0 0 c7.length c7.length)
  let p5:Nat×AV:=(7,.sl 10 (v5.map AF.enc))
  let p6:Nat×AV:=(5,.sl 1 (v1.1.map Bg.enc))
  refine AK AC [p6,p5,p4,p3,p2,(36,.v (.bool (decide (c8 < (v5.length:Int)))))] [p1] ?_;refine AG ?_;refine AP (b:=(decide (c8 < (v5.length:Int)))) kr (fun hb9=>?_) (fun hb9=>?_)
  ·rw [if_pos hb9] at h
   refine AT ?_;refine AG ?_;refine Aa ?_
   let p7:Nat×AV:=(9,.v (.int .i64 c8))
   refine AK AC [p6,p5,p4,p7,p3,p2] [p1] ?_;refine AK AC [p6,p5,p4,p7,p3,p2,(38,.v (.int .i64 c8)),(39,.v (.int .i64 0))] [p1] ?_;refine Aa ?_;obtain ⟨r21,hr21,h⟩:=OB h;refine CF (n:=100000) ?_;refine A1 (Aj (s1:=⟨Fr 76 [p6,p5,p4,p7,p3,p2,(38,.v (.int .i64 c8)),(39,.v (.int .i64 0))],[p1]⟩) (Ac [0] ⟨⟨_,rfl,Hv⟩,trivial⟩ ⟨lv,lv,lv,lv,lv,lv,lv,lv,trivial⟩) (Oh v1 v5 c8 _ c7 0 _ hr21)) ?_
   let p8:Option Blk:=some ⟨1,4,(r21.map cdB.enc),false⟩
   let p9:Nat×AV:=(35,.v (.int .i64 (wr .i64 (c8 + 1))))
   refine DC AC [p6,p5,(8,.rf 0 0 r21.length r21.length),p3,p9] [p8] ?_;exact Aj (s1:=⟨Fr 76 [p6,p5,(8,.rf 0 0 r21.length r21.length),p3,p9],[p8]⟩) (Ac [0] ⟨⟨_,rfl,Hv⟩,trivial⟩ ⟨lv,lv,lv,lv,lv,trivial⟩) (ih r21 (wr .i64 (c8 + 1)) h)
  ·rw [BV hb9] at h
   refine CA ?_;have hq:=OI h; subst hq;exact ⟨rfl,(Ac [0] ⟨⟨_,rfl,Hv⟩,trivial⟩ ⟨lv,trivial⟩)⟩
theorem Of (r23:(List Bool)) (c24:(List Int)) (c25:Int) (v27:Bool) (r:((List Int))) (h:Gc r23 c24 c25 v27=some r):Sem E0 ⟨none,false⟩ (pc EK [1,1,1,1,1,1,1,0,1,0,0,1,1,0,0,1,1]) ⟨Fr 76 [(13,hd 0 (c24.map cdI.enc)),(14,.v (.int .i64 c25)),(62,.rf 1 0 r23.length r23.length),(63,.v (.int .i64 (r23.length:Int))),(64,.v (.int .i64 c25)),(69,.v (.bool v27))],[mk 1 3 (c24.map cdI.enc),some ⟨1,4,(r23.map cdB.enc),false⟩]⟩ (fun e s=>e = .normal/\Wk E0 s ⟨Fr 76 [(13,hd 0 (r.map cdI.enc)),(62,.rf 1 0 r23.length r23.length),(63,.v (.int .i64 (r23.length:Int))),(64,.v (.int .i64 c25))],[mk 1 3 (r.map cdI.enc),some ⟨1,4,(r23.map cdB.enc),false⟩]⟩):=by
 unfold Gc at h;refine AP (b:=v27) kr (fun hb28=>?_) (fun hb28=>?_)
 ·rw [if_pos hb28] at h
  by_cases hk29:(EC 8 (c24.length + 1))=true
  case neg=>rw [if_neg hk29] at h; cases h
  rw [if_pos hk29] at h
  let p1:Option Blk:=some ⟨1,4,(r23.map cdB.enc),false⟩
  let p2:Option Blk:=mk 1 3 ((c24++[c25]).map cdI.enc)
  let p3:Nat×AV:=(64,.v (.int .i64 c25))
  let p4:Nat×AV:=(63,.v (.int .i64 (r23.length:Int)))
  let p5:Nat×AV:=(62,.rf 1 0 r23.length r23.length)
  refine AL (s1:=⟨Fr 76 [(13,hd 0 ((c24++[c25]).map cdI.enc)),p5,p4,p3],[p2,p1]⟩) ?_ ?_
  ·refine AD (n:=76) AC 3 [p5,p4,p3,(70,hd 0 (c24.map cdI.enc)),(72,hd 2 ([c25].map cdI.enc))] [mk 1 3 (c24.map cdI.enc),p1,mk 1 3 ([c25].map cdI.enc)] kr ?_
   refine AW AC 0 rfl (UX (AB rfl) rfl kr kr (Dg (a:=hd 0 (c24.map cdI.enc)) (b:=hd 2 ([c25].map cdI.enc)) kr kr (LN (c:=cdI) (xs:=c24) (vs:=[c25]) (k:=1) (bytes:=8) (el:=3) kr kr (GS (t:=3) kr) (List.cons_ne_nil _ _) kr hk29))) ?_;refine AD (n:=76) AC 1 [(13,hd 3 ((c24++[c25]).map cdI.enc)),p5,p4,p3] [none,p1,mk 1 3 ([c25].map cdI.enc),p2] kr ?_;exact AI rfl (Ac [3,1] ⟨⟨_,rfl,IL⟩,⟨_,rfl,Hv⟩,trivial⟩ ⟨IM (b':=3) kr kr,lv,lv,lv,trivial⟩)
  have hq:=OI h; subst hq;exact ⟨rfl,(Ac [0,1] ⟨⟨_,rfl,IL⟩,⟨_,rfl,Hv⟩,trivial⟩ ⟨IM (b':=0) kr kr,lv,lv,lv,trivial⟩)⟩
 ·rw [BV hb28] at h
  refine AT ?_;have hq:=OI h; subst hq;exact ⟨rfl,(Ac [0,1] ⟨⟨_,rfl,IL⟩,⟨_,rfl,Hv⟩,trivial⟩ ⟨IM (b':=0) kr kr,lv,lv,lv,trivial⟩)⟩
theorem Oi (r23:(List Bool)):∀ (f:Nat) (c24:(List Int)) (c25:Int) (r:((List Int))),C5 r23 f c24 c25=some r->SemN E0 ⟨none,false⟩ (pc EK [1,1,1,1,1,1,1,0,1,0,0]) f ⟨Fr 76 [(13,hd 0 (c24.map cdI.enc)),(62,.rf 1 0 r23.length r23.length),(63,.v (.int .i64 (r23.length:Int))),(64,.v (.int .i64 c25))],[mk 1 3 (c24.map cdI.enc),some ⟨1,4,(r23.map cdB.enc),false⟩]⟩ (fun e s=>e=(.exit 4)/\Wk E0 s ⟨Fr 76 [(13,hd 0 (r.map cdI.enc))],[mk 1 3 (r.map cdI.enc)]⟩):=by
 intro f;induction f with
 | zero=>intro c24 c25 r h; cases h
 | succ f ih0 =>
  intro c24 c25 r h
  have ih:=fun (c24:(List Int)) (c25:Int)=>ih0 c24 c25 r
  unfold C5 at h;refine Bc ?_
  let p1:Option Blk:=some ⟨1,4,(r23.map cdB.enc),false⟩
  let p2:Option Blk:=mk 1 3 (c24.map cdI.enc)
  let p3:Nat×AV:=(64,.v (.int .i64 c25))
  let p4:Nat×AV:=(63,.v (.int .i64 (r23.length:Int)))
  let p5:Nat×AV:=(62,.rf 1 0 r23.length r23.length)
  let p6:Nat×AV:=(13,hd 0 (c24.map cdI.enc))
  refine AK AC [p6,p5,p4,p3,(65,.v (.bool (decide (c25 < (r23.length:Int)))))] [p2,p1] ?_;refine AG ?_;refine AP (b:=(decide (c25 < (r23.length:Int)))) kr (fun hb26=>?_) (fun hb26=>?_)
  ·rw [if_pos hb26] at h
   refine AT ?_;refine AG ?_;refine Aa ?_;refine AG ?_;obtain ⟨v27,hv27,h⟩:=OB h;refine AL (s1:=⟨Fr 76 [p6,(14,.v (.int .i64 c25)),(15,.v (.bool v27)),p5,p4,p3],[p2,p1]⟩) ?_ ?_
   ·refine AD (n:=76) AC 1 [p6,p5,p4,p3,(66,.v (.int .i64 c25))] [p2,p1] kr ?_
    refine AW AC 0 rfl (DW (AB rfl) rfl (AS (a:= .rf 1 0 r23.length r23.length) (b:= .v (.int .i64 c25)) kr kr (AEB (e:=cdB.enc) (xs:=r23) (t':=4) (el:=4) (k:=1) (ki:= .i64) kr kr kr hv27))) ?_;refine AW AC 0 rfl (DW (AB rfl) rfl (PA (p:= .pt 1 c25.toNat 0) kr (AED (B:=⟨1,4,(r23.map cdB.enc),false⟩) (m:=1) (g:=false) (e:=cdB.enc) (xs:=r23) kr kr kr rfl (HT hv27).2 kr))) ?_;exact AX AC
   refine AK AC [p6,(14,.v (.int .i64 c25)),p5,p4,p3,(69,.v (.bool v27))] [p2,p1] ?_;obtain ⟨r31,hr31,h⟩:=OB h;refine Fo (Of r23 c24 c25 v27 _ hr31) ?_
   let p7:Nat×AV:=(64,.v (.int .i64 (wr .i64 (c25 + 1))))
   refine DC AC [(13,hd 0 (r31.map cdI.enc)),p5,p4,p7] [mk 1 3 (r31.map cdI.enc),p1] ?_;exact Aj (s1:=⟨Fr 76 [(13,hd 0 (r31.map cdI.enc)),p5,p4,p7],[mk 1 3 (r31.map cdI.enc),p1]⟩) (Ac [0,1] ⟨⟨_,rfl,IL⟩,⟨_,rfl,Hv⟩,trivial⟩ ⟨IM (b':=0) kr kr,lv,lv,lv,trivial⟩) (ih r31 (wr .i64 (c25 + 1)) h)
  ·rw [BV hb26] at h
   refine CA ?_;have hq:=OI h; subst hq;exact ⟨rfl,(Ac [0] ⟨⟨_,rfl,IL⟩,trivial⟩ ⟨IM (b':=0) kr kr,trivial⟩)⟩
theorem Pm (x0:(List AH)) (x1:(List Af)) (r:(List Int)) (h:DT x0 x1=some r):Sem E0 ⟨none,false⟩ EK ⟨Fr 76 (A0 0 (I3.enc (x0,x1,()))),[]⟩ fun e s'=>(e = .normal\/e = .ret)/\∃ xs,Dz E0.P s'.fr s'.hp Tryz.f68.results.toList=some xs/\D0 xs=I9 r:=by
 unfold DT at h;refine Ao (BL (s1:=⟨Fr 76 [(0,.sl 5 (x0.map AA.enc)),(1,.sl 9 (x1.map AE.enc))],[]⟩) AM ?_);refine AK AC [(0,.sl 5 (x0.map AA.enc)),(1,.sl 9 (x1.map AE.enc))] [] ?_;refine AG ?_;obtain ⟨v1,hv1,h⟩:=OB h;refine AL (s1:=⟨Fr 76 [(0,.sl 5 (x0.map AA.enc)),(1,.sl 9 (x1.map AE.enc)),(5,.sl 1 (v1.1.map Bg.enc)),(6,.v (.bool v1.2))],[]⟩) ?_ ?_
 ·refine AD (n:=76) AC 1 [(0,.sl 5 (x0.map AA.enc)),(1,.sl 9 (x1.map AE.enc)),(17,.sl 5 (x0.map AA.enc))] [] kr ?_
  refine AN (caps:=[]) (xs:=[.sl 5 (x0.map AA.enc)]) (u:=(x0,())) rfl rfl PD rfl (AB rfl) kr kr (AJ (AQ (c:=(cdL 5 AA)) (v:=x0)) Ah) (.inr kr) hv1 ?_;exact AX AC
 refine AG ?_;refine AG ?_;obtain ⟨j3,hj3,h⟩:=OB h;refine AL (s1:=⟨Fr 76 [(0,.sl 5 (x0.map AA.enc)),(1,.sl 9 (x1.map AE.enc)),(5,.sl 1 (v1.1.map Bg.enc)),(27,.v (.bool j3))],[]⟩) ?_ ?_
 ·refine AD (n:=76) AC 3 [(0,.sl 5 (x0.map AA.enc)),(1,.sl 9 (x1.map AE.enc)),(5,.sl 1 (v1.1.map Bg.enc)),(23,.v (.bool (!v1.2)))] [] kr ?_
  rcases BE (!v1.2) with hc34 | hc34
  ·rw [if_pos hc34] at hj3
   rw [hc34];refine AD (n:=76) AC 4 [(0,.sl 5 (x0.map AA.enc)),(1,.sl 9 (x1.map AE.enc)),(5,.sl 1 (v1.1.map Bg.enc)),(27,.v (.bool true))] [] kr ?_;have hq:=OI hj3; subst hq;exact AI rfl AM
  ·rw [BV hc34] at hj3
   rw [hc34];refine AD (n:=76) AC 1 [(0,.sl 5 (x0.map AA.enc)),(1,.sl 9 (x1.map AE.enc)),(5,.sl 1 (v1.1.map Bg.enc)),(23,.v (.bool false)),(24,.sl 9 (x1.map AE.enc))] [] kr ?_;refine AW AC 0 rfl (DW kr rfl (CO (a:= .sl 9 (x1.map AE.enc)) kr (BS (el:=42) kr))) ?_;refine AD (n:=76) AC 2 [(0,.sl 5 (x0.map AA.enc)),(1,.sl 9 (x1.map AE.enc)),(5,.sl 1 (v1.1.map Bg.enc)),(27,.v (.bool (decide ((x1.length:Int) > 64))))] [] kr ?_;have hq:=OI hj3; subst hq;exact AI rfl AM
 refine AP (b:=j3) kr (fun hb4=>?_) (fun hb4=>?_)
 ·rw [if_pos hb4] at h
  refine AK AC [(4,.e0)] [] ?_;refine AO ?_;have hq:=OI h; subst hq;exact ⟨⟨Fr 76 [(4,.sl 1 ([].map cdI.enc))],[]⟩,(Wk.trans (s1:=⟨Fr 76 [(4,.e0)],[]⟩) AM (Wk.trans (s1:=⟨Fr 76 [(4,.e0)],[none]⟩) Wk.none (Wk.trans (s1:=⟨Fr 76 [(4,.sl 1 ([].map cdI.enc))],[none]⟩) (HH 0 (.inr kr) ⟨.inl rfl,trivial⟩ ⟨⟨.e0,kr,Si⟩,trivial⟩) (Ac [] trivial ⟨lv,trivial⟩)))),.inr rfl,[.sl 1 ([].map cdI.enc)],kr,kr⟩
 ·rw [BV hb4] at h
  refine AT ?_;refine AG ?_;obtain ⟨v5,hv5,h⟩:=OB h;refine AL (s1:=⟨Fr 76 [(0,.sl 5 (x0.map AA.enc)),(5,.sl 1 (v1.1.map Bg.enc)),(7,.sl 10 (v5.map AF.enc))],[]⟩) ?_ ?_
  ·refine AD (n:=76) AC 1 [(0,.sl 5 (x0.map AA.enc)),(5,.sl 1 (v1.1.map Bg.enc)),(28,.sl 9 (x1.map AE.enc))] [] kr ?_
   refine AN (caps:=[]) (xs:=[.sl 9 (x1.map AE.enc)]) (u:=(x1,())) rfl rfl RU rfl (AB rfl) kr kr (AJ (AQ (c:=(cdL 9 AE)) (v:=x1)) Ah) (.inr kr) hv5 ?_;exact AX AC
  refine AG ?_;by_cases hk6:(Y3 1 (x0.length:Int))=true
  case neg=>rw [if_neg hk6] at h; cases h
  rw [if_pos hk6] at h;refine AL (s1:=⟨Fr 76 [(5,.sl 1 (v1.1.map Bg.enc)),(7,.sl 10 (v5.map AF.enc)),(8,.rf 0 0 (List.replicate (x0.length:Int).toNat false).length (List.replicate (x0.length:Int).toNat false).length)],[some ⟨1,4,((List.replicate (x0.length:Int).toNat false).map cdB.enc),false⟩]⟩) ?_ ?_
  ·refine AD (n:=76) AC 1 [(5,.sl 1 (v1.1.map Bg.enc)),(7,.sl 10 (v5.map AF.enc)),(30,.sl 5 (x0.map AA.enc))] [] kr ?_
   refine AW AC 0 rfl (DW (AB rfl) rfl (CO (a:= .sl 5 (x0.map AA.enc)) kr (BS (el:=60) kr))) ?_;refine AW AC 0 rfl (AAK (AB rfl) rfl kr (ABi (x:= .v (.int .i64 (x0.length:Int))) (y:= .v (.int .i64 (x0.length:Int))) kr kr (AEL (c:=cdB) (z:=false) (k:=1) (bytes:=1) (el:=4) kr kr hk6))) ?_;exact AX AC
  refine AG ?_;refine AG ?_;refine AL (s1:=⟨Fr 76 [(5,.sl 1 (v1.1.map Bg.enc)),(7,.sl 10 (v5.map AF.enc)),(8,.rf 0 0 (List.replicate (x0.length:Int).toNat false).length (List.replicate (x0.length:Int).toNat false).length),(34,.v (.int .i64 (v5.length:Int))),(35,.v (.int .i64 0))],[some ⟨1,4,((List.replicate (x0.length:Int).toNat false).map cdB.enc),false⟩]⟩) ?_ ?_
  ·refine AD (n:=76) AC 1 [(5,.sl 1 (v1.1.map Bg.enc)),(7,.sl 10 (v5.map AF.enc)),(8,.rf 0 0 (List.replicate (x0.length:Int).toNat false).length (List.replicate (x0.length:Int).toNat false).length),(33,.sl 10 (v5.map AF.enc))] [some ⟨1,4,((List.replicate (x0.length:Int).toNat false).map cdB.enc),false⟩] kr ?_
   refine AW AC 0 rfl (DW (AB rfl) rfl (CO (a:= .sl 10 (v5.map AF.enc)) kr (BS (el:=115) kr))) ?_;exact AX AC
  refine Aa ?_;obtain ⟨r23,hr23,h⟩:=OB h;refine CF (n:=100000) ?_;refine A1 (Aj (s1:=⟨Fr 76 [(5,.sl 1 (v1.1.map Bg.enc)),(7,.sl 10 (v5.map AF.enc)),(8,.rf 0 0 (List.replicate (x0.length:Int).toNat false).length (List.replicate (x0.length:Int).toNat false).length),(34,.v (.int .i64 (v5.length:Int))),(35,.v (.int .i64 0))],[some ⟨1,4,((List.replicate (x0.length:Int).toNat false).map cdB.enc),false⟩]⟩) (Ac [0] ⟨⟨_,rfl,Hv⟩,trivial⟩ ⟨lv,lv,lv,lv,lv,trivial⟩) (Og v1 v5 _ (List.replicate (x0.length:Int).toNat false) 0 _ hr23)) ?_;refine AK AC [(8,.rf 0 0 r23.length r23.length),(13,.e0)] [some ⟨1,4,(r23.map cdB.enc),false⟩] ?_;refine AG ?_;refine AG ?_;refine AL (s1:=⟨Fr 76 [(13,.e0),(62,.rf 0 0 r23.length r23.length),(63,.v (.int .i64 (r23.length:Int))),(64,.v (.int .i64 0))],[some ⟨1,4,(r23.map cdB.enc),false⟩]⟩) ?_ ?_
  ·refine AD (n:=76) AC 1 [(13,.e0),(62,.rf 0 0 r23.length r23.length)] [some ⟨1,4,(r23.map cdB.enc),false⟩] kr ?_
   refine AW AC 0 rfl (DW (AB rfl) rfl (CO (a:= .rf 0 0 r23.length r23.length) kr (AEF (xs:=r23) (el:=4) kr))) ?_;exact AX AC
  refine Aa ?_;obtain ⟨r33,hr33,h⟩:=OB h;refine CF (n:=100000) ?_;refine A1 (Aj (s1:=⟨Fr 76 [(13,hd 0 ([].map cdI.enc)),(62,.rf 1 0 r23.length r23.length),(63,.v (.int .i64 (r23.length:Int))),(64,.v (.int .i64 0))],[mk 1 3 ([].map cdI.enc),some ⟨1,4,(r23.map cdB.enc),false⟩]⟩) (Wk.trans (s1:=⟨Fr 76 [(13,hd 1 ([].map cdI.enc)),(62,.rf 0 0 r23.length r23.length),(63,.v (.int .i64 (r23.length:Int))),(64,.v (.int .i64 0))],[some ⟨1,4,(r23.map cdB.enc),false⟩,mk 1 3 ([].map cdI.enc)]⟩) Wk.none (Ac [1,0] ⟨⟨_,rfl,MX⟩,⟨_,rfl,Hv⟩,trivial⟩ ⟨lv,lv,lv,lv,trivial⟩)) (Oi r23 _ [] 0 _ hr33)) ?_;refine AK AC [(4,hd 0 (r33.map cdI.enc))] [mk 1 3 (r33.map cdI.enc)] ?_;refine AO ?_;have hq:=OI h; subst hq;exact ⟨⟨Fr 76 [(4,.sl 1 (r33.map cdI.enc))],[]⟩,(Wk.trans (s1:=⟨Fr 76 [(4,.sl 1 (r33.map cdI.enc))],[none]⟩) (HH 0 (.inl kr) ⟨.inl rfl,trivial⟩ ⟨⟨hd 0 (r33.map cdI.enc),kr,V4 (t:=3) kr Nz⟩,trivial⟩) (Ac [] trivial ⟨lv,trivial⟩)),.inr rfl,[.sl 1 (r33.map cdI.enc)],kr,kr⟩
noncomputable def Rq:List AV->Option AV:=Dm I3 (fun a=>DT a.1 a.2.1) I9
theorem Ry:XOk 68 Rq:=by
 refine AR Tryz.func68 (c:=EK) ?h2 ⟨Tryz.call68⟩ I3 (fun a=>DT a.1 a.2.1) I9 (fun a=>(by show 2<=76; decide)) ?h3 ?h4
 case h2=>kernel_rfl
 case h3=>intro b; kernel_rfl
 case h4=>exact fun a b h=>Pm a.1 a.2.1 b h
/- slices.Equal[[]string,string] -/
noncomputable def Es:Code:=A9 Tryz.f95
def C1 (x0:(List (List UInt8))) (x1:(List (List UInt8))):Nat->Int->Option ((Unit) ⊕ (Bool))
 | 0,_=>none
 | f + 1,c2 =>
  if (decide (c2 < (x0.length:Int)))=true then
  (idx x0 c2).bind fun v4 =>
  (idx x1 c2).bind fun v5 =>
  if (!(v4==v5))=true then
  some (.inr false)
  else
  C1 x0 x1 f (wr .i64 (c2 + 1))
  else
  some (.inl ())
def CP (x0:(List (List UInt8))) (x1:(List (List UInt8))):Option (Bool) :=
 if ((x0.length:Int)!=(x1.length:Int))=true then
 some false
 else
 (C1 x0 x1 100000 0).bind fun r8 =>
 match r8 with
 | (.inl _w9) =>
  some true
 | (.inr w10) =>
  some w10
def Ev:Cs ((List (List UInt8))×(List (List UInt8))×Unit):=(csC (cdL 1 cdS) (csC (cdL 1 cdS) csN))
def Ey (r:Bool):AV:=cdB.enc r
theorem GQ (x0:(List (List UInt8))) (x1:(List (List UInt8))):∀ (f:Nat) (c2:Int) (r:(Unit) ⊕ (Bool)),C1 x0 x1 f c2=some r->SemN E0 ⟨none,false⟩ (pc Es [1,1,0,1,0,0]) f ⟨Fr 26 [(0,.sl 1 (x0.map cdS.enc)),(1,.sl 1 (x1.map cdS.enc)),(12,.v (.int .i64 (x0.length:Int))),(13,.v (.int .i64 c2))],[]⟩ (fun e s=>match r with
 | (.inl _w)=>e=(.exit 0)/\Wk E0 s ⟨Fr 26 [],[]⟩
 | (.inr w)=>e = .ret/\Wk E0 s ⟨Fr 26 [(4,.v (.bool w))],[]⟩):=by
 intro f;induction f with
 | zero=>intro c2 r h; cases h
 | succ f ih0 =>
  intro c2 r h
  have ih:=fun (c2:Int)=>ih0 c2 r
  unfold C1 at h;refine Bc ?_
  let p1:Nat×AV:=(13,.v (.int .i64 c2))
  let p2:Nat×AV:=(12,.v (.int .i64 (x0.length:Int)))
  let p3:Nat×AV:=(1,.sl 1 (x1.map cdS.enc))
  let p4:Nat×AV:=(0,.sl 1 (x0.map cdS.enc))
  refine AK AC [p4,p3,p2,p1,(14,.v (.bool (decide (c2 < (x0.length:Int)))))] [] ?_;refine AG ?_;refine AP (b:=(decide (c2 < (x0.length:Int)))) kr (fun hb3=>?_) (fun hb3=>?_)
  ·rw [if_pos hb3] at h
   refine AT ?_;refine AG ?_;refine Aa ?_;refine AK AC [p4,p3,(5,.v (.int .i64 c2)),p2,p1] [] ?_;refine AG ?_;obtain ⟨v4,hv4,h⟩:=OB h;obtain ⟨v5,hv5,h⟩:=OB h;refine C0 AC (s1:=⟨Fr 26 [p4,p3,p2,p1,(24,.v (.bool (!(v4==v5))))],[]⟩) kr ?_ ?_
   ·refine AU (n:=26) AC 2 [p4,p3,(5,.v (.int .i64 c2)),p2,p1,(16,.sl 1 (x0.map cdS.enc)),(17,.v (.int .i64 c2))] [] kr kr ?_
    refine RunDS.one AC rfl kr (HF kr (AB rfl) rfl (AS (a:= .sl 1 (x0.map cdS.enc)) (b:= .v (.int .i64 c2)) kr kr (DP (e:=cdS.enc) (el:=9) (k:=1) (ki:= .i64) kr kr hv4)) kr) ?_;refine AU (n:=26) AC 3 [p4,p3,p2,p1,(19,.st v4),(20,.sl 1 (x1.map cdS.enc)),(21,.v (.int .i64 c2))] [] kr kr ?_;refine RunDS.one AC rfl kr (HF kr (AB rfl) rfl (AS (a:= .sl 1 (x1.map cdS.enc)) (b:= .v (.int .i64 c2)) kr kr (DP (e:=cdS.enc) (el:=9) (k:=1) (ki:= .i64) kr kr hv5)) kr) ?_;refine AU (n:=26) AC 2 [p4,p3,p2,p1,(24,.v (.bool (!(v4==v5))))] [] kr kr ?_;exact RunDS.done rfl AM
   refine AP (b:=(!(v4==v5))) kr (fun hb6=>?_) (fun hb6=>?_)
   ·rw [if_pos hb6] at h
    refine AK AC [(4,.v (.bool false))] [] ?_;refine AO ?_;have hq:=OI h; subst hq;exact ⟨rfl,AM⟩
   ·rw [BV hb6] at h
    refine AT ?_
    let p5:Nat×AV:=(13,.v (.int .i64 (wr .i64 (c2 + 1))))
    refine DC AC [p4,p3,p2,p5] [] ?_;exact Aj (s1:=⟨Fr 26 [p4,p3,p2,p5],[]⟩) AM (ih (wr .i64 (c2 + 1)) h)
  ·rw [BV hb3] at h
   refine CA ?_;have hq:=OI h; subst hq;exact ⟨rfl,AM⟩
theorem JW (x0:(List (List UInt8))) (x1:(List (List UInt8))) (r:Bool) (h:CP x0 x1=some r):Sem E0 ⟨none,false⟩ Es ⟨Fr 26 (A0 0 (Ev.enc (x0,x1,()))),[]⟩ fun e s'=>(e = .normal\/e = .ret)/\∃ xs,Dz E0.P s'.fr s'.hp Tryz.f95.results.toList=some xs/\D0 xs=Ey r:=by
 unfold CP at h
 let p1:Nat×AV:=(1,.sl 1 (x1.map cdS.enc))
 let p2:Nat×AV:=(0,.sl 1 (x0.map cdS.enc))
 refine Ao (BL (s1:=⟨Fr 26 [p2,p1],[]⟩) AM ?_);refine AK AC [p2,p1] [] ?_;refine AG ?_;refine AG ?_;refine AL (s1:=⟨Fr 26 [p2,p1,(10,.v (.bool ((x0.length:Int)!=(x1.length:Int))))],[]⟩) ?_ ?_
 ·refine AD (n:=26) AC 1 [p2,p1,(6,.sl 1 (x0.map cdS.enc))] [] kr ?_
  refine AW AC 0 rfl (DW (AB rfl) rfl (CO (a:= .sl 1 (x0.map cdS.enc)) kr (BS (el:=9) kr))) ?_;refine AD (n:=26) AC 1 [p2,p1,(7,.v (.int .i64 (x0.length:Int))),(8,.sl 1 (x1.map cdS.enc))] [] kr ?_;refine AW AC 0 rfl (DW (AB rfl) rfl (CO (a:= .sl 1 (x1.map cdS.enc)) kr (BS (el:=9) kr))) ?_;exact AX AC
 refine AP (b:=((x0.length:Int)!=(x1.length:Int))) kr (fun hb1=>?_) (fun hb1=>?_)
 ·rw [if_pos hb1] at h
  refine AK AC [(4,.v (.bool false))] [] ?_;refine AO ?_;have hq:=OI h; subst hq;exact ⟨⟨Fr 26 [(4,.v (.bool false))],[]⟩,AM,.inr rfl,[.v (.bool false)],kr,kr⟩
 ·rw [BV hb1] at h
  refine AT ?_;refine AG ?_;refine AG ?_
  let p3:Nat×AV:=(13,.v (.int .i64 0))
  let p4:Nat×AV:=(12,.v (.int .i64 (x0.length:Int)))
  refine AL (s1:=⟨Fr 26 [p2,p1,p4,p3],[]⟩) ?_ ?_
  ·refine AD (n:=26) AC 1 [p2,p1,(11,.sl 1 (x0.map cdS.enc))] [] kr ?_
   refine AW AC 0 rfl (DW (AB rfl) rfl (CO (a:= .sl 1 (x0.map cdS.enc)) kr (BS (el:=9) kr))) ?_;exact AX AC
  refine Aa ?_;obtain ⟨r8,hr8,h⟩:=OB h;refine CF (n:=100000) ?_;rcases r8 with w9 | w10
  ·try dsimp only at h
   refine A1 (Aj (s1:=⟨Fr 26 [p2,p1,p4,p3],[]⟩) AM (GQ x0 x1 _ 0 _ hr8)) ?_;refine AK AC [(4,.v (.bool true))] [] ?_;refine AO ?_;have hq:=OI h; subst hq;exact ⟨⟨Fr 26 [(4,.v (.bool true))],[]⟩,AM,.inr rfl,[.v (.bool true)],kr,kr⟩
  ·try dsimp only at h
   refine A1 (Aj (s1:=⟨Fr 26 [p2,p1,p4,p3],[]⟩) AM (GQ x0 x1 _ 0 _ hr8)) ?_;have hq:=OI h; subst hq;exact ⟨⟨Fr 26 [(4,.v (.bool w10))],[]⟩,AM,.inr rfl,[.v (.bool w10)],kr,kr⟩
def KX:List AV->Option AV:=Dm Ev (fun a=>CP a.1 a.2.1) Ey
theorem Ka:XOk 95 KX:=by
 refine AR Tryz.func95 (c:=Es) ?h2 ⟨Tryz.call95⟩ Ev (fun a=>CP a.1 a.2.1) Ey (fun a=>(by show 2<=26; decide)) ?h3 ?h4
 case h2=>kernel_rfl
 case h3=>intro b; kernel_rfl
 case h4=>exact fun a b h=>JW a.1 a.2.1 b h
/- trestle/trestlelaw03.SameClause -/
noncomputable def Ki:Code:=A9 Tryz.f122
def EB (x0:AH) (x1:AH):Option (Bool) :=
 (if (x0.1==x1.1)=true then if (x0.2.1==x1.2.1)=true then if (x0.2.2.1==x1.2.2.1)=true then if (x0.2.2.2.2==x1.2.2.2.2)=true then (CP x0.2.2.2.1 x1.2.2.2.1).bind fun v1 =>
 some v1 else some false else some false else some false else some false).bind fun j3 =>
 some j3
def H6:Cs (AH×AH×Unit):=(csC AA (csC AA csN))
def H8 (r:Bool):AV:=cdB.enc r
theorem Ok (x0:AH) (x1:AH) (r:Bool) (h:EB x0 x1=some r):Sem E0 ⟨none,false⟩ Ki ⟨Fr 38 (A0 0 (H6.enc (x0,x1,()))),[]⟩ fun e s'=>(e = .normal\/e = .ret)/\∃ xs,Dz E0.P s'.fr s'.hp Tryz.f122.results.toList=some xs/\D0 xs=H8 r:=by
 unfold EB at h;refine Ao (BL (s1:=⟨Fr 38 [(0,AA.enc x0),(1,AA.enc x1)],[]⟩) AM ?_);refine AK AC [(2,.pt 0 0 0),(3,.pt 1 0 0)] [some ⟨5,60,[AA.enc x0],false⟩,some ⟨5,60,[AA.enc x1],false⟩] ?_;refine AG ?_;obtain ⟨j3,hj3,h⟩:=OB h;refine AL (s1:=⟨Fr 38 [(4,.v (.bool j3))],[]⟩) ?_ ?_
 ·refine AD (n:=38) AC 6 [(2,.pt 0 0 0),(3,.pt 1 0 0),(10,.v (.bool (x0.1==x1.1)))] [some ⟨5,60,[AA.enc x0],false⟩,some ⟨5,60,[AA.enc x1],false⟩] kr ?_
  rcases BE (x0.1==x1.1) with hc4 | hc4
  ·rw [if_pos hc4] at hj3
   rw [hc4];refine AD (n:=38) AC 7 [(2,.pt 0 0 0),(3,.pt 1 0 0),(17,.v (.bool (x0.2.1==x1.2.1)))] [some ⟨5,60,[AA.enc x0],false⟩,some ⟨5,60,[AA.enc x1],false⟩] kr ?_;rcases BE (x0.2.1==x1.2.1) with hc5 | hc5
   ·rw [if_pos hc5] at hj3
    rw [hc5];refine AD (n:=38) AC 7 [(2,.pt 0 0 0),(3,.pt 1 0 0),(24,.v (.bool (x0.2.2.1==x1.2.2.1)))] [some ⟨5,60,[AA.enc x0],false⟩,some ⟨5,60,[AA.enc x1],false⟩] kr ?_;rcases BE (x0.2.2.1==x1.2.2.1) with hc6 | hc6
    ·rw [if_pos hc6] at hj3
     rw [hc6];refine AD (n:=38) AC 7 [(2,.pt 0 0 0),(3,.pt 1 0 0),(31,.v (.bool (x0.2.2.2.2==x1.2.2.2.2)))] [some ⟨5,60,[AA.enc x0],false⟩,some ⟨5,60,[AA.enc x1],false⟩] kr ?_;rcases BE (x0.2.2.2.2==x1.2.2.2.2) with hc7 | hc7
     ·rw [if_pos hc7] at hj3
      rw [hc7];refine AD (n:=38) AC 4 [(31,.v (.bool true)),(33,.sl 1 (x0.2.2.2.1.map cdS.enc)),(35,.sl 1 (x1.2.2.2.1.map cdS.enc))] [some ⟨5,60,[AA.enc x0],false⟩,some ⟨5,60,[AA.enc x1],false⟩] kr ?_;obtain ⟨v1,hv1,hj3⟩:=OB hj3;refine AN (caps:=[]) (xs:=[.sl 1 (x0.2.2.2.1.map cdS.enc),.sl 1 (x1.2.2.2.1.map cdS.enc)]) (u:=(x0.2.2.2.1,x1.2.2.2.1,())) rfl rfl Ka rfl kr kr kr (AJ (AQ (c:=(cdL 1 cdS)) (v:=x0.2.2.2.1)) (AJ (AQ (c:=(cdL 1 cdS)) (v:=x1.2.2.2.1)) Ah)) (.inl kr) hv1 ?_;refine AD (n:=38) AC 2 [(4,.v (.bool v1))] [some ⟨5,60,[AA.enc x0],false⟩,some ⟨5,60,[AA.enc x1],false⟩] kr ?_;have hq:=OI hj3; subst hq;exact AI rfl (Ac [] trivial ⟨lv,trivial⟩)
     ·rw [BV hc7] at hj3
      rw [hc7];refine AD (n:=38) AC 7 [(4,.v (.bool false))] [some ⟨5,60,[AA.enc x0],false⟩,some ⟨5,60,[AA.enc x1],false⟩] kr ?_;have hq:=OI hj3; subst hq;exact AI rfl (Ac [] trivial ⟨lv,trivial⟩)
    ·rw [BV hc6] at hj3
     rw [hc6];refine AD (n:=38) AC 14 [(4,.v (.bool false))] [some ⟨5,60,[AA.enc x0],false⟩,some ⟨5,60,[AA.enc x1],false⟩] kr ?_;have hq:=OI hj3; subst hq;exact AI rfl (Ac [] trivial ⟨lv,trivial⟩)
   ·rw [BV hc5] at hj3
    rw [hc5];refine AD (n:=38) AC 21 [(4,.v (.bool false))] [some ⟨5,60,[AA.enc x0],false⟩,some ⟨5,60,[AA.enc x1],false⟩] kr ?_;have hq:=OI hj3; subst hq;exact AI rfl (Ac [] trivial ⟨lv,trivial⟩)
  ·rw [BV hc4] at hj3
   rw [hc4];refine AD (n:=38) AC 28 [(4,.v (.bool false))] [some ⟨5,60,[AA.enc x0],false⟩,some ⟨5,60,[AA.enc x1],false⟩] kr ?_;have hq:=OI hj3; subst hq;exact AI rfl (Ac [] trivial ⟨lv,trivial⟩)
 refine AO ?_;have hq:=OI h; subst hq;exact ⟨⟨Fr 38 [(4,.v (.bool j3))],[]⟩,AM,.inr rfl,[.v (.bool j3)],kr,kr⟩
def QN:List AV->Option AV:=Dm H6 (fun a=>EB a.1 a.2.1) H8
theorem QT:XOk 122 QN:=by
 refine AR Tryz.func122 (c:=Ki) ?h2 ⟨Tryz.call122⟩ H6 (fun a=>EB a.1 a.2.1) H8 (fun a=>(by show 2<=38; decide)) ?h3 ?h4
 case h2=>kernel_rfl
 case h3=>intro b; kernel_rfl
 case h4=>exact fun a b h=>Ok a.1 a.2.1 b h
/- slices.EqualFunc[[]trestle/api.Clause,[]trestle/api.Clause,trestle/api.Clause,trestle/api.Clause] -/
noncomputable def BA:Code:=A9 Tryz.f121
def Ad (x0:(List AH)) (x1:(List AH)):Nat->Int->Option ((Unit) ⊕ (Bool))
 | 0,_=>none
 | f + 1,c2 =>
  if (decide (c2 < (x0.length:Int)))=true then
  (idx x0 c2).bind fun v4 =>
  (idx x1 c2).bind fun v5 =>
  (EB v4 v5).bind fun v6 =>
  if (!v6)=true then
  some (.inr false)
  else
  Ad x0 x1 f (wr .i64 (c2 + 1))
  else
  some (.inl ())
def AZ (x0:(List AH)) (x1:(List AH)):Option (Bool) :=
 if ((x0.length:Int)!=(x1.length:Int))=true then
 some false
 else
 (Ad x0 x1 100000 0).bind fun r9 =>
 match r9 with
 | (.inl _w10) =>
  some true
 | (.inr w11) =>
  some w11
def BB:Cs ((List AH)×(List AH)×Unit×Unit):=(csC (cdL 5 AA) (csC (cdL 5 AA) (csC (cdF 122 csN (fun _=>rfl)) csN)))
def BC (r:Bool):AV:=cdB.enc r
theorem Bb (x0:(List AH)) (x1:(List AH)):∀ (f:Nat) (c2:Int) (r:(Unit) ⊕ (Bool)),Ad x0 x1 f c2=some r->SemN E0 ⟨none,false⟩ (pc BA [1,1,0,1,0,0]) f ⟨Fr 32 [(1,.sl 5 (x1.map AA.enc)),(2,.fn 122 [] []),(15,.sl 5 (x0.map AA.enc)),(16,.v (.int .i64 (x0.length:Int))),(17,.v (.int .i64 c2))],[]⟩ (fun e s=>match r with
 | (.inl _w)=>e=(.exit 0)/\Wk E0 s ⟨Fr 32 [],[]⟩
 | (.inr w)=>e = .ret/\Wk E0 s ⟨Fr 32 [(6,.v (.bool w))],[]⟩):=by
 intro f;induction f with
 | zero=>intro c2 r h; cases h
 | succ f ih0 =>
  intro c2 r h
  have ih:=fun (c2:Int)=>ih0 c2 r
  unfold Ad at h;refine Bc ?_
  let p1:Nat×AV:=(17,.v (.int .i64 c2))
  let p2:Nat×AV:=(16,.v (.int .i64 (x0.length:Int)))
  let p3:Nat×AV:=(15,.sl 5 (x0.map AA.enc))
  let p4:Nat×AV:=(2,.fn 122 [] [])
  let p5:Nat×AV:=(1,.sl 5 (x1.map AA.enc))
  refine AK AC [p5,p4,p3,p2,p1,(18,.v (.bool (decide (c2 < (x0.length:Int)))))] [] ?_;refine AG ?_;refine AP (b:=(decide (c2 < (x0.length:Int)))) kr (fun hb3=>?_) (fun hb3=>?_)
  ·rw [if_pos hb3] at h
   refine AT ?_;refine AG ?_;refine Aa ?_;refine AG ?_;obtain ⟨v4,hv4,h⟩:=OB h
   let p6:Option Blk:=some ⟨5,60,[AA.enc v4],false⟩
   refine AL (s1:=⟨Fr 32 [p5,p4,(7,.v (.int .i64 c2)),(8,.pt 0 0 0),p3,p2,p1],[p6]⟩) ?_ ?_
   ·refine AD (n:=32) AC 1 [p5,p4,p3,p2,p1,(19,.v (.int .i64 c2))] [] kr ?_
    refine AW AC 0 rfl (DW (AB rfl) rfl (AS (a:= .sl 5 (x0.map AA.enc)) (b:= .v (.int .i64 c2)) kr kr (DP (e:=AA.enc) (el:=60) (k:=5) (ki:= .i64) kr kr hv4))) ?_;exact AX AC
   refine AG ?_;obtain ⟨v5,hv5,h⟩:=OB h
   let p7:Option Blk:=some ⟨5,60,[AA.enc v5],false⟩
   refine AL (s1:=⟨Fr 32 [p5,p4,(8,.pt 0 0 0),(9,.pt 1 0 0),p3,p2,p1],[p6,p7]⟩) ?_ ?_
   ·refine AD (n:=32) AC 2 [p5,p4,(8,.pt 0 0 0),p3,p2,p1,(22,.sl 5 (x1.map AA.enc)),(23,.v (.int .i64 c2))] [p6] kr ?_
    refine AW AC 0 rfl (DW (AB rfl) rfl (AS (a:= .sl 5 (x1.map AA.enc)) (b:= .v (.int .i64 c2)) kr kr (DP (e:=AA.enc) (el:=60) (k:=5) (ki:= .i64) kr kr hv5))) ?_;exact AX AC
   refine AG ?_;obtain ⟨v6,hv6,h⟩:=OB h;refine AL (s1:=⟨Fr 32 [p5,p4,p3,p2,p1,(30,.v (.bool (!v6)))],[]⟩) ?_ ?_
   ·refine AD (n:=32) AC 3 [p5,p4,p3,p2,p1,(26,.fn 122 [] []),(27,AA.enc v4),(28,AA.enc v5)] [p6,p7] kr ?_
    refine AN (caps:=[]) (xs:=[AA.enc v4,AA.enc v5]) (u:=(v4,v5,())) rfl rfl QT rfl (AB rfl) kr kr (AJ (AQ (c:=AA) (v:=v4)) (AJ (AQ (c:=AA) (v:=v5)) Ah)) (.inl kr) hv6 ?_;refine AD (n:=32) AC 1 [p5,p4,p3,p2,p1,(30,.v (.bool (!v6)))] [p6,p7] kr ?_;exact AI rfl (Ac [] trivial ⟨lv,lv,lv,lv,lv,lv,trivial⟩)
   refine AP (b:=(!v6)) kr (fun hb7=>?_) (fun hb7=>?_)
   ·rw [if_pos hb7] at h
    refine AK AC [(6,.v (.bool false))] [] ?_;refine AO ?_;have hq:=OI h; subst hq;exact ⟨rfl,AM⟩
   ·rw [BV hb7] at h
    refine AT ?_
    let p8:Nat×AV:=(17,.v (.int .i64 (wr .i64 (c2 + 1))))
    refine DC AC [p5,p4,p3,p2,p8] [] ?_;exact Aj (s1:=⟨Fr 32 [p5,p4,p3,p2,p8],[]⟩) AM (ih (wr .i64 (c2 + 1)) h)
  ·rw [BV hb3] at h
   refine CA ?_;have hq:=OI h; subst hq;exact ⟨rfl,AM⟩
theorem Cz (x0:(List AH)) (x1:(List AH)) (r:Bool) (h:AZ x0 x1=some r):Sem E0 ⟨none,false⟩ BA ⟨Fr 32 (A0 0 (BB.enc (x0,x1,(),()))),[]⟩ fun e s'=>(e = .normal\/e = .ret)/\∃ xs,Dz E0.P s'.fr s'.hp Tryz.f121.results.toList=some xs/\D0 xs=BC r:=by
 unfold AZ at h
 let p1:Nat×AV:=(2,.fn 122 [] [])
 let p2:Nat×AV:=(1,.sl 5 (x1.map AA.enc))
 let p3:Nat×AV:=(0,.sl 5 (x0.map AA.enc))
 refine Ao (BL (s1:=⟨Fr 32 [p3,p2,p1],[]⟩) AM ?_);refine AK AC [p3,p2,p1] [] ?_;refine AG ?_;refine AG ?_;refine AL (s1:=⟨Fr 32 [p3,p2,p1,(14,.v (.bool ((x0.length:Int)!=(x1.length:Int))))],[]⟩) ?_ ?_
 ·refine AD (n:=32) AC 1 [p3,p2,p1,(10,.sl 5 (x0.map AA.enc))] [] kr ?_
  refine AW AC 0 rfl (DW (AB rfl) rfl (CO (a:= .sl 5 (x0.map AA.enc)) kr (BS (el:=60) kr))) ?_;refine AD (n:=32) AC 1 [p3,p2,p1,(11,.v (.int .i64 (x0.length:Int))),(12,.sl 5 (x1.map AA.enc))] [] kr ?_;refine AW AC 0 rfl (DW (AB rfl) rfl (CO (a:= .sl 5 (x1.map AA.enc)) kr (BS (el:=60) kr))) ?_;exact AX AC
 refine AP (b:=((x0.length:Int)!=(x1.length:Int))) kr (fun hb1=>?_) (fun hb1=>?_)
 ·rw [if_pos hb1] at h
  refine AK AC [(6,.v (.bool false))] [] ?_;refine AO ?_;have hq:=OI h; subst hq;exact ⟨⟨Fr 32 [(6,.v (.bool false))],[]⟩,AM,.inr rfl,[.v (.bool false)],kr,kr⟩
 ·rw [BV hb1] at h
  refine AT ?_;refine AG ?_;refine AG ?_
  let p4:Nat×AV:=(17,.v (.int .i64 0))
  let p5:Nat×AV:=(16,.v (.int .i64 (x0.length:Int)))
  let p6:Nat×AV:=(15,.sl 5 (x0.map AA.enc))
  refine AL (s1:=⟨Fr 32 [p2,p1,p6,p5,p4],[]⟩) ?_ ?_
  ·refine AD (n:=32) AC 1 [p2,p1,p6] [] kr ?_
   refine AW AC 0 rfl (DW (AB rfl) rfl (CO (a:= .sl 5 (x0.map AA.enc)) kr (BS (el:=60) kr))) ?_;exact AX AC
  refine Aa ?_;obtain ⟨r9,hr9,h⟩:=OB h;refine CF (n:=100000) ?_;rcases r9 with w10 | w11
  ·try dsimp only at h
   refine A1 (Aj (s1:=⟨Fr 32 [p2,p1,p6,p5,p4],[]⟩) AM (Bb x0 x1 _ 0 _ hr9)) ?_;refine AK AC [(6,.v (.bool true))] [] ?_;refine AO ?_;have hq:=OI h; subst hq;exact ⟨⟨Fr 32 [(6,.v (.bool true))],[]⟩,AM,.inr rfl,[.v (.bool true)],kr,kr⟩
  ·try dsimp only at h
   refine A1 (Aj (s1:=⟨Fr 32 [p2,p1,p6,p5,p4],[]⟩) AM (Bb x0 x1 _ 0 _ hr9)) ?_;have hq:=OI h; subst hq;exact ⟨⟨Fr 32 [(6,.v (.bool w11))],[]⟩,AM,.inr rfl,[.v (.bool w11)],kr,kr⟩
def C9:List AV->Option AV:=Dm BB (fun a=>AZ a.1 a.2.1) BC
theorem DB:XOk 121 C9:=by
 refine AR Tryz.func121 (c:=BA) ?h2 ⟨Tryz.call121⟩ BB (fun a=>AZ a.1 a.2.1) BC (fun a=>(by show 3<=32; decide)) ?h3 ?h4
 case h2=>kernel_rfl
 case h3=>intro b; kernel_rfl
 case h4=>exact fun a b h=>Cz a.1 a.2.1 b h
/- trestle/trestlelaw03.Same -/
noncomputable def Pi:Code:=A9 Tryz.f69
def JH (x0:(List AH)) (x1:(List AH)):Option (Bool) :=
 (AZ x0 x1).bind fun v1 =>
 some v1
def Mi:Cs ((List AH)×(List AH)×Unit):=(csC (cdL 5 AA) (csC (cdL 5 AA) csN))
def Mt (r:Bool):AV:=cdB.enc r
theorem T1 (x0:(List AH)) (x1:(List AH)) (r:Bool) (h:JH x0 x1=some r):Sem E0 ⟨none,false⟩ Pi ⟨Fr 8 (A0 0 (Mi.enc (x0,x1,()))),[]⟩ fun e s'=>(e = .normal\/e = .ret)/\∃ xs,Dz E0.P s'.fr s'.hp Tryz.f69.results.toList=some xs/\D0 xs=Mt r:=by
 unfold JH at h
 let p1:Nat×AV:=(1,.sl 5 (x1.map AA.enc))
 let p2:Nat×AV:=(0,.sl 5 (x0.map AA.enc))
 refine Ao (BL (s1:=⟨Fr 8 [p2,p1],[]⟩) AM ?_);refine AK AC [p2,p1] [] ?_;refine AG ?_;obtain ⟨v1,hv1,h⟩:=OB h;refine AL (s1:=⟨Fr 8 [(4,.v (.bool v1))],[]⟩) ?_ ?_
 ·refine AD (n:=8) AC 2 [(5,.sl 5 (x0.map AA.enc)),(6,.sl 5 (x1.map AA.enc))] [] kr ?_
  refine AN (caps:=[]) (xs:=[.sl 5 (x0.map AA.enc),.sl 5 (x1.map AA.enc),.fn 122 [] []]) (u:=(x0,x1,(),())) rfl rfl DB rfl (AB rfl) kr kr (AJ (AQ (c:=(cdL 5 AA)) (v:=x0)) (AJ (AQ (c:=(cdL 5 AA)) (v:=x1)) (AJ (Sm.fn Ah) Ah))) (.inl kr) hv1 ?_;exact AX AC
 refine AO ?_;have hq:=OI h; subst hq;exact ⟨⟨Fr 8 [(4,.v (.bool v1))],[]⟩,AM,.inr rfl,[.v (.bool v1)],kr,kr⟩
def WW:List AV->Option AV:=Dm Mi (fun a=>JH a.1 a.2.1) Mt
theorem Wm:XOk 69 WW:=by
 refine AR Tryz.func69 (c:=Pi) ?h2 ⟨Tryz.call69⟩ Mi (fun a=>JH a.1 a.2.1) Mt (fun a=>(by show 2<=8; decide)) ?h3 ?h4
 case h2=>kernel_rfl
 case h3=>intro b; kernel_rfl
 case h4=>exact fun a b h=>T1 a.1 a.2.1 b h
/- trestle/trestlekit.SameWords -/
noncomputable def Jl:Code:=A9 Tryz.f152
def EA (x0:(List (List UInt8))) (x1:(List (List UInt8))):Nat->Int->Option ((Unit) ⊕ (Bool))
 | 0,_=>none
 | f + 1,c2 =>
  if (decide (c2 < (x0.length:Int)))=true then
  (idx x0 c2).bind fun v4 =>
  (idx x1 c2).bind fun v5 =>
  if (!(v4==v5))=true then
  some (.inr false)
  else
  EA x0 x1 f (wr .i64 (c2 + 1))
  else
  some (.inl ())
def Gx (x0:(List (List UInt8))) (x1:(List (List UInt8))):Option (Bool) :=
 if ((x0.length:Int)!=(x1.length:Int))=true then
 some false
 else
 (EA x0 x1 200000000000000 0).bind fun r8 =>
 match r8 with
 | (.inl _w9) =>
  some true
 | (.inr w10) =>
  some w10
def J2:Cs ((List (List UInt8))×(List (List UInt8))×Unit):=(csC (cdL 1 cdS) (csC (cdL 1 cdS) csN))
def KM (r:Bool):AV:=cdB.enc r
theorem LB (x0:(List (List UInt8))) (x1:(List (List UInt8))):∀ (f:Nat) (c2:Int) (r:(Unit) ⊕ (Bool)),EA x0 x1 f c2=some r->SemN E0 ⟨none,false⟩ (pc Jl [1,1,0,1,0,0]) f ⟨Fr 26 [(0,.sl 1 (x0.map cdS.enc)),(1,.sl 1 (x1.map cdS.enc)),(5,.v (.int .i64 c2))],[]⟩ (fun e s=>match r with
 | (.inl _w)=>e=(.exit 0)/\Wk E0 s ⟨Fr 26 [],[]⟩
 | (.inr w)=>e = .ret/\Wk E0 s ⟨Fr 26 [(4,.v (.bool w))],[]⟩):=by
 intro f;induction f with
 | zero=>intro c2 r h; cases h
 | succ f ih0 =>
  intro c2 r h
  have ih:=fun (c2:Int)=>ih0 c2 r
  unfold EA at h;refine Bc ?_;refine AG ?_;refine AG ?_
  let p1:Nat×AV:=(5,.v (.int .i64 c2))
  let p2:Nat×AV:=(1,.sl 1 (x1.map cdS.enc))
  let p3:Nat×AV:=(0,.sl 1 (x0.map cdS.enc))
  refine AL (s1:=⟨Fr 26 [p3,p2,p1,(14,.v (.bool (decide (c2 < (x0.length:Int)))))],[]⟩) ?_ ?_
  ·refine AD (n:=26) AC 2 [p3,p2,p1,(11,.v (.int .i64 c2)),(12,.sl 1 (x0.map cdS.enc))] [] kr ?_
   refine AW AC 0 rfl (DW (AB rfl) rfl (CO (a:= .sl 1 (x0.map cdS.enc)) kr (BS (el:=9) kr))) ?_;exact AX AC
  refine AP (b:=(decide (c2 < (x0.length:Int)))) kr (fun hb3=>?_) (fun hb3=>?_)
  ·rw [if_pos hb3] at h
   refine AT ?_;refine AG ?_;refine Aa ?_;refine AG ?_;obtain ⟨v4,hv4,h⟩:=OB h;obtain ⟨v5,hv5,h⟩:=OB h;refine C0 AC (s1:=⟨Fr 26 [p3,p2,p1,(25,.v (.bool (!(v4==v5))))],[]⟩) kr ?_ ?_
   ·refine AU (n:=26) AC 2 [p3,p2,p1,(17,.sl 1 (x0.map cdS.enc)),(18,.v (.int .i64 c2))] [] kr kr ?_
    refine RunDS.one AC rfl kr (HF kr (AB rfl) rfl (AS (a:= .sl 1 (x0.map cdS.enc)) (b:= .v (.int .i64 c2)) kr kr (DP (e:=cdS.enc) (el:=9) (k:=1) (ki:= .i64) kr kr hv4)) kr) ?_;refine AU (n:=26) AC 3 [p3,p2,p1,(20,.st v4),(21,.sl 1 (x1.map cdS.enc)),(22,.v (.int .i64 c2))] [] kr kr ?_;refine RunDS.one AC rfl kr (HF kr (AB rfl) rfl (AS (a:= .sl 1 (x1.map cdS.enc)) (b:= .v (.int .i64 c2)) kr kr (DP (e:=cdS.enc) (el:=9) (k:=1) (ki:= .i64) kr kr hv5)) kr) ?_;refine AU (n:=26) AC 2 [p3,p2,p1,(25,.v (.bool (!(v4==v5))))] [] kr kr ?_;exact RunDS.done rfl AM
   refine AP (b:=(!(v4==v5))) kr (fun hb6=>?_) (fun hb6=>?_)
   ·rw [if_pos hb6] at h
    refine AK AC [(4,.v (.bool false))] [] ?_;refine AO ?_;have hq:=OI h; subst hq;exact ⟨rfl,AM⟩
   ·rw [BV hb6] at h
    refine AT ?_
    let p4:Nat×AV:=(5,.v (.int .i64 (wr .i64 (c2 + 1))))
    refine DC AC [p3,p2,p4] [] ?_;exact Aj (s1:=⟨Fr 26 [p3,p2,p4],[]⟩) AM (ih (wr .i64 (c2 + 1)) h)
  ·rw [BV hb3] at h
   refine CA ?_;have hq:=OI h; subst hq;exact ⟨rfl,AM⟩
theorem Qy (x0:(List (List UInt8))) (x1:(List (List UInt8))) (r:Bool) (h:Gx x0 x1=some r):Sem E0 ⟨none,false⟩ Jl ⟨Fr 26 (A0 0 (J2.enc (x0,x1,()))),[]⟩ fun e s'=>(e = .normal\/e = .ret)/\∃ xs,Dz E0.P s'.fr s'.hp Tryz.f152.results.toList=some xs/\D0 xs=KM r:=by
 unfold Gx at h
 let p1:Nat×AV:=(1,.sl 1 (x1.map cdS.enc))
 let p2:Nat×AV:=(0,.sl 1 (x0.map cdS.enc))
 refine Ao (BL (s1:=⟨Fr 26 [p2,p1],[]⟩) AM ?_);refine AK AC [p2,p1] [] ?_;refine AG ?_;refine AG ?_;refine AL (s1:=⟨Fr 26 [p2,p1,(10,.v (.bool ((x0.length:Int)!=(x1.length:Int))))],[]⟩) ?_ ?_
 ·refine AD (n:=26) AC 1 [p2,p1,(6,.sl 1 (x0.map cdS.enc))] [] kr ?_
  refine AW AC 0 rfl (DW (AB rfl) rfl (CO (a:= .sl 1 (x0.map cdS.enc)) kr (BS (el:=9) kr))) ?_;refine AD (n:=26) AC 1 [p2,p1,(7,.v (.int .i64 (x0.length:Int))),(8,.sl 1 (x1.map cdS.enc))] [] kr ?_;refine AW AC 0 rfl (DW (AB rfl) rfl (CO (a:= .sl 1 (x1.map cdS.enc)) kr (BS (el:=9) kr))) ?_;exact AX AC
 refine AP (b:=((x0.length:Int)!=(x1.length:Int))) kr (fun hb1=>?_) (fun hb1=>?_)
 ·rw [if_pos hb1] at h
  refine AK AC [(4,.v (.bool false))] [] ?_;refine AO ?_;have hq:=OI h; subst hq;exact ⟨⟨Fr 26 [(4,.v (.bool false))],[]⟩,AM,.inr rfl,[.v (.bool false)],kr,kr⟩
 ·rw [BV hb1] at h
  refine AT ?_;refine AG ?_
  let p3:Nat×AV:=(5,.v (.int .i64 0))
  refine AK AC [p2,p1,p3] [] ?_;refine Aa ?_;obtain ⟨r8,hr8,h⟩:=OB h;refine CF (n:=200000000000000) ?_;rcases r8 with w9 | w10
  ·try dsimp only at h
   refine A1 (Aj (s1:=⟨Fr 26 [p2,p1,p3],[]⟩) AM (LB x0 x1 _ 0 _ hr8)) ?_;refine AK AC [(4,.v (.bool true))] [] ?_;refine AO ?_;have hq:=OI h; subst hq;exact ⟨⟨Fr 26 [(4,.v (.bool true))],[]⟩,AM,.inr rfl,[.v (.bool true)],kr,kr⟩
  ·try dsimp only at h
   refine A1 (Aj (s1:=⟨Fr 26 [p2,p1,p3],[]⟩) AM (LB x0 x1 _ 0 _ hr8)) ?_;have hq:=OI h; subst hq;exact ⟨⟨Fr 26 [(4,.v (.bool w10))],[]⟩,AM,.inr rfl,[.v (.bool w10)],kr,kr⟩
def TS:List AV->Option AV:=Dm J2 (fun a=>Gx a.1 a.2.1) KM
theorem Tm:XOk 152 TS:=by
 refine AR Tryz.func152 (c:=Jl) ?h2 ⟨Tryz.call152⟩ J2 (fun a=>Gx a.1 a.2.1) KM (fun a=>(by show 2<=26; decide)) ?h3 ?h4
 case h2=>kernel_rfl
 case h3=>intro b; kernel_rfl
 case h4=>exact fun a b h=>Qy a.1 a.2.1 b h
/- trestle/trestlekit.SameGuest -/
noncomputable def NO:Code:=A9 Tryz.f123
def Gv (x0:Af) (x1:Af):Option (Bool) :=
 (if (x0.1==x1.1)=true then if (x0.2.1==x1.2.1)=true then if (x0.2.2.1==x1.2.2.1)=true then if (x0.2.2.2.1==x1.2.2.2.1)=true then if (x0.2.2.2.2.1==x1.2.2.2.2.1)=true then if (x0.2.2.2.2.2.1==x1.2.2.2.2.2.1)=true then if (x0.2.2.2.2.2.2.1==x1.2.2.2.2.2.2.1)=true then if (x0.2.2.2.2.2.2.2.1==x1.2.2.2.2.2.2.2.1)=true then (Gx x0.2.2.2.2.2.2.2.2 x1.2.2.2.2.2.2.2.2).bind fun v1 =>
 some v1 else some false else some false else some false else some false else some false else some false else some false else some false).bind fun j3 =>
 some j3
def J0:Cs (Af×Af×Unit):=(csC AE (csC AE csN))
def KK (r:Bool):AV:=cdB.enc r
theorem Qw (x0:Af) (x1:Af) (r:Bool) (h:Gv x0 x1=some r):Sem E0 ⟨none,false⟩ NO ⟨Fr 66 (A0 0 (J0.enc (x0,x1,()))),[]⟩ fun e s'=>(e = .normal\/e = .ret)/\∃ xs,Dz E0.P s'.fr s'.hp Tryz.f123.results.toList=some xs/\D0 xs=KK r:=by
 unfold Gv at h;refine Ao (BL (s1:=⟨Fr 66 [(0,AE.enc x0),(1,AE.enc x1)],[]⟩) AM ?_);refine AK AC [(2,.pt 0 0 0),(3,.pt 1 0 0)] [some ⟨9,42,[AE.enc x0],false⟩,some ⟨9,42,[AE.enc x1],false⟩] ?_;refine AG ?_;obtain ⟨j3,hj3,h⟩:=OB h;refine AL (s1:=⟨Fr 66 [(4,.v (.bool j3))],[]⟩) ?_ ?_
 ·refine AD (n:=66) AC 6 [(2,.pt 0 0 0),(3,.pt 1 0 0),(10,.v (.bool (x0.1==x1.1)))] [some ⟨9,42,[AE.enc x0],false⟩,some ⟨9,42,[AE.enc x1],false⟩] kr ?_
  rcases BE (x0.1==x1.1) with hc4 | hc4
  ·rw [if_pos hc4] at hj3
   rw [hc4];refine AD (n:=66) AC 7 [(2,.pt 0 0 0),(3,.pt 1 0 0),(17,.v (.bool (x0.2.1==x1.2.1)))] [some ⟨9,42,[AE.enc x0],false⟩,some ⟨9,42,[AE.enc x1],false⟩] kr ?_;rcases BE (x0.2.1==x1.2.1) with hc5 | hc5
   ·rw [if_pos hc5] at hj3
    rw [hc5];refine AD (n:=66) AC 7 [(2,.pt 0 0 0),(3,.pt 1 0 0),(24,.v (.bool (x0.2.2.1==x1.2.2.1)))] [some ⟨9,42,[AE.enc x0],false⟩,some ⟨9,42,[AE.enc x1],false⟩] kr ?_;rcases BE (x0.2.2.1==x1.2.2.1) with hc6 | hc6
    ·rw [if_pos hc6] at hj3
     rw [hc6];refine AD (n:=66) AC 7 [(2,.pt 0 0 0),(3,.pt 1 0 0),(31,.v (.bool (x0.2.2.2.1==x1.2.2.2.1)))] [some ⟨9,42,[AE.enc x0],false⟩,some ⟨9,42,[AE.enc x1],false⟩] kr ?_;rcases BE (x0.2.2.2.1==x1.2.2.2.1) with hc7 | hc7
     ·rw [if_pos hc7] at hj3
      rw [hc7];refine AD (n:=66) AC 7 [(2,.pt 0 0 0),(3,.pt 1 0 0),(38,.v (.bool (x0.2.2.2.2.1==x1.2.2.2.2.1)))] [some ⟨9,42,[AE.enc x0],false⟩,some ⟨9,42,[AE.enc x1],false⟩] kr ?_;rcases BE (x0.2.2.2.2.1==x1.2.2.2.2.1) with hc8 | hc8
      ·rw [if_pos hc8] at hj3
       rw [hc8];refine AD (n:=66) AC 7 [(2,.pt 0 0 0),(3,.pt 1 0 0),(45,.v (.bool (x0.2.2.2.2.2.1==x1.2.2.2.2.2.1)))] [some ⟨9,42,[AE.enc x0],false⟩,some ⟨9,42,[AE.enc x1],false⟩] kr ?_;rcases BE (x0.2.2.2.2.2.1==x1.2.2.2.2.2.1) with hc9 | hc9
       ·rw [if_pos hc9] at hj3
        rw [hc9];refine AD (n:=66) AC 7 [(2,.pt 0 0 0),(3,.pt 1 0 0),(52,.v (.bool (x0.2.2.2.2.2.2.1==x1.2.2.2.2.2.2.1)))] [some ⟨9,42,[AE.enc x0],false⟩,some ⟨9,42,[AE.enc x1],false⟩] kr ?_;rcases BE (x0.2.2.2.2.2.2.1==x1.2.2.2.2.2.2.1) with hc10 | hc10
        ·rw [if_pos hc10] at hj3
         rw [hc10];refine AD (n:=66) AC 7 [(2,.pt 0 0 0),(3,.pt 1 0 0),(59,.v (.bool (x0.2.2.2.2.2.2.2.1==x1.2.2.2.2.2.2.2.1)))] [some ⟨9,42,[AE.enc x0],false⟩,some ⟨9,42,[AE.enc x1],false⟩] kr ?_;rcases BE (x0.2.2.2.2.2.2.2.1==x1.2.2.2.2.2.2.2.1) with hc11 | hc11
         ·rw [if_pos hc11] at hj3
          rw [hc11];refine AD (n:=66) AC 4 [(59,.v (.bool true)),(61,.sl 1 (x0.2.2.2.2.2.2.2.2.map cdS.enc)),(63,.sl 1 (x1.2.2.2.2.2.2.2.2.map cdS.enc))] [some ⟨9,42,[AE.enc x0],false⟩,some ⟨9,42,[AE.enc x1],false⟩] kr ?_;obtain ⟨v1,hv1,hj3⟩:=OB hj3;refine AN (caps:=[]) (xs:=[.sl 1 (x0.2.2.2.2.2.2.2.2.map cdS.enc),.sl 1 (x1.2.2.2.2.2.2.2.2.map cdS.enc)]) (u:=(x0.2.2.2.2.2.2.2.2,x1.2.2.2.2.2.2.2.2,())) rfl rfl Tm rfl kr kr kr (AJ (AQ (c:=(cdL 1 cdS)) (v:=x0.2.2.2.2.2.2.2.2)) (AJ (AQ (c:=(cdL 1 cdS)) (v:=x1.2.2.2.2.2.2.2.2)) Ah)) (.inl kr) hv1 ?_;refine AD (n:=66) AC 2 [(4,.v (.bool v1))] [some ⟨9,42,[AE.enc x0],false⟩,some ⟨9,42,[AE.enc x1],false⟩] kr ?_;have hq:=OI hj3; subst hq;exact AI rfl (Ac [] trivial ⟨lv,trivial⟩)
         ·rw [BV hc11] at hj3
          rw [hc11];refine AD (n:=66) AC 7 [(4,.v (.bool false))] [some ⟨9,42,[AE.enc x0],false⟩,some ⟨9,42,[AE.enc x1],false⟩] kr ?_;have hq:=OI hj3; subst hq;exact AI rfl (Ac [] trivial ⟨lv,trivial⟩)
        ·rw [BV hc10] at hj3
         rw [hc10];refine AD (n:=66) AC 14 [(4,.v (.bool false))] [some ⟨9,42,[AE.enc x0],false⟩,some ⟨9,42,[AE.enc x1],false⟩] kr ?_;have hq:=OI hj3; subst hq;exact AI rfl (Ac [] trivial ⟨lv,trivial⟩)
       ·rw [BV hc9] at hj3
        rw [hc9];refine AD (n:=66) AC 21 [(4,.v (.bool false))] [some ⟨9,42,[AE.enc x0],false⟩,some ⟨9,42,[AE.enc x1],false⟩] kr ?_;have hq:=OI hj3; subst hq;exact AI rfl (Ac [] trivial ⟨lv,trivial⟩)
      ·rw [BV hc8] at hj3
       rw [hc8];refine AD (n:=66) AC 28 [(4,.v (.bool false))] [some ⟨9,42,[AE.enc x0],false⟩,some ⟨9,42,[AE.enc x1],false⟩] kr ?_;have hq:=OI hj3; subst hq;exact AI rfl (Ac [] trivial ⟨lv,trivial⟩)
     ·rw [BV hc7] at hj3
      rw [hc7];refine AD (n:=66) AC 35 [(4,.v (.bool false))] [some ⟨9,42,[AE.enc x0],false⟩,some ⟨9,42,[AE.enc x1],false⟩] kr ?_;have hq:=OI hj3; subst hq;exact AI rfl (Ac [] trivial ⟨lv,trivial⟩)
    ·rw [BV hc6] at hj3
     rw [hc6];refine AD (n:=66) AC 42 [(4,.v (.bool false))] [some ⟨9,42,[AE.enc x0],false⟩,some ⟨9,42,[AE.enc x1],false⟩] kr ?_;have hq:=OI hj3; subst hq;exact AI rfl (Ac [] trivial ⟨lv,trivial⟩)
   ·rw [BV hc5] at hj3
    rw [hc5];refine AD (n:=66) AC 49 [(4,.v (.bool false))] [some ⟨9,42,[AE.enc x0],false⟩,some ⟨9,42,[AE.enc x1],false⟩] kr ?_;have hq:=OI hj3; subst hq;exact AI rfl (Ac [] trivial ⟨lv,trivial⟩)
  ·rw [BV hc4] at hj3
   rw [hc4];refine AD (n:=66) AC 56 [(4,.v (.bool false))] [some ⟨9,42,[AE.enc x0],false⟩,some ⟨9,42,[AE.enc x1],false⟩] kr ?_;have hq:=OI hj3; subst hq;exact AI rfl (Ac [] trivial ⟨lv,trivial⟩)
 refine AO ?_;have hq:=OI h; subst hq;exact ⟨⟨Fr 66 [(4,.v (.bool j3))],[]⟩,AM,.inr rfl,[.v (.bool j3)],kr,kr⟩
def TQ:List AV->Option AV:=Dm J0 (fun a=>Gv a.1 a.2.1) KK
theorem Tk:XOk 123 TQ:=by
 refine AR Tryz.func123 (c:=NO) ?h2 ⟨Tryz.call123⟩ J0 (fun a=>Gv a.1 a.2.1) KK (fun a=>(by show 2<=66; decide)) ?h3 ?h4
 case h2=>kernel_rfl
 case h3=>intro b; kernel_rfl
 case h4=>exact fun a b h=>Qw a.1 a.2.1 b h
/- trestle/trestlekit.SameGuests -/
noncomputable def I1:Code:=A9 Tryz.f70
def C7 (x0:(List Af)) (x1:(List Af)):Nat->Int->Option ((Unit) ⊕ (Bool))
 | 0,_=>none
 | f + 1,c2 =>
  if (decide (c2 < (x0.length:Int)))=true then
  (idx x0 c2).bind fun v4 =>
  (idx x1 c2).bind fun v5 =>
  (Gv v4 v5).bind fun v6 =>
  if (!v6)=true then
  some (.inr false)
  else
  C7 x0 x1 f (wr .i64 (c2 + 1))
  else
  some (.inl ())
def GB (x0:(List Af)) (x1:(List Af)):Option (Bool) :=
 if ((x0.length:Int)!=(x1.length:Int))=true then
 some false
 else
 (C7 x0 x1 100000 0).bind fun r9 =>
 match r9 with
 | (.inl _w10) =>
  some true
 | (.inr w11) =>
  some w11
def I7:Cs ((List Af)×(List Af)×Unit):=(csC (cdL 9 AE) (csC (cdL 9 AE) csN))
def JD (r:Bool):AV:=cdB.enc r
theorem KS (x0:(List Af)) (x1:(List Af)):∀ (f:Nat) (c2:Int) (r:(Unit) ⊕ (Bool)),C7 x0 x1 f c2=some r->SemN E0 ⟨none,false⟩ (pc I1 [1,1,0,1,0,0]) f ⟨Fr 27 [(0,.sl 9 (x0.map AE.enc)),(1,.sl 9 (x1.map AE.enc)),(5,.v (.int .i64 c2))],[]⟩ (fun e s=>match r with
 | (.inl _w)=>e=(.exit 0)/\Wk E0 s ⟨Fr 27 [],[]⟩
 | (.inr w)=>e = .ret/\Wk E0 s ⟨Fr 27 [(4,.v (.bool w))],[]⟩):=by
 intro f;induction f with
 | zero=>intro c2 r h; cases h
 | succ f ih0 =>
  intro c2 r h
  have ih:=fun (c2:Int)=>ih0 c2 r
  unfold C7 at h;refine Bc ?_;refine AG ?_;refine AG ?_
  let p1:Nat×AV:=(5,.v (.int .i64 c2))
  let p2:Nat×AV:=(1,.sl 9 (x1.map AE.enc))
  let p3:Nat×AV:=(0,.sl 9 (x0.map AE.enc))
  refine AL (s1:=⟨Fr 27 [p3,p2,p1,(14,.v (.bool (decide (c2 < (x0.length:Int)))))],[]⟩) ?_ ?_
  ·refine AD (n:=27) AC 2 [p3,p2,p1,(11,.v (.int .i64 c2)),(12,.sl 9 (x0.map AE.enc))] [] kr ?_
   refine AW AC 0 rfl (DW (AB rfl) rfl (CO (a:= .sl 9 (x0.map AE.enc)) kr (BS (el:=42) kr))) ?_;exact AX AC
  refine AP (b:=(decide (c2 < (x0.length:Int)))) kr (fun hb3=>?_) (fun hb3=>?_)
  ·rw [if_pos hb3] at h
   refine AT ?_;refine AG ?_;refine Aa ?_;refine AG ?_;obtain ⟨v4,hv4,h⟩:=OB h;obtain ⟨v5,hv5,h⟩:=OB h;obtain ⟨v6,hv6,h⟩:=OB h;refine C0 AC (s1:=⟨Fr 27 [p3,p2,p1,(26,.v (.bool (!v6)))],[]⟩) kr ?_ ?_
   ·refine AU (n:=27) AC 2 [p3,p2,p1,(17,.sl 9 (x0.map AE.enc)),(18,.v (.int .i64 c2))] [] kr kr ?_
    refine RunDS.one AC rfl kr (HF kr (AB rfl) rfl (AS (a:= .sl 9 (x0.map AE.enc)) (b:= .v (.int .i64 c2)) kr kr (DP (e:=AE.enc) (el:=42) (k:=9) (ki:= .i64) kr kr hv4)) kr) ?_;refine AU (n:=27) AC 3 [p3,p2,p1,(20,AE.enc v4),(21,.sl 9 (x1.map AE.enc)),(22,.v (.int .i64 c2))] [] kr kr ?_;refine RunDS.one AC rfl kr (HF kr (AB rfl) rfl (AS (a:= .sl 9 (x1.map AE.enc)) (b:= .v (.int .i64 c2)) kr kr (DP (e:=AE.enc) (el:=42) (k:=9) (ki:= .i64) kr kr hv5)) kr) ?_;refine AU (n:=27) AC 1 [p3,p2,p1,(20,AE.enc v4),(24,AE.enc v5)] [] kr kr ?_;refine BQ (caps:=[]) (xs:=[AE.enc v4,AE.enc v5]) (u:=(v4,v5,())) rfl rfl Tk rfl (AB rfl) kr kr (AJ (AQ (c:=AE) (v:=v4)) (AJ (AQ (c:=AE) (v:=v5)) Ah)) kr hv6 ?_;refine AU (n:=27) AC 1 [p3,p2,p1,(26,.v (.bool (!v6)))] [] kr kr ?_;exact RunDS.done rfl AM
   refine AP (b:=(!v6)) kr (fun hb7=>?_) (fun hb7=>?_)
   ·rw [if_pos hb7] at h
    refine AK AC [(4,.v (.bool false))] [] ?_;refine AO ?_;have hq:=OI h; subst hq;exact ⟨rfl,AM⟩
   ·rw [BV hb7] at h
    refine AT ?_
    let p4:Nat×AV:=(5,.v (.int .i64 (wr .i64 (c2 + 1))))
    refine DC AC [p3,p2,p4] [] ?_;exact Aj (s1:=⟨Fr 27 [p3,p2,p4],[]⟩) AM (ih (wr .i64 (c2 + 1)) h)
  ·rw [BV hb3] at h
   refine CA ?_;have hq:=OI h; subst hq;exact ⟨rfl,AM⟩
theorem P5 (x0:(List Af)) (x1:(List Af)) (r:Bool) (h:GB x0 x1=some r):Sem E0 ⟨none,false⟩ I1 ⟨Fr 27 (A0 0 (I7.enc (x0,x1,()))),[]⟩ fun e s'=>(e = .normal\/e = .ret)/\∃ xs,Dz E0.P s'.fr s'.hp Tryz.f70.results.toList=some xs/\D0 xs=JD r:=by
 unfold GB at h
 let p1:Nat×AV:=(1,.sl 9 (x1.map AE.enc))
 let p2:Nat×AV:=(0,.sl 9 (x0.map AE.enc))
 refine Ao (BL (s1:=⟨Fr 27 [p2,p1],[]⟩) AM ?_);refine AK AC [p2,p1] [] ?_;refine AG ?_;refine AG ?_;refine AL (s1:=⟨Fr 27 [p2,p1,(10,.v (.bool ((x0.length:Int)!=(x1.length:Int))))],[]⟩) ?_ ?_
 ·refine AD (n:=27) AC 1 [p2,p1,(6,.sl 9 (x0.map AE.enc))] [] kr ?_
  refine AW AC 0 rfl (DW (AB rfl) rfl (CO (a:= .sl 9 (x0.map AE.enc)) kr (BS (el:=42) kr))) ?_;refine AD (n:=27) AC 1 [p2,p1,(7,.v (.int .i64 (x0.length:Int))),(8,.sl 9 (x1.map AE.enc))] [] kr ?_;refine AW AC 0 rfl (DW (AB rfl) rfl (CO (a:= .sl 9 (x1.map AE.enc)) kr (BS (el:=42) kr))) ?_;exact AX AC
 refine AP (b:=((x0.length:Int)!=(x1.length:Int))) kr (fun hb1=>?_) (fun hb1=>?_)
 ·rw [if_pos hb1] at h
  refine AK AC [(4,.v (.bool false))] [] ?_;refine AO ?_;have hq:=OI h; subst hq;exact ⟨⟨Fr 27 [(4,.v (.bool false))],[]⟩,AM,.inr rfl,[.v (.bool false)],kr,kr⟩
 ·rw [BV hb1] at h
  refine AT ?_;refine AG ?_
  let p3:Nat×AV:=(5,.v (.int .i64 0))
  refine AK AC [p2,p1,p3] [] ?_;refine Aa ?_;obtain ⟨r9,hr9,h⟩:=OB h;refine CF (n:=100000) ?_;rcases r9 with w10 | w11
  ·try dsimp only at h
   refine A1 (Aj (s1:=⟨Fr 27 [p2,p1,p3],[]⟩) AM (KS x0 x1 _ 0 _ hr9)) ?_;refine AK AC [(4,.v (.bool true))] [] ?_;refine AO ?_;have hq:=OI h; subst hq;exact ⟨⟨Fr 27 [(4,.v (.bool true))],[]⟩,AM,.inr rfl,[.v (.bool true)],kr,kr⟩
  ·try dsimp only at h
   refine A1 (Aj (s1:=⟨Fr 27 [p2,p1,p3],[]⟩) AM (KS x0 x1 _ 0 _ hr9)) ?_;have hq:=OI h; subst hq;exact ⟨⟨Fr 27 [(4,.v (.bool w11))],[]⟩,AM,.inr rfl,[.v (.bool w11)],kr,kr⟩
def Ru:List AV->Option AV:=Dm I7 (fun a=>GB a.1 a.2.1) JD
theorem R4:XOk 70 Ru:=by
 refine AR Tryz.func70 (c:=I1) ?h2 ⟨Tryz.call70⟩ I7 (fun a=>GB a.1 a.2.1) JD (fun a=>(by show 2<=27; decide)) ?h3 ?h4
 case h2=>kernel_rfl
 case h3=>intro b; kernel_rfl
 case h4=>exact fun a b h=>P5 a.1 a.2.1 b h
/- trestle/trestlelaw03.orders -/
noncomputable def Kj:Code:=A9 Tryz.f17
def Ff (x0:(List AH)) (x1:(List Af)) (_v1:(List AH)) (_v2:(List Af)) (_v3:(List Int)×Int) (_v4:(List Int)×Int) (j7:Bool):Option (((List (List Int))×(List Int)×(List Int))) :=
 if j7=true then
 (Gz x0 x1).bind fun v9 =>
 (FU x0 x1).bind fun v10 =>
 (HY v9 (x1.length:Int)).bind fun v11 =>
 some (v9,v11,v10)
 else
 some ([],[],[])
def F4 (x0:(List AH)) (x1:(List Af)):Option (Bool) :=
 (JG x0).bind fun v1 =>
 (GA x1).bind fun v2 =>
 (G5 v1 v2).bind fun v3 =>
 (G6 x0 x1).bind fun v4 =>
 (HZ x0).bind fun v5 =>
 (if v5=true then some (decide ((x1.length:Int)<=64)) else some false).bind fun j7 =>
 (Ff x0 x1 v1 v2 v3 v4 j7).bind fun r15 =>
 (DE v3.1 v4.1).bind fun v16 =>
 (if v16=true then if (v3.2==v4.2)=true then (Dc v1 v2).bind fun v17 =>
 (Gw v17 r15.1).bind fun v18 =>
 if v18=true then (F9 v1 v2).bind fun v19 =>
 (DE v19 r15.2.1).bind fun v20 =>
 if v20=true then (DT v1 v2).bind fun v21 =>
 (DE v21 r15.2.2).bind fun v22 =>
 if v22=true then (JH v1 x0).bind fun v23 =>
 if v23=true then (GB v2 x1).bind fun v24 =>
 some v24 else some false else some false else some false else some false else some false else some false).bind fun j26 =>
 some j26
def Ku:Cs ((List AH)×(List Af)×Unit):=(csC (cdL 5 AA) (csC (cdL 9 AE) csN))
def K4 (r:Bool):AV:=cdB.enc r
theorem P6 (x0:(List AH)) (x1:(List Af)) (v1:(List AH)) (v2:(List Af)) (v3:(List Int)×Int) (v4:(List Int)×Int) (j7:Bool) (r:((List (List Int))×(List Int)×(List Int))) (h:Ff x0 x1 v1 v2 v3 v4 j7=some r):Sem E0 ⟨none,false⟩ (pc Kj [1,1,1,1,1,1,0,1]) ⟨Fr 86 [(0,.sl 5 (x0.map AA.enc)),(1,.sl 9 (x1.map AE.enc)),(5,.sl 5 (v1.map AA.enc)),(6,.sl 9 (v2.map AE.enc)),(7,.sl 1 (v3.1.map cdI.enc)),(8,.v (.int .i64 v3.2)),(9,.sl 1 (v4.1.map cdI.enc)),(10,.v (.int .i64 v4.2)),(11,.e0),(12,.e0),(13,.e0),(36,.v (.bool j7))],[]⟩ (fun e s=>e = .normal/\Wk E0 s ⟨Fr 86 [(0,.sl 5 (x0.map AA.enc)),(1,.sl 9 (x1.map AE.enc)),(5,.sl 5 (v1.map AA.enc)),(6,.sl 9 (v2.map AE.enc)),(7,.sl 1 (v3.1.map cdI.enc)),(8,.v (.int .i64 v3.2)),(9,.sl 1 (v4.1.map cdI.enc)),(10,.v (.int .i64 v4.2)),(11,.sl 1 (r.1.map (cdL 1 cdI).enc)),(12,.sl 1 (r.2.1.map cdI.enc)),(13,.sl 1 (r.2.2.map cdI.enc))],[]⟩):=by
 unfold Ff at h;refine AP (b:=j7) kr (fun hb8=>?_) (fun hb8=>?_)
 ·rw [if_pos hb8] at h
  refine AG ?_;obtain ⟨v9,hv9,h⟩:=OB h;obtain ⟨v10,hv10,h⟩:=OB h
  let p1:Nat×AV:=(13,.sl 1 (v10.map cdI.enc))
  let p2:Nat×AV:=(11,.sl 1 (v9.map (cdL 1 cdI).enc))
  let p3:Nat×AV:=(10,.v (.int .i64 v4.2))
  let p4:Nat×AV:=(9,.sl 1 (v4.1.map cdI.enc))
  let p5:Nat×AV:=(8,.v (.int .i64 v3.2))
  let p6:Nat×AV:=(7,.sl 1 (v3.1.map cdI.enc))
  let p7:Nat×AV:=(6,.sl 9 (v2.map AE.enc))
  let p8:Nat×AV:=(5,.sl 5 (v1.map AA.enc))
  let p9:Nat×AV:=(1,.sl 9 (x1.map AE.enc))
  let p10:Nat×AV:=(0,.sl 5 (x0.map AA.enc))
  refine AL (s1:=⟨Fr 86 [p10,p9,p8,p7,p6,p5,p4,p3,p2,p1],[]⟩) ?_ ?_
  ·refine AD (n:=86) AC 2 [p10,p9,p8,p7,p6,p5,p4,p3,(37,.sl 5 (x0.map AA.enc)),(38,.sl 9 (x1.map AE.enc))] [] kr ?_
   refine AN (caps:=[]) (xs:=[.sl 5 (x0.map AA.enc),.sl 9 (x1.map AE.enc)]) (u:=(x0,x1,())) rfl rfl QV rfl (AB rfl) kr kr (AJ (AQ (c:=(cdL 5 AA)) (v:=x0)) (AJ (AQ (c:=(cdL 9 AE)) (v:=x1)) Ah)) (.inr kr) hv9 ?_;refine AD (n:=86) AC 2 [p10,p9,p8,p7,p6,p5,p4,p3,(39,.sl 1 (v9.map (cdL 1 cdI).enc)),(40,.sl 5 (x0.map AA.enc)),(41,.sl 9 (x1.map AE.enc))] [] kr ?_;refine AN (caps:=[]) (xs:=[.sl 5 (x0.map AA.enc),.sl 9 (x1.map AE.enc)]) (u:=(x0,x1,())) rfl rfl R7 rfl (AB rfl) kr kr (AJ (AQ (c:=(cdL 5 AA)) (v:=x0)) (AJ (AQ (c:=(cdL 9 AE)) (v:=x1)) Ah)) (.inr kr) hv10 ?_;exact AX AC
  obtain ⟨v11,hv11,h⟩:=OB h;refine AL (s1:=⟨Fr 86 [p10,p9,p8,p7,p6,p5,p4,p3,p2,(12,.sl 1 (v11.map cdI.enc)),p1],[]⟩) ?_ ?_
  ·refine AD (n:=86) AC 2 [p10,p9,p8,p7,p6,p5,p4,p3,p2,p1,(43,.sl 1 (v9.map (cdL 1 cdI).enc)),(44,.sl 9 (x1.map AE.enc))] [] kr ?_
   refine AW AC 0 rfl (DW (AB rfl) rfl (CO (a:= .sl 9 (x1.map AE.enc)) kr (BS (el:=42) kr))) ?_;refine AN (caps:=[]) (xs:=[.sl 1 (v9.map (cdL 1 cdI).enc),.v (.int .i64 (x1.length:Int))]) (u:=(v9,(x1.length:Int),())) rfl rfl Vf rfl (AB rfl) kr kr (AJ (AQ (c:=(cdL 1 (cdL 1 cdI))) (v:=v9)) (AJ (AQ (c:=cdI) (v:=(x1.length:Int))) Ah)) (.inr kr) hv11 ?_;exact AX AC
  have hq:=OI h; subst hq;exact ⟨rfl,AM⟩
 ·rw [BV hb8] at h
  refine AT ?_;have hq:=OI h; subst hq
  let p11:Nat×AV:=(10,.v (.int .i64 v4.2))
  let p12:Nat×AV:=(9,.sl 1 (v4.1.map cdI.enc))
  let p13:Nat×AV:=(8,.v (.int .i64 v3.2))
  let p14:Nat×AV:=(7,.sl 1 (v3.1.map cdI.enc))
  let p15:Nat×AV:=(6,.sl 9 (v2.map AE.enc))
  let p16:Nat×AV:=(5,.sl 5 (v1.map AA.enc))
  let p17:Nat×AV:=(1,.sl 9 (x1.map AE.enc))
  let p18:Nat×AV:=(0,.sl 5 (x0.map AA.enc))
  exact ⟨rfl,(Wk.trans (s1:=⟨Fr 86 [p18,p17,p16,p15,p14,p13,p12,p11,(11,.e0),(12,.e0),(13,.e0)],[]⟩) AM (Wk.trans (s1:=⟨Fr 86 [p18,p17,p16,p15,p14,p13,p12,p11,(11,.e0),(12,.e0),(13,.e0)],[none]⟩) Wk.none (Wk.trans (s1:=⟨Fr 86 [p18,p17,p16,p15,p14,p13,p12,p11,(11,.sl 1 ([].map (cdL 1 cdI).enc)),(12,.sl 1 ([].map cdI.enc)),(13,.sl 1 ([].map cdI.enc))],[none]⟩) (HH 0 (.inr kr) ⟨.inl rfl,trivial⟩ ⟨⟨.sl 5 (x0.map AA.enc),kr,.inl rfl⟩,⟨.sl 9 (x1.map AE.enc),kr,.inl rfl⟩,⟨.sl 5 (v1.map AA.enc),kr,.inl rfl⟩,⟨.sl 9 (v2.map AE.enc),kr,.inl rfl⟩,⟨.sl 1 (v3.1.map cdI.enc),kr,.inl rfl⟩,⟨.v (.int .i64 v3.2),kr,.inl rfl⟩,⟨.sl 1 (v4.1.map cdI.enc),kr,.inl rfl⟩,⟨.v (.int .i64 v4.2),kr,.inl rfl⟩,⟨.e0,kr,Si⟩,⟨.e0,kr,Si⟩,⟨.e0,kr,Si⟩,trivial⟩) (Ac [] trivial ⟨lv,lv,lv,lv,lv,lv,lv,lv,lv,lv,lv,trivial⟩))))⟩
theorem Rj (x0:(List AH)) (x1:(List Af)) (r:Bool) (h:F4 x0 x1=some r):Sem E0 ⟨none,false⟩ Kj ⟨Fr 86 (A0 0 (Ku.enc (x0,x1,()))),[]⟩ fun e s'=>(e = .normal\/e = .ret)/\∃ xs,Dz E0.P s'.fr s'.hp Tryz.f17.results.toList=some xs/\D0 xs=K4 r:=by
 unfold F4 at h;refine Ao (BL (s1:=⟨Fr 86 [(0,.sl 5 (x0.map AA.enc)),(1,.sl 9 (x1.map AE.enc))],[]⟩) AM ?_);refine AK AC [(0,.sl 5 (x0.map AA.enc)),(1,.sl 9 (x1.map AE.enc))] [] ?_;refine AG ?_;obtain ⟨v1,hv1,h⟩:=OB h;obtain ⟨v2,hv2,h⟩:=OB h;refine AL (s1:=⟨Fr 86 [(0,.sl 5 (x0.map AA.enc)),(1,.sl 9 (x1.map AE.enc)),(5,.sl 5 (v1.map AA.enc)),(6,.sl 9 (v2.map AE.enc))],[]⟩) ?_ ?_
 ·refine AD (n:=86) AC 1 [(0,.sl 5 (x0.map AA.enc)),(1,.sl 9 (x1.map AE.enc)),(14,.sl 5 (x0.map AA.enc))] [] kr ?_
  refine AN (caps:=[]) (xs:=[.sl 5 (x0.map AA.enc)]) (u:=(x0,())) rfl rfl Wl rfl (AB rfl) kr kr (AJ (AQ (c:=(cdL 5 AA)) (v:=x0)) Ah) (.inr kr) hv1 ?_;refine AD (n:=86) AC 1 [(0,.sl 5 (x0.map AA.enc)),(1,.sl 9 (x1.map AE.enc)),(15,.sl 5 (v1.map AA.enc)),(16,.sl 9 (x1.map AE.enc))] [] kr ?_;refine AN (caps:=[]) (xs:=[.sl 9 (x1.map AE.enc)]) (u:=(x1,())) rfl rfl Rz rfl (AB rfl) kr kr (AJ (AQ (c:=(cdL 9 AE)) (v:=x1)) Ah) (.inr kr) hv2 ?_;exact AX AC
 refine AG ?_;obtain ⟨v3,hv3,h⟩:=OB h;refine AL (s1:=⟨Fr 86 [(0,.sl 5 (x0.map AA.enc)),(1,.sl 9 (x1.map AE.enc)),(5,.sl 5 (v1.map AA.enc)),(6,.sl 9 (v2.map AE.enc)),(7,.sl 1 (v3.1.map cdI.enc)),(8,.v (.int .i64 v3.2))],[]⟩) ?_ ?_
 ·refine AD (n:=86) AC 2 [(0,.sl 5 (x0.map AA.enc)),(1,.sl 9 (x1.map AE.enc)),(5,.sl 5 (v1.map AA.enc)),(6,.sl 9 (v2.map AE.enc)),(19,.sl 5 (v1.map AA.enc)),(20,.sl 9 (v2.map AE.enc))] [] kr ?_
  refine AN (caps:=[]) (xs:=[.sl 5 (v1.map AA.enc),.sl 9 (v2.map AE.enc)]) (u:=(v1,v2,())) rfl rfl Wi rfl (AB rfl) kr kr (AJ (AQ (c:=(cdL 5 AA)) (v:=v1)) (AJ (AQ (c:=(cdL 9 AE)) (v:=v2)) Ah)) (.inr kr) hv3 ?_;exact AX AC
 refine AG ?_;obtain ⟨v4,hv4,h⟩:=OB h;refine AL (s1:=⟨Fr 86 [(0,.sl 5 (x0.map AA.enc)),(1,.sl 9 (x1.map AE.enc)),(5,.sl 5 (v1.map AA.enc)),(6,.sl 9 (v2.map AE.enc)),(7,.sl 1 (v3.1.map cdI.enc)),(8,.v (.int .i64 v3.2)),(9,.sl 1 (v4.1.map cdI.enc)),(10,.v (.int .i64 v4.2))],[]⟩) ?_ ?_
 ·refine AD (n:=86) AC 2 [(0,.sl 5 (x0.map AA.enc)),(1,.sl 9 (x1.map AE.enc)),(5,.sl 5 (v1.map AA.enc)),(6,.sl 9 (v2.map AE.enc)),(7,.sl 1 (v3.1.map cdI.enc)),(8,.v (.int .i64 v3.2)),(25,.sl 5 (x0.map AA.enc)),(26,.sl 9 (x1.map AE.enc))] [] kr ?_
  refine AN (caps:=[]) (xs:=[.sl 5 (x0.map AA.enc),.sl 9 (x1.map AE.enc)]) (u:=(x0,x1,())) rfl rfl Wo rfl (AB rfl) kr kr (AJ (AQ (c:=(cdL 5 AA)) (v:=x0)) (AJ (AQ (c:=(cdL 9 AE)) (v:=x1)) Ah)) (.inr kr) hv4 ?_;exact AX AC
 refine AK AC [(0,.sl 5 (x0.map AA.enc)),(1,.sl 9 (x1.map AE.enc)),(5,.sl 5 (v1.map AA.enc)),(6,.sl 9 (v2.map AE.enc)),(7,.sl 1 (v3.1.map cdI.enc)),(8,.v (.int .i64 v3.2)),(9,.sl 1 (v4.1.map cdI.enc)),(10,.v (.int .i64 v4.2)),(11,.e0)] [] ?_;refine AK AC [(0,.sl 5 (x0.map AA.enc)),(1,.sl 9 (x1.map AE.enc)),(5,.sl 5 (v1.map AA.enc)),(6,.sl 9 (v2.map AE.enc)),(7,.sl 1 (v3.1.map cdI.enc)),(8,.v (.int .i64 v3.2)),(9,.sl 1 (v4.1.map cdI.enc)),(10,.v (.int .i64 v4.2)),(11,.e0),(12,.e0),(13,.e0)] [] ?_;refine AG ?_;refine AG ?_;obtain ⟨v5,hv5,h⟩:=OB h;obtain ⟨j7,hj7,h⟩:=OB h;refine AL (s1:=⟨Fr 86 [(0,.sl 5 (x0.map AA.enc)),(1,.sl 9 (x1.map AE.enc)),(5,.sl 5 (v1.map AA.enc)),(6,.sl 9 (v2.map AE.enc)),(7,.sl 1 (v3.1.map cdI.enc)),(8,.v (.int .i64 v3.2)),(9,.sl 1 (v4.1.map cdI.enc)),(10,.v (.int .i64 v4.2)),(11,.e0),(12,.e0),(13,.e0),(36,.v (.bool j7))],[]⟩) ?_ ?_
 ·refine AD (n:=86) AC 1 [(0,.sl 5 (x0.map AA.enc)),(1,.sl 9 (x1.map AE.enc)),(5,.sl 5 (v1.map AA.enc)),(6,.sl 9 (v2.map AE.enc)),(7,.sl 1 (v3.1.map cdI.enc)),(8,.v (.int .i64 v3.2)),(9,.sl 1 (v4.1.map cdI.enc)),(10,.v (.int .i64 v4.2)),(11,.e0),(12,.e0),(13,.e0),(30,.sl 5 (x0.map AA.enc))] [] kr ?_
  refine AN (caps:=[]) (xs:=[.sl 5 (x0.map AA.enc)]) (u:=(x0,())) rfl rfl Vg rfl (AB rfl) kr kr (AJ (AQ (c:=(cdL 5 AA)) (v:=x0)) Ah) (.inl kr) hv5 ?_;refine AD (n:=86) AC 1 [(0,.sl 5 (x0.map AA.enc)),(1,.sl 9 (x1.map AE.enc)),(5,.sl 5 (v1.map AA.enc)),(6,.sl 9 (v2.map AE.enc)),(7,.sl 1 (v3.1.map cdI.enc)),(8,.v (.int .i64 v3.2)),(9,.sl 1 (v4.1.map cdI.enc)),(10,.v (.int .i64 v4.2)),(11,.e0),(12,.e0),(13,.e0),(32,.v (.bool v5))] [] kr ?_;rcases BE v5 with hc33 | hc33
  ·rw [if_pos hc33] at hj7
   rw [hc33];refine AD (n:=86) AC 1 [(0,.sl 5 (x0.map AA.enc)),(1,.sl 9 (x1.map AE.enc)),(5,.sl 5 (v1.map AA.enc)),(6,.sl 9 (v2.map AE.enc)),(7,.sl 1 (v3.1.map cdI.enc)),(8,.v (.int .i64 v3.2)),(9,.sl 1 (v4.1.map cdI.enc)),(10,.v (.int .i64 v4.2)),(11,.e0),(12,.e0),(13,.e0),(32,.v (.bool true)),(33,.sl 9 (x1.map AE.enc))] [] kr ?_;refine AW AC 0 rfl (DW kr rfl (CO (a:= .sl 9 (x1.map AE.enc)) kr (BS (el:=42) kr))) ?_;refine AD (n:=86) AC 2 [(0,.sl 5 (x0.map AA.enc)),(1,.sl 9 (x1.map AE.enc)),(5,.sl 5 (v1.map AA.enc)),(6,.sl 9 (v2.map AE.enc)),(7,.sl 1 (v3.1.map cdI.enc)),(8,.v (.int .i64 v3.2)),(9,.sl 1 (v4.1.map cdI.enc)),(10,.v (.int .i64 v4.2)),(11,.e0),(12,.e0),(13,.e0),(36,.v (.bool (decide ((x1.length:Int)<=64))))] [] kr ?_;have hq:=OI hj7; subst hq;exact AI rfl AM
  ·rw [BV hc33] at hj7
   rw [hc33];refine AD (n:=86) AC 4 [(0,.sl 5 (x0.map AA.enc)),(1,.sl 9 (x1.map AE.enc)),(5,.sl 5 (v1.map AA.enc)),(6,.sl 9 (v2.map AE.enc)),(7,.sl 1 (v3.1.map cdI.enc)),(8,.v (.int .i64 v3.2)),(9,.sl 1 (v4.1.map cdI.enc)),(10,.v (.int .i64 v4.2)),(11,.e0),(12,.e0),(13,.e0),(36,.v (.bool false))] [] kr ?_;have hq:=OI hj7; subst hq;exact AI rfl AM
 obtain ⟨r15,hr15,h⟩:=OB h;refine Fo (P6 x0 x1 v1 v2 v3 v4 j7 _ hr15) ?_;refine AG ?_;obtain ⟨v16,hv16,h⟩:=OB h;obtain ⟨j26,hj26,h⟩:=OB h;refine AL (s1:=⟨Fr 86 [(4,.v (.bool j26))],[]⟩) ?_ ?_
 ·refine AD (n:=86) AC 2 [(0,.sl 5 (x0.map AA.enc)),(1,.sl 9 (x1.map AE.enc)),(5,.sl 5 (v1.map AA.enc)),(6,.sl 9 (v2.map AE.enc)),(8,.v (.int .i64 v3.2)),(10,.v (.int .i64 v4.2)),(11,.sl 1 (r15.1.map (cdL 1 cdI).enc)),(12,.sl 1 (r15.2.1.map cdI.enc)),(13,.sl 1 (r15.2.2.map cdI.enc)),(47,.sl 1 (v3.1.map cdI.enc)),(48,.sl 1 (v4.1.map cdI.enc))] [] kr ?_
  refine AN (caps:=[]) (xs:=[.sl 1 (v3.1.map cdI.enc),.sl 1 (v4.1.map cdI.enc)]) (u:=(v3.1,v4.1,())) rfl rfl Hu rfl (AB rfl) kr kr (AJ (AQ (c:=(cdL 1 cdI)) (v:=v3.1)) (AJ (AQ (c:=(cdL 1 cdI)) (v:=v4.1)) Ah)) (.inl kr) hv16 ?_;refine AD (n:=86) AC 1 [(0,.sl 5 (x0.map AA.enc)),(1,.sl 9 (x1.map AE.enc)),(5,.sl 5 (v1.map AA.enc)),(6,.sl 9 (v2.map AE.enc)),(8,.v (.int .i64 v3.2)),(10,.v (.int .i64 v4.2)),(11,.sl 1 (r15.1.map (cdL 1 cdI).enc)),(12,.sl 1 (r15.2.1.map cdI.enc)),(13,.sl 1 (r15.2.2.map cdI.enc)),(50,.v (.bool v16))] [] kr ?_;rcases BE v16 with hc27 | hc27
  ·rw [if_pos hc27] at hj26
   rw [hc27];refine AD (n:=86) AC 5 [(0,.sl 5 (x0.map AA.enc)),(1,.sl 9 (x1.map AE.enc)),(5,.sl 5 (v1.map AA.enc)),(6,.sl 9 (v2.map AE.enc)),(11,.sl 1 (r15.1.map (cdL 1 cdI).enc)),(12,.sl 1 (r15.2.1.map cdI.enc)),(13,.sl 1 (r15.2.2.map cdI.enc)),(55,.v (.bool (v3.2==v4.2)))] [] kr ?_;rcases BE (v3.2==v4.2) with hc28 | hc28
   ·rw [if_pos hc28] at hj26
    rw [hc28];refine AD (n:=86) AC 2 [(0,.sl 5 (x0.map AA.enc)),(1,.sl 9 (x1.map AE.enc)),(5,.sl 5 (v1.map AA.enc)),(6,.sl 9 (v2.map AE.enc)),(11,.sl 1 (r15.1.map (cdL 1 cdI).enc)),(12,.sl 1 (r15.2.1.map cdI.enc)),(13,.sl 1 (r15.2.2.map cdI.enc)),(55,.v (.bool true)),(56,.sl 5 (v1.map AA.enc)),(57,.sl 9 (v2.map AE.enc))] [] kr ?_;obtain ⟨v17,hv17,hj26⟩:=OB hj26;refine AN (caps:=[]) (xs:=[.sl 5 (v1.map AA.enc),.sl 9 (v2.map AE.enc)]) (u:=(v1,v2,())) rfl rfl M9 rfl kr kr kr (AJ (AQ (c:=(cdL 5 AA)) (v:=v1)) (AJ (AQ (c:=(cdL 9 AE)) (v:=v2)) Ah)) (.inr kr) hv17 ?_;refine AD (n:=86) AC 1 [(0,.sl 5 (x0.map AA.enc)),(1,.sl 9 (x1.map AE.enc)),(5,.sl 5 (v1.map AA.enc)),(6,.sl 9 (v2.map AE.enc)),(12,.sl 1 (r15.2.1.map cdI.enc)),(13,.sl 1 (r15.2.2.map cdI.enc)),(55,.v (.bool true)),(58,.sl 1 (v17.map (cdL 1 cdI).enc)),(59,.sl 1 (r15.1.map (cdL 1 cdI).enc))] [] kr ?_;obtain ⟨v18,hv18,hj26⟩:=OB hj26;refine AN (caps:=[]) (xs:=[.sl 1 (v17.map (cdL 1 cdI).enc),.sl 1 (r15.1.map (cdL 1 cdI).enc)]) (u:=(v17,r15.1,())) rfl rfl Tl rfl kr kr kr (AJ (AQ (c:=(cdL 1 (cdL 1 cdI))) (v:=v17)) (AJ (AQ (c:=(cdL 1 (cdL 1 cdI))) (v:=r15.1)) Ah)) (.inl kr) hv18 ?_;refine AD (n:=86) AC 2 [(0,.sl 5 (x0.map AA.enc)),(1,.sl 9 (x1.map AE.enc)),(5,.sl 5 (v1.map AA.enc)),(6,.sl 9 (v2.map AE.enc)),(12,.sl 1 (r15.2.1.map cdI.enc)),(13,.sl 1 (r15.2.2.map cdI.enc)),(62,.v (.bool v18))] [] kr ?_;rcases BE v18 with hc29 | hc29
    ·rw [if_pos hc29] at hj26
     rw [hc29];refine AD (n:=86) AC 2 [(0,.sl 5 (x0.map AA.enc)),(1,.sl 9 (x1.map AE.enc)),(5,.sl 5 (v1.map AA.enc)),(6,.sl 9 (v2.map AE.enc)),(12,.sl 1 (r15.2.1.map cdI.enc)),(13,.sl 1 (r15.2.2.map cdI.enc)),(62,.v (.bool true)),(63,.sl 5 (v1.map AA.enc)),(64,.sl 9 (v2.map AE.enc))] [] kr ?_;obtain ⟨v19,hv19,hj26⟩:=OB hj26;refine AN (caps:=[]) (xs:=[.sl 5 (v1.map AA.enc),.sl 9 (v2.map AE.enc)]) (u:=(v1,v2,())) rfl rfl Vc rfl kr kr kr (AJ (AQ (c:=(cdL 5 AA)) (v:=v1)) (AJ (AQ (c:=(cdL 9 AE)) (v:=v2)) Ah)) (.inr kr) hv19 ?_;refine AD (n:=86) AC 1 [(0,.sl 5 (x0.map AA.enc)),(1,.sl 9 (x1.map AE.enc)),(5,.sl 5 (v1.map AA.enc)),(6,.sl 9 (v2.map AE.enc)),(13,.sl 1 (r15.2.2.map cdI.enc)),(62,.v (.bool true)),(65,.sl 1 (v19.map cdI.enc)),(66,.sl 1 (r15.2.1.map cdI.enc))] [] kr ?_;obtain ⟨v20,hv20,hj26⟩:=OB hj26;refine AN (caps:=[]) (xs:=[.sl 1 (v19.map cdI.enc),.sl 1 (r15.2.1.map cdI.enc)]) (u:=(v19,r15.2.1,())) rfl rfl Hu rfl kr kr kr (AJ (AQ (c:=(cdL 1 cdI)) (v:=v19)) (AJ (AQ (c:=(cdL 1 cdI)) (v:=r15.2.1)) Ah)) (.inl kr) hv20 ?_;refine AD (n:=86) AC 2 [(0,.sl 5 (x0.map AA.enc)),(1,.sl 9 (x1.map AE.enc)),(5,.sl 5 (v1.map AA.enc)),(6,.sl 9 (v2.map AE.enc)),(13,.sl 1 (r15.2.2.map cdI.enc)),(69,.v (.bool v20))] [] kr ?_;rcases BE v20 with hc30 | hc30
     ·rw [if_pos hc30] at hj26
      rw [hc30];refine AD (n:=86) AC 2 [(0,.sl 5 (x0.map AA.enc)),(1,.sl 9 (x1.map AE.enc)),(5,.sl 5 (v1.map AA.enc)),(6,.sl 9 (v2.map AE.enc)),(13,.sl 1 (r15.2.2.map cdI.enc)),(69,.v (.bool true)),(70,.sl 5 (v1.map AA.enc)),(71,.sl 9 (v2.map AE.enc))] [] kr ?_;obtain ⟨v21,hv21,hj26⟩:=OB hj26;refine AN (caps:=[]) (xs:=[.sl 5 (v1.map AA.enc),.sl 9 (v2.map AE.enc)]) (u:=(v1,v2,())) rfl rfl Ry rfl kr kr kr (AJ (AQ (c:=(cdL 5 AA)) (v:=v1)) (AJ (AQ (c:=(cdL 9 AE)) (v:=v2)) Ah)) (.inr kr) hv21 ?_;refine AD (n:=86) AC 1 [(0,.sl 5 (x0.map AA.enc)),(1,.sl 9 (x1.map AE.enc)),(5,.sl 5 (v1.map AA.enc)),(6,.sl 9 (v2.map AE.enc)),(69,.v (.bool true)),(72,.sl 1 (v21.map cdI.enc)),(73,.sl 1 (r15.2.2.map cdI.enc))] [] kr ?_;obtain ⟨v22,hv22,hj26⟩:=OB hj26;refine AN (caps:=[]) (xs:=[.sl 1 (v21.map cdI.enc),.sl 1 (r15.2.2.map cdI.enc)]) (u:=(v21,r15.2.2,())) rfl rfl Hu rfl kr kr kr (AJ (AQ (c:=(cdL 1 cdI)) (v:=v21)) (AJ (AQ (c:=(cdL 1 cdI)) (v:=r15.2.2)) Ah)) (.inl kr) hv22 ?_;refine AD (n:=86) AC 2 [(0,.sl 5 (x0.map AA.enc)),(1,.sl 9 (x1.map AE.enc)),(5,.sl 5 (v1.map AA.enc)),(6,.sl 9 (v2.map AE.enc)),(76,.v (.bool v22))] [] kr ?_;rcases BE v22 with hc31 | hc31
      ·rw [if_pos hc31] at hj26
       rw [hc31];refine AD (n:=86) AC 2 [(1,.sl 9 (x1.map AE.enc)),(6,.sl 9 (v2.map AE.enc)),(76,.v (.bool true)),(77,.sl 5 (v1.map AA.enc)),(78,.sl 5 (x0.map AA.enc))] [] kr ?_;obtain ⟨v23,hv23,hj26⟩:=OB hj26;refine AN (caps:=[]) (xs:=[.sl 5 (v1.map AA.enc),.sl 5 (x0.map AA.enc)]) (u:=(v1,x0,())) rfl rfl Wm rfl kr kr kr (AJ (AQ (c:=(cdL 5 AA)) (v:=v1)) (AJ (AQ (c:=(cdL 5 AA)) (v:=x0)) Ah)) (.inl kr) hv23 ?_;refine AD (n:=86) AC 2 [(1,.sl 9 (x1.map AE.enc)),(6,.sl 9 (v2.map AE.enc)),(81,.v (.bool v23))] [] kr ?_;rcases BE v23 with hc32 | hc32
       ·rw [if_pos hc32] at hj26
        rw [hc32];refine AD (n:=86) AC 2 [(81,.v (.bool true)),(82,.sl 9 (v2.map AE.enc)),(83,.sl 9 (x1.map AE.enc))] [] kr ?_;obtain ⟨v24,hv24,hj26⟩:=OB hj26;refine AN (caps:=[]) (xs:=[.sl 9 (v2.map AE.enc),.sl 9 (x1.map AE.enc)]) (u:=(v2,x1,())) rfl rfl R4 rfl kr kr kr (AJ (AQ (c:=(cdL 9 AE)) (v:=v2)) (AJ (AQ (c:=(cdL 9 AE)) (v:=x1)) Ah)) (.inl kr) hv24 ?_;refine AD (n:=86) AC 2 [(4,.v (.bool v24))] [] kr ?_;have hq:=OI hj26; subst hq;exact AI rfl AM
       ·rw [BV hc32] at hj26
        rw [hc32];refine AD (n:=86) AC 5 [(4,.v (.bool false))] [] kr ?_;have hq:=OI hj26; subst hq;exact AI rfl AM
      ·rw [BV hc31] at hj26
       rw [hc31];refine AD (n:=86) AC 10 [(4,.v (.bool false))] [] kr ?_;have hq:=OI hj26; subst hq;exact AI rfl AM
     ·rw [BV hc30] at hj26
      rw [hc30];refine AD (n:=86) AC 17 [(4,.v (.bool false))] [] kr ?_;have hq:=OI hj26; subst hq;exact AI rfl AM
    ·rw [BV hc29] at hj26
     rw [hc29];refine AD (n:=86) AC 24 [(4,.v (.bool false))] [] kr ?_;have hq:=OI hj26; subst hq;exact AI rfl AM
   ·rw [BV hc28] at hj26
    rw [hc28];refine AD (n:=86) AC 31 [(4,.v (.bool false))] [] kr ?_;have hq:=OI hj26; subst hq;exact AI rfl AM
  ·rw [BV hc27] at hj26
   rw [hc27];refine AD (n:=86) AC 36 [(4,.v (.bool false))] [] kr ?_;have hq:=OI hj26; subst hq;exact AI rfl AM
 refine AO ?_;have hq:=OI h; subst hq;exact ⟨⟨Fr 86 [(4,.v (.bool j26))],[]⟩,AM,.inr rfl,[.v (.bool j26)],kr,kr⟩
def T9:List AV->Option AV:=Dm Ku (fun a=>F4 a.1 a.2.1) K4
theorem PE:XOk 17 T9:=by
 refine AR Tryz.func17 (c:=Kj) ?h2 ⟨Tryz.call17⟩ Ku (fun a=>F4 a.1 a.2.1) K4 (fun a=>(by show 2<=86; decide)) ?h3 ?h4
 case h2=>kernel_rfl
 case h3=>intro b; kernel_rfl
 case h4=>exact fun a b h=>Rj a.1 a.2.1 b h
/- trestle/trestlelaw03.CourtOrders -/
noncomputable def KQ:Code:=A9 Tryz.f3
def ET (x0:(List AH)) (x1:(List Af)):Option (Bool) :=
 (LC x0).bind fun v1 =>
 (if (!v1)=true then H9.bind fun v2 =>
 some v2 else if (decide ((x1.length:Int)<=64))=true then (Fe x1 12).bind fun v3 =>
 if (!v3)=true then H9.bind fun v4 =>
 some v4 else if (decide ((x1.length:Int) > 70))=true then H9.bind fun v5 =>
 some v5 else (F4 x0 x1).bind fun v6 =>
 if v6=true then H9.bind fun v7 =>
 some v7 else some false else if (decide ((x1.length:Int) > 70))=true then H9.bind fun v8 =>
 some v8 else (F4 x0 x1).bind fun v9 =>
 if v9=true then H9.bind fun v10 =>
 some v10 else some false).bind fun j12 =>
 some j12
def FE:Cs ((List AH)×(List Af)×Unit):=(csC (cdL 5 AA) (csC (cdL 9 AE) csN))
def GT (r:Bool):AV:=cdB.enc r
theorem N8 (x0:(List AH)) (x1:(List Af)) (r:Bool) (h:ET x0 x1=some r):Sem E0 ⟨none,false⟩ KQ ⟨Fr 31 (A0 0 (FE.enc (x0,x1,()))),[]⟩ fun e s'=>(e = .normal\/e = .ret)/\∃ xs,Dz E0.P s'.fr s'.hp Tryz.f3.results.toList=some xs/\D0 xs=GT r:=by
 unfold ET at h;refine Ao (BL (s1:=⟨Fr 31 [(0,.sl 5 (x0.map AA.enc)),(1,.sl 9 (x1.map AE.enc))],[]⟩) AM ?_);refine AK AC [(0,.sl 5 (x0.map AA.enc)),(1,.sl 9 (x1.map AE.enc))] [] ?_;refine AG ?_;obtain ⟨v1,hv1,h⟩:=OB h;obtain ⟨j12,hj12,h⟩:=OB h;refine AL (s1:=⟨Fr 31 [(4,.v (.bool j12))],[]⟩) ?_ ?_
 ·refine AD (n:=31) AC 1 [(0,.sl 5 (x0.map AA.enc)),(1,.sl 9 (x1.map AE.enc)),(5,.sl 5 (x0.map AA.enc))] [] kr ?_
  refine AN (caps:=[]) (xs:=[.sl 5 (x0.map AA.enc)]) (u:=(x0,())) rfl rfl Xf rfl (AB rfl) kr kr (AJ (AQ (c:=(cdL 5 AA)) (v:=x0)) Ah) (.inl kr) hv1 ?_;refine AD (n:=31) AC 2 [(0,.sl 5 (x0.map AA.enc)),(1,.sl 9 (x1.map AE.enc)),(8,.v (.bool (!v1)))] [] kr ?_;rcases BE (!v1) with hc13 | hc13
  ·rw [if_pos hc13] at hj12
   rw [hc13];refine AD (n:=31) AC 20 [(28,.v (.bool true))] [] kr ?_;obtain ⟨v2,hv2,hj12⟩:=OB hj12;refine AN (caps:=[]) (xs:=[]) (u:=(())) rfl rfl Ho rfl kr kr kr Ah (.inl kr) hv2 ?_;refine AD (n:=31) AC 2 [(4,.v (.bool v2))] [] kr ?_;have hq:=OI hj12; subst hq;exact AI rfl AM
  ·rw [BV hc13] at hj12
   rw [hc13];refine AD (n:=31) AC 1 [(0,.sl 5 (x0.map AA.enc)),(1,.sl 9 (x1.map AE.enc)),(8,.v (.bool false)),(9,.sl 9 (x1.map AE.enc))] [] kr ?_;refine AW AC 0 rfl (DW kr rfl (CO (a:= .sl 9 (x1.map AE.enc)) kr (BS (el:=42) kr))) ?_;refine AD (n:=31) AC 2 [(0,.sl 5 (x0.map AA.enc)),(1,.sl 9 (x1.map AE.enc)),(8,.v (.bool false)),(12,.v (.bool (decide ((x1.length:Int)<=64))))] [] kr ?_;rcases BE (decide ((x1.length:Int)<=64)) with hc14 | hc14
   ·rw [if_pos hc14] at hj12
    rw [hc14];refine AD (n:=31) AC 1 [(0,.sl 5 (x0.map AA.enc)),(1,.sl 9 (x1.map AE.enc)),(8,.v (.bool false)),(12,.v (.bool true)),(13,.sl 9 (x1.map AE.enc))] [] kr ?_;obtain ⟨v3,hv3,hj12⟩:=OB hj12;refine AN (caps:=[]) (xs:=[.sl 9 (x1.map AE.enc),.v (.int .i64 12)]) (u:=(x1,12,())) rfl rfl RL rfl kr kr kr (AJ (AQ (c:=(cdL 9 AE)) (v:=x1)) (AJ (AQ (c:=cdI) (v:=12)) Ah)) (.inl kr) hv3 ?_;refine AD (n:=31) AC 4 [(0,.sl 5 (x0.map AA.enc)),(1,.sl 9 (x1.map AE.enc)),(18,.v (.bool (!v3)))] [] kr ?_;rcases BE (!v3) with hc15 | hc15
    ·rw [if_pos hc15] at hj12
     rw [hc15];refine AD (n:=31) AC 10 [(28,.v (.bool true))] [] kr ?_;obtain ⟨v4,hv4,hj12⟩:=OB hj12;refine AN (caps:=[]) (xs:=[]) (u:=(())) rfl rfl Ho rfl kr kr kr Ah (.inl kr) hv4 ?_;refine AD (n:=31) AC 2 [(4,.v (.bool v4))] [] kr ?_;have hq:=OI hj12; subst hq;exact AI rfl AM
    ·rw [BV hc15] at hj12
     rw [hc15];refine AD (n:=31) AC 1 [(0,.sl 5 (x0.map AA.enc)),(1,.sl 9 (x1.map AE.enc)),(18,.v (.bool false)),(19,.sl 9 (x1.map AE.enc))] [] kr ?_;refine AW AC 0 rfl (DW kr rfl (CO (a:= .sl 9 (x1.map AE.enc)) kr (BS (el:=42) kr))) ?_;refine AD (n:=31) AC 3 [(0,.sl 5 (x0.map AA.enc)),(1,.sl 9 (x1.map AE.enc)),(23,.v (.bool (decide ((x1.length:Int) > 70))))] [] kr ?_;rcases BE (decide ((x1.length:Int) > 70)) with hc16 | hc16
     ·rw [if_pos hc16] at hj12
      rw [hc16];refine AD (n:=31) AC 5 [(28,.v (.bool true))] [] kr ?_;obtain ⟨v5,hv5,hj12⟩:=OB hj12;refine AN (caps:=[]) (xs:=[]) (u:=(())) rfl rfl Ho rfl kr kr kr Ah (.inl kr) hv5 ?_;refine AD (n:=31) AC 2 [(4,.v (.bool v5))] [] kr ?_;have hq:=OI hj12; subst hq;exact AI rfl AM
     ·rw [BV hc16] at hj12
      rw [hc16];refine AD (n:=31) AC 2 [(23,.v (.bool false)),(24,.sl 5 (x0.map AA.enc)),(25,.sl 9 (x1.map AE.enc))] [] kr ?_;obtain ⟨v6,hv6,hj12⟩:=OB hj12;refine AN (caps:=[]) (xs:=[.sl 5 (x0.map AA.enc),.sl 9 (x1.map AE.enc)]) (u:=(x0,x1,())) rfl rfl PE rfl kr kr kr (AJ (AQ (c:=(cdL 5 AA)) (v:=x0)) (AJ (AQ (c:=(cdL 9 AE)) (v:=x1)) Ah)) (.inl kr) hv6 ?_;refine AD (n:=31) AC 2 [(28,.v (.bool v6))] [] kr ?_;rcases BE v6 with hc17 | hc17
      ·rw [if_pos hc17] at hj12
       rw [hc17];obtain ⟨v7,hv7,hj12⟩:=OB hj12;refine AN (caps:=[]) (xs:=[]) (u:=(())) rfl rfl Ho rfl kr kr kr Ah (.inl kr) hv7 ?_;refine AD (n:=31) AC 2 [(4,.v (.bool v7))] [] kr ?_;have hq:=OI hj12; subst hq;exact AI rfl AM
      ·rw [BV hc17] at hj12
       rw [hc17];refine AD (n:=31) AC 3 [(4,.v (.bool false))] [] kr ?_;have hq:=OI hj12; subst hq;exact AI rfl AM
   ·rw [BV hc14] at hj12
    rw [hc14];refine AD (n:=31) AC 7 [(0,.sl 5 (x0.map AA.enc)),(1,.sl 9 (x1.map AE.enc)),(18,.v (.bool false)),(19,.sl 9 (x1.map AE.enc))] [] kr ?_;refine AW AC 0 rfl (DW kr rfl (CO (a:= .sl 9 (x1.map AE.enc)) kr (BS (el:=42) kr))) ?_;refine AD (n:=31) AC 3 [(0,.sl 5 (x0.map AA.enc)),(1,.sl 9 (x1.map AE.enc)),(23,.v (.bool (decide ((x1.length:Int) > 70))))] [] kr ?_;rcases BE (decide ((x1.length:Int) > 70)) with hc18 | hc18
    ·rw [if_pos hc18] at hj12
     rw [hc18];refine AD (n:=31) AC 5 [(28,.v (.bool true))] [] kr ?_;obtain ⟨v8,hv8,hj12⟩:=OB hj12;refine AN (caps:=[]) (xs:=[]) (u:=(())) rfl rfl Ho rfl kr kr kr Ah (.inl kr) hv8 ?_;refine AD (n:=31) AC 2 [(4,.v (.bool v8))] [] kr ?_;have hq:=OI hj12; subst hq;exact AI rfl AM
    ·rw [BV hc18] at hj12
     rw [hc18];refine AD (n:=31) AC 2 [(23,.v (.bool false)),(24,.sl 5 (x0.map AA.enc)),(25,.sl 9 (x1.map AE.enc))] [] kr ?_;obtain ⟨v9,hv9,hj12⟩:=OB hj12;refine AN (caps:=[]) (xs:=[.sl 5 (x0.map AA.enc),.sl 9 (x1.map AE.enc)]) (u:=(x0,x1,())) rfl rfl PE rfl kr kr kr (AJ (AQ (c:=(cdL 5 AA)) (v:=x0)) (AJ (AQ (c:=(cdL 9 AE)) (v:=x1)) Ah)) (.inl kr) hv9 ?_;refine AD (n:=31) AC 2 [(28,.v (.bool v9))] [] kr ?_;rcases BE v9 with hc19 | hc19
     ·rw [if_pos hc19] at hj12
      rw [hc19];obtain ⟨v10,hv10,hj12⟩:=OB hj12;refine AN (caps:=[]) (xs:=[]) (u:=(())) rfl rfl Ho rfl kr kr kr Ah (.inl kr) hv10 ?_;refine AD (n:=31) AC 2 [(4,.v (.bool v10))] [] kr ?_;have hq:=OI hj12; subst hq;exact AI rfl AM
     ·rw [BV hc19] at hj12
      rw [hc19];refine AD (n:=31) AC 3 [(4,.v (.bool false))] [] kr ?_;have hq:=OI hj12; subst hq;exact AI rfl AM
 refine AO ?_;have hq:=OI h; subst hq;exact ⟨⟨Fr 31 [(4,.v (.bool j12))],[]⟩,AM,.inr rfl,[.v (.bool j12)],kr,kr⟩
def PX:List AV->Option AV:=Dm FE (fun a=>ET a.1 a.2.1) GT
theorem Pa:XOk 3 PX:=by
 refine AR Tryz.func3 (c:=KQ) ?h2 ⟨Tryz.call3⟩ FE (fun a=>ET a.1 a.2.1) GT (fun a=>(by show 2<=31; decide)) ?h3 ?h4
 case h2=>kernel_rfl
 case h3=>intro b; kernel_rfl
 case h4=>exact fun a b h=>N8 a.1 a.2.1 b h
theorem YK {n:Int}(h1 : -9223372036854775808<=n) (h2:n<=9223372036854775807):wr .i64 n=n:=by
 show (if _ then n else _)=n
 rw [if_pos ⟨h1,h2⟩]
theorem Dy {α:Type}(pre:List α) (v:α) (r:List α):idx (pre++v::r) (pre.length:Int)=some v:=by
 unfold idx
 rw [if_pos (by omega)]
 simp
theorem O6 {α:Type}{xs:List α}{i:Nat}(h:i < xs.length):idx xs (i:Int)=some xs[i]:=by
 unfold idx
 rw [if_pos (by omega)]
 simp [h]
theorem Gf {α:Type}(pre:List α) (v:α) (r:List α) (h:(pre++v::r).length<=1000000000):wr .i64 ((pre.length:Int) + 1)=((pre++[v]).length:Int):=by
 simp at h
 rw [YK (by omega) (by omega)]; simp
theorem In {α:Type}(pre:List α) (v:α) (r:List α):decide ((pre.length:Int) < ((pre++v::r).length:Int))=true:=by
 simp; omega
theorem ACn {α:Type}(pre:List α):decide ((pre.length:Int) < ((pre++[]).length:Int))=false:=by simp
theorem FI {b n:Nat}(hb:b<=1000) (h:n<=1000000000):EC b n=true:=by
 have h1:n * b<=1000000000 * 1000:=Nat.mul_le_mul h hb
 unfold EC
 rw [Bool.and_eq_true]
 exact ⟨Nat.ble_eq_true_of_le (by omega),Nat.ble_eq_true_of_le (by omega)⟩
/-- A loop over a list: v, its index, the rest. -/
def goU {α ρ:Type}(B:α->Nat->Option ρ->Option ρ) (D:Option ρ):List α->Nat->Option ρ
 | [],_=>D
 | v::r,i=>B v i (goU B D r (i + 1))
theorem AEJ {α ρ:Type}(xs:List α) (L:Nat->Int->Option ρ) (B:α->Nat->Option ρ->Option ρ) (D:Option ρ)
  (hs:∀ f (pre:List α) v r,xs=pre++v::r->L (f + 1) (pre.length:Int)=B v pre.length (L f (((pre++[v]).length:Nat):Int))) (hd:∀ f,L (f + 1) (xs.length:Int)=D) :
  ∀ (r pre:List α) (f:Nat),xs=pre++r->r.length < f->L f (pre.length:Int)=goU B D r pre.length
 | [],pre,f + 1,hx,_=>by
  rw [show pre.length=xs.length by rw [hx]; simp]
  exact hd f
 | v::r,pre,f + 1,hx,hf=>by
  rw [hs f pre v r hx]
  have:=AEJ xs L B D hs hd r (pre++[v]) f (by rw [hx]; simp) (by simp at hf; omega)
  rw [this]
  show B v pre.length _=B v pre.length _
  congr 1
  simp
theorem LD {α ρ:Type}(xs:List α) (L:Nat->Int->Option ρ) (B:α->Nat->Option ρ->Option ρ) (D:Option ρ) (f:Nat) (hf:xs.length < f)
  (hs:∀ f (pre:List α) v r,xs=pre++v::r->L (f + 1) (pre.length:Int)=B v pre.length (L f (((pre++[v]).length:Nat):Int))) (hd:∀ f,L (f + 1) (xs.length:Int)=D):L f 0=goU B D xs 0 :=
 AEJ xs L B D hs hd xs [] f rfl hf
/-- .. as it is printed. -/
theorem AFa {α ρ:Type}(xs:List α) (L:Nat->Int->Option ρ) (B:α->Nat->Option ρ->Option ρ) (D:Option ρ) (f:Nat) (hf:xs.length < f) (hx:xs.length<=1000000)
  (h:∀ f c,L (f + 1) c=if decide (c < (xs.length:Int))=true then (idx xs c).bind fun v=>B v c.toNat (L f (wr .i64 (c + 1))) else D):L f 0=goU B D xs 0 :=
 LD xs L B D f hf (fun f pre v r e=>by
  subst e
  rw [h,if_pos (In pre v r),Dy,OS,Gf pre v r (by omega),Int.toNat_natCast]) (fun f=>by rw [h,if_neg (by simp)])
/-- The first that meets a test. -/
theorem ZZ {α:Type}(P:α->Option Bool) (p:α->Bool):∀ (xs:List α) (i:Nat),(∀ x ∈ xs,P x=some (p x))->∃ r:Unit ⊕ Int,goU (fun v i k=>(P v).bind fun b=>if b=true then some (.inr (i:Int)) else k) (some (.inl ())) xs i=some r/\(match r with | .inl _=>xs.any p=false | .inr n=>xs.any p=true/\0<=n)
 | [],i,_=>⟨.inl (),rfl,rfl⟩
 | x::xs,i,h=>by
  unfold goU
  rw [h x (by simp),OS]
  cases hp:p x with
  | true=>exact ⟨.inr i,by simp,by simp [hp]⟩
  | false =>
   obtain ⟨r,h1,h2⟩:=ZZ P p xs (i + 1) fun y hy=>h y (List.mem_cons_of_mem _ hy)
   refine ⟨r,by simpa using h1,?_⟩
   cases r with
   | inl u=>simpa [hp] using h2
   | inr n=>simpa [hp] using h2
/-- slices.IndexFunc and slices.ContainsFunc. -/
theorem RN {α:Type}(xs:List α) (hx:xs.length<=99999) (P:α->Option Bool) (p:α->Bool) (hP:∀ x ∈ xs,P x=some (p x)) (L:Nat->Int->Option (Unit ⊕ Int))
  (h:∀ f c,L (f + 1) c=if decide (c < (xs.length:Int))=true then (idx xs c).bind fun v=>(P v).bind fun b=>if b=true then some (.inr c) else L f (wr .i64 (c + 1)) else some (.inl ())) :
  ∃ n,((L 100000 0).bind fun r=>match r with | .inl _=>some (-1) | .inr w=>some w)=some n/\decide (n≥0)=xs.any p:=by
 have e:=LD xs L (fun v i k=>(P v).bind fun b=>if b=true then some (.inr (i:Int)) else k) (some (.inl ())) 100000 (by omega) (fun f pre v r e=>by
  subst e
  rw [h,if_pos (In pre v r),Dy,OS,Gf pre v r (by omega)]) (fun f=>by rw [h,if_neg (by simp)])
 obtain ⟨r,h1,h2⟩:=ZZ P p xs 0 hP
 rw [e,h1]
 cases r with
 | inl u=>exact ⟨-1,rfl,by rw [h2]; rfl⟩
 | inr n=>exact ⟨n,rfl,by rw [h2.1]; simpa using h2.2⟩
/-- Two lists side by side. -/
def go2 {α β ρ:Type}(B:α->β->Option ρ->Option ρ) (D:Option ρ):List α->List β->Option ρ
 | v::r,u::q=>B v u (go2 B D r q)
 | _,_=>D
theorem AEI {α β ρ:Type}(L:Nat->Int->Option ρ) (B:α->β->Option ρ->Option ρ) (D:Option ρ) (xs:List α) (ys:List β) (hl:xs.length=ys.length) (hx:xs.length<=1000000)
  (h:∀ f c,L (f + 1) c=if decide (c < (xs.length:Int))=true then (idx xs c).bind fun v=>(idx ys c).bind fun u=>B v u (L f (wr .i64 (c + 1))) else D) :
  ∀ (r:List α) (q:List β) (pre:List α) (pre':List β) (f:Nat),xs=pre++r->ys=pre'++q->pre.length=pre'.length->r.length < f->L f (pre.length:Int)=go2 B D r q
 | [],q,pre,pre',f + 1,e1,e2,e3,_=>by
  have:q=[]:=by
   have:xs.length=pre.length:=by rw [e1]; simp
   have h2:ys.length=pre'.length + q.length:=by rw [e2]; simp
   exact List.eq_nil_of_length_eq_zero (by omega)
  subst this
  subst e1
  rw [h,ACn]
  rfl
 | v::r,[],pre,pre',f + 1,e1,e2,e3,_=>by
  exfalso
  have h1:xs.length=pre.length + (r.length + 1):=by rw [e1]; simp
  have h2:ys.length=pre'.length:=by rw [e2]; simp
  omega
 | v::r,u::q,pre,pre',f + 1,e1,e2,e3,hf=>by
  have ih:=AEI L B D xs ys hl hx h r q (pre++[v]) (pre'++[u]) f (by rw [e1]; simp) (by rw [e2]; simp) (by simp [e3]) (by simp at hf; omega)
  have k1:idx xs (pre.length:Int)=some v:=by rw [e1,Dy]
  have k2:idx ys (pre.length:Int)=some u:=by rw [e2,e3,Dy]
  have k3:decide ((pre.length:Int) < (xs.length:Int))=true:=by rw [e1]; exact In pre v r
  have k4:wr .i64 ((pre.length:Int) + 1)=((pre++[v]).length:Int):=Gf pre v r (by rw [<-e1]; omega)
  rw [h,if_pos k3,k1,OS,k2,OS,k4,ih]
  rfl
theorem ZY {α β:Type}(P:α->β->Option Bool) (p:α->β->Bool):∀ (xs:List α) (ys:List β),(∀ x ∈ xs,∀ y ∈ ys,P x y=some (p x y))->xs.length=ys.length ->
  go2 (fun v u k=>(P v u).bind fun b=>if (!b)=true then some (Sum.inr false) else k) (some (Sum.inl ())) xs ys=some (if (xs.zip ys).all (fun x=>p x.1 x.2) then Sum.inl () else Sum.inr false)
 | [],[],_,_=>rfl
 | x::xs,y::ys,h,hl=>by
  unfold go2
  rw [h x (by simp) y (by simp),OS,ZY P p xs ys (fun a ha b hb=>h a (List.mem_cons_of_mem _ ha) b (List.mem_cons_of_mem _ hb)) (by simpa using hl)]
  rw [List.zip_cons_cons,List.all_cons]
  show (if (!p x y)=true then _ else _)=some (if (p x y&&_)=true then _ else _)
  cases p x y <;> rfl
 | [],_::_,_,hl=>by simp at hl
 | _::_,[],_,hl=>by simp at hl
/-- slices.EqualFunc. -/
theorem Y7 {α β:Type}(xs:List α) (ys:List β) (hx:xs.length<=99999) (P:α->β->Option Bool) (p:α->β->Bool) (hP:∀ x ∈ xs,∀ y ∈ ys,P x y=some (p x y)) (L:Nat->Int->Option (Unit ⊕ Bool))
  (h:∀ f c,L (f + 1) c=if decide (c < (xs.length:Int))=true then (idx xs c).bind fun v=>(idx ys c).bind fun u=>(P v u).bind fun b=>if (!b)=true then some (.inr false) else L f (wr .i64 (c + 1)) else some (.inl ())) :
  (if ((xs.length:Int)!=(ys.length:Int))=true then some false else (L 100000 0).bind fun r=>match r with | .inl _=>some true | .inr w=>some w)=some (decide (xs.length=ys.length)&&(xs.zip ys).all fun x=>p x.1 x.2):=by
 by_cases hl:xs.length=ys.length
 ·rw [if_neg (by simp [hl])]
  have e:=AEI L (fun v u k=>(P v u).bind fun b=>if (!b)=true then some (Sum.inr false) else k) (some (Sum.inl ())) xs ys hl (by omega) h xs ys [] [] 100000 rfl rfl rfl (by omega)
  have e0:L 100000 (([]:List α).length:Int)=L 100000 0:=rfl
  rw [<-e0,e,ZY P p xs ys hP hl]
  cases hq:(xs.zip ys).all (fun x=>p x.1 x.2) <;> simp [hl]
 ·rw [if_pos (by simp; omega)]
  simp [hl]
theorem RM {α:Type} [DecidableEq α] {p:α->α->Bool}(hp:∀ a b,p a b=decide (a=b)):∀ (xs ys:List α),(decide (xs.length=ys.length)&&(xs.zip ys).all fun x=>p x.1 x.2)=decide (xs=ys)
 | [],[]=>rfl
 | x::xs,y::ys=>by
  have ih:=RM hp xs ys
  simp only [List.length_cons,Nat.add_right_cancel_iff,List.zip_cons_cons,List.all_cons,List.cons.injEq,hp]
  simp only [hp] at ih
  by_cases h1:x=y
  ·subst h1; simpa using ih
  ·simp [h1]
 | [],_::_=>by simp
 | _::_,[]=>by simp
/-- slices.Equal. -/
theorem ADt {α:Type} [DecidableEq α] [BEq α] [LawfulBEq α] (xs ys:List α) (hx:xs.length<=99999) (L:Nat->Int->Option (Unit ⊕ Bool))
  (h:∀ f c,L (f + 1) c=if decide (c < (xs.length:Int))=true then (idx xs c).bind fun v=>(idx ys c).bind fun u=>if (v != u)=true then some (.inr false) else L f (wr .i64 (c + 1)) else some (.inl ())) :
  (if ((xs.length:Int)!=(ys.length:Int))=true then some false else (L 100000 0).bind fun r=>match r with | .inl _=>some true | .inr w=>some w)=some (decide (xs=ys)):=by
 rw [Y7 xs ys hx (fun v u=>some (v==u)) (fun v u=>v==u) (fun _ _ _ _=>rfl) L (fun f c=>by rw [h]; rfl),RM (fun a b=>by by_cases h:a=b <;> simp [h])]
def ZT (x:AH):Prop:=x.2.1.length<=40/\x.2.2.2.1.length<=20/\∀ s ∈ x.2.2.2.1,s.length<=40
def few (c:List AH):Prop:=c.length<=40/\∀ x ∈ c,ZT x
theorem ZU (l:List (List UInt8)) (h:l.length<=99999):Av l=some (l.any fun s=>decide ((s.length:Int) > 40)):=by
 unfold Av BJ
 obtain ⟨n,h1,h2⟩:=RN l h Hm (fun s=>decide ((s.length:Int) > 40)) (fun x _=>rfl) (BP l) (fun f c=>rfl)
 rw [<-h2]
 exact (congrArg (fun o=>o.bind fun v1=>some (decide (v1≥0))) h1)
def ACI (x:AH):Bool:=decide ((x.2.1.length:Int) > 40)||decide ((x.2.2.2.1.length:Int) > 20)||x.2.2.2.1.any fun s=>decide ((s.length:Int) > 40)
theorem AFO (x:AH):HW x=some (ACI x):=by
 unfold HW ACI
 by_cases h1:(x.2.1.length:Int) > 40
 ·simp [h1]
 ·by_cases h2:(x.2.2.2.1.length:Int) > 20
  ·simp [h2]
  ·rw [ZU _ (by omega)]
   simp [h1,h2]
theorem Xr (x:AH):ACI x=false↔ZT x:=by
 unfold ACI ZT
 simp only [Bool.or_eq_false_iff,decide_eq_false_iff_not,List.any_eq_false,decide_eq_true_eq]
 constructor
 ·rintro ⟨⟨h1,h2⟩,h3⟩
  exact ⟨by omega,by omega,fun s hs=>by have:=h3 s hs; omega⟩
 ·rintro ⟨h1,h2,h3⟩
  exact ⟨⟨by omega,by omega⟩,fun s hs=>by have:=h3 s hs; omega⟩
theorem ADv (c:List AH):∃ b,LC c=some b/\(b=true↔few c):=by
 unfold LC
 by_cases h:c.length<=40
 ·rw [if_pos (by simp; omega)]
  have e:Al c=some (c.any ACI):=by
   unfold Al A4
   obtain ⟨n,h1,h2⟩:=RN c (by omega) HW ACI (fun x _=>AFO x) (BF c) (fun f c=>rfl)
   rw [<-h2]
   exact (congrArg (fun o=>o.bind fun v1=>some (decide (v1≥0))) h1)
  rw [e]
  refine ⟨!c.any ACI,rfl,?_⟩
  simp only [Bool.not_eq_true',List.any_eq_false,few,h,true_and]
  exact ⟨fun q x hx=>(Xr x).1 (by simpa using q x hx),fun q x hx=>by simp [(Xr x).2 (q x hx)]⟩
 ·rw [if_neg (by simp; omega)]
  exact ⟨false,rfl,by simp [few,h]⟩
/-- Copies. -/
theorem ZL (c:List AH) (h:few c):∀ (r pre:List AH) (f:Nat),c=pre++r->r.length < f->FK c f pre (pre.length:Int)=some c
 | [],pre,f + 1,e,_=>by
  unfold FK
  rw [if_neg (by rw [e]; simp),e,List.append_nil]
 | v::r,pre,f + 1,e,hf=>by
  have hv:ZT v:=h.2 v (by rw [e]; simp)
  have hl:=h.1
  have hl2:c.length=pre.length + r.length + 1:=by rw [e]; simp; omega
  simp only [List.length_cons] at hf
  obtain ⟨h1,h2,h3⟩:=hv
  unfold FK
  have hi:idx c (pre.length:Int)=some v:=by rw [e,Dy]
  rw [if_pos (by rw [e]; exact In pre v r),hi,OS,if_pos (FI (by omega) (by omega)),if_pos (FI (by omega) (by omega)),if_pos (by unfold Nx; simp; omega),if_pos (FI (by omega) (by omega))]
  have hv2:(v.1,v.2.1,v.2.2.1,((v.2.2.2.1++[[115,112,97,114,101]]).take ((v.2.2.2.1.length:Int).toNat)),v.2.2.2.2)=v:=by
   rw [Int.toNat_natCast,List.take_left]
  rw [hv2,show wr .i64 ((pre.length:Int) + 1)=((pre++[v]).length:Int) from Gf pre v r (by rw [<-e]; omega)]
  exact ZL c h r (pre++[v]) f (by rw [e]; simp) (by omega)
theorem AB8 (c:List AH) (h:few c):JG c=some c:=by
 unfold JG
 have:=ZL c h c [] 100000 rfl (by have:=h.1; omega)
 have e0:FK c 100000 [] (([]:List AH).length:Int)=FK c 100000 [] 0:=rfl
 rw [<-e0,this]; rfl
/-- Comparisons. -/
theorem ACF (xs ys:List (List UInt8)) (h:xs.length<=99999):CP xs ys=some (decide (xs=ys)):=by
 unfold CP
 exact ADt xs ys h (C1 xs ys) (fun f c=>rfl)
theorem AEX (a b:AH) (h:a.2.2.2.1.length<=99999):EB a b=some (decide (a=b)):=by
 unfold EB
 rw [ACF _ _ h]
 obtain ⟨a1,a2,a3,a4,a5⟩:=a
 obtain ⟨b1,b2,b3,b4,b5⟩:=b
 by_cases h1:a1=b1
 ·by_cases h2:a2=b2
  ·by_cases h3:a3=b3
   ·by_cases h5:a5=b5
    ·simp [h1,h2,h3,h5]
    ·simp [h5]
   ·simp [h3]
  ·simp [h2]
 ·simp [h1]
theorem AC5 (a b:List AH) (h:few a):JH a b=some (decide (a=b)):=by
 unfold JH AZ
 rw [<-RM (p:=fun x y=>decide (x=y)) (fun _ _=>rfl) a b]
 have:=Y7 a b (by have:=h.1; omega) EB (fun x y=>decide (x=y)) (fun x hx y _=>AEX x y (by have:=(h.2 x hx).2.1; omega)) (Ad a b) (fun f c=>rfl)
 exact (congrArg (fun o=>o.bind fun v1=>some v1) this)
/-- Names. -/
def AAJ (c:UInt8):Bool:=decide ((c.toNat:Int) < 97)||decide ((c.toNat:Int) > 122)
def Gj (s:List UInt8):Bool:=decide (1<=s.length)&&decide (s.length<=12)&&!s.any AAJ
theorem W6:∀ (s:List UInt8) (i:Nat),goU (fun v _ (k:Option (Unit ⊕ Bool))=>if AAJ v=true then some (.inr false) else k) (some (.inl ())) s i=some (if s.any AAJ=true then .inr false else .inl ())
 | [],_=>rfl
 | c::s,i=>by
  unfold goU
  rw [W6 s (i + 1),List.any_cons]
  cases AAJ c <;> rfl
theorem AEM (s:List UInt8) (h:s.length<=99999):F0 s 100000 0=some (if s.any AAJ=true then .inr false else .inl ()):=by
 rw [<-W6 s 0]
 refine LD s (F0 s) _ _ 100000 (by omega) (fun f pre v r e=>?_) (fun f=>?_)
 ·conv=>lhs; unfold F0
  rw [e,if_pos (In pre v r),Dy,OS,OS,Gf pre v r (by rw [<-e]; omega)]
  unfold AAJ
  by_cases h:(v.toNat:Int) < 97 <;> simp [h]
 ·conv=>lhs; unfold F0
  rw [if_neg (by simp)]
theorem ACX (s:List UInt8) (h:s.length<=99999):HU s 100000 0=some (if s.any AAJ=true then .inr false else .inl ()):=by
 rw [<-W6 s 0]
 refine LD s (HU s) _ _ 100000 (by omega) (fun f pre v r e=>?_) (fun f=>?_)
 ·conv=>lhs; unfold HU
  rw [e,if_pos (In pre v r),Dy,OS,OS,Gf pre v r (by rw [<-e]; omega)]
  unfold AAJ
  by_cases h:(v.toNat:Int) < 97 <;> simp [h]
 ·conv=>lhs; unfold HU
  rw [if_neg (by simp)]
theorem Zm (s:List UInt8) (h:s.length<=99999):IE s=some (Gj s):=by
 unfold IE Gj
 rw [AEM s h,OS]
 cases hb:s.any AAJ
 ·by_cases h1:s.length < 1
  ·have:s.length=0:=by omega
   simp [this]
  ·simp [show (s.length:Int)≥1 by omega,show 1<=s.length by omega]; omega
 ·simp
theorem X0 (s:List UInt8) (h:s.length<=99999):Le s=some (Gj s):=by
 unfold Le Gj
 by_cases h1:s.length < 1
 ·have:s.length=0:=by omega
  simp [this]
 ·by_cases h2:s.length > 12
  ·simp [show ¬ ((s.length:Int) < 1) by omega,show ((s.length:Int) > 12) by omega,show ¬ (s.length<=12) by omega]
  ·rw [ACX s h]
   cases hb:s.any AAJ
   ·simp [show ¬ ((s.length:Int) < 1) by omega,show ¬ ((s.length:Int) > 12) by omega,show (s.length<=12) by omega,show 1<=s.length by omega]
   ·simp [show ¬ ((s.length:Int) < 1) by omega,show ¬ ((s.length:Int) > 12) by omega]
theorem ACm (l:List (List UInt8)) (h:l.length<=99999) (hs:∀ s ∈ l,s.length<=99999):An l=some (l.any fun s=>!Gj s):=by
 unfold An BI
 obtain ⟨n,h1,h2⟩:=RN l h Gq (fun s=>!Gj s) (fun x hx=>by unfold Gq; rw [Zm x (hs x hx)]; rfl) (BO l) (fun f c=>rfl)
 rw [<-h2]
 exact (congrArg (fun o=>o.bind fun v1=>some (decide (v1≥0))) h1)
def NW (l:List (List UInt8)) (s:List UInt8):Bool:=l.any fun v=>s==v
theorem Ko (l:List (List UInt8)) (s:List UInt8) (h:l.length<=99999):BK l s=some (NW l s):=by
 unfold BK B3
 obtain ⟨n,h1,h2⟩:=RN l h (fun v=>some (s==v)) (fun v=>s==v) (fun _ _=>rfl) (BU l s) (fun f c=>rfl)
 unfold NW
 rw [<-h2]
 exact (congrArg (fun o=>o.bind fun v1=>some (decide (v1≥0))) h1)
theorem Za (s:List UInt8):∀ (l:List (List UInt8)) (i:Nat),goU (fun v _ (k:Option (Unit ⊕ Bool))=>if (v==s)=true then some (.inr true) else k) (some (.inl ())) l i=some (if NW l s=true then .inr true else .inl ())
 | [],_=>rfl
 | c::l,i=>by
  unfold goU
  rw [Za s l (i + 1)]
  have:NW (c::l) s=((c==s)||NW l s):=by
   unfold NW
   rw [List.any_cons,Bool.beq_comm]
  rw [this]
  cases (c==s) <;> rfl
theorem Xu (l:List (List UInt8)) (s:List UInt8) (h:l.length<=99999):Hy l s=some (NW l s):=by
 unfold Hy
 have e:=AFa l (JU l s) (fun v _ (k:Option (Unit ⊕ Bool))=>if (v==s)=true then some (.inr true) else k) (some (.inl ())) 100000 (by omega) (by omega) (fun f c=>rfl)
 rw [e,Za]
 cases NW l s <;> rfl
/-- What is asked of the fields, by a row: names, from, to, last. -/
def fin (L:Nat) (n:Int) (la:Bool) (w:Int×Int×Int×Bool):Option Bool :=
 (if (decide ((L:Int)<=w.1))=true then if (w.1==0)=true then if (decide (n≥w.2.1))=true then if (decide (n<=w.2.2.1))=true then if w.2.2.2=true then some true else some (!la) else some false else some false else if (decide ((L:Int) > 0))=true then if (decide (n≥w.2.1))=true then if (decide (n<=w.2.2.1))=true then if w.2.2.2=true then some true else some (!la) else some false else some false else some false else some false).bind fun j58=>some j58
theorem O5 (L:Nat) (n:Int) (la:Bool) (a lo hi:Int) (last:Bool):fin L n la (a,lo,hi,last)=some ((decide ((L:Int)<=a)&&(a==0||decide ((L:Int) > 0)))&&(decide (n≥lo)&&(decide (n<=hi)&&(last||!la)))):=by
 unfold fin
 dsimp only
 generalize decide ((L:Int)<=a)=b1
 generalize (a==0)=b2
 generalize decide ((L:Int) > 0)=b3
 generalize decide (n≥lo)=b4
 generalize decide (n<=hi)=b5
 cases b1 <;> cases b2 <;> cases b3 <;> cases b4 <;> cases b5 <;> cases last <;> cases la <;> rfl
theorem V2 (x:AH):∃ b,CV x=some b/\BH x=some b:=by
 obtain ⟨k,am,la,nm,n⟩:=x
 by_cases h1:k=1
 ·subst h1
  have hr:BH (1,am,la,nm,n)=some ((decide (1<=(nm.length:Int))&&decide ((nm.length:Int)<=16))&&((n==0)&&(!la&&(am==[])))):=by
   unfold BH
   unfold BT
   dsimp only
   generalize decide (1<=(nm.length:Int))=b0
   generalize decide ((nm.length:Int)<=16)=b1
   generalize (n==0)=b2
   generalize (am==[])=b3
   cases b0 <;> cases b1 <;> cases b2 <;> cases la <;> cases b3 <;> rfl
  refine ⟨_,?_,hr⟩
  cases am with
  | cons a am =>
   have hc:CV (1,a::am,la,nm,n)=some false:=rfl
   rw [hc]
   simp
  | nil =>
   have hc:CV (1,[],la,nm,n)=fin nm.length n la (16,0,0,false):=rfl
   rw [hc,O5]
   congr 1
   rw [Bool.eq_iff_iff]
   generalize nm.length=L
   cases la <;> simp <;> omega
 by_cases h2:k=2
 ·subst h2
  have hr:BH (2,am,la,nm,n)=some (((nm.length:Int)==0)&&((n==0)&&!la)):=by
   unfold BH
   unfold BT
   dsimp only
   generalize ((nm.length:Int)==0)=b0
   generalize (n==0)=b1
   cases b0 <;> cases b1 <;> cases la <;> rfl
  refine ⟨_,?_,hr⟩
  have hc:CV (2,am,la,nm,n)=fin nm.length n la (0,0,0,false):=rfl
  rw [hc,O5]
  congr 1
  rw [Bool.eq_iff_iff]
  generalize nm.length=L
  cases la <;> simp <;> omega
 by_cases h3:k=3
 ·subst h3
  have hr:BH (3,am,la,nm,n)=some (((nm.length:Int)==0)&&((n==0)&&!la)):=by
   unfold BH
   unfold BT
   dsimp only
   generalize ((nm.length:Int)==0)=b0
   generalize (n==0)=b1
   cases b0 <;> cases b1 <;> cases la <;> rfl
  refine ⟨_,?_,hr⟩
  have hc:CV (3,am,la,nm,n)=fin nm.length n la (0,0,0,false):=rfl
  rw [hc,O5]
  congr 1
  rw [Bool.eq_iff_iff]
  generalize nm.length=L
  cases la <;> simp <;> omega
 by_cases h8:k=8
 ·subst h8
  have hr:BH (8,am,la,nm,n)=some (((nm.length:Int)==0)&&((n==0)&&!la)):=by
   unfold BH
   unfold BT
   dsimp only
   generalize ((nm.length:Int)==0)=b0
   generalize (n==0)=b1
   cases b0 <;> cases b1 <;> cases la <;> rfl
  refine ⟨_,?_,hr⟩
  have hc:CV (8,am,la,nm,n)=fin nm.length n la (0,0,0,false):=rfl
  rw [hc,O5]
  congr 1
  rw [Bool.eq_iff_iff]
  generalize nm.length=L
  cases la <;> simp <;> omega
 by_cases h9:k=9
 ·subst h9
  have hr:BH (9,am,la,nm,n)=some (((nm.length:Int)==0)&&((n==0)&&!la)):=by
   unfold BH
   unfold BT
   dsimp only
   generalize ((nm.length:Int)==0)=b0
   generalize (n==0)=b1
   cases b0 <;> cases b1 <;> cases la <;> rfl
  refine ⟨_,?_,hr⟩
  have hc:CV (9,am,la,nm,n)=fin nm.length n la (0,0,0,false):=rfl
  rw [hc,O5]
  congr 1
  rw [Bool.eq_iff_iff]
  generalize nm.length=L
  cases la <;> simp <;> omega
 by_cases h4:k=4
 ·subst h4
  have hr:BH (4,am,la,nm,n)=some (((nm.length:Int)==0)&&(decide (1<=n)&&decide (n<=2))):=by
   unfold BH
   unfold BT
   dsimp only
   generalize ((nm.length:Int)==0)=b0
   generalize decide (1<=n)=b1
   generalize decide (n<=2)=b2
   cases b0 <;> cases b1 <;> cases b2 <;> cases la <;> rfl
  refine ⟨_,?_,hr⟩
  have hc:CV (4,am,la,nm,n)=fin nm.length n la (0,1,2,true):=rfl
  rw [hc,O5]
  congr 1
  rw [Bool.eq_iff_iff]
  generalize nm.length=L
  cases la <;> simp <;> omega
 by_cases h5:k=5
 ·subst h5
  have hr:BH (5,am,la,nm,n)=some (((nm.length:Int)==0)&&(n==0)):=by
   unfold BH
   unfold BT
   dsimp only
   generalize ((nm.length:Int)==0)=b0
   generalize (n==0)=b1
   cases b0 <;> cases b1 <;> cases la <;> rfl
  refine ⟨_,?_,hr⟩
  have hc:CV (5,am,la,nm,n)=fin nm.length n la (0,0,0,true):=rfl
  rw [hc,O5]
  congr 1
  rw [Bool.eq_iff_iff]
  generalize nm.length=L
  cases la <;> simp <;> omega
 by_cases h6:k=6
 ·subst h6
  have hr:BH (6,am,la,nm,n)=some ((decide (1<=(nm.length:Int))&&decide ((nm.length:Int)<=16))&&(n==0)):=by
   unfold BH
   unfold BT
   dsimp only
   generalize decide (1<=(nm.length:Int))=b0
   generalize decide ((nm.length:Int)<=16)=b1
   generalize (n==0)=b2
   cases b0 <;> cases b1 <;> cases b2 <;> cases la <;> rfl
  refine ⟨_,?_,hr⟩
  have hc:CV (6,am,la,nm,n)=fin nm.length n la (16,0,0,true):=rfl
  rw [hc,O5]
  congr 1
  rw [Bool.eq_iff_iff]
  generalize nm.length=L
  cases la <;> simp <;> omega
 by_cases h7:k=7
 ·subst h7
  have hr:BH (7,am,la,nm,n)=some ((decide (1<=(nm.length:Int))&&decide ((nm.length:Int)<=16))&&(n==0)):=by
   unfold BH
   unfold BT
   dsimp only
   generalize decide (1<=(nm.length:Int))=b0
   generalize decide ((nm.length:Int)<=16)=b1
   generalize (n==0)=b2
   cases b0 <;> cases b1 <;> cases b2 <;> cases la <;> rfl
  refine ⟨_,?_,hr⟩
  have hc:CV (7,am,la,nm,n)=fin nm.length n la (16,0,0,true):=rfl
  rw [hc,O5]
  congr 1
  rw [Bool.eq_iff_iff]
  generalize nm.length=L
  cases la <;> simp <;> omega
 by_cases h10:k=10
 ·subst h10
  have hr:BH (10,am,la,nm,n)=some (((nm.length:Int)==0)&&((decide (0<=n)&&decide (n<=63))&&!la)):=by
   unfold BH
   unfold BT
   dsimp only
   generalize ((nm.length:Int)==0)=b0
   generalize decide (0<=n)=b1
   generalize decide (n<=63)=b2
   cases b0 <;> cases b1 <;> cases b2 <;> cases la <;> rfl
  refine ⟨_,?_,hr⟩
  have hc:CV (10,am,la,nm,n)=fin nm.length n la (0,0,63,false):=rfl
  rw [hc,O5]
  congr 1
  rw [Bool.eq_iff_iff]
  generalize nm.length=L
  cases la <;> simp <;> omega
 have e:∀ m:Int,(m=1\/m=2\/m=3\/m=4\/m=5\/m=6\/m=7\/m=8\/m=9\/m=10)->(k==m)=false:=fun m hm=>by
  rw [beq_eq_false_iff_ne]
  rintro rfl
  omega
 refine ⟨false,?_,?_⟩
 ·simp [CV,IQ,IR,IS,IT,IU,IV,IW,IX,IY,e]
 ·simp [BH,Ha,Hb,Hc,Hd,e]
def fm (x:AH):Bool:=(BH x).getD false
theorem AFy (x:AH):CV x=some (fm x):=by
 obtain ⟨b,h1,h2⟩:=V2 x
 rw [h1]; unfold fm; rw [h2]; rfl
theorem AFz (x:AH):BH x=some (fm x):=by
 obtain ⟨b,h1,h2⟩:=V2 x
 unfold fm; rw [h2]; rfl
/-- Is a name there twice? -/
def ABW (l:List (List UInt8)):List (List UInt8)->Nat->Bool
 | [],_=>false
 | v::r,i=>NW (l.take i) v||ABW l r (i + 1)
def Na (before:List AH) (am:List UInt8):Bool:=before.any fun b=>(b.1==1)&&NW b.2.2.2.1 am
def chk (before:List AH) (x:AH):Int :=
 if fm x=false then 30 else
 if ((!(x.2.1==[]))&&!Gj x.2.1)=true\/(x.2.2.2.1.any fun s=>!Gj s)=true then 4 else
 if ABW x.2.2.2.1 x.2.2.2.1 0=true then 5 else
 if x.2.1=[]\/Na before x.2.1=true then 0 else 31
theorem W5 (l:List (List UInt8)):∀ (r:List (List UInt8)) (i:Nat),goU (fun v i (k:Option (Unit ⊕ Int))=>if NW (l.take i) v=true then some (.inr 5) else k) (some (.inl ())) r i=some (if ABW l r i=true then .inr 5 else .inl ())
 | [],_=>rfl
 | v::r,i=>by
  unfold goU ABW
  rw [W5 l r (i + 1)]
  cases NW (l.take i) v <;> rfl
theorem AFL (b:List AH) (j:AH) (h:j.2.2.2.1.length<=99999):FR b j 100000 0=some (if ABW j.2.2.2.1 j.2.2.2.1 0=true then .inr 5 else .inl ()):=by
 rw [<-W5]
 refine LD j.2.2.2.1 (FR b j) _ _ 100000 (by omega) (fun f pre v r e=>?_) (fun f=>?_)
 ·conv=>lhs; unfold FR
  have hl:j.2.2.2.1.length=pre.length + r.length + 1:=by rw [e]; simp; omega
  rw [if_pos (by rw [e]; exact In pre v r),show idx j.2.2.2.1 (pre.length:Int)=some v by rw [e,Dy],OS,if_pos (by unfold Nx; simp; omega),Int.toNat_natCast]
  rw [show ((j.2.2.2.1.take pre.length).drop (0:Int).toNat)=j.2.2.2.1.take pre.length from rfl,Ko _ _ (by simp; omega),OS,Gf pre v r (by rw [<-e]; omega)]
 ·conv=>lhs; unfold FR
  rw [if_neg (by simp)]
theorem AA7 (b:List AH) (x:AH) (h:b.length<=99999) (hb:∀ y ∈ b,y.2.2.2.1.length<=99999):Ak b x=some (Na b x.2.1):=by
 unfold Ak Ax
 obtain ⟨n,h1,h2⟩:=RN b h (fun v=>Gr v x) (fun y=>(y.1==1)&&NW y.2.2.2.1 x.2.1) (fun y hy=>by
  unfold Gr
  rw [Ko _ _ (hb y hy)]
  cases (y.1==1) <;> rfl) (A8 b x) (fun f c=>rfl)
 unfold Na
 rw [<-h2]
 exact (congrArg (fun o=>o.bind fun v1=>some (decide (v1≥0))) h1)
theorem AFG (b:List AH) (x:AH) (hb:few b) (hx:ZT x):H4 b x=some (chk b x):=by
 have hn:∀ s ∈ x.2.2.2.1,s.length<=99999:=fun s hs=>by have:=hx.2.2 s hs; omega
 unfold H4 chk
 rw [AFy,OS]
 cases hf:fm x with
 | false=>simp
 | true =>
  rw [if_neg (show ¬ ((!true)=true) by simp),if_neg (show ¬ (true=false) by simp),ACm _ (by have:=hx.2.1; omega) hn,Zm _ (by have:=hx.1; omega)]
  have e:((if (!(x.2.1==[]))=true then (some (Gj x.2.1)).bind fun v3=>if (!v3)=true then some true else (some (x.2.2.2.1.any fun s=>!Gj s)).bind fun v4=>some v4 else (some (x.2.2.2.1.any fun s=>!Gj s)).bind fun v5=>some v5):Option Bool)=some (((!(x.2.1==[]))&&!Gj x.2.1)||(x.2.2.2.1.any fun s=>!Gj s)):=by
   cases (x.2.1==[]) <;> cases Gj x.2.1 <;> rfl
  rw [e,OS]
  cases hq:(((!(x.2.1==[]))&&!Gj x.2.1)||(x.2.2.2.1.any fun s=>!Gj s)) with
  | true=>rw [if_pos rfl,if_pos (by simpa using hq)]
  | false =>
   rw [if_neg (show ¬ (false=true) by simp),if_neg (show ¬ (((!(x.2.1==[]))&&!Gj x.2.1)=true\/(x.2.2.2.1.any fun s=>!Gj s)=true) by simpa using hq),AFL _ _ (by have:=hx.2.1; omega),OS]
   try dsimp only
   cases hd:ABW x.2.2.2.1 x.2.2.2.1 0 with
   | true=>rfl
   | false =>
    rw [if_neg (show ¬ (false=true) by simp)]
    dsimp only
    have hr:=AA7 b x (by have:=hb.1; omega) (fun y hy=>by have:=(hb.2 y hy).2.1; omega)
    rw [hr]
    by_cases ha:x.2.1=[]
    ·simp [ha]
    ·simp only [ha,false_or]
     cases Na b x.2.1 <;> simp [ha]
/-- .. of the reference. -/
theorem ABY:∀ (l:List (List UInt8)) (i:Nat),goU (fun v _ (k:Option (Unit ⊕ Int))=>if (!Gj v)=true then some (.inr 4) else k) (some (.inl ())) l i=some (if (l.any fun s=>!Gj s)=true then .inr 4 else .inl ())
 | [],_=>rfl
 | v::r,i=>by
  unfold goU
  rw [ABY r (i + 1),List.any_cons]
  cases Gj v <;> rfl
theorem ABZ (am:List UInt8):∀ (l:List AH) (i:Nat),goU (fun (v:AH) _ (k:Option (Unit ⊕ Int))=>if ((v.1==1)&&NW v.2.2.2.1 am)=true then some (.inr 0) else k) (some (.inl ())) l i=some (if Na l am=true then .inr 0 else .inl ())
 | [],_=>rfl
 | v::r,i=>by
  unfold goU
  have:Na (v::r) am=(((v.1==1)&&NW v.2.2.2.1 am)||Na r am):=rfl
  rw [ABZ am r (i + 1),this]
  cases ((v.1==1)&&NW v.2.2.2.1 am) <;> rfl
section
variable (c pre r:List AH) (x:AH) (e:c=pre++x::r) (h:few c)
include e h
theorem Zw:Du c (pre.length:Int) 100000 0=some (if (x.2.2.2.1.any fun s=>!Gj s)=true then .inr 4 else .inl ()):=by
 have hx:ZT x:=h.2 x (by rw [e]; simp)
 have hi:idx c (pre.length:Int)=some x:=by rw [e,Dy]
 rw [<-ABY _ 0]
 refine LD x.2.2.2.1 (Du c (pre.length:Int)) _ _ 100000 (by have:=hx.2.1; omega) (fun f p v q e'=>?_) (fun f=>?_)
 ·conv=>lhs; unfold Du
  have hv:=hx.2.2 v (by rw [e']; simp)
  rw [hi,OS,if_pos (by rw [e']; exact In p v q),OS,show idx x.2.2.2.1 (p.length:Int)=some v by rw [e',Dy],OS,X0 v (by omega),OS,Gf p v q (by have:=hx.2.1; rw [<-e']; omega)]
 ·conv=>lhs; unfold Du
  rw [hi,OS,if_neg (by simp)]
theorem ACz:Dv c (pre.length:Int) 100000 0=some (if ABW x.2.2.2.1 x.2.2.2.1 0=true then .inr 5 else .inl ()):=by
 have hx:ZT x:=h.2 x (by rw [e]; simp)
 have hi:idx c (pre.length:Int)=some x:=by rw [e,Dy]
 rw [<-W5]
 refine LD x.2.2.2.1 (Dv c (pre.length:Int)) _ _ 100000 (by have:=hx.2.1; omega) (fun f p v q e'=>?_) (fun f=>?_)
 ·conv=>lhs; unfold Dv
  have hl:x.2.2.2.1.length=p.length + q.length + 1:=by rw [e']; simp; omega
  have:=hx.2.1
  rw [hi,OS,if_pos (by rw [e']; exact In p v q),OS,if_pos (by unfold Nx; simp; omega),OS,show idx x.2.2.2.1 (p.length:Int)=some v by rw [e',Dy],OS,Int.toNat_natCast,
   show ((x.2.2.2.1.take p.length).drop (0:Int).toNat)=x.2.2.2.1.take p.length from rfl,Xu _ _ (by simp; omega),OS,Gf p v q (by rw [<-e']; omega)]
 ·conv=>lhs; unfold Dv
  rw [hi,OS,if_neg (by simp)]
theorem Yu:Dw c (pre.length:Int) 100000 0=some (if Na pre x.2.1=true then .inr 0 else .inl ()):=by
 have hi:idx c (pre.length:Int)=some x:=by rw [e,Dy]
 have hl:c.length=pre.length + r.length + 1:=by rw [e]; simp; omega
 have hc:=h.1
 rw [<-ABZ _ _ 0]
 refine LD pre (Dw c (pre.length:Int)) _ _ 100000 (by omega) (fun f p v q e'=>?_) (fun f=>?_)
 ·conv=>lhs; unfold Dw
  have hv:ZT v:=h.2 v (by rw [e,e']; simp)
  have hl2:pre.length=p.length + q.length + 1:=by rw [e']; simp; omega
  rw [if_pos (by simp; omega),show idx c (p.length:Int)=some v by rw [e,e',List.append_assoc,List.cons_append,Dy],OS,hi,OS,OS,Xu _ _ (by have:=hv.2.1; omega),Gf p v q (by rw [<-e']; omega)]
  cases (v.1==1) <;> rfl
 ·conv=>lhs; unfold Dw
  rw [if_neg (by simp)]
theorem AFH:GC c (pre.length:Int)=some (chk pre x):=by
 have hx:ZT x:=h.2 x (by rw [e]; simp)
 have hi:idx c (pre.length:Int)=some x:=by rw [e,Dy]
 unfold GC chk
 rw [hi,OS,AFz,OS,OS,OS,Zw c pre r x e h,ACz c pre r x e h,Yu c pre r x e h,X0 _ (by have:=hx.1; omega)]
 cases hf:fm x with
 | false=>simp
 | true =>
  rw [if_neg (show ¬ ((!true)=true) by simp),if_neg (show ¬ (true=false) by simp)]
  have e2:((if (!(x.2.1==[]))=true then (some (Gj x.2.1)).bind fun v6=>some (!v6) else some false):Option Bool)=some ((!(x.2.1==[]))&&!Gj x.2.1):=by
   cases (x.2.1==[]) <;> rfl
  rw [e2,OS,OS]
  cases hq:((!(x.2.1==[]))&&!Gj x.2.1) <;> cases hn:(x.2.2.2.1.any fun s=>!Gj s) <;> cases hd:ABW x.2.2.2.1 x.2.2.2.1 0 <;> cases hr:Na pre x.2.1 <;> by_cases ha:x.2.1=[] <;> simp [ha]
end
/-- The first error of a text: its place, and which. -/
def YU (c:List AH):List AH->Nat->Unit ⊕ (Int×Int)
 | [],_=> .inl ()
 | x::r,i=>if chk (c.take i) x≠0 then .inr ((i:Int),chk (c.take i) x) else YU c r (i + 1)
def Ts (c:List AH):Int×Int:=if c.length > 32 then (0,7) else match YU c c 0 with
 | .inl _=>(0,0)
 | .inr w=>w
theorem W4 (c:List AH):∀ (r:List AH) (i:Nat),goU (fun x i (k:Option (Unit ⊕ (Int×Int)))=>if (chk (c.take i) x != 0)=true then some (.inr ((i:Int),chk (c.take i) x)) else k) (some (.inl ())) r i=some (YU c r i)
 | [],_=>rfl
 | x::r,i=>by
  unfold goU YU
  rw [W4 c r (i + 1)]
  by_cases h:chk (c.take i) x=0 <;> simp [h]
theorem AAj {c:List AH}(h:few c) (n:Nat):few (c.take n):=⟨by have:=h.1; simp; omega,fun x hx=>h.2 x (List.mem_of_mem_take hx)⟩
theorem Ur (c:List AH) (h:few c):HJ c=some (Ts c):=by
 have hl:=h.1
 have e1:FQ c 100000 0=some (YU c c 0):=by
  rw [<-W4]
  refine LD c (FQ c) _ _ 100000 (by omega) (fun f pre v r e=>?_) (fun f=>?_)
  ·conv=>lhs; unfold FQ
   have hl2:c.length=pre.length + r.length + 1:=by rw [e]; simp; omega
   rw [if_pos (by rw [e]; exact In pre v r),show idx c (pre.length:Int)=some v by rw [e,Dy],OS,if_pos (by unfold Nx; simp; omega),Int.toNat_natCast,
    show ((c.take pre.length).drop (0:Int).toNat)=c.take pre.length from rfl,AFG _ v (AAj h _) (h.2 v (by rw [e]; simp)),OS,Gf pre v r (by rw [<-e]; omega)]
  ·conv=>lhs; unfold FQ
   rw [if_neg (by simp)]
 unfold HJ Ts
 by_cases h32:c.length > 32
 ·rw [if_pos (by simp; omega),if_pos h32]
 ·rw [if_neg (by simp; omega),if_neg h32,e1,OS]
  cases YU c c 0 <;> rfl
theorem Us (c:List AH) (h:few c):HX c=some (Ts c):=by
 have hl:=h.1
 have e1:FS c 100000 0=some (YU c c 0):=by
  rw [<-W4]
  refine LD c (FS c) _ _ 100000 (by omega) (fun f pre v r e=>?_) (fun f=>?_)
  ·conv=>lhs; unfold FS
   rw [if_pos (by rw [e]; exact In pre v r),AFH c pre r v e h,OS,Gf pre v r (by rw [<-e]; omega),show c.take pre.length=pre by rw [e]; simp]
  ·conv=>lhs; unfold FS
   rw [if_neg (by simp)]
 unfold HX Ts
 by_cases h32:c.length > 32
 ·rw [if_pos (by simp; omega),if_pos h32]
 ·rw [if_neg (by simp; omega),if_neg h32,e1,OS]
  cases YU c c 0 <;> rfl
/- trestle/court.Reason -/
/- trestle/court.Compare -/
end Go.Proofs.YtlalcoehgkmhlaaGreatDoor
