/- Lemmas for the proof. -/
import Derived.Test.YtcmgmkepodbpkaaDoorEveningWrongM1
import Derived.Test.YtcmgmkepodbpkaaDoorEveningWrongM2
import Derived.Test.YtcmgmkepodbpkaaDoorEveningWrongM3
import Derived.Test.YtcmgmkepodbpkaaDoorProg
import Derived.Laws.CopyOwn
import Derived.Laws.Slices
import Derived.Laws.StructEq
set_option maxHeartbeats 4000000
set_option maxRecDepth 100000
namespace Go.Proofs.YtcmgmkepodbpkaaDoor
open Go.RowKit
/- trestle/evening.check -/
noncomputable def BS:Env:=E0
theorem De:EnvOk BS:=BB
noncomputable def EX:Code:=BK Tryd.f83
def Fs (x0:Int) (x1:(List Int)) (x2:(List (List Int))) (c9:Int) (v11:(List Int)) (c18:Int) (c20:Bool) (c22:Int) (v24:Int) (j32:Bool×(List Bool)) (v33:Bool):Option ((Int)) :=
 if (!v33)=true then
 some (wr .i64 (c18 + 1))
 else
 some c18
def Cj (x0:Int) (x1:(List Int)) (x2:(List (List Int))) (c9:Int) (v11:(List Int)):Nat->Int->Bool->Bool->(List Bool)->Int->Option ((Int×Bool×Bool×(List Bool)))
 | 0,_,_,_,_,_=>none
 | f + 1,c18,c19,c20,c21,c22 =>
  if (decide (c22 < (v11.length:Int)))=true then
  (idx v11 c22).bind fun v24 =>
  (if (decide (v24 < 0))=true then some (c21,true) else some (c21,(decide (v24≥x0)))).bind fun j27 =>
  if j27.2=true then
  Cj x0 x1 x2 c9 v11 f c18 c19 true j27.1 (wr .i64 (c22 + 1))
  else
  (if c19=true then some (true,j27.1) else (idx j27.1 v24).bind fun v29 =>
  some (v29,j27.1)).bind fun j32 =>
  (idx j32.2 v24).bind fun v33 =>
  (Fs x0 x1 x2 c9 v11 c18 c20 c22 v24 j32 v33).bind fun r36 =>
  (idx j32.2 v24).bind fun v37 =>
  Cj x0 x1 x2 c9 v11 f r36 j32.1 c20 (j32.2.set v24.toNat true) (wr .i64 (c22 + 1))
  else
  some (c18,c19,c20,c21)
def DJ (x0:Int) (x1:(List Int)) (x2:(List (List Int))):Nat->Int->Bool->Bool->(List Bool)->Int->Option ((Int×Bool×Bool) ⊕ (Int))
 | 0,_,_,_,_,_=>none
 | f + 1,c5,c6,c7,c8,c9 =>
  if (decide (c9 < (x2.length:Int)))=true then
  (idx x2 c9).bind fun v11 =>
  (if ((v11.length:Int)==0)=true then some (c8,true) else if (decide ((x1.length:Int) > 0))=true then (idx x1 c9).bind fun v12 =>
  some (c8,((v11.length:Int)!=v12)) else some (c8,false)).bind fun j15 =>
  if j15.2=true then
  some (.inr 2)
  else
  (Cj x0 x1 x2 c9 v11 100000 c5 c6 c7 j15.1 0).bind fun r44 =>
  DJ x0 x1 x2 f r44.1 r44.2.1 r44.2.2.1 r44.2.2.2 (wr .i64 (c9 + 1))
  else
  some (.inl (c5,c6,c7))
def CX (x0:Int) (x1:(List Int)) (x2:(List (List Int))):Option (Int) :=
 (if (decide ((x1.length:Int) > 0))=true then some ((x1.length:Int)!=(x2.length:Int)) else some false).bind fun j2 =>
 if j2=true then
 some 2
 else
 if (OV 1 x0)=true then
 (DJ x0 x1 x2 100000 0 false false (List.replicate x0.toNat false) 0).bind fun r50 =>
 match r50 with
 | (.inl w51) =>
  if w51.2.2=true then
  some 6
  else
  if w51.2.1=true then
  some 5
  else
  if (decide (w51.1 < x0))=true then
  some 2
  else
  some 0
 | (.inr w55) =>
  some w55
 else none
def EY:Cs (Int×(List Int)×(List (List Int))×Unit):=(csC cdI (csC (cdL 1 cdI) (csC (cdL 1 (cdL 1 cdI)) csN)))
def Eb (r:Int):AV:=cdI.enc r
theorem Ln (x0:Int) (x1:(List Int)) (x2:(List (List Int))) (c9:Int) (v11:(List Int)) (c18:Int) (c20:Bool) (c22:Int) (v24:Int) (j32:Bool×(List Bool)) (v33:Bool) (r:(Int)) (h:Fs x0 x1 x2 c9 v11 c18 c20 c22 v24 j32 v33=some r):Sem BS ⟨none,false⟩ (pc EX [1,1,1,1,0,1,0,0,1,1,0,0,1,1,1,0,0,1,1,0,0,1,1,1,0,1]) ⟨Fr 91 [(0,.v (.int .i64 x0)),(1,.sl 1 (x1.map cdI.enc)),(7,.v (.int .i64 c18)),(8,.v (.bool j32.1)),(9,.v (.bool c20)),(10,.rf 0 0 j32.2.length j32.2.length),(14,.v (.int .i64 v24)),(27,.sl 1 (x2.map (cdL 1 cdI).enc)),(28,.v (.int .i64 (x2.length:Int))),(29,.v (.int .i64 c9)),(51,.sl 1 (v11.map cdI.enc)),(52,.v (.int .i64 (v11.length:Int))),(53,.v (.int .i64 c22)),(75,.v (.bool (!v33)))],[some ⟨1,4,(j32.2.map cdB.enc),false⟩]⟩ (fun e s=>e = .normal/\Wk BS s ⟨Fr 91 [(0,.v (.int .i64 x0)),(1,.sl 1 (x1.map cdI.enc)),(7,.v (.int .i64 r)),(8,.v (.bool j32.1)),(9,.v (.bool c20)),(10,.rf 0 0 j32.2.length j32.2.length),(14,.v (.int .i64 v24)),(27,.sl 1 (x2.map (cdL 1 cdI).enc)),(28,.v (.int .i64 (x2.length:Int))),(29,.v (.int .i64 c9)),(51,.sl 1 (v11.map cdI.enc)),(52,.v (.int .i64 (v11.length:Int))),(53,.v (.int .i64 c22))],[some ⟨1,4,(j32.2.map cdB.enc),false⟩]⟩):=by
 unfold Fs at h;refine AU (b:=(!v33)) kr (fun hb34=>?_) (fun hb34=>?_)
 ·rw [if_pos hb34] at h
  refine Cq De [(0,.v (.int .i64 x0)),(1,.sl 1 (x1.map cdI.enc)),(7,.v (.int .i64 (wr .i64 (c18 + 1)))),(8,.v (.bool j32.1)),(9,.v (.bool c20)),(10,.rf 0 0 j32.2.length j32.2.length),(14,.v (.int .i64 v24)),(27,.sl 1 (x2.map (cdL 1 cdI).enc)),(28,.v (.int .i64 (x2.length:Int))),(29,.v (.int .i64 c9)),(51,.sl 1 (v11.map cdI.enc)),(52,.v (.int .i64 (v11.length:Int))),(53,.v (.int .i64 c22))] [some ⟨1,4,(j32.2.map cdB.enc),false⟩] ?_;have hq:=OI h; subst hq;exact ⟨rfl,(Ac [0] ⟨⟨_,rfl,Ai⟩,trivial⟩ ⟨lv,lv,lv,lv,lv,lv,lv,lv,lv,lv,lv,lv,lv,trivial⟩)⟩
 ·rw [B9 hb34] at h
  refine AX ?_;have hq:=OI h; subst hq;exact ⟨rfl,(Ac [0] ⟨⟨_,rfl,Ai⟩,trivial⟩ ⟨lv,lv,lv,lv,lv,lv,lv,lv,lv,lv,lv,lv,lv,trivial⟩)⟩
theorem MA (x0:Int) (x1:(List Int)) (x2:(List (List Int))) (c9:Int) (v11:(List Int)):∀ (f:Nat) (c18:Int) (c19:Bool) (c20:Bool) (c21:(List Bool)) (c22:Int) (r:(Int×Bool×Bool×(List Bool))),Cj x0 x1 x2 c9 v11 f c18 c19 c20 c21 c22=some r->SemN BS ⟨none,false⟩ (pc EX [1,1,1,1,0,1,0,0,1,1,0,0,1,1,1,0,0]) f ⟨Fr 91 [(0,.v (.int .i64 x0)),(1,.sl 1 (x1.map cdI.enc)),(7,.v (.int .i64 c18)),(8,.v (.bool c19)),(9,.v (.bool c20)),(10,.rf 0 0 c21.length c21.length),(27,.sl 1 (x2.map (cdL 1 cdI).enc)),(28,.v (.int .i64 (x2.length:Int))),(29,.v (.int .i64 c9)),(51,.sl 1 (v11.map cdI.enc)),(52,.v (.int .i64 (v11.length:Int))),(53,.v (.int .i64 c22))],[some ⟨1,4,(c21.map cdB.enc),false⟩]⟩ (fun e s=>e=(.exit 2)/\Wk BS s ⟨Fr 91 [(0,.v (.int .i64 x0)),(1,.sl 1 (x1.map cdI.enc)),(7,.v (.int .i64 r.1)),(8,.v (.bool r.2.1)),(9,.v (.bool r.2.2.1)),(10,.rf 0 0 r.2.2.2.length r.2.2.2.length),(27,.sl 1 (x2.map (cdL 1 cdI).enc)),(28,.v (.int .i64 (x2.length:Int))),(29,.v (.int .i64 c9))],[some ⟨1,4,(r.2.2.2.map cdB.enc),false⟩]⟩):=by
 have he:=De
 intro f;induction f with
 | zero=>intro c18 c19 c20 c21 c22 r h; cases h
 | succ f ih0 =>
  intro c18 c19 c20 c21 c22 r h
  have ih:=fun (c18:Int) (c19:Bool) (c20:Bool) (c21:(List Bool)) (c22:Int)=>ih0 c18 c19 c20 c21 c22 r
  unfold Cj at h;refine BJ ?_;refine AN he [(0,.v (.int .i64 x0)),(1,.sl 1 (x1.map cdI.enc)),(7,.v (.int .i64 c18)),(8,.v (.bool c19)),(9,.v (.bool c20)),(10,.rf 0 0 c21.length c21.length),(27,.sl 1 (x2.map (cdL 1 cdI).enc)),(28,.v (.int .i64 (x2.length:Int))),(29,.v (.int .i64 c9)),(51,.sl 1 (v11.map cdI.enc)),(52,.v (.int .i64 (v11.length:Int))),(53,.v (.int .i64 c22)),(54,.v (.bool (decide (c22 < (v11.length:Int)))))] [some ⟨1,4,(c21.map cdB.enc),false⟩] ?_;refine AE ?_;refine AU (b:=(decide (c22 < (v11.length:Int)))) kr (fun hb23=>?_) (fun hb23=>?_)
  ·rw [if_pos hb23] at h
   refine AX ?_;refine AE ?_;refine AQ ?_;refine AE ?_;obtain ⟨v24,hv24,h⟩:=OB h;refine AI (s1:=⟨Fr 91 [(0,.v (.int .i64 x0)),(1,.sl 1 (x1.map cdI.enc)),(7,.v (.int .i64 c18)),(8,.v (.bool c19)),(9,.v (.bool c20)),(10,.rf 0 0 c21.length c21.length),(14,.v (.int .i64 v24)),(27,.sl 1 (x2.map (cdL 1 cdI).enc)),(28,.v (.int .i64 (x2.length:Int))),(29,.v (.int .i64 c9)),(51,.sl 1 (v11.map cdI.enc)),(52,.v (.int .i64 (v11.length:Int))),(53,.v (.int .i64 c22))],[some ⟨1,4,(c21.map cdB.enc),false⟩]⟩) ?_ ?_
   ·refine AJ he 0 rfl (Am (AA rfl) rfl (AF (a:= .sl 1 (v11.map cdI.enc)) (b:= .v (.int .i64 c22)) kr kr (DT (e:=cdI.enc) (el:=3) (k:=1) (ki:= .i64) kr kr hv24))) ?_
    exact AK he
   refine AE ?_;refine AE ?_;obtain ⟨j27,hj27,h⟩:=OB h;refine AI (s1:=⟨Fr 91 [(0,.v (.int .i64 x0)),(1,.sl 1 (x1.map cdI.enc)),(7,.v (.int .i64 c18)),(8,.v (.bool c19)),(9,.v (.bool c20)),(10,.rf 0 0 j27.1.length j27.1.length),(14,.v (.int .i64 v24)),(27,.sl 1 (x2.map (cdL 1 cdI).enc)),(28,.v (.int .i64 (x2.length:Int))),(29,.v (.int .i64 c9)),(51,.sl 1 (v11.map cdI.enc)),(52,.v (.int .i64 (v11.length:Int))),(53,.v (.int .i64 c22)),(63,.v (.bool j27.2))],[some ⟨1,4,(j27.1.map cdB.enc),false⟩]⟩) ?_ ?_
   ·refine AB (n:=91) he 3 [(0,.v (.int .i64 x0)),(1,.sl 1 (x1.map cdI.enc)),(7,.v (.int .i64 c18)),(8,.v (.bool c19)),(9,.v (.bool c20)),(10,.rf 0 0 c21.length c21.length),(14,.v (.int .i64 v24)),(27,.sl 1 (x2.map (cdL 1 cdI).enc)),(28,.v (.int .i64 (x2.length:Int))),(29,.v (.int .i64 c9)),(51,.sl 1 (v11.map cdI.enc)),(52,.v (.int .i64 (v11.length:Int))),(53,.v (.int .i64 c22)),(59,.v (.bool (decide (v24 < 0))))] [some ⟨1,4,(c21.map cdB.enc),false⟩] kr ?_
    rcases BE (decide (v24 < 0)) with hc39 | hc39
    ·rw [if_pos hc39] at hj27
     rw [hc39];refine AB (n:=91) he 4 [(0,.v (.int .i64 x0)),(1,.sl 1 (x1.map cdI.enc)),(7,.v (.int .i64 c18)),(8,.v (.bool c19)),(9,.v (.bool c20)),(10,.rf 0 0 c21.length c21.length),(14,.v (.int .i64 v24)),(27,.sl 1 (x2.map (cdL 1 cdI).enc)),(28,.v (.int .i64 (x2.length:Int))),(29,.v (.int .i64 c9)),(51,.sl 1 (v11.map cdI.enc)),(52,.v (.int .i64 (v11.length:Int))),(53,.v (.int .i64 c22)),(60,.tp []),(61,.tp []),(62,.tp []),(63,.v (.bool true))] [some ⟨1,4,(c21.map cdB.enc),false⟩] kr ?_;have hq:=OI hj27; subst hq;exact AO rfl (Ac [0] ⟨⟨_,rfl,Ai⟩,trivial⟩ ⟨lv,lv,lv,lv,lv,lv,lv,lv,lv,lv,lv,lv,lv,lv,trivial⟩)
    ·rw [B9 hc39] at hj27
     rw [hc39];refine AB (n:=91) he 4 [(0,.v (.int .i64 x0)),(1,.sl 1 (x1.map cdI.enc)),(7,.v (.int .i64 c18)),(8,.v (.bool c19)),(9,.v (.bool c20)),(10,.rf 0 0 c21.length c21.length),(14,.v (.int .i64 v24)),(27,.sl 1 (x2.map (cdL 1 cdI).enc)),(28,.v (.int .i64 (x2.length:Int))),(29,.v (.int .i64 c9)),(51,.sl 1 (v11.map cdI.enc)),(52,.v (.int .i64 (v11.length:Int))),(53,.v (.int .i64 c22)),(60,.v (.int .i64 v24)),(61,.v (.int .i64 x0)),(62,.v (.bool (decide (v24≥x0)))),(63,.v (.bool (decide (v24≥x0))))] [some ⟨1,4,(c21.map cdB.enc),false⟩] kr ?_;have hq:=OI hj27; subst hq;exact AO rfl (Ac [0] ⟨⟨_,rfl,Ai⟩,trivial⟩ ⟨lv,lv,lv,lv,lv,lv,lv,lv,lv,lv,lv,lv,lv,lv,trivial⟩)
   refine AU (b:=j27.2) kr (fun hb28=>?_) (fun hb28=>?_)
   ·rw [if_pos hb28] at h
    refine AN he [(0,.v (.int .i64 x0)),(1,.sl 1 (x1.map cdI.enc)),(7,.v (.int .i64 c18)),(8,.v (.bool c19)),(9,.v (.bool true)),(10,.rf 0 0 j27.1.length j27.1.length),(27,.sl 1 (x2.map (cdL 1 cdI).enc)),(28,.v (.int .i64 (x2.length:Int))),(29,.v (.int .i64 c9)),(51,.sl 1 (v11.map cdI.enc)),(52,.v (.int .i64 (v11.length:Int))),(53,.v (.int .i64 c22))] [some ⟨1,4,(j27.1.map cdB.enc),false⟩] ?_;refine Ba ?_;refine Cq he [(0,.v (.int .i64 x0)),(1,.sl 1 (x1.map cdI.enc)),(7,.v (.int .i64 c18)),(8,.v (.bool c19)),(9,.v (.bool true)),(10,.rf 0 0 j27.1.length j27.1.length),(27,.sl 1 (x2.map (cdL 1 cdI).enc)),(28,.v (.int .i64 (x2.length:Int))),(29,.v (.int .i64 c9)),(51,.sl 1 (v11.map cdI.enc)),(52,.v (.int .i64 (v11.length:Int))),(53,.v (.int .i64 (wr .i64 (c22 + 1))))] [some ⟨1,4,(j27.1.map cdB.enc),false⟩] ?_;exact Ae (s1:=⟨Fr 91 [(0,.v (.int .i64 x0)),(1,.sl 1 (x1.map cdI.enc)),(7,.v (.int .i64 c18)),(8,.v (.bool c19)),(9,.v (.bool true)),(10,.rf 0 0 j27.1.length j27.1.length),(27,.sl 1 (x2.map (cdL 1 cdI).enc)),(28,.v (.int .i64 (x2.length:Int))),(29,.v (.int .i64 c9)),(51,.sl 1 (v11.map cdI.enc)),(52,.v (.int .i64 (v11.length:Int))),(53,.v (.int .i64 (wr .i64 (c22 + 1))))],[some ⟨1,4,(j27.1.map cdB.enc),false⟩]⟩) (Ac [0] ⟨⟨_,rfl,Ai⟩,trivial⟩ ⟨lv,lv,lv,lv,lv,lv,lv,lv,lv,lv,lv,lv,trivial⟩) (ih c18 c19 true j27.1 (wr .i64 (c22 + 1)) h)
   ·rw [B9 hb28] at h
    refine AX ?_;refine AE ?_;obtain ⟨j32,hj32,h⟩:=OB h;refine AI (s1:=⟨Fr 91 [(0,.v (.int .i64 x0)),(1,.sl 1 (x1.map cdI.enc)),(7,.v (.int .i64 c18)),(8,.v (.bool j32.1)),(9,.v (.bool c20)),(10,.rf 0 0 j32.2.length j32.2.length),(14,.v (.int .i64 v24)),(27,.sl 1 (x2.map (cdL 1 cdI).enc)),(28,.v (.int .i64 (x2.length:Int))),(29,.v (.int .i64 c9)),(51,.sl 1 (v11.map cdI.enc)),(52,.v (.int .i64 (v11.length:Int))),(53,.v (.int .i64 c22))],[some ⟨1,4,(j32.2.map cdB.enc),false⟩]⟩) ?_ ?_
    ·refine AB (n:=91) he 2 [(0,.v (.int .i64 x0)),(1,.sl 1 (x1.map cdI.enc)),(7,.v (.int .i64 c18)),(9,.v (.bool c20)),(10,.rf 0 0 j27.1.length j27.1.length),(14,.v (.int .i64 v24)),(27,.sl 1 (x2.map (cdL 1 cdI).enc)),(28,.v (.int .i64 (x2.length:Int))),(29,.v (.int .i64 c9)),(51,.sl 1 (v11.map cdI.enc)),(52,.v (.int .i64 (v11.length:Int))),(53,.v (.int .i64 c22)),(65,.v (.bool c19))] [some ⟨1,4,(j27.1.map cdB.enc),false⟩] kr ?_
     rcases BE c19 with hc38 | hc38
     ·rw [if_pos hc38] at hj32
      rw [hc38];refine AB (n:=91) he 6 [(0,.v (.int .i64 x0)),(1,.sl 1 (x1.map cdI.enc)),(7,.v (.int .i64 c18)),(8,.v (.bool true)),(9,.v (.bool c20)),(10,.rf 0 0 j27.1.length j27.1.length),(14,.v (.int .i64 v24)),(27,.sl 1 (x2.map (cdL 1 cdI).enc)),(28,.v (.int .i64 (x2.length:Int))),(29,.v (.int .i64 c9)),(51,.sl 1 (v11.map cdI.enc)),(52,.v (.int .i64 (v11.length:Int))),(53,.v (.int .i64 c22)),(66,.tp []),(67,.tp []),(68,.tp []),(69,.tp [])] [some ⟨1,4,(j27.1.map cdB.enc),false⟩] kr ?_;have hq:=OI hj32; subst hq;exact AO rfl (Ac [0] ⟨⟨_,rfl,Ai⟩,trivial⟩ ⟨lv,lv,lv,lv,lv,lv,lv,lv,lv,lv,lv,lv,lv,trivial⟩)
     ·rw [B9 hc38] at hj32
      rw [hc38];refine AB (n:=91) he 2 [(0,.v (.int .i64 x0)),(1,.sl 1 (x1.map cdI.enc)),(7,.v (.int .i64 c18)),(9,.v (.bool c20)),(10,.rf 0 0 j27.1.length j27.1.length),(14,.v (.int .i64 v24)),(27,.sl 1 (x2.map (cdL 1 cdI).enc)),(28,.v (.int .i64 (x2.length:Int))),(29,.v (.int .i64 c9)),(51,.sl 1 (v11.map cdI.enc)),(52,.v (.int .i64 (v11.length:Int))),(53,.v (.int .i64 c22)),(65,.v (.bool false)),(66,.rf 0 0 j27.1.length j27.1.length),(67,.v (.int .i64 v24))] [some ⟨1,4,(j27.1.map cdB.enc),false⟩] kr ?_;obtain ⟨v29,hv29,hj32⟩:=OB hj32;refine AJ he 0 rfl (Am kr rfl (AF (a:= .rf 0 0 j27.1.length j27.1.length) (b:= .v (.int .i64 v24)) kr kr (LF (e:=cdB.enc) (xs:=j27.1) (t':=4) (el:=4) (k:=1) (ki:= .i64) kr kr kr hv29))) ?_;refine AJ he 0 rfl (Am kr rfl (A0 (p:= .pt 0 v24.toNat 0) kr (Jr (B:=⟨1,4,(j27.1.map cdB.enc),false⟩) (m:=1) (g:=false) (e:=cdB.enc) (xs:=j27.1) kr kr kr rfl (AW hv29).2 kr))) ?_;refine AB (n:=91) he 2 [(0,.v (.int .i64 x0)),(1,.sl 1 (x1.map cdI.enc)),(7,.v (.int .i64 c18)),(8,.v (.bool v29)),(9,.v (.bool c20)),(10,.rf 0 0 j27.1.length j27.1.length),(14,.v (.int .i64 v24)),(27,.sl 1 (x2.map (cdL 1 cdI).enc)),(28,.v (.int .i64 (x2.length:Int))),(29,.v (.int .i64 c9)),(51,.sl 1 (v11.map cdI.enc)),(52,.v (.int .i64 (v11.length:Int))),(53,.v (.int .i64 c22)),(66,.rf 0 0 j27.1.length j27.1.length),(67,.v (.int .i64 v24)),(68,.pt 0 v24.toNat 0),(69,.v (.bool v29))] [some ⟨1,4,(j27.1.map cdB.enc),false⟩] kr ?_;have hq:=OI hj32; subst hq;exact AO rfl (Ac [0] ⟨⟨_,rfl,Ai⟩,trivial⟩ ⟨lv,lv,lv,lv,lv,lv,lv,lv,lv,lv,lv,lv,lv,trivial⟩)
    refine AE ?_;refine AE ?_;obtain ⟨v33,hv33,h⟩:=OB h;refine AI (s1:=⟨Fr 91 [(0,.v (.int .i64 x0)),(1,.sl 1 (x1.map cdI.enc)),(7,.v (.int .i64 c18)),(8,.v (.bool j32.1)),(9,.v (.bool c20)),(10,.rf 0 0 j32.2.length j32.2.length),(14,.v (.int .i64 v24)),(27,.sl 1 (x2.map (cdL 1 cdI).enc)),(28,.v (.int .i64 (x2.length:Int))),(29,.v (.int .i64 c9)),(51,.sl 1 (v11.map cdI.enc)),(52,.v (.int .i64 (v11.length:Int))),(53,.v (.int .i64 c22)),(75,.v (.bool (!v33)))],[some ⟨1,4,(j32.2.map cdB.enc),false⟩]⟩) ?_ ?_
    ·refine AB (n:=91) he 2 [(0,.v (.int .i64 x0)),(1,.sl 1 (x1.map cdI.enc)),(7,.v (.int .i64 c18)),(8,.v (.bool j32.1)),(9,.v (.bool c20)),(10,.rf 0 0 j32.2.length j32.2.length),(14,.v (.int .i64 v24)),(27,.sl 1 (x2.map (cdL 1 cdI).enc)),(28,.v (.int .i64 (x2.length:Int))),(29,.v (.int .i64 c9)),(51,.sl 1 (v11.map cdI.enc)),(52,.v (.int .i64 (v11.length:Int))),(53,.v (.int .i64 c22)),(71,.rf 0 0 j32.2.length j32.2.length),(72,.v (.int .i64 v24))] [some ⟨1,4,(j32.2.map cdB.enc),false⟩] kr ?_
     refine AJ he 0 rfl (Am (AA rfl) rfl (AF (a:= .rf 0 0 j32.2.length j32.2.length) (b:= .v (.int .i64 v24)) kr kr (LF (e:=cdB.enc) (xs:=j32.2) (t':=4) (el:=4) (k:=1) (ki:= .i64) kr kr kr hv33))) ?_;refine AJ he 0 rfl (Am (AA rfl) rfl (A0 (p:= .pt 0 v24.toNat 0) kr (Jr (B:=⟨1,4,(j32.2.map cdB.enc),false⟩) (m:=1) (g:=false) (e:=cdB.enc) (xs:=j32.2) kr kr kr rfl (AW hv33).2 kr))) ?_;exact AK he
    obtain ⟨r36,hr36,h⟩:=OB h;refine Ni (Ln x0 x1 x2 c9 v11 c18 c20 c22 v24 j32 v33 _ hr36) ?_;obtain ⟨v37,hv37,h⟩:=OB h;refine AI (s1:=⟨Fr 91 [(0,.v (.int .i64 x0)),(1,.sl 1 (x1.map cdI.enc)),(7,.v (.int .i64 r36)),(8,.v (.bool j32.1)),(9,.v (.bool c20)),(10,.rf 0 0 (j32.2.set v24.toNat true).length (j32.2.set v24.toNat true).length),(27,.sl 1 (x2.map (cdL 1 cdI).enc)),(28,.v (.int .i64 (x2.length:Int))),(29,.v (.int .i64 c9)),(51,.sl 1 (v11.map cdI.enc)),(52,.v (.int .i64 (v11.length:Int))),(53,.v (.int .i64 c22))],[some ⟨1,4,((j32.2.set v24.toNat true).map cdB.enc),false⟩]⟩) ?_ ?_
    ·refine AB (n:=91) he 2 [(0,.v (.int .i64 x0)),(1,.sl 1 (x1.map cdI.enc)),(7,.v (.int .i64 r36)),(8,.v (.bool j32.1)),(9,.v (.bool c20)),(10,.rf 0 0 j32.2.length j32.2.length),(27,.sl 1 (x2.map (cdL 1 cdI).enc)),(28,.v (.int .i64 (x2.length:Int))),(29,.v (.int .i64 c9)),(51,.sl 1 (v11.map cdI.enc)),(52,.v (.int .i64 (v11.length:Int))),(53,.v (.int .i64 c22)),(78,.rf 0 0 j32.2.length j32.2.length),(79,.v (.int .i64 v24))] [some ⟨1,4,(j32.2.map cdB.enc),false⟩] kr ?_
     refine AJ he 0 rfl (Am (AA rfl) rfl (AF (a:= .rf 0 0 j32.2.length j32.2.length) (b:= .v (.int .i64 v24)) kr kr (LF (e:=cdB.enc) (xs:=j32.2) (t':=4) (el:=4) (k:=1) (ki:= .i64) kr kr kr hv37))) ?_;refine RunS.store he (y:= .pt 0 v24.toNat 0) (z:= .v (.bool true)) rfl (AA rfl) kr kr (M4 (t':=4) (k:=1) (e:=cdB.enc) (xs:=j32.2) (v:=v37) (v':=true) kr (AW hv37).2 kr kr kr) ?_;exact AO rfl (Ac [0] ⟨⟨_,rfl,Ai⟩,trivial⟩ ⟨lv,lv,lv,lv,lv,UV (b':=0) (n:=j32.2.length) kr (by simp) kr,lv,lv,lv,lv,lv,lv,trivial⟩)
    refine Cq he [(0,.v (.int .i64 x0)),(1,.sl 1 (x1.map cdI.enc)),(7,.v (.int .i64 r36)),(8,.v (.bool j32.1)),(9,.v (.bool c20)),(10,.rf 0 0 (j32.2.set v24.toNat true).length (j32.2.set v24.toNat true).length),(27,.sl 1 (x2.map (cdL 1 cdI).enc)),(28,.v (.int .i64 (x2.length:Int))),(29,.v (.int .i64 c9)),(51,.sl 1 (v11.map cdI.enc)),(52,.v (.int .i64 (v11.length:Int))),(53,.v (.int .i64 (wr .i64 (c22 + 1))))] [some ⟨1,4,((j32.2.set v24.toNat true).map cdB.enc),false⟩] ?_;exact Ae (s1:=⟨Fr 91 [(0,.v (.int .i64 x0)),(1,.sl 1 (x1.map cdI.enc)),(7,.v (.int .i64 r36)),(8,.v (.bool j32.1)),(9,.v (.bool c20)),(10,.rf 0 0 (j32.2.set v24.toNat true).length (j32.2.set v24.toNat true).length),(27,.sl 1 (x2.map (cdL 1 cdI).enc)),(28,.v (.int .i64 (x2.length:Int))),(29,.v (.int .i64 c9)),(51,.sl 1 (v11.map cdI.enc)),(52,.v (.int .i64 (v11.length:Int))),(53,.v (.int .i64 (wr .i64 (c22 + 1))))],[some ⟨1,4,((j32.2.set v24.toNat true).map cdB.enc),false⟩]⟩) (Ac [0] ⟨⟨_,rfl,Ai⟩,trivial⟩ ⟨lv,lv,lv,lv,lv,lv,lv,lv,lv,lv,lv,lv,trivial⟩) (ih r36 j32.1 c20 (j32.2.set v24.toNat true) (wr .i64 (c22 + 1)) h)
  ·rw [B9 hb23] at h
   refine Ba ?_;have hq:=OI h; subst hq;exact ⟨rfl,(Ac [0] ⟨⟨_,rfl,Ai⟩,trivial⟩ ⟨lv,lv,lv,lv,lv,lv,lv,lv,lv,trivial⟩)⟩
theorem Ij (x0:Int) (x1:(List Int)) (x2:(List (List Int))):∀ (f:Nat) (c5:Int) (c6:Bool) (c7:Bool) (c8:(List Bool)) (c9:Int) (r:(Int×Bool×Bool) ⊕ (Int)),DJ x0 x1 x2 f c5 c6 c7 c8 c9=some r->SemN BS ⟨none,false⟩ (pc EX [1,1,1,1,0,1,0,0]) f ⟨Fr 91 [(0,.v (.int .i64 x0)),(1,.sl 1 (x1.map cdI.enc)),(7,.v (.int .i64 c5)),(8,.v (.bool c6)),(9,.v (.bool c7)),(10,.rf 0 0 c8.length c8.length),(27,.sl 1 (x2.map (cdL 1 cdI).enc)),(28,.v (.int .i64 (x2.length:Int))),(29,.v (.int .i64 c9))],[some ⟨1,4,(c8.map cdB.enc),false⟩]⟩ (fun e s=>match r with
 | (.inl w)=>e=(.exit 0)/\Wk BS s ⟨Fr 91 [(0,.v (.int .i64 x0)),(7,.v (.int .i64 w.1)),(8,.v (.bool w.2.1)),(9,.v (.bool w.2.2))],[]⟩
 | (.inr w)=>e = .ret/\Wk BS s ⟨Fr 91 [(6,.v (.int .i64 w))],[]⟩):=by
 have he:=De
 intro f;induction f with
 | zero=>intro c5 c6 c7 c8 c9 r h; cases h
 | succ f ih0 =>
  intro c5 c6 c7 c8 c9 r h
  have ih:=fun (c5:Int) (c6:Bool) (c7:Bool) (c8:(List Bool)) (c9:Int)=>ih0 c5 c6 c7 c8 c9 r
  unfold DJ at h;refine BJ ?_;refine AN he [(0,.v (.int .i64 x0)),(1,.sl 1 (x1.map cdI.enc)),(7,.v (.int .i64 c5)),(8,.v (.bool c6)),(9,.v (.bool c7)),(10,.rf 0 0 c8.length c8.length),(27,.sl 1 (x2.map (cdL 1 cdI).enc)),(28,.v (.int .i64 (x2.length:Int))),(29,.v (.int .i64 c9)),(30,.v (.bool (decide (c9 < (x2.length:Int)))))] [some ⟨1,4,(c8.map cdB.enc),false⟩] ?_;refine AE ?_;refine AU (b:=(decide (c9 < (x2.length:Int)))) kr (fun hb10=>?_) (fun hb10=>?_)
  ·rw [if_pos hb10] at h
   refine AX ?_;refine AE ?_;refine AQ ?_;refine AE ?_;obtain ⟨v11,hv11,h⟩:=OB h;refine AI (s1:=⟨Fr 91 [(0,.v (.int .i64 x0)),(1,.sl 1 (x1.map cdI.enc)),(7,.v (.int .i64 c5)),(8,.v (.bool c6)),(9,.v (.bool c7)),(10,.rf 0 0 c8.length c8.length),(11,.v (.int .i64 c9)),(12,.sl 1 (v11.map cdI.enc)),(27,.sl 1 (x2.map (cdL 1 cdI).enc)),(28,.v (.int .i64 (x2.length:Int))),(29,.v (.int .i64 c9))],[some ⟨1,4,(c8.map cdB.enc),false⟩]⟩) ?_ ?_
   ·refine AB (n:=91) he 1 [(0,.v (.int .i64 x0)),(1,.sl 1 (x1.map cdI.enc)),(7,.v (.int .i64 c5)),(8,.v (.bool c6)),(9,.v (.bool c7)),(10,.rf 0 0 c8.length c8.length),(27,.sl 1 (x2.map (cdL 1 cdI).enc)),(28,.v (.int .i64 (x2.length:Int))),(29,.v (.int .i64 c9)),(31,.v (.int .i64 c9))] [some ⟨1,4,(c8.map cdB.enc),false⟩] kr ?_
    refine AJ he 0 rfl (Am (AA rfl) rfl (AF (a:= .sl 1 (x2.map (cdL 1 cdI).enc)) (b:= .v (.int .i64 c9)) kr kr (DT (e:=(cdL 1 cdI).enc) (el:=31) (k:=1) (ki:= .i64) kr kr hv11))) ?_;exact AK he
   refine AE ?_;refine AE ?_;obtain ⟨j15,hj15,h⟩:=OB h;refine AI (s1:=⟨Fr 91 [(0,.v (.int .i64 x0)),(1,.sl 1 (x1.map cdI.enc)),(7,.v (.int .i64 c5)),(8,.v (.bool c6)),(9,.v (.bool c7)),(10,.rf 0 0 j15.1.length j15.1.length),(12,.sl 1 (v11.map cdI.enc)),(27,.sl 1 (x2.map (cdL 1 cdI).enc)),(28,.v (.int .i64 (x2.length:Int))),(29,.v (.int .i64 c9)),(50,.v (.bool j15.2))],[some ⟨1,4,(j15.1.map cdB.enc),false⟩]⟩) ?_ ?_
   ·refine AB (n:=91) he 1 [(0,.v (.int .i64 x0)),(1,.sl 1 (x1.map cdI.enc)),(7,.v (.int .i64 c5)),(8,.v (.bool c6)),(9,.v (.bool c7)),(10,.rf 0 0 c8.length c8.length),(11,.v (.int .i64 c9)),(12,.sl 1 (v11.map cdI.enc)),(27,.sl 1 (x2.map (cdL 1 cdI).enc)),(28,.v (.int .i64 (x2.length:Int))),(29,.v (.int .i64 c9)),(34,.sl 1 (v11.map cdI.enc))] [some ⟨1,4,(c8.map cdB.enc),false⟩] kr ?_
    refine AJ he 0 rfl (Am (AA rfl) rfl (BZ (a:= .sl 1 (v11.map cdI.enc)) kr (Aw (el:=3) kr))) ?_;refine AB (n:=91) he 2 [(0,.v (.int .i64 x0)),(1,.sl 1 (x1.map cdI.enc)),(7,.v (.int .i64 c5)),(8,.v (.bool c6)),(9,.v (.bool c7)),(10,.rf 0 0 c8.length c8.length),(11,.v (.int .i64 c9)),(12,.sl 1 (v11.map cdI.enc)),(27,.sl 1 (x2.map (cdL 1 cdI).enc)),(28,.v (.int .i64 (x2.length:Int))),(29,.v (.int .i64 c9)),(37,.v (.bool ((v11.length:Int)==0)))] [some ⟨1,4,(c8.map cdB.enc),false⟩] kr ?_;rcases BE ((v11.length:Int)==0) with hc45 | hc45
    ·rw [if_pos hc45] at hj15
     rw [hc45];refine AB (n:=91) he 13 [(0,.v (.int .i64 x0)),(1,.sl 1 (x1.map cdI.enc)),(7,.v (.int .i64 c5)),(8,.v (.bool c6)),(9,.v (.bool c7)),(10,.rf 0 0 c8.length c8.length),(12,.sl 1 (v11.map cdI.enc)),(27,.sl 1 (x2.map (cdL 1 cdI).enc)),(28,.v (.int .i64 (x2.length:Int))),(29,.v (.int .i64 c9)),(38,.tp []),(39,.tp []),(40,.tp []),(41,.tp []),(42,.tp []),(43,.tp []),(44,.tp []),(45,.tp []),(46,.tp []),(47,.tp []),(48,.tp []),(49,.tp []),(50,.v (.bool true))] [some ⟨1,4,(c8.map cdB.enc),false⟩] kr ?_;have hq:=OI hj15; subst hq;exact AO rfl (Ac [0] ⟨⟨_,rfl,Ai⟩,trivial⟩ ⟨lv,lv,lv,lv,lv,lv,lv,lv,lv,lv,lv,trivial⟩)
    ·rw [B9 hc45] at hj15
     rw [hc45];refine AB (n:=91) he 1 [(0,.v (.int .i64 x0)),(1,.sl 1 (x1.map cdI.enc)),(7,.v (.int .i64 c5)),(8,.v (.bool c6)),(9,.v (.bool c7)),(10,.rf 0 0 c8.length c8.length),(11,.v (.int .i64 c9)),(12,.sl 1 (v11.map cdI.enc)),(27,.sl 1 (x2.map (cdL 1 cdI).enc)),(28,.v (.int .i64 (x2.length:Int))),(29,.v (.int .i64 c9)),(37,.v (.bool false)),(38,.sl 1 (x1.map cdI.enc))] [some ⟨1,4,(c8.map cdB.enc),false⟩] kr ?_;refine AJ he 0 rfl (Am kr rfl (BZ (a:= .sl 1 (x1.map cdI.enc)) kr (Aw (el:=3) kr))) ?_;refine AB (n:=91) he 2 [(0,.v (.int .i64 x0)),(1,.sl 1 (x1.map cdI.enc)),(7,.v (.int .i64 c5)),(8,.v (.bool c6)),(9,.v (.bool c7)),(10,.rf 0 0 c8.length c8.length),(11,.v (.int .i64 c9)),(12,.sl 1 (v11.map cdI.enc)),(27,.sl 1 (x2.map (cdL 1 cdI).enc)),(28,.v (.int .i64 (x2.length:Int))),(29,.v (.int .i64 c9)),(37,.v (.bool false)),(38,.sl 1 (x1.map cdI.enc)),(39,.v (.int .i64 (x1.length:Int))),(40,.v (.bool (decide ((x1.length:Int) > 0)))),(41,.v (.bool (decide ((x1.length:Int) > 0))))] [some ⟨1,4,(c8.map cdB.enc),false⟩] kr ?_;rcases BE (decide ((x1.length:Int) > 0)) with hc46 | hc46
     ·rw [if_pos hc46] at hj15
      rw [hc46];refine AB (n:=91) he 1 [(0,.v (.int .i64 x0)),(1,.sl 1 (x1.map cdI.enc)),(7,.v (.int .i64 c5)),(8,.v (.bool c6)),(9,.v (.bool c7)),(10,.rf 0 0 c8.length c8.length),(11,.v (.int .i64 c9)),(12,.sl 1 (v11.map cdI.enc)),(27,.sl 1 (x2.map (cdL 1 cdI).enc)),(28,.v (.int .i64 (x2.length:Int))),(29,.v (.int .i64 c9)),(37,.v (.bool false)),(38,.sl 1 (x1.map cdI.enc)),(39,.v (.int .i64 (x1.length:Int))),(40,.v (.bool true)),(41,.v (.bool true)),(42,.sl 1 (v11.map cdI.enc))] [some ⟨1,4,(c8.map cdB.enc),false⟩] kr ?_;refine AJ he 0 rfl (Am kr rfl (BZ (a:= .sl 1 (v11.map cdI.enc)) kr (Aw (el:=3) kr))) ?_;refine AB (n:=91) he 2 [(0,.v (.int .i64 x0)),(1,.sl 1 (x1.map cdI.enc)),(7,.v (.int .i64 c5)),(8,.v (.bool c6)),(9,.v (.bool c7)),(10,.rf 0 0 c8.length c8.length),(12,.sl 1 (v11.map cdI.enc)),(27,.sl 1 (x2.map (cdL 1 cdI).enc)),(28,.v (.int .i64 (x2.length:Int))),(29,.v (.int .i64 c9)),(37,.v (.bool false)),(38,.sl 1 (x1.map cdI.enc)),(39,.v (.int .i64 (x1.length:Int))),(40,.v (.bool true)),(41,.v (.bool true)),(42,.sl 1 (v11.map cdI.enc)),(43,.v (.int .i64 (v11.length:Int))),(44,.sl 1 (x1.map cdI.enc)),(45,.v (.int .i64 c9))] [some ⟨1,4,(c8.map cdB.enc),false⟩] kr ?_;obtain ⟨v12,hv12,hj15⟩:=OB hj15;refine AJ he 0 rfl (Am kr rfl (AF (a:= .sl 1 (x1.map cdI.enc)) (b:= .v (.int .i64 c9)) kr kr (DT (e:=cdI.enc) (el:=3) (k:=1) (ki:= .i64) kr kr hv12))) ?_;refine AB (n:=91) he 4 [(0,.v (.int .i64 x0)),(1,.sl 1 (x1.map cdI.enc)),(7,.v (.int .i64 c5)),(8,.v (.bool c6)),(9,.v (.bool c7)),(10,.rf 0 0 c8.length c8.length),(12,.sl 1 (v11.map cdI.enc)),(27,.sl 1 (x2.map (cdL 1 cdI).enc)),(28,.v (.int .i64 (x2.length:Int))),(29,.v (.int .i64 c9)),(38,.sl 1 (x1.map cdI.enc)),(39,.v (.int .i64 (x1.length:Int))),(40,.v (.bool true)),(41,.v (.bool true)),(42,.sl 1 (v11.map cdI.enc)),(43,.v (.int .i64 (v11.length:Int))),(44,.sl 1 (x1.map cdI.enc)),(45,.v (.int .i64 c9)),(46,.pe (.v (.int .i64 v12)) 0),(47,.v (.int .i64 v12)),(48,.v (.bool ((v11.length:Int)!=v12))),(49,.v (.bool ((v11.length:Int)!=v12))),(50,.v (.bool ((v11.length:Int)!=v12)))] [some ⟨1,4,(c8.map cdB.enc),false⟩] kr ?_
      have hq:=OI hj15; subst hq;exact AO rfl (Ac [0] ⟨⟨_,rfl,Ai⟩,trivial⟩ ⟨lv,lv,lv,lv,lv,lv,lv,lv,lv,lv,lv,trivial⟩)
     ·rw [B9 hc46] at hj15
      rw [hc46];refine AB (n:=91) he 9 [(0,.v (.int .i64 x0)),(1,.sl 1 (x1.map cdI.enc)),(7,.v (.int .i64 c5)),(8,.v (.bool c6)),(9,.v (.bool c7)),(10,.rf 0 0 c8.length c8.length),(12,.sl 1 (v11.map cdI.enc)),(27,.sl 1 (x2.map (cdL 1 cdI).enc)),(28,.v (.int .i64 (x2.length:Int))),(29,.v (.int .i64 c9)),(38,.sl 1 (x1.map cdI.enc)),(39,.v (.int .i64 (x1.length:Int))),(40,.v (.bool false)),(41,.v (.bool false)),(42,.tp []),(43,.tp []),(44,.tp []),(45,.tp []),(46,.tp []),(47,.tp []),(48,.tp []),(49,.v (.bool false)),(50,.v (.bool false))] [some ⟨1,4,(c8.map cdB.enc),false⟩] kr ?_;have hq:=OI hj15; subst hq;exact AO rfl (Ac [0] ⟨⟨_,rfl,Ai⟩,trivial⟩ ⟨lv,lv,lv,lv,lv,lv,lv,lv,lv,lv,lv,trivial⟩)
   refine AU (b:=j15.2) kr (fun hb16=>?_) (fun hb16=>?_)
   ·rw [if_pos hb16] at h
    refine AE ?_;refine AI (s1:=⟨Fr 91 [(6,.v (.int .i64 2))],[]⟩) ?_ ?_
    ·refine AB (n:=91) he 1 [(6,.v (.int .i64 2))] [some ⟨1,4,(j15.1.map cdB.enc),false⟩] kr ?_
     exact AO rfl (Ac [] trivial ⟨lv,trivial⟩)
    refine An ?_;have hq:=OI h; subst hq;exact ⟨rfl,Ah⟩
   ·rw [B9 hb16] at h
    refine AX ?_;refine AE ?_;refine AI (s1:=⟨Fr 91 [(0,.v (.int .i64 x0)),(1,.sl 1 (x1.map cdI.enc)),(7,.v (.int .i64 c5)),(8,.v (.bool c6)),(9,.v (.bool c7)),(10,.rf 0 0 j15.1.length j15.1.length),(27,.sl 1 (x2.map (cdL 1 cdI).enc)),(28,.v (.int .i64 (x2.length:Int))),(29,.v (.int .i64 c9)),(51,.sl 1 (v11.map cdI.enc)),(52,.v (.int .i64 (v11.length:Int))),(53,.v (.int .i64 0))],[some ⟨1,4,(j15.1.map cdB.enc),false⟩]⟩) ?_ ?_
    ·refine AB (n:=91) he 1 [(0,.v (.int .i64 x0)),(1,.sl 1 (x1.map cdI.enc)),(7,.v (.int .i64 c5)),(8,.v (.bool c6)),(9,.v (.bool c7)),(10,.rf 0 0 j15.1.length j15.1.length),(27,.sl 1 (x2.map (cdL 1 cdI).enc)),(28,.v (.int .i64 (x2.length:Int))),(29,.v (.int .i64 c9)),(51,.sl 1 (v11.map cdI.enc))] [some ⟨1,4,(j15.1.map cdB.enc),false⟩] kr ?_
     refine AJ he 0 rfl (Am (AA rfl) rfl (BZ (a:= .sl 1 (v11.map cdI.enc)) kr (Aw (el:=3) kr))) ?_;exact AK he
    refine AQ ?_;obtain ⟨r44,hr44,h⟩:=OB h;refine Bm (n:=100000) ?_;refine BD (Ae (s1:=⟨Fr 91 [(0,.v (.int .i64 x0)),(1,.sl 1 (x1.map cdI.enc)),(7,.v (.int .i64 c5)),(8,.v (.bool c6)),(9,.v (.bool c7)),(10,.rf 0 0 j15.1.length j15.1.length),(27,.sl 1 (x2.map (cdL 1 cdI).enc)),(28,.v (.int .i64 (x2.length:Int))),(29,.v (.int .i64 c9)),(51,.sl 1 (v11.map cdI.enc)),(52,.v (.int .i64 (v11.length:Int))),(53,.v (.int .i64 0))],[some ⟨1,4,(j15.1.map cdB.enc),false⟩]⟩) (Ac [0] ⟨⟨_,rfl,Ai⟩,trivial⟩ ⟨lv,lv,lv,lv,lv,lv,lv,lv,lv,lv,lv,lv,trivial⟩) (MA x0 x1 x2 c9 v11 _ c5 c6 c7 j15.1 0 _ hr44)) ?_;refine Cq he [(0,.v (.int .i64 x0)),(1,.sl 1 (x1.map cdI.enc)),(7,.v (.int .i64 r44.1)),(8,.v (.bool r44.2.1)),(9,.v (.bool r44.2.2.1)),(10,.rf 0 0 r44.2.2.2.length r44.2.2.2.length),(27,.sl 1 (x2.map (cdL 1 cdI).enc)),(28,.v (.int .i64 (x2.length:Int))),(29,.v (.int .i64 (wr .i64 (c9 + 1))))] [some ⟨1,4,(r44.2.2.2.map cdB.enc),false⟩] ?_;exact Ae (s1:=⟨Fr 91 [(0,.v (.int .i64 x0)),(1,.sl 1 (x1.map cdI.enc)),(7,.v (.int .i64 r44.1)),(8,.v (.bool r44.2.1)),(9,.v (.bool r44.2.2.1)),(10,.rf 0 0 r44.2.2.2.length r44.2.2.2.length),(27,.sl 1 (x2.map (cdL 1 cdI).enc)),(28,.v (.int .i64 (x2.length:Int))),(29,.v (.int .i64 (wr .i64 (c9 + 1))))],[some ⟨1,4,(r44.2.2.2.map cdB.enc),false⟩]⟩) (Ac [0] ⟨⟨_,rfl,Ai⟩,trivial⟩ ⟨lv,lv,lv,lv,lv,lv,lv,lv,lv,trivial⟩) (ih r44.1 r44.2.1 r44.2.2.1 r44.2.2.2 (wr .i64 (c9 + 1)) h)
  ·rw [B9 hb10] at h
   refine Ba ?_;have hq:=OI h; subst hq;exact ⟨rfl,(Ac [] trivial ⟨lv,lv,lv,lv,trivial⟩)⟩
theorem Mh (x0:Int) (x1:(List Int)) (x2:(List (List Int))) (r:Int) (h:CX x0 x1 x2=some r):Sem BS ⟨none,false⟩ EX ⟨Fr 91 (Av 0 (EY.enc (x0,x1,x2,()))),[]⟩ fun e s'=>(e = .normal\/e = .ret)/\∃ xs,FA BS.P s'.fr s'.hp Tryd.f83.results.toList=some xs/\FZ xs=Eb r:=by
 have he:=De
 unfold CX at h;refine Bz (DX (s1:=⟨Fr 91 [(0,.v (.int .i64 x0)),(1,.sl 1 (x1.map cdI.enc)),(2,.sl 1 (x2.map (cdL 1 cdI).enc))],[]⟩) Ah ?_);refine AN he [(0,.v (.int .i64 x0)),(1,.sl 1 (x1.map cdI.enc)),(2,.sl 1 (x2.map (cdL 1 cdI).enc))] [] ?_;refine AE ?_;refine AE ?_;obtain ⟨j2,hj2,h⟩:=OB h;refine AI (s1:=⟨Fr 91 [(0,.v (.int .i64 x0)),(1,.sl 1 (x1.map cdI.enc)),(2,.sl 1 (x2.map (cdL 1 cdI).enc)),(24,.v (.bool j2))],[]⟩) ?_ ?_
 ·refine AB (n:=91) he 1 [(0,.v (.int .i64 x0)),(1,.sl 1 (x1.map cdI.enc)),(2,.sl 1 (x2.map (cdL 1 cdI).enc)),(15,.sl 1 (x1.map cdI.enc))] [] kr ?_
  refine AJ he 0 rfl (Am (AA rfl) rfl (BZ (a:= .sl 1 (x1.map cdI.enc)) kr (Aw (el:=3) kr))) ?_;refine AB (n:=91) he 2 [(0,.v (.int .i64 x0)),(1,.sl 1 (x1.map cdI.enc)),(2,.sl 1 (x2.map (cdL 1 cdI).enc)),(18,.v (.bool (decide ((x1.length:Int) > 0))))] [] kr ?_;rcases BE (decide ((x1.length:Int) > 0)) with hc56 | hc56
  ·rw [if_pos hc56] at hj2
   rw [hc56];refine AB (n:=91) he 1 [(0,.v (.int .i64 x0)),(1,.sl 1 (x1.map cdI.enc)),(2,.sl 1 (x2.map (cdL 1 cdI).enc)),(18,.v (.bool true)),(19,.sl 1 (x1.map cdI.enc))] [] kr ?_;refine AJ he 0 rfl (Am kr rfl (BZ (a:= .sl 1 (x1.map cdI.enc)) kr (Aw (el:=3) kr))) ?_;refine AB (n:=91) he 1 [(0,.v (.int .i64 x0)),(1,.sl 1 (x1.map cdI.enc)),(2,.sl 1 (x2.map (cdL 1 cdI).enc)),(18,.v (.bool true)),(20,.v (.int .i64 (x1.length:Int))),(21,.sl 1 (x2.map (cdL 1 cdI).enc))] [] kr ?_;refine AJ he 0 rfl (Am kr rfl (BZ (a:= .sl 1 (x2.map (cdL 1 cdI).enc)) kr (Aw (el:=31) kr))) ?_;refine AB (n:=91) he 2 [(0,.v (.int .i64 x0)),(1,.sl 1 (x1.map cdI.enc)),(2,.sl 1 (x2.map (cdL 1 cdI).enc)),(24,.v (.bool ((x1.length:Int)!=(x2.length:Int))))] [] kr ?_;have hq:=OI hj2; subst hq;exact AO rfl Ah
  ·rw [B9 hc56] at hj2
   rw [hc56];refine AB (n:=91) he 6 [(0,.v (.int .i64 x0)),(1,.sl 1 (x1.map cdI.enc)),(2,.sl 1 (x2.map (cdL 1 cdI).enc)),(24,.v (.bool false))] [] kr ?_;have hq:=OI hj2; subst hq;exact AO rfl Ah
 refine AU (b:=j2) kr (fun hb3=>?_) (fun hb3=>?_)
 ·rw [if_pos hb3] at h
  refine AN he [(6,.v (.int .i64 2))] [] ?_;refine An ?_;have hq:=OI h; subst hq;exact ⟨⟨Fr 91 [(6,.v (.int .i64 2))],[]⟩,Ah,.inr rfl,[.v (.int .i64 2)],kr,kr⟩
 ·rw [B9 hb3] at h
  refine AX ?_;refine AN he [(0,.v (.int .i64 x0)),(1,.sl 1 (x1.map cdI.enc)),(2,.sl 1 (x2.map (cdL 1 cdI).enc)),(7,.v (.int .i64 0)),(8,.v (.bool false)),(9,.v (.bool false))] [] ?_;refine AE ?_;by_cases hk4:(OV 1 x0)=true
  case neg=>rw [if_neg hk4] at h; cases h
  rw [if_pos hk4] at h;refine AI (s1:=⟨Fr 91 [(0,.v (.int .i64 x0)),(1,.sl 1 (x1.map cdI.enc)),(2,.sl 1 (x2.map (cdL 1 cdI).enc)),(7,.v (.int .i64 0)),(8,.v (.bool false)),(9,.v (.bool false)),(10,.rf 0 0 (List.replicate x0.toNat false).length (List.replicate x0.toNat false).length)],[some ⟨1,4,((List.replicate x0.toNat false).map cdB.enc),false⟩]⟩) ?_ ?_
  ·refine AB (n:=91) he 1 [(0,.v (.int .i64 x0)),(1,.sl 1 (x1.map cdI.enc)),(2,.sl 1 (x2.map (cdL 1 cdI).enc)),(7,.v (.int .i64 0)),(8,.v (.bool false)),(9,.v (.bool false)),(25,.v (.int .i64 x0))] [] kr ?_
   refine AJ he 0 rfl (OW (AA rfl) rfl kr (Ow (x:= .v (.int .i64 x0)) (y:= .v (.int .i64 x0)) kr kr (Py (c:=cdB) (z:=false) (k:=1) (bytes:=1) (el:=4) kr kr hk4))) ?_;exact AK he
  refine AE ?_;refine AE ?_;refine AI (s1:=⟨Fr 91 [(0,.v (.int .i64 x0)),(1,.sl 1 (x1.map cdI.enc)),(7,.v (.int .i64 0)),(8,.v (.bool false)),(9,.v (.bool false)),(10,.rf 0 0 (List.replicate x0.toNat false).length (List.replicate x0.toNat false).length),(27,.sl 1 (x2.map (cdL 1 cdI).enc)),(28,.v (.int .i64 (x2.length:Int))),(29,.v (.int .i64 0))],[some ⟨1,4,((List.replicate x0.toNat false).map cdB.enc),false⟩]⟩) ?_ ?_
  ·refine AB (n:=91) he 1 [(0,.v (.int .i64 x0)),(1,.sl 1 (x1.map cdI.enc)),(7,.v (.int .i64 0)),(8,.v (.bool false)),(9,.v (.bool false)),(10,.rf 0 0 (List.replicate x0.toNat false).length (List.replicate x0.toNat false).length),(27,.sl 1 (x2.map (cdL 1 cdI).enc))] [some ⟨1,4,((List.replicate x0.toNat false).map cdB.enc),false⟩] kr ?_
   refine AJ he 0 rfl (Am (AA rfl) rfl (BZ (a:= .sl 1 (x2.map (cdL 1 cdI).enc)) kr (Aw (el:=31) kr))) ?_;exact AK he
  refine AQ ?_;obtain ⟨r50,hr50,h⟩:=OB h;refine Bm (n:=100000) ?_;rcases r50 with w51 | w55
  ·try dsimp only at h
   refine BD (Ae (s1:=⟨Fr 91 [(0,.v (.int .i64 x0)),(1,.sl 1 (x1.map cdI.enc)),(7,.v (.int .i64 0)),(8,.v (.bool false)),(9,.v (.bool false)),(10,.rf 0 0 (List.replicate x0.toNat false).length (List.replicate x0.toNat false).length),(27,.sl 1 (x2.map (cdL 1 cdI).enc)),(28,.v (.int .i64 (x2.length:Int))),(29,.v (.int .i64 0))],[some ⟨1,4,((List.replicate x0.toNat false).map cdB.enc),false⟩]⟩) (Ac [0] ⟨⟨_,rfl,Ai⟩,trivial⟩ ⟨lv,lv,lv,lv,lv,lv,lv,lv,lv,trivial⟩) (Ij x0 x1 x2 _ 0 false false (List.replicate x0.toNat false) 0 _ hr50)) ?_;refine AE ?_;refine AQ ?_;refine AN he [(0,.v (.int .i64 x0)),(7,.v (.int .i64 w51.1)),(8,.v (.bool w51.2.1)),(83,.v (.bool w51.2.2))] [] ?_;refine AU (b:=w51.2.2) kr (fun hb52=>?_) (fun hb52=>?_)
   ·rw [if_pos hb52] at h
    refine AN he [(6,.v (.int .i64 6))] [] ?_;refine An ?_;have hq:=OI h; subst hq;exact ⟨⟨Fr 91 [(6,.v (.int .i64 6))],[]⟩,Ah,.inr rfl,[.v (.int .i64 6)],kr,kr⟩
   ·rw [B9 hb52] at h
    refine AN he [(0,.v (.int .i64 x0)),(7,.v (.int .i64 w51.1)),(85,.v (.bool w51.2.1))] [] ?_;refine AU (b:=w51.2.1) kr (fun hb53=>?_) (fun hb53=>?_)
    ·rw [if_pos hb53] at h
     refine AN he [(6,.v (.int .i64 5))] [] ?_;refine An ?_;have hq:=OI h; subst hq;exact ⟨⟨Fr 91 [(6,.v (.int .i64 5))],[]⟩,Ah,.inr rfl,[.v (.int .i64 5)],kr,kr⟩
    ·rw [B9 hb53] at h
     refine AN he [(87,.v (.bool (decide (w51.1 < x0))))] [] ?_;refine AU (b:=(decide (w51.1 < x0))) kr (fun hb54=>?_) (fun hb54=>?_)
     ·rw [if_pos hb54] at h
      refine AN he [(6,.v (.int .i64 2))] [] ?_;refine An ?_;have hq:=OI h; subst hq;exact ⟨⟨Fr 91 [(6,.v (.int .i64 2))],[]⟩,Ah,.inr rfl,[.v (.int .i64 2)],kr,kr⟩
     ·rw [B9 hb54] at h
      refine AX ?_;refine AN he [(6,.v (.int .i64 0))] [] ?_;refine An ?_;have hq:=OI h; subst hq;exact ⟨⟨Fr 91 [(6,.v (.int .i64 0))],[]⟩,Ah,.inr rfl,[.v (.int .i64 0)],kr,kr⟩
  ·try dsimp only at h
   refine BD (Ae (s1:=⟨Fr 91 [(0,.v (.int .i64 x0)),(1,.sl 1 (x1.map cdI.enc)),(7,.v (.int .i64 0)),(8,.v (.bool false)),(9,.v (.bool false)),(10,.rf 0 0 (List.replicate x0.toNat false).length (List.replicate x0.toNat false).length),(27,.sl 1 (x2.map (cdL 1 cdI).enc)),(28,.v (.int .i64 (x2.length:Int))),(29,.v (.int .i64 0))],[some ⟨1,4,((List.replicate x0.toNat false).map cdB.enc),false⟩]⟩) (Ac [0] ⟨⟨_,rfl,Ai⟩,trivial⟩ ⟨lv,lv,lv,lv,lv,lv,lv,lv,lv,trivial⟩) (Ij x0 x1 x2 _ 0 false false (List.replicate x0.toNat false) 0 _ hr50)) ?_;have hq:=OI h; subst hq;exact ⟨⟨Fr 91 [(6,.v (.int .i64 w55))],[]⟩,Ah,.inr rfl,[.v (.int .i64 w55)],kr,kr⟩
def Id:List AV->Option AV:=GP EY (fun a=>CX a.1 a.2.1 a.2.2.1) Eb
theorem G4:XOk 83 Id:=by
 refine EnvOk.x (E:=BS) (Af De (fn:=Tryd.f83) (c:=EX) ?h1 ?h2 ⟨Tryd.call83⟩ EY (fun a=>CX a.1 a.2.1 a.2.2.1) Eb (fun a=>(by show 3<=91; decide)) ?h3 ?h4) rfl rfl
 case h1=>kernel_rfl
 case h2=>kernel_rfl
 case h3=>intro b; kernel_rfl
 case h4=>exact fun a b h=>Mh a.1 a.2.1 a.2.2.1 b h
/- trestle/evening.Check -/
noncomputable def DE:Env:=(((E0.withX 82 Hx).withX 67 MO).withX 83 Id)
theorem GY:EnvOk DE:=(EnvOk.withX (EnvOk.withX (EnvOk.withX BB Fv.1 Fv.2) MW.1 MW.2) G4.1 G4.2)
noncomputable def Ho:Code:=BK Tryd.f27
def Ch (x0:Int) (x1:(List Int)) (x2:(List (List (List Int)))):Nat->Int->Option ((Unit) ⊕ (Int×Int))
 | 0,_=>none
 | f + 1,c7 =>
  if (decide (c7 < (x2.length:Int)))=true then
  (idx x2 c7).bind fun v9 =>
  (CX x0 x1 v9).bind fun v10 =>
  if (v10 != 0)=true then
  some (.inr (c7,v10))
  else
  Ch x0 x1 x2 f (wr .i64 (c7 + 1))
  else
  some (.inl ())
def AT (x0:Int) (x1:(List Int)) (x2:(List (List (List Int)))):Option (Int×Int) :=
 (Br x0).bind fun v1 =>
 (if (!v1)=true then some true else if (decide ((x1.length:Int) > 0))=true then (E3 x0 x1).bind fun v2 =>
 some (!v2) else some false).bind fun j4 =>
 if j4=true then
 some (0,90)
 else
 if (decide ((x2.length:Int) > 64))=true then
 some (0,7)
 else
 (Ch x0 x1 x2 100000 0).bind fun r14 =>
 match r14 with
 | (.inl w15) =>
  some (0,0)
 | (.inr w16) =>
  some (w16.1,w16.2)
def BT:Cs (Int×(List Int)×(List (List (List Int)))×Unit):=(csC cdI (csC (cdL 1 cdI) (csC (cdL 1 (cdL 1 (cdL 1 cdI))) csN)))
def BX (r:Int×Int):AV:= .tp [cdI.enc r.1,cdI.enc r.2]
theorem Ii (x0:Int) (x1:(List Int)) (x2:(List (List (List Int)))):∀ (f:Nat) (c7:Int) (r:(Unit) ⊕ (Int×Int)),Ch x0 x1 x2 f c7=some r->SemN DE ⟨none,false⟩ (pc Ho [1,1,0,1,0,0]) f ⟨Fr 46 [(0,.v (.int .i64 x0)),(1,.sl 1 (x1.map cdI.enc)),(30,.sl 1 (x2.map (cdL 1 (cdL 1 cdI)).enc)),(31,.v (.int .i64 (x2.length:Int))),(32,.v (.int .i64 c7))],[]⟩ (fun e s=>match r with
 | (.inl w)=>e=(.exit 1)/\Wk DE s ⟨Fr 46 [],[]⟩
 | (.inr w)=>e = .ret/\Wk DE s ⟨Fr 46 [(6,.v (.int .i64 w.1)),(7,.v (.int .i64 w.2))],[]⟩):=by
 have he:=GY
 intro f;induction f with
 | zero=>intro c7 r h; cases h
 | succ f ih0 =>
  intro c7 r h
  have ih:=fun (c7:Int)=>ih0 c7 r
  unfold Ch at h;refine BJ ?_
  let p1:Nat×AV:=(32,.v (.int .i64 c7))
  let p2:Nat×AV:=(31,.v (.int .i64 (x2.length:Int)))
  let p3:Nat×AV:=(30,.sl 1 (x2.map (cdL 1 (cdL 1 cdI)).enc))
  let p4:Nat×AV:=(1,.sl 1 (x1.map cdI.enc))
  let p5:Nat×AV:=(0,.v (.int .i64 x0))
  refine AN he [p5,p4,p3,p2,p1,(33,.v (.bool (decide (c7 < (x2.length:Int)))))] [] ?_;refine AE ?_;refine AU (b:=(decide (c7 < (x2.length:Int)))) kr (fun hb8=>?_) (fun hb8=>?_)
  ·rw [if_pos hb8] at h
   refine AX ?_;refine AE ?_;refine AQ ?_;refine AE ?_;obtain ⟨v9,hv9,h⟩:=OB h
   let p6:Nat×AV:=(8,.v (.int .i64 c7))
   refine AI (s1:=⟨Fr 46 [p5,p4,p6,(9,.sl 1 (v9.map (cdL 1 cdI).enc)),p3,p2,p1],[]⟩) ?_ ?_
   ·refine AB (n:=46) he 1 [p5,p4,p3,p2,p1,(34,.v (.int .i64 c7))] [] kr ?_
    refine AJ he 0 rfl (Am (AA rfl) rfl (AF (a:= .sl 1 (x2.map (cdL 1 (cdL 1 cdI)).enc)) (b:= .v (.int .i64 c7)) kr kr (DT (e:=(cdL 1 (cdL 1 cdI)).enc) (el:=50) (k:=1) (ki:= .i64) kr kr hv9))) ?_;exact AK he
   refine AE ?_;obtain ⟨v10,hv10,h⟩:=OB h;refine AI (s1:=⟨Fr 46 [p5,p4,p6,(10,.v (.int .i64 v10)),p3,p2,p1],[]⟩) ?_ ?_
   ·refine AB (n:=46) he 3 [p5,p4,p6,p3,p2,p1,(37,.v (.int .i64 x0)),(38,.sl 1 (x1.map cdI.enc)),(39,.sl 1 (v9.map (cdL 1 cdI).enc))] [] kr ?_
    refine RunS.call he (fid:=83) (s:=EY) (F:=fun a=>CX a.1 a.2.1 a.2.2.1) (er:=Eb) (xs:=[.v (.int .i64 x0),.sl 1 (x1.map cdI.enc),.sl 1 (v9.map (cdL 1 cdI).enc)]) (a:=(x0,x1,v9,())) rfl (AA rfl) kr kr kr kr (Sns.cons (Sn.enc (c:=cdI) (v:=x0)) (Sns.cons (Sn.enc (c:=(cdL 1 cdI)) (v:=x1)) (Sns.cons (Sn.enc (c:=(cdL 1 (cdL 1 cdI))) (v:=v9)) Sns.nil))) (.inl kr) hv10 ?_;exact AK he
   refine AN he [p5,p4,p6,(10,.v (.int .i64 v10)),p3,p2,p1,(42,.v (.bool (v10 != 0)))] [] ?_;refine AU (b:=(v10 != 0)) kr (fun hb11=>?_) (fun hb11=>?_)
   ·rw [if_pos hb11] at h
    refine AN he [(6,.v (.int .i64 c7)),(7,.v (.int .i64 v10))] [] ?_;refine An ?_;have hq:=OI h; subst hq;exact ⟨rfl,Ah⟩
   ·rw [B9 hb11] at h
    refine AX ?_
    let p7:Nat×AV:=(32,.v (.int .i64 (wr .i64 (c7 + 1))))
    refine Cq he [p5,p4,p3,p2,p7] [] ?_;exact Ae (s1:=⟨Fr 46 [p5,p4,p3,p2,p7],[]⟩) Ah (ih (wr .i64 (c7 + 1)) h)
  ·rw [B9 hb8] at h
   refine Ba ?_;have hq:=OI h; subst hq;exact ⟨rfl,Ah⟩
theorem Me (x0:Int) (x1:(List Int)) (x2:(List (List (List Int)))) (r:Int×Int) (h:AT x0 x1 x2=some r):Sem DE ⟨none,false⟩ Ho ⟨Fr 46 (Av 0 (BT.enc (x0,x1,x2,()))),[]⟩ fun e s'=>(e = .normal\/e = .ret)/\∃ xs,FA DE.P s'.fr s'.hp Tryd.f27.results.toList=some xs/\FZ xs=BX r:=by
 have he:=GY
 unfold AT at h;refine Bz (DX (s1:=⟨Fr 46 [(0,.v (.int .i64 x0)),(1,.sl 1 (x1.map cdI.enc)),(2,.sl 1 (x2.map (cdL 1 (cdL 1 cdI)).enc))],[]⟩) Ah ?_);refine AN he [(0,.v (.int .i64 x0)),(1,.sl 1 (x1.map cdI.enc)),(2,.sl 1 (x2.map (cdL 1 (cdL 1 cdI)).enc))] [] ?_;refine AE ?_;refine AQ ?_;refine AE ?_;obtain ⟨v1,hv1,h⟩:=OB h;obtain ⟨j4,hj4,h⟩:=OB h;refine AI (s1:=⟨Fr 46 [(0,.v (.int .i64 x0)),(1,.sl 1 (x1.map cdI.enc)),(2,.sl 1 (x2.map (cdL 1 (cdL 1 cdI)).enc)),(11,.v (.bool j4))],[]⟩) ?_ ?_
 ·refine AB (n:=46) he 1 [(0,.v (.int .i64 x0)),(1,.sl 1 (x1.map cdI.enc)),(2,.sl 1 (x2.map (cdL 1 (cdL 1 cdI)).enc)),(12,.v (.int .i64 x0))] [] kr ?_
  refine RunS.call he (fid:=82) (s:=D7) (F:=fun a=>Br a.1) (er:=EA) (xs:=[.v (.int .i64 x0)]) (a:=(x0,())) rfl (AA rfl) kr kr kr kr (Sns.cons (Sn.enc (c:=cdI) (v:=x0)) Sns.nil) (.inl kr) hv1 ?_;refine AB (n:=46) he 2 [(0,.v (.int .i64 x0)),(1,.sl 1 (x1.map cdI.enc)),(2,.sl 1 (x2.map (cdL 1 (cdL 1 cdI)).enc)),(15,.v (.bool (!v1)))] [] kr ?_;rcases BE (!v1) with hc17 | hc17
  ·rw [if_pos hc17] at hj4
   rw [hc17];refine AB (n:=46) he 11 [(0,.v (.int .i64 x0)),(1,.sl 1 (x1.map cdI.enc)),(2,.sl 1 (x2.map (cdL 1 (cdL 1 cdI)).enc)),(11,.v (.bool true))] [] kr ?_;have hq:=OI hj4; subst hq;exact AO rfl Ah
  ·rw [B9 hc17] at hj4
   rw [hc17];refine AB (n:=46) he 1 [(0,.v (.int .i64 x0)),(1,.sl 1 (x1.map cdI.enc)),(2,.sl 1 (x2.map (cdL 1 (cdL 1 cdI)).enc)),(15,.v (.bool false)),(16,.sl 1 (x1.map cdI.enc))] [] kr ?_;refine AJ he 0 rfl (Am kr rfl (BZ (a:= .sl 1 (x1.map cdI.enc)) kr (Aw (el:=3) kr))) ?_;refine AB (n:=46) he 2 [(0,.v (.int .i64 x0)),(1,.sl 1 (x1.map cdI.enc)),(2,.sl 1 (x2.map (cdL 1 (cdL 1 cdI)).enc)),(15,.v (.bool false)),(19,.v (.bool (decide ((x1.length:Int) > 0))))] [] kr ?_;rcases BE (decide ((x1.length:Int) > 0)) with hc18 | hc18
   ·rw [if_pos hc18] at hj4
    rw [hc18];refine AB (n:=46) he 2 [(0,.v (.int .i64 x0)),(1,.sl 1 (x1.map cdI.enc)),(2,.sl 1 (x2.map (cdL 1 (cdL 1 cdI)).enc)),(15,.v (.bool false)),(19,.v (.bool true)),(20,.v (.int .i64 x0)),(21,.sl 1 (x1.map cdI.enc))] [] kr ?_;obtain ⟨v2,hv2,hj4⟩:=OB hj4;refine RunS.call he (fid:=67) (s:=HV) (F:=fun a=>E3 a.1 a.2.1) (er:=HZ) (xs:=[.v (.int .i64 x0),.sl 1 (x1.map cdI.enc)]) (a:=(x0,x1,())) rfl kr kr kr kr kr (Sns.cons (Sn.enc (c:=cdI) (v:=x0)) (Sns.cons (Sn.enc (c:=(cdL 1 cdI)) (v:=x1)) Sns.nil)) (.inl kr) hv2 ?_;refine AB (n:=46) he 4 [(0,.v (.int .i64 x0)),(1,.sl 1 (x1.map cdI.enc)),(2,.sl 1 (x2.map (cdL 1 (cdL 1 cdI)).enc)),(11,.v (.bool (!v2)))] [] kr ?_;have hq:=OI hj4; subst hq;exact AO rfl Ah
   ·rw [B9 hc18] at hj4
    rw [hc18];refine AB (n:=46) he 7 [(0,.v (.int .i64 x0)),(1,.sl 1 (x1.map cdI.enc)),(2,.sl 1 (x2.map (cdL 1 (cdL 1 cdI)).enc)),(11,.v (.bool false))] [] kr ?_;have hq:=OI hj4; subst hq;exact AO rfl Ah
 refine AU (b:=j4) kr (fun hb5=>?_) (fun hb5=>?_)
 ·rw [if_pos hb5] at h
  refine AN he [(6,.v (.int .i64 0)),(7,.v (.int .i64 90))] [] ?_;refine An ?_;have hq:=OI h; subst hq;exact ⟨⟨Fr 46 [(6,.v (.int .i64 0)),(7,.v (.int .i64 90))],[]⟩,Ah,.inr rfl,[.v (.int .i64 0),.v (.int .i64 90)],kr,kr⟩
 ·rw [B9 hb5] at h
  refine AE ?_;refine AI (s1:=⟨Fr 46 [(0,.v (.int .i64 x0)),(1,.sl 1 (x1.map cdI.enc)),(2,.sl 1 (x2.map (cdL 1 (cdL 1 cdI)).enc)),(26,.v (.bool (decide ((x2.length:Int) > 64))))],[]⟩) ?_ ?_
  ·refine AB (n:=46) he 1 [(0,.v (.int .i64 x0)),(1,.sl 1 (x1.map cdI.enc)),(2,.sl 1 (x2.map (cdL 1 (cdL 1 cdI)).enc)),(27,.sl 1 (x2.map (cdL 1 (cdL 1 cdI)).enc))] [] kr ?_
   refine AJ he 0 rfl (Am (AA rfl) rfl (BZ (a:= .sl 1 (x2.map (cdL 1 (cdL 1 cdI)).enc)) kr (Aw (el:=50) kr))) ?_;exact AK he
  refine AU (b:=(decide ((x2.length:Int) > 64))) kr (fun hb6=>?_) (fun hb6=>?_)
  ·rw [if_pos hb6] at h
   refine AN he [(6,.v (.int .i64 0)),(7,.v (.int .i64 7))] [] ?_;refine An ?_;have hq:=OI h; subst hq;exact ⟨⟨Fr 46 [(6,.v (.int .i64 0)),(7,.v (.int .i64 7))],[]⟩,Ah,.inr rfl,[.v (.int .i64 0),.v (.int .i64 7)],kr,kr⟩
  ·rw [B9 hb6] at h
   refine AX ?_;refine AE ?_;refine AE ?_;refine AI (s1:=⟨Fr 46 [(0,.v (.int .i64 x0)),(1,.sl 1 (x1.map cdI.enc)),(30,.sl 1 (x2.map (cdL 1 (cdL 1 cdI)).enc)),(31,.v (.int .i64 (x2.length:Int))),(32,.v (.int .i64 0))],[]⟩) ?_ ?_
   ·refine AB (n:=46) he 1 [(0,.v (.int .i64 x0)),(1,.sl 1 (x1.map cdI.enc)),(30,.sl 1 (x2.map (cdL 1 (cdL 1 cdI)).enc))] [] kr ?_
    refine AJ he 0 rfl (Am (AA rfl) rfl (BZ (a:= .sl 1 (x2.map (cdL 1 (cdL 1 cdI)).enc)) kr (Aw (el:=50) kr))) ?_;exact AK he
   refine AQ ?_;obtain ⟨r14,hr14,h⟩:=OB h;refine Bm (n:=100000) ?_;rcases r14 with w15 | w16
   ·try dsimp only at h
    refine BD (Ae (s1:=⟨Fr 46 [(0,.v (.int .i64 x0)),(1,.sl 1 (x1.map cdI.enc)),(30,.sl 1 (x2.map (cdL 1 (cdL 1 cdI)).enc)),(31,.v (.int .i64 (x2.length:Int))),(32,.v (.int .i64 0))],[]⟩) Ah (Ii x0 x1 x2 _ 0 _ hr14)) ?_;refine AN he [(6,.v (.int .i64 0)),(7,.v (.int .i64 0))] [] ?_;refine An ?_;have hq:=OI h; subst hq;exact ⟨⟨Fr 46 [(6,.v (.int .i64 0)),(7,.v (.int .i64 0))],[]⟩,Ah,.inr rfl,[.v (.int .i64 0),.v (.int .i64 0)],kr,kr⟩
   ·try dsimp only at h
    refine BD (Ae (s1:=⟨Fr 46 [(0,.v (.int .i64 x0)),(1,.sl 1 (x1.map cdI.enc)),(30,.sl 1 (x2.map (cdL 1 (cdL 1 cdI)).enc)),(31,.v (.int .i64 (x2.length:Int))),(32,.v (.int .i64 0))],[]⟩) Ah (Ii x0 x1 x2 _ 0 _ hr14)) ?_;have hq:=OI h; subst hq;exact ⟨⟨Fr 46 [(6,.v (.int .i64 w16.1)),(7,.v (.int .i64 w16.2))],[]⟩,Ah,.inr rfl,[.v (.int .i64 w16.1),.v (.int .i64 w16.2)],kr,kr⟩
def EE:List AV->Option AV:=GP BT (fun a=>AT a.1 a.2.1 a.2.2.1) BX
theorem Bv:XOk 27 EE:=by
 refine EnvOk.x (E:=DE) (Af GY (fn:=Tryd.f27) (c:=Ho) ?h1 ?h2 ⟨Tryd.call27⟩ BT (fun a=>AT a.1 a.2.1 a.2.2.1) BX (fun a=>(by show 3<=46; decide)) ?h3 ?h4) rfl rfl
 case h1=>kernel_rfl
 case h2=>kernel_rfl
 case h3=>intro b; kernel_rfl
 case h4=>exact fun a b h=>Me a.1 a.2.1 a.2.2.1 b h
/- trestle/evening.valid -/
noncomputable def Ga:Env:=(E0.withX 27 EE)
theorem Ih:EnvOk Ga:=(EnvOk.withX BB Bv.1 Bv.2)
noncomputable def Jm:Code:=BK Tryd.f50
def AZ (x0:Int) (x1:(List (List (List Int)))):Option (Bool) :=
 (AT x0 [] x1).bind fun v1 =>
 some (v1.2==0)
def BL:Cs (Int×(List (List (List Int)))×Unit):=(csC cdI (csC (cdL 1 (cdL 1 (cdL 1 cdI))) csN))
def BN (r:Bool):AV:=cdB.enc r
theorem Ml (x0:Int) (x1:(List (List (List Int)))) (r:Bool) (h:AZ x0 x1=some r):Sem Ga ⟨none,false⟩ Jm ⟨Fr 15 (Av 0 (BL.enc (x0,x1,()))),[]⟩ fun e s'=>(e = .normal\/e = .ret)/\∃ xs,FA Ga.P s'.fr s'.hp Tryd.f50.results.toList=some xs/\FZ xs=BN r:=by
 have he:=Ih
 unfold AZ at h
 let p1:Nat×AV:=(1,.sl 1 (x1.map (cdL 1 (cdL 1 cdI)).enc))
 refine Bz (DX (s1:=⟨Fr 15 [(0,.v (.int .i64 x0)),p1],[]⟩) Ah ?_);refine AN he [(0,.v (.int .i64 x0)),p1] [] ?_;refine AE ?_;obtain ⟨v1,hv1,h⟩:=OB h;refine AI (s1:=⟨Fr 15 [(6,.v (.int .i64 v1.2))],[]⟩) ?_ ?_
 ·refine AB (n:=15) he 2 [(8,.v (.int .i64 x0)),(9,.sl 1 (x1.map (cdL 1 (cdL 1 cdI)).enc))] [] kr ?_
  refine RunS.call he (fid:=27) (s:=BT) (F:=fun a=>AT a.1 a.2.1 a.2.2.1) (er:=BX) (xs:=[.v (.int .i64 x0),.e0,.sl 1 (x1.map (cdL 1 (cdL 1 cdI)).enc)]) (a:=(x0,[],x1,())) rfl (AA rfl) kr kr kr kr (Sns.cons (Sn.enc (c:=cdI) (v:=x0)) (Sns.cons Sn.e0 (Sns.cons (Sn.enc (c:=(cdL 1 (cdL 1 (cdL 1 cdI)))) (v:=x1)) Sns.nil))) (.inl kr) hv1 ?_;exact AK he
 refine AN he [(4,.v (.bool (v1.2==0)))] [] ?_;refine An ?_;have hq:=OI h; subst hq;exact ⟨⟨Fr 15 [(4,.v (.bool (v1.2==0)))],[]⟩,Ah,.inr rfl,[.v (.bool (v1.2==0))],kr,kr⟩
def CI:List AV->Option AV:=GP BL (fun a=>AZ a.1 a.2.1) BN
theorem Ap:XOk 50 CI:=by
 refine EnvOk.x (E:=Ga) (Af Ih (fn:=Tryd.f50) (c:=Jm) ?h1 ?h2 ⟨Tryd.call50⟩ BL (fun a=>AZ a.1 a.2.1) BN (fun a=>(by show 2<=15; decide)) ?h3 ?h4) rfl rfl
 case h1=>kernel_rfl
 case h2=>kernel_rfl
 case h3=>intro b; kernel_rfl
 case h4=>exact fun a b h=>Ml a.1 a.2.1 b h
/-- Structs. -/
def cdA {α:Type}(s:Cs α) (h:∀ x,(s.enc x).all LG=true):Cd α where
 enc x:= .ag (s.enc x)
 dec a:=match a with
  | .ag l=>s.dec l
  | _=>none
 de x:=s.de x
 vr:=fun {w Z a x u} hd hv=>by
  split at hd
  ·cases hv with
   | ag hl h1 hx =>
    have:=s.vr hd ⟨hl,hx⟩
    exact .ag this.len h1 this.at_
  ·cases hd
 nr x:=h x
theorem La {g:AV->Option AV}:∀ {xs:List AV},(∀ x ∈ xs,g x=some x)->Pb g xs=some xs
 | [],_=>rfl
 | x::xs,h=>by
  unfold Pb
  rw [h x (by simp),La fun y hy=>h y (List.mem_cons_of_mem _ hy)]
theorem MS {h:Hp}{x:AV}(hn:Ix x=true):∀ n,HT h n x=some x
 | 0=>by
  have:LG x=true:=by cases x <;> first | exact hn | (simp [Ix] at hn)
  unfold HT
  rw [if_pos this]
 | n + 1=>by
  cases x <;> first | (simp [Ix] at hn; done) | (unfold HT; rfl)
theorem QC {h:Hp}{x:AV}(hn:LG x=true) (n:Nat):HT h (n + 1) x=some x:=by
 cases x with
 | fn f p q =>
  simp only [LG,Bool.and_eq_true] at hn
  show (match Pb (HT h n) p,Pb (HT h n) q with | some p,some q=>some (AV.fn f p q) | _,_=>none)=_
  rw [La (g:=HT h n) fun y hy=>MS (List.all_eq_true.1 hn.1 y hy) n,La (g:=HT h n) fun y hy=>MS (List.all_eq_true.1 hn.2 y hy) n]
 | _ =>
  refine MS ?_ (n + 1)
  exact hn
theorem MT {h:Hp}{x:AV}(hn:DU x=true) (n:Nat):HT h (n + 2) x=some x:=by
 cases x with
 | ag cs =>
  show (Pb (HT h (n + 1)) cs).map AV.ag=_
  rw [La (g:=HT h (n + 1)) fun y hy=>QC (List.all_eq_true.1 hn y hy) n]; rfl
 | _ =>
  refine QC ?_ (n + 1)
  exact hn
/-- What a call sees of an argument. -/
def Sm {α:Type}(n:Nat) (h:Hp) (c:Cd α) (x:AV) (v:α):Prop:=∃ y,HT h n x=some y/\c.dec y=some v
def Sl {α:Type}(n:Nat) (h:Hp) (s:Cs α) (xs:List AV) (a:α):Prop:=∃ ys,Pb (HT h n) xs=some ys/\s.dec ys=some a
section
variable {α β:Type}{n b k:Nat}{h:Hp}{c:Cd α}{t:TypeId}
theorem Qp {v:α}:Sm (n + 2) h c (c.enc v) v:=⟨_,MT (c.nr v) n,c.de v⟩
theorem Sm.e0:Sm n h (cdL k c) .e0 []:=⟨.e0,MS rfl n,rfl⟩
theorem Wm {xs:List α}(hb:h[b]? = some (some ⟨k,t,xs.map c.enc,false⟩)):Sm (n + 3) h (cdL k c) (.rf b 0 xs.length xs.length) xs:=by
 refine ⟨.sl k (xs.map c.enc),?_,(cdL k c).de xs⟩
 unfold HT
 simp only [hb]
 rw [if_pos (by simp),List.drop_zero,List.take_of_length_le (by simp),La]
 ·rfl
 ·intro y hy
  obtain ⟨z,_,rfl⟩:=List.mem_map.1 hy
  exact MT (c.nr z) n
theorem Sm.rf {xs:List α}{m q:Nat}(hb:h[b]? = some (some ⟨k,t,xs.map c.enc,false⟩)) (hm:m<=xs.length):Sm (n + 3) h (cdL k c) (.rf b 0 m q) (xs.take m):=by
 refine ⟨.sl k ((xs.take m).map c.enc),?_,(cdL k c).de _⟩
 unfold HT
 simp only [hb]
 rw [if_pos (by simp; omega),List.drop_zero,<-List.map_take,La]
 ·rfl
 ·intro y hy
  obtain ⟨z,_,rfl⟩:=List.mem_map.1 hy
  exact MT (c.nr z) n
theorem Sm.hd {xs:List α}(hb:h[b]? = some (mk k t (xs.map c.enc))):Sm (n + 3) h (cdL k c) (hd b (xs.map c.enc)) xs:=by
 cases xs with
 | nil=>exact .e0
 | cons x xs =>
  have:=Wm (n:=n) (c:=c) (xs:=x::xs) (b:=b) (k:=k) hb
  simpa [Go.Proofs.YtcmgmkepodbpkaaDoor.hd] using this
theorem Rz:Sl n h csN [] ():=⟨[],rfl,rfl⟩
theorem O9 {s:Cs β}{x:AV}{xs:List AV}{v:α}{a:β}(h1:Sm n h c x v) (h2:Sl n h s xs a):Sl n h (csC c s) (x::xs) (v,a):=by
 obtain ⟨y,k1,k2⟩:=h1
 obtain ⟨ys,q1,q2⟩:=h2
 refine ⟨y::ys,?_,?_⟩
 ·unfold Pb; rw [k1,q1]
 ·show ((c.dec y).bind fun x=>(s.dec ys).map fun y=>(x,y))=_
  rw [k2,q2]; rfl
theorem Sm.ag {s:Cs α}{hn:∀ x,(s.enc x).all LG=true}{xs:List AV}{a:α}(h1:Sl n h s xs a):Sm (n + 1) h (cdA s hn) (.ag xs) a:=by
 obtain ⟨ys,k1,k2⟩:=h1
 refine ⟨.ag ys,?_,k2⟩
 show (Pb (HT h n) xs).map AV.ag=_
 rw [k1]; rfl
end
/-- A closure of a given function. -/
def cdF {α:Type}(f:FuncId) (s:Cs α) (hn:∀ x,(s.enc x).all Ix=true):Cd α where
 enc x:= .fn f [] (s.enc x)
 dec a:=match a with
  | .fn g [] q=>if g=f then s.dec q else none
  | _=>none
 de x:=by simp [s.de]
 vr:=fun {w Z a x u} hd hv=>by
  split at hd
  ·split at hd
   ·next e =>
    subst e
    cases hv with
    | fn hl hl' hx hy =>
     have:=s.vr hd ⟨hl',hy⟩
     exact .fn hl this.len hx this.at_
   ·cases hd
  ·cases hd
 nr x:=by simp [DU,LG,hn]
theorem Sm.fn {α:Type}{n:Nat}{h:Hp}{f:FuncId}{s:Cs α}{hn:∀ x,(s.enc x).all Ix=true}{q:List AV}{a:α}(h1:Sl n h s q a):Sm (n + 1) h (cdF f s hn) (.fn f [] q) a:=by
 obtain ⟨ys,k1,k2⟩:=h1
 refine ⟨.fn f [] ys,?_,?_⟩
 ·show (match Pb (HT h n) [],Pb (HT h n) q with | some p,some q=>some (AV.fn f p q) | _,_=>none)=_
  rw [k1]; rfl
 ·show (if f=f then s.dec ys else none)=_
  rw [if_pos rfl]; exact k2
section
variable {E:Env}{cx:Cx}{ops:Array Oper}{rest rest':List Oper}{K:St->Prop}{n n0 k:Nat}{l:List (Nat×AV)}{hp:Hp}{α β:Type}{s:Cs α}{F:α->Option β}{er:β->AV}{u:α}{v:β}{fid:FuncId}{w:World}{Z:Nat->Prop}{R:List RI}
/-- A told call, in a world. -/
theorem Wp (hX:XOk fid (GP s F er)) (hh:HR w Z R hp) (hg:GI E0 w Z){xs:List AV}{us:List Value}(hvs:VRs w Z R xs us) (hv:Sl 12 hp s xs u) (hok:EM (er v)=true\/xs.all DU=true) (hF:F u=some v) :
  Ret E0.P fid us.toArray w fun x w'=>∃ Z',HR w' Z' R hp/\VR w' Z' R (er v) x/\Step w Z R hp w' Z' R hp/\w.grownBy w' none/\(EM (er v)=true->Z'=Z):=by
 obtain ⟨ys,h1,h2⟩:=hv
 by_cases hf:EM (er v)=true
 ·have hz1:∀ c,(Z c\/own R hp c)->c < w.heap.size:=fun c hc=>hc.elim (hh.zlt c) (fun ⟨b,B,r,h1,_,h3,h4⟩=>h4 ▸ hh.rltL h1 h3)
  have hg1:GI E0 w (fun c=>Z c\/own R hp c):=fun q y hy=>(hg q y hy).mono (fun _ _=>rfl) (fun _ h=> .inl h) (fun _ _ h=>h)
  refine Ret.mono (hX.2 ys (er v) (Ji h2 hF) w _ us hz1 hg1 (allV_vr (Pa hh 12) hvs h1)) fun x w' ⟨hs,hx⟩=>?_
  exact ⟨Z,hh.keep hs.size (fun c hc=>hs.block c hc (by simp)),flat_vr hf hx,⟨hs.os,hs.tape,hs.output,hs.size,fun c hc _=>hs.block c hc (by simp),fun _ h=> .inl h,fun _ h=>h,fun _ h=> .inl h,fun _ _ h=>h⟩,hs,fun _=>rfl⟩
 ·have hn:=hok.resolve_left hf
  have e:xs=ys:=OI ((La fun y hy=>MT (List.all_eq_true.1 hn y hy) 10).symm.trans h1)
  subst e
  refine Ret.mono (hX.2 xs (er v) (Ji h2 hF) w Z us hh.zlt hg (Na hn hvs)) fun x w' ⟨hs,hx⟩=>?_
  obtain ⟨k1,k2⟩:=hh.addZ hs
  exact ⟨_,k1,hx.up,k2,hs,fun h=>absurd h hf⟩
/-- .. at an operation. -/
theorem XO (hP:E.P=E0.P) (hG:E.G=E0.G){caps xs:List AV}{d:Option Nat}{f:Operand}{args:Array Operand}{tys:Array TypeId}{ty:TypeId}{pos:String}{af:Array Edge}{g:Option (Nat×Bool)}{base:Bs}{a:Act}(hX:XOk fid (GP s F er)) (sr:SR E base w Z R ⟨Fr n l,hp⟩ a)
  (hf:opA E (Fr n l) f=some (.fn fid [] caps)) (ha:Hg (opA E (Fr n l)) args.toList=some xs) (hv:Sl 12 hp s (xs++caps) u) (hok:EM (er v)=true\/(xs++caps).all DU=true) (hF:F u=some v) {Q:Act->World->Prop}
  (kk:∀ x w' Z',HR w' Z' R hp->VR w' Z' R (er v) x->Step w Z R hp w' Z' R hp->w.grownBy w' none->(EM (er v)=true->Z'=Z)->SR E base w' Z' R ⟨Fr n l,hp⟩ a->Q (a.put d x) w'):Lw E.P ⟨d,.call ⟨.value f,args,tys⟩,ty,pos,af,g⟩ a w Q:=by
 have hρ:∀ o x,opA E (Fr n l) o=some x->VR w Z R x (a.eval o):=fun o x e=>opA_vr sr o x e
 have hvf:=hρ _ _ hf
 have hva:∃ uc:List Value,a.eval f = .func (.func fid) #[] uc.toArray/\VRs w Z R caps uc:=by
  generalize a.eval f=vf at hvf
  cases hvf with
  | fn hl hl' hx hy =>
   rename_i u1 u2
   have e1:u1=[]:=by simpa using hl
   subst e1
   exact ⟨u2,rfl,hl',hy⟩
 obtain ⟨uc,hva,huc⟩:=hva
 have hcl:Bw E.P fid:=hP ▸ hX.1
 unfold Lw
 rw [Ep (uf:=[]) (uc:=uc) rfl hva rfl hcl w]
 have hret:=Wp hX sr.hh (by have:=sr.gl; exact fun q y hy=>this q y (by rw [hG]; exact hy)) ((opds_vr hρ ha).append huc) hv hok hF
 rw [<-hP] at hret
 simp only [List.nil_append]
 refine Ret.mono hret fun x w' ⟨Z',k1,k2,k3,k4,k5⟩=>?_
 exact kk x w' Z' k1 k2 k3 k4 k5 (sr.step k1 k3)
theorem Mb (hP:E.P=E0.P) (hG:E.G=E0.G) (hX:XOk fid (GP s F er)){caps xs:List AV}{d:Nat}{f:Operand}{args:Array Operand}{tys:Array TypeId}{ty:TypeId}{pos:String}{af:Array Edge}{g:Option (Nat×Bool)}(hr:rest=⟨some d,.call ⟨.value f,args,tys⟩,ty,pos,af,g⟩::rest') (hw:As ops (Fr n l) ⟨some d,.call ⟨.value f,args,tys⟩,ty,pos,af,g⟩=some true)
  (hf:opA E (Fr n l) f=some (.fn fid [] caps)) (ha:Hg (opA E (Fr n l)) args.toList=some xs) (hv:Sl 12 hp s (xs++caps) u) (hok:EM (er v)=true\/(xs++caps).all DU=true) (hF:F u=some v) (kk:RunS E ops rest' ⟨Fr n ((d,er v)::l),hp⟩ K):RunS E ops rest ⟨Fr n l,hp⟩ K:=by
 subst hr
 intro base Q a w Z R sr q
 refine In rfl (wantedA_eq sr hw) (XO hP hG hX sr hf ha hv hok hF fun x w' Z' k1 k2 k3 k4 k5 sr'=>?_)
 refine kk base Q _ w' Z' R ?_ fun s' a' w'' Z'' R'' hK sr'' st'=>q s' a' w'' Z'' R'' hK sr'' (k3.w.trans st')
 have:=sr'.put (d:=some d) k2
 rwa [CM] at this
/-- What is left of a region that draws its order, of which nothing is read any more. -/
def RunDZ (E:Env) (ops:Array Oper) (k:Nat) (rest:List Oper) (s:St) (K:St->Prop):Prop :=
 ∀ (base:Bs) (Q:Act->World->Prop) (w0:World) (Z:Nat->Prop) (a:Act) (w:World) (R:List RI),C0 ops<=ops.size->SR E base w Z R s a->w0.grownBy w none->C0 ops=EO rest k->k + rest.length=ops.size->(∀ j,rest[j]? = ops[k + j]?) ->
  (∀ s' a' w' Z' R',K s'->SR E base w' Z' R' s' a'->StepW w Z R s.hp w' Z' R' s'.hp->Q a' w')->KD E.P ops (fun w'=>w0.grownBy w' none) (JN ops (C0 ops)) (C0 ops) Q k rest a w
/-- From now on nothing is read. -/
theorem RunDS.z {s:St}(kk:RunDZ E ops k rest s K):RunDS E ops n0 k rest s K :=
 fun base Q w0 Z _ _ a w R _ _ hT sr hgr st _ hTk hlen hops q=>kk base Q w0 Z a w R hT sr hgr hTk hlen hops fun s' a' w' Z' R' hK sr' st'=>q s' a' w' Z' R' hK sr' (st.w.trans st')
theorem Ur {s:St}{o:Oper}(hr:rest=o::rest') (hW:isW o.op=true) (h:RunS E ops rest s K):RunDZ E ops k rest s K:=by
 subst hr
 intro base Q w0 Z a w R hT sr hgr hTk hlen hops q
 have hTk':C0 ops=k:=by rw [hTk]; unfold EO; rw [if_pos hW]
 exact Mp (h base Q a w Z R sr fun s' a' w' Z' R' hK sr' st'=>q s' a' w' Z' R' hK sr' st') (by omega) (fun _=>hgr) (fun j hj=>NX (by omega)) hops
theorem KE (hE:EnvOk E):∀ {pre:List Oper}{s s1:St}{k:Nat},(pre.all fun o=>!isW o.op&&!Rf o.op)=true->MJ E (evC E 0) ⟨none,false⟩ ops n0 pre s=some s1->RunDZ E ops (k + pre.length) rest s1 K->RunDZ E ops k (pre++rest) s K
 | [],s,s1,k,_,e,kk=>by injection e with e; subst e; exact kk
 | o::pre,s,s1,k,hp,e,kk=>by
  intro base Q w0 Z a w R hT sr hgr hTk hlen hops q
  simp only [List.all_cons,Bool.and_eq_true,Bool.not_eq_true'] at hp
  obtain ⟨⟨hW,hLd⟩,hp⟩:=hp
  have hok:ops[k]? = some o:=by have:=hops 0; simpa using this.symm
  have hops':∀ j,(pre++rest)[j]? = ops[k + 1 + j]?:=fun j=>by have:=hops (j + 1); simpa [Nat.add_assoc,Nat.add_comm 1 j] using this
  have hk1:k + 1 + pre.length=k + (o::pre).length:=by simp; omega
  have kk':RunDZ E ops (k + 1 + pre.length) rest s1 K:=by rw [hk1]; exact kk
  have hp':(pre.all fun o=>!isW o.op&&!Rf o.op)=true:=by simpa using hp
  have hlen':k + 1 + (pre++rest).length=ops.size:=by simp at hlen ⊢; omega
  have hTk':C0 ops=EO (pre++rest) (k + 1):=by
   rw [hTk]
   show EO (o::(pre++rest)) k=_
   conv=>lhs; unfold EO; rw [if_neg (by rw [hW]; simp)]
  have hkT:¬ C0 ops<=k:=by have:=Kn (pre++rest) (k + 1); omega
  show KD E.P ops _ _ _ Q k (o::(pre++rest)) a w
  refine ⟨fun _=>hgr,?_⟩
  unfold MJ at e
  rw [if_neg (by rw [hW]; simp)] at e
  split at e
  ·cases e
  ·next hw =>
   rw [if_neg (by rw [wantedA_eq sr hw]; simp)]
   exact KE hE hp' e kk' base Q w0 Z _ w R hT (sr.put undef_vr) hgr hTk' hlen' hops' q
  ·next hw =>
   rw [if_pos (wantedA_eq sr hw)]
   have hρ:∀ o x,opA E s.fr o=some x->VR w Z R x (a.eval o):=fun o x e=>opA_vr sr o x e
   split at e
   ·next x hx =>
    split at e
    ·have hq:=Q7 hx
     rw [if_neg (by rw [OE hok hq hkT]; simp)]
     obtain ⟨u,hu,hrun⟩:=evOpQ_sound sr.hh hρ hx
     exact ⟨u,(fun w' _=>hrun w' fun h=>by rw [hLd] at h; cases h),KE hE hp' e kk' base Q w0 Z _ w R hT (sr.put hu) hgr hTk' hlen' hops' q⟩
    ·cases e
   ·split at e
    ·next x h' hx =>
     have hq:=NV hx
     rw [if_pos (Iw hok hq)]
     obtain ⟨u,w',R',h1,h2,h3,h4,h5⟩:=evOpN_sound hρ sr.hh hx
     exact Ov h1 (KE hE hp' e kk' base Q w0 Z _ w' R' hT ((sr.step h2 h4).put h3) (Gt hgr h5) hTk' hlen' hops' fun s' a' w'' Z'' R'' hK sr'' st'=>q s' a' w'' Z'' R'' hK sr'' (h4.w.trans st'))
    ·split at e
     ·next f args tys ho =>
      split at e
      ·next fv xs hf hxs =>
       split at e
       ·next r hr =>
        obtain ⟨x,h'⟩:=r
        have hq:isQ o.op=false:=by rw [ho]; rfl
        rw [if_pos (Iw hok hq)]
        obtain ⟨g,uf,uc,hva,hcl,hret⟩:=JW hE (code_sound hE 0).1 (hρ _ _ hf) (opds_vr hρ hxs) sr.hh sr.gl hr
        unfold Lw
        rw [Ep (uf:=uf) (uc:=uc) ho hva rfl hcl w]
        refine Ret.mono hret fun v w' hS=>?_
        obtain ⟨hg1,R',k1,k2,k3⟩:=hS
        exact KE hE hp' e kk' base Q w0 Z _ w' R' hT ((sr.step k1 k3).put k2) (Gt hgr hg1) hTk' hlen' hops' fun s' a' w'' Z'' R'' hK sr'' st'=>q s' a' w'' Z'' R'' hK sr'' (k3.w.trans st')
       ·cases e
      ·cases e
     ·cases e
theorem RunDZ.one (hE:EnvOk E){s s1:St}{o:Oper}(hr:rest=o::rest') (hW:(!isW o.op&&!Rf o.op)=true) (h:MJ E (evC E 0) ⟨none,false⟩ ops n0 [o] s=some s1) (kk:RunDZ E ops (k + 1) rest' s1 K):RunDZ E ops k rest s K:=by
 subst hr
 exact KE (k:=k) hE (pre:=[o]) (by simpa using hW) h kk
end
/-- A function, entered: from what its body does; the interpreter need not take it. -/
theorem Tj {E:Env}{c:Code}{Q:Ex->St->Prop}{f:FuncId}{fn:Func}{args:List AV}{h:Hp}(hff:E.P.funcs[f]? = some fn) (hc:fn.body=some c) (hle:args.length<=fn.ntmps)
  (hb:Sem E ⟨none,false⟩ c ⟨args.map some++List.replicate (fn.ntmps - args.length) (some (.tp [])),h⟩ fun e s=>(e = .normal\/e = .ret)/\∃ xs,FA E.P s.fr s.hp fn.results.toList=some xs/\Q .ret ⟨[some (FZ xs)],s.hp⟩)
  {w:World} {Z:Nat->Prop} {R:List RI} {us:List Value} (hh:HR w Z R h) (hv:VRs w Z R args us) (hg:GI E w Z) :
  Ret E.P f us.toArray w fun v w'=>∃ Z' R' x h',Q .ret ⟨[some x],h'⟩/\HR w' Z' R' h'/\VR w' Z' R' x v/\StepW w Z R h w' Z' R' h':=by
 refine callsIn_wide.1 (callsIn_of_wp_marks (F:=Fw none) (n:=0) hff hc trivial ?_)
 have hul:us.length=args.length:=hv.len
 have hsr:SR E (.of w.heap.size) w Z R ⟨args.map some++List.replicate (fn.ntmps - args.length) (some (.tp [])),h⟩ { tmps:=us.toArray++Array.replicate (fn.ntmps - us.toArray.size) undef,defers:=[] }:=by
  refine ⟨hh,⟨by simp [hul],fun t x hx=>?_⟩,rfl,hg,Nat.le_refl _⟩
  have e0:us.toArray++Array.replicate (fn.ntmps - us.toArray.size) undef=(us++List.replicate (fn.ntmps - us.length) undef).toArray:=by simp
  rw [e0,Array.getD_eq_getD_getElem?,List.getElem?_toArray]
  by_cases ht:t < args.length
  ·rw [List.getElem?_append_left (by simpa using ht),List.getElem?_map] at hx
   rw [List.getElem?_append_left (by omega)]
   cases hat:args[t]? with
   | none=>rw [hat] at hx; cases hx
   | some q =>
    rw [hat] at hx
    have hx:=OI (OI hx)
    subst hx
    obtain ⟨u,hu1,hu2⟩:=hv.get hat
    rw [hu1]; exact hu2
  ·rw [List.getElem?_append_right (by simp; omega),List.getElem?_replicate] at hx
   split at hx
   ·next hlt =>
    have hx:=OI (OI hx)
    subst hx
    rw [List.getElem?_append_right (by omega),List.getElem?_replicate,if_pos (by rw [hul]; simpa using hlt)]
    exact .tp (us:=[]) rfl (fun i x u hx=>by simp at hx)
   ·cases hx
 refine hb none (.of w.heap.size) _ _ w Z R (fun _=>rfl) hsr rfl fun e s' a' w' Z' R' hQ sr' st=>?_
 obtain ⟨hex,xs,hxs,hq⟩:=hQ
 have hl:=JL (base:= .of w.heap.size) rfl (E:=E) (w:=w') (a:=a') (fn:=fn) (S:=fun v w''=>∃ Z' R' x h',Q .ret ⟨[some x],h'⟩/\HR w'' Z' R' h'/\VR w'' Z' R' x v/\StepW w Z R h w'' Z' R' h') hxs (fun w'' u g1 g2 g3 g4 g5 g6 g7=>⟨Z',R',_,_,hq,g6,g7,⟨g2.trans st.os,g3.trans st.tape,g4.trans st.output,by rw [g1]; exact st.size,fun c hc hn=>(g5 c hc).trans (st.block c hc hn),st.own_,st.z,st.z'⟩⟩) (D:=a'.defers) (w1:=w') sr' rfl rfl rfl rfl (fun _ _=>rfl)
 rcases hex with rfl | rfl
 ·exact hl
 ·exact hl
/-- A contract out of what the body does. -/
theorem Ky {f:FuncId}{fn:Func}{c:Code}(hf:E0.P.funcs[f]? = some fn) (hc:fn.body=some c) (hcall:Bw E0.P f){α β:Type}(s:Cs α) (F:α->Option β) (er:β->AV) (hle:∀ a,(s.enc a).length<=fn.ntmps) (hnr:∀ b,Ub (er b)=true)
  (sem:∀ a b,F a=some b->Sem E0 ⟨none,false⟩ c ⟨Fr fn.ntmps (Av 0 (s.enc a)),[]⟩ fun e s'=>(e = .normal\/e = .ret)/\∃ xs,FA E0.P s'.fr s'.hp fn.results.toList=some xs/\FZ xs=er b) :
  XOk f (GP s F er):=by
 refine ⟨hcall,fun xs x h w Z us hz hg hv=>?_⟩
 obtain ⟨a,ha,h⟩:=OB h
 obtain ⟨b,hb,rfl⟩:=Option.map_eq_some_iff.1 h
 have hh:HR w Z [] []:=⟨rfl,fun b B hB=>by simp at hB,fun b b' B B' r r' hB=>by simp at hB,hz⟩
 refine Ret.mono (Tj hf hc (hle a) (Q:=fun _ s=>s.fr=[some (er b)]) (Sem.mono (DX (Wk.enter (hle a)) (sem a b hb)) fun e s' hs=>?_) hh (s.vr ha hv) hg) fun v w' hS=>?_
 ·obtain ⟨h1,xs,h2,h3⟩:=hs
  exact ⟨h1,xs,h2,by rw [h3]⟩
 ·obtain ⟨Z',R',x,h',hQ,k1,k2,st⟩:=hS
  have hx:x=er b:=by simpa using hQ
  subst hx
  refine ⟨⟨st.os,st.tape,st.output,st.size,fun c hc _=>st.block c hc (fun ⟨b,B,r,hb,_⟩=>by simp at hb)⟩,(Q9 (hnr b) k2).mono (fun _ _=>rfl) (fun c hc=>?_) (fun _ _ h=>h)⟩
  rcases st.z' c hc with h1 | ⟨b,B,r,hb,_⟩ | h1
  ·exact .inl h1
  ·simp at hb
  ·exact .inr ⟨h1,k1.zlt c hc⟩
/- internal/strconv.small -/
noncomputable def Jn:Code:=BK Tryd.f134
def Gy (x0:Int):Option ((List UInt8)) :=
 if (decide (x0 < 10))=true then
 if (HG x0 (wr .i64 (x0 + 1)) ([48,49,50,51,52,53,54,55,56,57,97,98,99,100,101,102,103,104,105,106,107,108,109,110,111,112,113,114,115,116,117,118,119,120,121,122]:List UInt8).length)=true then
 some ((([48,49,50,51,52,53,54,55,56,57,97,98,99,100,101,102,103,104,105,106,107,108,109,110,111,112,113,114,115,116,117,118,119,120,121,122]:List UInt8).take (wr .i64 (x0 + 1)).toNat).drop x0.toNat)
 else none
 else
 if (HG (wr .i64 (x0 * 2)) (wr .i64 ((wr .i64 (x0 * 2)) + 2)) ([48,48,48,49,48,50,48,51,48,52,48,53,48,54,48,55,48,56,48,57,49,48,49,49,49,50,49,51,49,52,49,53,49,54,49,55,49,56,49,57,50,48,50,49,50,50,50,51,50,52,50,53,50,54,50,55,50,56,50,57,51,48,51,49,51,50,51,51,51,52,51,53,51,54,51,55,51,56,51,57,52,48,52,49,52,50,52,51,52,52,52,53,52,54,52,55,52,56,52,57,53,48,53,49,53,50,53,51,53,52,53,53,53,54,53,55,53,56,53,57,54,48,54,49,54,50,54,51,54,52,54,53,54,54,54,55,54,56,54,57,55,48,55,49,55,50,55,51,55,52,55,53,55,54,55,55,55,56,55,57,56,48,56,49,56,50,56,51,56,52,56,53,56,54,56,55,56,56,56,57,57,48,57,49,57,50,57,51,57,52,57,53,57,54,57,55,57,56,57,57]:List UInt8).length)=true then
 some ((([48,48,48,49,48,50,48,51,48,52,48,53,48,54,48,55,48,56,48,57,49,48,49,49,49,50,49,51,49,52,49,53,49,54,49,55,49,56,49,57,50,48,50,49,50,50,50,51,50,52,50,53,50,54,50,55,50,56,50,57,51,48,51,49,51,50,51,51,51,52,51,53,51,54,51,55,51,56,51,57,52,48,52,49,52,50,52,51,52,52,52,53,52,54,52,55,52,56,52,57,53,48,53,49,53,50,53,51,53,52,53,53,53,54,53,55,53,56,53,57,54,48,54,49,54,50,54,51,54,52,54,53,54,54,54,55,54,56,54,57,55,48,55,49,55,50,55,51,55,52,55,53,55,54,55,55,55,56,55,57,56,48,56,49,56,50,56,51,56,52,56,53,56,54,56,55,56,56,56,57,57,48,57,49,57,50,57,51,57,52,57,53,57,54,57,55,57,56,57,57]:List UInt8).take (wr .i64 ((wr .i64 (x0 * 2)) + 2)).toNat).drop (wr .i64 (x0 * 2)).toNat)
 else none
def Hq:Cs (Int×Unit):=(csC cdI csN)
def Ht (r:(List UInt8)):AV:=cdS.enc r
theorem Mv (x0:Int) (r:(List UInt8)) (h:Gy x0=some r):Sem E0 ⟨none,false⟩ Jn ⟨Fr 15 (Av 0 (Hq.enc (x0,()))),[]⟩ fun e s'=>(e = .normal\/e = .ret)/\∃ xs,FA E0.P s'.fr s'.hp Tryd.f134.results.toList=some xs/\FZ xs=Ht r:=by
 unfold Gy at h
 let p1:Nat×AV:=(0,.v (.int .i64 x0))
 refine Bz (DX (s1:=⟨Fr 15 [p1],[]⟩) Ah ?_);refine AN BB [p1] [] ?_;refine AE ?_;refine AN BB [p1,(4,.v (.bool (decide (x0 < 10))))] [] ?_;refine AU (b:=(decide (x0 < 10))) kr (fun hb1=>?_) (fun hb1=>?_)
 ·rw [if_pos hb1] at h
  refine AE ?_;by_cases hk2:(HG x0 (wr .i64 (x0 + 1)) ([48,49,50,51,52,53,54,55,56,57,97,98,99,100,101,102,103,104,105,106,107,108,109,110,111,112,113,114,115,116,117,118,119,120,121,122]:List UInt8).length)=true
  case neg=>rw [if_neg hk2] at h; cases h
  rw [if_pos hk2] at h
  let p2:Nat×AV:=(2,.st ((([48,49,50,51,52,53,54,55,56,57,97,98,99,100,101,102,103,104,105,106,107,108,109,110,111,112,113,114,115,116,117,118,119,120,121,122]:List UInt8).take (wr .i64 (x0 + 1)).toNat).drop x0.toNat))
  refine AI (s1:=⟨Fr 15 [p2],[]⟩) ?_ ?_
  ·refine AB (n:=15) BB 3 [(5,.v (.int .i64 x0)),(7,.v (.int .i64 (wr .i64 (x0 + 1))))] [] kr ?_
   refine AJ BB 0 rfl (Am (AA rfl) rfl (Jg (a:= .st [48,49,50,51,52,53,54,55,56,57,97,98,99,100,101,102,103,104,105,106,107,108,109,110,111,112,113,114,115,116,117,118,119,120,121,122]) (l:=(some (.v (.int .i64 x0)))) (u:=(some (.v (.int .i64 (wr .i64 (x0 + 1)))))) (m:=none) kr kr kr rfl (RO (bs:=[48,49,50,51,52,53,54,55,56,57,97,98,99,100,101,102,103,104,105,106,107,108,109,110,111,112,113,114,115,116,117,118,119,120,121,122]) (lo:=x0) (hi:=(wr .i64 (x0 + 1))) kr (Jt (Pm hk2)) (Jt (Nq hk2)) hk2))) ?_;exact AK BB
  refine An ?_;have hq:=OI h; subst hq;exact ⟨⟨Fr 15 [p2],[]⟩,Ah,.inr rfl,[.st ((([48,49,50,51,52,53,54,55,56,57,97,98,99,100,101,102,103,104,105,106,107,108,109,110,111,112,113,114,115,116,117,118,119,120,121,122]:List UInt8).take (wr .i64 (x0 + 1)).toNat).drop x0.toNat)],kr,kr⟩
 ·rw [B9 hb1] at h
  refine AX ?_;refine AE ?_;by_cases hk3:(HG (wr .i64 (x0 * 2)) (wr .i64 ((wr .i64 (x0 * 2)) + 2)) ([48,48,48,49,48,50,48,51,48,52,48,53,48,54,48,55,48,56,48,57,49,48,49,49,49,50,49,51,49,52,49,53,49,54,49,55,49,56,49,57,50,48,50,49,50,50,50,51,50,52,50,53,50,54,50,55,50,56,50,57,51,48,51,49,51,50,51,51,51,52,51,53,51,54,51,55,51,56,51,57,52,48,52,49,52,50,52,51,52,52,52,53,52,54,52,55,52,56,52,57,53,48,53,49,53,50,53,51,53,52,53,53,53,54,53,55,53,56,53,57,54,48,54,49,54,50,54,51,54,52,54,53,54,54,54,55,54,56,54,57,55,48,55,49,55,50,55,51,55,52,55,53,55,54,55,55,55,56,55,57,56,48,56,49,56,50,56,51,56,52,56,53,56,54,56,55,56,56,56,57,57,48,57,49,57,50,57,51,57,52,57,53,57,54,57,55,57,56,57,57]:List UInt8).length)=true
  case neg=>rw [if_neg hk3] at h; cases h
  rw [if_pos hk3] at h
  let p3:Nat×AV:=(2,.st ((([48,48,48,49,48,50,48,51,48,52,48,53,48,54,48,55,48,56,48,57,49,48,49,49,49,50,49,51,49,52,49,53,49,54,49,55,49,56,49,57,50,48,50,49,50,50,50,51,50,52,50,53,50,54,50,55,50,56,50,57,51,48,51,49,51,50,51,51,51,52,51,53,51,54,51,55,51,56,51,57,52,48,52,49,52,50,52,51,52,52,52,53,52,54,52,55,52,56,52,57,53,48,53,49,53,50,53,51,53,52,53,53,53,54,53,55,53,56,53,57,54,48,54,49,54,50,54,51,54,52,54,53,54,54,54,55,54,56,54,57,55,48,55,49,55,50,55,51,55,52,55,53,55,54,55,55,55,56,55,57,56,48,56,49,56,50,56,51,56,52,56,53,56,54,56,55,56,56,56,57,57,48,57,49,57,50,57,51,57,52,57,53,57,54,57,55,57,56,57,57]:List UInt8).take (wr .i64 ((wr .i64 (x0 * 2)) + 2)).toNat).drop (wr .i64 (x0 * 2)).toNat))
  refine AI (s1:=⟨Fr 15 [p3],[]⟩) ?_ ?_
  ·refine AB (n:=15) BB 5 [(10,.v (.int .i64 (wr .i64 (x0 * 2)))),(13,.v (.int .i64 (wr .i64 ((wr .i64 (x0 * 2)) + 2))))] [] kr ?_
   refine AJ BB 0 rfl (Am (AA rfl) rfl (Jg (a:= .st [48,48,48,49,48,50,48,51,48,52,48,53,48,54,48,55,48,56,48,57,49,48,49,49,49,50,49,51,49,52,49,53,49,54,49,55,49,56,49,57,50,48,50,49,50,50,50,51,50,52,50,53,50,54,50,55,50,56,50,57,51,48,51,49,51,50,51,51,51,52,51,53,51,54,51,55,51,56,51,57,52,48,52,49,52,50,52,51,52,52,52,53,52,54,52,55,52,56,52,57,53,48,53,49,53,50,53,51,53,52,53,53,53,54,53,55,53,56,53,57,54,48,54,49,54,50,54,51,54,52,54,53,54,54,54,55,54,56,54,57,55,48,55,49,55,50,55,51,55,52,55,53,55,54,55,55,55,56,55,57,56,48,56,49,56,50,56,51,56,52,56,53,56,54,56,55,56,56,56,57,57,48,57,49,57,50,57,51,57,52,57,53,57,54,57,55,57,56,57,57]) (l:=(some (.v (.int .i64 (wr .i64 (x0 * 2)))))) (u:=(some (.v (.int .i64 (wr .i64 ((wr .i64 (x0 * 2)) + 2)))))) (m:=none) kr kr kr rfl (RO (bs:=[48,48,48,49,48,50,48,51,48,52,48,53,48,54,48,55,48,56,48,57,49,48,49,49,49,50,49,51,49,52,49,53,49,54,49,55,49,56,49,57,50,48,50,49,50,50,50,51,50,52,50,53,50,54,50,55,50,56,50,57,51,48,51,49,51,50,51,51,51,52,51,53,51,54,51,55,51,56,51,57,52,48,52,49,52,50,52,51,52,52,52,53,52,54,52,55,52,56,52,57,53,48,53,49,53,50,53,51,53,52,53,53,53,54,53,55,53,56,53,57,54,48,54,49,54,50,54,51,54,52,54,53,54,54,54,55,54,56,54,57,55,48,55,49,55,50,55,51,55,52,55,53,55,54,55,55,55,56,55,57,56,48,56,49,56,50,56,51,56,52,56,53,56,54,56,55,56,56,56,57,57,48,57,49,57,50,57,51,57,52,57,53,57,54,57,55,57,56,57,57]) (lo:=(wr .i64 (x0 * 2))) (hi:=(wr .i64 ((wr .i64 (x0 * 2)) + 2))) kr (Jt (Pm hk3)) (Jt (Nq hk3)) hk3))) ?_;exact AK BB
  refine An ?_;have hq:=OI h; subst hq;exact ⟨⟨Fr 15 [p3],[]⟩,Ah,.inr rfl,[.st ((([48,48,48,49,48,50,48,51,48,52,48,53,48,54,48,55,48,56,48,57,49,48,49,49,49,50,49,51,49,52,49,53,49,54,49,55,49,56,49,57,50,48,50,49,50,50,50,51,50,52,50,53,50,54,50,55,50,56,50,57,51,48,51,49,51,50,51,51,51,52,51,53,51,54,51,55,51,56,51,57,52,48,52,49,52,50,52,51,52,52,52,53,52,54,52,55,52,56,52,57,53,48,53,49,53,50,53,51,53,52,53,53,53,54,53,55,53,56,53,57,54,48,54,49,54,50,54,51,54,52,54,53,54,54,54,55,54,56,54,57,55,48,55,49,55,50,55,51,55,52,55,53,55,54,55,55,55,56,55,57,56,48,56,49,56,50,56,51,56,52,56,53,56,54,56,55,56,56,56,57,57,48,57,49,57,50,57,51,57,52,57,53,57,54,57,55,57,56,57,57]:List UInt8).take (wr .i64 ((wr .i64 (x0 * 2)) + 2)).toNat).drop (wr .i64 (x0 * 2)).toNat)],kr,kr⟩
def OR:List AV->Option AV:=GP Hq (fun a=>Gy a.1) Ht
theorem OU:XOk 134 OR:=by
 refine Ky Tryd.func134 (c:=Jn) ?h2 ⟨Tryd.call134⟩ Hq (fun a=>Gy a.1) Ht (fun a=>(by show 1<=15; decide)) ?h3 ?h4
 case h2=>kernel_rfl
 case h3=>intro b; kernel_rfl
 case h4=>exact fun a b h=>Mv a.1 b h
/- internal/strconv.FormatInt -/
noncomputable def Hz:Code:=BK Tryd.f122
def ED (x0:Int) (x1:Int):Option ((List UInt8)) :=
 if (x1==10)=true then
 (if (decide ((0:Int)<=x0))=true then some (decide (x0 < 100)) else some false).bind fun j3 =>
 if j3=true then
 (Gy x0).bind fun v5 =>
 some v5
 else
 none
 else
 none
def FX:Cs (Int×Int×Unit):=(csC cdI (csC cdI csN))
def FY (r:(List UInt8)):AV:=cdS.enc r
theorem Kk (x0:Int) (x1:Int) (r:(List UInt8)) (h:ED x0 x1=some r):Sem E0 ⟨none,false⟩ Hz ⟨Fr 54 (Av 0 (FX.enc (x0,x1,()))),[]⟩ fun e s'=>(e = .normal\/e = .ret)/\∃ xs,FA E0.P s'.fr s'.hp Tryd.f122.results.toList=some xs/\FZ xs=FY r:=by
 unfold ED at h;refine Bz (DX (s1:=⟨Fr 54 [(0,.v (.int .i64 x0)),(1,.v (.int .i64 x1))],[]⟩) Ah ?_);refine AN BB [(0,.v (.int .i64 x0)),(1,.v (.int .i64 x1))] [] ?_;refine AE ?_;refine AN BB [(0,.v (.int .i64 x0)),(11,.v (.bool (x1==10)))] [] ?_;refine AU (b:=(x1==10)) kr (fun hb1=>?_) (fun hb1=>?_)
 ·rw [if_pos hb1] at h
  refine AE ?_;refine AE ?_;obtain ⟨j3,hj3,h⟩:=OB h;refine AI (s1:=⟨Fr 54 [(0,.v (.int .i64 x0)),(17,.v (.bool j3))],[]⟩) ?_ ?_
  ·refine AB (n:=54) BB 3 [(0,.v (.int .i64 x0)),(14,.v (.bool (decide ((0:Int)<=x0))))] [] kr ?_
   rcases BE (decide ((0:Int)<=x0)) with hc6 | hc6
   ·rw [if_pos hc6] at hj3
    rw [hc6];refine AB (n:=54) BB 3 [(0,.v (.int .i64 x0)),(17,.v (.bool (decide (x0 < 100))))] [] kr ?_;have hq:=OI hj3; subst hq;exact AO rfl Ah
   ·rw [B9 hc6] at hj3
    rw [hc6];refine AB (n:=54) BB 3 [(0,.v (.int .i64 x0)),(17,.v (.bool false))] [] kr ?_;have hq:=OI hj3; subst hq;exact AO rfl Ah
  refine AU (b:=j3) kr (fun hb4=>?_) (fun hb4=>?_)
  ·rw [if_pos hb4] at h
   refine AE ?_;obtain ⟨v5,hv5,h⟩:=OB h;refine AI (s1:=⟨Fr 54 [(4,.st v5)],[]⟩) ?_ ?_
   ·refine AB (n:=54) BB 1 [(18,.v (.int .i64 x0))] [] kr ?_
    refine Mb (caps:=[]) (xs:=[.v (.int .i64 x0)]) (u:=(x0,())) rfl rfl OU rfl (AA rfl) kr kr (O9 (Qp (c:=cdI) (v:=x0)) Rz) (.inl kr) hv5 ?_;exact AK BB
   refine An ?_;have hq:=OI h; subst hq;exact ⟨⟨Fr 54 [(4,.st v5)],[]⟩,Ah,.inr rfl,[.st v5],kr,kr⟩
  ·rw [B9 hb4] at h
   refine AX ?_;refine AE ?_;cases h
 ·rw [B9 hb1] at h
  refine AX ?_;refine AE ?_;cases h
def Ls:List AV->Option AV:=GP FX (fun a=>ED a.1 a.2.1) FY
theorem Lu:XOk 122 Ls:=by
 refine Ky Tryd.func122 (c:=Hz) ?h2 ⟨Tryd.call122⟩ FX (fun a=>ED a.1 a.2.1) FY (fun a=>(by show 2<=54; decide)) ?h3 ?h4
 case h2=>kernel_rfl
 case h3=>intro b; kernel_rfl
 case h4=>exact fun a b h=>Kk a.1 a.2.1 b h
/- internal/strconv.Itoa -/
noncomputable def KM:Code:=BK Tryd.f100
def Hl (x0:Int):Option ((List UInt8)) :=
 (ED x0 10).bind fun v1 =>
 some v1
def IP:Cs (Int×Unit):=(csC cdI csN)
def IT (r:(List UInt8)):AV:=cdS.enc r
theorem NN (x0:Int) (r:(List UInt8)) (h:Hl x0=some r):Sem E0 ⟨none,false⟩ KM ⟨Fr 5 (Av 0 (IP.enc (x0,()))),[]⟩ fun e s'=>(e = .normal\/e = .ret)/\∃ xs,FA E0.P s'.fr s'.hp Tryd.f100.results.toList=some xs/\FZ xs=IT r:=by
 unfold Hl at h;refine Bz (DX (s1:=⟨Fr 5 [(0,.v (.int .i64 x0))],[]⟩) Ah ?_);refine AN BB [(0,.v (.int .i64 x0))] [] ?_;refine AE ?_;obtain ⟨v1,hv1,h⟩:=OB h;refine AI (s1:=⟨Fr 5 [(2,.st v1)],[]⟩) ?_ ?_
 ·refine AB (n:=5) BB 1 [(3,.v (.int .i64 x0))] [] kr ?_
  refine Mb (caps:=[]) (xs:=[.v (.int .i64 x0),.v (.int .i64 10)]) (u:=(x0,10,())) rfl rfl Lu rfl (AA rfl) kr kr (O9 (Qp (c:=cdI) (v:=x0)) (O9 (Qp (c:=cdI) (v:=10)) Rz)) (.inl kr) hv1 ?_;exact AK BB
 refine An ?_;have hq:=OI h; subst hq;exact ⟨⟨Fr 5 [(2,.st v1)],[]⟩,Ah,.inr rfl,[.st v1],kr,kr⟩
def Of:List AV->Option AV:=GP IP (fun a=>Hl a.1) IT
theorem Oi:XOk 100 Of:=by
 refine Ky Tryd.func100 (c:=KM) ?h2 ⟨Tryd.call100⟩ IP (fun a=>Hl a.1) IT (fun a=>(by show 1<=5; decide)) ?h3 ?h4
 case h2=>kernel_rfl
 case h3=>intro b; kernel_rfl
 case h4=>exact fun a b h=>NN a.1 b h
/- strconv.Itoa -/
noncomputable def KL:Code:=BK Tryd.f52
def GN (x0:Int):Option ((List UInt8)) :=
 (Hl x0).bind fun v1 =>
 some v1
def GX:Cs (Int×Unit):=(csC cdI csN)
def Gg (r:(List UInt8)):AV:=cdS.enc r
theorem NM (x0:Int) (r:(List UInt8)) (h:GN x0=some r):Sem E0 ⟨none,false⟩ KL ⟨Fr 5 (Av 0 (GX.enc (x0,()))),[]⟩ fun e s'=>(e = .normal\/e = .ret)/\∃ xs,FA E0.P s'.fr s'.hp Tryd.f52.results.toList=some xs/\FZ xs=Gg r:=by
 unfold GN at h;refine Bz (DX (s1:=⟨Fr 5 [(0,.v (.int .i64 x0))],[]⟩) Ah ?_);refine AN BB [(0,.v (.int .i64 x0))] [] ?_;refine AE ?_;obtain ⟨v1,hv1,h⟩:=OB h;refine AI (s1:=⟨Fr 5 [(2,.st v1)],[]⟩) ?_ ?_
 ·refine AB (n:=5) BB 1 [(3,.v (.int .i64 x0))] [] kr ?_
  refine Mb (caps:=[]) (xs:=[.v (.int .i64 x0)]) (u:=(x0,())) rfl rfl Oi rfl (AA rfl) kr kr (O9 (Qp (c:=cdI) (v:=x0)) Rz) (.inl kr) hv1 ?_;exact AK BB
 refine An ?_;have hq:=OI h; subst hq;exact ⟨⟨Fr 5 [(2,.st v1)],[]⟩,Ah,.inr rfl,[.st v1],kr,kr⟩
def LT:List AV->Option AV:=GP GX (fun a=>GN a.1) Gg
theorem LZ:XOk 52 LT:=by
 refine Ky Tryd.func52 (c:=KL) ?h2 ⟨Tryd.call52⟩ GX (fun a=>GN a.1) Gg (fun a=>(by show 1<=5; decide)) ?h3 ?h4
 case h2=>kernel_rfl
 case h3=>intro b; kernel_rfl
 case h4=>exact fun a b h=>NM a.1 b h
/- (*strings.Builder).copyCheck -/
noncomputable def Bx:Env:=E0
theorem Dv:EnvOk Bx:=BB
noncomputable def EH:Code:=BK Tryd.f99
def CH  : Option (Unit) :=
 some ()
theorem HQ {L:List Asn}{hp:Hp}(u0:AV) (r:Unit) (h:CH  = some r) (hT:T hp ((cel u0 2 76 (.ag [.v (.pointer none),.e0]))::L)):SemY Bx ⟨none,false⟩ EH ⟨Fr 20 (Av 0 [u0]),hp⟩ fun x s'=>(x = .normal\/x = .ret)/\∃ ys,FA Bx.P s'.fr s'.hp Tryd.f99.results.toList=some ys/\(fun v h'=>v = .tp []/\T h' ((cel u0 2 76 (.ag [u0,.e0]))::L)) (FZ ys) s'.hp:=by
 have he:=Dv
 unfold CH at h;refine Dw (Ef (s1:=⟨Fr 20 [(0,u0)],hp⟩) WkY.f1 ?_);refine AD ?_;refine AC ?_;refine AH he 1 ?_;refine AG he 0 rfl (Am (AA rfl) rfl (JP (Hv hT) kr)) ?_;refine AG he 0 rfl (Am (AA rfl) rfl (IB (a:=u0) kr (Ik (off:=0) hT kr))) ?_;refine AG he 0 rfl (Am (AA rfl) rfl (A0 (p:=G6 u0 0) kr (Js (off:=0) (y:= .v (.pointer none)) (m:=1) (g:=false) hT kr kr kr))) ?_;refine AS he [(0,u0),(6,.v (.bool true))] ?_;refine SemY.cond_true kr ?_;refine AC ?_;refine AH he 2 ?_;refine Rx he rfl hT (AA rfl) kr kr ?_;refine TA (p:=u0) (fid:=121) he rfl (AA rfl) kr kr kr ?_;refine Rx he rfl hT (AA rfl) kr kr ?_;refine AG he 0 rfl (Am (AA rfl) rfl (JP (Hv hT) kr)) ?_;refine AG he 0 rfl (Am (AA rfl) rfl (IB (a:=u0) kr (Ik (off:=0) hT kr))) ?_;obtain ⟨hp1,hs2,hT3⟩:=RP (off:=0) (P:=Tryd.prog) (ty:=74) (y:=u0) (a':= .ag [u0,.e0]) hT (by have hq:=OO (hT.front 0 rfl); revert hq; generalize u0=zz; intro hq; cases zz <;> first | (exact (Bool.false_ne_true hq.1).elim) | (exact (Bool.false_ne_true hq.2).elim) | skip; all_goals (first | rfl | kernel_rfl | exact rfl)) (by have hq:=OO (hT.front 0 rfl); revert hq; generalize u0=zz; intro hq; cases zz <;> first | (exact (Bool.false_ne_true hq.1).elim) | (exact (Bool.false_ne_true hq.2).elim) | skip; all_goals (first | rfl | kernel_rfl | exact rfl)) (by have hq:=OO (hT.front 0 rfl); revert hq; generalize u0=zz; intro hq; cases zz <;> first | (exact (Bool.false_ne_true hq.1).elim) | (exact (Bool.false_ne_true hq.2).elim) | skip; all_goals (first | rfl | kernel_rfl | exact rfl));refine RunL.store he (y:=G6 u0 0) (z:=u0) rfl (AA rfl) kr kr hs2 ?_;refine AL rfl ?_;have hq:=OI h; subst hq;exact ⟨⟨Fr 20 [],hp1⟩,WkY.f1,.inl rfl,[],kr,⟨rfl,hT3⟩⟩
/- (*strings.Builder).WriteString -/
noncomputable def A5:Env:=E0
theorem DQ:EnvOk A5:=BB
noncomputable def Du:Code:=BK Tryd.f51
def By (x0:(List UInt8)):Option (Int×(List Int)) :=
 CH.bind fun _v1 =>
 if (Bb 1 (([]:(List Int)).length + (Bn x0).length))=true then
 some ((x0.length:Int),(([]:(List Int))++(Bn x0)))
 else none
theorem Gz {L:List Asn}{hp:Hp}(u0:AV) (x0:(List UInt8)) (r:Int×(List Int)) (h:By x0=some r) (hT:T hp ((cel u0 2 76 (.ag [.v (.pointer none),.e0]))::L)):SemY A5 ⟨none,false⟩ Du ⟨Fr 19 (Av 0 [u0,.st x0]),hp⟩ fun x s'=>(x = .normal\/x = .ret)/\∃ ys,FA A5.P s'.fr s'.hp Tryd.f51.results.toList=some ys/\(fun v h'=>∃ (z0:AV),v = .tp [.v (.int .i64 r.1),.v .nilIface]/\T h' ((cel u0 2 76 (.ag [u0,z0]))::(own_ (ocL 1 5 (ocV (cdK .u8))) z0 r.2)::L)) (FZ ys) s'.hp:=by
 have he:=DQ
 unfold By at h;refine Dw (Ef (s1:=⟨Fr 19 [(0,u0),(1,.st x0)],hp⟩) WkY.f1 ?_);refine AY he [(0,u0),(1,.st x0)] ?_;refine AD ?_;refine AC ?_;refine AH he 1 ?_;obtain ⟨v1,hv1,h⟩:=OB h;refine CO (E:=A5) (e:=Bx) rfl rfl Dv rfl rfl (fid:=99) (caps:=[]) (xs:=[u0]) (fn:=Tryd.f99) (c:=EH) (Out:=fun v h'=>v = .tp []/\T h' ((cel u0 2 76 (.ag [u0,.e0]))::L)) rfl (AA rfl) kr kr kr kr (by show 1<=20; decide) (HQ u0 _ hv1 hT) ?_;rintro xx hp2 ⟨hqhp2,hT3⟩; subst xx;refine AL rfl (SemY.fr (l':=[(0,u0),(1,.st x0)]) kr ?_);refine AD ?_;refine AC ?_;refine AH he 2 ?_;refine AG he 0 rfl (Am (AA rfl) rfl (JP (Hv hT3) kr)) ?_;refine AG he 0 rfl (Am (AA rfl) rfl (IB (a:=u0) kr (Ik (off:=1) hT3 kr))) ?_;refine AG he 0 rfl (Am (AA rfl) rfl (A0 (p:=G6 u0 1) kr (Js (off:=1) (y:= .e0) (m:=1) (g:=false) hT3 kr kr kr))) ?_;refine AH he 1 ?_;by_cases hk9:(Bb 1 (([]:(List Int)).length + (Bn x0).length))=true
 case neg=>rw [if_neg hk9] at h; cases h
 rw [if_pos hk9] at h
 have hT4:=(T.e0 (k:=1) (ty:=5) (o:=(ocV (cdK .u8))) hT3)
 obtain ⟨e8,hp5,hb6,hT7⟩:=Ph (P:=Tryd.prog) (ty:=41) (ty2:=9) (bytes:=1) (y:= .st x0) (ys:=(Bn x0)) hT4 kr Qy kr hk9;refine AG he 0 rfl (Ox (AA rfl) rfl kr kr (DO (a:= .e0) (b:= .st x0) kr kr hb6)) ?_
 have hT10:=(hT7.front 1 rfl)
 refine AG he 0 rfl (Am (AA rfl) rfl (JP (Hv hT10) kr)) ?_;refine AG he 0 rfl (Am (AA rfl) rfl (IB (a:=u0) kr (Ik (off:=1) hT10 kr))) ?_;obtain ⟨hp11,hs12,hT13⟩:=RP (off:=1) (P:=Tryd.prog) (ty:=41) (y:=e8) (a':= .ag [u0,e8]) hT10 (by have hq:=Ee (hT10.front 1 rfl); revert hq; generalize e8=zz; intro hq; cases zz <;> first | (exact (Bool.false_ne_true hq.1).elim) | (exact (Bool.false_ne_true hq.2).elim) | skip; all_goals (first | rfl | kernel_rfl | exact rfl)) (by have hq:=Ee (hT10.front 1 rfl); revert hq; generalize e8=zz; intro hq; cases zz <;> first | (exact (Bool.false_ne_true hq.1).elim) | (exact (Bool.false_ne_true hq.2).elim) | skip; all_goals (first | rfl | kernel_rfl | exact rfl)) (by have hq:=Ee (hT10.front 1 rfl); revert hq; generalize e8=zz; intro hq; cases zz <;> first | (exact (Bool.false_ne_true hq.1).elim) | (exact (Bool.false_ne_true hq.2).elim) | skip; all_goals (first | rfl | kernel_rfl | exact rfl));refine RunL.store he (y:=G6 u0 1) (z:=e8) rfl (AA rfl) kr kr hs12 ?_;refine AL rfl (SemY.fr (l':=[(1,.st x0)]) kr ?_)
 let p1:Nat×AV:=(4,.v (.int .i64 (x0.length:Int)))
 refine AY he [p1,(5,.v .nilIface)] ?_;refine SemY.ret ?_;have hq:=OI h; subst hq;exact ⟨⟨Fr 19 [p1,(5,.v .nilIface)],hp11⟩,WkY.f1,.inr rfl,[.v (.int .i64 (x0.length:Int)),.v .nilIface],kr,⟨e8,rfl,hT13⟩⟩
/- (*strings.Builder).copyCheck -/
noncomputable def Bo:Env:=E0
theorem Df:EnvOk Bo:=BB
noncomputable def D6:Code:=BK Tryd.f99
def CA  : Option (Unit) :=
 some ()
theorem G7 {L:List Asn}{hp:Hp}(u0:AV) (u1:AV) (x0:(List UInt8)) (r:Unit) (h:CA  = some r) (hT:T hp ((cel u0 2 76 (.ag [u0,u1]))::(own_ (ocL 1 5 (ocV (cdK .u8))) u1 (Bn x0))::L)):SemY Bo ⟨none,false⟩ D6 ⟨Fr 20 (Av 0 [u0]),hp⟩ fun x s'=>(x = .normal\/x = .ret)/\∃ ys,FA Bo.P s'.fr s'.hp Tryd.f99.results.toList=some ys/\(fun v h'=>v = .tp []/\T h' ((cel u0 2 76 (.ag [u0,u1]))::(own_ (ocL 1 5 (ocV (cdK .u8))) u1 (Bn x0))::L)) (FZ ys) s'.hp:=by
 have he:=Df
 unfold CA at h;refine Dw (Ef (s1:=⟨Fr 20 [(0,u0)],hp⟩) WkY.f1 ?_);refine AD ?_;refine AC ?_;refine AH he 1 ?_;refine AG he 0 rfl (Am (AA rfl) rfl (JP (Hv hT) kr)) ?_;refine AG he 0 rfl (Am (AA rfl) rfl (IB (a:=u0) kr (Ik (off:=0) hT kr))) ?_;refine AG he 0 rfl (Am (AA rfl) rfl (A0 (p:=G6 u0 0) kr (Js (off:=0) (y:=u0) (m:=1) (g:=false) hT kr kr kr))) ?_;refine AG he 0 rfl (Am (x:= .v (.bool false)) (AA rfl) rfl (XV (SB hT) kr kr kr kr)) ?_;refine AL rfl (SemY.fr (l':=[(0,u0),(6,.v (.bool false))]) kr ?_);refine SemY.cond_false kr ?_;refine AD ?_;refine AC ?_;refine AH he 1 ?_;refine AG he 0 rfl (Am (AA rfl) rfl (JP (Hv hT) kr)) ?_;refine AG he 0 rfl (Am (AA rfl) rfl (IB (a:=u0) kr (Ik (off:=0) hT kr))) ?_;refine AG he 0 rfl (Am (AA rfl) rfl (A0 (p:=G6 u0 0) kr (Js (off:=0) (y:=u0) (m:=1) (g:=false) hT kr kr kr))) ?_;refine AH he 1 ?_;refine AG he 0 rfl (Am (x:= .v (.bool false)) (AA rfl) rfl (XW (SB hT) kr kr kr kr)) ?_;refine AL rfl (SemY.fr (l':=[(19,.v (.bool false))]) kr ?_);refine SemY.cond_false kr ?_;refine SemY.skip ?_;have hq:=OI h; subst hq;exact ⟨⟨Fr 20 [],hp⟩,WkY.f1,.inl rfl,[],kr,⟨rfl,hT⟩⟩
/- (*strings.Builder).WriteString -/
noncomputable def A2:Env:=E0
theorem DG:EnvOk A2:=BB
noncomputable def Da:Code:=BK Tryd.f51
def Bp (x0:(List UInt8)) (x1:(List UInt8)):Option (Int×(List Int)) :=
 CA.bind fun _v1 =>
 if (Bb 1 ((Bn x0).length + (Bn x1).length))=true then
 some ((x1.length:Int),((Bn x0)++(Bn x1)))
 else none
theorem GO {L:List Asn}{hp:Hp}(u0:AV) (u1:AV) (x0:(List UInt8)) (x1:(List UInt8)) (r:Int×(List Int)) (h:Bp x0 x1=some r) (hT:T hp ((cel u0 2 76 (.ag [u0,u1]))::(own_ (ocL 1 5 (ocV (cdK .u8))) u1 (Bn x0))::L)):SemY A2 ⟨none,false⟩ Da ⟨Fr 19 (Av 0 [u0,.st x1]),hp⟩ fun x s'=>(x = .normal\/x = .ret)/\∃ ys,FA A2.P s'.fr s'.hp Tryd.f51.results.toList=some ys/\(fun v h'=>∃ (z0:AV),v = .tp [.v (.int .i64 r.1),.v .nilIface]/\T h' ((cel u0 2 76 (.ag [u0,z0]))::(own_ (ocL 1 5 (ocV (cdK .u8))) z0 r.2)::L)) (FZ ys) s'.hp:=by
 have he:=DG
 unfold Bp at h;refine Dw (Ef (s1:=⟨Fr 19 [(0,u0),(1,.st x1)],hp⟩) WkY.f1 ?_);refine AY he [(0,u0),(1,.st x1)] ?_;refine AD ?_;refine AC ?_;refine AH he 1 ?_;obtain ⟨v1,hv1,h⟩:=OB h;refine CO (E:=A2) (e:=Bo) rfl rfl Df rfl rfl (fid:=99) (caps:=[]) (xs:=[u0]) (fn:=Tryd.f99) (c:=D6) (Out:=fun v h'=>v = .tp []/\T h' ((cel u0 2 76 (.ag [u0,u1]))::(own_ (ocL 1 5 (ocV (cdK .u8))) u1 (Bn x0))::L)) rfl (AA rfl) kr kr kr kr (by show 1<=20; decide) (G7 u0 u1 x0 _ hv1 hT) ?_;rintro xx hp2 ⟨hqhp2,hT3⟩; subst xx;refine AL rfl (SemY.fr (l':=[(0,u0),(1,.st x1)]) kr ?_);refine AD ?_;refine AC ?_;refine AH he 2 ?_;refine AG he 0 rfl (Am (AA rfl) rfl (JP (Hv hT3) kr)) ?_;refine AG he 0 rfl (Am (AA rfl) rfl (IB (a:=u0) kr (Ik (off:=1) hT3 kr))) ?_;refine AG he 0 rfl (Am (AA rfl) rfl (A0 (p:=G6 u0 1) kr (Js (off:=1) (y:=u1) (m:=1) (g:=false) hT3 kr kr kr))) ?_;refine AH he 1 ?_;by_cases hk8:(Bb 1 ((Bn x0).length + (Bn x1).length))=true
 case neg=>rw [if_neg hk8] at h; cases h
 rw [if_pos hk8] at h
 have hT9:=(hT3.front 1 rfl)
 obtain ⟨e7,hp4,hb5,hT6⟩:=Ph (P:=Tryd.prog) (ty:=41) (ty2:=9) (bytes:=1) (y:= .st x1) (ys:=(Bn x1)) hT9 kr Qy kr hk8;refine AG he 0 rfl (Ox (AA rfl) rfl kr kr (DO (a:=u1) (b:= .st x1) kr kr hb5)) ?_
 have hT10:=(hT6.front 1 rfl)
 refine AG he 0 rfl (Am (AA rfl) rfl (JP (Hv hT10) kr)) ?_;refine AG he 0 rfl (Am (AA rfl) rfl (IB (a:=u0) kr (Ik (off:=1) hT10 kr))) ?_;obtain ⟨hp11,hs12,hT13⟩:=RP (off:=1) (P:=Tryd.prog) (ty:=41) (y:=e7) (a':= .ag [u0,e7]) hT10 (by have hq:=Ee (hT10.front 1 rfl); revert hq; generalize e7=zz; intro hq; cases zz <;> first | (exact (Bool.false_ne_true hq.1).elim) | (exact (Bool.false_ne_true hq.2).elim) | skip; all_goals (first | rfl | kernel_rfl | exact rfl)) (by have hq:=Ee (hT10.front 1 rfl); revert hq; generalize e7=zz; intro hq; cases zz <;> first | (exact (Bool.false_ne_true hq.1).elim) | (exact (Bool.false_ne_true hq.2).elim) | skip; all_goals (first | rfl | kernel_rfl | exact rfl)) (by have hq:=Ee (hT10.front 1 rfl); revert hq; generalize e7=zz; intro hq; cases zz <;> first | (exact (Bool.false_ne_true hq.1).elim) | (exact (Bool.false_ne_true hq.2).elim) | skip; all_goals (first | rfl | kernel_rfl | exact rfl));refine RunL.store he (y:=G6 u0 1) (z:=e7) rfl (AA rfl) kr kr hs12 ?_;refine AL rfl (SemY.fr (l':=[(1,.st x1)]) kr ?_)
 let p1:Nat×AV:=(4,.v (.int .i64 (x1.length:Int)))
 refine AY he [p1,(5,.v .nilIface)] ?_;refine SemY.ret ?_;have hq:=OI h; subst hq;exact ⟨⟨Fr 19 [p1,(5,.v .nilIface)],hp11⟩,WkY.f1,.inr rfl,[.v (.int .i64 (x1.length:Int)),.v .nilIface],kr,⟨e7,rfl,hT13⟩⟩
/- (*strings.Builder).String -/
noncomputable def CN:Env:=E0
theorem Ea:EnvOk CN:=BB
noncomputable def Eu:Code:=BK Tryd.f53
def Co (x0:(List UInt8)):Option ((List UInt8)) :=
 if (decide (0 < (Bn x0).length))=true then
 if (decide (0 < x0.length))=true then
 if (okB x0)=true then
 some x0
 else none
 else none
 else none
theorem IC {L:List Asn}{hp:Hp}(u0:AV) (u1:AV) (x0:(List UInt8)) (r:(List UInt8)) (h:Co x0=some r) (hT:T hp ((cel u0 2 76 (.ag [u0,u1]))::(own_ (ocL 1 5 (ocV (cdK .u8))) u1 (Bn x0))::L)):SemY CN ⟨none,false⟩ Eu ⟨Fr 14 (Av 0 [u0]),hp⟩ fun x s'=>(x = .normal\/x = .ret)/\∃ ys,FA CN.P s'.fr s'.hp Tryd.f53.results.toList=some ys/\(fun v h'=>v = .st r/\T h' ((cel u0 2 76 (.ag [u0,u1]))::L)) (FZ ys) s'.hp:=by
 have he:=Ea
 unfold Co at h;refine Dw (Ef (s1:=⟨Fr 14 [(0,u0)],hp⟩) WkY.f1 ?_);refine AY he [(0,u0)] ?_;refine AD ?_;refine HB 10 he.mixed kr kr ?_;refine RunDT.q (x:=u0) rfl kr rfl (AA rfl) rfl kr kr ?_;refine RunDT.q (x:=u0) rfl kr rfl (AA rfl) rfl (JP (Hv hT) kr) kr ?_;refine RunDT.q (x:=G6 u0 1) rfl kr rfl (AA rfl) rfl (IB (a:=u0) kr (Ik (off:=1) hT kr)) kr ?_;refine RunDT.q (x:=u1) rfl kr rfl (AA rfl) rfl (A0 (p:=G6 u0 1) kr (Js (off:=1) (y:=u1) (m:=1) (g:=false) hT kr kr kr)) (NW (off:=1) hT kr) ?_;by_cases hk1:(decide (0 < (Bn x0).length))=true
 case neg=>rw [if_neg hk1] at h; cases h
 rw [if_pos hk1] at h
 have hT2:=(hT.front 1 rfl)
 refine RunDT.q (x:=eAt u1 0) rfl kr rfl (AA rfl) rfl (XX (a:=u1) hT2 kr hk1) kr ?_;refine RunDT.q (x:=u0) rfl kr rfl (AA rfl) rfl kr kr ?_
 have hT3:=(hT2.front 1 rfl)
 refine RunDT.q (x:=u0) rfl kr rfl (AA rfl) rfl (JP (Hv hT3) kr) kr ?_;refine RunDT.q (x:=G6 u0 1) rfl kr rfl (AA rfl) rfl (IB (a:=u0) kr (Ik (off:=1) hT3 kr)) kr ?_;refine RunDT.q (x:=u1) rfl kr rfl (AA rfl) rfl (A0 (p:=G6 u0 1) kr (Js (off:=1) (y:=u1) (m:=1) (g:=false) hT3 kr kr kr)) (NW (off:=1) hT kr) ?_
 have hT4:=(hT3.front 1 rfl)
 refine RunDT.q (x:= .v (.int .i64 ((Bn x0).length:Int))) rfl kr rfl (AA rfl) rfl (BZ (a:=u1) kr (NJ hT4 kr)) kr ?_;refine IF rfl ?_;by_cases hk5:(decide (0 < x0.length))=true
 case neg=>rw [if_neg hk5] at h; cases h
 rw [if_pos hk5] at h;by_cases hk6:(okB x0)=true
 case neg=>rw [if_neg hk6] at h; cases h
 rw [if_pos hk6] at h;obtain ⟨hp7,hb8,hT9⟩:=Tq (P:=Tryd.prog) (ty:=125) (el:=5) hT4 kr kr hk5 hk6;refine AG he 0 rfl (Ox (AA rfl) rfl kr kr (WU (a:=eAt u1 0) (b:= .v (.int .i64 ((Bn x0).length:Int))) kr kr hb8)) ?_;refine AS he [(2,.st x0)] ?_;refine SemY.ret ?_;have hq:=OI h; subst hq;exact ⟨⟨Fr 14 [(2,.st x0)],hp7⟩,WkY.f1,.inr rfl,[.st x0],kr,⟨rfl,hT9⟩⟩
/- (*strings.Builder).String -/
noncomputable def CD:Env:=E0
theorem EI:EnvOk CD:=BB
noncomputable def Eh:Code:=BK Tryd.f53
def Fa  : Option ((List UInt8)) :=
 some []
theorem Hw {L:List Asn}{hp:Hp}(u0:AV) (r:(List UInt8)) (h:Fa  = some r) (hT:T hp ((cel u0 2 76 (.ag [.v (.pointer none),.v (.slice none 0 0)]))::L)):SemY CD ⟨none,false⟩ Eh ⟨Fr 14 (Av 0 [u0]),hp⟩ fun x s'=>(x = .normal\/x = .ret)/\∃ ys,FA CD.P s'.fr s'.hp Tryd.f53.results.toList=some ys/\(fun v h'=>v = .st r/\T h' ((cel u0 2 76 (.ag [.v (.pointer none),.v (.slice none 0 0)]))::L)) (FZ ys) s'.hp:=by
 have he:=EI
 unfold Fa at h;refine Dw (Ef (s1:=⟨Fr 14 [(0,u0)],hp⟩) WkY.f1 ?_);refine AY he [(0,u0)] ?_;refine AD ?_;refine HB 10 he.mixed kr kr ?_;refine RunDT.q (x:=u0) rfl kr rfl (AA rfl) rfl kr kr ?_;refine RunDT.q (x:=u0) rfl kr rfl (AA rfl) rfl (JP (Hv hT) kr) kr ?_;refine RunDT.q (x:=G6 u0 1) rfl kr rfl (AA rfl) rfl (IB (a:=u0) kr (Ik (off:=1) hT kr)) kr ?_;refine RunDT.q (x:= .v (.slice none 0 0)) rfl kr rfl (AA rfl) rfl (A0 (p:=G6 u0 1) kr (Js (off:=1) (y:= .v (.slice none 0 0)) (m:=1) (g:=false) hT kr kr kr)) (NW (off:=1) hT kr) ?_;refine RunDT.q (x:= .v (.pointer none)) rfl kr rfl (AA rfl) rfl kr kr ?_;refine RunDT.q (x:=u0) rfl kr rfl (AA rfl) rfl kr kr ?_;refine RunDT.q (x:=u0) rfl kr rfl (AA rfl) rfl (JP (Hv hT) kr) kr ?_;refine RunDT.q (x:=G6 u0 1) rfl kr rfl (AA rfl) rfl (IB (a:=u0) kr (Ik (off:=1) hT kr)) kr ?_;refine RunDT.q (x:= .v (.slice none 0 0)) rfl kr rfl (AA rfl) rfl (A0 (p:=G6 u0 1) kr (Js (off:=1) (y:= .v (.slice none 0 0)) (m:=1) (g:=false) hT kr kr kr)) (NW (off:=1) hT kr) ?_;refine RunDT.q (x:= .v (.int .i64 0)) rfl kr rfl (AA rfl) rfl kr kr ?_;refine IF rfl ?_;refine AS he [(2,.st [])] ?_;refine SemY.ret ?_;have hq:=OI h; subst hq;exact ⟨⟨Fr 14 [(2,.st [])],hp⟩,WkY.f1,.inr rfl,[.st []],kr,⟨rfl,hT⟩⟩
/-- A block told in another way. -/
theorem WkY.blk {E:Env}{fr:List (Option AV)}{h:Hp}{b k:Nat}{t:TypeId}{es es':List AV}(hb:h[b]? = some (some ⟨k,t,es,false⟩)) (hl:es'.length=es.length) (hv:∀ (i:Nat) (x':AV),es'[i]? = some x'->∃ x,es[i]? = some x/\∀ w Z R u,VR w Z R x u->VR w Z R x' u):WkY E ⟨fr,h⟩ ⟨fr,h.set b (some ⟨k,t,es',false⟩)⟩:=by
 intro base w Z R a sr
 have hlt:=Il hb
 have hget:∀ (j:Nat) (B:Blk),(h.set b (some ⟨k,t,es',false⟩))[j]? = some (some B)->∃ B0,h[j]? = some (some B0)/\B0.fz=B.fz/\B0.k=B.k/\B0.t=B.t/\B.es.length=B0.es.length/\∀ (i:Nat) (x':AV),B.es[i]? = some x'->∃ x,B0.es[i]? = some x/\∀ w Z R u,VR w Z R x u->VR w Z R x' u:=fun j B hB=>by
  rw [List.getElem?_set] at hB
  split at hB
  ·next e =>
   subst e
   try rw [if_pos hlt] at hB
   have hB:=(OI (OI hB)).symm
   subst hB
   exact ⟨_,hb,rfl,rfl,rfl,hl,hv⟩
  ·exact ⟨B,hB,rfl,rfl,rfl,rfl,fun i x' hx=>⟨x',hx,fun _ _ _ _ h=>h⟩⟩
 have hown:∀ c,own R (h.set b (some ⟨k,t,es',false⟩)) c->own R h c:=fun c ⟨j,B,r,h1,h2,h3,h4⟩=>by
  obtain ⟨B0,q1,q2,_⟩:=hget j B h1
  exact ⟨j,B0,r,q1,q2.trans h2,h3,h4⟩
 refine ⟨Z,R,⟨⟨by simp [sr.hh.len],fun j B hB=>?_,fun j j' B B' r r' h1 f1 h2 f2 g1 g2 e=>?_,sr.hh.zlt⟩,sr.fr,?_,sr.gl,sr.bs⟩,⟨rfl,rfl,rfl,Nat.le_refl _,fun _ _ _=>rfl,fun c hc=> .inl (hown c hc),fun _ h=>h,fun _ h=> .inl h,fun _ _ h=>h⟩⟩
 ·obtain ⟨B0,q1,q2,q3,q4,q5,q6⟩:=hget j B hB
  obtain ⟨r,arr,us,g1,g2,g3,g4,g5,g6,g7,g8,g9,g10⟩:=sr.hh.blk j B0 q1
  rw [q3] at g2 g4 g10
  rw [q4] at g3
  rw [q2] at g7 g8
  refine ⟨r,arr,us,g1,g2,g3,g4,by rw [q5]; exact g5,g6,g7,g8,⟨by rw [g9.len,q5],fun i x' u hx hu=>?_⟩,g10⟩
  obtain ⟨x,p1,p2⟩:=q6 i x' hx
  exact p2 _ _ _ _ (g9.at_ i x u p1 hu)
 ·obtain ⟨B0,q1,q2,_⟩:=hget j B h1
  obtain ⟨B0',q1',q2',_⟩:=hget j' B' h2
  exact sr.hh.inj j j' B0 B0' r r' q1 (q2.trans f1) q1' (q2'.trans f2) g1 g2 e
 ·exact sr.mks.imp fun q h3 h4 h5=>⟨h3,h4,fun ho=>h5 (hown q ho)⟩
/-- A Builder: not written yet, or with the bytes. -/
def bld (ty:TypeId) (p:AV) (bs:List UInt8):Asn where
 at_ h F:=(bs=[]/\(cel p 2 ty (.ag [.v (.pointer none),.v (.slice none 0 0)])).at_ h F)\/(bs≠[]/\∃ e,(XK (cel p 2 ty (.ag [p,e])) (own_ (ocL 1 5 (ocV (cdK .u8))) e (Bn bs))).at_ h F)
 loc:=fun ha k=>by
  rcases ha with ⟨h1,h2⟩ | ⟨h1,e,h2⟩
  ·exact .inl ⟨h1,Asn.loc _ h2 k⟩
  ·exact .inr ⟨h1,e,Asn.loc _ h2 k⟩
 own:=fun ha hb=>by
  rcases ha with ⟨h1,h2⟩ | ⟨h1,e,h2⟩
  ·exact Asn.own _ h2 hb
  ·exact Asn.own _ h2 hb
section
variable {h:Hp}{ty:TypeId}{p:AV}{bs:List UInt8}{L:List Asn}
theorem UE (ht:T h (cel p 2 ty (.ag [.v (.pointer none),.v (.slice none 0 0)])::L)):T h (bld ty p []::L):=by
 obtain ⟨F,q,hn,hk,_⟩:=ht.act
 exact hk h _ F (.inl ⟨rfl,q⟩) hn (fun _ _ _=>rfl) (fun b hb=> .inl hb)
theorem Qs {e:AV}(hne:bs≠[]) (ht:T h (cel p 2 ty (.ag [p,e])::own_ (ocL 1 5 (ocV (cdK .u8))) e (Bn bs)::L)):T h (bld ty p bs::L):=by
 obtain ⟨F,q,hn,hk,_⟩:=(T.join.1 ht).act
 exact hk h _ F (.inr ⟨hne,e,q⟩) hn (fun _ _ _=>rfl) (fun b hb=> .inl hb)
theorem R9 (ht:T h (bld ty p bs::L)):(bs=[]/\T h (cel p 2 ty (.ag [.v (.pointer none),.v (.slice none 0 0)])::L))\/(bs≠[]/\∃ e,T h (cel p 2 ty (.ag [p,e])::own_ (ocL 1 5 (ocV (cdK .u8))) e (Bn bs)::L)):=by
 obtain ⟨F,q,hn,hk,_⟩:=ht.act
 rcases q with ⟨h1,h2⟩ | ⟨h1,e,h2⟩
 ·exact .inl ⟨h1,hk h _ F h2 hn (fun _ _ _=>rfl) (fun b hb=> .inl hb)⟩
 ·exact .inr ⟨h1,e,T.join.2 (hk h _ F h2 hn (fun _ _ _=>rfl) (fun b hb=> .inl hb))⟩
/-- The buffer that is nil is seen as an empty one. -/
theorem TJ {E:Env}{fr:List (Option AV)}(ht:T h (cel p 2 ty (.ag [.v (.pointer none),.v (.slice none 0 0)])::L)):∃ h',WkY E ⟨fr,h⟩ ⟨fr,h'⟩/\T h' (cel p 2 ty (.ag [.v (.pointer none),.e0])::L):=by
 obtain ⟨F,⟨b,rfl,rfl,h2⟩,hn,hk,_⟩:=ht.act
 have hb:=Il h2
 refine ⟨h.set b (some ⟨2,ty,[.ag [.v (.pointer none),.e0]],false⟩),WkY.blk h2 rfl fun i x' hx=>?_,hk _ _ [b] ⟨b,rfl,rfl,by simp [hb]⟩ (by simp) (fun c hc _=>by rw [List.getElem?_set,if_neg (by intro e; subst e; simp at hc)]) (fun c hc=> .inl hc)⟩
 match i with
 | 0 =>
  simp at hx; subst hx
  refine ⟨_,rfl,fun w Z R u hv=>?_⟩
  cases hv with
  | ag hl h1 hx =>
   refine .ag (by simpa using hl) h1 fun i x u hi hu=>?_
   match i with
   | 0=>simp at hi; subst hi; exact hx 0 _ u rfl hu
   | 1 =>
    simp at hi; subst hi
    have:=(hx 1 _ u rfl hu).v_inv
    subst this
    exact .e0
   | i + 2=>simp at hi
 | i + 1=>simp at hx
end
section
variable {E:Env}{cx:Cx}{ops:Array Oper}{rest rest':List Oper}{K:St->Prop}{n d:Nat}{l:List (Nat×AV)}{hp:Hp}{ty:TypeId}{p:AV}{bs s:List UInt8}{L:List Asn}
theorem QM {t':TypeId}{pos:String}{af:Array Edge}{g:Option (Nat×Bool)}(ht:T hp L) (hr:rest=⟨some d,.alloc ty,t',pos,af,g⟩::rest') (hw:As ops (Fr n l) ⟨some d,.alloc ty,t',pos,af,g⟩=some true) (hz0:FU E.P ty=some (.ag [.v (.pointer none),.e0])) (hz:((E.P.info? ty).bind (·.zero))=some (.agg #[.pointer none,.slice none 0 0])) (k:∀ p hp',T hp' (bld ty p []::L)->RunL E cx ops rest' ⟨Fr n ((d,p)::l),hp'⟩ K):RunL E cx ops rest ⟨Fr n l,hp⟩ K:=by
 subst hr
 intro ro base Q a w Z R hro sr hy q
 refine In rfl (wantedA_eq sr hw) ?_
 obtain ⟨u,_,_,hrun,i,hi,hiz⟩:=JQ (w:=w) (Z:=Z) (R:=R) hz0
 have hu:u = .agg #[.pointer none,.slice none 0 0]:=by
  rw [hi] at hz
  have hz:i.zero=some _:=hz
  rw [hiz] at hz
  exact OI hz
 have hv:VR w Z R (.ag [.v (.pointer none),.v (.slice none 0 0)]) u:=by
  rw [hu]
  refine .ag (us:=[.pointer none,.slice none 0 0]) rfl rfl fun i x u hx hu=>?_
  match i with
  | 0=>simp at hx hu; subst hx hu; exact .v rfl
  | 1=>simp at hx hu; subst hx hu; exact .v rfl
  | i + 2=>simp at hx
 obtain ⟨p,hp',hb,hT⟩:=Nm (t:=ty) (a:= .ag [.v (.pointer none),.v (.slice none 0 0)]) ht rfl
 obtain ⟨w',R',h1,h2,h3,h4,h5⟩:=Lc (P:=E.P) sr.hh hv hb
 have sr':=(sr.step h2 h4).put (d:=some d) h3
 rw [show MK (⟨Fr n l,hp⟩:St).fr (some d) p=Fr n ((d,p)::l) from CM n l d _] at sr'
 refine Ov (u:= .pointer (some ⟨w.heap.size,0,none⟩)) (w':=w') (by simp [execOp,Instr.alloc,hrun,h1]) ?_
 exact k p hp' (UE hT) ro base Q _ w' Z R' hro sr' (hy.step sr.hh h4) fun s' a' w'' Z'' R'' hK sr'' st'=>q s' a' w'' Z'' R'' hK sr'' (h4.trans st')
theorem JT (hP:E.P=E0.P) (hG:E.G=E0.G){f:Operand}{args:Array Operand}{tys:Array TypeId}{t':TypeId}{pos:String}{af:Array Edge}{g:Option (Nat×Bool)}(ht:T hp (bld 76 p bs::L)) (hn:decide (0 < s.length)=true) (hc:Bb 1 (bs.length + s.length)=true) (hr:rest=⟨some d,.call ⟨.value f,args,tys⟩,t',pos,af,g⟩::rest') (hw:As ops (Fr n l) ⟨some d,.call ⟨.value f,args,tys⟩,t',pos,af,g⟩=some true)
  (hf:opA E (Fr n l) f=some (.fn 51 [] [])) (ha:Hg (opA E (Fr n l)) args.toList=some [p,.st s]) (k:∀ hp',T hp' (bld 76 p (bs++s)::L)->RunL E cx ops rest' ⟨Fr n ((d,.tp [.v (.int .i64 (s.length:Int)),.v .nilIface])::l),hp'⟩ K):RunL E cx ops rest ⟨Fr n l,hp⟩ K:=by
 have hne:bs++s≠[]:=fun e=>by
  have:=of_decide_eq_true hn
  have hs:s=[]:=(List.append_eq_nil_iff.1 e).2
  subst hs; simp at this
 rcases R9 ht with ⟨rfl,hT⟩ | ⟨hb,e,hT⟩
 ·obtain ⟨h',hwk,hT'⟩:=TJ (E:=E) (fr:=Fr n l) hT
  refine Ma hwk ?_
  have hv:By s=some ((s.length:Int),[]++Bn s):=by
   unfold By CH
   simp only [OS]
   rw [if_pos (by rw [I4]; exact hc)]
  refine CO (e:=A5) hP hG DQ rfl rfl (fid:=51) (caps:=[]) (xs:=[p,.st s]) (fn:=Tryd.f51) (c:=Du) (Out:=fun v h'=>∃ (z0:AV),v = .tp [.v (.int .i64 (s.length:Int)),.v .nilIface]/\T h' (cel p 2 76 (.ag [p,z0])::own_ (ocL 1 5 (ocV (cdK .u8))) z0 ([]++Bn s)::L)) hr hw hf ha (by kernel_rfl) (by kernel_rfl) (by show 2<=19; decide) (Gz p s _ hv hT') ?_
  rintro xx hp' ⟨z,hq,hT2⟩; subst xx
  refine k hp' (Qs (e:=z) hne ?_)
  exact hT2
 ·have hv:Bp bs s=some ((s.length:Int),Bn bs++Bn s):=by
   unfold Bp CA
   simp only [OS]
   rw [if_pos (by rw [I4,I4]; exact hc)]
  refine CO (e:=A2) hP hG DG rfl rfl (fid:=51) (caps:=[]) (xs:=[p,.st s]) (fn:=Tryd.f51) (c:=Da) (Out:=fun v h'=>∃ (z0:AV),v = .tp [.v (.int .i64 (s.length:Int)),.v .nilIface]/\T h' (cel p 2 76 (.ag [p,z0])::own_ (ocL 1 5 (ocV (cdK .u8))) z0 (Bn bs++Bn s)::L)) hr hw hf ha (by kernel_rfl) (by kernel_rfl) (by show 2<=19; decide) (GO p e bs s _ hv hT) ?_
  rintro xx hp' ⟨z,hq,hT2⟩; subst xx
  refine k hp' (Qs (e:=z) hne ?_)
  rw [RY]
  exact hT2
theorem Pe (hP:E.P=E0.P) (hG:E.G=E0.G){f:Operand}{args:Array Operand}{tys:Array TypeId}{t':TypeId}{pos:String}{af:Array Edge}{g:Option (Nat×Bool)}(ht:T hp (bld 76 p bs::L)) (hk:okB bs=true) (hr:rest=⟨some d,.call ⟨.value f,args,tys⟩,t',pos,af,g⟩::rest') (hw:As ops (Fr n l) ⟨some d,.call ⟨.value f,args,tys⟩,t',pos,af,g⟩=some true)
  (hf:opA E (Fr n l) f=some (.fn 53 [] [])) (ha:Hg (opA E (Fr n l)) args.toList=some [p]) (k:∀ hp',T hp' L->RunL E cx ops rest' ⟨Fr n ((d,.st bs)::l),hp'⟩ K):RunL E cx ops rest ⟨Fr n l,hp⟩ K:=by
 rcases R9 ht with ⟨rfl,hT⟩ | ⟨hb,e,hT⟩
 ·refine CO (e:=CD) hP hG EI rfl rfl (fid:=53) (caps:=[]) (xs:=[p]) (fn:=Tryd.f53) (c:=Eh) (Out:=fun v h'=>v = .st []/\T h' (cel p 2 76 (.ag [.v (.pointer none),.v (.slice none 0 0)])::L)) hr hw hf ha (by kernel_rfl) (by kernel_rfl) (by show 1<=14; decide) (Hw p [] rfl hT) ?_
  rintro xx hp' ⟨hq,hT2⟩; subst xx
  exact k hp' hT2.drop
 ·have hlen:0 < bs.length:=by
   cases bs with
   | nil=>exact absurd rfl hb
   | cons a r=>simp
  have hv:Co bs=some bs:=by
   unfold Co
   rw [if_pos (by rw [I4]; simpa using hlen),if_pos (by simpa using hlen),if_pos hk]
  refine CO (e:=CN) hP hG Ea rfl rfl (fid:=53) (caps:=[]) (xs:=[p]) (fn:=Tryd.f53) (c:=Eu) (Out:=fun v h'=>v = .st bs/\T h' (cel p 2 76 (.ag [p,e])::L)) hr hw hf ha (by kernel_rfl) (by kernel_rfl) (by show 1<=14; decide) (IC p e bs _ hv hT) ?_
  rintro xx hp' ⟨hq,hT2⟩; subst xx
  exact k hp' hT2.drop
end
/- trestle/evening.Format -/
noncomputable def At:Env:=((E0.withX 50 CI).withX 52 LT)
theorem DF:EnvOk At:=(EnvOk.withX (EnvOk.withX BB Ap.1 Ap.2) LZ.1 LZ.2)
noncomputable def CT:Code:=BK Tryd.f17
def HM (c10:Int) (c11:(List UInt8)):Option (((List UInt8))) :=
 if (decide (c10 > 0))=true then
 if (decide (0 < ([32,47,32]:List UInt8).length))=true then
 if (Bb 1 (c11.length + ([32,47,32]:List UInt8).length))=true then
 some (c11++([32,47,32]:List UInt8))
 else none
 else none
 else
 some c11
def HN (c23:Int) (c24:(List UInt8)):Option (((List UInt8))) :=
 if (decide (c23 > 0))=true then
 if (decide (0 < ([32]:List UInt8).length))=true then
 if (Bb 1 (c24.length + ([32]:List UInt8).length))=true then
 some (c24++([32]:List UInt8))
 else none
 else none
 else
 some c24
def Fo (v13:(List Int)):Nat->Int->(List UInt8)->Option (((List UInt8)))
 | 0,_,_=>none
 | f + 1,c23,c24 =>
  if (decide (c23 < (v13.length:Int)))=true then
  (idx v13 c23).bind fun v26 =>
  (HN c23 c24).bind fun r33 =>
  (GN v26).bind fun v36 =>
  if (decide (0 < v36.length))=true then
  if (Bb 1 (r33.length + v36.length))=true then
  Fo v13 f (wr .i64 (c23 + 1)) (r33++v36)
  else none
  else none
  else
  some c24
def Fn (v9:(List (List Int))):Nat->Int->(List UInt8)->Option (((List UInt8)))
 | 0,_,_=>none
 | f + 1,c10,c11 =>
  if (decide (c10 < (v9.length:Int)))=true then
  (idx v9 c10).bind fun v13 =>
  (HM c10 c11).bind fun r20 =>
  (Fo v13 100000 0 r20).bind fun r42 =>
  Fn v9 f (wr .i64 (c10 + 1)) r42
  else
  some c11
def DW (x1:(List (List (List Int)))):Nat->Int->(List UInt8)->Option (((List UInt8)))
 | 0,_,_=>none
 | f + 1,c6,c7 =>
  if (decide (c6 < (x1.length:Int)))=true then
  (idx x1 c6).bind fun v9 =>
  (Fn v9 100000 0 c7).bind fun r46 =>
  if (decide (0 < ([10]:List UInt8).length))=true then
  if (Bb 1 (r46.length + ([10]:List UInt8).length))=true then
  DW x1 f (wr .i64 (c6 + 1)) (r46++([10]:List UInt8))
  else none
  else none
  else
  some c7
def BY (x0:Int) (x1:(List (List (List Int)))):Option ((List UInt8)) :=
 (AZ x0 x1).bind fun v1 =>
 if (!v1)=true then
 some []
 else
 (DW x1 100000 0 ([]:List UInt8)).bind fun r54 =>
 if (okB r54)=true then
 some r54
 else none
theorem K3 {L:List Asn}{hp:Hp}(c10:Int) (c11:(List UInt8)) (x1:(List (List (List Int)))) (e3:AV) (c6:Int) (v9:(List (List Int))) (v13:(List Int)) (r:((List UInt8))) (h:HM c10 c11=some r) (hT:T hp ((bld 76 e3 c11)::L)):SemY At ⟨none,false⟩ (pc CT [1,1,1,0,1,0,0,1,1,0,0,1,0,1,0,0,1,1,0,0,1,0,1]) ⟨Fr 50 [(5,e3),(9,.sl 1 (v13.map cdI.enc)),(16,.sl 1 (x1.map (cdL 1 (cdL 1 cdI)).enc)),(17,.v (.int .i64 (x1.length:Int))),(18,.v (.int .i64 c6)),(22,.sl 1 (v9.map (cdL 1 cdI).enc)),(23,.v (.int .i64 (v9.length:Int))),(24,.v (.int .i64 c10)),(30,.v (.bool (decide (c10 > 0))))],hp⟩ (fun e s=>e = .normal/\∃ s2,(∃ (h':Hp),T h' ((bld 76 e3 r)::L)/\s2=⟨Fr 50 [(5,e3),(9,.sl 1 (v13.map cdI.enc)),(16,.sl 1 (x1.map (cdL 1 (cdL 1 cdI)).enc)),(17,.v (.int .i64 (x1.length:Int))),(18,.v (.int .i64 c6)),(22,.sl 1 (v9.map (cdL 1 cdI).enc)),(23,.v (.int .i64 (v9.length:Int))),(24,.v (.int .i64 c10))],h'⟩)/\WkY At s s2):=by
 unfold HM at h;refine Ab (b:=(decide (c10 > 0))) kr (fun hb14=>?_) (fun hb14=>?_)
 ·rw [if_pos hb14] at h
  refine AC ?_;by_cases hk15:(decide (0 < ([32,47,32]:List UInt8).length))=true
  case neg=>rw [if_neg hk15] at h; cases h
  rw [if_pos hk15] at h;by_cases hk16:(Bb 1 (c11.length + ([32,47,32]:List UInt8).length))=true
  case neg=>rw [if_neg hk16] at h; cases h
  rw [if_pos hk16] at h;refine JT rfl rfl hT hk15 hk16 rfl (AA rfl) kr kr ?_;intro hp17 hT18;refine AL rfl ?_;have hq:=OI h; subst hq;exact ⟨rfl,_,⟨hp17,hT18,rfl⟩,WkY.f1⟩
 ·rw [B9 hb14] at h
  refine SemY.skip ?_;have hq:=OI h; subst hq;exact ⟨rfl,_,⟨hp,hT,rfl⟩,WkY.f1⟩
theorem K4 {L:List Asn}{hp:Hp}(c23:Int) (c24:(List UInt8)) (x1:(List (List (List Int)))) (e3:AV) (c6:Int) (v9:(List (List Int))) (c10:Int) (v13:(List Int)) (v26:Int) (r:((List UInt8))) (h:HN c23 c24=some r) (hT:T hp ((bld 76 e3 c24)::L)):SemY At ⟨none,false⟩ (pc CT [1,1,1,0,1,0,0,1,1,0,0,1,0,1,0,0,1,1,0,0,1,1,1,0,0,1,1,0,0,1,0,1]) ⟨Fr 50 [(5,e3),(11,.v (.int .i64 v26)),(16,.sl 1 (x1.map (cdL 1 (cdL 1 cdI)).enc)),(17,.v (.int .i64 (x1.length:Int))),(18,.v (.int .i64 c6)),(22,.sl 1 (v9.map (cdL 1 cdI).enc)),(23,.v (.int .i64 (v9.length:Int))),(24,.v (.int .i64 c10)),(32,.sl 1 (v13.map cdI.enc)),(33,.v (.int .i64 (v13.length:Int))),(34,.v (.int .i64 c23)),(40,.v (.bool (decide (c23 > 0))))],hp⟩ (fun e s=>e = .normal/\∃ s2,(∃ (h':Hp),T h' ((bld 76 e3 r)::L)/\s2=⟨Fr 50 [(5,e3),(11,.v (.int .i64 v26)),(16,.sl 1 (x1.map (cdL 1 (cdL 1 cdI)).enc)),(17,.v (.int .i64 (x1.length:Int))),(18,.v (.int .i64 c6)),(22,.sl 1 (v9.map (cdL 1 cdI).enc)),(23,.v (.int .i64 (v9.length:Int))),(24,.v (.int .i64 c10)),(32,.sl 1 (v13.map cdI.enc)),(33,.v (.int .i64 (v13.length:Int))),(34,.v (.int .i64 c23))],h'⟩)/\WkY At s s2):=by
 unfold HN at h;refine Ab (b:=(decide (c23 > 0))) kr (fun hb27=>?_) (fun hb27=>?_)
 ·rw [if_pos hb27] at h
  refine AC ?_;by_cases hk28:(decide (0 < ([32]:List UInt8).length))=true
  case neg=>rw [if_neg hk28] at h; cases h
  rw [if_pos hk28] at h;by_cases hk29:(Bb 1 (c24.length + ([32]:List UInt8).length))=true
  case neg=>rw [if_neg hk29] at h; cases h
  rw [if_pos hk29] at h;refine JT rfl rfl hT hk28 hk29 rfl (AA rfl) kr kr ?_;intro hp30 hT31;refine AL rfl ?_;have hq:=OI h; subst hq;exact ⟨rfl,_,⟨hp30,hT31,rfl⟩,WkY.f1⟩
 ·rw [B9 hb27] at h
  refine SemY.skip ?_;have hq:=OI h; subst hq;exact ⟨rfl,_,⟨hp,hT,rfl⟩,WkY.f1⟩
theorem Lj {L:List Asn}(v13:(List Int)) (x1:(List (List (List Int)))) (e3:AV) (c6:Int) (v9:(List (List Int))) (c10:Int):∀ (f:Nat) (c23:Int) (c24:(List UInt8)) (r:((List UInt8))),Fo v13 f c23 c24=some r->∀ (hp:Hp),T hp ((bld 76 e3 c24)::L)->SemYN At ⟨none,false⟩ (pc CT [1,1,1,0,1,0,0,1,1,0,0,1,0,1,0,0,1,1,0,0,1,1,1,0,0]) f ⟨Fr 50 [(5,e3),(16,.sl 1 (x1.map (cdL 1 (cdL 1 cdI)).enc)),(17,.v (.int .i64 (x1.length:Int))),(18,.v (.int .i64 c6)),(22,.sl 1 (v9.map (cdL 1 cdI).enc)),(23,.v (.int .i64 (v9.length:Int))),(24,.v (.int .i64 c10)),(32,.sl 1 (v13.map cdI.enc)),(33,.v (.int .i64 (v13.length:Int))),(34,.v (.int .i64 c23))],hp⟩ (fun e s=>e=(.exit 4)/\∃ s2,(∃ (h':Hp),T h' ((bld 76 e3 r)::L)/\s2=⟨Fr 50 [(5,e3),(16,.sl 1 (x1.map (cdL 1 (cdL 1 cdI)).enc)),(17,.v (.int .i64 (x1.length:Int))),(18,.v (.int .i64 c6)),(22,.sl 1 (v9.map (cdL 1 cdI).enc)),(23,.v (.int .i64 (v9.length:Int))),(24,.v (.int .i64 c10))],h'⟩)/\WkY At s s2):=by
 have he:=DF
 intro f;induction f with
 | zero=>intro c23 c24 r h; cases h
 | succ f ih0 =>
  intro c23 c24 r h  hp hT;unfold Fo at h;refine BA ?_
  let p1:Nat×AV:=(34,.v (.int .i64 c23))
  let p2:Nat×AV:=(33,.v (.int .i64 (v13.length:Int)))
  let p3:Nat×AV:=(32,.sl 1 (v13.map cdI.enc))
  let p4:Nat×AV:=(24,.v (.int .i64 c10))
  let p5:Nat×AV:=(23,.v (.int .i64 (v9.length:Int)))
  let p6:Nat×AV:=(22,.sl 1 (v9.map (cdL 1 cdI).enc))
  let p7:Nat×AV:=(18,.v (.int .i64 c6))
  let p8:Nat×AV:=(17,.v (.int .i64 (x1.length:Int)))
  let p9:Nat×AV:=(16,.sl 1 (x1.map (cdL 1 (cdL 1 cdI)).enc))
  refine AY he [(5,e3),p9,p8,p7,p6,p5,p4,p3,p2,p1,(35,.v (.bool (decide (c23 < (v13.length:Int)))))] ?_;refine AD ?_;refine Ab (b:=(decide (c23 < (v13.length:Int)))) kr (fun hb25=>?_) (fun hb25=>?_)
  ·rw [if_pos hb25] at h
   refine SemY.skip ?_;refine AD ?_;refine AR ?_;refine AD ?_;refine AC ?_;refine AH he 1 ?_;obtain ⟨v26,hv26,h⟩:=OB h;refine AG he 0 rfl (Am (AA rfl) rfl (AF (a:= .sl 1 (v13.map cdI.enc)) (b:= .v (.int .i64 c23)) kr kr (DT (e:=cdI.enc) (el:=3) (k:=1) (ki:= .i64) kr kr hv26))) ?_;refine AS he [(5,e3),(10,.v (.int .i64 c23)),(11,.v (.int .i64 v26)),p9,p8,p7,p6,p5,p4,p3,p2,p1] ?_;refine AD ?_;refine AY he [(5,e3),(11,.v (.int .i64 v26)),p9,p8,p7,p6,p5,p4,p3,p2,p1,(40,.v (.bool (decide (c23 > 0))))] ?_;obtain ⟨r33,hr33,h⟩:=OB h;refine GQ (K4 c23 c24 x1 e3 c6 v9 c10 v13 v26 _ hr33 hT) ?_;rintro _ ⟨hp34,hT35,rfl⟩;refine AC ?_;refine AH he 1 ?_;obtain ⟨v36,hv36,h⟩:=OB h;refine RunL.call he (fid:=52) (b:=v36) (s:=GX) (F:=fun a=>GN a.1) (er:=Gg) (xs:=[.v (.int .i64 v26)]) (a:=(v26,())) rfl (AA rfl) kr kr kr kr (Sns.cons (Sn.enc (c:=cdI) (v:=v26)) Sns.nil) (.inl kr) hv36 ?_;by_cases hk37:(decide (0 < v36.length))=true
   case neg=>rw [if_neg hk37] at h; cases h
   rw [if_pos hk37] at h;by_cases hk38:(Bb 1 (r33.length + v36.length))=true
   case neg=>rw [if_neg hk38] at h; cases h
   rw [if_pos hk38] at h;refine JT rfl rfl hT35 hk37 hk38 rfl (AA rfl) kr kr ?_;intro hp39 hT40;refine AL rfl (SemY.fr (l':=[(5,e3),p9,p8,p7,p6,p5,p4,p3,p2,p1]) kr ?_);refine AC ?_;refine AH he 2 ?_;refine AL rfl ?_;exact Ad WkY.f1 (ih0 (wr .i64 (c23 + 1)) (r33++v36) _ h  hp39 hT40)
  ·rw [B9 hb25] at h
   refine SemY.exit ?_;have hq:=OI h; subst hq;exact ⟨rfl,_,⟨hp,hT,rfl⟩,WkY.f1⟩
theorem Li {L:List Asn}(v9:(List (List Int))) (x1:(List (List (List Int)))) (e3:AV) (c6:Int):∀ (f:Nat) (c10:Int) (c11:(List UInt8)) (r:((List UInt8))),Fn v9 f c10 c11=some r->∀ (hp:Hp),T hp ((bld 76 e3 c11)::L)->SemYN At ⟨none,false⟩ (pc CT [1,1,1,0,1,0,0,1,1,0,0,1,0,1,0,0]) f ⟨Fr 50 [(5,e3),(16,.sl 1 (x1.map (cdL 1 (cdL 1 cdI)).enc)),(17,.v (.int .i64 (x1.length:Int))),(18,.v (.int .i64 c6)),(22,.sl 1 (v9.map (cdL 1 cdI).enc)),(23,.v (.int .i64 (v9.length:Int))),(24,.v (.int .i64 c10))],hp⟩ (fun e s=>e=(.exit 2)/\∃ s2,(∃ (h':Hp),T h' ((bld 76 e3 r)::L)/\s2=⟨Fr 50 [(5,e3),(16,.sl 1 (x1.map (cdL 1 (cdL 1 cdI)).enc)),(17,.v (.int .i64 (x1.length:Int))),(18,.v (.int .i64 c6))],h'⟩)/\WkY At s s2):=by
 have he:=DF
 intro f;induction f with
 | zero=>intro c10 c11 r h; cases h
 | succ f ih0 =>
  intro c10 c11 r h  hp hT;unfold Fn at h;refine BA ?_
  let p1:Nat×AV:=(24,.v (.int .i64 c10))
  let p2:Nat×AV:=(23,.v (.int .i64 (v9.length:Int)))
  let p3:Nat×AV:=(22,.sl 1 (v9.map (cdL 1 cdI).enc))
  let p4:Nat×AV:=(18,.v (.int .i64 c6))
  let p5:Nat×AV:=(17,.v (.int .i64 (x1.length:Int)))
  let p6:Nat×AV:=(16,.sl 1 (x1.map (cdL 1 (cdL 1 cdI)).enc))
  refine AY he [(5,e3),p6,p5,p4,p3,p2,p1,(25,.v (.bool (decide (c10 < (v9.length:Int)))))] ?_;refine AD ?_;refine Ab (b:=(decide (c10 < (v9.length:Int)))) kr (fun hb12=>?_) (fun hb12=>?_)
  ·rw [if_pos hb12] at h
   refine SemY.skip ?_;refine AD ?_;refine AR ?_;refine AD ?_;refine AC ?_;refine AH he 1 ?_;obtain ⟨v13,hv13,h⟩:=OB h;refine AG he 0 rfl (Am (AA rfl) rfl (AF (a:= .sl 1 (v9.map (cdL 1 cdI).enc)) (b:= .v (.int .i64 c10)) kr kr (DT (e:=(cdL 1 cdI).enc) (el:=31) (k:=1) (ki:= .i64) kr kr hv13))) ?_;refine AS he [(5,e3),(8,.v (.int .i64 c10)),(9,.sl 1 (v13.map cdI.enc)),p6,p5,p4,p3,p2,p1] ?_;refine AD ?_;refine AY he [(5,e3),(9,.sl 1 (v13.map cdI.enc)),p6,p5,p4,p3,p2,p1,(30,.v (.bool (decide (c10 > 0))))] ?_;obtain ⟨r20,hr20,h⟩:=OB h;refine GQ (K3 c10 c11 x1 e3 c6 v9 v13 _ hr20 hT) ?_;rintro _ ⟨hp21,hT22,rfl⟩;refine AD ?_;refine AC ?_;refine AH he 1 ?_;refine AG he 0 rfl (Am (AA rfl) rfl (BZ (a:= .sl 1 (v13.map cdI.enc)) kr (Aw (el:=3) kr))) ?_;refine AS he [(5,e3),p6,p5,p4,p3,p2,p1,(32,.sl 1 (v13.map cdI.enc)),(33,.v (.int .i64 (v13.length:Int))),(34,.v (.int .i64 0))] ?_;refine AR ?_;refine SemY.loop (n:=100000) ?_;obtain ⟨r42,hr42,h⟩:=OB h;refine A9 (Ad WkY.f1 (Lj v13 x1 e3 c6 v9 c10 _ 0 r20 _ hr42  hp21 hT22)) ?_;rintro _ ⟨hp43,hT44,rfl⟩;refine AC ?_;refine AH he 2 ?_;refine AL rfl ?_;exact Ad WkY.f1 (ih0 (wr .i64 (c10 + 1)) r42 _ h  hp43 hT44)
  ·rw [B9 hb12] at h
   refine SemY.exit ?_;have hq:=OI h; subst hq;exact ⟨rfl,_,⟨hp,hT,rfl⟩,WkY.f1⟩
theorem Lh {L:List Asn}(x1:(List (List (List Int)))) (e3:AV):∀ (f:Nat) (c6:Int) (c7:(List UInt8)) (r:((List UInt8))),DW x1 f c6 c7=some r->∀ (hp:Hp),T hp ((bld 76 e3 c7)::L)->SemYN At ⟨none,false⟩ (pc CT [1,1,1,0,1,0,0]) f ⟨Fr 50 [(5,e3),(16,.sl 1 (x1.map (cdL 1 (cdL 1 cdI)).enc)),(17,.v (.int .i64 (x1.length:Int))),(18,.v (.int .i64 c6))],hp⟩ (fun e s=>e=(.exit 0)/\∃ s2,(∃ (h':Hp),T h' ((bld 76 e3 r)::L)/\s2=⟨Fr 50 [(5,e3)],h'⟩)/\WkY At s s2):=by
 have he:=DF
 intro f;induction f with
 | zero=>intro c6 c7 r h; cases h
 | succ f ih0 =>
  intro c6 c7 r h  hp hT;unfold DW at h;refine BA ?_
  let p1:Nat×AV:=(18,.v (.int .i64 c6))
  let p2:Nat×AV:=(17,.v (.int .i64 (x1.length:Int)))
  let p3:Nat×AV:=(16,.sl 1 (x1.map (cdL 1 (cdL 1 cdI)).enc))
  refine AY he [(5,e3),p3,p2,p1,(19,.v (.bool (decide (c6 < (x1.length:Int)))))] ?_;refine AD ?_;refine Ab (b:=(decide (c6 < (x1.length:Int)))) kr (fun hb8=>?_) (fun hb8=>?_)
  ·rw [if_pos hb8] at h
   refine SemY.skip ?_;refine AD ?_;refine AR ?_;refine AD ?_;refine AC ?_;obtain ⟨v9,hv9,h⟩:=OB h;refine AG he 0 rfl (Am (AA rfl) rfl (AF (a:= .sl 1 (x1.map (cdL 1 (cdL 1 cdI)).enc)) (b:= .v (.int .i64 c6)) kr kr (DT (e:=(cdL 1 (cdL 1 cdI)).enc) (el:=50) (k:=1) (ki:= .i64) kr kr hv9))) ?_;refine AS he [(5,e3),(7,.sl 1 (v9.map (cdL 1 cdI).enc)),p3,p2,p1] ?_;refine AD ?_;refine AD ?_;refine AC ?_;refine AH he 1 ?_;refine AG he 0 rfl (Am (AA rfl) rfl (BZ (a:= .sl 1 (v9.map (cdL 1 cdI).enc)) kr (Aw (el:=31) kr))) ?_;refine AS he [(5,e3),p3,p2,p1,(22,.sl 1 (v9.map (cdL 1 cdI).enc)),(23,.v (.int .i64 (v9.length:Int))),(24,.v (.int .i64 0))] ?_;refine AR ?_;refine SemY.loop (n:=100000) ?_;obtain ⟨r46,hr46,h⟩:=OB h;refine A9 (Ad WkY.f1 (Li v9 x1 e3 c6 _ 0 c7 _ hr46  hp hT)) ?_;rintro _ ⟨hp47,hT48,rfl⟩;refine AC ?_;by_cases hk49:(decide (0 < ([10]:List UInt8).length))=true
   case neg=>rw [if_neg hk49] at h; cases h
   rw [if_pos hk49] at h;by_cases hk50:(Bb 1 (r46.length + ([10]:List UInt8).length))=true
   case neg=>rw [if_neg hk50] at h; cases h
   rw [if_pos hk50] at h;refine JT rfl rfl hT48 hk49 hk50 rfl (AA rfl) kr kr ?_;intro hp51 hT52;refine AL rfl (SemY.fr (l':=[(5,e3),p3,p2,p1]) kr ?_);refine AC ?_;refine AH he 2 ?_;refine AL rfl ?_;exact Ad WkY.f1 (ih0 (wr .i64 (c6 + 1)) (r46++([10]:List UInt8)) _ h  hp51 hT52)
  ·rw [B9 hb8] at h
   refine SemY.exit ?_;have hq:=OI h; subst hq;exact ⟨rfl,_,⟨hp,hT,rfl⟩,WkY.f1⟩
theorem L5 {L:List Asn}{hp:Hp}(x0:Int) (x1:(List (List (List Int)))) (r:(List UInt8)) (h:BY x0 x1=some r) (hT:T hp (L)):SemY At ⟨none,false⟩ CT ⟨Fr 50 (Av 0 [.v (.int .i64 x0),.sl 1 (x1.map (cdL 1 (cdL 1 cdI)).enc)]),hp⟩ fun x s'=>(x = .normal\/x = .ret)/\∃ ys,FA At.P s'.fr s'.hp Tryd.f17.results.toList=some ys/\(fun v h'=>v = .st r/\T h' (L)) (FZ ys) s'.hp:=by
 have he:=DF
 unfold BY at h
 let p1:Nat×AV:=(1,.sl 1 (x1.map (cdL 1 (cdL 1 cdI)).enc))
 refine Dw (Ef (s1:=⟨Fr 50 [(0,.v (.int .i64 x0)),p1],hp⟩) WkY.f1 ?_);refine AY he [(0,.v (.int .i64 x0)),p1] ?_;refine AD ?_;refine AD ?_;refine AC ?_;refine AH he 2 ?_;obtain ⟨v1,hv1,h⟩:=OB h;refine RunL.call he (fid:=50) (b:=v1) (s:=BL) (F:=fun a=>AZ a.1 a.2.1) (er:=BN) (xs:=[.v (.int .i64 x0),.sl 1 (x1.map (cdL 1 (cdL 1 cdI)).enc)]) (a:=(x0,x1,())) rfl (AA rfl) kr kr kr kr (Sns.cons (Sn.enc (c:=cdI) (v:=x0)) (Sns.cons (Sn.enc (c:=(cdL 1 (cdL 1 (cdL 1 cdI)))) (v:=x1)) Sns.nil)) (.inl kr) hv1 ?_;refine AS he [p1,(15,.v (.bool (!v1)))] ?_;refine Ab (b:=(!v1)) kr (fun hb2=>?_) (fun hb2=>?_)
 ·rw [if_pos hb2] at h
  refine AY he [(4,.st [])] ?_;refine SemY.ret ?_;have hq:=OI h; subst hq;exact ⟨⟨Fr 50 [(4,.st [])],hp⟩,WkY.f1,.inr rfl,[.st []],kr,⟨rfl,hT⟩⟩
 ·rw [B9 hb2] at h
  refine SemY.skip ?_;refine AD ?_;refine AC ?_;refine QM (ty:=76) hT rfl (AA rfl) kr kr ?_;intro e3 hp4 hT5;refine AL rfl (SemY.fr (l':=[p1,(5,e3)]) kr ?_);refine AD ?_;refine AD ?_;refine AC ?_;refine AH he 1 ?_;refine AG he 0 rfl (Am (AA rfl) rfl (BZ (a:= .sl 1 (x1.map (cdL 1 (cdL 1 cdI)).enc)) kr (Aw (el:=50) kr))) ?_;refine AS he [(5,e3),(16,.sl 1 (x1.map (cdL 1 (cdL 1 cdI)).enc)),(17,.v (.int .i64 (x1.length:Int))),(18,.v (.int .i64 0))] ?_;refine AR ?_;refine SemY.loop (n:=100000) ?_;obtain ⟨r54,hr54,h⟩:=OB h;refine A9 (Ad WkY.f1 (Lh x1 e3 _ 0 ([]:List UInt8) _ hr54  hp4 hT5)) ?_;rintro _ ⟨hp55,hT56,rfl⟩;refine AD ?_;refine AC ?_;by_cases hk57:(okB r54)=true
  case neg=>rw [if_neg hk57] at h; cases h
  rw [if_pos hk57] at h;refine Pe rfl rfl hT56 hk57 rfl (AA rfl) kr kr ?_;intro hp58 hT59;refine AS he [(4,.st r54)] ?_;refine SemY.ret ?_;have hq:=OI h; subst hq;exact ⟨⟨Fr 50 [(4,.st r54)],hp58⟩,WkY.f1,.inr rfl,[.st r54],kr,⟨rfl,hT59⟩⟩
def FD:Cs (Int×(List (List (List Int)))×Unit):=(csC cdI (csC (cdL 1 (cdL 1 (cdL 1 cdI))) csN))
def FI (r:(List UInt8)):AV:=cdS.enc r
def Jv:List AV->Option AV:=GP FD (fun a=>BY a.1 a.2.1) FI
theorem Jz:XOk 17 Jv:=by
 refine EnvOk.x (E:=At) (Af DF (fn:=Tryd.f17) (c:=CT) ?h1 ?h2 ⟨Tryd.call17⟩ FD (fun a=>BY a.1 a.2.1) FI (fun a=>(by show 2<=50; decide)) ?h3 ?h4) rfl rfl
 case h1=>kernel_rfl
 case h2=>kernel_rfl
 case h3=>intro b; kernel_rfl
 case h4 =>
  intro a b h;refine Sem.mono (Nj (L5 (L:=[]) (hp:=[]) a.1 a.2.1 b h T.nil)) fun e s' hs=>?_
  obtain ⟨h1,ys,h2,h3,-⟩:=hs;exact ⟨h1,ys,h2,h3⟩
/- trestle/evening.clone -/
noncomputable def A4:Env:=E0
theorem Bi:EnvOk A4:=BB
noncomputable def CB:Code:=BK Tryd.f79
def FP (v6:(List (List Int))):Nat->Int->(List (List Int))->Option (((List (List Int))))
 | 0,_,_=>none
 | f + 1,c8,c10 =>
  if (decide (c8 < (v6.length:Int)))=true then
  (idx v6 c8).bind fun v12 =>
  if (Bb 8 v12.length)=true then
  if (Bb 24 (c10.length + ([v12]:List (List Int)).length))=true then
  FP v6 f (wr .i64 (c8 + 1)) (c10++([v12]:List (List Int)))
  else none
  else none
  else
  some c10
def FO (x0:(List (List (List Int)))):Nat->Int->(List (List (List Int)))->Option (((List (List (List Int)))))
 | 0,_,_=>none
 | f + 1,c2,c4 =>
  if (decide (c2 < (x0.length:Int)))=true then
  (idx x0 c2).bind fun v6 =>
  (FP v6 100000 0 ([]:(List (List Int)))).bind fun r32 =>
  if (Bb 24 (c4.length + ([r32]:List (List (List Int))).length))=true then
  FO x0 f (wr .i64 (c2 + 1)) (c4++([r32]:List (List (List Int))))
  else none
  else
  some c4
def EB (x0:(List (List (List Int)))):Option ((List (List (List Int)))) :=
 (FO x0 100000 0 ([]:(List (List (List Int))))).bind fun r50 =>
 some r50
theorem LB {L:List Asn}(v6:(List (List Int))) (x0:(List (List (List Int)))) (c2:Int) (e3:AV) (c4:(List (List (List Int)))):∀ (f:Nat) (c8:Int) (c10:(List (List Int))) (r:((List (List Int)))),FP v6 f c8 c10=some r->∀ (e9:AV) (hp:Hp),T hp ((own_ (ocL 1 50 (ocL 1 31 (ocL 1 3 (ocV cdI)))) e3 c4)::(own_ (ocL 1 31 (ocL 1 3 (ocV cdI))) e9 c10)::L)->SemYN A4 ⟨none,false⟩ (pc CB [1,1,0,1,0,0,1,1,0,0,1,1,0,1,0,0]) f ⟨Fr 33 [(3,e3),(6,e9),(9,.sl 1 (x0.map (cdL 1 (cdL 1 cdI)).enc)),(10,.v (.int .i64 (x0.length:Int))),(11,.v (.int .i64 c2)),(15,.sl 1 (v6.map (cdL 1 cdI).enc)),(16,.v (.int .i64 (v6.length:Int))),(17,.v (.int .i64 c8))],hp⟩ (fun e s=>e=(.exit 2)/\∃ s2,(∃ (e29:AV) (h':Hp),T h' ((own_ (ocL 1 50 (ocL 1 31 (ocL 1 3 (ocV cdI)))) e3 c4)::(own_ (ocL 1 31 (ocL 1 3 (ocV cdI))) e29 r)::L)/\s2=⟨Fr 33 [(3,e3),(6,e29),(9,.sl 1 (x0.map (cdL 1 (cdL 1 cdI)).enc)),(10,.v (.int .i64 (x0.length:Int))),(11,.v (.int .i64 c2))],h'⟩)/\WkY A4 s s2):=by
 have he:=Bi
 intro f;induction f with
 | zero=>intro c8 c10 r h; cases h
 | succ f ih0 =>
  intro c8 c10 r h e9 hp hT;unfold FP at h;refine BA ?_
  let p1:Nat×AV:=(17,.v (.int .i64 c8))
  let p2:Nat×AV:=(16,.v (.int .i64 (v6.length:Int)))
  let p3:Nat×AV:=(15,.sl 1 (v6.map (cdL 1 cdI).enc))
  let p4:Nat×AV:=(11,.v (.int .i64 c2))
  let p5:Nat×AV:=(10,.v (.int .i64 (x0.length:Int)))
  let p6:Nat×AV:=(9,.sl 1 (x0.map (cdL 1 (cdL 1 cdI)).enc))
  refine AY he [(3,e3),(6,e9),p6,p5,p4,p3,p2,p1,(18,.v (.bool (decide (c8 < (v6.length:Int)))))] ?_;refine AD ?_;refine Ab (b:=(decide (c8 < (v6.length:Int)))) kr (fun hb11=>?_) (fun hb11=>?_)
  ·rw [if_pos hb11] at h
   refine SemY.skip ?_;refine AD ?_;refine AR ?_;refine AD ?_;refine AC ?_;obtain ⟨v12,hv12,h⟩:=OB h;refine AG he 0 rfl (Am (AA rfl) rfl (AF (a:= .sl 1 (v6.map (cdL 1 cdI).enc)) (b:= .v (.int .i64 c8)) kr kr (DT (e:=(cdL 1 cdI).enc) (el:=31) (k:=1) (ki:= .i64) kr kr hv12))) ?_;refine AS he [(3,e3),(6,e9),(8,.sl 1 (v12.map cdI.enc)),p6,p5,p4,p3,p2,p1] ?_;refine AC ?_;refine AH he 2 ?_;by_cases hk13:(Bb 8 v12.length)=true
   case neg=>rw [if_neg hk13] at h; cases h
   rw [if_pos hk13] at h;refine I2 rfl rfl (OM v12 hk13) rfl (AA rfl) kr (xs:=[.sl 1 (v12.map cdI.enc)]) kr (Sees.cons (SeeV.enc (c:=cdL 1 cdI)) Sees.nil) I6 ?_;intro x h' hO; obtain ⟨e14,hp15,e14q,hp15q,hT16⟩:=L0 hT hO; rw [<-e14q,<-hp15q]
   have hl21:K2 Tryd.prog 31 e14=some (eI v12.length):=NJ hT16 kr
   obtain ⟨e20,hp17,hb18,hT19⟩:=Ft (P:=Tryd.prog) (bytes:=24) (k:=1) (t:=31) (ty:=50) (xs:=([v12]:List (List Int))) (n:=1) TW (PD ((QP (o:=(ocL 1 3 (ocV cdI))) hT16).front 1 rfl)) rfl kr kr kr;refine AG he 0 rfl (OW (AA rfl) rfl kr (NL (xs:=J5 0 [e14]) kr hb18)) ?_;by_cases hk26:(Bb 24 (c10.length + ([v12]:List (List Int)).length))=true
   case neg=>rw [if_neg hk26] at h; cases h
   rw [if_pos hk26] at h
   have hT27:=((hT19.front 0 rfl).front 2 rfl)
   obtain ⟨e25,hp22,hb23,hT24⟩:=If (P:=Tryd.prog) (ty:=50) (ty2:=50) (bytes:=24) hT27 kr kr hk26;refine AG he 0 rfl (Ox (AA rfl) rfl kr kr (DO (a:=e9) (b:=e20) kr kr hb23)) ?_;refine AS he [(3,e3),(6,e25),p6,p5,p4,p3,p2,p1] ?_;refine AC ?_;refine AH he 2 ?_;refine AL rfl ?_
   have hT28:=(hT24.front 1 rfl)
   exact Ad WkY.f1 (ih0 (wr .i64 (c8 + 1)) (c10++([v12]:List (List Int))) _ h e25 hp22 hT28)
  ·rw [B9 hb11] at h
   refine SemY.exit ?_;have hq:=OI h; subst hq;exact ⟨rfl,_,⟨e9,hp,hT,rfl⟩,WkY.f1⟩
theorem LA {L:List Asn}(x0:(List (List (List Int)))):∀ (f:Nat) (c2:Int) (c4:(List (List (List Int)))) (r:((List (List (List Int))))),FO x0 f c2 c4=some r->∀ (e3:AV) (hp:Hp),T hp ((own_ (ocL 1 50 (ocL 1 31 (ocL 1 3 (ocV cdI)))) e3 c4)::L)->SemYN A4 ⟨none,false⟩ (pc CB [1,1,0,1,0,0]) f ⟨Fr 33 [(3,e3),(9,.sl 1 (x0.map (cdL 1 (cdL 1 cdI)).enc)),(10,.v (.int .i64 (x0.length:Int))),(11,.v (.int .i64 c2))],hp⟩ (fun e s=>e=(.exit 0)/\∃ s2,(∃ (e48:AV) (h':Hp),T h' ((own_ (ocL 1 50 (ocL 1 31 (ocL 1 3 (ocV cdI)))) e48 r)::L)/\s2=⟨Fr 33 [(3,e48)],h'⟩)/\WkY A4 s s2):=by
 have he:=Bi
 intro f;induction f with
 | zero=>intro c2 c4 r h; cases h
 | succ f ih0 =>
  intro c2 c4 r h e3 hp hT;unfold FO at h;refine BA ?_
  let p1:Nat×AV:=(11,.v (.int .i64 c2))
  let p2:Nat×AV:=(10,.v (.int .i64 (x0.length:Int)))
  let p3:Nat×AV:=(9,.sl 1 (x0.map (cdL 1 (cdL 1 cdI)).enc))
  refine AY he [(3,e3),p3,p2,p1,(12,.v (.bool (decide (c2 < (x0.length:Int)))))] ?_;refine AD ?_;refine Ab (b:=(decide (c2 < (x0.length:Int)))) kr (fun hb5=>?_) (fun hb5=>?_)
  ·rw [if_pos hb5] at h
   refine SemY.skip ?_;refine AD ?_;refine AR ?_;refine AD ?_;refine AC ?_;obtain ⟨v6,hv6,h⟩:=OB h;refine AG he 0 rfl (Am (AA rfl) rfl (AF (a:= .sl 1 (x0.map (cdL 1 (cdL 1 cdI)).enc)) (b:= .v (.int .i64 c2)) kr kr (DT (e:=(cdL 1 (cdL 1 cdI)).enc) (el:=50) (k:=1) (ki:= .i64) kr kr hv6))) ?_
   let p4:Nat×AV:=(5,.sl 1 (v6.map (cdL 1 cdI).enc))
   refine AS he [(3,e3),p4,p3,p2,p1] ?_;refine AY he [(3,e3),p4,(6,.e0),p3,p2,p1] ?_;refine AD ?_;refine AD ?_;refine AC ?_;refine AH he 1 ?_;refine AG he 0 rfl (Am (AA rfl) rfl (BZ (a:= .sl 1 (v6.map (cdL 1 cdI).enc)) kr (Aw (el:=31) kr))) ?_;refine AS he [(3,e3),(6,.e0),p3,p2,p1,(15,.sl 1 (v6.map (cdL 1 cdI).enc)),(16,.v (.int .i64 (v6.length:Int))),(17,.v (.int .i64 0))] ?_;refine AR ?_
   have hT7:=(T.e0 (k:=1) (ty:=31) (o:=(ocL 1 3 (ocV cdI))) hT)
   have hT31:=(hT7.front 1 rfl)
   refine SemY.loop (n:=100000) ?_;obtain ⟨r32,hr32,h⟩:=OB h;refine A9 (Ad WkY.f1 (LB v6 x0 c2 e3 c4 _ 0 ([]:(List (List Int))) _ hr32 .e0 hp hT31)) ?_;rintro _ ⟨e33,hp34,hT35,rfl⟩;refine AC ?_;refine AH he 2 ?_
   have hT40:=(hT35.front 1 rfl)
   have hl41:K2 Tryd.prog 50 e33=some (eI r32.length):=NJ hT40 kr
   obtain ⟨e39,hp36,hb37,hT38⟩:=Ft (P:=Tryd.prog) (bytes:=24) (k:=1) (t:=50) (ty:=22) (xs:=([r32]:List (List (List Int)))) (n:=1) TW (PD ((QP (o:=(ocL 1 31 (ocL 1 3 (ocV cdI)))) hT40).front 1 rfl)) rfl kr kr kr;refine AG he 0 rfl (OW (AA rfl) rfl kr (NL (xs:=J5 0 [e33]) kr hb37)) ?_;by_cases hk46:(Bb 24 (c4.length + ([r32]:List (List (List Int))).length))=true
   case neg=>rw [if_neg hk46] at h; cases h
   rw [if_pos hk46] at h
   have hT47:=((hT38.front 0 rfl).front 1 rfl)
   obtain ⟨e45,hp42,hb43,hT44⟩:=If (P:=Tryd.prog) (ty:=22) (ty2:=22) (bytes:=24) hT47 kr kr hk46;refine AG he 0 rfl (Ox (AA rfl) rfl kr kr (DO (a:=e3) (b:=e39) kr kr hb43)) ?_;refine AS he [(3,e45),p3,p2,p1] ?_;refine AC ?_;refine AH he 2 ?_;refine AL rfl ?_;exact Ad WkY.f1 (ih0 (wr .i64 (c2 + 1)) (c4++([r32]:List (List (List Int)))) _ h e45 hp42 hT44)
  ·rw [B9 hb5] at h
   refine SemY.exit ?_;have hq:=OI h; subst hq;exact ⟨rfl,_,⟨e3,hp,hT,rfl⟩,WkY.f1⟩
theorem ET {L:List Asn}{hp:Hp}(x0:(List (List (List Int)))) (r:(List (List (List Int)))) (h:EB x0=some r) (hT:T hp (L)):SemY A4 ⟨none,false⟩ CB ⟨Fr 33 (Av 0 [.sl 1 (x0.map (cdL 1 (cdL 1 cdI)).enc)]),hp⟩ fun x s'=>(x = .normal\/x = .ret)/\∃ ys,FA A4.P s'.fr s'.hp Tryd.f79.results.toList=some ys/\(fun v h'=>∃ (z0:AV),v=z0/\T h' ((own_ (ocL 1 50 (ocL 1 31 (ocL 1 3 (ocV cdI)))) z0 r)::L)) (FZ ys) s'.hp:=by
 have he:=Bi
 unfold EB at h
 let p1:Nat×AV:=(0,.sl 1 (x0.map (cdL 1 (cdL 1 cdI)).enc))
 refine Dw (Ef (s1:=⟨Fr 33 [p1],hp⟩) WkY.f1 ?_);refine AY he [p1] ?_;refine AY he [p1,(3,.e0)] ?_;refine AD ?_;refine AD ?_;refine AC ?_;refine AH he 1 ?_;refine AG he 0 rfl (Am (AA rfl) rfl (BZ (a:= .sl 1 (x0.map (cdL 1 (cdL 1 cdI)).enc)) kr (Aw (el:=50) kr))) ?_;refine AS he [(3,.e0),(9,.sl 1 (x0.map (cdL 1 (cdL 1 cdI)).enc)),(10,.v (.int .i64 (x0.length:Int))),(11,.v (.int .i64 0))] ?_;refine AR ?_
 have hT1:=(T.e0 (k:=1) (ty:=50) (o:=(ocL 1 31 (ocL 1 3 (ocV cdI)))) hT)
 refine SemY.loop (n:=100000) ?_;obtain ⟨r50,hr50,h⟩:=OB h;refine A9 (Ad WkY.f1 (LA x0 _ 0 ([]:(List (List (List Int)))) _ hr50 .e0 hp hT1)) ?_;rintro _ ⟨e51,hp52,hT53,rfl⟩;refine AY he [(2,e51)] ?_;refine SemY.ret ?_;have hq:=OI h; subst hq;exact ⟨⟨Fr 33 [(2,e51)],hp52⟩,WkY.f1,.inr rfl,[e51],kr,⟨e51,rfl,hT53⟩⟩
/- trestle/evening.Relabel -/
noncomputable def Ak:Env:=((E0.withX 27 EE).withX 83 Id)
theorem Cr:EnvOk Ak:=(EnvOk.withX (EnvOk.withX BB Bv.1 Bv.2) G4.1 G4.2)
noncomputable def DY:Code:=BK Tryd.f29
def FN (x2:(List Int)) (c37:Int) (c38:(List (List Int))) (v40:(List Int)):Nat->Int->(List Int)->Option (((List (List Int))))
 | 0,_,_=>none
 | f + 1,c45,c46 =>
  if (decide (c45 < (v40.length:Int)))=true then
  (idx c46 c45).bind fun v48 =>
  (idx x2 v48).bind fun v50 =>
  (idx c46 c45).bind fun _v51 =>
  FN x2 c37 c38 v40 f (wr .i64 (c45 + 1)) (c46.set c45.toNat v50)
  else
  some (c38.set c37.toNat c46)
def FM (x2:(List Int)) (c30:Int) (c31:(List (List (List Int)))) (v33:(List (List Int))):Nat->Int->(List (List Int))->Option (((List (List (List Int)))))
 | 0,_,_=>none
 | f + 1,c37,c38 =>
  if (decide (c37 < (v33.length:Int)))=true then
  (idx c38 c37).bind fun v40 =>
  (FN x2 c37 c38 v40 100000 0 v40).bind fun r63 =>
  FM x2 c30 c31 v33 f (wr .i64 (c37 + 1)) r63
  else
  some (c31.set c30.toNat c38)
def FL (x2:(List Int)) (v26:(List (List (List Int)))):Nat->Int->(List (List (List Int)))->Option (((List (List (List Int)))))
 | 0,_,_=>none
 | f + 1,c30,c31 =>
  if (decide (c30 < (v26.length:Int)))=true then
  (idx c31 c30).bind fun v33 =>
  (FM x2 c30 c31 v33 100000 0 v33).bind fun r72 =>
  FL x2 v26 f (wr .i64 (c30 + 1)) r72
  else
  some c31
def Ci (x0:Int) (x1:(List (List (List Int)))) (x2:(List Int)):Option ((List (List (List Int)))×Int) :=
 (AT x0 [] x1).bind fun v1 =>
 if (v1.2 != 0)=true then
 some (([]:(List (List (List Int)))),v1.2)
 else
 (if ((x2.length:Int)!=x0)=true then some true else (CX x0 ([x0]:List Int) ([x2]:List (List Int))).bind fun v15 =>
 some (v15 != 0)).bind fun j16 =>
 if j16=true then
 some (([]:(List (List (List Int)))),2)
 else
 (EB x1).bind fun v26 =>
 (FL x2 v26 100000 0 v26).bind fun r76 =>
 some (r76,0)
theorem K8 {L:List Asn}(x2:(List Int)) (c37:Int) (c38:(List (List Int))) (v40:(List Int)) (v26:(List (List (List Int)))) (e27:AV) (c30:Int) (c31:(List (List (List Int)))) (v33:(List (List Int))) (e34:AV) (e42:AV):∀ (f:Nat) (c45:Int) (c46:(List Int)) (r:((List (List Int)))),FN x2 c37 c38 v40 f c45 c46=some r->∀ (hp:Hp),T hp ((Ob 1 50 (ocL 1 31 (ocL 1 3 (ocV cdI))) e27 c31 c30.toNat e34 v33)::(Ob 1 31 (ocL 1 3 (ocV cdI)) e34 c38 c37.toNat e42 v40)::(own_ (ocL 1 3 (ocV cdI)) e42 c46)::L)->SemYN Ak ⟨none,false⟩ (pc DY [1,1,1,1,0,1,0,0,1,1,0,0,1,1,0,0,1,1,0,0,1,1,0,0]) f ⟨Fr 71 [(2,.sl 1 (x2.map cdI.enc)),(10,e27),(14,e42),(41,e27),(42,.v (.int .i64 (v26.length:Int))),(43,.v (.int .i64 c30)),(47,e34),(48,.v (.int .i64 (v33.length:Int))),(49,.v (.int .i64 c37)),(53,e42),(54,.v (.int .i64 (v40.length:Int))),(55,.v (.int .i64 c45))],hp⟩ (fun e s=>e=(.exit 4)/\∃ s2,(∃ (h':Hp),T h' ((Ob 1 50 (ocL 1 31 (ocL 1 3 (ocV cdI))) e27 c31 c30.toNat e34 v33)::(own_ (ocL 1 31 (ocL 1 3 (ocV cdI))) e34 r)::L)/\s2=⟨Fr 71 [(2,.sl 1 (x2.map cdI.enc)),(10,e27),(41,e27),(42,.v (.int .i64 (v26.length:Int))),(43,.v (.int .i64 c30)),(47,e34),(48,.v (.int .i64 (v33.length:Int))),(49,.v (.int .i64 c37))],h'⟩)/\WkY Ak s s2):=by
 have he:=Cr
 intro f;induction f with
 | zero=>intro c45 c46 r h; cases h
 | succ f ih0 =>
  intro c45 c46 r h  hp hT;unfold FN at h;refine BA ?_
  let p1:Nat×AV:=(55,.v (.int .i64 c45))
  let p2:Nat×AV:=(54,.v (.int .i64 (v40.length:Int)))
  let p3:Nat×AV:=(49,.v (.int .i64 c37))
  let p4:Nat×AV:=(48,.v (.int .i64 (v33.length:Int)))
  let p5:Nat×AV:=(43,.v (.int .i64 c30))
  let p6:Nat×AV:=(42,.v (.int .i64 (v26.length:Int)))
  let p7:Nat×AV:=(2,.sl 1 (x2.map cdI.enc))
  refine AY he [p7,(10,e27),(14,e42),(41,e27),p6,p5,(47,e34),p4,p3,(53,e42),p2,p1,(56,.v (.bool (decide (c45 < (v40.length:Int)))))] ?_;refine AD ?_;refine Ab (b:=(decide (c45 < (v40.length:Int)))) kr (fun hb47=>?_) (fun hb47=>?_)
  ·rw [if_pos hb47] at h
   refine SemY.skip ?_;refine AD ?_;refine AR ?_;refine AD ?_;refine AC ?_;refine AH he 1 ?_;obtain ⟨v48,hv48,h⟩:=OB h
   have hT49:=(hT.front 2 rfl)
   refine AG he 0 rfl (Am (AA rfl) rfl (AF (a:=e42) (b:= .v (.int .i64 c45)) kr kr (Lp (bytes:=8) hT49 kr hv48))) ?_;refine AG he 0 rfl (Am (AA rfl) rfl (A0 (p:=eAt e42 c45.toNat) kr (Kc (y:= .v (.int .i64 v48)) (m:=1) (g:=false) hT49 (AW hv48).2 kr kr kr))) ?_;refine AS he [p7,(10,e27),(14,e42),(15,.v (.int .i64 c45)),(16,.v (.int .i64 v48)),(41,e27),p6,p5,(47,e34),p4,p3,(53,e42),p2,p1] ?_;refine AC ?_;refine AH he 4 ?_;obtain ⟨v50,hv50,h⟩:=OB h;refine AG he 0 rfl (Am (AA rfl) rfl (AF (a:= .sl 1 (x2.map cdI.enc)) (b:= .v (.int .i64 v48)) kr kr (DT (e:=cdI.enc) (el:=3) (k:=1) (ki:= .i64) kr kr hv50))) ?_;refine AH he 1 ?_;obtain ⟨v51,hv51,h⟩:=OB h;refine AG he 0 rfl (Am (AA rfl) rfl (AF (a:=e42) (b:= .v (.int .i64 c45)) kr kr (Lp (bytes:=8) hT49 kr hv51))) ?_;obtain ⟨hp52,hs53,hT54⟩:=Ic (P:=Tryd.prog) (ty:=3) (y:= .v (.int .i64 v50)) (v':=v50) hT49 (AW hv51).2 kr kr kr;refine RunL.store he (y:=eAt e42 c45.toNat) (z:= .v (.int .i64 v50)) rfl (AA rfl) kr kr hs53 ?_;refine AL rfl (SemY.fr (l':=[p7,(10,e27),(14,e42),(41,e27),p6,p5,(47,e34),p4,p3,(53,e42),p2,p1]) kr ?_);refine AC ?_;refine AH he 2 ?_;refine AL rfl ?_
   have hT55:=((hT54.front 2 rfl).front 2 rfl)
   exact Ad WkY.f1 (ih0 (wr .i64 (c45 + 1)) (c46.set c45.toNat v50) _ h  hp52 hT55)
  ·rw [B9 hb47] at h
   refine SemY.exit ?_;have hq:=OI h; subst hq
   have hT59:=((hT.front 1 rfl).front 2 rfl)
   have hT60:=(T.merge hT59)
   have hT61:=(hT60.front 1 rfl)
   exact ⟨rfl,_,⟨hp,hT61,rfl⟩,WkY.f1⟩
theorem K7 {L:List Asn}(x2:(List Int)) (c30:Int) (c31:(List (List (List Int)))) (v33:(List (List Int))) (v26:(List (List (List Int)))) (e27:AV) (e34:AV):∀ (f:Nat) (c37:Int) (c38:(List (List Int))) (r:((List (List (List Int))))),FM x2 c30 c31 v33 f c37 c38=some r->∀ (hp:Hp),T hp ((Ob 1 50 (ocL 1 31 (ocL 1 3 (ocV cdI))) e27 c31 c30.toNat e34 v33)::(own_ (ocL 1 31 (ocL 1 3 (ocV cdI))) e34 c38)::L)->SemYN Ak ⟨none,false⟩ (pc DY [1,1,1,1,0,1,0,0,1,1,0,0,1,1,0,0]) f ⟨Fr 71 [(2,.sl 1 (x2.map cdI.enc)),(10,e27),(41,e27),(42,.v (.int .i64 (v26.length:Int))),(43,.v (.int .i64 c30)),(47,e34),(48,.v (.int .i64 (v33.length:Int))),(49,.v (.int .i64 c37))],hp⟩ (fun e s=>e=(.exit 2)/\∃ s2,(∃ (h':Hp),T h' ((own_ (ocL 1 50 (ocL 1 31 (ocL 1 3 (ocV cdI)))) e27 r)::L)/\s2=⟨Fr 71 [(2,.sl 1 (x2.map cdI.enc)),(10,e27),(41,e27),(42,.v (.int .i64 (v26.length:Int))),(43,.v (.int .i64 c30))],h'⟩)/\WkY Ak s s2):=by
 have he:=Cr
 intro f;induction f with
 | zero=>intro c37 c38 r h; cases h
 | succ f ih0 =>
  intro c37 c38 r h  hp hT;unfold FM at h;refine BA ?_
  let p1:Nat×AV:=(49,.v (.int .i64 c37))
  let p2:Nat×AV:=(48,.v (.int .i64 (v33.length:Int)))
  let p3:Nat×AV:=(43,.v (.int .i64 c30))
  let p4:Nat×AV:=(42,.v (.int .i64 (v26.length:Int)))
  let p5:Nat×AV:=(2,.sl 1 (x2.map cdI.enc))
  refine AY he [p5,(10,e27),(41,e27),p4,p3,(47,e34),p2,p1,(50,.v (.bool (decide (c37 < (v33.length:Int)))))] ?_;refine AD ?_;refine Ab (b:=(decide (c37 < (v33.length:Int)))) kr (fun hb39=>?_) (fun hb39=>?_)
  ·rw [if_pos hb39] at h
   refine SemY.skip ?_;refine AD ?_;refine AR ?_;refine AD ?_;refine AC ?_;obtain ⟨v40,hv40,h⟩:=OB h
   have hT41:=(hT.front 1 rfl)
   refine AG he 0 rfl (Am (AA rfl) rfl (AF (a:=e34) (b:= .v (.int .i64 c37)) kr kr (Lp (bytes:=24) hT41 kr hv40))) ?_;obtain ⟨e42,hl43,hT44⟩:=IA (P:=Tryd.prog) (ty:=31) hT41 (AW hv40).2 kr kr;refine AG he 0 rfl (Am (AA rfl) rfl (A0 (p:=eAt e34 c37.toNat) kr hl43)) ?_;refine AS he [p5,(10,e27),(14,e42),(41,e27),p4,p3,(47,e34),p2,p1] ?_;refine AD ?_;refine AC ?_;refine AH he 1 ?_;refine AG he 0 rfl (Am (AA rfl) rfl (BZ (a:=e42) kr (NJ hT44 kr))) ?_;refine AS he [p5,(10,e27),(14,e42),(41,e27),p4,p3,(47,e34),p2,p1,(53,e42),(54,.v (.int .i64 (v40.length:Int))),(55,.v (.int .i64 0))] ?_;refine AR ?_
   have hT62:=((hT44.front 1 rfl).front 2 rfl)
   refine SemY.loop (n:=100000) ?_;obtain ⟨r63,hr63,h⟩:=OB h;refine A9 (Ad WkY.f1 (K8 x2 c37 c38 v40 v26 e27 c30 c31 v33 e34 e42 _ 0 v40 _ hr63  hp hT62)) ?_;rintro _ ⟨hp64,hT65,rfl⟩;refine AC ?_;refine AH he 2 ?_;refine AL rfl ?_;exact Ad WkY.f1 (ih0 (wr .i64 (c37 + 1)) r63 _ h  hp64 hT65)
  ·rw [B9 hb39] at h
   refine SemY.exit ?_;have hq:=OI h; subst hq
   have hT69:=((hT.front 0 rfl).front 1 rfl)
   have hT70:=(T.merge hT69)
   exact ⟨rfl,_,⟨hp,hT70,rfl⟩,WkY.f1⟩
theorem K6 {L:List Asn}(x2:(List Int)) (v26:(List (List (List Int)))) (e27:AV):∀ (f:Nat) (c30:Int) (c31:(List (List (List Int)))) (r:((List (List (List Int))))),FL x2 v26 f c30 c31=some r->∀ (hp:Hp),T hp ((own_ (ocL 1 50 (ocL 1 31 (ocL 1 3 (ocV cdI)))) e27 c31)::L)->SemYN Ak ⟨none,false⟩ (pc DY [1,1,1,1,0,1,0,0]) f ⟨Fr 71 [(2,.sl 1 (x2.map cdI.enc)),(10,e27),(41,e27),(42,.v (.int .i64 (v26.length:Int))),(43,.v (.int .i64 c30))],hp⟩ (fun e s=>e=(.exit 0)/\∃ s2,(∃ (h':Hp),T h' ((own_ (ocL 1 50 (ocL 1 31 (ocL 1 3 (ocV cdI)))) e27 r)::L)/\s2=⟨Fr 71 [(10,e27)],h'⟩)/\WkY Ak s s2):=by
 have he:=Cr
 intro f;induction f with
 | zero=>intro c30 c31 r h; cases h
 | succ f ih0 =>
  intro c30 c31 r h  hp hT;unfold FL at h;refine BA ?_
  let p1:Nat×AV:=(43,.v (.int .i64 c30))
  let p2:Nat×AV:=(42,.v (.int .i64 (v26.length:Int)))
  let p3:Nat×AV:=(2,.sl 1 (x2.map cdI.enc))
  refine AY he [p3,(10,e27),(41,e27),p2,p1,(44,.v (.bool (decide (c30 < (v26.length:Int)))))] ?_;refine AD ?_;refine Ab (b:=(decide (c30 < (v26.length:Int)))) kr (fun hb32=>?_) (fun hb32=>?_)
  ·rw [if_pos hb32] at h
   refine SemY.skip ?_;refine AD ?_;refine AR ?_;refine AD ?_;refine AC ?_;obtain ⟨v33,hv33,h⟩:=OB h;refine AG he 0 rfl (Am (AA rfl) rfl (AF (a:=e27) (b:= .v (.int .i64 c30)) kr kr (Lp (bytes:=24) hT kr hv33))) ?_;obtain ⟨e34,hl35,hT36⟩:=IA (P:=Tryd.prog) (ty:=50) hT (AW hv33).2 kr kr;refine AG he 0 rfl (Am (AA rfl) rfl (A0 (p:=eAt e27 c30.toNat) kr hl35)) ?_;refine AS he [p3,(10,e27),(12,e34),(41,e27),p2,p1] ?_;refine AD ?_;refine AC ?_;refine AH he 1 ?_;refine AG he 0 rfl (Am (AA rfl) rfl (BZ (a:=e34) kr (NJ hT36 kr))) ?_;refine AS he [p3,(10,e27),(41,e27),p2,p1,(47,e34),(48,.v (.int .i64 (v33.length:Int))),(49,.v (.int .i64 0))] ?_;refine AR ?_
   have hT71:=(hT36.front 1 rfl)
   refine SemY.loop (n:=100000) ?_;obtain ⟨r72,hr72,h⟩:=OB h;refine A9 (Ad WkY.f1 (K7 x2 c30 c31 v33 v26 e27 e34 _ 0 v33 _ hr72  hp hT71)) ?_;rintro _ ⟨hp73,hT74,rfl⟩;refine AC ?_;refine AH he 2 ?_;refine AL rfl ?_;exact Ad WkY.f1 (ih0 (wr .i64 (c30 + 1)) r72 _ h  hp73 hT74)
  ·rw [B9 hb32] at h
   refine SemY.exit ?_;have hq:=OI h; subst hq;exact ⟨rfl,_,⟨hp,hT,rfl⟩,WkY.f1⟩
theorem Ll {L:List Asn}{hp:Hp}(x0:Int) (x1:(List (List (List Int)))) (x2:(List Int)) (r:(List (List (List Int)))×Int) (h:Ci x0 x1 x2=some r) (hT:T hp (L)):SemY Ak ⟨none,false⟩ DY ⟨Fr 71 (Av 0 [.v (.int .i64 x0),.sl 1 (x1.map (cdL 1 (cdL 1 cdI)).enc),.sl 1 (x2.map cdI.enc)]),hp⟩ fun x s'=>(x = .normal\/x = .ret)/\∃ ys,FA Ak.P s'.fr s'.hp Tryd.f29.results.toList=some ys/\(fun v h'=>v = .tp [.sl 1 (r.1.map (cdL 1 (cdL 1 cdI)).enc),.v (.int .i64 r.2)]/\T h' (L)) (FZ ys) s'.hp:=by
 have he:=Cr
 unfold Ci at h;refine Dw (Ef (s1:=⟨Fr 71 [(0,.v (.int .i64 x0)),(1,.sl 1 (x1.map (cdL 1 (cdL 1 cdI)).enc)),(2,.sl 1 (x2.map cdI.enc))],hp⟩) WkY.f1 ?_);refine AY he [(0,.v (.int .i64 x0)),(1,.sl 1 (x1.map (cdL 1 (cdL 1 cdI)).enc)),(2,.sl 1 (x2.map cdI.enc))] ?_;refine AD ?_;refine AD ?_;refine AC ?_;refine AH he 2 ?_;obtain ⟨v1,hv1,h⟩:=OB h;refine RunL.call he (fid:=27) (b:=v1) (s:=BT) (F:=fun a=>AT a.1 a.2.1 a.2.2.1) (er:=BX) (xs:=[.v (.int .i64 x0),.e0,.sl 1 (x1.map (cdL 1 (cdL 1 cdI)).enc)]) (a:=(x0,[],x1,())) rfl (AA rfl) kr kr kr kr (Sns.cons (Sn.enc (c:=cdI) (v:=x0)) (Sns.cons Sn.e0 (Sns.cons (Sn.enc (c:=(cdL 1 (cdL 1 (cdL 1 cdI)))) (v:=x1)) Sns.nil))) (.inl kr) hv1 ?_;refine AS he [(0,.v (.int .i64 x0)),(1,.sl 1 (x1.map (cdL 1 (cdL 1 cdI)).enc)),(2,.sl 1 (x2.map cdI.enc)),(9,.v (.int .i64 v1.2))] ?_;refine AY he [(0,.v (.int .i64 x0)),(1,.sl 1 (x1.map (cdL 1 (cdL 1 cdI)).enc)),(2,.sl 1 (x2.map cdI.enc)),(9,.v (.int .i64 v1.2)),(24,.v (.bool (v1.2 != 0)))] ?_;refine Ab (b:=(v1.2 != 0)) kr (fun hb2=>?_) (fun hb2=>?_)
 ·rw [if_pos hb2] at h
  refine AY he [(6,.e0),(7,.v (.int .i64 v1.2))] ?_;refine SemY.ret ?_;have hq:=OI h; subst hq
  have hT3:=(T.e0 (k:=1) (ty:=50) (o:=(ocL 1 31 (ocL 1 3 (ocV cdI)))) hT)
  obtain ⟨hp4,hw5,hT6⟩:=DK (E:=Ak) (n:=71) (l:=[(6,.e0),(7,.v (.int .i64 v1.2))]) (l':=[(6,.sl 1 (([]:(List (List (List Int)))).map (cdL 1 (cdL 1 cdI)).enc)),(7,.v (.int .i64 v1.2))]) hT3 (LkT.at_ ⟨.inr ⟨kr,rfl⟩,.inl kr,trivial⟩);exact ⟨⟨Fr 71 [(6,.sl 1 (([]:(List (List (List Int)))).map (cdL 1 (cdL 1 cdI)).enc)),(7,.v (.int .i64 v1.2))],hp4⟩,(WkY.trans (WkY.trans WkY.f1 hw5) WkY.f1),.inr rfl,[.sl 1 (([]:(List (List (List Int)))).map (cdL 1 (cdL 1 cdI)).enc),.v (.int .i64 v1.2)],kr,⟨rfl,hT6⟩⟩
 ·rw [B9 hb2] at h
  refine SemY.skip ?_;refine AD ?_;refine AD ?_;obtain ⟨j16,hj16,h⟩:=OB h;refine KF (A:=fun s1=>∃ (h':Hp),T h' (L)/\s1=⟨Fr 71 [(1,.sl 1 (x1.map (cdL 1 (cdL 1 cdI)).enc)),(2,.sl 1 (x2.map cdI.enc)),(38,.v (.bool j16))],h'⟩) ?_ ?_
  ·refine AH he 1 ?_
   refine AG he 0 rfl (Am (AA rfl) rfl (BZ (a:= .sl 1 (x2.map cdI.enc)) kr (Aw (el:=3) kr))) ?_;refine EW (n:=71) he 3 [(0,.v (.int .i64 x0)),(1,.sl 1 (x1.map (cdL 1 (cdL 1 cdI)).enc)),(2,.sl 1 (x2.map cdI.enc)),(30,.v (.bool ((x2.length:Int)!=x0)))] hp kr ?_;rcases BE ((x2.length:Int)!=x0) with hc82 | hc82
   ·rw [if_pos hc82] at hj16
    rw [hc82];refine AH he 8 ?_;have hq:=OI hj16; subst hq;exact AL rfl ⟨_,⟨hp,hT,rfl⟩,WkY.f1⟩
   ·rw [B9 hc82] at hj16
    rw [hc82];refine AH he 2 ?_;obtain ⟨e10,hp7,hb8,hT9⟩:=Ft (P:=Tryd.prog) (bytes:=8) (k:=1) (t:=3) (ty:=31) (xs:=([x0]:List Int)) (n:=1) (PJ (k:=1) (fun _=>⟨rfl,rfl,rfl⟩)) (Fh (c:=cdI) (xs:=([x0]:List Int)) hT) rfl kr kr kr;refine AG he 0 rfl (OW kr rfl kr (NL (xs:=J5 0 [.v (.int .i64 x0)]) kr hb8)) ?_;refine AH he 1 ?_;obtain ⟨e14,hp11,hb12,hT13⟩:=Ft (P:=Tryd.prog) (bytes:=24) (k:=1) (t:=31) (ty:=50) (xs:=([x2]:List (List Int))) (n:=1) (PJ (k:=1) (fun _=>⟨rfl,rfl,rfl⟩)) (Fh (c:=(cdL 1 cdI)) (xs:=([x2]:List (List Int))) hT9) rfl kr kr kr;refine AG he 0 rfl (OW kr rfl kr (NL (xs:=J5 0 [.sl 1 (x2.map cdI.enc)]) kr hb12)) ?_;obtain ⟨v15,hv15,hj16⟩:=OB hj16;refine MZ he (fid:=83) (b:=v15) (s:=EY) (F:=fun a=>CX a.1 a.2.1 a.2.2.1) (er:=Eb) (xs:=[.v (.int .i64 x0),e10,e14]) (a:=(x0,([x0]:List Int),([x2]:List (List Int)),())) rfl kr kr kr kr (CR (H4 (c:=cdI) (v:=x0)) (CR (SeeD.own hT13 (i:=1) rfl) (CR (SeeD.own hT13 (i:=0) rfl) SeesD.nil))) kr hv15 ?_;refine AH he 2 ?_;have hq:=OI hj16; subst hq
    have hT18:=hT13.drop.drop
    exact AL rfl ⟨_,⟨hp11,hT18,rfl⟩,WkY.f1⟩
  rintro _ ⟨hp19,hT20,rfl⟩;refine Ab (b:=j16) kr (fun hb21=>?_) (fun hb21=>?_)
  ·rw [if_pos hb21] at h
   refine AY he [(6,.e0),(7,.v (.int .i64 2))] ?_;refine SemY.ret ?_;have hq:=OI h; subst hq
   have hT22:=(T.e0 (k:=1) (ty:=50) (o:=(ocL 1 31 (ocL 1 3 (ocV cdI)))) hT20)
   obtain ⟨hp23,hw24,hT25⟩:=DK (E:=Ak) (n:=71) (l:=[(6,.e0),(7,.v (.int .i64 2))]) (l':=[(6,.sl 1 (([]:(List (List (List Int)))).map (cdL 1 (cdL 1 cdI)).enc)),(7,.v (.int .i64 2))]) hT22 (LkT.at_ ⟨.inr ⟨kr,rfl⟩,.inl kr,trivial⟩);exact ⟨⟨Fr 71 [(6,.sl 1 (([]:(List (List (List Int)))).map (cdL 1 (cdL 1 cdI)).enc)),(7,.v (.int .i64 2))],hp23⟩,(WkY.trans (WkY.trans WkY.f1 hw24) WkY.f1),.inr rfl,[.sl 1 (([]:(List (List (List Int)))).map (cdL 1 (cdL 1 cdI)).enc),.v (.int .i64 2)],kr,⟨rfl,hT25⟩⟩
  ·rw [B9 hb21] at h
   refine SemY.skip ?_;refine AD ?_;refine AC ?_;refine AH he 1 ?_;obtain ⟨v26,hv26,h⟩:=OB h;refine CO (E:=Ak) (e:=A4) rfl rfl Bi rfl rfl (fid:=79) (caps:=[]) (xs:=[.sl 1 (x1.map (cdL 1 (cdL 1 cdI)).enc)]) (fn:=Tryd.f79) (c:=CB) (Out:=fun v h'=>∃ (z0:AV),v=z0/\T h' ((own_ (ocL 1 50 (ocL 1 31 (ocL 1 3 (ocV cdI)))) z0 v26)::L)) rfl (AA rfl) kr kr kr kr (by show 1<=33; decide) (ET x1 _ hv26 hT20) ?_;rintro xx hp28 ⟨e27,hqhp28,hT29⟩; subst xx;refine AS he [(2,.sl 1 (x2.map cdI.enc)),(10,e27)] ?_;refine AD ?_;refine AD ?_;refine AC ?_;refine AH he 1 ?_;refine AG he 0 rfl (Am (AA rfl) rfl (BZ (a:=e27) kr (NJ hT29 kr))) ?_;refine AS he [(2,.sl 1 (x2.map cdI.enc)),(10,e27),(41,e27),(42,.v (.int .i64 (v26.length:Int))),(43,.v (.int .i64 0))] ?_;refine AR ?_;refine SemY.loop (n:=100000) ?_;obtain ⟨r76,hr76,h⟩:=OB h;refine A9 (Ad WkY.f1 (K6 x2 v26 e27 _ 0 v26 _ hr76  hp28 hT29)) ?_;rintro _ ⟨hp77,hT78,rfl⟩;refine AY he [(6,e27),(7,.v (.int .i64 0))] ?_;refine SemY.ret ?_;have hq:=OI h; subst hq;obtain ⟨hp79,hw80,hT81⟩:=DK (E:=Ak) (n:=71) (l:=[(6,e27),(7,.v (.int .i64 0))]) (l':=[(6,.sl 1 (r76.map (cdL 1 (cdL 1 cdI)).enc)),(7,.v (.int .i64 0))]) hT78 (LkT.at_ ⟨.inr ⟨kr,rfl⟩,.inl kr,trivial⟩);exact ⟨⟨Fr 71 [(6,.sl 1 (r76.map (cdL 1 (cdL 1 cdI)).enc)),(7,.v (.int .i64 0))],hp79⟩,(WkY.trans (WkY.trans WkY.f1 hw80) WkY.f1),.inr rfl,[.sl 1 (r76.map (cdL 1 (cdL 1 cdI)).enc),.v (.int .i64 0)],kr,⟨rfl,hT81⟩⟩
def GU:Cs (Int×(List (List (List Int)))×(List Int)×Unit):=(csC cdI (csC (cdL 1 (cdL 1 (cdL 1 cdI))) (csC (cdL 1 cdI) csN)))
def Gd (r:(List (List (List Int)))×Int):AV:= .tp [(cdL 1 (cdL 1 (cdL 1 cdI))).enc r.1,cdI.enc r.2]
def JR:List AV->Option AV:=GP GU (fun a=>Ci a.1 a.2.1 a.2.2.1) Gd
theorem JS:XOk 29 JR:=by
 refine EnvOk.x (E:=Ak) (Af Cr (fn:=Tryd.f29) (c:=DY) ?h1 ?h2 ⟨Tryd.call29⟩ GU (fun a=>Ci a.1 a.2.1 a.2.2.1) Gd (fun a=>(by show 3<=71; decide)) ?h3 ?h4) rfl rfl
 case h1=>kernel_rfl
 case h2=>kernel_rfl
 case h3=>intro b; kernel_rfl
 case h4 =>
  intro a b h;refine Sem.mono (Nj (Ll (L:=[]) (hp:=[]) a.1 a.2.1 a.2.2.1 b h T.nil)) fun e s' hs=>?_
  obtain ⟨h1,ys,h2,h3,-⟩:=hs;exact ⟨h1,ys,h2,h3⟩
/- trestle/evening.meetings -/
noncomputable def Au:Env:=E0
theorem B7:EnvOk Au:=BB
noncomputable def BF:Code:=BK Tryd.f80
noncomputable def Ey:Env:=E0
theorem D8:EnvOk Ey:=BB
noncomputable def J3:Code:=BK Tryd.f68
def GB (y0:Int) (y1:Int):Option (Int×Int×(List Int)) :=
 if (OV 8 (wr .i64 (y1 * y1)))=true then
 some (y1,y1,(List.replicate (wr .i64 (y1 * y1)).toNat (0:Int)))
 else none
theorem Gn (y0:Int) (y1:Int) (r:Int×Int×(List Int)) (h:GB y0 y1=some r):SemY Ey ⟨none,false⟩ J3 ⟨Fr 9 (Av 0 [.v (.int .i64 y1)]),[some ⟨2,94,[.ag [.v (.int .i64 y0),.e0]],false⟩]⟩ fun x s'=>(x = .normal\/x = .ret)/\∃ ys,FA Ey.P s'.fr s'.hp Tryd.f68.results.toList=some ys/\(FZ ys = .ag [.v (.int .i64 r.1),.rf 2 0 r.2.2.length r.2.2.length]/\s'.hp=[some ⟨2,94,[.ag [.v (.int .i64 y0),.e0]],false⟩,some ⟨2,94,[.ag [.v (.int .i64 r.2.1),.rf 2 0 r.2.2.length r.2.2.length]],false⟩,some ⟨1,3,(r.2.2.map cdI.enc),false⟩]):=by
 have he:=D8
 unfold GB at h;refine AD ?_;refine SemY.region ?_
 let p1:Option Blk:=some ⟨2,94,[.ag [.v (.int .i64 0),.e0]],false⟩
 let p2:Option Blk:=some ⟨2,94,[.ag [.v (.int .i64 y0),.e0]],false⟩
 refine BC he [(0,.v (.int .i64 y1)),(2,.pt 1 0 0)] [p2,p1] ?_;refine AD ?_;refine SemY.region ?_;refine Cb he 4 [p2,p1] ?_;by_cases hk1:(OV 8 (wr .i64 (y1 * y1)))=true
 case neg=>rw [if_neg hk1] at h; cases h
 rw [if_pos hk1] at h;refine RunY.one he 0 rfl (OW (AA rfl) rfl kr (Ow (x:= .v (.int .i64 (wr .i64 (y1 * y1)))) (y:= .v (.int .i64 (wr .i64 (y1 * y1)))) kr kr (Py (c:=cdI) (z:=(0:Int)) (k:=1) (bytes:=8) (el:=3) kr kr hk1))) ?_;refine BC he [(2,.pt 1 0 0)] [p2,some ⟨2,94,[.ag [.v (.int .i64 y1),.rf 2 0 (List.replicate (wr .i64 (y1 * y1)).toNat (0:Int)).length (List.replicate (wr .i64 (y1 * y1)).toNat (0:Int)).length]],false⟩,some ⟨1,3,((List.replicate (wr .i64 (y1 * y1)).toNat (0:Int)).map cdI.enc),false⟩] ?_;refine SemY.ret ?_;have hq:=OI h; subst hq;exact ⟨.inr rfl,[.ag [.v (.int .i64 y1),.rf 2 0 (List.replicate (wr .i64 (y1 * y1)).toNat (0:Int)).length (List.replicate (wr .i64 (y1 * y1)).toNat (0:Int)).length]],kr,kr,kr⟩
noncomputable def Ez:Env:=E0
theorem GH:EnvOk Ez:=BB
noncomputable def J4:Code:=BK Tryd.f72
def GC (y0:Int) (y1:Int) (y2:(List Int)) (y3:(List (List Int))):Option ((List (List Int))) :=
 some y3
theorem Jb (y0:Int) (y1:Int) (y2:(List Int)) (y3:(List (List Int))) (r:(List (List Int))) (h:GC y0 y1 y2 y3=some r):SemY Ez ⟨none,false⟩ J4 ⟨Fr 4 (Av 0 [.sl 1 (y3.map (cdL 1 cdI).enc)]),[some ⟨2,94,[.ag [.v (.int .i64 y0),.e0]],false⟩,some ⟨2,94,[.ag [.v (.int .i64 y1),.rf 2 0 y2.length y2.length]],false⟩,some ⟨1,3,(y2.map cdI.enc),false⟩]⟩ fun x s'=>(x = .normal\/x = .ret)/\∃ ys,FA Ez.P s'.fr s'.hp Tryd.f72.results.toList=some ys/\(FZ ys = .fn 108 [] [.pt 3 0 0]/\s'.hp=[some ⟨2,94,[.ag [.v (.int .i64 y0),.e0]],false⟩,some ⟨2,94,[.ag [.v (.int .i64 y1),.rf 2 0 y2.length y2.length]],false⟩,some ⟨1,3,(y2.map cdI.enc),false⟩,some ⟨1,50,[.sl 1 (r.map (cdL 1 cdI).enc)],false⟩]):=by
 have he:=GH
 unfold GC at h;refine AD ?_;refine SemY.region ?_
 let p1:Option Blk:=some ⟨1,50,[.sl 1 (y3.map (cdL 1 cdI).enc)],false⟩
 let p2:Option Blk:=some ⟨1,3,(y2.map cdI.enc),false⟩
 let p3:Option Blk:=some ⟨2,94,[.ag [.v (.int .i64 y1),.rf 2 0 y2.length y2.length]],false⟩
 let p4:Option Blk:=some ⟨2,94,[.ag [.v (.int .i64 y0),.e0]],false⟩
 refine BC he [(1,.pt 3 0 0)] [p4,p3,p2,p1] ?_;refine AD ?_;refine SemY.region ?_;refine BC he [(2,.fn 108 [] [.pt 3 0 0])] [p4,p3,p2,p1] ?_;refine SemY.ret ?_;have hq:=OI h; subst hq;exact ⟨.inr rfl,[.fn 108 [] [.pt 3 0 0]],kr,kr,kr⟩
noncomputable def Ax:Env:=E0
theorem B6:EnvOk Ax:=BB
noncomputable def DL:Code:=BK Tryd.f108
noncomputable def DN (y4:(List (List (List Int)))) (y5:Int) (y6:Int):Cx:=⟨some ⟨4,Fr 32 [(4,.pt 0 0 0),(5,.pt 1 0 0),(12,.sl 1 (y4.map (cdL 1 (cdL 1 cdI)).enc)),(13,.v (.int .i64 y5)),(14,.v (.int .i64 y6)),(19,.fn 108 [] [.pt 3 0 0])],[20,21],U4 (pc BF [1,1,0,1,0,0,1,1,0,0,1,1,0]),U7 (pc BF [1,1,0,1,0,0,1,1,0,0,1,1,0])⟩,false⟩
noncomputable def DS:Env:=E0
theorem EZ:EnvOk DS:=BB
noncomputable def IL:Code:=BK Tryd.f73
def EC (y0:Int) (y1:Int) (y2:(List Int)) (y3:(List (List Int))) (y4:Int) (y5:Int) (y6:Int):Option (Int) :=
 (idx y2 (wr .i64 ((wr .i64 (y5 * y4)) + y6))).bind fun v1 =>
 some y4
theorem H7 (y0:Int) (y1:Int) (y2:(List Int)) (y3:(List (List Int))) (y4:Int) (y5:Int) (y6:Int) (r:Int) (h:EC y0 y1 y2 y3 y4 y5 y6=some r):SemY DS ⟨none,false⟩ IL ⟨Fr 16 (Av 0 [.ag [.v (.int .i64 y4),.rf 2 0 y2.length y2.length],.v (.int .i64 y5),.v (.int .i64 y6)]),[some ⟨2,94,[.ag [.v (.int .i64 y0),.e0]],false⟩,some ⟨2,94,[.ag [.v (.int .i64 y1),.rf 2 0 y2.length y2.length]],false⟩,some ⟨1,3,(y2.map cdI.enc),false⟩,some ⟨1,50,[.sl 1 (y3.map (cdL 1 cdI).enc)],false⟩,none]⟩ fun x s'=>(x = .normal\/x = .ret)/\∃ ys,FA DS.P s'.fr s'.hp Tryd.f73.results.toList=some ys/\(FZ ys = .pt 2 ((wr .i64 ((wr .i64 (y5 * y4)) + y6)).toNat) 0/\s'.hp=[some ⟨2,94,[.ag [.v (.int .i64 y0),.e0]],false⟩,some ⟨2,94,[.ag [.v (.int .i64 y1),.rf 2 0 y2.length y2.length]],false⟩,some ⟨1,3,(y2.map cdI.enc),false⟩,some ⟨1,50,[.sl 1 (y3.map (cdL 1 cdI).enc)],false⟩,none,some ⟨2,94,[.ag [.v (.int .i64 r),.rf 2 0 y2.length y2.length]],false⟩]):=by
 have he:=EZ
 unfold EC at h;refine AD ?_;refine SemY.region ?_
 let p1:Option Blk:=some ⟨2,94,[.ag [.v (.int .i64 y4),.rf 2 0 y2.length y2.length]],false⟩
 let p2:Option Blk:=some ⟨1,50,[.sl 1 (y3.map (cdL 1 cdI).enc)],false⟩
 let p3:Option Blk:=some ⟨1,3,(y2.map cdI.enc),false⟩
 let p4:Option Blk:=some ⟨2,94,[.ag [.v (.int .i64 y1),.rf 2 0 y2.length y2.length]],false⟩
 let p5:Option Blk:=some ⟨2,94,[.ag [.v (.int .i64 y0),.e0]],false⟩
 refine BC he [(1,.v (.int .i64 y5)),(2,.v (.int .i64 y6)),(3,.pt 5 0 0)] [p5,p4,p3,p2,none,p1] ?_;refine AD ?_;refine SemY.region ?_;refine Cb he 8 [p5,p4,p3,p2,none,p1] ?_;obtain ⟨v1,hv1,h⟩:=OB h;refine RunY.one he 0 rfl (Am (AA rfl) rfl (AF (a:= .rf 2 0 y2.length y2.length) (b:= .v (.int .i64 (wr .i64 ((wr .i64 (y5 * y4)) + y6)))) kr kr (LF (e:=cdI.enc) (xs:=y2) (t':=3) (el:=3) (k:=1) (ki:= .i64) kr kr kr hv1))) ?_;refine BC he [(6,.pt 2 ((wr .i64 ((wr .i64 (y5 * y4)) + y6)).toNat) 0)] [p5,p4,p3,p2,none,p1] ?_;refine SemY.ret ?_;have hq:=OI h; subst hq;exact ⟨.inr rfl,[.pt 2 ((wr .i64 ((wr .i64 (y5 * y4)) + y6)).toNat) 0],kr,kr,kr⟩
def E4 (y0:Int) (y1:Int) (y2:(List Int)) (y3:(List (List Int))) (y4:(List (List (List Int)))) (y5:Int) (y6:Int) (y7:Int) (y8:Int):Option ((List Int)) :=
 (EC y0 y1 y2 y3 y1 y7 y8).bind fun v1 =>
 (idx y2 (wr .i64 ((wr .i64 (y7 * y1)) + y8))).bind fun v2 =>
 some (y2.set ((wr .i64 ((wr .i64 (y7 * y1)) + y8)).toNat) (wr .i64 (v2 + 1)))
theorem Iu (y0:Int) (y1:Int) (y2:(List Int)) (y3:(List (List Int))) (y4:(List (List (List Int)))) (y5:Int) (y6:Int) (y7:Int) (y8:Int) (r:(List Int)) (h:E4 y0 y1 y2 y3 y4 y5 y6 y7 y8=some r):SemY Au ⟨none,true⟩ (U4 (pc BF [1,1,0,1,0,0,1,1,0,0,1,1,0])) ⟨Fr 32 [(21,.v (.int .i64 y8)),(20,.v (.int .i64 y7)),(4,.pt 0 0 0),(5,.pt 1 0 0),(12,.sl 1 (y4.map (cdL 1 (cdL 1 cdI)).enc)),(13,.v (.int .i64 y5)),(14,.v (.int .i64 y6)),(19,.fn 108 [] [.pt 3 0 0])],[some ⟨2,94,[.ag [.v (.int .i64 y0),.e0]],false⟩,some ⟨2,94,[.ag [.v (.int .i64 y1),.rf 2 0 y2.length y2.length]],false⟩,some ⟨1,3,(y2.map cdI.enc),false⟩,some ⟨1,50,[.sl 1 (y3.map (cdL 1 cdI).enc)],false⟩,none]⟩ fun e s1=>e = .normal/\SemY Au ⟨none,true⟩ (U7 (pc BF [1,1,0,1,0,0,1,1,0,0,1,1,0])) s1 fun e s2=>e = .normal/\s2.hp=[some ⟨2,94,[.ag [.v (.int .i64 y0),.e0]],false⟩,some ⟨2,94,[.ag [.v (.int .i64 y1),.rf 2 0 r.length r.length]],false⟩,some ⟨1,3,(r.map cdI.enc),false⟩,some ⟨1,50,[.sl 1 (y3.map (cdL 1 cdI).enc)],false⟩,none]:=by
 have he:=B7
 unfold E4 at h;refine AD ?_;refine SemY.region ?_;refine BC he [(5,.pt 1 0 0),(8,.v (.int .i64 y7)),(21,.v (.int .i64 y8))] [some ⟨2,94,[.ag [.v (.int .i64 y0),.e0]],false⟩,some ⟨2,94,[.ag [.v (.int .i64 y1),.rf 2 0 y2.length y2.length]],false⟩,some ⟨1,3,(y2.map cdI.enc),false⟩,some ⟨1,50,[.sl 1 (y3.map (cdL 1 cdI).enc)],false⟩,none] ?_;refine SemY.region ?_;refine Cb he 1 [some ⟨2,94,[.ag [.v (.int .i64 y0),.e0]],false⟩,some ⟨2,94,[.ag [.v (.int .i64 y1),.rf 2 0 y2.length y2.length]],false⟩,some ⟨1,3,(y2.map cdI.enc),false⟩,some ⟨1,50,[.sl 1 (y3.map (cdL 1 cdI).enc)],false⟩,none] ?_;refine RunY.done rfl ?_;refine ⟨rfl,?_⟩;refine AR ?_;refine SemY.region ?_;refine Cb he 3 [some ⟨2,94,[.ag [.v (.int .i64 y0),.e0]],false⟩,some ⟨2,94,[.ag [.v (.int .i64 y1),.rf 2 0 y2.length y2.length]],false⟩,some ⟨1,3,(y2.map cdI.enc),false⟩,some ⟨1,50,[.sl 1 (y3.map (cdL 1 cdI).enc)],false⟩,none] ?_;obtain ⟨v1,hv1,h⟩:=OB h;obtain ⟨v2,hv2,h⟩:=OB h;refine RunY.inl (fid:=73) (caps:=[]) (xs:=[.ag [.v (.int .i64 y1),.rf 2 0 y2.length y2.length],.v (.int .i64 y7),.v (.int .i64 y8)]) (fn:=Tryd.f73) (Out:=fun x h'=>x = .pt 2 ((wr .i64 ((wr .i64 (y7 * y1)) + y8)).toNat) 0/\h'=[some ⟨2,94,[.ag [.v (.int .i64 y0),.e0]],false⟩,some ⟨2,94,[.ag [.v (.int .i64 y1),.rf 2 0 y2.length y2.length]],false⟩,some ⟨1,3,(y2.map cdI.enc),false⟩,some ⟨1,50,[.sl 1 (y3.map (cdL 1 cdI).enc)],false⟩,none,some ⟨2,94,[.ag [.v (.int .i64 v1),.rf 2 0 y2.length y2.length]],false⟩]) rfl rfl EZ rfl rfl 5 kr rfl (AA rfl) kr kr kr kr (by show 3<=16; decide) (H7 y0 y1 y2 y3 y1 y7 y8 _ hv1) ?_;rintro x h' ⟨rfl,rfl⟩;refine ⟨[some ⟨2,94,[.ag [.v (.int .i64 y0),.e0]],false⟩,some ⟨2,94,[.ag [.v (.int .i64 y1),.rf 2 0 y2.length y2.length]],false⟩,some ⟨1,3,(y2.map cdI.enc),false⟩,some ⟨1,50,[.sl 1 (y3.map (cdL 1 cdI).enc)],false⟩,none],by kernel_rfl,⟨⟨_,rfl,FW⟩,⟨_,rfl,FW⟩,⟨_,rfl,Ai⟩,⟨_,rfl,FW⟩,⟨_,rfl,KI⟩,trivial⟩,⟨by kernel_rfl,by kernel_rfl⟩,?_⟩
 refine Cb he 1 [some ⟨2,94,[.ag [.v (.int .i64 y0),.e0]],false⟩,some ⟨2,94,[.ag [.v (.int .i64 y1),.rf 2 0 y2.length y2.length]],false⟩,some ⟨1,3,(y2.map cdI.enc),false⟩,some ⟨1,50,[.sl 1 (y3.map (cdL 1 cdI).enc)],false⟩,none] ?_;refine RunY.one he 0 rfl (Am (AA rfl) rfl (A0 (p:= .pt 2 ((wr .i64 ((wr .i64 (y7 * y1)) + y8)).toNat) 0) kr (Jr (B:=⟨1,3,(y2.map cdI.enc),false⟩) (m:=1) (g:=false) (e:=cdI.enc) (xs:=y2) kr kr kr rfl (AW hv2).2 kr))) ?_;refine Cb he 2 [some ⟨2,94,[.ag [.v (.int .i64 y0),.e0]],false⟩,some ⟨2,94,[.ag [.v (.int .i64 y1),.rf 2 0 y2.length y2.length]],false⟩,some ⟨1,3,(y2.map cdI.enc),false⟩,some ⟨1,50,[.sl 1 (y3.map (cdL 1 cdI).enc)],false⟩,none] ?_;refine RunY.store he (y:= .pt 2 ((wr .i64 ((wr .i64 (y7 * y1)) + y8)).toNat) 0) (z:= .v (.int .i64 (wr .i64 (v2 + 1)))) rfl (AA rfl) kr kr (M4 (t':=3) (k:=1) (e:=cdI.enc) (xs:=y2) (v:=v2) (v':=(wr .i64 (v2 + 1))) kr (AW hv2).2 kr kr kr) ?_;refine RunY.done rfl ?_;have hq:=OI h; subst hq;exact ⟨rfl,Eq.trans (b:=[some ⟨2,94,[.ag [.v (.int .i64 y0),.e0]],false⟩,some ⟨2,94,[.ag [.v (.int .i64 y1),.rf 2 0 y2.length y2.length]],false⟩,some ⟨1,3,((y2.set ((wr .i64 ((wr .i64 (y7 * y1)) + y8)).toNat) (wr .i64 (v2 + 1))).map cdI.enc),false⟩,some ⟨1,50,[.sl 1 (y3.map (cdL 1 cdI).enc)],false⟩,none]) kr (by simp only [List.length_set])⟩
def Ck (y0:Int) (y1:Int) (y3:(List (List Int))) (y4:(List (List (List Int)))) (y5:Int) (y6:Int) (c186:Int) (v189:(List Int)) (c222:Int) (v225:Int):Nat->Int->(List Int)->Option (((List Int)))
 | 0,_,_=>none
 | f + 1,c239,c240 =>
  if (decide (c239 < (v189.length:Int)))=true then
  (idx v189 c239).bind fun v242 =>
  if (c222 != c239)=true then
  (E4 y0 y1 c240 y3 y4 y5 y6 v225 v242).bind fun v243 =>
  Ck y0 y1 y3 y4 y5 y6 c186 v189 c222 v225 f (wr .i64 (c239 + 1)) v243
  else
  Ck y0 y1 y3 y4 y5 y6 c186 v189 c222 v225 f (wr .i64 (c239 + 1)) c240
  else
  some c240
def Dk (y0:Int) (y1:Int) (y3:(List (List Int))) (y4:(List (List (List Int)))) (y5:Int) (y6:Int) (c186:Int) (v189:(List Int)):Nat->Int->(List Int)->Option (((List Int)))
 | 0,_,_=>none
 | f + 1,c222,c223 =>
  if (decide (c222 < (v189.length:Int)))=true then
  (idx v189 c222).bind fun v225 =>
  (Ck y0 y1 y3 y4 y5 y6 c186 v189 c222 v225 100000 0 c223).bind fun r246 =>
  Dk y0 y1 y3 y4 y5 y6 c186 v189 f (wr .i64 (c222 + 1)) r246
  else
  some c223
def Dj (y0:Int) (y1:Int) (y3:(List (List Int))) (y4:(List (List (List Int)))) (y5:Int) (y6:Int):Nat->Int->(List Int)->Option (((List Int)))
 | 0,_,_=>none
 | f + 1,c186,c187 =>
  if (decide (c186 < (y3.length:Int)))=true then
  (idx y3 c186).bind fun v189 =>
  (Dk y0 y1 y3 y4 y5 y6 c186 v189 100000 0 c187).bind fun r248 =>
  Dj y0 y1 y3 y4 y5 y6 f (wr .i64 (c186 + 1)) r248
  else
  some c187
def GD (y0:Int) (y1:Int) (y2:(List Int)) (y3:(List (List Int))) (y4:(List (List (List Int)))) (y5:Int) (y6:Int):Option ((List Int)) :=
 (Dj y0 y1 y3 y4 y5 y6 100000 0 y2).bind fun r250 =>
 some r250
theorem JD (y0:Int) (y1:Int) (y3:(List (List Int))) (y4:(List (List (List Int)))) (y5:Int) (y6:Int) (c186:Int) (v189:(List Int)) (c222:Int) (v225:Int):∀ (f:Nat) (c239:Int) (c240:(List Int)) (r:((List Int))),Ck y0 y1 y3 y4 y5 y6 c186 v189 c222 v225 f c239 c240=some r->SemYN Ax (DN y4 y5 y6) (pc DL [1,0,0,1,1,0,0,1,1,0,0,1,1,0,0,1,1,0,0]) f ⟨Fr 42 [(0,.yl 4),(4,.sl 1 (v189.map cdI.enc)),(5,.v (.int .i64 c222)),(6,.v (.int .i64 v225)),(9,.sl 1 (y3.map (cdL 1 cdI).enc)),(10,.v (.int .i64 (y3.length:Int))),(11,.v (.int .i64 c186)),(15,.sl 1 (v189.map cdI.enc)),(16,.v (.int .i64 (v189.length:Int))),(17,.v (.int .i64 c222)),(22,.sl 1 (v189.map cdI.enc)),(23,.v (.int .i64 (v189.length:Int))),(24,.v (.int .i64 c239))],[some ⟨2,94,[.ag [.v (.int .i64 y0),.e0]],false⟩,some ⟨2,94,[.ag [.v (.int .i64 y1),.rf 2 0 c240.length c240.length]],false⟩,some ⟨1,3,(c240.map cdI.enc),false⟩,some ⟨1,50,[.sl 1 (y3.map (cdL 1 cdI).enc)],false⟩,none]⟩ (fun e s=>e=(.exit 4)/\WkY Ax s ⟨Fr 42 [(0,.yl 4),(4,.sl 1 (v189.map cdI.enc)),(9,.sl 1 (y3.map (cdL 1 cdI).enc)),(10,.v (.int .i64 (y3.length:Int))),(11,.v (.int .i64 c186)),(15,.sl 1 (v189.map cdI.enc)),(16,.v (.int .i64 (v189.length:Int))),(17,.v (.int .i64 c222))],[some ⟨2,94,[.ag [.v (.int .i64 y0),.e0]],false⟩,some ⟨2,94,[.ag [.v (.int .i64 y1),.rf 2 0 r.length r.length]],false⟩,some ⟨1,3,(r.map cdI.enc),false⟩,some ⟨1,50,[.sl 1 (y3.map (cdL 1 cdI).enc)],false⟩,none]⟩):=by
 have he:=B6
 intro f;induction f with
 | zero=>intro c239 c240 r h; cases h
 | succ f ih0 =>
  intro c239 c240 r h
  have ih:=fun (c239:Int) (c240:(List Int))=>ih0 c239 c240 r
  unfold Ck at h;refine BA ?_;refine AD ?_;refine SemY.region ?_;refine BC he [(0,.yl 4),(4,.sl 1 (v189.map cdI.enc)),(5,.v (.int .i64 c222)),(6,.v (.int .i64 v225)),(9,.sl 1 (y3.map (cdL 1 cdI).enc)),(10,.v (.int .i64 (y3.length:Int))),(11,.v (.int .i64 c186)),(15,.sl 1 (v189.map cdI.enc)),(16,.v (.int .i64 (v189.length:Int))),(17,.v (.int .i64 c222)),(22,.sl 1 (v189.map cdI.enc)),(23,.v (.int .i64 (v189.length:Int))),(24,.v (.int .i64 c239)),(25,.v (.bool (decide (c239 < (v189.length:Int)))))] [some ⟨2,94,[.ag [.v (.int .i64 y0),.e0]],false⟩,some ⟨2,94,[.ag [.v (.int .i64 y1),.rf 2 0 c240.length c240.length]],false⟩,some ⟨1,3,(c240.map cdI.enc),false⟩,some ⟨1,50,[.sl 1 (y3.map (cdL 1 cdI).enc)],false⟩,none] ?_;refine AD ?_;refine Ab (b:=(decide (c239 < (v189.length:Int)))) kr (fun hb241=>?_) (fun hb241=>?_)
  ·rw [if_pos hb241] at h
   refine SemY.skip ?_;refine AD ?_;refine AR ?_;refine AD ?_;refine SemY.region ?_;refine Cb he 1 [some ⟨2,94,[.ag [.v (.int .i64 y0),.e0]],false⟩,some ⟨2,94,[.ag [.v (.int .i64 y1),.rf 2 0 c240.length c240.length]],false⟩,some ⟨1,3,(c240.map cdI.enc),false⟩,some ⟨1,50,[.sl 1 (y3.map (cdL 1 cdI).enc)],false⟩,none] ?_;obtain ⟨v242,hv242,h⟩:=OB h;refine RunY.one he 0 rfl (Am (AA rfl) rfl (AF (a:= .sl 1 (v189.map cdI.enc)) (b:= .v (.int .i64 c239)) kr kr (DT (e:=cdI.enc) (el:=3) (k:=1) (ki:= .i64) kr kr hv242))) ?_;refine BC he [(0,.yl 4),(4,.sl 1 (v189.map cdI.enc)),(5,.v (.int .i64 c222)),(6,.v (.int .i64 v225)),(7,.v (.int .i64 c239)),(8,.v (.int .i64 v242)),(9,.sl 1 (y3.map (cdL 1 cdI).enc)),(10,.v (.int .i64 (y3.length:Int))),(11,.v (.int .i64 c186)),(15,.sl 1 (v189.map cdI.enc)),(16,.v (.int .i64 (v189.length:Int))),(17,.v (.int .i64 c222)),(22,.sl 1 (v189.map cdI.enc)),(23,.v (.int .i64 (v189.length:Int))),(24,.v (.int .i64 c239))] [some ⟨2,94,[.ag [.v (.int .i64 y0),.e0]],false⟩,some ⟨2,94,[.ag [.v (.int .i64 y1),.rf 2 0 c240.length c240.length]],false⟩,some ⟨1,3,(c240.map cdI.enc),false⟩,some ⟨1,50,[.sl 1 (y3.map (cdL 1 cdI).enc)],false⟩,none] ?_;refine AD ?_;refine SemY.region ?_;refine Pf (n:=42) he 4 [(0,.yl 4),(4,.sl 1 (v189.map cdI.enc)),(5,.v (.int .i64 c222)),(6,.v (.int .i64 v225)),(8,.v (.int .i64 v242)),(9,.sl 1 (y3.map (cdL 1 cdI).enc)),(10,.v (.int .i64 (y3.length:Int))),(11,.v (.int .i64 c186)),(15,.sl 1 (v189.map cdI.enc)),(16,.v (.int .i64 (v189.length:Int))),(17,.v (.int .i64 c222)),(22,.sl 1 (v189.map cdI.enc)),(23,.v (.int .i64 (v189.length:Int))),(24,.v (.int .i64 c239)),(32,.v (.bool (c222 != c239)))] [some ⟨2,94,[.ag [.v (.int .i64 y0),.e0]],false⟩,some ⟨2,94,[.ag [.v (.int .i64 y1),.rf 2 0 c240.length c240.length]],false⟩,some ⟨1,3,(c240.map cdI.enc),false⟩,some ⟨1,50,[.sl 1 (y3.map (cdL 1 cdI).enc)],false⟩,none] kr ?_
   rcases BE (c222 != c239) with hc244 | hc244
   ·rw [if_pos hc244] at h
    rw [hc244];refine Cb he 3 [some ⟨2,94,[.ag [.v (.int .i64 y0),.e0]],false⟩,some ⟨2,94,[.ag [.v (.int .i64 y1),.rf 2 0 c240.length c240.length]],false⟩,some ⟨1,3,(c240.map cdI.enc),false⟩,some ⟨1,50,[.sl 1 (y3.map (cdL 1 cdI).enc)],false⟩,none] ?_;obtain ⟨v243,hv243,h⟩:=OB h;refine RunY.yield (K1:=fun h'=>h'=[some ⟨2,94,[.ag [.v (.int .i64 y0),.e0]],false⟩,some ⟨2,94,[.ag [.v (.int .i64 y1),.rf 2 0 v243.length v243.length]],false⟩,some ⟨1,3,(v243.map cdI.enc),false⟩,some ⟨1,50,[.sl 1 (y3.map (cdL 1 cdI).enc)],false⟩,none]) rfl rfl (eb:=Au) rfl rfl rfl rfl rfl kr kr (xs:=[.v (.int .i64 v225),.v (.int .i64 v242)]) kr rfl rfl (Iu y0 y1 c240 y3 y4 y5 y6 v225 v242 _ hv243) ?_;rintro h' rfl;refine BC he [(0,.yl 4),(4,.sl 1 (v189.map cdI.enc)),(5,.v (.int .i64 c222)),(6,.v (.int .i64 v225)),(9,.sl 1 (y3.map (cdL 1 cdI).enc)),(10,.v (.int .i64 (y3.length:Int))),(11,.v (.int .i64 c186)),(15,.sl 1 (v189.map cdI.enc)),(16,.v (.int .i64 (v189.length:Int))),(17,.v (.int .i64 c222)),(22,.sl 1 (v189.map cdI.enc)),(23,.v (.int .i64 (v189.length:Int))),(24,.v (.int .i64 c239)),(33,.yl 4),(34,.v (.int .i64 v225)),(35,.v (.int .i64 v242)),(36,.v (.bool true)),(37,.v (.bool false)),(38,.v (.bool false))] [some ⟨2,94,[.ag [.v (.int .i64 y0),.e0]],false⟩,some ⟨2,94,[.ag [.v (.int .i64 y1),.rf 2 0 v243.length v243.length]],false⟩,some ⟨1,3,(v243.map cdI.enc),false⟩,some ⟨1,50,[.sl 1 (y3.map (cdL 1 cdI).enc)],false⟩,none] ?_;refine SemY.cond_false kr ?_;refine SemY.skip ?_;refine SemY.region ?_;refine Cb he 2 [some ⟨2,94,[.ag [.v (.int .i64 y0),.e0]],false⟩,some ⟨2,94,[.ag [.v (.int .i64 y1),.rf 2 0 v243.length v243.length]],false⟩,some ⟨1,3,(v243.map cdI.enc),false⟩,some ⟨1,50,[.sl 1 (y3.map (cdL 1 cdI).enc)],false⟩,none] ?_;refine RunY.done rfl ?_;exact Ad (s1:=⟨Fr 42 [(0,.yl 4),(4,.sl 1 (v189.map cdI.enc)),(5,.v (.int .i64 c222)),(6,.v (.int .i64 v225)),(9,.sl 1 (y3.map (cdL 1 cdI).enc)),(10,.v (.int .i64 (y3.length:Int))),(11,.v (.int .i64 c186)),(15,.sl 1 (v189.map cdI.enc)),(16,.v (.int .i64 (v189.length:Int))),(17,.v (.int .i64 c222)),(22,.sl 1 (v189.map cdI.enc)),(23,.v (.int .i64 (v189.length:Int))),(24,.v (.int .i64 (wr .i64 (c239 + 1))))],[some ⟨2,94,[.ag [.v (.int .i64 y0),.e0]],false⟩,some ⟨2,94,[.ag [.v (.int .i64 y1),.rf 2 0 v243.length v243.length]],false⟩,some ⟨1,3,(v243.map cdI.enc),false⟩,some ⟨1,50,[.sl 1 (y3.map (cdL 1 cdI).enc)],false⟩,none]⟩) WkY.f1 (ih (wr .i64 (c239 + 1)) v243 h)
   ·rw [B9 hc244] at h
    rw [hc244];refine BC he [(0,.yl 4),(4,.sl 1 (v189.map cdI.enc)),(5,.v (.int .i64 c222)),(6,.v (.int .i64 v225)),(9,.sl 1 (y3.map (cdL 1 cdI).enc)),(10,.v (.int .i64 (y3.length:Int))),(11,.v (.int .i64 c186)),(15,.sl 1 (v189.map cdI.enc)),(16,.v (.int .i64 (v189.length:Int))),(17,.v (.int .i64 c222)),(22,.sl 1 (v189.map cdI.enc)),(23,.v (.int .i64 (v189.length:Int))),(24,.v (.int .i64 c239)),(33,.tp []),(34,.tp []),(35,.tp []),(36,.tp []),(37,.tp []),(38,.v (.bool false))] [some ⟨2,94,[.ag [.v (.int .i64 y0),.e0]],false⟩,some ⟨2,94,[.ag [.v (.int .i64 y1),.rf 2 0 c240.length c240.length]],false⟩,some ⟨1,3,(c240.map cdI.enc),false⟩,some ⟨1,50,[.sl 1 (y3.map (cdL 1 cdI).enc)],false⟩,none] ?_;refine SemY.cond_false kr ?_;refine SemY.skip ?_;refine SemY.region ?_;refine Cb he 2 [some ⟨2,94,[.ag [.v (.int .i64 y0),.e0]],false⟩,some ⟨2,94,[.ag [.v (.int .i64 y1),.rf 2 0 c240.length c240.length]],false⟩,some ⟨1,3,(c240.map cdI.enc),false⟩,some ⟨1,50,[.sl 1 (y3.map (cdL 1 cdI).enc)],false⟩,none] ?_;refine RunY.done rfl ?_;exact Ad (s1:=⟨Fr 42 [(0,.yl 4),(4,.sl 1 (v189.map cdI.enc)),(5,.v (.int .i64 c222)),(6,.v (.int .i64 v225)),(9,.sl 1 (y3.map (cdL 1 cdI).enc)),(10,.v (.int .i64 (y3.length:Int))),(11,.v (.int .i64 c186)),(15,.sl 1 (v189.map cdI.enc)),(16,.v (.int .i64 (v189.length:Int))),(17,.v (.int .i64 c222)),(22,.sl 1 (v189.map cdI.enc)),(23,.v (.int .i64 (v189.length:Int))),(24,.v (.int .i64 (wr .i64 (c239 + 1))))],[some ⟨2,94,[.ag [.v (.int .i64 y0),.e0]],false⟩,some ⟨2,94,[.ag [.v (.int .i64 y1),.rf 2 0 c240.length c240.length]],false⟩,some ⟨1,3,(c240.map cdI.enc),false⟩,some ⟨1,50,[.sl 1 (y3.map (cdL 1 cdI).enc)],false⟩,none]⟩) WkY.f1 (ih (wr .i64 (c239 + 1)) c240 h)
  ·rw [B9 hb241] at h
   refine SemY.exit ?_;have hq:=OI h; subst hq;exact ⟨rfl,WkY.f1⟩
theorem JC (y0:Int) (y1:Int) (y3:(List (List Int))) (y4:(List (List (List Int)))) (y5:Int) (y6:Int) (c186:Int) (v189:(List Int)):∀ (f:Nat) (c222:Int) (c223:(List Int)) (r:((List Int))),Dk y0 y1 y3 y4 y5 y6 c186 v189 f c222 c223=some r->SemYN Ax (DN y4 y5 y6) (pc DL [1,0,0,1,1,0,0,1,1,0,0]) f ⟨Fr 42 [(0,.yl 4),(4,.sl 1 (v189.map cdI.enc)),(9,.sl 1 (y3.map (cdL 1 cdI).enc)),(10,.v (.int .i64 (y3.length:Int))),(11,.v (.int .i64 c186)),(15,.sl 1 (v189.map cdI.enc)),(16,.v (.int .i64 (v189.length:Int))),(17,.v (.int .i64 c222))],[some ⟨2,94,[.ag [.v (.int .i64 y0),.e0]],false⟩,some ⟨2,94,[.ag [.v (.int .i64 y1),.rf 2 0 c223.length c223.length]],false⟩,some ⟨1,3,(c223.map cdI.enc),false⟩,some ⟨1,50,[.sl 1 (y3.map (cdL 1 cdI).enc)],false⟩,none]⟩ (fun e s=>e=(.exit 2)/\WkY Ax s ⟨Fr 42 [(0,.yl 4),(9,.sl 1 (y3.map (cdL 1 cdI).enc)),(10,.v (.int .i64 (y3.length:Int))),(11,.v (.int .i64 c186))],[some ⟨2,94,[.ag [.v (.int .i64 y0),.e0]],false⟩,some ⟨2,94,[.ag [.v (.int .i64 y1),.rf 2 0 r.length r.length]],false⟩,some ⟨1,3,(r.map cdI.enc),false⟩,some ⟨1,50,[.sl 1 (y3.map (cdL 1 cdI).enc)],false⟩,none]⟩):=by
 have he:=B6
 intro f;induction f with
 | zero=>intro c222 c223 r h; cases h
 | succ f ih0 =>
  intro c222 c223 r h
  have ih:=fun (c222:Int) (c223:(List Int))=>ih0 c222 c223 r
  unfold Dk at h;refine BA ?_;refine AD ?_;refine SemY.region ?_
  let p1:Option Blk:=some ⟨1,50,[.sl 1 (y3.map (cdL 1 cdI).enc)],false⟩
  let p2:Option Blk:=some ⟨1,3,(c223.map cdI.enc),false⟩
  let p3:Option Blk:=some ⟨2,94,[.ag [.v (.int .i64 y1),.rf 2 0 c223.length c223.length]],false⟩
  let p4:Option Blk:=some ⟨2,94,[.ag [.v (.int .i64 y0),.e0]],false⟩
  let p5:Nat×AV:=(17,.v (.int .i64 c222))
  let p6:Nat×AV:=(16,.v (.int .i64 (v189.length:Int)))
  let p7:Nat×AV:=(15,.sl 1 (v189.map cdI.enc))
  let p8:Nat×AV:=(11,.v (.int .i64 c186))
  let p9:Nat×AV:=(10,.v (.int .i64 (y3.length:Int)))
  let p10:Nat×AV:=(9,.sl 1 (y3.map (cdL 1 cdI).enc))
  let p11:Nat×AV:=(4,.sl 1 (v189.map cdI.enc))
  refine BC he [(0,.yl 4),p11,p10,p9,p8,p7,p6,p5,(18,.v (.bool (decide (c222 < (v189.length:Int)))))] [p4,p3,p2,p1,none] ?_;refine AD ?_;refine Ab (b:=(decide (c222 < (v189.length:Int)))) kr (fun hb224=>?_) (fun hb224=>?_)
  ·rw [if_pos hb224] at h
   refine SemY.skip ?_;refine AD ?_;refine AR ?_;refine AD ?_;refine SemY.region ?_;refine Cb he 1 [p4,p3,p2,p1,none] ?_;obtain ⟨v225,hv225,h⟩:=OB h;refine RunY.one he 0 rfl (Am (AA rfl) rfl (AF (a:= .sl 1 (v189.map cdI.enc)) (b:= .v (.int .i64 c222)) kr kr (DT (e:=cdI.enc) (el:=3) (k:=1) (ki:= .i64) kr kr hv225))) ?_
   let p12:Nat×AV:=(6,.v (.int .i64 v225))
   let p13:Nat×AV:=(5,.v (.int .i64 c222))
   refine BC he [(0,.yl 4),p11,p13,p12,p10,p9,p8,p7,p6,p5] [p4,p3,p2,p1,none] ?_;refine AD ?_;refine SemY.region ?_;refine Cb he 1 [p4,p3,p2,p1,none] ?_;refine RunY.one he 0 rfl (Am (AA rfl) rfl (BZ (a:= .sl 1 (v189.map cdI.enc)) kr (Aw (el:=3) kr))) ?_
   let p14:Nat×AV:=(23,.v (.int .i64 (v189.length:Int)))
   refine BC he [(0,.yl 4),p11,p13,p12,p10,p9,p8,p7,p6,p5,(22,.sl 1 (v189.map cdI.enc)),p14,(24,.v (.int .i64 0))] [p4,p3,p2,p1,none] ?_;refine AR ?_;obtain ⟨r246,hr246,h⟩:=OB h;refine SemY.loop (n:=100000) ?_;refine Lx (Ad (s1:=⟨Fr 42 [(0,.yl 4),p11,p13,p12,p10,p9,p8,p7,p6,p5,(22,.sl 1 (v189.map cdI.enc)),p14,(24,.v (.int .i64 0))],[p4,p3,p2,p1,none]⟩) WkY.f1 (JD y0 y1 y3 y4 y5 y6 c186 v189 c222 v225 _ 0 c223 _ hr246)) ?_;refine SemY.region ?_
   let p15:Option Blk:=some ⟨1,3,(r246.map cdI.enc),false⟩
   let p16:Option Blk:=some ⟨2,94,[.ag [.v (.int .i64 y1),.rf 2 0 r246.length r246.length]],false⟩
   refine Cb he 2 [p4,p16,p15,p1,none] ?_;refine RunY.done rfl ?_;exact Ad (s1:=⟨Fr 42 [(0,.yl 4),p11,p10,p9,p8,p7,p6,(17,.v (.int .i64 (wr .i64 (c222 + 1))))],[p4,p16,p15,p1,none]⟩) WkY.f1 (ih (wr .i64 (c222 + 1)) r246 h)
  ·rw [B9 hb224] at h
   refine SemY.exit ?_;have hq:=OI h; subst hq;exact ⟨rfl,WkY.f1⟩
theorem JB (y0:Int) (y1:Int) (y3:(List (List Int))) (y4:(List (List (List Int)))) (y5:Int) (y6:Int):∀ (f:Nat) (c186:Int) (c187:(List Int)) (r:((List Int))),Dj y0 y1 y3 y4 y5 y6 f c186 c187=some r->SemYN Ax (DN y4 y5 y6) (pc DL [1,0,0]) f ⟨Fr 42 [(0,.yl 4),(9,.sl 1 (y3.map (cdL 1 cdI).enc)),(10,.v (.int .i64 (y3.length:Int))),(11,.v (.int .i64 c186))],[some ⟨2,94,[.ag [.v (.int .i64 y0),.e0]],false⟩,some ⟨2,94,[.ag [.v (.int .i64 y1),.rf 2 0 c187.length c187.length]],false⟩,some ⟨1,3,(c187.map cdI.enc),false⟩,some ⟨1,50,[.sl 1 (y3.map (cdL 1 cdI).enc)],false⟩,none]⟩ (fun e s=>e=(.exit 0)/\WkY Ax s ⟨Fr 42 [],[some ⟨2,94,[.ag [.v (.int .i64 y0),.e0]],false⟩,some ⟨2,94,[.ag [.v (.int .i64 y1),.rf 2 0 r.length r.length]],false⟩,some ⟨1,3,(r.map cdI.enc),false⟩,some ⟨1,50,[.sl 1 (y3.map (cdL 1 cdI).enc)],false⟩,none]⟩):=by
 have he:=B6
 intro f;induction f with
 | zero=>intro c186 c187 r h; cases h
 | succ f ih0 =>
  intro c186 c187 r h
  have ih:=fun (c186:Int) (c187:(List Int))=>ih0 c186 c187 r
  unfold Dj at h;refine BA ?_;refine AD ?_;refine SemY.region ?_
  let p1:Option Blk:=some ⟨1,50,[.sl 1 (y3.map (cdL 1 cdI).enc)],false⟩
  let p2:Option Blk:=some ⟨1,3,(c187.map cdI.enc),false⟩
  let p3:Option Blk:=some ⟨2,94,[.ag [.v (.int .i64 y1),.rf 2 0 c187.length c187.length]],false⟩
  let p4:Option Blk:=some ⟨2,94,[.ag [.v (.int .i64 y0),.e0]],false⟩
  let p5:Nat×AV:=(11,.v (.int .i64 c186))
  let p6:Nat×AV:=(10,.v (.int .i64 (y3.length:Int)))
  let p7:Nat×AV:=(9,.sl 1 (y3.map (cdL 1 cdI).enc))
  refine BC he [(0,.yl 4),p7,p6,p5,(12,.v (.bool (decide (c186 < (y3.length:Int)))))] [p4,p3,p2,p1,none] ?_;refine AD ?_;refine Ab (b:=(decide (c186 < (y3.length:Int)))) kr (fun hb188=>?_) (fun hb188=>?_)
  ·rw [if_pos hb188] at h
   refine SemY.skip ?_;refine AD ?_;refine AR ?_;refine AD ?_;refine SemY.region ?_;obtain ⟨v189,hv189,h⟩:=OB h;refine RunY.one he 0 rfl (Am (AA rfl) rfl (AF (a:= .sl 1 (y3.map (cdL 1 cdI).enc)) (b:= .v (.int .i64 c186)) kr kr (DT (e:=(cdL 1 cdI).enc) (el:=31) (k:=1) (ki:= .i64) kr kr hv189))) ?_
   let p8:Nat×AV:=(4,.sl 1 (v189.map cdI.enc))
   refine BC he [(0,.yl 4),p8,p7,p6,p5] [p4,p3,p2,p1,none] ?_;refine AD ?_;refine SemY.region ?_;refine Cb he 1 [p4,p3,p2,p1,none] ?_;refine RunY.one he 0 rfl (Am (AA rfl) rfl (BZ (a:= .sl 1 (v189.map cdI.enc)) kr (Aw (el:=3) kr))) ?_
   let p9:Nat×AV:=(16,.v (.int .i64 (v189.length:Int)))
   refine BC he [(0,.yl 4),p8,p7,p6,p5,(15,.sl 1 (v189.map cdI.enc)),p9,(17,.v (.int .i64 0))] [p4,p3,p2,p1,none] ?_;refine AR ?_;obtain ⟨r248,hr248,h⟩:=OB h;refine SemY.loop (n:=100000) ?_;refine Lx (Ad (s1:=⟨Fr 42 [(0,.yl 4),p8,p7,p6,p5,(15,.sl 1 (v189.map cdI.enc)),p9,(17,.v (.int .i64 0))],[p4,p3,p2,p1,none]⟩) WkY.f1 (JC y0 y1 y3 y4 y5 y6 c186 v189 _ 0 c187 _ hr248)) ?_;refine SemY.region ?_
   let p10:Option Blk:=some ⟨1,3,(r248.map cdI.enc),false⟩
   let p11:Option Blk:=some ⟨2,94,[.ag [.v (.int .i64 y1),.rf 2 0 r248.length r248.length]],false⟩
   refine Cb he 2 [p4,p11,p10,p1,none] ?_;refine RunY.done rfl ?_;exact Ad (s1:=⟨Fr 42 [(0,.yl 4),p7,p6,(11,.v (.int .i64 (wr .i64 (c186 + 1))))],[p4,p11,p10,p1,none]⟩) WkY.f1 (ih (wr .i64 (c186 + 1)) r248 h)
  ·rw [B9 hb188] at h
   refine SemY.exit ?_;have hq:=OI h; subst hq;exact ⟨rfl,WkY.f1⟩
theorem Jc (y0:Int) (y1:Int) (y2:(List Int)) (y3:(List (List Int))) (y4:(List (List (List Int)))) (y5:Int) (y6:Int) (r:(List Int)) (h:GD y0 y1 y2 y3 y4 y5 y6=some r):SemY Ax (DN y4 y5 y6) DL ⟨Fr 42 (Av 0 [.yl 4,.pt 3 0 0]),[some ⟨2,94,[.ag [.v (.int .i64 y0),.e0]],false⟩,some ⟨2,94,[.ag [.v (.int .i64 y1),.rf 2 0 y2.length y2.length]],false⟩,some ⟨1,3,(y2.map cdI.enc),false⟩,some ⟨1,50,[.sl 1 (y3.map (cdL 1 cdI).enc)],false⟩,none]⟩ fun x s'=>(x = .normal\/x = .ret)/\∃ ys,FA Ax.P s'.fr s'.hp Tryd.f108.results.toList=some ys/\(FZ ys = .tp []/\s'.hp=[some ⟨2,94,[.ag [.v (.int .i64 y0),.e0]],false⟩,some ⟨2,94,[.ag [.v (.int .i64 y1),.rf 2 0 r.length r.length]],false⟩,some ⟨1,3,(r.map cdI.enc),false⟩,some ⟨1,50,[.sl 1 (y3.map (cdL 1 cdI).enc)],false⟩,none]):=by
 have he:=B6
 unfold GD at h;refine AD ?_;refine SemY.region ?_
 let p1:Option Blk:=some ⟨1,50,[.sl 1 (y3.map (cdL 1 cdI).enc)],false⟩
 let p2:Option Blk:=some ⟨1,3,(y2.map cdI.enc),false⟩
 let p3:Option Blk:=some ⟨2,94,[.ag [.v (.int .i64 y1),.rf 2 0 y2.length y2.length]],false⟩
 let p4:Option Blk:=some ⟨2,94,[.ag [.v (.int .i64 y0),.e0]],false⟩
 refine Cb he 1 [p4,p3,p2,p1,none] ?_;refine RunY.one he 0 rfl (Am (AA rfl) rfl (BZ (a:= .sl 1 (y3.map (cdL 1 cdI).enc)) kr (Aw (el:=31) kr))) ?_
 let p5:Nat×AV:=(10,.v (.int .i64 (y3.length:Int)))
 let p6:Nat×AV:=(9,.sl 1 (y3.map (cdL 1 cdI).enc))
 refine BC he [(0,.yl 4),p6,p5,(11,.v (.int .i64 0))] [p4,p3,p2,p1,none] ?_;refine AR ?_;obtain ⟨r250,hr250,h⟩:=OB h;refine SemY.loop (n:=100000) ?_;refine Lx (Ad (s1:=⟨Fr 42 [(0,.yl 4),p6,p5,(11,.v (.int .i64 0))],[p4,p3,p2,p1,none]⟩) WkY.f1 (JB y0 y1 y3 y4 y5 y6 _ 0 y2 _ hr250)) ?_;have hq:=OI h; subst hq;exact ⟨.inl rfl,[],kr,kr,kr⟩
def Eo (x1:(List (List (List Int)))) (v1:Int×Int×(List Int)):Nat->(List Int)->Int->Option (((List Int)))
 | 0,_,_=>none
 | f + 1,c13,c14 =>
  if (decide (c14 < (x1.length:Int)))=true then
  (idx x1 c14).bind fun v16 =>
  (GC 0 v1.1 c13 v16).bind fun v17 =>
  (GD 0 v1.1 c13 v17 x1 (x1.length:Int) c14).bind fun v18 =>
  Eo x1 v1 f v18 (wr .i64 (c14 + 1))
  else
  some c13
def Al (x0:Int) (x1:(List (List (List Int)))):Option ((Int×(List Int))) :=
 (GB 0 x0).bind fun v1 =>
 (Eo x1 v1 100000 v1.2.2 0).bind fun r20 =>
 some (v1.1,r20)
def BG:Cs (Int×(List (List (List Int)))×Unit):=(csC cdI (csC (cdL 1 (cdL 1 (cdL 1 cdI))) csN))
def CU (r:(Int×(List Int))):AV:=(EF cdI (cdL 1 cdI) (fun _=>rfl) (fun _=>rfl)).enc r
theorem Hf (x1:(List (List (List Int)))) (v1:Int×Int×(List Int)):∀ (f:Nat) (c13:(List Int)) (c14:Int) (r:((List Int))),Eo x1 v1 f c13 c14=some r->SemN Au ⟨none,false⟩ (pc BF [1,1,0,1,0,0]) f ⟨Fr 32 [(4,.pt 0 0 0),(5,.pt 1 0 0),(12,.sl 1 (x1.map (cdL 1 (cdL 1 cdI)).enc)),(13,.v (.int .i64 (x1.length:Int))),(14,.v (.int .i64 c14))],[some ⟨2,94,[.ag [.v (.int .i64 0),.e0]],false⟩,some ⟨2,94,[.ag [.v (.int .i64 v1.1),.rf 2 0 c13.length c13.length]],false⟩,some ⟨1,3,(c13.map cdI.enc),false⟩]⟩ (fun e s=>e=(.exit 0)/\Wk Au s ⟨Fr 32 [(4,.pt 0 0 0),(5,.pt 1 0 0)],[some ⟨2,94,[.ag [.v (.int .i64 0),.e0]],false⟩,some ⟨2,94,[.ag [.v (.int .i64 v1.1),.rf 2 0 r.length r.length]],false⟩,some ⟨1,3,(r.map cdI.enc),false⟩]⟩):=by
 have he:=B7
 intro f;induction f with
 | zero=>intro c13 c14 r h; cases h
 | succ f ih0 =>
  intro c13 c14 r h
  have ih:=fun (c13:(List Int)) (c14:Int)=>ih0 c13 c14 r
  unfold Eo at h;refine BJ ?_
  let p1:Option Blk:=some ⟨1,3,(c13.map cdI.enc),false⟩
  let p2:Option Blk:=some ⟨2,94,[.ag [.v (.int .i64 v1.1),.rf 2 0 c13.length c13.length]],false⟩
  let p3:Option Blk:=some ⟨2,94,[.ag [.v (.int .i64 0),.e0]],false⟩
  let p4:Nat×AV:=(14,.v (.int .i64 c14))
  let p5:Nat×AV:=(13,.v (.int .i64 (x1.length:Int)))
  let p6:Nat×AV:=(12,.sl 1 (x1.map (cdL 1 (cdL 1 cdI)).enc))
  let p7:Nat×AV:=(5,.pt 1 0 0)
  let p8:Nat×AV:=(4,.pt 0 0 0)
  refine AN he [p8,p7,p6,p5,p4,(15,.v (.bool (decide (c14 < (x1.length:Int)))))] [p3,p2,p1] ?_;refine AE ?_;refine AU (b:=(decide (c14 < (x1.length:Int)))) kr (fun hb15=>?_) (fun hb15=>?_)
  ·rw [if_pos hb15] at h
   refine AX ?_;refine AE ?_;refine AQ ?_;refine AE ?_;obtain ⟨v16,hv16,h⟩:=OB h;refine AI (s1:=⟨Fr 32 [p8,p7,(7,.sl 1 (v16.map (cdL 1 cdI).enc)),p6,p5,p4],[p3,p2,p1]⟩) ?_ ?_
   ·refine AJ he 0 rfl (Am (AA rfl) rfl (AF (a:= .sl 1 (x1.map (cdL 1 (cdL 1 cdI)).enc)) (b:= .v (.int .i64 c14)) kr kr (DT (e:=(cdL 1 (cdL 1 cdI)).enc) (el:=50) (k:=1) (ki:= .i64) kr kr hv16))) ?_
    exact AK he
   refine AE ?_;obtain ⟨v17,hv17,h⟩:=OB h
   let p9:Option Blk:=some ⟨1,50,[.sl 1 (v17.map (cdL 1 cdI).enc)],false⟩
   refine AI (s1:=⟨Fr 32 [p8,p7,p6,p5,p4,(19,.fn 108 [] [.pt 3 0 0])],[p3,p2,p1,p9]⟩) ?_ ?_
   ·refine AB (n:=32) he 1 [p8,p7,p6,p5,p4,(18,.sl 1 (v16.map (cdL 1 cdI).enc))] [p3,p2,p1] kr ?_
    refine IJ (fid:=72) (caps:=[]) (xs:=[.sl 1 (v16.map (cdL 1 cdI).enc)]) (fn:=Tryd.f72) (Out:=fun x h'=>x = .fn 108 [] [.pt 3 0 0]/\h'=[p3,p2,p1,p9]) rfl rfl GH rfl rfl rfl (AA rfl) kr kr kr kr (by show 1<=4; decide) (Jb 0 v1.1 c13 v16 _ hv17) ?_;rintro x h' ⟨rfl,rfl⟩;exact AO rfl (Ac [0,1,2,3] ⟨⟨_,rfl,FW⟩,⟨_,rfl,FW⟩,⟨_,rfl,Ai⟩,⟨_,rfl,FW⟩,trivial⟩ ⟨lv,lv,lv,lv,lv,lv,trivial⟩)
   refine AQ ?_;obtain ⟨v18,hv18,h⟩:=OB h
   let p10:Option Blk:=some ⟨1,3,(v18.map cdI.enc),false⟩
   let p11:Option Blk:=some ⟨2,94,[.ag [.v (.int .i64 v1.1),.rf 2 0 v18.length v18.length]],false⟩
   refine Sem.range (E:=Au) (gid:=108) (caps:=[.pt 3 0 0]) (fn:=Tryd.f108) (Out:=fun x h'=>x = .tp []/\h'=[p3,p11,p10,p9,none]) rfl rfl B6 rfl rfl rfl kr kr kr kr kr (by show 2<=42; decide) (Jc 0 v1.1 c13 v17 x1 (x1.length:Int) c14 _ hv18) ?_;rintro x h' ⟨-,rfl⟩
   let p12:Nat×AV:=(14,.v (.int .i64 (wr .i64 (c14 + 1))))
   refine AI (s1:=⟨Fr 32 [p8,p7,p6,p5,p12],[p3,p11,p10]⟩) ?_ ?_
   ·refine AB (n:=32) he 2 [p8,p7,p6,p5,p12] [p3,p11,p10,p9,none] kr ?_
    exact AO rfl (Ac [0,1,2] ⟨⟨_,rfl,FW⟩,⟨_,rfl,FW⟩,⟨_,rfl,Ai⟩,trivial⟩ ⟨lv,lv,lv,lv,lv,trivial⟩)
   exact Ae (s1:=⟨Fr 32 [p8,p7,p6,p5,p12],[p3,p11,p10]⟩) (Ac [0,1,2] ⟨⟨_,rfl,FW⟩,⟨_,rfl,FW⟩,⟨_,rfl,Ai⟩,trivial⟩ ⟨lv,lv,lv,lv,lv,trivial⟩) (ih v18 (wr .i64 (c14 + 1)) h)
  ·rw [B9 hb15] at h
   refine Ba ?_;have hq:=OI h; subst hq;exact ⟨rfl,(Ac [0,1,2] ⟨⟨_,rfl,FW⟩,⟨_,rfl,FW⟩,⟨_,rfl,Ai⟩,trivial⟩ ⟨lv,lv,trivial⟩)⟩
theorem LD (x0:Int) (x1:(List (List (List Int)))) (r:(Int×(List Int))) (h:Al x0 x1=some r):Sem Au ⟨none,false⟩ BF ⟨Fr 32 (Av 0 (BG.enc (x0,x1,()))),[]⟩ fun e s'=>(e = .normal\/e = .ret)/\∃ xs,FA Au.P s'.fr s'.hp Tryd.f80.results.toList=some xs/\FZ xs=CU r:=by
 have he:=B7
 unfold Al at h
 let p1:Nat×AV:=(1,.sl 1 (x1.map (cdL 1 (cdL 1 cdI)).enc))
 refine Bz (DX (s1:=⟨Fr 32 [(0,.v (.int .i64 x0)),p1],[]⟩) Ah ?_)
 let p2:Option Blk:=some ⟨2,94,[.ag [.v (.int .i64 0),.e0]],false⟩
 let p3:Nat×AV:=(4,.pt 0 0 0)
 refine AN he [(0,.v (.int .i64 x0)),p1,p3] [p2] ?_;refine AE ?_;obtain ⟨v1,hv1,h⟩:=OB h
 let p4:Option Blk:=some ⟨1,3,(v1.2.2.map cdI.enc),false⟩
 let p5:Option Blk:=some ⟨2,94,[.ag [.v (.int .i64 v1.1),.rf 2 0 v1.2.2.length v1.2.2.length]],false⟩
 let p6:Nat×AV:=(5,.pt 1 0 0)
 refine AI (s1:=⟨Fr 32 [p1,p3,p6],[p2,p5,p4]⟩) ?_ ?_
 ·refine AB (n:=32) he 1 [p1,p3,(10,.v (.int .i64 x0))] [p2] kr ?_
  let p7:Option Blk:=some ⟨2,94,[.ag [.v (.int .i64 v1.2.1),.rf 2 0 v1.2.2.length v1.2.2.length]],false⟩
  refine IJ (fid:=68) (caps:=[]) (xs:=[.v (.int .i64 x0)]) (fn:=Tryd.f68) (Out:=fun x h'=>x = .ag [.v (.int .i64 v1.1),.rf 2 0 v1.2.2.length v1.2.2.length]/\h'=[p2,p7,p4]) rfl rfl D8 rfl rfl rfl (AA rfl) kr kr kr kr (by show 1<=9; decide) (Gn 0 x0 _ hv1) ?_;rintro x h' ⟨rfl,rfl⟩;refine AB (n:=32) he 2 [p1,p3,(5,.pt 3 0 0)] [p2,p7,p4,p5] kr ?_;exact AO rfl (Ac [0,3,2] ⟨⟨_,rfl,FW⟩,⟨_,rfl,FW⟩,⟨_,rfl,Ai⟩,trivial⟩ ⟨lv,lv,lv,trivial⟩)
 refine AE ?_;refine AE ?_
 let p8:Nat×AV:=(13,.v (.int .i64 (x1.length:Int)))
 let p9:Nat×AV:=(12,.sl 1 (x1.map (cdL 1 (cdL 1 cdI)).enc))
 refine AI (s1:=⟨Fr 32 [p3,p6,p9,p8,(14,.v (.int .i64 0))],[p2,p5,p4]⟩) ?_ ?_
 ·refine AB (n:=32) he 1 [p3,p6,p9] [p2,p5,p4] kr ?_
  refine AJ he 0 rfl (Am (AA rfl) rfl (BZ (a:= .sl 1 (x1.map (cdL 1 (cdL 1 cdI)).enc)) kr (Aw (el:=50) kr))) ?_;exact AK he
 refine AQ ?_;obtain ⟨r20,hr20,h⟩:=OB h;refine Bm (n:=100000) ?_;refine BD (Ae (s1:=⟨Fr 32 [p3,p6,p9,p8,(14,.v (.int .i64 0))],[p2,p5,p4]⟩) (Ac [0,1,2] ⟨⟨_,rfl,FW⟩,⟨_,rfl,FW⟩,⟨_,rfl,Ai⟩,trivial⟩ ⟨lv,lv,lv,lv,lv,trivial⟩) (Hf x1 v1 _ v1.2.2 0 _ hr20)) ?_;refine AE ?_
 let p10:Option Blk:=some ⟨1,3,(r20.map cdI.enc),false⟩
 refine AI (s1:=⟨Fr 32 [p3],[some ⟨2,94,[.ag [.v (.int .i64 v1.1),.rf 1 0 r20.length r20.length]],false⟩,p10]⟩) ?_ ?_
 ·let p11:Option Blk:=some ⟨2,94,[.ag [.v (.int .i64 v1.1),.rf 2 0 r20.length r20.length]],false⟩
  refine AB (n:=32) he 2 [p3] [p11,p11,p10] kr ?_;exact AO rfl (Ac [0,2] ⟨⟨_,rfl,FW⟩,⟨_,rfl,Ai⟩,trivial⟩ ⟨lv,trivial⟩)
 refine An ?_;have hq:=OI h; subst hq
 let p12:Option Blk:=some ⟨2,94,[.ag [.v (.int .i64 v1.1),.sl 1 (r20.map cdI.enc)]],false⟩
 exact ⟨⟨Fr 32 [p3],[p12]⟩,(Wk.trans (s1:=⟨Fr 32 [p3],[p12,none]⟩) (Qq 1 (.inl kr) ⟨.inr (.inr ⟨_,_,_,_,rfl,rfl,⟨(.inr ⟨_,_,rfl,rfl,⟨.inl rfl,Oo (c:=cdI) (xs:=r20) (t:=3) kr,trivial⟩⟩),trivial⟩⟩),.inl rfl,trivial⟩ ⟨⟨.pt 0 0 0,kr,(.inl (.inl rfl))⟩,trivial⟩) (Ac [0] ⟨⟨_,rfl,FW⟩,trivial⟩ ⟨lv,trivial⟩)),.inr rfl,[.ag [.v (.int .i64 v1.1),.sl 1 (r20.map cdI.enc)]],kr,kr⟩
def Er:List AV->Option AV:=GP BG (fun a=>Al a.1 a.2.1) CU
theorem Cp:XOk 80 Er:=by
 refine EnvOk.x (E:=Au) (Af B7 (fn:=Tryd.f80) (c:=BF) ?h1 ?h2 ⟨Tryd.call80⟩ BG (fun a=>Al a.1 a.2.1) CU (fun a=>(by show 2<=32; decide)) ?h3 ?h4) rfl rfl
 case h1=>kernel_rfl
 case h2=>kernel_rfl
 case h3=>intro b; kernel_rfl
 case h4=>exact fun a b h=>LD a.1 a.2.1 b h
section
variable {w w':World}{Z Z':Nat->Prop}{R R':List RI}{h h':Hp}
end
section
variable {E:Env}{ops:Array Oper}{rest rest':List Oper}{K:St->Prop}{n:Nat}{l:List (Nat×AV)}{hp:Hp}{xs:List AV}{Out:AV->Hp->Prop}
end
theorem KW (x0:Int) (x1:(List (List (List Int)))) (r:(Int×(List Int))) (h:Al x0 x1=some r):Sem Au ⟨none,false⟩ BF ⟨Fr 32 (Av 0 (BG.enc (x0,x1,()))),[]⟩ fun e s'=>(e = .normal\/e = .ret)/\∃ xs,FA Au.P s'.fr s'.hp Tryd.f80.results.toList=some xs/\(fun x h'=>x = .ag [.v (.int .i64 r.1),.rf 0 0 r.2.length r.2.length]/\h'=[some ⟨1,3,r.2.map cdI.enc,false⟩,some ⟨2,94,[.ag [.v (.int .i64 r.1),.rf 0 0 r.2.length r.2.length]],false⟩]) (FZ xs) s'.hp:=by
 have he:=B7
 unfold Al at h
 let p1:Nat×AV:=(1,.sl 1 (x1.map (cdL 1 (cdL 1 cdI)).enc))
 refine Bz (DX (s1:=⟨Fr 32 [(0,.v (.int .i64 x0)),p1],[]⟩) Ah ?_)
 let p2:Option Blk:=some ⟨2,94,[.ag [.v (.int .i64 0),.e0]],false⟩
 let p3:Nat×AV:=(4,.pt 0 0 0)
 refine AN he [(0,.v (.int .i64 x0)),p1,p3] [p2] ?_;refine AE ?_;obtain ⟨v1,hv1,h⟩:=OB h
 let p4:Option Blk:=some ⟨1,3,(v1.2.2.map cdI.enc),false⟩
 let p5:Option Blk:=some ⟨2,94,[.ag [.v (.int .i64 v1.1),.rf 2 0 v1.2.2.length v1.2.2.length]],false⟩
 let p6:Nat×AV:=(5,.pt 1 0 0)
 refine AI (s1:=⟨Fr 32 [p1,p3,p6],[p2,p5,p4]⟩) ?_ ?_
 ·refine AB (n:=32) he 1 [p1,p3,(10,.v (.int .i64 x0))] [p2] kr ?_
  let p7:Option Blk:=some ⟨2,94,[.ag [.v (.int .i64 v1.2.1),.rf 2 0 v1.2.2.length v1.2.2.length]],false⟩
  refine IJ (fid:=68) (caps:=[]) (xs:=[.v (.int .i64 x0)]) (fn:=Tryd.f68) (Out:=fun x h'=>x = .ag [.v (.int .i64 v1.1),.rf 2 0 v1.2.2.length v1.2.2.length]/\h'=[p2,p7,p4]) rfl rfl D8 rfl rfl rfl (AA rfl) kr kr kr kr (by show 1<=9; decide) (Gn 0 x0 _ hv1) ?_;rintro x h' ⟨rfl,rfl⟩;refine AB (n:=32) he 2 [p1,p3,(5,.pt 3 0 0)] [p2,p7,p4,p5] kr ?_;exact AO rfl (Ac [0,3,2] ⟨⟨_,rfl,FW⟩,⟨_,rfl,FW⟩,⟨_,rfl,Ai⟩,trivial⟩ ⟨lv,lv,lv,trivial⟩)
 refine AE ?_;refine AE ?_
 let p8:Nat×AV:=(13,.v (.int .i64 (x1.length:Int)))
 let p9:Nat×AV:=(12,.sl 1 (x1.map (cdL 1 (cdL 1 cdI)).enc))
 refine AI (s1:=⟨Fr 32 [p3,p6,p9,p8,(14,.v (.int .i64 0))],[p2,p5,p4]⟩) ?_ ?_
 ·refine AB (n:=32) he 1 [p3,p6,p9] [p2,p5,p4] kr ?_
  refine AJ he 0 rfl (Am (AA rfl) rfl (BZ (a:= .sl 1 (x1.map (cdL 1 (cdL 1 cdI)).enc)) kr (Aw (el:=50) kr))) ?_;exact AK he
 refine AQ ?_;obtain ⟨r20,hr20,h⟩:=OB h;refine Bm (n:=100000) ?_;refine BD (Ae (s1:=⟨Fr 32 [p3,p6,p9,p8,(14,.v (.int .i64 0))],[p2,p5,p4]⟩) (Ac [0,1,2] ⟨⟨_,rfl,FW⟩,⟨_,rfl,FW⟩,⟨_,rfl,Ai⟩,trivial⟩ ⟨lv,lv,lv,lv,lv,trivial⟩) (Hf x1 v1 _ v1.2.2 0 _ hr20)) ?_;refine AE ?_
 let p10:Option Blk:=some ⟨1,3,(r20.map cdI.enc),false⟩
 refine AI (s1:=⟨Fr 32 [p3],[some ⟨2,94,[.ag [.v (.int .i64 v1.1),.rf 1 0 r20.length r20.length]],false⟩,p10]⟩) ?_ ?_
 ·let p11:Option Blk:=some ⟨2,94,[.ag [.v (.int .i64 v1.1),.rf 2 0 r20.length r20.length]],false⟩
  refine AB (n:=32) he 2 [p3] [p11,p11,p10] kr ?_;exact AO rfl (Ac [0,2] ⟨⟨_,rfl,FW⟩,⟨_,rfl,Ai⟩,trivial⟩ ⟨lv,trivial⟩)
 refine An ?_;have hq:=OI h; subst hq;exact ⟨⟨Fr 32 [(4,.pt 1 0 0)],[p10,some ⟨2,94,[.ag [.v (.int .i64 v1.1),.rf 0 0 r20.length r20.length]],false⟩]⟩,(Ac [1,0] ⟨⟨_,rfl,Ai⟩,⟨_,rfl,FW⟩,trivial⟩ ⟨lv,trivial⟩),.inr rfl,[.ag [.v (.int .i64 v1.1),.rf 0 0 r20.length r20.length]],kr,⟨kr,kr⟩⟩
theorem Lr (x0:Int) (x1:(List (List (List Int)))) (r:(Int×(List Int))) (h:Al x0 x1=some r):SOk 80 (BG.enc (x0,x1,())) ((fun x h'=>x = .ag [.v (.int .i64 r.1),.rf 0 0 r.2.length r.2.length]/\h'=[some ⟨1,3,r.2.map cdI.enc,false⟩,some ⟨2,94,[.ag [.v (.int .i64 r.1),.rf 0 0 r.2.length r.2.length]],false⟩])) :=
 O2 B7 rfl rfl (fn:=Tryd.f80) (c:=BF) kr kr ⟨Tryd.call80⟩ (by show 2<=32; decide) (KW x0 x1 r h)
theorem ML (x0:Int) (x1:(List (List (List Int)))) (r:(Int×(List Int))) (h:Al x0 x1=some r):SOk 80 (BG.enc (x0,x1,())) (fun x h'=>x = .ag [.v (.int .i64 r.1),.rf 0 0 r.2.length r.2.length]/\h'=[some ⟨1,3,r.2.map cdI.enc,false⟩,none]) :=
 SOk.kill 1 (Lr x0 x1 r h) fun x h' ⟨h1,h2⟩=>⟨h1,by rw [h2]; rfl⟩
theorem ty2:Ty Tryd.prog 2 (.int .i64) 1 8 (.int .i64 0):=⟨by kernel_rfl,by kernel_rfl⟩
theorem ty3:Ty Tryd.prog 3 (.int .i64) 1 8 (.int .i64 0):=⟨by kernel_rfl,by kernel_rfl⟩
noncomputable def fs7:Array Field:=match Tryd.prog.underlying 7 with | some (.struct fs)=>fs | _=>#[]
theorem XG:Ty Tryd.prog 31 (.slice 3) 1 24 (.slice none 0 0):=⟨by kernel_rfl,by kernel_rfl⟩
noncomputable def XR:Array Field:=match Tryd.prog.underlying 94 with | some (.struct fs)=>fs | _=>#[]
theorem XL:Ty Tryd.prog 94 (.struct XR) 2 32 (.agg #[.int .i64 0,.slice none 0 0]):=⟨by kernel_rfl,by kernel_rfl⟩
end Go.Proofs.YtcmgmkepodbpkaaDoor
namespace Go.Proofs.YtcmgmkepodbpkaaDoor
/-! ## Fields -/
theorem T3 {a b A B:Int}(h0:0<=a) (h1:a<=A) (h2:0<=b) (h3:b<=B):0<=a * b/\a * b<=A * B :=
 ⟨Int.mul_nonneg h0 h2,Int.mul_le_mul h1 h3 h2 (by omega)⟩
/-! ## Products -/
/-! ## The reference's fields -/
section guards
variable {P:Program}{Q:Exit->Act->World->Prop}{F:Frm}{l:List (Nat×Value)}{w:World}{ops:Array Oper}{rest:List Oper}
end guards
section rules
variable {P:Program}{Q:Exit->Act->World->Prop}{F:Frm}{l:List (Nat×Value)}{w:World}{ops:Array Oper}{rest:List Oper}
variable {X:List Oper->Frm->List (Nat×Value)->World->Prop} [inst:Tu P X]
variable {d:Nat}{ty t T e:TypeId}{pos:String}{af:Array Edge}{x y:Operand}{ds dT:TypeDesc}{sz by_ sT bT:Nat}{z zT:Value}
end rules
set_option linter.unusedSimpArgs false
set_option linter.unusedVariables false
set_option linter.unusedSimpArgs false
set_option linter.unusedVariables false
set_option linter.unusedSimpArgs false
set_option linter.unusedVariables false
set_option maxRecDepth 100000 in
theorem U5 (n x y:Int) (a0:Addr) (L c:Nat) (w:World) (hn:0<=n/\n<=64) (hx:0<=x/\x < n) (hy:0<=y/\y < n) (hl:x * n + y < (L:Int)):Ret Tryd.prog 73 #[.agg #[.int .i64 n,.slice (some a0) L c],.int .i64 x,.int .i64 y] w fun v w'=>w.grownBy w' none/\v = .pointer (some (Addr.add a0 ((x * n + y).toNat * 1))):=by
 refine WG Tryd.func73 rfl rfl rfl ?_
 have pw:=OG w
 have h1:=T3 hx.1 (show x<=n - 1 by omega) hn.1 (Int.le_refl n)
 rw [Int.sub_mul,Int.one_mul] at h1
 have h2:=T3 hn.1 hn.2 hn.1 hn.2
 refine T9 ?_
 refine QG ?_
 refine Uo (cs:=[.int .i64 (n),.slice (some a0) L c]) rfl rfl ?_
 intro w2 g1 hg3 hs4 hb5 hn6
 have pw:=Gt pw hn6
 refine Sz (P7 (v:= .pointer none) rfl) rfl rfl rfl ?_
 refine UA ?_
 refine S3 ?_
 refine T9 ?_
 refine QG ?_
 refine Sz (M5 XL (ft:=31) (off:=1) (by kernel_rfl) XG rfl) rfl rfl rfl ?_
 refine Sz (Sp (v:= .slice (some a0) L c) XG rfl rfl (Bk.cell hb5 (i:=1) rfl)) rfl rfl rfl ?_
 refine Sz (Sq (v:= .int .i64 (x)) rfl) rfl rfl rfl ?_
 refine Sz (M5 XL (ft:=3) (off:=0) (by kernel_rfl) ty3 rfl) rfl rfl rfl ?_
 refine Sz (Sp (v:= .int .i64 (n)) ty3 rfl rfl (Bk.cell hb5 (i:=0) rfl)) rfl rfl rfl ?_
 refine Sz (WK rfl rfl (by omega) (by omega)) rfl rfl rfl ?_
 refine Sz (Sq (v:= .int .i64 (y)) rfl) rfl rfl rfl ?_
 refine Sz (WJ rfl rfl (by omega) (by omega)) rfl rfl rfl ?_
 refine Sz (P8 ((x * n) + y).toNat XG ty3 rfl rfl (by omega) (by omega)) rfl rfl rfl ?_
 refine Sz (P7 (v:= .pointer (some (Addr.add a0 (((x * n) + y).toNat * 1)))) rfl) rfl rfl rfl ?_
 refine UA ?_
 refine S3 ?_
 refine WV ?_
 refine Up (v:= .pointer (some (Addr.add a0 (((x * n) + y).toNat * 1)))) rfl rfl rfl ?_
 exact ⟨pw,rfl⟩
/-- What is told of a function that only looks: the frozen memory is that of before. -/
def POk (f:FuncId) (g:List AV->Option AV):Prop:=Bw E0.P f/\∀ xs x,g xs=some x->∀ w Z us,(∀ c,Z c->c < w.heap.size)->VRs w Z [] xs us->Ret E0.P f us.toArray w fun v w'=>w.grownBy w' none/\VR w' Z [] x v
theorem WS {w:World}{Z:Nat->Prop}{R:List RI}{x:AV}{v:Value}(hv:VR w Z [] x v) (hnx:LG x=true):VR w Z R x v:=MH hnx hv
section
variable {E:Env}{ops:Array Oper}{rest rest':List Oper}{K:St->Prop}{n n0 k:Nat}{l:List (Nat×AV)}{hp:Hp}
theorem IE (hP:E.P=E0.P){α β:Type}{s:Cs α}{F:α->Option β}{er:β->AV}{u:α}{v:β}{fid:FuncId}(hX:POk fid (GP s F er)){d:Nat}{f:Operand}{args:Array Operand}{tys:Array TypeId}{ty:TypeId}{pos:String}{af:Array Edge}{g:Option (Nat×Bool)}(hr:rest=⟨some d,.call ⟨.value f,args,tys⟩,ty,pos,af,g⟩::rest') (hw:As ops (Fr n l) ⟨some d,.call ⟨.value f,args,tys⟩,ty,pos,af,g⟩=some true)
  (hf:opA E (Fr n l) f=some (.fn fid [] [])) (ha:Hg (opA E (Fr n l)) args.toList=some (s.enc u)) (hnx:LG (er v)=true) (hF:F u=some v) (kk:RunDS E ops n0 (k + 1) rest' ⟨Fr n ((d,er v)::l),hp⟩ K):RunDS E ops n0 k rest ⟨Fr n l,hp⟩ K:=by
 subst hr
 intro base Q w0 Z R0 h0 a w R hh0 hn0 hT sr hgr st hpre hTk hlen hops q
 have hok:ops[k]? = some ⟨some d,.call ⟨.value f,args,tys⟩,ty,pos,af,g⟩:=by have:=hops 0; simpa using this.symm
 have hops':∀ j,rest'[j]? = ops[k + 1 + j]?:=fun j=>by have:=hops (j + 1); simpa [Nat.add_assoc,Nat.add_comm 1 j] using this
 have hlen':k + 1 + rest'.length=ops.size:=by simp at hlen ⊢; omega
 have hTk':C0 ops=EO rest' (k + 1):=by
  rw [hTk]
  conv=>lhs; unfold EO; rw [if_neg (by simp [isW])]
 refine ⟨fun _=>hgr,?_⟩
 rw [if_pos (wantedA_eq sr hw)]
 have hq:isQ (.call ⟨.value f,args,tys⟩:Op)=false:=rfl
 rw [if_pos (Iw hok hq)]
 have hρ:∀ o x,opA E (Fr n l) o=some x->VR w Z R x (a.eval o):=fun o x e=>opA_vr sr o x e
 have hva:a.eval f = .func (.func fid) #[] #[]:=by
  have:=hρ _ _ hf
  generalize a.eval f=vf at this
  cases this with
  | fn hl hl' hx hy =>
   rename_i u1 u2
   have e1:u1=[]:=by simpa using hl
   have e2:u2=[]:=by simpa using hl'
   subst e1 e2; rfl
 have hcl:Bw E.P fid:=hP ▸ hX.1
 unfold Lw
 rw [Ep (uf:=[]) (uc:=[]) rfl hva rfl hcl w]
 simp only [List.nil_append,List.append_nil]
 have hret:=hX.2 (s.enc u) (er v) (Nh hF) w Z _ sr.hh.zlt (Na (s.nr u) (opds_vr hρ ha))
 rw [<-hP] at hret
 refine Ret.mono hret fun v w' ⟨hg1,hv⟩=>?_
 have stp:Step w Z R hp w' Z R hp:=⟨hg1.os,hg1.tape,hg1.output,hg1.size,fun c hc _=>hg1.block c hc (by simp),fun _ h=> .inl h,fun _ h=>h,fun _ h=> .inl h,fun _ _ h=>h⟩
 have hh':HR w' Z R hp:=sr.hh.keep hg1.size (fun c hc=>hg1.block c hc (by simp))
 have sr':SR E base w' Z R ⟨Fr n l,hp⟩ a:=sr.step hh' stp
 exact kk base Q w0 Z R0 h0 _ w' R hh0 hn0 hT (by have:=sr'.put (d:=some d) (WS hv hnx); rwa [CM] at this) (Gt hgr hg1) (st.trans stp) hpre hTk' hlen' hops' q
end
def Hk (s:Int×List Int) (x y:Int):Option Int:=if 0<=s.1/\s.1<=64/\0<=x/\x < s.1/\0<=y/\y < s.1 then idx s.2 (x * s.1 + y) else none
def My:Cs ((Int×List Int)×Int×Int×Unit):=(csC (EF cdI (cdL 1 cdI) (fun _=>rfl) (fun _=>rfl)) (csC cdI (csC cdI csN)))
def Po (r:Int):AV:= .pe (cdI.enc r) 0
theorem HU:POk 73 (GP My (fun a=>Hk a.1 a.2.1 a.2.2.1) Po):=by
 refine ⟨⟨Tryd.call73⟩,fun xs x h w Z us hz hv=>?_⟩
 obtain ⟨⟨⟨n,cells⟩,p,q,u⟩,ha,hh⟩:=OB h
 obtain ⟨r,hb,rfl⟩:=Option.map_eq_some_iff.1 hh
 clear h hh
 replace hv:=My.vr ha hv
 clear ha
 obtain ⟨u1,r1,rfl,h1,hv1⟩:=hv.head
 obtain ⟨u2,r2,rfl,h2,hv2⟩:=hv1.head
 obtain ⟨u3,r3,rfl,h3,hv3⟩:=hv2.head
 have hr3:r3=[]:=List.eq_nil_of_length_eq_zero hv3.len
 subst hr3
 clear hv hv1 hv2 hv3
 rw [h2.v_inv,h3.v_inv]
 simp only [Hk] at hb
 split at hb
 ·next hc =>
  obtain ⟨c1,c2,c3,c4,c5,c6⟩:=hc
  have hi:0<=p * n + q:=Int.add_nonneg (Int.mul_nonneg c3 c1) c5
  unfold idx at hb
  rw [if_pos hi] at hb
  obtain ⟨hlt,hge⟩:=List.getElem?_eq_some_iff.1 hb
  cases h1 with
  | ag hl hh hx =>
   rename_i us
   match us,hl,hx with
   | [v1,v2],hl0,hx0 =>
    have e1:=(hx0 0 _ v1 rfl rfl).v_inv
    have e2:VR w Z [] (.sl 1 (cells.map cdI.enc)) v2:=hx0 1 _ v2 rfl rfl
    clear hx0 hl0
    rw [e1]
    cases e2 with
    | sl hn hl hc hm ha hx =>
     rename_i c n' A us
     rw [List.length_map] at hn hl
     obtain ⟨a,h1,h2,h3,h4⟩:=ha (by omega)
     have hus:(p * n + q).toNat < us.length:=by omega
     have hu:=List.getElem?_eq_getElem hus
     have e3:=(hx _ (cdI.enc cells[(p * n + q).toNat]) _ (by rw [List.getElem?_map,List.getElem?_eq_getElem hlt]; rfl) hu).v_inv
     rw [hge] at e3
     have h5:=(h4 _ _ hu).2.2 0 (.int .i64 r) (by rw [e3]; rfl)
     subst h1
     have hblk:=hz _ h3
     refine Ret.mono (U5 n p q a n' c w ⟨c1,c2⟩ ⟨c3,c4⟩ ⟨c5,c6⟩ (by omega)) fun v w' ⟨hg,hv⟩=>⟨hg,?_⟩
     subst hv
     have ea:a.add ((p * n + q).toNat * 1)=⟨a.block,a.off + (p * n + q).toNat + 0,none⟩:=by
      cases a
      simp only at h2
      subst h2
      simp [Addr.add]
     rw [ea]
     refine .pe (a:=⟨a.block,a.off + (p * n + q).toNat,none⟩) (u:= .int .i64 r) rfl h3 (fun s hs=>?_) (fun j s hs=>?_) (.v rfl)
     ·have:s = .int .i64 r:=by simpa [Value.cells] using hs
      rw [this]; rfl
     ·match j,hs with
      | 0,hs =>
       have hs':s = .int .i64 r:=by simpa [Value.cells] using hs.symm
       subst hs'
       have h6:w.cell? ⟨a.block,a.off + (p * n + q).toNat + 0,none⟩=some (.int .i64 r):=by
        simpa using h5
       have h7:w'.cell? ⟨a.block,a.off + (p * n + q).toNat + 0,none⟩=w.cell? ⟨a.block,a.off + (p * n + q).toNat + 0,none⟩:=World.cell?_of_block (hg.block _ hblk (by simp))
       exact h7.trans h6
      | j + 1,hs=>simp [Value.cells] at hs
 ·cases hb
/- trestle/evening.gain -/
noncomputable def BW:Env:=E0
theorem C9:EnvOk BW:=BB
noncomputable def D5:Code:=BK Tryd.f111
def IU (x0:(List (List Int))) (x2:Int) (x3:Int) (x5:Int) (v1:(List Int)) (c2:Int) (c3:(List Int)) (c4:Int) (c5:Int) (v7:Int):Option ((Int×(List Int)×Int)) :=
 if (v7 != x2)=true then
 (Hk (c2,c3) x2 v7).bind fun v9 =>
 (Hk (c2,c3) x3 v7).bind fun v10 =>
 some (c2,c3,(wr .i64 (c4 + (wr .i64 ((wr .i64 ((wr .i64 (2 * v9)) - 1)) - (wr .i64 ((wr .i64 (2 * v10)) + 1)))))))
 else
 some (c2,c3,c4)
def Hb (x0:(List (List Int))) (x2:Int) (x3:Int) (x5:Int) (v1:(List Int)):Nat->Int->(List Int)->Int->Int->Option ((Int×(List Int)×Int))
 | 0,_,_,_,_=>none
 | f + 1,c2,c3,c4,c5 =>
  if (decide (c5 < (v1.length:Int)))=true then
  (idx v1 c5).bind fun v7 =>
  (IU x0 x2 x3 x5 v1 c2 c3 c4 c5 v7).bind fun r14 =>
  Hb x0 x2 x3 x5 v1 f r14.1 r14.2.1 r14.2.2 (wr .i64 (c5 + 1))
  else
  some (c2,c3,c4)
def IV (x2:Int) (x3:Int) (v19:(List Int)) (c20:Int) (c21:(List Int)) (c22:Int) (c23:Int) (v25:Int):Option ((Int×(List Int)×Int)) :=
 if (v25 != x3)=true then
 (Hk (c20,c21) x3 v25).bind fun v27 =>
 (Hk (c20,c21) x2 v25).bind fun v28 =>
 some (c20,c21,(wr .i64 (c22 + (wr .i64 ((wr .i64 ((wr .i64 (2 * v27)) - 1)) - (wr .i64 ((wr .i64 (2 * v28)) + 1)))))))
 else
 some (c20,c21,c22)
def Hc (x2:Int) (x3:Int) (v19:(List Int)):Nat->Int->(List Int)->Int->Int->Option ((Int))
 | 0,_,_,_,_=>none
 | f + 1,c20,c21,c22,c23 =>
  if (decide (c23 < (v19.length:Int)))=true then
  (idx v19 c23).bind fun v25 =>
  (IV x2 x3 v19 c20 c21 c22 c23 v25).bind fun r32 =>
  Hc x2 x3 v19 f r32.1 r32.2.1 r32.2.2 (wr .i64 (c23 + 1))
  else
  some c22
def GK (x0:(List (List Int))) (x1:(Int×(List Int))) (x2:Int) (x3:Int) (x4:Int) (x5:Int):Option (Int) :=
 (idx x0 x4).bind fun v1 =>
 (Hb x0 x2 x3 x5 v1 100000 x1.1 x1.2 0 0).bind fun r18 =>
 (idx x0 x5).bind fun v19 =>
 (Hc x2 x3 v19 100000 r18.1 r18.2.1 r18.2.2 0).bind fun r34 =>
 some r34
def GV:Cs ((List (List Int))×(Int×(List Int))×Int×Int×Int×Int×Unit):=(csC (cdL 1 (cdL 1 cdI)) (csC (EF cdI (cdL 1 cdI) (fun _=>rfl) (fun _=>rfl)) (csC cdI (csC cdI (csC cdI (csC cdI csN))))))
def Ge (r:Int):AV:=cdI.enc r
theorem MB (x0:(List (List Int))) (x2:Int) (x3:Int) (x5:Int) (v1:(List Int)) (c2:Int) (c3:(List Int)) (c4:Int) (c5:Int) (v7:Int) (r:(Int×(List Int)×Int)) (h:IU x0 x2 x3 x5 v1 c2 c3 c4 c5 v7=some r):Sem BW ⟨none,false⟩ (pc D5 [1,1,0,1,0,0,1,1,0,0,1,1]) ⟨Fr 83 [(0,.sl 1 (x0.map (cdL 1 cdI).enc)),(2,.v (.int .i64 x2)),(3,.v (.int .i64 x3)),(5,.v (.int .i64 x5)),(7,.pt 0 0 0),(13,.v (.int .i64 c4)),(15,.v (.int .i64 v7)),(21,.sl 1 (v1.map cdI.enc)),(22,.v (.int .i64 (v1.length:Int))),(23,.v (.int .i64 c5)),(29,.v (.bool (v7 != x2)))],[some ⟨2,94,[.ag [.v (.int .i64 c2),.sl 1 (c3.map cdI.enc)]],false⟩]⟩ (fun e s=>e = .normal/\Wk BW s ⟨Fr 83 [(0,.sl 1 (x0.map (cdL 1 cdI).enc)),(2,.v (.int .i64 x2)),(3,.v (.int .i64 x3)),(5,.v (.int .i64 x5)),(7,.pt 0 0 0),(13,.v (.int .i64 r.2.2)),(21,.sl 1 (v1.map cdI.enc)),(22,.v (.int .i64 (v1.length:Int))),(23,.v (.int .i64 c5))],[some ⟨2,94,[.ag [.v (.int .i64 r.1),.sl 1 (r.2.1.map cdI.enc)]],false⟩]⟩):=by
 have he:=C9
 unfold IU at h;refine AU (b:=(v7 != x2)) kr (fun hb8=>?_) (fun hb8=>?_)
 ·rw [if_pos hb8] at h
  obtain ⟨v9,hv9,h⟩:=OB h;obtain ⟨v10,hv10,h⟩:=OB h
  let p1:Option Blk:=some ⟨2,94,[.ag [.v (.int .i64 c2),.sl 1 (c3.map cdI.enc)]],false⟩
  let p2:Nat×AV:=(23,.v (.int .i64 c5))
  let p3:Nat×AV:=(22,.v (.int .i64 (v1.length:Int)))
  let p4:Nat×AV:=(21,.sl 1 (v1.map cdI.enc))
  let p5:Nat×AV:=(13,.v (.int .i64 (wr .i64 (c4 + (wr .i64 ((wr .i64 ((wr .i64 (2 * v9)) - 1)) - (wr .i64 ((wr .i64 (2 * v10)) + 1))))))))
  let p6:Nat×AV:=(7,.pt 0 0 0)
  let p7:Nat×AV:=(5,.v (.int .i64 x5))
  let p8:Nat×AV:=(3,.v (.int .i64 x3))
  let p9:Nat×AV:=(2,.v (.int .i64 x2))
  let p10:Nat×AV:=(0,.sl 1 (x0.map (cdL 1 cdI).enc))
  refine I3 he (s1:=⟨Fr 83 [p10,p9,p8,p7,p6,p5,p4,p3,p2],[p1]⟩) kr ?_ ?_
  ·refine B3 (n:=83) he 4 [p10,p9,p8,p7,p6,(15,.v (.int .i64 v7)),p4,p3,p2,(30,.v (.int .i64 c4)),(31,.ag [.v (.int .i64 c2),.sl 1 (c3.map cdI.enc)]),(32,.v (.int .i64 x2)),(33,.v (.int .i64 v7))] [p1] kr kr ?_
   refine IE rfl HU (u:=((c2,c3),x2,v7,())) rfl (AA rfl) kr kr rfl hv9 ?_;refine B3 (n:=83) he 7 [p10,p9,p8,p7,p6,p4,p3,p2,(30,.v (.int .i64 c4)),(38,.v (.int .i64 (wr .i64 ((wr .i64 (2 * v9)) - 1)))),(39,.ag [.v (.int .i64 c2),.sl 1 (c3.map cdI.enc)]),(40,.v (.int .i64 x3)),(41,.v (.int .i64 v7))] [p1] kr kr ?_;refine IE rfl HU (u:=((c2,c3),x3,v7,())) rfl (AA rfl) kr kr rfl hv10 ?_;refine B3 (n:=83) he 7 [p10,p9,p8,p7,p6,p5,p4,p3,p2] [p1] kr kr ?_;exact RunDS.done rfl (Ac [0] ⟨⟨_,rfl,FW⟩,trivial⟩ ⟨lv,lv,lv,lv,lv,lv,lv,lv,lv,trivial⟩)
  have hq:=OI h; subst hq;exact ⟨rfl,(Ac [0] ⟨⟨_,rfl,FW⟩,trivial⟩ ⟨lv,lv,lv,lv,lv,lv,lv,lv,lv,trivial⟩)⟩
 ·rw [B9 hb8] at h
  refine AX ?_;have hq:=OI h; subst hq;exact ⟨rfl,(Ac [0] ⟨⟨_,rfl,FW⟩,trivial⟩ ⟨lv,lv,lv,lv,lv,lv,lv,lv,lv,trivial⟩)⟩
theorem Mi (x0:(List (List Int))) (x2:Int) (x3:Int) (x5:Int) (v1:(List Int)):∀ (f:Nat) (c2:Int) (c3:(List Int)) (c4:Int) (c5:Int) (r:(Int×(List Int)×Int)),Hb x0 x2 x3 x5 v1 f c2 c3 c4 c5=some r->SemN BW ⟨none,false⟩ (pc D5 [1,1,0,1,0,0]) f ⟨Fr 83 [(0,.sl 1 (x0.map (cdL 1 cdI).enc)),(2,.v (.int .i64 x2)),(3,.v (.int .i64 x3)),(5,.v (.int .i64 x5)),(7,.pt 0 0 0),(13,.v (.int .i64 c4)),(21,.sl 1 (v1.map cdI.enc)),(22,.v (.int .i64 (v1.length:Int))),(23,.v (.int .i64 c5))],[some ⟨2,94,[.ag [.v (.int .i64 c2),.sl 1 (c3.map cdI.enc)]],false⟩]⟩ (fun e s=>e=(.exit 0)/\Wk BW s ⟨Fr 83 [(0,.sl 1 (x0.map (cdL 1 cdI).enc)),(2,.v (.int .i64 x2)),(3,.v (.int .i64 x3)),(5,.v (.int .i64 x5)),(7,.pt 0 0 0),(13,.v (.int .i64 r.2.2))],[some ⟨2,94,[.ag [.v (.int .i64 r.1),.sl 1 (r.2.1.map cdI.enc)]],false⟩]⟩):=by
 have he:=C9
 intro f;induction f with
 | zero=>intro c2 c3 c4 c5 r h; cases h
 | succ f ih0 =>
  intro c2 c3 c4 c5 r h
  have ih:=fun (c2:Int) (c3:(List Int)) (c4:Int) (c5:Int)=>ih0 c2 c3 c4 c5 r
  unfold Hb at h;refine BJ ?_
  let p1:Option Blk:=some ⟨2,94,[.ag [.v (.int .i64 c2),.sl 1 (c3.map cdI.enc)]],false⟩
  let p2:Nat×AV:=(23,.v (.int .i64 c5))
  let p3:Nat×AV:=(22,.v (.int .i64 (v1.length:Int)))
  let p4:Nat×AV:=(21,.sl 1 (v1.map cdI.enc))
  let p5:Nat×AV:=(13,.v (.int .i64 c4))
  let p6:Nat×AV:=(7,.pt 0 0 0)
  let p7:Nat×AV:=(5,.v (.int .i64 x5))
  let p8:Nat×AV:=(3,.v (.int .i64 x3))
  let p9:Nat×AV:=(2,.v (.int .i64 x2))
  let p10:Nat×AV:=(0,.sl 1 (x0.map (cdL 1 cdI).enc))
  refine AN he [p10,p9,p8,p7,p6,p5,p4,p3,p2,(24,.v (.bool (decide (c5 < (v1.length:Int)))))] [p1] ?_;refine AE ?_;refine AU (b:=(decide (c5 < (v1.length:Int)))) kr (fun hb6=>?_) (fun hb6=>?_)
  ·rw [if_pos hb6] at h
   refine AX ?_;refine AE ?_;refine AQ ?_;refine AE ?_;obtain ⟨v7,hv7,h⟩:=OB h;refine AI (s1:=⟨Fr 83 [p10,p9,p8,p7,p6,p5,(15,.v (.int .i64 v7)),p4,p3,p2],[p1]⟩) ?_ ?_
   ·refine AJ he 0 rfl (Am (AA rfl) rfl (AF (a:= .sl 1 (v1.map cdI.enc)) (b:= .v (.int .i64 c5)) kr kr (DT (e:=cdI.enc) (el:=3) (k:=1) (ki:= .i64) kr kr hv7))) ?_
    exact AK he
   refine AN he [p10,p9,p8,p7,p6,p5,(15,.v (.int .i64 v7)),p4,p3,p2,(29,.v (.bool (v7 != x2)))] [p1] ?_;obtain ⟨r14,hr14,h⟩:=OB h;refine Ni (MB x0 x2 x3 x5 v1 c2 c3 c4 c5 v7 _ hr14) ?_
   let p11:Option Blk:=some ⟨2,94,[.ag [.v (.int .i64 r14.1),.sl 1 (r14.2.1.map cdI.enc)]],false⟩
   let p12:Nat×AV:=(23,.v (.int .i64 (wr .i64 (c5 + 1))))
   refine Cq he [p10,p9,p8,p7,p6,(13,.v (.int .i64 r14.2.2)),p4,p3,p12] [p11] ?_;exact Ae (s1:=⟨Fr 83 [p10,p9,p8,p7,p6,(13,.v (.int .i64 r14.2.2)),p4,p3,p12],[p11]⟩) (Ac [0] ⟨⟨_,rfl,FW⟩,trivial⟩ ⟨lv,lv,lv,lv,lv,lv,lv,lv,lv,trivial⟩) (ih r14.1 r14.2.1 r14.2.2 (wr .i64 (c5 + 1)) h)
  ·rw [B9 hb6] at h
   refine Ba ?_;have hq:=OI h; subst hq;exact ⟨rfl,(Ac [0] ⟨⟨_,rfl,FW⟩,trivial⟩ ⟨lv,lv,lv,lv,lv,lv,trivial⟩)⟩
theorem MC (x2:Int) (x3:Int) (v19:(List Int)) (c20:Int) (c21:(List Int)) (c22:Int) (c23:Int) (v25:Int) (r:(Int×(List Int)×Int)) (h:IV x2 x3 v19 c20 c21 c22 c23 v25=some r):Sem BW ⟨none,false⟩ (pc D5 [1,1,1,0,1,0,0,1,1,0,0,1,1]) ⟨Fr 83 [(2,.v (.int .i64 x2)),(3,.v (.int .i64 x3)),(7,.pt 0 0 0),(13,.v (.int .i64 c22)),(17,.v (.int .i64 v25)),(53,.sl 1 (v19.map cdI.enc)),(54,.v (.int .i64 (v19.length:Int))),(55,.v (.int .i64 c23)),(61,.v (.bool (v25 != x3)))],[some ⟨2,94,[.ag [.v (.int .i64 c20),.sl 1 (c21.map cdI.enc)]],false⟩]⟩ (fun e s=>e = .normal/\Wk BW s ⟨Fr 83 [(2,.v (.int .i64 x2)),(3,.v (.int .i64 x3)),(7,.pt 0 0 0),(13,.v (.int .i64 r.2.2)),(53,.sl 1 (v19.map cdI.enc)),(54,.v (.int .i64 (v19.length:Int))),(55,.v (.int .i64 c23))],[some ⟨2,94,[.ag [.v (.int .i64 r.1),.sl 1 (r.2.1.map cdI.enc)]],false⟩]⟩):=by
 have he:=C9
 unfold IV at h;refine AU (b:=(v25 != x3)) kr (fun hb26=>?_) (fun hb26=>?_)
 ·rw [if_pos hb26] at h
  obtain ⟨v27,hv27,h⟩:=OB h;obtain ⟨v28,hv28,h⟩:=OB h
  let p1:Option Blk:=some ⟨2,94,[.ag [.v (.int .i64 c20),.sl 1 (c21.map cdI.enc)]],false⟩
  let p2:Nat×AV:=(55,.v (.int .i64 c23))
  let p3:Nat×AV:=(54,.v (.int .i64 (v19.length:Int)))
  let p4:Nat×AV:=(53,.sl 1 (v19.map cdI.enc))
  let p5:Nat×AV:=(13,.v (.int .i64 (wr .i64 (c22 + (wr .i64 ((wr .i64 ((wr .i64 (2 * v27)) - 1)) - (wr .i64 ((wr .i64 (2 * v28)) + 1))))))))
  let p6:Nat×AV:=(7,.pt 0 0 0)
  let p7:Nat×AV:=(3,.v (.int .i64 x3))
  let p8:Nat×AV:=(2,.v (.int .i64 x2))
  refine I3 he (s1:=⟨Fr 83 [p8,p7,p6,p5,p4,p3,p2],[p1]⟩) kr ?_ ?_
  ·refine B3 (n:=83) he 4 [p8,p7,p6,(17,.v (.int .i64 v25)),p4,p3,p2,(62,.v (.int .i64 c22)),(63,.ag [.v (.int .i64 c20),.sl 1 (c21.map cdI.enc)]),(64,.v (.int .i64 x3)),(65,.v (.int .i64 v25))] [p1] kr kr ?_
   refine IE rfl HU (u:=((c20,c21),x3,v25,())) rfl (AA rfl) kr kr rfl hv27 ?_;refine B3 (n:=83) he 7 [p8,p7,p6,p4,p3,p2,(62,.v (.int .i64 c22)),(70,.v (.int .i64 (wr .i64 ((wr .i64 (2 * v27)) - 1)))),(71,.ag [.v (.int .i64 c20),.sl 1 (c21.map cdI.enc)]),(72,.v (.int .i64 x2)),(73,.v (.int .i64 v25))] [p1] kr kr ?_;refine IE rfl HU (u:=((c20,c21),x2,v25,())) rfl (AA rfl) kr kr rfl hv28 ?_;refine B3 (n:=83) he 7 [p8,p7,p6,p5,p4,p3,p2] [p1] kr kr ?_;exact RunDS.done rfl (Ac [0] ⟨⟨_,rfl,FW⟩,trivial⟩ ⟨lv,lv,lv,lv,lv,lv,lv,trivial⟩)
  have hq:=OI h; subst hq;exact ⟨rfl,(Ac [0] ⟨⟨_,rfl,FW⟩,trivial⟩ ⟨lv,lv,lv,lv,lv,lv,lv,trivial⟩)⟩
 ·rw [B9 hb26] at h
  refine AX ?_;have hq:=OI h; subst hq;exact ⟨rfl,(Ac [0] ⟨⟨_,rfl,FW⟩,trivial⟩ ⟨lv,lv,lv,lv,lv,lv,lv,trivial⟩)⟩
theorem Mj (x2:Int) (x3:Int) (v19:(List Int)):∀ (f:Nat) (c20:Int) (c21:(List Int)) (c22:Int) (c23:Int) (r:(Int)),Hc x2 x3 v19 f c20 c21 c22 c23=some r->SemN BW ⟨none,false⟩ (pc D5 [1,1,1,0,1,0,0]) f ⟨Fr 83 [(2,.v (.int .i64 x2)),(3,.v (.int .i64 x3)),(7,.pt 0 0 0),(13,.v (.int .i64 c22)),(53,.sl 1 (v19.map cdI.enc)),(54,.v (.int .i64 (v19.length:Int))),(55,.v (.int .i64 c23))],[some ⟨2,94,[.ag [.v (.int .i64 c20),.sl 1 (c21.map cdI.enc)]],false⟩]⟩ (fun e s=>e=(.exit 2)/\Wk BW s ⟨Fr 83 [(13,.v (.int .i64 r))],[]⟩):=by
 have he:=C9
 intro f;induction f with
 | zero=>intro c20 c21 c22 c23 r h; cases h
 | succ f ih0 =>
  intro c20 c21 c22 c23 r h
  have ih:=fun (c20:Int) (c21:(List Int)) (c22:Int) (c23:Int)=>ih0 c20 c21 c22 c23 r
  unfold Hc at h;refine BJ ?_
  let p1:Option Blk:=some ⟨2,94,[.ag [.v (.int .i64 c20),.sl 1 (c21.map cdI.enc)]],false⟩
  let p2:Nat×AV:=(55,.v (.int .i64 c23))
  let p3:Nat×AV:=(54,.v (.int .i64 (v19.length:Int)))
  let p4:Nat×AV:=(53,.sl 1 (v19.map cdI.enc))
  let p5:Nat×AV:=(13,.v (.int .i64 c22))
  let p6:Nat×AV:=(7,.pt 0 0 0)
  let p7:Nat×AV:=(3,.v (.int .i64 x3))
  let p8:Nat×AV:=(2,.v (.int .i64 x2))
  refine AN he [p8,p7,p6,p5,p4,p3,p2,(56,.v (.bool (decide (c23 < (v19.length:Int)))))] [p1] ?_;refine AE ?_;refine AU (b:=(decide (c23 < (v19.length:Int)))) kr (fun hb24=>?_) (fun hb24=>?_)
  ·rw [if_pos hb24] at h
   refine AX ?_;refine AE ?_;refine AQ ?_;refine AE ?_;obtain ⟨v25,hv25,h⟩:=OB h;refine AI (s1:=⟨Fr 83 [p8,p7,p6,p5,(17,.v (.int .i64 v25)),p4,p3,p2],[p1]⟩) ?_ ?_
   ·refine AJ he 0 rfl (Am (AA rfl) rfl (AF (a:= .sl 1 (v19.map cdI.enc)) (b:= .v (.int .i64 c23)) kr kr (DT (e:=cdI.enc) (el:=3) (k:=1) (ki:= .i64) kr kr hv25))) ?_
    exact AK he
   refine AN he [p8,p7,p6,p5,(17,.v (.int .i64 v25)),p4,p3,p2,(61,.v (.bool (v25 != x3)))] [p1] ?_;obtain ⟨r32,hr32,h⟩:=OB h;refine Ni (MC x2 x3 v19 c20 c21 c22 c23 v25 _ hr32) ?_
   let p9:Option Blk:=some ⟨2,94,[.ag [.v (.int .i64 r32.1),.sl 1 (r32.2.1.map cdI.enc)]],false⟩
   let p10:Nat×AV:=(55,.v (.int .i64 (wr .i64 (c23 + 1))))
   refine Cq he [p8,p7,p6,(13,.v (.int .i64 r32.2.2)),p4,p3,p10] [p9] ?_;exact Ae (s1:=⟨Fr 83 [p8,p7,p6,(13,.v (.int .i64 r32.2.2)),p4,p3,p10],[p9]⟩) (Ac [0] ⟨⟨_,rfl,FW⟩,trivial⟩ ⟨lv,lv,lv,lv,lv,lv,lv,trivial⟩) (ih r32.1 r32.2.1 r32.2.2 (wr .i64 (c23 + 1)) h)
  ·rw [B9 hb24] at h
   refine Ba ?_;have hq:=OI h; subst hq;exact ⟨rfl,(Ac [] trivial ⟨lv,trivial⟩)⟩
theorem NF (x0:(List (List Int))) (x1:(Int×(List Int))) (x2:Int) (x3:Int) (x4:Int) (x5:Int) (r:Int) (h:GK x0 x1 x2 x3 x4 x5=some r):Sem BW ⟨none,false⟩ D5 ⟨Fr 83 (Av 0 (GV.enc (x0,x1,x2,x3,x4,x5,()))),[]⟩ fun e s'=>(e = .normal\/e = .ret)/\∃ xs,FA BW.P s'.fr s'.hp Tryd.f111.results.toList=some xs/\FZ xs=Ge r:=by
 have he:=C9
 unfold GK at h
 let p1:Nat×AV:=(5,.v (.int .i64 x5))
 let p2:Nat×AV:=(4,.v (.int .i64 x4))
 let p3:Nat×AV:=(3,.v (.int .i64 x3))
 let p4:Nat×AV:=(2,.v (.int .i64 x2))
 let p5:Nat×AV:=(0,.sl 1 (x0.map (cdL 1 cdI).enc))
 refine Bz (DX (s1:=⟨Fr 83 [p5,(1,.ag [.v (.int .i64 x1.1),.sl 1 (x1.2.map cdI.enc)]),p4,p3,p2,p1],[]⟩) Ah ?_)
 let p6:Option Blk:=some ⟨2,94,[.ag [.v (.int .i64 x1.1),.sl 1 (x1.2.map cdI.enc)]],false⟩
 let p7:Nat×AV:=(7,.pt 0 0 0)
 refine AN he [p5,p4,p3,p2,p1,p7] [p6] ?_
 let p8:Nat×AV:=(13,.v (.int .i64 0))
 refine AN he [p5,p4,p3,p2,p1,p7,p8] [p6] ?_;refine AE ?_;refine AE ?_;obtain ⟨v1,hv1,h⟩:=OB h
 let p9:Nat×AV:=(22,.v (.int .i64 (v1.length:Int)))
 let p10:Nat×AV:=(21,.sl 1 (v1.map cdI.enc))
 refine AI (s1:=⟨Fr 83 [p5,p4,p3,p1,p7,p8,p10,p9,(23,.v (.int .i64 0))],[p6]⟩) ?_ ?_
 ·refine AB (n:=83) he 2 [p5,p4,p3,p1,p7,p8,(18,.sl 1 (x0.map (cdL 1 cdI).enc)),(19,.v (.int .i64 x4))] [p6] kr ?_
  refine AJ he 0 rfl (Am (AA rfl) rfl (AF (a:= .sl 1 (x0.map (cdL 1 cdI).enc)) (b:= .v (.int .i64 x4)) kr kr (DT (e:=(cdL 1 cdI).enc) (el:=31) (k:=1) (ki:= .i64) kr kr hv1))) ?_;refine AB (n:=83) he 1 [p5,p4,p3,p1,p7,p8,p10] [p6] kr ?_;refine AJ he 0 rfl (Am (AA rfl) rfl (BZ (a:= .sl 1 (v1.map cdI.enc)) kr (Aw (el:=3) kr))) ?_;exact AK he
 refine AQ ?_;obtain ⟨r18,hr18,h⟩:=OB h;refine Bm (n:=100000) ?_;refine BD (Ae (s1:=⟨Fr 83 [p5,p4,p3,p1,p7,p8,p10,p9,(23,.v (.int .i64 0))],[p6]⟩) (Ac [0] ⟨⟨_,rfl,FW⟩,trivial⟩ ⟨lv,lv,lv,lv,lv,lv,lv,lv,lv,trivial⟩) (Mi x0 x2 x3 x5 v1 _ x1.1 x1.2 0 0 _ hr18)) ?_;refine AE ?_;refine AE ?_;obtain ⟨v19,hv19,h⟩:=OB h
 let p11:Option Blk:=some ⟨2,94,[.ag [.v (.int .i64 r18.1),.sl 1 (r18.2.1.map cdI.enc)]],false⟩
 let p12:Nat×AV:=(54,.v (.int .i64 (v19.length:Int)))
 let p13:Nat×AV:=(53,.sl 1 (v19.map cdI.enc))
 let p14:Nat×AV:=(13,.v (.int .i64 r18.2.2))
 refine AI (s1:=⟨Fr 83 [p4,p3,p7,p14,p13,p12,(55,.v (.int .i64 0))],[p11]⟩) ?_ ?_
 ·refine AB (n:=83) he 2 [p4,p3,p7,p14,(50,.sl 1 (x0.map (cdL 1 cdI).enc)),(51,.v (.int .i64 x5))] [p11] kr ?_
  refine AJ he 0 rfl (Am (AA rfl) rfl (AF (a:= .sl 1 (x0.map (cdL 1 cdI).enc)) (b:= .v (.int .i64 x5)) kr kr (DT (e:=(cdL 1 cdI).enc) (el:=31) (k:=1) (ki:= .i64) kr kr hv19))) ?_;refine AB (n:=83) he 1 [p4,p3,p7,p14,p13] [p11] kr ?_;refine AJ he 0 rfl (Am (AA rfl) rfl (BZ (a:= .sl 1 (v19.map cdI.enc)) kr (Aw (el:=3) kr))) ?_;exact AK he
 refine AQ ?_;obtain ⟨r34,hr34,h⟩:=OB h;refine Bm (n:=100000) ?_;refine BD (Ae (s1:=⟨Fr 83 [p4,p3,p7,p14,p13,p12,(55,.v (.int .i64 0))],[p11]⟩) (Ac [0] ⟨⟨_,rfl,FW⟩,trivial⟩ ⟨lv,lv,lv,lv,lv,lv,lv,trivial⟩) (Mj x2 x3 v19 _ r18.1 r18.2.1 r18.2.2 0 _ hr34)) ?_;refine AN he [(12,.v (.int .i64 r34))] [] ?_;refine An ?_;have hq:=OI h; subst hq;exact ⟨⟨Fr 83 [(12,.v (.int .i64 r34))],[]⟩,Ah,.inr rfl,[.v (.int .i64 r34)],kr,kr⟩
def LQ:List AV->Option AV:=GP GV (fun a=>GK a.1 a.2.1 a.2.2.1 a.2.2.2.1 a.2.2.2.2.1 a.2.2.2.2.2.1) Ge
theorem LX:XOk 111 LQ:=by
 refine EnvOk.x (E:=BW) (Af C9 (fn:=Tryd.f111) (c:=D5) ?h1 ?h2 ⟨Tryd.call111⟩ GV (fun a=>GK a.1 a.2.1 a.2.2.1 a.2.2.2.1 a.2.2.2.2.1 a.2.2.2.2.2.1) Ge (fun a=>(by show 6<=83; decide)) ?h3 ?h4) rfl rfl
 case h1=>kernel_rfl
 case h2=>kernel_rfl
 case h3=>intro b; kernel_rfl
 case h4=>exact fun a b h=>NF a.1 a.2.1 a.2.2.1 a.2.2.2.1 a.2.2.2.2.1 a.2.2.2.2.2.1 b h
/- (trestle/evening.square[int]).at -/
noncomputable def A1:Env:=E0
theorem BQ:EnvOk A1:=BB
noncomputable def Be:Code:=BK Tryd.f73
def Bd (x0:Int) (x1:(List Int)) (x2:Int) (x3:Int):Option (Unit) :=
 (idx x1 (wr .i64 ((wr .i64 (x2 * x0)) + x3))).bind fun _v5 =>
 some ()
theorem CE {L:List Asn}{hp:Hp}(x0:Int) (u0:AV) (x1:(List Int)) (x2:Int) (x3:Int) (r:Unit) (h:Bd x0 x1 x2 x3=some r) (hT:T hp ((own_ (ocL 1 3 (ocV cdI)) u0 x1)::L)):SemY A1 ⟨none,false⟩ Be ⟨Fr 16 (Av 0 [.ag [.v (.int .i64 x0),u0],.v (.int .i64 x2),.v (.int .i64 x3)]),hp⟩ fun x s'=>(x = .normal\/x = .ret)/\∃ ys,FA A1.P s'.fr s'.hp Tryd.f73.results.toList=some ys/\(fun v h'=>v=eAt u0 ((wr .i64 ((wr .i64 (x2 * x0)) + x3)).toNat)/\T h' ((own_ (ocL 1 3 (ocV cdI)) u0 x1)::L)) (FZ ys) s'.hp:=by
 have he:=BQ
 unfold Bd at h;refine Dw (Ef (s1:=⟨Fr 16 [(0,.ag [.v (.int .i64 x0),u0]),(1,.v (.int .i64 x2)),(2,.v (.int .i64 x3))],hp⟩) WkY.f1 ?_);refine AD ?_;refine AC ?_;obtain ⟨e1,hp2,hb3,hT4⟩:=Nm (t:=94) (a:= .ag [.v (.int .i64 x0),u0]) hT (by have hq:=Ee (hT.front 0 rfl); revert hq; generalize u0=zz; intro hq; cases zz <;> first | (exact (Bool.false_ne_true hq.1).elim) | (exact (Bool.false_ne_true hq.2).elim) | skip; all_goals (first | rfl | kernel_rfl | exact rfl));refine AG he 0 rfl (OW (AA rfl) rfl kr (Ua (z:= .ag [.v (.int .i64 x0),u0]) kr hb3)) ?_;refine AS he [(1,.v (.int .i64 x2)),(2,.v (.int .i64 x3)),(3,e1)] ?_;refine AD ?_;refine AC ?_;refine AG he 0 rfl (Am (AA rfl) rfl (IB (a:=e1) kr (Ik (off:=1) hT4 kr))) ?_;refine AG he 0 rfl (Am (AA rfl) rfl (A0 (p:=G6 e1 1) kr (Js (off:=1) (y:=u0) (m:=1) (g:=false) hT4 kr kr kr))) ?_;refine AH he 1 ?_;refine AG he 0 rfl (Am (AA rfl) rfl (IB (a:=e1) kr (Ik (off:=0) hT4 kr))) ?_;refine AG he 0 rfl (Am (AA rfl) rfl (A0 (p:=G6 e1 0) kr (Js (off:=0) (y:= .v (.int .i64 x0)) (m:=1) (g:=false) hT4 kr kr kr))) ?_;refine AH he 3 ?_;obtain ⟨v5,hv5,h⟩:=OB h
 have hT6:=(hT4.front 1 rfl)
 refine AG he 0 rfl (Am (AA rfl) rfl (AF (a:=u0) (b:= .v (.int .i64 (wr .i64 ((wr .i64 (x2 * x0)) + x3)))) kr kr (Lp (bytes:=8) hT6 kr hv5))) ?_
 let p1:Nat×AV:=(6,eAt u0 ((wr .i64 ((wr .i64 (x2 * x0)) + x3)).toNat))
 refine AS he [p1] ?_;refine SemY.ret ?_;have hq:=OI h; subst hq;exact ⟨⟨Fr 16 [p1],hp2⟩,WkY.f1,.inr rfl,[eAt u0 ((wr .i64 ((wr .i64 (x2 * x0)) + x3)).toNat)],kr,⟨rfl,(hT6.front 1 rfl).drop⟩⟩
end Go.Proofs.YtcmgmkepodbpkaaDoor
