/- Lemmas for the proof. -/
import Derived.Test.YtlalcoehgkmhlaaGreatDoorCourtTurnsM1
import Derived.Test.YtlalcoehgkmhlaaGreatDoorCourtTurnsM2
import Derived.Test.YtlalcoehgkmhlaaGreatDoorCourtTurnsM3
import Derived.Test.YtlalcoehgkmhlaaGreatDoorCourtTurnsM4
import Derived.Test.YtlalcoehgkmhlaaGreatDoorCourtTurnsM5
import Derived.Test.YtlalcoehgkmhlaaGreatDoorCourtTurnsM6
set_option maxHeartbeats 4000000
set_option maxRecDepth 100000
namespace Go.Proofs.YtlalcoehgkmhlaaGreatDoor
open Go.RowKit
/- trestle/trestleref03.CheckOne -/
noncomputable def Hb:Code:=BL Tryz.f149
def Eb (x0:(List AF)) (x1:Int):Nat->Int->Option ((Unit) ⊕ (Int))
 | 0,_=>none
 | f + 1,c10 =>
  (idx x0 x1).bind fun v11 =>
  if (decide (c10 < (v11.2.2.2.1.length:Int)))=true then
  (idx x0 x1).bind fun v13 =>
  (idx v13.2.2.2.1 c10).bind fun v14 =>
  (Lh v14).bind fun v15 =>
  if (!v15)=true then
  some (.inr 4)
  else
  Eb x0 x1 f (wr .i64 (c10 + 1))
  else
  some (.inl ())
def Ec (x0:(List AF)) (x1:Int):Nat->Int->Option ((Unit) ⊕ (Int))
 | 0,_=>none
 | f + 1,c20 =>
  (idx x0 x1).bind fun v21 =>
  if (decide (c20 < (v21.2.2.2.1.length:Int)))=true then
  (idx x0 x1).bind fun v23 =>
  if (KA 0 c20 v23.2.2.2.1.length)=true then
  (idx x0 x1).bind fun v25 =>
  (idx v25.2.2.2.1 c20).bind fun v26 =>
  (H7 ((v23.2.2.2.1.take c20.toNat).drop (0:Int).toNat) v26).bind fun v27 =>
  if v27=true then
  some (.inr 5)
  else
  Ec x0 x1 f (wr .i64 (c20 + 1))
  else none
  else
  some (.inl ())
def Ed (x0:(List AF)) (x1:Int):Nat->Int->Option ((Unit) ⊕ (Int))
 | 0,_=>none
 | f + 1,c34 =>
  if (decide (c34 < x1))=true then
  (idx x0 c34).bind fun v36 =>
  (if (v36.1==1)=true then (idx x0 c34).bind fun v37 =>
  (idx x0 x1).bind fun v38 =>
  (H7 v37.2.2.2.1 v38.2.1).bind fun v39 =>
  some v39 else some false).bind fun j41 =>
  if j41=true then
  some (.inr 0)
  else
  Ed x0 x1 f (wr .i64 (c34 + 1))
  else
  some (.inl ())
def HG (x0:(List AF)) (x1:Int):Option (Int) :=
 (idx x0 x1).bind fun v1 =>
 (BX v1).bind fun v2 =>
 if (!v2)=true then
 some 30
 else
 (idx x0 x1).bind fun v4 =>
 (if (!(v4.2.1==[]))=true then (idx x0 x1).bind fun v5 =>
 (Lh v5.2.1).bind fun v6 =>
 some (!v6) else some false).bind fun j8 =>
 if j8=true then
 some 4
 else
 (Eb x0 x1 100000 0).bind fun r18 =>
 match r18 with
 | (.inl w19) =>
  (Ec x0 x1 100000 0).bind fun r30 =>
  match r30 with
  | (.inl w31) =>
   (idx x0 x1).bind fun v32 =>
   if (v32.2.1==[])=true then
   some 0
   else
   (Ed x0 x1 100000 0).bind fun r45 =>
   match r45 with
   | (.inl w46) =>
    some 31
   | (.inr w47) =>
    some w47
  | (.inr w48) =>
   some w48
 | (.inr w49) =>
  some w49
def J9:Cs ((List AF)×Int×Unit):=(csC (cdL 5 AA) (csC cdI csN))
def KG (r:Int):AV:=cdI.enc r
theorem Lc (x0:(List AF)) (x1:Int):∀ (f:Nat) (c10:Int) (r:(Unit) ⊕ (Int)),Eb x0 x1 f c10=some r->SemN E0 ⟨none,false⟩ (pc Hb [1,1,1,0,1,0,0]) f ⟨Fr 105 [(0,.sl 5 (x0.map AA.enc)),(1,.j x1),(5,.j c10)],[]⟩ (fun e s=>match r with
 | (.inl w)=>e=(.exit 0)/\Wk E0 s ⟨Fr 105 [(0,.sl 5 (x0.map AA.enc)),(1,.j x1)],[]⟩
 | (.inr w)=>e = .ret/\Wk E0 s ⟨Fr 105 [(4,.j w)],[]⟩):=by
 intro f;induction f with
 | zero=>intro c10 r h; cases h
 | succ f ih0 =>
  intro c10 r h
  have ih:=fun (c10:Int)=>ih0 c10 r
  unfold Eb at h;refine CI ?_;refine AH ?_;refine AH ?_;obtain ⟨v11,hv11,h⟩:=OB h
  let p1:Nat×AV:=(5,.j c10)
  let p2:Nat×AV:=(1,.j x1)
  let p3:Nat×AV:=(0,.sl 5 (x0.map AA.enc))
  refine AM (s1:=⟨Fr 105 [p3,p2,p1,(36,.b (decide (c10 < (v11.2.2.2.1.length:Int))))],[]⟩) ?_ ?_
  ·refine AD (n:=105) AC 3 [p3,p2,p1,(29,.j c10),(30,.sl 5 (x0.map AA.enc)),(31,.j x1)] [] kr ?_
   refine AZ AC 0 rfl (DR (AB rfl) rfl (AP (a:= .sl 5 (x0.map AA.enc)) (b:= .j x1) kr kr (Di (e:=AA.enc) (el:=60) (k:=5) (ki:= .i64) kr kr hv11))) ?_;refine AD (n:=105) AC 2 [p3,p2,p1,(29,.j c10),(34,.sl 1 (v11.2.2.2.1.map cdS.enc))] [] kr ?_;refine AZ AC 0 rfl (DR (AB rfl) rfl (C3 (a:= .sl 1 (v11.2.2.2.1.map cdS.enc)) kr (Bn (el:=9) kr))) ?_;exact Ad AC
  refine AT (b:=(decide (c10 < (v11.2.2.2.1.length:Int)))) kr (fun hb12=>?_) (fun hb12=>?_)
  ·rw [if_pos hb12] at h
   refine AY ?_;refine AH ?_;refine Al ?_;refine AH ?_;obtain ⟨v13,hv13,h⟩:=OB h;obtain ⟨v14,hv14,h⟩:=OB h;obtain ⟨v15,hv15,h⟩:=OB h;refine AM (s1:=⟨Fr 105 [p3,p2,p1,(48,.b (!v15))],[]⟩) ?_ ?_
   ·refine AD (n:=105) AC 2 [p3,p2,p1,(39,.sl 5 (x0.map AA.enc)),(40,.j x1)] [] kr ?_
    refine AZ AC 0 rfl (DR (AB rfl) rfl (AP (a:= .sl 5 (x0.map AA.enc)) (b:= .j x1) kr kr (Di (e:=AA.enc) (el:=60) (k:=5) (ki:= .i64) kr kr hv13))) ?_;refine AD (n:=105) AC 3 [p3,p2,p1,(43,.sl 1 (v13.2.2.2.1.map cdS.enc)),(44,.j c10)] [] kr ?_;refine AZ AC 0 rfl (DR (AB rfl) rfl (AP (a:= .sl 1 (v13.2.2.2.1.map cdS.enc)) (b:= .j c10) kr kr (Di (e:=cdS.enc) (el:=9) (k:=1) (ki:= .i64) kr kr hv14))) ?_;refine AD (n:=105) AC 1 [p3,p2,p1,(46,.st v14)] [] kr ?_;refine AS (caps:=[]) (xs:=[.st v14]) (u:=(v14,())) rfl rfl R8 rfl (AB rfl) kr kr (AL (AW (c:=cdS) (v:=v14)) Ao) (.inl kr) hv15 ?_;exact Ad AC
   refine AT (b:=(!v15)) kr (fun hb16=>?_) (fun hb16=>?_)
   ·rw [if_pos hb16] at h
    refine AK AC [(4,.j 4)] [] ?_;refine AR ?_;have hq:=OI h; subst hq;exact ⟨rfl,AJ⟩
   ·rw [Bm hb16] at h
    refine AY ?_
    let p4:Nat×AV:=(5,.j (wr .i64 (c10 + 1)))
    refine D1 AC [p3,p2,p4] [] ?_;exact Aq (s1:=⟨Fr 105 [p3,p2,p4],[]⟩) AJ (ih (wr .i64 (c10 + 1)) h)
  ·rw [Bm hb12] at h
   refine C6 ?_;have hq:=OI h; subst hq;exact ⟨rfl,AJ⟩
theorem Le (x0:(List AF)) (x1:Int):∀ (f:Nat) (c20:Int) (r:(Unit) ⊕ (Int)),Ec x0 x1 f c20=some r->SemN E0 ⟨none,false⟩ (pc Hb [1,1,1,1,0,1,0,0]) f ⟨Fr 105 [(0,.sl 5 (x0.map AA.enc)),(1,.j x1),(6,.j c20)],[]⟩ (fun e s=>match r with
 | (.inl w)=>e=(.exit 2)/\Wk E0 s ⟨Fr 105 [(0,.sl 5 (x0.map AA.enc)),(1,.j x1)],[]⟩
 | (.inr w)=>e = .ret/\Wk E0 s ⟨Fr 105 [(4,.j w)],[]⟩):=by
 intro f;induction f with
 | zero=>intro c20 r h; cases h
 | succ f ih0 =>
  intro c20 r h
  have ih:=fun (c20:Int)=>ih0 c20 r
  unfold Ec at h;refine CI ?_;refine AH ?_;refine AH ?_;obtain ⟨v21,hv21,h⟩:=OB h
  let p1:Nat×AV:=(6,.j c20)
  let p2:Nat×AV:=(1,.j x1)
  let p3:Nat×AV:=(0,.sl 5 (x0.map AA.enc))
  refine AM (s1:=⟨Fr 105 [p3,p2,p1,(56,.b (decide (c20 < (v21.2.2.2.1.length:Int))))],[]⟩) ?_ ?_
  ·refine AD (n:=105) AC 3 [p3,p2,p1,(49,.j c20),(50,.sl 5 (x0.map AA.enc)),(51,.j x1)] [] kr ?_
   refine AZ AC 0 rfl (DR (AB rfl) rfl (AP (a:= .sl 5 (x0.map AA.enc)) (b:= .j x1) kr kr (Di (e:=AA.enc) (el:=60) (k:=5) (ki:= .i64) kr kr hv21))) ?_;refine AD (n:=105) AC 2 [p3,p2,p1,(49,.j c20),(54,.sl 1 (v21.2.2.2.1.map cdS.enc))] [] kr ?_;refine AZ AC 0 rfl (DR (AB rfl) rfl (C3 (a:= .sl 1 (v21.2.2.2.1.map cdS.enc)) kr (Bn (el:=9) kr))) ?_;exact Ad AC
  refine AT (b:=(decide (c20 < (v21.2.2.2.1.length:Int)))) kr (fun hb22=>?_) (fun hb22=>?_)
  ·rw [if_pos hb22] at h
   refine AY ?_;refine AH ?_;refine Al ?_;refine AH ?_;obtain ⟨v23,hv23,h⟩:=OB h;by_cases hk24:(KA 0 c20 v23.2.2.2.1.length)=true
   case neg=>rw [if_neg hk24] at h; cases h
   rw [if_pos hk24] at h;obtain ⟨v25,hv25,h⟩:=OB h;obtain ⟨v26,hv26,h⟩:=OB h;obtain ⟨v27,hv27,h⟩:=OB h;refine D5 AC (s1:=⟨Fr 105 [p3,p2,p1,(74,.b v27)],[]⟩) kr ?_ ?_
   ·refine Aa (n:=105) AC 2 [p3,p2,p1,(59,.sl 5 (x0.map AA.enc)),(60,.j x1)] [] kr kr ?_
    refine RunDS.one AC rfl kr (JB kr (AB rfl) rfl (AP (a:= .sl 5 (x0.map AA.enc)) (b:= .j x1) kr kr (Di (e:=AA.enc) (el:=60) (k:=5) (ki:= .i64) kr kr hv23)) kr) ?_;refine Aa (n:=105) AC 3 [p3,p2,p1,(63,.sl 1 (v23.2.2.2.1.map cdS.enc)),(64,.j c20)] [] kr kr ?_;refine RunDS.one AC rfl kr (JB kr (AB rfl) rfl (NH (a:= .sl 1 (v23.2.2.2.1.map cdS.enc)) (l:=none) (u:=(some (.j c20))) (m:=none) kr kr kr rfl (Pe (xs:=v23.2.2.2.1) (e:=cdS.enc) (k:=1) (el:=9) (lo:=0) (hi:=c20) kr kr rfl (Tb (WJ hk24)) hk24)) kr) ?_
    let p4:Nat×AV:=(65,.sl 1 (((v23.2.2.2.1.take c20.toNat).drop (0:Int).toNat).map cdS.enc))
    refine Aa (n:=105) AC 2 [p3,p2,p1,p4,(66,.sl 5 (x0.map AA.enc)),(67,.j x1)] [] kr kr ?_;refine RunDS.one AC rfl kr (JB kr (AB rfl) rfl (AP (a:= .sl 5 (x0.map AA.enc)) (b:= .j x1) kr kr (Di (e:=AA.enc) (el:=60) (k:=5) (ki:= .i64) kr kr hv25)) kr) ?_;refine Aa (n:=105) AC 3 [p3,p2,p1,p4,(70,.sl 1 (v25.2.2.2.1.map cdS.enc)),(71,.j c20)] [] kr kr ?_;refine RunDS.one AC rfl kr (JB kr (AB rfl) rfl (AP (a:= .sl 1 (v25.2.2.2.1.map cdS.enc)) (b:= .j c20) kr kr (Di (e:=cdS.enc) (el:=9) (k:=1) (ki:= .i64) kr kr hv26)) kr) ?_;refine Aa (n:=105) AC 1 [p3,p2,p1,p4,(73,.st v26)] [] kr kr ?_;refine Bx (caps:=[]) (xs:=[.sl 1 (((v23.2.2.2.1.take c20.toNat).drop (0:Int).toNat).map cdS.enc),.st v26]) (u:=(((v23.2.2.2.1.take c20.toNat).drop (0:Int).toNat),v26,())) rfl rfl KN rfl (AB rfl) kr kr (AL (AW (c:=(cdL 1 cdS)) (v:=((v23.2.2.2.1.take c20.toNat).drop (0:Int).toNat))) (AL (AW (c:=cdS) (v:=v26)) Ao)) kr hv27 ?_;exact RunDS.done rfl AJ
   refine AT (b:=v27) kr (fun hb28=>?_) (fun hb28=>?_)
   ·rw [if_pos hb28] at h
    refine AK AC [(4,.j 5)] [] ?_;refine AR ?_;have hq:=OI h; subst hq;exact ⟨rfl,AJ⟩
   ·rw [Bm hb28] at h
    refine AY ?_
    let p5:Nat×AV:=(6,.j (wr .i64 (c20 + 1)))
    refine D1 AC [p3,p2,p5] [] ?_;exact Aq (s1:=⟨Fr 105 [p3,p2,p5],[]⟩) AJ (ih (wr .i64 (c20 + 1)) h)
  ·rw [Bm hb22] at h
   refine C6 ?_;have hq:=OI h; subst hq;exact ⟨rfl,AJ⟩
theorem Lf (x0:(List AF)) (x1:Int):∀ (f:Nat) (c34:Int) (r:(Unit) ⊕ (Int)),Ed x0 x1 f c34=some r->SemN E0 ⟨none,false⟩ (pc Hb [1,1,1,1,1,1,0,1,0,0]) f ⟨Fr 105 [(0,.sl 5 (x0.map AA.enc)),(1,.j x1),(7,.j c34)],[]⟩ (fun e s=>match r with
 | (.inl w)=>e=(.exit 4)/\Wk E0 s ⟨Fr 105 [],[]⟩
 | (.inr w)=>e = .ret/\Wk E0 s ⟨Fr 105 [(4,.j w)],[]⟩):=by
 intro f;induction f with
 | zero=>intro c34 r h; cases h
 | succ f ih0 =>
  intro c34 r h
  have ih:=fun (c34:Int)=>ih0 c34 r
  unfold Ed at h;refine CI ?_;refine AH ?_;refine AK AC [(0,.sl 5 (x0.map AA.enc)),(1,.j x1),(7,.j c34),(83,.b (decide (c34 < x1)))] [] ?_;refine AT (b:=(decide (c34 < x1))) kr (fun hb35=>?_) (fun hb35=>?_)
  ·rw [if_pos hb35] at h
   refine AY ?_;refine AH ?_;refine Al ?_;refine AH ?_;obtain ⟨v36,hv36,h⟩:=OB h;obtain ⟨j41,hj41,h⟩:=OB h;refine D5 AC (s1:=⟨Fr 105 [(0,.sl 5 (x0.map AA.enc)),(1,.j x1),(7,.j c34),(104,.b j41)],[]⟩) kr ?_ ?_
   ·refine Aa (n:=105) AC 2 [(0,.sl 5 (x0.map AA.enc)),(1,.j x1),(7,.j c34),(86,.sl 5 (x0.map AA.enc)),(87,.j c34)] [] kr kr ?_
    refine RunDS.one AC rfl kr (JB kr (AB rfl) rfl (AP (a:= .sl 5 (x0.map AA.enc)) (b:= .j c34) kr kr (Di (e:=AA.enc) (el:=60) (k:=5) (ki:= .i64) kr kr hv36)) kr) ?_;refine Aa (n:=105) AC 4 [(0,.sl 5 (x0.map AA.enc)),(1,.j x1),(7,.j c34),(92,.b (v36.1==1))] [] kr kr ?_;rcases BE (v36.1==1) with hc44 | hc44
    ·rw [if_pos hc44] at hj41
     rw [hc44];refine Aa (n:=105) AC 2 [(0,.sl 5 (x0.map AA.enc)),(1,.j x1),(7,.j c34),(92,.b true),(93,.sl 5 (x0.map AA.enc)),(94,.j c34)] [] kr kr ?_;obtain ⟨v37,hv37,hj41⟩:=OB hj41;refine RunDS.one AC rfl kr (JB kr kr rfl (AP (a:= .sl 5 (x0.map AA.enc)) (b:= .j c34) kr kr (Di (e:=AA.enc) (el:=60) (k:=5) (ki:= .i64) kr kr hv37)) kr) ?_;refine Aa (n:=105) AC 4 [(0,.sl 5 (x0.map AA.enc)),(1,.j x1),(7,.j c34),(92,.b true),(93,.sl 5 (x0.map AA.enc)),(94,.j c34),(95,.pe (AA.enc v37) 0),(96,.pe (AA.enc v37) 3),(97,.sl 1 (v37.2.2.2.1.map cdS.enc)),(98,.sl 5 (x0.map AA.enc)),(99,.j x1)] [] kr kr ?_;obtain ⟨v38,hv38,hj41⟩:=OB hj41;refine RunDS.one AC rfl kr (JB kr kr rfl (AP (a:= .sl 5 (x0.map AA.enc)) (b:= .j x1) kr kr (Di (e:=AA.enc) (el:=60) (k:=5) (ki:= .i64) kr kr hv38)) kr) ?_;refine Aa (n:=105) AC 2 [(0,.sl 5 (x0.map AA.enc)),(1,.j x1),(7,.j c34),(92,.b true),(93,.sl 5 (x0.map AA.enc)),(94,.j c34),(95,.pe (AA.enc v37) 0),(96,.pe (AA.enc v37) 3),(97,.sl 1 (v37.2.2.2.1.map cdS.enc)),(98,.sl 5 (x0.map AA.enc)),(99,.j x1),(100,.pe (AA.enc v38) 0),(101,.pe (AA.enc v38) 1),(102,.st v38.2.1)] [] kr kr ?_;obtain ⟨v39,hv39,hj41⟩:=OB hj41;refine Bx (caps:=[]) (xs:=[.sl 1 (v37.2.2.2.1.map cdS.enc),.st v38.2.1]) (u:=(v37.2.2.2.1,v38.2.1,())) rfl rfl KN rfl kr kr kr (AL (AW (c:=(cdL 1 cdS)) (v:=v37.2.2.2.1)) (AL (AW (c:=cdS) (v:=v38.2.1)) Ao)) kr hv39 ?_;refine Aa (n:=105) AC 1 [(0,.sl 5 (x0.map AA.enc)),(1,.j x1),(7,.j c34),(93,.sl 5 (x0.map AA.enc)),(94,.j c34),(95,.pe (AA.enc v37) 0),(96,.pe (AA.enc v37) 3),(97,.sl 1 (v37.2.2.2.1.map cdS.enc)),(98,.sl 5 (x0.map AA.enc)),(99,.j x1),(100,.pe (AA.enc v38) 0),(101,.pe (AA.enc v38) 1),(102,.st v38.2.1),(103,.b v39),(104,.b v39)] [] kr kr ?_;have hq:=OI hj41; subst hq;exact RunDS.done rfl AJ
    ·rw [Bm hc44] at hj41
     rw [hc44];refine Aa (n:=105) AC 12 [(0,.sl 5 (x0.map AA.enc)),(1,.j x1),(7,.j c34),(93,.tp []),(94,.tp []),(95,.tp []),(96,.tp []),(97,.tp []),(98,.tp []),(99,.tp []),(100,.tp []),(101,.tp []),(102,.tp []),(103,.tp []),(104,.b false)] [] kr kr ?_;have hq:=OI hj41; subst hq;exact RunDS.done rfl AJ
   refine AT (b:=j41) kr (fun hb42=>?_) (fun hb42=>?_)
   ·rw [if_pos hb42] at h
    refine AK AC [(4,.j 0)] [] ?_;refine AR ?_;have hq:=OI h; subst hq;exact ⟨rfl,AJ⟩
   ·rw [Bm hb42] at h
    refine AY ?_;refine D1 AC [(0,.sl 5 (x0.map AA.enc)),(1,.j x1),(7,.j (wr .i64 (c34 + 1)))] [] ?_;exact Aq (s1:=⟨Fr 105 [(0,.sl 5 (x0.map AA.enc)),(1,.j x1),(7,.j (wr .i64 (c34 + 1)))],[]⟩) AJ (ih (wr .i64 (c34 + 1)) h)
  ·rw [Bm hb35] at h
   refine C6 ?_;have hq:=OI h; subst hq;exact ⟨rfl,AJ⟩
theorem Qy (x0:(List AF)) (x1:Int) (r:Int) (h:HG x0 x1=some r):Sem E0 ⟨none,false⟩ Hb ⟨Fr 105 (A6 0 (J9.enc (x0,x1,()))),[]⟩ fun e s'=>(e = .normal\/e = .ret)/\∃ xs,EZ E0.P s'.fr s'.hp Tryz.f149.results.toList=some xs/\Ee xs=KG r:=by
 unfold HG at h;refine Ax (BY (s1:=⟨Fr 105 [(0,.sl 5 (x0.map AA.enc)),(1,.j x1)],[]⟩) AJ ?_);refine AK AC [(0,.sl 5 (x0.map AA.enc)),(1,.j x1)] [] ?_;refine AH ?_;refine AH ?_;obtain ⟨v1,hv1,h⟩:=OB h;obtain ⟨v2,hv2,h⟩:=OB h;refine AM (s1:=⟨Fr 105 [(0,.sl 5 (x0.map AA.enc)),(1,.j x1),(13,.b (!v2))],[]⟩) ?_ ?_
 ·refine AD (n:=105) AC 2 [(0,.sl 5 (x0.map AA.enc)),(1,.j x1),(8,.sl 5 (x0.map AA.enc)),(9,.j x1)] [] kr ?_
  refine AZ AC 0 rfl (DR (AB rfl) rfl (AP (a:= .sl 5 (x0.map AA.enc)) (b:= .j x1) kr kr (Di (e:=AA.enc) (el:=60) (k:=5) (ki:= .i64) kr kr hv1))) ?_;refine AD (n:=105) AC 1 [(0,.sl 5 (x0.map AA.enc)),(1,.j x1),(11,AA.enc v1)] [] kr ?_;refine AS (caps:=[]) (xs:=[AA.enc v1]) (u:=(v1,())) rfl rfl Us rfl (AB rfl) kr kr (AL (AW (c:=AA) (v:=v1)) Ao) (.inl kr) hv2 ?_;exact Ad AC
 refine AT (b:=(!v2)) kr (fun hb3=>?_) (fun hb3=>?_)
 ·rw [if_pos hb3] at h
  refine AK AC [(4,.j 30)] [] ?_;refine AR ?_;have hq:=OI h; subst hq;exact ⟨⟨Fr 105 [(4,.j 30)],[]⟩,AJ,.inr rfl,[.j 30],kr,kr⟩
 ·rw [Bm hb3] at h
  refine AY ?_;refine AH ?_;refine AH ?_;obtain ⟨v4,hv4,h⟩:=OB h;obtain ⟨j8,hj8,h⟩:=OB h;refine AM (s1:=⟨Fr 105 [(0,.sl 5 (x0.map AA.enc)),(1,.j x1),(28,.b j8)],[]⟩) ?_ ?_
  ·refine AD (n:=105) AC 2 [(0,.sl 5 (x0.map AA.enc)),(1,.j x1),(14,.sl 5 (x0.map AA.enc)),(15,.j x1)] [] kr ?_
   refine AZ AC 0 rfl (DR (AB rfl) rfl (AP (a:= .sl 5 (x0.map AA.enc)) (b:= .j x1) kr kr (Di (e:=AA.enc) (el:=60) (k:=5) (ki:= .i64) kr kr hv4))) ?_;refine AD (n:=105) AC 4 [(0,.sl 5 (x0.map AA.enc)),(1,.j x1),(20,.b (!(v4.2.1==[])))] [] kr ?_;rcases BE (!(v4.2.1==[])) with hc50 | hc50
   ·rw [if_pos hc50] at hj8
    rw [hc50];refine AD (n:=105) AC 2 [(0,.sl 5 (x0.map AA.enc)),(1,.j x1),(20,.b true),(21,.sl 5 (x0.map AA.enc)),(22,.j x1)] [] kr ?_;obtain ⟨v5,hv5,hj8⟩:=OB hj8;refine AZ AC 0 rfl (DR kr rfl (AP (a:= .sl 5 (x0.map AA.enc)) (b:= .j x1) kr kr (Di (e:=AA.enc) (el:=60) (k:=5) (ki:= .i64) kr kr hv5))) ?_;refine AD (n:=105) AC 2 [(0,.sl 5 (x0.map AA.enc)),(1,.j x1),(20,.b true),(25,.st v5.2.1)] [] kr ?_;obtain ⟨v6,hv6,hj8⟩:=OB hj8;refine AS (caps:=[]) (xs:=[.st v5.2.1]) (u:=(v5.2.1,())) rfl rfl R8 rfl kr kr kr (AL (AW (c:=cdS) (v:=v5.2.1)) Ao) (.inl kr) hv6 ?_;refine AD (n:=105) AC 2 [(0,.sl 5 (x0.map AA.enc)),(1,.j x1),(28,.b (!v6))] [] kr ?_;have hq:=OI hj8; subst hq;exact AI rfl AJ
   ·rw [Bm hc50] at hj8
    rw [hc50];refine AD (n:=105) AC 8 [(0,.sl 5 (x0.map AA.enc)),(1,.j x1),(28,.b false)] [] kr ?_;have hq:=OI hj8; subst hq;exact AI rfl AJ
  refine AT (b:=j8) kr (fun hb9=>?_) (fun hb9=>?_)
  ·rw [if_pos hb9] at h
   refine AK AC [(4,.j 4)] [] ?_;refine AR ?_;have hq:=OI h; subst hq;exact ⟨⟨Fr 105 [(4,.j 4)],[]⟩,AJ,.inr rfl,[.j 4],kr,kr⟩
  ·rw [Bm hb9] at h
   refine AY ?_;refine AH ?_;refine AK AC [(0,.sl 5 (x0.map AA.enc)),(1,.j x1),(5,.j 0)] [] ?_;refine Al ?_;obtain ⟨r18,hr18,h⟩:=OB h;refine DB (n:=100000) ?_;rcases r18 with w19 | w49
   ·try dsimp only at h
    refine BB (Aq (s1:=⟨Fr 105 [(0,.sl 5 (x0.map AA.enc)),(1,.j x1),(5,.j 0)],[]⟩) AJ (Lc x0 x1 _ 0 _ hr18)) ?_;refine AH ?_;refine AK AC [(0,.sl 5 (x0.map AA.enc)),(1,.j x1),(6,.j 0)] [] ?_;refine Al ?_;obtain ⟨r30,hr30,h⟩:=OB h;refine DB (n:=100000) ?_;rcases r30 with w31 | w48
    ·try dsimp only at h
     refine BB (Aq (s1:=⟨Fr 105 [(0,.sl 5 (x0.map AA.enc)),(1,.j x1),(6,.j 0)],[]⟩) AJ (Le x0 x1 _ 0 _ hr30)) ?_;refine AH ?_;refine AH ?_;obtain ⟨v32,hv32,h⟩:=OB h;refine AM (s1:=⟨Fr 105 [(0,.sl 5 (x0.map AA.enc)),(1,.j x1),(80,.b (v32.2.1==[]))],[]⟩) ?_ ?_
     ·refine AD (n:=105) AC 2 [(0,.sl 5 (x0.map AA.enc)),(1,.j x1),(75,.sl 5 (x0.map AA.enc)),(76,.j x1)] [] kr ?_
      refine AZ AC 0 rfl (DR (AB rfl) rfl (AP (a:= .sl 5 (x0.map AA.enc)) (b:= .j x1) kr kr (Di (e:=AA.enc) (el:=60) (k:=5) (ki:= .i64) kr kr hv32))) ?_;exact Ad AC
     refine AT (b:=(v32.2.1==[])) kr (fun hb33=>?_) (fun hb33=>?_)
     ·rw [if_pos hb33] at h
      refine AK AC [(4,.j 0)] [] ?_;refine AR ?_;have hq:=OI h; subst hq;exact ⟨⟨Fr 105 [(4,.j 0)],[]⟩,AJ,.inr rfl,[.j 0],kr,kr⟩
     ·rw [Bm hb33] at h
      refine AY ?_;refine AH ?_;refine AK AC [(0,.sl 5 (x0.map AA.enc)),(1,.j x1),(7,.j 0)] [] ?_;refine Al ?_;obtain ⟨r45,hr45,h⟩:=OB h;refine DB (n:=100000) ?_;rcases r45 with w46 | w47
      ·try dsimp only at h
       refine BB (Aq (s1:=⟨Fr 105 [(0,.sl 5 (x0.map AA.enc)),(1,.j x1),(7,.j 0)],[]⟩) AJ (Lf x0 x1 _ 0 _ hr45)) ?_;refine AK AC [(4,.j 31)] [] ?_;refine AR ?_;have hq:=OI h; subst hq;exact ⟨⟨Fr 105 [(4,.j 31)],[]⟩,AJ,.inr rfl,[.j 31],kr,kr⟩
      ·try dsimp only at h
       refine BB (Aq (s1:=⟨Fr 105 [(0,.sl 5 (x0.map AA.enc)),(1,.j x1),(7,.j 0)],[]⟩) AJ (Lf x0 x1 _ 0 _ hr45)) ?_;have hq:=OI h; subst hq;exact ⟨⟨Fr 105 [(4,.j w47)],[]⟩,AJ,.inr rfl,[.j w47],kr,kr⟩
    ·try dsimp only at h
     refine BB (Aq (s1:=⟨Fr 105 [(0,.sl 5 (x0.map AA.enc)),(1,.j x1),(6,.j 0)],[]⟩) AJ (Le x0 x1 _ 0 _ hr30)) ?_;have hq:=OI h; subst hq;exact ⟨⟨Fr 105 [(4,.j w48)],[]⟩,AJ,.inr rfl,[.j w48],kr,kr⟩
   ·try dsimp only at h
    refine BB (Aq (s1:=⟨Fr 105 [(0,.sl 5 (x0.map AA.enc)),(1,.j x1),(5,.j 0)],[]⟩) AJ (Lc x0 x1 _ 0 _ hr18)) ?_;have hq:=OI h; subst hq;exact ⟨⟨Fr 105 [(4,.j w49)],[]⟩,AJ,.inr rfl,[.j w49],kr,kr⟩
def Sg:List AV->Option AV:=ES J9 (fun a=>HG a.1 a.2.1) KG
theorem So:XOk 149 Sg:=by
 refine AU Tryz.func149 (c:=Hb) ?h2 ⟨Tryz.call149⟩ J9 (fun a=>HG a.1 a.2.1) KG (fun a=>(by show 2<=105; decide)) ?h3 ?h4
 case h2=>kernel_rfl
 case h3=>intro b; kernel_rfl
 case h4=>exact fun a b h=>Qy a.1 a.2.1 b h
/- trestle/trestleref03.Check -/
noncomputable def M3:Code:=BL Tryz.f115
def GN (x0:(List AF)):Nat->Int->Option ((Unit) ⊕ (Int×Int))
 | 0,_=>none
 | f + 1,c2 =>
  if (decide (c2 < (x0.length:Int)))=true then
  (HG x0 c2).bind fun v4 =>
  if (v4 != 0)=true then
  some (.inr (c2,v4))
  else
  GN x0 f (wr .i64 (c2 + 1))
  else
  some (.inl ())
def JC (x0:(List AF)):Option (Int×Int) :=
 if (decide ((x0.length:Int) > 32))=true then
 some (0,7)
 else
 (GN x0 100000 0).bind fun r8 =>
 match r8 with
 | (.inl w9) =>
  some (0,0)
 | (.inr w10) =>
  some (w10.1,w10.2)
def M9:Cs ((List AF)×Unit):=(csC (cdL 5 AA) csN)
def NF (r:Int×Int):AV:= .tp [cdI.enc r.1,cdI.enc r.2]
theorem Nb (x0:(List AF)):∀ (f:Nat) (c2:Int) (r:(Unit) ⊕ (Int×Int)),GN x0 f c2=some r->SemN E0 ⟨none,false⟩ (pc M3 [1,1,0,1,0,0]) f ⟨Fr 22 [(0,.sl 5 (x0.map AA.enc)),(4,.j c2)],[]⟩ (fun e s=>match r with
 | (.inl w)=>e=(.exit 0)/\Wk E0 s ⟨Fr 22 [],[]⟩
 | (.inr w)=>e = .ret/\Wk E0 s ⟨Fr 22 [(2,.j w.1),(3,.j w.2)],[]⟩):=by
 intro f;induction f with
 | zero=>intro c2 r h; cases h
 | succ f ih0 =>
  intro c2 r h
  have ih:=fun (c2:Int)=>ih0 c2 r
  unfold GN at h;refine CI ?_;refine AH ?_;refine AH ?_
  let p1:Nat×AV:=(4,.j c2)
  let p2:Nat×AV:=(0,.sl 5 (x0.map AA.enc))
  refine AM (s1:=⟨Fr 22 [p2,p1,(12,.b (decide (c2 < (x0.length:Int))))],[]⟩) ?_ ?_
  ·refine AD (n:=22) AC 2 [p2,p1,(9,.j c2),(10,.sl 5 (x0.map AA.enc))] [] kr ?_
   refine AZ AC 0 rfl (DR (AB rfl) rfl (C3 (a:= .sl 5 (x0.map AA.enc)) kr (Bn (el:=60) kr))) ?_;exact Ad AC
  refine AT (b:=(decide (c2 < (x0.length:Int)))) kr (fun hb3=>?_) (fun hb3=>?_)
  ·rw [if_pos hb3] at h
   refine AY ?_;refine AH ?_;refine Al ?_;refine AH ?_;obtain ⟨v4,hv4,h⟩:=OB h;refine AM (s1:=⟨Fr 22 [p2,p1,(5,.j v4)],[]⟩) ?_ ?_
   ·refine AD (n:=22) AC 2 [p2,p1,(15,.sl 5 (x0.map AA.enc)),(16,.j c2)] [] kr ?_
    refine AS (caps:=[]) (xs:=[.sl 5 (x0.map AA.enc),.j c2]) (u:=(x0,c2,())) rfl rfl So rfl (AB rfl) kr kr (AL (AW (c:=(cdL 5 AA)) (v:=x0)) (AL (AW (c:=cdI) (v:=c2)) Ao)) (.inl kr) hv4 ?_;exact Ad AC
   refine AK AC [p2,p1,(5,.j v4),(19,.b (v4 != 0))] [] ?_;refine AT (b:=(v4 != 0)) kr (fun hb5=>?_) (fun hb5=>?_)
   ·rw [if_pos hb5] at h
    refine AK AC [(2,.j c2),(3,.j v4)] [] ?_;refine AR ?_;have hq:=OI h; subst hq;exact ⟨rfl,AJ⟩
   ·rw [Bm hb5] at h
    refine AY ?_
    let p3:Nat×AV:=(4,.j (wr .i64 (c2 + 1)))
    refine D1 AC [p2,p3] [] ?_;exact Aq (s1:=⟨Fr 22 [p2,p3],[]⟩) AJ (ih (wr .i64 (c2 + 1)) h)
  ·rw [Bm hb3] at h
   refine C6 ?_;have hq:=OI h; subst hq;exact ⟨rfl,AJ⟩
theorem Tf (x0:(List AF)) (r:Int×Int) (h:JC x0=some r):Sem E0 ⟨none,false⟩ M3 ⟨Fr 22 (A6 0 (M9.enc (x0,()))),[]⟩ fun e s'=>(e = .normal\/e = .ret)/\∃ xs,EZ E0.P s'.fr s'.hp Tryz.f115.results.toList=some xs/\Ee xs=NF r:=by
 unfold JC at h
 let p1:Nat×AV:=(0,.sl 5 (x0.map AA.enc))
 refine Ax (BY (s1:=⟨Fr 22 [p1],[]⟩) AJ ?_);refine AK AC [p1] [] ?_;refine AH ?_;refine AH ?_;refine AM (s1:=⟨Fr 22 [p1,(8,.b (decide ((x0.length:Int) > 32)))],[]⟩) ?_ ?_
 ·refine AD (n:=22) AC 1 [p1,(6,.sl 5 (x0.map AA.enc))] [] kr ?_
  refine AZ AC 0 rfl (DR (AB rfl) rfl (C3 (a:= .sl 5 (x0.map AA.enc)) kr (Bn (el:=60) kr))) ?_;exact Ad AC
 refine AT (b:=(decide ((x0.length:Int) > 32))) kr (fun hb1=>?_) (fun hb1=>?_)
 ·rw [if_pos hb1] at h
  refine AK AC [(2,.j 0),(3,.j 7)] [] ?_;refine AR ?_;have hq:=OI h; subst hq;exact ⟨⟨Fr 22 [(2,.j 0),(3,.j 7)],[]⟩,AJ,.inr rfl,[.j 0,.j 7],kr,kr⟩
 ·rw [Bm hb1] at h
  refine AY ?_;refine AH ?_
  let p2:Nat×AV:=(4,.j 0)
  refine AK AC [p1,p2] [] ?_;refine Al ?_;obtain ⟨r8,hr8,h⟩:=OB h;refine DB (n:=100000) ?_;rcases r8 with w9 | w10
  ·try dsimp only at h
   refine BB (Aq (s1:=⟨Fr 22 [p1,p2],[]⟩) AJ (Nb x0 _ 0 _ hr8)) ?_;refine AK AC [(2,.j 0),(3,.j 0)] [] ?_;refine AR ?_;have hq:=OI h; subst hq;exact ⟨⟨Fr 22 [(2,.j 0),(3,.j 0)],[]⟩,AJ,.inr rfl,[.j 0,.j 0],kr,kr⟩
  ·try dsimp only at h
   refine BB (Aq (s1:=⟨Fr 22 [p1,p2],[]⟩) AJ (Nb x0 _ 0 _ hr8)) ?_;have hq:=OI h; subst hq;exact ⟨⟨Fr 22 [(2,.j w10.1),(3,.j w10.2)],[]⟩,AJ,.inr rfl,[.j w10.1,.j w10.2],kr,kr⟩
def V1:List AV->Option AV:=ES M9 (fun a=>JC a.1) NF
theorem V9:XOk 115 V1:=by
 refine AU Tryz.func115 (c:=M3) ?h2 ⟨Tryz.call115⟩ M9 (fun a=>JC a.1) NF (fun a=>(by show 1<=22; decide)) ?h3 ?h4
 case h2=>kernel_rfl
 case h3=>intro b; kernel_rfl
 case h4=>exact fun a b h=>Tf a.1 b h
/- trestle/trestleref03.rank -/
noncomputable def Ni:Code:=BL Tryz.f169
def HA (x0:(List (List UInt8))) (x1:(List UInt8)):Nat->Int->Option ((Unit) ⊕ (Int))
 | 0,_=>none
 | f + 1,c1 =>
  if (decide (c1 < (x0.length:Int)))=true then
  (idx x0 c1).bind fun v3 =>
  if (v3==x1)=true then
  some (.inr c1)
  else
  HA x0 x1 f (wr .i64 (c1 + 1))
  else
  some (.inl ())
def JI (x0:(List (List UInt8))) (x1:(List UInt8)):Option (Int) :=
 (HA x0 x1 100000 0).bind fun r6 =>
 match r6 with
 | (.inl w7) =>
  some (x0.length:Int)
 | (.inr w8) =>
  some w8
def Np:Cs ((List (List UInt8))×(List UInt8)×Unit):=(csC (cdL 1 cdS) (csC cdS csN))
def Ny (r:Int):AV:=cdI.enc r
theorem OX (x0:(List (List UInt8))) (x1:(List UInt8)):∀ (f:Nat) (c1:Int) (r:(Unit) ⊕ (Int)),HA x0 x1 f c1=some r->SemN E0 ⟨none,false⟩ (pc Ni [1,0,1,0,0]) f ⟨Fr 21 [(0,.sl 1 (x0.map cdS.enc)),(1,.st x1),(5,.j c1)],[]⟩ (fun e s=>match r with
 | (.inl w)=>e=(.exit 0)/\Wk E0 s ⟨Fr 21 [(0,.sl 1 (x0.map cdS.enc))],[]⟩
 | (.inr w)=>e = .ret/\Wk E0 s ⟨Fr 21 [(4,.j w)],[]⟩):=by
 intro f;induction f with
 | zero=>intro c1 r h; cases h
 | succ f ih0 =>
  intro c1 r h
  have ih:=fun (c1:Int)=>ih0 c1 r
  unfold HA at h;refine CI ?_;refine AH ?_;refine AH ?_
  let p1:Nat×AV:=(5,.j c1)
  let p2:Nat×AV:=(0,.sl 1 (x0.map cdS.enc))
  refine AM (s1:=⟨Fr 21 [p2,(1,.st x1),p1,(9,.b (decide (c1 < (x0.length:Int))))],[]⟩) ?_ ?_
  ·refine AD (n:=21) AC 2 [p2,(1,.st x1),p1,(6,.j c1),(7,.sl 1 (x0.map cdS.enc))] [] kr ?_
   refine AZ AC 0 rfl (DR (AB rfl) rfl (C3 (a:= .sl 1 (x0.map cdS.enc)) kr (Bn (el:=9) kr))) ?_;exact Ad AC
  refine AT (b:=(decide (c1 < (x0.length:Int)))) kr (fun hb2=>?_) (fun hb2=>?_)
  ·rw [if_pos hb2] at h
   refine AY ?_;refine AH ?_;refine Al ?_;refine AH ?_;obtain ⟨v3,hv3,h⟩:=OB h;refine AM (s1:=⟨Fr 21 [p2,(1,.st x1),p1,(17,.b (v3==x1))],[]⟩) ?_ ?_
   ·refine AD (n:=21) AC 2 [p2,(1,.st x1),p1,(12,.sl 1 (x0.map cdS.enc)),(13,.j c1)] [] kr ?_
    refine AZ AC 0 rfl (DR (AB rfl) rfl (AP (a:= .sl 1 (x0.map cdS.enc)) (b:= .j c1) kr kr (Di (e:=cdS.enc) (el:=9) (k:=1) (ki:= .i64) kr kr hv3))) ?_;exact Ad AC
   refine AT (b:=(v3==x1)) kr (fun hb4=>?_) (fun hb4=>?_)
   ·rw [if_pos hb4] at h
    refine AK AC [(4,.j c1)] [] ?_;refine AR ?_;have hq:=OI h; subst hq;exact ⟨rfl,AJ⟩
   ·rw [Bm hb4] at h
    refine AY ?_
    let p3:Nat×AV:=(5,.j (wr .i64 (c1 + 1)))
    refine D1 AC [p2,(1,.st x1),p3] [] ?_;exact Aq (s1:=⟨Fr 21 [p2,(1,.st x1),p3],[]⟩) AJ (ih (wr .i64 (c1 + 1)) h)
  ·rw [Bm hb2] at h
   refine C6 ?_;have hq:=OI h; subst hq;exact ⟨rfl,AJ⟩
theorem Ub (x0:(List (List UInt8))) (x1:(List UInt8)) (r:Int) (h:JI x0 x1=some r):Sem E0 ⟨none,false⟩ Ni ⟨Fr 21 (A6 0 (Np.enc (x0,x1,()))),[]⟩ fun e s'=>(e = .normal\/e = .ret)/\∃ xs,EZ E0.P s'.fr s'.hp Tryz.f169.results.toList=some xs/\Ee xs=Ny r:=by
 unfold JI at h
 let p1:Nat×AV:=(0,.sl 1 (x0.map cdS.enc))
 refine Ax (BY (s1:=⟨Fr 21 [p1,(1,.st x1)],[]⟩) AJ ?_);refine AK AC [p1,(1,.st x1)] [] ?_;refine AH ?_
 let p2:Nat×AV:=(5,.j 0)
 refine AK AC [p1,(1,.st x1),p2] [] ?_;refine Al ?_;obtain ⟨r6,hr6,h⟩:=OB h;refine DB (n:=100000) ?_;rcases r6 with w7 | w8
 ·try dsimp only at h
  refine BB (Aq (s1:=⟨Fr 21 [p1,(1,.st x1),p2],[]⟩) AJ (OX x0 x1 _ 0 _ hr6)) ?_;refine AH ?_
  let p3:Nat×AV:=(4,.j (x0.length:Int))
  refine AM (s1:=⟨Fr 21 [p3],[]⟩) ?_ ?_
  ·refine AD (n:=21) AC 1 [(19,.sl 1 (x0.map cdS.enc))] [] kr ?_
   refine AZ AC 0 rfl (DR (AB rfl) rfl (C3 (a:= .sl 1 (x0.map cdS.enc)) kr (Bn (el:=9) kr))) ?_;exact Ad AC
  refine AR ?_;have hq:=OI h; subst hq;exact ⟨⟨Fr 21 [p3],[]⟩,AJ,.inr rfl,[.j (x0.length:Int)],kr,kr⟩
 ·try dsimp only at h
  refine BB (Aq (s1:=⟨Fr 21 [p1,(1,.st x1),p2],[]⟩) AJ (OX x0 x1 _ 0 _ hr6)) ?_;have hq:=OI h; subst hq;exact ⟨⟨Fr 21 [(4,.j w8)],[]⟩,AJ,.inr rfl,[.j w8],kr,kr⟩
def Wv:List AV->Option AV:=ES Np (fun a=>JI a.1 a.2.1) Ny
theorem SI:XOk 169 Wv:=by
 refine AU Tryz.func169 (c:=Ni) ?h2 ⟨Tryz.call169⟩ Np (fun a=>JI a.1 a.2.1) Ny (fun a=>(by show 2<=21; decide)) ?h3 ?h4
 case h2=>kernel_rfl
 case h3=>intro b; kernel_rfl
 case h4=>exact fun a b h=>Ub a.1 a.2.1 b h
/- trestle/trestleref03.key -/
noncomputable def SE:Code:=BL Tryz.f171
def MT (x0:Int) (x1:Int):Option (Int) :=
 some ((wr .i64 ((wr .i64 (x0 * (wr .i64 ((wr .i64 (x1 + x1)) + 1)))) + x1)).tmod 64)
def O2:Cs (Int×Int×Unit):=(csC cdI (csC cdI csN))
def O8 (r:Int):AV:=cdI.enc r
theorem Vo (x0:Int) (x1:Int) (r:Int) (h:MT x0 x1=some r):Sem E0 ⟨none,false⟩ SE ⟨Fr 14 (A6 0 (O2.enc (x0,x1,()))),[]⟩ fun e s'=>(e = .normal\/e = .ret)/\∃ xs,EZ E0.P s'.fr s'.hp Tryz.f171.results.toList=some xs/\Ee xs=O8 r:=by
 unfold MT at h;refine Ax (BY (s1:=⟨Fr 14 [(0,.j x0),(1,.j x1)],[]⟩) AJ ?_);refine AK AC [(0,.j x0),(1,.j x1)] [] ?_
 let p1:Nat×AV:=(4,.j ((wr .i64 ((wr .i64 (x0 * (wr .i64 ((wr .i64 (x1 + x1)) + 1)))) + x1)).tmod 64))
 refine AK AC [p1] [] ?_;refine AR ?_;have hq:=OI h; subst hq;exact ⟨⟨Fr 14 [p1],[]⟩,AJ,.inr rfl,[.j ((wr .i64 ((wr .i64 (x0 * (wr .i64 ((wr .i64 (x1 + x1)) + 1)))) + x1)).tmod 64)],kr,kr⟩
def Xk:List AV->Option AV:=ES O2 (fun a=>MT a.1 a.2.1) O8
theorem UQ:XOk 171 Xk:=by
 refine AU Tryz.func171 (c:=SE) ?h2 ⟨Tryz.call171⟩ O2 (fun a=>MT a.1 a.2.1) O8 (fun a=>(by show 2<=14; decide)) ?h3 ?h4
 case h2=>kernel_rfl
 case h3=>intro b; kernel_rfl
 case h4=>exact fun a b h=>Vo a.1 a.2.1 b h
/- trestle/trestleref03.named -/
noncomputable def M4:Code:=BL Tryz.f172
def GO (x0:AF) (x1:An):Nat->Int->Option ((Unit) ⊕ (Bool))
 | 0,_=>none
 | f + 1,c5 =>
  if (decide (c5 < (x1.2.2.2.2.2.2.2.2.length:Int)))=true then
  (idx x1.2.2.2.2.2.2.2.2 c5).bind fun v7 =>
  (H7 x0.2.2.2.1 v7).bind fun v8 =>
  if v8=true then
  some (.inr true)
  else
  GO x0 x1 f (wr .i64 (c5 + 1))
  else
  some (.inl ())
def HH (x0:AF) (x1:An):Option (Bool) :=
 if (x0.1==4)=true then
 some (x1.2.2.2.2.1==x0.2.2.2.2)
 else
 if (x0.1==5)=true then
 some x1.2.2.2.2.2.2.1
 else
 if (x0.1==7)=true then
 (H7 x0.2.2.2.1 x1.2.2.1).bind fun v4 =>
 some v4
 else
 (GO x0 x1 100000 0).bind fun r11 =>
 match r11 with
 | (.inl w12) =>
  some false
 | (.inr w13) =>
  some w13
def NA:Cs (AF×An×Unit):=(csC AA (csC AE csN))
def NG (r:Bool):AV:=cdB.enc r
theorem Nc (x0:AF) (x1:An):∀ (f:Nat) (c5:Int) (r:(Unit) ⊕ (Bool)),GO x0 x1 f c5=some r->SemN E0 ⟨none,false⟩ (pc M4 [1,1,0,1,0,0]) f ⟨Fr 41 [(2,.pt 0 0 0),(3,.pt 1 0 0),(5,.j c5)],[some ⟨5,60,[AA.enc x0],false⟩,some ⟨9,42,[AE.enc x1],false⟩]⟩ (fun e s=>match r with
 | (.inl w)=>e=(.exit 1)/\Wk E0 s ⟨Fr 41 [],[]⟩
 | (.inr w)=>e = .ret/\Wk E0 s ⟨Fr 41 [(4,.b w)],[]⟩):=by
 intro f;induction f with
 | zero=>intro c5 r h; cases h
 | succ f ih0 =>
  intro c5 r h
  have ih:=fun (c5:Int)=>ih0 c5 r
  unfold GO at h;refine CI ?_;refine AH ?_;refine AH ?_
  let p1:Option Blk:=some ⟨9,42,[AE.enc x1],false⟩
  let p2:Option Blk:=some ⟨5,60,[AA.enc x0],false⟩
  let p3:Nat×AV:=(5,.j c5)
  let p4:Nat×AV:=(3,.pt 1 0 0)
  let p5:Nat×AV:=(2,.pt 0 0 0)
  refine AM (s1:=⟨Fr 41 [p5,p4,p3,(30,.b (decide (c5 < (x1.2.2.2.2.2.2.2.2.length:Int))))],[p2,p1]⟩) ?_ ?_
  ·refine AD (n:=41) AC 3 [p5,p4,p3,(26,.j c5),(28,.sl 1 (x1.2.2.2.2.2.2.2.2.map cdS.enc))] [p2,p1] kr ?_
   refine AZ AC 0 rfl (DR (AB rfl) rfl (C3 (a:= .sl 1 (x1.2.2.2.2.2.2.2.2.map cdS.enc)) kr (Bn (el:=9) kr))) ?_;exact Ad AC
  refine AT (b:=(decide (c5 < (x1.2.2.2.2.2.2.2.2.length:Int)))) kr (fun hb6=>?_) (fun hb6=>?_)
  ·rw [if_pos hb6] at h
   refine AY ?_;refine AH ?_;refine Al ?_;refine AH ?_;obtain ⟨v7,hv7,h⟩:=OB h;obtain ⟨v8,hv8,h⟩:=OB h;refine D5 AC (s1:=⟨Fr 41 [p5,p4,p3,(40,.b v8)],[p2,p1]⟩) kr ?_ ?_
   ·refine Aa (n:=41) AC 5 [p5,p4,p3,(34,.sl 1 (x0.2.2.2.1.map cdS.enc)),(36,.sl 1 (x1.2.2.2.2.2.2.2.2.map cdS.enc)),(37,.j c5)] [p2,p1] kr kr ?_
    refine RunDS.one AC rfl kr (JB kr (AB rfl) rfl (AP (a:= .sl 1 (x1.2.2.2.2.2.2.2.2.map cdS.enc)) (b:= .j c5) kr kr (Di (e:=cdS.enc) (el:=9) (k:=1) (ki:= .i64) kr kr hv7)) kr) ?_;refine Aa (n:=41) AC 1 [p5,p4,p3,(34,.sl 1 (x0.2.2.2.1.map cdS.enc)),(39,.st v7)] [p2,p1] kr kr ?_;refine Bx (caps:=[]) (xs:=[.sl 1 (x0.2.2.2.1.map cdS.enc),.st v7]) (u:=(x0.2.2.2.1,v7,())) rfl rfl KN rfl (AB rfl) kr kr (AL (AW (c:=(cdL 1 cdS)) (v:=x0.2.2.2.1)) (AL (AW (c:=cdS) (v:=v7)) Ao)) kr hv8 ?_;exact RunDS.done rfl (Ar [0,1] ⟨⟨_,rfl,HS⟩,⟨_,rfl,HS⟩,trivial⟩ ⟨lv,lv,lv,lv,trivial⟩)
   refine AT (b:=v8) kr (fun hb9=>?_) (fun hb9=>?_)
   ·rw [if_pos hb9] at h
    refine AH ?_;refine AM (s1:=⟨Fr 41 [(4,.b true)],[]⟩) ?_ ?_
    ·refine AD (n:=41) AC 1 [(4,.b true)] [p2,p1] kr ?_
     exact AI rfl (Ar [] trivial ⟨lv,trivial⟩)
    refine AR ?_;have hq:=OI h; subst hq;exact ⟨rfl,AJ⟩
   ·rw [Bm hb9] at h
    refine AY ?_
    let p6:Nat×AV:=(5,.j (wr .i64 (c5 + 1)))
    refine D1 AC [p5,p4,p6] [p2,p1] ?_;exact Aq (s1:=⟨Fr 41 [p5,p4,p6],[p2,p1]⟩) (Ar [0,1] ⟨⟨_,rfl,HS⟩,⟨_,rfl,HS⟩,trivial⟩ ⟨lv,lv,lv,trivial⟩) (ih (wr .i64 (c5 + 1)) h)
  ·rw [Bm hb6] at h
   refine C6 ?_;have hq:=OI h; subst hq;exact ⟨rfl,(Ar [] trivial trivial)⟩
theorem Tg (x0:AF) (x1:An) (r:Bool) (h:HH x0 x1=some r):Sem E0 ⟨none,false⟩ M4 ⟨Fr 41 (A6 0 (NA.enc (x0,x1,()))),[]⟩ fun e s'=>(e = .normal\/e = .ret)/\∃ xs,EZ E0.P s'.fr s'.hp Tryz.f172.results.toList=some xs/\Ee xs=NG r:=by
 unfold HH at h;refine Ax (BY (s1:=⟨Fr 41 [(0,AA.enc x0),(1,AE.enc x1)],[]⟩) AJ ?_)
 let p1:Option Blk:=some ⟨9,42,[AE.enc x1],false⟩
 let p2:Option Blk:=some ⟨5,60,[AA.enc x0],false⟩
 let p3:Nat×AV:=(3,.pt 1 0 0)
 let p4:Nat×AV:=(2,.pt 0 0 0)
 refine AK AC [p4,p3] [p2,p1] ?_;refine AH ?_
 let p5:Nat×AV:=(7,.v (.int .u8 x0.1))
 refine AK AC [p4,p3,p5] [p2,p1] ?_;refine Al ?_;refine AK AC [p4,p3,p5,(8,.b (x0.1==4))] [p2,p1] ?_;refine AT (b:=(x0.1==4)) kr (fun hb1=>?_) (fun hb1=>?_)
 ·rw [if_pos hb1] at h
  refine AH ?_
  let p6:Nat×AV:=(4,.b (x1.2.2.2.2.1==x0.2.2.2.2))
  refine AM (s1:=⟨Fr 41 [p6],[]⟩) ?_ ?_
  ·refine AD (n:=41) AC 6 [p6] [p2,p1] kr ?_
   exact AI rfl (Ar [] trivial ⟨lv,trivial⟩)
  refine AR ?_;have hq:=OI h; subst hq;exact ⟨⟨Fr 41 [p6],[]⟩,AJ,.inr rfl,[.b (x1.2.2.2.2.1==x0.2.2.2.2)],kr,kr⟩
 ·rw [Bm hb1] at h
  refine AK AC [p4,p3,p5,(15,.b (x0.1==5))] [p2,p1] ?_;refine AT (b:=(x0.1==5)) kr (fun hb2=>?_) (fun hb2=>?_)
  ·rw [if_pos hb2] at h
   refine AH ?_
   let p7:Nat×AV:=(4,.b x1.2.2.2.2.2.2.1)
   refine AM (s1:=⟨Fr 41 [p7],[]⟩) ?_ ?_
   ·refine AD (n:=41) AC 3 [p7] [p2,p1] kr ?_
    exact AI rfl (Ar [] trivial ⟨lv,trivial⟩)
   refine AR ?_;have hq:=OI h; subst hq;exact ⟨⟨Fr 41 [p7],[]⟩,AJ,.inr rfl,[.b x1.2.2.2.2.2.2.1],kr,kr⟩
  ·rw [Bm hb2] at h
   refine AK AC [p4,p3,(19,.b (x0.1==7))] [p2,p1] ?_;refine AT (b:=(x0.1==7)) kr (fun hb3=>?_) (fun hb3=>?_)
   ·rw [if_pos hb3] at h
    refine AH ?_;obtain ⟨v4,hv4,h⟩:=OB h;refine AM (s1:=⟨Fr 41 [(4,.b v4)],[]⟩) ?_ ?_
    ·refine AD (n:=41) AC 4 [(22,.sl 1 (x0.2.2.2.1.map cdS.enc)),(24,.st x1.2.2.1)] [p2,p1] kr ?_
     refine AS (caps:=[]) (xs:=[.sl 1 (x0.2.2.2.1.map cdS.enc),.st x1.2.2.1]) (u:=(x0.2.2.2.1,x1.2.2.1,())) rfl rfl KN rfl (AB rfl) kr kr (AL (AW (c:=(cdL 1 cdS)) (v:=x0.2.2.2.1)) (AL (AW (c:=cdS) (v:=x1.2.2.1)) Ao)) (.inl kr) hv4 ?_;refine AD (n:=41) AC 1 [(4,.b v4)] [p2,p1] kr ?_;exact AI rfl (Ar [] trivial ⟨lv,trivial⟩)
    refine AR ?_;have hq:=OI h; subst hq;exact ⟨⟨Fr 41 [(4,.b v4)],[]⟩,AJ,.inr rfl,[.b v4],kr,kr⟩
   ·rw [Bm hb3] at h
    refine AY ?_;refine AH ?_
    let p8:Nat×AV:=(5,.j 0)
    refine AK AC [p4,p3,p8] [p2,p1] ?_;refine Al ?_;obtain ⟨r11,hr11,h⟩:=OB h;refine DB (n:=100000) ?_;rcases r11 with w12 | w13
    ·try dsimp only at h
     refine BB (Aq (s1:=⟨Fr 41 [p4,p3,p8],[p2,p1]⟩) (Ar [0,1] ⟨⟨_,rfl,HS⟩,⟨_,rfl,HS⟩,trivial⟩ ⟨lv,lv,lv,trivial⟩) (Nc x0 x1 _ 0 _ hr11)) ?_;refine AK AC [(4,.b false)] [] ?_;refine AR ?_;have hq:=OI h; subst hq;exact ⟨⟨Fr 41 [(4,.b false)],[]⟩,AJ,.inr rfl,[.b false],kr,kr⟩
    ·try dsimp only at h
     refine BB (Aq (s1:=⟨Fr 41 [p4,p3,p8],[p2,p1]⟩) (Ar [0,1] ⟨⟨_,rfl,HS⟩,⟨_,rfl,HS⟩,trivial⟩ ⟨lv,lv,lv,trivial⟩) (Nc x0 x1 _ 0 _ hr11)) ?_;have hq:=OI h; subst hq;exact ⟨⟨Fr 41 [(4,.b w13)],[]⟩,AJ,.inr rfl,[.b w13],kr,kr⟩
def V2:List AV->Option AV:=ES NA (fun a=>HH a.1 a.2.1) NG
theorem Ll:XOk 172 V2:=by
 refine AU Tryz.func172 (c:=M4) ?h2 ⟨Tryz.call172⟩ NA (fun a=>HH a.1 a.2.1) NG (fun a=>(by show 2<=41; decide)) ?h3 ?h4
 case h2=>kernel_rfl
 case h3=>intro b; kernel_rfl
 case h4=>exact fun a b h=>Tg a.1 a.2.1 b h
/- trestle/trestleref03.before -/
noncomputable def On:Code:=BL Tryz.f151
def Hi (x0:AF) (x1:An) (x2:An) (x3:Int) (x4:Int):Option (Bool) :=
 if (x0.1==1)=true then
 (JI x0.2.2.2.1 x1.2.1).bind fun v2 =>
 (JI x0.2.2.2.1 x2.2.1).bind fun v3 =>
 some (decide (v2 < v3))
 else
 if (x0.1==2)=true then
 (if (x1.2.2.2.1 != 0)=true then if (x2.2.2.2.1==0)=true then some true else some (decide (x1.2.2.2.1 < x2.2.2.2.1)) else some false).bind fun j6 =>
 some j6
 else
 if (x0.1==3)=true then
 (if (x1.2.2.2.1 != 0)=true then if (x2.2.2.2.1==0)=true then some true else some (decide (x1.2.2.2.1 > x2.2.2.2.1)) else some false).bind fun j11 =>
 some j11
 else
 if (x0.1==8)=true then
 some (Go.Op.bytesLess x1.1 x2.1)
 else
 if (x0.1==9)=true then
 (Bp x3 0 63).bind fun v16 =>
 (if v16=true then (Bp x4 0 63).bind fun v17 =>
 if v17=true then some (decide (x3 < x4)) else some false else some false).bind fun j19 =>
 some j19
 else
 if (x0.1==10)=true then
 (Bp x3 0 63).bind fun v23 =>
 (if v23=true then (Bp x4 0 63).bind fun v24 =>
 if v24=true then (MT x3 x0.2.2.2.2).bind fun v25 =>
 (MT x4 x0.2.2.2.2).bind fun v26 =>
 some (decide (v25 < v26)) else some false else some false).bind fun j28 =>
 some j28
 else
 if x0.2.2.1=true then
 (HH x0 x1).bind fun v32 =>
 (if (!v32)=true then (HH x0 x2).bind fun v33 =>
 some v33 else some false).bind fun j35 =>
 some j35
 else
 (HH x0 x1).bind fun v37 =>
 (if v37=true then (HH x0 x2).bind fun v38 =>
 some (!v38) else some false).bind fun j40 =>
 some j40
def MA:Cs (AF×An×An×Int×Int×Unit):=(csC AA (csC AE (csC AE (csC cdI (csC cdI csN)))))
def MI (r:Bool):AV:=cdB.enc r
theorem SX (x0:AF) (x1:An) (x2:An) (x3:Int) (x4:Int) (r:Bool) (h:Hi x0 x1 x2 x3 x4=some r):Sem E0 ⟨none,false⟩ On ⟨Fr 119 (A6 0 (MA.enc (x0,x1,x2,x3,x4,()))),[]⟩ fun e s'=>(e = .normal\/e = .ret)/\∃ xs,EZ E0.P s'.fr s'.hp Tryz.f151.results.toList=some xs/\Ee xs=MI r:=by
 unfold Hi at h;refine Ax (BY (s1:=⟨Fr 119 [(0,AA.enc x0),(1,AE.enc x1),(2,AE.enc x2),(3,.j x3),(4,.j x4)],[]⟩) AJ ?_);refine AK AC [(3,.j x3),(4,.j x4),(5,.pt 0 0 0),(6,.pt 1 0 0),(7,.pt 2 0 0)] [some ⟨5,60,[AA.enc x0],false⟩,some ⟨9,42,[AE.enc x1],false⟩,some ⟨9,42,[AE.enc x2],false⟩] ?_;refine AH ?_;refine AK AC [(3,.j x3),(4,.j x4),(5,.pt 0 0 0),(6,.pt 1 0 0),(7,.pt 2 0 0),(12,.v (.int .u8 x0.1))] [some ⟨5,60,[AA.enc x0],false⟩,some ⟨9,42,[AE.enc x1],false⟩,some ⟨9,42,[AE.enc x2],false⟩] ?_;refine Al ?_;refine AK AC [(3,.j x3),(4,.j x4),(5,.pt 0 0 0),(6,.pt 1 0 0),(7,.pt 2 0 0),(12,.v (.int .u8 x0.1)),(13,.b (x0.1==1))] [some ⟨5,60,[AA.enc x0],false⟩,some ⟨9,42,[AE.enc x1],false⟩,some ⟨9,42,[AE.enc x2],false⟩] ?_;refine AT (b:=(x0.1==1)) kr (fun hb1=>?_) (fun hb1=>?_)
 ·rw [if_pos hb1] at h
  refine AH ?_;obtain ⟨v2,hv2,h⟩:=OB h;obtain ⟨v3,hv3,h⟩:=OB h;refine D5 AC (s1:=⟨Fr 119 [(10,.b (decide (v2 < v3)))],[]⟩) kr ?_ ?_
  ·refine Aa (n:=119) AC 4 [(5,.pt 0 0 0),(7,.pt 2 0 0),(16,.sl 1 (x0.2.2.2.1.map cdS.enc)),(18,.st x1.2.1)] [some ⟨5,60,[AA.enc x0],false⟩,some ⟨9,42,[AE.enc x1],false⟩,some ⟨9,42,[AE.enc x2],false⟩] kr kr ?_
   refine Bx (caps:=[]) (xs:=[.sl 1 (x0.2.2.2.1.map cdS.enc),.st x1.2.1]) (u:=(x0.2.2.2.1,x1.2.1,())) rfl rfl SI rfl (AB rfl) kr kr (AL (AW (c:=(cdL 1 cdS)) (v:=x0.2.2.2.1)) (AL (AW (c:=cdS) (v:=x1.2.1)) Ao)) kr hv2 ?_;refine Aa (n:=119) AC 4 [(19,.j v2),(21,.sl 1 (x0.2.2.2.1.map cdS.enc)),(23,.st x2.2.1)] [some ⟨5,60,[AA.enc x0],false⟩,some ⟨9,42,[AE.enc x1],false⟩,some ⟨9,42,[AE.enc x2],false⟩] kr kr ?_;refine Bx (caps:=[]) (xs:=[.sl 1 (x0.2.2.2.1.map cdS.enc),.st x2.2.1]) (u:=(x0.2.2.2.1,x2.2.1,())) rfl rfl SI rfl (AB rfl) kr kr (AL (AW (c:=(cdL 1 cdS)) (v:=x0.2.2.2.1)) (AL (AW (c:=cdS) (v:=x2.2.1)) Ao)) kr hv3 ?_;refine Aa (n:=119) AC 2 [(10,.b (decide (v2 < v3)))] [some ⟨5,60,[AA.enc x0],false⟩,some ⟨9,42,[AE.enc x1],false⟩,some ⟨9,42,[AE.enc x2],false⟩] kr kr ?_;exact RunDS.done rfl (Ar [] trivial ⟨lv,trivial⟩)
  refine AR ?_;have hq:=OI h; subst hq;exact ⟨⟨Fr 119 [(10,.b (decide (v2 < v3)))],[]⟩,AJ,.inr rfl,[.b (decide (v2 < v3))],kr,kr⟩
 ·rw [Bm hb1] at h
  refine AK AC [(3,.j x3),(4,.j x4),(5,.pt 0 0 0),(6,.pt 1 0 0),(7,.pt 2 0 0),(12,.v (.int .u8 x0.1)),(26,.b (x0.1==2))] [some ⟨5,60,[AA.enc x0],false⟩,some ⟨9,42,[AE.enc x1],false⟩,some ⟨9,42,[AE.enc x2],false⟩] ?_;refine AT (b:=(x0.1==2)) kr (fun hb4=>?_) (fun hb4=>?_)
  ·rw [if_pos hb4] at h
   refine AH ?_;obtain ⟨j6,hj6,h⟩:=OB h;refine AM (s1:=⟨Fr 119 [(10,.b j6)],[]⟩) ?_ ?_
   ·refine AD (n:=119) AC 4 [(6,.pt 1 0 0),(7,.pt 2 0 0),(31,.b (x1.2.2.2.1 != 0))] [some ⟨5,60,[AA.enc x0],false⟩,some ⟨9,42,[AE.enc x1],false⟩,some ⟨9,42,[AE.enc x2],false⟩] kr ?_
    rcases BE (x1.2.2.2.1 != 0) with hc7 | hc7
    ·rw [if_pos hc7] at hj6
     rw [hc7];refine AD (n:=119) AC 4 [(6,.pt 1 0 0),(7,.pt 2 0 0),(31,.b true),(35,.b (x2.2.2.2.1==0))] [some ⟨5,60,[AA.enc x0],false⟩,some ⟨9,42,[AE.enc x1],false⟩,some ⟨9,42,[AE.enc x2],false⟩] kr ?_;rcases BE (x2.2.2.2.1==0) with hc8 | hc8
     ·rw [if_pos hc8] at hj6
      rw [hc8];refine AD (n:=119) AC 8 [(10,.b true)] [some ⟨5,60,[AA.enc x0],false⟩,some ⟨9,42,[AE.enc x1],false⟩,some ⟨9,42,[AE.enc x2],false⟩] kr ?_;have hq:=OI hj6; subst hq;exact AI rfl (Ar [] trivial ⟨lv,trivial⟩)
     ·rw [Bm hc8] at hj6
      rw [hc8];refine AD (n:=119) AC 8 [(10,.b (decide (x1.2.2.2.1 < x2.2.2.2.1)))] [some ⟨5,60,[AA.enc x0],false⟩,some ⟨9,42,[AE.enc x1],false⟩,some ⟨9,42,[AE.enc x2],false⟩] kr ?_;have hq:=OI hj6; subst hq;exact AI rfl (Ar [] trivial ⟨lv,trivial⟩)
    ·rw [Bm hc7] at hj6
     rw [hc7];refine AD (n:=119) AC 12 [(10,.b false)] [some ⟨5,60,[AA.enc x0],false⟩,some ⟨9,42,[AE.enc x1],false⟩,some ⟨9,42,[AE.enc x2],false⟩] kr ?_;have hq:=OI hj6; subst hq;exact AI rfl (Ar [] trivial ⟨lv,trivial⟩)
   refine AR ?_;have hq:=OI h; subst hq;exact ⟨⟨Fr 119 [(10,.b j6)],[]⟩,AJ,.inr rfl,[.b j6],kr,kr⟩
  ·rw [Bm hb4] at h
   refine AK AC [(3,.j x3),(4,.j x4),(5,.pt 0 0 0),(6,.pt 1 0 0),(7,.pt 2 0 0),(12,.v (.int .u8 x0.1)),(43,.b (x0.1==3))] [some ⟨5,60,[AA.enc x0],false⟩,some ⟨9,42,[AE.enc x1],false⟩,some ⟨9,42,[AE.enc x2],false⟩] ?_;refine AT (b:=(x0.1==3)) kr (fun hb9=>?_) (fun hb9=>?_)
   ·rw [if_pos hb9] at h
    refine AH ?_;obtain ⟨j11,hj11,h⟩:=OB h;refine AM (s1:=⟨Fr 119 [(10,.b j11)],[]⟩) ?_ ?_
    ·refine AD (n:=119) AC 4 [(6,.pt 1 0 0),(7,.pt 2 0 0),(48,.b (x1.2.2.2.1 != 0))] [some ⟨5,60,[AA.enc x0],false⟩,some ⟨9,42,[AE.enc x1],false⟩,some ⟨9,42,[AE.enc x2],false⟩] kr ?_
     rcases BE (x1.2.2.2.1 != 0) with hc12 | hc12
     ·rw [if_pos hc12] at hj11
      rw [hc12];refine AD (n:=119) AC 4 [(6,.pt 1 0 0),(7,.pt 2 0 0),(48,.b true),(52,.b (x2.2.2.2.1==0))] [some ⟨5,60,[AA.enc x0],false⟩,some ⟨9,42,[AE.enc x1],false⟩,some ⟨9,42,[AE.enc x2],false⟩] kr ?_;rcases BE (x2.2.2.2.1==0) with hc13 | hc13
      ·rw [if_pos hc13] at hj11
       rw [hc13];refine AD (n:=119) AC 8 [(10,.b true)] [some ⟨5,60,[AA.enc x0],false⟩,some ⟨9,42,[AE.enc x1],false⟩,some ⟨9,42,[AE.enc x2],false⟩] kr ?_;have hq:=OI hj11; subst hq;exact AI rfl (Ar [] trivial ⟨lv,trivial⟩)
      ·rw [Bm hc13] at hj11
       rw [hc13];refine AD (n:=119) AC 8 [(10,.b (decide (x1.2.2.2.1 > x2.2.2.2.1)))] [some ⟨5,60,[AA.enc x0],false⟩,some ⟨9,42,[AE.enc x1],false⟩,some ⟨9,42,[AE.enc x2],false⟩] kr ?_;have hq:=OI hj11; subst hq;exact AI rfl (Ar [] trivial ⟨lv,trivial⟩)
     ·rw [Bm hc12] at hj11
      rw [hc12];refine AD (n:=119) AC 12 [(10,.b false)] [some ⟨5,60,[AA.enc x0],false⟩,some ⟨9,42,[AE.enc x1],false⟩,some ⟨9,42,[AE.enc x2],false⟩] kr ?_;have hq:=OI hj11; subst hq;exact AI rfl (Ar [] trivial ⟨lv,trivial⟩)
    refine AR ?_;have hq:=OI h; subst hq;exact ⟨⟨Fr 119 [(10,.b j11)],[]⟩,AJ,.inr rfl,[.b j11],kr,kr⟩
   ·rw [Bm hb9] at h
    refine AK AC [(3,.j x3),(4,.j x4),(5,.pt 0 0 0),(6,.pt 1 0 0),(7,.pt 2 0 0),(12,.v (.int .u8 x0.1)),(60,.b (x0.1==8))] [some ⟨5,60,[AA.enc x0],false⟩,some ⟨9,42,[AE.enc x1],false⟩,some ⟨9,42,[AE.enc x2],false⟩] ?_;refine AT (b:=(x0.1==8)) kr (fun hb14=>?_) (fun hb14=>?_)
    ·rw [if_pos hb14] at h
     refine AH ?_;refine AM (s1:=⟨Fr 119 [(10,.b (Go.Op.bytesLess x1.1 x2.1))],[]⟩) ?_ ?_
     ·refine AD (n:=119) AC 6 [(10,.b (Go.Op.bytesLess x1.1 x2.1))] [some ⟨5,60,[AA.enc x0],false⟩,some ⟨9,42,[AE.enc x1],false⟩,some ⟨9,42,[AE.enc x2],false⟩] kr ?_
      exact AI rfl (Ar [] trivial ⟨lv,trivial⟩)
     refine AR ?_;have hq:=OI h; subst hq;exact ⟨⟨Fr 119 [(10,.b (Go.Op.bytesLess x1.1 x2.1))],[]⟩,AJ,.inr rfl,[.b (Go.Op.bytesLess x1.1 x2.1)],kr,kr⟩
    ·rw [Bm hb14] at h
     refine AK AC [(3,.j x3),(4,.j x4),(5,.pt 0 0 0),(6,.pt 1 0 0),(7,.pt 2 0 0),(12,.v (.int .u8 x0.1)),(67,.b (x0.1==9))] [some ⟨5,60,[AA.enc x0],false⟩,some ⟨9,42,[AE.enc x1],false⟩,some ⟨9,42,[AE.enc x2],false⟩] ?_;refine AT (b:=(x0.1==9)) kr (fun hb15=>?_) (fun hb15=>?_)
     ·rw [if_pos hb15] at h
      refine AH ?_;obtain ⟨v16,hv16,h⟩:=OB h;obtain ⟨j19,hj19,h⟩:=OB h;refine AM (s1:=⟨Fr 119 [(10,.b j19)],[]⟩) ?_ ?_
      ·refine AD (n:=119) AC 1 [(3,.j x3),(4,.j x4),(69,.j x3)] [some ⟨5,60,[AA.enc x0],false⟩,some ⟨9,42,[AE.enc x1],false⟩,some ⟨9,42,[AE.enc x2],false⟩] kr ?_
       refine AS (caps:=[]) (xs:=[.j x3,.j 0,.j 63]) (u:=(x3,0,63,())) rfl rfl Fe rfl (AB rfl) kr kr (AL (AW (c:=cdI) (v:=x3)) (AL (AW (c:=cdI) (v:=0)) (AL (AW (c:=cdI) (v:=63)) Ao))) (.inl kr) hv16 ?_;refine AD (n:=119) AC 1 [(3,.j x3),(4,.j x4),(71,.b v16)] [some ⟨5,60,[AA.enc x0],false⟩,some ⟨9,42,[AE.enc x1],false⟩,some ⟨9,42,[AE.enc x2],false⟩] kr ?_;rcases BE v16 with hc20 | hc20
       ·rw [if_pos hc20] at hj19
        rw [hc20];refine AD (n:=119) AC 1 [(3,.j x3),(4,.j x4),(71,.b true),(72,.j x4)] [some ⟨5,60,[AA.enc x0],false⟩,some ⟨9,42,[AE.enc x1],false⟩,some ⟨9,42,[AE.enc x2],false⟩] kr ?_;obtain ⟨v17,hv17,hj19⟩:=OB hj19;refine AS (caps:=[]) (xs:=[.j x4,.j 0,.j 63]) (u:=(x4,0,63,())) rfl rfl Fe rfl kr kr kr (AL (AW (c:=cdI) (v:=x4)) (AL (AW (c:=cdI) (v:=0)) (AL (AW (c:=cdI) (v:=63)) Ao))) (.inl kr) hv17 ?_;refine AD (n:=119) AC 2 [(3,.j x3),(4,.j x4),(75,.b v17)] [some ⟨5,60,[AA.enc x0],false⟩,some ⟨9,42,[AE.enc x1],false⟩,some ⟨9,42,[AE.enc x2],false⟩] kr ?_;rcases BE v17 with hc21 | hc21
        ·rw [if_pos hc21] at hj19
         rw [hc21];refine AD (n:=119) AC 5 [(10,.b (decide (x3 < x4)))] [some ⟨5,60,[AA.enc x0],false⟩,some ⟨9,42,[AE.enc x1],false⟩,some ⟨9,42,[AE.enc x2],false⟩] kr ?_;have hq:=OI hj19; subst hq;exact AI rfl (Ar [] trivial ⟨lv,trivial⟩)
        ·rw [Bm hc21] at hj19
         rw [hc21];refine AD (n:=119) AC 5 [(10,.b false)] [some ⟨5,60,[AA.enc x0],false⟩,some ⟨9,42,[AE.enc x1],false⟩,some ⟨9,42,[AE.enc x2],false⟩] kr ?_;have hq:=OI hj19; subst hq;exact AI rfl (Ar [] trivial ⟨lv,trivial⟩)
       ·rw [Bm hc20] at hj19
        rw [hc20];refine AD (n:=119) AC 9 [(10,.b false)] [some ⟨5,60,[AA.enc x0],false⟩,some ⟨9,42,[AE.enc x1],false⟩,some ⟨9,42,[AE.enc x2],false⟩] kr ?_;have hq:=OI hj19; subst hq;exact AI rfl (Ar [] trivial ⟨lv,trivial⟩)
      refine AR ?_;have hq:=OI h; subst hq;exact ⟨⟨Fr 119 [(10,.b j19)],[]⟩,AJ,.inr rfl,[.b j19],kr,kr⟩
     ·rw [Bm hb15] at h
      refine AK AC [(3,.j x3),(4,.j x4),(5,.pt 0 0 0),(6,.pt 1 0 0),(7,.pt 2 0 0),(80,.b (x0.1==10))] [some ⟨5,60,[AA.enc x0],false⟩,some ⟨9,42,[AE.enc x1],false⟩,some ⟨9,42,[AE.enc x2],false⟩] ?_;refine AT (b:=(x0.1==10)) kr (fun hb22=>?_) (fun hb22=>?_)
      ·rw [if_pos hb22] at h
       refine AH ?_;obtain ⟨v23,hv23,h⟩:=OB h;obtain ⟨j28,hj28,h⟩:=OB h;refine D5 AC (s1:=⟨Fr 119 [(10,.b j28)],[]⟩) kr ?_ ?_
       ·refine Aa (n:=119) AC 1 [(3,.j x3),(4,.j x4),(5,.pt 0 0 0),(82,.j x3)] [some ⟨5,60,[AA.enc x0],false⟩,some ⟨9,42,[AE.enc x1],false⟩,some ⟨9,42,[AE.enc x2],false⟩] kr kr ?_
        refine Bx (caps:=[]) (xs:=[.j x3,.j 0,.j 63]) (u:=(x3,0,63,())) rfl rfl Fe rfl (AB rfl) kr kr (AL (AW (c:=cdI) (v:=x3)) (AL (AW (c:=cdI) (v:=0)) (AL (AW (c:=cdI) (v:=63)) Ao))) kr hv23 ?_;refine Aa (n:=119) AC 1 [(3,.j x3),(4,.j x4),(5,.pt 0 0 0),(84,.b v23)] [some ⟨5,60,[AA.enc x0],false⟩,some ⟨9,42,[AE.enc x1],false⟩,some ⟨9,42,[AE.enc x2],false⟩] kr kr ?_;rcases BE v23 with hc29 | hc29
        ·rw [if_pos hc29] at hj28
         rw [hc29];refine Aa (n:=119) AC 1 [(3,.j x3),(4,.j x4),(5,.pt 0 0 0),(84,.b true),(85,.j x4)] [some ⟨5,60,[AA.enc x0],false⟩,some ⟨9,42,[AE.enc x1],false⟩,some ⟨9,42,[AE.enc x2],false⟩] kr kr ?_;obtain ⟨v24,hv24,hj28⟩:=OB hj28;refine Bx (caps:=[]) (xs:=[.j x4,.j 0,.j 63]) (u:=(x4,0,63,())) rfl rfl Fe rfl kr kr kr (AL (AW (c:=cdI) (v:=x4)) (AL (AW (c:=cdI) (v:=0)) (AL (AW (c:=cdI) (v:=63)) Ao))) kr hv24 ?_;refine Aa (n:=119) AC 2 [(3,.j x3),(4,.j x4),(5,.pt 0 0 0),(88,.b v24)] [some ⟨5,60,[AA.enc x0],false⟩,some ⟨9,42,[AE.enc x1],false⟩,some ⟨9,42,[AE.enc x2],false⟩] kr kr ?_;rcases BE v24 with hc30 | hc30
         ·rw [if_pos hc30] at hj28
          rw [hc30];refine Aa (n:=119) AC 3 [(4,.j x4),(5,.pt 0 0 0),(88,.b true),(89,.j x3),(91,.j x0.2.2.2.2)] [some ⟨5,60,[AA.enc x0],false⟩,some ⟨9,42,[AE.enc x1],false⟩,some ⟨9,42,[AE.enc x2],false⟩] kr kr ?_;obtain ⟨v25,hv25,hj28⟩:=OB hj28;refine Bx (caps:=[]) (xs:=[.j x3,.j x0.2.2.2.2]) (u:=(x3,x0.2.2.2.2,())) rfl rfl UQ rfl kr kr kr (AL (AW (c:=cdI) (v:=x3)) (AL (AW (c:=cdI) (v:=x0.2.2.2.2)) Ao)) kr hv25 ?_;refine Aa (n:=119) AC 3 [(88,.b true),(92,.j v25),(93,.j x4),(95,.j x0.2.2.2.2)] [some ⟨5,60,[AA.enc x0],false⟩,some ⟨9,42,[AE.enc x1],false⟩,some ⟨9,42,[AE.enc x2],false⟩] kr kr ?_;obtain ⟨v26,hv26,hj28⟩:=OB hj28;refine Bx (caps:=[]) (xs:=[.j x4,.j x0.2.2.2.2]) (u:=(x4,x0.2.2.2.2,())) rfl rfl UQ rfl kr kr kr (AL (AW (c:=cdI) (v:=x4)) (AL (AW (c:=cdI) (v:=x0.2.2.2.2)) Ao)) kr hv26 ?_;refine Aa (n:=119) AC 3 [(10,.b (decide (v25 < v26)))] [some ⟨5,60,[AA.enc x0],false⟩,some ⟨9,42,[AE.enc x1],false⟩,some ⟨9,42,[AE.enc x2],false⟩] kr kr ?_;have hq:=OI hj28; subst hq;exact RunDS.done rfl (Ar [] trivial ⟨lv,trivial⟩)
         ·rw [Bm hc30] at hj28
          rw [hc30];refine Aa (n:=119) AC 11 [(10,.b false)] [some ⟨5,60,[AA.enc x0],false⟩,some ⟨9,42,[AE.enc x1],false⟩,some ⟨9,42,[AE.enc x2],false⟩] kr kr ?_;have hq:=OI hj28; subst hq;exact RunDS.done rfl (Ar [] trivial ⟨lv,trivial⟩)
        ·rw [Bm hc29] at hj28
         rw [hc29];refine Aa (n:=119) AC 15 [(10,.b false)] [some ⟨5,60,[AA.enc x0],false⟩,some ⟨9,42,[AE.enc x1],false⟩,some ⟨9,42,[AE.enc x2],false⟩] kr kr ?_;have hq:=OI hj28; subst hq;exact RunDS.done rfl (Ar [] trivial ⟨lv,trivial⟩)
       refine AR ?_;have hq:=OI h; subst hq;exact ⟨⟨Fr 119 [(10,.b j28)],[]⟩,AJ,.inr rfl,[.b j28],kr,kr⟩
      ·rw [Bm hb22] at h
       refine AY ?_;refine AH ?_;refine AK AC [(5,.pt 0 0 0),(6,.pt 1 0 0),(7,.pt 2 0 0),(100,.b x0.2.2.1)] [some ⟨5,60,[AA.enc x0],false⟩,some ⟨9,42,[AE.enc x1],false⟩,some ⟨9,42,[AE.enc x2],false⟩] ?_;refine AT (b:=x0.2.2.1) kr (fun hb31=>?_) (fun hb31=>?_)
       ·rw [if_pos hb31] at h
        refine AH ?_;obtain ⟨v32,hv32,h⟩:=OB h;obtain ⟨j35,hj35,h⟩:=OB h;refine AM (s1:=⟨Fr 119 [(10,.b j35)],[]⟩) ?_ ?_
        ·refine AD (n:=119) AC 2 [(5,.pt 0 0 0),(7,.pt 2 0 0),(101,AA.enc x0),(102,AE.enc x1)] [some ⟨5,60,[AA.enc x0],false⟩,some ⟨9,42,[AE.enc x1],false⟩,some ⟨9,42,[AE.enc x2],false⟩] kr ?_
         refine AS (caps:=[]) (xs:=[AA.enc x0,AE.enc x1]) (u:=(x0,x1,())) rfl rfl Ll rfl (AB rfl) kr kr (AL (AW (c:=AA) (v:=x0)) (AL (AW (c:=AE) (v:=x1)) Ao)) (.inl kr) hv32 ?_;refine AD (n:=119) AC 2 [(5,.pt 0 0 0),(7,.pt 2 0 0),(105,.b (!v32))] [some ⟨5,60,[AA.enc x0],false⟩,some ⟨9,42,[AE.enc x1],false⟩,some ⟨9,42,[AE.enc x2],false⟩] kr ?_;rcases BE (!v32) with hc36 | hc36
         ·rw [if_pos hc36] at hj35
          rw [hc36];refine AD (n:=119) AC 2 [(105,.b true),(106,AA.enc x0),(107,AE.enc x2)] [some ⟨5,60,[AA.enc x0],false⟩,some ⟨9,42,[AE.enc x1],false⟩,some ⟨9,42,[AE.enc x2],false⟩] kr ?_;obtain ⟨v33,hv33,hj35⟩:=OB hj35;refine AS (caps:=[]) (xs:=[AA.enc x0,AE.enc x2]) (u:=(x0,x2,())) rfl rfl Ll rfl kr kr kr (AL (AW (c:=AA) (v:=x0)) (AL (AW (c:=AE) (v:=x2)) Ao)) (.inl kr) hv33 ?_;refine AD (n:=119) AC 2 [(10,.b v33)] [some ⟨5,60,[AA.enc x0],false⟩,some ⟨9,42,[AE.enc x1],false⟩,some ⟨9,42,[AE.enc x2],false⟩] kr ?_;have hq:=OI hj35; subst hq;exact AI rfl (Ar [] trivial ⟨lv,trivial⟩)
         ·rw [Bm hc36] at hj35
          rw [hc36];refine AD (n:=119) AC 5 [(10,.b false)] [some ⟨5,60,[AA.enc x0],false⟩,some ⟨9,42,[AE.enc x1],false⟩,some ⟨9,42,[AE.enc x2],false⟩] kr ?_;have hq:=OI hj35; subst hq;exact AI rfl (Ar [] trivial ⟨lv,trivial⟩)
        refine AR ?_;have hq:=OI h; subst hq;exact ⟨⟨Fr 119 [(10,.b j35)],[]⟩,AJ,.inr rfl,[.b j35],kr,kr⟩
       ·rw [Bm hb31] at h
        refine AY ?_;refine AH ?_;obtain ⟨v37,hv37,h⟩:=OB h;obtain ⟨j40,hj40,h⟩:=OB h;refine AM (s1:=⟨Fr 119 [(10,.b j40)],[]⟩) ?_ ?_
        ·refine AD (n:=119) AC 2 [(5,.pt 0 0 0),(7,.pt 2 0 0),(110,AA.enc x0),(111,AE.enc x1)] [some ⟨5,60,[AA.enc x0],false⟩,some ⟨9,42,[AE.enc x1],false⟩,some ⟨9,42,[AE.enc x2],false⟩] kr ?_
         refine AS (caps:=[]) (xs:=[AA.enc x0,AE.enc x1]) (u:=(x0,x1,())) rfl rfl Ll rfl (AB rfl) kr kr (AL (AW (c:=AA) (v:=x0)) (AL (AW (c:=AE) (v:=x1)) Ao)) (.inl kr) hv37 ?_;refine AD (n:=119) AC 1 [(5,.pt 0 0 0),(7,.pt 2 0 0),(113,.b v37)] [some ⟨5,60,[AA.enc x0],false⟩,some ⟨9,42,[AE.enc x1],false⟩,some ⟨9,42,[AE.enc x2],false⟩] kr ?_;rcases BE v37 with hc41 | hc41
         ·rw [if_pos hc41] at hj40
          rw [hc41];refine AD (n:=119) AC 2 [(113,.b true),(114,AA.enc x0),(115,AE.enc x2)] [some ⟨5,60,[AA.enc x0],false⟩,some ⟨9,42,[AE.enc x1],false⟩,some ⟨9,42,[AE.enc x2],false⟩] kr ?_;obtain ⟨v38,hv38,hj40⟩:=OB hj40;refine AS (caps:=[]) (xs:=[AA.enc x0,AE.enc x2]) (u:=(x0,x2,())) rfl rfl Ll rfl kr kr kr (AL (AW (c:=AA) (v:=x0)) (AL (AW (c:=AE) (v:=x2)) Ao)) (.inl kr) hv38 ?_;refine AD (n:=119) AC 3 [(10,.b (!v38))] [some ⟨5,60,[AA.enc x0],false⟩,some ⟨9,42,[AE.enc x1],false⟩,some ⟨9,42,[AE.enc x2],false⟩] kr ?_;have hq:=OI hj40; subst hq;exact AI rfl (Ar [] trivial ⟨lv,trivial⟩)
         ·rw [Bm hc41] at hj40
          rw [hc41];refine AD (n:=119) AC 6 [(10,.b false)] [some ⟨5,60,[AA.enc x0],false⟩,some ⟨9,42,[AE.enc x1],false⟩,some ⟨9,42,[AE.enc x2],false⟩] kr ?_;have hq:=OI hj40; subst hq;exact AI rfl (Ar [] trivial ⟨lv,trivial⟩)
        refine AR ?_;have hq:=OI h; subst hq;exact ⟨⟨Fr 119 [(10,.b j40)],[]⟩,AJ,.inr rfl,[.b j40],kr,kr⟩
def Uh:List AV->Option AV:=ES MA (fun a=>Hi a.1 a.2.1 a.2.2.1 a.2.2.2.1 a.2.2.2.2.1) MI
theorem P4:XOk 151 Uh:=by
 refine AU Tryz.func151 (c:=On) ?h2 ⟨Tryz.call151⟩ MA (fun a=>Hi a.1 a.2.1 a.2.2.1 a.2.2.2.1 a.2.2.2.2.1) MI (fun a=>(by show 5<=119; decide)) ?h3 ?h4
 case h2=>kernel_rfl
 case h3=>intro b; kernel_rfl
 case h4=>exact fun a b h=>SX a.1 a.2.1 a.2.2.1 a.2.2.2.1 a.2.2.2.2.1 b h
/- trestle/trestleref03.Reason -/
noncomputable def L1:Code:=BL Tryz.f119
def Ej (x0:(List AF)) (x1:An) (x2:An) (x3:Int) (x4:Int):Nat->Int->Option ((Unit) ⊕ (Int×Int))
 | 0,_=>none
 | f + 1,c1 =>
  if (decide (c1 < (x0.length:Int)))=true then
  (idx x0 c1).bind fun v3 =>
  (if (!(v3.2.1==[]))=true then (idx x0 c1).bind fun v4 =>
  if (!(x1.2.1==v4.2.1))=true then some true else (idx x0 c1).bind fun v5 =>
  some (!(x2.2.1==v5.2.1)) else some false).bind fun j7 =>
  if j7=true then
  Ej x0 x1 x2 x3 x4 f (wr .i64 (c1 + 1))
  else
  (idx x0 c1).bind fun v9 =>
  (Hi v9 x1 x2 x3 x4).bind fun v10 =>
  if v10=true then
  some (.inr (c1,(-1)))
  else
  (idx x0 c1).bind fun v14 =>
  (Hi v14 x2 x1 x4 x3).bind fun v15 =>
  if v15=true then
  some (.inr (c1,1))
  else
  Ej x0 x1 x2 x3 x4 f (wr .i64 (c1 + 1))
  else
  some (.inl ())
def Ic (x0:(List AF)) (x1:An) (x2:An) (x3:Int) (x4:Int):Option (Int×Int) :=
 (Ej x0 x1 x2 x3 x4 100000 0).bind fun r19 =>
 match r19 with
 | (.inl w20) =>
  some ((-1),0)
 | (.inr w21) =>
  some (w21.1,w21.2)
def L9:Cs ((List AF)×An×An×Int×Int×Unit):=(csC (cdL 5 AA) (csC AE (csC AE (csC cdI (csC cdI csN)))))
def MH (r:Int×Int):AV:= .tp [cdI.enc r.1,cdI.enc r.2]
theorem Mw (x0:(List AF)) (x1:An) (x2:An) (x3:Int) (x4:Int):∀ (f:Nat) (c1:Int) (r:(Unit) ⊕ (Int×Int)),Ej x0 x1 x2 x3 x4 f c1=some r->SemN E0 ⟨none,false⟩ (pc L1 [1,0,1,0,0]) f ⟨Fr 65 [(0,.sl 5 (x0.map AA.enc)),(3,.j x3),(4,.j x4),(6,.pt 0 0 0),(7,.pt 1 0 0),(12,.j c1)],[some ⟨9,42,[AE.enc x1],false⟩,some ⟨9,42,[AE.enc x2],false⟩]⟩ (fun e s=>match r with
 | (.inl w)=>e=(.exit 0)/\Wk E0 s ⟨Fr 65 [],[]⟩
 | (.inr w)=>e = .ret/\Wk E0 s ⟨Fr 65 [(10,.j w.1),(11,.j w.2)],[]⟩):=by
 intro f;induction f with
 | zero=>intro c1 r h; cases h
 | succ f ih0 =>
  intro c1 r h
  have ih:=fun (c1:Int)=>ih0 c1 r
  unfold Ej at h;refine CI ?_;refine AH ?_;refine AH ?_;refine AM (s1:=⟨Fr 65 [(0,.sl 5 (x0.map AA.enc)),(3,.j x3),(4,.j x4),(6,.pt 0 0 0),(7,.pt 1 0 0),(12,.j c1),(16,.b (decide (c1 < (x0.length:Int))))],[some ⟨9,42,[AE.enc x1],false⟩,some ⟨9,42,[AE.enc x2],false⟩]⟩) ?_ ?_
  ·refine AD (n:=65) AC 2 [(0,.sl 5 (x0.map AA.enc)),(3,.j x3),(4,.j x4),(6,.pt 0 0 0),(7,.pt 1 0 0),(12,.j c1),(13,.j c1),(14,.sl 5 (x0.map AA.enc))] [some ⟨9,42,[AE.enc x1],false⟩,some ⟨9,42,[AE.enc x2],false⟩] kr ?_
   refine AZ AC 0 rfl (DR (AB rfl) rfl (C3 (a:= .sl 5 (x0.map AA.enc)) kr (Bn (el:=60) kr))) ?_;exact Ad AC
  refine AT (b:=(decide (c1 < (x0.length:Int)))) kr (fun hb2=>?_) (fun hb2=>?_)
  ·rw [if_pos hb2] at h
   refine AY ?_;refine AH ?_;refine Al ?_;refine AH ?_;refine AH ?_;obtain ⟨v3,hv3,h⟩:=OB h;obtain ⟨j7,hj7,h⟩:=OB h;refine D5 AC (s1:=⟨Fr 65 [(0,.sl 5 (x0.map AA.enc)),(3,.j x3),(4,.j x4),(6,.pt 0 0 0),(7,.pt 1 0 0),(12,.j c1),(44,.b j7)],[some ⟨9,42,[AE.enc x1],false⟩,some ⟨9,42,[AE.enc x2],false⟩]⟩) kr ?_ ?_
   ·refine Aa (n:=65) AC 2 [(0,.sl 5 (x0.map AA.enc)),(3,.j x3),(4,.j x4),(6,.pt 0 0 0),(7,.pt 1 0 0),(12,.j c1),(19,.sl 5 (x0.map AA.enc)),(20,.j c1)] [some ⟨9,42,[AE.enc x1],false⟩,some ⟨9,42,[AE.enc x2],false⟩] kr kr ?_
    refine RunDS.one AC rfl kr (JB kr (AB rfl) rfl (AP (a:= .sl 5 (x0.map AA.enc)) (b:= .j c1) kr kr (Di (e:=AA.enc) (el:=60) (k:=5) (ki:= .i64) kr kr hv3)) kr) ?_;refine Aa (n:=65) AC 4 [(0,.sl 5 (x0.map AA.enc)),(3,.j x3),(4,.j x4),(6,.pt 0 0 0),(7,.pt 1 0 0),(12,.j c1),(25,.b (!(v3.2.1==[])))] [some ⟨9,42,[AE.enc x1],false⟩,some ⟨9,42,[AE.enc x2],false⟩] kr kr ?_;rcases BE (!(v3.2.1==[])) with hc17 | hc17
    ·rw [if_pos hc17] at hj7
     rw [hc17];refine Aa (n:=65) AC 4 [(0,.sl 5 (x0.map AA.enc)),(3,.j x3),(4,.j x4),(6,.pt 0 0 0),(7,.pt 1 0 0),(12,.j c1),(25,.b true),(26,.pt 0 0 1),(27,.st x1.2.1),(28,.sl 5 (x0.map AA.enc)),(29,.j c1)] [some ⟨9,42,[AE.enc x1],false⟩,some ⟨9,42,[AE.enc x2],false⟩] kr kr ?_;obtain ⟨v4,hv4,hj7⟩:=OB hj7;refine RunDS.one AC rfl kr (JB kr kr rfl (AP (a:= .sl 5 (x0.map AA.enc)) (b:= .j c1) kr kr (Di (e:=AA.enc) (el:=60) (k:=5) (ki:= .i64) kr kr hv4)) kr) ?_;refine Aa (n:=65) AC 4 [(0,.sl 5 (x0.map AA.enc)),(3,.j x3),(4,.j x4),(6,.pt 0 0 0),(7,.pt 1 0 0),(12,.j c1),(25,.b true),(26,.pt 0 0 1),(27,.st x1.2.1),(28,.sl 5 (x0.map AA.enc)),(29,.j c1),(30,.pe (AA.enc v4) 0),(31,.pe (AA.enc v4) 1),(32,.st v4.2.1),(33,.b (!(x1.2.1==v4.2.1))),(34,.b (!(x1.2.1==v4.2.1)))] [some ⟨9,42,[AE.enc x1],false⟩,some ⟨9,42,[AE.enc x2],false⟩] kr kr ?_;rcases BE (!(x1.2.1==v4.2.1)) with hc18 | hc18
     ·rw [if_pos hc18] at hj7
      rw [hc18];refine Aa (n:=65) AC 10 [(0,.sl 5 (x0.map AA.enc)),(3,.j x3),(4,.j x4),(6,.pt 0 0 0),(7,.pt 1 0 0),(12,.j c1),(26,.pt 0 0 1),(27,.st x1.2.1),(28,.sl 5 (x0.map AA.enc)),(29,.j c1),(30,.pe (AA.enc v4) 0),(31,.pe (AA.enc v4) 1),(32,.st v4.2.1),(33,.b true),(34,.b true),(35,.tp []),(36,.tp []),(37,.tp []),(38,.tp []),(39,.tp []),(40,.tp []),(41,.tp []),(42,.tp []),(43,.b true),(44,.b true)] [some ⟨9,42,[AE.enc x1],false⟩,some ⟨9,42,[AE.enc x2],false⟩] kr kr ?_;have hq:=OI hj7; subst hq;exact RunDS.done rfl (Ar [0,1] ⟨⟨_,rfl,HS⟩,⟨_,rfl,HS⟩,trivial⟩ ⟨lv,lv,lv,lv,lv,lv,lv,trivial⟩)
     ·rw [Bm hc18] at hj7
      rw [hc18];refine Aa (n:=65) AC 4 [(0,.sl 5 (x0.map AA.enc)),(3,.j x3),(4,.j x4),(6,.pt 0 0 0),(7,.pt 1 0 0),(12,.j c1),(25,.b true),(26,.pt 0 0 1),(27,.st x1.2.1),(28,.sl 5 (x0.map AA.enc)),(29,.j c1),(30,.pe (AA.enc v4) 0),(31,.pe (AA.enc v4) 1),(32,.st v4.2.1),(33,.b false),(34,.b false),(35,.pt 1 0 1),(36,.st x2.2.1),(37,.sl 5 (x0.map AA.enc)),(38,.j c1)] [some ⟨9,42,[AE.enc x1],false⟩,some ⟨9,42,[AE.enc x2],false⟩] kr kr ?_;obtain ⟨v5,hv5,hj7⟩:=OB hj7;refine RunDS.one AC rfl kr (JB kr kr rfl (AP (a:= .sl 5 (x0.map AA.enc)) (b:= .j c1) kr kr (Di (e:=AA.enc) (el:=60) (k:=5) (ki:= .i64) kr kr hv5)) kr) ?_;refine Aa (n:=65) AC 5 [(0,.sl 5 (x0.map AA.enc)),(3,.j x3),(4,.j x4),(6,.pt 0 0 0),(7,.pt 1 0 0),(12,.j c1),(26,.pt 0 0 1),(27,.st x1.2.1),(28,.sl 5 (x0.map AA.enc)),(29,.j c1),(30,.pe (AA.enc v4) 0),(31,.pe (AA.enc v4) 1),(32,.st v4.2.1),(33,.b false),(34,.b false),(35,.pt 1 0 1),(36,.st x2.2.1),(37,.sl 5 (x0.map AA.enc)),(38,.j c1),(39,.pe (AA.enc v5) 0),(40,.pe (AA.enc v5) 1),(41,.st v5.2.1),(42,.b (!(x2.2.1==v5.2.1))),(43,.b (!(x2.2.1==v5.2.1))),(44,.b (!(x2.2.1==v5.2.1)))] [some ⟨9,42,[AE.enc x1],false⟩,some ⟨9,42,[AE.enc x2],false⟩] kr kr ?_;have hq:=OI hj7; subst hq;exact RunDS.done rfl (Ar [0,1] ⟨⟨_,rfl,HS⟩,⟨_,rfl,HS⟩,trivial⟩ ⟨lv,lv,lv,lv,lv,lv,lv,trivial⟩)
    ·rw [Bm hc17] at hj7
     rw [hc17];refine Aa (n:=65) AC 19 [(0,.sl 5 (x0.map AA.enc)),(3,.j x3),(4,.j x4),(6,.pt 0 0 0),(7,.pt 1 0 0),(12,.j c1),(26,.tp []),(27,.tp []),(28,.tp []),(29,.tp []),(30,.tp []),(31,.tp []),(32,.tp []),(33,.tp []),(34,.tp []),(35,.tp []),(36,.tp []),(37,.tp []),(38,.tp []),(39,.tp []),(40,.tp []),(41,.tp []),(42,.tp []),(43,.tp []),(44,.b false)] [some ⟨9,42,[AE.enc x1],false⟩,some ⟨9,42,[AE.enc x2],false⟩] kr kr ?_;have hq:=OI hj7; subst hq;exact RunDS.done rfl (Ar [0,1] ⟨⟨_,rfl,HS⟩,⟨_,rfl,HS⟩,trivial⟩ ⟨lv,lv,lv,lv,lv,lv,lv,trivial⟩)
   refine AT (b:=j7) kr (fun hb8=>?_) (fun hb8=>?_)
   ·rw [if_pos hb8] at h
    refine C6 ?_;refine D1 AC [(0,.sl 5 (x0.map AA.enc)),(3,.j x3),(4,.j x4),(6,.pt 0 0 0),(7,.pt 1 0 0),(12,.j (wr .i64 (c1 + 1)))] [some ⟨9,42,[AE.enc x1],false⟩,some ⟨9,42,[AE.enc x2],false⟩] ?_;exact Aq (s1:=⟨Fr 65 [(0,.sl 5 (x0.map AA.enc)),(3,.j x3),(4,.j x4),(6,.pt 0 0 0),(7,.pt 1 0 0),(12,.j (wr .i64 (c1 + 1)))],[some ⟨9,42,[AE.enc x1],false⟩,some ⟨9,42,[AE.enc x2],false⟩]⟩) (Ar [0,1] ⟨⟨_,rfl,HS⟩,⟨_,rfl,HS⟩,trivial⟩ ⟨lv,lv,lv,lv,lv,lv,trivial⟩) (ih (wr .i64 (c1 + 1)) h)
   ·rw [Bm hb8] at h
    refine AY ?_;refine AH ?_;refine AH ?_;obtain ⟨v9,hv9,h⟩:=OB h;obtain ⟨v10,hv10,h⟩:=OB h;refine D5 AC (s1:=⟨Fr 65 [(0,.sl 5 (x0.map AA.enc)),(3,.j x3),(4,.j x4),(6,.pt 0 0 0),(7,.pt 1 0 0),(12,.j c1),(53,.b v10)],[some ⟨9,42,[AE.enc x1],false⟩,some ⟨9,42,[AE.enc x2],false⟩]⟩) kr ?_ ?_
    ·refine Aa (n:=65) AC 2 [(0,.sl 5 (x0.map AA.enc)),(3,.j x3),(4,.j x4),(6,.pt 0 0 0),(7,.pt 1 0 0),(12,.j c1),(45,.sl 5 (x0.map AA.enc)),(46,.j c1)] [some ⟨9,42,[AE.enc x1],false⟩,some ⟨9,42,[AE.enc x2],false⟩] kr kr ?_
     refine RunDS.one AC rfl kr (JB kr (AB rfl) rfl (AP (a:= .sl 5 (x0.map AA.enc)) (b:= .j c1) kr kr (Di (e:=AA.enc) (el:=60) (k:=5) (ki:= .i64) kr kr hv9)) kr) ?_;refine Aa (n:=65) AC 5 [(0,.sl 5 (x0.map AA.enc)),(3,.j x3),(4,.j x4),(6,.pt 0 0 0),(7,.pt 1 0 0),(12,.j c1),(48,AA.enc v9),(49,AE.enc x1),(50,AE.enc x2),(51,.j x3),(52,.j x4)] [some ⟨9,42,[AE.enc x1],false⟩,some ⟨9,42,[AE.enc x2],false⟩] kr kr ?_;refine Bx (caps:=[]) (xs:=[AA.enc v9,AE.enc x1,AE.enc x2,.j x3,.j x4]) (u:=(v9,x1,x2,x3,x4,())) rfl rfl P4 rfl (AB rfl) kr kr (AL (AW (c:=AA) (v:=v9)) (AL (AW (c:=AE) (v:=x1)) (AL (AW (c:=AE) (v:=x2)) (AL (AW (c:=cdI) (v:=x3)) (AL (AW (c:=cdI) (v:=x4)) Ao))))) kr hv10 ?_;exact RunDS.done rfl (Ar [0,1] ⟨⟨_,rfl,HS⟩,⟨_,rfl,HS⟩,trivial⟩ ⟨lv,lv,lv,lv,lv,lv,lv,trivial⟩)
    refine AT (b:=v10) kr (fun hb11=>?_) (fun hb11=>?_)
    ·rw [if_pos hb11] at h
     refine AH ?_;refine AM (s1:=⟨Fr 65 [(10,.j c1),(11,.j (-1))],[]⟩) ?_ ?_
     ·refine AD (n:=65) AC 3 [(10,.j c1),(11,.j (-1))] [some ⟨9,42,[AE.enc x1],false⟩,some ⟨9,42,[AE.enc x2],false⟩] kr ?_
      exact AI rfl (Ar [] trivial ⟨lv,lv,trivial⟩)
     refine AR ?_;have hq:=OI h; subst hq;exact ⟨rfl,AJ⟩
    ·rw [Bm hb11] at h
     refine AY ?_;refine AH ?_;obtain ⟨v14,hv14,h⟩:=OB h;obtain ⟨v15,hv15,h⟩:=OB h;refine D5 AC (s1:=⟨Fr 65 [(0,.sl 5 (x0.map AA.enc)),(3,.j x3),(4,.j x4),(6,.pt 0 0 0),(7,.pt 1 0 0),(12,.j c1),(63,.b v15)],[some ⟨9,42,[AE.enc x1],false⟩,some ⟨9,42,[AE.enc x2],false⟩]⟩) kr ?_ ?_
     ·refine Aa (n:=65) AC 2 [(0,.sl 5 (x0.map AA.enc)),(3,.j x3),(4,.j x4),(6,.pt 0 0 0),(7,.pt 1 0 0),(12,.j c1),(55,.sl 5 (x0.map AA.enc)),(56,.j c1)] [some ⟨9,42,[AE.enc x1],false⟩,some ⟨9,42,[AE.enc x2],false⟩] kr kr ?_
      refine RunDS.one AC rfl kr (JB kr (AB rfl) rfl (AP (a:= .sl 5 (x0.map AA.enc)) (b:= .j c1) kr kr (Di (e:=AA.enc) (el:=60) (k:=5) (ki:= .i64) kr kr hv14)) kr) ?_;refine Aa (n:=65) AC 5 [(0,.sl 5 (x0.map AA.enc)),(3,.j x3),(4,.j x4),(6,.pt 0 0 0),(7,.pt 1 0 0),(12,.j c1),(58,AA.enc v14),(59,AE.enc x2),(60,AE.enc x1),(61,.j x4),(62,.j x3)] [some ⟨9,42,[AE.enc x1],false⟩,some ⟨9,42,[AE.enc x2],false⟩] kr kr ?_;refine Bx (caps:=[]) (xs:=[AA.enc v14,AE.enc x2,AE.enc x1,.j x4,.j x3]) (u:=(v14,x2,x1,x4,x3,())) rfl rfl P4 rfl (AB rfl) kr kr (AL (AW (c:=AA) (v:=v14)) (AL (AW (c:=AE) (v:=x2)) (AL (AW (c:=AE) (v:=x1)) (AL (AW (c:=cdI) (v:=x4)) (AL (AW (c:=cdI) (v:=x3)) Ao))))) kr hv15 ?_;exact RunDS.done rfl (Ar [0,1] ⟨⟨_,rfl,HS⟩,⟨_,rfl,HS⟩,trivial⟩ ⟨lv,lv,lv,lv,lv,lv,lv,trivial⟩)
     refine AT (b:=v15) kr (fun hb16=>?_) (fun hb16=>?_)
     ·rw [if_pos hb16] at h
      refine AH ?_;refine AM (s1:=⟨Fr 65 [(10,.j c1),(11,.j 1)],[]⟩) ?_ ?_
      ·refine AD (n:=65) AC 3 [(10,.j c1),(11,.j 1)] [some ⟨9,42,[AE.enc x1],false⟩,some ⟨9,42,[AE.enc x2],false⟩] kr ?_
       exact AI rfl (Ar [] trivial ⟨lv,lv,trivial⟩)
      refine AR ?_;have hq:=OI h; subst hq;exact ⟨rfl,AJ⟩
     ·rw [Bm hb16] at h
      refine AY ?_;refine D1 AC [(0,.sl 5 (x0.map AA.enc)),(3,.j x3),(4,.j x4),(6,.pt 0 0 0),(7,.pt 1 0 0),(12,.j (wr .i64 (c1 + 1)))] [some ⟨9,42,[AE.enc x1],false⟩,some ⟨9,42,[AE.enc x2],false⟩] ?_;exact Aq (s1:=⟨Fr 65 [(0,.sl 5 (x0.map AA.enc)),(3,.j x3),(4,.j x4),(6,.pt 0 0 0),(7,.pt 1 0 0),(12,.j (wr .i64 (c1 + 1)))],[some ⟨9,42,[AE.enc x1],false⟩,some ⟨9,42,[AE.enc x2],false⟩]⟩) (Ar [0,1] ⟨⟨_,rfl,HS⟩,⟨_,rfl,HS⟩,trivial⟩ ⟨lv,lv,lv,lv,lv,lv,trivial⟩) (ih (wr .i64 (c1 + 1)) h)
  ·rw [Bm hb2] at h
   refine C6 ?_;have hq:=OI h; subst hq;exact ⟨rfl,(Ar [] trivial trivial)⟩
theorem SW (x0:(List AF)) (x1:An) (x2:An) (x3:Int) (x4:Int) (r:Int×Int) (h:Ic x0 x1 x2 x3 x4=some r):Sem E0 ⟨none,false⟩ L1 ⟨Fr 65 (A6 0 (L9.enc (x0,x1,x2,x3,x4,()))),[]⟩ fun e s'=>(e = .normal\/e = .ret)/\∃ xs,EZ E0.P s'.fr s'.hp Tryz.f119.results.toList=some xs/\Ee xs=MH r:=by
 unfold Ic at h
 let p1:Nat×AV:=(4,.j x4)
 let p2:Nat×AV:=(3,.j x3)
 let p3:Nat×AV:=(0,.sl 5 (x0.map AA.enc))
 refine Ax (BY (s1:=⟨Fr 65 [p3,(1,AE.enc x1),(2,AE.enc x2),p2,p1],[]⟩) AJ ?_)
 let p4:Option Blk:=some ⟨9,42,[AE.enc x2],false⟩
 let p5:Option Blk:=some ⟨9,42,[AE.enc x1],false⟩
 let p6:Nat×AV:=(7,.pt 1 0 0)
 let p7:Nat×AV:=(6,.pt 0 0 0)
 refine AK AC [p3,p2,p1,p7,p6] [p5,p4] ?_;refine AH ?_
 let p8:Nat×AV:=(12,.j 0)
 refine AK AC [p3,p2,p1,p7,p6,p8] [p5,p4] ?_;refine Al ?_;obtain ⟨r19,hr19,h⟩:=OB h;refine DB (n:=100000) ?_;rcases r19 with w20 | w21
 ·try dsimp only at h
  refine BB (Aq (s1:=⟨Fr 65 [p3,p2,p1,p7,p6,p8],[p5,p4]⟩) (Ar [0,1] ⟨⟨_,rfl,HS⟩,⟨_,rfl,HS⟩,trivial⟩ ⟨lv,lv,lv,lv,lv,lv,trivial⟩) (Mw x0 x1 x2 x3 x4 _ 0 _ hr19)) ?_;refine AK AC [(10,.j (-1)),(11,.j 0)] [] ?_;refine AR ?_;have hq:=OI h; subst hq;exact ⟨⟨Fr 65 [(10,.j (-1)),(11,.j 0)],[]⟩,AJ,.inr rfl,[.j (-1),.j 0],kr,kr⟩
 ·try dsimp only at h
  refine BB (Aq (s1:=⟨Fr 65 [p3,p2,p1,p7,p6,p8],[p5,p4]⟩) (Ar [0,1] ⟨⟨_,rfl,HS⟩,⟨_,rfl,HS⟩,trivial⟩ ⟨lv,lv,lv,lv,lv,lv,trivial⟩) (Mw x0 x1 x2 x3 x4 _ 0 _ hr19)) ?_;have hq:=OI h; subst hq;exact ⟨⟨Fr 65 [(10,.j w21.1),(11,.j w21.2)],[]⟩,AJ,.inr rfl,[.j w21.1,.j w21.2],kr,kr⟩
def Ug:List AV->Option AV:=ES L9 (fun a=>Ic a.1 a.2.1 a.2.2.1 a.2.2.2.1 a.2.2.2.2.1) MH
theorem Ur:XOk 119 Ug:=by
 refine AU Tryz.func119 (c:=L1) ?h2 ⟨Tryz.call119⟩ L9 (fun a=>Ic a.1 a.2.1 a.2.2.1 a.2.2.2.1 a.2.2.2.2.1) MH (fun a=>(by show 5<=65; decide)) ?h3 ?h4
 case h2=>kernel_rfl
 case h3=>intro b; kernel_rfl
 case h4=>exact fun a b h=>SW a.1 a.2.1 a.2.2.1 a.2.2.2.1 a.2.2.2.2.1 b h
/- trestle/trestleref03.Goes -/
noncomputable def Qa:Code:=BL Tryz.f150
def JH (x0:(List AF)) (x1:(List An)) (x2:Int) (x3:Int):Option (Bool) :=
 (idx x1 x2).bind fun v1 =>
 (idx x1 x3).bind fun v2 =>
 (Ic x0 v1 v2 x2 x3).bind fun v3 =>
 some (decide (v3.2 < 0))
def No:Cs ((List AF)×(List An)×Int×Int×Unit):=(csC (cdL 5 AA) (csC (cdL 9 AE) (csC cdI (csC cdI csN))))
def Nx (r:Bool):AV:=cdB.enc r
theorem Ua (x0:(List AF)) (x1:(List An)) (x2:Int) (x3:Int) (r:Bool) (h:JH x0 x1 x2 x3=some r):Sem E0 ⟨none,false⟩ Qa ⟨Fr 28 (A6 0 (No.enc (x0,x1,x2,x3,()))),[]⟩ fun e s'=>(e = .normal\/e = .ret)/\∃ xs,EZ E0.P s'.fr s'.hp Tryz.f150.results.toList=some xs/\Ee xs=Nx r:=by
 unfold JH at h
 let p1:Nat×AV:=(3,.j x3)
 let p2:Nat×AV:=(2,.j x2)
 let p3:Nat×AV:=(1,.sl 9 (x1.map AE.enc))
 let p4:Nat×AV:=(0,.sl 5 (x0.map AA.enc))
 refine Ax (BY (s1:=⟨Fr 28 [p4,p3,p2,p1],[]⟩) AJ ?_);refine AK AC [p4,p3,p2,p1] [] ?_;refine AH ?_;obtain ⟨v1,hv1,h⟩:=OB h;obtain ⟨v2,hv2,h⟩:=OB h;obtain ⟨v3,hv3,h⟩:=OB h;refine D5 AC (s1:=⟨Fr 28 [(10,.j v3.2)],[]⟩) kr ?_ ?_
 ·let p5:Nat×AV:=(12,.sl 5 (x0.map AA.enc))
  refine Aa (n:=28) AC 3 [p3,p2,p1,p5,(13,.sl 9 (x1.map AE.enc)),(14,.j x2)] [] kr kr ?_;refine RunDS.one AC rfl kr (JB kr (AB rfl) rfl (AP (a:= .sl 9 (x1.map AE.enc)) (b:= .j x2) kr kr (Di (e:=AE.enc) (el:=42) (k:=9) (ki:= .i64) kr kr hv1)) kr) ?_;refine Aa (n:=28) AC 3 [p2,p1,p5,(16,AE.enc v1),(17,.sl 9 (x1.map AE.enc)),(18,.j x3)] [] kr kr ?_;refine RunDS.one AC rfl kr (JB kr (AB rfl) rfl (AP (a:= .sl 9 (x1.map AE.enc)) (b:= .j x3) kr kr (Di (e:=AE.enc) (el:=42) (k:=9) (ki:= .i64) kr kr hv2)) kr) ?_;refine Aa (n:=28) AC 3 [p5,(16,AE.enc v1),(20,AE.enc v2),(21,.j x2),(22,.j x3)] [] kr kr ?_;refine Bx (caps:=[]) (xs:=[.sl 5 (x0.map AA.enc),AE.enc v1,AE.enc v2,.j x2,.j x3]) (u:=(x0,v1,v2,x2,x3,())) rfl rfl Ur rfl (AB rfl) kr kr (AL (AW (c:=(cdL 5 AA)) (v:=x0)) (AL (AW (c:=AE) (v:=v1)) (AL (AW (c:=AE) (v:=v2)) (AL (AW (c:=cdI) (v:=x2)) (AL (AW (c:=cdI) (v:=x3)) Ao))))) kr hv3 ?_;refine Aa (n:=28) AC 5 [(10,.j v3.2)] [] kr kr ?_;exact RunDS.done rfl AJ
 let p6:Nat×AV:=(8,.b (decide (v3.2 < 0)))
 refine AK AC [p6] [] ?_;refine AR ?_;have hq:=OI h; subst hq;exact ⟨⟨Fr 28 [p6],[]⟩,AJ,.inr rfl,[.b (decide (v3.2 < 0))],kr,kr⟩
def Wu:List AV->Option AV:=ES No (fun a=>JH a.1 a.2.1 a.2.2.1 a.2.2.2.1) Nx
theorem W6:XOk 150 Wu:=by
 refine AU Tryz.func150 (c:=Qa) ?h2 ⟨Tryz.call150⟩ No (fun a=>JH a.1 a.2.1 a.2.2.1 a.2.2.2.1) Nx (fun a=>(by show 4<=28; decide)) ?h3 ?h4
 case h2=>kernel_rfl
 case h3=>intro b; kernel_rfl
 case h4=>exact fun a b h=>Ua a.1 a.2.1 a.2.2.1 a.2.2.2.1 b h
/- trestle/trestleref03.groups -/
noncomputable def Hd:Code:=BL Tryz.f117
def EV (x0:(List AF)) (x1:(List An)) (c2:(List Int)) (c8:Int):Nat->Bool->Int->Option ((Bool))
 | 0,_,_=>none
 | f + 1,c14,c15 =>
  if (decide (c15 < (c2.length:Int)))=true then
  (if c14=true then (idx c2 c15).bind fun v17 =>
  (idx c2 c8).bind fun v18 =>
  (JH x0 x1 v17 v18).bind fun v19 =>
  some (!v19) else some false).bind fun j20 =>
  EV x0 x1 c2 c8 f j20 (wr .i64 (c15 + 1))
  else
  some c14
def Ih (c2:(List Int)) (c8:Int) (c10:(List Int)) (c12:(List Int)) (r33:Bool):Option (((List Int)×(List Int))) :=
 if r33=true then
 (idx c2 c8).bind fun v37 =>
 if (EK 8 (c10.length + ([v37]:List Int).length))=true then
 some ((c10++([v37]:List Int)),c12)
 else none
 else
 (idx c2 c8).bind fun v53 =>
 if (EK 8 (c12.length + ([v53]:List Int).length))=true then
 some (c10,(c12++([v53]:List Int)))
 else none
def EU (x0:(List AF)) (x1:(List An)) (c2:(List Int)):Nat->Int->(List Int)->(List Int)->Option (((List Int)×(List Int)))
 | 0,_,_,_=>none
 | f + 1,c8,c10,c12 =>
  if (decide (c8 < (c2.length:Int)))=true then
  (EV x0 x1 c2 c8 100000 true 0).bind fun r33 =>
  (Ih c2 c8 c10 c12 r33).bind fun r65 =>
  EU x0 x1 c2 f (wr .i64 (c8 + 1)) r65.1 r65.2
  else
  some (c10,c12)
def Ek (x0:(List AF)) (x1:(List An)):Nat->(List Int)->(List (List Int))->Option (((List (List Int))) ⊕ ((List (List Int))))
 | 0,_,_=>none
 | f + 1,c2,c4 =>
  if (decide ((c2.length:Int) > 0))=true then
  (EU x0 x1 c2 100000 0 ([]:(List Int)) ([]:(List Int))).bind fun r75 =>
  if ((r75.1.length:Int)==0)=true then
  some (.inr c4)
  else
  if (EK 24 (c4.length + ([r75.1]:List (List Int)).length))=true then
  Ek x0 x1 f r75.2 (c4++([r75.1]:List (List Int)))
  else none
  else
  some (.inl c4)
def G9 (x0:(List AF)) (x1:(List An)) (x2:(List Int)):Option ((List (List Int))) :=
 (Ek x0 x1 100000 x2 ([]:(List (List Int)))).bind fun r107 =>
 match r107 with
 | (.inl w108) =>
  some w108
 | (.inr w115) =>
  some w115
theorem Q5 {L:List Asn}(x0:(List AF)) (x1:(List An)) (c2:(List Int)) (c8:Int) (e3:AV) (c4:(List (List Int))) (e9:AV) (c10:(List Int)) (e11:AV) (c12:(List Int)):∀ (f:Nat) (c14:Bool) (c15:Int) (r:(Bool)),EV x0 x1 c2 c8 f c14 c15=some r->∀ (hp:Hp),T hp ((own_ (ocL 1 48 (ocV (cdL 1 cdI))) e3 c4)::(own_ (ocL 1 3 (ocV cdI)) e9 c10)::(own_ (ocL 1 3 (ocV cdI)) e11 c12)::L)->SemYN E0 ⟨none,false⟩ (pc Hd [1,1,0,0,0,1,0,1,0,1,0,0,1,0,0,1,0,1,0,0]) f ⟨Fr 68 [(0,.sl 5 (x0.map AA.enc)),(1,.sl 9 (x1.map AE.enc)),(2,.sl 1 (c2.map cdI.enc)),(7,e3),(8,e9),(9,e11),(10,.j c8),(11,.b c14),(12,.j c15)],hp⟩ (fun e s=>e=(.exit 4)/\∃ s2,(∃ (h':Hp),T h' ((own_ (ocL 1 48 (ocV (cdL 1 cdI))) e3 c4)::(own_ (ocL 1 3 (ocV cdI)) e9 c10)::(own_ (ocL 1 3 (ocV cdI)) e11 c12)::L)/\s2=⟨Fr 68 [(0,.sl 5 (x0.map AA.enc)),(1,.sl 9 (x1.map AE.enc)),(2,.sl 1 (c2.map cdI.enc)),(7,e3),(8,e9),(9,e11),(10,.j c8),(11,.b r)],h'⟩)/\WkY E0 s s2):=by
 intro f;induction f with
 | zero=>intro c14 c15 r h; cases h
 | succ f ih0 =>
  intro c14 c15 r h  hp hT;unfold EV at h;refine D2 ?_;refine AX ?_;refine AX ?_;refine AQ ?_;refine Aj AC 2 ?_;refine Ac AC 0 rfl (DR (AB rfl) rfl (C3 (a:= .sl 1 (c2.map cdI.enc)) kr (Bn (el:=3) kr))) ?_;refine B6 AC [(0,.sl 5 (x0.map AA.enc)),(1,.sl 9 (x1.map AE.enc)),(2,.sl 1 (c2.map cdI.enc)),(7,e3),(8,e9),(9,e11),(10,.j c8),(11,.b c14),(12,.j c15),(25,.b (decide (c15 < (c2.length:Int))))] ?_;refine Bo (b:=(decide (c15 < (c2.length:Int)))) kr (fun hb16=>?_) (fun hb16=>?_)
  ·rw [if_pos hb16] at h
   refine SemY.skip ?_;refine AX ?_;refine BZ ?_;obtain ⟨j20,hj20,h⟩:=OB h;refine RJ 16 (A:=fun s1=>∃ (h':Hp),T h' ((own_ (ocL 1 48 (ocV (cdL 1 cdI))) e3 c4)::(own_ (ocL 1 3 (ocV cdI)) e9 c10)::(own_ (ocL 1 3 (ocV cdI)) e11 c12)::L)/\s1=⟨Fr 68 [(0,.sl 5 (x0.map AA.enc)),(1,.sl 9 (x1.map AE.enc)),(2,.sl 1 (c2.map cdI.enc)),(7,e3),(8,e9),(9,e11),(10,.j c8),(11,.b j20),(12,.j c15)],h'⟩) AC.mixed kr kr ?_ ?_
   ·refine RunDT.q (x:= .b c14) rfl kr rfl (AB rfl) rfl kr kr ?_
    refine RunDT.q (x:= .b c14) rfl kr rfl (AB rfl) rfl kr kr ?_;rcases BE c14 with hc31 | hc31
    ·rw [if_pos hc31] at hj20
     rw [hc31];refine RunDT.q (x:= .sl 5 (x0.map AA.enc)) rfl kr rfl kr rfl kr kr ?_;refine RunDT.q (x:= .sl 9 (x1.map AE.enc)) rfl kr rfl kr rfl kr kr ?_;refine RunDT.q (x:= .sl 1 (c2.map cdI.enc)) rfl kr rfl kr rfl kr kr ?_;refine RunDT.q (x:= .j c15) rfl kr rfl kr rfl kr kr ?_;obtain ⟨v17,hv17,hj20⟩:=OB hj20;refine RunDT.q (x:= .pe (.j v17) 0) rfl kr rfl kr rfl (AP (a:= .sl 1 (c2.map cdI.enc)) (b:= .j c15) kr kr (Di (e:=cdI.enc) (el:=3) (k:=1) (ki:= .i64) kr kr hv17)) kr ?_;refine RunDT.q (x:= .j v17) rfl kr rfl kr rfl kr kr ?_;refine RunDT.q (x:= .sl 1 (c2.map cdI.enc)) rfl kr rfl kr rfl kr kr ?_;refine RunDT.q (x:= .j c8) rfl kr rfl kr rfl kr kr ?_;obtain ⟨v18,hv18,hj20⟩:=OB hj20;refine RunDT.q (x:= .pe (.j v18) 0) rfl kr rfl kr rfl (AP (a:= .sl 1 (c2.map cdI.enc)) (b:= .j c8) kr kr (Di (e:=cdI.enc) (el:=3) (k:=1) (ki:= .i64) kr kr hv18)) kr ?_;refine RunDT.q (x:= .j v18) rfl kr rfl kr rfl kr kr ?_;obtain ⟨v19,hv19,hj20⟩:=OB hj20;refine Ls (v:=v19) (caps:=[]) (xs:=[.sl 5 (x0.map AA.enc),.sl 9 (x1.map AE.enc),.j v17,.j v18]) (u:=(x0,x1,v17,v18,())) rfl rfl W6 rfl kr kr kr (Br (Dy (c:=(cdL 5 AA)) (v:=x0)) (Br (Dy (c:=(cdL 9 AE)) (v:=x1)) (Br (Dy (c:=cdI) (v:=v17)) (Br (Dy (c:=cdI) (v:=v18)) SeesD.nil)))) kr hv19 ?_;refine RunDT.q (x:= .b (!v19)) rfl kr rfl kr rfl kr kr ?_;refine RunDT.q (x:= .b (!v19)) rfl kr rfl (AB rfl) rfl kr kr ?_;refine RunDT.q (x:= .b (!v19)) rfl kr rfl (AB rfl) rfl kr kr ?_;have hq:=OI hj20; subst hq;exact RunDT.done rfl ⟨_,⟨hp,hT,rfl⟩,WkY.f1⟩
    ·rw [Bm hc31] at hj20
     rw [hc31];refine RunDT.skip rfl kr rfl ?_;refine RunDT.skip rfl kr rfl ?_;refine RunDT.skip rfl kr rfl ?_;refine RunDT.skip rfl kr rfl ?_;refine RunDT.skip rfl kr rfl ?_;refine RunDT.skip rfl kr rfl ?_;refine RunDT.skip rfl kr rfl ?_;refine RunDT.skip rfl kr rfl ?_;refine RunDT.skip rfl kr rfl ?_;refine RunDT.skip rfl kr rfl ?_;refine RunDT.skip rfl kr rfl ?_;refine RunDT.skip rfl kr rfl ?_;refine RunDT.q (x:= .b false) rfl kr rfl (AB rfl) rfl kr kr ?_;refine RunDT.q (x:= .b false) rfl kr rfl (AB rfl) rfl kr kr ?_;have hq:=OI hj20; subst hq;exact RunDT.done rfl ⟨_,⟨hp,hT,rfl⟩,WkY.f1⟩
   rintro _ ⟨hp29,hT30,rfl⟩;refine AQ ?_;refine Aj AC 3 ?_;refine BU rfl ?_;exact CJ WkY.f1 (ih0 j20 (wr .i64 (c15 + 1)) _ h  hp29 hT30)
  ·rw [Bm hb16] at h
   refine SemY.exit ?_;have hq:=OI h; subst hq;exact ⟨rfl,_,⟨hp,hT,rfl⟩,WkY.f1⟩
theorem Q3 {L:List Asn}{hp:Hp}(c2:(List Int)) (c8:Int) (c10:(List Int)) (c12:(List Int)) (r33:Bool) (x0:(List AF)) (x1:(List An)) (e3:AV) (c4:(List (List Int))) (e9:AV) (e11:AV) (r:((List Int)×(List Int))) (h:Ih c2 c8 c10 c12 r33=some r) (hT:T hp ((own_ (ocL 1 48 (ocV (cdL 1 cdI))) e3 c4)::(own_ (ocL 1 3 (ocV cdI)) e9 c10)::(own_ (ocL 1 3 (ocV cdI)) e11 c12)::L)):SemY E0 ⟨none,false⟩ (pc Hd [1,1,0,0,0,1,0,1,0,1,0,0,1,0,0,1,1,1]) ⟨Fr 68 [(0,.sl 5 (x0.map AA.enc)),(1,.sl 9 (x1.map AE.enc)),(2,.sl 1 (c2.map cdI.enc)),(7,e3),(8,e9),(9,e11),(10,.j c8),(43,.b r33)],hp⟩ (fun e s=>e = .normal/\∃ s2,(∃ (e48 e50:AV) (h':Hp),T h' ((own_ (ocL 1 48 (ocV (cdL 1 cdI))) e3 c4)::(own_ (ocL 1 3 (ocV cdI)) e48 r.1)::(own_ (ocL 1 3 (ocV cdI)) e50 r.2)::L)/\s2=⟨Fr 68 [(0,.sl 5 (x0.map AA.enc)),(1,.sl 9 (x1.map AE.enc)),(2,.sl 1 (c2.map cdI.enc)),(7,e3),(8,e48),(9,e50),(10,.j c8)],h'⟩)/\WkY E0 s s2):=by
 unfold Ih at h;refine Bo (b:=r33) kr (fun hb36=>?_) (fun hb36=>?_)
 ·rw [if_pos hb36] at h
  refine AQ ?_;refine Aj AC 3 ?_;obtain ⟨v37,hv37,h⟩:=OB h;refine Ac AC 0 rfl (DR (AB rfl) rfl (AP (a:= .sl 1 (c2.map cdI.enc)) (b:= .j c8) kr kr (Di (e:=cdI.enc) (el:=3) (k:=1) (ki:= .i64) kr kr hv37))) ?_;refine Aj AC 1 ?_;obtain ⟨e41,hp38,hb39,hT40⟩:=Iq (P:=Tryz.prog) (bytes:=8) (k:=1) (t:=3) (ty:=48) (xs:=([v37]:List Int)) (n:=1) (SS (k:=1) (fun _=>⟨rfl,rfl,rfl⟩)) (ID (c:=cdI) (xs:=([v37]:List Int)) hT) rfl kr kr kr;refine Ac AC 0 rfl (Vh (AB rfl) rfl kr (Rj (xs:=Nr 0 [.j v37]) kr hb39)) ?_;by_cases hk46:(EK 8 (c10.length + ([v37]:List Int).length))=true
  case neg=>rw [if_neg hk46] at h; cases h
  rw [if_pos hk46] at h
  have hT47:=((hT40.front 0 rfl).front 2 rfl)
  obtain ⟨e45,hp42,hb43,hT44⟩:=Ik (P:=Tryz.prog) (ty:=48) (ty2:=48) (bytes:=8) hT47 kr kr hk46;refine Ac AC 0 rfl (S4 (AB rfl) rfl kr kr (Dq (a:=e9) (b:=e41) kr kr hb43)) ?_;refine Aj AC 1 ?_;refine BU rfl ?_;have hq:=OI h; subst hq
  have hT52:=(((hT44.front 2 rfl).front 1 rfl).front 2 rfl)
  exact ⟨rfl,_,⟨e45,e11,hp42,hT52,rfl⟩,WkY.f1⟩
 ·rw [Bm hb36] at h
  refine AQ ?_;refine Aj AC 3 ?_;obtain ⟨v53,hv53,h⟩:=OB h;refine Ac AC 0 rfl (DR (AB rfl) rfl (AP (a:= .sl 1 (c2.map cdI.enc)) (b:= .j c8) kr kr (Di (e:=cdI.enc) (el:=3) (k:=1) (ki:= .i64) kr kr hv53))) ?_;refine Aj AC 1 ?_;obtain ⟨e57,hp54,hb55,hT56⟩:=Iq (P:=Tryz.prog) (bytes:=8) (k:=1) (t:=3) (ty:=48) (xs:=([v53]:List Int)) (n:=1) (SS (k:=1) (fun _=>⟨rfl,rfl,rfl⟩)) (ID (c:=cdI) (xs:=([v53]:List Int)) hT) rfl kr kr kr;refine Ac AC 0 rfl (Vh (AB rfl) rfl kr (Rj (xs:=Nr 0 [.j v53]) kr hb55)) ?_;by_cases hk62:(EK 8 (c12.length + ([v53]:List Int).length))=true
  case neg=>rw [if_neg hk62] at h; cases h
  rw [if_pos hk62] at h
  have hT63:=((hT56.front 0 rfl).front 3 rfl)
  obtain ⟨e61,hp58,hb59,hT60⟩:=Ik (P:=Tryz.prog) (ty:=48) (ty2:=48) (bytes:=8) hT63 kr kr hk62;refine Ac AC 0 rfl (S4 (AB rfl) rfl kr kr (Dq (a:=e11) (b:=e57) kr kr hb59)) ?_;refine Aj AC 1 ?_;refine BU rfl ?_;have hq:=OI h; subst hq
  have hT64:=((hT60.front 2 rfl).front 2 rfl)
  exact ⟨rfl,_,⟨e9,e61,hp58,hT64,rfl⟩,WkY.f1⟩
theorem Q4 {L:List Asn}(x0:(List AF)) (x1:(List An)) (c2:(List Int)) (e3:AV) (c4:(List (List Int))):∀ (f:Nat) (c8:Int) (c10:(List Int)) (c12:(List Int)) (r:((List Int)×(List Int))),EU x0 x1 c2 f c8 c10 c12=some r->∀ (e9 e11:AV) (hp:Hp),T hp ((own_ (ocL 1 48 (ocV (cdL 1 cdI))) e3 c4)::(own_ (ocL 1 3 (ocV cdI)) e9 c10)::(own_ (ocL 1 3 (ocV cdI)) e11 c12)::L)->SemYN E0 ⟨none,false⟩ (pc Hd [1,1,0,0,0,1,0,1,0,1,0,0]) f ⟨Fr 68 [(0,.sl 5 (x0.map AA.enc)),(1,.sl 9 (x1.map AE.enc)),(2,.sl 1 (c2.map cdI.enc)),(7,e3),(8,e9),(9,e11),(10,.j c8)],hp⟩ (fun e s=>e=(.exit 2)/\∃ s2,(∃ (e70 e72:AV) (h':Hp),T h' ((own_ (ocL 1 48 (ocV (cdL 1 cdI))) e3 c4)::(own_ (ocL 1 3 (ocV cdI)) e70 r.1)::(own_ (ocL 1 3 (ocV cdI)) e72 r.2)::L)/\s2=⟨Fr 68 [(0,.sl 5 (x0.map AA.enc)),(1,.sl 9 (x1.map AE.enc)),(7,e3),(8,e70),(9,e72)],h'⟩)/\WkY E0 s s2):=by
 intro f;induction f with
 | zero=>intro c8 c10 c12 r h; cases h
 | succ f ih0 =>
  intro c8 c10 c12 r h e9 e11 hp hT;unfold EU at h;refine D2 ?_;refine AX ?_;refine AX ?_;refine AQ ?_;refine Aj AC 2 ?_;refine Ac AC 0 rfl (DR (AB rfl) rfl (C3 (a:= .sl 1 (c2.map cdI.enc)) kr (Bn (el:=3) kr))) ?_
  let p1:Nat×AV:=(10,.j c8)
  let p2:Nat×AV:=(2,.sl 1 (c2.map cdI.enc))
  let p3:Nat×AV:=(1,.sl 9 (x1.map AE.enc))
  let p4:Nat×AV:=(0,.sl 5 (x0.map AA.enc))
  refine B6 AC [p4,p3,p2,(7,e3),(8,e9),(9,e11),p1,(19,.b (decide (c8 < (c2.length:Int))))] ?_;refine Bo (b:=(decide (c8 < (c2.length:Int)))) kr (fun hb13=>?_) (fun hb13=>?_)
  ·rw [if_pos hb13] at h
   refine SemY.skip ?_;refine AX ?_;refine BZ ?_;refine Bf AC [p4,p3,p2,(7,e3),(8,e9),(9,e11),p1,(11,.b true)] ?_;refine AX ?_;refine Bf AC [p4,p3,p2,(7,e3),(8,e9),(9,e11),p1,(11,.b true),(12,.j 0)] ?_;refine BZ ?_;refine SemY.loop (n:=100000) ?_;obtain ⟨r33,hr33,h⟩:=OB h;refine DT (CJ WkY.f1 (Q5 x0 x1 c2 c8 e3 c4 e9 c10 e11 c12 _ true 0 _ hr33  hp hT)) ?_;rintro _ ⟨hp34,hT35,rfl⟩;refine Bf AC [p4,p3,p2,(7,e3),(8,e9),(9,e11),p1,(43,.b r33)] ?_;obtain ⟨r65,hr65,h⟩:=OB h;refine I0 (Q3 c2 c8 c10 c12 r33 x0 x1 e3 c4 e9 e11 _ hr65 hT35) ?_;rintro _ ⟨e66,e67,hp68,hT69,rfl⟩;refine AQ ?_;refine Aj AC 3 ?_;refine BU rfl ?_;exact CJ WkY.f1 (ih0 (wr .i64 (c8 + 1)) r65.1 r65.2 _ h e66 e67 hp68 hT69)
  ·rw [Bm hb13] at h
   refine SemY.exit ?_;have hq:=OI h; subst hq;exact ⟨rfl,_,⟨e9,e11,hp,hT,rfl⟩,WkY.f1⟩
theorem Mx {L:List Asn}(x0:(List AF)) (x1:(List An)):∀ (f:Nat) (c2:(List Int)) (c4:(List (List Int))) (r:((List (List Int))) ⊕ ((List (List Int)))),Ek x0 x1 f c2 c4=some r->∀ (e3:AV) (hp:Hp),T hp ((own_ (ocL 1 48 (ocV (cdL 1 cdI))) e3 c4)::L)->SemYN E0 ⟨none,false⟩ (pc Hd [1,1,0,0,0]) f ⟨Fr 68 [(0,.sl 5 (x0.map AA.enc)),(1,.sl 9 (x1.map AE.enc)),(2,.sl 1 (c2.map cdI.enc)),(7,e3)],hp⟩ (fun e s=>match r with
 | (.inl w)=>e=(.exit 0)/\∃ s2,(∃ (e105:AV) (h':Hp),T h' ((own_ (ocL 1 48 (ocV (cdL 1 cdI))) e105 w)::L)/\s2=⟨Fr 68 [(7,e105)],h'⟩)/\WkY E0 s s2
 | (.inr w)=>e = .ret/\∃ s2,(∃ (h':Hp),T h' (L)/\s2=⟨Fr 68 [(6,.sl 1 (w.map (cdL 1 cdI).enc))],h'⟩)/\WkY E0 s s2):=by
 intro f;induction f with
 | zero=>intro c2 c4 r h; cases h
 | succ f ih0 =>
  intro c2 c4 r h e3 hp hT;unfold Ek at h;refine D2 ?_;refine AX ?_;refine AX ?_;refine AQ ?_;refine Aj AC 1 ?_;refine Ac AC 0 rfl (DR (AB rfl) rfl (C3 (a:= .sl 1 (c2.map cdI.enc)) kr (Bn (el:=3) kr))) ?_
  let p1:Nat×AV:=(2,.sl 1 (c2.map cdI.enc))
  let p2:Nat×AV:=(1,.sl 9 (x1.map AE.enc))
  let p3:Nat×AV:=(0,.sl 5 (x0.map AA.enc))
  refine B6 AC [p3,p2,p1,(7,e3),(15,.b (decide ((c2.length:Int) > 0)))] ?_;refine Bo (b:=(decide ((c2.length:Int) > 0))) kr (fun hb5=>?_) (fun hb5=>?_)
  ·rw [if_pos hb5] at h
   refine SemY.skip ?_;refine BZ ?_;refine Bf AC [p3,p2,p1,(7,e3),(8,.e0),(9,.e0)] ?_;refine AX ?_;refine Bf AC [p3,p2,p1,(7,e3),(8,.e0),(9,.e0),(10,.j 0)] ?_;refine BZ ?_
   have hT6:=(T.e0 (k:=1) (ty:=3) (o:=(ocV cdI)) hT)
   have hT7:=(T.e0 (k:=1) (ty:=3) (o:=(ocV cdI)) hT6)
   have hT74:=((hT7.front 1 rfl).front 2 rfl)
   refine SemY.loop (n:=100000) ?_;obtain ⟨r75,hr75,h⟩:=OB h;refine DT (CJ WkY.f1 (Q4 x0 x1 c2 e3 c4 _ 0 ([]:(List Int)) ([]:(List Int)) _ hr75 .e0 .e0 hp hT74)) ?_;rintro _ ⟨e76,e77,hp78,hT79,rfl⟩;refine AX ?_;refine AX ?_;refine AQ ?_;refine Aj AC 1 ?_
   have hT80:=(hT79.front 1 rfl)
   refine Ac AC 0 rfl (DR (AB rfl) rfl (C3 (a:=e76) kr (We hT80 kr))) ?_;refine B6 AC [p3,p2,(7,e3),(8,e76),(9,e77),(60,.b ((r75.1.length:Int)==0))] ?_;refine Bo (b:=((r75.1.length:Int)==0)) kr (fun hb81=>?_) (fun hb81=>?_)
   ·rw [if_pos hb81] at h
    refine Bf AC [(6,e3)] ?_;refine SemY.ret ?_;have hq:=OI h; subst hq
    have hT83:=(hT80.front 1 rfl)
    obtain ⟨hp84,hw85,hT86⟩:=Gw (E:=E0) (n:=68) (l:=[(6,e3)]) (l':=[(6,.sl 1 (c4.map (cdL 1 cdI).enc))]) hT83 ⟨⟨e3,kr,Gv⟩,trivial⟩
    have hT87:=hT86.drop.drop
    exact ⟨rfl,_,⟨hp84,hT87,rfl⟩,(WkY.trans (WkY.trans WkY.f1 hw85) WkY.f1)⟩
   ·rw [Bm hb81] at h
    refine SemY.skip ?_;refine AX ?_;refine AQ ?_;refine Aj AC 2 ?_;obtain ⟨hp88,hw89,hT90⟩:=Gw (E:=E0) (n:=68) (l:=[p3,p2,(9,e77),(62,e3),(63,e76)]) (l':=[p3,p2,(9,e77),(62,e3),(63,.sl 1 (r75.1.map cdI.enc))]) hT80 ⟨⟨.sl 5 (x0.map AA.enc),kr,FzU.refl⟩,⟨.sl 9 (x1.map AE.enc),kr,FzU.refl⟩,⟨e77,kr,FzU.refl⟩,⟨e3,kr,FzU.refl⟩,⟨e76,kr,Gv⟩,trivial⟩;refine VH (WkY.trans WkY.f1 hw89) ?_;obtain ⟨e94,hp91,hb92,hT93⟩:=Iq (P:=Tryz.prog) (bytes:=24) (k:=1) (t:=48) (ty:=46) (xs:=([r75.1]:List (List Int))) (n:=1) (SS (k:=1) (fun _=>⟨rfl,rfl,rfl⟩)) (ID (c:=(cdL 1 cdI)) (xs:=([r75.1]:List (List Int))) hT90) rfl kr kr kr;refine Ac AC 0 rfl (Vh (AB rfl) rfl kr (Rj (xs:=Nr 0 [.sl 1 (r75.1.map cdI.enc)]) kr hb92)) ?_;by_cases hk99:(EK 24 (c4.length + ([r75.1]:List (List Int)).length))=true
    case neg=>rw [if_neg hk99] at h; cases h
    rw [if_pos hk99] at h
    have hT100:=((hT93.front 0 rfl).front 1 rfl)
    obtain ⟨e98,hp95,hb96,hT97⟩:=Ik (P:=Tryz.prog) (ty:=46) (ty2:=46) (bytes:=24) hT100 kr kr hk99;refine Ac AC 0 rfl (S4 (AB rfl) rfl kr kr (Dq (a:=e3) (b:=e94) kr kr hb96)) ?_;refine B6 AC [p3,p2,(7,e98),(9,e77)] ?_;refine AQ ?_;refine Aj AC 2 ?_;refine BU rfl ?_
    have hT101:=(hT97.front 1 rfl)
    obtain ⟨hp102,hw103,hT104⟩:=Gw (E:=E0) (n:=68) (l:=[p3,p2,(2,e77),(7,e98)]) (l':=[p3,p2,(2,.sl 1 (r75.2.map cdI.enc)),(7,e98)]) hT101 ⟨⟨.sl 5 (x0.map AA.enc),kr,FzU.refl⟩,⟨.sl 9 (x1.map AE.enc),kr,FzU.refl⟩,⟨e77,kr,Gv⟩,⟨e98,kr,FzU.refl⟩,trivial⟩;exact CJ (WkY.trans (WkY.trans WkY.f1 hw103) WkY.f1) (ih0 r75.2 (c4++([r75.1]:List (List Int))) _ h e98 hp102 hT104)
  ·rw [Bm hb5] at h
   refine SemY.exit ?_;have hq:=OI h; subst hq;exact ⟨rfl,_,⟨e3,hp,hT,rfl⟩,WkY.f1⟩
theorem SZ {L:List Asn}{hp:Hp}(x0:(List AF)) (x1:(List An)) (x2:(List Int)) (r:(List (List Int))) (h:G9 x0 x1 x2=some r) (hT:T hp (L)):SemY E0 ⟨none,false⟩ Hd ⟨Fr 68 (A6 0 [.sl 5 (x0.map AA.enc),.sl 9 (x1.map AE.enc),.sl 1 (x2.map cdI.enc)]),hp⟩ fun x s'=>(x = .normal\/x = .ret)/\∃ ys,EZ E0.P s'.fr s'.hp Tryz.f117.results.toList=some ys/\(fun v h'=>v = .sl 1 (r.map (cdL 1 cdI).enc)/\T h' (L)) (Ee ys) s'.hp:=by
 unfold G9 at h
 let p1:Nat×AV:=(2,.sl 1 (x2.map cdI.enc))
 let p2:Nat×AV:=(1,.sl 9 (x1.map AE.enc))
 let p3:Nat×AV:=(0,.sl 5 (x0.map AA.enc))
 refine KO (Lt (s1:=⟨Fr 68 [p3,p2,p1],hp⟩) WkY.f1 ?_);refine Bf AC [p3,p2,p1] ?_;refine Bf AC [p3,p2,p1,(7,.e0)] ?_;refine AX ?_;refine BZ ?_
 have hT1:=(T.e0 (k:=1) (ty:=48) (o:=(ocV (cdL 1 cdI))) hT)
 refine SemY.loop (n:=100000) ?_;obtain ⟨r107,hr107,h⟩:=OB h;rcases r107 with w108 | w115
 ·try dsimp only at h
  refine DT (CJ WkY.f1 (Mx x0 x1 _ x2 ([]:(List (List Int))) _ hr107 .e0 hp hT1)) ?_;rintro _ ⟨e109,hp110,hT111,rfl⟩;refine Bf AC [(6,e109)] ?_;refine SemY.ret ?_;have hq:=OI h; subst hq
  let p4:Nat×AV:=(6,.sl 1 (w108.map (cdL 1 cdI).enc))
  obtain ⟨hp112,hw113,hT114⟩:=Gw (E:=E0) (n:=68) (l:=[(6,e109)]) (l':=[p4]) hT111 ⟨⟨e109,kr,Gv⟩,trivial⟩;exact ⟨⟨Fr 68 [p4],hp112⟩,(WkY.trans (WkY.trans WkY.f1 hw113) WkY.f1),.inr rfl,[.sl 1 (w108.map (cdL 1 cdI).enc)],kr,⟨rfl,hT114⟩⟩
 ·try dsimp only at h
  refine DT (CJ WkY.f1 (Mx x0 x1 _ x2 ([]:(List (List Int))) _ hr107 .e0 hp hT1)) ?_;rintro _ ⟨hp116,hT117,rfl⟩;have hq:=OI h; subst hq;exact ⟨⟨Fr 68 [(6,.sl 1 (w115.map (cdL 1 cdI).enc))],hp116⟩,WkY.f1,.inr rfl,[.sl 1 (w115.map (cdL 1 cdI).enc)],kr,⟨rfl,hT117⟩⟩
def MC:Cs ((List AF)×(List An)×(List Int)×Unit):=(csC (cdL 5 AA) (csC (cdL 9 AE) (csC (cdL 1 cdI) csN)))
def O6 (r:(List (List Int))):AV:=(cdL 1 (cdL 1 cdI)).enc r
def Uj:List AV->Option AV:=ES MC (fun a=>G9 a.1 a.2.1 a.2.2.1) O6
theorem Ut:XOk 117 Uj:=by
 refine AU Tryz.func117 (c:=Hd) ?h2 ⟨Tryz.call117⟩ MC (fun a=>G9 a.1 a.2.1 a.2.2.1) O6 (fun a=>(by show 3<=68; decide)) ?h3 ?h4
 case h2=>kernel_rfl
 case h3=>intro b; kernel_rfl
 case h4 =>
  intro a b h;refine Sem.mono (TC (SZ (L:=[]) (hp:=[]) a.1 a.2.1 a.2.2.1 b h T.nil)) fun e s' hs=>?_
  obtain ⟨h1,ys,h2,h3,-⟩:=hs;exact ⟨h1,ys,h2,h3⟩
/- trestle/trestleref03.single -/
noncomputable def L3:Code:=BL Tryz.f116
def FZ (x0:(List (List Int))):Nat->(List Int)->Int->Option (((List Int)) ⊕ (Int))
 | 0,_,_=>none
 | f + 1,c1,c2 =>
  if (decide (c2 < (x0.length:Int)))=true then
  (idx x0 c2).bind fun v4 =>
  if ((v4.length:Int)!=1)=true then
  some (.inr 32)
  else
  (idx x0 c2).bind fun v7 =>
  (idx v7 0).bind fun v8 =>
  if (EK 8 (c1.length + 1))=true then
  FZ x0 f (c1++[v8]) (wr .i64 (c2 + 1))
  else none
  else
  some (.inl c1)
def Hj (x0:(List (List Int))):Option ((List Int)×Int) :=
 (FZ x0 100000 [] 0).bind fun r11 =>
 match r11 with
 | (.inl w12) =>
  some (w12,0)
 | (.inr w13) =>
  some ([],w13)
def Jg:Cs ((List (List Int))×Unit):=(csC (cdL 1 (cdL 1 cdI)) csN)
def MK (r:(List Int)×Int):AV:= .tp [(cdL 1 cdI).enc r.1,cdI.enc r.2]
theorem My (x0:(List (List Int))):∀ (f:Nat) (c1:(List Int)) (c2:Int) (r:((List Int)) ⊕ (Int)),FZ x0 f c1 c2=some r->SemN E0 ⟨none,false⟩ (pc L3 [1,1,0,1,0,0]) f ⟨Fr 28 [(0,.sl 1 (x0.map (cdL 1 cdI).enc)),(4,hd 0 (c1.map cdI.enc)),(5,.j c2)],[mk 1 3 (c1.map cdI.enc)]⟩ (fun e s=>match r with
 | (.inl w)=>e=(.exit 0)/\Wk E0 s ⟨Fr 28 [(4,hd 0 (w.map cdI.enc))],[mk 1 3 (w.map cdI.enc)]⟩
 | (.inr w)=>e = .ret/\Wk E0 s ⟨Fr 28 [(2,.e0),(3,.j w)],[]⟩):=by
 intro f;induction f with
 | zero=>intro c1 c2 r h; cases h
 | succ f ih0 =>
  intro c1 c2 r h
  have ih:=fun (c1:(List Int)) (c2:Int)=>ih0 c1 c2 r
  unfold FZ at h;refine CI ?_;refine AH ?_;refine AH ?_
  let p1:Option Blk:=mk 1 3 (c1.map cdI.enc)
  let p2:Nat×AV:=(5,.j c2)
  let p3:Nat×AV:=(4,hd 0 (c1.map cdI.enc))
  let p4:Nat×AV:=(0,.sl 1 (x0.map (cdL 1 cdI).enc))
  refine AM (s1:=⟨Fr 28 [p4,p3,p2,(9,.b (decide (c2 < (x0.length:Int))))],[p1]⟩) ?_ ?_
  ·refine AD (n:=28) AC 2 [p4,p3,p2,(6,.j c2),(7,.sl 1 (x0.map (cdL 1 cdI).enc))] [p1] kr ?_
   refine AZ AC 0 rfl (DR (AB rfl) rfl (C3 (a:= .sl 1 (x0.map (cdL 1 cdI).enc)) kr (Bn (el:=48) kr))) ?_;exact Ad AC
  refine AT (b:=(decide (c2 < (x0.length:Int)))) kr (fun hb3=>?_) (fun hb3=>?_)
  ·rw [if_pos hb3] at h
   refine AY ?_;refine AH ?_;refine Al ?_;refine AH ?_;refine AH ?_;obtain ⟨v4,hv4,h⟩:=OB h;refine AM (s1:=⟨Fr 28 [p4,p3,p2,(17,.b ((v4.length:Int)!=1))],[p1]⟩) ?_ ?_
   ·refine AD (n:=28) AC 2 [p4,p3,p2,(12,.sl 1 (x0.map (cdL 1 cdI).enc)),(13,.j c2)] [p1] kr ?_
    refine AZ AC 0 rfl (DR (AB rfl) rfl (AP (a:= .sl 1 (x0.map (cdL 1 cdI).enc)) (b:= .j c2) kr kr (Di (e:=(cdL 1 cdI).enc) (el:=48) (k:=1) (ki:= .i64) kr kr hv4))) ?_;refine AD (n:=28) AC 1 [p4,p3,p2,(15,.sl 1 (v4.map cdI.enc))] [p1] kr ?_;refine AZ AC 0 rfl (DR (AB rfl) rfl (C3 (a:= .sl 1 (v4.map cdI.enc)) kr (Bn (el:=3) kr))) ?_;exact Ad AC
   refine AT (b:=((v4.length:Int)!=1)) kr (fun hb5=>?_) (fun hb5=>?_)
   ·rw [if_pos hb5] at h
    refine AH ?_;refine AM (s1:=⟨Fr 28 [(2,.e0),(3,.j 32)],[]⟩) ?_ ?_
    ·refine AD (n:=28) AC 2 [(2,.e0),(3,.j 32)] [p1] kr ?_
     exact AI rfl (Ar [] trivial ⟨lv,lv,trivial⟩)
    refine AR ?_;have hq:=OI h; subst hq;exact ⟨rfl,AJ⟩
   ·rw [Bm hb5] at h
    refine AY ?_;obtain ⟨v7,hv7,h⟩:=OB h;obtain ⟨v8,hv8,h⟩:=OB h;by_cases hk9:(EK 8 (c1.length + 1))=true
    case neg=>rw [if_neg hk9] at h; cases h
    rw [if_pos hk9] at h
    let p5:Option Blk:=mk 1 3 ((c1++[v8]).map cdI.enc)
    let p6:Nat×AV:=(4,hd 0 ((c1++[v8]).map cdI.enc))
    refine AM (s1:=⟨Fr 28 [p4,p6,p2],[p5]⟩) ?_ ?_
    ·let p7:Nat×AV:=(18,hd 0 (c1.map cdI.enc))
     refine AD (n:=28) AC 3 [p4,p2,p7,(19,.sl 1 (x0.map (cdL 1 cdI).enc)),(20,.j c2)] [p1] kr ?_;refine AZ AC 0 rfl (DR (AB rfl) rfl (AP (a:= .sl 1 (x0.map (cdL 1 cdI).enc)) (b:= .j c2) kr kr (Di (e:=(cdL 1 cdI).enc) (el:=48) (k:=1) (ki:= .i64) kr kr hv7))) ?_;refine AD (n:=28) AC 1 [p4,p2,p7,(22,.sl 1 (v7.map cdI.enc))] [p1] kr ?_;refine AZ AC 0 rfl (DR (AB rfl) rfl (AP (a:= .sl 1 (v7.map cdI.enc)) (b:= .j 0) kr kr (Di (e:=cdI.enc) (el:=3) (k:=1) (ki:= .i64) kr kr hv8))) ?_;refine AD (n:=28) AC 2 [p4,p2,p7,(25,hd 1 ([v8].map cdI.enc))] [p1,mk 1 3 ([v8].map cdI.enc)] kr ?_;refine AZ AC 0 rfl (S4 (AB rfl) rfl kr kr (Dq (a:=hd 0 (c1.map cdI.enc)) (b:=hd 1 ([v8].map cdI.enc)) kr kr (PY (c:=cdI) (xs:=c1) (vs:=[v8]) (k:=1) (bytes:=8) (el:=3) kr kr (IC (t:=3) kr) (List.cons_ne_nil _ _) kr hk9))) ?_;refine AD (n:=28) AC 1 [p4,(4,hd 2 ((c1++[v8]).map cdI.enc)),p2] [none,mk 1 3 ([v8].map cdI.enc),p5] kr ?_;exact AI rfl (Ar [2] ⟨⟨_,rfl,MY⟩,trivial⟩ ⟨lv,Ma (b':=2) kr kr,lv,trivial⟩)
    let p8:Nat×AV:=(5,.j (wr .i64 (c2 + 1)))
    refine D1 AC [p4,p6,p8] [p5] ?_;exact Aq (s1:=⟨Fr 28 [p4,p6,p8],[p5]⟩) (Ar [0] ⟨⟨_,rfl,MY⟩,trivial⟩ ⟨lv,Ma (b':=0) kr kr,lv,trivial⟩) (ih (c1++[v8]) (wr .i64 (c2 + 1)) h)
  ·rw [Bm hb3] at h
   refine C6 ?_;have hq:=OI h; subst hq;exact ⟨rfl,(Ar [0] ⟨⟨_,rfl,MY⟩,trivial⟩ ⟨Ma (b':=0) kr kr,trivial⟩)⟩
theorem Sa (x0:(List (List Int))) (r:(List Int)×Int) (h:Hj x0=some r):Sem E0 ⟨none,false⟩ L3 ⟨Fr 28 (A6 0 (Jg.enc (x0,()))),[]⟩ fun e s'=>(e = .normal\/e = .ret)/\∃ xs,EZ E0.P s'.fr s'.hp Tryz.f116.results.toList=some xs/\Ee xs=MK r:=by
 unfold Hj at h
 let p1:Nat×AV:=(0,.sl 1 (x0.map (cdL 1 cdI).enc))
 refine Ax (BY (s1:=⟨Fr 28 [p1],[]⟩) AJ ?_);refine AK AC [p1] [] ?_;refine AK AC [p1,(4,.e0)] [] ?_;refine AH ?_
 let p2:Nat×AV:=(5,.j 0)
 refine AK AC [p1,(4,.e0),p2] [] ?_;refine Al ?_;obtain ⟨r11,hr11,h⟩:=OB h;refine DB (n:=100000) ?_;rcases r11 with w12 | w13
 ·try dsimp only at h
  refine BB (Aq (s1:=⟨Fr 28 [p1,(4,hd 0 ([].map cdI.enc)),p2],[mk 1 3 ([].map cdI.enc)]⟩) (Wk.trans (s1:=⟨Fr 28 [p1,(4,hd 0 ([].map cdI.enc)),p2],[mk 1 3 ([].map cdI.enc)]⟩) Wk.none (Ar [0] ⟨⟨_,rfl,P7⟩,trivial⟩ ⟨lv,lv,lv,trivial⟩)) (My x0 _ [] 0 _ hr11)) ?_
  let p3:Nat×AV:=(3,.j 0)
  refine AK AC [(2,hd 0 (w12.map cdI.enc)),p3] [mk 1 3 (w12.map cdI.enc)] ?_;refine AR ?_;have hq:=OI h; subst hq;exact ⟨⟨Fr 28 [(2,.sl 1 (w12.map cdI.enc)),p3],[]⟩,(Wk.trans (s1:=⟨Fr 28 [(2,.sl 1 (w12.map cdI.enc)),p3],[none]⟩) (M0 0 (.inl kr) ⟨.inl rfl,trivial⟩ ⟨⟨hd 0 (w12.map cdI.enc),kr,Yh (t:=3) kr Px⟩,⟨.j 0,kr,.inl rfl⟩,trivial⟩) (Ar [] trivial ⟨lv,lv,trivial⟩)),.inr rfl,[.sl 1 (w12.map cdI.enc),.j 0],kr,kr⟩
 ·try dsimp only at h
  refine BB (Aq (s1:=⟨Fr 28 [p1,(4,hd 0 ([].map cdI.enc)),p2],[mk 1 3 ([].map cdI.enc)]⟩) (Wk.trans (s1:=⟨Fr 28 [p1,(4,hd 0 ([].map cdI.enc)),p2],[mk 1 3 ([].map cdI.enc)]⟩) Wk.none (Ar [0] ⟨⟨_,rfl,P7⟩,trivial⟩ ⟨lv,lv,lv,trivial⟩)) (My x0 _ [] 0 _ hr11)) ?_;have hq:=OI h; subst hq
  let p4:Nat×AV:=(3,.j w13)
  exact ⟨⟨Fr 28 [(2,.sl 1 ([].map cdI.enc)),p4],[]⟩,(Wk.trans (s1:=⟨Fr 28 [(2,.e0),p4],[]⟩) AJ (Wk.trans (s1:=⟨Fr 28 [(2,.e0),p4],[none]⟩) Wk.none (Wk.trans (s1:=⟨Fr 28 [(2,.sl 1 ([].map cdI.enc)),p4],[none]⟩) (M0 0 (.inr kr) ⟨.inl rfl,trivial⟩ ⟨⟨.e0,kr,ACS⟩,⟨.j w13,kr,.inl rfl⟩,trivial⟩) (Ar [] trivial ⟨lv,lv,trivial⟩)))),.inr rfl,[.sl 1 ([].map cdI.enc),.j w13],kr,kr⟩
def Uk:List AV->Option AV:=ES Jg (fun a=>Hj a.1) MK
theorem Uu:XOk 116 Uk:=by
 refine AU Tryz.func116 (c:=L3) ?h2 ⟨Tryz.call116⟩ Jg (fun a=>Hj a.1) MK (fun a=>(by show 1<=28; decide)) ?h3 ?h4
 case h2=>kernel_rfl
 case h3=>intro b; kernel_rfl
 case h4=>exact fun a b h=>Sa a.1 b h
/- trestle/trestleref03.Alternate -/
noncomputable def De:Code:=BL Tryz.f93
def G6 (c43:Int) (c45:(List Int)) (v47:An) (v48:(List UInt8)):Option (((List Int))) :=
 if (v47.2.2.1==v48)=true then
 if (EK 8 (c45.length + ([c43]:List Int).length))=true then
 some (c45++([c43]:List Int))
 else none
 else
 some c45
def Df (x1:(List (List UInt8))) (x2:(List An)) (c16:Int):Nat->Int->(List Int)->Option (((List Int)))
 | 0,_,_=>none
 | f + 1,c43,c45 =>
  if (decide (c43 < (x2.length:Int)))=true then
  (idx x2 c43).bind fun v47 =>
  (idx x1 c16).bind fun v48 =>
  (G6 c43 c45 v47 v48).bind fun r63 =>
  Df x1 x2 c16 f (wr .i64 (c43 + 1)) r63
  else
  some c45
def ref03_Alternate_l1 (x0:(List (List AF))) (x1:(List (List UInt8))) (x2:(List An)):Nat->Int->(List (List Int))->Option (((List (List Int))) ⊕ (Int))
 | 0,_,_=>none
 | f + 1,c16,c18 =>
  if (decide (c16 < (x0.length:Int)))=true then
  (idx x1 c16).bind fun v20 =>
  (if (!(v20==[]))=true then (idx x1 c16).bind fun v21 =>
  (Lh v21).bind fun v22 =>
  some (!v22) else some false).bind fun j23 =>
  if j23=true then
  some (.inr 4)
  else
  if (KA 0 c16 x1.length)=true then
  (idx x1 c16).bind fun v34 =>
  (H7 ((x1.take c16.toNat).drop (0:Int).toNat) v34).bind fun v35 =>
  if v35=true then
  some (.inr 5)
  else
  (idx x0 c16).bind fun v38 =>
  (JC v38).bind fun v39 =>
  if (v39.2 != 0)=true then
  some (.inr v39.2)
  else
  (Df x1 x2 c16 100000 0 ([]:(List Int))).bind fun r70 =>
  (idx x0 c16).bind fun v74 =>
  (G9 v74 x2 r70).bind fun v79 =>
  (Hj v79).bind fun v80 =>
  if (v80.2 != 0)=true then
  some (.inr v80.2)
  else
  if (EK 24 (c18.length + ([v80.1]:List (List Int)).length))=true then
  ref03_Alternate_l1 x0 x1 x2 f (wr .i64 (c16 + 1)) (c18++([v80.1]:List (List Int)))
  else none
  else none
  else
  some (.inl c18)
def G7 (c107:Bool) (c108:Int) (c109:(List (List Int))) (c111:(List Int)) (v113:(List Int)):Option ((Bool×(List (List Int))×(List Int))) :=
 if (decide ((v113.length:Int) > 0))=true then
 (idx c109 c108).bind fun v115 =>
 (idx v115 0).bind fun v116 =>
 if (EK 8 (c111.length + ([v116]:List Int).length))=true then
 (idx c109 c108).bind fun v127 =>
 if (KA 1 (v127.length:Int) v127.length)=true then
 (idx c109 c108).bind fun v130 =>
 some (true,(c109.set c108.toNat ((v127.take (v127.length:Int).toNat).drop (1:Int).toNat)),(c111++([v116]:List Int)))
 else none
 else none
 else
 some (c107,c109,c111)
def Cw  : Nat->Bool->Int->(List (List Int))->(List Int)->Option ((Bool×(List (List Int))×(List Int)))
 | 0,_,_,_,_=>none
 | f + 1,c107,c108,c109,c111 =>
  if (decide (c108 < (c109.length:Int)))=true then
  (idx c109 c108).bind fun v113 =>
  (G7 c107 c108 c109 c111 v113).bind fun r138 =>
  Cw f r138.1 (wr .i64 (c108 + 1)) r138.2.1 r138.2.2
  else
  some (c107,c109,c111)
def B5  : Nat->Bool->(List (List Int))->(List Int)->Option (((List Int)))
 | 0,_,_,_=>none
 | f + 1,c102,c103,c105 =>
  if c102=true then
  (Cw  100000 false 0 c103 c105).bind fun r146 =>
  B5 f r146.1 r146.2.1 r146.2.2
  else
  some c105
def G8 (c158:Int) (c160:(List Int)) (v163:Bool):Option (((List Int))) :=
 if (!v163)=true then
 if (EK 8 (c160.length + ([c158]:List Int).length))=true then
 some (c160++([c158]:List Int))
 else none
 else
 some c160
def Cy (x1:(List (List UInt8))) (x2:(List An)):Nat->Int->(List Int)->Option (((List Int)))
 | 0,_,_=>none
 | f + 1,c158,c160 =>
  if (decide (c158 < (x2.length:Int)))=true then
  (idx x2 c158).bind fun v162 =>
  (H7 x1 v162.2.2.1).bind fun v163 =>
  (G8 c158 c160 v163).bind fun r177 =>
  Cy x1 x2 f (wr .i64 (c158 + 1)) r177
  else
  some c160
def Gc (x0:(List (List AF))) (x1:(List (List UInt8))) (x2:(List An)):Option ((List Int)×Int) :=
 (if (decide ((x0.length:Int) > 16))=true then some true else some (decide ((x2.length:Int) > 64))).bind fun j1 =>
 if j1=true then
 some (([]:(List Int)),7)
 else
 if ((x0.length:Int)!=(x1.length:Int))=true then
 some (([]:(List Int)),2)
 else
 (ref03_Alternate_l1 x0 x1 x2 100000 0 ([]:(List (List Int)))).bind fun r96 =>
 match r96 with
 | (.inl w97) =>
  (B5  100000 true w97 ([]:(List Int))).bind fun r154 =>
  (Cy x1 x2 100000 0 r154).bind fun r183 =>
  some (r183,0)
 | (.inr w190) =>
  some (([]:(List Int)),w190)
theorem PE {L:List Asn}{hp:Hp}(c43:Int) (c45:(List Int)) (v47:An) (v48:(List UInt8)) (x0:(List (List AF))) (x1:(List (List UInt8))) (x2:(List An)) (c16:Int) (e17:AV) (c18:(List (List Int))) (e44:AV) (r:((List Int))) (h:G6 c43 c45 v47 v48=some r) (hT:T hp ((own_ (ocL 1 48 (ocV (cdL 1 cdI))) e17 c18)::(own_ (ocL 1 3 (ocV cdI)) e44 c45)::L)):SemY E0 ⟨none,false⟩ (pc De [1,1,1,1,0,1,0,0,1,0,0,1,1,1,1,0,1,0,0,1,0,0,1]) ⟨Fr 158 [(0,.sl 1 (x0.map (cdL 5 AA).enc)),(1,.sl 1 (x1.map cdS.enc)),(2,.sl 9 (x2.map AE.enc)),(8,e17),(9,.j c16),(12,e44),(13,.j c43),(86,.b (v47.2.2.1==v48))],hp⟩ (fun e s=>e = .normal/\∃ s2,(∃ (e60:AV) (h':Hp),T h' ((own_ (ocL 1 48 (ocV (cdL 1 cdI))) e17 c18)::(own_ (ocL 1 3 (ocV cdI)) e60 r)::L)/\s2=⟨Fr 158 [(0,.sl 1 (x0.map (cdL 5 AA).enc)),(1,.sl 1 (x1.map cdS.enc)),(2,.sl 9 (x2.map AE.enc)),(8,e17),(9,.j c16),(12,e60),(13,.j c43)],h'⟩)/\WkY E0 s s2):=by
 unfold G6 at h;refine Bo (b:=(v47.2.2.1==v48)) kr (fun hb49=>?_) (fun hb49=>?_)
 ·rw [if_pos hb49] at h
  refine AQ ?_;refine Aj AC 2 ?_;obtain ⟨e53,hp50,hb51,hT52⟩:=Iq (P:=Tryz.prog) (bytes:=8) (k:=1) (t:=3) (ty:=48) (xs:=([c43]:List Int)) (n:=1) (SS (k:=1) (fun _=>⟨rfl,rfl,rfl⟩)) (ID (c:=cdI) (xs:=([c43]:List Int)) hT) rfl kr kr kr;refine Ac AC 0 rfl (Vh (AB rfl) rfl kr (Rj (xs:=Nr 0 [.j c43]) kr hb51)) ?_;by_cases hk58:(EK 8 (c45.length + ([c43]:List Int).length))=true
  case neg=>rw [if_neg hk58] at h; cases h
  rw [if_pos hk58] at h
  have hT59:=((hT52.front 0 rfl).front 2 rfl)
  obtain ⟨e57,hp54,hb55,hT56⟩:=Ik (P:=Tryz.prog) (ty:=48) (ty2:=48) (bytes:=8) hT59 kr kr hk58;refine Ac AC 0 rfl (S4 (AB rfl) rfl kr kr (Dq (a:=e44) (b:=e53) kr kr hb55)) ?_;refine Aj AC 1 ?_;refine BU rfl ?_;have hq:=OI h; subst hq
  have hT62:=(hT56.front 1 rfl)
  exact ⟨rfl,_,⟨e57,hp54,hT62,rfl⟩,WkY.f1⟩
 ·rw [Bm hb49] at h
  refine SemY.skip ?_;have hq:=OI h; subst hq;exact ⟨rfl,_,⟨e44,hp,hT,rfl⟩,WkY.f1⟩
theorem PH {L:List Asn}(x1:(List (List UInt8))) (x2:(List An)) (c16:Int) (x0:(List (List AF))) (e17:AV) (c18:(List (List Int))):∀ (f:Nat) (c43:Int) (c45:(List Int)) (r:((List Int))),Df x1 x2 c16 f c43 c45=some r->∀ (e44:AV) (hp:Hp),T hp ((own_ (ocL 1 48 (ocV (cdL 1 cdI))) e17 c18)::(own_ (ocL 1 3 (ocV cdI)) e44 c45)::L)->SemYN E0 ⟨none,false⟩ (pc De [1,1,1,1,0,1,0,0,1,0,0,1,1,1,1,0,1,0,0]) f ⟨Fr 158 [(0,.sl 1 (x0.map (cdL 5 AA).enc)),(1,.sl 1 (x1.map cdS.enc)),(2,.sl 9 (x2.map AE.enc)),(8,e17),(9,.j c16),(12,e44),(13,.j c43)],hp⟩ (fun e s=>e=(.exit 2)/\∃ s2,(∃ (e67:AV) (h':Hp),T h' ((own_ (ocL 1 48 (ocV (cdL 1 cdI))) e17 c18)::(own_ (ocL 1 3 (ocV cdI)) e67 r)::L)/\s2=⟨Fr 158 [(0,.sl 1 (x0.map (cdL 5 AA).enc)),(1,.sl 1 (x1.map cdS.enc)),(2,.sl 9 (x2.map AE.enc)),(8,e17),(9,.j c16),(12,e67)],h'⟩)/\WkY E0 s s2):=by
 intro f;induction f with
 | zero=>intro c43 c45 r h; cases h
 | succ f ih0 =>
  intro c43 c45 r h e44 hp hT;unfold Df at h;refine D2 ?_;refine AX ?_;refine AX ?_;refine AQ ?_;refine Aj AC 2 ?_;refine Ac AC 0 rfl (DR (AB rfl) rfl (C3 (a:= .sl 9 (x2.map AE.enc)) kr (Bn (el:=42) kr))) ?_
  let p1:Nat×AV:=(0,.sl 1 (x0.map (cdL 5 AA).enc))
  refine B6 AC [p1,(1,.sl 1 (x1.map cdS.enc)),(2,.sl 9 (x2.map AE.enc)),(8,e17),(9,.j c16),(12,e44),(13,.j c43),(74,.b (decide (c43 < (x2.length:Int))))] ?_;refine Bo (b:=(decide (c43 < (x2.length:Int)))) kr (fun hb46=>?_) (fun hb46=>?_)
  ·rw [if_pos hb46] at h
   refine SemY.skip ?_;refine AX ?_;refine BZ ?_;refine AX ?_;refine Ln 10 AC.mixed kr kr ?_;refine RunDT.q (x:= .sl 9 (x2.map AE.enc)) rfl kr rfl (AB rfl) rfl kr kr ?_;refine RunDT.q (x:= .j c43) rfl kr rfl (AB rfl) rfl kr kr ?_;obtain ⟨v47,hv47,h⟩:=OB h;refine RunDT.q (x:= .pe (AE.enc v47) 0) rfl kr rfl (AB rfl) rfl (AP (a:= .sl 9 (x2.map AE.enc)) (b:= .j c43) kr kr (Di (e:=AE.enc) (el:=42) (k:=9) (ki:= .i64) kr kr hv47)) kr ?_;refine RunDT.q (x:= .pe (AE.enc v47) 2) rfl kr rfl (AB rfl) rfl kr kr ?_;refine RunDT.q (x:= .st v47.2.2.1) rfl kr rfl (AB rfl) rfl kr kr ?_;refine RunDT.q (x:= .sl 1 (x1.map cdS.enc)) rfl kr rfl (AB rfl) rfl kr kr ?_;refine RunDT.q (x:= .j c16) rfl kr rfl (AB rfl) rfl kr kr ?_;obtain ⟨v48,hv48,h⟩:=OB h;refine RunDT.q (x:= .pe (.st v48) 0) rfl kr rfl (AB rfl) rfl (AP (a:= .sl 1 (x1.map cdS.enc)) (b:= .j c16) kr kr (Di (e:=cdS.enc) (el:=9) (k:=1) (ki:= .i64) kr kr hv48)) kr ?_;refine RunDT.q (x:= .st v48) rfl kr rfl (AB rfl) rfl kr kr ?_;refine RunDT.q (x:= .b (v47.2.2.1==v48)) rfl kr rfl (AB rfl) rfl kr kr ?_;refine RunDT.done rfl (SemY.fr (l':=[p1,(1,.sl 1 (x1.map cdS.enc)),(2,.sl 9 (x2.map AE.enc)),(8,e17),(9,.j c16),(12,e44),(13,.j c43),(86,.b (v47.2.2.1==v48))]) kr ?_);obtain ⟨r63,hr63,h⟩:=OB h;refine I0 (PE c43 c45 v47 v48 x0 x1 x2 c16 e17 c18 e44 _ hr63 hT) ?_;rintro _ ⟨e64,hp65,hT66,rfl⟩;refine AQ ?_;refine Aj AC 3 ?_;refine BU rfl ?_;exact CJ WkY.f1 (ih0 (wr .i64 (c43 + 1)) r63 _ h e64 hp65 hT66)
  ·rw [Bm hb46] at h
   refine SemY.exit ?_;have hq:=OI h; subst hq;exact ⟨rfl,_,⟨e44,hp,hT,rfl⟩,WkY.f1⟩
theorem KW {L:List Asn}(x0:(List (List AF))) (x1:(List (List UInt8))) (x2:(List An)):∀ (f:Nat) (c16:Int) (c18:(List (List Int))) (r:((List (List Int))) ⊕ (Int)),ref03_Alternate_l1 x0 x1 x2 f c16 c18=some r->∀ (e17:AV) (hp:Hp),T hp ((own_ (ocL 1 48 (ocV (cdL 1 cdI))) e17 c18)::L)->SemYN E0 ⟨none,false⟩ (pc De [1,1,1,1,0,1,0,0]) f ⟨Fr 158 [(0,.sl 1 (x0.map (cdL 5 AA).enc)),(1,.sl 1 (x1.map cdS.enc)),(2,.sl 9 (x2.map AE.enc)),(8,e17),(9,.j c16)],hp⟩ (fun e s=>match r with
 | (.inl w)=>e=(.exit 0)/\∃ s2,(∃ (e94:AV) (h':Hp),T h' ((own_ (ocL 1 48 (ocV (cdL 1 cdI))) e94 w)::L)/\s2=⟨Fr 158 [(1,.sl 1 (x1.map cdS.enc)),(2,.sl 9 (x2.map AE.enc)),(8,e94)],h'⟩)/\WkY E0 s s2
 | (.inr w)=>e = .ret/\∃ s2,(∃ (h':Hp),T h' (L)/\s2=⟨Fr 158 [(6,.e0),(7,.j w)],h'⟩)/\WkY E0 s s2):=by
 intro f;induction f with
 | zero=>intro c16 c18 r h; cases h
 | succ f ih0 =>
  intro c16 c18 r h e17 hp hT;unfold ref03_Alternate_l1 at h;refine D2 ?_;refine AX ?_;refine AX ?_;refine AQ ?_;refine Aj AC 2 ?_;refine Ac AC 0 rfl (DR (AB rfl) rfl (C3 (a:= .sl 1 (x0.map (cdL 5 AA).enc)) kr (Bn (el:=22) kr))) ?_;refine B6 AC [(0,.sl 1 (x0.map (cdL 5 AA).enc)),(1,.sl 1 (x1.map cdS.enc)),(2,.sl 9 (x2.map AE.enc)),(8,e17),(9,.j c16),(36,.b (decide (c16 < (x0.length:Int))))] ?_;refine Bo (b:=(decide (c16 < (x0.length:Int)))) kr (fun hb19=>?_) (fun hb19=>?_)
  ·rw [if_pos hb19] at h
   refine SemY.skip ?_;refine AX ?_;refine BZ ?_;refine AX ?_;refine AX ?_;obtain ⟨v20,hv20,h⟩:=OB h;obtain ⟨j23,hj23,h⟩:=OB h;refine QV (A:=fun s1=>∃ (h':Hp),T h' ((own_ (ocL 1 48 (ocV (cdL 1 cdI))) e17 c18)::L)/\s1=⟨Fr 158 [(0,.sl 1 (x0.map (cdL 5 AA).enc)),(1,.sl 1 (x1.map cdS.enc)),(2,.sl 9 (x2.map AE.enc)),(8,e17),(9,.j c16),(51,.b j23)],h'⟩) ?_ ?_
   ·refine Aj AC 2 ?_
    refine Ac AC 0 rfl (DR (AB rfl) rfl (AP (a:= .sl 1 (x1.map cdS.enc)) (b:= .j c16) kr kr (Di (e:=cdS.enc) (el:=9) (k:=1) (ki:= .i64) kr kr hv20))) ?_;refine Og (n:=158) AC 3 [(0,.sl 1 (x0.map (cdL 5 AA).enc)),(1,.sl 1 (x1.map cdS.enc)),(2,.sl 9 (x2.map AE.enc)),(8,e17),(9,.j c16),(44,.b (!(v20==[])))] hp kr ?_;rcases BE (!(v20==[])) with hc93 | hc93
    ·rw [if_pos hc93] at hj23
     rw [hc93];refine Aj AC 2 ?_;obtain ⟨v21,hv21,hj23⟩:=OB hj23;refine Ac AC 0 rfl (DR kr rfl (AP (a:= .sl 1 (x1.map cdS.enc)) (b:= .j c16) kr kr (Di (e:=cdS.enc) (el:=9) (k:=1) (ki:= .i64) kr kr hv21))) ?_;refine Aj AC 1 ?_;obtain ⟨v22,hv22,hj23⟩:=OB hj23;refine GP (v:=v22) (caps:=[]) (xs:=[.st v21]) (u:=(v21,())) rfl rfl R8 rfl kr kr kr (Br (Dy (c:=cdS) (v:=v21)) SeesD.nil) (.inl kr) hv22 ?_;refine Aj AC 2 ?_;have hq:=OI hj23; subst hq;exact BU rfl ⟨_,⟨hp,hT,rfl⟩,WkY.f1⟩
    ·rw [Bm hc93] at hj23
     rw [hc93];refine Aj AC 7 ?_;have hq:=OI hj23; subst hq;exact BU rfl ⟨_,⟨hp,hT,rfl⟩,WkY.f1⟩
   rintro _ ⟨hp28,hT29,rfl⟩;refine Bo (b:=j23) kr (fun hb30=>?_) (fun hb30=>?_)
   ·rw [if_pos hb30] at h
    refine Bf AC [(6,.e0),(7,.j 4)] ?_;refine SemY.ret ?_;have hq:=OI h; subst hq
    have hT32:=hT29.drop
    exact ⟨rfl,_,⟨hp28,hT32,rfl⟩,WkY.f1⟩
   ·rw [Bm hb30] at h
    refine SemY.skip ?_;refine AX ?_;refine AX ?_;refine Ln 8 AC.mixed kr kr ?_;refine RunDT.q (x:= .sl 1 (x1.map cdS.enc)) rfl kr rfl (AB rfl) rfl kr kr ?_;refine RunDT.q (x:= .j c16) rfl kr rfl (AB rfl) rfl kr kr ?_;by_cases hk33:(KA 0 c16 x1.length)=true
    case neg=>rw [if_neg hk33] at h; cases h
    rw [if_pos hk33] at h;refine RunDT.q (x:= .sl 1 (((x1.take c16.toNat).drop (0:Int).toNat).map cdS.enc)) rfl kr rfl (AB rfl) rfl (NH (a:= .sl 1 (x1.map cdS.enc)) (l:=none) (u:=(some (.j c16))) (m:=none) kr kr kr rfl (Pe (xs:=x1) (e:=cdS.enc) (k:=1) (el:=9) (lo:=0) (hi:=c16) kr kr rfl (Tb (WJ hk33)) hk33)) kr ?_;refine RunDT.q (x:= .sl 1 (x1.map cdS.enc)) rfl kr rfl (AB rfl) rfl kr kr ?_;refine RunDT.q (x:= .j c16) rfl kr rfl (AB rfl) rfl kr kr ?_;obtain ⟨v34,hv34,h⟩:=OB h;refine RunDT.q (x:= .pe (.st v34) 0) rfl kr rfl (AB rfl) rfl (AP (a:= .sl 1 (x1.map cdS.enc)) (b:= .j c16) kr kr (Di (e:=cdS.enc) (el:=9) (k:=1) (ki:= .i64) kr kr hv34)) kr ?_;refine RunDT.q (x:= .st v34) rfl kr rfl (AB rfl) rfl kr kr ?_;obtain ⟨v35,hv35,h⟩:=OB h;refine Ls (v:=v35) (caps:=[]) (xs:=[.sl 1 (((x1.take c16.toNat).drop (0:Int).toNat).map cdS.enc),.st v34]) (u:=(((x1.take c16.toNat).drop (0:Int).toNat),v34,())) rfl rfl KN rfl (AB rfl) kr kr (Br (Dy (c:=(cdL 1 cdS)) (v:=((x1.take c16.toNat).drop (0:Int).toNat))) (Br (Dy (c:=cdS) (v:=v34)) SeesD.nil)) kr hv35 ?_;refine RunDT.done rfl (SemY.fr (l':=[(0,.sl 1 (x0.map (cdL 5 AA).enc)),(1,.sl 1 (x1.map cdS.enc)),(2,.sl 9 (x2.map AE.enc)),(8,e17),(9,.j c16),(59,.b v35)]) kr ?_);refine Bo (b:=v35) kr (fun hb36=>?_) (fun hb36=>?_)
    ·rw [if_pos hb36] at h
     refine Bf AC [(6,.e0),(7,.j 5)] ?_;refine SemY.ret ?_;have hq:=OI h; subst hq
     have hT37:=hT29.drop
     exact ⟨rfl,_,⟨hp28,hT37,rfl⟩,WkY.f1⟩
    ·rw [Bm hb36] at h
     refine SemY.skip ?_;refine AX ?_;refine AX ?_;refine AQ ?_;refine Aj AC 2 ?_;obtain ⟨v38,hv38,h⟩:=OB h;refine Ac AC 0 rfl (DR (AB rfl) rfl (AP (a:= .sl 1 (x0.map (cdL 5 AA).enc)) (b:= .j c16) kr kr (Di (e:=(cdL 5 AA).enc) (el:=22) (k:=1) (ki:= .i64) kr kr hv38))) ?_;refine Aj AC 1 ?_;obtain ⟨v39,hv39,h⟩:=OB h;refine GP (v:=v39) (caps:=[]) (xs:=[.sl 5 (v38.map AA.enc)]) (u:=(v38,())) rfl rfl V9 rfl (AB rfl) kr kr (Br (Dy (c:=(cdL 5 AA)) (v:=v38)) SeesD.nil) (.inl kr) hv39 ?_;refine B6 AC [(0,.sl 1 (x0.map (cdL 5 AA).enc)),(1,.sl 1 (x1.map cdS.enc)),(2,.sl 9 (x2.map AE.enc)),(8,e17),(9,.j c16),(11,.j v39.2)] ?_;refine Bf AC [(0,.sl 1 (x0.map (cdL 5 AA).enc)),(1,.sl 1 (x1.map cdS.enc)),(2,.sl 9 (x2.map AE.enc)),(8,e17),(9,.j c16),(11,.j v39.2),(69,.b (v39.2 != 0))] ?_;refine Bo (b:=(v39.2 != 0)) kr (fun hb40=>?_) (fun hb40=>?_)
     ·rw [if_pos hb40] at h
      refine Bf AC [(6,.e0),(7,.j v39.2)] ?_;refine SemY.ret ?_;have hq:=OI h; subst hq
      have hT41:=hT29.drop
      exact ⟨rfl,_,⟨hp28,hT41,rfl⟩,WkY.f1⟩
     ·rw [Bm hb40] at h
      refine SemY.skip ?_;refine Bf AC [(0,.sl 1 (x0.map (cdL 5 AA).enc)),(1,.sl 1 (x1.map cdS.enc)),(2,.sl 9 (x2.map AE.enc)),(8,e17),(9,.j c16),(12,.e0)] ?_;refine AX ?_;refine Bf AC [(0,.sl 1 (x0.map (cdL 5 AA).enc)),(1,.sl 1 (x1.map cdS.enc)),(2,.sl 9 (x2.map AE.enc)),(8,e17),(9,.j c16),(12,.e0),(13,.j 0)] ?_;refine BZ ?_
      have hT42:=(T.e0 (k:=1) (ty:=3) (o:=(ocV cdI)) hT29)
      have hT69:=(hT42.front 1 rfl)
      refine SemY.loop (n:=100000) ?_;obtain ⟨r70,hr70,h⟩:=OB h;refine DT (CJ WkY.f1 (PH x1 x2 c16 x0 e17 c18 _ 0 ([]:(List Int)) _ hr70 .e0 hp28 hT69)) ?_;rintro _ ⟨e71,hp72,hT73,rfl⟩;refine AX ?_;refine AQ ?_;refine Aj AC 2 ?_;obtain ⟨v74,hv74,h⟩:=OB h;refine Ac AC 0 rfl (DR (AB rfl) rfl (AP (a:= .sl 1 (x0.map (cdL 5 AA).enc)) (b:= .j c16) kr kr (Di (e:=(cdL 5 AA).enc) (el:=22) (k:=1) (ki:= .i64) kr kr hv74))) ?_;refine Aj AC 3 ?_
      have hT75:=(hT73.front 1 rfl)
      obtain ⟨hp76,hw77,hT78⟩:=Gw (E:=E0) (n:=158) (l:=[(0,.sl 1 (x0.map (cdL 5 AA).enc)),(1,.sl 1 (x1.map cdS.enc)),(2,.sl 9 (x2.map AE.enc)),(8,e17),(9,.j c16),(95,.sl 5 (v74.map AA.enc)),(96,.sl 9 (x2.map AE.enc)),(97,e71)]) (l':=[(0,.sl 1 (x0.map (cdL 5 AA).enc)),(1,.sl 1 (x1.map cdS.enc)),(2,.sl 9 (x2.map AE.enc)),(8,e17),(9,.j c16),(95,.sl 5 (v74.map AA.enc)),(96,.sl 9 (x2.map AE.enc)),(97,.sl 1 (r70.map cdI.enc))]) hT75 ⟨⟨.sl 1 (x0.map (cdL 5 AA).enc),kr,FzU.refl⟩,⟨.sl 1 (x1.map cdS.enc),kr,FzU.refl⟩,⟨.sl 9 (x2.map AE.enc),kr,FzU.refl⟩,⟨e17,kr,FzU.refl⟩,⟨.j c16,kr,FzU.refl⟩,⟨.sl 5 (v74.map AA.enc),kr,FzU.refl⟩,⟨.sl 9 (x2.map AE.enc),kr,FzU.refl⟩,⟨e71,kr,Gv⟩,trivial⟩;refine VH (WkY.trans WkY.f1 hw77) ?_;obtain ⟨v79,hv79,h⟩:=OB h;refine GP (v:=v79) (caps:=[]) (xs:=[.sl 5 (v74.map AA.enc),.sl 9 (x2.map AE.enc),.sl 1 (r70.map cdI.enc)]) (u:=(v74,x2,r70,())) rfl rfl Ut rfl (AB rfl) kr kr (Br (Dy (c:=(cdL 5 AA)) (v:=v74)) (Br (Dy (c:=(cdL 9 AE)) (v:=x2)) (Br (Dy (c:=(cdL 1 cdI)) (v:=r70)) SeesD.nil))) (.inr ⟨by kernel_rfl,MC.de (v74,x2,r70,())⟩) hv79 ?_;obtain ⟨v80,hv80,h⟩:=OB h;refine GP (v:=v80) (caps:=[]) (xs:=[.sl 1 (v79.map (cdL 1 cdI).enc)]) (u:=(v79,())) rfl rfl Uu rfl (AB rfl) kr kr (Br (Dy (c:=(cdL 1 (cdL 1 cdI))) (v:=v79)) SeesD.nil) (.inr ⟨by kernel_rfl,Jg.de (v79,())⟩) hv80 ?_;refine B6 AC [(0,.sl 1 (x0.map (cdL 5 AA).enc)),(1,.sl 1 (x1.map cdS.enc)),(2,.sl 9 (x2.map AE.enc)),(8,e17),(9,.j c16),(14,.sl 1 (v80.1.map cdI.enc)),(15,.j v80.2)] ?_;refine AX ?_;refine Bf AC [(0,.sl 1 (x0.map (cdL 5 AA).enc)),(1,.sl 1 (x1.map cdS.enc)),(2,.sl 9 (x2.map AE.enc)),(8,e17),(9,.j c16),(14,.sl 1 (v80.1.map cdI.enc)),(15,.j v80.2),(103,.b (v80.2 != 0))] ?_;refine Bo (b:=(v80.2 != 0)) kr (fun hb81=>?_) (fun hb81=>?_)
      ·rw [if_pos hb81] at h
       refine Bf AC [(6,.e0),(7,.j v80.2)] ?_;refine SemY.ret ?_;have hq:=OI h; subst hq
       have hT82:=hT78.drop
       exact ⟨rfl,_,⟨hp76,hT82,rfl⟩,WkY.f1⟩
      ·rw [Bm hb81] at h
       refine SemY.skip ?_;refine AQ ?_;refine Aj AC 2 ?_;obtain ⟨e86,hp83,hb84,hT85⟩:=Iq (P:=Tryz.prog) (bytes:=24) (k:=1) (t:=48) (ty:=46) (xs:=([v80.1]:List (List Int))) (n:=1) (SS (k:=1) (fun _=>⟨rfl,rfl,rfl⟩)) (ID (c:=(cdL 1 cdI)) (xs:=([v80.1]:List (List Int))) hT78) rfl kr kr kr;refine Ac AC 0 rfl (Vh (AB rfl) rfl kr (Rj (xs:=Nr 0 [.sl 1 (v80.1.map cdI.enc)]) kr hb84)) ?_;by_cases hk91:(EK 24 (c18.length + ([v80.1]:List (List Int)).length))=true
       case neg=>rw [if_neg hk91] at h; cases h
       rw [if_pos hk91] at h
       have hT92:=((hT85.front 0 rfl).front 1 rfl)
       obtain ⟨e90,hp87,hb88,hT89⟩:=Ik (P:=Tryz.prog) (ty:=46) (ty2:=46) (bytes:=24) hT92 kr kr hk91;refine Ac AC 0 rfl (S4 (AB rfl) rfl kr kr (Dq (a:=e17) (b:=e86) kr kr hb88)) ?_;refine B6 AC [(0,.sl 1 (x0.map (cdL 5 AA).enc)),(1,.sl 1 (x1.map cdS.enc)),(2,.sl 9 (x2.map AE.enc)),(8,e90),(9,.j c16)] ?_;refine AQ ?_;refine Aj AC 3 ?_;refine BU rfl ?_;exact CJ WkY.f1 (ih0 (wr .i64 (c16 + 1)) (c18++([v80.1]:List (List Int))) _ h e90 hp87 hT89)
  ·rw [Bm hb19] at h
   refine SemY.exit ?_;have hq:=OI h; subst hq;exact ⟨rfl,_,⟨e17,hp,hT,rfl⟩,WkY.f1⟩
theorem PF {L:List Asn}{hp:Hp}(c107:Bool) (c108:Int) (c109:(List (List Int))) (c111:(List Int)) (v113:(List Int)) (x1:(List (List UInt8))) (x2:(List An)) (e98:AV) (e110:AV) (r:(Bool×(List (List Int))×(List Int))) (h:G7 c107 c108 c109 c111 v113=some r) (hT:T hp ((own_ (ocL 1 48 (ocV (cdL 1 cdI))) e98 c109)::(own_ (ocL 1 3 (ocV cdI)) e110 c111)::L)):SemY E0 ⟨none,false⟩ (pc De [1,1,1,1,1,1,0,1,0,0,1,0,1,1,0,0,1,0,0,1]) ⟨Fr 158 [(1,.sl 1 (x1.map cdS.enc)),(2,.sl 9 (x2.map AE.enc)),(8,e98),(16,e110),(17,.b c107),(18,.j c108),(121,.b (decide ((v113.length:Int) > 0)))],hp⟩ (fun e s=>e = .normal/\∃ s2,(∃ (e136:AV) (h':Hp),T h' ((own_ (ocL 1 48 (ocV (cdL 1 cdI))) e98 r.2.1)::(own_ (ocL 1 3 (ocV cdI)) e136 r.2.2)::L)/\s2=⟨Fr 158 [(1,.sl 1 (x1.map cdS.enc)),(2,.sl 9 (x2.map AE.enc)),(8,e98),(16,e136),(17,.b r.1),(18,.j c108)],h'⟩)/\WkY E0 s s2):=by
 unfold G7 at h;refine Bo (b:=(decide ((v113.length:Int) > 0))) kr (fun hb114=>?_) (fun hb114=>?_)
 ·rw [if_pos hb114] at h
  refine AX ?_;refine AQ ?_;refine Aj AC 3 ?_;obtain ⟨v115,hv115,h⟩:=OB h;refine Ac AC 0 rfl (DR (AB rfl) rfl (AP (a:=e98) (b:= .j c108) kr kr (W8 (bytes:=24) hT kr hv115))) ?_;refine Ac AC 0 rfl (DR (AB rfl) rfl (HU (p:=eAt e98 c108.toNat) kr (MN (y:= .sl 1 (v115.map cdI.enc)) (m:=1) (g:=false) hT (H6 hv115).2 kr kr kr))) ?_;obtain ⟨v116,hv116,h⟩:=OB h;refine Ac AC 0 rfl (DR (AB rfl) rfl (AP (a:= .sl 1 (v115.map cdI.enc)) (b:= .j 0) kr kr (Di (e:=cdI.enc) (el:=3) (k:=1) (ki:= .i64) kr kr hv116))) ?_;refine Aj AC 1 ?_;obtain ⟨e120,hp117,hb118,hT119⟩:=Iq (P:=Tryz.prog) (bytes:=8) (k:=1) (t:=3) (ty:=48) (xs:=([v116]:List Int)) (n:=1) (SS (k:=1) (fun _=>⟨rfl,rfl,rfl⟩)) (ID (c:=cdI) (xs:=([v116]:List Int)) hT) rfl kr kr kr;refine Ac AC 0 rfl (Vh (AB rfl) rfl kr (Rj (xs:=Nr 0 [.j v116]) kr hb118)) ?_;by_cases hk125:(EK 8 (c111.length + ([v116]:List Int).length))=true
  case neg=>rw [if_neg hk125] at h; cases h
  rw [if_pos hk125] at h
  have hT126:=((hT119.front 0 rfl).front 2 rfl)
  obtain ⟨e124,hp121,hb122,hT123⟩:=Ik (P:=Tryz.prog) (ty:=48) (ty2:=48) (bytes:=8) hT126 kr kr hk125;refine Ac AC 0 rfl (S4 (AB rfl) rfl kr kr (Dq (a:=e110) (b:=e120) kr kr hb122)) ?_;refine B6 AC [(1,.sl 1 (x1.map cdS.enc)),(2,.sl 9 (x2.map AE.enc)),(8,e98),(16,e124),(18,.j c108)] ?_;refine AX ?_;refine AQ ?_;refine Aj AC 4 ?_;obtain ⟨v127,hv127,h⟩:=OB h
  have hT128:=(hT123.front 1 rfl)
  refine Ac AC 0 rfl (DR (AB rfl) rfl (AP (a:=e98) (b:= .j c108) kr kr (W8 (bytes:=24) hT128 kr hv127))) ?_;refine Ac AC 0 rfl (DR (AB rfl) rfl (HU (p:=eAt e98 c108.toNat) kr (MN (y:= .sl 1 (v127.map cdI.enc)) (m:=1) (g:=false) hT128 (H6 hv127).2 kr kr kr))) ?_;by_cases hk129:(KA 1 (v127.length:Int) v127.length)=true
  case neg=>rw [if_neg hk129] at h; cases h
  rw [if_pos hk129] at h;refine Ac AC 0 rfl (DR (AB rfl) rfl (NH (a:= .sl 1 (v127.map cdI.enc)) (l:=(some (.j 1))) (u:=none) (m:=none) kr kr kr rfl (Pe (xs:=v127) (e:=cdI.enc) (k:=1) (el:=3) (lo:=1) (hi:=(v127.length:Int)) kr kr (Tb (ADi hk129)) rfl hk129))) ?_;obtain ⟨v130,hv130,h⟩:=OB h;refine Ac AC 0 rfl (DR (AB rfl) rfl (AP (a:=e98) (b:= .j c108) kr kr (W8 (bytes:=24) hT128 kr hv130))) ?_;obtain ⟨hp131,hs132,hT133⟩:=Vv (P:=Tryz.prog) (ty:=48) (y:= .sl 1 (((v127.take (v127.length:Int).toNat).drop (1:Int).toNat).map cdI.enc)) (v':=((v127.take (v127.length:Int).toNat).drop (1:Int).toNat)) hT128 (H6 hv130).2 kr kr kr;refine RunL.store AC (y:=eAt e98 c108.toNat) (z:= .sl 1 (((v127.take (v127.length:Int).toNat).drop (1:Int).toNat).map cdI.enc)) rfl (AB rfl) kr kr hs132 ?_;refine BU rfl (SemY.fr (l':=[(1,.sl 1 (x1.map cdS.enc)),(2,.sl 9 (x2.map AE.enc)),(8,e98),(16,e124),(18,.j c108)]) kr ?_);refine AQ ?_;refine Aj AC 1 ?_;refine BU rfl ?_;have hq:=OI h; subst hq;exact ⟨rfl,_,⟨e124,hp131,hT133,rfl⟩,WkY.f1⟩
 ·rw [Bm hb114] at h
  refine SemY.skip ?_;have hq:=OI h; subst hq;exact ⟨rfl,_,⟨e110,hp,hT,rfl⟩,WkY.f1⟩
theorem PJ {L:List Asn}(x1:(List (List UInt8))) (x2:(List An)) (e98:AV):∀ (f:Nat) (c107:Bool) (c108:Int) (c109:(List (List Int))) (c111:(List Int)) (r:(Bool×(List (List Int))×(List Int))),Cw  f c107 c108 c109 c111=some r->∀ (e110:AV) (hp:Hp),T hp ((own_ (ocL 1 48 (ocV (cdL 1 cdI))) e98 c109)::(own_ (ocL 1 3 (ocV cdI)) e110 c111)::L)->SemYN E0 ⟨none,false⟩ (pc De [1,1,1,1,1,1,0,1,0,0,1,0,1,1,0,0]) f ⟨Fr 158 [(1,.sl 1 (x1.map cdS.enc)),(2,.sl 9 (x2.map AE.enc)),(8,e98),(16,e110),(17,.b c107),(18,.j c108)],hp⟩ (fun e s=>e=(.exit 6)/\∃ s2,(∃ (e144:AV) (h':Hp),T h' ((own_ (ocL 1 48 (ocV (cdL 1 cdI))) e98 r.2.1)::(own_ (ocL 1 3 (ocV cdI)) e144 r.2.2)::L)/\s2=⟨Fr 158 [(1,.sl 1 (x1.map cdS.enc)),(2,.sl 9 (x2.map AE.enc)),(8,e98),(16,e144),(17,.b r.1)],h'⟩)/\WkY E0 s s2):=by
 intro f;induction f with
 | zero=>intro c107 c108 c109 c111 r h; cases h
 | succ f ih0 =>
  intro c107 c108 c109 c111 r h e110 hp hT;unfold Cw at h;refine D2 ?_;refine AX ?_;refine AX ?_;refine AQ ?_;refine Aj AC 2 ?_;refine Ac AC 0 rfl (DR (AB rfl) rfl (C3 (a:=e98) kr (We hT kr))) ?_;refine B6 AC [(1,.sl 1 (x1.map cdS.enc)),(2,.sl 9 (x2.map AE.enc)),(8,e98),(16,e110),(17,.b c107),(18,.j c108),(113,.b (decide (c108 < (c109.length:Int))))] ?_;refine Bo (b:=(decide (c108 < (c109.length:Int)))) kr (fun hb112=>?_) (fun hb112=>?_)
  ·rw [if_pos hb112] at h
   refine SemY.skip ?_;refine AX ?_;refine BZ ?_;refine AX ?_;refine AQ ?_;refine Aj AC 2 ?_;obtain ⟨v113,hv113,h⟩:=OB h;refine Ac AC 0 rfl (DR (AB rfl) rfl (AP (a:=e98) (b:= .j c108) kr kr (W8 (bytes:=24) hT kr hv113))) ?_;refine Ac AC 0 rfl (DR (AB rfl) rfl (HU (p:=eAt e98 c108.toNat) kr (MN (y:= .sl 1 (v113.map cdI.enc)) (m:=1) (g:=false) hT (H6 hv113).2 kr kr kr))) ?_;refine Ac AC 0 rfl (DR (AB rfl) rfl (C3 (a:= .sl 1 (v113.map cdI.enc)) kr (Bn (el:=3) kr))) ?_;refine B6 AC [(1,.sl 1 (x1.map cdS.enc)),(2,.sl 9 (x2.map AE.enc)),(8,e98),(16,e110),(17,.b c107),(18,.j c108),(121,.b (decide ((v113.length:Int) > 0)))] ?_;obtain ⟨r138,hr138,h⟩:=OB h;refine I0 (PF c107 c108 c109 c111 v113 x1 x2 e98 e110 _ hr138 hT) ?_;rintro _ ⟨e139,hp140,hT141,rfl⟩;refine AQ ?_;refine Aj AC 3 ?_;refine BU rfl ?_;exact CJ WkY.f1 (ih0 r138.1 (wr .i64 (c108 + 1)) r138.2.1 r138.2.2 _ h e139 hp140 hT141)
  ·rw [Bm hb112] at h
   refine SemY.exit ?_;have hq:=OI h; subst hq;exact ⟨rfl,_,⟨e110,hp,hT,rfl⟩,WkY.f1⟩
theorem PI {L:List Asn}(x1:(List (List UInt8))) (x2:(List An)) (e98:AV):∀ (f:Nat) (c102:Bool) (c103:(List (List Int))) (c105:(List Int)) (r:((List Int))),B5  f c102 c103 c105=some r->∀ (e104:AV) (hp:Hp),T hp ((own_ (ocL 1 48 (ocV (cdL 1 cdI))) e98 c103)::(own_ (ocL 1 3 (ocV cdI)) e104 c105)::L)->SemYN E0 ⟨none,false⟩ (pc De [1,1,1,1,1,1,0,1,0,0]) f ⟨Fr 158 [(1,.sl 1 (x1.map cdS.enc)),(2,.sl 9 (x2.map AE.enc)),(8,e98),(16,e104),(17,.b c102)],hp⟩ (fun e s=>e=(.exit 4)/\∃ s2,(∃ (e150:AV) (h':Hp),T h' ((own_ (ocL 1 3 (ocV cdI)) e150 r)::L)/\s2=⟨Fr 158 [(1,.sl 1 (x1.map cdS.enc)),(2,.sl 9 (x2.map AE.enc)),(16,e150)],h'⟩)/\WkY E0 s s2):=by
 intro f;induction f with
 | zero=>intro c102 c103 c105 r h; cases h
 | succ f ih0 =>
  intro c102 c103 c105 r h e104 hp hT;unfold B5 at h;refine D2 ?_;refine AX ?_
  let p1:Nat×AV:=(2,.sl 9 (x2.map AE.enc))
  let p2:Nat×AV:=(1,.sl 1 (x1.map cdS.enc))
  refine Bf AC [p2,p1,(8,e98),(16,e104),(109,.b c102)] ?_;refine Bo (b:=c102) kr (fun hb106=>?_) (fun hb106=>?_)
  ·rw [if_pos hb106] at h
   refine SemY.skip ?_;refine BZ ?_;refine Bf AC [p2,p1,(8,e98),(16,e104),(17,.b false)] ?_;refine Bf AC [p2,p1,(8,e98),(16,e104),(17,.b false),(18,.j 0)] ?_;refine BZ ?_;refine SemY.loop (n:=100000) ?_;obtain ⟨r146,hr146,h⟩:=OB h;refine DT (CJ WkY.f1 (PJ x1 x2 e98 _ false 0 c103 c105 _ hr146 e104 hp hT)) ?_;rintro _ ⟨e147,hp148,hT149,rfl⟩;exact CJ WkY.f1 (ih0 r146.1 r146.2.1 r146.2.2 _ h e147 hp148 hT149)
  ·rw [Bm hb106] at h
   refine SemY.exit ?_;have hq:=OI h; subst hq
   have hT152:=hT.drop
   exact ⟨rfl,_,⟨e104,hp,hT152,rfl⟩,WkY.f1⟩
theorem PG {L:List Asn}{hp:Hp}(c158:Int) (c160:(List Int)) (v163:Bool) (x1:(List (List UInt8))) (x2:(List An)) (e159:AV) (r:((List Int))) (h:G8 c158 c160 v163=some r) (hT:T hp ((own_ (ocL 1 3 (ocV cdI)) e159 c160)::L)):SemY E0 ⟨none,false⟩ (pc De [1,1,1,1,1,1,1,0,1,0,0,1,0,0,1]) ⟨Fr 158 [(1,.sl 1 (x1.map cdS.enc)),(2,.sl 9 (x2.map AE.enc)),(16,e159),(19,.j c158),(152,.b (!v163))],hp⟩ (fun e s=>e = .normal/\∃ s2,(∃ (e175:AV) (h':Hp),T h' ((own_ (ocL 1 3 (ocV cdI)) e175 r)::L)/\s2=⟨Fr 158 [(1,.sl 1 (x1.map cdS.enc)),(2,.sl 9 (x2.map AE.enc)),(16,e175),(19,.j c158)],h'⟩)/\WkY E0 s s2):=by
 unfold G8 at h;refine Bo (b:=(!v163)) kr (fun hb164=>?_) (fun hb164=>?_)
 ·rw [if_pos hb164] at h
  refine AQ ?_;refine Aj AC 2 ?_;obtain ⟨e168,hp165,hb166,hT167⟩:=Iq (P:=Tryz.prog) (bytes:=8) (k:=1) (t:=3) (ty:=48) (xs:=([c158]:List Int)) (n:=1) (SS (k:=1) (fun _=>⟨rfl,rfl,rfl⟩)) (ID (c:=cdI) (xs:=([c158]:List Int)) hT) rfl kr kr kr;refine Ac AC 0 rfl (Vh (AB rfl) rfl kr (Rj (xs:=Nr 0 [.j c158]) kr hb166)) ?_;by_cases hk173:(EK 8 (c160.length + ([c158]:List Int).length))=true
  case neg=>rw [if_neg hk173] at h; cases h
  rw [if_pos hk173] at h
  have hT174:=((hT167.front 0 rfl).front 1 rfl)
  obtain ⟨e172,hp169,hb170,hT171⟩:=Ik (P:=Tryz.prog) (ty:=48) (ty2:=48) (bytes:=8) hT174 kr kr hk173;refine Ac AC 0 rfl (S4 (AB rfl) rfl kr kr (Dq (a:=e159) (b:=e168) kr kr hb170)) ?_;refine Aj AC 1 ?_;refine BU rfl ?_;have hq:=OI h; subst hq;exact ⟨rfl,_,⟨e172,hp169,hT171,rfl⟩,WkY.f1⟩
 ·rw [Bm hb164] at h
  refine SemY.skip ?_;have hq:=OI h; subst hq;exact ⟨rfl,_,⟨e159,hp,hT,rfl⟩,WkY.f1⟩
theorem PK {L:List Asn}(x1:(List (List UInt8))) (x2:(List An)):∀ (f:Nat) (c158:Int) (c160:(List Int)) (r:((List Int))),Cy x1 x2 f c158 c160=some r->∀ (e159:AV) (hp:Hp),T hp ((own_ (ocL 1 3 (ocV cdI)) e159 c160)::L)->SemYN E0 ⟨none,false⟩ (pc De [1,1,1,1,1,1,1,0,1,0,0]) f ⟨Fr 158 [(1,.sl 1 (x1.map cdS.enc)),(2,.sl 9 (x2.map AE.enc)),(16,e159),(19,.j c158)],hp⟩ (fun e s=>e=(.exit 8)/\∃ s2,(∃ (e181:AV) (h':Hp),T h' ((own_ (ocL 1 3 (ocV cdI)) e181 r)::L)/\s2=⟨Fr 158 [(16,e181)],h'⟩)/\WkY E0 s s2):=by
 intro f;induction f with
 | zero=>intro c158 c160 r h; cases h
 | succ f ih0 =>
  intro c158 c160 r h e159 hp hT;unfold Cy at h;refine D2 ?_;refine AX ?_;refine AX ?_;refine AQ ?_;refine Aj AC 2 ?_;refine Ac AC 0 rfl (DR (AB rfl) rfl (C3 (a:= .sl 9 (x2.map AE.enc)) kr (Bn (el:=42) kr))) ?_;refine B6 AC [(1,.sl 1 (x1.map cdS.enc)),(2,.sl 9 (x2.map AE.enc)),(16,e159),(19,.j c158),(142,.b (decide (c158 < (x2.length:Int))))] ?_;refine Bo (b:=(decide (c158 < (x2.length:Int)))) kr (fun hb161=>?_) (fun hb161=>?_)
  ·rw [if_pos hb161] at h
   refine SemY.skip ?_;refine AX ?_;refine BZ ?_;refine AX ?_;refine AQ ?_;refine Aj AC 3 ?_;obtain ⟨v162,hv162,h⟩:=OB h;refine Ac AC 0 rfl (DR (AB rfl) rfl (AP (a:= .sl 9 (x2.map AE.enc)) (b:= .j c158) kr kr (Di (e:=AE.enc) (el:=42) (k:=9) (ki:= .i64) kr kr hv162))) ?_;refine Aj AC 2 ?_;obtain ⟨v163,hv163,h⟩:=OB h;refine GP (v:=v163) (caps:=[]) (xs:=[.sl 1 (x1.map cdS.enc),.st v162.2.2.1]) (u:=(x1,v162.2.2.1,())) rfl rfl KN rfl (AB rfl) kr kr (Br (Dy (c:=(cdL 1 cdS)) (v:=x1)) (Br (Dy (c:=cdS) (v:=v162.2.2.1)) SeesD.nil)) (.inl kr) hv163 ?_;refine B6 AC [(1,.sl 1 (x1.map cdS.enc)),(2,.sl 9 (x2.map AE.enc)),(16,e159),(19,.j c158),(152,.b (!v163))] ?_;obtain ⟨r177,hr177,h⟩:=OB h;refine I0 (PG c158 c160 v163 x1 x2 e159 _ hr177 hT) ?_;rintro _ ⟨e178,hp179,hT180,rfl⟩;refine AQ ?_;refine Aj AC 3 ?_;refine BU rfl ?_;exact CJ WkY.f1 (ih0 (wr .i64 (c158 + 1)) r177 _ h e178 hp179 hT180)
  ·rw [Bm hb161] at h
   refine SemY.exit ?_;have hq:=OI h; subst hq;exact ⟨rfl,_,⟨e159,hp,hT,rfl⟩,WkY.f1⟩
theorem QQ {L:List Asn}{hp:Hp}(x0:(List (List AF))) (x1:(List (List UInt8))) (x2:(List An)) (r:(List Int)×Int) (h:Gc x0 x1 x2=some r) (hT:T hp (L)):SemY E0 ⟨none,false⟩ De ⟨Fr 158 (A6 0 [.sl 1 (x0.map (cdL 5 AA).enc),.sl 1 (x1.map cdS.enc),.sl 9 (x2.map AE.enc)]),hp⟩ fun x s'=>(x = .normal\/x = .ret)/\∃ ys,EZ E0.P s'.fr s'.hp Tryz.f93.results.toList=some ys/\(fun v h'=>v = .tp [.sl 1 (r.1.map cdI.enc),.j r.2]/\T h' (L)) (Ee ys) s'.hp:=by
 unfold Gc at h;refine KO (Lt (s1:=⟨Fr 158 [(0,.sl 1 (x0.map (cdL 5 AA).enc)),(1,.sl 1 (x1.map cdS.enc)),(2,.sl 9 (x2.map AE.enc))],hp⟩) WkY.f1 ?_);refine Bf AC [(0,.sl 1 (x0.map (cdL 5 AA).enc)),(1,.sl 1 (x1.map cdS.enc)),(2,.sl 9 (x2.map AE.enc))] ?_;refine AX ?_;refine AX ?_;obtain ⟨j1,hj1,h⟩:=OB h;refine QV (A:=fun s1=>∃ (h':Hp),T h' (L)/\s1=⟨Fr 158 [(0,.sl 1 (x0.map (cdL 5 AA).enc)),(1,.sl 1 (x1.map cdS.enc)),(2,.sl 9 (x2.map AE.enc)),(27,.b j1)],h'⟩) ?_ ?_
 ·refine Aj AC 1 ?_
  refine Ac AC 0 rfl (DR (AB rfl) rfl (C3 (a:= .sl 1 (x0.map (cdL 5 AA).enc)) kr (Bn (el:=22) kr))) ?_;refine Og (n:=158) AC 2 [(0,.sl 1 (x0.map (cdL 5 AA).enc)),(1,.sl 1 (x1.map cdS.enc)),(2,.sl 9 (x2.map AE.enc)),(23,.b (decide ((x0.length:Int) > 16)))] hp kr ?_;rcases BE (decide ((x0.length:Int) > 16)) with hc197 | hc197
  ·rw [if_pos hc197] at hj1
   rw [hc197];refine Aj AC 4 ?_;have hq:=OI hj1; subst hq;exact BU rfl ⟨_,⟨hp,hT,rfl⟩,WkY.f1⟩
  ·rw [Bm hc197] at hj1
   rw [hc197];refine Aj AC 1 ?_;refine Ac AC 0 rfl (DR kr rfl (C3 (a:= .sl 9 (x2.map AE.enc)) kr (Bn (el:=42) kr))) ?_;refine Aj AC 2 ?_;have hq:=OI hj1; subst hq;exact BU rfl ⟨_,⟨hp,hT,rfl⟩,WkY.f1⟩
 rintro _ ⟨hp3,hT4,rfl⟩;refine Bo (b:=j1) kr (fun hb5=>?_) (fun hb5=>?_)
 ·rw [if_pos hb5] at h
  refine Bf AC [(6,.e0),(7,.j 7)] ?_;refine SemY.ret ?_;have hq:=OI h; subst hq
  have hT6:=(T.e0 (k:=1) (ty:=3) (o:=(ocV cdI)) hT4)
  obtain ⟨hp7,hw8,hT9⟩:=Gw (E:=E0) (n:=158) (l:=[(6,.e0),(7,.j 7)]) (l':=[(6,.sl 1 (([]:(List Int)).map cdI.enc)),(7,.j 7)]) hT6 ⟨⟨.e0,kr,Gv⟩,⟨.j 7,kr,FzU.refl⟩,trivial⟩;exact ⟨⟨Fr 158 [(6,.sl 1 (([]:(List Int)).map cdI.enc)),(7,.j 7)],hp7⟩,(WkY.trans (WkY.trans WkY.f1 hw8) WkY.f1),.inr rfl,[.sl 1 (([]:(List Int)).map cdI.enc),.j 7],kr,⟨rfl,hT9⟩⟩
 ·rw [Bm hb5] at h
  refine SemY.skip ?_;refine AX ?_;refine AX ?_;refine AQ ?_;refine Aj AC 1 ?_;refine Ac AC 0 rfl (DR (AB rfl) rfl (C3 (a:= .sl 1 (x0.map (cdL 5 AA).enc)) kr (Bn (el:=22) kr))) ?_;refine Aj AC 1 ?_;refine Ac AC 0 rfl (DR (AB rfl) rfl (C3 (a:= .sl 1 (x1.map cdS.enc)) kr (Bn (el:=9) kr))) ?_;refine B6 AC [(0,.sl 1 (x0.map (cdL 5 AA).enc)),(1,.sl 1 (x1.map cdS.enc)),(2,.sl 9 (x2.map AE.enc)),(32,.b ((x0.length:Int)!=(x1.length:Int)))] ?_;refine Bo (b:=((x0.length:Int)!=(x1.length:Int))) kr (fun hb10=>?_) (fun hb10=>?_)
  ·rw [if_pos hb10] at h
   refine Bf AC [(6,.e0),(7,.j 2)] ?_;refine SemY.ret ?_;have hq:=OI h; subst hq
   have hT11:=(T.e0 (k:=1) (ty:=3) (o:=(ocV cdI)) hT4)
   obtain ⟨hp12,hw13,hT14⟩:=Gw (E:=E0) (n:=158) (l:=[(6,.e0),(7,.j 2)]) (l':=[(6,.sl 1 (([]:(List Int)).map cdI.enc)),(7,.j 2)]) hT11 ⟨⟨.e0,kr,Gv⟩,⟨.j 2,kr,FzU.refl⟩,trivial⟩;exact ⟨⟨Fr 158 [(6,.sl 1 (([]:(List Int)).map cdI.enc)),(7,.j 2)],hp12⟩,(WkY.trans (WkY.trans WkY.f1 hw13) WkY.f1),.inr rfl,[.sl 1 (([]:(List Int)).map cdI.enc),.j 2],kr,⟨rfl,hT14⟩⟩
  ·rw [Bm hb10] at h
   refine SemY.skip ?_;refine Bf AC [(0,.sl 1 (x0.map (cdL 5 AA).enc)),(1,.sl 1 (x1.map cdS.enc)),(2,.sl 9 (x2.map AE.enc)),(8,.e0)] ?_;refine AX ?_;refine Bf AC [(0,.sl 1 (x0.map (cdL 5 AA).enc)),(1,.sl 1 (x1.map cdS.enc)),(2,.sl 9 (x2.map AE.enc)),(8,.e0),(9,.j 0)] ?_;refine BZ ?_
   have hT15:=(T.e0 (k:=1) (ty:=48) (o:=(ocV (cdL 1 cdI))) hT4)
   refine SemY.loop (n:=100000) ?_;obtain ⟨r96,hr96,h⟩:=OB h;rcases r96 with w97 | w190
   ·try dsimp only at h
    refine DT (CJ WkY.f1 (KW x0 x1 x2 _ 0 ([]:(List (List Int))) _ hr96 .e0 hp3 hT15)) ?_;rintro _ ⟨e98,hp99,hT100,rfl⟩;refine Bf AC [(1,.sl 1 (x1.map cdS.enc)),(2,.sl 9 (x2.map AE.enc)),(8,e98),(16,.e0)] ?_;refine AX ?_;refine Bf AC [(1,.sl 1 (x1.map cdS.enc)),(2,.sl 9 (x2.map AE.enc)),(8,e98),(16,.e0),(17,.b true)] ?_;refine BZ ?_
    have hT101:=(T.e0 (k:=1) (ty:=3) (o:=(ocV cdI)) hT100)
    have hT153:=(hT101.front 1 rfl)
    refine SemY.loop (n:=100000) ?_;obtain ⟨r154,hr154,h⟩:=OB h;refine DT (CJ WkY.f1 (PI x1 x2 e98 _ true w97 ([]:(List Int)) _ hr154 .e0 hp99 hT153)) ?_;rintro _ ⟨e155,hp156,hT157,rfl⟩;refine AX ?_;refine Bf AC [(1,.sl 1 (x1.map cdS.enc)),(2,.sl 9 (x2.map AE.enc)),(16,e155),(19,.j 0)] ?_;refine BZ ?_;refine SemY.loop (n:=100000) ?_;obtain ⟨r183,hr183,h⟩:=OB h;refine DT (CJ WkY.f1 (PK x1 x2 _ 0 r154 _ hr183 e155 hp156 hT157)) ?_;rintro _ ⟨e184,hp185,hT186,rfl⟩;refine Bf AC [(6,e184),(7,.j 0)] ?_;refine SemY.ret ?_;have hq:=OI h; subst hq;obtain ⟨hp187,hw188,hT189⟩:=Gw (E:=E0) (n:=158) (l:=[(6,e184),(7,.j 0)]) (l':=[(6,.sl 1 (r183.map cdI.enc)),(7,.j 0)]) hT186 ⟨⟨e184,kr,Gv⟩,⟨.j 0,kr,FzU.refl⟩,trivial⟩;exact ⟨⟨Fr 158 [(6,.sl 1 (r183.map cdI.enc)),(7,.j 0)],hp187⟩,(WkY.trans (WkY.trans WkY.f1 hw188) WkY.f1),.inr rfl,[.sl 1 (r183.map cdI.enc),.j 0],kr,⟨rfl,hT189⟩⟩
   ·try dsimp only at h
    refine DT (CJ WkY.f1 (KW x0 x1 x2 _ 0 ([]:(List (List Int))) _ hr96 .e0 hp3 hT15)) ?_;rintro _ ⟨hp191,hT192,rfl⟩;have hq:=OI h; subst hq
    have hT193:=(T.e0 (k:=1) (ty:=3) (o:=(ocV cdI)) hT192)
    obtain ⟨hp194,hw195,hT196⟩:=Gw (E:=E0) (n:=158) (l:=[(6,.e0),(7,.j w190)]) (l':=[(6,.sl 1 (([]:(List Int)).map cdI.enc)),(7,.j w190)]) hT193 ⟨⟨.e0,kr,Gv⟩,⟨.j w190,kr,FzU.refl⟩,trivial⟩;exact ⟨⟨Fr 158 [(6,.sl 1 (([]:(List Int)).map cdI.enc)),(7,.j w190)],hp194⟩,(WkY.trans (WkY.trans WkY.f1 hw195) WkY.f1),.inr rfl,[.sl 1 (([]:(List Int)).map cdI.enc),.j w190],kr,⟨rfl,hT196⟩⟩
def Mm:Cs ((List (List AF))×(List (List UInt8))×(List An)×Unit):=(csC (cdL 1 (cdL 5 AA)) (csC (cdL 1 cdS) (csC (cdL 9 AE) csN)))
def Mq (r:(List Int)×Int):AV:= .tp [(cdL 1 cdI).enc r.1,cdI.enc r.2]
def Rx:List AV->Option AV:=ES Mm (fun a=>Gc a.1 a.2.1 a.2.2.1) Mq
theorem SA:XOk 93 Rx:=by
 refine AU Tryz.func93 (c:=De) ?h2 ⟨Tryz.call93⟩ Mm (fun a=>Gc a.1 a.2.1 a.2.2.1) Mq (fun a=>(by show 3<=158; decide)) ?h3 ?h4
 case h2=>kernel_rfl
 case h3=>intro b; kernel_rfl
 case h4 =>
  intro a b h;refine Sem.mono (TC (QQ (L:=[]) (hp:=[]) a.1 a.2.1 a.2.2.1 b h T.nil)) fun e s' hs=>?_
  obtain ⟨h1,ys,h2,h3,-⟩:=hs;exact ⟨h1,ys,h2,h3⟩
/- slices.Equal[[]int,int] -/
noncomputable def IM:Code:=BL Tryz.f66
def Fb (x0:(List Int)) (x1:(List Int)):Nat->Int->Option ((Unit) ⊕ (Bool))
 | 0,_=>none
 | f + 1,c2 =>
  if (decide (c2 < (x0.length:Int)))=true then
  (idx x0 c2).bind fun v4 =>
  (idx x1 c2).bind fun v5 =>
  if (v4 != v5)=true then
  some (.inr false)
  else
  Fb x0 x1 f (wr .i64 (c2 + 1))
  else
  some (.inl ())
def El (x0:(List Int)) (x1:(List Int)):Option (Bool) :=
 if ((x0.length:Int)!=(x1.length:Int))=true then
 some false
 else
 (Fb x0 x1 100000 0).bind fun r8 =>
 match r8 with
 | (.inl w9) =>
  some true
 | (.inr w10) =>
  some w10
def IT:Cs ((List Int)×(List Int)×Unit):=(csC (cdL 1 cdI) (csC (cdL 1 cdI) csN))
def IW (r:Bool):AV:=cdB.enc r
theorem JJ (x0:(List Int)) (x1:(List Int)):∀ (f:Nat) (c2:Int) (r:(Unit) ⊕ (Bool)),Fb x0 x1 f c2=some r->SemN E0 ⟨none,false⟩ (pc IM [1,1,0,1,0,0]) f ⟨Fr 26 [(0,.sl 1 (x0.map cdI.enc)),(1,.sl 1 (x1.map cdI.enc)),(12,.j (x0.length:Int)),(13,.j c2)],[]⟩ (fun e s=>match r with
 | (.inl w)=>e=(.exit 0)/\Wk E0 s ⟨Fr 26 [],[]⟩
 | (.inr w)=>e = .ret/\Wk E0 s ⟨Fr 26 [(4,.b w)],[]⟩):=by
 intro f;induction f with
 | zero=>intro c2 r h; cases h
 | succ f ih0 =>
  intro c2 r h
  have ih:=fun (c2:Int)=>ih0 c2 r
  unfold Fb at h;refine CI ?_
  let p1:Nat×AV:=(13,.j c2)
  let p2:Nat×AV:=(12,.j (x0.length:Int))
  let p3:Nat×AV:=(1,.sl 1 (x1.map cdI.enc))
  let p4:Nat×AV:=(0,.sl 1 (x0.map cdI.enc))
  refine AK AC [p4,p3,p2,p1,(14,.b (decide (c2 < (x0.length:Int))))] [] ?_;refine AH ?_;refine AT (b:=(decide (c2 < (x0.length:Int)))) kr (fun hb3=>?_) (fun hb3=>?_)
  ·rw [if_pos hb3] at h
   refine AY ?_;refine AH ?_;refine Al ?_;refine AK AC [p4,p3,(5,.j c2),p2,p1] [] ?_;refine AH ?_;obtain ⟨v4,hv4,h⟩:=OB h;obtain ⟨v5,hv5,h⟩:=OB h;refine D5 AC (s1:=⟨Fr 26 [p4,p3,p2,p1,(24,.b (v4 != v5))],[]⟩) kr ?_ ?_
   ·refine Aa (n:=26) AC 2 [p4,p3,(5,.j c2),p2,p1,(16,.sl 1 (x0.map cdI.enc)),(17,.j c2)] [] kr kr ?_
    refine RunDS.one AC rfl kr (JB kr (AB rfl) rfl (AP (a:= .sl 1 (x0.map cdI.enc)) (b:= .j c2) kr kr (Di (e:=cdI.enc) (el:=3) (k:=1) (ki:= .i64) kr kr hv4)) kr) ?_;refine Aa (n:=26) AC 3 [p4,p3,p2,p1,(19,.j v4),(20,.sl 1 (x1.map cdI.enc)),(21,.j c2)] [] kr kr ?_;refine RunDS.one AC rfl kr (JB kr (AB rfl) rfl (AP (a:= .sl 1 (x1.map cdI.enc)) (b:= .j c2) kr kr (Di (e:=cdI.enc) (el:=3) (k:=1) (ki:= .i64) kr kr hv5)) kr) ?_;refine Aa (n:=26) AC 2 [p4,p3,p2,p1,(24,.b (v4 != v5))] [] kr kr ?_;exact RunDS.done rfl AJ
   refine AT (b:=(v4 != v5)) kr (fun hb6=>?_) (fun hb6=>?_)
   ·rw [if_pos hb6] at h
    refine AK AC [(4,.b false)] [] ?_;refine AR ?_;have hq:=OI h; subst hq;exact ⟨rfl,AJ⟩
   ·rw [Bm hb6] at h
    refine AY ?_
    let p5:Nat×AV:=(13,.j (wr .i64 (c2 + 1)))
    refine D1 AC [p4,p3,p2,p5] [] ?_;exact Aq (s1:=⟨Fr 26 [p4,p3,p2,p5],[]⟩) AJ (ih (wr .i64 (c2 + 1)) h)
  ·rw [Bm hb3] at h
   refine C6 ?_;have hq:=OI h; subst hq;exact ⟨rfl,AJ⟩
theorem Oe (x0:(List Int)) (x1:(List Int)) (r:Bool) (h:El x0 x1=some r):Sem E0 ⟨none,false⟩ IM ⟨Fr 26 (A6 0 (IT.enc (x0,x1,()))),[]⟩ fun e s'=>(e = .normal\/e = .ret)/\∃ xs,EZ E0.P s'.fr s'.hp Tryz.f66.results.toList=some xs/\Ee xs=IW r:=by
 unfold El at h
 let p1:Nat×AV:=(1,.sl 1 (x1.map cdI.enc))
 let p2:Nat×AV:=(0,.sl 1 (x0.map cdI.enc))
 refine Ax (BY (s1:=⟨Fr 26 [p2,p1],[]⟩) AJ ?_);refine AK AC [p2,p1] [] ?_;refine AH ?_;refine AH ?_;refine AM (s1:=⟨Fr 26 [p2,p1,(10,.b ((x0.length:Int)!=(x1.length:Int)))],[]⟩) ?_ ?_
 ·refine AD (n:=26) AC 1 [p2,p1,(6,.sl 1 (x0.map cdI.enc))] [] kr ?_
  refine AZ AC 0 rfl (DR (AB rfl) rfl (C3 (a:= .sl 1 (x0.map cdI.enc)) kr (Bn (el:=3) kr))) ?_;refine AD (n:=26) AC 1 [p2,p1,(7,.j (x0.length:Int)),(8,.sl 1 (x1.map cdI.enc))] [] kr ?_;refine AZ AC 0 rfl (DR (AB rfl) rfl (C3 (a:= .sl 1 (x1.map cdI.enc)) kr (Bn (el:=3) kr))) ?_;exact Ad AC
 refine AT (b:=((x0.length:Int)!=(x1.length:Int))) kr (fun hb1=>?_) (fun hb1=>?_)
 ·rw [if_pos hb1] at h
  refine AK AC [(4,.b false)] [] ?_;refine AR ?_;have hq:=OI h; subst hq;exact ⟨⟨Fr 26 [(4,.b false)],[]⟩,AJ,.inr rfl,[.b false],kr,kr⟩
 ·rw [Bm hb1] at h
  refine AY ?_;refine AH ?_;refine AH ?_
  let p3:Nat×AV:=(13,.j 0)
  let p4:Nat×AV:=(12,.j (x0.length:Int))
  refine AM (s1:=⟨Fr 26 [p2,p1,p4,p3],[]⟩) ?_ ?_
  ·refine AD (n:=26) AC 1 [p2,p1,(11,.sl 1 (x0.map cdI.enc))] [] kr ?_
   refine AZ AC 0 rfl (DR (AB rfl) rfl (C3 (a:= .sl 1 (x0.map cdI.enc)) kr (Bn (el:=3) kr))) ?_;exact Ad AC
  refine Al ?_;obtain ⟨r8,hr8,h⟩:=OB h;refine DB (n:=100000) ?_;rcases r8 with w9 | w10
  ·try dsimp only at h
   refine BB (Aq (s1:=⟨Fr 26 [p2,p1,p4,p3],[]⟩) AJ (JJ x0 x1 _ 0 _ hr8)) ?_;refine AK AC [(4,.b true)] [] ?_;refine AR ?_;have hq:=OI h; subst hq;exact ⟨⟨Fr 26 [(4,.b true)],[]⟩,AJ,.inr rfl,[.b true],kr,kr⟩
  ·try dsimp only at h
   refine BB (Aq (s1:=⟨Fr 26 [p2,p1,p4,p3],[]⟩) AJ (JJ x0 x1 _ 0 _ hr8)) ?_;have hq:=OI h; subst hq;exact ⟨⟨Fr 26 [(4,.b w10)],[]⟩,AJ,.inr rfl,[.b w10],kr,kr⟩
def Po:List AV->Option AV:=ES IT (fun a=>El a.1 a.2.1) IW
theorem Pr:XOk 66 Po:=by
 refine AU Tryz.func66 (c:=IM) ?h2 ⟨Tryz.call66⟩ IT (fun a=>El a.1 a.2.1) IW (fun a=>(by show 2<=26; decide)) ?h3 ?h4
 case h2=>kernel_rfl
 case h3=>intro b; kernel_rfl
 case h4=>exact fun a b h=>Oe a.1 a.2.1 b h
/- slices.Equal[[]string,string] -/
noncomputable def Fp:Code:=BL Tryz.f95
def Dp (x0:(List (List UInt8))) (x1:(List (List UInt8))):Nat->Int->Option ((Unit) ⊕ (Bool))
 | 0,_=>none
 | f + 1,c2 =>
  if (decide (c2 < (x0.length:Int)))=true then
  (idx x0 c2).bind fun v4 =>
  (idx x1 c2).bind fun v5 =>
  if (!(v4==v5))=true then
  some (.inr false)
  else
  Dp x0 x1 f (wr .i64 (c2 + 1))
  else
  some (.inl ())
def Cb (x0:(List (List UInt8))) (x1:(List (List UInt8))):Option (Bool) :=
 if ((x0.length:Int)!=(x1.length:Int))=true then
 some false
 else
 (Dp x0 x1 100000 0).bind fun r8 =>
 match r8 with
 | (.inl w9) =>
  some true
 | (.inr w10) =>
  some w10
def Ft:Cs ((List (List UInt8))×(List (List UInt8))×Unit):=(csC (cdL 1 cdS) (csC (cdL 1 cdS) csN))
def Fv (r:Bool):AV:=cdB.enc r
theorem HV (x0:(List (List UInt8))) (x1:(List (List UInt8))):∀ (f:Nat) (c2:Int) (r:(Unit) ⊕ (Bool)),Dp x0 x1 f c2=some r->SemN E0 ⟨none,false⟩ (pc Fp [1,1,0,1,0,0]) f ⟨Fr 26 [(0,.sl 1 (x0.map cdS.enc)),(1,.sl 1 (x1.map cdS.enc)),(12,.j (x0.length:Int)),(13,.j c2)],[]⟩ (fun e s=>match r with
 | (.inl w)=>e=(.exit 0)/\Wk E0 s ⟨Fr 26 [],[]⟩
 | (.inr w)=>e = .ret/\Wk E0 s ⟨Fr 26 [(4,.b w)],[]⟩):=by
 intro f;induction f with
 | zero=>intro c2 r h; cases h
 | succ f ih0 =>
  intro c2 r h
  have ih:=fun (c2:Int)=>ih0 c2 r
  unfold Dp at h;refine CI ?_
  let p1:Nat×AV:=(13,.j c2)
  let p2:Nat×AV:=(12,.j (x0.length:Int))
  let p3:Nat×AV:=(1,.sl 1 (x1.map cdS.enc))
  let p4:Nat×AV:=(0,.sl 1 (x0.map cdS.enc))
  refine AK AC [p4,p3,p2,p1,(14,.b (decide (c2 < (x0.length:Int))))] [] ?_;refine AH ?_;refine AT (b:=(decide (c2 < (x0.length:Int)))) kr (fun hb3=>?_) (fun hb3=>?_)
  ·rw [if_pos hb3] at h
   refine AY ?_;refine AH ?_;refine Al ?_;refine AK AC [p4,p3,(5,.j c2),p2,p1] [] ?_;refine AH ?_;obtain ⟨v4,hv4,h⟩:=OB h;obtain ⟨v5,hv5,h⟩:=OB h;refine D5 AC (s1:=⟨Fr 26 [p4,p3,p2,p1,(24,.b (!(v4==v5)))],[]⟩) kr ?_ ?_
   ·refine Aa (n:=26) AC 2 [p4,p3,(5,.j c2),p2,p1,(16,.sl 1 (x0.map cdS.enc)),(17,.j c2)] [] kr kr ?_
    refine RunDS.one AC rfl kr (JB kr (AB rfl) rfl (AP (a:= .sl 1 (x0.map cdS.enc)) (b:= .j c2) kr kr (Di (e:=cdS.enc) (el:=9) (k:=1) (ki:= .i64) kr kr hv4)) kr) ?_;refine Aa (n:=26) AC 3 [p4,p3,p2,p1,(19,.st v4),(20,.sl 1 (x1.map cdS.enc)),(21,.j c2)] [] kr kr ?_;refine RunDS.one AC rfl kr (JB kr (AB rfl) rfl (AP (a:= .sl 1 (x1.map cdS.enc)) (b:= .j c2) kr kr (Di (e:=cdS.enc) (el:=9) (k:=1) (ki:= .i64) kr kr hv5)) kr) ?_;refine Aa (n:=26) AC 2 [p4,p3,p2,p1,(24,.b (!(v4==v5)))] [] kr kr ?_;exact RunDS.done rfl AJ
   refine AT (b:=(!(v4==v5))) kr (fun hb6=>?_) (fun hb6=>?_)
   ·rw [if_pos hb6] at h
    refine AK AC [(4,.b false)] [] ?_;refine AR ?_;have hq:=OI h; subst hq;exact ⟨rfl,AJ⟩
   ·rw [Bm hb6] at h
    refine AY ?_
    let p5:Nat×AV:=(13,.j (wr .i64 (c2 + 1)))
    refine D1 AC [p4,p3,p2,p5] [] ?_;exact Aq (s1:=⟨Fr 26 [p4,p3,p2,p5],[]⟩) AJ (ih (wr .i64 (c2 + 1)) h)
  ·rw [Bm hb3] at h
   refine C6 ?_;have hq:=OI h; subst hq;exact ⟨rfl,AJ⟩
theorem KY (x0:(List (List UInt8))) (x1:(List (List UInt8))) (r:Bool) (h:Cb x0 x1=some r):Sem E0 ⟨none,false⟩ Fp ⟨Fr 26 (A6 0 (Ft.enc (x0,x1,()))),[]⟩ fun e s'=>(e = .normal\/e = .ret)/\∃ xs,EZ E0.P s'.fr s'.hp Tryz.f95.results.toList=some xs/\Ee xs=Fv r:=by
 unfold Cb at h
 let p1:Nat×AV:=(1,.sl 1 (x1.map cdS.enc))
 let p2:Nat×AV:=(0,.sl 1 (x0.map cdS.enc))
 refine Ax (BY (s1:=⟨Fr 26 [p2,p1],[]⟩) AJ ?_);refine AK AC [p2,p1] [] ?_;refine AH ?_;refine AH ?_;refine AM (s1:=⟨Fr 26 [p2,p1,(10,.b ((x0.length:Int)!=(x1.length:Int)))],[]⟩) ?_ ?_
 ·refine AD (n:=26) AC 1 [p2,p1,(6,.sl 1 (x0.map cdS.enc))] [] kr ?_
  refine AZ AC 0 rfl (DR (AB rfl) rfl (C3 (a:= .sl 1 (x0.map cdS.enc)) kr (Bn (el:=9) kr))) ?_;refine AD (n:=26) AC 1 [p2,p1,(7,.j (x0.length:Int)),(8,.sl 1 (x1.map cdS.enc))] [] kr ?_;refine AZ AC 0 rfl (DR (AB rfl) rfl (C3 (a:= .sl 1 (x1.map cdS.enc)) kr (Bn (el:=9) kr))) ?_;exact Ad AC
 refine AT (b:=((x0.length:Int)!=(x1.length:Int))) kr (fun hb1=>?_) (fun hb1=>?_)
 ·rw [if_pos hb1] at h
  refine AK AC [(4,.b false)] [] ?_;refine AR ?_;have hq:=OI h; subst hq;exact ⟨⟨Fr 26 [(4,.b false)],[]⟩,AJ,.inr rfl,[.b false],kr,kr⟩
 ·rw [Bm hb1] at h
  refine AY ?_;refine AH ?_;refine AH ?_
  let p3:Nat×AV:=(13,.j 0)
  let p4:Nat×AV:=(12,.j (x0.length:Int))
  refine AM (s1:=⟨Fr 26 [p2,p1,p4,p3],[]⟩) ?_ ?_
  ·refine AD (n:=26) AC 1 [p2,p1,(11,.sl 1 (x0.map cdS.enc))] [] kr ?_
   refine AZ AC 0 rfl (DR (AB rfl) rfl (C3 (a:= .sl 1 (x0.map cdS.enc)) kr (Bn (el:=9) kr))) ?_;exact Ad AC
  refine Al ?_;obtain ⟨r8,hr8,h⟩:=OB h;refine DB (n:=100000) ?_;rcases r8 with w9 | w10
  ·try dsimp only at h
   refine BB (Aq (s1:=⟨Fr 26 [p2,p1,p4,p3],[]⟩) AJ (HV x0 x1 _ 0 _ hr8)) ?_;refine AK AC [(4,.b true)] [] ?_;refine AR ?_;have hq:=OI h; subst hq;exact ⟨⟨Fr 26 [(4,.b true)],[]⟩,AJ,.inr rfl,[.b true],kr,kr⟩
  ·try dsimp only at h
   refine BB (Aq (s1:=⟨Fr 26 [p2,p1,p4,p3],[]⟩) AJ (HV x0 x1 _ 0 _ hr8)) ?_;have hq:=OI h; subst hq;exact ⟨⟨Fr 26 [(4,.b w10)],[]⟩,AJ,.inr rfl,[.b w10],kr,kr⟩
def Lj:List AV->Option AV:=ES Ft (fun a=>Cb a.1 a.2.1) Fv
theorem II:XOk 95 Lj:=by
 refine AU Tryz.func95 (c:=Fp) ?h2 ⟨Tryz.call95⟩ Ft (fun a=>Cb a.1 a.2.1) Fv (fun a=>(by show 2<=26; decide)) ?h3 ?h4
 case h2=>kernel_rfl
 case h3=>intro b; kernel_rfl
 case h4=>exact fun a b h=>KY a.1 a.2.1 b h
/- trestle/trestlelaw03.SameClause -/
noncomputable def Lz:Code:=BL Tryz.f122
def Es (x0:AF) (x1:AF):Option (Bool) :=
 (if (x0.1==x1.1)=true then if (x0.2.1==x1.2.1)=true then if (x0.2.2.1==x1.2.2.1)=true then if (x0.2.2.2.2==x1.2.2.2.2)=true then (Cb x0.2.2.2.1 x1.2.2.2.1).bind fun v1 =>
 some v1 else some false else some false else some false else some false).bind fun j3 =>
 some j3
def I8:Cs (AF×AF×Unit):=(csC AA (csC AA csN))
def JA (r:Bool):AV:=cdB.enc r
theorem Pk (x0:AF) (x1:AF) (r:Bool) (h:Es x0 x1=some r):Sem E0 ⟨none,false⟩ Lz ⟨Fr 38 (A6 0 (I8.enc (x0,x1,()))),[]⟩ fun e s'=>(e = .normal\/e = .ret)/\∃ xs,EZ E0.P s'.fr s'.hp Tryz.f122.results.toList=some xs/\Ee xs=JA r:=by
 unfold Es at h;refine Ax (BY (s1:=⟨Fr 38 [(0,AA.enc x0),(1,AA.enc x1)],[]⟩) AJ ?_);refine AK AC [(2,.pt 0 0 0),(3,.pt 1 0 0)] [some ⟨5,60,[AA.enc x0],false⟩,some ⟨5,60,[AA.enc x1],false⟩] ?_;refine AH ?_;obtain ⟨j3,hj3,h⟩:=OB h;refine AM (s1:=⟨Fr 38 [(4,.b j3)],[]⟩) ?_ ?_
 ·refine AD (n:=38) AC 6 [(2,.pt 0 0 0),(3,.pt 1 0 0),(10,.b (x0.1==x1.1))] [some ⟨5,60,[AA.enc x0],false⟩,some ⟨5,60,[AA.enc x1],false⟩] kr ?_
  rcases BE (x0.1==x1.1) with hc4 | hc4
  ·rw [if_pos hc4] at hj3
   rw [hc4];refine AD (n:=38) AC 7 [(2,.pt 0 0 0),(3,.pt 1 0 0),(17,.b (x0.2.1==x1.2.1))] [some ⟨5,60,[AA.enc x0],false⟩,some ⟨5,60,[AA.enc x1],false⟩] kr ?_;rcases BE (x0.2.1==x1.2.1) with hc5 | hc5
   ·rw [if_pos hc5] at hj3
    rw [hc5];refine AD (n:=38) AC 7 [(2,.pt 0 0 0),(3,.pt 1 0 0),(24,.b (x0.2.2.1==x1.2.2.1))] [some ⟨5,60,[AA.enc x0],false⟩,some ⟨5,60,[AA.enc x1],false⟩] kr ?_;rcases BE (x0.2.2.1==x1.2.2.1) with hc6 | hc6
    ·rw [if_pos hc6] at hj3
     rw [hc6];refine AD (n:=38) AC 7 [(2,.pt 0 0 0),(3,.pt 1 0 0),(31,.b (x0.2.2.2.2==x1.2.2.2.2))] [some ⟨5,60,[AA.enc x0],false⟩,some ⟨5,60,[AA.enc x1],false⟩] kr ?_;rcases BE (x0.2.2.2.2==x1.2.2.2.2) with hc7 | hc7
     ·rw [if_pos hc7] at hj3
      rw [hc7];refine AD (n:=38) AC 4 [(31,.b true),(33,.sl 1 (x0.2.2.2.1.map cdS.enc)),(35,.sl 1 (x1.2.2.2.1.map cdS.enc))] [some ⟨5,60,[AA.enc x0],false⟩,some ⟨5,60,[AA.enc x1],false⟩] kr ?_;obtain ⟨v1,hv1,hj3⟩:=OB hj3;refine AS (caps:=[]) (xs:=[.sl 1 (x0.2.2.2.1.map cdS.enc),.sl 1 (x1.2.2.2.1.map cdS.enc)]) (u:=(x0.2.2.2.1,x1.2.2.2.1,())) rfl rfl II rfl kr kr kr (AL (AW (c:=(cdL 1 cdS)) (v:=x0.2.2.2.1)) (AL (AW (c:=(cdL 1 cdS)) (v:=x1.2.2.2.1)) Ao)) (.inl kr) hv1 ?_;refine AD (n:=38) AC 2 [(4,.b v1)] [some ⟨5,60,[AA.enc x0],false⟩,some ⟨5,60,[AA.enc x1],false⟩] kr ?_;have hq:=OI hj3; subst hq;exact AI rfl (Ar [] trivial ⟨lv,trivial⟩)
     ·rw [Bm hc7] at hj3
      rw [hc7];refine AD (n:=38) AC 7 [(4,.b false)] [some ⟨5,60,[AA.enc x0],false⟩,some ⟨5,60,[AA.enc x1],false⟩] kr ?_;have hq:=OI hj3; subst hq;exact AI rfl (Ar [] trivial ⟨lv,trivial⟩)
    ·rw [Bm hc6] at hj3
     rw [hc6];refine AD (n:=38) AC 14 [(4,.b false)] [some ⟨5,60,[AA.enc x0],false⟩,some ⟨5,60,[AA.enc x1],false⟩] kr ?_;have hq:=OI hj3; subst hq;exact AI rfl (Ar [] trivial ⟨lv,trivial⟩)
   ·rw [Bm hc5] at hj3
    rw [hc5];refine AD (n:=38) AC 21 [(4,.b false)] [some ⟨5,60,[AA.enc x0],false⟩,some ⟨5,60,[AA.enc x1],false⟩] kr ?_;have hq:=OI hj3; subst hq;exact AI rfl (Ar [] trivial ⟨lv,trivial⟩)
  ·rw [Bm hc4] at hj3
   rw [hc4];refine AD (n:=38) AC 28 [(4,.b false)] [some ⟨5,60,[AA.enc x0],false⟩,some ⟨5,60,[AA.enc x1],false⟩] kr ?_;have hq:=OI hj3; subst hq;exact AI rfl (Ar [] trivial ⟨lv,trivial⟩)
 refine AR ?_;have hq:=OI h; subst hq;exact ⟨⟨Fr 38 [(4,.b j3)],[]⟩,AJ,.inr rfl,[.b j3],kr,kr⟩
def Q8:List AV->Option AV:=ES I8 (fun a=>Es a.1 a.2.1) JA
theorem RF:XOk 122 Q8:=by
 refine AU Tryz.func122 (c:=Lz) ?h2 ⟨Tryz.call122⟩ I8 (fun a=>Es a.1 a.2.1) JA (fun a=>(by show 2<=38; decide)) ?h3 ?h4
 case h2=>kernel_rfl
 case h3=>intro b; kernel_rfl
 case h4=>exact fun a b h=>Pk a.1 a.2.1 b h
/- slices.EqualFunc[[]trestle/api.Clause,[]trestle/api.Clause,trestle/api.Clause,trestle/api.Clause] -/
noncomputable def BO:Code:=BL Tryz.f121
def Ak (x0:(List AF)) (x1:(List AF)):Nat->Int->Option ((Unit) ⊕ (Bool))
 | 0,_=>none
 | f + 1,c2 =>
  if (decide (c2 < (x0.length:Int)))=true then
  (idx x0 c2).bind fun v4 =>
  (idx x1 c2).bind fun v5 =>
  (Es v4 v5).bind fun v6 =>
  if (!v6)=true then
  some (.inr false)
  else
  Ak x0 x1 f (wr .i64 (c2 + 1))
  else
  some (.inl ())
def Af (x0:(List AF)) (x1:(List AF)):Option (Bool) :=
 if ((x0.length:Int)!=(x1.length:Int))=true then
 some false
 else
 (Ak x0 x1 100000 0).bind fun r9 =>
 match r9 with
 | (.inl w10) =>
  some true
 | (.inr w11) =>
  some w11
def BP:Cs ((List AF)×(List AF)×Unit×Unit):=(csC (cdL 5 AA) (csC (cdL 5 AA) (csC (cdF 122 csN (fun _=>rfl)) csN)))
def BQ (r:Bool):AV:=cdB.enc r
theorem B4 (x0:(List AF)) (x1:(List AF)):∀ (f:Nat) (c2:Int) (r:(Unit) ⊕ (Bool)),Ak x0 x1 f c2=some r->SemN E0 ⟨none,false⟩ (pc BO [1,1,0,1,0,0]) f ⟨Fr 32 [(1,.sl 5 (x1.map AA.enc)),(2,.fn 122 [] []),(15,.sl 5 (x0.map AA.enc)),(16,.j (x0.length:Int)),(17,.j c2)],[]⟩ (fun e s=>match r with
 | (.inl w)=>e=(.exit 0)/\Wk E0 s ⟨Fr 32 [],[]⟩
 | (.inr w)=>e = .ret/\Wk E0 s ⟨Fr 32 [(6,.b w)],[]⟩):=by
 intro f;induction f with
 | zero=>intro c2 r h; cases h
 | succ f ih0 =>
  intro c2 r h
  have ih:=fun (c2:Int)=>ih0 c2 r
  unfold Ak at h;refine CI ?_
  let p1:Nat×AV:=(17,.j c2)
  let p2:Nat×AV:=(16,.j (x0.length:Int))
  let p3:Nat×AV:=(15,.sl 5 (x0.map AA.enc))
  let p4:Nat×AV:=(2,.fn 122 [] [])
  let p5:Nat×AV:=(1,.sl 5 (x1.map AA.enc))
  refine AK AC [p5,p4,p3,p2,p1,(18,.b (decide (c2 < (x0.length:Int))))] [] ?_;refine AH ?_;refine AT (b:=(decide (c2 < (x0.length:Int)))) kr (fun hb3=>?_) (fun hb3=>?_)
  ·rw [if_pos hb3] at h
   refine AY ?_;refine AH ?_;refine Al ?_;refine AH ?_;obtain ⟨v4,hv4,h⟩:=OB h
   let p6:Option Blk:=some ⟨5,60,[AA.enc v4],false⟩
   refine AM (s1:=⟨Fr 32 [p5,p4,(7,.j c2),(8,.pt 0 0 0),p3,p2,p1],[p6]⟩) ?_ ?_
   ·refine AD (n:=32) AC 1 [p5,p4,p3,p2,p1,(19,.j c2)] [] kr ?_
    refine AZ AC 0 rfl (DR (AB rfl) rfl (AP (a:= .sl 5 (x0.map AA.enc)) (b:= .j c2) kr kr (Di (e:=AA.enc) (el:=60) (k:=5) (ki:= .i64) kr kr hv4))) ?_;exact Ad AC
   refine AH ?_;obtain ⟨v5,hv5,h⟩:=OB h
   let p7:Option Blk:=some ⟨5,60,[AA.enc v5],false⟩
   refine AM (s1:=⟨Fr 32 [p5,p4,(8,.pt 0 0 0),(9,.pt 1 0 0),p3,p2,p1],[p6,p7]⟩) ?_ ?_
   ·refine AD (n:=32) AC 2 [p5,p4,(8,.pt 0 0 0),p3,p2,p1,(22,.sl 5 (x1.map AA.enc)),(23,.j c2)] [p6] kr ?_
    refine AZ AC 0 rfl (DR (AB rfl) rfl (AP (a:= .sl 5 (x1.map AA.enc)) (b:= .j c2) kr kr (Di (e:=AA.enc) (el:=60) (k:=5) (ki:= .i64) kr kr hv5))) ?_;exact Ad AC
   refine AH ?_;obtain ⟨v6,hv6,h⟩:=OB h;refine AM (s1:=⟨Fr 32 [p5,p4,p3,p2,p1,(30,.b (!v6))],[]⟩) ?_ ?_
   ·refine AD (n:=32) AC 3 [p5,p4,p3,p2,p1,(26,.fn 122 [] []),(27,AA.enc v4),(28,AA.enc v5)] [p6,p7] kr ?_
    refine AS (caps:=[]) (xs:=[AA.enc v4,AA.enc v5]) (u:=(v4,v5,())) rfl rfl RF rfl (AB rfl) kr kr (AL (AW (c:=AA) (v:=v4)) (AL (AW (c:=AA) (v:=v5)) Ao)) (.inl kr) hv6 ?_;refine AD (n:=32) AC 1 [p5,p4,p3,p2,p1,(30,.b (!v6))] [p6,p7] kr ?_;exact AI rfl (Ar [] trivial ⟨lv,lv,lv,lv,lv,lv,trivial⟩)
   refine AT (b:=(!v6)) kr (fun hb7=>?_) (fun hb7=>?_)
   ·rw [if_pos hb7] at h
    refine AK AC [(6,.b false)] [] ?_;refine AR ?_;have hq:=OI h; subst hq;exact ⟨rfl,AJ⟩
   ·rw [Bm hb7] at h
    refine AY ?_
    let p8:Nat×AV:=(17,.j (wr .i64 (c2 + 1)))
    refine D1 AC [p5,p4,p3,p2,p8] [] ?_;exact Aq (s1:=⟨Fr 32 [p5,p4,p3,p2,p8],[]⟩) AJ (ih (wr .i64 (c2 + 1)) h)
  ·rw [Bm hb3] at h
   refine C6 ?_;have hq:=OI h; subst hq;exact ⟨rfl,AJ⟩
theorem Do (x0:(List AF)) (x1:(List AF)) (r:Bool) (h:Af x0 x1=some r):Sem E0 ⟨none,false⟩ BO ⟨Fr 32 (A6 0 (BP.enc (x0,x1,(),()))),[]⟩ fun e s'=>(e = .normal\/e = .ret)/\∃ xs,EZ E0.P s'.fr s'.hp Tryz.f121.results.toList=some xs/\Ee xs=BQ r:=by
 unfold Af at h
 let p1:Nat×AV:=(2,.fn 122 [] [])
 let p2:Nat×AV:=(1,.sl 5 (x1.map AA.enc))
 let p3:Nat×AV:=(0,.sl 5 (x0.map AA.enc))
 refine Ax (BY (s1:=⟨Fr 32 [p3,p2,p1],[]⟩) AJ ?_);refine AK AC [p3,p2,p1] [] ?_;refine AH ?_;refine AH ?_;refine AM (s1:=⟨Fr 32 [p3,p2,p1,(14,.b ((x0.length:Int)!=(x1.length:Int)))],[]⟩) ?_ ?_
 ·refine AD (n:=32) AC 1 [p3,p2,p1,(10,.sl 5 (x0.map AA.enc))] [] kr ?_
  refine AZ AC 0 rfl (DR (AB rfl) rfl (C3 (a:= .sl 5 (x0.map AA.enc)) kr (Bn (el:=60) kr))) ?_;refine AD (n:=32) AC 1 [p3,p2,p1,(11,.j (x0.length:Int)),(12,.sl 5 (x1.map AA.enc))] [] kr ?_;refine AZ AC 0 rfl (DR (AB rfl) rfl (C3 (a:= .sl 5 (x1.map AA.enc)) kr (Bn (el:=60) kr))) ?_;exact Ad AC
 refine AT (b:=((x0.length:Int)!=(x1.length:Int))) kr (fun hb1=>?_) (fun hb1=>?_)
 ·rw [if_pos hb1] at h
  refine AK AC [(6,.b false)] [] ?_;refine AR ?_;have hq:=OI h; subst hq;exact ⟨⟨Fr 32 [(6,.b false)],[]⟩,AJ,.inr rfl,[.b false],kr,kr⟩
 ·rw [Bm hb1] at h
  refine AY ?_;refine AH ?_;refine AH ?_
  let p4:Nat×AV:=(17,.j 0)
  let p5:Nat×AV:=(16,.j (x0.length:Int))
  let p6:Nat×AV:=(15,.sl 5 (x0.map AA.enc))
  refine AM (s1:=⟨Fr 32 [p2,p1,p6,p5,p4],[]⟩) ?_ ?_
  ·refine AD (n:=32) AC 1 [p2,p1,p6] [] kr ?_
   refine AZ AC 0 rfl (DR (AB rfl) rfl (C3 (a:= .sl 5 (x0.map AA.enc)) kr (Bn (el:=60) kr))) ?_;exact Ad AC
  refine Al ?_;obtain ⟨r9,hr9,h⟩:=OB h;refine DB (n:=100000) ?_;rcases r9 with w10 | w11
  ·try dsimp only at h
   refine BB (Aq (s1:=⟨Fr 32 [p2,p1,p6,p5,p4],[]⟩) AJ (B4 x0 x1 _ 0 _ hr9)) ?_;refine AK AC [(6,.b true)] [] ?_;refine AR ?_;have hq:=OI h; subst hq;exact ⟨⟨Fr 32 [(6,.b true)],[]⟩,AJ,.inr rfl,[.b true],kr,kr⟩
  ·try dsimp only at h
   refine BB (Aq (s1:=⟨Fr 32 [p2,p1,p6,p5,p4],[]⟩) AJ (B4 x0 x1 _ 0 _ hr9)) ?_;have hq:=OI h; subst hq;exact ⟨⟨Fr 32 [(6,.b w11)],[]⟩,AJ,.inr rfl,[.b w11],kr,kr⟩
def Du:List AV->Option AV:=ES BP (fun a=>Af a.1 a.2.1) BQ
theorem Dw:XOk 121 Du:=by
 refine AU Tryz.func121 (c:=BO) ?h2 ⟨Tryz.call121⟩ BP (fun a=>Af a.1 a.2.1) BQ (fun a=>(by show 3<=32; decide)) ?h3 ?h4
 case h2=>kernel_rfl
 case h3=>intro b; kernel_rfl
 case h4=>exact fun a b h=>Do a.1 a.2.1 b h
/- trestle/trestlelaw03.Same -/
noncomputable def QZ:Code:=BL Tryz.f69
def KK (x0:(List AF)) (x1:(List AF)):Option (Bool) :=
 (Af x0 x1).bind fun v1 =>
 some v1
def Nn:Cs ((List AF)×(List AF)×Unit):=(csC (cdL 5 AA) (csC (cdL 5 AA) csN))
def Nv (r:Bool):AV:=cdB.enc r
theorem UZ (x0:(List AF)) (x1:(List AF)) (r:Bool) (h:KK x0 x1=some r):Sem E0 ⟨none,false⟩ QZ ⟨Fr 8 (A6 0 (Nn.enc (x0,x1,()))),[]⟩ fun e s'=>(e = .normal\/e = .ret)/\∃ xs,EZ E0.P s'.fr s'.hp Tryz.f69.results.toList=some xs/\Ee xs=Nv r:=by
 unfold KK at h
 let p1:Nat×AV:=(1,.sl 5 (x1.map AA.enc))
 let p2:Nat×AV:=(0,.sl 5 (x0.map AA.enc))
 refine Ax (BY (s1:=⟨Fr 8 [p2,p1],[]⟩) AJ ?_);refine AK AC [p2,p1] [] ?_;refine AH ?_;obtain ⟨v1,hv1,h⟩:=OB h;refine AM (s1:=⟨Fr 8 [(4,.b v1)],[]⟩) ?_ ?_
 ·refine AD (n:=8) AC 2 [(5,.sl 5 (x0.map AA.enc)),(6,.sl 5 (x1.map AA.enc))] [] kr ?_
  refine AS (caps:=[]) (xs:=[.sl 5 (x0.map AA.enc),.sl 5 (x1.map AA.enc),.fn 122 [] []]) (u:=(x0,x1,(),())) rfl rfl Dw rfl (AB rfl) kr kr (AL (AW (c:=(cdL 5 AA)) (v:=x0)) (AL (AW (c:=(cdL 5 AA)) (v:=x1)) (AL (Sm.fn Ao) Ao))) (.inl kr) hv1 ?_;exact Ad AC
 refine AR ?_;have hq:=OI h; subst hq;exact ⟨⟨Fr 8 [(4,.b v1)],[]⟩,AJ,.inr rfl,[.b v1],kr,kr⟩
def Wt:List AV->Option AV:=ES Nn (fun a=>KK a.1 a.2.1) Nv
theorem W5:XOk 69 Wt:=by
 refine AU Tryz.func69 (c:=QZ) ?h2 ⟨Tryz.call69⟩ Nn (fun a=>KK a.1 a.2.1) Nv (fun a=>(by show 2<=8; decide)) ?h3 ?h4
 case h2=>kernel_rfl
 case h3=>intro b; kernel_rfl
 case h4=>exact fun a b h=>UZ a.1 a.2.1 b h
/- slices.EqualFunc[[][]trestle/api.Clause,[][]trestle/api.Clause,[]trestle/api.Clause,[]trestle/api.Clause] -/
noncomputable def Bc:Code:=BL Tryz.f143
def AO (x0:(List (List AF))) (x1:(List (List AF))):Nat->Int->Option ((Unit) ⊕ (Bool))
 | 0,_=>none
 | f + 1,c2 =>
  if (decide (c2 < (x0.length:Int)))=true then
  (idx x0 c2).bind fun v4 =>
  (idx x1 c2).bind fun v5 =>
  (KK v4 v5).bind fun v6 =>
  if (!v6)=true then
  some (.inr false)
  else
  AO x0 x1 f (wr .i64 (c2 + 1))
  else
  some (.inl ())
def Ai (x0:(List (List AF))) (x1:(List (List AF))):Option (Bool) :=
 if ((x0.length:Int)!=(x1.length:Int))=true then
 some false
 else
 (AO x0 x1 100000 0).bind fun r9 =>
 match r9 with
 | (.inl w10) =>
  some true
 | (.inr w11) =>
  some w11
def Bd:Cs ((List (List AF))×(List (List AF))×Unit×Unit):=(csC (cdL 1 (cdL 5 AA)) (csC (cdL 1 (cdL 5 AA)) (csC (cdF 69 csN (fun _=>rfl)) csN)))
def Be (r:Bool):AV:=cdB.enc r
theorem CF (x0:(List (List AF))) (x1:(List (List AF))):∀ (f:Nat) (c2:Int) (r:(Unit) ⊕ (Bool)),AO x0 x1 f c2=some r->SemN E0 ⟨none,false⟩ (pc Bc [1,1,0,1,0,0]) f ⟨Fr 32 [(1,.sl 1 (x1.map (cdL 5 AA).enc)),(2,.fn 69 [] []),(15,.sl 1 (x0.map (cdL 5 AA).enc)),(16,.j (x0.length:Int)),(17,.j c2)],[]⟩ (fun e s=>match r with
 | (.inl w)=>e=(.exit 0)/\Wk E0 s ⟨Fr 32 [],[]⟩
 | (.inr w)=>e = .ret/\Wk E0 s ⟨Fr 32 [(6,.b w)],[]⟩):=by
 intro f;induction f with
 | zero=>intro c2 r h; cases h
 | succ f ih0 =>
  intro c2 r h
  have ih:=fun (c2:Int)=>ih0 c2 r
  unfold AO at h;refine CI ?_
  let p1:Nat×AV:=(17,.j c2)
  let p2:Nat×AV:=(16,.j (x0.length:Int))
  let p3:Nat×AV:=(15,.sl 1 (x0.map (cdL 5 AA).enc))
  let p4:Nat×AV:=(2,.fn 69 [] [])
  let p5:Nat×AV:=(1,.sl 1 (x1.map (cdL 5 AA).enc))
  refine AK AC [p5,p4,p3,p2,p1,(18,.b (decide (c2 < (x0.length:Int))))] [] ?_;refine AH ?_;refine AT (b:=(decide (c2 < (x0.length:Int)))) kr (fun hb3=>?_) (fun hb3=>?_)
  ·rw [if_pos hb3] at h
   refine AY ?_;refine AH ?_;refine Al ?_;refine AH ?_;obtain ⟨v4,hv4,h⟩:=OB h
   let p6:Nat×AV:=(8,.sl 5 (v4.map AA.enc))
   refine AM (s1:=⟨Fr 32 [p5,p4,(7,.j c2),p6,p3,p2,p1],[]⟩) ?_ ?_
   ·refine AD (n:=32) AC 1 [p5,p4,p3,p2,p1,(19,.j c2)] [] kr ?_
    refine AZ AC 0 rfl (DR (AB rfl) rfl (AP (a:= .sl 1 (x0.map (cdL 5 AA).enc)) (b:= .j c2) kr kr (Di (e:=(cdL 5 AA).enc) (el:=22) (k:=1) (ki:= .i64) kr kr hv4))) ?_;exact Ad AC
   refine AH ?_;obtain ⟨v5,hv5,h⟩:=OB h;refine AM (s1:=⟨Fr 32 [p5,p4,p6,(9,.sl 5 (v5.map AA.enc)),p3,p2,p1],[]⟩) ?_ ?_
   ·refine AD (n:=32) AC 2 [p5,p4,p6,p3,p2,p1,(22,.sl 1 (x1.map (cdL 5 AA).enc)),(23,.j c2)] [] kr ?_
    refine AZ AC 0 rfl (DR (AB rfl) rfl (AP (a:= .sl 1 (x1.map (cdL 5 AA).enc)) (b:= .j c2) kr kr (Di (e:=(cdL 5 AA).enc) (el:=22) (k:=1) (ki:= .i64) kr kr hv5))) ?_;exact Ad AC
   refine AH ?_;obtain ⟨v6,hv6,h⟩:=OB h;refine AM (s1:=⟨Fr 32 [p5,p4,p3,p2,p1,(30,.b (!v6))],[]⟩) ?_ ?_
   ·refine AD (n:=32) AC 3 [p5,p4,p3,p2,p1,(26,.fn 69 [] []),(27,.sl 5 (v4.map AA.enc)),(28,.sl 5 (v5.map AA.enc))] [] kr ?_
    refine AS (caps:=[]) (xs:=[.sl 5 (v4.map AA.enc),.sl 5 (v5.map AA.enc)]) (u:=(v4,v5,())) rfl rfl W5 rfl (AB rfl) kr kr (AL (AW (c:=(cdL 5 AA)) (v:=v4)) (AL (AW (c:=(cdL 5 AA)) (v:=v5)) Ao)) (.inl kr) hv6 ?_;exact Ad AC
   refine AT (b:=(!v6)) kr (fun hb7=>?_) (fun hb7=>?_)
   ·rw [if_pos hb7] at h
    refine AK AC [(6,.b false)] [] ?_;refine AR ?_;have hq:=OI h; subst hq;exact ⟨rfl,AJ⟩
   ·rw [Bm hb7] at h
    refine AY ?_
    let p7:Nat×AV:=(17,.j (wr .i64 (c2 + 1)))
    refine D1 AC [p5,p4,p3,p2,p7] [] ?_;exact Aq (s1:=⟨Fr 32 [p5,p4,p3,p2,p7],[]⟩) AJ (ih (wr .i64 (c2 + 1)) h)
  ·rw [Bm hb3] at h
   refine C6 ?_;have hq:=OI h; subst hq;exact ⟨rfl,AJ⟩
theorem D4 (x0:(List (List AF))) (x1:(List (List AF))) (r:Bool) (h:Ai x0 x1=some r):Sem E0 ⟨none,false⟩ Bc ⟨Fr 32 (A6 0 (Bd.enc (x0,x1,(),()))),[]⟩ fun e s'=>(e = .normal\/e = .ret)/\∃ xs,EZ E0.P s'.fr s'.hp Tryz.f143.results.toList=some xs/\Ee xs=Be r:=by
 unfold Ai at h
 let p1:Nat×AV:=(2,.fn 69 [] [])
 let p2:Nat×AV:=(1,.sl 1 (x1.map (cdL 5 AA).enc))
 let p3:Nat×AV:=(0,.sl 1 (x0.map (cdL 5 AA).enc))
 refine Ax (BY (s1:=⟨Fr 32 [p3,p2,p1],[]⟩) AJ ?_);refine AK AC [p3,p2,p1] [] ?_;refine AH ?_;refine AH ?_;refine AM (s1:=⟨Fr 32 [p3,p2,p1,(14,.b ((x0.length:Int)!=(x1.length:Int)))],[]⟩) ?_ ?_
 ·refine AD (n:=32) AC 1 [p3,p2,p1,(10,.sl 1 (x0.map (cdL 5 AA).enc))] [] kr ?_
  refine AZ AC 0 rfl (DR (AB rfl) rfl (C3 (a:= .sl 1 (x0.map (cdL 5 AA).enc)) kr (Bn (el:=22) kr))) ?_;refine AD (n:=32) AC 1 [p3,p2,p1,(11,.j (x0.length:Int)),(12,.sl 1 (x1.map (cdL 5 AA).enc))] [] kr ?_;refine AZ AC 0 rfl (DR (AB rfl) rfl (C3 (a:= .sl 1 (x1.map (cdL 5 AA).enc)) kr (Bn (el:=22) kr))) ?_;exact Ad AC
 refine AT (b:=((x0.length:Int)!=(x1.length:Int))) kr (fun hb1=>?_) (fun hb1=>?_)
 ·rw [if_pos hb1] at h
  refine AK AC [(6,.b false)] [] ?_;refine AR ?_;have hq:=OI h; subst hq;exact ⟨⟨Fr 32 [(6,.b false)],[]⟩,AJ,.inr rfl,[.b false],kr,kr⟩
 ·rw [Bm hb1] at h
  refine AY ?_;refine AH ?_;refine AH ?_
  let p4:Nat×AV:=(17,.j 0)
  let p5:Nat×AV:=(16,.j (x0.length:Int))
  let p6:Nat×AV:=(15,.sl 1 (x0.map (cdL 5 AA).enc))
  refine AM (s1:=⟨Fr 32 [p2,p1,p6,p5,p4],[]⟩) ?_ ?_
  ·refine AD (n:=32) AC 1 [p2,p1,p6] [] kr ?_
   refine AZ AC 0 rfl (DR (AB rfl) rfl (C3 (a:= .sl 1 (x0.map (cdL 5 AA).enc)) kr (Bn (el:=22) kr))) ?_;exact Ad AC
  refine Al ?_;obtain ⟨r9,hr9,h⟩:=OB h;refine DB (n:=100000) ?_;rcases r9 with w10 | w11
  ·try dsimp only at h
   refine BB (Aq (s1:=⟨Fr 32 [p2,p1,p6,p5,p4],[]⟩) AJ (CF x0 x1 _ 0 _ hr9)) ?_;refine AK AC [(6,.b true)] [] ?_;refine AR ?_;have hq:=OI h; subst hq;exact ⟨⟨Fr 32 [(6,.b true)],[]⟩,AJ,.inr rfl,[.b true],kr,kr⟩
  ·try dsimp only at h
   refine BB (Aq (s1:=⟨Fr 32 [p2,p1,p6,p5,p4],[]⟩) AJ (CF x0 x1 _ 0 _ hr9)) ?_;have hq:=OI h; subst hq;exact ⟨⟨Fr 32 [(6,.b w11)],[]⟩,AJ,.inr rfl,[.b w11],kr,kr⟩
def EH:List AV->Option AV:=ES Bd (fun a=>Ai a.1 a.2.1) Be
theorem EI:XOk 143 EH:=by
 refine AU Tryz.func143 (c:=Bc) ?h2 ⟨Tryz.call143⟩ Bd (fun a=>Ai a.1 a.2.1) Be (fun a=>(by show 3<=32; decide)) ?h3 ?h4
 case h2=>kernel_rfl
 case h3=>intro b; kernel_rfl
 case h4=>exact fun a b h=>D4 a.1 a.2.1 b h
/- trestle/trestlelaw03.SameAll -/
noncomputable def OO:Code:=BL Tryz.f94
def Hy (x0:(List (List AF))) (x1:(List (List AF))):Option (Bool) :=
 (Ai x0 x1).bind fun v1 =>
 some v1
def K9:Cs ((List (List AF))×(List (List AF))×Unit):=(csC (cdL 1 (cdL 5 AA)) (csC (cdL 1 (cdL 5 AA)) csN))
def LV (r:Bool):AV:=cdB.enc r
theorem Ri (x0:(List (List AF))) (x1:(List (List AF))) (r:Bool) (h:Hy x0 x1=some r):Sem E0 ⟨none,false⟩ OO ⟨Fr 8 (A6 0 (K9.enc (x0,x1,()))),[]⟩ fun e s'=>(e = .normal\/e = .ret)/\∃ xs,EZ E0.P s'.fr s'.hp Tryz.f94.results.toList=some xs/\Ee xs=LV r:=by
 unfold Hy at h
 let p1:Nat×AV:=(1,.sl 1 (x1.map (cdL 5 AA).enc))
 let p2:Nat×AV:=(0,.sl 1 (x0.map (cdL 5 AA).enc))
 refine Ax (BY (s1:=⟨Fr 8 [p2,p1],[]⟩) AJ ?_);refine AK AC [p2,p1] [] ?_;refine AH ?_;obtain ⟨v1,hv1,h⟩:=OB h;refine AM (s1:=⟨Fr 8 [(4,.b v1)],[]⟩) ?_ ?_
 ·refine AD (n:=8) AC 2 [(5,.sl 1 (x0.map (cdL 5 AA).enc)),(6,.sl 1 (x1.map (cdL 5 AA).enc))] [] kr ?_
  refine AS (caps:=[]) (xs:=[.sl 1 (x0.map (cdL 5 AA).enc),.sl 1 (x1.map (cdL 5 AA).enc),.fn 69 [] []]) (u:=(x0,x1,(),())) rfl rfl EI rfl (AB rfl) kr kr (AL (AW (c:=(cdL 1 (cdL 5 AA))) (v:=x0)) (AL (AW (c:=(cdL 1 (cdL 5 AA))) (v:=x1)) (AL (Sm.fn Ao) Ao))) (.inl kr) hv1 ?_;exact Ad AC
 refine AR ?_;have hq:=OI h; subst hq;exact ⟨⟨Fr 8 [(4,.b v1)],[]⟩,AJ,.inr rfl,[.b v1],kr,kr⟩
def T3:List AV->Option AV:=ES K9 (fun a=>Hy a.1 a.2.1) LV
theorem UP:XOk 94 T3:=by
 refine AU Tryz.func94 (c:=OO) ?h2 ⟨Tryz.call94⟩ K9 (fun a=>Hy a.1 a.2.1) LV (fun a=>(by show 2<=8; decide)) ?h3 ?h4
 case h2=>kernel_rfl
 case h3=>intro b; kernel_rfl
 case h4=>exact fun a b h=>Ri a.1 a.2.1 b h
/- trestle/trestlekit.SameWords -/
noncomputable def Kn:Code:=BL Tryz.f152
def Er (x0:(List (List UInt8))) (x1:(List (List UInt8))):Nat->Int->Option ((Unit) ⊕ (Bool))
 | 0,_=>none
 | f + 1,c2 =>
  if (decide (c2 < (x0.length:Int)))=true then
  (idx x0 c2).bind fun v4 =>
  (idx x1 c2).bind fun v5 =>
  if (!(v4==v5))=true then
  some (.inr false)
  else
  Er x0 x1 f (wr .i64 (c2 + 1))
  else
  some (.inl ())
def Hw (x0:(List (List UInt8))) (x1:(List (List UInt8))):Option (Bool) :=
 if ((x0.length:Int)!=(x1.length:Int))=true then
 some false
 else
 (Er x0 x1 200000000000000 0).bind fun r8 =>
 match r8 with
 | (.inl w9) =>
  some true
 | (.inr w10) =>
  some w10
def K6:Cs ((List (List UInt8))×(List (List UInt8))×Unit):=(csC (cdL 1 cdS) (csC (cdL 1 cdS) csN))
def LR (r:Bool):AV:=cdB.enc r
theorem ML (x0:(List (List UInt8))) (x1:(List (List UInt8))):∀ (f:Nat) (c2:Int) (r:(Unit) ⊕ (Bool)),Er x0 x1 f c2=some r->SemN E0 ⟨none,false⟩ (pc Kn [1,1,0,1,0,0]) f ⟨Fr 26 [(0,.sl 1 (x0.map cdS.enc)),(1,.sl 1 (x1.map cdS.enc)),(5,.j c2)],[]⟩ (fun e s=>match r with
 | (.inl w)=>e=(.exit 0)/\Wk E0 s ⟨Fr 26 [],[]⟩
 | (.inr w)=>e = .ret/\Wk E0 s ⟨Fr 26 [(4,.b w)],[]⟩):=by
 intro f;induction f with
 | zero=>intro c2 r h; cases h
 | succ f ih0 =>
  intro c2 r h
  have ih:=fun (c2:Int)=>ih0 c2 r
  unfold Er at h;refine CI ?_;refine AH ?_;refine AH ?_
  let p1:Nat×AV:=(5,.j c2)
  let p2:Nat×AV:=(1,.sl 1 (x1.map cdS.enc))
  let p3:Nat×AV:=(0,.sl 1 (x0.map cdS.enc))
  refine AM (s1:=⟨Fr 26 [p3,p2,p1,(14,.b (decide (c2 < (x0.length:Int))))],[]⟩) ?_ ?_
  ·refine AD (n:=26) AC 2 [p3,p2,p1,(11,.j c2),(12,.sl 1 (x0.map cdS.enc))] [] kr ?_
   refine AZ AC 0 rfl (DR (AB rfl) rfl (C3 (a:= .sl 1 (x0.map cdS.enc)) kr (Bn (el:=9) kr))) ?_;exact Ad AC
  refine AT (b:=(decide (c2 < (x0.length:Int)))) kr (fun hb3=>?_) (fun hb3=>?_)
  ·rw [if_pos hb3] at h
   refine AY ?_;refine AH ?_;refine Al ?_;refine AH ?_;obtain ⟨v4,hv4,h⟩:=OB h;obtain ⟨v5,hv5,h⟩:=OB h;refine D5 AC (s1:=⟨Fr 26 [p3,p2,p1,(25,.b (!(v4==v5)))],[]⟩) kr ?_ ?_
   ·refine Aa (n:=26) AC 2 [p3,p2,p1,(17,.sl 1 (x0.map cdS.enc)),(18,.j c2)] [] kr kr ?_
    refine RunDS.one AC rfl kr (JB kr (AB rfl) rfl (AP (a:= .sl 1 (x0.map cdS.enc)) (b:= .j c2) kr kr (Di (e:=cdS.enc) (el:=9) (k:=1) (ki:= .i64) kr kr hv4)) kr) ?_;refine Aa (n:=26) AC 3 [p3,p2,p1,(20,.st v4),(21,.sl 1 (x1.map cdS.enc)),(22,.j c2)] [] kr kr ?_;refine RunDS.one AC rfl kr (JB kr (AB rfl) rfl (AP (a:= .sl 1 (x1.map cdS.enc)) (b:= .j c2) kr kr (Di (e:=cdS.enc) (el:=9) (k:=1) (ki:= .i64) kr kr hv5)) kr) ?_;refine Aa (n:=26) AC 2 [p3,p2,p1,(25,.b (!(v4==v5)))] [] kr kr ?_;exact RunDS.done rfl AJ
   refine AT (b:=(!(v4==v5))) kr (fun hb6=>?_) (fun hb6=>?_)
   ·rw [if_pos hb6] at h
    refine AK AC [(4,.b false)] [] ?_;refine AR ?_;have hq:=OI h; subst hq;exact ⟨rfl,AJ⟩
   ·rw [Bm hb6] at h
    refine AY ?_
    let p4:Nat×AV:=(5,.j (wr .i64 (c2 + 1)))
    refine D1 AC [p3,p2,p4] [] ?_;exact Aq (s1:=⟨Fr 26 [p3,p2,p4],[]⟩) AJ (ih (wr .i64 (c2 + 1)) h)
  ·rw [Bm hb3] at h
   refine C6 ?_;have hq:=OI h; subst hq;exact ⟨rfl,AJ⟩
theorem Re (x0:(List (List UInt8))) (x1:(List (List UInt8))) (r:Bool) (h:Hw x0 x1=some r):Sem E0 ⟨none,false⟩ Kn ⟨Fr 26 (A6 0 (K6.enc (x0,x1,()))),[]⟩ fun e s'=>(e = .normal\/e = .ret)/\∃ xs,EZ E0.P s'.fr s'.hp Tryz.f152.results.toList=some xs/\Ee xs=LR r:=by
 unfold Hw at h
 let p1:Nat×AV:=(1,.sl 1 (x1.map cdS.enc))
 let p2:Nat×AV:=(0,.sl 1 (x0.map cdS.enc))
 refine Ax (BY (s1:=⟨Fr 26 [p2,p1],[]⟩) AJ ?_);refine AK AC [p2,p1] [] ?_;refine AH ?_;refine AH ?_;refine AM (s1:=⟨Fr 26 [p2,p1,(10,.b ((x0.length:Int)!=(x1.length:Int)))],[]⟩) ?_ ?_
 ·refine AD (n:=26) AC 1 [p2,p1,(6,.sl 1 (x0.map cdS.enc))] [] kr ?_
  refine AZ AC 0 rfl (DR (AB rfl) rfl (C3 (a:= .sl 1 (x0.map cdS.enc)) kr (Bn (el:=9) kr))) ?_;refine AD (n:=26) AC 1 [p2,p1,(7,.j (x0.length:Int)),(8,.sl 1 (x1.map cdS.enc))] [] kr ?_;refine AZ AC 0 rfl (DR (AB rfl) rfl (C3 (a:= .sl 1 (x1.map cdS.enc)) kr (Bn (el:=9) kr))) ?_;exact Ad AC
 refine AT (b:=((x0.length:Int)!=(x1.length:Int))) kr (fun hb1=>?_) (fun hb1=>?_)
 ·rw [if_pos hb1] at h
  refine AK AC [(4,.b false)] [] ?_;refine AR ?_;have hq:=OI h; subst hq;exact ⟨⟨Fr 26 [(4,.b false)],[]⟩,AJ,.inr rfl,[.b false],kr,kr⟩
 ·rw [Bm hb1] at h
  refine AY ?_;refine AH ?_
  let p3:Nat×AV:=(5,.j 0)
  refine AK AC [p2,p1,p3] [] ?_;refine Al ?_;obtain ⟨r8,hr8,h⟩:=OB h;refine DB (n:=200000000000000) ?_;rcases r8 with w9 | w10
  ·try dsimp only at h
   refine BB (Aq (s1:=⟨Fr 26 [p2,p1,p3],[]⟩) AJ (ML x0 x1 _ 0 _ hr8)) ?_;refine AK AC [(4,.b true)] [] ?_;refine AR ?_;have hq:=OI h; subst hq;exact ⟨⟨Fr 26 [(4,.b true)],[]⟩,AJ,.inr rfl,[.b true],kr,kr⟩
  ·try dsimp only at h
   refine BB (Aq (s1:=⟨Fr 26 [p2,p1,p3],[]⟩) AJ (ML x0 x1 _ 0 _ hr8)) ?_;have hq:=OI h; subst hq;exact ⟨⟨Fr 26 [(4,.b w10)],[]⟩,AJ,.inr rfl,[.b w10],kr,kr⟩
def T0:List AV->Option AV:=ES K6 (fun a=>Hw a.1 a.2.1) LR
theorem UM:XOk 152 T0:=by
 refine AU Tryz.func152 (c:=Kn) ?h2 ⟨Tryz.call152⟩ K6 (fun a=>Hw a.1 a.2.1) LR (fun a=>(by show 2<=26; decide)) ?h3 ?h4
 case h2=>kernel_rfl
 case h3=>intro b; kernel_rfl
 case h4=>exact fun a b h=>Re a.1 a.2.1 b h
/- trestle/trestlekit.SameGuest -/
noncomputable def OM:Code:=BL Tryz.f123
def Hv (x0:An) (x1:An):Option (Bool) :=
 (if (x0.1==x1.1)=true then if (x0.2.1==x1.2.1)=true then if (x0.2.2.1==x1.2.2.1)=true then if (x0.2.2.2.1==x1.2.2.2.1)=true then if (x0.2.2.2.2.1==x1.2.2.2.2.1)=true then if (x0.2.2.2.2.2.1==x1.2.2.2.2.2.1)=true then if (x0.2.2.2.2.2.2.1==x1.2.2.2.2.2.2.1)=true then if (x0.2.2.2.2.2.2.2.1==x1.2.2.2.2.2.2.2.1)=true then (Hw x0.2.2.2.2.2.2.2.2 x1.2.2.2.2.2.2.2.2).bind fun v1 =>
 some v1 else some false else some false else some false else some false else some false else some false else some false else some false).bind fun j3 =>
 some j3
def K5:Cs (An×An×Unit):=(csC AE (csC AE csN))
def LQ (r:Bool):AV:=cdB.enc r
theorem Rb (x0:An) (x1:An) (r:Bool) (h:Hv x0 x1=some r):Sem E0 ⟨none,false⟩ OM ⟨Fr 66 (A6 0 (K5.enc (x0,x1,()))),[]⟩ fun e s'=>(e = .normal\/e = .ret)/\∃ xs,EZ E0.P s'.fr s'.hp Tryz.f123.results.toList=some xs/\Ee xs=LQ r:=by
 unfold Hv at h;refine Ax (BY (s1:=⟨Fr 66 [(0,AE.enc x0),(1,AE.enc x1)],[]⟩) AJ ?_);refine AK AC [(2,.pt 0 0 0),(3,.pt 1 0 0)] [some ⟨9,42,[AE.enc x0],false⟩,some ⟨9,42,[AE.enc x1],false⟩] ?_;refine AH ?_;obtain ⟨j3,hj3,h⟩:=OB h;refine AM (s1:=⟨Fr 66 [(4,.b j3)],[]⟩) ?_ ?_
 ·refine AD (n:=66) AC 6 [(2,.pt 0 0 0),(3,.pt 1 0 0),(10,.b (x0.1==x1.1))] [some ⟨9,42,[AE.enc x0],false⟩,some ⟨9,42,[AE.enc x1],false⟩] kr ?_
  rcases BE (x0.1==x1.1) with hc4 | hc4
  ·rw [if_pos hc4] at hj3
   rw [hc4];refine AD (n:=66) AC 7 [(2,.pt 0 0 0),(3,.pt 1 0 0),(17,.b (x0.2.1==x1.2.1))] [some ⟨9,42,[AE.enc x0],false⟩,some ⟨9,42,[AE.enc x1],false⟩] kr ?_;rcases BE (x0.2.1==x1.2.1) with hc5 | hc5
   ·rw [if_pos hc5] at hj3
    rw [hc5];refine AD (n:=66) AC 7 [(2,.pt 0 0 0),(3,.pt 1 0 0),(24,.b (x0.2.2.1==x1.2.2.1))] [some ⟨9,42,[AE.enc x0],false⟩,some ⟨9,42,[AE.enc x1],false⟩] kr ?_;rcases BE (x0.2.2.1==x1.2.2.1) with hc6 | hc6
    ·rw [if_pos hc6] at hj3
     rw [hc6];refine AD (n:=66) AC 7 [(2,.pt 0 0 0),(3,.pt 1 0 0),(31,.b (x0.2.2.2.1==x1.2.2.2.1))] [some ⟨9,42,[AE.enc x0],false⟩,some ⟨9,42,[AE.enc x1],false⟩] kr ?_;rcases BE (x0.2.2.2.1==x1.2.2.2.1) with hc7 | hc7
     ·rw [if_pos hc7] at hj3
      rw [hc7];refine AD (n:=66) AC 7 [(2,.pt 0 0 0),(3,.pt 1 0 0),(38,.b (x0.2.2.2.2.1==x1.2.2.2.2.1))] [some ⟨9,42,[AE.enc x0],false⟩,some ⟨9,42,[AE.enc x1],false⟩] kr ?_;rcases BE (x0.2.2.2.2.1==x1.2.2.2.2.1) with hc8 | hc8
      ·rw [if_pos hc8] at hj3
       rw [hc8];refine AD (n:=66) AC 7 [(2,.pt 0 0 0),(3,.pt 1 0 0),(45,.b (x0.2.2.2.2.2.1==x1.2.2.2.2.2.1))] [some ⟨9,42,[AE.enc x0],false⟩,some ⟨9,42,[AE.enc x1],false⟩] kr ?_;rcases BE (x0.2.2.2.2.2.1==x1.2.2.2.2.2.1) with hc9 | hc9
       ·rw [if_pos hc9] at hj3
        rw [hc9];refine AD (n:=66) AC 7 [(2,.pt 0 0 0),(3,.pt 1 0 0),(52,.b (x0.2.2.2.2.2.2.1==x1.2.2.2.2.2.2.1))] [some ⟨9,42,[AE.enc x0],false⟩,some ⟨9,42,[AE.enc x1],false⟩] kr ?_;rcases BE (x0.2.2.2.2.2.2.1==x1.2.2.2.2.2.2.1) with hc10 | hc10
        ·rw [if_pos hc10] at hj3
         rw [hc10];refine AD (n:=66) AC 7 [(2,.pt 0 0 0),(3,.pt 1 0 0),(59,.b (x0.2.2.2.2.2.2.2.1==x1.2.2.2.2.2.2.2.1))] [some ⟨9,42,[AE.enc x0],false⟩,some ⟨9,42,[AE.enc x1],false⟩] kr ?_;rcases BE (x0.2.2.2.2.2.2.2.1==x1.2.2.2.2.2.2.2.1) with hc11 | hc11
         ·rw [if_pos hc11] at hj3
          rw [hc11];refine AD (n:=66) AC 4 [(59,.b true),(61,.sl 1 (x0.2.2.2.2.2.2.2.2.map cdS.enc)),(63,.sl 1 (x1.2.2.2.2.2.2.2.2.map cdS.enc))] [some ⟨9,42,[AE.enc x0],false⟩,some ⟨9,42,[AE.enc x1],false⟩] kr ?_;obtain ⟨v1,hv1,hj3⟩:=OB hj3;refine AS (caps:=[]) (xs:=[.sl 1 (x0.2.2.2.2.2.2.2.2.map cdS.enc),.sl 1 (x1.2.2.2.2.2.2.2.2.map cdS.enc)]) (u:=(x0.2.2.2.2.2.2.2.2,x1.2.2.2.2.2.2.2.2,())) rfl rfl UM rfl kr kr kr (AL (AW (c:=(cdL 1 cdS)) (v:=x0.2.2.2.2.2.2.2.2)) (AL (AW (c:=(cdL 1 cdS)) (v:=x1.2.2.2.2.2.2.2.2)) Ao)) (.inl kr) hv1 ?_;refine AD (n:=66) AC 2 [(4,.b v1)] [some ⟨9,42,[AE.enc x0],false⟩,some ⟨9,42,[AE.enc x1],false⟩] kr ?_;have hq:=OI hj3; subst hq;exact AI rfl (Ar [] trivial ⟨lv,trivial⟩)
         ·rw [Bm hc11] at hj3
          rw [hc11];refine AD (n:=66) AC 7 [(4,.b false)] [some ⟨9,42,[AE.enc x0],false⟩,some ⟨9,42,[AE.enc x1],false⟩] kr ?_;have hq:=OI hj3; subst hq;exact AI rfl (Ar [] trivial ⟨lv,trivial⟩)
        ·rw [Bm hc10] at hj3
         rw [hc10];refine AD (n:=66) AC 14 [(4,.b false)] [some ⟨9,42,[AE.enc x0],false⟩,some ⟨9,42,[AE.enc x1],false⟩] kr ?_;have hq:=OI hj3; subst hq;exact AI rfl (Ar [] trivial ⟨lv,trivial⟩)
       ·rw [Bm hc9] at hj3
        rw [hc9];refine AD (n:=66) AC 21 [(4,.b false)] [some ⟨9,42,[AE.enc x0],false⟩,some ⟨9,42,[AE.enc x1],false⟩] kr ?_;have hq:=OI hj3; subst hq;exact AI rfl (Ar [] trivial ⟨lv,trivial⟩)
      ·rw [Bm hc8] at hj3
       rw [hc8];refine AD (n:=66) AC 28 [(4,.b false)] [some ⟨9,42,[AE.enc x0],false⟩,some ⟨9,42,[AE.enc x1],false⟩] kr ?_;have hq:=OI hj3; subst hq;exact AI rfl (Ar [] trivial ⟨lv,trivial⟩)
     ·rw [Bm hc7] at hj3
      rw [hc7];refine AD (n:=66) AC 35 [(4,.b false)] [some ⟨9,42,[AE.enc x0],false⟩,some ⟨9,42,[AE.enc x1],false⟩] kr ?_;have hq:=OI hj3; subst hq;exact AI rfl (Ar [] trivial ⟨lv,trivial⟩)
    ·rw [Bm hc6] at hj3
     rw [hc6];refine AD (n:=66) AC 42 [(4,.b false)] [some ⟨9,42,[AE.enc x0],false⟩,some ⟨9,42,[AE.enc x1],false⟩] kr ?_;have hq:=OI hj3; subst hq;exact AI rfl (Ar [] trivial ⟨lv,trivial⟩)
   ·rw [Bm hc5] at hj3
    rw [hc5];refine AD (n:=66) AC 49 [(4,.b false)] [some ⟨9,42,[AE.enc x0],false⟩,some ⟨9,42,[AE.enc x1],false⟩] kr ?_;have hq:=OI hj3; subst hq;exact AI rfl (Ar [] trivial ⟨lv,trivial⟩)
  ·rw [Bm hc4] at hj3
   rw [hc4];refine AD (n:=66) AC 56 [(4,.b false)] [some ⟨9,42,[AE.enc x0],false⟩,some ⟨9,42,[AE.enc x1],false⟩] kr ?_;have hq:=OI hj3; subst hq;exact AI rfl (Ar [] trivial ⟨lv,trivial⟩)
 refine AR ?_;have hq:=OI h; subst hq;exact ⟨⟨Fr 66 [(4,.b j3)],[]⟩,AJ,.inr rfl,[.b j3],kr,kr⟩
def Tz:List AV->Option AV:=ES K5 (fun a=>Hv a.1 a.2.1) LQ
theorem UL:XOk 123 Tz:=by
 refine AU Tryz.func123 (c:=OM) ?h2 ⟨Tryz.call123⟩ K5 (fun a=>Hv a.1 a.2.1) LQ (fun a=>(by show 2<=66; decide)) ?h3 ?h4
 case h2=>kernel_rfl
 case h3=>intro b; kernel_rfl
 case h4=>exact fun a b h=>Rb a.1 a.2.1 b h
/- trestle/trestlekit.SameGuests -/
noncomputable def J3:Code:=BL Tryz.f70
def Dt (x0:(List An)) (x1:(List An)):Nat->Int->Option ((Unit) ⊕ (Bool))
 | 0,_=>none
 | f + 1,c2 =>
  if (decide (c2 < (x0.length:Int)))=true then
  (idx x0 c2).bind fun v4 =>
  (idx x1 c2).bind fun v5 =>
  (Hv v4 v5).bind fun v6 =>
  if (!v6)=true then
  some (.inr false)
  else
  Dt x0 x1 f (wr .i64 (c2 + 1))
  else
  some (.inl ())
def HF (x0:(List An)) (x1:(List An)):Option (Bool) :=
 if ((x0.length:Int)!=(x1.length:Int))=true then
 some false
 else
 (Dt x0 x1 100000 0).bind fun r9 =>
 match r9 with
 | (.inl w10) =>
  some true
 | (.inr w11) =>
  some w11
def J7:Cs ((List An)×(List An)×Unit):=(csC (cdL 9 AE) (csC (cdL 9 AE) csN))
def KE (r:Bool):AV:=cdB.enc r
theorem Lb (x0:(List An)) (x1:(List An)):∀ (f:Nat) (c2:Int) (r:(Unit) ⊕ (Bool)),Dt x0 x1 f c2=some r->SemN E0 ⟨none,false⟩ (pc J3 [1,1,0,1,0,0]) f ⟨Fr 27 [(0,.sl 9 (x0.map AE.enc)),(1,.sl 9 (x1.map AE.enc)),(5,.j c2)],[]⟩ (fun e s=>match r with
 | (.inl w)=>e=(.exit 0)/\Wk E0 s ⟨Fr 27 [],[]⟩
 | (.inr w)=>e = .ret/\Wk E0 s ⟨Fr 27 [(4,.b w)],[]⟩):=by
 intro f;induction f with
 | zero=>intro c2 r h; cases h
 | succ f ih0 =>
  intro c2 r h
  have ih:=fun (c2:Int)=>ih0 c2 r
  unfold Dt at h;refine CI ?_;refine AH ?_;refine AH ?_
  let p1:Nat×AV:=(5,.j c2)
  let p2:Nat×AV:=(1,.sl 9 (x1.map AE.enc))
  let p3:Nat×AV:=(0,.sl 9 (x0.map AE.enc))
  refine AM (s1:=⟨Fr 27 [p3,p2,p1,(14,.b (decide (c2 < (x0.length:Int))))],[]⟩) ?_ ?_
  ·refine AD (n:=27) AC 2 [p3,p2,p1,(11,.j c2),(12,.sl 9 (x0.map AE.enc))] [] kr ?_
   refine AZ AC 0 rfl (DR (AB rfl) rfl (C3 (a:= .sl 9 (x0.map AE.enc)) kr (Bn (el:=42) kr))) ?_;exact Ad AC
  refine AT (b:=(decide (c2 < (x0.length:Int)))) kr (fun hb3=>?_) (fun hb3=>?_)
  ·rw [if_pos hb3] at h
   refine AY ?_;refine AH ?_;refine Al ?_;refine AH ?_;obtain ⟨v4,hv4,h⟩:=OB h;obtain ⟨v5,hv5,h⟩:=OB h;obtain ⟨v6,hv6,h⟩:=OB h;refine D5 AC (s1:=⟨Fr 27 [p3,p2,p1,(26,.b (!v6))],[]⟩) kr ?_ ?_
   ·refine Aa (n:=27) AC 2 [p3,p2,p1,(17,.sl 9 (x0.map AE.enc)),(18,.j c2)] [] kr kr ?_
    refine RunDS.one AC rfl kr (JB kr (AB rfl) rfl (AP (a:= .sl 9 (x0.map AE.enc)) (b:= .j c2) kr kr (Di (e:=AE.enc) (el:=42) (k:=9) (ki:= .i64) kr kr hv4)) kr) ?_;refine Aa (n:=27) AC 3 [p3,p2,p1,(20,AE.enc v4),(21,.sl 9 (x1.map AE.enc)),(22,.j c2)] [] kr kr ?_;refine RunDS.one AC rfl kr (JB kr (AB rfl) rfl (AP (a:= .sl 9 (x1.map AE.enc)) (b:= .j c2) kr kr (Di (e:=AE.enc) (el:=42) (k:=9) (ki:= .i64) kr kr hv5)) kr) ?_;refine Aa (n:=27) AC 1 [p3,p2,p1,(20,AE.enc v4),(24,AE.enc v5)] [] kr kr ?_;refine Bx (caps:=[]) (xs:=[AE.enc v4,AE.enc v5]) (u:=(v4,v5,())) rfl rfl UL rfl (AB rfl) kr kr (AL (AW (c:=AE) (v:=v4)) (AL (AW (c:=AE) (v:=v5)) Ao)) kr hv6 ?_;refine Aa (n:=27) AC 1 [p3,p2,p1,(26,.b (!v6))] [] kr kr ?_;exact RunDS.done rfl AJ
   refine AT (b:=(!v6)) kr (fun hb7=>?_) (fun hb7=>?_)
   ·rw [if_pos hb7] at h
    refine AK AC [(4,.b false)] [] ?_;refine AR ?_;have hq:=OI h; subst hq;exact ⟨rfl,AJ⟩
   ·rw [Bm hb7] at h
    refine AY ?_
    let p4:Nat×AV:=(5,.j (wr .i64 (c2 + 1)))
    refine D1 AC [p3,p2,p4] [] ?_;exact Aq (s1:=⟨Fr 27 [p3,p2,p4],[]⟩) AJ (ih (wr .i64 (c2 + 1)) h)
  ·rw [Bm hb3] at h
   refine C6 ?_;have hq:=OI h; subst hq;exact ⟨rfl,AJ⟩
theorem Qv (x0:(List An)) (x1:(List An)) (r:Bool) (h:HF x0 x1=some r):Sem E0 ⟨none,false⟩ J3 ⟨Fr 27 (A6 0 (J7.enc (x0,x1,()))),[]⟩ fun e s'=>(e = .normal\/e = .ret)/\∃ xs,EZ E0.P s'.fr s'.hp Tryz.f70.results.toList=some xs/\Ee xs=KE r:=by
 unfold HF at h
 let p1:Nat×AV:=(1,.sl 9 (x1.map AE.enc))
 let p2:Nat×AV:=(0,.sl 9 (x0.map AE.enc))
 refine Ax (BY (s1:=⟨Fr 27 [p2,p1],[]⟩) AJ ?_);refine AK AC [p2,p1] [] ?_;refine AH ?_;refine AH ?_;refine AM (s1:=⟨Fr 27 [p2,p1,(10,.b ((x0.length:Int)!=(x1.length:Int)))],[]⟩) ?_ ?_
 ·refine AD (n:=27) AC 1 [p2,p1,(6,.sl 9 (x0.map AE.enc))] [] kr ?_
  refine AZ AC 0 rfl (DR (AB rfl) rfl (C3 (a:= .sl 9 (x0.map AE.enc)) kr (Bn (el:=42) kr))) ?_;refine AD (n:=27) AC 1 [p2,p1,(7,.j (x0.length:Int)),(8,.sl 9 (x1.map AE.enc))] [] kr ?_;refine AZ AC 0 rfl (DR (AB rfl) rfl (C3 (a:= .sl 9 (x1.map AE.enc)) kr (Bn (el:=42) kr))) ?_;exact Ad AC
 refine AT (b:=((x0.length:Int)!=(x1.length:Int))) kr (fun hb1=>?_) (fun hb1=>?_)
 ·rw [if_pos hb1] at h
  refine AK AC [(4,.b false)] [] ?_;refine AR ?_;have hq:=OI h; subst hq;exact ⟨⟨Fr 27 [(4,.b false)],[]⟩,AJ,.inr rfl,[.b false],kr,kr⟩
 ·rw [Bm hb1] at h
  refine AY ?_;refine AH ?_
  let p3:Nat×AV:=(5,.j 0)
  refine AK AC [p2,p1,p3] [] ?_;refine Al ?_;obtain ⟨r9,hr9,h⟩:=OB h;refine DB (n:=100000) ?_;rcases r9 with w10 | w11
  ·try dsimp only at h
   refine BB (Aq (s1:=⟨Fr 27 [p2,p1,p3],[]⟩) AJ (Lb x0 x1 _ 0 _ hr9)) ?_;refine AK AC [(4,.b true)] [] ?_;refine AR ?_;have hq:=OI h; subst hq;exact ⟨⟨Fr 27 [(4,.b true)],[]⟩,AJ,.inr rfl,[.b true],kr,kr⟩
  ·try dsimp only at h
   refine BB (Aq (s1:=⟨Fr 27 [p2,p1,p3],[]⟩) AJ (Lb x0 x1 _ 0 _ hr9)) ?_;have hq:=OI h; subst hq;exact ⟨⟨Fr 27 [(4,.b w11)],[]⟩,AJ,.inr rfl,[.b w11],kr,kr⟩
def Se:List AV->Option AV:=ES J7 (fun a=>HF a.1 a.2.1) KE
theorem Sj:XOk 70 Se:=by
 refine AU Tryz.func70 (c:=J3) ?h2 ⟨Tryz.call70⟩ J7 (fun a=>HF a.1 a.2.1) KE (fun a=>(by show 2<=27; decide)) ?h3 ?h4
 case h2=>kernel_rfl
 case h3=>intro b; kernel_rfl
 case h4=>exact fun a b h=>Qv a.1 a.2.1 b h
/- trestle/trestlelaw03.turns -/
noncomputable def Pw:Code:=BL Tryz.f38
def Ib (x0:(List (List AF))) (x1:(List (List UInt8))) (x2:(List An)):Option (Bool) :=
 (Hx x0).bind fun v1 =>
 (DC x1).bind fun v2 =>
 (HE x2).bind fun v3 =>
 (GX v1 v2 v3).bind fun v4 =>
 (Gc x0 x1 x2).bind fun v5 =>
 (El v4.1 v5.1).bind fun v6 =>
 (if v6=true then if (v4.2==v5.2)=true then (Hy v1 x0).bind fun v7 =>
 if v7=true then (Cb v2 x1).bind fun v8 =>
 if v8=true then (HF v3 x2).bind fun v9 =>
 some v9 else some false else some false else some false else some false).bind fun j11 =>
 some j11
def M8:Cs ((List (List AF))×(List (List UInt8))×(List An)×Unit):=(csC (cdL 1 (cdL 5 AA)) (csC (cdL 1 cdS) (csC (cdL 9 AE) csN)))
def NE (r:Bool):AV:=cdB.enc r
theorem TX (x0:(List (List AF))) (x1:(List (List UInt8))) (x2:(List An)) (r:Bool) (h:Ib x0 x1 x2=some r):Sem E0 ⟨none,false⟩ Pw ⟨Fr 57 (A6 0 (M8.enc (x0,x1,x2,()))),[]⟩ fun e s'=>(e = .normal\/e = .ret)/\∃ xs,EZ E0.P s'.fr s'.hp Tryz.f38.results.toList=some xs/\Ee xs=NE r:=by
 unfold Ib at h;refine Ax (BY (s1:=⟨Fr 57 [(0,.sl 1 (x0.map (cdL 5 AA).enc)),(1,.sl 1 (x1.map cdS.enc)),(2,.sl 9 (x2.map AE.enc))],[]⟩) AJ ?_);refine AK AC [(0,.sl 1 (x0.map (cdL 5 AA).enc)),(1,.sl 1 (x1.map cdS.enc)),(2,.sl 9 (x2.map AE.enc))] [] ?_;refine AH ?_;obtain ⟨v1,hv1,h⟩:=OB h;obtain ⟨v2,hv2,h⟩:=OB h;obtain ⟨v3,hv3,h⟩:=OB h;refine AM (s1:=⟨Fr 57 [(0,.sl 1 (x0.map (cdL 5 AA).enc)),(1,.sl 1 (x1.map cdS.enc)),(2,.sl 9 (x2.map AE.enc)),(7,.sl 1 (v1.map (cdL 5 AA).enc)),(8,.sl 1 (v2.map cdS.enc)),(9,.sl 9 (v3.map AE.enc))],[]⟩) ?_ ?_
 ·refine AD (n:=57) AC 1 [(0,.sl 1 (x0.map (cdL 5 AA).enc)),(1,.sl 1 (x1.map cdS.enc)),(2,.sl 9 (x2.map AE.enc)),(14,.sl 1 (x0.map (cdL 5 AA).enc))] [] kr ?_
  refine AS (caps:=[]) (xs:=[.sl 1 (x0.map (cdL 5 AA).enc)]) (u:=(x0,())) rfl rfl UN rfl (AB rfl) kr kr (AL (AW (c:=(cdL 1 (cdL 5 AA))) (v:=x0)) Ao) (.inr kr) hv1 ?_;refine AD (n:=57) AC 1 [(0,.sl 1 (x0.map (cdL 5 AA).enc)),(1,.sl 1 (x1.map cdS.enc)),(2,.sl 9 (x2.map AE.enc)),(15,.sl 1 (v1.map (cdL 5 AA).enc)),(16,.sl 1 (x1.map cdS.enc))] [] kr ?_;refine AS (caps:=[]) (xs:=[.sl 1 (x1.map cdS.enc)]) (u:=(x1,())) rfl rfl Lm rfl (AB rfl) kr kr (AL (AW (c:=(cdL 1 cdS)) (v:=x1)) Ao) (.inr kr) hv2 ?_;refine AD (n:=57) AC 1 [(0,.sl 1 (x0.map (cdL 5 AA).enc)),(1,.sl 1 (x1.map cdS.enc)),(2,.sl 9 (x2.map AE.enc)),(15,.sl 1 (v1.map (cdL 5 AA).enc)),(17,.sl 1 (v2.map cdS.enc)),(18,.sl 9 (x2.map AE.enc))] [] kr ?_;refine AS (caps:=[]) (xs:=[.sl 9 (x2.map AE.enc)]) (u:=(x2,())) rfl rfl Si rfl (AB rfl) kr kr (AL (AW (c:=(cdL 9 AE)) (v:=x2)) Ao) (.inr kr) hv3 ?_;exact Ad AC
 refine AH ?_;obtain ⟨v4,hv4,h⟩:=OB h;refine AM (s1:=⟨Fr 57 [(0,.sl 1 (x0.map (cdL 5 AA).enc)),(1,.sl 1 (x1.map cdS.enc)),(2,.sl 9 (x2.map AE.enc)),(7,.sl 1 (v1.map (cdL 5 AA).enc)),(8,.sl 1 (v2.map cdS.enc)),(9,.sl 9 (v3.map AE.enc)),(10,.sl 1 (v4.1.map cdI.enc)),(11,.j v4.2)],[]⟩) ?_ ?_
 ·refine AD (n:=57) AC 3 [(0,.sl 1 (x0.map (cdL 5 AA).enc)),(1,.sl 1 (x1.map cdS.enc)),(2,.sl 9 (x2.map AE.enc)),(7,.sl 1 (v1.map (cdL 5 AA).enc)),(8,.sl 1 (v2.map cdS.enc)),(9,.sl 9 (v3.map AE.enc)),(21,.sl 1 (v1.map (cdL 5 AA).enc)),(22,.sl 1 (v2.map cdS.enc)),(23,.sl 9 (v3.map AE.enc))] [] kr ?_
  refine AS (caps:=[]) (xs:=[.sl 1 (v1.map (cdL 5 AA).enc),.sl 1 (v2.map cdS.enc),.sl 9 (v3.map AE.enc)]) (u:=(v1,v2,v3,())) rfl rfl R4 rfl (AB rfl) kr kr (AL (AW (c:=(cdL 1 (cdL 5 AA))) (v:=v1)) (AL (AW (c:=(cdL 1 cdS)) (v:=v2)) (AL (AW (c:=(cdL 9 AE)) (v:=v3)) Ao))) (.inr kr) hv4 ?_;exact Ad AC
 refine AH ?_;obtain ⟨v5,hv5,h⟩:=OB h;refine AM (s1:=⟨Fr 57 [(0,.sl 1 (x0.map (cdL 5 AA).enc)),(1,.sl 1 (x1.map cdS.enc)),(2,.sl 9 (x2.map AE.enc)),(7,.sl 1 (v1.map (cdL 5 AA).enc)),(8,.sl 1 (v2.map cdS.enc)),(9,.sl 9 (v3.map AE.enc)),(10,.sl 1 (v4.1.map cdI.enc)),(11,.j v4.2),(12,.sl 1 (v5.1.map cdI.enc)),(13,.j v5.2)],[]⟩) ?_ ?_
 ·refine AD (n:=57) AC 3 [(0,.sl 1 (x0.map (cdL 5 AA).enc)),(1,.sl 1 (x1.map cdS.enc)),(2,.sl 9 (x2.map AE.enc)),(7,.sl 1 (v1.map (cdL 5 AA).enc)),(8,.sl 1 (v2.map cdS.enc)),(9,.sl 9 (v3.map AE.enc)),(10,.sl 1 (v4.1.map cdI.enc)),(11,.j v4.2),(28,.sl 1 (x0.map (cdL 5 AA).enc)),(29,.sl 1 (x1.map cdS.enc)),(30,.sl 9 (x2.map AE.enc))] [] kr ?_
  refine AS (caps:=[]) (xs:=[.sl 1 (x0.map (cdL 5 AA).enc),.sl 1 (x1.map cdS.enc),.sl 9 (x2.map AE.enc)]) (u:=(x0,x1,x2,())) rfl rfl SA rfl (AB rfl) kr kr (AL (AW (c:=(cdL 1 (cdL 5 AA))) (v:=x0)) (AL (AW (c:=(cdL 1 cdS)) (v:=x1)) (AL (AW (c:=(cdL 9 AE)) (v:=x2)) Ao))) (.inr kr) hv5 ?_;exact Ad AC
 refine AH ?_;obtain ⟨v6,hv6,h⟩:=OB h;obtain ⟨j11,hj11,h⟩:=OB h;refine AM (s1:=⟨Fr 57 [(6,.b j11)],[]⟩) ?_ ?_
 ·refine AD (n:=57) AC 2 [(0,.sl 1 (x0.map (cdL 5 AA).enc)),(1,.sl 1 (x1.map cdS.enc)),(2,.sl 9 (x2.map AE.enc)),(7,.sl 1 (v1.map (cdL 5 AA).enc)),(8,.sl 1 (v2.map cdS.enc)),(9,.sl 9 (v3.map AE.enc)),(11,.j v4.2),(13,.j v5.2),(34,.sl 1 (v4.1.map cdI.enc)),(35,.sl 1 (v5.1.map cdI.enc))] [] kr ?_
  refine AS (caps:=[]) (xs:=[.sl 1 (v4.1.map cdI.enc),.sl 1 (v5.1.map cdI.enc)]) (u:=(v4.1,v5.1,())) rfl rfl Pr rfl (AB rfl) kr kr (AL (AW (c:=(cdL 1 cdI)) (v:=v4.1)) (AL (AW (c:=(cdL 1 cdI)) (v:=v5.1)) Ao)) (.inl kr) hv6 ?_;refine AD (n:=57) AC 1 [(0,.sl 1 (x0.map (cdL 5 AA).enc)),(1,.sl 1 (x1.map cdS.enc)),(2,.sl 9 (x2.map AE.enc)),(7,.sl 1 (v1.map (cdL 5 AA).enc)),(8,.sl 1 (v2.map cdS.enc)),(9,.sl 9 (v3.map AE.enc)),(11,.j v4.2),(13,.j v5.2),(37,.b v6)] [] kr ?_;rcases BE v6 with hc12 | hc12
  ·rw [if_pos hc12] at hj11
   rw [hc12];refine AD (n:=57) AC 5 [(0,.sl 1 (x0.map (cdL 5 AA).enc)),(1,.sl 1 (x1.map cdS.enc)),(2,.sl 9 (x2.map AE.enc)),(7,.sl 1 (v1.map (cdL 5 AA).enc)),(8,.sl 1 (v2.map cdS.enc)),(9,.sl 9 (v3.map AE.enc)),(42,.b (v4.2==v5.2))] [] kr ?_;rcases BE (v4.2==v5.2) with hc13 | hc13
   ·rw [if_pos hc13] at hj11
    rw [hc13];refine AD (n:=57) AC 2 [(1,.sl 1 (x1.map cdS.enc)),(2,.sl 9 (x2.map AE.enc)),(8,.sl 1 (v2.map cdS.enc)),(9,.sl 9 (v3.map AE.enc)),(42,.b true),(43,.sl 1 (v1.map (cdL 5 AA).enc)),(44,.sl 1 (x0.map (cdL 5 AA).enc))] [] kr ?_;obtain ⟨v7,hv7,hj11⟩:=OB hj11;refine AS (caps:=[]) (xs:=[.sl 1 (v1.map (cdL 5 AA).enc),.sl 1 (x0.map (cdL 5 AA).enc)]) (u:=(v1,x0,())) rfl rfl UP rfl kr kr kr (AL (AW (c:=(cdL 1 (cdL 5 AA))) (v:=v1)) (AL (AW (c:=(cdL 1 (cdL 5 AA))) (v:=x0)) Ao)) (.inl kr) hv7 ?_;refine AD (n:=57) AC 2 [(1,.sl 1 (x1.map cdS.enc)),(2,.sl 9 (x2.map AE.enc)),(8,.sl 1 (v2.map cdS.enc)),(9,.sl 9 (v3.map AE.enc)),(47,.b v7)] [] kr ?_;rcases BE v7 with hc14 | hc14
    ·rw [if_pos hc14] at hj11
     rw [hc14];refine AD (n:=57) AC 2 [(2,.sl 9 (x2.map AE.enc)),(9,.sl 9 (v3.map AE.enc)),(47,.b true),(48,.sl 1 (v2.map cdS.enc)),(49,.sl 1 (x1.map cdS.enc))] [] kr ?_;obtain ⟨v8,hv8,hj11⟩:=OB hj11;refine AS (caps:=[]) (xs:=[.sl 1 (v2.map cdS.enc),.sl 1 (x1.map cdS.enc)]) (u:=(v2,x1,())) rfl rfl II rfl kr kr kr (AL (AW (c:=(cdL 1 cdS)) (v:=v2)) (AL (AW (c:=(cdL 1 cdS)) (v:=x1)) Ao)) (.inl kr) hv8 ?_;refine AD (n:=57) AC 2 [(2,.sl 9 (x2.map AE.enc)),(9,.sl 9 (v3.map AE.enc)),(52,.b v8)] [] kr ?_;rcases BE v8 with hc15 | hc15
     ·rw [if_pos hc15] at hj11
      rw [hc15];refine AD (n:=57) AC 2 [(52,.b true),(53,.sl 9 (v3.map AE.enc)),(54,.sl 9 (x2.map AE.enc))] [] kr ?_;obtain ⟨v9,hv9,hj11⟩:=OB hj11;refine AS (caps:=[]) (xs:=[.sl 9 (v3.map AE.enc),.sl 9 (x2.map AE.enc)]) (u:=(v3,x2,())) rfl rfl Sj rfl kr kr kr (AL (AW (c:=(cdL 9 AE)) (v:=v3)) (AL (AW (c:=(cdL 9 AE)) (v:=x2)) Ao)) (.inl kr) hv9 ?_;refine AD (n:=57) AC 2 [(6,.b v9)] [] kr ?_;have hq:=OI hj11; subst hq;exact AI rfl AJ
     ·rw [Bm hc15] at hj11
      rw [hc15];refine AD (n:=57) AC 5 [(6,.b false)] [] kr ?_;have hq:=OI hj11; subst hq;exact AI rfl AJ
    ·rw [Bm hc14] at hj11
     rw [hc14];refine AD (n:=57) AC 10 [(6,.b false)] [] kr ?_;have hq:=OI hj11; subst hq;exact AI rfl AJ
   ·rw [Bm hc13] at hj11
    rw [hc13];refine AD (n:=57) AC 15 [(6,.b false)] [] kr ?_;have hq:=OI hj11; subst hq;exact AI rfl AJ
  ·rw [Bm hc12] at hj11
   rw [hc12];refine AD (n:=57) AC 20 [(6,.b false)] [] kr ?_;have hq:=OI hj11; subst hq;exact AI rfl AJ
 refine AR ?_;have hq:=OI h; subst hq;exact ⟨⟨Fr 57 [(6,.b j11)],[]⟩,AJ,.inr rfl,[.b j11],kr,kr⟩
def V0:List AV->Option AV:=ES M8 (fun a=>Ib a.1 a.2.1 a.2.2.1) NE
theorem RG:XOk 38 V0:=by
 refine AU Tryz.func38 (c:=Pw) ?h2 ⟨Tryz.call38⟩ M8 (fun a=>Ib a.1 a.2.1 a.2.2.1) NE (fun a=>(by show 3<=57; decide)) ?h3 ?h4
 case h2=>kernel_rfl
 case h3=>intro b; kernel_rfl
 case h4=>exact fun a b h=>TX a.1 a.2.1 a.2.2.1 b h
/- trestle/trestlelaw03.CourtTurns -/
noncomputable def Ly:Code:=BL Tryz.f8
def F0 (x0:(List (List AF))) (x1:(List (List UInt8))) (x2:(List An)):Option (Bool) :=
 (IZ x0 20).bind fun v1 =>
 (if (!v1)=true then Hz.bind fun v2 =>
 some v2 else if (decide ((x1.length:Int) > 20))=true then Hz.bind fun v3 =>
 some v3 else (Ay x1).bind fun v4 =>
 if v4=true then Hz.bind fun v5 =>
 some v5 else if (decide ((x2.length:Int)<=64))=true then (Gb x2 20).bind fun v6 =>
 if (!v6)=true then Hz.bind fun v7 =>
 some v7 else if (decide ((x2.length:Int) > 70))=true then Hz.bind fun v8 =>
 some v8 else (Ib x0 x1 x2).bind fun v9 =>
 if v9=true then Hz.bind fun v10 =>
 some v10 else some false else if (decide ((x2.length:Int) > 70))=true then Hz.bind fun v11 =>
 some v11 else (Ib x0 x1 x2).bind fun v12 =>
 if v12=true then Hz.bind fun v13 =>
 some v13 else some false).bind fun j15 =>
 some j15
def Ga:Cs ((List (List AF))×(List (List UInt8))×(List An)×Unit):=(csC (cdL 1 (cdL 5 AA)) (csC (cdL 1 cdS) (csC (cdL 9 AE) csN)))
def Ht (r:Bool):AV:=cdB.enc r
theorem Pj (x0:(List (List AF))) (x1:(List (List UInt8))) (x2:(List An)) (r:Bool) (h:F0 x0 x1 x2=some r):Sem E0 ⟨none,false⟩ Ly ⟨Fr 43 (A6 0 (Ga.enc (x0,x1,x2,()))),[]⟩ fun e s'=>(e = .normal\/e = .ret)/\∃ xs,EZ E0.P s'.fr s'.hp Tryz.f8.results.toList=some xs/\Ee xs=Ht r:=by
 unfold F0 at h;refine Ax (BY (s1:=⟨Fr 43 [(0,.sl 1 (x0.map (cdL 5 AA).enc)),(1,.sl 1 (x1.map cdS.enc)),(2,.sl 9 (x2.map AE.enc))],[]⟩) AJ ?_);refine AK AC [(0,.sl 1 (x0.map (cdL 5 AA).enc)),(1,.sl 1 (x1.map cdS.enc)),(2,.sl 9 (x2.map AE.enc))] [] ?_;refine AH ?_;obtain ⟨v1,hv1,h⟩:=OB h;obtain ⟨j15,hj15,h⟩:=OB h;refine AM (s1:=⟨Fr 43 [(6,.b j15)],[]⟩) ?_ ?_
 ·refine AD (n:=43) AC 1 [(0,.sl 1 (x0.map (cdL 5 AA).enc)),(1,.sl 1 (x1.map cdS.enc)),(2,.sl 9 (x2.map AE.enc)),(7,.sl 1 (x0.map (cdL 5 AA).enc))] [] kr ?_
  refine AS (caps:=[]) (xs:=[.sl 1 (x0.map (cdL 5 AA).enc),.j 20]) (u:=(x0,20,())) rfl rfl Uq rfl (AB rfl) kr kr (AL (AW (c:=(cdL 1 (cdL 5 AA))) (v:=x0)) (AL (AW (c:=cdI) (v:=20)) Ao)) (.inl kr) hv1 ?_;refine AD (n:=43) AC 2 [(0,.sl 1 (x0.map (cdL 5 AA).enc)),(1,.sl 1 (x1.map cdS.enc)),(2,.sl 9 (x2.map AE.enc)),(10,.b (!v1))] [] kr ?_;rcases BE (!v1) with hc16 | hc16
  ·rw [if_pos hc16] at hj15
   rw [hc16];refine AD (n:=43) AC 30 [(40,.b true)] [] kr ?_;obtain ⟨v2,hv2,hj15⟩:=OB hj15;refine AS (caps:=[]) (xs:=[]) (u:=(())) rfl rfl HD rfl kr kr kr Ao (.inl kr) hv2 ?_;refine AD (n:=43) AC 2 [(6,.b v2)] [] kr ?_;have hq:=OI hj15; subst hq;exact AI rfl AJ
  ·rw [Bm hc16] at hj15
   rw [hc16];refine AD (n:=43) AC 1 [(0,.sl 1 (x0.map (cdL 5 AA).enc)),(1,.sl 1 (x1.map cdS.enc)),(2,.sl 9 (x2.map AE.enc)),(10,.b false),(11,.sl 1 (x1.map cdS.enc))] [] kr ?_;refine AZ AC 0 rfl (DR kr rfl (C3 (a:= .sl 1 (x1.map cdS.enc)) kr (Bn (el:=9) kr))) ?_;refine AD (n:=43) AC 3 [(0,.sl 1 (x0.map (cdL 5 AA).enc)),(1,.sl 1 (x1.map cdS.enc)),(2,.sl 9 (x2.map AE.enc)),(15,.b (decide ((x1.length:Int) > 20)))] [] kr ?_;rcases BE (decide ((x1.length:Int) > 20)) with hc17 | hc17
   ·rw [if_pos hc17] at hj15
    rw [hc17];refine AD (n:=43) AC 25 [(40,.b true)] [] kr ?_;obtain ⟨v3,hv3,hj15⟩:=OB hj15;refine AS (caps:=[]) (xs:=[]) (u:=(())) rfl rfl HD rfl kr kr kr Ao (.inl kr) hv3 ?_;refine AD (n:=43) AC 2 [(6,.b v3)] [] kr ?_;have hq:=OI hj15; subst hq;exact AI rfl AJ
   ·rw [Bm hc17] at hj15
    rw [hc17];refine AD (n:=43) AC 1 [(0,.sl 1 (x0.map (cdL 5 AA).enc)),(1,.sl 1 (x1.map cdS.enc)),(2,.sl 9 (x2.map AE.enc)),(15,.b false),(16,.sl 1 (x1.map cdS.enc))] [] kr ?_;obtain ⟨v4,hv4,hj15⟩:=OB hj15;refine AS (caps:=[]) (xs:=[.sl 1 (x1.map cdS.enc),.fn 37 [] []]) (u:=(x1,(),())) rfl rfl F8 rfl kr kr kr (AL (AW (c:=(cdL 1 cdS)) (v:=x1)) (AL (Sm.fn Ao) Ao)) (.inl kr) hv4 ?_;refine AD (n:=43) AC 2 [(0,.sl 1 (x0.map (cdL 5 AA).enc)),(1,.sl 1 (x1.map cdS.enc)),(2,.sl 9 (x2.map AE.enc)),(19,.b v4)] [] kr ?_;rcases BE v4 with hc18 | hc18
    ·rw [if_pos hc18] at hj15
     rw [hc18];refine AD (n:=43) AC 21 [(40,.b true)] [] kr ?_;obtain ⟨v5,hv5,hj15⟩:=OB hj15;refine AS (caps:=[]) (xs:=[]) (u:=(())) rfl rfl HD rfl kr kr kr Ao (.inl kr) hv5 ?_;refine AD (n:=43) AC 2 [(6,.b v5)] [] kr ?_;have hq:=OI hj15; subst hq;exact AI rfl AJ
    ·rw [Bm hc18] at hj15
     rw [hc18];refine AD (n:=43) AC 1 [(0,.sl 1 (x0.map (cdL 5 AA).enc)),(1,.sl 1 (x1.map cdS.enc)),(2,.sl 9 (x2.map AE.enc)),(19,.b false),(20,.sl 9 (x2.map AE.enc))] [] kr ?_;refine AZ AC 0 rfl (DR kr rfl (C3 (a:= .sl 9 (x2.map AE.enc)) kr (Bn (el:=42) kr))) ?_;refine AD (n:=43) AC 2 [(0,.sl 1 (x0.map (cdL 5 AA).enc)),(1,.sl 1 (x1.map cdS.enc)),(2,.sl 9 (x2.map AE.enc)),(19,.b false),(23,.b (decide ((x2.length:Int)<=64)))] [] kr ?_;rcases BE (decide ((x2.length:Int)<=64)) with hc19 | hc19
     ·rw [if_pos hc19] at hj15
      rw [hc19];refine AD (n:=43) AC 1 [(0,.sl 1 (x0.map (cdL 5 AA).enc)),(1,.sl 1 (x1.map cdS.enc)),(2,.sl 9 (x2.map AE.enc)),(19,.b false),(23,.b true),(24,.sl 9 (x2.map AE.enc))] [] kr ?_;obtain ⟨v6,hv6,hj15⟩:=OB hj15;refine AS (caps:=[]) (xs:=[.sl 9 (x2.map AE.enc),.j 20]) (u:=(x2,20,())) rfl rfl R9 rfl kr kr kr (AL (AW (c:=(cdL 9 AE)) (v:=x2)) (AL (AW (c:=cdI) (v:=20)) Ao)) (.inl kr) hv6 ?_;refine AD (n:=43) AC 4 [(0,.sl 1 (x0.map (cdL 5 AA).enc)),(1,.sl 1 (x1.map cdS.enc)),(2,.sl 9 (x2.map AE.enc)),(29,.b (!v6))] [] kr ?_;rcases BE (!v6) with hc20 | hc20
      ·rw [if_pos hc20] at hj15
       rw [hc20];refine AD (n:=43) AC 11 [(40,.b true)] [] kr ?_;obtain ⟨v7,hv7,hj15⟩:=OB hj15;refine AS (caps:=[]) (xs:=[]) (u:=(())) rfl rfl HD rfl kr kr kr Ao (.inl kr) hv7 ?_;refine AD (n:=43) AC 2 [(6,.b v7)] [] kr ?_;have hq:=OI hj15; subst hq;exact AI rfl AJ
      ·rw [Bm hc20] at hj15
       rw [hc20];refine AD (n:=43) AC 1 [(0,.sl 1 (x0.map (cdL 5 AA).enc)),(1,.sl 1 (x1.map cdS.enc)),(2,.sl 9 (x2.map AE.enc)),(29,.b false),(30,.sl 9 (x2.map AE.enc))] [] kr ?_;refine AZ AC 0 rfl (DR kr rfl (C3 (a:= .sl 9 (x2.map AE.enc)) kr (Bn (el:=42) kr))) ?_;refine AD (n:=43) AC 3 [(0,.sl 1 (x0.map (cdL 5 AA).enc)),(1,.sl 1 (x1.map cdS.enc)),(2,.sl 9 (x2.map AE.enc)),(34,.b (decide ((x2.length:Int) > 70)))] [] kr ?_;rcases BE (decide ((x2.length:Int) > 70)) with hc21 | hc21
       ·rw [if_pos hc21] at hj15
        rw [hc21];refine AD (n:=43) AC 6 [(40,.b true)] [] kr ?_;obtain ⟨v8,hv8,hj15⟩:=OB hj15;refine AS (caps:=[]) (xs:=[]) (u:=(())) rfl rfl HD rfl kr kr kr Ao (.inl kr) hv8 ?_;refine AD (n:=43) AC 2 [(6,.b v8)] [] kr ?_;have hq:=OI hj15; subst hq;exact AI rfl AJ
       ·rw [Bm hc21] at hj15
        rw [hc21];refine AD (n:=43) AC 3 [(34,.b false),(35,.sl 1 (x0.map (cdL 5 AA).enc)),(36,.sl 1 (x1.map cdS.enc)),(37,.sl 9 (x2.map AE.enc))] [] kr ?_;obtain ⟨v9,hv9,hj15⟩:=OB hj15;refine AS (caps:=[]) (xs:=[.sl 1 (x0.map (cdL 5 AA).enc),.sl 1 (x1.map cdS.enc),.sl 9 (x2.map AE.enc)]) (u:=(x0,x1,x2,())) rfl rfl RG rfl kr kr kr (AL (AW (c:=(cdL 1 (cdL 5 AA))) (v:=x0)) (AL (AW (c:=(cdL 1 cdS)) (v:=x1)) (AL (AW (c:=(cdL 9 AE)) (v:=x2)) Ao))) (.inl kr) hv9 ?_;refine AD (n:=43) AC 2 [(40,.b v9)] [] kr ?_;rcases BE v9 with hc22 | hc22
        ·rw [if_pos hc22] at hj15
         rw [hc22];obtain ⟨v10,hv10,hj15⟩:=OB hj15;refine AS (caps:=[]) (xs:=[]) (u:=(())) rfl rfl HD rfl kr kr kr Ao (.inl kr) hv10 ?_;refine AD (n:=43) AC 2 [(6,.b v10)] [] kr ?_;have hq:=OI hj15; subst hq;exact AI rfl AJ
        ·rw [Bm hc22] at hj15
         rw [hc22];refine AD (n:=43) AC 3 [(6,.b false)] [] kr ?_;have hq:=OI hj15; subst hq;exact AI rfl AJ
     ·rw [Bm hc19] at hj15
      rw [hc19];refine AD (n:=43) AC 7 [(0,.sl 1 (x0.map (cdL 5 AA).enc)),(1,.sl 1 (x1.map cdS.enc)),(2,.sl 9 (x2.map AE.enc)),(29,.b false),(30,.sl 9 (x2.map AE.enc))] [] kr ?_;refine AZ AC 0 rfl (DR kr rfl (C3 (a:= .sl 9 (x2.map AE.enc)) kr (Bn (el:=42) kr))) ?_;refine AD (n:=43) AC 3 [(0,.sl 1 (x0.map (cdL 5 AA).enc)),(1,.sl 1 (x1.map cdS.enc)),(2,.sl 9 (x2.map AE.enc)),(34,.b (decide ((x2.length:Int) > 70)))] [] kr ?_;rcases BE (decide ((x2.length:Int) > 70)) with hc23 | hc23
      ·rw [if_pos hc23] at hj15
       rw [hc23];refine AD (n:=43) AC 6 [(40,.b true)] [] kr ?_;obtain ⟨v11,hv11,hj15⟩:=OB hj15;refine AS (caps:=[]) (xs:=[]) (u:=(())) rfl rfl HD rfl kr kr kr Ao (.inl kr) hv11 ?_;refine AD (n:=43) AC 2 [(6,.b v11)] [] kr ?_;have hq:=OI hj15; subst hq;exact AI rfl AJ
      ·rw [Bm hc23] at hj15
       rw [hc23];refine AD (n:=43) AC 3 [(34,.b false),(35,.sl 1 (x0.map (cdL 5 AA).enc)),(36,.sl 1 (x1.map cdS.enc)),(37,.sl 9 (x2.map AE.enc))] [] kr ?_;obtain ⟨v12,hv12,hj15⟩:=OB hj15;refine AS (caps:=[]) (xs:=[.sl 1 (x0.map (cdL 5 AA).enc),.sl 1 (x1.map cdS.enc),.sl 9 (x2.map AE.enc)]) (u:=(x0,x1,x2,())) rfl rfl RG rfl kr kr kr (AL (AW (c:=(cdL 1 (cdL 5 AA))) (v:=x0)) (AL (AW (c:=(cdL 1 cdS)) (v:=x1)) (AL (AW (c:=(cdL 9 AE)) (v:=x2)) Ao))) (.inl kr) hv12 ?_;refine AD (n:=43) AC 2 [(40,.b v12)] [] kr ?_;rcases BE v12 with hc24 | hc24
       ·rw [if_pos hc24] at hj15
        rw [hc24];obtain ⟨v13,hv13,hj15⟩:=OB hj15;refine AS (caps:=[]) (xs:=[]) (u:=(())) rfl rfl HD rfl kr kr kr Ao (.inl kr) hv13 ?_;refine AD (n:=43) AC 2 [(6,.b v13)] [] kr ?_;have hq:=OI hj15; subst hq;exact AI rfl AJ
       ·rw [Bm hc24] at hj15
        rw [hc24];refine AD (n:=43) AC 3 [(6,.b false)] [] kr ?_;have hq:=OI hj15; subst hq;exact AI rfl AJ
 refine AR ?_;have hq:=OI h; subst hq;exact ⟨⟨Fr 43 [(6,.b j15)],[]⟩,AJ,.inr rfl,[.b j15],kr,kr⟩
def Q7:List AV->Option AV:=ES Ga (fun a=>F0 a.1 a.2.1 a.2.2.1) Ht
theorem RE:XOk 8 Q7:=by
 refine AU Tryz.func8 (c:=Ly) ?h2 ⟨Tryz.call8⟩ Ga (fun a=>F0 a.1 a.2.1 a.2.2.1) Ht (fun a=>(by show 3<=43; decide)) ?h3 ?h4
 case h2=>kernel_rfl
 case h3=>intro b; kernel_rfl
 case h4=>exact fun a b h=>Pj a.1 a.2.1 a.2.2.1 b h
theorem Xq {n:Int}(h1 : -9223372036854775808<=n) (h2:n<=9223372036854775807):wr .i64 n=n:=by
 show (if _ then n else _)=n
 rw [if_pos ⟨h1,h2⟩]
theorem EM {α:Type}(pre:List α) (v:α) (r:List α):idx (pre++v::r) (pre.length:Int)=some v:=by
 unfold idx
 rw [if_pos (by omega)]
 simp
theorem Ms {α:Type}{xs:List α}{i:Nat}(h:i < xs.length):idx xs (i:Int)=some xs[i]:=by
 unfold idx
 rw [if_pos (by omega)]
 simp [h]
theorem Gt {α:Type}(pre:List α) (v:α) (r:List α) (h:(pre++v::r).length<=1000000000):wr .i64 ((pre.length:Int) + 1)=((pre++[v]).length:Int):=by
 simp at h
 rw [Xq (by omega) (by omega)]; simp
theorem Iu {α:Type}(pre:List α) (v:α) (r:List α):decide ((pre.length:Int) < ((pre++v::r).length:Int))=true:=by
 simp; omega
theorem ACk {α:Type}(pre:List α):decide ((pre.length:Int) < ((pre++[]).length:Int))=false:=by simp
theorem Eh {b n:Nat}(hb:b<=1000) (h:n<=1000000000):EK b n=true:=by
 have h1:n * b<=1000000000 * 1000:=Nat.mul_le_mul h hb
 unfold EK
 rw [Bool.and_eq_true]
 exact ⟨Nat.ble_eq_true_of_le (by omega),Nat.ble_eq_true_of_le (by omega)⟩
/-- A loop over a list: v, its index, the rest. -/
def goU {α ρ:Type}(B:α->Nat->Option ρ->Option ρ) (D:Option ρ):List α->Nat->Option ρ
 | [],_=>D
 | v::r,i=>B v i (goU B D r (i + 1))
theorem AEA {α ρ:Type}(xs:List α) (L:Nat->Int->Option ρ) (B:α->Nat->Option ρ->Option ρ) (D:Option ρ)
  (hs:∀ f (pre:List α) v r,xs=pre++v::r->L (f + 1) (pre.length:Int)=B v pre.length (L f (((pre++[v]).length:Nat):Int))) (hd:∀ f,L (f + 1) (xs.length:Int)=D) :
  ∀ (r pre:List α) (f:Nat),xs=pre++r->r.length < f->L f (pre.length:Int)=goU B D r pre.length
 | [],pre,f + 1,hx,_=>by
  rw [show pre.length=xs.length by rw [hx]; simp]
  exact hd f
 | v::r,pre,f + 1,hx,hf=>by
  rw [hs f pre v r hx]
  have:=AEA xs L B D hs hd r (pre++[v]) f (by rw [hx]; simp) (by simp at hf; omega)
  rw [this]
  show B v pre.length _=B v pre.length _
  congr 1
  simp
theorem MP {α ρ:Type}(xs:List α) (L:Nat->Int->Option ρ) (B:α->Nat->Option ρ->Option ρ) (D:Option ρ) (f:Nat) (hf:xs.length < f)
  (hs:∀ f (pre:List α) v r,xs=pre++v::r->L (f + 1) (pre.length:Int)=B v pre.length (L f (((pre++[v]).length:Nat):Int))) (hd:∀ f,L (f + 1) (xs.length:Int)=D):L f 0=goU B D xs 0 :=
 AEA xs L B D hs hd xs [] f rfl hf
/-- .. as it is printed. -/
theorem AFR {α ρ:Type}(xs:List α) (L:Nat->Int->Option ρ) (B:α->Nat->Option ρ->Option ρ) (D:Option ρ) (f:Nat) (hf:xs.length < f) (hx:xs.length<=1000000)
  (h:∀ f c,L (f + 1) c=if decide (c < (xs.length:Int))=true then (idx xs c).bind fun v=>B v c.toNat (L f (wr .i64 (c + 1))) else D):L f 0=goU B D xs 0 :=
 MP xs L B D f hf (fun f pre v r e=>by
  subst e
  rw [h,if_pos (Iu pre v r),EM,OS,Gt pre v r (by omega),Int.toNat_natCast]) (fun f=>by rw [h,if_neg (by simp)])
/-- The first that meets a test. -/
theorem ZZ {α:Type}(P:α->Option Bool) (p:α->Bool):∀ (xs:List α) (i:Nat),(∀ x ∈ xs,P x=some (p x))->∃ r:Unit ⊕ Int,goU (fun v i k=>(P v).bind fun b=>if b=true then some (.inr (i:Int)) else k) (some (.inl ())) xs i=some r/\(match r with | .inl _=>xs.any p=false | .inr n=>xs.any p=true/\0<=n)
 | [],i,_=>⟨.inl (),rfl,rfl⟩
 | x::xs,i,h=>by
  unfold goU
  rw [h x (by simp),OS]
  cases hp:p x with
  | true=>exact ⟨.inr i,by simp,by simp [hp]⟩
  | false =>
   obtain ⟨r,h1,h2⟩:=ZZ P p xs (i + 1) fun y hy=>h y (List.mem_cons_of_mem _ hy)
   refine ⟨r,by simpa using h1,?_⟩
   cases r with
   | inl u=>simpa [hp] using h2
   | inr n=>simpa [hp] using h2
/-- slices.IndexFunc and slices.ContainsFunc. -/
theorem Pu {α:Type}(xs:List α) (hx:xs.length<=99999) (P:α->Option Bool) (p:α->Bool) (hP:∀ x ∈ xs,P x=some (p x)) (L:Nat->Int->Option (Unit ⊕ Int))
  (h:∀ f c,L (f + 1) c=if decide (c < (xs.length:Int))=true then (idx xs c).bind fun v=>(P v).bind fun b=>if b=true then some (.inr c) else L f (wr .i64 (c + 1)) else some (.inl ())) :
  ∃ n,((L 100000 0).bind fun r=>match r with | .inl _=>some (-1) | .inr w=>some w)=some n/\decide (n≥0)=xs.any p:=by
 have e:=MP xs L (fun v i k=>(P v).bind fun b=>if b=true then some (.inr (i:Int)) else k) (some (.inl ())) 100000 (by omega) (fun f pre v r e=>by
  subst e
  rw [h,if_pos (Iu pre v r),EM,OS,Gt pre v r (by omega)]) (fun f=>by rw [h,if_neg (by simp)])
 obtain ⟨r,h1,h2⟩:=ZZ P p xs 0 hP
 rw [e,h1]
 cases r with
 | inl u=>exact ⟨-1,rfl,by rw [h2]; rfl⟩
 | inr n=>exact ⟨n,rfl,by rw [h2.1]; simpa using h2.2⟩
/-- Two lists side by side. -/
def go2 {α β ρ:Type}(B:α->β->Option ρ->Option ρ) (D:Option ρ):List α->List β->Option ρ
 | v::r,u::q=>B v u (go2 B D r q)
 | _,_=>D
theorem AD9 {α β ρ:Type}(L:Nat->Int->Option ρ) (B:α->β->Option ρ->Option ρ) (D:Option ρ) (xs:List α) (ys:List β) (hl:xs.length=ys.length) (hx:xs.length<=1000000)
  (h:∀ f c,L (f + 1) c=if decide (c < (xs.length:Int))=true then (idx xs c).bind fun v=>(idx ys c).bind fun u=>B v u (L f (wr .i64 (c + 1))) else D) :
  ∀ (r:List α) (q:List β) (pre:List α) (pre':List β) (f:Nat),xs=pre++r->ys=pre'++q->pre.length=pre'.length->r.length < f->L f (pre.length:Int)=go2 B D r q
 | [],q,pre,pre',f + 1,e1,e2,e3,_=>by
  have:q=[]:=by
   have:xs.length=pre.length:=by rw [e1]; simp
   have h2:ys.length=pre'.length + q.length:=by rw [e2]; simp
   exact List.eq_nil_of_length_eq_zero (by omega)
  subst this
  subst e1
  rw [h,ACk]
  rfl
 | v::r,[],pre,pre',f + 1,e1,e2,e3,_=>by
  exfalso
  have h1:xs.length=pre.length + (r.length + 1):=by rw [e1]; simp
  have h2:ys.length=pre'.length:=by rw [e2]; simp
  omega
 | v::r,u::q,pre,pre',f + 1,e1,e2,e3,hf=>by
  have ih:=AD9 L B D xs ys hl hx h r q (pre++[v]) (pre'++[u]) f (by rw [e1]; simp) (by rw [e2]; simp) (by simp [e3]) (by simp at hf; omega)
  have k1:idx xs (pre.length:Int)=some v:=by rw [e1,EM]
  have k2:idx ys (pre.length:Int)=some u:=by rw [e2,e3,EM]
  have k3:decide ((pre.length:Int) < (xs.length:Int))=true:=by rw [e1]; exact Iu pre v r
  have k4:wr .i64 ((pre.length:Int) + 1)=((pre++[v]).length:Int):=Gt pre v r (by rw [<-e1]; omega)
  rw [h,if_pos k3,k1,OS,k2,OS,k4,ih]
  rfl
theorem ZY {α β:Type}(P:α->β->Option Bool) (p:α->β->Bool):∀ (xs:List α) (ys:List β),(∀ x ∈ xs,∀ y ∈ ys,P x y=some (p x y))->xs.length=ys.length ->
  go2 (fun v u k=>(P v u).bind fun b=>if (!b)=true then some (Sum.inr false) else k) (some (Sum.inl ())) xs ys=some (if (xs.zip ys).all (fun x=>p x.1 x.2) then Sum.inl () else Sum.inr false)
 | [],[],_,_=>rfl
 | x::xs,y::ys,h,hl=>by
  unfold go2
  rw [h x (by simp) y (by simp),OS,ZY P p xs ys (fun a ha b hb=>h a (List.mem_cons_of_mem _ ha) b (List.mem_cons_of_mem _ hb)) (by simpa using hl)]
  rw [List.zip_cons_cons,List.all_cons]
  show (if (!p x y)=true then _ else _)=some (if (p x y&&_)=true then _ else _)
  cases p x y <;> rfl
 | [],_::_,_,hl=>by simp at hl
 | _::_,[],_,hl=>by simp at hl
/-- slices.EqualFunc. -/
theorem Y5 {α β:Type}(xs:List α) (ys:List β) (hx:xs.length<=99999) (P:α->β->Option Bool) (p:α->β->Bool) (hP:∀ x ∈ xs,∀ y ∈ ys,P x y=some (p x y)) (L:Nat->Int->Option (Unit ⊕ Bool))
  (h:∀ f c,L (f + 1) c=if decide (c < (xs.length:Int))=true then (idx xs c).bind fun v=>(idx ys c).bind fun u=>(P v u).bind fun b=>if (!b)=true then some (.inr false) else L f (wr .i64 (c + 1)) else some (.inl ())) :
  (if ((xs.length:Int)!=(ys.length:Int))=true then some false else (L 100000 0).bind fun r=>match r with | .inl _=>some true | .inr w=>some w)=some (decide (xs.length=ys.length)&&(xs.zip ys).all fun x=>p x.1 x.2):=by
 by_cases hl:xs.length=ys.length
 ·rw [if_neg (by simp [hl])]
  have e:=AD9 L (fun v u k=>(P v u).bind fun b=>if (!b)=true then some (Sum.inr false) else k) (some (Sum.inl ())) xs ys hl (by omega) h xs ys [] [] 100000 rfl rfl rfl (by omega)
  have e0:L 100000 (([]:List α).length:Int)=L 100000 0:=rfl
  rw [<-e0,e,ZY P p xs ys hP hl]
  cases hq:(xs.zip ys).all (fun x=>p x.1 x.2) <;> simp [hl]
 ·rw [if_pos (by simp; omega)]
  simp [hl]
theorem SB {α:Type} [DecidableEq α] {p:α->α->Bool}(hp:∀ a b,p a b=decide (a=b)):∀ (xs ys:List α),(decide (xs.length=ys.length)&&(xs.zip ys).all fun x=>p x.1 x.2)=decide (xs=ys)
 | [],[]=>rfl
 | x::xs,y::ys=>by
  have ih:=SB hp xs ys
  simp only [List.length_cons,Nat.add_right_cancel_iff,List.zip_cons_cons,List.all_cons,List.cons.injEq,hp]
  simp only [hp] at ih
  by_cases h1:x=y
  ·subst h1; simpa using ih
  ·simp [h1]
 | [],_::_=>by simp
 | _::_,[]=>by simp
/-- slices.Equal. -/
theorem ADl {α:Type} [DecidableEq α] [BEq α] [LawfulBEq α] (xs ys:List α) (hx:xs.length<=99999) (L:Nat->Int->Option (Unit ⊕ Bool))
  (h:∀ f c,L (f + 1) c=if decide (c < (xs.length:Int))=true then (idx xs c).bind fun v=>(idx ys c).bind fun u=>if (v != u)=true then some (.inr false) else L f (wr .i64 (c + 1)) else some (.inl ())) :
  (if ((xs.length:Int)!=(ys.length:Int))=true then some false else (L 100000 0).bind fun r=>match r with | .inl _=>some true | .inr w=>some w)=some (decide (xs=ys)):=by
 rw [Y5 xs ys hx (fun v u=>some (v==u)) (fun v u=>v==u) (fun _ _ _ _=>rfl) L (fun f c=>by rw [h]; rfl),SB (fun a b=>by by_cases h:a=b <;> simp [h])]
def ZU (x:AF):Prop:=x.2.1.length<=40/\x.2.2.2.1.length<=20/\∀ s ∈ x.2.2.2.1,s.length<=40
def few (c:List AF):Prop:=c.length<=40/\∀ x ∈ c,ZU x
theorem ZV (l:List (List UInt8)) (h:l.length<=99999):A3 l=some (l.any fun s=>decide ((s.length:Int) > 40)):=by
 unfold A3 Bb
 obtain ⟨n,h1,h2⟩:=Pu l h Ip (fun s=>decide ((s.length:Int) > 40)) (fun x _=>rfl) (Bj l) (fun f c=>rfl)
 rw [<-h2]
 exact (congrArg (fun o=>o.bind fun v1=>some (decide (v1≥0))) h1)
def ACH (x:AF):Bool:=decide ((x.2.1.length:Int) > 40)||decide ((x.2.2.2.1.length:Int) > 20)||x.2.2.2.1.any fun s=>decide ((s.length:Int) > 40)
theorem AFE (x:AF):Ia x=some (ACH x):=by
 unfold Ia ACH
 by_cases h1:(x.2.1.length:Int) > 40
 ·simp [h1]
 ·by_cases h2:(x.2.2.2.1.length:Int) > 20
  ·simp [h2]
  ·rw [ZV _ (by omega)]
   simp [h1,h2]
theorem X4 (x:AF):ACH x=false↔ZU x:=by
 unfold ACH ZU
 simp only [Bool.or_eq_false_iff,decide_eq_false_iff_not,List.any_eq_false,decide_eq_true_eq]
 constructor
 ·rintro ⟨⟨h1,h2⟩,h3⟩
  exact ⟨by omega,by omega,fun s hs=>by have:=h3 s hs; omega⟩
 ·rintro ⟨h1,h2,h3⟩
  exact ⟨⟨by omega,by omega⟩,fun s hs=>by have:=h3 s hs; omega⟩
theorem ADn (c:List AF):∃ b,MM c=some b/\(b=true↔few c):=by
 unfold MM
 by_cases h:c.length<=40
 ·rw [if_pos (by simp; omega)]
  have e:As c=some (c.any ACH):=by
   unfold As BG
   obtain ⟨n,h1,h2⟩:=Pu c (by omega) Ia ACH (fun x _=>AFE x) (BS c) (fun f c=>rfl)
   rw [<-h2]
   exact (congrArg (fun o=>o.bind fun v1=>some (decide (v1≥0))) h1)
  rw [e]
  refine ⟨!c.any ACH,rfl,?_⟩
  simp only [Bool.not_eq_true',List.any_eq_false,few,h,true_and]
  exact ⟨fun q x hx=>(X4 x).1 (by simpa using q x hx),fun q x hx=>by simp [(X4 x).2 (q x hx)]⟩
 ·rw [if_neg (by simp; omega)]
  exact ⟨false,rfl,by simp [few,h]⟩
/-- Copies. -/
theorem ZL (c:List AF) (h:few c):∀ (r pre:List AF) (f:Nat),c=pre++r->r.length < f->GD c f pre (pre.length:Int)=some c
 | [],pre,f + 1,e,_=>by
  unfold GD
  rw [if_neg (by rw [e]; simp),e,List.append_nil]
 | v::r,pre,f + 1,e,hf=>by
  have hv:ZU v:=h.2 v (by rw [e]; simp)
  have hl:=h.1
  have hl2:c.length=pre.length + r.length + 1:=by rw [e]; simp; omega
  simp only [List.length_cons] at hf
  obtain ⟨h1,h2,h3⟩:=hv
  unfold GD
  have hi:idx c (pre.length:Int)=some v:=by rw [e,EM]
  rw [if_pos (by rw [e]; exact Iu pre v r),hi,OS,if_pos (Eh (by omega) (by omega)),if_pos (Eh (by omega) (by omega)),if_pos (by unfold KA; simp; omega),if_pos (Eh (by omega) (by omega))]
  have hv2:(v.1,v.2.1,v.2.2.1,((v.2.2.2.1++[[115,112,97,114,101]]).take ((v.2.2.2.1.length:Int).toNat)),v.2.2.2.2)=v:=by
   rw [Int.toNat_natCast,List.take_left]
  rw [hv2,show wr .i64 ((pre.length:Int) + 1)=((pre++[v]).length:Int) from Gt pre v r (by rw [<-e]; omega)]
  exact ZL c h r (pre++[v]) f (by rw [e]; simp) (by omega)
theorem AB8 (c:List AF) (h:few c):KJ c=some c:=by
 unfold KJ
 have:=ZL c h c [] 100000 rfl (by have:=h.1; omega)
 have e0:GD c 100000 [] (([]:List AF).length:Int)=GD c 100000 [] 0:=rfl
 rw [<-e0,this]; rfl
/-- Comparisons. -/
theorem ZP (xs ys:List (List UInt8)) (h:xs.length<=99999):Cb xs ys=some (decide (xs=ys)):=by
 unfold Cb
 exact ADl xs ys h (Dp xs ys) (fun f c=>rfl)
theorem AEO (a b:AF) (h:a.2.2.2.1.length<=99999):Es a b=some (decide (a=b)):=by
 unfold Es
 rw [ZP _ _ h]
 obtain ⟨a1,a2,a3,a4,a5⟩:=a
 obtain ⟨b1,b2,b3,b4,b5⟩:=b
 by_cases h1:a1=b1
 ·by_cases h2:a2=b2
  ·by_cases h3:a3=b3
   ·by_cases h5:a5=b5
    ·simp [h1,h2,h3,h5]
    ·simp [h5]
   ·simp [h3]
  ·simp [h2]
 ·simp [h1]
theorem ACz (a b:List AF) (h:few a):KK a b=some (decide (a=b)):=by
 unfold KK Af
 rw [<-SB (p:=fun x y=>decide (x=y)) (fun _ _=>rfl) a b]
 have:=Y5 a b (by have:=h.1; omega) Es (fun x y=>decide (x=y)) (fun x hx y _=>AEO x y (by have:=(h.2 x hx).2.1; omega)) (Ak a b) (fun f c=>rfl)
 exact (congrArg (fun o=>o.bind fun v1=>some v1) this)
/-- Names. -/
def AAI (c:UInt8):Bool:=decide ((c.toNat:Int) < 97)||decide ((c.toNat:Int) > 122)
def Hf (s:List UInt8):Bool:=decide (1<=s.length)&&decide (s.length<=12)&&!s.any AAI
theorem XO:∀ (s:List UInt8) (i:Nat),goU (fun v _ (k:Option (Unit ⊕ Bool))=>if AAI v=true then some (.inr false) else k) (some (.inl ())) s i=some (if s.any AAI=true then .inr false else .inl ())
 | [],_=>rfl
 | c::s,i=>by
  unfold goU
  rw [XO s (i + 1),List.any_cons]
  cases AAI c <;> rfl
theorem AED (s:List UInt8) (h:s.length<=99999):G3 s 100000 0=some (if s.any AAI=true then .inr false else .inl ()):=by
 rw [<-XO s 0]
 refine MP s (G3 s) _ _ 100000 (by omega) (fun f pre v r e=>?_) (fun f=>?_)
 ·conv=>lhs; unfold G3
  rw [e,if_pos (Iu pre v r),EM,OS,OS,Gt pre v r (by rw [<-e]; omega)]
  unfold AAI
  by_cases h:(v.toNat:Int) < 97 <;> simp [h]
 ·conv=>lhs; unfold G3
  rw [if_neg (by simp)]
theorem ACX (s:List UInt8) (h:s.length<=99999):IY s 100000 0=some (if s.any AAI=true then .inr false else .inl ()):=by
 rw [<-XO s 0]
 refine MP s (IY s) _ _ 100000 (by omega) (fun f pre v r e=>?_) (fun f=>?_)
 ·conv=>lhs; unfold IY
  rw [e,if_pos (Iu pre v r),EM,OS,OS,Gt pre v r (by rw [<-e]; omega)]
  unfold AAI
  by_cases h:(v.toNat:Int) < 97 <;> simp [h]
 ·conv=>lhs; unfold IY
  rw [if_neg (by simp)]
theorem XY (s:List UInt8) (h:s.length<=99999):Il s=some (Hf s):=by
 unfold Il Hf
 rw [AED s h,OS]
 cases hb:s.any AAI
 ·by_cases h1:s.length < 1
  ·have:s.length=0:=by omega
   simp [this]
  ·simp [show (s.length:Int)≥1 by omega,show 1<=s.length by omega]; omega
 ·simp
theorem Va (s:List UInt8) (h:s.length<=99999):Lh s=some (Hf s):=by
 unfold Lh Hf
 by_cases h1:s.length < 1
 ·have:s.length=0:=by omega
  simp [this]
 ·by_cases h2:s.length > 12
  ·simp [show ¬ ((s.length:Int) < 1) by omega,show ((s.length:Int) > 12) by omega,show ¬ (s.length<=12) by omega]
  ·rw [ACX s h]
   cases hb:s.any AAI
   ·simp [show ¬ ((s.length:Int) < 1) by omega,show ¬ ((s.length:Int) > 12) by omega,show (s.length<=12) by omega,show 1<=s.length by omega]
   ·simp [show ¬ ((s.length:Int) < 1) by omega,show ¬ ((s.length:Int) > 12) by omega]
theorem ACj (l:List (List UInt8)) (h:l.length<=99999) (hs:∀ s ∈ l,s.length<=99999):Av l=some (l.any fun s=>!Hf s):=by
 unfold Av Ba
 obtain ⟨n,h1,h2⟩:=Pu l h Ho (fun s=>!Hf s) (fun x hx=>by unfold Ho; rw [XY x (hs x hx)]; rfl) (Bi l) (fun f c=>rfl)
 rw [<-h2]
 exact (congrArg (fun o=>o.bind fun v1=>some (decide (v1≥0))) h1)
def JM (l:List (List UInt8)) (s:List UInt8):Bool:=l.any fun v=>s==v
theorem I5 (l:List (List UInt8)) (s:List UInt8) (h:l.length<=99999):BC l s=some (JM l s):=by
 unfold BC Cc
 obtain ⟨n,h1,h2⟩:=Pu l h (fun v=>some (s==v)) (fun v=>s==v) (fun _ _=>rfl) (Bq l s) (fun f c=>rfl)
 unfold JM
 rw [<-h2]
 exact (congrArg (fun o=>o.bind fun v1=>some (decide (v1≥0))) h1)
theorem Za (s:List UInt8):∀ (l:List (List UInt8)) (i:Nat),goU (fun v _ (k:Option (Unit ⊕ Bool))=>if (v==s)=true then some (.inr true) else k) (some (.inl ())) l i=some (if JM l s=true then .inr true else .inl ())
 | [],_=>rfl
 | c::l,i=>by
  unfold goU
  rw [Za s l (i + 1)]
  have:JM (c::l) s=((c==s)||JM l s):=by
   unfold JM
   rw [List.any_cons,Bool.beq_comm]
  rw [this]
  cases (c==s) <;> rfl
theorem U1 (l:List (List UInt8)) (s:List UInt8) (h:l.length<=99999):H7 l s=some (JM l s):=by
 unfold H7
 have e:=AFR l (KX l s) (fun v _ (k:Option (Unit ⊕ Bool))=>if (v==s)=true then some (.inr true) else k) (some (.inl ())) 100000 (by omega) (by omega) (fun f c=>rfl)
 rw [e,Za]
 cases JM l s <;> rfl
/-- What is asked of the fields, by a row: names, from, to, last. -/
def fin (L:Nat) (n:Int) (la:Bool) (w:Int×Int×Int×Bool):Option Bool :=
 (if (decide ((L:Int)<=w.1))=true then if (w.1==0)=true then if (decide (n≥w.2.1))=true then if (decide (n<=w.2.2.1))=true then if w.2.2.2=true then some true else some (!la) else some false else some false else if (decide ((L:Int) > 0))=true then if (decide (n≥w.2.1))=true then if (decide (n<=w.2.2.1))=true then if w.2.2.2=true then some true else some (!la) else some false else some false else some false else some false).bind fun j58=>some j58
theorem Py (L:Nat) (n:Int) (la:Bool) (a lo hi:Int) (last:Bool):fin L n la (a,lo,hi,last)=some ((decide ((L:Int)<=a)&&(a==0||decide ((L:Int) > 0)))&&(decide (n≥lo)&&(decide (n<=hi)&&(last||!la)))):=by
 unfold fin
 dsimp only
 generalize decide ((L:Int)<=a)=b1
 generalize (a==0)=b2
 generalize decide ((L:Int) > 0)=b3
 generalize decide (n≥lo)=b4
 generalize decide (n<=hi)=b5
 cases b1 <;> cases b2 <;> cases b3 <;> cases b4 <;> cases b5 <;> cases last <;> cases la <;> rfl
theorem WV (x:AF):∃ b,DH x=some b/\BX x=some b:=by
 obtain ⟨k,am,la,nm,n⟩:=x
 by_cases h1:k=1
 ·subst h1
  have hr:BX (1,am,la,nm,n)=some ((decide (1<=(nm.length:Int))&&decide ((nm.length:Int)<=16))&&((n==0)&&(!la&&(am==[])))):=by
   unfold BX
   unfold Bp
   dsimp only
   generalize decide (1<=(nm.length:Int))=b0
   generalize decide ((nm.length:Int)<=16)=b1
   generalize (n==0)=b2
   generalize (am==[])=b3
   cases b0 <;> cases b1 <;> cases b2 <;> cases la <;> cases b3 <;> rfl
  refine ⟨_,?_,hr⟩
  cases am with
  | cons a am =>
   have hc:DH (1,a::am,la,nm,n)=some false:=rfl
   rw [hc]
   simp
  | nil =>
   have hc:DH (1,[],la,nm,n)=fin nm.length n la (16,0,0,false):=rfl
   rw [hc,Py]
   congr 1
   rw [Bool.eq_iff_iff]
   generalize nm.length=L
   cases la <;> simp <;> omega
 by_cases h2:k=2
 ·subst h2
  have hr:BX (2,am,la,nm,n)=some (((nm.length:Int)==0)&&((n==0)&&!la)):=by
   unfold BX
   unfold Bp
   dsimp only
   generalize ((nm.length:Int)==0)=b0
   generalize (n==0)=b1
   cases b0 <;> cases b1 <;> cases la <;> rfl
  refine ⟨_,?_,hr⟩
  have hc:DH (2,am,la,nm,n)=fin nm.length n la (0,0,0,false):=rfl
  rw [hc,Py]
  congr 1
  rw [Bool.eq_iff_iff]
  generalize nm.length=L
  cases la <;> simp <;> omega
 by_cases h3:k=3
 ·subst h3
  have hr:BX (3,am,la,nm,n)=some (((nm.length:Int)==0)&&((n==0)&&!la)):=by
   unfold BX
   unfold Bp
   dsimp only
   generalize ((nm.length:Int)==0)=b0
   generalize (n==0)=b1
   cases b0 <;> cases b1 <;> cases la <;> rfl
  refine ⟨_,?_,hr⟩
  have hc:DH (3,am,la,nm,n)=fin nm.length n la (0,0,0,false):=rfl
  rw [hc,Py]
  congr 1
  rw [Bool.eq_iff_iff]
  generalize nm.length=L
  cases la <;> simp <;> omega
 by_cases h8:k=8
 ·subst h8
  have hr:BX (8,am,la,nm,n)=some (((nm.length:Int)==0)&&((n==0)&&!la)):=by
   unfold BX
   unfold Bp
   dsimp only
   generalize ((nm.length:Int)==0)=b0
   generalize (n==0)=b1
   cases b0 <;> cases b1 <;> cases la <;> rfl
  refine ⟨_,?_,hr⟩
  have hc:DH (8,am,la,nm,n)=fin nm.length n la (0,0,0,false):=rfl
  rw [hc,Py]
  congr 1
  rw [Bool.eq_iff_iff]
  generalize nm.length=L
  cases la <;> simp <;> omega
 by_cases h9:k=9
 ·subst h9
  have hr:BX (9,am,la,nm,n)=some (((nm.length:Int)==0)&&((n==0)&&!la)):=by
   unfold BX
   unfold Bp
   dsimp only
   generalize ((nm.length:Int)==0)=b0
   generalize (n==0)=b1
   cases b0 <;> cases b1 <;> cases la <;> rfl
  refine ⟨_,?_,hr⟩
  have hc:DH (9,am,la,nm,n)=fin nm.length n la (0,0,0,false):=rfl
  rw [hc,Py]
  congr 1
  rw [Bool.eq_iff_iff]
  generalize nm.length=L
  cases la <;> simp <;> omega
 by_cases h4:k=4
 ·subst h4
  have hr:BX (4,am,la,nm,n)=some (((nm.length:Int)==0)&&(decide (1<=n)&&decide (n<=2))):=by
   unfold BX
   unfold Bp
   dsimp only
   generalize ((nm.length:Int)==0)=b0
   generalize decide (1<=n)=b1
   generalize decide (n<=2)=b2
   cases b0 <;> cases b1 <;> cases b2 <;> cases la <;> rfl
  refine ⟨_,?_,hr⟩
  have hc:DH (4,am,la,nm,n)=fin nm.length n la (0,1,2,true):=rfl
  rw [hc,Py]
  congr 1
  rw [Bool.eq_iff_iff]
  generalize nm.length=L
  cases la <;> simp <;> omega
 by_cases h5:k=5
 ·subst h5
  have hr:BX (5,am,la,nm,n)=some (((nm.length:Int)==0)&&(n==0)):=by
   unfold BX
   unfold Bp
   dsimp only
   generalize ((nm.length:Int)==0)=b0
   generalize (n==0)=b1
   cases b0 <;> cases b1 <;> cases la <;> rfl
  refine ⟨_,?_,hr⟩
  have hc:DH (5,am,la,nm,n)=fin nm.length n la (0,0,0,true):=rfl
  rw [hc,Py]
  congr 1
  rw [Bool.eq_iff_iff]
  generalize nm.length=L
  cases la <;> simp <;> omega
 by_cases h6:k=6
 ·subst h6
  have hr:BX (6,am,la,nm,n)=some ((decide (1<=(nm.length:Int))&&decide ((nm.length:Int)<=16))&&(n==0)):=by
   unfold BX
   unfold Bp
   dsimp only
   generalize decide (1<=(nm.length:Int))=b0
   generalize decide ((nm.length:Int)<=16)=b1
   generalize (n==0)=b2
   cases b0 <;> cases b1 <;> cases b2 <;> cases la <;> rfl
  refine ⟨_,?_,hr⟩
  have hc:DH (6,am,la,nm,n)=fin nm.length n la (16,0,0,true):=rfl
  rw [hc,Py]
  congr 1
  rw [Bool.eq_iff_iff]
  generalize nm.length=L
  cases la <;> simp <;> omega
 by_cases h7:k=7
 ·subst h7
  have hr:BX (7,am,la,nm,n)=some ((decide (1<=(nm.length:Int))&&decide ((nm.length:Int)<=16))&&(n==0)):=by
   unfold BX
   unfold Bp
   dsimp only
   generalize decide (1<=(nm.length:Int))=b0
   generalize decide ((nm.length:Int)<=16)=b1
   generalize (n==0)=b2
   cases b0 <;> cases b1 <;> cases b2 <;> cases la <;> rfl
  refine ⟨_,?_,hr⟩
  have hc:DH (7,am,la,nm,n)=fin nm.length n la (16,0,0,true):=rfl
  rw [hc,Py]
  congr 1
  rw [Bool.eq_iff_iff]
  generalize nm.length=L
  cases la <;> simp <;> omega
 by_cases h10:k=10
 ·subst h10
  have hr:BX (10,am,la,nm,n)=some (((nm.length:Int)==0)&&((decide (0<=n)&&decide (n<=63))&&!la)):=by
   unfold BX
   unfold Bp
   dsimp only
   generalize ((nm.length:Int)==0)=b0
   generalize decide (0<=n)=b1
   generalize decide (n<=63)=b2
   cases b0 <;> cases b1 <;> cases b2 <;> cases la <;> rfl
  refine ⟨_,?_,hr⟩
  have hc:DH (10,am,la,nm,n)=fin nm.length n la (0,0,63,false):=rfl
  rw [hc,Py]
  congr 1
  rw [Bool.eq_iff_iff]
  generalize nm.length=L
  cases la <;> simp <;> omega
 have e:∀ m:Int,(m=1\/m=2\/m=3\/m=4\/m=5\/m=6\/m=7\/m=8\/m=9\/m=10)->(k==m)=false:=fun m hm=>by
  rw [beq_eq_false_iff_ne]
  rintro rfl
  omega
 refine ⟨false,?_,?_⟩
 ·simp [DH,JP,JQ,JR,JS,JT,JU,JV,JW,JX,e]
 ·simp [BX,Id,Ie,If,Ig,e]
end Go.Proofs.YtlalcoehgkmhlaaGreatDoor
