/- Lemmas for the proof. -/
import Derived.Test.YtlalcoehgkmhlaaGreatDoorCourtTurnsM1
import Derived.Test.YtlalcoehgkmhlaaGreatDoorCourtTurnsM2
import Derived.Test.YtlalcoehgkmhlaaGreatDoorCourtTurnsM3
import Derived.Test.YtlalcoehgkmhlaaGreatDoorCourtTurnsM4
set_option maxHeartbeats 4000000
set_option maxRecDepth 100000
namespace Go.Proofs.YtlalcoehgkmhlaaGreatDoor
open Go.RowKit
def isT (r:Option (AV×Hp)):Bool:=match r with
 | some (.v (.bool true),_)=>true
 | _=>false
theorem ACU {r:Option (AV×Hp)}(h:isT r=true):∃ h',r=some (.v (.bool true),h'):=by
 unfold isT at h
 split at h
 ·exact ⟨_,rfl⟩
 ·cases h
set_option maxRecDepth 1000000 in
theorem ADZ:isT (X0 E13 3000 18 [] [])=true:=by kernel_rfl
theorem AAU:∃ h,X0 E13 3000 18 [] []=some (.v (.bool true),h):=ACU ADZ
theorem ZC (w:World):Ret Tryz.prog 18 #[] w fun v w'=>v = .bool true/\w.grownBy w' none:=by
 obtain ⟨h,e⟩:=AAU
 exact AA8 (E:=E13) (Z:=fun _=>False) (us:=[]) ADL e (fun c hc=>hc.elim) (fun g x h=>by cases h) .nil
theorem AC5 {w:World}{Z:Nat->Prop}:VR w Z [] (.v (.bool true)) (.bool true):= .v rfl
def Hz:Option Bool:=some true
def UW:Cs Unit:=csN
def UX (b:Bool):AV:=cdB.enc b
def Vz:List AV->Option AV:=ES UW (fun _=>Hz) UX
theorem HD:XOk 18 Vz:=by
 refine ⟨⟨Tryz.call18⟩,fun xs x h w Z us _ _ hv=>?_⟩
 obtain ⟨a,ha,h⟩:=OB h
 obtain ⟨b,hb,rfl⟩:=Option.map_eq_some_iff.1 h
 have hb:=OI hb
 subst hb
 have:xs=[]:=by
  cases xs with
  | nil=>rfl
  | cons x xs=>cases ha
 subst this
 have:us=[]:=by have:=hv.len; simpa using this
 subst this
 exact Ret.mono (ZC w) fun v w' h=>⟨h.2,by rw [h.1]; exact AC5⟩
/- trestle/trestlelaw03.CourtTurns$1 -/
noncomputable def KR:Code:=BL Tryz.f37
def Fn (x0:(List UInt8)):Option (Bool) :=
 some (decide ((x0.length:Int) > 40))
def IS:Cs ((List UInt8)×Unit):=(csC cdS csN)
def IV (r:Bool):AV:=cdB.enc r
theorem Od (x0:(List UInt8)) (r:Bool) (h:Fn x0=some r):Sem E0 ⟨none,false⟩ KR ⟨Fr 6 (A6 0 (IS.enc (x0,()))),[]⟩ fun e s'=>(e = .normal\/e = .ret)/\∃ xs,EZ E0.P s'.fr s'.hp Tryz.f37.results.toList=some xs/\Ee xs=IV r:=by
 unfold Fn at h;refine Ax (BY (s1:=⟨Fr 6 [(0,.st x0)],[]⟩) AJ ?_);refine AK AC [(0,.st x0)] [] ?_
 let p1:Nat×AV:=(2,.b (decide ((x0.length:Int) > 40)))
 refine AK AC [p1] [] ?_;refine AR ?_;have hq:=OI h; subst hq;exact ⟨⟨Fr 6 [p1],[]⟩,AJ,.inr rfl,[.b (decide ((x0.length:Int) > 40))],kr,kr⟩
def Pn:List AV->Option AV:=ES IS (fun a=>Fn a.1) IV
theorem Pq:XOk 37 Pn:=by
 refine AU Tryz.func37 (c:=KR) ?h2 ⟨Tryz.call37⟩ IS (fun a=>Fn a.1) IV (fun a=>(by show 1<=6; decide)) ?h3 ?h4
 case h2=>kernel_rfl
 case h3=>intro b; kernel_rfl
 case h4=>exact fun a b h=>Od a.1 b h
/- slices.IndexFunc[[]string,string] -/
noncomputable def Cl:Code:=BL Tryz.f90
def BV (x0:(List (List UInt8))):Nat->Int->Option ((Unit) ⊕ (Int))
 | 0,_=>none
 | f + 1,c1 =>
  if (decide (c1 < (x0.length:Int)))=true then
  (idx x0 c1).bind fun v3 =>
  (Fn v3).bind fun v4 =>
  if v4=true then
  some (.inr c1)
  else
  BV x0 f (wr .i64 (c1 + 1))
  else
  some (.inl ())
def BK (x0:(List (List UInt8))):Option (Int) :=
 (BV x0 100000 0).bind fun r7 =>
 match r7 with
 | (.inl w8) =>
  some (-1)
 | (.inr w9) =>
  some w9
def Cn:Cs ((List (List UInt8))×Unit×Unit):=(csC (cdL 1 cdS) (csC (cdF 37 csN (fun _=>rfl)) csN))
def Cp (r:Int):AV:=cdI.enc r
theorem Dn (x0:(List (List UInt8))):∀ (f:Nat) (c1:Int) (r:(Unit) ⊕ (Int)),BV x0 f c1=some r->SemN E0 ⟨none,false⟩ (pc Cl [1,0,1,0,0]) f ⟨Fr 19 [(0,.sl 1 (x0.map cdS.enc)),(1,.fn 37 [] []),(7,.j (x0.length:Int)),(8,.j c1)],[]⟩ (fun e s=>match r with
 | (.inl w)=>e=(.exit 0)/\Wk E0 s ⟨Fr 19 [],[]⟩
 | (.inr w)=>e = .ret/\Wk E0 s ⟨Fr 19 [(4,.j w)],[]⟩):=by
 intro f;induction f with
 | zero=>intro c1 r h; cases h
 | succ f ih0 =>
  intro c1 r h
  have ih:=fun (c1:Int)=>ih0 c1 r
  unfold BV at h;refine CI ?_
  let p1:Nat×AV:=(8,.j c1)
  let p2:Nat×AV:=(7,.j (x0.length:Int))
  let p3:Nat×AV:=(1,.fn 37 [] [])
  let p4:Nat×AV:=(0,.sl 1 (x0.map cdS.enc))
  refine AK AC [p4,p3,p2,p1,(9,.b (decide (c1 < (x0.length:Int))))] [] ?_;refine AH ?_;refine AT (b:=(decide (c1 < (x0.length:Int)))) kr (fun hb2=>?_) (fun hb2=>?_)
  ·rw [if_pos hb2] at h
   refine AY ?_;refine AH ?_;refine Al ?_
   let p5:Nat×AV:=(5,.j c1)
   refine AK AC [p4,p3,p5,p2,p1] [] ?_;refine AH ?_;obtain ⟨v3,hv3,h⟩:=OB h;obtain ⟨v4,hv4,h⟩:=OB h;refine AM (s1:=⟨Fr 19 [p4,p3,p5,p2,p1,(16,.b v4)],[]⟩) ?_ ?_
   ·refine AD (n:=19) AC 3 [p4,p3,p5,p2,p1,(11,.fn 37 [] []),(12,.sl 1 (x0.map cdS.enc)),(13,.j c1)] [] kr ?_
    refine AZ AC 0 rfl (DR (AB rfl) rfl (AP (a:= .sl 1 (x0.map cdS.enc)) (b:= .j c1) kr kr (Di (e:=cdS.enc) (el:=9) (k:=1) (ki:= .i64) kr kr hv3))) ?_;refine AD (n:=19) AC 1 [p4,p3,p5,p2,p1,(11,.fn 37 [] []),(15,.st v3)] [] kr ?_;refine AS (caps:=[]) (xs:=[.st v3]) (u:=(v3,())) rfl rfl Pq rfl (AB rfl) kr kr (AL (AW (c:=cdS) (v:=v3)) Ao) (.inl kr) hv4 ?_;exact AI rfl AJ
   refine AT (b:=v4) kr (fun hb5=>?_) (fun hb5=>?_)
   ·rw [if_pos hb5] at h
    refine AK AC [(4,.j c1)] [] ?_;refine AR ?_;have hq:=OI h; subst hq;exact ⟨rfl,AJ⟩
   ·rw [Bm hb5] at h
    refine AY ?_
    let p6:Nat×AV:=(8,.j (wr .i64 (c1 + 1)))
    refine D1 AC [p4,p3,p2,p6] [] ?_;exact Aq (s1:=⟨Fr 19 [p4,p3,p2,p6],[]⟩) AJ (ih (wr .i64 (c1 + 1)) h)
  ·rw [Bm hb2] at h
   refine C6 ?_;have hq:=OI h; subst hq;exact ⟨rfl,AJ⟩
theorem GB (x0:(List (List UInt8))) (r:Int) (h:BK x0=some r):Sem E0 ⟨none,false⟩ Cl ⟨Fr 19 (A6 0 (Cn.enc (x0,(),()))),[]⟩ fun e s'=>(e = .normal\/e = .ret)/\∃ xs,EZ E0.P s'.fr s'.hp Tryz.f90.results.toList=some xs/\Ee xs=Cp r:=by
 unfold BK at h
 let p1:Nat×AV:=(1,.fn 37 [] [])
 let p2:Nat×AV:=(0,.sl 1 (x0.map cdS.enc))
 refine Ax (BY (s1:=⟨Fr 19 [p2,p1],[]⟩) AJ ?_);refine AK AC [p2,p1] [] ?_;refine AH ?_;refine AH ?_
 let p3:Nat×AV:=(8,.j 0)
 let p4:Nat×AV:=(7,.j (x0.length:Int))
 refine AM (s1:=⟨Fr 19 [p2,p1,p4,p3],[]⟩) ?_ ?_
 ·refine AD (n:=19) AC 1 [p2,p1,(6,.sl 1 (x0.map cdS.enc))] [] kr ?_
  refine AZ AC 0 rfl (DR (AB rfl) rfl (C3 (a:= .sl 1 (x0.map cdS.enc)) kr (Bn (el:=9) kr))) ?_;exact Ad AC
 refine Al ?_;obtain ⟨r7,hr7,h⟩:=OB h;refine DB (n:=100000) ?_;rcases r7 with w8 | w9
 ·try dsimp only at h
  refine BB (Aq (s1:=⟨Fr 19 [p2,p1,p4,p3],[]⟩) AJ (Dn x0 _ 0 _ hr7)) ?_;refine AK AC [(4,.j (-1))] [] ?_;refine AR ?_;have hq:=OI h; subst hq;exact ⟨⟨Fr 19 [(4,.j (-1))],[]⟩,AJ,.inr rfl,[.j (-1)],kr,kr⟩
 ·try dsimp only at h
  refine BB (Aq (s1:=⟨Fr 19 [p2,p1,p4,p3],[]⟩) AJ (Dn x0 _ 0 _ hr7)) ?_;have hq:=OI h; subst hq;exact ⟨⟨Fr 19 [(4,.j w9)],[]⟩,AJ,.inr rfl,[.j w9],kr,kr⟩
def GU:List AV->Option AV:=ES Cn (fun a=>BK a.1) Cp
theorem GW:XOk 90 GU:=by
 refine AU Tryz.func90 (c:=Cl) ?h2 ⟨Tryz.call90⟩ Cn (fun a=>BK a.1) Cp (fun a=>(by show 2<=19; decide)) ?h3 ?h4
 case h2=>kernel_rfl
 case h3=>intro b; kernel_rfl
 case h4=>exact fun a b h=>GB a.1 b h
/- slices.ContainsFunc[[]string,string] -/
noncomputable def Dm:Code:=BL Tryz.f36
def Ay (x0:(List (List UInt8))):Option (Bool) :=
 (BK x0).bind fun v1 =>
 some (decide (v1≥0))
def CW:Cs ((List (List UInt8))×Unit×Unit):=(csC (cdL 1 cdS) (csC (cdF 37 csN (fun _=>rfl)) csN))
def CY (r:Bool):AV:=cdB.enc r
theorem Fa (x0:(List (List UInt8))) (r:Bool) (h:Ay x0=some r):Sem E0 ⟨none,false⟩ Dm ⟨Fr 9 (A6 0 (CW.enc (x0,(),()))),[]⟩ fun e s'=>(e = .normal\/e = .ret)/\∃ xs,EZ E0.P s'.fr s'.hp Tryz.f36.results.toList=some xs/\Ee xs=CY r:=by
 unfold Ay at h;refine Ax (BY (s1:=⟨Fr 9 [(0,.sl 1 (x0.map cdS.enc)),(1,.fn 37 [] [])],[]⟩) AJ ?_);refine AK AC [(0,.sl 1 (x0.map cdS.enc)),(1,.fn 37 [] [])] [] ?_;refine AH ?_;obtain ⟨v1,hv1,h⟩:=OB h
 let p1:Nat×AV:=(4,.b (decide (v1≥0)))
 refine AM (s1:=⟨Fr 9 [p1],[]⟩) ?_ ?_
 ·refine AD (n:=9) AC 2 [(5,.sl 1 (x0.map cdS.enc)),(6,.fn 37 [] [])] [] kr ?_
  refine AS (caps:=[]) (xs:=[.sl 1 (x0.map cdS.enc),.fn 37 [] []]) (u:=(x0,(),())) rfl rfl GW rfl (AB rfl) kr kr (AL (AW (c:=(cdL 1 cdS)) (v:=x0)) (AL (Sm.fn Ao) Ao)) (.inl kr) hv1 ?_;exact Ad AC
 refine AR ?_;have hq:=OI h; subst hq;exact ⟨⟨Fr 9 [p1],[]⟩,AJ,.inr rfl,[.b (decide (v1≥0))],kr,kr⟩
def F6:List AV->Option AV:=ES CW (fun a=>Ay a.1) CY
theorem F8:XOk 36 F6:=by
 refine AU Tryz.func36 (c:=Dm) ?h2 ⟨Tryz.call36⟩ CW (fun a=>Ay a.1) CY (fun a=>(by show 2<=9; decide)) ?h3 ?h4
 case h2=>kernel_rfl
 case h3=>intro b; kernel_rfl
 case h4=>exact fun a b h=>Fa a.1 b h
/- trestle/trestlelaw03.FewGuests$1$1 -/
noncomputable def Jz:Code:=BL Tryz.f58
def FK (x0:(List UInt8)):Option (Bool) :=
 some (decide ((x0.length:Int) > 40))
def H8:Cs ((List UInt8)×Unit):=(csC cdS csN)
def H9 (r:Bool):AV:=cdB.enc r
theorem N1 (x0:(List UInt8)) (r:Bool) (h:FK x0=some r):Sem E0 ⟨none,false⟩ Jz ⟨Fr 6 (A6 0 (H8.enc (x0,()))),[]⟩ fun e s'=>(e = .normal\/e = .ret)/\∃ xs,EZ E0.P s'.fr s'.hp Tryz.f58.results.toList=some xs/\Ee xs=H9 r:=by
 unfold FK at h;refine Ax (BY (s1:=⟨Fr 6 [(0,.st x0)],[]⟩) AJ ?_);refine AK AC [(0,.st x0)] [] ?_
 let p1:Nat×AV:=(2,.b (decide ((x0.length:Int) > 40)))
 refine AK AC [p1] [] ?_;refine AR ?_;have hq:=OI h; subst hq;exact ⟨⟨Fr 6 [p1],[]⟩,AJ,.inr rfl,[.b (decide ((x0.length:Int) > 40))],kr,kr⟩
def PO:List AV->Option AV:=ES H8 (fun a=>FK a.1) H9
theorem PX:XOk 58 PO:=by
 refine AU Tryz.func58 (c:=Jz) ?h2 ⟨Tryz.call58⟩ H8 (fun a=>FK a.1) H9 (fun a=>(by show 1<=6; decide)) ?h3 ?h4
 case h2=>kernel_rfl
 case h3=>intro b; kernel_rfl
 case h4=>exact fun a b h=>N1 a.1 b h
/- slices.IndexFunc[[]string,string] -/
noncomputable def Cg:Code:=BL Tryz.f90
def BT (x0:(List (List UInt8))):Nat->Int->Option ((Unit) ⊕ (Int))
 | 0,_=>none
 | f + 1,c1 =>
  if (decide (c1 < (x0.length:Int)))=true then
  (idx x0 c1).bind fun v3 =>
  (FK v3).bind fun v4 =>
  if v4=true then
  some (.inr c1)
  else
  BT x0 f (wr .i64 (c1 + 1))
  else
  some (.inl ())
def BH (x0:(List (List UInt8))):Option (Int) :=
 (BT x0 100000 0).bind fun r7 =>
 match r7 with
 | (.inl w8) =>
  some (-1)
 | (.inr w9) =>
  some w9
def Ci:Cs ((List (List UInt8))×Unit×Unit):=(csC (cdL 1 cdS) (csC (cdF 58 csN (fun _=>rfl)) csN))
def Ck (r:Int):AV:=cdI.enc r
theorem Dk (x0:(List (List UInt8))):∀ (f:Nat) (c1:Int) (r:(Unit) ⊕ (Int)),BT x0 f c1=some r->SemN E0 ⟨none,false⟩ (pc Cg [1,0,1,0,0]) f ⟨Fr 19 [(0,.sl 1 (x0.map cdS.enc)),(1,.fn 58 [] []),(7,.j (x0.length:Int)),(8,.j c1)],[]⟩ (fun e s=>match r with
 | (.inl w)=>e=(.exit 0)/\Wk E0 s ⟨Fr 19 [],[]⟩
 | (.inr w)=>e = .ret/\Wk E0 s ⟨Fr 19 [(4,.j w)],[]⟩):=by
 intro f;induction f with
 | zero=>intro c1 r h; cases h
 | succ f ih0 =>
  intro c1 r h
  have ih:=fun (c1:Int)=>ih0 c1 r
  unfold BT at h;refine CI ?_
  let p1:Nat×AV:=(8,.j c1)
  let p2:Nat×AV:=(7,.j (x0.length:Int))
  let p3:Nat×AV:=(1,.fn 58 [] [])
  let p4:Nat×AV:=(0,.sl 1 (x0.map cdS.enc))
  refine AK AC [p4,p3,p2,p1,(9,.b (decide (c1 < (x0.length:Int))))] [] ?_;refine AH ?_;refine AT (b:=(decide (c1 < (x0.length:Int)))) kr (fun hb2=>?_) (fun hb2=>?_)
  ·rw [if_pos hb2] at h
   refine AY ?_;refine AH ?_;refine Al ?_
   let p5:Nat×AV:=(5,.j c1)
   refine AK AC [p4,p3,p5,p2,p1] [] ?_;refine AH ?_;obtain ⟨v3,hv3,h⟩:=OB h;obtain ⟨v4,hv4,h⟩:=OB h;refine AM (s1:=⟨Fr 19 [p4,p3,p5,p2,p1,(16,.b v4)],[]⟩) ?_ ?_
   ·refine AD (n:=19) AC 3 [p4,p3,p5,p2,p1,(11,.fn 58 [] []),(12,.sl 1 (x0.map cdS.enc)),(13,.j c1)] [] kr ?_
    refine AZ AC 0 rfl (DR (AB rfl) rfl (AP (a:= .sl 1 (x0.map cdS.enc)) (b:= .j c1) kr kr (Di (e:=cdS.enc) (el:=9) (k:=1) (ki:= .i64) kr kr hv3))) ?_;refine AD (n:=19) AC 1 [p4,p3,p5,p2,p1,(11,.fn 58 [] []),(15,.st v3)] [] kr ?_;refine AS (caps:=[]) (xs:=[.st v3]) (u:=(v3,())) rfl rfl PX rfl (AB rfl) kr kr (AL (AW (c:=cdS) (v:=v3)) Ao) (.inl kr) hv4 ?_;exact AI rfl AJ
   refine AT (b:=v4) kr (fun hb5=>?_) (fun hb5=>?_)
   ·rw [if_pos hb5] at h
    refine AK AC [(4,.j c1)] [] ?_;refine AR ?_;have hq:=OI h; subst hq;exact ⟨rfl,AJ⟩
   ·rw [Bm hb5] at h
    refine AY ?_
    let p6:Nat×AV:=(8,.j (wr .i64 (c1 + 1)))
    refine D1 AC [p4,p3,p2,p6] [] ?_;exact Aq (s1:=⟨Fr 19 [p4,p3,p2,p6],[]⟩) AJ (ih (wr .i64 (c1 + 1)) h)
  ·rw [Bm hb2] at h
   refine C6 ?_;have hq:=OI h; subst hq;exact ⟨rfl,AJ⟩
theorem F5 (x0:(List (List UInt8))) (r:Int) (h:BH x0=some r):Sem E0 ⟨none,false⟩ Cg ⟨Fr 19 (A6 0 (Ci.enc (x0,(),()))),[]⟩ fun e s'=>(e = .normal\/e = .ret)/\∃ xs,EZ E0.P s'.fr s'.hp Tryz.f90.results.toList=some xs/\Ee xs=Ck r:=by
 unfold BH at h
 let p1:Nat×AV:=(1,.fn 58 [] [])
 let p2:Nat×AV:=(0,.sl 1 (x0.map cdS.enc))
 refine Ax (BY (s1:=⟨Fr 19 [p2,p1],[]⟩) AJ ?_);refine AK AC [p2,p1] [] ?_;refine AH ?_;refine AH ?_
 let p3:Nat×AV:=(8,.j 0)
 let p4:Nat×AV:=(7,.j (x0.length:Int))
 refine AM (s1:=⟨Fr 19 [p2,p1,p4,p3],[]⟩) ?_ ?_
 ·refine AD (n:=19) AC 1 [p2,p1,(6,.sl 1 (x0.map cdS.enc))] [] kr ?_
  refine AZ AC 0 rfl (DR (AB rfl) rfl (C3 (a:= .sl 1 (x0.map cdS.enc)) kr (Bn (el:=9) kr))) ?_;exact Ad AC
 refine Al ?_;obtain ⟨r7,hr7,h⟩:=OB h;refine DB (n:=100000) ?_;rcases r7 with w8 | w9
 ·try dsimp only at h
  refine BB (Aq (s1:=⟨Fr 19 [p2,p1,p4,p3],[]⟩) AJ (Dk x0 _ 0 _ hr7)) ?_;refine AK AC [(4,.j (-1))] [] ?_;refine AR ?_;have hq:=OI h; subst hq;exact ⟨⟨Fr 19 [(4,.j (-1))],[]⟩,AJ,.inr rfl,[.j (-1)],kr,kr⟩
 ·try dsimp only at h
  refine BB (Aq (s1:=⟨Fr 19 [p2,p1,p4,p3],[]⟩) AJ (Dk x0 _ 0 _ hr7)) ?_;have hq:=OI h; subst hq;exact ⟨⟨Fr 19 [(4,.j w9)],[]⟩,AJ,.inr rfl,[.j w9],kr,kr⟩
def GG:List AV->Option AV:=ES Ci (fun a=>BH a.1) Ck
theorem GJ:XOk 90 GG:=by
 refine AU Tryz.func90 (c:=Cg) ?h2 ⟨Tryz.call90⟩ Ci (fun a=>BH a.1) Ck (fun a=>(by show 2<=19; decide)) ?h3 ?h4
 case h2=>kernel_rfl
 case h3=>intro b; kernel_rfl
 case h4=>exact fun a b h=>F5 a.1 b h
/- slices.ContainsFunc[[]string,string] -/
noncomputable def Dh:Code:=BL Tryz.f36
def Au (x0:(List (List UInt8))):Option (Bool) :=
 (BH x0).bind fun v1 =>
 some (decide (v1≥0))
def CP:Cs ((List (List UInt8))×Unit×Unit):=(csC (cdL 1 cdS) (csC (cdF 58 csN (fun _=>rfl)) csN))
def CT (r:Bool):AV:=cdB.enc r
theorem FS (x0:(List (List UInt8))) (r:Bool) (h:Au x0=some r):Sem E0 ⟨none,false⟩ Dh ⟨Fr 9 (A6 0 (CP.enc (x0,(),()))),[]⟩ fun e s'=>(e = .normal\/e = .ret)/\∃ xs,EZ E0.P s'.fr s'.hp Tryz.f36.results.toList=some xs/\Ee xs=CT r:=by
 unfold Au at h;refine Ax (BY (s1:=⟨Fr 9 [(0,.sl 1 (x0.map cdS.enc)),(1,.fn 58 [] [])],[]⟩) AJ ?_);refine AK AC [(0,.sl 1 (x0.map cdS.enc)),(1,.fn 58 [] [])] [] ?_;refine AH ?_;obtain ⟨v1,hv1,h⟩:=OB h
 let p1:Nat×AV:=(4,.b (decide (v1≥0)))
 refine AM (s1:=⟨Fr 9 [p1],[]⟩) ?_ ?_
 ·refine AD (n:=9) AC 2 [(5,.sl 1 (x0.map cdS.enc)),(6,.fn 58 [] [])] [] kr ?_
  refine AS (caps:=[]) (xs:=[.sl 1 (x0.map cdS.enc),.fn 58 [] []]) (u:=(x0,(),())) rfl rfl GJ rfl (AB rfl) kr kr (AL (AW (c:=(cdL 1 cdS)) (v:=x0)) (AL (Sm.fn Ao) Ao)) (.inl kr) hv1 ?_;exact Ad AC
 refine AR ?_;have hq:=OI h; subst hq;exact ⟨⟨Fr 9 [p1],[]⟩,AJ,.inr rfl,[.b (decide (v1≥0))],kr,kr⟩
def Fh:List AV->Option AV:=ES CP (fun a=>Au a.1) CT
theorem Fl:XOk 36 Fh:=by
 refine AU Tryz.func36 (c:=Dh) ?h2 ⟨Tryz.call36⟩ CP (fun a=>Au a.1) CT (fun a=>(by show 2<=9; decide)) ?h3 ?h4
 case h2=>kernel_rfl
 case h3=>intro b; kernel_rfl
 case h4=>exact fun a b h=>FS a.1 b h
/- trestle/trestlelaw03.FewGuests$1 -/
noncomputable def LZ:Code:=BL Tryz.f57
def Ea (x0:An):Option (Bool) :=
 (if (decide ((mxI (mxI (x0.1.length:Int) (x0.2.1.length:Int)) (x0.2.2.1.length:Int)) > 40))=true then some true else if (decide ((x0.2.2.2.2.2.2.2.2.length:Int) > 10))=true then some true else (Au x0.2.2.2.2.2.2.2.2).bind fun v1 =>
 some v1).bind fun j3 =>
 some j3
def Ix:Cs (An×Unit):=(csC AE csN)
def Iz (r:Bool):AV:=cdB.enc r
theorem O9 (x0:An) (r:Bool) (h:Ea x0=some r):Sem E0 ⟨none,false⟩ LZ ⟨Fr 25 (A6 0 (Ix.enc (x0,()))),[]⟩ fun e s'=>(e = .normal\/e = .ret)/\∃ xs,EZ E0.P s'.fr s'.hp Tryz.f57.results.toList=some xs/\Ee xs=Iz r:=by
 unfold Ea at h;refine Ax (BY (s1:=⟨Fr 25 [(0,AE.enc x0)],[]⟩) AJ ?_);refine AK AC [(1,.pt 0 0 0)] [some ⟨9,42,[AE.enc x0],false⟩] ?_;refine AH ?_;obtain ⟨j3,hj3,h⟩:=OB h;refine AM (s1:=⟨Fr 25 [(2,.b j3)],[]⟩) ?_ ?_
 ·refine AD (n:=25) AC 12 [(1,.pt 0 0 0),(14,.b (decide ((mxI (mxI (x0.1.length:Int) (x0.2.1.length:Int)) (x0.2.2.1.length:Int)) > 40)))] [some ⟨9,42,[AE.enc x0],false⟩] kr ?_
  rcases BE (decide ((mxI (mxI (x0.1.length:Int) (x0.2.1.length:Int)) (x0.2.2.1.length:Int)) > 40)) with hc4 | hc4
  ·rw [if_pos hc4] at hj3
   rw [hc4];refine AD (n:=25) AC 11 [(2,.b true)] [some ⟨9,42,[AE.enc x0],false⟩] kr ?_;have hq:=OI hj3; subst hq;exact AI rfl (Ar [] trivial ⟨lv,trivial⟩)
  ·rw [Bm hc4] at hj3
   rw [hc4];refine AD (n:=25) AC 2 [(1,.pt 0 0 0),(14,.b false),(16,.sl 1 (x0.2.2.2.2.2.2.2.2.map cdS.enc))] [some ⟨9,42,[AE.enc x0],false⟩] kr ?_;refine AZ AC 0 rfl (DR kr rfl (C3 (a:= .sl 1 (x0.2.2.2.2.2.2.2.2.map cdS.enc)) kr (Bn (el:=9) kr))) ?_;refine AD (n:=25) AC 3 [(1,.pt 0 0 0),(20,.b (decide ((x0.2.2.2.2.2.2.2.2.length:Int) > 10)))] [some ⟨9,42,[AE.enc x0],false⟩] kr ?_;rcases BE (decide ((x0.2.2.2.2.2.2.2.2.length:Int) > 10)) with hc5 | hc5
   ·rw [if_pos hc5] at hj3
    rw [hc5];refine AD (n:=25) AC 5 [(2,.b true)] [some ⟨9,42,[AE.enc x0],false⟩] kr ?_;have hq:=OI hj3; subst hq;exact AI rfl (Ar [] trivial ⟨lv,trivial⟩)
   ·rw [Bm hc5] at hj3
    rw [hc5];refine AD (n:=25) AC 2 [(20,.b false),(22,.sl 1 (x0.2.2.2.2.2.2.2.2.map cdS.enc))] [some ⟨9,42,[AE.enc x0],false⟩] kr ?_;obtain ⟨v1,hv1,hj3⟩:=OB hj3;refine AS (caps:=[]) (xs:=[.sl 1 (x0.2.2.2.2.2.2.2.2.map cdS.enc),.fn 58 [] []]) (u:=(x0.2.2.2.2.2.2.2.2,(),())) rfl rfl Fl rfl kr kr kr (AL (AW (c:=(cdL 1 cdS)) (v:=x0.2.2.2.2.2.2.2.2)) (AL (Sm.fn Ao) Ao)) (.inl kr) hv1 ?_;refine AD (n:=25) AC 2 [(2,.b v1)] [some ⟨9,42,[AE.enc x0],false⟩] kr ?_;have hq:=OI hj3; subst hq;exact AI rfl (Ar [] trivial ⟨lv,trivial⟩)
 refine AR ?_;have hq:=OI h; subst hq;exact ⟨⟨Fr 25 [(2,.b j3)],[]⟩,AJ,.inr rfl,[.b j3],kr,kr⟩
def QS:List AV->Option AV:=ES Ix (fun a=>Ea a.1) Iz
theorem QU:XOk 57 QS:=by
 refine AU Tryz.func57 (c:=LZ) ?h2 ⟨Tryz.call57⟩ Ix (fun a=>Ea a.1) Iz (fun a=>(by show 1<=25; decide)) ?h3 ?h4
 case h2=>kernel_rfl
 case h3=>intro b; kernel_rfl
 case h4=>exact fun a b h=>O9 a.1 b h
/- slices.IndexFunc[[]trestle/api.Guest,trestle/api.Guest] -/
noncomputable def CK:Code:=BL Tryz.f32
def BJ (x0:(List An)):Nat->Int->Option ((Unit) ⊕ (Int))
 | 0,_=>none
 | f + 1,c1 =>
  if (decide (c1 < (x0.length:Int)))=true then
  (idx x0 c1).bind fun v3 =>
  (Ea v3).bind fun v4 =>
  if v4=true then
  some (.inr c1)
  else
  BJ x0 f (wr .i64 (c1 + 1))
  else
  some (.inl ())
def A1 (x0:(List An)):Option (Int) :=
 (BJ x0 100000 0).bind fun r7 =>
 match r7 with
 | (.inl w8) =>
  some (-1)
 | (.inr w9) =>
  some w9
def CL:Cs ((List An)×Unit×Unit):=(csC (cdL 9 AE) (csC (cdF 57 csN (fun _=>rfl)) csN))
def CM (r:Int):AV:=cdI.enc r
theorem DX (x0:(List An)):∀ (f:Nat) (c1:Int) (r:(Unit) ⊕ (Int)),BJ x0 f c1=some r->SemN E0 ⟨none,false⟩ (pc CK [1,0,1,0,0]) f ⟨Fr 19 [(0,.sl 9 (x0.map AE.enc)),(1,.fn 57 [] []),(7,.j (x0.length:Int)),(8,.j c1)],[]⟩ (fun e s=>match r with
 | (.inl w)=>e=(.exit 0)/\Wk E0 s ⟨Fr 19 [],[]⟩
 | (.inr w)=>e = .ret/\Wk E0 s ⟨Fr 19 [(4,.j w)],[]⟩):=by
 intro f;induction f with
 | zero=>intro c1 r h; cases h
 | succ f ih0 =>
  intro c1 r h
  have ih:=fun (c1:Int)=>ih0 c1 r
  unfold BJ at h;refine CI ?_
  let p1:Nat×AV:=(8,.j c1)
  let p2:Nat×AV:=(7,.j (x0.length:Int))
  let p3:Nat×AV:=(1,.fn 57 [] [])
  let p4:Nat×AV:=(0,.sl 9 (x0.map AE.enc))
  refine AK AC [p4,p3,p2,p1,(9,.b (decide (c1 < (x0.length:Int))))] [] ?_;refine AH ?_;refine AT (b:=(decide (c1 < (x0.length:Int)))) kr (fun hb2=>?_) (fun hb2=>?_)
  ·rw [if_pos hb2] at h
   refine AY ?_;refine AH ?_;refine Al ?_
   let p5:Nat×AV:=(5,.j c1)
   refine AK AC [p4,p3,p5,p2,p1] [] ?_;refine AH ?_;obtain ⟨v3,hv3,h⟩:=OB h;obtain ⟨v4,hv4,h⟩:=OB h;refine AM (s1:=⟨Fr 19 [p4,p3,p5,p2,p1,(16,.b v4)],[]⟩) ?_ ?_
   ·refine AD (n:=19) AC 3 [p4,p3,p5,p2,p1,(11,.fn 57 [] []),(12,.sl 9 (x0.map AE.enc)),(13,.j c1)] [] kr ?_
    refine AZ AC 0 rfl (DR (AB rfl) rfl (AP (a:= .sl 9 (x0.map AE.enc)) (b:= .j c1) kr kr (Di (e:=AE.enc) (el:=42) (k:=9) (ki:= .i64) kr kr hv3))) ?_;refine AD (n:=19) AC 1 [p4,p3,p5,p2,p1,(11,.fn 57 [] []),(15,AE.enc v3)] [] kr ?_;refine AS (caps:=[]) (xs:=[AE.enc v3]) (u:=(v3,())) rfl rfl QU rfl (AB rfl) kr kr (AL (AW (c:=AE) (v:=v3)) Ao) (.inl kr) hv4 ?_;exact AI rfl AJ
   refine AT (b:=v4) kr (fun hb5=>?_) (fun hb5=>?_)
   ·rw [if_pos hb5] at h
    refine AK AC [(4,.j c1)] [] ?_;refine AR ?_;have hq:=OI h; subst hq;exact ⟨rfl,AJ⟩
   ·rw [Bm hb5] at h
    refine AY ?_
    let p6:Nat×AV:=(8,.j (wr .i64 (c1 + 1)))
    refine D1 AC [p4,p3,p2,p6] [] ?_;exact Aq (s1:=⟨Fr 19 [p4,p3,p2,p6],[]⟩) AJ (ih (wr .i64 (c1 + 1)) h)
  ·rw [Bm hb2] at h
   refine C6 ?_;have hq:=OI h; subst hq;exact ⟨rfl,AJ⟩
theorem FL (x0:(List An)) (r:Int) (h:A1 x0=some r):Sem E0 ⟨none,false⟩ CK ⟨Fr 19 (A6 0 (CL.enc (x0,(),()))),[]⟩ fun e s'=>(e = .normal\/e = .ret)/\∃ xs,EZ E0.P s'.fr s'.hp Tryz.f32.results.toList=some xs/\Ee xs=CM r:=by
 unfold A1 at h
 let p1:Nat×AV:=(1,.fn 57 [] [])
 let p2:Nat×AV:=(0,.sl 9 (x0.map AE.enc))
 refine Ax (BY (s1:=⟨Fr 19 [p2,p1],[]⟩) AJ ?_);refine AK AC [p2,p1] [] ?_;refine AH ?_;refine AH ?_
 let p3:Nat×AV:=(8,.j 0)
 let p4:Nat×AV:=(7,.j (x0.length:Int))
 refine AM (s1:=⟨Fr 19 [p2,p1,p4,p3],[]⟩) ?_ ?_
 ·refine AD (n:=19) AC 1 [p2,p1,(6,.sl 9 (x0.map AE.enc))] [] kr ?_
  refine AZ AC 0 rfl (DR (AB rfl) rfl (C3 (a:= .sl 9 (x0.map AE.enc)) kr (Bn (el:=42) kr))) ?_;exact Ad AC
 refine Al ?_;obtain ⟨r7,hr7,h⟩:=OB h;refine DB (n:=100000) ?_;rcases r7 with w8 | w9
 ·try dsimp only at h
  refine BB (Aq (s1:=⟨Fr 19 [p2,p1,p4,p3],[]⟩) AJ (DX x0 _ 0 _ hr7)) ?_;refine AK AC [(4,.j (-1))] [] ?_;refine AR ?_;have hq:=OI h; subst hq;exact ⟨⟨Fr 19 [(4,.j (-1))],[]⟩,AJ,.inr rfl,[.j (-1)],kr,kr⟩
 ·try dsimp only at h
  refine BB (Aq (s1:=⟨Fr 19 [p2,p1,p4,p3],[]⟩) AJ (DX x0 _ 0 _ hr7)) ?_;have hq:=OI h; subst hq;exact ⟨⟨Fr 19 [(4,.j w9)],[]⟩,AJ,.inr rfl,[.j w9],kr,kr⟩
def Fd:List AV->Option AV:=ES CL (fun a=>A1 a.1) CM
theorem Ff:XOk 32 Fd:=by
 refine AU Tryz.func32 (c:=CK) ?h2 ⟨Tryz.call32⟩ CL (fun a=>A1 a.1) CM (fun a=>(by show 2<=19; decide)) ?h3 ?h4
 case h2=>kernel_rfl
 case h3=>intro b; kernel_rfl
 case h4=>exact fun a b h=>FL a.1 b h
/- slices.ContainsFunc[[]trestle/api.Guest,trestle/api.Guest] -/
noncomputable def DV:Code:=BL Tryz.f56
def Am (x0:(List An)):Option (Bool) :=
 (A1 x0).bind fun v1 =>
 some (decide (v1≥0))
def B8:Cs ((List An)×Unit×Unit):=(csC (cdL 9 AE) (csC (cdF 57 csN (fun _=>rfl)) csN))
def B9 (r:Bool):AV:=cdB.enc r
theorem Eo (x0:(List An)) (r:Bool) (h:Am x0=some r):Sem E0 ⟨none,false⟩ DV ⟨Fr 9 (A6 0 (B8.enc (x0,(),()))),[]⟩ fun e s'=>(e = .normal\/e = .ret)/\∃ xs,EZ E0.P s'.fr s'.hp Tryz.f56.results.toList=some xs/\Ee xs=B9 r:=by
 unfold Am at h
 let p1:Nat×AV:=(0,.sl 9 (x0.map AE.enc))
 refine Ax (BY (s1:=⟨Fr 9 [p1,(1,.fn 57 [] [])],[]⟩) AJ ?_);refine AK AC [p1,(1,.fn 57 [] [])] [] ?_;refine AH ?_;obtain ⟨v1,hv1,h⟩:=OB h
 let p2:Nat×AV:=(4,.b (decide (v1≥0)))
 refine AM (s1:=⟨Fr 9 [p2],[]⟩) ?_ ?_
 ·refine AD (n:=9) AC 2 [(5,.sl 9 (x0.map AE.enc)),(6,.fn 57 [] [])] [] kr ?_
  refine AS (caps:=[]) (xs:=[.sl 9 (x0.map AE.enc),.fn 57 [] []]) (u:=(x0,(),())) rfl rfl Ff rfl (AB rfl) kr kr (AL (AW (c:=(cdL 9 AE)) (v:=x0)) (AL (Sm.fn Ao) Ao)) (.inl kr) hv1 ?_;exact Ad AC
 refine AR ?_;have hq:=OI h; subst hq;exact ⟨⟨Fr 9 [p2],[]⟩,AJ,.inr rfl,[.b (decide (v1≥0))],kr,kr⟩
def Ez:List AV->Option AV:=ES B8 (fun a=>Am a.1) B9
theorem FA:XOk 56 Ez:=by
 refine AU Tryz.func56 (c:=DV) ?h2 ⟨Tryz.call56⟩ B8 (fun a=>Am a.1) B9 (fun a=>(by show 2<=9; decide)) ?h3 ?h4
 case h2=>kernel_rfl
 case h3=>intro b; kernel_rfl
 case h4=>exact fun a b h=>Eo a.1 b h
/- trestle/trestlelaw03.FewGuests -/
noncomputable def Me:Code:=BL Tryz.f16
def Gb (x0:(List An)) (x1:Int):Option (Bool) :=
 (if (decide ((x0.length:Int)<=x1))=true then (Am x0).bind fun v1 =>
 some (!v1) else some false).bind fun j3 =>
 some j3
def Jf:Cs ((List An)×Int×Unit):=(csC (cdL 9 AE) (csC cdI csN))
def Jk (r:Bool):AV:=cdB.enc r
theorem QN (x0:(List An)) (x1:Int) (r:Bool) (h:Gb x0 x1=some r):Sem E0 ⟨none,false⟩ Me ⟨Fr 14 (A6 0 (Jf.enc (x0,x1,()))),[]⟩ fun e s'=>(e = .normal\/e = .ret)/\∃ xs,EZ E0.P s'.fr s'.hp Tryz.f16.results.toList=some xs/\Ee xs=Jk r:=by
 unfold Gb at h;refine Ax (BY (s1:=⟨Fr 14 [(0,.sl 9 (x0.map AE.enc)),(1,.j x1)],[]⟩) AJ ?_);refine AK AC [(0,.sl 9 (x0.map AE.enc)),(1,.j x1)] [] ?_;refine AH ?_;obtain ⟨j3,hj3,h⟩:=OB h;refine AM (s1:=⟨Fr 14 [(4,.b j3)],[]⟩) ?_ ?_
 ·refine AD (n:=14) AC 1 [(0,.sl 9 (x0.map AE.enc)),(1,.j x1),(5,.sl 9 (x0.map AE.enc))] [] kr ?_
  refine AZ AC 0 rfl (DR (AB rfl) rfl (C3 (a:= .sl 9 (x0.map AE.enc)) kr (Bn (el:=42) kr))) ?_;refine AD (n:=14) AC 3 [(0,.sl 9 (x0.map AE.enc)),(9,.b (decide ((x0.length:Int)<=x1)))] [] kr ?_;rcases BE (decide ((x0.length:Int)<=x1)) with hc4 | hc4
  ·rw [if_pos hc4] at hj3
   rw [hc4];refine AD (n:=14) AC 1 [(9,.b true),(10,.sl 9 (x0.map AE.enc))] [] kr ?_;obtain ⟨v1,hv1,hj3⟩:=OB hj3;refine AS (caps:=[]) (xs:=[.sl 9 (x0.map AE.enc),.fn 57 [] []]) (u:=(x0,(),())) rfl rfl FA rfl kr kr kr (AL (AW (c:=(cdL 9 AE)) (v:=x0)) (AL (Sm.fn Ao) Ao)) (.inl kr) hv1 ?_;refine AD (n:=14) AC 3 [(4,.b (!v1))] [] kr ?_;have hq:=OI hj3; subst hq;exact AI rfl AJ
  ·rw [Bm hc4] at hj3
   rw [hc4];refine AD (n:=14) AC 5 [(4,.b false)] [] kr ?_;have hq:=OI hj3; subst hq;exact AI rfl AJ
 refine AR ?_;have hq:=OI h; subst hq;exact ⟨⟨Fr 14 [(4,.b j3)],[]⟩,AJ,.inr rfl,[.b j3],kr,kr⟩
def Rw:List AV->Option AV:=ES Jf (fun a=>Gb a.1 a.2.1) Jk
theorem R9:XOk 16 Rw:=by
 refine AU Tryz.func16 (c:=Me) ?h2 ⟨Tryz.call16⟩ Jf (fun a=>Gb a.1 a.2.1) Jk (fun a=>(by show 2<=14; decide)) ?h3 ?h4
 case h2=>kernel_rfl
 case h3=>intro b; kernel_rfl
 case h4=>exact fun a b h=>QN a.1 a.2.1 b h
/-- The first n blocks are given up. -/
def Yj:Nat->Hp->Hp
 | 0,h=>h
 | n + 1,h=>(Yj n h).set n none
theorem YA {w:World}{Z:Nat->Prop}{R:List RI}{h:Hp}(hh:HR w Z R h):∀ n,HR w Z R (Yj n h)
 | 0=>hh
 | n + 1=>((YA hh n).kill n).1
theorem Wc {h:Hp}:∀ {n b:Nat}{B:Blk},(Yj n h)[b]? = some (some B)->n<=b/\h[b]? = some (some B)
 | 0,b,B,e=>⟨Nat.zero_le _,e⟩
 | n + 1,b,B,e=>by
  unfold Yj at e
  rw [List.getElem?_set] at e
  split at e
  ·split at e <;> cases e
  ·next hne =>
   obtain ⟨h1,h2⟩:=Wc e
   exact ⟨by omega,h2⟩
def RunDX (E:Env) (ops:Array Oper) (T:Nat) (n0 k:Nat) (rest:List Oper) (s:St) (K:St->Prop):Prop :=
 ∀ (base:Bs) (Q:Act->World->Prop) (w0:World) (Z:Nat->Prop) (R0:List RI) (h0:Hp) (a:Act) (w:World) (R:List RI),HR w0 Z R0 h0->n0=h0.length->SR E base w Z R s a->w0.grownBy w none->Step w0 Z R0 h0 w Z R s.hp->(∀ (b:Nat) (B:Option Blk),h0[b]? = some B->s.hp[b]? = some B)->(∀ j,rest[j]? = ops[k + j]?) ->
  (∀ s' a' w' Z' R',K s'->SR E base w' Z' R' s' a'->StepW w0 Z R0 h0 w' Z' R' s'.hp->Q a' w')->Kf E.P ops (fun w'=>w0.grownBy w' none) (GQ ops T) T Q k rest a w
section
variable {E:Env}{cx:Cx}{ops:Array Oper}{pre rest rest':List Oper}{s s1:St}{K:St->Prop}{n n0 k T:Nat}{l:List (Nat×AV)}{hp hp':Hp}{Q:Ex->St->Prop}{id:Nat}{fid:FuncId}
theorem RunDX.done (hr:rest=[]) (kk:K s):RunDX E ops T n0 k rest s K:=by
 subst hr
 exact fun base Q w0 Z R0 h0 a w R _ _ sr hgr st _ _ q=>⟨fun _=>hgr,q s a w Z R kk sr st.w⟩
theorem RunDX.tail (hT:T=k) (h:RunS E ops rest s K):RunDX E ops T n0 k rest s K:=by
 subst hT
 intro base Q w0 Z R0 h0 a w R _ _ sr hgr st _ hops q
 exact PC (h base Q a w Z R sr fun s' a' w' Z' R' hK sr' st'=>q s' a' w' Z' R' hK sr' (st.w.trans st')) (Nat.le_refl _) (fun _=>hgr) (fun j hj=>Pb hj) hops
theorem NM (hE:EnvOk E):∀ {pre:List Oper}{s:St}{k:Nat},(pre.all fun o=>!isW o.op)=true->k + pre.length<=T->opsD E (evC E 0) ⟨none,false⟩ ops n0 pre s=some s1->RunDX E ops T n0 (k + pre.length) rest s1 K->RunDX E ops T n0 k (pre++rest) s K
 | [],s,k,_,_,e,kk=>by injection e with e; subst e; exact kk
 | o::pre,s,k,hp,hT,e,kk=>by
  intro base Q w0 Z R0 h0 a w R hh0 hn0 sr hgr st hpre hops q
  simp only [List.all_cons,Bool.and_eq_true,Bool.not_eq_true'] at hp
  obtain ⟨hW,hp⟩:=hp
  have hok:ops[k]? = some o:=by have:=hops 0; simpa using this.symm
  have hops':∀ j,(pre++rest)[j]? = ops[k + 1 + j]?:=fun j=>by have:=hops (j + 1); simpa [Nat.add_assoc,Nat.add_comm 1 j] using this
  have hk1:k + 1 + pre.length=k + (o::pre).length:=by simp; omega
  have kk':RunDX E ops T n0 (k + 1 + pre.length) rest s1 K:=by rw [hk1]; exact kk
  have hT':k + 1 + pre.length<=T:=by rw [hk1]; exact hT
  have hkT:¬ T<=k:=by omega
  show Kf E.P ops _ _ _ Q k (o::(pre++rest)) a w
  refine ⟨fun _=>hgr,?_⟩
  unfold opsD at e
  rw [if_neg (by rw [hW]; simp)] at e
  split at e
  ·cases e
  ·next hw =>
   rw [if_neg (by rw [wantedA_eq sr hw]; simp)]
   exact NM hE hp hT' e kk' base Q w0 Z R0 h0 _ w R hh0 hn0 (sr.put undef_vr) hgr st hpre hops' q
  ·next hw =>
   rw [if_pos (wantedA_eq sr hw)]
   have hρ:∀ o x,opA E s.fr o=some x->VR w Z R x (a.eval o):=fun o x e=>opA_vr sr o x e
   split at e
   ·next x hx =>
    split at e
    ·next hld =>
     have hq:=TU hx
     rw [if_neg (by rw [PB hok hq hkT]; simp)]
     obtain ⟨u,hu,hrun⟩:=evOpQ_sound sr.hh hρ hx
     have hquiet:∃ u,VR w Z R x u/\QuietAt E.P (Cf (fun w'=>w0.grownBy w' none) o) o u a:=by
      cases hl:VX o.op with
      | false=>exact ⟨u,hu,fun w' _=>hrun w' fun h=>by rw [hl] at h; cases h⟩
      | true =>
       obtain ⟨u1,hu1,hq1⟩:=Lq hh0 sr hgr st hpre hl (by rw [<-hn0]; exact hld) hx
       exact ⟨u1,hu1,hq1.up (QI hl)⟩
     obtain ⟨u,hu,hquiet⟩:=hquiet
     exact ⟨u,hquiet,NM hE hp hT' e kk' base Q w0 Z R0 h0 _ w R hh0 hn0 (sr.put hu) hgr st hpre hops' q⟩
    ·cases e
   ·split at e
    ·next x h' hx =>
     have hq:=Mu hx
     rw [if_pos (H0 hok hq)]
     obtain ⟨u,w',R',h1,h2,h3,h4,h5⟩:=evOpN_sound hρ sr.hh hx
     exact P0 h1 (NM hE hp hT' e kk' base Q w0 Z R0 h0 _ w' R' hh0 hn0 ((sr.step h2 h4).put h3) (Gg hgr h5) (st.trans h4) (fun b B hb=>NX hx (hpre b B hb)) hops' q)
    ·split at e
     ·next f args tys ho =>
      split at e
      ·next fv xs hf hxs =>
       split at e
       ·next r hr =>
        obtain ⟨x,h'⟩:=r
        have hq:isQ o.op=false:=by rw [ho]; rfl
        rw [if_pos (H0 hok hq)]
        obtain ⟨g,uf,uc,hva,hcl,hret⟩:=I4 hE (code_sound hE 0).1 (hρ _ _ hf) (opds_vr hρ hxs) sr.hh sr.gl hr
        unfold Lw
        rw [IF (uf:=uf) (uc:=uc) ho hva rfl hcl w]
        refine Ret.mono hret fun v w' hS=>?_
        obtain ⟨hg1,R',k1,k2,k3⟩:=hS
        exact NM hE hp hT' e kk' base Q w0 Z R0 h0 _ w' R' hh0 hn0 ((sr.step k1 k3).put k2) (Gg hgr hg1) (st.trans k3) (fun b B hb=>Ol hr (hpre b B hb)) hops' q
       ·cases e
      ·cases e
     ·cases e
theorem JF (hE:EnvOk E) (m:Nat){s:St}(l:List (Nat×AV)) (hp:Hp) (hw:(((rest.take m).all fun o=>!isW o.op)&&Nat.ble (k + (rest.take m).length) T)=true) (h:Vr (opsD E (evC E 0) ⟨none,false⟩ ops n0 (rest.take m) s) l=some (n,xs2 l,hp)) (kk:RunDX E ops T n0 (k + (rest.take m).length) (rest.drop m) ⟨Fr n l,hp⟩ K):RunDX E ops T n0 k rest s K:=by
 obtain ⟨fr,h1,h2,h3⟩:=KP h
 rw [Bool.and_eq_true] at hw
 have:=NM (k:=k) (T:=T) (pre:=rest.take m) (rest:=rest.drop m) hE hw.1 (Nat.le_of_ble_eq_true hw.2) h1 (fun base Q w0 Z R0 h0 a w R a1 a2 sr a5 a6 a7 a8 q=>kk base Q w0 Z R0 h0 a w R a1 a2 (sr.forget h2 h3) a5 a6 a7 a8 q)
 rwa [List.take_append_drop] at this
theorem RunDX.one (hE:EnvOk E){s s1:St}{o:Oper}(hr:rest=o::rest') (hW:(!isW o.op&&Nat.blt k T)=true) (h:opsD E (evC E 0) ⟨none,false⟩ ops n0 [o] s=some s1) (kk:RunDX E ops T n0 (k + 1) rest' s1 K):RunDX E ops T n0 k rest s K:=by
 subst hr
 rw [Bool.and_eq_true] at hW
 exact NM (k:=k) hE (pre:=[o]) (by simpa using hW.1) (by have:=Nat.le_of_ble_eq_true hW.2; simpa using this) h kk
/-- An append to a block that was made in this region. -/
theorem RunDX.append (_hE:EnvOk E){o:Oper}{x:AV}{d:Nat}{hM:Hp}(hr:rest=o::rest') (hw:DS ops (Fr n l) o=some true) (hd:o.dst=some d) (hq:isQ o.op=false) (h:SQ E.P (opA E (Fr n l)) hp o.op=some (x,hp')) (hm:SQ E.P (opA E (Fr n l)) (Yj n0 hp) o.op=some (x,hM)) (hpr:hp'.take n0=hp.take n0) (kk:RunDX E ops T n0 (k + 1) rest' ⟨Fr n ((d,x)::l),hp'⟩ K):RunDX E ops T n0 k rest ⟨Fr n l,hp⟩ K:=by
 subst hr
 intro base Q w0 Z R0 h0 a w R hh0 hn0 sr hgr st hpre hops q
 have hok':ops[k]? = some o:=by have:=hops 0; simpa using this.symm
 have hops':∀ j,rest'[j]? = ops[k + 1 + j]?:=fun j=>by have:=hops (j + 1); simpa [Nat.add_assoc,Nat.add_comm 1 j] using this
 refine ⟨fun _=>hgr,?_⟩
 rw [if_pos (wantedA_eq sr hw),if_pos (H0 hok' hq)]
 have hρ:∀ o x,opA E (Fr n l) o=some x->VR w Z R x (a.eval o):=fun o x e=>opA_vr sr o x e
 obtain ⟨u,w',R',h1,h2,h3,h4⟩:=evOpW_sound (o:=o) hρ sr.hh h
 obtain ⟨u2,w2,R2,g1,g2,g3,g4⟩:=evOpW_sound (o:=o) hρ (YA sr.hh n0) hm
 rw [h1] at g1
 injection g1 with _ e2
 subst e2
 -- the blocks of before stay
 have hown:∀ c,own R (Yj n0 hp) c->w0.heap.size<=c:=fun c ⟨b,B,r,k1,k2,k3,k4⟩=>by
  obtain ⟨hb,k1⟩:=Wc k1
  rcases st.own_ c ⟨b,B,r,k1,k2,k3,k4⟩ with ⟨b0,B0,r0,q1,q2,q3,q4⟩ | h
  ·have hlt:b0 < h0.length:=(List.getElem?_eq_some_iff.1 q1).1
   have:=sr.hh.inj b b0 B B0 r r0 k1 k2 (hpre b0 _ q1) q2 k3 (st.r b0 r0 q3) (by rw [k4,q4])
   omega
  ·exact h
 have hgr2:w0.grownBy w' none:=⟨g4.os.trans hgr.os,g4.tape.trans hgr.tape,g4.output.trans hgr.output,Nat.le_trans hgr.size g4.size,fun c hc _=>by
  rw [g4.block c (Nat.lt_of_lt_of_le hc hgr.size) fun ho=>by have:=hown c ho; omega]
  exact hgr.block c hc (by simp)⟩
 refine P0 h1 ?_
 have sr':=(sr.step h2 h4).put (d:=o.dst) h3
 rw [hd,show P1 (⟨Fr n l,hp⟩:St).fr (some d) x=Fr n ((d,x)::l) from FY n l d _] at sr'
 rw [hd]
 exact kk base Q w0 Z R0 h0 _ w' R' hh0 hn0 sr' hgr2 (st.trans h4) (fun b B hb=>by
  have hlt:b < n0:=by rw [hn0]; exact (List.getElem?_eq_some_iff.1 hb).1
  have e:=congrArg (fun l=>l[b]?) hpr
  simp only [List.getElem?_take,hlt,if_true] at e
  show hp'[b]? = _
  rw [e]; exact hpre b B hb) hops' q
end
section
variable {P:Program}{ops:Array Oper}{C:World->Prop}{Q:Act->World->Prop}{loud:Nat->Bool}{T:Nat}
/-- What a quiet operation yields may come ahead of a loud one. -/
theorem TZ {n i j fuel:Nat}{oi oj:Oper}{v:Value}{listed:Array Bool}{a:Act}{w:World}(ht:N7 ops loud T n) (hi:ops[i]? = some oi) (hoj:ops[j]? = some oj) (hsel:∀ (j:Nat) (o:Oper) cs b,ops[j]? = some o->o.op≠ .select cs b) (hcl:Closed ops listed) (hsz:listed.size=ops.size)
  (ap1:∀ d,oi.dst=some d->d ∉ oj.looksAt ops) (ap2:∀ d,oi.dst=some d->oj.dst≠some d) (ap3:∀ d,oj.dst=some d->d ∉ oi.looksAt ops) (hr:i ∈ Region.ready .any ops listed) (hj:j ∈ Region.ready .any ops listed) (hji:j≠i) (hlj:loud j=false) (hya:YieldsM P ops C oj v a)
  (H:mOp P ops C loud i (wpM P ops C loud T Q (fuel + 1) (listed.setIfInBounds i true)) a w):mOp P ops C loud i (wpM P ops C loud T Q fuel ((listed.setIfInBounds j true).setIfInBounds i true)) (a.put oj.dst v) w:=by
 have ap2':∀ d,oj.dst=some d->oi.dst≠some d:=fun d hd hd'=>ap2 d hd' hd
 rw [XX hi ap3 ap2' (fun cs b=>hsel i oi cs b hi)]
 have hG:∀ u,YieldsM P ops C oj v (a.put oi.dst u):=fun u=>hya.same (execOp_put oj (fun cs b=>hsel j oj cs b hoj) a oi.dst u ap1) (wanted_put oj a oi.dst u ap1)
 have hr2:=ready_mono (md:= .any) (ops:=ops) hj hji
 refine Jp (fun a' w'' h2=>?_) (XW hi hG H)
 obtain ⟨v',hy',h3⟩:=FW hoj hlj (h2.2.2.2 j hr2)
 rw [Pt (ABy ht (hcl.set hr) (by simpa using hsz) hoj hlj (mem_ready.1 hr2).1 h2.2.c) h2.1 hy',Array.setIfInBounds_comm _ _ hji]
 exact h3
/-- Two loud operations that may come up now: one of them is the first loud one, if every other stands behind the one. -/
theorem AAG {n i i2:Nat}{oi oi2:Oper}(ht:N7 ops loud T n) (hi:ops[i]? = some oi) (hi2:ops[i2]? = some oi2) (hsel:∀ (j:Nat) (o:Oper) cs b,ops[j]? = some o->o.op≠ .select cs b) :
  ∀ (fuel:Nat) (listed:Array Bool) (a:Act) (w:World),(∀ j,j < ops.size->j≠i->j≠i2->loud j=true->listed.getD j true=false->JL ops n j i=true)->Closed ops listed->listed.size=ops.size->(WB ops loud T listed->C w) ->
   (∀ j oj,ops[j]? = some oj->j≠i->listed.getD j true=false->(∀ e ∈ oj.after,Region.binds .any e=true->e.on≠i)->oi.apart ops oj=true) ->
   (∀ j oj,ops[j]? = some oj->j≠i2->listed.getD j true=false->(∀ e ∈ oj.after,Region.binds .any e=true->e.on≠i2)->oi2.apart ops oj=true) ->
   i ∈ Region.ready .any ops listed->i2 ∈ Region.ready .any ops listed ->
   mOp P ops C loud i (wpM P ops C loud T Q fuel (listed.setIfInBounds i true)) a w->mOp P ops C loud i2 (wpM P ops C loud T Q fuel (listed.setIfInBounds i2 true)) a w->wpM P ops C loud T Q (fuel + 1) listed a w:=by
 intro fuel
 induction fuel with
 | zero =>
  intro listed a w _ _ _ hC _ _ hr _ H H2
  refine ⟨hC,fun h=>(by rw [h] at hr; cases hr),fun j hj=>?_⟩
  by_cases hji:j=i
  ·subst hji; exact H
  ·obtain ⟨u,w',h1⟩:=MQ hi H
   have:=ready_mono hj hji
   rw [h1.2.1] at this
   cases this
 | succ fuel ih =>
  intro listed a w hT hcl hsz hC hfree hfree2 hr hr2 H H2
  refine ⟨hC,fun h=>(by rw [h] at hr; cases hr),fun j hj=>?_⟩
  by_cases hji:j=i
  ·subst hji; exact H
  by_cases hji2:j=i2
  ·subst hji2; exact H2
  obtain ⟨hjun,oj,hoj,hall⟩:=mem_ready.1 hj
  have notl:∀ {x:Nat} {ox:Oper},ops[x]? = some ox->x ∈ Region.ready .any ops listed->¬ listed.getD x false=true:=fun {x ox} hx hxr h1=>by
   have hun:=(mem_ready.1 hxr).1
   have hlt:x < ops.size:=(Array.getElem?_eq_some_iff.1 hx).1
   have h':x < listed.size:=by omega
   simp [h'] at hun h1; rw [hun] at h1; cases h1
  have hnl:=notl hi hr
  have hnl2:=notl hi2 hr2
  have hnot:∀ e ∈ oj.after,Region.binds .any e=true->e.on≠i:=fun e he hb heq=>hnl (by rw [<-heq]; exact hall e he hb)
  have hnot2:∀ e ∈ oj.after,Region.binds .any e=true->e.on≠i2:=fun e he hb heq=>hnl2 (by rw [<-heq]; exact hall e he hb)
  have hjlt:j < ops.size:=(Array.getElem?_eq_some_iff.1 hoj).1
  have hlj:loud j=false:=by
   cases hlj:loud j with
   | false=>rfl
   | true =>
    exact absurd (MW hcl n j i (hT j hjlt hji hji2 hlj hjun) fun o ho e he hb=>by rw [hoj] at ho; injection ho with ho; subst ho; exact hall e he hb) hnl
  obtain ⟨ap1,ap2,ap3⟩:=Oper.apart_spec (hfree j oj hoj hji hjun hnot)
  obtain ⟨bp1,bp2,bp3⟩:=Oper.apart_spec (hfree2 j oj hoj hji2 hjun hnot2)
  have hun':∀ k,(listed.setIfInBounds j true).getD k true=false->listed.getD k true=false:=fun k hun=>by
   by_cases hjk:j=k
   ·subst hjk; exact hjun
   ·rw [getD_set_ne true hjk] at hun; exact hun
  have hCw:WB ops loud T (listed.setIfInBounds j true)->C w:=fun hn=>hC fun k hTk hk hlk=>hun' k (hn k hTk hk hlk)
  obtain ⟨u,w',h1⟩:=MQ hi H
  obtain ⟨v,hy,_⟩:=FW hoj hlj (h1.2.2 j (ready_mono hj hji))
  have hya:YieldsM P ops C oj v a:=hy.same (execOp_put oj (fun cs b=>hsel j oj cs b hoj) _ oi.dst u ap1).symm (wanted_put oj _ oi.dst u ap1).symm
  refine hya.mOp hoj hlj ?_
  exact ih (listed.setIfInBounds j true) (a.put oj.dst v) w (fun k hk h1 h2 h3 h4=>hT k hk h1 h2 h3 (hun' k h4)) (hcl.set hj) (by simpa using hsz) hCw (fun k ok hk h1 h2 h3=>hfree k ok hk h1 (hun' k h2) h3) (fun k ok hk h1 h2 h3=>hfree2 k ok hk h1 (hun' k h2) h3) (ready_mono hr (Ne.symm hji)) (ready_mono hr2 (Ne.symm hji2))
   (TZ ht hi hoj hsel hcl hsz ap1 ap2 ap3 hr hj hji hlj hya H) (TZ ht hi2 hoj hsel hcl hsz bp1 bp2 bp3 hr2 hj hji2 hlj hya H2)
/-- As wpM_lex, from an operation on behind which the loud ones stand in one order. -/
theorem TA (hs:Region.noSelect ops=true){n k0:Nat}(hsp:∀ k j,k0<=k->k < ops.size->j < ops.size->loud k=true->loud j=true->k < j->JL ops n j k=true) (htl:N7 ops loud T n) (hTl:T < ops.size->loud T=true):∀ (l:List Oper) (k:Nat) (listed:Array Bool) (a:Act) (w:World),k0<=k->k + l.length=ops.size->(∀ j,l[j]? = ops[k + j]?) ->
  Region.lexFrom .any ops l.length k listed=true->Closed ops listed->listed.size=ops.size->(∀ j,j < k->listed.getD j true=true)->Kf P ops C loud T Q k l a w->wpM P ops C loud T Q l.length listed a w
 | [],k,listed,a,w,_,hkl,_,hB,_,_,hlt,h=>by
  refine ⟨fun hn=>h.1 ?_,by simpa [Region.lexFrom] using hB,h.2⟩
  rcases Nat.lt_or_ge T k with h1 | h1
  ·exfalso
   have hTs:T < ops.size:=by simp at hkl; omega
   have h2:=hn T (Nat.le_refl _) hTs (hTl hTs)
   rw [hlt T h1] at h2
   cases h2
  ·exact h1
 | o::l,k,listed,a,w,hk0,hkl,hl,hB,hcl,hsz,hlt,h=>by
  have h0:ops[k]? = some o:=by simpa using (hl 0).symm
  have hk:k < ops.size:=(Array.getElem?_eq_some_iff.1 h0).1
  simp only [List.length_cons,Region.lexFrom,Bool.and_eq_true] at hB
  obtain ⟨⟨hr,hf⟩,hB'⟩:=hB
  have hr':k ∈ Region.ready .any ops listed:=by simpa using hr
  have rec_:∀ a w,Kf P ops C loud T Q (k + 1) l a w->wpM P ops C loud T Q l.length (listed.setIfInBounds k true) a w:=fun a w hh =>
   TA hs hsp htl hTl l (k + 1) _ a w (by omega) (by simp at hkl; omega) (fun j=>by have:=hl (j + 1); simpa [Nat.add_assoc,Nat.add_comm 1 j] using this) hB' (hcl.set hr') (by simpa using hsz) (fun j hj=>by
    by_cases hjk:k=j
    ·subst hjk
     have hlt':k < listed.size:=by omega
     simp [hlt']
    ·rw [getD_set_ne true hjk]; exact hlt j (by omega)) hh
  obtain ⟨hC,hh⟩:=h
  have hle:WB ops loud T listed->k<=T:=fun hn=>by
   rcases Nat.lt_or_ge T k with h1 | h1
   ·exfalso
    have h2:=hn T (Nat.le_refl _) (by omega) (hTl (by omega))
    rw [hlt T h1] at h2
    cases h2
   ·exact h1
  have hst:mOp P ops C loud k (Kf P ops C loud T Q (k + 1) l) a w:=by
   unfold mOp
   rw [h0]
   exact hh
  cases hlk:loud k with
  | false =>
   obtain ⟨v,hy,hK⟩:=FW h0 hlk hst
   exact Nd h0 hlk (Region.noSelect_spec hs) l.length listed a w (fun hn=>hC (hle hn)) hcl hsz (Region.free_spec h0 hf) hr' hy (rec_ _ _ hK)
  | true =>
   refine RB (n:=n) htl h0 (Region.noSelect_spec hs) l.length listed a w (fun j hj hjk hlj hun=>?_) hcl hsz (fun hn=>hC (hle hn)) (Region.free_spec h0 hf) hr' (Jp rec_ hst)
   ·have hkj:k < j:=by
     rcases Nat.lt_trichotomy k j with h1 | h1 | h1
     ·exact h1
     ·exact absurd h1.symm hjk
     ·rw [hlt j h1] at hun; cases hun
    exact hsp k j hk0 hk hj hlk hlj hkj
/-- The walk, of which p and the operation behind it are taken in both orders. -/
def AEd (P:Program) (ops:Array Oper) (C:World->Prop) (loud:Nat->Bool) (T:Nat) (Q:Act->World->Prop) (p:Nat) (rest:List Oper) (a:Act) (w:World):Prop :=
 C w/\mOp P ops C loud p (fun a w=>C w/\mOp P ops C loud (p + 1) (Kf P ops C loud T Q (p + 2) rest) a w) a w/\mOp P ops C loud (p + 1) (fun a w=>C w/\mOp P ops C loud p (Kf P ops C loud T Q (p + 2) rest) a w) a w
def RC (P:Program) (ops:Array Oper) (C:World->Prop) (loud:Nat->Bool) (T:Nat) (Q:Act->World->Prop) (p:Nat):Nat->List Oper->Act->World->Prop
 | _,[],_,_=>False
 | k,_::rest,a,w=>if k=p then AEd P ops C loud T Q p (rest.drop 1) a w else (k<=T->C w)/\mOp P ops C loud k (RC P ops C loud T Q p (k + 1) rest) a w
/-- One of two operations is this pair. -/
def AA2 (ops:Array Oper) (loud:Nat->Bool) (T p:Nat):Bool :=
 ((List.range ops.size).all fun k=>!loud k||(List.range ops.size).all fun j=>!(decide (k < j)&&loud j)||(k==p&&j==p + 1)||JL ops ops.size j k) &&
 ((List.range ops.size).all fun j=>!decide (T<=j)||(if loud j then (List.range ops.size).all fun i=>loud i||It ops i||JL ops ops.size j i else It ops j&&decide (j≠T))) &&
 (decide (p + 2<=T)&&loud p&&loud (p + 1)&&match ops[p]?,ops[p + 1]? with
  | some o,some o2=>o2.apart ops o&&o2.after.all fun e=>!Region.binds .any e||e.on != p
  | _,_=>false)
structure ABO (ops:Array Oper) (loud:Nat->Bool) (T p:Nat):Prop where
 sp:∀ k j,k < ops.size->j < ops.size->loud k=true->loud j=true->k < j->(k=p/\j=p + 1)\/JL ops ops.size j k=true
 tl:N7 ops loud T ops.size
 tT:T < ops.size->loud T=true
 le:p + 2<=T
 l1:loud p=true
 l2:loud (p + 1)=true
 ap:∀ o o2,ops[p]? = some o->ops[p + 1]? = some o2->o2.apart ops o=true/\∀ e ∈ o2.after,Region.binds .any e=true->e.on≠p
theorem Yn {p:Nat}(h:AA2 ops loud T p=true):ABO ops loud T p:=by
 unfold AA2 at h
 simp only [Bool.and_eq_true] at h
 obtain ⟨⟨h1,h2⟩,⟨⟨h3,h4⟩,h5⟩,h6⟩:=h
 have htl:∀ j,T<=j->j < ops.size->(if loud j=true then (List.range ops.size).all (fun i=>loud i||It ops i||JL ops ops.size j i)=true else (It ops j&&decide (j≠T))=true):=fun j hTj hj=>by
  have:=List.all_eq_true.1 h2 j (by simpa using hj)
  simp only [hTj,decide_true,Bool.not_true,Bool.false_or] at this
  split
  ·next hl=>rw [if_pos hl] at this; exact this
  ·next hl=>rw [if_neg hl] at this; exact this
 refine ⟨fun k j hk hj hlk hlj hkj=>?_,fun j hTj hj hlj i hi hli hfr=>?_,fun hT=>?_,of_decide_eq_true h3,h4,h5,fun o o2 ho ho2=>?_⟩
 ·have a1:=List.all_eq_true.1 h1 k (by simpa using hk)
  simp only [hlk,Bool.not_true,Bool.false_or] at a1
  have a2:=List.all_eq_true.1 a1 j (by simpa using hj)
  simp only [hkj,hlj,decide_true,Bool.and_self,Bool.not_true,Bool.false_or,Bool.or_eq_true,Bool.and_eq_true,beq_iff_eq] at a2
  exact a2
 ·have a1:=htl j hTj hj
  rw [if_pos hlj] at a1
  have a2:=List.all_eq_true.1 a1 i (by simpa using hi)
  simpa [hli,hfr] using a2
 ·cases hl:loud T with
  | true=>rfl
  | false =>
   have a1:=htl T (Nat.le_refl _) hT
   rw [if_neg (by rw [hl]; simp)] at a1
   simp at a1
 ·rw [ho,ho2] at h6
  simp only [Bool.and_eq_true,Array.all_eq_true_iff_forall_mem] at h6
  refine ⟨h6.1,fun e he hb=>?_⟩
  have:=h6.2 e he
  simpa [hb] using this
theorem YQ (hs : Region.noSelect ops = true) {p : Nat} (hp : ABO ops loud T p) : ∀ (l : List Oper) (k : Nat) (listed : Array Bool) (a : Act) (w : World), k ≤ p → k + l.length = ops.size → (∀ j, l[j]? = ops[k + j]?) →
    Region.lexFrom .any ops l.length k listed = true → Closed ops listed → listed.size = ops.size → (∀ j, j < k → listed.getD j true = true) → RC P ops C loud T Q p k l a w → wpM P ops C loud T Q l.length listed a w
  | [], _, _, _, _, _, _, _, _, _, _, _, h => h.elim
  | o :: l, k, listed, a, w, hkp, hkl, hl, hB, hcl, hsz, hlt, h => by
    have h0 : ops[k]? = some o := by simpa using (hl 0).symm
    have hk : k < ops.size := (Array.getElem?_eq_some_iff.1 h0).1
    simp only [List.length_cons, Region.lexFrom, Bool.and_eq_true] at hB
    obtain ⟨⟨hr, hf⟩, hB'⟩ := hB
    have hr' : k ∈ Region.ready .any ops listed := by simpa using hr
    have hsz' : (listed.setIfInBounds k true).size = ops.size := by simpa using hsz
    have hlt2 : ∀ {q : Nat} {ls : Array Bool}, q < ls.size → (∀ j, j < q → ls.getD j true = true) → ∀ j, j < q + 1 → (ls.setIfInBounds q true).getD j true = true := fun {q ls} hq hh j hj => by
      by_cases hjk : q = j
      · subst hjk; simp [hq]
      · rw [getD_set_ne true hjk]; exact hh j (by omega)
    have hlt' := hlt2 (ls := listed) (by omega) hlt
    have hnext : ∀ j, l[j]? = ops[k + 1 + j]? := fun j => by have := hl (j + 1); simpa [Nat.add_assoc, Nat.add_comm 1 j] using this
    unfold RC at h
    by_cases hkpe : k = p
    · subst hkpe
      rw [if_pos rfl] at h
      obtain ⟨hC, hA, hB2⟩ := h
      -- the second operation
      match l, hkl, hnext, hB' with
      | [], hkl, _, _ => have := hp.le; have h1 : ops.size ≤ k + 1 := by simp at hkl; omega
                         exact absurd hp.l2 (by
                           have hTl := hp.tT
                           intro hl2
                           rcases MQ h0 hA with ⟨u, w', _, h3⟩
                           unfold mOp at h3
                           rw [Array.getElem?_eq_none (by omega)] at h3
                           exact h3)
      | o2 :: l2, hkl, hnext, hB' =>
        have h02 : ops[k + 1]? = some o2 := by simpa using (hnext 0).symm
        have hk2 : k + 1 < ops.size := (Array.getElem?_eq_some_iff.1 h02).1
        simp only [List.length_cons, Region.lexFrom, Bool.and_eq_true] at hB'
        obtain ⟨⟨hr2, hf2⟩, hB2'⟩ := hB'
        have hr2' : k + 1 ∈ Region.ready .any ops (listed.setIfInBounds k true) := by simpa using hr2
        obtain ⟨hap, hno⟩ := hp.ap o o2 h0 h02
        have hne : k ≠ k + 1 := by omega
        -- ready already ahead of the first
        have hr20 : k + 1 ∈ Region.ready .any ops listed := by
          obtain ⟨q1, oq, q2, q3⟩ := mem_ready.1 hr2'
          rw [h02] at q2
          injection q2 with q2
          subst q2
          refine mem_ready.2 ⟨by rw [getD_set_ne true hne] at q1; exact q1, o2, h02, fun e he hb => ?_⟩
          have := q3 e he hb
          rwa [getD_set_ne false (Ne.symm (hno e he hb))] at this
        have hfr1 := Region.free_spec h0 hf
        have hfr2 : ∀ j oj, ops[j]? = some oj → j ≠ k + 1 → listed.getD j true = false → (∀ e ∈ oj.after, Region.binds .any e = true → e.on ≠ k + 1) → o2.apart ops oj = true := fun j oj hj h1 h2 h3 => by
          by_cases hjk : j = k
          · subst hjk
            rw [h0] at hj
            injection hj with hj
            subst hj
            exact hap
          · exact Region.free_spec h02 hf2 j oj hj h1 (by rw [getD_set_ne true (Ne.symm hjk)]; exact h2) h3
        have hge : ∀ j, listed.getD j true = false → j ≠ k → j ≠ k + 1 → k + 1 < j := fun j hun h1 h2 => by
          rcases Nat.lt_or_ge j k with h | h
          · rw [hlt j h] at hun; cases hun
          · omega
        have hwait : ∀ j, j < ops.size → j ≠ k → j ≠ k + 1 → loud j = true → listed.getD j true = false → JL ops ops.size j k = true ∧ JL ops ops.size j (k + 1) = true := fun j hj h1 h2 h3 h4 => by
          have := hge j h4 h1 h2
          refine ⟨(hp.sp k j hk hj hp.l1 h3 (by omega)).resolve_left fun h => by omega, (hp.sp (k + 1) j hk2 hj hp.l2 h3 this).resolve_left fun h => by omega⟩
        have tail : ∀ a w, Kf P ops C loud T Q (k + 2) l2 a w → wpM P ops C loud T Q l2.length ((listed.setIfInBounds k true).setIfInBounds (k + 1) true) a w := fun a w hh =>
          TA hs (n := ops.size) (k0 := k + 2) (fun x j h1 h2 h3 h4 h5 h6 => (hp.sp x j h2 h3 h4 h5 h6).resolve_left fun h => by omega) hp.tl hp.tT l2 (k + 2) _ a w (Nat.le_refl _) (by simp at hkl; omega) (fun j => by rw [show k + 2 + j = k + 1 + (j + 1) by omega]; simpa using hnext (j + 1)) hB2' ((hcl.set hr').set hr2') (by simpa using hsz) (hlt2 (ls := listed.setIfInBounds k true) (by omega) hlt') hh
        refine AAG (n := ops.size) hp.tl h0 h02 (Region.noSelect_spec hs) (l2.length + 1) listed a w (fun j hj h1 h2 h3 h4 => (hwait j hj h1 h2 h3 h4).1) hcl hsz (fun _ => hC) hfr1 hfr2 hr' hr20 (Jp (fun a' w' hh => ?_) hA) (Jp (fun a' w' hh => ?_) hB2)
        · have hun' : ∀ j, (listed.setIfInBounds k true).getD j true = false → listed.getD j true = false ∧ j ≠ k := fun j hun => by
            by_cases hjk : k = j
            · subst hjk
              have : k < listed.size := by omega
              simp [this] at hun
            · rw [getD_set_ne true hjk] at hun; exact ⟨hun, Ne.symm hjk⟩
          exact RB (n := ops.size) hp.tl h02 (Region.noSelect_spec hs) l2.length (listed.setIfInBounds k true) a' w' (fun j hj h1 h2 h3 => (hwait j hj (hun' j h3).2 h1 h2 (hun' j h3).1).2) (hcl.set hr') hsz' (fun _ => hh.1) (Region.free_spec h02 hf2) hr2' (Jp tail hh.2)
        · have hun' : ∀ j, (listed.setIfInBounds (k + 1) true).getD j true = false → listed.getD j true = false ∧ j ≠ k + 1 := fun j hun => by
            by_cases hjk : k + 1 = j
            · subst hjk
              have : k + 1 < listed.size := by omega
              simp [this] at hun
            · rw [getD_set_ne true hjk] at hun; exact ⟨hun, Ne.symm hjk⟩
          refine RB (n := ops.size) hp.tl h0 (Region.noSelect_spec hs) l2.length (listed.setIfInBounds (k + 1) true) a' w' (fun j hj h1 h2 h3 => (hwait j hj h1 (hun' j h3).2 h2 (hun' j h3).1).1) (hcl.set hr20) (by simpa using hsz) (fun _ => hh.1) (fun j oj hj h1 h2 h3 => hfr1 j oj hj h1 (hun' j h2).1 h3) (ready_mono hr' hne) (Jp (fun a2 w2 h2 => ?_) hh.2)
          have := tail a2 w2 h2
          rwa [Array.setIfInBounds_comm _ _ hne] at this
    · rw [if_neg hkpe] at h
      obtain ⟨hC, hst⟩ := h
      have hkp' : k < p := by omega
      have rec_ : ∀ a w, RC P ops C loud T Q p (k + 1) l a w → wpM P ops C loud T Q l.length (listed.setIfInBounds k true) a w := fun a w hh =>
        YQ hs hp l (k + 1) _ a w (by omega) (by simp at hkl; omega) hnext hB' (hcl.set hr') hsz' hlt' hh
      have hle : WB ops loud T listed → k ≤ T := fun _ => by have := hp.le; omega
      cases hlk : loud k with
      | false =>
        obtain ⟨v, hy, hK⟩ := FW h0 hlk hst
        exact Nd h0 hlk (Region.noSelect_spec hs) l.length listed a w (fun hn => hC (hle hn)) hcl hsz (Region.free_spec h0 hf) hr' hy (rec_ _ _ hK)
      | true =>
        refine RB (n := ops.size) hp.tl h0 (Region.noSelect_spec hs) l.length listed a w (fun j hj hjk hlj hun => ?_) hcl hsz (fun hn => hC (hle hn)) (Region.free_spec h0 hf) hr' (Jp rec_ hst)
        have hkj : k < j := by
          rcases Nat.lt_trichotomy k j with h1 | h1 | h1
          · exact h1
          · exact absurd h1.symm hjk
          · rw [hlt j h1] at hun; cases hun
        exact (hp.sp k j hk hj hlk hlj hkj).resolve_left fun h => hkpe h.1
theorem Um {id p:Nat}{Q':Exit->Act->World->Prop}{a:Act}{w:World}{l:List Oper}(ro:Option Nat) (m:Nat) (hm:P.follows .mixedOrders=true) (hB:Region.lexB .any l.toArray=true) (hb:AA2 l.toArray loud T p=true)
  (h:RC P l.toArray C loud T (fun a w=>Q' .normal a w) p 0 l a w.drew):(Code.region id l.toArray true).wpIn (Fw ro) m P Q' a w:=by
 simp only [Region.lexB,Bool.and_eq_true] at hB
 have hp:=Yn hb
 have hcl:Closed l.toArray (Array.replicate l.toArray.size false):=fun k o hk hlis=>by
  rw [getD_replicate_false] at hlis; cases hlis
 refine wpIn_region_any hm (PR (C:=C) (loud:=loud) (T:=T) (n:=l.toArray.size) (Q:=fun a w=>Q' .normal a w) ro m hp.tl (fun _ _ h=>h) _ _ _ _ hcl (by simp) ?_)
 have:=YQ (P:=P) (C:=C) (loud:=loud) (T:=T) (Q:=fun a w=>Q' .normal a w) (ops:=l.toArray) hB.1 hp l 0 (Array.replicate l.toArray.size false) a w.drew (Nat.zero_le _) (by simp) (by simp) (by simpa using hB.2) hcl (by simp) (fun j hj=>by omega) h
 simpa using this
end
/-- One operation of such a region, whatever stands behind it. -/
def Op1 (E:Env) (ops:Array Oper) (T n0 k:Nat) (o:Oper) (s:St) (Ks:St->Prop):Prop :=
 ∀ (base:Bs) (K:Act->World->Prop) (w0:World) (Z:Nat->Prop) (R0:List RI) (h0:Hp) (a:Act) (w:World) (R:List RI),HR w0 Z R0 h0->n0=h0.length->SR E base w Z R s a->w0.grownBy w none->Step w0 Z R0 h0 w Z R s.hp->(∀ (b:Nat) (B:Option Blk),h0[b]? = some B->s.hp[b]? = some B)->ops[k]? = some o ->
  (∀ s' a' w' R',Ks s'->SR E base w' Z R' s' a'->w0.grownBy w' none->Step w0 Z R0 h0 w' Z R' s'.hp->(∀ (b:Nat) (B:Option Blk),h0[b]? = some B->s'.hp[b]? = some B)->K a' w')->mOp E.P ops (fun w'=>w0.grownBy w' none) (GQ ops T) k K a w
def RunDP (E:Env) (ops:Array Oper) (T p n0 k:Nat) (rest:List Oper) (s:St) (K:St->Prop):Prop :=
 ∀ (base:Bs) (Q:Act->World->Prop) (w0:World) (Z:Nat->Prop) (R0:List RI) (h0:Hp) (a:Act) (w:World) (R:List RI),HR w0 Z R0 h0->n0=h0.length->SR E base w Z R s a->w0.grownBy w none->Step w0 Z R0 h0 w Z R s.hp->(∀ (b:Nat) (B:Option Blk),h0[b]? = some B->s.hp[b]? = some B)->(∀ j,rest[j]? = ops[k + j]?) ->
  (∀ s' a' w' Z' R',K s'->SR E base w' Z' R' s' a'->StepW w0 Z R0 h0 w' Z' R' s'.hp->Q a' w')->RC E.P ops (fun w'=>w0.grownBy w' none) (GQ ops T) T Q p k rest a w
section
variable {E:Env}{cx:Cx}{ops:Array Oper}{pre rest rest':List Oper}{s s1:St}{K Ks:St->Prop}{n n0 k T p:Nat}{l:List (Nat×AV)}{hp hp':Hp}{Q:Ex->St->Prop}{id:Nat}{fid:FuncId}{o:Oper}
theorem Y3 (hE:EnvOk E) (T p:Nat) (hB:Region.lexB .any ops=true) (hb:AA2 ops (GQ ops T) T p=true) (h:RunDP E ops T p s.hp.length 0 ops.toList s fun s'=>Wk E s' s1) (q:Q .normal s1):Sem E cx (.region id ops true) s Q:=by
 intro ro base Qm a w Z R _ sr _ kk
 have hgd:w.grownBy w.drew none:=VO w
 have hops:ops.toList.toArray=ops:=by simp
 have st0:Step w Z R s.hp w.drew Z R s.hp:=⟨rfl,rfl,rfl,Nat.le_refl _,fun c hc _=>rfl,fun _ h=> .inl h,fun _ h=>h,fun _ h=> .inl h,fun _ _ h=>h⟩
 have hsrd:SR E base w.drew Z R s a:=⟨sr.hh.keep (Nat.le_refl _) (fun c hc=>hgd.block c hc (by simp)),sr.fr.off (fun c hc=>rfl),sr.mks.step st0,sr.gl.off (fun c hc=>rfl),sr.bs⟩
 have hm:=h base (fun a w=>Qm .normal a w) w.drew Z R s.hp a w.drew R hsrd.hh rfl hsrd (Rn _) (Step.refl _ _ _ _) (fun b B hb=>hb) (fun j=>by simp) (fun s' a' w' Z' R' hw sr' st=>by
  obtain ⟨Z2,R2,sr2,st2⟩:=hw base w' Z' R' a' sr'
  exact kk .normal s1 a' w' Z2 R2 q sr2 ((st0.w.trans st).trans st2))
 have:=Um (P:=E.P) (id:=id) (l:=ops.toList) (a:=a) (w:=w) (C:=fun w'=>w.drew.grownBy w' none) (loud:=GQ ops T) (T:=T) (p:=p) (Q':=Qm) ro 0 hE.mixed (by rw [hops]; exact hB) (by rw [hops]; exact hb) (by rw [hops]; exact hm)
 rw [hops] at this
 exact this
theorem Zp (hW:isW o.op=false) (e:opsD E (evC E 0) ⟨none,false⟩ ops n0 (o::pre) s=some s1):∃ s2,opsD E (evC E 0) ⟨none,false⟩ ops n0 [o] s=some s2/\opsD E (evC E 0) ⟨none,false⟩ ops n0 pre s2=some s1:=by
 have hW':¬ isW o.op=true:=by rw [hW]; simp
 unfold opsD at e
 rw [if_neg hW'] at e
 split at e
 ·cases e
 ·next hw=>exact ⟨_,by unfold opsD; rw [if_neg hW']; simp only [hw]; rfl,e⟩
 ·next hw =>
  split at e
  ·next x hx =>
   split at e
   ·next hld=>exact ⟨_,by unfold opsD; rw [if_neg hW']; simp only [hw,hx,hld,if_true]; rfl,e⟩
   ·cases e
  ·next hx =>
   split at e
   ·next x h' hn=>exact ⟨_,by unfold opsD; rw [if_neg hW']; simp only [hw,hx,hn]; rfl,e⟩
   ·next hn =>
    split at e
    ·next f args tys ho =>
     split at e
     ·next fv xs hf hxs =>
      split at e
      ·next r hr=>exact ⟨_,by unfold opsD; rw [if_neg hW']; simp only [hw,hx,hn,ho,hf,hxs,hr]; rfl,e⟩
      ·cases e
     ·cases e
    ·cases e
theorem Op1.d (hE:EnvOk E) (hW:isW o.op=false) (hk:k < T) (e:opsD E (evC E 0) ⟨none,false⟩ ops n0 [o] s=some s1) (kk:Ks s1):Op1 E ops T n0 k o s Ks:=by
 intro base K w0 Z R0 h0 a w R hh0 hn0 sr hgr st hpre hok q
 have hkT:¬ T<=k:=by omega
 unfold mOp
 rw [hok]
 dsimp only
 unfold opsD at e
 rw [if_neg (by rw [hW]; simp)] at e
 split at e
 ·cases e
 ·next hw =>
  rw [if_neg (by rw [wantedA_eq sr hw]; simp)]
  injection e with e
  subst e
  exact q _ _ w R kk (sr.put undef_vr) hgr st hpre
 ·next hw =>
  rw [if_pos (wantedA_eq sr hw)]
  have hρ:∀ o x,opA E s.fr o=some x->VR w Z R x (a.eval o):=fun o x e=>opA_vr sr o x e
  split at e
  ·next x hx =>
   split at e
   ·next hld =>
    injection e with e
    subst e
    have hq:=TU hx
    rw [if_neg (by rw [PB hok hq hkT]; simp)]
    obtain ⟨u,hu,hrun⟩:=evOpQ_sound sr.hh hρ hx
    have hquiet:∃ u,VR w Z R x u/\QuietAt E.P (Cf (fun w'=>w0.grownBy w' none) o) o u a:=by
     cases hl:VX o.op with
     | false=>exact ⟨u,hu,fun w' _=>hrun w' fun h=>by rw [hl] at h; cases h⟩
     | true =>
      obtain ⟨u1,hu1,hq1⟩:=Lq hh0 sr hgr st hpre hl (by rw [<-hn0]; exact hld) hx
      exact ⟨u1,hu1,hq1.up (QI hl)⟩
    obtain ⟨u,hu,hquiet⟩:=hquiet
    exact ⟨u,hquiet,q _ _ w R kk (sr.put hu) hgr st hpre⟩
   ·cases e
  ·split at e
   ·next x h' hx =>
    injection e with e
    subst e
    have hq:=Mu hx
    rw [if_pos (H0 hok hq)]
    obtain ⟨u,w',R',h1,h2,h3,h4,h5⟩:=evOpN_sound hρ sr.hh hx
    exact P0 h1 (q _ _ w' R' kk ((sr.step h2 h4).put h3) (Gg hgr h5) (st.trans h4) fun b B hb=>NX hx (hpre b B hb))
   ·split at e
    ·next f args tys ho =>
     split at e
     ·next fv xs hf hxs =>
      split at e
      ·next r hr =>
       injection e with e
       subst e
       obtain ⟨x,h'⟩:=r
       have hq:isQ o.op=false:=by rw [ho]; rfl
       rw [if_pos (H0 hok hq)]
       obtain ⟨g,uf,uc,hva,hcl,hret⟩:=I4 hE (code_sound hE 0).1 (hρ _ _ hf) (opds_vr hρ hxs) sr.hh sr.gl hr
       unfold Lw
       rw [IF (uf:=uf) (uc:=uc) ho hva rfl hcl w]
       refine Ret.mono hret fun v w' hS=>?_
       obtain ⟨hg1,R',k1,k2,k3⟩:=hS
       exact q _ _ w' R' kk ((sr.step k1 k3).put k2) (Gg hgr hg1) (st.trans k3) fun b B hb=>Ol hr (hpre b B hb)
      ·cases e
     ·cases e
    ·cases e
theorem XA (hE:EnvOk E){s:St}(l:List (Nat×AV)) (hp:Hp) (hW:(!isW o.op&&Nat.blt k T)=true) (h:Vr (opsD E (evC E 0) ⟨none,false⟩ ops n0 [o] s) l=some (n,xs2 l,hp)) (kk:Ks ⟨Fr n l,hp⟩):Op1 E ops T n0 k o s Ks:=by
 obtain ⟨fr,h1,h2,h3⟩:=KP h
 simp only [Bool.and_eq_true,Bool.not_eq_true'] at hW
 intro base K w0 Z R0 h0 a w R hh0 hn0 sr hgr st hpre hok q
 exact Op1.d (Ks:=fun s=>s=⟨fr,hp⟩) hE hW.1 (Nat.le_of_ble_eq_true hW.2) h1 rfl base K w0 Z R0 h0 a w R hh0 hn0 sr hgr st hpre hok fun s' a' w' R' hs sr' hg' st' hp'=>by
  subst hs
  exact q _ a' w' R' kk (sr'.forget h2 h3) hg' st' hp'
theorem Op1.one (hE:EnvOk E) (hW:(!isW o.op&&Nat.blt k T)=true) (h:opsD E (evC E 0) ⟨none,false⟩ ops n0 [o] s=some s1) (kk:Ks s1):Op1 E ops T n0 k o s Ks:=by
 simp only [Bool.and_eq_true,Bool.not_eq_true'] at hW
 exact Op1.d hE hW.1 (Nat.le_of_ble_eq_true hW.2) h kk
theorem WC (hP:E.P=E0.P) (hG:E.G=E0.G){xs ys:List AV}{Out:AV->Hp->Prop}{d:Nat}{f:Operand}{args:Array Operand}{tys:Array TypeId}{ty:TypeId}{pos:String}{af:Array Edge}{g:Option (Nat×Bool)}(hs:SOk fid ys Out) (hr:o=⟨some d,.call ⟨.value f,args,tys⟩,ty,pos,af,g⟩) (hw:DS ops (Fr n l) ⟨some d,.call ⟨.value f,args,tys⟩,ty,pos,af,g⟩=some true)
  (hf:opA E (Fr n l) f=some (.fn fid [] [])) (ha:MR (opA E (Fr n l)) args.toList=some xs) (hv:YP hp xs=some ys) (hfl:∀ x h',Out x h'->Rk x=true/\WS h'=true) (kk:∀ x h',Out x h'->Ks ⟨Fr n ((d,shN hp.length x)::l),hp++h'⟩):Op1 E ops T n0 k o ⟨Fr n l,hp⟩ Ks:=by
 subst hr
 intro base K w0 Z R0 h0 a w R hh0 hn0 sr hgr st hpre hko q
 have hq:isQ (.call ⟨.value f,args,tys⟩:Op)=false:=rfl
 unfold mOp
 rw [hko]
 dsimp only
 rw [if_pos (wantedA_eq sr hw),if_pos (H0 hko hq)]
 have hρ:∀ o x,opA E (Fr n l) o=some x->VR w Z R x (a.eval o):=fun o x e=>opA_vr sr o x e
 have hva:a.eval f = .func (.func fid) ([]:List Value).toArray ([]:List Value).toArray:=by
  have:=hρ _ _ hf
  generalize a.eval f=vf at this
  cases this with
  | fn hl hl' hx hy =>
   rename_i u1 u2
   have e1:u1=[]:=by simpa using hl
   have e2:u2=[]:=by simpa using hl'
   subst e1 e2; rfl
 have hcl:DD E.P fid:=hP ▸ hs.1
 unfold Lw
 rw [IF (uf:=[]) (uc:=[]) rfl hva rfl hcl w]
 simp only [List.nil_append,List.append_nil]
 have hz1:∀ c,(Z c\/own R hp c)->c < w.heap.size:=fun c hc=>hc.elim (sr.hh.zlt c) (fun ⟨b,B,r,h1,_,h3,h4⟩=>h4 ▸ sr.hh.rltL h1 h3)
 have hg1:GI E0 w (fun c=>Z c\/own R hp c):=fun q y hy=>(sr.gl q y (by rw [hG]; exact hy)).mono (fun _ _=>rfl) (fun _ h=> .inl h) (fun _ _ h=>h)
 have hret:=hs.2 w _ _ hz1 hg1 (W0 sr.hh (opds_vr hρ ha) hv)
 rw [<-hP] at hret
 refine Ret.mono hret fun v w' hS=>?_
 obtain ⟨Z',R',x,h',hO,h1,h2,st1⟩:=hS
 obtain ⟨f1,f2⟩:=hfl x h' hO
 obtain ⟨j1,j2⟩:=sr.hh.join hz1 st1 h1 f2
 have hlen1:R.length=hp.length:=sr.hh.len
 have hx:=ABm (w:=w') (Z':=Z) (R:=R) hlen1 f1 h2
 have sr':=(sr.step j1 j2).put (d:=some d) hx
 rw [show P1 (⟨Fr n l,hp⟩:St).fr (some d) (shN hp.length x)=Fr n ((d,shN hp.length x)::l) from FY n l d _] at sr'
 have hg2:w.grownBy w' none:=⟨st1.os,st1.tape,st1.output,st1.size,fun c hc _=>st1.block c hc fun ⟨b,B,r,hb,_⟩=>by simp at hb⟩
 exact q _ _ w' (R++R') (kk x h' hO) sr' (Gg hgr hg2) (st.trans j2) (fun b B hb=>by
  have hlt:b < hp.length:=(List.getElem?_eq_some_iff.1 (hpre b B hb)).1
  show (hp++h')[b]? = _
  rw [List.getElem?_append_left hlt]; exact hpre b B hb)
/-- The walk up to the two. -/
theorem TB (hE:EnvOk E):∀ {pre:List Oper}{s:St}{k:Nat},(pre.all fun o=>!isW o.op)=true->k + pre.length<=p->p + 2<=T->opsD E (evC E 0) ⟨none,false⟩ ops n0 pre s=some s1->RunDP E ops T p n0 (k + pre.length) rest s1 K->RunDP E ops T p n0 k (pre++rest) s K
 | [],s,k,_,_,_,e,kk=>by injection e with e; subst e; exact kk
 | o::pre,s,k,hp,hT,hpT,e,kk=>by
  intro base Q w0 Z R0 h0 a w R hh0 hn0 sr hgr st hpre hops q
  simp only [List.all_cons,Bool.and_eq_true,Bool.not_eq_true'] at hp
  obtain ⟨hW,hp⟩:=hp
  obtain ⟨s2,e1,e2⟩:=Zp hW e
  have hok:ops[k]? = some o:=by have:=hops 0; simpa using this.symm
  have hops':∀ j,(pre++rest)[j]? = ops[k + 1 + j]?:=fun j=>by have:=hops (j + 1); simpa [Nat.add_assoc,Nat.add_comm 1 j] using this
  have hk1:k + 1 + pre.length=k + (o::pre).length:=by simp; omega
  have kk':RunDP E ops T p n0 (k + 1 + pre.length) rest s1 K:=by rw [hk1]; exact kk
  simp only [List.length_cons] at hT
  show RC E.P ops _ _ _ Q p k (o::(pre++rest)) a w
  unfold RC
  rw [if_neg (by omega)]
  refine ⟨fun _=>hgr,?_⟩
  refine Op1.d (Ks:=fun s=>s=s2) hE hW (by omega) e1 rfl base _ w0 Z R0 h0 a w R hh0 hn0 sr hgr st hpre hok fun s' a' w' R' hs sr' hg' st' hp'=>?_
  subst hs
  exact TB hE hp (by omega) hpT e2 kk' base Q w0 Z R0 h0 a' w' R' hh0 hn0 sr' hg' st' hp' hops' q
theorem YS (hE:EnvOk E) (m:Nat){s:St}(l:List (Nat×AV)) (hp:Hp) (hw:(((rest.take m).all fun o=>!isW o.op)&&Nat.ble (k + (rest.take m).length) p&&Nat.ble (p + 2) T)=true) (h:Vr (opsD E (evC E 0) ⟨none,false⟩ ops n0 (rest.take m) s) l=some (n,xs2 l,hp)) (kk:RunDP E ops T p n0 (k + (rest.take m).length) (rest.drop m) ⟨Fr n l,hp⟩ K):RunDP E ops T p n0 k rest s K:=by
 obtain ⟨fr,h1,h2,h3⟩:=KP h
 simp only [Bool.and_eq_true] at hw
 have:=TB (k:=k) (T:=T) (p:=p) (pre:=rest.take m) (rest:=rest.drop m) hE hw.1.1 (Nat.le_of_ble_eq_true hw.1.2) (Nat.le_of_ble_eq_true hw.2) h1 (fun base Q w0 Z R0 h0 a w R a1 a2 sr a5 a6 a7 a8 q=>kk base Q w0 Z R0 h0 a w R a1 a2 (sr.forget h2 h3) a5 a6 a7 a8 q)
 rwa [List.take_append_drop] at this
theorem RunDP.one (hE:EnvOk E) (hr:rest=o::rest') (hW:(!isW o.op&&Nat.blt k p&&Nat.ble (p + 2) T)=true) (h:opsD E (evC E 0) ⟨none,false⟩ ops n0 [o] s=some s1) (kk:RunDP E ops T p n0 (k + 1) rest' s1 K):RunDP E ops T p n0 k rest s K:=by
 subst hr
 simp only [Bool.and_eq_true] at hW
 exact TB (k:=k) hE (pre:=[o]) (by simpa using hW.1.1) (by have:=Nat.le_of_ble_eq_true hW.1.2; simpa using this) (Nat.le_of_ble_eq_true hW.2) h kk
/-- The two, in both orders. -/
theorem RunDP.two {o1 o2:Oper}(hr:rest=o1::o2::rest') (hA:Op1 E ops T n0 p o1 s fun s1=>Op1 E ops T n0 (p + 1) o2 s1 fun s2=>RunDX E ops T n0 (p + 2) rest' s2 K) (hB:Op1 E ops T n0 (p + 1) o2 s fun s1=>Op1 E ops T n0 p o1 s1 fun s2=>RunDX E ops T n0 (p + 2) rest' s2 K):RunDP E ops T p n0 p rest s K:=by
 subst hr
 intro base Q w0 Z R0 h0 a w R hh0 hn0 sr hgr st hpre hops q
 have hk1:ops[p]? = some o1:=by have:=hops 0; simpa using this.symm
 have hk2:ops[p + 1]? = some o2:=by have:=hops 1; simpa using this.symm
 have hops':∀ j,rest'[j]? = ops[p + 2 + j]?:=fun j=>by have:=hops (j + 2); rw [show p + 2 + j=p + (j + 2) by omega]; simpa using this
 unfold RC
 rw [if_pos rfl]
 refine ⟨hgr,?_,?_⟩
 ·refine hA base _ w0 Z R0 h0 a w R hh0 hn0 sr hgr st hpre hk1 fun s1 a1 w1 R1 h1 sr1 hg1 st1 hp1=>⟨hg1,?_⟩
  exact h1 base _ w0 Z R0 h0 a1 w1 R1 hh0 hn0 sr1 hg1 st1 hp1 hk2 fun s2 a2 w2 R2 h2 sr2 hg2 st2 hp2=>h2 base Q w0 Z R0 h0 a2 w2 R2 hh0 hn0 sr2 hg2 st2 hp2 hops' q
 ·refine hB base _ w0 Z R0 h0 a w R hh0 hn0 sr hgr st hpre hk2 fun s1 a1 w1 R1 h1 sr1 hg1 st1 hp1=>⟨hg1,?_⟩
  exact h1 base _ w0 Z R0 h0 a1 w1 R1 hh0 hn0 sr1 hg1 st1 hp1 hk1 fun s2 a2 w2 R2 h2 sr2 hg2 st2 hp2=>h2 base Q w0 Z R0 h0 a2 w2 R2 hh0 hn0 sr2 hg2 st2 hp2 hops' q
end
noncomputable def Fo:Code:=BL Tryz.f92
def B7 (xs:List (List UInt8)):Option Blk:=some ⟨1,9,xs.map cdS.enc,false⟩
set_option maxRecDepth 100000 in
theorem G5 (xs:List (List UInt8)) (hc:EK 16 xs.length=true):Sem E0 ⟨none,false⟩ Fo ⟨Fr 8 [(0,.sl 1 (xs.map cdS.enc))],[]⟩ fun e s'=>(e = .normal\/e = .ret)/\((xs=[]/\s'=⟨Fr 8 [(2,.e0)],[]⟩)\/s'=⟨Fr 8 [(2,.rf 0 0 xs.length xs.length)],[B7 xs]⟩):=by
 refine AH ?_
 refine AM (s1:=⟨Fr 8 [(0,.sl 1 (xs.map cdS.enc)),(2,.e0)],[]⟩) ?_ ?_
 ·refine Ij AC 1 (s1:=⟨Fr 8 [(0,.sl 1 (xs.map cdS.enc)),(2,.e0)],[]⟩) (by kernel_rfl) ?_
  exact AI rfl AJ
 refine AH ?_
 refine AH (Ss ?_)
 refine Ij AC 1 (s1:=⟨Fr 8 [(0,.sl 1 (xs.map cdS.enc)),(2,.e0),(3,.sl 1 (xs.map cdS.enc))],[]⟩) (by kernel_rfl) ?_
 refine Uw (k:=1) (el:=9) (es:=xs.map cdS.enc) rfl (AB rfl) (by kernel_rfl) (by kernel_rfl) fun b hb=>AI rfl ?_
 have hb:b=true->xs=[]:=fun h=>List.map_eq_nil_iff.1 (hb h)
 refine AT (b:=b) (by kernel_rfl) (fun hb1=>?_) (fun hb1=>?_)
 ·have hx:=hb hb1
  refine Ax ?_
  refine AH (AM (s1:=⟨Fr 8 [(2,.e0)],[]⟩) ?_ (AR ?_))
  ·refine Ij AC 1 (s1:=⟨Fr 8 [(0,.sl 1 (xs.map cdS.enc)),(2,.e0),(3,.sl 1 (xs.map cdS.enc)),(4,.v (.bool b))],[]⟩) (by kernel_rfl) ?_
   exact AI rfl AJ
  ·exact ⟨_,Wk.refl,.inr rfl,.inl ⟨hx,rfl⟩⟩
 ·refine AY ?_
  refine Ax (AH (Ss ?_))
  refine Ij AC 2 (s1:=⟨Fr 8 [(0,.sl 1 (xs.map cdS.enc)),(2,.e0),(3,.sl 1 (xs.map cdS.enc)),(4,.v (.bool b)),(5,.rf 0 0 0 0),(6,.sl 1 (xs.map cdS.enc))],[B7 []]⟩) (by kernel_rfl) ?_
  cases xs with
  | nil =>
   refine AZ AC 0 rfl (S4 (x:= .rf 0 0 0 0) (hp':=[B7 []]) (AB rfl) rfl (by kernel_rfl) (by kernel_rfl) (by kernel_rfl)) ?_
   refine Ij AC 1 (s1:=⟨Fr 8 [(0,.sl 1 []),(2,.rf 0 0 0 0),(3,.sl 1 []),(4,.v (.bool b)),(5,.rf 0 0 0 0),(6,.sl 1 []),(7,.rf 0 0 0 0)],[B7 []]⟩) (by kernel_rfl) (AI rfl (AR ?_))
   exact ⟨⟨Fr 8 [(2,.rf 0 0 0 0)],[B7 []]⟩,AJ,.inr rfl,.inr rfl⟩
  | cons y ys =>
   refine AZ AC 0 rfl (S4 (AB rfl) rfl (by kernel_rfl) (by kernel_rfl) (Dq (a:= .rf 0 0 0 0) (b:= .sl 1 ((y::ys).map cdS.enc)) (by kernel_rfl) (by kernel_rfl) (PZ (c:=cdS) (xs:=[]) (vs:=y::ys) (k:=1) (bytes:=16) (el:=9) (by kernel_rfl) (by kernel_rfl) VU (List.cons_ne_nil _ _) (by kernel_rfl) (by rw [List.length_nil,Nat.zero_add]; exact hc)))) ?_
   refine Ij AC 1 (s1:=⟨Fr 8 [(0,.sl 1 ((y::ys).map cdS.enc)),(2,.rf 1 0 (y::ys).length (y::ys).length),(3,.sl 1 ((y::ys).map cdS.enc)),(4,.v (.bool b)),(5,.rf 0 0 0 0),(6,.sl 1 ((y::ys).map cdS.enc)),(7,.rf 1 0 (y::ys).length (y::ys).length)],[none,B7 (y::ys)]⟩) (by kernel_rfl) (AI rfl (AR ?_))
   exact ⟨⟨Fr 8 [(2,.rf 0 0 (y::ys).length (y::ys).length)],[B7 (y::ys)]⟩,Ar [1] ⟨⟨_,rfl,Uy⟩,trivial⟩ ⟨lv,trivial⟩,.inr rfl,.inr rfl⟩
def Hh (xs:List (List UInt8)) (x:AV) (h':Hp):Prop:=(xs=[]/\x = .e0/\h'=[])\/(x = .rf 0 0 xs.length xs.length/\h'=[B7 xs])
theorem IG (xs:List (List UInt8)) (hc:EK 16 xs.length=true):SOk 92 [.sl 1 (xs.map cdS.enc)] (Hh xs):=by
 refine VB AC rfl rfl (fn:=Tryz.f92) (c:=Fo) (by kernel_rfl) (by kernel_rfl) ⟨Tryz.call92⟩ (by show 1<=8; decide) (Sem.mono (G5 xs hc) ?_)
 rintro e s' ⟨he,⟨hx,rfl⟩ | rfl⟩
 ·exact ⟨he,[.e0],by kernel_rfl,.inl ⟨hx,rfl,rfl⟩⟩
 ·exact ⟨he,[.rf 0 0 xs.length xs.length],by kernel_rfl,.inr ⟨rfl,rfl⟩⟩
theorem H5 {xs:List (List UInt8)}:∀ x h',Hh xs x h'->Rk x=true/\WS h'=true:=by
 rintro x h' (⟨_,rfl,rfl⟩ | ⟨rfl,rfl⟩)
 ·exact ⟨rfl,rfl⟩
 ·refine ⟨rfl,?_⟩
  show (!false&&(xs.map cdS.enc).all OV&&true)=true
  have:(xs.map cdS.enc).all OV=true:=by
   rw [List.all_eq_true]
   intro x hx
   obtain ⟨y,_,rfl⟩:=List.mem_map.1 hx
   rfl
  rw [this]; rfl
/-- .. as it is told to those who only read. -/
def DC (xs:List (List UInt8)):Option (List (List UInt8)):=if EK 16 xs.length=true then some xs else none
def H3:Cs (List (List UInt8)×Unit):=csC (cdL 1 cdS) csN
def H4 (r:List (List UInt8)):AV:=(cdL 1 cdS).enc r
def Li:List AV->Option AV:=ES H3 (fun a=>DC a.1) H4
theorem Lm:XOk 92 Li:=by
 refine EnvOk.x (E:=E0) (XE AC (fn:=Tryz.f92) (c:=Fo) ?h1 ?h2 ⟨Tryz.call92⟩ H3 (fun a=>DC a.1) H4 (fun a=>(by show 1<=8; decide)) ?h3 ?h4) rfl rfl
 case h1=>kernel_rfl
 case h2=>kernel_rfl
 case h3=>intro b; kernel_rfl
 case h4 =>
  intro a r h
  have h:DC a.1=some r:=h
  unfold DC at h
  by_cases hc:EK 16 a.1.length=true
  ·rw [if_pos hc] at h
   injection h with h
   subst h
   refine Ax (Sem.mono (G5 a.1 hc) ?_)
   rintro e s' ⟨he,⟨hx,rfl⟩ | rfl⟩
   ·rw [hx]
    exact ⟨⟨Fr 8 [(2,.sl 1 [])],[none]⟩,Wk.trans (s1:=⟨Fr 8 [(2,.e0)],[none]⟩) Wk.none (M0 0 (.inl (by kernel_rfl)) ⟨.inl rfl,trivial⟩ ⟨⟨.e0,(by kernel_rfl),ACS⟩,trivial⟩),he,[.sl 1 []],by kernel_rfl,by kernel_rfl⟩
   ·exact ⟨⟨Fr 8 [(2,.sl 1 (a.1.map cdS.enc))],[none]⟩,M0 0 (.inl (by kernel_rfl)) ⟨.inl rfl,trivial⟩ ⟨⟨.rf 0 0 a.1.length a.1.length,(by kernel_rfl),ADq (c:=cdS) (xs:=a.1) (t:=9) (by kernel_rfl)⟩,trivial⟩,he,[.sl 1 (a.1.map cdS.enc)],by kernel_rfl,by kernel_rfl⟩
  ·rw [if_neg hc] at h; cases h
/- trestle/trestlelaw03.Copy -/
noncomputable def Nh:Code:=BL Tryz.f59
def GD (x0:(List AF)):Nat->(List AF)->Int->Option (((List AF)))
 | 0,_,_=>none
 | f + 1,c1,c2 =>
  if (decide (c2 < (x0.length:Int)))=true then
  (idx x0 c2).bind fun v4 =>
  if (EK 16 v4.2.2.2.1.length)=true then
  if (EK 16 (v4.2.2.2.1.length + 1))=true then
  if (KA 0 (v4.2.2.2.1.length:Int) (v4.2.2.2.1++[[115,112,97,114,101]]).length)=true then
  if (EK 64 (c1.length + 1))=true then
  GD x0 f (c1++[(v4.1,v4.2.1,v4.2.2.1,((v4.2.2.2.1++[[115,112,97,114,101]]).take ((v4.2.2.2.1.length:Int).toNat)),v4.2.2.2.2)]) (wr .i64 (c2 + 1))
  else none
  else none
  else none
  else none
  else
  some c1
def KJ (x0:(List AF)):Option ((List AF)) :=
 (GD x0 100000 [] 0).bind fun r17 =>
 some r17
def Nm:Cs ((List AF)×Unit):=(csC (cdL 5 AA) csN)
def Nu (r:(List AF)):AV:=(cdL 5 AA).enc r
theorem ST (x0:(List AF)):∀ (f:Nat) (c1:(List AF)) (c2:Int) (r:((List AF))),GD x0 f c1 c2=some r->SemN E0 ⟨none,false⟩ (pc Nh [1,1,0,1,0,0]) f ⟨Fr 28 [(3,hd 0 (c1.map AA.enc)),(6,.sl 5 (x0.map AA.enc)),(7,.j (x0.length:Int)),(8,.j c2)],[mk 5 60 (c1.map AA.enc)]⟩ (fun e s=>e=(.exit 0)/\Wk E0 s ⟨Fr 28 [(3,hd 0 (r.map AA.enc))],[mk 5 60 (r.map AA.enc)]⟩):=by
 intro f;induction f with
 | zero=>intro c1 c2 r h; cases h
 | succ f ih0 =>
  intro c1 c2 r h
  have ih:=fun (c1:(List AF)) (c2:Int)=>ih0 c1 c2 r
  unfold GD at h;refine CI ?_;refine AK AC [(3,hd 0 (c1.map AA.enc)),(6,.sl 5 (x0.map AA.enc)),(7,.j (x0.length:Int)),(8,.j c2),(9,.b (decide (c2 < (x0.length:Int))))] [mk 5 60 (c1.map AA.enc)] ?_;refine AH ?_;refine AT (b:=(decide (c2 < (x0.length:Int)))) kr (fun hb3=>?_) (fun hb3=>?_)
  ·rw [if_pos hb3] at h
   refine AY ?_;refine AH ?_;refine Al ?_;refine AH ?_;obtain ⟨v4,hv4,h⟩:=OB h;refine AM (s1:=⟨Fr 28 [(3,hd 0 (c1.map AA.enc)),(5,.pt 1 0 0),(6,.sl 5 (x0.map AA.enc)),(7,.j (x0.length:Int)),(8,.j c2)],[mk 5 60 (c1.map AA.enc),some ⟨5,60,[.ag [.v (.int .u8 v4.1),.st v4.2.1,.b v4.2.2.1,.sl 1 (v4.2.2.2.1.map cdS.enc),.j v4.2.2.2.2]],false⟩]⟩) ?_ ?_
   ·refine AZ AC 0 rfl (DR (AB rfl) rfl (AP (a:= .sl 5 (x0.map AA.enc)) (b:= .j c2) kr kr (Di (e:=AA.enc) (el:=60) (k:=5) (ki:= .i64) kr kr hv4))) ?_
    exact Ad AC
   refine AH ?_;by_cases hk5:(EK 16 v4.2.2.2.1.length)=true
   case neg=>rw [if_neg hk5] at h; cases h
   rw [if_pos hk5] at h;by_cases hk6:(EK 16 (v4.2.2.2.1.length + 1))=true
   case neg=>rw [if_neg hk6] at h; cases h
   rw [if_pos hk6] at h;by_cases hk7:(KA 0 (v4.2.2.2.1.length:Int) (v4.2.2.2.1++[[115,112,97,114,101]]).length)=true
   case neg=>rw [if_neg hk7] at h; cases h
   rw [if_pos hk7] at h;refine Y3 (s1:=⟨Fr 28 [(3,hd 0 (c1.map AA.enc)),(5,.pt 1 0 0),(6,.sl 5 (x0.map AA.enc)),(7,.j (x0.length:Int)),(8,.j c2)],[mk 5 60 (c1.map AA.enc),some ⟨5,60,[.ag [.v (.int .u8 v4.1),.st v4.2.1,.b v4.2.2.1,.rf 2 0 ((v4.2.2.2.1.length:Int).toNat) ((v4.2.2.2.1++[[115,112,97,114,101]]).length),.j v4.2.2.2.2]],false⟩,some ⟨1,9,((v4.2.2.2.1++[[115,112,97,114,101]]).map cdS.enc),false⟩]⟩) AC 10 2 kr kr ?_ ?_
   ·refine YS (n:=28) AC 2 [(3,hd 0 (c1.map AA.enc)),(5,.pt 1 0 0),(6,.sl 5 (x0.map AA.enc)),(7,.j (x0.length:Int)),(8,.j c2),(13,.sl 1 (v4.2.2.2.1.map cdS.enc))] [mk 5 60 (c1.map AA.enc),some ⟨5,60,[.ag [.v (.int .u8 v4.1),.st v4.2.1,.b v4.2.2.1,.sl 1 (v4.2.2.2.1.map cdS.enc),.j v4.2.2.2.2]],false⟩] kr kr ?_
    refine RunDP.two rfl ?_ ?_
    ·refine WC rfl rfl (IG v4.2.2.2.1 hk5) rfl (AB rfl) kr (xs:=[.sl 1 (v4.2.2.2.1.map cdS.enc)]) kr kr H5 ?_
     rintro x h' (⟨hx,rfl,rfl⟩ | ⟨rfl,rfl⟩)
     ·rw [hx]
      refine XA (n:=28) AC [(3,hd 0 (c1.map AA.enc)),(5,.pt 1 0 0),(6,.sl 5 (x0.map AA.enc)),(7,.j (x0.length:Int)),(8,.j c2),(13,.sl 1 (([]:List (List UInt8)).map cdS.enc)),(14,.e0),(15,hd 2 ([[115,112,97,114,101]].map cdS.enc))] [mk 5 60 (c1.map AA.enc),some ⟨5,60,[.ag [.v (.int .u8 v4.1),.st v4.2.1,.b v4.2.2.1,.sl 1 (([]:List (List UInt8)).map cdS.enc),.j v4.2.2.2.2]],false⟩,mk 1 9 ([[115,112,97,114,101]].map cdS.enc)] kr kr ?_;refine RunDX.append AC rfl (AB rfl) rfl rfl (Dq (a:= .e0) (b:=hd 2 ([[115,112,97,114,101]].map cdS.enc)) kr kr (Su (c:=cdS) (vs:=[[115,112,97,114,101]]) (k:=1) (bytes:=16) (el:=9) kr kr (IC (t:=9) kr) (List.cons_ne_nil _ _) kr)) (Dq (a:= .e0) (b:=hd 2 ([[115,112,97,114,101]].map cdS.enc)) kr kr (Su (c:=cdS) (vs:=[[115,112,97,114,101]]) (k:=1) (bytes:=16) (el:=9) kr kr (IC (t:=9) kr) (List.cons_ne_nil _ _) kr)) kr ?_;refine JF (n:=28) AC 2 [(3,hd 0 (c1.map AA.enc)),(5,.pt 1 0 0),(6,.sl 5 (x0.map AA.enc)),(7,.j (x0.length:Int)),(8,.j c2),(16,hd 3 ([[115,112,97,114,101]].map cdS.enc)),(18,.sl 1 (([]:List (List UInt8)).map cdS.enc))] [mk 5 60 (c1.map AA.enc),some ⟨5,60,[.ag [.v (.int .u8 v4.1),.st v4.2.1,.b v4.2.2.1,.sl 1 (([]:List (List UInt8)).map cdS.enc),.j v4.2.2.2.2]],false⟩,mk 1 9 ([[115,112,97,114,101]].map cdS.enc),mk 1 9 ([[115,112,97,114,101]].map cdS.enc)] kr kr ?_;refine RunDX.one AC rfl kr (JB kr (AB rfl) rfl (C3 (a:= .sl 1 (([]:List (List UInt8)).map cdS.enc)) kr (Bn (el:=9) kr)) kr) ?_;refine JF (n:=28) AC 2 [(3,hd 0 (c1.map AA.enc)),(5,.pt 1 0 0),(6,.sl 5 (x0.map AA.enc)),(7,.j (x0.length:Int)),(8,.j c2),(20,.rf 3 0 0 1),(21,.pt 1 0 3)] [mk 5 60 (c1.map AA.enc),some ⟨5,60,[.ag [.v (.int .u8 v4.1),.st v4.2.1,.b v4.2.2.1,.sl 1 (([]:List (List UInt8)).map cdS.enc),.j v4.2.2.2.2]],false⟩,mk 1 9 ([[115,112,97,114,101]].map cdS.enc),mk 1 9 ([[115,112,97,114,101]].map cdS.enc)] kr kr ?_
      refine RunDX.tail rfl ?_;refine AD (n:=28) AC 1 [(3,hd 0 (c1.map AA.enc)),(5,.pt 1 0 0),(6,.sl 5 (x0.map AA.enc)),(7,.j (x0.length:Int)),(8,.j c2)] [mk 5 60 (c1.map AA.enc),some ⟨5,60,[.ag [.v (.int .u8 v4.1),.st v4.2.1,.b v4.2.2.1,.rf 3 0 0 1,.j v4.2.2.2.2]],false⟩,mk 1 9 ([[115,112,97,114,101]].map cdS.enc),mk 1 9 ([[115,112,97,114,101]].map cdS.enc)] kr ?_;exact AI rfl (Ar [0,1,3] ⟨⟨_,rfl,MY⟩,⟨_,rfl,HS⟩,⟨_,rfl,Uy⟩,trivial⟩ ⟨Ma (b':=0) kr kr,lv,lv,lv,lv,trivial⟩)
     ·refine XA (n:=28) AC [(3,hd 0 (c1.map AA.enc)),(5,.pt 1 0 0),(6,.sl 5 (x0.map AA.enc)),(7,.j (x0.length:Int)),(8,.j c2),(13,.sl 1 (v4.2.2.2.1.map cdS.enc)),(14,.rf 2 0 v4.2.2.2.1.length v4.2.2.2.1.length),(15,hd 3 ([[115,112,97,114,101]].map cdS.enc))] [mk 5 60 (c1.map AA.enc),some ⟨5,60,[.ag [.v (.int .u8 v4.1),.st v4.2.1,.b v4.2.2.1,.sl 1 (v4.2.2.2.1.map cdS.enc),.j v4.2.2.2.2]],false⟩,some ⟨1,9,(v4.2.2.2.1.map cdS.enc),false⟩,mk 1 9 ([[115,112,97,114,101]].map cdS.enc)] kr kr ?_
      refine RunDX.append AC rfl (AB rfl) rfl rfl (Dq (a:= .rf 2 0 v4.2.2.2.1.length v4.2.2.2.1.length) (b:=hd 3 ([[115,112,97,114,101]].map cdS.enc)) kr kr (PZ (c:=cdS) (xs:=v4.2.2.2.1) (vs:=[[115,112,97,114,101]]) (k:=1) (bytes:=16) (el:=9) kr kr (IC (t:=9) kr) (List.cons_ne_nil _ _) kr hk6)) (Dq (a:= .rf 2 0 v4.2.2.2.1.length v4.2.2.2.1.length) (b:=hd 3 ([[115,112,97,114,101]].map cdS.enc)) kr kr (PZ (c:=cdS) (xs:=v4.2.2.2.1) (vs:=[[115,112,97,114,101]]) (k:=1) (bytes:=16) (el:=9) kr kr (IC (t:=9) kr) (List.cons_ne_nil _ _) kr hk6)) kr ?_;refine JF (n:=28) AC 2 [(3,hd 0 (c1.map AA.enc)),(5,.pt 1 0 0),(6,.sl 5 (x0.map AA.enc)),(7,.j (x0.length:Int)),(8,.j c2),(16,.rf 4 0 (v4.2.2.2.1++[[115,112,97,114,101]]).length (v4.2.2.2.1++[[115,112,97,114,101]]).length),(18,.sl 1 (v4.2.2.2.1.map cdS.enc))] [mk 5 60 (c1.map AA.enc),some ⟨5,60,[.ag [.v (.int .u8 v4.1),.st v4.2.1,.b v4.2.2.1,.sl 1 (v4.2.2.2.1.map cdS.enc),.j v4.2.2.2.2]],false⟩,none,mk 1 9 ([[115,112,97,114,101]].map cdS.enc),some ⟨1,9,((v4.2.2.2.1++[[115,112,97,114,101]]).map cdS.enc),false⟩] kr kr ?_;refine RunDX.one AC rfl kr (JB kr (AB rfl) rfl (C3 (a:= .sl 1 (v4.2.2.2.1.map cdS.enc)) kr (Bn (el:=9) kr)) kr) ?_;refine RunDX.one AC rfl kr (JB kr (AB rfl) rfl (NH (a:= .rf 4 0 (v4.2.2.2.1++[[115,112,97,114,101]]).length (v4.2.2.2.1++[[115,112,97,114,101]]).length) (l:=none) (u:=(some (.j (v4.2.2.2.1.length:Int)))) (m:=none) kr kr kr rfl (YK (xs:=(v4.2.2.2.1++[[115,112,97,114,101]])) (e:=cdS.enc) (t':=9) (k:=1) (el:=9) kr kr kr hk7 (by simp))) kr) ?_;refine JF (n:=28) AC 1 [(3,hd 0 (c1.map AA.enc)),(5,.pt 1 0 0),(6,.sl 5 (x0.map AA.enc)),(7,.j (x0.length:Int)),(8,.j c2),(20,.rf 4 0 ((v4.2.2.2.1.length:Int).toNat) ((v4.2.2.2.1++[[115,112,97,114,101]]).length)),(21,.pt 1 0 3)] [mk 5 60 (c1.map AA.enc),some ⟨5,60,[.ag [.v (.int .u8 v4.1),.st v4.2.1,.b v4.2.2.1,.sl 1 (v4.2.2.2.1.map cdS.enc),.j v4.2.2.2.2]],false⟩,none,mk 1 9 ([[115,112,97,114,101]].map cdS.enc),some ⟨1,9,((v4.2.2.2.1++[[115,112,97,114,101]]).map cdS.enc),false⟩] kr kr ?_
      refine RunDX.tail rfl ?_;refine AD (n:=28) AC 1 [(3,hd 0 (c1.map AA.enc)),(5,.pt 1 0 0),(6,.sl 5 (x0.map AA.enc)),(7,.j (x0.length:Int)),(8,.j c2)] [mk 5 60 (c1.map AA.enc),some ⟨5,60,[.ag [.v (.int .u8 v4.1),.st v4.2.1,.b v4.2.2.1,.rf 4 0 ((v4.2.2.2.1.length:Int).toNat) ((v4.2.2.2.1++[[115,112,97,114,101]]).length),.j v4.2.2.2.2]],false⟩,none,mk 1 9 ([[115,112,97,114,101]].map cdS.enc),some ⟨1,9,((v4.2.2.2.1++[[115,112,97,114,101]]).map cdS.enc),false⟩] kr ?_;exact AI rfl (Ar [0,1,4] ⟨⟨_,rfl,MY⟩,⟨_,rfl,HS⟩,⟨_,rfl,Uy⟩,trivial⟩ ⟨Ma (b':=0) kr kr,lv,lv,lv,lv,trivial⟩)
    ·refine XA (n:=28) AC [(3,hd 0 (c1.map AA.enc)),(5,.pt 1 0 0),(6,.sl 5 (x0.map AA.enc)),(7,.j (x0.length:Int)),(8,.j c2),(13,.sl 1 (v4.2.2.2.1.map cdS.enc)),(15,hd 2 ([[115,112,97,114,101]].map cdS.enc))] [mk 5 60 (c1.map AA.enc),some ⟨5,60,[.ag [.v (.int .u8 v4.1),.st v4.2.1,.b v4.2.2.1,.sl 1 (v4.2.2.2.1.map cdS.enc),.j v4.2.2.2.2]],false⟩,mk 1 9 ([[115,112,97,114,101]].map cdS.enc)] kr kr ?_
     have hk10:=hk5
     refine WC rfl rfl (IG v4.2.2.2.1 hk10) rfl (AB rfl) kr (xs:=[.sl 1 (v4.2.2.2.1.map cdS.enc)]) kr kr H5 ?_;rintro x h' (⟨hx,rfl,rfl⟩ | ⟨rfl,rfl⟩)
     ·rw [hx]
      refine RunDX.append AC rfl (AB rfl) rfl rfl (Dq (a:= .e0) (b:=hd 2 ([[115,112,97,114,101]].map cdS.enc)) kr kr (Su (c:=cdS) (vs:=[[115,112,97,114,101]]) (k:=1) (bytes:=16) (el:=9) kr kr (IC (t:=9) kr) (List.cons_ne_nil _ _) kr)) (Dq (a:= .e0) (b:=hd 2 ([[115,112,97,114,101]].map cdS.enc)) kr kr (Su (c:=cdS) (vs:=[[115,112,97,114,101]]) (k:=1) (bytes:=16) (el:=9) kr kr (IC (t:=9) kr) (List.cons_ne_nil _ _) kr)) kr ?_;refine JF (n:=28) AC 2 [(3,hd 0 (c1.map AA.enc)),(5,.pt 1 0 0),(6,.sl 5 (x0.map AA.enc)),(7,.j (x0.length:Int)),(8,.j c2),(16,hd 3 ([[115,112,97,114,101]].map cdS.enc)),(18,.sl 1 (([]:List (List UInt8)).map cdS.enc))] [mk 5 60 (c1.map AA.enc),some ⟨5,60,[.ag [.v (.int .u8 v4.1),.st v4.2.1,.b v4.2.2.1,.sl 1 (([]:List (List UInt8)).map cdS.enc),.j v4.2.2.2.2]],false⟩,mk 1 9 ([[115,112,97,114,101]].map cdS.enc),mk 1 9 ([[115,112,97,114,101]].map cdS.enc)] kr kr ?_;refine RunDX.one AC rfl kr (JB kr (AB rfl) rfl (C3 (a:= .sl 1 (([]:List (List UInt8)).map cdS.enc)) kr (Bn (el:=9) kr)) kr) ?_;refine JF (n:=28) AC 2 [(3,hd 0 (c1.map AA.enc)),(5,.pt 1 0 0),(6,.sl 5 (x0.map AA.enc)),(7,.j (x0.length:Int)),(8,.j c2),(20,.rf 3 0 0 1),(21,.pt 1 0 3)] [mk 5 60 (c1.map AA.enc),some ⟨5,60,[.ag [.v (.int .u8 v4.1),.st v4.2.1,.b v4.2.2.1,.sl 1 (([]:List (List UInt8)).map cdS.enc),.j v4.2.2.2.2]],false⟩,mk 1 9 ([[115,112,97,114,101]].map cdS.enc),mk 1 9 ([[115,112,97,114,101]].map cdS.enc)] kr kr ?_;refine RunDX.tail rfl ?_;refine AD (n:=28) AC 1 [(3,hd 0 (c1.map AA.enc)),(5,.pt 1 0 0),(6,.sl 5 (x0.map AA.enc)),(7,.j (x0.length:Int)),(8,.j c2)] [mk 5 60 (c1.map AA.enc),some ⟨5,60,[.ag [.v (.int .u8 v4.1),.st v4.2.1,.b v4.2.2.1,.rf 3 0 0 1,.j v4.2.2.2.2]],false⟩,mk 1 9 ([[115,112,97,114,101]].map cdS.enc),mk 1 9 ([[115,112,97,114,101]].map cdS.enc)] kr ?_;exact AI rfl (Ar [0,1,3] ⟨⟨_,rfl,MY⟩,⟨_,rfl,HS⟩,⟨_,rfl,Uy⟩,trivial⟩ ⟨Ma (b':=0) kr kr,lv,lv,lv,lv,trivial⟩)
     ·have hk11:=hk6
      refine RunDX.append AC rfl (AB rfl) rfl rfl (Dq (a:= .rf 3 0 v4.2.2.2.1.length v4.2.2.2.1.length) (b:=hd 2 ([[115,112,97,114,101]].map cdS.enc)) kr kr (PZ (c:=cdS) (xs:=v4.2.2.2.1) (vs:=[[115,112,97,114,101]]) (k:=1) (bytes:=16) (el:=9) kr kr (IC (t:=9) kr) (List.cons_ne_nil _ _) kr hk11)) (Dq (a:= .rf 3 0 v4.2.2.2.1.length v4.2.2.2.1.length) (b:=hd 2 ([[115,112,97,114,101]].map cdS.enc)) kr kr (PZ (c:=cdS) (xs:=v4.2.2.2.1) (vs:=[[115,112,97,114,101]]) (k:=1) (bytes:=16) (el:=9) kr kr (IC (t:=9) kr) (List.cons_ne_nil _ _) kr hk11)) kr ?_;refine JF (n:=28) AC 2 [(3,hd 0 (c1.map AA.enc)),(5,.pt 1 0 0),(6,.sl 5 (x0.map AA.enc)),(7,.j (x0.length:Int)),(8,.j c2),(16,.rf 4 0 (v4.2.2.2.1++[[115,112,97,114,101]]).length (v4.2.2.2.1++[[115,112,97,114,101]]).length),(18,.sl 1 (v4.2.2.2.1.map cdS.enc))] [mk 5 60 (c1.map AA.enc),some ⟨5,60,[.ag [.v (.int .u8 v4.1),.st v4.2.1,.b v4.2.2.1,.sl 1 (v4.2.2.2.1.map cdS.enc),.j v4.2.2.2.2]],false⟩,mk 1 9 ([[115,112,97,114,101]].map cdS.enc),none,some ⟨1,9,((v4.2.2.2.1++[[115,112,97,114,101]]).map cdS.enc),false⟩] kr kr ?_;refine RunDX.one AC rfl kr (JB kr (AB rfl) rfl (C3 (a:= .sl 1 (v4.2.2.2.1.map cdS.enc)) kr (Bn (el:=9) kr)) kr) ?_
      have hk12:=hk7
      refine RunDX.one AC rfl kr (JB kr (AB rfl) rfl (NH (a:= .rf 4 0 (v4.2.2.2.1++[[115,112,97,114,101]]).length (v4.2.2.2.1++[[115,112,97,114,101]]).length) (l:=none) (u:=(some (.j (v4.2.2.2.1.length:Int)))) (m:=none) kr kr kr rfl (YK (xs:=(v4.2.2.2.1++[[115,112,97,114,101]])) (e:=cdS.enc) (t':=9) (k:=1) (el:=9) kr kr kr hk12 (by simp))) kr) ?_;refine JF (n:=28) AC 1 [(3,hd 0 (c1.map AA.enc)),(5,.pt 1 0 0),(6,.sl 5 (x0.map AA.enc)),(7,.j (x0.length:Int)),(8,.j c2),(20,.rf 4 0 ((v4.2.2.2.1.length:Int).toNat) ((v4.2.2.2.1++[[115,112,97,114,101]]).length)),(21,.pt 1 0 3)] [mk 5 60 (c1.map AA.enc),some ⟨5,60,[.ag [.v (.int .u8 v4.1),.st v4.2.1,.b v4.2.2.1,.sl 1 (v4.2.2.2.1.map cdS.enc),.j v4.2.2.2.2]],false⟩,mk 1 9 ([[115,112,97,114,101]].map cdS.enc),none,some ⟨1,9,((v4.2.2.2.1++[[115,112,97,114,101]]).map cdS.enc),false⟩] kr kr ?_;refine RunDX.tail rfl ?_;refine AD (n:=28) AC 1 [(3,hd 0 (c1.map AA.enc)),(5,.pt 1 0 0),(6,.sl 5 (x0.map AA.enc)),(7,.j (x0.length:Int)),(8,.j c2)] [mk 5 60 (c1.map AA.enc),some ⟨5,60,[.ag [.v (.int .u8 v4.1),.st v4.2.1,.b v4.2.2.1,.rf 4 0 ((v4.2.2.2.1.length:Int).toNat) ((v4.2.2.2.1++[[115,112,97,114,101]]).length),.j v4.2.2.2.2]],false⟩,mk 1 9 ([[115,112,97,114,101]].map cdS.enc),none,some ⟨1,9,((v4.2.2.2.1++[[115,112,97,114,101]]).map cdS.enc),false⟩] kr ?_;exact AI rfl (Ar [0,1,4] ⟨⟨_,rfl,MY⟩,⟨_,rfl,HS⟩,⟨_,rfl,Uy⟩,trivial⟩ ⟨Ma (b':=0) kr kr,lv,lv,lv,lv,trivial⟩)
   by_cases hk15:(EK 64 (c1.length + 1))=true
   case neg=>rw [if_neg hk15] at h; cases h
   rw [if_pos hk15] at h;refine AM (s1:=⟨Fr 28 [(3,hd 0 ((c1++[(v4.1,v4.2.1,v4.2.2.1,((v4.2.2.2.1++[[115,112,97,114,101]]).take ((v4.2.2.2.1.length:Int).toNat)),v4.2.2.2.2)]).map AA.enc)),(6,.sl 5 (x0.map AA.enc)),(7,.j (x0.length:Int)),(8,.j c2)],[mk 5 60 ((c1++[(v4.1,v4.2.1,v4.2.2.1,((v4.2.2.2.1++[[115,112,97,114,101]]).take ((v4.2.2.2.1.length:Int).toNat)),v4.2.2.2.2)]).map AA.enc)]⟩) ?_ ?_
   ·refine AD (n:=28) AC 2 [(6,.sl 5 (x0.map AA.enc)),(7,.j (x0.length:Int)),(8,.j c2),(22,hd 0 (c1.map AA.enc)),(23,.ag [.v (.int .u8 v4.1),.st v4.2.1,.b v4.2.2.1,.rf 2 0 ((v4.2.2.2.1.length:Int).toNat) ((v4.2.2.2.1++[[115,112,97,114,101]]).length),.j v4.2.2.2.2])] [mk 5 60 (c1.map AA.enc),some ⟨5,60,[.ag [.v (.int .u8 v4.1),.st v4.2.1,.b v4.2.2.1,.rf 2 0 ((v4.2.2.2.1.length:Int).toNat) ((v4.2.2.2.1++[[115,112,97,114,101]]).length),.j v4.2.2.2.2]],false⟩,some ⟨1,9,((v4.2.2.2.1++[[115,112,97,114,101]]).map cdS.enc),false⟩] kr ?_
    refine ABr (s1:=⟨Fr 28 [(6,.sl 5 (x0.map AA.enc)),(7,.j (x0.length:Int)),(8,.j c2),(22,hd 0 (c1.map AA.enc)),(23,.ag [.v (.int .u8 v4.1),.st v4.2.1,.b v4.2.2.1,.sl 1 (((v4.2.2.2.1++[[115,112,97,114,101]]).take ((v4.2.2.2.1.length:Int).toNat)).map cdS.enc),.j v4.2.2.2.2])],[mk 5 60 (c1.map AA.enc),some ⟨5,60,[.ag [.v (.int .u8 v4.1),.st v4.2.1,.b v4.2.2.1,.sl 1 (((v4.2.2.2.1++[[115,112,97,114,101]]).take ((v4.2.2.2.1.length:Int).toNat)).map cdS.enc),.j v4.2.2.2.2]],false⟩,none]⟩) (AAM 2 (.inl kr) ⟨.inr (.inl rfl),.inr (.inr ⟨_,_,_,_,rfl,rfl,⟨(.inr ⟨_,_,rfl,rfl,⟨.inl rfl,.inl rfl,.inl rfl,ABZ (c:=cdS) (xs:=(v4.2.2.2.1++[[115,112,97,114,101]])) (t:=9) kr (NV hk7).2.2.2,.inl rfl,trivial⟩⟩),trivial⟩⟩),.inl rfl,trivial⟩ ⟨⟨.sl 5 (x0.map AA.enc),kr,(.inl (.inl rfl))⟩,⟨.j (x0.length:Int),kr,(.inl (.inl rfl))⟩,⟨.j c2,kr,(.inl (.inl rfl))⟩,⟨hd 0 (c1.map AA.enc),kr,(.inl (.inl rfl))⟩,⟨.ag [.v (.int .u8 v4.1),.st v4.2.1,.b v4.2.2.1,.rf 2 0 ((v4.2.2.2.1.length:Int).toNat) ((v4.2.2.2.1++[[115,112,97,114,101]]).length),.j v4.2.2.2.2],kr,(.inr ⟨_,_,rfl,rfl,⟨.inl rfl,.inl rfl,.inl rfl,ABZ (c:=cdS) (xs:=(v4.2.2.2.1++[[115,112,97,114,101]])) (t:=9) kr (NV hk7).2.2.2,.inl rfl,trivial⟩⟩)⟩,trivial⟩) ?_;refine AD (n:=28) AC 1 [(6,.sl 5 (x0.map AA.enc)),(7,.j (x0.length:Int)),(8,.j c2),(22,hd 0 (c1.map AA.enc)),(24,hd 3 ([(v4.1,v4.2.1,v4.2.2.1,((v4.2.2.2.1++[[115,112,97,114,101]]).take ((v4.2.2.2.1.length:Int).toNat)),v4.2.2.2.2)].map AA.enc))] [mk 5 60 (c1.map AA.enc),some ⟨5,60,[.ag [.v (.int .u8 v4.1),.st v4.2.1,.b v4.2.2.1,.sl 1 (((v4.2.2.2.1++[[115,112,97,114,101]]).take ((v4.2.2.2.1.length:Int).toNat)).map cdS.enc),.j v4.2.2.2.2]],false⟩,none,mk 5 60 ([(v4.1,v4.2.1,v4.2.2.1,((v4.2.2.2.1++[[115,112,97,114,101]]).take ((v4.2.2.2.1.length:Int).toNat)),v4.2.2.2.2)].map AA.enc)] kr ?_;refine AZ AC 0 rfl (S4 (AB rfl) rfl kr kr (Dq (a:=hd 0 (c1.map AA.enc)) (b:=hd 3 ([(v4.1,v4.2.1,v4.2.2.1,((v4.2.2.2.1++[[115,112,97,114,101]]).take ((v4.2.2.2.1.length:Int).toNat)),v4.2.2.2.2)].map AA.enc)) kr kr (PY (c:=AA) (xs:=c1) (vs:=[(v4.1,v4.2.1,v4.2.2.1,((v4.2.2.2.1++[[115,112,97,114,101]]).take ((v4.2.2.2.1.length:Int).toNat)),v4.2.2.2.2)]) (k:=5) (bytes:=64) (el:=60) kr kr (IC (t:=60) kr) (List.cons_ne_nil _ _) kr hk15))) ?_
    refine AD (n:=28) AC 1 [(3,hd 4 ((c1++[(v4.1,v4.2.1,v4.2.2.1,((v4.2.2.2.1++[[115,112,97,114,101]]).take ((v4.2.2.2.1.length:Int).toNat)),v4.2.2.2.2)]).map AA.enc)),(6,.sl 5 (x0.map AA.enc)),(7,.j (x0.length:Int)),(8,.j c2)] [none,some ⟨5,60,[.ag [.v (.int .u8 v4.1),.st v4.2.1,.b v4.2.2.1,.sl 1 (((v4.2.2.2.1++[[115,112,97,114,101]]).take ((v4.2.2.2.1.length:Int).toNat)).map cdS.enc),.j v4.2.2.2.2]],false⟩,none,mk 5 60 ([(v4.1,v4.2.1,v4.2.2.1,((v4.2.2.2.1++[[115,112,97,114,101]]).take ((v4.2.2.2.1.length:Int).toNat)),v4.2.2.2.2)].map AA.enc),mk 5 60 ((c1++[(v4.1,v4.2.1,v4.2.2.1,((v4.2.2.2.1++[[115,112,97,114,101]]).take ((v4.2.2.2.1.length:Int).toNat)),v4.2.2.2.2)]).map AA.enc)] kr ?_;exact AI rfl (Ar [4] ⟨⟨_,rfl,MY⟩,trivial⟩ ⟨Ma (b':=4) kr kr,lv,lv,lv,trivial⟩)
   refine D1 AC [(3,hd 0 ((c1++[(v4.1,v4.2.1,v4.2.2.1,((v4.2.2.2.1++[[115,112,97,114,101]]).take ((v4.2.2.2.1.length:Int).toNat)),v4.2.2.2.2)]).map AA.enc)),(6,.sl 5 (x0.map AA.enc)),(7,.j (x0.length:Int)),(8,.j (wr .i64 (c2 + 1)))] [mk 5 60 ((c1++[(v4.1,v4.2.1,v4.2.2.1,((v4.2.2.2.1++[[115,112,97,114,101]]).take ((v4.2.2.2.1.length:Int).toNat)),v4.2.2.2.2)]).map AA.enc)] ?_;exact Aq (s1:=⟨Fr 28 [(3,hd 0 ((c1++[(v4.1,v4.2.1,v4.2.2.1,((v4.2.2.2.1++[[115,112,97,114,101]]).take ((v4.2.2.2.1.length:Int).toNat)),v4.2.2.2.2)]).map AA.enc)),(6,.sl 5 (x0.map AA.enc)),(7,.j (x0.length:Int)),(8,.j (wr .i64 (c2 + 1)))],[mk 5 60 ((c1++[(v4.1,v4.2.1,v4.2.2.1,((v4.2.2.2.1++[[115,112,97,114,101]]).take ((v4.2.2.2.1.length:Int).toNat)),v4.2.2.2.2)]).map AA.enc)]⟩) (Ar [0] ⟨⟨_,rfl,MY⟩,trivial⟩ ⟨Ma (b':=0) kr kr,lv,lv,lv,trivial⟩) (ih (c1++[(v4.1,v4.2.1,v4.2.2.1,((v4.2.2.2.1++[[115,112,97,114,101]]).take ((v4.2.2.2.1.length:Int).toNat)),v4.2.2.2.2)]) (wr .i64 (c2 + 1)) h)
  ·rw [Bm hb3] at h
   refine C6 ?_;have hq:=OI h; subst hq;exact ⟨rfl,(Ar [0] ⟨⟨_,rfl,MY⟩,trivial⟩ ⟨Ma (b':=0) kr kr,trivial⟩)⟩
theorem UY (x0:(List AF)) (r:(List AF)) (h:KJ x0=some r):Sem E0 ⟨none,false⟩ Nh ⟨Fr 28 (A6 0 (Nm.enc (x0,()))),[]⟩ fun e s'=>(e = .normal\/e = .ret)/\∃ xs,EZ E0.P s'.fr s'.hp Tryz.f59.results.toList=some xs/\Ee xs=Nu r:=by
 unfold KJ at h
 let p1:Nat×AV:=(0,.sl 5 (x0.map AA.enc))
 refine Ax (BY (s1:=⟨Fr 28 [p1],[]⟩) AJ ?_);refine AK AC [p1] [] ?_;refine AK AC [p1,(3,.e0)] [] ?_;refine AH ?_;refine AH ?_
 let p2:Nat×AV:=(8,.j 0)
 let p3:Nat×AV:=(7,.j (x0.length:Int))
 let p4:Nat×AV:=(6,.sl 5 (x0.map AA.enc))
 refine AM (s1:=⟨Fr 28 [(3,.e0),p4,p3,p2],[]⟩) ?_ ?_
 ·refine AD (n:=28) AC 1 [(3,.e0),p4] [] kr ?_
  refine AZ AC 0 rfl (DR (AB rfl) rfl (C3 (a:= .sl 5 (x0.map AA.enc)) kr (Bn (el:=60) kr))) ?_;exact Ad AC
 refine Al ?_;obtain ⟨r17,hr17,h⟩:=OB h;refine DB (n:=100000) ?_
 let p5:Nat×AV:=(3,hd 0 ([].map AA.enc))
 refine BB (Aq (s1:=⟨Fr 28 [p5,p4,p3,p2],[mk 5 60 ([].map AA.enc)]⟩) (Wk.trans (s1:=⟨Fr 28 [p5,p4,p3,p2],[mk 5 60 ([].map AA.enc)]⟩) Wk.none (Ar [0] ⟨⟨_,rfl,P7⟩,trivial⟩ ⟨lv,lv,lv,lv,trivial⟩)) (ST x0 _ [] 0 _ hr17)) ?_;refine AK AC [(2,hd 0 (r17.map AA.enc))] [mk 5 60 (r17.map AA.enc)] ?_;refine AR ?_;have hq:=OI h; subst hq
 let p6:Nat×AV:=(2,.sl 5 (r17.map AA.enc))
 exact ⟨⟨Fr 28 [p6],[]⟩,(Wk.trans (s1:=⟨Fr 28 [p6],[none]⟩) (M0 0 (.inl kr) ⟨.inl rfl,trivial⟩ ⟨⟨hd 0 (r17.map AA.enc),kr,Yh (t:=60) kr Px⟩,trivial⟩) (Ar [] trivial ⟨lv,trivial⟩)),.inr rfl,[.sl 5 (r17.map AA.enc)],kr,kr⟩
def Ws:List AV->Option AV:=ES Nm (fun a=>KJ a.1) Nu
theorem W4:XOk 59 Ws:=by
 refine AU Tryz.func59 (c:=Nh) ?h2 ⟨Tryz.call59⟩ Nm (fun a=>KJ a.1) Nu (fun a=>(by show 1<=28; decide)) ?h3 ?h4
 case h2=>kernel_rfl
 case h3=>intro b; kernel_rfl
 case h4=>exact fun a b h=>UY a.1 b h
/- trestle/trestlelaw03.CopyAll -/
noncomputable def Ko:Code:=BL Tryz.f91
def EG (x0:(List (List AF))):Nat->(List (List AF))->Int->Option (((List (List AF))))
 | 0,_,_=>none
 | f + 1,c1,c2 =>
  if (decide (c2 < (x0.length:Int)))=true then
  (idx x0 c2).bind fun v4 =>
  (KJ v4).bind fun v5 =>
  if (EK 24 (c1.length + 1))=true then
  EG x0 f (c1++[v5]) (wr .i64 (c2 + 1))
  else none
  else
  some c1
def Hx (x0:(List (List AF))):Option ((List (List AF))) :=
 (EG x0 100000 [] 0).bind fun r8 =>
 some r8
def K7:Cs ((List (List AF))×Unit):=(csC (cdL 1 (cdL 5 AA)) csN)
def LT (r:(List (List AF))):AV:=(cdL 1 (cdL 5 AA)).enc r
theorem QM (x0:(List (List AF))):∀ (f:Nat) (c1:(List (List AF))) (c2:Int) (r:((List (List AF)))),EG x0 f c1 c2=some r->SemN E0 ⟨none,false⟩ (pc Ko [1,1,0,1,0,0]) f ⟨Fr 19 [(3,hd 0 (c1.map (cdL 5 AA).enc)),(6,.sl 1 (x0.map (cdL 5 AA).enc)),(7,.j (x0.length:Int)),(8,.j c2)],[mk 1 22 (c1.map (cdL 5 AA).enc)]⟩ (fun e s=>e=(.exit 0)/\Wk E0 s ⟨Fr 19 [(3,hd 0 (r.map (cdL 5 AA).enc))],[mk 1 22 (r.map (cdL 5 AA).enc)]⟩):=by
 intro f;induction f with
 | zero=>intro c1 c2 r h; cases h
 | succ f ih0 =>
  intro c1 c2 r h
  have ih:=fun (c1:(List (List AF))) (c2:Int)=>ih0 c1 c2 r
  unfold EG at h;refine CI ?_
  let p1:Option Blk:=mk 1 22 (c1.map (cdL 5 AA).enc)
  let p2:Nat×AV:=(8,.j c2)
  let p3:Nat×AV:=(7,.j (x0.length:Int))
  let p4:Nat×AV:=(6,.sl 1 (x0.map (cdL 5 AA).enc))
  let p5:Nat×AV:=(3,hd 0 (c1.map (cdL 5 AA).enc))
  refine AK AC [p5,p4,p3,p2,(9,.b (decide (c2 < (x0.length:Int))))] [p1] ?_;refine AH ?_;refine AT (b:=(decide (c2 < (x0.length:Int)))) kr (fun hb3=>?_) (fun hb3=>?_)
  ·rw [if_pos hb3] at h
   refine AY ?_;refine AH ?_;refine Al ?_;refine AH ?_;obtain ⟨v4,hv4,h⟩:=OB h;refine AM (s1:=⟨Fr 19 [p5,(5,.sl 5 (v4.map AA.enc)),p4,p3,p2],[p1]⟩) ?_ ?_
   ·refine AZ AC 0 rfl (DR (AB rfl) rfl (AP (a:= .sl 1 (x0.map (cdL 5 AA).enc)) (b:= .j c2) kr kr (Di (e:=(cdL 5 AA).enc) (el:=22) (k:=1) (ki:= .i64) kr kr hv4))) ?_
    exact Ad AC
   obtain ⟨v5,hv5,h⟩:=OB h;by_cases hk6:(EK 24 (c1.length + 1))=true
   case neg=>rw [if_neg hk6] at h; cases h
   rw [if_pos hk6] at h
   let p6:Option Blk:=mk 1 22 ((c1++[v5]).map (cdL 5 AA).enc)
   let p7:Nat×AV:=(3,hd 0 ((c1++[v5]).map (cdL 5 AA).enc))
   refine AM (s1:=⟨Fr 19 [p7,p4,p3,p2],[p6]⟩) ?_ ?_
   ·let p8:Nat×AV:=(12,hd 0 (c1.map (cdL 5 AA).enc))
    refine AD (n:=19) AC 2 [p4,p3,p2,p8,(13,.sl 5 (v4.map AA.enc))] [p1] kr ?_;refine AS (caps:=[]) (xs:=[.sl 5 (v4.map AA.enc)]) (u:=(v4,())) rfl rfl W4 rfl (AB rfl) kr kr (AL (AW (c:=(cdL 5 AA)) (v:=v4)) Ao) (.inr kr) hv5 ?_
    let p9:Option Blk:=mk 1 22 ([v5].map (cdL 5 AA).enc)
    refine AD (n:=19) AC 1 [p4,p3,p2,p8,(15,hd 1 ([v5].map (cdL 5 AA).enc))] [p1,p9] kr ?_;refine AZ AC 0 rfl (S4 (AB rfl) rfl kr kr (Dq (a:=hd 0 (c1.map (cdL 5 AA).enc)) (b:=hd 1 ([v5].map (cdL 5 AA).enc)) kr kr (PY (c:=(cdL 5 AA)) (xs:=c1) (vs:=[v5]) (k:=1) (bytes:=24) (el:=22) kr kr (IC (t:=22) kr) (List.cons_ne_nil _ _) kr hk6))) ?_;refine AD (n:=19) AC 1 [(3,hd 2 ((c1++[v5]).map (cdL 5 AA).enc)),p4,p3,p2] [none,p9,p6] kr ?_;exact AI rfl (Ar [2] ⟨⟨_,rfl,MY⟩,trivial⟩ ⟨Ma (b':=2) kr kr,lv,lv,lv,trivial⟩)
   let p10:Nat×AV:=(8,.j (wr .i64 (c2 + 1)))
   refine D1 AC [p7,p4,p3,p10] [p6] ?_;exact Aq (s1:=⟨Fr 19 [p7,p4,p3,p10],[p6]⟩) (Ar [0] ⟨⟨_,rfl,MY⟩,trivial⟩ ⟨Ma (b':=0) kr kr,lv,lv,lv,trivial⟩) (ih (c1++[v5]) (wr .i64 (c2 + 1)) h)
  ·rw [Bm hb3] at h
   refine C6 ?_;have hq:=OI h; subst hq;exact ⟨rfl,(Ar [0] ⟨⟨_,rfl,MY⟩,trivial⟩ ⟨Ma (b':=0) kr kr,trivial⟩)⟩
theorem Rg (x0:(List (List AF))) (r:(List (List AF))) (h:Hx x0=some r):Sem E0 ⟨none,false⟩ Ko ⟨Fr 19 (A6 0 (K7.enc (x0,()))),[]⟩ fun e s'=>(e = .normal\/e = .ret)/\∃ xs,EZ E0.P s'.fr s'.hp Tryz.f91.results.toList=some xs/\Ee xs=LT r:=by
 unfold Hx at h
 let p1:Nat×AV:=(0,.sl 1 (x0.map (cdL 5 AA).enc))
 refine Ax (BY (s1:=⟨Fr 19 [p1],[]⟩) AJ ?_);refine AK AC [p1] [] ?_;refine AK AC [p1,(3,.e0)] [] ?_;refine AH ?_;refine AH ?_
 let p2:Nat×AV:=(8,.j 0)
 let p3:Nat×AV:=(7,.j (x0.length:Int))
 let p4:Nat×AV:=(6,.sl 1 (x0.map (cdL 5 AA).enc))
 refine AM (s1:=⟨Fr 19 [(3,.e0),p4,p3,p2],[]⟩) ?_ ?_
 ·refine AD (n:=19) AC 1 [(3,.e0),p4] [] kr ?_
  refine AZ AC 0 rfl (DR (AB rfl) rfl (C3 (a:= .sl 1 (x0.map (cdL 5 AA).enc)) kr (Bn (el:=22) kr))) ?_;exact Ad AC
 refine Al ?_;obtain ⟨r8,hr8,h⟩:=OB h;refine DB (n:=100000) ?_
 let p5:Option Blk:=mk 1 22 ([].map (cdL 5 AA).enc)
 let p6:Nat×AV:=(3,hd 0 ([].map (cdL 5 AA).enc))
 refine BB (Aq (s1:=⟨Fr 19 [p6,p4,p3,p2],[p5]⟩) (Wk.trans (s1:=⟨Fr 19 [p6,p4,p3,p2],[p5]⟩) Wk.none (Ar [0] ⟨⟨_,rfl,P7⟩,trivial⟩ ⟨lv,lv,lv,lv,trivial⟩)) (QM x0 _ [] 0 _ hr8)) ?_;refine AK AC [(2,hd 0 (r8.map (cdL 5 AA).enc))] [mk 1 22 (r8.map (cdL 5 AA).enc)] ?_;refine AR ?_;have hq:=OI h; subst hq
 let p7:Nat×AV:=(2,.sl 1 (r8.map (cdL 5 AA).enc))
 exact ⟨⟨Fr 19 [p7],[]⟩,(Wk.trans (s1:=⟨Fr 19 [p7],[none]⟩) (M0 0 (.inl kr) ⟨.inl rfl,trivial⟩ ⟨⟨hd 0 (r8.map (cdL 5 AA).enc),kr,Yh (t:=22) kr Px⟩,trivial⟩) (Ar [] trivial ⟨lv,trivial⟩)),.inr rfl,[.sl 1 (r8.map (cdL 5 AA).enc)],kr,kr⟩
def T1:List AV->Option AV:=ES K7 (fun a=>Hx a.1) LT
theorem UN:XOk 91 T1:=by
 refine AU Tryz.func91 (c:=Ko) ?h2 ⟨Tryz.call91⟩ K7 (fun a=>Hx a.1) LT (fun a=>(by show 1<=19; decide)) ?h3 ?h4
 case h2=>kernel_rfl
 case h3=>intro b; kernel_rfl
 case h4=>exact fun a b h=>Rg a.1 b h
/- trestle/trestlekit.CopyWords -/
noncomputable def Km:Code:=BL Tryz.f148
def Eq (x0:(List (List UInt8))):Nat->(List (List UInt8))->Int->Option (((List (List UInt8))))
 | 0,_,_=>none
 | f + 1,c1,c2 =>
  if (decide (c2 < (x0.length:Int)))=true then
  (idx x0 c2).bind fun v4 =>
  if (EK 16 (c1.length + 1))=true then
  Eq x0 f (c1++[v4]) (wr .i64 (c2 + 1))
  else none
  else
  some c1
def Io (x0:(List (List UInt8))):Option ((List (List UInt8))) :=
 (Eq x0 200000000000000 [] 0).bind fun r7 =>
 some r7
def K4:Cs ((List (List UInt8))×Unit):=(csC (cdL 1 cdS) csN)
def LP (r:(List (List UInt8))):AV:=(cdL 1 cdS).enc r
theorem QL (x0:(List (List UInt8))):∀ (f:Nat) (c1:(List (List UInt8))) (c2:Int) (r:((List (List UInt8)))),Eq x0 f c1 c2=some r->SemN E0 ⟨none,false⟩ (pc Km [1,1,0,1,0,0]) f ⟨Fr 19 [(0,.sl 1 (x0.map cdS.enc)),(3,hd 0 (c1.map cdS.enc)),(4,.j c2)],[mk 1 9 (c1.map cdS.enc)]⟩ (fun e s=>e=(.exit 0)/\Wk E0 s ⟨Fr 19 [(3,hd 0 (r.map cdS.enc))],[mk 1 9 (r.map cdS.enc)]⟩):=by
 intro f;induction f with
 | zero=>intro c1 c2 r h; cases h
 | succ f ih0 =>
  intro c1 c2 r h
  have ih:=fun (c1:(List (List UInt8))) (c2:Int)=>ih0 c1 c2 r
  unfold Eq at h;refine CI ?_;refine AH ?_;refine AH ?_
  let p1:Option Blk:=mk 1 9 (c1.map cdS.enc)
  let p2:Nat×AV:=(4,.j c2)
  let p3:Nat×AV:=(0,.sl 1 (x0.map cdS.enc))
  refine AM (s1:=⟨Fr 19 [p3,(3,hd 0 (c1.map cdS.enc)),p2,(8,.b (decide (c2 < (x0.length:Int))))],[p1]⟩) ?_ ?_
  ·refine AD (n:=19) AC 2 [p3,(3,hd 0 (c1.map cdS.enc)),p2,(5,.j c2),(6,.sl 1 (x0.map cdS.enc))] [p1] kr ?_
   refine AZ AC 0 rfl (DR (AB rfl) rfl (C3 (a:= .sl 1 (x0.map cdS.enc)) kr (Bn (el:=9) kr))) ?_;exact Ad AC
  refine AT (b:=(decide (c2 < (x0.length:Int)))) kr (fun hb3=>?_) (fun hb3=>?_)
  ·rw [if_pos hb3] at h
   refine AY ?_;refine AH ?_;refine Al ?_;obtain ⟨v4,hv4,h⟩:=OB h;by_cases hk5:(EK 16 (c1.length + 1))=true
   case neg=>rw [if_neg hk5] at h; cases h
   rw [if_pos hk5] at h
   let p4:Option Blk:=mk 1 9 ((c1++[v4]).map cdS.enc)
   let p5:Nat×AV:=(3,hd 0 ((c1++[v4]).map cdS.enc))
   refine AM (s1:=⟨Fr 19 [p3,p5,p2],[p4]⟩) ?_ ?_
   ·refine AD (n:=19) AC 3 [p3,p2,(11,hd 0 (c1.map cdS.enc)),(12,.sl 1 (x0.map cdS.enc)),(13,.j c2)] [p1] kr ?_
    refine AZ AC 0 rfl (DR (AB rfl) rfl (AP (a:= .sl 1 (x0.map cdS.enc)) (b:= .j c2) kr kr (Di (e:=cdS.enc) (el:=9) (k:=1) (ki:= .i64) kr kr hv4))) ?_;refine AD (n:=19) AC 2 [p3,p2,(11,hd 0 (c1.map cdS.enc)),(16,hd 1 ([v4].map cdS.enc))] [p1,mk 1 9 ([v4].map cdS.enc)] kr ?_;refine AZ AC 0 rfl (S4 (AB rfl) rfl kr kr (Dq (a:=hd 0 (c1.map cdS.enc)) (b:=hd 1 ([v4].map cdS.enc)) kr kr (PY (c:=cdS) (xs:=c1) (vs:=[v4]) (k:=1) (bytes:=16) (el:=9) kr kr (IC (t:=9) kr) (List.cons_ne_nil _ _) kr hk5))) ?_;refine AD (n:=19) AC 1 [p3,(3,hd 2 ((c1++[v4]).map cdS.enc)),p2] [none,mk 1 9 ([v4].map cdS.enc),p4] kr ?_;exact AI rfl (Ar [2] ⟨⟨_,rfl,MY⟩,trivial⟩ ⟨lv,Ma (b':=2) kr kr,lv,trivial⟩)
   let p6:Nat×AV:=(4,.j (wr .i64 (c2 + 1)))
   refine D1 AC [p3,p5,p6] [p4] ?_;exact Aq (s1:=⟨Fr 19 [p3,p5,p6],[p4]⟩) (Ar [0] ⟨⟨_,rfl,MY⟩,trivial⟩ ⟨lv,Ma (b':=0) kr kr,lv,trivial⟩) (ih (c1++[v4]) (wr .i64 (c2 + 1)) h)
  ·rw [Bm hb3] at h
   refine C6 ?_;have hq:=OI h; subst hq;exact ⟨rfl,(Ar [0] ⟨⟨_,rfl,MY⟩,trivial⟩ ⟨Ma (b':=0) kr kr,trivial⟩)⟩
theorem Ra (x0:(List (List UInt8))) (r:(List (List UInt8))) (h:Io x0=some r):Sem E0 ⟨none,false⟩ Km ⟨Fr 19 (A6 0 (K4.enc (x0,()))),[]⟩ fun e s'=>(e = .normal\/e = .ret)/\∃ xs,EZ E0.P s'.fr s'.hp Tryz.f148.results.toList=some xs/\Ee xs=LP r:=by
 unfold Io at h
 let p1:Nat×AV:=(0,.sl 1 (x0.map cdS.enc))
 refine Ax (BY (s1:=⟨Fr 19 [p1],[]⟩) AJ ?_);refine AK AC [p1] [] ?_;refine AK AC [p1,(3,.e0)] [] ?_;refine AH ?_
 let p2:Nat×AV:=(4,.j 0)
 refine AK AC [p1,(3,.e0),p2] [] ?_;refine Al ?_;obtain ⟨r7,hr7,h⟩:=OB h;refine DB (n:=200000000000000) ?_;refine BB (Aq (s1:=⟨Fr 19 [p1,(3,hd 0 ([].map cdS.enc)),p2],[mk 1 9 ([].map cdS.enc)]⟩) (Wk.trans (s1:=⟨Fr 19 [p1,(3,hd 0 ([].map cdS.enc)),p2],[mk 1 9 ([].map cdS.enc)]⟩) Wk.none (Ar [0] ⟨⟨_,rfl,P7⟩,trivial⟩ ⟨lv,lv,lv,trivial⟩)) (QL x0 _ [] 0 _ hr7)) ?_;refine AK AC [(2,hd 0 (r7.map cdS.enc))] [mk 1 9 (r7.map cdS.enc)] ?_;refine AR ?_;have hq:=OI h; subst hq;exact ⟨⟨Fr 19 [(2,.sl 1 (r7.map cdS.enc))],[]⟩,(Wk.trans (s1:=⟨Fr 19 [(2,.sl 1 (r7.map cdS.enc))],[none]⟩) (M0 0 (.inl kr) ⟨.inl rfl,trivial⟩ ⟨⟨hd 0 (r7.map cdS.enc),kr,Yh (t:=9) kr Px⟩,trivial⟩) (Ar [] trivial ⟨lv,trivial⟩)),.inr rfl,[.sl 1 (r7.map cdS.enc)],kr,kr⟩
def Ty:List AV->Option AV:=ES K4 (fun a=>Io a.1) LP
theorem UK:XOk 148 Ty:=by
 refine AU Tryz.func148 (c:=Km) ?h2 ⟨Tryz.call148⟩ K4 (fun a=>Io a.1) LP (fun a=>(by show 1<=19; decide)) ?h3 ?h4
 case h2=>kernel_rfl
 case h3=>intro b; kernel_rfl
 case h4=>exact fun a b h=>Ra a.1 b h
/- trestle/trestlekit.CopyGuest -/
noncomputable def OL:Code:=BL Tryz.f114
def Hu (x0:An):Option (An) :=
 (Io x0.2.2.2.2.2.2.2.2).bind fun v1 =>
 some (x0.1,x0.2.1,x0.2.2.1,x0.2.2.2.1,x0.2.2.2.2.1,x0.2.2.2.2.2.1,x0.2.2.2.2.2.2.1,x0.2.2.2.2.2.2.2.1,v1)
def K3:Cs (An×Unit):=(csC AE csN)
def LO (r:An):AV:=AE.enc r
theorem RZ (x0:An) (r:An) (h:Hu x0=some r):Sem E0 ⟨none,false⟩ OL ⟨Fr 8 (A6 0 (K3.enc (x0,()))),[]⟩ fun e s'=>(e = .normal\/e = .ret)/\∃ xs,EZ E0.P s'.fr s'.hp Tryz.f114.results.toList=some xs/\Ee xs=LO r:=by
 unfold Hu at h;refine Ax (BY (s1:=⟨Fr 8 [(0,AE.enc x0)],[]⟩) AJ ?_)
 let p1:Option Blk:=some ⟨9,42,[.ag [.st [],.st [],.st [],.j 0,.j 0,.st [],.b false,.b false,.e0]],false⟩
 let p2:Option Blk:=some ⟨9,42,[AE.enc x0],false⟩
 let p3:Nat×AV:=(2,.pt 1 0 0)
 refine AK AC [(1,.pt 0 0 0),p3] [p2,p1] ?_;refine AH ?_;obtain ⟨v1,hv1,h⟩:=OB h
 let p4:Option Blk:=some ⟨9,42,[.ag [.st x0.1,.st x0.2.1,.st x0.2.2.1,.j x0.2.2.2.1,.j x0.2.2.2.2.1,.st x0.2.2.2.2.2.1,.b x0.2.2.2.2.2.2.1,.b x0.2.2.2.2.2.2.2.1,.sl 1 (v1.map cdS.enc)]],false⟩
 refine AM (s1:=⟨Fr 8 [(1,.pt 0 0 0),p3],[p4,p1]⟩) ?_ ?_
 ·refine AD (n:=8) AC 2 [(1,.pt 0 0 0),p3,(4,.sl 1 (x0.2.2.2.2.2.2.2.2.map cdS.enc))] [p2,p1] kr ?_
  refine AS (caps:=[]) (xs:=[.sl 1 (x0.2.2.2.2.2.2.2.2.map cdS.enc)]) (u:=(x0.2.2.2.2.2.2.2.2,())) rfl rfl UK rfl (AB rfl) kr kr (AL (AW (c:=(cdL 1 cdS)) (v:=x0.2.2.2.2.2.2.2.2)) Ao) (.inr kr) hv1 ?_;exact Ad AC
 refine AH ?_;refine AM (s1:=⟨Fr 8 [(2,.pt 0 0 0)],[p4]⟩) ?_ ?_
 ·refine AD (n:=8) AC 2 [p3] [p4,p4] kr ?_
  exact AI rfl (Ar [1] ⟨⟨_,rfl,HS⟩,trivial⟩ ⟨lv,trivial⟩)
 refine AR ?_;have hq:=OI h; subst hq;exact ⟨⟨Fr 8 [(2,.pt 0 0 0)],[p4]⟩,(Ar [0] ⟨⟨_,rfl,HS⟩,trivial⟩ ⟨lv,trivial⟩),.inr rfl,[.ag [.st x0.1,.st x0.2.1,.st x0.2.2.1,.j x0.2.2.2.1,.j x0.2.2.2.2.1,.st x0.2.2.2.2.2.1,.b x0.2.2.2.2.2.2.1,.b x0.2.2.2.2.2.2.2.1,.sl 1 (v1.map cdS.enc)]],kr,kr⟩
def Tx:List AV->Option AV:=ES K3 (fun a=>Hu a.1) LO
theorem UJ:XOk 114 Tx:=by
 refine AU Tryz.func114 (c:=OL) ?h2 ⟨Tryz.call114⟩ K3 (fun a=>Hu a.1) LO (fun a=>(by show 1<=8; decide)) ?h3 ?h4
 case h2=>kernel_rfl
 case h3=>intro b; kernel_rfl
 case h4=>exact fun a b h=>RZ a.1 b h
/- trestle/trestlekit.CopyGuests -/
noncomputable def J2:Code:=BL Tryz.f60
def Dr (x0:(List An)):Nat->(List An)->Int->Option (((List An)))
 | 0,_,_=>none
 | f + 1,c1,c2 =>
  if (decide (c2 < (x0.length:Int)))=true then
  (idx x0 c2).bind fun v4 =>
  (Hu v4).bind fun v5 =>
  if (EK 112 (c1.length + 1))=true then
  Dr x0 f (c1++[v5]) (wr .i64 (c2 + 1))
  else none
  else
  some c1
def HE (x0:(List An)):Option ((List An)) :=
 (Dr x0 100000 [] 0).bind fun r8 =>
 some r8
def J6:Cs ((List An)×Unit):=(csC (cdL 9 AE) csN)
def KD (r:(List An)):AV:=(cdL 9 AE).enc r
theorem Pi (x0:(List An)):∀ (f:Nat) (c1:(List An)) (c2:Int) (r:((List An))),Dr x0 f c1 c2=some r->SemN E0 ⟨none,false⟩ (pc J2 [1,1,0,1,0,0]) f ⟨Fr 20 [(0,.sl 9 (x0.map AE.enc)),(3,hd 0 (c1.map AE.enc)),(4,.j c2)],[mk 9 42 (c1.map AE.enc)]⟩ (fun e s=>e=(.exit 0)/\Wk E0 s ⟨Fr 20 [(3,hd 0 (r.map AE.enc))],[mk 9 42 (r.map AE.enc)]⟩):=by
 intro f;induction f with
 | zero=>intro c1 c2 r h; cases h
 | succ f ih0 =>
  intro c1 c2 r h
  have ih:=fun (c1:(List An)) (c2:Int)=>ih0 c1 c2 r
  unfold Dr at h;refine CI ?_;refine AH ?_;refine AH ?_
  let p1:Option Blk:=mk 9 42 (c1.map AE.enc)
  let p2:Nat×AV:=(4,.j c2)
  let p3:Nat×AV:=(0,.sl 9 (x0.map AE.enc))
  refine AM (s1:=⟨Fr 20 [p3,(3,hd 0 (c1.map AE.enc)),p2,(8,.b (decide (c2 < (x0.length:Int))))],[p1]⟩) ?_ ?_
  ·refine AD (n:=20) AC 2 [p3,(3,hd 0 (c1.map AE.enc)),p2,(5,.j c2),(6,.sl 9 (x0.map AE.enc))] [p1] kr ?_
   refine AZ AC 0 rfl (DR (AB rfl) rfl (C3 (a:= .sl 9 (x0.map AE.enc)) kr (Bn (el:=42) kr))) ?_;exact Ad AC
  refine AT (b:=(decide (c2 < (x0.length:Int)))) kr (fun hb3=>?_) (fun hb3=>?_)
  ·rw [if_pos hb3] at h
   refine AY ?_;refine AH ?_;refine Al ?_;obtain ⟨v4,hv4,h⟩:=OB h;obtain ⟨v5,hv5,h⟩:=OB h;by_cases hk6:(EK 112 (c1.length + 1))=true
   case neg=>rw [if_neg hk6] at h; cases h
   rw [if_pos hk6] at h
   let p4:Option Blk:=mk 9 42 ((c1++[v5]).map AE.enc)
   let p5:Nat×AV:=(3,hd 0 ((c1++[v5]).map AE.enc))
   refine AM (s1:=⟨Fr 20 [p3,p5,p2],[p4]⟩) ?_ ?_
   ·let p6:Nat×AV:=(11,hd 0 (c1.map AE.enc))
    refine AD (n:=20) AC 3 [p3,p2,p6,(12,.sl 9 (x0.map AE.enc)),(13,.j c2)] [p1] kr ?_;refine AZ AC 0 rfl (DR (AB rfl) rfl (AP (a:= .sl 9 (x0.map AE.enc)) (b:= .j c2) kr kr (Di (e:=AE.enc) (el:=42) (k:=9) (ki:= .i64) kr kr hv4))) ?_;refine AD (n:=20) AC 1 [p3,p2,p6,(15,AE.enc v4)] [p1] kr ?_;refine AS (caps:=[]) (xs:=[AE.enc v4]) (u:=(v4,())) rfl rfl UJ rfl (AB rfl) kr kr (AL (AW (c:=AE) (v:=v4)) Ao) (.inr kr) hv5 ?_;refine AD (n:=20) AC 1 [p3,p2,p6,(17,hd 1 ([v5].map AE.enc))] [p1,mk 9 42 ([v5].map AE.enc)] kr ?_;refine AZ AC 0 rfl (S4 (AB rfl) rfl kr kr (Dq (a:=hd 0 (c1.map AE.enc)) (b:=hd 1 ([v5].map AE.enc)) kr kr (PY (c:=AE) (xs:=c1) (vs:=[v5]) (k:=9) (bytes:=112) (el:=42) kr kr (IC (t:=42) kr) (List.cons_ne_nil _ _) kr hk6))) ?_;refine AD (n:=20) AC 1 [p3,(3,hd 2 ((c1++[v5]).map AE.enc)),p2] [none,mk 9 42 ([v5].map AE.enc),p4] kr ?_;exact AI rfl (Ar [2] ⟨⟨_,rfl,MY⟩,trivial⟩ ⟨lv,Ma (b':=2) kr kr,lv,trivial⟩)
   let p7:Nat×AV:=(4,.j (wr .i64 (c2 + 1)))
   refine D1 AC [p3,p5,p7] [p4] ?_;exact Aq (s1:=⟨Fr 20 [p3,p5,p7],[p4]⟩) (Ar [0] ⟨⟨_,rfl,MY⟩,trivial⟩ ⟨lv,Ma (b':=0) kr kr,lv,trivial⟩) (ih (c1++[v5]) (wr .i64 (c2 + 1)) h)
  ·rw [Bm hb3] at h
   refine C6 ?_;have hq:=OI h; subst hq;exact ⟨rfl,(Ar [0] ⟨⟨_,rfl,MY⟩,trivial⟩ ⟨Ma (b':=0) kr kr,trivial⟩)⟩
theorem Qu (x0:(List An)) (r:(List An)) (h:HE x0=some r):Sem E0 ⟨none,false⟩ J2 ⟨Fr 20 (A6 0 (J6.enc (x0,()))),[]⟩ fun e s'=>(e = .normal\/e = .ret)/\∃ xs,EZ E0.P s'.fr s'.hp Tryz.f60.results.toList=some xs/\Ee xs=KD r:=by
 unfold HE at h
 let p1:Nat×AV:=(0,.sl 9 (x0.map AE.enc))
 refine Ax (BY (s1:=⟨Fr 20 [p1],[]⟩) AJ ?_);refine AK AC [p1] [] ?_;refine AK AC [p1,(3,.e0)] [] ?_;refine AH ?_
 let p2:Nat×AV:=(4,.j 0)
 refine AK AC [p1,(3,.e0),p2] [] ?_;refine Al ?_;obtain ⟨r8,hr8,h⟩:=OB h;refine DB (n:=100000) ?_;refine BB (Aq (s1:=⟨Fr 20 [p1,(3,hd 0 ([].map AE.enc)),p2],[mk 9 42 ([].map AE.enc)]⟩) (Wk.trans (s1:=⟨Fr 20 [p1,(3,hd 0 ([].map AE.enc)),p2],[mk 9 42 ([].map AE.enc)]⟩) Wk.none (Ar [0] ⟨⟨_,rfl,P7⟩,trivial⟩ ⟨lv,lv,lv,trivial⟩)) (Pi x0 _ [] 0 _ hr8)) ?_;refine AK AC [(2,hd 0 (r8.map AE.enc))] [mk 9 42 (r8.map AE.enc)] ?_;refine AR ?_;have hq:=OI h; subst hq
 let p3:Nat×AV:=(2,.sl 9 (r8.map AE.enc))
 exact ⟨⟨Fr 20 [p3],[]⟩,(Wk.trans (s1:=⟨Fr 20 [p3],[none]⟩) (M0 0 (.inl kr) ⟨.inl rfl,trivial⟩ ⟨⟨hd 0 (r8.map AE.enc),kr,Yh (t:=42) kr Px⟩,trivial⟩) (Ar [] trivial ⟨lv,trivial⟩)),.inr rfl,[.sl 9 (r8.map AE.enc)],kr,kr⟩
def Sd:List AV->Option AV:=ES J6 (fun a=>HE a.1) KD
theorem Si:XOk 60 Sd:=by
 refine AU Tryz.func60 (c:=J2) ?h2 ⟨Tryz.call60⟩ J6 (fun a=>HE a.1) KD (fun a=>(by show 1<=20; decide)) ?h3 ?h4
 case h2=>kernel_rfl
 case h3=>intro b; kernel_rfl
 case h4=>exact fun a b h=>Qu a.1 b h
section
variable {E:Env}{cx:Cx}{ops:Array Oper}{rest rest':List Oper}{K:St->Prop}{n n0 k:Nat}{l:List (Nat×AV)}{hp:Hp}{α β:Type}{s:Cs α}{F:α->Option β}{er:β->AV}{u:α}{v:β}{fid:FuncId}{w:World}{Z:Nat->Prop}{R:List RI}
theorem AEw (hX:XOk fid (ES s F er)) (hh:HR w Z R hp) (hg:GI E0 w Z){xs:List AV}{us:List Value}(hvs:VRs w Z R xs us) (hv:SeesD hp s xs u) (hok:Gk (er v)=true\/xs.all F3=true/\s.dec xs=some u) (hF:F u=some v) :
  Ret E0.P fid us.toArray w fun x w'=>∃ Z',HR w' Z' R hp/\VR w' Z' R (er v) x/\Step w Z R hp w' Z' R hp/\w.grownBy w' none/\(Gk (er v)=true->Z'=Z):=by
 by_cases hf:Gk (er v)=true
 ·obtain ⟨ys,hv,hd⟩:=hv
  have hz1:∀ c,(Z c\/own R hp c)->c < w.heap.size:=fun c hc=>hc.elim (hh.zlt c) (fun ⟨b,B,r,h1,_,h3,h4⟩=>h4 ▸ hh.rltL h1 h3)
  have hg1:GI E0 w (fun c=>Z c\/own R hp c):=fun q y hy=>(hg q y hy).mono (fun _ _=>rfl) (fun _ h=> .inl h) (fun _ _ h=>h)
  refine Ret.mono (hX.2 ys (er v) (N4 hd hF) w _ us hz1 hg1 (hv w Z R us hh hvs)) fun x w' ⟨hs,hx⟩=>?_
  exact ⟨Z,hh.keep hs.size (fun c hc=>hs.block c hc (by simp)),QH hf hx,⟨hs.os,hs.tape,hs.output,hs.size,fun c hc _=>hs.block c hc (by simp),fun _ h=> .inl h,fun _ h=>h,fun _ h=> .inl h,fun _ _ h=>h⟩,hs,fun _=>rfl⟩
 ·obtain ⟨hn,hd⟩:=hok.resolve_left hf
  refine Ret.mono (hX.2 xs (er v) (N4 hd hF) w Z us hh.zlt hg (Vf hn hvs)) fun x w' ⟨hs,hx⟩=>?_
  obtain ⟨k1,k2⟩:=hh.addZ hs
  exact ⟨_,k1,hx.up,k2,hs,fun h=>absurd h hf⟩
theorem AFd (hP:E.P=E0.P) (hG:E.G=E0.G){caps xs:List AV}{d:Option Nat}{f:Operand}{args:Array Operand}{tys:Array TypeId}{ty:TypeId}{pos:String}{af:Array Edge}{g:Option (Nat×Bool)}{base:Bs}{a:Act}(hX:XOk fid (ES s F er)) (sr:SR E base w Z R ⟨Fr n l,hp⟩ a)
  (hf:opA E (Fr n l) f=some (.fn fid [] caps)) (ha:MR (opA E (Fr n l)) args.toList=some xs) (hv:SeesD hp s (xs++caps) u) (hok:Gk (er v)=true\/(xs++caps).all F3=true/\s.dec (xs++caps)=some u) (hF:F u=some v) {Q:Act->World->Prop}
  (kk:∀ x w' Z',HR w' Z' R hp->VR w' Z' R (er v) x->Step w Z R hp w' Z' R hp->w.grownBy w' none->(Gk (er v)=true->Z'=Z)->SR E base w' Z' R ⟨Fr n l,hp⟩ a->Q (a.put d x) w'):Lw E.P ⟨d,.call ⟨.value f,args,tys⟩,ty,pos,af,g⟩ a w Q:=by
 have hρ:∀ o x,opA E (Fr n l) o=some x->VR w Z R x (a.eval o):=fun o x e=>opA_vr sr o x e
 have hvf:=hρ _ _ hf
 have hva:∃ uc:List Value,a.eval f = .func (.func fid) #[] uc.toArray/\VRs w Z R caps uc:=by
  generalize a.eval f=vf at hvf
  cases hvf with
  | fn hl hl' hx hy =>
   rename_i u1 u2
   have e1:u1=[]:=by simpa using hl
   subst e1
   exact ⟨u2,rfl,hl',hy⟩
 obtain ⟨uc,hva,huc⟩:=hva
 have hcl:DD E.P fid:=hP ▸ hX.1
 unfold Lw
 rw [IF (uf:=[]) (uc:=uc) rfl hva rfl hcl w]
 have hret:=AEw hX sr.hh (by have:=sr.gl; exact fun q y hy=>this q y (by rw [hG]; exact hy)) ((opds_vr hρ ha).append huc) hv hok hF
 rw [<-hP] at hret
 simp only [List.nil_append]
 refine Ret.mono hret fun x w' ⟨Z',k1,k2,k3,k4,k5⟩=>?_
 exact kk x w' Z' k1 k2 k3 k4 k5 (sr.step k1 k3)
theorem GP (hP:E.P=E0.P) (hG:E.G=E0.G) (hX:XOk fid (ES s F er)){caps xs:List AV}{d:Nat}{f:Operand}{args:Array Operand}{tys:Array TypeId}{ty:TypeId}{pos:String}{af:Array Edge}{g:Option (Nat×Bool)}(hr:rest=⟨some d,.call ⟨.value f,args,tys⟩,ty,pos,af,g⟩::rest') (hw:DS ops (Fr n l) ⟨some d,.call ⟨.value f,args,tys⟩,ty,pos,af,g⟩=some true)
  (hf:opA E (Fr n l) f=some (.fn fid [] caps)) (ha:MR (opA E (Fr n l)) args.toList=some xs) (hv:SeesD hp s (xs++caps) u) (hok:Gk (er v)=true\/(xs++caps).all F3=true/\s.dec (xs++caps)=some u) (hF:F u=some v) (kk:RunL E cx ops rest' ⟨Fr n ((d,er v)::l),hp⟩ K):RunL E cx ops rest ⟨Fr n l,hp⟩ K:=by
 subst hr
 intro ro base Q a w Z R hro sr hy q
 refine Pc rfl (wantedA_eq sr hw) (AFd hP hG hX sr hf ha hv hok hF fun x w' Z' k1 k2 k3 k4 k5 sr'=>?_)
 refine kk ro base Q _ w' Z' R hro ?_ (hy.step sr.hh k3) fun s' a' w'' Z'' R'' hK sr'' st'=>q s' a' w'' Z'' R'' hK sr'' (k3.trans st')
 have:=sr'.put (d:=some d) k2
 rwa [FY] at this
theorem Ls {T:Nat}(hP:E.P=E0.P) (hG:E.G=E0.G) (hX:XOk fid (ES s F er)){caps xs:List AV}{d:Nat}{f:Operand}{args:Array Operand}{tys:Array TypeId}{ty:TypeId}{pos:String}{af:Array Edge}{g:Option (Nat×Bool)}(hr:rest=⟨some d,.call ⟨.value f,args,tys⟩,ty,pos,af,g⟩::rest') (hw:DS ops (Fr n l) ⟨some d,.call ⟨.value f,args,tys⟩,ty,pos,af,g⟩=some true)
  (hf:opA E (Fr n l) f=some (.fn fid [] caps)) (ha:MR (opA E (Fr n l)) args.toList=some xs) (hv:SeesD hp s (xs++caps) u) (hok:Gk (er v)=true) (hF:F u=some v) (kk:RunDT E cx ops T n0 (k + 1) rest' ⟨Fr n ((d,er v)::l),hp⟩ K):RunDT E cx ops T n0 k rest ⟨Fr n l,hp⟩ K:=by
 subst hr
 intro ro base Q w0 Z R0 h0 a w R hro hy hh0 hn0 sr hgr st hpre hops q
 have hok':ops[k]? = some ⟨some d,.call ⟨.value f,args,tys⟩,ty,pos,af,g⟩:=by have:=hops 0; simpa using this.symm
 have hops':∀ j,rest'[j]? = ops[k + 1 + j]?:=fun j=>by have:=hops (j + 1); simpa [Nat.add_assoc,Nat.add_comm 1 j] using this
 refine ⟨fun _=>hgr,?_⟩
 rw [if_pos (wantedA_eq sr hw)]
 have hq:isQ (.call ⟨.value f,args,tys⟩:Op)=false:=rfl
 rw [if_pos (H0 hok' hq)]
 refine AFd hP hG hX sr hf ha hv (.inl hok) hF fun x w' Z' k1 k2 k3 k4 k5 sr'=>?_
 have e:=k5 hok
 subst e
 exact kk ro base Q w0 _ R0 h0 _ w' R hro hy hh0 hn0 (by have:=sr'.put (d:=some d) k2; rwa [FY] at this) (Gg hgr k4) (st.trans k3) hpre hops' q
end
def Wb:Hp->Bool
 | []=>true
 | none::r=>Wb r
 | some B::r=>!B.fz&&B.es.all F3&&Wb r
theorem S0:∀ {h:Hp},Wb h=true->∀ (b:Nat) (B:Blk),h[b]? = some (some B)->B.fz=false/\B.es.all F3=true
 | [],_,b,B,hb=>by simp at hb
 | none::r,h,0,B,hb=>by simp at hb
 | none::r,h,b + 1,B,hb=>S0 (h:=r) h b B (by simpa using hb)
 | some B0::r,h,b,B,hb=>by
  unfold Wb at h
  simp only [Bool.and_eq_true,Bool.not_eq_true'] at h
  cases b with
  | zero =>
   have:B0=B:=by simpa using hb
   subst this
   exact h.1
  | succ b=>exact S0 h.2 b B (by simpa using hb)
theorem Zf {α:Type}{k:Nat}{t:TypeId}{c:Cd α}(xs:List α):Wb [some ⟨k,t,xs.map c.enc,false⟩]=true:=by
 have:(xs.map c.enc).all F3=true:=by
  rw [List.all_eq_true]
  intro x hx
  obtain ⟨y,_,rfl⟩:=List.mem_map.1 hx
  exact c.nr y
 show (!false&&(xs.map c.enc).all F3&&true)=true
 rw [this]; rfl
section
variable {w w':World}{Z Z':Nat->Prop}{R R':List RI}{h h':Hp}
theorem HR.joinF (hh:HR w Z R h) (st:StepW w Z [] [] w' Z' R' h') (hh':HR w' Z' R' h') (hf:Wb h'=true):HR w' Z' (R++R') (h++h')/\Step w Z R h w' Z' (R++R') (h++h'):=by
 have hold:∀ c,c < w.heap.size->w'.heap[c]? = w.heap[c]?:=fun c hc=>st.block c hc fun ⟨b,B,r,hb,_⟩=>by simp at hb
 have hr:∀ (i:Nat) (x:RI),R[i]? = some x->(R++R')[i]? = some x:=fun i x hx=>by
  rw [List.getElem?_append_left (List.getElem?_eq_some_iff.1 hx).1]; exact hx
 have hnew:∀ c,own R' h' c->w.heap.size<=c:=fun c hc=>(st.own_ c hc).resolve_left fun ⟨b,B,r,hb,_⟩=>by simp at hb
 have hz':∀ c,Z' c->Z c\/w.heap.size<=c:=fun c hc=>(st.z' c hc).elim .inl fun h=>h.elim (fun ⟨b,B,r,hb,_⟩=>by simp at hb) .inr
 have hlen:=hh.len
 have hat:∀ (b:Nat) (B:Blk),(h++h')[b]? = some (some B)->(b < h.length/\h[b]? = some (some B)/\(R++R')[b]? = R[b]?)\/(∃ j,b=h.length + j/\h'[j]? = some (some B)/\(R++R')[b]? = R'[j]?):=fun b B hb=>by
  by_cases hlt:b < h.length
  ·rw [List.getElem?_append_left hlt] at hb
   exact .inl ⟨hlt,hb,List.getElem?_append_left (by omega)⟩
  ·rw [List.getElem?_append_right (by omega)] at hb
   exact .inr ⟨b - h.length,by omega,hb,by rw [List.getElem?_append_right (by omega),hlen]⟩
 have hRb:∀ (b:Nat) (B:Blk) (r:RI),h[b]? = some (some B)->R[b]? = some r->r.c < w.heap.size:=fun b B r h1 h2=>hh.rltL h1 h2
 have hRn:∀ (j:Nat) (B:Blk) (r:RI),h'[j]? = some (some B)->R'[j]? = some r->w.heap.size<=r.c:=fun j B r h1 h2=>hnew _ ⟨j,B,r,h1,(S0 hf j B h1).1,h2,rfl⟩
 refine ⟨⟨by simp [hh.len,hh'.len],fun b B hB=>?_,fun b b' B B' r r' hB hfz hB' hfz' h1 h2 e=>?_,hh'.zlt⟩,⟨st.os,st.tape,st.output,st.size,fun c hc _=>hold c hc,fun c hc=>?_,st.z,fun c hc=>(hz' c hc).elim .inl fun h=> .inr (.inr h),hr⟩⟩
 ·rcases hat b B hB with ⟨hlt,hb,hRR⟩ | ⟨j,rfl,hb,hRR⟩
  ·obtain ⟨r,arr,us,g1,g2,g3,g4,g5,g6,g7,g8,g9,g10⟩:=hh.blk b B hb
   exact ⟨r,arr,us,hRR.trans g1,g2,(hold _ (hRb b B r hb g1)).trans g3,g4,g5,g6,(fun h=>st.z _ (g7 h)),(fun h hc=>(hz' _ hc).elim (g8 h) fun q=>by have:=hRb b B r hb g1; omega),⟨g9.len,fun i x u hx hu=>(g9.at_ i x u hx hu).mono (fun c hc=>hold c (hh.zlt c hc)) (fun c hc=>st.z c hc) hr⟩,g10⟩
  ·obtain ⟨r,arr,us,g1,g2,g3,g4,g5,g6,g7,g8,g9,g10⟩:=hh'.blk j B hb
   obtain ⟨f1,f2⟩:=S0 hf j B hb
   exact ⟨r,arr,us,hRR.trans g1,g2,g3,g4,g5,g6,g7,g8,⟨g9.len,fun i x u hx hu=>(Mv (List.all_eq_true.1 f2 x (List.mem_of_getElem? hx)) (g9.at_ i x u hx hu)).up⟩,g10⟩
 ·rcases hat b B hB with ⟨_,hb,hRR⟩ | ⟨j,rfl,hb,hRR⟩ <;> rcases hat b' B' hB' with ⟨_,hb',hRR'⟩ | ⟨j',rfl,hb',hRR'⟩ <;> rw [hRR] at h1 <;> rw [hRR'] at h2
  ·exact hh.inj b b' B B' r r' hb hfz hb' hfz' h1 h2 e
  ·have:=hRb b B r hb h1; have:=hRn j' B' r' hb' h2; omega
  ·have:=hRb b' B' r' hb' h2; have:=hRn j B r hb h1; omega
  ·rw [hh'.inj j j' B B' r r' hb hfz hb' hfz' h1 h2 e]
 ·obtain ⟨b,B,r,h1,h2,h3,rfl⟩:=hc
  rcases hat b B h1 with ⟨_,hb,hRR⟩ | ⟨j,rfl,hb,hRR⟩ <;> rw [hRR] at h3
  ·exact .inl ⟨b,B,r,hb,h2,h3,rfl⟩
  ·exact .inr (hRn j B r hb h3)
end
theorem SeeV.view {hp:Hp}{x y:AV}(n:Nat) (h:JD hp n x=some y):SeeV hp x y:=fun _w _Z _R u hh hv=>Pg hh n x y u hv h
theorem SeeD.sm {α:Type}{n:Nat}{hp:Hp}{c:Cd α}{x:AV}{v:α}(h:Sm n hp c x v):SeeD hp c x v:=let ⟨y,h1,h2⟩:=h; ⟨y,.view n h1,h2⟩
/-- A cell of its own that holds a frozen thing. -/
theorem SeeD.cel {α:Type}{hp:Hp}{c:Cd α}{p:AV}{v:α}{k:Nat}{t:TypeId}{L:List Asn}{i:Nat}(ht:T hp L) (hi:L[i]? = some (cel p k t (c.enc v))):SeeD hp (cdP c) p v:=by
 obtain ⟨F,⟨b,rfl,_,hb⟩,_⟩:=(ht.front i hi).act
 exact .sm (n:=3) (.pt hb (AW (n:=0)))
theorem YU {α:Type}{hp:Hp}{c:Cd α}{x:AV}{v:α}(h:SeeD hp c x v):SeesD hp (csE c) [x] v:=by
 obtain ⟨y,k1,k2⟩:=h
 exact ⟨[y],.cons k1 .nil,k2⟩
theorem SeeD.ag {α:Type}{hp:Hp}{s:Cs α}{hn:∀ x,(s.enc x).all RH=true}{xs:List AV}{a:α}(h:SeesD hp s xs a):SeeD hp (cdA s hn) (.ag xs) a:=by
 obtain ⟨ys,k1,k2⟩:=h
 exact ⟨.ag ys,.ag k1,k2⟩
theorem SeeV.fn {hp:Hp}{f:FuncId}{cs cs':List AV}(hs:Sees hp cs cs'):SeeV hp (.fn f [] cs) (.fn f [] cs'):=fun w Z R u hh hv=>by
 cases hv with
 | fn hl hl' hx hy =>
  have:=hs w Z R _ hh ⟨hl',hy⟩
  exact .fn hl this.len (fun i x u h=>by simp at h) this.at_
/-- A closure over cells. -/
theorem SeeD.fn {α:Type}{hp:Hp}{f:FuncId}{s:Cs α}{hn:∀ x,(s.enc x).all JN=true}{q:List AV}{a:α}(h:SeesD hp s q a):SeeD hp (cdF f s hn) (.fn f [] q) a:=by
 obtain ⟨ys,k1,k2⟩:=h
 refine ⟨.fn f [] ys,.fn k1,?_⟩
 show (if f=f then s.dec ys else none)=_
 rw [if_pos rfl]; exact k2
section
variable {E:Env}{cx:Cx}{ops:Array Oper}{rest rest':List Oper}{K:St->Prop}{n n0 k:Nat}{l:List (Nat×AV)}{hp:Hp}
/-- A call of frozen things that hands own blocks back, whose elements hold frozen things. -/
theorem YT {xs:List AV}{Out:AV->Hp->Prop}(hP:E.P=E0.P) (hG:E.G=E0.G){d:Nat}{f:Operand}{args:Array Operand}{tys:Array TypeId}{ty:TypeId}{pos:String}{af:Array Edge}{g:Option (Nat×Bool)}{fid:FuncId}(hs:SOk fid xs Out) (hr:rest=⟨some d,.call ⟨.value f,args,tys⟩,ty,pos,af,g⟩::rest') (hw:DS ops (Fr n l) ⟨some d,.call ⟨.value f,args,tys⟩,ty,pos,af,g⟩=some true)
  (hf:opA E (Fr n l) f=some (.fn fid [] [])) (ha:MR (opA E (Fr n l)) args.toList=some xs) (hv:xs.all F3=true) (hfl:∀ x h',Out x h'->Rk x=true/\Wb h'=true) (k:∀ x h',Out x h'->RunL E cx ops rest' ⟨Fr n ((d,shN hp.length x)::l),hp++h'⟩ K):RunL E cx ops rest ⟨Fr n l,hp⟩ K:=by
 obtain ⟨P,fns,G,X,I⟩:=E
 simp only at hP hG
 subst hP hG
 subst hr
 intro ro base Q a w Z R hro sr hy q
 have hρ:∀ o x,opA ⟨E0.P,fns,E0.G,X,I⟩ (Fr n l) o=some x->VR w Z R x (a.eval o):=fun o x e=>opA_vr sr o x e
 refine Pc rfl (wantedA_eq sr hw) ?_
 have hva:a.eval f = .func (.func fid) ([]:List Value).toArray ([]:List Value).toArray:=by
  have:=hρ _ _ hf
  generalize a.eval f=vf at this
  cases this with
  | fn hl hl' hx hy =>
   rename_i u1 u2
   have e1:u1=[]:=by simpa using hl
   have e2:u2=[]:=by simpa using hl'
   subst e1 e2; rfl
 unfold Lw
 rw [IF (uf:=[]) (uc:=[]) rfl hva rfl hs.1 w]
 simp only [List.nil_append,List.append_nil]
 have hvs:VRs w Z R xs (args.toList.map a.eval):=opds_vr hρ ha
 have hvs2:VRs w Z [] xs (args.toList.map a.eval):=⟨hvs.len,fun i x u hx hu=>Mv (List.all_eq_true.1 hv x (List.mem_of_getElem? hx)) (hvs.at_ i x u hx hu)⟩
 refine Ret.mono (hs.2 w _ _ sr.hh.zlt sr.gl hvs2) fun v w' hS=>?_
 obtain ⟨Z',R',x,h',hO,h1,h2,st⟩:=hS
 obtain ⟨f1,f2⟩:=hfl x h' hO
 obtain ⟨j1,j2⟩:=sr.hh.joinF st h1 f2
 have hlen:R.length=hp.length:=sr.hh.len
 have hx:=ABm (w:=w') (Z':=Z') (R:=R) hlen f1 h2
 have sr':=(sr.step j1 j2).put (d:=some d) hx
 rw [show P1 (⟨Fr n l,hp⟩:St).fr (some d) (shN hp.length x)=Fr n ((d,shN hp.length x)::l) from FY n l d _] at sr'
 exact k x h' hO ro base Q _ w' Z' (R++R') hro sr' (hy.step sr.hh j2) fun s' a' w'' Z'' R'' hK sr'' st'=>q s' a' w'' Z'' R'' hK sr'' (j2.trans st')
end
/-- A nil slice is an empty frozen one, in structs too. -/
def UpV (x y:AV):Prop:=∀ (w:World) (Z:Nat->Prop) (R:List RI) (u:Value),VR w Z R x u->VR w Z R y u
theorem UpV.refl {x:AV}:UpV x x:=fun _ _ _ _ h=>h
theorem UpV.nil {k:Nat}:UpV .e0 (.sl k []):=fun _ _ _ _ h=>by
 cases h
 exact .sl (us:=[]) rfl rfl (Nat.le_refl _) (by unfold maxLen; omega) (fun h=>by omega) (fun i x u hx=>by simp at hx)
def UpVs:List AV->List AV->Prop
 | [],[]=>True
 | x::xs,y::ys=>UpV x y/\UpVs xs ys
 | _,_=>False
theorem UpVs.len:∀ {xs ys:List AV},UpVs xs ys->xs.length=ys.length
 | [],[],_=>rfl
 | _::_,_::_,h=>by simp [UpVs.len h.2]
 | [],_::_,h=>h.elim
 | _::_,[],h=>h.elim
theorem UpVs.get:∀ {xs ys:List AV}{i:Nat}{y:AV},UpVs xs ys->ys[i]? = some y->∃ x,xs[i]? = some x/\UpV x y
 | _::_,_::_,0,_,h,e=>by simp at e; subst e; exact ⟨_,rfl,h.1⟩
 | _::_,_::_,i + 1,_,h,e=>by
  obtain ⟨x,h1,h2⟩:=UpVs.get (i:=i) h.2 (by simpa using e)
  exact ⟨x,by simpa using h1,h2⟩
 | [],[],_,_,_,e=>by simp at e
 | [],_::_,_,_,h,_=>h.elim
 | _::_,[],_,_,h,_=>h.elim
theorem UpV.ag {xs ys:List AV}(h:UpVs xs ys):UpV (.ag xs) (.ag ys):=fun w Z R u hv=>by
 cases hv with
 | ag hl h1 hx =>
  refine .ag (by rw [hl,h.len]) h1 fun i y u hy hu=>?_
  obtain ⟨x,k1,k2⟩:=h.get hy
  exact k2 _ _ _ _ (hx i x u k1 hu)
def LkU (l:List (Nat×AV)):List (Nat×AV)->Prop
 | []=>True
 | (t,z)::r=>(∃ x,lk l t=some x/\UpV x z)/\LkU l r
theorem LkU.at_ {l:List (Nat×AV)}:∀ {l':List (Nat×AV)},LkU l l'->∀ t z,lk l' t=some z->∃ x,lk l t=some x/\UpV x z
 | [],_,t,z,h=>by cases h
 | (k,z0)::r,⟨h1,h2⟩,t,z,h=>by
  rw [MO] at h
  split at h
  ·next hk=>injection h with h; subst hk h; exact h1
  ·exact h2.at_ t z h
/-- A value in which an own thing is frozen. -/
def FzU (e z x y:AV):Prop:=∀ (w:World) (Z Z':Nat->Prop) (R:List RI) (u:Value),(∀ c,Z c->Z' c)->(∀ v,VR w Z R e v->VR w Z' R z v)->VR w Z R x u->VR w Z' R y u
section
variable {e z:AV}
theorem FzU.refl {x:AV}:FzU e z x x:=fun _ _ _ _ _ hz _ h=>h.mono (fun _ _=>rfl) hz (fun _ _ h=>h)
theorem Gv:FzU e z e z:=fun _ _ _ _ u _ k h=>k u h
def FzUs (e z:AV):List AV->List AV->Prop
 | [],[]=>True
 | x::xs,y::ys=>FzU e z x y/\FzUs e z xs ys
 | _,_=>False
theorem FzUs.len:∀ {xs ys:List AV},FzUs e z xs ys->xs.length=ys.length
 | [],[],_=>rfl
 | _::_,_::_,h=>by simp [FzUs.len h.2]
 | [],_::_,h=>h.elim
 | _::_,[],h=>h.elim
theorem FzUs.get:∀ {xs ys:List AV}{i:Nat}{y:AV},FzUs e z xs ys->ys[i]? = some y->∃ x,xs[i]? = some x/\FzU e z x y
 | _::_,_::_,0,_,h,q=>by simp at q; subst q; exact ⟨_,rfl,h.1⟩
 | _::_,_::_,i + 1,_,h,q=>by
  obtain ⟨x,h1,h2⟩:=FzUs.get (i:=i) h.2 (by simpa using q)
  exact ⟨x,by simpa using h1,h2⟩
 | [],[],_,_,_,q=>by simp at q
 | [],_::_,_,_,h,_=>h.elim
 | _::_,[],_,_,h,_=>h.elim
theorem FzU.ag {xs ys:List AV}(h:FzUs e z xs ys):FzU e z (.ag xs) (.ag ys):=fun w Z Z' R u hz k hv=>by
 cases hv with
 | ag hl h1 hx =>
  refine .ag (by rw [hl,h.len]) h1 fun i y u hy hu=>?_
  obtain ⟨x,k1,k2⟩:=h.get hy
  exact k2 _ _ _ _ _ hz k (hx i x u k1 hu)
theorem FzU.fn {f:FuncId}{xs ys:List AV}(h:FzUs e z xs ys):FzU e z (.fn f [] xs) (.fn f [] ys):=fun w Z Z' R u hz k hv=>by
 cases hv with
 | fn hl hl' hx hy =>
  refine .fn hl (by rw [hl',h.len]) (fun i x u h=>by simp at h) fun i y u hy' hu=>?_
  obtain ⟨x,k1,k2⟩:=h.get hy'
  exact k2 _ _ _ _ _ hz k (hy i x u k1 hu)
end
def LkF (l:List (Nat×AV)) (e z:AV):List (Nat×AV)->Prop
 | []=>True
 | (t,y)::r=>(∃ x,lk l t=some x/\FzU e z x y)/\LkF l e z r
theorem LkF.at_ {l:List (Nat×AV)}{e z:AV}:∀ {l':List (Nat×AV)},LkF l e z l'->∀ t y,lk l' t=some y->∃ x,lk l t=some x/\FzU e z x y
 | [],_,t,y,h=>by cases h
 | (k,z0)::r,⟨h1,h2⟩,t,y,h=>by
  rw [MO] at h
  split at h
  ·next hk=>injection h with h; subst hk h; exact h1
  ·exact h2.at_ t y h
theorem Gw {E:Env}{n:Nat}{l l':List (Nat×AV)}{hp:Hp}{α:Type}{o:Oc α}{e:AV}{x:α}{L:List Asn}(ht:T hp (own_ o e x::L)) (hl:LkF l e (o.cd.enc x) l'):∃ hp',WkY E ⟨Fr n l,hp⟩ ⟨Fr n l',hp'⟩/\T hp' L:=by
 obtain ⟨F,p,hn',_,hk⟩:=ht.act
 refine ⟨XR F hp,fun base w Z R a sr=>?_,hk _ fun b hb _=>Yi hb⟩
 have hown:∀ c,(∃ b ∈ F,∃ r,R[b]? = some r/\c=r.c)->own R hp c:=fun c ⟨b,hb,r,hr,hc⟩=>by
  obtain ⟨B,k1,k2⟩:=o.own p hb
  exact ⟨b,B,r,k1,k2,hr,hc.symm⟩
 have hown':∀ c,own R (XR F hp) c->own R hp c:=fun c ⟨b,B,r,h1,h2,h3,h4⟩=>⟨b,B,r,(Qs.1 h1).2,h2,h3,h4⟩
 have hzo:∀ c,(Z c\/∃ b ∈ F,∃ r,R[b]? = some r/\c=r.c)->Z c\/own R hp c:=fun c hc=>hc.imp_right (hown c)
 have up':∀ {x:AV} {u:Value} {R':List RI},VR w Z R' x u->VR w (fun c=>Z c\/∃ b ∈ F,∃ r,R[b]? = some r/\c=r.c) R' x u:=fun hv=>hv.mono (fun _ _=>rfl) (fun _ h=> .inl h) (fun _ _ h=>h)
 refine ⟨fun c=>Z c\/∃ b ∈ F,∃ r,R[b]? = some r/\c=r.c,R,⟨⟨by simp [XR,sr.hh.len],fun b B hB=>?_,fun b b' B B' r r' h1 f1 h2 f2 g1 g2 e=>?_,fun c hc=>?_⟩,⟨?_,fun t x hx=>?_⟩,?_,fun g x hx=>up' (sr.gl g x hx),sr.bs⟩,⟨rfl,rfl,rfl,Nat.le_refl _,fun _ _ _=>rfl,fun c hc=> .inl (hown' c hc),fun _ h=> .inl h,fun c hc=>(hzo c hc).imp_right .inl,fun _ _ h=>h⟩⟩
 ·obtain ⟨hb,hB⟩:=Qs.1 hB
  obtain ⟨r,arr,us,g1,g2,g3,g4,g5,g6,g7,g8,g9,g10⟩:=sr.hh.blk b B hB
  refine ⟨r,arr,us,g1,g2,g3,g4,g5,g6,fun hf=> .inl (g7 hf),fun hf hc=>?_,⟨g9.len,fun i x u hx hu=>up' (g9.at_ i x u hx hu)⟩,g10⟩
  rcases hc with hc | ⟨b',hb',r',hr',hc⟩
  ·exact g8 hf hc
  ·obtain ⟨B',k1,k2⟩:=o.own p hb'
   have:=sr.hh.inj b b' B B' r r' hB hf k1 k2 g1 hr' hc
   exact hb (this ▸ hb')
 ·exact sr.hh.inj b b' B B' r r' (Qs.1 h1).2 f1 (Qs.1 h2).2 f2 g1 g2 e
 ·rcases hzo c hc with hc | ⟨b,B,r,k1,_,k3,k4⟩
  ·exact sr.hh.zlt c hc
  ·exact k4 ▸ sr.hh.rltL k1 k3
 ·rw [Jy]; have:=sr.fr.1; rw [Jy] at this; exact this
 ·rw [JE] at hx
  split at hx
  ·next ht =>
   injection hx with hx
   obtain ⟨x0,h1,hf⟩:=hl.at_ t x hx
   exact hf _ _ _ _ _ (fun c h=> .inl h) (fun v hv=>(o.vr sr.hh p hv).up) (sr.fr.2 t x0 (by rw [JE,if_pos ht,h1]))
  ·cases hx
 ·exact sr.mks.imp fun q h3 h4 h5=>⟨h3,fun hc=>(hzo q hc).elim h4 h5,fun ho=>h5 (hown' q ho)⟩
/-- What slices.Clone makes is own. -/
theorem Yc {α:Type}{c:Cd α}{k:Nat}{t:TypeId}{h:Hp}{L:List Asn}{xs:List α}{x:AV}{h':Hp}(ht:T h L) (hO:(xs=[]/\x = .e0/\h'=[])\/(x = .rf 0 0 xs.length xs.length/\h'=[some ⟨k,t,xs.map c.enc,false⟩])):∃ e hp,e=shN h.length x/\hp=h++h'/\T hp (own_ (ocL k t (ocV c)) e xs::L):=by
 rcases hO with ⟨rfl,rfl,rfl⟩ | ⟨rfl,rfl⟩
 ·exact ⟨.e0,h,rfl,by simp,T.e0 ht⟩
 ·exact ⟨.rf h.length 0 xs.length xs.length,h++[some ⟨k,t,xs.map c.enc,false⟩],rfl,rfl,Zn (ID ht) rfl⟩
theorem Yb {α:Type}{c:Cd α}{k:Nat}{t:TypeId}{xs:List α}:∀ (x:AV) (h':Hp),((xs=[]/\x = .e0/\h'=[])\/(x = .rf 0 0 xs.length xs.length/\h'=[some ⟨k,t,xs.map c.enc,false⟩]))->Rk x=true/\Wb h'=true:=by
 rintro x h' (⟨rfl,rfl,rfl⟩ | ⟨rfl,rfl⟩)
 ·exact ⟨rfl,rfl⟩
 ·exact ⟨rfl,Zf xs⟩
/-- Lists that are told by one value. -/
noncomputable def csJ {α:Type}(e:α->List AV) (hi:∀ x y,e x=e y->x=y) (hn:∀ x,(e x).all F3=true):Cs α where
 enc:=e
 dec a:=open Classical in if h:∃ x,e x=a then some h.choose else none
 de x:=by
  have h:∃ y,e y=e x:=⟨x,rfl⟩
  rw [dif_pos h,hi _ _ h.choose_spec]
 vr:=fun {w Z a x u} hd hv=>by
  split at hd
  ·next h=>injection hd with hd; subst hd; rw [h.choose_spec]; exact hv
  ·cases hd
 nr:=hn
theorem VJ {α:Type}{n:Nat}{h:Hp}{s:Cs α}{a:α}:Sl (n + 2) h s (s.enc a) a :=
 ⟨s.enc a,Oj fun y hy=>PQ (List.all_eq_true.1 (s.nr a) y hy) n,s.de a⟩
theorem ABU {α:Type}{c:Cd α}{x y:α}(h:c.enc x=c.enc y):x=y:=by
 have h1:=c.de x
 rw [h,c.de y] at h1
 exact (OI h1).symm
/-- The order of a clause without regard to Among. -/
def Qn (c:AF):AV :=
 if (c.1==1)=true then .fn 205 [] [.pe (.fn 178 [] [.pe (AA.enc c) 0]) 0] else
 if (c.1==2)=true then .fn 179 [] [.pe (AA.enc c) 0] else
 if (c.1==3)=true then .fn 179 [] [.pe (AA.enc c) 0] else
 if (c.1==4)=true then .fn 205 [] [.pe (.fn 206 [] [.pe (.fn 182 [] [.pe (AA.enc c) 0]) 0,.pe (AA.enc c) 0]) 0] else
 if (c.1==5)=true then .fn 205 [] [.pe (.fn 206 [] [.pe (.fn 183 [] []) 0,.pe (AA.enc c) 0]) 0] else
 if (c.1==6)=true then .fn 205 [] [.pe (.fn 206 [] [.pe (.fn 184 [] [.pe (AA.enc c) 0]) 0,.pe (AA.enc c) 0]) 0] else
 if (c.1==7)=true then .fn 205 [] [.pe (.fn 206 [] [.pe (.fn 186 [] [.pe (AA.enc c) 0]) 0,.pe (AA.enc c) 0]) 0] else
 if (c.1==8)=true then .fn 187 [] [] else
 if (c.1==10)=true then .fn 209 [] [.pe (.fn 208 [] []) 0,.pe (.fn 190 [] [.pe (AA.enc c) 0]) 0] else
 .fn 209 [] [.pe (.fn 208 [] []) 0,.pe (.fn 191 [] []) 0]
def Mn (c:AF):AV:= .fn 165 [] [.pe (AA.enc c) 0,.pe (Qn c) 0]
noncomputable def DW:Cd AF:=cdJ Mn (fun x y h=>by
 unfold Mn at h
 injection h with _ _ h
 injection h with h
 injection h with h
 exact ABU h) (fun _=>rfl)
noncomputable def WI:Cs AF:=csJ (fun c=>[.pe (AA.enc c) 0,.pe (Qn c) 0]) (fun x y h=>by
 injection h with h
 injection h with h
 exact ABU h) (fun _=>rfl)
/-- A straight call, told by what the interpreter finds. -/
theorem Yx {f:FuncId}(hc:DD E0.P f){α β:Type}(s:Cs α) (F:α->Option β) (er:β->AV) (h:∀ a b,F a=some b->∃ n,DG E0 n f (s.enc a)=some (er b)):XOk f (ES s F er):=by
 refine ⟨hc,fun xs y hy w Z us hz hg hv=>?_⟩
 obtain ⟨a,ha,hy⟩:=OB hy
 obtain ⟨b,hb,rfl⟩:=Option.map_eq_some_iff.1 hy
 obtain ⟨n,hn⟩:=h a b hb
 unfold DG at hn
 split at hn
 ·next x h' he=>exact frz_ret (enter_sound AC (code_sound AC n).1 he (hr_nil hz) (s.vr ha hv) hg (fun y hy=>by cases hy)) hn
 ·cases hn
def Hr (x0:AF):Option AF:=if 1<=x0.1/\x0.1<=10 then some x0 else none
def Da:Cs (AF×Unit):=csC AA csN
noncomputable def LE (r:AF):AV:=DW.enc r
noncomputable def Tn:List AV->Option AV:=ES Da (fun a=>Hr a.1) LE
section
variable (am:List UInt8) (la:Bool) (nm:List (List UInt8)) (m:Int)
theorem ACm:DG E0 300 133 (Da.enc ((1,am,la,nm,m),()))=some (Mn (1,am,la,nm,m)):=by kernel_rfl
theorem ACn:DG E0 300 133 (Da.enc ((2,am,la,nm,m),()))=some (Mn (2,am,la,nm,m)):=by kernel_rfl
theorem ACo:DG E0 300 133 (Da.enc ((3,am,la,nm,m),()))=some (Mn (3,am,la,nm,m)):=by kernel_rfl
theorem ACp:DG E0 300 133 (Da.enc ((4,am,la,nm,m),()))=some (Mn (4,am,la,nm,m)):=by kernel_rfl
theorem ACq:DG E0 300 133 (Da.enc ((5,am,la,nm,m),()))=some (Mn (5,am,la,nm,m)):=by kernel_rfl
theorem ACr:DG E0 300 133 (Da.enc ((6,am,la,nm,m),()))=some (Mn (6,am,la,nm,m)):=by kernel_rfl
theorem ACs:DG E0 300 133 (Da.enc ((7,am,la,nm,m),()))=some (Mn (7,am,la,nm,m)):=by kernel_rfl
theorem ACt:DG E0 300 133 (Da.enc ((8,am,la,nm,m),()))=some (Mn (8,am,la,nm,m)):=by kernel_rfl
theorem ACu:DG E0 300 133 (Da.enc ((9,am,la,nm,m),()))=some (Mn (9,am,la,nm,m)):=by kernel_rfl
theorem AAx:DG E0 300 133 (Da.enc ((10,am,la,nm,m),()))=some (Mn (10,am,la,nm,m)):=by kernel_rfl
end
theorem UC:XOk 133 Tn:=by
 refine Yx ⟨Tryz.call133⟩ Da (fun a=>Hr a.1) LE fun a b h=>⟨300,?_⟩
 obtain ⟨⟨k,am,la,nm,m⟩,⟨⟩⟩:=a
 by_cases hk:1<=k/\k<=10
 ·have h1:some (k,am,la,nm,m)=some b:=(if_pos hk:Hr (k,am,la,nm,m)=_).symm.trans h
  have h2:LE b=Mn (k,am,la,nm,m):=congrArg Mn (OI h1).symm
  rw [h2]
  clear h h1 h2
  have hk':k=1\/k=2\/k=3\/k=4\/k=5\/k=6\/k=7\/k=8\/k=9\/k=10:=by omega
  rcases hk' with rfl | rfl | rfl | rfl | rfl | rfl | rfl | rfl | rfl | rfl
  ·exact ACm am la nm m
  ·exact ACn am la nm m
  ·exact ACo am la nm m
  ·exact ACp am la nm m
  ·exact ACq am la nm m
  ·exact ACr am la nm m
  ·exact ACs am la nm m
  ·exact ACt am la nm m
  ·exact ACu am la nm m
  ·exact AAx am la nm m
 ·exact nomatch ((if_neg hk:Hr (k,am,la,nm,m)=_).symm.trans h)
/- trestle/court.name -/
noncomputable def Ng:Code:=BL Tryz.f96
def G3 (x0:(List UInt8)):Nat->Int->Option ((Unit) ⊕ (Bool))
 | 0,_=>none
 | f + 1,c1 =>
  if (decide (c1 < (x0.length:Int)))=true then
  (idx x0 c1).bind fun v3 =>
  (if (decide ((v3.toNat:Int) < 97))=true then some true else (idx x0 c1).bind fun v4 =>
  some (decide ((v4.toNat:Int) > 122))).bind fun j6 =>
  if j6=true then
  some (.inr false)
  else
  G3 x0 f (wr .i64 (c1 + 1))
  else
  some (.inl ())
def Il (x0:(List UInt8)):Option (Bool) :=
 (G3 x0 100000 0).bind fun r10 =>
 match r10 with
 | (.inl w11) =>
  (if (decide ((x0.length:Int)≥1))=true then some (decide ((x0.length:Int)<=12)) else some false).bind fun j13 =>
  some j13
 | (.inr w15) =>
  some w15
def Nl:Cs ((List UInt8)×Unit):=(csC cdS csN)
def Nt (r:Bool):AV:=cdB.enc r
theorem OT (x0:(List UInt8)):∀ (f:Nat) (c1:Int) (r:(Unit) ⊕ (Bool)),G3 x0 f c1=some r->SemN E0 ⟨none,false⟩ (pc Ng [1,0,1,0,0]) f ⟨Fr 28 [(0,.st x0),(3,.j c1)],[]⟩ (fun e s=>match r with
 | (.inl w)=>e=(.exit 0)/\Wk E0 s ⟨Fr 28 [(0,.st x0)],[]⟩
 | (.inr w)=>e = .ret/\Wk E0 s ⟨Fr 28 [(2,.b w)],[]⟩):=by
 intro f;induction f with
 | zero=>intro c1 r h; cases h
 | succ f ih0 =>
  intro c1 r h
  have ih:=fun (c1:Int)=>ih0 c1 r
  unfold G3 at h;refine CI ?_;refine AH ?_;refine AK AC [(0,.st x0),(3,.j c1),(7,.b (decide (c1 < (x0.length:Int))))] [] ?_;refine AT (b:=(decide (c1 < (x0.length:Int)))) kr (fun hb2=>?_) (fun hb2=>?_)
  ·rw [if_pos hb2] at h
   refine AY ?_;refine AH ?_;refine Al ?_;refine AH ?_;obtain ⟨v3,hv3,h⟩:=OB h;obtain ⟨j6,hj6,h⟩:=OB h;refine AM (s1:=⟨Fr 28 [(0,.st x0),(3,.j c1),(19,.b j6)],[]⟩) ?_ ?_
   ·refine AD (n:=28) AC 2 [(0,.st x0),(3,.j c1),(10,.st x0),(11,.j c1)] [] kr ?_
    refine AZ AC 0 rfl (DR (AB rfl) rfl (Vl (a:= .st x0) (b:= .j c1) kr kr (Sy (bs:=x0) (ki:= .i64) kr hv3))) ?_;refine AD (n:=28) AC 2 [(0,.st x0),(3,.j c1),(14,.b (decide ((v3.toNat:Int) < 97)))] [] kr ?_;rcases BE (decide ((v3.toNat:Int) < 97)) with hc9 | hc9
    ·rw [if_pos hc9] at hj6
     rw [hc9];refine AD (n:=28) AC 5 [(0,.st x0),(3,.j c1),(15,.tp []),(16,.tp []),(17,.tp []),(18,.tp []),(19,.b true)] [] kr ?_;have hq:=OI hj6; subst hq;exact AI rfl AJ
    ·rw [Bm hc9] at hj6
     rw [hc9];refine AD (n:=28) AC 2 [(0,.st x0),(3,.j c1),(14,.b false),(15,.st x0),(16,.j c1)] [] kr ?_;obtain ⟨v4,hv4,hj6⟩:=OB hj6;refine AZ AC 0 rfl (DR kr rfl (Vl (a:= .st x0) (b:= .j c1) kr kr (Sy (bs:=x0) (ki:= .i64) kr hv4))) ?_;refine AD (n:=28) AC 2 [(0,.st x0),(3,.j c1),(15,.st x0),(16,.j c1),(17,.v (.int .u8 (v4.toNat:Int))),(18,.b (decide ((v4.toNat:Int) > 122))),(19,.b (decide ((v4.toNat:Int) > 122)))] [] kr ?_;have hq:=OI hj6; subst hq;exact AI rfl AJ
   refine AT (b:=j6) kr (fun hb7=>?_) (fun hb7=>?_)
   ·rw [if_pos hb7] at h
    refine AK AC [(2,.b false)] [] ?_;refine AR ?_;have hq:=OI h; subst hq;exact ⟨rfl,AJ⟩
   ·rw [Bm hb7] at h
    refine AY ?_;refine D1 AC [(0,.st x0),(3,.j (wr .i64 (c1 + 1)))] [] ?_;exact Aq (s1:=⟨Fr 28 [(0,.st x0),(3,.j (wr .i64 (c1 + 1)))],[]⟩) AJ (ih (wr .i64 (c1 + 1)) h)
  ·rw [Bm hb2] at h
   refine C6 ?_;have hq:=OI h; subst hq;exact ⟨rfl,AJ⟩
theorem UV (x0:(List UInt8)) (r:Bool) (h:Il x0=some r):Sem E0 ⟨none,false⟩ Ng ⟨Fr 28 (A6 0 (Nl.enc (x0,()))),[]⟩ fun e s'=>(e = .normal\/e = .ret)/\∃ xs,EZ E0.P s'.fr s'.hp Tryz.f96.results.toList=some xs/\Ee xs=Nt r:=by
 unfold Il at h;refine Ax (BY (s1:=⟨Fr 28 [(0,.st x0)],[]⟩) AJ ?_);refine AK AC [(0,.st x0)] [] ?_;refine AH ?_;refine AK AC [(0,.st x0),(3,.j 0)] [] ?_;refine Al ?_;obtain ⟨r10,hr10,h⟩:=OB h;refine DB (n:=100000) ?_;rcases r10 with w11 | w15
 ·try dsimp only at h
  refine BB (Aq (s1:=⟨Fr 28 [(0,.st x0),(3,.j 0)],[]⟩) AJ (OT x0 _ 0 _ hr10)) ?_;refine AH ?_;obtain ⟨j13,hj13,h⟩:=OB h;refine AM (s1:=⟨Fr 28 [(2,.b j13)],[]⟩) ?_ ?_
  ·refine AD (n:=28) AC 4 [(0,.st x0),(23,.b (decide ((x0.length:Int)≥1)))] [] kr ?_
   rcases BE (decide ((x0.length:Int)≥1)) with hc14 | hc14
   ·rw [if_pos hc14] at hj13
    rw [hc14];refine AD (n:=28) AC 5 [(2,.b (decide ((x0.length:Int)<=12)))] [] kr ?_;have hq:=OI hj13; subst hq;exact AI rfl AJ
   ·rw [Bm hc14] at hj13
    rw [hc14];refine AD (n:=28) AC 5 [(2,.b false)] [] kr ?_;have hq:=OI hj13; subst hq;exact AI rfl AJ
  refine AR ?_;have hq:=OI h; subst hq;exact ⟨⟨Fr 28 [(2,.b j13)],[]⟩,AJ,.inr rfl,[.b j13],kr,kr⟩
 ·try dsimp only at h
  refine BB (Aq (s1:=⟨Fr 28 [(0,.st x0),(3,.j 0)],[]⟩) AJ (OT x0 _ 0 _ hr10)) ?_;have hq:=OI h; subst hq;exact ⟨⟨Fr 28 [(2,.b w15)],[]⟩,AJ,.inr rfl,[.b w15],kr,kr⟩
def Wr:List AV->Option AV:=ES Nl (fun a=>Il a.1) Nt
theorem PT:XOk 96 Wr:=by
 refine AU Tryz.func96 (c:=Ng) ?h2 ⟨Tryz.call96⟩ Nl (fun a=>Il a.1) Nt (fun a=>(by show 1<=28; decide)) ?h3 ?h4
 case h2=>kernel_rfl
 case h3=>intro b; kernel_rfl
 case h4=>exact fun a b h=>UV a.1 b h
/- slices.Index[[]string,string] -/
noncomputable def Fq:Code:=BL Tryz.f41
def Bq (x0:(List (List UInt8))) (x1:(List UInt8)):Nat->Int->Option ((Unit) ⊕ (Int))
 | 0,_=>none
 | f + 1,c1 =>
  if (decide (c1 < (x0.length:Int)))=true then
  (idx x0 c1).bind fun v3 =>
  if (x1==v3)=true then
  some (.inr c1)
  else
  Bq x0 x1 f (wr .i64 (c1 + 1))
  else
  some (.inl ())
def Cc (x0:(List (List UInt8))) (x1:(List UInt8)):Option (Int) :=
 (Bq x0 x1 100000 0).bind fun r6 =>
 match r6 with
 | (.inl w7) =>
  some (-1)
 | (.inr w8) =>
  some w8
def Fu:Cs ((List (List UInt8))×(List UInt8)×Unit):=(csC (cdL 1 cdS) (csC cdS csN))
def Fz (r:Int):AV:=cdI.enc r
theorem HW (x0:(List (List UInt8))) (x1:(List UInt8)):∀ (f:Nat) (c1:Int) (r:(Unit) ⊕ (Int)),Bq x0 x1 f c1=some r->SemN E0 ⟨none,false⟩ (pc Fq [1,0,1,0,0]) f ⟨Fr 19 [(0,.sl 1 (x0.map cdS.enc)),(1,.st x1),(7,.j (x0.length:Int)),(8,.j c1)],[]⟩ (fun e s=>match r with
 | (.inl w)=>e=(.exit 0)/\Wk E0 s ⟨Fr 19 [],[]⟩
 | (.inr w)=>e = .ret/\Wk E0 s ⟨Fr 19 [(4,.j w)],[]⟩):=by
 intro f;induction f with
 | zero=>intro c1 r h; cases h
 | succ f ih0 =>
  intro c1 r h
  have ih:=fun (c1:Int)=>ih0 c1 r
  unfold Bq at h;refine CI ?_
  let p1:Nat×AV:=(8,.j c1)
  let p2:Nat×AV:=(7,.j (x0.length:Int))
  let p3:Nat×AV:=(0,.sl 1 (x0.map cdS.enc))
  refine AK AC [p3,(1,.st x1),p2,p1,(9,.b (decide (c1 < (x0.length:Int))))] [] ?_;refine AH ?_;refine AT (b:=(decide (c1 < (x0.length:Int)))) kr (fun hb2=>?_) (fun hb2=>?_)
  ·rw [if_pos hb2] at h
   refine AY ?_;refine AH ?_;refine Al ?_
   let p4:Nat×AV:=(5,.j c1)
   refine AK AC [p3,(1,.st x1),p4,p2,p1] [] ?_;refine AH ?_;obtain ⟨v3,hv3,h⟩:=OB h;refine AM (s1:=⟨Fr 19 [p3,(1,.st x1),p4,p2,p1,(16,.b (x1==v3))],[]⟩) ?_ ?_
   ·refine AD (n:=19) AC 3 [p3,(1,.st x1),p4,p2,p1,(11,.st x1),(12,.sl 1 (x0.map cdS.enc)),(13,.j c1)] [] kr ?_
    refine AZ AC 0 rfl (DR (AB rfl) rfl (AP (a:= .sl 1 (x0.map cdS.enc)) (b:= .j c1) kr kr (Di (e:=cdS.enc) (el:=9) (k:=1) (ki:= .i64) kr kr hv3))) ?_;exact Ad AC
   refine AT (b:=(x1==v3)) kr (fun hb4=>?_) (fun hb4=>?_)
   ·rw [if_pos hb4] at h
    refine AK AC [(4,.j c1)] [] ?_;refine AR ?_;have hq:=OI h; subst hq;exact ⟨rfl,AJ⟩
   ·rw [Bm hb4] at h
    refine AY ?_
    let p5:Nat×AV:=(8,.j (wr .i64 (c1 + 1)))
    refine D1 AC [p3,(1,.st x1),p2,p5] [] ?_;exact Aq (s1:=⟨Fr 19 [p3,(1,.st x1),p2,p5],[]⟩) AJ (ih (wr .i64 (c1 + 1)) h)
  ·rw [Bm hb2] at h
   refine C6 ?_;have hq:=OI h; subst hq;exact ⟨rfl,AJ⟩
theorem KZ (x0:(List (List UInt8))) (x1:(List UInt8)) (r:Int) (h:Cc x0 x1=some r):Sem E0 ⟨none,false⟩ Fq ⟨Fr 19 (A6 0 (Fu.enc (x0,x1,()))),[]⟩ fun e s'=>(e = .normal\/e = .ret)/\∃ xs,EZ E0.P s'.fr s'.hp Tryz.f41.results.toList=some xs/\Ee xs=Fz r:=by
 unfold Cc at h
 let p1:Nat×AV:=(0,.sl 1 (x0.map cdS.enc))
 refine Ax (BY (s1:=⟨Fr 19 [p1,(1,.st x1)],[]⟩) AJ ?_);refine AK AC [p1,(1,.st x1)] [] ?_;refine AH ?_;refine AH ?_
 let p2:Nat×AV:=(8,.j 0)
 let p3:Nat×AV:=(7,.j (x0.length:Int))
 refine AM (s1:=⟨Fr 19 [p1,(1,.st x1),p3,p2],[]⟩) ?_ ?_
 ·refine AD (n:=19) AC 1 [p1,(1,.st x1),(6,.sl 1 (x0.map cdS.enc))] [] kr ?_
  refine AZ AC 0 rfl (DR (AB rfl) rfl (C3 (a:= .sl 1 (x0.map cdS.enc)) kr (Bn (el:=9) kr))) ?_;exact Ad AC
 refine Al ?_;obtain ⟨r6,hr6,h⟩:=OB h;refine DB (n:=100000) ?_;rcases r6 with w7 | w8
 ·try dsimp only at h
  refine BB (Aq (s1:=⟨Fr 19 [p1,(1,.st x1),p3,p2],[]⟩) AJ (HW x0 x1 _ 0 _ hr6)) ?_;refine AK AC [(4,.j (-1))] [] ?_;refine AR ?_;have hq:=OI h; subst hq;exact ⟨⟨Fr 19 [(4,.j (-1))],[]⟩,AJ,.inr rfl,[.j (-1)],kr,kr⟩
 ·try dsimp only at h
  refine BB (Aq (s1:=⟨Fr 19 [p1,(1,.st x1),p3,p2],[]⟩) AJ (HW x0 x1 _ 0 _ hr6)) ?_;have hq:=OI h; subst hq;exact ⟨⟨Fr 19 [(4,.j w8)],[]⟩,AJ,.inr rfl,[.j w8],kr,kr⟩
def Lk:List AV->Option AV:=ES Fu (fun a=>Cc a.1 a.2.1) Fz
theorem IJ:XOk 41 Lk:=by
 refine AU Tryz.func41 (c:=Fq) ?h2 ⟨Tryz.call41⟩ Fu (fun a=>Cc a.1 a.2.1) Fz (fun a=>(by show 2<=19; decide)) ?h3 ?h4
 case h2=>kernel_rfl
 case h3=>intro b; kernel_rfl
 case h4=>exact fun a b h=>KZ a.1 a.2.1 b h
/- slices.Contains[[]string,string] -/
noncomputable def HT:Code:=BL Tryz.f97
def BC (x0:(List (List UInt8))) (x1:(List UInt8)):Option (Bool) :=
 (Cc x0 x1).bind fun v1 =>
 some (decide (v1≥0))
def Et:Cs ((List (List UInt8))×(List UInt8)×Unit):=(csC (cdL 1 cdS) (csC cdS csN))
def Eu (r:Bool):AV:=cdB.enc r
theorem Jt (x0:(List (List UInt8))) (x1:(List UInt8)) (r:Bool) (h:BC x0 x1=some r):Sem E0 ⟨none,false⟩ HT ⟨Fr 9 (A6 0 (Et.enc (x0,x1,()))),[]⟩ fun e s'=>(e = .normal\/e = .ret)/\∃ xs,EZ E0.P s'.fr s'.hp Tryz.f97.results.toList=some xs/\Ee xs=Eu r:=by
 unfold BC at h;refine Ax (BY (s1:=⟨Fr 9 [(0,.sl 1 (x0.map cdS.enc)),(1,.st x1)],[]⟩) AJ ?_);refine AK AC [(0,.sl 1 (x0.map cdS.enc)),(1,.st x1)] [] ?_;refine AH ?_;obtain ⟨v1,hv1,h⟩:=OB h
 let p1:Nat×AV:=(4,.b (decide (v1≥0)))
 refine AM (s1:=⟨Fr 9 [p1],[]⟩) ?_ ?_
 ·refine AD (n:=9) AC 2 [(5,.sl 1 (x0.map cdS.enc)),(6,.st x1)] [] kr ?_
  refine AS (caps:=[]) (xs:=[.sl 1 (x0.map cdS.enc),.st x1]) (u:=(x0,x1,())) rfl rfl IJ rfl (AB rfl) kr kr (AL (AW (c:=(cdL 1 cdS)) (v:=x0)) (AL (AW (c:=cdS) (v:=x1)) Ao)) (.inl kr) hv1 ?_;exact Ad AC
 refine AR ?_;have hq:=OI h; subst hq;exact ⟨⟨Fr 9 [p1],[]⟩,AJ,.inr rfl,[.b (decide (v1≥0))],kr,kr⟩
def KM:List AV->Option AV:=ES Et (fun a=>BC a.1 a.2.1) Eu
theorem Cr:XOk 97 KM:=by
 refine AU Tryz.func97 (c:=HT) ?h2 ⟨Tryz.call97⟩ Et (fun a=>BC a.1 a.2.1) Eu (fun a=>(by show 2<=9; decide)) ?h3 ?h4
 case h2=>kernel_rfl
 case h3=>intro b; kernel_rfl
 case h4=>exact fun a b h=>Jt a.1 a.2.1 b h
/- trestle/court.formed -/
noncomputable def D7:Code:=BL Tryz.f159
def JS (x0:AF):Option ((Bool)) :=
 if (x0.1==8)=true then
 some (x0.1==8)
 else
 some (x0.1==9)
def JR (x0:AF):Option ((Bool)) :=
 if (x0.1==3)=true then
 some (x0.1==3)
 else
 (JS x0).bind fun r14 =>
 some r14
def JQ (x0:AF):Option ((Bool)) :=
 if (x0.1==2)=true then
 some (x0.1==2)
 else
 (JR x0).bind fun r15 =>
 some r15
def JW (x0:AF):Option ((Bool)) :=
 if (x0.1==6)=true then
 some (x0.1==6)
 else
 some (x0.1==7)
def JX (x0:AF) (r33:Bool):Option ((Int×Int×Bool) ⊕ (Bool)) :=
 if r33=true then
 some (.inl (16,0,true))
 else
 if (x0.1==10)=true then
 some (.inl (0,63,false))
 else
 some (.inr false)
def JV (x0:AF):Option ((Int×Int×Bool) ⊕ (Bool)) :=
 if (x0.1==5)=true then
 some (.inl (0,0,true))
 else
 (JW x0).bind fun r33 =>
 (JX x0 r33).bind fun r40 =>
 match r40 with
 | (.inl w41) =>
  some (.inl (w41.1,w41.2.1,w41.2.2))
 | (.inr w42) =>
  some (.inr w42)
def JU (x0:AF):Option ((Int×Int×Int×Bool) ⊕ (Bool)) :=
 if (x0.1==4)=true then
 some (.inl (0,1,2,true))
 else
 (JV x0).bind fun r44 =>
 match r44 with
 | (.inl w45) =>
  some (.inl (w45.1,0,w45.2.1,w45.2.2))
 | (.inr w46) =>
  some (.inr w46)
def JT (x0:AF) (r16:Bool):Option ((Int×Int×Int×Bool) ⊕ (Bool)) :=
 if r16=true then
 some (.inl (0,0,0,false))
 else
 (JU x0).bind fun r48 =>
 match r48 with
 | (.inl w49) =>
  some (.inl (w49.1,w49.2.1,w49.2.2.1,w49.2.2.2))
 | (.inr w50) =>
  some (.inr w50)
def JP (x0:AF):Option ((Int×Int×Int×Bool) ⊕ (Bool)) :=
 if (x0.1==1)=true then
 if (!(x0.2.1==[]))=true then
 some (.inr false)
 else
 some (.inl (16,0,0,false))
 else
 (JQ x0).bind fun r16 =>
 (JT x0 r16).bind fun r52 =>
 match r52 with
 | (.inl w53) =>
  some (.inl (w53.1,w53.2.1,w53.2.2.1,w53.2.2.2))
 | (.inr w54) =>
  some (.inr w54)
def DH (x0:AF):Option (Bool) :=
 (JP x0).bind fun r55 =>
 match r55 with
 | (.inl w56) =>
  (if (decide ((x0.2.2.2.1.length:Int)<=w56.1))=true then if (w56.1==0)=true then if (decide (x0.2.2.2.2≥w56.2.1))=true then if (decide (x0.2.2.2.2<=w56.2.2.1))=true then if w56.2.2.2=true then some true else some (!x0.2.2.1) else some false else some false else if (decide ((x0.2.2.2.1.length:Int) > 0))=true then if (decide (x0.2.2.2.2≥w56.2.1))=true then if (decide (x0.2.2.2.2<=w56.2.2.1))=true then if w56.2.2.2=true then some true else some (!x0.2.2.1) else some false else some false else some false else some false).bind fun j58 =>
  some j58
 | (.inr w68) =>
  some w68
def L6:Cs (AF×Unit):=(csC AA csN)
def ME (r:Bool):AV:=cdB.enc r
theorem Qd (x0:AF) (r:(Bool)) (h:JS x0=some r):Sem E0 ⟨none,false⟩ (pc D7 [1,1,0,1,0,1,1,0,1,1,1,1,1]) ⟨Fr 63 [(1,.pt 0 0 0),(3,.j 0),(4,.j 0),(5,.j 0),(6,.b false),(8,.v (.int .u8 x0.1)),(14,.b (x0.1==8))],[some ⟨5,60,[AA.enc x0],false⟩]⟩ (fun e s=>e = .normal/\Wk E0 s ⟨Fr 63 [(1,.pt 0 0 0),(3,.j 0),(4,.j 0),(5,.j 0),(6,.b false),(8,.v (.int .u8 x0.1)),(14,.b r)],[some ⟨5,60,[AA.enc x0],false⟩]⟩):=by
 unfold JS at h;refine AT (b:=(x0.1==8)) kr (fun hb12=>?_) (fun hb12=>?_)
 ·rw [if_pos hb12] at h
  refine AY ?_;have hq:=OI h; subst hq;exact ⟨rfl,(Ar [0] ⟨⟨_,rfl,HS⟩,trivial⟩ ⟨lv,lv,lv,lv,lv,lv,lv,trivial⟩)⟩
 ·rw [Bm hb12] at h
  refine D1 AC [(1,.pt 0 0 0),(3,.j 0),(4,.j 0),(5,.j 0),(6,.b false),(8,.v (.int .u8 x0.1)),(14,.b (x0.1==9))] [some ⟨5,60,[AA.enc x0],false⟩] ?_;have hq:=OI h; subst hq;exact ⟨rfl,(Ar [0] ⟨⟨_,rfl,HS⟩,trivial⟩ ⟨lv,lv,lv,lv,lv,lv,lv,trivial⟩)⟩
theorem Qc (x0:AF) (r:(Bool)) (h:JR x0=some r):Sem E0 ⟨none,false⟩ (pc D7 [1,1,0,1,0,1,1,0,1,1,1]) ⟨Fr 63 [(1,.pt 0 0 0),(3,.j 0),(4,.j 0),(5,.j 0),(6,.b false),(8,.v (.int .u8 x0.1)),(14,.b (x0.1==3))],[some ⟨5,60,[AA.enc x0],false⟩]⟩ (fun e s=>e = .normal/\Wk E0 s ⟨Fr 63 [(1,.pt 0 0 0),(3,.j 0),(4,.j 0),(5,.j 0),(6,.b false),(8,.v (.int .u8 x0.1)),(14,.b r)],[some ⟨5,60,[AA.enc x0],false⟩]⟩):=by
 unfold JR at h;refine AT (b:=(x0.1==3)) kr (fun hb10=>?_) (fun hb10=>?_)
 ·rw [if_pos hb10] at h
  refine AY ?_;have hq:=OI h; subst hq;exact ⟨rfl,(Ar [0] ⟨⟨_,rfl,HS⟩,trivial⟩ ⟨lv,lv,lv,lv,lv,lv,lv,trivial⟩)⟩
 ·rw [Bm hb10] at h
  refine AK AC [(1,.pt 0 0 0),(3,.j 0),(4,.j 0),(5,.j 0),(6,.b false),(8,.v (.int .u8 x0.1)),(14,.b (x0.1==8))] [some ⟨5,60,[AA.enc x0],false⟩] ?_;obtain ⟨r14,hr14,h⟩:=OB h;refine Hl (Qd x0 _ hr14) ?_;have hq:=OI h; subst hq;exact ⟨rfl,(Ar [0] ⟨⟨_,rfl,HS⟩,trivial⟩ ⟨lv,lv,lv,lv,lv,lv,lv,trivial⟩)⟩
theorem Qb (x0:AF) (r:(Bool)) (h:JQ x0=some r):Sem E0 ⟨none,false⟩ (pc D7 [1,1,0,1,0,1,1,0,1]) ⟨Fr 63 [(1,.pt 0 0 0),(3,.j 0),(4,.j 0),(5,.j 0),(6,.b false),(8,.v (.int .u8 x0.1)),(14,.b (x0.1==2))],[some ⟨5,60,[AA.enc x0],false⟩]⟩ (fun e s=>e = .normal/\Wk E0 s ⟨Fr 63 [(1,.pt 0 0 0),(3,.j 0),(4,.j 0),(5,.j 0),(6,.b false),(8,.v (.int .u8 x0.1)),(14,.b r)],[some ⟨5,60,[AA.enc x0],false⟩]⟩):=by
 unfold JQ at h;refine AT (b:=(x0.1==2)) kr (fun hb8=>?_) (fun hb8=>?_)
 ·rw [if_pos hb8] at h
  refine AY ?_;have hq:=OI h; subst hq;exact ⟨rfl,(Ar [0] ⟨⟨_,rfl,HS⟩,trivial⟩ ⟨lv,lv,lv,lv,lv,lv,lv,trivial⟩)⟩
 ·rw [Bm hb8] at h
  refine AK AC [(1,.pt 0 0 0),(3,.j 0),(4,.j 0),(5,.j 0),(6,.b false),(8,.v (.int .u8 x0.1)),(14,.b (x0.1==3))] [some ⟨5,60,[AA.enc x0],false⟩] ?_;obtain ⟨r15,hr15,h⟩:=OB h;refine Hl (Qc x0 _ hr15) ?_;have hq:=OI h; subst hq;exact ⟨rfl,(Ar [0] ⟨⟨_,rfl,HS⟩,trivial⟩ ⟨lv,lv,lv,lv,lv,lv,lv,trivial⟩)⟩
theorem Qe (x0:AF) (r:(Bool)) (h:JW x0=some r):Sem E0 ⟨none,false⟩ (pc D7 [1,1,0,1,0,1,1,1,1,1,1,1,1,0,1]) ⟨Fr 63 [(1,.pt 0 0 0),(3,.j 0),(4,.j 0),(5,.j 0),(6,.b false),(8,.v (.int .u8 x0.1)),(23,.b (x0.1==6))],[some ⟨5,60,[AA.enc x0],false⟩]⟩ (fun e s=>e = .normal/\Wk E0 s ⟨Fr 63 [(1,.pt 0 0 0),(3,.j 0),(4,.j 0),(5,.j 0),(6,.b false),(8,.v (.int .u8 x0.1)),(23,.b r)],[some ⟨5,60,[AA.enc x0],false⟩]⟩):=by
 unfold JW at h;refine AT (b:=(x0.1==6)) kr (fun hb31=>?_) (fun hb31=>?_)
 ·rw [if_pos hb31] at h
  refine AY ?_;have hq:=OI h; subst hq;exact ⟨rfl,(Ar [0] ⟨⟨_,rfl,HS⟩,trivial⟩ ⟨lv,lv,lv,lv,lv,lv,lv,trivial⟩)⟩
 ·rw [Bm hb31] at h
  refine D1 AC [(1,.pt 0 0 0),(3,.j 0),(4,.j 0),(5,.j 0),(6,.b false),(8,.v (.int .u8 x0.1)),(23,.b (x0.1==7))] [some ⟨5,60,[AA.enc x0],false⟩] ?_;have hq:=OI h; subst hq;exact ⟨rfl,(Ar [0] ⟨⟨_,rfl,HS⟩,trivial⟩ ⟨lv,lv,lv,lv,lv,lv,lv,trivial⟩)⟩
theorem Mj (x0:AF) (r33:Bool) (r:(Int×Int×Bool) ⊕ (Bool)) (h:JX x0 r33=some r):Sem E0 ⟨none,false⟩ (pc D7 [1,1,0,1,0,1,1,1,1,1,1,1,1,1]) ⟨Fr 63 [(1,.pt 0 0 0),(3,.j 0),(4,.j 0),(5,.j 0),(6,.b false),(8,.v (.int .u8 x0.1)),(23,.b r33)],[some ⟨5,60,[AA.enc x0],false⟩]⟩ (fun e s=>match r with
 | (.inl w)=>e = .normal/\Wk E0 s ⟨Fr 63 [(1,.pt 0 0 0),(3,.j w.1),(4,.j 0),(5,.j w.2.1),(6,.b w.2.2)],[some ⟨5,60,[AA.enc x0],false⟩]⟩
 | (.inr w)=>e = .ret/\Wk E0 s ⟨Fr 63 [(2,.b w)],[]⟩):=by
 unfold JX at h;refine AT (b:=r33) kr (fun hb34=>?_) (fun hb34=>?_)
 ·rw [if_pos hb34] at h
  refine D1 AC [(1,.pt 0 0 0),(3,.j 16),(4,.j 0),(5,.j 0),(6,.b true)] [some ⟨5,60,[AA.enc x0],false⟩] ?_;have hq:=OI h; subst hq;exact ⟨rfl,(Ar [0] ⟨⟨_,rfl,HS⟩,trivial⟩ ⟨lv,lv,lv,lv,lv,trivial⟩)⟩
 ·rw [Bm hb34] at h
  let p1:Option Blk:=some ⟨5,60,[AA.enc x0],false⟩
  refine AK AC [(1,.pt 0 0 0),(3,.j 0),(4,.j 0),(6,.b false),(26,.b (x0.1==10))] [p1] ?_;refine AT (b:=(x0.1==10)) kr (fun hb38=>?_) (fun hb38=>?_)
  ·rw [if_pos hb38] at h
   refine D1 AC [(1,.pt 0 0 0),(3,.j 0),(4,.j 0),(5,.j 63),(6,.b false)] [p1] ?_;have hq:=OI h; subst hq;exact ⟨rfl,(Ar [0] ⟨⟨_,rfl,HS⟩,trivial⟩ ⟨lv,lv,lv,lv,lv,trivial⟩)⟩
  ·rw [Bm hb38] at h
   refine AH ?_;refine AM (s1:=⟨Fr 63 [(2,.b false)],[]⟩) ?_ ?_
   ·refine AD (n:=63) AC 1 [(2,.b false)] [p1] kr ?_
    exact AI rfl (Ar [] trivial ⟨lv,trivial⟩)
   refine AR ?_;have hq:=OI h; subst hq;exact ⟨rfl,AJ⟩
theorem Mi (x0:AF) (r:(Int×Int×Bool) ⊕ (Bool)) (h:JV x0=some r):Sem E0 ⟨none,false⟩ (pc D7 [1,1,0,1,0,1,1,1,1,1,1,1]) ⟨Fr 63 [(1,.pt 0 0 0),(3,.j 0),(4,.j 0),(5,.j 0),(6,.b false),(8,.v (.int .u8 x0.1)),(21,.b (x0.1==5))],[some ⟨5,60,[AA.enc x0],false⟩]⟩ (fun e s=>match r with
 | (.inl w)=>e = .normal/\Wk E0 s ⟨Fr 63 [(1,.pt 0 0 0),(3,.j w.1),(4,.j 0),(5,.j w.2.1),(6,.b w.2.2)],[some ⟨5,60,[AA.enc x0],false⟩]⟩
 | (.inr w)=>e = .ret/\Wk E0 s ⟨Fr 63 [(2,.b w)],[]⟩):=by
 unfold JV at h;refine AT (b:=(x0.1==5)) kr (fun hb27=>?_) (fun hb27=>?_)
 ·rw [if_pos hb27] at h
  refine D1 AC [(1,.pt 0 0 0),(3,.j 0),(4,.j 0),(5,.j 0),(6,.b true)] [some ⟨5,60,[AA.enc x0],false⟩] ?_;have hq:=OI h; subst hq;exact ⟨rfl,(Ar [0] ⟨⟨_,rfl,HS⟩,trivial⟩ ⟨lv,lv,lv,lv,lv,trivial⟩)⟩
 ·rw [Bm hb27] at h
  refine AH ?_;refine AK AC [(1,.pt 0 0 0),(3,.j 0),(4,.j 0),(5,.j 0),(6,.b false),(8,.v (.int .u8 x0.1)),(23,.b (x0.1==6))] [some ⟨5,60,[AA.enc x0],false⟩] ?_;obtain ⟨r33,hr33,h⟩:=OB h;refine Hl (Qe x0 _ hr33) ?_;obtain ⟨r40,hr40,h⟩:=OB h;rcases r40 with w41 | w42
  ·try dsimp only at h
   refine Hl (Mj x0 r33 _ hr40) ?_;have hq:=OI h; subst hq;exact ⟨rfl,(Ar [0] ⟨⟨_,rfl,HS⟩,trivial⟩ ⟨lv,lv,lv,lv,lv,trivial⟩)⟩
  ·try dsimp only at h
   refine Hl (Mj x0 r33 _ hr40) ?_;have hq:=OI h; subst hq;exact ⟨rfl,AJ⟩
theorem Mh (x0:AF) (r:(Int×Int×Int×Bool) ⊕ (Bool)) (h:JU x0=some r):Sem E0 ⟨none,false⟩ (pc D7 [1,1,0,1,0,1,1,1,1,1]) ⟨Fr 63 [(1,.pt 0 0 0),(3,.j 0),(4,.j 0),(5,.j 0),(6,.b false),(8,.v (.int .u8 x0.1)),(19,.b (x0.1==4))],[some ⟨5,60,[AA.enc x0],false⟩]⟩ (fun e s=>match r with
 | (.inl w)=>e = .normal/\Wk E0 s ⟨Fr 63 [(1,.pt 0 0 0),(3,.j w.1),(4,.j w.2.1),(5,.j w.2.2.1),(6,.b w.2.2.2)],[some ⟨5,60,[AA.enc x0],false⟩]⟩
 | (.inr w)=>e = .ret/\Wk E0 s ⟨Fr 63 [(2,.b w)],[]⟩):=by
 unfold JU at h;refine AT (b:=(x0.1==4)) kr (fun hb22=>?_) (fun hb22=>?_)
 ·rw [if_pos hb22] at h
  refine D1 AC [(1,.pt 0 0 0),(3,.j 0),(4,.j 1),(5,.j 2),(6,.b true)] [some ⟨5,60,[AA.enc x0],false⟩] ?_;have hq:=OI h; subst hq;exact ⟨rfl,(Ar [0] ⟨⟨_,rfl,HS⟩,trivial⟩ ⟨lv,lv,lv,lv,lv,trivial⟩)⟩
 ·rw [Bm hb22] at h
  refine AK AC [(1,.pt 0 0 0),(3,.j 0),(4,.j 0),(5,.j 0),(6,.b false),(8,.v (.int .u8 x0.1)),(21,.b (x0.1==5))] [some ⟨5,60,[AA.enc x0],false⟩] ?_;obtain ⟨r44,hr44,h⟩:=OB h;rcases r44 with w45 | w46
  ·try dsimp only at h
   refine Hl (Mi x0 _ hr44) ?_;have hq:=OI h; subst hq;exact ⟨rfl,(Ar [0] ⟨⟨_,rfl,HS⟩,trivial⟩ ⟨lv,lv,lv,lv,lv,trivial⟩)⟩
  ·try dsimp only at h
   refine Hl (Mi x0 _ hr44) ?_;have hq:=OI h; subst hq;exact ⟨rfl,AJ⟩
theorem Mg (x0:AF) (r16:Bool) (r:(Int×Int×Int×Bool) ⊕ (Bool)) (h:JT x0 r16=some r):Sem E0 ⟨none,false⟩ (pc D7 [1,1,0,1,0,1,1,1]) ⟨Fr 63 [(1,.pt 0 0 0),(3,.j 0),(4,.j 0),(5,.j 0),(6,.b false),(8,.v (.int .u8 x0.1)),(14,.b r16)],[some ⟨5,60,[AA.enc x0],false⟩]⟩ (fun e s=>match r with
 | (.inl w)=>e = .normal/\Wk E0 s ⟨Fr 63 [(1,.pt 0 0 0),(3,.j w.1),(4,.j w.2.1),(5,.j w.2.2.1),(6,.b w.2.2.2)],[some ⟨5,60,[AA.enc x0],false⟩]⟩
 | (.inr w)=>e = .ret/\Wk E0 s ⟨Fr 63 [(2,.b w)],[]⟩):=by
 unfold JT at h;refine AT (b:=r16) kr (fun hb17=>?_) (fun hb17=>?_)
 ·rw [if_pos hb17] at h
  refine AY ?_;have hq:=OI h; subst hq;exact ⟨rfl,(Ar [0] ⟨⟨_,rfl,HS⟩,trivial⟩ ⟨lv,lv,lv,lv,lv,trivial⟩)⟩
 ·rw [Bm hb17] at h
  refine AK AC [(1,.pt 0 0 0),(3,.j 0),(4,.j 0),(5,.j 0),(6,.b false),(8,.v (.int .u8 x0.1)),(19,.b (x0.1==4))] [some ⟨5,60,[AA.enc x0],false⟩] ?_;obtain ⟨r48,hr48,h⟩:=OB h;rcases r48 with w49 | w50
  ·try dsimp only at h
   refine Hl (Mh x0 _ hr48) ?_;have hq:=OI h; subst hq;exact ⟨rfl,(Ar [0] ⟨⟨_,rfl,HS⟩,trivial⟩ ⟨lv,lv,lv,lv,lv,trivial⟩)⟩
  ·try dsimp only at h
   refine Hl (Mh x0 _ hr48) ?_;have hq:=OI h; subst hq;exact ⟨rfl,AJ⟩
theorem Mf (x0:AF) (r:(Int×Int×Int×Bool) ⊕ (Bool)) (h:JP x0=some r):Sem E0 ⟨none,false⟩ (pc D7 [1,1,0,1,0,1]) ⟨Fr 63 [(1,.pt 0 0 0),(3,.j 0),(4,.j 0),(5,.j 0),(6,.b false),(8,.v (.int .u8 x0.1)),(9,.b (x0.1==1))],[some ⟨5,60,[AA.enc x0],false⟩]⟩ (fun e s=>match r with
 | (.inl w)=>e = .normal/\Wk E0 s ⟨Fr 63 [(1,.pt 0 0 0),(3,.j w.1),(4,.j w.2.1),(5,.j w.2.2.1),(6,.b w.2.2.2)],[some ⟨5,60,[AA.enc x0],false⟩]⟩
 | (.inr w)=>e = .ret/\Wk E0 s ⟨Fr 63 [(2,.b w)],[]⟩):=by
 unfold JP at h;refine AT (b:=(x0.1==1)) kr (fun hb1=>?_) (fun hb1=>?_)
 ·rw [if_pos hb1] at h
  refine AH ?_
  let p1:Option Blk:=some ⟨5,60,[AA.enc x0],false⟩
  refine AK AC [(1,.pt 0 0 0),(4,.j 0),(5,.j 0),(6,.b false),(13,.b (!(x0.2.1==[])))] [p1] ?_;refine AT (b:=(!(x0.2.1==[]))) kr (fun hb2=>?_) (fun hb2=>?_)
  ·rw [if_pos hb2] at h
   refine AH ?_;refine AM (s1:=⟨Fr 63 [(2,.b false)],[]⟩) ?_ ?_
   ·refine AD (n:=63) AC 1 [(2,.b false)] [p1] kr ?_
    exact AI rfl (Ar [] trivial ⟨lv,trivial⟩)
   refine AR ?_;have hq:=OI h; subst hq;exact ⟨rfl,AJ⟩
  ·rw [Bm hb2] at h
   refine AY ?_;refine D1 AC [(1,.pt 0 0 0),(3,.j 16),(4,.j 0),(5,.j 0),(6,.b false)] [p1] ?_;have hq:=OI h; subst hq;exact ⟨rfl,(Ar [0] ⟨⟨_,rfl,HS⟩,trivial⟩ ⟨lv,lv,lv,lv,lv,trivial⟩)⟩
 ·rw [Bm hb1] at h
  refine AH ?_;refine AK AC [(1,.pt 0 0 0),(3,.j 0),(4,.j 0),(5,.j 0),(6,.b false),(8,.v (.int .u8 x0.1)),(14,.b (x0.1==2))] [some ⟨5,60,[AA.enc x0],false⟩] ?_;obtain ⟨r16,hr16,h⟩:=OB h;refine Hl (Qb x0 _ hr16) ?_;obtain ⟨r52,hr52,h⟩:=OB h;rcases r52 with w53 | w54
  ·try dsimp only at h
   refine Hl (Mg x0 r16 _ hr52) ?_;have hq:=OI h; subst hq;exact ⟨rfl,(Ar [0] ⟨⟨_,rfl,HS⟩,trivial⟩ ⟨lv,lv,lv,lv,lv,trivial⟩)⟩
  ·try dsimp only at h
   refine Hl (Mg x0 r16 _ hr52) ?_;have hq:=OI h; subst hq;exact ⟨rfl,AJ⟩
theorem SK (x0:AF) (r:Bool) (h:DH x0=some r):Sem E0 ⟨none,false⟩ D7 ⟨Fr 63 (A6 0 (L6.enc (x0,()))),[]⟩ fun e s'=>(e = .normal\/e = .ret)/\∃ xs,EZ E0.P s'.fr s'.hp Tryz.f159.results.toList=some xs/\Ee xs=ME r:=by
 unfold DH at h;refine Ax (BY (s1:=⟨Fr 63 [(0,AA.enc x0)],[]⟩) AJ ?_);refine AK AC [(1,.pt 0 0 0)] [some ⟨5,60,[AA.enc x0],false⟩] ?_;refine AK AC [(1,.pt 0 0 0),(3,.j 0),(4,.j 0),(5,.j 0),(6,.b false)] [some ⟨5,60,[AA.enc x0],false⟩] ?_;refine AH ?_;refine AK AC [(1,.pt 0 0 0),(3,.j 0),(4,.j 0),(5,.j 0),(6,.b false),(8,.v (.int .u8 x0.1))] [some ⟨5,60,[AA.enc x0],false⟩] ?_;refine Al ?_;refine AK AC [(1,.pt 0 0 0),(3,.j 0),(4,.j 0),(5,.j 0),(6,.b false),(8,.v (.int .u8 x0.1)),(9,.b (x0.1==1))] [some ⟨5,60,[AA.enc x0],false⟩] ?_;obtain ⟨r55,hr55,h⟩:=OB h;rcases r55 with w56 | w68
 ·try dsimp only at h
  refine Hl (Mf x0 _ hr55) ?_;refine AH ?_;obtain ⟨j58,hj58,h⟩:=OB h;refine AM (s1:=⟨Fr 63 [(2,.b j58)],[]⟩) ?_ ?_
  ·refine AD (n:=63) AC 2 [(1,.pt 0 0 0),(3,.j w56.1),(4,.j w56.2.1),(5,.j w56.2.2.1),(6,.b w56.2.2.2),(29,.sl 1 (x0.2.2.2.1.map cdS.enc))] [some ⟨5,60,[AA.enc x0],false⟩] kr ?_
   refine AZ AC 0 rfl (DR (AB rfl) rfl (C3 (a:= .sl 1 (x0.2.2.2.1.map cdS.enc)) kr (Bn (el:=9) kr))) ?_;refine AD (n:=63) AC 3 [(1,.pt 0 0 0),(3,.j w56.1),(4,.j w56.2.1),(5,.j w56.2.2.1),(6,.b w56.2.2.2),(33,.b (decide ((x0.2.2.2.1.length:Int)<=w56.1)))] [some ⟨5,60,[AA.enc x0],false⟩] kr ?_;rcases BE (decide ((x0.2.2.2.1.length:Int)<=w56.1)) with hc59 | hc59
   ·rw [if_pos hc59] at hj58
    rw [hc59];refine AD (n:=63) AC 3 [(1,.pt 0 0 0),(4,.j w56.2.1),(5,.j w56.2.2.1),(6,.b w56.2.2.2),(33,.b true),(36,.b (w56.1==0))] [some ⟨5,60,[AA.enc x0],false⟩] kr ?_;rcases BE (w56.1==0) with hc60 | hc60
    ·rw [if_pos hc60] at hj58
     rw [hc60];refine AD (n:=63) AC 13 [(1,.pt 0 0 0),(5,.j w56.2.2.1),(6,.b w56.2.2.2),(49,.b (decide (x0.2.2.2.2≥w56.2.1)))] [some ⟨5,60,[AA.enc x0],false⟩] kr ?_;rcases BE (decide (x0.2.2.2.2≥w56.2.1)) with hc61 | hc61
     ·rw [if_pos hc61] at hj58
      rw [hc61];refine AD (n:=63) AC 6 [(1,.pt 0 0 0),(6,.b w56.2.2.2),(55,.b (decide (x0.2.2.2.2<=w56.2.2.1)))] [some ⟨5,60,[AA.enc x0],false⟩] kr ?_;rcases BE (decide (x0.2.2.2.2<=w56.2.2.1)) with hc62 | hc62
      ·rw [if_pos hc62] at hj58
       rw [hc62];refine AD (n:=63) AC 2 [(1,.pt 0 0 0),(55,.b true),(57,.b w56.2.2.2)] [some ⟨5,60,[AA.enc x0],false⟩] kr ?_;rcases BE w56.2.2.2 with hc63 | hc63
       ·rw [if_pos hc63] at hj58
        rw [hc63];refine AD (n:=63) AC 6 [(2,.b true)] [some ⟨5,60,[AA.enc x0],false⟩] kr ?_;have hq:=OI hj58; subst hq;exact AI rfl (Ar [] trivial ⟨lv,trivial⟩)
       ·rw [Bm hc63] at hj58
        rw [hc63];refine AD (n:=63) AC 6 [(2,.b (!x0.2.2.1))] [some ⟨5,60,[AA.enc x0],false⟩] kr ?_;have hq:=OI hj58; subst hq;exact AI rfl (Ar [] trivial ⟨lv,trivial⟩)
      ·rw [Bm hc62] at hj58
       rw [hc62];refine AD (n:=63) AC 8 [(2,.b false)] [some ⟨5,60,[AA.enc x0],false⟩] kr ?_;have hq:=OI hj58; subst hq;exact AI rfl (Ar [] trivial ⟨lv,trivial⟩)
     ·rw [Bm hc61] at hj58
      rw [hc61];refine AD (n:=63) AC 14 [(2,.b false)] [some ⟨5,60,[AA.enc x0],false⟩] kr ?_;have hq:=OI hj58; subst hq;exact AI rfl (Ar [] trivial ⟨lv,trivial⟩)
    ·rw [Bm hc60] at hj58
     rw [hc60];refine AD (n:=63) AC 2 [(1,.pt 0 0 0),(4,.j w56.2.1),(5,.j w56.2.2.1),(6,.b w56.2.2.2),(33,.b true),(36,.b false),(38,.sl 1 (x0.2.2.2.1.map cdS.enc))] [some ⟨5,60,[AA.enc x0],false⟩] kr ?_;refine AZ AC 0 rfl (DR kr rfl (C3 (a:= .sl 1 (x0.2.2.2.1.map cdS.enc)) kr (Bn (el:=9) kr))) ?_;refine AD (n:=63) AC 4 [(1,.pt 0 0 0),(4,.j w56.2.1),(5,.j w56.2.2.1),(6,.b w56.2.2.2),(43,.b (decide ((x0.2.2.2.1.length:Int) > 0)))] [some ⟨5,60,[AA.enc x0],false⟩] kr ?_;rcases BE (decide ((x0.2.2.2.1.length:Int) > 0)) with hc64 | hc64
     ·rw [if_pos hc64] at hj58
      rw [hc64];refine AD (n:=63) AC 6 [(1,.pt 0 0 0),(5,.j w56.2.2.1),(6,.b w56.2.2.2),(49,.b (decide (x0.2.2.2.2≥w56.2.1)))] [some ⟨5,60,[AA.enc x0],false⟩] kr ?_;rcases BE (decide (x0.2.2.2.2≥w56.2.1)) with hc65 | hc65
      ·rw [if_pos hc65] at hj58
       rw [hc65];refine AD (n:=63) AC 6 [(1,.pt 0 0 0),(6,.b w56.2.2.2),(55,.b (decide (x0.2.2.2.2<=w56.2.2.1)))] [some ⟨5,60,[AA.enc x0],false⟩] kr ?_;rcases BE (decide (x0.2.2.2.2<=w56.2.2.1)) with hc66 | hc66
       ·rw [if_pos hc66] at hj58
        rw [hc66];refine AD (n:=63) AC 2 [(1,.pt 0 0 0),(55,.b true),(57,.b w56.2.2.2)] [some ⟨5,60,[AA.enc x0],false⟩] kr ?_;rcases BE w56.2.2.2 with hc67 | hc67
        ·rw [if_pos hc67] at hj58
         rw [hc67];refine AD (n:=63) AC 6 [(2,.b true)] [some ⟨5,60,[AA.enc x0],false⟩] kr ?_;have hq:=OI hj58; subst hq;exact AI rfl (Ar [] trivial ⟨lv,trivial⟩)
        ·rw [Bm hc67] at hj58
         rw [hc67];refine AD (n:=63) AC 6 [(2,.b (!x0.2.2.1))] [some ⟨5,60,[AA.enc x0],false⟩] kr ?_;have hq:=OI hj58; subst hq;exact AI rfl (Ar [] trivial ⟨lv,trivial⟩)
       ·rw [Bm hc66] at hj58
        rw [hc66];refine AD (n:=63) AC 8 [(2,.b false)] [some ⟨5,60,[AA.enc x0],false⟩] kr ?_;have hq:=OI hj58; subst hq;exact AI rfl (Ar [] trivial ⟨lv,trivial⟩)
      ·rw [Bm hc65] at hj58
       rw [hc65];refine AD (n:=63) AC 14 [(2,.b false)] [some ⟨5,60,[AA.enc x0],false⟩] kr ?_;have hq:=OI hj58; subst hq;exact AI rfl (Ar [] trivial ⟨lv,trivial⟩)
     ·rw [Bm hc64] at hj58
      rw [hc64];refine AD (n:=63) AC 20 [(2,.b false)] [some ⟨5,60,[AA.enc x0],false⟩] kr ?_;have hq:=OI hj58; subst hq;exact AI rfl (Ar [] trivial ⟨lv,trivial⟩)
   ·rw [Bm hc59] at hj58
    rw [hc59];refine AD (n:=63) AC 30 [(2,.b false)] [some ⟨5,60,[AA.enc x0],false⟩] kr ?_;have hq:=OI hj58; subst hq;exact AI rfl (Ar [] trivial ⟨lv,trivial⟩)
  refine AR ?_;have hq:=OI h; subst hq;exact ⟨⟨Fr 63 [(2,.b j58)],[]⟩,AJ,.inr rfl,[.b j58],kr,kr⟩
 ·try dsimp only at h
  refine Hl (Mf x0 _ hr55) ?_;have hq:=OI h; subst hq;exact ⟨⟨Fr 63 [(2,.b w68)],[]⟩,AJ,.inr rfl,[.b w68],kr,kr⟩
def Uc:List AV->Option AV:=ES L6 (fun a=>DH a.1) ME
theorem Un:XOk 159 Uc:=by
 refine AU Tryz.func159 (c:=D7) ?h2 ⟨Tryz.call159⟩ L6 (fun a=>DH a.1) ME (fun a=>(by show 1<=63; decide)) ?h3 ?h4
 case h2=>kernel_rfl
 case h3=>intro b; kernel_rfl
 case h4=>exact fun a b h=>SK a.1 b h
/- trestle/court.check$1 -/
noncomputable def N9:Code:=BL Tryz.f160
def Ho (x0:(List UInt8)):Option (Bool) :=
 (Il x0).bind fun v1 =>
 some (!v1)
def Kq:Cs ((List UInt8)×Unit):=(csC cdS csN)
def LC (r:Bool):AV:=cdB.enc r
theorem RM (x0:(List UInt8)) (r:Bool) (h:Ho x0=some r):Sem E0 ⟨none,false⟩ N9 ⟨Fr 6 (A6 0 (Kq.enc (x0,()))),[]⟩ fun e s'=>(e = .normal\/e = .ret)/\∃ xs,EZ E0.P s'.fr s'.hp Tryz.f160.results.toList=some xs/\Ee xs=LC r:=by
 unfold Ho at h;refine Ax (BY (s1:=⟨Fr 6 [(0,.st x0)],[]⟩) AJ ?_);refine AK AC [(0,.st x0)] [] ?_;refine AH ?_;obtain ⟨v1,hv1,h⟩:=OB h;refine AM (s1:=⟨Fr 6 [(2,.b (!v1))],[]⟩) ?_ ?_
 ·refine AD (n:=6) AC 1 [(3,.st x0)] [] kr ?_
  refine AS (caps:=[]) (xs:=[.st x0]) (u:=(x0,())) rfl rfl PT rfl (AB rfl) kr kr (AL (AW (c:=cdS) (v:=x0)) Ao) (.inl kr) hv1 ?_;exact Ad AC
 refine AR ?_;have hq:=OI h; subst hq;exact ⟨⟨Fr 6 [(2,.b (!v1))],[]⟩,AJ,.inr rfl,[.b (!v1)],kr,kr⟩
def Tl:List AV->Option AV:=ES Kq (fun a=>Ho a.1) LC
theorem UA:XOk 160 Tl:=by
 refine AU Tryz.func160 (c:=N9) ?h2 ⟨Tryz.call160⟩ Kq (fun a=>Ho a.1) LC (fun a=>(by show 1<=6; decide)) ?h3 ?h4
 case h2=>kernel_rfl
 case h3=>intro b; kernel_rfl
 case h4=>exact fun a b h=>RM a.1 b h
/- slices.IndexFunc[[]string,string] -/
noncomputable def DE:Code:=BL Tryz.f90
def Bi (x0:(List (List UInt8))):Nat->Int->Option ((Unit) ⊕ (Int))
 | 0,_=>none
 | f + 1,c1 =>
  if (decide (c1 < (x0.length:Int)))=true then
  (idx x0 c1).bind fun v3 =>
  (Ho v3).bind fun v4 =>
  if v4=true then
  some (.inr c1)
  else
  Bi x0 f (wr .i64 (c1 + 1))
  else
  some (.inl ())
def Ba (x0:(List (List UInt8))):Option (Int) :=
 (Bi x0 100000 0).bind fun r7 =>
 match r7 with
 | (.inl w8) =>
  some (-1)
 | (.inr w9) =>
  some w9
def DL:Cs ((List (List UInt8))×Unit×Unit):=(csC (cdL 1 cdS) (csC (cdF 160 csN (fun _=>rfl)) csN))
def DP (r:Int):AV:=cdI.enc r
theorem ED (x0:(List (List UInt8))):∀ (f:Nat) (c1:Int) (r:(Unit) ⊕ (Int)),Bi x0 f c1=some r->SemN E0 ⟨none,false⟩ (pc DE [1,0,1,0,0]) f ⟨Fr 19 [(0,.sl 1 (x0.map cdS.enc)),(1,.fn 160 [] []),(7,.j (x0.length:Int)),(8,.j c1)],[]⟩ (fun e s=>match r with
 | (.inl w)=>e=(.exit 0)/\Wk E0 s ⟨Fr 19 [],[]⟩
 | (.inr w)=>e = .ret/\Wk E0 s ⟨Fr 19 [(4,.j w)],[]⟩):=by
 intro f;induction f with
 | zero=>intro c1 r h; cases h
 | succ f ih0 =>
  intro c1 r h
  have ih:=fun (c1:Int)=>ih0 c1 r
  unfold Bi at h;refine CI ?_
  let p1:Nat×AV:=(8,.j c1)
  let p2:Nat×AV:=(7,.j (x0.length:Int))
  let p3:Nat×AV:=(1,.fn 160 [] [])
  let p4:Nat×AV:=(0,.sl 1 (x0.map cdS.enc))
  refine AK AC [p4,p3,p2,p1,(9,.b (decide (c1 < (x0.length:Int))))] [] ?_;refine AH ?_;refine AT (b:=(decide (c1 < (x0.length:Int)))) kr (fun hb2=>?_) (fun hb2=>?_)
  ·rw [if_pos hb2] at h
   refine AY ?_;refine AH ?_;refine Al ?_
   let p5:Nat×AV:=(5,.j c1)
   refine AK AC [p4,p3,p5,p2,p1] [] ?_;refine AH ?_;obtain ⟨v3,hv3,h⟩:=OB h;obtain ⟨v4,hv4,h⟩:=OB h;refine AM (s1:=⟨Fr 19 [p4,p3,p5,p2,p1,(16,.b v4)],[]⟩) ?_ ?_
   ·refine AD (n:=19) AC 3 [p4,p3,p5,p2,p1,(11,.fn 160 [] []),(12,.sl 1 (x0.map cdS.enc)),(13,.j c1)] [] kr ?_
    refine AZ AC 0 rfl (DR (AB rfl) rfl (AP (a:= .sl 1 (x0.map cdS.enc)) (b:= .j c1) kr kr (Di (e:=cdS.enc) (el:=9) (k:=1) (ki:= .i64) kr kr hv3))) ?_;refine AD (n:=19) AC 1 [p4,p3,p5,p2,p1,(11,.fn 160 [] []),(15,.st v3)] [] kr ?_;refine AS (caps:=[]) (xs:=[.st v3]) (u:=(v3,())) rfl rfl UA rfl (AB rfl) kr kr (AL (AW (c:=cdS) (v:=v3)) Ao) (.inl kr) hv4 ?_;exact AI rfl AJ
   refine AT (b:=v4) kr (fun hb5=>?_) (fun hb5=>?_)
   ·rw [if_pos hb5] at h
    refine AK AC [(4,.j c1)] [] ?_;refine AR ?_;have hq:=OI h; subst hq;exact ⟨rfl,AJ⟩
   ·rw [Bm hb5] at h
    refine AY ?_
    let p6:Nat×AV:=(8,.j (wr .i64 (c1 + 1)))
    refine D1 AC [p4,p3,p2,p6] [] ?_;exact Aq (s1:=⟨Fr 19 [p4,p3,p2,p6],[]⟩) AJ (ih (wr .i64 (c1 + 1)) h)
  ·rw [Bm hb2] at h
   refine C6 ?_;have hq:=OI h; subst hq;exact ⟨rfl,AJ⟩
theorem Gq (x0:(List (List UInt8))) (r:Int) (h:Ba x0=some r):Sem E0 ⟨none,false⟩ DE ⟨Fr 19 (A6 0 (DL.enc (x0,(),()))),[]⟩ fun e s'=>(e = .normal\/e = .ret)/\∃ xs,EZ E0.P s'.fr s'.hp Tryz.f90.results.toList=some xs/\Ee xs=DP r:=by
 unfold Ba at h
 let p1:Nat×AV:=(1,.fn 160 [] [])
 let p2:Nat×AV:=(0,.sl 1 (x0.map cdS.enc))
 refine Ax (BY (s1:=⟨Fr 19 [p2,p1],[]⟩) AJ ?_);refine AK AC [p2,p1] [] ?_;refine AH ?_;refine AH ?_
 let p3:Nat×AV:=(8,.j 0)
 let p4:Nat×AV:=(7,.j (x0.length:Int))
 refine AM (s1:=⟨Fr 19 [p2,p1,p4,p3],[]⟩) ?_ ?_
 ·refine AD (n:=19) AC 1 [p2,p1,(6,.sl 1 (x0.map cdS.enc))] [] kr ?_
  refine AZ AC 0 rfl (DR (AB rfl) rfl (C3 (a:= .sl 1 (x0.map cdS.enc)) kr (Bn (el:=9) kr))) ?_;exact Ad AC
 refine Al ?_;obtain ⟨r7,hr7,h⟩:=OB h;refine DB (n:=100000) ?_;rcases r7 with w8 | w9
 ·try dsimp only at h
  refine BB (Aq (s1:=⟨Fr 19 [p2,p1,p4,p3],[]⟩) AJ (ED x0 _ 0 _ hr7)) ?_;refine AK AC [(4,.j (-1))] [] ?_;refine AR ?_;have hq:=OI h; subst hq;exact ⟨⟨Fr 19 [(4,.j (-1))],[]⟩,AJ,.inr rfl,[.j (-1)],kr,kr⟩
 ·try dsimp only at h
  refine BB (Aq (s1:=⟨Fr 19 [p2,p1,p4,p3],[]⟩) AJ (ED x0 _ 0 _ hr7)) ?_;have hq:=OI h; subst hq;exact ⟨⟨Fr 19 [(4,.j w9)],[]⟩,AJ,.inr rfl,[.j w9],kr,kr⟩
def HK:List AV->Option AV:=ES DL (fun a=>Ba a.1) DP
theorem HP:XOk 90 HK:=by
 refine AU Tryz.func90 (c:=DE) ?h2 ⟨Tryz.call90⟩ DL (fun a=>Ba a.1) DP (fun a=>(by show 2<=19; decide)) ?h3 ?h4
 case h2=>kernel_rfl
 case h3=>intro b; kernel_rfl
 case h4=>exact fun a b h=>Gq a.1 b h
/- slices.ContainsFunc[[]string,string] -/
noncomputable def D8:Code:=BL Tryz.f36
def Av (x0:(List (List UInt8))):Option (Bool) :=
 (Ba x0).bind fun v1 =>
 some (decide (v1≥0))
def Cz:Cs ((List (List UInt8))×Unit×Unit):=(csC (cdL 1 cdS) (csC (cdF 160 csN (fun _=>rfl)) csN))
def C1 (r:Bool):AV:=cdB.enc r
theorem GR (x0:(List (List UInt8))) (r:Bool) (h:Av x0=some r):Sem E0 ⟨none,false⟩ D8 ⟨Fr 9 (A6 0 (Cz.enc (x0,(),()))),[]⟩ fun e s'=>(e = .normal\/e = .ret)/\∃ xs,EZ E0.P s'.fr s'.hp Tryz.f36.results.toList=some xs/\Ee xs=C1 r:=by
 unfold Av at h;refine Ax (BY (s1:=⟨Fr 9 [(0,.sl 1 (x0.map cdS.enc)),(1,.fn 160 [] [])],[]⟩) AJ ?_);refine AK AC [(0,.sl 1 (x0.map cdS.enc)),(1,.fn 160 [] [])] [] ?_;refine AH ?_;obtain ⟨v1,hv1,h⟩:=OB h
 let p1:Nat×AV:=(4,.b (decide (v1≥0)))
 refine AM (s1:=⟨Fr 9 [p1],[]⟩) ?_ ?_
 ·refine AD (n:=9) AC 2 [(5,.sl 1 (x0.map cdS.enc)),(6,.fn 160 [] [])] [] kr ?_
  refine AS (caps:=[]) (xs:=[.sl 1 (x0.map cdS.enc),.fn 160 [] []]) (u:=(x0,(),())) rfl rfl HP rfl (AB rfl) kr kr (AL (AW (c:=(cdL 1 cdS)) (v:=x0)) (AL (Sm.fn Ao) Ao)) (.inl kr) hv1 ?_;exact Ad AC
 refine AR ?_;have hq:=OI h; subst hq;exact ⟨⟨Fr 9 [p1],[]⟩,AJ,.inr rfl,[.b (decide (v1≥0))],kr,kr⟩
def Gh:List AV->Option AV:=ES Cz (fun a=>Av a.1) C1
theorem EJ:XOk 36 Gh:=by
 refine AU Tryz.func36 (c:=D8) ?h2 ⟨Tryz.call36⟩ Cz (fun a=>Av a.1) C1 (fun a=>(by show 2<=9; decide)) ?h3 ?h4
 case h2=>kernel_rfl
 case h3=>intro b; kernel_rfl
 case h4=>exact fun a b h=>GR a.1 b h
/- trestle/court.check$2 -/
noncomputable def OA:Code:=BL Tryz.f161
def Hq (x0:AF) (x1:AF):Option (Bool) :=
 (if (x0.1==1)=true then (BC x0.2.2.2.1 x1.2.1).bind fun v1 =>
 some v1 else some false).bind fun j3 =>
 some j3
def Kr:Cs (AF×AF×Unit):=(csC AA (csC (cdP AA) csN))
def LD (r:Bool):AV:=cdB.enc r
theorem RN (x0:AF) (x1:AF) (r:Bool) (h:Hq x0 x1=some r):Sem E0 ⟨none,false⟩ OA ⟨Fr 14 (A6 0 (Kr.enc (x0,x1,()))),[]⟩ fun e s'=>(e = .normal\/e = .ret)/\∃ xs,EZ E0.P s'.fr s'.hp Tryz.f161.results.toList=some xs/\Ee xs=LD r:=by
 unfold Hq at h;refine Ax (BY (s1:=⟨Fr 14 [(0,AA.enc x0),(1,.pe (AA.enc x1) 0)],[]⟩) AJ ?_);refine AK AC [(1,.pe (AA.enc x1) 0),(2,.pt 0 0 0)] [some ⟨5,60,[AA.enc x0],false⟩] ?_;refine AH ?_;obtain ⟨j3,hj3,h⟩:=OB h;refine AM (s1:=⟨Fr 14 [(3,.b j3)],[]⟩) ?_ ?_
 ·refine AD (n:=14) AC 4 [(1,.pe (AA.enc x1) 0),(2,.pt 0 0 0),(7,.b (x0.1==1))] [some ⟨5,60,[AA.enc x0],false⟩] kr ?_
  rcases BE (x0.1==1) with hc4 | hc4
  ·rw [if_pos hc4] at hj3
   rw [hc4];refine AD (n:=14) AC 4 [(7,.b true),(9,.sl 1 (x0.2.2.2.1.map cdS.enc)),(11,.st x1.2.1)] [some ⟨5,60,[AA.enc x0],false⟩] kr ?_;obtain ⟨v1,hv1,hj3⟩:=OB hj3;refine AS (caps:=[]) (xs:=[.sl 1 (x0.2.2.2.1.map cdS.enc),.st x1.2.1]) (u:=(x0.2.2.2.1,x1.2.1,())) rfl rfl Cr rfl kr kr kr (AL (AW (c:=(cdL 1 cdS)) (v:=x0.2.2.2.1)) (AL (AW (c:=cdS) (v:=x1.2.1)) Ao)) (.inl kr) hv1 ?_;refine AD (n:=14) AC 2 [(3,.b v1)] [some ⟨5,60,[AA.enc x0],false⟩] kr ?_;have hq:=OI hj3; subst hq;exact AI rfl (Ar [] trivial ⟨lv,trivial⟩)
  ·rw [Bm hc4] at hj3
   rw [hc4];refine AD (n:=14) AC 7 [(3,.b false)] [some ⟨5,60,[AA.enc x0],false⟩] kr ?_;have hq:=OI hj3; subst hq;exact AI rfl (Ar [] trivial ⟨lv,trivial⟩)
 refine AR ?_;have hq:=OI h; subst hq;exact ⟨⟨Fr 14 [(3,.b j3)],[]⟩,AJ,.inr rfl,[.b j3],kr,kr⟩
def Tm:List AV->Option AV:=ES Kr (fun a=>Hq a.1 a.2.1) LD
theorem UB:XOk 161 Tm:=by
 refine AU Tryz.func161 (c:=OA) ?h2 ⟨Tryz.call161⟩ Kr (fun a=>Hq a.1 a.2.1) LD (fun a=>(by show 2<=14; decide)) ?h3 ?h4
 case h2=>kernel_rfl
 case h3=>intro b; kernel_rfl
 case h4=>exact fun a b h=>RN a.1 a.2.1 b h
/- slices.IndexFunc[[]trestle/api.Clause,trestle/api.Clause] -/
noncomputable def CV:Code:=BL Tryz.f85
def BN (x0:(List AF)) (x1:AF):Nat->Int->Option ((Unit) ⊕ (Int))
 | 0,_=>none
 | f + 1,c1 =>
  if (decide (c1 < (x0.length:Int)))=true then
  (idx x0 c1).bind fun v3 =>
  (Hq v3 x1).bind fun v4 =>
  if v4=true then
  some (.inr c1)
  else
  BN x0 x1 f (wr .i64 (c1 + 1))
  else
  some (.inl ())
def A8 (x0:(List AF)) (x1:AF):Option (Int) :=
 (BN x0 x1 100000 0).bind fun r7 =>
 match r7 with
 | (.inl w8) =>
  some (-1)
 | (.inr w9) =>
  some w9
def CX:Cs ((List AF)×AF×Unit):=(csC (cdL 5 AA) (csC (cdF 161 (csE (cdP AA)) (fun _=>rfl)) csN))
def CZ (r:Int):AV:=cdI.enc r
theorem Dd (x0:(List AF)) (x1:AF):∀ (f:Nat) (c1:Int) (r:(Unit) ⊕ (Int)),BN x0 x1 f c1=some r->SemN E0 ⟨none,false⟩ (pc CV [1,0,1,0,0]) f ⟨Fr 19 [(0,.sl 5 (x0.map AA.enc)),(1,.fn 161 [] [.pe (AA.enc x1) 0]),(7,.j (x0.length:Int)),(8,.j c1)],[]⟩ (fun e s=>match r with
 | (.inl w)=>e=(.exit 0)/\Wk E0 s ⟨Fr 19 [],[]⟩
 | (.inr w)=>e = .ret/\Wk E0 s ⟨Fr 19 [(4,.j w)],[]⟩):=by
 intro f;induction f with
 | zero=>intro c1 r h; cases h
 | succ f ih0 =>
  intro c1 r h
  have ih:=fun (c1:Int)=>ih0 c1 r
  unfold BN at h;refine CI ?_
  let p1:Nat×AV:=(8,.j c1)
  let p2:Nat×AV:=(7,.j (x0.length:Int))
  let p3:Nat×AV:=(1,.fn 161 [] [.pe (AA.enc x1) 0])
  let p4:Nat×AV:=(0,.sl 5 (x0.map AA.enc))
  refine AK AC [p4,p3,p2,p1,(9,.b (decide (c1 < (x0.length:Int))))] [] ?_;refine AH ?_;refine AT (b:=(decide (c1 < (x0.length:Int)))) kr (fun hb2=>?_) (fun hb2=>?_)
  ·rw [if_pos hb2] at h
   refine AY ?_;refine AH ?_;refine Al ?_
   let p5:Nat×AV:=(5,.j c1)
   refine AK AC [p4,p3,p5,p2,p1] [] ?_;refine AH ?_;obtain ⟨v3,hv3,h⟩:=OB h;obtain ⟨v4,hv4,h⟩:=OB h;refine AM (s1:=⟨Fr 19 [p4,p3,p5,p2,p1,(16,.b v4)],[]⟩) ?_ ?_
   ·let p6:Nat×AV:=(11,.fn 161 [] [.pe (AA.enc x1) 0])
    refine AD (n:=19) AC 3 [p4,p3,p5,p2,p1,p6,(12,.sl 5 (x0.map AA.enc)),(13,.j c1)] [] kr ?_;refine AZ AC 0 rfl (DR (AB rfl) rfl (AP (a:= .sl 5 (x0.map AA.enc)) (b:= .j c1) kr kr (Di (e:=AA.enc) (el:=60) (k:=5) (ki:= .i64) kr kr hv3))) ?_;refine AD (n:=19) AC 1 [p4,p3,p5,p2,p1,p6,(15,AA.enc v3)] [] kr ?_;refine AS (caps:=[.pe (AA.enc x1) 0]) (xs:=[AA.enc v3]) (u:=(v3,x1,())) rfl rfl UB rfl (AB rfl) kr kr (AL (AW (c:=AA) (v:=v3)) (AL (AW (c:=(cdP AA)) (v:=x1)) Ao)) (.inl kr) hv4 ?_;exact AI rfl AJ
   refine AT (b:=v4) kr (fun hb5=>?_) (fun hb5=>?_)
   ·rw [if_pos hb5] at h
    refine AK AC [(4,.j c1)] [] ?_;refine AR ?_;have hq:=OI h; subst hq;exact ⟨rfl,AJ⟩
   ·rw [Bm hb5] at h
    refine AY ?_
    let p7:Nat×AV:=(8,.j (wr .i64 (c1 + 1)))
    refine D1 AC [p4,p3,p2,p7] [] ?_;exact Aq (s1:=⟨Fr 19 [p4,p3,p2,p7],[]⟩) AJ (ih (wr .i64 (c1 + 1)) h)
  ·rw [Bm hb2] at h
   refine C6 ?_;have hq:=OI h; subst hq;exact ⟨rfl,AJ⟩
theorem Fc (x0:(List AF)) (x1:AF) (r:Int) (h:A8 x0 x1=some r):Sem E0 ⟨none,false⟩ CV ⟨Fr 19 (A6 0 (CX.enc (x0,x1,()))),[]⟩ fun e s'=>(e = .normal\/e = .ret)/\∃ xs,EZ E0.P s'.fr s'.hp Tryz.f85.results.toList=some xs/\Ee xs=CZ r:=by
 unfold A8 at h
 let p1:Nat×AV:=(1,.fn 161 [] [.pe (AA.enc x1) 0])
 let p2:Nat×AV:=(0,.sl 5 (x0.map AA.enc))
 refine Ax (BY (s1:=⟨Fr 19 [p2,p1],[]⟩) AJ ?_);refine AK AC [p2,p1] [] ?_;refine AH ?_;refine AH ?_
 let p3:Nat×AV:=(8,.j 0)
 let p4:Nat×AV:=(7,.j (x0.length:Int))
 refine AM (s1:=⟨Fr 19 [p2,p1,p4,p3],[]⟩) ?_ ?_
 ·refine AD (n:=19) AC 1 [p2,p1,(6,.sl 5 (x0.map AA.enc))] [] kr ?_
  refine AZ AC 0 rfl (DR (AB rfl) rfl (C3 (a:= .sl 5 (x0.map AA.enc)) kr (Bn (el:=60) kr))) ?_;exact Ad AC
 refine Al ?_;obtain ⟨r7,hr7,h⟩:=OB h;refine DB (n:=100000) ?_;rcases r7 with w8 | w9
 ·try dsimp only at h
  refine BB (Aq (s1:=⟨Fr 19 [p2,p1,p4,p3],[]⟩) AJ (Dd x0 x1 _ 0 _ hr7)) ?_;refine AK AC [(4,.j (-1))] [] ?_;refine AR ?_;have hq:=OI h; subst hq;exact ⟨⟨Fr 19 [(4,.j (-1))],[]⟩,AJ,.inr rfl,[.j (-1)],kr,kr⟩
 ·try dsimp only at h
  refine BB (Aq (s1:=⟨Fr 19 [p2,p1,p4,p3],[]⟩) AJ (Dd x0 x1 _ 0 _ hr7)) ?_;have hq:=OI h; subst hq;exact ⟨⟨Fr 19 [(4,.j w9)],[]⟩,AJ,.inr rfl,[.j w9],kr,kr⟩
def F7:List AV->Option AV:=ES CX (fun a=>A8 a.1 a.2.1) CZ
theorem F9:XOk 85 F7:=by
 refine AU Tryz.func85 (c:=CV) ?h2 ⟨Tryz.call85⟩ CX (fun a=>A8 a.1 a.2.1) CZ (fun a=>(by show 2<=19; decide)) ?h3 ?h4
 case h2=>kernel_rfl
 case h3=>intro b; kernel_rfl
 case h4=>exact fun a b h=>Fc a.1 a.2.1 b h
/- slices.ContainsFunc[[]trestle/api.Clause,trestle/api.Clause] -/
noncomputable def Db:Code:=BL Tryz.f53
def Ap (x0:(List AF)) (x1:AF):Option (Bool) :=
 (A8 x0 x1).bind fun v1 =>
 some (decide (v1≥0))
def CG:Cs ((List AF)×AF×Unit):=(csC (cdL 5 AA) (csC (cdF 161 (csE (cdP AA)) (fun _=>rfl)) csN))
def CH (r:Bool):AV:=cdB.enc r
theorem Ey (x0:(List AF)) (x1:AF) (r:Bool) (h:Ap x0 x1=some r):Sem E0 ⟨none,false⟩ Db ⟨Fr 9 (A6 0 (CG.enc (x0,x1,()))),[]⟩ fun e s'=>(e = .normal\/e = .ret)/\∃ xs,EZ E0.P s'.fr s'.hp Tryz.f53.results.toList=some xs/\Ee xs=CH r:=by
 unfold Ap at h
 let p1:Nat×AV:=(1,.fn 161 [] [.pe (AA.enc x1) 0])
 let p2:Nat×AV:=(0,.sl 5 (x0.map AA.enc))
 refine Ax (BY (s1:=⟨Fr 9 [p2,p1],[]⟩) AJ ?_);refine AK AC [p2,p1] [] ?_;refine AH ?_;obtain ⟨v1,hv1,h⟩:=OB h
 let p3:Nat×AV:=(4,.b (decide (v1≥0)))
 refine AM (s1:=⟨Fr 9 [p3],[]⟩) ?_ ?_
 ·refine AD (n:=9) AC 2 [(5,.sl 5 (x0.map AA.enc)),(6,.fn 161 [] [.pe (AA.enc x1) 0])] [] kr ?_
  refine AS (caps:=[]) (xs:=[.sl 5 (x0.map AA.enc),.fn 161 [] [.pe (AA.enc x1) 0]]) (u:=(x0,x1,())) rfl rfl F9 rfl (AB rfl) kr kr (AL (AW (c:=(cdL 5 AA)) (v:=x0)) (AL (Sm.fn (VK (AW (c:=(cdP AA)) (v:=x1)))) Ao)) (.inl kr) hv1 ?_;exact Ad AC
 refine AR ?_;have hq:=OI h; subst hq;exact ⟨⟨Fr 9 [p3],[]⟩,AJ,.inr rfl,[.b (decide (v1≥0))],kr,kr⟩
def FU:List AV->Option AV:=ES CG (fun a=>Ap a.1 a.2.1) CH
theorem FV:XOk 53 FU:=by
 refine AU Tryz.func53 (c:=Db) ?h2 ⟨Tryz.call53⟩ CG (fun a=>Ap a.1 a.2.1) CH (fun a=>(by show 2<=9; decide)) ?h3 ?h4
 case h2=>kernel_rfl
 case h3=>intro b; kernel_rfl
 case h4=>exact fun a b h=>Ey a.1 a.2.1 b h
/- trestle/court.check -/
noncomputable def M2:Code:=BL Tryz.f128
def GM (x0:(List AF)) (x1:AF):Nat->Int->Option ((Unit) ⊕ (Int))
 | 0,_=>none
 | f + 1,c9 =>
  if (decide (c9 < (x1.2.2.2.1.length:Int)))=true then
  (idx x1.2.2.2.1 c9).bind fun v11 =>
  if (KA 0 c9 x1.2.2.2.1.length)=true then
  (BC ((x1.2.2.2.1.take c9.toNat).drop (0:Int).toNat) v11).bind fun v13 =>
  if v13=true then
  some (.inr 5)
  else
  GM x0 x1 f (wr .i64 (c9 + 1))
  else none
  else
  some (.inl ())
def I6 (x0:(List AF)) (x1:AF):Option (Int) :=
 (DH x1).bind fun v1 =>
 if (!v1)=true then
 some 30
 else
 (if (!(x1.2.1==[]))=true then (Il x1.2.1).bind fun v3 =>
 if (!v3)=true then some true else (Av x1.2.2.2.1).bind fun v4 =>
 some v4 else (Av x1.2.2.2.1).bind fun v5 =>
 some v5).bind fun j7 =>
 if j7=true then
 some 4
 else
 (GM x0 x1 100000 0).bind fun r16 =>
 match r16 with
 | (.inl w17) =>
  (if (x1.2.1==[])=true then some true else (Ap x0 x1).bind fun v18 =>
  some v18).bind fun j20 =>
  if j20=true then
  some 0
  else
  some 31
 | (.inr w23) =>
  some w23
def M6:Cs ((List AF)×AF×Unit):=(csC (cdL 5 AA) (csC AA csN))
def NC (r:Int):AV:=cdI.enc r
theorem NU (x0:(List AF)) (x1:AF):∀ (f:Nat) (c9:Int) (r:(Unit) ⊕ (Int)),GM x0 x1 f c9=some r->SemN E0 ⟨none,false⟩ (pc M2 [1,1,1,0,1,0,0]) f ⟨Fr 47 [(0,.sl 5 (x0.map AA.enc)),(3,.pt 0 0 0),(25,.sl 1 (x1.2.2.2.1.map cdS.enc)),(26,.j (x1.2.2.2.1.length:Int)),(27,.j c9)],[some ⟨5,60,[AA.enc x1],false⟩]⟩ (fun e s=>match r with
 | (.inl w)=>e=(.exit 0)/\Wk E0 s ⟨Fr 47 [(0,.sl 5 (x0.map AA.enc)),(3,.pt 0 0 0)],[some ⟨5,60,[AA.enc x1],false⟩]⟩
 | (.inr w)=>e = .ret/\Wk E0 s ⟨Fr 47 [(4,.j w)],[]⟩):=by
 intro f;induction f with
 | zero=>intro c9 r h; cases h
 | succ f ih0 =>
  intro c9 r h
  have ih:=fun (c9:Int)=>ih0 c9 r
  unfold GM at h;refine CI ?_
  let p1:Option Blk:=some ⟨5,60,[AA.enc x1],false⟩
  let p2:Nat×AV:=(27,.j c9)
  let p3:Nat×AV:=(26,.j (x1.2.2.2.1.length:Int))
  let p4:Nat×AV:=(25,.sl 1 (x1.2.2.2.1.map cdS.enc))
  let p5:Nat×AV:=(3,.pt 0 0 0)
  let p6:Nat×AV:=(0,.sl 5 (x0.map AA.enc))
  refine AK AC [p6,p5,p4,p3,p2,(28,.b (decide (c9 < (x1.2.2.2.1.length:Int))))] [p1] ?_;refine AH ?_;refine AT (b:=(decide (c9 < (x1.2.2.2.1.length:Int)))) kr (fun hb10=>?_) (fun hb10=>?_)
  ·rw [if_pos hb10] at h
   refine AY ?_;refine AH ?_;refine Al ?_;refine AH ?_;obtain ⟨v11,hv11,h⟩:=OB h;refine AM (s1:=⟨Fr 47 [p6,p5,(5,.j c9),(6,.st v11),p4,p3,p2],[p1]⟩) ?_ ?_
   ·refine AD (n:=47) AC 1 [p6,p5,p4,p3,p2,(29,.j c9)] [p1] kr ?_
    refine AZ AC 0 rfl (DR (AB rfl) rfl (AP (a:= .sl 1 (x1.2.2.2.1.map cdS.enc)) (b:= .j c9) kr kr (Di (e:=cdS.enc) (el:=9) (k:=1) (ki:= .i64) kr kr hv11))) ?_;exact Ad AC
   refine AH ?_;by_cases hk12:(KA 0 c9 x1.2.2.2.1.length)=true
   case neg=>rw [if_neg hk12] at h; cases h
   rw [if_pos hk12] at h;obtain ⟨v13,hv13,h⟩:=OB h;refine AM (s1:=⟨Fr 47 [p6,p5,p4,p3,p2,(37,.b v13)],[p1]⟩) ?_ ?_
   ·refine AD (n:=47) AC 3 [p6,p5,(6,.st v11),p4,p3,p2,(33,.sl 1 (x1.2.2.2.1.map cdS.enc)),(34,.j c9)] [p1] kr ?_
    refine AZ AC 0 rfl (DR (AB rfl) rfl (NH (a:= .sl 1 (x1.2.2.2.1.map cdS.enc)) (l:=none) (u:=(some (.j c9))) (m:=none) kr kr kr rfl (Pe (xs:=x1.2.2.2.1) (e:=cdS.enc) (k:=1) (el:=9) (lo:=0) (hi:=c9) kr kr rfl (Tb (WJ hk12)) hk12))) ?_;refine AD (n:=47) AC 1 [p6,p5,p4,p3,p2,(35,.sl 1 (((x1.2.2.2.1.take c9.toNat).drop (0:Int).toNat).map cdS.enc)),(36,.st v11)] [p1] kr ?_;refine AS (caps:=[]) (xs:=[.sl 1 (((x1.2.2.2.1.take c9.toNat).drop (0:Int).toNat).map cdS.enc),.st v11]) (u:=(((x1.2.2.2.1.take c9.toNat).drop (0:Int).toNat),v11,())) rfl rfl Cr rfl (AB rfl) kr kr (AL (AW (c:=(cdL 1 cdS)) (v:=((x1.2.2.2.1.take c9.toNat).drop (0:Int).toNat))) (AL (AW (c:=cdS) (v:=v11)) Ao)) (.inl kr) hv13 ?_;exact AI rfl (Ar [0] ⟨⟨_,rfl,HS⟩,trivial⟩ ⟨lv,lv,lv,lv,lv,lv,trivial⟩)
   refine AT (b:=v13) kr (fun hb14=>?_) (fun hb14=>?_)
   ·rw [if_pos hb14] at h
    refine AH ?_;refine AM (s1:=⟨Fr 47 [(4,.j 5)],[]⟩) ?_ ?_
    ·refine AD (n:=47) AC 1 [(4,.j 5)] [p1] kr ?_
     exact AI rfl (Ar [] trivial ⟨lv,trivial⟩)
    refine AR ?_;have hq:=OI h; subst hq;exact ⟨rfl,AJ⟩
   ·rw [Bm hb14] at h
    refine AY ?_
    let p7:Nat×AV:=(27,.j (wr .i64 (c9 + 1)))
    refine D1 AC [p6,p5,p4,p3,p7] [p1] ?_;exact Aq (s1:=⟨Fr 47 [p6,p5,p4,p3,p7],[p1]⟩) (Ar [0] ⟨⟨_,rfl,HS⟩,trivial⟩ ⟨lv,lv,lv,lv,lv,trivial⟩) (ih (wr .i64 (c9 + 1)) h)
  ·rw [Bm hb10] at h
   refine C6 ?_;have hq:=OI h; subst hq;exact ⟨rfl,(Ar [0] ⟨⟨_,rfl,HS⟩,trivial⟩ ⟨lv,lv,trivial⟩)⟩
theorem TJ (x0:(List AF)) (x1:AF) (r:Int) (h:I6 x0 x1=some r):Sem E0 ⟨none,false⟩ M2 ⟨Fr 47 (A6 0 (M6.enc (x0,x1,()))),[]⟩ fun e s'=>(e = .normal\/e = .ret)/\∃ xs,EZ E0.P s'.fr s'.hp Tryz.f128.results.toList=some xs/\Ee xs=NC r:=by
 unfold I6 at h;refine Ax (BY (s1:=⟨Fr 47 [(0,.sl 5 (x0.map AA.enc)),(1,AA.enc x1)],[]⟩) AJ ?_);refine AK AC [(0,.sl 5 (x0.map AA.enc)),(3,.pt 0 0 0)] [some ⟨5,60,[AA.enc x1],false⟩] ?_;refine AH ?_;refine AH ?_;obtain ⟨v1,hv1,h⟩:=OB h;refine AM (s1:=⟨Fr 47 [(0,.sl 5 (x0.map AA.enc)),(3,.pt 0 0 0),(9,.b (!v1))],[some ⟨5,60,[AA.enc x1],false⟩]⟩) ?_ ?_
 ·refine AD (n:=47) AC 1 [(0,.sl 5 (x0.map AA.enc)),(3,.pt 0 0 0),(7,AA.enc x1)] [some ⟨5,60,[AA.enc x1],false⟩] kr ?_
  refine AS (caps:=[]) (xs:=[AA.enc x1]) (u:=(x1,())) rfl rfl Un rfl (AB rfl) kr kr (AL (AW (c:=AA) (v:=x1)) Ao) (.inl kr) hv1 ?_;exact Ad AC
 refine AT (b:=(!v1)) kr (fun hb2=>?_) (fun hb2=>?_)
 ·rw [if_pos hb2] at h
  refine AH ?_;refine AM (s1:=⟨Fr 47 [(4,.j 30)],[]⟩) ?_ ?_
  ·refine AD (n:=47) AC 1 [(4,.j 30)] [some ⟨5,60,[AA.enc x1],false⟩] kr ?_
   exact AI rfl (Ar [] trivial ⟨lv,trivial⟩)
  refine AR ?_;have hq:=OI h; subst hq;exact ⟨⟨Fr 47 [(4,.j 30)],[]⟩,AJ,.inr rfl,[.j 30],kr,kr⟩
 ·rw [Bm hb2] at h
  refine AY ?_;refine AH ?_;refine AH ?_;obtain ⟨j7,hj7,h⟩:=OB h;refine AM (s1:=⟨Fr 47 [(0,.sl 5 (x0.map AA.enc)),(3,.pt 0 0 0),(23,.b j7)],[some ⟨5,60,[AA.enc x1],false⟩]⟩) ?_ ?_
  ·refine AD (n:=47) AC 4 [(0,.sl 5 (x0.map AA.enc)),(3,.pt 0 0 0),(13,.b (!(x1.2.1==[])))] [some ⟨5,60,[AA.enc x1],false⟩] kr ?_
   rcases BE (!(x1.2.1==[])) with hc24 | hc24
   ·rw [if_pos hc24] at hj7
    rw [hc24];refine AD (n:=47) AC 2 [(0,.sl 5 (x0.map AA.enc)),(3,.pt 0 0 0),(13,.b true),(15,.st x1.2.1)] [some ⟨5,60,[AA.enc x1],false⟩] kr ?_;obtain ⟨v3,hv3,hj7⟩:=OB hj7;refine AS (caps:=[]) (xs:=[.st x1.2.1]) (u:=(x1.2.1,())) rfl rfl PT rfl kr kr kr (AL (AW (c:=cdS) (v:=x1.2.1)) Ao) (.inl kr) hv3 ?_;refine AD (n:=47) AC 3 [(0,.sl 5 (x0.map AA.enc)),(3,.pt 0 0 0),(19,.b (!v3))] [some ⟨5,60,[AA.enc x1],false⟩] kr ?_;rcases BE (!v3) with hc25 | hc25
    ·rw [if_pos hc25] at hj7
     rw [hc25];refine AD (n:=47) AC 4 [(0,.sl 5 (x0.map AA.enc)),(3,.pt 0 0 0),(23,.b true)] [some ⟨5,60,[AA.enc x1],false⟩] kr ?_;have hq:=OI hj7; subst hq;exact AI rfl (Ar [0] ⟨⟨_,rfl,HS⟩,trivial⟩ ⟨lv,lv,lv,trivial⟩)
    ·rw [Bm hc25] at hj7
     rw [hc25];refine AD (n:=47) AC 2 [(0,.sl 5 (x0.map AA.enc)),(3,.pt 0 0 0),(19,.b false),(21,.sl 1 (x1.2.2.2.1.map cdS.enc))] [some ⟨5,60,[AA.enc x1],false⟩] kr ?_;obtain ⟨v4,hv4,hj7⟩:=OB hj7;refine AS (caps:=[]) (xs:=[.sl 1 (x1.2.2.2.1.map cdS.enc),.fn 160 [] []]) (u:=(x1.2.2.2.1,(),())) rfl rfl EJ rfl kr kr kr (AL (AW (c:=(cdL 1 cdS)) (v:=x1.2.2.2.1)) (AL (Sm.fn Ao) Ao)) (.inl kr) hv4 ?_;refine AD (n:=47) AC 1 [(0,.sl 5 (x0.map AA.enc)),(3,.pt 0 0 0),(23,.b v4)] [some ⟨5,60,[AA.enc x1],false⟩] kr ?_;have hq:=OI hj7; subst hq;exact AI rfl (Ar [0] ⟨⟨_,rfl,HS⟩,trivial⟩ ⟨lv,lv,lv,trivial⟩)
   ·rw [Bm hc24] at hj7
    rw [hc24];refine AD (n:=47) AC 8 [(0,.sl 5 (x0.map AA.enc)),(3,.pt 0 0 0),(19,.b false),(21,.sl 1 (x1.2.2.2.1.map cdS.enc))] [some ⟨5,60,[AA.enc x1],false⟩] kr ?_;obtain ⟨v5,hv5,hj7⟩:=OB hj7;refine AS (caps:=[]) (xs:=[.sl 1 (x1.2.2.2.1.map cdS.enc),.fn 160 [] []]) (u:=(x1.2.2.2.1,(),())) rfl rfl EJ rfl kr kr kr (AL (AW (c:=(cdL 1 cdS)) (v:=x1.2.2.2.1)) (AL (Sm.fn Ao) Ao)) (.inl kr) hv5 ?_;refine AD (n:=47) AC 1 [(0,.sl 5 (x0.map AA.enc)),(3,.pt 0 0 0),(23,.b v5)] [some ⟨5,60,[AA.enc x1],false⟩] kr ?_;have hq:=OI hj7; subst hq;exact AI rfl (Ar [0] ⟨⟨_,rfl,HS⟩,trivial⟩ ⟨lv,lv,lv,trivial⟩)
  refine AT (b:=j7) kr (fun hb8=>?_) (fun hb8=>?_)
  ·rw [if_pos hb8] at h
   refine AH ?_;refine AM (s1:=⟨Fr 47 [(4,.j 4)],[]⟩) ?_ ?_
   ·refine AD (n:=47) AC 1 [(4,.j 4)] [some ⟨5,60,[AA.enc x1],false⟩] kr ?_
    exact AI rfl (Ar [] trivial ⟨lv,trivial⟩)
   refine AR ?_;have hq:=OI h; subst hq;exact ⟨⟨Fr 47 [(4,.j 4)],[]⟩,AJ,.inr rfl,[.j 4],kr,kr⟩
  ·rw [Bm hb8] at h
   refine AY ?_;refine AH ?_;refine AH ?_;refine AM (s1:=⟨Fr 47 [(0,.sl 5 (x0.map AA.enc)),(3,.pt 0 0 0),(25,.sl 1 (x1.2.2.2.1.map cdS.enc)),(26,.j (x1.2.2.2.1.length:Int)),(27,.j 0)],[some ⟨5,60,[AA.enc x1],false⟩]⟩) ?_ ?_
   ·refine AD (n:=47) AC 2 [(0,.sl 5 (x0.map AA.enc)),(3,.pt 0 0 0),(25,.sl 1 (x1.2.2.2.1.map cdS.enc))] [some ⟨5,60,[AA.enc x1],false⟩] kr ?_
    refine AZ AC 0 rfl (DR (AB rfl) rfl (C3 (a:= .sl 1 (x1.2.2.2.1.map cdS.enc)) kr (Bn (el:=9) kr))) ?_;exact Ad AC
   refine Al ?_;obtain ⟨r16,hr16,h⟩:=OB h;refine DB (n:=100000) ?_;rcases r16 with w17 | w23
   ·try dsimp only at h
    refine BB (Aq (s1:=⟨Fr 47 [(0,.sl 5 (x0.map AA.enc)),(3,.pt 0 0 0),(25,.sl 1 (x1.2.2.2.1.map cdS.enc)),(26,.j (x1.2.2.2.1.length:Int)),(27,.j 0)],[some ⟨5,60,[AA.enc x1],false⟩]⟩) (Ar [0] ⟨⟨_,rfl,HS⟩,trivial⟩ ⟨lv,lv,lv,lv,lv,trivial⟩) (NU x0 x1 _ 0 _ hr16)) ?_;refine AH ?_;refine AH ?_;obtain ⟨j20,hj20,h⟩:=OB h;refine AM (s1:=⟨Fr 47 [(46,.b j20)],[]⟩) ?_ ?_
    ·refine AD (n:=47) AC 4 [(0,.sl 5 (x0.map AA.enc)),(3,.pt 0 0 0),(42,.b (x1.2.1==[]))] [some ⟨5,60,[AA.enc x1],false⟩] kr ?_
     rcases BE (x1.2.1==[]) with hc22 | hc22
     ·rw [if_pos hc22] at hj20
      rw [hc22];refine AD (n:=47) AC 4 [(46,.b true)] [some ⟨5,60,[AA.enc x1],false⟩] kr ?_;have hq:=OI hj20; subst hq;exact AI rfl (Ar [] trivial ⟨lv,trivial⟩)
     ·rw [Bm hc22] at hj20
      rw [hc22];refine AD (n:=47) AC 2 [(42,.b false),(43,.sl 5 (x0.map AA.enc)),(44,.fn 161 [] [.pt 0 0 0])] [some ⟨5,60,[AA.enc x1],false⟩] kr ?_;obtain ⟨v18,hv18,hj20⟩:=OB hj20;refine AS (caps:=[]) (xs:=[.sl 5 (x0.map AA.enc),.fn 161 [] [.pt 0 0 0]]) (u:=(x0,x1,())) rfl rfl FV rfl kr kr kr (AL (AW (c:=(cdL 5 AA)) (v:=x0)) (AL (Sm.fn (VK (Sm.pt (k:=5) (t:=60) (fz:=false) (y:=(AA.enc x1)) kr (AW (c:=AA) (v:=x1))))) Ao)) (.inl kr) hv18 ?_;refine AD (n:=47) AC 1 [(46,.b v18)] [some ⟨5,60,[AA.enc x1],false⟩] kr ?_;have hq:=OI hj20; subst hq;exact AI rfl (Ar [] trivial ⟨lv,trivial⟩)
    refine AT (b:=j20) kr (fun hb21=>?_) (fun hb21=>?_)
    ·rw [if_pos hb21] at h
     refine AK AC [(4,.j 0)] [] ?_;refine AR ?_;have hq:=OI h; subst hq;exact ⟨⟨Fr 47 [(4,.j 0)],[]⟩,AJ,.inr rfl,[.j 0],kr,kr⟩
    ·rw [Bm hb21] at h
     refine AY ?_;refine AK AC [(4,.j 31)] [] ?_;refine AR ?_;have hq:=OI h; subst hq;exact ⟨⟨Fr 47 [(4,.j 31)],[]⟩,AJ,.inr rfl,[.j 31],kr,kr⟩
   ·try dsimp only at h
    refine BB (Aq (s1:=⟨Fr 47 [(0,.sl 5 (x0.map AA.enc)),(3,.pt 0 0 0),(25,.sl 1 (x1.2.2.2.1.map cdS.enc)),(26,.j (x1.2.2.2.1.length:Int)),(27,.j 0)],[some ⟨5,60,[AA.enc x1],false⟩]⟩) (Ar [0] ⟨⟨_,rfl,HS⟩,trivial⟩ ⟨lv,lv,lv,lv,lv,trivial⟩) (NU x0 x1 _ 0 _ hr16)) ?_;have hq:=OI h; subst hq;exact ⟨⟨Fr 47 [(4,.j w23)],[]⟩,AJ,.inr rfl,[.j w23],kr,kr⟩
def Vx:List AV->Option AV:=ES M6 (fun a=>I6 a.1 a.2.1) NC
theorem V7:XOk 128 Vx:=by
 refine AU Tryz.func128 (c:=M2) ?h2 ⟨Tryz.call128⟩ M6 (fun a=>I6 a.1 a.2.1) NC (fun a=>(by show 2<=47; decide)) ?h3 ?h4
 case h2=>kernel_rfl
 case h3=>intro b; kernel_rfl
 case h4=>exact fun a b h=>TJ a.1 a.2.1 b h
/- trestle/court.Check -/
noncomputable def M1:Code:=BL Tryz.f80
def GK (x0:(List AF)):Nat->Int->Option ((Unit) ⊕ (Int×Int))
 | 0,_=>none
 | f + 1,c2 =>
  if (decide (c2 < (x0.length:Int)))=true then
  (idx x0 c2).bind fun v4 =>
  if (KA 0 c2 x0.length)=true then
  (I6 ((x0.take c2.toNat).drop (0:Int).toNat) v4).bind fun v6 =>
  if (v6 != 0)=true then
  some (.inr (c2,v6))
  else
  GK x0 f (wr .i64 (c2 + 1))
  else none
  else
  some (.inl ())
def IN (x0:(List AF)):Option (Int×Int) :=
 if (decide ((x0.length:Int) > 32))=true then
 some (0,7)
 else
 (GK x0 100000 0).bind fun r10 =>
 match r10 with
 | (.inl w11) =>
  some (0,0)
 | (.inr w12) =>
  some (w12.1,w12.2)
def M5:Cs ((List AF)×Unit):=(csC (cdL 5 AA) csN)
def NB (r:Int×Int):AV:= .tp [cdI.enc r.1,cdI.enc r.2]
theorem NT (x0:(List AF)):∀ (f:Nat) (c2:Int) (r:(Unit) ⊕ (Int×Int)),GK x0 f c2=some r->SemN E0 ⟨none,false⟩ (pc M1 [1,1,0,1,0,0]) f ⟨Fr 27 [(0,.sl 5 (x0.map AA.enc)),(10,.sl 5 (x0.map AA.enc)),(11,.j (x0.length:Int)),(12,.j c2)],[]⟩ (fun e s=>match r with
 | (.inl w)=>e=(.exit 0)/\Wk E0 s ⟨Fr 27 [],[]⟩
 | (.inr w)=>e = .ret/\Wk E0 s ⟨Fr 27 [(2,.j w.1),(3,.j w.2)],[]⟩):=by
 intro f;induction f with
 | zero=>intro c2 r h; cases h
 | succ f ih0 =>
  intro c2 r h
  have ih:=fun (c2:Int)=>ih0 c2 r
  unfold GK at h;refine CI ?_
  let p1:Nat×AV:=(12,.j c2)
  let p2:Nat×AV:=(11,.j (x0.length:Int))
  let p3:Nat×AV:=(10,.sl 5 (x0.map AA.enc))
  let p4:Nat×AV:=(0,.sl 5 (x0.map AA.enc))
  refine AK AC [p4,p3,p2,p1,(13,.b (decide (c2 < (x0.length:Int))))] [] ?_;refine AH ?_;refine AT (b:=(decide (c2 < (x0.length:Int)))) kr (fun hb3=>?_) (fun hb3=>?_)
  ·rw [if_pos hb3] at h
   refine AY ?_;refine AH ?_;refine Al ?_;refine AH ?_;obtain ⟨v4,hv4,h⟩:=OB h
   let p5:Option Blk:=some ⟨5,60,[AA.enc v4],false⟩
   let p6:Nat×AV:=(4,.j c2)
   refine AM (s1:=⟨Fr 27 [p4,p6,(5,.pt 0 0 0),p3,p2,p1],[p5]⟩) ?_ ?_
   ·refine AD (n:=27) AC 1 [p4,p3,p2,p1,(14,.j c2)] [] kr ?_
    refine AZ AC 0 rfl (DR (AB rfl) rfl (AP (a:= .sl 5 (x0.map AA.enc)) (b:= .j c2) kr kr (Di (e:=AA.enc) (el:=60) (k:=5) (ki:= .i64) kr kr hv4))) ?_;exact Ad AC
   refine AH ?_;by_cases hk5:(KA 0 c2 x0.length)=true
   case neg=>rw [if_neg hk5] at h; cases h
   rw [if_pos hk5] at h;obtain ⟨v6,hv6,h⟩:=OB h
   let p7:Nat×AV:=(6,.j v6)
   refine D5 AC (s1:=⟨Fr 27 [p4,p6,p7,p3,p2,p1],[]⟩) kr ?_ ?_
   ·refine Aa (n:=27) AC 2 [p4,p6,(5,.pt 0 0 0),p3,p2,p1,(17,.sl 5 (x0.map AA.enc)),(18,.j c2)] [p5] kr kr ?_
    refine RunDS.one AC rfl kr (JB kr (AB rfl) rfl (NH (a:= .sl 5 (x0.map AA.enc)) (l:=none) (u:=(some (.j c2))) (m:=none) kr kr kr rfl (Pe (xs:=x0) (e:=AA.enc) (k:=5) (el:=60) (lo:=0) (hi:=c2) kr kr rfl (Tb (WJ hk5)) hk5)) kr) ?_;refine Aa (n:=27) AC 1 [p4,p6,p3,p2,p1,(19,.sl 5 (((x0.take c2.toNat).drop (0:Int).toNat).map AA.enc)),(20,AA.enc v4)] [p5] kr kr ?_;refine Bx (caps:=[]) (xs:=[.sl 5 (((x0.take c2.toNat).drop (0:Int).toNat).map AA.enc),AA.enc v4]) (u:=(((x0.take c2.toNat).drop (0:Int).toNat),v4,())) rfl rfl V7 rfl (AB rfl) kr kr (AL (AW (c:=(cdL 5 AA)) (v:=((x0.take c2.toNat).drop (0:Int).toNat))) (AL (AW (c:=AA) (v:=v4)) Ao)) kr hv6 ?_;refine Aa (n:=27) AC 1 [p4,p6,p7,p3,p2,p1] [p5] kr kr ?_;exact RunDS.done rfl (Ar [] trivial ⟨lv,lv,lv,lv,lv,lv,trivial⟩)
   refine AK AC [p4,p6,p7,p3,p2,p1,(23,.b (v6 != 0))] [] ?_;refine AT (b:=(v6 != 0)) kr (fun hb7=>?_) (fun hb7=>?_)
   ·rw [if_pos hb7] at h
    refine AK AC [(2,.j c2),(3,.j v6)] [] ?_;refine AR ?_;have hq:=OI h; subst hq;exact ⟨rfl,AJ⟩
   ·rw [Bm hb7] at h
    refine AY ?_
    let p8:Nat×AV:=(12,.j (wr .i64 (c2 + 1)))
    refine D1 AC [p4,p3,p2,p8] [] ?_;exact Aq (s1:=⟨Fr 27 [p4,p3,p2,p8],[]⟩) AJ (ih (wr .i64 (c2 + 1)) h)
  ·rw [Bm hb3] at h
   refine C6 ?_;have hq:=OI h; subst hq;exact ⟨rfl,AJ⟩
theorem TI (x0:(List AF)) (r:Int×Int) (h:IN x0=some r):Sem E0 ⟨none,false⟩ M1 ⟨Fr 27 (A6 0 (M5.enc (x0,()))),[]⟩ fun e s'=>(e = .normal\/e = .ret)/\∃ xs,EZ E0.P s'.fr s'.hp Tryz.f80.results.toList=some xs/\Ee xs=NB r:=by
 unfold IN at h
 let p1:Nat×AV:=(0,.sl 5 (x0.map AA.enc))
 refine Ax (BY (s1:=⟨Fr 27 [p1],[]⟩) AJ ?_);refine AK AC [p1] [] ?_;refine AH ?_;refine AH ?_;refine AM (s1:=⟨Fr 27 [p1,(9,.b (decide ((x0.length:Int) > 32)))],[]⟩) ?_ ?_
 ·refine AD (n:=27) AC 1 [p1,(7,.sl 5 (x0.map AA.enc))] [] kr ?_
  refine AZ AC 0 rfl (DR (AB rfl) rfl (C3 (a:= .sl 5 (x0.map AA.enc)) kr (Bn (el:=60) kr))) ?_;exact Ad AC
 refine AT (b:=(decide ((x0.length:Int) > 32))) kr (fun hb1=>?_) (fun hb1=>?_)
 ·rw [if_pos hb1] at h
  refine AK AC [(2,.j 0),(3,.j 7)] [] ?_;refine AR ?_;have hq:=OI h; subst hq;exact ⟨⟨Fr 27 [(2,.j 0),(3,.j 7)],[]⟩,AJ,.inr rfl,[.j 0,.j 7],kr,kr⟩
 ·rw [Bm hb1] at h
  refine AY ?_;refine AH ?_;refine AH ?_
  let p2:Nat×AV:=(12,.j 0)
  let p3:Nat×AV:=(11,.j (x0.length:Int))
  let p4:Nat×AV:=(10,.sl 5 (x0.map AA.enc))
  refine AM (s1:=⟨Fr 27 [p1,p4,p3,p2],[]⟩) ?_ ?_
  ·refine AD (n:=27) AC 1 [p1,p4] [] kr ?_
   refine AZ AC 0 rfl (DR (AB rfl) rfl (C3 (a:= .sl 5 (x0.map AA.enc)) kr (Bn (el:=60) kr))) ?_;exact Ad AC
  refine Al ?_;obtain ⟨r10,hr10,h⟩:=OB h;refine DB (n:=100000) ?_;rcases r10 with w11 | w12
  ·try dsimp only at h
   refine BB (Aq (s1:=⟨Fr 27 [p1,p4,p3,p2],[]⟩) AJ (NT x0 _ 0 _ hr10)) ?_;refine AK AC [(2,.j 0),(3,.j 0)] [] ?_;refine AR ?_;have hq:=OI h; subst hq;exact ⟨⟨Fr 27 [(2,.j 0),(3,.j 0)],[]⟩,AJ,.inr rfl,[.j 0,.j 0],kr,kr⟩
  ·try dsimp only at h
   refine BB (Aq (s1:=⟨Fr 27 [p1,p4,p3,p2],[]⟩) AJ (NT x0 _ 0 _ hr10)) ?_;have hq:=OI h; subst hq;exact ⟨⟨Fr 27 [(2,.j w12.1),(3,.j w12.2)],[]⟩,AJ,.inr rfl,[.j w12.1,.j w12.2],kr,kr⟩
def Vw:List AV->Option AV:=ES M5 (fun a=>IN a.1) NB
theorem RD:XOk 80 Vw:=by
 refine AU Tryz.func80 (c:=M1) ?h2 ⟨Tryz.call80⟩ M5 (fun a=>IN a.1) NB (fun a=>(by show 1<=27; decide)) ?h3 ?h4
 case h2=>kernel_rfl
 case h3=>intro b; kernel_rfl
 case h4=>exact fun a b h=>TI a.1 b h
/- trestle/court.orders -/
noncomputable def Lx:Code:=BL Tryz.f75
def FX (x0:(List AF)):Nat->(List AF)->Int->Option (((List AF)))
 | 0,_,_=>none
 | f + 1,c3,c4 =>
  if (decide (c4 < (x0.length:Int)))=true then
  (idx x0 c4).bind fun v6 =>
  (Hr v6).bind fun v7 =>
  if (EK 8 (c3.length + 1))=true then
  FX x0 f (c3++[v7]) (wr .i64 (c4 + 1))
  else none
  else
  some c3
def IQ (x0:(List AF)):Option ((List AF)×Bool) :=
 (IN x0).bind fun v1 =>
 if (v1.2 != 0)=true then
 some ([],false)
 else
 (FX x0 100000 [] 0).bind fun r10 =>
 some (r10,true)
noncomputable def Jd:Cs ((List AF)×Unit):=(csC (cdL 5 AA) csN)
noncomputable def MF (r:(List AF)×Bool):AV:= .tp [(cdL 1 DW).enc r.1,cdB.enc r.2]
theorem Qk (x0:(List AF)):∀ (f:Nat) (c3:(List AF)) (c4:Int) (r:((List AF))),FX x0 f c3 c4=some r->SemN E0 ⟨none,false⟩ (pc Lx [1,1,1,0,1,0,0]) f ⟨Fr 29 [(6,hd 0 (c3.map DW.enc)),(16,.sl 5 (x0.map AA.enc)),(17,.j (x0.length:Int)),(18,.j c4)],[mk 1 117 (c3.map DW.enc)]⟩ (fun e s=>e=(.exit 0)/\Wk E0 s ⟨Fr 29 [(6,hd 0 (r.map DW.enc))],[mk 1 117 (r.map DW.enc)]⟩):=by
 intro f;induction f with
 | zero=>intro c3 c4 r h; cases h
 | succ f ih0 =>
  intro c3 c4 r h
  have ih:=fun (c3:(List AF)) (c4:Int)=>ih0 c3 c4 r
  unfold FX at h;refine CI ?_
  let p1:Option Blk:=mk 1 117 (c3.map DW.enc)
  let p2:Nat×AV:=(18,.j c4)
  let p3:Nat×AV:=(17,.j (x0.length:Int))
  let p4:Nat×AV:=(16,.sl 5 (x0.map AA.enc))
  refine AK AC [(6,hd 0 (c3.map DW.enc)),p4,p3,p2,(19,.b (decide (c4 < (x0.length:Int))))] [p1] ?_;refine AH ?_;refine AT (b:=(decide (c4 < (x0.length:Int)))) kr (fun hb5=>?_) (fun hb5=>?_)
  ·rw [if_pos hb5] at h
   refine AY ?_;refine AH ?_;refine Al ?_;refine AH ?_;obtain ⟨v6,hv6,h⟩:=OB h
   let p5:Option Blk:=some ⟨5,60,[AA.enc v6],false⟩
   refine AM (s1:=⟨Fr 29 [(6,hd 0 (c3.map DW.enc)),(8,.pt 1 0 0),p4,p3,p2],[p1,p5]⟩) ?_ ?_
   ·refine AZ AC 0 rfl (DR (AB rfl) rfl (AP (a:= .sl 5 (x0.map AA.enc)) (b:= .j c4) kr kr (Di (e:=AA.enc) (el:=60) (k:=5) (ki:= .i64) kr kr hv6))) ?_
    exact Ad AC
   obtain ⟨v7,hv7,h⟩:=OB h;by_cases hk8:(EK 8 (c3.length + 1))=true
   case neg=>rw [if_neg hk8] at h; cases h
   rw [if_pos hk8] at h
   let p6:Option Blk:=mk 1 117 ((c3++[v7]).map DW.enc)
   let p7:Nat×AV:=(6,hd 0 ((c3++[v7]).map DW.enc))
   refine AM (s1:=⟨Fr 29 [p7,p4,p3,p2],[p6]⟩) ?_ ?_
   ·refine AD (n:=29) AC 2 [p4,p3,p2,(22,hd 0 (c3.map DW.enc)),(23,AA.enc v6)] [p1,p5] kr ?_
    refine AS (caps:=[]) (xs:=[AA.enc v6]) (u:=(v6,())) rfl rfl UC rfl (AB rfl) kr kr (AL (AW (c:=AA) (v:=v6)) Ao) (.inr kr) hv7 ?_;refine AD (n:=29) AC 1 [p4,p3,p2,(22,hd 0 (c3.map DW.enc)),(25,hd 2 ([v7].map DW.enc))] [p1,p5,mk 1 117 ([v7].map DW.enc)] kr ?_;refine AZ AC 0 rfl (S4 (AB rfl) rfl kr kr (Dq (a:=hd 0 (c3.map DW.enc)) (b:=hd 2 ([v7].map DW.enc)) kr kr (PY (c:=DW) (xs:=c3) (vs:=[v7]) (k:=1) (bytes:=8) (el:=117) kr kr (IC (t:=117) kr) (List.cons_ne_nil _ _) kr hk8))) ?_;refine AD (n:=29) AC 1 [(6,hd 3 ((c3++[v7]).map DW.enc)),p4,p3,p2] [none,p5,mk 1 117 ([v7].map DW.enc),p6] kr ?_;exact AI rfl (Ar [3] ⟨⟨_,rfl,MY⟩,trivial⟩ ⟨Ma (b':=3) kr kr,lv,lv,lv,trivial⟩)
   let p8:Nat×AV:=(18,.j (wr .i64 (c4 + 1)))
   refine D1 AC [p7,p4,p3,p8] [p6] ?_;exact Aq (s1:=⟨Fr 29 [p7,p4,p3,p8],[p6]⟩) (Ar [0] ⟨⟨_,rfl,MY⟩,trivial⟩ ⟨Ma (b':=0) kr kr,lv,lv,lv,trivial⟩) (ih (c3++[v7]) (wr .i64 (c4 + 1)) h)
  ·rw [Bm hb5] at h
   refine C6 ?_;have hq:=OI h; subst hq;exact ⟨rfl,(Ar [0] ⟨⟨_,rfl,MY⟩,trivial⟩ ⟨Ma (b':=0) kr kr,trivial⟩)⟩
theorem SN (x0:(List AF)) (r:(List AF)×Bool) (h:IQ x0=some r):Sem E0 ⟨none,false⟩ Lx ⟨Fr 29 (A6 0 (Jd.enc (x0,()))),[]⟩ fun e s'=>(e = .normal\/e = .ret)/\∃ xs,EZ E0.P s'.fr s'.hp Tryz.f75.results.toList=some xs/\Ee xs=MF r:=by
 unfold IQ at h
 let p1:Nat×AV:=(0,.sl 5 (x0.map AA.enc))
 refine Ax (BY (s1:=⟨Fr 29 [p1],[]⟩) AJ ?_);refine AK AC [p1] [] ?_;refine AH ?_;refine AH ?_;obtain ⟨v1,hv1,h⟩:=OB h;refine AM (s1:=⟨Fr 29 [p1,(5,.j v1.2)],[]⟩) ?_ ?_
 ·refine AD (n:=29) AC 1 [p1,(10,.sl 5 (x0.map AA.enc))] [] kr ?_
  refine AS (caps:=[]) (xs:=[.sl 5 (x0.map AA.enc)]) (u:=(x0,())) rfl rfl RD rfl (AB rfl) kr kr (AL (AW (c:=(cdL 5 AA)) (v:=x0)) Ao) (.inl kr) hv1 ?_;exact Ad AC
 refine AK AC [p1,(15,.b (v1.2 != 0))] [] ?_;refine AT (b:=(v1.2 != 0)) kr (fun hb2=>?_) (fun hb2=>?_)
 ·rw [if_pos hb2] at h
  let p2:Nat×AV:=(3,.b false)
  refine AK AC [(2,.e0),p2] [] ?_;refine AR ?_;have hq:=OI h; subst hq;exact ⟨⟨Fr 29 [(2,.sl 1 ([].map DW.enc)),p2],[]⟩,(Wk.trans (s1:=⟨Fr 29 [(2,.e0),p2],[]⟩) AJ (Wk.trans (s1:=⟨Fr 29 [(2,.e0),p2],[none]⟩) Wk.none (Wk.trans (s1:=⟨Fr 29 [(2,.sl 1 ([].map DW.enc)),p2],[none]⟩) (M0 0 (.inr kr) ⟨.inl rfl,trivial⟩ ⟨⟨.e0,kr,ACS⟩,⟨.b false,kr,.inl rfl⟩,trivial⟩) (Ar [] trivial ⟨lv,lv,trivial⟩)))),.inr rfl,[.sl 1 ([].map DW.enc),.b false],kr,kr⟩
 ·rw [Bm hb2] at h
  refine AY ?_;refine AK AC [p1,(6,.e0)] [] ?_;refine AH ?_;refine AH ?_
  let p3:Nat×AV:=(18,.j 0)
  let p4:Nat×AV:=(17,.j (x0.length:Int))
  let p5:Nat×AV:=(16,.sl 5 (x0.map AA.enc))
  refine AM (s1:=⟨Fr 29 [(6,.e0),p5,p4,p3],[]⟩) ?_ ?_
  ·refine AD (n:=29) AC 1 [(6,.e0),p5] [] kr ?_
   refine AZ AC 0 rfl (DR (AB rfl) rfl (C3 (a:= .sl 5 (x0.map AA.enc)) kr (Bn (el:=60) kr))) ?_;exact Ad AC
  refine Al ?_;obtain ⟨r10,hr10,h⟩:=OB h;refine DB (n:=100000) ?_;refine BB (Aq (s1:=⟨Fr 29 [(6,hd 0 ([].map DW.enc)),p5,p4,p3],[mk 1 117 ([].map DW.enc)]⟩) (Wk.trans (s1:=⟨Fr 29 [(6,hd 0 ([].map DW.enc)),p5,p4,p3],[mk 1 117 ([].map DW.enc)]⟩) Wk.none (Ar [0] ⟨⟨_,rfl,P7⟩,trivial⟩ ⟨lv,lv,lv,lv,trivial⟩)) (Qk x0 _ [] 0 _ hr10)) ?_
  let p6:Nat×AV:=(3,.b true)
  refine AK AC [(2,hd 0 (r10.map DW.enc)),p6] [mk 1 117 (r10.map DW.enc)] ?_;refine AR ?_;have hq:=OI h; subst hq;exact ⟨⟨Fr 29 [(2,.sl 1 (r10.map DW.enc)),p6],[]⟩,(Wk.trans (s1:=⟨Fr 29 [(2,.sl 1 (r10.map DW.enc)),p6],[none]⟩) (M0 0 (.inl kr) ⟨.inl rfl,trivial⟩ ⟨⟨hd 0 (r10.map DW.enc),kr,Yh (t:=117) kr Px⟩,⟨.b true,kr,.inl rfl⟩,trivial⟩) (Ar [] trivial ⟨lv,lv,trivial⟩)),.inr rfl,[.sl 1 (r10.map DW.enc),.b true],kr,kr⟩
noncomputable def Ue:List AV->Option AV:=ES Jd (fun a=>IQ a.1) MF
theorem Up:XOk 75 Ue:=by
 refine AU Tryz.func75 (c:=Lx) ?h2 ⟨Tryz.call75⟩ Jd (fun a=>IQ a.1) MF (fun a=>(by show 1<=29; decide)) ?h3 ?h4
 case h2=>kernel_rfl
 case h3=>intro b; kernel_rfl
 case h4=>exact fun a b h=>SN a.1 b h
noncomputable def Ew:Code:=BL Tryz.f135
def BA (xs:List Ab):Option Blk:=some ⟨10,115,xs.map AG.enc,false⟩
set_option maxRecDepth 100000 in
theorem He (xs:List Ab) (hc:EK 120 xs.length=true):Sem E0 ⟨none,false⟩ Ew ⟨Fr 8 [(0,.sl 10 (xs.map AG.enc))],[]⟩ fun e s'=>(e = .normal\/e = .ret)/\((xs=[]/\s'=⟨Fr 8 [(2,.e0)],[]⟩)\/s'=⟨Fr 8 [(2,.rf 0 0 xs.length xs.length)],[BA xs]⟩):=by
 refine AH ?_
 refine AM (s1:=⟨Fr 8 [(0,.sl 10 (xs.map AG.enc)),(2,.e0)],[]⟩) ?_ ?_
 ·refine Ij AC 1 (s1:=⟨Fr 8 [(0,.sl 10 (xs.map AG.enc)),(2,.e0)],[]⟩) (by kernel_rfl) ?_
  exact AI rfl AJ
 refine AH ?_
 refine AH (Ss ?_)
 refine Ij AC 1 (s1:=⟨Fr 8 [(0,.sl 10 (xs.map AG.enc)),(2,.e0),(3,.sl 10 (xs.map AG.enc))],[]⟩) (by kernel_rfl) ?_
 refine Uw (k:=10) (el:=115) (es:=xs.map AG.enc) rfl (AB rfl) (by kernel_rfl) (by kernel_rfl) fun b hb=>AI rfl ?_
 have hb:b=true->xs=[]:=fun h=>List.map_eq_nil_iff.1 (hb h)
 refine AT (b:=b) (by kernel_rfl) (fun hb1=>?_) (fun hb1=>?_)
 ·have hx:=hb hb1
  refine Ax ?_
  refine AH (AM (s1:=⟨Fr 8 [(2,.e0)],[]⟩) ?_ (AR ?_))
  ·refine Ij AC 1 (s1:=⟨Fr 8 [(0,.sl 10 (xs.map AG.enc)),(2,.e0),(3,.sl 10 (xs.map AG.enc)),(4,.v (.bool b))],[]⟩) (by kernel_rfl) ?_
   exact AI rfl AJ
  ·exact ⟨_,Wk.refl,.inr rfl,.inl ⟨hx,rfl⟩⟩
 ·refine AY ?_
  refine Ax (AH (Ss ?_))
  refine Ij AC 2 (s1:=⟨Fr 8 [(0,.sl 10 (xs.map AG.enc)),(2,.e0),(3,.sl 10 (xs.map AG.enc)),(4,.v (.bool b)),(5,.rf 0 0 0 0),(6,.sl 10 (xs.map AG.enc))],[BA []]⟩) (by kernel_rfl) ?_
  cases xs with
  | nil =>
   refine AZ AC 0 rfl (S4 (x:= .rf 0 0 0 0) (hp':=[BA []]) (AB rfl) rfl (by kernel_rfl) (by kernel_rfl) (by kernel_rfl)) ?_
   refine Ij AC 1 (s1:=⟨Fr 8 [(0,.sl 10 []),(2,.rf 0 0 0 0),(3,.sl 10 []),(4,.v (.bool b)),(5,.rf 0 0 0 0),(6,.sl 10 []),(7,.rf 0 0 0 0)],[BA []]⟩) (by kernel_rfl) (AI rfl (AR ?_))
   exact ⟨⟨Fr 8 [(2,.rf 0 0 0 0)],[BA []]⟩,AJ,.inr rfl,.inr rfl⟩
  | cons y ys =>
   refine AZ AC 0 rfl (S4 (AB rfl) rfl (by kernel_rfl) (by kernel_rfl) (Dq (a:= .rf 0 0 0 0) (b:= .sl 10 ((y::ys).map AG.enc)) (by kernel_rfl) (by kernel_rfl) (PZ (c:=AG) (xs:=[]) (vs:=y::ys) (k:=10) (bytes:=120) (el:=115) (by kernel_rfl) (by kernel_rfl) VU (List.cons_ne_nil _ _) (by kernel_rfl) (by rw [List.length_nil,Nat.zero_add]; exact hc)))) ?_
   refine Ij AC 1 (s1:=⟨Fr 8 [(0,.sl 10 ((y::ys).map AG.enc)),(2,.rf 1 0 (y::ys).length (y::ys).length),(3,.sl 10 ((y::ys).map AG.enc)),(4,.v (.bool b)),(5,.rf 0 0 0 0),(6,.sl 10 ((y::ys).map AG.enc)),(7,.rf 1 0 (y::ys).length (y::ys).length)],[none,BA (y::ys)]⟩) (by kernel_rfl) (AI rfl (AR ?_))
   exact ⟨⟨Fr 8 [(2,.rf 0 0 (y::ys).length (y::ys).length)],[BA (y::ys)]⟩,Ar [1] ⟨⟨_,rfl,Uy⟩,trivial⟩ ⟨lv,trivial⟩,.inr rfl,.inr rfl⟩
def H1 (xs:List Ab) (x:AV) (h':Hp):Prop:=(xs=[]/\x = .e0/\h'=[])\/(x = .rf 0 0 xs.length xs.length/\h'=[BA xs])
theorem IL (xs:List Ab) (hc:EK 120 xs.length=true):SOk 135 [.sl 10 (xs.map AG.enc)] (H1 xs):=by
 refine VB AC rfl rfl (fn:=Tryz.f135) (c:=Ew) (by kernel_rfl) (by kernel_rfl) ⟨Tryz.call135⟩ (by show 1<=8; decide) (Sem.mono (He xs hc) ?_)
 rintro e s' ⟨he,⟨hx,rfl⟩ | rfl⟩
 ·exact ⟨he,[.e0],by kernel_rfl,.inl ⟨hx,rfl,rfl⟩⟩
 ·exact ⟨he,[.rf 0 0 xs.length xs.length],by kernel_rfl,.inr ⟨rfl,rfl⟩⟩
def Oa:Cs (List Ab×Unit):=csC (cdL 10 AG) csN
/- trestle/court.orderOf$1 -/
noncomputable def Mc:Code:=BL Tryz.f165
def DI {β:Type}(G:Ab->Ab->β->Option Int) (x0:Ab) (x1:Ab) (x2:AF) (x3:β):Option (Int) :=
 (if (!(x2.2.1==[]))=true then if (!(x0.1.2.1==x2.2.1))=true then some true else some (!(x1.1.2.1==x2.2.1)) else some false).bind fun j2 =>
 if j2=true then
 some 0
 else
 (G x0 x1 x3).bind fun v4 =>
 some v4
def Jc {β:Type}(fid:FuncId) (sx:Cs β) (hn:∀ x,(sx.enc x).all JN=true):Cs (Ab×Ab×AF×β×Unit):=(csC AG (csC AG (csC (cdP AA) (csC (cdP (cdF fid sx hn)) csN))))
def Ji (r:Int):AV:=cdI.enc r
theorem QB {β:Type}{fid:FuncId}{sx:Cs β}{hn:∀ x,(sx.enc x).all JN=true}{G:Ab->Ab->β->Option Int}(hX:XOk fid (ES (csC AG (csC AG sx)) (fun a=>G a.1 a.2.1 a.2.2) cdI.enc)) (x0:Ab) (x1:Ab) (x2:AF) (x3:β) (r:Int) (h:DI G x0 x1 x2 x3=some r):Sem E0 ⟨none,false⟩ Mc ⟨Fr 30 (A6 0 ((Jc fid sx hn).enc (x0,x1,x2,x3,()))),[]⟩ fun e s'=>(e = .normal\/e = .ret)/\∃ xs,EZ E0.P s'.fr s'.hp Tryz.f165.results.toList=some xs/\Ee xs=Ji r:=by
 unfold DI at h
 refine Ax (BY (s1:=⟨Fr 30 [(0,AG.enc x0),(1,AG.enc x1),(2,.pe (AA.enc x2) 0),(3,.pe (.fn fid [] (sx.enc x3)) 0)],[]⟩) AJ ?_)
 refine AK AC [(2,.pe (AA.enc x2) 0),(3,.pe (.fn fid [] (sx.enc x3)) 0),(4,.pt 0 0 0),(5,.pt 1 0 0)] [some ⟨10,115,[AG.enc x0],false⟩,some ⟨10,115,[AG.enc x1],false⟩] ?_
 refine AH ?_
 refine AH ?_
 obtain ⟨j2,hj2,h⟩:=OB h
 refine AM (s1:=⟨Fr 30 [(3,.pe (.fn fid [] (sx.enc x3)) 0),(4,.pt 0 0 0),(5,.pt 1 0 0),(25,.v (.bool j2))],[some ⟨10,115,[AG.enc x0],false⟩,some ⟨10,115,[AG.enc x1],false⟩]⟩) ?_ ?_
 ·refine AD (n:=30) AC 4 [(2,.pe (AA.enc x2) 0),(3,.pe (.fn fid [] (sx.enc x3)) 0),(4,.pt 0 0 0),(5,.pt 1 0 0),(10,.v (.bool (!(x2.2.1==[]))))] [some ⟨10,115,[AG.enc x0],false⟩,some ⟨10,115,[AG.enc x1],false⟩] kr ?_
  rcases BE (!(x2.2.1==[])) with hc5 | hc5
  ·rw [if_pos hc5] at hj2
   rw [hc5]
   refine AD (n:=30) AC 7 [(2,.pe (AA.enc x2) 0),(3,.pe (.fn fid [] (sx.enc x3)) 0),(4,.pt 0 0 0),(5,.pt 1 0 0),(10,.v (.bool true)),(17,.v (.bool (!(x0.1.2.1==x2.2.1))))] [some ⟨10,115,[AG.enc x0],false⟩,some ⟨10,115,[AG.enc x1],false⟩] kr ?_
   rcases BE (!(x0.1.2.1==x2.2.1)) with hc6 | hc6
   ·rw [if_pos hc6] at hj2
    rw [hc6]
    refine AD (n:=30) AC 8 [(3,.pe (.fn fid [] (sx.enc x3)) 0),(4,.pt 0 0 0),(5,.pt 1 0 0),(25,.v (.bool true))] [some ⟨10,115,[AG.enc x0],false⟩,some ⟨10,115,[AG.enc x1],false⟩] kr ?_
    have hq:=OI hj2; subst hq
    exact AI rfl (Ar [0,1] ⟨⟨_,rfl,HS⟩,⟨_,rfl,HS⟩,trivial⟩ ⟨lv,lv,lv,lv,trivial⟩)
   ·rw [Bm hc6] at hj2
    rw [hc6]
    refine AD (n:=30) AC 8 [(3,.pe (.fn fid [] (sx.enc x3)) 0),(4,.pt 0 0 0),(5,.pt 1 0 0),(25,.v (.bool (!(x1.1.2.1==x2.2.1))))] [some ⟨10,115,[AG.enc x0],false⟩,some ⟨10,115,[AG.enc x1],false⟩] kr ?_
    have hq:=OI hj2; subst hq
    exact AI rfl (Ar [0,1] ⟨⟨_,rfl,HS⟩,⟨_,rfl,HS⟩,trivial⟩ ⟨lv,lv,lv,lv,trivial⟩)
  ·rw [Bm hc5] at hj2
   rw [hc5]
   refine AD (n:=30) AC 15 [(3,.pe (.fn fid [] (sx.enc x3)) 0),(4,.pt 0 0 0),(5,.pt 1 0 0),(25,.v (.bool false))] [some ⟨10,115,[AG.enc x0],false⟩,some ⟨10,115,[AG.enc x1],false⟩] kr ?_
   have hq:=OI hj2; subst hq
   exact AI rfl (Ar [0,1] ⟨⟨_,rfl,HS⟩,⟨_,rfl,HS⟩,trivial⟩ ⟨lv,lv,lv,lv,trivial⟩)
 refine AT (b:=j2) kr (fun hb3=>?_) (fun hb3=>?_)
 ·rw [if_pos hb3] at h
  refine AH ?_
  refine AM (s1:=⟨Fr 30 [(6,.v (.int .i64 0))],[]⟩) ?_ ?_
  ·refine AD (n:=30) AC 1 [(6,.v (.int .i64 0))] [some ⟨10,115,[AG.enc x0],false⟩,some ⟨10,115,[AG.enc x1],false⟩] kr ?_
   exact AI rfl (Ar [] trivial ⟨lv,trivial⟩)
  refine AR ?_
  have hq:=OI h; subst hq
  exact ⟨⟨Fr 30 [(6,.v (.int .i64 0))],[]⟩,AJ,.inr rfl,[.v (.int .i64 0)],kr,kr⟩
 ·rw [Bm hb3] at h
  refine AY ?_
  refine AH ?_
  obtain ⟨v4,hv4,h⟩:=OB h
  refine AM (s1:=⟨Fr 30 [(6,.v (.int .i64 v4))],[]⟩) ?_ ?_
  ·refine AD (n:=30) AC 3 [(26,.fn fid [] (sx.enc x3)),(27,AG.enc x0),(28,AG.enc x1)] [some ⟨10,115,[AG.enc x0],false⟩,some ⟨10,115,[AG.enc x1],false⟩] kr ?_
   refine AS (caps:=sx.enc x3) (xs:=[AG.enc x0,AG.enc x1]) (u:=(x0,x1,x3)) rfl rfl hX rfl (AB rfl) kr kr (AL (AW (c:=AG) (v:=x0)) (AL (AW (c:=AG) (v:=x1)) (VJ (n:=10) (s:=sx) (a:=x3)))) (.inl kr) hv4 ?_
   refine AD (n:=30) AC 1 [(6,.v (.int .i64 v4))] [some ⟨10,115,[AG.enc x0],false⟩,some ⟨10,115,[AG.enc x1],false⟩] kr ?_
   exact AI rfl (Ar [] trivial ⟨lv,trivial⟩)
  refine AR ?_
  have hq:=OI h; subst hq
  exact ⟨⟨Fr 30 [(6,.v (.int .i64 v4))],[]⟩,AJ,.inr rfl,[.v (.int .i64 v4)],kr,kr⟩
def Ru {β:Type}(fid:FuncId) (sx:Cs β) (hn:∀ x,(sx.enc x).all JN=true) (G:Ab->Ab->β->Option Int):List AV->Option AV:=ES (Jc fid sx hn) (fun a=>DI G a.1 a.2.1 a.2.2.1 a.2.2.2.1) Ji
theorem Dv {β:Type}{fid:FuncId}{sx:Cs β}{hn:∀ x,(sx.enc x).all JN=true}{G:Ab->Ab->β->Option Int}(hX:XOk fid (ES (csC AG (csC AG sx)) (fun a=>G a.1 a.2.1 a.2.2) cdI.enc)):XOk 165 (Ru fid sx hn G):=by
 refine AU Tryz.func165 (c:=Mc) ?h2 ⟨Tryz.call165⟩ (Jc fid sx hn) (fun a=>DI G a.1 a.2.1 a.2.2.1 a.2.2.2.1) Ji (fun a=>(by show 4<=30; decide)) ?h3 ?h4
 case h2=>kernel_rfl
 case h3=>intro b; kernel_rfl
 case h4=>exact fun a b h=>QB hX a.1 a.2.1 a.2.2.1 a.2.2.2.1 b h
/- cmp.isNaN[int] -/
noncomputable def N8:Code:=BL Tryz.f137
def Hn (x0:Int):Option (Bool) :=
 some (x0 != x0)
def Kp:Cs (Int×Unit):=(csC cdI csN)
def LB (r:Bool):AV:=cdB.enc r
theorem RL (x0:Int) (r:Bool) (h:Hn x0=some r):Sem E0 ⟨none,false⟩ N8 ⟨Fr 6 (A6 0 (Kp.enc (x0,()))),[]⟩ fun e s'=>(e = .normal\/e = .ret)/\∃ xs,EZ E0.P s'.fr s'.hp Tryz.f137.results.toList=some xs/\Ee xs=LB r:=by
 unfold Hn at h;refine Ax (BY (s1:=⟨Fr 6 [(0,.j x0)],[]⟩) AJ ?_);refine AK AC [(0,.j x0)] [] ?_;refine AK AC [(2,.b (x0 != x0))] [] ?_;refine AR ?_;have hq:=OI h; subst hq;exact ⟨⟨Fr 6 [(2,.b (x0 != x0))],[]⟩,AJ,.inr rfl,[.b (x0 != x0)],kr,kr⟩
def Tk:List AV->Option AV:=ES Kp (fun a=>Hn a.1) LB
theorem PS:XOk 137 Tk:=by
 refine AU Tryz.func137 (c:=N8) ?h2 ⟨Tryz.call137⟩ Kp (fun a=>Hn a.1) LB (fun a=>(by show 1<=6; decide)) ?h3 ?h4
 case h2=>kernel_rfl
 case h3=>intro b; kernel_rfl
 case h4=>exact fun a b h=>RL a.1 b h
end Go.Proofs.YtlalcoehgkmhlaaGreatDoor
