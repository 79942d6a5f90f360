/- Lemmas for the proof. -/
import Derived.Test.YtlalcoehgkmhlaaGreatDoorCourtPairsM1
import Derived.Test.YtlalcoehgkmhlaaGreatDoorCourtPairsM2
import Derived.Test.YtlalcoehgkmhlaaGreatDoorCourtPairsM3
import Derived.Test.YtlalcoehgkmhlaaGreatDoorCourtPairsM4
set_option maxHeartbeats 4000000
set_option maxRecDepth 100000
namespace Go.Proofs.YtlalcoehgkmhlaaGreatDoor
open Go.RowKit
def isT (r:Option (AV×Hp)):Bool:=match r with
 | some (.v (.bool true),_)=>true
 | _=>false
theorem AC9 {r:Option (AV×Hp)}(h:isT r=true):∃ h',r=some (.v (.bool true),h'):=by
 unfold isT at h
 split at h
 ·exact ⟨_,rfl⟩
 ·cases h
set_option maxRecDepth 1000000 in
theorem AEG:isT (YZ E13 3000 18 [] [])=true:=by kernel_rfl
theorem AA9:∃ h,YZ E13 3000 18 [] []=some (.v (.bool true),h):=AC9 AEG
theorem Zg (w:World):Ret Tryz.prog 18 #[] w fun v w'=>v = .bool true/\w.grownBy w' none:=by
 obtain ⟨h,e⟩:=AA9
 exact ABo (E:=E13) (Z:=fun _=>False) (us:=[]) AD0 e (fun c hc=>hc.elim) (fun g x h=>by cases h) .nil
theorem ADh {w:World}{Z:Nat->Prop}:VR w Z [] (.v (.bool true)) (.bool true):= .v rfl
def MN:Option Bool:=some true
def U2:Cs Unit:=csN
def U4 (b:Bool):AV:=cdB.enc b
def WQ:List AV->Option AV:=Dk U2 (fun _=>MN) U4
theorem Lp:XOk 18 WQ:=by
 refine ⟨⟨Tryz.call18⟩,fun xs x h w Z us _ _ hv=>?_⟩
 obtain ⟨a,ha,h⟩:=OB h
 obtain ⟨b,hb,rfl⟩:=Option.map_eq_some_iff.1 h
 have hb:=OI hb
 subst hb
 have:xs=[]:=by
  cases xs with
  | nil=>rfl
  | cons x xs=>cases ha
 subst this
 have:us=[]:=by have:=hv.len; simpa using this
 subst this
 exact Ret.mono (Zg w) fun v w' h=>⟨h.2,by rw [h.1]; exact ADh⟩
/- trestle/trestlelaw03.FewGuests$1$1 -/
noncomputable def Jo:Code:=A3 Tryz.f58
def Ep (x0:(List UInt8)):Option (Bool) :=
 some (decide ((x0.length:Int) > 40))
def Hi:Cs ((List UInt8)×Unit):=(csC cdS csN)
def Hl (r:Bool):AV:=cdB.enc r
theorem N7 (x0:(List UInt8)) (r:Bool) (h:Ep x0=some r):Sem E0 ⟨none,false⟩ Jo ⟨Fr 6 (Av 0 (Hi.enc (x0,()))),[]⟩ fun e s'=>(e = .normal\/e = .ret)/\∃ xs,D6 E0.P s'.fr s'.hp Tryz.f58.results.toList=some xs/\EA xs=Hl r:=by
 unfold Ep at h;refine Aj (A8 (s1:=⟨Fr 6 [(0,.st x0)],[]⟩) AJ ?_);refine AK AC [(0,.st x0)] [] ?_
 let p1:Nat×AV:=(2,.v (.bool (decide ((x0.length:Int) > 40))))
 refine AK AC [p1] [] ?_;refine AN ?_;have hq:=OI h; subst hq;exact ⟨⟨Fr 6 [p1],[]⟩,AJ,.inr rfl,[.v (.bool (decide ((x0.length:Int) > 40)))],kr,kr⟩
def PW:List AV->Option AV:=Dk Hi (fun a=>Ep a.1) Hl
theorem Pg:XOk 58 PW:=by
 refine AQ Tryz.func58 (c:=Jo) ?h2 ⟨Tryz.call58⟩ Hi (fun a=>Ep a.1) Hl (fun a=>(by show 1<=6; decide)) ?h3 ?h4
 case h2=>kernel_rfl
 case h3=>intro b; kernel_rfl
 case h4=>exact fun a b h=>N7 a.1 b h
/- slices.IndexFunc[[]string,string] -/
noncomputable def CJ:Code:=A3 Tryz.f90
def BF (x0:(List (List UInt8))):Nat->Int->Option ((Unit) ⊕ (Int))
 | 0,_=>none
 | f + 1,c1 =>
  if (decide (c1 < (x0.length:Int)))=true then
  (idx x0 c1).bind fun v3 =>
  (Ep v3).bind fun v4 =>
  if v4=true then
  some (.inr c1)
  else
  BF x0 f (wr .i64 (c1 + 1))
  else
  some (.inl ())
def A2 (x0:(List (List UInt8))):Option (Int) :=
 (BF x0 100000 0).bind fun r7 =>
 match r7 with
 | (.inl _w8) =>
  some (-1)
 | (.inr w9) =>
  some w9
def CL:Cs ((List (List UInt8))×Unit×Unit):=(csC (cdL 1 cdS) (csC (cdF 58 csN (fun _=>rfl)) csN))
def CN (r:Int):AV:=cdI.enc r
theorem DD (x0:(List (List UInt8))):∀ (f:Nat) (c1:Int) (r:(Unit) ⊕ (Int)),BF x0 f c1=some r->SemN E0 ⟨none,false⟩ (pc CJ [1,0,1,0,0]) f ⟨Fr 19 [(0,.sl 1 (x0.map cdS.enc)),(1,.fn 58 [] []),(7,.v (.int .i64 (x0.length:Int))),(8,.v (.int .i64 c1))],[]⟩ (fun e s=>match r with
 | (.inl _w)=>e=(.exit 0)/\Wk E0 s ⟨Fr 19 [],[]⟩
 | (.inr w)=>e = .ret/\Wk E0 s ⟨Fr 19 [(4,.v (.int .i64 w))],[]⟩):=by
 intro f;induction f with
 | zero=>intro c1 r h; cases h
 | succ f ih0 =>
  intro c1 r h
  have ih:=fun (c1:Int)=>ih0 c1 r
  unfold BF at h;refine BR ?_
  let p1:Nat×AV:=(8,.v (.int .i64 c1))
  let p2:Nat×AV:=(7,.v (.int .i64 (x0.length:Int)))
  let p3:Nat×AV:=(1,.fn 58 [] [])
  let p4:Nat×AV:=(0,.sl 1 (x0.map cdS.enc))
  refine AK AC [p4,p3,p2,p1,(9,.v (.bool (decide (c1 < (x0.length:Int)))))] [] ?_;refine AG ?_;refine AP (b:=(decide (c1 < (x0.length:Int)))) kr (fun hb2=>?_) (fun hb2=>?_)
  ·rw [if_pos hb2] at h
   refine AT ?_;refine AG ?_;refine AZ ?_
   let p5:Nat×AV:=(5,.v (.int .i64 c1))
   refine AK AC [p4,p3,p5,p2,p1] [] ?_;refine AG ?_;obtain ⟨v3,hv3,h⟩:=OB h;obtain ⟨v4,hv4,h⟩:=OB h;refine AL (s1:=⟨Fr 19 [p4,p3,p5,p2,p1,(16,.v (.bool v4))],[]⟩) ?_ ?_
   ·refine AD (n:=19) AC 3 [p4,p3,p5,p2,p1,(11,.fn 58 [] []),(12,.sl 1 (x0.map cdS.enc)),(13,.v (.int .i64 c1))] [] kr ?_
    refine AS AC 0 rfl (DH (AB rfl) rfl (AW (a:= .sl 1 (x0.map cdS.enc)) (b:= .v (.int .i64 c1)) kr kr (DK (e:=cdS.enc) (el:=9) (k:=1) (ki:= .i64) kr kr hv3))) ?_;refine AD (n:=19) AC 1 [p4,p3,p5,p2,p1,(11,.fn 58 [] []),(15,.st v3)] [] kr ?_;refine AR (caps:=[]) (xs:=[.st v3]) (u:=(v3,())) rfl rfl Pg rfl (AB rfl) kr kr (AM (AU (c:=cdS) (v:=v3)) Af) (.inl kr) hv4 ?_;exact AI rfl AJ
   refine AP (b:=v4) kr (fun hb5=>?_) (fun hb5=>?_)
   ·rw [if_pos hb5] at h
    refine AK AC [(4,.v (.int .i64 c1))] [] ?_;refine AN ?_;have hq:=OI h; subst hq;exact ⟨rfl,AJ⟩
   ·rw [BY hb5] at h
    refine AT ?_
    let p6:Nat×AV:=(8,.v (.int .i64 (wr .i64 (c1 + 1))))
    refine Ci AC [p4,p3,p2,p6] [] ?_;exact Ab (s1:=⟨Fr 19 [p4,p3,p2,p6],[]⟩) AJ (ih (wr .i64 (c1 + 1)) h)
  ·rw [BY hb2] at h
   refine Bi ?_;have hq:=OI h; subst hq;exact ⟨rfl,AJ⟩
theorem Ff (x0:(List (List UInt8))) (r:Int) (h:A2 x0=some r):Sem E0 ⟨none,false⟩ CJ ⟨Fr 19 (Av 0 (CL.enc (x0,(),()))),[]⟩ fun e s'=>(e = .normal\/e = .ret)/\∃ xs,D6 E0.P s'.fr s'.hp Tryz.f90.results.toList=some xs/\EA xs=CN r:=by
 unfold A2 at h
 let p1:Nat×AV:=(1,.fn 58 [] [])
 let p2:Nat×AV:=(0,.sl 1 (x0.map cdS.enc))
 refine Aj (A8 (s1:=⟨Fr 19 [p2,p1],[]⟩) AJ ?_);refine AK AC [p2,p1] [] ?_;refine AG ?_;refine AG ?_
 let p3:Nat×AV:=(8,.v (.int .i64 0))
 let p4:Nat×AV:=(7,.v (.int .i64 (x0.length:Int)))
 refine AL (s1:=⟨Fr 19 [p2,p1,p4,p3],[]⟩) ?_ ?_
 ·refine AD (n:=19) AC 1 [p2,p1,(6,.sl 1 (x0.map cdS.enc))] [] kr ?_
  refine AS AC 0 rfl (DH (AB rfl) rfl (CX (a:= .sl 1 (x0.map cdS.enc)) kr (BS (el:=9) kr))) ?_;exact AX AC
 refine AZ ?_;obtain ⟨r7,hr7,h⟩:=OB h;refine Bj (n:=100000) ?_;rcases r7 with w8 | w9
 ·try dsimp only at h
  refine Ao (Ab (s1:=⟨Fr 19 [p2,p1,p4,p3],[]⟩) AJ (DD x0 _ 0 _ hr7)) ?_;refine AK AC [(4,.v (.int .i64 (-1)))] [] ?_;refine AN ?_;have hq:=OI h; subst hq;exact ⟨⟨Fr 19 [(4,.v (.int .i64 (-1)))],[]⟩,AJ,.inr rfl,[.v (.int .i64 (-1))],kr,kr⟩
 ·try dsimp only at h
  refine Ao (Ab (s1:=⟨Fr 19 [p2,p1,p4,p3],[]⟩) AJ (DD x0 _ 0 _ hr7)) ?_;have hq:=OI h; subst hq;exact ⟨⟨Fr 19 [(4,.v (.int .i64 w9))],[]⟩,AJ,.inr rfl,[.v (.int .i64 w9)],kr,kr⟩
def Fp:List AV->Option AV:=Dk CL (fun a=>A2 a.1) CN
theorem Fs:XOk 90 Fp:=by
 refine AQ Tryz.func90 (c:=CJ) ?h2 ⟨Tryz.call90⟩ CL (fun a=>A2 a.1) CN (fun a=>(by show 2<=19; decide)) ?h3 ?h4
 case h2=>kernel_rfl
 case h3=>intro b; kernel_rfl
 case h4=>exact fun a b h=>Ff a.1 b h
/- slices.ContainsFunc[[]string,string] -/
noncomputable def DB:Code:=A3 Tryz.f36
def Am (x0:(List (List UInt8))):Option (Bool) :=
 (A2 x0).bind fun v1 =>
 some (decide (v1≥0))
def B8:Cs ((List (List UInt8))×Unit×Unit):=(csC (cdL 1 cdS) (csC (cdF 58 csN (fun _=>rfl)) csN))
def CB (r:Bool):AV:=cdB.enc r
theorem FA (x0:(List (List UInt8))) (r:Bool) (h:Am x0=some r):Sem E0 ⟨none,false⟩ DB ⟨Fr 9 (Av 0 (B8.enc (x0,(),()))),[]⟩ fun e s'=>(e = .normal\/e = .ret)/\∃ xs,D6 E0.P s'.fr s'.hp Tryz.f36.results.toList=some xs/\EA xs=CB r:=by
 unfold Am at h;refine Aj (A8 (s1:=⟨Fr 9 [(0,.sl 1 (x0.map cdS.enc)),(1,.fn 58 [] [])],[]⟩) AJ ?_);refine AK AC [(0,.sl 1 (x0.map cdS.enc)),(1,.fn 58 [] [])] [] ?_;refine AG ?_;obtain ⟨v1,hv1,h⟩:=OB h
 let p1:Nat×AV:=(4,.v (.bool (decide (v1≥0))))
 refine AL (s1:=⟨Fr 9 [p1],[]⟩) ?_ ?_
 ·refine AD (n:=9) AC 2 [(5,.sl 1 (x0.map cdS.enc)),(6,.fn 58 [] [])] [] kr ?_
  refine AR (caps:=[]) (xs:=[.sl 1 (x0.map cdS.enc),.fn 58 [] []]) (u:=(x0,(),())) rfl rfl Fs rfl (AB rfl) kr kr (AM (AU (c:=(cdL 1 cdS)) (v:=x0)) (AM (Sm.fn Af) Af)) (.inl kr) hv1 ?_;exact AX AC
 refine AN ?_;have hq:=OI h; subst hq;exact ⟨⟨Fr 9 [p1],[]⟩,AJ,.inr rfl,[.v (.bool (decide (v1≥0)))],kr,kr⟩
def FN:List AV->Option AV:=Dk B8 (fun a=>Am a.1) CB
theorem FQ:XOk 36 FN:=by
 refine AQ Tryz.func36 (c:=DB) ?h2 ⟨Tryz.call36⟩ B8 (fun a=>Am a.1) CB (fun a=>(by show 2<=9; decide)) ?h3 ?h4
 case h2=>kernel_rfl
 case h3=>intro b; kernel_rfl
 case h4=>exact fun a b h=>FA a.1 b h
/- trestle/trestlelaw03.FewGuests$1 -/
noncomputable def LX:Code:=A3 Tryz.f57
def EB (x0:Ai):Option (Bool) :=
 (if (decide ((mxI (mxI (x0.1.length:Int) (x0.2.1.length:Int)) (x0.2.2.1.length:Int)) > 40))=true then some true else if (decide ((x0.2.2.2.2.2.2.2.2.length:Int) > 10))=true then some true else (Am x0.2.2.2.2.2.2.2.2).bind fun v1 =>
 some v1).bind fun j3 =>
 some j3
def IR:Cs (Ai×Unit):=(csC AE csN)
def IV (r:Bool):AV:=cdB.enc r
theorem PJ (x0:Ai) (r:Bool) (h:EB x0=some r):Sem E0 ⟨none,false⟩ LX ⟨Fr 25 (Av 0 (IR.enc (x0,()))),[]⟩ fun e s'=>(e = .normal\/e = .ret)/\∃ xs,D6 E0.P s'.fr s'.hp Tryz.f57.results.toList=some xs/\EA xs=IV r:=by
 unfold EB at h;refine Aj (A8 (s1:=⟨Fr 25 [(0,AE.enc x0)],[]⟩) AJ ?_);refine AK AC [(1,.pt 0 0 0)] [some ⟨9,42,[AE.enc x0],false⟩] ?_;refine AG ?_;obtain ⟨j3,hj3,h⟩:=OB h;refine AL (s1:=⟨Fr 25 [(2,.v (.bool j3))],[]⟩) ?_ ?_
 ·refine AD (n:=25) AC 12 [(1,.pt 0 0 0),(14,.v (.bool (decide ((mxI (mxI (x0.1.length:Int) (x0.2.1.length:Int)) (x0.2.2.1.length:Int)) > 40))))] [some ⟨9,42,[AE.enc x0],false⟩] kr ?_
  rcases BE (decide ((mxI (mxI (x0.1.length:Int) (x0.2.1.length:Int)) (x0.2.2.1.length:Int)) > 40)) with hc4 | hc4
  ·rw [if_pos hc4] at hj3
   rw [hc4];refine AD (n:=25) AC 11 [(2,.v (.bool true))] [some ⟨9,42,[AE.enc x0],false⟩] kr ?_;have hq:=OI hj3; subst hq;exact AI rfl (Ae [] trivial ⟨lv,trivial⟩)
  ·rw [BY hc4] at hj3
   rw [hc4];refine AD (n:=25) AC 2 [(1,.pt 0 0 0),(14,.v (.bool false)),(16,.sl 1 (x0.2.2.2.2.2.2.2.2.map cdS.enc))] [some ⟨9,42,[AE.enc x0],false⟩] kr ?_;refine AS AC 0 rfl (DH kr rfl (CX (a:= .sl 1 (x0.2.2.2.2.2.2.2.2.map cdS.enc)) kr (BS (el:=9) kr))) ?_;refine AD (n:=25) AC 3 [(1,.pt 0 0 0),(20,.v (.bool (decide ((x0.2.2.2.2.2.2.2.2.length:Int) > 10))))] [some ⟨9,42,[AE.enc x0],false⟩] kr ?_;rcases BE (decide ((x0.2.2.2.2.2.2.2.2.length:Int) > 10)) with hc5 | hc5
   ·rw [if_pos hc5] at hj3
    rw [hc5];refine AD (n:=25) AC 5 [(2,.v (.bool true))] [some ⟨9,42,[AE.enc x0],false⟩] kr ?_;have hq:=OI hj3; subst hq;exact AI rfl (Ae [] trivial ⟨lv,trivial⟩)
   ·rw [BY hc5] at hj3
    rw [hc5];refine AD (n:=25) AC 2 [(20,.v (.bool false)),(22,.sl 1 (x0.2.2.2.2.2.2.2.2.map cdS.enc))] [some ⟨9,42,[AE.enc x0],false⟩] kr ?_;obtain ⟨v1,hv1,hj3⟩:=OB hj3;refine AR (caps:=[]) (xs:=[.sl 1 (x0.2.2.2.2.2.2.2.2.map cdS.enc),.fn 58 [] []]) (u:=(x0.2.2.2.2.2.2.2.2,(),())) rfl rfl FQ rfl kr kr kr (AM (AU (c:=(cdL 1 cdS)) (v:=x0.2.2.2.2.2.2.2.2)) (AM (Sm.fn Af) Af)) (.inl kr) hv1 ?_;refine AD (n:=25) AC 2 [(2,.v (.bool v1))] [some ⟨9,42,[AE.enc x0],false⟩] kr ?_;have hq:=OI hj3; subst hq;exact AI rfl (Ae [] trivial ⟨lv,trivial⟩)
 refine AN ?_;have hq:=OI h; subst hq;exact ⟨⟨Fr 25 [(2,.v (.bool j3))],[]⟩,AJ,.inr rfl,[.v (.bool j3)],kr,kr⟩
def Qi:List AV->Option AV:=Dk IR (fun a=>EB a.1) IV
theorem Qn:XOk 57 Qi:=by
 refine AQ Tryz.func57 (c:=LX) ?h2 ⟨Tryz.call57⟩ IR (fun a=>EB a.1) IV (fun a=>(by show 1<=25; decide)) ?h3 ?h4
 case h2=>kernel_rfl
 case h3=>intro b; kernel_rfl
 case h4=>exact fun a b h=>PJ a.1 b h
/- slices.IndexFunc[[]trestle/api.Guest,trestle/api.Guest] -/
noncomputable def Bz:Code:=A3 Tryz.f32
def A4 (x0:(List Ai)):Nat->Int->Option ((Unit) ⊕ (Int))
 | 0,_=>none
 | f + 1,c1 =>
  if (decide (c1 < (x0.length:Int)))=true then
  (idx x0 c1).bind fun v3 =>
  (EB v3).bind fun v4 =>
  if v4=true then
  some (.inr c1)
  else
  A4 x0 f (wr .i64 (c1 + 1))
  else
  some (.inl ())
def Ar (x0:(List Ai)):Option (Int) :=
 (A4 x0 100000 0).bind fun r7 =>
 match r7 with
 | (.inl _w8) =>
  some (-1)
 | (.inr w9) =>
  some w9
def B3:Cs ((List Ai)×Unit×Unit):=(csC (cdL 9 AE) (csC (cdF 57 csN (fun _=>rfl)) csN))
def B4 (r:Int):AV:=cdI.enc r
theorem C0 (x0:(List Ai)):∀ (f:Nat) (c1:Int) (r:(Unit) ⊕ (Int)),A4 x0 f c1=some r->SemN E0 ⟨none,false⟩ (pc Bz [1,0,1,0,0]) f ⟨Fr 19 [(0,.sl 9 (x0.map AE.enc)),(1,.fn 57 [] []),(7,.v (.int .i64 (x0.length:Int))),(8,.v (.int .i64 c1))],[]⟩ (fun e s=>match r with
 | (.inl _w)=>e=(.exit 0)/\Wk E0 s ⟨Fr 19 [],[]⟩
 | (.inr w)=>e = .ret/\Wk E0 s ⟨Fr 19 [(4,.v (.int .i64 w))],[]⟩):=by
 intro f;induction f with
 | zero=>intro c1 r h; cases h
 | succ f ih0 =>
  intro c1 r h
  have ih:=fun (c1:Int)=>ih0 c1 r
  unfold A4 at h;refine BR ?_
  let p1:Nat×AV:=(8,.v (.int .i64 c1))
  let p2:Nat×AV:=(7,.v (.int .i64 (x0.length:Int)))
  let p3:Nat×AV:=(1,.fn 57 [] [])
  let p4:Nat×AV:=(0,.sl 9 (x0.map AE.enc))
  refine AK AC [p4,p3,p2,p1,(9,.v (.bool (decide (c1 < (x0.length:Int)))))] [] ?_;refine AG ?_;refine AP (b:=(decide (c1 < (x0.length:Int)))) kr (fun hb2=>?_) (fun hb2=>?_)
  ·rw [if_pos hb2] at h
   refine AT ?_;refine AG ?_;refine AZ ?_
   let p5:Nat×AV:=(5,.v (.int .i64 c1))
   refine AK AC [p4,p3,p5,p2,p1] [] ?_;refine AG ?_;obtain ⟨v3,hv3,h⟩:=OB h;obtain ⟨v4,hv4,h⟩:=OB h;refine AL (s1:=⟨Fr 19 [p4,p3,p5,p2,p1,(16,.v (.bool v4))],[]⟩) ?_ ?_
   ·refine AD (n:=19) AC 3 [p4,p3,p5,p2,p1,(11,.fn 57 [] []),(12,.sl 9 (x0.map AE.enc)),(13,.v (.int .i64 c1))] [] kr ?_
    refine AS AC 0 rfl (DH (AB rfl) rfl (AW (a:= .sl 9 (x0.map AE.enc)) (b:= .v (.int .i64 c1)) kr kr (DK (e:=AE.enc) (el:=42) (k:=9) (ki:= .i64) kr kr hv3))) ?_;refine AD (n:=19) AC 1 [p4,p3,p5,p2,p1,(11,.fn 57 [] []),(15,AE.enc v3)] [] kr ?_;refine AR (caps:=[]) (xs:=[AE.enc v3]) (u:=(v3,())) rfl rfl Qn rfl (AB rfl) kr kr (AM (AU (c:=AE) (v:=v3)) Af) (.inl kr) hv4 ?_;exact AI rfl AJ
   refine AP (b:=v4) kr (fun hb5=>?_) (fun hb5=>?_)
   ·rw [if_pos hb5] at h
    refine AK AC [(4,.v (.int .i64 c1))] [] ?_;refine AN ?_;have hq:=OI h; subst hq;exact ⟨rfl,AJ⟩
   ·rw [BY hb5] at h
    refine AT ?_
    let p6:Nat×AV:=(8,.v (.int .i64 (wr .i64 (c1 + 1))))
    refine Ci AC [p4,p3,p2,p6] [] ?_;exact Ab (s1:=⟨Fr 19 [p4,p3,p2,p6],[]⟩) AJ (ih (wr .i64 (c1 + 1)) h)
  ·rw [BY hb2] at h
   refine Bi ?_;have hq:=OI h; subst hq;exact ⟨rfl,AJ⟩
theorem Es (x0:(List Ai)) (r:Int) (h:Ar x0=some r):Sem E0 ⟨none,false⟩ Bz ⟨Fr 19 (Av 0 (B3.enc (x0,(),()))),[]⟩ fun e s'=>(e = .normal\/e = .ret)/\∃ xs,D6 E0.P s'.fr s'.hp Tryz.f32.results.toList=some xs/\EA xs=B4 r:=by
 unfold Ar at h
 let p1:Nat×AV:=(1,.fn 57 [] [])
 let p2:Nat×AV:=(0,.sl 9 (x0.map AE.enc))
 refine Aj (A8 (s1:=⟨Fr 19 [p2,p1],[]⟩) AJ ?_);refine AK AC [p2,p1] [] ?_;refine AG ?_;refine AG ?_
 let p3:Nat×AV:=(8,.v (.int .i64 0))
 let p4:Nat×AV:=(7,.v (.int .i64 (x0.length:Int)))
 refine AL (s1:=⟨Fr 19 [p2,p1,p4,p3],[]⟩) ?_ ?_
 ·refine AD (n:=19) AC 1 [p2,p1,(6,.sl 9 (x0.map AE.enc))] [] kr ?_
  refine AS AC 0 rfl (DH (AB rfl) rfl (CX (a:= .sl 9 (x0.map AE.enc)) kr (BS (el:=42) kr))) ?_;exact AX AC
 refine AZ ?_;obtain ⟨r7,hr7,h⟩:=OB h;refine Bj (n:=100000) ?_;rcases r7 with w8 | w9
 ·try dsimp only at h
  refine Ao (Ab (s1:=⟨Fr 19 [p2,p1,p4,p3],[]⟩) AJ (C0 x0 _ 0 _ hr7)) ?_;refine AK AC [(4,.v (.int .i64 (-1)))] [] ?_;refine AN ?_;have hq:=OI h; subst hq;exact ⟨⟨Fr 19 [(4,.v (.int .i64 (-1)))],[]⟩,AJ,.inr rfl,[.v (.int .i64 (-1))],kr,kr⟩
 ·try dsimp only at h
  refine Ao (Ab (s1:=⟨Fr 19 [p2,p1,p4,p3],[]⟩) AJ (C0 x0 _ 0 _ hr7)) ?_;have hq:=OI h; subst hq;exact ⟨⟨Fr 19 [(4,.v (.int .i64 w9))],[]⟩,AJ,.inr rfl,[.v (.int .i64 w9)],kr,kr⟩
def FI:List AV->Option AV:=Dk B3 (fun a=>Ar a.1) B4
theorem FL:XOk 32 FI:=by
 refine AQ Tryz.func32 (c:=Bz) ?h2 ⟨Tryz.call32⟩ B3 (fun a=>Ar a.1) B4 (fun a=>(by show 2<=19; decide)) ?h3 ?h4
 case h2=>kernel_rfl
 case h3=>intro b; kernel_rfl
 case h4=>exact fun a b h=>Es a.1 b h
/- slices.ContainsFunc[[]trestle/api.Guest,trestle/api.Guest] -/
noncomputable def Cz:Code:=A3 Tryz.f56
def Ah (x0:(List Ai)):Option (Bool) :=
 (Ar x0).bind fun v1 =>
 some (decide (v1≥0))
def Bn:Cs ((List Ai)×Unit×Unit):=(csC (cdL 9 AE) (csC (cdF 57 csN (fun _=>rfl)) csN))
def Bo (r:Bool):AV:=cdB.enc r
theorem ES (x0:(List Ai)) (r:Bool) (h:Ah x0=some r):Sem E0 ⟨none,false⟩ Cz ⟨Fr 9 (Av 0 (Bn.enc (x0,(),()))),[]⟩ fun e s'=>(e = .normal\/e = .ret)/\∃ xs,D6 E0.P s'.fr s'.hp Tryz.f56.results.toList=some xs/\EA xs=Bo r:=by
 unfold Ah at h
 let p1:Nat×AV:=(0,.sl 9 (x0.map AE.enc))
 refine Aj (A8 (s1:=⟨Fr 9 [p1,(1,.fn 57 [] [])],[]⟩) AJ ?_);refine AK AC [p1,(1,.fn 57 [] [])] [] ?_;refine AG ?_;obtain ⟨v1,hv1,h⟩:=OB h
 let p2:Nat×AV:=(4,.v (.bool (decide (v1≥0))))
 refine AL (s1:=⟨Fr 9 [p2],[]⟩) ?_ ?_
 ·refine AD (n:=9) AC 2 [(5,.sl 9 (x0.map AE.enc)),(6,.fn 57 [] [])] [] kr ?_
  refine AR (caps:=[]) (xs:=[.sl 9 (x0.map AE.enc),.fn 57 [] []]) (u:=(x0,(),())) rfl rfl FL rfl (AB rfl) kr kr (AM (AU (c:=(cdL 9 AE)) (v:=x0)) (AM (Sm.fn Af) Af)) (.inl kr) hv1 ?_;exact AX AC
 refine AN ?_;have hq:=OI h; subst hq;exact ⟨⟨Fr 9 [p2],[]⟩,AJ,.inr rfl,[.v (.bool (decide (v1≥0)))],kr,kr⟩
def Ed:List AV->Option AV:=Dk Bn (fun a=>Ah a.1) Bo
theorem Ee:XOk 56 Ed:=by
 refine AQ Tryz.func56 (c:=Cz) ?h2 ⟨Tryz.call56⟩ Bn (fun a=>Ah a.1) Bo (fun a=>(by show 2<=9; decide)) ?h3 ?h4
 case h2=>kernel_rfl
 case h3=>intro b; kernel_rfl
 case h4=>exact fun a b h=>ES a.1 b h
/- trestle/trestlelaw03.FewGuests -/
noncomputable def Me:Code:=A3 Tryz.f16
def GH (x0:(List Ai)) (x1:Int):Option (Bool) :=
 (if (decide ((x0.length:Int)<=x1))=true then (Ah x0).bind fun v1 =>
 some (!v1) else some false).bind fun j3 =>
 some j3
def JS:Cs ((List Ai)×Int×Unit):=(csC (cdL 9 AE) (csC cdI csN))
def JX (r:Bool):AV:=cdB.enc r
theorem Qb (x0:(List Ai)) (x1:Int) (r:Bool) (h:GH x0 x1=some r):Sem E0 ⟨none,false⟩ Me ⟨Fr 14 (Av 0 (JS.enc (x0,x1,()))),[]⟩ fun e s'=>(e = .normal\/e = .ret)/\∃ xs,D6 E0.P s'.fr s'.hp Tryz.f16.results.toList=some xs/\EA xs=JX r:=by
 unfold GH at h;refine Aj (A8 (s1:=⟨Fr 14 [(0,.sl 9 (x0.map AE.enc)),(1,.v (.int .i64 x1))],[]⟩) AJ ?_);refine AK AC [(0,.sl 9 (x0.map AE.enc)),(1,.v (.int .i64 x1))] [] ?_;refine AG ?_;obtain ⟨j3,hj3,h⟩:=OB h;refine AL (s1:=⟨Fr 14 [(4,.v (.bool j3))],[]⟩) ?_ ?_
 ·refine AD (n:=14) AC 1 [(0,.sl 9 (x0.map AE.enc)),(1,.v (.int .i64 x1)),(5,.sl 9 (x0.map AE.enc))] [] kr ?_
  refine AS AC 0 rfl (DH (AB rfl) rfl (CX (a:= .sl 9 (x0.map AE.enc)) kr (BS (el:=42) kr))) ?_;refine AD (n:=14) AC 3 [(0,.sl 9 (x0.map AE.enc)),(9,.v (.bool (decide ((x0.length:Int)<=x1))))] [] kr ?_;rcases BE (decide ((x0.length:Int)<=x1)) with hc4 | hc4
  ·rw [if_pos hc4] at hj3
   rw [hc4];refine AD (n:=14) AC 1 [(9,.v (.bool true)),(10,.sl 9 (x0.map AE.enc))] [] kr ?_;obtain ⟨v1,hv1,hj3⟩:=OB hj3;refine AR (caps:=[]) (xs:=[.sl 9 (x0.map AE.enc),.fn 57 [] []]) (u:=(x0,(),())) rfl rfl Ee rfl kr kr kr (AM (AU (c:=(cdL 9 AE)) (v:=x0)) (AM (Sm.fn Af) Af)) (.inl kr) hv1 ?_;refine AD (n:=14) AC 3 [(4,.v (.bool (!v1)))] [] kr ?_;have hq:=OI hj3; subst hq;exact AI rfl AJ
  ·rw [BY hc4] at hj3
   rw [hc4];refine AD (n:=14) AC 5 [(4,.v (.bool false))] [] kr ?_;have hq:=OI hj3; subst hq;exact AI rfl AJ
 refine AN ?_;have hq:=OI h; subst hq;exact ⟨⟨Fr 14 [(4,.v (.bool j3))],[]⟩,AJ,.inr rfl,[.v (.bool j3)],kr,kr⟩
def SS:List AV->Option AV:=Dk JS (fun a=>GH a.1 a.2.1) JX
theorem SZ:XOk 16 SS:=by
 refine AQ Tryz.func16 (c:=Me) ?h2 ⟨Tryz.call16⟩ JS (fun a=>GH a.1 a.2.1) JX (fun a=>(by show 2<=14; decide)) ?h3 ?h4
 case h2=>kernel_rfl
 case h3=>intro b; kernel_rfl
 case h4=>exact fun a b h=>Qb a.1 a.2.1 b h
/-- The first n blocks are given up. -/
def ZE:Nat->Hp->Hp
 | 0,h=>h
 | n + 1,h=>(ZE n h).set n none
theorem Yh {w:World}{Z:Nat->Prop}{R:List RI}{h:Hp}(hh:HR w Z R h):∀ n,HR w Z R (ZE n h)
 | 0=>hh
 | n + 1=>((Yh hh n).kill n).1
theorem XA {h:Hp}:∀ {n b:Nat}{B:Blk},(ZE n h)[b]? = some (some B)->n<=b/\h[b]? = some (some B)
 | 0,b,B,e=>⟨Nat.zero_le _,e⟩
 | n + 1,b,B,e=>by
  unfold ZE at e
  rw [List.getElem?_set] at e
  split at e
  ·split at e <;> cases e
  ·next hne =>
   obtain ⟨h1,h2⟩:=XA e
   exact ⟨by omega,h2⟩
def RunDX (E:Env) (ops:Array Oper) (T:Nat) (n0 k:Nat) (rest:List Oper) (s:St) (K:St->Prop):Prop :=
 ∀ (base:Bs) (Q:Act->World->Prop) (w0:World) (Z:Nat->Prop) (R0:List RI) (h0:Hp) (a:Act) (w:World) (R:List RI),HR w0 Z R0 h0->n0=h0.length->SR E base w Z R s a->w0.grownBy w none->Step w0 Z R0 h0 w Z R s.hp->(∀ (b:Nat) (B:Option Blk),h0[b]? = some B->s.hp[b]? = some B)->(∀ j,rest[j]? = ops[k + j]?) ->
  (∀ s' a' w' Z' R',K s'->SR E base w' Z' R' s' a'->StepW w0 Z R0 h0 w' Z' R' s'.hp->Q a' w')->Ka E.P ops (fun w'=>w0.grownBy w' none) (GP ops T) T Q k rest a w
section
variable {E:Env}{cx:Cx}{ops:Array Oper}{pre rest rest':List Oper}{s s1:St}{K:St->Prop}{n n0 k T:Nat}{l:List (Nat×AV)}{hp hp':Hp}{Q:Ex->St->Prop}{id:Nat}{fid:FuncId}
theorem RunDX.done (hr:rest=[]) (kk:K s):RunDX E ops T n0 k rest s K:=by
 subst hr
 exact fun base Q w0 Z R0 h0 a w R _ _ sr hgr st _ _ q=>⟨fun _=>hgr,q s a w Z R kk sr st.w⟩
theorem Pi (hT:T=k) (h:RunS E ops rest s K):RunDX E ops T n0 k rest s K:=by
 subst hT
 intro base Q w0 Z R0 h0 a w R _ _ sr hgr st _ hops q
 exact PM (h base Q a w Z R sr fun s' a' w' Z' R' hK sr' st'=>q s' a' w' Z' R' hK sr' (st.w.trans st')) (Nat.le_refl _) (fun _=>hgr) (fun j hj=>Pm hj) hops
theorem NQ (hE:EnvOk E):∀ {pre:List Oper}{s:St}{k:Nat},(pre.all fun o=>!isW o.op)=true->k + pre.length<=T->opsD E (evC E 0) ⟨none,false⟩ ops n0 pre s=some s1->RunDX E ops T n0 (k + pre.length) rest s1 K->RunDX E ops T n0 k (pre++rest) s K
 | [],s,k,_,_,e,kk=>by injection e with e; subst e; exact kk
 | o::pre,s,k,hp,hT,e,kk=>by
  intro base Q w0 Z R0 h0 a w R hh0 hn0 sr hgr st hpre hops q
  simp only [List.all_cons,Bool.and_eq_true,Bool.not_eq_true'] at hp
  obtain ⟨hW,hp⟩:=hp
  have hok:ops[k]? = some o:=by have:=hops 0; simpa using this.symm
  have hops':∀ j,(pre++rest)[j]? = ops[k + 1 + j]?:=fun j=>by have:=hops (j + 1); simpa [Nat.add_assoc,Nat.add_comm 1 j] using this
  have hk1:k + 1 + pre.length=k + (o::pre).length:=by simp; omega
  have kk':RunDX E ops T n0 (k + 1 + pre.length) rest s1 K:=by rw [hk1]; exact kk
  have hT':k + 1 + pre.length<=T:=by rw [hk1]; exact hT
  have hkT:¬ T<=k:=by omega
  show Ka E.P ops _ _ _ Q k (o::(pre++rest)) a w
  refine ⟨fun _=>hgr,?_⟩
  unfold opsD at e
  rw [if_neg (by rw [hW]; simp)] at e
  split at e
  ·cases e
  ·next hw =>
   rw [if_neg (by rw [wantedA_eq sr hw]; simp)]
   exact NQ hE hp hT' e kk' base Q w0 Z R0 h0 _ w R hh0 hn0 (sr.put undef_vr) hgr st hpre hops' q
  ·next hw =>
   rw [if_pos (wantedA_eq sr hw)]
   have hρ:∀ o x,opA E s.fr o=some x->VR w Z R x (a.eval o):=fun o x e=>opA_vr sr o x e
   split at e
   ·next x hx =>
    split at e
    ·next hld =>
     have hq:=Tr hx
     rw [if_neg (by rw [PL hok hq hkT]; simp)]
     obtain ⟨u,hu,hrun⟩:=evOpQ_sound sr.hh hρ hx
     have hquiet:∃ u,VR w Z R x u/\QuietAt E.P (Cf (fun w'=>w0.grownBy w' none) o) o u a:=by
      cases hl:Vv o.op with
      | false=>exact ⟨u,hu,fun w' _=>hrun w' fun h=>by rw [hl] at h; cases h⟩
      | true =>
       obtain ⟨u1,hu1,hq1⟩:=Lu hh0 sr hgr st hpre hl (by rw [<-hn0]; exact hld) hx
       exact ⟨u1,hu1,hq1.up (QW hl)⟩
     obtain ⟨u,hu,hquiet⟩:=hquiet
     exact ⟨u,hquiet,NQ hE hp hT' e kk' base Q w0 Z R0 h0 _ w R hh0 hn0 (sr.put hu) hgr st hpre hops' q⟩
    ·cases e
   ·split at e
    ·next x h' hx =>
     have hq:=N6 hx
     rw [if_pos (Hc hok hq)]
     obtain ⟨u,w',R',h1,h2,h3,h4,h5⟩:=evOpN_sound hρ sr.hh hx
     exact RA h1 (NQ hE hp hT' e kk' base Q w0 Z R0 h0 _ w' R' hh0 hn0 ((sr.step h2 h4).put h3) (GO hgr h5) (st.trans h4) (fun b B hb=>PG hx (hpre b B hb)) hops' q)
    ·split at e
     ·next f args tys ho =>
      split at e
      ·next fv xs hf hxs =>
       split at e
       ·next r hr =>
        obtain ⟨x,h'⟩:=r
        have hq:isQ o.op=false:=by rw [ho]; rfl
        rw [if_pos (Hc hok hq)]
        obtain ⟨g,uf,uc,hva,hcl,hret⟩:=Ik hE (code_sound hE 0).1 (hρ _ _ hf) (opds_vr hρ hxs) sr.hh sr.gl hr
        unfold Lw
        rw [IG (uf:=uf) (uc:=uc) ho hva rfl hcl w]
        refine Ret.mono hret fun v w' hS=>?_
        obtain ⟨hg1,R',k1,k2,k3⟩:=hS
        exact NQ hE hp hT' e kk' base Q w0 Z R0 h0 _ w' R' hh0 hn0 ((sr.step k1 k3).put k2) (GO hgr hg1) (st.trans k3) (fun b B hb=>O1 hr (hpre b B hb)) hops' q
       ·cases e
      ·cases e
     ·cases e
theorem Ix (hE:EnvOk E) (m:Nat){s:St}(l:List (Nat×AV)) (hp:Hp) (hw:(((rest.take m).all fun o=>!isW o.op)&&Nat.ble (k + (rest.take m).length) T)=true) (h:WF (opsD E (evC E 0) ⟨none,false⟩ ops n0 (rest.take m) s) l=some (n,xs2 l,hp)) (kk:RunDX E ops T n0 (k + (rest.take m).length) (rest.drop m) ⟨Fr n l,hp⟩ K):RunDX E ops T n0 k rest s K:=by
 obtain ⟨fr,h1,h2,h3⟩:=KJ h
 rw [Bool.and_eq_true] at hw
 have:=NQ (k:=k) (T:=T) (pre:=rest.take m) (rest:=rest.drop m) hE hw.1 (Nat.le_of_ble_eq_true hw.2) h1 (fun base Q w0 Z R0 h0 a w R a1 a2 sr a5 a6 a7 a8 q=>kk base Q w0 Z R0 h0 a w R a1 a2 (sr.forget h2 h3) a5 a6 a7 a8 q)
 rwa [List.take_append_drop] at this
theorem RunDX.one (hE:EnvOk E){s s1:St}{o:Oper}(hr:rest=o::rest') (hW:(!isW o.op&&Nat.blt k T)=true) (h:opsD E (evC E 0) ⟨none,false⟩ ops n0 [o] s=some s1) (kk:RunDX E ops T n0 (k + 1) rest' s1 K):RunDX E ops T n0 k rest s K:=by
 subst hr
 rw [Bool.and_eq_true] at hW
 exact NQ (k:=k) hE (pre:=[o]) (by simpa using hW.1) (by have:=Nat.le_of_ble_eq_true hW.2; simpa using this) h kk
/-- An append to a block that was made in this region. -/
theorem RunDX.append (_hE:EnvOk E){o:Oper}{x:AV}{d:Nat}{hM:Hp}(hr:rest=o::rest') (hw:DM ops (Fr n l) o=some true) (hd:o.dst=some d) (hq:isQ o.op=false) (h:Ss E.P (opA E (Fr n l)) hp o.op=some (x,hp')) (hm:Ss E.P (opA E (Fr n l)) (ZE n0 hp) o.op=some (x,hM)) (hpr:hp'.take n0=hp.take n0) (kk:RunDX E ops T n0 (k + 1) rest' ⟨Fr n ((d,x)::l),hp'⟩ K):RunDX E ops T n0 k rest ⟨Fr n l,hp⟩ K:=by
 subst hr
 intro base Q w0 Z R0 h0 a w R hh0 hn0 sr hgr st hpre hops q
 have hok':ops[k]? = some o:=by have:=hops 0; simpa using this.symm
 have hops':∀ j,rest'[j]? = ops[k + 1 + j]?:=fun j=>by have:=hops (j + 1); simpa [Nat.add_assoc,Nat.add_comm 1 j] using this
 refine ⟨fun _=>hgr,?_⟩
 rw [if_pos (wantedA_eq sr hw),if_pos (Hc hok' hq)]
 have hρ:∀ o x,opA E (Fr n l) o=some x->VR w Z R x (a.eval o):=fun o x e=>opA_vr sr o x e
 obtain ⟨u,w',R',h1,h2,h3,h4⟩:=evOpW_sound (o:=o) hρ sr.hh h
 obtain ⟨u2,w2,R2,g1,g2,g3,g4⟩:=evOpW_sound (o:=o) hρ (Yh sr.hh n0) hm
 rw [h1] at g1
 injection g1 with _ e2
 subst e2
 -- the blocks of before stay
 have hown:∀ c,own R (ZE n0 hp) c->w0.heap.size<=c:=fun c ⟨b,B,r,k1,k2,k3,k4⟩=>by
  obtain ⟨hb,k1⟩:=XA k1
  rcases st.own_ c ⟨b,B,r,k1,k2,k3,k4⟩ with ⟨b0,B0,r0,q1,q2,q3,q4⟩ | h
  ·have hlt:b0 < h0.length:=(List.getElem?_eq_some_iff.1 q1).1
   have:=sr.hh.inj b b0 B B0 r r0 k1 k2 (hpre b0 _ q1) q2 k3 (st.r b0 r0 q3) (by rw [k4,q4])
   omega
  ·exact h
 have hgr2:w0.grownBy w' none:=⟨g4.os.trans hgr.os,g4.tape.trans hgr.tape,g4.output.trans hgr.output,Nat.le_trans hgr.size g4.size,fun c hc _=>by
  rw [g4.block c (Nat.lt_of_lt_of_le hc hgr.size) fun ho=>by have:=hown c ho; omega]
  exact hgr.block c hc (by simp)⟩
 refine RA h1 ?_
 have sr':=(sr.step h2 h4).put (d:=o.dst) h3
 rw [hd,show Qp (⟨Fr n l,hp⟩:St).fr (some d) x=Fr n ((d,x)::l) from Fn n l d _] at sr'
 rw [hd]
 exact kk base Q w0 Z R0 h0 _ w' R' hh0 hn0 sr' hgr2 (st.trans h4) (fun b B hb=>by
  have hlt:b < n0:=by rw [hn0]; exact (List.getElem?_eq_some_iff.1 hb).1
  have e:=congrArg (fun l=>l[b]?) hpr
  simp only [List.getElem?_take,hlt,if_true] at e
  show hp'[b]? = _
  rw [e]; exact hpre b B hb) hops' q
end
section
variable {P:Program}{ops:Array Oper}{C:World->Prop}{Q:Act->World->Prop}{loud:Nat->Bool}{T:Nat}
/-- What a quiet operation yields may come ahead of a loud one. -/
theorem Tx {n i j fuel:Nat}{oi oj:Oper}{v:Value}{listed:Array Bool}{a:Act}{w:World}(ht:OJ ops loud T n) (hi:ops[i]? = some oi) (hoj:ops[j]? = some oj) (hsel:∀ (j:Nat) (o:Oper) cs b,ops[j]? = some o->o.op≠ .select cs b) (hcl:Closed ops listed) (hsz:listed.size=ops.size)
  (ap1:∀ d,oi.dst=some d->d ∉ oj.looksAt ops) (ap2:∀ d,oi.dst=some d->oj.dst≠some d) (ap3:∀ d,oj.dst=some d->d ∉ oi.looksAt ops) (hr:i ∈ Region.ready .any ops listed) (hj:j ∈ Region.ready .any ops listed) (hji:j≠i) (hlj:loud j=false) (hya:YieldsM P ops C oj v a)
  (H:mOp P ops C loud i (wpM P ops C loud T Q (fuel + 1) (listed.setIfInBounds i true)) a w):mOp P ops C loud i (wpM P ops C loud T Q fuel ((listed.setIfInBounds j true).setIfInBounds i true)) (a.put oj.dst v) w:=by
 have ap2':∀ d,oj.dst=some d->oi.dst≠some d:=fun d hd hd'=>ap2 d hd' hd
 rw [X9 hi ap3 ap2' (fun cs b=>hsel i oi cs b hi)]
 have hG:∀ u,YieldsM P ops C oj v (a.put oi.dst u):=fun u=>hya.same (execOp_put oj (fun cs b=>hsel j oj cs b hoj) a oi.dst u ap1) (wanted_put oj a oi.dst u ap1)
 have hr2:=ready_mono (md:= .any) (ops:=ops) hj hji
 refine Ja (fun a' w'' h2=>?_) (X8 hi hG H)
 obtain ⟨v',hy',h3⟩:=FE hoj hlj (h2.2.2.2 j hr2)
 rw [P6 (ACd ht (hcl.set hr) (by simpa using hsz) hoj hlj (mem_ready.1 hr2).1 h2.2.c) h2.1 hy',Array.setIfInBounds_comm _ _ hji]
 exact h3
/-- Two loud operations that may come up now: one of them is the first loud one, if every other stands behind the one. -/
theorem AAu {n i i2:Nat}{oi oi2:Oper}(ht:OJ ops loud T n) (hi:ops[i]? = some oi) (hi2:ops[i2]? = some oi2) (hsel:∀ (j:Nat) (o:Oper) cs b,ops[j]? = some o->o.op≠ .select cs b) :
  ∀ (fuel:Nat) (listed:Array Bool) (a:Act) (w:World),(∀ j,j < ops.size->j≠i->j≠i2->loud j=true->listed.getD j true=false->I4 ops n j i=true)->Closed ops listed->listed.size=ops.size->(Wo ops loud T listed->C w) ->
   (∀ j oj,ops[j]? = some oj->j≠i->listed.getD j true=false->(∀ e ∈ oj.after,Region.binds .any e=true->e.on≠i)->oi.apart ops oj=true) ->
   (∀ j oj,ops[j]? = some oj->j≠i2->listed.getD j true=false->(∀ e ∈ oj.after,Region.binds .any e=true->e.on≠i2)->oi2.apart ops oj=true) ->
   i ∈ Region.ready .any ops listed->i2 ∈ Region.ready .any ops listed ->
   mOp P ops C loud i (wpM P ops C loud T Q fuel (listed.setIfInBounds i true)) a w->mOp P ops C loud i2 (wpM P ops C loud T Q fuel (listed.setIfInBounds i2 true)) a w->wpM P ops C loud T Q (fuel + 1) listed a w:=by
 intro fuel
 induction fuel with
 | zero =>
  intro listed a w _ _ _ hC _ _ hr _ H H2
  refine ⟨hC,fun h=>(by rw [h] at hr; cases hr),fun j hj=>?_⟩
  by_cases hji:j=i
  ·subst hji; exact H
  ·obtain ⟨u,w',h1⟩:=MO hi H
   have:=ready_mono hj hji
   rw [h1.2.1] at this
   cases this
 | succ fuel ih =>
  intro listed a w hT hcl hsz hC hfree hfree2 hr hr2 H H2
  refine ⟨hC,fun h=>(by rw [h] at hr; cases hr),fun j hj=>?_⟩
  by_cases hji:j=i
  ·subst hji; exact H
  by_cases hji2:j=i2
  ·subst hji2; exact H2
  obtain ⟨hjun,oj,hoj,hall⟩:=mem_ready.1 hj
  have notl:∀ {x:Nat} {ox:Oper},ops[x]? = some ox->x ∈ Region.ready .any ops listed->¬ listed.getD x false=true:=fun {x ox} hx hxr h1=>by
   have hun:=(mem_ready.1 hxr).1
   have hlt:x < ops.size:=(Array.getElem?_eq_some_iff.1 hx).1
   have h':x < listed.size:=by omega
   simp [h'] at hun h1; rw [hun] at h1; cases h1
  have hnl:=notl hi hr
  have hnl2:=notl hi2 hr2
  have hnot:∀ e ∈ oj.after,Region.binds .any e=true->e.on≠i:=fun e he hb heq=>hnl (by rw [<-heq]; exact hall e he hb)
  have hnot2:∀ e ∈ oj.after,Region.binds .any e=true->e.on≠i2:=fun e he hb heq=>hnl2 (by rw [<-heq]; exact hall e he hb)
  have hjlt:j < ops.size:=(Array.getElem?_eq_some_iff.1 hoj).1
  have hlj:loud j=false:=by
   cases hlj:loud j with
   | false=>rfl
   | true =>
    exact absurd (MU hcl n j i (hT j hjlt hji hji2 hlj hjun) fun o ho e he hb=>by rw [hoj] at ho; injection ho with ho; subst ho; exact hall e he hb) hnl
  obtain ⟨ap1,ap2,ap3⟩:=Oper.apart_spec (hfree j oj hoj hji hjun hnot)
  obtain ⟨bp1,bp2,bp3⟩:=Oper.apart_spec (hfree2 j oj hoj hji2 hjun hnot2)
  have hun':∀ k,(listed.setIfInBounds j true).getD k true=false->listed.getD k true=false:=fun k hun=>by
   by_cases hjk:j=k
   ·subst hjk; exact hjun
   ·rw [getD_set_ne true hjk] at hun; exact hun
  have hCw:Wo ops loud T (listed.setIfInBounds j true)->C w:=fun hn=>hC fun k hTk hk hlk=>hun' k (hn k hTk hk hlk)
  obtain ⟨u,w',h1⟩:=MO hi H
  obtain ⟨v,hy,_⟩:=FE hoj hlj (h1.2.2 j (ready_mono hj hji))
  have hya:YieldsM P ops C oj v a:=hy.same (execOp_put oj (fun cs b=>hsel j oj cs b hoj) _ oi.dst u ap1).symm (wanted_put oj _ oi.dst u ap1).symm
  refine hya.mOp hoj hlj ?_
  exact ih (listed.setIfInBounds j true) (a.put oj.dst v) w (fun k hk h1 h2 h3 h4=>hT k hk h1 h2 h3 (hun' k h4)) (hcl.set hj) (by simpa using hsz) hCw (fun k ok hk h1 h2 h3=>hfree k ok hk h1 (hun' k h2) h3) (fun k ok hk h1 h2 h3=>hfree2 k ok hk h1 (hun' k h2) h3) (ready_mono hr (Ne.symm hji)) (ready_mono hr2 (Ne.symm hji2))
   (Tx ht hi hoj hsel hcl hsz ap1 ap2 ap3 hr hj hji hlj hya H) (Tx ht hi2 hoj hsel hcl hsz bp1 bp2 bp3 hr2 hj hji2 hlj hya H2)
/-- As wpM_lex, from an operation on behind which the loud ones stand in one order. -/
theorem TW (hs:Region.noSelect ops=true){n k0:Nat}(hsp:∀ k j,k0<=k->k < ops.size->j < ops.size->loud k=true->loud j=true->k < j->I4 ops n j k=true) (htl:OJ ops loud T n) (hTl:T < ops.size->loud T=true):∀ (l:List Oper) (k:Nat) (listed:Array Bool) (a:Act) (w:World),k0<=k->k + l.length=ops.size->(∀ j,l[j]? = ops[k + j]?) ->
  Region.lexFrom .any ops l.length k listed=true->Closed ops listed->listed.size=ops.size->(∀ j,j < k->listed.getD j true=true)->Ka P ops C loud T Q k l a w->wpM P ops C loud T Q l.length listed a w
 | [],k,listed,a,w,_,hkl,_,hB,_,_,hlt,h=>by
  refine ⟨fun hn=>h.1 ?_,by simpa [Region.lexFrom] using hB,h.2⟩
  rcases Nat.lt_or_ge T k with h1 | h1
  ·exfalso
   have hTs:T < ops.size:=by simp at hkl; omega
   have h2:=hn T (Nat.le_refl _) hTs (hTl hTs)
   rw [hlt T h1] at h2
   cases h2
  ·exact h1
 | o::l,k,listed,a,w,hk0,hkl,hl,hB,hcl,hsz,hlt,h=>by
  have h0:ops[k]? = some o:=by simpa using (hl 0).symm
  have hk:k < ops.size:=(Array.getElem?_eq_some_iff.1 h0).1
  simp only [List.length_cons,Region.lexFrom,Bool.and_eq_true] at hB
  obtain ⟨⟨hr,hf⟩,hB'⟩:=hB
  have hr':k ∈ Region.ready .any ops listed:=by simpa using hr
  have rec_:∀ a w,Ka P ops C loud T Q (k + 1) l a w->wpM P ops C loud T Q l.length (listed.setIfInBounds k true) a w:=fun a w hh =>
   TW hs hsp htl hTl l (k + 1) _ a w (by omega) (by simp at hkl; omega) (fun j=>by have:=hl (j + 1); simpa [Nat.add_assoc,Nat.add_comm 1 j] using this) hB' (hcl.set hr') (by simpa using hsz) (fun j hj=>by
    by_cases hjk:k=j
    ·subst hjk
     have hlt':k < listed.size:=by omega
     simp [hlt']
    ·rw [getD_set_ne true hjk]; exact hlt j (by omega)) hh
  obtain ⟨hC,hh⟩:=h
  have hle:Wo ops loud T listed->k<=T:=fun hn=>by
   rcases Nat.lt_or_ge T k with h1 | h1
   ·exfalso
    have h2:=hn T (Nat.le_refl _) (by omega) (hTl (by omega))
    rw [hlt T h1] at h2
    cases h2
   ·exact h1
  have hst:mOp P ops C loud k (Ka P ops C loud T Q (k + 1) l) a w:=by
   unfold mOp
   rw [h0]
   exact hh
  cases hlk:loud k with
  | false =>
   obtain ⟨v,hy,hK⟩:=FE h0 hlk hst
   exact Ng h0 hlk (Region.noSelect_spec hs) l.length listed a w (fun hn=>hC (hle hn)) hcl hsz (Region.free_spec h0 hf) hr' hy (rec_ _ _ hK)
  | true =>
   refine RP (n:=n) htl h0 (Region.noSelect_spec hs) l.length listed a w (fun j hj hjk hlj hun=>?_) hcl hsz (fun hn=>hC (hle hn)) (Region.free_spec h0 hf) hr' (Ja rec_ hst)
   ·have hkj:k < j:=by
     rcases Nat.lt_trichotomy k j with h1 | h1 | h1
     ·exact h1
     ·exact absurd h1.symm hjk
     ·rw [hlt j h1] at hun; cases hun
    exact hsp k j hk0 hk hj hlk hlj hkj
/-- The walk, of which p and the operation behind it are taken in both orders. -/
def AFF (P:Program) (ops:Array Oper) (C:World->Prop) (loud:Nat->Bool) (T:Nat) (Q:Act->World->Prop) (p:Nat) (rest:List Oper) (a:Act) (w:World):Prop :=
 C w/\mOp P ops C loud p (fun a w=>C w/\mOp P ops C loud (p + 1) (Ka P ops C loud T Q (p + 2) rest) a w) a w/\mOp P ops C loud (p + 1) (fun a w=>C w/\mOp P ops C loud p (Ka P ops C loud T Q (p + 2) rest) a w) a w
def RQ (P:Program) (ops:Array Oper) (C:World->Prop) (loud:Nat->Bool) (T:Nat) (Q:Act->World->Prop) (p:Nat):Nat->List Oper->Act->World->Prop
 | _,[],_,_=>False
 | k,_::rest,a,w=>if k=p then AFF P ops C loud T Q p (rest.drop 1) a w else (k<=T->C w)/\mOp P ops C loud k (RQ P ops C loud T Q p (k + 1) rest) a w
/-- One of two operations is this pair. -/
def ABh (ops:Array Oper) (loud:Nat->Bool) (T p:Nat):Bool :=
 ((List.range ops.size).all fun k=>!loud k||(List.range ops.size).all fun j=>!(decide (k < j)&&loud j)||(k==p&&j==p + 1)||I4 ops ops.size j k) &&
 ((List.range ops.size).all fun j=>!decide (T<=j)||(if loud j then (List.range ops.size).all fun i=>loud i||IK ops i||I4 ops ops.size j i else IK ops j&&decide (j≠T))) &&
 (decide (p + 2<=T)&&loud p&&loud (p + 1)&&match ops[p]?,ops[p + 1]? with
  | some o,some o2=>o2.apart ops o&&o2.after.all fun e=>!Region.binds .any e||e.on != p
  | _,_=>false)
structure AB7 (ops:Array Oper) (loud:Nat->Bool) (T p:Nat):Prop where
 sp:∀ k j,k < ops.size->j < ops.size->loud k=true->loud j=true->k < j->(k=p/\j=p + 1)\/I4 ops ops.size j k=true
 tl:OJ ops loud T ops.size
 tT:T < ops.size->loud T=true
 le:p + 2<=T
 l1:loud p=true
 l2:loud (p + 1)=true
 ap:∀ o o2,ops[p]? = some o->ops[p + 1]? = some o2->o2.apart ops o=true/\∀ e ∈ o2.after,Region.binds .any e=true->e.on≠p
theorem ZI {p:Nat}(h:ABh ops loud T p=true):AB7 ops loud T p:=by
 unfold ABh at h
 simp only [Bool.and_eq_true] at h
 obtain ⟨⟨h1,h2⟩,⟨⟨h3,h4⟩,h5⟩,h6⟩:=h
 have htl:∀ j,T<=j->j < ops.size->(if loud j=true then (List.range ops.size).all (fun i=>loud i||IK ops i||I4 ops ops.size j i)=true else (IK ops j&&decide (j≠T))=true):=fun j hTj hj=>by
  have:=List.all_eq_true.1 h2 j (by simpa using hj)
  simp only [hTj,decide_true,Bool.not_true,Bool.false_or] at this
  split
  ·next hl=>rw [if_pos hl] at this; exact this
  ·next hl=>rw [if_neg hl] at this; exact this
 refine ⟨fun k j hk hj hlk hlj hkj=>?_,fun j hTj hj hlj i hi hli hfr=>?_,fun hT=>?_,of_decide_eq_true h3,h4,h5,fun o o2 ho ho2=>?_⟩
 ·have a1:=List.all_eq_true.1 h1 k (by simpa using hk)
  simp only [hlk,Bool.not_true,Bool.false_or] at a1
  have a2:=List.all_eq_true.1 a1 j (by simpa using hj)
  simp only [hkj,hlj,decide_true,Bool.and_self,Bool.not_true,Bool.false_or,Bool.or_eq_true,Bool.and_eq_true,beq_iff_eq] at a2
  exact a2
 ·have a1:=htl j hTj hj
  rw [if_pos hlj] at a1
  have a2:=List.all_eq_true.1 a1 i (by simpa using hi)
  simpa [hli,hfr] using a2
 ·cases hl:loud T with
  | true=>rfl
  | false =>
   have a1:=htl T (Nat.le_refl _) hT
   rw [if_neg (by rw [hl]; simp)] at a1
   simp at a1
 ·rw [ho,ho2] at h6
  simp only [Bool.and_eq_true,Array.all_eq_true_iff_forall_mem] at h6
  refine ⟨h6.1,fun e he hb=>?_⟩
  have:=h6.2 e he
  simpa [hb] using this
theorem Y1 (hs : Region.noSelect ops = true) {p : Nat} (hp : AB7 ops loud T p) : ∀ (l : List Oper) (k : Nat) (listed : Array Bool) (a : Act) (w : World), k ≤ p → k + l.length = ops.size → (∀ j, l[j]? = ops[k + j]?) →
    Region.lexFrom .any ops l.length k listed = true → Closed ops listed → listed.size = ops.size → (∀ j, j < k → listed.getD j true = true) → RQ P ops C loud T Q p k l a w → wpM P ops C loud T Q l.length listed a w
  | [], _, _, _, _, _, _, _, _, _, _, _, h => h.elim
  | o :: l, k, listed, a, w, hkp, hkl, hl, hB, hcl, hsz, hlt, h => by
    have h0 : ops[k]? = some o := by simpa using (hl 0).symm
    have hk : k < ops.size := (Array.getElem?_eq_some_iff.1 h0).1
    simp only [List.length_cons, Region.lexFrom, Bool.and_eq_true] at hB
    obtain ⟨⟨hr, hf⟩, hB'⟩ := hB
    have hr' : k ∈ Region.ready .any ops listed := by simpa using hr
    have hsz' : (listed.setIfInBounds k true).size = ops.size := by simpa using hsz
    have hlt2 : ∀ {q : Nat} {ls : Array Bool}, q < ls.size → (∀ j, j < q → ls.getD j true = true) → ∀ j, j < q + 1 → (ls.setIfInBounds q true).getD j true = true := fun {q ls} hq hh j hj => by
      by_cases hjk : q = j
      · subst hjk; simp [hq]
      · rw [getD_set_ne true hjk]; exact hh j (by omega)
    have hlt' := hlt2 (ls := listed) (by omega) hlt
    have hnext : ∀ j, l[j]? = ops[k + 1 + j]? := fun j => by have := hl (j + 1); simpa [Nat.add_assoc, Nat.add_comm 1 j] using this
    unfold RQ at h
    by_cases hkpe : k = p
    · subst hkpe
      rw [if_pos rfl] at h
      obtain ⟨hC, hA, hB2⟩ := h
      -- the second operation
      match l, hkl, hnext, hB' with
      | [], hkl, _, _ => have := hp.le; have h1 : ops.size ≤ k + 1 := by simp at hkl; omega
                         exact absurd hp.l2 (by
                           have hTl := hp.tT
                           intro hl2
                           rcases MO h0 hA with ⟨u, w', _, h3⟩
                           unfold mOp at h3
                           rw [Array.getElem?_eq_none (by omega)] at h3
                           exact h3)
      | o2 :: l2, hkl, hnext, hB' =>
        have h02 : ops[k + 1]? = some o2 := by simpa using (hnext 0).symm
        have hk2 : k + 1 < ops.size := (Array.getElem?_eq_some_iff.1 h02).1
        simp only [List.length_cons, Region.lexFrom, Bool.and_eq_true] at hB'
        obtain ⟨⟨hr2, hf2⟩, hB2'⟩ := hB'
        have hr2' : k + 1 ∈ Region.ready .any ops (listed.setIfInBounds k true) := by simpa using hr2
        obtain ⟨hap, hno⟩ := hp.ap o o2 h0 h02
        have hne : k ≠ k + 1 := by omega
        -- ready already ahead of the first
        have hr20 : k + 1 ∈ Region.ready .any ops listed := by
          obtain ⟨q1, oq, q2, q3⟩ := mem_ready.1 hr2'
          rw [h02] at q2
          injection q2 with q2
          subst q2
          refine mem_ready.2 ⟨by rw [getD_set_ne true hne] at q1; exact q1, o2, h02, fun e he hb => ?_⟩
          have := q3 e he hb
          rwa [getD_set_ne false (Ne.symm (hno e he hb))] at this
        have hfr1 := Region.free_spec h0 hf
        have hfr2 : ∀ j oj, ops[j]? = some oj → j ≠ k + 1 → listed.getD j true = false → (∀ e ∈ oj.after, Region.binds .any e = true → e.on ≠ k + 1) → o2.apart ops oj = true := fun j oj hj h1 h2 h3 => by
          by_cases hjk : j = k
          · subst hjk
            rw [h0] at hj
            injection hj with hj
            subst hj
            exact hap
          · exact Region.free_spec h02 hf2 j oj hj h1 (by rw [getD_set_ne true (Ne.symm hjk)]; exact h2) h3
        have hge : ∀ j, listed.getD j true = false → j ≠ k → j ≠ k + 1 → k + 1 < j := fun j hun h1 h2 => by
          rcases Nat.lt_or_ge j k with h | h
          · rw [hlt j h] at hun; cases hun
          · omega
        have hwait : ∀ j, j < ops.size → j ≠ k → j ≠ k + 1 → loud j = true → listed.getD j true = false → I4 ops ops.size j k = true ∧ I4 ops ops.size j (k + 1) = true := fun j hj h1 h2 h3 h4 => by
          have := hge j h4 h1 h2
          refine ⟨(hp.sp k j hk hj hp.l1 h3 (by omega)).resolve_left fun h => by omega, (hp.sp (k + 1) j hk2 hj hp.l2 h3 this).resolve_left fun h => by omega⟩
        have tail : ∀ a w, Ka P ops C loud T Q (k + 2) l2 a w → wpM P ops C loud T Q l2.length ((listed.setIfInBounds k true).setIfInBounds (k + 1) true) a w := fun a w hh =>
          TW hs (n := ops.size) (k0 := k + 2) (fun x j h1 h2 h3 h4 h5 h6 => (hp.sp x j h2 h3 h4 h5 h6).resolve_left fun h => by omega) hp.tl hp.tT l2 (k + 2) _ a w (Nat.le_refl _) (by simp at hkl; omega) (fun j => by rw [show k + 2 + j = k + 1 + (j + 1) by omega]; simpa using hnext (j + 1)) hB2' ((hcl.set hr').set hr2') (by simpa using hsz) (hlt2 (ls := listed.setIfInBounds k true) (by omega) hlt') hh
        refine AAu (n := ops.size) hp.tl h0 h02 (Region.noSelect_spec hs) (l2.length + 1) listed a w (fun j hj h1 h2 h3 h4 => (hwait j hj h1 h2 h3 h4).1) hcl hsz (fun _ => hC) hfr1 hfr2 hr' hr20 (Ja (fun a' w' hh => ?_) hA) (Ja (fun a' w' hh => ?_) hB2)
        · have hun' : ∀ j, (listed.setIfInBounds k true).getD j true = false → listed.getD j true = false ∧ j ≠ k := fun j hun => by
            by_cases hjk : k = j
            · subst hjk
              have : k < listed.size := by omega
              simp [this] at hun
            · rw [getD_set_ne true hjk] at hun; exact ⟨hun, Ne.symm hjk⟩
          exact RP (n := ops.size) hp.tl h02 (Region.noSelect_spec hs) l2.length (listed.setIfInBounds k true) a' w' (fun j hj h1 h2 h3 => (hwait j hj (hun' j h3).2 h1 h2 (hun' j h3).1).2) (hcl.set hr') hsz' (fun _ => hh.1) (Region.free_spec h02 hf2) hr2' (Ja tail hh.2)
        · have hun' : ∀ j, (listed.setIfInBounds (k + 1) true).getD j true = false → listed.getD j true = false ∧ j ≠ k + 1 := fun j hun => by
            by_cases hjk : k + 1 = j
            · subst hjk
              have : k + 1 < listed.size := by omega
              simp [this] at hun
            · rw [getD_set_ne true hjk] at hun; exact ⟨hun, Ne.symm hjk⟩
          refine RP (n := ops.size) hp.tl h0 (Region.noSelect_spec hs) l2.length (listed.setIfInBounds (k + 1) true) a' w' (fun j hj h1 h2 h3 => (hwait j hj h1 (hun' j h3).2 h2 (hun' j h3).1).1) (hcl.set hr20) (by simpa using hsz) (fun _ => hh.1) (fun j oj hj h1 h2 h3 => hfr1 j oj hj h1 (hun' j h2).1 h3) (ready_mono hr' hne) (Ja (fun a2 w2 h2 => ?_) hh.2)
          have := tail a2 w2 h2
          rwa [Array.setIfInBounds_comm _ _ hne] at this
    · rw [if_neg hkpe] at h
      obtain ⟨hC, hst⟩ := h
      have hkp' : k < p := by omega
      have rec_ : ∀ a w, RQ P ops C loud T Q p (k + 1) l a w → wpM P ops C loud T Q l.length (listed.setIfInBounds k true) a w := fun a w hh =>
        Y1 hs hp l (k + 1) _ a w (by omega) (by simp at hkl; omega) hnext hB' (hcl.set hr') hsz' hlt' hh
      have hle : Wo ops loud T listed → k ≤ T := fun _ => by have := hp.le; omega
      cases hlk : loud k with
      | false =>
        obtain ⟨v, hy, hK⟩ := FE h0 hlk hst
        exact Ng h0 hlk (Region.noSelect_spec hs) l.length listed a w (fun hn => hC (hle hn)) hcl hsz (Region.free_spec h0 hf) hr' hy (rec_ _ _ hK)
      | true =>
        refine RP (n := ops.size) hp.tl h0 (Region.noSelect_spec hs) l.length listed a w (fun j hj hjk hlj hun => ?_) hcl hsz (fun hn => hC (hle hn)) (Region.free_spec h0 hf) hr' (Ja rec_ hst)
        have hkj : k < j := by
          rcases Nat.lt_trichotomy k j with h1 | h1 | h1
          · exact h1
          · exact absurd h1.symm hjk
          · rw [hlt j h1] at hun; cases hun
        exact (hp.sp k j hk hj hlk hlj hkj).resolve_left fun h => hkpe h.1
theorem VI {id p:Nat}{Q':Exit->Act->World->Prop}{a:Act}{w:World}{l:List Oper}(ro:Option Nat) (m:Nat) (hm:P.follows .mixedOrders=true) (hB:Region.lexB .any l.toArray=true) (hb:ABh l.toArray loud T p=true)
  (h:RQ P l.toArray C loud T (fun a w=>Q' .normal a w) p 0 l a w.drew):(Code.region id l.toArray true).wpIn (Fw ro) m P Q' a w:=by
 simp only [Region.lexB,Bool.and_eq_true] at hB
 have hp:=ZI hb
 have hcl:Closed l.toArray (Array.replicate l.toArray.size false):=fun k o hk hlis=>by
  rw [getD_replicate_false] at hlis; cases hlis
 refine wpIn_region_any hm (Pa (C:=C) (loud:=loud) (T:=T) (n:=l.toArray.size) (Q:=fun a w=>Q' .normal a w) ro m hp.tl (fun _ _ h=>h) _ _ _ _ hcl (by simp) ?_)
 have:=Y1 (P:=P) (C:=C) (loud:=loud) (T:=T) (Q:=fun a w=>Q' .normal a w) (ops:=l.toArray) hB.1 hp l 0 (Array.replicate l.toArray.size false) a w.drew (Nat.zero_le _) (by simp) (by simp) (by simpa using hB.2) hcl (by simp) (fun j hj=>by omega) h
 simpa using this
end
/-- One operation of such a region, whatever stands behind it. -/
def Op1 (E:Env) (ops:Array Oper) (T n0 k:Nat) (o:Oper) (s:St) (Ks:St->Prop):Prop :=
 ∀ (base:Bs) (K:Act->World->Prop) (w0:World) (Z:Nat->Prop) (R0:List RI) (h0:Hp) (a:Act) (w:World) (R:List RI),HR w0 Z R0 h0->n0=h0.length->SR E base w Z R s a->w0.grownBy w none->Step w0 Z R0 h0 w Z R s.hp->(∀ (b:Nat) (B:Option Blk),h0[b]? = some B->s.hp[b]? = some B)->ops[k]? = some o ->
  (∀ s' a' w' R',Ks s'->SR E base w' Z R' s' a'->w0.grownBy w' none->Step w0 Z R0 h0 w' Z R' s'.hp->(∀ (b:Nat) (B:Option Blk),h0[b]? = some B->s'.hp[b]? = some B)->K a' w')->mOp E.P ops (fun w'=>w0.grownBy w' none) (GP ops T) k K a w
def RunDP (E:Env) (ops:Array Oper) (T p n0 k:Nat) (rest:List Oper) (s:St) (K:St->Prop):Prop :=
 ∀ (base:Bs) (Q:Act->World->Prop) (w0:World) (Z:Nat->Prop) (R0:List RI) (h0:Hp) (a:Act) (w:World) (R:List RI),HR w0 Z R0 h0->n0=h0.length->SR E base w Z R s a->w0.grownBy w none->Step w0 Z R0 h0 w Z R s.hp->(∀ (b:Nat) (B:Option Blk),h0[b]? = some B->s.hp[b]? = some B)->(∀ j,rest[j]? = ops[k + j]?) ->
  (∀ s' a' w' Z' R',K s'->SR E base w' Z' R' s' a'->StepW w0 Z R0 h0 w' Z' R' s'.hp->Q a' w')->RQ E.P ops (fun w'=>w0.grownBy w' none) (GP ops T) T Q p k rest a w
section
variable {E:Env}{cx:Cx}{ops:Array Oper}{pre rest rest':List Oper}{s s1:St}{K Ks:St->Prop}{n n0 k T p:Nat}{l:List (Nat×AV)}{hp hp':Hp}{Q:Ex->St->Prop}{id:Nat}{fid:FuncId}{o:Oper}
theorem Za (hE:EnvOk E) (T p:Nat) (hB:Region.lexB .any ops=true) (hb:ABh ops (GP ops T) T p=true) (h:RunDP E ops T p s.hp.length 0 ops.toList s fun s'=>Wk E s' s1) (q:Q .normal s1):Sem E cx (.region id ops true) s Q:=by
 intro ro base Qm a w Z R _ sr _ kk
 have hgd:w.grownBy w.drew none:=Vp w
 have hops:ops.toList.toArray=ops:=by simp
 have st0:Step w Z R s.hp w.drew Z R s.hp:=⟨rfl,rfl,rfl,Nat.le_refl _,fun c hc _=>rfl,fun _ h=> .inl h,fun _ h=>h,fun _ h=> .inl h,fun _ _ h=>h⟩
 have hsrd:SR E base w.drew Z R s a:=⟨sr.hh.keep (Nat.le_refl _) (fun c hc=>hgd.block c hc (by simp)),sr.fr.off (fun c hc=>rfl),sr.mks.step st0,sr.gl.off (fun c hc=>rfl),sr.bs⟩
 have hm:=h base (fun a w=>Qm .normal a w) w.drew Z R s.hp a w.drew R hsrd.hh rfl hsrd (R8 _) (Step.refl _ _ _ _) (fun b B hb=>hb) (fun j=>by simp) (fun s' a' w' Z' R' hw sr' st=>by
  obtain ⟨Z2,R2,sr2,st2⟩:=hw base w' Z' R' a' sr'
  exact kk .normal s1 a' w' Z2 R2 q sr2 ((st0.w.trans st).trans st2))
 have:=VI (P:=E.P) (id:=id) (l:=ops.toList) (a:=a) (w:=w) (C:=fun w'=>w.drew.grownBy w' none) (loud:=GP ops T) (T:=T) (p:=p) (Q':=Qm) ro 0 hE.mixed (by rw [hops]; exact hB) (by rw [hops]; exact hb) (by rw [hops]; exact hm)
 rw [hops] at this
 exact this
theorem AAO (hW:isW o.op=false) (e:opsD E (evC E 0) ⟨none,false⟩ ops n0 (o::pre) s=some s1):∃ s2,opsD E (evC E 0) ⟨none,false⟩ ops n0 [o] s=some s2/\opsD E (evC E 0) ⟨none,false⟩ ops n0 pre s2=some s1:=by
 have hW':¬ isW o.op=true:=by rw [hW]; simp
 unfold opsD at e
 rw [if_neg hW'] at e
 split at e
 ·cases e
 ·next hw=>exact ⟨_,by unfold opsD; rw [if_neg hW']; simp only [hw]; rfl,e⟩
 ·next hw =>
  split at e
  ·next x hx =>
   split at e
   ·next hld=>exact ⟨_,by unfold opsD; rw [if_neg hW']; simp only [hw,hx,hld,if_true]; rfl,e⟩
   ·cases e
  ·next hx =>
   split at e
   ·next x h' hn=>exact ⟨_,by unfold opsD; rw [if_neg hW']; simp only [hw,hx,hn]; rfl,e⟩
   ·next hn =>
    split at e
    ·next f args tys ho =>
     split at e
     ·next fv xs hf hxs =>
      split at e
      ·next r hr=>exact ⟨_,by unfold opsD; rw [if_neg hW']; simp only [hw,ho,hf,hxs,hr]; rfl,e⟩
      ·cases e
     ·cases e
    ·cases e
theorem Op1.d (hE:EnvOk E) (hW:isW o.op=false) (hk:k < T) (e:opsD E (evC E 0) ⟨none,false⟩ ops n0 [o] s=some s1) (kk:Ks s1):Op1 E ops T n0 k o s Ks:=by
 intro base K w0 Z R0 h0 a w R hh0 hn0 sr hgr st hpre hok q
 have hkT:¬ T<=k:=by omega
 unfold mOp
 rw [hok]
 dsimp only
 unfold opsD at e
 rw [if_neg (by rw [hW]; simp)] at e
 split at e
 ·cases e
 ·next hw =>
  rw [if_neg (by rw [wantedA_eq sr hw]; simp)]
  injection e with e
  subst e
  exact q _ _ w R kk (sr.put undef_vr) hgr st hpre
 ·next hw =>
  rw [if_pos (wantedA_eq sr hw)]
  have hρ:∀ o x,opA E s.fr o=some x->VR w Z R x (a.eval o):=fun o x e=>opA_vr sr o x e
  split at e
  ·next x hx =>
   split at e
   ·next hld =>
    injection e with e
    subst e
    have hq:=Tr hx
    rw [if_neg (by rw [PL hok hq hkT]; simp)]
    obtain ⟨u,hu,hrun⟩:=evOpQ_sound sr.hh hρ hx
    have hquiet:∃ u,VR w Z R x u/\QuietAt E.P (Cf (fun w'=>w0.grownBy w' none) o) o u a:=by
     cases hl:Vv o.op with
     | false=>exact ⟨u,hu,fun w' _=>hrun w' fun h=>by rw [hl] at h; cases h⟩
     | true =>
      obtain ⟨u1,hu1,hq1⟩:=Lu hh0 sr hgr st hpre hl (by rw [<-hn0]; exact hld) hx
      exact ⟨u1,hu1,hq1.up (QW hl)⟩
    obtain ⟨u,hu,hquiet⟩:=hquiet
    exact ⟨u,hquiet,q _ _ w R kk (sr.put hu) hgr st hpre⟩
   ·cases e
  ·split at e
   ·next x h' hx =>
    injection e with e
    subst e
    have hq:=N6 hx
    rw [if_pos (Hc hok hq)]
    obtain ⟨u,w',R',h1,h2,h3,h4,h5⟩:=evOpN_sound hρ sr.hh hx
    exact RA h1 (q _ _ w' R' kk ((sr.step h2 h4).put h3) (GO hgr h5) (st.trans h4) fun b B hb=>PG hx (hpre b B hb))
   ·split at e
    ·next f args tys ho =>
     split at e
     ·next fv xs hf hxs =>
      split at e
      ·next r hr =>
       injection e with e
       subst e
       obtain ⟨x,h'⟩:=r
       have hq:isQ o.op=false:=by rw [ho]; rfl
       rw [if_pos (Hc hok hq)]
       obtain ⟨g,uf,uc,hva,hcl,hret⟩:=Ik hE (code_sound hE 0).1 (hρ _ _ hf) (opds_vr hρ hxs) sr.hh sr.gl hr
       unfold Lw
       rw [IG (uf:=uf) (uc:=uc) ho hva rfl hcl w]
       refine Ret.mono hret fun v w' hS=>?_
       obtain ⟨hg1,R',k1,k2,k3⟩:=hS
       exact q _ _ w' R' kk ((sr.step k1 k3).put k2) (GO hgr hg1) (st.trans k3) fun b B hb=>O1 hr (hpre b B hb)
      ·cases e
     ·cases e
    ·cases e
theorem Xi (hE:EnvOk E){s:St}(l:List (Nat×AV)) (hp:Hp) (hW:(!isW o.op&&Nat.blt k T)=true) (h:WF (opsD E (evC E 0) ⟨none,false⟩ ops n0 [o] s) l=some (n,xs2 l,hp)) (kk:Ks ⟨Fr n l,hp⟩):Op1 E ops T n0 k o s Ks:=by
 obtain ⟨fr,h1,h2,h3⟩:=KJ h
 simp only [Bool.and_eq_true,Bool.not_eq_true'] at hW
 intro base K w0 Z R0 h0 a w R hh0 hn0 sr hgr st hpre hok q
 exact Op1.d (Ks:=fun s=>s=⟨fr,hp⟩) hE hW.1 (Nat.le_of_ble_eq_true hW.2) h1 rfl base K w0 Z R0 h0 a w R hh0 hn0 sr hgr st hpre hok fun s' a' w' R' hs sr' hg' st' hp'=>by
  subst hs
  exact q _ a' w' R' kk (sr'.forget h2 h3) hg' st' hp'
theorem Op1.one (hE:EnvOk E) (hW:(!isW o.op&&Nat.blt k T)=true) (h:opsD E (evC E 0) ⟨none,false⟩ ops n0 [o] s=some s1) (kk:Ks s1):Op1 E ops T n0 k o s Ks:=by
 simp only [Bool.and_eq_true,Bool.not_eq_true'] at hW
 exact Op1.d hE hW.1 (Nat.le_of_ble_eq_true hW.2) h kk
theorem Wp (hP:E.P=E0.P) (hG:E.G=E0.G){xs ys:List AV}{Out:AV->Hp->Prop}{d:Nat}{f:Operand}{args:Array Operand}{tys:Array TypeId}{ty:TypeId}{pos:String}{af:Array Edge}{g:Option (Nat×Bool)}(hs:SOk fid ys Out) (hr:o=⟨some d,.call ⟨.value f,args,tys⟩,ty,pos,af,g⟩) (hw:DM ops (Fr n l) ⟨some d,.call ⟨.value f,args,tys⟩,ty,pos,af,g⟩=some true)
  (hf:opA E (Fr n l) f=some (.fn fid [] [])) (ha:MV (opA E (Fr n l)) args.toList=some xs) (hv:XY hp xs=some ys) (hfl:∀ x h',Out x h'->T0 x=true/\Vu h'=true) (kk:∀ x h',Out x h'->Ks ⟨Fr n ((d,shN hp.length x)::l),hp++h'⟩):Op1 E ops T n0 k o ⟨Fr n l,hp⟩ Ks:=by
 subst hr
 intro base K w0 Z R0 h0 a w R hh0 hn0 sr hgr st hpre hko q
 have hq:isQ (.call ⟨.value f,args,tys⟩:Op)=false:=rfl
 unfold mOp
 rw [hko]
 dsimp only
 rw [if_pos (wantedA_eq sr hw),if_pos (Hc hko hq)]
 have hρ:∀ o x,opA E (Fr n l) o=some x->VR w Z R x (a.eval o):=fun o x e=>opA_vr sr o x e
 have hva:a.eval f = .func (.func fid) ([]:List Value).toArray ([]:List Value).toArray:=by
  have:=hρ _ _ hf
  generalize a.eval f=vf at this
  cases this with
  | fn hl hl' hx hy =>
   rename_i u1 u2
   have e1:u1=[]:=by simpa using hl
   have e2:u2=[]:=by simpa using hl'
   subst e1 e2; rfl
 have hcl:Cc E.P fid:=hP ▸ hs.1
 unfold Lw
 rw [IG (uf:=[]) (uc:=[]) rfl hva rfl hcl w]
 simp only [List.nil_append,List.append_nil]
 have hz1:∀ c,(Z c\/own R hp c)->c < w.heap.size:=fun c hc=>hc.elim (sr.hh.zlt c) (fun ⟨b,B,r,h1,_,h3,h4⟩=>h4 ▸ sr.hh.rltL h1 h3)
 have hg1:GI E0 w (fun c=>Z c\/own R hp c):=fun q y hy=>(sr.gl q y (by rw [hG]; exact hy)).mono (fun _ _=>rfl) (fun _ h=> .inl h) (fun _ _ h=>h)
 have hret:=hs.2 w _ _ hz1 hg1 (Ua sr.hh (opds_vr hρ ha) hv)
 rw [<-hP] at hret
 refine Ret.mono hret fun v w' hS=>?_
 obtain ⟨Z',R',x,h',hO,h1,h2,st1⟩:=hS
 obtain ⟨f1,f2⟩:=hfl x h' hO
 obtain ⟨j1,j2⟩:=sr.hh.join hz1 st1 h1 f2
 have hlen1:R.length=hp.length:=sr.hh.len
 have hx:=ACO (w:=w') (Z':=Z) (R:=R) hlen1 f1 h2
 have sr':=(sr.step j1 j2).put (d:=some d) hx
 rw [show Qp (⟨Fr n l,hp⟩:St).fr (some d) (shN hp.length x)=Fr n ((d,shN hp.length x)::l) from Fn n l d _] at sr'
 have hg2:w.grownBy w' none:=⟨st1.os,st1.tape,st1.output,st1.size,fun c hc _=>st1.block c hc fun ⟨b,B,r,hb,_⟩=>by simp at hb⟩
 exact q _ _ w' (R++R') (kk x h' hO) sr' (GO hgr hg2) (st.trans j2) (fun b B hb=>by
  have hlt:b < hp.length:=(List.getElem?_eq_some_iff.1 (hpre b B hb)).1
  show (hp++h')[b]? = _
  rw [List.getElem?_append_left hlt]; exact hpre b B hb)
/-- The walk up to the two. -/
theorem TY (hE:EnvOk E):∀ {pre:List Oper}{s:St}{k:Nat},(pre.all fun o=>!isW o.op)=true->k + pre.length<=p->p + 2<=T->opsD E (evC E 0) ⟨none,false⟩ ops n0 pre s=some s1->RunDP E ops T p n0 (k + pre.length) rest s1 K->RunDP E ops T p n0 k (pre++rest) s K
 | [],s,k,_,_,_,e,kk=>by injection e with e; subst e; exact kk
 | o::pre,s,k,hp,hT,hpT,e,kk=>by
  intro base Q w0 Z R0 h0 a w R hh0 hn0 sr hgr st hpre hops q
  simp only [List.all_cons,Bool.and_eq_true,Bool.not_eq_true'] at hp
  obtain ⟨hW,hp⟩:=hp
  obtain ⟨s2,e1,e2⟩:=AAO hW e
  have hok:ops[k]? = some o:=by have:=hops 0; simpa using this.symm
  have hops':∀ j,(pre++rest)[j]? = ops[k + 1 + j]?:=fun j=>by have:=hops (j + 1); simpa [Nat.add_assoc,Nat.add_comm 1 j] using this
  have hk1:k + 1 + pre.length=k + (o::pre).length:=by simp; omega
  have kk':RunDP E ops T p n0 (k + 1 + pre.length) rest s1 K:=by rw [hk1]; exact kk
  simp only [List.length_cons] at hT
  show RQ E.P ops _ _ _ Q p k (o::(pre++rest)) a w
  unfold RQ
  rw [if_neg (by omega)]
  refine ⟨fun _=>hgr,?_⟩
  refine Op1.d (Ks:=fun s=>s=s2) hE hW (by omega) e1 rfl base _ w0 Z R0 h0 a w R hh0 hn0 sr hgr st hpre hok fun s' a' w' R' hs sr' hg' st' hp'=>?_
  subst hs
  exact TY hE hp (by omega) hpT e2 kk' base Q w0 Z R0 h0 a' w' R' hh0 hn0 sr' hg' st' hp' hops' q
theorem Y3 (hE:EnvOk E) (m:Nat){s:St}(l:List (Nat×AV)) (hp:Hp) (hw:(((rest.take m).all fun o=>!isW o.op)&&Nat.ble (k + (rest.take m).length) p&&Nat.ble (p + 2) T)=true) (h:WF (opsD E (evC E 0) ⟨none,false⟩ ops n0 (rest.take m) s) l=some (n,xs2 l,hp)) (kk:RunDP E ops T p n0 (k + (rest.take m).length) (rest.drop m) ⟨Fr n l,hp⟩ K):RunDP E ops T p n0 k rest s K:=by
 obtain ⟨fr,h1,h2,h3⟩:=KJ h
 simp only [Bool.and_eq_true] at hw
 have:=TY (k:=k) (T:=T) (p:=p) (pre:=rest.take m) (rest:=rest.drop m) hE hw.1.1 (Nat.le_of_ble_eq_true hw.1.2) (Nat.le_of_ble_eq_true hw.2) h1 (fun base Q w0 Z R0 h0 a w R a1 a2 sr a5 a6 a7 a8 q=>kk base Q w0 Z R0 h0 a w R a1 a2 (sr.forget h2 h3) a5 a6 a7 a8 q)
 rwa [List.take_append_drop] at this
theorem RunDP.one (hE:EnvOk E) (hr:rest=o::rest') (hW:(!isW o.op&&Nat.blt k p&&Nat.ble (p + 2) T)=true) (h:opsD E (evC E 0) ⟨none,false⟩ ops n0 [o] s=some s1) (kk:RunDP E ops T p n0 (k + 1) rest' s1 K):RunDP E ops T p n0 k rest s K:=by
 subst hr
 simp only [Bool.and_eq_true] at hW
 exact TY (k:=k) hE (pre:=[o]) (by simpa using hW.1.1) (by have:=Nat.le_of_ble_eq_true hW.1.2; simpa using this) (Nat.le_of_ble_eq_true hW.2) h kk
/-- The two, in both orders. -/
theorem RunDP.two {o1 o2:Oper}(hr:rest=o1::o2::rest') (hA:Op1 E ops T n0 p o1 s fun s1=>Op1 E ops T n0 (p + 1) o2 s1 fun s2=>RunDX E ops T n0 (p + 2) rest' s2 K) (hB:Op1 E ops T n0 (p + 1) o2 s fun s1=>Op1 E ops T n0 p o1 s1 fun s2=>RunDX E ops T n0 (p + 2) rest' s2 K):RunDP E ops T p n0 p rest s K:=by
 subst hr
 intro base Q w0 Z R0 h0 a w R hh0 hn0 sr hgr st hpre hops q
 have hk1:ops[p]? = some o1:=by have:=hops 0; simpa using this.symm
 have hk2:ops[p + 1]? = some o2:=by have:=hops 1; simpa using this.symm
 have hops':∀ j,rest'[j]? = ops[p + 2 + j]?:=fun j=>by have:=hops (j + 2); rw [show p + 2 + j=p + (j + 2) by omega]; simpa using this
 unfold RQ
 rw [if_pos rfl]
 refine ⟨hgr,?_,?_⟩
 ·refine hA base _ w0 Z R0 h0 a w R hh0 hn0 sr hgr st hpre hk1 fun s1 a1 w1 R1 h1 sr1 hg1 st1 hp1=>⟨hg1,?_⟩
  exact h1 base _ w0 Z R0 h0 a1 w1 R1 hh0 hn0 sr1 hg1 st1 hp1 hk2 fun s2 a2 w2 R2 h2 sr2 hg2 st2 hp2=>h2 base Q w0 Z R0 h0 a2 w2 R2 hh0 hn0 sr2 hg2 st2 hp2 hops' q
 ·refine hB base _ w0 Z R0 h0 a w R hh0 hn0 sr hgr st hpre hk2 fun s1 a1 w1 R1 h1 sr1 hg1 st1 hp1=>⟨hg1,?_⟩
  exact h1 base _ w0 Z R0 h0 a1 w1 R1 hh0 hn0 sr1 hg1 st1 hp1 hk1 fun s2 a2 w2 R2 h2 sr2 hg2 st2 hp2=>h2 base Q w0 Z R0 h0 a2 w2 R2 hh0 hn0 sr2 hg2 st2 hp2 hops' q
end
noncomputable def He:Code:=A3 Tryz.f92
def Bm (xs:List (List UInt8)):Option Blk:=some ⟨1,9,xs.map cdS.enc,false⟩
set_option maxRecDepth 100000 in
theorem JT (xs:List (List UInt8)) (hc:Gd 16 xs.length=true):Sem E0 ⟨none,false⟩ He ⟨Fr 8 [(0,.sl 1 (xs.map cdS.enc))],[]⟩ fun e s'=>(e = .normal\/e = .ret)/\((xs=[]/\s'=⟨Fr 8 [(2,.e0)],[]⟩)\/s'=⟨Fr 8 [(2,.rf 0 0 xs.length xs.length)],[Bm xs]⟩):=by
 refine AG ?_
 refine AL (s1:=⟨Fr 8 [(0,.sl 1 (xs.map cdS.enc)),(2,.e0)],[]⟩) ?_ ?_
 ·refine IB AC 1 (s1:=⟨Fr 8 [(0,.sl 1 (xs.map cdS.enc)),(2,.e0)],[]⟩) (by kernel_rfl) ?_
  exact AI rfl AJ
 refine AG ?_
 refine AG (TE ?_)
 refine IB AC 1 (s1:=⟨Fr 8 [(0,.sl 1 (xs.map cdS.enc)),(2,.e0),(3,.sl 1 (xs.map cdS.enc))],[]⟩) (by kernel_rfl) ?_
 refine VP (k:=1) (el:=9) (es:=xs.map cdS.enc) rfl (AB rfl) (by kernel_rfl) (by kernel_rfl) fun b hb=>AI rfl ?_
 have hb:b=true->xs=[]:=fun h=>List.map_eq_nil_iff.1 (hb h)
 refine AP (b:=b) (by kernel_rfl) (fun hb1=>?_) (fun hb1=>?_)
 ·have hx:=hb hb1
  refine Aj ?_
  refine AG (AL (s1:=⟨Fr 8 [(2,.e0)],[]⟩) ?_ (AN ?_))
  ·refine IB AC 1 (s1:=⟨Fr 8 [(0,.sl 1 (xs.map cdS.enc)),(2,.e0),(3,.sl 1 (xs.map cdS.enc)),(4,.v (.bool b))],[]⟩) (by kernel_rfl) ?_
   exact AI rfl AJ
  ·exact ⟨_,Wk.refl,.inr rfl,.inl ⟨hx,rfl⟩⟩
 ·refine AT ?_
  refine Aj (AG (TE ?_))
  refine IB AC 2 (s1:=⟨Fr 8 [(0,.sl 1 (xs.map cdS.enc)),(2,.e0),(3,.sl 1 (xs.map cdS.enc)),(4,.v (.bool b)),(5,.rf 0 0 0 0),(6,.sl 1 (xs.map cdS.enc))],[Bm []]⟩) (by kernel_rfl) ?_
  cases xs with
  | nil =>
   refine AS AC 0 rfl (Xg (x:= .rf 0 0 0 0) (hp':=[Bm []]) (AB rfl) rfl (by kernel_rfl) (by kernel_rfl) (by kernel_rfl)) ?_
   refine IB AC 1 (s1:=⟨Fr 8 [(0,.sl 1 []),(2,.rf 0 0 0 0),(3,.sl 1 []),(4,.v (.bool b)),(5,.rf 0 0 0 0),(6,.sl 1 []),(7,.rf 0 0 0 0)],[Bm []]⟩) (by kernel_rfl) (AI rfl (AN ?_))
   exact ⟨⟨Fr 8 [(2,.rf 0 0 0 0)],[Bm []]⟩,AJ,.inr rfl,.inr rfl⟩
  | cons y ys =>
   refine AS AC 0 rfl (Xg (AB rfl) rfl (by kernel_rfl) (by kernel_rfl) (Eb (a:= .rf 0 0 0 0) (b:= .sl 1 ((y::ys).map cdS.enc)) (by kernel_rfl) (by kernel_rfl) (Pj (c:=cdS) (xs:=[]) (vs:=y::ys) (k:=1) (bytes:=16) (el:=9) (by kernel_rfl) (by kernel_rfl) YY (List.cons_ne_nil _ _) (by kernel_rfl) (by rw [List.length_nil,Nat.zero_add]; exact hc)))) ?_
   refine IB AC 1 (s1:=⟨Fr 8 [(0,.sl 1 ((y::ys).map cdS.enc)),(2,.rf 1 0 (y::ys).length (y::ys).length),(3,.sl 1 ((y::ys).map cdS.enc)),(4,.v (.bool b)),(5,.rf 0 0 0 0),(6,.sl 1 ((y::ys).map cdS.enc)),(7,.rf 1 0 (y::ys).length (y::ys).length)],[none,Bm (y::ys)]⟩) (by kernel_rfl) (AI rfl (AN ?_))
   exact ⟨⟨Fr 8 [(2,.rf 0 0 (y::ys).length (y::ys).length)],[Bm (y::ys)]⟩,Ae [1] ⟨⟨_,rfl,NT⟩,trivial⟩ ⟨lv,trivial⟩,.inr rfl,.inr rfl⟩
def HG (xs:List (List UInt8)) (x:AV) (h':Hp):Prop:=(xs=[]/\x = .e0/\h'=[])\/(x = .rf 0 0 xs.length xs.length/\h'=[Bm xs])
theorem Hq (xs:List (List UInt8)) (hc:Gd 16 xs.length=true):SOk 92 [.sl 1 (xs.map cdS.enc)] (HG xs):=by
 refine ZP AC rfl rfl (fn:=Tryz.f92) (c:=He) (by kernel_rfl) (by kernel_rfl) ⟨Tryz.call92⟩ (by show 1<=8; decide) (Sem.mono (JT xs hc) ?_)
 rintro e s' ⟨he,⟨hx,rfl⟩ | rfl⟩
 ·exact ⟨he,[.e0],by kernel_rfl,.inl ⟨hx,rfl,rfl⟩⟩
 ·exact ⟨he,[.rf 0 0 xs.length xs.length],by kernel_rfl,.inr ⟨rfl,rfl⟩⟩
theorem Hg {xs:List (List UInt8)}:∀ x h',HG xs x h'->T0 x=true/\Vu h'=true:=by
 rintro x h' (⟨_,rfl,rfl⟩ | ⟨rfl,rfl⟩)
 ·exact ⟨rfl,rfl⟩
 ·refine ⟨rfl,?_⟩
  show (!false&&(xs.map cdS.enc).all Ok&&true)=true
  have:(xs.map cdS.enc).all Ok=true:=by
   rw [List.all_eq_true]
   intro x hx
   obtain ⟨y,_,rfl⟩:=List.mem_map.1 hx
   rfl
  rw [this]; rfl
def Sq:Cs (List (List UInt8)×Unit):=csC (cdL 1 cdS) csN
/- trestle/trestlelaw03.Copy -/
noncomputable def Nl:Code:=A3 Tryz.f59
def Fm (x0:(List AF)):Nat->(List AF)->Int->Option (((List AF)))
 | 0,_,_=>none
 | f + 1,c1,c2 =>
  if (decide (c2 < (x0.length:Int)))=true then
  (idx x0 c2).bind fun v4 =>
  if (Gd 16 v4.2.2.2.1.length)=true then
  if (Gd 16 (v4.2.2.2.1.length + 1))=true then
  if (MW 0 (v4.2.2.2.1.length:Int) (v4.2.2.2.1++[[115,112,97,114,101]]).length)=true then
  if (Gd 64 (c1.length + 1))=true then
  Fm x0 f (c1++[(v4.1,v4.2.1,v4.2.2.1,((v4.2.2.2.1++[[115,112,97,114,101]]).take ((v4.2.2.2.1.length:Int).toNat)),v4.2.2.2.2)]) (wr .i64 (c2 + 1))
  else none
  else none
  else none
  else none
  else
  some c1
def J7 (x0:(List AF)):Option ((List AF)) :=
 (Fm x0 100000 [] 0).bind fun r17 =>
 some r17
def Nq:Cs ((List AF)×Unit):=(csC (cdL 5 AA) csN)
def Ny (r:(List AF)):AV:=(cdL 5 AA).enc r
theorem Su (x0:(List AF)):∀ (f:Nat) (c1:(List AF)) (c2:Int) (r:((List AF))),Fm x0 f c1 c2=some r->SemN E0 ⟨none,false⟩ (pc Nl [1,1,0,1,0,0]) f ⟨Fr 28 [(3,hd 0 (c1.map AA.enc)),(6,.sl 5 (x0.map AA.enc)),(7,.v (.int .i64 (x0.length:Int))),(8,.v (.int .i64 c2))],[mk 5 60 (c1.map AA.enc)]⟩ (fun e s=>e=(.exit 0)/\Wk E0 s ⟨Fr 28 [(3,hd 0 (r.map AA.enc))],[mk 5 60 (r.map AA.enc)]⟩):=by
 intro f;induction f with
 | zero=>intro c1 c2 r h; cases h
 | succ f ih0 =>
  intro c1 c2 r h
  have ih:=fun (c1:(List AF)) (c2:Int)=>ih0 c1 c2 r
  unfold Fm at h;refine BR ?_;refine AK AC [(3,hd 0 (c1.map AA.enc)),(6,.sl 5 (x0.map AA.enc)),(7,.v (.int .i64 (x0.length:Int))),(8,.v (.int .i64 c2)),(9,.v (.bool (decide (c2 < (x0.length:Int)))))] [mk 5 60 (c1.map AA.enc)] ?_;refine AG ?_;refine AP (b:=(decide (c2 < (x0.length:Int)))) kr (fun hb3=>?_) (fun hb3=>?_)
  ·rw [if_pos hb3] at h
   refine AT ?_;refine AG ?_;refine AZ ?_;refine AG ?_;obtain ⟨v4,hv4,h⟩:=OB h;refine AL (s1:=⟨Fr 28 [(3,hd 0 (c1.map AA.enc)),(5,.pt 1 0 0),(6,.sl 5 (x0.map AA.enc)),(7,.v (.int .i64 (x0.length:Int))),(8,.v (.int .i64 c2))],[mk 5 60 (c1.map AA.enc),some ⟨5,60,[.ag [.v (.int .u8 v4.1),.st v4.2.1,.v (.bool v4.2.2.1),.sl 1 (v4.2.2.2.1.map cdS.enc),.v (.int .i64 v4.2.2.2.2)]],false⟩]⟩) ?_ ?_
   ·refine AS AC 0 rfl (DH (AB rfl) rfl (AW (a:= .sl 5 (x0.map AA.enc)) (b:= .v (.int .i64 c2)) kr kr (DK (e:=AA.enc) (el:=60) (k:=5) (ki:= .i64) kr kr hv4))) ?_
    exact AX AC
   refine AG ?_;by_cases hk5:(Gd 16 v4.2.2.2.1.length)=true
   case neg=>rw [if_neg hk5] at h; cases h
   rw [if_pos hk5] at h;by_cases hk6:(Gd 16 (v4.2.2.2.1.length + 1))=true
   case neg=>rw [if_neg hk6] at h; cases h
   rw [if_pos hk6] at h;by_cases hk7:(MW 0 (v4.2.2.2.1.length:Int) (v4.2.2.2.1++[[115,112,97,114,101]]).length)=true
   case neg=>rw [if_neg hk7] at h; cases h
   rw [if_pos hk7] at h;refine Za (s1:=⟨Fr 28 [(3,hd 0 (c1.map AA.enc)),(5,.pt 1 0 0),(6,.sl 5 (x0.map AA.enc)),(7,.v (.int .i64 (x0.length:Int))),(8,.v (.int .i64 c2))],[mk 5 60 (c1.map AA.enc),some ⟨5,60,[.ag [.v (.int .u8 v4.1),.st v4.2.1,.v (.bool v4.2.2.1),.rf 2 0 ((v4.2.2.2.1.length:Int).toNat) ((v4.2.2.2.1++[[115,112,97,114,101]]).length),.v (.int .i64 v4.2.2.2.2)]],false⟩,some ⟨1,9,((v4.2.2.2.1++[[115,112,97,114,101]]).map cdS.enc),false⟩]⟩) AC 10 2 kr kr ?_ ?_
   ·refine Y3 (n:=28) AC 2 [(3,hd 0 (c1.map AA.enc)),(5,.pt 1 0 0),(6,.sl 5 (x0.map AA.enc)),(7,.v (.int .i64 (x0.length:Int))),(8,.v (.int .i64 c2)),(13,.sl 1 (v4.2.2.2.1.map cdS.enc))] [mk 5 60 (c1.map AA.enc),some ⟨5,60,[.ag [.v (.int .u8 v4.1),.st v4.2.1,.v (.bool v4.2.2.1),.sl 1 (v4.2.2.2.1.map cdS.enc),.v (.int .i64 v4.2.2.2.2)]],false⟩] kr kr ?_
    refine RunDP.two rfl ?_ ?_
    ·refine Wp rfl rfl (Hq v4.2.2.2.1 hk5) rfl (AB rfl) kr (xs:=[.sl 1 (v4.2.2.2.1.map cdS.enc)]) kr kr Hg ?_
     rintro x h' (⟨hx,rfl,rfl⟩ | ⟨rfl,rfl⟩)
     ·rw [hx]
      refine Xi (n:=28) AC [(3,hd 0 (c1.map AA.enc)),(5,.pt 1 0 0),(6,.sl 5 (x0.map AA.enc)),(7,.v (.int .i64 (x0.length:Int))),(8,.v (.int .i64 c2)),(13,.sl 1 (([]:List (List UInt8)).map cdS.enc)),(14,.e0),(15,hd 2 ([[115,112,97,114,101]].map cdS.enc))] [mk 5 60 (c1.map AA.enc),some ⟨5,60,[.ag [.v (.int .u8 v4.1),.st v4.2.1,.v (.bool v4.2.2.1),.sl 1 (([]:List (List UInt8)).map cdS.enc),.v (.int .i64 v4.2.2.2.2)]],false⟩,mk 1 9 ([[115,112,97,114,101]].map cdS.enc)] kr kr ?_;refine RunDX.append AC rfl (AB rfl) rfl rfl (Eb (a:= .e0) (b:=hd 2 ([[115,112,97,114,101]].map cdS.enc)) kr kr (TH (c:=cdS) (vs:=[[115,112,97,114,101]]) (k:=1) (bytes:=16) (el:=9) kr kr (G5 (t:=9) kr) (List.cons_ne_nil _ _) kr)) (Eb (a:= .e0) (b:=hd 2 ([[115,112,97,114,101]].map cdS.enc)) kr kr (TH (c:=cdS) (vs:=[[115,112,97,114,101]]) (k:=1) (bytes:=16) (el:=9) kr kr (G5 (t:=9) kr) (List.cons_ne_nil _ _) kr)) kr ?_;refine Ix (n:=28) AC 2 [(3,hd 0 (c1.map AA.enc)),(5,.pt 1 0 0),(6,.sl 5 (x0.map AA.enc)),(7,.v (.int .i64 (x0.length:Int))),(8,.v (.int .i64 c2)),(16,hd 3 ([[115,112,97,114,101]].map cdS.enc)),(18,.sl 1 (([]:List (List UInt8)).map cdS.enc))] [mk 5 60 (c1.map AA.enc),some ⟨5,60,[.ag [.v (.int .u8 v4.1),.st v4.2.1,.v (.bool v4.2.2.1),.sl 1 (([]:List (List UInt8)).map cdS.enc),.v (.int .i64 v4.2.2.2.2)]],false⟩,mk 1 9 ([[115,112,97,114,101]].map cdS.enc),mk 1 9 ([[115,112,97,114,101]].map cdS.enc)] kr kr ?_;refine RunDX.one AC rfl kr (Hd kr (AB rfl) rfl (CX (a:= .sl 1 (([]:List (List UInt8)).map cdS.enc)) kr (BS (el:=9) kr)) kr) ?_;refine Ix (n:=28) AC 2 [(3,hd 0 (c1.map AA.enc)),(5,.pt 1 0 0),(6,.sl 5 (x0.map AA.enc)),(7,.v (.int .i64 (x0.length:Int))),(8,.v (.int .i64 c2)),(20,.rf 3 0 0 1),(21,.pt 1 0 3)] [mk 5 60 (c1.map AA.enc),some ⟨5,60,[.ag [.v (.int .u8 v4.1),.st v4.2.1,.v (.bool v4.2.2.1),.sl 1 (([]:List (List UInt8)).map cdS.enc),.v (.int .i64 v4.2.2.2.2)]],false⟩,mk 1 9 ([[115,112,97,114,101]].map cdS.enc),mk 1 9 ([[115,112,97,114,101]].map cdS.enc)] kr kr ?_
      refine Pi rfl ?_;refine AD (n:=28) AC 1 [(3,hd 0 (c1.map AA.enc)),(5,.pt 1 0 0),(6,.sl 5 (x0.map AA.enc)),(7,.v (.int .i64 (x0.length:Int))),(8,.v (.int .i64 c2))] [mk 5 60 (c1.map AA.enc),some ⟨5,60,[.ag [.v (.int .u8 v4.1),.st v4.2.1,.v (.bool v4.2.2.1),.rf 3 0 0 1,.v (.int .i64 v4.2.2.2.2)]],false⟩,mk 1 9 ([[115,112,97,114,101]].map cdS.enc),mk 1 9 ([[115,112,97,114,101]].map cdS.enc)] kr ?_;exact AI rfl (Ae [0,1,3] ⟨⟨_,rfl,IX⟩,⟨_,rfl,Gy⟩,⟨_,rfl,NT⟩,trivial⟩ ⟨Id (b':=0) kr kr,lv,lv,lv,lv,trivial⟩)
     ·refine Xi (n:=28) AC [(3,hd 0 (c1.map AA.enc)),(5,.pt 1 0 0),(6,.sl 5 (x0.map AA.enc)),(7,.v (.int .i64 (x0.length:Int))),(8,.v (.int .i64 c2)),(13,.sl 1 (v4.2.2.2.1.map cdS.enc)),(14,.rf 2 0 v4.2.2.2.1.length v4.2.2.2.1.length),(15,hd 3 ([[115,112,97,114,101]].map cdS.enc))] [mk 5 60 (c1.map AA.enc),some ⟨5,60,[.ag [.v (.int .u8 v4.1),.st v4.2.1,.v (.bool v4.2.2.1),.sl 1 (v4.2.2.2.1.map cdS.enc),.v (.int .i64 v4.2.2.2.2)]],false⟩,some ⟨1,9,(v4.2.2.2.1.map cdS.enc),false⟩,mk 1 9 ([[115,112,97,114,101]].map cdS.enc)] kr kr ?_
      refine RunDX.append AC rfl (AB rfl) rfl rfl (Eb (a:= .rf 2 0 v4.2.2.2.1.length v4.2.2.2.1.length) (b:=hd 3 ([[115,112,97,114,101]].map cdS.enc)) kr kr (Pj (c:=cdS) (xs:=v4.2.2.2.1) (vs:=[[115,112,97,114,101]]) (k:=1) (bytes:=16) (el:=9) kr kr (G5 (t:=9) kr) (List.cons_ne_nil _ _) kr hk6)) (Eb (a:= .rf 2 0 v4.2.2.2.1.length v4.2.2.2.1.length) (b:=hd 3 ([[115,112,97,114,101]].map cdS.enc)) kr kr (Pj (c:=cdS) (xs:=v4.2.2.2.1) (vs:=[[115,112,97,114,101]]) (k:=1) (bytes:=16) (el:=9) kr kr (G5 (t:=9) kr) (List.cons_ne_nil _ _) kr hk6)) kr ?_;refine Ix (n:=28) AC 2 [(3,hd 0 (c1.map AA.enc)),(5,.pt 1 0 0),(6,.sl 5 (x0.map AA.enc)),(7,.v (.int .i64 (x0.length:Int))),(8,.v (.int .i64 c2)),(16,.rf 4 0 (v4.2.2.2.1++[[115,112,97,114,101]]).length (v4.2.2.2.1++[[115,112,97,114,101]]).length),(18,.sl 1 (v4.2.2.2.1.map cdS.enc))] [mk 5 60 (c1.map AA.enc),some ⟨5,60,[.ag [.v (.int .u8 v4.1),.st v4.2.1,.v (.bool v4.2.2.1),.sl 1 (v4.2.2.2.1.map cdS.enc),.v (.int .i64 v4.2.2.2.2)]],false⟩,none,mk 1 9 ([[115,112,97,114,101]].map cdS.enc),some ⟨1,9,((v4.2.2.2.1++[[115,112,97,114,101]]).map cdS.enc),false⟩] kr kr ?_;refine RunDX.one AC rfl kr (Hd kr (AB rfl) rfl (CX (a:= .sl 1 (v4.2.2.2.1.map cdS.enc)) kr (BS (el:=9) kr)) kr) ?_;refine RunDX.one AC rfl kr (Hd kr (AB rfl) rfl (R9 (a:= .rf 4 0 (v4.2.2.2.1++[[115,112,97,114,101]]).length (v4.2.2.2.1++[[115,112,97,114,101]]).length) (l:=none) (u:=(some (.v (.int .i64 (v4.2.2.2.1.length:Int))))) (m:=none) kr kr kr rfl (Yu (xs:=(v4.2.2.2.1++[[115,112,97,114,101]])) (e:=cdS.enc) (t':=9) (k:=1) (el:=9) kr kr kr hk7 (by simp))) kr) ?_;refine Ix (n:=28) AC 1 [(3,hd 0 (c1.map AA.enc)),(5,.pt 1 0 0),(6,.sl 5 (x0.map AA.enc)),(7,.v (.int .i64 (x0.length:Int))),(8,.v (.int .i64 c2)),(20,.rf 4 0 ((v4.2.2.2.1.length:Int).toNat) ((v4.2.2.2.1++[[115,112,97,114,101]]).length)),(21,.pt 1 0 3)] [mk 5 60 (c1.map AA.enc),some ⟨5,60,[.ag [.v (.int .u8 v4.1),.st v4.2.1,.v (.bool v4.2.2.1),.sl 1 (v4.2.2.2.1.map cdS.enc),.v (.int .i64 v4.2.2.2.2)]],false⟩,none,mk 1 9 ([[115,112,97,114,101]].map cdS.enc),some ⟨1,9,((v4.2.2.2.1++[[115,112,97,114,101]]).map cdS.enc),false⟩] kr kr ?_
      refine Pi rfl ?_;refine AD (n:=28) AC 1 [(3,hd 0 (c1.map AA.enc)),(5,.pt 1 0 0),(6,.sl 5 (x0.map AA.enc)),(7,.v (.int .i64 (x0.length:Int))),(8,.v (.int .i64 c2))] [mk 5 60 (c1.map AA.enc),some ⟨5,60,[.ag [.v (.int .u8 v4.1),.st v4.2.1,.v (.bool v4.2.2.1),.rf 4 0 ((v4.2.2.2.1.length:Int).toNat) ((v4.2.2.2.1++[[115,112,97,114,101]]).length),.v (.int .i64 v4.2.2.2.2)]],false⟩,none,mk 1 9 ([[115,112,97,114,101]].map cdS.enc),some ⟨1,9,((v4.2.2.2.1++[[115,112,97,114,101]]).map cdS.enc),false⟩] kr ?_;exact AI rfl (Ae [0,1,4] ⟨⟨_,rfl,IX⟩,⟨_,rfl,Gy⟩,⟨_,rfl,NT⟩,trivial⟩ ⟨Id (b':=0) kr kr,lv,lv,lv,lv,trivial⟩)
    ·refine Xi (n:=28) AC [(3,hd 0 (c1.map AA.enc)),(5,.pt 1 0 0),(6,.sl 5 (x0.map AA.enc)),(7,.v (.int .i64 (x0.length:Int))),(8,.v (.int .i64 c2)),(13,.sl 1 (v4.2.2.2.1.map cdS.enc)),(15,hd 2 ([[115,112,97,114,101]].map cdS.enc))] [mk 5 60 (c1.map AA.enc),some ⟨5,60,[.ag [.v (.int .u8 v4.1),.st v4.2.1,.v (.bool v4.2.2.1),.sl 1 (v4.2.2.2.1.map cdS.enc),.v (.int .i64 v4.2.2.2.2)]],false⟩,mk 1 9 ([[115,112,97,114,101]].map cdS.enc)] kr kr ?_
     have hk10:=hk5
     refine Wp rfl rfl (Hq v4.2.2.2.1 hk10) rfl (AB rfl) kr (xs:=[.sl 1 (v4.2.2.2.1.map cdS.enc)]) kr kr Hg ?_;rintro x h' (⟨hx,rfl,rfl⟩ | ⟨rfl,rfl⟩)
     ·rw [hx]
      refine RunDX.append AC rfl (AB rfl) rfl rfl (Eb (a:= .e0) (b:=hd 2 ([[115,112,97,114,101]].map cdS.enc)) kr kr (TH (c:=cdS) (vs:=[[115,112,97,114,101]]) (k:=1) (bytes:=16) (el:=9) kr kr (G5 (t:=9) kr) (List.cons_ne_nil _ _) kr)) (Eb (a:= .e0) (b:=hd 2 ([[115,112,97,114,101]].map cdS.enc)) kr kr (TH (c:=cdS) (vs:=[[115,112,97,114,101]]) (k:=1) (bytes:=16) (el:=9) kr kr (G5 (t:=9) kr) (List.cons_ne_nil _ _) kr)) kr ?_;refine Ix (n:=28) AC 2 [(3,hd 0 (c1.map AA.enc)),(5,.pt 1 0 0),(6,.sl 5 (x0.map AA.enc)),(7,.v (.int .i64 (x0.length:Int))),(8,.v (.int .i64 c2)),(16,hd 3 ([[115,112,97,114,101]].map cdS.enc)),(18,.sl 1 (([]:List (List UInt8)).map cdS.enc))] [mk 5 60 (c1.map AA.enc),some ⟨5,60,[.ag [.v (.int .u8 v4.1),.st v4.2.1,.v (.bool v4.2.2.1),.sl 1 (([]:List (List UInt8)).map cdS.enc),.v (.int .i64 v4.2.2.2.2)]],false⟩,mk 1 9 ([[115,112,97,114,101]].map cdS.enc),mk 1 9 ([[115,112,97,114,101]].map cdS.enc)] kr kr ?_;refine RunDX.one AC rfl kr (Hd kr (AB rfl) rfl (CX (a:= .sl 1 (([]:List (List UInt8)).map cdS.enc)) kr (BS (el:=9) kr)) kr) ?_;refine Ix (n:=28) AC 2 [(3,hd 0 (c1.map AA.enc)),(5,.pt 1 0 0),(6,.sl 5 (x0.map AA.enc)),(7,.v (.int .i64 (x0.length:Int))),(8,.v (.int .i64 c2)),(20,.rf 3 0 0 1),(21,.pt 1 0 3)] [mk 5 60 (c1.map AA.enc),some ⟨5,60,[.ag [.v (.int .u8 v4.1),.st v4.2.1,.v (.bool v4.2.2.1),.sl 1 (([]:List (List UInt8)).map cdS.enc),.v (.int .i64 v4.2.2.2.2)]],false⟩,mk 1 9 ([[115,112,97,114,101]].map cdS.enc),mk 1 9 ([[115,112,97,114,101]].map cdS.enc)] kr kr ?_;refine Pi rfl ?_;refine AD (n:=28) AC 1 [(3,hd 0 (c1.map AA.enc)),(5,.pt 1 0 0),(6,.sl 5 (x0.map AA.enc)),(7,.v (.int .i64 (x0.length:Int))),(8,.v (.int .i64 c2))] [mk 5 60 (c1.map AA.enc),some ⟨5,60,[.ag [.v (.int .u8 v4.1),.st v4.2.1,.v (.bool v4.2.2.1),.rf 3 0 0 1,.v (.int .i64 v4.2.2.2.2)]],false⟩,mk 1 9 ([[115,112,97,114,101]].map cdS.enc),mk 1 9 ([[115,112,97,114,101]].map cdS.enc)] kr ?_
      exact AI rfl (Ae [0,1,3] ⟨⟨_,rfl,IX⟩,⟨_,rfl,Gy⟩,⟨_,rfl,NT⟩,trivial⟩ ⟨Id (b':=0) kr kr,lv,lv,lv,lv,trivial⟩)
     ·have hk11:=hk6
      refine RunDX.append AC rfl (AB rfl) rfl rfl (Eb (a:= .rf 3 0 v4.2.2.2.1.length v4.2.2.2.1.length) (b:=hd 2 ([[115,112,97,114,101]].map cdS.enc)) kr kr (Pj (c:=cdS) (xs:=v4.2.2.2.1) (vs:=[[115,112,97,114,101]]) (k:=1) (bytes:=16) (el:=9) kr kr (G5 (t:=9) kr) (List.cons_ne_nil _ _) kr hk11)) (Eb (a:= .rf 3 0 v4.2.2.2.1.length v4.2.2.2.1.length) (b:=hd 2 ([[115,112,97,114,101]].map cdS.enc)) kr kr (Pj (c:=cdS) (xs:=v4.2.2.2.1) (vs:=[[115,112,97,114,101]]) (k:=1) (bytes:=16) (el:=9) kr kr (G5 (t:=9) kr) (List.cons_ne_nil _ _) kr hk11)) kr ?_;refine Ix (n:=28) AC 2 [(3,hd 0 (c1.map AA.enc)),(5,.pt 1 0 0),(6,.sl 5 (x0.map AA.enc)),(7,.v (.int .i64 (x0.length:Int))),(8,.v (.int .i64 c2)),(16,.rf 4 0 (v4.2.2.2.1++[[115,112,97,114,101]]).length (v4.2.2.2.1++[[115,112,97,114,101]]).length),(18,.sl 1 (v4.2.2.2.1.map cdS.enc))] [mk 5 60 (c1.map AA.enc),some ⟨5,60,[.ag [.v (.int .u8 v4.1),.st v4.2.1,.v (.bool v4.2.2.1),.sl 1 (v4.2.2.2.1.map cdS.enc),.v (.int .i64 v4.2.2.2.2)]],false⟩,mk 1 9 ([[115,112,97,114,101]].map cdS.enc),none,some ⟨1,9,((v4.2.2.2.1++[[115,112,97,114,101]]).map cdS.enc),false⟩] kr kr ?_;refine RunDX.one AC rfl kr (Hd kr (AB rfl) rfl (CX (a:= .sl 1 (v4.2.2.2.1.map cdS.enc)) kr (BS (el:=9) kr)) kr) ?_
      have hk12:=hk7
      refine RunDX.one AC rfl kr (Hd kr (AB rfl) rfl (R9 (a:= .rf 4 0 (v4.2.2.2.1++[[115,112,97,114,101]]).length (v4.2.2.2.1++[[115,112,97,114,101]]).length) (l:=none) (u:=(some (.v (.int .i64 (v4.2.2.2.1.length:Int))))) (m:=none) kr kr kr rfl (Yu (xs:=(v4.2.2.2.1++[[115,112,97,114,101]])) (e:=cdS.enc) (t':=9) (k:=1) (el:=9) kr kr kr hk12 (by simp))) kr) ?_;refine Ix (n:=28) AC 1 [(3,hd 0 (c1.map AA.enc)),(5,.pt 1 0 0),(6,.sl 5 (x0.map AA.enc)),(7,.v (.int .i64 (x0.length:Int))),(8,.v (.int .i64 c2)),(20,.rf 4 0 ((v4.2.2.2.1.length:Int).toNat) ((v4.2.2.2.1++[[115,112,97,114,101]]).length)),(21,.pt 1 0 3)] [mk 5 60 (c1.map AA.enc),some ⟨5,60,[.ag [.v (.int .u8 v4.1),.st v4.2.1,.v (.bool v4.2.2.1),.sl 1 (v4.2.2.2.1.map cdS.enc),.v (.int .i64 v4.2.2.2.2)]],false⟩,mk 1 9 ([[115,112,97,114,101]].map cdS.enc),none,some ⟨1,9,((v4.2.2.2.1++[[115,112,97,114,101]]).map cdS.enc),false⟩] kr kr ?_;refine Pi rfl ?_;refine AD (n:=28) AC 1 [(3,hd 0 (c1.map AA.enc)),(5,.pt 1 0 0),(6,.sl 5 (x0.map AA.enc)),(7,.v (.int .i64 (x0.length:Int))),(8,.v (.int .i64 c2))] [mk 5 60 (c1.map AA.enc),some ⟨5,60,[.ag [.v (.int .u8 v4.1),.st v4.2.1,.v (.bool v4.2.2.1),.rf 4 0 ((v4.2.2.2.1.length:Int).toNat) ((v4.2.2.2.1++[[115,112,97,114,101]]).length),.v (.int .i64 v4.2.2.2.2)]],false⟩,mk 1 9 ([[115,112,97,114,101]].map cdS.enc),none,some ⟨1,9,((v4.2.2.2.1++[[115,112,97,114,101]]).map cdS.enc),false⟩] kr ?_;exact AI rfl (Ae [0,1,4] ⟨⟨_,rfl,IX⟩,⟨_,rfl,Gy⟩,⟨_,rfl,NT⟩,trivial⟩ ⟨Id (b':=0) kr kr,lv,lv,lv,lv,trivial⟩)
   by_cases hk15:(Gd 64 (c1.length + 1))=true
   case neg=>rw [if_neg hk15] at h; cases h
   rw [if_pos hk15] at h;refine AL (s1:=⟨Fr 28 [(3,hd 0 ((c1++[(v4.1,v4.2.1,v4.2.2.1,((v4.2.2.2.1++[[115,112,97,114,101]]).take ((v4.2.2.2.1.length:Int).toNat)),v4.2.2.2.2)]).map AA.enc)),(6,.sl 5 (x0.map AA.enc)),(7,.v (.int .i64 (x0.length:Int))),(8,.v (.int .i64 c2))],[mk 5 60 ((c1++[(v4.1,v4.2.1,v4.2.2.1,((v4.2.2.2.1++[[115,112,97,114,101]]).take ((v4.2.2.2.1.length:Int).toNat)),v4.2.2.2.2)]).map AA.enc)]⟩) ?_ ?_
   ·refine AD (n:=28) AC 2 [(6,.sl 5 (x0.map AA.enc)),(7,.v (.int .i64 (x0.length:Int))),(8,.v (.int .i64 c2)),(22,hd 0 (c1.map AA.enc)),(23,.ag [.v (.int .u8 v4.1),.st v4.2.1,.v (.bool v4.2.2.1),.rf 2 0 ((v4.2.2.2.1.length:Int).toNat) ((v4.2.2.2.1++[[115,112,97,114,101]]).length),.v (.int .i64 v4.2.2.2.2)])] [mk 5 60 (c1.map AA.enc),some ⟨5,60,[.ag [.v (.int .u8 v4.1),.st v4.2.1,.v (.bool v4.2.2.1),.rf 2 0 ((v4.2.2.2.1.length:Int).toNat) ((v4.2.2.2.1++[[115,112,97,114,101]]).length),.v (.int .i64 v4.2.2.2.2)]],false⟩,some ⟨1,9,((v4.2.2.2.1++[[115,112,97,114,101]]).map cdS.enc),false⟩] kr ?_
    refine ZZ (s1:=⟨Fr 28 [(6,.sl 5 (x0.map AA.enc)),(7,.v (.int .i64 (x0.length:Int))),(8,.v (.int .i64 c2)),(22,hd 0 (c1.map AA.enc)),(23,.ag [.v (.int .u8 v4.1),.st v4.2.1,.v (.bool v4.2.2.1),.sl 1 (((v4.2.2.2.1++[[115,112,97,114,101]]).take ((v4.2.2.2.1.length:Int).toNat)).map cdS.enc),.v (.int .i64 v4.2.2.2.2)])],[mk 5 60 (c1.map AA.enc),some ⟨5,60,[.ag [.v (.int .u8 v4.1),.st v4.2.1,.v (.bool v4.2.2.1),.sl 1 (((v4.2.2.2.1++[[115,112,97,114,101]]).take ((v4.2.2.2.1.length:Int).toNat)).map cdS.enc),.v (.int .i64 v4.2.2.2.2)]],false⟩,none]⟩) (AA3 2 (.inl kr) ⟨.inr (.inl rfl),.inr (.inr ⟨_,_,_,_,rfl,rfl,⟨(.inr ⟨_,_,rfl,rfl,⟨.inl rfl,.inl rfl,.inl rfl,ACF (c:=cdS) (xs:=(v4.2.2.2.1++[[115,112,97,114,101]])) (t:=9) kr (NZ hk7).2.2.2,.inl rfl,trivial⟩⟩),trivial⟩⟩),.inl rfl,trivial⟩ ⟨⟨.sl 5 (x0.map AA.enc),kr,(.inl (.inl rfl))⟩,⟨.v (.int .i64 (x0.length:Int)),kr,(.inl (.inl rfl))⟩,⟨.v (.int .i64 c2),kr,(.inl (.inl rfl))⟩,⟨hd 0 (c1.map AA.enc),kr,(.inl (.inl rfl))⟩,⟨.ag [.v (.int .u8 v4.1),.st v4.2.1,.v (.bool v4.2.2.1),.rf 2 0 ((v4.2.2.2.1.length:Int).toNat) ((v4.2.2.2.1++[[115,112,97,114,101]]).length),.v (.int .i64 v4.2.2.2.2)],kr,(.inr ⟨_,_,rfl,rfl,⟨.inl rfl,.inl rfl,.inl rfl,ACF (c:=cdS) (xs:=(v4.2.2.2.1++[[115,112,97,114,101]])) (t:=9) kr (NZ hk7).2.2.2,.inl rfl,trivial⟩⟩)⟩,trivial⟩) ?_;refine AD (n:=28) AC 1 [(6,.sl 5 (x0.map AA.enc)),(7,.v (.int .i64 (x0.length:Int))),(8,.v (.int .i64 c2)),(22,hd 0 (c1.map AA.enc)),(24,hd 3 ([(v4.1,v4.2.1,v4.2.2.1,((v4.2.2.2.1++[[115,112,97,114,101]]).take ((v4.2.2.2.1.length:Int).toNat)),v4.2.2.2.2)].map AA.enc))] [mk 5 60 (c1.map AA.enc),some ⟨5,60,[.ag [.v (.int .u8 v4.1),.st v4.2.1,.v (.bool v4.2.2.1),.sl 1 (((v4.2.2.2.1++[[115,112,97,114,101]]).take ((v4.2.2.2.1.length:Int).toNat)).map cdS.enc),.v (.int .i64 v4.2.2.2.2)]],false⟩,none,mk 5 60 ([(v4.1,v4.2.1,v4.2.2.1,((v4.2.2.2.1++[[115,112,97,114,101]]).take ((v4.2.2.2.1.length:Int).toNat)),v4.2.2.2.2)].map AA.enc)] kr ?_
    refine AS AC 0 rfl (Xg (AB rfl) rfl kr kr (Eb (a:=hd 0 (c1.map AA.enc)) (b:=hd 3 ([(v4.1,v4.2.1,v4.2.2.1,((v4.2.2.2.1++[[115,112,97,114,101]]).take ((v4.2.2.2.1.length:Int).toNat)),v4.2.2.2.2)].map AA.enc)) kr kr (MZ (c:=AA) (xs:=c1) (vs:=[(v4.1,v4.2.1,v4.2.2.1,((v4.2.2.2.1++[[115,112,97,114,101]]).take ((v4.2.2.2.1.length:Int).toNat)),v4.2.2.2.2)]) (k:=5) (bytes:=64) (el:=60) kr kr (G5 (t:=60) kr) (List.cons_ne_nil _ _) kr hk15))) ?_;refine AD (n:=28) AC 1 [(3,hd 4 ((c1++[(v4.1,v4.2.1,v4.2.2.1,((v4.2.2.2.1++[[115,112,97,114,101]]).take ((v4.2.2.2.1.length:Int).toNat)),v4.2.2.2.2)]).map AA.enc)),(6,.sl 5 (x0.map AA.enc)),(7,.v (.int .i64 (x0.length:Int))),(8,.v (.int .i64 c2))] [none,some ⟨5,60,[.ag [.v (.int .u8 v4.1),.st v4.2.1,.v (.bool v4.2.2.1),.sl 1 (((v4.2.2.2.1++[[115,112,97,114,101]]).take ((v4.2.2.2.1.length:Int).toNat)).map cdS.enc),.v (.int .i64 v4.2.2.2.2)]],false⟩,none,mk 5 60 ([(v4.1,v4.2.1,v4.2.2.1,((v4.2.2.2.1++[[115,112,97,114,101]]).take ((v4.2.2.2.1.length:Int).toNat)),v4.2.2.2.2)].map AA.enc),mk 5 60 ((c1++[(v4.1,v4.2.1,v4.2.2.1,((v4.2.2.2.1++[[115,112,97,114,101]]).take ((v4.2.2.2.1.length:Int).toNat)),v4.2.2.2.2)]).map AA.enc)] kr ?_;exact AI rfl (Ae [4] ⟨⟨_,rfl,IX⟩,trivial⟩ ⟨Id (b':=4) kr kr,lv,lv,lv,trivial⟩)
   refine Ci AC [(3,hd 0 ((c1++[(v4.1,v4.2.1,v4.2.2.1,((v4.2.2.2.1++[[115,112,97,114,101]]).take ((v4.2.2.2.1.length:Int).toNat)),v4.2.2.2.2)]).map AA.enc)),(6,.sl 5 (x0.map AA.enc)),(7,.v (.int .i64 (x0.length:Int))),(8,.v (.int .i64 (wr .i64 (c2 + 1))))] [mk 5 60 ((c1++[(v4.1,v4.2.1,v4.2.2.1,((v4.2.2.2.1++[[115,112,97,114,101]]).take ((v4.2.2.2.1.length:Int).toNat)),v4.2.2.2.2)]).map AA.enc)] ?_;exact Ab (s1:=⟨Fr 28 [(3,hd 0 ((c1++[(v4.1,v4.2.1,v4.2.2.1,((v4.2.2.2.1++[[115,112,97,114,101]]).take ((v4.2.2.2.1.length:Int).toNat)),v4.2.2.2.2)]).map AA.enc)),(6,.sl 5 (x0.map AA.enc)),(7,.v (.int .i64 (x0.length:Int))),(8,.v (.int .i64 (wr .i64 (c2 + 1))))],[mk 5 60 ((c1++[(v4.1,v4.2.1,v4.2.2.1,((v4.2.2.2.1++[[115,112,97,114,101]]).take ((v4.2.2.2.1.length:Int).toNat)),v4.2.2.2.2)]).map AA.enc)]⟩) (Ae [0] ⟨⟨_,rfl,IX⟩,trivial⟩ ⟨Id (b':=0) kr kr,lv,lv,lv,trivial⟩) (ih (c1++[(v4.1,v4.2.1,v4.2.2.1,((v4.2.2.2.1++[[115,112,97,114,101]]).take ((v4.2.2.2.1.length:Int).toNat)),v4.2.2.2.2)]) (wr .i64 (c2 + 1)) h)
  ·rw [BY hb3] at h
   refine Bi ?_;have hq:=OI h; subst hq;exact ⟨rfl,(Ae [0] ⟨⟨_,rfl,IX⟩,trivial⟩ ⟨Id (b':=0) kr kr,trivial⟩)⟩
theorem U6 (x0:(List AF)) (r:(List AF)) (h:J7 x0=some r):Sem E0 ⟨none,false⟩ Nl ⟨Fr 28 (Av 0 (Nq.enc (x0,()))),[]⟩ fun e s'=>(e = .normal\/e = .ret)/\∃ xs,D6 E0.P s'.fr s'.hp Tryz.f59.results.toList=some xs/\EA xs=Ny r:=by
 unfold J7 at h
 let p1:Nat×AV:=(0,.sl 5 (x0.map AA.enc))
 refine Aj (A8 (s1:=⟨Fr 28 [p1],[]⟩) AJ ?_);refine AK AC [p1] [] ?_;refine AK AC [p1,(3,.e0)] [] ?_;refine AG ?_;refine AG ?_
 let p2:Nat×AV:=(8,.v (.int .i64 0))
 let p3:Nat×AV:=(7,.v (.int .i64 (x0.length:Int)))
 let p4:Nat×AV:=(6,.sl 5 (x0.map AA.enc))
 refine AL (s1:=⟨Fr 28 [(3,.e0),p4,p3,p2],[]⟩) ?_ ?_
 ·refine AD (n:=28) AC 1 [(3,.e0),p4] [] kr ?_
  refine AS AC 0 rfl (DH (AB rfl) rfl (CX (a:= .sl 5 (x0.map AA.enc)) kr (BS (el:=60) kr))) ?_;exact AX AC
 refine AZ ?_;obtain ⟨r17,hr17,h⟩:=OB h;refine Bj (n:=100000) ?_
 let p5:Nat×AV:=(3,hd 0 ([].map AA.enc))
 refine Ao (Ab (s1:=⟨Fr 28 [p5,p4,p3,p2],[mk 5 60 ([].map AA.enc)]⟩) (Wk.trans (s1:=⟨Fr 28 [p5,p4,p3,p2],[mk 5 60 ([].map AA.enc)]⟩) Wk.none (Ae [0] ⟨⟨_,rfl,O0⟩,trivial⟩ ⟨lv,lv,lv,lv,trivial⟩)) (Su x0 _ [] 0 _ hr17)) ?_;refine AK AC [(2,hd 0 (r17.map AA.enc))] [mk 5 60 (r17.map AA.enc)] ?_;refine AN ?_;have hq:=OI h; subst hq
 let p6:Nat×AV:=(2,.sl 5 (r17.map AA.enc))
 exact ⟨⟨Fr 28 [p6],[]⟩,(Wk.trans (s1:=⟨Fr 28 [p6],[none]⟩) (Kg 0 (.inl kr) ⟨.inl rfl,trivial⟩ ⟨⟨hd 0 (r17.map AA.enc),kr,W6 (t:=60) kr Of⟩,trivial⟩) (Ae [] trivial ⟨lv,trivial⟩)),.inr rfl,[.sl 5 (r17.map AA.enc)],kr,kr⟩
def XQ:List AV->Option AV:=Dk Nq (fun a=>J7 a.1) Ny
theorem Xc:XOk 59 XQ:=by
 refine AQ Tryz.func59 (c:=Nl) ?h2 ⟨Tryz.call59⟩ Nq (fun a=>J7 a.1) Ny (fun a=>(by show 1<=28; decide)) ?h3 ?h4
 case h2=>kernel_rfl
 case h3=>intro b; kernel_rfl
 case h4=>exact fun a b h=>U6 a.1 b h
/- trestle/trestlelaw03.CopyAll -/
noncomputable def Kk:Code:=A3 Tryz.f91
def Dn (x0:(List (List AF))):Nat->(List (List AF))->Int->Option (((List (List AF))))
 | 0,_,_=>none
 | f + 1,c1,c2 =>
  if (decide (c2 < (x0.length:Int)))=true then
  (idx x0 c2).bind fun v4 =>
  (J7 v4).bind fun v5 =>
  if (Gd 24 (c1.length + 1))=true then
  Dn x0 f (c1++[v5]) (wr .i64 (c2 + 1))
  else none
  else
  some c1
def Ha (x0:(List (List AF))):Option ((List (List AF))) :=
 (Dn x0 100000 [] 0).bind fun r8 =>
 some r8
def K4:Cs ((List (List AF))×Unit):=(csC (cdL 1 (cdL 5 AA)) csN)
def LQ (r:(List (List AF))):AV:=(cdL 1 (cdL 5 AA)).enc r
theorem Qa (x0:(List (List AF))):∀ (f:Nat) (c1:(List (List AF))) (c2:Int) (r:((List (List AF)))),Dn x0 f c1 c2=some r->SemN E0 ⟨none,false⟩ (pc Kk [1,1,0,1,0,0]) f ⟨Fr 19 [(3,hd 0 (c1.map (cdL 5 AA).enc)),(6,.sl 1 (x0.map (cdL 5 AA).enc)),(7,.v (.int .i64 (x0.length:Int))),(8,.v (.int .i64 c2))],[mk 1 22 (c1.map (cdL 5 AA).enc)]⟩ (fun e s=>e=(.exit 0)/\Wk E0 s ⟨Fr 19 [(3,hd 0 (r.map (cdL 5 AA).enc))],[mk 1 22 (r.map (cdL 5 AA).enc)]⟩):=by
 intro f;induction f with
 | zero=>intro c1 c2 r h; cases h
 | succ f ih0 =>
  intro c1 c2 r h
  have ih:=fun (c1:(List (List AF))) (c2:Int)=>ih0 c1 c2 r
  unfold Dn at h;refine BR ?_
  let p1:Option Blk:=mk 1 22 (c1.map (cdL 5 AA).enc)
  let p2:Nat×AV:=(8,.v (.int .i64 c2))
  let p3:Nat×AV:=(7,.v (.int .i64 (x0.length:Int)))
  let p4:Nat×AV:=(6,.sl 1 (x0.map (cdL 5 AA).enc))
  let p5:Nat×AV:=(3,hd 0 (c1.map (cdL 5 AA).enc))
  refine AK AC [p5,p4,p3,p2,(9,.v (.bool (decide (c2 < (x0.length:Int)))))] [p1] ?_;refine AG ?_;refine AP (b:=(decide (c2 < (x0.length:Int)))) kr (fun hb3=>?_) (fun hb3=>?_)
  ·rw [if_pos hb3] at h
   refine AT ?_;refine AG ?_;refine AZ ?_;refine AG ?_;obtain ⟨v4,hv4,h⟩:=OB h;refine AL (s1:=⟨Fr 19 [p5,(5,.sl 5 (v4.map AA.enc)),p4,p3,p2],[p1]⟩) ?_ ?_
   ·refine AS AC 0 rfl (DH (AB rfl) rfl (AW (a:= .sl 1 (x0.map (cdL 5 AA).enc)) (b:= .v (.int .i64 c2)) kr kr (DK (e:=(cdL 5 AA).enc) (el:=22) (k:=1) (ki:= .i64) kr kr hv4))) ?_
    exact AX AC
   obtain ⟨v5,hv5,h⟩:=OB h;by_cases hk6:(Gd 24 (c1.length + 1))=true
   case neg=>rw [if_neg hk6] at h; cases h
   rw [if_pos hk6] at h
   let p6:Option Blk:=mk 1 22 ((c1++[v5]).map (cdL 5 AA).enc)
   let p7:Nat×AV:=(3,hd 0 ((c1++[v5]).map (cdL 5 AA).enc))
   refine AL (s1:=⟨Fr 19 [p7,p4,p3,p2],[p6]⟩) ?_ ?_
   ·let p8:Nat×AV:=(12,hd 0 (c1.map (cdL 5 AA).enc))
    refine AD (n:=19) AC 2 [p4,p3,p2,p8,(13,.sl 5 (v4.map AA.enc))] [p1] kr ?_;refine AR (caps:=[]) (xs:=[.sl 5 (v4.map AA.enc)]) (u:=(v4,())) rfl rfl Xc rfl (AB rfl) kr kr (AM (AU (c:=(cdL 5 AA)) (v:=v4)) Af) (.inr kr) hv5 ?_
    let p9:Option Blk:=mk 1 22 ([v5].map (cdL 5 AA).enc)
    refine AD (n:=19) AC 1 [p4,p3,p2,p8,(15,hd 1 ([v5].map (cdL 5 AA).enc))] [p1,p9] kr ?_;refine AS AC 0 rfl (Xg (AB rfl) rfl kr kr (Eb (a:=hd 0 (c1.map (cdL 5 AA).enc)) (b:=hd 1 ([v5].map (cdL 5 AA).enc)) kr kr (MZ (c:=(cdL 5 AA)) (xs:=c1) (vs:=[v5]) (k:=1) (bytes:=24) (el:=22) kr kr (G5 (t:=22) kr) (List.cons_ne_nil _ _) kr hk6))) ?_;refine AD (n:=19) AC 1 [(3,hd 2 ((c1++[v5]).map (cdL 5 AA).enc)),p4,p3,p2] [none,p9,p6] kr ?_;exact AI rfl (Ae [2] ⟨⟨_,rfl,IX⟩,trivial⟩ ⟨Id (b':=2) kr kr,lv,lv,lv,trivial⟩)
   let p10:Nat×AV:=(8,.v (.int .i64 (wr .i64 (c2 + 1))))
   refine Ci AC [p7,p4,p3,p10] [p6] ?_;exact Ab (s1:=⟨Fr 19 [p7,p4,p3,p10],[p6]⟩) (Ae [0] ⟨⟨_,rfl,IX⟩,trivial⟩ ⟨Id (b':=0) kr kr,lv,lv,lv,trivial⟩) (ih (c1++[v5]) (wr .i64 (c2 + 1)) h)
  ·rw [BY hb3] at h
   refine Bi ?_;have hq:=OI h; subst hq;exact ⟨rfl,(Ae [0] ⟨⟨_,rfl,IX⟩,trivial⟩ ⟨Id (b':=0) kr kr,trivial⟩)⟩
theorem Rv (x0:(List (List AF))) (r:(List (List AF))) (h:Ha x0=some r):Sem E0 ⟨none,false⟩ Kk ⟨Fr 19 (Av 0 (K4.enc (x0,()))),[]⟩ fun e s'=>(e = .normal\/e = .ret)/\∃ xs,D6 E0.P s'.fr s'.hp Tryz.f91.results.toList=some xs/\EA xs=LQ r:=by
 unfold Ha at h
 let p1:Nat×AV:=(0,.sl 1 (x0.map (cdL 5 AA).enc))
 refine Aj (A8 (s1:=⟨Fr 19 [p1],[]⟩) AJ ?_);refine AK AC [p1] [] ?_;refine AK AC [p1,(3,.e0)] [] ?_;refine AG ?_;refine AG ?_
 let p2:Nat×AV:=(8,.v (.int .i64 0))
 let p3:Nat×AV:=(7,.v (.int .i64 (x0.length:Int)))
 let p4:Nat×AV:=(6,.sl 1 (x0.map (cdL 5 AA).enc))
 refine AL (s1:=⟨Fr 19 [(3,.e0),p4,p3,p2],[]⟩) ?_ ?_
 ·refine AD (n:=19) AC 1 [(3,.e0),p4] [] kr ?_
  refine AS AC 0 rfl (DH (AB rfl) rfl (CX (a:= .sl 1 (x0.map (cdL 5 AA).enc)) kr (BS (el:=22) kr))) ?_;exact AX AC
 refine AZ ?_;obtain ⟨r8,hr8,h⟩:=OB h;refine Bj (n:=100000) ?_
 let p5:Option Blk:=mk 1 22 ([].map (cdL 5 AA).enc)
 let p6:Nat×AV:=(3,hd 0 ([].map (cdL 5 AA).enc))
 refine Ao (Ab (s1:=⟨Fr 19 [p6,p4,p3,p2],[p5]⟩) (Wk.trans (s1:=⟨Fr 19 [p6,p4,p3,p2],[p5]⟩) Wk.none (Ae [0] ⟨⟨_,rfl,O0⟩,trivial⟩ ⟨lv,lv,lv,lv,trivial⟩)) (Qa x0 _ [] 0 _ hr8)) ?_;refine AK AC [(2,hd 0 (r8.map (cdL 5 AA).enc))] [mk 1 22 (r8.map (cdL 5 AA).enc)] ?_;refine AN ?_;have hq:=OI h; subst hq
 let p7:Nat×AV:=(2,.sl 1 (r8.map (cdL 5 AA).enc))
 exact ⟨⟨Fr 19 [p7],[]⟩,(Wk.trans (s1:=⟨Fr 19 [p7],[none]⟩) (Kg 0 (.inl kr) ⟨.inl rfl,trivial⟩ ⟨⟨hd 0 (r8.map (cdL 5 AA).enc),kr,W6 (t:=22) kr Of⟩,trivial⟩) (Ae [] trivial ⟨lv,trivial⟩)),.inr rfl,[.sl 1 (r8.map (cdL 5 AA).enc)],kr,kr⟩
def UU:List AV->Option AV:=Dk K4 (fun a=>Ha a.1) LQ
theorem Us:XOk 91 UU:=by
 refine AQ Tryz.func91 (c:=Kk) ?h2 ⟨Tryz.call91⟩ K4 (fun a=>Ha a.1) LQ (fun a=>(by show 1<=19; decide)) ?h3 ?h4
 case h2=>kernel_rfl
 case h3=>intro b; kernel_rfl
 case h4=>exact fun a b h=>Rv a.1 b h
/- trestle/trestlekit.CopyWords -/
noncomputable def Ki:Code:=A3 Tryz.f148
def EV (x0:(List (List UInt8))):Nat->(List (List UInt8))->Int->Option (((List (List UInt8))))
 | 0,_,_=>none
 | f + 1,c1,c2 =>
  if (decide (c2 < (x0.length:Int)))=true then
  (idx x0 c2).bind fun v4 =>
  if (Gd 16 (c1.length + 1))=true then
  EV x0 f (c1++[v4]) (wr .i64 (c2 + 1))
  else none
  else
  some c1
def IE (x0:(List (List UInt8))):Option ((List (List UInt8))) :=
 (EV x0 100000 [] 0).bind fun r7 =>
 some r7
def K0:Cs ((List (List UInt8))×Unit):=(csC (cdL 1 cdS) csN)
def LN (r:(List (List UInt8))):AV:=(cdL 1 cdS).enc r
theorem QZ (x0:(List (List UInt8))):∀ (f:Nat) (c1:(List (List UInt8))) (c2:Int) (r:((List (List UInt8)))),EV x0 f c1 c2=some r->SemN E0 ⟨none,false⟩ (pc Ki [1,1,0,1,0,0]) f ⟨Fr 19 [(0,.sl 1 (x0.map cdS.enc)),(3,hd 0 (c1.map cdS.enc)),(4,.v (.int .i64 c2))],[mk 1 9 (c1.map cdS.enc)]⟩ (fun e s=>e=(.exit 0)/\Wk E0 s ⟨Fr 19 [(3,hd 0 (r.map cdS.enc))],[mk 1 9 (r.map cdS.enc)]⟩):=by
 intro f;induction f with
 | zero=>intro c1 c2 r h; cases h
 | succ f ih0 =>
  intro c1 c2 r h
  have ih:=fun (c1:(List (List UInt8))) (c2:Int)=>ih0 c1 c2 r
  unfold EV at h;refine BR ?_;refine AG ?_;refine AG ?_
  let p1:Option Blk:=mk 1 9 (c1.map cdS.enc)
  let p2:Nat×AV:=(4,.v (.int .i64 c2))
  let p3:Nat×AV:=(0,.sl 1 (x0.map cdS.enc))
  refine AL (s1:=⟨Fr 19 [p3,(3,hd 0 (c1.map cdS.enc)),p2,(8,.v (.bool (decide (c2 < (x0.length:Int)))))],[p1]⟩) ?_ ?_
  ·refine AD (n:=19) AC 2 [p3,(3,hd 0 (c1.map cdS.enc)),p2,(5,.v (.int .i64 c2)),(6,.sl 1 (x0.map cdS.enc))] [p1] kr ?_
   refine AS AC 0 rfl (DH (AB rfl) rfl (CX (a:= .sl 1 (x0.map cdS.enc)) kr (BS (el:=9) kr))) ?_;exact AX AC
  refine AP (b:=(decide (c2 < (x0.length:Int)))) kr (fun hb3=>?_) (fun hb3=>?_)
  ·rw [if_pos hb3] at h
   refine AT ?_;refine AG ?_;refine AZ ?_;obtain ⟨v4,hv4,h⟩:=OB h;by_cases hk5:(Gd 16 (c1.length + 1))=true
   case neg=>rw [if_neg hk5] at h; cases h
   rw [if_pos hk5] at h
   let p4:Option Blk:=mk 1 9 ((c1++[v4]).map cdS.enc)
   let p5:Nat×AV:=(3,hd 0 ((c1++[v4]).map cdS.enc))
   refine AL (s1:=⟨Fr 19 [p3,p5,p2],[p4]⟩) ?_ ?_
   ·refine AD (n:=19) AC 3 [p3,p2,(11,hd 0 (c1.map cdS.enc)),(12,.sl 1 (x0.map cdS.enc)),(13,.v (.int .i64 c2))] [p1] kr ?_
    refine AS AC 0 rfl (DH (AB rfl) rfl (AW (a:= .sl 1 (x0.map cdS.enc)) (b:= .v (.int .i64 c2)) kr kr (DK (e:=cdS.enc) (el:=9) (k:=1) (ki:= .i64) kr kr hv4))) ?_;refine AD (n:=19) AC 2 [p3,p2,(11,hd 0 (c1.map cdS.enc)),(16,hd 1 ([v4].map cdS.enc))] [p1,mk 1 9 ([v4].map cdS.enc)] kr ?_;refine AS AC 0 rfl (Xg (AB rfl) rfl kr kr (Eb (a:=hd 0 (c1.map cdS.enc)) (b:=hd 1 ([v4].map cdS.enc)) kr kr (MZ (c:=cdS) (xs:=c1) (vs:=[v4]) (k:=1) (bytes:=16) (el:=9) kr kr (G5 (t:=9) kr) (List.cons_ne_nil _ _) kr hk5))) ?_;refine AD (n:=19) AC 1 [p3,(3,hd 2 ((c1++[v4]).map cdS.enc)),p2] [none,mk 1 9 ([v4].map cdS.enc),p4] kr ?_;exact AI rfl (Ae [2] ⟨⟨_,rfl,IX⟩,trivial⟩ ⟨lv,Id (b':=2) kr kr,lv,trivial⟩)
   let p6:Nat×AV:=(4,.v (.int .i64 (wr .i64 (c2 + 1))))
   refine Ci AC [p3,p5,p6] [p4] ?_;exact Ab (s1:=⟨Fr 19 [p3,p5,p6],[p4]⟩) (Ae [0] ⟨⟨_,rfl,IX⟩,trivial⟩ ⟨lv,Id (b':=0) kr kr,lv,trivial⟩) (ih (c1++[v4]) (wr .i64 (c2 + 1)) h)
  ·rw [BY hb3] at h
   refine Bi ?_;have hq:=OI h; subst hq;exact ⟨rfl,(Ae [0] ⟨⟨_,rfl,IX⟩,trivial⟩ ⟨Id (b':=0) kr kr,trivial⟩)⟩
theorem Rs (x0:(List (List UInt8))) (r:(List (List UInt8))) (h:IE x0=some r):Sem E0 ⟨none,false⟩ Ki ⟨Fr 19 (Av 0 (K0.enc (x0,()))),[]⟩ fun e s'=>(e = .normal\/e = .ret)/\∃ xs,D6 E0.P s'.fr s'.hp Tryz.f148.results.toList=some xs/\EA xs=LN r:=by
 unfold IE at h
 let p1:Nat×AV:=(0,.sl 1 (x0.map cdS.enc))
 refine Aj (A8 (s1:=⟨Fr 19 [p1],[]⟩) AJ ?_);refine AK AC [p1] [] ?_;refine AK AC [p1,(3,.e0)] [] ?_;refine AG ?_
 let p2:Nat×AV:=(4,.v (.int .i64 0))
 refine AK AC [p1,(3,.e0),p2] [] ?_;refine AZ ?_;obtain ⟨r7,hr7,h⟩:=OB h;refine Bj (n:=100000) ?_;refine Ao (Ab (s1:=⟨Fr 19 [p1,(3,hd 0 ([].map cdS.enc)),p2],[mk 1 9 ([].map cdS.enc)]⟩) (Wk.trans (s1:=⟨Fr 19 [p1,(3,hd 0 ([].map cdS.enc)),p2],[mk 1 9 ([].map cdS.enc)]⟩) Wk.none (Ae [0] ⟨⟨_,rfl,O0⟩,trivial⟩ ⟨lv,lv,lv,trivial⟩)) (QZ x0 _ [] 0 _ hr7)) ?_;refine AK AC [(2,hd 0 (r7.map cdS.enc))] [mk 1 9 (r7.map cdS.enc)] ?_;refine AN ?_;have hq:=OI h; subst hq;exact ⟨⟨Fr 19 [(2,.sl 1 (r7.map cdS.enc))],[]⟩,(Wk.trans (s1:=⟨Fr 19 [(2,.sl 1 (r7.map cdS.enc))],[none]⟩) (Kg 0 (.inl kr) ⟨.inl rfl,trivial⟩ ⟨⟨hd 0 (r7.map cdS.enc),kr,W6 (t:=9) kr Of⟩,trivial⟩) (Ae [] trivial ⟨lv,trivial⟩)),.inr rfl,[.sl 1 (r7.map cdS.enc)],kr,kr⟩
def UR:List AV->Option AV:=Dk K0 (fun a=>IE a.1) LN
theorem Up:XOk 148 UR:=by
 refine AQ Tryz.func148 (c:=Ki) ?h2 ⟨Tryz.call148⟩ K0 (fun a=>IE a.1) LN (fun a=>(by show 1<=19; decide)) ?h3 ?h4
 case h2=>kernel_rfl
 case h3=>intro b; kernel_rfl
 case h4=>exact fun a b h=>Rs a.1 b h
/- trestle/trestlekit.CopyGuest -/
noncomputable def OX:Code:=A3 Tryz.f114
def HX (x0:Ai):Option (Ai) :=
 (IE x0.2.2.2.2.2.2.2.2).bind fun v1 =>
 some (x0.1,x0.2.1,x0.2.2.1,x0.2.2.2.1,x0.2.2.2.2.1,x0.2.2.2.2.2.1,x0.2.2.2.2.2.2.1,x0.2.2.2.2.2.2.2.1,v1)
def Kz:Cs (Ai×Unit):=(csC AE csN)
def LM (r:Ai):AV:=AE.enc r
theorem Rr (x0:Ai) (r:Ai) (h:HX x0=some r):Sem E0 ⟨none,false⟩ OX ⟨Fr 8 (Av 0 (Kz.enc (x0,()))),[]⟩ fun e s'=>(e = .normal\/e = .ret)/\∃ xs,D6 E0.P s'.fr s'.hp Tryz.f114.results.toList=some xs/\EA xs=LM r:=by
 unfold HX at h;refine Aj (A8 (s1:=⟨Fr 8 [(0,AE.enc x0)],[]⟩) AJ ?_)
 let p1:Option Blk:=some ⟨9,42,[.ag [.st [],.st [],.st [],.v (.int .i64 0),.v (.int .i64 0),.st [],.v (.bool false),.v (.bool false),.e0]],false⟩
 let p2:Option Blk:=some ⟨9,42,[AE.enc x0],false⟩
 let p3:Nat×AV:=(2,.pt 1 0 0)
 refine AK AC [(1,.pt 0 0 0),p3] [p2,p1] ?_;refine AG ?_;obtain ⟨v1,hv1,h⟩:=OB h
 let p4:Option Blk:=some ⟨9,42,[.ag [.st x0.1,.st x0.2.1,.st x0.2.2.1,.v (.int .i64 x0.2.2.2.1),.v (.int .i64 x0.2.2.2.2.1),.st x0.2.2.2.2.2.1,.v (.bool x0.2.2.2.2.2.2.1),.v (.bool x0.2.2.2.2.2.2.2.1),.sl 1 (v1.map cdS.enc)]],false⟩
 refine AL (s1:=⟨Fr 8 [(1,.pt 0 0 0),p3],[p4,p1]⟩) ?_ ?_
 ·refine AD (n:=8) AC 2 [(1,.pt 0 0 0),p3,(4,.sl 1 (x0.2.2.2.2.2.2.2.2.map cdS.enc))] [p2,p1] kr ?_
  refine AR (caps:=[]) (xs:=[.sl 1 (x0.2.2.2.2.2.2.2.2.map cdS.enc)]) (u:=(x0.2.2.2.2.2.2.2.2,())) rfl rfl Up rfl (AB rfl) kr kr (AM (AU (c:=(cdL 1 cdS)) (v:=x0.2.2.2.2.2.2.2.2)) Af) (.inr kr) hv1 ?_;exact AX AC
 refine AG ?_;refine AL (s1:=⟨Fr 8 [(2,.pt 0 0 0)],[p4]⟩) ?_ ?_
 ·refine AD (n:=8) AC 2 [p3] [p4,p4] kr ?_
  exact AI rfl (Ae [1] ⟨⟨_,rfl,Gy⟩,trivial⟩ ⟨lv,trivial⟩)
 refine AN ?_;have hq:=OI h; subst hq;exact ⟨⟨Fr 8 [(2,.pt 0 0 0)],[p4]⟩,(Ae [0] ⟨⟨_,rfl,Gy⟩,trivial⟩ ⟨lv,trivial⟩),.inr rfl,[.ag [.st x0.1,.st x0.2.1,.st x0.2.2.1,.v (.int .i64 x0.2.2.2.1),.v (.int .i64 x0.2.2.2.2.1),.st x0.2.2.2.2.2.1,.v (.bool x0.2.2.2.2.2.2.1),.v (.bool x0.2.2.2.2.2.2.2.1),.sl 1 (v1.map cdS.enc)]],kr,kr⟩
def UQ:List AV->Option AV:=Dk Kz (fun a=>HX a.1) LM
theorem Uo:XOk 114 UQ:=by
 refine AQ Tryz.func114 (c:=OX) ?h2 ⟨Tryz.call114⟩ Kz (fun a=>HX a.1) LM (fun a=>(by show 1<=8; decide)) ?h3 ?h4
 case h2=>kernel_rfl
 case h3=>intro b; kernel_rfl
 case h4=>exact fun a b h=>Rr a.1 b h
/- trestle/trestlekit.CopyGuests -/
noncomputable def Jq:Code:=A3 Tryz.f60
def DN (x0:(List Ai)):Nat->(List Ai)->Int->Option (((List Ai)))
 | 0,_,_=>none
 | f + 1,c1,c2 =>
  if (decide (c2 < (x0.length:Int)))=true then
  (idx x0 c2).bind fun v4 =>
  (HX v4).bind fun v5 =>
  if (Gd 112 (c1.length + 1))=true then
  DN x0 f (c1++[v5]) (wr .i64 (c2 + 1))
  else none
  else
  some c1
def Gk (x0:(List Ai)):Option ((List Ai)) :=
 (DN x0 100000 [] 0).bind fun r8 =>
 some r8
def Jv:Cs ((List Ai)×Unit):=(csC (cdL 9 AE) csN)
def J1 (r:(List Ai)):AV:=(cdL 9 AE).enc r
theorem Pt (x0:(List Ai)):∀ (f:Nat) (c1:(List Ai)) (c2:Int) (r:((List Ai))),DN x0 f c1 c2=some r->SemN E0 ⟨none,false⟩ (pc Jq [1,1,0,1,0,0]) f ⟨Fr 20 [(0,.sl 9 (x0.map AE.enc)),(3,hd 0 (c1.map AE.enc)),(4,.v (.int .i64 c2))],[mk 9 42 (c1.map AE.enc)]⟩ (fun e s=>e=(.exit 0)/\Wk E0 s ⟨Fr 20 [(3,hd 0 (r.map AE.enc))],[mk 9 42 (r.map AE.enc)]⟩):=by
 intro f;induction f with
 | zero=>intro c1 c2 r h; cases h
 | succ f ih0 =>
  intro c1 c2 r h
  have ih:=fun (c1:(List Ai)) (c2:Int)=>ih0 c1 c2 r
  unfold DN at h;refine BR ?_;refine AG ?_;refine AG ?_
  let p1:Option Blk:=mk 9 42 (c1.map AE.enc)
  let p2:Nat×AV:=(4,.v (.int .i64 c2))
  let p3:Nat×AV:=(0,.sl 9 (x0.map AE.enc))
  refine AL (s1:=⟨Fr 20 [p3,(3,hd 0 (c1.map AE.enc)),p2,(8,.v (.bool (decide (c2 < (x0.length:Int)))))],[p1]⟩) ?_ ?_
  ·refine AD (n:=20) AC 2 [p3,(3,hd 0 (c1.map AE.enc)),p2,(5,.v (.int .i64 c2)),(6,.sl 9 (x0.map AE.enc))] [p1] kr ?_
   refine AS AC 0 rfl (DH (AB rfl) rfl (CX (a:= .sl 9 (x0.map AE.enc)) kr (BS (el:=42) kr))) ?_;exact AX AC
  refine AP (b:=(decide (c2 < (x0.length:Int)))) kr (fun hb3=>?_) (fun hb3=>?_)
  ·rw [if_pos hb3] at h
   refine AT ?_;refine AG ?_;refine AZ ?_;obtain ⟨v4,hv4,h⟩:=OB h;obtain ⟨v5,hv5,h⟩:=OB h;by_cases hk6:(Gd 112 (c1.length + 1))=true
   case neg=>rw [if_neg hk6] at h; cases h
   rw [if_pos hk6] at h
   let p4:Option Blk:=mk 9 42 ((c1++[v5]).map AE.enc)
   let p5:Nat×AV:=(3,hd 0 ((c1++[v5]).map AE.enc))
   refine AL (s1:=⟨Fr 20 [p3,p5,p2],[p4]⟩) ?_ ?_
   ·let p6:Nat×AV:=(11,hd 0 (c1.map AE.enc))
    refine AD (n:=20) AC 3 [p3,p2,p6,(12,.sl 9 (x0.map AE.enc)),(13,.v (.int .i64 c2))] [p1] kr ?_;refine AS AC 0 rfl (DH (AB rfl) rfl (AW (a:= .sl 9 (x0.map AE.enc)) (b:= .v (.int .i64 c2)) kr kr (DK (e:=AE.enc) (el:=42) (k:=9) (ki:= .i64) kr kr hv4))) ?_;refine AD (n:=20) AC 1 [p3,p2,p6,(15,AE.enc v4)] [p1] kr ?_;refine AR (caps:=[]) (xs:=[AE.enc v4]) (u:=(v4,())) rfl rfl Uo rfl (AB rfl) kr kr (AM (AU (c:=AE) (v:=v4)) Af) (.inr kr) hv5 ?_;refine AD (n:=20) AC 1 [p3,p2,p6,(17,hd 1 ([v5].map AE.enc))] [p1,mk 9 42 ([v5].map AE.enc)] kr ?_;refine AS AC 0 rfl (Xg (AB rfl) rfl kr kr (Eb (a:=hd 0 (c1.map AE.enc)) (b:=hd 1 ([v5].map AE.enc)) kr kr (MZ (c:=AE) (xs:=c1) (vs:=[v5]) (k:=9) (bytes:=112) (el:=42) kr kr (G5 (t:=42) kr) (List.cons_ne_nil _ _) kr hk6))) ?_;refine AD (n:=20) AC 1 [p3,(3,hd 2 ((c1++[v5]).map AE.enc)),p2] [none,mk 9 42 ([v5].map AE.enc),p4] kr ?_;exact AI rfl (Ae [2] ⟨⟨_,rfl,IX⟩,trivial⟩ ⟨lv,Id (b':=2) kr kr,lv,trivial⟩)
   let p7:Nat×AV:=(4,.v (.int .i64 (wr .i64 (c2 + 1))))
   refine Ci AC [p3,p5,p7] [p4] ?_;exact Ab (s1:=⟨Fr 20 [p3,p5,p7],[p4]⟩) (Ae [0] ⟨⟨_,rfl,IX⟩,trivial⟩ ⟨lv,Id (b':=0) kr kr,lv,trivial⟩) (ih (c1++[v5]) (wr .i64 (c2 + 1)) h)
  ·rw [BY hb3] at h
   refine Bi ?_;have hq:=OI h; subst hq;exact ⟨rfl,(Ae [0] ⟨⟨_,rfl,IX⟩,trivial⟩ ⟨Id (b':=0) kr kr,trivial⟩)⟩
theorem Q7 (x0:(List Ai)) (r:(List Ai)) (h:Gk x0=some r):Sem E0 ⟨none,false⟩ Jq ⟨Fr 20 (Av 0 (Jv.enc (x0,()))),[]⟩ fun e s'=>(e = .normal\/e = .ret)/\∃ xs,D6 E0.P s'.fr s'.hp Tryz.f60.results.toList=some xs/\EA xs=J1 r:=by
 unfold Gk at h
 let p1:Nat×AV:=(0,.sl 9 (x0.map AE.enc))
 refine Aj (A8 (s1:=⟨Fr 20 [p1],[]⟩) AJ ?_);refine AK AC [p1] [] ?_;refine AK AC [p1,(3,.e0)] [] ?_;refine AG ?_
 let p2:Nat×AV:=(4,.v (.int .i64 0))
 refine AK AC [p1,(3,.e0),p2] [] ?_;refine AZ ?_;obtain ⟨r8,hr8,h⟩:=OB h;refine Bj (n:=100000) ?_;refine Ao (Ab (s1:=⟨Fr 20 [p1,(3,hd 0 ([].map AE.enc)),p2],[mk 9 42 ([].map AE.enc)]⟩) (Wk.trans (s1:=⟨Fr 20 [p1,(3,hd 0 ([].map AE.enc)),p2],[mk 9 42 ([].map AE.enc)]⟩) Wk.none (Ae [0] ⟨⟨_,rfl,O0⟩,trivial⟩ ⟨lv,lv,lv,trivial⟩)) (Pt x0 _ [] 0 _ hr8)) ?_;refine AK AC [(2,hd 0 (r8.map AE.enc))] [mk 9 42 (r8.map AE.enc)] ?_;refine AN ?_;have hq:=OI h; subst hq
 let p3:Nat×AV:=(2,.sl 9 (r8.map AE.enc))
 exact ⟨⟨Fr 20 [p3],[]⟩,(Wk.trans (s1:=⟨Fr 20 [p3],[none]⟩) (Kg 0 (.inl kr) ⟨.inl rfl,trivial⟩ ⟨⟨hd 0 (r8.map AE.enc),kr,W6 (t:=42) kr Of⟩,trivial⟩) (Ae [] trivial ⟨lv,trivial⟩)),.inr rfl,[.sl 9 (r8.map AE.enc)],kr,kr⟩
def S0:List AV->Option AV:=Dk Jv (fun a=>Gk a.1) J1
theorem S6:XOk 60 S0:=by
 refine AQ Tryz.func60 (c:=Jq) ?h2 ⟨Tryz.call60⟩ Jv (fun a=>Gk a.1) J1 (fun a=>(by show 1<=20; decide)) ?h3 ?h4
 case h2=>kernel_rfl
 case h3=>intro b; kernel_rfl
 case h4=>exact fun a b h=>Q7 a.1 b h
noncomputable def KL:Code:=A3 Tryz.f44
def Df (xs:List Int):Option Blk:=some ⟨1,3,xs.map cdI.enc,false⟩
set_option maxRecDepth 100000 in
theorem NA (xs:List Int) (hc:Gd 8 xs.length=true):Sem E0 ⟨none,false⟩ KL ⟨Fr 8 [(0,.sl 1 (xs.map cdI.enc))],[]⟩ fun e s'=>(e = .normal\/e = .ret)/\((xs=[]/\s'=⟨Fr 8 [(2,.e0)],[]⟩)\/s'=⟨Fr 8 [(2,.rf 0 0 xs.length xs.length)],[Df xs]⟩):=by
 refine AG ?_
 refine AL (s1:=⟨Fr 8 [(0,.sl 1 (xs.map cdI.enc)),(2,.e0)],[]⟩) ?_ ?_
 ·refine IB AC 1 (s1:=⟨Fr 8 [(0,.sl 1 (xs.map cdI.enc)),(2,.e0)],[]⟩) (by kernel_rfl) ?_
  exact AI rfl AJ
 refine AG ?_
 refine AG (TE ?_)
 refine IB AC 1 (s1:=⟨Fr 8 [(0,.sl 1 (xs.map cdI.enc)),(2,.e0),(3,.sl 1 (xs.map cdI.enc))],[]⟩) (by kernel_rfl) ?_
 refine VP (k:=1) (el:=3) (es:=xs.map cdI.enc) rfl (AB rfl) (by kernel_rfl) (by kernel_rfl) fun b hb=>AI rfl ?_
 have hb:b=true->xs=[]:=fun h=>List.map_eq_nil_iff.1 (hb h)
 refine AP (b:=b) (by kernel_rfl) (fun hb1=>?_) (fun hb1=>?_)
 ·have hx:=hb hb1
  refine Aj ?_
  refine AG (AL (s1:=⟨Fr 8 [(2,.e0)],[]⟩) ?_ (AN ?_))
  ·refine IB AC 1 (s1:=⟨Fr 8 [(0,.sl 1 (xs.map cdI.enc)),(2,.e0),(3,.sl 1 (xs.map cdI.enc)),(4,.v (.bool b))],[]⟩) (by kernel_rfl) ?_
   exact AI rfl AJ
  ·exact ⟨_,Wk.refl,.inr rfl,.inl ⟨hx,rfl⟩⟩
 ·refine AT ?_
  refine Aj (AG (TE ?_))
  refine IB AC 2 (s1:=⟨Fr 8 [(0,.sl 1 (xs.map cdI.enc)),(2,.e0),(3,.sl 1 (xs.map cdI.enc)),(4,.v (.bool b)),(5,.rf 0 0 0 0),(6,.sl 1 (xs.map cdI.enc))],[Df []]⟩) (by kernel_rfl) ?_
  cases xs with
  | nil =>
   refine AS AC 0 rfl (Xg (x:= .rf 0 0 0 0) (hp':=[Df []]) (AB rfl) rfl (by kernel_rfl) (by kernel_rfl) (by kernel_rfl)) ?_
   refine IB AC 1 (s1:=⟨Fr 8 [(0,.sl 1 []),(2,.rf 0 0 0 0),(3,.sl 1 []),(4,.v (.bool b)),(5,.rf 0 0 0 0),(6,.sl 1 []),(7,.rf 0 0 0 0)],[Df []]⟩) (by kernel_rfl) (AI rfl (AN ?_))
   exact ⟨⟨Fr 8 [(2,.rf 0 0 0 0)],[Df []]⟩,AJ,.inr rfl,.inr rfl⟩
  | cons y ys =>
   refine AS AC 0 rfl (Xg (AB rfl) rfl (by kernel_rfl) (by kernel_rfl) (Eb (a:= .rf 0 0 0 0) (b:= .sl 1 ((y::ys).map cdI.enc)) (by kernel_rfl) (by kernel_rfl) (Pj (c:=cdI) (xs:=[]) (vs:=y::ys) (k:=1) (bytes:=8) (el:=3) (by kernel_rfl) (by kernel_rfl) YY (List.cons_ne_nil _ _) (by kernel_rfl) (by rw [List.length_nil,Nat.zero_add]; exact hc)))) ?_
   refine IB AC 1 (s1:=⟨Fr 8 [(0,.sl 1 ((y::ys).map cdI.enc)),(2,.rf 1 0 (y::ys).length (y::ys).length),(3,.sl 1 ((y::ys).map cdI.enc)),(4,.v (.bool b)),(5,.rf 0 0 0 0),(6,.sl 1 ((y::ys).map cdI.enc)),(7,.rf 1 0 (y::ys).length (y::ys).length)],[none,Df (y::ys)]⟩) (by kernel_rfl) (AI rfl (AN ?_))
   exact ⟨⟨Fr 8 [(2,.rf 0 0 (y::ys).length (y::ys).length)],[Df (y::ys)]⟩,Ae [1] ⟨⟨_,rfl,NT⟩,trivial⟩ ⟨lv,trivial⟩,.inr rfl,.inr rfl⟩
/-- .. as it is told to those who only read. -/
def EP (xs:List Int):Option (List Int):=if Gd 8 xs.length=true then some xs else none
def KN:Cs (List Int×Unit):=csC (cdL 1 cdI) csN
def KO (r:List Int):AV:=(cdL 1 cdI).enc r
def Py:List AV->Option AV:=Dk KN (fun a=>EP a.1) KO
theorem P2:XOk 44 Py:=by
 refine EnvOk.x (E:=E0) (Xs AC (fn:=Tryz.f44) (c:=KL) ?h1 ?h2 ⟨Tryz.call44⟩ KN (fun a=>EP a.1) KO (fun a=>(by show 1<=8; decide)) ?h3 ?h4) rfl rfl
 case h1=>kernel_rfl
 case h2=>kernel_rfl
 case h3=>intro b; kernel_rfl
 case h4 =>
  intro a r h
  have h:EP a.1=some r:=h
  unfold EP at h
  by_cases hc:Gd 8 a.1.length=true
  ·rw [if_pos hc] at h
   injection h with h
   subst h
   refine Aj (Sem.mono (NA a.1 hc) ?_)
   rintro e s' ⟨he,⟨hx,rfl⟩ | rfl⟩
   ·rw [hx]
    exact ⟨⟨Fr 8 [(2,.sl 1 [])],[none]⟩,Wk.trans (s1:=⟨Fr 8 [(2,.e0)],[none]⟩) Wk.none (Kg 0 (.inl (by kernel_rfl)) ⟨.inl rfl,trivial⟩ ⟨⟨.e0,(by kernel_rfl),ABR⟩,trivial⟩),he,[.sl 1 []],by kernel_rfl,by kernel_rfl⟩
   ·exact ⟨⟨Fr 8 [(2,.sl 1 (a.1.map cdI.enc))],[none]⟩,Kg 0 (.inl (by kernel_rfl)) ⟨.inl rfl,trivial⟩ ⟨⟨.rf 0 0 a.1.length a.1.length,(by kernel_rfl),AEU (c:=cdI) (xs:=a.1) (t:=3) (by kernel_rfl)⟩,trivial⟩,he,[.sl 1 (a.1.map cdI.enc)],by kernel_rfl,by kernel_rfl⟩
  ·rw [if_neg hc] at h; cases h
/- trestle/trestleref03.between -/
noncomputable def Ob:Code:=A3 Tryz.f170
def Bb (x0:Int) (x1:Int) (x2:Int):Option (Bool) :=
 (if (decide (x1<=x0))=true then some (decide (x0<=x2)) else some false).bind fun j2 =>
 some j2
def K7:Cs (Int×Int×Int×Unit):=(csC cdI (csC cdI (csC cdI csN)))
def LU (r:Bool):AV:=cdB.enc r
theorem SF (x0:Int) (x1:Int) (x2:Int) (r:Bool) (h:Bb x0 x1 x2=some r):Sem E0 ⟨none,false⟩ Ob ⟨Fr 15 (Av 0 (K7.enc (x0,x1,x2,()))),[]⟩ fun e s'=>(e = .normal\/e = .ret)/\∃ xs,D6 E0.P s'.fr s'.hp Tryz.f170.results.toList=some xs/\EA xs=LU r:=by
 unfold Bb at h;refine Aj (A8 (s1:=⟨Fr 15 [(0,.v (.int .i64 x0)),(1,.v (.int .i64 x1)),(2,.v (.int .i64 x2))],[]⟩) AJ ?_);refine AK AC [(0,.v (.int .i64 x0)),(1,.v (.int .i64 x1)),(2,.v (.int .i64 x2))] [] ?_;refine AG ?_;obtain ⟨j2,hj2,h⟩:=OB h;refine AL (s1:=⟨Fr 15 [(6,.v (.bool j2))],[]⟩) ?_ ?_
 ·refine AD (n:=15) AC 4 [(0,.v (.int .i64 x0)),(2,.v (.int .i64 x2)),(10,.v (.bool (decide (x1<=x0))))] [] kr ?_
  rcases BE (decide (x1<=x0)) with hc3 | hc3
  ·rw [if_pos hc3] at hj2
   rw [hc3];refine AD (n:=15) AC 5 [(6,.v (.bool (decide (x0<=x2))))] [] kr ?_;have hq:=OI hj2; subst hq;exact AI rfl AJ
  ·rw [BY hc3] at hj2
   rw [hc3];refine AD (n:=15) AC 5 [(6,.v (.bool false))] [] kr ?_;have hq:=OI hj2; subst hq;exact AI rfl AJ
 refine AN ?_;have hq:=OI h; subst hq;exact ⟨⟨Fr 15 [(6,.v (.bool j2))],[]⟩,AJ,.inr rfl,[.v (.bool j2)],kr,kr⟩
def UX:List AV->Option AV:=Dk K7 (fun a=>Bb a.1 a.2.1 a.2.2.1) LU
theorem FK:XOk 170 UX:=by
 refine AQ Tryz.func170 (c:=Ob) ?h2 ⟨Tryz.call170⟩ K7 (fun a=>Bb a.1 a.2.1 a.2.2.1) LU (fun a=>(by show 3<=15; decide)) ?h3 ?h4
 case h2=>kernel_rfl
 case h3=>intro b; kernel_rfl
 case h4=>exact fun a b h=>SF a.1 a.2.1 a.2.2.1 b h
/- trestle/trestleref03.formed -/
noncomputable def HC:Code:=A3 Tryz.f168
def H9 (x0:AF):Option ((Bool)) :=
 if (x0.1==8)=true then
 some (x0.1==8)
 else
 some (x0.1==9)
def H8 (x0:AF):Option ((Bool)) :=
 if (x0.1==3)=true then
 some (x0.1==3)
 else
 (H9 x0).bind fun r14 =>
 some r14
def H7 (x0:AF):Option ((Bool)) :=
 if (x0.1==2)=true then
 some (x0.1==2)
 else
 (H8 x0).bind fun r15 =>
 some r15
def IA (x0:AF):Option ((Bool)) :=
 if (x0.1==6)=true then
 some (x0.1==6)
 else
 some (x0.1==7)
def BJ (x0:AF):Option (Bool) :=
 if (x0.1==1)=true then
 (Bb (x0.2.2.2.1.length:Int) 1 16).bind fun v2 =>
 (if v2=true then if (x0.2.2.2.2==0)=true then if (!x0.2.2.1)=true then some (x0.2.1==[]) else some false else some false else some false).bind fun j4 =>
 some j4
 else
 (H7 x0).bind fun r16 =>
 if r16=true then
 (if ((x0.2.2.2.1.length:Int)==0)=true then if (x0.2.2.2.2==0)=true then some (!x0.2.2.1) else some false else some false).bind fun j19 =>
 some j19
 else
 if (x0.1==4)=true then
 (if ((x0.2.2.2.1.length:Int)==0)=true then (Bb x0.2.2.2.2 1 2).bind fun v23 =>
 some v23 else some false).bind fun j25 =>
 some j25
 else
 if (x0.1==5)=true then
 (if ((x0.2.2.2.1.length:Int)==0)=true then some (x0.2.2.2.2==0) else some false).bind fun j29 =>
 some j29
 else
 (IA x0).bind fun r33 =>
 if r33=true then
 (Bb (x0.2.2.2.1.length:Int) 1 16).bind fun v35 =>
 (if v35=true then some (x0.2.2.2.2==0) else some false).bind fun j37 =>
 some j37
 else
 if (x0.1==10)=true then
 (if ((x0.2.2.2.1.length:Int)==0)=true then (Bb x0.2.2.2.2 0 63).bind fun v40 =>
 if v40=true then some (!x0.2.2.1) else some false else some false).bind fun j42 =>
 some j42
 else
 some false
def MC:Cs (AF×Unit):=(csC AA csN)
def MJ (r:Bool):AV:=cdB.enc r
theorem RG (x0:AF) (r:(Bool)) (h:H9 x0=some r):Sem E0 ⟨none,false⟩ (pc HC [1,1,0,1,0,1,1,0,1,1,1,1,1]) ⟨Fr 87 [(1,.pt 0 0 0),(3,.v (.int .i64 (x0.2.2.2.1.length:Int))),(8,.v (.int .u8 x0.1)),(28,.v (.bool (x0.1==8)))],[some ⟨5,60,[AA.enc x0],false⟩]⟩ (fun e s=>e = .normal/\Wk E0 s ⟨Fr 87 [(1,.pt 0 0 0),(3,.v (.int .i64 (x0.2.2.2.1.length:Int))),(8,.v (.int .u8 x0.1)),(28,.v (.bool r))],[some ⟨5,60,[AA.enc x0],false⟩]⟩):=by
 unfold H9 at h;refine AP (b:=(x0.1==8)) kr (fun hb12=>?_) (fun hb12=>?_)
 ·rw [if_pos hb12] at h
  refine AT ?_;have hq:=OI h; subst hq;exact ⟨rfl,(Ae [0] ⟨⟨_,rfl,Gy⟩,trivial⟩ ⟨lv,lv,lv,lv,trivial⟩)⟩
 ·rw [BY hb12] at h
  refine Ci AC [(1,.pt 0 0 0),(3,.v (.int .i64 (x0.2.2.2.1.length:Int))),(8,.v (.int .u8 x0.1)),(28,.v (.bool (x0.1==9)))] [some ⟨5,60,[AA.enc x0],false⟩] ?_;have hq:=OI h; subst hq;exact ⟨rfl,(Ae [0] ⟨⟨_,rfl,Gy⟩,trivial⟩ ⟨lv,lv,lv,lv,trivial⟩)⟩
theorem RF (x0:AF) (r:(Bool)) (h:H8 x0=some r):Sem E0 ⟨none,false⟩ (pc HC [1,1,0,1,0,1,1,0,1,1,1]) ⟨Fr 87 [(1,.pt 0 0 0),(3,.v (.int .i64 (x0.2.2.2.1.length:Int))),(8,.v (.int .u8 x0.1)),(28,.v (.bool (x0.1==3)))],[some ⟨5,60,[AA.enc x0],false⟩]⟩ (fun e s=>e = .normal/\Wk E0 s ⟨Fr 87 [(1,.pt 0 0 0),(3,.v (.int .i64 (x0.2.2.2.1.length:Int))),(8,.v (.int .u8 x0.1)),(28,.v (.bool r))],[some ⟨5,60,[AA.enc x0],false⟩]⟩):=by
 unfold H8 at h;refine AP (b:=(x0.1==3)) kr (fun hb10=>?_) (fun hb10=>?_)
 ·rw [if_pos hb10] at h
  refine AT ?_;have hq:=OI h; subst hq;exact ⟨rfl,(Ae [0] ⟨⟨_,rfl,Gy⟩,trivial⟩ ⟨lv,lv,lv,lv,trivial⟩)⟩
 ·rw [BY hb10] at h
  refine AK AC [(1,.pt 0 0 0),(3,.v (.int .i64 (x0.2.2.2.1.length:Int))),(8,.v (.int .u8 x0.1)),(28,.v (.bool (x0.1==8)))] [some ⟨5,60,[AA.enc x0],false⟩] ?_;obtain ⟨r14,hr14,h⟩:=OB h;refine GU (RG x0 _ hr14) ?_;have hq:=OI h; subst hq;exact ⟨rfl,(Ae [0] ⟨⟨_,rfl,Gy⟩,trivial⟩ ⟨lv,lv,lv,lv,trivial⟩)⟩
theorem RE (x0:AF) (r:(Bool)) (h:H7 x0=some r):Sem E0 ⟨none,false⟩ (pc HC [1,1,0,1,0,1,1,0,1]) ⟨Fr 87 [(1,.pt 0 0 0),(3,.v (.int .i64 (x0.2.2.2.1.length:Int))),(8,.v (.int .u8 x0.1)),(28,.v (.bool (x0.1==2)))],[some ⟨5,60,[AA.enc x0],false⟩]⟩ (fun e s=>e = .normal/\Wk E0 s ⟨Fr 87 [(1,.pt 0 0 0),(3,.v (.int .i64 (x0.2.2.2.1.length:Int))),(8,.v (.int .u8 x0.1)),(28,.v (.bool r))],[some ⟨5,60,[AA.enc x0],false⟩]⟩):=by
 unfold H7 at h;refine AP (b:=(x0.1==2)) kr (fun hb8=>?_) (fun hb8=>?_)
 ·rw [if_pos hb8] at h
  refine AT ?_;have hq:=OI h; subst hq;exact ⟨rfl,(Ae [0] ⟨⟨_,rfl,Gy⟩,trivial⟩ ⟨lv,lv,lv,lv,trivial⟩)⟩
 ·rw [BY hb8] at h
  refine AK AC [(1,.pt 0 0 0),(3,.v (.int .i64 (x0.2.2.2.1.length:Int))),(8,.v (.int .u8 x0.1)),(28,.v (.bool (x0.1==3)))] [some ⟨5,60,[AA.enc x0],false⟩] ?_;obtain ⟨r15,hr15,h⟩:=OB h;refine GU (RF x0 _ hr15) ?_;have hq:=OI h; subst hq;exact ⟨rfl,(Ae [0] ⟨⟨_,rfl,Gy⟩,trivial⟩ ⟨lv,lv,lv,lv,trivial⟩)⟩
theorem RH (x0:AF) (r:(Bool)) (h:IA x0=some r):Sem E0 ⟨none,false⟩ (pc HC [1,1,0,1,0,1,1,1,1,1,1,1,1,0,1]) ⟨Fr 87 [(1,.pt 0 0 0),(3,.v (.int .i64 (x0.2.2.2.1.length:Int))),(8,.v (.int .u8 x0.1)),(63,.v (.bool (x0.1==6)))],[some ⟨5,60,[AA.enc x0],false⟩]⟩ (fun e s=>e = .normal/\Wk E0 s ⟨Fr 87 [(1,.pt 0 0 0),(3,.v (.int .i64 (x0.2.2.2.1.length:Int))),(8,.v (.int .u8 x0.1)),(63,.v (.bool r))],[some ⟨5,60,[AA.enc x0],false⟩]⟩):=by
 unfold IA at h;refine AP (b:=(x0.1==6)) kr (fun hb31=>?_) (fun hb31=>?_)
 ·rw [if_pos hb31] at h
  refine AT ?_;have hq:=OI h; subst hq;exact ⟨rfl,(Ae [0] ⟨⟨_,rfl,Gy⟩,trivial⟩ ⟨lv,lv,lv,lv,trivial⟩)⟩
 ·rw [BY hb31] at h
  refine Ci AC [(1,.pt 0 0 0),(3,.v (.int .i64 (x0.2.2.2.1.length:Int))),(8,.v (.int .u8 x0.1)),(63,.v (.bool (x0.1==7)))] [some ⟨5,60,[AA.enc x0],false⟩] ?_;have hq:=OI h; subst hq;exact ⟨rfl,(Ae [0] ⟨⟨_,rfl,Gy⟩,trivial⟩ ⟨lv,lv,lv,lv,trivial⟩)⟩
theorem Sy (x0:AF) (r:Bool) (h:BJ x0=some r):Sem E0 ⟨none,false⟩ HC ⟨Fr 87 (Av 0 (MC.enc (x0,()))),[]⟩ fun e s'=>(e = .normal\/e = .ret)/\∃ xs,D6 E0.P s'.fr s'.hp Tryz.f168.results.toList=some xs/\EA xs=MJ r:=by
 unfold BJ at h;refine Aj (A8 (s1:=⟨Fr 87 [(0,AA.enc x0)],[]⟩) AJ ?_);refine AK AC [(1,.pt 0 0 0)] [some ⟨5,60,[AA.enc x0],false⟩] ?_;refine AG ?_;refine AL (s1:=⟨Fr 87 [(1,.pt 0 0 0),(3,.v (.int .i64 (x0.2.2.2.1.length:Int)))],[some ⟨5,60,[AA.enc x0],false⟩]⟩) ?_ ?_
 ·refine AD (n:=87) AC 2 [(1,.pt 0 0 0),(5,.sl 1 (x0.2.2.2.1.map cdS.enc))] [some ⟨5,60,[AA.enc x0],false⟩] kr ?_
  refine AS AC 0 rfl (DH (AB rfl) rfl (CX (a:= .sl 1 (x0.2.2.2.1.map cdS.enc)) kr (BS (el:=9) kr))) ?_;exact AX AC
 refine AG ?_;refine AK AC [(1,.pt 0 0 0),(3,.v (.int .i64 (x0.2.2.2.1.length:Int))),(8,.v (.int .u8 x0.1))] [some ⟨5,60,[AA.enc x0],false⟩] ?_;refine AZ ?_;refine AK AC [(1,.pt 0 0 0),(3,.v (.int .i64 (x0.2.2.2.1.length:Int))),(8,.v (.int .u8 x0.1)),(9,.v (.bool (x0.1==1)))] [some ⟨5,60,[AA.enc x0],false⟩] ?_;refine AP (b:=(x0.1==1)) kr (fun hb1=>?_) (fun hb1=>?_)
 ·rw [if_pos hb1] at h
  refine AG ?_;obtain ⟨v2,hv2,h⟩:=OB h;obtain ⟨j4,hj4,h⟩:=OB h;refine AL (s1:=⟨Fr 87 [(2,.v (.bool j4))],[]⟩) ?_ ?_
  ·refine AD (n:=87) AC 1 [(1,.pt 0 0 0),(11,.v (.int .i64 (x0.2.2.2.1.length:Int)))] [some ⟨5,60,[AA.enc x0],false⟩] kr ?_
   refine AR (caps:=[]) (xs:=[.v (.int .i64 (x0.2.2.2.1.length:Int)),.v (.int .i64 1),.v (.int .i64 16)]) (u:=((x0.2.2.2.1.length:Int),1,16,())) rfl rfl FK rfl (AB rfl) kr kr (AM (AU (c:=cdI) (v:=(x0.2.2.2.1.length:Int))) (AM (AU (c:=cdI) (v:=1)) (AM (AU (c:=cdI) (v:=16)) Af))) (.inl kr) hv2 ?_;refine AD (n:=87) AC 1 [(1,.pt 0 0 0),(13,.v (.bool v2))] [some ⟨5,60,[AA.enc x0],false⟩] kr ?_;rcases BE v2 with hc5 | hc5
   ·rw [if_pos hc5] at hj4
    rw [hc5];refine AD (n:=87) AC 5 [(1,.pt 0 0 0),(18,.v (.bool (x0.2.2.2.2==0)))] [some ⟨5,60,[AA.enc x0],false⟩] kr ?_;rcases BE (x0.2.2.2.2==0) with hc6 | hc6
    ·rw [if_pos hc6] at hj4
     rw [hc6];refine AD (n:=87) AC 5 [(1,.pt 0 0 0),(23,.v (.bool (!x0.2.2.1)))] [some ⟨5,60,[AA.enc x0],false⟩] kr ?_;rcases BE (!x0.2.2.1) with hc7 | hc7
     ·rw [if_pos hc7] at hj4
      rw [hc7];refine AD (n:=87) AC 5 [(2,.v (.bool (x0.2.1==[])))] [some ⟨5,60,[AA.enc x0],false⟩] kr ?_;have hq:=OI hj4; subst hq;exact AI rfl (Ae [] trivial ⟨lv,trivial⟩)
     ·rw [BY hc7] at hj4
      rw [hc7];refine AD (n:=87) AC 5 [(2,.v (.bool false))] [some ⟨5,60,[AA.enc x0],false⟩] kr ?_;have hq:=OI hj4; subst hq;exact AI rfl (Ae [] trivial ⟨lv,trivial⟩)
    ·rw [BY hc6] at hj4
     rw [hc6];refine AD (n:=87) AC 10 [(2,.v (.bool false))] [some ⟨5,60,[AA.enc x0],false⟩] kr ?_;have hq:=OI hj4; subst hq;exact AI rfl (Ae [] trivial ⟨lv,trivial⟩)
   ·rw [BY hc5] at hj4
    rw [hc5];refine AD (n:=87) AC 15 [(2,.v (.bool false))] [some ⟨5,60,[AA.enc x0],false⟩] kr ?_;have hq:=OI hj4; subst hq;exact AI rfl (Ae [] trivial ⟨lv,trivial⟩)
  refine AN ?_;have hq:=OI h; subst hq;exact ⟨⟨Fr 87 [(2,.v (.bool j4))],[]⟩,AJ,.inr rfl,[.v (.bool j4)],kr,kr⟩
 ·rw [BY hb1] at h
  refine AG ?_;refine AK AC [(1,.pt 0 0 0),(3,.v (.int .i64 (x0.2.2.2.1.length:Int))),(8,.v (.int .u8 x0.1)),(28,.v (.bool (x0.1==2)))] [some ⟨5,60,[AA.enc x0],false⟩] ?_;obtain ⟨r16,hr16,h⟩:=OB h;refine GU (RE x0 _ hr16) ?_;refine AP (b:=r16) kr (fun hb17=>?_) (fun hb17=>?_)
  ·rw [if_pos hb17] at h
   refine AG ?_;obtain ⟨j19,hj19,h⟩:=OB h;refine AL (s1:=⟨Fr 87 [(2,.v (.bool j19))],[]⟩) ?_ ?_
   ·refine AD (n:=87) AC 3 [(1,.pt 0 0 0),(35,.v (.bool ((x0.2.2.2.1.length:Int)==0)))] [some ⟨5,60,[AA.enc x0],false⟩] kr ?_
    rcases BE ((x0.2.2.2.1.length:Int)==0) with hc20 | hc20
    ·rw [if_pos hc20] at hj19
     rw [hc20];refine AD (n:=87) AC 5 [(1,.pt 0 0 0),(40,.v (.bool (x0.2.2.2.2==0)))] [some ⟨5,60,[AA.enc x0],false⟩] kr ?_;rcases BE (x0.2.2.2.2==0) with hc21 | hc21
     ·rw [if_pos hc21] at hj19
      rw [hc21];refine AD (n:=87) AC 5 [(2,.v (.bool (!x0.2.2.1)))] [some ⟨5,60,[AA.enc x0],false⟩] kr ?_;have hq:=OI hj19; subst hq;exact AI rfl (Ae [] trivial ⟨lv,trivial⟩)
     ·rw [BY hc21] at hj19
      rw [hc21];refine AD (n:=87) AC 5 [(2,.v (.bool false))] [some ⟨5,60,[AA.enc x0],false⟩] kr ?_;have hq:=OI hj19; subst hq;exact AI rfl (Ae [] trivial ⟨lv,trivial⟩)
    ·rw [BY hc20] at hj19
     rw [hc20];refine AD (n:=87) AC 10 [(2,.v (.bool false))] [some ⟨5,60,[AA.enc x0],false⟩] kr ?_;have hq:=OI hj19; subst hq;exact AI rfl (Ae [] trivial ⟨lv,trivial⟩)
   refine AN ?_;have hq:=OI h; subst hq;exact ⟨⟨Fr 87 [(2,.v (.bool j19))],[]⟩,AJ,.inr rfl,[.v (.bool j19)],kr,kr⟩
  ·rw [BY hb17] at h
   refine AK AC [(1,.pt 0 0 0),(3,.v (.int .i64 (x0.2.2.2.1.length:Int))),(8,.v (.int .u8 x0.1)),(45,.v (.bool (x0.1==4)))] [some ⟨5,60,[AA.enc x0],false⟩] ?_;refine AP (b:=(x0.1==4)) kr (fun hb22=>?_) (fun hb22=>?_)
   ·rw [if_pos hb22] at h
    refine AG ?_;obtain ⟨j25,hj25,h⟩:=OB h;refine AL (s1:=⟨Fr 87 [(2,.v (.bool j25))],[]⟩) ?_ ?_
    ·refine AD (n:=87) AC 3 [(1,.pt 0 0 0),(49,.v (.bool ((x0.2.2.2.1.length:Int)==0)))] [some ⟨5,60,[AA.enc x0],false⟩] kr ?_
     rcases BE ((x0.2.2.2.1.length:Int)==0) with hc26 | hc26
     ·rw [if_pos hc26] at hj25
      rw [hc26];refine AD (n:=87) AC 2 [(49,.v (.bool true)),(51,.v (.int .i64 x0.2.2.2.2))] [some ⟨5,60,[AA.enc x0],false⟩] kr ?_;obtain ⟨v23,hv23,hj25⟩:=OB hj25;refine AR (caps:=[]) (xs:=[.v (.int .i64 x0.2.2.2.2),.v (.int .i64 1),.v (.int .i64 2)]) (u:=(x0.2.2.2.2,1,2,())) rfl rfl FK rfl kr kr kr (AM (AU (c:=cdI) (v:=x0.2.2.2.2)) (AM (AU (c:=cdI) (v:=1)) (AM (AU (c:=cdI) (v:=2)) Af))) (.inl kr) hv23 ?_;refine AD (n:=87) AC 2 [(2,.v (.bool v23))] [some ⟨5,60,[AA.enc x0],false⟩] kr ?_;have hq:=OI hj25; subst hq;exact AI rfl (Ae [] trivial ⟨lv,trivial⟩)
     ·rw [BY hc26] at hj25
      rw [hc26];refine AD (n:=87) AC 5 [(2,.v (.bool false))] [some ⟨5,60,[AA.enc x0],false⟩] kr ?_;have hq:=OI hj25; subst hq;exact AI rfl (Ae [] trivial ⟨lv,trivial⟩)
    refine AN ?_;have hq:=OI h; subst hq;exact ⟨⟨Fr 87 [(2,.v (.bool j25))],[]⟩,AJ,.inr rfl,[.v (.bool j25)],kr,kr⟩
   ·rw [BY hb22] at h
    refine AK AC [(1,.pt 0 0 0),(3,.v (.int .i64 (x0.2.2.2.1.length:Int))),(8,.v (.int .u8 x0.1)),(54,.v (.bool (x0.1==5)))] [some ⟨5,60,[AA.enc x0],false⟩] ?_;refine AP (b:=(x0.1==5)) kr (fun hb27=>?_) (fun hb27=>?_)
    ·rw [if_pos hb27] at h
     refine AG ?_;obtain ⟨j29,hj29,h⟩:=OB h;refine AL (s1:=⟨Fr 87 [(2,.v (.bool j29))],[]⟩) ?_ ?_
     ·refine AD (n:=87) AC 3 [(1,.pt 0 0 0),(58,.v (.bool ((x0.2.2.2.1.length:Int)==0)))] [some ⟨5,60,[AA.enc x0],false⟩] kr ?_
      rcases BE ((x0.2.2.2.1.length:Int)==0) with hc30 | hc30
      ·rw [if_pos hc30] at hj29
       rw [hc30];refine AD (n:=87) AC 5 [(2,.v (.bool (x0.2.2.2.2==0)))] [some ⟨5,60,[AA.enc x0],false⟩] kr ?_;have hq:=OI hj29; subst hq;exact AI rfl (Ae [] trivial ⟨lv,trivial⟩)
      ·rw [BY hc30] at hj29
       rw [hc30];refine AD (n:=87) AC 5 [(2,.v (.bool false))] [some ⟨5,60,[AA.enc x0],false⟩] kr ?_;have hq:=OI hj29; subst hq;exact AI rfl (Ae [] trivial ⟨lv,trivial⟩)
     refine AN ?_;have hq:=OI h; subst hq;exact ⟨⟨Fr 87 [(2,.v (.bool j29))],[]⟩,AJ,.inr rfl,[.v (.bool j29)],kr,kr⟩
    ·rw [BY hb27] at h
     refine AG ?_;refine AK AC [(1,.pt 0 0 0),(3,.v (.int .i64 (x0.2.2.2.1.length:Int))),(8,.v (.int .u8 x0.1)),(63,.v (.bool (x0.1==6)))] [some ⟨5,60,[AA.enc x0],false⟩] ?_;obtain ⟨r33,hr33,h⟩:=OB h;refine GU (RH x0 _ hr33) ?_;refine AP (b:=r33) kr (fun hb34=>?_) (fun hb34=>?_)
     ·rw [if_pos hb34] at h
      refine AG ?_;obtain ⟨v35,hv35,h⟩:=OB h;obtain ⟨j37,hj37,h⟩:=OB h;refine AL (s1:=⟨Fr 87 [(2,.v (.bool j37))],[]⟩) ?_ ?_
      ·refine AD (n:=87) AC 1 [(1,.pt 0 0 0),(66,.v (.int .i64 (x0.2.2.2.1.length:Int)))] [some ⟨5,60,[AA.enc x0],false⟩] kr ?_
       refine AR (caps:=[]) (xs:=[.v (.int .i64 (x0.2.2.2.1.length:Int)),.v (.int .i64 1),.v (.int .i64 16)]) (u:=((x0.2.2.2.1.length:Int),1,16,())) rfl rfl FK rfl (AB rfl) kr kr (AM (AU (c:=cdI) (v:=(x0.2.2.2.1.length:Int))) (AM (AU (c:=cdI) (v:=1)) (AM (AU (c:=cdI) (v:=16)) Af))) (.inl kr) hv35 ?_;refine AD (n:=87) AC 1 [(1,.pt 0 0 0),(68,.v (.bool v35))] [some ⟨5,60,[AA.enc x0],false⟩] kr ?_;rcases BE v35 with hc38 | hc38
       ·rw [if_pos hc38] at hj37
        rw [hc38];refine AD (n:=87) AC 5 [(2,.v (.bool (x0.2.2.2.2==0)))] [some ⟨5,60,[AA.enc x0],false⟩] kr ?_;have hq:=OI hj37; subst hq;exact AI rfl (Ae [] trivial ⟨lv,trivial⟩)
       ·rw [BY hc38] at hj37
        rw [hc38];refine AD (n:=87) AC 5 [(2,.v (.bool false))] [some ⟨5,60,[AA.enc x0],false⟩] kr ?_;have hq:=OI hj37; subst hq;exact AI rfl (Ae [] trivial ⟨lv,trivial⟩)
      refine AN ?_;have hq:=OI h; subst hq;exact ⟨⟨Fr 87 [(2,.v (.bool j37))],[]⟩,AJ,.inr rfl,[.v (.bool j37)],kr,kr⟩
     ·rw [BY hb34] at h
      refine AK AC [(1,.pt 0 0 0),(3,.v (.int .i64 (x0.2.2.2.1.length:Int))),(73,.v (.bool (x0.1==10)))] [some ⟨5,60,[AA.enc x0],false⟩] ?_;refine AP (b:=(x0.1==10)) kr (fun hb39=>?_) (fun hb39=>?_)
      ·rw [if_pos hb39] at h
       refine AG ?_;obtain ⟨j42,hj42,h⟩:=OB h;refine AL (s1:=⟨Fr 87 [(2,.v (.bool j42))],[]⟩) ?_ ?_
       ·refine AD (n:=87) AC 3 [(1,.pt 0 0 0),(77,.v (.bool ((x0.2.2.2.1.length:Int)==0)))] [some ⟨5,60,[AA.enc x0],false⟩] kr ?_
        rcases BE ((x0.2.2.2.1.length:Int)==0) with hc43 | hc43
        ·rw [if_pos hc43] at hj42
         rw [hc43];refine AD (n:=87) AC 2 [(1,.pt 0 0 0),(77,.v (.bool true)),(79,.v (.int .i64 x0.2.2.2.2))] [some ⟨5,60,[AA.enc x0],false⟩] kr ?_;obtain ⟨v40,hv40,hj42⟩:=OB hj42;refine AR (caps:=[]) (xs:=[.v (.int .i64 x0.2.2.2.2),.v (.int .i64 0),.v (.int .i64 63)]) (u:=(x0.2.2.2.2,0,63,())) rfl rfl FK rfl kr kr kr (AM (AU (c:=cdI) (v:=x0.2.2.2.2)) (AM (AU (c:=cdI) (v:=0)) (AM (AU (c:=cdI) (v:=63)) Af))) (.inl kr) hv40 ?_;refine AD (n:=87) AC 2 [(1,.pt 0 0 0),(82,.v (.bool v40))] [some ⟨5,60,[AA.enc x0],false⟩] kr ?_;rcases BE v40 with hc44 | hc44
         ·rw [if_pos hc44] at hj42
          rw [hc44];refine AD (n:=87) AC 5 [(2,.v (.bool (!x0.2.2.1)))] [some ⟨5,60,[AA.enc x0],false⟩] kr ?_;have hq:=OI hj42; subst hq;exact AI rfl (Ae [] trivial ⟨lv,trivial⟩)
         ·rw [BY hc44] at hj42
          rw [hc44];refine AD (n:=87) AC 5 [(2,.v (.bool false))] [some ⟨5,60,[AA.enc x0],false⟩] kr ?_;have hq:=OI hj42; subst hq;exact AI rfl (Ae [] trivial ⟨lv,trivial⟩)
        ·rw [BY hc43] at hj42
         rw [hc43];refine AD (n:=87) AC 10 [(2,.v (.bool false))] [some ⟨5,60,[AA.enc x0],false⟩] kr ?_;have hq:=OI hj42; subst hq;exact AI rfl (Ae [] trivial ⟨lv,trivial⟩)
       refine AN ?_;have hq:=OI h; subst hq;exact ⟨⟨Fr 87 [(2,.v (.bool j42))],[]⟩,AJ,.inr rfl,[.v (.bool j42)],kr,kr⟩
      ·rw [BY hb39] at h
       refine AT ?_;refine AG ?_;refine AL (s1:=⟨Fr 87 [(2,.v (.bool false))],[]⟩) ?_ ?_
       ·refine AD (n:=87) AC 1 [(2,.v (.bool false))] [some ⟨5,60,[AA.enc x0],false⟩] kr ?_
        exact AI rfl (Ae [] trivial ⟨lv,trivial⟩)
       refine AN ?_;have hq:=OI h; subst hq;exact ⟨⟨Fr 87 [(2,.v (.bool false))],[]⟩,AJ,.inr rfl,[.v (.bool false)],kr,kr⟩
def VF:List AV->Option AV:=Dk MC (fun a=>BJ a.1) MJ
theorem VN:XOk 168 VF:=by
 refine AQ Tryz.func168 (c:=HC) ?h2 ⟨Tryz.call168⟩ MC (fun a=>BJ a.1) MJ (fun a=>(by show 1<=87; decide)) ?h3 ?h4
 case h2=>kernel_rfl
 case h3=>intro b; kernel_rfl
 case h4=>exact fun a b h=>Sy a.1 b h
/- trestle/trestlekit.Name -/
noncomputable def QM:Code:=A3 Tryz.f141
def H3 (x0:(List UInt8)):Nat->Int->Option ((Unit) ⊕ (Bool))
 | 0,_=>none
 | f + 1,c4 =>
  if (decide (c4 < (x0.length:Int)))=true then
  (idx x0 c4).bind fun v6 =>
  (if (decide ((v6.toNat:Int) < 97))=true then some true else (idx x0 c4).bind fun v7 =>
  some (decide ((v7.toNat:Int) > 122))).bind fun j9 =>
  if j9=true then
  some (.inr false)
  else
  H3 x0 f (wr .i64 (c4 + 1))
  else
  some (.inl ())
def Ms (x0:(List UInt8)):Option (Bool) :=
 (if (decide ((x0.length:Int) < 1))=true then some true else some (decide ((x0.length:Int) > 12))).bind fun j2 =>
 if j2=true then
 some false
 else
 (H3 x0 100000 0).bind fun r13 =>
 match r13 with
 | (.inl _w14) =>
  some true
 | (.inr w15) =>
  some w15
def QS:Cs ((List UInt8)×Unit):=(csC cdS csN)
def QT (r:Bool):AV:=cdB.enc r
theorem QH (x0:(List UInt8)):∀ (f:Nat) (c4:Int) (r:(Unit) ⊕ (Bool)),H3 x0 f c4=some r->SemN E0 ⟨none,false⟩ (pc QM [1,1,0,1,0,0]) f ⟨Fr 28 [(0,.st x0),(3,.v (.int .i64 c4))],[]⟩ (fun e s=>match r with
 | (.inl _w)=>e=(.exit 0)/\Wk E0 s ⟨Fr 28 [],[]⟩
 | (.inr w)=>e = .ret/\Wk E0 s ⟨Fr 28 [(2,.v (.bool w))],[]⟩):=by
 intro f;induction f with
 | zero=>intro c4 r h; cases h
 | succ f ih0 =>
  intro c4 r h
  have ih:=fun (c4:Int)=>ih0 c4 r
  unfold H3 at h;refine BR ?_;refine AG ?_;refine AK AC [(0,.st x0),(3,.v (.int .i64 c4)),(15,.v (.bool (decide (c4 < (x0.length:Int)))))] [] ?_;refine AP (b:=(decide (c4 < (x0.length:Int)))) kr (fun hb5=>?_) (fun hb5=>?_)
  ·rw [if_pos hb5] at h
   refine AT ?_;refine AG ?_;refine AZ ?_;refine AG ?_;obtain ⟨v6,hv6,h⟩:=OB h;obtain ⟨j9,hj9,h⟩:=OB h;refine AL (s1:=⟨Fr 28 [(0,.st x0),(3,.v (.int .i64 c4)),(27,.v (.bool j9))],[]⟩) ?_ ?_
   ·refine AD (n:=28) AC 2 [(0,.st x0),(3,.v (.int .i64 c4)),(18,.st x0),(19,.v (.int .i64 c4))] [] kr ?_
    refine AS AC 0 rfl (DH (AB rfl) rfl (WB (a:= .st x0) (b:= .v (.int .i64 c4)) kr kr (TL (bs:=x0) (ki:= .i64) kr hv6))) ?_;refine AD (n:=28) AC 2 [(0,.st x0),(3,.v (.int .i64 c4)),(22,.v (.bool (decide ((v6.toNat:Int) < 97))))] [] kr ?_;rcases BE (decide ((v6.toNat:Int) < 97)) with hc12 | hc12
    ·rw [if_pos hc12] at hj9
     rw [hc12];refine AD (n:=28) AC 5 [(0,.st x0),(3,.v (.int .i64 c4)),(23,.tp []),(24,.tp []),(25,.tp []),(26,.tp []),(27,.v (.bool true))] [] kr ?_;have hq:=OI hj9; subst hq;exact AI rfl AJ
    ·rw [BY hc12] at hj9
     rw [hc12];refine AD (n:=28) AC 2 [(0,.st x0),(3,.v (.int .i64 c4)),(22,.v (.bool false)),(23,.st x0),(24,.v (.int .i64 c4))] [] kr ?_;obtain ⟨v7,hv7,hj9⟩:=OB hj9;refine AS AC 0 rfl (DH kr rfl (WB (a:= .st x0) (b:= .v (.int .i64 c4)) kr kr (TL (bs:=x0) (ki:= .i64) kr hv7))) ?_;refine AD (n:=28) AC 2 [(0,.st x0),(3,.v (.int .i64 c4)),(23,.st x0),(24,.v (.int .i64 c4)),(25,.v (.int .u8 (v7.toNat:Int))),(26,.v (.bool (decide ((v7.toNat:Int) > 122)))),(27,.v (.bool (decide ((v7.toNat:Int) > 122))))] [] kr ?_;have hq:=OI hj9; subst hq;exact AI rfl AJ
   refine AP (b:=j9) kr (fun hb10=>?_) (fun hb10=>?_)
   ·rw [if_pos hb10] at h
    refine AK AC [(2,.v (.bool false))] [] ?_;refine AN ?_;have hq:=OI h; subst hq;exact ⟨rfl,AJ⟩
   ·rw [BY hb10] at h
    refine AT ?_;refine Ci AC [(0,.st x0),(3,.v (.int .i64 (wr .i64 (c4 + 1))))] [] ?_;exact Ab (s1:=⟨Fr 28 [(0,.st x0),(3,.v (.int .i64 (wr .i64 (c4 + 1))))],[]⟩) AJ (ih (wr .i64 (c4 + 1)) h)
  ·rw [BY hb5] at h
   refine Bi ?_;have hq:=OI h; subst hq;exact ⟨rfl,AJ⟩
theorem XB (x0:(List UInt8)) (r:Bool) (h:Ms x0=some r):Sem E0 ⟨none,false⟩ QM ⟨Fr 28 (Av 0 (QS.enc (x0,()))),[]⟩ fun e s'=>(e = .normal\/e = .ret)/\∃ xs,D6 E0.P s'.fr s'.hp Tryz.f141.results.toList=some xs/\EA xs=QT r:=by
 unfold Ms at h;refine Aj (A8 (s1:=⟨Fr 28 [(0,.st x0)],[]⟩) AJ ?_);refine AK AC [(0,.st x0)] [] ?_;refine AG ?_;refine AG ?_;obtain ⟨j2,hj2,h⟩:=OB h;refine AL (s1:=⟨Fr 28 [(0,.st x0),(11,.v (.bool j2))],[]⟩) ?_ ?_
 ·refine AD (n:=28) AC 4 [(0,.st x0),(7,.v (.bool (decide ((x0.length:Int) < 1))))] [] kr ?_
  rcases BE (decide ((x0.length:Int) < 1)) with hc16 | hc16
  ·rw [if_pos hc16] at hj2
   rw [hc16];refine AD (n:=28) AC 4 [(0,.st x0),(11,.v (.bool true))] [] kr ?_;have hq:=OI hj2; subst hq;exact AI rfl AJ
  ·rw [BY hc16] at hj2
   rw [hc16];refine AD (n:=28) AC 4 [(0,.st x0),(11,.v (.bool (decide ((x0.length:Int) > 12))))] [] kr ?_;have hq:=OI hj2; subst hq;exact AI rfl AJ
 refine AP (b:=j2) kr (fun hb3=>?_) (fun hb3=>?_)
 ·rw [if_pos hb3] at h
  refine AK AC [(2,.v (.bool false))] [] ?_;refine AN ?_;have hq:=OI h; subst hq;exact ⟨⟨Fr 28 [(2,.v (.bool false))],[]⟩,AJ,.inr rfl,[.v (.bool false)],kr,kr⟩
 ·rw [BY hb3] at h
  refine AT ?_;refine AG ?_;refine AK AC [(0,.st x0),(3,.v (.int .i64 0))] [] ?_;refine AZ ?_;obtain ⟨r13,hr13,h⟩:=OB h;refine Bj (n:=100000) ?_;rcases r13 with w14 | w15
  ·try dsimp only at h
   refine Ao (Ab (s1:=⟨Fr 28 [(0,.st x0),(3,.v (.int .i64 0))],[]⟩) AJ (QH x0 _ 0 _ hr13)) ?_;refine AK AC [(2,.v (.bool true))] [] ?_;refine AN ?_;have hq:=OI h; subst hq;exact ⟨⟨Fr 28 [(2,.v (.bool true))],[]⟩,AJ,.inr rfl,[.v (.bool true)],kr,kr⟩
  ·try dsimp only at h
   refine Ao (Ab (s1:=⟨Fr 28 [(0,.st x0),(3,.v (.int .i64 0))],[]⟩) AJ (QH x0 _ 0 _ hr13)) ?_;have hq:=OI h; subst hq;exact ⟨⟨Fr 28 [(2,.v (.bool w15))],[]⟩,AJ,.inr rfl,[.v (.bool w15)],kr,kr⟩
def ZR:List AV->Option AV:=Dk QS (fun a=>Ms a.1) QT
theorem Vi:XOk 141 ZR:=by
 refine AQ Tryz.func141 (c:=QM) ?h2 ⟨Tryz.call141⟩ QS (fun a=>Ms a.1) QT (fun a=>(by show 1<=28; decide)) ?h3 ?h4
 case h2=>kernel_rfl
 case h3=>intro b; kernel_rfl
 case h4=>exact fun a b h=>XB a.1 b h
/- trestle/trestleref03.has -/
noncomputable def O4:Code:=A3 Tryz.f142
def KR (x0:(List (List UInt8))) (x1:(List UInt8)):Nat->Int->Option ((Unit) ⊕ (Bool))
 | 0,_=>none
 | f + 1,c1 =>
  if (decide (c1 < (x0.length:Int)))=true then
  (idx x0 c1).bind fun v3 =>
  if (v3==x1)=true then
  some (.inr true)
  else
  KR x0 x1 f (wr .i64 (c1 + 1))
  else
  some (.inl ())
def Ie (x0:(List (List UInt8))) (x1:(List UInt8)):Option (Bool) :=
 (KR x0 x1 100000 0).bind fun r6 =>
 match r6 with
 | (.inl _w7) =>
  some false
 | (.inr w8) =>
  some w8
def O9:Cs ((List (List UInt8))×(List UInt8)×Unit):=(csC (cdL 1 cdS) (csC cdS csN))
def PE (r:Bool):AV:=cdB.enc r
theorem PR (x0:(List (List UInt8))) (x1:(List UInt8)):∀ (f:Nat) (c1:Int) (r:(Unit) ⊕ (Bool)),KR x0 x1 f c1=some r->SemN E0 ⟨none,false⟩ (pc O4 [1,0,1,0,0]) f ⟨Fr 18 [(0,.sl 1 (x0.map cdS.enc)),(1,.st x1),(5,.v (.int .i64 c1))],[]⟩ (fun e s=>match r with
 | (.inl _w)=>e=(.exit 0)/\Wk E0 s ⟨Fr 18 [],[]⟩
 | (.inr w)=>e = .ret/\Wk E0 s ⟨Fr 18 [(4,.v (.bool w))],[]⟩):=by
 intro f;induction f with
 | zero=>intro c1 r h; cases h
 | succ f ih0 =>
  intro c1 r h
  have ih:=fun (c1:Int)=>ih0 c1 r
  unfold KR at h;refine BR ?_;refine AG ?_;refine AG ?_
  let p1:Nat×AV:=(5,.v (.int .i64 c1))
  let p2:Nat×AV:=(0,.sl 1 (x0.map cdS.enc))
  refine AL (s1:=⟨Fr 18 [p2,(1,.st x1),p1,(9,.v (.bool (decide (c1 < (x0.length:Int)))))],[]⟩) ?_ ?_
  ·refine AD (n:=18) AC 2 [p2,(1,.st x1),p1,(6,.v (.int .i64 c1)),(7,.sl 1 (x0.map cdS.enc))] [] kr ?_
   refine AS AC 0 rfl (DH (AB rfl) rfl (CX (a:= .sl 1 (x0.map cdS.enc)) kr (BS (el:=9) kr))) ?_;exact AX AC
  refine AP (b:=(decide (c1 < (x0.length:Int)))) kr (fun hb2=>?_) (fun hb2=>?_)
  ·rw [if_pos hb2] at h
   refine AT ?_;refine AG ?_;refine AZ ?_;refine AG ?_;obtain ⟨v3,hv3,h⟩:=OB h;refine AL (s1:=⟨Fr 18 [p2,(1,.st x1),p1,(17,.v (.bool (v3==x1)))],[]⟩) ?_ ?_
   ·refine AD (n:=18) AC 2 [p2,(1,.st x1),p1,(12,.sl 1 (x0.map cdS.enc)),(13,.v (.int .i64 c1))] [] kr ?_
    refine AS AC 0 rfl (DH (AB rfl) rfl (AW (a:= .sl 1 (x0.map cdS.enc)) (b:= .v (.int .i64 c1)) kr kr (DK (e:=cdS.enc) (el:=9) (k:=1) (ki:= .i64) kr kr hv3))) ?_;exact AX AC
   refine AP (b:=(v3==x1)) kr (fun hb4=>?_) (fun hb4=>?_)
   ·rw [if_pos hb4] at h
    refine AK AC [(4,.v (.bool true))] [] ?_;refine AN ?_;have hq:=OI h; subst hq;exact ⟨rfl,AJ⟩
   ·rw [BY hb4] at h
    refine AT ?_
    let p3:Nat×AV:=(5,.v (.int .i64 (wr .i64 (c1 + 1))))
    refine Ci AC [p2,(1,.st x1),p3] [] ?_;exact Ab (s1:=⟨Fr 18 [p2,(1,.st x1),p3],[]⟩) AJ (ih (wr .i64 (c1 + 1)) h)
  ·rw [BY hb2] at h
   refine Bi ?_;have hq:=OI h; subst hq;exact ⟨rfl,AJ⟩
theorem WC (x0:(List (List UInt8))) (x1:(List UInt8)) (r:Bool) (h:Ie x0 x1=some r):Sem E0 ⟨none,false⟩ O4 ⟨Fr 18 (Av 0 (O9.enc (x0,x1,()))),[]⟩ fun e s'=>(e = .normal\/e = .ret)/\∃ xs,D6 E0.P s'.fr s'.hp Tryz.f142.results.toList=some xs/\EA xs=PE r:=by
 unfold Ie at h
 let p1:Nat×AV:=(0,.sl 1 (x0.map cdS.enc))
 refine Aj (A8 (s1:=⟨Fr 18 [p1,(1,.st x1)],[]⟩) AJ ?_);refine AK AC [p1,(1,.st x1)] [] ?_;refine AG ?_
 let p2:Nat×AV:=(5,.v (.int .i64 0))
 refine AK AC [p1,(1,.st x1),p2] [] ?_;refine AZ ?_;obtain ⟨r6,hr6,h⟩:=OB h;refine Bj (n:=100000) ?_;rcases r6 with w7 | w8
 ·try dsimp only at h
  refine Ao (Ab (s1:=⟨Fr 18 [p1,(1,.st x1),p2],[]⟩) AJ (PR x0 x1 _ 0 _ hr6)) ?_;refine AK AC [(4,.v (.bool false))] [] ?_;refine AN ?_;have hq:=OI h; subst hq;exact ⟨⟨Fr 18 [(4,.v (.bool false))],[]⟩,AJ,.inr rfl,[.v (.bool false)],kr,kr⟩
 ·try dsimp only at h
  refine Ao (Ab (s1:=⟨Fr 18 [p1,(1,.st x1),p2],[]⟩) AJ (PR x0 x1 _ 0 _ hr6)) ?_;have hq:=OI h; subst hq;exact ⟨⟨Fr 18 [(4,.v (.bool w8))],[]⟩,AJ,.inr rfl,[.v (.bool w8)],kr,kr⟩
def YK:List AV->Option AV:=Dk O9 (fun a=>Ie a.1 a.2.1) PE
theorem OG:XOk 142 YK:=by
 refine AQ Tryz.func142 (c:=O4) ?h2 ⟨Tryz.call142⟩ O9 (fun a=>Ie a.1 a.2.1) PE (fun a=>(by show 2<=18; decide)) ?h3 ?h4
 case h2=>kernel_rfl
 case h3=>intro b; kernel_rfl
 case h4=>exact fun a b h=>WC a.1 a.2.1 b h
/- trestle/trestleref03.CheckOne -/
noncomputable def HB:Code:=A3 Tryz.f149
def EC (x0:(List AF)) (x1:Int):Nat->Int->Option ((Unit) ⊕ (Int))
 | 0,_=>none
 | f + 1,c10 =>
  (idx x0 x1).bind fun v11 =>
  if (decide (c10 < (v11.2.2.2.1.length:Int)))=true then
  (idx x0 x1).bind fun v13 =>
  (idx v13.2.2.2.1 c10).bind fun v14 =>
  (Ms v14).bind fun v15 =>
  if (!v15)=true then
  some (.inr 4)
  else
  EC x0 x1 f (wr .i64 (c10 + 1))
  else
  some (.inl ())
def ED (x0:(List AF)) (x1:Int):Nat->Int->Option ((Unit) ⊕ (Int))
 | 0,_=>none
 | f + 1,c20 =>
  (idx x0 x1).bind fun v21 =>
  if (decide (c20 < (v21.2.2.2.1.length:Int)))=true then
  (idx x0 x1).bind fun v23 =>
  if (MW 0 c20 v23.2.2.2.1.length)=true then
  (idx x0 x1).bind fun v25 =>
  (idx v25.2.2.2.1 c20).bind fun v26 =>
  (Ie ((v23.2.2.2.1.take c20.toNat).drop (0:Int).toNat) v26).bind fun v27 =>
  if v27=true then
  some (.inr 5)
  else
  ED x0 x1 f (wr .i64 (c20 + 1))
  else none
  else
  some (.inl ())
def EE (x0:(List AF)) (x1:Int):Nat->Int->Option ((Unit) ⊕ (Int))
 | 0,_=>none
 | f + 1,c34 =>
  if (decide (c34 < x1))=true then
  (idx x0 c34).bind fun v36 =>
  (if (v36.1==1)=true then (idx x0 c34).bind fun v37 =>
  (idx x0 x1).bind fun v38 =>
  (Ie v37.2.2.2.1 v38.2.1).bind fun v39 =>
  some v39 else some false).bind fun j41 =>
  if j41=true then
  some (.inr 0)
  else
  EE x0 x1 f (wr .i64 (c34 + 1))
  else
  some (.inl ())
def Gn (x0:(List AF)) (x1:Int):Option (Int) :=
 (idx x0 x1).bind fun v1 =>
 (BJ v1).bind fun v2 =>
 if (!v2)=true then
 some 30
 else
 (idx x0 x1).bind fun v4 =>
 (if (!(v4.2.1==[]))=true then (idx x0 x1).bind fun v5 =>
 (Ms v5.2.1).bind fun v6 =>
 some (!v6) else some false).bind fun j8 =>
 if j8=true then
 some 4
 else
 (EC x0 x1 100000 0).bind fun r18 =>
 match r18 with
 | (.inl _w19) =>
  (ED x0 x1 100000 0).bind fun r30 =>
  match r30 with
  | (.inl _w31) =>
   (idx x0 x1).bind fun v32 =>
   if (v32.2.1==[])=true then
   some 0
   else
   (EE x0 x1 100000 0).bind fun r45 =>
   match r45 with
   | (.inl _w46) =>
    some 31
   | (.inr w47) =>
    some w47
  | (.inr w48) =>
   some w48
 | (.inr w49) =>
  some w49
def Jz:Cs ((List AF)×Int×Unit):=(csC (cdL 5 AA) (csC cdI csN))
def J5 (r:Int):AV:=cdI.enc r
theorem Lb (x0:(List AF)) (x1:Int):∀ (f:Nat) (c10:Int) (r:(Unit) ⊕ (Int)),EC x0 x1 f c10=some r->SemN E0 ⟨none,false⟩ (pc HB [1,1,1,0,1,0,0]) f ⟨Fr 105 [(0,.sl 5 (x0.map AA.enc)),(1,.v (.int .i64 x1)),(5,.v (.int .i64 c10))],[]⟩ (fun e s=>match r with
 | (.inl _w)=>e=(.exit 0)/\Wk E0 s ⟨Fr 105 [(0,.sl 5 (x0.map AA.enc)),(1,.v (.int .i64 x1))],[]⟩
 | (.inr w)=>e = .ret/\Wk E0 s ⟨Fr 105 [(4,.v (.int .i64 w))],[]⟩):=by
 intro f;induction f with
 | zero=>intro c10 r h; cases h
 | succ f ih0 =>
  intro c10 r h
  have ih:=fun (c10:Int)=>ih0 c10 r
  unfold EC at h;refine BR ?_;refine AG ?_;refine AG ?_;obtain ⟨v11,hv11,h⟩:=OB h
  let p1:Nat×AV:=(5,.v (.int .i64 c10))
  let p2:Nat×AV:=(1,.v (.int .i64 x1))
  let p3:Nat×AV:=(0,.sl 5 (x0.map AA.enc))
  refine AL (s1:=⟨Fr 105 [p3,p2,p1,(36,.v (.bool (decide (c10 < (v11.2.2.2.1.length:Int)))))],[]⟩) ?_ ?_
  ·refine AD (n:=105) AC 3 [p3,p2,p1,(29,.v (.int .i64 c10)),(30,.sl 5 (x0.map AA.enc)),(31,.v (.int .i64 x1))] [] kr ?_
   refine AS AC 0 rfl (DH (AB rfl) rfl (AW (a:= .sl 5 (x0.map AA.enc)) (b:= .v (.int .i64 x1)) kr kr (DK (e:=AA.enc) (el:=60) (k:=5) (ki:= .i64) kr kr hv11))) ?_;refine AD (n:=105) AC 2 [p3,p2,p1,(29,.v (.int .i64 c10)),(34,.sl 1 (v11.2.2.2.1.map cdS.enc))] [] kr ?_;refine AS AC 0 rfl (DH (AB rfl) rfl (CX (a:= .sl 1 (v11.2.2.2.1.map cdS.enc)) kr (BS (el:=9) kr))) ?_;exact AX AC
  refine AP (b:=(decide (c10 < (v11.2.2.2.1.length:Int)))) kr (fun hb12=>?_) (fun hb12=>?_)
  ·rw [if_pos hb12] at h
   refine AT ?_;refine AG ?_;refine AZ ?_;refine AG ?_;obtain ⟨v13,hv13,h⟩:=OB h;obtain ⟨v14,hv14,h⟩:=OB h;obtain ⟨v15,hv15,h⟩:=OB h;refine AL (s1:=⟨Fr 105 [p3,p2,p1,(48,.v (.bool (!v15)))],[]⟩) ?_ ?_
   ·refine AD (n:=105) AC 2 [p3,p2,p1,(39,.sl 5 (x0.map AA.enc)),(40,.v (.int .i64 x1))] [] kr ?_
    refine AS AC 0 rfl (DH (AB rfl) rfl (AW (a:= .sl 5 (x0.map AA.enc)) (b:= .v (.int .i64 x1)) kr kr (DK (e:=AA.enc) (el:=60) (k:=5) (ki:= .i64) kr kr hv13))) ?_;refine AD (n:=105) AC 3 [p3,p2,p1,(43,.sl 1 (v13.2.2.2.1.map cdS.enc)),(44,.v (.int .i64 c10))] [] kr ?_;refine AS AC 0 rfl (DH (AB rfl) rfl (AW (a:= .sl 1 (v13.2.2.2.1.map cdS.enc)) (b:= .v (.int .i64 c10)) kr kr (DK (e:=cdS.enc) (el:=9) (k:=1) (ki:= .i64) kr kr hv14))) ?_;refine AD (n:=105) AC 1 [p3,p2,p1,(46,.st v14)] [] kr ?_;refine AR (caps:=[]) (xs:=[.st v14]) (u:=(v14,())) rfl rfl Vi rfl (AB rfl) kr kr (AM (AU (c:=cdS) (v:=v14)) Af) (.inl kr) hv15 ?_;exact AX AC
   refine AP (b:=(!v15)) kr (fun hb16=>?_) (fun hb16=>?_)
   ·rw [if_pos hb16] at h
    refine AK AC [(4,.v (.int .i64 4))] [] ?_;refine AN ?_;have hq:=OI h; subst hq;exact ⟨rfl,AJ⟩
   ·rw [BY hb16] at h
    refine AT ?_
    let p4:Nat×AV:=(5,.v (.int .i64 (wr .i64 (c10 + 1))))
    refine Ci AC [p3,p2,p4] [] ?_;exact Ab (s1:=⟨Fr 105 [p3,p2,p4],[]⟩) AJ (ih (wr .i64 (c10 + 1)) h)
  ·rw [BY hb12] at h
   refine Bi ?_;have hq:=OI h; subst hq;exact ⟨rfl,AJ⟩
theorem Lc (x0:(List AF)) (x1:Int):∀ (f:Nat) (c20:Int) (r:(Unit) ⊕ (Int)),ED x0 x1 f c20=some r->SemN E0 ⟨none,false⟩ (pc HB [1,1,1,1,0,1,0,0]) f ⟨Fr 105 [(0,.sl 5 (x0.map AA.enc)),(1,.v (.int .i64 x1)),(6,.v (.int .i64 c20))],[]⟩ (fun e s=>match r with
 | (.inl _w)=>e=(.exit 2)/\Wk E0 s ⟨Fr 105 [(0,.sl 5 (x0.map AA.enc)),(1,.v (.int .i64 x1))],[]⟩
 | (.inr w)=>e = .ret/\Wk E0 s ⟨Fr 105 [(4,.v (.int .i64 w))],[]⟩):=by
 intro f;induction f with
 | zero=>intro c20 r h; cases h
 | succ f ih0 =>
  intro c20 r h
  have ih:=fun (c20:Int)=>ih0 c20 r
  unfold ED at h;refine BR ?_;refine AG ?_;refine AG ?_;obtain ⟨v21,hv21,h⟩:=OB h
  let p1:Nat×AV:=(6,.v (.int .i64 c20))
  let p2:Nat×AV:=(1,.v (.int .i64 x1))
  let p3:Nat×AV:=(0,.sl 5 (x0.map AA.enc))
  refine AL (s1:=⟨Fr 105 [p3,p2,p1,(56,.v (.bool (decide (c20 < (v21.2.2.2.1.length:Int)))))],[]⟩) ?_ ?_
  ·refine AD (n:=105) AC 3 [p3,p2,p1,(49,.v (.int .i64 c20)),(50,.sl 5 (x0.map AA.enc)),(51,.v (.int .i64 x1))] [] kr ?_
   refine AS AC 0 rfl (DH (AB rfl) rfl (AW (a:= .sl 5 (x0.map AA.enc)) (b:= .v (.int .i64 x1)) kr kr (DK (e:=AA.enc) (el:=60) (k:=5) (ki:= .i64) kr kr hv21))) ?_;refine AD (n:=105) AC 2 [p3,p2,p1,(49,.v (.int .i64 c20)),(54,.sl 1 (v21.2.2.2.1.map cdS.enc))] [] kr ?_;refine AS AC 0 rfl (DH (AB rfl) rfl (CX (a:= .sl 1 (v21.2.2.2.1.map cdS.enc)) kr (BS (el:=9) kr))) ?_;exact AX AC
  refine AP (b:=(decide (c20 < (v21.2.2.2.1.length:Int)))) kr (fun hb22=>?_) (fun hb22=>?_)
  ·rw [if_pos hb22] at h
   refine AT ?_;refine AG ?_;refine AZ ?_;refine AG ?_;obtain ⟨v23,hv23,h⟩:=OB h;by_cases hk24:(MW 0 c20 v23.2.2.2.1.length)=true
   case neg=>rw [if_neg hk24] at h; cases h
   rw [if_pos hk24] at h;obtain ⟨v25,hv25,h⟩:=OB h;obtain ⟨v26,hv26,h⟩:=OB h;obtain ⟨v27,hv27,h⟩:=OB h;refine DI AC (s1:=⟨Fr 105 [p3,p2,p1,(74,.v (.bool v27))],[]⟩) kr ?_ ?_
   ·refine AY (n:=105) AC 2 [p3,p2,p1,(59,.sl 5 (x0.map AA.enc)),(60,.v (.int .i64 x1))] [] kr kr ?_
    refine RunDS.one AC rfl kr (Hd kr (AB rfl) rfl (AW (a:= .sl 5 (x0.map AA.enc)) (b:= .v (.int .i64 x1)) kr kr (DK (e:=AA.enc) (el:=60) (k:=5) (ki:= .i64) kr kr hv23)) kr) ?_;refine AY (n:=105) AC 3 [p3,p2,p1,(63,.sl 1 (v23.2.2.2.1.map cdS.enc)),(64,.v (.int .i64 c20))] [] kr kr ?_;refine RunDS.one AC rfl kr (Hd kr (AB rfl) rfl (R9 (a:= .sl 1 (v23.2.2.2.1.map cdS.enc)) (l:=none) (u:=(some (.v (.int .i64 c20)))) (m:=none) kr kr kr rfl (TT (xs:=v23.2.2.2.1) (e:=cdS.enc) (k:=1) (el:=9) (lo:=0) (hi:=c20) kr kr rfl (XF (Zp hk24)) hk24)) kr) ?_
    let p4:Nat×AV:=(65,.sl 1 (((v23.2.2.2.1.take c20.toNat).drop (0:Int).toNat).map cdS.enc))
    refine AY (n:=105) AC 2 [p3,p2,p1,p4,(66,.sl 5 (x0.map AA.enc)),(67,.v (.int .i64 x1))] [] kr kr ?_;refine RunDS.one AC rfl kr (Hd kr (AB rfl) rfl (AW (a:= .sl 5 (x0.map AA.enc)) (b:= .v (.int .i64 x1)) kr kr (DK (e:=AA.enc) (el:=60) (k:=5) (ki:= .i64) kr kr hv25)) kr) ?_;refine AY (n:=105) AC 3 [p3,p2,p1,p4,(70,.sl 1 (v25.2.2.2.1.map cdS.enc)),(71,.v (.int .i64 c20))] [] kr kr ?_;refine RunDS.one AC rfl kr (Hd kr (AB rfl) rfl (AW (a:= .sl 1 (v25.2.2.2.1.map cdS.enc)) (b:= .v (.int .i64 c20)) kr kr (DK (e:=cdS.enc) (el:=9) (k:=1) (ki:= .i64) kr kr hv26)) kr) ?_;refine AY (n:=105) AC 1 [p3,p2,p1,p4,(73,.st v26)] [] kr kr ?_;refine Bg (caps:=[]) (xs:=[.sl 1 (((v23.2.2.2.1.take c20.toNat).drop (0:Int).toNat).map cdS.enc),.st v26]) (u:=(((v23.2.2.2.1.take c20.toNat).drop (0:Int).toNat),v26,())) rfl rfl OG rfl (AB rfl) kr kr (AM (AU (c:=(cdL 1 cdS)) (v:=((v23.2.2.2.1.take c20.toNat).drop (0:Int).toNat))) (AM (AU (c:=cdS) (v:=v26)) Af)) kr hv27 ?_;exact RunDS.done rfl AJ
   refine AP (b:=v27) kr (fun hb28=>?_) (fun hb28=>?_)
   ·rw [if_pos hb28] at h
    refine AK AC [(4,.v (.int .i64 5))] [] ?_;refine AN ?_;have hq:=OI h; subst hq;exact ⟨rfl,AJ⟩
   ·rw [BY hb28] at h
    refine AT ?_
    let p5:Nat×AV:=(6,.v (.int .i64 (wr .i64 (c20 + 1))))
    refine Ci AC [p3,p2,p5] [] ?_;exact Ab (s1:=⟨Fr 105 [p3,p2,p5],[]⟩) AJ (ih (wr .i64 (c20 + 1)) h)
  ·rw [BY hb22] at h
   refine Bi ?_;have hq:=OI h; subst hq;exact ⟨rfl,AJ⟩
theorem Le (x0:(List AF)) (x1:Int):∀ (f:Nat) (c34:Int) (r:(Unit) ⊕ (Int)),EE x0 x1 f c34=some r->SemN E0 ⟨none,false⟩ (pc HB [1,1,1,1,1,1,0,1,0,0]) f ⟨Fr 105 [(0,.sl 5 (x0.map AA.enc)),(1,.v (.int .i64 x1)),(7,.v (.int .i64 c34))],[]⟩ (fun e s=>match r with
 | (.inl _w)=>e=(.exit 4)/\Wk E0 s ⟨Fr 105 [],[]⟩
 | (.inr w)=>e = .ret/\Wk E0 s ⟨Fr 105 [(4,.v (.int .i64 w))],[]⟩):=by
 intro f;induction f with
 | zero=>intro c34 r h; cases h
 | succ f ih0 =>
  intro c34 r h
  have ih:=fun (c34:Int)=>ih0 c34 r
  unfold EE at h;refine BR ?_;refine AG ?_;refine AK AC [(0,.sl 5 (x0.map AA.enc)),(1,.v (.int .i64 x1)),(7,.v (.int .i64 c34)),(83,.v (.bool (decide (c34 < x1))))] [] ?_;refine AP (b:=(decide (c34 < x1))) kr (fun hb35=>?_) (fun hb35=>?_)
  ·rw [if_pos hb35] at h
   refine AT ?_;refine AG ?_;refine AZ ?_;refine AG ?_;obtain ⟨v36,hv36,h⟩:=OB h;obtain ⟨j41,hj41,h⟩:=OB h;refine DI AC (s1:=⟨Fr 105 [(0,.sl 5 (x0.map AA.enc)),(1,.v (.int .i64 x1)),(7,.v (.int .i64 c34)),(104,.v (.bool j41))],[]⟩) kr ?_ ?_
   ·refine AY (n:=105) AC 2 [(0,.sl 5 (x0.map AA.enc)),(1,.v (.int .i64 x1)),(7,.v (.int .i64 c34)),(86,.sl 5 (x0.map AA.enc)),(87,.v (.int .i64 c34))] [] kr kr ?_
    refine RunDS.one AC rfl kr (Hd kr (AB rfl) rfl (AW (a:= .sl 5 (x0.map AA.enc)) (b:= .v (.int .i64 c34)) kr kr (DK (e:=AA.enc) (el:=60) (k:=5) (ki:= .i64) kr kr hv36)) kr) ?_;refine AY (n:=105) AC 4 [(0,.sl 5 (x0.map AA.enc)),(1,.v (.int .i64 x1)),(7,.v (.int .i64 c34)),(92,.v (.bool (v36.1==1)))] [] kr kr ?_;rcases BE (v36.1==1) with hc44 | hc44
    ·rw [if_pos hc44] at hj41
     rw [hc44];refine AY (n:=105) AC 2 [(0,.sl 5 (x0.map AA.enc)),(1,.v (.int .i64 x1)),(7,.v (.int .i64 c34)),(92,.v (.bool true)),(93,.sl 5 (x0.map AA.enc)),(94,.v (.int .i64 c34))] [] kr kr ?_;obtain ⟨v37,hv37,hj41⟩:=OB hj41;refine RunDS.one AC rfl kr (Hd kr kr rfl (AW (a:= .sl 5 (x0.map AA.enc)) (b:= .v (.int .i64 c34)) kr kr (DK (e:=AA.enc) (el:=60) (k:=5) (ki:= .i64) kr kr hv37)) kr) ?_;refine AY (n:=105) AC 4 [(0,.sl 5 (x0.map AA.enc)),(1,.v (.int .i64 x1)),(7,.v (.int .i64 c34)),(92,.v (.bool true)),(93,.sl 5 (x0.map AA.enc)),(94,.v (.int .i64 c34)),(95,.pe (AA.enc v37) 0),(96,.pe (AA.enc v37) 3),(97,.sl 1 (v37.2.2.2.1.map cdS.enc)),(98,.sl 5 (x0.map AA.enc)),(99,.v (.int .i64 x1))] [] kr kr ?_;obtain ⟨v38,hv38,hj41⟩:=OB hj41;refine RunDS.one AC rfl kr (Hd kr kr rfl (AW (a:= .sl 5 (x0.map AA.enc)) (b:= .v (.int .i64 x1)) kr kr (DK (e:=AA.enc) (el:=60) (k:=5) (ki:= .i64) kr kr hv38)) kr) ?_;refine AY (n:=105) AC 2 [(0,.sl 5 (x0.map AA.enc)),(1,.v (.int .i64 x1)),(7,.v (.int .i64 c34)),(92,.v (.bool true)),(93,.sl 5 (x0.map AA.enc)),(94,.v (.int .i64 c34)),(95,.pe (AA.enc v37) 0),(96,.pe (AA.enc v37) 3),(97,.sl 1 (v37.2.2.2.1.map cdS.enc)),(98,.sl 5 (x0.map AA.enc)),(99,.v (.int .i64 x1)),(100,.pe (AA.enc v38) 0),(101,.pe (AA.enc v38) 1),(102,.st v38.2.1)] [] kr kr ?_;obtain ⟨v39,hv39,hj41⟩:=OB hj41;refine Bg (caps:=[]) (xs:=[.sl 1 (v37.2.2.2.1.map cdS.enc),.st v38.2.1]) (u:=(v37.2.2.2.1,v38.2.1,())) rfl rfl OG rfl kr kr kr (AM (AU (c:=(cdL 1 cdS)) (v:=v37.2.2.2.1)) (AM (AU (c:=cdS) (v:=v38.2.1)) Af)) kr hv39 ?_;refine AY (n:=105) AC 1 [(0,.sl 5 (x0.map AA.enc)),(1,.v (.int .i64 x1)),(7,.v (.int .i64 c34)),(93,.sl 5 (x0.map AA.enc)),(94,.v (.int .i64 c34)),(95,.pe (AA.enc v37) 0),(96,.pe (AA.enc v37) 3),(97,.sl 1 (v37.2.2.2.1.map cdS.enc)),(98,.sl 5 (x0.map AA.enc)),(99,.v (.int .i64 x1)),(100,.pe (AA.enc v38) 0),(101,.pe (AA.enc v38) 1),(102,.st v38.2.1),(103,.v (.bool v39)),(104,.v (.bool v39))] [] kr kr ?_
     have hq:=OI hj41; subst hq;exact RunDS.done rfl AJ
    ·rw [BY hc44] at hj41
     rw [hc44];refine AY (n:=105) AC 12 [(0,.sl 5 (x0.map AA.enc)),(1,.v (.int .i64 x1)),(7,.v (.int .i64 c34)),(93,.tp []),(94,.tp []),(95,.tp []),(96,.tp []),(97,.tp []),(98,.tp []),(99,.tp []),(100,.tp []),(101,.tp []),(102,.tp []),(103,.tp []),(104,.v (.bool false))] [] kr kr ?_;have hq:=OI hj41; subst hq;exact RunDS.done rfl AJ
   refine AP (b:=j41) kr (fun hb42=>?_) (fun hb42=>?_)
   ·rw [if_pos hb42] at h
    refine AK AC [(4,.v (.int .i64 0))] [] ?_;refine AN ?_;have hq:=OI h; subst hq;exact ⟨rfl,AJ⟩
   ·rw [BY hb42] at h
    refine AT ?_;refine Ci AC [(0,.sl 5 (x0.map AA.enc)),(1,.v (.int .i64 x1)),(7,.v (.int .i64 (wr .i64 (c34 + 1))))] [] ?_;exact Ab (s1:=⟨Fr 105 [(0,.sl 5 (x0.map AA.enc)),(1,.v (.int .i64 x1)),(7,.v (.int .i64 (wr .i64 (c34 + 1))))],[]⟩) AJ (ih (wr .i64 (c34 + 1)) h)
  ·rw [BY hb35] at h
   refine Bi ?_;have hq:=OI h; subst hq;exact ⟨rfl,AJ⟩
theorem RD (x0:(List AF)) (x1:Int) (r:Int) (h:Gn x0 x1=some r):Sem E0 ⟨none,false⟩ HB ⟨Fr 105 (Av 0 (Jz.enc (x0,x1,()))),[]⟩ fun e s'=>(e = .normal\/e = .ret)/\∃ xs,D6 E0.P s'.fr s'.hp Tryz.f149.results.toList=some xs/\EA xs=J5 r:=by
 unfold Gn at h;refine Aj (A8 (s1:=⟨Fr 105 [(0,.sl 5 (x0.map AA.enc)),(1,.v (.int .i64 x1))],[]⟩) AJ ?_);refine AK AC [(0,.sl 5 (x0.map AA.enc)),(1,.v (.int .i64 x1))] [] ?_;refine AG ?_;refine AG ?_;obtain ⟨v1,hv1,h⟩:=OB h;obtain ⟨v2,hv2,h⟩:=OB h;refine AL (s1:=⟨Fr 105 [(0,.sl 5 (x0.map AA.enc)),(1,.v (.int .i64 x1)),(13,.v (.bool (!v2)))],[]⟩) ?_ ?_
 ·refine AD (n:=105) AC 2 [(0,.sl 5 (x0.map AA.enc)),(1,.v (.int .i64 x1)),(8,.sl 5 (x0.map AA.enc)),(9,.v (.int .i64 x1))] [] kr ?_
  refine AS AC 0 rfl (DH (AB rfl) rfl (AW (a:= .sl 5 (x0.map AA.enc)) (b:= .v (.int .i64 x1)) kr kr (DK (e:=AA.enc) (el:=60) (k:=5) (ki:= .i64) kr kr hv1))) ?_;refine AD (n:=105) AC 1 [(0,.sl 5 (x0.map AA.enc)),(1,.v (.int .i64 x1)),(11,AA.enc v1)] [] kr ?_;refine AR (caps:=[]) (xs:=[AA.enc v1]) (u:=(v1,())) rfl rfl VN rfl (AB rfl) kr kr (AM (AU (c:=AA) (v:=v1)) Af) (.inl kr) hv2 ?_;exact AX AC
 refine AP (b:=(!v2)) kr (fun hb3=>?_) (fun hb3=>?_)
 ·rw [if_pos hb3] at h
  refine AK AC [(4,.v (.int .i64 30))] [] ?_;refine AN ?_;have hq:=OI h; subst hq;exact ⟨⟨Fr 105 [(4,.v (.int .i64 30))],[]⟩,AJ,.inr rfl,[.v (.int .i64 30)],kr,kr⟩
 ·rw [BY hb3] at h
  refine AT ?_;refine AG ?_;refine AG ?_;obtain ⟨v4,hv4,h⟩:=OB h;obtain ⟨j8,hj8,h⟩:=OB h;refine AL (s1:=⟨Fr 105 [(0,.sl 5 (x0.map AA.enc)),(1,.v (.int .i64 x1)),(28,.v (.bool j8))],[]⟩) ?_ ?_
  ·refine AD (n:=105) AC 2 [(0,.sl 5 (x0.map AA.enc)),(1,.v (.int .i64 x1)),(14,.sl 5 (x0.map AA.enc)),(15,.v (.int .i64 x1))] [] kr ?_
   refine AS AC 0 rfl (DH (AB rfl) rfl (AW (a:= .sl 5 (x0.map AA.enc)) (b:= .v (.int .i64 x1)) kr kr (DK (e:=AA.enc) (el:=60) (k:=5) (ki:= .i64) kr kr hv4))) ?_;refine AD (n:=105) AC 4 [(0,.sl 5 (x0.map AA.enc)),(1,.v (.int .i64 x1)),(20,.v (.bool (!(v4.2.1==[]))))] [] kr ?_;rcases BE (!(v4.2.1==[])) with hc50 | hc50
   ·rw [if_pos hc50] at hj8
    rw [hc50];refine AD (n:=105) AC 2 [(0,.sl 5 (x0.map AA.enc)),(1,.v (.int .i64 x1)),(20,.v (.bool true)),(21,.sl 5 (x0.map AA.enc)),(22,.v (.int .i64 x1))] [] kr ?_;obtain ⟨v5,hv5,hj8⟩:=OB hj8;refine AS AC 0 rfl (DH kr rfl (AW (a:= .sl 5 (x0.map AA.enc)) (b:= .v (.int .i64 x1)) kr kr (DK (e:=AA.enc) (el:=60) (k:=5) (ki:= .i64) kr kr hv5))) ?_;refine AD (n:=105) AC 2 [(0,.sl 5 (x0.map AA.enc)),(1,.v (.int .i64 x1)),(20,.v (.bool true)),(25,.st v5.2.1)] [] kr ?_;obtain ⟨v6,hv6,hj8⟩:=OB hj8;refine AR (caps:=[]) (xs:=[.st v5.2.1]) (u:=(v5.2.1,())) rfl rfl Vi rfl kr kr kr (AM (AU (c:=cdS) (v:=v5.2.1)) Af) (.inl kr) hv6 ?_;refine AD (n:=105) AC 2 [(0,.sl 5 (x0.map AA.enc)),(1,.v (.int .i64 x1)),(28,.v (.bool (!v6)))] [] kr ?_;have hq:=OI hj8; subst hq;exact AI rfl AJ
   ·rw [BY hc50] at hj8
    rw [hc50];refine AD (n:=105) AC 8 [(0,.sl 5 (x0.map AA.enc)),(1,.v (.int .i64 x1)),(28,.v (.bool false))] [] kr ?_;have hq:=OI hj8; subst hq;exact AI rfl AJ
  refine AP (b:=j8) kr (fun hb9=>?_) (fun hb9=>?_)
  ·rw [if_pos hb9] at h
   refine AK AC [(4,.v (.int .i64 4))] [] ?_;refine AN ?_;have hq:=OI h; subst hq;exact ⟨⟨Fr 105 [(4,.v (.int .i64 4))],[]⟩,AJ,.inr rfl,[.v (.int .i64 4)],kr,kr⟩
  ·rw [BY hb9] at h
   refine AT ?_;refine AG ?_;refine AK AC [(0,.sl 5 (x0.map AA.enc)),(1,.v (.int .i64 x1)),(5,.v (.int .i64 0))] [] ?_;refine AZ ?_;obtain ⟨r18,hr18,h⟩:=OB h;refine Bj (n:=100000) ?_;rcases r18 with w19 | w49
   ·try dsimp only at h
    refine Ao (Ab (s1:=⟨Fr 105 [(0,.sl 5 (x0.map AA.enc)),(1,.v (.int .i64 x1)),(5,.v (.int .i64 0))],[]⟩) AJ (Lb x0 x1 _ 0 _ hr18)) ?_;refine AG ?_;refine AK AC [(0,.sl 5 (x0.map AA.enc)),(1,.v (.int .i64 x1)),(6,.v (.int .i64 0))] [] ?_;refine AZ ?_;obtain ⟨r30,hr30,h⟩:=OB h;refine Bj (n:=100000) ?_;rcases r30 with w31 | w48
    ·try dsimp only at h
     refine Ao (Ab (s1:=⟨Fr 105 [(0,.sl 5 (x0.map AA.enc)),(1,.v (.int .i64 x1)),(6,.v (.int .i64 0))],[]⟩) AJ (Lc x0 x1 _ 0 _ hr30)) ?_;refine AG ?_;refine AG ?_;obtain ⟨v32,hv32,h⟩:=OB h;refine AL (s1:=⟨Fr 105 [(0,.sl 5 (x0.map AA.enc)),(1,.v (.int .i64 x1)),(80,.v (.bool (v32.2.1==[])))],[]⟩) ?_ ?_
     ·refine AD (n:=105) AC 2 [(0,.sl 5 (x0.map AA.enc)),(1,.v (.int .i64 x1)),(75,.sl 5 (x0.map AA.enc)),(76,.v (.int .i64 x1))] [] kr ?_
      refine AS AC 0 rfl (DH (AB rfl) rfl (AW (a:= .sl 5 (x0.map AA.enc)) (b:= .v (.int .i64 x1)) kr kr (DK (e:=AA.enc) (el:=60) (k:=5) (ki:= .i64) kr kr hv32))) ?_;exact AX AC
     refine AP (b:=(v32.2.1==[])) kr (fun hb33=>?_) (fun hb33=>?_)
     ·rw [if_pos hb33] at h
      refine AK AC [(4,.v (.int .i64 0))] [] ?_;refine AN ?_;have hq:=OI h; subst hq;exact ⟨⟨Fr 105 [(4,.v (.int .i64 0))],[]⟩,AJ,.inr rfl,[.v (.int .i64 0)],kr,kr⟩
     ·rw [BY hb33] at h
      refine AT ?_;refine AG ?_;refine AK AC [(0,.sl 5 (x0.map AA.enc)),(1,.v (.int .i64 x1)),(7,.v (.int .i64 0))] [] ?_;refine AZ ?_;obtain ⟨r45,hr45,h⟩:=OB h;refine Bj (n:=100000) ?_;rcases r45 with w46 | w47
      ·try dsimp only at h
       refine Ao (Ab (s1:=⟨Fr 105 [(0,.sl 5 (x0.map AA.enc)),(1,.v (.int .i64 x1)),(7,.v (.int .i64 0))],[]⟩) AJ (Le x0 x1 _ 0 _ hr45)) ?_;refine AK AC [(4,.v (.int .i64 31))] [] ?_;refine AN ?_;have hq:=OI h; subst hq;exact ⟨⟨Fr 105 [(4,.v (.int .i64 31))],[]⟩,AJ,.inr rfl,[.v (.int .i64 31)],kr,kr⟩
      ·try dsimp only at h
       refine Ao (Ab (s1:=⟨Fr 105 [(0,.sl 5 (x0.map AA.enc)),(1,.v (.int .i64 x1)),(7,.v (.int .i64 0))],[]⟩) AJ (Le x0 x1 _ 0 _ hr45)) ?_;have hq:=OI h; subst hq;exact ⟨⟨Fr 105 [(4,.v (.int .i64 w47))],[]⟩,AJ,.inr rfl,[.v (.int .i64 w47)],kr,kr⟩
    ·try dsimp only at h
     refine Ao (Ab (s1:=⟨Fr 105 [(0,.sl 5 (x0.map AA.enc)),(1,.v (.int .i64 x1)),(6,.v (.int .i64 0))],[]⟩) AJ (Lc x0 x1 _ 0 _ hr30)) ?_;have hq:=OI h; subst hq;exact ⟨⟨Fr 105 [(4,.v (.int .i64 w48))],[]⟩,AJ,.inr rfl,[.v (.int .i64 w48)],kr,kr⟩
   ·try dsimp only at h
    refine Ao (Ab (s1:=⟨Fr 105 [(0,.sl 5 (x0.map AA.enc)),(1,.v (.int .i64 x1)),(5,.v (.int .i64 0))],[]⟩) AJ (Lb x0 x1 _ 0 _ hr18)) ?_;have hq:=OI h; subst hq;exact ⟨⟨Fr 105 [(4,.v (.int .i64 w49))],[]⟩,AJ,.inr rfl,[.v (.int .i64 w49)],kr,kr⟩
def S4:List AV->Option AV:=Dk Jz (fun a=>Gn a.1 a.2.1) J5
theorem TA:XOk 149 S4:=by
 refine AQ Tryz.func149 (c:=HB) ?h2 ⟨Tryz.call149⟩ Jz (fun a=>Gn a.1 a.2.1) J5 (fun a=>(by show 2<=105; decide)) ?h3 ?h4
 case h2=>kernel_rfl
 case h3=>intro b; kernel_rfl
 case h4=>exact fun a b h=>RD a.1 a.2.1 b h
/- trestle/trestleref03.Check -/
noncomputable def Mx:Code:=A3 Tryz.f115
def F3 (x0:(List AF)):Nat->Int->Option ((Unit) ⊕ (Int×Int))
 | 0,_=>none
 | f + 1,c2 =>
  if (decide (c2 < (x0.length:Int)))=true then
  (Gn x0 c2).bind fun v4 =>
  if (v4 != 0)=true then
  some (.inr (c2,v4))
  else
  F3 x0 f (wr .i64 (c2 + 1))
  else
  some (.inl ())
def It (x0:(List AF)):Option (Int×Int) :=
 if (decide ((x0.length:Int) > 32))=true then
 some (0,7)
 else
 (F3 x0 100000 0).bind fun r8 =>
 match r8 with
 | (.inl _w9) =>
  some (0,0)
 | (.inr w10) =>
  some (w10.1,w10.2)
def M5:Cs ((List AF)×Unit):=(csC (cdL 5 AA) csN)
def NF (r:Int×Int):AV:= .tp [cdI.enc r.1,cdI.enc r.2]
theorem Nc (x0:(List AF)):∀ (f:Nat) (c2:Int) (r:(Unit) ⊕ (Int×Int)),F3 x0 f c2=some r->SemN E0 ⟨none,false⟩ (pc Mx [1,1,0,1,0,0]) f ⟨Fr 22 [(0,.sl 5 (x0.map AA.enc)),(4,.v (.int .i64 c2))],[]⟩ (fun e s=>match r with
 | (.inl _w)=>e=(.exit 0)/\Wk E0 s ⟨Fr 22 [],[]⟩
 | (.inr w)=>e = .ret/\Wk E0 s ⟨Fr 22 [(2,.v (.int .i64 w.1)),(3,.v (.int .i64 w.2))],[]⟩):=by
 intro f;induction f with
 | zero=>intro c2 r h; cases h
 | succ f ih0 =>
  intro c2 r h
  have ih:=fun (c2:Int)=>ih0 c2 r
  unfold F3 at h;refine BR ?_;refine AG ?_;refine AG ?_
  let p1:Nat×AV:=(4,.v (.int .i64 c2))
  let p2:Nat×AV:=(0,.sl 5 (x0.map AA.enc))
  refine AL (s1:=⟨Fr 22 [p2,p1,(12,.v (.bool (decide (c2 < (x0.length:Int)))))],[]⟩) ?_ ?_
  ·refine AD (n:=22) AC 2 [p2,p1,(9,.v (.int .i64 c2)),(10,.sl 5 (x0.map AA.enc))] [] kr ?_
   refine AS AC 0 rfl (DH (AB rfl) rfl (CX (a:= .sl 5 (x0.map AA.enc)) kr (BS (el:=60) kr))) ?_;exact AX AC
  refine AP (b:=(decide (c2 < (x0.length:Int)))) kr (fun hb3=>?_) (fun hb3=>?_)
  ·rw [if_pos hb3] at h
   refine AT ?_;refine AG ?_;refine AZ ?_;refine AG ?_;obtain ⟨v4,hv4,h⟩:=OB h;refine AL (s1:=⟨Fr 22 [p2,p1,(5,.v (.int .i64 v4))],[]⟩) ?_ ?_
   ·refine AD (n:=22) AC 2 [p2,p1,(15,.sl 5 (x0.map AA.enc)),(16,.v (.int .i64 c2))] [] kr ?_
    refine AR (caps:=[]) (xs:=[.sl 5 (x0.map AA.enc),.v (.int .i64 c2)]) (u:=(x0,c2,())) rfl rfl TA rfl (AB rfl) kr kr (AM (AU (c:=(cdL 5 AA)) (v:=x0)) (AM (AU (c:=cdI) (v:=c2)) Af)) (.inl kr) hv4 ?_;exact AX AC
   refine AK AC [p2,p1,(5,.v (.int .i64 v4)),(19,.v (.bool (v4 != 0)))] [] ?_;refine AP (b:=(v4 != 0)) kr (fun hb5=>?_) (fun hb5=>?_)
   ·rw [if_pos hb5] at h
    refine AK AC [(2,.v (.int .i64 c2)),(3,.v (.int .i64 v4))] [] ?_;refine AN ?_;have hq:=OI h; subst hq;exact ⟨rfl,AJ⟩
   ·rw [BY hb5] at h
    refine AT ?_
    let p3:Nat×AV:=(4,.v (.int .i64 (wr .i64 (c2 + 1))))
    refine Ci AC [p2,p3] [] ?_;exact Ab (s1:=⟨Fr 22 [p2,p3],[]⟩) AJ (ih (wr .i64 (c2 + 1)) h)
  ·rw [BY hb3] at h
   refine Bi ?_;have hq:=OI h; subst hq;exact ⟨rfl,AJ⟩
theorem T4 (x0:(List AF)) (r:Int×Int) (h:It x0=some r):Sem E0 ⟨none,false⟩ Mx ⟨Fr 22 (Av 0 (M5.enc (x0,()))),[]⟩ fun e s'=>(e = .normal\/e = .ret)/\∃ xs,D6 E0.P s'.fr s'.hp Tryz.f115.results.toList=some xs/\EA xs=NF r:=by
 unfold It at h
 let p1:Nat×AV:=(0,.sl 5 (x0.map AA.enc))
 refine Aj (A8 (s1:=⟨Fr 22 [p1],[]⟩) AJ ?_);refine AK AC [p1] [] ?_;refine AG ?_;refine AG ?_;refine AL (s1:=⟨Fr 22 [p1,(8,.v (.bool (decide ((x0.length:Int) > 32))))],[]⟩) ?_ ?_
 ·refine AD (n:=22) AC 1 [p1,(6,.sl 5 (x0.map AA.enc))] [] kr ?_
  refine AS AC 0 rfl (DH (AB rfl) rfl (CX (a:= .sl 5 (x0.map AA.enc)) kr (BS (el:=60) kr))) ?_;exact AX AC
 refine AP (b:=(decide ((x0.length:Int) > 32))) kr (fun hb1=>?_) (fun hb1=>?_)
 ·rw [if_pos hb1] at h
  refine AK AC [(2,.v (.int .i64 0)),(3,.v (.int .i64 7))] [] ?_;refine AN ?_;have hq:=OI h; subst hq;exact ⟨⟨Fr 22 [(2,.v (.int .i64 0)),(3,.v (.int .i64 7))],[]⟩,AJ,.inr rfl,[.v (.int .i64 0),.v (.int .i64 7)],kr,kr⟩
 ·rw [BY hb1] at h
  refine AT ?_;refine AG ?_
  let p2:Nat×AV:=(4,.v (.int .i64 0))
  refine AK AC [p1,p2] [] ?_;refine AZ ?_;obtain ⟨r8,hr8,h⟩:=OB h;refine Bj (n:=100000) ?_;rcases r8 with w9 | w10
  ·try dsimp only at h
   refine Ao (Ab (s1:=⟨Fr 22 [p1,p2],[]⟩) AJ (Nc x0 _ 0 _ hr8)) ?_;refine AK AC [(2,.v (.int .i64 0)),(3,.v (.int .i64 0))] [] ?_;refine AN ?_;have hq:=OI h; subst hq;exact ⟨⟨Fr 22 [(2,.v (.int .i64 0)),(3,.v (.int .i64 0))],[]⟩,AJ,.inr rfl,[.v (.int .i64 0),.v (.int .i64 0)],kr,kr⟩
  ·try dsimp only at h
   refine Ao (Ab (s1:=⟨Fr 22 [p1,p2],[]⟩) AJ (Nc x0 _ 0 _ hr8)) ?_;have hq:=OI h; subst hq;exact ⟨⟨Fr 22 [(2,.v (.int .i64 w10.1)),(3,.v (.int .i64 w10.2))],[]⟩,AJ,.inr rfl,[.v (.int .i64 w10.1),.v (.int .i64 w10.2)],kr,kr⟩
def WU:List AV->Option AV:=Dk M5 (fun a=>It a.1) NF
theorem Wj:XOk 115 WU:=by
 refine AQ Tryz.func115 (c:=Mx) ?h2 ⟨Tryz.call115⟩ M5 (fun a=>It a.1) NF (fun a=>(by show 1<=22; decide)) ?h3 ?h4
 case h2=>kernel_rfl
 case h3=>intro b; kernel_rfl
 case h4=>exact fun a b h=>T4 a.1 b h
/- trestle/trestleref03.Valid -/
noncomputable def QA:Code:=A3 Tryz.f62
def Iu (x0:(List AF)):Option (Bool) :=
 (It x0).bind fun v1 =>
 some (v1.2==0)
def M6:Cs ((List AF)×Unit):=(csC (cdL 5 AA) csN)
def NG (r:Bool):AV:=cdB.enc r
theorem T5 (x0:(List AF)) (r:Bool) (h:Iu x0=some r):Sem E0 ⟨none,false⟩ QA ⟨Fr 12 (Av 0 (M6.enc (x0,()))),[]⟩ fun e s'=>(e = .normal\/e = .ret)/\∃ xs,D6 E0.P s'.fr s'.hp Tryz.f62.results.toList=some xs/\EA xs=NG r:=by
 unfold Iu at h
 let p1:Nat×AV:=(0,.sl 5 (x0.map AA.enc))
 refine Aj (A8 (s1:=⟨Fr 12 [p1],[]⟩) AJ ?_);refine AK AC [p1] [] ?_;refine AG ?_;obtain ⟨v1,hv1,h⟩:=OB h;refine AL (s1:=⟨Fr 12 [(4,.v (.int .i64 v1.2))],[]⟩) ?_ ?_
 ·refine AD (n:=12) AC 1 [(6,.sl 5 (x0.map AA.enc))] [] kr ?_
  refine AR (caps:=[]) (xs:=[.sl 5 (x0.map AA.enc)]) (u:=(x0,())) rfl rfl Wj rfl (AB rfl) kr kr (AM (AU (c:=(cdL 5 AA)) (v:=x0)) Af) (.inl kr) hv1 ?_;exact AX AC
 refine AK AC [(2,.v (.bool (v1.2==0)))] [] ?_;refine AN ?_;have hq:=OI h; subst hq;exact ⟨⟨Fr 12 [(2,.v (.bool (v1.2==0)))],[]⟩,AJ,.inr rfl,[.v (.bool (v1.2==0))],kr,kr⟩
def WV:List AV->Option AV:=Dk M6 (fun a=>Iu a.1) NG
theorem Wl:XOk 62 WV:=by
 refine AQ Tryz.func62 (c:=QA) ?h2 ⟨Tryz.call62⟩ M6 (fun a=>Iu a.1) NG (fun a=>(by show 1<=12; decide)) ?h3 ?h4
 case h2=>kernel_rfl
 case h3=>intro b; kernel_rfl
 case h4=>exact fun a b h=>T5 a.1 b h
/- trestle/trestleref03.AllValid -/
noncomputable def Js:Code:=A3 Tryz.f101
def Er (x0:(List (List AF))):Nat->Int->Option ((Unit) ⊕ (Bool))
 | 0,_=>none
 | f + 1,c1 =>
  if (decide (c1 < (x0.length:Int)))=true then
  (idx x0 c1).bind fun v3 =>
  (Iu v3).bind fun v4 =>
  if (!v4)=true then
  some (.inr false)
  else
  Er x0 f (wr .i64 (c1 + 1))
  else
  some (.inl ())
def F0 (x0:(List (List AF))):Option (Bool) :=
 (Er x0 100000 0).bind fun r7 =>
 match r7 with
 | (.inl _w8) =>
  some true
 | (.inr w9) =>
  some w9
def Jy:Cs ((List (List AF))×Unit):=(csC (cdL 1 (cdL 5 AA)) csN)
def J4 (r:Bool):AV:=cdB.enc r
theorem La (x0:(List (List AF))):∀ (f:Nat) (c1:Int) (r:(Unit) ⊕ (Bool)),Er x0 f c1=some r->SemN E0 ⟨none,false⟩ (pc Js [1,0,1,0,0]) f ⟨Fr 16 [(0,.sl 1 (x0.map (cdL 5 AA).enc)),(3,.v (.int .i64 c1))],[]⟩ (fun e s=>match r with
 | (.inl _w)=>e=(.exit 0)/\Wk E0 s ⟨Fr 16 [],[]⟩
 | (.inr w)=>e = .ret/\Wk E0 s ⟨Fr 16 [(2,.v (.bool w))],[]⟩):=by
 intro f;induction f with
 | zero=>intro c1 r h; cases h
 | succ f ih0 =>
  intro c1 r h
  have ih:=fun (c1:Int)=>ih0 c1 r
  unfold Er at h;refine BR ?_;refine AG ?_;refine AG ?_
  let p1:Nat×AV:=(3,.v (.int .i64 c1))
  let p2:Nat×AV:=(0,.sl 1 (x0.map (cdL 5 AA).enc))
  refine AL (s1:=⟨Fr 16 [p2,p1,(7,.v (.bool (decide (c1 < (x0.length:Int)))))],[]⟩) ?_ ?_
  ·refine AD (n:=16) AC 2 [p2,p1,(4,.v (.int .i64 c1)),(5,.sl 1 (x0.map (cdL 5 AA).enc))] [] kr ?_
   refine AS AC 0 rfl (DH (AB rfl) rfl (CX (a:= .sl 1 (x0.map (cdL 5 AA).enc)) kr (BS (el:=22) kr))) ?_;exact AX AC
  refine AP (b:=(decide (c1 < (x0.length:Int)))) kr (fun hb2=>?_) (fun hb2=>?_)
  ·rw [if_pos hb2] at h
   refine AT ?_;refine AG ?_;refine AZ ?_;refine AG ?_;obtain ⟨v3,hv3,h⟩:=OB h;obtain ⟨v4,hv4,h⟩:=OB h;refine AL (s1:=⟨Fr 16 [p2,p1,(15,.v (.bool (!v4)))],[]⟩) ?_ ?_
   ·refine AD (n:=16) AC 2 [p2,p1,(10,.sl 1 (x0.map (cdL 5 AA).enc)),(11,.v (.int .i64 c1))] [] kr ?_
    refine AS AC 0 rfl (DH (AB rfl) rfl (AW (a:= .sl 1 (x0.map (cdL 5 AA).enc)) (b:= .v (.int .i64 c1)) kr kr (DK (e:=(cdL 5 AA).enc) (el:=22) (k:=1) (ki:= .i64) kr kr hv3))) ?_;refine AD (n:=16) AC 1 [p2,p1,(13,.sl 5 (v3.map AA.enc))] [] kr ?_;refine AR (caps:=[]) (xs:=[.sl 5 (v3.map AA.enc)]) (u:=(v3,())) rfl rfl Wl rfl (AB rfl) kr kr (AM (AU (c:=(cdL 5 AA)) (v:=v3)) Af) (.inl kr) hv4 ?_;exact AX AC
   refine AP (b:=(!v4)) kr (fun hb5=>?_) (fun hb5=>?_)
   ·rw [if_pos hb5] at h
    refine AK AC [(2,.v (.bool false))] [] ?_;refine AN ?_;have hq:=OI h; subst hq;exact ⟨rfl,AJ⟩
   ·rw [BY hb5] at h
    refine AT ?_
    let p3:Nat×AV:=(3,.v (.int .i64 (wr .i64 (c1 + 1))))
    refine Ci AC [p2,p3] [] ?_;exact Ab (s1:=⟨Fr 16 [p2,p3],[]⟩) AJ (ih (wr .i64 (c1 + 1)) h)
  ·rw [BY hb2] at h
   refine Bi ?_;have hq:=OI h; subst hq;exact ⟨rfl,AJ⟩
theorem RC (x0:(List (List AF))) (r:Bool) (h:F0 x0=some r):Sem E0 ⟨none,false⟩ Js ⟨Fr 16 (Av 0 (Jy.enc (x0,()))),[]⟩ fun e s'=>(e = .normal\/e = .ret)/\∃ xs,D6 E0.P s'.fr s'.hp Tryz.f101.results.toList=some xs/\EA xs=J4 r:=by
 unfold F0 at h
 let p1:Nat×AV:=(0,.sl 1 (x0.map (cdL 5 AA).enc))
 refine Aj (A8 (s1:=⟨Fr 16 [p1],[]⟩) AJ ?_);refine AK AC [p1] [] ?_;refine AG ?_
 let p2:Nat×AV:=(3,.v (.int .i64 0))
 refine AK AC [p1,p2] [] ?_;refine AZ ?_;obtain ⟨r7,hr7,h⟩:=OB h;refine Bj (n:=100000) ?_;rcases r7 with w8 | w9
 ·try dsimp only at h
  refine Ao (Ab (s1:=⟨Fr 16 [p1,p2],[]⟩) AJ (La x0 _ 0 _ hr7)) ?_;refine AK AC [(2,.v (.bool true))] [] ?_;refine AN ?_;have hq:=OI h; subst hq;exact ⟨⟨Fr 16 [(2,.v (.bool true))],[]⟩,AJ,.inr rfl,[.v (.bool true)],kr,kr⟩
 ·try dsimp only at h
  refine Ao (Ab (s1:=⟨Fr 16 [p1,p2],[]⟩) AJ (La x0 _ 0 _ hr7)) ?_;have hq:=OI h; subst hq;exact ⟨⟨Fr 16 [(2,.v (.bool w9))],[]⟩,AJ,.inr rfl,[.v (.bool w9)],kr,kr⟩
def S3:List AV->Option AV:=Dk Jy (fun a=>F0 a.1) J4
theorem S9:XOk 101 S3:=by
 refine AQ Tryz.func101 (c:=Js) ?h2 ⟨Tryz.call101⟩ Jy (fun a=>F0 a.1) J4 (fun a=>(by show 1<=16; decide)) ?h3 ?h4
 case h2=>kernel_rfl
 case h3=>intro b; kernel_rfl
 case h4=>exact fun a b h=>RC a.1 b h
section
variable {E:Env}{cx:Cx}{ops:Array Oper}{rest rest':List Oper}{K:St->Prop}{n n0 k:Nat}{l:List (Nat×AV)}{hp:Hp}{α β:Type}{s:Cs α}{F:α->Option β}{er:β->AV}{u:α}{v:β}{fid:FuncId}{w:World}{Z:Nat->Prop}{R:List RI}
theorem AFZ (hX:XOk fid (Dk s F er)) (hh:HR w Z R hp) (hg:GI E0 w Z){xs:List AV}{us:List Value}(hvs:VRs w Z R xs us) (hv:SeesD hp s xs u) (hok:GT (er v)=true\/xs.all F6=true/\s.dec xs=some u) (hF:F u=some v) :
  Ret E0.P fid us.toArray w fun x w'=>∃ Z',HR w' Z' R hp/\VR w' Z' R (er v) x/\Step w Z R hp w' Z' R hp/\w.grownBy w' none/\(GT (er v)=true->Z'=Z):=by
 by_cases hf:GT (er v)=true
 ·obtain ⟨ys,hv,hd⟩:=hv
  have hz1:∀ c,(Z c\/own R hp c)->c < w.heap.size:=fun c hc=>hc.elim (hh.zlt c) (fun ⟨b,B,r,h1,_,h3,h4⟩=>h4 ▸ hh.rltL h1 h3)
  have hg1:GI E0 w (fun c=>Z c\/own R hp c):=fun q y hy=>(hg q y hy).mono (fun _ _=>rfl) (fun _ h=> .inl h) (fun _ _ h=>h)
  refine Ret.mono (hX.2 ys (er v) (OC hd hF) w _ us hz1 hg1 (hv w Z R us hh hvs)) fun x w' ⟨hs,hx⟩=>?_
  exact ⟨Z,hh.keep hs.size (fun c hc=>hs.block c hc (by simp)),QV hf hx,⟨hs.os,hs.tape,hs.output,hs.size,fun c hc _=>hs.block c hc (by simp),fun _ h=> .inl h,fun _ h=>h,fun _ h=> .inl h,fun _ _ h=>h⟩,hs,fun _=>rfl⟩
 ·obtain ⟨hn,hd⟩:=hok.resolve_left hf
  refine Ret.mono (hX.2 xs (er v) (OC hd hF) w Z us hh.zlt hg (V4 hn hvs)) fun x w' ⟨hs,hx⟩=>?_
  obtain ⟨k1,k2⟩:=hh.addZ hs
  exact ⟨_,k1,hx.up,k2,hs,fun h=>absurd h hf⟩
theorem AGE (hP:E.P=E0.P) (hG:E.G=E0.G){caps xs:List AV}{d:Option Nat}{f:Operand}{args:Array Operand}{tys:Array TypeId}{ty:TypeId}{pos:String}{af:Array Edge}{g:Option (Nat×Bool)}{base:Bs}{a:Act}(hX:XOk fid (Dk s F er)) (sr:SR E base w Z R ⟨Fr n l,hp⟩ a)
  (hf:opA E (Fr n l) f=some (.fn fid [] caps)) (ha:MV (opA E (Fr n l)) args.toList=some xs) (hv:SeesD hp s (xs++caps) u) (hok:GT (er v)=true\/(xs++caps).all F6=true/\s.dec (xs++caps)=some u) (hF:F u=some v) {Q:Act->World->Prop}
  (kk:∀ x w' Z',HR w' Z' R hp->VR w' Z' R (er v) x->Step w Z R hp w' Z' R hp->w.grownBy w' none->(GT (er v)=true->Z'=Z)->SR E base w' Z' R ⟨Fr n l,hp⟩ a->Q (a.put d x) w'):Lw E.P ⟨d,.call ⟨.value f,args,tys⟩,ty,pos,af,g⟩ a w Q:=by
 have hρ:∀ o x,opA E (Fr n l) o=some x->VR w Z R x (a.eval o):=fun o x e=>opA_vr sr o x e
 have hvf:=hρ _ _ hf
 have hva:∃ uc:List Value,a.eval f = .func (.func fid) #[] uc.toArray/\VRs w Z R caps uc:=by
  generalize a.eval f=vf at hvf
  cases hvf with
  | fn hl hl' hx hy =>
   rename_i u1 u2
   have e1:u1=[]:=by simpa using hl
   subst e1
   exact ⟨u2,rfl,hl',hy⟩
 obtain ⟨uc,hva,huc⟩:=hva
 have hcl:Cc E.P fid:=hP ▸ hX.1
 unfold Lw
 rw [IG (uf:=[]) (uc:=uc) rfl hva rfl hcl w]
 have hret:=AFZ hX sr.hh (by have:=sr.gl; exact fun q y hy=>this q y (by rw [hG]; exact hy)) ((opds_vr hρ ha).append huc) hv hok hF
 rw [<-hP] at hret
 simp only [List.nil_append]
 refine Ret.mono hret fun x w' ⟨Z',k1,k2,k3,k4,k5⟩=>?_
 exact kk x w' Z' k1 k2 k3 k4 k5 (sr.step k1 k3)
theorem G6 (hP:E.P=E0.P) (hG:E.G=E0.G) (hX:XOk fid (Dk s F er)){caps xs:List AV}{d:Nat}{f:Operand}{args:Array Operand}{tys:Array TypeId}{ty:TypeId}{pos:String}{af:Array Edge}{g:Option (Nat×Bool)}(hr:rest=⟨some d,.call ⟨.value f,args,tys⟩,ty,pos,af,g⟩::rest') (hw:DM ops (Fr n l) ⟨some d,.call ⟨.value f,args,tys⟩,ty,pos,af,g⟩=some true)
  (hf:opA E (Fr n l) f=some (.fn fid [] caps)) (ha:MV (opA E (Fr n l)) args.toList=some xs) (hv:SeesD hp s (xs++caps) u) (hok:GT (er v)=true\/(xs++caps).all F6=true/\s.dec (xs++caps)=some u) (hF:F u=some v) (kk:RunL E cx ops rest' ⟨Fr n ((d,er v)::l),hp⟩ K):RunL E cx ops rest ⟨Fr n l,hp⟩ K:=by
 subst hr
 intro ro base Q a w Z R hro sr hy q
 refine Vy rfl (wantedA_eq sr hw) (AGE hP hG hX sr hf ha hv hok hF fun x w' Z' k1 k2 k3 k4 k5 sr'=>?_)
 refine kk ro base Q _ w' Z' R hro ?_ (hy.step sr.hh k3) fun s' a' w'' Z'' R'' hK sr'' st'=>q s' a' w'' Z'' R'' hK sr'' (k3.trans st')
 have:=sr'.put (d:=some d) k2
 rwa [Fn] at this
theorem Xj {T:Nat}(hP:E.P=E0.P) (hG:E.G=E0.G) (hX:XOk fid (Dk s F er)){caps xs:List AV}{d:Nat}{f:Operand}{args:Array Operand}{tys:Array TypeId}{ty:TypeId}{pos:String}{af:Array Edge}{g:Option (Nat×Bool)}(hr:rest=⟨some d,.call ⟨.value f,args,tys⟩,ty,pos,af,g⟩::rest') (hw:DM ops (Fr n l) ⟨some d,.call ⟨.value f,args,tys⟩,ty,pos,af,g⟩=some true)
  (hf:opA E (Fr n l) f=some (.fn fid [] caps)) (ha:MV (opA E (Fr n l)) args.toList=some xs) (hv:SeesD hp s (xs++caps) u) (hok:GT (er v)=true) (hF:F u=some v) (kk:RunDT E cx ops T n0 (k + 1) rest' ⟨Fr n ((d,er v)::l),hp⟩ K):RunDT E cx ops T n0 k rest ⟨Fr n l,hp⟩ K:=by
 subst hr
 intro ro base Q w0 Z R0 h0 a w R hro hy hh0 hn0 sr hgr st hpre hops q
 have hok':ops[k]? = some ⟨some d,.call ⟨.value f,args,tys⟩,ty,pos,af,g⟩:=by have:=hops 0; simpa using this.symm
 have hops':∀ j,rest'[j]? = ops[k + 1 + j]?:=fun j=>by have:=hops (j + 1); simpa [Nat.add_assoc,Nat.add_comm 1 j] using this
 refine ⟨fun _=>hgr,?_⟩
 rw [if_pos (wantedA_eq sr hw)]
 have hq:isQ (.call ⟨.value f,args,tys⟩:Op)=false:=rfl
 rw [if_pos (Hc hok' hq)]
 refine AGE hP hG hX sr hf ha hv (.inl hok) hF fun x w' Z' k1 k2 k3 k4 k5 sr'=>?_
 have e:=k5 hok
 subst e
 exact kk ro base Q w0 _ R0 h0 _ w' R hro hy hh0 hn0 (by have:=sr'.put (d:=some d) k2; rwa [Fn] at this) (GO hgr k4) (st.trans k3) hpre hops' q
end
section
variable {w w':World}{Z Z':Nat->Prop}{R R':List RI}{h h':Hp}
end
theorem SeeD.ag {α:Type}{hp:Hp}{s:Cs α}{hn:∀ x,(s.enc x).all Qd=true}{xs:List AV}{a:α}(h:SeesD hp s xs a):SeeD hp (cdA s hn) (.ag xs) a:=by
 obtain ⟨ys,k1,k2⟩:=h
 exact ⟨.ag ys,.ag k1,k2⟩
theorem SeeV.fn {hp:Hp}{f:FuncId}{cs cs':List AV}(hs:Sees hp cs cs'):SeeV hp (.fn f [] cs) (.fn f [] cs'):=fun w Z R u hh hv=>by
 cases hv with
 | fn hl hl' hx hy =>
  have:=hs w Z R _ hh ⟨hl',hy⟩
  exact .fn hl this.len (fun i x u h=>by simp at h) this.at_
/-- A closure over cells. -/
theorem SeeD.fn {α:Type}{hp:Hp}{f:FuncId}{s:Cs α}{hn:∀ x,(s.enc x).all I7=true}{q:List AV}{a:α}(h:SeesD hp s q a):SeeD hp (cdF f s hn) (.fn f [] q) a:=by
 obtain ⟨ys,k1,k2⟩:=h
 refine ⟨.fn f [] ys,.fn k1,?_⟩
 show (if f=f then s.dec ys else none)=_
 rw [if_pos rfl]; exact k2
section
variable {E:Env}{cx:Cx}{ops:Array Oper}{rest rest':List Oper}{K:St->Prop}{n n0 k:Nat}{l:List (Nat×AV)}{hp:Hp}
end
/-- A nil slice is an empty frozen one, in structs too. -/
def UpV (x y:AV):Prop:=∀ (w:World) (Z:Nat->Prop) (R:List RI) (u:Value),VR w Z R x u->VR w Z R y u
theorem UpV.refl {x:AV}:UpV x x:=fun _ _ _ _ h=>h
theorem UpV.nil {k:Nat}:UpV .e0 (.sl k []):=fun _ _ _ _ h=>by
 cases h
 exact .sl (us:=[]) rfl rfl (Nat.le_refl _) (by unfold maxLen; omega) (fun h=>by omega) (fun i x u hx=>by simp at hx)
def UpVs:List AV->List AV->Prop
 | [],[]=>True
 | x::xs,y::ys=>UpV x y/\UpVs xs ys
 | _,_=>False
theorem UpVs.len:∀ {xs ys:List AV},UpVs xs ys->xs.length=ys.length
 | [],[],_=>rfl
 | _::_,_::_,h=>by simp [UpVs.len h.2]
 | [],_::_,h=>h.elim
 | _::_,[],h=>h.elim
theorem UpVs.get:∀ {xs ys:List AV}{i:Nat}{y:AV},UpVs xs ys->ys[i]? = some y->∃ x,xs[i]? = some x/\UpV x y
 | _::_,_::_,0,_,h,e=>by simp at e; subst e; exact ⟨_,rfl,h.1⟩
 | _::_,_::_,i + 1,_,h,e=>by
  obtain ⟨x,h1,h2⟩:=UpVs.get (i:=i) h.2 (by simpa using e)
  exact ⟨x,by simpa using h1,h2⟩
 | [],[],_,_,_,e=>by simp at e
 | [],_::_,_,_,h,_=>h.elim
 | _::_,[],_,_,h,_=>h.elim
theorem UpV.ag {xs ys:List AV}(h:UpVs xs ys):UpV (.ag xs) (.ag ys):=fun w Z R u hv=>by
 cases hv with
 | ag hl h1 hx =>
  refine .ag (by rw [hl,h.len]) h1 fun i y u hy hu=>?_
  obtain ⟨x,k1,k2⟩:=h.get hy
  exact k2 _ _ _ _ (hx i x u k1 hu)
def LkU (l:List (Nat×AV)):List (Nat×AV)->Prop
 | []=>True
 | (t,z)::r=>(∃ x,lk l t=some x/\UpV x z)/\LkU l r
theorem LkU.at_ {l:List (Nat×AV)}:∀ {l':List (Nat×AV)},LkU l l'->∀ t z,lk l' t=some z->∃ x,lk l t=some x/\UpV x z
 | [],_,t,z,h=>by cases h
 | (k,z0)::r,⟨h1,h2⟩,t,z,h=>by
  rw [Ol] at h
  split at h
  ·next hk=>injection h with h; subst hk h; exact h1
  ·exact h2.at_ t z h
/-- A value in which an own thing is frozen. -/
def FzU (e z x y:AV):Prop:=∀ (w:World) (Z Z':Nat->Prop) (R:List RI) (u:Value),(∀ c,Z c->Z' c)->(∀ v,VR w Z R e v->VR w Z' R z v)->VR w Z R x u->VR w Z' R y u
section
variable {e z:AV}
theorem FzU.refl {x:AV}:FzU e z x x:=fun _ _ _ _ _ hz _ h=>h.mono (fun _ _=>rfl) hz (fun _ _ h=>h)
theorem Qq:FzU e z e z:=fun _ _ _ _ u _ k h=>k u h
def FzUs (e z:AV):List AV->List AV->Prop
 | [],[]=>True
 | x::xs,y::ys=>FzU e z x y/\FzUs e z xs ys
 | _,_=>False
theorem FzUs.len:∀ {xs ys:List AV},FzUs e z xs ys->xs.length=ys.length
 | [],[],_=>rfl
 | _::_,_::_,h=>by simp [FzUs.len h.2]
 | [],_::_,h=>h.elim
 | _::_,[],h=>h.elim
theorem FzUs.get:∀ {xs ys:List AV}{i:Nat}{y:AV},FzUs e z xs ys->ys[i]? = some y->∃ x,xs[i]? = some x/\FzU e z x y
 | _::_,_::_,0,_,h,q=>by simp at q; subst q; exact ⟨_,rfl,h.1⟩
 | _::_,_::_,i + 1,_,h,q=>by
  obtain ⟨x,h1,h2⟩:=FzUs.get (i:=i) h.2 (by simpa using q)
  exact ⟨x,by simpa using h1,h2⟩
 | [],[],_,_,_,q=>by simp at q
 | [],_::_,_,_,h,_=>h.elim
 | _::_,[],_,_,h,_=>h.elim
theorem FzU.ag {xs ys:List AV}(h:FzUs e z xs ys):FzU e z (.ag xs) (.ag ys):=fun w Z Z' R u hz k hv=>by
 cases hv with
 | ag hl h1 hx =>
  refine .ag (by rw [hl,h.len]) h1 fun i y u hy hu=>?_
  obtain ⟨x,k1,k2⟩:=h.get hy
  exact k2 _ _ _ _ _ hz k (hx i x u k1 hu)
theorem FzU.fn {f:FuncId}{xs ys:List AV}(h:FzUs e z xs ys):FzU e z (.fn f [] xs) (.fn f [] ys):=fun w Z Z' R u hz k hv=>by
 cases hv with
 | fn hl hl' hx hy =>
  refine .fn hl (by rw [hl',h.len]) (fun i x u h=>by simp at h) fun i y u hy' hu=>?_
  obtain ⟨x,k1,k2⟩:=h.get hy'
  exact k2 _ _ _ _ _ hz k (hy i x u k1 hu)
end
def LkF (l:List (Nat×AV)) (e z:AV):List (Nat×AV)->Prop
 | []=>True
 | (t,y)::r=>(∃ x,lk l t=some x/\FzU e z x y)/\LkF l e z r
theorem LkF.at_ {l:List (Nat×AV)}{e z:AV}:∀ {l':List (Nat×AV)},LkF l e z l'->∀ t y,lk l' t=some y->∃ x,lk l t=some x/\FzU e z x y
 | [],_,t,y,h=>by cases h
 | (k,z0)::r,⟨h1,h2⟩,t,y,h=>by
  rw [Ol] at h
  split at h
  ·next hk=>injection h with h; subst hk h; exact h1
  ·exact h2.at_ t y h
theorem Qs {E:Env}{n:Nat}{l l':List (Nat×AV)}{hp:Hp}{α:Type}{o:Oc α}{e:AV}{x:α}{L:List Asn}(ht:T hp (own_ o e x::L)) (hl:LkF l e (o.cd.enc x) l'):∃ hp',WkY E ⟨Fr n l,hp⟩ ⟨Fr n l',hp'⟩/\T hp' L:=by
 obtain ⟨F,p,hn',_,hk⟩:=ht.act
 refine ⟨U5 F hp,fun base w Z R a sr=>?_,hk _ fun b hb _=>VV hb⟩
 have hown:∀ c,(∃ b ∈ F,∃ r,R[b]? = some r/\c=r.c)->own R hp c:=fun c ⟨b,hb,r,hr,hc⟩=>by
  obtain ⟨B,k1,k2⟩:=o.own p hb
  exact ⟨b,B,r,k1,k2,hr,hc.symm⟩
 have hown':∀ c,own R (U5 F hp) c->own R hp c:=fun c ⟨b,B,r,h1,h2,h3,h4⟩=>⟨b,B,r,(KP.1 h1).2,h2,h3,h4⟩
 have hzo:∀ c,(Z c\/∃ b ∈ F,∃ r,R[b]? = some r/\c=r.c)->Z c\/own R hp c:=fun c hc=>hc.imp_right (hown c)
 have up':∀ {x:AV} {u:Value} {R':List RI},VR w Z R' x u->VR w (fun c=>Z c\/∃ b ∈ F,∃ r,R[b]? = some r/\c=r.c) R' x u:=fun hv=>hv.mono (fun _ _=>rfl) (fun _ h=> .inl h) (fun _ _ h=>h)
 refine ⟨fun c=>Z c\/∃ b ∈ F,∃ r,R[b]? = some r/\c=r.c,R,⟨⟨by simp [U5,sr.hh.len],fun b B hB=>?_,fun b b' B B' r r' h1 f1 h2 f2 g1 g2 e=>?_,fun c hc=>?_⟩,⟨?_,fun t x hx=>?_⟩,?_,fun g x hx=>up' (sr.gl g x hx),sr.bs⟩,⟨rfl,rfl,rfl,Nat.le_refl _,fun _ _ _=>rfl,fun c hc=> .inl (hown' c hc),fun _ h=> .inl h,fun c hc=>(hzo c hc).imp_right .inl,fun _ _ h=>h⟩⟩
 ·obtain ⟨hb,hB⟩:=KP.1 hB
  obtain ⟨r,arr,us,g1,g2,g3,g4,g5,g6,g7,g8,g9,g10⟩:=sr.hh.blk b B hB
  refine ⟨r,arr,us,g1,g2,g3,g4,g5,g6,fun hf=> .inl (g7 hf),fun hf hc=>?_,⟨g9.len,fun i x u hx hu=>up' (g9.at_ i x u hx hu)⟩,g10⟩
  rcases hc with hc | ⟨b',hb',r',hr',hc⟩
  ·exact g8 hf hc
  ·obtain ⟨B',k1,k2⟩:=o.own p hb'
   have:=sr.hh.inj b b' B B' r r' hB hf k1 k2 g1 hr' hc
   exact hb (this ▸ hb')
 ·exact sr.hh.inj b b' B B' r r' (KP.1 h1).2 f1 (KP.1 h2).2 f2 g1 g2 e
 ·rcases hzo c hc with hc | ⟨b,B,r,k1,_,k3,k4⟩
  ·exact sr.hh.zlt c hc
  ·exact k4 ▸ sr.hh.rltL k1 k3
 ·rw [JA]; have:=sr.fr.1; rw [JA] at this; exact this
 ·rw [I9] at hx
  split at hx
  ·next ht =>
   injection hx with hx
   obtain ⟨x0,h1,hf⟩:=hl.at_ t x hx
   exact hf _ _ _ _ _ (fun c h=> .inl h) (fun v hv=>(o.vr sr.hh p hv).up) (sr.fr.2 t x0 (by rw [I9,if_pos ht,h1]))
  ·cases hx
 ·exact sr.mks.imp fun q h3 h4 h5=>⟨h3,fun hc=>(hzo q hc).elim h4 h5,fun ho=>h5 (hown' q ho)⟩
/-- A cell of its own, as an own value. -/
def ocP {α:Type}(k:Nat) (t:TypeId) (c:Cd α):Oc α where
 cd:=cdP c
 at_ h e x F:=∃ b,e = .pt b 0 0/\F=[b]/\h[b]? = some (some ⟨k,t,[c.enc x],false⟩)
 loc:=fun ⟨b,e1,e2,e3⟩ k=>⟨b,e1,e2,(k b (by rw [e2]; simp)).trans e3⟩
 own:=fun ⟨b,e1,e2,e3⟩ hb=>by
  rw [e2] at hb
  simp at hb
  subst hb
  exact ⟨_,e3,rfl⟩
 vr:=fun {w Z R h e x F u} hh ha hv=>by
  obtain ⟨b,rfl,rfl,hb⟩:=ha
  obtain ⟨r,arr,us,g1,g2,g3,g4,g5,g6,g7,g8,g9,g10⟩:=hh.blk b _ hb
  cases hv with
  | pt hr =>
   rename_i r'
   rw [g1] at hr
   injection hr with hr
   subst hr
   obtain ⟨v,rfl⟩:∃ v,us=[v]:=by
    have:=g9.len
    match us,this with
    | [v],_=>exact ⟨v,rfl⟩
   have hx:=g9.at_ 0 _ v rfl rfl
   obtain ⟨k1,k2,k3⟩:=g10 0 v rfl
   have:=VR.pe (w:=w) (Z:=fun c=>Z c\/∃ b' ∈ [b],∃ r,R[b']? = some r/\c=r.c) (ρ:=[]) (off:=0) (a:=⟨r.c,0,none⟩) rfl (.inr ⟨b,by simp,r,g1,rfl⟩) k2 (fun j q hq=>by
    have:=k3 j q hq
    simp only [World.cell?,g3]
    simpa using this) ((N8 (c.nr x) hx).mono (fun _ _=>rfl) (fun _ h=> .inl h) (fun _ _ h=>h))
   show VR _ _ _ (.pe (c.enc x) 0) _
   simpa using this
theorem Xr {α:Type}{c:Cd α}{h:Hp}{p:AV}{k:Nat}{t:TypeId}{x:α}{L:List Asn}(ht:T h (cel p k t (c.enc x)::L)):T h (own_ (ocP k t c) p x::L):=ht
/- trestle/trestleref03.rank -/
noncomputable def Nm:Code:=A3 Tryz.f169
def Gi (x0:(List (List UInt8))) (x1:(List UInt8)):Nat->Int->Option ((Unit) ⊕ (Int))
 | 0,_=>none
 | f + 1,c1 =>
  if (decide (c1 < (x0.length:Int)))=true then
  (idx x0 c1).bind fun v3 =>
  if (v3==x1)=true then
  some (.inr c1)
  else
  Gi x0 x1 f (wr .i64 (c1 + 1))
  else
  some (.inl ())
def I1 (x0:(List (List UInt8))) (x1:(List UInt8)):Option (Int) :=
 (Gi x0 x1 100000 0).bind fun r6 =>
 match r6 with
 | (.inl _w7) =>
  some (x0.length:Int)
 | (.inr w8) =>
  some w8
def Nt:Cs ((List (List UInt8))×(List UInt8)×Unit):=(csC (cdL 1 cdS) (csC cdS csN))
def N1 (r:Int):AV:=cdI.enc r
theorem On (x0:(List (List UInt8))) (x1:(List UInt8)):∀ (f:Nat) (c1:Int) (r:(Unit) ⊕ (Int)),Gi x0 x1 f c1=some r->SemN E0 ⟨none,false⟩ (pc Nm [1,0,1,0,0]) f ⟨Fr 21 [(0,.sl 1 (x0.map cdS.enc)),(1,.st x1),(5,.v (.int .i64 c1))],[]⟩ (fun e s=>match r with
 | (.inl _w)=>e=(.exit 0)/\Wk E0 s ⟨Fr 21 [(0,.sl 1 (x0.map cdS.enc))],[]⟩
 | (.inr w)=>e = .ret/\Wk E0 s ⟨Fr 21 [(4,.v (.int .i64 w))],[]⟩):=by
 intro f;induction f with
 | zero=>intro c1 r h; cases h
 | succ f ih0 =>
  intro c1 r h
  have ih:=fun (c1:Int)=>ih0 c1 r
  unfold Gi at h;refine BR ?_;refine AG ?_;refine AG ?_
  let p1:Nat×AV:=(5,.v (.int .i64 c1))
  let p2:Nat×AV:=(0,.sl 1 (x0.map cdS.enc))
  refine AL (s1:=⟨Fr 21 [p2,(1,.st x1),p1,(9,.v (.bool (decide (c1 < (x0.length:Int)))))],[]⟩) ?_ ?_
  ·refine AD (n:=21) AC 2 [p2,(1,.st x1),p1,(6,.v (.int .i64 c1)),(7,.sl 1 (x0.map cdS.enc))] [] kr ?_
   refine AS AC 0 rfl (DH (AB rfl) rfl (CX (a:= .sl 1 (x0.map cdS.enc)) kr (BS (el:=9) kr))) ?_;exact AX AC
  refine AP (b:=(decide (c1 < (x0.length:Int)))) kr (fun hb2=>?_) (fun hb2=>?_)
  ·rw [if_pos hb2] at h
   refine AT ?_;refine AG ?_;refine AZ ?_;refine AG ?_;obtain ⟨v3,hv3,h⟩:=OB h;refine AL (s1:=⟨Fr 21 [p2,(1,.st x1),p1,(17,.v (.bool (v3==x1)))],[]⟩) ?_ ?_
   ·refine AD (n:=21) AC 2 [p2,(1,.st x1),p1,(12,.sl 1 (x0.map cdS.enc)),(13,.v (.int .i64 c1))] [] kr ?_
    refine AS AC 0 rfl (DH (AB rfl) rfl (AW (a:= .sl 1 (x0.map cdS.enc)) (b:= .v (.int .i64 c1)) kr kr (DK (e:=cdS.enc) (el:=9) (k:=1) (ki:= .i64) kr kr hv3))) ?_;exact AX AC
   refine AP (b:=(v3==x1)) kr (fun hb4=>?_) (fun hb4=>?_)
   ·rw [if_pos hb4] at h
    refine AK AC [(4,.v (.int .i64 c1))] [] ?_;refine AN ?_;have hq:=OI h; subst hq;exact ⟨rfl,AJ⟩
   ·rw [BY hb4] at h
    refine AT ?_
    let p3:Nat×AV:=(5,.v (.int .i64 (wr .i64 (c1 + 1))))
    refine Ci AC [p2,(1,.st x1),p3] [] ?_;exact Ab (s1:=⟨Fr 21 [p2,(1,.st x1),p3],[]⟩) AJ (ih (wr .i64 (c1 + 1)) h)
  ·rw [BY hb2] at h
   refine Bi ?_;have hq:=OI h; subst hq;exact ⟨rfl,AJ⟩
theorem U9 (x0:(List (List UInt8))) (x1:(List UInt8)) (r:Int) (h:I1 x0 x1=some r):Sem E0 ⟨none,false⟩ Nm ⟨Fr 21 (Av 0 (Nt.enc (x0,x1,()))),[]⟩ fun e s'=>(e = .normal\/e = .ret)/\∃ xs,D6 E0.P s'.fr s'.hp Tryz.f169.results.toList=some xs/\EA xs=N1 r:=by
 unfold I1 at h
 let p1:Nat×AV:=(0,.sl 1 (x0.map cdS.enc))
 refine Aj (A8 (s1:=⟨Fr 21 [p1,(1,.st x1)],[]⟩) AJ ?_);refine AK AC [p1,(1,.st x1)] [] ?_;refine AG ?_
 let p2:Nat×AV:=(5,.v (.int .i64 0))
 refine AK AC [p1,(1,.st x1),p2] [] ?_;refine AZ ?_;obtain ⟨r6,hr6,h⟩:=OB h;refine Bj (n:=100000) ?_;rcases r6 with w7 | w8
 ·try dsimp only at h
  refine Ao (Ab (s1:=⟨Fr 21 [p1,(1,.st x1),p2],[]⟩) AJ (On x0 x1 _ 0 _ hr6)) ?_;refine AG ?_
  let p3:Nat×AV:=(4,.v (.int .i64 (x0.length:Int)))
  refine AL (s1:=⟨Fr 21 [p3],[]⟩) ?_ ?_
  ·refine AD (n:=21) AC 1 [(19,.sl 1 (x0.map cdS.enc))] [] kr ?_
   refine AS AC 0 rfl (DH (AB rfl) rfl (CX (a:= .sl 1 (x0.map cdS.enc)) kr (BS (el:=9) kr))) ?_;exact AX AC
  refine AN ?_;have hq:=OI h; subst hq;exact ⟨⟨Fr 21 [p3],[]⟩,AJ,.inr rfl,[.v (.int .i64 (x0.length:Int))],kr,kr⟩
 ·try dsimp only at h
  refine Ao (Ab (s1:=⟨Fr 21 [p1,(1,.st x1),p2],[]⟩) AJ (On x0 x1 _ 0 _ hr6)) ?_;have hq:=OI h; subst hq;exact ⟨⟨Fr 21 [(4,.v (.int .i64 w8))],[]⟩,AJ,.inr rfl,[.v (.int .i64 w8)],kr,kr⟩
def XT:List AV->Option AV:=Dk Nt (fun a=>I1 a.1 a.2.1) N1
theorem Si:XOk 169 XT:=by
 refine AQ Tryz.func169 (c:=Nm) ?h2 ⟨Tryz.call169⟩ Nt (fun a=>I1 a.1 a.2.1) N1 (fun a=>(by show 2<=21; decide)) ?h3 ?h4
 case h2=>kernel_rfl
 case h3=>intro b; kernel_rfl
 case h4=>exact fun a b h=>U9 a.1 a.2.1 b h
/- trestle/trestleref03.key -/
noncomputable def Sd:Code:=A3 Tryz.f171
def MS (x0:Int) (x1:Int):Option (Int) :=
 some ((wr .i64 ((wr .i64 (x0 * (wr .i64 ((wr .i64 (x1 + x1)) + 1)))) + x1)).tmod 64)
def PA:Cs (Int×Int×Unit):=(csC cdI (csC cdI csN))
def PF (r:Int):AV:=cdI.enc r
theorem WD (x0:Int) (x1:Int) (r:Int) (h:MS x0 x1=some r):Sem E0 ⟨none,false⟩ Sd ⟨Fr 14 (Av 0 (PA.enc (x0,x1,()))),[]⟩ fun e s'=>(e = .normal\/e = .ret)/\∃ xs,D6 E0.P s'.fr s'.hp Tryz.f171.results.toList=some xs/\EA xs=PF r:=by
 unfold MS at h;refine Aj (A8 (s1:=⟨Fr 14 [(0,.v (.int .i64 x0)),(1,.v (.int .i64 x1))],[]⟩) AJ ?_);refine AK AC [(0,.v (.int .i64 x0)),(1,.v (.int .i64 x1))] [] ?_
 let p1:Nat×AV:=(4,.v (.int .i64 ((wr .i64 ((wr .i64 (x0 * (wr .i64 ((wr .i64 (x1 + x1)) + 1)))) + x1)).tmod 64)))
 refine AK AC [p1] [] ?_;refine AN ?_;have hq:=OI h; subst hq;exact ⟨⟨Fr 14 [p1],[]⟩,AJ,.inr rfl,[.v (.int .i64 ((wr .i64 ((wr .i64 (x0 * (wr .i64 ((wr .i64 (x1 + x1)) + 1)))) + x1)).tmod 64))],kr,kr⟩
def YL:List AV->Option AV:=Dk PA (fun a=>MS a.1 a.2.1) PF
theorem Uv:XOk 171 YL:=by
 refine AQ Tryz.func171 (c:=Sd) ?h2 ⟨Tryz.call171⟩ PA (fun a=>MS a.1 a.2.1) PF (fun a=>(by show 2<=14; decide)) ?h3 ?h4
 case h2=>kernel_rfl
 case h3=>intro b; kernel_rfl
 case h4=>exact fun a b h=>WD a.1 a.2.1 b h
/- trestle/trestleref03.named -/
noncomputable def My:Code:=A3 Tryz.f172
def F4 (x0:AF) (x1:Ai):Nat->Int->Option ((Unit) ⊕ (Bool))
 | 0,_=>none
 | f + 1,c5 =>
  if (decide (c5 < (x1.2.2.2.2.2.2.2.2.length:Int)))=true then
  (idx x1.2.2.2.2.2.2.2.2 c5).bind fun v7 =>
  (Ie x0.2.2.2.1 v7).bind fun v8 =>
  if v8=true then
  some (.inr true)
  else
  F4 x0 x1 f (wr .i64 (c5 + 1))
  else
  some (.inl ())
def Gp (x0:AF) (x1:Ai):Option (Bool) :=
 if (x0.1==4)=true then
 some (x1.2.2.2.2.1==x0.2.2.2.2)
 else
 if (x0.1==5)=true then
 some x1.2.2.2.2.2.2.1
 else
 if (x0.1==7)=true then
 (Ie x0.2.2.2.1 x1.2.2.1).bind fun v4 =>
 some v4
 else
 (F4 x0 x1 100000 0).bind fun r11 =>
 match r11 with
 | (.inl _w12) =>
  some false
 | (.inr w13) =>
  some w13
def M8:Cs (AF×Ai×Unit):=(csC AA (csC AE csN))
def NI (r:Bool):AV:=cdB.enc r
theorem Nd (x0:AF) (x1:Ai):∀ (f:Nat) (c5:Int) (r:(Unit) ⊕ (Bool)),F4 x0 x1 f c5=some r->SemN E0 ⟨none,false⟩ (pc My [1,1,0,1,0,0]) f ⟨Fr 41 [(2,.pt 0 0 0),(3,.pt 1 0 0),(5,.v (.int .i64 c5))],[some ⟨5,60,[AA.enc x0],false⟩,some ⟨9,42,[AE.enc x1],false⟩]⟩ (fun e s=>match r with
 | (.inl _w)=>e=(.exit 1)/\Wk E0 s ⟨Fr 41 [],[]⟩
 | (.inr w)=>e = .ret/\Wk E0 s ⟨Fr 41 [(4,.v (.bool w))],[]⟩):=by
 intro f;induction f with
 | zero=>intro c5 r h; cases h
 | succ f ih0 =>
  intro c5 r h
  have ih:=fun (c5:Int)=>ih0 c5 r
  unfold F4 at h;refine BR ?_;refine AG ?_;refine AG ?_
  let p1:Option Blk:=some ⟨9,42,[AE.enc x1],false⟩
  let p2:Option Blk:=some ⟨5,60,[AA.enc x0],false⟩
  let p3:Nat×AV:=(5,.v (.int .i64 c5))
  let p4:Nat×AV:=(3,.pt 1 0 0)
  let p5:Nat×AV:=(2,.pt 0 0 0)
  refine AL (s1:=⟨Fr 41 [p5,p4,p3,(30,.v (.bool (decide (c5 < (x1.2.2.2.2.2.2.2.2.length:Int)))))],[p2,p1]⟩) ?_ ?_
  ·refine AD (n:=41) AC 3 [p5,p4,p3,(26,.v (.int .i64 c5)),(28,.sl 1 (x1.2.2.2.2.2.2.2.2.map cdS.enc))] [p2,p1] kr ?_
   refine AS AC 0 rfl (DH (AB rfl) rfl (CX (a:= .sl 1 (x1.2.2.2.2.2.2.2.2.map cdS.enc)) kr (BS (el:=9) kr))) ?_;exact AX AC
  refine AP (b:=(decide (c5 < (x1.2.2.2.2.2.2.2.2.length:Int)))) kr (fun hb6=>?_) (fun hb6=>?_)
  ·rw [if_pos hb6] at h
   refine AT ?_;refine AG ?_;refine AZ ?_;refine AG ?_;obtain ⟨v7,hv7,h⟩:=OB h;obtain ⟨v8,hv8,h⟩:=OB h;refine DI AC (s1:=⟨Fr 41 [p5,p4,p3,(40,.v (.bool v8))],[p2,p1]⟩) kr ?_ ?_
   ·refine AY (n:=41) AC 5 [p5,p4,p3,(34,.sl 1 (x0.2.2.2.1.map cdS.enc)),(36,.sl 1 (x1.2.2.2.2.2.2.2.2.map cdS.enc)),(37,.v (.int .i64 c5))] [p2,p1] kr kr ?_
    refine RunDS.one AC rfl kr (Hd kr (AB rfl) rfl (AW (a:= .sl 1 (x1.2.2.2.2.2.2.2.2.map cdS.enc)) (b:= .v (.int .i64 c5)) kr kr (DK (e:=cdS.enc) (el:=9) (k:=1) (ki:= .i64) kr kr hv7)) kr) ?_;refine AY (n:=41) AC 1 [p5,p4,p3,(34,.sl 1 (x0.2.2.2.1.map cdS.enc)),(39,.st v7)] [p2,p1] kr kr ?_;refine Bg (caps:=[]) (xs:=[.sl 1 (x0.2.2.2.1.map cdS.enc),.st v7]) (u:=(x0.2.2.2.1,v7,())) rfl rfl OG rfl (AB rfl) kr kr (AM (AU (c:=(cdL 1 cdS)) (v:=x0.2.2.2.1)) (AM (AU (c:=cdS) (v:=v7)) Af)) kr hv8 ?_;exact RunDS.done rfl (Ae [0,1] ⟨⟨_,rfl,Gy⟩,⟨_,rfl,Gy⟩,trivial⟩ ⟨lv,lv,lv,lv,trivial⟩)
   refine AP (b:=v8) kr (fun hb9=>?_) (fun hb9=>?_)
   ·rw [if_pos hb9] at h
    refine AG ?_;refine AL (s1:=⟨Fr 41 [(4,.v (.bool true))],[]⟩) ?_ ?_
    ·refine AD (n:=41) AC 1 [(4,.v (.bool true))] [p2,p1] kr ?_
     exact AI rfl (Ae [] trivial ⟨lv,trivial⟩)
    refine AN ?_;have hq:=OI h; subst hq;exact ⟨rfl,AJ⟩
   ·rw [BY hb9] at h
    refine AT ?_
    let p6:Nat×AV:=(5,.v (.int .i64 (wr .i64 (c5 + 1))))
    refine Ci AC [p5,p4,p6] [p2,p1] ?_;exact Ab (s1:=⟨Fr 41 [p5,p4,p6],[p2,p1]⟩) (Ae [0,1] ⟨⟨_,rfl,Gy⟩,⟨_,rfl,Gy⟩,trivial⟩ ⟨lv,lv,lv,trivial⟩) (ih (wr .i64 (c5 + 1)) h)
  ·rw [BY hb6] at h
   refine Bi ?_;have hq:=OI h; subst hq;exact ⟨rfl,(Ae [] trivial trivial)⟩
theorem T7 (x0:AF) (x1:Ai) (r:Bool) (h:Gp x0 x1=some r):Sem E0 ⟨none,false⟩ My ⟨Fr 41 (Av 0 (M8.enc (x0,x1,()))),[]⟩ fun e s'=>(e = .normal\/e = .ret)/\∃ xs,D6 E0.P s'.fr s'.hp Tryz.f172.results.toList=some xs/\EA xs=NI r:=by
 unfold Gp at h;refine Aj (A8 (s1:=⟨Fr 41 [(0,AA.enc x0),(1,AE.enc x1)],[]⟩) AJ ?_)
 let p1:Option Blk:=some ⟨9,42,[AE.enc x1],false⟩
 let p2:Option Blk:=some ⟨5,60,[AA.enc x0],false⟩
 let p3:Nat×AV:=(3,.pt 1 0 0)
 let p4:Nat×AV:=(2,.pt 0 0 0)
 refine AK AC [p4,p3] [p2,p1] ?_;refine AG ?_
 let p5:Nat×AV:=(7,.v (.int .u8 x0.1))
 refine AK AC [p4,p3,p5] [p2,p1] ?_;refine AZ ?_;refine AK AC [p4,p3,p5,(8,.v (.bool (x0.1==4)))] [p2,p1] ?_;refine AP (b:=(x0.1==4)) kr (fun hb1=>?_) (fun hb1=>?_)
 ·rw [if_pos hb1] at h
  refine AG ?_
  let p6:Nat×AV:=(4,.v (.bool (x1.2.2.2.2.1==x0.2.2.2.2)))
  refine AL (s1:=⟨Fr 41 [p6],[]⟩) ?_ ?_
  ·refine AD (n:=41) AC 6 [p6] [p2,p1] kr ?_
   exact AI rfl (Ae [] trivial ⟨lv,trivial⟩)
  refine AN ?_;have hq:=OI h; subst hq;exact ⟨⟨Fr 41 [p6],[]⟩,AJ,.inr rfl,[.v (.bool (x1.2.2.2.2.1==x0.2.2.2.2))],kr,kr⟩
 ·rw [BY hb1] at h
  refine AK AC [p4,p3,p5,(15,.v (.bool (x0.1==5)))] [p2,p1] ?_;refine AP (b:=(x0.1==5)) kr (fun hb2=>?_) (fun hb2=>?_)
  ·rw [if_pos hb2] at h
   refine AG ?_
   let p7:Nat×AV:=(4,.v (.bool x1.2.2.2.2.2.2.1))
   refine AL (s1:=⟨Fr 41 [p7],[]⟩) ?_ ?_
   ·refine AD (n:=41) AC 3 [p7] [p2,p1] kr ?_
    exact AI rfl (Ae [] trivial ⟨lv,trivial⟩)
   refine AN ?_;have hq:=OI h; subst hq;exact ⟨⟨Fr 41 [p7],[]⟩,AJ,.inr rfl,[.v (.bool x1.2.2.2.2.2.2.1)],kr,kr⟩
  ·rw [BY hb2] at h
   refine AK AC [p4,p3,(19,.v (.bool (x0.1==7)))] [p2,p1] ?_;refine AP (b:=(x0.1==7)) kr (fun hb3=>?_) (fun hb3=>?_)
   ·rw [if_pos hb3] at h
    refine AG ?_;obtain ⟨v4,hv4,h⟩:=OB h;refine AL (s1:=⟨Fr 41 [(4,.v (.bool v4))],[]⟩) ?_ ?_
    ·refine AD (n:=41) AC 4 [(22,.sl 1 (x0.2.2.2.1.map cdS.enc)),(24,.st x1.2.2.1)] [p2,p1] kr ?_
     refine AR (caps:=[]) (xs:=[.sl 1 (x0.2.2.2.1.map cdS.enc),.st x1.2.2.1]) (u:=(x0.2.2.2.1,x1.2.2.1,())) rfl rfl OG rfl (AB rfl) kr kr (AM (AU (c:=(cdL 1 cdS)) (v:=x0.2.2.2.1)) (AM (AU (c:=cdS) (v:=x1.2.2.1)) Af)) (.inl kr) hv4 ?_;refine AD (n:=41) AC 1 [(4,.v (.bool v4))] [p2,p1] kr ?_;exact AI rfl (Ae [] trivial ⟨lv,trivial⟩)
    refine AN ?_;have hq:=OI h; subst hq;exact ⟨⟨Fr 41 [(4,.v (.bool v4))],[]⟩,AJ,.inr rfl,[.v (.bool v4)],kr,kr⟩
   ·rw [BY hb3] at h
    refine AT ?_;refine AG ?_
    let p8:Nat×AV:=(5,.v (.int .i64 0))
    refine AK AC [p4,p3,p8] [p2,p1] ?_;refine AZ ?_;obtain ⟨r11,hr11,h⟩:=OB h;refine Bj (n:=100000) ?_;rcases r11 with w12 | w13
    ·try dsimp only at h
     refine Ao (Ab (s1:=⟨Fr 41 [p4,p3,p8],[p2,p1]⟩) (Ae [0,1] ⟨⟨_,rfl,Gy⟩,⟨_,rfl,Gy⟩,trivial⟩ ⟨lv,lv,lv,trivial⟩) (Nd x0 x1 _ 0 _ hr11)) ?_;refine AK AC [(4,.v (.bool false))] [] ?_;refine AN ?_;have hq:=OI h; subst hq;exact ⟨⟨Fr 41 [(4,.v (.bool false))],[]⟩,AJ,.inr rfl,[.v (.bool false)],kr,kr⟩
    ·try dsimp only at h
     refine Ao (Ab (s1:=⟨Fr 41 [p4,p3,p8],[p2,p1]⟩) (Ae [0,1] ⟨⟨_,rfl,Gy⟩,⟨_,rfl,Gy⟩,trivial⟩ ⟨lv,lv,lv,trivial⟩) (Nd x0 x1 _ 0 _ hr11)) ?_;have hq:=OI h; subst hq;exact ⟨⟨Fr 41 [(4,.v (.bool w13))],[]⟩,AJ,.inr rfl,[.v (.bool w13)],kr,kr⟩
def WX:List AV->Option AV:=Dk M8 (fun a=>Gp a.1 a.2.1) NI
theorem Lq:XOk 172 WX:=by
 refine AQ Tryz.func172 (c:=My) ?h2 ⟨Tryz.call172⟩ M8 (fun a=>Gp a.1 a.2.1) NI (fun a=>(by show 2<=41; decide)) ?h3 ?h4
 case h2=>kernel_rfl
 case h3=>intro b; kernel_rfl
 case h4=>exact fun a b h=>T7 a.1 a.2.1 b h
/- trestle/trestleref03.before -/
noncomputable def O3:Code:=A3 Tryz.f151
def HJ (x0:AF) (x1:Ai) (x2:Ai) (x3:Int) (x4:Int):Option (Bool) :=
 if (x0.1==1)=true then
 (I1 x0.2.2.2.1 x1.2.1).bind fun v2 =>
 (I1 x0.2.2.2.1 x2.2.1).bind fun v3 =>
 some (decide (v2 < v3))
 else
 if (x0.1==2)=true then
 (if (x1.2.2.2.1 != 0)=true then if (x2.2.2.2.1==0)=true then some true else some (decide (x1.2.2.2.1 < x2.2.2.2.1)) else some false).bind fun j6 =>
 some j6
 else
 if (x0.1==3)=true then
 (if (x1.2.2.2.1 != 0)=true then if (x2.2.2.2.1==0)=true then some true else some (decide (x1.2.2.2.1 > x2.2.2.2.1)) else some false).bind fun j11 =>
 some j11
 else
 if (x0.1==8)=true then
 some (Go.Op.bytesLess x1.1 x2.1)
 else
 if (x0.1==9)=true then
 (Bb x3 0 63).bind fun v16 =>
 (if v16=true then (Bb x4 0 63).bind fun v17 =>
 if v17=true then some (decide (x3 < x4)) else some false else some false).bind fun j19 =>
 some j19
 else
 if (x0.1==10)=true then
 (Bb x3 0 63).bind fun v23 =>
 (if v23=true then (Bb x4 0 63).bind fun v24 =>
 if v24=true then (MS x3 x0.2.2.2.2).bind fun v25 =>
 (MS x4 x0.2.2.2.2).bind fun v26 =>
 some (decide (v25 < v26)) else some false else some false).bind fun j28 =>
 some j28
 else
 if x0.2.2.1=true then
 (Gp x0 x1).bind fun v32 =>
 (if (!v32)=true then (Gp x0 x2).bind fun v33 =>
 some v33 else some false).bind fun j35 =>
 some j35
 else
 (Gp x0 x1).bind fun v37 =>
 (if v37=true then (Gp x0 x2).bind fun v38 =>
 some (!v38) else some false).bind fun j40 =>
 some j40
def MB:Cs (AF×Ai×Ai×Int×Int×Unit):=(csC AA (csC AE (csC AE (csC cdI (csC cdI csN)))))
def MI (r:Bool):AV:=cdB.enc r
theorem Sx (x0:AF) (x1:Ai) (x2:Ai) (x3:Int) (x4:Int) (r:Bool) (h:HJ x0 x1 x2 x3 x4=some r):Sem E0 ⟨none,false⟩ O3 ⟨Fr 119 (Av 0 (MB.enc (x0,x1,x2,x3,x4,()))),[]⟩ fun e s'=>(e = .normal\/e = .ret)/\∃ xs,D6 E0.P s'.fr s'.hp Tryz.f151.results.toList=some xs/\EA xs=MI r:=by
 unfold HJ at h;refine Aj (A8 (s1:=⟨Fr 119 [(0,AA.enc x0),(1,AE.enc x1),(2,AE.enc x2),(3,.v (.int .i64 x3)),(4,.v (.int .i64 x4))],[]⟩) AJ ?_);refine AK AC [(3,.v (.int .i64 x3)),(4,.v (.int .i64 x4)),(5,.pt 0 0 0),(6,.pt 1 0 0),(7,.pt 2 0 0)] [some ⟨5,60,[AA.enc x0],false⟩,some ⟨9,42,[AE.enc x1],false⟩,some ⟨9,42,[AE.enc x2],false⟩] ?_;refine AG ?_;refine AK AC [(3,.v (.int .i64 x3)),(4,.v (.int .i64 x4)),(5,.pt 0 0 0),(6,.pt 1 0 0),(7,.pt 2 0 0),(12,.v (.int .u8 x0.1))] [some ⟨5,60,[AA.enc x0],false⟩,some ⟨9,42,[AE.enc x1],false⟩,some ⟨9,42,[AE.enc x2],false⟩] ?_;refine AZ ?_;refine AK AC [(3,.v (.int .i64 x3)),(4,.v (.int .i64 x4)),(5,.pt 0 0 0),(6,.pt 1 0 0),(7,.pt 2 0 0),(12,.v (.int .u8 x0.1)),(13,.v (.bool (x0.1==1)))] [some ⟨5,60,[AA.enc x0],false⟩,some ⟨9,42,[AE.enc x1],false⟩,some ⟨9,42,[AE.enc x2],false⟩] ?_;refine AP (b:=(x0.1==1)) kr (fun hb1=>?_) (fun hb1=>?_)
 ·rw [if_pos hb1] at h
  refine AG ?_;obtain ⟨v2,hv2,h⟩:=OB h;obtain ⟨v3,hv3,h⟩:=OB h;refine DI AC (s1:=⟨Fr 119 [(10,.v (.bool (decide (v2 < v3))))],[]⟩) kr ?_ ?_
  ·refine AY (n:=119) AC 4 [(5,.pt 0 0 0),(7,.pt 2 0 0),(16,.sl 1 (x0.2.2.2.1.map cdS.enc)),(18,.st x1.2.1)] [some ⟨5,60,[AA.enc x0],false⟩,some ⟨9,42,[AE.enc x1],false⟩,some ⟨9,42,[AE.enc x2],false⟩] kr kr ?_
   refine Bg (caps:=[]) (xs:=[.sl 1 (x0.2.2.2.1.map cdS.enc),.st x1.2.1]) (u:=(x0.2.2.2.1,x1.2.1,())) rfl rfl Si rfl (AB rfl) kr kr (AM (AU (c:=(cdL 1 cdS)) (v:=x0.2.2.2.1)) (AM (AU (c:=cdS) (v:=x1.2.1)) Af)) kr hv2 ?_;refine AY (n:=119) AC 4 [(19,.v (.int .i64 v2)),(21,.sl 1 (x0.2.2.2.1.map cdS.enc)),(23,.st x2.2.1)] [some ⟨5,60,[AA.enc x0],false⟩,some ⟨9,42,[AE.enc x1],false⟩,some ⟨9,42,[AE.enc x2],false⟩] kr kr ?_;refine Bg (caps:=[]) (xs:=[.sl 1 (x0.2.2.2.1.map cdS.enc),.st x2.2.1]) (u:=(x0.2.2.2.1,x2.2.1,())) rfl rfl Si rfl (AB rfl) kr kr (AM (AU (c:=(cdL 1 cdS)) (v:=x0.2.2.2.1)) (AM (AU (c:=cdS) (v:=x2.2.1)) Af)) kr hv3 ?_;refine AY (n:=119) AC 2 [(10,.v (.bool (decide (v2 < v3))))] [some ⟨5,60,[AA.enc x0],false⟩,some ⟨9,42,[AE.enc x1],false⟩,some ⟨9,42,[AE.enc x2],false⟩] kr kr ?_;exact RunDS.done rfl (Ae [] trivial ⟨lv,trivial⟩)
  refine AN ?_;have hq:=OI h; subst hq;exact ⟨⟨Fr 119 [(10,.v (.bool (decide (v2 < v3))))],[]⟩,AJ,.inr rfl,[.v (.bool (decide (v2 < v3)))],kr,kr⟩
 ·rw [BY hb1] at h
  refine AK AC [(3,.v (.int .i64 x3)),(4,.v (.int .i64 x4)),(5,.pt 0 0 0),(6,.pt 1 0 0),(7,.pt 2 0 0),(12,.v (.int .u8 x0.1)),(26,.v (.bool (x0.1==2)))] [some ⟨5,60,[AA.enc x0],false⟩,some ⟨9,42,[AE.enc x1],false⟩,some ⟨9,42,[AE.enc x2],false⟩] ?_;refine AP (b:=(x0.1==2)) kr (fun hb4=>?_) (fun hb4=>?_)
  ·rw [if_pos hb4] at h
   refine AG ?_;obtain ⟨j6,hj6,h⟩:=OB h;refine AL (s1:=⟨Fr 119 [(10,.v (.bool j6))],[]⟩) ?_ ?_
   ·refine AD (n:=119) AC 4 [(6,.pt 1 0 0),(7,.pt 2 0 0),(31,.v (.bool (x1.2.2.2.1 != 0)))] [some ⟨5,60,[AA.enc x0],false⟩,some ⟨9,42,[AE.enc x1],false⟩,some ⟨9,42,[AE.enc x2],false⟩] kr ?_
    rcases BE (x1.2.2.2.1 != 0) with hc7 | hc7
    ·rw [if_pos hc7] at hj6
     rw [hc7];refine AD (n:=119) AC 4 [(6,.pt 1 0 0),(7,.pt 2 0 0),(31,.v (.bool true)),(35,.v (.bool (x2.2.2.2.1==0)))] [some ⟨5,60,[AA.enc x0],false⟩,some ⟨9,42,[AE.enc x1],false⟩,some ⟨9,42,[AE.enc x2],false⟩] kr ?_;rcases BE (x2.2.2.2.1==0) with hc8 | hc8
     ·rw [if_pos hc8] at hj6
      rw [hc8];refine AD (n:=119) AC 8 [(10,.v (.bool true))] [some ⟨5,60,[AA.enc x0],false⟩,some ⟨9,42,[AE.enc x1],false⟩,some ⟨9,42,[AE.enc x2],false⟩] kr ?_;have hq:=OI hj6; subst hq;exact AI rfl (Ae [] trivial ⟨lv,trivial⟩)
     ·rw [BY hc8] at hj6
      rw [hc8];refine AD (n:=119) AC 8 [(10,.v (.bool (decide (x1.2.2.2.1 < x2.2.2.2.1))))] [some ⟨5,60,[AA.enc x0],false⟩,some ⟨9,42,[AE.enc x1],false⟩,some ⟨9,42,[AE.enc x2],false⟩] kr ?_;have hq:=OI hj6; subst hq;exact AI rfl (Ae [] trivial ⟨lv,trivial⟩)
    ·rw [BY hc7] at hj6
     rw [hc7];refine AD (n:=119) AC 12 [(10,.v (.bool false))] [some ⟨5,60,[AA.enc x0],false⟩,some ⟨9,42,[AE.enc x1],false⟩,some ⟨9,42,[AE.enc x2],false⟩] kr ?_;have hq:=OI hj6; subst hq;exact AI rfl (Ae [] trivial ⟨lv,trivial⟩)
   refine AN ?_;have hq:=OI h; subst hq;exact ⟨⟨Fr 119 [(10,.v (.bool j6))],[]⟩,AJ,.inr rfl,[.v (.bool j6)],kr,kr⟩
  ·rw [BY hb4] at h
   refine AK AC [(3,.v (.int .i64 x3)),(4,.v (.int .i64 x4)),(5,.pt 0 0 0),(6,.pt 1 0 0),(7,.pt 2 0 0),(12,.v (.int .u8 x0.1)),(43,.v (.bool (x0.1==3)))] [some ⟨5,60,[AA.enc x0],false⟩,some ⟨9,42,[AE.enc x1],false⟩,some ⟨9,42,[AE.enc x2],false⟩] ?_;refine AP (b:=(x0.1==3)) kr (fun hb9=>?_) (fun hb9=>?_)
   ·rw [if_pos hb9] at h
    refine AG ?_;obtain ⟨j11,hj11,h⟩:=OB h;refine AL (s1:=⟨Fr 119 [(10,.v (.bool j11))],[]⟩) ?_ ?_
    ·refine AD (n:=119) AC 4 [(6,.pt 1 0 0),(7,.pt 2 0 0),(48,.v (.bool (x1.2.2.2.1 != 0)))] [some ⟨5,60,[AA.enc x0],false⟩,some ⟨9,42,[AE.enc x1],false⟩,some ⟨9,42,[AE.enc x2],false⟩] kr ?_
     rcases BE (x1.2.2.2.1 != 0) with hc12 | hc12
     ·rw [if_pos hc12] at hj11
      rw [hc12];refine AD (n:=119) AC 4 [(6,.pt 1 0 0),(7,.pt 2 0 0),(48,.v (.bool true)),(52,.v (.bool (x2.2.2.2.1==0)))] [some ⟨5,60,[AA.enc x0],false⟩,some ⟨9,42,[AE.enc x1],false⟩,some ⟨9,42,[AE.enc x2],false⟩] kr ?_;rcases BE (x2.2.2.2.1==0) with hc13 | hc13
      ·rw [if_pos hc13] at hj11
       rw [hc13];refine AD (n:=119) AC 8 [(10,.v (.bool true))] [some ⟨5,60,[AA.enc x0],false⟩,some ⟨9,42,[AE.enc x1],false⟩,some ⟨9,42,[AE.enc x2],false⟩] kr ?_;have hq:=OI hj11; subst hq;exact AI rfl (Ae [] trivial ⟨lv,trivial⟩)
      ·rw [BY hc13] at hj11
       rw [hc13];refine AD (n:=119) AC 8 [(10,.v (.bool (decide (x1.2.2.2.1 > x2.2.2.2.1))))] [some ⟨5,60,[AA.enc x0],false⟩,some ⟨9,42,[AE.enc x1],false⟩,some ⟨9,42,[AE.enc x2],false⟩] kr ?_;have hq:=OI hj11; subst hq;exact AI rfl (Ae [] trivial ⟨lv,trivial⟩)
     ·rw [BY hc12] at hj11
      rw [hc12];refine AD (n:=119) AC 12 [(10,.v (.bool false))] [some ⟨5,60,[AA.enc x0],false⟩,some ⟨9,42,[AE.enc x1],false⟩,some ⟨9,42,[AE.enc x2],false⟩] kr ?_;have hq:=OI hj11; subst hq;exact AI rfl (Ae [] trivial ⟨lv,trivial⟩)
    refine AN ?_;have hq:=OI h; subst hq;exact ⟨⟨Fr 119 [(10,.v (.bool j11))],[]⟩,AJ,.inr rfl,[.v (.bool j11)],kr,kr⟩
   ·rw [BY hb9] at h
    refine AK AC [(3,.v (.int .i64 x3)),(4,.v (.int .i64 x4)),(5,.pt 0 0 0),(6,.pt 1 0 0),(7,.pt 2 0 0),(12,.v (.int .u8 x0.1)),(60,.v (.bool (x0.1==8)))] [some ⟨5,60,[AA.enc x0],false⟩,some ⟨9,42,[AE.enc x1],false⟩,some ⟨9,42,[AE.enc x2],false⟩] ?_;refine AP (b:=(x0.1==8)) kr (fun hb14=>?_) (fun hb14=>?_)
    ·rw [if_pos hb14] at h
     refine AG ?_;refine AL (s1:=⟨Fr 119 [(10,.v (.bool (Go.Op.bytesLess x1.1 x2.1)))],[]⟩) ?_ ?_
     ·refine AD (n:=119) AC 6 [(10,.v (.bool (Go.Op.bytesLess x1.1 x2.1)))] [some ⟨5,60,[AA.enc x0],false⟩,some ⟨9,42,[AE.enc x1],false⟩,some ⟨9,42,[AE.enc x2],false⟩] kr ?_
      exact AI rfl (Ae [] trivial ⟨lv,trivial⟩)
     refine AN ?_;have hq:=OI h; subst hq;exact ⟨⟨Fr 119 [(10,.v (.bool (Go.Op.bytesLess x1.1 x2.1)))],[]⟩,AJ,.inr rfl,[.v (.bool (Go.Op.bytesLess x1.1 x2.1))],kr,kr⟩
    ·rw [BY hb14] at h
     refine AK AC [(3,.v (.int .i64 x3)),(4,.v (.int .i64 x4)),(5,.pt 0 0 0),(6,.pt 1 0 0),(7,.pt 2 0 0),(12,.v (.int .u8 x0.1)),(67,.v (.bool (x0.1==9)))] [some ⟨5,60,[AA.enc x0],false⟩,some ⟨9,42,[AE.enc x1],false⟩,some ⟨9,42,[AE.enc x2],false⟩] ?_;refine AP (b:=(x0.1==9)) kr (fun hb15=>?_) (fun hb15=>?_)
     ·rw [if_pos hb15] at h
      refine AG ?_;obtain ⟨v16,hv16,h⟩:=OB h;obtain ⟨j19,hj19,h⟩:=OB h;refine AL (s1:=⟨Fr 119 [(10,.v (.bool j19))],[]⟩) ?_ ?_
      ·refine AD (n:=119) AC 1 [(3,.v (.int .i64 x3)),(4,.v (.int .i64 x4)),(69,.v (.int .i64 x3))] [some ⟨5,60,[AA.enc x0],false⟩,some ⟨9,42,[AE.enc x1],false⟩,some ⟨9,42,[AE.enc x2],false⟩] kr ?_
       refine AR (caps:=[]) (xs:=[.v (.int .i64 x3),.v (.int .i64 0),.v (.int .i64 63)]) (u:=(x3,0,63,())) rfl rfl FK rfl (AB rfl) kr kr (AM (AU (c:=cdI) (v:=x3)) (AM (AU (c:=cdI) (v:=0)) (AM (AU (c:=cdI) (v:=63)) Af))) (.inl kr) hv16 ?_;refine AD (n:=119) AC 1 [(3,.v (.int .i64 x3)),(4,.v (.int .i64 x4)),(71,.v (.bool v16))] [some ⟨5,60,[AA.enc x0],false⟩,some ⟨9,42,[AE.enc x1],false⟩,some ⟨9,42,[AE.enc x2],false⟩] kr ?_;rcases BE v16 with hc20 | hc20
       ·rw [if_pos hc20] at hj19
        rw [hc20];refine AD (n:=119) AC 1 [(3,.v (.int .i64 x3)),(4,.v (.int .i64 x4)),(71,.v (.bool true)),(72,.v (.int .i64 x4))] [some ⟨5,60,[AA.enc x0],false⟩,some ⟨9,42,[AE.enc x1],false⟩,some ⟨9,42,[AE.enc x2],false⟩] kr ?_;obtain ⟨v17,hv17,hj19⟩:=OB hj19;refine AR (caps:=[]) (xs:=[.v (.int .i64 x4),.v (.int .i64 0),.v (.int .i64 63)]) (u:=(x4,0,63,())) rfl rfl FK rfl kr kr kr (AM (AU (c:=cdI) (v:=x4)) (AM (AU (c:=cdI) (v:=0)) (AM (AU (c:=cdI) (v:=63)) Af))) (.inl kr) hv17 ?_;refine AD (n:=119) AC 2 [(3,.v (.int .i64 x3)),(4,.v (.int .i64 x4)),(75,.v (.bool v17))] [some ⟨5,60,[AA.enc x0],false⟩,some ⟨9,42,[AE.enc x1],false⟩,some ⟨9,42,[AE.enc x2],false⟩] kr ?_;rcases BE v17 with hc21 | hc21
        ·rw [if_pos hc21] at hj19
         rw [hc21];refine AD (n:=119) AC 5 [(10,.v (.bool (decide (x3 < x4))))] [some ⟨5,60,[AA.enc x0],false⟩,some ⟨9,42,[AE.enc x1],false⟩,some ⟨9,42,[AE.enc x2],false⟩] kr ?_;have hq:=OI hj19; subst hq;exact AI rfl (Ae [] trivial ⟨lv,trivial⟩)
        ·rw [BY hc21] at hj19
         rw [hc21];refine AD (n:=119) AC 5 [(10,.v (.bool false))] [some ⟨5,60,[AA.enc x0],false⟩,some ⟨9,42,[AE.enc x1],false⟩,some ⟨9,42,[AE.enc x2],false⟩] kr ?_;have hq:=OI hj19; subst hq;exact AI rfl (Ae [] trivial ⟨lv,trivial⟩)
       ·rw [BY hc20] at hj19
        rw [hc20];refine AD (n:=119) AC 9 [(10,.v (.bool false))] [some ⟨5,60,[AA.enc x0],false⟩,some ⟨9,42,[AE.enc x1],false⟩,some ⟨9,42,[AE.enc x2],false⟩] kr ?_;have hq:=OI hj19; subst hq;exact AI rfl (Ae [] trivial ⟨lv,trivial⟩)
      refine AN ?_;have hq:=OI h; subst hq;exact ⟨⟨Fr 119 [(10,.v (.bool j19))],[]⟩,AJ,.inr rfl,[.v (.bool j19)],kr,kr⟩
     ·rw [BY hb15] at h
      refine AK AC [(3,.v (.int .i64 x3)),(4,.v (.int .i64 x4)),(5,.pt 0 0 0),(6,.pt 1 0 0),(7,.pt 2 0 0),(80,.v (.bool (x0.1==10)))] [some ⟨5,60,[AA.enc x0],false⟩,some ⟨9,42,[AE.enc x1],false⟩,some ⟨9,42,[AE.enc x2],false⟩] ?_;refine AP (b:=(x0.1==10)) kr (fun hb22=>?_) (fun hb22=>?_)
      ·rw [if_pos hb22] at h
       refine AG ?_;obtain ⟨v23,hv23,h⟩:=OB h;obtain ⟨j28,hj28,h⟩:=OB h;refine DI AC (s1:=⟨Fr 119 [(10,.v (.bool j28))],[]⟩) kr ?_ ?_
       ·refine AY (n:=119) AC 1 [(3,.v (.int .i64 x3)),(4,.v (.int .i64 x4)),(5,.pt 0 0 0),(82,.v (.int .i64 x3))] [some ⟨5,60,[AA.enc x0],false⟩,some ⟨9,42,[AE.enc x1],false⟩,some ⟨9,42,[AE.enc x2],false⟩] kr kr ?_
        refine Bg (caps:=[]) (xs:=[.v (.int .i64 x3),.v (.int .i64 0),.v (.int .i64 63)]) (u:=(x3,0,63,())) rfl rfl FK rfl (AB rfl) kr kr (AM (AU (c:=cdI) (v:=x3)) (AM (AU (c:=cdI) (v:=0)) (AM (AU (c:=cdI) (v:=63)) Af))) kr hv23 ?_;refine AY (n:=119) AC 1 [(3,.v (.int .i64 x3)),(4,.v (.int .i64 x4)),(5,.pt 0 0 0),(84,.v (.bool v23))] [some ⟨5,60,[AA.enc x0],false⟩,some ⟨9,42,[AE.enc x1],false⟩,some ⟨9,42,[AE.enc x2],false⟩] kr kr ?_;rcases BE v23 with hc29 | hc29
        ·rw [if_pos hc29] at hj28
         rw [hc29];refine AY (n:=119) AC 1 [(3,.v (.int .i64 x3)),(4,.v (.int .i64 x4)),(5,.pt 0 0 0),(84,.v (.bool true)),(85,.v (.int .i64 x4))] [some ⟨5,60,[AA.enc x0],false⟩,some ⟨9,42,[AE.enc x1],false⟩,some ⟨9,42,[AE.enc x2],false⟩] kr kr ?_;obtain ⟨v24,hv24,hj28⟩:=OB hj28;refine Bg (caps:=[]) (xs:=[.v (.int .i64 x4),.v (.int .i64 0),.v (.int .i64 63)]) (u:=(x4,0,63,())) rfl rfl FK rfl kr kr kr (AM (AU (c:=cdI) (v:=x4)) (AM (AU (c:=cdI) (v:=0)) (AM (AU (c:=cdI) (v:=63)) Af))) kr hv24 ?_;refine AY (n:=119) AC 2 [(3,.v (.int .i64 x3)),(4,.v (.int .i64 x4)),(5,.pt 0 0 0),(88,.v (.bool v24))] [some ⟨5,60,[AA.enc x0],false⟩,some ⟨9,42,[AE.enc x1],false⟩,some ⟨9,42,[AE.enc x2],false⟩] kr kr ?_;rcases BE v24 with hc30 | hc30
         ·rw [if_pos hc30] at hj28
          rw [hc30];refine AY (n:=119) AC 3 [(4,.v (.int .i64 x4)),(5,.pt 0 0 0),(88,.v (.bool true)),(89,.v (.int .i64 x3)),(91,.v (.int .i64 x0.2.2.2.2))] [some ⟨5,60,[AA.enc x0],false⟩,some ⟨9,42,[AE.enc x1],false⟩,some ⟨9,42,[AE.enc x2],false⟩] kr kr ?_;obtain ⟨v25,hv25,hj28⟩:=OB hj28;refine Bg (caps:=[]) (xs:=[.v (.int .i64 x3),.v (.int .i64 x0.2.2.2.2)]) (u:=(x3,x0.2.2.2.2,())) rfl rfl Uv rfl kr kr kr (AM (AU (c:=cdI) (v:=x3)) (AM (AU (c:=cdI) (v:=x0.2.2.2.2)) Af)) kr hv25 ?_;refine AY (n:=119) AC 3 [(88,.v (.bool true)),(92,.v (.int .i64 v25)),(93,.v (.int .i64 x4)),(95,.v (.int .i64 x0.2.2.2.2))] [some ⟨5,60,[AA.enc x0],false⟩,some ⟨9,42,[AE.enc x1],false⟩,some ⟨9,42,[AE.enc x2],false⟩] kr kr ?_;obtain ⟨v26,hv26,hj28⟩:=OB hj28;refine Bg (caps:=[]) (xs:=[.v (.int .i64 x4),.v (.int .i64 x0.2.2.2.2)]) (u:=(x4,x0.2.2.2.2,())) rfl rfl Uv rfl kr kr kr (AM (AU (c:=cdI) (v:=x4)) (AM (AU (c:=cdI) (v:=x0.2.2.2.2)) Af)) kr hv26 ?_;refine AY (n:=119) AC 3 [(10,.v (.bool (decide (v25 < v26))))] [some ⟨5,60,[AA.enc x0],false⟩,some ⟨9,42,[AE.enc x1],false⟩,some ⟨9,42,[AE.enc x2],false⟩] kr kr ?_;have hq:=OI hj28; subst hq;exact RunDS.done rfl (Ae [] trivial ⟨lv,trivial⟩)
         ·rw [BY hc30] at hj28
          rw [hc30];refine AY (n:=119) AC 11 [(10,.v (.bool false))] [some ⟨5,60,[AA.enc x0],false⟩,some ⟨9,42,[AE.enc x1],false⟩,some ⟨9,42,[AE.enc x2],false⟩] kr kr ?_;have hq:=OI hj28; subst hq;exact RunDS.done rfl (Ae [] trivial ⟨lv,trivial⟩)
        ·rw [BY hc29] at hj28
         rw [hc29];refine AY (n:=119) AC 15 [(10,.v (.bool false))] [some ⟨5,60,[AA.enc x0],false⟩,some ⟨9,42,[AE.enc x1],false⟩,some ⟨9,42,[AE.enc x2],false⟩] kr kr ?_;have hq:=OI hj28; subst hq;exact RunDS.done rfl (Ae [] trivial ⟨lv,trivial⟩)
       refine AN ?_;have hq:=OI h; subst hq;exact ⟨⟨Fr 119 [(10,.v (.bool j28))],[]⟩,AJ,.inr rfl,[.v (.bool j28)],kr,kr⟩
      ·rw [BY hb22] at h
       refine AT ?_;refine AG ?_;refine AK AC [(5,.pt 0 0 0),(6,.pt 1 0 0),(7,.pt 2 0 0),(100,.v (.bool x0.2.2.1))] [some ⟨5,60,[AA.enc x0],false⟩,some ⟨9,42,[AE.enc x1],false⟩,some ⟨9,42,[AE.enc x2],false⟩] ?_;refine AP (b:=x0.2.2.1) kr (fun hb31=>?_) (fun hb31=>?_)
       ·rw [if_pos hb31] at h
        refine AG ?_;obtain ⟨v32,hv32,h⟩:=OB h;obtain ⟨j35,hj35,h⟩:=OB h;refine AL (s1:=⟨Fr 119 [(10,.v (.bool j35))],[]⟩) ?_ ?_
        ·refine AD (n:=119) AC 2 [(5,.pt 0 0 0),(7,.pt 2 0 0),(101,AA.enc x0),(102,AE.enc x1)] [some ⟨5,60,[AA.enc x0],false⟩,some ⟨9,42,[AE.enc x1],false⟩,some ⟨9,42,[AE.enc x2],false⟩] kr ?_
         refine AR (caps:=[]) (xs:=[AA.enc x0,AE.enc x1]) (u:=(x0,x1,())) rfl rfl Lq rfl (AB rfl) kr kr (AM (AU (c:=AA) (v:=x0)) (AM (AU (c:=AE) (v:=x1)) Af)) (.inl kr) hv32 ?_;refine AD (n:=119) AC 2 [(5,.pt 0 0 0),(7,.pt 2 0 0),(105,.v (.bool (!v32)))] [some ⟨5,60,[AA.enc x0],false⟩,some ⟨9,42,[AE.enc x1],false⟩,some ⟨9,42,[AE.enc x2],false⟩] kr ?_;rcases BE (!v32) with hc36 | hc36
         ·rw [if_pos hc36] at hj35
          rw [hc36];refine AD (n:=119) AC 2 [(105,.v (.bool true)),(106,AA.enc x0),(107,AE.enc x2)] [some ⟨5,60,[AA.enc x0],false⟩,some ⟨9,42,[AE.enc x1],false⟩,some ⟨9,42,[AE.enc x2],false⟩] kr ?_;obtain ⟨v33,hv33,hj35⟩:=OB hj35;refine AR (caps:=[]) (xs:=[AA.enc x0,AE.enc x2]) (u:=(x0,x2,())) rfl rfl Lq rfl kr kr kr (AM (AU (c:=AA) (v:=x0)) (AM (AU (c:=AE) (v:=x2)) Af)) (.inl kr) hv33 ?_;refine AD (n:=119) AC 2 [(10,.v (.bool v33))] [some ⟨5,60,[AA.enc x0],false⟩,some ⟨9,42,[AE.enc x1],false⟩,some ⟨9,42,[AE.enc x2],false⟩] kr ?_;have hq:=OI hj35; subst hq;exact AI rfl (Ae [] trivial ⟨lv,trivial⟩)
         ·rw [BY hc36] at hj35
          rw [hc36];refine AD (n:=119) AC 5 [(10,.v (.bool false))] [some ⟨5,60,[AA.enc x0],false⟩,some ⟨9,42,[AE.enc x1],false⟩,some ⟨9,42,[AE.enc x2],false⟩] kr ?_;have hq:=OI hj35; subst hq;exact AI rfl (Ae [] trivial ⟨lv,trivial⟩)
        refine AN ?_;have hq:=OI h; subst hq;exact ⟨⟨Fr 119 [(10,.v (.bool j35))],[]⟩,AJ,.inr rfl,[.v (.bool j35)],kr,kr⟩
       ·rw [BY hb31] at h
        refine AT ?_;refine AG ?_;obtain ⟨v37,hv37,h⟩:=OB h;obtain ⟨j40,hj40,h⟩:=OB h;refine AL (s1:=⟨Fr 119 [(10,.v (.bool j40))],[]⟩) ?_ ?_
        ·refine AD (n:=119) AC 2 [(5,.pt 0 0 0),(7,.pt 2 0 0),(110,AA.enc x0),(111,AE.enc x1)] [some ⟨5,60,[AA.enc x0],false⟩,some ⟨9,42,[AE.enc x1],false⟩,some ⟨9,42,[AE.enc x2],false⟩] kr ?_
         refine AR (caps:=[]) (xs:=[AA.enc x0,AE.enc x1]) (u:=(x0,x1,())) rfl rfl Lq rfl (AB rfl) kr kr (AM (AU (c:=AA) (v:=x0)) (AM (AU (c:=AE) (v:=x1)) Af)) (.inl kr) hv37 ?_;refine AD (n:=119) AC 1 [(5,.pt 0 0 0),(7,.pt 2 0 0),(113,.v (.bool v37))] [some ⟨5,60,[AA.enc x0],false⟩,some ⟨9,42,[AE.enc x1],false⟩,some ⟨9,42,[AE.enc x2],false⟩] kr ?_;rcases BE v37 with hc41 | hc41
         ·rw [if_pos hc41] at hj40
          rw [hc41];refine AD (n:=119) AC 2 [(113,.v (.bool true)),(114,AA.enc x0),(115,AE.enc x2)] [some ⟨5,60,[AA.enc x0],false⟩,some ⟨9,42,[AE.enc x1],false⟩,some ⟨9,42,[AE.enc x2],false⟩] kr ?_;obtain ⟨v38,hv38,hj40⟩:=OB hj40;refine AR (caps:=[]) (xs:=[AA.enc x0,AE.enc x2]) (u:=(x0,x2,())) rfl rfl Lq rfl kr kr kr (AM (AU (c:=AA) (v:=x0)) (AM (AU (c:=AE) (v:=x2)) Af)) (.inl kr) hv38 ?_;refine AD (n:=119) AC 3 [(10,.v (.bool (!v38)))] [some ⟨5,60,[AA.enc x0],false⟩,some ⟨9,42,[AE.enc x1],false⟩,some ⟨9,42,[AE.enc x2],false⟩] kr ?_;have hq:=OI hj40; subst hq;exact AI rfl (Ae [] trivial ⟨lv,trivial⟩)
         ·rw [BY hc41] at hj40
          rw [hc41];refine AD (n:=119) AC 6 [(10,.v (.bool false))] [some ⟨5,60,[AA.enc x0],false⟩,some ⟨9,42,[AE.enc x1],false⟩,some ⟨9,42,[AE.enc x2],false⟩] kr ?_;have hq:=OI hj40; subst hq;exact AI rfl (Ae [] trivial ⟨lv,trivial⟩)
        refine AN ?_;have hq:=OI h; subst hq;exact ⟨⟨Fr 119 [(10,.v (.bool j40))],[]⟩,AJ,.inr rfl,[.v (.bool j40)],kr,kr⟩
def VE:List AV->Option AV:=Dk MB (fun a=>HJ a.1 a.2.1 a.2.2.1 a.2.2.2.1 a.2.2.2.2.1) MI
theorem QK:XOk 151 VE:=by
 refine AQ Tryz.func151 (c:=O3) ?h2 ⟨Tryz.call151⟩ MB (fun a=>HJ a.1 a.2.1 a.2.2.1 a.2.2.2.1 a.2.2.2.2.1) MI (fun a=>(by show 5<=119; decide)) ?h3 ?h4
 case h2=>kernel_rfl
 case h3=>intro b; kernel_rfl
 case h4=>exact fun a b h=>Sx a.1 a.2.1 a.2.2.1 a.2.2.2.1 a.2.2.2.2.1 b h
end Go.Proofs.YtlalcoehgkmhlaaGreatDoor
