/- Lemmas for the proof. -/
import Derived.Test.YtlalcoehgkmhlaaGreatDoorCourtCompromisesM1
import Derived.Test.YtlalcoehgkmhlaaGreatDoorCourtCompromisesM2
import Derived.Test.YtlalcoehgkmhlaaGreatDoorCourtCompromisesM3
import Derived.Test.YtlalcoehgkmhlaaGreatDoorCourtCompromisesM4
set_option maxHeartbeats 4000000
set_option maxRecDepth 100000
namespace Go.Proofs.YtlalcoehgkmhlaaGreatDoor
open Go.RowKit
def isT (r:Option (AV×Hp)):Bool:=match r with
 | some (.v (.bool true),_)=>true
 | _=>false
theorem ABg {r:Option (AV×Hp)}(h:isT r=true):∃ h',r=some (.v (.bool true),h'):=by
 unfold isT at h
 split at h
 ·exact ⟨_,rfl⟩
 ·cases h
set_option maxRecDepth 1000000 in
theorem ACv:isT (Wn E13 3000 18 [] [])=true:=by kernel_rfl
theorem ZJ:∃ h,Wn E13 3000 18 [] []=some (.v (.bool true),h):=ABg ACv
theorem X4 (w:World):Ret Tryz.prog 18 #[] w fun v w'=>v = .bool true/\w.grownBy w' none:=by
 obtain ⟨h,e⟩:=ZJ
 exact Z9 (E:=E13) (Z:=fun _=>False) (us:=[]) ACe e (fun c hc=>hc.elim) (fun g x h=>by cases h) .nil
theorem ACN {w:World}{Z:Nat->Prop}:VR w Z [] (.v (.bool true)) (.bool true):= .v rfl
def IA:Option Bool:=some true
def TN:Cs Unit:=csN
def TO (b:Bool):AV:=cdB.enc b
def Ue:List AV->Option AV:=Dx TN (fun _=>IA) TO
theorem Hk:XOk 18 Ue:=by
 refine ⟨⟨Tryz.call18⟩,fun xs x h w Z us _ _ hv=>?_⟩
 obtain ⟨a,ha,h⟩:=OB h
 obtain ⟨b,hb,rfl⟩:=Option.map_eq_some_iff.1 h
 have hb:=OI hb
 subst hb
 have:xs=[]:=by
  cases xs with
  | nil=>rfl
  | cons x xs=>cases ha
 subst this
 have:us=[]:=by have:=hv.len; simpa using this
 subst this
 exact Ret.mono (X4 w) fun v w' h=>⟨h.2,by rw [h.1]; exact ACN⟩
/- trestle/trestlelaw03.FewGuests$1$1 -/
noncomputable def I0:Code:=BG Tryz.f58
def Ed (x0:(List UInt8)):Option (Bool) :=
 some (decide ((x0.length:Int) > 40))
def HA:Cs ((List UInt8)×Unit):=(csC cdS csN)
def HC (r:Bool):AV:=cdB.enc r
theorem Mw (x0:(List UInt8)) (r:Bool) (h:Ed x0=some r):Sem E0 ⟨none,false⟩ I0 ⟨Fr 6 (A3 0 (HA.enc (x0,()))),[]⟩ fun e s'=>(e = .normal\/e = .ret)/\∃ xs,EG E0.P s'.fr s'.hp Tryz.f58.results.toList=some xs/\EN xs=HC r:=by
 unfold Ed at h;refine An (BP (s1:=⟨Fr 6 [(0,.st x0)],[]⟩) AL ?_);refine AJ AC [(0,.st x0)] [] ?_
 let p1:Nat×AV:=(2,.v (.bool (decide ((x0.length:Int) > 40))))
 refine AJ AC [p1] [] ?_;refine AQ ?_;have hq:=OI h; subst hq;exact ⟨⟨Fr 6 [p1],[]⟩,AL,.inr rfl,[.v (.bool (decide ((x0.length:Int) > 40)))],kr,kr⟩
def OD:List AV->Option AV:=Dx HA (fun a=>Ed a.1) HC
theorem ON:XOk 58 OD:=by
 refine AU Tryz.func58 (c:=I0) ?h2 ⟨Tryz.call58⟩ HA (fun a=>Ed a.1) HC (fun a=>(by show 1<=6; decide)) ?h3 ?h4
 case h2=>kernel_rfl
 case h3=>intro b; kernel_rfl
 case h4=>exact fun a b h=>Mw a.1 b h
/- slices.IndexFunc[[]string,string] -/
noncomputable def CD:Code:=BG Tryz.f90
def BD (x0:(List (List UInt8))):Nat->Int->Option ((Unit) ⊕ (Int))
 | 0,_=>none
 | f + 1,c1 =>
  if (decide (c1 < (x0.length:Int)))=true then
  (idx x0 c1).bind fun v3 =>
  (Ed v3).bind fun v4 =>
  if v4=true then
  some (.inr c1)
  else
  BD x0 f (wr .i64 (c1 + 1))
  else
  some (.inl ())
def A1 (x0:(List (List UInt8))):Option (Int) :=
 (BD x0 100000 0).bind fun r7 =>
 match r7 with
 | (.inl _w8) =>
  some (-1)
 | (.inr w9) =>
  some w9
def CF:Cs ((List (List UInt8))×Unit×Unit):=(csC (cdL 1 cdS) (csC (cdF 58 csN (fun _=>rfl)) csN))
def CH (r:Int):AV:=cdI.enc r
theorem C3 (x0:(List (List UInt8))):∀ (f:Nat) (c1:Int) (r:(Unit) ⊕ (Int)),BD x0 f c1=some r->SemN E0 ⟨none,false⟩ (pc CD [1,0,1,0,0]) f ⟨Fr 19 [(0,.sl 1 (x0.map cdS.enc)),(1,.fn 58 [] []),(7,.v (.int .i64 (x0.length:Int))),(8,.v (.int .i64 c1))],[]⟩ (fun e s=>match r with
 | (.inl _w)=>e=(.exit 0)/\Wk E0 s ⟨Fr 19 [],[]⟩
 | (.inr w)=>e = .ret/\Wk E0 s ⟨Fr 19 [(4,.v (.int .i64 w))],[]⟩):=by
 intro f;induction f with
 | zero=>intro c1 r h; cases h
 | succ f ih0 =>
  intro c1 r h
  have ih:=fun (c1:Int)=>ih0 c1 r
  unfold BD at h;refine BR ?_
  let p1:Nat×AV:=(8,.v (.int .i64 c1))
  let p2:Nat×AV:=(7,.v (.int .i64 (x0.length:Int)))
  let p3:Nat×AV:=(1,.fn 58 [] [])
  let p4:Nat×AV:=(0,.sl 1 (x0.map cdS.enc))
  refine AJ AC [p4,p3,p2,p1,(9,.v (.bool (decide (c1 < (x0.length:Int)))))] [] ?_;refine AF ?_;refine AP (b:=(decide (c1 < (x0.length:Int)))) kr (fun hb2=>?_) (fun hb2=>?_)
  ·rw [if_pos hb2] at h
   refine AS ?_;refine AF ?_;refine AZ ?_
   let p5:Nat×AV:=(5,.v (.int .i64 c1))
   refine AJ AC [p4,p3,p5,p2,p1] [] ?_;refine AF ?_;obtain ⟨v3,hv3,h⟩:=OB h;obtain ⟨v4,hv4,h⟩:=OB h;refine AK (s1:=⟨Fr 19 [p4,p3,p5,p2,p1,(16,.v (.bool v4))],[]⟩) ?_ ?_
   ·refine AD (n:=19) AC 3 [p4,p3,p5,p2,p1,(11,.fn 58 [] []),(12,.sl 1 (x0.map cdS.enc)),(13,.v (.int .i64 c1))] [] kr ?_
    refine AR AC 0 rfl (C7 (AB rfl) rfl (AO (a:= .sl 1 (x0.map cdS.enc)) (b:= .v (.int .i64 c1)) kr kr (Dn (e:=cdS.enc) (el:=9) (k:=1) (ki:= .i64) kr kr hv3))) ?_;refine AD (n:=19) AC 1 [p4,p3,p5,p2,p1,(11,.fn 58 [] []),(15,.st v3)] [] kr ?_;refine AT (caps:=[]) (xs:=[.st v3]) (u:=(v3,())) rfl rfl ON rfl (AB rfl) kr kr (AM (AX (c:=cdS) (v:=v3)) Aj) (.inl kr) hv4 ?_;exact AI rfl AL
   refine AP (b:=v4) kr (fun hb5=>?_) (fun hb5=>?_)
   ·rw [if_pos hb5] at h
    refine AJ AC [(4,.v (.int .i64 c1))] [] ?_;refine AQ ?_;have hq:=OI h; subst hq;exact ⟨rfl,AL⟩
   ·rw [BZ hb5] at h
    refine AS ?_
    let p6:Nat×AV:=(8,.v (.int .i64 (wr .i64 (c1 + 1))))
    refine Cn AC [p4,p3,p2,p6] [] ?_;exact Ac (s1:=⟨Fr 19 [p4,p3,p2,p6],[]⟩) AL (ih (wr .i64 (c1 + 1)) h)
  ·rw [BZ hb2] at h
   refine Bd ?_;have hq:=OI h; subst hq;exact ⟨rfl,AL⟩
theorem FO (x0:(List (List UInt8))) (r:Int) (h:A1 x0=some r):Sem E0 ⟨none,false⟩ CD ⟨Fr 19 (A3 0 (CF.enc (x0,(),()))),[]⟩ fun e s'=>(e = .normal\/e = .ret)/\∃ xs,EG E0.P s'.fr s'.hp Tryz.f90.results.toList=some xs/\EN xs=CH r:=by
 unfold A1 at h
 let p1:Nat×AV:=(1,.fn 58 [] [])
 let p2:Nat×AV:=(0,.sl 1 (x0.map cdS.enc))
 refine An (BP (s1:=⟨Fr 19 [p2,p1],[]⟩) AL ?_);refine AJ AC [p2,p1] [] ?_;refine AF ?_;refine AF ?_
 let p3:Nat×AV:=(8,.v (.int .i64 0))
 let p4:Nat×AV:=(7,.v (.int .i64 (x0.length:Int)))
 refine AK (s1:=⟨Fr 19 [p2,p1,p4,p3],[]⟩) ?_ ?_
 ·refine AD (n:=19) AC 1 [p2,p1,(6,.sl 1 (x0.map cdS.enc))] [] kr ?_
  refine AR AC 0 rfl (C7 (AB rfl) rfl (Ck (a:= .sl 1 (x0.map cdS.enc)) kr (Ba (el:=9) kr))) ?_;exact AW AC
 refine AZ ?_;obtain ⟨r7,hr7,h⟩:=OB h;refine Bj (n:=100000) ?_;rcases r7 with w8 | w9
 ·try dsimp only at h
  refine Aq (Ac (s1:=⟨Fr 19 [p2,p1,p4,p3],[]⟩) AL (C3 x0 _ 0 _ hr7)) ?_;refine AJ AC [(4,.v (.int .i64 (-1)))] [] ?_;refine AQ ?_;have hq:=OI h; subst hq;exact ⟨⟨Fr 19 [(4,.v (.int .i64 (-1)))],[]⟩,AL,.inr rfl,[.v (.int .i64 (-1))],kr,kr⟩
 ·try dsimp only at h
  refine Aq (Ac (s1:=⟨Fr 19 [p2,p1,p4,p3],[]⟩) AL (C3 x0 _ 0 _ hr7)) ?_;have hq:=OI h; subst hq;exact ⟨⟨Fr 19 [(4,.v (.int .i64 w9))],[]⟩,AL,.inr rfl,[.v (.int .i64 w9)],kr,kr⟩
def FX:List AV->Option AV:=Dx CF (fun a=>A1 a.1) CH
theorem FZ:XOk 90 FX:=by
 refine AU Tryz.func90 (c:=CD) ?h2 ⟨Tryz.call90⟩ CF (fun a=>A1 a.1) CH (fun a=>(by show 2<=19; decide)) ?h3 ?h4
 case h2=>kernel_rfl
 case h3=>intro b; kernel_rfl
 case h4=>exact fun a b h=>FO a.1 b h
/- slices.ContainsFunc[[]string,string] -/
noncomputable def C1:Code:=BG Tryz.f36
def Al (x0:(List (List UInt8))):Option (Bool) :=
 (A1 x0).bind fun v1 =>
 some (decide (v1≥0))
def Bx:Cs ((List (List UInt8))×Unit×Unit):=(csC (cdL 1 cdS) (csC (cdF 58 csN (fun _=>rfl)) csN))
def B3 (r:Bool):AV:=cdB.enc r
theorem El (x0:(List (List UInt8))) (r:Bool) (h:Al x0=some r):Sem E0 ⟨none,false⟩ C1 ⟨Fr 9 (A3 0 (Bx.enc (x0,(),()))),[]⟩ fun e s'=>(e = .normal\/e = .ret)/\∃ xs,EG E0.P s'.fr s'.hp Tryz.f36.results.toList=some xs/\EN xs=B3 r:=by
 unfold Al at h;refine An (BP (s1:=⟨Fr 9 [(0,.sl 1 (x0.map cdS.enc)),(1,.fn 58 [] [])],[]⟩) AL ?_);refine AJ AC [(0,.sl 1 (x0.map cdS.enc)),(1,.fn 58 [] [])] [] ?_;refine AF ?_;obtain ⟨v1,hv1,h⟩:=OB h
 let p1:Nat×AV:=(4,.v (.bool (decide (v1≥0))))
 refine AK (s1:=⟨Fr 9 [p1],[]⟩) ?_ ?_
 ·refine AD (n:=9) AC 2 [(5,.sl 1 (x0.map cdS.enc)),(6,.fn 58 [] [])] [] kr ?_
  refine AT (caps:=[]) (xs:=[.sl 1 (x0.map cdS.enc),.fn 58 [] []]) (u:=(x0,(),())) rfl rfl FZ rfl (AB rfl) kr kr (AM (AX (c:=(cdL 1 cdS)) (v:=x0)) (AM (Sm.fn Aj) Aj)) (.inl kr) hv1 ?_;exact AW AC
 refine AQ ?_;have hq:=OI h; subst hq;exact ⟨⟨Fr 9 [p1],[]⟩,AL,.inr rfl,[.v (.bool (decide (v1≥0)))],kr,kr⟩
def Ey:List AV->Option AV:=Dx Bx (fun a=>Al a.1) B3
theorem FB:XOk 36 Ey:=by
 refine AU Tryz.func36 (c:=C1) ?h2 ⟨Tryz.call36⟩ Bx (fun a=>Al a.1) B3 (fun a=>(by show 2<=9; decide)) ?h3 ?h4
 case h2=>kernel_rfl
 case h3=>intro b; kernel_rfl
 case h4=>exact fun a b h=>El a.1 b h
/- trestle/trestlelaw03.FewGuests$1 -/
noncomputable def Kc:Code:=BG Tryz.f57
def D0 (x0:Ai):Option (Bool) :=
 (if (decide ((mxI (mxI (x0.1.length:Int) (x0.2.1.length:Int)) (x0.2.2.1.length:Int)) > 40))=true then some true else if (decide ((x0.2.2.2.2.2.2.2.2.length:Int) > 10))=true then some true else (Al x0.2.2.2.2.2.2.2.2).bind fun v1 =>
 some v1).bind fun j3 =>
 some j3
def Hm:Cs (Ai×Unit):=(csC AE csN)
def Ho (r:Bool):AV:=cdB.enc r
theorem N2 (x0:Ai) (r:Bool) (h:D0 x0=some r):Sem E0 ⟨none,false⟩ Kc ⟨Fr 25 (A3 0 (Hm.enc (x0,()))),[]⟩ fun e s'=>(e = .normal\/e = .ret)/\∃ xs,EG E0.P s'.fr s'.hp Tryz.f57.results.toList=some xs/\EN xs=Ho r:=by
 unfold D0 at h;refine An (BP (s1:=⟨Fr 25 [(0,AE.enc x0)],[]⟩) AL ?_);refine AJ AC [(1,.pt 0 0 0)] [some ⟨9,42,[AE.enc x0],false⟩] ?_;refine AF ?_;obtain ⟨j3,hj3,h⟩:=OB h;refine AK (s1:=⟨Fr 25 [(2,.v (.bool j3))],[]⟩) ?_ ?_
 ·refine AD (n:=25) AC 12 [(1,.pt 0 0 0),(14,.v (.bool (decide ((mxI (mxI (x0.1.length:Int) (x0.2.1.length:Int)) (x0.2.2.1.length:Int)) > 40))))] [some ⟨9,42,[AE.enc x0],false⟩] kr ?_
  rcases BE (decide ((mxI (mxI (x0.1.length:Int) (x0.2.1.length:Int)) (x0.2.2.1.length:Int)) > 40)) with hc4 | hc4
  ·rw [if_pos hc4] at hj3
   rw [hc4];refine AD (n:=25) AC 11 [(2,.v (.bool true))] [some ⟨9,42,[AE.enc x0],false⟩] kr ?_;have hq:=OI hj3; subst hq;exact AI rfl (Ad [] trivial ⟨lv,trivial⟩)
  ·rw [BZ hc4] at hj3
   rw [hc4];refine AD (n:=25) AC 2 [(1,.pt 0 0 0),(14,.v (.bool false)),(16,.sl 1 (x0.2.2.2.2.2.2.2.2.map cdS.enc))] [some ⟨9,42,[AE.enc x0],false⟩] kr ?_;refine AR AC 0 rfl (C7 kr rfl (Ck (a:= .sl 1 (x0.2.2.2.2.2.2.2.2.map cdS.enc)) kr (Ba (el:=9) kr))) ?_;refine AD (n:=25) AC 3 [(1,.pt 0 0 0),(20,.v (.bool (decide ((x0.2.2.2.2.2.2.2.2.length:Int) > 10))))] [some ⟨9,42,[AE.enc x0],false⟩] kr ?_;rcases BE (decide ((x0.2.2.2.2.2.2.2.2.length:Int) > 10)) with hc5 | hc5
   ·rw [if_pos hc5] at hj3
    rw [hc5];refine AD (n:=25) AC 5 [(2,.v (.bool true))] [some ⟨9,42,[AE.enc x0],false⟩] kr ?_;have hq:=OI hj3; subst hq;exact AI rfl (Ad [] trivial ⟨lv,trivial⟩)
   ·rw [BZ hc5] at hj3
    rw [hc5];refine AD (n:=25) AC 2 [(20,.v (.bool false)),(22,.sl 1 (x0.2.2.2.2.2.2.2.2.map cdS.enc))] [some ⟨9,42,[AE.enc x0],false⟩] kr ?_;obtain ⟨v1,hv1,hj3⟩:=OB hj3;refine AT (caps:=[]) (xs:=[.sl 1 (x0.2.2.2.2.2.2.2.2.map cdS.enc),.fn 58 [] []]) (u:=(x0.2.2.2.2.2.2.2.2,(),())) rfl rfl FB rfl kr kr kr (AM (AX (c:=(cdL 1 cdS)) (v:=x0.2.2.2.2.2.2.2.2)) (AM (Sm.fn Aj) Aj)) (.inl kr) hv1 ?_;refine AD (n:=25) AC 2 [(2,.v (.bool v1))] [some ⟨9,42,[AE.enc x0],false⟩] kr ?_;have hq:=OI hj3; subst hq;exact AI rfl (Ad [] trivial ⟨lv,trivial⟩)
 refine AQ ?_;have hq:=OI h; subst hq;exact ⟨⟨Fr 25 [(2,.v (.bool j3))],[]⟩,AL,.inr rfl,[.v (.bool j3)],kr,kr⟩
def PF:List AV->Option AV:=Dx Hm (fun a=>D0 a.1) Ho
theorem PH:XOk 57 PF:=by
 refine AU Tryz.func57 (c:=Kc) ?h2 ⟨Tryz.call57⟩ Hm (fun a=>D0 a.1) Ho (fun a=>(by show 1<=25; decide)) ?h3 ?h4
 case h2=>kernel_rfl
 case h3=>intro b; kernel_rfl
 case h4=>exact fun a b h=>N2 a.1 b h
/- slices.IndexFunc[[]trestle/api.Guest,trestle/api.Guest] -/
noncomputable def Br:Code:=BG Tryz.f32
def A2 (x0:(List Ai)):Nat->Int->Option ((Unit) ⊕ (Int))
 | 0,_=>none
 | f + 1,c1 =>
  if (decide (c1 < (x0.length:Int)))=true then
  (idx x0 c1).bind fun v3 =>
  (D0 v3).bind fun v4 =>
  if v4=true then
  some (.inr c1)
  else
  A2 x0 f (wr .i64 (c1 + 1))
  else
  some (.inl ())
def Ar (x0:(List Ai)):Option (Int) :=
 (A2 x0 100000 0).bind fun r7 =>
 match r7 with
 | (.inl _w8) =>
  some (-1)
 | (.inr w9) =>
  some w9
def Bt:Cs ((List Ai)×Unit×Unit):=(csC (cdL 9 AE) (csC (cdF 57 csN (fun _=>rfl)) csN))
def Bu (r:Int):AV:=cdI.enc r
theorem Cp (x0:(List Ai)):∀ (f:Nat) (c1:Int) (r:(Unit) ⊕ (Int)),A2 x0 f c1=some r->SemN E0 ⟨none,false⟩ (pc Br [1,0,1,0,0]) f ⟨Fr 19 [(0,.sl 9 (x0.map AE.enc)),(1,.fn 57 [] []),(7,.v (.int .i64 (x0.length:Int))),(8,.v (.int .i64 c1))],[]⟩ (fun e s=>match r with
 | (.inl _w)=>e=(.exit 0)/\Wk E0 s ⟨Fr 19 [],[]⟩
 | (.inr w)=>e = .ret/\Wk E0 s ⟨Fr 19 [(4,.v (.int .i64 w))],[]⟩):=by
 intro f;induction f with
 | zero=>intro c1 r h; cases h
 | succ f ih0 =>
  intro c1 r h
  have ih:=fun (c1:Int)=>ih0 c1 r
  unfold A2 at h;refine BR ?_
  let p1:Nat×AV:=(8,.v (.int .i64 c1))
  let p2:Nat×AV:=(7,.v (.int .i64 (x0.length:Int)))
  let p3:Nat×AV:=(1,.fn 57 [] [])
  let p4:Nat×AV:=(0,.sl 9 (x0.map AE.enc))
  refine AJ AC [p4,p3,p2,p1,(9,.v (.bool (decide (c1 < (x0.length:Int)))))] [] ?_;refine AF ?_;refine AP (b:=(decide (c1 < (x0.length:Int)))) kr (fun hb2=>?_) (fun hb2=>?_)
  ·rw [if_pos hb2] at h
   refine AS ?_;refine AF ?_;refine AZ ?_
   let p5:Nat×AV:=(5,.v (.int .i64 c1))
   refine AJ AC [p4,p3,p5,p2,p1] [] ?_;refine AF ?_;obtain ⟨v3,hv3,h⟩:=OB h;obtain ⟨v4,hv4,h⟩:=OB h;refine AK (s1:=⟨Fr 19 [p4,p3,p5,p2,p1,(16,.v (.bool v4))],[]⟩) ?_ ?_
   ·refine AD (n:=19) AC 3 [p4,p3,p5,p2,p1,(11,.fn 57 [] []),(12,.sl 9 (x0.map AE.enc)),(13,.v (.int .i64 c1))] [] kr ?_
    refine AR AC 0 rfl (C7 (AB rfl) rfl (AO (a:= .sl 9 (x0.map AE.enc)) (b:= .v (.int .i64 c1)) kr kr (Dn (e:=AE.enc) (el:=42) (k:=9) (ki:= .i64) kr kr hv3))) ?_;refine AD (n:=19) AC 1 [p4,p3,p5,p2,p1,(11,.fn 57 [] []),(15,AE.enc v3)] [] kr ?_;refine AT (caps:=[]) (xs:=[AE.enc v3]) (u:=(v3,())) rfl rfl PH rfl (AB rfl) kr kr (AM (AX (c:=AE) (v:=v3)) Aj) (.inl kr) hv4 ?_;exact AI rfl AL
   refine AP (b:=v4) kr (fun hb5=>?_) (fun hb5=>?_)
   ·rw [if_pos hb5] at h
    refine AJ AC [(4,.v (.int .i64 c1))] [] ?_;refine AQ ?_;have hq:=OI h; subst hq;exact ⟨rfl,AL⟩
   ·rw [BZ hb5] at h
    refine AS ?_
    let p6:Nat×AV:=(8,.v (.int .i64 (wr .i64 (c1 + 1))))
    refine Cn AC [p4,p3,p2,p6] [] ?_;exact Ac (s1:=⟨Fr 19 [p4,p3,p2,p6],[]⟩) AL (ih (wr .i64 (c1 + 1)) h)
  ·rw [BZ hb2] at h
   refine Bd ?_;have hq:=OI h; subst hq;exact ⟨rfl,AL⟩
theorem Ee (x0:(List Ai)) (r:Int) (h:Ar x0=some r):Sem E0 ⟨none,false⟩ Br ⟨Fr 19 (A3 0 (Bt.enc (x0,(),()))),[]⟩ fun e s'=>(e = .normal\/e = .ret)/\∃ xs,EG E0.P s'.fr s'.hp Tryz.f32.results.toList=some xs/\EN xs=Bu r:=by
 unfold Ar at h
 let p1:Nat×AV:=(1,.fn 57 [] [])
 let p2:Nat×AV:=(0,.sl 9 (x0.map AE.enc))
 refine An (BP (s1:=⟨Fr 19 [p2,p1],[]⟩) AL ?_);refine AJ AC [p2,p1] [] ?_;refine AF ?_;refine AF ?_
 let p3:Nat×AV:=(8,.v (.int .i64 0))
 let p4:Nat×AV:=(7,.v (.int .i64 (x0.length:Int)))
 refine AK (s1:=⟨Fr 19 [p2,p1,p4,p3],[]⟩) ?_ ?_
 ·refine AD (n:=19) AC 1 [p2,p1,(6,.sl 9 (x0.map AE.enc))] [] kr ?_
  refine AR AC 0 rfl (C7 (AB rfl) rfl (Ck (a:= .sl 9 (x0.map AE.enc)) kr (Ba (el:=42) kr))) ?_;exact AW AC
 refine AZ ?_;obtain ⟨r7,hr7,h⟩:=OB h;refine Bj (n:=100000) ?_;rcases r7 with w8 | w9
 ·try dsimp only at h
  refine Aq (Ac (s1:=⟨Fr 19 [p2,p1,p4,p3],[]⟩) AL (Cp x0 _ 0 _ hr7)) ?_;refine AJ AC [(4,.v (.int .i64 (-1)))] [] ?_;refine AQ ?_;have hq:=OI h; subst hq;exact ⟨⟨Fr 19 [(4,.v (.int .i64 (-1)))],[]⟩,AL,.inr rfl,[.v (.int .i64 (-1))],kr,kr⟩
 ·try dsimp only at h
  refine Aq (Ac (s1:=⟨Fr 19 [p2,p1,p4,p3],[]⟩) AL (Cp x0 _ 0 _ hr7)) ?_;have hq:=OI h; subst hq;exact ⟨⟨Fr 19 [(4,.v (.int .i64 w9))],[]⟩,AL,.inr rfl,[.v (.int .i64 w9)],kr,kr⟩
def Et:List AV->Option AV:=Dx Bt (fun a=>Ar a.1) Bu
theorem Ev:XOk 32 Et:=by
 refine AU Tryz.func32 (c:=Br) ?h2 ⟨Tryz.call32⟩ Bt (fun a=>Ar a.1) Bu (fun a=>(by show 2<=19; decide)) ?h3 ?h4
 case h2=>kernel_rfl
 case h3=>intro b; kernel_rfl
 case h4=>exact fun a b h=>Ee a.1 b h
/- slices.ContainsFunc[[]trestle/api.Guest,trestle/api.Guest] -/
noncomputable def Co:Code:=BG Tryz.f56
def Af (x0:(List Ai)):Option (Bool) :=
 (Ar x0).bind fun v1 =>
 some (decide (v1≥0))
def Bf:Cs ((List Ai)×Unit×Unit):=(csC (cdL 9 AE) (csC (cdF 57 csN (fun _=>rfl)) csN))
def Bg (r:Bool):AV:=cdB.enc r
theorem EI (x0:(List Ai)) (r:Bool) (h:Af x0=some r):Sem E0 ⟨none,false⟩ Co ⟨Fr 9 (A3 0 (Bf.enc (x0,(),()))),[]⟩ fun e s'=>(e = .normal\/e = .ret)/\∃ xs,EG E0.P s'.fr s'.hp Tryz.f56.results.toList=some xs/\EN xs=Bg r:=by
 unfold Af at h
 let p1:Nat×AV:=(0,.sl 9 (x0.map AE.enc))
 refine An (BP (s1:=⟨Fr 9 [p1,(1,.fn 57 [] [])],[]⟩) AL ?_);refine AJ AC [p1,(1,.fn 57 [] [])] [] ?_;refine AF ?_;obtain ⟨v1,hv1,h⟩:=OB h
 let p2:Nat×AV:=(4,.v (.bool (decide (v1≥0))))
 refine AK (s1:=⟨Fr 9 [p2],[]⟩) ?_ ?_
 ·refine AD (n:=9) AC 2 [(5,.sl 9 (x0.map AE.enc)),(6,.fn 57 [] [])] [] kr ?_
  refine AT (caps:=[]) (xs:=[.sl 9 (x0.map AE.enc),.fn 57 [] []]) (u:=(x0,(),())) rfl rfl Ev rfl (AB rfl) kr kr (AM (AX (c:=(cdL 9 AE)) (v:=x0)) (AM (Sm.fn Aj) Aj)) (.inl kr) hv1 ?_;exact AW AC
 refine AQ ?_;have hq:=OI h; subst hq;exact ⟨⟨Fr 9 [p2],[]⟩,AL,.inr rfl,[.v (.bool (decide (v1≥0)))],kr,kr⟩
def ES:List AV->Option AV:=Dx Bf (fun a=>Af a.1) Bg
theorem ET:XOk 56 ES:=by
 refine AU Tryz.func56 (c:=Co) ?h2 ⟨Tryz.call56⟩ Bf (fun a=>Af a.1) Bg (fun a=>(by show 2<=9; decide)) ?h3 ?h4
 case h2=>kernel_rfl
 case h3=>intro b; kernel_rfl
 case h4=>exact fun a b h=>EI a.1 b h
/- trestle/trestlelaw03.FewGuests -/
noncomputable def Lb:Code:=BG Tryz.f16
def Fq (x0:(List Ai)) (x1:Int):Option (Bool) :=
 (if (decide ((x0.length:Int)<=x1))=true then (Af x0).bind fun v1 =>
 some (!v1) else some false).bind fun j3 =>
 some j3
def Ie:Cs ((List Ai)×Int×Unit):=(csC (cdL 9 AE) (csC cdI csN))
def Ij (r:Bool):AV:=cdB.enc r
theorem PC (x0:(List Ai)) (x1:Int) (r:Bool) (h:Fq x0 x1=some r):Sem E0 ⟨none,false⟩ Lb ⟨Fr 14 (A3 0 (Ie.enc (x0,x1,()))),[]⟩ fun e s'=>(e = .normal\/e = .ret)/\∃ xs,EG E0.P s'.fr s'.hp Tryz.f16.results.toList=some xs/\EN xs=Ij r:=by
 unfold Fq at h;refine An (BP (s1:=⟨Fr 14 [(0,.sl 9 (x0.map AE.enc)),(1,.v (.int .i64 x1))],[]⟩) AL ?_);refine AJ AC [(0,.sl 9 (x0.map AE.enc)),(1,.v (.int .i64 x1))] [] ?_;refine AF ?_;obtain ⟨j3,hj3,h⟩:=OB h;refine AK (s1:=⟨Fr 14 [(4,.v (.bool j3))],[]⟩) ?_ ?_
 ·refine AD (n:=14) AC 1 [(0,.sl 9 (x0.map AE.enc)),(1,.v (.int .i64 x1)),(5,.sl 9 (x0.map AE.enc))] [] kr ?_
  refine AR AC 0 rfl (C7 (AB rfl) rfl (Ck (a:= .sl 9 (x0.map AE.enc)) kr (Ba (el:=42) kr))) ?_;refine AD (n:=14) AC 3 [(0,.sl 9 (x0.map AE.enc)),(9,.v (.bool (decide ((x0.length:Int)<=x1))))] [] kr ?_;rcases BE (decide ((x0.length:Int)<=x1)) with hc4 | hc4
  ·rw [if_pos hc4] at hj3
   rw [hc4];refine AD (n:=14) AC 1 [(9,.v (.bool true)),(10,.sl 9 (x0.map AE.enc))] [] kr ?_;obtain ⟨v1,hv1,hj3⟩:=OB hj3;refine AT (caps:=[]) (xs:=[.sl 9 (x0.map AE.enc),.fn 57 [] []]) (u:=(x0,(),())) rfl rfl ET rfl kr kr kr (AM (AX (c:=(cdL 9 AE)) (v:=x0)) (AM (Sm.fn Aj) Aj)) (.inl kr) hv1 ?_;refine AD (n:=14) AC 3 [(4,.v (.bool (!v1)))] [] kr ?_;have hq:=OI hj3; subst hq;exact AI rfl AL
  ·rw [BZ hc4] at hj3
   rw [hc4];refine AD (n:=14) AC 5 [(4,.v (.bool false))] [] kr ?_;have hq:=OI hj3; subst hq;exact AI rfl AL
 refine AQ ?_;have hq:=OI h; subst hq;exact ⟨⟨Fr 14 [(4,.v (.bool j3))],[]⟩,AL,.inr rfl,[.v (.bool j3)],kr,kr⟩
def Qo:List AV->Option AV:=Dx Ie (fun a=>Fq a.1 a.2.1) Ij
theorem Qu:XOk 16 Qo:=by
 refine AU Tryz.func16 (c:=Lb) ?h2 ⟨Tryz.call16⟩ Ie (fun a=>Fq a.1 a.2.1) Ij (fun a=>(by show 2<=14; decide)) ?h3 ?h4
 case h2=>kernel_rfl
 case h3=>intro b; kernel_rfl
 case h4=>exact fun a b h=>PC a.1 a.2.1 b h
/-- The first n blocks are given up. -/
def Xa:Nat->Hp->Hp
 | 0,h=>h
 | n + 1,h=>(Xa n h).set n none
theorem Ww {w:World}{Z:Nat->Prop}{R:List RI}{h:Hp}(hh:HR w Z R h):∀ n,HR w Z R (Xa n h)
 | 0=>hh
 | n + 1=>((Ww hh n).kill n).1
theorem VI {h:Hp}:∀ {n b:Nat}{B:Blk},(Xa n h)[b]? = some (some B)->n<=b/\h[b]? = some (some B)
 | 0,b,B,e=>⟨Nat.zero_le _,e⟩
 | n + 1,b,B,e=>by
  unfold Xa at e
  rw [List.getElem?_set] at e
  split at e
  ·split at e <;> cases e
  ·next hne =>
   obtain ⟨h1,h2⟩:=VI e
   exact ⟨by omega,h2⟩
def RunDX (E:Env) (ops:Array Oper) (T:Nat) (n0 k:Nat) (rest:List Oper) (s:St) (K:St->Prop):Prop :=
 ∀ (base:Bs) (Q:Act->World->Prop) (w0:World) (Z:Nat->Prop) (R0:List RI) (h0:Hp) (a:Act) (w:World) (R:List RI),HR w0 Z R0 h0->n0=h0.length->SR E base w Z R s a->w0.grownBy w none->Step w0 Z R0 h0 w Z R s.hp->(∀ (b:Nat) (B:Option Blk),h0[b]? = some B->s.hp[b]? = some B)->(∀ j,rest[j]? = ops[k + j]?) ->
  (∀ s' a' w' Z' R',K s'->SR E base w' Z' R' s' a'->StepW w0 Z R0 h0 w' Z' R' s'.hp->Q a' w')->Jl E.P ops (fun w'=>w0.grownBy w' none) (Fs ops T) T Q k rest a w
section
variable {E:Env}{cx:Cx}{ops:Array Oper}{pre rest rest':List Oper}{s s1:St}{K:St->Prop}{n n0 k T:Nat}{l:List (Nat×AV)}{hp hp':Hp}{Q:Ex->St->Prop}{id:Nat}{fid:FuncId}
theorem RunDX.done (hr:rest=[]) (kk:K s):RunDX E ops T n0 k rest s K:=by
 subst hr
 exact fun base Q w0 Z R0 h0 a w R _ _ sr hgr st _ _ q=>⟨fun _=>hgr,q s a w Z R kk sr st.w⟩
theorem OO (hT:T=k) (h:RunS E ops rest s K):RunDX E ops T n0 k rest s K:=by
 subst hT
 intro base Q w0 Z R0 h0 a w R _ _ sr hgr st _ hops q
 exact N5 (h base Q a w Z R sr fun s' a' w' Z' R' hK sr' st'=>q s' a' w' Z' R' hK sr' (st.w.trans st')) (Nat.le_refl _) (fun _=>hgr) (fun j hj=>OQ hj) hops
theorem MD (hE:EnvOk E):∀ {pre:List Oper}{s:St}{k:Nat},(pre.all fun o=>!isW o.op)=true->k + pre.length<=T->opsD E (evC E 0) ⟨none,false⟩ ops n0 pre s=some s1->RunDX E ops T n0 (k + pre.length) rest s1 K->RunDX E ops T n0 k (pre++rest) s K
 | [],s,k,_,_,e,kk=>by injection e with e; subst e; exact kk
 | o::pre,s,k,hp,hT,e,kk=>by
  intro base Q w0 Z R0 h0 a w R hh0 hn0 sr hgr st hpre hops q
  simp only [List.all_cons,Bool.and_eq_true,Bool.not_eq_true'] at hp
  obtain ⟨hW,hp⟩:=hp
  have hok:ops[k]? = some o:=by have:=hops 0; simpa using this.symm
  have hops':∀ j,(pre++rest)[j]? = ops[k + 1 + j]?:=fun j=>by have:=hops (j + 1); simpa [Nat.add_assoc,Nat.add_comm 1 j] using this
  have hk1:k + 1 + pre.length=k + (o::pre).length:=by simp; omega
  have kk':RunDX E ops T n0 (k + 1 + pre.length) rest s1 K:=by rw [hk1]; exact kk
  have hT':k + 1 + pre.length<=T:=by rw [hk1]; exact hT
  have hkT:¬ T<=k:=by omega
  show Jl E.P ops _ _ _ Q k (o::(pre++rest)) a w
  refine ⟨fun _=>hgr,?_⟩
  unfold opsD at e
  rw [if_neg (by rw [hW]; simp)] at e
  split at e
  ·cases e
  ·next hw =>
   rw [if_neg (by rw [wantedA_eq sr hw]; simp)]
   exact MD hE hp hT' e kk' base Q w0 Z R0 h0 _ w R hh0 hn0 (sr.put undef_vr) hgr st hpre hops' q
  ·next hw =>
   rw [if_pos (wantedA_eq sr hw)]
   have hρ:∀ o x,opA E s.fr o=some x->VR w Z R x (a.eval o):=fun o x e=>opA_vr sr o x e
   split at e
   ·next x hx =>
    split at e
    ·next hld =>
     have hq:=SC hx
     rw [if_neg (by rw [N4 hok hq hkT]; simp)]
     obtain ⟨u,hu,hrun⟩:=evOpQ_sound sr.hh hρ hx
     have hquiet:∃ u,VR w Z R x u/\QuietAt E.P (Cf (fun w'=>w0.grownBy w' none) o) o u a:=by
      cases hl:UG o.op with
      | false=>exact ⟨u,hu,fun w' _=>hrun w' fun h=>by rw [hl] at h; cases h⟩
      | true =>
       obtain ⟨u1,hu1,hq1⟩:=Kv hh0 sr hgr st hpre hl (by rw [<-hn0]; exact hld) hx
       exact ⟨u1,hu1,hq1.up (O7 hl)⟩
     obtain ⟨u,hu,hquiet⟩:=hquiet
     exact ⟨u,hquiet,MD hE hp hT' e kk' base Q w0 Z R0 h0 _ w R hh0 hn0 (sr.put hu) hgr st hpre hops' q⟩
    ·cases e
   ·split at e
    ·next x h' hx =>
     have hq:=Mv hx
     rw [if_pos (HE hok hq)]
     obtain ⟨u,w',R',h1,h2,h3,h4,h5⟩:=evOpN_sound hρ sr.hh hx
     exact Pf h1 (MD hE hp hT' e kk' base Q w0 Z R0 h0 _ w' R' hh0 hn0 ((sr.step h2 h4).put h3) (GL hgr h5) (st.trans h4) (fun b B hb=>N0 hx (hpre b B hb)) hops' q)
    ·split at e
     ·next f args tys ho =>
      split at e
      ·next fv xs hf hxs =>
       split at e
       ·next r hr =>
        obtain ⟨x,h'⟩:=r
        have hq:isQ o.op=false:=by rw [ho]; rfl
        rw [if_pos (HE hok hq)]
        obtain ⟨g,uf,uc,hva,hcl,hret⟩:=Hz hE (code_sound hE 0).1 (hρ _ _ hf) (opds_vr hρ hxs) sr.hh sr.gl hr
        unfold Lw
        rw [Hh (uf:=uf) (uc:=uc) ho hva rfl hcl w]
        refine Ret.mono hret fun v w' hS=>?_
        obtain ⟨hg1,R',k1,k2,k3⟩:=hS
        exact MD hE hp hT' e kk' base Q w0 Z R0 h0 _ w' R' hh0 hn0 ((sr.step k1 k3).put k2) (GL hgr hg1) (st.trans k3) (fun b B hb=>Nk hr (hpre b B hb)) hops' q
       ·cases e
      ·cases e
     ·cases e
theorem IF (hE:EnvOk E) (m:Nat){s:St}(l:List (Nat×AV)) (hp:Hp) (hw:(((rest.take m).all fun o=>!isW o.op)&&Nat.ble (k + (rest.take m).length) T)=true) (h:UX (opsD E (evC E 0) ⟨none,false⟩ ops n0 (rest.take m) s) l=some (n,xs2 l,hp)) (kk:RunDX E ops T n0 (k + (rest.take m).length) (rest.drop m) ⟨Fr n l,hp⟩ K):RunDX E ops T n0 k rest s K:=by
 obtain ⟨fr,h1,h2,h3⟩:=JU h
 rw [Bool.and_eq_true] at hw
 have:=MD (k:=k) (T:=T) (pre:=rest.take m) (rest:=rest.drop m) hE hw.1 (Nat.le_of_ble_eq_true hw.2) h1 (fun base Q w0 Z R0 h0 a w R a1 a2 sr a5 a6 a7 a8 q=>kk base Q w0 Z R0 h0 a w R a1 a2 (sr.forget h2 h3) a5 a6 a7 a8 q)
 rwa [List.take_append_drop] at this
theorem RunDX.one (hE:EnvOk E){s s1:St}{o:Oper}(hr:rest=o::rest') (hW:(!isW o.op&&Nat.blt k T)=true) (h:opsD E (evC E 0) ⟨none,false⟩ ops n0 [o] s=some s1) (kk:RunDX E ops T n0 (k + 1) rest' s1 K):RunDX E ops T n0 k rest s K:=by
 subst hr
 rw [Bool.and_eq_true] at hW
 exact MD (k:=k) hE (pre:=[o]) (by simpa using hW.1) (by have:=Nat.le_of_ble_eq_true hW.2; simpa using this) h kk
/-- An append to a block that was made in this region. -/
theorem RunDX.append (_hE:EnvOk E){o:Oper}{x:AV}{d:Nat}{hM:Hp}(hr:rest=o::rest') (hw:DC ops (Fr n l) o=some true) (hd:o.dst=some d) (hq:isQ o.op=false) (h:RA E.P (opA E (Fr n l)) hp o.op=some (x,hp')) (hm:RA E.P (opA E (Fr n l)) (Xa n0 hp) o.op=some (x,hM)) (hpr:hp'.take n0=hp.take n0) (kk:RunDX E ops T n0 (k + 1) rest' ⟨Fr n ((d,x)::l),hp'⟩ K):RunDX E ops T n0 k rest ⟨Fr n l,hp⟩ K:=by
 subst hr
 intro base Q w0 Z R0 h0 a w R hh0 hn0 sr hgr st hpre hops q
 have hok':ops[k]? = some o:=by have:=hops 0; simpa using this.symm
 have hops':∀ j,rest'[j]? = ops[k + 1 + j]?:=fun j=>by have:=hops (j + 1); simpa [Nat.add_assoc,Nat.add_comm 1 j] using this
 refine ⟨fun _=>hgr,?_⟩
 rw [if_pos (wantedA_eq sr hw),if_pos (HE hok' hq)]
 have hρ:∀ o x,opA E (Fr n l) o=some x->VR w Z R x (a.eval o):=fun o x e=>opA_vr sr o x e
 obtain ⟨u,w',R',h1,h2,h3,h4⟩:=evOpW_sound (o:=o) hρ sr.hh h
 obtain ⟨u2,w2,R2,g1,g2,g3,g4⟩:=evOpW_sound (o:=o) hρ (Ww sr.hh n0) hm
 rw [h1] at g1
 injection g1 with _ e2
 subst e2
 -- the blocks of before stay
 have hown:∀ c,own R (Xa n0 hp) c->w0.heap.size<=c:=fun c ⟨b,B,r,k1,k2,k3,k4⟩=>by
  obtain ⟨hb,k1⟩:=VI k1
  rcases st.own_ c ⟨b,B,r,k1,k2,k3,k4⟩ with ⟨b0,B0,r0,q1,q2,q3,q4⟩ | h
  ·have hlt:b0 < h0.length:=(List.getElem?_eq_some_iff.1 q1).1
   have:=sr.hh.inj b b0 B B0 r r0 k1 k2 (hpre b0 _ q1) q2 k3 (st.r b0 r0 q3) (by rw [k4,q4])
   omega
  ·exact h
 have hgr2:w0.grownBy w' none:=⟨g4.os.trans hgr.os,g4.tape.trans hgr.tape,g4.output.trans hgr.output,Nat.le_trans hgr.size g4.size,fun c hc _=>by
  rw [g4.block c (Nat.lt_of_lt_of_le hc hgr.size) fun ho=>by have:=hown c ho; omega]
  exact hgr.block c hc (by simp)⟩
 refine Pf h1 ?_
 have sr':=(sr.step h2 h4).put (d:=o.dst) h3
 rw [hd,show PI (⟨Fr n l,hp⟩:St).fr (some d) x=Fr n ((d,x)::l) from FV n l d _] at sr'
 rw [hd]
 exact kk base Q w0 Z R0 h0 _ w' R' hh0 hn0 sr' hgr2 (st.trans h4) (fun b B hb=>by
  have hlt:b < n0:=by rw [hn0]; exact (List.getElem?_eq_some_iff.1 hb).1
  have e:=congrArg (fun l=>l[b]?) hpr
  simp only [List.getElem?_take,hlt,if_true] at e
  show hp'[b]? = _
  rw [e]; exact hpre b B hb) hops' q
end
section
variable {P:Program}{ops:Array Oper}{C:World->Prop}{Q:Act->World->Prop}{loud:Nat->Bool}{T:Nat}
/-- What a quiet operation yields may come ahead of a loud one. -/
theorem SH {n i j fuel:Nat}{oi oj:Oper}{v:Value}{listed:Array Bool}{a:Act}{w:World}(ht:M3 ops loud T n) (hi:ops[i]? = some oi) (hoj:ops[j]? = some oj) (hsel:∀ (j:Nat) (o:Oper) cs b,ops[j]? = some o->o.op≠ .select cs b) (hcl:Closed ops listed) (hsz:listed.size=ops.size)
  (ap1:∀ d,oi.dst=some d->d ∉ oj.looksAt ops) (ap2:∀ d,oi.dst=some d->oj.dst≠some d) (ap3:∀ d,oj.dst=some d->d ∉ oi.looksAt ops) (hr:i ∈ Region.ready .any ops listed) (hj:j ∈ Region.ready .any ops listed) (hji:j≠i) (hlj:loud j=false) (hya:YieldsM P ops C oj v a)
  (H:mOp P ops C loud i (wpM P ops C loud T Q (fuel + 1) (listed.setIfInBounds i true)) a w):mOp P ops C loud i (wpM P ops C loud T Q fuel ((listed.setIfInBounds j true).setIfInBounds i true)) (a.put oj.dst v) w:=by
 have ap2':∀ d,oj.dst=some d->oi.dst≠some d:=fun d hd hd'=>ap2 d hd' hd
 rw [WF hi ap3 ap2' (fun cs b=>hsel i oi cs b hi)]
 have hG:∀ u,YieldsM P ops C oj v (a.put oi.dst u):=fun u=>hya.same (execOp_put oj (fun cs b=>hsel j oj cs b hoj) a oi.dst u ap1) (wanted_put oj a oi.dst u ap1)
 have hr2:=ready_mono (md:= .any) (ops:=ops) hj hji
 refine Im (fun a' w'' h2=>?_) (WE hi hG H)
 obtain ⟨v',hy',h3⟩:=Ep hoj hlj (h2.2.2.2 j hr2)
 rw [Ol (AA6 ht (hcl.set hr) (by simpa using hsz) hoj hlj (mem_ready.1 hr2).1 h2.2.c) h2.1 hy',Array.setIfInBounds_comm _ _ hji]
 exact h3
/-- Two loud operations that may come up now: one of them is the first loud one, if every other stands behind the one. -/
theorem Y7 {n i i2:Nat}{oi oi2:Oper}(ht:M3 ops loud T n) (hi:ops[i]? = some oi) (hi2:ops[i2]? = some oi2) (hsel:∀ (j:Nat) (o:Oper) cs b,ops[j]? = some o->o.op≠ .select cs b) :
  ∀ (fuel:Nat) (listed:Array Bool) (a:Act) (w:World),(∀ j,j < ops.size->j≠i->j≠i2->loud j=true->listed.getD j true=false->IL ops n j i=true)->Closed ops listed->listed.size=ops.size->(Us ops loud T listed->C w) ->
   (∀ j oj,ops[j]? = some oj->j≠i->listed.getD j true=false->(∀ e ∈ oj.after,Region.binds .any e=true->e.on≠i)->oi.apart ops oj=true) ->
   (∀ j oj,ops[j]? = some oj->j≠i2->listed.getD j true=false->(∀ e ∈ oj.after,Region.binds .any e=true->e.on≠i2)->oi2.apart ops oj=true) ->
   i ∈ Region.ready .any ops listed->i2 ∈ Region.ready .any ops listed ->
   mOp P ops C loud i (wpM P ops C loud T Q fuel (listed.setIfInBounds i true)) a w->mOp P ops C loud i2 (wpM P ops C loud T Q fuel (listed.setIfInBounds i2 true)) a w->wpM P ops C loud T Q (fuel + 1) listed a w:=by
 intro fuel
 induction fuel with
 | zero =>
  intro listed a w _ _ _ hC _ _ hr _ H H2
  refine ⟨hC,fun h=>(by rw [h] at hr; cases hr),fun j hj=>?_⟩
  by_cases hji:j=i
  ·subst hji; exact H
  ·obtain ⟨u,w',h1⟩:=LN hi H
   have:=ready_mono hj hji
   rw [h1.2.1] at this
   cases this
 | succ fuel ih =>
  intro listed a w hT hcl hsz hC hfree hfree2 hr hr2 H H2
  refine ⟨hC,fun h=>(by rw [h] at hr; cases hr),fun j hj=>?_⟩
  by_cases hji:j=i
  ·subst hji; exact H
  by_cases hji2:j=i2
  ·subst hji2; exact H2
  obtain ⟨hjun,oj,hoj,hall⟩:=mem_ready.1 hj
  have notl:∀ {x:Nat} {ox:Oper},ops[x]? = some ox->x ∈ Region.ready .any ops listed->¬ listed.getD x false=true:=fun {x ox} hx hxr h1=>by
   have hun:=(mem_ready.1 hxr).1
   have hlt:x < ops.size:=(Array.getElem?_eq_some_iff.1 hx).1
   have h':x < listed.size:=by omega
   simp [h'] at hun h1; rw [hun] at h1; cases h1
  have hnl:=notl hi hr
  have hnl2:=notl hi2 hr2
  have hnot:∀ e ∈ oj.after,Region.binds .any e=true->e.on≠i:=fun e he hb heq=>hnl (by rw [<-heq]; exact hall e he hb)
  have hnot2:∀ e ∈ oj.after,Region.binds .any e=true->e.on≠i2:=fun e he hb heq=>hnl2 (by rw [<-heq]; exact hall e he hb)
  have hjlt:j < ops.size:=(Array.getElem?_eq_some_iff.1 hoj).1
  have hlj:loud j=false:=by
   cases hlj:loud j with
   | false=>rfl
   | true =>
    exact absurd (LU hcl n j i (hT j hjlt hji hji2 hlj hjun) fun o ho e he hb=>by rw [hoj] at ho; injection ho with ho; subst ho; exact hall e he hb) hnl
  obtain ⟨ap1,ap2,ap3⟩:=Oper.apart_spec (hfree j oj hoj hji hjun hnot)
  obtain ⟨bp1,bp2,bp3⟩:=Oper.apart_spec (hfree2 j oj hoj hji2 hjun hnot2)
  have hun':∀ k,(listed.setIfInBounds j true).getD k true=false->listed.getD k true=false:=fun k hun=>by
   by_cases hjk:j=k
   ·subst hjk; exact hjun
   ·rw [getD_set_ne true hjk] at hun; exact hun
  have hCw:Us ops loud T (listed.setIfInBounds j true)->C w:=fun hn=>hC fun k hTk hk hlk=>hun' k (hn k hTk hk hlk)
  obtain ⟨u,w',h1⟩:=LN hi H
  obtain ⟨v,hy,_⟩:=Ep hoj hlj (h1.2.2 j (ready_mono hj hji))
  have hya:YieldsM P ops C oj v a:=hy.same (execOp_put oj (fun cs b=>hsel j oj cs b hoj) _ oi.dst u ap1).symm (wanted_put oj _ oi.dst u ap1).symm
  refine hya.mOp hoj hlj ?_
  exact ih (listed.setIfInBounds j true) (a.put oj.dst v) w (fun k hk h1 h2 h3 h4=>hT k hk h1 h2 h3 (hun' k h4)) (hcl.set hj) (by simpa using hsz) hCw (fun k ok hk h1 h2 h3=>hfree k ok hk h1 (hun' k h2) h3) (fun k ok hk h1 h2 h3=>hfree2 k ok hk h1 (hun' k h2) h3) (ready_mono hr (Ne.symm hji)) (ready_mono hr2 (Ne.symm hji2))
   (SH ht hi hoj hsel hcl hsz ap1 ap2 ap3 hr hj hji hlj hya H) (SH ht hi2 hoj hsel hcl hsz bp1 bp2 bp3 hr2 hj hji2 hlj hya H2)
/-- As wpM_lex, from an operation on behind which the loud ones stand in one order. -/
theorem Ro (hs:Region.noSelect ops=true){n k0:Nat}(hsp:∀ k j,k0<=k->k < ops.size->j < ops.size->loud k=true->loud j=true->k < j->IL ops n j k=true) (htl:M3 ops loud T n) (hTl:T < ops.size->loud T=true):∀ (l:List Oper) (k:Nat) (listed:Array Bool) (a:Act) (w:World),k0<=k->k + l.length=ops.size->(∀ j,l[j]? = ops[k + j]?) ->
  Region.lexFrom .any ops l.length k listed=true->Closed ops listed->listed.size=ops.size->(∀ j,j < k->listed.getD j true=true)->Jl P ops C loud T Q k l a w->wpM P ops C loud T Q l.length listed a w
 | [],k,listed,a,w,_,hkl,_,hB,_,_,hlt,h=>by
  refine ⟨fun hn=>h.1 ?_,by simpa [Region.lexFrom] using hB,h.2⟩
  rcases Nat.lt_or_ge T k with h1 | h1
  ·exfalso
   have hTs:T < ops.size:=by simp at hkl; omega
   have h2:=hn T (Nat.le_refl _) hTs (hTl hTs)
   rw [hlt T h1] at h2
   cases h2
  ·exact h1
 | o::l,k,listed,a,w,hk0,hkl,hl,hB,hcl,hsz,hlt,h=>by
  have h0:ops[k]? = some o:=by simpa using (hl 0).symm
  have hk:k < ops.size:=(Array.getElem?_eq_some_iff.1 h0).1
  simp only [List.length_cons,Region.lexFrom,Bool.and_eq_true] at hB
  obtain ⟨⟨hr,hf⟩,hB'⟩:=hB
  have hr':k ∈ Region.ready .any ops listed:=by simpa using hr
  have rec_:∀ a w,Jl P ops C loud T Q (k + 1) l a w->wpM P ops C loud T Q l.length (listed.setIfInBounds k true) a w:=fun a w hh =>
   Ro hs hsp htl hTl l (k + 1) _ a w (by omega) (by simp at hkl; omega) (fun j=>by have:=hl (j + 1); simpa [Nat.add_assoc,Nat.add_comm 1 j] using this) hB' (hcl.set hr') (by simpa using hsz) (fun j hj=>by
    by_cases hjk:k=j
    ·subst hjk
     have hlt':k < listed.size:=by omega
     simp [hlt']
    ·rw [getD_set_ne true hjk]; exact hlt j (by omega)) hh
  obtain ⟨hC,hh⟩:=h
  have hle:Us ops loud T listed->k<=T:=fun hn=>by
   rcases Nat.lt_or_ge T k with h1 | h1
   ·exfalso
    have h2:=hn T (Nat.le_refl _) (by omega) (hTl (by omega))
    rw [hlt T h1] at h2
    cases h2
   ·exact h1
  have hst:mOp P ops C loud k (Jl P ops C loud T Q (k + 1) l) a w:=by
   unfold mOp
   rw [h0]
   exact hh
  cases hlk:loud k with
  | false =>
   obtain ⟨v,hy,hK⟩:=Ep h0 hlk hst
   exact MU h0 hlk (Region.noSelect_spec hs) l.length listed a w (fun hn=>hC (hle hn)) hcl hsz (Region.free_spec h0 hf) hr' hy (rec_ _ _ hK)
  | true =>
   refine Pw (n:=n) htl h0 (Region.noSelect_spec hs) l.length listed a w (fun j hj hjk hlj hun=>?_) hcl hsz (fun hn=>hC (hle hn)) (Region.free_spec h0 hf) hr' (Im rec_ hst)
   ·have hkj:k < j:=by
     rcases Nat.lt_trichotomy k j with h1 | h1 | h1
     ·exact h1
     ·exact absurd h1.symm hjk
     ·rw [hlt j h1] at hun; cases hun
    exact hsp k j hk0 hk hj hlk hlj hkj
/-- The walk, of which p and the operation behind it are taken in both orders. -/
def ADv (P:Program) (ops:Array Oper) (C:World->Prop) (loud:Nat->Bool) (T:Nat) (Q:Act->World->Prop) (p:Nat) (rest:List Oper) (a:Act) (w:World):Prop :=
 C w/\mOp P ops C loud p (fun a w=>C w/\mOp P ops C loud (p + 1) (Jl P ops C loud T Q (p + 2) rest) a w) a w/\mOp P ops C loud (p + 1) (fun a w=>C w/\mOp P ops C loud p (Jl P ops C loud T Q (p + 2) rest) a w) a w
def Px (P:Program) (ops:Array Oper) (C:World->Prop) (loud:Nat->Bool) (T:Nat) (Q:Act->World->Prop) (p:Nat):Nat->List Oper->Act->World->Prop
 | _,[],_,_=>False
 | k,_::rest,a,w=>if k=p then ADv P ops C loud T Q p (rest.drop 1) a w else (k<=T->C w)/\mOp P ops C loud k (Px P ops C loud T Q p (k + 1) rest) a w
/-- One of two operations is this pair. -/
def Zy (ops:Array Oper) (loud:Nat->Bool) (T p:Nat):Bool :=
 ((List.range ops.size).all fun k=>!loud k||(List.range ops.size).all fun j=>!(decide (k < j)&&loud j)||(k==p&&j==p + 1)||IL ops ops.size j k) &&
 ((List.range ops.size).all fun j=>!decide (T<=j)||(if loud j then (List.range ops.size).all fun i=>loud i||Hl ops i||IL ops ops.size j i else Hl ops j&&decide (j≠T))) &&
 (decide (p + 2<=T)&&loud p&&loud (p + 1)&&match ops[p]?,ops[p + 1]? with
  | some o,some o2=>o2.apart ops o&&o2.after.all fun e=>!Region.binds .any e||e.on != p
  | _,_=>false)
structure AAS (ops:Array Oper) (loud:Nat->Bool) (T p:Nat):Prop where
 sp:∀ k j,k < ops.size->j < ops.size->loud k=true->loud j=true->k < j->(k=p/\j=p + 1)\/IL ops ops.size j k=true
 tl:M3 ops loud T ops.size
 tT:T < ops.size->loud T=true
 le:p + 2<=T
 l1:loud p=true
 l2:loud (p + 1)=true
 ap:∀ o o2,ops[p]? = some o->ops[p + 1]? = some o2->o2.apart ops o=true/\∀ e ∈ o2.after,Region.binds .any e=true->e.on≠p
theorem Xf {p:Nat}(h:Zy ops loud T p=true):AAS ops loud T p:=by
 unfold Zy at h
 simp only [Bool.and_eq_true] at h
 obtain ⟨⟨h1,h2⟩,⟨⟨h3,h4⟩,h5⟩,h6⟩:=h
 have htl:∀ j,T<=j->j < ops.size->(if loud j=true then (List.range ops.size).all (fun i=>loud i||Hl ops i||IL ops ops.size j i)=true else (Hl ops j&&decide (j≠T))=true):=fun j hTj hj=>by
  have:=List.all_eq_true.1 h2 j (by simpa using hj)
  simp only [hTj,decide_true,Bool.not_true,Bool.false_or] at this
  split
  ·next hl=>rw [if_pos hl] at this; exact this
  ·next hl=>rw [if_neg hl] at this; exact this
 refine ⟨fun k j hk hj hlk hlj hkj=>?_,fun j hTj hj hlj i hi hli hfr=>?_,fun hT=>?_,of_decide_eq_true h3,h4,h5,fun o o2 ho ho2=>?_⟩
 ·have a1:=List.all_eq_true.1 h1 k (by simpa using hk)
  simp only [hlk,Bool.not_true,Bool.false_or] at a1
  have a2:=List.all_eq_true.1 a1 j (by simpa using hj)
  simp only [hkj,hlj,decide_true,Bool.and_self,Bool.not_true,Bool.false_or,Bool.or_eq_true,Bool.and_eq_true,beq_iff_eq] at a2
  exact a2
 ·have a1:=htl j hTj hj
  rw [if_pos hlj] at a1
  have a2:=List.all_eq_true.1 a1 i (by simpa using hi)
  simpa [hli,hfr] using a2
 ·cases hl:loud T with
  | true=>rfl
  | false =>
   have a1:=htl T (Nat.le_refl _) hT
   rw [if_neg (by rw [hl]; simp)] at a1
   simp at a1
 ·rw [ho,ho2] at h6
  simp only [Bool.and_eq_true,Array.all_eq_true_iff_forall_mem] at h6
  refine ⟨h6.1,fun e he hb=>?_⟩
  have:=h6.2 e he
  simpa [hb] using this
theorem XJ (hs : Region.noSelect ops = true) {p : Nat} (hp : AAS ops loud T p) : ∀ (l : List Oper) (k : Nat) (listed : Array Bool) (a : Act) (w : World), k ≤ p → k + l.length = ops.size → (∀ j, l[j]? = ops[k + j]?) →
    Region.lexFrom .any ops l.length k listed = true → Closed ops listed → listed.size = ops.size → (∀ j, j < k → listed.getD j true = true) → Px P ops C loud T Q p k l a w → wpM P ops C loud T Q l.length listed a w
  | [], _, _, _, _, _, _, _, _, _, _, _, h => h.elim
  | o :: l, k, listed, a, w, hkp, hkl, hl, hB, hcl, hsz, hlt, h => by
    have h0 : ops[k]? = some o := by simpa using (hl 0).symm
    have hk : k < ops.size := (Array.getElem?_eq_some_iff.1 h0).1
    simp only [List.length_cons, Region.lexFrom, Bool.and_eq_true] at hB
    obtain ⟨⟨hr, hf⟩, hB'⟩ := hB
    have hr' : k ∈ Region.ready .any ops listed := by simpa using hr
    have hsz' : (listed.setIfInBounds k true).size = ops.size := by simpa using hsz
    have hlt2 : ∀ {q : Nat} {ls : Array Bool}, q < ls.size → (∀ j, j < q → ls.getD j true = true) → ∀ j, j < q + 1 → (ls.setIfInBounds q true).getD j true = true := fun {q ls} hq hh j hj => by
      by_cases hjk : q = j
      · subst hjk; simp [hq]
      · rw [getD_set_ne true hjk]; exact hh j (by omega)
    have hlt' := hlt2 (ls := listed) (by omega) hlt
    have hnext : ∀ j, l[j]? = ops[k + 1 + j]? := fun j => by have := hl (j + 1); simpa [Nat.add_assoc, Nat.add_comm 1 j] using this
    unfold Px at h
    by_cases hkpe : k = p
    · subst hkpe
      rw [if_pos rfl] at h
      obtain ⟨hC, hA, hB2⟩ := h
      -- the second operation
      match l, hkl, hnext, hB' with
      | [], hkl, _, _ => have := hp.le; have h1 : ops.size ≤ k + 1 := by simp at hkl; omega
                         exact absurd hp.l2 (by
                           have hTl := hp.tT
                           intro hl2
                           rcases LN h0 hA with ⟨u, w', _, h3⟩
                           unfold mOp at h3
                           rw [Array.getElem?_eq_none (by omega)] at h3
                           exact h3)
      | o2 :: l2, hkl, hnext, hB' =>
        have h02 : ops[k + 1]? = some o2 := by simpa using (hnext 0).symm
        have hk2 : k + 1 < ops.size := (Array.getElem?_eq_some_iff.1 h02).1
        simp only [List.length_cons, Region.lexFrom, Bool.and_eq_true] at hB'
        obtain ⟨⟨hr2, hf2⟩, hB2'⟩ := hB'
        have hr2' : k + 1 ∈ Region.ready .any ops (listed.setIfInBounds k true) := by simpa using hr2
        obtain ⟨hap, hno⟩ := hp.ap o o2 h0 h02
        have hne : k ≠ k + 1 := by omega
        -- ready already ahead of the first
        have hr20 : k + 1 ∈ Region.ready .any ops listed := by
          obtain ⟨q1, oq, q2, q3⟩ := mem_ready.1 hr2'
          rw [h02] at q2
          injection q2 with q2
          subst q2
          refine mem_ready.2 ⟨by rw [getD_set_ne true hne] at q1; exact q1, o2, h02, fun e he hb => ?_⟩
          have := q3 e he hb
          rwa [getD_set_ne false (Ne.symm (hno e he hb))] at this
        have hfr1 := Region.free_spec h0 hf
        have hfr2 : ∀ j oj, ops[j]? = some oj → j ≠ k + 1 → listed.getD j true = false → (∀ e ∈ oj.after, Region.binds .any e = true → e.on ≠ k + 1) → o2.apart ops oj = true := fun j oj hj h1 h2 h3 => by
          by_cases hjk : j = k
          · subst hjk
            rw [h0] at hj
            injection hj with hj
            subst hj
            exact hap
          · exact Region.free_spec h02 hf2 j oj hj h1 (by rw [getD_set_ne true (Ne.symm hjk)]; exact h2) h3
        have hge : ∀ j, listed.getD j true = false → j ≠ k → j ≠ k + 1 → k + 1 < j := fun j hun h1 h2 => by
          rcases Nat.lt_or_ge j k with h | h
          · rw [hlt j h] at hun; cases hun
          · omega
        have hwait : ∀ j, j < ops.size → j ≠ k → j ≠ k + 1 → loud j = true → listed.getD j true = false → IL ops ops.size j k = true ∧ IL ops ops.size j (k + 1) = true := fun j hj h1 h2 h3 h4 => by
          have := hge j h4 h1 h2
          refine ⟨(hp.sp k j hk hj hp.l1 h3 (by omega)).resolve_left fun h => by omega, (hp.sp (k + 1) j hk2 hj hp.l2 h3 this).resolve_left fun h => by omega⟩
        have tail : ∀ a w, Jl P ops C loud T Q (k + 2) l2 a w → wpM P ops C loud T Q l2.length ((listed.setIfInBounds k true).setIfInBounds (k + 1) true) a w := fun a w hh =>
          Ro hs (n := ops.size) (k0 := k + 2) (fun x j h1 h2 h3 h4 h5 h6 => (hp.sp x j h2 h3 h4 h5 h6).resolve_left fun h => by omega) hp.tl hp.tT l2 (k + 2) _ a w (Nat.le_refl _) (by simp at hkl; omega) (fun j => by rw [show k + 2 + j = k + 1 + (j + 1) by omega]; simpa using hnext (j + 1)) hB2' ((hcl.set hr').set hr2') (by simpa using hsz) (hlt2 (ls := listed.setIfInBounds k true) (by omega) hlt') hh
        refine Y7 (n := ops.size) hp.tl h0 h02 (Region.noSelect_spec hs) (l2.length + 1) listed a w (fun j hj h1 h2 h3 h4 => (hwait j hj h1 h2 h3 h4).1) hcl hsz (fun _ => hC) hfr1 hfr2 hr' hr20 (Im (fun a' w' hh => ?_) hA) (Im (fun a' w' hh => ?_) hB2)
        · have hun' : ∀ j, (listed.setIfInBounds k true).getD j true = false → listed.getD j true = false ∧ j ≠ k := fun j hun => by
            by_cases hjk : k = j
            · subst hjk
              have : k < listed.size := by omega
              simp [this] at hun
            · rw [getD_set_ne true hjk] at hun; exact ⟨hun, Ne.symm hjk⟩
          exact Pw (n := ops.size) hp.tl h02 (Region.noSelect_spec hs) l2.length (listed.setIfInBounds k true) a' w' (fun j hj h1 h2 h3 => (hwait j hj (hun' j h3).2 h1 h2 (hun' j h3).1).2) (hcl.set hr') hsz' (fun _ => hh.1) (Region.free_spec h02 hf2) hr2' (Im tail hh.2)
        · have hun' : ∀ j, (listed.setIfInBounds (k + 1) true).getD j true = false → listed.getD j true = false ∧ j ≠ k + 1 := fun j hun => by
            by_cases hjk : k + 1 = j
            · subst hjk
              have : k + 1 < listed.size := by omega
              simp [this] at hun
            · rw [getD_set_ne true hjk] at hun; exact ⟨hun, Ne.symm hjk⟩
          refine Pw (n := ops.size) hp.tl h0 (Region.noSelect_spec hs) l2.length (listed.setIfInBounds (k + 1) true) a' w' (fun j hj h1 h2 h3 => (hwait j hj h1 (hun' j h3).2 h2 (hun' j h3).1).1) (hcl.set hr20) (by simpa using hsz) (fun _ => hh.1) (fun j oj hj h1 h2 h3 => hfr1 j oj hj h1 (hun' j h2).1 h3) (ready_mono hr' hne) (Im (fun a2 w2 h2 => ?_) hh.2)
          have := tail a2 w2 h2
          rwa [Array.setIfInBounds_comm _ _ hne] at this
    · rw [if_neg hkpe] at h
      obtain ⟨hC, hst⟩ := h
      have hkp' : k < p := by omega
      have rec_ : ∀ a w, Px P ops C loud T Q p (k + 1) l a w → wpM P ops C loud T Q l.length (listed.setIfInBounds k true) a w := fun a w hh =>
        XJ hs hp l (k + 1) _ a w (by omega) (by simp at hkl; omega) hnext hB' (hcl.set hr') hsz' hlt' hh
      have hle : Us ops loud T listed → k ≤ T := fun _ => by have := hp.le; omega
      cases hlk : loud k with
      | false =>
        obtain ⟨v, hy, hK⟩ := Ep h0 hlk hst
        exact MU h0 hlk (Region.noSelect_spec hs) l.length listed a w (fun hn => hC (hle hn)) hcl hsz (Region.free_spec h0 hf) hr' hy (rec_ _ _ hK)
      | true =>
        refine Pw (n := ops.size) hp.tl h0 (Region.noSelect_spec hs) l.length listed a w (fun j hj hjk hlj hun => ?_) hcl hsz (fun hn => hC (hle hn)) (Region.free_spec h0 hf) hr' (Im rec_ hst)
        have hkj : k < j := by
          rcases Nat.lt_trichotomy k j with h1 | h1 | h1
          · exact h1
          · exact absurd h1.symm hjk
          · rw [hlt j h1] at hun; cases hun
        exact (hp.sp k j hk hj hlk hlj hkj).resolve_left fun h => hkpe h.1
theorem Ta {id p:Nat}{Q':Exit->Act->World->Prop}{a:Act}{w:World}{l:List Oper}(ro:Option Nat) (m:Nat) (hm:P.follows .mixedOrders=true) (hB:Region.lexB .any l.toArray=true) (hb:Zy l.toArray loud T p=true)
  (h:Px P l.toArray C loud T (fun a w=>Q' .normal a w) p 0 l a w.drew):(Code.region id l.toArray true).wpIn (Fw ro) m P Q' a w:=by
 simp only [Region.lexB,Bool.and_eq_true] at hB
 have hp:=Xf hb
 have hcl:Closed l.toArray (Array.replicate l.toArray.size false):=fun k o hk hlis=>by
  rw [getD_replicate_false] at hlis; cases hlis
 refine wpIn_region_any hm (OH (C:=C) (loud:=loud) (T:=T) (n:=l.toArray.size) (Q:=fun a w=>Q' .normal a w) ro m hp.tl (fun _ _ h=>h) _ _ _ _ hcl (by simp) ?_)
 have:=XJ (P:=P) (C:=C) (loud:=loud) (T:=T) (Q:=fun a w=>Q' .normal a w) (ops:=l.toArray) hB.1 hp l 0 (Array.replicate l.toArray.size false) a w.drew (Nat.zero_le _) (by simp) (by simp) (by simpa using hB.2) hcl (by simp) (fun j hj=>by omega) h
 simpa using this
end
/-- One operation of such a region, whatever stands behind it. -/
def Op1 (E:Env) (ops:Array Oper) (T n0 k:Nat) (o:Oper) (s:St) (Ks:St->Prop):Prop :=
 ∀ (base:Bs) (K:Act->World->Prop) (w0:World) (Z:Nat->Prop) (R0:List RI) (h0:Hp) (a:Act) (w:World) (R:List RI),HR w0 Z R0 h0->n0=h0.length->SR E base w Z R s a->w0.grownBy w none->Step w0 Z R0 h0 w Z R s.hp->(∀ (b:Nat) (B:Option Blk),h0[b]? = some B->s.hp[b]? = some B)->ops[k]? = some o ->
  (∀ s' a' w' R',Ks s'->SR E base w' Z R' s' a'->w0.grownBy w' none->Step w0 Z R0 h0 w' Z R' s'.hp->(∀ (b:Nat) (B:Option Blk),h0[b]? = some B->s'.hp[b]? = some B)->K a' w')->mOp E.P ops (fun w'=>w0.grownBy w' none) (Fs ops T) k K a w
def RunDP (E:Env) (ops:Array Oper) (T p n0 k:Nat) (rest:List Oper) (s:St) (K:St->Prop):Prop :=
 ∀ (base:Bs) (Q:Act->World->Prop) (w0:World) (Z:Nat->Prop) (R0:List RI) (h0:Hp) (a:Act) (w:World) (R:List RI),HR w0 Z R0 h0->n0=h0.length->SR E base w Z R s a->w0.grownBy w none->Step w0 Z R0 h0 w Z R s.hp->(∀ (b:Nat) (B:Option Blk),h0[b]? = some B->s.hp[b]? = some B)->(∀ j,rest[j]? = ops[k + j]?) ->
  (∀ s' a' w' Z' R',K s'->SR E base w' Z' R' s' a'->StepW w0 Z R0 h0 w' Z' R' s'.hp->Q a' w')->Px E.P ops (fun w'=>w0.grownBy w' none) (Fs ops T) T Q p k rest a w
section
variable {E:Env}{cx:Cx}{ops:Array Oper}{pre rest rest':List Oper}{s s1:St}{K Ks:St->Prop}{n n0 k T p:Nat}{l:List (Nat×AV)}{hp hp':Hp}{Q:Ex->St->Prop}{id:Nat}{fid:FuncId}{o:Oper}
theorem Xw (hE:EnvOk E) (T p:Nat) (hB:Region.lexB .any ops=true) (hb:Zy ops (Fs ops T) T p=true) (h:RunDP E ops T p s.hp.length 0 ops.toList s fun s'=>Wk E s' s1) (q:Q .normal s1):Sem E cx (.region id ops true) s Q:=by
 intro ro base Qm a w Z R _ sr _ kk
 have hgd:w.grownBy w.drew none:=T9 w
 have hops:ops.toList.toArray=ops:=by simp
 have st0:Step w Z R s.hp w.drew Z R s.hp:=⟨rfl,rfl,rfl,Nat.le_refl _,fun c hc _=>rfl,fun _ h=> .inl h,fun _ h=>h,fun _ h=> .inl h,fun _ _ h=>h⟩
 have hsrd:SR E base w.drew Z R s a:=⟨sr.hh.keep (Nat.le_refl _) (fun c hc=>hgd.block c hc (by simp)),sr.fr.off (fun c hc=>rfl),sr.mks.step st0,sr.gl.off (fun c hc=>rfl),sr.bs⟩
 have hm:=h base (fun a w=>Qm .normal a w) w.drew Z R s.hp a w.drew R hsrd.hh rfl hsrd (QX _) (Step.refl _ _ _ _) (fun b B hb=>hb) (fun j=>by simp) (fun s' a' w' Z' R' hw sr' st=>by
  obtain ⟨Z2,R2,sr2,st2⟩:=hw base w' Z' R' a' sr'
  exact kk .normal s1 a' w' Z2 R2 q sr2 ((st0.w.trans st).trans st2))
 have:=Ta (P:=E.P) (id:=id) (l:=ops.toList) (a:=a) (w:=w) (C:=fun w'=>w.drew.grownBy w' none) (loud:=Fs ops T) (T:=T) (p:=p) (Q':=Qm) ro 0 hE.mixed (by rw [hops]; exact hB) (by rw [hops]; exact hb) (by rw [hops]; exact hm)
 rw [hops] at this
 exact this
theorem Yj (hW:isW o.op=false) (e:opsD E (evC E 0) ⟨none,false⟩ ops n0 (o::pre) s=some s1):∃ s2,opsD E (evC E 0) ⟨none,false⟩ ops n0 [o] s=some s2/\opsD E (evC E 0) ⟨none,false⟩ ops n0 pre s2=some s1:=by
 have hW':¬ isW o.op=true:=by rw [hW]; simp
 unfold opsD at e
 rw [if_neg hW'] at e
 split at e
 ·cases e
 ·next hw=>exact ⟨_,by unfold opsD; rw [if_neg hW']; simp only [hw]; rfl,e⟩
 ·next hw =>
  split at e
  ·next x hx =>
   split at e
   ·next hld=>exact ⟨_,by unfold opsD; rw [if_neg hW']; simp only [hw,hx,hld,if_true]; rfl,e⟩
   ·cases e
  ·next hx =>
   split at e
   ·next x h' hn=>exact ⟨_,by unfold opsD; rw [if_neg hW']; simp only [hw,hx,hn]; rfl,e⟩
   ·next hn =>
    split at e
    ·next f args tys ho =>
     split at e
     ·next fv xs hf hxs =>
      split at e
      ·next r hr=>exact ⟨_,by unfold opsD; rw [if_neg hW']; simp only [hw,ho,hf,hxs,hr]; rfl,e⟩
      ·cases e
     ·cases e
    ·cases e
theorem Op1.d (hE:EnvOk E) (hW:isW o.op=false) (hk:k < T) (e:opsD E (evC E 0) ⟨none,false⟩ ops n0 [o] s=some s1) (kk:Ks s1):Op1 E ops T n0 k o s Ks:=by
 intro base K w0 Z R0 h0 a w R hh0 hn0 sr hgr st hpre hok q
 have hkT:¬ T<=k:=by omega
 unfold mOp
 rw [hok]
 dsimp only
 unfold opsD at e
 rw [if_neg (by rw [hW]; simp)] at e
 split at e
 ·cases e
 ·next hw =>
  rw [if_neg (by rw [wantedA_eq sr hw]; simp)]
  injection e with e
  subst e
  exact q _ _ w R kk (sr.put undef_vr) hgr st hpre
 ·next hw =>
  rw [if_pos (wantedA_eq sr hw)]
  have hρ:∀ o x,opA E s.fr o=some x->VR w Z R x (a.eval o):=fun o x e=>opA_vr sr o x e
  split at e
  ·next x hx =>
   split at e
   ·next hld =>
    injection e with e
    subst e
    have hq:=SC hx
    rw [if_neg (by rw [N4 hok hq hkT]; simp)]
    obtain ⟨u,hu,hrun⟩:=evOpQ_sound sr.hh hρ hx
    have hquiet:∃ u,VR w Z R x u/\QuietAt E.P (Cf (fun w'=>w0.grownBy w' none) o) o u a:=by
     cases hl:UG o.op with
     | false=>exact ⟨u,hu,fun w' _=>hrun w' fun h=>by rw [hl] at h; cases h⟩
     | true =>
      obtain ⟨u1,hu1,hq1⟩:=Kv hh0 sr hgr st hpre hl (by rw [<-hn0]; exact hld) hx
      exact ⟨u1,hu1,hq1.up (O7 hl)⟩
    obtain ⟨u,hu,hquiet⟩:=hquiet
    exact ⟨u,hquiet,q _ _ w R kk (sr.put hu) hgr st hpre⟩
   ·cases e
  ·split at e
   ·next x h' hx =>
    injection e with e
    subst e
    have hq:=Mv hx
    rw [if_pos (HE hok hq)]
    obtain ⟨u,w',R',h1,h2,h3,h4,h5⟩:=evOpN_sound hρ sr.hh hx
    exact Pf h1 (q _ _ w' R' kk ((sr.step h2 h4).put h3) (GL hgr h5) (st.trans h4) fun b B hb=>N0 hx (hpre b B hb))
   ·split at e
    ·next f args tys ho =>
     split at e
     ·next fv xs hf hxs =>
      split at e
      ·next r hr =>
       injection e with e
       subst e
       obtain ⟨x,h'⟩:=r
       have hq:isQ o.op=false:=by rw [ho]; rfl
       rw [if_pos (HE hok hq)]
       obtain ⟨g,uf,uc,hva,hcl,hret⟩:=Hz hE (code_sound hE 0).1 (hρ _ _ hf) (opds_vr hρ hxs) sr.hh sr.gl hr
       unfold Lw
       rw [Hh (uf:=uf) (uc:=uc) ho hva rfl hcl w]
       refine Ret.mono hret fun v w' hS=>?_
       obtain ⟨hg1,R',k1,k2,k3⟩:=hS
       exact q _ _ w' R' kk ((sr.step k1 k3).put k2) (GL hgr hg1) (st.trans k3) fun b B hb=>Nk hr (hpre b B hb)
      ·cases e
     ·cases e
    ·cases e
theorem Vs (hE:EnvOk E){s:St}(l:List (Nat×AV)) (hp:Hp) (hW:(!isW o.op&&Nat.blt k T)=true) (h:UX (opsD E (evC E 0) ⟨none,false⟩ ops n0 [o] s) l=some (n,xs2 l,hp)) (kk:Ks ⟨Fr n l,hp⟩):Op1 E ops T n0 k o s Ks:=by
 obtain ⟨fr,h1,h2,h3⟩:=JU h
 simp only [Bool.and_eq_true,Bool.not_eq_true'] at hW
 intro base K w0 Z R0 h0 a w R hh0 hn0 sr hgr st hpre hok q
 exact Op1.d (Ks:=fun s=>s=⟨fr,hp⟩) hE hW.1 (Nat.le_of_ble_eq_true hW.2) h1 rfl base K w0 Z R0 h0 a w R hh0 hn0 sr hgr st hpre hok fun s' a' w' R' hs sr' hg' st' hp'=>by
  subst hs
  exact q _ a' w' R' kk (sr'.forget h2 h3) hg' st' hp'
theorem Op1.one (hE:EnvOk E) (hW:(!isW o.op&&Nat.blt k T)=true) (h:opsD E (evC E 0) ⟨none,false⟩ ops n0 [o] s=some s1) (kk:Ks s1):Op1 E ops T n0 k o s Ks:=by
 simp only [Bool.and_eq_true,Bool.not_eq_true'] at hW
 exact Op1.d hE hW.1 (Nat.le_of_ble_eq_true hW.2) h kk
theorem Ut (hP:E.P=E0.P) (hG:E.G=E0.G){xs ys:List AV}{Out:AV->Hp->Prop}{d:Nat}{f:Operand}{args:Array Operand}{tys:Array TypeId}{ty:TypeId}{pos:String}{af:Array Edge}{g:Option (Nat×Bool)}(hs:SOk fid ys Out) (hr:o=⟨some d,.call ⟨.value f,args,tys⟩,ty,pos,af,g⟩) (hw:DC ops (Fr n l) ⟨some d,.call ⟨.value f,args,tys⟩,ty,pos,af,g⟩=some true)
  (hf:opA E (Fr n l) f=some (.fn fid [] [])) (ha:LW (opA E (Fr n l)) args.toList=some xs) (hv:XI hp xs=some ys) (hfl:∀ x h',Out x h'->UP x=true/\VA h'=true) (kk:∀ x h',Out x h'->Ks ⟨Fr n ((d,shN hp.length x)::l),hp++h'⟩):Op1 E ops T n0 k o ⟨Fr n l,hp⟩ Ks:=by
 subst hr
 intro base K w0 Z R0 h0 a w R hh0 hn0 sr hgr st hpre hko q
 have hq:isQ (.call ⟨.value f,args,tys⟩:Op)=false:=rfl
 unfold mOp
 rw [hko]
 dsimp only
 rw [if_pos (wantedA_eq sr hw),if_pos (HE hko hq)]
 have hρ:∀ o x,opA E (Fr n l) o=some x->VR w Z R x (a.eval o):=fun o x e=>opA_vr sr o x e
 have hva:a.eval f = .func (.func fid) ([]:List Value).toArray ([]:List Value).toArray:=by
  have:=hρ _ _ hf
  generalize a.eval f=vf at this
  cases this with
  | fn hl hl' hx hy =>
   rename_i u1 u2
   have e1:u1=[]:=by simpa using hl
   have e2:u2=[]:=by simpa using hl'
   subst e1 e2; rfl
 have hcl:Cm E.P fid:=hP ▸ hs.1
 unfold Lw
 rw [Hh (uf:=[]) (uc:=[]) rfl hva rfl hcl w]
 simp only [List.nil_append,List.append_nil]
 have hz1:∀ c,(Z c\/own R hp c)->c < w.heap.size:=fun c hc=>hc.elim (sr.hh.zlt c) (fun ⟨b,B,r,h1,_,h3,h4⟩=>h4 ▸ sr.hh.rltL h1 h3)
 have hg1:GI E0 w (fun c=>Z c\/own R hp c):=fun q y hy=>(sr.gl q y (by rw [hG]; exact hy)).mono (fun _ _=>rfl) (fun _ h=> .inl h) (fun _ _ h=>h)
 have hret:=hs.2 w _ _ hz1 hg1 (Vi sr.hh (opds_vr hρ ha) hv)
 rw [<-hP] at hret
 refine Ret.mono hret fun v w' hS=>?_
 obtain ⟨Z',R',x,h',hO,h1,h2,st1⟩:=hS
 obtain ⟨f1,f2⟩:=hfl x h' hO
 obtain ⟨j1,j2⟩:=sr.hh.join hz1 st1 h1 f2
 have hlen1:R.length=hp.length:=sr.hh.len
 have hx:=ADj (w:=w') (Z':=Z) (R:=R) hlen1 f1 h2
 have sr':=(sr.step j1 j2).put (d:=some d) hx
 rw [show PI (⟨Fr n l,hp⟩:St).fr (some d) (shN hp.length x)=Fr n ((d,shN hp.length x)::l) from FV n l d _] at sr'
 have hg2:w.grownBy w' none:=⟨st1.os,st1.tape,st1.output,st1.size,fun c hc _=>st1.block c hc fun ⟨b,B,r,hb,_⟩=>by simp at hb⟩
 exact q _ _ w' (R++R') (kk x h' hO) sr' (GL hgr hg2) (st.trans j2) (fun b B hb=>by
  have hlt:b < hp.length:=(List.getElem?_eq_some_iff.1 (hpre b B hb)).1
  show (hp++h')[b]? = _
  rw [List.getElem?_append_left hlt]; exact hpre b B hb)
/-- The walk up to the two. -/
theorem Rq (hE:EnvOk E):∀ {pre:List Oper}{s:St}{k:Nat},(pre.all fun o=>!isW o.op)=true->k + pre.length<=p->p + 2<=T->opsD E (evC E 0) ⟨none,false⟩ ops n0 pre s=some s1->RunDP E ops T p n0 (k + pre.length) rest s1 K->RunDP E ops T p n0 k (pre++rest) s K
 | [],s,k,_,_,_,e,kk=>by injection e with e; subst e; exact kk
 | o::pre,s,k,hp,hT,hpT,e,kk=>by
  intro base Q w0 Z R0 h0 a w R hh0 hn0 sr hgr st hpre hops q
  simp only [List.all_cons,Bool.and_eq_true,Bool.not_eq_true'] at hp
  obtain ⟨hW,hp⟩:=hp
  obtain ⟨s2,e1,e2⟩:=Yj hW e
  have hok:ops[k]? = some o:=by have:=hops 0; simpa using this.symm
  have hops':∀ j,(pre++rest)[j]? = ops[k + 1 + j]?:=fun j=>by have:=hops (j + 1); simpa [Nat.add_assoc,Nat.add_comm 1 j] using this
  have hk1:k + 1 + pre.length=k + (o::pre).length:=by simp; omega
  have kk':RunDP E ops T p n0 (k + 1 + pre.length) rest s1 K:=by rw [hk1]; exact kk
  simp only [List.length_cons] at hT
  show Px E.P ops _ _ _ Q p k (o::(pre++rest)) a w
  unfold Px
  rw [if_neg (by omega)]
  refine ⟨fun _=>hgr,?_⟩
  refine Op1.d (Ks:=fun s=>s=s2) hE hW (by omega) e1 rfl base _ w0 Z R0 h0 a w R hh0 hn0 sr hgr st hpre hok fun s' a' w' R' hs sr' hg' st' hp'=>?_
  subst hs
  exact Rq hE hp (by omega) hpT e2 kk' base Q w0 Z R0 h0 a' w' R' hh0 hn0 sr' hg' st' hp' hops' q
theorem XL (hE:EnvOk E) (m:Nat){s:St}(l:List (Nat×AV)) (hp:Hp) (hw:(((rest.take m).all fun o=>!isW o.op)&&Nat.ble (k + (rest.take m).length) p&&Nat.ble (p + 2) T)=true) (h:UX (opsD E (evC E 0) ⟨none,false⟩ ops n0 (rest.take m) s) l=some (n,xs2 l,hp)) (kk:RunDP E ops T p n0 (k + (rest.take m).length) (rest.drop m) ⟨Fr n l,hp⟩ K):RunDP E ops T p n0 k rest s K:=by
 obtain ⟨fr,h1,h2,h3⟩:=JU h
 simp only [Bool.and_eq_true] at hw
 have:=Rq (k:=k) (T:=T) (p:=p) (pre:=rest.take m) (rest:=rest.drop m) hE hw.1.1 (Nat.le_of_ble_eq_true hw.1.2) (Nat.le_of_ble_eq_true hw.2) h1 (fun base Q w0 Z R0 h0 a w R a1 a2 sr a5 a6 a7 a8 q=>kk base Q w0 Z R0 h0 a w R a1 a2 (sr.forget h2 h3) a5 a6 a7 a8 q)
 rwa [List.take_append_drop] at this
theorem RunDP.one (hE:EnvOk E) (hr:rest=o::rest') (hW:(!isW o.op&&Nat.blt k p&&Nat.ble (p + 2) T)=true) (h:opsD E (evC E 0) ⟨none,false⟩ ops n0 [o] s=some s1) (kk:RunDP E ops T p n0 (k + 1) rest' s1 K):RunDP E ops T p n0 k rest s K:=by
 subst hr
 simp only [Bool.and_eq_true] at hW
 exact Rq (k:=k) hE (pre:=[o]) (by simpa using hW.1.1) (by have:=Nat.le_of_ble_eq_true hW.1.2; simpa using this) (Nat.le_of_ble_eq_true hW.2) h kk
/-- The two, in both orders. -/
theorem RunDP.two {o1 o2:Oper}(hr:rest=o1::o2::rest') (hA:Op1 E ops T n0 p o1 s fun s1=>Op1 E ops T n0 (p + 1) o2 s1 fun s2=>RunDX E ops T n0 (p + 2) rest' s2 K) (hB:Op1 E ops T n0 (p + 1) o2 s fun s1=>Op1 E ops T n0 p o1 s1 fun s2=>RunDX E ops T n0 (p + 2) rest' s2 K):RunDP E ops T p n0 p rest s K:=by
 subst hr
 intro base Q w0 Z R0 h0 a w R hh0 hn0 sr hgr st hpre hops q
 have hk1:ops[p]? = some o1:=by have:=hops 0; simpa using this.symm
 have hk2:ops[p + 1]? = some o2:=by have:=hops 1; simpa using this.symm
 have hops':∀ j,rest'[j]? = ops[p + 2 + j]?:=fun j=>by have:=hops (j + 2); rw [show p + 2 + j=p + (j + 2) by omega]; simpa using this
 unfold Px
 rw [if_pos rfl]
 refine ⟨hgr,?_,?_⟩
 ·refine hA base _ w0 Z R0 h0 a w R hh0 hn0 sr hgr st hpre hk1 fun s1 a1 w1 R1 h1 sr1 hg1 st1 hp1=>⟨hg1,?_⟩
  exact h1 base _ w0 Z R0 h0 a1 w1 R1 hh0 hn0 sr1 hg1 st1 hp1 hk2 fun s2 a2 w2 R2 h2 sr2 hg2 st2 hp2=>h2 base Q w0 Z R0 h0 a2 w2 R2 hh0 hn0 sr2 hg2 st2 hp2 hops' q
 ·refine hB base _ w0 Z R0 h0 a w R hh0 hn0 sr hgr st hpre hk2 fun s1 a1 w1 R1 h1 sr1 hg1 st1 hp1=>⟨hg1,?_⟩
  exact h1 base _ w0 Z R0 h0 a1 w1 R1 hh0 hn0 sr1 hg1 st1 hp1 hk1 fun s2 a2 w2 R2 h2 sr2 hg2 st2 hp2=>h2 base Q w0 Z R0 h0 a2 w2 R2 hh0 hn0 sr2 hg2 st2 hp2 hops' q
end
noncomputable def G5:Code:=BG Tryz.f92
def Be (xs:List (List UInt8)):Option Blk:=some ⟨1,9,xs.map cdS.enc,false⟩
set_option maxRecDepth 100000 in
theorem If (xs:List (List UInt8)) (hc:Gf 16 xs.length=true):Sem E0 ⟨none,false⟩ G5 ⟨Fr 8 [(0,.sl 1 (xs.map cdS.enc))],[]⟩ fun e s'=>(e = .normal\/e = .ret)/\((xs=[]/\s'=⟨Fr 8 [(2,.e0)],[]⟩)\/s'=⟨Fr 8 [(2,.rf 0 0 xs.length xs.length)],[Be xs]⟩):=by
 refine AF ?_
 refine AK (s1:=⟨Fr 8 [(0,.sl 1 (xs.map cdS.enc)),(2,.e0)],[]⟩) ?_ ?_
 ·refine MW AC 1 (s1:=⟨Fr 8 [(0,.sl 1 (xs.map cdS.enc)),(2,.e0)],[]⟩) (by kernel_rfl) ?_
  exact AI rfl AL
 refine AF ?_
 refine AF (We ?_)
 refine MW AC 1 (s1:=⟨Fr 8 [(0,.sl 1 (xs.map cdS.enc)),(2,.e0),(3,.sl 1 (xs.map cdS.enc))],[]⟩) (by kernel_rfl) ?_
 refine XM (k:=1) (el:=9) (es:=xs.map cdS.enc) rfl (AB rfl) (by kernel_rfl) (by kernel_rfl) fun b hb=>AI rfl ?_
 have hb:b=true->xs=[]:=fun h=>List.map_eq_nil_iff.1 (hb h)
 refine AP (b:=b) (by kernel_rfl) (fun hb1=>?_) (fun hb1=>?_)
 ·have hx:=hb hb1
  refine An ?_
  refine AF (AK (s1:=⟨Fr 8 [(2,.e0)],[]⟩) ?_ (AQ ?_))
  ·refine MW AC 1 (s1:=⟨Fr 8 [(0,.sl 1 (xs.map cdS.enc)),(2,.e0),(3,.sl 1 (xs.map cdS.enc)),(4,.v (.bool b))],[]⟩) (by kernel_rfl) ?_
   exact AI rfl AL
  ·exact ⟨_,Wk.refl,.inr rfl,.inl ⟨hx,rfl⟩⟩
 ·refine AS ?_
  refine An (AF (We ?_))
  refine MW AC 2 (s1:=⟨Fr 8 [(0,.sl 1 (xs.map cdS.enc)),(2,.e0),(3,.sl 1 (xs.map cdS.enc)),(4,.v (.bool b)),(5,.rf 0 0 0 0),(6,.sl 1 (xs.map cdS.enc))],[Be []]⟩) (by kernel_rfl) ?_
  cases xs with
  | nil =>
   refine AR AC 0 rfl (Xe (x:= .rf 0 0 0 0) (hp':=[Be []]) (AB rfl) rfl (by kernel_rfl) (by kernel_rfl) (by kernel_rfl)) ?_
   refine MW AC 1 (s1:=⟨Fr 8 [(0,.sl 1 []),(2,.rf 0 0 0 0),(3,.sl 1 []),(4,.v (.bool b)),(5,.rf 0 0 0 0),(6,.sl 1 []),(7,.rf 0 0 0 0)],[Be []]⟩) (by kernel_rfl) (AI rfl (AQ ?_))
   exact ⟨⟨Fr 8 [(2,.rf 0 0 0 0)],[Be []]⟩,AL,.inr rfl,.inr rfl⟩
  | cons y ys =>
   refine AR AC 0 rfl (Xe (AB rfl) rfl (by kernel_rfl) (by kernel_rfl) (FE (a:= .rf 0 0 0 0) (b:= .sl 1 ((y::ys).map cdS.enc)) (by kernel_rfl) (by kernel_rfl) (PM (c:=cdS) (xs:=[]) (vs:=y::ys) (k:=1) (bytes:=16) (el:=9) (by kernel_rfl) (by kernel_rfl) ZT (List.cons_ne_nil _ _) (by kernel_rfl) (by rw [List.length_nil,Nat.zero_add]; exact hc)))) ?_
   refine MW AC 1 (s1:=⟨Fr 8 [(0,.sl 1 ((y::ys).map cdS.enc)),(2,.rf 1 0 (y::ys).length (y::ys).length),(3,.sl 1 ((y::ys).map cdS.enc)),(4,.v (.bool b)),(5,.rf 0 0 0 0),(6,.sl 1 ((y::ys).map cdS.enc)),(7,.rf 1 0 (y::ys).length (y::ys).length)],[none,Be (y::ys)]⟩) (by kernel_rfl) (AI rfl (AQ ?_))
   exact ⟨⟨Fr 8 [(2,.rf 0 0 (y::ys).length (y::ys).length)],[Be (y::ys)]⟩,Ad [1] ⟨⟨_,rfl,DO⟩,trivial⟩ ⟨lv,trivial⟩,.inr rfl,.inr rfl⟩
def Gn (xs:List (List UInt8)) (x:AV) (h':Hp):Prop:=(xs=[]/\x = .e0/\h'=[])\/(x = .rf 0 0 xs.length xs.length/\h'=[Be xs])
theorem HF (xs:List (List UInt8)) (hc:Gf 16 xs.length=true):SOk 92 [.sl 1 (xs.map cdS.enc)] (Gn xs):=by
 refine Xk AC rfl rfl (fn:=Tryz.f92) (c:=G5) (by kernel_rfl) (by kernel_rfl) ⟨Tryz.call92⟩ (by show 1<=8; decide) (Sem.mono (If xs hc) ?_)
 rintro e s' ⟨he,⟨hx,rfl⟩ | rfl⟩
 ·exact ⟨he,[.e0],by kernel_rfl,.inl ⟨hx,rfl,rfl⟩⟩
 ·exact ⟨he,[.rf 0 0 xs.length xs.length],by kernel_rfl,.inr ⟨rfl,rfl⟩⟩
theorem G6 {xs:List (List UInt8)}:∀ x h',Gn xs x h'->UP x=true/\VA h'=true:=by
 rintro x h' (⟨_,rfl,rfl⟩ | ⟨rfl,rfl⟩)
 ·exact ⟨rfl,rfl⟩
 ·refine ⟨rfl,?_⟩
  show (!false&&(xs.map cdS.enc).all NQ&&true)=true
  have:(xs.map cdS.enc).all NQ=true:=by
   rw [List.all_eq_true]
   intro x hx
   obtain ⟨y,_,rfl⟩:=List.mem_map.1 hx
   rfl
  rw [this]; rfl
def Q9:Cs (List (List UInt8)×Unit):=csC (cdL 1 cdS) csN
/- trestle/trestlelaw03.Copy -/
noncomputable def Mb:Code:=BG Tryz.f59
def FU (x0:(List AG)):Nat->(List AG)->Int->Option (((List AG)))
 | 0,_,_=>none
 | f + 1,c1,c2 =>
  if (decide (c2 < (x0.length:Int)))=true then
  (idx x0 c2).bind fun v4 =>
  if (Gf 16 v4.2.2.2.1.length)=true then
  if (Gf 16 (v4.2.2.2.1.length + 1))=true then
  if (Ns 0 (v4.2.2.2.1.length:Int) (v4.2.2.2.1++[[115,112,97,114,101]]).length)=true then
  if (Gf 64 (c1.length + 1))=true then
  FU x0 f (c1++[(v4.1,v4.2.1,v4.2.2.1,((v4.2.2.2.1++[[115,112,97,114,101]]).take ((v4.2.2.2.1.length:Int).toNat)),v4.2.2.2.2)]) (wr .i64 (c2 + 1))
  else none
  else none
  else none
  else none
  else
  some c1
def JK (x0:(List AG)):Option ((List AG)) :=
 (FU x0 100000 [] 0).bind fun r17 =>
 some r17
def Mf:Cs ((List AG)×Unit):=(csC (cdL 5 AA) csN)
def Mn (r:(List AG)):AV:=(cdL 5 AA).enc r
theorem RB (x0:(List AG)):∀ (f:Nat) (c1:(List AG)) (c2:Int) (r:((List AG))),FU x0 f c1 c2=some r->SemN E0 ⟨none,false⟩ (pc Mb [1,1,0,1,0,0]) f ⟨Fr 28 [(3,hd 0 (c1.map AA.enc)),(6,.sl 5 (x0.map AA.enc)),(7,.v (.int .i64 (x0.length:Int))),(8,.v (.int .i64 c2))],[mk 5 60 (c1.map AA.enc)]⟩ (fun e s=>e=(.exit 0)/\Wk E0 s ⟨Fr 28 [(3,hd 0 (r.map AA.enc))],[mk 5 60 (r.map AA.enc)]⟩):=by
 intro f;induction f with
 | zero=>intro c1 c2 r h; cases h
 | succ f ih0 =>
  intro c1 c2 r h
  have ih:=fun (c1:(List AG)) (c2:Int)=>ih0 c1 c2 r
  unfold FU at h;refine BR ?_;refine AJ AC [(3,hd 0 (c1.map AA.enc)),(6,.sl 5 (x0.map AA.enc)),(7,.v (.int .i64 (x0.length:Int))),(8,.v (.int .i64 c2)),(9,.v (.bool (decide (c2 < (x0.length:Int)))))] [mk 5 60 (c1.map AA.enc)] ?_;refine AF ?_;refine AP (b:=(decide (c2 < (x0.length:Int)))) kr (fun hb3=>?_) (fun hb3=>?_)
  ·rw [if_pos hb3] at h
   refine AS ?_;refine AF ?_;refine AZ ?_;refine AF ?_;obtain ⟨v4,hv4,h⟩:=OB h;refine AK (s1:=⟨Fr 28 [(3,hd 0 (c1.map AA.enc)),(5,.pt 1 0 0),(6,.sl 5 (x0.map AA.enc)),(7,.v (.int .i64 (x0.length:Int))),(8,.v (.int .i64 c2))],[mk 5 60 (c1.map AA.enc),some ⟨5,60,[.ag [.v (.int .u8 v4.1),.st v4.2.1,.v (.bool v4.2.2.1),.sl 1 (v4.2.2.2.1.map cdS.enc),.v (.int .i64 v4.2.2.2.2)]],false⟩]⟩) ?_ ?_
   ·refine AR AC 0 rfl (C7 (AB rfl) rfl (AO (a:= .sl 5 (x0.map AA.enc)) (b:= .v (.int .i64 c2)) kr kr (Dn (e:=AA.enc) (el:=60) (k:=5) (ki:= .i64) kr kr hv4))) ?_
    exact AW AC
   refine AF ?_;by_cases hk5:(Gf 16 v4.2.2.2.1.length)=true
   case neg=>rw [if_neg hk5] at h; cases h
   rw [if_pos hk5] at h;by_cases hk6:(Gf 16 (v4.2.2.2.1.length + 1))=true
   case neg=>rw [if_neg hk6] at h; cases h
   rw [if_pos hk6] at h;by_cases hk7:(Ns 0 (v4.2.2.2.1.length:Int) (v4.2.2.2.1++[[115,112,97,114,101]]).length)=true
   case neg=>rw [if_neg hk7] at h; cases h
   rw [if_pos hk7] at h;refine Xw (s1:=⟨Fr 28 [(3,hd 0 (c1.map AA.enc)),(5,.pt 1 0 0),(6,.sl 5 (x0.map AA.enc)),(7,.v (.int .i64 (x0.length:Int))),(8,.v (.int .i64 c2))],[mk 5 60 (c1.map AA.enc),some ⟨5,60,[.ag [.v (.int .u8 v4.1),.st v4.2.1,.v (.bool v4.2.2.1),.rf 2 0 ((v4.2.2.2.1.length:Int).toNat) ((v4.2.2.2.1++[[115,112,97,114,101]]).length),.v (.int .i64 v4.2.2.2.2)]],false⟩,some ⟨1,9,((v4.2.2.2.1++[[115,112,97,114,101]]).map cdS.enc),false⟩]⟩) AC 10 2 kr kr ?_ ?_
   ·refine XL (n:=28) AC 2 [(3,hd 0 (c1.map AA.enc)),(5,.pt 1 0 0),(6,.sl 5 (x0.map AA.enc)),(7,.v (.int .i64 (x0.length:Int))),(8,.v (.int .i64 c2)),(13,.sl 1 (v4.2.2.2.1.map cdS.enc))] [mk 5 60 (c1.map AA.enc),some ⟨5,60,[.ag [.v (.int .u8 v4.1),.st v4.2.1,.v (.bool v4.2.2.1),.sl 1 (v4.2.2.2.1.map cdS.enc),.v (.int .i64 v4.2.2.2.2)]],false⟩] kr kr ?_
    refine RunDP.two rfl ?_ ?_
    ·refine Ut rfl rfl (HF v4.2.2.2.1 hk5) rfl (AB rfl) kr (xs:=[.sl 1 (v4.2.2.2.1.map cdS.enc)]) kr kr G6 ?_
     rintro x h' (⟨hx,rfl,rfl⟩ | ⟨rfl,rfl⟩)
     ·rw [hx]
      refine Vs (n:=28) AC [(3,hd 0 (c1.map AA.enc)),(5,.pt 1 0 0),(6,.sl 5 (x0.map AA.enc)),(7,.v (.int .i64 (x0.length:Int))),(8,.v (.int .i64 c2)),(13,.sl 1 (([]:List (List UInt8)).map cdS.enc)),(14,.e0),(15,hd 2 ([[115,112,97,114,101]].map cdS.enc))] [mk 5 60 (c1.map AA.enc),some ⟨5,60,[.ag [.v (.int .u8 v4.1),.st v4.2.1,.v (.bool v4.2.2.1),.sl 1 (([]:List (List UInt8)).map cdS.enc),.v (.int .i64 v4.2.2.2.2)]],false⟩,mk 1 9 ([[115,112,97,114,101]].map cdS.enc)] kr kr ?_;refine RunDX.append AC rfl (AB rfl) rfl rfl (FE (a:= .e0) (b:=hd 2 ([[115,112,97,114,101]].map cdS.enc)) kr kr (RX (c:=cdS) (vs:=[[115,112,97,114,101]]) (k:=1) (bytes:=16) (el:=9) kr kr (GK (t:=9) kr) (List.cons_ne_nil _ _) kr)) (FE (a:= .e0) (b:=hd 2 ([[115,112,97,114,101]].map cdS.enc)) kr kr (RX (c:=cdS) (vs:=[[115,112,97,114,101]]) (k:=1) (bytes:=16) (el:=9) kr kr (GK (t:=9) kr) (List.cons_ne_nil _ _) kr)) kr ?_;refine IF (n:=28) AC 2 [(3,hd 0 (c1.map AA.enc)),(5,.pt 1 0 0),(6,.sl 5 (x0.map AA.enc)),(7,.v (.int .i64 (x0.length:Int))),(8,.v (.int .i64 c2)),(16,hd 3 ([[115,112,97,114,101]].map cdS.enc)),(18,.sl 1 (([]:List (List UInt8)).map cdS.enc))] [mk 5 60 (c1.map AA.enc),some ⟨5,60,[.ag [.v (.int .u8 v4.1),.st v4.2.1,.v (.bool v4.2.2.1),.sl 1 (([]:List (List UInt8)).map cdS.enc),.v (.int .i64 v4.2.2.2.2)]],false⟩,mk 1 9 ([[115,112,97,114,101]].map cdS.enc),mk 1 9 ([[115,112,97,114,101]].map cdS.enc)] kr kr ?_;refine RunDX.one AC rfl kr (HK kr (AB rfl) rfl (Ck (a:= .sl 1 (([]:List (List UInt8)).map cdS.enc)) kr (Ba (el:=9) kr)) kr) ?_;refine IF (n:=28) AC 2 [(3,hd 0 (c1.map AA.enc)),(5,.pt 1 0 0),(6,.sl 5 (x0.map AA.enc)),(7,.v (.int .i64 (x0.length:Int))),(8,.v (.int .i64 c2)),(20,.rf 3 0 0 1),(21,.pt 1 0 3)] [mk 5 60 (c1.map AA.enc),some ⟨5,60,[.ag [.v (.int .u8 v4.1),.st v4.2.1,.v (.bool v4.2.2.1),.sl 1 (([]:List (List UInt8)).map cdS.enc),.v (.int .i64 v4.2.2.2.2)]],false⟩,mk 1 9 ([[115,112,97,114,101]].map cdS.enc),mk 1 9 ([[115,112,97,114,101]].map cdS.enc)] kr kr ?_
      refine OO rfl ?_;refine AD (n:=28) AC 1 [(3,hd 0 (c1.map AA.enc)),(5,.pt 1 0 0),(6,.sl 5 (x0.map AA.enc)),(7,.v (.int .i64 (x0.length:Int))),(8,.v (.int .i64 c2))] [mk 5 60 (c1.map AA.enc),some ⟨5,60,[.ag [.v (.int .u8 v4.1),.st v4.2.1,.v (.bool v4.2.2.1),.rf 3 0 0 1,.v (.int .i64 v4.2.2.2.2)]],false⟩,mk 1 9 ([[115,112,97,114,101]].map cdS.enc),mk 1 9 ([[115,112,97,114,101]].map cdS.enc)] kr ?_;exact AI rfl (Ad [0,1,3] ⟨⟨_,rfl,HH⟩,⟨_,rfl,Ga⟩,⟨_,rfl,DO⟩,trivial⟩ ⟨HJ (b':=0) kr kr,lv,lv,lv,lv,trivial⟩)
     ·refine Vs (n:=28) AC [(3,hd 0 (c1.map AA.enc)),(5,.pt 1 0 0),(6,.sl 5 (x0.map AA.enc)),(7,.v (.int .i64 (x0.length:Int))),(8,.v (.int .i64 c2)),(13,.sl 1 (v4.2.2.2.1.map cdS.enc)),(14,.rf 2 0 v4.2.2.2.1.length v4.2.2.2.1.length),(15,hd 3 ([[115,112,97,114,101]].map cdS.enc))] [mk 5 60 (c1.map AA.enc),some ⟨5,60,[.ag [.v (.int .u8 v4.1),.st v4.2.1,.v (.bool v4.2.2.1),.sl 1 (v4.2.2.2.1.map cdS.enc),.v (.int .i64 v4.2.2.2.2)]],false⟩,some ⟨1,9,(v4.2.2.2.1.map cdS.enc),false⟩,mk 1 9 ([[115,112,97,114,101]].map cdS.enc)] kr kr ?_
      refine RunDX.append AC rfl (AB rfl) rfl rfl (FE (a:= .rf 2 0 v4.2.2.2.1.length v4.2.2.2.1.length) (b:=hd 3 ([[115,112,97,114,101]].map cdS.enc)) kr kr (PM (c:=cdS) (xs:=v4.2.2.2.1) (vs:=[[115,112,97,114,101]]) (k:=1) (bytes:=16) (el:=9) kr kr (GK (t:=9) kr) (List.cons_ne_nil _ _) kr hk6)) (FE (a:= .rf 2 0 v4.2.2.2.1.length v4.2.2.2.1.length) (b:=hd 3 ([[115,112,97,114,101]].map cdS.enc)) kr kr (PM (c:=cdS) (xs:=v4.2.2.2.1) (vs:=[[115,112,97,114,101]]) (k:=1) (bytes:=16) (el:=9) kr kr (GK (t:=9) kr) (List.cons_ne_nil _ _) kr hk6)) kr ?_;refine IF (n:=28) AC 2 [(3,hd 0 (c1.map AA.enc)),(5,.pt 1 0 0),(6,.sl 5 (x0.map AA.enc)),(7,.v (.int .i64 (x0.length:Int))),(8,.v (.int .i64 c2)),(16,.rf 4 0 (v4.2.2.2.1++[[115,112,97,114,101]]).length (v4.2.2.2.1++[[115,112,97,114,101]]).length),(18,.sl 1 (v4.2.2.2.1.map cdS.enc))] [mk 5 60 (c1.map AA.enc),some ⟨5,60,[.ag [.v (.int .u8 v4.1),.st v4.2.1,.v (.bool v4.2.2.1),.sl 1 (v4.2.2.2.1.map cdS.enc),.v (.int .i64 v4.2.2.2.2)]],false⟩,none,mk 1 9 ([[115,112,97,114,101]].map cdS.enc),some ⟨1,9,((v4.2.2.2.1++[[115,112,97,114,101]]).map cdS.enc),false⟩] kr kr ?_;refine RunDX.one AC rfl kr (HK kr (AB rfl) rfl (Ck (a:= .sl 1 (v4.2.2.2.1.map cdS.enc)) kr (Ba (el:=9) kr)) kr) ?_;refine RunDX.one AC rfl kr (HK kr (AB rfl) rfl (SL (a:= .rf 4 0 (v4.2.2.2.1++[[115,112,97,114,101]]).length (v4.2.2.2.1++[[115,112,97,114,101]]).length) (l:=none) (u:=(some (.v (.int .i64 (v4.2.2.2.1.length:Int))))) (m:=none) kr kr kr rfl (XD (xs:=(v4.2.2.2.1++[[115,112,97,114,101]])) (e:=cdS.enc) (t':=9) (k:=1) (el:=9) kr kr kr hk7 (by simp))) kr) ?_;refine IF (n:=28) AC 1 [(3,hd 0 (c1.map AA.enc)),(5,.pt 1 0 0),(6,.sl 5 (x0.map AA.enc)),(7,.v (.int .i64 (x0.length:Int))),(8,.v (.int .i64 c2)),(20,.rf 4 0 ((v4.2.2.2.1.length:Int).toNat) ((v4.2.2.2.1++[[115,112,97,114,101]]).length)),(21,.pt 1 0 3)] [mk 5 60 (c1.map AA.enc),some ⟨5,60,[.ag [.v (.int .u8 v4.1),.st v4.2.1,.v (.bool v4.2.2.1),.sl 1 (v4.2.2.2.1.map cdS.enc),.v (.int .i64 v4.2.2.2.2)]],false⟩,none,mk 1 9 ([[115,112,97,114,101]].map cdS.enc),some ⟨1,9,((v4.2.2.2.1++[[115,112,97,114,101]]).map cdS.enc),false⟩] kr kr ?_
      refine OO rfl ?_;refine AD (n:=28) AC 1 [(3,hd 0 (c1.map AA.enc)),(5,.pt 1 0 0),(6,.sl 5 (x0.map AA.enc)),(7,.v (.int .i64 (x0.length:Int))),(8,.v (.int .i64 c2))] [mk 5 60 (c1.map AA.enc),some ⟨5,60,[.ag [.v (.int .u8 v4.1),.st v4.2.1,.v (.bool v4.2.2.1),.rf 4 0 ((v4.2.2.2.1.length:Int).toNat) ((v4.2.2.2.1++[[115,112,97,114,101]]).length),.v (.int .i64 v4.2.2.2.2)]],false⟩,none,mk 1 9 ([[115,112,97,114,101]].map cdS.enc),some ⟨1,9,((v4.2.2.2.1++[[115,112,97,114,101]]).map cdS.enc),false⟩] kr ?_;exact AI rfl (Ad [0,1,4] ⟨⟨_,rfl,HH⟩,⟨_,rfl,Ga⟩,⟨_,rfl,DO⟩,trivial⟩ ⟨HJ (b':=0) kr kr,lv,lv,lv,lv,trivial⟩)
    ·refine Vs (n:=28) AC [(3,hd 0 (c1.map AA.enc)),(5,.pt 1 0 0),(6,.sl 5 (x0.map AA.enc)),(7,.v (.int .i64 (x0.length:Int))),(8,.v (.int .i64 c2)),(13,.sl 1 (v4.2.2.2.1.map cdS.enc)),(15,hd 2 ([[115,112,97,114,101]].map cdS.enc))] [mk 5 60 (c1.map AA.enc),some ⟨5,60,[.ag [.v (.int .u8 v4.1),.st v4.2.1,.v (.bool v4.2.2.1),.sl 1 (v4.2.2.2.1.map cdS.enc),.v (.int .i64 v4.2.2.2.2)]],false⟩,mk 1 9 ([[115,112,97,114,101]].map cdS.enc)] kr kr ?_
     have hk10:=hk5
     refine Ut rfl rfl (HF v4.2.2.2.1 hk10) rfl (AB rfl) kr (xs:=[.sl 1 (v4.2.2.2.1.map cdS.enc)]) kr kr G6 ?_;rintro x h' (⟨hx,rfl,rfl⟩ | ⟨rfl,rfl⟩)
     ·rw [hx]
      refine RunDX.append AC rfl (AB rfl) rfl rfl (FE (a:= .e0) (b:=hd 2 ([[115,112,97,114,101]].map cdS.enc)) kr kr (RX (c:=cdS) (vs:=[[115,112,97,114,101]]) (k:=1) (bytes:=16) (el:=9) kr kr (GK (t:=9) kr) (List.cons_ne_nil _ _) kr)) (FE (a:= .e0) (b:=hd 2 ([[115,112,97,114,101]].map cdS.enc)) kr kr (RX (c:=cdS) (vs:=[[115,112,97,114,101]]) (k:=1) (bytes:=16) (el:=9) kr kr (GK (t:=9) kr) (List.cons_ne_nil _ _) kr)) kr ?_;refine IF (n:=28) AC 2 [(3,hd 0 (c1.map AA.enc)),(5,.pt 1 0 0),(6,.sl 5 (x0.map AA.enc)),(7,.v (.int .i64 (x0.length:Int))),(8,.v (.int .i64 c2)),(16,hd 3 ([[115,112,97,114,101]].map cdS.enc)),(18,.sl 1 (([]:List (List UInt8)).map cdS.enc))] [mk 5 60 (c1.map AA.enc),some ⟨5,60,[.ag [.v (.int .u8 v4.1),.st v4.2.1,.v (.bool v4.2.2.1),.sl 1 (([]:List (List UInt8)).map cdS.enc),.v (.int .i64 v4.2.2.2.2)]],false⟩,mk 1 9 ([[115,112,97,114,101]].map cdS.enc),mk 1 9 ([[115,112,97,114,101]].map cdS.enc)] kr kr ?_;refine RunDX.one AC rfl kr (HK kr (AB rfl) rfl (Ck (a:= .sl 1 (([]:List (List UInt8)).map cdS.enc)) kr (Ba (el:=9) kr)) kr) ?_;refine IF (n:=28) AC 2 [(3,hd 0 (c1.map AA.enc)),(5,.pt 1 0 0),(6,.sl 5 (x0.map AA.enc)),(7,.v (.int .i64 (x0.length:Int))),(8,.v (.int .i64 c2)),(20,.rf 3 0 0 1),(21,.pt 1 0 3)] [mk 5 60 (c1.map AA.enc),some ⟨5,60,[.ag [.v (.int .u8 v4.1),.st v4.2.1,.v (.bool v4.2.2.1),.sl 1 (([]:List (List UInt8)).map cdS.enc),.v (.int .i64 v4.2.2.2.2)]],false⟩,mk 1 9 ([[115,112,97,114,101]].map cdS.enc),mk 1 9 ([[115,112,97,114,101]].map cdS.enc)] kr kr ?_;refine OO rfl ?_;refine AD (n:=28) AC 1 [(3,hd 0 (c1.map AA.enc)),(5,.pt 1 0 0),(6,.sl 5 (x0.map AA.enc)),(7,.v (.int .i64 (x0.length:Int))),(8,.v (.int .i64 c2))] [mk 5 60 (c1.map AA.enc),some ⟨5,60,[.ag [.v (.int .u8 v4.1),.st v4.2.1,.v (.bool v4.2.2.1),.rf 3 0 0 1,.v (.int .i64 v4.2.2.2.2)]],false⟩,mk 1 9 ([[115,112,97,114,101]].map cdS.enc),mk 1 9 ([[115,112,97,114,101]].map cdS.enc)] kr ?_
      exact AI rfl (Ad [0,1,3] ⟨⟨_,rfl,HH⟩,⟨_,rfl,Ga⟩,⟨_,rfl,DO⟩,trivial⟩ ⟨HJ (b':=0) kr kr,lv,lv,lv,lv,trivial⟩)
     ·have hk11:=hk6
      refine RunDX.append AC rfl (AB rfl) rfl rfl (FE (a:= .rf 3 0 v4.2.2.2.1.length v4.2.2.2.1.length) (b:=hd 2 ([[115,112,97,114,101]].map cdS.enc)) kr kr (PM (c:=cdS) (xs:=v4.2.2.2.1) (vs:=[[115,112,97,114,101]]) (k:=1) (bytes:=16) (el:=9) kr kr (GK (t:=9) kr) (List.cons_ne_nil _ _) kr hk11)) (FE (a:= .rf 3 0 v4.2.2.2.1.length v4.2.2.2.1.length) (b:=hd 2 ([[115,112,97,114,101]].map cdS.enc)) kr kr (PM (c:=cdS) (xs:=v4.2.2.2.1) (vs:=[[115,112,97,114,101]]) (k:=1) (bytes:=16) (el:=9) kr kr (GK (t:=9) kr) (List.cons_ne_nil _ _) kr hk11)) kr ?_;refine IF (n:=28) AC 2 [(3,hd 0 (c1.map AA.enc)),(5,.pt 1 0 0),(6,.sl 5 (x0.map AA.enc)),(7,.v (.int .i64 (x0.length:Int))),(8,.v (.int .i64 c2)),(16,.rf 4 0 (v4.2.2.2.1++[[115,112,97,114,101]]).length (v4.2.2.2.1++[[115,112,97,114,101]]).length),(18,.sl 1 (v4.2.2.2.1.map cdS.enc))] [mk 5 60 (c1.map AA.enc),some ⟨5,60,[.ag [.v (.int .u8 v4.1),.st v4.2.1,.v (.bool v4.2.2.1),.sl 1 (v4.2.2.2.1.map cdS.enc),.v (.int .i64 v4.2.2.2.2)]],false⟩,mk 1 9 ([[115,112,97,114,101]].map cdS.enc),none,some ⟨1,9,((v4.2.2.2.1++[[115,112,97,114,101]]).map cdS.enc),false⟩] kr kr ?_;refine RunDX.one AC rfl kr (HK kr (AB rfl) rfl (Ck (a:= .sl 1 (v4.2.2.2.1.map cdS.enc)) kr (Ba (el:=9) kr)) kr) ?_
      have hk12:=hk7
      refine RunDX.one AC rfl kr (HK kr (AB rfl) rfl (SL (a:= .rf 4 0 (v4.2.2.2.1++[[115,112,97,114,101]]).length (v4.2.2.2.1++[[115,112,97,114,101]]).length) (l:=none) (u:=(some (.v (.int .i64 (v4.2.2.2.1.length:Int))))) (m:=none) kr kr kr rfl (XD (xs:=(v4.2.2.2.1++[[115,112,97,114,101]])) (e:=cdS.enc) (t':=9) (k:=1) (el:=9) kr kr kr hk12 (by simp))) kr) ?_;refine IF (n:=28) AC 1 [(3,hd 0 (c1.map AA.enc)),(5,.pt 1 0 0),(6,.sl 5 (x0.map AA.enc)),(7,.v (.int .i64 (x0.length:Int))),(8,.v (.int .i64 c2)),(20,.rf 4 0 ((v4.2.2.2.1.length:Int).toNat) ((v4.2.2.2.1++[[115,112,97,114,101]]).length)),(21,.pt 1 0 3)] [mk 5 60 (c1.map AA.enc),some ⟨5,60,[.ag [.v (.int .u8 v4.1),.st v4.2.1,.v (.bool v4.2.2.1),.sl 1 (v4.2.2.2.1.map cdS.enc),.v (.int .i64 v4.2.2.2.2)]],false⟩,mk 1 9 ([[115,112,97,114,101]].map cdS.enc),none,some ⟨1,9,((v4.2.2.2.1++[[115,112,97,114,101]]).map cdS.enc),false⟩] kr kr ?_;refine OO rfl ?_;refine AD (n:=28) AC 1 [(3,hd 0 (c1.map AA.enc)),(5,.pt 1 0 0),(6,.sl 5 (x0.map AA.enc)),(7,.v (.int .i64 (x0.length:Int))),(8,.v (.int .i64 c2))] [mk 5 60 (c1.map AA.enc),some ⟨5,60,[.ag [.v (.int .u8 v4.1),.st v4.2.1,.v (.bool v4.2.2.1),.rf 4 0 ((v4.2.2.2.1.length:Int).toNat) ((v4.2.2.2.1++[[115,112,97,114,101]]).length),.v (.int .i64 v4.2.2.2.2)]],false⟩,mk 1 9 ([[115,112,97,114,101]].map cdS.enc),none,some ⟨1,9,((v4.2.2.2.1++[[115,112,97,114,101]]).map cdS.enc),false⟩] kr ?_;exact AI rfl (Ad [0,1,4] ⟨⟨_,rfl,HH⟩,⟨_,rfl,Ga⟩,⟨_,rfl,DO⟩,trivial⟩ ⟨HJ (b':=0) kr kr,lv,lv,lv,lv,trivial⟩)
   by_cases hk15:(Gf 64 (c1.length + 1))=true
   case neg=>rw [if_neg hk15] at h; cases h
   rw [if_pos hk15] at h;refine AK (s1:=⟨Fr 28 [(3,hd 0 ((c1++[(v4.1,v4.2.1,v4.2.2.1,((v4.2.2.2.1++[[115,112,97,114,101]]).take ((v4.2.2.2.1.length:Int).toNat)),v4.2.2.2.2)]).map AA.enc)),(6,.sl 5 (x0.map AA.enc)),(7,.v (.int .i64 (x0.length:Int))),(8,.v (.int .i64 c2))],[mk 5 60 ((c1++[(v4.1,v4.2.1,v4.2.2.1,((v4.2.2.2.1++[[115,112,97,114,101]]).take ((v4.2.2.2.1.length:Int).toNat)),v4.2.2.2.2)]).map AA.enc)]⟩) ?_ ?_
   ·refine AD (n:=28) AC 2 [(6,.sl 5 (x0.map AA.enc)),(7,.v (.int .i64 (x0.length:Int))),(8,.v (.int .i64 c2)),(22,hd 0 (c1.map AA.enc)),(23,.ag [.v (.int .u8 v4.1),.st v4.2.1,.v (.bool v4.2.2.1),.rf 2 0 ((v4.2.2.2.1.length:Int).toNat) ((v4.2.2.2.1++[[115,112,97,114,101]]).length),.v (.int .i64 v4.2.2.2.2)])] [mk 5 60 (c1.map AA.enc),some ⟨5,60,[.ag [.v (.int .u8 v4.1),.st v4.2.1,.v (.bool v4.2.2.1),.rf 2 0 ((v4.2.2.2.1.length:Int).toNat) ((v4.2.2.2.1++[[115,112,97,114,101]]).length),.v (.int .i64 v4.2.2.2.2)]],false⟩,some ⟨1,9,((v4.2.2.2.1++[[115,112,97,114,101]]).map cdS.enc),false⟩] kr ?_
    refine Xu (s1:=⟨Fr 28 [(6,.sl 5 (x0.map AA.enc)),(7,.v (.int .i64 (x0.length:Int))),(8,.v (.int .i64 c2)),(22,hd 0 (c1.map AA.enc)),(23,.ag [.v (.int .u8 v4.1),.st v4.2.1,.v (.bool v4.2.2.1),.sl 1 (((v4.2.2.2.1++[[115,112,97,114,101]]).take ((v4.2.2.2.1.length:Int).toNat)).map cdS.enc),.v (.int .i64 v4.2.2.2.2)])],[mk 5 60 (c1.map AA.enc),some ⟨5,60,[.ag [.v (.int .u8 v4.1),.st v4.2.1,.v (.bool v4.2.2.1),.sl 1 (((v4.2.2.2.1++[[115,112,97,114,101]]).take ((v4.2.2.2.1.length:Int).toNat)).map cdS.enc),.v (.int .i64 v4.2.2.2.2)]],false⟩,none]⟩) (ZD 2 (.inl kr) ⟨.inr (.inl rfl),.inr (.inr ⟨_,_,_,_,rfl,rfl,⟨(.inr ⟨_,_,rfl,rfl,⟨.inl rfl,.inl rfl,.inl rfl,AAc (c:=cdS) (xs:=(v4.2.2.2.1++[[115,112,97,114,101]])) (t:=9) kr (Nt hk7).2.2.2,.inl rfl,trivial⟩⟩),trivial⟩⟩),.inl rfl,trivial⟩ ⟨⟨.sl 5 (x0.map AA.enc),kr,(.inl (.inl rfl))⟩,⟨.v (.int .i64 (x0.length:Int)),kr,(.inl (.inl rfl))⟩,⟨.v (.int .i64 c2),kr,(.inl (.inl rfl))⟩,⟨hd 0 (c1.map AA.enc),kr,(.inl (.inl rfl))⟩,⟨.ag [.v (.int .u8 v4.1),.st v4.2.1,.v (.bool v4.2.2.1),.rf 2 0 ((v4.2.2.2.1.length:Int).toNat) ((v4.2.2.2.1++[[115,112,97,114,101]]).length),.v (.int .i64 v4.2.2.2.2)],kr,(.inr ⟨_,_,rfl,rfl,⟨.inl rfl,.inl rfl,.inl rfl,AAc (c:=cdS) (xs:=(v4.2.2.2.1++[[115,112,97,114,101]])) (t:=9) kr (Nt hk7).2.2.2,.inl rfl,trivial⟩⟩)⟩,trivial⟩) ?_;refine AD (n:=28) AC 1 [(6,.sl 5 (x0.map AA.enc)),(7,.v (.int .i64 (x0.length:Int))),(8,.v (.int .i64 c2)),(22,hd 0 (c1.map AA.enc)),(24,hd 3 ([(v4.1,v4.2.1,v4.2.2.1,((v4.2.2.2.1++[[115,112,97,114,101]]).take ((v4.2.2.2.1.length:Int).toNat)),v4.2.2.2.2)].map AA.enc))] [mk 5 60 (c1.map AA.enc),some ⟨5,60,[.ag [.v (.int .u8 v4.1),.st v4.2.1,.v (.bool v4.2.2.1),.sl 1 (((v4.2.2.2.1++[[115,112,97,114,101]]).take ((v4.2.2.2.1.length:Int).toNat)).map cdS.enc),.v (.int .i64 v4.2.2.2.2)]],false⟩,none,mk 5 60 ([(v4.1,v4.2.1,v4.2.2.1,((v4.2.2.2.1++[[115,112,97,114,101]]).take ((v4.2.2.2.1.length:Int).toNat)),v4.2.2.2.2)].map AA.enc)] kr ?_
    refine AR AC 0 rfl (Xe (AB rfl) rfl kr kr (FE (a:=hd 0 (c1.map AA.enc)) (b:=hd 3 ([(v4.1,v4.2.1,v4.2.2.1,((v4.2.2.2.1++[[115,112,97,114,101]]).take ((v4.2.2.2.1.length:Int).toNat)),v4.2.2.2.2)].map AA.enc)) kr kr (Kj (c:=AA) (xs:=c1) (vs:=[(v4.1,v4.2.1,v4.2.2.1,((v4.2.2.2.1++[[115,112,97,114,101]]).take ((v4.2.2.2.1.length:Int).toNat)),v4.2.2.2.2)]) (k:=5) (bytes:=64) (el:=60) kr kr (GK (t:=60) kr) (List.cons_ne_nil _ _) kr hk15))) ?_;refine AD (n:=28) AC 1 [(3,hd 4 ((c1++[(v4.1,v4.2.1,v4.2.2.1,((v4.2.2.2.1++[[115,112,97,114,101]]).take ((v4.2.2.2.1.length:Int).toNat)),v4.2.2.2.2)]).map AA.enc)),(6,.sl 5 (x0.map AA.enc)),(7,.v (.int .i64 (x0.length:Int))),(8,.v (.int .i64 c2))] [none,some ⟨5,60,[.ag [.v (.int .u8 v4.1),.st v4.2.1,.v (.bool v4.2.2.1),.sl 1 (((v4.2.2.2.1++[[115,112,97,114,101]]).take ((v4.2.2.2.1.length:Int).toNat)).map cdS.enc),.v (.int .i64 v4.2.2.2.2)]],false⟩,none,mk 5 60 ([(v4.1,v4.2.1,v4.2.2.1,((v4.2.2.2.1++[[115,112,97,114,101]]).take ((v4.2.2.2.1.length:Int).toNat)),v4.2.2.2.2)].map AA.enc),mk 5 60 ((c1++[(v4.1,v4.2.1,v4.2.2.1,((v4.2.2.2.1++[[115,112,97,114,101]]).take ((v4.2.2.2.1.length:Int).toNat)),v4.2.2.2.2)]).map AA.enc)] kr ?_;exact AI rfl (Ad [4] ⟨⟨_,rfl,HH⟩,trivial⟩ ⟨HJ (b':=4) kr kr,lv,lv,lv,trivial⟩)
   refine Cn AC [(3,hd 0 ((c1++[(v4.1,v4.2.1,v4.2.2.1,((v4.2.2.2.1++[[115,112,97,114,101]]).take ((v4.2.2.2.1.length:Int).toNat)),v4.2.2.2.2)]).map AA.enc)),(6,.sl 5 (x0.map AA.enc)),(7,.v (.int .i64 (x0.length:Int))),(8,.v (.int .i64 (wr .i64 (c2 + 1))))] [mk 5 60 ((c1++[(v4.1,v4.2.1,v4.2.2.1,((v4.2.2.2.1++[[115,112,97,114,101]]).take ((v4.2.2.2.1.length:Int).toNat)),v4.2.2.2.2)]).map AA.enc)] ?_;exact Ac (s1:=⟨Fr 28 [(3,hd 0 ((c1++[(v4.1,v4.2.1,v4.2.2.1,((v4.2.2.2.1++[[115,112,97,114,101]]).take ((v4.2.2.2.1.length:Int).toNat)),v4.2.2.2.2)]).map AA.enc)),(6,.sl 5 (x0.map AA.enc)),(7,.v (.int .i64 (x0.length:Int))),(8,.v (.int .i64 (wr .i64 (c2 + 1))))],[mk 5 60 ((c1++[(v4.1,v4.2.1,v4.2.2.1,((v4.2.2.2.1++[[115,112,97,114,101]]).take ((v4.2.2.2.1.length:Int).toNat)),v4.2.2.2.2)]).map AA.enc)]⟩) (Ad [0] ⟨⟨_,rfl,HH⟩,trivial⟩ ⟨HJ (b':=0) kr kr,lv,lv,lv,trivial⟩) (ih (c1++[(v4.1,v4.2.1,v4.2.2.1,((v4.2.2.2.1++[[115,112,97,114,101]]).take ((v4.2.2.2.1.length:Int).toNat)),v4.2.2.2.2)]) (wr .i64 (c2 + 1)) h)
  ·rw [BZ hb3] at h
   refine Bd ?_;have hq:=OI h; subst hq;exact ⟨rfl,(Ad [0] ⟨⟨_,rfl,HH⟩,trivial⟩ ⟨HJ (b':=0) kr kr,trivial⟩)⟩
theorem TP (x0:(List AG)) (r:(List AG)) (h:JK x0=some r):Sem E0 ⟨none,false⟩ Mb ⟨Fr 28 (A3 0 (Mf.enc (x0,()))),[]⟩ fun e s'=>(e = .normal\/e = .ret)/\∃ xs,EG E0.P s'.fr s'.hp Tryz.f59.results.toList=some xs/\EN xs=Mn r:=by
 unfold JK at h
 let p1:Nat×AV:=(0,.sl 5 (x0.map AA.enc))
 refine An (BP (s1:=⟨Fr 28 [p1],[]⟩) AL ?_);refine AJ AC [p1] [] ?_;refine AJ AC [p1,(3,.e0)] [] ?_;refine AF ?_;refine AF ?_
 let p2:Nat×AV:=(8,.v (.int .i64 0))
 let p3:Nat×AV:=(7,.v (.int .i64 (x0.length:Int)))
 let p4:Nat×AV:=(6,.sl 5 (x0.map AA.enc))
 refine AK (s1:=⟨Fr 28 [(3,.e0),p4,p3,p2],[]⟩) ?_ ?_
 ·refine AD (n:=28) AC 1 [(3,.e0),p4] [] kr ?_
  refine AR AC 0 rfl (C7 (AB rfl) rfl (Ck (a:= .sl 5 (x0.map AA.enc)) kr (Ba (el:=60) kr))) ?_;exact AW AC
 refine AZ ?_;obtain ⟨r17,hr17,h⟩:=OB h;refine Bj (n:=100000) ?_
 let p5:Nat×AV:=(3,hd 0 ([].map AA.enc))
 refine Aq (Ac (s1:=⟨Fr 28 [p5,p4,p3,p2],[mk 5 60 ([].map AA.enc)]⟩) (Wk.trans (s1:=⟨Fr 28 [p5,p4,p3,p2],[mk 5 60 ([].map AA.enc)]⟩) Wk.none (Ad [0] ⟨⟨_,rfl,MY⟩,trivial⟩ ⟨lv,lv,lv,lv,trivial⟩)) (RB x0 _ [] 0 _ hr17)) ?_;refine AJ AC [(2,hd 0 (r17.map AA.enc))] [mk 5 60 (r17.map AA.enc)] ?_;refine AQ ?_;have hq:=OI h; subst hq
 let p6:Nat×AV:=(2,.sl 5 (r17.map AA.enc))
 exact ⟨⟨Fr 28 [p6],[]⟩,(Wk.trans (s1:=⟨Fr 28 [p6],[none]⟩) (I4 0 (.inl kr) ⟨.inl rfl,trivial⟩ ⟨⟨hd 0 (r17.map AA.enc),kr,UF (t:=60) kr NM⟩,trivial⟩) (Ad [] trivial ⟨lv,trivial⟩)),.inr rfl,[.sl 5 (r17.map AA.enc)],kr,kr⟩
def VZ:List AV->Option AV:=Dx Mf (fun a=>JK a.1) Mn
theorem Vm:XOk 59 VZ:=by
 refine AU Tryz.func59 (c:=Mb) ?h2 ⟨Tryz.call59⟩ Mf (fun a=>JK a.1) Mn (fun a=>(by show 1<=28; decide)) ?h3 ?h4
 case h2=>kernel_rfl
 case h3=>intro b; kernel_rfl
 case h4=>exact fun a b h=>TP a.1 b h
/- trestle/trestlelaw03.CopyAll -/
noncomputable def Jv:Code:=BG Tryz.f91
def Dc (x0:(List (List AG))):Nat->(List (List AG))->Int->Option (((List (List AG))))
 | 0,_,_=>none
 | f + 1,c1,c2 =>
  if (decide (c2 < (x0.length:Int)))=true then
  (idx x0 c2).bind fun v4 =>
  (JK v4).bind fun v5 =>
  if (Gf 24 (c1.length + 1))=true then
  Dc x0 f (c1++[v5]) (wr .i64 (c2 + 1))
  else none
  else
  some c1
def G3 (x0:(List (List AG))):Option ((List (List AG))) :=
 (Dc x0 100000 [] 0).bind fun r8 =>
 some r8
def KC:Cs ((List (List AG))×Unit):=(csC (cdL 1 (cdL 5 AA)) csN)
def KX (r:(List (List AG))):AV:=(cdL 1 (cdL 5 AA)).enc r
theorem PB (x0:(List (List AG))):∀ (f:Nat) (c1:(List (List AG))) (c2:Int) (r:((List (List AG)))),Dc x0 f c1 c2=some r->SemN E0 ⟨none,false⟩ (pc Jv [1,1,0,1,0,0]) f ⟨Fr 19 [(3,hd 0 (c1.map (cdL 5 AA).enc)),(6,.sl 1 (x0.map (cdL 5 AA).enc)),(7,.v (.int .i64 (x0.length:Int))),(8,.v (.int .i64 c2))],[mk 1 22 (c1.map (cdL 5 AA).enc)]⟩ (fun e s=>e=(.exit 0)/\Wk E0 s ⟨Fr 19 [(3,hd 0 (r.map (cdL 5 AA).enc))],[mk 1 22 (r.map (cdL 5 AA).enc)]⟩):=by
 intro f;induction f with
 | zero=>intro c1 c2 r h; cases h
 | succ f ih0 =>
  intro c1 c2 r h
  have ih:=fun (c1:(List (List AG))) (c2:Int)=>ih0 c1 c2 r
  unfold Dc at h;refine BR ?_
  let p1:Option Blk:=mk 1 22 (c1.map (cdL 5 AA).enc)
  let p2:Nat×AV:=(8,.v (.int .i64 c2))
  let p3:Nat×AV:=(7,.v (.int .i64 (x0.length:Int)))
  let p4:Nat×AV:=(6,.sl 1 (x0.map (cdL 5 AA).enc))
  let p5:Nat×AV:=(3,hd 0 (c1.map (cdL 5 AA).enc))
  refine AJ AC [p5,p4,p3,p2,(9,.v (.bool (decide (c2 < (x0.length:Int)))))] [p1] ?_;refine AF ?_;refine AP (b:=(decide (c2 < (x0.length:Int)))) kr (fun hb3=>?_) (fun hb3=>?_)
  ·rw [if_pos hb3] at h
   refine AS ?_;refine AF ?_;refine AZ ?_;refine AF ?_;obtain ⟨v4,hv4,h⟩:=OB h;refine AK (s1:=⟨Fr 19 [p5,(5,.sl 5 (v4.map AA.enc)),p4,p3,p2],[p1]⟩) ?_ ?_
   ·refine AR AC 0 rfl (C7 (AB rfl) rfl (AO (a:= .sl 1 (x0.map (cdL 5 AA).enc)) (b:= .v (.int .i64 c2)) kr kr (Dn (e:=(cdL 5 AA).enc) (el:=22) (k:=1) (ki:= .i64) kr kr hv4))) ?_
    exact AW AC
   obtain ⟨v5,hv5,h⟩:=OB h;by_cases hk6:(Gf 24 (c1.length + 1))=true
   case neg=>rw [if_neg hk6] at h; cases h
   rw [if_pos hk6] at h
   let p6:Option Blk:=mk 1 22 ((c1++[v5]).map (cdL 5 AA).enc)
   let p7:Nat×AV:=(3,hd 0 ((c1++[v5]).map (cdL 5 AA).enc))
   refine AK (s1:=⟨Fr 19 [p7,p4,p3,p2],[p6]⟩) ?_ ?_
   ·let p8:Nat×AV:=(12,hd 0 (c1.map (cdL 5 AA).enc))
    refine AD (n:=19) AC 2 [p4,p3,p2,p8,(13,.sl 5 (v4.map AA.enc))] [p1] kr ?_;refine AT (caps:=[]) (xs:=[.sl 5 (v4.map AA.enc)]) (u:=(v4,())) rfl rfl Vm rfl (AB rfl) kr kr (AM (AX (c:=(cdL 5 AA)) (v:=v4)) Aj) (.inr kr) hv5 ?_
    let p9:Option Blk:=mk 1 22 ([v5].map (cdL 5 AA).enc)
    refine AD (n:=19) AC 1 [p4,p3,p2,p8,(15,hd 1 ([v5].map (cdL 5 AA).enc))] [p1,p9] kr ?_;refine AR AC 0 rfl (Xe (AB rfl) rfl kr kr (FE (a:=hd 0 (c1.map (cdL 5 AA).enc)) (b:=hd 1 ([v5].map (cdL 5 AA).enc)) kr kr (Kj (c:=(cdL 5 AA)) (xs:=c1) (vs:=[v5]) (k:=1) (bytes:=24) (el:=22) kr kr (GK (t:=22) kr) (List.cons_ne_nil _ _) kr hk6))) ?_;refine AD (n:=19) AC 1 [(3,hd 2 ((c1++[v5]).map (cdL 5 AA).enc)),p4,p3,p2] [none,p9,p6] kr ?_;exact AI rfl (Ad [2] ⟨⟨_,rfl,HH⟩,trivial⟩ ⟨HJ (b':=2) kr kr,lv,lv,lv,trivial⟩)
   let p10:Nat×AV:=(8,.v (.int .i64 (wr .i64 (c2 + 1))))
   refine Cn AC [p7,p4,p3,p10] [p6] ?_;exact Ac (s1:=⟨Fr 19 [p7,p4,p3,p10],[p6]⟩) (Ad [0] ⟨⟨_,rfl,HH⟩,trivial⟩ ⟨HJ (b':=0) kr kr,lv,lv,lv,trivial⟩) (ih (c1++[v5]) (wr .i64 (c2 + 1)) h)
  ·rw [BZ hb3] at h
   refine Bd ?_;have hq:=OI h; subst hq;exact ⟨rfl,(Ad [0] ⟨⟨_,rfl,HH⟩,trivial⟩ ⟨HJ (b':=0) kr kr,trivial⟩)⟩
theorem QT (x0:(List (List AG))) (r:(List (List AG))) (h:G3 x0=some r):Sem E0 ⟨none,false⟩ Jv ⟨Fr 19 (A3 0 (KC.enc (x0,()))),[]⟩ fun e s'=>(e = .normal\/e = .ret)/\∃ xs,EG E0.P s'.fr s'.hp Tryz.f91.results.toList=some xs/\EN xs=KX r:=by
 unfold G3 at h
 let p1:Nat×AV:=(0,.sl 1 (x0.map (cdL 5 AA).enc))
 refine An (BP (s1:=⟨Fr 19 [p1],[]⟩) AL ?_);refine AJ AC [p1] [] ?_;refine AJ AC [p1,(3,.e0)] [] ?_;refine AF ?_;refine AF ?_
 let p2:Nat×AV:=(8,.v (.int .i64 0))
 let p3:Nat×AV:=(7,.v (.int .i64 (x0.length:Int)))
 let p4:Nat×AV:=(6,.sl 1 (x0.map (cdL 5 AA).enc))
 refine AK (s1:=⟨Fr 19 [(3,.e0),p4,p3,p2],[]⟩) ?_ ?_
 ·refine AD (n:=19) AC 1 [(3,.e0),p4] [] kr ?_
  refine AR AC 0 rfl (C7 (AB rfl) rfl (Ck (a:= .sl 1 (x0.map (cdL 5 AA).enc)) kr (Ba (el:=22) kr))) ?_;exact AW AC
 refine AZ ?_;obtain ⟨r8,hr8,h⟩:=OB h;refine Bj (n:=100000) ?_
 let p5:Option Blk:=mk 1 22 ([].map (cdL 5 AA).enc)
 let p6:Nat×AV:=(3,hd 0 ([].map (cdL 5 AA).enc))
 refine Aq (Ac (s1:=⟨Fr 19 [p6,p4,p3,p2],[p5]⟩) (Wk.trans (s1:=⟨Fr 19 [p6,p4,p3,p2],[p5]⟩) Wk.none (Ad [0] ⟨⟨_,rfl,MY⟩,trivial⟩ ⟨lv,lv,lv,lv,trivial⟩)) (PB x0 _ [] 0 _ hr8)) ?_;refine AJ AC [(2,hd 0 (r8.map (cdL 5 AA).enc))] [mk 1 22 (r8.map (cdL 5 AA).enc)] ?_;refine AQ ?_;have hq:=OI h; subst hq
 let p7:Nat×AV:=(2,.sl 1 (r8.map (cdL 5 AA).enc))
 exact ⟨⟨Fr 19 [p7],[]⟩,(Wk.trans (s1:=⟨Fr 19 [p7],[none]⟩) (I4 0 (.inl kr) ⟨.inl rfl,trivial⟩ ⟨⟨hd 0 (r8.map (cdL 5 AA).enc),kr,UF (t:=22) kr NM⟩,trivial⟩) (Ad [] trivial ⟨lv,trivial⟩)),.inr rfl,[.sl 1 (r8.map (cdL 5 AA).enc)],kr,kr⟩
def Sp:List AV->Option AV:=Dx KC (fun a=>G3 a.1) KX
theorem TC:XOk 91 Sp:=by
 refine AU Tryz.func91 (c:=Jv) ?h2 ⟨Tryz.call91⟩ KC (fun a=>G3 a.1) KX (fun a=>(by show 1<=19; decide)) ?h3 ?h4
 case h2=>kernel_rfl
 case h3=>intro b; kernel_rfl
 case h4=>exact fun a b h=>QT a.1 b h
/- trestle/trestlekit.CopyWords -/
noncomputable def Jt:Code:=BG Tryz.f148
def EK (x0:(List (List UInt8))):Nat->(List (List UInt8))->Int->Option (((List (List UInt8))))
 | 0,_,_=>none
 | f + 1,c1,c2 =>
  if (decide (c2 < (x0.length:Int)))=true then
  (idx x0 c2).bind fun v4 =>
  if (Gf 16 (c1.length + 1))=true then
  EK x0 f (c1++[v4]) (wr .i64 (c2 + 1))
  else none
  else
  some c1
def Hf (x0:(List (List UInt8))):Option ((List (List UInt8))) :=
 (EK x0 200000000000000 [] 0).bind fun r7 =>
 some r7
def J9:Cs ((List (List UInt8))×Unit):=(csC (cdL 1 cdS) csN)
def KU (r:(List (List UInt8))):AV:=(cdL 1 cdS).enc r
theorem PA (x0:(List (List UInt8))):∀ (f:Nat) (c1:(List (List UInt8))) (c2:Int) (r:((List (List UInt8)))),EK x0 f c1 c2=some r->SemN E0 ⟨none,false⟩ (pc Jt [1,1,0,1,0,0]) f ⟨Fr 19 [(0,.sl 1 (x0.map cdS.enc)),(3,hd 0 (c1.map cdS.enc)),(4,.v (.int .i64 c2))],[mk 1 9 (c1.map cdS.enc)]⟩ (fun e s=>e=(.exit 0)/\Wk E0 s ⟨Fr 19 [(3,hd 0 (r.map cdS.enc))],[mk 1 9 (r.map cdS.enc)]⟩):=by
 intro f;induction f with
 | zero=>intro c1 c2 r h; cases h
 | succ f ih0 =>
  intro c1 c2 r h
  have ih:=fun (c1:(List (List UInt8))) (c2:Int)=>ih0 c1 c2 r
  unfold EK at h;refine BR ?_;refine AF ?_;refine AF ?_
  let p1:Option Blk:=mk 1 9 (c1.map cdS.enc)
  let p2:Nat×AV:=(4,.v (.int .i64 c2))
  let p3:Nat×AV:=(0,.sl 1 (x0.map cdS.enc))
  refine AK (s1:=⟨Fr 19 [p3,(3,hd 0 (c1.map cdS.enc)),p2,(8,.v (.bool (decide (c2 < (x0.length:Int)))))],[p1]⟩) ?_ ?_
  ·refine AD (n:=19) AC 2 [p3,(3,hd 0 (c1.map cdS.enc)),p2,(5,.v (.int .i64 c2)),(6,.sl 1 (x0.map cdS.enc))] [p1] kr ?_
   refine AR AC 0 rfl (C7 (AB rfl) rfl (Ck (a:= .sl 1 (x0.map cdS.enc)) kr (Ba (el:=9) kr))) ?_;exact AW AC
  refine AP (b:=(decide (c2 < (x0.length:Int)))) kr (fun hb3=>?_) (fun hb3=>?_)
  ·rw [if_pos hb3] at h
   refine AS ?_;refine AF ?_;refine AZ ?_;obtain ⟨v4,hv4,h⟩:=OB h;by_cases hk5:(Gf 16 (c1.length + 1))=true
   case neg=>rw [if_neg hk5] at h; cases h
   rw [if_pos hk5] at h
   let p4:Option Blk:=mk 1 9 ((c1++[v4]).map cdS.enc)
   let p5:Nat×AV:=(3,hd 0 ((c1++[v4]).map cdS.enc))
   refine AK (s1:=⟨Fr 19 [p3,p5,p2],[p4]⟩) ?_ ?_
   ·refine AD (n:=19) AC 3 [p3,p2,(11,hd 0 (c1.map cdS.enc)),(12,.sl 1 (x0.map cdS.enc)),(13,.v (.int .i64 c2))] [p1] kr ?_
    refine AR AC 0 rfl (C7 (AB rfl) rfl (AO (a:= .sl 1 (x0.map cdS.enc)) (b:= .v (.int .i64 c2)) kr kr (Dn (e:=cdS.enc) (el:=9) (k:=1) (ki:= .i64) kr kr hv4))) ?_;refine AD (n:=19) AC 2 [p3,p2,(11,hd 0 (c1.map cdS.enc)),(16,hd 1 ([v4].map cdS.enc))] [p1,mk 1 9 ([v4].map cdS.enc)] kr ?_;refine AR AC 0 rfl (Xe (AB rfl) rfl kr kr (FE (a:=hd 0 (c1.map cdS.enc)) (b:=hd 1 ([v4].map cdS.enc)) kr kr (Kj (c:=cdS) (xs:=c1) (vs:=[v4]) (k:=1) (bytes:=16) (el:=9) kr kr (GK (t:=9) kr) (List.cons_ne_nil _ _) kr hk5))) ?_;refine AD (n:=19) AC 1 [p3,(3,hd 2 ((c1++[v4]).map cdS.enc)),p2] [none,mk 1 9 ([v4].map cdS.enc),p4] kr ?_;exact AI rfl (Ad [2] ⟨⟨_,rfl,HH⟩,trivial⟩ ⟨lv,HJ (b':=2) kr kr,lv,trivial⟩)
   let p6:Nat×AV:=(4,.v (.int .i64 (wr .i64 (c2 + 1))))
   refine Cn AC [p3,p5,p6] [p4] ?_;exact Ac (s1:=⟨Fr 19 [p3,p5,p6],[p4]⟩) (Ad [0] ⟨⟨_,rfl,HH⟩,trivial⟩ ⟨lv,HJ (b':=0) kr kr,lv,trivial⟩) (ih (c1++[v4]) (wr .i64 (c2 + 1)) h)
  ·rw [BZ hb3] at h
   refine Bd ?_;have hq:=OI h; subst hq;exact ⟨rfl,(Ad [0] ⟨⟨_,rfl,HH⟩,trivial⟩ ⟨HJ (b':=0) kr kr,trivial⟩)⟩
theorem QQ (x0:(List (List UInt8))) (r:(List (List UInt8))) (h:Hf x0=some r):Sem E0 ⟨none,false⟩ Jt ⟨Fr 19 (A3 0 (J9.enc (x0,()))),[]⟩ fun e s'=>(e = .normal\/e = .ret)/\∃ xs,EG E0.P s'.fr s'.hp Tryz.f148.results.toList=some xs/\EN xs=KU r:=by
 unfold Hf at h
 let p1:Nat×AV:=(0,.sl 1 (x0.map cdS.enc))
 refine An (BP (s1:=⟨Fr 19 [p1],[]⟩) AL ?_);refine AJ AC [p1] [] ?_;refine AJ AC [p1,(3,.e0)] [] ?_;refine AF ?_
 let p2:Nat×AV:=(4,.v (.int .i64 0))
 refine AJ AC [p1,(3,.e0),p2] [] ?_;refine AZ ?_;obtain ⟨r7,hr7,h⟩:=OB h;refine Bj (n:=200000000000000) ?_;refine Aq (Ac (s1:=⟨Fr 19 [p1,(3,hd 0 ([].map cdS.enc)),p2],[mk 1 9 ([].map cdS.enc)]⟩) (Wk.trans (s1:=⟨Fr 19 [p1,(3,hd 0 ([].map cdS.enc)),p2],[mk 1 9 ([].map cdS.enc)]⟩) Wk.none (Ad [0] ⟨⟨_,rfl,MY⟩,trivial⟩ ⟨lv,lv,lv,trivial⟩)) (PA x0 _ [] 0 _ hr7)) ?_;refine AJ AC [(2,hd 0 (r7.map cdS.enc))] [mk 1 9 (r7.map cdS.enc)] ?_;refine AQ ?_;have hq:=OI h; subst hq;exact ⟨⟨Fr 19 [(2,.sl 1 (r7.map cdS.enc))],[]⟩,(Wk.trans (s1:=⟨Fr 19 [(2,.sl 1 (r7.map cdS.enc))],[none]⟩) (I4 0 (.inl kr) ⟨.inl rfl,trivial⟩ ⟨⟨hd 0 (r7.map cdS.enc),kr,UF (t:=9) kr NM⟩,trivial⟩) (Ad [] trivial ⟨lv,trivial⟩)),.inr rfl,[.sl 1 (r7.map cdS.enc)],kr,kr⟩
def Sj:List AV->Option AV:=Dx J9 (fun a=>Hf a.1) KU
theorem S9:XOk 148 Sj:=by
 refine AU Tryz.func148 (c:=Jt) ?h2 ⟨Tryz.call148⟩ J9 (fun a=>Hf a.1) KU (fun a=>(by show 1<=19; decide)) ?h3 ?h4
 case h2=>kernel_rfl
 case h3=>intro b; kernel_rfl
 case h4=>exact fun a b h=>QQ a.1 b h
/- trestle/trestlekit.CopyGuest -/
noncomputable def NF:Code:=BG Tryz.f114
def Gy (x0:Ai):Option (Ai) :=
 (Hf x0.2.2.2.2.2.2.2.2).bind fun v1 =>
 some (x0.1,x0.2.1,x0.2.2.1,x0.2.2.2.1,x0.2.2.2.2.1,x0.2.2.2.2.2.1,x0.2.2.2.2.2.2.1,x0.2.2.2.2.2.2.2.1,v1)
def J8:Cs (Ai×Unit):=(csC AE csN)
def KT (r:Ai):AV:=AE.enc r
theorem QP (x0:Ai) (r:Ai) (h:Gy x0=some r):Sem E0 ⟨none,false⟩ NF ⟨Fr 8 (A3 0 (J8.enc (x0,()))),[]⟩ fun e s'=>(e = .normal\/e = .ret)/\∃ xs,EG E0.P s'.fr s'.hp Tryz.f114.results.toList=some xs/\EN xs=KT r:=by
 unfold Gy at h;refine An (BP (s1:=⟨Fr 8 [(0,AE.enc x0)],[]⟩) AL ?_)
 let p1:Option Blk:=some ⟨9,42,[.ag [.st [],.st [],.st [],.v (.int .i64 0),.v (.int .i64 0),.st [],.v (.bool false),.v (.bool false),.e0]],false⟩
 let p2:Option Blk:=some ⟨9,42,[AE.enc x0],false⟩
 let p3:Nat×AV:=(2,.pt 1 0 0)
 refine AJ AC [(1,.pt 0 0 0),p3] [p2,p1] ?_;refine AF ?_;obtain ⟨v1,hv1,h⟩:=OB h
 let p4:Option Blk:=some ⟨9,42,[.ag [.st x0.1,.st x0.2.1,.st x0.2.2.1,.v (.int .i64 x0.2.2.2.1),.v (.int .i64 x0.2.2.2.2.1),.st x0.2.2.2.2.2.1,.v (.bool x0.2.2.2.2.2.2.1),.v (.bool x0.2.2.2.2.2.2.2.1),.sl 1 (v1.map cdS.enc)]],false⟩
 refine AK (s1:=⟨Fr 8 [(1,.pt 0 0 0),p3],[p4,p1]⟩) ?_ ?_
 ·refine AD (n:=8) AC 2 [(1,.pt 0 0 0),p3,(4,.sl 1 (x0.2.2.2.2.2.2.2.2.map cdS.enc))] [p2,p1] kr ?_
  refine AT (caps:=[]) (xs:=[.sl 1 (x0.2.2.2.2.2.2.2.2.map cdS.enc)]) (u:=(x0.2.2.2.2.2.2.2.2,())) rfl rfl S9 rfl (AB rfl) kr kr (AM (AX (c:=(cdL 1 cdS)) (v:=x0.2.2.2.2.2.2.2.2)) Aj) (.inr kr) hv1 ?_;exact AW AC
 refine AF ?_;refine AK (s1:=⟨Fr 8 [(2,.pt 0 0 0)],[p4]⟩) ?_ ?_
 ·refine AD (n:=8) AC 2 [p3] [p4,p4] kr ?_
  exact AI rfl (Ad [1] ⟨⟨_,rfl,Ga⟩,trivial⟩ ⟨lv,trivial⟩)
 refine AQ ?_;have hq:=OI h; subst hq;exact ⟨⟨Fr 8 [(2,.pt 0 0 0)],[p4]⟩,(Ad [0] ⟨⟨_,rfl,Ga⟩,trivial⟩ ⟨lv,trivial⟩),.inr rfl,[.ag [.st x0.1,.st x0.2.1,.st x0.2.2.1,.v (.int .i64 x0.2.2.2.1),.v (.int .i64 x0.2.2.2.2.1),.st x0.2.2.2.2.2.1,.v (.bool x0.2.2.2.2.2.2.1),.v (.bool x0.2.2.2.2.2.2.2.1),.sl 1 (v1.map cdS.enc)]],kr,kr⟩
def Si:List AV->Option AV:=Dx J8 (fun a=>Gy a.1) KT
theorem S8:XOk 114 Si:=by
 refine AU Tryz.func114 (c:=NF) ?h2 ⟨Tryz.call114⟩ J8 (fun a=>Gy a.1) KT (fun a=>(by show 1<=8; decide)) ?h3 ?h4
 case h2=>kernel_rfl
 case h3=>intro b; kernel_rfl
 case h4=>exact fun a b h=>QP a.1 b h
/- trestle/trestlekit.CopyGuests -/
noncomputable def I6:Code:=BG Tryz.f60
def DD (x0:(List Ai)):Nat->(List Ai)->Int->Option (((List Ai)))
 | 0,_,_=>none
 | f + 1,c1,c2 =>
  if (decide (c2 < (x0.length:Int)))=true then
  (idx x0 c2).bind fun v4 =>
  (Gy v4).bind fun v5 =>
  if (Gf 112 (c1.length + 1))=true then
  DD x0 f (c1++[v5]) (wr .i64 (c2 + 1))
  else none
  else
  some c1
def GO (x0:(List Ai)):Option ((List Ai)) :=
 (DD x0 100000 [] 0).bind fun r8 =>
 some r8
def JA:Cs ((List Ai)×Unit):=(csC (cdL 9 AE) csN)
def JF (r:(List Ai)):AV:=(cdL 9 AE).enc r
theorem OZ (x0:(List Ai)):∀ (f:Nat) (c1:(List Ai)) (c2:Int) (r:((List Ai))),DD x0 f c1 c2=some r->SemN E0 ⟨none,false⟩ (pc I6 [1,1,0,1,0,0]) f ⟨Fr 20 [(0,.sl 9 (x0.map AE.enc)),(3,hd 0 (c1.map AE.enc)),(4,.v (.int .i64 c2))],[mk 9 42 (c1.map AE.enc)]⟩ (fun e s=>e=(.exit 0)/\Wk E0 s ⟨Fr 20 [(3,hd 0 (r.map AE.enc))],[mk 9 42 (r.map AE.enc)]⟩):=by
 intro f;induction f with
 | zero=>intro c1 c2 r h; cases h
 | succ f ih0 =>
  intro c1 c2 r h
  have ih:=fun (c1:(List Ai)) (c2:Int)=>ih0 c1 c2 r
  unfold DD at h;refine BR ?_;refine AF ?_;refine AF ?_
  let p1:Option Blk:=mk 9 42 (c1.map AE.enc)
  let p2:Nat×AV:=(4,.v (.int .i64 c2))
  let p3:Nat×AV:=(0,.sl 9 (x0.map AE.enc))
  refine AK (s1:=⟨Fr 20 [p3,(3,hd 0 (c1.map AE.enc)),p2,(8,.v (.bool (decide (c2 < (x0.length:Int)))))],[p1]⟩) ?_ ?_
  ·refine AD (n:=20) AC 2 [p3,(3,hd 0 (c1.map AE.enc)),p2,(5,.v (.int .i64 c2)),(6,.sl 9 (x0.map AE.enc))] [p1] kr ?_
   refine AR AC 0 rfl (C7 (AB rfl) rfl (Ck (a:= .sl 9 (x0.map AE.enc)) kr (Ba (el:=42) kr))) ?_;exact AW AC
  refine AP (b:=(decide (c2 < (x0.length:Int)))) kr (fun hb3=>?_) (fun hb3=>?_)
  ·rw [if_pos hb3] at h
   refine AS ?_;refine AF ?_;refine AZ ?_;obtain ⟨v4,hv4,h⟩:=OB h;obtain ⟨v5,hv5,h⟩:=OB h;by_cases hk6:(Gf 112 (c1.length + 1))=true
   case neg=>rw [if_neg hk6] at h; cases h
   rw [if_pos hk6] at h
   let p4:Option Blk:=mk 9 42 ((c1++[v5]).map AE.enc)
   let p5:Nat×AV:=(3,hd 0 ((c1++[v5]).map AE.enc))
   refine AK (s1:=⟨Fr 20 [p3,p5,p2],[p4]⟩) ?_ ?_
   ·let p6:Nat×AV:=(11,hd 0 (c1.map AE.enc))
    refine AD (n:=20) AC 3 [p3,p2,p6,(12,.sl 9 (x0.map AE.enc)),(13,.v (.int .i64 c2))] [p1] kr ?_;refine AR AC 0 rfl (C7 (AB rfl) rfl (AO (a:= .sl 9 (x0.map AE.enc)) (b:= .v (.int .i64 c2)) kr kr (Dn (e:=AE.enc) (el:=42) (k:=9) (ki:= .i64) kr kr hv4))) ?_;refine AD (n:=20) AC 1 [p3,p2,p6,(15,AE.enc v4)] [p1] kr ?_;refine AT (caps:=[]) (xs:=[AE.enc v4]) (u:=(v4,())) rfl rfl S8 rfl (AB rfl) kr kr (AM (AX (c:=AE) (v:=v4)) Aj) (.inr kr) hv5 ?_;refine AD (n:=20) AC 1 [p3,p2,p6,(17,hd 1 ([v5].map AE.enc))] [p1,mk 9 42 ([v5].map AE.enc)] kr ?_;refine AR AC 0 rfl (Xe (AB rfl) rfl kr kr (FE (a:=hd 0 (c1.map AE.enc)) (b:=hd 1 ([v5].map AE.enc)) kr kr (Kj (c:=AE) (xs:=c1) (vs:=[v5]) (k:=9) (bytes:=112) (el:=42) kr kr (GK (t:=42) kr) (List.cons_ne_nil _ _) kr hk6))) ?_;refine AD (n:=20) AC 1 [p3,(3,hd 2 ((c1++[v5]).map AE.enc)),p2] [none,mk 9 42 ([v5].map AE.enc),p4] kr ?_;exact AI rfl (Ad [2] ⟨⟨_,rfl,HH⟩,trivial⟩ ⟨lv,HJ (b':=2) kr kr,lv,trivial⟩)
   let p7:Nat×AV:=(4,.v (.int .i64 (wr .i64 (c2 + 1))))
   refine Cn AC [p3,p5,p7] [p4] ?_;exact Ac (s1:=⟨Fr 20 [p3,p5,p7],[p4]⟩) (Ad [0] ⟨⟨_,rfl,HH⟩,trivial⟩ ⟨lv,HJ (b':=0) kr kr,lv,trivial⟩) (ih (c1++[v5]) (wr .i64 (c2 + 1)) h)
  ·rw [BZ hb3] at h
   refine Bd ?_;have hq:=OI h; subst hq;exact ⟨rfl,(Ad [0] ⟨⟨_,rfl,HH⟩,trivial⟩ ⟨HJ (b':=0) kr kr,trivial⟩)⟩
theorem Pc (x0:(List Ai)) (r:(List Ai)) (h:GO x0=some r):Sem E0 ⟨none,false⟩ I6 ⟨Fr 20 (A3 0 (JA.enc (x0,()))),[]⟩ fun e s'=>(e = .normal\/e = .ret)/\∃ xs,EG E0.P s'.fr s'.hp Tryz.f60.results.toList=some xs/\EN xs=JF r:=by
 unfold GO at h
 let p1:Nat×AV:=(0,.sl 9 (x0.map AE.enc))
 refine An (BP (s1:=⟨Fr 20 [p1],[]⟩) AL ?_);refine AJ AC [p1] [] ?_;refine AJ AC [p1,(3,.e0)] [] ?_;refine AF ?_
 let p2:Nat×AV:=(4,.v (.int .i64 0))
 refine AJ AC [p1,(3,.e0),p2] [] ?_;refine AZ ?_;obtain ⟨r8,hr8,h⟩:=OB h;refine Bj (n:=100000) ?_;refine Aq (Ac (s1:=⟨Fr 20 [p1,(3,hd 0 ([].map AE.enc)),p2],[mk 9 42 ([].map AE.enc)]⟩) (Wk.trans (s1:=⟨Fr 20 [p1,(3,hd 0 ([].map AE.enc)),p2],[mk 9 42 ([].map AE.enc)]⟩) Wk.none (Ad [0] ⟨⟨_,rfl,MY⟩,trivial⟩ ⟨lv,lv,lv,trivial⟩)) (OZ x0 _ [] 0 _ hr8)) ?_;refine AJ AC [(2,hd 0 (r8.map AE.enc))] [mk 9 42 (r8.map AE.enc)] ?_;refine AQ ?_;have hq:=OI h; subst hq
 let p3:Nat×AV:=(2,.sl 9 (r8.map AE.enc))
 exact ⟨⟨Fr 20 [p3],[]⟩,(Wk.trans (s1:=⟨Fr 20 [p3],[none]⟩) (I4 0 (.inl kr) ⟨.inl rfl,trivial⟩ ⟨⟨hd 0 (r8.map AE.enc),kr,UF (t:=42) kr NM⟩,trivial⟩) (Ad [] trivial ⟨lv,trivial⟩)),.inr rfl,[.sl 9 (r8.map AE.enc)],kr,kr⟩
def RK:List AV->Option AV:=Dx JA (fun a=>GO a.1) JF
theorem RQ:XOk 60 RK:=by
 refine AU Tryz.func60 (c:=I6) ?h2 ⟨Tryz.call60⟩ JA (fun a=>GO a.1) JF (fun a=>(by show 1<=20; decide)) ?h3 ?h4
 case h2=>kernel_rfl
 case h3=>intro b; kernel_rfl
 case h4=>exact fun a b h=>Pc a.1 b h
/- trestle/court.formed -/
noncomputable def DR:Code:=BG Tryz.f159
def IR (x0:AG):Option ((Bool)) :=
 if (x0.1==8)=true then
 some (x0.1==8)
 else
 some (x0.1==9)
def IQ (x0:AG):Option ((Bool)) :=
 if (x0.1==3)=true then
 some (x0.1==3)
 else
 (IR x0).bind fun r14 =>
 some r14
def IP (x0:AG):Option ((Bool)) :=
 if (x0.1==2)=true then
 some (x0.1==2)
 else
 (IQ x0).bind fun r15 =>
 some r15
def IV (x0:AG):Option ((Bool)) :=
 if (x0.1==6)=true then
 some (x0.1==6)
 else
 some (x0.1==7)
def IW (x0:AG) (r33:Bool):Option ((Int×Int×Bool) ⊕ (Bool)) :=
 if r33=true then
 some (.inl (16,0,true))
 else
 if (x0.1==10)=true then
 some (.inl (0,63,false))
 else
 some (.inr false)
def IU (x0:AG):Option ((Int×Int×Bool) ⊕ (Bool)) :=
 if (x0.1==5)=true then
 some (.inl (0,0,true))
 else
 (IV x0).bind fun r33 =>
 (IW x0 r33).bind fun r40 =>
 match r40 with
 | (.inl w41) =>
  some (.inl (w41.1,w41.2.1,w41.2.2))
 | (.inr w42) =>
  some (.inr w42)
def IT (x0:AG):Option ((Int×Int×Int×Bool) ⊕ (Bool)) :=
 if (x0.1==4)=true then
 some (.inl (0,1,2,true))
 else
 (IU x0).bind fun r44 =>
 match r44 with
 | (.inl w45) =>
  some (.inl (w45.1,0,w45.2.1,w45.2.2))
 | (.inr w46) =>
  some (.inr w46)
def IS (x0:AG) (r16:Bool):Option ((Int×Int×Int×Bool) ⊕ (Bool)) :=
 if r16=true then
 some (.inl (0,0,0,false))
 else
 (IT x0).bind fun r48 =>
 match r48 with
 | (.inl w49) =>
  some (.inl (w49.1,w49.2.1,w49.2.2.1,w49.2.2.2))
 | (.inr w50) =>
  some (.inr w50)
def IN (x0:AG):Option ((Int×Int×Int×Bool) ⊕ (Bool)) :=
 if (x0.1==1)=true then
 if (!(x0.2.1==[]))=true then
 some (.inr false)
 else
 some (.inl (16,0,0,false))
 else
 (IP x0).bind fun r16 =>
 (IS x0 r16).bind fun r52 =>
 match r52 with
 | (.inl w53) =>
  some (.inl (w53.1,w53.2.1,w53.2.2.1,w53.2.2.2))
 | (.inr w54) =>
  some (.inr w54)
def CY (x0:AG):Option (Bool) :=
 (IN x0).bind fun r55 =>
 match r55 with
 | (.inl w56) =>
  (if (decide ((x0.2.2.2.1.length:Int)<=w56.1))=true then if (w56.1==0)=true then if (decide (x0.2.2.2.2≥w56.2.1))=true then if (decide (x0.2.2.2.2<=w56.2.2.1))=true then if w56.2.2.2=true then some true else some (!x0.2.2.1) else some false else some false else if (decide ((x0.2.2.2.1.length:Int) > 0))=true then if (decide (x0.2.2.2.2≥w56.2.1))=true then if (decide (x0.2.2.2.2<=w56.2.2.1))=true then if w56.2.2.2=true then some true else some (!x0.2.2.1) else some false else some false else some false else some false).bind fun j58 =>
  some j58
 | (.inr w68) =>
  some w68
def K5:Cs (AG×Unit):=(csC AA csN)
def LC (r:Bool):AV:=cdB.enc r
theorem PV (x0:AG) (r:(Bool)) (h:IR x0=some r):Sem E0 ⟨none,false⟩ (pc DR [1,1,0,1,0,1,1,0,1,1,1,1,1]) ⟨Fr 63 [(1,.pt 0 0 0),(3,.v (.int .i64 0)),(4,.v (.int .i64 0)),(5,.v (.int .i64 0)),(6,.v (.bool false)),(8,.v (.int .u8 x0.1)),(14,.v (.bool (x0.1==8)))],[some ⟨5,60,[AA.enc x0],false⟩]⟩ (fun e s=>e = .normal/\Wk E0 s ⟨Fr 63 [(1,.pt 0 0 0),(3,.v (.int .i64 0)),(4,.v (.int .i64 0)),(5,.v (.int .i64 0)),(6,.v (.bool false)),(8,.v (.int .u8 x0.1)),(14,.v (.bool r))],[some ⟨5,60,[AA.enc x0],false⟩]⟩):=by
 unfold IR at h;refine AP (b:=(x0.1==8)) kr (fun hb12=>?_) (fun hb12=>?_)
 ·rw [if_pos hb12] at h
  refine AS ?_;have hq:=OI h; subst hq;exact ⟨rfl,(Ad [0] ⟨⟨_,rfl,Ga⟩,trivial⟩ ⟨lv,lv,lv,lv,lv,lv,lv,trivial⟩)⟩
 ·rw [BZ hb12] at h
  refine Cn AC [(1,.pt 0 0 0),(3,.v (.int .i64 0)),(4,.v (.int .i64 0)),(5,.v (.int .i64 0)),(6,.v (.bool false)),(8,.v (.int .u8 x0.1)),(14,.v (.bool (x0.1==9)))] [some ⟨5,60,[AA.enc x0],false⟩] ?_;have hq:=OI h; subst hq;exact ⟨rfl,(Ad [0] ⟨⟨_,rfl,Ga⟩,trivial⟩ ⟨lv,lv,lv,lv,lv,lv,lv,trivial⟩)⟩
theorem PU (x0:AG) (r:(Bool)) (h:IQ x0=some r):Sem E0 ⟨none,false⟩ (pc DR [1,1,0,1,0,1,1,0,1,1,1]) ⟨Fr 63 [(1,.pt 0 0 0),(3,.v (.int .i64 0)),(4,.v (.int .i64 0)),(5,.v (.int .i64 0)),(6,.v (.bool false)),(8,.v (.int .u8 x0.1)),(14,.v (.bool (x0.1==3)))],[some ⟨5,60,[AA.enc x0],false⟩]⟩ (fun e s=>e = .normal/\Wk E0 s ⟨Fr 63 [(1,.pt 0 0 0),(3,.v (.int .i64 0)),(4,.v (.int .i64 0)),(5,.v (.int .i64 0)),(6,.v (.bool false)),(8,.v (.int .u8 x0.1)),(14,.v (.bool r))],[some ⟨5,60,[AA.enc x0],false⟩]⟩):=by
 unfold IQ at h;refine AP (b:=(x0.1==3)) kr (fun hb10=>?_) (fun hb10=>?_)
 ·rw [if_pos hb10] at h
  refine AS ?_;have hq:=OI h; subst hq;exact ⟨rfl,(Ad [0] ⟨⟨_,rfl,Ga⟩,trivial⟩ ⟨lv,lv,lv,lv,lv,lv,lv,trivial⟩)⟩
 ·rw [BZ hb10] at h
  refine AJ AC [(1,.pt 0 0 0),(3,.v (.int .i64 0)),(4,.v (.int .i64 0)),(5,.v (.int .i64 0)),(6,.v (.bool false)),(8,.v (.int .u8 x0.1)),(14,.v (.bool (x0.1==8)))] [some ⟨5,60,[AA.enc x0],false⟩] ?_;obtain ⟨r14,hr14,h⟩:=OB h;refine F7 (PV x0 _ hr14) ?_;have hq:=OI h; subst hq;exact ⟨rfl,(Ad [0] ⟨⟨_,rfl,Ga⟩,trivial⟩ ⟨lv,lv,lv,lv,lv,lv,lv,trivial⟩)⟩
theorem PT (x0:AG) (r:(Bool)) (h:IP x0=some r):Sem E0 ⟨none,false⟩ (pc DR [1,1,0,1,0,1,1,0,1]) ⟨Fr 63 [(1,.pt 0 0 0),(3,.v (.int .i64 0)),(4,.v (.int .i64 0)),(5,.v (.int .i64 0)),(6,.v (.bool false)),(8,.v (.int .u8 x0.1)),(14,.v (.bool (x0.1==2)))],[some ⟨5,60,[AA.enc x0],false⟩]⟩ (fun e s=>e = .normal/\Wk E0 s ⟨Fr 63 [(1,.pt 0 0 0),(3,.v (.int .i64 0)),(4,.v (.int .i64 0)),(5,.v (.int .i64 0)),(6,.v (.bool false)),(8,.v (.int .u8 x0.1)),(14,.v (.bool r))],[some ⟨5,60,[AA.enc x0],false⟩]⟩):=by
 unfold IP at h;refine AP (b:=(x0.1==2)) kr (fun hb8=>?_) (fun hb8=>?_)
 ·rw [if_pos hb8] at h
  refine AS ?_;have hq:=OI h; subst hq;exact ⟨rfl,(Ad [0] ⟨⟨_,rfl,Ga⟩,trivial⟩ ⟨lv,lv,lv,lv,lv,lv,lv,trivial⟩)⟩
 ·rw [BZ hb8] at h
  refine AJ AC [(1,.pt 0 0 0),(3,.v (.int .i64 0)),(4,.v (.int .i64 0)),(5,.v (.int .i64 0)),(6,.v (.bool false)),(8,.v (.int .u8 x0.1)),(14,.v (.bool (x0.1==3)))] [some ⟨5,60,[AA.enc x0],false⟩] ?_;obtain ⟨r15,hr15,h⟩:=OB h;refine F7 (PU x0 _ hr15) ?_;have hq:=OI h; subst hq;exact ⟨rfl,(Ad [0] ⟨⟨_,rfl,Ga⟩,trivial⟩ ⟨lv,lv,lv,lv,lv,lv,lv,trivial⟩)⟩
theorem PW (x0:AG) (r:(Bool)) (h:IV x0=some r):Sem E0 ⟨none,false⟩ (pc DR [1,1,0,1,0,1,1,1,1,1,1,1,1,0,1]) ⟨Fr 63 [(1,.pt 0 0 0),(3,.v (.int .i64 0)),(4,.v (.int .i64 0)),(5,.v (.int .i64 0)),(6,.v (.bool false)),(8,.v (.int .u8 x0.1)),(23,.v (.bool (x0.1==6)))],[some ⟨5,60,[AA.enc x0],false⟩]⟩ (fun e s=>e = .normal/\Wk E0 s ⟨Fr 63 [(1,.pt 0 0 0),(3,.v (.int .i64 0)),(4,.v (.int .i64 0)),(5,.v (.int .i64 0)),(6,.v (.bool false)),(8,.v (.int .u8 x0.1)),(23,.v (.bool r))],[some ⟨5,60,[AA.enc x0],false⟩]⟩):=by
 unfold IV at h;refine AP (b:=(x0.1==6)) kr (fun hb31=>?_) (fun hb31=>?_)
 ·rw [if_pos hb31] at h
  refine AS ?_;have hq:=OI h; subst hq;exact ⟨rfl,(Ad [0] ⟨⟨_,rfl,Ga⟩,trivial⟩ ⟨lv,lv,lv,lv,lv,lv,lv,trivial⟩)⟩
 ·rw [BZ hb31] at h
  refine Cn AC [(1,.pt 0 0 0),(3,.v (.int .i64 0)),(4,.v (.int .i64 0)),(5,.v (.int .i64 0)),(6,.v (.bool false)),(8,.v (.int .u8 x0.1)),(23,.v (.bool (x0.1==7)))] [some ⟨5,60,[AA.enc x0],false⟩] ?_;have hq:=OI h; subst hq;exact ⟨rfl,(Ad [0] ⟨⟨_,rfl,Ga⟩,trivial⟩ ⟨lv,lv,lv,lv,lv,lv,lv,trivial⟩)⟩
theorem Lh (x0:AG) (r33:Bool) (r:(Int×Int×Bool) ⊕ (Bool)) (h:IW x0 r33=some r):Sem E0 ⟨none,false⟩ (pc DR [1,1,0,1,0,1,1,1,1,1,1,1,1,1]) ⟨Fr 63 [(1,.pt 0 0 0),(3,.v (.int .i64 0)),(4,.v (.int .i64 0)),(5,.v (.int .i64 0)),(6,.v (.bool false)),(8,.v (.int .u8 x0.1)),(23,.v (.bool r33))],[some ⟨5,60,[AA.enc x0],false⟩]⟩ (fun e s=>match r with
 | (.inl w)=>e = .normal/\Wk E0 s ⟨Fr 63 [(1,.pt 0 0 0),(3,.v (.int .i64 w.1)),(4,.v (.int .i64 0)),(5,.v (.int .i64 w.2.1)),(6,.v (.bool w.2.2))],[some ⟨5,60,[AA.enc x0],false⟩]⟩
 | (.inr w)=>e = .ret/\Wk E0 s ⟨Fr 63 [(2,.v (.bool w))],[]⟩):=by
 unfold IW at h;refine AP (b:=r33) kr (fun hb34=>?_) (fun hb34=>?_)
 ·rw [if_pos hb34] at h
  refine Cn AC [(1,.pt 0 0 0),(3,.v (.int .i64 16)),(4,.v (.int .i64 0)),(5,.v (.int .i64 0)),(6,.v (.bool true))] [some ⟨5,60,[AA.enc x0],false⟩] ?_;have hq:=OI h; subst hq;exact ⟨rfl,(Ad [0] ⟨⟨_,rfl,Ga⟩,trivial⟩ ⟨lv,lv,lv,lv,lv,trivial⟩)⟩
 ·rw [BZ hb34] at h
  let p1:Option Blk:=some ⟨5,60,[AA.enc x0],false⟩
  refine AJ AC [(1,.pt 0 0 0),(3,.v (.int .i64 0)),(4,.v (.int .i64 0)),(6,.v (.bool false)),(26,.v (.bool (x0.1==10)))] [p1] ?_;refine AP (b:=(x0.1==10)) kr (fun hb38=>?_) (fun hb38=>?_)
  ·rw [if_pos hb38] at h
   refine Cn AC [(1,.pt 0 0 0),(3,.v (.int .i64 0)),(4,.v (.int .i64 0)),(5,.v (.int .i64 63)),(6,.v (.bool false))] [p1] ?_;have hq:=OI h; subst hq;exact ⟨rfl,(Ad [0] ⟨⟨_,rfl,Ga⟩,trivial⟩ ⟨lv,lv,lv,lv,lv,trivial⟩)⟩
  ·rw [BZ hb38] at h
   refine AF ?_;refine AK (s1:=⟨Fr 63 [(2,.v (.bool false))],[]⟩) ?_ ?_
   ·refine AD (n:=63) AC 1 [(2,.v (.bool false))] [p1] kr ?_
    exact AI rfl (Ad [] trivial ⟨lv,trivial⟩)
   refine AQ ?_;have hq:=OI h; subst hq;exact ⟨rfl,AL⟩
theorem Lg (x0:AG) (r:(Int×Int×Bool) ⊕ (Bool)) (h:IU x0=some r):Sem E0 ⟨none,false⟩ (pc DR [1,1,0,1,0,1,1,1,1,1,1,1]) ⟨Fr 63 [(1,.pt 0 0 0),(3,.v (.int .i64 0)),(4,.v (.int .i64 0)),(5,.v (.int .i64 0)),(6,.v (.bool false)),(8,.v (.int .u8 x0.1)),(21,.v (.bool (x0.1==5)))],[some ⟨5,60,[AA.enc x0],false⟩]⟩ (fun e s=>match r with
 | (.inl w)=>e = .normal/\Wk E0 s ⟨Fr 63 [(1,.pt 0 0 0),(3,.v (.int .i64 w.1)),(4,.v (.int .i64 0)),(5,.v (.int .i64 w.2.1)),(6,.v (.bool w.2.2))],[some ⟨5,60,[AA.enc x0],false⟩]⟩
 | (.inr w)=>e = .ret/\Wk E0 s ⟨Fr 63 [(2,.v (.bool w))],[]⟩):=by
 unfold IU at h;refine AP (b:=(x0.1==5)) kr (fun hb27=>?_) (fun hb27=>?_)
 ·rw [if_pos hb27] at h
  refine Cn AC [(1,.pt 0 0 0),(3,.v (.int .i64 0)),(4,.v (.int .i64 0)),(5,.v (.int .i64 0)),(6,.v (.bool true))] [some ⟨5,60,[AA.enc x0],false⟩] ?_;have hq:=OI h; subst hq;exact ⟨rfl,(Ad [0] ⟨⟨_,rfl,Ga⟩,trivial⟩ ⟨lv,lv,lv,lv,lv,trivial⟩)⟩
 ·rw [BZ hb27] at h
  refine AF ?_;refine AJ AC [(1,.pt 0 0 0),(3,.v (.int .i64 0)),(4,.v (.int .i64 0)),(5,.v (.int .i64 0)),(6,.v (.bool false)),(8,.v (.int .u8 x0.1)),(23,.v (.bool (x0.1==6)))] [some ⟨5,60,[AA.enc x0],false⟩] ?_;obtain ⟨r33,hr33,h⟩:=OB h;refine F7 (PW x0 _ hr33) ?_;obtain ⟨r40,hr40,h⟩:=OB h;rcases r40 with w41 | w42
  ·try dsimp only at h
   refine F7 (Lh x0 r33 _ hr40) ?_;have hq:=OI h; subst hq;exact ⟨rfl,(Ad [0] ⟨⟨_,rfl,Ga⟩,trivial⟩ ⟨lv,lv,lv,lv,lv,trivial⟩)⟩
  ·try dsimp only at h
   refine F7 (Lh x0 r33 _ hr40) ?_;have hq:=OI h; subst hq;exact ⟨rfl,AL⟩
theorem Lf (x0:AG) (r:(Int×Int×Int×Bool) ⊕ (Bool)) (h:IT x0=some r):Sem E0 ⟨none,false⟩ (pc DR [1,1,0,1,0,1,1,1,1,1]) ⟨Fr 63 [(1,.pt 0 0 0),(3,.v (.int .i64 0)),(4,.v (.int .i64 0)),(5,.v (.int .i64 0)),(6,.v (.bool false)),(8,.v (.int .u8 x0.1)),(19,.v (.bool (x0.1==4)))],[some ⟨5,60,[AA.enc x0],false⟩]⟩ (fun e s=>match r with
 | (.inl w)=>e = .normal/\Wk E0 s ⟨Fr 63 [(1,.pt 0 0 0),(3,.v (.int .i64 w.1)),(4,.v (.int .i64 w.2.1)),(5,.v (.int .i64 w.2.2.1)),(6,.v (.bool w.2.2.2))],[some ⟨5,60,[AA.enc x0],false⟩]⟩
 | (.inr w)=>e = .ret/\Wk E0 s ⟨Fr 63 [(2,.v (.bool w))],[]⟩):=by
 unfold IT at h;refine AP (b:=(x0.1==4)) kr (fun hb22=>?_) (fun hb22=>?_)
 ·rw [if_pos hb22] at h
  refine Cn AC [(1,.pt 0 0 0),(3,.v (.int .i64 0)),(4,.v (.int .i64 1)),(5,.v (.int .i64 2)),(6,.v (.bool true))] [some ⟨5,60,[AA.enc x0],false⟩] ?_;have hq:=OI h; subst hq;exact ⟨rfl,(Ad [0] ⟨⟨_,rfl,Ga⟩,trivial⟩ ⟨lv,lv,lv,lv,lv,trivial⟩)⟩
 ·rw [BZ hb22] at h
  refine AJ AC [(1,.pt 0 0 0),(3,.v (.int .i64 0)),(4,.v (.int .i64 0)),(5,.v (.int .i64 0)),(6,.v (.bool false)),(8,.v (.int .u8 x0.1)),(21,.v (.bool (x0.1==5)))] [some ⟨5,60,[AA.enc x0],false⟩] ?_;obtain ⟨r44,hr44,h⟩:=OB h;rcases r44 with w45 | w46
  ·try dsimp only at h
   refine F7 (Lg x0 _ hr44) ?_;have hq:=OI h; subst hq;exact ⟨rfl,(Ad [0] ⟨⟨_,rfl,Ga⟩,trivial⟩ ⟨lv,lv,lv,lv,lv,trivial⟩)⟩
  ·try dsimp only at h
   refine F7 (Lg x0 _ hr44) ?_;have hq:=OI h; subst hq;exact ⟨rfl,AL⟩
theorem Le (x0:AG) (r16:Bool) (r:(Int×Int×Int×Bool) ⊕ (Bool)) (h:IS x0 r16=some r):Sem E0 ⟨none,false⟩ (pc DR [1,1,0,1,0,1,1,1]) ⟨Fr 63 [(1,.pt 0 0 0),(3,.v (.int .i64 0)),(4,.v (.int .i64 0)),(5,.v (.int .i64 0)),(6,.v (.bool false)),(8,.v (.int .u8 x0.1)),(14,.v (.bool r16))],[some ⟨5,60,[AA.enc x0],false⟩]⟩ (fun e s=>match r with
 | (.inl w)=>e = .normal/\Wk E0 s ⟨Fr 63 [(1,.pt 0 0 0),(3,.v (.int .i64 w.1)),(4,.v (.int .i64 w.2.1)),(5,.v (.int .i64 w.2.2.1)),(6,.v (.bool w.2.2.2))],[some ⟨5,60,[AA.enc x0],false⟩]⟩
 | (.inr w)=>e = .ret/\Wk E0 s ⟨Fr 63 [(2,.v (.bool w))],[]⟩):=by
 unfold IS at h;refine AP (b:=r16) kr (fun hb17=>?_) (fun hb17=>?_)
 ·rw [if_pos hb17] at h
  refine AS ?_;have hq:=OI h; subst hq;exact ⟨rfl,(Ad [0] ⟨⟨_,rfl,Ga⟩,trivial⟩ ⟨lv,lv,lv,lv,lv,trivial⟩)⟩
 ·rw [BZ hb17] at h
  refine AJ AC [(1,.pt 0 0 0),(3,.v (.int .i64 0)),(4,.v (.int .i64 0)),(5,.v (.int .i64 0)),(6,.v (.bool false)),(8,.v (.int .u8 x0.1)),(19,.v (.bool (x0.1==4)))] [some ⟨5,60,[AA.enc x0],false⟩] ?_;obtain ⟨r48,hr48,h⟩:=OB h;rcases r48 with w49 | w50
  ·try dsimp only at h
   refine F7 (Lf x0 _ hr48) ?_;have hq:=OI h; subst hq;exact ⟨rfl,(Ad [0] ⟨⟨_,rfl,Ga⟩,trivial⟩ ⟨lv,lv,lv,lv,lv,trivial⟩)⟩
  ·try dsimp only at h
   refine F7 (Lf x0 _ hr48) ?_;have hq:=OI h; subst hq;exact ⟨rfl,AL⟩
theorem Lc (x0:AG) (r:(Int×Int×Int×Bool) ⊕ (Bool)) (h:IN x0=some r):Sem E0 ⟨none,false⟩ (pc DR [1,1,0,1,0,1]) ⟨Fr 63 [(1,.pt 0 0 0),(3,.v (.int .i64 0)),(4,.v (.int .i64 0)),(5,.v (.int .i64 0)),(6,.v (.bool false)),(8,.v (.int .u8 x0.1)),(9,.v (.bool (x0.1==1)))],[some ⟨5,60,[AA.enc x0],false⟩]⟩ (fun e s=>match r with
 | (.inl w)=>e = .normal/\Wk E0 s ⟨Fr 63 [(1,.pt 0 0 0),(3,.v (.int .i64 w.1)),(4,.v (.int .i64 w.2.1)),(5,.v (.int .i64 w.2.2.1)),(6,.v (.bool w.2.2.2))],[some ⟨5,60,[AA.enc x0],false⟩]⟩
 | (.inr w)=>e = .ret/\Wk E0 s ⟨Fr 63 [(2,.v (.bool w))],[]⟩):=by
 unfold IN at h;refine AP (b:=(x0.1==1)) kr (fun hb1=>?_) (fun hb1=>?_)
 ·rw [if_pos hb1] at h
  refine AF ?_
  let p1:Option Blk:=some ⟨5,60,[AA.enc x0],false⟩
  refine AJ AC [(1,.pt 0 0 0),(4,.v (.int .i64 0)),(5,.v (.int .i64 0)),(6,.v (.bool false)),(13,.v (.bool (!(x0.2.1==[]))))] [p1] ?_;refine AP (b:=(!(x0.2.1==[]))) kr (fun hb2=>?_) (fun hb2=>?_)
  ·rw [if_pos hb2] at h
   refine AF ?_;refine AK (s1:=⟨Fr 63 [(2,.v (.bool false))],[]⟩) ?_ ?_
   ·refine AD (n:=63) AC 1 [(2,.v (.bool false))] [p1] kr ?_
    exact AI rfl (Ad [] trivial ⟨lv,trivial⟩)
   refine AQ ?_;have hq:=OI h; subst hq;exact ⟨rfl,AL⟩
  ·rw [BZ hb2] at h
   refine AS ?_;refine Cn AC [(1,.pt 0 0 0),(3,.v (.int .i64 16)),(4,.v (.int .i64 0)),(5,.v (.int .i64 0)),(6,.v (.bool false))] [p1] ?_;have hq:=OI h; subst hq;exact ⟨rfl,(Ad [0] ⟨⟨_,rfl,Ga⟩,trivial⟩ ⟨lv,lv,lv,lv,lv,trivial⟩)⟩
 ·rw [BZ hb1] at h
  refine AF ?_;refine AJ AC [(1,.pt 0 0 0),(3,.v (.int .i64 0)),(4,.v (.int .i64 0)),(5,.v (.int .i64 0)),(6,.v (.bool false)),(8,.v (.int .u8 x0.1)),(14,.v (.bool (x0.1==2)))] [some ⟨5,60,[AA.enc x0],false⟩] ?_;obtain ⟨r16,hr16,h⟩:=OB h;refine F7 (PT x0 _ hr16) ?_;obtain ⟨r52,hr52,h⟩:=OB h;rcases r52 with w53 | w54
  ·try dsimp only at h
   refine F7 (Le x0 r16 _ hr52) ?_;have hq:=OI h; subst hq;exact ⟨rfl,(Ad [0] ⟨⟨_,rfl,Ga⟩,trivial⟩ ⟨lv,lv,lv,lv,lv,trivial⟩)⟩
  ·try dsimp only at h
   refine F7 (Le x0 r16 _ hr52) ?_;have hq:=OI h; subst hq;exact ⟨rfl,AL⟩
theorem Q6 (x0:AG) (r:Bool) (h:CY x0=some r):Sem E0 ⟨none,false⟩ DR ⟨Fr 63 (A3 0 (K5.enc (x0,()))),[]⟩ fun e s'=>(e = .normal\/e = .ret)/\∃ xs,EG E0.P s'.fr s'.hp Tryz.f159.results.toList=some xs/\EN xs=LC r:=by
 unfold CY at h;refine An (BP (s1:=⟨Fr 63 [(0,AA.enc x0)],[]⟩) AL ?_);refine AJ AC [(1,.pt 0 0 0)] [some ⟨5,60,[AA.enc x0],false⟩] ?_;refine AJ AC [(1,.pt 0 0 0),(3,.v (.int .i64 0)),(4,.v (.int .i64 0)),(5,.v (.int .i64 0)),(6,.v (.bool false))] [some ⟨5,60,[AA.enc x0],false⟩] ?_;refine AF ?_;refine AJ AC [(1,.pt 0 0 0),(3,.v (.int .i64 0)),(4,.v (.int .i64 0)),(5,.v (.int .i64 0)),(6,.v (.bool false)),(8,.v (.int .u8 x0.1))] [some ⟨5,60,[AA.enc x0],false⟩] ?_;refine AZ ?_;refine AJ AC [(1,.pt 0 0 0),(3,.v (.int .i64 0)),(4,.v (.int .i64 0)),(5,.v (.int .i64 0)),(6,.v (.bool false)),(8,.v (.int .u8 x0.1)),(9,.v (.bool (x0.1==1)))] [some ⟨5,60,[AA.enc x0],false⟩] ?_;obtain ⟨r55,hr55,h⟩:=OB h;rcases r55 with w56 | w68
 ·try dsimp only at h
  refine F7 (Lc x0 _ hr55) ?_;refine AF ?_;obtain ⟨j58,hj58,h⟩:=OB h;refine AK (s1:=⟨Fr 63 [(2,.v (.bool j58))],[]⟩) ?_ ?_
  ·refine AD (n:=63) AC 2 [(1,.pt 0 0 0),(3,.v (.int .i64 w56.1)),(4,.v (.int .i64 w56.2.1)),(5,.v (.int .i64 w56.2.2.1)),(6,.v (.bool w56.2.2.2)),(29,.sl 1 (x0.2.2.2.1.map cdS.enc))] [some ⟨5,60,[AA.enc x0],false⟩] kr ?_
   refine AR AC 0 rfl (C7 (AB rfl) rfl (Ck (a:= .sl 1 (x0.2.2.2.1.map cdS.enc)) kr (Ba (el:=9) kr))) ?_;refine AD (n:=63) AC 3 [(1,.pt 0 0 0),(3,.v (.int .i64 w56.1)),(4,.v (.int .i64 w56.2.1)),(5,.v (.int .i64 w56.2.2.1)),(6,.v (.bool w56.2.2.2)),(33,.v (.bool (decide ((x0.2.2.2.1.length:Int)<=w56.1))))] [some ⟨5,60,[AA.enc x0],false⟩] kr ?_;rcases BE (decide ((x0.2.2.2.1.length:Int)<=w56.1)) with hc59 | hc59
   ·rw [if_pos hc59] at hj58
    rw [hc59];refine AD (n:=63) AC 3 [(1,.pt 0 0 0),(4,.v (.int .i64 w56.2.1)),(5,.v (.int .i64 w56.2.2.1)),(6,.v (.bool w56.2.2.2)),(33,.v (.bool true)),(36,.v (.bool (w56.1==0)))] [some ⟨5,60,[AA.enc x0],false⟩] kr ?_;rcases BE (w56.1==0) with hc60 | hc60
    ·rw [if_pos hc60] at hj58
     rw [hc60];refine AD (n:=63) AC 13 [(1,.pt 0 0 0),(5,.v (.int .i64 w56.2.2.1)),(6,.v (.bool w56.2.2.2)),(49,.v (.bool (decide (x0.2.2.2.2≥w56.2.1))))] [some ⟨5,60,[AA.enc x0],false⟩] kr ?_;rcases BE (decide (x0.2.2.2.2≥w56.2.1)) with hc61 | hc61
     ·rw [if_pos hc61] at hj58
      rw [hc61];refine AD (n:=63) AC 6 [(1,.pt 0 0 0),(6,.v (.bool w56.2.2.2)),(55,.v (.bool (decide (x0.2.2.2.2<=w56.2.2.1))))] [some ⟨5,60,[AA.enc x0],false⟩] kr ?_;rcases BE (decide (x0.2.2.2.2<=w56.2.2.1)) with hc62 | hc62
      ·rw [if_pos hc62] at hj58
       rw [hc62];refine AD (n:=63) AC 2 [(1,.pt 0 0 0),(55,.v (.bool true)),(57,.v (.bool w56.2.2.2))] [some ⟨5,60,[AA.enc x0],false⟩] kr ?_;rcases BE w56.2.2.2 with hc63 | hc63
       ·rw [if_pos hc63] at hj58
        rw [hc63];refine AD (n:=63) AC 6 [(2,.v (.bool true))] [some ⟨5,60,[AA.enc x0],false⟩] kr ?_;have hq:=OI hj58; subst hq;exact AI rfl (Ad [] trivial ⟨lv,trivial⟩)
       ·rw [BZ hc63] at hj58
        rw [hc63];refine AD (n:=63) AC 6 [(2,.v (.bool (!x0.2.2.1)))] [some ⟨5,60,[AA.enc x0],false⟩] kr ?_;have hq:=OI hj58; subst hq;exact AI rfl (Ad [] trivial ⟨lv,trivial⟩)
      ·rw [BZ hc62] at hj58
       rw [hc62];refine AD (n:=63) AC 8 [(2,.v (.bool false))] [some ⟨5,60,[AA.enc x0],false⟩] kr ?_;have hq:=OI hj58; subst hq;exact AI rfl (Ad [] trivial ⟨lv,trivial⟩)
     ·rw [BZ hc61] at hj58
      rw [hc61];refine AD (n:=63) AC 14 [(2,.v (.bool false))] [some ⟨5,60,[AA.enc x0],false⟩] kr ?_;have hq:=OI hj58; subst hq;exact AI rfl (Ad [] trivial ⟨lv,trivial⟩)
    ·rw [BZ hc60] at hj58
     rw [hc60];refine AD (n:=63) AC 2 [(1,.pt 0 0 0),(4,.v (.int .i64 w56.2.1)),(5,.v (.int .i64 w56.2.2.1)),(6,.v (.bool w56.2.2.2)),(33,.v (.bool true)),(36,.v (.bool false)),(38,.sl 1 (x0.2.2.2.1.map cdS.enc))] [some ⟨5,60,[AA.enc x0],false⟩] kr ?_;refine AR AC 0 rfl (C7 kr rfl (Ck (a:= .sl 1 (x0.2.2.2.1.map cdS.enc)) kr (Ba (el:=9) kr))) ?_;refine AD (n:=63) AC 4 [(1,.pt 0 0 0),(4,.v (.int .i64 w56.2.1)),(5,.v (.int .i64 w56.2.2.1)),(6,.v (.bool w56.2.2.2)),(43,.v (.bool (decide ((x0.2.2.2.1.length:Int) > 0))))] [some ⟨5,60,[AA.enc x0],false⟩] kr ?_;rcases BE (decide ((x0.2.2.2.1.length:Int) > 0)) with hc64 | hc64
     ·rw [if_pos hc64] at hj58
      rw [hc64];refine AD (n:=63) AC 6 [(1,.pt 0 0 0),(5,.v (.int .i64 w56.2.2.1)),(6,.v (.bool w56.2.2.2)),(49,.v (.bool (decide (x0.2.2.2.2≥w56.2.1))))] [some ⟨5,60,[AA.enc x0],false⟩] kr ?_;rcases BE (decide (x0.2.2.2.2≥w56.2.1)) with hc65 | hc65
      ·rw [if_pos hc65] at hj58
       rw [hc65];refine AD (n:=63) AC 6 [(1,.pt 0 0 0),(6,.v (.bool w56.2.2.2)),(55,.v (.bool (decide (x0.2.2.2.2<=w56.2.2.1))))] [some ⟨5,60,[AA.enc x0],false⟩] kr ?_;rcases BE (decide (x0.2.2.2.2<=w56.2.2.1)) with hc66 | hc66
       ·rw [if_pos hc66] at hj58
        rw [hc66];refine AD (n:=63) AC 2 [(1,.pt 0 0 0),(55,.v (.bool true)),(57,.v (.bool w56.2.2.2))] [some ⟨5,60,[AA.enc x0],false⟩] kr ?_;rcases BE w56.2.2.2 with hc67 | hc67
        ·rw [if_pos hc67] at hj58
         rw [hc67];refine AD (n:=63) AC 6 [(2,.v (.bool true))] [some ⟨5,60,[AA.enc x0],false⟩] kr ?_;have hq:=OI hj58; subst hq;exact AI rfl (Ad [] trivial ⟨lv,trivial⟩)
        ·rw [BZ hc67] at hj58
         rw [hc67];refine AD (n:=63) AC 6 [(2,.v (.bool (!x0.2.2.1)))] [some ⟨5,60,[AA.enc x0],false⟩] kr ?_;have hq:=OI hj58; subst hq;exact AI rfl (Ad [] trivial ⟨lv,trivial⟩)
       ·rw [BZ hc66] at hj58
        rw [hc66];refine AD (n:=63) AC 8 [(2,.v (.bool false))] [some ⟨5,60,[AA.enc x0],false⟩] kr ?_;have hq:=OI hj58; subst hq;exact AI rfl (Ad [] trivial ⟨lv,trivial⟩)
      ·rw [BZ hc65] at hj58
       rw [hc65];refine AD (n:=63) AC 14 [(2,.v (.bool false))] [some ⟨5,60,[AA.enc x0],false⟩] kr ?_;have hq:=OI hj58; subst hq;exact AI rfl (Ad [] trivial ⟨lv,trivial⟩)
     ·rw [BZ hc64] at hj58
      rw [hc64];refine AD (n:=63) AC 20 [(2,.v (.bool false))] [some ⟨5,60,[AA.enc x0],false⟩] kr ?_;have hq:=OI hj58; subst hq;exact AI rfl (Ad [] trivial ⟨lv,trivial⟩)
   ·rw [BZ hc59] at hj58
    rw [hc59];refine AD (n:=63) AC 30 [(2,.v (.bool false))] [some ⟨5,60,[AA.enc x0],false⟩] kr ?_;have hq:=OI hj58; subst hq;exact AI rfl (Ad [] trivial ⟨lv,trivial⟩)
  refine AQ ?_;have hq:=OI h; subst hq;exact ⟨⟨Fr 63 [(2,.v (.bool j58))],[]⟩,AL,.inr rfl,[.v (.bool j58)],kr,kr⟩
 ·try dsimp only at h
  refine F7 (Lc x0 _ hr55) ?_;have hq:=OI h; subst hq;exact ⟨⟨Fr 63 [(2,.v (.bool w68))],[]⟩,AL,.inr rfl,[.v (.bool w68)],kr,kr⟩
def TT:List AV->Option AV:=Dx K5 (fun a=>CY a.1) LC
theorem Tb:XOk 159 TT:=by
 refine AU Tryz.func159 (c:=DR) ?h2 ⟨Tryz.call159⟩ K5 (fun a=>CY a.1) LC (fun a=>(by show 1<=63; decide)) ?h3 ?h4
 case h2=>kernel_rfl
 case h3=>intro b; kernel_rfl
 case h4=>exact fun a b h=>Q6 a.1 b h
/- trestle/court.name -/
noncomputable def Ma:Code:=BG Tryz.f96
def GH (x0:(List UInt8)):Nat->Int->Option ((Unit) ⊕ (Bool))
 | 0,_=>none
 | f + 1,c1 =>
  if (decide (c1 < (x0.length:Int)))=true then
  (idx x0 c1).bind fun v3 =>
  (if (decide ((v3.toNat:Int) < 97))=true then some true else (idx x0 c1).bind fun v4 =>
  some (decide ((v4.toNat:Int) > 122))).bind fun j6 =>
  if j6=true then
  some (.inr false)
  else
  GH x0 f (wr .i64 (c1 + 1))
  else
  some (.inl ())
def IG (x0:(List UInt8)):Option (Bool) :=
 (GH x0 100000 0).bind fun r10 =>
 match r10 with
 | (.inl _w11) =>
  (if (decide ((x0.length:Int)≥1))=true then some (decide ((x0.length:Int)<=12)) else some false).bind fun j13 =>
  some j13
 | (.inr w15) =>
  some w15
def Me:Cs ((List UInt8)×Unit):=(csC cdS csN)
def Mm (r:Bool):AV:=cdB.enc r
theorem NL (x0:(List UInt8)):∀ (f:Nat) (c1:Int) (r:(Unit) ⊕ (Bool)),GH x0 f c1=some r->SemN E0 ⟨none,false⟩ (pc Ma [1,0,1,0,0]) f ⟨Fr 28 [(0,.st x0),(3,.v (.int .i64 c1))],[]⟩ (fun e s=>match r with
 | (.inl _w)=>e=(.exit 0)/\Wk E0 s ⟨Fr 28 [(0,.st x0)],[]⟩
 | (.inr w)=>e = .ret/\Wk E0 s ⟨Fr 28 [(2,.v (.bool w))],[]⟩):=by
 intro f;induction f with
 | zero=>intro c1 r h; cases h
 | succ f ih0 =>
  intro c1 r h
  have ih:=fun (c1:Int)=>ih0 c1 r
  unfold GH at h;refine BR ?_;refine AF ?_;refine AJ AC [(0,.st x0),(3,.v (.int .i64 c1)),(7,.v (.bool (decide (c1 < (x0.length:Int)))))] [] ?_;refine AP (b:=(decide (c1 < (x0.length:Int)))) kr (fun hb2=>?_) (fun hb2=>?_)
  ·rw [if_pos hb2] at h
   refine AS ?_;refine AF ?_;refine AZ ?_;refine AF ?_;obtain ⟨v3,hv3,h⟩:=OB h;obtain ⟨j6,hj6,h⟩:=OB h;refine AK (s1:=⟨Fr 28 [(0,.st x0),(3,.v (.int .i64 c1)),(19,.v (.bool j6))],[]⟩) ?_ ?_
   ·refine AD (n:=28) AC 2 [(0,.st x0),(3,.v (.int .i64 c1)),(10,.st x0),(11,.v (.int .i64 c1))] [] kr ?_
    refine AR AC 0 rfl (C7 (AB rfl) rfl (UR (a:= .st x0) (b:= .v (.int .i64 c1)) kr kr (Rb (bs:=x0) (ki:= .i64) kr hv3))) ?_;refine AD (n:=28) AC 2 [(0,.st x0),(3,.v (.int .i64 c1)),(14,.v (.bool (decide ((v3.toNat:Int) < 97))))] [] kr ?_;rcases BE (decide ((v3.toNat:Int) < 97)) with hc9 | hc9
    ·rw [if_pos hc9] at hj6
     rw [hc9];refine AD (n:=28) AC 5 [(0,.st x0),(3,.v (.int .i64 c1)),(15,.tp []),(16,.tp []),(17,.tp []),(18,.tp []),(19,.v (.bool true))] [] kr ?_;have hq:=OI hj6; subst hq;exact AI rfl AL
    ·rw [BZ hc9] at hj6
     rw [hc9];refine AD (n:=28) AC 2 [(0,.st x0),(3,.v (.int .i64 c1)),(14,.v (.bool false)),(15,.st x0),(16,.v (.int .i64 c1))] [] kr ?_;obtain ⟨v4,hv4,hj6⟩:=OB hj6;refine AR AC 0 rfl (C7 kr rfl (UR (a:= .st x0) (b:= .v (.int .i64 c1)) kr kr (Rb (bs:=x0) (ki:= .i64) kr hv4))) ?_;refine AD (n:=28) AC 2 [(0,.st x0),(3,.v (.int .i64 c1)),(15,.st x0),(16,.v (.int .i64 c1)),(17,.v (.int .u8 (v4.toNat:Int))),(18,.v (.bool (decide ((v4.toNat:Int) > 122)))),(19,.v (.bool (decide ((v4.toNat:Int) > 122))))] [] kr ?_;have hq:=OI hj6; subst hq;exact AI rfl AL
   refine AP (b:=j6) kr (fun hb7=>?_) (fun hb7=>?_)
   ·rw [if_pos hb7] at h
    refine AJ AC [(2,.v (.bool false))] [] ?_;refine AQ ?_;have hq:=OI h; subst hq;exact ⟨rfl,AL⟩
   ·rw [BZ hb7] at h
    refine AS ?_;refine Cn AC [(0,.st x0),(3,.v (.int .i64 (wr .i64 (c1 + 1))))] [] ?_;exact Ac (s1:=⟨Fr 28 [(0,.st x0),(3,.v (.int .i64 (wr .i64 (c1 + 1))))],[]⟩) AL (ih (wr .i64 (c1 + 1)) h)
  ·rw [BZ hb2] at h
   refine Bd ?_;have hq:=OI h; subst hq;exact ⟨rfl,AL⟩
theorem TM (x0:(List UInt8)) (r:Bool) (h:IG x0=some r):Sem E0 ⟨none,false⟩ Ma ⟨Fr 28 (A3 0 (Me.enc (x0,()))),[]⟩ fun e s'=>(e = .normal\/e = .ret)/\∃ xs,EG E0.P s'.fr s'.hp Tryz.f96.results.toList=some xs/\EN xs=Mm r:=by
 unfold IG at h;refine An (BP (s1:=⟨Fr 28 [(0,.st x0)],[]⟩) AL ?_);refine AJ AC [(0,.st x0)] [] ?_;refine AF ?_;refine AJ AC [(0,.st x0),(3,.v (.int .i64 0))] [] ?_;refine AZ ?_;obtain ⟨r10,hr10,h⟩:=OB h;refine Bj (n:=100000) ?_;rcases r10 with w11 | w15
 ·try dsimp only at h
  refine Aq (Ac (s1:=⟨Fr 28 [(0,.st x0),(3,.v (.int .i64 0))],[]⟩) AL (NL x0 _ 0 _ hr10)) ?_;refine AF ?_;obtain ⟨j13,hj13,h⟩:=OB h;refine AK (s1:=⟨Fr 28 [(2,.v (.bool j13))],[]⟩) ?_ ?_
  ·refine AD (n:=28) AC 4 [(0,.st x0),(23,.v (.bool (decide ((x0.length:Int)≥1))))] [] kr ?_
   rcases BE (decide ((x0.length:Int)≥1)) with hc14 | hc14
   ·rw [if_pos hc14] at hj13
    rw [hc14];refine AD (n:=28) AC 5 [(2,.v (.bool (decide ((x0.length:Int)<=12))))] [] kr ?_;have hq:=OI hj13; subst hq;exact AI rfl AL
   ·rw [BZ hc14] at hj13
    rw [hc14];refine AD (n:=28) AC 5 [(2,.v (.bool false))] [] kr ?_;have hq:=OI hj13; subst hq;exact AI rfl AL
  refine AQ ?_;have hq:=OI h; subst hq;exact ⟨⟨Fr 28 [(2,.v (.bool j13))],[]⟩,AL,.inr rfl,[.v (.bool j13)],kr,kr⟩
 ·try dsimp only at h
  refine Aq (Ac (s1:=⟨Fr 28 [(0,.st x0),(3,.v (.int .i64 0))],[]⟩) AL (NL x0 _ 0 _ hr10)) ?_;have hq:=OI h; subst hq;exact ⟨⟨Fr 28 [(2,.v (.bool w15))],[]⟩,AL,.inr rfl,[.v (.bool w15)],kr,kr⟩
def VY:List AV->Option AV:=Dx Me (fun a=>IG a.1) Mm
theorem Q4:XOk 96 VY:=by
 refine AU Tryz.func96 (c:=Ma) ?h2 ⟨Tryz.call96⟩ Me (fun a=>IG a.1) Mm (fun a=>(by show 1<=28; decide)) ?h3 ?h4
 case h2=>kernel_rfl
 case h3=>intro b; kernel_rfl
 case h4=>exact fun a b h=>TM a.1 b h
/- trestle/court.check$1 -/
noncomputable def M5:Code:=BG Tryz.f160
def Gu (x0:(List UInt8)):Option (Bool) :=
 (IG x0).bind fun v1 =>
 some (!v1)
def Jx:Cs ((List UInt8)×Unit):=(csC cdS csN)
def KH (r:Bool):AV:=cdB.enc r
theorem P7 (x0:(List UInt8)) (r:Bool) (h:Gu x0=some r):Sem E0 ⟨none,false⟩ M5 ⟨Fr 6 (A3 0 (Jx.enc (x0,()))),[]⟩ fun e s'=>(e = .normal\/e = .ret)/\∃ xs,EG E0.P s'.fr s'.hp Tryz.f160.results.toList=some xs/\EN xs=KH r:=by
 unfold Gu at h;refine An (BP (s1:=⟨Fr 6 [(0,.st x0)],[]⟩) AL ?_);refine AJ AC [(0,.st x0)] [] ?_;refine AF ?_;obtain ⟨v1,hv1,h⟩:=OB h;refine AK (s1:=⟨Fr 6 [(2,.v (.bool (!v1)))],[]⟩) ?_ ?_
 ·refine AD (n:=6) AC 1 [(3,.st x0)] [] kr ?_
  refine AT (caps:=[]) (xs:=[.st x0]) (u:=(x0,())) rfl rfl Q4 rfl (AB rfl) kr kr (AM (AX (c:=cdS) (v:=x0)) Aj) (.inl kr) hv1 ?_;exact AW AC
 refine AQ ?_;have hq:=OI h; subst hq;exact ⟨⟨Fr 6 [(2,.v (.bool (!v1)))],[]⟩,AL,.inr rfl,[.v (.bool (!v1))],kr,kr⟩
def SW:List AV->Option AV:=Dx Jx (fun a=>Gu a.1) KH
theorem Sz:XOk 160 SW:=by
 refine AU Tryz.func160 (c:=M5) ?h2 ⟨Tryz.call160⟩ Jx (fun a=>Gu a.1) KH (fun a=>(by show 1<=6; decide)) ?h3 ?h4
 case h2=>kernel_rfl
 case h3=>intro b; kernel_rfl
 case h4=>exact fun a b h=>P7 a.1 b h
/- slices.IndexFunc[[]string,string] -/
noncomputable def CV:Code:=BG Tryz.f90
def BS (x0:(List (List UInt8))):Nat->Int->Option ((Unit) ⊕ (Int))
 | 0,_=>none
 | f + 1,c1 =>
  if (decide (c1 < (x0.length:Int)))=true then
  (idx x0 c1).bind fun v3 =>
  (Gu v3).bind fun v4 =>
  if v4=true then
  some (.inr c1)
  else
  BS x0 f (wr .i64 (c1 + 1))
  else
  some (.inl ())
def BJ (x0:(List (List UInt8))):Option (Int) :=
 (BS x0 100000 0).bind fun r7 =>
 match r7 with
 | (.inl _w8) =>
  some (-1)
 | (.inr w9) =>
  some w9
def Cc:Cs ((List (List UInt8))×Unit×Unit):=(csC (cdL 1 cdS) (csC (cdF 160 csN (fun _=>rfl)) csN))
def Ci (r:Int):AV:=cdI.enc r
theorem DZ (x0:(List (List UInt8))):∀ (f:Nat) (c1:Int) (r:(Unit) ⊕ (Int)),BS x0 f c1=some r->SemN E0 ⟨none,false⟩ (pc CV [1,0,1,0,0]) f ⟨Fr 19 [(0,.sl 1 (x0.map cdS.enc)),(1,.fn 160 [] []),(7,.v (.int .i64 (x0.length:Int))),(8,.v (.int .i64 c1))],[]⟩ (fun e s=>match r with
 | (.inl _w)=>e=(.exit 0)/\Wk E0 s ⟨Fr 19 [],[]⟩
 | (.inr w)=>e = .ret/\Wk E0 s ⟨Fr 19 [(4,.v (.int .i64 w))],[]⟩):=by
 intro f;induction f with
 | zero=>intro c1 r h; cases h
 | succ f ih0 =>
  intro c1 r h
  have ih:=fun (c1:Int)=>ih0 c1 r
  unfold BS at h;refine BR ?_
  let p1:Nat×AV:=(8,.v (.int .i64 c1))
  let p2:Nat×AV:=(7,.v (.int .i64 (x0.length:Int)))
  let p3:Nat×AV:=(1,.fn 160 [] [])
  let p4:Nat×AV:=(0,.sl 1 (x0.map cdS.enc))
  refine AJ AC [p4,p3,p2,p1,(9,.v (.bool (decide (c1 < (x0.length:Int)))))] [] ?_;refine AF ?_;refine AP (b:=(decide (c1 < (x0.length:Int)))) kr (fun hb2=>?_) (fun hb2=>?_)
  ·rw [if_pos hb2] at h
   refine AS ?_;refine AF ?_;refine AZ ?_
   let p5:Nat×AV:=(5,.v (.int .i64 c1))
   refine AJ AC [p4,p3,p5,p2,p1] [] ?_;refine AF ?_;obtain ⟨v3,hv3,h⟩:=OB h;obtain ⟨v4,hv4,h⟩:=OB h;refine AK (s1:=⟨Fr 19 [p4,p3,p5,p2,p1,(16,.v (.bool v4))],[]⟩) ?_ ?_
   ·refine AD (n:=19) AC 3 [p4,p3,p5,p2,p1,(11,.fn 160 [] []),(12,.sl 1 (x0.map cdS.enc)),(13,.v (.int .i64 c1))] [] kr ?_
    refine AR AC 0 rfl (C7 (AB rfl) rfl (AO (a:= .sl 1 (x0.map cdS.enc)) (b:= .v (.int .i64 c1)) kr kr (Dn (e:=cdS.enc) (el:=9) (k:=1) (ki:= .i64) kr kr hv3))) ?_;refine AD (n:=19) AC 1 [p4,p3,p5,p2,p1,(11,.fn 160 [] []),(15,.st v3)] [] kr ?_;refine AT (caps:=[]) (xs:=[.st v3]) (u:=(v3,())) rfl rfl Sz rfl (AB rfl) kr kr (AM (AX (c:=cdS) (v:=v3)) Aj) (.inl kr) hv4 ?_;exact AI rfl AL
   refine AP (b:=v4) kr (fun hb5=>?_) (fun hb5=>?_)
   ·rw [if_pos hb5] at h
    refine AJ AC [(4,.v (.int .i64 c1))] [] ?_;refine AQ ?_;have hq:=OI h; subst hq;exact ⟨rfl,AL⟩
   ·rw [BZ hb5] at h
    refine AS ?_
    let p6:Nat×AV:=(8,.v (.int .i64 (wr .i64 (c1 + 1))))
    refine Cn AC [p4,p3,p2,p6] [] ?_;exact Ac (s1:=⟨Fr 19 [p4,p3,p2,p6],[]⟩) AL (ih (wr .i64 (c1 + 1)) h)
  ·rw [BZ hb2] at h
   refine Bd ?_;have hq:=OI h; subst hq;exact ⟨rfl,AL⟩
theorem GB (x0:(List (List UInt8))) (r:Int) (h:BJ x0=some r):Sem E0 ⟨none,false⟩ CV ⟨Fr 19 (A3 0 (Cc.enc (x0,(),()))),[]⟩ fun e s'=>(e = .normal\/e = .ret)/\∃ xs,EG E0.P s'.fr s'.hp Tryz.f90.results.toList=some xs/\EN xs=Ci r:=by
 unfold BJ at h
 let p1:Nat×AV:=(1,.fn 160 [] [])
 let p2:Nat×AV:=(0,.sl 1 (x0.map cdS.enc))
 refine An (BP (s1:=⟨Fr 19 [p2,p1],[]⟩) AL ?_);refine AJ AC [p2,p1] [] ?_;refine AF ?_;refine AF ?_
 let p3:Nat×AV:=(8,.v (.int .i64 0))
 let p4:Nat×AV:=(7,.v (.int .i64 (x0.length:Int)))
 refine AK (s1:=⟨Fr 19 [p2,p1,p4,p3],[]⟩) ?_ ?_
 ·refine AD (n:=19) AC 1 [p2,p1,(6,.sl 1 (x0.map cdS.enc))] [] kr ?_
  refine AR AC 0 rfl (C7 (AB rfl) rfl (Ck (a:= .sl 1 (x0.map cdS.enc)) kr (Ba (el:=9) kr))) ?_;exact AW AC
 refine AZ ?_;obtain ⟨r7,hr7,h⟩:=OB h;refine Bj (n:=100000) ?_;rcases r7 with w8 | w9
 ·try dsimp only at h
  refine Aq (Ac (s1:=⟨Fr 19 [p2,p1,p4,p3],[]⟩) AL (DZ x0 _ 0 _ hr7)) ?_;refine AJ AC [(4,.v (.int .i64 (-1)))] [] ?_;refine AQ ?_;have hq:=OI h; subst hq;exact ⟨⟨Fr 19 [(4,.v (.int .i64 (-1)))],[]⟩,AL,.inr rfl,[.v (.int .i64 (-1))],kr,kr⟩
 ·try dsimp only at h
  refine Aq (Ac (s1:=⟨Fr 19 [p2,p1,p4,p3],[]⟩) AL (DZ x0 _ 0 _ hr7)) ?_;have hq:=OI h; subst hq;exact ⟨⟨Fr 19 [(4,.v (.int .i64 w9))],[]⟩,AL,.inr rfl,[.v (.int .i64 w9)],kr,kr⟩
def GU:List AV->Option AV:=Dx Cc (fun a=>BJ a.1) Ci
theorem GY:XOk 90 GU:=by
 refine AU Tryz.func90 (c:=CV) ?h2 ⟨Tryz.call90⟩ Cc (fun a=>BJ a.1) Ci (fun a=>(by show 2<=19; decide)) ?h3 ?h4
 case h2=>kernel_rfl
 case h3=>intro b; kernel_rfl
 case h4=>exact fun a b h=>GB a.1 b h
/- slices.ContainsFunc[[]string,string] -/
noncomputable def DS:Code:=BG Tryz.f36
def Am (x0:(List (List UInt8))):Option (Bool) :=
 (BJ x0).bind fun v1 =>
 some (decide (v1≥0))
def CL:Cs ((List (List UInt8))×Unit×Unit):=(csC (cdL 1 cdS) (csC (cdF 160 csN (fun _=>rfl)) csN))
def CN (r:Bool):AV:=cdB.enc r
theorem Fh (x0:(List (List UInt8))) (r:Bool) (h:Am x0=some r):Sem E0 ⟨none,false⟩ DS ⟨Fr 9 (A3 0 (CL.enc (x0,(),()))),[]⟩ fun e s'=>(e = .normal\/e = .ret)/\∃ xs,EG E0.P s'.fr s'.hp Tryz.f36.results.toList=some xs/\EN xs=CN r:=by
 unfold Am at h;refine An (BP (s1:=⟨Fr 9 [(0,.sl 1 (x0.map cdS.enc)),(1,.fn 160 [] [])],[]⟩) AL ?_);refine AJ AC [(0,.sl 1 (x0.map cdS.enc)),(1,.fn 160 [] [])] [] ?_;refine AF ?_;obtain ⟨v1,hv1,h⟩:=OB h
 let p1:Nat×AV:=(4,.v (.bool (decide (v1≥0))))
 refine AK (s1:=⟨Fr 9 [p1],[]⟩) ?_ ?_
 ·refine AD (n:=9) AC 2 [(5,.sl 1 (x0.map cdS.enc)),(6,.fn 160 [] [])] [] kr ?_
  refine AT (caps:=[]) (xs:=[.sl 1 (x0.map cdS.enc),.fn 160 [] []]) (u:=(x0,(),())) rfl rfl GY rfl (AB rfl) kr kr (AM (AX (c:=(cdL 1 cdS)) (v:=x0)) (AM (Sm.fn Aj) Aj)) (.inl kr) hv1 ?_;exact AW AC
 refine AQ ?_;have hq:=OI h; subst hq;exact ⟨⟨Fr 9 [p1],[]⟩,AL,.inr rfl,[.v (.bool (decide (v1≥0)))],kr,kr⟩
def F0:List AV->Option AV:=Dx CL (fun a=>Am a.1) CN
theorem Dg:XOk 36 F0:=by
 refine AU Tryz.func36 (c:=DS) ?h2 ⟨Tryz.call36⟩ CL (fun a=>Am a.1) CN (fun a=>(by show 2<=9; decide)) ?h3 ?h4
 case h2=>kernel_rfl
 case h3=>intro b; kernel_rfl
 case h4=>exact fun a b h=>Fh a.1 b h
/- slices.Index[[]string,string] -/
noncomputable def FG:Code:=BG Tryz.f41
def BW (x0:(List (List UInt8))) (x1:(List UInt8)):Nat->Int->Option ((Unit) ⊕ (Int))
 | 0,_=>none
 | f + 1,c1 =>
  if (decide (c1 < (x0.length:Int)))=true then
  (idx x0 c1).bind fun v3 =>
  if (x1==v3)=true then
  some (.inr c1)
  else
  BW x0 x1 f (wr .i64 (c1 + 1))
  else
  some (.inl ())
def CA (x0:(List (List UInt8))) (x1:(List UInt8)):Option (Int) :=
 (BW x0 x1 100000 0).bind fun r6 =>
 match r6 with
 | (.inl _w7) =>
  some (-1)
 | (.inr w8) =>
  some w8
def FJ:Cs ((List (List UInt8))×(List UInt8)×Unit):=(csC (cdL 1 cdS) (csC cdS csN))
def FL (r:Int):AV:=cdI.enc r
theorem Gd (x0:(List (List UInt8))) (x1:(List UInt8)):∀ (f:Nat) (c1:Int) (r:(Unit) ⊕ (Int)),BW x0 x1 f c1=some r->SemN E0 ⟨none,false⟩ (pc FG [1,0,1,0,0]) f ⟨Fr 19 [(0,.sl 1 (x0.map cdS.enc)),(1,.st x1),(7,.v (.int .i64 (x0.length:Int))),(8,.v (.int .i64 c1))],[]⟩ (fun e s=>match r with
 | (.inl _w)=>e=(.exit 0)/\Wk E0 s ⟨Fr 19 [],[]⟩
 | (.inr w)=>e = .ret/\Wk E0 s ⟨Fr 19 [(4,.v (.int .i64 w))],[]⟩):=by
 intro f;induction f with
 | zero=>intro c1 r h; cases h
 | succ f ih0 =>
  intro c1 r h
  have ih:=fun (c1:Int)=>ih0 c1 r
  unfold BW at h;refine BR ?_
  let p1:Nat×AV:=(8,.v (.int .i64 c1))
  let p2:Nat×AV:=(7,.v (.int .i64 (x0.length:Int)))
  let p3:Nat×AV:=(0,.sl 1 (x0.map cdS.enc))
  refine AJ AC [p3,(1,.st x1),p2,p1,(9,.v (.bool (decide (c1 < (x0.length:Int)))))] [] ?_;refine AF ?_;refine AP (b:=(decide (c1 < (x0.length:Int)))) kr (fun hb2=>?_) (fun hb2=>?_)
  ·rw [if_pos hb2] at h
   refine AS ?_;refine AF ?_;refine AZ ?_
   let p4:Nat×AV:=(5,.v (.int .i64 c1))
   refine AJ AC [p3,(1,.st x1),p4,p2,p1] [] ?_;refine AF ?_;obtain ⟨v3,hv3,h⟩:=OB h;refine AK (s1:=⟨Fr 19 [p3,(1,.st x1),p4,p2,p1,(16,.v (.bool (x1==v3)))],[]⟩) ?_ ?_
   ·refine AD (n:=19) AC 3 [p3,(1,.st x1),p4,p2,p1,(11,.st x1),(12,.sl 1 (x0.map cdS.enc)),(13,.v (.int .i64 c1))] [] kr ?_
    refine AR AC 0 rfl (C7 (AB rfl) rfl (AO (a:= .sl 1 (x0.map cdS.enc)) (b:= .v (.int .i64 c1)) kr kr (Dn (e:=cdS.enc) (el:=9) (k:=1) (ki:= .i64) kr kr hv3))) ?_;exact AW AC
   refine AP (b:=(x1==v3)) kr (fun hb4=>?_) (fun hb4=>?_)
   ·rw [if_pos hb4] at h
    refine AJ AC [(4,.v (.int .i64 c1))] [] ?_;refine AQ ?_;have hq:=OI h; subst hq;exact ⟨rfl,AL⟩
   ·rw [BZ hb4] at h
    refine AS ?_
    let p5:Nat×AV:=(8,.v (.int .i64 (wr .i64 (c1 + 1))))
    refine Cn AC [p3,(1,.st x1),p2,p5] [] ?_;exact Ac (s1:=⟨Fr 19 [p3,(1,.st x1),p2,p5],[]⟩) AL (ih (wr .i64 (c1 + 1)) h)
  ·rw [BZ hb2] at h
   refine Bd ?_;have hq:=OI h; subst hq;exact ⟨rfl,AL⟩
theorem Jf (x0:(List (List UInt8))) (x1:(List UInt8)) (r:Int) (h:CA x0 x1=some r):Sem E0 ⟨none,false⟩ FG ⟨Fr 19 (A3 0 (FJ.enc (x0,x1,()))),[]⟩ fun e s'=>(e = .normal\/e = .ret)/\∃ xs,EG E0.P s'.fr s'.hp Tryz.f41.results.toList=some xs/\EN xs=FL r:=by
 unfold CA at h
 let p1:Nat×AV:=(0,.sl 1 (x0.map cdS.enc))
 refine An (BP (s1:=⟨Fr 19 [p1,(1,.st x1)],[]⟩) AL ?_);refine AJ AC [p1,(1,.st x1)] [] ?_;refine AF ?_;refine AF ?_
 let p2:Nat×AV:=(8,.v (.int .i64 0))
 let p3:Nat×AV:=(7,.v (.int .i64 (x0.length:Int)))
 refine AK (s1:=⟨Fr 19 [p1,(1,.st x1),p3,p2],[]⟩) ?_ ?_
 ·refine AD (n:=19) AC 1 [p1,(1,.st x1),(6,.sl 1 (x0.map cdS.enc))] [] kr ?_
  refine AR AC 0 rfl (C7 (AB rfl) rfl (Ck (a:= .sl 1 (x0.map cdS.enc)) kr (Ba (el:=9) kr))) ?_;exact AW AC
 refine AZ ?_;obtain ⟨r6,hr6,h⟩:=OB h;refine Bj (n:=100000) ?_;rcases r6 with w7 | w8
 ·try dsimp only at h
  refine Aq (Ac (s1:=⟨Fr 19 [p1,(1,.st x1),p3,p2],[]⟩) AL (Gd x0 x1 _ 0 _ hr6)) ?_;refine AJ AC [(4,.v (.int .i64 (-1)))] [] ?_;refine AQ ?_;have hq:=OI h; subst hq;exact ⟨⟨Fr 19 [(4,.v (.int .i64 (-1)))],[]⟩,AL,.inr rfl,[.v (.int .i64 (-1))],kr,kr⟩
 ·try dsimp only at h
  refine Aq (Ac (s1:=⟨Fr 19 [p1,(1,.st x1),p3,p2],[]⟩) AL (Gd x0 x1 _ 0 _ hr6)) ?_;have hq:=OI h; subst hq;exact ⟨⟨Fr 19 [(4,.v (.int .i64 w8))],[]⟩,AL,.inr rfl,[.v (.int .i64 w8)],kr,kr⟩
def Kp:List AV->Option AV:=Dx FJ (fun a=>CA a.1 a.2.1) FL
theorem HG:XOk 41 Kp:=by
 refine AU Tryz.func41 (c:=FG) ?h2 ⟨Tryz.call41⟩ FJ (fun a=>CA a.1 a.2.1) FL (fun a=>(by show 2<=19; decide)) ?h3 ?h4
 case h2=>kernel_rfl
 case h3=>intro b; kernel_rfl
 case h4=>exact fun a b h=>Jf a.1 a.2.1 b h
/- slices.Contains[[]string,string] -/
noncomputable def Gb:Code:=BG Tryz.f97
def BO (x0:(List (List UInt8))) (x1:(List UInt8)):Option (Bool) :=
 (CA x0 x1).bind fun v1 =>
 some (decide (v1≥0))
def EO:Cs ((List (List UInt8))×(List UInt8)×Unit):=(csC (cdL 1 cdS) (csC cdS csN))
def EP (r:Bool):AV:=cdB.enc r
theorem It (x0:(List (List UInt8))) (x1:(List UInt8)) (r:Bool) (h:BO x0 x1=some r):Sem E0 ⟨none,false⟩ Gb ⟨Fr 9 (A3 0 (EO.enc (x0,x1,()))),[]⟩ fun e s'=>(e = .normal\/e = .ret)/\∃ xs,EG E0.P s'.fr s'.hp Tryz.f97.results.toList=some xs/\EN xs=EP r:=by
 unfold BO at h;refine An (BP (s1:=⟨Fr 9 [(0,.sl 1 (x0.map cdS.enc)),(1,.st x1)],[]⟩) AL ?_);refine AJ AC [(0,.sl 1 (x0.map cdS.enc)),(1,.st x1)] [] ?_;refine AF ?_;obtain ⟨v1,hv1,h⟩:=OB h
 let p1:Nat×AV:=(4,.v (.bool (decide (v1≥0))))
 refine AK (s1:=⟨Fr 9 [p1],[]⟩) ?_ ?_
 ·refine AD (n:=9) AC 2 [(5,.sl 1 (x0.map cdS.enc)),(6,.st x1)] [] kr ?_
  refine AT (caps:=[]) (xs:=[.sl 1 (x0.map cdS.enc),.st x1]) (u:=(x0,x1,())) rfl rfl HG rfl (AB rfl) kr kr (AM (AX (c:=(cdL 1 cdS)) (v:=x0)) (AM (AX (c:=cdS) (v:=x1)) Aj)) (.inl kr) hv1 ?_;exact AW AC
 refine AQ ?_;have hq:=OI h; subst hq;exact ⟨⟨Fr 9 [p1],[]⟩,AL,.inr rfl,[.v (.bool (decide (v1≥0)))],kr,kr⟩
def JO:List AV->Option AV:=Dx EO (fun a=>BO a.1 a.2.1) EP
theorem Di:XOk 97 JO:=by
 refine AU Tryz.func97 (c:=Gb) ?h2 ⟨Tryz.call97⟩ EO (fun a=>BO a.1 a.2.1) EP (fun a=>(by show 2<=9; decide)) ?h3 ?h4
 case h2=>kernel_rfl
 case h3=>intro b; kernel_rfl
 case h4=>exact fun a b h=>It a.1 a.2.1 b h
/- trestle/court.check$2 -/
noncomputable def M6:Code:=BG Tryz.f161
def Gv (x0:AG) (x1:AG):Option (Bool) :=
 (if (x0.1==1)=true then (BO x0.2.2.2.1 x1.2.1).bind fun v1 =>
 some v1 else some false).bind fun j3 =>
 some j3
def Jy:Cs (AG×AG×Unit):=(csC AA (csC (cdP AA) csN))
def KI (r:Bool):AV:=cdB.enc r
theorem P8 (x0:AG) (x1:AG) (r:Bool) (h:Gv x0 x1=some r):Sem E0 ⟨none,false⟩ M6 ⟨Fr 14 (A3 0 (Jy.enc (x0,x1,()))),[]⟩ fun e s'=>(e = .normal\/e = .ret)/\∃ xs,EG E0.P s'.fr s'.hp Tryz.f161.results.toList=some xs/\EN xs=KI r:=by
 unfold Gv at h;refine An (BP (s1:=⟨Fr 14 [(0,AA.enc x0),(1,.pe (AA.enc x1) 0)],[]⟩) AL ?_);refine AJ AC [(1,.pe (AA.enc x1) 0),(2,.pt 0 0 0)] [some ⟨5,60,[AA.enc x0],false⟩] ?_;refine AF ?_;obtain ⟨j3,hj3,h⟩:=OB h;refine AK (s1:=⟨Fr 14 [(3,.v (.bool j3))],[]⟩) ?_ ?_
 ·refine AD (n:=14) AC 4 [(1,.pe (AA.enc x1) 0),(2,.pt 0 0 0),(7,.v (.bool (x0.1==1)))] [some ⟨5,60,[AA.enc x0],false⟩] kr ?_
  rcases BE (x0.1==1) with hc4 | hc4
  ·rw [if_pos hc4] at hj3
   rw [hc4];refine AD (n:=14) AC 4 [(7,.v (.bool true)),(9,.sl 1 (x0.2.2.2.1.map cdS.enc)),(11,.st x1.2.1)] [some ⟨5,60,[AA.enc x0],false⟩] kr ?_;obtain ⟨v1,hv1,hj3⟩:=OB hj3;refine AT (caps:=[]) (xs:=[.sl 1 (x0.2.2.2.1.map cdS.enc),.st x1.2.1]) (u:=(x0.2.2.2.1,x1.2.1,())) rfl rfl Di rfl kr kr kr (AM (AX (c:=(cdL 1 cdS)) (v:=x0.2.2.2.1)) (AM (AX (c:=cdS) (v:=x1.2.1)) Aj)) (.inl kr) hv1 ?_;refine AD (n:=14) AC 2 [(3,.v (.bool v1))] [some ⟨5,60,[AA.enc x0],false⟩] kr ?_;have hq:=OI hj3; subst hq;exact AI rfl (Ad [] trivial ⟨lv,trivial⟩)
  ·rw [BZ hc4] at hj3
   rw [hc4];refine AD (n:=14) AC 7 [(3,.v (.bool false))] [some ⟨5,60,[AA.enc x0],false⟩] kr ?_;have hq:=OI hj3; subst hq;exact AI rfl (Ad [] trivial ⟨lv,trivial⟩)
 refine AQ ?_;have hq:=OI h; subst hq;exact ⟨⟨Fr 14 [(3,.v (.bool j3))],[]⟩,AL,.inr rfl,[.v (.bool j3)],kr,kr⟩
def SX:List AV->Option AV:=Dx Jy (fun a=>Gv a.1 a.2.1) KI
theorem S0:XOk 161 SX:=by
 refine AU Tryz.func161 (c:=M6) ?h2 ⟨Tryz.call161⟩ Jy (fun a=>Gv a.1 a.2.1) KI (fun a=>(by show 2<=14; decide)) ?h3 ?h4
 case h2=>kernel_rfl
 case h3=>intro b; kernel_rfl
 case h4=>exact fun a b h=>P8 a.1 a.2.1 b h
/- slices.IndexFunc[[]trestle/api.Clause,trestle/api.Clause] -/
noncomputable def B5:Code:=BG Tryz.f85
def A6 (x0:(List AG)) (x1:AG):Nat->Int->Option ((Unit) ⊕ (Int))
 | 0,_=>none
 | f + 1,c1 =>
  if (decide (c1 < (x0.length:Int)))=true then
  (idx x0 c1).bind fun v3 =>
  (Gv v3 x1).bind fun v4 =>
  if v4=true then
  some (.inr c1)
  else
  A6 x0 x1 f (wr .i64 (c1 + 1))
  else
  some (.inl ())
def Ax (x0:(List AG)) (x1:AG):Option (Int) :=
 (A6 x0 x1 100000 0).bind fun r7 =>
 match r7 with
 | (.inl _w8) =>
  some (-1)
 | (.inr w9) =>
  some w9
def B6:Cs ((List AG)×AG×Unit):=(csC (cdL 5 AA) (csC (cdF 161 (csE (cdP AA)) (fun _=>rfl)) csN))
def B7 (r:Int):AV:=cdI.enc r
theorem Cz (x0:(List AG)) (x1:AG):∀ (f:Nat) (c1:Int) (r:(Unit) ⊕ (Int)),A6 x0 x1 f c1=some r->SemN E0 ⟨none,false⟩ (pc B5 [1,0,1,0,0]) f ⟨Fr 19 [(0,.sl 5 (x0.map AA.enc)),(1,.fn 161 [] [.pe (AA.enc x1) 0]),(7,.v (.int .i64 (x0.length:Int))),(8,.v (.int .i64 c1))],[]⟩ (fun e s=>match r with
 | (.inl _w)=>e=(.exit 0)/\Wk E0 s ⟨Fr 19 [],[]⟩
 | (.inr w)=>e = .ret/\Wk E0 s ⟨Fr 19 [(4,.v (.int .i64 w))],[]⟩):=by
 intro f;induction f with
 | zero=>intro c1 r h; cases h
 | succ f ih0 =>
  intro c1 r h
  have ih:=fun (c1:Int)=>ih0 c1 r
  unfold A6 at h;refine BR ?_
  let p1:Nat×AV:=(8,.v (.int .i64 c1))
  let p2:Nat×AV:=(7,.v (.int .i64 (x0.length:Int)))
  let p3:Nat×AV:=(1,.fn 161 [] [.pe (AA.enc x1) 0])
  let p4:Nat×AV:=(0,.sl 5 (x0.map AA.enc))
  refine AJ AC [p4,p3,p2,p1,(9,.v (.bool (decide (c1 < (x0.length:Int)))))] [] ?_;refine AF ?_;refine AP (b:=(decide (c1 < (x0.length:Int)))) kr (fun hb2=>?_) (fun hb2=>?_)
  ·rw [if_pos hb2] at h
   refine AS ?_;refine AF ?_;refine AZ ?_
   let p5:Nat×AV:=(5,.v (.int .i64 c1))
   refine AJ AC [p4,p3,p5,p2,p1] [] ?_;refine AF ?_;obtain ⟨v3,hv3,h⟩:=OB h;obtain ⟨v4,hv4,h⟩:=OB h;refine AK (s1:=⟨Fr 19 [p4,p3,p5,p2,p1,(16,.v (.bool v4))],[]⟩) ?_ ?_
   ·let p6:Nat×AV:=(11,.fn 161 [] [.pe (AA.enc x1) 0])
    refine AD (n:=19) AC 3 [p4,p3,p5,p2,p1,p6,(12,.sl 5 (x0.map AA.enc)),(13,.v (.int .i64 c1))] [] kr ?_;refine AR AC 0 rfl (C7 (AB rfl) rfl (AO (a:= .sl 5 (x0.map AA.enc)) (b:= .v (.int .i64 c1)) kr kr (Dn (e:=AA.enc) (el:=60) (k:=5) (ki:= .i64) kr kr hv3))) ?_;refine AD (n:=19) AC 1 [p4,p3,p5,p2,p1,p6,(15,AA.enc v3)] [] kr ?_;refine AT (caps:=[.pe (AA.enc x1) 0]) (xs:=[AA.enc v3]) (u:=(v3,x1,())) rfl rfl S0 rfl (AB rfl) kr kr (AM (AX (c:=AA) (v:=v3)) (AM (AX (c:=(cdP AA)) (v:=x1)) Aj)) (.inl kr) hv4 ?_;exact AI rfl AL
   refine AP (b:=v4) kr (fun hb5=>?_) (fun hb5=>?_)
   ·rw [if_pos hb5] at h
    refine AJ AC [(4,.v (.int .i64 c1))] [] ?_;refine AQ ?_;have hq:=OI h; subst hq;exact ⟨rfl,AL⟩
   ·rw [BZ hb5] at h
    refine AS ?_
    let p7:Nat×AV:=(8,.v (.int .i64 (wr .i64 (c1 + 1))))
    refine Cn AC [p4,p3,p2,p7] [] ?_;exact Ac (s1:=⟨Fr 19 [p4,p3,p2,p7],[]⟩) AL (ih (wr .i64 (c1 + 1)) h)
  ·rw [BZ hb2] at h
   refine Bd ?_;have hq:=OI h; subst hq;exact ⟨rfl,AL⟩
theorem Es (x0:(List AG)) (x1:AG) (r:Int) (h:Ax x0 x1=some r):Sem E0 ⟨none,false⟩ B5 ⟨Fr 19 (A3 0 (B6.enc (x0,x1,()))),[]⟩ fun e s'=>(e = .normal\/e = .ret)/\∃ xs,EG E0.P s'.fr s'.hp Tryz.f85.results.toList=some xs/\EN xs=B7 r:=by
 unfold Ax at h
 let p1:Nat×AV:=(1,.fn 161 [] [.pe (AA.enc x1) 0])
 let p2:Nat×AV:=(0,.sl 5 (x0.map AA.enc))
 refine An (BP (s1:=⟨Fr 19 [p2,p1],[]⟩) AL ?_);refine AJ AC [p2,p1] [] ?_;refine AF ?_;refine AF ?_
 let p3:Nat×AV:=(8,.v (.int .i64 0))
 let p4:Nat×AV:=(7,.v (.int .i64 (x0.length:Int)))
 refine AK (s1:=⟨Fr 19 [p2,p1,p4,p3],[]⟩) ?_ ?_
 ·refine AD (n:=19) AC 1 [p2,p1,(6,.sl 5 (x0.map AA.enc))] [] kr ?_
  refine AR AC 0 rfl (C7 (AB rfl) rfl (Ck (a:= .sl 5 (x0.map AA.enc)) kr (Ba (el:=60) kr))) ?_;exact AW AC
 refine AZ ?_;obtain ⟨r7,hr7,h⟩:=OB h;refine Bj (n:=100000) ?_;rcases r7 with w8 | w9
 ·try dsimp only at h
  refine Aq (Ac (s1:=⟨Fr 19 [p2,p1,p4,p3],[]⟩) AL (Cz x0 x1 _ 0 _ hr7)) ?_;refine AJ AC [(4,.v (.int .i64 (-1)))] [] ?_;refine AQ ?_;have hq:=OI h; subst hq;exact ⟨⟨Fr 19 [(4,.v (.int .i64 (-1)))],[]⟩,AL,.inr rfl,[.v (.int .i64 (-1))],kr,kr⟩
 ·try dsimp only at h
  refine Aq (Ac (s1:=⟨Fr 19 [p2,p1,p4,p3],[]⟩) AL (Cz x0 x1 _ 0 _ hr7)) ?_;have hq:=OI h; subst hq;exact ⟨⟨Fr 19 [(4,.v (.int .i64 w9))],[]⟩,AL,.inr rfl,[.v (.int .i64 w9)],kr,kr⟩
def FP:List AV->Option AV:=Dx B6 (fun a=>Ax a.1 a.2.1) B7
theorem FQ:XOk 85 FP:=by
 refine AU Tryz.func85 (c:=B5) ?h2 ⟨Tryz.call85⟩ B6 (fun a=>Ax a.1 a.2.1) B7 (fun a=>(by show 2<=19; decide)) ?h3 ?h4
 case h2=>kernel_rfl
 case h3=>intro b; kernel_rfl
 case h4=>exact fun a b h=>Es a.1 a.2.1 b h
/- slices.ContainsFunc[[]trestle/api.Clause,trestle/api.Clause] -/
noncomputable def Cw:Code:=BG Tryz.f53
def Ah (x0:(List AG)) (x1:AG):Option (Bool) :=
 (Ax x0 x1).bind fun v1 =>
 some (decide (v1≥0))
def Bp:Cs ((List AG)×AG×Unit):=(csC (cdL 5 AA) (csC (cdF 161 (csE (cdP AA)) (fun _=>rfl)) csN))
def Bq (r:Bool):AV:=cdB.enc r
theorem ER (x0:(List AG)) (x1:AG) (r:Bool) (h:Ah x0 x1=some r):Sem E0 ⟨none,false⟩ Cw ⟨Fr 9 (A3 0 (Bp.enc (x0,x1,()))),[]⟩ fun e s'=>(e = .normal\/e = .ret)/\∃ xs,EG E0.P s'.fr s'.hp Tryz.f53.results.toList=some xs/\EN xs=Bq r:=by
 unfold Ah at h
 let p1:Nat×AV:=(1,.fn 161 [] [.pe (AA.enc x1) 0])
 let p2:Nat×AV:=(0,.sl 5 (x0.map AA.enc))
 refine An (BP (s1:=⟨Fr 9 [p2,p1],[]⟩) AL ?_);refine AJ AC [p2,p1] [] ?_;refine AF ?_;obtain ⟨v1,hv1,h⟩:=OB h
 let p3:Nat×AV:=(4,.v (.bool (decide (v1≥0))))
 refine AK (s1:=⟨Fr 9 [p3],[]⟩) ?_ ?_
 ·refine AD (n:=9) AC 2 [(5,.sl 5 (x0.map AA.enc)),(6,.fn 161 [] [.pe (AA.enc x1) 0])] [] kr ?_
  refine AT (caps:=[]) (xs:=[.sl 5 (x0.map AA.enc),.fn 161 [] [.pe (AA.enc x1) 0]]) (u:=(x0,x1,())) rfl rfl FQ rfl (AB rfl) kr kr (AM (AX (c:=(cdL 5 AA)) (v:=x0)) (AM (Sm.fn (T5 (AX (c:=(cdP AA)) (v:=x1)))) Aj)) (.inl kr) hv1 ?_;exact AW AC
 refine AQ ?_;have hq:=OI h; subst hq;exact ⟨⟨Fr 9 [p3],[]⟩,AL,.inr rfl,[.v (.bool (decide (v1≥0)))],kr,kr⟩
def En:List AV->Option AV:=Dx Bp (fun a=>Ah a.1 a.2.1) Bq
theorem Eo:XOk 53 En:=by
 refine AU Tryz.func53 (c:=Cw) ?h2 ⟨Tryz.call53⟩ Bp (fun a=>Ah a.1 a.2.1) Bq (fun a=>(by show 2<=9; decide)) ?h3 ?h4
 case h2=>kernel_rfl
 case h3=>intro b; kernel_rfl
 case h4=>exact fun a b h=>ER a.1 a.2.1 b h
/- trestle/court.check -/
noncomputable def Lr:Code:=BG Tryz.f128
def Fc (x0:(List AG)) (x1:AG):Nat->Int->Option ((Unit) ⊕ (Int))
 | 0,_=>none
 | f + 1,c9 =>
  if (decide (c9 < (x1.2.2.2.1.length:Int)))=true then
  (idx x1.2.2.2.1 c9).bind fun v11 =>
  if (Ns 0 c9 x1.2.2.2.1.length)=true then
  (BO ((x1.2.2.2.1.take c9.toNat).drop (0:Int).toNat) v11).bind fun v13 =>
  if v13=true then
  some (.inr 5)
  else
  Fc x0 x1 f (wr .i64 (c9 + 1))
  else none
  else
  some (.inl ())
def H0 (x0:(List AG)) (x1:AG):Option (Int) :=
 (CY x1).bind fun v1 =>
 if (!v1)=true then
 some 30
 else
 (if (!(x1.2.1==[]))=true then (IG x1.2.1).bind fun v3 =>
 if (!v3)=true then some true else (Am x1.2.2.2.1).bind fun v4 =>
 some v4 else (Am x1.2.2.2.1).bind fun v5 =>
 some v5).bind fun j7 =>
 if j7=true then
 some 4
 else
 (Fc x0 x1 100000 0).bind fun r16 =>
 match r16 with
 | (.inl _w17) =>
  (if (x1.2.1==[])=true then some true else (Ah x0 x1).bind fun v18 =>
  some v18).bind fun j20 =>
  if j20=true then
  some 0
  else
  some 31
 | (.inr w23) =>
  some w23
def Lx:Cs ((List AG)×AG×Unit):=(csC (cdL 5 AA) (csC AA csN))
def L3 (r:Int):AV:=cdI.enc r
theorem ML (x0:(List AG)) (x1:AG):∀ (f:Nat) (c9:Int) (r:(Unit) ⊕ (Int)),Fc x0 x1 f c9=some r->SemN E0 ⟨none,false⟩ (pc Lr [1,1,1,0,1,0,0]) f ⟨Fr 47 [(0,.sl 5 (x0.map AA.enc)),(3,.pt 0 0 0),(25,.sl 1 (x1.2.2.2.1.map cdS.enc)),(26,.v (.int .i64 (x1.2.2.2.1.length:Int))),(27,.v (.int .i64 c9))],[some ⟨5,60,[AA.enc x1],false⟩]⟩ (fun e s=>match r with
 | (.inl _w)=>e=(.exit 0)/\Wk E0 s ⟨Fr 47 [(0,.sl 5 (x0.map AA.enc)),(3,.pt 0 0 0)],[some ⟨5,60,[AA.enc x1],false⟩]⟩
 | (.inr w)=>e = .ret/\Wk E0 s ⟨Fr 47 [(4,.v (.int .i64 w))],[]⟩):=by
 intro f;induction f with
 | zero=>intro c9 r h; cases h
 | succ f ih0 =>
  intro c9 r h
  have ih:=fun (c9:Int)=>ih0 c9 r
  unfold Fc at h;refine BR ?_
  let p1:Option Blk:=some ⟨5,60,[AA.enc x1],false⟩
  let p2:Nat×AV:=(27,.v (.int .i64 c9))
  let p3:Nat×AV:=(26,.v (.int .i64 (x1.2.2.2.1.length:Int)))
  let p4:Nat×AV:=(25,.sl 1 (x1.2.2.2.1.map cdS.enc))
  let p5:Nat×AV:=(3,.pt 0 0 0)
  let p6:Nat×AV:=(0,.sl 5 (x0.map AA.enc))
  refine AJ AC [p6,p5,p4,p3,p2,(28,.v (.bool (decide (c9 < (x1.2.2.2.1.length:Int)))))] [p1] ?_;refine AF ?_;refine AP (b:=(decide (c9 < (x1.2.2.2.1.length:Int)))) kr (fun hb10=>?_) (fun hb10=>?_)
  ·rw [if_pos hb10] at h
   refine AS ?_;refine AF ?_;refine AZ ?_;refine AF ?_;obtain ⟨v11,hv11,h⟩:=OB h;refine AK (s1:=⟨Fr 47 [p6,p5,(5,.v (.int .i64 c9)),(6,.st v11),p4,p3,p2],[p1]⟩) ?_ ?_
   ·refine AD (n:=47) AC 1 [p6,p5,p4,p3,p2,(29,.v (.int .i64 c9))] [p1] kr ?_
    refine AR AC 0 rfl (C7 (AB rfl) rfl (AO (a:= .sl 1 (x1.2.2.2.1.map cdS.enc)) (b:= .v (.int .i64 c9)) kr kr (Dn (e:=cdS.enc) (el:=9) (k:=1) (ki:= .i64) kr kr hv11))) ?_;exact AW AC
   refine AF ?_;by_cases hk12:(Ns 0 c9 x1.2.2.2.1.length)=true
   case neg=>rw [if_neg hk12] at h; cases h
   rw [if_pos hk12] at h;obtain ⟨v13,hv13,h⟩:=OB h;refine AK (s1:=⟨Fr 47 [p6,p5,p4,p3,p2,(37,.v (.bool v13))],[p1]⟩) ?_ ?_
   ·refine AD (n:=47) AC 3 [p6,p5,(6,.st v11),p4,p3,p2,(33,.sl 1 (x1.2.2.2.1.map cdS.enc)),(34,.v (.int .i64 c9))] [p1] kr ?_
    refine AR AC 0 rfl (C7 (AB rfl) rfl (SL (a:= .sl 1 (x1.2.2.2.1.map cdS.enc)) (l:=none) (u:=(some (.v (.int .i64 c9)))) (m:=none) kr kr kr rfl (UZ (xs:=x1.2.2.2.1) (e:=cdS.enc) (k:=1) (el:=9) (lo:=0) (hi:=c9) kr kr rfl (W2 (YJ hk12)) hk12))) ?_;refine AD (n:=47) AC 1 [p6,p5,p4,p3,p2,(35,.sl 1 (((x1.2.2.2.1.take c9.toNat).drop (0:Int).toNat).map cdS.enc)),(36,.st v11)] [p1] kr ?_;refine AT (caps:=[]) (xs:=[.sl 1 (((x1.2.2.2.1.take c9.toNat).drop (0:Int).toNat).map cdS.enc),.st v11]) (u:=(((x1.2.2.2.1.take c9.toNat).drop (0:Int).toNat),v11,())) rfl rfl Di rfl (AB rfl) kr kr (AM (AX (c:=(cdL 1 cdS)) (v:=((x1.2.2.2.1.take c9.toNat).drop (0:Int).toNat))) (AM (AX (c:=cdS) (v:=v11)) Aj)) (.inl kr) hv13 ?_;exact AI rfl (Ad [0] ⟨⟨_,rfl,Ga⟩,trivial⟩ ⟨lv,lv,lv,lv,lv,lv,trivial⟩)
   refine AP (b:=v13) kr (fun hb14=>?_) (fun hb14=>?_)
   ·rw [if_pos hb14] at h
    refine AF ?_;refine AK (s1:=⟨Fr 47 [(4,.v (.int .i64 5))],[]⟩) ?_ ?_
    ·refine AD (n:=47) AC 1 [(4,.v (.int .i64 5))] [p1] kr ?_
     exact AI rfl (Ad [] trivial ⟨lv,trivial⟩)
    refine AQ ?_;have hq:=OI h; subst hq;exact ⟨rfl,AL⟩
   ·rw [BZ hb14] at h
    refine AS ?_
    let p7:Nat×AV:=(27,.v (.int .i64 (wr .i64 (c9 + 1))))
    refine Cn AC [p6,p5,p4,p3,p7] [p1] ?_;exact Ac (s1:=⟨Fr 47 [p6,p5,p4,p3,p7],[p1]⟩) (Ad [0] ⟨⟨_,rfl,Ga⟩,trivial⟩ ⟨lv,lv,lv,lv,lv,trivial⟩) (ih (wr .i64 (c9 + 1)) h)
  ·rw [BZ hb10] at h
   refine Bd ?_;have hq:=OI h; subst hq;exact ⟨rfl,(Ad [0] ⟨⟨_,rfl,Ga⟩,trivial⟩ ⟨lv,lv,trivial⟩)⟩
theorem Rv (x0:(List AG)) (x1:AG) (r:Int) (h:H0 x0 x1=some r):Sem E0 ⟨none,false⟩ Lr ⟨Fr 47 (A3 0 (Lx.enc (x0,x1,()))),[]⟩ fun e s'=>(e = .normal\/e = .ret)/\∃ xs,EG E0.P s'.fr s'.hp Tryz.f128.results.toList=some xs/\EN xs=L3 r:=by
 unfold H0 at h;refine An (BP (s1:=⟨Fr 47 [(0,.sl 5 (x0.map AA.enc)),(1,AA.enc x1)],[]⟩) AL ?_);refine AJ AC [(0,.sl 5 (x0.map AA.enc)),(3,.pt 0 0 0)] [some ⟨5,60,[AA.enc x1],false⟩] ?_;refine AF ?_;refine AF ?_;obtain ⟨v1,hv1,h⟩:=OB h;refine AK (s1:=⟨Fr 47 [(0,.sl 5 (x0.map AA.enc)),(3,.pt 0 0 0),(9,.v (.bool (!v1)))],[some ⟨5,60,[AA.enc x1],false⟩]⟩) ?_ ?_
 ·refine AD (n:=47) AC 1 [(0,.sl 5 (x0.map AA.enc)),(3,.pt 0 0 0),(7,AA.enc x1)] [some ⟨5,60,[AA.enc x1],false⟩] kr ?_
  refine AT (caps:=[]) (xs:=[AA.enc x1]) (u:=(x1,())) rfl rfl Tb rfl (AB rfl) kr kr (AM (AX (c:=AA) (v:=x1)) Aj) (.inl kr) hv1 ?_;exact AW AC
 refine AP (b:=(!v1)) kr (fun hb2=>?_) (fun hb2=>?_)
 ·rw [if_pos hb2] at h
  refine AF ?_;refine AK (s1:=⟨Fr 47 [(4,.v (.int .i64 30))],[]⟩) ?_ ?_
  ·refine AD (n:=47) AC 1 [(4,.v (.int .i64 30))] [some ⟨5,60,[AA.enc x1],false⟩] kr ?_
   exact AI rfl (Ad [] trivial ⟨lv,trivial⟩)
  refine AQ ?_;have hq:=OI h; subst hq;exact ⟨⟨Fr 47 [(4,.v (.int .i64 30))],[]⟩,AL,.inr rfl,[.v (.int .i64 30)],kr,kr⟩
 ·rw [BZ hb2] at h
  refine AS ?_;refine AF ?_;refine AF ?_;obtain ⟨j7,hj7,h⟩:=OB h;refine AK (s1:=⟨Fr 47 [(0,.sl 5 (x0.map AA.enc)),(3,.pt 0 0 0),(23,.v (.bool j7))],[some ⟨5,60,[AA.enc x1],false⟩]⟩) ?_ ?_
  ·refine AD (n:=47) AC 4 [(0,.sl 5 (x0.map AA.enc)),(3,.pt 0 0 0),(13,.v (.bool (!(x1.2.1==[]))))] [some ⟨5,60,[AA.enc x1],false⟩] kr ?_
   rcases BE (!(x1.2.1==[])) with hc24 | hc24
   ·rw [if_pos hc24] at hj7
    rw [hc24];refine AD (n:=47) AC 2 [(0,.sl 5 (x0.map AA.enc)),(3,.pt 0 0 0),(13,.v (.bool true)),(15,.st x1.2.1)] [some ⟨5,60,[AA.enc x1],false⟩] kr ?_;obtain ⟨v3,hv3,hj7⟩:=OB hj7;refine AT (caps:=[]) (xs:=[.st x1.2.1]) (u:=(x1.2.1,())) rfl rfl Q4 rfl kr kr kr (AM (AX (c:=cdS) (v:=x1.2.1)) Aj) (.inl kr) hv3 ?_;refine AD (n:=47) AC 3 [(0,.sl 5 (x0.map AA.enc)),(3,.pt 0 0 0),(19,.v (.bool (!v3)))] [some ⟨5,60,[AA.enc x1],false⟩] kr ?_;rcases BE (!v3) with hc25 | hc25
    ·rw [if_pos hc25] at hj7
     rw [hc25];refine AD (n:=47) AC 4 [(0,.sl 5 (x0.map AA.enc)),(3,.pt 0 0 0),(23,.v (.bool true))] [some ⟨5,60,[AA.enc x1],false⟩] kr ?_;have hq:=OI hj7; subst hq;exact AI rfl (Ad [0] ⟨⟨_,rfl,Ga⟩,trivial⟩ ⟨lv,lv,lv,trivial⟩)
    ·rw [BZ hc25] at hj7
     rw [hc25];refine AD (n:=47) AC 2 [(0,.sl 5 (x0.map AA.enc)),(3,.pt 0 0 0),(19,.v (.bool false)),(21,.sl 1 (x1.2.2.2.1.map cdS.enc))] [some ⟨5,60,[AA.enc x1],false⟩] kr ?_;obtain ⟨v4,hv4,hj7⟩:=OB hj7;refine AT (caps:=[]) (xs:=[.sl 1 (x1.2.2.2.1.map cdS.enc),.fn 160 [] []]) (u:=(x1.2.2.2.1,(),())) rfl rfl Dg rfl kr kr kr (AM (AX (c:=(cdL 1 cdS)) (v:=x1.2.2.2.1)) (AM (Sm.fn Aj) Aj)) (.inl kr) hv4 ?_;refine AD (n:=47) AC 1 [(0,.sl 5 (x0.map AA.enc)),(3,.pt 0 0 0),(23,.v (.bool v4))] [some ⟨5,60,[AA.enc x1],false⟩] kr ?_;have hq:=OI hj7; subst hq;exact AI rfl (Ad [0] ⟨⟨_,rfl,Ga⟩,trivial⟩ ⟨lv,lv,lv,trivial⟩)
   ·rw [BZ hc24] at hj7
    rw [hc24];refine AD (n:=47) AC 8 [(0,.sl 5 (x0.map AA.enc)),(3,.pt 0 0 0),(19,.v (.bool false)),(21,.sl 1 (x1.2.2.2.1.map cdS.enc))] [some ⟨5,60,[AA.enc x1],false⟩] kr ?_;obtain ⟨v5,hv5,hj7⟩:=OB hj7;refine AT (caps:=[]) (xs:=[.sl 1 (x1.2.2.2.1.map cdS.enc),.fn 160 [] []]) (u:=(x1.2.2.2.1,(),())) rfl rfl Dg rfl kr kr kr (AM (AX (c:=(cdL 1 cdS)) (v:=x1.2.2.2.1)) (AM (Sm.fn Aj) Aj)) (.inl kr) hv5 ?_;refine AD (n:=47) AC 1 [(0,.sl 5 (x0.map AA.enc)),(3,.pt 0 0 0),(23,.v (.bool v5))] [some ⟨5,60,[AA.enc x1],false⟩] kr ?_;have hq:=OI hj7; subst hq;exact AI rfl (Ad [0] ⟨⟨_,rfl,Ga⟩,trivial⟩ ⟨lv,lv,lv,trivial⟩)
  refine AP (b:=j7) kr (fun hb8=>?_) (fun hb8=>?_)
  ·rw [if_pos hb8] at h
   refine AF ?_;refine AK (s1:=⟨Fr 47 [(4,.v (.int .i64 4))],[]⟩) ?_ ?_
   ·refine AD (n:=47) AC 1 [(4,.v (.int .i64 4))] [some ⟨5,60,[AA.enc x1],false⟩] kr ?_
    exact AI rfl (Ad [] trivial ⟨lv,trivial⟩)
   refine AQ ?_;have hq:=OI h; subst hq;exact ⟨⟨Fr 47 [(4,.v (.int .i64 4))],[]⟩,AL,.inr rfl,[.v (.int .i64 4)],kr,kr⟩
  ·rw [BZ hb8] at h
   refine AS ?_;refine AF ?_;refine AF ?_;refine AK (s1:=⟨Fr 47 [(0,.sl 5 (x0.map AA.enc)),(3,.pt 0 0 0),(25,.sl 1 (x1.2.2.2.1.map cdS.enc)),(26,.v (.int .i64 (x1.2.2.2.1.length:Int))),(27,.v (.int .i64 0))],[some ⟨5,60,[AA.enc x1],false⟩]⟩) ?_ ?_
   ·refine AD (n:=47) AC 2 [(0,.sl 5 (x0.map AA.enc)),(3,.pt 0 0 0),(25,.sl 1 (x1.2.2.2.1.map cdS.enc))] [some ⟨5,60,[AA.enc x1],false⟩] kr ?_
    refine AR AC 0 rfl (C7 (AB rfl) rfl (Ck (a:= .sl 1 (x1.2.2.2.1.map cdS.enc)) kr (Ba (el:=9) kr))) ?_;exact AW AC
   refine AZ ?_;obtain ⟨r16,hr16,h⟩:=OB h;refine Bj (n:=100000) ?_;rcases r16 with w17 | w23
   ·try dsimp only at h
    refine Aq (Ac (s1:=⟨Fr 47 [(0,.sl 5 (x0.map AA.enc)),(3,.pt 0 0 0),(25,.sl 1 (x1.2.2.2.1.map cdS.enc)),(26,.v (.int .i64 (x1.2.2.2.1.length:Int))),(27,.v (.int .i64 0))],[some ⟨5,60,[AA.enc x1],false⟩]⟩) (Ad [0] ⟨⟨_,rfl,Ga⟩,trivial⟩ ⟨lv,lv,lv,lv,lv,trivial⟩) (ML x0 x1 _ 0 _ hr16)) ?_;refine AF ?_;refine AF ?_;obtain ⟨j20,hj20,h⟩:=OB h;refine AK (s1:=⟨Fr 47 [(46,.v (.bool j20))],[]⟩) ?_ ?_
    ·refine AD (n:=47) AC 4 [(0,.sl 5 (x0.map AA.enc)),(3,.pt 0 0 0),(42,.v (.bool (x1.2.1==[])))] [some ⟨5,60,[AA.enc x1],false⟩] kr ?_
     rcases BE (x1.2.1==[]) with hc22 | hc22
     ·rw [if_pos hc22] at hj20
      rw [hc22];refine AD (n:=47) AC 4 [(46,.v (.bool true))] [some ⟨5,60,[AA.enc x1],false⟩] kr ?_;have hq:=OI hj20; subst hq;exact AI rfl (Ad [] trivial ⟨lv,trivial⟩)
     ·rw [BZ hc22] at hj20
      rw [hc22];refine AD (n:=47) AC 2 [(42,.v (.bool false)),(43,.sl 5 (x0.map AA.enc)),(44,.fn 161 [] [.pt 0 0 0])] [some ⟨5,60,[AA.enc x1],false⟩] kr ?_;obtain ⟨v18,hv18,hj20⟩:=OB hj20;refine AT (caps:=[]) (xs:=[.sl 5 (x0.map AA.enc),.fn 161 [] [.pt 0 0 0]]) (u:=(x0,x1,())) rfl rfl Eo rfl kr kr kr (AM (AX (c:=(cdL 5 AA)) (v:=x0)) (AM (Sm.fn (T5 (Sm.pt (k:=5) (t:=60) (fz:=false) (y:=(AA.enc x1)) kr (AX (c:=AA) (v:=x1))))) Aj)) (.inl kr) hv18 ?_;refine AD (n:=47) AC 1 [(46,.v (.bool v18))] [some ⟨5,60,[AA.enc x1],false⟩] kr ?_;have hq:=OI hj20; subst hq;exact AI rfl (Ad [] trivial ⟨lv,trivial⟩)
    refine AP (b:=j20) kr (fun hb21=>?_) (fun hb21=>?_)
    ·rw [if_pos hb21] at h
     refine AJ AC [(4,.v (.int .i64 0))] [] ?_;refine AQ ?_;have hq:=OI h; subst hq;exact ⟨⟨Fr 47 [(4,.v (.int .i64 0))],[]⟩,AL,.inr rfl,[.v (.int .i64 0)],kr,kr⟩
    ·rw [BZ hb21] at h
     refine AS ?_;refine AJ AC [(4,.v (.int .i64 31))] [] ?_;refine AQ ?_;have hq:=OI h; subst hq;exact ⟨⟨Fr 47 [(4,.v (.int .i64 31))],[]⟩,AL,.inr rfl,[.v (.int .i64 31)],kr,kr⟩
   ·try dsimp only at h
    refine Aq (Ac (s1:=⟨Fr 47 [(0,.sl 5 (x0.map AA.enc)),(3,.pt 0 0 0),(25,.sl 1 (x1.2.2.2.1.map cdS.enc)),(26,.v (.int .i64 (x1.2.2.2.1.length:Int))),(27,.v (.int .i64 0))],[some ⟨5,60,[AA.enc x1],false⟩]⟩) (Ad [0] ⟨⟨_,rfl,Ga⟩,trivial⟩ ⟨lv,lv,lv,lv,lv,trivial⟩) (ML x0 x1 _ 0 _ hr16)) ?_;have hq:=OI h; subst hq;exact ⟨⟨Fr 47 [(4,.v (.int .i64 w23))],[]⟩,AL,.inr rfl,[.v (.int .i64 w23)],kr,kr⟩
def Ub:List AV->Option AV:=Dx Lx (fun a=>H0 a.1 a.2.1) L3
theorem Ul:XOk 128 Ub:=by
 refine AU Tryz.func128 (c:=Lr) ?h2 ⟨Tryz.call128⟩ Lx (fun a=>H0 a.1 a.2.1) L3 (fun a=>(by show 2<=47; decide)) ?h3 ?h4
 case h2=>kernel_rfl
 case h3=>intro b; kernel_rfl
 case h4=>exact fun a b h=>Rv a.1 a.2.1 b h
/- trestle/court.Check -/
noncomputable def Lq:Code:=BG Tryz.f80
def Fb (x0:(List AG)):Nat->Int->Option ((Unit) ⊕ (Int×Int))
 | 0,_=>none
 | f + 1,c2 =>
  if (decide (c2 < (x0.length:Int)))=true then
  (idx x0 c2).bind fun v4 =>
  if (Ns 0 c2 x0.length)=true then
  (H0 ((x0.take c2.toNat).drop (0:Int).toNat) v4).bind fun v6 =>
  if (v6 != 0)=true then
  some (.inr (c2,v6))
  else
  Fb x0 f (wr .i64 (c2 + 1))
  else none
  else
  some (.inl ())
def HN (x0:(List AG)):Option (Int×Int) :=
 if (decide ((x0.length:Int) > 32))=true then
 some (0,7)
 else
 (Fb x0 100000 0).bind fun r10 =>
 match r10 with
 | (.inl _w11) =>
  some (0,0)
 | (.inr w12) =>
  some (w12.1,w12.2)
def Lv:Cs ((List AG)×Unit):=(csC (cdL 5 AA) csN)
def L2 (r:Int×Int):AV:= .tp [cdI.enc r.1,cdI.enc r.2]
theorem MK (x0:(List AG)):∀ (f:Nat) (c2:Int) (r:(Unit) ⊕ (Int×Int)),Fb x0 f c2=some r->SemN E0 ⟨none,false⟩ (pc Lq [1,1,0,1,0,0]) f ⟨Fr 27 [(0,.sl 5 (x0.map AA.enc)),(10,.sl 5 (x0.map AA.enc)),(11,.v (.int .i64 (x0.length:Int))),(12,.v (.int .i64 c2))],[]⟩ (fun e s=>match r with
 | (.inl _w)=>e=(.exit 0)/\Wk E0 s ⟨Fr 27 [],[]⟩
 | (.inr w)=>e = .ret/\Wk E0 s ⟨Fr 27 [(2,.v (.int .i64 w.1)),(3,.v (.int .i64 w.2))],[]⟩):=by
 intro f;induction f with
 | zero=>intro c2 r h; cases h
 | succ f ih0 =>
  intro c2 r h
  have ih:=fun (c2:Int)=>ih0 c2 r
  unfold Fb at h;refine BR ?_
  let p1:Nat×AV:=(12,.v (.int .i64 c2))
  let p2:Nat×AV:=(11,.v (.int .i64 (x0.length:Int)))
  let p3:Nat×AV:=(10,.sl 5 (x0.map AA.enc))
  let p4:Nat×AV:=(0,.sl 5 (x0.map AA.enc))
  refine AJ AC [p4,p3,p2,p1,(13,.v (.bool (decide (c2 < (x0.length:Int)))))] [] ?_;refine AF ?_;refine AP (b:=(decide (c2 < (x0.length:Int)))) kr (fun hb3=>?_) (fun hb3=>?_)
  ·rw [if_pos hb3] at h
   refine AS ?_;refine AF ?_;refine AZ ?_;refine AF ?_;obtain ⟨v4,hv4,h⟩:=OB h
   let p5:Option Blk:=some ⟨5,60,[AA.enc v4],false⟩
   let p6:Nat×AV:=(4,.v (.int .i64 c2))
   refine AK (s1:=⟨Fr 27 [p4,p6,(5,.pt 0 0 0),p3,p2,p1],[p5]⟩) ?_ ?_
   ·refine AD (n:=27) AC 1 [p4,p3,p2,p1,(14,.v (.int .i64 c2))] [] kr ?_
    refine AR AC 0 rfl (C7 (AB rfl) rfl (AO (a:= .sl 5 (x0.map AA.enc)) (b:= .v (.int .i64 c2)) kr kr (Dn (e:=AA.enc) (el:=60) (k:=5) (ki:= .i64) kr kr hv4))) ?_;exact AW AC
   refine AF ?_;by_cases hk5:(Ns 0 c2 x0.length)=true
   case neg=>rw [if_neg hk5] at h; cases h
   rw [if_pos hk5] at h;obtain ⟨v6,hv6,h⟩:=OB h
   let p7:Nat×AV:=(6,.v (.int .i64 v6))
   refine DL AC (s1:=⟨Fr 27 [p4,p6,p7,p3,p2,p1],[]⟩) kr ?_ ?_
   ·refine AY (n:=27) AC 2 [p4,p6,(5,.pt 0 0 0),p3,p2,p1,(17,.sl 5 (x0.map AA.enc)),(18,.v (.int .i64 c2))] [p5] kr kr ?_
    refine RunDS.one AC rfl kr (HK kr (AB rfl) rfl (SL (a:= .sl 5 (x0.map AA.enc)) (l:=none) (u:=(some (.v (.int .i64 c2)))) (m:=none) kr kr kr rfl (UZ (xs:=x0) (e:=AA.enc) (k:=5) (el:=60) (lo:=0) (hi:=c2) kr kr rfl (W2 (YJ hk5)) hk5)) kr) ?_;refine AY (n:=27) AC 1 [p4,p6,p3,p2,p1,(19,.sl 5 (((x0.take c2.toNat).drop (0:Int).toNat).map AA.enc)),(20,AA.enc v4)] [p5] kr kr ?_;refine Bb (caps:=[]) (xs:=[.sl 5 (((x0.take c2.toNat).drop (0:Int).toNat).map AA.enc),AA.enc v4]) (u:=(((x0.take c2.toNat).drop (0:Int).toNat),v4,())) rfl rfl Ul rfl (AB rfl) kr kr (AM (AX (c:=(cdL 5 AA)) (v:=((x0.take c2.toNat).drop (0:Int).toNat))) (AM (AX (c:=AA) (v:=v4)) Aj)) kr hv6 ?_;refine AY (n:=27) AC 1 [p4,p6,p7,p3,p2,p1] [p5] kr kr ?_;exact RunDS.done rfl (Ad [] trivial ⟨lv,lv,lv,lv,lv,lv,trivial⟩)
   refine AJ AC [p4,p6,p7,p3,p2,p1,(23,.v (.bool (v6 != 0)))] [] ?_;refine AP (b:=(v6 != 0)) kr (fun hb7=>?_) (fun hb7=>?_)
   ·rw [if_pos hb7] at h
    refine AJ AC [(2,.v (.int .i64 c2)),(3,.v (.int .i64 v6))] [] ?_;refine AQ ?_;have hq:=OI h; subst hq;exact ⟨rfl,AL⟩
   ·rw [BZ hb7] at h
    refine AS ?_
    let p8:Nat×AV:=(12,.v (.int .i64 (wr .i64 (c2 + 1))))
    refine Cn AC [p4,p3,p2,p8] [] ?_;exact Ac (s1:=⟨Fr 27 [p4,p3,p2,p8],[]⟩) AL (ih (wr .i64 (c2 + 1)) h)
  ·rw [BZ hb3] at h
   refine Bd ?_;have hq:=OI h; subst hq;exact ⟨rfl,AL⟩
theorem Ru (x0:(List AG)) (r:Int×Int) (h:HN x0=some r):Sem E0 ⟨none,false⟩ Lq ⟨Fr 27 (A3 0 (Lv.enc (x0,()))),[]⟩ fun e s'=>(e = .normal\/e = .ret)/\∃ xs,EG E0.P s'.fr s'.hp Tryz.f80.results.toList=some xs/\EN xs=L2 r:=by
 unfold HN at h
 let p1:Nat×AV:=(0,.sl 5 (x0.map AA.enc))
 refine An (BP (s1:=⟨Fr 27 [p1],[]⟩) AL ?_);refine AJ AC [p1] [] ?_;refine AF ?_;refine AF ?_;refine AK (s1:=⟨Fr 27 [p1,(9,.v (.bool (decide ((x0.length:Int) > 32))))],[]⟩) ?_ ?_
 ·refine AD (n:=27) AC 1 [p1,(7,.sl 5 (x0.map AA.enc))] [] kr ?_
  refine AR AC 0 rfl (C7 (AB rfl) rfl (Ck (a:= .sl 5 (x0.map AA.enc)) kr (Ba (el:=60) kr))) ?_;exact AW AC
 refine AP (b:=(decide ((x0.length:Int) > 32))) kr (fun hb1=>?_) (fun hb1=>?_)
 ·rw [if_pos hb1] at h
  refine AJ AC [(2,.v (.int .i64 0)),(3,.v (.int .i64 7))] [] ?_;refine AQ ?_;have hq:=OI h; subst hq;exact ⟨⟨Fr 27 [(2,.v (.int .i64 0)),(3,.v (.int .i64 7))],[]⟩,AL,.inr rfl,[.v (.int .i64 0),.v (.int .i64 7)],kr,kr⟩
 ·rw [BZ hb1] at h
  refine AS ?_;refine AF ?_;refine AF ?_
  let p2:Nat×AV:=(12,.v (.int .i64 0))
  let p3:Nat×AV:=(11,.v (.int .i64 (x0.length:Int)))
  let p4:Nat×AV:=(10,.sl 5 (x0.map AA.enc))
  refine AK (s1:=⟨Fr 27 [p1,p4,p3,p2],[]⟩) ?_ ?_
  ·refine AD (n:=27) AC 1 [p1,p4] [] kr ?_
   refine AR AC 0 rfl (C7 (AB rfl) rfl (Ck (a:= .sl 5 (x0.map AA.enc)) kr (Ba (el:=60) kr))) ?_;exact AW AC
  refine AZ ?_;obtain ⟨r10,hr10,h⟩:=OB h;refine Bj (n:=100000) ?_;rcases r10 with w11 | w12
  ·try dsimp only at h
   refine Aq (Ac (s1:=⟨Fr 27 [p1,p4,p3,p2],[]⟩) AL (MK x0 _ 0 _ hr10)) ?_;refine AJ AC [(2,.v (.int .i64 0)),(3,.v (.int .i64 0))] [] ?_;refine AQ ?_;have hq:=OI h; subst hq;exact ⟨⟨Fr 27 [(2,.v (.int .i64 0)),(3,.v (.int .i64 0))],[]⟩,AL,.inr rfl,[.v (.int .i64 0),.v (.int .i64 0)],kr,kr⟩
  ·try dsimp only at h
   refine Aq (Ac (s1:=⟨Fr 27 [p1,p4,p3,p2],[]⟩) AL (MK x0 _ 0 _ hr10)) ?_;have hq:=OI h; subst hq;exact ⟨⟨Fr 27 [(2,.v (.int .i64 w12.1)),(3,.v (.int .i64 w12.2))],[]⟩,AL,.inr rfl,[.v (.int .i64 w12.1),.v (.int .i64 w12.2)],kr,kr⟩
def Ua:List AV->Option AV:=Dx Lv (fun a=>HN a.1) L2
theorem Py:XOk 80 Ua:=by
 refine AU Tryz.func80 (c:=Lq) ?h2 ⟨Tryz.call80⟩ Lv (fun a=>HN a.1) L2 (fun a=>(by show 1<=27; decide)) ?h3 ?h4
 case h2=>kernel_rfl
 case h3=>intro b; kernel_rfl
 case h4=>exact fun a b h=>Ru a.1 b h
section
variable {E:Env}{cx:Cx}{ops:Array Oper}{rest rest':List Oper}{K:St->Prop}{n n0 k:Nat}{l:List (Nat×AV)}{hp:Hp}{α β:Type}{s:Cs α}{F:α->Option β}{er:β->AV}{u:α}{v:β}{fid:FuncId}{w:World}{Z:Nat->Prop}{R:List RI}
theorem AEH (hX:XOk fid (Dx s F er)) (hh:HR w Z R hp) (hg:GI E0 w Z){xs:List AV}{us:List Value}(hvs:VRs w Z R xs us) (hv:SeesD hp s xs u) (hok:F5 (er v)=true\/xs.all GA=true/\s.dec xs=some u) (hF:F u=some v) :
  Ret E0.P fid us.toArray w fun x w'=>∃ Z',HR w' Z' R hp/\VR w' Z' R (er v) x/\Step w Z R hp w' Z' R hp/\w.grownBy w' none/\(F5 (er v)=true->Z'=Z):=by
 by_cases hf:F5 (er v)=true
 ·obtain ⟨ys,hv,hd⟩:=hv
  have hz1:∀ c,(Z c\/own R hp c)->c < w.heap.size:=fun c hc=>hc.elim (hh.zlt c) (fun ⟨b,B,r,h1,_,h3,h4⟩=>h4 ▸ hh.rltL h1 h3)
  have hg1:GI E0 w (fun c=>Z c\/own R hp c):=fun q y hy=>(hg q y hy).mono (fun _ _=>rfl) (fun _ h=> .inl h) (fun _ _ h=>h)
  refine Ret.mono (hX.2 ys (er v) (Mz hd hF) w _ us hz1 hg1 (hv w Z R us hh hvs)) fun x w' ⟨hs,hx⟩=>?_
  exact ⟨Z,hh.keep hs.size (fun c hc=>hs.block c hc (by simp)),O6 hf hx,⟨hs.os,hs.tape,hs.output,hs.size,fun c hc _=>hs.block c hc (by simp),fun _ h=> .inl h,fun _ h=>h,fun _ h=> .inl h,fun _ _ h=>h⟩,hs,fun _=>rfl⟩
 ·obtain ⟨hn,hd⟩:=hok.resolve_left hf
  refine Ret.mono (hX.2 xs (er v) (Mz hd hF) w Z us hh.zlt hg (UM hn hvs)) fun x w' ⟨hs,hx⟩=>?_
  obtain ⟨k1,k2⟩:=hh.addZ hs
  exact ⟨_,k1,hx.up,k2,hs,fun h=>absurd h hf⟩
theorem AEp (hP:E.P=E0.P) (hG:E.G=E0.G){caps xs:List AV}{d:Option Nat}{f:Operand}{args:Array Operand}{tys:Array TypeId}{ty:TypeId}{pos:String}{af:Array Edge}{g:Option (Nat×Bool)}{base:Bs}{a:Act}(hX:XOk fid (Dx s F er)) (sr:SR E base w Z R ⟨Fr n l,hp⟩ a)
  (hf:opA E (Fr n l) f=some (.fn fid [] caps)) (ha:LW (opA E (Fr n l)) args.toList=some xs) (hv:SeesD hp s (xs++caps) u) (hok:F5 (er v)=true\/(xs++caps).all GA=true/\s.dec (xs++caps)=some u) (hF:F u=some v) {Q:Act->World->Prop}
  (kk:∀ x w' Z',HR w' Z' R hp->VR w' Z' R (er v) x->Step w Z R hp w' Z' R hp->w.grownBy w' none->(F5 (er v)=true->Z'=Z)->SR E base w' Z' R ⟨Fr n l,hp⟩ a->Q (a.put d x) w'):Lw E.P ⟨d,.call ⟨.value f,args,tys⟩,ty,pos,af,g⟩ a w Q:=by
 have hρ:∀ o x,opA E (Fr n l) o=some x->VR w Z R x (a.eval o):=fun o x e=>opA_vr sr o x e
 have hvf:=hρ _ _ hf
 have hva:∃ uc:List Value,a.eval f = .func (.func fid) #[] uc.toArray/\VRs w Z R caps uc:=by
  generalize a.eval f=vf at hvf
  cases hvf with
  | fn hl hl' hx hy =>
   rename_i u1 u2
   have e1:u1=[]:=by simpa using hl
   subst e1
   exact ⟨u2,rfl,hl',hy⟩
 obtain ⟨uc,hva,huc⟩:=hva
 have hcl:Cm E.P fid:=hP ▸ hX.1
 unfold Lw
 rw [Hh (uf:=[]) (uc:=uc) rfl hva rfl hcl w]
 have hret:=AEH hX sr.hh (by have:=sr.gl; exact fun q y hy=>this q y (by rw [hG]; exact hy)) ((opds_vr hρ ha).append huc) hv hok hF
 rw [<-hP] at hret
 simp only [List.nil_append]
 refine Ret.mono hret fun x w' ⟨Z',k1,k2,k3,k4,k5⟩=>?_
 exact kk x w' Z' k1 k2 k3 k4 k5 (sr.step k1 k3)
theorem Kt (hP:E.P=E0.P) (hG:E.G=E0.G) (hX:XOk fid (Dx s F er)){caps xs:List AV}{d:Nat}{f:Operand}{args:Array Operand}{tys:Array TypeId}{ty:TypeId}{pos:String}{af:Array Edge}{g:Option (Nat×Bool)}(hr:rest=⟨some d,.call ⟨.value f,args,tys⟩,ty,pos,af,g⟩::rest') (hw:DC ops (Fr n l) ⟨some d,.call ⟨.value f,args,tys⟩,ty,pos,af,g⟩=some true)
  (hf:opA E (Fr n l) f=some (.fn fid [] caps)) (ha:LW (opA E (Fr n l)) args.toList=some xs) (hv:SeesD hp s (xs++caps) u) (hok:F5 (er v)=true\/(xs++caps).all GA=true/\s.dec (xs++caps)=some u) (hF:F u=some v) (kk:RunL E cx ops rest' ⟨Fr n ((d,er v)::l),hp⟩ K):RunL E cx ops rest ⟨Fr n l,hp⟩ K:=by
 subst hr
 intro ro base Q a w Z R hro sr hy q
 refine Re rfl (wantedA_eq sr hw) (AEp hP hG hX sr hf ha hv hok hF fun x w' Z' k1 k2 k3 k4 k5 sr'=>?_)
 refine kk ro base Q _ w' Z' R hro ?_ (hy.step sr.hh k3) fun s' a' w'' Z'' R'' hK sr'' st'=>q s' a' w'' Z'' R'' hK sr'' (k3.trans st')
 have:=sr'.put (d:=some d) k2
 rwa [FV] at this
theorem Vt {T:Nat}(hP:E.P=E0.P) (hG:E.G=E0.G) (hX:XOk fid (Dx s F er)){caps xs:List AV}{d:Nat}{f:Operand}{args:Array Operand}{tys:Array TypeId}{ty:TypeId}{pos:String}{af:Array Edge}{g:Option (Nat×Bool)}(hr:rest=⟨some d,.call ⟨.value f,args,tys⟩,ty,pos,af,g⟩::rest') (hw:DC ops (Fr n l) ⟨some d,.call ⟨.value f,args,tys⟩,ty,pos,af,g⟩=some true)
  (hf:opA E (Fr n l) f=some (.fn fid [] caps)) (ha:LW (opA E (Fr n l)) args.toList=some xs) (hv:SeesD hp s (xs++caps) u) (hok:F5 (er v)=true) (hF:F u=some v) (kk:RunDT E cx ops T n0 (k + 1) rest' ⟨Fr n ((d,er v)::l),hp⟩ K):RunDT E cx ops T n0 k rest ⟨Fr n l,hp⟩ K:=by
 subst hr
 intro ro base Q w0 Z R0 h0 a w R hro hy hh0 hn0 sr hgr st hpre hops q
 have hok':ops[k]? = some ⟨some d,.call ⟨.value f,args,tys⟩,ty,pos,af,g⟩:=by have:=hops 0; simpa using this.symm
 have hops':∀ j,rest'[j]? = ops[k + 1 + j]?:=fun j=>by have:=hops (j + 1); simpa [Nat.add_assoc,Nat.add_comm 1 j] using this
 refine ⟨fun _=>hgr,?_⟩
 rw [if_pos (wantedA_eq sr hw)]
 have hq:isQ (.call ⟨.value f,args,tys⟩:Op)=false:=rfl
 rw [if_pos (HE hok' hq)]
 refine AEp hP hG hX sr hf ha hv (.inl hok) hF fun x w' Z' k1 k2 k3 k4 k5 sr'=>?_
 have e:=k5 hok
 subst e
 exact kk ro base Q w0 _ R0 h0 _ w' R hro hy hh0 hn0 (by have:=sr'.put (d:=some d) k2; rwa [FV] at this) (GL hgr k4) (st.trans k3) hpre hops' q
end
section
variable {w w':World}{Z Z':Nat->Prop}{R R':List RI}{h h':Hp}
end
theorem SeeV.view {hp:Hp}{x y:AV}(n:Nat) (h:IE hp n x=some y):SeeV hp x y:=fun _w _Z _R u hh hv=>OW hh n x y u hv h
theorem SeeD.sm {α:Type}{n:Nat}{hp:Hp}{c:Cd α}{x:AV}{v:α}(h:Sm n hp c x v):SeeD hp c x v:=let ⟨y,h1,h2⟩:=h; ⟨y,.view n h1,h2⟩
/-- A cell of its own that holds a frozen thing. -/
theorem SeeD.cel {α:Type}{hp:Hp}{c:Cd α}{p:AV}{v:α}{k:Nat}{t:TypeId}{L:List Asn}{i:Nat}(ht:T hp L) (hi:L[i]? = some (cel p k t (c.enc v))):SeeD hp (cdP c) p v:=by
 obtain ⟨F,⟨b,rfl,_,hb⟩,_⟩:=(ht.front i hi).act
 exact .sm (n:=3) (.pt hb (AX (n:=0)))
theorem SeeD.ag {α:Type}{hp:Hp}{s:Cs α}{hn:∀ x,(s.enc x).all P2=true}{xs:List AV}{a:α}(h:SeesD hp s xs a):SeeD hp (cdA s hn) (.ag xs) a:=by
 obtain ⟨ys,k1,k2⟩:=h
 exact ⟨.ag ys,.ag k1,k2⟩
theorem SeeV.fn {hp:Hp}{f:FuncId}{cs cs':List AV}(hs:Sees hp cs cs'):SeeV hp (.fn f [] cs) (.fn f [] cs'):=fun w Z R u hh hv=>by
 cases hv with
 | fn hl hl' hx hy =>
  have:=hs w Z R _ hh ⟨hl',hy⟩
  exact .fn hl this.len (fun i x u h=>by simp at h) this.at_
/-- A closure over cells. -/
theorem SeeD.fn {α:Type}{hp:Hp}{f:FuncId}{s:Cs α}{hn:∀ x,(s.enc x).all IM=true}{q:List AV}{a:α}(h:SeesD hp s q a):SeeD hp (cdF f s hn) (.fn f [] q) a:=by
 obtain ⟨ys,k1,k2⟩:=h
 refine ⟨.fn f [] ys,.fn k1,?_⟩
 show (if f=f then s.dec ys else none)=_
 rw [if_pos rfl]; exact k2
section
variable {E:Env}{cx:Cx}{ops:Array Oper}{rest rest':List Oper}{K:St->Prop}{n n0 k:Nat}{l:List (Nat×AV)}{hp:Hp}
end
/-- A nil slice is an empty frozen one, in structs too. -/
def UpV (x y:AV):Prop:=∀ (w:World) (Z:Nat->Prop) (R:List RI) (u:Value),VR w Z R x u->VR w Z R y u
theorem UpV.refl {x:AV}:UpV x x:=fun _ _ _ _ h=>h
theorem UpV.nil {k:Nat}:UpV .e0 (.sl k []):=fun _ _ _ _ h=>by
 cases h
 exact .sl (us:=[]) rfl rfl (Nat.le_refl _) (by unfold maxLen; omega) (fun h=>by omega) (fun i x u hx=>by simp at hx)
def UpVs:List AV->List AV->Prop
 | [],[]=>True
 | x::xs,y::ys=>UpV x y/\UpVs xs ys
 | _,_=>False
theorem UpVs.len:∀ {xs ys:List AV},UpVs xs ys->xs.length=ys.length
 | [],[],_=>rfl
 | _::_,_::_,h=>by simp [UpVs.len h.2]
 | [],_::_,h=>h.elim
 | _::_,[],h=>h.elim
theorem UpVs.get:∀ {xs ys:List AV}{i:Nat}{y:AV},UpVs xs ys->ys[i]? = some y->∃ x,xs[i]? = some x/\UpV x y
 | _::_,_::_,0,_,h,e=>by simp at e; subst e; exact ⟨_,rfl,h.1⟩
 | _::_,_::_,i + 1,_,h,e=>by
  obtain ⟨x,h1,h2⟩:=UpVs.get (i:=i) h.2 (by simpa using e)
  exact ⟨x,by simpa using h1,h2⟩
 | [],[],_,_,_,e=>by simp at e
 | [],_::_,_,_,h,_=>h.elim
 | _::_,[],_,_,h,_=>h.elim
theorem UpV.ag {xs ys:List AV}(h:UpVs xs ys):UpV (.ag xs) (.ag ys):=fun w Z R u hv=>by
 cases hv with
 | ag hl h1 hx =>
  refine .ag (by rw [hl,h.len]) h1 fun i y u hy hu=>?_
  obtain ⟨x,k1,k2⟩:=h.get hy
  exact k2 _ _ _ _ (hx i x u k1 hu)
def LkU (l:List (Nat×AV)):List (Nat×AV)->Prop
 | []=>True
 | (t,z)::r=>(∃ x,lk l t=some x/\UpV x z)/\LkU l r
theorem LkU.at_ {l:List (Nat×AV)}:∀ {l':List (Nat×AV)},LkU l l'->∀ t z,lk l' t=some z->∃ x,lk l t=some x/\UpV x z
 | [],_,t,z,h=>by cases h
 | (k,z0)::r,⟨h1,h2⟩,t,z,h=>by
  rw [NR] at h
  split at h
  ·next hk=>injection h with h; subst hk h; exact h1
  ·exact h2.at_ t z h
/-- A value in which an own thing is frozen. -/
def FzU (e z x y:AV):Prop:=∀ (w:World) (Z Z':Nat->Prop) (R:List RI) (u:Value),(∀ c,Z c->Z' c)->(∀ v,VR w Z R e v->VR w Z' R z v)->VR w Z R x u->VR w Z' R y u
section
variable {e z:AV}
theorem FzU.refl {x:AV}:FzU e z x x:=fun _ _ _ _ _ hz _ h=>h.mono (fun _ _=>rfl) hz (fun _ _ h=>h)
def FzUs (e z:AV):List AV->List AV->Prop
 | [],[]=>True
 | x::xs,y::ys=>FzU e z x y/\FzUs e z xs ys
 | _,_=>False
theorem FzUs.len:∀ {xs ys:List AV},FzUs e z xs ys->xs.length=ys.length
 | [],[],_=>rfl
 | _::_,_::_,h=>by simp [FzUs.len h.2]
 | [],_::_,h=>h.elim
 | _::_,[],h=>h.elim
theorem FzUs.get:∀ {xs ys:List AV}{i:Nat}{y:AV},FzUs e z xs ys->ys[i]? = some y->∃ x,xs[i]? = some x/\FzU e z x y
 | _::_,_::_,0,_,h,q=>by simp at q; subst q; exact ⟨_,rfl,h.1⟩
 | _::_,_::_,i + 1,_,h,q=>by
  obtain ⟨x,h1,h2⟩:=FzUs.get (i:=i) h.2 (by simpa using q)
  exact ⟨x,by simpa using h1,h2⟩
 | [],[],_,_,_,q=>by simp at q
 | [],_::_,_,_,h,_=>h.elim
 | _::_,[],_,_,h,_=>h.elim
theorem FzU.ag {xs ys:List AV}(h:FzUs e z xs ys):FzU e z (.ag xs) (.ag ys):=fun w Z Z' R u hz k hv=>by
 cases hv with
 | ag hl h1 hx =>
  refine .ag (by rw [hl,h.len]) h1 fun i y u hy hu=>?_
  obtain ⟨x,k1,k2⟩:=h.get hy
  exact k2 _ _ _ _ _ hz k (hx i x u k1 hu)
theorem FzU.fn {f:FuncId}{xs ys:List AV}(h:FzUs e z xs ys):FzU e z (.fn f [] xs) (.fn f [] ys):=fun w Z Z' R u hz k hv=>by
 cases hv with
 | fn hl hl' hx hy =>
  refine .fn hl (by rw [hl',h.len]) (fun i x u h=>by simp at h) fun i y u hy' hu=>?_
  obtain ⟨x,k1,k2⟩:=h.get hy'
  exact k2 _ _ _ _ _ hz k (hy i x u k1 hu)
end
def LkF (l:List (Nat×AV)) (e z:AV):List (Nat×AV)->Prop
 | []=>True
 | (t,y)::r=>(∃ x,lk l t=some x/\FzU e z x y)/\LkF l e z r
theorem LkF.at_ {l:List (Nat×AV)}{e z:AV}:∀ {l':List (Nat×AV)},LkF l e z l'->∀ t y,lk l' t=some y->∃ x,lk l t=some x/\FzU e z x y
 | [],_,t,y,h=>by cases h
 | (k,z0)::r,⟨h1,h2⟩,t,y,h=>by
  rw [NR] at h
  split at h
  ·next hk=>injection h with h; subst hk h; exact h1
  ·exact h2.at_ t y h
/-- Lists that are told by one value. -/
noncomputable def csJ {α:Type}(e:α->List AV) (hi:∀ x y,e x=e y->x=y) (hn:∀ x,(e x).all GA=true):Cs α where
 enc:=e
 dec a:=open Classical in if h:∃ x,e x=a then some h.choose else none
 de x:=by
  have h:∃ y,e y=e x:=⟨x,rfl⟩
  rw [dif_pos h,hi _ _ h.choose_spec]
 vr:=fun {w Z a x u} hd hv=>by
  split at hd
  ·next h=>injection hd with hd; subst hd; rw [h.choose_spec]; exact hv
  ·cases hd
 nr:=hn
theorem T4 {α:Type}{n:Nat}{h:Hp}{s:Cs α}{a:α}:Sl (n + 2) h s (s.enc a) a :=
 ⟨s.enc a,Ni fun y hy=>OG (List.all_eq_true.1 (s.nr a) y hy) n,s.de a⟩
theorem AAY {α:Type}{c:Cd α}{x y:α}(h:c.enc x=c.enc y):x=y:=by
 have h1:=c.de x
 rw [h,c.de y] at h1
 exact (OI h1).symm
/-- The order of a clause without regard to Among. -/
def PZ (c:AG):AV :=
 if (c.1==1)=true then .fn 205 [] [.pe (.fn 178 [] [.pe (AA.enc c) 0]) 0] else
 if (c.1==2)=true then .fn 179 [] [.pe (AA.enc c) 0] else
 if (c.1==3)=true then .fn 179 [] [.pe (AA.enc c) 0] else
 if (c.1==4)=true then .fn 205 [] [.pe (.fn 206 [] [.pe (.fn 182 [] [.pe (AA.enc c) 0]) 0,.pe (AA.enc c) 0]) 0] else
 if (c.1==5)=true then .fn 205 [] [.pe (.fn 206 [] [.pe (.fn 183 [] []) 0,.pe (AA.enc c) 0]) 0] else
 if (c.1==6)=true then .fn 205 [] [.pe (.fn 206 [] [.pe (.fn 184 [] [.pe (AA.enc c) 0]) 0,.pe (AA.enc c) 0]) 0] else
 if (c.1==7)=true then .fn 205 [] [.pe (.fn 206 [] [.pe (.fn 186 [] [.pe (AA.enc c) 0]) 0,.pe (AA.enc c) 0]) 0] else
 if (c.1==8)=true then .fn 187 [] [] else
 if (c.1==10)=true then .fn 209 [] [.pe (.fn 208 [] []) 0,.pe (.fn 190 [] [.pe (AA.enc c) 0]) 0] else
 .fn 209 [] [.pe (.fn 208 [] []) 0,.pe (.fn 191 [] []) 0]
def Li (c:AG):AV:= .fn 165 [] [.pe (AA.enc c) 0,.pe (PZ c) 0]
noncomputable def EH:Cd AG:=cdJ Li (fun x y h=>by
 unfold Li at h
 injection h with _ _ h
 injection h with h
 injection h with h
 exact AAY h) (fun _=>rfl)
noncomputable def U2:Cs AG:=csJ (fun c=>[.pe (AA.enc c) 0,.pe (PZ c) 0]) (fun x y h=>by
 injection h with h
 injection h with h
 exact AAY h) (fun _=>rfl)
/-- A straight call, told by what the interpreter finds. -/
theorem Xp {f:FuncId}(hc:Cm E0.P f){α β:Type}(s:Cs α) (F:α->Option β) (er:β->AV) (h:∀ a b,F a=some b->∃ n,CX E0 n f (s.enc a)=some (er b)):XOk f (Dx s F er):=by
 refine ⟨hc,fun xs y hy w Z us hz hg hv=>?_⟩
 obtain ⟨a,ha,hy⟩:=OB hy
 obtain ⟨b,hb,rfl⟩:=Option.map_eq_some_iff.1 hy
 obtain ⟨n,hn⟩:=h a b hb
 unfold CX at hn
 split at hn
 ·next x h' he=>exact frz_ret (enter_sound AC (code_sound AC n).1 he (hr_nil hz) (s.vr ha hv) hg (fun y hy=>by cases hy)) hn
 ·cases hn
def Gw (x0:AG):Option AG:=if 1<=x0.1/\x0.1<=10 then some x0 else none
def Cu:Cs (AG×Unit):=csC AA csN
noncomputable def KJ (r:AG):AV:=EH.enc r
noncomputable def SY:List AV->Option AV:=Dx Cu (fun a=>Gw a.1) KJ
section
variable (am:List UInt8) (la:Bool) (nm:List (List UInt8)) (m:Int)
theorem ABw:CX E0 300 133 (Cu.enc ((1,am,la,nm,m),()))=some (Li (1,am,la,nm,m)):=by kernel_rfl
theorem ABx:CX E0 300 133 (Cu.enc ((2,am,la,nm,m),()))=some (Li (2,am,la,nm,m)):=by kernel_rfl
theorem ABy:CX E0 300 133 (Cu.enc ((3,am,la,nm,m),()))=some (Li (3,am,la,nm,m)):=by kernel_rfl
theorem ABz:CX E0 300 133 (Cu.enc ((4,am,la,nm,m),()))=some (Li (4,am,la,nm,m)):=by kernel_rfl
theorem AB0:CX E0 300 133 (Cu.enc ((5,am,la,nm,m),()))=some (Li (5,am,la,nm,m)):=by kernel_rfl
theorem AB1:CX E0 300 133 (Cu.enc ((6,am,la,nm,m),()))=some (Li (6,am,la,nm,m)):=by kernel_rfl
theorem AB2:CX E0 300 133 (Cu.enc ((7,am,la,nm,m),()))=some (Li (7,am,la,nm,m)):=by kernel_rfl
theorem AB3:CX E0 300 133 (Cu.enc ((8,am,la,nm,m),()))=some (Li (8,am,la,nm,m)):=by kernel_rfl
theorem AB4:CX E0 300 133 (Cu.enc ((9,am,la,nm,m),()))=some (Li (9,am,la,nm,m)):=by kernel_rfl
theorem Zt:CX E0 300 133 (Cu.enc ((10,am,la,nm,m),()))=some (Li (10,am,la,nm,m)):=by kernel_rfl
end
theorem S1:XOk 133 SY:=by
 refine Xp ⟨Tryz.call133⟩ Cu (fun a=>Gw a.1) KJ fun a b h=>⟨300,?_⟩
 obtain ⟨⟨k,am,la,nm,m⟩,⟨⟩⟩:=a
 by_cases hk:1<=k/\k<=10
 ·have h1:some (k,am,la,nm,m)=some b:=(if_pos hk:Gw (k,am,la,nm,m)=_).symm.trans h
  have h2:KJ b=Li (k,am,la,nm,m):=congrArg Li (OI h1).symm
  rw [h2]
  clear h h1 h2
  have hk':k=1\/k=2\/k=3\/k=4\/k=5\/k=6\/k=7\/k=8\/k=9\/k=10:=by omega
  rcases hk' with rfl | rfl | rfl | rfl | rfl | rfl | rfl | rfl | rfl | rfl
  ·exact ABw am la nm m
  ·exact ABx am la nm m
  ·exact ABy am la nm m
  ·exact ABz am la nm m
  ·exact AB0 am la nm m
  ·exact AB1 am la nm m
  ·exact AB2 am la nm m
  ·exact AB3 am la nm m
  ·exact AB4 am la nm m
  ·exact Zt am la nm m
 ·exact nomatch ((if_neg hk:Gw (k,am,la,nm,m)=_).symm.trans h)
/- trestle/court.list -/
noncomputable def MZ:Code:=BG Tryz.f79
def ED (x0:(List Ai)):Nat->(List A5)->Int->Option (((List A5)))
 | 0,_,_=>none
 | f + 1,c1,c2 =>
  if (decide (c2 < (x0.length:Int)))=true then
  (idx x0 c2).bind fun v4 =>
  if (Gf 120 (c1.length + 1))=true then
  ED x0 f (c1++[(v4,c2)]) (wr .i64 (c2 + 1))
  else none
  else
  some c1
def I8 (x0:(List Ai)):Option ((List A5)) :=
 (ED x0 100000 [] 0).bind fun r7 =>
 some r7
def Kk:Cs ((List Ai)×Unit):=(csC (cdL 9 AE) csN)
def Ml (r:(List A5)):AV:=(cdL 10 AH).enc r
theorem Q7 (x0:(List Ai)):∀ (f:Nat) (c1:(List A5)) (c2:Int) (r:((List A5))),ED x0 f c1 c2=some r->SemN E0 ⟨none,false⟩ (pc MZ [1,1,0,1,0,0]) f ⟨Fr 21 [(3,hd 0 (c1.map AH.enc)),(6,.sl 9 (x0.map AE.enc)),(7,.v (.int .i64 (x0.length:Int))),(8,.v (.int .i64 c2))],[mk 10 115 (c1.map AH.enc)]⟩ (fun e s=>e=(.exit 0)/\Wk E0 s ⟨Fr 21 [(3,hd 0 (r.map AH.enc))],[mk 10 115 (r.map AH.enc)]⟩):=by
 intro f;induction f with
 | zero=>intro c1 c2 r h; cases h
 | succ f ih0 =>
  intro c1 c2 r h
  have ih:=fun (c1:(List A5)) (c2:Int)=>ih0 c1 c2 r
  unfold ED at h;refine BR ?_
  let p1:Option Blk:=mk 10 115 (c1.map AH.enc)
  let p2:Nat×AV:=(8,.v (.int .i64 c2))
  let p3:Nat×AV:=(7,.v (.int .i64 (x0.length:Int)))
  let p4:Nat×AV:=(6,.sl 9 (x0.map AE.enc))
  let p5:Nat×AV:=(3,hd 0 (c1.map AH.enc))
  refine AJ AC [p5,p4,p3,p2,(9,.v (.bool (decide (c2 < (x0.length:Int)))))] [p1] ?_;refine AF ?_;refine AP (b:=(decide (c2 < (x0.length:Int)))) kr (fun hb3=>?_) (fun hb3=>?_)
  ·rw [if_pos hb3] at h
   refine AS ?_;refine AF ?_;refine AZ ?_;refine AF ?_;obtain ⟨v4,hv4,h⟩:=OB h
   let p6:Option Blk:=some ⟨9,42,[AE.enc v4],false⟩
   refine AK (s1:=⟨Fr 21 [p5,(4,.v (.int .i64 c2)),(5,.pt 1 0 0),p4,p3,p2],[p1,p6]⟩) ?_ ?_
   ·refine AD (n:=21) AC 1 [p5,p4,p3,p2,(10,.v (.int .i64 c2))] [p1] kr ?_
    refine AR AC 0 rfl (C7 (AB rfl) rfl (AO (a:= .sl 9 (x0.map AE.enc)) (b:= .v (.int .i64 c2)) kr kr (Dn (e:=AE.enc) (el:=42) (k:=9) (ki:= .i64) kr kr hv4))) ?_;exact AW AC
   by_cases hk5:(Gf 120 (c1.length + 1))=true
   case neg=>rw [if_neg hk5] at h; cases h
   rw [if_pos hk5] at h
   let p7:Option Blk:=mk 10 115 ((c1++[(v4,c2)]).map AH.enc)
   let p8:Nat×AV:=(3,hd 0 ((c1++[(v4,c2)]).map AH.enc))
   refine AK (s1:=⟨Fr 21 [p8,p4,p3,p2],[p7]⟩) ?_ ?_
   ·let p9:Option Blk:=mk 10 115 ([(v4,c2)].map AH.enc)
    refine AD (n:=21) AC 5 [p4,p3,p2,(13,hd 0 (c1.map AH.enc)),(17,hd 2 ([(v4,c2)].map AH.enc))] [p1,p6,p9] kr ?_;refine AR AC 0 rfl (Xe (AB rfl) rfl kr kr (FE (a:=hd 0 (c1.map AH.enc)) (b:=hd 2 ([(v4,c2)].map AH.enc)) kr kr (Kj (c:=AH) (xs:=c1) (vs:=[(v4,c2)]) (k:=10) (bytes:=120) (el:=115) kr kr (GK (t:=115) kr) (List.cons_ne_nil _ _) kr hk5))) ?_;refine AD (n:=21) AC 1 [(3,hd 3 ((c1++[(v4,c2)]).map AH.enc)),p4,p3,p2] [none,p6,p9,p7] kr ?_;exact AI rfl (Ad [3] ⟨⟨_,rfl,HH⟩,trivial⟩ ⟨HJ (b':=3) kr kr,lv,lv,lv,trivial⟩)
   let p10:Nat×AV:=(8,.v (.int .i64 (wr .i64 (c2 + 1))))
   refine Cn AC [p8,p4,p3,p10] [p7] ?_;exact Ac (s1:=⟨Fr 21 [p8,p4,p3,p10],[p7]⟩) (Ad [0] ⟨⟨_,rfl,HH⟩,trivial⟩ ⟨HJ (b':=0) kr kr,lv,lv,lv,trivial⟩) (ih (c1++[(v4,c2)]) (wr .i64 (c2 + 1)) h)
  ·rw [BZ hb3] at h
   refine Bd ?_;have hq:=OI h; subst hq;exact ⟨rfl,(Ad [0] ⟨⟨_,rfl,HH⟩,trivial⟩ ⟨HJ (b':=0) kr kr,trivial⟩)⟩
theorem TL (x0:(List Ai)) (r:(List A5)) (h:I8 x0=some r):Sem E0 ⟨none,false⟩ MZ ⟨Fr 21 (A3 0 (Kk.enc (x0,()))),[]⟩ fun e s'=>(e = .normal\/e = .ret)/\∃ xs,EG E0.P s'.fr s'.hp Tryz.f79.results.toList=some xs/\EN xs=Ml r:=by
 unfold I8 at h
 let p1:Nat×AV:=(0,.sl 9 (x0.map AE.enc))
 refine An (BP (s1:=⟨Fr 21 [p1],[]⟩) AL ?_);refine AJ AC [p1] [] ?_;refine AJ AC [p1,(3,.e0)] [] ?_;refine AF ?_;refine AF ?_
 let p2:Nat×AV:=(8,.v (.int .i64 0))
 let p3:Nat×AV:=(7,.v (.int .i64 (x0.length:Int)))
 let p4:Nat×AV:=(6,.sl 9 (x0.map AE.enc))
 refine AK (s1:=⟨Fr 21 [(3,.e0),p4,p3,p2],[]⟩) ?_ ?_
 ·refine AD (n:=21) AC 1 [(3,.e0),p4] [] kr ?_
  refine AR AC 0 rfl (C7 (AB rfl) rfl (Ck (a:= .sl 9 (x0.map AE.enc)) kr (Ba (el:=42) kr))) ?_;exact AW AC
 refine AZ ?_;obtain ⟨r7,hr7,h⟩:=OB h;refine Bj (n:=100000) ?_
 let p5:Option Blk:=mk 10 115 ([].map AH.enc)
 let p6:Nat×AV:=(3,hd 0 ([].map AH.enc))
 refine Aq (Ac (s1:=⟨Fr 21 [p6,p4,p3,p2],[p5]⟩) (Wk.trans (s1:=⟨Fr 21 [p6,p4,p3,p2],[p5]⟩) Wk.none (Ad [0] ⟨⟨_,rfl,MY⟩,trivial⟩ ⟨lv,lv,lv,lv,trivial⟩)) (Q7 x0 _ [] 0 _ hr7)) ?_;refine AJ AC [(2,hd 0 (r7.map AH.enc))] [mk 10 115 (r7.map AH.enc)] ?_;refine AQ ?_;have hq:=OI h; subst hq
 let p7:Nat×AV:=(2,.sl 10 (r7.map AH.enc))
 exact ⟨⟨Fr 21 [p7],[]⟩,(Wk.trans (s1:=⟨Fr 21 [p7],[none]⟩) (I4 0 (.inl kr) ⟨.inl rfl,trivial⟩ ⟨⟨hd 0 (r7.map AH.enc),kr,UF (t:=115) kr NM⟩,trivial⟩) (Ad [] trivial ⟨lv,trivial⟩)),.inr rfl,[.sl 10 (r7.map AH.enc)],kr,kr⟩
def VX:List AV->Option AV:=Dx Kk (fun a=>I8 a.1) Ml
theorem Vl:XOk 79 VX:=by
 refine AU Tryz.func79 (c:=MZ) ?h2 ⟨Tryz.call79⟩ Kk (fun a=>I8 a.1) Ml (fun a=>(by show 1<=21; decide)) ?h3 ?h4
 case h2=>kernel_rfl
 case h3=>intro b; kernel_rfl
 case h4=>exact fun a b h=>TL a.1 b h
/- trestle/court.orders -/
noncomputable def Ky:Code:=BG Tryz.f75
def Eq (x0:(List AG)):Nat->(List AG)->Int->Option (((List AG)))
 | 0,_,_=>none
 | f + 1,c3,c4 =>
  if (decide (c4 < (x0.length:Int)))=true then
  (idx x0 c4).bind fun v6 =>
  (Gw v6).bind fun v7 =>
  if (Gf 8 (c3.length + 1))=true then
  Eq x0 f (c3++[v7]) (wr .i64 (c4 + 1))
  else none
  else
  some c3
def HO (x0:(List AG)):Option ((List AG)×Bool) :=
 (HN x0).bind fun v1 =>
 if (v1.2 != 0)=true then
 some ([],false)
 else
 (Eq x0 100000 [] 0).bind fun r10 =>
 some (r10,true)
noncomputable def Ic:Cs ((List AG)×Unit):=(csC (cdL 5 AA) csN)
noncomputable def LD (r:(List AG)×Bool):AV:= .tp [(cdL 1 EH).enc r.1,cdB.enc r.2]
theorem PX (x0:(List AG)):∀ (f:Nat) (c3:(List AG)) (c4:Int) (r:((List AG))),Eq x0 f c3 c4=some r->SemN E0 ⟨none,false⟩ (pc Ky [1,1,1,0,1,0,0]) f ⟨Fr 29 [(6,hd 0 (c3.map EH.enc)),(16,.sl 5 (x0.map AA.enc)),(17,.v (.int .i64 (x0.length:Int))),(18,.v (.int .i64 c4))],[mk 1 117 (c3.map EH.enc)]⟩ (fun e s=>e=(.exit 0)/\Wk E0 s ⟨Fr 29 [(6,hd 0 (r.map EH.enc))],[mk 1 117 (r.map EH.enc)]⟩):=by
 intro f;induction f with
 | zero=>intro c3 c4 r h; cases h
 | succ f ih0 =>
  intro c3 c4 r h
  have ih:=fun (c3:(List AG)) (c4:Int)=>ih0 c3 c4 r
  unfold Eq at h;refine BR ?_
  let p1:Option Blk:=mk 1 117 (c3.map EH.enc)
  let p2:Nat×AV:=(18,.v (.int .i64 c4))
  let p3:Nat×AV:=(17,.v (.int .i64 (x0.length:Int)))
  let p4:Nat×AV:=(16,.sl 5 (x0.map AA.enc))
  refine AJ AC [(6,hd 0 (c3.map EH.enc)),p4,p3,p2,(19,.v (.bool (decide (c4 < (x0.length:Int)))))] [p1] ?_;refine AF ?_;refine AP (b:=(decide (c4 < (x0.length:Int)))) kr (fun hb5=>?_) (fun hb5=>?_)
  ·rw [if_pos hb5] at h
   refine AS ?_;refine AF ?_;refine AZ ?_;refine AF ?_;obtain ⟨v6,hv6,h⟩:=OB h
   let p5:Option Blk:=some ⟨5,60,[AA.enc v6],false⟩
   refine AK (s1:=⟨Fr 29 [(6,hd 0 (c3.map EH.enc)),(8,.pt 1 0 0),p4,p3,p2],[p1,p5]⟩) ?_ ?_
   ·refine AR AC 0 rfl (C7 (AB rfl) rfl (AO (a:= .sl 5 (x0.map AA.enc)) (b:= .v (.int .i64 c4)) kr kr (Dn (e:=AA.enc) (el:=60) (k:=5) (ki:= .i64) kr kr hv6))) ?_
    exact AW AC
   obtain ⟨v7,hv7,h⟩:=OB h;by_cases hk8:(Gf 8 (c3.length + 1))=true
   case neg=>rw [if_neg hk8] at h; cases h
   rw [if_pos hk8] at h
   let p6:Option Blk:=mk 1 117 ((c3++[v7]).map EH.enc)
   let p7:Nat×AV:=(6,hd 0 ((c3++[v7]).map EH.enc))
   refine AK (s1:=⟨Fr 29 [p7,p4,p3,p2],[p6]⟩) ?_ ?_
   ·refine AD (n:=29) AC 2 [p4,p3,p2,(22,hd 0 (c3.map EH.enc)),(23,AA.enc v6)] [p1,p5] kr ?_
    refine AT (caps:=[]) (xs:=[AA.enc v6]) (u:=(v6,())) rfl rfl S1 rfl (AB rfl) kr kr (AM (AX (c:=AA) (v:=v6)) Aj) (.inr kr) hv7 ?_;refine AD (n:=29) AC 1 [p4,p3,p2,(22,hd 0 (c3.map EH.enc)),(25,hd 2 ([v7].map EH.enc))] [p1,p5,mk 1 117 ([v7].map EH.enc)] kr ?_;refine AR AC 0 rfl (Xe (AB rfl) rfl kr kr (FE (a:=hd 0 (c3.map EH.enc)) (b:=hd 2 ([v7].map EH.enc)) kr kr (Kj (c:=EH) (xs:=c3) (vs:=[v7]) (k:=1) (bytes:=8) (el:=117) kr kr (GK (t:=117) kr) (List.cons_ne_nil _ _) kr hk8))) ?_;refine AD (n:=29) AC 1 [(6,hd 3 ((c3++[v7]).map EH.enc)),p4,p3,p2] [none,p5,mk 1 117 ([v7].map EH.enc),p6] kr ?_;exact AI rfl (Ad [3] ⟨⟨_,rfl,HH⟩,trivial⟩ ⟨HJ (b':=3) kr kr,lv,lv,lv,trivial⟩)
   let p8:Nat×AV:=(18,.v (.int .i64 (wr .i64 (c4 + 1))))
   refine Cn AC [p7,p4,p3,p8] [p6] ?_;exact Ac (s1:=⟨Fr 29 [p7,p4,p3,p8],[p6]⟩) (Ad [0] ⟨⟨_,rfl,HH⟩,trivial⟩ ⟨HJ (b':=0) kr kr,lv,lv,lv,trivial⟩) (ih (c3++[v7]) (wr .i64 (c4 + 1)) h)
  ·rw [BZ hb5] at h
   refine Bd ?_;have hq:=OI h; subst hq;exact ⟨rfl,(Ad [0] ⟨⟨_,rfl,HH⟩,trivial⟩ ⟨HJ (b':=0) kr kr,trivial⟩)⟩
theorem Q8 (x0:(List AG)) (r:(List AG)×Bool) (h:HO x0=some r):Sem E0 ⟨none,false⟩ Ky ⟨Fr 29 (A3 0 (Ic.enc (x0,()))),[]⟩ fun e s'=>(e = .normal\/e = .ret)/\∃ xs,EG E0.P s'.fr s'.hp Tryz.f75.results.toList=some xs/\EN xs=LD r:=by
 unfold HO at h
 let p1:Nat×AV:=(0,.sl 5 (x0.map AA.enc))
 refine An (BP (s1:=⟨Fr 29 [p1],[]⟩) AL ?_);refine AJ AC [p1] [] ?_;refine AF ?_;refine AF ?_;obtain ⟨v1,hv1,h⟩:=OB h;refine AK (s1:=⟨Fr 29 [p1,(5,.v (.int .i64 v1.2))],[]⟩) ?_ ?_
 ·refine AD (n:=29) AC 1 [p1,(10,.sl 5 (x0.map AA.enc))] [] kr ?_
  refine AT (caps:=[]) (xs:=[.sl 5 (x0.map AA.enc)]) (u:=(x0,())) rfl rfl Py rfl (AB rfl) kr kr (AM (AX (c:=(cdL 5 AA)) (v:=x0)) Aj) (.inl kr) hv1 ?_;exact AW AC
 refine AJ AC [p1,(15,.v (.bool (v1.2 != 0)))] [] ?_;refine AP (b:=(v1.2 != 0)) kr (fun hb2=>?_) (fun hb2=>?_)
 ·rw [if_pos hb2] at h
  let p2:Nat×AV:=(3,.v (.bool false))
  refine AJ AC [(2,.e0),p2] [] ?_;refine AQ ?_;have hq:=OI h; subst hq;exact ⟨⟨Fr 29 [(2,.sl 1 ([].map EH.enc)),p2],[]⟩,(Wk.trans (s1:=⟨Fr 29 [(2,.e0),p2],[]⟩) AL (Wk.trans (s1:=⟨Fr 29 [(2,.e0),p2],[none]⟩) Wk.none (Wk.trans (s1:=⟨Fr 29 [(2,.sl 1 ([].map EH.enc)),p2],[none]⟩) (I4 0 (.inr kr) ⟨.inl rfl,trivial⟩ ⟨⟨.e0,kr,Zf⟩,⟨.v (.bool false),kr,.inl rfl⟩,trivial⟩) (Ad [] trivial ⟨lv,lv,trivial⟩)))),.inr rfl,[.sl 1 ([].map EH.enc),.v (.bool false)],kr,kr⟩
 ·rw [BZ hb2] at h
  refine AS ?_;refine AJ AC [p1,(6,.e0)] [] ?_;refine AF ?_;refine AF ?_
  let p3:Nat×AV:=(18,.v (.int .i64 0))
  let p4:Nat×AV:=(17,.v (.int .i64 (x0.length:Int)))
  let p5:Nat×AV:=(16,.sl 5 (x0.map AA.enc))
  refine AK (s1:=⟨Fr 29 [(6,.e0),p5,p4,p3],[]⟩) ?_ ?_
  ·refine AD (n:=29) AC 1 [(6,.e0),p5] [] kr ?_
   refine AR AC 0 rfl (C7 (AB rfl) rfl (Ck (a:= .sl 5 (x0.map AA.enc)) kr (Ba (el:=60) kr))) ?_;exact AW AC
  refine AZ ?_;obtain ⟨r10,hr10,h⟩:=OB h;refine Bj (n:=100000) ?_;refine Aq (Ac (s1:=⟨Fr 29 [(6,hd 0 ([].map EH.enc)),p5,p4,p3],[mk 1 117 ([].map EH.enc)]⟩) (Wk.trans (s1:=⟨Fr 29 [(6,hd 0 ([].map EH.enc)),p5,p4,p3],[mk 1 117 ([].map EH.enc)]⟩) Wk.none (Ad [0] ⟨⟨_,rfl,MY⟩,trivial⟩ ⟨lv,lv,lv,lv,trivial⟩)) (PX x0 _ [] 0 _ hr10)) ?_
  let p6:Nat×AV:=(3,.v (.bool true))
  refine AJ AC [(2,hd 0 (r10.map EH.enc)),p6] [mk 1 117 (r10.map EH.enc)] ?_;refine AQ ?_;have hq:=OI h; subst hq;exact ⟨⟨Fr 29 [(2,.sl 1 (r10.map EH.enc)),p6],[]⟩,(Wk.trans (s1:=⟨Fr 29 [(2,.sl 1 (r10.map EH.enc)),p6],[none]⟩) (I4 0 (.inl kr) ⟨.inl rfl,trivial⟩ ⟨⟨hd 0 (r10.map EH.enc),kr,UF (t:=117) kr NM⟩,⟨.v (.bool true),kr,.inl rfl⟩,trivial⟩) (Ad [] trivial ⟨lv,lv,trivial⟩)),.inr rfl,[.sl 1 (r10.map EH.enc),.v (.bool true)],kr,kr⟩
noncomputable def TU:List AV->Option AV:=Dx Ic (fun a=>HO a.1) LD
theorem Tc:XOk 75 TU:=by
 refine AU Tryz.func75 (c:=Ky) ?h2 ⟨Tryz.call75⟩ Ic (fun a=>HO a.1) LD (fun a=>(by show 1<=29; decide)) ?h3 ?h4
 case h2=>kernel_rfl
 case h3=>intro b; kernel_rfl
 case h4=>exact fun a b h=>Q8 a.1 b h
/- trestle/court.orderOf$1 -/
noncomputable def LZ:Code:=BG Tryz.f165
def CZ {β:Type}(G:A5->A5->β->Option Int) (x0:A5) (x1:A5) (x2:AG) (x3:β):Option (Int) :=
 (if (!(x2.2.1==[]))=true then if (!(x0.1.2.1==x2.2.1))=true then some true else some (!(x1.1.2.1==x2.2.1)) else some false).bind fun j2 =>
 if j2=true then
 some 0
 else
 (G x0 x1 x3).bind fun v4 =>
 some v4
def Ib {β:Type}(fid:FuncId) (sx:Cs β) (hn:∀ x,(sx.enc x).all IM=true):Cs (A5×A5×AG×β×Unit):=(csC AH (csC AH (csC (cdP AA) (csC (cdP (cdF fid sx hn)) csN))))
def Ih (r:Int):AV:=cdI.enc r
theorem Oz {β:Type}{fid:FuncId}{sx:Cs β}{hn:∀ x,(sx.enc x).all IM=true}{G:A5->A5->β->Option Int}(hX:XOk fid (Dx (csC AH (csC AH sx)) (fun a=>G a.1 a.2.1 a.2.2) cdI.enc)) (x0:A5) (x1:A5) (x2:AG) (x3:β) (r:Int) (h:CZ G x0 x1 x2 x3=some r):Sem E0 ⟨none,false⟩ LZ ⟨Fr 30 (A3 0 ((Ib fid sx hn).enc (x0,x1,x2,x3,()))),[]⟩ fun e s'=>(e = .normal\/e = .ret)/\∃ xs,EG E0.P s'.fr s'.hp Tryz.f165.results.toList=some xs/\EN xs=Ih r:=by
 unfold CZ at h
 refine An (BP (s1:=⟨Fr 30 [(0,AH.enc x0),(1,AH.enc x1),(2,.pe (AA.enc x2) 0),(3,.pe (.fn fid [] (sx.enc x3)) 0)],[]⟩) AL ?_)
 refine AJ AC [(2,.pe (AA.enc x2) 0),(3,.pe (.fn fid [] (sx.enc x3)) 0),(4,.pt 0 0 0),(5,.pt 1 0 0)] [some ⟨10,115,[AH.enc x0],false⟩,some ⟨10,115,[AH.enc x1],false⟩] ?_
 refine AF ?_
 refine AF ?_
 obtain ⟨j2,hj2,h⟩:=OB h
 refine AK (s1:=⟨Fr 30 [(3,.pe (.fn fid [] (sx.enc x3)) 0),(4,.pt 0 0 0),(5,.pt 1 0 0),(25,.v (.bool j2))],[some ⟨10,115,[AH.enc x0],false⟩,some ⟨10,115,[AH.enc x1],false⟩]⟩) ?_ ?_
 ·refine AD (n:=30) AC 4 [(2,.pe (AA.enc x2) 0),(3,.pe (.fn fid [] (sx.enc x3)) 0),(4,.pt 0 0 0),(5,.pt 1 0 0),(10,.v (.bool (!(x2.2.1==[]))))] [some ⟨10,115,[AH.enc x0],false⟩,some ⟨10,115,[AH.enc x1],false⟩] kr ?_
  rcases BE (!(x2.2.1==[])) with hc5 | hc5
  ·rw [if_pos hc5] at hj2
   rw [hc5]
   refine AD (n:=30) AC 7 [(2,.pe (AA.enc x2) 0),(3,.pe (.fn fid [] (sx.enc x3)) 0),(4,.pt 0 0 0),(5,.pt 1 0 0),(10,.v (.bool true)),(17,.v (.bool (!(x0.1.2.1==x2.2.1))))] [some ⟨10,115,[AH.enc x0],false⟩,some ⟨10,115,[AH.enc x1],false⟩] kr ?_
   rcases BE (!(x0.1.2.1==x2.2.1)) with hc6 | hc6
   ·rw [if_pos hc6] at hj2
    rw [hc6]
    refine AD (n:=30) AC 8 [(3,.pe (.fn fid [] (sx.enc x3)) 0),(4,.pt 0 0 0),(5,.pt 1 0 0),(25,.v (.bool true))] [some ⟨10,115,[AH.enc x0],false⟩,some ⟨10,115,[AH.enc x1],false⟩] kr ?_
    have hq:=OI hj2; subst hq
    exact AI rfl (Ad [0,1] ⟨⟨_,rfl,Ga⟩,⟨_,rfl,Ga⟩,trivial⟩ ⟨lv,lv,lv,lv,trivial⟩)
   ·rw [BZ hc6] at hj2
    rw [hc6]
    refine AD (n:=30) AC 8 [(3,.pe (.fn fid [] (sx.enc x3)) 0),(4,.pt 0 0 0),(5,.pt 1 0 0),(25,.v (.bool (!(x1.1.2.1==x2.2.1))))] [some ⟨10,115,[AH.enc x0],false⟩,some ⟨10,115,[AH.enc x1],false⟩] kr ?_
    have hq:=OI hj2; subst hq
    exact AI rfl (Ad [0,1] ⟨⟨_,rfl,Ga⟩,⟨_,rfl,Ga⟩,trivial⟩ ⟨lv,lv,lv,lv,trivial⟩)
  ·rw [BZ hc5] at hj2
   rw [hc5]
   refine AD (n:=30) AC 15 [(3,.pe (.fn fid [] (sx.enc x3)) 0),(4,.pt 0 0 0),(5,.pt 1 0 0),(25,.v (.bool false))] [some ⟨10,115,[AH.enc x0],false⟩,some ⟨10,115,[AH.enc x1],false⟩] kr ?_
   have hq:=OI hj2; subst hq
   exact AI rfl (Ad [0,1] ⟨⟨_,rfl,Ga⟩,⟨_,rfl,Ga⟩,trivial⟩ ⟨lv,lv,lv,lv,trivial⟩)
 refine AP (b:=j2) kr (fun hb3=>?_) (fun hb3=>?_)
 ·rw [if_pos hb3] at h
  refine AF ?_
  refine AK (s1:=⟨Fr 30 [(6,.v (.int .i64 0))],[]⟩) ?_ ?_
  ·refine AD (n:=30) AC 1 [(6,.v (.int .i64 0))] [some ⟨10,115,[AH.enc x0],false⟩,some ⟨10,115,[AH.enc x1],false⟩] kr ?_
   exact AI rfl (Ad [] trivial ⟨lv,trivial⟩)
  refine AQ ?_
  have hq:=OI h; subst hq
  exact ⟨⟨Fr 30 [(6,.v (.int .i64 0))],[]⟩,AL,.inr rfl,[.v (.int .i64 0)],kr,kr⟩
 ·rw [BZ hb3] at h
  refine AS ?_
  refine AF ?_
  obtain ⟨v4,hv4,h⟩:=OB h
  refine AK (s1:=⟨Fr 30 [(6,.v (.int .i64 v4))],[]⟩) ?_ ?_
  ·refine AD (n:=30) AC 3 [(26,.fn fid [] (sx.enc x3)),(27,AH.enc x0),(28,AH.enc x1)] [some ⟨10,115,[AH.enc x0],false⟩,some ⟨10,115,[AH.enc x1],false⟩] kr ?_
   refine AT (caps:=sx.enc x3) (xs:=[AH.enc x0,AH.enc x1]) (u:=(x0,x1,x3)) rfl rfl hX rfl (AB rfl) kr kr (AM (AX (c:=AH) (v:=x0)) (AM (AX (c:=AH) (v:=x1)) (T4 (n:=10) (s:=sx) (a:=x3)))) (.inl kr) hv4 ?_
   refine AD (n:=30) AC 1 [(6,.v (.int .i64 v4))] [some ⟨10,115,[AH.enc x0],false⟩,some ⟨10,115,[AH.enc x1],false⟩] kr ?_
   exact AI rfl (Ad [] trivial ⟨lv,trivial⟩)
  refine AQ ?_
  have hq:=OI h; subst hq
  exact ⟨⟨Fr 30 [(6,.v (.int .i64 v4))],[]⟩,AL,.inr rfl,[.v (.int .i64 v4)],kr,kr⟩
def Ql {β:Type}(fid:FuncId) (sx:Cs β) (hn:∀ x,(sx.enc x).all IM=true) (G:A5->A5->β->Option Int):List AV->Option AV:=Dx (Ib fid sx hn) (fun a=>CZ G a.1 a.2.1 a.2.2.1 a.2.2.2.1) Ih
theorem DH {β:Type}{fid:FuncId}{sx:Cs β}{hn:∀ x,(sx.enc x).all IM=true}{G:A5->A5->β->Option Int}(hX:XOk fid (Dx (csC AH (csC AH sx)) (fun a=>G a.1 a.2.1 a.2.2) cdI.enc)):XOk 165 (Ql fid sx hn G):=by
 refine AU Tryz.func165 (c:=LZ) ?h2 ⟨Tryz.call165⟩ (Ib fid sx hn) (fun a=>CZ G a.1 a.2.1 a.2.2.1 a.2.2.2.1) Ih (fun a=>(by show 4<=30; decide)) ?h3 ?h4
 case h2=>kernel_rfl
 case h3=>intro b; kernel_rfl
 case h4=>exact fun a b h=>Oz hX a.1 a.2.1 a.2.2.1 a.2.2.2.1 b h
/- cmp.isNaN[int] -/
noncomputable def M4:Code:=BG Tryz.f137
def Gt (x0:Int):Option (Bool) :=
 some (x0 != x0)
def Jw:Cs (Int×Unit):=(csC cdI csN)
def KG (r:Bool):AV:=cdB.enc r
theorem P5 (x0:Int) (r:Bool) (h:Gt x0=some r):Sem E0 ⟨none,false⟩ M4 ⟨Fr 6 (A3 0 (Jw.enc (x0,()))),[]⟩ fun e s'=>(e = .normal\/e = .ret)/\∃ xs,EG E0.P s'.fr s'.hp Tryz.f137.results.toList=some xs/\EN xs=KG r:=by
 unfold Gt at h;refine An (BP (s1:=⟨Fr 6 [(0,.v (.int .i64 x0))],[]⟩) AL ?_);refine AJ AC [(0,.v (.int .i64 x0))] [] ?_;refine AJ AC [(2,.v (.bool (x0 != x0)))] [] ?_;refine AQ ?_;have hq:=OI h; subst hq;exact ⟨⟨Fr 6 [(2,.v (.bool (x0 != x0)))],[]⟩,AL,.inr rfl,[.v (.bool (x0 != x0))],kr,kr⟩
def SV:List AV->Option AV:=Dx Jw (fun a=>Gt a.1) KG
theorem OJ:XOk 137 SV:=by
 refine AU Tryz.func137 (c:=M4) ?h2 ⟨Tryz.call137⟩ Jw (fun a=>Gt a.1) KG (fun a=>(by show 1<=6; decide)) ?h3 ?h4
 case h2=>kernel_rfl
 case h3=>intro b; kernel_rfl
 case h4=>exact fun a b h=>P5 a.1 b h
/- cmp.Compare[int] -/
noncomputable def LY:Code:=BG Tryz.f113
def Cy (x0:Int) (x1:Int):Option (Int) :=
 (Gt x0).bind fun v1 =>
 (Gt x1).bind fun v2 =>
 if v1=true then
 if v2=true then
 some 0
 else
 some (-1)
 else
 if v2=true then
 some 1
 else
 if (decide (x0 < x1))=true then
 some (-1)
 else
 if (decide (x0 > x1))=true then
 some 1
 else
 some 0
def IZ:Cs (Int×Int×Unit):=(csC cdI (csC cdI csN))
def Ig (r:Int):AV:=cdI.enc r
theorem Oy (x0:Int) (x1:Int) (r:Int) (h:Cy x0 x1=some r):Sem E0 ⟨none,false⟩ LY ⟨Fr 20 (A3 0 (IZ.enc (x0,x1,()))),[]⟩ fun e s'=>(e = .normal\/e = .ret)/\∃ xs,EG E0.P s'.fr s'.hp Tryz.f113.results.toList=some xs/\EN xs=Ig r:=by
 unfold Cy at h
 let p1:Nat×AV:=(1,.v (.int .i64 x1))
 let p2:Nat×AV:=(0,.v (.int .i64 x0))
 refine An (BP (s1:=⟨Fr 20 [p2,p1],[]⟩) AL ?_);refine AJ AC [p2,p1] [] ?_;refine AF ?_;obtain ⟨v1,hv1,h⟩:=OB h
 let p3:Nat×AV:=(5,.v (.bool v1))
 refine AK (s1:=⟨Fr 20 [p2,p1,p3],[]⟩) ?_ ?_
 ·refine AD (n:=20) AC 1 [p2,p1,(7,.v (.int .i64 x0))] [] kr ?_
  refine AT (caps:=[]) (xs:=[.v (.int .i64 x0)]) (u:=(x0,())) rfl rfl OJ rfl (AB rfl) kr kr (AM (AX (c:=cdI) (v:=x0)) Aj) (.inl kr) hv1 ?_;exact AW AC
 refine AF ?_;obtain ⟨v2,hv2,h⟩:=OB h;refine AK (s1:=⟨Fr 20 [p2,p1,p3,(6,.v (.bool v2))],[]⟩) ?_ ?_
 ·refine AD (n:=20) AC 1 [p2,p1,p3,(9,.v (.int .i64 x1))] [] kr ?_
  refine AT (caps:=[]) (xs:=[.v (.int .i64 x1)]) (u:=(x1,())) rfl rfl OJ rfl (AB rfl) kr kr (AM (AX (c:=cdI) (v:=x1)) Aj) (.inl kr) hv2 ?_;exact AW AC
 refine AF ?_;refine AJ AC [p2,p1,(6,.v (.bool v2)),(11,.v (.bool v1))] [] ?_;refine AP (b:=v1) kr (fun hb3=>?_) (fun hb3=>?_)
 ·rw [if_pos hb3] at h
  refine AF ?_;refine AJ AC [(12,.v (.bool v2))] [] ?_;refine AP (b:=v2) kr (fun hb4=>?_) (fun hb4=>?_)
  ·rw [if_pos hb4] at h
   refine AJ AC [(4,.v (.int .i64 0))] [] ?_;refine AQ ?_;have hq:=OI h; subst hq;exact ⟨⟨Fr 20 [(4,.v (.int .i64 0))],[]⟩,AL,.inr rfl,[.v (.int .i64 0)],kr,kr⟩
  ·rw [BZ hb4] at h
   refine AS ?_;refine AJ AC [(4,.v (.int .i64 (-1)))] [] ?_;refine AQ ?_;have hq:=OI h; subst hq;exact ⟨⟨Fr 20 [(4,.v (.int .i64 (-1)))],[]⟩,AL,.inr rfl,[.v (.int .i64 (-1))],kr,kr⟩
 ·rw [BZ hb3] at h
  refine AS ?_;refine AF ?_;refine AJ AC [p2,p1,(13,.v (.bool v2))] [] ?_;refine AP (b:=v2) kr (fun hb5=>?_) (fun hb5=>?_)
  ·rw [if_pos hb5] at h
   refine AJ AC [(4,.v (.int .i64 1))] [] ?_;refine AQ ?_;have hq:=OI h; subst hq;exact ⟨⟨Fr 20 [(4,.v (.int .i64 1))],[]⟩,AL,.inr rfl,[.v (.int .i64 1)],kr,kr⟩
  ·rw [BZ hb5] at h
   refine AS ?_;refine AF ?_;refine AJ AC [p2,p1,(16,.v (.bool (decide (x0 < x1))))] [] ?_;refine AP (b:=(decide (x0 < x1))) kr (fun hb6=>?_) (fun hb6=>?_)
   ·rw [if_pos hb6] at h
    refine AJ AC [(4,.v (.int .i64 (-1)))] [] ?_;refine AQ ?_;have hq:=OI h; subst hq;exact ⟨⟨Fr 20 [(4,.v (.int .i64 (-1)))],[]⟩,AL,.inr rfl,[.v (.int .i64 (-1))],kr,kr⟩
   ·rw [BZ hb6] at h
    refine AS ?_;refine AF ?_;refine AJ AC [(19,.v (.bool (decide (x0 > x1))))] [] ?_;refine AP (b:=(decide (x0 > x1))) kr (fun hb7=>?_) (fun hb7=>?_)
    ·rw [if_pos hb7] at h
     refine AJ AC [(4,.v (.int .i64 1))] [] ?_;refine AQ ?_;have hq:=OI h; subst hq;exact ⟨⟨Fr 20 [(4,.v (.int .i64 1))],[]⟩,AL,.inr rfl,[.v (.int .i64 1)],kr,kr⟩
    ·rw [BZ hb7] at h
     refine AS ?_;refine AJ AC [(4,.v (.int .i64 0))] [] ?_;refine AQ ?_;have hq:=OI h; subst hq;exact ⟨⟨Fr 20 [(4,.v (.int .i64 0))],[]⟩,AL,.inr rfl,[.v (.int .i64 0)],kr,kr⟩
def Qj:List AV->Option AV:=Dx IZ (fun a=>Cy a.1 a.2.1) Ig
theorem Gm:XOk 113 Qj:=by
 refine AU Tryz.func113 (c:=LY) ?h2 ⟨Tryz.call113⟩ IZ (fun a=>Cy a.1 a.2.1) Ig (fun a=>(by show 2<=20; decide)) ?h3 ?h4
 case h2=>kernel_rfl
 case h3=>intro b; kernel_rfl
 case h4=>exact fun a b h=>Oy a.1 a.2.1 b h
/- trestle/court.by$1 -/
noncomputable def PP:Code:=BG Tryz.f205
def C4 {β:Type}(G:A5->β->Option Int) (x0:A5) (x1:A5) (x2:β):Option (Int) :=
 (G x0 x2).bind fun v1 =>
 (G x1 x2).bind fun v2 =>
 (Cy v1 v2).bind fun v3 =>
 some v3
def Md {β:Type}(fid:FuncId) (sx:Cs β) (hn:∀ x,(sx.enc x).all IM=true):Cs (A5×A5×β×Unit):=(csC AH (csC AH (csC (cdP (cdF fid sx hn)) csN)))
def Mj (r:Int):AV:=cdI.enc r
theorem TK {β:Type}{fid:FuncId}{sx:Cs β}{hn:∀ x,(sx.enc x).all IM=true}{G:A5->β->Option Int}(hX:XOk fid (Dx (csC AH sx) (fun a=>G a.1 a.2) cdI.enc)) (x0:A5) (x1:A5) (x2:β) (r:Int) (h:C4 G x0 x1 x2=some r):Sem E0 ⟨none,false⟩ PP ⟨Fr 13 (A3 0 ((Md fid sx hn).enc (x0,x1,x2,()))),[]⟩ fun e s'=>(e = .normal\/e = .ret)/\∃ xs,EG E0.P s'.fr s'.hp Tryz.f205.results.toList=some xs/\EN xs=Mj r:=by
 unfold C4 at h
 refine An (BP (s1:=⟨Fr 13 [(0,AH.enc x0),(1,AH.enc x1),(2,.pe (.fn fid [] (sx.enc x2)) 0)],[]⟩) AL ?_)
 refine AJ AC [(2,.pe (.fn fid [] (sx.enc x2)) 0),(3,.pt 0 0 0),(4,.pt 1 0 0)] [some ⟨10,115,[AH.enc x0],false⟩,some ⟨10,115,[AH.enc x1],false⟩] ?_
 refine AF ?_
 obtain ⟨v1,hv1,h⟩:=OB h
 obtain ⟨v2,hv2,h⟩:=OB h
 obtain ⟨v3,hv3,h⟩:=OB h
 refine DL AC (s1:=⟨Fr 13 [(5,.v (.int .i64 v3))],[]⟩) kr ?_ ?_
 ·refine AY (n:=13) AC 2 [(2,.pe (.fn fid [] (sx.enc x2)) 0),(4,.pt 1 0 0),(6,.fn fid [] (sx.enc x2)),(7,AH.enc x0)] [some ⟨10,115,[AH.enc x0],false⟩,some ⟨10,115,[AH.enc x1],false⟩] kr kr ?_
  refine Bb (caps:=sx.enc x2) (xs:=[AH.enc x0]) (u:=(x0,x2)) rfl rfl hX rfl (AB rfl) kr kr (AM (AX (c:=AH) (v:=x0)) (T4 (n:=10) (s:=sx) (a:=x2))) kr hv1 ?_
  refine AY (n:=13) AC 2 [(8,.v (.int .i64 v1)),(9,.fn fid [] (sx.enc x2)),(10,AH.enc x1)] [some ⟨10,115,[AH.enc x0],false⟩,some ⟨10,115,[AH.enc x1],false⟩] kr kr ?_
  refine Bb (caps:=sx.enc x2) (xs:=[AH.enc x1]) (u:=(x1,x2)) rfl rfl hX rfl (AB rfl) kr kr (AM (AX (c:=AH) (v:=x1)) (T4 (n:=10) (s:=sx) (a:=x2))) kr hv2 ?_
  refine Bb (caps:=[]) (xs:=[.v (.int .i64 v1),.v (.int .i64 v2)]) (u:=(v1,v2,())) rfl rfl Gm rfl (AB rfl) kr kr (AM (AX (c:=cdI) (v:=v1)) (AM (AX (c:=cdI) (v:=v2)) Aj)) kr hv3 ?_
  refine AY (n:=13) AC 1 [(5,.v (.int .i64 v3))] [some ⟨10,115,[AH.enc x0],false⟩,some ⟨10,115,[AH.enc x1],false⟩] kr kr ?_
  exact RunDS.done rfl (Ad [] trivial ⟨lv,trivial⟩)
 refine AQ ?_
 have hq:=OI h; subst hq
 exact ⟨⟨Fr 13 [(5,.v (.int .i64 v3))],[]⟩,AL,.inr rfl,[.v (.int .i64 v3)],kr,kr⟩
def VW {β:Type}(fid:FuncId) (sx:Cs β) (hn:∀ x,(sx.enc x).all IM=true) (G:A5->β->Option Int):List AV->Option AV:=Dx (Md fid sx hn) (fun a=>C4 G a.1 a.2.1 a.2.2.1) Mj
theorem Jm {β:Type}{fid:FuncId}{sx:Cs β}{hn:∀ x,(sx.enc x).all IM=true}{G:A5->β->Option Int}(hX:XOk fid (Dx (csC AH sx) (fun a=>G a.1 a.2) cdI.enc)):XOk 205 (VW fid sx hn G):=by
 refine AU Tryz.func205 (c:=PP) ?h2 ⟨Tryz.call205⟩ (Md fid sx hn) (fun a=>C4 G a.1 a.2.1 a.2.2.1) Mj (fun a=>(by show 3<=13; decide)) ?h3 ?h4
 case h2=>kernel_rfl
 case h3=>intro b; kernel_rfl
 case h4=>exact fun a b h=>TK hX a.1 a.2.1 a.2.2.1 b h
/- trestle/court.plain$1 -/
noncomputable def M7:Code:=BG Tryz.f178
def Eh (x0:A5) (x1:AG):Option (Int) :=
 (CA x1.2.2.2.1 x0.1.2.1).bind fun v1 =>
 if (decide (v1≥0))=true then
 some v1
 else
 some (x1.2.2.2.1.length:Int)
def Jz:Cs (A5×AG×Unit):=(csC AH (csC (cdP AA) csN))
def KK (r:Int):AV:=cdI.enc r
theorem P9 (x0:A5) (x1:AG) (r:Int) (h:Eh x0 x1=some r):Sem E0 ⟨none,false⟩ M7 ⟨Fr 17 (A3 0 (Jz.enc (x0,x1,()))),[]⟩ fun e s'=>(e = .normal\/e = .ret)/\∃ xs,EG E0.P s'.fr s'.hp Tryz.f178.results.toList=some xs/\EN xs=KK r:=by
 unfold Eh at h
 let p1:Nat×AV:=(1,.pe (AA.enc x1) 0)
 refine An (BP (s1:=⟨Fr 17 [(0,AH.enc x0),p1],[]⟩) AL ?_)
 let p2:Option Blk:=some ⟨10,115,[AH.enc x0],false⟩
 refine AJ AC [p1,(2,.pt 0 0 0)] [p2] ?_;refine AF ?_;refine AF ?_;obtain ⟨v1,hv1,h⟩:=OB h
 let p3:Nat×AV:=(4,.v (.int .i64 v1))
 refine AK (s1:=⟨Fr 17 [p1,p3],[]⟩) ?_ ?_
 ·refine AD (n:=17) AC 5 [p1,(6,.sl 1 (x1.2.2.2.1.map cdS.enc)),(9,.st x0.1.2.1)] [p2] kr ?_
  refine AT (caps:=[]) (xs:=[.sl 1 (x1.2.2.2.1.map cdS.enc),.st x0.1.2.1]) (u:=(x1.2.2.2.1,x0.1.2.1,())) rfl rfl HG rfl (AB rfl) kr kr (AM (AX (c:=(cdL 1 cdS)) (v:=x1.2.2.2.1)) (AM (AX (c:=cdS) (v:=x0.1.2.1)) Aj)) (.inl kr) hv1 ?_;refine AD (n:=17) AC 1 [p1,p3] [p2] kr ?_;exact AI rfl (Ad [] trivial ⟨lv,lv,trivial⟩)
 refine AJ AC [p1,p3,(12,.v (.bool (decide (v1≥0))))] [] ?_;refine AP (b:=(decide (v1≥0))) kr (fun hb2=>?_) (fun hb2=>?_)
 ·rw [if_pos hb2] at h
  refine AJ AC [(3,.v (.int .i64 v1))] [] ?_;refine AQ ?_;have hq:=OI h; subst hq;exact ⟨⟨Fr 17 [(3,.v (.int .i64 v1))],[]⟩,AL,.inr rfl,[.v (.int .i64 v1)],kr,kr⟩
 ·rw [BZ hb2] at h
  refine AS ?_;refine AF ?_
  let p4:Nat×AV:=(3,.v (.int .i64 (x1.2.2.2.1.length:Int)))
  refine AK (s1:=⟨Fr 17 [p4],[]⟩) ?_ ?_
  ·refine AD (n:=17) AC 2 [(15,.sl 1 (x1.2.2.2.1.map cdS.enc))] [] kr ?_
   refine AR AC 0 rfl (C7 (AB rfl) rfl (Ck (a:= .sl 1 (x1.2.2.2.1.map cdS.enc)) kr (Ba (el:=9) kr))) ?_;exact AW AC
  refine AQ ?_;have hq:=OI h; subst hq;exact ⟨⟨Fr 17 [p4],[]⟩,AL,.inr rfl,[.v (.int .i64 (x1.2.2.2.1.length:Int))],kr,kr⟩
def SZ:List AV->Option AV:=Dx Jz (fun a=>Eh a.1 a.2.1) KK
theorem S2:XOk 178 SZ:=by
 refine AU Tryz.func178 (c:=M7) ?h2 ⟨Tryz.call178⟩ Jz (fun a=>Eh a.1 a.2.1) KK (fun a=>(by show 2<=17; decide)) ?h3 ?h4
 case h2=>kernel_rfl
 case h3=>intro b; kernel_rfl
 case h4=>exact fun a b h=>P9 a.1 a.2.1 b h
end Go.Proofs.YtlalcoehgkmhlaaGreatDoor
