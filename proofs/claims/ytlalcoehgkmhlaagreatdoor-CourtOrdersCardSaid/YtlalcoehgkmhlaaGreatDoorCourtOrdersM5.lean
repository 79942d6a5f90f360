/- Lemmas for the proof. -/
import Derived.Test.YtlalcoehgkmhlaaGreatDoorCourtOrdersM1
import Derived.Test.YtlalcoehgkmhlaaGreatDoorCourtOrdersM2
import Derived.Test.YtlalcoehgkmhlaaGreatDoorCourtOrdersM3
import Derived.Test.YtlalcoehgkmhlaaGreatDoorCourtOrdersM4
set_option maxHeartbeats 4000000
set_option maxRecDepth 100000
namespace Go.Proofs.YtlalcoehgkmhlaaGreatDoor
open Go.RowKit
def isT (r:Option (AV×Hp)):Bool:=match r with
 | some (.v (.bool true),_)=>true
 | _=>false
theorem ACT {r:Option (AV×Hp)}(h:isT r=true):∃ h',r=some (.v (.bool true),h'):=by
 unfold isT at h
 split at h
 ·exact ⟨_,rfl⟩
 ·cases h
set_option maxRecDepth 1000000 in
theorem ADe:isT (Xo E13 3000 18 [] [])=true:=by kernel_rfl
theorem AAV:∃ h,Xo E13 3000 18 [] []=some (.v (.bool true),h):=ACT ADe
theorem ZE (w:World):Ret Tryz.prog 18 #[] w fun v w'=>v = .bool true/\w.grownBy w' none:=by
 obtain ⟨h,e⟩:=AAV
 exact ABA (E:=E13) (Z:=fun _=>False) (us:=[]) ADP e (fun c hc=>hc.elim) (fun g x h=>by cases h) .nil
theorem ADC {w:World}{Z:Nat->Prop}:VR w Z [] (.v (.bool true)) (.bool true):= .v rfl
def H9:Option Bool:=some true
def Ty:Cs Unit:=csN
def Tz (b:Bool):AV:=cdB.enc b
def VT:List AV->Option AV:=Dm Ty (fun _=>H9) Tz
theorem Ho:XOk 18 VT:=by
 refine ⟨⟨Tryz.call18⟩,fun xs x h w Z us _ _ hv=>?_⟩
 obtain ⟨a,ha,h⟩:=OB h
 obtain ⟨b,hb,rfl⟩:=Option.map_eq_some_iff.1 h
 have hb:=OI hb
 subst hb
 have:xs=[]:=by
  cases xs with
  | nil=>rfl
  | cons x xs=>cases ha
 subst this
 have:us=[]:=by have:=hv.len; simpa using this
 subst this
 exact Ret.mono (ZE w) fun v w' h=>⟨h.2,by rw [h.1]; exact ADC⟩
/- trestle/trestlelaw03.FewGuests$1$1 -/
noncomputable def Iy:Code:=A9 Tryz.f58
def EU (x0:(List UInt8)):Option (Bool) :=
 some (decide ((x0.length:Int) > 40))
def G7:Cs ((List UInt8)×Unit):=(csC cdS csN)
def G8 (r:Bool):AV:=cdB.enc r
theorem M2 (x0:(List UInt8)) (r:Bool) (h:EU x0=some r):Sem E0 ⟨none,false⟩ Iy ⟨Fr 6 (A0 0 (G7.enc (x0,()))),[]⟩ fun e s'=>(e = .normal\/e = .ret)/\∃ xs,Dz E0.P s'.fr s'.hp Tryz.f58.results.toList=some xs/\D0 xs=G8 r:=by
 unfold EU at h;refine Ao (BL (s1:=⟨Fr 6 [(0,.st x0)],[]⟩) AM ?_);refine AK AC [(0,.st x0)] [] ?_
 let p1:Nat×AV:=(2,.v (.bool (decide ((x0.length:Int) > 40))))
 refine AK AC [p1] [] ?_;refine AO ?_;have hq:=OI h; subst hq;exact ⟨⟨Fr 6 [p1],[]⟩,AM,.inr rfl,[.v (.bool (decide ((x0.length:Int) > 40)))],kr,kr⟩
def OH:List AV->Option AV:=Dm G7 (fun a=>EU a.1) G8
theorem OR:XOk 58 OH:=by
 refine AR Tryz.func58 (c:=Iy) ?h2 ⟨Tryz.call58⟩ G7 (fun a=>EU a.1) G8 (fun a=>(by show 1<=6; decide)) ?h3 ?h4
 case h2=>kernel_rfl
 case h3=>intro b; kernel_rfl
 case h4=>exact fun a b h=>M2 a.1 b h
/- slices.IndexFunc[[]string,string] -/
noncomputable def B5:Code:=A9 Tryz.f90
def BG (x0:(List (List UInt8))):Nat->Int->Option ((Unit) ⊕ (Int))
 | 0,_=>none
 | f + 1,c1 =>
  if (decide (c1 < (x0.length:Int)))=true then
  (idx x0 c1).bind fun v3 =>
  (EU v3).bind fun v4 =>
  if v4=true then
  some (.inr c1)
  else
  BG x0 f (wr .i64 (c1 + 1))
  else
  some (.inl ())
def A5 (x0:(List (List UInt8))):Option (Int) :=
 (BG x0 100000 0).bind fun r7 =>
 match r7 with
 | (.inl _w8) =>
  some (-1)
 | (.inr w9) =>
  some w9
def B7:Cs ((List (List UInt8))×Unit×Unit):=(csC (cdL 1 cdS) (csC (cdF 58 csN (fun _=>rfl)) csN))
def B9 (r:Int):AV:=cdI.enc r
theorem Cw (x0:(List (List UInt8))):∀ (f:Nat) (c1:Int) (r:(Unit) ⊕ (Int)),BG x0 f c1=some r->SemN E0 ⟨none,false⟩ (pc B5 [1,0,1,0,0]) f ⟨Fr 19 [(0,.sl 1 (x0.map cdS.enc)),(1,.fn 58 [] []),(7,.v (.int .i64 (x0.length:Int))),(8,.v (.int .i64 c1))],[]⟩ (fun e s=>match r with
 | (.inl _w)=>e=(.exit 0)/\Wk E0 s ⟨Fr 19 [],[]⟩
 | (.inr w)=>e = .ret/\Wk E0 s ⟨Fr 19 [(4,.v (.int .i64 w))],[]⟩):=by
 intro f;induction f with
 | zero=>intro c1 r h; cases h
 | succ f ih0 =>
  intro c1 r h
  have ih:=fun (c1:Int)=>ih0 c1 r
  unfold BG at h;refine Bc ?_
  let p1:Nat×AV:=(8,.v (.int .i64 c1))
  let p2:Nat×AV:=(7,.v (.int .i64 (x0.length:Int)))
  let p3:Nat×AV:=(1,.fn 58 [] [])
  let p4:Nat×AV:=(0,.sl 1 (x0.map cdS.enc))
  refine AK AC [p4,p3,p2,p1,(9,.v (.bool (decide (c1 < (x0.length:Int)))))] [] ?_;refine AG ?_;refine AP (b:=(decide (c1 < (x0.length:Int)))) kr (fun hb2=>?_) (fun hb2=>?_)
  ·rw [if_pos hb2] at h
   refine AT ?_;refine AG ?_;refine Aa ?_
   let p5:Nat×AV:=(5,.v (.int .i64 c1))
   refine AK AC [p4,p3,p5,p2,p1] [] ?_;refine AG ?_;obtain ⟨v3,hv3,h⟩:=OB h;obtain ⟨v4,hv4,h⟩:=OB h;refine AL (s1:=⟨Fr 19 [p4,p3,p5,p2,p1,(16,.v (.bool v4))],[]⟩) ?_ ?_
   ·refine AD (n:=19) AC 3 [p4,p3,p5,p2,p1,(11,.fn 58 [] []),(12,.sl 1 (x0.map cdS.enc)),(13,.v (.int .i64 c1))] [] kr ?_
    refine AW AC 0 rfl (DW (AB rfl) rfl (AS (a:= .sl 1 (x0.map cdS.enc)) (b:= .v (.int .i64 c1)) kr kr (DP (e:=cdS.enc) (el:=9) (k:=1) (ki:= .i64) kr kr hv3))) ?_;refine AD (n:=19) AC 1 [p4,p3,p5,p2,p1,(11,.fn 58 [] []),(15,.st v3)] [] kr ?_;refine AN (caps:=[]) (xs:=[.st v3]) (u:=(v3,())) rfl rfl OR rfl (AB rfl) kr kr (AJ (AQ (c:=cdS) (v:=v3)) Ah) (.inl kr) hv4 ?_;exact AI rfl AM
   refine AP (b:=v4) kr (fun hb5=>?_) (fun hb5=>?_)
   ·rw [if_pos hb5] at h
    refine AK AC [(4,.v (.int .i64 c1))] [] ?_;refine AO ?_;have hq:=OI h; subst hq;exact ⟨rfl,AM⟩
   ·rw [BV hb5] at h
    refine AT ?_
    let p6:Nat×AV:=(8,.v (.int .i64 (wr .i64 (c1 + 1))))
    refine DC AC [p4,p3,p2,p6] [] ?_;exact Aj (s1:=⟨Fr 19 [p4,p3,p2,p6],[]⟩) AM (ih (wr .i64 (c1 + 1)) h)
  ·rw [BV hb2] at h
   refine CA ?_;have hq:=OI h; subst hq;exact ⟨rfl,AM⟩
theorem FB (x0:(List (List UInt8))) (r:Int) (h:A5 x0=some r):Sem E0 ⟨none,false⟩ B5 ⟨Fr 19 (A0 0 (B7.enc (x0,(),()))),[]⟩ fun e s'=>(e = .normal\/e = .ret)/\∃ xs,Dz E0.P s'.fr s'.hp Tryz.f90.results.toList=some xs/\D0 xs=B9 r:=by
 unfold A5 at h
 let p1:Nat×AV:=(1,.fn 58 [] [])
 let p2:Nat×AV:=(0,.sl 1 (x0.map cdS.enc))
 refine Ao (BL (s1:=⟨Fr 19 [p2,p1],[]⟩) AM ?_);refine AK AC [p2,p1] [] ?_;refine AG ?_;refine AG ?_
 let p3:Nat×AV:=(8,.v (.int .i64 0))
 let p4:Nat×AV:=(7,.v (.int .i64 (x0.length:Int)))
 refine AL (s1:=⟨Fr 19 [p2,p1,p4,p3],[]⟩) ?_ ?_
 ·refine AD (n:=19) AC 1 [p2,p1,(6,.sl 1 (x0.map cdS.enc))] [] kr ?_
  refine AW AC 0 rfl (DW (AB rfl) rfl (CO (a:= .sl 1 (x0.map cdS.enc)) kr (BS (el:=9) kr))) ?_;exact AX AC
 refine Aa ?_;obtain ⟨r7,hr7,h⟩:=OB h;refine CF (n:=100000) ?_;rcases r7 with w8 | w9
 ·try dsimp only at h
  refine A1 (Aj (s1:=⟨Fr 19 [p2,p1,p4,p3],[]⟩) AM (Cw x0 _ 0 _ hr7)) ?_;refine AK AC [(4,.v (.int .i64 (-1)))] [] ?_;refine AO ?_;have hq:=OI h; subst hq;exact ⟨⟨Fr 19 [(4,.v (.int .i64 (-1)))],[]⟩,AM,.inr rfl,[.v (.int .i64 (-1))],kr,kr⟩
 ·try dsimp only at h
  refine A1 (Aj (s1:=⟨Fr 19 [p2,p1,p4,p3],[]⟩) AM (Cw x0 _ 0 _ hr7)) ?_;have hq:=OI h; subst hq;exact ⟨⟨Fr 19 [(4,.v (.int .i64 w9))],[]⟩,AM,.inr rfl,[.v (.int .i64 w9)],kr,kr⟩
def FN:List AV->Option AV:=Dm B7 (fun a=>A5 a.1) B9
theorem FP:XOk 90 FN:=by
 refine AR Tryz.func90 (c:=B5) ?h2 ⟨Tryz.call90⟩ B7 (fun a=>A5 a.1) B9 (fun a=>(by show 2<=19; decide)) ?h3 ?h4
 case h2=>kernel_rfl
 case h3=>intro b; kernel_rfl
 case h4=>exact fun a b h=>FB a.1 b h
/- slices.ContainsFunc[[]string,string] -/
noncomputable def Cu:Code:=A9 Tryz.f36
def Am (x0:(List (List UInt8))):Option (Bool) :=
 (A5 x0).bind fun v1 =>
 some (decide (v1≥0))
def Bt:Cs ((List (List UInt8))×Unit×Unit):=(csC (cdL 1 cdS) (csC (cdF 58 csN (fun _=>rfl)) csN))
def Bv (r:Bool):AV:=cdB.enc r
theorem Ea (x0:(List (List UInt8))) (r:Bool) (h:Am x0=some r):Sem E0 ⟨none,false⟩ Cu ⟨Fr 9 (A0 0 (Bt.enc (x0,(),()))),[]⟩ fun e s'=>(e = .normal\/e = .ret)/\∃ xs,Dz E0.P s'.fr s'.hp Tryz.f36.results.toList=some xs/\D0 xs=Bv r:=by
 unfold Am at h;refine Ao (BL (s1:=⟨Fr 9 [(0,.sl 1 (x0.map cdS.enc)),(1,.fn 58 [] [])],[]⟩) AM ?_);refine AK AC [(0,.sl 1 (x0.map cdS.enc)),(1,.fn 58 [] [])] [] ?_;refine AG ?_;obtain ⟨v1,hv1,h⟩:=OB h
 let p1:Nat×AV:=(4,.v (.bool (decide (v1≥0))))
 refine AL (s1:=⟨Fr 9 [p1],[]⟩) ?_ ?_
 ·refine AD (n:=9) AC 2 [(5,.sl 1 (x0.map cdS.enc)),(6,.fn 58 [] [])] [] kr ?_
  refine AN (caps:=[]) (xs:=[.sl 1 (x0.map cdS.enc),.fn 58 [] []]) (u:=(x0,(),())) rfl rfl FP rfl (AB rfl) kr kr (AJ (AQ (c:=(cdL 1 cdS)) (v:=x0)) (AJ (Sm.fn Ah) Ah)) (.inl kr) hv1 ?_;exact AX AC
 refine AO ?_;have hq:=OI h; subst hq;exact ⟨⟨Fr 9 [p1],[]⟩,AM,.inr rfl,[.v (.bool (decide (v1≥0)))],kr,kr⟩
def Eo:List AV->Option AV:=Dm Bt (fun a=>Am a.1) Bv
theorem Eq:XOk 36 Eo:=by
 refine AR Tryz.func36 (c:=Cu) ?h2 ⟨Tryz.call36⟩ Bt (fun a=>Am a.1) Bv (fun a=>(by show 2<=9; decide)) ?h3 ?h4
 case h2=>kernel_rfl
 case h3=>intro b; kernel_rfl
 case h4=>exact fun a b h=>Ea a.1 b h
/- trestle/trestlelaw03.FewGuests$1 -/
noncomputable def KR:Code:=A9 Tryz.f57
def Dt (x0:Af):Option (Bool) :=
 (if (decide ((mxI (mxI (x0.1.length:Int) (x0.2.1.length:Int)) (x0.2.2.1.length:Int)) > 40))=true then some true else if (decide ((x0.2.2.2.2.2.2.2.2.length:Int) > 10))=true then some true else (Am x0.2.2.2.2.2.2.2.2).bind fun v1 =>
 some v1).bind fun j3 =>
 some j3
def Hs:Cs (Af×Unit):=(csC AE csN)
def Ht (r:Bool):AV:=cdB.enc r
theorem N9 (x0:Af) (r:Bool) (h:Dt x0=some r):Sem E0 ⟨none,false⟩ KR ⟨Fr 25 (A0 0 (Hs.enc (x0,()))),[]⟩ fun e s'=>(e = .normal\/e = .ret)/\∃ xs,Dz E0.P s'.fr s'.hp Tryz.f57.results.toList=some xs/\D0 xs=Ht r:=by
 unfold Dt at h;refine Ao (BL (s1:=⟨Fr 25 [(0,AE.enc x0)],[]⟩) AM ?_);refine AK AC [(1,.pt 0 0 0)] [some ⟨9,42,[AE.enc x0],false⟩] ?_;refine AG ?_;obtain ⟨j3,hj3,h⟩:=OB h;refine AL (s1:=⟨Fr 25 [(2,.v (.bool j3))],[]⟩) ?_ ?_
 ·refine AD (n:=25) AC 12 [(1,.pt 0 0 0),(14,.v (.bool (decide ((mxI (mxI (x0.1.length:Int) (x0.2.1.length:Int)) (x0.2.2.1.length:Int)) > 40))))] [some ⟨9,42,[AE.enc x0],false⟩] kr ?_
  rcases BE (decide ((mxI (mxI (x0.1.length:Int) (x0.2.1.length:Int)) (x0.2.2.1.length:Int)) > 40)) with hc4 | hc4
  ·rw [if_pos hc4] at hj3
   rw [hc4];refine AD (n:=25) AC 11 [(2,.v (.bool true))] [some ⟨9,42,[AE.enc x0],false⟩] kr ?_;have hq:=OI hj3; subst hq;exact AI rfl (Ac [] trivial ⟨lv,trivial⟩)
  ·rw [BV hc4] at hj3
   rw [hc4];refine AD (n:=25) AC 2 [(1,.pt 0 0 0),(14,.v (.bool false)),(16,.sl 1 (x0.2.2.2.2.2.2.2.2.map cdS.enc))] [some ⟨9,42,[AE.enc x0],false⟩] kr ?_;refine AW AC 0 rfl (DW kr rfl (CO (a:= .sl 1 (x0.2.2.2.2.2.2.2.2.map cdS.enc)) kr (BS (el:=9) kr))) ?_;refine AD (n:=25) AC 3 [(1,.pt 0 0 0),(20,.v (.bool (decide ((x0.2.2.2.2.2.2.2.2.length:Int) > 10))))] [some ⟨9,42,[AE.enc x0],false⟩] kr ?_;rcases BE (decide ((x0.2.2.2.2.2.2.2.2.length:Int) > 10)) with hc5 | hc5
   ·rw [if_pos hc5] at hj3
    rw [hc5];refine AD (n:=25) AC 5 [(2,.v (.bool true))] [some ⟨9,42,[AE.enc x0],false⟩] kr ?_;have hq:=OI hj3; subst hq;exact AI rfl (Ac [] trivial ⟨lv,trivial⟩)
   ·rw [BV hc5] at hj3
    rw [hc5];refine AD (n:=25) AC 2 [(20,.v (.bool false)),(22,.sl 1 (x0.2.2.2.2.2.2.2.2.map cdS.enc))] [some ⟨9,42,[AE.enc x0],false⟩] kr ?_;obtain ⟨v1,hv1,hj3⟩:=OB hj3;refine AN (caps:=[]) (xs:=[.sl 1 (x0.2.2.2.2.2.2.2.2.map cdS.enc),.fn 58 [] []]) (u:=(x0.2.2.2.2.2.2.2.2,(),())) rfl rfl Eq rfl kr kr kr (AJ (AQ (c:=(cdL 1 cdS)) (v:=x0.2.2.2.2.2.2.2.2)) (AJ (Sm.fn Ah) Ah)) (.inl kr) hv1 ?_;refine AD (n:=25) AC 2 [(2,.v (.bool v1))] [some ⟨9,42,[AE.enc x0],false⟩] kr ?_;have hq:=OI hj3; subst hq;exact AI rfl (Ac [] trivial ⟨lv,trivial⟩)
 refine AO ?_;have hq:=OI h; subst hq;exact ⟨⟨Fr 25 [(2,.v (.bool j3))],[]⟩,AM,.inr rfl,[.v (.bool j3)],kr,kr⟩
def PY:List AV->Option AV:=Dm Hs (fun a=>Dt a.1) Ht
theorem Pb:XOk 57 PY:=by
 refine AR Tryz.func57 (c:=KR) ?h2 ⟨Tryz.call57⟩ Hs (fun a=>Dt a.1) Ht (fun a=>(by show 1<=25; decide)) ?h3 ?h4
 case h2=>kernel_rfl
 case h3=>intro b; kernel_rfl
 case h4=>exact fun a b h=>N9 a.1 b h
/- slices.IndexFunc[[]trestle/api.Guest,trestle/api.Guest] -/
noncomputable def Bn:Code:=A9 Tryz.f32
def A7 (x0:(List Af)):Nat->Int->Option ((Unit) ⊕ (Int))
 | 0,_=>none
 | f + 1,c1 =>
  if (decide (c1 < (x0.length:Int)))=true then
  (idx x0 c1).bind fun v3 =>
  (Dt v3).bind fun v4 =>
  if v4=true then
  some (.inr c1)
  else
  A7 x0 f (wr .i64 (c1 + 1))
  else
  some (.inl ())
def Ar (x0:(List Af)):Option (Int) :=
 (A7 x0 100000 0).bind fun r7 =>
 match r7 with
 | (.inl _w8) =>
  some (-1)
 | (.inr w9) =>
  some w9
def Bo:Cs ((List Af)×Unit×Unit):=(csC (cdL 9 AE) (csC (cdF 57 csN (fun _=>rfl)) csN))
def Bp (r:Int):AV:=cdI.enc r
theorem Ck (x0:(List Af)):∀ (f:Nat) (c1:Int) (r:(Unit) ⊕ (Int)),A7 x0 f c1=some r->SemN E0 ⟨none,false⟩ (pc Bn [1,0,1,0,0]) f ⟨Fr 19 [(0,.sl 9 (x0.map AE.enc)),(1,.fn 57 [] []),(7,.v (.int .i64 (x0.length:Int))),(8,.v (.int .i64 c1))],[]⟩ (fun e s=>match r with
 | (.inl _w)=>e=(.exit 0)/\Wk E0 s ⟨Fr 19 [],[]⟩
 | (.inr w)=>e = .ret/\Wk E0 s ⟨Fr 19 [(4,.v (.int .i64 w))],[]⟩):=by
 intro f;induction f with
 | zero=>intro c1 r h; cases h
 | succ f ih0 =>
  intro c1 r h
  have ih:=fun (c1:Int)=>ih0 c1 r
  unfold A7 at h;refine Bc ?_
  let p1:Nat×AV:=(8,.v (.int .i64 c1))
  let p2:Nat×AV:=(7,.v (.int .i64 (x0.length:Int)))
  let p3:Nat×AV:=(1,.fn 57 [] [])
  let p4:Nat×AV:=(0,.sl 9 (x0.map AE.enc))
  refine AK AC [p4,p3,p2,p1,(9,.v (.bool (decide (c1 < (x0.length:Int)))))] [] ?_;refine AG ?_;refine AP (b:=(decide (c1 < (x0.length:Int)))) kr (fun hb2=>?_) (fun hb2=>?_)
  ·rw [if_pos hb2] at h
   refine AT ?_;refine AG ?_;refine Aa ?_
   let p5:Nat×AV:=(5,.v (.int .i64 c1))
   refine AK AC [p4,p3,p5,p2,p1] [] ?_;refine AG ?_;obtain ⟨v3,hv3,h⟩:=OB h;obtain ⟨v4,hv4,h⟩:=OB h;refine AL (s1:=⟨Fr 19 [p4,p3,p5,p2,p1,(16,.v (.bool v4))],[]⟩) ?_ ?_
   ·refine AD (n:=19) AC 3 [p4,p3,p5,p2,p1,(11,.fn 57 [] []),(12,.sl 9 (x0.map AE.enc)),(13,.v (.int .i64 c1))] [] kr ?_
    refine AW AC 0 rfl (DW (AB rfl) rfl (AS (a:= .sl 9 (x0.map AE.enc)) (b:= .v (.int .i64 c1)) kr kr (DP (e:=AE.enc) (el:=42) (k:=9) (ki:= .i64) kr kr hv3))) ?_;refine AD (n:=19) AC 1 [p4,p3,p5,p2,p1,(11,.fn 57 [] []),(15,AE.enc v3)] [] kr ?_;refine AN (caps:=[]) (xs:=[AE.enc v3]) (u:=(v3,())) rfl rfl Pb rfl (AB rfl) kr kr (AJ (AQ (c:=AE) (v:=v3)) Ah) (.inl kr) hv4 ?_;exact AI rfl AM
   refine AP (b:=v4) kr (fun hb5=>?_) (fun hb5=>?_)
   ·rw [if_pos hb5] at h
    refine AK AC [(4,.v (.int .i64 c1))] [] ?_;refine AO ?_;have hq:=OI h; subst hq;exact ⟨rfl,AM⟩
   ·rw [BV hb5] at h
    refine AT ?_
    let p6:Nat×AV:=(8,.v (.int .i64 (wr .i64 (c1 + 1))))
    refine DC AC [p4,p3,p2,p6] [] ?_;exact Aj (s1:=⟨Fr 19 [p4,p3,p2,p6],[]⟩) AM (ih (wr .i64 (c1 + 1)) h)
  ·rw [BV hb2] at h
   refine CA ?_;have hq:=OI h; subst hq;exact ⟨rfl,AM⟩
theorem EV (x0:(List Af)) (r:Int) (h:Ar x0=some r):Sem E0 ⟨none,false⟩ Bn ⟨Fr 19 (A0 0 (Bo.enc (x0,(),()))),[]⟩ fun e s'=>(e = .normal\/e = .ret)/\∃ xs,Dz E0.P s'.fr s'.hp Tryz.f32.results.toList=some xs/\D0 xs=Bp r:=by
 unfold Ar at h
 let p1:Nat×AV:=(1,.fn 57 [] [])
 let p2:Nat×AV:=(0,.sl 9 (x0.map AE.enc))
 refine Ao (BL (s1:=⟨Fr 19 [p2,p1],[]⟩) AM ?_);refine AK AC [p2,p1] [] ?_;refine AG ?_;refine AG ?_
 let p3:Nat×AV:=(8,.v (.int .i64 0))
 let p4:Nat×AV:=(7,.v (.int .i64 (x0.length:Int)))
 refine AL (s1:=⟨Fr 19 [p2,p1,p4,p3],[]⟩) ?_ ?_
 ·refine AD (n:=19) AC 1 [p2,p1,(6,.sl 9 (x0.map AE.enc))] [] kr ?_
  refine AW AC 0 rfl (DW (AB rfl) rfl (CO (a:= .sl 9 (x0.map AE.enc)) kr (BS (el:=42) kr))) ?_;exact AX AC
 refine Aa ?_;obtain ⟨r7,hr7,h⟩:=OB h;refine CF (n:=100000) ?_;rcases r7 with w8 | w9
 ·try dsimp only at h
  refine A1 (Aj (s1:=⟨Fr 19 [p2,p1,p4,p3],[]⟩) AM (Ck x0 _ 0 _ hr7)) ?_;refine AK AC [(4,.v (.int .i64 (-1)))] [] ?_;refine AO ?_;have hq:=OI h; subst hq;exact ⟨⟨Fr 19 [(4,.v (.int .i64 (-1)))],[]⟩,AM,.inr rfl,[.v (.int .i64 (-1))],kr,kr⟩
 ·try dsimp only at h
  refine A1 (Aj (s1:=⟨Fr 19 [p2,p1,p4,p3],[]⟩) AM (Ck x0 _ 0 _ hr7)) ?_;have hq:=OI h; subst hq;exact ⟨⟨Fr 19 [(4,.v (.int .i64 w9))],[]⟩,AM,.inr rfl,[.v (.int .i64 w9)],kr,kr⟩
def Ek:List AV->Option AV:=Dm Bo (fun a=>Ar a.1) Bp
theorem Em:XOk 32 Ek:=by
 refine AR Tryz.func32 (c:=Bn) ?h2 ⟨Tryz.call32⟩ Bo (fun a=>Ar a.1) Bp (fun a=>(by show 2<=19; decide)) ?h3 ?h4
 case h2=>kernel_rfl
 case h3=>intro b; kernel_rfl
 case h4=>exact fun a b h=>EV a.1 b h
/- slices.ContainsFunc[[]trestle/api.Guest,trestle/api.Guest] -/
noncomputable def Cj:Code:=A9 Tryz.f56
def Ai (x0:(List Af)):Option (Bool) :=
 (Ar x0).bind fun v1 =>
 some (decide (v1≥0))
def Be:Cs ((List Af)×Unit×Unit):=(csC (cdL 9 AE) (csC (cdF 57 csN (fun _=>rfl)) csN))
def Bf (r:Bool):AV:=cdB.enc r
theorem D7 (x0:(List Af)) (r:Bool) (h:Ai x0=some r):Sem E0 ⟨none,false⟩ Cj ⟨Fr 9 (A0 0 (Be.enc (x0,(),()))),[]⟩ fun e s'=>(e = .normal\/e = .ret)/\∃ xs,Dz E0.P s'.fr s'.hp Tryz.f56.results.toList=some xs/\D0 xs=Bf r:=by
 unfold Ai at h
 let p1:Nat×AV:=(0,.sl 9 (x0.map AE.enc))
 refine Ao (BL (s1:=⟨Fr 9 [p1,(1,.fn 57 [] [])],[]⟩) AM ?_);refine AK AC [p1,(1,.fn 57 [] [])] [] ?_;refine AG ?_;obtain ⟨v1,hv1,h⟩:=OB h
 let p2:Nat×AV:=(4,.v (.bool (decide (v1≥0))))
 refine AL (s1:=⟨Fr 9 [p2],[]⟩) ?_ ?_
 ·refine AD (n:=9) AC 2 [(5,.sl 9 (x0.map AE.enc)),(6,.fn 57 [] [])] [] kr ?_
  refine AN (caps:=[]) (xs:=[.sl 9 (x0.map AE.enc),.fn 57 [] []]) (u:=(x0,(),())) rfl rfl Em rfl (AB rfl) kr kr (AJ (AQ (c:=(cdL 9 AE)) (v:=x0)) (AJ (Sm.fn Ah) Ah)) (.inl kr) hv1 ?_;exact AX AC
 refine AO ?_;have hq:=OI h; subst hq;exact ⟨⟨Fr 9 [p2],[]⟩,AM,.inr rfl,[.v (.bool (decide (v1≥0)))],kr,kr⟩
def EI:List AV->Option AV:=Dm Be (fun a=>Ai a.1) Bf
theorem EJ:XOk 56 EI:=by
 refine AR Tryz.func56 (c:=Cj) ?h2 ⟨Tryz.call56⟩ Be (fun a=>Ai a.1) Bf (fun a=>(by show 2<=9; decide)) ?h3 ?h4
 case h2=>kernel_rfl
 case h3=>intro b; kernel_rfl
 case h4=>exact fun a b h=>D7 a.1 b h
/- trestle/trestlelaw03.FewGuests -/
noncomputable def LR:Code:=A9 Tryz.f16
def Fe (x0:(List Af)) (x1:Int):Option (Bool) :=
 (if (decide ((x0.length:Int)<=x1))=true then (Ai x0).bind fun v1 =>
 some (!v1) else some false).bind fun j3 =>
 some j3
def If:Cs ((List Af)×Int×Unit):=(csC (cdL 9 AE) (csC cdI csN))
def Ik (r:Bool):AV:=cdB.enc r
theorem PU (x0:(List Af)) (x1:Int) (r:Bool) (h:Fe x0 x1=some r):Sem E0 ⟨none,false⟩ LR ⟨Fr 14 (A0 0 (If.enc (x0,x1,()))),[]⟩ fun e s'=>(e = .normal\/e = .ret)/\∃ xs,Dz E0.P s'.fr s'.hp Tryz.f16.results.toList=some xs/\D0 xs=Ik r:=by
 unfold Fe at h;refine Ao (BL (s1:=⟨Fr 14 [(0,.sl 9 (x0.map AE.enc)),(1,.v (.int .i64 x1))],[]⟩) AM ?_);refine AK AC [(0,.sl 9 (x0.map AE.enc)),(1,.v (.int .i64 x1))] [] ?_;refine AG ?_;obtain ⟨j3,hj3,h⟩:=OB h;refine AL (s1:=⟨Fr 14 [(4,.v (.bool j3))],[]⟩) ?_ ?_
 ·refine AD (n:=14) AC 1 [(0,.sl 9 (x0.map AE.enc)),(1,.v (.int .i64 x1)),(5,.sl 9 (x0.map AE.enc))] [] kr ?_
  refine AW AC 0 rfl (DW (AB rfl) rfl (CO (a:= .sl 9 (x0.map AE.enc)) kr (BS (el:=42) kr))) ?_;refine AD (n:=14) AC 3 [(0,.sl 9 (x0.map AE.enc)),(9,.v (.bool (decide ((x0.length:Int)<=x1))))] [] kr ?_;rcases BE (decide ((x0.length:Int)<=x1)) with hc4 | hc4
  ·rw [if_pos hc4] at hj3
   rw [hc4];refine AD (n:=14) AC 1 [(9,.v (.bool true)),(10,.sl 9 (x0.map AE.enc))] [] kr ?_;obtain ⟨v1,hv1,hj3⟩:=OB hj3;refine AN (caps:=[]) (xs:=[.sl 9 (x0.map AE.enc),.fn 57 [] []]) (u:=(x0,(),())) rfl rfl EJ rfl kr kr kr (AJ (AQ (c:=(cdL 9 AE)) (v:=x0)) (AJ (Sm.fn Ah) Ah)) (.inl kr) hv1 ?_;refine AD (n:=14) AC 3 [(4,.v (.bool (!v1)))] [] kr ?_;have hq:=OI hj3; subst hq;exact AI rfl AM
  ·rw [BV hc4] at hj3
   rw [hc4];refine AD (n:=14) AC 5 [(4,.v (.bool false))] [] kr ?_;have hq:=OI hj3; subst hq;exact AI rfl AM
 refine AO ?_;have hq:=OI h; subst hq;exact ⟨⟨Fr 14 [(4,.v (.bool j3))],[]⟩,AM,.inr rfl,[.v (.bool j3)],kr,kr⟩
def RF:List AV->Option AV:=Dm If (fun a=>Fe a.1 a.2.1) Ik
theorem RL:XOk 16 RF:=by
 refine AR Tryz.func16 (c:=LR) ?h2 ⟨Tryz.call16⟩ If (fun a=>Fe a.1 a.2.1) Ik (fun a=>(by show 2<=14; decide)) ?h3 ?h4
 case h2=>kernel_rfl
 case h3=>intro b; kernel_rfl
 case h4=>exact fun a b h=>PU a.1 a.2.1 b h
/-- The first n blocks are given up. -/
def Yk:Nat->Hp->Hp
 | 0,h=>h
 | n + 1,h=>(Yk n h).set n none
theorem Xz {w:World}{Z:Nat->Prop}{R:List RI}{h:Hp}(hh:HR w Z R h):∀ n,HR w Z R (Yk n h)
 | 0=>hh
 | n + 1=>((Xz hh n).kill n).1
theorem WA {h:Hp}:∀ {n b:Nat}{B:Blk},(Yk n h)[b]? = some (some B)->n<=b/\h[b]? = some (some B)
 | 0,b,B,e=>⟨Nat.zero_le _,e⟩
 | n + 1,b,B,e=>by
  unfold Yk at e
  rw [List.getElem?_set] at e
  split at e
  ·split at e <;> cases e
  ·next hne =>
   obtain ⟨h1,h2⟩:=WA e
   exact ⟨by omega,h2⟩
def RunDX (E:Env) (ops:Array Oper) (T:Nat) (n0 k:Nat) (rest:List Oper) (s:St) (K:St->Prop):Prop :=
 ∀ (base:Bs) (Q:Act->World->Prop) (w0:World) (Z:Nat->Prop) (R0:List RI) (h0:Hp) (a:Act) (w:World) (R:List RI),HR w0 Z R0 h0->n0=h0.length->SR E base w Z R s a->w0.grownBy w none->Step w0 Z R0 h0 w Z R s.hp->(∀ (b:Nat) (B:Option Blk),h0[b]? = some B->s.hp[b]? = some B)->(∀ j,rest[j]? = ops[k + j]?) ->
  (∀ s' a' w' Z' R',K s'->SR E base w' Z' R' s' a'->StepW w0 Z R0 h0 w' Z' R' s'.hp->Q a' w')->Jc E.P ops (fun w'=>w0.grownBy w' none) (FX ops T) T Q k rest a w
section
variable {E:Env}{cx:Cx}{ops:Array Oper}{pre rest rest':List Oper}{s s1:St}{K:St->Prop}{n n0 k T:Nat}{l:List (Nat×AV)}{hp hp':Hp}{Q:Ex->St->Prop}{id:Nat}{fid:FuncId}
theorem RunDX.done (hr:rest=[]) (kk:K s):RunDX E ops T n0 k rest s K:=by
 subst hr
 exact fun base Q w0 Z R0 h0 a w R _ _ sr hgr st _ _ q=>⟨fun _=>hgr,q s a w Z R kk sr st.w⟩
theorem RunDX.tail (hT:T=k) (h:RunS E ops rest s K):RunDX E ops T n0 k rest s K:=by
 subst hT
 intro base Q w0 Z R0 h0 a w R _ _ sr hgr st _ hops q
 exact OC (h base Q a w Z R sr fun s' a' w' Z' R' hK sr' st'=>q s' a' w' Z' R' hK sr' (st.w.trans st')) (Nat.le_refl _) (fun _=>hgr) (fun j hj=>OW hj) hops
theorem MD (hE:EnvOk E):∀ {pre:List Oper}{s:St}{k:Nat},(pre.all fun o=>!isW o.op)=true->k + pre.length<=T->opsD E (evC E 0) ⟨none,false⟩ ops n0 pre s=some s1->RunDX E ops T n0 (k + pre.length) rest s1 K->RunDX E ops T n0 k (pre++rest) s K
 | [],s,k,_,_,e,kk=>by injection e with e; subst e; exact kk
 | o::pre,s,k,hp,hT,e,kk=>by
  intro base Q w0 Z R0 h0 a w R hh0 hn0 sr hgr st hpre hops q
  simp only [List.all_cons,Bool.and_eq_true,Bool.not_eq_true'] at hp
  obtain ⟨hW,hp⟩:=hp
  have hok:ops[k]? = some o:=by have:=hops 0; simpa using this.symm
  have hops':∀ j,(pre++rest)[j]? = ops[k + 1 + j]?:=fun j=>by have:=hops (j + 1); simpa [Nat.add_assoc,Nat.add_comm 1 j] using this
  have hk1:k + 1 + pre.length=k + (o::pre).length:=by simp; omega
  have kk':RunDX E ops T n0 (k + 1 + pre.length) rest s1 K:=by rw [hk1]; exact kk
  have hT':k + 1 + pre.length<=T:=by rw [hk1]; exact hT
  have hkT:¬ T<=k:=by omega
  show Jc E.P ops _ _ _ Q k (o::(pre++rest)) a w
  refine ⟨fun _=>hgr,?_⟩
  unfold opsD at e
  rw [if_neg (by rw [hW]; simp)] at e
  split at e
  ·cases e
  ·next hw =>
   rw [if_neg (by rw [wantedA_eq sr hw]; simp)]
   exact MD hE hp hT' e kk' base Q w0 Z R0 h0 _ w R hh0 hn0 (sr.put undef_vr) hgr st hpre hops' q
  ·next hw =>
   rw [if_pos (wantedA_eq sr hw)]
   have hρ:∀ o x,opA E s.fr o=some x->VR w Z R x (a.eval o):=fun o x e=>opA_vr sr o x e
   split at e
   ·next x hx =>
    split at e
    ·next hld =>
     have hq:=Sq hx
     rw [if_neg (by rw [OA hok hq hkT]; simp)]
     obtain ⟨u,hu,hrun⟩:=evOpQ_sound sr.hh hρ hx
     have hquiet:∃ u,VR w Z R x u/\QuietAt E.P (Cf (fun w'=>w0.grownBy w' none) o) o u a:=by
      cases hl:Uz o.op with
      | false=>exact ⟨u,hu,fun w' _=>hrun w' fun h=>by rw [hl] at h; cases h⟩
      | true =>
       obtain ⟨u1,hu1,hq1⟩:=Kc hh0 sr hgr st hpre hl (by rw [<-hn0]; exact hld) hx
       exact ⟨u1,hu1,hq1.up (PR hl)⟩
     obtain ⟨u,hu,hquiet⟩:=hquiet
     exact ⟨u,hquiet,MD hE hp hT' e kk' base Q w0 Z R0 h0 _ w R hh0 hn0 (sr.put hu) hgr st hpre hops' q⟩
    ·cases e
   ·split at e
    ·next x h' hx =>
     have hq:=Lc hx
     rw [if_pos (Gy hok hq)]
     obtain ⟨u,w',R',h1,h2,h3,h4,h5⟩:=evOpN_sound hρ sr.hh hx
     exact O8 h1 (MD hE hp hT' e kk' base Q w0 Z R0 h0 _ w' R' hh0 hn0 ((sr.step h2 h4).put h3) (Fh hgr h5) (st.trans h4) (fun b B hb=>MO hx (hpre b B hb)) hops' q)
    ·split at e
     ·next f args tys ho =>
      split at e
      ·next fv xs hf hxs =>
       split at e
       ·next r hr =>
        obtain ⟨x,h'⟩:=r
        have hq:isQ o.op=false:=by rw [ho]; rfl
        rw [if_pos (Gy hok hq)]
        obtain ⟨g,uf,uc,hva,hcl,hret⟩:=H3 hE (code_sound hE 0).1 (hρ _ _ hf) (opds_vr hρ hxs) sr.hh sr.gl hr
        unfold Lw
        rw [HB (uf:=uf) (uc:=uc) ho hva rfl hcl w]
        refine Ret.mono hret fun v w' hS=>?_
        obtain ⟨hg1,R',k1,k2,k3⟩:=hS
        exact MD hE hp hT' e kk' base Q w0 Z R0 h0 _ w' R' hh0 hn0 ((sr.step k1 k3).put k2) (Fh hgr hg1) (st.trans k3) (fun b B hb=>Nl hr (hpre b B hb)) hops' q
       ·cases e
      ·cases e
     ·cases e
theorem IC (hE:EnvOk E) (m:Nat){s:St}(l:List (Nat×AV)) (hp:Hp) (hw:(((rest.take m).all fun o=>!isW o.op)&&Nat.ble (k + (rest.take m).length) T)=true) (h:VH (opsD E (evC E 0) ⟨none,false⟩ ops n0 (rest.take m) s) l=some (n,xs2 l,hp)) (kk:RunDX E ops T n0 (k + (rest.take m).length) (rest.drop m) ⟨Fr n l,hp⟩ K):RunDX E ops T n0 k rest s K:=by
 obtain ⟨fr,h1,h2,h3⟩:=JO h
 rw [Bool.and_eq_true] at hw
 have:=MD (k:=k) (T:=T) (pre:=rest.take m) (rest:=rest.drop m) hE hw.1 (Nat.le_of_ble_eq_true hw.2) h1 (fun base Q w0 Z R0 h0 a w R a1 a2 sr a5 a6 a7 a8 q=>kk base Q w0 Z R0 h0 a w R a1 a2 (sr.forget h2 h3) a5 a6 a7 a8 q)
 rwa [List.take_append_drop] at this
theorem RunDX.one (hE:EnvOk E){s s1:St}{o:Oper}(hr:rest=o::rest') (hW:(!isW o.op&&Nat.blt k T)=true) (h:opsD E (evC E 0) ⟨none,false⟩ ops n0 [o] s=some s1) (kk:RunDX E ops T n0 (k + 1) rest' s1 K):RunDX E ops T n0 k rest s K:=by
 subst hr
 rw [Bool.and_eq_true] at hW
 exact MD (k:=k) hE (pre:=[o]) (by simpa using hW.1) (by have:=Nat.le_of_ble_eq_true hW.2; simpa using this) h kk
/-- An append to a block that was made in this region. -/
theorem RunDX.append (_hE:EnvOk E){o:Oper}{x:AV}{d:Nat}{hM:Hp}(hr:rest=o::rest') (hw:Cr ops (Fr n l) o=some true) (hd:o.dst=some d) (hq:isQ o.op=false) (h:Rg E.P (opA E (Fr n l)) hp o.op=some (x,hp')) (hm:Rg E.P (opA E (Fr n l)) (Yk n0 hp) o.op=some (x,hM)) (hpr:hp'.take n0=hp.take n0) (kk:RunDX E ops T n0 (k + 1) rest' ⟨Fr n ((d,x)::l),hp'⟩ K):RunDX E ops T n0 k rest ⟨Fr n l,hp⟩ K:=by
 subst hr
 intro base Q w0 Z R0 h0 a w R hh0 hn0 sr hgr st hpre hops q
 have hok':ops[k]? = some o:=by have:=hops 0; simpa using this.symm
 have hops':∀ j,rest'[j]? = ops[k + 1 + j]?:=fun j=>by have:=hops (j + 1); simpa [Nat.add_assoc,Nat.add_comm 1 j] using this
 refine ⟨fun _=>hgr,?_⟩
 rw [if_pos (wantedA_eq sr hw),if_pos (Gy hok' hq)]
 have hρ:∀ o x,opA E (Fr n l) o=some x->VR w Z R x (a.eval o):=fun o x e=>opA_vr sr o x e
 obtain ⟨u,w',R',h1,h2,h3,h4⟩:=evOpW_sound (o:=o) hρ sr.hh h
 obtain ⟨u2,w2,R2,g1,g2,g3,g4⟩:=evOpW_sound (o:=o) hρ (Xz sr.hh n0) hm
 rw [h1] at g1
 injection g1 with _ e2
 subst e2
 -- the blocks of before stay
 have hown:∀ c,own R (Yk n0 hp) c->w0.heap.size<=c:=fun c ⟨b,B,r,k1,k2,k3,k4⟩=>by
  obtain ⟨hb,k1⟩:=WA k1
  rcases st.own_ c ⟨b,B,r,k1,k2,k3,k4⟩ with ⟨b0,B0,r0,q1,q2,q3,q4⟩ | h
  ·have hlt:b0 < h0.length:=(List.getElem?_eq_some_iff.1 q1).1
   have:=sr.hh.inj b b0 B B0 r r0 k1 k2 (hpre b0 _ q1) q2 k3 (st.r b0 r0 q3) (by rw [k4,q4])
   omega
  ·exact h
 have hgr2:w0.grownBy w' none:=⟨g4.os.trans hgr.os,g4.tape.trans hgr.tape,g4.output.trans hgr.output,Nat.le_trans hgr.size g4.size,fun c hc _=>by
  rw [g4.block c (Nat.lt_of_lt_of_le hc hgr.size) fun ho=>by have:=hown c ho; omega]
  exact hgr.block c hc (by simp)⟩
 refine O8 h1 ?_
 have sr':=(sr.step h2 h4).put (d:=o.dst) h3
 rw [hd,show O9 (⟨Fr n l,hp⟩:St).fr (some d) x=Fr n ((d,x)::l) from Ef n l d _] at sr'
 rw [hd]
 exact kk base Q w0 Z R0 h0 _ w' R' hh0 hn0 sr' hgr2 (st.trans h4) (fun b B hb=>by
  have hlt:b < n0:=by rw [hn0]; exact (List.getElem?_eq_some_iff.1 hb).1
  have e:=congrArg (fun l=>l[b]?) hpr
  simp only [List.getElem?_take,hlt,if_true] at e
  show hp'[b]? = _
  rw [e]; exact hpre b B hb) hops' q
end
section
variable {P:Program}{ops:Array Oper}{C:World->Prop}{Q:Act->World->Prop}{loud:Nat->Bool}{T:Nat}
/-- What a quiet operation yields may come ahead of a loud one. -/
theorem Sv {n i j fuel:Nat}{oi oj:Oper}{v:Value}{listed:Array Bool}{a:Act}{w:World}(ht:NB ops loud T n) (hi:ops[i]? = some oi) (hoj:ops[j]? = some oj) (hsel:∀ (j:Nat) (o:Oper) cs b,ops[j]? = some o->o.op≠ .select cs b) (hcl:Closed ops listed) (hsz:listed.size=ops.size)
  (ap1:∀ d,oi.dst=some d->d ∉ oj.looksAt ops) (ap2:∀ d,oi.dst=some d->oj.dst≠some d) (ap3:∀ d,oj.dst=some d->d ∉ oi.looksAt ops) (hr:i ∈ Region.ready .any ops listed) (hj:j ∈ Region.ready .any ops listed) (hji:j≠i) (hlj:loud j=false) (hya:YieldsM P ops C oj v a)
  (H:mOp P ops C loud i (wpM P ops C loud T Q (fuel + 1) (listed.setIfInBounds i true)) a w):mOp P ops C loud i (wpM P ops C loud T Q fuel ((listed.setIfInBounds j true).setIfInBounds i true)) (a.put oj.dst v) w:=by
 have ap2':∀ d,oj.dst=some d->oi.dst≠some d:=fun d hd hd'=>ap2 d hd' hd
 rw [XG hi ap3 ap2' (fun cs b=>hsel i oi cs b hi)]
 have hG:∀ u,YieldsM P ops C oj v (a.put oi.dst u):=fun u=>hya.same (execOp_put oj (fun cs b=>hsel j oj cs b hoj) a oi.dst u ap1) (wanted_put oj a oi.dst u ap1)
 have hr2:=ready_mono (md:= .any) (ops:=ops) hj hji
 refine Io (fun a' w'' h2=>?_) (XF hi hG H)
 obtain ⟨v',hy',h3⟩:=Ed hoj hlj (h2.2.2.2 j hr2)
 rw [Ow (AB1 ht (hcl.set hr) (by simpa using hsz) hoj hlj (mem_ready.1 hr2).1 h2.2.c) h2.1 hy',Array.setIfInBounds_comm _ _ hji]
 exact h3
/-- Two loud operations that may come up now: one of them is the first loud one, if every other stands behind the one. -/
theorem AAG {n i i2:Nat}{oi oi2:Oper}(ht:NB ops loud T n) (hi:ops[i]? = some oi) (hi2:ops[i2]? = some oi2) (hsel:∀ (j:Nat) (o:Oper) cs b,ops[j]? = some o->o.op≠ .select cs b) :
  ∀ (fuel:Nat) (listed:Array Bool) (a:Act) (w:World),(∀ j,j < ops.size->j≠i->j≠i2->loud j=true->listed.getD j true=false->IK ops n j i=true)->Closed ops listed->listed.size=ops.size->(Vj ops loud T listed->C w) ->
   (∀ j oj,ops[j]? = some oj->j≠i->listed.getD j true=false->(∀ e ∈ oj.after,Region.binds .any e=true->e.on≠i)->oi.apart ops oj=true) ->
   (∀ j oj,ops[j]? = some oj->j≠i2->listed.getD j true=false->(∀ e ∈ oj.after,Region.binds .any e=true->e.on≠i2)->oi2.apart ops oj=true) ->
   i ∈ Region.ready .any ops listed->i2 ∈ Region.ready .any ops listed ->
   mOp P ops C loud i (wpM P ops C loud T Q fuel (listed.setIfInBounds i true)) a w->mOp P ops C loud i2 (wpM P ops C loud T Q fuel (listed.setIfInBounds i2 true)) a w->wpM P ops C loud T Q (fuel + 1) listed a w:=by
 intro fuel
 induction fuel with
 | zero =>
  intro listed a w _ _ _ hC _ _ hr _ H H2
  refine ⟨hC,fun h=>(by rw [h] at hr; cases hr),fun j hj=>?_⟩
  by_cases hji:j=i
  ·subst hji; exact H
  ·obtain ⟨u,w',h1⟩:=LE hi H
   have:=ready_mono hj hji
   rw [h1.2.1] at this
   cases this
 | succ fuel ih =>
  intro listed a w hT hcl hsz hC hfree hfree2 hr hr2 H H2
  refine ⟨hC,fun h=>(by rw [h] at hr; cases hr),fun j hj=>?_⟩
  by_cases hji:j=i
  ·subst hji; exact H
  by_cases hji2:j=i2
  ·subst hji2; exact H2
  obtain ⟨hjun,oj,hoj,hall⟩:=mem_ready.1 hj
  have notl:∀ {x:Nat} {ox:Oper},ops[x]? = some ox->x ∈ Region.ready .any ops listed->¬ listed.getD x false=true:=fun {x ox} hx hxr h1=>by
   have hun:=(mem_ready.1 hxr).1
   have hlt:x < ops.size:=(Array.getElem?_eq_some_iff.1 hx).1
   have h':x < listed.size:=by omega
   simp [h'] at hun h1; rw [hun] at h1; cases h1
  have hnl:=notl hi hr
  have hnl2:=notl hi2 hr2
  have hnot:∀ e ∈ oj.after,Region.binds .any e=true->e.on≠i:=fun e he hb heq=>hnl (by rw [<-heq]; exact hall e he hb)
  have hnot2:∀ e ∈ oj.after,Region.binds .any e=true->e.on≠i2:=fun e he hb heq=>hnl2 (by rw [<-heq]; exact hall e he hb)
  have hjlt:j < ops.size:=(Array.getElem?_eq_some_iff.1 hoj).1
  have hlj:loud j=false:=by
   cases hlj:loud j with
   | false=>rfl
   | true =>
    exact absurd (LM hcl n j i (hT j hjlt hji hji2 hlj hjun) fun o ho e he hb=>by rw [hoj] at ho; injection ho with ho; subst ho; exact hall e he hb) hnl
  obtain ⟨ap1,ap2,ap3⟩:=Oper.apart_spec (hfree j oj hoj hji hjun hnot)
  obtain ⟨bp1,bp2,bp3⟩:=Oper.apart_spec (hfree2 j oj hoj hji2 hjun hnot2)
  have hun':∀ k,(listed.setIfInBounds j true).getD k true=false->listed.getD k true=false:=fun k hun=>by
   by_cases hjk:j=k
   ·subst hjk; exact hjun
   ·rw [getD_set_ne true hjk] at hun; exact hun
  have hCw:Vj ops loud T (listed.setIfInBounds j true)->C w:=fun hn=>hC fun k hTk hk hlk=>hun' k (hn k hTk hk hlk)
  obtain ⟨u,w',h1⟩:=LE hi H
  obtain ⟨v,hy,_⟩:=Ed hoj hlj (h1.2.2 j (ready_mono hj hji))
  have hya:YieldsM P ops C oj v a:=hy.same (execOp_put oj (fun cs b=>hsel j oj cs b hoj) _ oi.dst u ap1).symm (wanted_put oj _ oi.dst u ap1).symm
  refine hya.mOp hoj hlj ?_
  exact ih (listed.setIfInBounds j true) (a.put oj.dst v) w (fun k hk h1 h2 h3 h4=>hT k hk h1 h2 h3 (hun' k h4)) (hcl.set hj) (by simpa using hsz) hCw (fun k ok hk h1 h2 h3=>hfree k ok hk h1 (hun' k h2) h3) (fun k ok hk h1 h2 h3=>hfree2 k ok hk h1 (hun' k h2) h3) (ready_mono hr (Ne.symm hji)) (ready_mono hr2 (Ne.symm hji2))
   (Sv ht hi hoj hsel hcl hsz ap1 ap2 ap3 hr hj hji hlj hya H) (Sv ht hi2 hoj hsel hcl hsz bp1 bp2 bp3 hr2 hj hji2 hlj hya H2)
/-- As wpM_lex, from an operation on behind which the loud ones stand in one order. -/
theorem SQ (hs:Region.noSelect ops=true){n k0:Nat}(hsp:∀ k j,k0<=k->k < ops.size->j < ops.size->loud k=true->loud j=true->k < j->IK ops n j k=true) (htl:NB ops loud T n) (hTl:T < ops.size->loud T=true):∀ (l:List Oper) (k:Nat) (listed:Array Bool) (a:Act) (w:World),k0<=k->k + l.length=ops.size->(∀ j,l[j]? = ops[k + j]?) ->
  Region.lexFrom .any ops l.length k listed=true->Closed ops listed->listed.size=ops.size->(∀ j,j < k->listed.getD j true=true)->Jc P ops C loud T Q k l a w->wpM P ops C loud T Q l.length listed a w
 | [],k,listed,a,w,_,hkl,_,hB,_,_,hlt,h=>by
  refine ⟨fun hn=>h.1 ?_,by simpa [Region.lexFrom] using hB,h.2⟩
  rcases Nat.lt_or_ge T k with h1 | h1
  ·exfalso
   have hTs:T < ops.size:=by simp at hkl; omega
   have h2:=hn T (Nat.le_refl _) hTs (hTl hTs)
   rw [hlt T h1] at h2
   cases h2
  ·exact h1
 | o::l,k,listed,a,w,hk0,hkl,hl,hB,hcl,hsz,hlt,h=>by
  have h0:ops[k]? = some o:=by simpa using (hl 0).symm
  have hk:k < ops.size:=(Array.getElem?_eq_some_iff.1 h0).1
  simp only [List.length_cons,Region.lexFrom,Bool.and_eq_true] at hB
  obtain ⟨⟨hr,hf⟩,hB'⟩:=hB
  have hr':k ∈ Region.ready .any ops listed:=by simpa using hr
  have rec_:∀ a w,Jc P ops C loud T Q (k + 1) l a w->wpM P ops C loud T Q l.length (listed.setIfInBounds k true) a w:=fun a w hh =>
   SQ hs hsp htl hTl l (k + 1) _ a w (by omega) (by simp at hkl; omega) (fun j=>by have:=hl (j + 1); simpa [Nat.add_assoc,Nat.add_comm 1 j] using this) hB' (hcl.set hr') (by simpa using hsz) (fun j hj=>by
    by_cases hjk:k=j
    ·subst hjk
     have hlt':k < listed.size:=by omega
     simp [hlt']
    ·rw [getD_set_ne true hjk]; exact hlt j (by omega)) hh
  obtain ⟨hC,hh⟩:=h
  have hle:Vj ops loud T listed->k<=T:=fun hn=>by
   rcases Nat.lt_or_ge T k with h1 | h1
   ·exfalso
    have h2:=hn T (Nat.le_refl _) (by omega) (hTl (by omega))
    rw [hlt T h1] at h2
    cases h2
   ·exact h1
  have hst:mOp P ops C loud k (Jc P ops C loud T Q (k + 1) l) a w:=by
   unfold mOp
   rw [h0]
   exact hh
  cases hlk:loud k with
  | false =>
   obtain ⟨v,hy,hK⟩:=Ed h0 hlk hst
   exact MU h0 hlk (Region.noSelect_spec hs) l.length listed a w (fun hn=>hC (hle hn)) hcl hsz (Region.free_spec h0 hf) hr' hy (rec_ _ _ hK)
  | true =>
   refine QQ (n:=n) htl h0 (Region.noSelect_spec hs) l.length listed a w (fun j hj hjk hlj hun=>?_) hcl hsz (fun hn=>hC (hle hn)) (Region.free_spec h0 hf) hr' (Io rec_ hst)
   ·have hkj:k < j:=by
     rcases Nat.lt_trichotomy k j with h1 | h1 | h1
     ·exact h1
     ·exact absurd h1.symm hjk
     ·rw [hlt j h1] at hun; cases hun
    exact hsp k j hk0 hk hj hlk hlj hkj
/-- The walk, of which p and the operation behind it are taken in both orders. -/
def AEm (P:Program) (ops:Array Oper) (C:World->Prop) (loud:Nat->Bool) (T:Nat) (Q:Act->World->Prop) (p:Nat) (rest:List Oper) (a:Act) (w:World):Prop :=
 C w/\mOp P ops C loud p (fun a w=>C w/\mOp P ops C loud (p + 1) (Jc P ops C loud T Q (p + 2) rest) a w) a w/\mOp P ops C loud (p + 1) (fun a w=>C w/\mOp P ops C loud p (Jc P ops C loud T Q (p + 2) rest) a w) a w
def QR (P:Program) (ops:Array Oper) (C:World->Prop) (loud:Nat->Bool) (T:Nat) (Q:Act->World->Prop) (p:Nat):Nat->List Oper->Act->World->Prop
 | _,[],_,_=>False
 | k,_::rest,a,w=>if k=p then AEm P ops C loud T Q p (rest.drop 1) a w else (k<=T->C w)/\mOp P ops C loud k (QR P ops C loud T Q p (k + 1) rest) a w
/-- One of two operations is this pair. -/
def AA5 (ops:Array Oper) (loud:Nat->Bool) (T p:Nat):Bool :=
 ((List.range ops.size).all fun k=>!loud k||(List.range ops.size).all fun j=>!(decide (k < j)&&loud j)||(k==p&&j==p + 1)||IK ops ops.size j k) &&
 ((List.range ops.size).all fun j=>!decide (T<=j)||(if loud j then (List.range ops.size).all fun i=>loud i||Hq ops i||IK ops ops.size j i else Hq ops j&&decide (j≠T))) &&
 (decide (p + 2<=T)&&loud p&&loud (p + 1)&&match ops[p]?,ops[p + 1]? with
  | some o,some o2=>o2.apart ops o&&o2.after.all fun e=>!Region.binds .any e||e.on != p
  | _,_=>false)
structure ABP (ops:Array Oper) (loud:Nat->Bool) (T p:Nat):Prop where
 sp:∀ k j,k < ops.size->j < ops.size->loud k=true->loud j=true->k < j->(k=p/\j=p + 1)\/IK ops ops.size j k=true
 tl:NB ops loud T ops.size
 tT:T < ops.size->loud T=true
 le:p + 2<=T
 l1:loud p=true
 l2:loud (p + 1)=true
 ap:∀ o o2,ops[p]? = some o->ops[p + 1]? = some o2->o2.apart ops o=true/\∀ e ∈ o2.after,Region.binds .any e=true->e.on≠p
theorem Yq {p:Nat}(h:AA5 ops loud T p=true):ABP ops loud T p:=by
 unfold AA5 at h
 simp only [Bool.and_eq_true] at h
 obtain ⟨⟨h1,h2⟩,⟨⟨h3,h4⟩,h5⟩,h6⟩:=h
 have htl:∀ j,T<=j->j < ops.size->(if loud j=true then (List.range ops.size).all (fun i=>loud i||Hq ops i||IK ops ops.size j i)=true else (Hq ops j&&decide (j≠T))=true):=fun j hTj hj=>by
  have:=List.all_eq_true.1 h2 j (by simpa using hj)
  simp only [hTj,decide_true,Bool.not_true,Bool.false_or] at this
  split
  ·next hl=>rw [if_pos hl] at this; exact this
  ·next hl=>rw [if_neg hl] at this; exact this
 refine ⟨fun k j hk hj hlk hlj hkj=>?_,fun j hTj hj hlj i hi hli hfr=>?_,fun hT=>?_,of_decide_eq_true h3,h4,h5,fun o o2 ho ho2=>?_⟩
 ·have a1:=List.all_eq_true.1 h1 k (by simpa using hk)
  simp only [hlk,Bool.not_true,Bool.false_or] at a1
  have a2:=List.all_eq_true.1 a1 j (by simpa using hj)
  simp only [hkj,hlj,decide_true,Bool.and_self,Bool.not_true,Bool.false_or,Bool.or_eq_true,Bool.and_eq_true,beq_iff_eq] at a2
  exact a2
 ·have a1:=htl j hTj hj
  rw [if_pos hlj] at a1
  have a2:=List.all_eq_true.1 a1 i (by simpa using hi)
  simpa [hli,hfr] using a2
 ·cases hl:loud T with
  | true=>rfl
  | false =>
   have a1:=htl T (Nat.le_refl _) hT
   rw [if_neg (by rw [hl]; simp)] at a1
   simp at a1
 ·rw [ho,ho2] at h6
  simp only [Bool.and_eq_true,Array.all_eq_true_iff_forall_mem] at h6
  refine ⟨h6.1,fun e he hb=>?_⟩
  have:=h6.2 e he
  simpa [hb] using this
theorem YJ (hs : Region.noSelect ops = true) {p : Nat} (hp : ABP ops loud T p) : ∀ (l : List Oper) (k : Nat) (listed : Array Bool) (a : Act) (w : World), k ≤ p → k + l.length = ops.size → (∀ j, l[j]? = ops[k + j]?) →
    Region.lexFrom .any ops l.length k listed = true → Closed ops listed → listed.size = ops.size → (∀ j, j < k → listed.getD j true = true) → QR P ops C loud T Q p k l a w → wpM P ops C loud T Q l.length listed a w
  | [], _, _, _, _, _, _, _, _, _, _, _, h => h.elim
  | o :: l, k, listed, a, w, hkp, hkl, hl, hB, hcl, hsz, hlt, h => by
    have h0 : ops[k]? = some o := by simpa using (hl 0).symm
    have hk : k < ops.size := (Array.getElem?_eq_some_iff.1 h0).1
    simp only [List.length_cons, Region.lexFrom, Bool.and_eq_true] at hB
    obtain ⟨⟨hr, hf⟩, hB'⟩ := hB
    have hr' : k ∈ Region.ready .any ops listed := by simpa using hr
    have hsz' : (listed.setIfInBounds k true).size = ops.size := by simpa using hsz
    have hlt2 : ∀ {q : Nat} {ls : Array Bool}, q < ls.size → (∀ j, j < q → ls.getD j true = true) → ∀ j, j < q + 1 → (ls.setIfInBounds q true).getD j true = true := fun {q ls} hq hh j hj => by
      by_cases hjk : q = j
      · subst hjk; simp [hq]
      · rw [getD_set_ne true hjk]; exact hh j (by omega)
    have hlt' := hlt2 (ls := listed) (by omega) hlt
    have hnext : ∀ j, l[j]? = ops[k + 1 + j]? := fun j => by have := hl (j + 1); simpa [Nat.add_assoc, Nat.add_comm 1 j] using this
    unfold QR at h
    by_cases hkpe : k = p
    · subst hkpe
      rw [if_pos rfl] at h
      obtain ⟨hC, hA, hB2⟩ := h
      -- the second operation
      match l, hkl, hnext, hB' with
      | [], hkl, _, _ => have := hp.le; have h1 : ops.size ≤ k + 1 := by simp at hkl; omega
                         exact absurd hp.l2 (by
                           have hTl := hp.tT
                           intro hl2
                           rcases LE h0 hA with ⟨u, w', _, h3⟩
                           unfold mOp at h3
                           rw [Array.getElem?_eq_none (by omega)] at h3
                           exact h3)
      | o2 :: l2, hkl, hnext, hB' =>
        have h02 : ops[k + 1]? = some o2 := by simpa using (hnext 0).symm
        have hk2 : k + 1 < ops.size := (Array.getElem?_eq_some_iff.1 h02).1
        simp only [List.length_cons, Region.lexFrom, Bool.and_eq_true] at hB'
        obtain ⟨⟨hr2, hf2⟩, hB2'⟩ := hB'
        have hr2' : k + 1 ∈ Region.ready .any ops (listed.setIfInBounds k true) := by simpa using hr2
        obtain ⟨hap, hno⟩ := hp.ap o o2 h0 h02
        have hne : k ≠ k + 1 := by omega
        -- ready already ahead of the first
        have hr20 : k + 1 ∈ Region.ready .any ops listed := by
          obtain ⟨q1, oq, q2, q3⟩ := mem_ready.1 hr2'
          rw [h02] at q2
          injection q2 with q2
          subst q2
          refine mem_ready.2 ⟨by rw [getD_set_ne true hne] at q1; exact q1, o2, h02, fun e he hb => ?_⟩
          have := q3 e he hb
          rwa [getD_set_ne false (Ne.symm (hno e he hb))] at this
        have hfr1 := Region.free_spec h0 hf
        have hfr2 : ∀ j oj, ops[j]? = some oj → j ≠ k + 1 → listed.getD j true = false → (∀ e ∈ oj.after, Region.binds .any e = true → e.on ≠ k + 1) → o2.apart ops oj = true := fun j oj hj h1 h2 h3 => by
          by_cases hjk : j = k
          · subst hjk
            rw [h0] at hj
            injection hj with hj
            subst hj
            exact hap
          · exact Region.free_spec h02 hf2 j oj hj h1 (by rw [getD_set_ne true (Ne.symm hjk)]; exact h2) h3
        have hge : ∀ j, listed.getD j true = false → j ≠ k → j ≠ k + 1 → k + 1 < j := fun j hun h1 h2 => by
          rcases Nat.lt_or_ge j k with h | h
          · rw [hlt j h] at hun; cases hun
          · omega
        have hwait : ∀ j, j < ops.size → j ≠ k → j ≠ k + 1 → loud j = true → listed.getD j true = false → IK ops ops.size j k = true ∧ IK ops ops.size j (k + 1) = true := fun j hj h1 h2 h3 h4 => by
          have := hge j h4 h1 h2
          refine ⟨(hp.sp k j hk hj hp.l1 h3 (by omega)).resolve_left fun h => by omega, (hp.sp (k + 1) j hk2 hj hp.l2 h3 this).resolve_left fun h => by omega⟩
        have tail : ∀ a w, Jc P ops C loud T Q (k + 2) l2 a w → wpM P ops C loud T Q l2.length ((listed.setIfInBounds k true).setIfInBounds (k + 1) true) a w := fun a w hh =>
          SQ hs (n := ops.size) (k0 := k + 2) (fun x j h1 h2 h3 h4 h5 h6 => (hp.sp x j h2 h3 h4 h5 h6).resolve_left fun h => by omega) hp.tl hp.tT l2 (k + 2) _ a w (Nat.le_refl _) (by simp at hkl; omega) (fun j => by rw [show k + 2 + j = k + 1 + (j + 1) by omega]; simpa using hnext (j + 1)) hB2' ((hcl.set hr').set hr2') (by simpa using hsz) (hlt2 (ls := listed.setIfInBounds k true) (by omega) hlt') hh
        refine AAG (n := ops.size) hp.tl h0 h02 (Region.noSelect_spec hs) (l2.length + 1) listed a w (fun j hj h1 h2 h3 h4 => (hwait j hj h1 h2 h3 h4).1) hcl hsz (fun _ => hC) hfr1 hfr2 hr' hr20 (Io (fun a' w' hh => ?_) hA) (Io (fun a' w' hh => ?_) hB2)
        · have hun' : ∀ j, (listed.setIfInBounds k true).getD j true = false → listed.getD j true = false ∧ j ≠ k := fun j hun => by
            by_cases hjk : k = j
            · subst hjk
              have : k < listed.size := by omega
              simp [this] at hun
            · rw [getD_set_ne true hjk] at hun; exact ⟨hun, Ne.symm hjk⟩
          exact QQ (n := ops.size) hp.tl h02 (Region.noSelect_spec hs) l2.length (listed.setIfInBounds k true) a' w' (fun j hj h1 h2 h3 => (hwait j hj (hun' j h3).2 h1 h2 (hun' j h3).1).2) (hcl.set hr') hsz' (fun _ => hh.1) (Region.free_spec h02 hf2) hr2' (Io tail hh.2)
        · have hun' : ∀ j, (listed.setIfInBounds (k + 1) true).getD j true = false → listed.getD j true = false ∧ j ≠ k + 1 := fun j hun => by
            by_cases hjk : k + 1 = j
            · subst hjk
              have : k + 1 < listed.size := by omega
              simp [this] at hun
            · rw [getD_set_ne true hjk] at hun; exact ⟨hun, Ne.symm hjk⟩
          refine QQ (n := ops.size) hp.tl h0 (Region.noSelect_spec hs) l2.length (listed.setIfInBounds (k + 1) true) a' w' (fun j hj h1 h2 h3 => (hwait j hj h1 (hun' j h3).2 h2 (hun' j h3).1).1) (hcl.set hr20) (by simpa using hsz) (fun _ => hh.1) (fun j oj hj h1 h2 h3 => hfr1 j oj hj h1 (hun' j h2).1 h3) (ready_mono hr' hne) (Io (fun a2 w2 h2 => ?_) hh.2)
          have := tail a2 w2 h2
          rwa [Array.setIfInBounds_comm _ _ hne] at this
    · rw [if_neg hkpe] at h
      obtain ⟨hC, hst⟩ := h
      have hkp' : k < p := by omega
      have rec_ : ∀ a w, QR P ops C loud T Q p (k + 1) l a w → wpM P ops C loud T Q l.length (listed.setIfInBounds k true) a w := fun a w hh =>
        YJ hs hp l (k + 1) _ a w (by omega) (by simp at hkl; omega) hnext hB' (hcl.set hr') hsz' hlt' hh
      have hle : Vj ops loud T listed → k ≤ T := fun _ => by have := hp.le; omega
      cases hlk : loud k with
      | false =>
        obtain ⟨v, hy, hK⟩ := Ed h0 hlk hst
        exact MU h0 hlk (Region.noSelect_spec hs) l.length listed a w (fun hn => hC (hle hn)) hcl hsz (Region.free_spec h0 hf) hr' hy (rec_ _ _ hK)
      | true =>
        refine QQ (n := ops.size) hp.tl h0 (Region.noSelect_spec hs) l.length listed a w (fun j hj hjk hlj hun => ?_) hcl hsz (fun hn => hC (hle hn)) (Region.free_spec h0 hf) hr' (Io rec_ hst)
        have hkj : k < j := by
          rcases Nat.lt_trichotomy k j with h1 | h1 | h1
          · exact h1
          · exact absurd h1.symm hjk
          · rw [hlt j h1] at hun; cases hun
        exact (hp.sp k j hk hj hlk hlj hkj).resolve_left fun h => hkpe h.1
theorem UH {id p:Nat}{Q':Exit->Act->World->Prop}{a:Act}{w:World}{l:List Oper}(ro:Option Nat) (m:Nat) (hm:P.follows .mixedOrders=true) (hB:Region.lexB .any l.toArray=true) (hb:AA5 l.toArray loud T p=true)
  (h:QR P l.toArray C loud T (fun a w=>Q' .normal a w) p 0 l a w.drew):(Code.region id l.toArray true).wpIn (Fw ro) m P Q' a w:=by
 simp only [Region.lexB,Bool.and_eq_true] at hB
 have hp:=Yq hb
 have hcl:Closed l.toArray (Array.replicate l.toArray.size false):=fun k o hk hlis=>by
  rw [getD_replicate_false] at hlis; cases hlis
 refine wpIn_region_any hm (OM (C:=C) (loud:=loud) (T:=T) (n:=l.toArray.size) (Q:=fun a w=>Q' .normal a w) ro m hp.tl (fun _ _ h=>h) _ _ _ _ hcl (by simp) ?_)
 have:=YJ (P:=P) (C:=C) (loud:=loud) (T:=T) (Q:=fun a w=>Q' .normal a w) (ops:=l.toArray) hB.1 hp l 0 (Array.replicate l.toArray.size false) a w.drew (Nat.zero_le _) (by simp) (by simp) (by simpa using hB.2) hcl (by simp) (fun j hj=>by omega) h
 simpa using this
end
/-- One operation of such a region, whatever stands behind it. -/
def Op1 (E:Env) (ops:Array Oper) (T n0 k:Nat) (o:Oper) (s:St) (Ks:St->Prop):Prop :=
 ∀ (base:Bs) (K:Act->World->Prop) (w0:World) (Z:Nat->Prop) (R0:List RI) (h0:Hp) (a:Act) (w:World) (R:List RI),HR w0 Z R0 h0->n0=h0.length->SR E base w Z R s a->w0.grownBy w none->Step w0 Z R0 h0 w Z R s.hp->(∀ (b:Nat) (B:Option Blk),h0[b]? = some B->s.hp[b]? = some B)->ops[k]? = some o ->
  (∀ s' a' w' R',Ks s'->SR E base w' Z R' s' a'->w0.grownBy w' none->Step w0 Z R0 h0 w' Z R' s'.hp->(∀ (b:Nat) (B:Option Blk),h0[b]? = some B->s'.hp[b]? = some B)->K a' w')->mOp E.P ops (fun w'=>w0.grownBy w' none) (FX ops T) k K a w
def RunDP (E:Env) (ops:Array Oper) (T p n0 k:Nat) (rest:List Oper) (s:St) (K:St->Prop):Prop :=
 ∀ (base:Bs) (Q:Act->World->Prop) (w0:World) (Z:Nat->Prop) (R0:List RI) (h0:Hp) (a:Act) (w:World) (R:List RI),HR w0 Z R0 h0->n0=h0.length->SR E base w Z R s a->w0.grownBy w none->Step w0 Z R0 h0 w Z R s.hp->(∀ (b:Nat) (B:Option Blk),h0[b]? = some B->s.hp[b]? = some B)->(∀ j,rest[j]? = ops[k + j]?) ->
  (∀ s' a' w' Z' R',K s'->SR E base w' Z' R' s' a'->StepW w0 Z R0 h0 w' Z' R' s'.hp->Q a' w')->QR E.P ops (fun w'=>w0.grownBy w' none) (FX ops T) T Q p k rest a w
section
variable {E:Env}{cx:Cx}{ops:Array Oper}{pre rest rest':List Oper}{s s1:St}{K Ks:St->Prop}{n n0 k T p:Nat}{l:List (Nat×AV)}{hp hp':Hp}{Q:Ex->St->Prop}{id:Nat}{fid:FuncId}{o:Oper}
theorem Y6 (hE:EnvOk E) (T p:Nat) (hB:Region.lexB .any ops=true) (hb:AA5 ops (FX ops T) T p=true) (h:RunDP E ops T p s.hp.length 0 ops.toList s fun s'=>Wk E s' s1) (q:Q .normal s1):Sem E cx (.region id ops true) s Q:=by
 intro ro base Qm a w Z R _ sr _ kk
 have hgd:w.grownBy w.drew none:=Uq w
 have hops:ops.toList.toArray=ops:=by simp
 have st0:Step w Z R s.hp w.drew Z R s.hp:=⟨rfl,rfl,rfl,Nat.le_refl _,fun c hc _=>rfl,fun _ h=> .inl h,fun _ h=>h,fun _ h=> .inl h,fun _ _ h=>h⟩
 have hsrd:SR E base w.drew Z R s a:=⟨sr.hh.keep (Nat.le_refl _) (fun c hc=>hgd.block c hc (by simp)),sr.fr.off (fun c hc=>rfl),sr.mks.step st0,sr.gl.off (fun c hc=>rfl),sr.bs⟩
 have hm:=h base (fun a w=>Qm .normal a w) w.drew Z R s.hp a w.drew R hsrd.hh rfl hsrd (Q3 _) (Step.refl _ _ _ _) (fun b B hb=>hb) (fun j=>by simp) (fun s' a' w' Z' R' hw sr' st=>by
  obtain ⟨Z2,R2,sr2,st2⟩:=hw base w' Z' R' a' sr'
  exact kk .normal s1 a' w' Z2 R2 q sr2 ((st0.w.trans st).trans st2))
 have:=UH (P:=E.P) (id:=id) (l:=ops.toList) (a:=a) (w:=w) (C:=fun w'=>w.drew.grownBy w' none) (loud:=FX ops T) (T:=T) (p:=p) (Q':=Qm) ro 0 hE.mixed (by rw [hops]; exact hB) (by rw [hops]; exact hb) (by rw [hops]; exact hm)
 rw [hops] at this
 exact this
theorem Zs (hW:isW o.op=false) (e:opsD E (evC E 0) ⟨none,false⟩ ops n0 (o::pre) s=some s1):∃ s2,opsD E (evC E 0) ⟨none,false⟩ ops n0 [o] s=some s2/\opsD E (evC E 0) ⟨none,false⟩ ops n0 pre s2=some s1:=by
 have hW':¬ isW o.op=true:=by rw [hW]; simp
 unfold opsD at e
 rw [if_neg hW'] at e
 split at e
 ·cases e
 ·next hw=>exact ⟨_,by unfold opsD; rw [if_neg hW']; simp only [hw]; rfl,e⟩
 ·next hw =>
  split at e
  ·next x hx =>
   split at e
   ·next hld=>exact ⟨_,by unfold opsD; rw [if_neg hW']; simp only [hw,hx,hld,if_true]; rfl,e⟩
   ·cases e
  ·next hx =>
   split at e
   ·next x h' hn=>exact ⟨_,by unfold opsD; rw [if_neg hW']; simp only [hw,hx,hn]; rfl,e⟩
   ·next hn =>
    split at e
    ·next f args tys ho =>
     split at e
     ·next fv xs hf hxs =>
      split at e
      ·next r hr=>exact ⟨_,by unfold opsD; rw [if_neg hW']; simp only [hw,ho,hf,hxs,hr]; rfl,e⟩
      ·cases e
     ·cases e
    ·cases e
theorem Op1.d (hE:EnvOk E) (hW:isW o.op=false) (hk:k < T) (e:opsD E (evC E 0) ⟨none,false⟩ ops n0 [o] s=some s1) (kk:Ks s1):Op1 E ops T n0 k o s Ks:=by
 intro base K w0 Z R0 h0 a w R hh0 hn0 sr hgr st hpre hok q
 have hkT:¬ T<=k:=by omega
 unfold mOp
 rw [hok]
 dsimp only
 unfold opsD at e
 rw [if_neg (by rw [hW]; simp)] at e
 split at e
 ·cases e
 ·next hw =>
  rw [if_neg (by rw [wantedA_eq sr hw]; simp)]
  injection e with e
  subst e
  exact q _ _ w R kk (sr.put undef_vr) hgr st hpre
 ·next hw =>
  rw [if_pos (wantedA_eq sr hw)]
  have hρ:∀ o x,opA E s.fr o=some x->VR w Z R x (a.eval o):=fun o x e=>opA_vr sr o x e
  split at e
  ·next x hx =>
   split at e
   ·next hld =>
    injection e with e
    subst e
    have hq:=Sq hx
    rw [if_neg (by rw [OA hok hq hkT]; simp)]
    obtain ⟨u,hu,hrun⟩:=evOpQ_sound sr.hh hρ hx
    have hquiet:∃ u,VR w Z R x u/\QuietAt E.P (Cf (fun w'=>w0.grownBy w' none) o) o u a:=by
     cases hl:Uz o.op with
     | false=>exact ⟨u,hu,fun w' _=>hrun w' fun h=>by rw [hl] at h; cases h⟩
     | true =>
      obtain ⟨u1,hu1,hq1⟩:=Kc hh0 sr hgr st hpre hl (by rw [<-hn0]; exact hld) hx
      exact ⟨u1,hu1,hq1.up (PR hl)⟩
    obtain ⟨u,hu,hquiet⟩:=hquiet
    exact ⟨u,hquiet,q _ _ w R kk (sr.put hu) hgr st hpre⟩
   ·cases e
  ·split at e
   ·next x h' hx =>
    injection e with e
    subst e
    have hq:=Lc hx
    rw [if_pos (Gy hok hq)]
    obtain ⟨u,w',R',h1,h2,h3,h4,h5⟩:=evOpN_sound hρ sr.hh hx
    exact O8 h1 (q _ _ w' R' kk ((sr.step h2 h4).put h3) (Fh hgr h5) (st.trans h4) fun b B hb=>MO hx (hpre b B hb))
   ·split at e
    ·next f args tys ho =>
     split at e
     ·next fv xs hf hxs =>
      split at e
      ·next r hr =>
       injection e with e
       subst e
       obtain ⟨x,h'⟩:=r
       have hq:isQ o.op=false:=by rw [ho]; rfl
       rw [if_pos (Gy hok hq)]
       obtain ⟨g,uf,uc,hva,hcl,hret⟩:=H3 hE (code_sound hE 0).1 (hρ _ _ hf) (opds_vr hρ hxs) sr.hh sr.gl hr
       unfold Lw
       rw [HB (uf:=uf) (uc:=uc) ho hva rfl hcl w]
       refine Ret.mono hret fun v w' hS=>?_
       obtain ⟨hg1,R',k1,k2,k3⟩:=hS
       exact q _ _ w' R' kk ((sr.step k1 k3).put k2) (Fh hgr hg1) (st.trans k3) fun b B hb=>Nl hr (hpre b B hb)
      ·cases e
     ·cases e
    ·cases e
theorem Wq (hE:EnvOk E){s:St}(l:List (Nat×AV)) (hp:Hp) (hW:(!isW o.op&&Nat.blt k T)=true) (h:VH (opsD E (evC E 0) ⟨none,false⟩ ops n0 [o] s) l=some (n,xs2 l,hp)) (kk:Ks ⟨Fr n l,hp⟩):Op1 E ops T n0 k o s Ks:=by
 obtain ⟨fr,h1,h2,h3⟩:=JO h
 simp only [Bool.and_eq_true,Bool.not_eq_true'] at hW
 intro base K w0 Z R0 h0 a w R hh0 hn0 sr hgr st hpre hok q
 exact Op1.d (Ks:=fun s=>s=⟨fr,hp⟩) hE hW.1 (Nat.le_of_ble_eq_true hW.2) h1 rfl base K w0 Z R0 h0 a w R hh0 hn0 sr hgr st hpre hok fun s' a' w' R' hs sr' hg' st' hp'=>by
  subst hs
  exact q _ a' w' R' kk (sr'.forget h2 h3) hg' st' hp'
theorem Op1.one (hE:EnvOk E) (hW:(!isW o.op&&Nat.blt k T)=true) (h:opsD E (evC E 0) ⟨none,false⟩ ops n0 [o] s=some s1) (kk:Ks s1):Op1 E ops T n0 k o s Ks:=by
 simp only [Bool.and_eq_true,Bool.not_eq_true'] at hW
 exact Op1.d hE hW.1 (Nat.le_of_ble_eq_true hW.2) h kk
theorem Vk (hP:E.P=E0.P) (hG:E.G=E0.G){xs ys:List AV}{Out:AV->Hp->Prop}{d:Nat}{f:Operand}{args:Array Operand}{tys:Array TypeId}{ty:TypeId}{pos:String}{af:Array Edge}{g:Option (Nat×Bool)}(hs:SOk fid ys Out) (hr:o=⟨some d,.call ⟨.value f,args,tys⟩,ty,pos,af,g⟩) (hw:Cr ops (Fr n l) ⟨some d,.call ⟨.value f,args,tys⟩,ty,pos,af,g⟩=some true)
  (hf:opA E (Fr n l) f=some (.fn fid [] [])) (ha:LF (opA E (Fr n l)) args.toList=some xs) (hv:YH hp xs=some ys) (hfl:∀ x h',Out x h'->Q1 x=true/\Vz h'=true) (kk:∀ x h',Out x h'->Ks ⟨Fr n ((d,shN hp.length x)::l),hp++h'⟩):Op1 E ops T n0 k o ⟨Fr n l,hp⟩ Ks:=by
 subst hr
 intro base K w0 Z R0 h0 a w R hh0 hn0 sr hgr st hpre hko q
 have hq:isQ (.call ⟨.value f,args,tys⟩:Op)=false:=rfl
 unfold mOp
 rw [hko]
 dsimp only
 rw [if_pos (wantedA_eq sr hw),if_pos (Gy hko hq)]
 have hρ:∀ o x,opA E (Fr n l) o=some x->VR w Z R x (a.eval o):=fun o x e=>opA_vr sr o x e
 have hva:a.eval f = .func (.func fid) ([]:List Value).toArray ([]:List Value).toArray:=by
  have:=hρ _ _ hf
  generalize a.eval f=vf at this
  cases this with
  | fn hl hl' hx hy =>
   rename_i u1 u2
   have e1:u1=[]:=by simpa using hl
   have e2:u2=[]:=by simpa using hl'
   subst e1 e2; rfl
 have hcl:Ch E.P fid:=hP ▸ hs.1
 unfold Lw
 rw [HB (uf:=[]) (uc:=[]) rfl hva rfl hcl w]
 simp only [List.nil_append,List.append_nil]
 have hz1:∀ c,(Z c\/own R hp c)->c < w.heap.size:=fun c hc=>hc.elim (sr.hh.zlt c) (fun ⟨b,B,r,h1,_,h3,h4⟩=>h4 ▸ sr.hh.rltL h1 h3)
 have hg1:GI E0 w (fun c=>Z c\/own R hp c):=fun q y hy=>(sr.gl q y (by rw [hG]; exact hy)).mono (fun _ _=>rfl) (fun _ h=> .inl h) (fun _ _ h=>h)
 have hret:=hs.2 w _ _ hz1 hg1 (Wf sr.hh (opds_vr hρ ha) hv)
 rw [<-hP] at hret
 refine Ret.mono hret fun v w' hS=>?_
 obtain ⟨Z',R',x,h',hO,h1,h2,st1⟩:=hS
 obtain ⟨f1,f2⟩:=hfl x h' hO
 obtain ⟨j1,j2⟩:=sr.hh.join hz1 st1 h1 f2
 have hlen1:R.length=hp.length:=sr.hh.len
 have hx:=ABp (w:=w') (Z':=Z) (R:=R) hlen1 f1 h2
 have sr':=(sr.step j1 j2).put (d:=some d) hx
 rw [show O9 (⟨Fr n l,hp⟩:St).fr (some d) (shN hp.length x)=Fr n ((d,shN hp.length x)::l) from Ef n l d _] at sr'
 have hg2:w.grownBy w' none:=⟨st1.os,st1.tape,st1.output,st1.size,fun c hc _=>st1.block c hc fun ⟨b,B,r,hb,_⟩=>by simp at hb⟩
 exact q _ _ w' (R++R') (kk x h' hO) sr' (Fh hgr hg2) (st.trans j2) (fun b B hb=>by
  have hlt:b < hp.length:=(List.getElem?_eq_some_iff.1 (hpre b B hb)).1
  show (hp++h')[b]? = _
  rw [List.getElem?_append_left hlt]; exact hpre b B hb)
/-- The walk up to the two. -/
theorem ST (hE:EnvOk E):∀ {pre:List Oper}{s:St}{k:Nat},(pre.all fun o=>!isW o.op)=true->k + pre.length<=p->p + 2<=T->opsD E (evC E 0) ⟨none,false⟩ ops n0 pre s=some s1->RunDP E ops T p n0 (k + pre.length) rest s1 K->RunDP E ops T p n0 k (pre++rest) s K
 | [],s,k,_,_,_,e,kk=>by injection e with e; subst e; exact kk
 | o::pre,s,k,hp,hT,hpT,e,kk=>by
  intro base Q w0 Z R0 h0 a w R hh0 hn0 sr hgr st hpre hops q
  simp only [List.all_cons,Bool.and_eq_true,Bool.not_eq_true'] at hp
  obtain ⟨hW,hp⟩:=hp
  obtain ⟨s2,e1,e2⟩:=Zs hW e
  have hok:ops[k]? = some o:=by have:=hops 0; simpa using this.symm
  have hops':∀ j,(pre++rest)[j]? = ops[k + 1 + j]?:=fun j=>by have:=hops (j + 1); simpa [Nat.add_assoc,Nat.add_comm 1 j] using this
  have hk1:k + 1 + pre.length=k + (o::pre).length:=by simp; omega
  have kk':RunDP E ops T p n0 (k + 1 + pre.length) rest s1 K:=by rw [hk1]; exact kk
  simp only [List.length_cons] at hT
  show QR E.P ops _ _ _ Q p k (o::(pre++rest)) a w
  unfold QR
  rw [if_neg (by omega)]
  refine ⟨fun _=>hgr,?_⟩
  refine Op1.d (Ks:=fun s=>s=s2) hE hW (by omega) e1 rfl base _ w0 Z R0 h0 a w R hh0 hn0 sr hgr st hpre hok fun s' a' w' R' hs sr' hg' st' hp'=>?_
  subst hs
  exact ST hE hp (by omega) hpT e2 kk' base Q w0 Z R0 h0 a' w' R' hh0 hn0 sr' hg' st' hp' hops' q
theorem YM (hE:EnvOk E) (m:Nat){s:St}(l:List (Nat×AV)) (hp:Hp) (hw:(((rest.take m).all fun o=>!isW o.op)&&Nat.ble (k + (rest.take m).length) p&&Nat.ble (p + 2) T)=true) (h:VH (opsD E (evC E 0) ⟨none,false⟩ ops n0 (rest.take m) s) l=some (n,xs2 l,hp)) (kk:RunDP E ops T p n0 (k + (rest.take m).length) (rest.drop m) ⟨Fr n l,hp⟩ K):RunDP E ops T p n0 k rest s K:=by
 obtain ⟨fr,h1,h2,h3⟩:=JO h
 simp only [Bool.and_eq_true] at hw
 have:=ST (k:=k) (T:=T) (p:=p) (pre:=rest.take m) (rest:=rest.drop m) hE hw.1.1 (Nat.le_of_ble_eq_true hw.1.2) (Nat.le_of_ble_eq_true hw.2) h1 (fun base Q w0 Z R0 h0 a w R a1 a2 sr a5 a6 a7 a8 q=>kk base Q w0 Z R0 h0 a w R a1 a2 (sr.forget h2 h3) a5 a6 a7 a8 q)
 rwa [List.take_append_drop] at this
theorem RunDP.one (hE:EnvOk E) (hr:rest=o::rest') (hW:(!isW o.op&&Nat.blt k p&&Nat.ble (p + 2) T)=true) (h:opsD E (evC E 0) ⟨none,false⟩ ops n0 [o] s=some s1) (kk:RunDP E ops T p n0 (k + 1) rest' s1 K):RunDP E ops T p n0 k rest s K:=by
 subst hr
 simp only [Bool.and_eq_true] at hW
 exact ST (k:=k) hE (pre:=[o]) (by simpa using hW.1.1) (by have:=Nat.le_of_ble_eq_true hW.1.2; simpa using this) (Nat.le_of_ble_eq_true hW.2) h kk
/-- The two, in both orders. -/
theorem RunDP.two {o1 o2:Oper}(hr:rest=o1::o2::rest') (hA:Op1 E ops T n0 p o1 s fun s1=>Op1 E ops T n0 (p + 1) o2 s1 fun s2=>RunDX E ops T n0 (p + 2) rest' s2 K) (hB:Op1 E ops T n0 (p + 1) o2 s fun s1=>Op1 E ops T n0 p o1 s1 fun s2=>RunDX E ops T n0 (p + 2) rest' s2 K):RunDP E ops T p n0 p rest s K:=by
 subst hr
 intro base Q w0 Z R0 h0 a w R hh0 hn0 sr hgr st hpre hops q
 have hk1:ops[p]? = some o1:=by have:=hops 0; simpa using this.symm
 have hk2:ops[p + 1]? = some o2:=by have:=hops 1; simpa using this.symm
 have hops':∀ j,rest'[j]? = ops[p + 2 + j]?:=fun j=>by have:=hops (j + 2); rw [show p + 2 + j=p + (j + 2) by omega]; simpa using this
 unfold QR
 rw [if_pos rfl]
 refine ⟨hgr,?_,?_⟩
 ·refine hA base _ w0 Z R0 h0 a w R hh0 hn0 sr hgr st hpre hk1 fun s1 a1 w1 R1 h1 sr1 hg1 st1 hp1=>⟨hg1,?_⟩
  exact h1 base _ w0 Z R0 h0 a1 w1 R1 hh0 hn0 sr1 hg1 st1 hp1 hk2 fun s2 a2 w2 R2 h2 sr2 hg2 st2 hp2=>h2 base Q w0 Z R0 h0 a2 w2 R2 hh0 hn0 sr2 hg2 st2 hp2 hops' q
 ·refine hB base _ w0 Z R0 h0 a w R hh0 hn0 sr hgr st hpre hk2 fun s1 a1 w1 R1 h1 sr1 hg1 st1 hp1=>⟨hg1,?_⟩
  exact h1 base _ w0 Z R0 h0 a1 w1 R1 hh0 hn0 sr1 hg1 st1 hp1 hk1 fun s2 a2 w2 R2 h2 sr2 hg2 st2 hp2=>h2 base Q w0 Z R0 h0 a2 w2 R2 hh0 hn0 sr2 hg2 st2 hp2 hops' q
end
noncomputable def G3:Code:=A9 Tryz.f92
def Bd (xs:List (List UInt8)):Option Blk:=some ⟨1,9,xs.map cdS.enc,false⟩
set_option maxRecDepth 100000 in
theorem Ig (xs:List (List UInt8)) (hc:EC 16 xs.length=true):Sem E0 ⟨none,false⟩ G3 ⟨Fr 8 [(0,.sl 1 (xs.map cdS.enc))],[]⟩ fun e s'=>(e = .normal\/e = .ret)/\((xs=[]/\s'=⟨Fr 8 [(2,.e0)],[]⟩)\/s'=⟨Fr 8 [(2,.rf 0 0 xs.length xs.length)],[Bd xs]⟩):=by
 refine AG ?_
 refine AL (s1:=⟨Fr 8 [(0,.sl 1 (xs.map cdS.enc)),(2,.e0)],[]⟩) ?_ ?_
 ·refine Hi AC 1 (s1:=⟨Fr 8 [(0,.sl 1 (xs.map cdS.enc)),(2,.e0)],[]⟩) (by kernel_rfl) ?_
  exact AI rfl AM
 refine AG ?_
 refine AG (SB ?_)
 refine Hi AC 1 (s1:=⟨Fr 8 [(0,.sl 1 (xs.map cdS.enc)),(2,.e0),(3,.sl 1 (xs.map cdS.enc))],[]⟩) (by kernel_rfl) ?_
 refine UP (k:=1) (el:=9) (es:=xs.map cdS.enc) rfl (AB rfl) (by kernel_rfl) (by kernel_rfl) fun b hb=>AI rfl ?_
 have hb:b=true->xs=[]:=fun h=>List.map_eq_nil_iff.1 (hb h)
 refine AP (b:=b) (by kernel_rfl) (fun hb1=>?_) (fun hb1=>?_)
 ·have hx:=hb hb1
  refine Ao ?_
  refine AG (AL (s1:=⟨Fr 8 [(2,.e0)],[]⟩) ?_ (AO ?_))
  ·refine Hi AC 1 (s1:=⟨Fr 8 [(0,.sl 1 (xs.map cdS.enc)),(2,.e0),(3,.sl 1 (xs.map cdS.enc)),(4,.v (.bool b))],[]⟩) (by kernel_rfl) ?_
   exact AI rfl AM
  ·exact ⟨_,Wk.refl,.inr rfl,.inl ⟨hx,rfl⟩⟩
 ·refine AT ?_
  refine Ao (AG (SB ?_))
  refine Hi AC 2 (s1:=⟨Fr 8 [(0,.sl 1 (xs.map cdS.enc)),(2,.e0),(3,.sl 1 (xs.map cdS.enc)),(4,.v (.bool b)),(5,.rf 0 0 0 0),(6,.sl 1 (xs.map cdS.enc))],[Bd []]⟩) (by kernel_rfl) ?_
  cases xs with
  | nil =>
   refine AW AC 0 rfl (UX (x:= .rf 0 0 0 0) (hp':=[Bd []]) (AB rfl) rfl (by kernel_rfl) (by kernel_rfl) (by kernel_rfl)) ?_
   refine Hi AC 1 (s1:=⟨Fr 8 [(0,.sl 1 []),(2,.rf 0 0 0 0),(3,.sl 1 []),(4,.v (.bool b)),(5,.rf 0 0 0 0),(6,.sl 1 []),(7,.rf 0 0 0 0)],[Bd []]⟩) (by kernel_rfl) (AI rfl (AO ?_))
   exact ⟨⟨Fr 8 [(2,.rf 0 0 0 0)],[Bd []]⟩,AM,.inr rfl,.inr rfl⟩
  | cons y ys =>
   refine AW AC 0 rfl (UX (AB rfl) rfl (by kernel_rfl) (by kernel_rfl) (Dg (a:= .rf 0 0 0 0) (b:= .sl 1 ((y::ys).map cdS.enc)) (by kernel_rfl) (by kernel_rfl) (OU (c:=cdS) (xs:=[]) (vs:=y::ys) (k:=1) (bytes:=16) (el:=9) (by kernel_rfl) (by kernel_rfl) Uw (List.cons_ne_nil _ _) (by kernel_rfl) (by rw [List.length_nil,Nat.zero_add]; exact hc)))) ?_
   refine Hi AC 1 (s1:=⟨Fr 8 [(0,.sl 1 ((y::ys).map cdS.enc)),(2,.rf 1 0 (y::ys).length (y::ys).length),(3,.sl 1 ((y::ys).map cdS.enc)),(4,.v (.bool b)),(5,.rf 0 0 0 0),(6,.sl 1 ((y::ys).map cdS.enc)),(7,.rf 1 0 (y::ys).length (y::ys).length)],[none,Bd (y::ys)]⟩) (by kernel_rfl) (AI rfl (AO ?_))
   exact ⟨⟨Fr 8 [(2,.rf 0 0 (y::ys).length (y::ys).length)],[Bd (y::ys)]⟩,Ac [1] ⟨⟨_,rfl,Hv⟩,trivial⟩ ⟨lv,trivial⟩,.inr rfl,.inr rfl⟩
def Gh (xs:List (List UInt8)) (x:AV) (h':Hp):Prop:=(xs=[]/\x = .e0/\h'=[])\/(x = .rf 0 0 xs.length xs.length/\h'=[Bd xs])
theorem HC (xs:List (List UInt8)) (hc:EC 16 xs.length=true):SOk 92 [.sl 1 (xs.map cdS.enc)] (Gh xs):=by
 refine Ud AC rfl rfl (fn:=Tryz.f92) (c:=G3) (by kernel_rfl) (by kernel_rfl) ⟨Tryz.call92⟩ (by show 1<=8; decide) (Sem.mono (Ig xs hc) ?_)
 rintro e s' ⟨he,⟨hx,rfl⟩ | rfl⟩
 ·exact ⟨he,[.e0],by kernel_rfl,.inl ⟨hx,rfl,rfl⟩⟩
 ·exact ⟨he,[.rf 0 0 xs.length xs.length],by kernel_rfl,.inr ⟨rfl,rfl⟩⟩
theorem G4 {xs:List (List UInt8)}:∀ x h',Gh xs x h'->Q1 x=true/\Vz h'=true:=by
 rintro x h' (⟨_,rfl,rfl⟩ | ⟨rfl,rfl⟩)
 ·exact ⟨rfl,rfl⟩
 ·refine ⟨rfl,?_⟩
  show (!false&&(xs.map cdS.enc).all NY&&true)=true
  have:(xs.map cdS.enc).all NY=true:=by
   rw [List.all_eq_true]
   intro x hx
   obtain ⟨y,_,rfl⟩:=List.mem_map.1 hx
   rfl
  rw [this]; rfl
def Rb:Cs (List (List UInt8)×Unit):=csC (cdL 1 cdS) csN
/- trestle/trestlelaw03.Copy -/
noncomputable def Mb:Code:=A9 Tryz.f59
def FK (x0:(List AH)):Nat->(List AH)->Int->Option (((List AH)))
 | 0,_,_=>none
 | f + 1,c1,c2 =>
  if (decide (c2 < (x0.length:Int)))=true then
  (idx x0 c2).bind fun v4 =>
  if (EC 16 v4.2.2.2.1.length)=true then
  if (EC 16 (v4.2.2.2.1.length + 1))=true then
  if (Nx 0 (v4.2.2.2.1.length:Int) (v4.2.2.2.1++[[115,112,97,114,101]]).length)=true then
  if (EC 64 (c1.length + 1))=true then
  FK x0 f (c1++[(v4.1,v4.2.1,v4.2.2.1,((v4.2.2.2.1++[[115,112,97,114,101]]).take ((v4.2.2.2.1.length:Int).toNat)),v4.2.2.2.2)]) (wr .i64 (c2 + 1))
  else none
  else none
  else none
  else none
  else
  some c1
def JG (x0:(List AH)):Option ((List AH)) :=
 (FK x0 100000 [] 0).bind fun r17 =>
 some r17
def Mh:Cs ((List AH)×Unit):=(csC (cdL 5 AA) csN)
def Ms (r:(List AH)):AV:=(cdL 5 AA).enc r
theorem Ri (x0:(List AH)):∀ (f:Nat) (c1:(List AH)) (c2:Int) (r:((List AH))),FK x0 f c1 c2=some r->SemN E0 ⟨none,false⟩ (pc Mb [1,1,0,1,0,0]) f ⟨Fr 28 [(3,hd 0 (c1.map AA.enc)),(6,.sl 5 (x0.map AA.enc)),(7,.v (.int .i64 (x0.length:Int))),(8,.v (.int .i64 c2))],[mk 5 60 (c1.map AA.enc)]⟩ (fun e s=>e=(.exit 0)/\Wk E0 s ⟨Fr 28 [(3,hd 0 (r.map AA.enc))],[mk 5 60 (r.map AA.enc)]⟩):=by
 intro f;induction f with
 | zero=>intro c1 c2 r h; cases h
 | succ f ih0 =>
  intro c1 c2 r h
  have ih:=fun (c1:(List AH)) (c2:Int)=>ih0 c1 c2 r
  unfold FK at h;refine Bc ?_;refine AK AC [(3,hd 0 (c1.map AA.enc)),(6,.sl 5 (x0.map AA.enc)),(7,.v (.int .i64 (x0.length:Int))),(8,.v (.int .i64 c2)),(9,.v (.bool (decide (c2 < (x0.length:Int)))))] [mk 5 60 (c1.map AA.enc)] ?_;refine AG ?_;refine AP (b:=(decide (c2 < (x0.length:Int)))) kr (fun hb3=>?_) (fun hb3=>?_)
  ·rw [if_pos hb3] at h
   refine AT ?_;refine AG ?_;refine Aa ?_;refine AG ?_;obtain ⟨v4,hv4,h⟩:=OB h;refine AL (s1:=⟨Fr 28 [(3,hd 0 (c1.map AA.enc)),(5,.pt 1 0 0),(6,.sl 5 (x0.map AA.enc)),(7,.v (.int .i64 (x0.length:Int))),(8,.v (.int .i64 c2))],[mk 5 60 (c1.map AA.enc),some ⟨5,60,[.ag [.v (.int .u8 v4.1),.st v4.2.1,.v (.bool v4.2.2.1),.sl 1 (v4.2.2.2.1.map cdS.enc),.v (.int .i64 v4.2.2.2.2)]],false⟩]⟩) ?_ ?_
   ·refine AW AC 0 rfl (DW (AB rfl) rfl (AS (a:= .sl 5 (x0.map AA.enc)) (b:= .v (.int .i64 c2)) kr kr (DP (e:=AA.enc) (el:=60) (k:=5) (ki:= .i64) kr kr hv4))) ?_
    exact AX AC
   refine AG ?_;by_cases hk5:(EC 16 v4.2.2.2.1.length)=true
   case neg=>rw [if_neg hk5] at h; cases h
   rw [if_pos hk5] at h;by_cases hk6:(EC 16 (v4.2.2.2.1.length + 1))=true
   case neg=>rw [if_neg hk6] at h; cases h
   rw [if_pos hk6] at h;by_cases hk7:(Nx 0 (v4.2.2.2.1.length:Int) (v4.2.2.2.1++[[115,112,97,114,101]]).length)=true
   case neg=>rw [if_neg hk7] at h; cases h
   rw [if_pos hk7] at h;refine Y6 (s1:=⟨Fr 28 [(3,hd 0 (c1.map AA.enc)),(5,.pt 1 0 0),(6,.sl 5 (x0.map AA.enc)),(7,.v (.int .i64 (x0.length:Int))),(8,.v (.int .i64 c2))],[mk 5 60 (c1.map AA.enc),some ⟨5,60,[.ag [.v (.int .u8 v4.1),.st v4.2.1,.v (.bool v4.2.2.1),.rf 2 0 ((v4.2.2.2.1.length:Int).toNat) ((v4.2.2.2.1++[[115,112,97,114,101]]).length),.v (.int .i64 v4.2.2.2.2)]],false⟩,some ⟨1,9,((v4.2.2.2.1++[[115,112,97,114,101]]).map cdS.enc),false⟩]⟩) AC 10 2 kr kr ?_ ?_
   ·refine YM (n:=28) AC 2 [(3,hd 0 (c1.map AA.enc)),(5,.pt 1 0 0),(6,.sl 5 (x0.map AA.enc)),(7,.v (.int .i64 (x0.length:Int))),(8,.v (.int .i64 c2)),(13,.sl 1 (v4.2.2.2.1.map cdS.enc))] [mk 5 60 (c1.map AA.enc),some ⟨5,60,[.ag [.v (.int .u8 v4.1),.st v4.2.1,.v (.bool v4.2.2.1),.sl 1 (v4.2.2.2.1.map cdS.enc),.v (.int .i64 v4.2.2.2.2)]],false⟩] kr kr ?_
    refine RunDP.two rfl ?_ ?_
    ·refine Vk rfl rfl (HC v4.2.2.2.1 hk5) rfl (AB rfl) kr (xs:=[.sl 1 (v4.2.2.2.1.map cdS.enc)]) kr kr G4 ?_
     rintro x h' (⟨hx,rfl,rfl⟩ | ⟨rfl,rfl⟩)
     ·rw [hx]
      refine Wq (n:=28) AC [(3,hd 0 (c1.map AA.enc)),(5,.pt 1 0 0),(6,.sl 5 (x0.map AA.enc)),(7,.v (.int .i64 (x0.length:Int))),(8,.v (.int .i64 c2)),(13,.sl 1 (([]:List (List UInt8)).map cdS.enc)),(14,.e0),(15,hd 2 ([[115,112,97,114,101]].map cdS.enc))] [mk 5 60 (c1.map AA.enc),some ⟨5,60,[.ag [.v (.int .u8 v4.1),.st v4.2.1,.v (.bool v4.2.2.1),.sl 1 (([]:List (List UInt8)).map cdS.enc),.v (.int .i64 v4.2.2.2.2)]],false⟩,mk 1 9 ([[115,112,97,114,101]].map cdS.enc)] kr kr ?_;refine RunDX.append AC rfl (AB rfl) rfl rfl (Dg (a:= .e0) (b:=hd 2 ([[115,112,97,114,101]].map cdS.enc)) kr kr (SC (c:=cdS) (vs:=[[115,112,97,114,101]]) (k:=1) (bytes:=16) (el:=9) kr kr (GS (t:=9) kr) (List.cons_ne_nil _ _) kr)) (Dg (a:= .e0) (b:=hd 2 ([[115,112,97,114,101]].map cdS.enc)) kr kr (SC (c:=cdS) (vs:=[[115,112,97,114,101]]) (k:=1) (bytes:=16) (el:=9) kr kr (GS (t:=9) kr) (List.cons_ne_nil _ _) kr)) kr ?_;refine IC (n:=28) AC 2 [(3,hd 0 (c1.map AA.enc)),(5,.pt 1 0 0),(6,.sl 5 (x0.map AA.enc)),(7,.v (.int .i64 (x0.length:Int))),(8,.v (.int .i64 c2)),(16,hd 3 ([[115,112,97,114,101]].map cdS.enc)),(18,.sl 1 (([]:List (List UInt8)).map cdS.enc))] [mk 5 60 (c1.map AA.enc),some ⟨5,60,[.ag [.v (.int .u8 v4.1),.st v4.2.1,.v (.bool v4.2.2.1),.sl 1 (([]:List (List UInt8)).map cdS.enc),.v (.int .i64 v4.2.2.2.2)]],false⟩,mk 1 9 ([[115,112,97,114,101]].map cdS.enc),mk 1 9 ([[115,112,97,114,101]].map cdS.enc)] kr kr ?_;refine RunDX.one AC rfl kr (HF kr (AB rfl) rfl (CO (a:= .sl 1 (([]:List (List UInt8)).map cdS.enc)) kr (BS (el:=9) kr)) kr) ?_;refine IC (n:=28) AC 2 [(3,hd 0 (c1.map AA.enc)),(5,.pt 1 0 0),(6,.sl 5 (x0.map AA.enc)),(7,.v (.int .i64 (x0.length:Int))),(8,.v (.int .i64 c2)),(20,.rf 3 0 0 1),(21,.pt 1 0 3)] [mk 5 60 (c1.map AA.enc),some ⟨5,60,[.ag [.v (.int .u8 v4.1),.st v4.2.1,.v (.bool v4.2.2.1),.sl 1 (([]:List (List UInt8)).map cdS.enc),.v (.int .i64 v4.2.2.2.2)]],false⟩,mk 1 9 ([[115,112,97,114,101]].map cdS.enc),mk 1 9 ([[115,112,97,114,101]].map cdS.enc)] kr kr ?_
      refine RunDX.tail rfl ?_;refine AD (n:=28) AC 1 [(3,hd 0 (c1.map AA.enc)),(5,.pt 1 0 0),(6,.sl 5 (x0.map AA.enc)),(7,.v (.int .i64 (x0.length:Int))),(8,.v (.int .i64 c2))] [mk 5 60 (c1.map AA.enc),some ⟨5,60,[.ag [.v (.int .u8 v4.1),.st v4.2.1,.v (.bool v4.2.2.1),.rf 3 0 0 1,.v (.int .i64 v4.2.2.2.2)]],false⟩,mk 1 9 ([[115,112,97,114,101]].map cdS.enc),mk 1 9 ([[115,112,97,114,101]].map cdS.enc)] kr ?_;exact AI rfl (Ac [0,1,3] ⟨⟨_,rfl,IL⟩,⟨_,rfl,GO⟩,⟨_,rfl,Hv⟩,trivial⟩ ⟨IM (b':=0) kr kr,lv,lv,lv,lv,trivial⟩)
     ·refine Wq (n:=28) AC [(3,hd 0 (c1.map AA.enc)),(5,.pt 1 0 0),(6,.sl 5 (x0.map AA.enc)),(7,.v (.int .i64 (x0.length:Int))),(8,.v (.int .i64 c2)),(13,.sl 1 (v4.2.2.2.1.map cdS.enc)),(14,.rf 2 0 v4.2.2.2.1.length v4.2.2.2.1.length),(15,hd 3 ([[115,112,97,114,101]].map cdS.enc))] [mk 5 60 (c1.map AA.enc),some ⟨5,60,[.ag [.v (.int .u8 v4.1),.st v4.2.1,.v (.bool v4.2.2.1),.sl 1 (v4.2.2.2.1.map cdS.enc),.v (.int .i64 v4.2.2.2.2)]],false⟩,some ⟨1,9,(v4.2.2.2.1.map cdS.enc),false⟩,mk 1 9 ([[115,112,97,114,101]].map cdS.enc)] kr kr ?_
      refine RunDX.append AC rfl (AB rfl) rfl rfl (Dg (a:= .rf 2 0 v4.2.2.2.1.length v4.2.2.2.1.length) (b:=hd 3 ([[115,112,97,114,101]].map cdS.enc)) kr kr (OU (c:=cdS) (xs:=v4.2.2.2.1) (vs:=[[115,112,97,114,101]]) (k:=1) (bytes:=16) (el:=9) kr kr (GS (t:=9) kr) (List.cons_ne_nil _ _) kr hk6)) (Dg (a:= .rf 2 0 v4.2.2.2.1.length v4.2.2.2.1.length) (b:=hd 3 ([[115,112,97,114,101]].map cdS.enc)) kr kr (OU (c:=cdS) (xs:=v4.2.2.2.1) (vs:=[[115,112,97,114,101]]) (k:=1) (bytes:=16) (el:=9) kr kr (GS (t:=9) kr) (List.cons_ne_nil _ _) kr hk6)) kr ?_;refine IC (n:=28) AC 2 [(3,hd 0 (c1.map AA.enc)),(5,.pt 1 0 0),(6,.sl 5 (x0.map AA.enc)),(7,.v (.int .i64 (x0.length:Int))),(8,.v (.int .i64 c2)),(16,.rf 4 0 (v4.2.2.2.1++[[115,112,97,114,101]]).length (v4.2.2.2.1++[[115,112,97,114,101]]).length),(18,.sl 1 (v4.2.2.2.1.map cdS.enc))] [mk 5 60 (c1.map AA.enc),some ⟨5,60,[.ag [.v (.int .u8 v4.1),.st v4.2.1,.v (.bool v4.2.2.1),.sl 1 (v4.2.2.2.1.map cdS.enc),.v (.int .i64 v4.2.2.2.2)]],false⟩,none,mk 1 9 ([[115,112,97,114,101]].map cdS.enc),some ⟨1,9,((v4.2.2.2.1++[[115,112,97,114,101]]).map cdS.enc),false⟩] kr kr ?_;refine RunDX.one AC rfl kr (HF kr (AB rfl) rfl (CO (a:= .sl 1 (v4.2.2.2.1.map cdS.enc)) kr (BS (el:=9) kr)) kr) ?_;refine RunDX.one AC rfl kr (HF kr (AB rfl) rfl (S0 (a:= .rf 4 0 (v4.2.2.2.1++[[115,112,97,114,101]]).length (v4.2.2.2.1++[[115,112,97,114,101]]).length) (l:=none) (u:=(some (.v (.int .i64 (v4.2.2.2.1.length:Int))))) (m:=none) kr kr kr rfl (YD (xs:=(v4.2.2.2.1++[[115,112,97,114,101]])) (e:=cdS.enc) (t':=9) (k:=1) (el:=9) kr kr kr hk7 (by simp))) kr) ?_;refine IC (n:=28) AC 1 [(3,hd 0 (c1.map AA.enc)),(5,.pt 1 0 0),(6,.sl 5 (x0.map AA.enc)),(7,.v (.int .i64 (x0.length:Int))),(8,.v (.int .i64 c2)),(20,.rf 4 0 ((v4.2.2.2.1.length:Int).toNat) ((v4.2.2.2.1++[[115,112,97,114,101]]).length)),(21,.pt 1 0 3)] [mk 5 60 (c1.map AA.enc),some ⟨5,60,[.ag [.v (.int .u8 v4.1),.st v4.2.1,.v (.bool v4.2.2.1),.sl 1 (v4.2.2.2.1.map cdS.enc),.v (.int .i64 v4.2.2.2.2)]],false⟩,none,mk 1 9 ([[115,112,97,114,101]].map cdS.enc),some ⟨1,9,((v4.2.2.2.1++[[115,112,97,114,101]]).map cdS.enc),false⟩] kr kr ?_
      refine RunDX.tail rfl ?_;refine AD (n:=28) AC 1 [(3,hd 0 (c1.map AA.enc)),(5,.pt 1 0 0),(6,.sl 5 (x0.map AA.enc)),(7,.v (.int .i64 (x0.length:Int))),(8,.v (.int .i64 c2))] [mk 5 60 (c1.map AA.enc),some ⟨5,60,[.ag [.v (.int .u8 v4.1),.st v4.2.1,.v (.bool v4.2.2.1),.rf 4 0 ((v4.2.2.2.1.length:Int).toNat) ((v4.2.2.2.1++[[115,112,97,114,101]]).length),.v (.int .i64 v4.2.2.2.2)]],false⟩,none,mk 1 9 ([[115,112,97,114,101]].map cdS.enc),some ⟨1,9,((v4.2.2.2.1++[[115,112,97,114,101]]).map cdS.enc),false⟩] kr ?_;exact AI rfl (Ac [0,1,4] ⟨⟨_,rfl,IL⟩,⟨_,rfl,GO⟩,⟨_,rfl,Hv⟩,trivial⟩ ⟨IM (b':=0) kr kr,lv,lv,lv,lv,trivial⟩)
    ·refine Wq (n:=28) AC [(3,hd 0 (c1.map AA.enc)),(5,.pt 1 0 0),(6,.sl 5 (x0.map AA.enc)),(7,.v (.int .i64 (x0.length:Int))),(8,.v (.int .i64 c2)),(13,.sl 1 (v4.2.2.2.1.map cdS.enc)),(15,hd 2 ([[115,112,97,114,101]].map cdS.enc))] [mk 5 60 (c1.map AA.enc),some ⟨5,60,[.ag [.v (.int .u8 v4.1),.st v4.2.1,.v (.bool v4.2.2.1),.sl 1 (v4.2.2.2.1.map cdS.enc),.v (.int .i64 v4.2.2.2.2)]],false⟩,mk 1 9 ([[115,112,97,114,101]].map cdS.enc)] kr kr ?_
     have hk10:=hk5
     refine Vk rfl rfl (HC v4.2.2.2.1 hk10) rfl (AB rfl) kr (xs:=[.sl 1 (v4.2.2.2.1.map cdS.enc)]) kr kr G4 ?_;rintro x h' (⟨hx,rfl,rfl⟩ | ⟨rfl,rfl⟩)
     ·rw [hx]
      refine RunDX.append AC rfl (AB rfl) rfl rfl (Dg (a:= .e0) (b:=hd 2 ([[115,112,97,114,101]].map cdS.enc)) kr kr (SC (c:=cdS) (vs:=[[115,112,97,114,101]]) (k:=1) (bytes:=16) (el:=9) kr kr (GS (t:=9) kr) (List.cons_ne_nil _ _) kr)) (Dg (a:= .e0) (b:=hd 2 ([[115,112,97,114,101]].map cdS.enc)) kr kr (SC (c:=cdS) (vs:=[[115,112,97,114,101]]) (k:=1) (bytes:=16) (el:=9) kr kr (GS (t:=9) kr) (List.cons_ne_nil _ _) kr)) kr ?_;refine IC (n:=28) AC 2 [(3,hd 0 (c1.map AA.enc)),(5,.pt 1 0 0),(6,.sl 5 (x0.map AA.enc)),(7,.v (.int .i64 (x0.length:Int))),(8,.v (.int .i64 c2)),(16,hd 3 ([[115,112,97,114,101]].map cdS.enc)),(18,.sl 1 (([]:List (List UInt8)).map cdS.enc))] [mk 5 60 (c1.map AA.enc),some ⟨5,60,[.ag [.v (.int .u8 v4.1),.st v4.2.1,.v (.bool v4.2.2.1),.sl 1 (([]:List (List UInt8)).map cdS.enc),.v (.int .i64 v4.2.2.2.2)]],false⟩,mk 1 9 ([[115,112,97,114,101]].map cdS.enc),mk 1 9 ([[115,112,97,114,101]].map cdS.enc)] kr kr ?_;refine RunDX.one AC rfl kr (HF kr (AB rfl) rfl (CO (a:= .sl 1 (([]:List (List UInt8)).map cdS.enc)) kr (BS (el:=9) kr)) kr) ?_;refine IC (n:=28) AC 2 [(3,hd 0 (c1.map AA.enc)),(5,.pt 1 0 0),(6,.sl 5 (x0.map AA.enc)),(7,.v (.int .i64 (x0.length:Int))),(8,.v (.int .i64 c2)),(20,.rf 3 0 0 1),(21,.pt 1 0 3)] [mk 5 60 (c1.map AA.enc),some ⟨5,60,[.ag [.v (.int .u8 v4.1),.st v4.2.1,.v (.bool v4.2.2.1),.sl 1 (([]:List (List UInt8)).map cdS.enc),.v (.int .i64 v4.2.2.2.2)]],false⟩,mk 1 9 ([[115,112,97,114,101]].map cdS.enc),mk 1 9 ([[115,112,97,114,101]].map cdS.enc)] kr kr ?_;refine RunDX.tail rfl ?_;refine AD (n:=28) AC 1 [(3,hd 0 (c1.map AA.enc)),(5,.pt 1 0 0),(6,.sl 5 (x0.map AA.enc)),(7,.v (.int .i64 (x0.length:Int))),(8,.v (.int .i64 c2))] [mk 5 60 (c1.map AA.enc),some ⟨5,60,[.ag [.v (.int .u8 v4.1),.st v4.2.1,.v (.bool v4.2.2.1),.rf 3 0 0 1,.v (.int .i64 v4.2.2.2.2)]],false⟩,mk 1 9 ([[115,112,97,114,101]].map cdS.enc),mk 1 9 ([[115,112,97,114,101]].map cdS.enc)] kr ?_
      exact AI rfl (Ac [0,1,3] ⟨⟨_,rfl,IL⟩,⟨_,rfl,GO⟩,⟨_,rfl,Hv⟩,trivial⟩ ⟨IM (b':=0) kr kr,lv,lv,lv,lv,trivial⟩)
     ·have hk11:=hk6
      refine RunDX.append AC rfl (AB rfl) rfl rfl (Dg (a:= .rf 3 0 v4.2.2.2.1.length v4.2.2.2.1.length) (b:=hd 2 ([[115,112,97,114,101]].map cdS.enc)) kr kr (OU (c:=cdS) (xs:=v4.2.2.2.1) (vs:=[[115,112,97,114,101]]) (k:=1) (bytes:=16) (el:=9) kr kr (GS (t:=9) kr) (List.cons_ne_nil _ _) kr hk11)) (Dg (a:= .rf 3 0 v4.2.2.2.1.length v4.2.2.2.1.length) (b:=hd 2 ([[115,112,97,114,101]].map cdS.enc)) kr kr (OU (c:=cdS) (xs:=v4.2.2.2.1) (vs:=[[115,112,97,114,101]]) (k:=1) (bytes:=16) (el:=9) kr kr (GS (t:=9) kr) (List.cons_ne_nil _ _) kr hk11)) kr ?_;refine IC (n:=28) AC 2 [(3,hd 0 (c1.map AA.enc)),(5,.pt 1 0 0),(6,.sl 5 (x0.map AA.enc)),(7,.v (.int .i64 (x0.length:Int))),(8,.v (.int .i64 c2)),(16,.rf 4 0 (v4.2.2.2.1++[[115,112,97,114,101]]).length (v4.2.2.2.1++[[115,112,97,114,101]]).length),(18,.sl 1 (v4.2.2.2.1.map cdS.enc))] [mk 5 60 (c1.map AA.enc),some ⟨5,60,[.ag [.v (.int .u8 v4.1),.st v4.2.1,.v (.bool v4.2.2.1),.sl 1 (v4.2.2.2.1.map cdS.enc),.v (.int .i64 v4.2.2.2.2)]],false⟩,mk 1 9 ([[115,112,97,114,101]].map cdS.enc),none,some ⟨1,9,((v4.2.2.2.1++[[115,112,97,114,101]]).map cdS.enc),false⟩] kr kr ?_;refine RunDX.one AC rfl kr (HF kr (AB rfl) rfl (CO (a:= .sl 1 (v4.2.2.2.1.map cdS.enc)) kr (BS (el:=9) kr)) kr) ?_
      have hk12:=hk7
      refine RunDX.one AC rfl kr (HF kr (AB rfl) rfl (S0 (a:= .rf 4 0 (v4.2.2.2.1++[[115,112,97,114,101]]).length (v4.2.2.2.1++[[115,112,97,114,101]]).length) (l:=none) (u:=(some (.v (.int .i64 (v4.2.2.2.1.length:Int))))) (m:=none) kr kr kr rfl (YD (xs:=(v4.2.2.2.1++[[115,112,97,114,101]])) (e:=cdS.enc) (t':=9) (k:=1) (el:=9) kr kr kr hk12 (by simp))) kr) ?_;refine IC (n:=28) AC 1 [(3,hd 0 (c1.map AA.enc)),(5,.pt 1 0 0),(6,.sl 5 (x0.map AA.enc)),(7,.v (.int .i64 (x0.length:Int))),(8,.v (.int .i64 c2)),(20,.rf 4 0 ((v4.2.2.2.1.length:Int).toNat) ((v4.2.2.2.1++[[115,112,97,114,101]]).length)),(21,.pt 1 0 3)] [mk 5 60 (c1.map AA.enc),some ⟨5,60,[.ag [.v (.int .u8 v4.1),.st v4.2.1,.v (.bool v4.2.2.1),.sl 1 (v4.2.2.2.1.map cdS.enc),.v (.int .i64 v4.2.2.2.2)]],false⟩,mk 1 9 ([[115,112,97,114,101]].map cdS.enc),none,some ⟨1,9,((v4.2.2.2.1++[[115,112,97,114,101]]).map cdS.enc),false⟩] kr kr ?_;refine RunDX.tail rfl ?_;refine AD (n:=28) AC 1 [(3,hd 0 (c1.map AA.enc)),(5,.pt 1 0 0),(6,.sl 5 (x0.map AA.enc)),(7,.v (.int .i64 (x0.length:Int))),(8,.v (.int .i64 c2))] [mk 5 60 (c1.map AA.enc),some ⟨5,60,[.ag [.v (.int .u8 v4.1),.st v4.2.1,.v (.bool v4.2.2.1),.rf 4 0 ((v4.2.2.2.1.length:Int).toNat) ((v4.2.2.2.1++[[115,112,97,114,101]]).length),.v (.int .i64 v4.2.2.2.2)]],false⟩,mk 1 9 ([[115,112,97,114,101]].map cdS.enc),none,some ⟨1,9,((v4.2.2.2.1++[[115,112,97,114,101]]).map cdS.enc),false⟩] kr ?_;exact AI rfl (Ac [0,1,4] ⟨⟨_,rfl,IL⟩,⟨_,rfl,GO⟩,⟨_,rfl,Hv⟩,trivial⟩ ⟨IM (b':=0) kr kr,lv,lv,lv,lv,trivial⟩)
   by_cases hk15:(EC 64 (c1.length + 1))=true
   case neg=>rw [if_neg hk15] at h; cases h
   rw [if_pos hk15] at h;refine AL (s1:=⟨Fr 28 [(3,hd 0 ((c1++[(v4.1,v4.2.1,v4.2.2.1,((v4.2.2.2.1++[[115,112,97,114,101]]).take ((v4.2.2.2.1.length:Int).toNat)),v4.2.2.2.2)]).map AA.enc)),(6,.sl 5 (x0.map AA.enc)),(7,.v (.int .i64 (x0.length:Int))),(8,.v (.int .i64 c2))],[mk 5 60 ((c1++[(v4.1,v4.2.1,v4.2.2.1,((v4.2.2.2.1++[[115,112,97,114,101]]).take ((v4.2.2.2.1.length:Int).toNat)),v4.2.2.2.2)]).map AA.enc)]⟩) ?_ ?_
   ·refine AD (n:=28) AC 2 [(6,.sl 5 (x0.map AA.enc)),(7,.v (.int .i64 (x0.length:Int))),(8,.v (.int .i64 c2)),(22,hd 0 (c1.map AA.enc)),(23,.ag [.v (.int .u8 v4.1),.st v4.2.1,.v (.bool v4.2.2.1),.rf 2 0 ((v4.2.2.2.1.length:Int).toNat) ((v4.2.2.2.1++[[115,112,97,114,101]]).length),.v (.int .i64 v4.2.2.2.2)])] [mk 5 60 (c1.map AA.enc),some ⟨5,60,[.ag [.v (.int .u8 v4.1),.st v4.2.1,.v (.bool v4.2.2.1),.rf 2 0 ((v4.2.2.2.1.length:Int).toNat) ((v4.2.2.2.1++[[115,112,97,114,101]]).length),.v (.int .i64 v4.2.2.2.2)]],false⟩,some ⟨1,9,((v4.2.2.2.1++[[115,112,97,114,101]]).map cdS.enc),false⟩] kr ?_
    refine ABu (s1:=⟨Fr 28 [(6,.sl 5 (x0.map AA.enc)),(7,.v (.int .i64 (x0.length:Int))),(8,.v (.int .i64 c2)),(22,hd 0 (c1.map AA.enc)),(23,.ag [.v (.int .u8 v4.1),.st v4.2.1,.v (.bool v4.2.2.1),.sl 1 (((v4.2.2.2.1++[[115,112,97,114,101]]).take ((v4.2.2.2.1.length:Int).toNat)).map cdS.enc),.v (.int .i64 v4.2.2.2.2)])],[mk 5 60 (c1.map AA.enc),some ⟨5,60,[.ag [.v (.int .u8 v4.1),.st v4.2.1,.v (.bool v4.2.2.1),.sl 1 (((v4.2.2.2.1++[[115,112,97,114,101]]).take ((v4.2.2.2.1.length:Int).toNat)).map cdS.enc),.v (.int .i64 v4.2.2.2.2)]],false⟩,none]⟩) (AAO 2 (.inl kr) ⟨.inr (.inl rfl),.inr (.inr ⟨_,_,_,_,rfl,rfl,⟨(.inr ⟨_,_,rfl,rfl,⟨.inl rfl,.inl rfl,.inl rfl,ABX (c:=cdS) (xs:=(v4.2.2.2.1++[[115,112,97,114,101]])) (t:=9) kr (Ny hk7).2.2.2,.inl rfl,trivial⟩⟩),trivial⟩⟩),.inl rfl,trivial⟩ ⟨⟨.sl 5 (x0.map AA.enc),kr,(.inl (.inl rfl))⟩,⟨.v (.int .i64 (x0.length:Int)),kr,(.inl (.inl rfl))⟩,⟨.v (.int .i64 c2),kr,(.inl (.inl rfl))⟩,⟨hd 0 (c1.map AA.enc),kr,(.inl (.inl rfl))⟩,⟨.ag [.v (.int .u8 v4.1),.st v4.2.1,.v (.bool v4.2.2.1),.rf 2 0 ((v4.2.2.2.1.length:Int).toNat) ((v4.2.2.2.1++[[115,112,97,114,101]]).length),.v (.int .i64 v4.2.2.2.2)],kr,(.inr ⟨_,_,rfl,rfl,⟨.inl rfl,.inl rfl,.inl rfl,ABX (c:=cdS) (xs:=(v4.2.2.2.1++[[115,112,97,114,101]])) (t:=9) kr (Ny hk7).2.2.2,.inl rfl,trivial⟩⟩)⟩,trivial⟩) ?_;refine AD (n:=28) AC 1 [(6,.sl 5 (x0.map AA.enc)),(7,.v (.int .i64 (x0.length:Int))),(8,.v (.int .i64 c2)),(22,hd 0 (c1.map AA.enc)),(24,hd 3 ([(v4.1,v4.2.1,v4.2.2.1,((v4.2.2.2.1++[[115,112,97,114,101]]).take ((v4.2.2.2.1.length:Int).toNat)),v4.2.2.2.2)].map AA.enc))] [mk 5 60 (c1.map AA.enc),some ⟨5,60,[.ag [.v (.int .u8 v4.1),.st v4.2.1,.v (.bool v4.2.2.1),.sl 1 (((v4.2.2.2.1++[[115,112,97,114,101]]).take ((v4.2.2.2.1.length:Int).toNat)).map cdS.enc),.v (.int .i64 v4.2.2.2.2)]],false⟩,none,mk 5 60 ([(v4.1,v4.2.1,v4.2.2.1,((v4.2.2.2.1++[[115,112,97,114,101]]).take ((v4.2.2.2.1.length:Int).toNat)),v4.2.2.2.2)].map AA.enc)] kr ?_
    refine AW AC 0 rfl (UX (AB rfl) rfl kr kr (Dg (a:=hd 0 (c1.map AA.enc)) (b:=hd 3 ([(v4.1,v4.2.1,v4.2.2.1,((v4.2.2.2.1++[[115,112,97,114,101]]).take ((v4.2.2.2.1.length:Int).toNat)),v4.2.2.2.2)].map AA.enc)) kr kr (LN (c:=AA) (xs:=c1) (vs:=[(v4.1,v4.2.1,v4.2.2.1,((v4.2.2.2.1++[[115,112,97,114,101]]).take ((v4.2.2.2.1.length:Int).toNat)),v4.2.2.2.2)]) (k:=5) (bytes:=64) (el:=60) kr kr (GS (t:=60) kr) (List.cons_ne_nil _ _) kr hk15))) ?_;refine AD (n:=28) AC 1 [(3,hd 4 ((c1++[(v4.1,v4.2.1,v4.2.2.1,((v4.2.2.2.1++[[115,112,97,114,101]]).take ((v4.2.2.2.1.length:Int).toNat)),v4.2.2.2.2)]).map AA.enc)),(6,.sl 5 (x0.map AA.enc)),(7,.v (.int .i64 (x0.length:Int))),(8,.v (.int .i64 c2))] [none,some ⟨5,60,[.ag [.v (.int .u8 v4.1),.st v4.2.1,.v (.bool v4.2.2.1),.sl 1 (((v4.2.2.2.1++[[115,112,97,114,101]]).take ((v4.2.2.2.1.length:Int).toNat)).map cdS.enc),.v (.int .i64 v4.2.2.2.2)]],false⟩,none,mk 5 60 ([(v4.1,v4.2.1,v4.2.2.1,((v4.2.2.2.1++[[115,112,97,114,101]]).take ((v4.2.2.2.1.length:Int).toNat)),v4.2.2.2.2)].map AA.enc),mk 5 60 ((c1++[(v4.1,v4.2.1,v4.2.2.1,((v4.2.2.2.1++[[115,112,97,114,101]]).take ((v4.2.2.2.1.length:Int).toNat)),v4.2.2.2.2)]).map AA.enc)] kr ?_;exact AI rfl (Ac [4] ⟨⟨_,rfl,IL⟩,trivial⟩ ⟨IM (b':=4) kr kr,lv,lv,lv,trivial⟩)
   refine DC AC [(3,hd 0 ((c1++[(v4.1,v4.2.1,v4.2.2.1,((v4.2.2.2.1++[[115,112,97,114,101]]).take ((v4.2.2.2.1.length:Int).toNat)),v4.2.2.2.2)]).map AA.enc)),(6,.sl 5 (x0.map AA.enc)),(7,.v (.int .i64 (x0.length:Int))),(8,.v (.int .i64 (wr .i64 (c2 + 1))))] [mk 5 60 ((c1++[(v4.1,v4.2.1,v4.2.2.1,((v4.2.2.2.1++[[115,112,97,114,101]]).take ((v4.2.2.2.1.length:Int).toNat)),v4.2.2.2.2)]).map AA.enc)] ?_;exact Aj (s1:=⟨Fr 28 [(3,hd 0 ((c1++[(v4.1,v4.2.1,v4.2.2.1,((v4.2.2.2.1++[[115,112,97,114,101]]).take ((v4.2.2.2.1.length:Int).toNat)),v4.2.2.2.2)]).map AA.enc)),(6,.sl 5 (x0.map AA.enc)),(7,.v (.int .i64 (x0.length:Int))),(8,.v (.int .i64 (wr .i64 (c2 + 1))))],[mk 5 60 ((c1++[(v4.1,v4.2.1,v4.2.2.1,((v4.2.2.2.1++[[115,112,97,114,101]]).take ((v4.2.2.2.1.length:Int).toNat)),v4.2.2.2.2)]).map AA.enc)]⟩) (Ac [0] ⟨⟨_,rfl,IL⟩,trivial⟩ ⟨IM (b':=0) kr kr,lv,lv,lv,trivial⟩) (ih (c1++[(v4.1,v4.2.1,v4.2.2.1,((v4.2.2.2.1++[[115,112,97,114,101]]).take ((v4.2.2.2.1.length:Int).toNat)),v4.2.2.2.2)]) (wr .i64 (c2 + 1)) h)
  ·rw [BV hb3] at h
   refine CA ?_;have hq:=OI h; subst hq;exact ⟨rfl,(Ac [0] ⟨⟨_,rfl,IL⟩,trivial⟩ ⟨IM (b':=0) kr kr,trivial⟩)⟩
theorem T0 (x0:(List AH)) (r:(List AH)) (h:JG x0=some r):Sem E0 ⟨none,false⟩ Mb ⟨Fr 28 (A0 0 (Mh.enc (x0,()))),[]⟩ fun e s'=>(e = .normal\/e = .ret)/\∃ xs,Dz E0.P s'.fr s'.hp Tryz.f59.results.toList=some xs/\D0 xs=Ms r:=by
 unfold JG at h
 let p1:Nat×AV:=(0,.sl 5 (x0.map AA.enc))
 refine Ao (BL (s1:=⟨Fr 28 [p1],[]⟩) AM ?_);refine AK AC [p1] [] ?_;refine AK AC [p1,(3,.e0)] [] ?_;refine AG ?_;refine AG ?_
 let p2:Nat×AV:=(8,.v (.int .i64 0))
 let p3:Nat×AV:=(7,.v (.int .i64 (x0.length:Int)))
 let p4:Nat×AV:=(6,.sl 5 (x0.map AA.enc))
 refine AL (s1:=⟨Fr 28 [(3,.e0),p4,p3,p2],[]⟩) ?_ ?_
 ·refine AD (n:=28) AC 1 [(3,.e0),p4] [] kr ?_
  refine AW AC 0 rfl (DW (AB rfl) rfl (CO (a:= .sl 5 (x0.map AA.enc)) kr (BS (el:=60) kr))) ?_;exact AX AC
 refine Aa ?_;obtain ⟨r17,hr17,h⟩:=OB h;refine CF (n:=100000) ?_
 let p5:Nat×AV:=(3,hd 0 ([].map AA.enc))
 refine A1 (Aj (s1:=⟨Fr 28 [p5,p4,p3,p2],[mk 5 60 ([].map AA.enc)]⟩) (Wk.trans (s1:=⟨Fr 28 [p5,p4,p3,p2],[mk 5 60 ([].map AA.enc)]⟩) Wk.none (Ac [0] ⟨⟨_,rfl,MX⟩,trivial⟩ ⟨lv,lv,lv,lv,trivial⟩)) (Ri x0 _ [] 0 _ hr17)) ?_;refine AK AC [(2,hd 0 (r17.map AA.enc))] [mk 5 60 (r17.map AA.enc)] ?_;refine AO ?_;have hq:=OI h; subst hq
 let p6:Nat×AV:=(2,.sl 5 (r17.map AA.enc))
 exact ⟨⟨Fr 28 [p6],[]⟩,(Wk.trans (s1:=⟨Fr 28 [p6],[none]⟩) (HH 0 (.inl kr) ⟨.inl rfl,trivial⟩ ⟨⟨hd 0 (r17.map AA.enc),kr,V4 (t:=60) kr Nz⟩,trivial⟩) (Ac [] trivial ⟨lv,trivial⟩)),.inr rfl,[.sl 5 (r17.map AA.enc)],kr,kr⟩
def WV:List AV->Option AV:=Dm Mh (fun a=>JG a.1) Ms
theorem Wl:XOk 59 WV:=by
 refine AR Tryz.func59 (c:=Mb) ?h2 ⟨Tryz.call59⟩ Mh (fun a=>JG a.1) Ms (fun a=>(by show 1<=28; decide)) ?h3 ?h4
 case h2=>kernel_rfl
 case h3=>intro b; kernel_rfl
 case h4=>exact fun a b h=>T0 a.1 b h
/- trestle/trestlekit.CopyWords -/
noncomputable def Jj:Code:=A9 Tryz.f148
def D9 (x0:(List (List UInt8))):Nat->(List (List UInt8))->Int->Option (((List (List UInt8))))
 | 0,_,_=>none
 | f + 1,c1,c2 =>
  if (decide (c2 < (x0.length:Int)))=true then
  (idx x0 c2).bind fun v4 =>
  if (EC 16 (c1.length + 1))=true then
  D9 x0 f (c1++[v4]) (wr .i64 (c2 + 1))
  else none
  else
  some c1
def Hl (x0:(List (List UInt8))):Option ((List (List UInt8))) :=
 (D9 x0 200000000000000 [] 0).bind fun r7 =>
 some r7
def Jz:Cs ((List (List UInt8))×Unit):=(csC (cdL 1 cdS) csN)
def KJ (r:(List (List UInt8))):AV:=(cdL 1 cdS).enc r
theorem PT (x0:(List (List UInt8))):∀ (f:Nat) (c1:(List (List UInt8))) (c2:Int) (r:((List (List UInt8)))),D9 x0 f c1 c2=some r->SemN E0 ⟨none,false⟩ (pc Jj [1,1,0,1,0,0]) f ⟨Fr 19 [(0,.sl 1 (x0.map cdS.enc)),(3,hd 0 (c1.map cdS.enc)),(4,.v (.int .i64 c2))],[mk 1 9 (c1.map cdS.enc)]⟩ (fun e s=>e=(.exit 0)/\Wk E0 s ⟨Fr 19 [(3,hd 0 (r.map cdS.enc))],[mk 1 9 (r.map cdS.enc)]⟩):=by
 intro f;induction f with
 | zero=>intro c1 c2 r h; cases h
 | succ f ih0 =>
  intro c1 c2 r h
  have ih:=fun (c1:(List (List UInt8))) (c2:Int)=>ih0 c1 c2 r
  unfold D9 at h;refine Bc ?_;refine AG ?_;refine AG ?_
  let p1:Option Blk:=mk 1 9 (c1.map cdS.enc)
  let p2:Nat×AV:=(4,.v (.int .i64 c2))
  let p3:Nat×AV:=(0,.sl 1 (x0.map cdS.enc))
  refine AL (s1:=⟨Fr 19 [p3,(3,hd 0 (c1.map cdS.enc)),p2,(8,.v (.bool (decide (c2 < (x0.length:Int)))))],[p1]⟩) ?_ ?_
  ·refine AD (n:=19) AC 2 [p3,(3,hd 0 (c1.map cdS.enc)),p2,(5,.v (.int .i64 c2)),(6,.sl 1 (x0.map cdS.enc))] [p1] kr ?_
   refine AW AC 0 rfl (DW (AB rfl) rfl (CO (a:= .sl 1 (x0.map cdS.enc)) kr (BS (el:=9) kr))) ?_;exact AX AC
  refine AP (b:=(decide (c2 < (x0.length:Int)))) kr (fun hb3=>?_) (fun hb3=>?_)
  ·rw [if_pos hb3] at h
   refine AT ?_;refine AG ?_;refine Aa ?_;obtain ⟨v4,hv4,h⟩:=OB h;by_cases hk5:(EC 16 (c1.length + 1))=true
   case neg=>rw [if_neg hk5] at h; cases h
   rw [if_pos hk5] at h
   let p4:Option Blk:=mk 1 9 ((c1++[v4]).map cdS.enc)
   let p5:Nat×AV:=(3,hd 0 ((c1++[v4]).map cdS.enc))
   refine AL (s1:=⟨Fr 19 [p3,p5,p2],[p4]⟩) ?_ ?_
   ·refine AD (n:=19) AC 3 [p3,p2,(11,hd 0 (c1.map cdS.enc)),(12,.sl 1 (x0.map cdS.enc)),(13,.v (.int .i64 c2))] [p1] kr ?_
    refine AW AC 0 rfl (DW (AB rfl) rfl (AS (a:= .sl 1 (x0.map cdS.enc)) (b:= .v (.int .i64 c2)) kr kr (DP (e:=cdS.enc) (el:=9) (k:=1) (ki:= .i64) kr kr hv4))) ?_;refine AD (n:=19) AC 2 [p3,p2,(11,hd 0 (c1.map cdS.enc)),(16,hd 1 ([v4].map cdS.enc))] [p1,mk 1 9 ([v4].map cdS.enc)] kr ?_;refine AW AC 0 rfl (UX (AB rfl) rfl kr kr (Dg (a:=hd 0 (c1.map cdS.enc)) (b:=hd 1 ([v4].map cdS.enc)) kr kr (LN (c:=cdS) (xs:=c1) (vs:=[v4]) (k:=1) (bytes:=16) (el:=9) kr kr (GS (t:=9) kr) (List.cons_ne_nil _ _) kr hk5))) ?_;refine AD (n:=19) AC 1 [p3,(3,hd 2 ((c1++[v4]).map cdS.enc)),p2] [none,mk 1 9 ([v4].map cdS.enc),p4] kr ?_;exact AI rfl (Ac [2] ⟨⟨_,rfl,IL⟩,trivial⟩ ⟨lv,IM (b':=2) kr kr,lv,trivial⟩)
   let p6:Nat×AV:=(4,.v (.int .i64 (wr .i64 (c2 + 1))))
   refine DC AC [p3,p5,p6] [p4] ?_;exact Aj (s1:=⟨Fr 19 [p3,p5,p6],[p4]⟩) (Ac [0] ⟨⟨_,rfl,IL⟩,trivial⟩ ⟨lv,IM (b':=0) kr kr,lv,trivial⟩) (ih (c1++[v4]) (wr .i64 (c2 + 1)) h)
  ·rw [BV hb3] at h
   refine CA ?_;have hq:=OI h; subst hq;exact ⟨rfl,(Ac [0] ⟨⟨_,rfl,IL⟩,trivial⟩ ⟨IM (b':=0) kr kr,trivial⟩)⟩
theorem Qv (x0:(List (List UInt8))) (r:(List (List UInt8))) (h:Hl x0=some r):Sem E0 ⟨none,false⟩ Jj ⟨Fr 19 (A0 0 (Jz.enc (x0,()))),[]⟩ fun e s'=>(e = .normal\/e = .ret)/\∃ xs,Dz E0.P s'.fr s'.hp Tryz.f148.results.toList=some xs/\D0 xs=KJ r:=by
 unfold Hl at h
 let p1:Nat×AV:=(0,.sl 1 (x0.map cdS.enc))
 refine Ao (BL (s1:=⟨Fr 19 [p1],[]⟩) AM ?_);refine AK AC [p1] [] ?_;refine AK AC [p1,(3,.e0)] [] ?_;refine AG ?_
 let p2:Nat×AV:=(4,.v (.int .i64 0))
 refine AK AC [p1,(3,.e0),p2] [] ?_;refine Aa ?_;obtain ⟨r7,hr7,h⟩:=OB h;refine CF (n:=200000000000000) ?_;refine A1 (Aj (s1:=⟨Fr 19 [p1,(3,hd 0 ([].map cdS.enc)),p2],[mk 1 9 ([].map cdS.enc)]⟩) (Wk.trans (s1:=⟨Fr 19 [p1,(3,hd 0 ([].map cdS.enc)),p2],[mk 1 9 ([].map cdS.enc)]⟩) Wk.none (Ac [0] ⟨⟨_,rfl,MX⟩,trivial⟩ ⟨lv,lv,lv,trivial⟩)) (PT x0 _ [] 0 _ hr7)) ?_;refine AK AC [(2,hd 0 (r7.map cdS.enc))] [mk 1 9 (r7.map cdS.enc)] ?_;refine AO ?_;have hq:=OI h; subst hq;exact ⟨⟨Fr 19 [(2,.sl 1 (r7.map cdS.enc))],[]⟩,(Wk.trans (s1:=⟨Fr 19 [(2,.sl 1 (r7.map cdS.enc))],[none]⟩) (HH 0 (.inl kr) ⟨.inl rfl,trivial⟩ ⟨⟨hd 0 (r7.map cdS.enc),kr,V4 (t:=9) kr Nz⟩,trivial⟩) (Ac [] trivial ⟨lv,trivial⟩)),.inr rfl,[.sl 1 (r7.map cdS.enc)],kr,kr⟩
def TP:List AV->Option AV:=Dm Jz (fun a=>Hl a.1) KJ
theorem Tj:XOk 148 TP:=by
 refine AR Tryz.func148 (c:=Jj) ?h2 ⟨Tryz.call148⟩ Jz (fun a=>Hl a.1) KJ (fun a=>(by show 1<=19; decide)) ?h3 ?h4
 case h2=>kernel_rfl
 case h3=>intro b; kernel_rfl
 case h4=>exact fun a b h=>Qv a.1 b h
/- trestle/trestlekit.CopyGuest -/
noncomputable def NN:Code:=A9 Tryz.f114
def Gu (x0:Af):Option (Af) :=
 (Hl x0.2.2.2.2.2.2.2.2).bind fun v1 =>
 some (x0.1,x0.2.1,x0.2.2.1,x0.2.2.2.1,x0.2.2.2.2.1,x0.2.2.2.2.2.1,x0.2.2.2.2.2.2.1,x0.2.2.2.2.2.2.2.1,v1)
def Jy:Cs (Af×Unit):=(csC AE csN)
def KI (r:Af):AV:=AE.enc r
theorem Qu (x0:Af) (r:Af) (h:Gu x0=some r):Sem E0 ⟨none,false⟩ NN ⟨Fr 8 (A0 0 (Jy.enc (x0,()))),[]⟩ fun e s'=>(e = .normal\/e = .ret)/\∃ xs,Dz E0.P s'.fr s'.hp Tryz.f114.results.toList=some xs/\D0 xs=KI r:=by
 unfold Gu at h;refine Ao (BL (s1:=⟨Fr 8 [(0,AE.enc x0)],[]⟩) AM ?_)
 let p1:Option Blk:=some ⟨9,42,[.ag [.st [],.st [],.st [],.v (.int .i64 0),.v (.int .i64 0),.st [],.v (.bool false),.v (.bool false),.e0]],false⟩
 let p2:Option Blk:=some ⟨9,42,[AE.enc x0],false⟩
 let p3:Nat×AV:=(2,.pt 1 0 0)
 refine AK AC [(1,.pt 0 0 0),p3] [p2,p1] ?_;refine AG ?_;obtain ⟨v1,hv1,h⟩:=OB h
 let p4:Option Blk:=some ⟨9,42,[.ag [.st x0.1,.st x0.2.1,.st x0.2.2.1,.v (.int .i64 x0.2.2.2.1),.v (.int .i64 x0.2.2.2.2.1),.st x0.2.2.2.2.2.1,.v (.bool x0.2.2.2.2.2.2.1),.v (.bool x0.2.2.2.2.2.2.2.1),.sl 1 (v1.map cdS.enc)]],false⟩
 refine AL (s1:=⟨Fr 8 [(1,.pt 0 0 0),p3],[p4,p1]⟩) ?_ ?_
 ·refine AD (n:=8) AC 2 [(1,.pt 0 0 0),p3,(4,.sl 1 (x0.2.2.2.2.2.2.2.2.map cdS.enc))] [p2,p1] kr ?_
  refine AN (caps:=[]) (xs:=[.sl 1 (x0.2.2.2.2.2.2.2.2.map cdS.enc)]) (u:=(x0.2.2.2.2.2.2.2.2,())) rfl rfl Tj rfl (AB rfl) kr kr (AJ (AQ (c:=(cdL 1 cdS)) (v:=x0.2.2.2.2.2.2.2.2)) Ah) (.inr kr) hv1 ?_;exact AX AC
 refine AG ?_;refine AL (s1:=⟨Fr 8 [(2,.pt 0 0 0)],[p4]⟩) ?_ ?_
 ·refine AD (n:=8) AC 2 [p3] [p4,p4] kr ?_
  exact AI rfl (Ac [1] ⟨⟨_,rfl,GO⟩,trivial⟩ ⟨lv,trivial⟩)
 refine AO ?_;have hq:=OI h; subst hq;exact ⟨⟨Fr 8 [(2,.pt 0 0 0)],[p4]⟩,(Ac [0] ⟨⟨_,rfl,GO⟩,trivial⟩ ⟨lv,trivial⟩),.inr rfl,[.ag [.st x0.1,.st x0.2.1,.st x0.2.2.1,.v (.int .i64 x0.2.2.2.1),.v (.int .i64 x0.2.2.2.2.1),.st x0.2.2.2.2.2.1,.v (.bool x0.2.2.2.2.2.2.1),.v (.bool x0.2.2.2.2.2.2.2.1),.sl 1 (v1.map cdS.enc)]],kr,kr⟩
def TO:List AV->Option AV:=Dm Jy (fun a=>Gu a.1) KI
theorem Ti:XOk 114 TO:=by
 refine AR Tryz.func114 (c:=NN) ?h2 ⟨Tryz.call114⟩ Jy (fun a=>Gu a.1) KI (fun a=>(by show 1<=8; decide)) ?h3 ?h4
 case h2=>kernel_rfl
 case h3=>intro b; kernel_rfl
 case h4=>exact fun a b h=>Qu a.1 b h
/- trestle/trestlekit.CopyGuests -/
noncomputable def I0:Code:=A9 Tryz.f60
def C6 (x0:(List Af)):Nat->(List Af)->Int->Option (((List Af)))
 | 0,_,_=>none
 | f + 1,c1,c2 =>
  if (decide (c2 < (x0.length:Int)))=true then
  (idx x0 c2).bind fun v4 =>
  (Gu v4).bind fun v5 =>
  if (EC 112 (c1.length + 1))=true then
  C6 x0 f (c1++[v5]) (wr .i64 (c2 + 1))
  else none
  else
  some c1
def GA (x0:(List Af)):Option ((List Af)) :=
 (C6 x0 100000 [] 0).bind fun r8 =>
 some r8
def I6:Cs ((List Af)×Unit):=(csC (cdL 9 AE) csN)
def JC (r:(List Af)):AV:=(cdL 9 AE).enc r
theorem Oj (x0:(List Af)):∀ (f:Nat) (c1:(List Af)) (c2:Int) (r:((List Af))),C6 x0 f c1 c2=some r->SemN E0 ⟨none,false⟩ (pc I0 [1,1,0,1,0,0]) f ⟨Fr 20 [(0,.sl 9 (x0.map AE.enc)),(3,hd 0 (c1.map AE.enc)),(4,.v (.int .i64 c2))],[mk 9 42 (c1.map AE.enc)]⟩ (fun e s=>e=(.exit 0)/\Wk E0 s ⟨Fr 20 [(3,hd 0 (r.map AE.enc))],[mk 9 42 (r.map AE.enc)]⟩):=by
 intro f;induction f with
 | zero=>intro c1 c2 r h; cases h
 | succ f ih0 =>
  intro c1 c2 r h
  have ih:=fun (c1:(List Af)) (c2:Int)=>ih0 c1 c2 r
  unfold C6 at h;refine Bc ?_;refine AG ?_;refine AG ?_
  let p1:Option Blk:=mk 9 42 (c1.map AE.enc)
  let p2:Nat×AV:=(4,.v (.int .i64 c2))
  let p3:Nat×AV:=(0,.sl 9 (x0.map AE.enc))
  refine AL (s1:=⟨Fr 20 [p3,(3,hd 0 (c1.map AE.enc)),p2,(8,.v (.bool (decide (c2 < (x0.length:Int)))))],[p1]⟩) ?_ ?_
  ·refine AD (n:=20) AC 2 [p3,(3,hd 0 (c1.map AE.enc)),p2,(5,.v (.int .i64 c2)),(6,.sl 9 (x0.map AE.enc))] [p1] kr ?_
   refine AW AC 0 rfl (DW (AB rfl) rfl (CO (a:= .sl 9 (x0.map AE.enc)) kr (BS (el:=42) kr))) ?_;exact AX AC
  refine AP (b:=(decide (c2 < (x0.length:Int)))) kr (fun hb3=>?_) (fun hb3=>?_)
  ·rw [if_pos hb3] at h
   refine AT ?_;refine AG ?_;refine Aa ?_;obtain ⟨v4,hv4,h⟩:=OB h;obtain ⟨v5,hv5,h⟩:=OB h;by_cases hk6:(EC 112 (c1.length + 1))=true
   case neg=>rw [if_neg hk6] at h; cases h
   rw [if_pos hk6] at h
   let p4:Option Blk:=mk 9 42 ((c1++[v5]).map AE.enc)
   let p5:Nat×AV:=(3,hd 0 ((c1++[v5]).map AE.enc))
   refine AL (s1:=⟨Fr 20 [p3,p5,p2],[p4]⟩) ?_ ?_
   ·let p6:Nat×AV:=(11,hd 0 (c1.map AE.enc))
    refine AD (n:=20) AC 3 [p3,p2,p6,(12,.sl 9 (x0.map AE.enc)),(13,.v (.int .i64 c2))] [p1] kr ?_;refine AW AC 0 rfl (DW (AB rfl) rfl (AS (a:= .sl 9 (x0.map AE.enc)) (b:= .v (.int .i64 c2)) kr kr (DP (e:=AE.enc) (el:=42) (k:=9) (ki:= .i64) kr kr hv4))) ?_;refine AD (n:=20) AC 1 [p3,p2,p6,(15,AE.enc v4)] [p1] kr ?_;refine AN (caps:=[]) (xs:=[AE.enc v4]) (u:=(v4,())) rfl rfl Ti rfl (AB rfl) kr kr (AJ (AQ (c:=AE) (v:=v4)) Ah) (.inr kr) hv5 ?_;refine AD (n:=20) AC 1 [p3,p2,p6,(17,hd 1 ([v5].map AE.enc))] [p1,mk 9 42 ([v5].map AE.enc)] kr ?_;refine AW AC 0 rfl (UX (AB rfl) rfl kr kr (Dg (a:=hd 0 (c1.map AE.enc)) (b:=hd 1 ([v5].map AE.enc)) kr kr (LN (c:=AE) (xs:=c1) (vs:=[v5]) (k:=9) (bytes:=112) (el:=42) kr kr (GS (t:=42) kr) (List.cons_ne_nil _ _) kr hk6))) ?_;refine AD (n:=20) AC 1 [p3,(3,hd 2 ((c1++[v5]).map AE.enc)),p2] [none,mk 9 42 ([v5].map AE.enc),p4] kr ?_;exact AI rfl (Ac [2] ⟨⟨_,rfl,IL⟩,trivial⟩ ⟨lv,IM (b':=2) kr kr,lv,trivial⟩)
   let p7:Nat×AV:=(4,.v (.int .i64 (wr .i64 (c2 + 1))))
   refine DC AC [p3,p5,p7] [p4] ?_;exact Aj (s1:=⟨Fr 20 [p3,p5,p7],[p4]⟩) (Ac [0] ⟨⟨_,rfl,IL⟩,trivial⟩ ⟨lv,IM (b':=0) kr kr,lv,trivial⟩) (ih (c1++[v5]) (wr .i64 (c2 + 1)) h)
  ·rw [BV hb3] at h
   refine CA ?_;have hq:=OI h; subst hq;exact ⟨rfl,(Ac [0] ⟨⟨_,rfl,IL⟩,trivial⟩ ⟨IM (b':=0) kr kr,trivial⟩)⟩
theorem P4 (x0:(List Af)) (r:(List Af)) (h:GA x0=some r):Sem E0 ⟨none,false⟩ I0 ⟨Fr 20 (A0 0 (I6.enc (x0,()))),[]⟩ fun e s'=>(e = .normal\/e = .ret)/\∃ xs,Dz E0.P s'.fr s'.hp Tryz.f60.results.toList=some xs/\D0 xs=JC r:=by
 unfold GA at h
 let p1:Nat×AV:=(0,.sl 9 (x0.map AE.enc))
 refine Ao (BL (s1:=⟨Fr 20 [p1],[]⟩) AM ?_);refine AK AC [p1] [] ?_;refine AK AC [p1,(3,.e0)] [] ?_;refine AG ?_
 let p2:Nat×AV:=(4,.v (.int .i64 0))
 refine AK AC [p1,(3,.e0),p2] [] ?_;refine Aa ?_;obtain ⟨r8,hr8,h⟩:=OB h;refine CF (n:=100000) ?_;refine A1 (Aj (s1:=⟨Fr 20 [p1,(3,hd 0 ([].map AE.enc)),p2],[mk 9 42 ([].map AE.enc)]⟩) (Wk.trans (s1:=⟨Fr 20 [p1,(3,hd 0 ([].map AE.enc)),p2],[mk 9 42 ([].map AE.enc)]⟩) Wk.none (Ac [0] ⟨⟨_,rfl,MX⟩,trivial⟩ ⟨lv,lv,lv,trivial⟩)) (Oj x0 _ [] 0 _ hr8)) ?_;refine AK AC [(2,hd 0 (r8.map AE.enc))] [mk 9 42 (r8.map AE.enc)] ?_;refine AO ?_;have hq:=OI h; subst hq
 let p3:Nat×AV:=(2,.sl 9 (r8.map AE.enc))
 exact ⟨⟨Fr 20 [p3],[]⟩,(Wk.trans (s1:=⟨Fr 20 [p3],[none]⟩) (HH 0 (.inl kr) ⟨.inl rfl,trivial⟩ ⟨⟨hd 0 (r8.map AE.enc),kr,V4 (t:=42) kr Nz⟩,trivial⟩) (Ac [] trivial ⟨lv,trivial⟩)),.inr rfl,[.sl 9 (r8.map AE.enc)],kr,kr⟩
def Rt:List AV->Option AV:=Dm I6 (fun a=>GA a.1) JC
theorem Rz:XOk 60 Rt:=by
 refine AR Tryz.func60 (c:=I0) ?h2 ⟨Tryz.call60⟩ I6 (fun a=>GA a.1) JC (fun a=>(by show 1<=20; decide)) ?h3 ?h4
 case h2=>kernel_rfl
 case h3=>intro b; kernel_rfl
 case h4=>exact fun a b h=>P4 a.1 b h
/- trestle/court.formed -/
noncomputable def DJ:Code:=A9 Tryz.f159
def IT (x0:AH):Option ((Bool)) :=
 if (x0.1==8)=true then
 some (x0.1==8)
 else
 some (x0.1==9)
def IS (x0:AH):Option ((Bool)) :=
 if (x0.1==3)=true then
 some (x0.1==3)
 else
 (IT x0).bind fun r14 =>
 some r14
def IR (x0:AH):Option ((Bool)) :=
 if (x0.1==2)=true then
 some (x0.1==2)
 else
 (IS x0).bind fun r15 =>
 some r15
def IX (x0:AH):Option ((Bool)) :=
 if (x0.1==6)=true then
 some (x0.1==6)
 else
 some (x0.1==7)
def IY (x0:AH) (r33:Bool):Option ((Int×Int×Bool) ⊕ (Bool)) :=
 if r33=true then
 some (.inl (16,0,true))
 else
 if (x0.1==10)=true then
 some (.inl (0,63,false))
 else
 some (.inr false)
def IW (x0:AH):Option ((Int×Int×Bool) ⊕ (Bool)) :=
 if (x0.1==5)=true then
 some (.inl (0,0,true))
 else
 (IX x0).bind fun r33 =>
 (IY x0 r33).bind fun r40 =>
 match r40 with
 | (.inl w41) =>
  some (.inl (w41.1,w41.2.1,w41.2.2))
 | (.inr w42) =>
  some (.inr w42)
def IV (x0:AH):Option ((Int×Int×Int×Bool) ⊕ (Bool)) :=
 if (x0.1==4)=true then
 some (.inl (0,1,2,true))
 else
 (IW x0).bind fun r44 =>
 match r44 with
 | (.inl w45) =>
  some (.inl (w45.1,0,w45.2.1,w45.2.2))
 | (.inr w46) =>
  some (.inr w46)
def IU (x0:AH) (r16:Bool):Option ((Int×Int×Int×Bool) ⊕ (Bool)) :=
 if r16=true then
 some (.inl (0,0,0,false))
 else
 (IV x0).bind fun r48 =>
 match r48 with
 | (.inl w49) =>
  some (.inl (w49.1,w49.2.1,w49.2.2.1,w49.2.2.2))
 | (.inr w50) =>
  some (.inr w50)
def IQ (x0:AH):Option ((Int×Int×Int×Bool) ⊕ (Bool)) :=
 if (x0.1==1)=true then
 if (!(x0.2.1==[]))=true then
 some (.inr false)
 else
 some (.inl (16,0,0,false))
 else
 (IR x0).bind fun r16 =>
 (IU x0 r16).bind fun r52 =>
 match r52 with
 | (.inl w53) =>
  some (.inl (w53.1,w53.2.1,w53.2.2.1,w53.2.2.2))
 | (.inr w54) =>
  some (.inr w54)
def CV (x0:AH):Option (Bool) :=
 (IQ x0).bind fun r55 =>
 match r55 with
 | (.inl w56) =>
  (if (decide ((x0.2.2.2.1.length:Int)<=w56.1))=true then if (w56.1==0)=true then if (decide (x0.2.2.2.2≥w56.2.1))=true then if (decide (x0.2.2.2.2<=w56.2.2.1))=true then if w56.2.2.2=true then some true else some (!x0.2.2.1) else some false else some false else if (decide ((x0.2.2.2.1.length:Int) > 0))=true then if (decide (x0.2.2.2.2≥w56.2.1))=true then if (decide (x0.2.2.2.2<=w56.2.2.1))=true then if w56.2.2.2=true then some true else some (!x0.2.2.1) else some false else some false else some false else some false).bind fun j58 =>
  some j58
 | (.inr w68) =>
  some w68
def Kq:Cs (AH×Unit):=(csC AA csN)
def K0 (r:Bool):AV:=cdB.enc r
theorem Pp (x0:AH) (r:(Bool)) (h:IT x0=some r):Sem E0 ⟨none,false⟩ (pc DJ [1,1,0,1,0,1,1,0,1,1,1,1,1]) ⟨Fr 63 [(1,.pt 0 0 0),(3,.v (.int .i64 0)),(4,.v (.int .i64 0)),(5,.v (.int .i64 0)),(6,.v (.bool false)),(8,.v (.int .u8 x0.1)),(14,.v (.bool (x0.1==8)))],[some ⟨5,60,[AA.enc x0],false⟩]⟩ (fun e s=>e = .normal/\Wk E0 s ⟨Fr 63 [(1,.pt 0 0 0),(3,.v (.int .i64 0)),(4,.v (.int .i64 0)),(5,.v (.int .i64 0)),(6,.v (.bool false)),(8,.v (.int .u8 x0.1)),(14,.v (.bool r))],[some ⟨5,60,[AA.enc x0],false⟩]⟩):=by
 unfold IT at h;refine AP (b:=(x0.1==8)) kr (fun hb12=>?_) (fun hb12=>?_)
 ·rw [if_pos hb12] at h
  refine AT ?_;have hq:=OI h; subst hq;exact ⟨rfl,(Ac [0] ⟨⟨_,rfl,GO⟩,trivial⟩ ⟨lv,lv,lv,lv,lv,lv,lv,trivial⟩)⟩
 ·rw [BV hb12] at h
  refine DC AC [(1,.pt 0 0 0),(3,.v (.int .i64 0)),(4,.v (.int .i64 0)),(5,.v (.int .i64 0)),(6,.v (.bool false)),(8,.v (.int .u8 x0.1)),(14,.v (.bool (x0.1==9)))] [some ⟨5,60,[AA.enc x0],false⟩] ?_;have hq:=OI h; subst hq;exact ⟨rfl,(Ac [0] ⟨⟨_,rfl,GO⟩,trivial⟩ ⟨lv,lv,lv,lv,lv,lv,lv,trivial⟩)⟩
theorem Po (x0:AH) (r:(Bool)) (h:IS x0=some r):Sem E0 ⟨none,false⟩ (pc DJ [1,1,0,1,0,1,1,0,1,1,1]) ⟨Fr 63 [(1,.pt 0 0 0),(3,.v (.int .i64 0)),(4,.v (.int .i64 0)),(5,.v (.int .i64 0)),(6,.v (.bool false)),(8,.v (.int .u8 x0.1)),(14,.v (.bool (x0.1==3)))],[some ⟨5,60,[AA.enc x0],false⟩]⟩ (fun e s=>e = .normal/\Wk E0 s ⟨Fr 63 [(1,.pt 0 0 0),(3,.v (.int .i64 0)),(4,.v (.int .i64 0)),(5,.v (.int .i64 0)),(6,.v (.bool false)),(8,.v (.int .u8 x0.1)),(14,.v (.bool r))],[some ⟨5,60,[AA.enc x0],false⟩]⟩):=by
 unfold IS at h;refine AP (b:=(x0.1==3)) kr (fun hb10=>?_) (fun hb10=>?_)
 ·rw [if_pos hb10] at h
  refine AT ?_;have hq:=OI h; subst hq;exact ⟨rfl,(Ac [0] ⟨⟨_,rfl,GO⟩,trivial⟩ ⟨lv,lv,lv,lv,lv,lv,lv,trivial⟩)⟩
 ·rw [BV hb10] at h
  refine AK AC [(1,.pt 0 0 0),(3,.v (.int .i64 0)),(4,.v (.int .i64 0)),(5,.v (.int .i64 0)),(6,.v (.bool false)),(8,.v (.int .u8 x0.1)),(14,.v (.bool (x0.1==8)))] [some ⟨5,60,[AA.enc x0],false⟩] ?_;obtain ⟨r14,hr14,h⟩:=OB h;refine Fo (Pp x0 _ hr14) ?_;have hq:=OI h; subst hq;exact ⟨rfl,(Ac [0] ⟨⟨_,rfl,GO⟩,trivial⟩ ⟨lv,lv,lv,lv,lv,lv,lv,trivial⟩)⟩
theorem Pn (x0:AH) (r:(Bool)) (h:IR x0=some r):Sem E0 ⟨none,false⟩ (pc DJ [1,1,0,1,0,1,1,0,1]) ⟨Fr 63 [(1,.pt 0 0 0),(3,.v (.int .i64 0)),(4,.v (.int .i64 0)),(5,.v (.int .i64 0)),(6,.v (.bool false)),(8,.v (.int .u8 x0.1)),(14,.v (.bool (x0.1==2)))],[some ⟨5,60,[AA.enc x0],false⟩]⟩ (fun e s=>e = .normal/\Wk E0 s ⟨Fr 63 [(1,.pt 0 0 0),(3,.v (.int .i64 0)),(4,.v (.int .i64 0)),(5,.v (.int .i64 0)),(6,.v (.bool false)),(8,.v (.int .u8 x0.1)),(14,.v (.bool r))],[some ⟨5,60,[AA.enc x0],false⟩]⟩):=by
 unfold IR at h;refine AP (b:=(x0.1==2)) kr (fun hb8=>?_) (fun hb8=>?_)
 ·rw [if_pos hb8] at h
  refine AT ?_;have hq:=OI h; subst hq;exact ⟨rfl,(Ac [0] ⟨⟨_,rfl,GO⟩,trivial⟩ ⟨lv,lv,lv,lv,lv,lv,lv,trivial⟩)⟩
 ·rw [BV hb8] at h
  refine AK AC [(1,.pt 0 0 0),(3,.v (.int .i64 0)),(4,.v (.int .i64 0)),(5,.v (.int .i64 0)),(6,.v (.bool false)),(8,.v (.int .u8 x0.1)),(14,.v (.bool (x0.1==3)))] [some ⟨5,60,[AA.enc x0],false⟩] ?_;obtain ⟨r15,hr15,h⟩:=OB h;refine Fo (Po x0 _ hr15) ?_;have hq:=OI h; subst hq;exact ⟨rfl,(Ac [0] ⟨⟨_,rfl,GO⟩,trivial⟩ ⟨lv,lv,lv,lv,lv,lv,lv,trivial⟩)⟩
theorem Pq (x0:AH) (r:(Bool)) (h:IX x0=some r):Sem E0 ⟨none,false⟩ (pc DJ [1,1,0,1,0,1,1,1,1,1,1,1,1,0,1]) ⟨Fr 63 [(1,.pt 0 0 0),(3,.v (.int .i64 0)),(4,.v (.int .i64 0)),(5,.v (.int .i64 0)),(6,.v (.bool false)),(8,.v (.int .u8 x0.1)),(23,.v (.bool (x0.1==6)))],[some ⟨5,60,[AA.enc x0],false⟩]⟩ (fun e s=>e = .normal/\Wk E0 s ⟨Fr 63 [(1,.pt 0 0 0),(3,.v (.int .i64 0)),(4,.v (.int .i64 0)),(5,.v (.int .i64 0)),(6,.v (.bool false)),(8,.v (.int .u8 x0.1)),(23,.v (.bool r))],[some ⟨5,60,[AA.enc x0],false⟩]⟩):=by
 unfold IX at h;refine AP (b:=(x0.1==6)) kr (fun hb31=>?_) (fun hb31=>?_)
 ·rw [if_pos hb31] at h
  refine AT ?_;have hq:=OI h; subst hq;exact ⟨rfl,(Ac [0] ⟨⟨_,rfl,GO⟩,trivial⟩ ⟨lv,lv,lv,lv,lv,lv,lv,trivial⟩)⟩
 ·rw [BV hb31] at h
  refine DC AC [(1,.pt 0 0 0),(3,.v (.int .i64 0)),(4,.v (.int .i64 0)),(5,.v (.int .i64 0)),(6,.v (.bool false)),(8,.v (.int .u8 x0.1)),(23,.v (.bool (x0.1==7)))] [some ⟨5,60,[AA.enc x0],false⟩] ?_;have hq:=OI h; subst hq;exact ⟨rfl,(Ac [0] ⟨⟨_,rfl,GO⟩,trivial⟩ ⟨lv,lv,lv,lv,lv,lv,lv,trivial⟩)⟩
theorem LX (x0:AH) (r33:Bool) (r:(Int×Int×Bool) ⊕ (Bool)) (h:IY x0 r33=some r):Sem E0 ⟨none,false⟩ (pc DJ [1,1,0,1,0,1,1,1,1,1,1,1,1,1]) ⟨Fr 63 [(1,.pt 0 0 0),(3,.v (.int .i64 0)),(4,.v (.int .i64 0)),(5,.v (.int .i64 0)),(6,.v (.bool false)),(8,.v (.int .u8 x0.1)),(23,.v (.bool r33))],[some ⟨5,60,[AA.enc x0],false⟩]⟩ (fun e s=>match r with
 | (.inl w)=>e = .normal/\Wk E0 s ⟨Fr 63 [(1,.pt 0 0 0),(3,.v (.int .i64 w.1)),(4,.v (.int .i64 0)),(5,.v (.int .i64 w.2.1)),(6,.v (.bool w.2.2))],[some ⟨5,60,[AA.enc x0],false⟩]⟩
 | (.inr w)=>e = .ret/\Wk E0 s ⟨Fr 63 [(2,.v (.bool w))],[]⟩):=by
 unfold IY at h;refine AP (b:=r33) kr (fun hb34=>?_) (fun hb34=>?_)
 ·rw [if_pos hb34] at h
  refine DC AC [(1,.pt 0 0 0),(3,.v (.int .i64 16)),(4,.v (.int .i64 0)),(5,.v (.int .i64 0)),(6,.v (.bool true))] [some ⟨5,60,[AA.enc x0],false⟩] ?_;have hq:=OI h; subst hq;exact ⟨rfl,(Ac [0] ⟨⟨_,rfl,GO⟩,trivial⟩ ⟨lv,lv,lv,lv,lv,trivial⟩)⟩
 ·rw [BV hb34] at h
  let p1:Option Blk:=some ⟨5,60,[AA.enc x0],false⟩
  refine AK AC [(1,.pt 0 0 0),(3,.v (.int .i64 0)),(4,.v (.int .i64 0)),(6,.v (.bool false)),(26,.v (.bool (x0.1==10)))] [p1] ?_;refine AP (b:=(x0.1==10)) kr (fun hb38=>?_) (fun hb38=>?_)
  ·rw [if_pos hb38] at h
   refine DC AC [(1,.pt 0 0 0),(3,.v (.int .i64 0)),(4,.v (.int .i64 0)),(5,.v (.int .i64 63)),(6,.v (.bool false))] [p1] ?_;have hq:=OI h; subst hq;exact ⟨rfl,(Ac [0] ⟨⟨_,rfl,GO⟩,trivial⟩ ⟨lv,lv,lv,lv,lv,trivial⟩)⟩
  ·rw [BV hb38] at h
   refine AG ?_;refine AL (s1:=⟨Fr 63 [(2,.v (.bool false))],[]⟩) ?_ ?_
   ·refine AD (n:=63) AC 1 [(2,.v (.bool false))] [p1] kr ?_
    exact AI rfl (Ac [] trivial ⟨lv,trivial⟩)
   refine AO ?_;have hq:=OI h; subst hq;exact ⟨rfl,AM⟩
theorem LW (x0:AH) (r:(Int×Int×Bool) ⊕ (Bool)) (h:IW x0=some r):Sem E0 ⟨none,false⟩ (pc DJ [1,1,0,1,0,1,1,1,1,1,1,1]) ⟨Fr 63 [(1,.pt 0 0 0),(3,.v (.int .i64 0)),(4,.v (.int .i64 0)),(5,.v (.int .i64 0)),(6,.v (.bool false)),(8,.v (.int .u8 x0.1)),(21,.v (.bool (x0.1==5)))],[some ⟨5,60,[AA.enc x0],false⟩]⟩ (fun e s=>match r with
 | (.inl w)=>e = .normal/\Wk E0 s ⟨Fr 63 [(1,.pt 0 0 0),(3,.v (.int .i64 w.1)),(4,.v (.int .i64 0)),(5,.v (.int .i64 w.2.1)),(6,.v (.bool w.2.2))],[some ⟨5,60,[AA.enc x0],false⟩]⟩
 | (.inr w)=>e = .ret/\Wk E0 s ⟨Fr 63 [(2,.v (.bool w))],[]⟩):=by
 unfold IW at h;refine AP (b:=(x0.1==5)) kr (fun hb27=>?_) (fun hb27=>?_)
 ·rw [if_pos hb27] at h
  refine DC AC [(1,.pt 0 0 0),(3,.v (.int .i64 0)),(4,.v (.int .i64 0)),(5,.v (.int .i64 0)),(6,.v (.bool true))] [some ⟨5,60,[AA.enc x0],false⟩] ?_;have hq:=OI h; subst hq;exact ⟨rfl,(Ac [0] ⟨⟨_,rfl,GO⟩,trivial⟩ ⟨lv,lv,lv,lv,lv,trivial⟩)⟩
 ·rw [BV hb27] at h
  refine AG ?_;refine AK AC [(1,.pt 0 0 0),(3,.v (.int .i64 0)),(4,.v (.int .i64 0)),(5,.v (.int .i64 0)),(6,.v (.bool false)),(8,.v (.int .u8 x0.1)),(23,.v (.bool (x0.1==6)))] [some ⟨5,60,[AA.enc x0],false⟩] ?_;obtain ⟨r33,hr33,h⟩:=OB h;refine Fo (Pq x0 _ hr33) ?_;obtain ⟨r40,hr40,h⟩:=OB h;rcases r40 with w41 | w42
  ·try dsimp only at h
   refine Fo (LX x0 r33 _ hr40) ?_;have hq:=OI h; subst hq;exact ⟨rfl,(Ac [0] ⟨⟨_,rfl,GO⟩,trivial⟩ ⟨lv,lv,lv,lv,lv,trivial⟩)⟩
  ·try dsimp only at h
   refine Fo (LX x0 r33 _ hr40) ?_;have hq:=OI h; subst hq;exact ⟨rfl,AM⟩
theorem LV (x0:AH) (r:(Int×Int×Int×Bool) ⊕ (Bool)) (h:IV x0=some r):Sem E0 ⟨none,false⟩ (pc DJ [1,1,0,1,0,1,1,1,1,1]) ⟨Fr 63 [(1,.pt 0 0 0),(3,.v (.int .i64 0)),(4,.v (.int .i64 0)),(5,.v (.int .i64 0)),(6,.v (.bool false)),(8,.v (.int .u8 x0.1)),(19,.v (.bool (x0.1==4)))],[some ⟨5,60,[AA.enc x0],false⟩]⟩ (fun e s=>match r with
 | (.inl w)=>e = .normal/\Wk E0 s ⟨Fr 63 [(1,.pt 0 0 0),(3,.v (.int .i64 w.1)),(4,.v (.int .i64 w.2.1)),(5,.v (.int .i64 w.2.2.1)),(6,.v (.bool w.2.2.2))],[some ⟨5,60,[AA.enc x0],false⟩]⟩
 | (.inr w)=>e = .ret/\Wk E0 s ⟨Fr 63 [(2,.v (.bool w))],[]⟩):=by
 unfold IV at h;refine AP (b:=(x0.1==4)) kr (fun hb22=>?_) (fun hb22=>?_)
 ·rw [if_pos hb22] at h
  refine DC AC [(1,.pt 0 0 0),(3,.v (.int .i64 0)),(4,.v (.int .i64 1)),(5,.v (.int .i64 2)),(6,.v (.bool true))] [some ⟨5,60,[AA.enc x0],false⟩] ?_;have hq:=OI h; subst hq;exact ⟨rfl,(Ac [0] ⟨⟨_,rfl,GO⟩,trivial⟩ ⟨lv,lv,lv,lv,lv,trivial⟩)⟩
 ·rw [BV hb22] at h
  refine AK AC [(1,.pt 0 0 0),(3,.v (.int .i64 0)),(4,.v (.int .i64 0)),(5,.v (.int .i64 0)),(6,.v (.bool false)),(8,.v (.int .u8 x0.1)),(21,.v (.bool (x0.1==5)))] [some ⟨5,60,[AA.enc x0],false⟩] ?_;obtain ⟨r44,hr44,h⟩:=OB h;rcases r44 with w45 | w46
  ·try dsimp only at h
   refine Fo (LW x0 _ hr44) ?_;have hq:=OI h; subst hq;exact ⟨rfl,(Ac [0] ⟨⟨_,rfl,GO⟩,trivial⟩ ⟨lv,lv,lv,lv,lv,trivial⟩)⟩
  ·try dsimp only at h
   refine Fo (LW x0 _ hr44) ?_;have hq:=OI h; subst hq;exact ⟨rfl,AM⟩
theorem LU (x0:AH) (r16:Bool) (r:(Int×Int×Int×Bool) ⊕ (Bool)) (h:IU x0 r16=some r):Sem E0 ⟨none,false⟩ (pc DJ [1,1,0,1,0,1,1,1]) ⟨Fr 63 [(1,.pt 0 0 0),(3,.v (.int .i64 0)),(4,.v (.int .i64 0)),(5,.v (.int .i64 0)),(6,.v (.bool false)),(8,.v (.int .u8 x0.1)),(14,.v (.bool r16))],[some ⟨5,60,[AA.enc x0],false⟩]⟩ (fun e s=>match r with
 | (.inl w)=>e = .normal/\Wk E0 s ⟨Fr 63 [(1,.pt 0 0 0),(3,.v (.int .i64 w.1)),(4,.v (.int .i64 w.2.1)),(5,.v (.int .i64 w.2.2.1)),(6,.v (.bool w.2.2.2))],[some ⟨5,60,[AA.enc x0],false⟩]⟩
 | (.inr w)=>e = .ret/\Wk E0 s ⟨Fr 63 [(2,.v (.bool w))],[]⟩):=by
 unfold IU at h;refine AP (b:=r16) kr (fun hb17=>?_) (fun hb17=>?_)
 ·rw [if_pos hb17] at h
  refine AT ?_;have hq:=OI h; subst hq;exact ⟨rfl,(Ac [0] ⟨⟨_,rfl,GO⟩,trivial⟩ ⟨lv,lv,lv,lv,lv,trivial⟩)⟩
 ·rw [BV hb17] at h
  refine AK AC [(1,.pt 0 0 0),(3,.v (.int .i64 0)),(4,.v (.int .i64 0)),(5,.v (.int .i64 0)),(6,.v (.bool false)),(8,.v (.int .u8 x0.1)),(19,.v (.bool (x0.1==4)))] [some ⟨5,60,[AA.enc x0],false⟩] ?_;obtain ⟨r48,hr48,h⟩:=OB h;rcases r48 with w49 | w50
  ·try dsimp only at h
   refine Fo (LV x0 _ hr48) ?_;have hq:=OI h; subst hq;exact ⟨rfl,(Ac [0] ⟨⟨_,rfl,GO⟩,trivial⟩ ⟨lv,lv,lv,lv,lv,trivial⟩)⟩
  ·try dsimp only at h
   refine Fo (LV x0 _ hr48) ?_;have hq:=OI h; subst hq;exact ⟨rfl,AM⟩
theorem LT (x0:AH) (r:(Int×Int×Int×Bool) ⊕ (Bool)) (h:IQ x0=some r):Sem E0 ⟨none,false⟩ (pc DJ [1,1,0,1,0,1]) ⟨Fr 63 [(1,.pt 0 0 0),(3,.v (.int .i64 0)),(4,.v (.int .i64 0)),(5,.v (.int .i64 0)),(6,.v (.bool false)),(8,.v (.int .u8 x0.1)),(9,.v (.bool (x0.1==1)))],[some ⟨5,60,[AA.enc x0],false⟩]⟩ (fun e s=>match r with
 | (.inl w)=>e = .normal/\Wk E0 s ⟨Fr 63 [(1,.pt 0 0 0),(3,.v (.int .i64 w.1)),(4,.v (.int .i64 w.2.1)),(5,.v (.int .i64 w.2.2.1)),(6,.v (.bool w.2.2.2))],[some ⟨5,60,[AA.enc x0],false⟩]⟩
 | (.inr w)=>e = .ret/\Wk E0 s ⟨Fr 63 [(2,.v (.bool w))],[]⟩):=by
 unfold IQ at h;refine AP (b:=(x0.1==1)) kr (fun hb1=>?_) (fun hb1=>?_)
 ·rw [if_pos hb1] at h
  refine AG ?_
  let p1:Option Blk:=some ⟨5,60,[AA.enc x0],false⟩
  refine AK AC [(1,.pt 0 0 0),(4,.v (.int .i64 0)),(5,.v (.int .i64 0)),(6,.v (.bool false)),(13,.v (.bool (!(x0.2.1==[]))))] [p1] ?_;refine AP (b:=(!(x0.2.1==[]))) kr (fun hb2=>?_) (fun hb2=>?_)
  ·rw [if_pos hb2] at h
   refine AG ?_;refine AL (s1:=⟨Fr 63 [(2,.v (.bool false))],[]⟩) ?_ ?_
   ·refine AD (n:=63) AC 1 [(2,.v (.bool false))] [p1] kr ?_
    exact AI rfl (Ac [] trivial ⟨lv,trivial⟩)
   refine AO ?_;have hq:=OI h; subst hq;exact ⟨rfl,AM⟩
  ·rw [BV hb2] at h
   refine AT ?_;refine DC AC [(1,.pt 0 0 0),(3,.v (.int .i64 16)),(4,.v (.int .i64 0)),(5,.v (.int .i64 0)),(6,.v (.bool false))] [p1] ?_;have hq:=OI h; subst hq;exact ⟨rfl,(Ac [0] ⟨⟨_,rfl,GO⟩,trivial⟩ ⟨lv,lv,lv,lv,lv,trivial⟩)⟩
 ·rw [BV hb1] at h
  refine AG ?_;refine AK AC [(1,.pt 0 0 0),(3,.v (.int .i64 0)),(4,.v (.int .i64 0)),(5,.v (.int .i64 0)),(6,.v (.bool false)),(8,.v (.int .u8 x0.1)),(14,.v (.bool (x0.1==2)))] [some ⟨5,60,[AA.enc x0],false⟩] ?_;obtain ⟨r16,hr16,h⟩:=OB h;refine Fo (Pn x0 _ hr16) ?_;obtain ⟨r52,hr52,h⟩:=OB h;rcases r52 with w53 | w54
  ·try dsimp only at h
   refine Fo (LU x0 r16 _ hr52) ?_;have hq:=OI h; subst hq;exact ⟨rfl,(Ac [0] ⟨⟨_,rfl,GO⟩,trivial⟩ ⟨lv,lv,lv,lv,lv,trivial⟩)⟩
  ·try dsimp only at h
   refine Fo (LU x0 r16 _ hr52) ?_;have hq:=OI h; subst hq;exact ⟨rfl,AM⟩
theorem RX (x0:AH) (r:Bool) (h:CV x0=some r):Sem E0 ⟨none,false⟩ DJ ⟨Fr 63 (A0 0 (Kq.enc (x0,()))),[]⟩ fun e s'=>(e = .normal\/e = .ret)/\∃ xs,Dz E0.P s'.fr s'.hp Tryz.f159.results.toList=some xs/\D0 xs=K0 r:=by
 unfold CV at h;refine Ao (BL (s1:=⟨Fr 63 [(0,AA.enc x0)],[]⟩) AM ?_);refine AK AC [(1,.pt 0 0 0)] [some ⟨5,60,[AA.enc x0],false⟩] ?_;refine AK AC [(1,.pt 0 0 0),(3,.v (.int .i64 0)),(4,.v (.int .i64 0)),(5,.v (.int .i64 0)),(6,.v (.bool false))] [some ⟨5,60,[AA.enc x0],false⟩] ?_;refine AG ?_;refine AK AC [(1,.pt 0 0 0),(3,.v (.int .i64 0)),(4,.v (.int .i64 0)),(5,.v (.int .i64 0)),(6,.v (.bool false)),(8,.v (.int .u8 x0.1))] [some ⟨5,60,[AA.enc x0],false⟩] ?_;refine Aa ?_;refine AK AC [(1,.pt 0 0 0),(3,.v (.int .i64 0)),(4,.v (.int .i64 0)),(5,.v (.int .i64 0)),(6,.v (.bool false)),(8,.v (.int .u8 x0.1)),(9,.v (.bool (x0.1==1)))] [some ⟨5,60,[AA.enc x0],false⟩] ?_;obtain ⟨r55,hr55,h⟩:=OB h;rcases r55 with w56 | w68
 ·try dsimp only at h
  refine Fo (LT x0 _ hr55) ?_;refine AG ?_;obtain ⟨j58,hj58,h⟩:=OB h;refine AL (s1:=⟨Fr 63 [(2,.v (.bool j58))],[]⟩) ?_ ?_
  ·refine AD (n:=63) AC 2 [(1,.pt 0 0 0),(3,.v (.int .i64 w56.1)),(4,.v (.int .i64 w56.2.1)),(5,.v (.int .i64 w56.2.2.1)),(6,.v (.bool w56.2.2.2)),(29,.sl 1 (x0.2.2.2.1.map cdS.enc))] [some ⟨5,60,[AA.enc x0],false⟩] kr ?_
   refine AW AC 0 rfl (DW (AB rfl) rfl (CO (a:= .sl 1 (x0.2.2.2.1.map cdS.enc)) kr (BS (el:=9) kr))) ?_;refine AD (n:=63) AC 3 [(1,.pt 0 0 0),(3,.v (.int .i64 w56.1)),(4,.v (.int .i64 w56.2.1)),(5,.v (.int .i64 w56.2.2.1)),(6,.v (.bool w56.2.2.2)),(33,.v (.bool (decide ((x0.2.2.2.1.length:Int)<=w56.1))))] [some ⟨5,60,[AA.enc x0],false⟩] kr ?_;rcases BE (decide ((x0.2.2.2.1.length:Int)<=w56.1)) with hc59 | hc59
   ·rw [if_pos hc59] at hj58
    rw [hc59];refine AD (n:=63) AC 3 [(1,.pt 0 0 0),(4,.v (.int .i64 w56.2.1)),(5,.v (.int .i64 w56.2.2.1)),(6,.v (.bool w56.2.2.2)),(33,.v (.bool true)),(36,.v (.bool (w56.1==0)))] [some ⟨5,60,[AA.enc x0],false⟩] kr ?_;rcases BE (w56.1==0) with hc60 | hc60
    ·rw [if_pos hc60] at hj58
     rw [hc60];refine AD (n:=63) AC 13 [(1,.pt 0 0 0),(5,.v (.int .i64 w56.2.2.1)),(6,.v (.bool w56.2.2.2)),(49,.v (.bool (decide (x0.2.2.2.2≥w56.2.1))))] [some ⟨5,60,[AA.enc x0],false⟩] kr ?_;rcases BE (decide (x0.2.2.2.2≥w56.2.1)) with hc61 | hc61
     ·rw [if_pos hc61] at hj58
      rw [hc61];refine AD (n:=63) AC 6 [(1,.pt 0 0 0),(6,.v (.bool w56.2.2.2)),(55,.v (.bool (decide (x0.2.2.2.2<=w56.2.2.1))))] [some ⟨5,60,[AA.enc x0],false⟩] kr ?_;rcases BE (decide (x0.2.2.2.2<=w56.2.2.1)) with hc62 | hc62
      ·rw [if_pos hc62] at hj58
       rw [hc62];refine AD (n:=63) AC 2 [(1,.pt 0 0 0),(55,.v (.bool true)),(57,.v (.bool w56.2.2.2))] [some ⟨5,60,[AA.enc x0],false⟩] kr ?_;rcases BE w56.2.2.2 with hc63 | hc63
       ·rw [if_pos hc63] at hj58
        rw [hc63];refine AD (n:=63) AC 6 [(2,.v (.bool true))] [some ⟨5,60,[AA.enc x0],false⟩] kr ?_;have hq:=OI hj58; subst hq;exact AI rfl (Ac [] trivial ⟨lv,trivial⟩)
       ·rw [BV hc63] at hj58
        rw [hc63];refine AD (n:=63) AC 6 [(2,.v (.bool (!x0.2.2.1)))] [some ⟨5,60,[AA.enc x0],false⟩] kr ?_;have hq:=OI hj58; subst hq;exact AI rfl (Ac [] trivial ⟨lv,trivial⟩)
      ·rw [BV hc62] at hj58
       rw [hc62];refine AD (n:=63) AC 8 [(2,.v (.bool false))] [some ⟨5,60,[AA.enc x0],false⟩] kr ?_;have hq:=OI hj58; subst hq;exact AI rfl (Ac [] trivial ⟨lv,trivial⟩)
     ·rw [BV hc61] at hj58
      rw [hc61];refine AD (n:=63) AC 14 [(2,.v (.bool false))] [some ⟨5,60,[AA.enc x0],false⟩] kr ?_;have hq:=OI hj58; subst hq;exact AI rfl (Ac [] trivial ⟨lv,trivial⟩)
    ·rw [BV hc60] at hj58
     rw [hc60];refine AD (n:=63) AC 2 [(1,.pt 0 0 0),(4,.v (.int .i64 w56.2.1)),(5,.v (.int .i64 w56.2.2.1)),(6,.v (.bool w56.2.2.2)),(33,.v (.bool true)),(36,.v (.bool false)),(38,.sl 1 (x0.2.2.2.1.map cdS.enc))] [some ⟨5,60,[AA.enc x0],false⟩] kr ?_;refine AW AC 0 rfl (DW kr rfl (CO (a:= .sl 1 (x0.2.2.2.1.map cdS.enc)) kr (BS (el:=9) kr))) ?_;refine AD (n:=63) AC 4 [(1,.pt 0 0 0),(4,.v (.int .i64 w56.2.1)),(5,.v (.int .i64 w56.2.2.1)),(6,.v (.bool w56.2.2.2)),(43,.v (.bool (decide ((x0.2.2.2.1.length:Int) > 0))))] [some ⟨5,60,[AA.enc x0],false⟩] kr ?_;rcases BE (decide ((x0.2.2.2.1.length:Int) > 0)) with hc64 | hc64
     ·rw [if_pos hc64] at hj58
      rw [hc64];refine AD (n:=63) AC 6 [(1,.pt 0 0 0),(5,.v (.int .i64 w56.2.2.1)),(6,.v (.bool w56.2.2.2)),(49,.v (.bool (decide (x0.2.2.2.2≥w56.2.1))))] [some ⟨5,60,[AA.enc x0],false⟩] kr ?_;rcases BE (decide (x0.2.2.2.2≥w56.2.1)) with hc65 | hc65
      ·rw [if_pos hc65] at hj58
       rw [hc65];refine AD (n:=63) AC 6 [(1,.pt 0 0 0),(6,.v (.bool w56.2.2.2)),(55,.v (.bool (decide (x0.2.2.2.2<=w56.2.2.1))))] [some ⟨5,60,[AA.enc x0],false⟩] kr ?_;rcases BE (decide (x0.2.2.2.2<=w56.2.2.1)) with hc66 | hc66
       ·rw [if_pos hc66] at hj58
        rw [hc66];refine AD (n:=63) AC 2 [(1,.pt 0 0 0),(55,.v (.bool true)),(57,.v (.bool w56.2.2.2))] [some ⟨5,60,[AA.enc x0],false⟩] kr ?_;rcases BE w56.2.2.2 with hc67 | hc67
        ·rw [if_pos hc67] at hj58
         rw [hc67];refine AD (n:=63) AC 6 [(2,.v (.bool true))] [some ⟨5,60,[AA.enc x0],false⟩] kr ?_;have hq:=OI hj58; subst hq;exact AI rfl (Ac [] trivial ⟨lv,trivial⟩)
        ·rw [BV hc67] at hj58
         rw [hc67];refine AD (n:=63) AC 6 [(2,.v (.bool (!x0.2.2.1)))] [some ⟨5,60,[AA.enc x0],false⟩] kr ?_;have hq:=OI hj58; subst hq;exact AI rfl (Ac [] trivial ⟨lv,trivial⟩)
       ·rw [BV hc66] at hj58
        rw [hc66];refine AD (n:=63) AC 8 [(2,.v (.bool false))] [some ⟨5,60,[AA.enc x0],false⟩] kr ?_;have hq:=OI hj58; subst hq;exact AI rfl (Ac [] trivial ⟨lv,trivial⟩)
      ·rw [BV hc65] at hj58
       rw [hc65];refine AD (n:=63) AC 14 [(2,.v (.bool false))] [some ⟨5,60,[AA.enc x0],false⟩] kr ?_;have hq:=OI hj58; subst hq;exact AI rfl (Ac [] trivial ⟨lv,trivial⟩)
     ·rw [BV hc64] at hj58
      rw [hc64];refine AD (n:=63) AC 20 [(2,.v (.bool false))] [some ⟨5,60,[AA.enc x0],false⟩] kr ?_;have hq:=OI hj58; subst hq;exact AI rfl (Ac [] trivial ⟨lv,trivial⟩)
   ·rw [BV hc59] at hj58
    rw [hc59];refine AD (n:=63) AC 30 [(2,.v (.bool false))] [some ⟨5,60,[AA.enc x0],false⟩] kr ?_;have hq:=OI hj58; subst hq;exact AI rfl (Ac [] trivial ⟨lv,trivial⟩)
  refine AO ?_;have hq:=OI h; subst hq;exact ⟨⟨Fr 63 [(2,.v (.bool j58))],[]⟩,AM,.inr rfl,[.v (.bool j58)],kr,kr⟩
 ·try dsimp only at h
  refine Fo (LT x0 _ hr55) ?_;have hq:=OI h; subst hq;exact ⟨⟨Fr 63 [(2,.v (.bool w68))],[]⟩,AM,.inr rfl,[.v (.bool w68)],kr,kr⟩
def T5:List AV->Option AV:=Dm Kq (fun a=>CV a.1) K0
theorem UI:XOk 159 T5:=by
 refine AR Tryz.func159 (c:=DJ) ?h2 ⟨Tryz.call159⟩ Kq (fun a=>CV a.1) K0 (fun a=>(by show 1<=63; decide)) ?h3 ?h4
 case h2=>kernel_rfl
 case h3=>intro b; kernel_rfl
 case h4=>exact fun a b h=>RX a.1 b h
/- trestle/court.name -/
noncomputable def Ma:Code:=A9 Tryz.f96
def F0 (x0:(List UInt8)):Nat->Int->Option ((Unit) ⊕ (Bool))
 | 0,_=>none
 | f + 1,c1 =>
  if (decide (c1 < (x0.length:Int)))=true then
  (idx x0 c1).bind fun v3 =>
  (if (decide ((v3.toNat:Int) < 97))=true then some true else (idx x0 c1).bind fun v4 =>
  some (decide ((v4.toNat:Int) > 122))).bind fun j6 =>
  if j6=true then
  some (.inr false)
  else
  F0 x0 f (wr .i64 (c1 + 1))
  else
  some (.inl ())
def IE (x0:(List UInt8)):Option (Bool) :=
 (F0 x0 100000 0).bind fun r10 =>
 match r10 with
 | (.inl _w11) =>
  (if (decide ((x0.length:Int)≥1))=true then some (decide ((x0.length:Int)<=12)) else some false).bind fun j13 =>
  some j13
 | (.inr w15) =>
  some w15
def Mg:Cs ((List UInt8)×Unit):=(csC cdS csN)
def Mr (r:Bool):AV:=cdB.enc r
theorem NT (x0:(List UInt8)):∀ (f:Nat) (c1:Int) (r:(Unit) ⊕ (Bool)),F0 x0 f c1=some r->SemN E0 ⟨none,false⟩ (pc Ma [1,0,1,0,0]) f ⟨Fr 28 [(0,.st x0),(3,.v (.int .i64 c1))],[]⟩ (fun e s=>match r with
 | (.inl _w)=>e=(.exit 0)/\Wk E0 s ⟨Fr 28 [(0,.st x0)],[]⟩
 | (.inr w)=>e = .ret/\Wk E0 s ⟨Fr 28 [(2,.v (.bool w))],[]⟩):=by
 intro f;induction f with
 | zero=>intro c1 r h; cases h
 | succ f ih0 =>
  intro c1 r h
  have ih:=fun (c1:Int)=>ih0 c1 r
  unfold F0 at h;refine Bc ?_;refine AG ?_;refine AK AC [(0,.st x0),(3,.v (.int .i64 c1)),(7,.v (.bool (decide (c1 < (x0.length:Int)))))] [] ?_;refine AP (b:=(decide (c1 < (x0.length:Int)))) kr (fun hb2=>?_) (fun hb2=>?_)
  ·rw [if_pos hb2] at h
   refine AT ?_;refine AG ?_;refine Aa ?_;refine AG ?_;obtain ⟨v3,hv3,h⟩:=OB h;obtain ⟨j6,hj6,h⟩:=OB h;refine AL (s1:=⟨Fr 28 [(0,.st x0),(3,.v (.int .i64 c1)),(19,.v (.bool j6))],[]⟩) ?_ ?_
   ·refine AD (n:=28) AC 2 [(0,.st x0),(3,.v (.int .i64 c1)),(10,.st x0),(11,.v (.int .i64 c1))] [] kr ?_
    refine AW AC 0 rfl (DW (AB rfl) rfl (VA (a:= .st x0) (b:= .v (.int .i64 c1)) kr kr (SF (bs:=x0) (ki:= .i64) kr hv3))) ?_;refine AD (n:=28) AC 2 [(0,.st x0),(3,.v (.int .i64 c1)),(14,.v (.bool (decide ((v3.toNat:Int) < 97))))] [] kr ?_;rcases BE (decide ((v3.toNat:Int) < 97)) with hc9 | hc9
    ·rw [if_pos hc9] at hj6
     rw [hc9];refine AD (n:=28) AC 5 [(0,.st x0),(3,.v (.int .i64 c1)),(15,.tp []),(16,.tp []),(17,.tp []),(18,.tp []),(19,.v (.bool true))] [] kr ?_;have hq:=OI hj6; subst hq;exact AI rfl AM
    ·rw [BV hc9] at hj6
     rw [hc9];refine AD (n:=28) AC 2 [(0,.st x0),(3,.v (.int .i64 c1)),(14,.v (.bool false)),(15,.st x0),(16,.v (.int .i64 c1))] [] kr ?_;obtain ⟨v4,hv4,hj6⟩:=OB hj6;refine AW AC 0 rfl (DW kr rfl (VA (a:= .st x0) (b:= .v (.int .i64 c1)) kr kr (SF (bs:=x0) (ki:= .i64) kr hv4))) ?_;refine AD (n:=28) AC 2 [(0,.st x0),(3,.v (.int .i64 c1)),(15,.st x0),(16,.v (.int .i64 c1)),(17,.v (.int .u8 (v4.toNat:Int))),(18,.v (.bool (decide ((v4.toNat:Int) > 122)))),(19,.v (.bool (decide ((v4.toNat:Int) > 122))))] [] kr ?_;have hq:=OI hj6; subst hq;exact AI rfl AM
   refine AP (b:=j6) kr (fun hb7=>?_) (fun hb7=>?_)
   ·rw [if_pos hb7] at h
    refine AK AC [(2,.v (.bool false))] [] ?_;refine AO ?_;have hq:=OI h; subst hq;exact ⟨rfl,AM⟩
   ·rw [BV hb7] at h
    refine AT ?_;refine DC AC [(0,.st x0),(3,.v (.int .i64 (wr .i64 (c1 + 1))))] [] ?_;exact Aj (s1:=⟨Fr 28 [(0,.st x0),(3,.v (.int .i64 (wr .i64 (c1 + 1))))],[]⟩) AM (ih (wr .i64 (c1 + 1)) h)
  ·rw [BV hb2] at h
   refine CA ?_;have hq:=OI h; subst hq;exact ⟨rfl,AM⟩
theorem Tx (x0:(List UInt8)) (r:Bool) (h:IE x0=some r):Sem E0 ⟨none,false⟩ Ma ⟨Fr 28 (A0 0 (Mg.enc (x0,()))),[]⟩ fun e s'=>(e = .normal\/e = .ret)/\∃ xs,Dz E0.P s'.fr s'.hp Tryz.f96.results.toList=some xs/\D0 xs=Mr r:=by
 unfold IE at h;refine Ao (BL (s1:=⟨Fr 28 [(0,.st x0)],[]⟩) AM ?_);refine AK AC [(0,.st x0)] [] ?_;refine AG ?_;refine AK AC [(0,.st x0),(3,.v (.int .i64 0))] [] ?_;refine Aa ?_;obtain ⟨r10,hr10,h⟩:=OB h;refine CF (n:=100000) ?_;rcases r10 with w11 | w15
 ·try dsimp only at h
  refine A1 (Aj (s1:=⟨Fr 28 [(0,.st x0),(3,.v (.int .i64 0))],[]⟩) AM (NT x0 _ 0 _ hr10)) ?_;refine AG ?_;obtain ⟨j13,hj13,h⟩:=OB h;refine AL (s1:=⟨Fr 28 [(2,.v (.bool j13))],[]⟩) ?_ ?_
  ·refine AD (n:=28) AC 4 [(0,.st x0),(23,.v (.bool (decide ((x0.length:Int)≥1))))] [] kr ?_
   rcases BE (decide ((x0.length:Int)≥1)) with hc14 | hc14
   ·rw [if_pos hc14] at hj13
    rw [hc14];refine AD (n:=28) AC 5 [(2,.v (.bool (decide ((x0.length:Int)<=12))))] [] kr ?_;have hq:=OI hj13; subst hq;exact AI rfl AM
   ·rw [BV hc14] at hj13
    rw [hc14];refine AD (n:=28) AC 5 [(2,.v (.bool false))] [] kr ?_;have hq:=OI hj13; subst hq;exact AI rfl AM
  refine AO ?_;have hq:=OI h; subst hq;exact ⟨⟨Fr 28 [(2,.v (.bool j13))],[]⟩,AM,.inr rfl,[.v (.bool j13)],kr,kr⟩
 ·try dsimp only at h
  refine A1 (Aj (s1:=⟨Fr 28 [(0,.st x0),(3,.v (.int .i64 0))],[]⟩) AM (NT x0 _ 0 _ hr10)) ?_;have hq:=OI h; subst hq;exact ⟨⟨Fr 28 [(2,.v (.bool w15))],[]⟩,AM,.inr rfl,[.v (.bool w15)],kr,kr⟩
def WU:List AV->Option AV:=Dm Mg (fun a=>IE a.1) Mr
theorem RV:XOk 96 WU:=by
 refine AR Tryz.func96 (c:=Ma) ?h2 ⟨Tryz.call96⟩ Mg (fun a=>IE a.1) Mr (fun a=>(by show 1<=28; decide)) ?h3 ?h4
 case h2=>kernel_rfl
 case h3=>intro b; kernel_rfl
 case h4=>exact fun a b h=>Tx a.1 b h
/- trestle/court.check$1 -/
noncomputable def ND:Code:=A9 Tryz.f160
def Gq (x0:(List UInt8)):Option (Bool) :=
 (IE x0).bind fun v1 =>
 some (!v1)
def Jn:Cs ((List UInt8)×Unit):=(csC cdS csN)
def J6 (r:Bool):AV:=cdB.enc r
theorem Qe (x0:(List UInt8)) (r:Bool) (h:Gq x0=some r):Sem E0 ⟨none,false⟩ ND ⟨Fr 6 (A0 0 (Jn.enc (x0,()))),[]⟩ fun e s'=>(e = .normal\/e = .ret)/\∃ xs,Dz E0.P s'.fr s'.hp Tryz.f160.results.toList=some xs/\D0 xs=J6 r:=by
 unfold Gq at h;refine Ao (BL (s1:=⟨Fr 6 [(0,.st x0)],[]⟩) AM ?_);refine AK AC [(0,.st x0)] [] ?_;refine AG ?_;obtain ⟨v1,hv1,h⟩:=OB h;refine AL (s1:=⟨Fr 6 [(2,.v (.bool (!v1)))],[]⟩) ?_ ?_
 ·refine AD (n:=6) AC 1 [(3,.st x0)] [] kr ?_
  refine AN (caps:=[]) (xs:=[.st x0]) (u:=(x0,())) rfl rfl RV rfl (AB rfl) kr kr (AJ (AQ (c:=cdS) (v:=x0)) Ah) (.inl kr) hv1 ?_;exact AX AC
 refine AO ?_;have hq:=OI h; subst hq;exact ⟨⟨Fr 6 [(2,.v (.bool (!v1)))],[]⟩,AM,.inr rfl,[.v (.bool (!v1))],kr,kr⟩
def TB:List AV->Option AV:=Dm Jn (fun a=>Gq a.1) J6
theorem TZ:XOk 160 TB:=by
 refine AR Tryz.func160 (c:=ND) ?h2 ⟨Tryz.call160⟩ Jn (fun a=>Gq a.1) J6 (fun a=>(by show 1<=6; decide)) ?h3 ?h4
 case h2=>kernel_rfl
 case h3=>intro b; kernel_rfl
 case h4=>exact fun a b h=>Qe a.1 b h
/- slices.IndexFunc[[]string,string] -/
noncomputable def CR:Code:=A9 Tryz.f90
def BO (x0:(List (List UInt8))):Nat->Int->Option ((Unit) ⊕ (Int))
 | 0,_=>none
 | f + 1,c1 =>
  if (decide (c1 < (x0.length:Int)))=true then
  (idx x0 c1).bind fun v3 =>
  (Gq v3).bind fun v4 =>
  if v4=true then
  some (.inr c1)
  else
  BO x0 f (wr .i64 (c1 + 1))
  else
  some (.inl ())
def BI (x0:(List (List UInt8))):Option (Int) :=
 (BO x0 100000 0).bind fun r7 =>
 match r7 with
 | (.inl _w8) =>
  some (-1)
 | (.inr w9) =>
  some w9
def CZ:Cs ((List (List UInt8))×Unit×Unit):=(csC (cdL 1 cdS) (csC (cdF 160 csN (fun _=>rfl)) csN))
def Ce (r:Int):AV:=cdI.enc r
theorem DQ (x0:(List (List UInt8))):∀ (f:Nat) (c1:Int) (r:(Unit) ⊕ (Int)),BO x0 f c1=some r->SemN E0 ⟨none,false⟩ (pc CR [1,0,1,0,0]) f ⟨Fr 19 [(0,.sl 1 (x0.map cdS.enc)),(1,.fn 160 [] []),(7,.v (.int .i64 (x0.length:Int))),(8,.v (.int .i64 c1))],[]⟩ (fun e s=>match r with
 | (.inl _w)=>e=(.exit 0)/\Wk E0 s ⟨Fr 19 [],[]⟩
 | (.inr w)=>e = .ret/\Wk E0 s ⟨Fr 19 [(4,.v (.int .i64 w))],[]⟩):=by
 intro f;induction f with
 | zero=>intro c1 r h; cases h
 | succ f ih0 =>
  intro c1 r h
  have ih:=fun (c1:Int)=>ih0 c1 r
  unfold BO at h;refine Bc ?_
  let p1:Nat×AV:=(8,.v (.int .i64 c1))
  let p2:Nat×AV:=(7,.v (.int .i64 (x0.length:Int)))
  let p3:Nat×AV:=(1,.fn 160 [] [])
  let p4:Nat×AV:=(0,.sl 1 (x0.map cdS.enc))
  refine AK AC [p4,p3,p2,p1,(9,.v (.bool (decide (c1 < (x0.length:Int)))))] [] ?_;refine AG ?_;refine AP (b:=(decide (c1 < (x0.length:Int)))) kr (fun hb2=>?_) (fun hb2=>?_)
  ·rw [if_pos hb2] at h
   refine AT ?_;refine AG ?_;refine Aa ?_
   let p5:Nat×AV:=(5,.v (.int .i64 c1))
   refine AK AC [p4,p3,p5,p2,p1] [] ?_;refine AG ?_;obtain ⟨v3,hv3,h⟩:=OB h;obtain ⟨v4,hv4,h⟩:=OB h;refine AL (s1:=⟨Fr 19 [p4,p3,p5,p2,p1,(16,.v (.bool v4))],[]⟩) ?_ ?_
   ·refine AD (n:=19) AC 3 [p4,p3,p5,p2,p1,(11,.fn 160 [] []),(12,.sl 1 (x0.map cdS.enc)),(13,.v (.int .i64 c1))] [] kr ?_
    refine AW AC 0 rfl (DW (AB rfl) rfl (AS (a:= .sl 1 (x0.map cdS.enc)) (b:= .v (.int .i64 c1)) kr kr (DP (e:=cdS.enc) (el:=9) (k:=1) (ki:= .i64) kr kr hv3))) ?_;refine AD (n:=19) AC 1 [p4,p3,p5,p2,p1,(11,.fn 160 [] []),(15,.st v3)] [] kr ?_;refine AN (caps:=[]) (xs:=[.st v3]) (u:=(v3,())) rfl rfl TZ rfl (AB rfl) kr kr (AJ (AQ (c:=cdS) (v:=v3)) Ah) (.inl kr) hv4 ?_;exact AI rfl AM
   refine AP (b:=v4) kr (fun hb5=>?_) (fun hb5=>?_)
   ·rw [if_pos hb5] at h
    refine AK AC [(4,.v (.int .i64 c1))] [] ?_;refine AO ?_;have hq:=OI h; subst hq;exact ⟨rfl,AM⟩
   ·rw [BV hb5] at h
    refine AT ?_
    let p6:Nat×AV:=(8,.v (.int .i64 (wr .i64 (c1 + 1))))
    refine DC AC [p4,p3,p2,p6] [] ?_;exact Aj (s1:=⟨Fr 19 [p4,p3,p2,p6],[]⟩) AM (ih (wr .i64 (c1 + 1)) h)
  ·rw [BV hb2] at h
   refine CA ?_;have hq:=OI h; subst hq;exact ⟨rfl,AM⟩
theorem Fs (x0:(List (List UInt8))) (r:Int) (h:BI x0=some r):Sem E0 ⟨none,false⟩ CR ⟨Fr 19 (A0 0 (CZ.enc (x0,(),()))),[]⟩ fun e s'=>(e = .normal\/e = .ret)/\∃ xs,Dz E0.P s'.fr s'.hp Tryz.f90.results.toList=some xs/\D0 xs=Ce r:=by
 unfold BI at h
 let p1:Nat×AV:=(1,.fn 160 [] [])
 let p2:Nat×AV:=(0,.sl 1 (x0.map cdS.enc))
 refine Ao (BL (s1:=⟨Fr 19 [p2,p1],[]⟩) AM ?_);refine AK AC [p2,p1] [] ?_;refine AG ?_;refine AG ?_
 let p3:Nat×AV:=(8,.v (.int .i64 0))
 let p4:Nat×AV:=(7,.v (.int .i64 (x0.length:Int)))
 refine AL (s1:=⟨Fr 19 [p2,p1,p4,p3],[]⟩) ?_ ?_
 ·refine AD (n:=19) AC 1 [p2,p1,(6,.sl 1 (x0.map cdS.enc))] [] kr ?_
  refine AW AC 0 rfl (DW (AB rfl) rfl (CO (a:= .sl 1 (x0.map cdS.enc)) kr (BS (el:=9) kr))) ?_;exact AX AC
 refine Aa ?_;obtain ⟨r7,hr7,h⟩:=OB h;refine CF (n:=100000) ?_;rcases r7 with w8 | w9
 ·try dsimp only at h
  refine A1 (Aj (s1:=⟨Fr 19 [p2,p1,p4,p3],[]⟩) AM (DQ x0 _ 0 _ hr7)) ?_;refine AK AC [(4,.v (.int .i64 (-1)))] [] ?_;refine AO ?_;have hq:=OI h; subst hq;exact ⟨⟨Fr 19 [(4,.v (.int .i64 (-1)))],[]⟩,AM,.inr rfl,[.v (.int .i64 (-1))],kr,kr⟩
 ·try dsimp only at h
  refine A1 (Aj (s1:=⟨Fr 19 [p2,p1,p4,p3],[]⟩) AM (DQ x0 _ 0 _ hr7)) ?_;have hq:=OI h; subst hq;exact ⟨⟨Fr 19 [(4,.v (.int .i64 w9))],[]⟩,AM,.inr rfl,[.v (.int .i64 w9)],kr,kr⟩
def GG:List AV->Option AV:=Dm CZ (fun a=>BI a.1) Ce
theorem GM:XOk 90 GG:=by
 refine AR Tryz.func90 (c:=CR) ?h2 ⟨Tryz.call90⟩ CZ (fun a=>BI a.1) Ce (fun a=>(by show 2<=19; decide)) ?h3 ?h4
 case h2=>kernel_rfl
 case h3=>intro b; kernel_rfl
 case h4=>exact fun a b h=>Fs a.1 b h
/- slices.ContainsFunc[[]string,string] -/
noncomputable def DK:Code:=A9 Tryz.f36
def An (x0:(List (List UInt8))):Option (Bool) :=
 (BI x0).bind fun v1 =>
 some (decide (v1≥0))
def CG:Cs ((List (List UInt8))×Unit×Unit):=(csC (cdL 1 cdS) (csC (cdF 160 csN (fun _=>rfl)) csN))
def CI (r:Bool):AV:=cdB.enc r
theorem FY (x0:(List (List UInt8))) (r:Bool) (h:An x0=some r):Sem E0 ⟨none,false⟩ DK ⟨Fr 9 (A0 0 (CG.enc (x0,(),()))),[]⟩ fun e s'=>(e = .normal\/e = .ret)/\∃ xs,Dz E0.P s'.fr s'.hp Tryz.f36.results.toList=some xs/\D0 xs=CI r:=by
 unfold An at h;refine Ao (BL (s1:=⟨Fr 9 [(0,.sl 1 (x0.map cdS.enc)),(1,.fn 160 [] [])],[]⟩) AM ?_);refine AK AC [(0,.sl 1 (x0.map cdS.enc)),(1,.fn 160 [] [])] [] ?_;refine AG ?_;obtain ⟨v1,hv1,h⟩:=OB h
 let p1:Nat×AV:=(4,.v (.bool (decide (v1≥0))))
 refine AL (s1:=⟨Fr 9 [p1],[]⟩) ?_ ?_
 ·refine AD (n:=9) AC 2 [(5,.sl 1 (x0.map cdS.enc)),(6,.fn 160 [] [])] [] kr ?_
  refine AN (caps:=[]) (xs:=[.sl 1 (x0.map cdS.enc),.fn 160 [] []]) (u:=(x0,(),())) rfl rfl GM rfl (AB rfl) kr kr (AJ (AQ (c:=(cdL 1 cdS)) (v:=x0)) (AJ (Sm.fn Ah) Ah)) (.inl kr) hv1 ?_;exact AX AC
 refine AO ?_;have hq:=OI h; subst hq;exact ⟨⟨Fr 9 [p1],[]⟩,AM,.inr rfl,[.v (.bool (decide (v1≥0)))],kr,kr⟩
def Fj:List AV->Option AV:=Dm CG (fun a=>An a.1) CI
theorem DX:XOk 36 Fj:=by
 refine AR Tryz.func36 (c:=DK) ?h2 ⟨Tryz.call36⟩ CG (fun a=>An a.1) CI (fun a=>(by show 2<=9; decide)) ?h3 ?h4
 case h2=>kernel_rfl
 case h3=>intro b; kernel_rfl
 case h4=>exact fun a b h=>FY a.1 b h
/- slices.Index[[]string,string] -/
noncomputable def Et:Code:=A9 Tryz.f41
def BU (x0:(List (List UInt8))) (x1:(List UInt8)):Nat->Int->Option ((Unit) ⊕ (Int))
 | 0,_=>none
 | f + 1,c1 =>
  if (decide (c1 < (x0.length:Int)))=true then
  (idx x0 c1).bind fun v3 =>
  if (x1==v3)=true then
  some (.inr c1)
  else
  BU x0 x1 f (wr .i64 (c1 + 1))
  else
  some (.inl ())
def B3 (x0:(List (List UInt8))) (x1:(List UInt8)):Option (Int) :=
 (BU x0 x1 100000 0).bind fun r6 =>
 match r6 with
 | (.inl _w7) =>
  some (-1)
 | (.inr w8) =>
  some w8
def Ew:Cs ((List (List UInt8))×(List UInt8)×Unit):=(csC (cdL 1 cdS) (csC cdS csN))
def Ez (r:Int):AV:=cdI.enc r
theorem GR (x0:(List (List UInt8))) (x1:(List UInt8)):∀ (f:Nat) (c1:Int) (r:(Unit) ⊕ (Int)),BU x0 x1 f c1=some r->SemN E0 ⟨none,false⟩ (pc Et [1,0,1,0,0]) f ⟨Fr 19 [(0,.sl 1 (x0.map cdS.enc)),(1,.st x1),(7,.v (.int .i64 (x0.length:Int))),(8,.v (.int .i64 c1))],[]⟩ (fun e s=>match r with
 | (.inl _w)=>e=(.exit 0)/\Wk E0 s ⟨Fr 19 [],[]⟩
 | (.inr w)=>e = .ret/\Wk E0 s ⟨Fr 19 [(4,.v (.int .i64 w))],[]⟩):=by
 intro f;induction f with
 | zero=>intro c1 r h; cases h
 | succ f ih0 =>
  intro c1 r h
  have ih:=fun (c1:Int)=>ih0 c1 r
  unfold BU at h;refine Bc ?_
  let p1:Nat×AV:=(8,.v (.int .i64 c1))
  let p2:Nat×AV:=(7,.v (.int .i64 (x0.length:Int)))
  let p3:Nat×AV:=(0,.sl 1 (x0.map cdS.enc))
  refine AK AC [p3,(1,.st x1),p2,p1,(9,.v (.bool (decide (c1 < (x0.length:Int)))))] [] ?_;refine AG ?_;refine AP (b:=(decide (c1 < (x0.length:Int)))) kr (fun hb2=>?_) (fun hb2=>?_)
  ·rw [if_pos hb2] at h
   refine AT ?_;refine AG ?_;refine Aa ?_
   let p4:Nat×AV:=(5,.v (.int .i64 c1))
   refine AK AC [p3,(1,.st x1),p4,p2,p1] [] ?_;refine AG ?_;obtain ⟨v3,hv3,h⟩:=OB h;refine AL (s1:=⟨Fr 19 [p3,(1,.st x1),p4,p2,p1,(16,.v (.bool (x1==v3)))],[]⟩) ?_ ?_
   ·refine AD (n:=19) AC 3 [p3,(1,.st x1),p4,p2,p1,(11,.st x1),(12,.sl 1 (x0.map cdS.enc)),(13,.v (.int .i64 c1))] [] kr ?_
    refine AW AC 0 rfl (DW (AB rfl) rfl (AS (a:= .sl 1 (x0.map cdS.enc)) (b:= .v (.int .i64 c1)) kr kr (DP (e:=cdS.enc) (el:=9) (k:=1) (ki:= .i64) kr kr hv3))) ?_;exact AX AC
   refine AP (b:=(x1==v3)) kr (fun hb4=>?_) (fun hb4=>?_)
   ·rw [if_pos hb4] at h
    refine AK AC [(4,.v (.int .i64 c1))] [] ?_;refine AO ?_;have hq:=OI h; subst hq;exact ⟨rfl,AM⟩
   ·rw [BV hb4] at h
    refine AT ?_
    let p5:Nat×AV:=(8,.v (.int .i64 (wr .i64 (c1 + 1))))
    refine DC AC [p3,(1,.st x1),p2,p5] [] ?_;exact Aj (s1:=⟨Fr 19 [p3,(1,.st x1),p2,p5],[]⟩) AM (ih (wr .i64 (c1 + 1)) h)
  ·rw [BV hb2] at h
   refine CA ?_;have hq:=OI h; subst hq;exact ⟨rfl,AM⟩
theorem JX (x0:(List (List UInt8))) (x1:(List UInt8)) (r:Int) (h:B3 x0 x1=some r):Sem E0 ⟨none,false⟩ Et ⟨Fr 19 (A0 0 (Ew.enc (x0,x1,()))),[]⟩ fun e s'=>(e = .normal\/e = .ret)/\∃ xs,Dz E0.P s'.fr s'.hp Tryz.f41.results.toList=some xs/\D0 xs=Ez r:=by
 unfold B3 at h
 let p1:Nat×AV:=(0,.sl 1 (x0.map cdS.enc))
 refine Ao (BL (s1:=⟨Fr 19 [p1,(1,.st x1)],[]⟩) AM ?_);refine AK AC [p1,(1,.st x1)] [] ?_;refine AG ?_;refine AG ?_
 let p2:Nat×AV:=(8,.v (.int .i64 0))
 let p3:Nat×AV:=(7,.v (.int .i64 (x0.length:Int)))
 refine AL (s1:=⟨Fr 19 [p1,(1,.st x1),p3,p2],[]⟩) ?_ ?_
 ·refine AD (n:=19) AC 1 [p1,(1,.st x1),(6,.sl 1 (x0.map cdS.enc))] [] kr ?_
  refine AW AC 0 rfl (DW (AB rfl) rfl (CO (a:= .sl 1 (x0.map cdS.enc)) kr (BS (el:=9) kr))) ?_;exact AX AC
 refine Aa ?_;obtain ⟨r6,hr6,h⟩:=OB h;refine CF (n:=100000) ?_;rcases r6 with w7 | w8
 ·try dsimp only at h
  refine A1 (Aj (s1:=⟨Fr 19 [p1,(1,.st x1),p3,p2],[]⟩) AM (GR x0 x1 _ 0 _ hr6)) ?_;refine AK AC [(4,.v (.int .i64 (-1)))] [] ?_;refine AO ?_;have hq:=OI h; subst hq;exact ⟨⟨Fr 19 [(4,.v (.int .i64 (-1)))],[]⟩,AM,.inr rfl,[.v (.int .i64 (-1))],kr,kr⟩
 ·try dsimp only at h
  refine A1 (Aj (s1:=⟨Fr 19 [p1,(1,.st x1),p3,p2],[]⟩) AM (GR x0 x1 _ 0 _ hr6)) ?_;have hq:=OI h; subst hq;exact ⟨⟨Fr 19 [(4,.v (.int .i64 w8))],[]⟩,AM,.inr rfl,[.v (.int .i64 w8)],kr,kr⟩
def KY:List AV->Option AV:=Dm Ew (fun a=>B3 a.1 a.2.1) Ez
theorem HD:XOk 41 KY:=by
 refine AR Tryz.func41 (c:=Et) ?h2 ⟨Tryz.call41⟩ Ew (fun a=>B3 a.1 a.2.1) Ez (fun a=>(by show 2<=19; decide)) ?h3 ?h4
 case h2=>kernel_rfl
 case h3=>intro b; kernel_rfl
 case h4=>exact fun a b h=>JX a.1 a.2.1 b h
/- slices.Contains[[]string,string] -/
noncomputable def GP:Code:=A9 Tryz.f97
def BK (x0:(List (List UInt8))) (x1:(List UInt8)):Option (Bool) :=
 (B3 x0 x1).bind fun v1 =>
 some (decide (v1≥0))
def ED:Cs ((List (List UInt8))×(List UInt8)×Unit):=(csC (cdL 1 cdS) (csC cdS csN))
def EE (r:Bool):AV:=cdB.enc r
theorem Ir (x0:(List (List UInt8))) (x1:(List UInt8)) (r:Bool) (h:BK x0 x1=some r):Sem E0 ⟨none,false⟩ GP ⟨Fr 9 (A0 0 (ED.enc (x0,x1,()))),[]⟩ fun e s'=>(e = .normal\/e = .ret)/\∃ xs,Dz E0.P s'.fr s'.hp Tryz.f97.results.toList=some xs/\D0 xs=EE r:=by
 unfold BK at h;refine Ao (BL (s1:=⟨Fr 9 [(0,.sl 1 (x0.map cdS.enc)),(1,.st x1)],[]⟩) AM ?_);refine AK AC [(0,.sl 1 (x0.map cdS.enc)),(1,.st x1)] [] ?_;refine AG ?_;obtain ⟨v1,hv1,h⟩:=OB h
 let p1:Nat×AV:=(4,.v (.bool (decide (v1≥0))))
 refine AL (s1:=⟨Fr 9 [p1],[]⟩) ?_ ?_
 ·refine AD (n:=9) AC 2 [(5,.sl 1 (x0.map cdS.enc)),(6,.st x1)] [] kr ?_
  refine AN (caps:=[]) (xs:=[.sl 1 (x0.map cdS.enc),.st x1]) (u:=(x0,x1,())) rfl rfl HD rfl (AB rfl) kr kr (AJ (AQ (c:=(cdL 1 cdS)) (v:=x0)) (AJ (AQ (c:=cdS) (v:=x1)) Ah)) (.inl kr) hv1 ?_;exact AX AC
 refine AO ?_;have hq:=OI h; subst hq;exact ⟨⟨Fr 9 [p1],[]⟩,AM,.inr rfl,[.v (.bool (decide (v1≥0)))],kr,kr⟩
def JJ:List AV->Option AV:=Dm ED (fun a=>BK a.1 a.2.1) EE
theorem Da:XOk 97 JJ:=by
 refine AR Tryz.func97 (c:=GP) ?h2 ⟨Tryz.call97⟩ ED (fun a=>BK a.1 a.2.1) EE (fun a=>(by show 2<=9; decide)) ?h3 ?h4
 case h2=>kernel_rfl
 case h3=>intro b; kernel_rfl
 case h4=>exact fun a b h=>Ir a.1 a.2.1 b h
/- trestle/court.check$2 -/
noncomputable def NE:Code:=A9 Tryz.f161
def Gr (x0:AH) (x1:AH):Option (Bool) :=
 (if (x0.1==1)=true then (BK x0.2.2.2.1 x1.2.1).bind fun v1 =>
 some v1 else some false).bind fun j3 =>
 some j3
def Jo:Cs (AH×AH×Unit):=(csC AA (csC (cdP AA) csN))
def J7 (r:Bool):AV:=cdB.enc r
theorem Qf (x0:AH) (x1:AH) (r:Bool) (h:Gr x0 x1=some r):Sem E0 ⟨none,false⟩ NE ⟨Fr 14 (A0 0 (Jo.enc (x0,x1,()))),[]⟩ fun e s'=>(e = .normal\/e = .ret)/\∃ xs,Dz E0.P s'.fr s'.hp Tryz.f161.results.toList=some xs/\D0 xs=J7 r:=by
 unfold Gr at h;refine Ao (BL (s1:=⟨Fr 14 [(0,AA.enc x0),(1,.pe (AA.enc x1) 0)],[]⟩) AM ?_);refine AK AC [(1,.pe (AA.enc x1) 0),(2,.pt 0 0 0)] [some ⟨5,60,[AA.enc x0],false⟩] ?_;refine AG ?_;obtain ⟨j3,hj3,h⟩:=OB h;refine AL (s1:=⟨Fr 14 [(3,.v (.bool j3))],[]⟩) ?_ ?_
 ·refine AD (n:=14) AC 4 [(1,.pe (AA.enc x1) 0),(2,.pt 0 0 0),(7,.v (.bool (x0.1==1)))] [some ⟨5,60,[AA.enc x0],false⟩] kr ?_
  rcases BE (x0.1==1) with hc4 | hc4
  ·rw [if_pos hc4] at hj3
   rw [hc4];refine AD (n:=14) AC 4 [(7,.v (.bool true)),(9,.sl 1 (x0.2.2.2.1.map cdS.enc)),(11,.st x1.2.1)] [some ⟨5,60,[AA.enc x0],false⟩] kr ?_;obtain ⟨v1,hv1,hj3⟩:=OB hj3;refine AN (caps:=[]) (xs:=[.sl 1 (x0.2.2.2.1.map cdS.enc),.st x1.2.1]) (u:=(x0.2.2.2.1,x1.2.1,())) rfl rfl Da rfl kr kr kr (AJ (AQ (c:=(cdL 1 cdS)) (v:=x0.2.2.2.1)) (AJ (AQ (c:=cdS) (v:=x1.2.1)) Ah)) (.inl kr) hv1 ?_;refine AD (n:=14) AC 2 [(3,.v (.bool v1))] [some ⟨5,60,[AA.enc x0],false⟩] kr ?_;have hq:=OI hj3; subst hq;exact AI rfl (Ac [] trivial ⟨lv,trivial⟩)
  ·rw [BV hc4] at hj3
   rw [hc4];refine AD (n:=14) AC 7 [(3,.v (.bool false))] [some ⟨5,60,[AA.enc x0],false⟩] kr ?_;have hq:=OI hj3; subst hq;exact AI rfl (Ac [] trivial ⟨lv,trivial⟩)
 refine AO ?_;have hq:=OI h; subst hq;exact ⟨⟨Fr 14 [(3,.v (.bool j3))],[]⟩,AM,.inr rfl,[.v (.bool j3)],kr,kr⟩
def TC:List AV->Option AV:=Dm Jo (fun a=>Gr a.1 a.2.1) J7
theorem Ta:XOk 161 TC:=by
 refine AR Tryz.func161 (c:=NE) ?h2 ⟨Tryz.call161⟩ Jo (fun a=>Gr a.1 a.2.1) J7 (fun a=>(by show 2<=14; decide)) ?h3 ?h4
 case h2=>kernel_rfl
 case h3=>intro b; kernel_rfl
 case h4=>exact fun a b h=>Qf a.1 a.2.1 b h
/- slices.IndexFunc[[]trestle/api.Clause,trestle/api.Clause] -/
noncomputable def Bw:Code:=A9 Tryz.f85
def A8 (x0:(List AH)) (x1:AH):Nat->Int->Option ((Unit) ⊕ (Int))
 | 0,_=>none
 | f + 1,c1 =>
  if (decide (c1 < (x0.length:Int)))=true then
  (idx x0 c1).bind fun v3 =>
  (Gr v3 x1).bind fun v4 =>
  if v4=true then
  some (.inr c1)
  else
  A8 x0 x1 f (wr .i64 (c1 + 1))
  else
  some (.inl ())
def Ax (x0:(List AH)) (x1:AH):Option (Int) :=
 (A8 x0 x1 100000 0).bind fun r7 =>
 match r7 with
 | (.inl _w8) =>
  some (-1)
 | (.inr w9) =>
  some w9
def Bx:Cs ((List AH)×AH×Unit):=(csC (cdL 5 AA) (csC (cdF 161 (csE (cdP AA)) (fun _=>rfl)) csN))
def By (r:Int):AV:=cdI.enc r
theorem Cq (x0:(List AH)) (x1:AH):∀ (f:Nat) (c1:Int) (r:(Unit) ⊕ (Int)),A8 x0 x1 f c1=some r->SemN E0 ⟨none,false⟩ (pc Bw [1,0,1,0,0]) f ⟨Fr 19 [(0,.sl 5 (x0.map AA.enc)),(1,.fn 161 [] [.pe (AA.enc x1) 0]),(7,.v (.int .i64 (x0.length:Int))),(8,.v (.int .i64 c1))],[]⟩ (fun e s=>match r with
 | (.inl _w)=>e=(.exit 0)/\Wk E0 s ⟨Fr 19 [],[]⟩
 | (.inr w)=>e = .ret/\Wk E0 s ⟨Fr 19 [(4,.v (.int .i64 w))],[]⟩):=by
 intro f;induction f with
 | zero=>intro c1 r h; cases h
 | succ f ih0 =>
  intro c1 r h
  have ih:=fun (c1:Int)=>ih0 c1 r
  unfold A8 at h;refine Bc ?_
  let p1:Nat×AV:=(8,.v (.int .i64 c1))
  let p2:Nat×AV:=(7,.v (.int .i64 (x0.length:Int)))
  let p3:Nat×AV:=(1,.fn 161 [] [.pe (AA.enc x1) 0])
  let p4:Nat×AV:=(0,.sl 5 (x0.map AA.enc))
  refine AK AC [p4,p3,p2,p1,(9,.v (.bool (decide (c1 < (x0.length:Int)))))] [] ?_;refine AG ?_;refine AP (b:=(decide (c1 < (x0.length:Int)))) kr (fun hb2=>?_) (fun hb2=>?_)
  ·rw [if_pos hb2] at h
   refine AT ?_;refine AG ?_;refine Aa ?_
   let p5:Nat×AV:=(5,.v (.int .i64 c1))
   refine AK AC [p4,p3,p5,p2,p1] [] ?_;refine AG ?_;obtain ⟨v3,hv3,h⟩:=OB h;obtain ⟨v4,hv4,h⟩:=OB h;refine AL (s1:=⟨Fr 19 [p4,p3,p5,p2,p1,(16,.v (.bool v4))],[]⟩) ?_ ?_
   ·let p6:Nat×AV:=(11,.fn 161 [] [.pe (AA.enc x1) 0])
    refine AD (n:=19) AC 3 [p4,p3,p5,p2,p1,p6,(12,.sl 5 (x0.map AA.enc)),(13,.v (.int .i64 c1))] [] kr ?_;refine AW AC 0 rfl (DW (AB rfl) rfl (AS (a:= .sl 5 (x0.map AA.enc)) (b:= .v (.int .i64 c1)) kr kr (DP (e:=AA.enc) (el:=60) (k:=5) (ki:= .i64) kr kr hv3))) ?_;refine AD (n:=19) AC 1 [p4,p3,p5,p2,p1,p6,(15,AA.enc v3)] [] kr ?_;refine AN (caps:=[.pe (AA.enc x1) 0]) (xs:=[AA.enc v3]) (u:=(v3,x1,())) rfl rfl Ta rfl (AB rfl) kr kr (AJ (AQ (c:=AA) (v:=v3)) (AJ (AQ (c:=(cdP AA)) (v:=x1)) Ah)) (.inl kr) hv4 ?_;exact AI rfl AM
   refine AP (b:=v4) kr (fun hb5=>?_) (fun hb5=>?_)
   ·rw [if_pos hb5] at h
    refine AK AC [(4,.v (.int .i64 c1))] [] ?_;refine AO ?_;have hq:=OI h; subst hq;exact ⟨rfl,AM⟩
   ·rw [BV hb5] at h
    refine AT ?_
    let p7:Nat×AV:=(8,.v (.int .i64 (wr .i64 (c1 + 1))))
    refine DC AC [p4,p3,p2,p7] [] ?_;exact Aj (s1:=⟨Fr 19 [p4,p3,p2,p7],[]⟩) AM (ih (wr .i64 (c1 + 1)) h)
  ·rw [BV hb2] at h
   refine CA ?_;have hq:=OI h; subst hq;exact ⟨rfl,AM⟩
theorem Ej (x0:(List AH)) (x1:AH) (r:Int) (h:Ax x0 x1=some r):Sem E0 ⟨none,false⟩ Bw ⟨Fr 19 (A0 0 (Bx.enc (x0,x1,()))),[]⟩ fun e s'=>(e = .normal\/e = .ret)/\∃ xs,Dz E0.P s'.fr s'.hp Tryz.f85.results.toList=some xs/\D0 xs=By r:=by
 unfold Ax at h
 let p1:Nat×AV:=(1,.fn 161 [] [.pe (AA.enc x1) 0])
 let p2:Nat×AV:=(0,.sl 5 (x0.map AA.enc))
 refine Ao (BL (s1:=⟨Fr 19 [p2,p1],[]⟩) AM ?_);refine AK AC [p2,p1] [] ?_;refine AG ?_;refine AG ?_
 let p3:Nat×AV:=(8,.v (.int .i64 0))
 let p4:Nat×AV:=(7,.v (.int .i64 (x0.length:Int)))
 refine AL (s1:=⟨Fr 19 [p2,p1,p4,p3],[]⟩) ?_ ?_
 ·refine AD (n:=19) AC 1 [p2,p1,(6,.sl 5 (x0.map AA.enc))] [] kr ?_
  refine AW AC 0 rfl (DW (AB rfl) rfl (CO (a:= .sl 5 (x0.map AA.enc)) kr (BS (el:=60) kr))) ?_;exact AX AC
 refine Aa ?_;obtain ⟨r7,hr7,h⟩:=OB h;refine CF (n:=100000) ?_;rcases r7 with w8 | w9
 ·try dsimp only at h
  refine A1 (Aj (s1:=⟨Fr 19 [p2,p1,p4,p3],[]⟩) AM (Cq x0 x1 _ 0 _ hr7)) ?_;refine AK AC [(4,.v (.int .i64 (-1)))] [] ?_;refine AO ?_;have hq:=OI h; subst hq;exact ⟨⟨Fr 19 [(4,.v (.int .i64 (-1)))],[]⟩,AM,.inr rfl,[.v (.int .i64 (-1))],kr,kr⟩
 ·try dsimp only at h
  refine A1 (Aj (s1:=⟨Fr 19 [p2,p1,p4,p3],[]⟩) AM (Cq x0 x1 _ 0 _ hr7)) ?_;have hq:=OI h; subst hq;exact ⟨⟨Fr 19 [(4,.v (.int .i64 w9))],[]⟩,AM,.inr rfl,[.v (.int .i64 w9)],kr,kr⟩
def FC:List AV->Option AV:=Dm Bx (fun a=>Ax a.1 a.2.1) By
theorem FD:XOk 85 FC:=by
 refine AR Tryz.func85 (c:=Bw) ?h2 ⟨Tryz.call85⟩ Bx (fun a=>Ax a.1 a.2.1) By (fun a=>(by show 2<=19; decide)) ?h3 ?h4
 case h2=>kernel_rfl
 case h3=>intro b; kernel_rfl
 case h4=>exact fun a b h=>Ej a.1 a.2.1 b h
/- slices.ContainsFunc[[]trestle/api.Clause,trestle/api.Clause] -/
noncomputable def Cn:Code:=A9 Tryz.f53
def Ak (x0:(List AH)) (x1:AH):Option (Bool) :=
 (Ax x0 x1).bind fun v1 =>
 some (decide (v1≥0))
def Bj:Cs ((List AH)×AH×Unit):=(csC (cdL 5 AA) (csC (cdF 161 (csE (cdP AA)) (fun _=>rfl)) csN))
def Bm (r:Bool):AV:=cdB.enc r
theorem EH (x0:(List AH)) (x1:AH) (r:Bool) (h:Ak x0 x1=some r):Sem E0 ⟨none,false⟩ Cn ⟨Fr 9 (A0 0 (Bj.enc (x0,x1,()))),[]⟩ fun e s'=>(e = .normal\/e = .ret)/\∃ xs,Dz E0.P s'.fr s'.hp Tryz.f53.results.toList=some xs/\D0 xs=Bm r:=by
 unfold Ak at h
 let p1:Nat×AV:=(1,.fn 161 [] [.pe (AA.enc x1) 0])
 let p2:Nat×AV:=(0,.sl 5 (x0.map AA.enc))
 refine Ao (BL (s1:=⟨Fr 9 [p2,p1],[]⟩) AM ?_);refine AK AC [p2,p1] [] ?_;refine AG ?_;obtain ⟨v1,hv1,h⟩:=OB h
 let p3:Nat×AV:=(4,.v (.bool (decide (v1≥0))))
 refine AL (s1:=⟨Fr 9 [p3],[]⟩) ?_ ?_
 ·refine AD (n:=9) AC 2 [(5,.sl 5 (x0.map AA.enc)),(6,.fn 161 [] [.pe (AA.enc x1) 0])] [] kr ?_
  refine AN (caps:=[]) (xs:=[.sl 5 (x0.map AA.enc),.fn 161 [] [.pe (AA.enc x1) 0]]) (u:=(x0,x1,())) rfl rfl FD rfl (AB rfl) kr kr (AJ (AQ (c:=(cdL 5 AA)) (v:=x0)) (AJ (Sm.fn (Um (AQ (c:=(cdP AA)) (v:=x1)))) Ah)) (.inl kr) hv1 ?_;exact AX AC
 refine AO ?_;have hq:=OI h; subst hq;exact ⟨⟨Fr 9 [p3],[]⟩,AM,.inr rfl,[.v (.bool (decide (v1≥0)))],kr,kr⟩
def Eb:List AV->Option AV:=Dm Bj (fun a=>Ak a.1 a.2.1) Bm
theorem Ec:XOk 53 Eb:=by
 refine AR Tryz.func53 (c:=Cn) ?h2 ⟨Tryz.call53⟩ Bj (fun a=>Ak a.1 a.2.1) Bm (fun a=>(by show 2<=9; decide)) ?h3 ?h4
 case h2=>kernel_rfl
 case h3=>intro b; kernel_rfl
 case h4=>exact fun a b h=>EH a.1 a.2.1 b h
/- trestle/court.check -/
noncomputable def Ln:Code:=A9 Tryz.f128
def FR (x0:(List AH)) (x1:AH):Nat->Int->Option ((Unit) ⊕ (Int))
 | 0,_=>none
 | f + 1,c9 =>
  if (decide (c9 < (x1.2.2.2.1.length:Int)))=true then
  (idx x1.2.2.2.1 c9).bind fun v11 =>
  if (Nx 0 c9 x1.2.2.2.1.length)=true then
  (BK ((x1.2.2.2.1.take c9.toNat).drop (0:Int).toNat) v11).bind fun v13 =>
  if v13=true then
  some (.inr 5)
  else
  FR x0 x1 f (wr .i64 (c9 + 1))
  else none
  else
  some (.inl ())
def H4 (x0:(List AH)) (x1:AH):Option (Int) :=
 (CV x1).bind fun v1 =>
 if (!v1)=true then
 some 30
 else
 (if (!(x1.2.1==[]))=true then (IE x1.2.1).bind fun v3 =>
 if (!v3)=true then some true else (An x1.2.2.2.1).bind fun v4 =>
 some v4 else (An x1.2.2.2.1).bind fun v5 =>
 some v5).bind fun j7 =>
 if j7=true then
 some 4
 else
 (FR x0 x1 100000 0).bind fun r16 =>
 match r16 with
 | (.inl _w17) =>
  (if (x1.2.1==[])=true then some true else (Ak x0 x1).bind fun v18 =>
  some v18).bind fun j20 =>
  if j20=true then
  some 0
  else
  some 31
 | (.inr w23) =>
  some w23
def Lt:Cs ((List AH)×AH×Unit):=(csC (cdL 5 AA) (csC AA csN))
def L4 (r:Int):AV:=cdI.enc r
theorem MK (x0:(List AH)) (x1:AH):∀ (f:Nat) (c9:Int) (r:(Unit) ⊕ (Int)),FR x0 x1 f c9=some r->SemN E0 ⟨none,false⟩ (pc Ln [1,1,1,0,1,0,0]) f ⟨Fr 47 [(0,.sl 5 (x0.map AA.enc)),(3,.pt 0 0 0),(25,.sl 1 (x1.2.2.2.1.map cdS.enc)),(26,.v (.int .i64 (x1.2.2.2.1.length:Int))),(27,.v (.int .i64 c9))],[some ⟨5,60,[AA.enc x1],false⟩]⟩ (fun e s=>match r with
 | (.inl _w)=>e=(.exit 0)/\Wk E0 s ⟨Fr 47 [(0,.sl 5 (x0.map AA.enc)),(3,.pt 0 0 0)],[some ⟨5,60,[AA.enc x1],false⟩]⟩
 | (.inr w)=>e = .ret/\Wk E0 s ⟨Fr 47 [(4,.v (.int .i64 w))],[]⟩):=by
 intro f;induction f with
 | zero=>intro c9 r h; cases h
 | succ f ih0 =>
  intro c9 r h
  have ih:=fun (c9:Int)=>ih0 c9 r
  unfold FR at h;refine Bc ?_
  let p1:Option Blk:=some ⟨5,60,[AA.enc x1],false⟩
  let p2:Nat×AV:=(27,.v (.int .i64 c9))
  let p3:Nat×AV:=(26,.v (.int .i64 (x1.2.2.2.1.length:Int)))
  let p4:Nat×AV:=(25,.sl 1 (x1.2.2.2.1.map cdS.enc))
  let p5:Nat×AV:=(3,.pt 0 0 0)
  let p6:Nat×AV:=(0,.sl 5 (x0.map AA.enc))
  refine AK AC [p6,p5,p4,p3,p2,(28,.v (.bool (decide (c9 < (x1.2.2.2.1.length:Int)))))] [p1] ?_;refine AG ?_;refine AP (b:=(decide (c9 < (x1.2.2.2.1.length:Int)))) kr (fun hb10=>?_) (fun hb10=>?_)
  ·rw [if_pos hb10] at h
   refine AT ?_;refine AG ?_;refine Aa ?_;refine AG ?_;obtain ⟨v11,hv11,h⟩:=OB h;refine AL (s1:=⟨Fr 47 [p6,p5,(5,.v (.int .i64 c9)),(6,.st v11),p4,p3,p2],[p1]⟩) ?_ ?_
   ·refine AD (n:=47) AC 1 [p6,p5,p4,p3,p2,(29,.v (.int .i64 c9))] [p1] kr ?_
    refine AW AC 0 rfl (DW (AB rfl) rfl (AS (a:= .sl 1 (x1.2.2.2.1.map cdS.enc)) (b:= .v (.int .i64 c9)) kr kr (DP (e:=cdS.enc) (el:=9) (k:=1) (ki:= .i64) kr kr hv11))) ?_;exact AX AC
   refine AG ?_;by_cases hk12:(Nx 0 c9 x1.2.2.2.1.length)=true
   case neg=>rw [if_neg hk12] at h; cases h
   rw [if_pos hk12] at h;obtain ⟨v13,hv13,h⟩:=OB h;refine AL (s1:=⟨Fr 47 [p6,p5,p4,p3,p2,(37,.v (.bool v13))],[p1]⟩) ?_ ?_
   ·refine AD (n:=47) AC 3 [p6,p5,(6,.st v11),p4,p3,p2,(33,.sl 1 (x1.2.2.2.1.map cdS.enc)),(34,.v (.int .i64 c9))] [p1] kr ?_
    refine AW AC 0 rfl (DW (AB rfl) rfl (S0 (a:= .sl 1 (x1.2.2.2.1.map cdS.enc)) (l:=none) (u:=(some (.v (.int .i64 c9)))) (m:=none) kr kr kr rfl (VK (xs:=x1.2.2.2.1) (e:=cdS.enc) (k:=1) (el:=9) (lo:=0) (hi:=c9) kr kr rfl (X2 (ZN hk12)) hk12))) ?_;refine AD (n:=47) AC 1 [p6,p5,p4,p3,p2,(35,.sl 1 (((x1.2.2.2.1.take c9.toNat).drop (0:Int).toNat).map cdS.enc)),(36,.st v11)] [p1] kr ?_;refine AN (caps:=[]) (xs:=[.sl 1 (((x1.2.2.2.1.take c9.toNat).drop (0:Int).toNat).map cdS.enc),.st v11]) (u:=(((x1.2.2.2.1.take c9.toNat).drop (0:Int).toNat),v11,())) rfl rfl Da rfl (AB rfl) kr kr (AJ (AQ (c:=(cdL 1 cdS)) (v:=((x1.2.2.2.1.take c9.toNat).drop (0:Int).toNat))) (AJ (AQ (c:=cdS) (v:=v11)) Ah)) (.inl kr) hv13 ?_;exact AI rfl (Ac [0] ⟨⟨_,rfl,GO⟩,trivial⟩ ⟨lv,lv,lv,lv,lv,lv,trivial⟩)
   refine AP (b:=v13) kr (fun hb14=>?_) (fun hb14=>?_)
   ·rw [if_pos hb14] at h
    refine AG ?_;refine AL (s1:=⟨Fr 47 [(4,.v (.int .i64 5))],[]⟩) ?_ ?_
    ·refine AD (n:=47) AC 1 [(4,.v (.int .i64 5))] [p1] kr ?_
     exact AI rfl (Ac [] trivial ⟨lv,trivial⟩)
    refine AO ?_;have hq:=OI h; subst hq;exact ⟨rfl,AM⟩
   ·rw [BV hb14] at h
    refine AT ?_
    let p7:Nat×AV:=(27,.v (.int .i64 (wr .i64 (c9 + 1))))
    refine DC AC [p6,p5,p4,p3,p7] [p1] ?_;exact Aj (s1:=⟨Fr 47 [p6,p5,p4,p3,p7],[p1]⟩) (Ac [0] ⟨⟨_,rfl,GO⟩,trivial⟩ ⟨lv,lv,lv,lv,lv,trivial⟩) (ih (wr .i64 (c9 + 1)) h)
  ·rw [BV hb10] at h
   refine CA ?_;have hq:=OI h; subst hq;exact ⟨rfl,(Ac [0] ⟨⟨_,rfl,GO⟩,trivial⟩ ⟨lv,lv,trivial⟩)⟩
theorem Sa (x0:(List AH)) (x1:AH) (r:Int) (h:H4 x0 x1=some r):Sem E0 ⟨none,false⟩ Ln ⟨Fr 47 (A0 0 (Lt.enc (x0,x1,()))),[]⟩ fun e s'=>(e = .normal\/e = .ret)/\∃ xs,Dz E0.P s'.fr s'.hp Tryz.f128.results.toList=some xs/\D0 xs=L4 r:=by
 unfold H4 at h;refine Ao (BL (s1:=⟨Fr 47 [(0,.sl 5 (x0.map AA.enc)),(1,AA.enc x1)],[]⟩) AM ?_);refine AK AC [(0,.sl 5 (x0.map AA.enc)),(3,.pt 0 0 0)] [some ⟨5,60,[AA.enc x1],false⟩] ?_;refine AG ?_;refine AG ?_;obtain ⟨v1,hv1,h⟩:=OB h;refine AL (s1:=⟨Fr 47 [(0,.sl 5 (x0.map AA.enc)),(3,.pt 0 0 0),(9,.v (.bool (!v1)))],[some ⟨5,60,[AA.enc x1],false⟩]⟩) ?_ ?_
 ·refine AD (n:=47) AC 1 [(0,.sl 5 (x0.map AA.enc)),(3,.pt 0 0 0),(7,AA.enc x1)] [some ⟨5,60,[AA.enc x1],false⟩] kr ?_
  refine AN (caps:=[]) (xs:=[AA.enc x1]) (u:=(x1,())) rfl rfl UI rfl (AB rfl) kr kr (AJ (AQ (c:=AA) (v:=x1)) Ah) (.inl kr) hv1 ?_;exact AX AC
 refine AP (b:=(!v1)) kr (fun hb2=>?_) (fun hb2=>?_)
 ·rw [if_pos hb2] at h
  refine AG ?_;refine AL (s1:=⟨Fr 47 [(4,.v (.int .i64 30))],[]⟩) ?_ ?_
  ·refine AD (n:=47) AC 1 [(4,.v (.int .i64 30))] [some ⟨5,60,[AA.enc x1],false⟩] kr ?_
   exact AI rfl (Ac [] trivial ⟨lv,trivial⟩)
  refine AO ?_;have hq:=OI h; subst hq;exact ⟨⟨Fr 47 [(4,.v (.int .i64 30))],[]⟩,AM,.inr rfl,[.v (.int .i64 30)],kr,kr⟩
 ·rw [BV hb2] at h
  refine AT ?_;refine AG ?_;refine AG ?_;obtain ⟨j7,hj7,h⟩:=OB h;refine AL (s1:=⟨Fr 47 [(0,.sl 5 (x0.map AA.enc)),(3,.pt 0 0 0),(23,.v (.bool j7))],[some ⟨5,60,[AA.enc x1],false⟩]⟩) ?_ ?_
  ·refine AD (n:=47) AC 4 [(0,.sl 5 (x0.map AA.enc)),(3,.pt 0 0 0),(13,.v (.bool (!(x1.2.1==[]))))] [some ⟨5,60,[AA.enc x1],false⟩] kr ?_
   rcases BE (!(x1.2.1==[])) with hc24 | hc24
   ·rw [if_pos hc24] at hj7
    rw [hc24];refine AD (n:=47) AC 2 [(0,.sl 5 (x0.map AA.enc)),(3,.pt 0 0 0),(13,.v (.bool true)),(15,.st x1.2.1)] [some ⟨5,60,[AA.enc x1],false⟩] kr ?_;obtain ⟨v3,hv3,hj7⟩:=OB hj7;refine AN (caps:=[]) (xs:=[.st x1.2.1]) (u:=(x1.2.1,())) rfl rfl RV rfl kr kr kr (AJ (AQ (c:=cdS) (v:=x1.2.1)) Ah) (.inl kr) hv3 ?_;refine AD (n:=47) AC 3 [(0,.sl 5 (x0.map AA.enc)),(3,.pt 0 0 0),(19,.v (.bool (!v3)))] [some ⟨5,60,[AA.enc x1],false⟩] kr ?_;rcases BE (!v3) with hc25 | hc25
    ·rw [if_pos hc25] at hj7
     rw [hc25];refine AD (n:=47) AC 4 [(0,.sl 5 (x0.map AA.enc)),(3,.pt 0 0 0),(23,.v (.bool true))] [some ⟨5,60,[AA.enc x1],false⟩] kr ?_;have hq:=OI hj7; subst hq;exact AI rfl (Ac [0] ⟨⟨_,rfl,GO⟩,trivial⟩ ⟨lv,lv,lv,trivial⟩)
    ·rw [BV hc25] at hj7
     rw [hc25];refine AD (n:=47) AC 2 [(0,.sl 5 (x0.map AA.enc)),(3,.pt 0 0 0),(19,.v (.bool false)),(21,.sl 1 (x1.2.2.2.1.map cdS.enc))] [some ⟨5,60,[AA.enc x1],false⟩] kr ?_;obtain ⟨v4,hv4,hj7⟩:=OB hj7;refine AN (caps:=[]) (xs:=[.sl 1 (x1.2.2.2.1.map cdS.enc),.fn 160 [] []]) (u:=(x1.2.2.2.1,(),())) rfl rfl DX rfl kr kr kr (AJ (AQ (c:=(cdL 1 cdS)) (v:=x1.2.2.2.1)) (AJ (Sm.fn Ah) Ah)) (.inl kr) hv4 ?_;refine AD (n:=47) AC 1 [(0,.sl 5 (x0.map AA.enc)),(3,.pt 0 0 0),(23,.v (.bool v4))] [some ⟨5,60,[AA.enc x1],false⟩] kr ?_;have hq:=OI hj7; subst hq;exact AI rfl (Ac [0] ⟨⟨_,rfl,GO⟩,trivial⟩ ⟨lv,lv,lv,trivial⟩)
   ·rw [BV hc24] at hj7
    rw [hc24];refine AD (n:=47) AC 8 [(0,.sl 5 (x0.map AA.enc)),(3,.pt 0 0 0),(19,.v (.bool false)),(21,.sl 1 (x1.2.2.2.1.map cdS.enc))] [some ⟨5,60,[AA.enc x1],false⟩] kr ?_;obtain ⟨v5,hv5,hj7⟩:=OB hj7;refine AN (caps:=[]) (xs:=[.sl 1 (x1.2.2.2.1.map cdS.enc),.fn 160 [] []]) (u:=(x1.2.2.2.1,(),())) rfl rfl DX rfl kr kr kr (AJ (AQ (c:=(cdL 1 cdS)) (v:=x1.2.2.2.1)) (AJ (Sm.fn Ah) Ah)) (.inl kr) hv5 ?_;refine AD (n:=47) AC 1 [(0,.sl 5 (x0.map AA.enc)),(3,.pt 0 0 0),(23,.v (.bool v5))] [some ⟨5,60,[AA.enc x1],false⟩] kr ?_;have hq:=OI hj7; subst hq;exact AI rfl (Ac [0] ⟨⟨_,rfl,GO⟩,trivial⟩ ⟨lv,lv,lv,trivial⟩)
  refine AP (b:=j7) kr (fun hb8=>?_) (fun hb8=>?_)
  ·rw [if_pos hb8] at h
   refine AG ?_;refine AL (s1:=⟨Fr 47 [(4,.v (.int .i64 4))],[]⟩) ?_ ?_
   ·refine AD (n:=47) AC 1 [(4,.v (.int .i64 4))] [some ⟨5,60,[AA.enc x1],false⟩] kr ?_
    exact AI rfl (Ac [] trivial ⟨lv,trivial⟩)
   refine AO ?_;have hq:=OI h; subst hq;exact ⟨⟨Fr 47 [(4,.v (.int .i64 4))],[]⟩,AM,.inr rfl,[.v (.int .i64 4)],kr,kr⟩
  ·rw [BV hb8] at h
   refine AT ?_;refine AG ?_;refine AG ?_;refine AL (s1:=⟨Fr 47 [(0,.sl 5 (x0.map AA.enc)),(3,.pt 0 0 0),(25,.sl 1 (x1.2.2.2.1.map cdS.enc)),(26,.v (.int .i64 (x1.2.2.2.1.length:Int))),(27,.v (.int .i64 0))],[some ⟨5,60,[AA.enc x1],false⟩]⟩) ?_ ?_
   ·refine AD (n:=47) AC 2 [(0,.sl 5 (x0.map AA.enc)),(3,.pt 0 0 0),(25,.sl 1 (x1.2.2.2.1.map cdS.enc))] [some ⟨5,60,[AA.enc x1],false⟩] kr ?_
    refine AW AC 0 rfl (DW (AB rfl) rfl (CO (a:= .sl 1 (x1.2.2.2.1.map cdS.enc)) kr (BS (el:=9) kr))) ?_;exact AX AC
   refine Aa ?_;obtain ⟨r16,hr16,h⟩:=OB h;refine CF (n:=100000) ?_;rcases r16 with w17 | w23
   ·try dsimp only at h
    refine A1 (Aj (s1:=⟨Fr 47 [(0,.sl 5 (x0.map AA.enc)),(3,.pt 0 0 0),(25,.sl 1 (x1.2.2.2.1.map cdS.enc)),(26,.v (.int .i64 (x1.2.2.2.1.length:Int))),(27,.v (.int .i64 0))],[some ⟨5,60,[AA.enc x1],false⟩]⟩) (Ac [0] ⟨⟨_,rfl,GO⟩,trivial⟩ ⟨lv,lv,lv,lv,lv,trivial⟩) (MK x0 x1 _ 0 _ hr16)) ?_;refine AG ?_;refine AG ?_;obtain ⟨j20,hj20,h⟩:=OB h;refine AL (s1:=⟨Fr 47 [(46,.v (.bool j20))],[]⟩) ?_ ?_
    ·refine AD (n:=47) AC 4 [(0,.sl 5 (x0.map AA.enc)),(3,.pt 0 0 0),(42,.v (.bool (x1.2.1==[])))] [some ⟨5,60,[AA.enc x1],false⟩] kr ?_
     rcases BE (x1.2.1==[]) with hc22 | hc22
     ·rw [if_pos hc22] at hj20
      rw [hc22];refine AD (n:=47) AC 4 [(46,.v (.bool true))] [some ⟨5,60,[AA.enc x1],false⟩] kr ?_;have hq:=OI hj20; subst hq;exact AI rfl (Ac [] trivial ⟨lv,trivial⟩)
     ·rw [BV hc22] at hj20
      rw [hc22];refine AD (n:=47) AC 2 [(42,.v (.bool false)),(43,.sl 5 (x0.map AA.enc)),(44,.fn 161 [] [.pt 0 0 0])] [some ⟨5,60,[AA.enc x1],false⟩] kr ?_;obtain ⟨v18,hv18,hj20⟩:=OB hj20;refine AN (caps:=[]) (xs:=[.sl 5 (x0.map AA.enc),.fn 161 [] [.pt 0 0 0]]) (u:=(x0,x1,())) rfl rfl Ec rfl kr kr kr (AJ (AQ (c:=(cdL 5 AA)) (v:=x0)) (AJ (Sm.fn (Um (Sm.pt (k:=5) (t:=60) (fz:=false) (y:=(AA.enc x1)) kr (AQ (c:=AA) (v:=x1))))) Ah)) (.inl kr) hv18 ?_;refine AD (n:=47) AC 1 [(46,.v (.bool v18))] [some ⟨5,60,[AA.enc x1],false⟩] kr ?_;have hq:=OI hj20; subst hq;exact AI rfl (Ac [] trivial ⟨lv,trivial⟩)
    refine AP (b:=j20) kr (fun hb21=>?_) (fun hb21=>?_)
    ·rw [if_pos hb21] at h
     refine AK AC [(4,.v (.int .i64 0))] [] ?_;refine AO ?_;have hq:=OI h; subst hq;exact ⟨⟨Fr 47 [(4,.v (.int .i64 0))],[]⟩,AM,.inr rfl,[.v (.int .i64 0)],kr,kr⟩
    ·rw [BV hb21] at h
     refine AT ?_;refine AK AC [(4,.v (.int .i64 31))] [] ?_;refine AO ?_;have hq:=OI h; subst hq;exact ⟨⟨Fr 47 [(4,.v (.int .i64 31))],[]⟩,AM,.inr rfl,[.v (.int .i64 31)],kr,kr⟩
   ·try dsimp only at h
    refine A1 (Aj (s1:=⟨Fr 47 [(0,.sl 5 (x0.map AA.enc)),(3,.pt 0 0 0),(25,.sl 1 (x1.2.2.2.1.map cdS.enc)),(26,.v (.int .i64 (x1.2.2.2.1.length:Int))),(27,.v (.int .i64 0))],[some ⟨5,60,[AA.enc x1],false⟩]⟩) (Ac [0] ⟨⟨_,rfl,GO⟩,trivial⟩ ⟨lv,lv,lv,lv,lv,trivial⟩) (MK x0 x1 _ 0 _ hr16)) ?_;have hq:=OI h; subst hq;exact ⟨⟨Fr 47 [(4,.v (.int .i64 w23))],[]⟩,AM,.inr rfl,[.v (.int .i64 w23)],kr,kr⟩
def VQ:List AV->Option AV:=Dm Lt (fun a=>H4 a.1 a.2.1) L4
theorem Vd:XOk 128 VQ:=by
 refine AR Tryz.func128 (c:=Ln) ?h2 ⟨Tryz.call128⟩ Lt (fun a=>H4 a.1 a.2.1) L4 (fun a=>(by show 2<=47; decide)) ?h3 ?h4
 case h2=>kernel_rfl
 case h3=>intro b; kernel_rfl
 case h4=>exact fun a b h=>Sa a.1 a.2.1 b h
/- trestle/court.Check -/
noncomputable def Lm:Code:=A9 Tryz.f80
def FQ (x0:(List AH)):Nat->Int->Option ((Unit) ⊕ (Int×Int))
 | 0,_=>none
 | f + 1,c2 =>
  if (decide (c2 < (x0.length:Int)))=true then
  (idx x0 c2).bind fun v4 =>
  if (Nx 0 c2 x0.length)=true then
  (H4 ((x0.take c2.toNat).drop (0:Int).toNat) v4).bind fun v6 =>
  if (v6 != 0)=true then
  some (.inr (c2,v6))
  else
  FQ x0 f (wr .i64 (c2 + 1))
  else none
  else
  some (.inl ())
def HJ (x0:(List AH)):Option (Int×Int) :=
 if (decide ((x0.length:Int) > 32))=true then
 some (0,7)
 else
 (FQ x0 100000 0).bind fun r10 =>
 match r10 with
 | (.inl _w11) =>
  some (0,0)
 | (.inr w12) =>
  some (w12.1,w12.2)
def Ls:Cs ((List AH)×Unit):=(csC (cdL 5 AA) csN)
def L1 (r:Int×Int):AV:= .tp [cdI.enc r.1,cdI.enc r.2]
theorem MJ (x0:(List AH)):∀ (f:Nat) (c2:Int) (r:(Unit) ⊕ (Int×Int)),FQ x0 f c2=some r->SemN E0 ⟨none,false⟩ (pc Lm [1,1,0,1,0,0]) f ⟨Fr 27 [(0,.sl 5 (x0.map AA.enc)),(10,.sl 5 (x0.map AA.enc)),(11,.v (.int .i64 (x0.length:Int))),(12,.v (.int .i64 c2))],[]⟩ (fun e s=>match r with
 | (.inl _w)=>e=(.exit 0)/\Wk E0 s ⟨Fr 27 [],[]⟩
 | (.inr w)=>e = .ret/\Wk E0 s ⟨Fr 27 [(2,.v (.int .i64 w.1)),(3,.v (.int .i64 w.2))],[]⟩):=by
 intro f;induction f with
 | zero=>intro c2 r h; cases h
 | succ f ih0 =>
  intro c2 r h
  have ih:=fun (c2:Int)=>ih0 c2 r
  unfold FQ at h;refine Bc ?_
  let p1:Nat×AV:=(12,.v (.int .i64 c2))
  let p2:Nat×AV:=(11,.v (.int .i64 (x0.length:Int)))
  let p3:Nat×AV:=(10,.sl 5 (x0.map AA.enc))
  let p4:Nat×AV:=(0,.sl 5 (x0.map AA.enc))
  refine AK AC [p4,p3,p2,p1,(13,.v (.bool (decide (c2 < (x0.length:Int)))))] [] ?_;refine AG ?_;refine AP (b:=(decide (c2 < (x0.length:Int)))) kr (fun hb3=>?_) (fun hb3=>?_)
  ·rw [if_pos hb3] at h
   refine AT ?_;refine AG ?_;refine Aa ?_;refine AG ?_;obtain ⟨v4,hv4,h⟩:=OB h
   let p5:Option Blk:=some ⟨5,60,[AA.enc v4],false⟩
   let p6:Nat×AV:=(4,.v (.int .i64 c2))
   refine AL (s1:=⟨Fr 27 [p4,p6,(5,.pt 0 0 0),p3,p2,p1],[p5]⟩) ?_ ?_
   ·refine AD (n:=27) AC 1 [p4,p3,p2,p1,(14,.v (.int .i64 c2))] [] kr ?_
    refine AW AC 0 rfl (DW (AB rfl) rfl (AS (a:= .sl 5 (x0.map AA.enc)) (b:= .v (.int .i64 c2)) kr kr (DP (e:=AA.enc) (el:=60) (k:=5) (ki:= .i64) kr kr hv4))) ?_;exact AX AC
   refine AG ?_;by_cases hk5:(Nx 0 c2 x0.length)=true
   case neg=>rw [if_neg hk5] at h; cases h
   rw [if_pos hk5] at h;obtain ⟨v6,hv6,h⟩:=OB h
   let p7:Nat×AV:=(6,.v (.int .i64 v6))
   refine C0 AC (s1:=⟨Fr 27 [p4,p6,p7,p3,p2,p1],[]⟩) kr ?_ ?_
   ·refine AU (n:=27) AC 2 [p4,p6,(5,.pt 0 0 0),p3,p2,p1,(17,.sl 5 (x0.map AA.enc)),(18,.v (.int .i64 c2))] [p5] kr kr ?_
    refine RunDS.one AC rfl kr (HF kr (AB rfl) rfl (S0 (a:= .sl 5 (x0.map AA.enc)) (l:=none) (u:=(some (.v (.int .i64 c2)))) (m:=none) kr kr kr rfl (VK (xs:=x0) (e:=AA.enc) (k:=5) (el:=60) (lo:=0) (hi:=c2) kr kr rfl (X2 (ZN hk5)) hk5)) kr) ?_;refine AU (n:=27) AC 1 [p4,p6,p3,p2,p1,(19,.sl 5 (((x0.take c2.toNat).drop (0:Int).toNat).map AA.enc)),(20,AA.enc v4)] [p5] kr kr ?_;refine BQ (caps:=[]) (xs:=[.sl 5 (((x0.take c2.toNat).drop (0:Int).toNat).map AA.enc),AA.enc v4]) (u:=(((x0.take c2.toNat).drop (0:Int).toNat),v4,())) rfl rfl Vd rfl (AB rfl) kr kr (AJ (AQ (c:=(cdL 5 AA)) (v:=((x0.take c2.toNat).drop (0:Int).toNat))) (AJ (AQ (c:=AA) (v:=v4)) Ah)) kr hv6 ?_;refine AU (n:=27) AC 1 [p4,p6,p7,p3,p2,p1] [p5] kr kr ?_;exact RunDS.done rfl (Ac [] trivial ⟨lv,lv,lv,lv,lv,lv,trivial⟩)
   refine AK AC [p4,p6,p7,p3,p2,p1,(23,.v (.bool (v6 != 0)))] [] ?_;refine AP (b:=(v6 != 0)) kr (fun hb7=>?_) (fun hb7=>?_)
   ·rw [if_pos hb7] at h
    refine AK AC [(2,.v (.int .i64 c2)),(3,.v (.int .i64 v6))] [] ?_;refine AO ?_;have hq:=OI h; subst hq;exact ⟨rfl,AM⟩
   ·rw [BV hb7] at h
    refine AT ?_
    let p8:Nat×AV:=(12,.v (.int .i64 (wr .i64 (c2 + 1))))
    refine DC AC [p4,p3,p2,p8] [] ?_;exact Aj (s1:=⟨Fr 27 [p4,p3,p2,p8],[]⟩) AM (ih (wr .i64 (c2 + 1)) h)
  ·rw [BV hb3] at h
   refine CA ?_;have hq:=OI h; subst hq;exact ⟨rfl,AM⟩
theorem SX (x0:(List AH)) (r:Int×Int) (h:HJ x0=some r):Sem E0 ⟨none,false⟩ Lm ⟨Fr 27 (A0 0 (Ls.enc (x0,()))),[]⟩ fun e s'=>(e = .normal\/e = .ret)/\∃ xs,Dz E0.P s'.fr s'.hp Tryz.f80.results.toList=some xs/\D0 xs=L1 r:=by
 unfold HJ at h
 let p1:Nat×AV:=(0,.sl 5 (x0.map AA.enc))
 refine Ao (BL (s1:=⟨Fr 27 [p1],[]⟩) AM ?_);refine AK AC [p1] [] ?_;refine AG ?_;refine AG ?_;refine AL (s1:=⟨Fr 27 [p1,(9,.v (.bool (decide ((x0.length:Int) > 32))))],[]⟩) ?_ ?_
 ·refine AD (n:=27) AC 1 [p1,(7,.sl 5 (x0.map AA.enc))] [] kr ?_
  refine AW AC 0 rfl (DW (AB rfl) rfl (CO (a:= .sl 5 (x0.map AA.enc)) kr (BS (el:=60) kr))) ?_;exact AX AC
 refine AP (b:=(decide ((x0.length:Int) > 32))) kr (fun hb1=>?_) (fun hb1=>?_)
 ·rw [if_pos hb1] at h
  refine AK AC [(2,.v (.int .i64 0)),(3,.v (.int .i64 7))] [] ?_;refine AO ?_;have hq:=OI h; subst hq;exact ⟨⟨Fr 27 [(2,.v (.int .i64 0)),(3,.v (.int .i64 7))],[]⟩,AM,.inr rfl,[.v (.int .i64 0),.v (.int .i64 7)],kr,kr⟩
 ·rw [BV hb1] at h
  refine AT ?_;refine AG ?_;refine AG ?_
  let p2:Nat×AV:=(12,.v (.int .i64 0))
  let p3:Nat×AV:=(11,.v (.int .i64 (x0.length:Int)))
  let p4:Nat×AV:=(10,.sl 5 (x0.map AA.enc))
  refine AL (s1:=⟨Fr 27 [p1,p4,p3,p2],[]⟩) ?_ ?_
  ·refine AD (n:=27) AC 1 [p1,p4] [] kr ?_
   refine AW AC 0 rfl (DW (AB rfl) rfl (CO (a:= .sl 5 (x0.map AA.enc)) kr (BS (el:=60) kr))) ?_;exact AX AC
  refine Aa ?_;obtain ⟨r10,hr10,h⟩:=OB h;refine CF (n:=100000) ?_;rcases r10 with w11 | w12
  ·try dsimp only at h
   refine A1 (Aj (s1:=⟨Fr 27 [p1,p4,p3,p2],[]⟩) AM (MJ x0 _ 0 _ hr10)) ?_;refine AK AC [(2,.v (.int .i64 0)),(3,.v (.int .i64 0))] [] ?_;refine AO ?_;have hq:=OI h; subst hq;exact ⟨⟨Fr 27 [(2,.v (.int .i64 0)),(3,.v (.int .i64 0))],[]⟩,AM,.inr rfl,[.v (.int .i64 0),.v (.int .i64 0)],kr,kr⟩
  ·try dsimp only at h
   refine A1 (Aj (s1:=⟨Fr 27 [p1,p4,p3,p2],[]⟩) AM (MJ x0 _ 0 _ hr10)) ?_;have hq:=OI h; subst hq;exact ⟨⟨Fr 27 [(2,.v (.int .i64 w12.1)),(3,.v (.int .i64 w12.2))],[]⟩,AM,.inr rfl,[.v (.int .i64 w12.1),.v (.int .i64 w12.2)],kr,kr⟩
def VN:List AV->Option AV:=Dm Ls (fun a=>HJ a.1) L1
theorem QS:XOk 80 VN:=by
 refine AR Tryz.func80 (c:=Lm) ?h2 ⟨Tryz.call80⟩ Ls (fun a=>HJ a.1) L1 (fun a=>(by show 1<=27; decide)) ?h3 ?h4
 case h2=>kernel_rfl
 case h3=>intro b; kernel_rfl
 case h4=>exact fun a b h=>SX a.1 b h
/-- Lists that are told by one value. -/
noncomputable def csJ {α:Type}(e:α->List AV) (hi:∀ x y,e x=e y->x=y) (hn:∀ x,(e x).all FF=true):Cs α where
 enc:=e
 dec a:=open Classical in if h:∃ x,e x=a then some h.choose else none
 de x:=by
  have h:∃ y,e y=e x:=⟨x,rfl⟩
  rw [dif_pos h,hi _ _ h.choose_spec]
 vr:=fun {w Z a x u} hd hv=>by
  split at hd
  ·next h=>injection hd with hd; subst hd; rw [h.choose_spec]; exact hv
  ·cases hd
 nr:=hn
theorem Ul {α:Type}{n:Nat}{h:Hp}{s:Cs α}{a:α}:Sl (n + 2) h s (s.enc a) a :=
 ⟨s.enc a,Nk fun y hy=>OL (List.all_eq_true.1 (s.nr a) y hy) n,s.de a⟩
theorem ABU {α:Type}{c:Cd α}{x y:α}(h:c.enc x=c.enc y):x=y:=by
 have h1:=c.de x
 rw [h,c.de y] at h1
 exact (OI h1).symm
/-- The order of a clause without regard to Among. -/
def Px (c:AH):AV :=
 if (c.1==1)=true then .fn 205 [] [.pe (.fn 178 [] [.pe (AA.enc c) 0]) 0] else
 if (c.1==2)=true then .fn 179 [] [.pe (AA.enc c) 0] else
 if (c.1==3)=true then .fn 179 [] [.pe (AA.enc c) 0] else
 if (c.1==4)=true then .fn 205 [] [.pe (.fn 206 [] [.pe (.fn 182 [] [.pe (AA.enc c) 0]) 0,.pe (AA.enc c) 0]) 0] else
 if (c.1==5)=true then .fn 205 [] [.pe (.fn 206 [] [.pe (.fn 183 [] []) 0,.pe (AA.enc c) 0]) 0] else
 if (c.1==6)=true then .fn 205 [] [.pe (.fn 206 [] [.pe (.fn 184 [] [.pe (AA.enc c) 0]) 0,.pe (AA.enc c) 0]) 0] else
 if (c.1==7)=true then .fn 205 [] [.pe (.fn 206 [] [.pe (.fn 186 [] [.pe (AA.enc c) 0]) 0,.pe (AA.enc c) 0]) 0] else
 if (c.1==8)=true then .fn 187 [] [] else
 if (c.1==10)=true then .fn 209 [] [.pe (.fn 208 [] []) 0,.pe (.fn 190 [] [.pe (AA.enc c) 0]) 0] else
 .fn 209 [] [.pe (.fn 208 [] []) 0,.pe (.fn 191 [] []) 0]
def LZ (c:AH):AV:= .fn 165 [] [.pe (AA.enc c) 0,.pe (Px c) 0]
noncomputable def Bg:Cd AH:=cdJ LZ (fun x y h=>by
 unfold LZ at h
 injection h with _ _ h
 injection h with h
 injection h with h
 exact ABU h) (fun _=>rfl)
noncomputable def Vr:Cs AH:=csJ (fun c=>[.pe (AA.enc c) 0,.pe (Px c) 0]) (fun x y h=>by
 injection h with h
 injection h with h
 exact ABU h) (fun _=>rfl)
/-- A straight call, told by what the interpreter finds. -/
theorem Y1 {f:FuncId}(hc:Ch E0.P f){α β:Type}(s:Cs α) (F:α->Option β) (er:β->AV) (h:∀ a b,F a=some b->∃ n,CU E0 n f (s.enc a)=some (er b)):XOk f (Dm s F er):=by
 refine ⟨hc,fun xs y hy w Z us hz hg hv=>?_⟩
 obtain ⟨a,ha,hy⟩:=OB hy
 obtain ⟨b,hb,rfl⟩:=Option.map_eq_some_iff.1 hy
 obtain ⟨n,hn⟩:=h a b hb
 unfold CU at hn
 split at hn
 ·next x h' he=>exact frz_ret (enter_sound AC (code_sound AC n).1 he (hr_nil hz) (s.vr ha hv) hg (fun y hy=>by cases hy)) hn
 ·cases hn
def Gs (x0:AH):Option AH:=if 1<=x0.1/\x0.1<=10 then some x0 else none
def Cm:Cs (AH×Unit):=csC AA csN
noncomputable def J8 (r:AH):AV:=Bg.enc r
noncomputable def TD:List AV->Option AV:=Dm Cm (fun a=>Gs a.1) J8
section
variable (am:List UInt8) (la:Bool) (nm:List (List UInt8)) (m:Int)
theorem ACo:CU E0 300 133 (Cm.enc ((1,am,la,nm,m),()))=some (LZ (1,am,la,nm,m)):=by kernel_rfl
theorem ACp:CU E0 300 133 (Cm.enc ((2,am,la,nm,m),()))=some (LZ (2,am,la,nm,m)):=by kernel_rfl
theorem ACq:CU E0 300 133 (Cm.enc ((3,am,la,nm,m),()))=some (LZ (3,am,la,nm,m)):=by kernel_rfl
theorem ACr:CU E0 300 133 (Cm.enc ((4,am,la,nm,m),()))=some (LZ (4,am,la,nm,m)):=by kernel_rfl
theorem ACs:CU E0 300 133 (Cm.enc ((5,am,la,nm,m),()))=some (LZ (5,am,la,nm,m)):=by kernel_rfl
theorem ACt:CU E0 300 133 (Cm.enc ((6,am,la,nm,m),()))=some (LZ (6,am,la,nm,m)):=by kernel_rfl
theorem ACu:CU E0 300 133 (Cm.enc ((7,am,la,nm,m),()))=some (LZ (7,am,la,nm,m)):=by kernel_rfl
theorem ACv:CU E0 300 133 (Cm.enc ((8,am,la,nm,m),()))=some (LZ (8,am,la,nm,m)):=by kernel_rfl
theorem ACw:CU E0 300 133 (Cm.enc ((9,am,la,nm,m),()))=some (LZ (9,am,la,nm,m)):=by kernel_rfl
theorem AA1:CU E0 300 133 (Cm.enc ((10,am,la,nm,m),()))=some (LZ (10,am,la,nm,m)):=by kernel_rfl
end
theorem Tb:XOk 133 TD:=by
 refine Y1 ⟨Tryz.call133⟩ Cm (fun a=>Gs a.1) J8 fun a b h=>⟨300,?_⟩
 obtain ⟨⟨k,am,la,nm,m⟩,⟨⟩⟩:=a
 by_cases hk:1<=k/\k<=10
 ·have h1:some (k,am,la,nm,m)=some b:=(if_pos hk:Gs (k,am,la,nm,m)=_).symm.trans h
  have h2:J8 b=LZ (k,am,la,nm,m):=congrArg LZ (OI h1).symm
  rw [h2]
  clear h h1 h2
  have hk':k=1\/k=2\/k=3\/k=4\/k=5\/k=6\/k=7\/k=8\/k=9\/k=10:=by omega
  rcases hk' with rfl | rfl | rfl | rfl | rfl | rfl | rfl | rfl | rfl | rfl
  ·exact ACo am la nm m
  ·exact ACp am la nm m
  ·exact ACq am la nm m
  ·exact ACr am la nm m
  ·exact ACs am la nm m
  ·exact ACt am la nm m
  ·exact ACu am la nm m
  ·exact ACv am la nm m
  ·exact ACw am la nm m
  ·exact AA1 am la nm m
 ·exact nomatch ((if_neg hk:Gs (k,am,la,nm,m)=_).symm.trans h)
/- trestle/court.orders -/
noncomputable def Kg:Code:=A9 Tryz.f75
def Ee (x0:(List AH)):Nat->(List AH)->Int->Option (((List AH)))
 | 0,_,_=>none
 | f + 1,c3,c4 =>
  if (decide (c4 < (x0.length:Int)))=true then
  (idx x0 c4).bind fun v6 =>
  (Gs v6).bind fun v7 =>
  if (EC 8 (c3.length + 1))=true then
  Ee x0 f (c3++[v7]) (wr .i64 (c4 + 1))
  else none
  else
  some c3
def Gi (x0:(List AH)):Option ((List AH)×Bool) :=
 (HJ x0).bind fun v1 =>
 if (v1.2 != 0)=true then
 some ([],false)
 else
 (Ee x0 100000 [] 0).bind fun r10 =>
 some (r10,true)
noncomputable def Kr:Cs ((List AH)×Unit):=(csC (cdL 5 AA) csN)
noncomputable def K2 (r:(List AH)×Bool):AV:= .tp [(cdL 1 Bg).enc r.1,cdB.enc r.2]
theorem Pu (x0:(List AH)):∀ (f:Nat) (c3:(List AH)) (c4:Int) (r:((List AH))),Ee x0 f c3 c4=some r->SemN E0 ⟨none,false⟩ (pc Kg [1,1,1,0,1,0,0]) f ⟨Fr 29 [(6,hd 0 (c3.map Bg.enc)),(16,.sl 5 (x0.map AA.enc)),(17,.v (.int .i64 (x0.length:Int))),(18,.v (.int .i64 c4))],[mk 1 117 (c3.map Bg.enc)]⟩ (fun e s=>e=(.exit 0)/\Wk E0 s ⟨Fr 29 [(6,hd 0 (r.map Bg.enc))],[mk 1 117 (r.map Bg.enc)]⟩):=by
 intro f;induction f with
 | zero=>intro c3 c4 r h; cases h
 | succ f ih0 =>
  intro c3 c4 r h
  have ih:=fun (c3:(List AH)) (c4:Int)=>ih0 c3 c4 r
  unfold Ee at h;refine Bc ?_
  let p1:Option Blk:=mk 1 117 (c3.map Bg.enc)
  let p2:Nat×AV:=(18,.v (.int .i64 c4))
  let p3:Nat×AV:=(17,.v (.int .i64 (x0.length:Int)))
  let p4:Nat×AV:=(16,.sl 5 (x0.map AA.enc))
  refine AK AC [(6,hd 0 (c3.map Bg.enc)),p4,p3,p2,(19,.v (.bool (decide (c4 < (x0.length:Int)))))] [p1] ?_;refine AG ?_;refine AP (b:=(decide (c4 < (x0.length:Int)))) kr (fun hb5=>?_) (fun hb5=>?_)
  ·rw [if_pos hb5] at h
   refine AT ?_;refine AG ?_;refine Aa ?_;refine AG ?_;obtain ⟨v6,hv6,h⟩:=OB h
   let p5:Option Blk:=some ⟨5,60,[AA.enc v6],false⟩
   refine AL (s1:=⟨Fr 29 [(6,hd 0 (c3.map Bg.enc)),(8,.pt 1 0 0),p4,p3,p2],[p1,p5]⟩) ?_ ?_
   ·refine AW AC 0 rfl (DW (AB rfl) rfl (AS (a:= .sl 5 (x0.map AA.enc)) (b:= .v (.int .i64 c4)) kr kr (DP (e:=AA.enc) (el:=60) (k:=5) (ki:= .i64) kr kr hv6))) ?_
    exact AX AC
   obtain ⟨v7,hv7,h⟩:=OB h;by_cases hk8:(EC 8 (c3.length + 1))=true
   case neg=>rw [if_neg hk8] at h; cases h
   rw [if_pos hk8] at h
   let p6:Option Blk:=mk 1 117 ((c3++[v7]).map Bg.enc)
   let p7:Nat×AV:=(6,hd 0 ((c3++[v7]).map Bg.enc))
   refine AL (s1:=⟨Fr 29 [p7,p4,p3,p2],[p6]⟩) ?_ ?_
   ·refine AD (n:=29) AC 2 [p4,p3,p2,(22,hd 0 (c3.map Bg.enc)),(23,AA.enc v6)] [p1,p5] kr ?_
    refine AN (caps:=[]) (xs:=[AA.enc v6]) (u:=(v6,())) rfl rfl Tb rfl (AB rfl) kr kr (AJ (AQ (c:=AA) (v:=v6)) Ah) (.inr kr) hv7 ?_;refine AD (n:=29) AC 1 [p4,p3,p2,(22,hd 0 (c3.map Bg.enc)),(25,hd 2 ([v7].map Bg.enc))] [p1,p5,mk 1 117 ([v7].map Bg.enc)] kr ?_;refine AW AC 0 rfl (UX (AB rfl) rfl kr kr (Dg (a:=hd 0 (c3.map Bg.enc)) (b:=hd 2 ([v7].map Bg.enc)) kr kr (LN (c:=Bg) (xs:=c3) (vs:=[v7]) (k:=1) (bytes:=8) (el:=117) kr kr (GS (t:=117) kr) (List.cons_ne_nil _ _) kr hk8))) ?_;refine AD (n:=29) AC 1 [(6,hd 3 ((c3++[v7]).map Bg.enc)),p4,p3,p2] [none,p5,mk 1 117 ([v7].map Bg.enc),p6] kr ?_;exact AI rfl (Ac [3] ⟨⟨_,rfl,IL⟩,trivial⟩ ⟨IM (b':=3) kr kr,lv,lv,lv,trivial⟩)
   let p8:Nat×AV:=(18,.v (.int .i64 (wr .i64 (c4 + 1))))
   refine DC AC [p7,p4,p3,p8] [p6] ?_;exact Aj (s1:=⟨Fr 29 [p7,p4,p3,p8],[p6]⟩) (Ac [0] ⟨⟨_,rfl,IL⟩,trivial⟩ ⟨IM (b':=0) kr kr,lv,lv,lv,trivial⟩) (ih (c3++[v7]) (wr .i64 (c4 + 1)) h)
  ·rw [BV hb5] at h
   refine CA ?_;have hq:=OI h; subst hq;exact ⟨rfl,(Ac [0] ⟨⟨_,rfl,IL⟩,trivial⟩ ⟨IM (b':=0) kr kr,trivial⟩)⟩
theorem Ra (x0:(List AH)) (r:(List AH)×Bool) (h:Gi x0=some r):Sem E0 ⟨none,false⟩ Kg ⟨Fr 29 (A0 0 (Kr.enc (x0,()))),[]⟩ fun e s'=>(e = .normal\/e = .ret)/\∃ xs,Dz E0.P s'.fr s'.hp Tryz.f75.results.toList=some xs/\D0 xs=K2 r:=by
 unfold Gi at h
 let p1:Nat×AV:=(0,.sl 5 (x0.map AA.enc))
 refine Ao (BL (s1:=⟨Fr 29 [p1],[]⟩) AM ?_);refine AK AC [p1] [] ?_;refine AG ?_;refine AG ?_;obtain ⟨v1,hv1,h⟩:=OB h;refine AL (s1:=⟨Fr 29 [p1,(5,.v (.int .i64 v1.2))],[]⟩) ?_ ?_
 ·refine AD (n:=29) AC 1 [p1,(10,.sl 5 (x0.map AA.enc))] [] kr ?_
  refine AN (caps:=[]) (xs:=[.sl 5 (x0.map AA.enc)]) (u:=(x0,())) rfl rfl QS rfl (AB rfl) kr kr (AJ (AQ (c:=(cdL 5 AA)) (v:=x0)) Ah) (.inl kr) hv1 ?_;exact AX AC
 refine AK AC [p1,(15,.v (.bool (v1.2 != 0)))] [] ?_;refine AP (b:=(v1.2 != 0)) kr (fun hb2=>?_) (fun hb2=>?_)
 ·rw [if_pos hb2] at h
  let p2:Nat×AV:=(3,.v (.bool false))
  refine AK AC [(2,.e0),p2] [] ?_;refine AO ?_;have hq:=OI h; subst hq;exact ⟨⟨Fr 29 [(2,.sl 1 ([].map Bg.enc)),p2],[]⟩,(Wk.trans (s1:=⟨Fr 29 [(2,.e0),p2],[]⟩) AM (Wk.trans (s1:=⟨Fr 29 [(2,.e0),p2],[none]⟩) Wk.none (Wk.trans (s1:=⟨Fr 29 [(2,.sl 1 ([].map Bg.enc)),p2],[none]⟩) (HH 0 (.inr kr) ⟨.inl rfl,trivial⟩ ⟨⟨.e0,kr,Si⟩,⟨.v (.bool false),kr,.inl rfl⟩,trivial⟩) (Ac [] trivial ⟨lv,lv,trivial⟩)))),.inr rfl,[.sl 1 ([].map Bg.enc),.v (.bool false)],kr,kr⟩
 ·rw [BV hb2] at h
  refine AT ?_;refine AK AC [p1,(6,.e0)] [] ?_;refine AG ?_;refine AG ?_
  let p3:Nat×AV:=(18,.v (.int .i64 0))
  let p4:Nat×AV:=(17,.v (.int .i64 (x0.length:Int)))
  let p5:Nat×AV:=(16,.sl 5 (x0.map AA.enc))
  refine AL (s1:=⟨Fr 29 [(6,.e0),p5,p4,p3],[]⟩) ?_ ?_
  ·refine AD (n:=29) AC 1 [(6,.e0),p5] [] kr ?_
   refine AW AC 0 rfl (DW (AB rfl) rfl (CO (a:= .sl 5 (x0.map AA.enc)) kr (BS (el:=60) kr))) ?_;exact AX AC
  refine Aa ?_;obtain ⟨r10,hr10,h⟩:=OB h;refine CF (n:=100000) ?_;refine A1 (Aj (s1:=⟨Fr 29 [(6,hd 0 ([].map Bg.enc)),p5,p4,p3],[mk 1 117 ([].map Bg.enc)]⟩) (Wk.trans (s1:=⟨Fr 29 [(6,hd 0 ([].map Bg.enc)),p5,p4,p3],[mk 1 117 ([].map Bg.enc)]⟩) Wk.none (Ac [0] ⟨⟨_,rfl,MX⟩,trivial⟩ ⟨lv,lv,lv,lv,trivial⟩)) (Pu x0 _ [] 0 _ hr10)) ?_
  let p6:Nat×AV:=(3,.v (.bool true))
  refine AK AC [(2,hd 0 (r10.map Bg.enc)),p6] [mk 1 117 (r10.map Bg.enc)] ?_;refine AO ?_;have hq:=OI h; subst hq;exact ⟨⟨Fr 29 [(2,.sl 1 (r10.map Bg.enc)),p6],[]⟩,(Wk.trans (s1:=⟨Fr 29 [(2,.sl 1 (r10.map Bg.enc)),p6],[none]⟩) (HH 0 (.inl kr) ⟨.inl rfl,trivial⟩ ⟨⟨hd 0 (r10.map Bg.enc),kr,V4 (t:=117) kr Nz⟩,⟨.v (.bool true),kr,.inl rfl⟩,trivial⟩) (Ac [] trivial ⟨lv,lv,trivial⟩)),.inr rfl,[.sl 1 (r10.map Bg.enc),.v (.bool true)],kr,kr⟩
noncomputable def T7:List AV->Option AV:=Dm Kr (fun a=>Gi a.1) K2
theorem PD:XOk 75 T7:=by
 refine AR Tryz.func75 (c:=Kg) ?h2 ⟨Tryz.call75⟩ Kr (fun a=>Gi a.1) K2 (fun a=>(by show 1<=29; decide)) ?h3 ?h4
 case h2=>kernel_rfl
 case h3=>intro b; kernel_rfl
 case h4=>exact fun a b h=>Ra a.1 b h
/- trestle/court.list -/
noncomputable def MZ:Code:=A9 Tryz.f79
def D3 (x0:(List Af)):Nat->(List Ae)->Int->Option (((List Ae)))
 | 0,_,_=>none
 | f + 1,c1,c2 =>
  if (decide (c2 < (x0.length:Int)))=true then
  (idx x0 c2).bind fun v4 =>
  if (EC 120 (c1.length + 1))=true then
  D3 x0 f (c1++[(v4,c2)]) (wr .i64 (c2 + 1))
  else none
  else
  some c1
def ID (x0:(List Af)):Option ((List Ae)) :=
 (D3 x0 100000 [] 0).bind fun r7 =>
 some r7
def Mf:Cs ((List Af)×Unit):=(csC (cdL 9 AE) csN)
def Mq (r:(List Ae)):AV:=(cdL 10 AF).enc r
theorem RZ (x0:(List Af)):∀ (f:Nat) (c1:(List Ae)) (c2:Int) (r:((List Ae))),D3 x0 f c1 c2=some r->SemN E0 ⟨none,false⟩ (pc MZ [1,1,0,1,0,0]) f ⟨Fr 21 [(3,hd 0 (c1.map AF.enc)),(6,.sl 9 (x0.map AE.enc)),(7,.v (.int .i64 (x0.length:Int))),(8,.v (.int .i64 c2))],[mk 10 115 (c1.map AF.enc)]⟩ (fun e s=>e=(.exit 0)/\Wk E0 s ⟨Fr 21 [(3,hd 0 (r.map AF.enc))],[mk 10 115 (r.map AF.enc)]⟩):=by
 intro f;induction f with
 | zero=>intro c1 c2 r h; cases h
 | succ f ih0 =>
  intro c1 c2 r h
  have ih:=fun (c1:(List Ae)) (c2:Int)=>ih0 c1 c2 r
  unfold D3 at h;refine Bc ?_
  let p1:Option Blk:=mk 10 115 (c1.map AF.enc)
  let p2:Nat×AV:=(8,.v (.int .i64 c2))
  let p3:Nat×AV:=(7,.v (.int .i64 (x0.length:Int)))
  let p4:Nat×AV:=(6,.sl 9 (x0.map AE.enc))
  let p5:Nat×AV:=(3,hd 0 (c1.map AF.enc))
  refine AK AC [p5,p4,p3,p2,(9,.v (.bool (decide (c2 < (x0.length:Int)))))] [p1] ?_;refine AG ?_;refine AP (b:=(decide (c2 < (x0.length:Int)))) kr (fun hb3=>?_) (fun hb3=>?_)
  ·rw [if_pos hb3] at h
   refine AT ?_;refine AG ?_;refine Aa ?_;refine AG ?_;obtain ⟨v4,hv4,h⟩:=OB h
   let p6:Option Blk:=some ⟨9,42,[AE.enc v4],false⟩
   refine AL (s1:=⟨Fr 21 [p5,(4,.v (.int .i64 c2)),(5,.pt 1 0 0),p4,p3,p2],[p1,p6]⟩) ?_ ?_
   ·refine AD (n:=21) AC 1 [p5,p4,p3,p2,(10,.v (.int .i64 c2))] [p1] kr ?_
    refine AW AC 0 rfl (DW (AB rfl) rfl (AS (a:= .sl 9 (x0.map AE.enc)) (b:= .v (.int .i64 c2)) kr kr (DP (e:=AE.enc) (el:=42) (k:=9) (ki:= .i64) kr kr hv4))) ?_;exact AX AC
   by_cases hk5:(EC 120 (c1.length + 1))=true
   case neg=>rw [if_neg hk5] at h; cases h
   rw [if_pos hk5] at h
   let p7:Option Blk:=mk 10 115 ((c1++[(v4,c2)]).map AF.enc)
   let p8:Nat×AV:=(3,hd 0 ((c1++[(v4,c2)]).map AF.enc))
   refine AL (s1:=⟨Fr 21 [p8,p4,p3,p2],[p7]⟩) ?_ ?_
   ·let p9:Option Blk:=mk 10 115 ([(v4,c2)].map AF.enc)
    refine AD (n:=21) AC 5 [p4,p3,p2,(13,hd 0 (c1.map AF.enc)),(17,hd 2 ([(v4,c2)].map AF.enc))] [p1,p6,p9] kr ?_;refine AW AC 0 rfl (UX (AB rfl) rfl kr kr (Dg (a:=hd 0 (c1.map AF.enc)) (b:=hd 2 ([(v4,c2)].map AF.enc)) kr kr (LN (c:=AF) (xs:=c1) (vs:=[(v4,c2)]) (k:=10) (bytes:=120) (el:=115) kr kr (GS (t:=115) kr) (List.cons_ne_nil _ _) kr hk5))) ?_;refine AD (n:=21) AC 1 [(3,hd 3 ((c1++[(v4,c2)]).map AF.enc)),p4,p3,p2] [none,p6,p9,p7] kr ?_;exact AI rfl (Ac [3] ⟨⟨_,rfl,IL⟩,trivial⟩ ⟨IM (b':=3) kr kr,lv,lv,lv,trivial⟩)
   let p10:Nat×AV:=(8,.v (.int .i64 (wr .i64 (c2 + 1))))
   refine DC AC [p8,p4,p3,p10] [p7] ?_;exact Aj (s1:=⟨Fr 21 [p8,p4,p3,p10],[p7]⟩) (Ac [0] ⟨⟨_,rfl,IL⟩,trivial⟩ ⟨IM (b':=0) kr kr,lv,lv,lv,trivial⟩) (ih (c1++[(v4,c2)]) (wr .i64 (c2 + 1)) h)
  ·rw [BV hb3] at h
   refine CA ?_;have hq:=OI h; subst hq;exact ⟨rfl,(Ac [0] ⟨⟨_,rfl,IL⟩,trivial⟩ ⟨IM (b':=0) kr kr,trivial⟩)⟩
theorem Tw (x0:(List Af)) (r:(List Ae)) (h:ID x0=some r):Sem E0 ⟨none,false⟩ MZ ⟨Fr 21 (A0 0 (Mf.enc (x0,()))),[]⟩ fun e s'=>(e = .normal\/e = .ret)/\∃ xs,Dz E0.P s'.fr s'.hp Tryz.f79.results.toList=some xs/\D0 xs=Mq r:=by
 unfold ID at h
 let p1:Nat×AV:=(0,.sl 9 (x0.map AE.enc))
 refine Ao (BL (s1:=⟨Fr 21 [p1],[]⟩) AM ?_);refine AK AC [p1] [] ?_;refine AK AC [p1,(3,.e0)] [] ?_;refine AG ?_;refine AG ?_
 let p2:Nat×AV:=(8,.v (.int .i64 0))
 let p3:Nat×AV:=(7,.v (.int .i64 (x0.length:Int)))
 let p4:Nat×AV:=(6,.sl 9 (x0.map AE.enc))
 refine AL (s1:=⟨Fr 21 [(3,.e0),p4,p3,p2],[]⟩) ?_ ?_
 ·refine AD (n:=21) AC 1 [(3,.e0),p4] [] kr ?_
  refine AW AC 0 rfl (DW (AB rfl) rfl (CO (a:= .sl 9 (x0.map AE.enc)) kr (BS (el:=42) kr))) ?_;exact AX AC
 refine Aa ?_;obtain ⟨r7,hr7,h⟩:=OB h;refine CF (n:=100000) ?_
 let p5:Option Blk:=mk 10 115 ([].map AF.enc)
 let p6:Nat×AV:=(3,hd 0 ([].map AF.enc))
 refine A1 (Aj (s1:=⟨Fr 21 [p6,p4,p3,p2],[p5]⟩) (Wk.trans (s1:=⟨Fr 21 [p6,p4,p3,p2],[p5]⟩) Wk.none (Ac [0] ⟨⟨_,rfl,MX⟩,trivial⟩ ⟨lv,lv,lv,lv,trivial⟩)) (RZ x0 _ [] 0 _ hr7)) ?_;refine AK AC [(2,hd 0 (r7.map AF.enc))] [mk 10 115 (r7.map AF.enc)] ?_;refine AO ?_;have hq:=OI h; subst hq
 let p7:Nat×AV:=(2,.sl 10 (r7.map AF.enc))
 exact ⟨⟨Fr 21 [p7],[]⟩,(Wk.trans (s1:=⟨Fr 21 [p7],[none]⟩) (HH 0 (.inl kr) ⟨.inl rfl,trivial⟩ ⟨⟨hd 0 (r7.map AF.enc),kr,V4 (t:=115) kr Nz⟩,trivial⟩) (Ac [] trivial ⟨lv,trivial⟩)),.inr rfl,[.sl 10 (r7.map AF.enc)],kr,kr⟩
def WS:List AV->Option AV:=Dm Mf (fun a=>ID a.1) Mq
theorem RU:XOk 79 WS:=by
 refine AR Tryz.func79 (c:=MZ) ?h2 ⟨Tryz.call79⟩ Mf (fun a=>ID a.1) Mq (fun a=>(by show 1<=21; decide)) ?h3 ?h4
 case h2=>kernel_rfl
 case h3=>intro b; kernel_rfl
 case h4=>exact fun a b h=>Tw a.1 b h
section
variable {E:Env}{cx:Cx}{ops:Array Oper}{rest rest':List Oper}{K:St->Prop}{n n0 k:Nat}{l:List (Nat×AV)}{hp:Hp}{α β:Type}{s:Cs α}{F:α->Option β}{er:β->AV}{u:α}{v:β}{fid:FuncId}{w:World}{Z:Nat->Prop}{R:List RI}
theorem AE6 (hX:XOk fid (Dm s F er)) (hh:HR w Z R hp) (hg:GI E0 w Z){xs:List AV}{us:List Value}(hvs:VRs w Z R xs us) (hv:SeesD hp s xs u) (hok:Fm (er v)=true\/xs.all FF=true/\s.dec xs=some u) (hF:F u=some v) :
  Ret E0.P fid us.toArray w fun x w'=>∃ Z',HR w' Z' R hp/\VR w' Z' R (er v) x/\Step w Z R hp w' Z' R hp/\w.grownBy w' none/\(Fm (er v)=true->Z'=Z):=by
 by_cases hf:Fm (er v)=true
 ·obtain ⟨ys,hv,hd⟩:=hv
  have hz1:∀ c,(Z c\/own R hp c)->c < w.heap.size:=fun c hc=>hc.elim (hh.zlt c) (fun ⟨b,B,r,h1,_,h3,h4⟩=>h4 ▸ hh.rltL h1 h3)
  have hg1:GI E0 w (fun c=>Z c\/own R hp c):=fun q y hy=>(hg q y hy).mono (fun _ _=>rfl) (fun _ h=> .inl h) (fun _ _ h=>h)
  refine Ret.mono (hX.2 ys (er v) (M6 hd hF) w _ us hz1 hg1 (hv w Z R us hh hvs)) fun x w' ⟨hs,hx⟩=>?_
  exact ⟨Z,hh.keep hs.size (fun c hc=>hs.block c hc (by simp)),PQ hf hx,⟨hs.os,hs.tape,hs.output,hs.size,fun c hc _=>hs.block c hc (by simp),fun _ h=> .inl h,fun _ h=>h,fun _ h=> .inl h,fun _ _ h=>h⟩,hs,fun _=>rfl⟩
 ·obtain ⟨hn,hd⟩:=hok.resolve_left hf
  refine Ret.mono (hX.2 xs (er v) (M6 hd hF) w Z us hh.zlt hg (U6 hn hvs)) fun x w' ⟨hs,hx⟩=>?_
  obtain ⟨k1,k2⟩:=hh.addZ hs
  exact ⟨_,k1,hx.up,k2,hs,fun h=>absurd h hf⟩
theorem AFl (hP:E.P=E0.P) (hG:E.G=E0.G){caps xs:List AV}{d:Option Nat}{f:Operand}{args:Array Operand}{tys:Array TypeId}{ty:TypeId}{pos:String}{af:Array Edge}{g:Option (Nat×Bool)}{base:Bs}{a:Act}(hX:XOk fid (Dm s F er)) (sr:SR E base w Z R ⟨Fr n l,hp⟩ a)
  (hf:opA E (Fr n l) f=some (.fn fid [] caps)) (ha:LF (opA E (Fr n l)) args.toList=some xs) (hv:SeesD hp s (xs++caps) u) (hok:Fm (er v)=true\/(xs++caps).all FF=true/\s.dec (xs++caps)=some u) (hF:F u=some v) {Q:Act->World->Prop}
  (kk:∀ x w' Z',HR w' Z' R hp->VR w' Z' R (er v) x->Step w Z R hp w' Z' R hp->w.grownBy w' none->(Fm (er v)=true->Z'=Z)->SR E base w' Z' R ⟨Fr n l,hp⟩ a->Q (a.put d x) w'):Lw E.P ⟨d,.call ⟨.value f,args,tys⟩,ty,pos,af,g⟩ a w Q:=by
 have hρ:∀ o x,opA E (Fr n l) o=some x->VR w Z R x (a.eval o):=fun o x e=>opA_vr sr o x e
 have hvf:=hρ _ _ hf
 have hva:∃ uc:List Value,a.eval f = .func (.func fid) #[] uc.toArray/\VRs w Z R caps uc:=by
  generalize a.eval f=vf at hvf
  cases hvf with
  | fn hl hl' hx hy =>
   rename_i u1 u2
   have e1:u1=[]:=by simpa using hl
   subst e1
   exact ⟨u2,rfl,hl',hy⟩
 obtain ⟨uc,hva,huc⟩:=hva
 have hcl:Ch E.P fid:=hP ▸ hX.1
 unfold Lw
 rw [HB (uf:=[]) (uc:=uc) rfl hva rfl hcl w]
 have hret:=AE6 hX sr.hh (by have:=sr.gl; exact fun q y hy=>this q y (by rw [hG]; exact hy)) ((opds_vr hρ ha).append huc) hv hok hF
 rw [<-hP] at hret
 simp only [List.nil_append]
 refine Ret.mono hret fun x w' ⟨Z',k1,k2,k3,k4,k5⟩=>?_
 exact kk x w' Z' k1 k2 k3 k4 k5 (sr.step k1 k3)
theorem YO (hP:E.P=E0.P) (hG:E.G=E0.G) (hX:XOk fid (Dm s F er)){caps xs:List AV}{d:Nat}{f:Operand}{args:Array Operand}{tys:Array TypeId}{ty:TypeId}{pos:String}{af:Array Edge}{g:Option (Nat×Bool)}(hr:rest=⟨some d,.call ⟨.value f,args,tys⟩,ty,pos,af,g⟩::rest') (hw:Cr ops (Fr n l) ⟨some d,.call ⟨.value f,args,tys⟩,ty,pos,af,g⟩=some true)
  (hf:opA E (Fr n l) f=some (.fn fid [] caps)) (ha:LF (opA E (Fr n l)) args.toList=some xs) (hv:SeesD hp s (xs++caps) u) (hok:Fm (er v)=true\/(xs++caps).all FF=true/\s.dec (xs++caps)=some u) (hF:F u=some v) (kk:RunL E cx ops rest' ⟨Fr n ((d,er v)::l),hp⟩ K):RunL E cx ops rest ⟨Fr n l,hp⟩ K:=by
 subst hr
 intro ro base Q a w Z R hro sr hy q
 refine P7 rfl (wantedA_eq sr hw) (AFl hP hG hX sr hf ha hv hok hF fun x w' Z' k1 k2 k3 k4 k5 sr'=>?_)
 refine kk ro base Q _ w' Z' R hro ?_ (hy.step sr.hh k3) fun s' a' w'' Z'' R'' hK sr'' st'=>q s' a' w'' Z'' R'' hK sr'' (k3.trans st')
 have:=sr'.put (d:=some d) k2
 rwa [Ef] at this
theorem MV {T:Nat}(hP:E.P=E0.P) (hG:E.G=E0.G) (hX:XOk fid (Dm s F er)){caps xs:List AV}{d:Nat}{f:Operand}{args:Array Operand}{tys:Array TypeId}{ty:TypeId}{pos:String}{af:Array Edge}{g:Option (Nat×Bool)}(hr:rest=⟨some d,.call ⟨.value f,args,tys⟩,ty,pos,af,g⟩::rest') (hw:Cr ops (Fr n l) ⟨some d,.call ⟨.value f,args,tys⟩,ty,pos,af,g⟩=some true)
  (hf:opA E (Fr n l) f=some (.fn fid [] caps)) (ha:LF (opA E (Fr n l)) args.toList=some xs) (hv:SeesD hp s (xs++caps) u) (hok:Fm (er v)=true) (hF:F u=some v) (kk:RunDT E cx ops T n0 (k + 1) rest' ⟨Fr n ((d,er v)::l),hp⟩ K):RunDT E cx ops T n0 k rest ⟨Fr n l,hp⟩ K:=by
 subst hr
 intro ro base Q w0 Z R0 h0 a w R hro hy hh0 hn0 sr hgr st hpre hops q
 have hok':ops[k]? = some ⟨some d,.call ⟨.value f,args,tys⟩,ty,pos,af,g⟩:=by have:=hops 0; simpa using this.symm
 have hops':∀ j,rest'[j]? = ops[k + 1 + j]?:=fun j=>by have:=hops (j + 1); simpa [Nat.add_assoc,Nat.add_comm 1 j] using this
 refine ⟨fun _=>hgr,?_⟩
 rw [if_pos (wantedA_eq sr hw)]
 have hq:isQ (.call ⟨.value f,args,tys⟩:Op)=false:=rfl
 rw [if_pos (Gy hok' hq)]
 refine AFl hP hG hX sr hf ha hv (.inl hok) hF fun x w' Z' k1 k2 k3 k4 k5 sr'=>?_
 have e:=k5 hok
 subst e
 exact kk ro base Q w0 _ R0 h0 _ w' R hro hy hh0 hn0 (by have:=sr'.put (d:=some d) k2; rwa [Ef] at this) (Fh hgr k4) (st.trans k3) hpre hops' q
end
def V9:Hp->Bool
 | []=>true
 | none::r=>V9 r
 | some B::r=>!B.fz&&B.es.all FF&&V9 r
theorem SH:∀ {h:Hp},V9 h=true->∀ (b:Nat) (B:Blk),h[b]? = some (some B)->B.fz=false/\B.es.all FF=true
 | [],_,b,B,hb=>by simp at hb
 | none::r,h,0,B,hb=>by simp at hb
 | none::r,h,b + 1,B,hb=>SH (h:=r) h b B (by simpa using hb)
 | some B0::r,h,b,B,hb=>by
  unfold V9 at h
  simp only [Bool.and_eq_true,Bool.not_eq_true'] at h
  cases b with
  | zero =>
   have:B0=B:=by simpa using hb
   subst this
   exact h.1
  | succ b=>exact SH h.2 b B (by simpa using hb)
theorem Zf {α:Type}{k:Nat}{t:TypeId}{c:Cd α}(xs:List α):V9 [some ⟨k,t,xs.map c.enc,false⟩]=true:=by
 have:(xs.map c.enc).all FF=true:=by
  rw [List.all_eq_true]
  intro x hx
  obtain ⟨y,_,rfl⟩:=List.mem_map.1 hx
  exact c.nr y
 show (!false&&(xs.map c.enc).all FF&&true)=true
 rw [this]; rfl
section
variable {w w':World}{Z Z':Nat->Prop}{R R':List RI}{h h':Hp}
theorem HR.joinF (hh:HR w Z R h) (st:StepW w Z [] [] w' Z' R' h') (hh':HR w' Z' R' h') (hf:V9 h'=true):HR w' Z' (R++R') (h++h')/\Step w Z R h w' Z' (R++R') (h++h'):=by
 have hold:∀ c,c < w.heap.size->w'.heap[c]? = w.heap[c]?:=fun c hc=>st.block c hc fun ⟨b,B,r,hb,_⟩=>by simp at hb
 have hr:∀ (i:Nat) (x:RI),R[i]? = some x->(R++R')[i]? = some x:=fun i x hx=>by
  rw [List.getElem?_append_left (List.getElem?_eq_some_iff.1 hx).1]; exact hx
 have hnew:∀ c,own R' h' c->w.heap.size<=c:=fun c hc=>(st.own_ c hc).resolve_left fun ⟨b,B,r,hb,_⟩=>by simp at hb
 have hz':∀ c,Z' c->Z c\/w.heap.size<=c:=fun c hc=>(st.z' c hc).elim .inl fun h=>h.elim (fun ⟨b,B,r,hb,_⟩=>by simp at hb) .inr
 have hlen:=hh.len
 have hat:∀ (b:Nat) (B:Blk),(h++h')[b]? = some (some B)->(b < h.length/\h[b]? = some (some B)/\(R++R')[b]? = R[b]?)\/(∃ j,b=h.length + j/\h'[j]? = some (some B)/\(R++R')[b]? = R'[j]?):=fun b B hb=>by
  by_cases hlt:b < h.length
  ·rw [List.getElem?_append_left hlt] at hb
   exact .inl ⟨hlt,hb,List.getElem?_append_left (by omega)⟩
  ·rw [List.getElem?_append_right (by omega)] at hb
   exact .inr ⟨b - h.length,by omega,hb,by rw [List.getElem?_append_right (by omega),hlen]⟩
 have hRb:∀ (b:Nat) (B:Blk) (r:RI),h[b]? = some (some B)->R[b]? = some r->r.c < w.heap.size:=fun b B r h1 h2=>hh.rltL h1 h2
 have hRn:∀ (j:Nat) (B:Blk) (r:RI),h'[j]? = some (some B)->R'[j]? = some r->w.heap.size<=r.c:=fun j B r h1 h2=>hnew _ ⟨j,B,r,h1,(SH hf j B h1).1,h2,rfl⟩
 refine ⟨⟨by simp [hh.len,hh'.len],fun b B hB=>?_,fun b b' B B' r r' hB hfz hB' hfz' h1 h2 e=>?_,hh'.zlt⟩,⟨st.os,st.tape,st.output,st.size,fun c hc _=>hold c hc,fun c hc=>?_,st.z,fun c hc=>(hz' c hc).elim .inl fun h=> .inr (.inr h),hr⟩⟩
 ·rcases hat b B hB with ⟨hlt,hb,hRR⟩ | ⟨j,rfl,hb,hRR⟩
  ·obtain ⟨r,arr,us,g1,g2,g3,g4,g5,g6,g7,g8,g9,g10⟩:=hh.blk b B hb
   exact ⟨r,arr,us,hRR.trans g1,g2,(hold _ (hRb b B r hb g1)).trans g3,g4,g5,g6,(fun h=>st.z _ (g7 h)),(fun h hc=>(hz' _ hc).elim (g8 h) fun q=>by have:=hRb b B r hb g1; omega),⟨g9.len,fun i x u hx hu=>(g9.at_ i x u hx hu).mono (fun c hc=>hold c (hh.zlt c hc)) (fun c hc=>st.z c hc) hr⟩,g10⟩
  ·obtain ⟨r,arr,us,g1,g2,g3,g4,g5,g6,g7,g8,g9,g10⟩:=hh'.blk j B hb
   obtain ⟨f1,f2⟩:=SH hf j B hb
   exact ⟨r,arr,us,hRR.trans g1,g2,g3,g4,g5,g6,g7,g8,⟨g9.len,fun i x u hx hu=>(Lg (List.all_eq_true.1 f2 x (List.mem_of_getElem? hx)) (g9.at_ i x u hx hu)).up⟩,g10⟩
 ·rcases hat b B hB with ⟨_,hb,hRR⟩ | ⟨j,rfl,hb,hRR⟩ <;> rcases hat b' B' hB' with ⟨_,hb',hRR'⟩ | ⟨j',rfl,hb',hRR'⟩ <;> rw [hRR] at h1 <;> rw [hRR'] at h2
  ·exact hh.inj b b' B B' r r' hb hfz hb' hfz' h1 h2 e
  ·have:=hRb b B r hb h1; have:=hRn j' B' r' hb' h2; omega
  ·have:=hRb b' B' r' hb' h2; have:=hRn j B r hb h1; omega
  ·rw [hh'.inj j j' B B' r r' hb hfz hb' hfz' h1 h2 e]
 ·obtain ⟨b,B,r,h1,h2,h3,rfl⟩:=hc
  rcases hat b B h1 with ⟨_,hb,hRR⟩ | ⟨j,rfl,hb,hRR⟩ <;> rw [hRR] at h3
  ·exact .inl ⟨b,B,r,hb,h2,h3,rfl⟩
  ·exact .inr (hRn j B r hb h3)
end
theorem SeeV.view {hp:Hp}{x y:AV}(n:Nat) (h:IB hp n x=some y):SeeV hp x y:=fun _w _Z _R u hh hv=>Ob hh n x y u hv h
theorem SeeD.sm {α:Type}{n:Nat}{hp:Hp}{c:Cd α}{x:AV}{v:α}(h:Sm n hp c x v):SeeD hp c x v:=let ⟨y,h1,h2⟩:=h; ⟨y,.view n h1,h2⟩
/-- A cell of its own that holds a frozen thing. -/
theorem SeeD.cel {α:Type}{hp:Hp}{c:Cd α}{p:AV}{v:α}{k:Nat}{t:TypeId}{L:List Asn}{i:Nat}(ht:T hp L) (hi:L[i]? = some (cel p k t (c.enc v))):SeeD hp (cdP c) p v:=by
 obtain ⟨F,⟨b,rfl,_,hb⟩,_⟩:=(ht.front i hi).act
 exact .sm (n:=3) (.pt hb (AQ (n:=0)))
theorem SeeD.ag {α:Type}{hp:Hp}{s:Cs α}{hn:∀ x,(s.enc x).all QW=true}{xs:List AV}{a:α}(h:SeesD hp s xs a):SeeD hp (cdA s hn) (.ag xs) a:=by
 obtain ⟨ys,k1,k2⟩:=h
 exact ⟨.ag ys,.ag k1,k2⟩
theorem SeeV.fn {hp:Hp}{f:FuncId}{cs cs':List AV}(hs:Sees hp cs cs'):SeeV hp (.fn f [] cs) (.fn f [] cs'):=fun w Z R u hh hv=>by
 cases hv with
 | fn hl hl' hx hy =>
  have:=hs w Z R _ hh ⟨hl',hy⟩
  exact .fn hl this.len (fun i x u h=>by simp at h) this.at_
/-- A closure over cells. -/
theorem SeeD.fn {α:Type}{hp:Hp}{f:FuncId}{s:Cs α}{hn:∀ x,(s.enc x).all IN=true}{q:List AV}{a:α}(h:SeesD hp s q a):SeeD hp (cdF f s hn) (.fn f [] q) a:=by
 obtain ⟨ys,k1,k2⟩:=h
 refine ⟨.fn f [] ys,.fn k1,?_⟩
 show (if f=f then s.dec ys else none)=_
 rw [if_pos rfl]; exact k2
section
variable {E:Env}{cx:Cx}{ops:Array Oper}{rest rest':List Oper}{K:St->Prop}{n n0 k:Nat}{l:List (Nat×AV)}{hp:Hp}
/-- A call of frozen things that hands own blocks back, whose elements hold frozen things. -/
theorem YN {xs:List AV}{Out:AV->Hp->Prop}(hP:E.P=E0.P) (hG:E.G=E0.G){d:Nat}{f:Operand}{args:Array Operand}{tys:Array TypeId}{ty:TypeId}{pos:String}{af:Array Edge}{g:Option (Nat×Bool)}{fid:FuncId}(hs:SOk fid xs Out) (hr:rest=⟨some d,.call ⟨.value f,args,tys⟩,ty,pos,af,g⟩::rest') (hw:Cr ops (Fr n l) ⟨some d,.call ⟨.value f,args,tys⟩,ty,pos,af,g⟩=some true)
  (hf:opA E (Fr n l) f=some (.fn fid [] [])) (ha:LF (opA E (Fr n l)) args.toList=some xs) (hv:xs.all FF=true) (hfl:∀ x h',Out x h'->Q1 x=true/\V9 h'=true) (k:∀ x h',Out x h'->RunL E cx ops rest' ⟨Fr n ((d,shN hp.length x)::l),hp++h'⟩ K):RunL E cx ops rest ⟨Fr n l,hp⟩ K:=by
 obtain ⟨P,fns,G,X,I⟩:=E
 simp only at hP hG
 subst hP hG
 subst hr
 intro ro base Q a w Z R hro sr hy q
 have hρ:∀ o x,opA ⟨E0.P,fns,E0.G,X,I⟩ (Fr n l) o=some x->VR w Z R x (a.eval o):=fun o x e=>opA_vr sr o x e
 refine P7 rfl (wantedA_eq sr hw) ?_
 have hva:a.eval f = .func (.func fid) ([]:List Value).toArray ([]:List Value).toArray:=by
  have:=hρ _ _ hf
  generalize a.eval f=vf at this
  cases this with
  | fn hl hl' hx hy =>
   rename_i u1 u2
   have e1:u1=[]:=by simpa using hl
   have e2:u2=[]:=by simpa using hl'
   subst e1 e2; rfl
 unfold Lw
 rw [HB (uf:=[]) (uc:=[]) rfl hva rfl hs.1 w]
 simp only [List.nil_append,List.append_nil]
 have hvs:VRs w Z R xs (args.toList.map a.eval):=opds_vr hρ ha
 have hvs2:VRs w Z [] xs (args.toList.map a.eval):=⟨hvs.len,fun i x u hx hu=>Lg (List.all_eq_true.1 hv x (List.mem_of_getElem? hx)) (hvs.at_ i x u hx hu)⟩
 refine Ret.mono (hs.2 w _ _ sr.hh.zlt sr.gl hvs2) fun v w' hS=>?_
 obtain ⟨Z',R',x,h',hO,h1,h2,st⟩:=hS
 obtain ⟨f1,f2⟩:=hfl x h' hO
 obtain ⟨j1,j2⟩:=sr.hh.joinF st h1 f2
 have hlen:R.length=hp.length:=sr.hh.len
 have hx:=ABp (w:=w') (Z':=Z') (R:=R) hlen f1 h2
 have sr':=(sr.step j1 j2).put (d:=some d) hx
 rw [show O9 (⟨Fr n l,hp⟩:St).fr (some d) (shN hp.length x)=Fr n ((d,shN hp.length x)::l) from Ef n l d _] at sr'
 exact k x h' hO ro base Q _ w' Z' (R++R') hro sr' (hy.step sr.hh j2) fun s' a' w'' Z'' R'' hK sr'' st'=>q s' a' w'' Z'' R'' hK sr'' (j2.trans st')
end
/-- A nil slice is an empty frozen one, in structs too. -/
def UpV (x y:AV):Prop:=∀ (w:World) (Z:Nat->Prop) (R:List RI) (u:Value),VR w Z R x u->VR w Z R y u
theorem UpV.refl {x:AV}:UpV x x:=fun _ _ _ _ h=>h
theorem UpV.nil {k:Nat}:UpV .e0 (.sl k []):=fun _ _ _ _ h=>by
 cases h
 exact .sl (us:=[]) rfl rfl (Nat.le_refl _) (by unfold maxLen; omega) (fun h=>by omega) (fun i x u hx=>by simp at hx)
def UpVs:List AV->List AV->Prop
 | [],[]=>True
 | x::xs,y::ys=>UpV x y/\UpVs xs ys
 | _,_=>False
theorem UpVs.len:∀ {xs ys:List AV},UpVs xs ys->xs.length=ys.length
 | [],[],_=>rfl
 | _::_,_::_,h=>by simp [UpVs.len h.2]
 | [],_::_,h=>h.elim
 | _::_,[],h=>h.elim
theorem UpVs.get:∀ {xs ys:List AV}{i:Nat}{y:AV},UpVs xs ys->ys[i]? = some y->∃ x,xs[i]? = some x/\UpV x y
 | _::_,_::_,0,_,h,e=>by simp at e; subst e; exact ⟨_,rfl,h.1⟩
 | _::_,_::_,i + 1,_,h,e=>by
  obtain ⟨x,h1,h2⟩:=UpVs.get (i:=i) h.2 (by simpa using e)
  exact ⟨x,by simpa using h1,h2⟩
 | [],[],_,_,_,e=>by simp at e
 | [],_::_,_,_,h,_=>h.elim
 | _::_,[],_,_,h,_=>h.elim
theorem UpV.ag {xs ys:List AV}(h:UpVs xs ys):UpV (.ag xs) (.ag ys):=fun w Z R u hv=>by
 cases hv with
 | ag hl h1 hx =>
  refine .ag (by rw [hl,h.len]) h1 fun i y u hy hu=>?_
  obtain ⟨x,k1,k2⟩:=h.get hy
  exact k2 _ _ _ _ (hx i x u k1 hu)
def LkU (l:List (Nat×AV)):List (Nat×AV)->Prop
 | []=>True
 | (t,z)::r=>(∃ x,lk l t=some x/\UpV x z)/\LkU l r
theorem LkU.at_ {l:List (Nat×AV)}:∀ {l':List (Nat×AV)},LkU l l'->∀ t z,lk l' t=some z->∃ x,lk l t=some x/\UpV x z
 | [],_,t,z,h=>by cases h
 | (k,z0)::r,⟨h1,h2⟩,t,z,h=>by
  rw [NZ] at h
  split at h
  ·next hk=>injection h with h; subst hk h; exact h1
  ·exact h2.at_ t z h
/-- A value in which an own thing is frozen. -/
def FzU (e z x y:AV):Prop:=∀ (w:World) (Z Z':Nat->Prop) (R:List RI) (u:Value),(∀ c,Z c->Z' c)->(∀ v,VR w Z R e v->VR w Z' R z v)->VR w Z R x u->VR w Z' R y u
section
variable {e z:AV}
theorem FzU.refl {x:AV}:FzU e z x x:=fun _ _ _ _ _ hz _ h=>h.mono (fun _ _=>rfl) hz (fun _ _ h=>h)
def FzUs (e z:AV):List AV->List AV->Prop
 | [],[]=>True
 | x::xs,y::ys=>FzU e z x y/\FzUs e z xs ys
 | _,_=>False
theorem FzUs.len:∀ {xs ys:List AV},FzUs e z xs ys->xs.length=ys.length
 | [],[],_=>rfl
 | _::_,_::_,h=>by simp [FzUs.len h.2]
 | [],_::_,h=>h.elim
 | _::_,[],h=>h.elim
theorem FzUs.get:∀ {xs ys:List AV}{i:Nat}{y:AV},FzUs e z xs ys->ys[i]? = some y->∃ x,xs[i]? = some x/\FzU e z x y
 | _::_,_::_,0,_,h,q=>by simp at q; subst q; exact ⟨_,rfl,h.1⟩
 | _::_,_::_,i + 1,_,h,q=>by
  obtain ⟨x,h1,h2⟩:=FzUs.get (i:=i) h.2 (by simpa using q)
  exact ⟨x,by simpa using h1,h2⟩
 | [],[],_,_,_,q=>by simp at q
 | [],_::_,_,_,h,_=>h.elim
 | _::_,[],_,_,h,_=>h.elim
theorem FzU.ag {xs ys:List AV}(h:FzUs e z xs ys):FzU e z (.ag xs) (.ag ys):=fun w Z Z' R u hz k hv=>by
 cases hv with
 | ag hl h1 hx =>
  refine .ag (by rw [hl,h.len]) h1 fun i y u hy hu=>?_
  obtain ⟨x,k1,k2⟩:=h.get hy
  exact k2 _ _ _ _ _ hz k (hx i x u k1 hu)
theorem FzU.fn {f:FuncId}{xs ys:List AV}(h:FzUs e z xs ys):FzU e z (.fn f [] xs) (.fn f [] ys):=fun w Z Z' R u hz k hv=>by
 cases hv with
 | fn hl hl' hx hy =>
  refine .fn hl (by rw [hl',h.len]) (fun i x u h=>by simp at h) fun i y u hy' hu=>?_
  obtain ⟨x,k1,k2⟩:=h.get hy'
  exact k2 _ _ _ _ _ hz k (hy i x u k1 hu)
end
def LkF (l:List (Nat×AV)) (e z:AV):List (Nat×AV)->Prop
 | []=>True
 | (t,y)::r=>(∃ x,lk l t=some x/\FzU e z x y)/\LkF l e z r
theorem LkF.at_ {l:List (Nat×AV)}{e z:AV}:∀ {l':List (Nat×AV)},LkF l e z l'->∀ t y,lk l' t=some y->∃ x,lk l t=some x/\FzU e z x y
 | [],_,t,y,h=>by cases h
 | (k,z0)::r,⟨h1,h2⟩,t,y,h=>by
  rw [NZ] at h
  split at h
  ·next hk=>injection h with h; subst hk h; exact h1
  ·exact h2.at_ t y h
/-- What slices.Clone makes is own. -/
theorem YW {α:Type}{c:Cd α}{k:Nat}{t:TypeId}{h:Hp}{L:List Asn}{xs:List α}{x:AV}{h':Hp}(ht:T h L) (hO:(xs=[]/\x = .e0/\h'=[])\/(x = .rf 0 0 xs.length xs.length/\h'=[some ⟨k,t,xs.map c.enc,false⟩])):∃ e hp,e=shN h.length x/\hp=h++h'/\T hp (own_ (ocL k t (ocV c)) e xs::L):=by
 rcases hO with ⟨rfl,rfl,rfl⟩ | ⟨rfl,rfl⟩
 ·exact ⟨.e0,h,rfl,by simp,T.e0 ht⟩
 ·exact ⟨.rf h.length 0 xs.length xs.length,h++[some ⟨k,t,xs.map c.enc,false⟩],rfl,rfl,XJ (LY ht) rfl⟩
theorem YV {α:Type}{c:Cd α}{k:Nat}{t:TypeId}{xs:List α}:∀ (x:AV) (h':Hp),((xs=[]/\x = .e0/\h'=[])\/(x = .rf 0 0 xs.length xs.length/\h'=[some ⟨k,t,xs.map c.enc,false⟩]))->Q1 x=true/\V9 h'=true:=by
 rintro x h' (⟨rfl,rfl,rfl⟩ | ⟨rfl,rfl⟩)
 ·exact ⟨rfl,rfl⟩
 ·exact ⟨rfl,Zf xs⟩
noncomputable def EG:Code:=A9 Tryz.f135
def Az (xs:List Ae):Option Blk:=some ⟨10,115,xs.map AF.enc,false⟩
set_option maxRecDepth 100000 in
theorem Gd (xs:List Ae) (hc:EC 120 xs.length=true):Sem E0 ⟨none,false⟩ EG ⟨Fr 8 [(0,.sl 10 (xs.map AF.enc))],[]⟩ fun e s'=>(e = .normal\/e = .ret)/\((xs=[]/\s'=⟨Fr 8 [(2,.e0)],[]⟩)\/s'=⟨Fr 8 [(2,.rf 0 0 xs.length xs.length)],[Az xs]⟩):=by
 refine AG ?_
 refine AL (s1:=⟨Fr 8 [(0,.sl 10 (xs.map AF.enc)),(2,.e0)],[]⟩) ?_ ?_
 ·refine Hi AC 1 (s1:=⟨Fr 8 [(0,.sl 10 (xs.map AF.enc)),(2,.e0)],[]⟩) (by kernel_rfl) ?_
  exact AI rfl AM
 refine AG ?_
 refine AG (SB ?_)
 refine Hi AC 1 (s1:=⟨Fr 8 [(0,.sl 10 (xs.map AF.enc)),(2,.e0),(3,.sl 10 (xs.map AF.enc))],[]⟩) (by kernel_rfl) ?_
 refine UP (k:=10) (el:=115) (es:=xs.map AF.enc) rfl (AB rfl) (by kernel_rfl) (by kernel_rfl) fun b hb=>AI rfl ?_
 have hb:b=true->xs=[]:=fun h=>List.map_eq_nil_iff.1 (hb h)
 refine AP (b:=b) (by kernel_rfl) (fun hb1=>?_) (fun hb1=>?_)
 ·have hx:=hb hb1
  refine Ao ?_
  refine AG (AL (s1:=⟨Fr 8 [(2,.e0)],[]⟩) ?_ (AO ?_))
  ·refine Hi AC 1 (s1:=⟨Fr 8 [(0,.sl 10 (xs.map AF.enc)),(2,.e0),(3,.sl 10 (xs.map AF.enc)),(4,.v (.bool b))],[]⟩) (by kernel_rfl) ?_
   exact AI rfl AM
  ·exact ⟨_,Wk.refl,.inr rfl,.inl ⟨hx,rfl⟩⟩
 ·refine AT ?_
  refine Ao (AG (SB ?_))
  refine Hi AC 2 (s1:=⟨Fr 8 [(0,.sl 10 (xs.map AF.enc)),(2,.e0),(3,.sl 10 (xs.map AF.enc)),(4,.v (.bool b)),(5,.rf 0 0 0 0),(6,.sl 10 (xs.map AF.enc))],[Az []]⟩) (by kernel_rfl) ?_
  cases xs with
  | nil =>
   refine AW AC 0 rfl (UX (x:= .rf 0 0 0 0) (hp':=[Az []]) (AB rfl) rfl (by kernel_rfl) (by kernel_rfl) (by kernel_rfl)) ?_
   refine Hi AC 1 (s1:=⟨Fr 8 [(0,.sl 10 []),(2,.rf 0 0 0 0),(3,.sl 10 []),(4,.v (.bool b)),(5,.rf 0 0 0 0),(6,.sl 10 []),(7,.rf 0 0 0 0)],[Az []]⟩) (by kernel_rfl) (AI rfl (AO ?_))
   exact ⟨⟨Fr 8 [(2,.rf 0 0 0 0)],[Az []]⟩,AM,.inr rfl,.inr rfl⟩
  | cons y ys =>
   refine AW AC 0 rfl (UX (AB rfl) rfl (by kernel_rfl) (by kernel_rfl) (Dg (a:= .rf 0 0 0 0) (b:= .sl 10 ((y::ys).map AF.enc)) (by kernel_rfl) (by kernel_rfl) (OU (c:=AF) (xs:=[]) (vs:=y::ys) (k:=10) (bytes:=120) (el:=115) (by kernel_rfl) (by kernel_rfl) Uw (List.cons_ne_nil _ _) (by kernel_rfl) (by rw [List.length_nil,Nat.zero_add]; exact hc)))) ?_
   refine Hi AC 1 (s1:=⟨Fr 8 [(0,.sl 10 ((y::ys).map AF.enc)),(2,.rf 1 0 (y::ys).length (y::ys).length),(3,.sl 10 ((y::ys).map AF.enc)),(4,.v (.bool b)),(5,.rf 0 0 0 0),(6,.sl 10 ((y::ys).map AF.enc)),(7,.rf 1 0 (y::ys).length (y::ys).length)],[none,Az (y::ys)]⟩) (by kernel_rfl) (AI rfl (AO ?_))
   exact ⟨⟨Fr 8 [(2,.rf 0 0 (y::ys).length (y::ys).length)],[Az (y::ys)]⟩,Ac [1] ⟨⟨_,rfl,Hv⟩,trivial⟩ ⟨lv,trivial⟩,.inr rfl,.inr rfl⟩
def G0 (xs:List Ae) (x:AV) (h':Hp):Prop:=(xs=[]/\x = .e0/\h'=[])\/(x = .rf 0 0 xs.length xs.length/\h'=[Az xs])
theorem HG (xs:List Ae) (hc:EC 120 xs.length=true):SOk 135 [.sl 10 (xs.map AF.enc)] (G0 xs):=by
 refine Ud AC rfl rfl (fn:=Tryz.f135) (c:=EG) (by kernel_rfl) (by kernel_rfl) ⟨Tryz.call135⟩ (by show 1<=8; decide) (Sem.mono (Gd xs hc) ?_)
 rintro e s' ⟨he,⟨hx,rfl⟩ | rfl⟩
 ·exact ⟨he,[.e0],by kernel_rfl,.inl ⟨hx,rfl,rfl⟩⟩
 ·exact ⟨he,[.rf 0 0 xs.length xs.length],by kernel_rfl,.inr ⟨rfl,rfl⟩⟩
def Nf:Cs (List Ae×Unit):=csC (cdL 10 AF) csN
/- trestle/court.orderOf$1 -/
noncomputable def LP:Code:=A9 Tryz.f165
def CW {β:Type}(G:Ae->Ae->β->Option Int) (x0:Ae) (x1:Ae) (x2:AH) (x3:β):Option (Int) :=
 (if (!(x2.2.1==[]))=true then if (!(x0.1.2.1==x2.2.1))=true then some true else some (!(x1.1.2.1==x2.2.1)) else some false).bind fun j2 =>
 if j2=true then
 some 0
 else
 (G x0 x1 x3).bind fun v4 =>
 some v4
def Id {β:Type}(fid:FuncId) (sx:Cs β) (hn:∀ x,(sx.enc x).all IN=true):Cs (Ae×Ae×AH×β×Unit):=(csC AF (csC AF (csC (cdP AA) (csC (cdP (cdF fid sx hn)) csN))))
def Ii (r:Int):AV:=cdI.enc r
theorem PK {β:Type}{fid:FuncId}{sx:Cs β}{hn:∀ x,(sx.enc x).all IN=true}{G:Ae->Ae->β->Option Int}(hX:XOk fid (Dm (csC AF (csC AF sx)) (fun a=>G a.1 a.2.1 a.2.2) cdI.enc)) (x0:Ae) (x1:Ae) (x2:AH) (x3:β) (r:Int) (h:CW G x0 x1 x2 x3=some r):Sem E0 ⟨none,false⟩ LP ⟨Fr 30 (A0 0 ((Id fid sx hn).enc (x0,x1,x2,x3,()))),[]⟩ fun e s'=>(e = .normal\/e = .ret)/\∃ xs,Dz E0.P s'.fr s'.hp Tryz.f165.results.toList=some xs/\D0 xs=Ii r:=by
 unfold CW at h
 refine Ao (BL (s1:=⟨Fr 30 [(0,AF.enc x0),(1,AF.enc x1),(2,.pe (AA.enc x2) 0),(3,.pe (.fn fid [] (sx.enc x3)) 0)],[]⟩) AM ?_)
 refine AK AC [(2,.pe (AA.enc x2) 0),(3,.pe (.fn fid [] (sx.enc x3)) 0),(4,.pt 0 0 0),(5,.pt 1 0 0)] [some ⟨10,115,[AF.enc x0],false⟩,some ⟨10,115,[AF.enc x1],false⟩] ?_
 refine AG ?_
 refine AG ?_
 obtain ⟨j2,hj2,h⟩:=OB h
 refine AL (s1:=⟨Fr 30 [(3,.pe (.fn fid [] (sx.enc x3)) 0),(4,.pt 0 0 0),(5,.pt 1 0 0),(25,.v (.bool j2))],[some ⟨10,115,[AF.enc x0],false⟩,some ⟨10,115,[AF.enc x1],false⟩]⟩) ?_ ?_
 ·refine AD (n:=30) AC 4 [(2,.pe (AA.enc x2) 0),(3,.pe (.fn fid [] (sx.enc x3)) 0),(4,.pt 0 0 0),(5,.pt 1 0 0),(10,.v (.bool (!(x2.2.1==[]))))] [some ⟨10,115,[AF.enc x0],false⟩,some ⟨10,115,[AF.enc x1],false⟩] kr ?_
  rcases BE (!(x2.2.1==[])) with hc5 | hc5
  ·rw [if_pos hc5] at hj2
   rw [hc5]
   refine AD (n:=30) AC 7 [(2,.pe (AA.enc x2) 0),(3,.pe (.fn fid [] (sx.enc x3)) 0),(4,.pt 0 0 0),(5,.pt 1 0 0),(10,.v (.bool true)),(17,.v (.bool (!(x0.1.2.1==x2.2.1))))] [some ⟨10,115,[AF.enc x0],false⟩,some ⟨10,115,[AF.enc x1],false⟩] kr ?_
   rcases BE (!(x0.1.2.1==x2.2.1)) with hc6 | hc6
   ·rw [if_pos hc6] at hj2
    rw [hc6]
    refine AD (n:=30) AC 8 [(3,.pe (.fn fid [] (sx.enc x3)) 0),(4,.pt 0 0 0),(5,.pt 1 0 0),(25,.v (.bool true))] [some ⟨10,115,[AF.enc x0],false⟩,some ⟨10,115,[AF.enc x1],false⟩] kr ?_
    have hq:=OI hj2; subst hq
    exact AI rfl (Ac [0,1] ⟨⟨_,rfl,GO⟩,⟨_,rfl,GO⟩,trivial⟩ ⟨lv,lv,lv,lv,trivial⟩)
   ·rw [BV hc6] at hj2
    rw [hc6]
    refine AD (n:=30) AC 8 [(3,.pe (.fn fid [] (sx.enc x3)) 0),(4,.pt 0 0 0),(5,.pt 1 0 0),(25,.v (.bool (!(x1.1.2.1==x2.2.1))))] [some ⟨10,115,[AF.enc x0],false⟩,some ⟨10,115,[AF.enc x1],false⟩] kr ?_
    have hq:=OI hj2; subst hq
    exact AI rfl (Ac [0,1] ⟨⟨_,rfl,GO⟩,⟨_,rfl,GO⟩,trivial⟩ ⟨lv,lv,lv,lv,trivial⟩)
  ·rw [BV hc5] at hj2
   rw [hc5]
   refine AD (n:=30) AC 15 [(3,.pe (.fn fid [] (sx.enc x3)) 0),(4,.pt 0 0 0),(5,.pt 1 0 0),(25,.v (.bool false))] [some ⟨10,115,[AF.enc x0],false⟩,some ⟨10,115,[AF.enc x1],false⟩] kr ?_
   have hq:=OI hj2; subst hq
   exact AI rfl (Ac [0,1] ⟨⟨_,rfl,GO⟩,⟨_,rfl,GO⟩,trivial⟩ ⟨lv,lv,lv,lv,trivial⟩)
 refine AP (b:=j2) kr (fun hb3=>?_) (fun hb3=>?_)
 ·rw [if_pos hb3] at h
  refine AG ?_
  refine AL (s1:=⟨Fr 30 [(6,.v (.int .i64 0))],[]⟩) ?_ ?_
  ·refine AD (n:=30) AC 1 [(6,.v (.int .i64 0))] [some ⟨10,115,[AF.enc x0],false⟩,some ⟨10,115,[AF.enc x1],false⟩] kr ?_
   exact AI rfl (Ac [] trivial ⟨lv,trivial⟩)
  refine AO ?_
  have hq:=OI h; subst hq
  exact ⟨⟨Fr 30 [(6,.v (.int .i64 0))],[]⟩,AM,.inr rfl,[.v (.int .i64 0)],kr,kr⟩
 ·rw [BV hb3] at h
  refine AT ?_
  refine AG ?_
  obtain ⟨v4,hv4,h⟩:=OB h
  refine AL (s1:=⟨Fr 30 [(6,.v (.int .i64 v4))],[]⟩) ?_ ?_
  ·refine AD (n:=30) AC 3 [(26,.fn fid [] (sx.enc x3)),(27,AF.enc x0),(28,AF.enc x1)] [some ⟨10,115,[AF.enc x0],false⟩,some ⟨10,115,[AF.enc x1],false⟩] kr ?_
   refine AN (caps:=sx.enc x3) (xs:=[AF.enc x0,AF.enc x1]) (u:=(x0,x1,x3)) rfl rfl hX rfl (AB rfl) kr kr (AJ (AQ (c:=AF) (v:=x0)) (AJ (AQ (c:=AF) (v:=x1)) (Ul (n:=10) (s:=sx) (a:=x3)))) (.inl kr) hv4 ?_
   refine AD (n:=30) AC 1 [(6,.v (.int .i64 v4))] [some ⟨10,115,[AF.enc x0],false⟩,some ⟨10,115,[AF.enc x1],false⟩] kr ?_
   exact AI rfl (Ac [] trivial ⟨lv,trivial⟩)
  refine AO ?_
  have hq:=OI h; subst hq
  exact ⟨⟨Fr 30 [(6,.v (.int .i64 v4))],[]⟩,AM,.inr rfl,[.v (.int .i64 v4)],kr,kr⟩
def RD {β:Type}(fid:FuncId) (sx:Cs β) (hn:∀ x,(sx.enc x).all IN=true) (G:Ae->Ae->β->Option Int):List AV->Option AV:=Dm (Id fid sx hn) (fun a=>CW G a.1 a.2.1 a.2.2.1 a.2.2.2.1) Ii
theorem DA {β:Type}{fid:FuncId}{sx:Cs β}{hn:∀ x,(sx.enc x).all IN=true}{G:Ae->Ae->β->Option Int}(hX:XOk fid (Dm (csC AF (csC AF sx)) (fun a=>G a.1 a.2.1 a.2.2) cdI.enc)):XOk 165 (RD fid sx hn G):=by
 refine AR Tryz.func165 (c:=LP) ?h2 ⟨Tryz.call165⟩ (Id fid sx hn) (fun a=>CW G a.1 a.2.1 a.2.2.1 a.2.2.2.1) Ii (fun a=>(by show 4<=30; decide)) ?h3 ?h4
 case h2=>kernel_rfl
 case h3=>intro b; kernel_rfl
 case h4=>exact fun a b h=>PK hX a.1 a.2.1 a.2.2.1 a.2.2.2.1 b h
/- cmp.isNaN[int] -/
noncomputable def NC:Code:=A9 Tryz.f137
def Gp (x0:Int):Option (Bool) :=
 some (x0 != x0)
def Jm:Cs (Int×Unit):=(csC cdI csN)
def J5 (r:Bool):AV:=cdB.enc r
theorem Qa (x0:Int) (r:Bool) (h:Gp x0=some r):Sem E0 ⟨none,false⟩ NC ⟨Fr 6 (A0 0 (Jm.enc (x0,()))),[]⟩ fun e s'=>(e = .normal\/e = .ret)/\∃ xs,Dz E0.P s'.fr s'.hp Tryz.f137.results.toList=some xs/\D0 xs=J5 r:=by
 unfold Gp at h;refine Ao (BL (s1:=⟨Fr 6 [(0,.v (.int .i64 x0))],[]⟩) AM ?_);refine AK AC [(0,.v (.int .i64 x0))] [] ?_;refine AK AC [(2,.v (.bool (x0 != x0)))] [] ?_;refine AO ?_;have hq:=OI h; subst hq;exact ⟨⟨Fr 6 [(2,.v (.bool (x0 != x0)))],[]⟩,AM,.inr rfl,[.v (.bool (x0 != x0))],kr,kr⟩
def TA:List AV->Option AV:=Dm Jm (fun a=>Gp a.1) J5
theorem ON:XOk 137 TA:=by
 refine AR Tryz.func137 (c:=NC) ?h2 ⟨Tryz.call137⟩ Jm (fun a=>Gp a.1) J5 (fun a=>(by show 1<=6; decide)) ?h3 ?h4
 case h2=>kernel_rfl
 case h3=>intro b; kernel_rfl
 case h4=>exact fun a b h=>Qa a.1 b h
/- cmp.Compare[int] -/
noncomputable def LO:Code:=A9 Tryz.f113
def Co (x0:Int) (x1:Int):Option (Int) :=
 (Gp x0).bind fun v1 =>
 (Gp x1).bind fun v2 =>
 if v1=true then
 if v2=true then
 some 0
 else
 some (-1)
 else
 if v2=true then
 some 1
 else
 if (decide (x0 < x1))=true then
 some (-1)
 else
 if (decide (x0 > x1))=true then
 some 1
 else
 some 0
def Ib:Cs (Int×Int×Unit):=(csC cdI (csC cdI csN))
def Ih (r:Int):AV:=cdI.enc r
theorem PI (x0:Int) (x1:Int) (r:Int) (h:Co x0 x1=some r):Sem E0 ⟨none,false⟩ LO ⟨Fr 20 (A0 0 (Ib.enc (x0,x1,()))),[]⟩ fun e s'=>(e = .normal\/e = .ret)/\∃ xs,Dz E0.P s'.fr s'.hp Tryz.f113.results.toList=some xs/\D0 xs=Ih r:=by
 unfold Co at h
 let p1:Nat×AV:=(1,.v (.int .i64 x1))
 let p2:Nat×AV:=(0,.v (.int .i64 x0))
 refine Ao (BL (s1:=⟨Fr 20 [p2,p1],[]⟩) AM ?_);refine AK AC [p2,p1] [] ?_;refine AG ?_;obtain ⟨v1,hv1,h⟩:=OB h
 let p3:Nat×AV:=(5,.v (.bool v1))
 refine AL (s1:=⟨Fr 20 [p2,p1,p3],[]⟩) ?_ ?_
 ·refine AD (n:=20) AC 1 [p2,p1,(7,.v (.int .i64 x0))] [] kr ?_
  refine AN (caps:=[]) (xs:=[.v (.int .i64 x0)]) (u:=(x0,())) rfl rfl ON rfl (AB rfl) kr kr (AJ (AQ (c:=cdI) (v:=x0)) Ah) (.inl kr) hv1 ?_;exact AX AC
 refine AG ?_;obtain ⟨v2,hv2,h⟩:=OB h;refine AL (s1:=⟨Fr 20 [p2,p1,p3,(6,.v (.bool v2))],[]⟩) ?_ ?_
 ·refine AD (n:=20) AC 1 [p2,p1,p3,(9,.v (.int .i64 x1))] [] kr ?_
  refine AN (caps:=[]) (xs:=[.v (.int .i64 x1)]) (u:=(x1,())) rfl rfl ON rfl (AB rfl) kr kr (AJ (AQ (c:=cdI) (v:=x1)) Ah) (.inl kr) hv2 ?_;exact AX AC
 refine AG ?_;refine AK AC [p2,p1,(6,.v (.bool v2)),(11,.v (.bool v1))] [] ?_;refine AP (b:=v1) kr (fun hb3=>?_) (fun hb3=>?_)
 ·rw [if_pos hb3] at h
  refine AG ?_;refine AK AC [(12,.v (.bool v2))] [] ?_;refine AP (b:=v2) kr (fun hb4=>?_) (fun hb4=>?_)
  ·rw [if_pos hb4] at h
   refine AK AC [(4,.v (.int .i64 0))] [] ?_;refine AO ?_;have hq:=OI h; subst hq;exact ⟨⟨Fr 20 [(4,.v (.int .i64 0))],[]⟩,AM,.inr rfl,[.v (.int .i64 0)],kr,kr⟩
  ·rw [BV hb4] at h
   refine AT ?_;refine AK AC [(4,.v (.int .i64 (-1)))] [] ?_;refine AO ?_;have hq:=OI h; subst hq;exact ⟨⟨Fr 20 [(4,.v (.int .i64 (-1)))],[]⟩,AM,.inr rfl,[.v (.int .i64 (-1))],kr,kr⟩
 ·rw [BV hb3] at h
  refine AT ?_;refine AG ?_;refine AK AC [p2,p1,(13,.v (.bool v2))] [] ?_;refine AP (b:=v2) kr (fun hb5=>?_) (fun hb5=>?_)
  ·rw [if_pos hb5] at h
   refine AK AC [(4,.v (.int .i64 1))] [] ?_;refine AO ?_;have hq:=OI h; subst hq;exact ⟨⟨Fr 20 [(4,.v (.int .i64 1))],[]⟩,AM,.inr rfl,[.v (.int .i64 1)],kr,kr⟩
  ·rw [BV hb5] at h
   refine AT ?_;refine AG ?_;refine AK AC [p2,p1,(16,.v (.bool (decide (x0 < x1))))] [] ?_;refine AP (b:=(decide (x0 < x1))) kr (fun hb6=>?_) (fun hb6=>?_)
   ·rw [if_pos hb6] at h
    refine AK AC [(4,.v (.int .i64 (-1)))] [] ?_;refine AO ?_;have hq:=OI h; subst hq;exact ⟨⟨Fr 20 [(4,.v (.int .i64 (-1)))],[]⟩,AM,.inr rfl,[.v (.int .i64 (-1))],kr,kr⟩
   ·rw [BV hb6] at h
    refine AT ?_;refine AG ?_;refine AK AC [(19,.v (.bool (decide (x0 > x1))))] [] ?_;refine AP (b:=(decide (x0 > x1))) kr (fun hb7=>?_) (fun hb7=>?_)
    ·rw [if_pos hb7] at h
     refine AK AC [(4,.v (.int .i64 1))] [] ?_;refine AO ?_;have hq:=OI h; subst hq;exact ⟨⟨Fr 20 [(4,.v (.int .i64 1))],[]⟩,AM,.inr rfl,[.v (.int .i64 1)],kr,kr⟩
    ·rw [BV hb7] at h
     refine AT ?_;refine AK AC [(4,.v (.int .i64 0))] [] ?_;refine AO ?_;have hq:=OI h; subst hq;exact ⟨⟨Fr 20 [(4,.v (.int .i64 0))],[]⟩,AM,.inr rfl,[.v (.int .i64 0)],kr,kr⟩
def RB:List AV->Option AV:=Dm Ib (fun a=>Co a.1 a.2.1) Ih
theorem Gg:XOk 113 RB:=by
 refine AR Tryz.func113 (c:=LO) ?h2 ⟨Tryz.call113⟩ Ib (fun a=>Co a.1 a.2.1) Ih (fun a=>(by show 2<=20; decide)) ?h3 ?h4
 case h2=>kernel_rfl
 case h3=>intro b; kernel_rfl
 case h4=>exact fun a b h=>PI a.1 a.2.1 b h
end Go.Proofs.YtlalcoehgkmhlaaGreatDoor
