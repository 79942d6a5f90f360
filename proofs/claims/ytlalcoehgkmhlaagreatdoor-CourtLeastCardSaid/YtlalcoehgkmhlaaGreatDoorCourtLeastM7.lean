/- Lemmas for the proof. -/
import Derived.Test.YtlalcoehgkmhlaaGreatDoorCourtLeastM1
import Derived.Test.YtlalcoehgkmhlaaGreatDoorCourtLeastM2
import Derived.Test.YtlalcoehgkmhlaaGreatDoorCourtLeastM3
import Derived.Test.YtlalcoehgkmhlaaGreatDoorCourtLeastM4
import Derived.Test.YtlalcoehgkmhlaaGreatDoorCourtLeastM5
import Derived.Test.YtlalcoehgkmhlaaGreatDoorCourtLeastM6
set_option maxHeartbeats 4000000
set_option maxRecDepth 100000
namespace Go.Proofs.YtlalcoehgkmhlaaGreatDoor
open Go.RowKit
def isT (r:Option (AV×Hp)):Bool:=match r with
 | some (.v (.bool true),_)=>true
 | _=>false
theorem VZ {r:Option (AV×Hp)}(h:isT r=true):∃ h',r=some (.v (.bool true),h'):=by
 unfold isT at h
 split at h
 ·exact ⟨_,rfl⟩
 ·cases h
set_option maxRecDepth 1000000 in
theorem Wh:isT (Q1 E13 3000 18 [] [])=true:=by kernel_rfl
theorem TZ:∃ h,Q1 E13 3000 18 [] []=some (.v (.bool true),h):=VZ Wh
theorem SE (w:World):Ret Tryz.prog 18 #[] w fun v w'=>v = .bool true/\w.grownBy w' none:=by
 obtain ⟨h,e⟩:=TZ
 exact UH (E:=E13) (Z:=fun _=>False) (us:=[]) WW e (fun c hc=>hc.elim) (fun g x h=>by cases h) .nil
theorem WB {w:World}{Z:Nat->Prop}:VR w Z [] (.v (.bool true)) (.bool true):= .v rfl
def Hv:Option Bool:=some true
def Nr:Cs Unit:=csN
def Ns (b:Bool):AV:=cdB.enc b
def O6:List AV->Option AV:=EA Nr (fun _=>Hv) Ns
theorem LJ:XOk 18 O6:=by
 refine ⟨⟨Tryz.call18⟩,fun xs x h w Z us _ _ hv=>?_⟩
 obtain ⟨a,ha,h⟩:=OB h
 obtain ⟨b,hb,rfl⟩:=Option.map_eq_some_iff.1 h
 have hb:=OI hb
 subst hb
 have:xs=[]:=by
  cases xs with
  | nil=>rfl
  | cons x xs=>cases ha
 subst this
 have:us=[]:=by have:=hv.len; simpa using this
 subst this
 exact Ret.mono (SE w) fun v w' h=>⟨h.2,by rw [h.1]; exact WB⟩
/- slices.Compare[[]int,int] -/
noncomputable def ER:Code:=Bn Tryz.f51
def A4 (x0:(List Int)) (x1:(List Int)):Nat->Int->Option ((Unit) ⊕ (Int))
 | 0,_=>none
 | f + 1,c1 =>
  if (decide (c1 < (x0.length:Int)))=true then
  (idx x0 c1).bind fun v3 =>
  if (decide (c1≥(x1.length:Int)))=true then
  some (.inr 1)
  else
  (idx x1 c1).bind fun v6 =>
  (BU v3 v6).bind fun v7 =>
  if (v7 != 0)=true then
  some (.inr v7)
  else
  A4 x0 x1 f (wr .i64 (c1 + 1))
  else
  some (.inl ())
def Bw (x0:(List Int)) (x1:(List Int)):Option (Int) :=
 (A4 x0 x1 100000 0).bind fun r9 =>
 match r9 with
 | (.inl _w10) =>
  if (decide ((x0.length:Int) < (x1.length:Int)))=true then
  some (-1)
  else
  some 0
 | (.inr w12) =>
  some w12
def EZ:Cs ((List Int)×(List Int)×Unit):=(csC (cdL 1 cdI) (csC (cdL 1 cdI) csN))
def Ea (r:Int):AV:=cdI.enc r
theorem FF (x0:(List Int)) (x1:(List Int)):∀ (f:Nat) (c1:Int) (r:(Unit) ⊕ (Int)),A4 x0 x1 f c1=some r->SemN E0 ⟨none,false⟩ (pc ER [1,0,1,0,0]) f ⟨Fr 36 [(0,.sl 1 (x0.map cdI.enc)),(1,.sl 1 (x1.map cdI.enc)),(9,.sl 1 (x0.map cdI.enc)),(10,.v (.int .i64 (x0.length:Int))),(11,.v (.int .i64 c1))],[]⟩ (fun e s=>match r with
 | (.inl _w)=>e=(.exit 0)/\Wk E0 s ⟨Fr 36 [(0,.sl 1 (x0.map cdI.enc)),(1,.sl 1 (x1.map cdI.enc))],[]⟩
 | (.inr w)=>e = .ret/\Wk E0 s ⟨Fr 36 [(4,.v (.int .i64 w))],[]⟩):=by
 intro f;induction f with
 | zero=>intro c1 r h; cases h
 | succ f ih0 =>
  intro c1 r h
  have ih:=fun (c1:Int)=>ih0 c1 r
  unfold A4 at h;refine B6 ?_
  let p1:Nat×AV:=(11,.v (.int .i64 c1))
  let p2:Nat×AV:=(10,.v (.int .i64 (x0.length:Int)))
  let p3:Nat×AV:=(9,.sl 1 (x0.map cdI.enc))
  let p4:Nat×AV:=(1,.sl 1 (x1.map cdI.enc))
  let p5:Nat×AV:=(0,.sl 1 (x0.map cdI.enc))
  refine AJ AC [p5,p4,p3,p2,p1,(12,.v (.bool (decide (c1 < (x0.length:Int)))))] [] ?_;refine AG ?_;refine AM (b:=(decide (c1 < (x0.length:Int)))) kr (fun hb2=>?_) (fun hb2=>?_)
  ·rw [if_pos hb2] at h
   refine AP ?_;refine AG ?_;refine Aj ?_;refine AG ?_;obtain ⟨v3,hv3,h⟩:=OB h
   let p6:Nat×AV:=(6,.v (.int .i64 v3))
   let p7:Nat×AV:=(5,.v (.int .i64 c1))
   refine AH (s1:=⟨Fr 36 [p5,p4,p7,p6,p3,p2,p1],[]⟩) ?_ ?_
   ·refine AD (n:=36) AC 1 [p5,p4,p3,p2,p1,(13,.v (.int .i64 c1))] [] kr ?_
    refine AK AC 0 rfl (CZ (AB rfl) rfl (AQ (a:= .sl 1 (x0.map cdI.enc)) (b:= .v (.int .i64 c1)) kr kr (GW (e:=cdI.enc) (el:=3) (k:=1) (ki:= .i64) kr kr hv3))) ?_;exact AN AC
   refine AG ?_;refine AG ?_;refine AH (s1:=⟨Fr 36 [p5,p4,p7,p6,p3,p2,p1,(19,.v (.bool (decide (c1≥(x1.length:Int)))))],[]⟩) ?_ ?_
   ·refine AD (n:=36) AC 2 [p5,p4,p7,p6,p3,p2,p1,(16,.v (.int .i64 c1)),(17,.sl 1 (x1.map cdI.enc))] [] kr ?_
    refine AK AC 0 rfl (CZ (AB rfl) rfl (DS (a:= .sl 1 (x1.map cdI.enc)) kr (B4 (el:=3) kr))) ?_;exact AN AC
   refine AM (b:=(decide (c1≥(x1.length:Int)))) kr (fun hb4=>?_) (fun hb4=>?_)
   ·rw [if_pos hb4] at h
    refine AJ AC [(4,.v (.int .i64 1))] [] ?_;refine AT ?_;have hq:=OI h; subst hq;exact ⟨rfl,AO⟩
   ·rw [CK hb4] at h
    refine AP ?_;refine AG ?_;obtain ⟨v6,hv6,h⟩:=OB h;refine AH (s1:=⟨Fr 36 [p5,p4,p6,(7,.v (.int .i64 v6)),p3,p2,p1],[]⟩) ?_ ?_
    ·refine AD (n:=36) AC 2 [p5,p4,p6,p3,p2,p1,(20,.sl 1 (x1.map cdI.enc)),(21,.v (.int .i64 c1))] [] kr ?_
     refine AK AC 0 rfl (CZ (AB rfl) rfl (AQ (a:= .sl 1 (x1.map cdI.enc)) (b:= .v (.int .i64 c1)) kr kr (GW (e:=cdI.enc) (el:=3) (k:=1) (ki:= .i64) kr kr hv6))) ?_;exact AN AC
    refine AG ?_;obtain ⟨v7,hv7,h⟩:=OB h;refine AH (s1:=⟨Fr 36 [p5,p4,(8,.v (.int .i64 v7)),p3,p2,p1],[]⟩) ?_ ?_
    ·refine AD (n:=36) AC 2 [p5,p4,p3,p2,p1,(24,.v (.int .i64 v3)),(25,.v (.int .i64 v6))] [] kr ?_
     refine Ai (caps:=[]) (xs:=[.v (.int .i64 v3),.v (.int .i64 v6)]) (u:=(v3,v6,())) rfl rfl Da rfl (AB rfl) kr kr (AU (Ao (c:=cdI) (v:=v3)) (AU (Ao (c:=cdI) (v:=v6)) Bf)) (.inl kr) hv7 ?_;exact AN AC
    refine AJ AC [p5,p4,(8,.v (.int .i64 v7)),p3,p2,p1,(28,.v (.bool (v7 != 0)))] [] ?_;refine AM (b:=(v7 != 0)) kr (fun hb8=>?_) (fun hb8=>?_)
    ·rw [if_pos hb8] at h
     refine AJ AC [(4,.v (.int .i64 v7))] [] ?_;refine AT ?_;have hq:=OI h; subst hq;exact ⟨rfl,AO⟩
    ·rw [CK hb8] at h
     refine AP ?_
     let p8:Nat×AV:=(11,.v (.int .i64 (wr .i64 (c1 + 1))))
     refine DD AC [p5,p4,p3,p2,p8] [] ?_;exact Aw (s1:=⟨Fr 36 [p5,p4,p3,p2,p8],[]⟩) AO (ih (wr .i64 (c1 + 1)) h)
  ·rw [CK hb2] at h
   refine Cc ?_;have hq:=OI h; subst hq;exact ⟨rfl,AO⟩
theorem Ih (x0:(List Int)) (x1:(List Int)) (r:Int) (h:Bw x0 x1=some r):Sem E0 ⟨none,false⟩ ER ⟨Fr 36 (BK 0 (EZ.enc (x0,x1,()))),[]⟩ fun e s'=>(e = .normal\/e = .ret)/\∃ xs,Ej E0.P s'.fr s'.hp Tryz.f51.results.toList=some xs/\Eu xs=Ea r:=by
 unfold Bw at h
 let p1:Nat×AV:=(1,.sl 1 (x1.map cdI.enc))
 let p2:Nat×AV:=(0,.sl 1 (x0.map cdI.enc))
 refine A3 (Bo (s1:=⟨Fr 36 [p2,p1],[]⟩) AO ?_);refine AJ AC [p2,p1] [] ?_;refine AG ?_;refine AG ?_
 let p3:Nat×AV:=(11,.v (.int .i64 0))
 let p4:Nat×AV:=(10,.v (.int .i64 (x0.length:Int)))
 let p5:Nat×AV:=(9,.sl 1 (x0.map cdI.enc))
 refine AH (s1:=⟨Fr 36 [p2,p1,p5,p4,p3],[]⟩) ?_ ?_
 ·refine AD (n:=36) AC 1 [p2,p1,p5] [] kr ?_
  refine AK AC 0 rfl (CZ (AB rfl) rfl (DS (a:= .sl 1 (x0.map cdI.enc)) kr (B4 (el:=3) kr))) ?_;exact AN AC
 refine Aj ?_;obtain ⟨r9,hr9,h⟩:=OB h;refine Ch (n:=100000) ?_;rcases r9 with w10 | w12
 ·try dsimp only at h
  refine BQ (Aw (s1:=⟨Fr 36 [p2,p1,p5,p4,p3],[]⟩) AO (FF x0 x1 _ 0 _ hr9)) ?_;refine AG ?_;refine AG ?_;refine AH (s1:=⟨Fr 36 [(35,.v (.bool (decide ((x0.length:Int) < (x1.length:Int)))))],[]⟩) ?_ ?_
  ·refine AD (n:=36) AC 1 [p1,(31,.sl 1 (x0.map cdI.enc))] [] kr ?_
   refine AK AC 0 rfl (CZ (AB rfl) rfl (DS (a:= .sl 1 (x0.map cdI.enc)) kr (B4 (el:=3) kr))) ?_;refine AD (n:=36) AC 1 [(32,.v (.int .i64 (x0.length:Int))),(33,.sl 1 (x1.map cdI.enc))] [] kr ?_;refine AK AC 0 rfl (CZ (AB rfl) rfl (DS (a:= .sl 1 (x1.map cdI.enc)) kr (B4 (el:=3) kr))) ?_;exact AN AC
  refine AM (b:=(decide ((x0.length:Int) < (x1.length:Int)))) kr (fun hb11=>?_) (fun hb11=>?_)
  ·rw [if_pos hb11] at h
   refine AJ AC [(4,.v (.int .i64 (-1)))] [] ?_;refine AT ?_;have hq:=OI h; subst hq;exact ⟨⟨Fr 36 [(4,.v (.int .i64 (-1)))],[]⟩,AO,.inr rfl,[.v (.int .i64 (-1))],kr,kr⟩
  ·rw [CK hb11] at h
   refine AP ?_;refine AJ AC [(4,.v (.int .i64 0))] [] ?_;refine AT ?_;have hq:=OI h; subst hq;exact ⟨⟨Fr 36 [(4,.v (.int .i64 0))],[]⟩,AO,.inr rfl,[.v (.int .i64 0)],kr,kr⟩
 ·try dsimp only at h
  refine BQ (Aw (s1:=⟨Fr 36 [p2,p1,p5,p4,p3],[]⟩) AO (FF x0 x1 _ 0 _ hr9)) ?_;have hq:=OI h; subst hq;exact ⟨⟨Fr 36 [(4,.v (.int .i64 w12))],[]⟩,AO,.inr rfl,[.v (.int .i64 w12)],kr,kr⟩
def Jh:List AV->Option AV:=EA EZ (fun a=>Bw a.1 a.2.1) Ea
theorem Ji:XOk 51 Jh:=by
 refine AW Tryz.func51 (c:=ER) ?h2 ⟨Tryz.call51⟩ EZ (fun a=>Bw a.1 a.2.1) Ea (fun a=>(by show 2<=36; decide)) ?h3 ?h4
 case h2=>kernel_rfl
 case h3=>intro b; kernel_rfl
 case h4=>exact fun a b h=>Ih a.1 a.2.1 b h
/- trestle/trestlelaw03.CourtLeast -/
noncomputable def Dc:Code:=Bn Tryz.f13
def Be (x0:(List (List (Int×Int×Int×Bool×Bool)))):Nat->Int->(List (List AE))->Option (((List (List AE))))
 | 0,_,_=>none
 | f + 1,c4,c6 =>
  if (decide (c4 < (((x0.take (mnI (x0.length:Int) 5).toNat).drop (0:Int).toNat).length:Int)))=true then
  (idx ((x0.take (mnI (x0.length:Int) 5).toNat).drop (0:Int).toNat) c4).bind fun v8 =>
  (Fl v8).bind fun v9 =>
  if (Fa 24 (c6.length + ([v9]:List (List AE)).length))=true then
  Be x0 f (wr .i64 (c4 + 1)) (c6++([v9]:List (List AE)))
  else none
  else
  some c6
def Dg (v1:(List Ax)) (c42:(List Int)) (v44:(Int×Int)):Option (((List Int))) :=
 if (decide ((v1.length:Int) > 0))=true then
 if (v1.length:Int)=(0:Int) then none else
 if (v1.length:Int)=(0:Int) then none else
 (idx c42 ((wr .i64 v44.2).tmod (v1.length:Int))).bind fun v55 =>
 (idx c42 ((wr .i64 v44.1).tmod (v1.length:Int))).bind fun v57 =>
 (idx c42 ((wr .i64 v44.1).tmod (v1.length:Int))).bind fun _v58 =>
 (idx (c42.set (((wr .i64 v44.1).tmod (v1.length:Int)).toNat) v55) ((wr .i64 v44.2).tmod (v1.length:Int))).bind fun _v62 =>
 some ((c42.set (((wr .i64 v44.1).tmod (v1.length:Int)).toNat) v55).set (((wr .i64 v44.2).tmod (v1.length:Int)).toNat) v57)
 else
 some c42
def Bt (x2:(List (Int×Int))) (v1:(List Ax)):Nat->Int->(List Int)->Option (((List Int)))
 | 0,_,_=>none
 | f + 1,c41,c42 =>
  if (decide (c41 < (((x2.take (mnI (x2.length:Int) 12).toNat).drop (0:Int).toNat).length:Int)))=true then
  (idx ((x2.take (mnI (x2.length:Int) 12).toNat).drop (0:Int).toNat) c41).bind fun v44 =>
  (Dg v1 c42 v44).bind fun r69 =>
  Bt x2 v1 f (wr .i64 (c41 + 1)) r69
  else
  some c42
def DK (x0:(List (List (Int×Int×Int×Bool×Bool)))) (x1:(List (Int×Int))) (x2:(List (Int×Int))):Option (Bool) :=
 (EO x1 7).bind fun v1 =>
 if (C7 0 (mnI (x0.length:Int) 5) x0.length)=true then
 (Be x0 100000 0 ([]:(List (List AE)))).bind fun r22 =>
 (DH r22 v1).bind fun v29 =>
 (if (v29.2.2 != 0)=true then some true else (Ca v29.1 (v1.length:Int)).bind fun v30 =>
 some (!v30)).bind fun j31 =>
 if j31=true then
 some false
 else
 if (Fa 8 v29.1.length)=true then
 if (C7 0 (mnI (x2.length:Int) 12) x2.length)=true then
 (Bt x2 v1 100000 0 v29.1).bind fun r73 =>
 (A0 r22 v1 r73).bind fun v76 =>
 (if (decide (v76≥v29.2.1))=true then if (decide (v76 > v29.2.1))=true then (A0 r22 v1 v29.1).bind fun v77 =>
 if (v77==v29.2.1)=true then Hv.bind fun v78 =>
 some v78 else some false else (Bw r73 v29.1).bind fun v79 =>
 if (decide (v79≥0))=true then (A0 r22 v1 v29.1).bind fun v80 =>
 if (v80==v29.2.1)=true then Hv.bind fun v81 =>
 some v81 else some false else some false else some false).bind fun j82 =>
 some j82
 else none
 else none
 else none
theorem Jd {L:List Asn}(x0:(List (List (Int×Int×Int×Bool×Bool)))) (x2:(List (Int×Int))) (v1:(List Ax)):∀ (f:Nat) (c4:Int) (c6:(List (List AE))) (r:((List (List AE)))),Be x0 f c4 c6=some r->∀ (e5:AV) (hp:Hp),T hp ((own_ (ocL 1 22 (ocV (cdL 5 AA))) e5 c6)::L)->SemYN E0 ⟨none,false⟩ (pc Dc [1,1,1,0,1,0,0]) f ⟨Fr 125 [(2,.sl 2 (x2.map (G5 (cdK .u8) (cdK .u8) (fun _=>rfl) (fun _=>rfl)).enc)),(7,.sl 9 (v1.map AI.enc)),(8,e5),(26,.sl 1 (((x0.take (mnI (x0.length:Int) 5).toNat).drop (0:Int).toNat).map (cdL 5 (cdA (csC (cdK .u8) (csC (cdK .u8) (csC (cdK .u8) (csC cdB (csE cdB))))) (fun _=>rfl))).enc)),(27,.v (.int .i64 (((x0.take (mnI (x0.length:Int) 5).toNat).drop (0:Int).toNat).length:Int))),(28,.v (.int .i64 c4))],hp⟩ (fun e s=>e=(.exit 0)/\∃ s2,(∃ (e20:AV) (h':Hp),T h' ((own_ (ocL 1 22 (ocV (cdL 5 AA))) e20 r)::L)/\s2=⟨Fr 125 [(2,.sl 2 (x2.map (G5 (cdK .u8) (cdK .u8) (fun _=>rfl) (fun _=>rfl)).enc)),(7,.sl 9 (v1.map AI.enc)),(8,e20)],h'⟩)/\WkY E0 s s2):=by
 intro f;induction f with
 | zero=>intro c4 c6 r h; cases h
 | succ f ih0 =>
  intro c4 c6 r h e5 hp hT;unfold Be at h;refine He ?_
  let p1:Nat×AV:=(28,.v (.int .i64 c4))
  let p2:Nat×AV:=(27,.v (.int .i64 (((x0.take (mnI (x0.length:Int) 5).toNat).drop (0:Int).toNat).length:Int)))
  let p3:Nat×AV:=(26,.sl 1 (((x0.take (mnI (x0.length:Int) 5).toNat).drop (0:Int).toNat).map (cdL 5 (cdA (csC (cdK .u8) (csC (cdK .u8) (csC (cdK .u8) (csC cdB (csE cdB))))) (fun _=>rfl))).enc))
  let p4:Nat×AV:=(7,.sl 9 (v1.map AI.enc))
  let p5:Nat×AV:=(2,.sl 2 (x2.map (G5 (cdK .u8) (cdK .u8) (fun _=>rfl) (fun _=>rfl)).enc))
  refine D0 AC [p5,p4,(8,e5),p3,p2,p1,(29,.v (.bool (decide (c4 < (((x0.take (mnI (x0.length:Int) 5).toNat).drop (0:Int).toNat).length:Int)))))] ?_;refine A8 ?_;refine Ec (b:=(decide (c4 < (((x0.take (mnI (x0.length:Int) 5).toNat).drop (0:Int).toNat).length:Int)))) kr (fun hb7=>?_) (fun hb7=>?_)
  ·rw [if_pos hb7] at h
   refine SemY.skip ?_;refine A8 ?_;refine DX ?_;refine A8 ?_;refine Ar ?_;obtain ⟨v8,hv8,h⟩:=OB h;refine BL AC 0 rfl (CZ (AB rfl) rfl (AQ (a:= .sl 1 (((x0.take (mnI (x0.length:Int) 5).toNat).drop (0:Int).toNat).map (cdL 5 (cdA (csC (cdK .u8) (csC (cdK .u8) (csC (cdK .u8) (csC cdB (csE cdB))))) (fun _=>rfl))).enc)) (b:= .v (.int .i64 c4)) kr kr (GW (e:=(cdL 5 (cdA (csC (cdK .u8) (csC (cdK .u8) (csC (cdK .u8) (csC cdB (csE cdB))))) (fun _=>rfl))).enc) (el:=28) (k:=1) (ki:= .i64) kr kr hv8))) ?_;refine Du AC [p5,p4,(8,e5),(10,.sl 5 (v8.map (cdA (csC (cdK .u8) (csC (cdK .u8) (csC (cdK .u8) (csC cdB (csE cdB))))) (fun _=>rfl)).enc)),p3,p2,p1] ?_;refine Ar ?_;refine BM AC 2 ?_;obtain ⟨v9,hv9,h⟩:=OB h;refine Dt (v:=v9) (caps:=[]) (xs:=[.sl 5 (v8.map (cdA (csC (cdK .u8) (csC (cdK .u8) (csC (cdK .u8) (csC cdB (csE cdB))))) (fun _=>rfl)).enc)]) (u:=(v8,())) rfl rfl P7 rfl (AB rfl) kr kr (Bi (C5 (c:=(cdL 5 (cdA (csC (cdK .u8) (csC (cdK .u8) (csC (cdK .u8) (csC cdB (csE cdB))))) (fun _=>rfl)))) (v:=v8)) SeesD.nil) (.inr ⟨by kernel_rfl,Ha.de (v8,())⟩) hv9 ?_;obtain ⟨e13,hp10,hb11,hT12⟩:=Tw (P:=Tryz.prog) (bytes:=24) (k:=1) (t:=22) (ty:=68) (xs:=([v9]:List (List AE))) (n:=1) (YM (k:=1) (fun _=>⟨rfl,rfl,rfl⟩)) (Qz (c:=(cdL 5 AA)) (xs:=([v9]:List (List AE))) hT) rfl kr kr kr;refine BL AC 0 rfl (Vo (AB rfl) rfl kr (YW (xs:=QI 0 [.sl 5 (v9.map AA.enc)]) kr hb11)) ?_;by_cases hk18:(Fa 24 (c6.length + ([v9]:List (List AE)).length))=true
   case neg=>rw [if_neg hk18] at h; cases h
   rw [if_pos hk18] at h
   have hT19:=((hT12.front 0 rfl).front 1 rfl)
   obtain ⟨e17,hp14,hb15,hT16⟩:=TT (P:=Tryz.prog) (ty:=68) (ty2:=68) (bytes:=24) hT19 kr kr hk18;refine BL AC 0 rfl (T6 (AB rfl) rfl kr kr (IC (a:=e5) (b:=e13) kr kr hb15)) ?_;refine Du AC [p5,p4,(8,e17),p3,p2,p1] ?_;refine Ar ?_;refine BM AC 2 ?_;refine CL rfl ?_;exact Ew WkY.f1 (ih0 (wr .i64 (c4 + 1)) (c6++([v9]:List (List AE))) _ h e17 hp14 hT16)
  ·rw [CK hb7] at h
   refine SemY.exit ?_;have hq:=OI h; subst hq;exact ⟨rfl,_,⟨e5,hp,hT,rfl⟩,WkY.f1⟩
theorem Jc {L:List Asn}{hp:Hp}(v1:(List Ax)) (c42:(List Int)) (v44:(Int×Int)) (x2:(List (Int×Int))) (r22:(List (List AE))) (v29:(List Int)×Int×Int) (e37:AV) (c41:Int) (e45:AV) (r:((List Int))) (h:Dg v1 c42 v44=some r) (hT:T hp ((cel e45 2 63 (.ag [.v (.int .u8 v44.1),.v (.int .u8 v44.2)]))::(own_ (ocL 1 3 (ocV cdI)) e37 c42)::L)):SemY E0 ⟨none,false⟩ (pc Dc [1,1,1,1,1,1,1,0,1,0,0,1,1,0,0,1,1]) ⟨Fr 125 [(7,.sl 9 (v1.map AI.enc)),(8,.sl 1 (r22.map (cdL 5 AA).enc)),(11,.sl 1 (v29.1.map cdI.enc)),(12,.v (.int .i64 v29.2.1)),(14,e37),(16,e45),(60,.sl 2 (((x2.take (mnI (x2.length:Int) 12).toNat).drop (0:Int).toNat).map (G5 (cdK .u8) (cdK .u8) (fun _=>rfl) (fun _=>rfl)).enc)),(61,.v (.int .i64 (((x2.take (mnI (x2.length:Int) 12).toNat).drop (0:Int).toNat).length:Int))),(62,.v (.int .i64 c41)),(68,.v (.bool (decide ((v1.length:Int) > 0))))],hp⟩ (fun e s=>e = .normal/\∃ s2,(∃ (h':Hp),T h' ((own_ (ocL 1 3 (ocV cdI)) e37 r)::L)/\s2=⟨Fr 125 [(7,.sl 9 (v1.map AI.enc)),(8,.sl 1 (r22.map (cdL 5 AA).enc)),(11,.sl 1 (v29.1.map cdI.enc)),(12,.v (.int .i64 v29.2.1)),(14,e37),(60,.sl 2 (((x2.take (mnI (x2.length:Int) 12).toNat).drop (0:Int).toNat).map (G5 (cdK .u8) (cdK .u8) (fun _=>rfl) (fun _=>rfl)).enc)),(61,.v (.int .i64 (((x2.take (mnI (x2.length:Int) 12).toNat).drop (0:Int).toNat).length:Int))),(62,.v (.int .i64 c41))],h'⟩)/\WkY E0 s s2):=by
 unfold Dg at h;refine Ec (b:=(decide ((v1.length:Int) > 0))) kr (fun hb52=>?_) (fun hb52=>?_)
 ·rw [if_pos hb52] at h
  refine A8 ?_;refine LK 14 AC.mixed kr kr ?_;refine RunDT.q (x:=Ny e45 0) rfl kr rfl (AB rfl) rfl (AQ (a:=e45) (b:= .v (.int .i64 0)) kr kr (Uh (s:=1) hT kr)) kr ?_;refine RunDT.q (x:= .v (.int .u8 v44.1)) rfl kr rfl (AB rfl) rfl (Hw (p:=Ny e45 0) kr (Ui (off:=0) (y:= .v (.int .u8 v44.1)) (m:=1) (g:=false) hT kr kr kr)) (Q9 (off:=0) hT kr) ?_;refine RunDT.q (x:= .v (.int .i64 (wr .i64 v44.1))) rfl kr rfl (AB rfl) rfl kr kr ?_;refine RunDT.q (x:= .sl 9 (v1.map AI.enc)) rfl kr rfl (AB rfl) rfl kr kr ?_;refine RunDT.q (x:= .v (.int .i64 (v1.length:Int))) rfl kr rfl (AB rfl) rfl (DS (a:= .sl 9 (v1.map AI.enc)) kr (B4 (el:=42) kr)) kr ?_;by_cases hz53:(v1.length:Int)=(0:Int)
  ·rw [if_pos hz53] at h; cases h
  rw [if_neg hz53] at h;refine RunDT.q (x:= .v (.int .i64 ((wr .i64 v44.1).tmod (v1.length:Int)))) rfl kr rfl (AB rfl) rfl (Pq (a:= .v (.int .i64 (wr .i64 v44.1))) (b:= .v (.int .i64 (v1.length:Int))) kr kr (SF hz53)) kr ?_;refine RunDT.q (x:=Ny e45 1) rfl kr rfl (AB rfl) rfl (AQ (a:=e45) (b:= .v (.int .i64 1)) kr kr (Uh (s:=1) hT kr)) kr ?_;refine RunDT.q (x:= .v (.int .u8 v44.2)) rfl kr rfl (AB rfl) rfl (Hw (p:=Ny e45 1) kr (Ui (off:=1) (y:= .v (.int .u8 v44.2)) (m:=1) (g:=false) hT kr kr kr)) (Q9 (off:=1) hT kr) ?_;refine RunDT.q (x:= .v (.int .i64 (wr .i64 v44.2))) rfl kr rfl (AB rfl) rfl kr kr ?_;refine RunDT.q (x:= .sl 9 (v1.map AI.enc)) rfl kr rfl (AB rfl) rfl kr kr ?_;refine RunDT.q (x:= .v (.int .i64 (v1.length:Int))) rfl kr rfl (AB rfl) rfl (DS (a:= .sl 9 (v1.map AI.enc)) kr (B4 (el:=42) kr)) kr ?_;by_cases hz54:(v1.length:Int)=(0:Int)
  ·rw [if_pos hz54] at h; cases h
  rw [if_neg hz54] at h;refine RunDT.q (x:= .v (.int .i64 ((wr .i64 v44.2).tmod (v1.length:Int)))) rfl kr rfl (AB rfl) rfl (Pq (a:= .v (.int .i64 (wr .i64 v44.2))) (b:= .v (.int .i64 (v1.length:Int))) kr kr (SF hz54)) kr ?_;refine RunDT.q (x:= .v (.int .i64 ((wr .i64 v44.1).tmod (v1.length:Int)))) rfl kr rfl (AB rfl) rfl kr kr ?_;refine RunDT.q (x:= .v (.int .i64 ((wr .i64 v44.2).tmod (v1.length:Int)))) rfl kr rfl (AB rfl) rfl kr kr ?_;refine RunDT.done rfl (SemY.fr (l':=[(7,.sl 9 (v1.map AI.enc)),(8,.sl 1 (r22.map (cdL 5 AA).enc)),(11,.sl 1 (v29.1.map cdI.enc)),(12,.v (.int .i64 v29.2.1)),(14,e37),(17,.v (.int .i64 ((wr .i64 v44.1).tmod (v1.length:Int)))),(18,.v (.int .i64 ((wr .i64 v44.2).tmod (v1.length:Int)))),(60,.sl 2 (((x2.take (mnI (x2.length:Int) 12).toNat).drop (0:Int).toNat).map (G5 (cdK .u8) (cdK .u8) (fun _=>rfl) (fun _=>rfl)).enc)),(61,.v (.int .i64 (((x2.take (mnI (x2.length:Int) 12).toNat).drop (0:Int).toNat).length:Int))),(62,.v (.int .i64 c41))]) kr ?_);refine LK 13 AC.mixed kr kr ?_;refine RunDT.q (x:=e37) rfl kr rfl (AB rfl) rfl kr kr ?_;refine RunDT.q (x:= .v (.int .i64 ((wr .i64 v44.1).tmod (v1.length:Int)))) rfl kr rfl (AB rfl) rfl kr kr ?_;refine RunDT.q (x:=e37) rfl kr rfl (AB rfl) rfl kr kr ?_;refine RunDT.q (x:= .v (.int .i64 ((wr .i64 v44.2).tmod (v1.length:Int)))) rfl kr rfl (AB rfl) rfl kr kr ?_;refine RunDT.q (x:=e37) rfl kr rfl (AB rfl) rfl kr kr ?_;refine RunDT.q (x:= .v (.int .i64 ((wr .i64 v44.2).tmod (v1.length:Int)))) rfl kr rfl (AB rfl) rfl kr kr ?_;obtain ⟨v55,hv55,h⟩:=OB h
  have hT56:=(hT.front 1 rfl)
  refine RunDT.q (x:=eAt e37 (((wr .i64 v44.2).tmod (v1.length:Int)).toNat)) rfl kr rfl (AB rfl) rfl (AQ (a:=e37) (b:= .v (.int .i64 ((wr .i64 v44.2).tmod (v1.length:Int)))) kr kr (Se (bytes:=8) hT56 kr hv55)) kr ?_;refine RunDT.q (x:= .v (.int .i64 v55)) rfl kr rfl (AB rfl) rfl (Hw (p:=eAt e37 (((wr .i64 v44.2).tmod (v1.length:Int)).toNat)) kr (Oi (y:= .v (.int .i64 v55)) (m:=1) (g:=false) hT56 (EJ hv55).2 kr kr kr)) (Pg (hT.front 1 rfl) (EJ hv55).2 kr) ?_;refine RunDT.q (x:=e37) rfl kr rfl (AB rfl) rfl kr kr ?_;refine RunDT.q (x:= .v (.int .i64 ((wr .i64 v44.1).tmod (v1.length:Int)))) rfl kr rfl (AB rfl) rfl kr kr ?_;obtain ⟨v57,hv57,h⟩:=OB h;refine RunDT.q (x:=eAt e37 (((wr .i64 v44.1).tmod (v1.length:Int)).toNat)) rfl kr rfl (AB rfl) rfl (AQ (a:=e37) (b:= .v (.int .i64 ((wr .i64 v44.1).tmod (v1.length:Int)))) kr kr (Se (bytes:=8) hT56 kr hv57)) kr ?_;refine RunDT.q (x:= .v (.int .i64 v57)) rfl kr rfl (AB rfl) rfl (Hw (p:=eAt e37 (((wr .i64 v44.1).tmod (v1.length:Int)).toNat)) kr (Oi (y:= .v (.int .i64 v57)) (m:=1) (g:=false) hT56 (EJ hv57).2 kr kr kr)) (Pg (hT.front 1 rfl) (EJ hv57).2 kr) ?_;obtain ⟨v58,hv58,h⟩:=OB h;refine RunDT.q (x:=eAt e37 (((wr .i64 v44.1).tmod (v1.length:Int)).toNat)) rfl kr rfl (AB rfl) rfl (AQ (a:=e37) (b:= .v (.int .i64 ((wr .i64 v44.1).tmod (v1.length:Int)))) kr kr (Se (bytes:=8) hT56 kr hv58)) kr ?_;refine RT rfl ?_;obtain ⟨hp59,hs60,hT61⟩:=O0 (P:=Tryz.prog) (ty:=3) (y:= .v (.int .i64 v55)) (v':=v55) hT56 (EJ hv58).2 kr kr kr;refine RunL.store AC (y:=eAt e37 (((wr .i64 v44.1).tmod (v1.length:Int)).toNat)) (z:= .v (.int .i64 v55)) rfl (AB rfl) kr kr hs60 ?_;obtain ⟨v62,hv62,h⟩:=OB h;refine BL AC 0 rfl (CZ (AB rfl) rfl (AQ (a:=e37) (b:= .v (.int .i64 ((wr .i64 v44.2).tmod (v1.length:Int)))) kr kr (Se (bytes:=8) hT61 kr hv62))) ?_;obtain ⟨hp63,hs64,hT65⟩:=O0 (P:=Tryz.prog) (ty:=3) (y:= .v (.int .i64 v57)) (v':=v57) hT61 (EJ hv62).2 kr kr kr
  refine RunL.store AC (y:=eAt e37 (((wr .i64 v44.2).tmod (v1.length:Int)).toNat)) (z:= .v (.int .i64 v57)) rfl (AB rfl) kr kr hs64 ?_;refine CL rfl ?_;have hq:=OI h; subst hq
  have hT67:=(hT65.front 1 rfl).drop
  exact ⟨rfl,_,⟨hp63,hT67,rfl⟩,WkY.f1⟩
 ·rw [CK hb52] at h
  refine SemY.skip ?_;have hq:=OI h; subst hq
  have hT68:=hT.drop
  exact ⟨rfl,_,⟨hp,hT68,rfl⟩,WkY.f1⟩
theorem Je {L:List Asn}(x2:(List (Int×Int))) (v1:(List Ax)) (r22:(List (List AE))) (v29:(List Int)×Int×Int) (e37:AV):∀ (f:Nat) (c41:Int) (c42:(List Int)) (r:((List Int))),Bt x2 v1 f c41 c42=some r->∀ (hp:Hp),T hp ((own_ (ocL 1 3 (ocV cdI)) e37 c42)::L)->SemYN E0 ⟨none,false⟩ (pc Dc [1,1,1,1,1,1,1,0,1,0,0]) f ⟨Fr 125 [(7,.sl 9 (v1.map AI.enc)),(8,.sl 1 (r22.map (cdL 5 AA).enc)),(11,.sl 1 (v29.1.map cdI.enc)),(12,.v (.int .i64 v29.2.1)),(14,e37),(60,.sl 2 (((x2.take (mnI (x2.length:Int) 12).toNat).drop (0:Int).toNat).map (G5 (cdK .u8) (cdK .u8) (fun _=>rfl) (fun _=>rfl)).enc)),(61,.v (.int .i64 (((x2.take (mnI (x2.length:Int) 12).toNat).drop (0:Int).toNat).length:Int))),(62,.v (.int .i64 c41))],hp⟩ (fun e s=>e=(.exit 2)/\∃ s2,(∃ (h':Hp),T h' ((own_ (ocL 1 3 (ocV cdI)) e37 r)::L)/\s2=⟨Fr 125 [(7,.sl 9 (v1.map AI.enc)),(8,.sl 1 (r22.map (cdL 5 AA).enc)),(11,.sl 1 (v29.1.map cdI.enc)),(12,.v (.int .i64 v29.2.1)),(14,e37)],h'⟩)/\WkY E0 s s2):=by
 intro f;induction f with
 | zero=>intro c41 c42 r h; cases h
 | succ f ih0 =>
  intro c41 c42 r h  hp hT;unfold Bt at h;refine He ?_
  let p1:Nat×AV:=(62,.v (.int .i64 c41))
  let p2:Nat×AV:=(61,.v (.int .i64 (((x2.take (mnI (x2.length:Int) 12).toNat).drop (0:Int).toNat).length:Int)))
  let p3:Nat×AV:=(60,.sl 2 (((x2.take (mnI (x2.length:Int) 12).toNat).drop (0:Int).toNat).map (G5 (cdK .u8) (cdK .u8) (fun _=>rfl) (fun _=>rfl)).enc))
  let p4:Nat×AV:=(12,.v (.int .i64 v29.2.1))
  let p5:Nat×AV:=(11,.sl 1 (v29.1.map cdI.enc))
  let p6:Nat×AV:=(8,.sl 1 (r22.map (cdL 5 AA).enc))
  let p7:Nat×AV:=(7,.sl 9 (v1.map AI.enc))
  refine D0 AC [p7,p6,p5,p4,(14,e37),p3,p2,p1,(63,.v (.bool (decide (c41 < (((x2.take (mnI (x2.length:Int) 12).toNat).drop (0:Int).toNat).length:Int)))))] ?_;refine A8 ?_;refine Ec (b:=(decide (c41 < (((x2.take (mnI (x2.length:Int) 12).toNat).drop (0:Int).toNat).length:Int)))) kr (fun hb43=>?_) (fun hb43=>?_)
  ·rw [if_pos hb43] at h
   refine SemY.skip ?_;refine A8 ?_;refine DX ?_;refine A8 ?_;refine Ar ?_;obtain ⟨v44,hv44,h⟩:=OB h;refine BL AC 0 rfl (CZ (AB rfl) rfl (AQ (a:= .sl 2 (((x2.take (mnI (x2.length:Int) 12).toNat).drop (0:Int).toNat).map (G5 (cdK .u8) (cdK .u8) (fun _=>rfl) (fun _=>rfl)).enc)) (b:= .v (.int .i64 c41)) kr kr (GW (e:=(G5 (cdK .u8) (cdK .u8) (fun _=>rfl) (fun _=>rfl)).enc) (el:=63) (k:=2) (ki:= .i64) kr kr hv44))) ?_;refine BM AC 1 ?_;obtain ⟨e45,hp46,hb47,hT48⟩:=U2 (t:=63) (a:= .ag [.v (.int .u8 0),.v (.int .u8 0)]) hT kr;refine BL AC 0 rfl (Vo (AB rfl) rfl kr (Vm (z:= .ag [.v (.int .u8 0),.v (.int .u8 0)]) kr hb47)) ?_;obtain ⟨hp49,hs50,hT51⟩:=V6 (P:=Tryz.prog) (ty:=63) (y:= .ag [.v (.int .u8 v44.1),.v (.int .u8 v44.2)]) (a':= .ag [.v (.int .u8 v44.1),.v (.int .u8 v44.2)]) hT48 kr kr kr;refine RunL.store AC (y:=e45) (z:= .ag [.v (.int .u8 v44.1),.v (.int .u8 v44.2)]) rfl (AB rfl) kr kr hs50 ?_;refine CL rfl (SemY.fr (l':=[p7,p6,p5,p4,(14,e37),(16,e45),p3,p2,p1]) kr ?_);refine A8 ?_;refine Ar ?_;refine BM AC 1 ?_;refine BL AC 0 rfl (CZ (AB rfl) rfl (DS (a:= .sl 9 (v1.map AI.enc)) kr (B4 (el:=42) kr))) ?_;refine Du AC [p7,p6,p5,p4,(14,e37),(16,e45),p3,p2,p1,(68,.v (.bool (decide ((v1.length:Int) > 0))))] ?_;obtain ⟨r69,hr69,h⟩:=OB h;refine Ko (Jc v1 c42 v44 x2 r22 v29 e37 c41 e45 _ hr69 hT51) ?_;rintro _ ⟨hp70,hT71,rfl⟩;refine Ar ?_;refine BM AC 2 ?_;refine CL rfl ?_;exact Ew WkY.f1 (ih0 (wr .i64 (c41 + 1)) r69 _ h  hp70 hT71)
  ·rw [CK hb43] at h
   refine SemY.exit ?_;have hq:=OI h; subst hq;exact ⟨rfl,_,⟨hp,hT,rfl⟩,WkY.f1⟩
theorem KK {L:List Asn}{hp:Hp}(x0:(List (List (Int×Int×Int×Bool×Bool)))) (x1:(List (Int×Int))) (x2:(List (Int×Int))) (r:Bool) (h:DK x0 x1 x2=some r) (hT:T hp (L)):SemY E0 ⟨none,false⟩ Dc ⟨Fr 125 (BK 0 [.sl 1 (x0.map (cdL 5 (cdA (csC (cdK .u8) (csC (cdK .u8) (csC (cdK .u8) (csC cdB (csE cdB))))) (fun _=>rfl))).enc),.sl 2 (x1.map (G5 (cdK .u8) (cdK .u8) (fun _=>rfl) (fun _=>rfl)).enc),.sl 2 (x2.map (G5 (cdK .u8) (cdK .u8) (fun _=>rfl) (fun _=>rfl)).enc)]),hp⟩ fun x s'=>(x = .normal\/x = .ret)/\∃ ys,Ej E0.P s'.fr s'.hp Tryz.f13.results.toList=some ys/\(fun v h'=>v = .v (.bool r)/\T h' (L)) (Eu ys) s'.hp:=by
 unfold DK at h;refine Qr (QC (s1:=⟨Fr 125 [(0,.sl 1 (x0.map (cdL 5 (cdA (csC (cdK .u8) (csC (cdK .u8) (csC (cdK .u8) (csC cdB (csE cdB))))) (fun _=>rfl))).enc)),(1,.sl 2 (x1.map (G5 (cdK .u8) (cdK .u8) (fun _=>rfl) (fun _=>rfl)).enc)),(2,.sl 2 (x2.map (G5 (cdK .u8) (cdK .u8) (fun _=>rfl) (fun _=>rfl)).enc))],hp⟩) WkY.f1 ?_);refine D0 AC [(0,.sl 1 (x0.map (cdL 5 (cdA (csC (cdK .u8) (csC (cdK .u8) (csC (cdK .u8) (csC cdB (csE cdB))))) (fun _=>rfl))).enc)),(1,.sl 2 (x1.map (G5 (cdK .u8) (cdK .u8) (fun _=>rfl) (fun _=>rfl)).enc)),(2,.sl 2 (x2.map (G5 (cdK .u8) (cdK .u8) (fun _=>rfl) (fun _=>rfl)).enc))] ?_;refine A8 ?_;refine Ar ?_;refine BM AC 1 ?_;obtain ⟨v1,hv1,h⟩:=OB h;refine Dt (v:=v1) (caps:=[]) (xs:=[.sl 2 (x1.map (G5 (cdK .u8) (cdK .u8) (fun _=>rfl) (fun _=>rfl)).enc),.v (.int .i64 7)]) (u:=(x1,7,())) rfl rfl N5 rfl (AB rfl) kr kr (Bi (C5 (c:=(cdL 2 (G5 (cdK .u8) (cdK .u8) (fun _=>rfl) (fun _=>rfl)))) (v:=x1)) (Bi (C5 (c:=cdI) (v:=7)) SeesD.nil)) (.inr ⟨by kernel_rfl,GD.de (x1,7,())⟩) hv1 ?_;refine Du AC [(0,.sl 1 (x0.map (cdL 5 (cdA (csC (cdK .u8) (csC (cdK .u8) (csC (cdK .u8) (csC cdB (csE cdB))))) (fun _=>rfl))).enc)),(2,.sl 2 (x2.map (G5 (cdK .u8) (cdK .u8) (fun _=>rfl) (fun _=>rfl)).enc)),(7,.sl 9 (v1.map AI.enc))] ?_;refine D0 AC [(0,.sl 1 (x0.map (cdL 5 (cdA (csC (cdK .u8) (csC (cdK .u8) (csC (cdK .u8) (csC cdB (csE cdB))))) (fun _=>rfl))).enc)),(2,.sl 2 (x2.map (G5 (cdK .u8) (cdK .u8) (fun _=>rfl) (fun _=>rfl)).enc)),(7,.sl 9 (v1.map AI.enc)),(8,.e0)] ?_;refine A8 ?_;refine A8 ?_;refine Ar ?_;refine BM AC 2 ?_;refine BL AC 0 rfl (CZ (AB rfl) rfl (DS (a:= .sl 1 (x0.map (cdL 5 (cdA (csC (cdK .u8) (csC (cdK .u8) (csC (cdK .u8) (csC cdB (csE cdB))))) (fun _=>rfl))).enc)) kr (B4 (el:=28) kr))) ?_;refine BM AC 1 ?_;by_cases hk2:(C7 0 (mnI (x0.length:Int) 5) x0.length)=true
 case neg=>rw [if_neg hk2] at h; cases h
 rw [if_pos hk2] at h;refine BL AC 0 rfl (CZ (AB rfl) rfl (Eb (a:= .sl 1 (x0.map (cdL 5 (cdA (csC (cdK .u8) (csC (cdK .u8) (csC (cdK .u8) (csC cdB (csE cdB))))) (fun _=>rfl))).enc)) (l:=none) (u:=(some (.v (.int .i64 (mnI (x0.length:Int) 5))))) (m:=none) kr kr kr rfl (I4 (xs:=x0) (e:=(cdL 5 (cdA (csC (cdK .u8) (csC (cdK .u8) (csC (cdK .u8) (csC cdB (csE cdB))))) (fun _=>rfl))).enc) (k:=1) (el:=28) (lo:=0) (hi:=(mnI (x0.length:Int) 5)) kr kr rfl (GN (JN hk2)) hk2))) ?_;refine BL AC 0 rfl (CZ (AB rfl) rfl (DS (a:= .sl 1 (((x0.take (mnI (x0.length:Int) 5).toNat).drop (0:Int).toNat).map (cdL 5 (cdA (csC (cdK .u8) (csC (cdK .u8) (csC (cdK .u8) (csC cdB (csE cdB))))) (fun _=>rfl))).enc)) kr (B4 (el:=28) kr))) ?_;refine Du AC [(2,.sl 2 (x2.map (G5 (cdK .u8) (cdK .u8) (fun _=>rfl) (fun _=>rfl)).enc)),(7,.sl 9 (v1.map AI.enc)),(8,.e0),(26,.sl 1 (((x0.take (mnI (x0.length:Int) 5).toNat).drop (0:Int).toNat).map (cdL 5 (cdA (csC (cdK .u8) (csC (cdK .u8) (csC (cdK .u8) (csC cdB (csE cdB))))) (fun _=>rfl))).enc)),(27,.v (.int .i64 (((x0.take (mnI (x0.length:Int) 5).toNat).drop (0:Int).toNat).length:Int))),(28,.v (.int .i64 0))] ?_;refine DX ?_
 have hT3:=(T.e0 (k:=1) (ty:=22) (o:=(ocV (cdL 5 AA))) hT)
 refine SemY.loop (n:=100000) ?_;obtain ⟨r22,hr22,h⟩:=OB h;refine GY (Ew WkY.f1 (Jd x0 x2 v1 _ 0 ([]:(List (List AE))) _ hr22 .e0 hp hT3)) ?_;rintro _ ⟨e23,hp24,hT25,rfl⟩;refine A8 ?_;refine Ar ?_;refine BM AC 2 ?_;obtain ⟨hp26,hw27,hT28⟩:=MQ (E:=E0) (n:=125) (l:=[(2,.sl 2 (x2.map (G5 (cdK .u8) (cdK .u8) (fun _=>rfl) (fun _=>rfl)).enc)),(7,.sl 9 (v1.map AI.enc)),(8,e23),(39,e23),(40,.sl 9 (v1.map AI.enc))]) (l':=[(2,.sl 2 (x2.map (G5 (cdK .u8) (cdK .u8) (fun _=>rfl) (fun _=>rfl)).enc)),(7,.sl 9 (v1.map AI.enc)),(8,.sl 1 (r22.map (cdL 5 AA).enc)),(39,.sl 1 (r22.map (cdL 5 AA).enc)),(40,.sl 9 (v1.map AI.enc))]) hT25 (LkT.at_ ⟨.inl kr,.inl kr,.inr ⟨kr,rfl⟩,.inr ⟨kr,rfl⟩,.inl kr,trivial⟩);refine Ut (WkY.trans WkY.f1 hw27) ?_;obtain ⟨v29,hv29,h⟩:=OB h;refine Dt (v:=v29) (caps:=[]) (xs:=[.sl 1 (r22.map (cdL 5 AA).enc),.sl 9 (v1.map AI.enc)]) (u:=(r22,v1,())) rfl rfl LG rfl (AB rfl) kr kr (Bi (C5 (c:=(cdL 1 (cdL 5 AA))) (v:=r22)) (Bi (C5 (c:=(cdL 9 AI)) (v:=v1)) SeesD.nil)) (.inr ⟨by kernel_rfl,EX.de (r22,v1,())⟩) hv29 ?_;refine Du AC [(2,.sl 2 (x2.map (G5 (cdK .u8) (cdK .u8) (fun _=>rfl) (fun _=>rfl)).enc)),(7,.sl 9 (v1.map AI.enc)),(8,.sl 1 (r22.map (cdL 5 AA).enc)),(11,.sl 1 (v29.1.map cdI.enc)),(12,.v (.int .i64 v29.2.1)),(13,.v (.int .i64 v29.2.2))] ?_;refine A8 ?_;refine A8 ?_;obtain ⟨j31,hj31,h⟩:=OB h;refine Mf (A:=fun s1=>∃ (h':Hp),T h' (L)/\s1=⟨Fr 125 [(2,.sl 2 (x2.map (G5 (cdK .u8) (cdK .u8) (fun _=>rfl) (fun _=>rfl)).enc)),(7,.sl 9 (v1.map AI.enc)),(8,.sl 1 (r22.map (cdL 5 AA).enc)),(11,.sl 1 (v29.1.map cdI.enc)),(12,.v (.int .i64 v29.2.1)),(53,.v (.bool j31))],h'⟩) ?_ ?_
 ·refine Gm (n:=125) AC 3 [(2,.sl 2 (x2.map (G5 (cdK .u8) (cdK .u8) (fun _=>rfl) (fun _=>rfl)).enc)),(7,.sl 9 (v1.map AI.enc)),(8,.sl 1 (r22.map (cdL 5 AA).enc)),(11,.sl 1 (v29.1.map cdI.enc)),(12,.v (.int .i64 v29.2.1)),(47,.v (.bool (v29.2.2 != 0)))] hp26 kr ?_
  rcases BE (v29.2.2 != 0) with hc97 | hc97
  ·rw [if_pos hc97] at hj31
   rw [hc97];refine BM AC 6 ?_;have hq:=OI hj31; subst hq;exact CL rfl ⟨_,⟨hp26,hT28,rfl⟩,WkY.f1⟩
  ·rw [CK hc97] at hj31
   rw [hc97];refine BM AC 2 ?_;refine BL AC 0 rfl (CZ kr rfl (DS (a:= .sl 9 (v1.map AI.enc)) kr (B4 (el:=42) kr))) ?_;obtain ⟨v30,hv30,hj31⟩:=OB hj31;refine Dt (v:=v30) (caps:=[]) (xs:=[.sl 1 (v29.1.map cdI.enc),.v (.int .i64 (v1.length:Int))]) (u:=(v29.1,(v1.length:Int),())) rfl rfl Kn rfl kr kr kr (Bi (C5 (c:=(cdL 1 cdI)) (v:=v29.1)) (Bi (C5 (c:=cdI) (v:=(v1.length:Int))) SeesD.nil)) (.inl kr) hv30 ?_;refine BM AC 2 ?_;have hq:=OI hj31; subst hq;exact CL rfl ⟨_,⟨hp26,hT28,rfl⟩,WkY.f1⟩
 rintro _ ⟨hp33,hT34,rfl⟩;refine Ec (b:=j31) kr (fun hb35=>?_) (fun hb35=>?_)
 ·rw [if_pos hb35] at h
  refine D0 AC [(6,.v (.bool false))] ?_;refine SemY.ret ?_;have hq:=OI h; subst hq;exact ⟨⟨Fr 125 [(6,.v (.bool false))],hp33⟩,WkY.f1,.inr rfl,[.v (.bool false)],kr,⟨rfl,hT34⟩⟩
 ·rw [CK hb35] at h
  refine SemY.skip ?_;refine A8 ?_;refine Ar ?_;refine BM AC 1 ?_;by_cases hk36:(Fa 8 v29.1.length)=true
  case neg=>rw [if_neg hk36] at h; cases h
  rw [if_pos hk36] at h;refine RU rfl rfl (KM v29.1 hk36) rfl (AB rfl) kr kr kr Re ?_;intro x h' hO; obtain ⟨e37,hp38,e37q,hp38q,hT39⟩:=Rg (c:=cdI) (k:=1) (t:=3) hT34 hO; rw [<-e37q,<-hp38q];refine Du AC [(2,.sl 2 (x2.map (G5 (cdK .u8) (cdK .u8) (fun _=>rfl) (fun _=>rfl)).enc)),(7,.sl 9 (v1.map AI.enc)),(8,.sl 1 (r22.map (cdL 5 AA).enc)),(11,.sl 1 (v29.1.map cdI.enc)),(12,.v (.int .i64 v29.2.1)),(14,e37)] ?_;refine A8 ?_;refine A8 ?_;refine Ar ?_;refine BM AC 2 ?_;refine BL AC 0 rfl (CZ (AB rfl) rfl (DS (a:= .sl 2 (x2.map (G5 (cdK .u8) (cdK .u8) (fun _=>rfl) (fun _=>rfl)).enc)) kr (B4 (el:=63) kr))) ?_;refine BM AC 1 ?_;by_cases hk40:(C7 0 (mnI (x2.length:Int) 12) x2.length)=true
  case neg=>rw [if_neg hk40] at h; cases h
  rw [if_pos hk40] at h;refine BL AC 0 rfl (CZ (AB rfl) rfl (Eb (a:= .sl 2 (x2.map (G5 (cdK .u8) (cdK .u8) (fun _=>rfl) (fun _=>rfl)).enc)) (l:=none) (u:=(some (.v (.int .i64 (mnI (x2.length:Int) 12))))) (m:=none) kr kr kr rfl (I4 (xs:=x2) (e:=(G5 (cdK .u8) (cdK .u8) (fun _=>rfl) (fun _=>rfl)).enc) (k:=2) (el:=63) (lo:=0) (hi:=(mnI (x2.length:Int) 12)) kr kr rfl (GN (JN hk40)) hk40))) ?_;refine BL AC 0 rfl (CZ (AB rfl) rfl (DS (a:= .sl 2 (((x2.take (mnI (x2.length:Int) 12).toNat).drop (0:Int).toNat).map (G5 (cdK .u8) (cdK .u8) (fun _=>rfl) (fun _=>rfl)).enc)) kr (B4 (el:=63) kr))) ?_;refine Du AC [(7,.sl 9 (v1.map AI.enc)),(8,.sl 1 (r22.map (cdL 5 AA).enc)),(11,.sl 1 (v29.1.map cdI.enc)),(12,.v (.int .i64 v29.2.1)),(14,e37),(60,.sl 2 (((x2.take (mnI (x2.length:Int) 12).toNat).drop (0:Int).toNat).map (G5 (cdK .u8) (cdK .u8) (fun _=>rfl) (fun _=>rfl)).enc)),(61,.v (.int .i64 (((x2.take (mnI (x2.length:Int) 12).toNat).drop (0:Int).toNat).length:Int))),(62,.v (.int .i64 0))] ?_;refine DX ?_;refine SemY.loop (n:=100000) ?_;obtain ⟨r73,hr73,h⟩:=OB h;refine GY (Ew WkY.f1 (Je x2 v1 r22 v29 e37 _ 0 v29.1 _ hr73  hp38 hT39)) ?_;rintro _ ⟨hp74,hT75,rfl⟩;refine A8 ?_;refine Ar ?_;refine BM AC 3 ?_;obtain ⟨v76,hv76,h⟩:=OB h;refine Dt (v:=v76) (caps:=[]) (xs:=[.sl 1 (r22.map (cdL 5 AA).enc),.sl 9 (v1.map AI.enc),e37]) (u:=(r22,v1,r73,())) rfl rfl Ev rfl (AB rfl) kr kr (Bi (C5 (c:=(cdL 1 (cdL 5 AA))) (v:=r22)) (Bi (C5 (c:=(cdL 9 AI)) (v:=v1)) (Bi (SeeD.own hT75 (i:=0) rfl) SeesD.nil))) (.inl kr) hv76 ?_;refine Du AC [(7,.sl 9 (v1.map AI.enc)),(8,.sl 1 (r22.map (cdL 5 AA).enc)),(11,.sl 1 (v29.1.map cdI.enc)),(12,.v (.int .i64 v29.2.1)),(14,e37),(19,.v (.int .i64 v76))] ?_;refine A8 ?_;obtain ⟨j82,hj82,h⟩:=OB h;refine Mf (A:=fun s1=>∃ (h':Hp),T h' (L)/\s1=⟨Fr 125 [(6,.v (.bool j82))],h'⟩) ?_ ?_
  ·refine Gm (n:=125) AC 4 [(7,.sl 9 (v1.map AI.enc)),(8,.sl 1 (r22.map (cdL 5 AA).enc)),(11,.sl 1 (v29.1.map cdI.enc)),(12,.v (.int .i64 v29.2.1)),(14,e37),(19,.v (.int .i64 v76)),(103,.v (.bool (decide (v76≥v29.2.1))))] hp74 kr ?_
   rcases BE (decide (v76≥v29.2.1)) with hc92 | hc92
   ·rw [if_pos hc92] at hj82
    rw [hc92];refine Gm (n:=125) AC 4 [(7,.sl 9 (v1.map AI.enc)),(8,.sl 1 (r22.map (cdL 5 AA).enc)),(11,.sl 1 (v29.1.map cdI.enc)),(12,.v (.int .i64 v29.2.1)),(14,e37),(103,.v (.bool true)),(107,.v (.bool (decide (v76 > v29.2.1))))] hp74 kr ?_;rcases BE (decide (v76 > v29.2.1)) with hc93 | hc93
    ·rw [if_pos hc93] at hj82
     rw [hc93];refine BM AC 10 ?_;obtain ⟨v77,hv77,hj82⟩:=OB hj82;refine Dt (v:=v77) (caps:=[]) (xs:=[.sl 1 (r22.map (cdL 5 AA).enc),.sl 9 (v1.map AI.enc),.sl 1 (v29.1.map cdI.enc)]) (u:=(r22,v1,v29.1,())) rfl rfl Ev rfl kr kr kr (Bi (C5 (c:=(cdL 1 (cdL 5 AA))) (v:=r22)) (Bi (C5 (c:=(cdL 9 AI)) (v:=v1)) (Bi (C5 (c:=(cdL 1 cdI)) (v:=v29.1)) SeesD.nil))) (.inl kr) hv77 ?_;refine Gm (n:=125) AC 4 [(122,.v (.bool (v77==v29.2.1)))] hp74 kr ?_;rcases BE (v77==v29.2.1) with hc94 | hc94
     ·rw [if_pos hc94] at hj82
      rw [hc94];obtain ⟨v78,hv78,hj82⟩:=OB hj82;refine Dt (v:=v78) (caps:=[]) (xs:=[]) (u:=(())) rfl rfl LJ rfl kr kr kr SeesD.nil (.inl kr) hv78 ?_;refine BM AC 2 ?_;have hq:=OI hj82; subst hq
      have hT84:=hT75.drop
      exact CL rfl ⟨_,⟨hp74,hT84,rfl⟩,WkY.f1⟩
     ·rw [CK hc94] at hj82
      rw [hc94];refine BM AC 3 ?_;have hq:=OI hj82; subst hq
      have hT85:=hT75.drop
      exact CL rfl ⟨_,⟨hp74,hT85,rfl⟩,WkY.f1⟩
    ·rw [CK hc93] at hj82
     rw [hc93];refine BM AC 2 ?_;obtain ⟨v79,hv79,hj82⟩:=OB hj82;refine Dt (v:=v79) (caps:=[]) (xs:=[e37,.sl 1 (v29.1.map cdI.enc)]) (u:=(r73,v29.1,())) rfl rfl Ji rfl kr kr kr (Bi (SeeD.own hT75 (i:=0) rfl) (Bi (C5 (c:=(cdL 1 cdI)) (v:=v29.1)) SeesD.nil)) (.inl kr) hv79 ?_;refine Gm (n:=125) AC 4 [(7,.sl 9 (v1.map AI.enc)),(8,.sl 1 (r22.map (cdL 5 AA).enc)),(11,.sl 1 (v29.1.map cdI.enc)),(12,.v (.int .i64 v29.2.1)),(114,.v (.bool (decide (v79≥0))))] hp74 kr ?_;rcases BE (decide (v79≥0)) with hc95 | hc95
     ·rw [if_pos hc95] at hj82
      rw [hc95];refine BM AC 3 ?_;obtain ⟨v80,hv80,hj82⟩:=OB hj82;refine Dt (v:=v80) (caps:=[]) (xs:=[.sl 1 (r22.map (cdL 5 AA).enc),.sl 9 (v1.map AI.enc),.sl 1 (v29.1.map cdI.enc)]) (u:=(r22,v1,v29.1,())) rfl rfl Ev rfl kr kr kr (Bi (C5 (c:=(cdL 1 (cdL 5 AA))) (v:=r22)) (Bi (C5 (c:=(cdL 9 AI)) (v:=v1)) (Bi (C5 (c:=(cdL 1 cdI)) (v:=v29.1)) SeesD.nil))) (.inl kr) hv80 ?_;refine Gm (n:=125) AC 4 [(122,.v (.bool (v80==v29.2.1)))] hp74 kr ?_;rcases BE (v80==v29.2.1) with hc96 | hc96
      ·rw [if_pos hc96] at hj82
       rw [hc96];obtain ⟨v81,hv81,hj82⟩:=OB hj82;refine Dt (v:=v81) (caps:=[]) (xs:=[]) (u:=(())) rfl rfl LJ rfl kr kr kr SeesD.nil (.inl kr) hv81 ?_;refine BM AC 2 ?_;have hq:=OI hj82; subst hq
       have hT86:=hT75.drop
       exact CL rfl ⟨_,⟨hp74,hT86,rfl⟩,WkY.f1⟩
      ·rw [CK hc96] at hj82
       rw [hc96];refine BM AC 3 ?_;have hq:=OI hj82; subst hq
       have hT87:=hT75.drop
       exact CL rfl ⟨_,⟨hp74,hT87,rfl⟩,WkY.f1⟩
     ·rw [CK hc95] at hj82
      rw [hc95];refine BM AC 11 ?_;have hq:=OI hj82; subst hq
      have hT88:=hT75.drop
      exact CL rfl ⟨_,⟨hp74,hT88,rfl⟩,WkY.f1⟩
   ·rw [CK hc92] at hj82
    rw [hc92];refine BM AC 22 ?_;have hq:=OI hj82; subst hq
    have hT89:=hT75.drop
    exact CL rfl ⟨_,⟨hp74,hT89,rfl⟩,WkY.f1⟩
  rintro _ ⟨hp90,hT91,rfl⟩;refine SemY.ret ?_;have hq:=OI h; subst hq;exact ⟨⟨Fr 125 [(6,.v (.bool j82))],hp90⟩,WkY.f1,.inr rfl,[.v (.bool j82)],kr,⟨rfl,hT91⟩⟩
def EY:Cs (((List (List (Int×Int×Int×Bool×Bool))))×((List (Int×Int)))×((List (Int×Int)))×Unit):=(csC (cdL 1 (cdL 5 (cdA (csC (cdK .u8) (csC (cdK .u8) (csC (cdK .u8) (csC cdB (csE cdB))))) (fun _=>rfl)))) (csC (cdL 2 (G5 (cdK .u8) (cdK .u8) (fun _=>rfl) (fun _=>rfl))) (csC (cdL 2 (G5 (cdK .u8) (cdK .u8) (fun _=>rfl) (fun _=>rfl))) csN)))
def Ff (r:Bool):AV:=cdB.enc r
def LB:List AV->Option AV:=EA EY (fun a=>DK a.1 a.2.1 a.2.2.1) Ff
theorem LI:XOk 13 LB:=by
 refine AW Tryz.func13 (c:=Dc) ?h2 ⟨Tryz.call13⟩ EY (fun a=>DK a.1 a.2.1 a.2.2.1) Ff (fun a=>(by show 3<=125; decide)) ?h3 ?h4
 case h2=>kernel_rfl
 case h3=>intro b; kernel_rfl
 case h4 =>
  intro a b h;refine Sem.mono (R7 (KK (L:=[]) (hp:=[]) a.1 a.2.1 a.2.2.1 b h T.nil)) fun e s' hs=>?_
  obtain ⟨h1,ys,h2,h3,-⟩:=hs;exact ⟨h1,ys,h2,h3⟩
theorem P9 {n:Int}(h1 : -9223372036854775808<=n) (h2:n<=9223372036854775807):wr .i64 n=n:=by
 show (if _ then n else _)=n
 rw [if_pos ⟨h1,h2⟩]
theorem Es {α:Type}(pre:List α) (v:α) (r:List α):idx (pre++v::r) (pre.length:Int)=some v:=by
 unfold idx
 rw [if_pos (by omega)]
 simp
theorem Hu {α:Type}{xs:List α}{i:Nat}(h:i < xs.length):idx xs (i:Int)=some xs[i]:=by
 unfold idx
 rw [if_pos (by omega)]
 simp [h]
theorem FM {α:Type}(pre:List α) (v:α) (r:List α) (h:(pre++v::r).length<=1000000000):wr .i64 ((pre.length:Int) + 1)=((pre++[v]).length:Int):=by
 simp at h
 rw [P9 (by omega) (by omega)]; simp
theorem HX {α:Type}(pre:List α) (v:α) (r:List α):decide ((pre.length:Int) < ((pre++v::r).length:Int))=true:=by
 simp; omega
theorem Il {b n:Nat}(hb:b<=1000) (h:n<=1000000000):Fa b n=true:=by
 have h1:n * b<=1000000000 * 1000:=Nat.mul_le_mul h hb
 unfold Fa
 rw [Bool.and_eq_true]
 exact ⟨Nat.ble_eq_true_of_le (by omega),Nat.ble_eq_true_of_le (by omega)⟩
/-- A loop over a list: v, its index, the rest. -/
def goU {α ρ:Type}(B:α->Nat->Option ρ->Option ρ) (D:Option ρ):List α->Nat->Option ρ
 | [],_=>D
 | v::r,i=>B v i (goU B D r (i + 1))
theorem XA {α ρ:Type}(xs:List α) (L:Nat->Int->Option ρ) (B:α->Nat->Option ρ->Option ρ) (D:Option ρ)
  (hs:∀ f (pre:List α) v r,xs=pre++v::r->L (f + 1) (pre.length:Int)=B v pre.length (L f (((pre++[v]).length:Nat):Int))) (hd:∀ f,L (f + 1) (xs.length:Int)=D) :
  ∀ (r pre:List α) (f:Nat),xs=pre++r->r.length < f->L f (pre.length:Int)=goU B D r pre.length
 | [],pre,f + 1,hx,_=>by
  rw [show pre.length=xs.length by rw [hx]; simp]
  exact hd f
 | v::r,pre,f + 1,hx,hf=>by
  rw [hs f pre v r hx]
  have:=XA xs L B D hs hd r (pre++[v]) f (by rw [hx]; simp) (by simp at hf; omega)
  rw [this]
  show B v pre.length _=B v pre.length _
  congr 1
  simp
theorem OE {α ρ:Type}(xs:List α) (L:Nat->Int->Option ρ) (B:α->Nat->Option ρ->Option ρ) (D:Option ρ) (f:Nat) (hf:xs.length < f)
  (hs:∀ f (pre:List α) v r,xs=pre++v::r->L (f + 1) (pre.length:Int)=B v pre.length (L f (((pre++[v]).length:Nat):Int))) (hd:∀ f,L (f + 1) (xs.length:Int)=D):L f 0=goU B D xs 0 :=
 XA xs L B D hs hd xs [] f rfl hf
/-- The first that meets a test. -/
theorem SZ {α:Type}(P:α->Option Bool) (p:α->Bool):∀ (xs:List α) (i:Nat),(∀ x ∈ xs,P x=some (p x))->∃ r:Unit ⊕ Int,goU (fun v i k=>(P v).bind fun b=>if b=true then some (.inr (i:Int)) else k) (some (.inl ())) xs i=some r/\(match r with | .inl _=>xs.any p=false | .inr n=>xs.any p=true/\0<=n)
 | [],i,_=>⟨.inl (),rfl,rfl⟩
 | x::xs,i,h=>by
  unfold goU
  rw [h x (by simp),OS]
  cases hp:p x with
  | true=>exact ⟨.inr i,by simp,by simp [hp]⟩
  | false =>
   obtain ⟨r,h1,h2⟩:=SZ P p xs (i + 1) fun y hy=>h y (List.mem_cons_of_mem _ hy)
   refine ⟨r,by simpa using h1,?_⟩
   cases r with
   | inl u=>simpa [hp] using h2
   | inr n=>simpa [hp] using h2
/-- slices.IndexFunc and slices.ContainsFunc. -/
theorem PH {α:Type}(xs:List α) (hx:xs.length<=99999) (P:α->Option Bool) (p:α->Bool) (hP:∀ x ∈ xs,P x=some (p x)) (L:Nat->Int->Option (Unit ⊕ Int))
  (h:∀ f c,L (f + 1) c=if decide (c < (xs.length:Int))=true then (idx xs c).bind fun v=>(P v).bind fun b=>if b=true then some (.inr c) else L f (wr .i64 (c + 1)) else some (.inl ())) :
  ∃ n,((L 100000 0).bind fun r=>match r with | .inl _=>some (-1) | .inr w=>some w)=some n/\decide (n≥0)=xs.any p:=by
 have e:=OE xs L (fun v i k=>(P v).bind fun b=>if b=true then some (.inr (i:Int)) else k) (some (.inl ())) 100000 (by omega) (fun f pre v r e=>by
  subst e
  rw [h,if_pos (HX pre v r),Es,OS,FM pre v r (by omega)]) (fun f=>by rw [h,if_neg (by simp)])
 obtain ⟨r,h1,h2⟩:=SZ P p xs 0 hP
 rw [e,h1]
 cases r with
 | inl u=>exact ⟨-1,rfl,by rw [h2]; rfl⟩
 | inr n=>exact ⟨n,rfl,by rw [h2.1]; simpa using h2.2⟩
/- slices.Equal[[]string,string] -/
/- trestle/trestlelaw03.SameClause -/
/- slices.EqualFunc[[]trestle/api.Clause,[]trestle/api.Clause,trestle/api.Clause,trestle/api.Clause] -/
/- trestle/trestlelaw03.Same -/
/- trestle/trestlelaw03.Copy -/
/- trestle/trestlelaw03.Few$1$1 -/
/- slices.IndexFunc[[]string,string] -/
/- slices.ContainsFunc[[]string,string] -/
/- trestle/trestlelaw03.Few$1 -/
/- slices.IndexFunc[[]trestle/api.Clause,trestle/api.Clause] -/
/- slices.ContainsFunc[[]trestle/api.Clause,trestle/api.Clause] -/
/- trestle/trestlelaw03.Few -/
/- trestle/trestleref03.between -/
def BH (x0:Int) (x1:Int) (x2:Int):Option (Bool) :=
 (if (decide (x1<=x0))=true then some (decide (x0<=x2)) else some false).bind fun j2 =>
 some j2
/- trestle/trestleref03.formed -/
def EM (x0:AE):Option ((Bool)) :=
 if (x0.1==8)=true then
 some (x0.1==8)
 else
 some (x0.1==9)
def EL (x0:AE):Option ((Bool)) :=
 if (x0.1==3)=true then
 some (x0.1==3)
 else
 (EM x0).bind fun r14 =>
 some r14
def EK (x0:AE):Option ((Bool)) :=
 if (x0.1==2)=true then
 some (x0.1==2)
 else
 (EL x0).bind fun r15 =>
 some r15
def EN (x0:AE):Option ((Bool)) :=
 if (x0.1==6)=true then
 some (x0.1==6)
 else
 some (x0.1==7)
def An (x0:AE):Option (Bool) :=
 if (x0.1==1)=true then
 (BH (x0.2.2.2.1.length:Int) 1 16).bind fun v2 =>
 (if v2=true then if (x0.2.2.2.2==0)=true then if (!x0.2.2.1)=true then some (x0.2.1==[]) else some false else some false else some false).bind fun j4 =>
 some j4
 else
 (EK x0).bind fun r16 =>
 if r16=true then
 (if ((x0.2.2.2.1.length:Int)==0)=true then if (x0.2.2.2.2==0)=true then some (!x0.2.2.1) else some false else some false).bind fun j19 =>
 some j19
 else
 if (x0.1==4)=true then
 (if ((x0.2.2.2.1.length:Int)==0)=true then (BH x0.2.2.2.2 1 2).bind fun v23 =>
 some v23 else some false).bind fun j25 =>
 some j25
 else
 if (x0.1==5)=true then
 (if ((x0.2.2.2.1.length:Int)==0)=true then some (x0.2.2.2.2==0) else some false).bind fun j29 =>
 some j29
 else
 (EN x0).bind fun r33 =>
 if r33=true then
 (BH (x0.2.2.2.1.length:Int) 1 16).bind fun v35 =>
 (if v35=true then some (x0.2.2.2.2==0) else some false).bind fun j37 =>
 some j37
 else
 if (x0.1==10)=true then
 (if ((x0.2.2.2.1.length:Int)==0)=true then (BH x0.2.2.2.2 0 63).bind fun v40 =>
 if v40=true then some (!x0.2.2.1) else some false else some false).bind fun j42 =>
 some j42
 else
 some false
/- trestle/trestlekit.Name -/
/- trestle/trestleref03.has -/
/- trestle/trestleref03.CheckOne -/
/- trestle/trestleref03.Check -/
def Wx (x:AE):Prop:=x.2.1.length<=40/\x.2.2.2.1.length<=20/\∀ s ∈ x.2.2.2.1,s.length<=40
def few (c:List AE):Prop:=c.length<=40/\∀ x ∈ c,Wx x
/-- Names. -/
def Vi (c:UInt8):Bool:=decide ((c.toNat:Int) < 97)||decide ((c.toNat:Int) > 122)
def FE (s:List UInt8):Bool:=decide (1<=s.length)&&decide (s.length<=12)&&!s.any Vi
theorem Sc:∀ (s:List UInt8) (i:Nat),goU (fun v _ (k:Option (Unit ⊕ Bool))=>if Vi v=true then some (.inr false) else k) (some (.inl ())) s i=some (if s.any Vi=true then .inr false else .inl ())
 | [],_=>rfl
 | c::s,i=>by
  unfold goU
  rw [Sc s (i + 1),List.any_cons]
  cases Vi c <;> rfl
theorem XF (s:List UInt8) (h:s.length<=99999):Dv s 100000 0=some (if s.any Vi=true then .inr false else .inl ()):=by
 rw [<-Sc s 0]
 refine OE s (Dv s) _ _ 100000 (by omega) (fun f pre v r e=>?_) (fun f=>?_)
 ·conv=>lhs; unfold Dv
  rw [e,if_pos (HX pre v r),Es,OS,OS,FM pre v r (by rw [<-e]; omega)]
  unfold Vi
  by_cases h:(v.toNat:Int) < 97 <;> simp [h]
 ·conv=>lhs; unfold Dv
  rw [if_neg (by simp)]
theorem Sr (s:List UInt8) (h:s.length<=99999):Fj s=some (FE s):=by
 unfold Fj FE
 rw [XF s h,OS]
 cases hb:s.any Vi
 ·by_cases h1:s.length < 1
  ·have:s.length=0:=by omega
   simp [this]
  ·simp [show (s.length:Int)≥1 by omega,show 1<=s.length by omega]; omega
 ·simp
theorem Vn (l:List (List UInt8)) (h:l.length<=99999) (hs:∀ s ∈ l,s.length<=99999):AS l=some (l.any fun s=>!FE s):=by
 unfold AS Ak
 obtain ⟨n,h1,h2⟩:=PH l h ET (fun s=>!FE s) (fun x hx=>by unfold ET; rw [Sr x (hs x hx)]; rfl) (Ap l) (fun f c=>rfl)
 rw [<-h2]
 exact (congrArg (fun o=>o.bind fun v1=>some (decide (v1≥0))) h1)
def MT (l:List (List UInt8)) (s:List UInt8):Bool:=l.any fun v=>s==v
theorem Hm (l:List (List UInt8)) (s:List UInt8) (h:l.length<=99999):Al l s=some (MT l s):=by
 unfold Al BC
 obtain ⟨n,h1,h2⟩:=PH l h (fun v=>some (s==v)) (fun v=>s==v) (fun _ _=>rfl) (As l s) (fun f c=>rfl)
 unfold MT
 rw [<-h2]
 exact (congrArg (fun o=>o.bind fun v1=>some (decide (v1≥0))) h1)
/-- What is asked of the fields, by a row: names, from, to, last. -/
def fin (L:Nat) (n:Int) (la:Bool) (w:Int×Int×Int×Bool):Option Bool :=
 (if (decide ((L:Int)<=w.1))=true then if (w.1==0)=true then if (decide (n≥w.2.1))=true then if (decide (n<=w.2.2.1))=true then if w.2.2.2=true then some true else some (!la) else some false else some false else if (decide ((L:Int) > 0))=true then if (decide (n≥w.2.1))=true then if (decide (n<=w.2.2.1))=true then if w.2.2.2=true then some true else some (!la) else some false else some false else some false else some false).bind fun j58=>some j58
theorem KW (L:Nat) (n:Int) (la:Bool) (a lo hi:Int) (last:Bool):fin L n la (a,lo,hi,last)=some ((decide ((L:Int)<=a)&&(a==0||decide ((L:Int) > 0)))&&(decide (n≥lo)&&(decide (n<=hi)&&(last||!la)))):=by
 unfold fin
 dsimp only
 generalize decide ((L:Int)<=a)=b1
 generalize (a==0)=b2
 generalize decide ((L:Int) > 0)=b3
 generalize decide (n≥lo)=b4
 generalize decide (n<=hi)=b5
 cases b1 <;> cases b2 <;> cases b3 <;> cases b4 <;> cases b5 <;> cases last <;> cases la <;> rfl
theorem SW (x:AE):∃ b,BV x=some b/\An x=some b:=by
 obtain ⟨k,am,la,nm,n⟩:=x
 by_cases h1:k=1
 ·subst h1
  have hr:An (1,am,la,nm,n)=some ((decide (1<=(nm.length:Int))&&decide ((nm.length:Int)<=16))&&((n==0)&&(!la&&(am==[])))):=by
   unfold An
   unfold BH
   dsimp only
   generalize decide (1<=(nm.length:Int))=b0
   generalize decide ((nm.length:Int)<=16)=b1
   generalize (n==0)=b2
   generalize (am==[])=b3
   cases b0 <;> cases b1 <;> cases b2 <;> cases la <;> cases b3 <;> rfl
  refine ⟨_,?_,hr⟩
  cases am with
  | cons a am =>
   have hc:BV (1,a::am,la,nm,n)=some false:=rfl
   rw [hc]
   simp
  | nil =>
   have hc:BV (1,[],la,nm,n)=fin nm.length n la (16,0,0,false):=rfl
   rw [hc,KW]
   congr 1
   rw [Bool.eq_iff_iff]
   generalize nm.length=L
   cases la <;> simp <;> omega
 by_cases h2:k=2
 ·subst h2
  have hr:An (2,am,la,nm,n)=some (((nm.length:Int)==0)&&((n==0)&&!la)):=by
   unfold An
   unfold BH
   dsimp only
   generalize ((nm.length:Int)==0)=b0
   generalize (n==0)=b1
   cases b0 <;> cases b1 <;> cases la <;> rfl
  refine ⟨_,?_,hr⟩
  have hc:BV (2,am,la,nm,n)=fin nm.length n la (0,0,0,false):=rfl
  rw [hc,KW]
  congr 1
  rw [Bool.eq_iff_iff]
  generalize nm.length=L
  cases la <;> simp <;> omega
 by_cases h3:k=3
 ·subst h3
  have hr:An (3,am,la,nm,n)=some (((nm.length:Int)==0)&&((n==0)&&!la)):=by
   unfold An
   unfold BH
   dsimp only
   generalize ((nm.length:Int)==0)=b0
   generalize (n==0)=b1
   cases b0 <;> cases b1 <;> cases la <;> rfl
  refine ⟨_,?_,hr⟩
  have hc:BV (3,am,la,nm,n)=fin nm.length n la (0,0,0,false):=rfl
  rw [hc,KW]
  congr 1
  rw [Bool.eq_iff_iff]
  generalize nm.length=L
  cases la <;> simp <;> omega
 by_cases h8:k=8
 ·subst h8
  have hr:An (8,am,la,nm,n)=some (((nm.length:Int)==0)&&((n==0)&&!la)):=by
   unfold An
   unfold BH
   dsimp only
   generalize ((nm.length:Int)==0)=b0
   generalize (n==0)=b1
   cases b0 <;> cases b1 <;> cases la <;> rfl
  refine ⟨_,?_,hr⟩
  have hc:BV (8,am,la,nm,n)=fin nm.length n la (0,0,0,false):=rfl
  rw [hc,KW]
  congr 1
  rw [Bool.eq_iff_iff]
  generalize nm.length=L
  cases la <;> simp <;> omega
 by_cases h9:k=9
 ·subst h9
  have hr:An (9,am,la,nm,n)=some (((nm.length:Int)==0)&&((n==0)&&!la)):=by
   unfold An
   unfold BH
   dsimp only
   generalize ((nm.length:Int)==0)=b0
   generalize (n==0)=b1
   cases b0 <;> cases b1 <;> cases la <;> rfl
  refine ⟨_,?_,hr⟩
  have hc:BV (9,am,la,nm,n)=fin nm.length n la (0,0,0,false):=rfl
  rw [hc,KW]
  congr 1
  rw [Bool.eq_iff_iff]
  generalize nm.length=L
  cases la <;> simp <;> omega
 by_cases h4:k=4
 ·subst h4
  have hr:An (4,am,la,nm,n)=some (((nm.length:Int)==0)&&(decide (1<=n)&&decide (n<=2))):=by
   unfold An
   unfold BH
   dsimp only
   generalize ((nm.length:Int)==0)=b0
   generalize decide (1<=n)=b1
   generalize decide (n<=2)=b2
   cases b0 <;> cases b1 <;> cases b2 <;> cases la <;> rfl
  refine ⟨_,?_,hr⟩
  have hc:BV (4,am,la,nm,n)=fin nm.length n la (0,1,2,true):=rfl
  rw [hc,KW]
  congr 1
  rw [Bool.eq_iff_iff]
  generalize nm.length=L
  cases la <;> simp <;> omega
 by_cases h5:k=5
 ·subst h5
  have hr:An (5,am,la,nm,n)=some (((nm.length:Int)==0)&&(n==0)):=by
   unfold An
   unfold BH
   dsimp only
   generalize ((nm.length:Int)==0)=b0
   generalize (n==0)=b1
   cases b0 <;> cases b1 <;> cases la <;> rfl
  refine ⟨_,?_,hr⟩
  have hc:BV (5,am,la,nm,n)=fin nm.length n la (0,0,0,true):=rfl
  rw [hc,KW]
  congr 1
  rw [Bool.eq_iff_iff]
  generalize nm.length=L
  cases la <;> simp <;> omega
 by_cases h6:k=6
 ·subst h6
  have hr:An (6,am,la,nm,n)=some ((decide (1<=(nm.length:Int))&&decide ((nm.length:Int)<=16))&&(n==0)):=by
   unfold An
   unfold BH
   dsimp only
   generalize decide (1<=(nm.length:Int))=b0
   generalize decide ((nm.length:Int)<=16)=b1
   generalize (n==0)=b2
   cases b0 <;> cases b1 <;> cases b2 <;> cases la <;> rfl
  refine ⟨_,?_,hr⟩
  have hc:BV (6,am,la,nm,n)=fin nm.length n la (16,0,0,true):=rfl
  rw [hc,KW]
  congr 1
  rw [Bool.eq_iff_iff]
  generalize nm.length=L
  cases la <;> simp <;> omega
 by_cases h7:k=7
 ·subst h7
  have hr:An (7,am,la,nm,n)=some ((decide (1<=(nm.length:Int))&&decide ((nm.length:Int)<=16))&&(n==0)):=by
   unfold An
   unfold BH
   dsimp only
   generalize decide (1<=(nm.length:Int))=b0
   generalize decide ((nm.length:Int)<=16)=b1
   generalize (n==0)=b2
   cases b0 <;> cases b1 <;> cases b2 <;> cases la <;> rfl
  refine ⟨_,?_,hr⟩
  have hc:BV (7,am,la,nm,n)=fin nm.length n la (16,0,0,true):=rfl
  rw [hc,KW]
  congr 1
  rw [Bool.eq_iff_iff]
  generalize nm.length=L
  cases la <;> simp <;> omega
 by_cases h10:k=10
 ·subst h10
  have hr:An (10,am,la,nm,n)=some (((nm.length:Int)==0)&&((decide (0<=n)&&decide (n<=63))&&!la)):=by
   unfold An
   unfold BH
   dsimp only
   generalize ((nm.length:Int)==0)=b0
   generalize decide (0<=n)=b1
   generalize decide (n<=63)=b2
   cases b0 <;> cases b1 <;> cases b2 <;> cases la <;> rfl
  refine ⟨_,?_,hr⟩
  have hc:BV (10,am,la,nm,n)=fin nm.length n la (0,0,63,false):=rfl
  rw [hc,KW]
  congr 1
  rw [Bool.eq_iff_iff]
  generalize nm.length=L
  cases la <;> simp <;> omega
 have e:∀ m:Int,(m=1\/m=2\/m=3\/m=4\/m=5\/m=6\/m=7\/m=8\/m=9\/m=10)->(k==m)=false:=fun m hm=>by
  rw [beq_eq_false_iff_ne]
  rintro rfl
  omega
 refine ⟨false,?_,?_⟩
 ·simp [BV,Fp,Fq,Fs,Ft,Fu,Fv,Fz,F0,F3,e]
 ·simp [An,EK,EL,EM,EN,e]
def fm (x:AE):Bool:=(An x).getD false
theorem Yu (x:AE):BV x=some (fm x):=by
 obtain ⟨b,h1,h2⟩:=SW x
 rw [h1]; unfold fm; rw [h2]; rfl
/-- Is a name there twice? -/
def TO (l:List (List UInt8)):List (List UInt8)->Nat->Bool
 | [],_=>false
 | v::r,i=>MT (l.take i) v||TO l r (i + 1)
def HY (before:List AE) (am:List UInt8):Bool:=before.any fun b=>(b.1==1)&&MT b.2.2.2.1 am
def chk (before:List AE) (x:AE):Int :=
 if fm x=false then 30 else
 if ((!(x.2.1==[]))&&!FE x.2.1)=true\/(x.2.2.2.1.any fun s=>!FE s)=true then 4 else
 if TO x.2.2.2.1 x.2.2.2.1 0=true then 5 else
 if x.2.1=[]\/HY before x.2.1=true then 0 else 31
theorem Sb (l:List (List UInt8)):∀ (r:List (List UInt8)) (i:Nat),goU (fun v i (k:Option (Unit ⊕ Int))=>if MT (l.take i) v=true then some (.inr 5) else k) (some (.inl ())) r i=some (if TO l r i=true then .inr 5 else .inl ())
 | [],_=>rfl
 | v::r,i=>by
  unfold goU TO
  rw [Sb l r (i + 1)]
  cases MT (l.take i) v <;> rfl
theorem YK (b:List AE) (j:AE) (h:j.2.2.2.1.length<=99999):DV b j 100000 0=some (if TO j.2.2.2.1 j.2.2.2.1 0=true then .inr 5 else .inl ()):=by
 rw [<-Sb]
 refine OE j.2.2.2.1 (DV b j) _ _ 100000 (by omega) (fun f pre v r e=>?_) (fun f=>?_)
 ·conv=>lhs; unfold DV
  have hl:j.2.2.2.1.length=pre.length + r.length + 1:=by rw [e]; simp; omega
  rw [if_pos (by rw [e]; exact HX pre v r),show idx j.2.2.2.1 (pre.length:Int)=some v by rw [e,Es],OS,if_pos (by unfold C7; simp; omega),Int.toNat_natCast]
  rw [show ((j.2.2.2.1.take pre.length).drop (0:Int).toNat)=j.2.2.2.1.take pre.length from rfl,Hm _ _ (by simp; omega),OS,FM pre v r (by rw [<-e]; omega)]
 ·conv=>lhs; unfold DV
  rw [if_neg (by simp)]
theorem UE (b:List AE) (x:AE) (h:b.length<=99999) (hb:∀ y ∈ b,y.2.2.2.1.length<=99999):AR b x=some (HY b x.2.1):=by
 unfold AR Aa
 obtain ⟨n,h1,h2⟩:=PH b h (fun v=>EU v x) (fun y=>(y.1==1)&&MT y.2.2.2.1 x.2.1) (fun y hy=>by
  unfold EU
  rw [Hm _ _ (hb y hy)]
  cases (y.1==1) <;> rfl) (Ae b x) (fun f c=>rfl)
 unfold HY
 rw [<-h2]
 exact (congrArg (fun o=>o.bind fun v1=>some (decide (v1≥0))) h1)
theorem YF (b:List AE) (x:AE) (hb:few b) (hx:Wx x):Fb b x=some (chk b x):=by
 have hn:∀ s ∈ x.2.2.2.1,s.length<=99999:=fun s hs=>by have:=hx.2.2 s hs; omega
 unfold Fb chk
 rw [Yu,OS]
 cases hf:fm x with
 | false=>simp
 | true =>
  rw [if_neg (show ¬ ((!true)=true) by simp),if_neg (show ¬ (true=false) by simp),Vn _ (by have:=hx.2.1; omega) hn,Sr _ (by have:=hx.1; omega)]
  have e:((if (!(x.2.1==[]))=true then (some (FE x.2.1)).bind fun v3=>if (!v3)=true then some true else (some (x.2.2.2.1.any fun s=>!FE s)).bind fun v4=>some v4 else (some (x.2.2.2.1.any fun s=>!FE s)).bind fun v5=>some v5):Option Bool)=some (((!(x.2.1==[]))&&!FE x.2.1)||(x.2.2.2.1.any fun s=>!FE s)):=by
   cases (x.2.1==[]) <;> cases FE x.2.1 <;> rfl
  rw [e,OS]
  cases hq:(((!(x.2.1==[]))&&!FE x.2.1)||(x.2.2.2.1.any fun s=>!FE s)) with
  | true=>rw [if_pos rfl,if_pos (by simpa using hq)]
  | false =>
   rw [if_neg (show ¬ (false=true) by simp),if_neg (show ¬ (((!(x.2.1==[]))&&!FE x.2.1)=true\/(x.2.2.2.1.any fun s=>!FE s)=true) by simpa using hq),YK _ _ (by have:=hx.2.1; omega),OS]
   try dsimp only
   cases hd:TO x.2.2.2.1 x.2.2.2.1 0 with
   | true=>rfl
   | false =>
    rw [if_neg (show ¬ (false=true) by simp)]
    dsimp only
    have hr:=UE b x (by have:=hb.1; omega) (fun y hy=>by have:=(hb.2 y hy).2.1; omega)
    rw [hr]
    by_cases ha:x.2.1=[]
    ·simp [ha]
    ·simp only [ha,false_or]
     cases HY b x.2.1 <;> simp [ha]
section
variable (c pre r:List AE) (x:AE) (e:c=pre++x::r) (h:few c)
include e h
end
/-- The first error of a text: its place, and which. -/
def Qw (c:List AE):List AE->Nat->Unit ⊕ (Int×Int)
 | [],_=> .inl ()
 | x::r,i=>if chk (c.take i) x≠0 then .inr ((i:Int),chk (c.take i) x) else Qw c r (i + 1)
def Oe (c:List AE):Int×Int:=if c.length > 32 then (0,7) else match Qw c c 0 with
 | .inl _=>(0,0)
 | .inr w=>w
theorem Sa (c:List AE):∀ (r:List AE) (i:Nat),goU (fun x i (k:Option (Unit ⊕ (Int×Int)))=>if (chk (c.take i) x != 0)=true then some (.inr ((i:Int),chk (c.take i) x)) else k) (some (.inl ())) r i=some (Qw c r i)
 | [],_=>rfl
 | x::r,i=>by
  unfold goU Qw
  rw [Sa c r (i + 1)]
  by_cases h:chk (c.take i) x=0 <;> simp [h]
theorem Tl {c:List AE}(h:few c) (n:Nat):few (c.take n):=⟨by have:=h.1; simp; omega,fun x hx=>h.2 x (List.mem_of_mem_take hx)⟩
theorem SI (c:List AE) (h:few c):El c=some (Oe c):=by
 have hl:=h.1
 have e1:DU c 100000 0=some (Qw c c 0):=by
  rw [<-Sa]
  refine OE c (DU c) _ _ 100000 (by omega) (fun f pre v r e=>?_) (fun f=>?_)
  ·conv=>lhs; unfold DU
   have hl2:c.length=pre.length + r.length + 1:=by rw [e]; simp; omega
   rw [if_pos (by rw [e]; exact HX pre v r),show idx c (pre.length:Int)=some v by rw [e,Es],OS,if_pos (by unfold C7; simp; omega),Int.toNat_natCast,
    show ((c.take pre.length).drop (0:Int).toNat)=c.take pre.length from rfl,YF _ v (Tl h _) (h.2 v (by rw [e]; simp)),OS,FM pre v r (by rw [<-e]; omega)]
  ·conv=>lhs; unfold DU
   rw [if_neg (by simp)]
 unfold El Oe
 by_cases h32:c.length > 32
 ·rw [if_pos (by simp; omega),if_pos h32]
 ·rw [if_neg (by simp; omega),if_neg h32,e1,OS]
  cases Qw c c 0 <;> rfl
/- trestle/court.Reason -/
/- trestle/court.Compare -/
/- trestle/trestleref03.rank -/
/- trestle/trestleref03.key -/
/- trestle/trestleref03.named -/
/- trestle/trestleref03.before -/
/- trestle/trestleref03.Reason -/
/-- The first of a word in a list, from a number on. -/
def rkN (s:List UInt8):List (List UInt8)->Nat->Nat
 | [],i=>i
 | v::r,i=>if (s==v)=true then i else rkN s r (i + 1)
theorem Um (s:List UInt8):∀ (l:List (List UInt8)) (i:Nat),MT l s=false->rkN s l i=i + l.length
 | [],i,_=>rfl
 | v::r,i,h=>by
  have h':((s==v)||MT r s)=false:=h
  simp only [Bool.or_eq_false_iff] at h'
  unfold rkN
  rw [if_neg (show ¬ (s==v)=true by rw [h'.1]; decide),Um s r (i + 1) h'.2]
  simp; omega
theorem Ug (s:List UInt8):∀ (l:List (List UInt8)) (i:Nat),goU (fun v i (k:Option (Unit ⊕ Int))=>if (s==v)=true then some (.inr (i:Int)) else k) (some (.inl ())) l i=some (if MT l s=true then .inr (rkN s l i:Int) else .inl ())
 | [],_=>rfl
 | v::r,i=>by
  unfold goU rkN
  rw [Ug s r (i + 1)]
  have:MT (v::r) s=((s==v)||MT r s):=rfl
  rw [this]
  cases (s==v) <;> rfl
def rk (l:List (List UInt8)) (s:List UInt8):Int:=(rkN s l 0:Nat)
theorem Ul (x:Ad) (c:AE) (h:c.2.2.2.1.length<=99999):C6 x c=some (rk c.2.2.2.1 x.1.2.1):=by
 unfold C6 BC
 have e:As c.2.2.2.1 x.1.2.1 100000 0=some (if MT c.2.2.2.1 x.1.2.1=true then .inr (rkN x.1.2.1 c.2.2.2.1 0:Int) else .inl ()):=by
  rw [<-Ug]
  refine OE c.2.2.2.1 (As c.2.2.2.1 x.1.2.1) _ _ 100000 (by omega) (fun f pre v r e=>?_) (fun f=>?_)
  ·conv=>lhs; unfold As
   rw [if_pos (by rw [e]; exact HX pre v r),show idx c.2.2.2.1 (pre.length:Int)=some v by rw [e,Es],OS,FM pre v r (by rw [<-e]; omega)]
  ·conv=>lhs; unfold As
   rw [if_neg (by simp)]
 rw [e]
 cases hh:MT c.2.2.2.1 x.1.2.1 with
 | true=>simp [rk]
 | false=>simp [rk,Um _ _ _ hh]
/-- -1, 0 or 1. -/
def Ij (x y:Int):Int:=if x < y then -1 else if y < x then 1 else 0
theorem SL (x y:Int):BU x y=some (Ij x y):=by
 unfold BU ES Ij
 simp only [bne_self_eq_false,OS,Bool.false_eq_true,if_false,decide_eq_true_eq,gt_iff_lt]
 split
 ·rfl
 ·split <;> rfl
def SK (x y:List UInt8):Int:=if Go.Op.bytesLess x y=true then -1 else if (!(Go.Op.bytesLess x y||x==y))=true then 1 else 0
theorem YG (x y:List UInt8):Cj x y=some (SK x y):=by
 unfold Cj DG SK
 simp only [beq_self_eq_true,Bool.not_true,OS,Bool.false_eq_true,if_false]
 split
 ·rfl
 ·split <;> rfl
/-- Does a clause name a guest? -/
def nmB (c:AE) (g:Ax):Bool :=
 if (c.1==4)=true then g.2.2.2.2.1==c.2.2.2.2 else
 if (c.1==5)=true then g.2.2.2.2.2.2.1 else
 if (c.1==7)=true then MT c.2.2.2.1 g.2.2.1 else g.2.2.2.2.2.2.2.2.any fun s=>MT c.2.2.2.1 s
theorem P0 (t:List (List UInt8)) (c:AE) (ht:t.length<=99999) (h:c.2.2.2.1.length<=99999):AX t c=some (t.any fun s=>MT c.2.2.2.1 s):=by
 unfold AX Af
 obtain ⟨n,h1,h2⟩:=PH t ht (fun v=>Df v c) (fun s=>MT c.2.2.2.1 s) (fun v _=>by unfold Df; rw [Hm _ _ h]; rfl) (Am t c) (fun f c=>rfl)
 rw [<-h2]
 exact (congrArg (fun o=>o.bind fun v1=>some (decide (v1≥0))) h1)
def nv (c:AE) (g:Ax):Int:=if (!(nmB c g==c.2.2.1))=true then 0 else 1
def Pc (i:Int):Bool:=decide (i≥0)&&decide (i<=63)
theorem YQ (i:Int):CG i=some (Pc i):=by
 unfold CG Pc
 by_cases h:i≥0 <;> simp [h]
def kyI (i n:Int):Int:=(wr .i64 ((wr .i64 (i * (wr .i64 ((wr .i64 (n + n)) + 1)))) + n)).tmod 64
theorem YT (i:Int) (c:AE):DQ i c=some (kyI i c.2.2.2.2):=by
 unfold DQ kyI
 rw [Int.two_mul]
def b2 (b:Bool):Int:=if b=true then 1 else 0
theorem Yr (b:Bool):Hn b=some (b2 b):=by cases b <;> rfl
def snc (y:Bool) (s t:Int):Int:=if (!((s==0)==(t==0)))=true then Ij (b2 (s==0)) (b2 (t==0)) else if y=true then wr .i64 (0 - Ij s t) else Ij s t
/-- What a clause says of two guests at their places, without regard to Among. -/
def Nl (c:AE) (a b:Ax) (i j:Int):Int :=
 if (c.1==1)=true then Ij (rk c.2.2.2.1 a.2.1) (rk c.2.2.2.1 b.2.1) else
 if (c.1==2)=true then snc false a.2.2.2.1 b.2.2.2.1 else
 if (c.1==3)=true then snc true a.2.2.2.1 b.2.2.2.1 else
 if (c.1==8)=true then SK a.1 b.1 else
 if (c.1==9)=true then if (!Pc i||!Pc j)=true then 0 else Ij i j else
 if (c.1==10)=true then if (!Pc i||!Pc j)=true then 0 else Ij (kyI i c.2.2.2.2) (kyI j c.2.2.2.2) else
 Ij (nv c a) (nv c b)
def amB (c:AE) (a b:Ax):Bool:=(!(c.2.1==[]))&&((!(a.2.1==c.2.1))||(!(b.2.1==c.2.1)))
def dir (c:AE) (a b:Ax) (i j:Int):Int:=if amB c a b=true then 0 else Nl c a b i j
theorem Yq (c:AE) (a b:Ax):((if (!(c.2.1==[]))=true then if (!(a.2.1==c.2.1))=true then some true else some (!(b.2.1==c.2.1)) else some false):Option Bool)=some (amB c a b):=by
 unfold amB
 cases (c.2.1==[]) <;> cases (a.2.1==c.2.1) <;> rfl
theorem RF (a b:Ax) (i j:Int) (c:AE):CV (a,i) (b,j) c=some (snc (c.1==3) a.2.2.2.1 b.2.2.2.1):=by
 unfold CV snc FU
 simp only [Yr,SL,OS]
 split
 ·rfl
 ·split <;> rfl
theorem YJ (c:AE) (a b:Ax) (i j:Int) (h:c.2.2.2.1.length<=99999) (ha:a.2.2.2.2.2.2.2.2.length<=99999) (hb:b.2.2.2.2.2.2.2.2.length<=99999) (hk:1<=c.1/\c.1<=10):De (a,i) (b,j) c=some (dir c a b i j):=by
 have cl:∀ (o:Option Int) (x:Int),o=some x->((((if (!(c.2.1==[]))=true then if (!(a.2.1==c.2.1))=true then some true else some (!(b.2.1==c.2.1)) else some false):Option Bool).bind fun j2=>if j2=true then some 0 else o.bind fun v4=>some v4):Option Int)=some (if amB c a b=true then 0 else x):=fun o x e=>by
  rw [Yq,OS,e]
  cases amB c a b <;> rfl
 have nm:∀ (p q:Bool),((if (!(p==c.2.2.1))=true then some 0 else some 1:Option Int).bind fun v1=>(if (!(q==c.2.2.1))=true then some 0 else some 1:Option Int).bind fun v2=>(BU v1 v2).bind fun v3=>some v3)=some (Ij (if (!(p==c.2.2.1))=true then 0 else 1) (if (!(q==c.2.2.1))=true then 0 else 1)):=fun p q=>by
  simp only [SL]
  cases (p==c.2.2.1) <;> cases (q==c.2.2.1) <;> rfl
 have pl:∀ (o:Int->Option Int) (k:Int->Int),(∀ i,o i=some (k i))->(((CG i).bind fun v1=>((if (!v1)=true then some true else (CG j).bind fun v2=>some (!v2)):Option Bool).bind fun j4=>if j4=true then some 0 else (o i).bind fun v6=>(o j).bind fun v7=>(BU v6 v7).bind fun v8=>some v8):Option Int)=some (if (!Pc i||!Pc j)=true then 0 else Ij (k i) (k j)):=fun o k e=>by
  simp only [YQ,OS,e,SL]
  cases Pc i <;> cases Pc j <;> rfl
 unfold De dir
 by_cases h1:c.1=1
 ·have e1:(c.1==1)=true:=by simp [h1]
  rw [if_pos e1]
  refine cl (Bq (fun x (v:AE×Unit)=>C6 x v.1) (a,i) (b,j) (c,())) _ ?_
  unfold Bq Nl
  dsimp only
  rw [if_pos e1,Ul _ c h,OS,Ul _ c h,OS,SL]; rfl
 rw [if_neg (show ¬ (c.1==1)=true by simpa using h1)]
 by_cases h2:c.1=2
 ·have e2:(c.1==2)=true:=by simp [h2]
  rw [if_pos e2]
  refine cl (CV (a,i) (b,j) c) _ ?_
  unfold Nl
  rw [if_neg (show ¬ (c.1==1)=true by simpa using h1),if_pos e2,RF,h2]; rfl
 rw [if_neg (show ¬ (c.1==2)=true by simpa using h2)]
 by_cases h3:c.1=3
 ·have e3:(c.1==3)=true:=by simp [h3]
  rw [if_pos e3]
  refine cl (CV (a,i) (b,j) c) _ ?_
  unfold Nl
  rw [if_neg (show ¬ (c.1==1)=true by simpa using h1),if_neg (show ¬ (c.1==2)=true by simpa using h2),if_pos e3,RF,h3]; rfl
 rw [if_neg (show ¬ (c.1==3)=true by simpa using h3)]
 by_cases h4:c.1=4
 ·have e4:(c.1==4)=true:=by simp [h4]
  rw [if_pos e4]
  refine cl (Bq (fun x (v:AE×AE×Unit)=>Ay x v.1 v.2.1) (a,i) (b,j) (c,c,())) _ ?_
  have:Nl c a b i j=Ij (nv c a) (nv c b):=by unfold Nl; simp [h4]
  rw [this]
  unfold nv nmB
  rw [if_pos e4,if_pos e4]
  exact nm _ _
 rw [if_neg (show ¬ (c.1==4)=true by simpa using h4)]
 by_cases h5:c.1=5
 ·have e5:(c.1==5)=true:=by simp [h5]
  rw [if_pos e5]
  refine cl (Bq (fun x (v:Unit×AE×Unit)=>Az x v.2.1) (a,i) (b,j) ((),c,())) _ ?_
  have:Nl c a b i j=Ij (nv c a) (nv c b):=by unfold Nl; simp [h5]
  rw [this]
  unfold nv nmB
  simp only [h5]
  exact nm _ _
 rw [if_neg (show ¬ (c.1==5)=true by simpa using h5)]
 by_cases h6:c.1=6
 ·have e6:(c.1==6)=true:=by simp [h6]
  rw [if_pos e6]
  refine cl (Bq (fun x (v:AE×AE×Unit)=>Au x v.1 v.2.1) (a,i) (b,j) (c,c,())) _ ?_
  have:Nl c a b i j=Ij (nv c a) (nv c b):=by unfold Nl; simp [h6]
  rw [this]
  unfold Bq Au Ey
  dsimp only
  rw [P0 _ _ ha h,P0 _ _ hb h]
  unfold nv nmB
  simp only [h6]
  exact nm _ _
 rw [if_neg (show ¬ (c.1==6)=true by simpa using h6)]
 by_cases h7:c.1=7
 ·have e7:(c.1==7)=true:=by simp [h7]
  rw [if_pos e7]
  refine cl (Bq (fun x (v:AE×AE×Unit)=>Av x v.1 v.2.1) (a,i) (b,j) (c,c,())) _ ?_
  have:Nl c a b i j=Ij (nv c a) (nv c b):=by unfold Nl; simp [h7]
  rw [this]
  unfold Bq Av Ez
  dsimp only
  rw [Hm _ _ h,Hm _ _ h]
  unfold nv nmB
  simp only [h7]
  exact nm _ _
 rw [if_neg (show ¬ (c.1==7)=true by simpa using h7)]
 by_cases h8:c.1=8
 ·have e8:(c.1==8)=true:=by simp [h8]
  rw [if_pos e8]
  refine cl (Dw (a,i) (b,j)) _ ?_
  have:Nl c a b i j=SK a.1 b.1:=by unfold Nl; simp [h8]
  rw [this]
  unfold Dw
  rw [YG]; rfl
 rw [if_neg (show ¬ (c.1==8)=true by simpa using h8)]
 by_cases h10:c.1=10
 ·have e10:(c.1==10)=true:=by simp [h10]
  rw [if_pos e10]
  refine cl (Ab (a,i) (b,j) c) _ ?_
  have:Nl c a b i j=if (!Pc i||!Pc j)=true then 0 else Ij (kyI i c.2.2.2.2) (kyI j c.2.2.2.2):=by unfold Nl; simp [h10]
  rw [this]
  exact pl (fun i=>DQ i c) (fun i=>kyI i c.2.2.2.2) (fun i=>YT i c)
 rw [if_neg (show ¬ (c.1==10)=true by simpa using h10)]
 have h9:c.1=9:=by omega
 refine cl (Ac (a,i) (b,j)) _ ?_
 have:Nl c a b i j=if (!Pc i||!Pc j)=true then 0 else Ij i j:=by unfold Nl; simp [h9]
 rw [this]
 exact pl (fun i=>EW i) (fun i=>i) (fun i=>rfl)
theorem Qu:∀ (x y:List UInt8),Go.Op.bytesLess x y=false->Go.Op.bytesLess y x=!(x==y)
 | [],[],_=>rfl
 | a::x,[],_=>rfl
 | [],b::y,h=>by cases h
 | a::x,b::y,h=>by
  have h':(decide (a < b)||(a==b&&Go.Op.bytesLess x y))=false:=h
  simp only [Bool.or_eq_false_iff,decide_eq_false_iff_not] at h'
  show (decide (b < a)||(b==a&&Go.Op.bytesLess y x))=!(a::x==b::y)
  by_cases e:a=b
  ·subst e
   have h2:Go.Op.bytesLess x y=false:=by simpa using h'.2
   have:=Qu x y h2
   simp [this]
  ·have hlt:b < a:=by
    rcases Nat.lt_trichotomy a.toNat b.toNat with q | q | q
    ·exact absurd (UInt8.lt_iff_toNat_lt.2 q) h'.1
    ·exact absurd (UInt8.toNat_inj.1 q) e
    ·exact UInt8.lt_iff_toNat_lt.2 q
   simp [hlt,e]
theorem XP (y:Bool) (s t:Int):snc y s t=if ((s != 0)&&((t==0)||(if y=true then decide (s > t) else decide (s < t))))=true then -1 else if ((t != 0)&&((s==0)||(if y=true then decide (t > s) else decide (t < s))))=true then 1 else 0:=by
 have w1:wr .i64 1=1:=by decide
 have w2:wr .i64 (-1) = -1:=by decide
 have w3:wr .i64 0=0:=by decide
 unfold snc Ij b2
 by_cases hs:s=0 <;> by_cases ht:t=0
 ·subst hs ht; cases y <;> simp [w3]
 ·subst hs; simp [ht]
 ·subst ht; simp [hs]
 ·have e1:(s==0)=false:=by simpa using hs
  have e2:(t==0)=false:=by simpa using ht
  have e3:(s != 0)=true:=by simpa using hs
  have e4:(t != 0)=true:=by simpa using ht
  rw [e1,e2,e3,e4]
  rcases Int.lt_trichotomy s t with q | q | q
  ·have q2:¬ t < s:=by omega
   cases y <;> simp [q,q2,w1]
  ·subst q; cases y <;> simp [w3]
  ·have q2:¬ s < t:=by omega
   cases y <;> simp [q,q2,w2]
/-- The first clause that separates two guests. -/
def rsn (a b:Ax) (i j:Int):List AE->Nat->Unit ⊕ (Int×Int)
 | [],_=> .inl ()
 | x::r,k=>if dir x a b i j=0 then rsn a b i j r (k + 1) else .inr ((k:Int),dir x a b i j)
def Xv (c:List AE) (a b:Ax) (i j:Int):Int×Int:=match rsn a b i j c 0 with
 | .inl _=>(-1,0)
 | .inr w=>w
theorem W0 (a b:Ax) (i j:Int):∀ (r:List AE) (k:Nat),goU (fun x k (n:Option (Unit ⊕ (Int×Int)))=>if (dir x a b i j != 0)=true then some (.inr ((k:Int),dir x a b i j)) else n) (some (.inl ())) r k=some (rsn a b i j r k)
 | [],_=>rfl
 | x::r,k=>by
  unfold goU rsn
  rw [W0 a b i j r (k + 1)]
  by_cases h:dir x a b i j=0 <;> simp [h]
def TP (g:Ax):Prop:=g.2.2.2.2.2.2.2.2.length<=10
def Va (c:List AE):Prop:=∀ x ∈ c,1<=x.1/\x.1<=10
theorem VK (c:List AE) (a b:Ax) (i j:Int) (h:few c) (hk:Va c) (ha:TP a) (hb:TP b):Ah c (a,i) (b,j)=some (Xv c a b i j):=by
 have hl:=h.1
 have e:AY c 100000 a.1 a.2.1 a.2.2.1 a.2.2.2.1 a.2.2.2.2.1 a.2.2.2.2.2.1 a.2.2.2.2.2.2.1 a.2.2.2.2.2.2.2.1 a.2.2.2.2.2.2.2.2 i b.1 b.2.1 b.2.2.1 b.2.2.2.1 b.2.2.2.2.1 b.2.2.2.2.2.1 b.2.2.2.2.2.2.1 b.2.2.2.2.2.2.2.1 b.2.2.2.2.2.2.2.2 j 0=some (rsn a b i j c 0):=by
  rw [<-W0]
  refine OE c (fun f n=>AY c f a.1 a.2.1 a.2.2.1 a.2.2.2.1 a.2.2.2.2.1 a.2.2.2.2.2.1 a.2.2.2.2.2.2.1 a.2.2.2.2.2.2.2.1 a.2.2.2.2.2.2.2.2 i b.1 b.2.1 b.2.2.1 b.2.2.2.1 b.2.2.2.2.1 b.2.2.2.2.2.1 b.2.2.2.2.2.2.1 b.2.2.2.2.2.2.2.1 b.2.2.2.2.2.2.2.2 j n) _ _ 100000 (by omega) (fun f pre v r e=>?_) (fun f=>?_)
  ·conv=>lhs; unfold AY
   have hv:Wx v:=h.2 v (by rw [e]; simp)
   have hd:=YJ v a b i j (by have:=hv.2.1; omega) (by unfold TP at ha; omega) (by unfold TP at hb; omega) (hk v (by rw [e]; simp))
   rw [if_pos (by rw [e]; exact HX pre v r),show idx c (pre.length:Int)=some v by rw [e,Es],OS]
   rw [show De ((a.1,a.2.1,a.2.2.1,a.2.2.2.1,a.2.2.2.2.1,a.2.2.2.2.2.1,a.2.2.2.2.2.2.1,a.2.2.2.2.2.2.2.1,a.2.2.2.2.2.2.2.2),i) ((b.1,b.2.1,b.2.2.1,b.2.2.2.1,b.2.2.2.2.1,b.2.2.2.2.2.1,b.2.2.2.2.2.2.1,b.2.2.2.2.2.2.2.1,b.2.2.2.2.2.2.2.2),j) v=some (dir v a b i j) from hd,OS,FM pre v r (by rw [<-e]; omega)]
  ·show AY c (f + 1) a.1 a.2.1 a.2.2.1 a.2.2.2.1 a.2.2.2.2.1 a.2.2.2.2.2.1 a.2.2.2.2.2.2.1 a.2.2.2.2.2.2.2.1 a.2.2.2.2.2.2.2.2 i b.1 b.2.1 b.2.2.1 b.2.2.2.1 b.2.2.2.2.1 b.2.2.2.2.2.1 b.2.2.2.2.2.2.1 b.2.2.2.2.2.2.2.1 b.2.2.2.2.2.2.2.2 j (c.length:Int)=_
   conv=>lhs; unfold AY
   rw [if_neg (by simp)]
 unfold Ah Xv
 dsimp only
 rw [e,OS]
 cases rsn a b i j c 0 <;> rfl
theorem Pm (c:List AE) (h:few c) (hk:Va c):∀ (r pre:List AE) (f:Nat),c=pre++r->r.length < f->DA c f pre (pre.length:Int)=some c
 | [],pre,f + 1,e,_=>by
  unfold DA
  rw [if_neg (by rw [e]; simp),e,List.append_nil]
 | v::r,pre,f + 1,e,hf=>by
  have hl:=h.1
  have hl2:c.length=pre.length + r.length + 1:=by rw [e]; simp; omega
  simp only [List.length_cons] at hf
  have hkv:=hk v (by rw [e]; simp)
  unfold DA
  rw [if_pos (by rw [e]; exact HX pre v r),show idx c (pre.length:Int)=some v by rw [e,Es],OS,show EV v=some v by unfold EV; rw [if_pos hkv],OS,if_pos (Il (by omega) (by omega)),show wr .i64 ((pre.length:Int) + 1)=((pre++[v]).length:Int) from FM pre v r (by rw [<-e]; omega)]
  exact Pm c h hk r (pre++[v]) f (by rw [e]; simp) (by omega)
theorem VL {x:AE}(h:fm x=true):1<=x.1/\x.1<=10:=by
 by_cases hk:1<=x.1/\x.1<=10
 ·exact hk
 ·exfalso
  have n:∀ q:Int,1<=q->q<=10->¬ (x.1==q)=true:=fun q h1 h2 e=>hk (by have:x.1=q:=(by simpa using e); omega)
  have e:An x=some false:=by
   unfold An EK EL EM EN
   have n9:(x.1==9)=false:=by simpa using n 9 (by omega) (by omega)
   have n7:(x.1==7)=false:=by simpa using n 7 (by omega) (by omega)
   rw [if_neg (n 1 (by omega) (by omega)),if_neg (n 2 (by omega) (by omega)),if_neg (n 3 (by omega) (by omega)),if_neg (n 8 (by omega) (by omega)),if_neg (n 4 (by omega) (by omega)),if_neg (n 5 (by omega) (by omega)),if_neg (n 6 (by omega) (by omega)),if_neg (n 10 (by omega) (by omega)),n9,n7]
   rfl
  unfold fm at h
  rw [e] at h
  cases h
theorem Od (c:List AE):∀ (r:List AE) (i:Nat),(∃ u,Qw c r i = .inl u/\∀ x ∈ r,fm x=true)\/∃ w,Qw c r i = .inr w/\w.2≠0
 | [],i=> .inl ⟨(),rfl,fun x hx=>by cases hx⟩
 | x::r,i=>by
  unfold Qw
  by_cases h:chk (c.take i) x=0
  ·rw [if_neg (by simpa using h)]
   rcases Od c r (i + 1) with ⟨u,h1,h2⟩ | h1
   ·refine .inl ⟨u,h1,fun y hy=>?_⟩
    rcases List.mem_cons.1 hy with rfl | hy
    ·cases hf:fm y with
     | true=>rfl
     | false=>unfold chk at h; rw [if_pos hf] at h; cases h
    ·exact h2 y hy
   ·exact .inr h1
  ·rw [if_pos h]
   exact .inr ⟨_,rfl,h⟩
theorem NW {c:List AE}(h:(Oe c).2=0):Va c:=by
 unfold Oe at h
 split at h
 ·cases h
 ·rcases Od c c 0 with ⟨u,h1,h2⟩ | ⟨w,h1,h2⟩
  ·exact fun x hx=>VL (h2 x hx)
  ·rw [h1] at h; exact absurd h h2
/-- A letter a to d. -/
def wd (k:Int):List UInt8:=((((([97,98,99,100]:List UInt8).take (([97,98,99,100]:List UInt8).length:Int).toNat).drop k.toNat).take (1:Int).toNat).drop (0:Int).toNat)
theorem Xr {k:Int}(h1:0<=k) (h2:k < 4):k=0\/k=1\/k=2\/k=3:=by omega
theorem TJ {k:Int}(h1:0<=k) (h2:k < 4):FE (wd k)=true/\(wd k).length=1:=by
 rcases Xr h1 h2 with rfl | rfl | rfl | rfl <;> decide
theorem XZ {a b:Int}(h1:0<=a) (h2:a < 4) (h3:0<=b) (h4:b < 4) (h:(wd a==wd b)=true):a=b:=by
 rcases Xr h1 h2 with rfl | rfl | rfl | rfl <;> rcases Xr h3 h4 with rfl | rfl | rfl | rfl <;> first | rfl | (exact absurd h (by decide))
theorem WP {k:Int}(h1:0<=k) (h2:k < 4):C7 k (([97,98,99,100]:List UInt8).length:Int) ([97,98,99,100]:List UInt8).length=true/\C7 0 (1:Int) ((([97,98,99,100]:List UInt8).take (([97,98,99,100]:List UInt8).length:Int).toNat).drop k.toNat).length=true:=by
 rcases Xr h1 h2 with rfl | rfl | rfl | rfl <;> exact ⟨by decide,by decide⟩
def u8 (n:Int):Prop:=0<=n/\n<=255
theorem tm4 {n:Int}(h:u8 n):0<=n.tmod 4/\n.tmod 4 < 4:=by
 have:=h.1
 rw [Int.tmod_eq_emod_of_nonneg this]
 omega
theorem wr8 (n:Int) (h:u8 n):u8 (wr .u8 (n + 1))/\(wr .u8 (n + 1)).tmod 4≠n.tmod 4:=by
 have e:wr .u8 (n + 1)=(n + 1) % 256:=rfl
 have h2:u8 ((n + 1) % 256):=⟨by omega,by omega⟩
 refine ⟨e ▸ h2,?_⟩
 rw [e,Int.tmod_eq_emod_of_nonneg h2.1,Int.tmod_eq_emod_of_nonneg h.1]
 unfold u8 at h
 omega
/-- The names of a code. -/
def nms (v:Int×Int×Int×Bool×Bool):List (List UInt8):=if ((DO .u8 v.2.2.1 4)!=0)=true then [wd (v.2.2.1.tmod 4),wd ((wr .u8 (v.2.2.1 + 1)).tmod 4)] else [wd (v.2.2.1.tmod 4)]
theorem XC (x0:List (Int×Int×Int×Bool×Bool)) (c2:List AE) (c3:List UInt8) (c4:Int) (v:Int×Int×Int×Bool×Bool) (h:u8 v.2.2.1):GK x0 c2 c3 c4 v=some (nms v):=by
 unfold GK nms
 obtain ⟨h1,_⟩:=wr8 _ h
 obtain ⟨q1,q2⟩:=tm4 h1
 obtain ⟨d1,d2⟩:=WP q1 q2
 by_cases hc:((DO .u8 v.2.2.1 4)!=0)=true
 ·rw [if_pos hc,if_pos hc,if_pos d1,if_pos d2]
  refine (if_pos ?_).trans rfl
  show Fa 16 2=true
  decide
 ·rw [if_neg hc,if_neg hc]; rfl
/-- The clause of a code. -/
def clz (k:Int) (am:List UInt8) (la:Bool) (nm:List (List UInt8)) (b:Int):AE :=
 if k=1 then (1,am,false,nm,0) else if k=4 then (4,am,la,[],wr .i64 (1 + wr .i64 (b.tmod 2))) else if k=5 then (5,am,la,[],0) else
 if k=6 then (6,am,la,nm,0) else if k=7 then (7,am,la,nm,0) else if k=10 then (10,am,false,[],wr .i64 (b.tmod 64)) else (k,am,false,[],0)
theorem ten {k:Int}(h1:1<=k) (h2:k<=10):k=1\/k=2\/k=3\/k=4\/k=5\/k=6\/k=7\/k=8\/k=9\/k=10:=by omega
theorem XD (x0:List (Int×Int×Int×Bool×Bool)) (c2:List AE) (c3:List UInt8) (c4 a b d:Int) (e g:Bool) (k:Int) (am:List UInt8) (w:List UInt8) (nm:List (List UInt8)) (h1:1<=k) (h2:k<=10) :
  GL x0 c3 c4 (c2,a,b,d,e,g,k,am,false,0,w::nm)=some (c2,(if k=1 then w else c3),clz k am e (w::nm) b):=by
 rcases ten h1 h2 with rfl | rfl | rfl | rfl | rfl | rfl | rfl | rfl | rfl | rfl <;> rfl
/-- Names that are fit. -/
def Xl (nm:List (List UInt8)):Prop:=1<=nm.length/\nm.length<=2/\(nm.any fun s=>!FE s)=false/\TO nm nm 0=false/\∀ s ∈ nm,s.length<=40
theorem Sw (v:Int×Int×Int×Bool×Bool) (h:u8 v.2.2.1):Xl (nms v)/\∃ r,nms v=wd (v.2.2.1.tmod 4)::r:=by
 obtain ⟨h1,h0⟩:=wr8 _ h
 obtain ⟨q1,q2⟩:=tm4 h1
 obtain ⟨p1,p2⟩:=tm4 h
 obtain ⟨a1,a2⟩:=TJ p1 p2
 obtain ⟨b1,b2⟩:=TJ q1 q2
 have hne:(wd ((wr .u8 (v.2.2.1 + 1)).tmod 4)==wd (v.2.2.1.tmod 4))=false:=by
  cases hh:(wd ((wr .u8 (v.2.2.1 + 1)).tmod 4)==wd (v.2.2.1.tmod 4)) with
  | false=>rfl
  | true=>exact absurd (XZ q1 q2 p1 p2 hh) h0
 unfold nms
 split
 ·refine ⟨⟨by simp,by simp,by simp [a1,b1],?_,fun s hs=>?_⟩,_,rfl⟩
  ·simp [TO,MT,hne]
  ·rcases (by simpa using hs:s=_\/s=_) with rfl | rfl <;> omega
 ·refine ⟨⟨by simp,by simp,by simp [a1],by simp [TO,MT],fun s hs=>?_⟩,_,rfl⟩
  have:s=wd (v.2.2.1.tmod 4):=by simpa using hs
  rw [this]; omega
theorem Wq (k:Int) (am:List UInt8) (la:Bool) (nm:List (List UInt8)) (b:Int) (h1:1<=k) (h2:k<=10) (hb:u8 b) (ha:k=1->am=[]) (hn:Xl nm):fm (clz k am la nm b)=true:=by
 obtain ⟨n1,n2,_⟩:=hn
 have hl:nm.length=1\/nm.length=2:=by omega
 have e2:wr .i64 (1 + wr .i64 (b.tmod 2))=1\/wr .i64 (1 + wr .i64 (b.tmod 2))=2:=by
  rw [Int.tmod_eq_emod_of_nonneg hb.1]
  have hw:wr .i64 (b % 2)=b % 2:=P9 (by omega) (by omega)
  rw [hw,P9 (by omega) (by omega)]
  omega
 have e64:0<=wr .i64 (b.tmod 64)/\wr .i64 (b.tmod 64)<=63:=by
  rw [Int.tmod_eq_emod_of_nonneg hb.1,P9 (by omega) (by omega)]
  omega
 unfold fm
 rcases ten h1 h2 with rfl | rfl | rfl | rfl | rfl | rfl | rfl | rfl | rfl | rfl
 ·obtain rfl:=ha rfl
  have:clz 1 [] la nm b=(1,[],false,nm,0):=rfl
  rw [this]
  rcases hl with h | h <;> simp [An,BH,h]
 ·rfl
 ·rfl
 ·have:clz 4 am la nm b=(4,am,la,[],wr .i64 (1 + wr .i64 (b.tmod 2))):=rfl
  rw [this]
  rcases e2 with h | h <;> rw [h] <;> rfl
 ·rfl
 ·have:clz 6 am la nm b=(6,am,la,nm,0):=rfl
  rw [this]
  rcases hl with h | h <;> simp [An,EK,EL,EM,EN,BH,h]
 ·have:clz 7 am la nm b=(7,am,la,nm,0):=rfl
  rw [this]
  rcases hl with h | h <;> simp [An,EK,EL,EM,EN,BH,h]
 ·rfl
 ·rfl
 ·have:clz 10 am la nm b=(10,am,false,[],wr .i64 (b.tmod 64)):=rfl
  rw [this]
  simp [An,EK,EL,EM,EN,BH,e64.1,e64.2]
/-- Every clause is valid behind what stands before it. -/
def Iz (pre:List AE):List AE->Prop
 | []=>True
 | x::r=>chk pre x=0/\Iz (pre++[x]) r
theorem K0:∀ (a pre b:List AE),Iz pre (a++b)↔Iz pre a/\Iz (pre++a) b
 | [],pre,b=>by simp [Iz]
 | x::a,pre,b=>by
  simp only [List.cons_append,Iz,K0 a (pre++[x]) b,List.append_assoc,List.cons_append,List.nil_append,and_assoc]
theorem OK (a b:List AE) (s:List UInt8):HY (a++b) s=(HY a s||HY b s):=by
 unfold HY
 rw [List.any_append]
theorem PZ (c:List AE):∀ (r pre:List AE),c=pre++r->Iz pre r->Qw c r pre.length = .inl ()
 | [],_,_,_=>rfl
 | x::r,pre,e,h=>by
  unfold Qw
  have ht:c.take pre.length=pre:=by rw [e]; simp
  rw [ht,if_neg (by rw [h.1]; decide)]
  have:=PZ c r (pre++[x]) (by rw [e]; simp) h.2
  simpa using this
theorem VT {c:List AE}(hl:c.length<=32) (h:Iz [] c):Oe c=(0,0):=by
 unfold Oe
 have:Qw c c 0 = .inl ():=PZ c c [] rfl h
 rw [if_neg (by omega),this]
theorem Ue (k:Int) (am:List UInt8) (la:Bool) (nm:List (List UInt8)) (b:Int):(clz k am la nm b).2.1=am:=by
 unfold clz
 split; · rfl
 split; · rfl
 split; · rfl
 split; · rfl
 split; · rfl
 split <;> rfl
theorem Qx (k:Int) (am:List UInt8) (la:Bool) (nm:List (List UInt8)) (b:Int):(clz k am la nm b).2.2.2.1=nm\/(clz k am la nm b).2.2.2.1=[]:=by
 unfold clz
 split; · exact .inl rfl
 split; · exact .inr rfl
 split; · exact .inr rfl
 split; · exact .inl rfl
 split; · exact .inl rfl
 split <;> exact .inr rfl
theorem VA (pre:List AE) (k:Int) (am:List UInt8) (la:Bool) (nm:List (List UInt8)) (b:Int) (h1:1<=k) (h2:k<=10) (hb:u8 b) (ha:k=1->am=[]) (hn:Xl nm) (hr:am=[]\/HY pre am=true/\FE am=true):chk pre (clz k am la nm b)=0:=by
 unfold chk
 rw [Wq k am la nm b h1 h2 hb ha hn,if_neg (by decide),Ue]
 have hN:((clz k am la nm b).2.2.2.1.any fun s=>!FE s)=false:=by
  rcases Qx k am la nm b with e | e <;> rw [e]
  ·exact hn.2.2.1
  ·rfl
 have hD:TO (clz k am la nm b).2.2.2.1 (clz k am la nm b).2.2.2.1 0=false:=by
  rcases Qx k am la nm b with e | e <;> rw [e]
  ·exact hn.2.2.2.1
  ·rfl
 rw [hN,hD]
 rcases hr with rfl | ⟨h3,h4⟩
 ·simp
 ·simp [h3,h4]
theorem VB (k:Int) (am:List UInt8) (la:Bool) (nm:List (List UInt8)) (b:Int) (ha:am.length<=40) (hn:Xl nm):Wx (clz k am la nm b):=by
 refine ⟨by rw [Ue]; exact ha,?_,?_⟩
 ·rcases Qx k am la nm b with e | e <;> rw [e]
  ·have:=hn.2.1; omega
  ·simp
 ·rcases Qx k am la nm b with e | e <;> rw [e]
  ·exact hn.2.2.2.2
  ·simp
theorem W6 {a:Int}(h:u8 a):1<=wr .u8 (1 + a.tmod 10)/\wr .u8 (1 + a.tmod 10)<=10:=by
 rw [Int.tmod_eq_emod_of_nonneg h.1]
 have e:wr .u8 (1 + a % 10)=(1 + a % 10) % 256:=rfl
 rw [e]
 omega
def PM (v:Int×Int×Int×Bool×Bool):Prop:=u8 v.1/\u8 v.2.1/\u8 v.2.2.1
/-- What the loop keeps. -/
def Tt (c2:List AE) (c3:List UInt8):Prop:=Iz [] c2/\(∀ x ∈ c2,Wx x)/\(c3=[]\/(HY c2 c3=true/\FE c3=true/\c3.length<=40))
theorem Sg {c2:List AE}{c3:List UInt8}(h:Tt c2 c3) (v:Int×Int×Int×Bool×Bool) (hv:PM v) (am:List UInt8) (ham:am=[]\/am=c3) (hk1:wr .u8 (1 + v.1.tmod 10)=1->am=[]) (w:List UInt8) (r:List (List UInt8)) (hw:nms v=w::r) :
  Tt (c2++[clz (wr .u8 (1 + v.1.tmod 10)) am v.2.2.2.1 (w::r) v.2.1]) (if wr .u8 (1 + v.1.tmod 10)=1 then w else c3):=by
 obtain ⟨g1,g2,g3⟩:=h
 obtain ⟨k1,k2⟩:=W6 hv.1
 obtain ⟨n1,r',n2⟩:=Sw v hv.2.2
 rw [hw] at n1
 have ha:am=[]\/HY c2 am=true/\FE am=true:=by
  rcases ham with e | e
  ·exact .inl e
  ·rcases g3 with g3 | ⟨q1,q2,_⟩
   ·exact .inl (e.trans g3)
   ·rw [e]; exact .inr ⟨q1,q2⟩
 have ha40:am.length<=40:=by
  rcases ham with e | e
  ·rw [e]; simp
  ·rcases g3 with g3 | ⟨_,_,q3⟩
   ·rw [e,g3]; simp
   ·rw [e]; exact q3
 refine ⟨(K0 _ _ _).2 ⟨g1,VA _ _ _ _ _ _ k1 k2 hv.2.1 hk1 n1 ha,trivial⟩,fun x hx=>?_,?_⟩
 ·rcases List.mem_append.1 hx with hx | hx
  ·exact g2 x hx
  ·rw [List.mem_singleton.1 hx]
   exact VB _ _ _ _ _ ha40 n1
 ·by_cases hk:wr .u8 (1 + v.1.tmod 10)=1
  ·rw [if_pos hk]
   refine .inr ⟨?_,?_,n1.2.2.2.2 w (by simp)⟩
   ·rw [OK,hk]
    have:HY [clz 1 am v.2.2.2.1 (w::r) v.2.1] w=true:=by
     unfold HY clz MT
     simp
    rw [this]; simp
   ·have:=n1.2.2.1
    simp at this
    exact this.1
  ·rw [if_neg hk]
   rcases g3 with g3 | ⟨q1,q2,q3⟩
   ·exact .inl g3
   ·exact .inr ⟨by rw [OK,q1]; simp,q2,q3⟩
theorem Sp (x0:List (Int×Int×Int×Bool×Bool)) (ys:List (Int×Int×Int×Bool×Bool)) (hys:((x0.take (mnI (x0.length:Int) 8).toNat).drop (0:Int).toNat)=ys) (hb:∀ v ∈ ys,PM v) (h8:ys.length<=8):∀ (r pre:List (Int×Int×Int×Bool×Bool)) (c2:List AE) (c3:List UInt8) (f:Nat),ys=pre++r->r.length < f->c2.length=pre.length->Tt c2 c3 ->
  ∃ c c3',Dy x0 f c2 c3 (pre.length:Int)=some c/\Tt c c3'/\c.length=ys.length
 | [],pre,c2,c3,f + 1,e,_,hl,hk=>by
  refine ⟨c2,c3,?_,hk,by rw [hl,e]; simp⟩
  unfold Dy
  rw [hys,if_neg (by rw [e]; simp)]
 | v::r,pre,c2,c3,f + 1,e,hf,hl,hk=>by
  have hv:=hb v (by rw [e]; simp)
  have hl2:ys.length=pre.length + r.length + 1:=by rw [e]; simp; omega
  simp only [List.length_cons] at hf
  obtain ⟨p1,p2⟩:=tm4 hv.2.2
  obtain ⟨d1,d2⟩:=WP p1 p2
  obtain ⟨k1,k2⟩:=W6 hv.1
  obtain ⟨n1,r',n2⟩:=Sw v hv.2.2
  have hstep:∃ am,(am=[]\/am=c3)/\(wr .u8 (1 + v.1.tmod 10)=1->am=[])/\((if v.2.2.2.2=true then some (c2,v.1,v.2.1,v.2.2.1,v.2.2.2.1,true,(wr .u8 (1 + (v.1.tmod 10))),([]:List UInt8),false,(0:Int),nms v,((wr .u8 (1 + (v.1.tmod 10)))!=1)) else some (c2,v.1,v.2.1,v.2.2.1,v.2.2.2.1,false,(wr .u8 (1 + (v.1.tmod 10))),([]:List UInt8),false,(0:Int),nms v,false)).bind fun j27=>FA x0 c3 (pre.length:Int) j27)=some (c2,v.1,v.2.1,v.2.2.1,v.2.2.2.1,v.2.2.2.2,(wr .u8 (1 + (v.1.tmod 10))),am,false,(0:Int),nms v):=by
   cases ht:v.2.2.2.2 with
   | false=>exact ⟨[],.inl rfl,fun _=>rfl,rfl⟩
   | true =>
    by_cases h1:wr .u8 (1 + v.1.tmod 10)=1
    ·refine ⟨[],.inl rfl,fun _=>rfl,?_⟩
     rw [if_pos rfl,OS]
     unfold FA
     rw [if_neg (by simp [h1])]
    ·refine ⟨c3,.inr rfl,fun q=>absurd q h1,?_⟩
     rw [if_pos rfl,OS]
     unfold FA
     rw [if_pos (by simpa using h1)]
  obtain ⟨am,ham,hk1,hj⟩:=hstep
  have hm4:GL x0 c3 (pre.length:Int) (c2,v.1,v.2.1,v.2.2.1,v.2.2.2.1,v.2.2.2.2,(wr .u8 (1 + (v.1.tmod 10))),am,false,(0:Int),nms v)=some (c2,(if wr .u8 (1 + v.1.tmod 10)=1 then wd (v.2.2.1.tmod 4) else c3),clz (wr .u8 (1 + v.1.tmod 10)) am v.2.2.2.1 (nms v) v.2.1):=by
   rw [n2]
   exact XD x0 c2 c3 _ _ _ _ _ _ _ am _ _ k1 k2
  have hks:=Sg hk v hv am ham hk1 _ _ n2
  obtain ⟨c,c3',q1,q2,q3⟩:=Sp x0 ys hys hb h8 r (pre++[v]) _ _ f (by rw [e]; simp) (by omega) (by simp [hl]) hks
  refine ⟨c,c3',?_,q2,q3⟩
  rw [<-q1]
  conv=>lhs; unfold Dy
  rw [hys,if_pos (by rw [e]; exact HX pre v r),show idx ys (pre.length:Int)=some v by rw [e,Es],OS,if_pos d1,if_pos d2,XC x0 c2 c3 _ v hv.2.2,OS]
  rw [<-Option.bind_assoc,hj,OS,hm4,OS]
  dsimp only
  rw [if_pos (Il (by omega) (by omega)),FM pre v r (by rw [<-e]; omega),n2]
theorem Vk (x0:List (Int×Int×Int×Bool×Bool)) (hb:∀ v ∈ x0,PM v):∃ c,Fl x0=some c/\few c/\Iz [] c/\c.length<=8:=by
 have hm:0<=mnI (x0.length:Int) 8/\mnI (x0.length:Int) 8<=8/\mnI (x0.length:Int) 8<=x0.length:=by
  unfold mnI
  split <;> omega
 have h8:((x0.take (mnI (x0.length:Int) 8).toNat).drop (0:Int).toNat).length<=8:=by
  rw [List.length_drop,List.length_take]; omega
 obtain ⟨c,c3,h1,h2,h3⟩:=Sp x0 _ rfl (fun v hv=>hb v (List.mem_of_mem_take (List.mem_of_mem_drop hv))) h8 _ [] [] [] 100000 rfl (Nat.lt_of_le_of_lt h8 (by decide)) rfl ⟨trivial,fun x hx=>by simp at hx,.inl rfl⟩
 refine ⟨c,?_,⟨by omega,h2.2.1⟩,h2.1,by omega⟩
 unfold Fl
 rw [if_pos (by unfold C7; simp; omega)]
 have e:Dy x0 100000 [] [] 0=some c:=h1
 rw [e]; rfl
/-- The decision of a merged text. -/
theorem MZ (a b:Ax) (i j:Int) (x:AE) (r:List AE) (k:Nat):rsn a b i j (x::r) k=if dir x a b i j=0 then rsn a b i j r (k + 1) else .inr ((k:Int),dir x a b i j):=rfl
theorem S7 (a b:Ax) (i j:Int):∀ (c d:List AE) (k:Nat),rsn a b i j (c++d) k=match rsn a b i j c k with | .inl _=>rsn a b i j d (k + c.length) | .inr w=> .inr w
 | [],d,k=>rfl
 | x::c,d,k=>by
  rw [List.cons_append,MZ,MZ]
  by_cases h:dir x a b i j=0
  ·rw [if_pos h,if_pos h,S7 a b i j c d (k + 1),List.length_cons,show k + 1 + c.length=k + (c.length + 1) by omega]
  ·rw [if_neg h,if_neg h]
theorem S8 (a b:Ax) (i j:Int):∀ (c:List AE) (k:Nat),(∃ u,rsn a b i j c k = .inl u)\/∃ w,rsn a b i j c k = .inr w/\w.2≠0
 | [],k=> .inl ⟨(),rfl⟩
 | x::c,k=>by
  unfold rsn
  by_cases h:dir x a b i j=0
  ·rw [if_pos h]; exact S8 a b i j c (k + 1)
  ·rw [if_neg h]; exact .inr ⟨_,rfl,h⟩
theorem XN (a b:Ax) (i j:Int):∀ (c:List AE) (k q:Nat),(match rsn a b i j c k with | .inl _=>(0:Int) | .inr w=>w.2)=(match rsn a b i j c q with | .inl _=>(0:Int) | .inr w=>w.2)
 | [],_,_=>rfl
 | x::c,k,q=>by
  unfold rsn
  by_cases h:dir x a b i j=0
  ·rw [if_pos h,if_pos h]; exact XN a b i j c (k + 1) (q + 1)
  ·rw [if_neg h,if_neg h]
def P8 (c:List AE) (a b:Ax) (i j:Int):Int:=(Xv c a b i j).2
theorem Mm (c:List AE) (a b:Ax) (i j:Int):P8 c a b i j=match rsn a b i j c 0 with | .inl _=>(0:Int) | .inr w=>w.2:=by
 unfold P8 Xv
 cases rsn a b i j c 0 <;> rfl
theorem VC (c d:List AE) (a b:Ax) (i j:Int):P8 (c++d) a b i j=if P8 c a b i j=0 then P8 d a b i j else P8 c a b i j:=by
 rw [Mm,Mm,Mm,S7]
 rcases S8 a b i j c 0 with ⟨u,h⟩ | ⟨w,h,hw⟩
 ·rw [h]
  simp only [if_true]
  exact XN a b i j d _ _
 ·rw [h]
  simp only [hw,if_false]
/-- -1, 0 or 1, turned round with its arguments, and a chain decides by its least. -/
structure Wk3 {α:Type} (f:α->α->Int):Prop where
 v:∀ a b,f a b = -1\/f a b=0\/f a b=1
 s:∀ a b,f a b = - f b a
 t:∀ a b c,f a b<=0->f b c<=0->f a c=min (f a b) (f b c)
theorem O9 {α:Type}(k:α->Int):Wk3 (fun a b=>Ij (k a) (k b)):=by
 refine ⟨fun a b=>?_,fun a b=>?_,fun a b c h1 h2=>?_⟩
 ·unfold Ij; split
  ·exact .inl rfl
  ·split
   ·exact .inr (.inr rfl)
   ·exact .inr (.inl rfl)
 ·unfold Ij; split <;> split <;> first | rfl | omega | (split <;> first | rfl | omega)
 ·(try dsimp only at h1 h2 ⊢)
  unfold Ij at *
  split at h1 <;> split at h2 <;> first | (split at h1 <;> first | omega | skip) | skip
  all_goals first | (split at h2 <;> first | omega | skip) | skip
  all_goals (split <;> first | omega | skip)
  all_goals first | rfl | omega | (split <;> first | rfl | omega)
theorem Qs:∀ (x:List UInt8),Go.Op.bytesLess x x=false
 | []=>rfl
 | a::x=>by
  show (decide (a < a)||(a==a&&Go.Op.bytesLess x x))=false
  rw [Qs x]; simp
theorem OZ:∀ (x y z:List UInt8),Go.Op.bytesLess x y=true->Go.Op.bytesLess y z=true->Go.Op.bytesLess x z=true
 | x,[],_,h,_=>by cases x <;> cases h
 | _,_::_,[],_,h=>by cases h
 | [],_::_,_::_,_,_=>rfl
 | a::x,b::y,c::z,h1,h2=>by
  have h1':(decide (a < b)||(a==b&&Go.Op.bytesLess x y))=true:=h1
  have h2':(decide (b < c)||(b==c&&Go.Op.bytesLess y z))=true:=h2
  show (decide (a < c)||(a==c&&Go.Op.bytesLess x z))=true
  simp only [Bool.or_eq_true,Bool.and_eq_true,decide_eq_true_eq,beq_iff_eq] at h1' h2' ⊢
  rcases h1' with q1 | ⟨rfl,q1⟩ <;> rcases h2' with q2 | ⟨rfl,q2⟩
  ·exact .inl (UInt8.lt_trans q1 q2)
  ·exact .inl q1
  ·exact .inl q2
  ·exact .inr ⟨rfl,OZ x y z q1 q2⟩
theorem WE {α:Type}(k:α->List UInt8):Wk3 (fun a b=>SK (k a) (k b)):=by
 have val:∀ x y:List UInt8,(Go.Op.bytesLess x y=true/\SK x y = -1)\/(x=y/\SK x y=0)\/(Go.Op.bytesLess y x=true/\SK x y=1):=fun x y=>by
  unfold SK
  cases h:Go.Op.bytesLess x y with
  | true=>exact .inl ⟨rfl,rfl⟩
  | false =>
   have:=Qu x y h
   cases he:(x==y) with
   | true=>exact .inr (.inl ⟨by simpa using he,rfl⟩)
   | false=>exact .inr (.inr ⟨by rw [this,he]; rfl,rfl⟩)
 have asy:∀ x y:List UInt8,Go.Op.bytesLess x y=true->Go.Op.bytesLess y x=true->False:=fun x y h1 h2=>by
  have:=OZ x y x h1 h2
  rw [Qs] at this
  cases this
 refine ⟨fun a b=>?_,fun a b=>?_,fun a b c h1 h2=>?_⟩
 ·rcases val (k a) (k b) with ⟨_,h⟩ | ⟨_,h⟩ | ⟨_,h⟩
  ·exact .inl h
  ·exact .inr (.inl h)
  ·exact .inr (.inr h)
 ·(try dsimp only)
  rcases val (k a) (k b) with ⟨p,h⟩ | ⟨p,h⟩ | ⟨p,h⟩ <;> rcases val (k b) (k a) with ⟨q,g⟩ | ⟨q,g⟩ | ⟨q,g⟩ <;> rw [h,g] <;> first | rfl | (exfalso; first | exact asy _ _ p q | (rw [q,Qs] at p; cases p) | (rw [p,Qs] at q; cases q))
 ·(try dsimp only at h1 h2 ⊢)
  rcases val (k a) (k b) with ⟨p,h⟩ | ⟨p,h⟩ | ⟨p,h⟩ <;> rcases val (k b) (k c) with ⟨q,g⟩ | ⟨q,g⟩ | ⟨q,g⟩ <;> first | (rw [h] at h1; exact absurd h1 (by decide)) | (rw [g] at h2; exact absurd h2 (by decide)) | skip
  ·rw [h,g]
   have:=OZ _ _ _ p q
   unfold SK
   rw [if_pos this]; rfl
  ·rw [h,g,<-q,h]; rfl
  ·rw [h,g,p,g]; rfl
  ·rw [h,g,p,g]; rfl
theorem Ur {α:Type}(y:Bool) (k:α->Int):Wk3 (fun a b=>snc y (k a) (k b)):=by
 have val:∀ s t:Int,snc y s t=if s=0 then (if t=0 then 0 else 1) else if t=0 then -1 else if y=true then Ij t s else Ij s t:=fun s t=>by
  rw [XP]
  unfold Ij
  by_cases hs:s=0 <;> by_cases ht:t=0
  ·simp [hs,ht]
  ·simp [hs,ht]
  ·simp [hs,ht]
  ·cases y <;> simp [hs,ht]
 refine ⟨fun a b=>?_,fun a b=>?_,fun a b c h1 h2=>?_⟩
 ·(try dsimp only)
  rw [val]
  unfold Ij
  split
  ·split
   ·exact .inr (.inl rfl)
   ·exact .inr (.inr rfl)
  ·split
   ·exact .inl rfl
   ·split <;> (split; · exact .inl rfl) <;> (split; · exact .inr (.inr rfl)) <;> exact .inr (.inl rfl)
 ·(try dsimp only)
  rw [val,val]
  unfold Ij
  cases y <;> simp only [if_true,if_false,Bool.false_eq_true] <;> (repeat' split) <;> first | rfl | omega
 ·(try dsimp only at h1 h2 ⊢)
  rw [val] at h1 h2
  rw [val,val,val]
  unfold Ij at *
  cases y <;> simp only [if_true,if_false,Bool.false_eq_true] at h1 h2 ⊢ <;> (repeat' split at h1) <;> (repeat' split at h2) <;> first | omega | ((repeat' split) <;> first | rfl | omega)
/-- A second order where a first one ties. -/
theorem Xa {α:Type}{f g:α->α->Int}(hf:Wk3 f) (gv:∀ a b,g a b = -1\/g a b=0\/g a b=1) (gs:∀ a b,g a b = - g b a)
  (gt:∀ a b c,f a b=0->f b c=0->g a b<=0->g b c<=0->g a c=min (g a b) (g b c)):Wk3 (fun a b=>if f a b=0 then g a b else f a b):=by
 refine ⟨fun a b=>?_,fun a b=>?_,fun a b c h1 h2=>?_⟩
 ·show (if f a b=0 then g a b else f a b) = -1\/_
  split
  ·exact gv a b
  ·exact hf.v a b
 ·show (if f a b=0 then g a b else f a b) = - (if f b a=0 then g b a else f b a)
  have:=hf.s a b
  by_cases h:f b a=0
  ·rw [if_pos h,if_pos (by omega)]; exact gs a b
  ·rw [if_neg h,if_neg (by omega)]; exact this
 ·have h1':(if f a b=0 then g a b else f a b)<=0:=h1
  have h2':(if f b c=0 then g b c else f b c)<=0:=h2
  show (if f a c=0 then g a c else f a c)=min (if f a b=0 then g a b else f a b) (if f b c=0 then g b c else f b c)
  have ab:=hf.v a b
  have bc:=hf.v b c
  have gab:=gv a b
  have gbc:=gv b c
  by_cases x:f a b=0 <;> by_cases y:f b c=0
  ·have:=hf.t a b c (by omega) (by omega)
   rw [if_pos x] at h1' ⊢
   rw [if_pos y] at h2' ⊢
   rw [if_pos (by omega)]
   exact gt a b c x y h1' h2'
  ·rw [if_pos x] at h1' ⊢
   rw [if_neg y] at h2' ⊢
   have:=hf.t a b c (by omega) (by omega)
   rw [if_neg (by omega)]
   omega
  ·rw [if_neg x] at h1' ⊢
   rw [if_pos y] at h2' ⊢
   have:=hf.t a b c (by omega) (by omega)
   rw [if_neg (by omega)]
   omega
  ·rw [if_neg x] at h1' ⊢
   rw [if_neg y] at h2' ⊢
   have:=hf.t a b c (by omega) (by omega)
   rw [if_neg (by omega)]
   omega
/-- A guest at a place of the row. -/
abbrev At:={ p:Ax×Int // Pc p.2=true }
theorem Xb (x:AE):Wk3 (fun a b:At=>Nl x a.1.1 b.1.1 a.1.2 b.1.2):=by
 have e:(fun a b:At=>Nl x a.1.1 b.1.1 a.1.2 b.1.2)=fun a b:At =>
   if (x.1==1)=true then Ij (rk x.2.2.2.1 a.1.1.2.1) (rk x.2.2.2.1 b.1.1.2.1) else
   if (x.1==2)=true then snc false a.1.1.2.2.2.1 b.1.1.2.2.2.1 else
   if (x.1==3)=true then snc true a.1.1.2.2.2.1 b.1.1.2.2.2.1 else
   if (x.1==8)=true then SK a.1.1.1 b.1.1.1 else
   if (x.1==9)=true then Ij a.1.2 b.1.2 else
   if (x.1==10)=true then Ij (kyI a.1.2 x.2.2.2.2) (kyI b.1.2 x.2.2.2.2) else
   Ij (nv x a.1.1) (nv x b.1.1):=by
  funext a b
  unfold Nl
  rw [a.2,b.2]
  simp only [Bool.not_true,Bool.or_self,Bool.false_eq_true,if_false]
 rw [e]
 by_cases h1:(x.1==1)=true
 ·simp only [h1,if_true]; exact O9 (fun a:At=>rk x.2.2.2.1 a.1.1.2.1)
 by_cases h2:(x.1==2)=true
 ·simp only [h1,h2,if_true,if_false,Bool.false_eq_true]; exact Ur false (fun a:At=>a.1.1.2.2.2.1)
 by_cases h3:(x.1==3)=true
 ·simp only [h1,h2,h3,if_true,if_false,Bool.false_eq_true]; exact Ur true (fun a:At=>a.1.1.2.2.2.1)
 by_cases h8:(x.1==8)=true
 ·simp only [h1,h2,h3,h8,if_true,if_false,Bool.false_eq_true]; exact WE (fun a:At=>a.1.1.1)
 by_cases h9:(x.1==9)=true
 ·simp only [h1,h2,h3,h8,h9,if_true,if_false,Bool.false_eq_true]; exact O9 (fun a:At=>a.1.2)
 by_cases h10:(x.1==10)=true
 ·simp only [h1,h2,h3,h8,h9,h10,if_true,if_false,Bool.false_eq_true]; exact O9 (fun a:At=>kyI a.1.2 x.2.2.2.2)
 ·simp only [h1,h2,h3,h8,h9,h10,if_false,Bool.false_eq_true]; exact O9 (fun a:At=>nv x a.1.1)
theorem S5 (s:List UInt8):∀ (l:List (List UInt8)) (i:Nat),i<=rkN s l i
 | [],i=>Nat.le_refl i
 | v::r,i=>by
  unfold rkN
  split
  ·exact Nat.le_refl i
  ·have:=S5 s r (i + 1); omega
theorem Qc (s t:List UInt8):∀ (l:List (List UInt8)) (i:Nat),MT l s=true->rkN s l i=rkN t l i->t=s
 | [],_,h,_=>by cases h
 | v::r,i,h,e=>by
  have h':((s==v)||MT r s)=true:=h
  unfold rkN at e
  by_cases hs:(s==v)=true
  ·rw [if_pos hs] at e
   by_cases ht:(t==v)=true
   ·rw [beq_iff_eq] at hs ht; rw [hs,ht]
   ·rw [if_neg ht] at e
    have:=S5 t r (i + 1)
    omega
  ·rw [if_neg hs] at e
   by_cases ht:(t==v)=true
   ·rw [if_pos ht] at e
    have:=S5 s r (i + 1)
    omega
   ·rw [if_neg ht] at e
    have h2:MT r s=true:=by
     cases hq:(s==v) with
     | true=>exact absurd hq hs
     | false=>rwa [hq,Bool.false_or] at h'
    exact Qc s t r (i + 1) h2 e
theorem YN {x:AE}(h:fm x=true) (hk:(x.1==1)=true):x.2.1=[]:=by
 unfold fm An at h
 rw [if_pos hk] at h
 cases hb:BH (x.2.2.2.1.length:Int) 1 16 with
 | none=>rw [hb] at h; cases h
 | some v =>
  rw [hb,OS] at h
  cases v with
  | false=>cases h
  | true =>
   by_cases h2:(x.2.2.2.2==0)=true
   ·by_cases h3:(!x.2.2.1)=true
    ·rw [if_pos rfl,if_pos h2,if_pos h3] at h
     simpa using h
    ·rw [if_pos rfl,if_pos h2,if_neg h3] at h; cases h
   ·rw [if_pos rfl,if_neg h2] at h; cases h
theorem Wp {pre:List AE}{x:AE}(h:chk pre x=0):fm x=true:=by
 unfold chk at h
 split at h
 ·cases h
 ·next h1=>simpa using h1
theorem Wo {pre:List AE}{x:AE}(h:chk pre x=0):x.2.1=[]\/HY pre x.2.1=true:=by
 unfold chk at h
 split at h
 ·cases h
 split at h
 ·cases h
 split at h
 ·cases h
 split at h
 ·next h4=>exact h4
 ·cases h
theorem Pa:∀ (c pre:List AE),Iz pre c->∀ x ∈ c,fm x=true
 | y::r,pre,h,x,hx=>by
  rcases List.mem_cons.1 hx with e | e
  ·rw [e]; exact Wp h.1
  ·exact Pa r _ h.2 x e
/-- Ties of a text tie every clause of it. -/
theorem SM (a b:Ax) (i j:Int):∀ (c:List AE) (k:Nat),rsn a b i j c k = .inl ()->∀ x ∈ c,dir x a b i j=0
 | y::r,k,h,x,hx=>by
  rw [MZ] at h
  by_cases q:dir y a b i j=0
  ·rw [if_pos q] at h
   rcases List.mem_cons.1 hx with e | e
   ·rw [e]; exact q
   ·exact SM a b i j r (k + 1) h x e
  ·rw [if_neg q] at h; cases h
theorem Tc {c:List AE}{a b:Ax}{i j:Int}(h:P8 c a b i j=0):∀ x ∈ c,dir x a b i j=0:=by
 rw [Mm] at h
 rcases S8 a b i j c 0 with ⟨u,e⟩ | ⟨w,e,hw⟩
 ·exact SM a b i j c 0 e
 ·rw [e] at h; exact absurd h hw
theorem Wr {x y:Int}(h:Ij x y=0):x=y:=by
 unfold Ij at h
 split at h
 ·cases h
 split at h
 ·cases h
 ·omega
/-- A text that ranks a rank ties nobody of it with anybody of another rank. -/
theorem RP {c:List AE}{s:List UInt8}(hc:∀ x ∈ c,fm x=true) (hr:HY c s=true){a b:Ax}{i j:Int}(h:P8 c a b i j=0):(a.2.1==s)=(b.2.1==s):=by
 unfold HY at hr
 obtain ⟨y,hy,e⟩:=List.any_eq_true.1 hr
 rw [Bool.and_eq_true] at e
 have hd:=Tc h y hy
 have ham:=YN (hc y hy) e.1
 unfold dir amB at hd
 rw [ham,if_neg (by simp)] at hd
 unfold Nl at hd
 rw [if_pos e.1] at hd
 have hk:=Wr hd
 unfold rk at hk
 have hn:rkN a.2.1 y.2.2.2.1 0=rkN b.2.1 y.2.2.2.1 0:=by omega
 by_cases ha:a.2.1=s
 ·have hb:=Qc a.2.1 b.2.1 _ 0 (by rw [ha]; exact e.2) hn
  rw [hb]
 ·by_cases hb:b.2.1=s
  ·have:=Qc b.2.1 a.2.1 _ 0 (by rw [hb]; exact e.2) hn.symm
   exact absurd (this.trans hb) ha
  ·rw [beq_eq_false_iff_ne.2 ha,beq_eq_false_iff_ne.2 hb]
theorem Wg (x:AE) (a b:Ax):amB x a b=amB x b a:=by
 unfold amB
 cases (x.2.1==[]) <;> cases (a.2.1==x.2.1) <;> cases (b.2.1==x.2.1) <;> rfl
theorem VD (x:AE) (a b:Ax) (i j:Int):P8 [x] a b i j=dir x a b i j:=by
 rw [Mm,MZ]
 by_cases h:dir x a b i j=0
 ·rw [if_pos h,h]; rfl
 ·rw [if_neg h]
theorem TK:∀ (c pre:List AE),Iz [] (pre++c)->Wk3 (fun a b:At=>P8 pre a.1.1 b.1.1 a.1.2 b.1.2)->Wk3 (fun a b:At=>P8 (pre++c) a.1.1 b.1.1 a.1.2 b.1.2)
 | [],pre,_,h=>by rw [List.append_nil]; exact h
 | x::r,pre,hg,h=>by
  have e:pre++x::r=(pre++[x])++r:=by simp
  rw [e] at hg ⊢
  refine TK r (pre++[x]) hg ?_
  have hgx:=(K0 (pre++[x]) [] r).1 hg
  have hp:=(K0 pre [] [x]).1 hgx.1
  have hchk:chk pre x=0:=by simpa using hp.2.1
  have hfm:=Pa pre [] hp.1
  have ho:=Xb x
  have hx:(fun a b:At=>P8 (pre++[x]) a.1.1 b.1.1 a.1.2 b.1.2)=fun a b:At=>if P8 pre a.1.1 b.1.1 a.1.2 b.1.2=0 then dir x a.1.1 b.1.1 a.1.2 b.1.2 else P8 pre a.1.1 b.1.1 a.1.2 b.1.2:=by
   funext a b
   rw [VC,VD]
  rw [hx]
  refine Xa h (fun a b=>?_) (fun a b=>?_) (fun a b c h1 h2=>?_)
  ·unfold dir
   split
   ·exact .inr (.inl rfl)
   ·exact ho.v a b
  ·unfold dir
   rw [Wg x b.1.1 a.1.1]
   split
   ·rfl
   ·exact ho.s a b
  ·unfold dir
   rcases Wo hchk with ha | ha
   ·have q:∀ u v:Ax,amB x u v=false:=fun u v=>by unfold amB; rw [ha]; rfl
    rw [q,q,q,if_neg (by decide),if_neg (by decide),if_neg (by decide)]
    exact ho.t a b c
   ·have t1:=RP hfm ha h1
    have t2:=RP hfm ha h2
    unfold amB
    rw [<-t2,<-t1]
    cases (!(x.2.1==[]))
    ·exact ho.t a b c
    ·cases (a.1.1.2.1==x.2.1)
     ·intro _ _; rfl
     ·exact ho.t a b c
theorem UW (c:List AE) (hg:Iz [] c):Wk3 (fun a b:At=>P8 c a.1.1 b.1.1 a.1.2 b.1.2) :=
 TK c [] hg ⟨fun _ _=> .inr (.inl rfl),fun _ _=>rfl,fun _ _ _ _ _=>rfl⟩
/- trestle/trestleref03.Goes -/
/- trestle/trestleref03.votes -/
/- trestle/trestleref03.Votes -/
/- trestle/trestleref03.Valid -/
/- trestle/trestleref03.AllValid -/
/-- A loop whose states are known. -/
theorem Yg {σ ρ:Type}(n:Nat) (S:Nat->σ) (R:Option ρ) (L:Nat->Int->σ->Option ρ) (hn:n<=1000000) (hs:∀ i,i < n->∀ f,L (f + 1) (i:Int) (S i)=L f (wr .i64 ((i:Int) + 1)) (S (i + 1))) (he:∀ f,L (f + 1) (n:Int) (S n)=R):∀ (d i f:Nat),i + d=n->d < f->L f (i:Int) (S i)=R
 | 0,i,f + 1,e,_=>by
  rw [show i=n by omega]
  exact he f
 | d + 1,i,f + 1,e,hf=>by
  rw [hs i (by omega) f,P9 (by omega) (by omega),show ((i:Int) + 1)=((i + 1:Nat):Int) by omega]
  exact Yg n S R L hn hs he d (i + 1) f (by omega) (by omega)
theorem QG {σ ρ:Type}(n:Nat) (S:Nat->σ) (R:Option ρ) (L:Nat->Int->σ->Option ρ) (hn:n<=99999) (hs:∀ i,i < n->∀ f,L (f + 1) (i:Int) (S i)=L f (wr .i64 ((i:Int) + 1)) (S (i + 1))) (he:∀ f,L (f + 1) (n:Int) (S n)=R):L 100000 0 (S 0)=R :=
 Yg n S R L (by omega) hs he n 0 100000 (by omega) (by omega)
/-- A valid text, as it is checked. -/
theorem PL (c:List AE):∀ (r pre:List AE),c=pre++r->(∃ u,Qw c r pre.length = .inl u)->Iz pre r
 | [],_,_,_=>trivial
 | x::r,pre,e,⟨u,h⟩=>by
  unfold Qw at h
  rw [show c.take pre.length=pre by rw [e]; simp] at h
  by_cases hx:chk pre x=0
  ·rw [if_neg (by simpa using hx)] at h
   exact ⟨hx,PL c r (pre++[x]) (by rw [e]; simp) ⟨u,by simpa using h⟩⟩
  ·rw [if_pos hx] at h; cases h
theorem Ml {c:List AE}(h:(Oe c).2=0):c.length<=32/\Iz [] c:=by
 unfold Oe at h
 split at h
 ·cases h
 ·next hl =>
  refine ⟨by omega,PL c c [] rfl ?_⟩
  rcases Od c c 0 with ⟨u,h1,_⟩ | ⟨w,h1,h2⟩
  ·exact ⟨u,h1⟩
  ·rw [h1] at h; exact absurd h h2
theorem UB (c:List AE) (h:few c):Em c=some (if (Oe c).2=0 then (c,true) else ([],false)):=by
 unfold Em
 rw [SI c h,OS]
 by_cases hv:(Oe c).2=0
 ·have e0:DA c 100000 [] 0=some c:=Pm c h (NW hv) c [] 100000 rfl (by have:=h.1; omega)
  rw [if_neg (by simpa using hv),if_pos hv,e0]; rfl
 ·rw [if_pos (by simpa using hv),if_neg hv]
/-- Guests at their places. -/
def DW:List Ax->Nat->List Ad
 | [],_=>[]
 | g::r,i=>(g,(i:Int))::DW r (i + 1)
theorem KG:∀ (g:List Ax) (i:Nat),(DW g i).length=g.length
 | [],_=>rfl
 | _::r,i=>by simp [DW,KG r (i + 1)]
theorem OH:∀ (g:List Ax) (i k:Nat),(DW g i)[k]? = (g[k]?).map fun x=>(x,((i + k:Nat):Int))
 | [],_,_=>by simp [DW]
 | x::r,i,0=>by simp [DW]
 | x::r,i,k + 1=>by
  simp only [DW,List.getElem?_cons_succ]
  rw [OH r (i + 1) k,show i + 1 + k=i + (k + 1) by omega]
theorem ND:∀ (g:List Ax) (x:Ax) (i:Nat),DW (g++[x]) i=DW g i++[(x,((i + g.length:Nat):Int))]
 | [],x,i=>by simp [DW]
 | y::r,x,i=>by
  simp only [List.cons_append,DW,ND r x (i + 1),List.length_cons]
  rw [show i + 1 + r.length=i + (r.length + 1) by omega]
theorem W9 (g:List Ax) (h:g.length<=99999):Gb g=some (DW g 0):=by
 unfold Gb
 have:Ck g 100000 [] 0=some (DW g 0):=by
  have:=QG (σ:=List Ad) g.length (fun i=>DW (g.take i) 0) (some (DW g 0)) (fun f c s=>Ck g f s c) h (fun i hi f=>by
   show Ck g (f + 1) (DW (g.take i) 0) (i:Int)=_
   conv=>lhs; unfold Ck
   rw [if_pos (by simp; omega),Hu hi,OS,if_pos (Il (by omega) (by rw [KG]; simp; omega))]
   have e:DW (g.take (i + 1)) 0=DW (g.take i) 0++[(g[i],(i:Int))]:=by
    rw [List.take_succ_eq_append_getElem hi,ND]; simp; omega
   show _=Ck g f (DW (g.take (i + 1)) 0) _
   rw [e]) (fun f=>by
   show Ck g (f + 1) (DW (g.take g.length) 0) (g.length:Int)=_
   conv=>lhs; unfold Ck
   rw [if_neg (by simp),List.take_length])
  exact this
 rw [this]; rfl
/-- What a text says of the guests at two places. -/
def dG:Ax:=([],[],[],0,0,[],false,false,[])
def gAt (g:List Ax) (x:Nat):Ax:=g.getD x dG
def cm (c:List AE) (g:List Ax) (x y:Nat):Int:=P8 c (gAt g x) (gAt g y) (x:Int) (y:Int)
theorem W1 {x:Nat}(h:x < 64):Pc (x:Int)=true:=by simp [Pc]; omega
/-- Who sits in a row of at most 64. -/
abbrev Pl:={ x:Nat // x < 64 }
theorem Xc {c:List AE}(g:List Ax) (hg:Iz [] c):Wk3 (fun a b:Pl=>cm c g a.1 b.1) :=
 let h:=UW c hg
 let k:Pl->At:=fun a=>⟨(gAt g a.1,(a.1:Int)),W1 a.2⟩
 ⟨fun a b=>h.v (k a) (k b),fun a b=>h.s (k a) (k b),fun a b d=>h.t (k a) (k b) (k d)⟩
theorem Yt {c:List AE}{g:List Ax}(hg:Iz [] c){x y:Nat}(hx:x < 64) (hy:y < 64):cm c g x y = -1\/cm c g x y=0\/cm c g x y=1:=(Xc g hg).v ⟨x,hx⟩ ⟨y,hy⟩
theorem Yf {c:List AE}{g:List Ax}(hg:Iz [] c){x y:Nat}(hx:x < 64) (hy:y < 64):cm c g x y = - cm c g y x:=(Xc g hg).s ⟨x,hx⟩ ⟨y,hy⟩
theorem Ye {c:List AE}{g:List Ax}(hg:Iz [] c){x:Nat}(hx:x < 64):cm c g x x=0:=by have:=Yf (g:=g) hg hx hx; omega
/-- Few guests, their places. -/
structure FewR (g:List Ax):Prop where
 n:g.length<=64
 f:∀ x ∈ g,TP x
theorem FewR.at_ {g:List Ax}(h:FewR g){x:Nat}(hx:x < g.length):TP (gAt g x):=h.f _ (by unfold gAt; rw [List.getD_eq_getElem?_getD,List.getElem?_eq_getElem hx]; exact List.getElem_mem hx)
theorem Pn (g:List Ax){x:Nat}(hx:x < g.length):idx (DW g 0) (x:Int)=some (gAt g x,(x:Int)):=by
 unfold idx
 rw [if_pos (by omega),Int.toNat_natCast,OH,List.getElem?_eq_getElem hx]
 simp [gAt,hx]
/-- Tables of numbers. -/
def Ps (n:Nat) (f:Nat->Int):List Int:=(List.range n).map f
def IV (n:Nat) (M:Nat->Nat->Int):List (List Int):=(List.range n).map fun x=>Ps n (M x)
theorem UI (n:Nat) (f:Nat->Int):(Ps n f).length=n:=by simp [Ps]
theorem T0 (n:Nat) (M:Nat->Nat->Int):(IV n M).length=n:=by simp [IV]
theorem Qd {n:Nat}{f:Nat->Int}{x:Nat}(h:x < n):idx (Ps n f) (x:Int)=some (f x):=by
 rw [Hu (by rw [UI]; exact h)]; simp [Ps]
theorem QY {n:Nat}{M:Nat->Nat->Int}{x:Nat}(h:x < n):idx (IV n M) (x:Int)=some (Ps n (M x)):=by
 rw [Hu (by rw [T0]; exact h)]; simp [IV]
theorem Oj {α:Type}(n:Nat) (f h:Nat->α) (x:Nat) (v:α) (hx:h x=v) (hn:∀ y,y≠x->h y=f y):((List.range n).map f).set x v=(List.range n).map h:=by
 apply List.ext_getElem?
 intro i
 rw [List.getElem?_set]
 simp only [List.getElem?_map,List.length_map,List.length_range]
 by_cases e:x=i
 ·subst e
  rw [if_pos rfl]
  split
  ·next h1=>rw [List.getElem?_range h1]; simp [hx]
  ·next h1=>rw [List.getElem?_eq_none (by simp; omega)]; rfl
 ·rw [if_neg e]
  by_cases hi:i < n
  ·rw [List.getElem?_range hi]; simp [hn i (Ne.symm e)]
  ·rw [List.getElem?_eq_none (by simp; omega)]; rfl
theorem UJ {n x:Nat}{f h:Nat->Int}{v:Int}(hx:h x=v) (hn:∀ y,y≠x->h y=f y):(Ps n f).set x v=Ps n h:=Oj n f h x v hx hn
theorem T1 {n x:Nat}{M K:Nat->Nat->Int}{r:List Int}(hx:Ps n (K x)=r) (hn:∀ z,z≠x->K z=M z):(IV n M).set x r=IV n K :=
 Oj n _ _ x r hx fun z hz=>by rw [hn z hz]
/-- One more in a table. -/
def U3 (M:Nat->Nat->Int) (x y:Nat):Nat->Nat->Int:=fun a b=>if a=x/\b=y then M a b + 1 else M a b
theorem Pi {n x y:Nat}{M:Nat->Nat->Int}:(IV n M).set x ((Ps n (M x)).set y (M x y + 1))=IV n (U3 M x y):=by
 refine T1 ?_ fun z hz=>?_
 ·rw [UJ (h:=fun b=>U3 M x y x b) (by simp [U3]) (fun b hb=>by simp [U3,hb])]
 ·funext b; simp [U3,hz]
section
variable {c:List AE}{g:List Ax}(hc:few c) (hv:(Oe c).2=0) (hg:FewR g)
include hc hv hg
theorem To {x y:Nat}(hx:x < g.length) (hy:y < g.length):∃ k,Ah c (gAt g x,(x:Int)) (gAt g y,(y:Int))=some (k,cm c g x y) :=
 ⟨_,VK c (gAt g x) (gAt g y) x y hc (NW hv) (hg.at_ hx) (hg.at_ hy)⟩
/-- What a text adds to the table. -/
def dl (c:List AE) (g:List Ax) (x y:Nat):Int:=if cm c g x y = -1 then 1 else 0
def Hc (M:Nat->Nat->Int) (c:List AE) (g:List Ax) (i k:Nat):Nat->Nat->Int:=fun x y=>M x y + if (x=i/\y < k)\/(y=i/\x < k) then dl c g x y else 0
theorem UN (M:Nat->Nat->Int) (B:Int) (hB:B<=1000000) (hM:∀ x y,0<=M x y/\M x y<=B) (i:Nat) (hi:i < g.length):CU (DW g 0) (c,true) (i:Int) 100000 0 (IV g.length M)=some (IV g.length (Hc M c g i i)):=by
 have hgd:=(Ml hv).2
 have hn:=hg.n
 have h0:Hc M c g i 0=M:=by funext x y; simp [Hc]
 suffices h1:CU (DW g 0) (c,true) (i:Int) 100000 0 (IV g.length (Hc M c g i 0))=some (IV g.length (Hc M c g i i)) by rwa [h0] at h1
 refine QG (σ:=List (List Int)) i (fun k=>IV g.length (Hc M c g i k)) (some (IV g.length (Hc M c g i i))) (fun f c' s=>CU (DW g 0) (c,true) (i:Int) f c' s) (by omega) (fun k hk f=>?_) (fun f=>?_)
 ·show CU (DW g 0) (c,true) (i:Int) (f + 1) (k:Int) (IV g.length (Hc M c g i k))=_
  conv=>lhs; unfold CU
  obtain ⟨q,hq⟩:=To hc hv hg hi (show k < g.length by omega)
  have s1:Hc M c g i k i k=M i k:=by unfold Hc; rw [if_neg (by omega)]; omega
  have s2:Hc M c g i k k i=M k i:=by unfold Hc; rw [if_neg (by omega)]; omega
  have b1:=hM i k
  have b2:=hM k i
  have anti:=Yf (g:=g) hgd (show i < 64 by omega) (show k < 64 by omega)
  have key:FO (i:Int) (k:Int) (IV g.length (Hc M c g i k)) (q,cm c g i k)=some (IV g.length (Hc M c g i (k + 1))):=by
   have other:∀ x y,¬ (x=i/\y=k)->¬ (x=k/\y=i)->Hc M c g i (k + 1) x y=Hc M c g i k x y:=fun x y h1 h2=>by
    unfold Hc
    by_cases e:(x=i/\y < k)\/(y=i/\x < k)
    ·rw [if_pos e,if_pos (by omega)]
    ·rw [if_neg e,if_neg (by omega)]
   have t1:Hc M c g i (k + 1) i k=M i k + dl c g i k:=by unfold Hc; rw [if_pos (by omega)]
   have t2:Hc M c g i (k + 1) k i=M k i + dl c g k i:=by unfold Hc; rw [if_pos (by omega)]
   unfold FO Gi
   rcases Yt (g:=g) hgd (show i < 64 by omega) (show k < 64 by omega) with e | e | e
   ·rw [e,if_pos (by rfl),QY hi,OS,Qd (by omega),OS,OS,s1,P9 (by omega) (by omega),Int.toNat_natCast,Int.toNat_natCast,<-s1,Pi]
    congr 2
    funext x y
    unfold U3
    by_cases h1:x=i/\y=k
    ·rw [if_pos h1,h1.1,h1.2,s1,t1]; unfold dl; rw [if_pos e]
    ·rw [if_neg h1]
     by_cases h2:x=k/\y=i
     ·rw [h2.1,h2.2,s2,t2]; unfold dl; rw [if_neg (by omega)]; omega
     ·exact (other x y h1 h2).symm
   ·rw [e,if_neg (by simp),if_neg (by simp),OS]
    congr 2
    funext x y
    by_cases h1:x=i/\y=k
    ·rw [h1.1,h1.2,s1,t1]; unfold dl; rw [if_neg (by omega)]; omega
    ·by_cases h2:x=k/\y=i
     ·rw [h2.1,h2.2,s2,t2]; unfold dl; rw [if_neg (by omega)]; omega
     ·exact (other x y h1 h2).symm
   ·rw [e,if_neg (by simp),if_pos (by rfl),QY (show k < g.length by omega),OS,Qd hi,OS,OS,s2,P9 (by omega) (by omega),Int.toNat_natCast,Int.toNat_natCast,<-s2,Pi,OS]
    congr 2
    funext x y
    unfold U3
    by_cases h1:x=k/\y=i
    ·rw [if_pos h1,h1.1,h1.2,s2,t2]; unfold dl; rw [if_pos (by omega)]
    ·rw [if_neg h1]
     by_cases h2:x=i/\y=k
     ·rw [h2.1,h2.2,s1,t1]; unfold dl; rw [if_neg (by omega)]; omega
     ·exact (other x y h2 h1).symm
  rw [if_pos (by simp; omega),Pn g hi,OS,Pn g (by omega),OS,hq,OS,key,OS]
 ·show CU (DW g 0) (c,true) (i:Int) (f + 1) (i:Int) (IV g.length (Hc M c g i i))=_
  conv=>lhs; unfold CU
  rw [if_neg (by simp)]
def KL (M:Nat->Nat->Int) (c:List AE) (g:List Ax) (m:Nat):Nat->Nat->Int:=fun x y=>M x y + if x < m/\y < m then dl c g x y else 0
theorem TD (M:Nat->Nat->Int) (B:Int) (hB:B<=10000) (hM:∀ x y,0<=M x y/\M x y<=B):CT (DW g 0) (c,true) 100000 0 (IV g.length M)=some (IV g.length (KL M c g g.length)):=by
 have hgd:=(Ml hv).2
 have hn:=hg.n
 have h0:KL M c g 0=M:=by funext x y; simp [KL]
 have hd:∀ x y,0<=dl c g x y/\dl c g x y<=1:=fun x y=>by unfold dl; split <;> omega
 have h1:CT (DW g 0) (c,true) 100000 0 (IV g.length (KL M c g 0))=some (IV g.length (KL M c g g.length)):=by
  refine QG (σ:=List (List Int)) g.length (fun k=>IV g.length (KL M c g k)) (some (IV g.length (KL M c g g.length))) (fun f c' s=>CT (DW g 0) (c,true) f c' s) (by omega) (fun i hi f=>?_) (fun f=>?_)
  ·show CT (DW g 0) (c,true) (f + 1) (i:Int) (IV g.length (KL M c g i))=_
   conv=>lhs; unfold CT
   have e:Hc (KL M c g i) c g i i=KL M c g (i + 1):=by
    funext x y
    unfold Hc KL
    by_cases h1:x < i/\y < i
    ·rw [if_pos h1,if_neg (by omega),if_pos (by omega)]; omega
    ·rw [if_neg h1]
     by_cases h2:(x=i/\y < i)\/(y=i/\x < i)
     ·rw [if_pos h2,if_pos (by omega)]; omega
     ·rw [if_neg h2]
      by_cases h3:x < i + 1/\y < i + 1
      ·rw [if_pos h3]
       have:x=i/\y=i:=by omega
       rw [this.1,this.2]
       have:=Ye (g:=g) hgd (show i < 64 by omega)
       unfold dl; rw [if_neg (by omega)]; omega
      ·rw [if_neg h3]; omega
   rw [if_pos (by rw [KG]; simp; omega),UN hc hv hg (KL M c g i) (B + 1) (by omega) (fun x y=>by
    have:=hM x y; have:=hd x y
    unfold KL; split <;> omega) i hi,OS,e]
  ·show CT (DW g 0) (c,true) (f + 1) (g.length:Int) (IV g.length (KL M c g g.length))=_
   conv=>lhs; unfold CT
   rw [if_neg (by rw [KG]; simp)]
 rwa [h0] at h1
end
/-- How many texts put x before y. -/
def vt (l:List (List AE)) (g:List Ax) (x y:Nat):Int:=((l.countP fun c=>cm c g x y == -1:Nat):Int)
theorem WD (l:List (List AE)) (c:List AE) (g:List Ax) (x y:Nat):vt (l++[c]) g x y=vt l g x y + dl c g x y:=by
 unfold vt dl
 rw [List.countP_append]
 by_cases h:cm c g x y = -1 <;> simp [h]
theorem WC (l:List (List AE)) (g:List Ax) (x y:Nat):0<=vt l g x y/\vt l g x y<=l.length:=by
 unfold vt
 have:=List.countP_le_length (p:=fun c=>cm c g x y == -1) (l:=l)
 omega
theorem Rp {n:Nat}{M K:Nat->Nat->Int}(h:∀ x y,x < n->y < n->M x y=K x y):IV n M=IV n K:=by
 unfold IV
 refine List.map_congr_left fun x hx=>?_
 unfold Ps
 exact List.map_congr_left fun y hy=>h x y (List.mem_range.1 hx) (List.mem_range.1 hy)
def okT (l:List (List AE)):Bool:=l.all fun c=>decide ((Oe c).2=0)
section
variable {l:List (List AE)}{g:List Ax}(hl:∀ c ∈ l,few c) (hg:FewR g)
include hl hg
theorem RM (h16:l.length<=16):∀ (r pre:List (List AE)) (f:Nat),l=pre++r->r.length < f->okT pre=true->D1 l (DW g 0) f (pre.length:Int) (IV g.length (vt pre g))=some (if okT l=true then .inl (IV g.length (vt l g)) else .inr ())
 | [],pre,f + 1,e,_,hv=>by
  have e':l=pre:=by rw [e]; simp
  unfold D1
  rw [if_neg (by rw [e']; simp),e',if_pos hv]
 | c::r,pre,f + 1,e,hf,hv=>by
  have hcf:few c:=hl c (by rw [e]; simp)
  have hll:l.length=pre.length + r.length + 1:=by rw [e]; simp; omega
  unfold D1
  rw [if_pos (by rw [e]; exact HX pre c r),show idx l (pre.length:Int)=some c by rw [e,Es],OS,UB c hcf,OS]
  by_cases h0:(Oe c).2=0
  ·rw [if_pos h0]
   have hM:=TD hcf h0 hg (vt pre g) pre.length (by omega) (fun x y=>WC pre g x y)
   have e2:IV g.length (KL (vt pre g) c g g.length)=IV g.length (vt (pre++[c]) g):=Rp fun x y hx hy=>by
    rw [WD]; unfold KL; rw [if_pos ⟨hx,hy⟩]
   rw [if_neg (by simp),hM,OS,e2,show wr .i64 ((pre.length:Int) + 1)=((pre++[c]).length:Int) from FM pre c r (by rw [<-e]; omega)]
   exact RM h16 r (pre++[c]) f (by rw [e]; simp) (by simp at hf; omega) (by unfold okT at hv ⊢; rw [List.all_append,hv]; simp [h0])
  ·rw [if_neg h0,if_pos (by rfl),if_neg]
   unfold okT
   rw [e,List.all_append]
   simp [h0]
/-- The table of the program. -/
theorem TC:En l g=some (if l.length<=16/\okT l=true then (IV g.length (vt l g),true) else ([],false)):=by
 have hn:=hg.n
 unfold En
 by_cases h16:l.length<=16
 ·have j:(if (decide ((l.length:Int) > 16))=true then some true else some (decide ((g.length:Int) > 64)))=some false:=by
   rw [if_neg (by simp; omega)]; simp; omega
  rw [j,OS,if_neg (by simp),if_pos (by simp [Nx]; omega)]
  have z:Ce g 100000 0 (List.replicate (g.length:Int).toNat ([]:List Int))=some (IV g.length (vt [] g)):=by
   have:=QG (σ:=List (List Int)) g.length (fun i=>(List.range g.length).map fun x=>if x < i then Ps g.length (vt [] g x) else []) (some (IV g.length (vt [] g))) (fun f c' s=>Ce g f c' s) (by omega) (fun i hi f=>by
    show Ce g (f + 1) (i:Int) ((List.range g.length).map fun x=>if x < i then Ps g.length (vt [] g x) else [])=_
    conv=>lhs; unfold Ce
    rw [if_pos (by simp; omega),if_pos (by simp [Nx]; omega),Hu (by simpa using hi),OS,Int.toNat_natCast,Int.toNat_natCast]
    rw [Oj g.length _ (fun x=>if x < i + 1 then Ps g.length (vt [] g x) else []) i _ (by
     rw [if_pos (by omega)]
     unfold Ps
     apply List.ext_getElem <;> simp [vt]) (fun y hy=>by
     by_cases h1:y < i
     ·rw [if_pos (by omega),if_pos h1]
     ·rw [if_neg (by omega),if_neg h1])]) (fun f=>by
    show Ce g (f + 1) (g.length:Int) ((List.range g.length).map fun x=>if x < g.length then Ps g.length (vt [] g x) else [])=_
    conv=>lhs; unfold Ce
    rw [if_neg (by simp)]
    congr 1
    unfold IV
    exact List.map_congr_left fun x hx=>by rw [if_pos (List.mem_range.1 hx)])
   rw [<-this]
   congr 1
   apply List.ext_getElem <;> simp
  have t:=RM hl hg h16 l [] 100000 rfl (by omega) rfl
  rw [z,OS,W9 g (by omega),OS]
  rw [show ((([]:List (List AE)).length:Nat):Int)=0 from rfl] at t
  rw [t,OS]
  by_cases hv:okT l=true
  ·rw [if_pos hv,if_pos ⟨h16,hv⟩]
  ·rw [if_neg hv,if_neg (fun h=>hv h.2)]
 ·have j:(if (decide ((l.length:Int) > 16))=true then some true else some (decide ((g.length:Int) > 64)))=some true:=by
   rw [if_pos (by simp; omega)]
  rw [j,OS,if_pos rfl,if_neg (fun h=>h16 h.1)]
end
theorem Oo:∀ {l m:List Int},l.Nodup->(∀ x ∈ l,x ∈ m)->l.length<=m.length
 | [],_,_,_=>Nat.zero_le _
 | x::l,m,h,s=>by
  obtain ⟨h1,h2⟩:=List.nodup_cons.1 h
  have hx:=s x (by simp)
  have:=Oo (l:=l) (m:=m.erase x) h2 fun y hy=>(List.mem_erase_of_ne (fun e:y=x=>h1 (e ▸ hy))).2 (s y (List.mem_cons_of_mem _ hy))
  rw [List.length_erase_of_mem hx] at this
  have:0 < m.length:=List.length_pos_of_mem hx
  simp; omega
/-- The numbers below n. -/
def P1 (n:Nat):List Int:=(List.range n).map fun (i:Nat)=>(i:Int)
theorem Gj (n:Nat):(P1 n).length=n:=by simp [P1]
theorem MV {n:Nat}{v:Int}:v ∈ P1 n↔0<=v/\v < n:=by
 unfold P1
 rw [List.mem_map]
 constructor
 ·rintro ⟨i,hi,rfl⟩
  have:=List.mem_range.1 hi
  omega
 ·rintro ⟨h1,h2⟩
  exact ⟨v.toNat,List.mem_range.2 (by omega),by omega⟩
theorem Rw (n:Nat):(P1 n).Nodup:=by
 unfold P1
 refine List.Pairwise.map (fun (i:Nat)=>(i:Int)) (fun a b (h:a≠b)=>?_) (List.nodup_range (n:=n))
 simp only [ne_eq]; omega
/-- In the range, none twice. -/
def pmB (n:Nat):List Int->List Int->Bool
 | _,[]=>true
 | pre,v::r=>!(decide (v < 0)||decide (v≥(n:Int))||decide (v ∈ pre))&&pmB n (pre++[v]) r
theorem Ow {n:Nat}:∀ {r pre:List Int},pmB n pre r=true->pre.Nodup->(∀ v ∈ pre,0<=v/\v < n)->(pre++r).Nodup/\∀ v ∈ pre++r,0<=v/\v < n
 | [],pre,_,hn,hp=>by simpa using ⟨hn,hp⟩
 | v::r,pre,h,hn,hp=>by
  unfold pmB at h
  simp only [Bool.and_eq_true,Bool.not_eq_true',Bool.or_eq_false_iff,decide_eq_false_iff_not] at h
  obtain ⟨⟨⟨h1,h2⟩,h3⟩,h4⟩:=h
  have:=Ow (r:=r) (pre:=pre++[v]) h4 (List.nodup_append.2 ⟨hn,by simp,fun a ha b hb e=>by
   simp at hb; subst hb e; exact h3 ha⟩) (fun w hw=>by
   rcases List.mem_append.1 hw with hw | hw
   ·exact hp w hw
   ·simp at hw; subst hw; omega)
  simpa using this
theorem Po {n:Nat}:∀ {r pre:List Int},pmB n pre r=false->∃ (p:List Int) (v:Int) (q:List Int),pre++r=p++v::q/\(¬ (0<=v/\v < n)\/v ∈ p)
 | [],pre,h=>by cases h
 | v::r,pre,h=>by
  unfold pmB at h
  by_cases hb:¬ (0<=v/\v < n)\/v ∈ pre
  ·exact ⟨pre,v,r,rfl,hb⟩
  ·have hb':(decide (v < 0)||decide (v≥(n:Int))||decide (v ∈ pre))=false:=by
    simp only [Bool.or_eq_false_iff,decide_eq_false_iff_not]
    refine ⟨⟨?_,?_⟩,fun h=>hb (.inr h)⟩
    ·intro h; exact hb (.inl (by omega))
    ·intro h; exact hb (.inl (by omega))
   rw [hb'] at h
   obtain ⟨p,w,q,h1,h2⟩:=Po (r:=r) (pre:=pre++[v]) (by simpa using h)
   exact ⟨p,w,q,by rw [<-h1]; simp,h2⟩
/-- Both tests of a permutation say the same. -/
theorem Uk (n:Nat) (o:List Int):(pmB n [] o=true/\o.length=n)↔(o.length=n/\∀ w:Nat,w < n->(w:Int) ∈ o):=by
 constructor
 ·rintro ⟨h,hl⟩
  obtain ⟨h1,h2⟩:=Ow h List.nodup_nil (fun v hv=>by cases hv)
  simp only [List.nil_append] at h1 h2
  refine ⟨hl,fun w hw=>?_⟩
  by_cases hin:(w:Int) ∈ o
  ·exact hin
  ·have:=Oo (l:=(w:Int)::o) (m:=P1 n) (List.nodup_cons.2 ⟨hin,h1⟩) (fun x hx=>by
    rcases List.mem_cons.1 hx with rfl | hx
    ·exact MV.2 (by omega)
    ·exact MV.2 (h2 x hx))
   rw [Gj] at this
   simp at this
   omega
 ·rintro ⟨hl,hw⟩
  refine ⟨?_,hl⟩
  cases h:pmB n [] o with
  | true=>rfl
  | false =>
   obtain ⟨p,v,q,h1,h2⟩:=Po h
   simp only [List.nil_append] at h1
   have:=Oo (l:=P1 n) (m:=p++q) (Rw n) (fun x hx=>by
    have hr:=MV.1 hx
    have:=hw x.toNat (by omega)
    rw [show ((x.toNat:Nat):Int)=x by omega,h1] at this
    rcases List.mem_append.1 this with h3 | h3
    ·exact List.mem_append_left _ h3
    ·rcases List.mem_cons.1 h3 with e | h3
     ·subst e
      rcases h2 with h2 | h2
      ·exact absurd hr h2
      ·exact List.mem_append_left _ h2
     ·exact List.mem_append_right _ h3)
   rw [Gj] at this
   have hl2:=congrArg List.length h1
   simp at hl2 this
   omega
def Sd (n:Nat) (o:List Int):Bool:=pmB n [] o&&decide (o.length=n)
theorem Ts {n:Nat}{o:List Int}(h:Sd n o=true):∀ v ∈ o,0<=v/\v < n:=by
 unfold Sd at h
 simp only [Bool.and_eq_true] at h
 exact (Ow h.1 List.nodup_nil (fun v hv=>by cases hv)).2
/-- Sums. -/
def Gg {α:Type}(f:α->Int):List α->Int
 | []=>0
 | x::r=>f x + Gg f r
theorem O1 {α:Type}(f:α->Int):∀ a b:List α,Gg f (a++b)=Gg f a + Gg f b
 | [],b=>by simp [Gg]
 | x::a,b=>by simp only [List.cons_append,Gg,O1 f a b]; omega
theorem Kj {α:Type}{f:α->Int}{B:Int}:∀ {l:List α},(∀ x ∈ l,0<=f x/\f x<=B)->0<=Gg f l/\Gg f l<=l.length * B
 | [],_=>by simp [Gg]
 | x::l,h=>by
  have h1:=h x (by simp)
  have h2:=Kj (l:=l) fun y hy=>h y (List.mem_cons_of_mem _ hy)
  simp only [Gg,List.length_cons]
  have:((l.length + 1:Nat):Int) * B=l.length * B + B:=by rw [Int.natCast_add,Int.add_mul]; simp
  rw [this]
  omega
/-- The sum over the pairs of an order: W of the later and the earlier one. -/
def prS (W:Int->Int->Int):List Int->Int
 | []=>0
 | x::r=>Gg (fun y=>W y x) r + prS W r
theorem Pp {W:Int->Int->Int}{B:Int}(hB:0<=B):∀ {l:List Int},(∀ x ∈ l,∀ y ∈ l,0<=W x y/\W x y<=B)->0<=prS W l/\prS W l<=l.length * (l.length * B)
 | [],_=>by simp [prS]
 | x::l,h=>by
  have h1:=Kj (f:=fun y=>W y x) (l:=l) (B:=B) fun y hy=>h y (List.mem_cons_of_mem _ hy) x (by simp)
  have h2:=Pp hB (l:=l) fun a ha b hb=>h a (List.mem_cons_of_mem _ ha) b (List.mem_cons_of_mem _ hb)
  simp only [prS,List.length_cons]
  have e:((l.length + 1:Nat):Int) * (((l.length + 1:Nat):Int) * B)=l.length * (l.length * B) + l.length * B + (l.length * B + B):=by
   rw [Int.natCast_add]
   simp only [Int.add_mul,Int.mul_add,Int.one_mul,Int.natCast_one]
  rw [e]
  have:0<=(l.length:Int) * B:=Int.mul_nonneg (by omega) hB
  omega
/- trestle/trestleref03.Disagreements -/
/- trestle/trestleref03.all -/
/- trestle/trestlekit.CopyInts -/
/- trestle/trestleref03.next -/
/- trestle/trestleref03.Compromise -/
/-- Two numbers with their orders: the first one, unless the second one is less. -/
def mrg:Option (Int×List Int)->Option (Int×List Int)->Option (Int×List Int)
 | none,b=>b
 | a,none=>a
 | some a,some b=>some (if b.1 < a.1 then b else a)
theorem T2 (a:Option (Int×List Int)):mrg a none=a:=by cases a <;> rfl
theorem T5 (a:Option (Int×List Int)):mrg none a=a:=rfl
/-- All numbers grow by the same, all orders get the same head. -/
def shf (k x:Int) (q:Int×List Int):Int×List Int:=(q.1 + k,x::q.2)
/-- Which one it is. -/
theorem XE {a b:Option (Int×List Int)}{q:Int×List Int}(h:mrg a b=some q):a=some q\/b=some q:=by
 cases a with
 | none=>exact .inr h
 | some a =>
  cases b with
  | none=>exact .inl h
  | some b =>
   simp only [mrg,Option.some.injEq] at h
   by_cases hb:b.1 < a.1
   ·rw [if_pos hb] at h; exact .inr (by rw [h])
   ·rw [if_neg hb] at h; exact .inl (by rw [h])
theorem MS {α:Type}{F:α->Option (Int×List Int)}{q:Int×List Int}:∀ {l:List α}{s:Option (Int×List Int)},l.foldl (fun s x=>mrg s (F x)) s=some q->s=some q\/∃ x ∈ l,F x=some q
 | [],s,h=> .inl h
 | x::l,s,h=>by
  rcases MS (l:=l) h with h | ⟨y,hy,h⟩
  ·rcases XE h with h | h
   ·exact .inl h
   ·exact .inr ⟨x,by simp,h⟩
  ·exact .inr ⟨y,by simp [hy],h⟩
theorem NH {f:Int->Int}{a b:List Int}(h:a.Perm b):Gg f a=Gg f b:=by
 induction h with
 | nil=>rfl
 | cons x _ ih=>simp only [Gg,ih]
 | swap x y l=>simp only [Gg]; omega
 | trans _ _ h1 h2=>exact h1.trans h2
/-- The best, one by one from the front. -/
def BB (W:Int->Int->Int):Nat->List Int->Option (Int×List Int)
 | 0,_=>some (0,[])
 | k + 1,l=>l.foldl (fun s x=>mrg s ((BB W k (l.erase x)).map (shf (Gg (fun y=>W y x) (l.erase x)) x))) none
/-- The best is one of them. -/
theorem PJ {W:Int->Int->Int}:∀ (k:Nat){l:List Int}{q:Int×List Int},l.length=k->BB W k l=some q->q.2.Perm l/\q.1=prS W q.2
 | 0,l,q,h,e=>by
  have:l=[]:=List.eq_nil_of_length_eq_zero h
  subst this
  unfold BB at e
  obtain rfl:=OI e
  exact ⟨.nil,rfl⟩
 | k + 1,l,q,h,e=>by
  unfold BB at e
  rcases MS e with e | ⟨x,hx,e⟩
  ·cases e
  ·obtain ⟨q',h1,rfl⟩:=Option.map_eq_some_iff.1 e
   obtain ⟨p1,p2⟩:=PJ k (by rw [List.length_erase_of_mem hx]; omega) h1
   refine ⟨(List.Perm.cons x p1).trans (List.perm_cons_erase hx).symm,?_⟩
   simp only [shf,prS]
   rw [NH p1,p2,Int.add_comm]
theorem T3 (a:Option (Int×List Int)) (b:Int×List Int):∃ q,mrg a (some b)=some q:=by
 cases a with
 | none=>exact ⟨b,rfl⟩
 | some a=>exact ⟨_,rfl⟩
theorem OA {α:Type}{F:α->Option (Int×List Int)}:∀ (l:List α) (s:Option (Int×List Int)),(∀ x ∈ l,∃ q,F x=some q)->(l=[]->∃ q,s=some q)->∃ q,l.foldl (fun s x=>mrg s (F x)) s=some q
 | [],s,_,h=>h rfl
 | x::l,s,h,_=>by
  obtain ⟨q,hq⟩:=h x (by simp)
  rw [List.foldl_cons]
  refine OA l _ (fun y hy=>h y (List.mem_cons_of_mem _ hy)) fun _=>?_
  rw [hq]; exact T3 s q
theorem OY (W:Int->Int->Int):∀ (k:Nat) (l:List Int),l.length=k->∃ q,BB W k l=some q
 | 0,_,_=>⟨_,rfl⟩
 | k + 1,l,h=>by
  unfold BB
  refine OA l none (fun x hx=>?_) fun e=>by rw [e] at h; simp at h
  obtain ⟨q,hq⟩:=OY W k (l.erase x) (by rw [List.length_erase_of_mem hx]; omega)
  rw [hq]; exact ⟨_,rfl⟩
/-- The rest of the best is the best of the rest. -/
theorem U0 {W:Int->Int->Int}{k:Nat}{l:List Int}{v x:Int}{o:List Int}(e:BB W (k + 1) l=some (v,x::o)):x ∈ l/\∃ u,BB W k (l.erase x)=some (u,o):=by
 unfold BB at e
 rcases MS e with e | ⟨y,hy,e⟩
 ·cases e
 ·obtain ⟨q',h1,h2⟩:=Option.map_eq_some_iff.1 e
  simp only [shf,Prod.mk.injEq,List.cons.injEq] at h2
  obtain ⟨_,rfl,rfl⟩:=h2
  exact ⟨hy,_,h1⟩
/-- Those below n that are not in the set. -/
def RN (n s:Nat):List Int:=((List.range n).filter fun x=>!s.testBit x).map fun (i:Nat)=>(i:Int)
theorem Wj:∀ s:Nat,s < 128->∀ x:Nat,x < 7->((DO .i64 (s:Int) (wr .i64 (1 * 2 ^ min (x:Int).toNat 64)))==0)=!s.testBit x:=by decide +kernel
theorem Yk:∀ s:Nat,s < 128->∀ x:Nat,x < 7->orI .i64 (s:Int) (wr .i64 (1 * 2 ^ min (x:Int).toNat 64))=((s ||| 2 ^ x:Nat):Int):=by decide +kernel
def Yl (n s x:Nat):Bool:=s.testBit x||(Nat.blt (s ||| 2 ^ x) (2 ^ n)&&Nat.blt s (s ||| 2 ^ x)&&RN n (s ||| 2 ^ x)==(RN n s).erase (x:Int)&&(RN n s).elem (x:Int))
theorem XM:((List.range 8).all fun n=>(List.range (2 ^ n)).all fun s=>(List.range n).all fun x=>Yl n s x)=true:=by kernel_rfl
theorem V3 (n:Nat) (h:n < 8) (s:Nat) (hs:s < 2 ^ n) (x:Nat) (hx:x < n) (ht:s.testBit x=false):s ||| 2 ^ x < 2 ^ n/\s < s ||| 2 ^ x/\RN n (s ||| 2 ^ x)=(RN n s).erase (x:Int)/\(x:Int) ∈ RN n s:=by
 have h1:=List.all_eq_true.1 (List.all_eq_true.1 (List.all_eq_true.1 XM n (List.mem_range.2 h)) s (List.mem_range.2 hs)) x (List.mem_range.2 hx)
 unfold Yl at h1
 rw [ht,Bool.false_or,Bool.and_eq_true,Bool.and_eq_true,Bool.and_eq_true,beq_iff_eq] at h1
 obtain ⟨⟨⟨h2,h3⟩,h4⟩,h5⟩:=h1
 exact ⟨Nat.le_of_ble_eq_true h2,Nat.le_of_ble_eq_true h3,h4,List.elem_iff.1 h5⟩
theorem RH:∀ n:Nat,n < 8->∀ s:Nat,s < 2 ^ n->(RN n s=[]↔s=2 ^ n - 1):=by decide +kernel
theorem Yz:∀ n:Nat,n < 8->RN n 0=P1 n:=by decide +kernel
theorem RW:∀ n:Nat,n < 8->wr .i64 ((wr .i64 (1 * 2 ^ min (n:Int).toNat 64)) - 1)=((2 ^ n - 1:Nat):Int)/\2 ^ n<=128/\0 < 2 ^ n:=by decide +kernel
theorem S6 (n s:Nat):RN (n + 1) s=if s.testBit n then RN n s else RN n s++[(n:Int)]:=by
 unfold RN
 rw [List.range_succ,List.filter_append,List.map_append]
 cases h:s.testBit n with
 | true=>simp [h]
 | false=>simp [h]
theorem Uo {n s:Nat}{x:Int}(h:x ∈ RN n s):∃ i:Nat,x=(i:Int)/\i < n/\s.testBit i=false:=by
 unfold RN at h
 obtain ⟨i,hi,rfl⟩:=List.mem_map.1 h
 have:=List.mem_filter.1 hi
 exact ⟨i,rfl,List.mem_range.1 this.1,by simpa using this.2⟩
theorem Un (n s:Nat):(RN n s).length<=n:=by
 unfold RN
 rw [List.length_map]
 have:=List.length_filter_le (fun x=>!s.testBit x) (List.range n)
 simpa using this
section
variable {g:List Ax}(hn:g.length<=7){W:Int->Int->Int}(hW:∀ x y,0<=W x y/\W x y<=16) (h0:∀ x:Nat,x < g.length->W (x:Int) (x:Int)=0){T:List (List Int)}{b:Bool}(hT:∀ u v:Int,0<=u/\u < g.length->0<=v/\v < g.length->∃ r,idx T u=some r/\idx r v=some (W u v))
include hn hW hT in
theorem Yw (s:Nat) (hs:s < 128) (c21 c22:List Int) (x:Nat) (hx:x < g.length) (v:Int) (hv:0<=v/\v<=100000):BA g (T,b) (s:Int) c21 c22 (x:Int) 100000 v 0=some (v + Gg (fun y=>W y (x:Int)) (RN g.length s)):=by
 have h:=QG (σ:=Int) g.length (fun k=>v + Gg (fun y=>W y (x:Int)) (RN k s)) (some (v + Gg (fun y=>W y (x:Int)) (RN g.length s))) (fun f c st=>BA g (T,b) (s:Int) c21 c22 (x:Int) f st c) (by omega) (fun k hk f=>by
  show BA g (T,b) (s:Int) c21 c22 (x:Int) (f + 1) (v + Gg (fun y=>W y (x:Int)) (RN k s)) (k:Int)=BA g (T,b) (s:Int) c21 c22 (x:Int) f (v + Gg (fun y=>W y (x:Int)) (RN (k + 1) s)) _
  conv=>lhs; unfold BA
  have e:Dd g (T,b) (s:Int) c21 c22 (x:Int) (v + Gg (fun y=>W y (x:Int)) (RN k s)) (k:Int)=some (v + Gg (fun y=>W y (x:Int)) (RN (k + 1) s)):=by
   unfold Dd
   rw [Wj s hs k (by omega),S6]
   cases hb:s.testBit k with
   | true=>rw [if_neg (by simp),if_pos (by rfl)]
   | false =>
    obtain ⟨r,r1,r2⟩:=hT (k:Int) (x:Int) (by omega) (by omega)
    have h1:=Kj (f:=fun y=>W y (x:Int)) (l:=RN k s) (B:=16) fun y _=>hW y x
    have h2:=Un k s
    have h3:=hW (k:Int) (x:Int)
    rw [if_pos (by rfl),if_neg (by simp)]
    show (idx T (k:Int)).bind _=_
    rw [r1,OS,r2,OS,O1]
    simp only [Gg]
    rw [P9 (by omega) (by omega)]
    congr 1
    omega
  rw [if_pos (by simp; omega),if_pos (by simp),e,OS]) (fun f=>by
  show BA g (T,b) (s:Int) c21 c22 (x:Int) (f + 1) _ (g.length:Int)=_
  conv=>lhs; unfold BA
  rw [if_neg (by simp)])
 have h':BA g (T,b) (s:Int) c21 c22 (x:Int) 100000 (v + 0) 0=_:=h
 rwa [Int.add_zero] at h'
/-- What is known of all sets from a set on. -/
def Us (W:Int->Int->Int) (n m:Nat) (cs nx:List Int):Prop:=cs.length=2 ^ n/\nx.length=2 ^ n/\∀ s,m<=s->s < 2 ^ n->∃ q,BB W (RN n s).length (RN n s)=some q/\cs[s]? = some q.1/\(RN n s≠[]->nx[s]? = some (q.2.headD 0))
/-- Both lists at a set. -/
def upC (cs nx:List Int) (s:Nat):Option (Int×List Int)->List Int×List Int
 | none=>(cs.set s (-1),nx)
 | some q=>(cs.set s q.1,nx.set s (q.2.headD 0))
/-- One more in front. -/
def GC (W:Int->Int->Int) (k:Nat) (l:List Int) (x:Int):Option (Int×List Int):=(BB W k (l.erase x)).map (shf (Gg (fun y=>W y x) (l.erase x)) x)
def FC (W:Int->Int->Int) (k n s x:Nat):Option (Int×List Int):=(RN x s).foldl (fun a x=>mrg a (GC W k (RN n s) x)) none
include hn hW in
theorem Uf {k n s:Nat}{x:Int}(hk:(RN n s).length=k + 1) (hn':n<=7) (hx:x ∈ RN n s){q:Int×List Int}(h:GC W k (RN n s) x=some q):0<=q.1/\q.1<=10000:=by
 have _:=hn
 obtain ⟨p,h1,rfl⟩:=Option.map_eq_some_iff.1 h
 have hl:((RN n s).erase x).length=k:=by rw [List.length_erase_of_mem hx]; omega
 obtain ⟨p1,p2⟩:=PJ k hl h1
 have h2:=Pp (W:=W) (B:=16) (by omega) (l:=p.2) fun a _ c _=>hW a c
 have h3:=Kj (f:=fun y=>W y x) (l:=(RN n s).erase x) (B:=16) fun y _=>hW y x
 have h4:=Un n s
 rw [hl] at h3
 rw [p1.length_eq,hl] at h2
 have h5:(k:Int) * ((k:Int) * 16)<=7 * (7 * 16):=Int.mul_le_mul (by omega) (by omega) (by omega) (by omega)
 simp only [shf]
 omega
include hn hW h0 hT in
theorem Yv (s:Nat) (hs:s < 2 ^ g.length) (k:Nat) (hk:(RN g.length s).length=k + 1) (cs nx:List Int) (hI:Us W g.length (s + 1) cs nx):A9 g (T,b) (s:Int) 100000 (cs.set s (-1)) nx 0=some (upC cs nx s (BB W (k + 1) (RN g.length s))):=by
 obtain ⟨i1,i2,i3⟩:=hI
 have hs128:s < 128:=by have:=(RW g.length (by omega)).2.1; omega
 have h:=QG (σ:=List Int×List Int) g.length (fun x=>upC cs nx s (FC W k g.length s x)) (some (upC cs nx s (FC W k g.length s g.length))) (fun f c st=>A9 g (T,b) (s:Int) f st.1 st.2 c) (by omega) (fun x hx f=>by
  show A9 g (T,b) (s:Int) (f + 1) (upC cs nx s (FC W k g.length s x)).1 (upC cs nx s (FC W k g.length s x)).2 (x:Int)=A9 g (T,b) (s:Int) f (upC cs nx s (FC W k g.length s (x + 1))).1 (upC cs nx s (FC W k g.length s (x + 1))).2 _
  conv=>lhs; unfold A9
  have hb:=Wj s hs128 x (by omega)
  have eF:FC W k g.length s (x + 1)=if s.testBit x then FC W k g.length s x else mrg (FC W k g.length s x) (GC W k (RN g.length s) (x:Int)):=by
   unfold FC
   rw [S6]
   cases s.testBit x with
   | true=>rfl
   | false=>rw [if_neg (by simp),if_neg (by simp),List.foldl_append]; rfl
  rw [if_pos (by simp; omega),if_pos (by simp)]
  cases ht:s.testBit x with
  | true =>
   rw [ht] at hb eF
   rw [if_pos (by simpa [bne] using hb),eF,if_pos rfl]
  | false =>
   rw [ht] at hb eF
   obtain ⟨o1,o2,o3,o4⟩:=V3 g.length (by omega) s hs x hx ht
   have hl:((RN g.length s).erase (x:Int)).length=k:=by rw [List.length_erase_of_mem o4]; omega
   obtain ⟨q,q1,q2,_⟩:=i3 (s ||| 2 ^ x) (by omega) o1
   rw [o3,hl] at q1
   have eG:GC W k (RN g.length s) (x:Int)=some (shf (Gg (fun y=>W y (x:Int)) ((RN g.length s).erase (x:Int))) (x:Int) q):=by unfold GC; rw [q1]; rfl
   have hpos:=Uf hn hW hk hn o4 eG
   have hs3:=Kj (f:=fun y=>W y (x:Int)) (l:=(RN g.length s).erase (x:Int)) (B:=16) fun y _=>hW y x
   have hq0:0<=q.1:=by
    obtain ⟨p1,p2⟩:=PJ k hl q1
    have:=Pp (W:=W) (B:=16) (by omega) (l:=q.2) fun a _ c _=>hW a c
    omega
   simp only [shf] at hpos
   have hsum:Gg (fun y=>W y (x:Int)) (RN g.length s)=Gg (fun y=>W y (x:Int)) ((RN g.length s).erase (x:Int)):=by
    rw [NH (List.perm_cons_erase o4)]
    simp only [Gg]
    rw [h0 x hx]; omega
   have hlenU:∀ F,(upC cs nx s F).1.length=2 ^ g.length/\(upC cs nx s F).2.length=2 ^ g.length:=fun F=>by cases F <;> simp [upC,i1,i2]
   have hat:∀ F,idx (upC cs nx s F).1 ((s ||| 2 ^ x:Nat):Int)=some q.1:=fun F=>by
    have hne:¬ s=s ||| 2 ^ x:=by omega
    have e1:(upC cs nx s F).1[s ||| 2 ^ x]? = some q.1:=by cases F <;> simp only [upC] <;> rw [List.getElem?_set,if_neg hne] <;> exact q2
    obtain ⟨hlt,e2⟩:=List.getElem?_eq_some_iff.1 e1
    rw [Hu hlt,e2]
   have hself:∀ F,idx (upC cs nx s F).1 (s:Int)=some (match F with | none=> -1 | some q=>q.1):=fun F=>by
    have hlt:s < (upC cs nx s F).1.length:=by rw [(hlenU F).1]; exact hs
    rw [Hu hlt]
    cases F <;> simp [upC]
   have hnx:∀ F,∃ v,idx (upC cs nx s F).2 (s:Int)=some v:=fun F=>⟨_,Hu (by rw [(hlenU F).2]; exact hs)⟩
   have hFpos:∀ p,FC W k g.length s x=some p->0<=p.1:=fun p hp=>by
    rcases MS hp with h | ⟨y,hy,h⟩
    ·cases h
    ·obtain ⟨i,rfl,hi,hti⟩:=Uo hy
     exact (Uf hn hW hk hn (V3 g.length (by omega) s hs i (by omega) hti).2.2.2 h).1
   rw [eF,if_neg (show ¬ (false=true) by simp),eG,if_neg (by simpa [bne] using hb),if_pos (by simp),Yk s hs128 x (by omega),hat,OS,Yw hn hW hT s hs128 _ _ x hx q.1 (by omega),OS,hself,OS,hsum]
   have key:∀ F:Option (Int×List Int),(∀ p,F=some p->0<=p.1)->((if (decide ((match F with | none=> -1 | some q=>q.1) < (0:Int)))=true then some ((upC cs nx s F).1,(upC cs nx s F).2,true) else (some (match F with | none=>(-1:Int) | some q=>q.1)).bind fun v41=>some ((upC cs nx s F).1,(upC cs nx s F).2,(decide (q.1 + Gg (fun y=>W y (x:Int)) ((RN g.length s).erase (x:Int)) < v41)))).bind fun j45=>(Ct g (T,b) (s:Int) (x:Int) (q.1 + Gg (fun y=>W y (x:Int)) ((RN g.length s).erase (x:Int))) j45))=some (upC cs nx s (mrg F (some (shf (Gg (fun y=>W y (x:Int)) ((RN g.length s).erase (x:Int))) (x:Int) q)))):=by
    intro F hF
    obtain ⟨v,hv⟩:=hnx F
    cases F with
    | none =>
     rw [if_pos (by simp),OS]
     unfold Ct
     rw [if_pos rfl]
     show (idx (upC cs nx s none).1 (s:Int)).bind _=_
     rw [hself,OS,hv,OS,Int.toNat_natCast]
     simp only [upC,mrg,shf,List.headD_cons,List.set_set]
    | some p =>
     have:=hF p rfl
     rw [if_neg (by simp; omega),OS,OS]
     unfold Ct
     by_cases hlt:q.1 + Gg (fun y=>W y (x:Int)) ((RN g.length s).erase (x:Int)) < p.1
     ·rw [if_pos (by simpa using hlt)]
      show (idx (upC cs nx s (some p)).1 (s:Int)).bind _=_
      rw [hself,OS,hv,OS,Int.toNat_natCast]
      show _=some (upC cs nx s (some (if q.1 + Gg (fun y=>W y (x:Int)) ((RN g.length s).erase (x:Int)) < p.1 then shf (Gg (fun y=>W y (x:Int)) ((RN g.length s).erase (x:Int))) (x:Int) q else p)))
      rw [if_pos hlt]
      simp only [upC,shf,List.headD_cons,List.set_set]
     ·rw [if_neg (by simpa using hlt)]
      show _=some (upC cs nx s (some (if q.1 + Gg (fun y=>W y (x:Int)) ((RN g.length s).erase (x:Int)) < p.1 then shf (Gg (fun y=>W y (x:Int)) ((RN g.length s).erase (x:Int))) (x:Int) q else p)))
      rw [if_neg hlt]
   have k2:=key (FC W k g.length s x) hFpos
   rw [<-Option.bind_assoc]
   refine (congrArg (fun o=>Option.bind o _) k2).trans ?_
   rw [OS]) (fun f=>by
  show A9 g (T,b) (s:Int) (f + 1) _ _ (g.length:Int)=_
  conv=>lhs; unfold A9
  rw [if_neg (by simp)])
 exact h
theorem W2 {n m:Nat}{cs nx:List Int}(hI:Us W n (m + 1) cs nx) (hm:m < 2 ^ n){k:Nat}(hk:(RN n m).length=k + 1):Us W n m (upC cs nx m (BB W (k + 1) (RN n m))).1 (upC cs nx m (BB W (k + 1) (RN n m))).2:=by
 obtain ⟨i1,i2,i3⟩:=hI
 obtain ⟨q,hq⟩:=OY W (k + 1) (RN n m) hk
 rw [hq]
 refine ⟨by simp [upC,i1],by simp [upC,i2],fun s h1 h2=>?_⟩
 by_cases e:s=m
 ·subst e
  exact ⟨q,by rw [hk]; exact hq,by simp only [upC]; rw [List.getElem?_set,if_pos rfl,if_pos (by omega)],fun _=>by simp only [upC]; rw [List.getElem?_set,if_pos rfl,if_pos (by omega)]⟩
 ·obtain ⟨p,p1,p2,p3⟩:=i3 s (by omega) h2
  exact ⟨p,p1,by simp only [upC]; rw [List.getElem?_set,if_neg (by omega)]; exact p2,fun h=>by simp only [upC]; rw [List.getElem?_set,if_neg (by omega)]; exact p3 h⟩
include hn hW h0 hT in
theorem Yi:∀ (m f:Nat) (cs nx:List Int),Us W g.length m cs nx->m < 2 ^ g.length->m < f->∃ cs' nx',CX g (T,b) f cs nx ((m:Int) - 1)=some (cs',nx')/\Us W g.length 0 cs' nx'
 | 0,f + 1,cs,nx,hI,_,_=>by
  refine ⟨cs,nx,?_,hI⟩
  unfold CX
  rw [if_neg (by simp)]
 | m + 1,f + 1,cs,nx,hI,hm,hf=>by
  have hm':m < 2 ^ g.length:=by omega
  have h128:=(RW g.length (by omega)).2.1
  obtain ⟨k,hk⟩:∃ k,(RN g.length m).length=k + 1:=by
   have:RN g.length m≠[]:=fun e=>by
    have:=(RH g.length (by omega) m hm').1 e
    omega
   have:=List.length_pos_iff.2 this
   exact ⟨(RN g.length m).length - 1,by omega⟩
  have h3:=Yv (b:=b) hn hW h0 hT m hm' k hk cs nx hI
  obtain ⟨cs',nx',e1,e2⟩:=Yi m f _ _ (W2 hI hm' hk) hm' (by omega)
  refine ⟨cs',nx',?_,e2⟩
  have ec:((m + 1:Nat):Int) - 1=(m:Int):=by omega
  unfold CX
  rw [ec,if_pos (by simp),Hu (by rw [hI.1]; exact hm'),OS,Int.toNat_natCast,h3,OS,P9 (by omega) (by omega)]
  exact e1
include hn in
theorem Yj (cs nx:List Int) (hI:Us W g.length 0 cs nx):∀ (k s f:Nat) (out:List Int) (q:Int×List Int),(RN g.length s).length=k->s < 2 ^ g.length->BB W k (RN g.length s)=some q->k < f->out.length + k<=1000->CB g (cs,nx) f out (s:Int)=some (out++q.2)
 | 0,s,f + 1,out,q,hk,hs,hq,_,_=>by
  have he:RN g.length s=[]:=List.eq_nil_of_length_eq_zero hk
  have:=(RH g.length (by omega) s hs).1 he
  unfold BB at hq
  obtain rfl:=OI hq
  unfold CB
  rw [(RW g.length (by omega)).1,if_neg (by simp; omega),List.append_nil]
 | k + 1,s,f + 1,out,q,hk,hs,hq,hf,ho=>by
  have h128:=(RW g.length (by omega)).2.1
  have hne:RN g.length s≠[]:=fun e=>by rw [e] at hk; cases hk
  have hns:¬ s=2 ^ g.length - 1:=fun e=>hne ((RH g.length (by omega) s hs).2 e)
  obtain ⟨p1,p2⟩:=PJ (k + 1) hk hq
  obtain ⟨v,w⟩:=q
  cases w with
  | nil=>have:=p1.length_eq; rw [hk] at this; cases this
  | cons x o =>
   obtain ⟨hx,u,hu⟩:=U0 hq
   obtain ⟨i,rfl,hi,hti⟩:=Uo hx
   obtain ⟨o1,o2,o3,o4⟩:=V3 g.length (by omega) s hs i hi hti
   obtain ⟨q',q1,_,q3⟩:=hI.2.2 s (by omega) hs
   rw [hk,hq] at q1
   obtain rfl:=OI q1
   have hnx:idx nx (s:Int)=some (i:Int):=by
    obtain ⟨hlt,e2⟩:=List.getElem?_eq_some_iff.1 (q3 hne)
    rw [Hu hlt,e2]; rfl
   have ih:=Yj cs nx hI k (s ||| 2 ^ i) f (out++[(i:Int)]) (u,o) (by rw [o3,List.length_erase_of_mem o4]; omega) o1 (by rw [o3]; exact hu) (by omega) (by simp; omega)
   unfold CB
   rw [(RW g.length (by omega)).1,if_pos (by simp; omega)]
   show (idx nx (s:Int)).bind _=_
   rw [hnx,OS,if_pos (Il (by omega) (by omega)),OS,if_pos (by simp),Yk s (by omega) i (by omega),ih]
   simp
end
section
variable {g:List Ax}(hg:FewR g)
include hg
end
/- trestle/trestlelaw03.FewGuests$1$1 -/
/- slices.IndexFunc[[]string,string] -/
/- slices.ContainsFunc[[]string,string] -/
/- trestle/trestlelaw03.FewGuests$1 -/
/- slices.IndexFunc[[]trestle/api.Guest,trestle/api.Guest] -/
/- slices.ContainsFunc[[]trestle/api.Guest,trestle/api.Guest] -/
/- trestle/trestlelaw03.FewGuests -/
/- trestle/trestlekit.CopyWords -/
/- trestle/trestlekit.CopyGuest -/
/- trestle/trestlekit.SameWords -/
/- trestle/trestlekit.SameGuest -/
/- trestle/trestlekit.CopyGuests -/
/- trestle/trestlekit.SameGuests -/
/- trestle/trestlelaw03.FewAll$1 -/
/- slices.IndexFunc[[][]trestle/api.Clause,[]trestle/api.Clause] -/
/- slices.ContainsFunc[[][]trestle/api.Clause,[]trestle/api.Clause] -/
/- trestle/trestlelaw03.FewAll -/
/- trestle/trestlelaw03.CopyAll -/
/- slices.EqualFunc[[][]trestle/api.Clause,[][]trestle/api.Clause,[]trestle/api.Clause,[]trestle/api.Clause] -/
/- trestle/trestlelaw03.SameAll -/
/- trestle/trestleref03.Agree -/
/- trestle/trestleref03.Conflicts -/
/- trestle/court.Agree$1 -/
/- trestle/court.pairs -/
/- trestle/court.Agree -/
/- slices.Equal[[][2]int,[2]int] -/
/- trestle/court.Conflicts$1 -/
/- trestle/court.pairs -/
/- trestle/court.Conflicts -/
/- slices.Equal[[]int,int] -/
/- trestle/trestlelaw03.pairs -/
/- trestle/trestlelaw03.CourtPairs -/
section
variable {l:List (List AE)}{g:List Ax}(hl:∀ c ∈ l,few c) (hg:FewR g) (h16:l.length<=16) (hv:okT l=true)
include hl hg h16 hv
end
/-- The disagreements of an order. -/
def WI (l:List (List AE)) (g:List Ax) (a b:Int):Int:=vt l g a.toNat b.toNat
theorem R9 {l:List (List AE)}(g:List Ax) (h16:l.length<=16) (a b:Int):0<=WI l g a b/\WI l g a b<=16:=by
 have:=WC l g a.toNat b.toNat
 unfold WI; omega
theorem Uj {l:List (List AE)}{g:List Ax}{a b:Int}(ha:0<=a/\a < g.length) (hb:0<=b/\b < g.length):∃ r,idx (IV g.length (vt l g)) a=some r/\idx r b=some (WI l g a b):=by
 have e1:((a.toNat:Nat):Int)=a:=by omega
 have e2:((b.toNat:Nat):Int)=b:=by omega
 refine ⟨Ps g.length (vt l g a.toNat),?_,?_⟩
 ·have:=QY (n:=g.length) (M:=vt l g) (x:=a.toNat) (by omega)
  rwa [e1] at this
 ·have:=Qd (n:=g.length) (f:=vt l g a.toNat) (x:=b.toNat) (by omega)
  rwa [e2] at this
theorem S9 {n:Nat}{pre:List Int}{v:Int}(hv:0<=v/\v < n):idx ((List.range n).map fun (k:Nat)=>decide ((k:Int) ∈ pre)) v=some (decide (v ∈ pre)):=by
 have e:((v.toNat:Nat):Int)=v:=by omega
 have:idx ((List.range n).map fun (k:Nat)=>decide ((k:Int) ∈ pre)) ((v.toNat:Nat):Int)=some (decide (((v.toNat:Nat):Int) ∈ pre)):=by
  rw [Hu (by simp; omega)]; simp
 rwa [e] at this
theorem Sz (n:Nat) (o:List Int) (ho:o.length<=1000):∀ (r pre:List Int) (f:Nat),o=pre++r->r.length < f->CN o (n:Int) f ((List.range n).map fun (k:Nat)=>decide ((k:Int) ∈ pre)) (pre.length:Int)=some (if pmB n pre r=true then .inl () else .inr false)
 | [],pre,f + 1,e,_=>by
  unfold CN
  rw [if_neg (by rw [e]; simp)]; rfl
 | v::r,pre,f + 1,e,hf=>by
  simp only [List.length_cons] at hf
  have hl:o.length=pre.length + r.length + 1:=by rw [e]; simp; omega
  unfold CN
  rw [if_pos (by rw [e]; exact HX pre v r),show idx o (pre.length:Int)=some v by rw [e,Es],OS]
  by_cases h0:v < 0
  ·rw [if_pos (by simpa using h0),OS,if_pos rfl,if_neg]
   unfold pmB; simp [h0]
  ·rw [if_neg (by simpa using h0)]
   by_cases h1:v≥(n:Int)
   ·rw [if_pos (by simpa using h1),OS,if_pos rfl,if_neg]
    unfold pmB; simp [h1]
   ·rw [if_neg (by simpa using h1),S9 ⟨by omega,by omega⟩,OS,OS]
    by_cases h2:v ∈ pre
    ·rw [if_pos (by simpa using h2),if_neg]
     unfold pmB; simp [h2]
    ·rw [if_neg (by simpa using h2),S9 ⟨by omega,by omega⟩,OS]
     have e2:((List.range n).map fun (k:Nat)=>decide ((k:Int) ∈ pre)).set v.toNat true=(List.range n).map fun (k:Nat)=>decide ((k:Int) ∈ pre++[v]) :=
      Oj n _ _ v.toNat true (by simp; omega) (fun y hy=>by
       have:¬ ((y:Int)=v):=by omega
       simp [this])
     have e3:pmB n pre (v::r)=pmB n (pre++[v]) r:=by
      conv=>lhs; unfold pmB
      simp [h0,h1,h2]
     rw [e2,FM pre v r (by rw [<-e]; omega),e3]
     exact Sz n o ho r (pre++[v]) f (by rw [e]; simp) (by omega)
theorem XK (n:Nat) (o:List Int) (hn:n<=64) (ho:o.length<=1000):Cu o (n:Int)=some (Sd n o):=by
 have h:=Sz n o ho o [] 100000 rfl (by omega)
 have e:(List.replicate (n:Int).toNat false)=(List.range n).map fun (k:Nat)=>decide ((k:Int) ∈ ([]:List Int)):=by
  apply List.ext_getElem <;> simp
 unfold Cu
 rw [if_pos (by simp [Nx]; omega),e]
 rw [show ((([]:List Int).length:Nat):Int)=0 from rfl] at h
 rw [h,OS]
 unfold Sd
 cases pmB n [] o with
 | false=>rfl
 | true =>
  show some ((o.length:Int)==(n:Int))=_
  by_cases hq:o.length=n
  ·simp [hq]
  ·have:¬ ((o.length:Int)=(n:Int)):=by omega
   simp [hq,this]
theorem VY (o:List Int) (v:Int) (ho:o.length<=99999):CE o v=some (decide (v ∈ o)):=by
 unfold CE DE
 obtain ⟨n,h1,h2⟩:=PH o ho (fun x=>some (v==x)) (fun x=>v==x) (fun _ _=>rfl) (Cb o v) (fun f c=>by
  conv=>lhs; unfold Cb
  rfl)
 have e:decide (v ∈ o)=decide (n≥0):=by
  rw [h2]
  by_cases hm:v ∈ o
  ·simp [hm]
  ·simp only [hm,decide_false]
   symm
   rw [List.any_eq_false]
   intro x hx hq
   exact hm ((by simpa using hq:v=x) ▸ hx)
 rw [e]
 exact congrArg (fun q:Option Int=>q.bind fun v1=>some (decide (v1≥0))) h1
theorem XL (n:Nat) (o:List Int) (hn:n<=64) (_ho:o.length<=1000):Ca o (n:Int)=some (Sd n o):=by
 classical
 have key:Sd n o=decide (o.length=n/\∀ w:Nat,w < n->(w:Int) ∈ o):=by
  rw [Bool.eq_iff_iff]
  have:=Uk n o
  unfold Sd
  simp only [Bool.and_eq_true,decide_eq_true_eq]
  exact this
 unfold Ca
 by_cases hl:o.length=n
 ·rw [if_neg (by simp [hl])]
  have go:∀ (d i f:Nat),i + d=n->d < f->CO o (n:Int) f (i:Int)=some (if (∀ w:Nat,i<=w->w < n->(w:Int) ∈ o) then .inl () else .inr false):=by
   intro d
   induction d with
   | zero =>
    intro i f e hf
    obtain ⟨f,rfl⟩:∃ q,f=q + 1:=⟨f - 1,by omega⟩
    unfold CO
    rw [if_neg (by simp; omega),if_pos (fun w h1 h2=>by omega)]
   | succ d ih =>
    intro i f e hf
    obtain ⟨f,rfl⟩:∃ q,f=q + 1:=⟨f - 1,by omega⟩
    unfold CO
    rw [if_pos (by simp; omega),VY o _ (by omega),OS]
    by_cases hi:(i:Int) ∈ o
    ·rw [if_neg (by simp [hi]),P9 (by omega) (by omega),show ((i:Int) + 1)=((i + 1:Nat):Int) by omega,ih (i + 1) f (by omega) (by omega)]
     by_cases hr:∀ w:Nat,i + 1<=w->w < n->(w:Int) ∈ o
     ·rw [if_pos hr,if_pos (fun w h1 h2=>by
       by_cases e:w=i
       ·subst e; exact hi
       ·exact hr w (by omega) h2)]
     ·rw [if_neg hr,if_neg (fun h=>hr fun w h1 h2=>h w (by omega) h2)]
    ·rw [if_pos (by simp [hi]),if_neg (fun h=>hi (h i (Nat.le_refl _) (by omega)))]
  have:=go n 0 100000 (by omega) (by omega)
  rw [show ((0:Nat):Int)=0 from rfl] at this
  rw [this,key]
  by_cases hr:∀ w:Nat,w < n->(w:Int) ∈ o
  ·rw [if_pos (fun w _ h2=>hr w h2)]
   simp only [OS]
   rw [decide_eq_true ⟨hl,hr⟩]
  ·rw [if_neg (fun h=>hr fun w h2=>h w (Nat.zero_le _) h2)]
   simp only [OS]
   rw [decide_eq_false (fun h=>hr h.2)]
 ·rw [if_pos (by simp; omega),key]
  congr 1
  exact (decide_eq_false (fun h=>hl h.1)).symm
section
variable {l:List (List AE)}{g:List Ax}{o:List Int}(hg:FewR g) (h16:l.length<=16) (ho:o.length<=64) (hm:∀ v ∈ o,0<=v/\v < (g.length:Int))
include hg h16 ho hm
theorem Ww (c7:Int) (x:Int) (hx:0<=x/\x < (g.length:Int)) (ys:List Int) (hys:((o.take (o.length:Int).toNat).drop (wr .i64 (c7 + 1)).toNat)=ys) (hyo:∀ v ∈ ys,v ∈ o) (a:Int) (ha:0<=a/\a<=1000000) (hyl:ys.length<=64):Aq o (IV g.length (vt l g),true) c7 x 100000 a 0=some (a + Gg (fun y=>WI l g y x) ys):=by
 have _:=hg; have _:=ho
 have bnd:∀ k,0<=Gg (fun y=>WI l g y x) (ys.take k)/\Gg (fun y=>WI l g y x) (ys.take k)<=1024:=fun k=>by
  have:=Kj (f:=fun y=>WI l g y x) (B:=16) (l:=ys.take k) (fun y _=>R9 g h16 y x)
  have hk:(ys.take k).length<=64:=by simp; omega
  omega
 have h0:a + Gg (fun y=>WI l g y x) (ys.take 0)=a:=by simp [Gg]
 have h1:Aq o (IV g.length (vt l g),true) c7 x 100000 (a + Gg (fun y=>WI l g y x) (ys.take 0)) 0=some (a + Gg (fun y=>WI l g y x) ys):=by
  refine QG (σ:=Int) ys.length (fun k=>a + Gg (fun y=>WI l g y x) (ys.take k)) _ (fun f c s=>Aq o (IV g.length (vt l g),true) c7 x f s c) (by omega) (fun k hk f=>?_) (fun f=>?_)
  ·show Aq _ _ c7 x (f + 1) (a + Gg (fun y=>WI l g y x) (ys.take k)) (k:Int)=_
   conv=>lhs; unfold Aq
   have hb:=bnd k
   have hw:=R9 g h16 ys[k] x
   obtain ⟨r,r1,r2⟩:=Uj (l:=l) (hm ys[k] (hyo _ (List.getElem_mem hk))) hx
   rw [hys,if_pos (by simp; omega),Hu hk,OS,r1,OS,r2,OS,P9 (by omega) (by omega)]
   have e:Gg (fun y=>WI l g y x) (ys.take (k + 1))=Gg (fun y=>WI l g y x) (ys.take k) + WI l g ys[k] x:=by
    rw [List.take_succ_eq_append_getElem hk,O1]; simp [Gg]
   show Aq _ _ c7 x f _ _=Aq _ _ c7 x f _ _
   rw [e,Int.add_assoc]
  ·show Aq _ _ c7 x (f + 1) (a + Gg (fun y=>WI l g y x) (ys.take ys.length)) (ys.length:Int)=_
   conv=>lhs; unfold Aq
   rw [hys,if_neg (by simp),List.take_length]
 rwa [h0] at h1
theorem V0:0<=prS (WI l g) o/\prS (WI l g) o<=100000:=by
 have _:=hg; have _:=hm
 have:=Pp (W:=WI l g) (B:=16) (by omega) (l:=o) (fun x _ y _=>R9 g h16 x y)
 have h1:(o.length:Int) * ((o.length:Int) * 16)<=64 * (64 * 16):=by
  have:o.length * (o.length * 16)<=64 * (64 * 16):=Nat.mul_le_mul ho (Nat.mul_le_mul ho (Nat.le_refl _))
  exact_mod_cast this
 omega
theorem VH (r:List Int):∀ (pre:List Int) (f:Nat) (a:Int),o=pre++r->r.length < f->0<=a->a + prS (WI l g) r<=100000->Bx o (IV g.length (vt l g),true) f a (pre.length:Int)=some (a + prS (WI l g) r):=by
 induction r with
 | nil =>
  intro pre f a e hf _ _
  obtain ⟨f,rfl⟩:∃ q,f=q + 1:=⟨f - 1,by simp at hf; omega⟩
  unfold Bx
  rw [if_neg (by rw [e]; simp)]
  simp [prS]
 | cons x r ih =>
  intro pre f a e hf ha hb
  obtain ⟨f,rfl⟩:∃ q,f=q + 1:=⟨f - 1,by simp at hf; omega⟩
  simp only [List.length_cons] at hf
  have hl:o.length=pre.length + r.length + 1:=by rw [e]; simp; omega
  have hx:=hm x (by rw [e]; simp)
  have hsub:∀ v ∈ r,v ∈ o:=fun v hv=>by rw [e]; simp [hv]
  have hps:0<=prS (WI l g) r:=(Pp (W:=WI l g) (B:=16) (by omega) (l:=r) (fun x _ y _=>R9 g h16 x y)).1
  have hs:=Kj (f:=fun y=>WI l g y x) (B:=16) (l:=r) (fun y _=>R9 g h16 y x)
  simp only [prS] at hb ⊢
  unfold Bx
  have k1:0<=a/\a<=1000000:=by omega
  have k2:r.length<=64:=by omega
  have k3:0<=a + Gg (fun y=>WI l g y x) r:=by omega
  have k4:a + Gg (fun y=>WI l g y x) r + prS (WI l g) r<=100000:=by omega
  have k5:r.length < f:=by omega
  have k6:C7 ((pre.length + 1:Nat):Int) (o.length:Int) o.length=true:=by simp [C7]; omega
  have k7:(pre++x::r).length<=1000000000:=by rw [<-e]; omega
  have hw:wr .i64 ((pre.length:Int) + 1)=((pre.length + 1:Nat):Int):=by rw [P9 (by omega) (by omega)]; omega
  have hys:((o.take (o.length:Int).toNat).drop (wr .i64 ((pre.length:Int) + 1)).toNat)=r:=by
   rw [hw,Int.toNat_natCast,Int.toNat_natCast,List.take_length,e]
   rw [show pre++x::r=(pre++[x])++r by simp,show pre.length + 1=(pre++[x]).length by simp,List.drop_left]
  rw [if_pos (by rw [e]; exact HX pre x r),show idx o (pre.length:Int)=some x by rw [e,Es],OS,if_pos (by rw [hw]; exact k6),Ww hg h16 ho hm (pre.length:Int) x hx r hys hsub a k1 k2,OS,FM pre x r k7,ih (pre++[x]) f _ (by rw [e]; simp) k5 k3 k4,Int.add_assoc]
end
theorem Wv {l:List (List AE)}{g:List Ax}(hl:∀ c ∈ l,few c) (hg:FewR g) (h16:l.length<=16) (hv:okT l=true) (o:List Int) (ho:o.length<=64):A0 l g o=some (if Sd g.length o=true then prS (WI l g) o else 0):=by
 unfold A0
 rw [TC hl hg,if_pos ⟨h16,hv⟩,OS,if_neg (by simp),XK g.length o hg.n (by omega),OS,OS]
 by_cases hp:Sd g.length o=true
 ·have hm:=Ts hp
  have hb:=V0 hg h16 ho hm
  have:=VH hg h16 ho hm o [] 100000 0 rfl (by omega) (by omega) (by omega)
  rw [show ((([]:List Int).length:Nat):Int)=0 from rfl] at this
  rw [if_neg (by simp [hp]),if_pos hp,this]
  simp
 ·rw [if_pos (by simpa using hp),if_neg hp]
theorem Ux:((List.range 256).all fun n=>decide (0<=DO .u8 ((n:Int).fdiv 8) 3)&&decide (DO .u8 ((n:Int).fdiv 8) 3 < 4)&&(decide (0<=DO .u8 ((n:Int).fdiv 16) 3)&&decide (DO .u8 ((n:Int).fdiv 16) 3 < 4)))=true:=by kernel_rfl
theorem Xh {a:Int}(h:u8 a):(0<=DO .u8 (a.fdiv 8) 3/\DO .u8 (a.fdiv 8) 3 < 4)/\0<=DO .u8 (a.fdiv 16) 3/\DO .u8 (a.fdiv 16) 3 < 4:=by
 obtain ⟨n,rfl⟩:=Int.eq_ofNat_of_zero_le h.1
 have hn:n < 256:=by have:=h.2; omega
 have:=List.all_eq_true.1 Ux n (by simpa using hn)
 simp only [Bool.and_eq_true,decide_eq_true_eq] at this
 exact ⟨this.1,this.2⟩
theorem VU (x:Int×Int) (nm:List UInt8) (h1:u8 x.1):∃ r,FP x nm=some r/\r.1=x.1/\r.2.1=x.2:=by
 obtain ⟨⟨a1,a2⟩,_⟩:=Xh h1
 obtain ⟨d1,d2⟩:=WP a1 a2
 unfold FP
 by_cases hc:((DO .u8 x.1 4)!=0)=true
 ·rw [if_pos hc,if_pos d1,if_pos d2]; exact ⟨_,rfl,rfl,rfl⟩
 ·rw [if_neg hc]; exact ⟨_,rfl,rfl,rfl⟩
theorem VV (r) (h2:u8 r.2.1):∃ r',FQ r=some r'/\r'.1=r.1/\r'.2.1=r.2.1:=by
 obtain ⟨⟨a1,a2⟩,_⟩:=Xh h2
 obtain ⟨d1,d2⟩:=WP a1 a2
 unfold FQ
 by_cases hc:((DO .u8 r.2.1 4)!=0)=true
 ·rw [if_pos hc,if_pos d1,if_pos d2]; exact ⟨_,rfl,rfl,rfl⟩
 ·rw [if_neg hc]; exact ⟨_,rfl,rfl,rfl⟩
theorem VW (r) (h1:u8 r.1):∃ r',FR r=some r'/\r'.1=r.1/\r'.2.1=r.2.1/\r'.2.2.2.2.2.2.2.2.2.2.2.2.2.2.2.2.2.2.length<=1:=by
 obtain ⟨_,a1,a2⟩:=Xh h1
 obtain ⟨d1,d2⟩:=WP a1 a2
 unfold FR
 by_cases hc:((DO .u8 r.2.1 64)!=0)=true
 ·rw [if_pos hc,if_pos d1,if_pos d2]; exact ⟨_,rfl,rfl,rfl,by simp⟩
 ·rw [if_neg hc]; exact ⟨_,rfl,rfl,rfl,by simp⟩
theorem VX (r) (h2:u8 r.2.1):∃ r',FS r=some r'/\r'.2.2.2.2.2.2.2.2.2.2.2.2.2.2.2.2=r.2.2.2.2.2.2.2.2.2.2.2.2.2.2.2.2.2.2:=by
 obtain ⟨_,a1,a2⟩:=Xh h2
 obtain ⟨d1,d2⟩:=WP a1 a2
 unfold FS
 by_cases hc:((DO .u8 r.1 128)!=0)=true
 ·rw [if_pos hc,if_pos d1,if_pos d2]; exact ⟨_,rfl,rfl⟩
 ·rw [if_neg hc]; exact ⟨_,rfl,rfl⟩
theorem Tq (x:Int×Int) (nm:List UInt8) (h1:u8 x.1) (h2:u8 x.2):∃ g,Fg x nm=some g/\TP g:=by
 obtain ⟨r1,e1,p1,q1⟩:=VU x nm h1
 obtain ⟨r2,e2,p2,q2⟩:=VV r1 (q1 ▸ h2)
 obtain ⟨r3,e3,p3,q3,t3⟩:=VW r2 (by rw [p2,p1]; exact h1)
 obtain ⟨r4,e4,t4⟩:=VX r3 (by rw [q3,q2,q1]; exact h2)
 refine ⟨r4.2.2.2.2.2.2.2.2,?_,?_⟩
 ·unfold Fg
  rw [e1,OS,e2,OS,e3,OS,e4]; rfl
 ·unfold TP
  rw [t4]; omega
theorem ok3 (a b:Int):okB ([103]++by8 [a,b])=true:=rfl
theorem Pb (x0:List (Int×Int)) (n:Int) (ys:List (Int×Int)) (hys:((x0.take (mnI (x0.length:Int) n).toNat).drop (0:Int).toNat)=ys) (hb:∀ v ∈ ys,u8 v.1/\u8 v.2) (h20:ys.length<=20):∀ (r pre:List (Int×Int)) (c2:List Ax) (f:Nat),ys=pre++r->r.length < f->c2.length=pre.length->(∀ g ∈ c2,TP g) ->
  ∃ c,DB x0 n f c2 (pre.length:Int)=some c/\(∀ g ∈ c,TP g)/\c.length=ys.length
 | [],pre,c2,f + 1,e,_,hl,hk=>by
  refine ⟨c2,?_,hk,by rw [hl,e]; simp⟩
  unfold DB
  rw [hys,if_neg (by rw [e]; simp)]
 | v::r,pre,c2,f + 1,e,hf,hl,hk=>by
  have hv:=hb v (by rw [e]; simp)
  have hl2:ys.length=pre.length + r.length + 1:=by rw [e]; simp; omega
  simp only [List.length_cons] at hf
  obtain ⟨g,hg,hgf⟩:=Tq (v.1,v.2) ([103]++(by8 [(wr .u8 (wr .i64 (97 + (wr .i64 ((pre.length:Int).tdiv 26))))),(wr .u8 (wr .i64 (97 + ((pre.length:Int).tmod 26))))])) hv.1 hv.2
  obtain ⟨c,q1,q2,q3⟩:=Pb x0 n ys hys hb h20 r (pre++[v]) (c2++[g]) f (by rw [e]; simp) (by omega) (by simp [hl]) (fun y hy=>by
   rcases List.mem_append.1 hy with hy | hy
   ·exact hk y hy
   ·rw [List.mem_singleton.1 hy]; exact hgf)
  refine ⟨c,?_,q2,q3⟩
  rw [<-q1]
  conv=>lhs; unfold DB
  rw [hys,if_pos (by rw [e]; exact HX pre v r),show idx ys (pre.length:Int)=some v by rw [e,Es],OS,if_pos (ok3 _ _),hg,OS,if_pos (Il (by omega) (by omega)),FM pre v r (by rw [<-e]; omega)]
/-- Not after in lexicographic order (of the same length). -/
def QT:List Int->List Int->Bool
 | x::a,y::b=>decide (x < y)||(decide (x=y)&&QT a b)
 | _,_=>true
theorem N9 {F:Int->Option (Int×List Int)}:∀ {l:List Int}{s:Option (Int×List Int)}{q:Int×List Int},l.foldl (fun s x=>mrg s (F x)) s=some q->(s=some q/\∀ y ∈ l,∀ p,F y=some p->q.1<=p.1)\/∃ l1 x l2,l=l1++x::l2/\F x=some q/\(∀ y ∈ l1,∀ p,F y=some p->q.1 < p.1)/\(∀ y ∈ l2,∀ p,F y=some p->q.1<=p.1)/\∀ a,s=some a->q.1 < a.1
 | [],s,q,h=> .inl ⟨h,fun y hy=>by cases hy⟩
 | x::l,s,q,h=>by
  rw [List.foldl_cons] at h
  rcases N9 h with ⟨h1,h2⟩ | ⟨l1,x',l2,e,h1,h2,h3,h4⟩
  ·cases s with
   | none =>
    rw [T5] at h1
    exact .inr ⟨[],x,l,rfl,h1,fun y hy=>(by cases hy),h2,fun a ha=>(by cases ha)⟩
   | some a =>
    cases hF:F x with
    | none =>
     rw [hF,T2] at h1
     refine .inl ⟨h1,fun y hy p hp=>?_⟩
     rcases List.mem_cons.1 hy with e | hy
     ·subst e; rw [hF] at hp; cases hp
     ·exact h2 y hy p hp
    | some b =>
     rw [hF] at h1
     simp only [mrg,Option.some.injEq] at h1
     by_cases hb:b.1 < a.1
     ·rw [if_pos hb] at h1
      subst h1
      exact .inr ⟨[],x,l,rfl,hF,fun y hy=>(by cases hy),h2,fun c hc=>by obtain rfl:=OI hc; exact hb⟩
     ·rw [if_neg hb] at h1
      subst h1
      refine .inl ⟨rfl,fun y hy p hp=>?_⟩
      rcases List.mem_cons.1 hy with e | hy
      ·subst e
       rw [hF] at hp
       obtain rfl:=OI hp
       omega
      ·exact h2 y hy p hp
  ·refine .inr ⟨x::l1,x',l2,by rw [e]; rfl,h1,fun y hy p hp=>?_,h3,fun a ha=>?_⟩
   ·rcases List.mem_cons.1 hy with e' | hy
    ·subst e'
     rw [hp] at h4
     cases s with
     | none=>exact h4 p rfl
     | some a =>
      have:=h4 _ rfl
      by_cases hb:p.1 < a.1
      ·rw [if_pos hb] at this; exact this
      ·rw [if_neg hb] at this; omega
    ·exact h2 y hy p hp
   ·subst ha
    cases hF:F x with
    | none=>rw [hF] at h4; exact h4 a rfl
    | some b =>
     rw [hF] at h4
     have:=h4 _ rfl
     by_cases hb:b.1 < a.1
     ·rw [if_pos hb] at this; omega
     ·rw [if_neg hb] at this; exact this
theorem Wi {W:Int->Int->Int}:∀ (k:Nat){l:List Int}{q:Int×List Int},l.length=k->l.Pairwise (fun a b=>a < b)->BB W k l=some q->∀ o:List Int,o.Perm l->q.1<=prS W o/\(q.1=prS W o->QT q.2 o=true)
 | 0,l,q,h,_,e,o,ho=>by
  have hl:l=[]:=List.eq_nil_of_length_eq_zero h
  subst hl
  unfold BB at e
  obtain rfl:=OI e
  have:o=[]:=List.eq_nil_of_length_eq_zero (by rw [ho.length_eq]; rfl)
  subst this
  exact ⟨Int.le_refl _,fun _=>rfl⟩
 | k + 1,l,q,h,hs,e,o,ho=>by
  cases o with
  | nil=>have:=ho.length_eq; rw [h] at this; cases this
  | cons y w =>
   obtain ⟨hy,hw⟩:=List.cons_perm_iff_perm_erase.1 ho
   have hle:∀ z ∈ l,(l.erase z).length=k:=fun z hz=>by rw [List.length_erase_of_mem hz]; omega
   obtain ⟨p',hp'⟩:=OY W k (l.erase y) (hle y hy)
   obtain ⟨i1,i2⟩:=Wi k (hle y hy) (List.Pairwise.sublist List.erase_sublist hs) hp' w hw
   have hD:prS W (y::w)=Gg (fun z=>W z y) (l.erase y) + prS W w:=by
    simp only [prS]
    rw [NH hw]
   unfold BB at e
   rcases N9 e with ⟨e1,_⟩ | ⟨l1,x,l2,el,e1,e2,e3,_⟩
   ·cases e1
   ·have hG:((BB W k (l.erase y)).map (shf (Gg (fun z=>W z y) (l.erase y)) y))=some (shf (Gg (fun z=>W z y) (l.erase y)) y p'):=by rw [hp']; rfl
    have hq2:∃ o',q.2=x::o':=by
     obtain ⟨q',_,h2⟩:=Option.map_eq_some_iff.1 e1
     exact ⟨q'.2,by rw [<-h2]; rfl⟩
    rw [hD]
    have hy':y ∈ l1\/y=x\/y ∈ l2:=by
     rw [el] at hy
     rcases List.mem_append.1 hy with h | h
     ·exact .inl h
     ·exact .inr (List.mem_cons.1 h)
    rcases hy' with hy' | hy' | hy'
    ·have:=e2 y hy' _ hG
     simp only [shf] at this
     exact ⟨by omega,fun h=>by omega⟩
    ·subst hy'
     rw [hG] at e1
     obtain rfl:=OI e1
     simp only [shf]
     refine ⟨by omega,fun h=>?_⟩
     have:=i2 (by omega)
     simp [QT,this]
    ·have h5:=e3 y hy' _ hG
     simp only [shf] at h5
     refine ⟨by omega,fun h=>?_⟩
     have hxy:x < y:=by
      rw [el] at hs
      exact List.rel_of_pairwise_cons (List.pairwise_append.1 hs).2.1 hy'
     obtain ⟨o',ho'⟩:=hq2
     rw [ho']
     simp [QT,hxy]
theorem Qg (n:Nat):(P1 n).Pairwise (fun a b=>a < b):=by
 unfold P1
 exact List.Pairwise.map (fun (i:Nat)=>(i:Int)) (fun a b h=>by omega) List.pairwise_lt_range
theorem M3 {n:Nat}{o:List Int}(h:o.Perm (P1 n)):Sd n o=true:=by
 have hl:o.length=n:=by rw [h.length_eq,Gj]
 have:=(Uk n o).2 ⟨hl,fun w hw=>h.mem_iff.2 (MV.2 ⟨by omega,by omega⟩)⟩
 unfold Sd
 rw [this.1,decide_eq_true this.2]; rfl
/-- The guests, with their number. -/
theorem Tr (x0:List (Int×Int)) (n:Nat) (hn:n<=20) (hb:∀ v ∈ x0,u8 v.1/\u8 v.2):∃ c,EO x0 (n:Int)=some c/\FewR c/\c.length<=n:=by
 have hm:0<=mnI (x0.length:Int) n/\mnI (x0.length:Int) n<=n/\mnI (x0.length:Int) n<=x0.length:=by
  unfold mnI
  split <;> omega
 have h8:((x0.take (mnI (x0.length:Int) n).toNat).drop (0:Int).toNat).length<=n:=by
  rw [List.length_drop,List.length_take]; omega
 obtain ⟨c,h1,h2,h3⟩:=Pb x0 n _ rfl (fun v hv=>hb v (List.mem_of_mem_take (List.mem_of_mem_drop hv))) (Nat.le_trans h8 hn) _ [] [] 100000 rfl (Nat.lt_of_le_of_lt h8 (by omega)) rfl (fun g hg=>by simp at hg)
 refine ⟨c,?_,⟨by omega,h2⟩,by omega⟩
 unfold EO
 rw [if_pos (by unfold C7; simp; omega)]
 have e:DB x0 n 100000 [] 0=some c:=h1
 rw [e]; rfl
/-- Texts that are made, one after the other. -/
theorem VF (ys:List (List (Int×Int×Int×Bool×Bool))) (hy:ys.length<=5) (hb:∀ x ∈ ys,∀ v ∈ x,PM v) (L:Nat->Int->List (List AE)->Option (List (List AE)))
  (hs:∀ (pre:List (List (Int×Int×Int×Bool×Bool))) v r,ys=pre++v::r->∀ f st,L (f + 1) (pre.length:Int) st=(Fl v).bind fun v9=>if (Fa 24 (st.length + ([v9]:List (List AE)).length))=true then L f (wr .i64 ((pre.length:Int) + 1)) (st++[v9]) else none)
  (he:∀ f st,L (f + 1) (ys.length:Int) st=some st):∃ c,L 100000 0 []=some c/\(∀ x ∈ c,few x)/\okT c=true/\c.length=ys.length:=by
 have go:∀ (r pre:List (List (Int×Int×Int×Bool×Bool))) (f:Nat) (st:List (List AE)),ys=pre++r->r.length < f->st.length=pre.length->(∀ x ∈ st,few x)->okT st=true->∃ c,L f (pre.length:Int) st=some c/\(∀ x ∈ c,few x)/\okT c=true/\c.length=ys.length:=by
  intro r
  induction r with
  | nil =>
   intro pre f st e hf hl h1 h2
   obtain ⟨f,rfl⟩:∃ q,f=q + 1:=⟨f - 1,by simp at hf; omega⟩
   have e':ys=pre:=by rw [e]; simp
   subst e'
   exact ⟨st,he f st,h1,h2,hl⟩
  | cons v r ih =>
   intro pre f st e hf hl h1 h2
   obtain ⟨f,rfl⟩:∃ q,f=q + 1:=⟨f - 1,by simp at hf; omega⟩
   simp only [List.length_cons] at hf
   have hl2:ys.length=pre.length + r.length + 1:=by rw [e]; simp; omega
   obtain ⟨c,c1,c2,c3,c4⟩:=Vk v (hb v (by rw [e]; simp))
   have hc:(Oe c).2=0:=by rw [VT (by omega) c3]
   obtain ⟨d,d1,d2⟩:=ih (pre++[v]) f (st++[c]) (by rw [e]; simp) (by omega) (by simp [hl]) (fun x hx=>by
    rcases List.mem_append.1 hx with hx | hx
    ·exact h1 x hx
    ·rw [List.mem_singleton.1 hx]; exact c2) (by unfold okT at h2 ⊢; rw [List.all_append,h2]; simp [hc])
   refine ⟨d,?_,d2⟩
   rw [hs pre v r e f st,c1,OS,if_pos (Il (by omega) (by simp; omega)),FM pre v r (by rw [<-e]; omega)]
   exact d1
 exact go ys [] 100000 [] rfl (by omega) rfl (fun x hx=>by cases hx) rfl
/-- The first error of texts. -/
def Tj:List (List AE)->Int
 | []=>0
 | c::r=>if (Oe c).2=0 then Tj r else (Oe c).2
theorem SQ:∀ l:List (List AE),okT l=true↔Tj l=0
 | []=>by simp [okT,Tj]
 | c::r=>by
  have:=SQ r
  unfold Tj
  by_cases h:(Oe c).2=0
  ·rw [if_pos h,<-this]; simp [okT,h]
  ·rw [if_neg h]; simp [okT,h]
/- trestle/court.Inversions$1 -/
/- slices.IndexFunc[[]int,int] -/
/- slices.ContainsFunc[[]int,int] -/
/- trestle/court.Inversions -/
/-- How many stand behind x and below it. -/
def U1 (x:Int) (r:List Int):Nat:=r.countP fun y=>decide (x > y)
def inv:List Int->Nat
 | []=>0
 | x::r=>U1 x r + inv r
section
variable (cl od:List Int)
end
/- trestle/trestlelaw03.compromises -/
/- trestle/trestlelaw03.CourtCompromises -/
theorem Wn {l:List (List AE)}(g:List Ax) (hl:∀ c ∈ l,few c) (hn:l.length<=99999):CA l g 100000 0=some (if Tj l=0 then .inl () else .inr (0,Tj l)):=by
 have go:∀ (r pre:List (List AE)) (f:Nat),l=pre++r->r.length < f->CA l g f (pre.length:Int)=some (if Tj r=0 then .inl () else .inr (0,Tj r)):=by
  intro r
  induction r with
  | nil =>
   intro pre f e hf
   obtain ⟨f,rfl⟩:∃ q,f=q + 1:=⟨f - 1,by simp at hf; omega⟩
   unfold CA
   rw [if_neg (by rw [e]; simp)]; rfl
  | cons c r ih =>
   intro pre f e hf
   obtain ⟨f,rfl⟩:∃ q,f=q + 1:=⟨f - 1,by simp at hf; omega⟩
   have hl2:l.length=pre.length + r.length + 1:=by rw [e]; simp; omega
   simp only [List.length_cons] at hf
   unfold CA
   rw [if_pos (by rw [e]; exact HX pre c r),show idx l (pre.length:Int)=some c by rw [e,Es],OS,SI c (hl c (by rw [e]; simp)),OS]
   unfold Tj
   by_cases h:(Oe c).2=0
   ·rw [if_neg (by simp [h]),if_pos h,FM pre c r (by rw [<-e]; omega)]
    exact ih (pre++[c]) f (by rw [e]; simp) (by omega)
   ·rw [if_pos (by simp [h]),if_neg h,if_neg h]
 exact go l [] 100000 rfl (by omega)
theorem Ws {l:List (List AE)}{g:List Ax}(hl:∀ c ∈ l,few c) (h16:l.length<=16) (hv:okT l=true) (hg:FewR g) (hn:g.length<=7){q:Int×List Int}(hq:BB (WI l g) g.length (P1 g.length)=some q):DH l g=some (q.2,q.1,0):=by
 obtain ⟨a1,a2,a3⟩:=RW g.length (by omega)
 have hW:∀ x y,0<=WI l g x y/\WI l g x y<=16:=fun x y=>by
  have:=WC l g x.toNat y.toNat
  unfold WI
  omega
 have h0:∀ x:Nat,x < g.length->WI l g (x:Int) (x:Int)=0:=fun x hx=>by
  unfold WI vt
  rw [Int.toNat_natCast]
  have:(l.countP fun c=>cm c g x x == -1)=0:=by
   rw [List.countP_eq_zero]
   intro c hc
   have h1:(Oe c).2=0:=by simpa using List.all_eq_true.1 hv c hc
   rw [Ye (Ml h1).2 (by omega)]
   simp
  rw [this]; rfl
 have hT:∀ u v:Int,0<=u/\u < g.length->0<=v/\v < g.length->∃ r,idx (IV g.length (vt l g)) u=some r/\idx r v=some (WI l g u v):=fun u v hu hv=>Uj hu hv
 have hI:Us (WI l g) g.length (2 ^ g.length - 1) (List.replicate (2 ^ g.length) 0) (List.replicate (2 ^ g.length) 0):=by
  refine ⟨List.length_replicate,List.length_replicate,fun s h1 h2=>?_⟩
  have he:=(RH g.length (by omega) s h2).2 (by omega)
  exact ⟨(0,[]),by rw [he]; rfl,by simp [h2],fun h=>absurd he h⟩
 obtain ⟨cs,nx,e1,e2⟩:=Yi (b:=true) hn hW h0 hT (2 ^ g.length - 1) 100000 _ _ hI (by omega) (by omega)
 have hr0:RN g.length 0=P1 g.length:=Yz g.length (by omega)
 have hl0:(RN g.length 0).length=g.length:=by rw [hr0,Gj]
 have e3:=Yj hn cs nx e2 g.length 0 100000 [] q hl0 a3 (by rw [hr0]; exact hq) (by omega) (by simp; omega)
 obtain ⟨q',q1,q2,_⟩:=e2.2.2 0 (Nat.le_refl _) a3
 rw [hl0,hr0,hq] at q1
 obtain rfl:=OI q1
 have hc0:idx cs 0=some q.1:=by
  obtain ⟨hlt,e⟩:=List.getElem?_eq_some_iff.1 q2
  have:=Hu hlt
  rw [e] at this
  exact this
 have w1:wr .i64 (((2 ^ g.length - 1:Nat):Int) + 1)=((2 ^ g.length:Nat):Int):=by rw [P9 (by omega) (by omega)]; omega
 have w2:wr .i64 (((2 ^ g.length - 1:Nat):Int) - 1)=((2 ^ g.length - 1:Nat):Int) - 1:=P9 (by omega) (by omega)
 have he:=(SQ l).1 hv
 have mk:Nx 8 ((2 ^ g.length:Nat):Int)=true:=by
  generalize 2 ^ g.length=z at a2 a3
  simp [Nx]; omega
 unfold DH
 rw [if_neg (by simp; omega),Wn g hl (by omega),if_pos he,OS]
 simp only []
 rw [if_neg (by simp; omega),TC hl hg,if_pos ⟨h16,hv⟩,OS,if_pos (by simp),a1,w1,w2,if_pos mk,if_pos mk,Int.toNat_natCast,e1,OS]
 have e3':CB g (cs,nx) 100000 [] 0=some ([]++q.2):=e3
 rw [e3',OS]
 show (idx cs 0).bind _=_
 rw [hc0]; rfl
theorem Rh (a b:List Int) (hl:a.length=b.length) (h:QT b a=true) (hn:a.length<=99999):∃ v,Bw a b=some v/\0<=v:=by
 have go:∀ (r r' pre:List Int) (f:Nat),a=pre++r->b=pre++r'->r.length=r'.length->QT r' r=true->r.length < f->∃ t,A4 a b f (pre.length:Int)=some t/\(t = .inl ()\/t = .inr 1):=by
  intro r
  induction r with
  | nil =>
   intro r' pre f e e' _ _ hf
   obtain ⟨f,rfl⟩:∃ q,f=q + 1:=⟨f - 1,by simp at hf; omega⟩
   refine ⟨.inl (),?_,.inl rfl⟩
   unfold A4
   rw [if_neg (by rw [e]; simp)]
  | cons x r ih =>
   intro r' pre f e e' hlr hx hf
   obtain ⟨f,rfl⟩:∃ q,f=q + 1:=⟨f - 1,by simp at hf; omega⟩
   simp only [List.length_cons] at hf
   cases r' with
   | nil=>cases hlr
   | cons y r' =>
    have hla:a.length=pre.length + r.length + 1:=by rw [e]; simp; omega
    have hstep:A4 a b (f + 1) (pre.length:Int)=if (Ij x y != 0)=true then some (.inr (Ij x y)) else A4 a b f ((pre++[x]).length:Int):=by
     conv=>lhs; unfold A4
     rw [if_pos (by rw [e]; exact HX pre x r),show idx a (pre.length:Int)=some x by rw [e,Es],OS,if_neg (by rw [<-hl]; simp; omega),show idx b (pre.length:Int)=some y by rw [e',Es],OS,SL,OS,FM pre x r (by rw [<-e]; omega)]
    rw [hstep]
    simp only [QT,Bool.or_eq_true,Bool.and_eq_true,decide_eq_true_eq] at hx
    rcases hx with hx | ⟨hx,hx2⟩
    ·have:Ij x y=1:=by unfold Ij; rw [if_neg (by omega),if_pos (by omega)]
     rw [this]
     exact ⟨_,rfl,.inr rfl⟩
    ·subst hx
     have:Ij y y=0:=by unfold Ij; rw [if_neg (by omega),if_neg (by omega)]
     rw [this,if_neg (by simp)]
     exact ih r' (pre++[y]) f (by rw [e]; simp) (by rw [e']; simp) (by simpa using hlr) hx2 (by omega)
 obtain ⟨t,t1,t2⟩:=go a b [] 100000 rfl rfl hl h (by omega)
 have t1':A4 a b 100000 0=some t:=t1
 unfold Bw
 rw [t1',OS]
 rcases t2 with rfl | rfl
 ·refine ⟨0,?_,Int.le_refl _⟩
  simp only []
  rw [if_neg (by rw [hl]; simp)]
 ·exact ⟨1,rfl,by decide⟩
/-- Two that change places. -/
theorem XS (g:List Ax) (o:List Int) (hol:o.length=g.length) (v:Int×Int) (hv:u8 v.1/\u8 v.2):∃ o',Dg g o v=some o'/\o'.Perm o:=by
 unfold Dg
 unfold u8 at hv
 by_cases h0:g.length=0
 ·exact ⟨o,by rw [if_neg (by rw [decide_eq_true_eq]; omega)],List.Perm.refl _⟩
 ·have w1:wr .i64 v.1=v.1:=P9 (by omega) (by omega)
  have w2:wr .i64 v.2=v.2:=P9 (by omega) (by omega)
  have r1:0<=v.1.tmod (g.length:Int)/\v.1.tmod (g.length:Int) < g.length:=⟨Int.tmod_nonneg _ (by omega),Int.tmod_lt_of_pos _ (by omega)⟩
  have r2:0<=v.2.tmod (g.length:Int)/\v.2.tmod (g.length:Int) < g.length:=⟨Int.tmod_nonneg _ (by omega),Int.tmod_lt_of_pos _ (by omega)⟩
  rw [w1,w2]
  obtain ⟨i,hi⟩:∃ i:Nat,v.1.tmod (g.length:Int)=(i:Int):=⟨_,(Int.toNat_of_nonneg r1.1).symm⟩
  obtain ⟨j,hj⟩:∃ j:Nat,v.2.tmod (g.length:Int)=(j:Int):=⟨_,(Int.toNat_of_nonneg r2.1).symm⟩
  rw [hi] at r1
  rw [hj] at r2
  have hi':i < o.length:=by omega
  have hj':j < o.length:=by omega
  rw [hi,hj,if_pos (by simp; omega),if_neg (by omega),if_neg (by omega),Hu hj',OS,Hu hi',OS,OS,Int.toNat_natCast,Int.toNat_natCast,Hu (by rw [List.length_set]; exact hj'),OS]
  exact ⟨_,rfl,List.set_set_perm hi' hj'⟩
theorem Si (l:List (List (Int×Int×Int×Bool×Bool))) (p s:List (Int×Int)) (hl:∀ x ∈ l,∀ v ∈ x,PM v) (hp:∀ v ∈ p,u8 v.1/\u8 v.2) (hs:∀ v ∈ s,u8 v.1/\u8 v.2):DK l p s=some true:=by
 obtain ⟨g,g1,hg,hn⟩:=Tr p 7 (by omega) hp
 have hm:0<=mnI (l.length:Int) 5/\mnI (l.length:Int) 5<=5/\mnI (l.length:Int) 5<=l.length:=by
  unfold mnI
  split <;> omega
 have hms:0<=mnI (s.length:Int) 12/\mnI (s.length:Int) 12<=12/\mnI (s.length:Int) 12<=s.length:=by
  unfold mnI
  split <;> omega
 obtain ⟨c,c1,c2,c3,c4⟩:=VF ((l.take (mnI (l.length:Int) 5).toNat).drop (0:Int).toNat) (by rw [List.length_drop,List.length_take]; omega) (fun x hx=>hl x (List.mem_of_mem_take (List.mem_of_mem_drop hx))) (fun f i st=>Be l f i st) (fun pre v r e f st=>by
  show Be l (f + 1) (pre.length:Int) st=_
  conv=>lhs; unfold Be
  rw [if_pos (by rw [e]; exact HX pre v r)]
  rw [show idx ((l.take (mnI (l.length:Int) 5).toNat).drop (0:Int).toNat) (pre.length:Int)=some v by rw [e,Es],OS]) (fun f st=>by
  show Be l (f + 1) _ st=_
  conv=>lhs; unfold Be
  rw [if_neg (by simp)])
 have c16:c.length<=16:=by rw [c4,List.length_drop,List.length_take]; omega
 obtain ⟨q,hq⟩:=OY (WI c g) g.length (P1 g.length) (Gj _)
 obtain ⟨q1,q2⟩:=PJ g.length (Gj _) hq
 have ql:q.2.length=g.length:=by rw [q1.length_eq,Gj]
 -- the exchanges
 have go:∀ (r pre:List (Int×Int)) (f:Nat) (o:List Int),((s.take (mnI (s.length:Int) 12).toNat).drop (0:Int).toNat)=pre++r->r.length < f->o.Perm (P1 g.length)->∃ o',Bt s g f (pre.length:Int) o=some o'/\o'.Perm (P1 g.length):=by
  intro r
  induction r with
  | nil =>
   intro pre f o e hf ho
   obtain ⟨f,rfl⟩:∃ q,f=q + 1:=⟨f - 1,by simp at hf; omega⟩
   refine ⟨o,?_,ho⟩
   unfold Bt
   rw [if_neg (by rw [e]; simp)]
  | cons v r ih =>
   intro pre f o e hf ho
   obtain ⟨f,rfl⟩:∃ q,f=q + 1:=⟨f - 1,by simp at hf; omega⟩
   simp only [List.length_cons] at hf
   have hle:(pre++v::r).length<=1000:=by rw [<-e,List.length_drop,List.length_take]; omega
   obtain ⟨o1,e1,p1⟩:=XS g o (by rw [ho.length_eq,Gj]) v (hs v (List.mem_of_mem_take (List.mem_of_mem_drop (by rw [e]; simp))))
   obtain ⟨o2,e2,p2⟩:=ih (pre++[v]) f o1 (by rw [e]; simp) (by omega) (p1.trans ho)
   refine ⟨o2,?_,p2⟩
   unfold Bt
   rw [if_pos (by rw [e]; exact HX pre v r),show idx ((s.take (mnI (s.length:Int) 12).toNat).drop (0:Int).toNat) (pre.length:Int)=some v by rw [e,Es],OS,e1,OS,FM pre v r (by omega)]
   exact e2
 obtain ⟨o,o1,o2⟩:=go _ [] 100000 q.2 rfl (by first | (rw [List.length_drop,List.length_take]; omega) | (rw [List.length_take]; omega)) q1
 have o1':Bt s g 100000 0 q.2=some o:=o1
 have ol:o.length=g.length:=by rw [o2.length_eq,Gj]
 obtain ⟨b1,b2⟩:=Wi g.length (Gj _) (Qg _) hq o o2
 have d1:A0 c g o=some (prS (WI c g) o):=by rw [Wv c2 hg c16 c3 o (by omega),if_pos (M3 o2)]
 have d2:A0 c g q.2=some q.1:=by rw [Wv c2 hg c16 c3 q.2 (by omega),if_pos (M3 q1),q2]
 have c1':Be l 100000 0 []=some c:=c1
 unfold DK
 have g1':EO p 7=some g:=g1
 rw [g1',OS,if_pos (by unfold C7; simp; omega),c1',OS,Ws c2 c16 c3 hg hn hq,OS]
 show ((if ((0:Int)!=0)=true then some true else (Ca q.2 (g.length:Int)).bind fun v30=>some (!v30)).bind _)=_
 rw [if_neg (by simp),XL g.length q.2 (by omega) (by omega),M3 q1,OS,OS,if_neg (by simp)]
 show (if (Fa 8 q.2.length)=true then _ else none)=_
 rw [if_pos (Il (by omega) (by omega)),if_pos (by unfold C7; simp; omega)]
 show ((Bt s g 100000 0 q.2).bind _)=_
 rw [o1',OS,d1,OS]
 show ((if (decide (prS (WI c g) o≥q.1))=true then if (decide (prS (WI c g) o > q.1))=true then (A0 c g q.2).bind fun v77=>if (v77==q.1)=true then Hv.bind fun v78=>some v78 else some false else (Bw o q.2).bind fun v79=>if (decide (v79≥0))=true then (A0 c g q.2).bind fun v80=>if (v80==q.1)=true then Hv.bind fun v81=>some v81 else some false else some false else some false).bind fun j82=>some j82)=_
 rw [if_pos (by simp; omega),d2]
 by_cases hlt:prS (WI c g) o > q.1
 ·rw [if_pos (by simpa using hlt),OS,if_pos (by simp)]; rfl
 ·obtain ⟨v,v1,v2⟩:=Rh o q.2 (by omega) (b2 (by omega)) (by omega)
  rw [if_neg (by simpa using hlt),v1,OS,if_pos (by simpa using v2),OS,if_pos (by simp)]; rfl
end Go.Proofs.YtlalcoehgkmhlaaGreatDoor
namespace Go.Proofs.YtlalcoehgkmhlaaGreatDoor
open Go.RowKit Go.ChangeShapes Go.WideShapes Go.Deep
theorem V1 {α:Type}{P:Program}{c:Cd α}{t e:TypeId}{good:α->Prop}{hn:∀ x,((csC c (csE c)).enc x).all KX=true}(ht:P.underlying t=some (.array 2 e)) (hl:P.cellsOf t=2) (hc:P.cellsOf e=1) (hs:∀ a,((csC c (csE c)).enc a).length=2) (he:∀ a,elm ((csC c (csE c)).enc a) = .ag ((csC c (csE c)).enc a)) (h1:∀ a,(c.enc a).cel=[c.enc a]) (r:Rc P c e good):Rc P (cdA (csC c (csE c)) hn) t (fun x=>good x.1/\good x.2):=⟨fun a=>he a,fun a=>(hs a).trans hl.symm,fun {H enc w base spare held fuel cs x} h hw=>by
 obtain ⟨xs,m,_,rfl,hlc,hlx,hf⟩:=DataW.trod_array ht h
 simp only [DataW.weights,ht] at hw
 have r2 : Rf P (csC c (csE c)) [Field.mk "" e 0 false "" "" 0, Field.mk "" e 1 false "" "" 0] 0 (fun x => good x.1 ∧ good x.2) := Lt r rfl hc h1 (S4 r rfl hc h1)
 obtain ⟨a,k1,k2,k3⟩:=r2.rd (cs:=cs) (xs:=xs) (n:=m) (by rw [hlc,hl]; rfl) (by rw [hlx]; rfl) (fun j f hj=>by
  match j,hj with
  | 0,hj =>
   obtain rfl:=OI hj
   have:=hf 0 (by omega)
   rw [Nat.zero_mul] at this
   exact this
  | 1,hj =>
   obtain rfl:=OI hj
   have:=hf 1 (by omega)
   rw [Nat.one_mul,hc] at this
   rw [hc]
   exact this) (by
  match xs,hlx with
  | [y,z],_ =>
   simp only [List.map_cons,List.map_nil,DataW.weightsAll,DataW.weightsEach] at hw ⊢
   exact hw)
 exact ⟨a,k1,k2,k3⟩⟩
end Go.Proofs.YtlalcoehgkmhlaaGreatDoor
