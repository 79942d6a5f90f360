/- Lemmas for the proof. -/
import Derived.Test.YtlalcoehgkmhlaaGreatDoorCourtGroupsM1
import Derived.Test.YtlalcoehgkmhlaaGreatDoorCourtGroupsM2
import Derived.Test.YtlalcoehgkmhlaaGreatDoorCourtGroupsM3
import Derived.Test.YtlalcoehgkmhlaaGreatDoorCourtGroupsM4
import Derived.Test.YtlalcoehgkmhlaaGreatDoorCourtGroupsM5
import Derived.Test.YtlalcoehgkmhlaaGreatDoorCourtGroupsM6
set_option maxHeartbeats 4000000
set_option maxRecDepth 100000
namespace Go.Proofs.YtlalcoehgkmhlaaGreatDoor
open Go.RowKit
def isT (r:Option (AV×Hp)):Bool:=match r with
 | some (.v (.bool true),_)=>true
 | _=>false
theorem WH {r:Option (AV×Hp)}(h:isT r=true):∃ h',r=some (.v (.bool true),h'):=by
 unfold isT at h
 split at h
 ·exact ⟨_,rfl⟩
 ·cases h
set_option maxRecDepth 1000000 in
theorem XP:isT (Rp E13 3000 18 [] [])=true:=by kernel_rfl
theorem UH:∃ h,Rp E13 3000 18 [] []=some (.v (.bool true),h):=WH XP
theorem S3 (w:World):Ret Tryz.prog 18 #[] w fun v w'=>v = .bool true/\w.grownBy w' none:=by
 obtain ⟨h,e⟩:=UH
 exact U2 (E:=E13) (Z:=fun _=>False) (us:=[]) XE e (fun c hc=>hc.elim) (fun g x h=>by cases h) .nil
theorem Ww {w:World}{Z:Nat->Prop}:VR w Z [] (.v (.bool true)) (.bool true):= .v rfl
def K3:Option Bool:=some true
def OR:Cs Unit:=csN
def OT (b:Bool):AV:=cdB.enc b
def Pi:List AV->Option AV:=Dx OR (fun _=>K3) OT
theorem Lm:XOk 18 Pi:=by
 refine ⟨⟨Tryz.call18⟩,fun xs x h w Z us _ _ hv=>?_⟩
 obtain ⟨a,ha,h⟩:=OB h
 obtain ⟨b,hb,rfl⟩:=Option.map_eq_some_iff.1 h
 have hb:=OI hb
 subst hb
 have:xs=[]:=by
  cases xs with
  | nil=>rfl
  | cons x xs=>cases ha
 subst this
 have:us=[]:=by have:=hv.len; simpa using this
 subst this
 exact Ret.mono (S3 w) fun v w' h=>⟨h.2,by rw [h.1]; exact Ww⟩
/- trestle/court.Inversions$1 -/
noncomputable def G8:Code:=BS Tryz.f84
def Cc (x0:Int) (x1:(List Int)):Option (Bool) :=
 (if (decide (x0 < 0))=true then some true else some (decide (x0≥(x1.length:Int)))).bind fun j2 =>
 some j2
def FI:Cs (Int×(List Int)×Unit):=(csC cdI (csC (cdP (cdL 1 cdI)) csN))
def FK (r:Bool):AV:=cdB.enc r
theorem Js (x0:Int) (x1:(List Int)) (r:Bool) (h:Cc x0 x1=some r):Sem E0 ⟨none,false⟩ G8 ⟨Fr 12 (BG 0 (FI.enc (x0,x1,()))),[]⟩ fun e s'=>(e = .normal\/e = .ret)/\∃ xs,Ef E0.P s'.fr s'.hp Tryz.f84.results.toList=some xs/\Eh xs=FK r:=by
 unfold Cc at h;refine A7 (Bt (s1:=⟨Fr 12 [(0,.v (.int .i64 x0)),(1,.pe (.sl 1 (x1.map cdI.enc)) 0)],[]⟩) AL ?_);refine AK AC [(0,.v (.int .i64 x0)),(1,.pe (.sl 1 (x1.map cdI.enc)) 0)] [] ?_;refine AH ?_;obtain ⟨j2,hj2,h⟩:=OB h;refine AI (s1:=⟨Fr 12 [(3,.v (.bool j2))],[]⟩) ?_ ?_
 ·refine AD (n:=12) AC 3 [(0,.v (.int .i64 x0)),(1,.pe (.sl 1 (x1.map cdI.enc)) 0),(6,.v (.bool (decide (x0 < 0))))] [] kr ?_
  rcases BE (decide (x0 < 0)) with hc3 | hc3
  ·rw [if_pos hc3] at hj2
   rw [hc3];refine AD (n:=12) AC 6 [(3,.v (.bool true))] [] kr ?_;have hq:=OI hj2; subst hq;exact AJ rfl AL
  ·rw [CT hc3] at hj2
   rw [hc3];refine AD (n:=12) AC 2 [(6,.v (.bool false)),(7,.v (.int .i64 x0)),(8,.sl 1 (x1.map cdI.enc))] [] kr ?_;refine AP AC 0 rfl (Dq kr rfl (Dg (a:= .sl 1 (x1.map cdI.enc)) kr (CW (el:=3) kr))) ?_;refine AD (n:=12) AC 3 [(3,.v (.bool (decide (x0≥(x1.length:Int)))))] [] kr ?_;have hq:=OI hj2; subst hq;exact AJ rfl AL
 refine AQ ?_;have hq:=OI h; subst hq;exact ⟨⟨Fr 12 [(3,.v (.bool j2))],[]⟩,AL,.inr rfl,[.v (.bool j2)],kr,kr⟩
def Ke:List AV->Option AV:=Dx FI (fun a=>Cc a.1 a.2.1) FK
theorem Kg:XOk 84 Ke:=by
 refine AU Tryz.func84 (c:=G8) ?h2 ⟨Tryz.call84⟩ FI (fun a=>Cc a.1 a.2.1) FK (fun a=>(by show 2<=12; decide)) ?h3 ?h4
 case h2=>kernel_rfl
 case h3=>intro b; kernel_rfl
 case h4=>exact fun a b h=>Js a.1 a.2.1 b h
/- slices.IndexFunc[[]int,int] -/
noncomputable def Bz:Code:=BS Tryz.f138
def A3 (x0:(List Int)) (x1:(List Int)):Nat->Int->Option ((Unit) ⊕ (Int))
 | 0,_=>none
 | f + 1,c1 =>
  if (decide (c1 < (x0.length:Int)))=true then
  (idx x0 c1).bind fun v3 =>
  (Cc v3 x1).bind fun v4 =>
  if v4=true then
  some (.inr c1)
  else
  A3 x0 x1 f (wr .i64 (c1 + 1))
  else
  some (.inl ())
def Ax (x0:(List Int)) (x1:(List Int)):Option (Int) :=
 (A3 x0 x1 100000 0).bind fun r7 =>
 match r7 with
 | (.inl _w8) =>
  some (-1)
 | (.inr w9) =>
  some w9
def B4:Cs ((List Int)×(List Int)×Unit):=(csC (cdL 1 cdI) (csC (cdF 84 (csE (cdP (cdL 1 cdI))) (fun _=>rfl)) csN))
def B5 (r:Int):AV:=cdI.enc r
theorem Cg (x0:(List Int)) (x1:(List Int)):∀ (f:Nat) (c1:Int) (r:(Unit) ⊕ (Int)),A3 x0 x1 f c1=some r->SemN E0 ⟨none,false⟩ (pc Bz [1,0,1,0,0]) f ⟨Fr 19 [(0,.sl 1 (x0.map cdI.enc)),(1,.fn 84 [] [.pe (.sl 1 (x1.map cdI.enc)) 0]),(7,.v (.int .i64 (x0.length:Int))),(8,.v (.int .i64 c1))],[]⟩ (fun e s=>match r with
 | (.inl _w)=>e=(.exit 0)/\Wk E0 s ⟨Fr 19 [],[]⟩
 | (.inr w)=>e = .ret/\Wk E0 s ⟨Fr 19 [(4,.v (.int .i64 w))],[]⟩):=by
 intro f;induction f with
 | zero=>intro c1 r h; cases h
 | succ f ih0 =>
  intro c1 r h
  have ih:=fun (c1:Int)=>ih0 c1 r
  unfold A3 at h;refine Ch ?_
  let p1:Nat×AV:=(8,.v (.int .i64 c1))
  let p2:Nat×AV:=(7,.v (.int .i64 (x0.length:Int)))
  let p3:Nat×AV:=(1,.fn 84 [] [.pe (.sl 1 (x1.map cdI.enc)) 0])
  let p4:Nat×AV:=(0,.sl 1 (x0.map cdI.enc))
  refine AK AC [p4,p3,p2,p1,(9,.v (.bool (decide (c1 < (x0.length:Int)))))] [] ?_;refine AH ?_;refine AO (b:=(decide (c1 < (x0.length:Int)))) kr (fun hb2=>?_) (fun hb2=>?_)
  ·rw [if_pos hb2] at h
   refine AS ?_;refine AH ?_;refine Ay ?_
   let p5:Nat×AV:=(5,.v (.int .i64 c1))
   refine AK AC [p4,p3,p5,p2,p1] [] ?_;refine AH ?_;obtain ⟨v3,hv3,h⟩:=OB h;obtain ⟨v4,hv4,h⟩:=OB h;refine AI (s1:=⟨Fr 19 [p4,p3,p5,p2,p1,(16,.v (.bool v4))],[]⟩) ?_ ?_
   ·let p6:Nat×AV:=(11,.fn 84 [] [.pe (.sl 1 (x1.map cdI.enc)) 0])
    refine AD (n:=19) AC 3 [p4,p3,p5,p2,p1,p6,(12,.sl 1 (x0.map cdI.enc)),(13,.v (.int .i64 c1))] [] kr ?_;refine AP AC 0 rfl (Dq (AB rfl) rfl (Ac (a:= .sl 1 (x0.map cdI.enc)) (b:= .v (.int .i64 c1)) kr kr (Fa (e:=cdI.enc) (el:=3) (k:=1) (ki:= .i64) kr kr hv3))) ?_;refine AD (n:=19) AC 1 [p4,p3,p5,p2,p1,p6,(15,.v (.int .i64 v3))] [] kr ?_;refine AW (caps:=[.pe (.sl 1 (x1.map cdI.enc)) 0]) (xs:=[.v (.int .i64 v3)]) (u:=(v3,x1,())) rfl rfl Kg rfl (AB rfl) kr kr (AN (AZ (c:=cdI) (v:=v3)) (AN (AZ (c:=(cdP (cdL 1 cdI))) (v:=x1)) BA)) (.inl kr) hv4 ?_;exact AJ rfl AL
   refine AO (b:=v4) kr (fun hb5=>?_) (fun hb5=>?_)
   ·rw [if_pos hb5] at h
    refine AK AC [(4,.v (.int .i64 c1))] [] ?_;refine AQ ?_;have hq:=OI h; subst hq;exact ⟨rfl,AL⟩
   ·rw [CT hb5] at h
    refine AS ?_
    let p7:Nat×AV:=(8,.v (.int .i64 (wr .i64 (c1 + 1))))
    refine DO AC [p4,p3,p2,p7] [] ?_;exact A9 (s1:=⟨Fr 19 [p4,p3,p2,p7],[]⟩) AL (ih (wr .i64 (c1 + 1)) h)
  ·rw [CT hb2] at h
   refine DE ?_;have hq:=OI h; subst hq;exact ⟨rfl,AL⟩
theorem EO (x0:(List Int)) (x1:(List Int)) (r:Int) (h:Ax x0 x1=some r):Sem E0 ⟨none,false⟩ Bz ⟨Fr 19 (BG 0 (B4.enc (x0,x1,()))),[]⟩ fun e s'=>(e = .normal\/e = .ret)/\∃ xs,Ef E0.P s'.fr s'.hp Tryz.f138.results.toList=some xs/\Eh xs=B5 r:=by
 unfold Ax at h
 let p1:Nat×AV:=(1,.fn 84 [] [.pe (.sl 1 (x1.map cdI.enc)) 0])
 let p2:Nat×AV:=(0,.sl 1 (x0.map cdI.enc))
 refine A7 (Bt (s1:=⟨Fr 19 [p2,p1],[]⟩) AL ?_);refine AK AC [p2,p1] [] ?_;refine AH ?_;refine AH ?_
 let p3:Nat×AV:=(8,.v (.int .i64 0))
 let p4:Nat×AV:=(7,.v (.int .i64 (x0.length:Int)))
 refine AI (s1:=⟨Fr 19 [p2,p1,p4,p3],[]⟩) ?_ ?_
 ·refine AD (n:=19) AC 1 [p2,p1,(6,.sl 1 (x0.map cdI.enc))] [] kr ?_
  refine AP AC 0 rfl (Dq (AB rfl) rfl (Dg (a:= .sl 1 (x0.map cdI.enc)) kr (CW (el:=3) kr))) ?_;exact AY AC
 refine Ay ?_;obtain ⟨r7,hr7,h⟩:=OB h;refine DF (n:=100000) ?_;rcases r7 with w8 | w9
 ·try dsimp only at h
  refine Bd (A9 (s1:=⟨Fr 19 [p2,p1,p4,p3],[]⟩) AL (Cg x0 x1 _ 0 _ hr7)) ?_;refine AK AC [(4,.v (.int .i64 (-1)))] [] ?_;refine AQ ?_;have hq:=OI h; subst hq;exact ⟨⟨Fr 19 [(4,.v (.int .i64 (-1)))],[]⟩,AL,.inr rfl,[.v (.int .i64 (-1))],kr,kr⟩
 ·try dsimp only at h
  refine Bd (A9 (s1:=⟨Fr 19 [p2,p1,p4,p3],[]⟩) AL (Cg x0 x1 _ 0 _ hr7)) ?_;have hq:=OI h; subst hq;exact ⟨⟨Fr 19 [(4,.v (.int .i64 w9))],[]⟩,AL,.inr rfl,[.v (.int .i64 w9)],kr,kr⟩
def Ei:List AV->Option AV:=Dx B4 (fun a=>Ax a.1 a.2.1) B5
theorem Ej:XOk 138 Ei:=by
 refine AU Tryz.func138 (c:=Bz) ?h2 ⟨Tryz.call138⟩ B4 (fun a=>Ax a.1 a.2.1) B5 (fun a=>(by show 2<=19; decide)) ?h3 ?h4
 case h2=>kernel_rfl
 case h3=>intro b; kernel_rfl
 case h4=>exact fun a b h=>EO a.1 a.2.1 b h
/- slices.ContainsFunc[[]int,int] -/
noncomputable def Cb:Code:=BS Tryz.f83
def Ak (x0:(List Int)) (x1:(List Int)):Option (Bool) :=
 (Ax x0 x1).bind fun v1 =>
 some (decide (v1≥0))
def Bm:Cs ((List Int)×(List Int)×Unit):=(csC (cdL 1 cdI) (csC (cdF 84 (csE (cdP (cdL 1 cdI))) (fun _=>rfl)) csN))
def Bq (r:Bool):AV:=cdB.enc r
theorem D0 (x0:(List Int)) (x1:(List Int)) (r:Bool) (h:Ak x0 x1=some r):Sem E0 ⟨none,false⟩ Cb ⟨Fr 9 (BG 0 (Bm.enc (x0,x1,()))),[]⟩ fun e s'=>(e = .normal\/e = .ret)/\∃ xs,Ef E0.P s'.fr s'.hp Tryz.f83.results.toList=some xs/\Eh xs=Bq r:=by
 unfold Ak at h
 let p1:Nat×AV:=(1,.fn 84 [] [.pe (.sl 1 (x1.map cdI.enc)) 0])
 refine A7 (Bt (s1:=⟨Fr 9 [(0,.sl 1 (x0.map cdI.enc)),p1],[]⟩) AL ?_);refine AK AC [(0,.sl 1 (x0.map cdI.enc)),p1] [] ?_;refine AH ?_;obtain ⟨v1,hv1,h⟩:=OB h
 let p2:Nat×AV:=(4,.v (.bool (decide (v1≥0))))
 refine AI (s1:=⟨Fr 9 [p2],[]⟩) ?_ ?_
 ·refine AD (n:=9) AC 2 [(5,.sl 1 (x0.map cdI.enc)),(6,.fn 84 [] [.pe (.sl 1 (x1.map cdI.enc)) 0])] [] kr ?_
  refine AW (caps:=[]) (xs:=[.sl 1 (x0.map cdI.enc),.fn 84 [] [.pe (.sl 1 (x1.map cdI.enc)) 0]]) (u:=(x0,x1,())) rfl rfl Ej rfl (AB rfl) kr kr (AN (AZ (c:=(cdL 1 cdI)) (v:=x0)) (AN (Sm.fn (Lp (AZ (c:=(cdP (cdL 1 cdI))) (v:=x1)))) BA)) (.inl kr) hv1 ?_;exact AY AC
 refine AQ ?_;have hq:=OI h; subst hq;exact ⟨⟨Fr 9 [p2],[]⟩,AL,.inr rfl,[.v (.bool (decide (v1≥0)))],kr,kr⟩
def EG:List AV->Option AV:=Dx Bm (fun a=>Ak a.1 a.2.1) Bq
theorem EK:XOk 83 EG:=by
 refine AU Tryz.func83 (c:=Cb) ?h2 ⟨Tryz.call83⟩ Bm (fun a=>Ak a.1 a.2.1) Bq (fun a=>(by show 2<=9; decide)) ?h3 ?h4
 case h2=>kernel_rfl
 case h3=>intro b; kernel_rfl
 case h4=>exact fun a b h=>D0 a.1 a.2.1 b h
/- trestle/court.Inversions -/
noncomputable def Dl:Code:=BS Tryz.f28
def Em (_x0:(List Int)) (_x1:(List Int)) (_c4:Int) (_v6:Int) (c8:Int) (_c9:Int) (v12:Int) (v13:Int):Option ((Int)) :=
 if (decide (v12 > v13))=true then
 some (wr .i64 (c8 + 1))
 else
 some c8
def CJ (x0:(List Int)) (x1:(List Int)) (c4:Int) (v6:Int):Nat->Int->Int->Option ((Int))
 | 0,_,_=>none
 | f + 1,c8,c9 =>
  if (decide (c9 < (((x1.take (x1.length:Int).toNat).drop (wr .i64 (c4 + 1)).toNat).length:Int)))=true then
  (idx ((x1.take (x1.length:Int).toNat).drop (wr .i64 (c4 + 1)).toNat) c9).bind fun v11 =>
  (idx x0 v6).bind fun v12 =>
  (idx x0 v11).bind fun v13 =>
  (Em x0 x1 c4 v6 c8 c9 v12 v13).bind fun r16 =>
  CJ x0 x1 c4 v6 f r16 (wr .i64 (c9 + 1))
  else
  some c8
def CA (x0:(List Int)) (x1:(List Int)):Nat->Int->Int->Option ((Int))
 | 0,_,_=>none
 | f + 1,c3,c4 =>
  if (decide (c4 < (x1.length:Int)))=true then
  (idx x1 c4).bind fun v6 =>
  if (Do (wr .i64 (c4 + 1)) (x1.length:Int) x1.length)=true then
  (CJ x0 x1 c4 v6 100000 c3 0).bind fun r18 =>
  CA x0 x1 f r18 (wr .i64 (c4 + 1))
  else none
  else
  some c3
def Cu (x0:(List Int)) (x1:(List Int)):Option (Int) :=
 (Ak x1 x0).bind fun v1 =>
 if v1=true then
 some 0
 else
 (CA x0 x1 100000 0 0).bind fun r20 =>
 some r20
def Fs:Cs ((List Int)×(List Int)×Unit):=(csC (cdL 1 cdI) (csC (cdL 1 cdI) csN))
def Fu (r:Int):AV:=cdI.enc r
theorem Jt (x0:(List Int)) (x1:(List Int)) (c4:Int) (v6:Int) (c8:Int) (c9:Int) (v12:Int) (v13:Int) (r:(Int)) (h:Em x0 x1 c4 v6 c8 c9 v12 v13=some r):Sem E0 ⟨none,false⟩ (pc Dl [1,1,1,0,1,0,0,1,1,0,0,1,1,0,0,1,1,0,0,1,1]) ⟨Fr 43 [(1,.sl 1 (x1.map cdI.enc)),(2,.pt 0 0 0),(5,.v (.int .i64 c8)),(7,.v (.int .i64 v6)),(13,.sl 1 (x1.map cdI.enc)),(14,.v (.int .i64 (x1.length:Int))),(15,.v (.int .i64 c4)),(23,.sl 1 (((x1.take (x1.length:Int).toNat).drop (wr .i64 (c4 + 1)).toNat).map cdI.enc)),(24,.v (.int .i64 (((x1.take (x1.length:Int).toNat).drop (wr .i64 (c4 + 1)).toNat).length:Int))),(25,.v (.int .i64 c9)),(37,.v (.bool (decide (v12 > v13))))],[some ⟨1,48,[.sl 1 (x0.map cdI.enc)],false⟩]⟩ (fun e s=>e = .normal/\Wk E0 s ⟨Fr 43 [(1,.sl 1 (x1.map cdI.enc)),(2,.pt 0 0 0),(5,.v (.int .i64 r)),(7,.v (.int .i64 v6)),(13,.sl 1 (x1.map cdI.enc)),(14,.v (.int .i64 (x1.length:Int))),(15,.v (.int .i64 c4)),(23,.sl 1 (((x1.take (x1.length:Int).toNat).drop (wr .i64 (c4 + 1)).toNat).map cdI.enc)),(24,.v (.int .i64 (((x1.take (x1.length:Int).toNat).drop (wr .i64 (c4 + 1)).toNat).length:Int))),(25,.v (.int .i64 c9))],[some ⟨1,48,[.sl 1 (x0.map cdI.enc)],false⟩]⟩):=by
 unfold Em at h;refine AO (b:=(decide (v12 > v13))) kr (fun hb14=>?_) (fun hb14=>?_)
 ·rw [if_pos hb14] at h
  refine DO AC [(1,.sl 1 (x1.map cdI.enc)),(2,.pt 0 0 0),(5,.v (.int .i64 (wr .i64 (c8 + 1)))),(7,.v (.int .i64 v6)),(13,.sl 1 (x1.map cdI.enc)),(14,.v (.int .i64 (x1.length:Int))),(15,.v (.int .i64 c4)),(23,.sl 1 (((x1.take (x1.length:Int).toNat).drop (wr .i64 (c4 + 1)).toNat).map cdI.enc)),(24,.v (.int .i64 (((x1.take (x1.length:Int).toNat).drop (wr .i64 (c4 + 1)).toNat).length:Int))),(25,.v (.int .i64 c9))] [some ⟨1,48,[.sl 1 (x0.map cdI.enc)],false⟩] ?_;have hq:=OI h; subst hq;exact ⟨rfl,(An [0] ⟨⟨_,rfl,Cm⟩,trivial⟩ ⟨lv,lv,lv,lv,lv,lv,lv,lv,lv,lv,trivial⟩)⟩
 ·rw [CT hb14] at h
  refine AS ?_;have hq:=OI h; subst hq;exact ⟨rfl,(An [0] ⟨⟨_,rfl,Cm⟩,trivial⟩ ⟨lv,lv,lv,lv,lv,lv,lv,lv,lv,lv,trivial⟩)⟩
theorem Jv (x0:(List Int)) (x1:(List Int)) (c4:Int) (v6:Int):∀ (f:Nat) (c8:Int) (c9:Int) (r:(Int)),CJ x0 x1 c4 v6 f c8 c9=some r->SemN E0 ⟨none,false⟩ (pc Dl [1,1,1,0,1,0,0,1,1,0,0,1,1,0,0]) f ⟨Fr 43 [(1,.sl 1 (x1.map cdI.enc)),(2,.pt 0 0 0),(5,.v (.int .i64 c8)),(7,.v (.int .i64 v6)),(13,.sl 1 (x1.map cdI.enc)),(14,.v (.int .i64 (x1.length:Int))),(15,.v (.int .i64 c4)),(23,.sl 1 (((x1.take (x1.length:Int).toNat).drop (wr .i64 (c4 + 1)).toNat).map cdI.enc)),(24,.v (.int .i64 (((x1.take (x1.length:Int).toNat).drop (wr .i64 (c4 + 1)).toNat).length:Int))),(25,.v (.int .i64 c9))],[some ⟨1,48,[.sl 1 (x0.map cdI.enc)],false⟩]⟩ (fun e s=>e=(.exit 2)/\Wk E0 s ⟨Fr 43 [(1,.sl 1 (x1.map cdI.enc)),(2,.pt 0 0 0),(5,.v (.int .i64 r)),(13,.sl 1 (x1.map cdI.enc)),(14,.v (.int .i64 (x1.length:Int))),(15,.v (.int .i64 c4))],[some ⟨1,48,[.sl 1 (x0.map cdI.enc)],false⟩]⟩):=by
 intro f;induction f with
 | zero=>intro c8 c9 r h; cases h
 | succ f ih0 =>
  intro c8 c9 r h
  have ih:=fun (c8:Int) (c9:Int)=>ih0 c8 c9 r
  unfold CJ at h;refine Ch ?_
  let p1:Option Blk:=some ⟨1,48,[.sl 1 (x0.map cdI.enc)],false⟩
  let p2:Nat×AV:=(25,.v (.int .i64 c9))
  let p3:Nat×AV:=(24,.v (.int .i64 (((x1.take (x1.length:Int).toNat).drop (wr .i64 (c4 + 1)).toNat).length:Int)))
  let p4:Nat×AV:=(23,.sl 1 (((x1.take (x1.length:Int).toNat).drop (wr .i64 (c4 + 1)).toNat).map cdI.enc))
  let p5:Nat×AV:=(15,.v (.int .i64 c4))
  let p6:Nat×AV:=(14,.v (.int .i64 (x1.length:Int)))
  let p7:Nat×AV:=(13,.sl 1 (x1.map cdI.enc))
  let p8:Nat×AV:=(7,.v (.int .i64 v6))
  let p9:Nat×AV:=(5,.v (.int .i64 c8))
  let p10:Nat×AV:=(2,.pt 0 0 0)
  let p11:Nat×AV:=(1,.sl 1 (x1.map cdI.enc))
  refine AK AC [p11,p10,p9,p8,p7,p6,p5,p4,p3,p2,(26,.v (.bool (decide (c9 < (((x1.take (x1.length:Int).toNat).drop (wr .i64 (c4 + 1)).toNat).length:Int)))))] [p1] ?_;refine AH ?_;refine AO (b:=(decide (c9 < (((x1.take (x1.length:Int).toNat).drop (wr .i64 (c4 + 1)).toNat).length:Int)))) kr (fun hb10=>?_) (fun hb10=>?_)
  ·rw [if_pos hb10] at h
   refine AS ?_;refine AH ?_;refine Ay ?_;refine AH ?_;obtain ⟨v11,hv11,h⟩:=OB h;refine AI (s1:=⟨Fr 43 [p11,p10,p9,p8,(9,.v (.int .i64 v11)),p7,p6,p5,p4,p3,p2],[p1]⟩) ?_ ?_
   ·refine AP AC 0 rfl (Dq (AB rfl) rfl (Ac (a:= .sl 1 (((x1.take (x1.length:Int).toNat).drop (wr .i64 (c4 + 1)).toNat).map cdI.enc)) (b:= .v (.int .i64 c9)) kr kr (Fa (e:=cdI.enc) (el:=3) (k:=1) (ki:= .i64) kr kr hv11))) ?_
    exact AY AC
   refine AH ?_;obtain ⟨v12,hv12,h⟩:=OB h;obtain ⟨v13,hv13,h⟩:=OB h
   let p12:Nat×AV:=(37,.v (.bool (decide (v12 > v13))))
   refine ES AC (s1:=⟨Fr 43 [p11,p10,p9,p8,p7,p6,p5,p4,p3,p2,p12],[p1]⟩) kr ?_ ?_
   ·refine Ar (n:=43) AC 2 [p11,p10,p9,p8,(9,.v (.int .i64 v11)),p7,p6,p5,p4,p3,p2,(29,.sl 1 (x0.map cdI.enc)),(30,.v (.int .i64 v6))] [p1] kr kr ?_
    refine RunDS.one AC rfl kr (Ng kr (AB rfl) rfl (Ac (a:= .sl 1 (x0.map cdI.enc)) (b:= .v (.int .i64 v6)) kr kr (Fa (e:=cdI.enc) (el:=3) (k:=1) (ki:= .i64) kr kr hv12)) kr) ?_;refine Ar (n:=43) AC 3 [p11,p10,p9,p8,p7,p6,p5,p4,p3,p2,(32,.v (.int .i64 v12)),(33,.sl 1 (x0.map cdI.enc)),(34,.v (.int .i64 v11))] [p1] kr kr ?_;refine RunDS.one AC rfl kr (Ng kr (AB rfl) rfl (Ac (a:= .sl 1 (x0.map cdI.enc)) (b:= .v (.int .i64 v11)) kr kr (Fa (e:=cdI.enc) (el:=3) (k:=1) (ki:= .i64) kr kr hv13)) kr) ?_;refine Ar (n:=43) AC 2 [p11,p10,p9,p8,p7,p6,p5,p4,p3,p2,p12] [p1] kr kr ?_;exact RunDS.done rfl (An [0] ⟨⟨_,rfl,Cm⟩,trivial⟩ ⟨lv,lv,lv,lv,lv,lv,lv,lv,lv,lv,lv,trivial⟩)
   obtain ⟨r16,hr16,h⟩:=OB h;refine Cy (Jt x0 x1 c4 v6 c8 c9 v12 v13 _ hr16) ?_
   let p13:Nat×AV:=(25,.v (.int .i64 (wr .i64 (c9 + 1))))
   refine DO AC [p11,p10,(5,.v (.int .i64 r16)),p8,p7,p6,p5,p4,p3,p13] [p1] ?_;exact A9 (s1:=⟨Fr 43 [p11,p10,(5,.v (.int .i64 r16)),p8,p7,p6,p5,p4,p3,p13],[p1]⟩) (An [0] ⟨⟨_,rfl,Cm⟩,trivial⟩ ⟨lv,lv,lv,lv,lv,lv,lv,lv,lv,lv,trivial⟩) (ih r16 (wr .i64 (c9 + 1)) h)
  ·rw [CT hb10] at h
   refine DE ?_;have hq:=OI h; subst hq;exact ⟨rfl,(An [0] ⟨⟨_,rfl,Cm⟩,trivial⟩ ⟨lv,lv,lv,lv,lv,lv,trivial⟩)⟩
theorem Ju (x0:(List Int)) (x1:(List Int)):∀ (f:Nat) (c3:Int) (c4:Int) (r:(Int)),CA x0 x1 f c3 c4=some r->SemN E0 ⟨none,false⟩ (pc Dl [1,1,1,0,1,0,0]) f ⟨Fr 43 [(1,.sl 1 (x1.map cdI.enc)),(2,.pt 0 0 0),(5,.v (.int .i64 c3)),(13,.sl 1 (x1.map cdI.enc)),(14,.v (.int .i64 (x1.length:Int))),(15,.v (.int .i64 c4))],[some ⟨1,48,[.sl 1 (x0.map cdI.enc)],false⟩]⟩ (fun e s=>e=(.exit 0)/\Wk E0 s ⟨Fr 43 [(5,.v (.int .i64 r))],[]⟩):=by
 intro f;induction f with
 | zero=>intro c3 c4 r h; cases h
 | succ f ih0 =>
  intro c3 c4 r h
  have ih:=fun (c3:Int) (c4:Int)=>ih0 c3 c4 r
  unfold CA at h;refine Ch ?_
  let p1:Option Blk:=some ⟨1,48,[.sl 1 (x0.map cdI.enc)],false⟩
  let p2:Nat×AV:=(15,.v (.int .i64 c4))
  let p3:Nat×AV:=(14,.v (.int .i64 (x1.length:Int)))
  let p4:Nat×AV:=(13,.sl 1 (x1.map cdI.enc))
  let p5:Nat×AV:=(5,.v (.int .i64 c3))
  let p6:Nat×AV:=(2,.pt 0 0 0)
  let p7:Nat×AV:=(1,.sl 1 (x1.map cdI.enc))
  refine AK AC [p7,p6,p5,p4,p3,p2,(16,.v (.bool (decide (c4 < (x1.length:Int)))))] [p1] ?_;refine AH ?_;refine AO (b:=(decide (c4 < (x1.length:Int)))) kr (fun hb5=>?_) (fun hb5=>?_)
  ·rw [if_pos hb5] at h
   refine AS ?_;refine AH ?_;refine Ay ?_;refine AH ?_;obtain ⟨v6,hv6,h⟩:=OB h
   let p8:Nat×AV:=(7,.v (.int .i64 v6))
   refine AI (s1:=⟨Fr 43 [p7,p6,p5,(6,.v (.int .i64 c4)),p8,p4,p3,p2],[p1]⟩) ?_ ?_
   ·refine AD (n:=43) AC 1 [p7,p6,p5,p4,p3,p2,(17,.v (.int .i64 c4))] [p1] kr ?_
    refine AP AC 0 rfl (Dq (AB rfl) rfl (Ac (a:= .sl 1 (x1.map cdI.enc)) (b:= .v (.int .i64 c4)) kr kr (Fa (e:=cdI.enc) (el:=3) (k:=1) (ki:= .i64) kr kr hv6))) ?_;exact AY AC
   refine AH ?_;by_cases hk7:(Do (wr .i64 (c4 + 1)) (x1.length:Int) x1.length)=true
   case neg=>rw [if_neg hk7] at h; cases h
   rw [if_pos hk7] at h
   let p9:Nat×AV:=(24,.v (.int .i64 (((x1.take (x1.length:Int).toNat).drop (wr .i64 (c4 + 1)).toNat).length:Int)))
   let p10:Nat×AV:=(23,.sl 1 (((x1.take (x1.length:Int).toNat).drop (wr .i64 (c4 + 1)).toNat).map cdI.enc))
   refine AI (s1:=⟨Fr 43 [p7,p6,p5,p8,p4,p3,p2,p10,p9,(25,.v (.int .i64 0))],[p1]⟩) ?_ ?_
   ·refine AD (n:=43) AC 3 [p7,p6,p5,p8,p4,p3,p2,(20,.sl 1 (x1.map cdI.enc)),(22,.v (.int .i64 (wr .i64 (c4 + 1))))] [p1] kr ?_
    refine AP AC 0 rfl (Dq (AB rfl) rfl (FO (a:= .sl 1 (x1.map cdI.enc)) (l:=(some (.v (.int .i64 (wr .i64 (c4 + 1)))))) (u:=none) (m:=none) kr kr kr rfl (Lf (xs:=x1) (e:=cdI.enc) (k:=1) (el:=3) (lo:=(wr .i64 (c4 + 1))) (hi:=(x1.length:Int)) kr kr (HA (NO hk7)) rfl hk7))) ?_;refine AP AC 0 rfl (Dq (AB rfl) rfl (Dg (a:= .sl 1 (((x1.take (x1.length:Int).toNat).drop (wr .i64 (c4 + 1)).toNat).map cdI.enc)) kr (CW (el:=3) kr))) ?_;exact AY AC
   refine Ay ?_;obtain ⟨r18,hr18,h⟩:=OB h;refine DF (n:=100000) ?_;refine Bd (A9 (s1:=⟨Fr 43 [p7,p6,p5,p8,p4,p3,p2,p10,p9,(25,.v (.int .i64 0))],[p1]⟩) (An [0] ⟨⟨_,rfl,Cm⟩,trivial⟩ ⟨lv,lv,lv,lv,lv,lv,lv,lv,lv,lv,trivial⟩) (Jv x0 x1 c4 v6 _ c3 0 _ hr18)) ?_
   let p11:Nat×AV:=(15,.v (.int .i64 (wr .i64 (c4 + 1))))
   refine DO AC [p7,p6,(5,.v (.int .i64 r18)),p4,p3,p11] [p1] ?_;exact A9 (s1:=⟨Fr 43 [p7,p6,(5,.v (.int .i64 r18)),p4,p3,p11],[p1]⟩) (An [0] ⟨⟨_,rfl,Cm⟩,trivial⟩ ⟨lv,lv,lv,lv,lv,lv,trivial⟩) (ih r18 (wr .i64 (c4 + 1)) h)
  ·rw [CT hb5] at h
   refine DE ?_;have hq:=OI h; subst hq;exact ⟨rfl,(An [] trivial ⟨lv,trivial⟩)⟩
theorem Kc (x0:(List Int)) (x1:(List Int)) (r:Int) (h:Cu x0 x1=some r):Sem E0 ⟨none,false⟩ Dl ⟨Fr 43 (BG 0 (Fs.enc (x0,x1,()))),[]⟩ fun e s'=>(e = .normal\/e = .ret)/\∃ xs,Ef E0.P s'.fr s'.hp Tryz.f28.results.toList=some xs/\Eh xs=Fu r:=by
 unfold Cu at h
 let p1:Nat×AV:=(1,.sl 1 (x1.map cdI.enc))
 refine A7 (Bt (s1:=⟨Fr 43 [(0,.sl 1 (x0.map cdI.enc)),p1],[]⟩) AL ?_)
 let p2:Option Blk:=some ⟨1,48,[.sl 1 (x0.map cdI.enc)],false⟩
 let p3:Nat×AV:=(2,.pt 0 0 0)
 refine AK AC [p1,p3] [p2] ?_;refine AH ?_;refine AH ?_;obtain ⟨v1,hv1,h⟩:=OB h;refine AI (s1:=⟨Fr 43 [p1,p3,(12,.v (.bool v1))],[p2]⟩) ?_ ?_
 ·refine AD (n:=43) AC 2 [p1,p3,(10,.sl 1 (x1.map cdI.enc)),(11,.fn 84 [] [.pt 0 0 0])] [p2] kr ?_
  refine AW (caps:=[]) (xs:=[.sl 1 (x1.map cdI.enc),.fn 84 [] [.pt 0 0 0]]) (u:=(x1,x0,())) rfl rfl EK rfl (AB rfl) kr kr (AN (AZ (c:=(cdL 1 cdI)) (v:=x1)) (AN (Sm.fn (Lp (Sm.pt (k:=1) (t:=48) (fz:=false) (y:= .sl 1 (x0.map cdI.enc)) kr (AZ (c:=(cdL 1 cdI)) (v:=x0))))) BA)) (.inl kr) hv1 ?_;exact AJ rfl (An [0] ⟨⟨_,rfl,Cm⟩,trivial⟩ ⟨lv,lv,lv,trivial⟩)
 refine AO (b:=v1) kr (fun hb2=>?_) (fun hb2=>?_)
 ·rw [if_pos hb2] at h
  refine AH ?_
  let p4:Nat×AV:=(4,.v (.int .i64 0))
  refine AI (s1:=⟨Fr 43 [p4],[]⟩) ?_ ?_
  ·refine AD (n:=43) AC 1 [p4] [p2] kr ?_
   exact AJ rfl (An [] trivial ⟨lv,trivial⟩)
  refine AQ ?_;have hq:=OI h; subst hq;exact ⟨⟨Fr 43 [p4],[]⟩,AL,.inr rfl,[.v (.int .i64 0)],kr,kr⟩
 ·rw [CT hb2] at h
  refine AS ?_
  let p5:Nat×AV:=(5,.v (.int .i64 0))
  refine AK AC [p1,p3,p5] [p2] ?_;refine AH ?_;refine AH ?_
  let p6:Nat×AV:=(14,.v (.int .i64 (x1.length:Int)))
  let p7:Nat×AV:=(13,.sl 1 (x1.map cdI.enc))
  refine AI (s1:=⟨Fr 43 [p1,p3,p5,p7,p6,(15,.v (.int .i64 0))],[p2]⟩) ?_ ?_
  ·refine AD (n:=43) AC 1 [p1,p3,p5,p7] [p2] kr ?_
   refine AP AC 0 rfl (Dq (AB rfl) rfl (Dg (a:= .sl 1 (x1.map cdI.enc)) kr (CW (el:=3) kr))) ?_;exact AY AC
  refine Ay ?_;obtain ⟨r20,hr20,h⟩:=OB h;refine DF (n:=100000) ?_;refine Bd (A9 (s1:=⟨Fr 43 [p1,p3,p5,p7,p6,(15,.v (.int .i64 0))],[p2]⟩) (An [0] ⟨⟨_,rfl,Cm⟩,trivial⟩ ⟨lv,lv,lv,lv,lv,lv,trivial⟩) (Ju x0 x1 _ 0 0 _ hr20)) ?_;refine AK AC [(4,.v (.int .i64 r20))] [] ?_;refine AQ ?_;have hq:=OI h; subst hq;exact ⟨⟨Fr 43 [(4,.v (.int .i64 r20))],[]⟩,AL,.inr rfl,[.v (.int .i64 r20)],kr,kr⟩
def Lh:List AV->Option AV:=Dx Fs (fun a=>Cu a.1 a.2.1) Fu
theorem Ll:XOk 28 Lh:=by
 refine AU Tryz.func28 (c:=Dl) ?h2 ⟨Tryz.call28⟩ Fs (fun a=>Cu a.1 a.2.1) Fu (fun a=>(by show 2<=43; decide)) ?h3 ?h4
 case h2=>kernel_rfl
 case h3=>intro b; kernel_rfl
 case h4=>exact fun a b h=>Kc a.1 a.2.1 b h
/- trestle/trestlelaw03.CourtGroups -/
noncomputable def CY:Code:=BS Tryz.f5
def A8 (v1:(List AF)) (v2:(List A6)) (v3:(List (List Int))) (v4:(List Int)) (v5:(List Int)×Int) (c8:Int) (v10:(List Int)):Nat->Int->Int->Option ((Int) ⊕ (Bool))
 | 0,_,_=>none
 | f + 1,c16,c17 =>
  if (decide (c17 < (v10.length:Int)))=true then
  (idx v10 c17).bind fun v19 =>
  (if (decide (v19 < 0))=true then some true else if (decide (v19≥(v2.length:Int)))=true then some true else (idx v4 v19).bind fun v20 =>
  some (v20 != c8)).bind fun j22 =>
  if j22=true then
  some (.inr false)
  else
  A8 v1 v2 v3 v4 v5 c8 v10 f (wr .i64 (c16 + 1)) (wr .i64 (c17 + 1))
  else
  some (.inl c16)
def BH (v1:(List AF)) (v2:(List A6)) (v3:(List (List Int))) (v4:(List Int)) (v5:(List Int)×Int):Nat->Int->Int->Option ((Int) ⊕ (Bool))
 | 0,_,_=>none
 | f + 1,c7,c8 =>
  if (decide (c8 < (v3.length:Int)))=true then
  (idx v3 c8).bind fun v10 =>
  (if ((v10.length:Int)==0)=true then some true else (CO v10).bind fun v11 =>
  some (!v11)).bind fun j13 =>
  if j13=true then
  some (.inr false)
  else
  (A8 v1 v2 v3 v4 v5 c8 v10 100000 c7 0).bind fun r28 =>
  match r28 with
  | (.inl w29) =>
   BH v1 v2 v3 v4 v5 f w29 (wr .i64 (c8 + 1))
  | (.inr w30) =>
   some (.inr w30)
  else
  some (.inl c7)
def Ba (v1:(List AF)) (v2:(List A6)) (v3:(List (List Int))) (v4:(List Int)) (v5:(List Int)×Int) (w34:Int) (c35:Int):Nat->Int->Option ((Unit) ⊕ (Bool))
 | 0,_=>none
 | f + 1,c37 =>
  if (decide (c37 < (v2.length:Int)))=true then
  (idx v2 c35).bind fun v39 =>
  (idx v2 c37).bind fun v40 =>
  (D4 v1 v39 v40 c35 c37).bind fun v41 =>
  (idx v4 c35).bind fun v42 =>
  (idx v4 c37).bind fun v43 =>
  (if (!((decide (v41 < 0))==(decide (v42 < v43))))=true then some true else (idx v4 c35).bind fun v44 =>
  (idx v4 c37).bind fun v45 =>
  some (!((v41==0)==(v44==v45)))).bind fun j47 =>
  if j47=true then
  some (.inr false)
  else
  Ba v1 v2 v3 v4 v5 w34 c35 f (wr .i64 (c37 + 1))
  else
  some (.inl ())
def BZ (v1:(List AF)) (v2:(List A6)) (v3:(List (List Int))) (v4:(List Int)) (v5:(List Int)×Int) (w34:Int):Nat->Int->Option ((Unit) ⊕ (Bool))
 | 0,_=>none
 | f + 1,c35 =>
  if (decide (c35 < (v2.length:Int)))=true then
  (Ba v1 v2 v3 v4 v5 w34 c35 100000 0).bind fun r51 =>
  match r51 with
  | (.inl _w52) =>
   BZ v1 v2 v3 v4 v5 w34 f (wr .i64 (c35 + 1))
  | (.inr w53) =>
   some (.inr w53)
  else
  some (.inl ())
def Bb (v2:(List A6)) (v4:(List Int)) (v5:(List Int)×Int):Nat->Int->Option ((Unit) ⊕ (Bool))
 | 0,_=>none
 | f + 1,c64 =>
  if (decide (c64 < (v5.1.length:Int)))=true then
  (idx v5.1 c64).bind fun v66 =>
  (if (decide (v66 < 0))=true then some true else if (decide (v66≥(v2.length:Int)))=true then some true else (idx v4 v66).bind fun v67 =>
  some (v67 != c64)).bind fun j69 =>
  if j69=true then
  some (.inr false)
  else
  Bb v2 v4 v5 f (wr .i64 (c64 + 1))
  else
  some (.inl ())
def DD (x0:(List (Int×Int×Int×Bool×Bool))) (x1:(List (Int×Int))):Option (Bool) :=
 (Gz x0).bind fun v1 =>
 (FN x1 20).bind fun v2 =>
 (En v1 v2).bind fun v3 =>
 (Fo v1 v2).bind fun v4 =>
 (Gr v1 v2).bind fun v5 =>
 if ((v4.length:Int)!=(v2.length:Int))=true then
 some false
 else
 (BH v1 v2 v3 v4 v5 100000 0 0).bind fun r33 =>
 match r33 with
 | (.inl w34) =>
  (BZ v1 v2 v3 v4 v5 w34 100000 0).bind fun r55 =>
  match r55 with
  | (.inl _w56) =>
   if (w34 != (v2.length:Int))=true then
   some false
   else
   if (decide ((v3.length:Int) < (v2.length:Int)))=true then
   (if (v5.2==32)=true then if ((v5.1.length:Int)==0)=true then K3.bind fun v59 =>
   some v59 else some false else some false).bind fun j61 =>
   some j61
   else
   (Bb v2 v4 v5 100000 0).bind fun r74 =>
   match r74 with
   | (.inl _w75) =>
    (if (v5.2==0)=true then if ((v5.1.length:Int)==(v2.length:Int))=true then (Cu v4 v5.1).bind fun v76 =>
    if (v76==0)=true then K3.bind fun v77 =>
    some v77 else some false else some false else some false).bind fun j79 =>
    some j79
   | (.inr w83) =>
    some w83
  | (.inr w84) =>
   some w84
 | (.inr w85) =>
  some w85
def DZ:Cs (((List (Int×Int×Int×Bool×Bool)))×((List (Int×Int)))×Unit):=(csC (cdL 5 (cdA (csC (cdK .u8) (csC (cdK .u8) (csC (cdK .u8) (csC cdB (csE cdB))))) (fun _=>rfl))) (csC (cdL 2 (NI (cdK .u8) (cdK .u8) (fun _=>rfl) (fun _=>rfl))) csN))
def EQ (r:Bool):AV:=cdB.enc r
theorem GY (v1:(List AF)) (v2:(List A6)) (v3:(List (List Int))) (v4:(List Int)) (v5:(List Int)×Int) (c8:Int) (v10:(List Int)):∀ (f:Nat) (c16:Int) (c17:Int) (r:(Int) ⊕ (Bool)),A8 v1 v2 v3 v4 v5 c8 v10 f c16 c17=some r->SemN E0 ⟨none,false⟩ (pc CY [1,1,1,1,1,1,0,1,0,0,1,1,0,0,1,1,1,0,0]) f ⟨Fr 194 [(5,.sl 5 (v1.map AA.enc)),(6,.sl 9 (v2.map AG.enc)),(7,.sl 1 (v3.map (cdL 1 cdI).enc)),(8,.sl 1 (v4.map cdI.enc)),(9,.sl 1 (v5.1.map cdI.enc)),(10,.v (.int .i64 v5.2)),(11,.v (.int .i64 c16)),(12,.v (.int .i64 c8)),(42,.sl 1 (v3.map (cdL 1 cdI).enc)),(43,.v (.int .i64 (v3.length:Int))),(44,.v (.int .i64 c8)),(57,.sl 1 (v10.map cdI.enc)),(58,.v (.int .i64 (v10.length:Int))),(59,.v (.int .i64 c17))],[]⟩ (fun e s=>match r with
 | (.inl w)=>e=(.exit 2)/\Wk E0 s ⟨Fr 194 [(5,.sl 5 (v1.map AA.enc)),(6,.sl 9 (v2.map AG.enc)),(7,.sl 1 (v3.map (cdL 1 cdI).enc)),(8,.sl 1 (v4.map cdI.enc)),(9,.sl 1 (v5.1.map cdI.enc)),(10,.v (.int .i64 v5.2)),(11,.v (.int .i64 w)),(42,.sl 1 (v3.map (cdL 1 cdI).enc)),(43,.v (.int .i64 (v3.length:Int))),(44,.v (.int .i64 c8))],[]⟩
 | (.inr w)=>e = .ret/\Wk E0 s ⟨Fr 194 [(4,.v (.bool w))],[]⟩):=by
 intro f;induction f with
 | zero=>intro c16 c17 r h; cases h
 | succ f ih0 =>
  intro c16 c17 r h
  have ih:=fun (c16:Int) (c17:Int)=>ih0 c16 c17 r
  unfold A8 at h;refine Ch ?_;refine AK AC [(5,.sl 5 (v1.map AA.enc)),(6,.sl 9 (v2.map AG.enc)),(7,.sl 1 (v3.map (cdL 1 cdI).enc)),(8,.sl 1 (v4.map cdI.enc)),(9,.sl 1 (v5.1.map cdI.enc)),(10,.v (.int .i64 v5.2)),(11,.v (.int .i64 c16)),(12,.v (.int .i64 c8)),(42,.sl 1 (v3.map (cdL 1 cdI).enc)),(43,.v (.int .i64 (v3.length:Int))),(44,.v (.int .i64 c8)),(57,.sl 1 (v10.map cdI.enc)),(58,.v (.int .i64 (v10.length:Int))),(59,.v (.int .i64 c17)),(60,.v (.bool (decide (c17 < (v10.length:Int)))))] [] ?_;refine AH ?_;refine AO (b:=(decide (c17 < (v10.length:Int)))) kr (fun hb18=>?_) (fun hb18=>?_)
  ·rw [if_pos hb18] at h
   refine AS ?_;refine AH ?_;refine Ay ?_;refine AH ?_;obtain ⟨v19,hv19,h⟩:=OB h;refine AI (s1:=⟨Fr 194 [(5,.sl 5 (v1.map AA.enc)),(6,.sl 9 (v2.map AG.enc)),(7,.sl 1 (v3.map (cdL 1 cdI).enc)),(8,.sl 1 (v4.map cdI.enc)),(9,.sl 1 (v5.1.map cdI.enc)),(10,.v (.int .i64 v5.2)),(11,.v (.int .i64 c16)),(12,.v (.int .i64 c8)),(15,.v (.int .i64 v19)),(42,.sl 1 (v3.map (cdL 1 cdI).enc)),(43,.v (.int .i64 (v3.length:Int))),(44,.v (.int .i64 c8)),(57,.sl 1 (v10.map cdI.enc)),(58,.v (.int .i64 (v10.length:Int))),(59,.v (.int .i64 c17))],[]⟩) ?_ ?_
   ·refine AP AC 0 rfl (Dq (AB rfl) rfl (Ac (a:= .sl 1 (v10.map cdI.enc)) (b:= .v (.int .i64 c17)) kr kr (Fa (e:=cdI.enc) (el:=3) (k:=1) (ki:= .i64) kr kr hv19))) ?_
    exact AY AC
   refine AH ?_;refine AH ?_;obtain ⟨j22,hj22,h⟩:=OB h;refine AI (s1:=⟨Fr 194 [(5,.sl 5 (v1.map AA.enc)),(6,.sl 9 (v2.map AG.enc)),(7,.sl 1 (v3.map (cdL 1 cdI).enc)),(8,.sl 1 (v4.map cdI.enc)),(9,.sl 1 (v5.1.map cdI.enc)),(10,.v (.int .i64 v5.2)),(11,.v (.int .i64 c16)),(12,.v (.int .i64 c8)),(42,.sl 1 (v3.map (cdL 1 cdI).enc)),(43,.v (.int .i64 (v3.length:Int))),(44,.v (.int .i64 c8)),(57,.sl 1 (v10.map cdI.enc)),(58,.v (.int .i64 (v10.length:Int))),(59,.v (.int .i64 c17)),(78,.v (.bool j22))],[]⟩) ?_ ?_
   ·refine AD (n:=194) AC 3 [(5,.sl 5 (v1.map AA.enc)),(6,.sl 9 (v2.map AG.enc)),(7,.sl 1 (v3.map (cdL 1 cdI).enc)),(8,.sl 1 (v4.map cdI.enc)),(9,.sl 1 (v5.1.map cdI.enc)),(10,.v (.int .i64 v5.2)),(11,.v (.int .i64 c16)),(12,.v (.int .i64 c8)),(15,.v (.int .i64 v19)),(42,.sl 1 (v3.map (cdL 1 cdI).enc)),(43,.v (.int .i64 (v3.length:Int))),(44,.v (.int .i64 c8)),(57,.sl 1 (v10.map cdI.enc)),(58,.v (.int .i64 (v10.length:Int))),(59,.v (.int .i64 c17)),(65,.v (.bool (decide (v19 < 0))))] [] kr ?_
    rcases BE (decide (v19 < 0)) with hc25 | hc25
    ·rw [if_pos hc25] at hj22
     rw [hc25];refine AD (n:=194) AC 13 [(5,.sl 5 (v1.map AA.enc)),(6,.sl 9 (v2.map AG.enc)),(7,.sl 1 (v3.map (cdL 1 cdI).enc)),(8,.sl 1 (v4.map cdI.enc)),(9,.sl 1 (v5.1.map cdI.enc)),(10,.v (.int .i64 v5.2)),(11,.v (.int .i64 c16)),(12,.v (.int .i64 c8)),(42,.sl 1 (v3.map (cdL 1 cdI).enc)),(43,.v (.int .i64 (v3.length:Int))),(44,.v (.int .i64 c8)),(57,.sl 1 (v10.map cdI.enc)),(58,.v (.int .i64 (v10.length:Int))),(59,.v (.int .i64 c17)),(66,.tp []),(67,.tp []),(68,.tp []),(69,.tp []),(72,.tp []),(73,.tp []),(74,.tp []),(75,.tp []),(76,.tp []),(77,.tp []),(78,.v (.bool true))] [] kr ?_;have hq:=OI hj22; subst hq;exact AJ rfl AL
    ·rw [CT hc25] at hj22
     rw [hc25];refine AD (n:=194) AC 2 [(5,.sl 5 (v1.map AA.enc)),(6,.sl 9 (v2.map AG.enc)),(7,.sl 1 (v3.map (cdL 1 cdI).enc)),(8,.sl 1 (v4.map cdI.enc)),(9,.sl 1 (v5.1.map cdI.enc)),(10,.v (.int .i64 v5.2)),(11,.v (.int .i64 c16)),(12,.v (.int .i64 c8)),(15,.v (.int .i64 v19)),(42,.sl 1 (v3.map (cdL 1 cdI).enc)),(43,.v (.int .i64 (v3.length:Int))),(44,.v (.int .i64 c8)),(57,.sl 1 (v10.map cdI.enc)),(58,.v (.int .i64 (v10.length:Int))),(59,.v (.int .i64 c17)),(65,.v (.bool false)),(66,.v (.int .i64 v19)),(67,.sl 9 (v2.map AG.enc))] [] kr ?_;refine AP AC 0 rfl (Dq kr rfl (Dg (a:= .sl 9 (v2.map AG.enc)) kr (CW (el:=42) kr))) ?_;refine AD (n:=194) AC 3 [(5,.sl 5 (v1.map AA.enc)),(6,.sl 9 (v2.map AG.enc)),(7,.sl 1 (v3.map (cdL 1 cdI).enc)),(8,.sl 1 (v4.map cdI.enc)),(9,.sl 1 (v5.1.map cdI.enc)),(10,.v (.int .i64 v5.2)),(11,.v (.int .i64 c16)),(12,.v (.int .i64 c8)),(15,.v (.int .i64 v19)),(42,.sl 1 (v3.map (cdL 1 cdI).enc)),(43,.v (.int .i64 (v3.length:Int))),(44,.v (.int .i64 c8)),(57,.sl 1 (v10.map cdI.enc)),(58,.v (.int .i64 (v10.length:Int))),(59,.v (.int .i64 c17)),(66,.v (.int .i64 v19)),(67,.sl 9 (v2.map AG.enc)),(68,.v (.int .i64 (v2.length:Int))),(69,.v (.bool (decide (v19≥(v2.length:Int))))),(71,.v (.bool (decide (v19≥(v2.length:Int)))))] [] kr ?_;rcases BE (decide (v19≥(v2.length:Int))) with hc26 | hc26
     ·rw [if_pos hc26] at hj22
      rw [hc26];refine AD (n:=194) AC 7 [(5,.sl 5 (v1.map AA.enc)),(6,.sl 9 (v2.map AG.enc)),(7,.sl 1 (v3.map (cdL 1 cdI).enc)),(8,.sl 1 (v4.map cdI.enc)),(9,.sl 1 (v5.1.map cdI.enc)),(10,.v (.int .i64 v5.2)),(11,.v (.int .i64 c16)),(12,.v (.int .i64 c8)),(42,.sl 1 (v3.map (cdL 1 cdI).enc)),(43,.v (.int .i64 (v3.length:Int))),(44,.v (.int .i64 c8)),(57,.sl 1 (v10.map cdI.enc)),(58,.v (.int .i64 (v10.length:Int))),(59,.v (.int .i64 c17)),(66,.v (.int .i64 v19)),(67,.sl 9 (v2.map AG.enc)),(68,.v (.int .i64 (v2.length:Int))),(69,.v (.bool true)),(72,.tp []),(73,.tp []),(74,.tp []),(75,.tp []),(76,.tp []),(77,.tp []),(78,.v (.bool true))] [] kr ?_;have hq:=OI hj22; subst hq;exact AJ rfl AL
     ·rw [CT hc26] at hj22
      rw [hc26];refine AD (n:=194) AC 2 [(5,.sl 5 (v1.map AA.enc)),(6,.sl 9 (v2.map AG.enc)),(7,.sl 1 (v3.map (cdL 1 cdI).enc)),(8,.sl 1 (v4.map cdI.enc)),(9,.sl 1 (v5.1.map cdI.enc)),(10,.v (.int .i64 v5.2)),(11,.v (.int .i64 c16)),(12,.v (.int .i64 c8)),(42,.sl 1 (v3.map (cdL 1 cdI).enc)),(43,.v (.int .i64 (v3.length:Int))),(44,.v (.int .i64 c8)),(57,.sl 1 (v10.map cdI.enc)),(58,.v (.int .i64 (v10.length:Int))),(59,.v (.int .i64 c17)),(66,.v (.int .i64 v19)),(67,.sl 9 (v2.map AG.enc)),(68,.v (.int .i64 (v2.length:Int))),(69,.v (.bool false)),(71,.v (.bool false)),(72,.sl 1 (v4.map cdI.enc)),(73,.v (.int .i64 v19))] [] kr ?_;obtain ⟨v20,hv20,hj22⟩:=OB hj22;refine AP AC 0 rfl (Dq kr rfl (Ac (a:= .sl 1 (v4.map cdI.enc)) (b:= .v (.int .i64 v19)) kr kr (Fa (e:=cdI.enc) (el:=3) (k:=1) (ki:= .i64) kr kr hv20))) ?_;refine AD (n:=194) AC 4 [(5,.sl 5 (v1.map AA.enc)),(6,.sl 9 (v2.map AG.enc)),(7,.sl 1 (v3.map (cdL 1 cdI).enc)),(8,.sl 1 (v4.map cdI.enc)),(9,.sl 1 (v5.1.map cdI.enc)),(10,.v (.int .i64 v5.2)),(11,.v (.int .i64 c16)),(12,.v (.int .i64 c8)),(42,.sl 1 (v3.map (cdL 1 cdI).enc)),(43,.v (.int .i64 (v3.length:Int))),(44,.v (.int .i64 c8)),(57,.sl 1 (v10.map cdI.enc)),(58,.v (.int .i64 (v10.length:Int))),(59,.v (.int .i64 c17)),(66,.v (.int .i64 v19)),(67,.sl 9 (v2.map AG.enc)),(68,.v (.int .i64 (v2.length:Int))),(69,.v (.bool false)),(72,.sl 1 (v4.map cdI.enc)),(73,.v (.int .i64 v19)),(74,.pe (.v (.int .i64 v20)) 0),(75,.v (.int .i64 v20)),(76,.v (.int .i64 c8)),(77,.v (.bool (v20 != c8))),(78,.v (.bool (v20 != c8)))] [] kr ?_;have hq:=OI hj22; subst hq;exact AJ rfl AL
   refine AO (b:=j22) kr (fun hb23=>?_) (fun hb23=>?_)
   ·rw [if_pos hb23] at h
    refine AK AC [(4,.v (.bool false))] [] ?_;refine AQ ?_;have hq:=OI h; subst hq;exact ⟨rfl,AL⟩
   ·rw [CT hb23] at h
    refine AS ?_;refine DO AC [(5,.sl 5 (v1.map AA.enc)),(6,.sl 9 (v2.map AG.enc)),(7,.sl 1 (v3.map (cdL 1 cdI).enc)),(8,.sl 1 (v4.map cdI.enc)),(9,.sl 1 (v5.1.map cdI.enc)),(10,.v (.int .i64 v5.2)),(11,.v (.int .i64 (wr .i64 (c16 + 1)))),(12,.v (.int .i64 c8)),(42,.sl 1 (v3.map (cdL 1 cdI).enc)),(43,.v (.int .i64 (v3.length:Int))),(44,.v (.int .i64 c8)),(57,.sl 1 (v10.map cdI.enc)),(58,.v (.int .i64 (v10.length:Int))),(59,.v (.int .i64 c17))] [] ?_;refine DO AC [(5,.sl 5 (v1.map AA.enc)),(6,.sl 9 (v2.map AG.enc)),(7,.sl 1 (v3.map (cdL 1 cdI).enc)),(8,.sl 1 (v4.map cdI.enc)),(9,.sl 1 (v5.1.map cdI.enc)),(10,.v (.int .i64 v5.2)),(11,.v (.int .i64 (wr .i64 (c16 + 1)))),(12,.v (.int .i64 c8)),(42,.sl 1 (v3.map (cdL 1 cdI).enc)),(43,.v (.int .i64 (v3.length:Int))),(44,.v (.int .i64 c8)),(57,.sl 1 (v10.map cdI.enc)),(58,.v (.int .i64 (v10.length:Int))),(59,.v (.int .i64 (wr .i64 (c17 + 1))))] [] ?_;exact A9 (s1:=⟨Fr 194 [(5,.sl 5 (v1.map AA.enc)),(6,.sl 9 (v2.map AG.enc)),(7,.sl 1 (v3.map (cdL 1 cdI).enc)),(8,.sl 1 (v4.map cdI.enc)),(9,.sl 1 (v5.1.map cdI.enc)),(10,.v (.int .i64 v5.2)),(11,.v (.int .i64 (wr .i64 (c16 + 1)))),(12,.v (.int .i64 c8)),(42,.sl 1 (v3.map (cdL 1 cdI).enc)),(43,.v (.int .i64 (v3.length:Int))),(44,.v (.int .i64 c8)),(57,.sl 1 (v10.map cdI.enc)),(58,.v (.int .i64 (v10.length:Int))),(59,.v (.int .i64 (wr .i64 (c17 + 1))))],[]⟩) AL (ih (wr .i64 (c16 + 1)) (wr .i64 (c17 + 1)) h)
  ·rw [CT hb18] at h
   refine DE ?_;have hq:=OI h; subst hq;exact ⟨rfl,AL⟩
theorem GX (v1:(List AF)) (v2:(List A6)) (v3:(List (List Int))) (v4:(List Int)) (v5:(List Int)×Int):∀ (f:Nat) (c7:Int) (c8:Int) (r:(Int) ⊕ (Bool)),BH v1 v2 v3 v4 v5 f c7 c8=some r->SemN E0 ⟨none,false⟩ (pc CY [1,1,1,1,1,1,0,1,0,0]) f ⟨Fr 194 [(5,.sl 5 (v1.map AA.enc)),(6,.sl 9 (v2.map AG.enc)),(7,.sl 1 (v3.map (cdL 1 cdI).enc)),(8,.sl 1 (v4.map cdI.enc)),(9,.sl 1 (v5.1.map cdI.enc)),(10,.v (.int .i64 v5.2)),(11,.v (.int .i64 c7)),(42,.sl 1 (v3.map (cdL 1 cdI).enc)),(43,.v (.int .i64 (v3.length:Int))),(44,.v (.int .i64 c8))],[]⟩ (fun e s=>match r with
 | (.inl w)=>e=(.exit 0)/\Wk E0 s ⟨Fr 194 [(5,.sl 5 (v1.map AA.enc)),(6,.sl 9 (v2.map AG.enc)),(7,.sl 1 (v3.map (cdL 1 cdI).enc)),(8,.sl 1 (v4.map cdI.enc)),(9,.sl 1 (v5.1.map cdI.enc)),(10,.v (.int .i64 v5.2)),(11,.v (.int .i64 w))],[]⟩
 | (.inr w)=>e = .ret/\Wk E0 s ⟨Fr 194 [(4,.v (.bool w))],[]⟩):=by
 intro f;induction f with
 | zero=>intro c7 c8 r h; cases h
 | succ f ih0 =>
  intro c7 c8 r h
  have ih:=fun (c7:Int) (c8:Int)=>ih0 c7 c8 r
  unfold BH at h;refine Ch ?_;refine AK AC [(5,.sl 5 (v1.map AA.enc)),(6,.sl 9 (v2.map AG.enc)),(7,.sl 1 (v3.map (cdL 1 cdI).enc)),(8,.sl 1 (v4.map cdI.enc)),(9,.sl 1 (v5.1.map cdI.enc)),(10,.v (.int .i64 v5.2)),(11,.v (.int .i64 c7)),(42,.sl 1 (v3.map (cdL 1 cdI).enc)),(43,.v (.int .i64 (v3.length:Int))),(44,.v (.int .i64 c8)),(45,.v (.bool (decide (c8 < (v3.length:Int)))))] [] ?_;refine AH ?_;refine AO (b:=(decide (c8 < (v3.length:Int)))) kr (fun hb9=>?_) (fun hb9=>?_)
  ·rw [if_pos hb9] at h
   refine AS ?_;refine AH ?_;refine Ay ?_;refine AH ?_;obtain ⟨v10,hv10,h⟩:=OB h;refine AI (s1:=⟨Fr 194 [(5,.sl 5 (v1.map AA.enc)),(6,.sl 9 (v2.map AG.enc)),(7,.sl 1 (v3.map (cdL 1 cdI).enc)),(8,.sl 1 (v4.map cdI.enc)),(9,.sl 1 (v5.1.map cdI.enc)),(10,.v (.int .i64 v5.2)),(11,.v (.int .i64 c7)),(12,.v (.int .i64 c8)),(13,.sl 1 (v10.map cdI.enc)),(42,.sl 1 (v3.map (cdL 1 cdI).enc)),(43,.v (.int .i64 (v3.length:Int))),(44,.v (.int .i64 c8))],[]⟩) ?_ ?_
   ·refine AD (n:=194) AC 1 [(5,.sl 5 (v1.map AA.enc)),(6,.sl 9 (v2.map AG.enc)),(7,.sl 1 (v3.map (cdL 1 cdI).enc)),(8,.sl 1 (v4.map cdI.enc)),(9,.sl 1 (v5.1.map cdI.enc)),(10,.v (.int .i64 v5.2)),(11,.v (.int .i64 c7)),(42,.sl 1 (v3.map (cdL 1 cdI).enc)),(43,.v (.int .i64 (v3.length:Int))),(44,.v (.int .i64 c8)),(46,.v (.int .i64 c8))] [] kr ?_
    refine AP AC 0 rfl (Dq (AB rfl) rfl (Ac (a:= .sl 1 (v3.map (cdL 1 cdI).enc)) (b:= .v (.int .i64 c8)) kr kr (Fa (e:=(cdL 1 cdI).enc) (el:=48) (k:=1) (ki:= .i64) kr kr hv10))) ?_;exact AY AC
   refine AH ?_;refine AH ?_;obtain ⟨j13,hj13,h⟩:=OB h;refine AI (s1:=⟨Fr 194 [(5,.sl 5 (v1.map AA.enc)),(6,.sl 9 (v2.map AG.enc)),(7,.sl 1 (v3.map (cdL 1 cdI).enc)),(8,.sl 1 (v4.map cdI.enc)),(9,.sl 1 (v5.1.map cdI.enc)),(10,.v (.int .i64 v5.2)),(11,.v (.int .i64 c7)),(12,.v (.int .i64 c8)),(13,.sl 1 (v10.map cdI.enc)),(42,.sl 1 (v3.map (cdL 1 cdI).enc)),(43,.v (.int .i64 (v3.length:Int))),(44,.v (.int .i64 c8)),(56,.v (.bool j13))],[]⟩) ?_ ?_
   ·refine AD (n:=194) AC 1 [(5,.sl 5 (v1.map AA.enc)),(6,.sl 9 (v2.map AG.enc)),(7,.sl 1 (v3.map (cdL 1 cdI).enc)),(8,.sl 1 (v4.map cdI.enc)),(9,.sl 1 (v5.1.map cdI.enc)),(10,.v (.int .i64 v5.2)),(11,.v (.int .i64 c7)),(12,.v (.int .i64 c8)),(13,.sl 1 (v10.map cdI.enc)),(42,.sl 1 (v3.map (cdL 1 cdI).enc)),(43,.v (.int .i64 (v3.length:Int))),(44,.v (.int .i64 c8)),(49,.sl 1 (v10.map cdI.enc))] [] kr ?_
    refine AP AC 0 rfl (Dq (AB rfl) rfl (Dg (a:= .sl 1 (v10.map cdI.enc)) kr (CW (el:=3) kr))) ?_;refine AD (n:=194) AC 2 [(5,.sl 5 (v1.map AA.enc)),(6,.sl 9 (v2.map AG.enc)),(7,.sl 1 (v3.map (cdL 1 cdI).enc)),(8,.sl 1 (v4.map cdI.enc)),(9,.sl 1 (v5.1.map cdI.enc)),(10,.v (.int .i64 v5.2)),(11,.v (.int .i64 c7)),(12,.v (.int .i64 c8)),(13,.sl 1 (v10.map cdI.enc)),(42,.sl 1 (v3.map (cdL 1 cdI).enc)),(43,.v (.int .i64 (v3.length:Int))),(44,.v (.int .i64 c8)),(52,.v (.bool ((v10.length:Int)==0)))] [] kr ?_;rcases BE ((v10.length:Int)==0) with hc31 | hc31
    ·rw [if_pos hc31] at hj13
     rw [hc31];refine AD (n:=194) AC 4 [(5,.sl 5 (v1.map AA.enc)),(6,.sl 9 (v2.map AG.enc)),(7,.sl 1 (v3.map (cdL 1 cdI).enc)),(8,.sl 1 (v4.map cdI.enc)),(9,.sl 1 (v5.1.map cdI.enc)),(10,.v (.int .i64 v5.2)),(11,.v (.int .i64 c7)),(12,.v (.int .i64 c8)),(13,.sl 1 (v10.map cdI.enc)),(42,.sl 1 (v3.map (cdL 1 cdI).enc)),(43,.v (.int .i64 (v3.length:Int))),(44,.v (.int .i64 c8)),(53,.tp []),(54,.tp []),(55,.tp []),(56,.v (.bool true))] [] kr ?_;have hq:=OI hj13; subst hq;exact AJ rfl AL
    ·rw [CT hc31] at hj13
     rw [hc31];refine AD (n:=194) AC 1 [(5,.sl 5 (v1.map AA.enc)),(6,.sl 9 (v2.map AG.enc)),(7,.sl 1 (v3.map (cdL 1 cdI).enc)),(8,.sl 1 (v4.map cdI.enc)),(9,.sl 1 (v5.1.map cdI.enc)),(10,.v (.int .i64 v5.2)),(11,.v (.int .i64 c7)),(12,.v (.int .i64 c8)),(13,.sl 1 (v10.map cdI.enc)),(42,.sl 1 (v3.map (cdL 1 cdI).enc)),(43,.v (.int .i64 (v3.length:Int))),(44,.v (.int .i64 c8)),(52,.v (.bool false)),(53,.sl 1 (v10.map cdI.enc))] [] kr ?_;obtain ⟨v11,hv11,hj13⟩:=OB hj13;refine AW (caps:=[]) (xs:=[.sl 1 (v10.map cdI.enc)]) (u:=(v10,())) rfl rfl JY rfl kr kr kr (AN (AZ (c:=(cdL 1 cdI)) (v:=v10)) BA) (.inl kr) hv11 ?_;refine AD (n:=194) AC 2 [(5,.sl 5 (v1.map AA.enc)),(6,.sl 9 (v2.map AG.enc)),(7,.sl 1 (v3.map (cdL 1 cdI).enc)),(8,.sl 1 (v4.map cdI.enc)),(9,.sl 1 (v5.1.map cdI.enc)),(10,.v (.int .i64 v5.2)),(11,.v (.int .i64 c7)),(12,.v (.int .i64 c8)),(13,.sl 1 (v10.map cdI.enc)),(42,.sl 1 (v3.map (cdL 1 cdI).enc)),(43,.v (.int .i64 (v3.length:Int))),(44,.v (.int .i64 c8)),(53,.sl 1 (v10.map cdI.enc)),(54,.v (.bool v11)),(55,.v (.bool (!v11))),(56,.v (.bool (!v11)))] [] kr ?_;have hq:=OI hj13; subst hq;exact AJ rfl AL
   refine AO (b:=j13) kr (fun hb14=>?_) (fun hb14=>?_)
   ·rw [if_pos hb14] at h
    refine AK AC [(4,.v (.bool false))] [] ?_;refine AQ ?_;have hq:=OI h; subst hq;exact ⟨rfl,AL⟩
   ·rw [CT hb14] at h
    refine AS ?_;refine AH ?_;refine AI (s1:=⟨Fr 194 [(5,.sl 5 (v1.map AA.enc)),(6,.sl 9 (v2.map AG.enc)),(7,.sl 1 (v3.map (cdL 1 cdI).enc)),(8,.sl 1 (v4.map cdI.enc)),(9,.sl 1 (v5.1.map cdI.enc)),(10,.v (.int .i64 v5.2)),(11,.v (.int .i64 c7)),(12,.v (.int .i64 c8)),(42,.sl 1 (v3.map (cdL 1 cdI).enc)),(43,.v (.int .i64 (v3.length:Int))),(44,.v (.int .i64 c8)),(57,.sl 1 (v10.map cdI.enc)),(58,.v (.int .i64 (v10.length:Int))),(59,.v (.int .i64 0))],[]⟩) ?_ ?_
    ·refine AD (n:=194) AC 1 [(5,.sl 5 (v1.map AA.enc)),(6,.sl 9 (v2.map AG.enc)),(7,.sl 1 (v3.map (cdL 1 cdI).enc)),(8,.sl 1 (v4.map cdI.enc)),(9,.sl 1 (v5.1.map cdI.enc)),(10,.v (.int .i64 v5.2)),(11,.v (.int .i64 c7)),(12,.v (.int .i64 c8)),(42,.sl 1 (v3.map (cdL 1 cdI).enc)),(43,.v (.int .i64 (v3.length:Int))),(44,.v (.int .i64 c8)),(57,.sl 1 (v10.map cdI.enc))] [] kr ?_
     refine AP AC 0 rfl (Dq (AB rfl) rfl (Dg (a:= .sl 1 (v10.map cdI.enc)) kr (CW (el:=3) kr))) ?_;exact AY AC
    refine Ay ?_;obtain ⟨r28,hr28,h⟩:=OB h;refine DF (n:=100000) ?_;rcases r28 with w29 | w30
    ·try dsimp only at h
     refine Bd (A9 (s1:=⟨Fr 194 [(5,.sl 5 (v1.map AA.enc)),(6,.sl 9 (v2.map AG.enc)),(7,.sl 1 (v3.map (cdL 1 cdI).enc)),(8,.sl 1 (v4.map cdI.enc)),(9,.sl 1 (v5.1.map cdI.enc)),(10,.v (.int .i64 v5.2)),(11,.v (.int .i64 c7)),(12,.v (.int .i64 c8)),(42,.sl 1 (v3.map (cdL 1 cdI).enc)),(43,.v (.int .i64 (v3.length:Int))),(44,.v (.int .i64 c8)),(57,.sl 1 (v10.map cdI.enc)),(58,.v (.int .i64 (v10.length:Int))),(59,.v (.int .i64 0))],[]⟩) AL (GY v1 v2 v3 v4 v5 c8 v10 _ c7 0 _ hr28)) ?_;refine DO AC [(5,.sl 5 (v1.map AA.enc)),(6,.sl 9 (v2.map AG.enc)),(7,.sl 1 (v3.map (cdL 1 cdI).enc)),(8,.sl 1 (v4.map cdI.enc)),(9,.sl 1 (v5.1.map cdI.enc)),(10,.v (.int .i64 v5.2)),(11,.v (.int .i64 w29)),(42,.sl 1 (v3.map (cdL 1 cdI).enc)),(43,.v (.int .i64 (v3.length:Int))),(44,.v (.int .i64 (wr .i64 (c8 + 1))))] [] ?_;exact A9 (s1:=⟨Fr 194 [(5,.sl 5 (v1.map AA.enc)),(6,.sl 9 (v2.map AG.enc)),(7,.sl 1 (v3.map (cdL 1 cdI).enc)),(8,.sl 1 (v4.map cdI.enc)),(9,.sl 1 (v5.1.map cdI.enc)),(10,.v (.int .i64 v5.2)),(11,.v (.int .i64 w29)),(42,.sl 1 (v3.map (cdL 1 cdI).enc)),(43,.v (.int .i64 (v3.length:Int))),(44,.v (.int .i64 (wr .i64 (c8 + 1))))],[]⟩) AL (ih w29 (wr .i64 (c8 + 1)) h)
    ·try dsimp only at h
     refine Bd (A9 (s1:=⟨Fr 194 [(5,.sl 5 (v1.map AA.enc)),(6,.sl 9 (v2.map AG.enc)),(7,.sl 1 (v3.map (cdL 1 cdI).enc)),(8,.sl 1 (v4.map cdI.enc)),(9,.sl 1 (v5.1.map cdI.enc)),(10,.v (.int .i64 v5.2)),(11,.v (.int .i64 c7)),(12,.v (.int .i64 c8)),(42,.sl 1 (v3.map (cdL 1 cdI).enc)),(43,.v (.int .i64 (v3.length:Int))),(44,.v (.int .i64 c8)),(57,.sl 1 (v10.map cdI.enc)),(58,.v (.int .i64 (v10.length:Int))),(59,.v (.int .i64 0))],[]⟩) AL (GY v1 v2 v3 v4 v5 c8 v10 _ c7 0 _ hr28)) ?_;have hq:=OI h; subst hq;exact ⟨rfl,AL⟩
  ·rw [CT hb9] at h
   refine DE ?_;have hq:=OI h; subst hq;exact ⟨rfl,AL⟩
theorem Ga (v1:(List AF)) (v2:(List A6)) (v3:(List (List Int))) (v4:(List Int)) (v5:(List Int)×Int) (w34:Int) (c35:Int):∀ (f:Nat) (c37:Int) (r:(Unit) ⊕ (Bool)),Ba v1 v2 v3 v4 v5 w34 c35 f c37=some r->SemN E0 ⟨none,false⟩ (pc CY [1,1,1,1,1,1,1,0,1,0,0,1,1,0,0,1,1,0,0]) f ⟨Fr 194 [(5,.sl 5 (v1.map AA.enc)),(6,.sl 9 (v2.map AG.enc)),(7,.sl 1 (v3.map (cdL 1 cdI).enc)),(8,.sl 1 (v4.map cdI.enc)),(9,.sl 1 (v5.1.map cdI.enc)),(10,.v (.int .i64 v5.2)),(11,.v (.int .i64 w34)),(16,.v (.int .i64 c35)),(84,.v (.int .i64 (v2.length:Int))),(85,.v (.int .i64 c35)),(89,.v (.int .i64 (v2.length:Int))),(90,.v (.int .i64 c37))],[]⟩ (fun e s=>match r with
 | (.inl _w)=>e=(.exit 6)/\Wk E0 s ⟨Fr 194 [(5,.sl 5 (v1.map AA.enc)),(6,.sl 9 (v2.map AG.enc)),(7,.sl 1 (v3.map (cdL 1 cdI).enc)),(8,.sl 1 (v4.map cdI.enc)),(9,.sl 1 (v5.1.map cdI.enc)),(10,.v (.int .i64 v5.2)),(11,.v (.int .i64 w34)),(84,.v (.int .i64 (v2.length:Int))),(85,.v (.int .i64 c35))],[]⟩
 | (.inr w)=>e = .ret/\Wk E0 s ⟨Fr 194 [(4,.v (.bool w))],[]⟩):=by
 intro f;induction f with
 | zero=>intro c37 r h; cases h
 | succ f ih0 =>
  intro c37 r h
  have ih:=fun (c37:Int)=>ih0 c37 r
  unfold Ba at h;refine Ch ?_;refine AK AC [(5,.sl 5 (v1.map AA.enc)),(6,.sl 9 (v2.map AG.enc)),(7,.sl 1 (v3.map (cdL 1 cdI).enc)),(8,.sl 1 (v4.map cdI.enc)),(9,.sl 1 (v5.1.map cdI.enc)),(10,.v (.int .i64 v5.2)),(11,.v (.int .i64 w34)),(16,.v (.int .i64 c35)),(84,.v (.int .i64 (v2.length:Int))),(85,.v (.int .i64 c35)),(89,.v (.int .i64 (v2.length:Int))),(90,.v (.int .i64 c37)),(91,.v (.bool (decide (c37 < (v2.length:Int)))))] [] ?_;refine AH ?_;refine AO (b:=(decide (c37 < (v2.length:Int)))) kr (fun hb38=>?_) (fun hb38=>?_)
  ·rw [if_pos hb38] at h
   refine AS ?_;refine AH ?_;refine Ay ?_;refine AK AC [(5,.sl 5 (v1.map AA.enc)),(6,.sl 9 (v2.map AG.enc)),(7,.sl 1 (v3.map (cdL 1 cdI).enc)),(8,.sl 1 (v4.map cdI.enc)),(9,.sl 1 (v5.1.map cdI.enc)),(10,.v (.int .i64 v5.2)),(11,.v (.int .i64 w34)),(16,.v (.int .i64 c35)),(17,.v (.int .i64 c37)),(84,.v (.int .i64 (v2.length:Int))),(85,.v (.int .i64 c35)),(89,.v (.int .i64 (v2.length:Int))),(90,.v (.int .i64 c37))] [] ?_;refine AH ?_;obtain ⟨v39,hv39,h⟩:=OB h;obtain ⟨v40,hv40,h⟩:=OB h;obtain ⟨v41,hv41,h⟩:=OB h;refine ES AC (s1:=⟨Fr 194 [(5,.sl 5 (v1.map AA.enc)),(6,.sl 9 (v2.map AG.enc)),(7,.sl 1 (v3.map (cdL 1 cdI).enc)),(8,.sl 1 (v4.map cdI.enc)),(9,.sl 1 (v5.1.map cdI.enc)),(10,.v (.int .i64 v5.2)),(11,.v (.int .i64 w34)),(16,.v (.int .i64 c35)),(17,.v (.int .i64 c37)),(18,.v (.int .i64 v41)),(84,.v (.int .i64 (v2.length:Int))),(85,.v (.int .i64 c35)),(89,.v (.int .i64 (v2.length:Int))),(90,.v (.int .i64 c37))],[]⟩) kr ?_ ?_
   ·refine Ar (n:=194) AC 3 [(5,.sl 5 (v1.map AA.enc)),(6,.sl 9 (v2.map AG.enc)),(7,.sl 1 (v3.map (cdL 1 cdI).enc)),(8,.sl 1 (v4.map cdI.enc)),(9,.sl 1 (v5.1.map cdI.enc)),(10,.v (.int .i64 v5.2)),(11,.v (.int .i64 w34)),(16,.v (.int .i64 c35)),(17,.v (.int .i64 c37)),(84,.v (.int .i64 (v2.length:Int))),(85,.v (.int .i64 c35)),(89,.v (.int .i64 (v2.length:Int))),(90,.v (.int .i64 c37)),(93,.sl 5 (v1.map AA.enc)),(94,.sl 9 (v2.map AG.enc)),(95,.v (.int .i64 c35))] [] kr kr ?_
    refine RunDS.one AC rfl kr (Ng kr (AB rfl) rfl (Ac (a:= .sl 9 (v2.map AG.enc)) (b:= .v (.int .i64 c35)) kr kr (Fa (e:=AG.enc) (el:=42) (k:=9) (ki:= .i64) kr kr hv39)) kr) ?_;refine Ar (n:=194) AC 3 [(5,.sl 5 (v1.map AA.enc)),(6,.sl 9 (v2.map AG.enc)),(7,.sl 1 (v3.map (cdL 1 cdI).enc)),(8,.sl 1 (v4.map cdI.enc)),(9,.sl 1 (v5.1.map cdI.enc)),(10,.v (.int .i64 v5.2)),(11,.v (.int .i64 w34)),(16,.v (.int .i64 c35)),(17,.v (.int .i64 c37)),(84,.v (.int .i64 (v2.length:Int))),(85,.v (.int .i64 c35)),(89,.v (.int .i64 (v2.length:Int))),(90,.v (.int .i64 c37)),(93,.sl 5 (v1.map AA.enc)),(97,AG.enc v39),(98,.sl 9 (v2.map AG.enc)),(99,.v (.int .i64 c37))] [] kr kr ?_;refine RunDS.one AC rfl kr (Ng kr (AB rfl) rfl (Ac (a:= .sl 9 (v2.map AG.enc)) (b:= .v (.int .i64 c37)) kr kr (Fa (e:=AG.enc) (el:=42) (k:=9) (ki:= .i64) kr kr hv40)) kr) ?_;refine Ar (n:=194) AC 3 [(5,.sl 5 (v1.map AA.enc)),(6,.sl 9 (v2.map AG.enc)),(7,.sl 1 (v3.map (cdL 1 cdI).enc)),(8,.sl 1 (v4.map cdI.enc)),(9,.sl 1 (v5.1.map cdI.enc)),(10,.v (.int .i64 v5.2)),(11,.v (.int .i64 w34)),(16,.v (.int .i64 c35)),(17,.v (.int .i64 c37)),(84,.v (.int .i64 (v2.length:Int))),(85,.v (.int .i64 c35)),(89,.v (.int .i64 (v2.length:Int))),(90,.v (.int .i64 c37)),(93,.sl 5 (v1.map AA.enc)),(97,AG.enc v39),(101,AG.enc v40),(102,.v (.int .i64 c35)),(103,.v (.int .i64 c37))] [] kr kr ?_;refine B9 (caps:=[]) (xs:=[.sl 5 (v1.map AA.enc),AG.enc v39,AG.enc v40,.v (.int .i64 c35),.v (.int .i64 c37)]) (u:=(v1,v39,v40,c35,c37,())) rfl rfl N5 rfl (AB rfl) kr kr (AN (AZ (c:=(cdL 5 AA)) (v:=v1)) (AN (AZ (c:=AG) (v:=v39)) (AN (AZ (c:=AG) (v:=v40)) (AN (AZ (c:=cdI) (v:=c35)) (AN (AZ (c:=cdI) (v:=c37)) BA))))) kr hv41 ?_;refine Ar (n:=194) AC 1 [(5,.sl 5 (v1.map AA.enc)),(6,.sl 9 (v2.map AG.enc)),(7,.sl 1 (v3.map (cdL 1 cdI).enc)),(8,.sl 1 (v4.map cdI.enc)),(9,.sl 1 (v5.1.map cdI.enc)),(10,.v (.int .i64 v5.2)),(11,.v (.int .i64 w34)),(16,.v (.int .i64 c35)),(17,.v (.int .i64 c37)),(18,.v (.int .i64 v41)),(84,.v (.int .i64 (v2.length:Int))),(85,.v (.int .i64 c35)),(89,.v (.int .i64 (v2.length:Int))),(90,.v (.int .i64 c37))] [] kr kr ?_
    exact RunDS.done rfl AL
   refine AH ?_;obtain ⟨v42,hv42,h⟩:=OB h;obtain ⟨v43,hv43,h⟩:=OB h;obtain ⟨j47,hj47,h⟩:=OB h;refine ES AC (s1:=⟨Fr 194 [(5,.sl 5 (v1.map AA.enc)),(6,.sl 9 (v2.map AG.enc)),(7,.sl 1 (v3.map (cdL 1 cdI).enc)),(8,.sl 1 (v4.map cdI.enc)),(9,.sl 1 (v5.1.map cdI.enc)),(10,.v (.int .i64 v5.2)),(11,.v (.int .i64 w34)),(16,.v (.int .i64 c35)),(84,.v (.int .i64 (v2.length:Int))),(85,.v (.int .i64 c35)),(89,.v (.int .i64 (v2.length:Int))),(90,.v (.int .i64 c37)),(130,.v (.bool j47))],[]⟩) kr ?_ ?_
   ·refine Ar (n:=194) AC 4 [(5,.sl 5 (v1.map AA.enc)),(6,.sl 9 (v2.map AG.enc)),(7,.sl 1 (v3.map (cdL 1 cdI).enc)),(8,.sl 1 (v4.map cdI.enc)),(9,.sl 1 (v5.1.map cdI.enc)),(10,.v (.int .i64 v5.2)),(11,.v (.int .i64 w34)),(16,.v (.int .i64 c35)),(17,.v (.int .i64 c37)),(18,.v (.int .i64 v41)),(84,.v (.int .i64 (v2.length:Int))),(85,.v (.int .i64 c35)),(89,.v (.int .i64 (v2.length:Int))),(90,.v (.int .i64 c37)),(106,.v (.bool (decide (v41 < 0)))),(107,.sl 1 (v4.map cdI.enc)),(108,.v (.int .i64 c35))] [] kr kr ?_
    refine RunDS.one AC rfl kr (Ng kr (AB rfl) rfl (Ac (a:= .sl 1 (v4.map cdI.enc)) (b:= .v (.int .i64 c35)) kr kr (Fa (e:=cdI.enc) (el:=3) (k:=1) (ki:= .i64) kr kr hv42)) kr) ?_;refine Ar (n:=194) AC 3 [(5,.sl 5 (v1.map AA.enc)),(6,.sl 9 (v2.map AG.enc)),(7,.sl 1 (v3.map (cdL 1 cdI).enc)),(8,.sl 1 (v4.map cdI.enc)),(9,.sl 1 (v5.1.map cdI.enc)),(10,.v (.int .i64 v5.2)),(11,.v (.int .i64 w34)),(16,.v (.int .i64 c35)),(17,.v (.int .i64 c37)),(18,.v (.int .i64 v41)),(84,.v (.int .i64 (v2.length:Int))),(85,.v (.int .i64 c35)),(89,.v (.int .i64 (v2.length:Int))),(90,.v (.int .i64 c37)),(106,.v (.bool (decide (v41 < 0)))),(110,.v (.int .i64 v42)),(111,.sl 1 (v4.map cdI.enc)),(112,.v (.int .i64 c37))] [] kr kr ?_;refine RunDS.one AC rfl kr (Ng kr (AB rfl) rfl (Ac (a:= .sl 1 (v4.map cdI.enc)) (b:= .v (.int .i64 c37)) kr kr (Fa (e:=cdI.enc) (el:=3) (k:=1) (ki:= .i64) kr kr hv43)) kr) ?_;refine Ar (n:=194) AC 4 [(5,.sl 5 (v1.map AA.enc)),(6,.sl 9 (v2.map AG.enc)),(7,.sl 1 (v3.map (cdL 1 cdI).enc)),(8,.sl 1 (v4.map cdI.enc)),(9,.sl 1 (v5.1.map cdI.enc)),(10,.v (.int .i64 v5.2)),(11,.v (.int .i64 w34)),(16,.v (.int .i64 c35)),(17,.v (.int .i64 c37)),(18,.v (.int .i64 v41)),(84,.v (.int .i64 (v2.length:Int))),(85,.v (.int .i64 c35)),(89,.v (.int .i64 (v2.length:Int))),(90,.v (.int .i64 c37)),(117,.v (.bool (!((decide (v41 < 0))==(decide (v42 < v43))))))] [] kr kr ?_;rcases BE (!((decide (v41 < 0))==(decide (v42 < v43)))) with hc50 | hc50
    ·rw [if_pos hc50] at hj47
     rw [hc50];refine Ar (n:=194) AC 13 [(5,.sl 5 (v1.map AA.enc)),(6,.sl 9 (v2.map AG.enc)),(7,.sl 1 (v3.map (cdL 1 cdI).enc)),(8,.sl 1 (v4.map cdI.enc)),(9,.sl 1 (v5.1.map cdI.enc)),(10,.v (.int .i64 v5.2)),(11,.v (.int .i64 w34)),(16,.v (.int .i64 c35)),(84,.v (.int .i64 (v2.length:Int))),(85,.v (.int .i64 c35)),(89,.v (.int .i64 (v2.length:Int))),(90,.v (.int .i64 c37)),(118,.tp []),(119,.tp []),(120,.tp []),(121,.tp []),(122,.tp []),(123,.tp []),(124,.tp []),(125,.tp []),(126,.tp []),(127,.tp []),(128,.tp []),(129,.tp []),(130,.v (.bool true))] [] kr kr ?_;have hq:=OI hj47; subst hq;exact RunDS.done rfl AL
    ·rw [CT hc50] at hj47
     rw [hc50];refine Ar (n:=194) AC 4 [(5,.sl 5 (v1.map AA.enc)),(6,.sl 9 (v2.map AG.enc)),(7,.sl 1 (v3.map (cdL 1 cdI).enc)),(8,.sl 1 (v4.map cdI.enc)),(9,.sl 1 (v5.1.map cdI.enc)),(10,.v (.int .i64 v5.2)),(11,.v (.int .i64 w34)),(16,.v (.int .i64 c35)),(17,.v (.int .i64 c37)),(84,.v (.int .i64 (v2.length:Int))),(85,.v (.int .i64 c35)),(89,.v (.int .i64 (v2.length:Int))),(90,.v (.int .i64 c37)),(117,.v (.bool false)),(118,.v (.int .i64 v41)),(119,.v (.bool (v41==0))),(120,.sl 1 (v4.map cdI.enc)),(121,.v (.int .i64 c35))] [] kr kr ?_;obtain ⟨v44,hv44,hj47⟩:=OB hj47;refine RunDS.one AC rfl kr (Ng kr kr rfl (Ac (a:= .sl 1 (v4.map cdI.enc)) (b:= .v (.int .i64 c35)) kr kr (Fa (e:=cdI.enc) (el:=3) (k:=1) (ki:= .i64) kr kr hv44)) kr) ?_;refine Ar (n:=194) AC 3 [(5,.sl 5 (v1.map AA.enc)),(6,.sl 9 (v2.map AG.enc)),(7,.sl 1 (v3.map (cdL 1 cdI).enc)),(8,.sl 1 (v4.map cdI.enc)),(9,.sl 1 (v5.1.map cdI.enc)),(10,.v (.int .i64 v5.2)),(11,.v (.int .i64 w34)),(16,.v (.int .i64 c35)),(84,.v (.int .i64 (v2.length:Int))),(85,.v (.int .i64 c35)),(89,.v (.int .i64 (v2.length:Int))),(90,.v (.int .i64 c37)),(117,.v (.bool false)),(118,.v (.int .i64 v41)),(119,.v (.bool (v41==0))),(120,.sl 1 (v4.map cdI.enc)),(121,.v (.int .i64 c35)),(122,.pe (.v (.int .i64 v44)) 0),(123,.v (.int .i64 v44)),(124,.sl 1 (v4.map cdI.enc)),(125,.v (.int .i64 c37))] [] kr kr ?_;obtain ⟨v45,hv45,hj47⟩:=OB hj47;refine RunDS.one AC rfl kr (Ng kr kr rfl (Ac (a:= .sl 1 (v4.map cdI.enc)) (b:= .v (.int .i64 c37)) kr kr (Fa (e:=cdI.enc) (el:=3) (k:=1) (ki:= .i64) kr kr hv45)) kr) ?_;refine Ar (n:=194) AC 4 [(5,.sl 5 (v1.map AA.enc)),(6,.sl 9 (v2.map AG.enc)),(7,.sl 1 (v3.map (cdL 1 cdI).enc)),(8,.sl 1 (v4.map cdI.enc)),(9,.sl 1 (v5.1.map cdI.enc)),(10,.v (.int .i64 v5.2)),(11,.v (.int .i64 w34)),(16,.v (.int .i64 c35)),(84,.v (.int .i64 (v2.length:Int))),(85,.v (.int .i64 c35)),(89,.v (.int .i64 (v2.length:Int))),(90,.v (.int .i64 c37)),(118,.v (.int .i64 v41)),(119,.v (.bool (v41==0))),(120,.sl 1 (v4.map cdI.enc)),(121,.v (.int .i64 c35)),(122,.pe (.v (.int .i64 v44)) 0),(123,.v (.int .i64 v44)),(124,.sl 1 (v4.map cdI.enc)),(125,.v (.int .i64 c37)),(126,.pe (.v (.int .i64 v45)) 0),(127,.v (.int .i64 v45)),(128,.v (.bool (v44==v45))),(129,.v (.bool (!((v41==0)==(v44==v45))))),(130,.v (.bool (!((v41==0)==(v44==v45)))))] [] kr kr ?_
     have hq:=OI hj47; subst hq;exact RunDS.done rfl AL
   refine AO (b:=j47) kr (fun hb48=>?_) (fun hb48=>?_)
   ·rw [if_pos hb48] at h
    refine AK AC [(4,.v (.bool false))] [] ?_;refine AQ ?_;have hq:=OI h; subst hq;exact ⟨rfl,AL⟩
   ·rw [CT hb48] at h
    refine AS ?_;refine DO AC [(5,.sl 5 (v1.map AA.enc)),(6,.sl 9 (v2.map AG.enc)),(7,.sl 1 (v3.map (cdL 1 cdI).enc)),(8,.sl 1 (v4.map cdI.enc)),(9,.sl 1 (v5.1.map cdI.enc)),(10,.v (.int .i64 v5.2)),(11,.v (.int .i64 w34)),(16,.v (.int .i64 c35)),(84,.v (.int .i64 (v2.length:Int))),(85,.v (.int .i64 c35)),(89,.v (.int .i64 (v2.length:Int))),(90,.v (.int .i64 (wr .i64 (c37 + 1))))] [] ?_;exact A9 (s1:=⟨Fr 194 [(5,.sl 5 (v1.map AA.enc)),(6,.sl 9 (v2.map AG.enc)),(7,.sl 1 (v3.map (cdL 1 cdI).enc)),(8,.sl 1 (v4.map cdI.enc)),(9,.sl 1 (v5.1.map cdI.enc)),(10,.v (.int .i64 v5.2)),(11,.v (.int .i64 w34)),(16,.v (.int .i64 c35)),(84,.v (.int .i64 (v2.length:Int))),(85,.v (.int .i64 c35)),(89,.v (.int .i64 (v2.length:Int))),(90,.v (.int .i64 (wr .i64 (c37 + 1))))],[]⟩) AL (ih (wr .i64 (c37 + 1)) h)
  ·rw [CT hb38] at h
   refine DE ?_;have hq:=OI h; subst hq;exact ⟨rfl,AL⟩
theorem GZ (v1:(List AF)) (v2:(List A6)) (v3:(List (List Int))) (v4:(List Int)) (v5:(List Int)×Int) (w34:Int):∀ (f:Nat) (c35:Int) (r:(Unit) ⊕ (Bool)),BZ v1 v2 v3 v4 v5 w34 f c35=some r->SemN E0 ⟨none,false⟩ (pc CY [1,1,1,1,1,1,1,0,1,0,0]) f ⟨Fr 194 [(5,.sl 5 (v1.map AA.enc)),(6,.sl 9 (v2.map AG.enc)),(7,.sl 1 (v3.map (cdL 1 cdI).enc)),(8,.sl 1 (v4.map cdI.enc)),(9,.sl 1 (v5.1.map cdI.enc)),(10,.v (.int .i64 v5.2)),(11,.v (.int .i64 w34)),(84,.v (.int .i64 (v2.length:Int))),(85,.v (.int .i64 c35))],[]⟩ (fun e s=>match r with
 | (.inl _w)=>e=(.exit 4)/\Wk E0 s ⟨Fr 194 [(6,.sl 9 (v2.map AG.enc)),(7,.sl 1 (v3.map (cdL 1 cdI).enc)),(8,.sl 1 (v4.map cdI.enc)),(9,.sl 1 (v5.1.map cdI.enc)),(10,.v (.int .i64 v5.2)),(11,.v (.int .i64 w34))],[]⟩
 | (.inr w)=>e = .ret/\Wk E0 s ⟨Fr 194 [(4,.v (.bool w))],[]⟩):=by
 intro f;induction f with
 | zero=>intro c35 r h; cases h
 | succ f ih0 =>
  intro c35 r h
  have ih:=fun (c35:Int)=>ih0 c35 r
  unfold BZ at h;refine Ch ?_
  let p1:Nat×AV:=(85,.v (.int .i64 c35))
  let p2:Nat×AV:=(84,.v (.int .i64 (v2.length:Int)))
  let p3:Nat×AV:=(11,.v (.int .i64 w34))
  let p4:Nat×AV:=(10,.v (.int .i64 v5.2))
  let p5:Nat×AV:=(9,.sl 1 (v5.1.map cdI.enc))
  let p6:Nat×AV:=(8,.sl 1 (v4.map cdI.enc))
  let p7:Nat×AV:=(7,.sl 1 (v3.map (cdL 1 cdI).enc))
  let p8:Nat×AV:=(6,.sl 9 (v2.map AG.enc))
  let p9:Nat×AV:=(5,.sl 5 (v1.map AA.enc))
  refine AK AC [p9,p8,p7,p6,p5,p4,p3,p2,p1,(86,.v (.bool (decide (c35 < (v2.length:Int)))))] [] ?_;refine AH ?_;refine AO (b:=(decide (c35 < (v2.length:Int)))) kr (fun hb36=>?_) (fun hb36=>?_)
  ·rw [if_pos hb36] at h
   refine AS ?_;refine AH ?_;refine Ay ?_
   let p10:Nat×AV:=(16,.v (.int .i64 c35))
   refine AK AC [p9,p8,p7,p6,p5,p4,p3,p10,p2,p1] [] ?_;refine AH ?_
   let p11:Nat×AV:=(90,.v (.int .i64 0))
   let p12:Nat×AV:=(89,.v (.int .i64 (v2.length:Int)))
   refine AI (s1:=⟨Fr 194 [p9,p8,p7,p6,p5,p4,p3,p10,p2,p1,p12,p11],[]⟩) ?_ ?_
   ·refine AD (n:=194) AC 1 [p9,p8,p7,p6,p5,p4,p3,p10,p2,p1,(88,.sl 9 (v2.map AG.enc))] [] kr ?_
    refine AP AC 0 rfl (Dq (AB rfl) rfl (Dg (a:= .sl 9 (v2.map AG.enc)) kr (CW (el:=42) kr))) ?_;exact AY AC
   refine Ay ?_;obtain ⟨r51,hr51,h⟩:=OB h;refine DF (n:=100000) ?_;rcases r51 with w52 | w53
   ·try dsimp only at h
    refine Bd (A9 (s1:=⟨Fr 194 [p9,p8,p7,p6,p5,p4,p3,p10,p2,p1,p12,p11],[]⟩) AL (Ga v1 v2 v3 v4 v5 w34 c35 _ 0 _ hr51)) ?_
    let p13:Nat×AV:=(85,.v (.int .i64 (wr .i64 (c35 + 1))))
    refine DO AC [p9,p8,p7,p6,p5,p4,p3,p2,p13] [] ?_;exact A9 (s1:=⟨Fr 194 [p9,p8,p7,p6,p5,p4,p3,p2,p13],[]⟩) AL (ih (wr .i64 (c35 + 1)) h)
   ·try dsimp only at h
    refine Bd (A9 (s1:=⟨Fr 194 [p9,p8,p7,p6,p5,p4,p3,p10,p2,p1,p12,p11],[]⟩) AL (Ga v1 v2 v3 v4 v5 w34 c35 _ 0 _ hr51)) ?_;have hq:=OI h; subst hq;exact ⟨rfl,AL⟩
  ·rw [CT hb36] at h
   refine DE ?_;have hq:=OI h; subst hq;exact ⟨rfl,AL⟩
theorem Gb (v2:(List A6)) (v4:(List Int)) (v5:(List Int)×Int):∀ (f:Nat) (c64:Int) (r:(Unit) ⊕ (Bool)),Bb v2 v4 v5 f c64=some r->SemN E0 ⟨none,false⟩ (pc CY [1,1,1,1,1,1,1,1,1,1,0,1,0,0]) f ⟨Fr 194 [(6,.sl 9 (v2.map AG.enc)),(8,.sl 1 (v4.map cdI.enc)),(9,.sl 1 (v5.1.map cdI.enc)),(10,.v (.int .i64 v5.2)),(152,.sl 1 (v5.1.map cdI.enc)),(153,.v (.int .i64 (v5.1.length:Int))),(154,.v (.int .i64 c64))],[]⟩ (fun e s=>match r with
 | (.inl _w)=>e=(.exit 8)/\Wk E0 s ⟨Fr 194 [(6,.sl 9 (v2.map AG.enc)),(8,.sl 1 (v4.map cdI.enc)),(9,.sl 1 (v5.1.map cdI.enc)),(10,.v (.int .i64 v5.2))],[]⟩
 | (.inr w)=>e = .ret/\Wk E0 s ⟨Fr 194 [(4,.v (.bool w))],[]⟩):=by
 intro f;induction f with
 | zero=>intro c64 r h; cases h
 | succ f ih0 =>
  intro c64 r h
  have ih:=fun (c64:Int)=>ih0 c64 r
  unfold Bb at h;refine Ch ?_;refine AK AC [(6,.sl 9 (v2.map AG.enc)),(8,.sl 1 (v4.map cdI.enc)),(9,.sl 1 (v5.1.map cdI.enc)),(10,.v (.int .i64 v5.2)),(152,.sl 1 (v5.1.map cdI.enc)),(153,.v (.int .i64 (v5.1.length:Int))),(154,.v (.int .i64 c64)),(155,.v (.bool (decide (c64 < (v5.1.length:Int)))))] [] ?_;refine AH ?_;refine AO (b:=(decide (c64 < (v5.1.length:Int)))) kr (fun hb65=>?_) (fun hb65=>?_)
  ·rw [if_pos hb65] at h
   refine AS ?_;refine AH ?_;refine Ay ?_;refine AH ?_;obtain ⟨v66,hv66,h⟩:=OB h;refine AI (s1:=⟨Fr 194 [(6,.sl 9 (v2.map AG.enc)),(8,.sl 1 (v4.map cdI.enc)),(9,.sl 1 (v5.1.map cdI.enc)),(10,.v (.int .i64 v5.2)),(19,.v (.int .i64 c64)),(20,.v (.int .i64 v66)),(152,.sl 1 (v5.1.map cdI.enc)),(153,.v (.int .i64 (v5.1.length:Int))),(154,.v (.int .i64 c64))],[]⟩) ?_ ?_
   ·refine AD (n:=194) AC 1 [(6,.sl 9 (v2.map AG.enc)),(8,.sl 1 (v4.map cdI.enc)),(9,.sl 1 (v5.1.map cdI.enc)),(10,.v (.int .i64 v5.2)),(152,.sl 1 (v5.1.map cdI.enc)),(153,.v (.int .i64 (v5.1.length:Int))),(154,.v (.int .i64 c64)),(156,.v (.int .i64 c64))] [] kr ?_
    refine AP AC 0 rfl (Dq (AB rfl) rfl (Ac (a:= .sl 1 (v5.1.map cdI.enc)) (b:= .v (.int .i64 c64)) kr kr (Fa (e:=cdI.enc) (el:=3) (k:=1) (ki:= .i64) kr kr hv66))) ?_;exact AY AC
   refine AH ?_;obtain ⟨j69,hj69,h⟩:=OB h;refine AI (s1:=⟨Fr 194 [(6,.sl 9 (v2.map AG.enc)),(8,.sl 1 (v4.map cdI.enc)),(9,.sl 1 (v5.1.map cdI.enc)),(10,.v (.int .i64 v5.2)),(152,.sl 1 (v5.1.map cdI.enc)),(153,.v (.int .i64 (v5.1.length:Int))),(154,.v (.int .i64 c64)),(174,.v (.bool j69))],[]⟩) ?_ ?_
   ·refine AD (n:=194) AC 3 [(6,.sl 9 (v2.map AG.enc)),(8,.sl 1 (v4.map cdI.enc)),(9,.sl 1 (v5.1.map cdI.enc)),(10,.v (.int .i64 v5.2)),(19,.v (.int .i64 c64)),(20,.v (.int .i64 v66)),(152,.sl 1 (v5.1.map cdI.enc)),(153,.v (.int .i64 (v5.1.length:Int))),(154,.v (.int .i64 c64)),(161,.v (.bool (decide (v66 < 0))))] [] kr ?_
    rcases BE (decide (v66 < 0)) with hc72 | hc72
    ·rw [if_pos hc72] at hj69
     rw [hc72];refine AD (n:=194) AC 13 [(6,.sl 9 (v2.map AG.enc)),(8,.sl 1 (v4.map cdI.enc)),(9,.sl 1 (v5.1.map cdI.enc)),(10,.v (.int .i64 v5.2)),(152,.sl 1 (v5.1.map cdI.enc)),(153,.v (.int .i64 (v5.1.length:Int))),(154,.v (.int .i64 c64)),(162,.tp []),(163,.tp []),(164,.tp []),(165,.tp []),(168,.tp []),(169,.tp []),(170,.tp []),(171,.tp []),(172,.tp []),(173,.tp []),(174,.v (.bool true))] [] kr ?_;have hq:=OI hj69; subst hq;exact AJ rfl AL
    ·rw [CT hc72] at hj69
     rw [hc72];refine AD (n:=194) AC 2 [(6,.sl 9 (v2.map AG.enc)),(8,.sl 1 (v4.map cdI.enc)),(9,.sl 1 (v5.1.map cdI.enc)),(10,.v (.int .i64 v5.2)),(19,.v (.int .i64 c64)),(20,.v (.int .i64 v66)),(152,.sl 1 (v5.1.map cdI.enc)),(153,.v (.int .i64 (v5.1.length:Int))),(154,.v (.int .i64 c64)),(161,.v (.bool false)),(162,.v (.int .i64 v66)),(163,.sl 9 (v2.map AG.enc))] [] kr ?_;refine AP AC 0 rfl (Dq kr rfl (Dg (a:= .sl 9 (v2.map AG.enc)) kr (CW (el:=42) kr))) ?_;refine AD (n:=194) AC 3 [(6,.sl 9 (v2.map AG.enc)),(8,.sl 1 (v4.map cdI.enc)),(9,.sl 1 (v5.1.map cdI.enc)),(10,.v (.int .i64 v5.2)),(19,.v (.int .i64 c64)),(20,.v (.int .i64 v66)),(152,.sl 1 (v5.1.map cdI.enc)),(153,.v (.int .i64 (v5.1.length:Int))),(154,.v (.int .i64 c64)),(162,.v (.int .i64 v66)),(163,.sl 9 (v2.map AG.enc)),(164,.v (.int .i64 (v2.length:Int))),(165,.v (.bool (decide (v66≥(v2.length:Int))))),(167,.v (.bool (decide (v66≥(v2.length:Int)))))] [] kr ?_;rcases BE (decide (v66≥(v2.length:Int))) with hc73 | hc73
     ·rw [if_pos hc73] at hj69
      rw [hc73];refine AD (n:=194) AC 7 [(6,.sl 9 (v2.map AG.enc)),(8,.sl 1 (v4.map cdI.enc)),(9,.sl 1 (v5.1.map cdI.enc)),(10,.v (.int .i64 v5.2)),(152,.sl 1 (v5.1.map cdI.enc)),(153,.v (.int .i64 (v5.1.length:Int))),(154,.v (.int .i64 c64)),(162,.v (.int .i64 v66)),(163,.sl 9 (v2.map AG.enc)),(164,.v (.int .i64 (v2.length:Int))),(165,.v (.bool true)),(168,.tp []),(169,.tp []),(170,.tp []),(171,.tp []),(172,.tp []),(173,.tp []),(174,.v (.bool true))] [] kr ?_;have hq:=OI hj69; subst hq;exact AJ rfl AL
     ·rw [CT hc73] at hj69
      rw [hc73];refine AD (n:=194) AC 2 [(6,.sl 9 (v2.map AG.enc)),(8,.sl 1 (v4.map cdI.enc)),(9,.sl 1 (v5.1.map cdI.enc)),(10,.v (.int .i64 v5.2)),(19,.v (.int .i64 c64)),(152,.sl 1 (v5.1.map cdI.enc)),(153,.v (.int .i64 (v5.1.length:Int))),(154,.v (.int .i64 c64)),(162,.v (.int .i64 v66)),(163,.sl 9 (v2.map AG.enc)),(164,.v (.int .i64 (v2.length:Int))),(165,.v (.bool false)),(167,.v (.bool false)),(168,.sl 1 (v4.map cdI.enc)),(169,.v (.int .i64 v66))] [] kr ?_;obtain ⟨v67,hv67,hj69⟩:=OB hj69;refine AP AC 0 rfl (Dq kr rfl (Ac (a:= .sl 1 (v4.map cdI.enc)) (b:= .v (.int .i64 v66)) kr kr (Fa (e:=cdI.enc) (el:=3) (k:=1) (ki:= .i64) kr kr hv67))) ?_;refine AD (n:=194) AC 4 [(6,.sl 9 (v2.map AG.enc)),(8,.sl 1 (v4.map cdI.enc)),(9,.sl 1 (v5.1.map cdI.enc)),(10,.v (.int .i64 v5.2)),(152,.sl 1 (v5.1.map cdI.enc)),(153,.v (.int .i64 (v5.1.length:Int))),(154,.v (.int .i64 c64)),(162,.v (.int .i64 v66)),(163,.sl 9 (v2.map AG.enc)),(164,.v (.int .i64 (v2.length:Int))),(165,.v (.bool false)),(168,.sl 1 (v4.map cdI.enc)),(169,.v (.int .i64 v66)),(170,.pe (.v (.int .i64 v67)) 0),(171,.v (.int .i64 v67)),(172,.v (.int .i64 c64)),(173,.v (.bool (v67 != c64))),(174,.v (.bool (v67 != c64)))] [] kr ?_;have hq:=OI hj69; subst hq;exact AJ rfl AL
   refine AO (b:=j69) kr (fun hb70=>?_) (fun hb70=>?_)
   ·rw [if_pos hb70] at h
    refine AK AC [(4,.v (.bool false))] [] ?_;refine AQ ?_;have hq:=OI h; subst hq;exact ⟨rfl,AL⟩
   ·rw [CT hb70] at h
    refine AS ?_;refine DO AC [(6,.sl 9 (v2.map AG.enc)),(8,.sl 1 (v4.map cdI.enc)),(9,.sl 1 (v5.1.map cdI.enc)),(10,.v (.int .i64 v5.2)),(152,.sl 1 (v5.1.map cdI.enc)),(153,.v (.int .i64 (v5.1.length:Int))),(154,.v (.int .i64 (wr .i64 (c64 + 1))))] [] ?_;exact A9 (s1:=⟨Fr 194 [(6,.sl 9 (v2.map AG.enc)),(8,.sl 1 (v4.map cdI.enc)),(9,.sl 1 (v5.1.map cdI.enc)),(10,.v (.int .i64 v5.2)),(152,.sl 1 (v5.1.map cdI.enc)),(153,.v (.int .i64 (v5.1.length:Int))),(154,.v (.int .i64 (wr .i64 (c64 + 1))))],[]⟩) AL (ih (wr .i64 (c64 + 1)) h)
  ·rw [CT hb65] at h
   refine DE ?_;have hq:=OI h; subst hq;exact ⟨rfl,AL⟩
theorem KD (x0:(List (Int×Int×Int×Bool×Bool))) (x1:(List (Int×Int))) (r:Bool) (h:DD x0 x1=some r):Sem E0 ⟨none,false⟩ CY ⟨Fr 194 (BG 0 (DZ.enc (x0,x1,()))),[]⟩ fun e s'=>(e = .normal\/e = .ret)/\∃ xs,Ef E0.P s'.fr s'.hp Tryz.f5.results.toList=some xs/\Eh xs=EQ r:=by
 unfold DD at h;refine A7 (Bt (s1:=⟨Fr 194 [(0,.sl 5 (x0.map (cdA (csC (cdK .u8) (csC (cdK .u8) (csC (cdK .u8) (csC cdB (csE cdB))))) (fun _=>rfl)).enc)),(1,.sl 2 (x1.map (NI (cdK .u8) (cdK .u8) (fun _=>rfl) (fun _=>rfl)).enc))],[]⟩) AL ?_);refine AK AC [(0,.sl 5 (x0.map (cdA (csC (cdK .u8) (csC (cdK .u8) (csC (cdK .u8) (csC cdB (csE cdB))))) (fun _=>rfl)).enc)),(1,.sl 2 (x1.map (NI (cdK .u8) (cdK .u8) (fun _=>rfl) (fun _=>rfl)).enc))] [] ?_;refine AH ?_;obtain ⟨v1,hv1,h⟩:=OB h;obtain ⟨v2,hv2,h⟩:=OB h;refine AI (s1:=⟨Fr 194 [(5,.sl 5 (v1.map AA.enc)),(6,.sl 9 (v2.map AG.enc))],[]⟩) ?_ ?_
 ·refine AD (n:=194) AC 1 [(1,.sl 2 (x1.map (NI (cdK .u8) (cdK .u8) (fun _=>rfl) (fun _=>rfl)).enc)),(21,.sl 5 (x0.map (cdA (csC (cdK .u8) (csC (cdK .u8) (csC (cdK .u8) (csC cdB (csE cdB))))) (fun _=>rfl)).enc))] [] kr ?_
  refine AW (caps:=[]) (xs:=[.sl 5 (x0.map (cdA (csC (cdK .u8) (csC (cdK .u8) (csC (cdK .u8) (csC cdB (csE cdB))))) (fun _=>rfl)).enc)]) (u:=(x0,())) rfl rfl Qo rfl (AB rfl) kr kr (AN (AZ (c:=(cdL 5 (cdA (csC (cdK .u8) (csC (cdK .u8) (csC (cdK .u8) (csC cdB (csE cdB))))) (fun _=>rfl)))) (v:=x0)) BA) (.inr kr) hv1 ?_;refine AD (n:=194) AC 1 [(22,.sl 5 (v1.map AA.enc)),(23,.sl 2 (x1.map (NI (cdK .u8) (cdK .u8) (fun _=>rfl) (fun _=>rfl)).enc))] [] kr ?_;refine AW (caps:=[]) (xs:=[.sl 2 (x1.map (NI (cdK .u8) (cdK .u8) (fun _=>rfl) (fun _=>rfl)).enc),.v (.int .i64 20)]) (u:=(x1,20,())) rfl rfl Oh rfl (AB rfl) kr kr (AN (AZ (c:=(cdL 2 (NI (cdK .u8) (cdK .u8) (fun _=>rfl) (fun _=>rfl)))) (v:=x1)) (AN (AZ (c:=cdI) (v:=20)) BA)) (.inr kr) hv2 ?_;exact AY AC
 refine AH ?_;obtain ⟨v3,hv3,h⟩:=OB h;obtain ⟨v4,hv4,h⟩:=OB h;refine AI (s1:=⟨Fr 194 [(5,.sl 5 (v1.map AA.enc)),(6,.sl 9 (v2.map AG.enc)),(7,.sl 1 (v3.map (cdL 1 cdI).enc)),(8,.sl 1 (v4.map cdI.enc))],[]⟩) ?_ ?_
 ·refine AD (n:=194) AC 2 [(5,.sl 5 (v1.map AA.enc)),(6,.sl 9 (v2.map AG.enc)),(25,.sl 5 (v1.map AA.enc)),(26,.sl 9 (v2.map AG.enc))] [] kr ?_
  refine AW (caps:=[]) (xs:=[.sl 5 (v1.map AA.enc),.sl 9 (v2.map AG.enc)]) (u:=(v1,v2,())) rfl rfl JX rfl (AB rfl) kr kr (AN (AZ (c:=(cdL 5 AA)) (v:=v1)) (AN (AZ (c:=(cdL 9 AG)) (v:=v2)) BA)) (.inr kr) hv3 ?_;refine AD (n:=194) AC 2 [(5,.sl 5 (v1.map AA.enc)),(6,.sl 9 (v2.map AG.enc)),(27,.sl 1 (v3.map (cdL 1 cdI).enc)),(28,.sl 5 (v1.map AA.enc)),(29,.sl 9 (v2.map AG.enc))] [] kr ?_;refine AW (caps:=[]) (xs:=[.sl 5 (v1.map AA.enc),.sl 9 (v2.map AG.enc)]) (u:=(v1,v2,())) rfl rfl Po rfl (AB rfl) kr kr (AN (AZ (c:=(cdL 5 AA)) (v:=v1)) (AN (AZ (c:=(cdL 9 AG)) (v:=v2)) BA)) (.inr kr) hv4 ?_;exact AY AC
 refine AH ?_;obtain ⟨v5,hv5,h⟩:=OB h;refine AI (s1:=⟨Fr 194 [(5,.sl 5 (v1.map AA.enc)),(6,.sl 9 (v2.map AG.enc)),(7,.sl 1 (v3.map (cdL 1 cdI).enc)),(8,.sl 1 (v4.map cdI.enc)),(9,.sl 1 (v5.1.map cdI.enc)),(10,.v (.int .i64 v5.2))],[]⟩) ?_ ?_
 ·refine AD (n:=194) AC 2 [(5,.sl 5 (v1.map AA.enc)),(6,.sl 9 (v2.map AG.enc)),(7,.sl 1 (v3.map (cdL 1 cdI).enc)),(8,.sl 1 (v4.map cdI.enc)),(32,.sl 5 (v1.map AA.enc)),(33,.sl 9 (v2.map AG.enc))] [] kr ?_
  refine AW (caps:=[]) (xs:=[.sl 5 (v1.map AA.enc),.sl 9 (v2.map AG.enc)]) (u:=(v1,v2,())) rfl rfl Qk rfl (AB rfl) kr kr (AN (AZ (c:=(cdL 5 AA)) (v:=v1)) (AN (AZ (c:=(cdL 9 AG)) (v:=v2)) BA)) (.inr kr) hv5 ?_;exact AY AC
 refine AH ?_;refine AH ?_;refine AI (s1:=⟨Fr 194 [(5,.sl 5 (v1.map AA.enc)),(6,.sl 9 (v2.map AG.enc)),(7,.sl 1 (v3.map (cdL 1 cdI).enc)),(8,.sl 1 (v4.map cdI.enc)),(9,.sl 1 (v5.1.map cdI.enc)),(10,.v (.int .i64 v5.2)),(41,.v (.bool ((v4.length:Int)!=(v2.length:Int))))],[]⟩) ?_ ?_
 ·refine AD (n:=194) AC 1 [(5,.sl 5 (v1.map AA.enc)),(6,.sl 9 (v2.map AG.enc)),(7,.sl 1 (v3.map (cdL 1 cdI).enc)),(8,.sl 1 (v4.map cdI.enc)),(9,.sl 1 (v5.1.map cdI.enc)),(10,.v (.int .i64 v5.2)),(37,.sl 1 (v4.map cdI.enc))] [] kr ?_
  refine AP AC 0 rfl (Dq (AB rfl) rfl (Dg (a:= .sl 1 (v4.map cdI.enc)) kr (CW (el:=3) kr))) ?_;refine AD (n:=194) AC 1 [(5,.sl 5 (v1.map AA.enc)),(6,.sl 9 (v2.map AG.enc)),(7,.sl 1 (v3.map (cdL 1 cdI).enc)),(8,.sl 1 (v4.map cdI.enc)),(9,.sl 1 (v5.1.map cdI.enc)),(10,.v (.int .i64 v5.2)),(38,.v (.int .i64 (v4.length:Int))),(39,.sl 9 (v2.map AG.enc))] [] kr ?_;refine AP AC 0 rfl (Dq (AB rfl) rfl (Dg (a:= .sl 9 (v2.map AG.enc)) kr (CW (el:=42) kr))) ?_;exact AY AC
 refine AO (b:=((v4.length:Int)!=(v2.length:Int))) kr (fun hb6=>?_) (fun hb6=>?_)
 ·rw [if_pos hb6] at h
  refine AK AC [(4,.v (.bool false))] [] ?_;refine AQ ?_;have hq:=OI h; subst hq;exact ⟨⟨Fr 194 [(4,.v (.bool false))],[]⟩,AL,.inr rfl,[.v (.bool false)],kr,kr⟩
 ·rw [CT hb6] at h
  refine AS ?_;refine AK AC [(5,.sl 5 (v1.map AA.enc)),(6,.sl 9 (v2.map AG.enc)),(7,.sl 1 (v3.map (cdL 1 cdI).enc)),(8,.sl 1 (v4.map cdI.enc)),(9,.sl 1 (v5.1.map cdI.enc)),(10,.v (.int .i64 v5.2)),(11,.v (.int .i64 0))] [] ?_;refine AH ?_;refine AH ?_;refine AI (s1:=⟨Fr 194 [(5,.sl 5 (v1.map AA.enc)),(6,.sl 9 (v2.map AG.enc)),(7,.sl 1 (v3.map (cdL 1 cdI).enc)),(8,.sl 1 (v4.map cdI.enc)),(9,.sl 1 (v5.1.map cdI.enc)),(10,.v (.int .i64 v5.2)),(11,.v (.int .i64 0)),(42,.sl 1 (v3.map (cdL 1 cdI).enc)),(43,.v (.int .i64 (v3.length:Int))),(44,.v (.int .i64 0))],[]⟩) ?_ ?_
  ·refine AD (n:=194) AC 1 [(5,.sl 5 (v1.map AA.enc)),(6,.sl 9 (v2.map AG.enc)),(7,.sl 1 (v3.map (cdL 1 cdI).enc)),(8,.sl 1 (v4.map cdI.enc)),(9,.sl 1 (v5.1.map cdI.enc)),(10,.v (.int .i64 v5.2)),(11,.v (.int .i64 0)),(42,.sl 1 (v3.map (cdL 1 cdI).enc))] [] kr ?_
   refine AP AC 0 rfl (Dq (AB rfl) rfl (Dg (a:= .sl 1 (v3.map (cdL 1 cdI).enc)) kr (CW (el:=48) kr))) ?_;exact AY AC
  refine Ay ?_;obtain ⟨r33,hr33,h⟩:=OB h;refine DF (n:=100000) ?_;rcases r33 with w34 | w85
  ·try dsimp only at h
   refine Bd (A9 (s1:=⟨Fr 194 [(5,.sl 5 (v1.map AA.enc)),(6,.sl 9 (v2.map AG.enc)),(7,.sl 1 (v3.map (cdL 1 cdI).enc)),(8,.sl 1 (v4.map cdI.enc)),(9,.sl 1 (v5.1.map cdI.enc)),(10,.v (.int .i64 v5.2)),(11,.v (.int .i64 0)),(42,.sl 1 (v3.map (cdL 1 cdI).enc)),(43,.v (.int .i64 (v3.length:Int))),(44,.v (.int .i64 0))],[]⟩) AL (GX v1 v2 v3 v4 v5 _ 0 0 _ hr33)) ?_;refine AH ?_;refine AH ?_;refine AI (s1:=⟨Fr 194 [(5,.sl 5 (v1.map AA.enc)),(6,.sl 9 (v2.map AG.enc)),(7,.sl 1 (v3.map (cdL 1 cdI).enc)),(8,.sl 1 (v4.map cdI.enc)),(9,.sl 1 (v5.1.map cdI.enc)),(10,.v (.int .i64 v5.2)),(11,.v (.int .i64 w34)),(84,.v (.int .i64 (v2.length:Int))),(85,.v (.int .i64 0))],[]⟩) ?_ ?_
   ·refine AD (n:=194) AC 1 [(5,.sl 5 (v1.map AA.enc)),(6,.sl 9 (v2.map AG.enc)),(7,.sl 1 (v3.map (cdL 1 cdI).enc)),(8,.sl 1 (v4.map cdI.enc)),(9,.sl 1 (v5.1.map cdI.enc)),(10,.v (.int .i64 v5.2)),(11,.v (.int .i64 w34)),(83,.sl 9 (v2.map AG.enc))] [] kr ?_
    refine AP AC 0 rfl (Dq (AB rfl) rfl (Dg (a:= .sl 9 (v2.map AG.enc)) kr (CW (el:=42) kr))) ?_;exact AY AC
   refine Ay ?_;obtain ⟨r55,hr55,h⟩:=OB h;refine DF (n:=100000) ?_;rcases r55 with w56 | w84
   ·try dsimp only at h
    refine Bd (A9 (s1:=⟨Fr 194 [(5,.sl 5 (v1.map AA.enc)),(6,.sl 9 (v2.map AG.enc)),(7,.sl 1 (v3.map (cdL 1 cdI).enc)),(8,.sl 1 (v4.map cdI.enc)),(9,.sl 1 (v5.1.map cdI.enc)),(10,.v (.int .i64 v5.2)),(11,.v (.int .i64 w34)),(84,.v (.int .i64 (v2.length:Int))),(85,.v (.int .i64 0))],[]⟩) AL (GZ v1 v2 v3 v4 v5 w34 _ 0 _ hr55)) ?_;refine AH ?_;refine AH ?_;refine AI (s1:=⟨Fr 194 [(6,.sl 9 (v2.map AG.enc)),(7,.sl 1 (v3.map (cdL 1 cdI).enc)),(8,.sl 1 (v4.map cdI.enc)),(9,.sl 1 (v5.1.map cdI.enc)),(10,.v (.int .i64 v5.2)),(136,.v (.bool (w34 != (v2.length:Int))))],[]⟩) ?_ ?_
    ·refine AD (n:=194) AC 2 [(6,.sl 9 (v2.map AG.enc)),(7,.sl 1 (v3.map (cdL 1 cdI).enc)),(8,.sl 1 (v4.map cdI.enc)),(9,.sl 1 (v5.1.map cdI.enc)),(10,.v (.int .i64 v5.2)),(133,.v (.int .i64 w34)),(134,.sl 9 (v2.map AG.enc))] [] kr ?_
     refine AP AC 0 rfl (Dq (AB rfl) rfl (Dg (a:= .sl 9 (v2.map AG.enc)) kr (CW (el:=42) kr))) ?_;exact AY AC
    refine AO (b:=(w34 != (v2.length:Int))) kr (fun hb57=>?_) (fun hb57=>?_)
    ·rw [if_pos hb57] at h
     refine AK AC [(4,.v (.bool false))] [] ?_;refine AQ ?_;have hq:=OI h; subst hq;exact ⟨⟨Fr 194 [(4,.v (.bool false))],[]⟩,AL,.inr rfl,[.v (.bool false)],kr,kr⟩
    ·rw [CT hb57] at h
     refine AS ?_;refine AH ?_;refine AH ?_;refine AI (s1:=⟨Fr 194 [(6,.sl 9 (v2.map AG.enc)),(8,.sl 1 (v4.map cdI.enc)),(9,.sl 1 (v5.1.map cdI.enc)),(10,.v (.int .i64 v5.2)),(141,.v (.bool (decide ((v3.length:Int) < (v2.length:Int)))))],[]⟩) ?_ ?_
     ·refine AD (n:=194) AC 1 [(6,.sl 9 (v2.map AG.enc)),(8,.sl 1 (v4.map cdI.enc)),(9,.sl 1 (v5.1.map cdI.enc)),(10,.v (.int .i64 v5.2)),(137,.sl 1 (v3.map (cdL 1 cdI).enc))] [] kr ?_
      refine AP AC 0 rfl (Dq (AB rfl) rfl (Dg (a:= .sl 1 (v3.map (cdL 1 cdI).enc)) kr (CW (el:=48) kr))) ?_;refine AD (n:=194) AC 1 [(6,.sl 9 (v2.map AG.enc)),(8,.sl 1 (v4.map cdI.enc)),(9,.sl 1 (v5.1.map cdI.enc)),(10,.v (.int .i64 v5.2)),(138,.v (.int .i64 (v3.length:Int))),(139,.sl 9 (v2.map AG.enc))] [] kr ?_;refine AP AC 0 rfl (Dq (AB rfl) rfl (Dg (a:= .sl 9 (v2.map AG.enc)) kr (CW (el:=42) kr))) ?_;exact AY AC
     refine AO (b:=(decide ((v3.length:Int) < (v2.length:Int)))) kr (fun hb58=>?_) (fun hb58=>?_)
     ·rw [if_pos hb58] at h
      refine AH ?_;obtain ⟨j61,hj61,h⟩:=OB h;refine AI (s1:=⟨Fr 194 [(4,.v (.bool j61))],[]⟩) ?_ ?_
      ·refine AD (n:=194) AC 3 [(9,.sl 1 (v5.1.map cdI.enc)),(144,.v (.bool (v5.2==32)))] [] kr ?_
       rcases BE (v5.2==32) with hc62 | hc62
       ·rw [if_pos hc62] at hj61
        rw [hc62];refine AD (n:=194) AC 1 [(144,.v (.bool true)),(145,.sl 1 (v5.1.map cdI.enc))] [] kr ?_;refine AP AC 0 rfl (Dq kr rfl (Dg (a:= .sl 1 (v5.1.map cdI.enc)) kr (CW (el:=3) kr))) ?_;refine AD (n:=194) AC 3 [(149,.v (.bool ((v5.1.length:Int)==0)))] [] kr ?_;rcases BE ((v5.1.length:Int)==0) with hc63 | hc63
        ·rw [if_pos hc63] at hj61
         rw [hc63];obtain ⟨v59,hv59,hj61⟩:=OB hj61;refine AW (caps:=[]) (xs:=[]) (u:=(())) rfl rfl Lm rfl kr kr kr BA (.inl kr) hv59 ?_;refine AD (n:=194) AC 2 [(4,.v (.bool v59))] [] kr ?_;have hq:=OI hj61; subst hq;exact AJ rfl AL
        ·rw [CT hc63] at hj61
         rw [hc63];refine AD (n:=194) AC 3 [(4,.v (.bool false))] [] kr ?_;have hq:=OI hj61; subst hq;exact AJ rfl AL
       ·rw [CT hc62] at hj61
        rw [hc62];refine AD (n:=194) AC 8 [(4,.v (.bool false))] [] kr ?_;have hq:=OI hj61; subst hq;exact AJ rfl AL
      refine AQ ?_;have hq:=OI h; subst hq;exact ⟨⟨Fr 194 [(4,.v (.bool j61))],[]⟩,AL,.inr rfl,[.v (.bool j61)],kr,kr⟩
     ·rw [CT hb58] at h
      refine AS ?_;refine AH ?_;refine AH ?_;refine AI (s1:=⟨Fr 194 [(6,.sl 9 (v2.map AG.enc)),(8,.sl 1 (v4.map cdI.enc)),(9,.sl 1 (v5.1.map cdI.enc)),(10,.v (.int .i64 v5.2)),(152,.sl 1 (v5.1.map cdI.enc)),(153,.v (.int .i64 (v5.1.length:Int))),(154,.v (.int .i64 0))],[]⟩) ?_ ?_
      ·refine AD (n:=194) AC 1 [(6,.sl 9 (v2.map AG.enc)),(8,.sl 1 (v4.map cdI.enc)),(9,.sl 1 (v5.1.map cdI.enc)),(10,.v (.int .i64 v5.2)),(152,.sl 1 (v5.1.map cdI.enc))] [] kr ?_
       refine AP AC 0 rfl (Dq (AB rfl) rfl (Dg (a:= .sl 1 (v5.1.map cdI.enc)) kr (CW (el:=3) kr))) ?_;exact AY AC
      refine Ay ?_;obtain ⟨r74,hr74,h⟩:=OB h;refine DF (n:=100000) ?_;rcases r74 with w75 | w83
      ·try dsimp only at h
       refine Bd (A9 (s1:=⟨Fr 194 [(6,.sl 9 (v2.map AG.enc)),(8,.sl 1 (v4.map cdI.enc)),(9,.sl 1 (v5.1.map cdI.enc)),(10,.v (.int .i64 v5.2)),(152,.sl 1 (v5.1.map cdI.enc)),(153,.v (.int .i64 (v5.1.length:Int))),(154,.v (.int .i64 0))],[]⟩) AL (Gb v2 v4 v5 _ 0 _ hr74)) ?_;refine AH ?_;obtain ⟨j79,hj79,h⟩:=OB h;refine AI (s1:=⟨Fr 194 [(4,.v (.bool j79))],[]⟩) ?_ ?_
       ·refine AD (n:=194) AC 3 [(6,.sl 9 (v2.map AG.enc)),(8,.sl 1 (v4.map cdI.enc)),(9,.sl 1 (v5.1.map cdI.enc)),(178,.v (.bool (v5.2==0)))] [] kr ?_
        rcases BE (v5.2==0) with hc80 | hc80
        ·rw [if_pos hc80] at hj79
         rw [hc80];refine AD (n:=194) AC 1 [(6,.sl 9 (v2.map AG.enc)),(8,.sl 1 (v4.map cdI.enc)),(9,.sl 1 (v5.1.map cdI.enc)),(178,.v (.bool true)),(179,.sl 1 (v5.1.map cdI.enc))] [] kr ?_;refine AP AC 0 rfl (Dq kr rfl (Dg (a:= .sl 1 (v5.1.map cdI.enc)) kr (CW (el:=3) kr))) ?_;refine AD (n:=194) AC 1 [(8,.sl 1 (v4.map cdI.enc)),(9,.sl 1 (v5.1.map cdI.enc)),(178,.v (.bool true)),(180,.v (.int .i64 (v5.1.length:Int))),(181,.sl 9 (v2.map AG.enc))] [] kr ?_;refine AP AC 0 rfl (Dq kr rfl (Dg (a:= .sl 9 (v2.map AG.enc)) kr (CW (el:=42) kr))) ?_;refine AD (n:=194) AC 3 [(8,.sl 1 (v4.map cdI.enc)),(9,.sl 1 (v5.1.map cdI.enc)),(185,.v (.bool ((v5.1.length:Int)==(v2.length:Int))))] [] kr ?_;rcases BE ((v5.1.length:Int)==(v2.length:Int)) with hc81 | hc81
         ·rw [if_pos hc81] at hj79
          rw [hc81];refine AD (n:=194) AC 2 [(185,.v (.bool true)),(186,.sl 1 (v4.map cdI.enc)),(187,.sl 1 (v5.1.map cdI.enc))] [] kr ?_;obtain ⟨v76,hv76,hj79⟩:=OB hj79;refine AW (caps:=[]) (xs:=[.sl 1 (v4.map cdI.enc),.sl 1 (v5.1.map cdI.enc)]) (u:=(v4,v5.1,())) rfl rfl Ll rfl kr kr kr (AN (AZ (c:=(cdL 1 cdI)) (v:=v4)) (AN (AZ (c:=(cdL 1 cdI)) (v:=v5.1)) BA)) (.inl kr) hv76 ?_;refine AD (n:=194) AC 3 [(191,.v (.bool (v76==0)))] [] kr ?_;rcases BE (v76==0) with hc82 | hc82
          ·rw [if_pos hc82] at hj79
           rw [hc82];obtain ⟨v77,hv77,hj79⟩:=OB hj79;refine AW (caps:=[]) (xs:=[]) (u:=(())) rfl rfl Lm rfl kr kr kr BA (.inl kr) hv77 ?_;refine AD (n:=194) AC 2 [(4,.v (.bool v77))] [] kr ?_;have hq:=OI hj79; subst hq;exact AJ rfl AL
          ·rw [CT hc82] at hj79
           rw [hc82];refine AD (n:=194) AC 3 [(4,.v (.bool false))] [] kr ?_;have hq:=OI hj79; subst hq;exact AJ rfl AL
         ·rw [CT hc81] at hj79
          rw [hc81];refine AD (n:=194) AC 9 [(4,.v (.bool false))] [] kr ?_;have hq:=OI hj79; subst hq;exact AJ rfl AL
        ·rw [CT hc80] at hj79
         rw [hc80];refine AD (n:=194) AC 16 [(4,.v (.bool false))] [] kr ?_;have hq:=OI hj79; subst hq;exact AJ rfl AL
       refine AQ ?_;have hq:=OI h; subst hq;exact ⟨⟨Fr 194 [(4,.v (.bool j79))],[]⟩,AL,.inr rfl,[.v (.bool j79)],kr,kr⟩
      ·try dsimp only at h
       refine Bd (A9 (s1:=⟨Fr 194 [(6,.sl 9 (v2.map AG.enc)),(8,.sl 1 (v4.map cdI.enc)),(9,.sl 1 (v5.1.map cdI.enc)),(10,.v (.int .i64 v5.2)),(152,.sl 1 (v5.1.map cdI.enc)),(153,.v (.int .i64 (v5.1.length:Int))),(154,.v (.int .i64 0))],[]⟩) AL (Gb v2 v4 v5 _ 0 _ hr74)) ?_;have hq:=OI h; subst hq;exact ⟨⟨Fr 194 [(4,.v (.bool w83))],[]⟩,AL,.inr rfl,[.v (.bool w83)],kr,kr⟩
   ·try dsimp only at h
    refine Bd (A9 (s1:=⟨Fr 194 [(5,.sl 5 (v1.map AA.enc)),(6,.sl 9 (v2.map AG.enc)),(7,.sl 1 (v3.map (cdL 1 cdI).enc)),(8,.sl 1 (v4.map cdI.enc)),(9,.sl 1 (v5.1.map cdI.enc)),(10,.v (.int .i64 v5.2)),(11,.v (.int .i64 w34)),(84,.v (.int .i64 (v2.length:Int))),(85,.v (.int .i64 0))],[]⟩) AL (GZ v1 v2 v3 v4 v5 w34 _ 0 _ hr55)) ?_;have hq:=OI h; subst hq;exact ⟨⟨Fr 194 [(4,.v (.bool w84))],[]⟩,AL,.inr rfl,[.v (.bool w84)],kr,kr⟩
  ·try dsimp only at h
   refine Bd (A9 (s1:=⟨Fr 194 [(5,.sl 5 (v1.map AA.enc)),(6,.sl 9 (v2.map AG.enc)),(7,.sl 1 (v3.map (cdL 1 cdI).enc)),(8,.sl 1 (v4.map cdI.enc)),(9,.sl 1 (v5.1.map cdI.enc)),(10,.v (.int .i64 v5.2)),(11,.v (.int .i64 0)),(42,.sl 1 (v3.map (cdL 1 cdI).enc)),(43,.v (.int .i64 (v3.length:Int))),(44,.v (.int .i64 0))],[]⟩) AL (GX v1 v2 v3 v4 v5 _ 0 0 _ hr33)) ?_;have hq:=OI h; subst hq;exact ⟨⟨Fr 194 [(4,.v (.bool w85))],[]⟩,AL,.inr rfl,[.v (.bool w85)],kr,kr⟩
def K7:List AV->Option AV:=Dx DZ (fun a=>DD a.1 a.2.1) EQ
theorem K9:XOk 5 K7:=by
 refine AU Tryz.func5 (c:=CY) ?h2 ⟨Tryz.call5⟩ DZ (fun a=>DD a.1 a.2.1) EQ (fun a=>(by show 2<=194; decide)) ?h3 ?h4
 case h2=>kernel_rfl
 case h3=>intro b; kernel_rfl
 case h4=>exact fun a b h=>KD a.1 a.2.1 b h
theorem Pt {n:Int}(h1 : -9223372036854775808<=n) (h2:n<=9223372036854775807):wr .i64 n=n:=by
 show (if _ then n else _)=n
 rw [if_pos ⟨h1,h2⟩]
theorem FM {α:Type}(pre:List α) (v:α) (r:List α):idx (pre++v::r) (pre.length:Int)=some v:=by
 unfold idx
 rw [if_pos (by omega)]
 simp
theorem QJ {α:Type}{xs:List α}{i:Nat}(h:i < xs.length):idx xs (i:Int)=some xs[i]:=by
 unfold idx
 rw [if_pos (by omega)]
 simp [h]
theorem Ht {α:Type}(pre:List α) (v:α) (r:List α) (h:(pre++v::r).length<=1000000000):wr .i64 ((pre.length:Int) + 1)=((pre++[v]).length:Int):=by
 simp at h
 rw [Pt (by omega) (by omega)]; simp
theorem KF {α:Type}(pre:List α) (v:α) (r:List α):decide ((pre.length:Int) < ((pre++v::r).length:Int))=true:=by
 simp; omega
theorem Hv {b n:Nat}(hb:b<=1000) (h:n<=1000000000):FZ b n=true:=by
 have h1:n * b<=1000000000 * 1000:=Nat.mul_le_mul h hb
 unfold FZ
 rw [Bool.and_eq_true]
 exact ⟨Nat.ble_eq_true_of_le (by omega),Nat.ble_eq_true_of_le (by omega)⟩
/-- A loop over a list: v, its index, the rest. -/
def goU {α ρ:Type}(B:α->Nat->Option ρ->Option ρ) (D:Option ρ):List α->Nat->Option ρ
 | [],_=>D
 | v::r,i=>B v i (goU B D r (i + 1))
theorem Xu {α ρ:Type}(xs:List α) (L:Nat->Int->Option ρ) (B:α->Nat->Option ρ->Option ρ) (D:Option ρ)
  (hs:∀ f (pre:List α) v r,xs=pre++v::r->L (f + 1) (pre.length:Int)=B v pre.length (L f (((pre++[v]).length:Nat):Int))) (hd:∀ f,L (f + 1) (xs.length:Int)=D) :
  ∀ (r pre:List α) (f:Nat),xs=pre++r->r.length < f->L f (pre.length:Int)=goU B D r pre.length
 | [],pre,f + 1,hx,_=>by
  rw [show pre.length=xs.length by rw [hx]; simp]
  exact hd f
 | v::r,pre,f + 1,hx,hf=>by
  rw [hs f pre v r hx]
  have:=Xu xs L B D hs hd r (pre++[v]) f (by rw [hx]; simp) (by simp at hf; omega)
  rw [this]
  show B v pre.length _=B v pre.length _
  congr 1
  simp
theorem Ot {α ρ:Type}(xs:List α) (L:Nat->Int->Option ρ) (B:α->Nat->Option ρ->Option ρ) (D:Option ρ) (f:Nat) (hf:xs.length < f)
  (hs:∀ f (pre:List α) v r,xs=pre++v::r->L (f + 1) (pre.length:Int)=B v pre.length (L f (((pre++[v]).length:Nat):Int))) (hd:∀ f,L (f + 1) (xs.length:Int)=D):L f 0=goU B D xs 0 :=
 Xu xs L B D hs hd xs [] f rfl hf
/-- .. with a state. -/
def goS {α σ ρ:Type}(B:α->Nat->σ->(σ->Option ρ)->Option ρ) (D:σ->Option ρ):List α->Nat->σ->Option ρ
 | [],_,s=>D s
 | v::r,i,s=>B v i s (goS B D r (i + 1))
theorem Xs {α σ ρ:Type}(xs:List α) (L:Nat->σ->Int->Option ρ) (B:α->Nat->σ->(σ->Option ρ)->Option ρ) (D:σ->Option ρ)
  (hs:∀ f (pre:List α) v r s,xs=pre++v::r->L (f + 1) s (pre.length:Int)=B v pre.length s (fun s'=>L f s' (((pre++[v]).length:Nat):Int))) (hd:∀ f s,L (f + 1) s (xs.length:Int)=D s) :
  ∀ (r pre:List α) (f:Nat) (s:σ),xs=pre++r->r.length < f->L f s (pre.length:Int)=goS B D r pre.length s
 | [],pre,f + 1,s,hx,_=>by
  rw [show pre.length=xs.length by rw [hx]; simp]
  exact hd f s
 | v::r,pre,f + 1,s,hx,hf=>by
  rw [hs f pre v r s hx]
  show B v pre.length s _=B v pre.length s _
  congr 1
  funext s'
  rw [Xs xs L B D hs hd r (pre++[v]) f s' (by rw [hx]; simp) (by simp at hf; omega)]
  simp
theorem Xt {α σ ρ:Type}(xs:List α) (L:Nat->σ->Int->Option ρ) (B:α->Nat->σ->(σ->Option ρ)->Option ρ) (D:σ->Option ρ) (f:Nat) (s:σ) (hf:xs.length < f)
  (hs:∀ f (pre:List α) v r s,xs=pre++v::r->L (f + 1) s (pre.length:Int)=B v pre.length s (fun s'=>L f s' (((pre++[v]).length:Nat):Int))) (hd:∀ f s,L (f + 1) s (xs.length:Int)=D s):L f s 0=goS B D xs 0 s :=
 Xs xs L B D hs hd xs [] f s rfl hf
/-- The first that meets a test. -/
theorem TO {α:Type}(P:α->Option Bool) (p:α->Bool):∀ (xs:List α) (i:Nat),(∀ x ∈ xs,P x=some (p x))->∃ r:Unit ⊕ Int,goU (fun v i k=>(P v).bind fun b=>if b=true then some (.inr (i:Int)) else k) (some (.inl ())) xs i=some r/\(match r with | .inl _=>xs.any p=false | .inr n=>xs.any p=true/\0<=n)
 | [],i,_=>⟨.inl (),rfl,rfl⟩
 | x::xs,i,h=>by
  unfold goU
  rw [h x (by simp),OS]
  cases hp:p x with
  | true=>exact ⟨.inr i,by simp,by simp [hp]⟩
  | false =>
   obtain ⟨r,h1,h2⟩:=TO P p xs (i + 1) fun y hy=>h y (List.mem_cons_of_mem _ hy)
   refine ⟨r,by simpa using h1,?_⟩
   cases r with
   | inl u=>simpa [hp] using h2
   | inr n=>simpa [hp] using h2
/-- slices.IndexFunc and slices.ContainsFunc. -/
theorem Py {α:Type}(xs:List α) (hx:xs.length<=99999) (P:α->Option Bool) (p:α->Bool) (hP:∀ x ∈ xs,P x=some (p x)) (L:Nat->Int->Option (Unit ⊕ Int))
  (h:∀ f c,L (f + 1) c=if decide (c < (xs.length:Int))=true then (idx xs c).bind fun v=>(P v).bind fun b=>if b=true then some (.inr c) else L f (wr .i64 (c + 1)) else some (.inl ())) :
  ∃ n,((L 100000 0).bind fun r=>match r with | .inl _=>some (-1) | .inr w=>some w)=some n/\decide (n≥0)=xs.any p:=by
 have e:=Ot xs L (fun v i k=>(P v).bind fun b=>if b=true then some (.inr (i:Int)) else k) (some (.inl ())) 100000 (by omega) (fun f pre v r e=>by
  subst e
  rw [h,if_pos (KF pre v r),FM,OS,Ht pre v r (by omega)]) (fun f=>by rw [h,if_neg (by simp)])
 obtain ⟨r,h1,h2⟩:=TO P p xs 0 hP
 rw [e,h1]
 cases r with
 | inl u=>exact ⟨-1,rfl,by rw [h2]; rfl⟩
 | inr n=>exact ⟨n,rfl,by rw [h2.1]; simpa using h2.2⟩
/- slices.Equal[[]string,string] -/
/- trestle/trestlelaw03.SameClause -/
/- slices.EqualFunc[[]trestle/api.Clause,[]trestle/api.Clause,trestle/api.Clause,trestle/api.Clause] -/
/- trestle/trestlelaw03.Same -/
/- trestle/trestlelaw03.Copy -/
/- trestle/trestlelaw03.Few$1$1 -/
/- slices.IndexFunc[[]string,string] -/
/- slices.ContainsFunc[[]string,string] -/
/- trestle/trestlelaw03.Few$1 -/
/- slices.IndexFunc[[]trestle/api.Clause,trestle/api.Clause] -/
/- slices.ContainsFunc[[]trestle/api.Clause,trestle/api.Clause] -/
/- trestle/trestlelaw03.Few -/
/- trestle/trestleref03.between -/
def BR (x0:Int) (x1:Int) (x2:Int):Option (Bool) :=
 (if (decide (x1<=x0))=true then some (decide (x0<=x2)) else some false).bind fun j2 =>
 some j2
/- trestle/trestleref03.formed -/
def Ed (x0:AF):Option ((Bool)) :=
 if (x0.1==8)=true then
 some (x0.1==8)
 else
 some (x0.1==9)
def Ec (x0:AF):Option ((Bool)) :=
 if (x0.1==3)=true then
 some (x0.1==3)
 else
 (Ed x0).bind fun r14 =>
 some r14
def Eb (x0:AF):Option ((Bool)) :=
 if (x0.1==2)=true then
 some (x0.1==2)
 else
 (Ec x0).bind fun r15 =>
 some r15
def Ee (x0:AF):Option ((Bool)) :=
 if (x0.1==6)=true then
 some (x0.1==6)
 else
 some (x0.1==7)
def Av (x0:AF):Option (Bool) :=
 if (x0.1==1)=true then
 (BR (x0.2.2.2.1.length:Int) 1 16).bind fun v2 =>
 (if v2=true then if (x0.2.2.2.2==0)=true then if (!x0.2.2.1)=true then some (x0.2.1==[]) else some false else some false else some false).bind fun j4 =>
 some j4
 else
 (Eb x0).bind fun r16 =>
 if r16=true then
 (if ((x0.2.2.2.1.length:Int)==0)=true then if (x0.2.2.2.2==0)=true then some (!x0.2.2.1) else some false else some false).bind fun j19 =>
 some j19
 else
 if (x0.1==4)=true then
 (if ((x0.2.2.2.1.length:Int)==0)=true then (BR x0.2.2.2.2 1 2).bind fun v23 =>
 some v23 else some false).bind fun j25 =>
 some j25
 else
 if (x0.1==5)=true then
 (if ((x0.2.2.2.1.length:Int)==0)=true then some (x0.2.2.2.2==0) else some false).bind fun j29 =>
 some j29
 else
 (Ee x0).bind fun r33 =>
 if r33=true then
 (BR (x0.2.2.2.1.length:Int) 1 16).bind fun v35 =>
 (if v35=true then some (x0.2.2.2.2==0) else some false).bind fun j37 =>
 some j37
 else
 if (x0.1==10)=true then
 (if ((x0.2.2.2.1.length:Int)==0)=true then (BR x0.2.2.2.2 0 63).bind fun v40 =>
 if v40=true then some (!x0.2.2.1) else some false else some false).bind fun j42 =>
 some j42
 else
 some false
/- trestle/trestlekit.Name -/
/- trestle/trestleref03.has -/
/- trestle/trestleref03.CheckOne -/
/- trestle/trestleref03.Check -/
def Xc (x:AF):Prop:=x.2.1.length<=40/\x.2.2.2.1.length<=20/\∀ s ∈ x.2.2.2.1,s.length<=40
def few (c:List AF):Prop:=c.length<=40/\∀ x ∈ c,Xc x
/-- Names. -/
def WW (c:UInt8):Bool:=decide ((c.toNat:Int) < 97)||decide ((c.toNat:Int) > 122)
def FY (s:List UInt8):Bool:=decide (1<=s.length)&&decide (s.length<=12)&&!s.any WW
theorem TR:∀ (s:List UInt8) (i:Nat),goU (fun v _ (k:Option (Unit ⊕ Bool))=>if WW v=true then some (.inr false) else k) (some (.inl ())) s i=some (if s.any WW=true then .inr false else .inl ())
 | [],_=>rfl
 | c::s,i=>by
  unfold goU
  rw [TR s (i + 1),List.any_cons]
  cases WW c <;> rfl
theorem X0 (s:List UInt8) (h:s.length<=99999):D6 s 100000 0=some (if s.any WW=true then .inr false else .inl ()):=by
 rw [<-TR s 0]
 refine Ot s (D6 s) _ _ 100000 (by omega) (fun f pre v r e=>?_) (fun f=>?_)
 ·conv=>lhs; unfold D6
  rw [e,if_pos (KF pre v r),FM,OS,OS,Ht pre v r (by rw [<-e]; omega)]
  unfold WW
  by_cases h:(v.toNat:Int) < 97 <;> simp [h]
 ·conv=>lhs; unfold D6
  rw [if_neg (by simp)]
theorem Te (s:List UInt8) (h:s.length<=99999):F4 s=some (FY s):=by
 unfold F4 FY
 rw [X0 s h,OS]
 cases hb:s.any WW
 ·by_cases h1:s.length < 1
  ·have:s.length=0:=by omega
   simp [this]
  ·simp [show (s.length:Int)≥1 by omega,show 1<=s.length by omega]; omega
 ·simp
theorem Wb (l:List (List UInt8)) (h:l.length<=99999) (hs:∀ s ∈ l,s.length<=99999):AX l=some (l.any fun s=>!FY s):=by
 unfold AX Aq
 obtain ⟨n,h1,h2⟩:=Py l h Eo (fun s=>!FY s) (fun x hx=>by unfold Eo; rw [Te x (hs x hx)]; rfl) (Az l) (fun f c=>rfl)
 rw [<-h2]
 exact (congrArg (fun o=>o.bind fun v1=>some (decide (v1≥0))) h1)
def M3 (l:List (List UInt8)) (s:List UInt8):Bool:=l.any fun v=>s==v
theorem H6 (l:List (List UInt8)) (s:List UInt8) (h:l.length<=99999):As l s=some (M3 l s):=by
 unfold As BM
 obtain ⟨n,h1,h2⟩:=Py l h (fun v=>some (s==v)) (fun v=>s==v) (fun _ _=>rfl) (A1 l s) (fun f c=>rfl)
 unfold M3
 rw [<-h2]
 exact (congrArg (fun o=>o.bind fun v1=>some (decide (v1≥0))) h1)
/-- What is asked of the fields, by a row: names, from, to, last. -/
def fin (L:Nat) (n:Int) (la:Bool) (w:Int×Int×Int×Bool):Option Bool :=
 (if (decide ((L:Int)<=w.1))=true then if (w.1==0)=true then if (decide (n≥w.2.1))=true then if (decide (n<=w.2.2.1))=true then if w.2.2.2=true then some true else some (!la) else some false else some false else if (decide ((L:Int) > 0))=true then if (decide (n≥w.2.1))=true then if (decide (n<=w.2.2.1))=true then if w.2.2.2=true then some true else some (!la) else some false else some false else some false else some false).bind fun j58=>some j58
theorem Ko (L:Nat) (n:Int) (la:Bool) (a lo hi:Int) (last:Bool):fin L n la (a,lo,hi,last)=some ((decide ((L:Int)<=a)&&(a==0||decide ((L:Int) > 0)))&&(decide (n≥lo)&&(decide (n<=hi)&&(last||!la)))):=by
 unfold fin
 dsimp only
 generalize decide ((L:Int)<=a)=b1
 generalize (a==0)=b2
 generalize decide ((L:Int) > 0)=b3
 generalize decide (n≥lo)=b4
 generalize decide (n<=hi)=b5
 cases b1 <;> cases b2 <;> cases b3 <;> cases b4 <;> cases b5 <;> cases last <;> cases la <;> rfl
theorem TL (x:AF):∃ b,Bg x=some b/\Av x=some b:=by
 obtain ⟨k,am,la,nm,n⟩:=x
 by_cases h1:k=1
 ·subst h1
  have hr:Av (1,am,la,nm,n)=some ((decide (1<=(nm.length:Int))&&decide ((nm.length:Int)<=16))&&((n==0)&&(!la&&(am==[])))):=by
   unfold Av
   unfold BR
   dsimp only
   generalize decide (1<=(nm.length:Int))=b0
   generalize decide ((nm.length:Int)<=16)=b1
   generalize (n==0)=b2
   generalize (am==[])=b3
   cases b0 <;> cases b1 <;> cases b2 <;> cases la <;> cases b3 <;> rfl
  refine ⟨_,?_,hr⟩
  cases am with
  | cons a am =>
   have hc:Bg (1,a::am,la,nm,n)=some false:=rfl
   rw [hc]
   simp
  | nil =>
   have hc:Bg (1,[],la,nm,n)=fin nm.length n la (16,0,0,false):=rfl
   rw [hc,Ko]
   congr 1
   rw [Bool.eq_iff_iff]
   generalize nm.length=L
   cases la <;> simp <;> omega
 by_cases h2:k=2
 ·subst h2
  have hr:Av (2,am,la,nm,n)=some (((nm.length:Int)==0)&&((n==0)&&!la)):=by
   unfold Av
   unfold BR
   dsimp only
   generalize ((nm.length:Int)==0)=b0
   generalize (n==0)=b1
   cases b0 <;> cases b1 <;> cases la <;> rfl
  refine ⟨_,?_,hr⟩
  have hc:Bg (2,am,la,nm,n)=fin nm.length n la (0,0,0,false):=rfl
  rw [hc,Ko]
  congr 1
  rw [Bool.eq_iff_iff]
  generalize nm.length=L
  cases la <;> simp <;> omega
 by_cases h3:k=3
 ·subst h3
  have hr:Av (3,am,la,nm,n)=some (((nm.length:Int)==0)&&((n==0)&&!la)):=by
   unfold Av
   unfold BR
   dsimp only
   generalize ((nm.length:Int)==0)=b0
   generalize (n==0)=b1
   cases b0 <;> cases b1 <;> cases la <;> rfl
  refine ⟨_,?_,hr⟩
  have hc:Bg (3,am,la,nm,n)=fin nm.length n la (0,0,0,false):=rfl
  rw [hc,Ko]
  congr 1
  rw [Bool.eq_iff_iff]
  generalize nm.length=L
  cases la <;> simp <;> omega
 by_cases h8:k=8
 ·subst h8
  have hr:Av (8,am,la,nm,n)=some (((nm.length:Int)==0)&&((n==0)&&!la)):=by
   unfold Av
   unfold BR
   dsimp only
   generalize ((nm.length:Int)==0)=b0
   generalize (n==0)=b1
   cases b0 <;> cases b1 <;> cases la <;> rfl
  refine ⟨_,?_,hr⟩
  have hc:Bg (8,am,la,nm,n)=fin nm.length n la (0,0,0,false):=rfl
  rw [hc,Ko]
  congr 1
  rw [Bool.eq_iff_iff]
  generalize nm.length=L
  cases la <;> simp <;> omega
 by_cases h9:k=9
 ·subst h9
  have hr:Av (9,am,la,nm,n)=some (((nm.length:Int)==0)&&((n==0)&&!la)):=by
   unfold Av
   unfold BR
   dsimp only
   generalize ((nm.length:Int)==0)=b0
   generalize (n==0)=b1
   cases b0 <;> cases b1 <;> cases la <;> rfl
  refine ⟨_,?_,hr⟩
  have hc:Bg (9,am,la,nm,n)=fin nm.length n la (0,0,0,false):=rfl
  rw [hc,Ko]
  congr 1
  rw [Bool.eq_iff_iff]
  generalize nm.length=L
  cases la <;> simp <;> omega
 by_cases h4:k=4
 ·subst h4
  have hr:Av (4,am,la,nm,n)=some (((nm.length:Int)==0)&&(decide (1<=n)&&decide (n<=2))):=by
   unfold Av
   unfold BR
   dsimp only
   generalize ((nm.length:Int)==0)=b0
   generalize decide (1<=n)=b1
   generalize decide (n<=2)=b2
   cases b0 <;> cases b1 <;> cases b2 <;> cases la <;> rfl
  refine ⟨_,?_,hr⟩
  have hc:Bg (4,am,la,nm,n)=fin nm.length n la (0,1,2,true):=rfl
  rw [hc,Ko]
  congr 1
  rw [Bool.eq_iff_iff]
  generalize nm.length=L
  cases la <;> simp <;> omega
 by_cases h5:k=5
 ·subst h5
  have hr:Av (5,am,la,nm,n)=some (((nm.length:Int)==0)&&(n==0)):=by
   unfold Av
   unfold BR
   dsimp only
   generalize ((nm.length:Int)==0)=b0
   generalize (n==0)=b1
   cases b0 <;> cases b1 <;> cases la <;> rfl
  refine ⟨_,?_,hr⟩
  have hc:Bg (5,am,la,nm,n)=fin nm.length n la (0,0,0,true):=rfl
  rw [hc,Ko]
  congr 1
  rw [Bool.eq_iff_iff]
  generalize nm.length=L
  cases la <;> simp <;> omega
 by_cases h6:k=6
 ·subst h6
  have hr:Av (6,am,la,nm,n)=some ((decide (1<=(nm.length:Int))&&decide ((nm.length:Int)<=16))&&(n==0)):=by
   unfold Av
   unfold BR
   dsimp only
   generalize decide (1<=(nm.length:Int))=b0
   generalize decide ((nm.length:Int)<=16)=b1
   generalize (n==0)=b2
   cases b0 <;> cases b1 <;> cases b2 <;> cases la <;> rfl
  refine ⟨_,?_,hr⟩
  have hc:Bg (6,am,la,nm,n)=fin nm.length n la (16,0,0,true):=rfl
  rw [hc,Ko]
  congr 1
  rw [Bool.eq_iff_iff]
  generalize nm.length=L
  cases la <;> simp <;> omega
 by_cases h7:k=7
 ·subst h7
  have hr:Av (7,am,la,nm,n)=some ((decide (1<=(nm.length:Int))&&decide ((nm.length:Int)<=16))&&(n==0)):=by
   unfold Av
   unfold BR
   dsimp only
   generalize decide (1<=(nm.length:Int))=b0
   generalize decide ((nm.length:Int)<=16)=b1
   generalize (n==0)=b2
   cases b0 <;> cases b1 <;> cases b2 <;> cases la <;> rfl
  refine ⟨_,?_,hr⟩
  have hc:Bg (7,am,la,nm,n)=fin nm.length n la (16,0,0,true):=rfl
  rw [hc,Ko]
  congr 1
  rw [Bool.eq_iff_iff]
  generalize nm.length=L
  cases la <;> simp <;> omega
 by_cases h10:k=10
 ·subst h10
  have hr:Av (10,am,la,nm,n)=some (((nm.length:Int)==0)&&((decide (0<=n)&&decide (n<=63))&&!la)):=by
   unfold Av
   unfold BR
   dsimp only
   generalize ((nm.length:Int)==0)=b0
   generalize decide (0<=n)=b1
   generalize decide (n<=63)=b2
   cases b0 <;> cases b1 <;> cases b2 <;> cases la <;> rfl
  refine ⟨_,?_,hr⟩
  have hc:Bg (10,am,la,nm,n)=fin nm.length n la (0,0,63,false):=rfl
  rw [hc,Ko]
  congr 1
  rw [Bool.eq_iff_iff]
  generalize nm.length=L
  cases la <;> simp <;> omega
 have e:∀ m:Int,(m=1\/m=2\/m=3\/m=4\/m=5\/m=6\/m=7\/m=8\/m=9\/m=10)->(k==m)=false:=fun m hm=>by
  rw [beq_eq_false_iff_ne]
  rintro rfl
  omega
 refine ⟨false,?_,?_⟩
 ·simp [Bg,F9,GA,GB,GC,GD,GE,GF,GG,GH,e]
 ·simp [Av,Eb,Ec,Ed,Ee,e]
def fm (x:AF):Bool:=(Av x).getD false
theorem ZY (x:AF):Bg x=some (fm x):=by
 obtain ⟨b,h1,h2⟩:=TL x
 rw [h1]; unfold fm; rw [h2]; rfl
/-- Is a name there twice? -/
def T5 (l:List (List UInt8)):List (List UInt8)->Nat->Bool
 | [],_=>false
 | v::r,i=>M3 (l.take i) v||T5 l r (i + 1)
def Hu (before:List AF) (am:List UInt8):Bool:=before.any fun b=>(b.1==1)&&M3 b.2.2.2.1 am
def chk (before:List AF) (x:AF):Int :=
 if fm x=false then 30 else
 if ((!(x.2.1==[]))&&!FY x.2.1)=true\/(x.2.2.2.1.any fun s=>!FY s)=true then 4 else
 if T5 x.2.2.2.1 x.2.2.2.1 0=true then 5 else
 if x.2.1=[]\/Hu before x.2.1=true then 0 else 31
theorem TQ (l:List (List UInt8)):∀ (r:List (List UInt8)) (i:Nat),goU (fun v i (k:Option (Unit ⊕ Int))=>if M3 (l.take i) v=true then some (.inr 5) else k) (some (.inl ())) r i=some (if T5 l r i=true then .inr 5 else .inl ())
 | [],_=>rfl
 | v::r,i=>by
  unfold goU T5
  rw [TQ l r (i + 1)]
  cases M3 (l.take i) v <;> rfl
theorem Y0 (b:List AF) (j:AF) (h:j.2.2.2.1.length<=99999):Df b j 100000 0=some (if T5 j.2.2.2.1 j.2.2.2.1 0=true then .inr 5 else .inl ()):=by
 rw [<-TQ]
 refine Ot j.2.2.2.1 (Df b j) _ _ 100000 (by omega) (fun f pre v r e=>?_) (fun f=>?_)
 ·conv=>lhs; unfold Df
  have hl:j.2.2.2.1.length=pre.length + r.length + 1:=by rw [e]; simp; omega
  rw [if_pos (by rw [e]; exact KF pre v r),show idx j.2.2.2.1 (pre.length:Int)=some v by rw [e,FM],OS,if_pos (by unfold Do; simp; omega),Int.toNat_natCast]
  rw [show ((j.2.2.2.1.take pre.length).drop (0:Int).toNat)=j.2.2.2.1.take pre.length from rfl,H6 _ _ (by simp; omega),OS,Ht pre v r (by rw [<-e]; omega)]
 ·conv=>lhs; unfold Df
  rw [if_neg (by simp)]
theorem Uy (b:List AF) (x:AF) (h:b.length<=99999) (hb:∀ y ∈ b,y.2.2.2.1.length<=99999):AT b x=some (Hu b x.2.1):=by
 unfold AT Ae
 obtain ⟨n,h1,h2⟩:=Py b h (fun v=>Ep v x) (fun y=>(y.1==1)&&M3 y.2.2.2.1 x.2.1) (fun y hy=>by
  unfold Ep
  rw [H6 _ _ (hb y hy)]
  cases (y.1==1) <;> rfl) (Ao b x) (fun f c=>rfl)
 unfold Hu
 rw [<-h2]
 exact (congrArg (fun o=>o.bind fun v1=>some (decide (v1≥0))) h1)
theorem Yw (b:List AF) (x:AF) (hb:few b) (hx:Xc x):Fp b x=some (chk b x):=by
 have hn:∀ s ∈ x.2.2.2.1,s.length<=99999:=fun s hs=>by have:=hx.2.2 s hs; omega
 unfold Fp chk
 rw [ZY,OS]
 cases hf:fm x with
 | false=>simp
 | true =>
  rw [if_neg (show ¬ ((!true)=true) by simp),if_neg (show ¬ (true=false) by simp),Wb _ (by have:=hx.2.1; omega) hn,Te _ (by have:=hx.1; omega)]
  have e:((if (!(x.2.1==[]))=true then (some (FY x.2.1)).bind fun v3=>if (!v3)=true then some true else (some (x.2.2.2.1.any fun s=>!FY s)).bind fun v4=>some v4 else (some (x.2.2.2.1.any fun s=>!FY s)).bind fun v5=>some v5):Option Bool)=some (((!(x.2.1==[]))&&!FY x.2.1)||(x.2.2.2.1.any fun s=>!FY s)):=by
   cases (x.2.1==[]) <;> cases FY x.2.1 <;> rfl
  rw [e,OS]
  cases hq:(((!(x.2.1==[]))&&!FY x.2.1)||(x.2.2.2.1.any fun s=>!FY s)) with
  | true=>rw [if_pos rfl,if_pos (by simpa using hq)]
  | false =>
   rw [if_neg (show ¬ (false=true) by simp),if_neg (show ¬ (((!(x.2.1==[]))&&!FY x.2.1)=true\/(x.2.2.2.1.any fun s=>!FY s)=true) by simpa using hq),Y0 _ _ (by have:=hx.2.1; omega),OS]
   try dsimp only
   cases hd:T5 x.2.2.2.1 x.2.2.2.1 0 with
   | true=>rfl
   | false =>
    rw [if_neg (show ¬ (false=true) by simp)]
    dsimp only
    have hr:=Uy b x (by have:=hb.1; omega) (fun y hy=>by have:=(hb.2 y hy).2.1; omega)
    rw [hr]
    by_cases ha:x.2.1=[]
    ·simp [ha]
    ·simp only [ha,false_or]
     cases Hu b x.2.1 <;> simp [ha]
section
variable (c pre r:List AF) (x:AF) (e:c=pre++x::r) (h:few c)
include e h
end
/-- The first error of a text: its place, and which. -/
def Rj (c:List AF):List AF->Nat->Unit ⊕ (Int×Int)
 | [],_=> .inl ()
 | x::r,i=>if chk (c.take i) x≠0 then .inr ((i:Int),chk (c.take i) x) else Rj c r (i + 1)
def On (c:List AF):Int×Int:=if c.length > 32 then (0,7) else match Rj c c 0 with
 | .inl _=>(0,0)
 | .inr w=>w
theorem TP (c:List AF):∀ (r:List AF) (i:Nat),goU (fun x i (k:Option (Unit ⊕ (Int×Int)))=>if (chk (c.take i) x != 0)=true then some (.inr ((i:Int),chk (c.take i) x)) else k) (some (.inl ())) r i=some (Rj c r i)
 | [],_=>rfl
 | x::r,i=>by
  unfold goU Rj
  rw [TP c r (i + 1)]
  by_cases h:chk (c.take i) x=0 <;> simp [h]
theorem UW {c:List AF}(h:few c) (n:Nat):few (c.take n):=⟨by have:=h.1; simp; omega,fun x hx=>h.2 x (List.mem_of_mem_take hx)⟩
theorem Qv (c:List AF) (h:few c):FD c=some (On c):=by
 have hl:=h.1
 have e1:De c 100000 0=some (Rj c c 0):=by
  rw [<-TP]
  refine Ot c (De c) _ _ 100000 (by omega) (fun f pre v r e=>?_) (fun f=>?_)
  ·conv=>lhs; unfold De
   have hl2:c.length=pre.length + r.length + 1:=by rw [e]; simp; omega
   rw [if_pos (by rw [e]; exact KF pre v r),show idx c (pre.length:Int)=some v by rw [e,FM],OS,if_pos (by unfold Do; simp; omega),Int.toNat_natCast,
    show ((c.take pre.length).drop (0:Int).toNat)=c.take pre.length from rfl,Yw _ v (UW h _) (h.2 v (by rw [e]; simp)),OS,Ht pre v r (by rw [<-e]; omega)]
  ·conv=>lhs; unfold De
   rw [if_neg (by simp)]
 unfold FD On
 by_cases h32:c.length > 32
 ·rw [if_pos (by simp; omega),if_pos h32]
 ·rw [if_neg (by simp; omega),if_neg h32,e1,OS]
  cases Rj c c 0 <;> rfl
/- trestle/trestleref03.rank -/
/- trestle/trestleref03.key -/
/- trestle/trestleref03.named -/
/- trestle/trestleref03.before -/
/- trestle/trestleref03.Reason -/
/-- The first of a word in a list, from a number on. -/
def rkN (s:List UInt8):List (List UInt8)->Nat->Nat
 | [],i=>i
 | v::r,i=>if (s==v)=true then i else rkN s r (i + 1)
theorem VY (s:List UInt8):∀ (l:List (List UInt8)) (i:Nat),M3 l s=false->rkN s l i=i + l.length
 | [],i,_=>rfl
 | v::r,i,h=>by
  have h':((s==v)||M3 r s)=false:=h
  simp only [Bool.or_eq_false_iff] at h'
  unfold rkN
  rw [if_neg (show ¬ (s==v)=true by rw [h'.1]; decide),VY s r (i + 1) h'.2]
  simp; omega
theorem VO (s:List UInt8):∀ (l:List (List UInt8)) (i:Nat),goU (fun v i (k:Option (Unit ⊕ Int))=>if (s==v)=true then some (.inr (i:Int)) else k) (some (.inl ())) l i=some (if M3 l s=true then .inr (rkN s l i:Int) else .inl ())
 | [],_=>rfl
 | v::r,i=>by
  unfold goU rkN
  rw [VO s r (i + 1)]
  have:M3 (v::r) s=((s==v)||M3 r s):=rfl
  rw [this]
  cases (s==v) <;> rfl
def rk (l:List (List UInt8)) (s:List UInt8):Int:=(rkN s l 0:Nat)
theorem VV (x:AR) (c:AF) (h:c.2.2.2.1.length<=99999):DI x c=some (rk c.2.2.2.1 x.1.2.1):=by
 unfold DI BM
 have e:A1 c.2.2.2.1 x.1.2.1 100000 0=some (if M3 c.2.2.2.1 x.1.2.1=true then .inr (rkN x.1.2.1 c.2.2.2.1 0:Int) else .inl ()):=by
  rw [<-VO]
  refine Ot c.2.2.2.1 (A1 c.2.2.2.1 x.1.2.1) _ _ 100000 (by omega) (fun f pre v r e=>?_) (fun f=>?_)
  ·conv=>lhs; unfold A1
   rw [if_pos (by rw [e]; exact KF pre v r),show idx c.2.2.2.1 (pre.length:Int)=some v by rw [e,FM],OS,Ht pre v r (by rw [<-e]; omega)]
  ·conv=>lhs; unfold A1
   rw [if_neg (by simp)]
 rw [e]
 cases hh:M3 c.2.2.2.1 x.1.2.1 with
 | true=>simp [rk]
 | false=>simp [rk,VY _ _ _ hh]
/-- -1, 0 or 1. -/
def KT (x y:Int):Int:=if x < y then -1 else if y < x then 1 else 0
theorem UN (x y:Int):B3 x y=some (KT x y):=by
 unfold B3 DG KT
 simp only [bne_self_eq_false,OS,Bool.false_eq_true,if_false,decide_eq_true_eq,gt_iff_lt]
 split
 ·rfl
 ·split <;> rfl
def S8 (x y:List UInt8):Int:=if Go.Op.bytesLess x y=true then -1 else if (!(Go.Op.bytesLess x y||x==y))=true then 1 else 0
theorem Yx (x y:List UInt8):Cp x y=some (S8 x y):=by
 unfold Cp DS S8
 simp only [beq_self_eq_true,Bool.not_true,OS,Bool.false_eq_true,if_false]
 split
 ·rfl
 ·split <;> rfl
/-- Does a clause name a guest? -/
def nmB (c:AF) (g:A6):Bool :=
 if (c.1==4)=true then g.2.2.2.2.1==c.2.2.2.2 else
 if (c.1==5)=true then g.2.2.2.2.2.2.1 else
 if (c.1==7)=true then M3 c.2.2.2.1 g.2.2.1 else g.2.2.2.2.2.2.2.2.any fun s=>M3 c.2.2.2.1 s
theorem Qf (t:List (List UInt8)) (c:AF) (ht:t.length<=99999) (h:c.2.2.2.1.length<=99999):Aa t c=some (t.any fun s=>M3 c.2.2.2.1 s):=by
 unfold Aa Ap
 obtain ⟨n,h1,h2⟩:=Py t ht (fun v=>Dn v c) (fun s=>M3 c.2.2.2.1 s) (fun v _=>by unfold Dn; rw [H6 _ _ h]; rfl) (Au t c) (fun f c=>rfl)
 rw [<-h2]
 exact (congrArg (fun o=>o.bind fun v1=>some (decide (v1≥0))) h1)
def nv (c:AF) (g:A6):Int:=if (!(nmB c g==c.2.2.1))=true then 0 else 1
def QK (i:Int):Bool:=decide (i≥0)&&decide (i<=63)
theorem Y7 (i:Int):CR i=some (QK i):=by
 unfold CR QK
 by_cases h:i≥0 <;> simp [h]
def kyI (i n:Int):Int:=(wr .i64 ((wr .i64 (i * (wr .i64 ((wr .i64 (n + n)) + 1)))) + n)).tmod 64
theorem ZB (i:Int) (c:AF):Db i c=some (kyI i c.2.2.2.2):=by
 unfold Db kyI
 rw [Int.two_mul]
def b2 (b:Bool):Int:=if b=true then 1 else 0
theorem ZV (b:Bool):H7 b=some (b2 b):=by cases b <;> rfl
def snc (y:Bool) (s t:Int):Int:=if (!((s==0)==(t==0)))=true then KT (b2 (s==0)) (b2 (t==0)) else if y=true then wr .i64 (0 - KT s t) else KT s t
/-- What a clause says of two guests at their places, without regard to Among. -/
def OJ (c:AF) (a b:A6) (i j:Int):Int :=
 if (c.1==1)=true then KT (rk c.2.2.2.1 a.2.1) (rk c.2.2.2.1 b.2.1) else
 if (c.1==2)=true then snc false a.2.2.2.1 b.2.2.2.1 else
 if (c.1==3)=true then snc true a.2.2.2.1 b.2.2.2.1 else
 if (c.1==8)=true then S8 a.1 b.1 else
 if (c.1==9)=true then if (!QK i||!QK j)=true then 0 else KT i j else
 if (c.1==10)=true then if (!QK i||!QK j)=true then 0 else KT (kyI i c.2.2.2.2) (kyI j c.2.2.2.2) else
 KT (nv c a) (nv c b)
def amB (c:AF) (a b:A6):Bool:=(!(c.2.1==[]))&&((!(a.2.1==c.2.1))||(!(b.2.1==c.2.1)))
def dir (c:AF) (a b:A6) (i j:Int):Int:=if amB c a b=true then 0 else OJ c a b i j
theorem ZU (c:AF) (a b:A6):((if (!(c.2.1==[]))=true then if (!(a.2.1==c.2.1))=true then some true else some (!(b.2.1==c.2.1)) else some false):Option Bool)=some (amB c a b):=by
 unfold amB
 cases (c.2.1==[]) <;> cases (a.2.1==c.2.1) <;> rfl
theorem SB (a b:A6) (i j:Int) (c:AF):Cj (a,i) (b,j) c=some (snc (c.1==3) a.2.2.2.1 b.2.2.2.1):=by
 unfold Cj snc Fj
 simp only [ZV,UN,OS]
 split
 ·rfl
 ·split <;> rfl
theorem Yz (c:AF) (a b:A6) (i j:Int) (h:c.2.2.2.1.length<=99999) (ha:a.2.2.2.2.2.2.2.2.length<=99999) (hb:b.2.2.2.2.2.2.2.2.length<=99999) (hk:1<=c.1/\c.1<=10):Dm (a,i) (b,j) c=some (dir c a b i j):=by
 have cl:∀ (o:Option Int) (x:Int),o=some x->((((if (!(c.2.1==[]))=true then if (!(a.2.1==c.2.1))=true then some true else some (!(b.2.1==c.2.1)) else some false):Option Bool).bind fun j2=>if j2=true then some 0 else o.bind fun v4=>some v4):Option Int)=some (if amB c a b=true then 0 else x):=fun o x e=>by
  rw [ZU,OS,e]
  cases amB c a b <;> rfl
 have nm:∀ (p q:Bool),((if (!(p==c.2.2.1))=true then some 0 else some 1:Option Int).bind fun v1=>(if (!(q==c.2.2.1))=true then some 0 else some 1:Option Int).bind fun v2=>(B3 v1 v2).bind fun v3=>some v3)=some (KT (if (!(p==c.2.2.1))=true then 0 else 1) (if (!(q==c.2.2.1))=true then 0 else 1)):=fun p q=>by
  simp only [UN]
  cases (p==c.2.2.1) <;> cases (q==c.2.2.1) <;> rfl
 have pl:∀ (o:Int->Option Int) (k:Int->Int),(∀ i,o i=some (k i))->(((CR i).bind fun v1=>((if (!v1)=true then some true else (CR j).bind fun v2=>some (!v2)):Option Bool).bind fun j4=>if j4=true then some 0 else (o i).bind fun v6=>(o j).bind fun v7=>(B3 v6 v7).bind fun v8=>some v8):Option Int)=some (if (!QK i||!QK j)=true then 0 else KT (k i) (k j)):=fun o k e=>by
  simp only [Y7,OS,e,UN]
  cases QK i <;> cases QK j <;> rfl
 unfold Dm dir
 by_cases h1:c.1=1
 ·have e1:(c.1==1)=true:=by simp [h1]
  rw [if_pos e1]
  refine cl (B8 (fun x (v:AF×Unit)=>DI x v.1) (a,i) (b,j) (c,())) _ ?_
  unfold B8 OJ
  dsimp only
  rw [if_pos e1,VV _ c h,OS,VV _ c h,OS,UN]; rfl
 rw [if_neg (show ¬ (c.1==1)=true by simpa using h1)]
 by_cases h2:c.1=2
 ·have e2:(c.1==2)=true:=by simp [h2]
  rw [if_pos e2]
  refine cl (Cj (a,i) (b,j) c) _ ?_
  unfold OJ
  rw [if_neg (show ¬ (c.1==1)=true by simpa using h1),if_pos e2,SB,h2]; rfl
 rw [if_neg (show ¬ (c.1==2)=true by simpa using h2)]
 by_cases h3:c.1=3
 ·have e3:(c.1==3)=true:=by simp [h3]
  rw [if_pos e3]
  refine cl (Cj (a,i) (b,j) c) _ ?_
  unfold OJ
  rw [if_neg (show ¬ (c.1==1)=true by simpa using h1),if_neg (show ¬ (c.1==2)=true by simpa using h2),if_pos e3,SB,h3]; rfl
 rw [if_neg (show ¬ (c.1==3)=true by simpa using h3)]
 by_cases h4:c.1=4
 ·have e4:(c.1==4)=true:=by simp [h4]
  rw [if_pos e4]
  refine cl (B8 (fun x (v:AF×AF×Unit)=>BB x v.1 v.2.1) (a,i) (b,j) (c,c,())) _ ?_
  have:OJ c a b i j=KT (nv c a) (nv c b):=by unfold OJ; simp [h4]
  rw [this]
  unfold nv nmB
  rw [if_pos e4,if_pos e4]
  exact nm _ _
 rw [if_neg (show ¬ (c.1==4)=true by simpa using h4)]
 by_cases h5:c.1=5
 ·have e5:(c.1==5)=true:=by simp [h5]
  rw [if_pos e5]
  refine cl (B8 (fun x (v:Unit×AF×Unit)=>BC x v.2.1) (a,i) (b,j) ((),c,())) _ ?_
  have:OJ c a b i j=KT (nv c a) (nv c b):=by unfold OJ; simp [h5]
  rw [this]
  unfold nv nmB
  simp only [h5]
  exact nm _ _
 rw [if_neg (show ¬ (c.1==5)=true by simpa using h5)]
 by_cases h6:c.1=6
 ·have e6:(c.1==6)=true:=by simp [h6]
  rw [if_pos e6]
  refine cl (B8 (fun x (v:AF×AF×Unit)=>A4 x v.1 v.2.1) (a,i) (b,j) (c,c,())) _ ?_
  have:OJ c a b i j=KT (nv c a) (nv c b):=by unfold OJ; simp [h6]
  rw [this]
  unfold B8 A4 FT
  dsimp only
  rw [Qf _ _ ha h,Qf _ _ hb h]
  unfold nv nmB
  simp only [h6]
  exact nm _ _
 rw [if_neg (show ¬ (c.1==6)=true by simpa using h6)]
 by_cases h7:c.1=7
 ·have e7:(c.1==7)=true:=by simp [h7]
  rw [if_pos e7]
  refine cl (B8 (fun x (v:AF×AF×Unit)=>A5 x v.1 v.2.1) (a,i) (b,j) (c,c,())) _ ?_
  have:OJ c a b i j=KT (nv c a) (nv c b):=by unfold OJ; simp [h7]
  rw [this]
  unfold B8 A5 FU
  dsimp only
  rw [H6 _ _ h,H6 _ _ h]
  unfold nv nmB
  simp only [h7]
  exact nm _ _
 rw [if_neg (show ¬ (c.1==7)=true by simpa using h7)]
 by_cases h8:c.1=8
 ·have e8:(c.1==8)=true:=by simp [h8]
  rw [if_pos e8]
  refine cl (D8 (a,i) (b,j)) _ ?_
  have:OJ c a b i j=S8 a.1 b.1:=by unfold OJ; simp [h8]
  rw [this]
  unfold D8
  rw [Yx]; rfl
 rw [if_neg (show ¬ (c.1==8)=true by simpa using h8)]
 by_cases h10:c.1=10
 ·have e10:(c.1==10)=true:=by simp [h10]
  rw [if_pos e10]
  refine cl (Ai (a,i) (b,j) c) _ ?_
  have:OJ c a b i j=if (!QK i||!QK j)=true then 0 else KT (kyI i c.2.2.2.2) (kyI j c.2.2.2.2):=by unfold OJ; simp [h10]
  rw [this]
  exact pl (fun i=>Db i c) (fun i=>kyI i c.2.2.2.2) (fun i=>ZB i c)
 rw [if_neg (show ¬ (c.1==10)=true by simpa using h10)]
 have h9:c.1=9:=by omega
 refine cl (Aj (a,i) (b,j)) _ ?_
 have:OJ c a b i j=if (!QK i||!QK j)=true then 0 else KT i j:=by unfold OJ; simp [h9]
 rw [this]
 exact pl (fun i=>Er i) (fun i=>i) (fun i=>rfl)
theorem Rh:∀ (x y:List UInt8),Go.Op.bytesLess x y=false->Go.Op.bytesLess y x=!(x==y)
 | [],[],_=>rfl
 | a::x,[],_=>rfl
 | [],b::y,h=>by cases h
 | a::x,b::y,h=>by
  have h':(decide (a < b)||(a==b&&Go.Op.bytesLess x y))=false:=h
  simp only [Bool.or_eq_false_iff,decide_eq_false_iff_not] at h'
  show (decide (b < a)||(b==a&&Go.Op.bytesLess y x))=!(a::x==b::y)
  by_cases e:a=b
  ·subst e
   have h2:Go.Op.bytesLess x y=false:=by simpa using h'.2
   have:=Rh x y h2
   simp [this]
  ·have hlt:b < a:=by
    rcases Nat.lt_trichotomy a.toNat b.toNat with q | q | q
    ·exact absurd (UInt8.lt_iff_toNat_lt.2 q) h'.1
    ·exact absurd (UInt8.toNat_inj.1 q) e
    ·exact UInt8.lt_iff_toNat_lt.2 q
   simp [hlt,e]
theorem X6 (y:Bool) (s t:Int):snc y s t=if ((s != 0)&&((t==0)||(if y=true then decide (s > t) else decide (s < t))))=true then -1 else if ((t != 0)&&((s==0)||(if y=true then decide (t > s) else decide (t < s))))=true then 1 else 0:=by
 have w1:wr .i64 1=1:=by decide
 have w2:wr .i64 (-1) = -1:=by decide
 have w3:wr .i64 0=0:=by decide
 unfold snc KT b2
 by_cases hs:s=0 <;> by_cases ht:t=0
 ·subst hs ht; cases y <;> simp [w3]
 ·subst hs; simp [ht]
 ·subst ht; simp [hs]
 ·have e1:(s==0)=false:=by simpa using hs
  have e2:(t==0)=false:=by simpa using ht
  have e3:(s != 0)=true:=by simpa using hs
  have e4:(t != 0)=true:=by simpa using ht
  rw [e1,e2,e3,e4]
  rcases Int.lt_trichotomy s t with q | q | q
  ·have q2:¬ t < s:=by omega
   cases y <;> simp [q,q2,w1]
  ·subst q; cases y <;> simp [w3]
  ·have q2:¬ s < t:=by omega
   cases y <;> simp [q,q2,w2]
/-- The first clause that separates two guests. -/
def rsn (a b:A6) (i j:Int):List AF->Nat->Unit ⊕ (Int×Int)
 | [],_=> .inl ()
 | x::r,k=>if dir x a b i j=0 then rsn a b i j r (k + 1) else .inr ((k:Int),dir x a b i j)
def XA (c:List AF) (a b:A6) (i j:Int):Int×Int:=match rsn a b i j c 0 with
 | .inl _=>(-1,0)
 | .inr w=>w
theorem Xf (a b:A6) (i j:Int):∀ (r:List AF) (k:Nat),goU (fun x k (n:Option (Unit ⊕ (Int×Int)))=>if (dir x a b i j != 0)=true then some (.inr ((k:Int),dir x a b i j)) else n) (some (.inl ())) r k=some (rsn a b i j r k)
 | [],_=>rfl
 | x::r,k=>by
  unfold goU rsn
  rw [Xf a b i j r (k + 1)]
  by_cases h:dir x a b i j=0 <;> simp [h]
def P8 (g:A6):Prop:=g.2.2.2.2.2.2.2.2.length<=10
def WJ (c:List AF):Prop:=∀ x ∈ c,1<=x.1/\x.1<=10
theorem TJ (c:List AF) (a b:A6) (i j:Int) (h:few c) (hk:WJ c) (ha:P8 a) (hb:P8 b):Am c (a,i) (b,j)=some (XA c a b i j):=by
 have hl:=h.1
 have e:Ab c 100000 a.1 a.2.1 a.2.2.1 a.2.2.2.1 a.2.2.2.2.1 a.2.2.2.2.2.1 a.2.2.2.2.2.2.1 a.2.2.2.2.2.2.2.1 a.2.2.2.2.2.2.2.2 i b.1 b.2.1 b.2.2.1 b.2.2.2.1 b.2.2.2.2.1 b.2.2.2.2.2.1 b.2.2.2.2.2.2.1 b.2.2.2.2.2.2.2.1 b.2.2.2.2.2.2.2.2 j 0=some (rsn a b i j c 0):=by
  rw [<-Xf]
  refine Ot c (fun f n=>Ab c f a.1 a.2.1 a.2.2.1 a.2.2.2.1 a.2.2.2.2.1 a.2.2.2.2.2.1 a.2.2.2.2.2.2.1 a.2.2.2.2.2.2.2.1 a.2.2.2.2.2.2.2.2 i b.1 b.2.1 b.2.2.1 b.2.2.2.1 b.2.2.2.2.1 b.2.2.2.2.2.1 b.2.2.2.2.2.2.1 b.2.2.2.2.2.2.2.1 b.2.2.2.2.2.2.2.2 j n) _ _ 100000 (by omega) (fun f pre v r e=>?_) (fun f=>?_)
  ·conv=>lhs; unfold Ab
   have hv:Xc v:=h.2 v (by rw [e]; simp)
   have hd:=Yz v a b i j (by have:=hv.2.1; omega) (by unfold P8 at ha; omega) (by unfold P8 at hb; omega) (hk v (by rw [e]; simp))
   rw [if_pos (by rw [e]; exact KF pre v r),show idx c (pre.length:Int)=some v by rw [e,FM],OS]
   rw [show Dm ((a.1,a.2.1,a.2.2.1,a.2.2.2.1,a.2.2.2.2.1,a.2.2.2.2.2.1,a.2.2.2.2.2.2.1,a.2.2.2.2.2.2.2.1,a.2.2.2.2.2.2.2.2),i) ((b.1,b.2.1,b.2.2.1,b.2.2.2.1,b.2.2.2.2.1,b.2.2.2.2.2.1,b.2.2.2.2.2.2.1,b.2.2.2.2.2.2.2.1,b.2.2.2.2.2.2.2.2),j) v=some (dir v a b i j) from hd,OS,Ht pre v r (by rw [<-e]; omega)]
  ·show Ab c (f + 1) a.1 a.2.1 a.2.2.1 a.2.2.2.1 a.2.2.2.2.1 a.2.2.2.2.2.1 a.2.2.2.2.2.2.1 a.2.2.2.2.2.2.2.1 a.2.2.2.2.2.2.2.2 i b.1 b.2.1 b.2.2.1 b.2.2.2.1 b.2.2.2.2.1 b.2.2.2.2.2.1 b.2.2.2.2.2.2.1 b.2.2.2.2.2.2.2.1 b.2.2.2.2.2.2.2.2 j (c.length:Int)=_
   conv=>lhs; unfold Ab
   rw [if_neg (by simp)]
 unfold Am XA
 dsimp only
 rw [e,OS]
 cases rsn a b i j c 0 <;> rfl
theorem Nh (c:List AF) (h:few c) (hk:WJ c):∀ (r pre:List AF) (f:Nat),c=pre++r->r.length < f->Cr c f pre (pre.length:Int)=some c
 | [],pre,f + 1,e,_=>by
  unfold Cr
  rw [if_neg (by rw [e]; simp),e,List.append_nil]
 | v::r,pre,f + 1,e,hf=>by
  have hl:=h.1
  have hl2:c.length=pre.length + r.length + 1:=by rw [e]; simp; omega
  simp only [List.length_cons] at hf
  have hkv:=hk v (by rw [e]; simp)
  unfold Cr
  rw [if_pos (by rw [e]; exact KF pre v r),show idx c (pre.length:Int)=some v by rw [e,FM],OS,show Eq v=some v by unfold Eq; rw [if_pos hkv],OS,if_pos (Hv (by omega) (by omega)),show wr .i64 ((pre.length:Int) + 1)=((pre++[v]).length:Int) from Ht pre v r (by rw [<-e]; omega)]
  exact Nh c h hk r (pre++[v]) f (by rw [e]; simp) (by omega)
theorem V4 {x:AF}(h:fm x=true):1<=x.1/\x.1<=10:=by
 by_cases hk:1<=x.1/\x.1<=10
 ·exact hk
 ·exfalso
  have n:∀ q:Int,1<=q->q<=10->¬ (x.1==q)=true:=fun q h1 h2 e=>hk (by have:x.1=q:=(by simpa using e); omega)
  have e:Av x=some false:=by
   unfold Av Eb Ec Ed Ee
   have n9:(x.1==9)=false:=by simpa using n 9 (by omega) (by omega)
   have n7:(x.1==7)=false:=by simpa using n 7 (by omega) (by omega)
   rw [if_neg (n 1 (by omega) (by omega)),if_neg (n 2 (by omega) (by omega)),if_neg (n 3 (by omega) (by omega)),if_neg (n 8 (by omega) (by omega)),if_neg (n 4 (by omega) (by omega)),if_neg (n 5 (by omega) (by omega)),if_neg (n 6 (by omega) (by omega)),if_neg (n 10 (by omega) (by omega)),n9,n7]
   rfl
  unfold fm at h
  rw [e] at h
  cases h
theorem PD (c:List AF):∀ (r:List AF) (i:Nat),(∃ u,Rj c r i = .inl u/\∀ x ∈ r,fm x=true)\/∃ w,Rj c r i = .inr w/\w.2≠0
 | [],i=> .inl ⟨(),rfl,fun x hx=>by cases hx⟩
 | x::r,i=>by
  unfold Rj
  by_cases h:chk (c.take i) x=0
  ·rw [if_neg (by simpa using h)]
   rcases PD c r (i + 1) with ⟨u,h1,h2⟩ | h1
   ·refine .inl ⟨u,h1,fun y hy=>?_⟩
    rcases List.mem_cons.1 hy with rfl | hy
    ·cases hf:fm y with
     | true=>rfl
     | false=>unfold chk at h; rw [if_pos hf] at h; cases h
    ·exact h2 y hy
   ·exact .inr h1
  ·rw [if_pos h]
   exact .inr ⟨_,rfl,h⟩
theorem K8 {c:List AF}(h:(On c).2=0):WJ c:=by
 unfold On at h
 split at h
 ·cases h
 ·rcases PD c c 0 with ⟨u,h1,h2⟩ | ⟨w,h1,h2⟩
  ·exact fun x hx=>V4 (h2 x hx)
  ·rw [h1] at h; exact absurd h h2
theorem Uz (c:List AF) (a b:A6) (i j:Int) (h:few c) (ha:P8 a) (hb:P8 b):FE c a b i j=some (if (On c).2=0 then XA c a b i j else (0,0)):=by
 unfold FE D7
 rw [Qv c h,OS]
 by_cases hv:(On c).2=0
 ·have hk:=K8 hv
  have e0:Cr c 100000 [] 0=some c:=Nh c h hk c [] 100000 rfl (by have:=h.1; omega)
  rw [if_neg (by simpa using hv),if_pos hv,e0]
  simp only [OS]
  rw [if_neg (by simp),TJ c a b i j h hk ha hb]
  rfl
 ·rw [if_pos (by simpa using hv),if_neg hv]
  rfl
theorem TB (c:List AF) (a b:A6) (i j:Int) (h:few c) (ha:P8 a) (hb:P8 b):D4 c a b i j=some (if (On c).2=0 then XA c a b i j else (0,0)).2:=by
 unfold D4
 rw [Uz c a b i j h ha hb]; rfl
/-- A letter a to d. -/
def wd (k:Int):List UInt8:=((((([97,98,99,100]:List UInt8).take (([97,98,99,100]:List UInt8).length:Int).toNat).drop k.toNat).take (1:Int).toNat).drop (0:Int).toNat)
theorem YZ {k:Int}(h1:0<=k) (h2:k < 4):k=0\/k=1\/k=2\/k=3:=by omega
theorem T0 {k:Int}(h1:0<=k) (h2:k < 4):FY (wd k)=true/\(wd k).length=1:=by
 rcases YZ h1 h2 with rfl | rfl | rfl | rfl <;> decide
theorem YH {a b:Int}(h1:0<=a) (h2:a < 4) (h3:0<=b) (h4:b < 4) (h:(wd a==wd b)=true):a=b:=by
 rcases YZ h1 h2 with rfl | rfl | rfl | rfl <;> rcases YZ h3 h4 with rfl | rfl | rfl | rfl <;> first | rfl | (exact absurd h (by decide))
theorem W5 {k:Int}(h1:0<=k) (h2:k < 4):Do k (([97,98,99,100]:List UInt8).length:Int) ([97,98,99,100]:List UInt8).length=true/\Do 0 (1:Int) ((([97,98,99,100]:List UInt8).take (([97,98,99,100]:List UInt8).length:Int).toNat).drop k.toNat).length=true:=by
 rcases YZ h1 h2 with rfl | rfl | rfl | rfl <;> exact ⟨by decide,by decide⟩
def u8 (n:Int):Prop:=0<=n/\n<=255
theorem tm4 {n:Int}(h:u8 n):0<=n.tmod 4/\n.tmod 4 < 4:=by
 have:=h.1
 rw [Int.tmod_eq_emod_of_nonneg this]
 omega
theorem wr8 (n:Int) (h:u8 n):u8 (wr .u8 (n + 1))/\(wr .u8 (n + 1)).tmod 4≠n.tmod 4:=by
 have e:wr .u8 (n + 1)=(n + 1) % 256:=rfl
 have h2:u8 ((n + 1) % 256):=⟨by omega,by omega⟩
 refine ⟨e ▸ h2,?_⟩
 rw [e,Int.tmod_eq_emod_of_nonneg h2.1,Int.tmod_eq_emod_of_nonneg h.1]
 unfold u8 at h
 omega
/-- The names of a code. -/
def nms (v:Int×Int×Int×Bool×Bool):List (List UInt8):=if ((Dt .u8 v.2.2.1 4)!=0)=true then [wd (v.2.2.1.tmod 4),wd ((wr .u8 (v.2.2.1 + 1)).tmod 4)] else [wd (v.2.2.1.tmod 4)]
theorem Xw (x0:List (Int×Int×Int×Bool×Bool)) (c2:List AF) (c3:List UInt8) (c4:Int) (v:Int×Int×Int×Bool×Bool) (h:u8 v.2.2.1):Gc x0 c2 c3 c4 v=some (nms v):=by
 unfold Gc nms
 obtain ⟨h1,_⟩:=wr8 _ h
 obtain ⟨q1,q2⟩:=tm4 h1
 obtain ⟨d1,d2⟩:=W5 q1 q2
 by_cases hc:((Dt .u8 v.2.2.1 4)!=0)=true
 ·rw [if_pos hc,if_pos hc,if_pos d1,if_pos d2]
  refine (if_pos ?_).trans rfl
  show FZ 16 2=true
  decide
 ·rw [if_neg hc,if_neg hc]; rfl
/-- The clause of a code. -/
def clz (k:Int) (am:List UInt8) (la:Bool) (nm:List (List UInt8)) (b:Int):AF :=
 if k=1 then (1,am,false,nm,0) else if k=4 then (4,am,la,[],wr .i64 (1 + wr .i64 (b.tmod 2))) else if k=5 then (5,am,la,[],0) else
 if k=6 then (6,am,la,nm,0) else if k=7 then (7,am,la,nm,0) else if k=10 then (10,am,false,[],wr .i64 (b.tmod 64)) else (k,am,false,[],0)
theorem ten {k:Int}(h1:1<=k) (h2:k<=10):k=1\/k=2\/k=3\/k=4\/k=5\/k=6\/k=7\/k=8\/k=9\/k=10:=by omega
theorem Xx (x0:List (Int×Int×Int×Bool×Bool)) (c2:List AF) (c3:List UInt8) (c4 a b d:Int) (e g:Bool) (k:Int) (am:List UInt8) (w:List UInt8) (nm:List (List UInt8)) (h1:1<=k) (h2:k<=10) :
  Gd x0 c3 c4 (c2,a,b,d,e,g,k,am,false,0,w::nm)=some (c2,(if k=1 then w else c3),clz k am e (w::nm) b):=by
 rcases ten h1 h2 with rfl | rfl | rfl | rfl | rfl | rfl | rfl | rfl | rfl | rfl <;> rfl
/-- Names that are fit. -/
def YT (nm:List (List UInt8)):Prop:=1<=nm.length/\nm.length<=2/\(nm.any fun s=>!FY s)=false/\T5 nm nm 0=false/\∀ s ∈ nm,s.length<=40
theorem Th (v:Int×Int×Int×Bool×Bool) (h:u8 v.2.2.1):YT (nms v)/\∃ r,nms v=wd (v.2.2.1.tmod 4)::r:=by
 obtain ⟨h1,h0⟩:=wr8 _ h
 obtain ⟨q1,q2⟩:=tm4 h1
 obtain ⟨p1,p2⟩:=tm4 h
 obtain ⟨a1,a2⟩:=T0 p1 p2
 obtain ⟨b1,b2⟩:=T0 q1 q2
 have hne:(wd ((wr .u8 (v.2.2.1 + 1)).tmod 4)==wd (v.2.2.1.tmod 4))=false:=by
  cases hh:(wd ((wr .u8 (v.2.2.1 + 1)).tmod 4)==wd (v.2.2.1.tmod 4)) with
  | false=>rfl
  | true=>exact absurd (YH q1 q2 p1 p2 hh) h0
 unfold nms
 split
 ·refine ⟨⟨by simp,by simp,by simp [a1,b1],?_,fun s hs=>?_⟩,_,rfl⟩
  ·simp [T5,M3,hne]
  ·rcases (by simpa using hs:s=_\/s=_) with rfl | rfl <;> omega
 ·refine ⟨⟨by simp,by simp,by simp [a1],by simp [T5,M3],fun s hs=>?_⟩,_,rfl⟩
  have:s=wd (v.2.2.1.tmod 4):=by simpa using hs
  rw [this]; omega
theorem XW (k:Int) (am:List UInt8) (la:Bool) (nm:List (List UInt8)) (b:Int) (h1:1<=k) (h2:k<=10) (hb:u8 b) (ha:k=1->am=[]) (hn:YT nm):fm (clz k am la nm b)=true:=by
 obtain ⟨n1,n2,_⟩:=hn
 have hl:nm.length=1\/nm.length=2:=by omega
 have e2:wr .i64 (1 + wr .i64 (b.tmod 2))=1\/wr .i64 (1 + wr .i64 (b.tmod 2))=2:=by
  rw [Int.tmod_eq_emod_of_nonneg hb.1]
  have hw:wr .i64 (b % 2)=b % 2:=Pt (by omega) (by omega)
  rw [hw,Pt (by omega) (by omega)]
  omega
 have e64:0<=wr .i64 (b.tmod 64)/\wr .i64 (b.tmod 64)<=63:=by
  rw [Int.tmod_eq_emod_of_nonneg hb.1,Pt (by omega) (by omega)]
  omega
 unfold fm
 rcases ten h1 h2 with rfl | rfl | rfl | rfl | rfl | rfl | rfl | rfl | rfl | rfl
 ·obtain rfl:=ha rfl
  have:clz 1 [] la nm b=(1,[],false,nm,0):=rfl
  rw [this]
  rcases hl with h | h <;> simp [Av,BR,h]
 ·rfl
 ·rfl
 ·have:clz 4 am la nm b=(4,am,la,[],wr .i64 (1 + wr .i64 (b.tmod 2))):=rfl
  rw [this]
  rcases e2 with h | h <;> rw [h] <;> rfl
 ·rfl
 ·have:clz 6 am la nm b=(6,am,la,nm,0):=rfl
  rw [this]
  rcases hl with h | h <;> simp [Av,Eb,Ec,Ed,Ee,BR,h]
 ·have:clz 7 am la nm b=(7,am,la,nm,0):=rfl
  rw [this]
  rcases hl with h | h <;> simp [Av,Eb,Ec,Ed,Ee,BR,h]
 ·rfl
 ·rfl
 ·have:clz 10 am la nm b=(10,am,false,[],wr .i64 (b.tmod 64)):=rfl
  rw [this]
  simp [Av,Eb,Ec,Ed,Ee,BR,e64.1,e64.2]
/-- Every clause is valid behind what stands before it. -/
def I3 (pre:List AF):List AF->Prop
 | []=>True
 | x::r=>chk pre x=0/\I3 (pre++[x]) r
theorem LV:∀ (a pre b:List AF),I3 pre (a++b)↔I3 pre a/\I3 (pre++a) b
 | [],pre,b=>by simp [I3]
 | x::a,pre,b=>by
  simp only [List.cons_append,I3,LV a (pre++[x]) b,List.append_assoc,List.cons_append,List.nil_append,and_assoc]
theorem Oy (a b:List AF) (s:List UInt8):Hu (a++b) s=(Hu a s||Hu b s):=by
 unfold Hu
 rw [List.any_append]
theorem QF (c:List AF):∀ (r pre:List AF),c=pre++r->I3 pre r->Rj c r pre.length = .inl ()
 | [],_,_,_=>rfl
 | x::r,pre,e,h=>by
  unfold Rj
  have ht:c.take pre.length=pre:=by rw [e]; simp
  rw [ht,if_neg (by rw [h.1]; decide)]
  have:=QF c r (pre++[x]) (by rw [e]; simp) h.2
  simpa using this
theorem TS {c:List AF}(hl:c.length<=32) (h:I3 [] c):On c=(0,0):=by
 unfold On
 have:Rj c c 0 = .inl ():=QF c c [] rfl h
 rw [if_neg (by omega),this]
theorem VN (k:Int) (am:List UInt8) (la:Bool) (nm:List (List UInt8)) (b:Int):(clz k am la nm b).2.1=am:=by
 unfold clz
 split; · rfl
 split; · rfl
 split; · rfl
 split; · rfl
 split; · rfl
 split <;> rfl
theorem Rk (k:Int) (am:List UInt8) (la:Bool) (nm:List (List UInt8)) (b:Int):(clz k am la nm b).2.2.2.1=nm\/(clz k am la nm b).2.2.2.1=[]:=by
 unfold clz
 split; · exact .inl rfl
 split; · exact .inr rfl
 split; · exact .inr rfl
 split; · exact .inl rfl
 split; · exact .inl rfl
 split <;> exact .inr rfl
theorem Vq (pre:List AF) (k:Int) (am:List UInt8) (la:Bool) (nm:List (List UInt8)) (b:Int) (h1:1<=k) (h2:k<=10) (hb:u8 b) (ha:k=1->am=[]) (hn:YT nm) (hr:am=[]\/Hu pre am=true/\FY am=true):chk pre (clz k am la nm b)=0:=by
 unfold chk
 rw [XW k am la nm b h1 h2 hb ha hn,if_neg (by decide),VN]
 have hN:((clz k am la nm b).2.2.2.1.any fun s=>!FY s)=false:=by
  rcases Rk k am la nm b with e | e <;> rw [e]
  ·exact hn.2.2.1
  ·rfl
 have hD:T5 (clz k am la nm b).2.2.2.1 (clz k am la nm b).2.2.2.1 0=false:=by
  rcases Rk k am la nm b with e | e <;> rw [e]
  ·exact hn.2.2.2.1
  ·rfl
 rw [hN,hD]
 rcases hr with rfl | ⟨h3,h4⟩
 ·simp
 ·simp [h3,h4]
theorem Vr (k:Int) (am:List UInt8) (la:Bool) (nm:List (List UInt8)) (b:Int) (ha:am.length<=40) (hn:YT nm):Xc (clz k am la nm b):=by
 refine ⟨by rw [VN]; exact ha,?_,?_⟩
 ·rcases Rk k am la nm b with e | e <;> rw [e]
  ·have:=hn.2.1; omega
  ·simp
 ·rcases Rk k am la nm b with e | e <;> rw [e]
  ·exact hn.2.2.2.2
  ·simp
theorem Xm {a:Int}(h:u8 a):1<=wr .u8 (1 + a.tmod 10)/\wr .u8 (1 + a.tmod 10)<=10:=by
 rw [Int.tmod_eq_emod_of_nonneg h.1]
 have e:wr .u8 (1 + a % 10)=(1 + a % 10) % 256:=rfl
 rw [e]
 omega
def Rl (v:Int×Int×Int×Bool×Bool):Prop:=u8 v.1/\u8 v.2.1/\u8 v.2.2.1
/-- What the loop keeps. -/
def Uh (c2:List AF) (c3:List UInt8):Prop:=I3 [] c2/\(∀ x ∈ c2,Xc x)/\(c3=[]\/(Hu c2 c3=true/\FY c3=true/\c3.length<=40))
theorem TW {c2:List AF}{c3:List UInt8}(h:Uh c2 c3) (v:Int×Int×Int×Bool×Bool) (hv:Rl v) (am:List UInt8) (ham:am=[]\/am=c3) (hk1:wr .u8 (1 + v.1.tmod 10)=1->am=[]) (w:List UInt8) (r:List (List UInt8)) (hw:nms v=w::r) :
  Uh (c2++[clz (wr .u8 (1 + v.1.tmod 10)) am v.2.2.2.1 (w::r) v.2.1]) (if wr .u8 (1 + v.1.tmod 10)=1 then w else c3):=by
 obtain ⟨g1,g2,g3⟩:=h
 obtain ⟨k1,k2⟩:=Xm hv.1
 obtain ⟨n1,r',n2⟩:=Th v hv.2.2
 rw [hw] at n1
 have ha:am=[]\/Hu c2 am=true/\FY am=true:=by
  rcases ham with e | e
  ·exact .inl e
  ·rcases g3 with g3 | ⟨q1,q2,_⟩
   ·exact .inl (e.trans g3)
   ·rw [e]; exact .inr ⟨q1,q2⟩
 have ha40:am.length<=40:=by
  rcases ham with e | e
  ·rw [e]; simp
  ·rcases g3 with g3 | ⟨_,_,q3⟩
   ·rw [e,g3]; simp
   ·rw [e]; exact q3
 refine ⟨(LV _ _ _).2 ⟨g1,Vq _ _ _ _ _ _ k1 k2 hv.2.1 hk1 n1 ha,trivial⟩,fun x hx=>?_,?_⟩
 ·rcases List.mem_append.1 hx with hx | hx
  ·exact g2 x hx
  ·rw [List.mem_singleton.1 hx]
   exact Vr _ _ _ _ _ ha40 n1
 ·by_cases hk:wr .u8 (1 + v.1.tmod 10)=1
  ·rw [if_pos hk]
   refine .inr ⟨?_,?_,n1.2.2.2.2 w (by simp)⟩
   ·rw [Oy,hk]
    have:Hu [clz 1 am v.2.2.2.1 (w::r) v.2.1] w=true:=by
     unfold Hu clz M3
     simp
    rw [this]; simp
   ·have:=n1.2.2.1
    simp at this
    exact this.1
  ·rw [if_neg hk]
   rcases g3 with g3 | ⟨q1,q2,q3⟩
   ·exact .inl g3
   ·exact .inr ⟨by rw [Oy,q1]; simp,q2,q3⟩
theorem Tc (x0:List (Int×Int×Int×Bool×Bool)) (ys:List (Int×Int×Int×Bool×Bool)) (hys:((x0.take (mnI (x0.length:Int) 8).toNat).drop (0:Int).toNat)=ys) (hb:∀ v ∈ ys,Rl v) (h8:ys.length<=8):∀ (r pre:List (Int×Int×Int×Bool×Bool)) (c2:List AF) (c3:List UInt8) (f:Nat),ys=pre++r->r.length < f->c2.length=pre.length->Uh c2 c3 ->
  ∃ c c3',D9 x0 f c2 c3 (pre.length:Int)=some c/\Uh c c3'/\c.length=ys.length
 | [],pre,c2,c3,f + 1,e,_,hl,hk=>by
  refine ⟨c2,c3,?_,hk,by rw [hl,e]; simp⟩
  unfold D9
  rw [hys,if_neg (by rw [e]; simp)]
 | v::r,pre,c2,c3,f + 1,e,hf,hl,hk=>by
  have hv:=hb v (by rw [e]; simp)
  have hl2:ys.length=pre.length + r.length + 1:=by rw [e]; simp; omega
  simp only [List.length_cons] at hf
  obtain ⟨p1,p2⟩:=tm4 hv.2.2
  obtain ⟨d1,d2⟩:=W5 p1 p2
  obtain ⟨k1,k2⟩:=Xm hv.1
  obtain ⟨n1,r',n2⟩:=Th v hv.2.2
  have hstep:∃ am,(am=[]\/am=c3)/\(wr .u8 (1 + v.1.tmod 10)=1->am=[])/\((if v.2.2.2.2=true then some (c2,v.1,v.2.1,v.2.2.1,v.2.2.2.1,true,(wr .u8 (1 + (v.1.tmod 10))),([]:List UInt8),false,(0:Int),nms v,((wr .u8 (1 + (v.1.tmod 10)))!=1)) else some (c2,v.1,v.2.1,v.2.2.1,v.2.2.2.1,false,(wr .u8 (1 + (v.1.tmod 10))),([]:List UInt8),false,(0:Int),nms v,false)).bind fun j27=>FV x0 c3 (pre.length:Int) j27)=some (c2,v.1,v.2.1,v.2.2.1,v.2.2.2.1,v.2.2.2.2,(wr .u8 (1 + (v.1.tmod 10))),am,false,(0:Int),nms v):=by
   cases ht:v.2.2.2.2 with
   | false=>exact ⟨[],.inl rfl,fun _=>rfl,rfl⟩
   | true =>
    by_cases h1:wr .u8 (1 + v.1.tmod 10)=1
    ·refine ⟨[],.inl rfl,fun _=>rfl,?_⟩
     rw [if_pos rfl,OS]
     unfold FV
     rw [if_neg (by simp [h1])]
    ·refine ⟨c3,.inr rfl,fun q=>absurd q h1,?_⟩
     rw [if_pos rfl,OS]
     unfold FV
     rw [if_pos (by simpa using h1)]
  obtain ⟨am,ham,hk1,hj⟩:=hstep
  have hm4:Gd x0 c3 (pre.length:Int) (c2,v.1,v.2.1,v.2.2.1,v.2.2.2.1,v.2.2.2.2,(wr .u8 (1 + (v.1.tmod 10))),am,false,(0:Int),nms v)=some (c2,(if wr .u8 (1 + v.1.tmod 10)=1 then wd (v.2.2.1.tmod 4) else c3),clz (wr .u8 (1 + v.1.tmod 10)) am v.2.2.2.1 (nms v) v.2.1):=by
   rw [n2]
   exact Xx x0 c2 c3 _ _ _ _ _ _ _ am _ _ k1 k2
  have hks:=TW hk v hv am ham hk1 _ _ n2
  obtain ⟨c,c3',q1,q2,q3⟩:=Tc x0 ys hys hb h8 r (pre++[v]) _ _ f (by rw [e]; simp) (by omega) (by simp [hl]) hks
  refine ⟨c,c3',?_,q2,q3⟩
  rw [<-q1]
  conv=>lhs; unfold D9
  rw [hys,if_pos (by rw [e]; exact KF pre v r),show idx ys (pre.length:Int)=some v by rw [e,FM],OS,if_pos d1,if_pos d2,Xw x0 c2 c3 _ v hv.2.2,OS]
  rw [<-Option.bind_assoc,hj,OS,hm4,OS]
  dsimp only
  rw [if_pos (Hv (by omega) (by omega)),Ht pre v r (by rw [<-e]; omega),n2]
theorem WY (x0:List (Int×Int×Int×Bool×Bool)) (hb:∀ v ∈ x0,Rl v):∃ c,Gz x0=some c/\few c/\I3 [] c/\c.length<=8:=by
 have hm:0<=mnI (x0.length:Int) 8/\mnI (x0.length:Int) 8<=8/\mnI (x0.length:Int) 8<=x0.length:=by
  unfold mnI
  split <;> omega
 have h8:((x0.take (mnI (x0.length:Int) 8).toNat).drop (0:Int).toNat).length<=8:=by
  rw [List.length_drop,List.length_take]; omega
 obtain ⟨c,c3,h1,h2,h3⟩:=Tc x0 _ rfl (fun v hv=>hb v (List.mem_of_mem_take (List.mem_of_mem_drop hv))) h8 _ [] [] [] 100000 rfl (Nat.lt_of_le_of_lt h8 (by decide)) rfl ⟨trivial,fun x hx=>by simp at hx,.inl rfl⟩
 refine ⟨c,?_,⟨by omega,h2.2.1⟩,h2.1,by omega⟩
 unfold Gz
 rw [if_pos (by unfold Do; simp; omega)]
 have e:D9 x0 100000 [] [] 0=some c:=h1
 rw [e]; rfl
/-- The decision of a merged text. -/
theorem M8 (a b:A6) (i j:Int) (x:AF) (r:List AF) (k:Nat):rsn a b i j (x::r) k=if dir x a b i j=0 then rsn a b i j r (k + 1) else .inr ((k:Int),dir x a b i j):=rfl
theorem Tq (a b:A6) (i j:Int):∀ (c d:List AF) (k:Nat),rsn a b i j (c++d) k=match rsn a b i j c k with | .inl _=>rsn a b i j d (k + c.length) | .inr w=> .inr w
 | [],d,k=>rfl
 | x::c,d,k=>by
  rw [List.cons_append,M8,M8]
  by_cases h:dir x a b i j=0
  ·rw [if_pos h,if_pos h,Tq a b i j c d (k + 1),List.length_cons,show k + 1 + c.length=k + (c.length + 1) by omega]
  ·rw [if_neg h,if_neg h]
theorem Tr (a b:A6) (i j:Int):∀ (c:List AF) (k:Nat),(∃ u,rsn a b i j c k = .inl u)\/∃ w,rsn a b i j c k = .inr w/\w.2≠0
 | [],k=> .inl ⟨(),rfl⟩
 | x::c,k=>by
  unfold rsn
  by_cases h:dir x a b i j=0
  ·rw [if_pos h]; exact Tr a b i j c (k + 1)
  ·rw [if_neg h]; exact .inr ⟨_,rfl,h⟩
theorem X4 (a b:A6) (i j:Int):∀ (c:List AF) (k q:Nat),(match rsn a b i j c k with | .inl _=>(0:Int) | .inr w=>w.2)=(match rsn a b i j c q with | .inl _=>(0:Int) | .inr w=>w.2)
 | [],_,_=>rfl
 | x::c,k,q=>by
  unfold rsn
  by_cases h:dir x a b i j=0
  ·rw [if_pos h,if_pos h]; exact X4 a b i j c (k + 1) (q + 1)
  ·rw [if_neg h,if_neg h]
def Pr (c:List AF) (a b:A6) (i j:Int):Int:=(XA c a b i j).2
theorem NJ (c:List AF) (a b:A6) (i j:Int):Pr c a b i j=match rsn a b i j c 0 with | .inl _=>(0:Int) | .inr w=>w.2:=by
 unfold Pr XA
 cases rsn a b i j c 0 <;> rfl
theorem Vt (c d:List AF) (a b:A6) (i j:Int):Pr (c++d) a b i j=if Pr c a b i j=0 then Pr d a b i j else Pr c a b i j:=by
 rw [NJ,NJ,NJ,Tq]
 rcases Tr a b i j c 0 with ⟨u,h⟩ | ⟨w,h,hw⟩
 ·rw [h]
  simp only [if_true]
  exact X4 a b i j d _ _
 ·rw [h]
  simp only [hw,if_false]
theorem Vx (c:List AF) (a b:A6) (i j:Int) (h:few c) (hl:c.length<=32) (hg:I3 [] c) (ha:P8 a) (hb:P8 b):D4 c a b i j=some (Pr c a b i j):=by
 rw [TB c a b i j h ha hb,TS hl hg,if_pos rfl]; rfl
/-- -1, 0 or 1, turned round with its arguments, and a chain decides by its least. -/
structure Wk3 {α:Type} (f:α->α->Int):Prop where
 v:∀ a b,f a b = -1\/f a b=0\/f a b=1
 s:∀ a b,f a b = - f b a
 t:∀ a b c,f a b<=0->f b c<=0->f a c=min (f a b) (f b c)
theorem Pm {α:Type}(k:α->Int):Wk3 (fun a b=>KT (k a) (k b)):=by
 refine ⟨fun a b=>?_,fun a b=>?_,fun a b c h1 h2=>?_⟩
 ·unfold KT; split
  ·exact .inl rfl
  ·split
   ·exact .inr (.inr rfl)
   ·exact .inr (.inl rfl)
 ·unfold KT; split <;> split <;> first | rfl | omega | (split <;> first | rfl | omega)
 ·(try dsimp only at h1 h2 ⊢)
  unfold KT at *
  split at h1 <;> split at h2 <;> first | (split at h1 <;> first | omega | skip) | skip
  all_goals first | (split at h2 <;> first | omega | skip) | skip
  all_goals (split <;> first | omega | skip)
  all_goals first | rfl | omega | (split <;> first | rfl | omega)
theorem Rg:∀ (x:List UInt8),Go.Op.bytesLess x x=false
 | []=>rfl
 | a::x=>by
  show (decide (a < a)||(a==a&&Go.Op.bytesLess x x))=false
  rw [Rg x]; simp
theorem O9:∀ (x y z:List UInt8),Go.Op.bytesLess x y=true->Go.Op.bytesLess y z=true->Go.Op.bytesLess x z=true
 | x,[],_,h,_=>by cases x <;> cases h
 | _,_::_,[],_,h=>by cases h
 | [],_::_,_::_,_,_=>rfl
 | a::x,b::y,c::z,h1,h2=>by
  have h1':(decide (a < b)||(a==b&&Go.Op.bytesLess x y))=true:=h1
  have h2':(decide (b < c)||(b==c&&Go.Op.bytesLess y z))=true:=h2
  show (decide (a < c)||(a==c&&Go.Op.bytesLess x z))=true
  simp only [Bool.or_eq_true,Bool.and_eq_true,decide_eq_true_eq,beq_iff_eq] at h1' h2' ⊢
  rcases h1' with q1 | ⟨rfl,q1⟩ <;> rcases h2' with q2 | ⟨rfl,q2⟩
  ·exact .inl (UInt8.lt_trans q1 q2)
  ·exact .inl q1
  ·exact .inl q2
  ·exact .inr ⟨rfl,O9 x y z q1 q2⟩
theorem Wx {α:Type}(k:α->List UInt8):Wk3 (fun a b=>S8 (k a) (k b)):=by
 have val:∀ x y:List UInt8,(Go.Op.bytesLess x y=true/\S8 x y = -1)\/(x=y/\S8 x y=0)\/(Go.Op.bytesLess y x=true/\S8 x y=1):=fun x y=>by
  unfold S8
  cases h:Go.Op.bytesLess x y with
  | true=>exact .inl ⟨rfl,rfl⟩
  | false =>
   have:=Rh x y h
   cases he:(x==y) with
   | true=>exact .inr (.inl ⟨by simpa using he,rfl⟩)
   | false=>exact .inr (.inr ⟨by rw [this,he]; rfl,rfl⟩)
 have asy:∀ x y:List UInt8,Go.Op.bytesLess x y=true->Go.Op.bytesLess y x=true->False:=fun x y h1 h2=>by
  have:=O9 x y x h1 h2
  rw [Rg] at this
  cases this
 refine ⟨fun a b=>?_,fun a b=>?_,fun a b c h1 h2=>?_⟩
 ·rcases val (k a) (k b) with ⟨_,h⟩ | ⟨_,h⟩ | ⟨_,h⟩
  ·exact .inl h
  ·exact .inr (.inl h)
  ·exact .inr (.inr h)
 ·(try dsimp only)
  rcases val (k a) (k b) with ⟨p,h⟩ | ⟨p,h⟩ | ⟨p,h⟩ <;> rcases val (k b) (k a) with ⟨q,g⟩ | ⟨q,g⟩ | ⟨q,g⟩ <;> rw [h,g] <;> first | rfl | (exfalso; first | exact asy _ _ p q | (rw [q,Rg] at p; cases p) | (rw [p,Rg] at q; cases q))
 ·(try dsimp only at h1 h2 ⊢)
  rcases val (k a) (k b) with ⟨p,h⟩ | ⟨p,h⟩ | ⟨p,h⟩ <;> rcases val (k b) (k c) with ⟨q,g⟩ | ⟨q,g⟩ | ⟨q,g⟩ <;> first | (rw [h] at h1; exact absurd h1 (by decide)) | (rw [g] at h2; exact absurd h2 (by decide)) | skip
  ·rw [h,g]
   have:=O9 _ _ _ p q
   unfold S8
   rw [if_pos this]; rfl
  ·rw [h,g,<-q,h]; rfl
  ·rw [h,g,p,g]; rfl
  ·rw [h,g,p,g]; rfl
theorem Vd {α:Type}(y:Bool) (k:α->Int):Wk3 (fun a b=>snc y (k a) (k b)):=by
 have val:∀ s t:Int,snc y s t=if s=0 then (if t=0 then 0 else 1) else if t=0 then -1 else if y=true then KT t s else KT s t:=fun s t=>by
  rw [X6]
  unfold KT
  by_cases hs:s=0 <;> by_cases ht:t=0
  ·simp [hs,ht]
  ·simp [hs,ht]
  ·simp [hs,ht]
  ·cases y <;> simp [hs,ht]
 refine ⟨fun a b=>?_,fun a b=>?_,fun a b c h1 h2=>?_⟩
 ·(try dsimp only)
  rw [val]
  unfold KT
  split
  ·split
   ·exact .inr (.inl rfl)
   ·exact .inr (.inr rfl)
  ·split
   ·exact .inl rfl
   ·split <;> (split; · exact .inl rfl) <;> (split; · exact .inr (.inr rfl)) <;> exact .inr (.inl rfl)
 ·(try dsimp only)
  rw [val,val]
  unfold KT
  cases y <;> simp only [if_true,if_false,Bool.false_eq_true] <;> (repeat' split) <;> first | rfl | omega
 ·(try dsimp only at h1 h2 ⊢)
  rw [val] at h1 h2
  rw [val,val,val]
  unfold KT at *
  cases y <;> simp only [if_true,if_false,Bool.false_eq_true] at h1 h2 ⊢ <;> (repeat' split at h1) <;> (repeat' split at h2) <;> first | omega | ((repeat' split) <;> first | rfl | omega)
/-- A second order where a first one ties. -/
theorem YJ {α:Type}{f g:α->α->Int}(hf:Wk3 f) (gv:∀ a b,g a b = -1\/g a b=0\/g a b=1) (gs:∀ a b,g a b = - g b a)
  (gt:∀ a b c,f a b=0->f b c=0->g a b<=0->g b c<=0->g a c=min (g a b) (g b c)):Wk3 (fun a b=>if f a b=0 then g a b else f a b):=by
 refine ⟨fun a b=>?_,fun a b=>?_,fun a b c h1 h2=>?_⟩
 ·show (if f a b=0 then g a b else f a b) = -1\/_
  split
  ·exact gv a b
  ·exact hf.v a b
 ·show (if f a b=0 then g a b else f a b) = - (if f b a=0 then g b a else f b a)
  have:=hf.s a b
  by_cases h:f b a=0
  ·rw [if_pos h,if_pos (by omega)]; exact gs a b
  ·rw [if_neg h,if_neg (by omega)]; exact this
 ·have h1':(if f a b=0 then g a b else f a b)<=0:=h1
  have h2':(if f b c=0 then g b c else f b c)<=0:=h2
  show (if f a c=0 then g a c else f a c)=min (if f a b=0 then g a b else f a b) (if f b c=0 then g b c else f b c)
  have ab:=hf.v a b
  have bc:=hf.v b c
  have gab:=gv a b
  have gbc:=gv b c
  by_cases x:f a b=0 <;> by_cases y:f b c=0
  ·have:=hf.t a b c (by omega) (by omega)
   rw [if_pos x] at h1' ⊢
   rw [if_pos y] at h2' ⊢
   rw [if_pos (by omega)]
   exact gt a b c x y h1' h2'
  ·rw [if_pos x] at h1' ⊢
   rw [if_neg y] at h2' ⊢
   have:=hf.t a b c (by omega) (by omega)
   rw [if_neg (by omega)]
   omega
  ·rw [if_neg x] at h1' ⊢
   rw [if_pos y] at h2' ⊢
   have:=hf.t a b c (by omega) (by omega)
   rw [if_neg (by omega)]
   omega
  ·rw [if_neg x] at h1' ⊢
   rw [if_neg y] at h2' ⊢
   have:=hf.t a b c (by omega) (by omega)
   rw [if_neg (by omega)]
   omega
/-- A guest at a place of the row. -/
abbrev At:={ p:A6×Int // QK p.2=true }
theorem YK (x:AF):Wk3 (fun a b:At=>OJ x a.1.1 b.1.1 a.1.2 b.1.2):=by
 have e:(fun a b:At=>OJ x a.1.1 b.1.1 a.1.2 b.1.2)=fun a b:At =>
   if (x.1==1)=true then KT (rk x.2.2.2.1 a.1.1.2.1) (rk x.2.2.2.1 b.1.1.2.1) else
   if (x.1==2)=true then snc false a.1.1.2.2.2.1 b.1.1.2.2.2.1 else
   if (x.1==3)=true then snc true a.1.1.2.2.2.1 b.1.1.2.2.2.1 else
   if (x.1==8)=true then S8 a.1.1.1 b.1.1.1 else
   if (x.1==9)=true then KT a.1.2 b.1.2 else
   if (x.1==10)=true then KT (kyI a.1.2 x.2.2.2.2) (kyI b.1.2 x.2.2.2.2) else
   KT (nv x a.1.1) (nv x b.1.1):=by
  funext a b
  unfold OJ
  rw [a.2,b.2]
  simp only [Bool.not_true,Bool.or_self,Bool.false_eq_true,if_false]
 rw [e]
 by_cases h1:(x.1==1)=true
 ·simp only [h1,if_true]; exact Pm (fun a:At=>rk x.2.2.2.1 a.1.1.2.1)
 by_cases h2:(x.1==2)=true
 ·simp only [h1,h2,if_true,if_false,Bool.false_eq_true]; exact Vd false (fun a:At=>a.1.1.2.2.2.1)
 by_cases h3:(x.1==3)=true
 ·simp only [h1,h2,h3,if_true,if_false,Bool.false_eq_true]; exact Vd true (fun a:At=>a.1.1.2.2.2.1)
 by_cases h8:(x.1==8)=true
 ·simp only [h1,h2,h3,h8,if_true,if_false,Bool.false_eq_true]; exact Wx (fun a:At=>a.1.1.1)
 by_cases h9:(x.1==9)=true
 ·simp only [h1,h2,h3,h8,h9,if_true,if_false,Bool.false_eq_true]; exact Pm (fun a:At=>a.1.2)
 by_cases h10:(x.1==10)=true
 ·simp only [h1,h2,h3,h8,h9,h10,if_true,if_false,Bool.false_eq_true]; exact Pm (fun a:At=>kyI a.1.2 x.2.2.2.2)
 ·simp only [h1,h2,h3,h8,h9,h10,if_false,Bool.false_eq_true]; exact Pm (fun a:At=>nv x a.1.1)
theorem Tp (s:List UInt8):∀ (l:List (List UInt8)) (i:Nat),i<=rkN s l i
 | [],i=>Nat.le_refl i
 | v::r,i=>by
  unfold rkN
  split
  ·exact Nat.le_refl i
  ·have:=Tp s r (i + 1); omega
theorem RL (s t:List UInt8):∀ (l:List (List UInt8)) (i:Nat),M3 l s=true->rkN s l i=rkN t l i->t=s
 | [],_,h,_=>by cases h
 | v::r,i,h,e=>by
  have h':((s==v)||M3 r s)=true:=h
  unfold rkN at e
  by_cases hs:(s==v)=true
  ·rw [if_pos hs] at e
   by_cases ht:(t==v)=true
   ·rw [beq_iff_eq] at hs ht; rw [hs,ht]
   ·rw [if_neg ht] at e
    have:=Tp t r (i + 1)
    omega
  ·rw [if_neg hs] at e
   by_cases ht:(t==v)=true
   ·rw [if_pos ht] at e
    have:=Tp s r (i + 1)
    omega
   ·rw [if_neg ht] at e
    have h2:M3 r s=true:=by
     cases hq:(s==v) with
     | true=>exact absurd hq hs
     | false=>rwa [hq,Bool.false_or] at h'
    exact RL s t r (i + 1) h2 e
theorem Y4 {x:AF}(h:fm x=true) (hk:(x.1==1)=true):x.2.1=[]:=by
 unfold fm Av at h
 rw [if_pos hk] at h
 cases hb:BR (x.2.2.2.1.length:Int) 1 16 with
 | none=>rw [hb] at h; cases h
 | some v =>
  rw [hb,OS] at h
  cases v with
  | false=>cases h
  | true =>
   by_cases h2:(x.2.2.2.2==0)=true
   ·by_cases h3:(!x.2.2.1)=true
    ·rw [if_pos rfl,if_pos h2,if_pos h3] at h
     simpa using h
    ·rw [if_pos rfl,if_pos h2,if_neg h3] at h; cases h
   ·rw [if_pos rfl,if_neg h2] at h; cases h
theorem XU {pre:List AF}{x:AF}(h:chk pre x=0):fm x=true:=by
 unfold chk at h
 split at h
 ·cases h
 ·next h1=>simpa using h1
theorem XT {pre:List AF}{x:AF}(h:chk pre x=0):x.2.1=[]\/Hu pre x.2.1=true:=by
 unfold chk at h
 split at h
 ·cases h
 split at h
 ·cases h
 split at h
 ·cases h
 split at h
 ·next h4=>exact h4
 ·cases h
theorem QG:∀ (c pre:List AF),I3 pre c->∀ x ∈ c,fm x=true
 | y::r,pre,h,x,hx=>by
  rcases List.mem_cons.1 hx with e | e
  ·rw [e]; exact XU h.1
  ·exact QG r _ h.2 x e
/-- Ties of a text tie every clause of it. -/
theorem S9 (a b:A6) (i j:Int):∀ (c:List AF) (k:Nat),rsn a b i j c k = .inl ()->∀ x ∈ c,dir x a b i j=0
 | y::r,k,h,x,hx=>by
  rw [M8] at h
  by_cases q:dir y a b i j=0
  ·rw [if_pos q] at h
   rcases List.mem_cons.1 hx with e | e
   ·rw [e]; exact q
   ·exact S9 a b i j r (k + 1) h x e
  ·rw [if_neg q] at h; cases h
theorem UO {c:List AF}{a b:A6}{i j:Int}(h:Pr c a b i j=0):∀ x ∈ c,dir x a b i j=0:=by
 rw [NJ] at h
 rcases Tr a b i j c 0 with ⟨u,e⟩ | ⟨w,e,hw⟩
 ·exact S9 a b i j c 0 e
 ·rw [e] at h; exact absurd h hw
theorem XX {x y:Int}(h:KT x y=0):x=y:=by
 unfold KT at h
 split at h
 ·cases h
 split at h
 ·cases h
 ·omega
/-- A text that ranks a rank ties nobody of it with anybody of another rank. -/
theorem SH {c:List AF}{s:List UInt8}(hc:∀ x ∈ c,fm x=true) (hr:Hu c s=true){a b:A6}{i j:Int}(h:Pr c a b i j=0):(a.2.1==s)=(b.2.1==s):=by
 unfold Hu at hr
 obtain ⟨y,hy,e⟩:=List.any_eq_true.1 hr
 rw [Bool.and_eq_true] at e
 have hd:=UO h y hy
 have ham:=Y4 (hc y hy) e.1
 unfold dir amB at hd
 rw [ham,if_neg (by simp)] at hd
 unfold OJ at hd
 rw [if_pos e.1] at hd
 have hk:=XX hd
 unfold rk at hk
 have hn:rkN a.2.1 y.2.2.2.1 0=rkN b.2.1 y.2.2.2.1 0:=by omega
 by_cases ha:a.2.1=s
 ·have hb:=RL a.2.1 b.2.1 _ 0 (by rw [ha]; exact e.2) hn
  rw [hb]
 ·by_cases hb:b.2.1=s
  ·have:=RL b.2.1 a.2.1 _ 0 (by rw [hb]; exact e.2) hn.symm
   exact absurd (this.trans hb) ha
  ·rw [beq_eq_false_iff_ne.2 ha,beq_eq_false_iff_ne.2 hb]
theorem XO (x:AF) (a b:A6):amB x a b=amB x b a:=by
 unfold amB
 cases (x.2.1==[]) <;> cases (a.2.1==x.2.1) <;> cases (b.2.1==x.2.1) <;> rfl
theorem Vv (x:AF) (a b:A6) (i j:Int):Pr [x] a b i j=dir x a b i j:=by
 rw [NJ,M8]
 by_cases h:dir x a b i j=0
 ·rw [if_pos h,h]; rfl
 ·rw [if_neg h]
theorem T1:∀ (c pre:List AF),I3 [] (pre++c)->Wk3 (fun a b:At=>Pr pre a.1.1 b.1.1 a.1.2 b.1.2)->Wk3 (fun a b:At=>Pr (pre++c) a.1.1 b.1.1 a.1.2 b.1.2)
 | [],pre,_,h=>by rw [List.append_nil]; exact h
 | x::r,pre,hg,h=>by
  have e:pre++x::r=(pre++[x])++r:=by simp
  rw [e] at hg ⊢
  refine T1 r (pre++[x]) hg ?_
  have hgx:=(LV (pre++[x]) [] r).1 hg
  have hp:=(LV pre [] [x]).1 hgx.1
  have hchk:chk pre x=0:=by simpa using hp.2.1
  have hfm:=QG pre [] hp.1
  have ho:=YK x
  have hx:(fun a b:At=>Pr (pre++[x]) a.1.1 b.1.1 a.1.2 b.1.2)=fun a b:At=>if Pr pre a.1.1 b.1.1 a.1.2 b.1.2=0 then dir x a.1.1 b.1.1 a.1.2 b.1.2 else Pr pre a.1.1 b.1.1 a.1.2 b.1.2:=by
   funext a b
   rw [Vt,Vv]
  rw [hx]
  refine YJ h (fun a b=>?_) (fun a b=>?_) (fun a b c h1 h2=>?_)
  ·unfold dir
   split
   ·exact .inr (.inl rfl)
   ·exact ho.v a b
  ·unfold dir
   rw [XO x b.1.1 a.1.1]
   split
   ·rfl
   ·exact ho.s a b
  ·unfold dir
   rcases XT hchk with ha | ha
   ·have q:∀ u v:A6,amB x u v=false:=fun u v=>by unfold amB; rw [ha]; rfl
    rw [q,q,q,if_neg (by decide),if_neg (by decide),if_neg (by decide)]
    exact ho.t a b c
   ·have t1:=SH hfm ha h1
    have t2:=SH hfm ha h2
    unfold amB
    rw [<-t2,<-t1]
    cases (!(x.2.1==[]))
    ·exact ho.t a b c
    ·cases (a.1.1.2.1==x.2.1)
     ·intro _ _; rfl
     ·exact ho.t a b c
theorem VE (c:List AF) (hg:I3 [] c):Wk3 (fun a b:At=>Pr c a.1.1 b.1.1 a.1.2 b.1.2) :=
 T1 c [] hg ⟨fun _ _=> .inr (.inl rfl),fun _ _=>rfl,fun _ _ _ _ _=>rfl⟩
/- trestle/court.table -/
/- trestle/trestleref03.Goes -/
/- trestle/trestleref03.votes -/
/- trestle/trestleref03.Votes -/
/- trestle/trestleref03.Valid -/
/- trestle/trestleref03.AllValid -/
/-- A loop whose states are known. -/
theorem ZO {σ ρ:Type}(n:Nat) (S:Nat->σ) (R:Option ρ) (L:Nat->Int->σ->Option ρ) (hn:n<=1000000) (hs:∀ i,i < n->∀ f,L (f + 1) (i:Int) (S i)=L f (wr .i64 ((i:Int) + 1)) (S (i + 1))) (he:∀ f,L (f + 1) (n:Int) (S n)=R):∀ (d i f:Nat),i + d=n->d < f->L f (i:Int) (S i)=R
 | 0,i,f + 1,e,_=>by
  rw [show i=n by omega]
  exact he f
 | d + 1,i,f + 1,e,hf=>by
  rw [hs i (by omega) f,Pt (by omega) (by omega),show ((i:Int) + 1)=((i + 1:Nat):Int) by omega]
  exact ZO n S R L hn hs he d (i + 1) f (by omega) (by omega)
theorem Qw {σ ρ:Type}(n:Nat) (S:Nat->σ) (R:Option ρ) (L:Nat->Int->σ->Option ρ) (hn:n<=99999) (hs:∀ i,i < n->∀ f,L (f + 1) (i:Int) (S i)=L f (wr .i64 ((i:Int) + 1)) (S (i + 1))) (he:∀ f,L (f + 1) (n:Int) (S n)=R):L 100000 0 (S 0)=R :=
 ZO n S R L (by omega) hs he n 0 100000 (by omega) (by omega)
theorem XY {σ ρ:Type}(n lo:Nat) (S:Nat->σ) (R:Option ρ) (L:Nat->Int->σ->Option ρ) (hn:n<=1000000) (hs:∀ i,lo<=i->i < n->∀ f,L (f + 1) (i:Int) (S i)=L f (wr .i64 ((i:Int) + 1)) (S (i + 1))) (he:∀ f,L (f + 1) (n:Int) (S n)=R):∀ (d i f:Nat),lo<=i->i + d=n->d < f->L f (i:Int) (S i)=R
 | 0,i,f + 1,_,e,_=>by
  rw [show i=n by omega]
  exact he f
 | d + 1,i,f + 1,hi,e,hf=>by
  rw [hs i hi (by omega) f,Pt (by omega) (by omega),show ((i:Int) + 1)=((i + 1:Nat):Int) by omega]
  exact XY n lo S R L hn hs he d (i + 1) f (by omega) (by omega) (by omega)
/-- A valid text, as it is checked. -/
theorem P1 (c:List AF):∀ (r pre:List AF),c=pre++r->(∃ u,Rj c r pre.length = .inl u)->I3 pre r
 | [],_,_,_=>trivial
 | x::r,pre,e,⟨u,h⟩=>by
  unfold Rj at h
  rw [show c.take pre.length=pre by rw [e]; simp] at h
  by_cases hx:chk pre x=0
  ·rw [if_neg (by simpa using hx)] at h
   exact ⟨hx,P1 c r (pre++[x]) (by rw [e]; simp) ⟨u,by simpa using h⟩⟩
  ·rw [if_pos hx] at h; cases h
theorem G9 {c:List AF}(h:(On c).2=0):c.length<=32/\I3 [] c:=by
 unfold On at h
 split at h
 ·cases h
 ·next hl =>
  refine ⟨by omega,P1 c c [] rfl ?_⟩
  rcases PD c c 0 with ⟨u,h1,_⟩ | ⟨w,h1,h2⟩
  ·exact ⟨u,h1⟩
  ·rw [h1] at h; exact absurd h h2
theorem Uv (c:List AF) (h:few c):D7 c=some (if (On c).2=0 then (c,true) else ([],false)):=by
 unfold D7
 rw [Qv c h,OS]
 by_cases hv:(On c).2=0
 ·have e0:Cr c 100000 [] 0=some c:=Nh c h (K8 hv) c [] 100000 rfl (by have:=h.1; omega)
  rw [if_neg (by simpa using hv),if_pos hv,e0]; rfl
 ·rw [if_pos (by simpa using hv),if_neg hv]
/-- Guests at their places. -/
def Gf:List A6->Nat->List AR
 | [],_=>[]
 | g::r,i=>(g,(i:Int))::Gf r (i + 1)
theorem Ow:∀ (g:List A6) (i:Nat),(Gf g i).length=g.length
 | [],_=>rfl
 | _::r,i=>by simp [Gf,Ow r (i + 1)]
theorem Ni:∀ (g:List A6) (x:A6) (i:Nat),Gf (g++[x]) i=Gf g i++[(x,((i + g.length:Nat):Int))]
 | [],x,i=>by simp [Gf]
 | y::r,x,i=>by
  simp only [List.cons_append,Gf,Ni r x (i + 1),List.length_cons]
  rw [show i + 1 + r.length=i + (r.length + 1) by omega]
theorem Xr (g:List A6) (h:g.length<=99999):Gt g=some (Gf g 0):=by
 unfold Gt
 have:Cq g 100000 [] 0=some (Gf g 0):=by
  have:=Qw (σ:=List AR) g.length (fun i=>Gf (g.take i) 0) (some (Gf g 0)) (fun f c s=>Cq g f s c) h (fun i hi f=>by
   show Cq g (f + 1) (Gf (g.take i) 0) (i:Int)=_
   conv=>lhs; unfold Cq
   rw [if_pos (by simp; omega),QJ hi,OS,if_pos (Hv (by omega) (by rw [Ow]; simp; omega))]
   have e:Gf (g.take (i + 1)) 0=Gf (g.take i) 0++[(g[i],(i:Int))]:=by
    rw [List.take_succ_eq_append_getElem hi,Ni]; simp; omega
   show _=Cq g f (Gf (g.take (i + 1)) 0) _
   rw [e]) (fun f=>by
   show Cq g (f + 1) (Gf (g.take g.length) 0) (g.length:Int)=_
   conv=>lhs; unfold Cq
   rw [if_neg (by simp),List.take_length])
  exact this
 rw [this]; rfl
/-- What a text says of the guests at two places. -/
def dG:A6:=([],[],[],0,0,[],false,false,[])
def gAt (g:List A6) (x:Nat):A6:=g.getD x dG
def cm (c:List AF) (g:List A6) (x y:Nat):Int:=Pr c (gAt g x) (gAt g y) (x:Int) (y:Int)
theorem Xi {x:Nat}(h:x < 64):QK (x:Int)=true:=by simp [QK]; omega
/-- Who sits in a row of at most 64. -/
abbrev Pl:={ x:Nat // x < 64 }
theorem VD {c:List AF}(g:List A6) (hg:I3 [] c):Wk3 (fun a b:Pl=>cm c g a.1 b.1) :=
 let h:=VE c hg
 let k:Pl->At:=fun a=>⟨(gAt g a.1,(a.1:Int)),Xi a.2⟩
 ⟨fun a b=>h.v (k a) (k b),fun a b=>h.s (k a) (k b),fun a b d=>h.t (k a) (k b) (k d)⟩
theorem ZN {c:List AF}{g:List A6}(hg:I3 [] c){x y:Nat}(hx:x < 64) (hy:y < 64):cm c g x y = -1\/cm c g x y=0\/cm c g x y=1:=(VD g hg).v ⟨x,hx⟩ ⟨y,hy⟩
theorem ZX {c:List AF}{g:List A6}(hg:I3 [] c){x y:Nat}(hx:x < 64) (hy:y < 64):cm c g x y = - cm c g y x:=(VD g hg).s ⟨x,hx⟩ ⟨y,hy⟩
/-- Few guests, their places. -/
structure FewR (g:List A6):Prop where
 n:g.length<=64
 f:∀ x ∈ g,P8 x
theorem FewR.at_ {g:List A6}(h:FewR g){x:Nat}(hx:x < g.length):P8 (gAt g x):=h.f _ (by unfold gAt; rw [List.getD_eq_getElem?_getD,List.getElem?_eq_getElem hx]; exact List.getElem_mem hx)
theorem Xh (g:List A6){x:Nat}(hx:x < g.length):idx g (x:Int)=some (gAt g x):=by
 rw [QJ hx]; simp [gAt,hx]
section
variable {c:List AF}{g:List A6}(hc:few c) (hv:(On c).2=0) (hg:FewR g)
include hc hv hg
theorem UZ {x y:Nat}(hx:x < g.length) (hy:y < g.length):∃ k,Am c (gAt g x,(x:Int)) (gAt g y,(y:Int))=some (k,cm c g x y) :=
 ⟨_,TJ c (gAt g x) (gAt g y) x y hc (K8 hv) (hg.at_ hx) (hg.at_ hy)⟩
/-- What a text adds to the table. -/
def dl (c:List AF) (g:List A6) (x y:Nat):Int:=if cm c g x y = -1 then 1 else 0
def inner (M:Nat->Nat->Int) (c:List AF) (g:List A6) (i k:Nat):Nat->Nat->Int:=fun x y=>M x y + if (x=i/\y < k)\/(y=i/\x < k) then dl c g x y else 0
def Za (M:Nat->Nat->Int) (c:List AF) (g:List A6) (m:Nat):Nat->Nat->Int:=fun x y=>M x y + if x < m/\y < m then dl c g x y else 0
end
section
variable {l:List (List AF)}{g:List A6}(hl:∀ c ∈ l,few c) (hg:FewR g)
include hl hg
end
end Go.Proofs.YtlalcoehgkmhlaaGreatDoor
namespace Go.Proofs.YtlalcoehgkmhlaaGreatDoor
section
variable {α:Type}
/-- Groups of things that tie, each in the order of their places, each ahead of the later ones. -/
structure GL (f:α->α->Int) (p:α->Int) (L:List (List α)):Prop where
 ne:∀ g ∈ L,g≠[]
 tie:∀ g ∈ L,g.Pairwise fun a b=>p a < p b
 eq:∀ g ∈ L,∀ a ∈ g,∀ b ∈ g,f a b=0
 lt:L.Pairwise fun g h=>∀ a ∈ g,∀ b ∈ h,f a b = -1
theorem Yl {f:α->α->Int}{p:α->Int}{g:List α}{L:List (List α)}(h:GL f p (g::L)):GL f p L :=
 ⟨fun x hx=>h.ne x (List.mem_cons_of_mem _ hx),fun x hx=>h.tie x (List.mem_cons_of_mem _ hx),fun x hx=>h.eq x (List.mem_cons_of_mem _ hx),(List.pairwise_cons.1 h.lt).2⟩
end
/-- What a text says of two places, as a weak order of all numbers. -/
def fN (c:List AF) (g:List A6) (x y:Nat):Int:=if x < 64 then (if y < 64 then cm c g x y else -1) else if y < 64 then 1 else 0
theorem Xb {c:List AF}{g:List A6}{x y:Nat}(hx:x < 64) (hy:y < 64):fN c g x y=cm c g x y:=by unfold fN; rw [if_pos hx,if_pos hy]
theorem Vc {c:List AF}(g:List A6) (hg:I3 [] c):Wk3 (fN c g):=by
 refine ⟨fun a b=>?_,fun a b=>?_,fun a b d h1 h2=>?_⟩
 ·unfold fN
  split <;> split <;> first | exact ZN hg ‹_› ‹_› | omega
 ·unfold fN
  by_cases ha:a < 64 <;> by_cases hb:b < 64 <;> simp only [ha,hb,if_true,if_false] <;> first | exact ZX hg ha hb | rfl
 ·have:=(VD g hg).t
  by_cases ha:a < 64 <;> by_cases hb:b < 64 <;> by_cases hd:d < 64 <;> simp only [fN,ha,hb,hd,if_true,if_false] at h1 h2 ⊢ <;> first | exact (VD g hg).t ⟨a,ha⟩ ⟨b,hb⟩ ⟨d,hd⟩ h1 h2 | omega | (have:=ZN (g:=g) hg ha hb; omega)
/-- Before, or tied and at an earlier place. -/
def ltN (f:Nat->Nat->Int) (x y:Nat):Prop:=f x y = -1\/(f x y=0/\x < y)
/-- One more is laid into its place, from the end on. -/
def Rt (f:Nat->Nat->Int) (x:Nat):List Nat->List Nat->List Nat
 | [],b=>x::b
 | y::a,b=>if f x y < 0 then Rt f x a (y::b) else (y::a).reverse++x::b
theorem Rv {f:Nat->Nat->Int}(x z:Nat):∀ (a b:List Nat),z ∈ Rt f x a b↔z=x\/z ∈ a\/z ∈ b
 | [],b=>by simp [Rt]
 | y::a,b=>by
  unfold Rt
  split
  ·rw [Rv x z a (y::b)]
   simp only [List.mem_cons]
   constructor
   ·rintro (h | h | h | h)
    ·exact .inl h
    ·exact .inr (.inl (.inr h))
    ·exact .inr (.inl (.inl h))
    ·exact .inr (.inr h)
   ·rintro (h | (h | h) | h)
    ·exact .inl h
    ·exact .inr (.inr (.inl h))
    ·exact .inr (.inl h)
    ·exact .inr (.inr (.inr h))
  ·simp only [List.mem_append,List.mem_reverse,List.mem_cons]
   constructor
   ·rintro (h | h | h)
    ·exact .inr (.inl h)
    ·exact .inl h
    ·exact .inr (.inr h)
   ·rintro (h | h | h)
    ·exact .inr (.inl h)
    ·exact .inl h
    ·exact .inr (.inr h)
theorem Ru {f:Nat->Nat->Int}(x:Nat):∀ (a b:List Nat),(Rt f x a b).length=a.length + b.length + 1
 | [],b=>by simp [Rt]
 | y::a,b=>by
  unfold Rt
  split
  ·rw [Ru x a (y::b)]; simp; omega
  ·simp; omega
/-- Insertion sort. -/
def LW (f:Nat->Nat->Int) (l:List Nat):List Nat:=l.foldl (fun acc x=>Rt f x acc.reverse []) []
theorem LX {f:Nat->Nat->Int}(l:List Nat) (x:Nat):LW f (l++[x])=Rt f x (LW f l).reverse []:=by
 unfold LW; rw [List.foldl_append]; rfl
theorem Pc {α:Type}{P:List α->Prop}(h0:P []) (h1:∀ l x,P l->P (l++[x])) (l:List α):P l:=by
 have:∀ r:List α,P r.reverse:=by
  intro r
  induction r with
  | nil=>exact h0
  | cons x r ih=>rw [List.reverse_cons]; exact h1 _ _ ih
 simpa using this l.reverse
theorem M4 {f:Nat->Nat->Int}(z:Nat) (l:List Nat):z ∈ LW f l↔z ∈ l:=by
 refine Pc (P:=fun l=>z ∈ LW f l↔z ∈ l) (by simp [LW]) (fun l x ih=>?_) l
 rw [LX,Rv]
 simp [ih,or_comm]
theorem PM {f:Nat->Nat->Int}(l:List Nat):(LW f l).length=l.length:=by
 refine Pc (P:=fun l=>(LW f l).length=l.length) (by simp [LW]) (fun l x ih=>?_) l
 rw [LX,Ru]
 simp [ih]
section
variable {f:Nat->Nat->Int}(hf:Wk3 f)
include hf
theorem Ta {x y z:Nat}(h1:ltN f x y) (h2:ltN f y z):ltN f x z:=by
 have:=hf.t x y z (by rcases h1 with h | h <;> omega) (by rcases h2 with h | h <;> omega)
 unfold ltN
 rcases h1 with h1 | h1 <;> rcases h2 with h2 | h2 <;> omega
theorem NY (x:Nat):∀ (a b:List Nat),(a.reverse++b).Pairwise (ltN f)->(∀ y ∈ b,f x y = -1)->(∀ y ∈ a,y < x)->(Rt f x a b).Pairwise (ltN f)
 | [],b,h,hb,_=>by
  unfold Rt
  exact List.pairwise_cons.2 ⟨fun y hy=> .inl (hb y hy),by simpa using h⟩
 | y::a,b,h,hb,ha=>by
  unfold Rt
  by_cases hxy:f x y < 0
  ·rw [if_pos hxy]
   have e:f x y = -1:=by have:=hf.v x y; omega
   refine NY x a (y::b) (by simpa using h) (fun z hz=>?_) fun z hz=>ha z (List.mem_cons_of_mem _ hz)
   rcases List.mem_cons.1 hz with rfl | hz
   ·exact e
   ·exact hb z hz
  ·rw [if_neg hxy]
   have hyx:ltN f y x:=by
    have:=hf.s x y
    have:=hf.v x y
    have:=ha y (by simp)
    unfold ltN; omega
   rw [List.pairwise_append] at h ⊢
   obtain ⟨h1,h2,h3⟩:=h
   refine ⟨h1,List.pairwise_cons.2 ⟨fun z hz=> .inl (hb z hz),h2⟩,fun z hz w hw=>?_⟩
   rcases List.mem_cons.1 hw with rfl | hw
   ·rw [List.reverse_cons] at h1 hz
    rcases List.mem_append.1 hz with hz | hz
    ·exact Ta hf ((List.pairwise_append.1 h1).2.2 z hz y (by simp)) hyx
    ·simp at hz; subst hz; exact hyx
   ·exact h3 z hz w hw
theorem Q8 (l:List Nat):l.Pairwise (fun a b=>a < b)->(LW f l).Pairwise (ltN f):=by
 refine Pc (P:=fun l=>l.Pairwise (fun a b=>a < b)->(LW f l).Pairwise (ltN f)) (fun _=>by simp [LW]) (fun l x ih h=>?_) l
 obtain ⟨h1,_,h3⟩:=List.pairwise_append.1 h
 rw [LX]
 refine NY hf x _ [] (by simpa using ih h1) (fun y hy=>by cases hy) fun y hy=>?_
 exact h3 y ((M4 y l).1 (List.mem_reverse.1 hy)) x (by simp)
end
/-- Guests by their places. -/
def sd (g:List A6) (x:Nat):AR:=(gAt g x,(x:Int))
def sdL (g:List A6) (l:List Nat):List AR:=l.map (sd g)
theorem RM (g:List A6) (a b:List Nat):sdL g (a++b)=sdL g a++sdL g b:=List.map_append
theorem NA (g:List A6) (x:Nat) (b:List Nat):sdL g (x::b)=sd g x::sdL g b:=rfl
theorem Iq (g:List A6) (a:List Nat):(sdL g a).length=a.length:=List.length_map _
theorem RO {α:Type}(p:List α) (v w:α) (r:List α):(p++v::r).set p.length w=p++w::r:=by simp
theorem QQ (g:List A6):∀ (r:List A6) (p:List A6),g=p++r->Gf r p.length=sdL g ((List.range' p.length r.length))
 | [],_,_=>rfl
 | x::r,p,e=>by
  have:=QQ g r (p++[x]) (by rw [e]; simp)
  simp only [List.length_append,List.length_cons,List.length_nil,Nat.zero_add] at this
  simp only [Gf,this,List.length_cons,List.range'_succ,NA]
  congr 1
  unfold sd gAt
  rw [e]; simp
theorem Sg (g:List A6):Gf g 0=sdL g (List.range g.length):=by
 have:=QQ g g [] rfl
 rw [List.range_eq_range']
 exact this
section
variable {c:List AF}{g:List A6}(hc:few c) (hv:(On c).2=0) (hg:FewR g)
include hc hv hg
theorem VP {x y:Nat}(hx:x < g.length) (hy:y < g.length):Cn (sd g x) (sd g y) c=some (fN c g x y):=by
 have hn:=hg.n
 obtain ⟨k,h⟩:=UZ hc hv hg hx hy
 unfold Cn
 rw [show sd g x=(gAt g x,(x:Int)) from rfl,show sd g y=(gAt g y,(y:Int)) from rfl,h,Xb (by omega) (by omega)]; rfl
theorem VT (x:Nat) (hx:x < g.length) (rest:List Nat):∀ (a b:List Nat) (fu:Nat),(∀ y ∈ a,y < g.length)->a.length < fu->a.length<=1000->Al 0 c fu (a.length:Int) (sdL g (a.reverse++x::(b++rest)))=some (sdL g (Rt (fN c g) x a b++rest))
 | [],b,fu + 1,_,_,_=>by
  unfold Al
  rw [if_neg (by simp),OS,if_neg (by simp)]; rfl
 | y::a,b,fu + 1,ha,hf,hl=>by
  have hy:=ha y (by simp)
  simp only [List.length_cons] at hf hl
  have e1:sdL g ((y::a).reverse++x::(b++rest))=(sdL g a.reverse++[sd g y])++sd g x::sdL g (b++rest):=by
   simp [sdL]
  have e2:(sdL g a.reverse++[sd g y])++sd g x::sdL g (b++rest)=sdL g a.reverse++sd g y::sd g x::sdL g (b++rest):=by simp
  have l1:(((y::a).length:Nat):Int)=(((sdL g a.reverse++[sd g y]).length:Nat):Int):=by simp [Iq]
  have l2:wr .i64 ((((y::a).length:Nat):Int) - 1)=(((sdL g a.reverse).length:Nat):Int):=by
   rw [Pt (by simp <;> omega) (by simp <;> omega)]; simp [Iq]
  have i1:idx (sdL g ((y::a).reverse++x::(b++rest))) (((y::a).length:Nat):Int)=some (sd g x):=by rw [e1,l1,FM]
  have i2:idx (sdL g ((y::a).reverse++x::(b++rest))) (wr .i64 ((((y::a).length:Nat):Int) - 1))=some (sd g y):=by rw [e1,e2,l2,FM]
  have s1:(sdL g ((y::a).reverse++x::(b++rest))).set (((y::a).length:Nat):Int).toNat (sd g y)=sdL g a.reverse++sd g y::sd g y::sdL g (b++rest):=by
   rw [e1,l1,Int.toNat_natCast,RO]; simp
  have i3:idx (sdL g a.reverse++sd g y::sd g y::sdL g (b++rest)) (wr .i64 ((((y::a).length:Nat):Int) - 1))=some (sd g y):=by rw [l2,FM]
  have s2:(sdL g a.reverse++sd g y::sd g y::sdL g (b++rest)).set (wr .i64 ((((y::a).length:Nat):Int) - 1)).toNat (sd g x)=sdL g (a.reverse++x::((y::b)++rest)):=by
   rw [l2,Int.toNat_natCast,RO]; simp [RM,NA]
  unfold Al
  rw [if_pos (by simp <;> omega),i1,OS,i2,OS,VP hc hv hg hx hy,OS,OS]
  unfold Rt
  by_cases h:fN c g x y < 0
  ·rw [if_pos (by simpa using h),if_pos h,OS,OS,OS,s1,i3,OS,s2,l2,Iq,List.length_reverse]
   exact VT x hx rest a (y::b) fu (fun z hz=>ha z (List.mem_cons_of_mem _ hz)) (by omega) (by omega)
  ·rw [if_neg (by simpa using h),if_neg h]
   congr 2
   simp
theorem Y8 (ns:List Nat) (hns:∀ x ∈ ns,x < g.length) (hl:ns.length<=1000):Ad (sdL g ns) 0 (ns.length:Int) c=some (sdL g (LW (fN c g) ns),c):=by
 have hin:AM 0 (ns.length:Int) c 100000 (wr .i64 (0 + 1)) (sdL g ns)=some (sdL g (LW (fN c g) ns)):=by
  rw [show wr .i64 (0 + 1)=((1:Nat):Int) from rfl]
  cases hns0:ns with
  | nil =>
   unfold AM
   rw [if_neg (by simp)]; rfl
  | cons n0 nr =>
   rw [<-hns0]
   have hpos:1<=ns.length:=by rw [hns0]; simp
   have e0:sdL g (LW (fN c g) (ns.take 1)++ns.drop 1)=sdL g ns:=by rw [hns0]; rfl
   have h:=XY (σ:=List AR) ns.length 1 (fun i=>sdL g (LW (fN c g) (ns.take i)++ns.drop i)) (some (sdL g (LW (fN c g) ns))) (fun f c1 s=>AM 0 (ns.length:Int) c f c1 s) (by omega) (fun i h1 hi f=>by
    show AM 0 (ns.length:Int) c (f + 1) (i:Int) (sdL g (LW (fN c g) (ns.take i)++ns.drop i))=_
    conv=>lhs; unfold AM
    have hil:((LW (fN c g) (ns.take i)).reverse.length:Int)=(i:Int):=by rw [List.length_reverse,PM]; simp; omega
    have:=VT hc hv hg ns[i] (hns _ (List.getElem_mem hi)) (ns.drop (i + 1)) (LW (fN c g) (ns.take i)).reverse [] 100000 (fun y hy=>hns y (List.mem_of_mem_take ((M4 y _).1 (List.mem_reverse.1 hy)))) (by omega) (by omega)
    rw [hil,List.reverse_reverse,List.nil_append,<-LX,<-List.take_succ_eq_append_getElem hi,<-List.drop_eq_getElem_cons hi] at this
    rw [if_pos (by simp; omega),this,OS]) (fun f=>by
    show AM 0 (ns.length:Int) c (f + 1) (ns.length:Int) (sdL g (LW (fN c g) (ns.take ns.length)++ns.drop ns.length))=_
    conv=>lhs; unfold AM
    rw [if_neg (by simp),List.take_length,List.drop_length,List.append_nil]) (ns.length - 1) 1 100000 (by omega) (by omega) (by omega)
   rw [<-e0]; exact h
 unfold Ad
 rw [hin]; rfl
theorem X7 (ns:List Nat) (hns:∀ x ∈ ns,x < g.length) (hl:ns.length<=20):Aw (sdL g ns) c=some (sdL g (LW (fN c g) ns),c):=by
 have hi:=Y8 hc hv hg ns hns (by omega)
 have e:BV (sdL g ns) (ns.length:Int) c=some (sdL g (LW (fN c g) ns),c):=by
  unfold BV
  have e2:BL (ns.length:Int) 100000=some ():=by
   unfold BL
   rw [if_neg (by simp; omega)]
  by_cases h20:ns.length=20
  ·have e1:Af (ns.length:Int) 100000 0 20 (sdL g ns) c=some (20,sdL g (LW (fN c g) ns),c):=by
    unfold Af
    rw [h20] at hi
    rw [if_pos (by rw [h20]; rfl),show ((20:Int))=((20:Nat):Int) from rfl,hi,OS]
    unfold Af
    rw [if_neg (by rw [h20]; show ¬ (false=true); decide)]
   have e3:Ad (sdL g (LW (fN c g) ns)) 20 (ns.length:Int) c=some (sdL g (LW (fN c g) ns),c):=by
    unfold Ad AM
    rw [if_neg (by rw [h20]; show ¬ (false=true); decide)]; rfl
   rw [e1,OS,e3,OS,e2]; rfl
  ·have e1:Af (ns.length:Int) 100000 0 20 (sdL g ns) c=some (0,sdL g ns,c):=by
    unfold Af
    rw [if_neg (by simp; omega)]
   rw [e1,OS,hi,OS,e2]; rfl
 unfold Aw
 rw [Iq,e]; rfl
end
theorem QV {α:Type}(l:List α):l=[]\/∃ a x,l=a++[x]:=by
 refine Pc (P:=fun l=>l=[]\/∃ a x,l=a++[x]) (.inl rfl) (fun l x _=> .inr ⟨l,x,rfl⟩) l
def pI (x:Nat):Int:=(x:Int)
def toG (l:List Nat):List Int:=l.map pI
def toI (L:List (List Nat)):List (List Int):=L.map toG
theorem RS (L M:List (List Nat)):toI (L++M)=toI L++toI M:=List.map_append
theorem Hr (L:List (List Nat)):(toI L).length=L.length:=List.length_map _
theorem Fb (L:List Nat):(toG L).length=L.length:=List.length_map _
section
variable {f:Nat->Nat->Int}{L:List (List Nat)}{gr:List Nat}{x:Nat}
theorem GL.snocNew (h:GL f pI L) (hx:f x x=0) (hn:∀ z ∈ L.flatten,f z x = -1):GL f pI (L++[[x]]):=by
 refine ⟨fun q hq=>?_,fun q hq=>?_,fun q hq=>?_,?_⟩
 ·rcases List.mem_append.1 hq with hq | hq
  ·exact h.ne q hq
  ·simp at hq; subst hq; simp
 ·rcases List.mem_append.1 hq with hq | hq
  ·exact h.tie q hq
  ·simp at hq; subst hq; simp
 ·rcases List.mem_append.1 hq with hq | hq
  ·exact h.eq q hq
  ·simp at hq; subst hq
   intro a ha b hb
   simp at ha hb; subst ha hb; exact hx
 ·refine List.pairwise_append.2 ⟨h.lt,by simp,fun q hq k hk a ha b hb=>?_⟩
  simp at hk; subst hk
  simp at hb; subst hb
  exact hn a (List.mem_flatten.2 ⟨q,hq,ha⟩)
theorem GL.snocIn (h:GL f pI (L++[gr])) (hx:f x x=0) (hg:∀ z ∈ gr,f z x=0/\f x z=0/\z < x) (hn:∀ q ∈ L,∀ z ∈ q,f z x = -1):GL f pI (L++[gr++[x]]):=by
 refine ⟨fun q hq=>?_,fun q hq=>?_,fun q hq=>?_,?_⟩
 ·rcases List.mem_append.1 hq with hq | hq
  ·exact h.ne q (List.mem_append_left _ hq)
  ·simp at hq; subst hq; simp
 ·rcases List.mem_append.1 hq with hq | hq
  ·exact h.tie q (List.mem_append_left _ hq)
  ·simp at hq; subst hq
   refine List.pairwise_append.2 ⟨h.tie gr (by simp),by simp,fun a ha b hb=>?_⟩
   simp at hb; subst hb
   have:=(hg a ha).2.2
   unfold pI; omega
 ·rcases List.mem_append.1 hq with hq | hq
  ·exact h.eq q (List.mem_append_left _ hq)
  ·simp at hq; subst hq
   intro a ha b hb
   have e:=h.eq gr (by simp)
   rcases List.mem_append.1 ha with h5 | h5 <;> rcases List.mem_append.1 hb with h6 | h6
   ·exact e a h5 b h6
   ·rw [show b=x by simpa using h6]; exact (hg a h5).1
   ·rw [show a=x by simpa using h5]; exact (hg b h6).2.1
   ·rw [show a=x by simpa using h5,show b=x by simpa using h6]; exact hx
 ·obtain ⟨h1,_,h3⟩:=List.pairwise_append.1 h.lt
  refine List.pairwise_append.2 ⟨h1,by simp,fun q hq k hk a ha b hb=>?_⟩
  simp at hk; subst hk
  rcases List.mem_append.1 hb with hb | hb
  ·exact h3 q hq gr (by simp) a ha b hb
  ·simp at hb; subst hb; exact hn q hq a ha
end
theorem QI {α:Type}(p:List α) (v:α) (h:p.length<=1000000):idx (p++[v]) (wr .i64 (((p++[v]).length:Int) - 1))=some v:=by
 rw [Pt (by simp <;> omega) (by simp <;> omega),show (((p++[v]).length:Int) - 1)=(p.length:Int) by simp,FM]
theorem QU {α:Type}(p:List α) (v w:α) (h:p.length<=1000000):(p++[v]).set (wr .i64 (((p++[v]).length:Int) - 1)).toNat w=p++[w]:=by
 rw [Pt (by simp <;> omega) (by simp <;> omega),show (((p++[v]).length:Int) - 1)=(p.length:Int) by simp,Int.toNat_natCast,RO]
section
variable {c:List AF}{g:List A6}(hc:few c) (hv:(On c).2=0) (hg:FewR g)
include hc hv hg
theorem VQ (ms:List Nat) (hs:ms.Pairwise (ltN (fN c g))) (hb:∀ x ∈ ms,x < g.length) (hl:ms.length<=1000):∀ (r pre:List Nat) (fu:Nat) (L:List (List Nat)),ms=pre++r->r.length < fu->L.flatten=pre->GL (fN c g) pI L->L.length<=pre.length->∃ L',CK (sdL g ms,c) fu (pre.length:Int) (toI L)=some (toI L')/\L'.flatten=ms/\GL (fN c g) pI L'
 | [],pre,fu + 1,L,e,_,hf,hL,_=>by
  refine ⟨L,?_,by rw [hf,e]; simp,hL⟩
  unfold CK
  rw [if_neg (by rw [e]; simp [Iq])]
 | x::r,pre,fu + 1,L,e,hfu,hf,hL,hLl=>by
  have hw:=Vc g (G9 hv).2
  have hxx:fN c g x x=0:=by have:=hw.s x x; omega
  have hlen:ms.length=pre.length + r.length + 1:=by rw [e]; simp; omega
  simp only [List.length_cons] at hfu
  have hx:=hb x (by rw [e]; simp)
  have hlt:∀ z ∈ pre,ltN (fN c g) z x:=fun z hz=>by
   rw [e] at hs
   exact (List.pairwise_append.1 hs).2.2 z hz x (by simp)
  have hi:idx (sdL g ms) (pre.length:Int)=some (sd g x):=by
   rw [e,RM,NA,<-Iq g pre,FM]
  have hwr:wr .i64 ((pre.length:Int) + 1)=(((pre++[x]).length:Nat):Int):=Ht pre x r (by rw [<-e]; omega)
  have next:∀ L2:List (List Nat),L2.flatten=pre++[x]->GL (fN c g) pI L2->L2.length<=(pre++[x]).length->∃ L',CK (sdL g ms,c) fu (wr .i64 ((pre.length:Int) + 1)) (toI L2)=some (toI L')/\L'.flatten=ms/\GL (fN c g) pI L':=fun L2 h1 h2 h3=>by
   rw [hwr]
   exact VQ ms hs hb hl r (pre++[x]) fu L2 (by rw [e]; simp) (by omega) h1 h2 h3
  have new:(∀ z ∈ pre,fN c g z x = -1)->∀ j,(if (pre.length:Int)==0 then some true else (idx (sdL g ms) (wr .i64 ((pre.length:Int) - 1))).bind fun v25=>(Cn v25 (sd g x) c).bind fun v28=>some (v28 != 0))=some j->j=true->∃ L',CK (sdL g ms,c) (fu + 1) (pre.length:Int) (toI L)=some (toI L')/\L'.flatten=ms/\GL (fN c g) pI L':=fun hn j hj hjt=>by
   subst hjt
   obtain ⟨L',h1,h2⟩:=next (L++[[x]]) (by rw [List.flatten_append,hf]; simp) (hL.snocNew hxx (by rw [hf]; exact hn)) (by simp; omega)
   refine ⟨L',?_,h2⟩
   rw [<-h1]
   conv=>lhs; unfold CK
   rw [if_pos (by simp [Iq]; omega),hi,OS,hj,OS]
   unfold FG
   rw [if_pos rfl,if_pos (Hv (by omega) (by rw [Hr]; simp; omega)),OS,QI _ _ (by rw [Hr]; omega),OS,if_pos (Hv (by omega) (by simp)),OS,QU _ _ _ (by rw [Hr]; omega),RS]
   rfl
  rcases QV L with h0 | ⟨L0,gr,h0⟩
  ·subst h0
   have hp:pre=[]:=by rw [<-hf]; rfl
   subst hp
   exact new (fun z hz=>by cases hz) true (by simp) rfl
  ·subst h0
   rcases QV gr with h1 | ⟨gr0,y,h1⟩
   ·exact absurd h1 (hL.ne gr (by simp))
   ·subst h1
    have hpre:pre=(L0.flatten++gr0)++[y]:=by rw [<-hf]; simp
    have hyp:y ∈ pre:=by rw [hpre]; simp
    have hy:=hb y (by rw [e]; exact List.mem_append_left _ hyp)
    have hprev:(if (pre.length:Int)==0 then some true else (idx (sdL g ms) (wr .i64 ((pre.length:Int) - 1))).bind fun v25=>(Cn v25 (sd g x) c).bind fun v28=>some (v28 != 0))=some (fN c g y x != 0):=by
     have hpl:(pre.length:Int)=(((L0.flatten++gr0).length:Nat):Int) + 1:=by rw [hpre]; simp; omega
     have hp0:¬ (((pre.length:Int)==0)=true):=by simp; intro h; rw [h] at hyp; cases hyp
     have hii:idx (sdL g ms) (wr .i64 ((pre.length:Int) - 1))=some (sd g y):=by
      have q1:wr .i64 ((pre.length:Int) - 1)=((L0.flatten++gr0).length:Int):=by rw [Pt (by omega) (by omega)]; omega
      have q2:ms=(L0.flatten++gr0)++y::(x::r):=by rw [e,hpre]; simp
      rw [q1,q2,RM,NA,<-Iq g (L0.flatten++gr0),FM]
     rw [if_neg hp0,hii,OS,VP hc hv hg hy hx,OS]
    have hlyx:=hlt y hyp
    by_cases h0:fN c g y x=0
    ·have hLlen:(L0++[gr0++[y]++[x]]).length<=(pre++[x]).length:=by simp at hLl ⊢; omega
     have tie:∀ z ∈ gr0++[y],fN c g z x=0:=fun z hz=>by
      have e1:=hL.eq (gr0++[y]) (by simp) z hz y (by simp)
      have:=hw.t z y x (by omega) (by omega)
      omega
     obtain ⟨L',h1,h2⟩:=next (L0++[gr0++[y]++[x]]) (by rw [hpre]; simp) (hL.snocIn hxx (fun z hz=>by
      have e1:=tie z hz
      have:=hw.s z x
      refine ⟨e1,by omega,?_⟩
      have hzp:z ∈ pre:=by rw [hpre,List.append_assoc]; exact List.mem_append_right _ hz
      rcases hlt z hzp with h | h
      ·omega
      ·exact h.2) (fun q hq z hz=>by
      have e1:=(List.pairwise_append.1 hL.lt).2.2 q hq (gr0++[y]) (by simp) z hz y (by simp)
      have:=hw.t z y x (by omega) (by omega)
      omega)) hLlen
     refine ⟨L',?_,h2⟩
     rw [<-h1]
     conv=>lhs; unfold CK
     rw [if_pos (by simp [Iq]; omega),hi,OS,hprev,OS]
     unfold FG
     have hLle:L0.length<=1000:=by simp at hLl; omega
     have hgl:(gr0++[y]).length<=1000:=by
      have:pre.length=(L0.flatten).length + (gr0++[y]).length:=by rw [hpre]; simp
      omega
     have e3:toI (L0++[gr0++[y]])=toI L0++[toG (gr0++[y])]:=by rw [RS]; rfl
     rw [if_neg (by simp [h0]),OS,e3,QI _ _ (by rw [Hr]; omega),OS,if_pos (Hv (by omega) (by rw [Fb]; simp at hgl ⊢; omega)),OS,QU _ _ _ (by rw [Hr]; omega)]
     have e4:toI L0++[toG (gr0++[y])++[(sd g x).2]]=toI (L0++[gr0++[y]++[x]]):=by
      rw [RS]
      show _=toI L0++[toG (gr0++[y]++[x])]
      unfold toG
      rw [List.map_append (l₂:=[x])]
      rfl
     rw [e4]
    ·have hm1:fN c g y x = -1:=by rcases hlyx with h | h <;> omega
     refine new (fun z hz=>?_) (fN c g y x != 0) hprev (by simp [h0])
     have hzy:z=y\/ltN (fN c g) z y:=by
      rw [hpre] at hz
      rcases List.mem_append.1 hz with hz | hz
      ·right
       rw [e,hpre] at hs
       have:=(List.pairwise_append.1 (List.pairwise_append.1 hs).1).2.2 z hz y (by simp)
       exact this
      ·left; simpa using hz
     rcases hzy with rfl | hzy
     ·exact hm1
     ·have:=hw.t z y x (by rcases hzy with h | h <;> omega) (by omega)
      rcases hzy with h | h <;> omega
theorem Ud (ns:List Nat) (ha:ns.Pairwise fun a b=>a < b) (hns:∀ x ∈ ns,x < g.length) (hl:ns.length<=20):∃ L,FF c (sdL g ns)=some (toI L)/\GL (fN c g) pI L/\∀ x,x ∈ L.flatten↔x ∈ ns:=by
 have hw:=Vc g (G9 hv).2
 obtain ⟨L,h1,h2,h3⟩:=VQ hc hv hg (LW (fN c g) ns) (Q8 hw ns ha) (fun x hx=>hns x ((M4 x ns).1 hx)) (by rw [PM]; omega) (LW (fN c g) ns) [] 100000 [] rfl (by rw [PM]; omega) rfl ⟨fun _ h=>(by cases h),fun _ h=>(by cases h),fun _ h=>(by cases h),List.Pairwise.nil⟩ (Nat.le_refl _)
 refine ⟨L,?_,h3,fun x=>by rw [h2,M4]⟩
 unfold FF
 rw [if_pos (Hv (by omega) (by rw [Iq]; omega)),X7 hc hv hg ns hns hl,OS]
 have h1':CK (sdL g (LW (fN c g) ns),c) 100000 0 []=some (toI L):=h1
 rw [h1']; rfl
theorem Wm (hn:g.length<=20):∃ L,En c g=some (toI L)/\GL (fN c g) pI L/\∀ x,x ∈ L.flatten↔x < g.length:=by
 obtain ⟨L,h1,h2,h3⟩:=Ud hc hv hg (List.range g.length) List.pairwise_lt_range (fun x hx=>List.mem_range.1 hx) (by simpa using hn)
 refine ⟨L,?_,h2,fun x=>by rw [h3,List.mem_range]⟩
 unfold En
 rw [Uv c hc,if_pos hv,OS,if_neg (by simp),OS,if_neg (by simp; omega),Xr g (by omega),OS,Sg,h1]; rfl
end
/- trestle/trestleref03.all -/
/- trestle/trestleref03.groups -/
/- trestle/trestleref03.Order -/
/- trestle/trestleref03.single -/
/- trestle/trestleref03.Line -/
/- trestle/trestleref03.all -/
/- trestle/trestleref03.Class -/
theorem Qd (l:List Nat) (i:Nat) (h:i < l.length):idx (toG l) (i:Int)=some (pI l[i]):=by
 unfold toG
 rw [QJ (by simpa using h)]; simp
theorem Tw (a b:List Nat):toG (a++b)=toG a++toG b:=List.map_append
section
variable {c:List AF}{g:List A6}(hc:few c) (hv:(On c).2=0) (hg:FewR g)
include hc hv hg
end
/-- All of a group get a number. -/
def PY (j:Int) (gr:List Nat) (s:List Int):List Int:=gr.foldl (fun s x=>s.set x j) s
theorem PZ (j:Int):∀ (gr:List Nat) (s:List Int),(PY j gr s).length=s.length
 | [],_=>rfl
 | x::gr,s=>by
  show (PY j gr (s.set x j)).length=_
  rw [PZ j gr]; simp
theorem RN (j:Int){y:Nat}:∀ (gr:List Nat) (s:List Int),y ∉ gr->(PY j gr s)[y]? = s[y]?
 | [],_,_=>rfl
 | x::gr,s,h=>by
  show (PY j gr (s.set x j))[y]? = _
  have h1:¬ x=y:=fun e=>h (by rw [e]; simp)
  rw [RN j gr _ (fun hm=>h (List.mem_cons_of_mem _ hm)),List.getElem?_set,if_neg h1]
theorem SD (j:Int){y:Nat}:∀ (gr:List Nat) (s:List Int),y ∈ gr->y < s.length->(PY j gr s)[y]? = some j
 | x::gr,s,h,hy=>by
  show (PY j gr (s.set x j))[y]? = _
  by_cases hm:y ∈ gr
  ·exact SD j gr _ hm (by simpa using hy)
  ·rw [RN j gr _ hm]
   have e:y=x:=by rcases List.mem_cons.1 h with e | e; exact e; exact absurd e hm
   subst e
   rw [List.getElem?_set,if_pos rfl,if_pos hy]
/-- A list tells each one's group. -/
def Q6 (L:List (List Nat)) (n k:Nat) (s:List Int):Prop:=s.length=n/\∀ j,j < k->∀ (gr:List Nat),L[j]? = some gr->∀ x ∈ gr,s[x]? = some (j:Int)
section
variable {f:Nat->Nat->Int}(hs:∀ a b,f a b = - f b a){L:List (List Nat)}(hL:GL f pI L)
include hs hL
theorem GL.disj {i j:Nat}{a b:List Nat}(hi:L[i]? = some a) (hj:L[j]? = some b){x:Nat}(ha:x ∈ a) (hb:x ∈ b):i=j:=by
 have key:∀ {i j:Nat} {a b:List Nat},i < j->L[i]? = some a->L[j]? = some b->x ∈ a->x ∈ b->False:=fun {i j a b} hij hi hj ha hb=>by
  obtain ⟨i1,i2⟩:=List.getElem?_eq_some_iff.1 hi
  obtain ⟨j1,j2⟩:=List.getElem?_eq_some_iff.1 hj
  have:=List.pairwise_iff_getElem.1 hL.lt i j i1 j1 hij x (i2 ▸ ha) x (j2 ▸ hb)
  have:=hs x x
  omega
 rcases Nat.lt_trichotomy i j with h | h | h
 ·exact (key h hi hj ha hb).elim
 ·exact h
 ·exact (key h hj hi hb ha).elim
theorem UM {n k:Nat}{s:List Int}{gr:List Nat}(h:Q6 L n k s) (hk:L[k]? = some gr) (hb:∀ x ∈ gr,x < n):Q6 L n (k + 1) (PY (k:Int) gr s):=by
 refine ⟨by rw [PZ]; exact h.1,fun j hj g2 hg2 x hx=>?_⟩
 by_cases e:j=k
 ·subst e
  rw [hk] at hg2
  have:=OI hg2
  subst this
  exact SD _ _ _ hx (by rw [h.1]; exact hb x hx)
 ·have hn:x ∉ gr:=fun hm=>e (hL.disj hs hg2 hk hx hm)
  rw [RN _ _ _ hn]
  exact h.2 j (by omega) g2 hg2 x hx
end
theorem Tx (L:List (List Nat)) (i:Nat) (h:i < L.length):idx (toI L) (i:Int)=some (toG L[i]):=by
 unfold toI
 rw [QJ (by simpa using h)]; simp
theorem Ub {s:List Int}{x:Nat}(h:x < s.length):∃ v,idx s (pI x)=some v:=⟨s[x],QJ h⟩
/-- The inner loops that give a group its number. -/
theorem XV (gr:List Nat) (j:Int) (s:List Int) (hb:∀ x ∈ gr,x < s.length) (hl:gr.length<=1000):CQ j (toG gr) 100000 0 s=some (PY j gr s):=by
 have h:=Qw (σ:=List Int) gr.length (fun k=>PY j (gr.take k) s) (some (PY j gr s)) (fun f c' s=>CQ j (toG gr) f c' s) (by omega) (fun k hk f=>by
  show CQ j (toG gr) (f + 1) (k:Int) (PY j (gr.take k) s)=_
  conv=>lhs; unfold CQ
  obtain ⟨v,hv⟩:=Ub (s:=PY j (gr.take k) s) (x:=gr[k]) (by rw [PZ]; exact hb _ (List.getElem_mem hk))
  rw [if_pos (by rw [Fb]; simp; omega),Qd gr k hk,OS,hv,OS]
  have e:PY j (gr.take (k + 1)) s=(PY j (gr.take k) s).set gr[k] j:=by
   unfold PY
   rw [List.take_succ_eq_append_getElem hk,List.foldl_append]; rfl
  show _=CQ j (toG gr) f _ (PY j (gr.take (k + 1)) s)
  rw [e,show (pI gr[k]).toNat=gr[k] from Int.toNat_natCast _]) (fun f=>by
  show CQ j (toG gr) (f + 1) (gr.length:Int) (PY j (gr.take gr.length) s)=_
  conv=>lhs; unfold CQ
  rw [if_neg (by rw [Fb]; simp),List.take_length])
 exact h
section
theorem Lb:∀ {l m:List Nat},l.Nodup->(∀ x ∈ l,x ∈ m)->l.length<=m.length
 | [],_,_,_=>Nat.zero_le _
 | x::l,m,h,s=>by
  obtain ⟨h1,h2⟩:=List.nodup_cons.1 h
  have hx:=s x (by simp)
  have:=Lb (l:=l) (m:=m.erase x) h2 fun y hy=>(List.mem_erase_of_ne (fun e:y=x=>h1 (e ▸ hy))).2 (s y (List.mem_cons_of_mem _ hy))
  rw [List.length_erase_of_mem hx] at this
  have:0 < m.length:=List.length_pos_of_mem hx
  simp; omega
variable {c:List AF}{g:List A6}(hc:few c) (hv:(On c).2=0) (hg:FewR g) (hn:g.length<=20){L:List (List Nat)}(hL:GL (fN c g) pI L) (hall:∀ x,x ∈ L.flatten↔x < g.length)
include hL hall
theorem PJ {gr:List Nat}(h:gr ∈ L):∀ x ∈ gr,x < g.length:=have _:=hL; fun x hx=>(hall x).1 (List.mem_flatten.2 ⟨gr,h,hx⟩)
theorem Q5 {gr:List Nat}(h:gr ∈ L):gr.length<=g.length:=by
 have hnd:gr.Nodup:=(hL.tie gr h).imp fun h e=>by subst e; exact absurd h (Int.lt_irrefl _)
 have:=Lb hnd (m:=List.range g.length) fun x hx=>List.mem_range.2 (PJ hL hall h x hx)
 simpa using this
theorem SZ (hs:∀ a b,fN c g a b = - fN c g b a):L.flatten.Nodup:=by
 have _:=hall
 refine List.pairwise_flatten.2 ⟨fun gr h=>(hL.tie gr h).imp fun h e=>by subst e; exact absurd h (Int.lt_irrefl _),hL.lt.imp fun h a ha b hb e=>?_⟩
 subst e
 have:=h a ha a hb
 have:=hs a a
 omega
theorem I2 (hs:∀ a b,fN c g a b = - fN c g b a):L.flatten.length=g.length:=by
 have h1:=Lb (SZ hL hall hs) (m:=List.range g.length) fun x hx=>List.mem_range.2 ((hall x).1 hx)
 have h2:=Lb (List.nodup_range (n:=g.length)) (m:=L.flatten) fun x hx=>(hall x).2 (List.mem_range.1 hx)
 simp at h1 h2 ⊢
 omega
theorem Ti (hs:∀ a b,fN c g a b = - fN c g b a):L.length<=g.length:=by
 have h1:=I2 hL hall hs
 have:∀ M:List (List Nat),(∀ gr ∈ M,gr≠[])->M.length<=M.flatten.length:=fun M hM=>by
  induction M with
  | nil=>simp
  | cons a M ih =>
   have:=ih fun gr h=>hM gr (List.mem_cons_of_mem _ h)
   have:=List.length_pos_iff.2 (hM a (by simp))
   simp only [List.flatten_cons,List.length_append,List.length_cons]
   omega
 have:=this L hL.ne
 omega
include hn
theorem UL (hs:∀ a b,fN c g a b = - fN c g b a):∃ s,DH g (toI L) 100000 0 []=some s/\Q6 L g.length L.length s:=by
 have hnl:=Ti hL hall hs
 by_cases h0:L.length=0
 ·have:L=[]:=List.eq_nil_of_length_eq_zero h0
  subst this
  have hg0:g.length=0:=by
   rcases Nat.eq_zero_or_pos g.length with h | h
   ·exact h
   ·have:=(hall 0).2 h; simp at this
  refine ⟨[],?_,by simp [hg0],fun j hj=>by simp at hj⟩
  unfold DH
  rw [if_neg (by simp [toI])]
 ·have go:∀ (d k fu:Nat) (s:List Int),k + d=L.length->d < fu->(if k=0 then s=[] else Q6 L g.length k s)->∃ t,DH g (toI L) fu (k:Int) s=some t/\Q6 L g.length L.length t:=by
   intro d
   induction d with
   | zero =>
    intro k fu s hk hf h
    obtain ⟨fu,rfl⟩:∃ q,fu=q + 1:=⟨fu - 1,by omega⟩
    rw [if_neg (by omega)] at h
    refine ⟨s,?_,by rw [show k=L.length by omega] at h; exact h⟩
    unfold DH
    rw [if_neg (by rw [Hr]; simp; omega)]
   | succ d ih =>
    intro k fu s hk hf h
    obtain ⟨fu,rfl⟩:∃ q,fu=q + 1:=⟨fu - 1,by omega⟩
    have hkl:k < L.length:=by omega
    have hgm:L[k] ∈ L:=List.getElem_mem hkl
    have hgk:L[k]? = some L[k]:=List.getElem?_eq_getElem hkl
    obtain ⟨s',e1,e2⟩:∃ s',Fd g (k:Int) s=some s'/\Q6 L g.length k s':=by
     unfold Fd
     by_cases hk0:k=0
     ·subst hk0
      refine ⟨_,by rw [if_pos (by rfl),if_pos (by simp [W8]; omega)],by simp,fun j hj=>by omega⟩
     ·rw [if_neg hk0] at h
      exact ⟨s,by rw [if_neg (by simp; omega)],h⟩
    have e3:CQ (k:Int) (toG L[k]) 100000 0 s'=some (PY (k:Int) L[k] s'):=XV L[k] (k:Int) s' (fun x hx=>by rw [e2.1]; exact PJ hL hall hgm x hx) (by have:=Q5 hL hall hgm; omega)
    obtain ⟨t,t1,t2⟩:=ih (k + 1) fu (PY (k:Int) L[k] s') (by omega) (by omega) (by rw [if_neg (by omega)]; exact UM hs hL e2 hgk (PJ hL hall hgm))
    refine ⟨t,?_,t2⟩
    unfold DH
    rw [if_pos (by rw [Hr]; simp; omega),Tx L k hkl,OS,e1,OS,e3,OS,Pt (by omega) (by omega),show ((k:Int) + 1)=((k + 1:Nat):Int) by omega]
    exact t1
  exact go L.length 0 100000 [] (by omega) (by omega) rfl
end
/-- A line out of groups of one. -/
def lnE (L:List (List Nat)):Bool:=L.all fun gr=>gr.length==1
theorem Xq (L:List (List Nat)) (hne:∀ gr ∈ L,gr≠[]) (hl:L.length<=1000) (hf:L.flatten.length<=1000):Gs (toI L)=some (if lnE L=true then (toG L.flatten,0) else ([],32)):=by
 have go:∀ (r pre:List (List Nat)) (fu:Nat),L=pre++r->r.length < fu->D5 (toI L) fu (pre.length:Int) (toG pre.flatten)=some (if lnE r=true then .inl (toG L.flatten) else .inr ()):=by
  intro r
  induction r with
  | nil =>
   intro pre fu e hfu
   obtain ⟨fu,rfl⟩:∃ q,fu=q + 1:=⟨fu - 1,by simp at hfu; omega⟩
   unfold D5
   rw [if_neg (by rw [e,Hr]; simp),e]; simp [lnE]
  | cons gr r ih =>
   intro pre fu e hfu
   obtain ⟨fu,rfl⟩:∃ q,fu=q + 1:=⟨fu - 1,by simp at hfu; omega⟩
   simp only [List.length_cons] at hfu
   have hlen:L.length=pre.length + r.length + 1:=by rw [e]; simp; omega
   have hi:idx (toI L) (pre.length:Int)=some (toG gr):=by
    rw [Tx L pre.length (by omega)]
    have:L[pre.length]'(by omega)=gr:=by simp [e]
    rw [this]
   have hgr:=List.length_pos_iff.2 (hne gr (by rw [e]; simp))
   have hfl:L.flatten.length=pre.flatten.length + (gr.length + r.flatten.length):=by rw [e]; simp only [List.flatten_append,List.flatten_cons,List.length_append]
   unfold D5
   rw [if_pos (by rw [Hr]; simp; omega),hi,OS]
   by_cases h1:gr.length=1
   ·rw [if_neg (by rw [Fb]; simp; omega),if_pos (Hv (by omega) (by rw [Fb,Fb]; omega)),Pt (by omega) (by omega),show ((pre.length:Int) + 1)=(((pre++[gr]).length:Nat):Int) by simp,<-Tw]
    have e2:pre.flatten++gr=(pre++[gr]).flatten:=by simp
    rw [e2,ih (pre++[gr]) fu (by rw [e]; simp) (by omega)]
    have:lnE (gr::r)=lnE r:=by simp [lnE,h1]
    rw [this]
   ·rw [if_pos (by rw [Fb]; simp; omega)]
    have:lnE (gr::r)=false:=by simp [lnE,h1]
    rw [this]; rfl
 have h:=go L [] 100000 rfl (by omega)
 have h':D5 (toI L) 100000 0 []=some (if lnE L=true then .inl (toG L.flatten) else .inr ()):=h
 unfold Gs
 rw [h']
 cases lnE L <;> rfl
theorem Vh:((List.range 256).all fun n=>decide (0<=Dt .u8 ((n:Int).fdiv 8) 3)&&decide (Dt .u8 ((n:Int).fdiv 8) 3 < 4)&&(decide (0<=Dt .u8 ((n:Int).fdiv 16) 3)&&decide (Dt .u8 ((n:Int).fdiv 16) 3 < 4)))=true:=by kernel_rfl
theorem YP {a:Int}(h:u8 a):(0<=Dt .u8 (a.fdiv 8) 3/\Dt .u8 (a.fdiv 8) 3 < 4)/\0<=Dt .u8 (a.fdiv 16) 3/\Dt .u8 (a.fdiv 16) 3 < 4:=by
 obtain ⟨n,rfl⟩:=Int.eq_ofNat_of_zero_le h.1
 have hn:n < 256:=by have:=h.2; omega
 have:=List.all_eq_true.1 Vh n (by simpa using hn)
 simp only [Bool.and_eq_true,decide_eq_true_eq] at this
 exact ⟨this.1,this.2⟩
theorem WC (x:Int×Int) (nm:List UInt8) (h1:u8 x.1):∃ r,Fe x nm=some r/\r.1=x.1/\r.2.1=x.2:=by
 obtain ⟨⟨a1,a2⟩,_⟩:=YP h1
 obtain ⟨d1,d2⟩:=W5 a1 a2
 unfold Fe
 by_cases hc:((Dt .u8 x.1 4)!=0)=true
 ·rw [if_pos hc,if_pos d1,if_pos d2]; exact ⟨_,rfl,rfl,rfl⟩
 ·rw [if_neg hc]; exact ⟨_,rfl,rfl,rfl⟩
theorem WD (r) (h2:u8 r.2.1):∃ r',Ff r=some r'/\r'.1=r.1/\r'.2.1=r.2.1:=by
 obtain ⟨⟨a1,a2⟩,_⟩:=YP h2
 obtain ⟨d1,d2⟩:=W5 a1 a2
 unfold Ff
 by_cases hc:((Dt .u8 r.2.1 4)!=0)=true
 ·rw [if_pos hc,if_pos d1,if_pos d2]; exact ⟨_,rfl,rfl,rfl⟩
 ·rw [if_neg hc]; exact ⟨_,rfl,rfl,rfl⟩
theorem WE (r) (h1:u8 r.1):∃ r',Fg r=some r'/\r'.1=r.1/\r'.2.1=r.2.1/\r'.2.2.2.2.2.2.2.2.2.2.2.2.2.2.2.2.2.2.length<=1:=by
 obtain ⟨_,a1,a2⟩:=YP h1
 obtain ⟨d1,d2⟩:=W5 a1 a2
 unfold Fg
 by_cases hc:((Dt .u8 r.2.1 64)!=0)=true
 ·rw [if_pos hc,if_pos d1,if_pos d2]; exact ⟨_,rfl,rfl,rfl,by simp⟩
 ·rw [if_neg hc]; exact ⟨_,rfl,rfl,rfl,by simp⟩
theorem WF (r) (h2:u8 r.2.1):∃ r',Fh r=some r'/\r'.2.2.2.2.2.2.2.2.2.2.2.2.2.2.2.2=r.2.2.2.2.2.2.2.2.2.2.2.2.2.2.2.2.2.2:=by
 obtain ⟨_,a1,a2⟩:=YP h2
 obtain ⟨d1,d2⟩:=W5 a1 a2
 unfold Fh
 by_cases hc:((Dt .u8 r.1 128)!=0)=true
 ·rw [if_pos hc,if_pos d1,if_pos d2]; exact ⟨_,rfl,rfl⟩
 ·rw [if_neg hc]; exact ⟨_,rfl,rfl⟩
theorem Uf (x:Int×Int) (nm:List UInt8) (h1:u8 x.1) (h2:u8 x.2):∃ g,Fv x nm=some g/\P8 g:=by
 obtain ⟨r1,e1,p1,q1⟩:=WC x nm h1
 obtain ⟨r2,e2,p2,q2⟩:=WD r1 (q1 ▸ h2)
 obtain ⟨r3,e3,p3,q3,t3⟩:=WE r2 (by rw [p2,p1]; exact h1)
 obtain ⟨r4,e4,t4⟩:=WF r3 (by rw [q3,q2,q1]; exact h2)
 refine ⟨r4.2.2.2.2.2.2.2.2,?_,?_⟩
 ·unfold Fv
  rw [e1,OS,e2,OS,e3,OS,e4]; rfl
 ·unfold P8
  rw [t4]; omega
theorem ok3 (a b:Int):okB ([103]++by8 [a,b])=true:=rfl
theorem QH (x0:List (Int×Int)) (n:Int) (ys:List (Int×Int)) (hys:((x0.take (mnI (x0.length:Int) n).toNat).drop (0:Int).toNat)=ys) (hb:∀ v ∈ ys,u8 v.1/\u8 v.2) (h20:ys.length<=20):∀ (r pre:List (Int×Int)) (c2:List A6) (f:Nat),ys=pre++r->r.length < f->c2.length=pre.length->(∀ g ∈ c2,P8 g) ->
  ∃ c,DL x0 n f c2 (pre.length:Int)=some c/\(∀ g ∈ c,P8 g)/\c.length=ys.length
 | [],pre,c2,f + 1,e,_,hl,hk=>by
  refine ⟨c2,?_,hk,by rw [hl,e]; simp⟩
  unfold DL
  rw [hys,if_neg (by rw [e]; simp)]
 | v::r,pre,c2,f + 1,e,hf,hl,hk=>by
  have hv:=hb v (by rw [e]; simp)
  have hl2:ys.length=pre.length + r.length + 1:=by rw [e]; simp; omega
  simp only [List.length_cons] at hf
  obtain ⟨g,hg,hgf⟩:=Uf (v.1,v.2) ([103]++(by8 [(wr .u8 (wr .i64 (97 + (wr .i64 ((pre.length:Int).tdiv 26))))),(wr .u8 (wr .i64 (97 + ((pre.length:Int).tmod 26))))])) hv.1 hv.2
  obtain ⟨c,q1,q2,q3⟩:=QH x0 n ys hys hb h20 r (pre++[v]) (c2++[g]) f (by rw [e]; simp) (by omega) (by simp [hl]) (fun y hy=>by
   rcases List.mem_append.1 hy with hy | hy
   ·exact hk y hy
   ·rw [List.mem_singleton.1 hy]; exact hgf)
  refine ⟨c,?_,q2,q3⟩
  rw [<-q1]
  conv=>lhs; unfold DL
  rw [hys,if_pos (by rw [e]; exact KF pre v r),show idx ys (pre.length:Int)=some v by rw [e,FM],OS,if_pos (ok3 _ _),hg,OS,if_pos (Hv (by omega) (by omega)),Ht pre v r (by rw [<-e]; omega)]
theorem TT (x0:List (Int×Int)) (n:Int) (h0:0<=n) (hn:n<=20) (hb:∀ v ∈ x0,u8 v.1/\u8 v.2):∃ c,FN x0 n=some c/\(∀ g ∈ c,P8 g)/\c.length<=20:=by
 have hm:0<=mnI (x0.length:Int) n/\mnI (x0.length:Int) n<=n/\mnI (x0.length:Int) n<=x0.length:=by
  unfold mnI
  split <;> omega
 have h8:((x0.take (mnI (x0.length:Int) n).toNat).drop (0:Int).toNat).length<=20:=by
  rw [List.length_drop,List.length_take]; omega
 obtain ⟨c,h1,h2,h3⟩:=QH x0 n _ rfl (fun v hv=>hb v (List.mem_of_mem_take (List.mem_of_mem_drop hv))) h8 _ [] [] 100000 rfl (Nat.lt_of_le_of_lt h8 (by decide)) rfl (fun g hg=>by simp at hg)
 refine ⟨c,?_,h2,by omega⟩
 unfold FN
 rw [if_pos (by unfold Do; simp; omega)]
 have e:DL x0 n 100000 [] 0=some c:=h1
 rw [e]; rfl
/- slices.Equal[[]int,int] -/
def bad (cl:List Int) (v:Int):Bool:=decide (v < 0)||decide (v≥(cl.length:Int))
theorem Yv (v:Int) (cl:List Int):Cc v cl=some (bad cl v):=by
 unfold Cc bad
 by_cases h:v < 0 <;> simp [h]
theorem Vj (cl od:List Int) (h:od.length<=99999):Ak od cl=some (od.any (bad cl)):=by
 unfold Ak Ax
 obtain ⟨n,h1,h2⟩:=Py od h (fun v=>Cc v cl) (bad cl) (fun x _=>Yv x cl) (A3 od cl) (fun f c=>rfl)
 rw [<-h2]
 exact (congrArg (fun o=>o.bind fun v1=>some (decide (v1≥0))) h1)
def vl (cl:List Int) (v:Int):Int:=cl.getD v.toNat 0
theorem VS {cl:List Int}{v:Int}(h:bad cl v=false):idx cl v=some (vl cl v):=by
 simp only [bad,Bool.or_eq_false_iff,decide_eq_false_iff_not] at h
 unfold idx vl
 rw [if_pos (by omega),List.getElem?_eq_getElem (by omega),List.getD_eq_getElem?_getD,List.getElem?_eq_getElem (by omega)]
 rfl
/-- How many stand behind x and below it. -/
def Md (x:Int) (r:List Int):Nat:=r.countP fun y=>decide (x > y)
def inv:List Int->Nat
 | []=>0
 | x::r=>Md x r + inv r
theorem UI (x:Int) (r:List Int):Md x r<=r.length:=List.countP_le_length
theorem Rw (y:Int):∀ (r:List Int),inv (r++[y])=inv r + r.countP fun x=>decide (x > y)
 | []=>by simp [inv,Md]
 | x::r=>by
  have ih:=Rw y r
  simp only [List.cons_append,inv,ih,List.countP_cons,Md,List.countP_append,List.countP_nil]
  omega
section
variable (cl od:List Int)
theorem PK (x:Int):∀ (q:List Int) (j n:Nat),n + q.length<=100000->goS (fun y _ (s:Int) (k:Int->Option Int)=>k (if decide (vl cl x > vl cl y)=true then wr .i64 (s + 1) else s)) (fun s=>some s) q j (n:Int)=some ((n + Md (vl cl x) (q.map (vl cl)):Nat):Int)
 | [],j,n,_=>by simp [goS,Md]
 | y::q,j,n,h=>by
  simp only [List.length_cons] at h
  unfold goS
  by_cases hc:vl cl x > vl cl y
  ·rw [if_pos (by simp [hc]),Pt (by omega) (by omega)]
   have:=PK x q (j + 1) (n + 1) (by omega)
   rw [show ((n:Int) + 1)=((n + 1:Nat):Int) by simp,this]
   simp [Md,hc]; omega
  ·rw [if_neg (by simpa using hc),PK x q (j + 1) n (by omega)]
   simp [Md,hc]
theorem WG (hod:od.length<=60) (hb:od.any (bad cl)=false) (i:Nat) (hi:i < 60) (x:Int) (hx:bad cl x=false) (n:Nat) (hn:n<=10000) :
  CJ cl od (i:Int) x 100000 (n:Int) 0=some ((n + Md (vl cl x) ((od.drop (i + 1)).map (vl cl)):Nat):Int):=by
 have ht:(od.take ((od.length:Int)).toNat).drop (wr .i64 ((i:Int) + 1)).toNat=od.drop (i + 1):=by
  rw [Pt (by omega) (by omega),show ((i:Int) + 1).toNat=i + 1 by omega,Int.toNat_natCast,List.take_length]
 have hrb:∀ y ∈ od.drop (i + 1),bad cl y=false:=fun y hy=>by
  have:=List.any_eq_false.1 hb y (List.mem_of_mem_drop hy)
  simpa using this
 have hlen:(od.drop (i + 1)).length<=60:=by simp; omega
 generalize od.drop (i + 1)=q at ht hrb hlen
 have e:=Xt q (fun f (s:Int) c=>CJ cl od (i:Int) x f s c) (fun y _ s k=>k (if decide (vl cl x > vl cl y)=true then wr .i64 (s + 1) else s)) (fun s=>some s) 100000 (n:Int) (by omega)
  (fun f pre v r s e=>by
   conv=>lhs; unfold CJ
   rw [ht,e,if_pos (KF pre v r),FM,OS,VS hx,OS,VS (hrb v (by rw [e]; simp)),OS,Ht pre v r (by rw [<-e]; omega)]
   unfold Em
   split <;> rfl)
  (fun f s=>by
   conv=>lhs; unfold CJ
   rw [ht,if_neg (by simp)])
 rw [e]
 exact PK cl x q 0 n (by omega)
theorem R9 (hod:od.length<=60) (hb:od.any (bad cl)=false):∀ (r pre:List Int) (f n:Nat),od=pre++r->r.length < f->n + r.length * 60<=10000->CA cl od f (n:Int) (pre.length:Int)=some ((n + inv (r.map (vl cl)):Nat):Int)
 | [],pre,f + 1,n,hx,_,_=>by
  unfold CA
  rw [if_neg (by rw [hx]; simp)]
  simp [inv]
 | x::r,pre,f + 1,n,hx,hf,hn=>by
  have hlen:od.length=pre.length + r.length + 1:=by rw [hx]; simp; omega
  simp only [List.length_cons] at hn hf
  have hbx:bad cl x=false:=by
   have:=List.any_eq_false.1 hb x (by rw [hx]; simp)
   simpa using this
  unfold CA
  rw [if_pos (by rw [hx]; exact KF pre x r)]
  conv=>lhs; arg 1; rw [hx,FM]
  rw [OS,if_pos (by
   unfold Do
   rw [Pt (by omega) (by omega)]
   simp; omega),WG cl od hod hb pre.length (by omega) x hbx n (by omega),OS]
  have hd:od.drop (pre.length + 1)=r:=by rw [hx]; simp
  rw [hd]
  have hbl:=UI (vl cl x) (r.map (vl cl))
  simp only [List.length_map] at hbl
  have:=R9 hod hb r (pre++[x]) f (n + Md (vl cl x) (r.map (vl cl))) (by rw [hx]; simp) (by omega) (by omega)
  rw [show wr .i64 ((pre.length:Int) + 1)=((pre++[x]).length:Int) from Ht pre x r (by rw [<-hx]; omega),this]
  simp [inv]; omega
theorem TC (hod:od.length<=60):Cu cl od=some (if od.any (bad cl)=true then 0 else ((inv (od.map (vl cl)):Nat):Int)):=by
 unfold Cu
 rw [Vj cl od (by omega),OS]
 split
 ·rfl
 ·next h =>
  have hb:od.any (bad cl)=false:=by simpa using h
  have:=R9 cl od hod hb od [] 100000 0 rfl (by omega) (by omega)
  have e0:CA cl od 100000 ((0:Nat):Int) (([]:List Int).length:Int)=CA cl od 100000 0 0:=rfl
  rw [<-e0,this,OS]
  simp
end
end Go.Proofs.YtlalcoehgkmhlaaGreatDoor
