/- Lemmas for the proof. -/
import Derived.Test.YtlalcoehgkmhlaaGreatDoorCourtParetoM1
import Derived.Test.YtlalcoehgkmhlaaGreatDoorCourtParetoM2
import Derived.Test.YtlalcoehgkmhlaaGreatDoorCourtParetoM3
import Derived.Test.YtlalcoehgkmhlaaGreatDoorCourtParetoM4
import Derived.RecoverIn
import Derived.Shelf.Strings.Search1
import Derived.Shelf.Strings.Count
set_option maxHeartbeats 4000000
set_option maxRecDepth 100000
namespace Go.Proofs.YtlalcoehgkmhlaaGreatDoor
open Go.RowKit
/- slices.IndexFunc[[]string,string] -/
noncomputable def BS:Code:=Br Tryz.f90
def Ao (x0:(List (List UInt8))) (x1:AE):Nat->Int->Option ((Unit) ⊕ (Int))
 | 0,_=>none
 | f + 1,c1 =>
  if (decide (c1 < (x0.length:Int)))=true then
  (idx x0 c1).bind fun v3 =>
  (Dk v3 x1).bind fun v4 =>
  if v4=true then
  some (.inr c1)
  else
  Ao x0 x1 f (wr .i64 (c1 + 1))
  else
  some (.inl ())
def Ak (x0:(List (List UInt8))) (x1:AE):Option (Int) :=
 (Ao x0 x1 100000 0).bind fun r7 =>
 match r7 with
 | (.inl _w8) =>
  some (-1)
 | (.inr w9) =>
  some w9
def BT:Cs ((List (List UInt8))×AE×Unit):=(csC (cdL 1 cdS) (csC (cdF 185 (csE (cdP AA)) (fun _=>rfl)) csN))
def BU (r:Int):AV:=cdI.enc r
theorem CA (x0:(List (List UInt8))) (x1:AE):∀ (f:Nat) (c1:Int) (r:(Unit) ⊕ (Int)),Ao x0 x1 f c1=some r->SemN E0 ⟨none,false⟩ (pc BS [1,0,1,0,0]) f ⟨Fr 19 [(0,.sl 1 (x0.map cdS.enc)),(1,.fn 185 [] [.pe (AA.enc x1) 0]),(7,.v (.int .i64 (x0.length:Int))),(8,.v (.int .i64 c1))],[]⟩ (fun e s=>match r with
 | (.inl _w)=>e=(.exit 0)/\Wk E0 s ⟨Fr 19 [],[]⟩
 | (.inr w)=>e = .ret/\Wk E0 s ⟨Fr 19 [(4,.v (.int .i64 w))],[]⟩):=by
 intro f;induction f with
 | zero=>intro c1 r h; cases h
 | succ f ih0 =>
  intro c1 r h
  have ih:=fun (c1:Int)=>ih0 c1 r
  unfold Ao at h;refine Bw ?_
  let p1:Nat×AV:=(8,.v (.int .i64 c1))
  let p2:Nat×AV:=(7,.v (.int .i64 (x0.length:Int)))
  let p3:Nat×AV:=(1,.fn 185 [] [.pe (AA.enc x1) 0])
  let p4:Nat×AV:=(0,.sl 1 (x0.map cdS.enc))
  refine AJ AC [p4,p3,p2,p1,(9,.v (.bool (decide (c1 < (x0.length:Int)))))] [] ?_;refine AH ?_;refine AM (b:=(decide (c1 < (x0.length:Int)))) kr (fun hb2=>?_) (fun hb2=>?_)
  ·rw [if_pos hb2] at h
   refine AQ ?_;refine AH ?_;refine Af ?_
   let p5:Nat×AV:=(5,.v (.int .i64 c1))
   refine AJ AC [p4,p3,p5,p2,p1] [] ?_;refine AH ?_;obtain ⟨v3,hv3,h⟩:=OB h;obtain ⟨v4,hv4,h⟩:=OB h;refine AI (s1:=⟨Fr 19 [p4,p3,p5,p2,p1,(16,.v (.bool v4))],[]⟩) ?_ ?_
   ·let p6:Nat×AV:=(11,.fn 185 [] [.pe (AA.enc x1) 0])
    refine AD (n:=19) AC 3 [p4,p3,p5,p2,p1,p6,(12,.sl 1 (x0.map cdS.enc)),(13,.v (.int .i64 c1))] [] kr ?_;refine AK AC 0 rfl (Ci (AB rfl) rfl (AS (a:= .sl 1 (x0.map cdS.enc)) (b:= .v (.int .i64 c1)) kr kr (FM (e:=cdS.enc) (el:=9) (k:=1) (ki:= .i64) kr kr hv3))) ?_;refine AD (n:=19) AC 1 [p4,p3,p5,p2,p1,p6,(15,.st v3)] [] kr ?_;refine Ac (caps:=[.pe (AA.enc x1) 0]) (xs:=[.st v3]) (u:=(v3,x1,())) rfl rfl MF rfl (AB rfl) kr kr (AP (Ab (c:=cdS) (v:=v3)) (AP (Ab (c:=(cdP AA)) (v:=x1)) BJ)) (.inl kr) hv4 ?_;exact AL rfl AN
   refine AM (b:=v4) kr (fun hb5=>?_) (fun hb5=>?_)
   ·rw [if_pos hb5] at h
    refine AJ AC [(4,.v (.int .i64 c1))] [] ?_;refine AU ?_;have hq:=OI h; subst hq;exact ⟨rfl,AN⟩
   ·rw [CL hb5] at h
    refine AQ ?_
    let p7:Nat×AV:=(8,.v (.int .i64 (wr .i64 (c1 + 1))))
    refine Cy AC [p4,p3,p2,p7] [] ?_;exact As (s1:=⟨Fr 19 [p4,p3,p2,p7],[]⟩) AN (ih (wr .i64 (c1 + 1)) h)
  ·rw [CL hb2] at h
   refine CO ?_;have hq:=OI h; subst hq;exact ⟨rfl,AN⟩
theorem Dl (x0:(List (List UInt8))) (x1:AE) (r:Int) (h:Ak x0 x1=some r):Sem E0 ⟨none,false⟩ BS ⟨Fr 19 (BP 0 (BT.enc (x0,x1,()))),[]⟩ fun e s'=>(e = .normal\/e = .ret)/\∃ xs,Em E0.P s'.fr s'.hp Tryz.f90.results.toList=some xs/\Ev xs=BU r:=by
 unfold Ak at h
 let p1:Nat×AV:=(1,.fn 185 [] [.pe (AA.enc x1) 0])
 let p2:Nat×AV:=(0,.sl 1 (x0.map cdS.enc))
 refine A8 (Bv (s1:=⟨Fr 19 [p2,p1],[]⟩) AN ?_);refine AJ AC [p2,p1] [] ?_;refine AH ?_;refine AH ?_
 let p3:Nat×AV:=(8,.v (.int .i64 0))
 let p4:Nat×AV:=(7,.v (.int .i64 (x0.length:Int)))
 refine AI (s1:=⟨Fr 19 [p2,p1,p4,p3],[]⟩) ?_ ?_
 ·refine AD (n:=19) AC 1 [p2,p1,(6,.sl 1 (x0.map cdS.enc))] [] kr ?_
  refine AK AC 0 rfl (Ci (AB rfl) rfl (DY (a:= .sl 1 (x0.map cdS.enc)) kr (CB (el:=9) kr))) ?_;exact AO AC
 refine Af ?_;obtain ⟨r7,hr7,h⟩:=OB h;refine CV (n:=100000) ?_;rcases r7 with w8 | w9
 ·try dsimp only at h
  refine BK (As (s1:=⟨Fr 19 [p2,p1,p4,p3],[]⟩) AN (CA x0 x1 _ 0 _ hr7)) ?_;refine AJ AC [(4,.v (.int .i64 (-1)))] [] ?_;refine AU ?_;have hq:=OI h; subst hq;exact ⟨⟨Fr 19 [(4,.v (.int .i64 (-1)))],[]⟩,AN,.inr rfl,[.v (.int .i64 (-1))],kr,kr⟩
 ·try dsimp only at h
  refine BK (As (s1:=⟨Fr 19 [p2,p1,p4,p3],[]⟩) AN (CA x0 x1 _ 0 _ hr7)) ?_;have hq:=OI h; subst hq;exact ⟨⟨Fr 19 [(4,.v (.int .i64 w9))],[]⟩,AN,.inr rfl,[.v (.int .i64 w9)],kr,kr⟩
def Dx:List AV->Option AV:=D4 BT (fun a=>Ak a.1 a.2.1) BU
theorem Dy:XOk 90 Dx:=by
 refine AW Tryz.func90 (c:=BS) ?h2 ⟨Tryz.call90⟩ BT (fun a=>Ak a.1 a.2.1) BU (fun a=>(by show 2<=19; decide)) ?h3 ?h4
 case h2=>kernel_rfl
 case h3=>intro b; kernel_rfl
 case h4=>exact fun a b h=>Dl a.1 a.2.1 b h
/- slices.ContainsFunc[[]string,string] -/
noncomputable def B9:Code:=Br Tryz.f36
def AX (x0:(List (List UInt8))) (x1:AE):Option (Bool) :=
 (Ak x0 x1).bind fun v1 =>
 some (decide (v1≥0))
def BL:Cs ((List (List UInt8))×AE×Unit):=(csC (cdL 1 cdS) (csC (cdF 185 (csE (cdP AA)) (fun _=>rfl)) csN))
def BM (r:Bool):AV:=cdB.enc r
theorem DV (x0:(List (List UInt8))) (x1:AE) (r:Bool) (h:AX x0 x1=some r):Sem E0 ⟨none,false⟩ B9 ⟨Fr 9 (BP 0 (BL.enc (x0,x1,()))),[]⟩ fun e s'=>(e = .normal\/e = .ret)/\∃ xs,Em E0.P s'.fr s'.hp Tryz.f36.results.toList=some xs/\Ev xs=BM r:=by
 unfold AX at h
 let p1:Nat×AV:=(1,.fn 185 [] [.pe (AA.enc x1) 0])
 refine A8 (Bv (s1:=⟨Fr 9 [(0,.sl 1 (x0.map cdS.enc)),p1],[]⟩) AN ?_);refine AJ AC [(0,.sl 1 (x0.map cdS.enc)),p1] [] ?_;refine AH ?_;obtain ⟨v1,hv1,h⟩:=OB h
 let p2:Nat×AV:=(4,.v (.bool (decide (v1≥0))))
 refine AI (s1:=⟨Fr 9 [p2],[]⟩) ?_ ?_
 ·refine AD (n:=9) AC 2 [(5,.sl 1 (x0.map cdS.enc)),(6,.fn 185 [] [.pe (AA.enc x1) 0])] [] kr ?_
  refine Ac (caps:=[]) (xs:=[.sl 1 (x0.map cdS.enc),.fn 185 [] [.pe (AA.enc x1) 0]]) (u:=(x0,x1,())) rfl rfl Dy rfl (AB rfl) kr kr (AP (Ab (c:=(cdL 1 cdS)) (v:=x0)) (AP (Sm.fn (Ou (Ab (c:=(cdP AA)) (v:=x1)))) BJ)) (.inl kr) hv1 ?_;exact AO AC
 refine AU ?_;have hq:=OI h; subst hq;exact ⟨⟨Fr 9 [p2],[]⟩,AN,.inr rfl,[.v (.bool (decide (v1≥0)))],kr,kr⟩
def Dg:List AV->Option AV:=D4 BL (fun a=>AX a.1 a.2.1) BM
theorem Dh:XOk 36 Dg:=by
 refine AW Tryz.func36 (c:=B9) ?h2 ⟨Tryz.call36⟩ BL (fun a=>AX a.1 a.2.1) BM (fun a=>(by show 2<=9; decide)) ?h3 ?h4
 case h2=>kernel_rfl
 case h3=>intro b; kernel_rfl
 case h4=>exact fun a b h=>DV a.1 a.2.1 b h
/- trestle/court.plain$5 -/
noncomputable def JU:Code:=Br Tryz.f184
def FA (x0:Ai) (x1:AE):Option (Bool) :=
 (AX x0.1.2.2.2.2.2.2.2.2 x1).bind fun v1 =>
 some v1
def HG:Cs (Ai×AE×Unit):=(csC AF (csC (cdP AA) csN))
def HW (r:Bool):AV:=cdB.enc r
theorem Lf (x0:Ai) (x1:AE) (r:Bool) (h:FA x0 x1=some r):Sem E0 ⟨none,false⟩ JU ⟨Fr 9 (BP 0 (HG.enc (x0,x1,()))),[]⟩ fun e s'=>(e = .normal\/e = .ret)/\∃ xs,Em E0.P s'.fr s'.hp Tryz.f184.results.toList=some xs/\Ev xs=HW r:=by
 unfold FA at h;refine A8 (Bv (s1:=⟨Fr 9 [(0,AF.enc x0),(1,.pe (AA.enc x1) 0)],[]⟩) AN ?_)
 let p1:Option Blk:=some ⟨10,115,[AF.enc x0],false⟩
 refine AJ AC [(1,.pe (AA.enc x1) 0),(2,.pt 0 0 0)] [p1] ?_;refine AH ?_;obtain ⟨v1,hv1,h⟩:=OB h
 let p2:Nat×AV:=(3,.v (.bool v1))
 refine AI (s1:=⟨Fr 9 [p2],[]⟩) ?_ ?_
 ·refine AD (n:=9) AC 4 [(6,.sl 1 (x0.1.2.2.2.2.2.2.2.2.map cdS.enc)),(7,.fn 185 [] [.pe (AA.enc x1) 0])] [p1] kr ?_
  refine Ac (caps:=[]) (xs:=[.sl 1 (x0.1.2.2.2.2.2.2.2.2.map cdS.enc),.fn 185 [] [.pe (AA.enc x1) 0]]) (u:=(x0.1.2.2.2.2.2.2.2.2,x1,())) rfl rfl Dh rfl (AB rfl) kr kr (AP (Ab (c:=(cdL 1 cdS)) (v:=x0.1.2.2.2.2.2.2.2.2)) (AP (Sm.fn (Ou (Ab (c:=(cdP AA)) (v:=x1)))) BJ)) (.inl kr) hv1 ?_;refine AD (n:=9) AC 1 [p2] [p1] kr ?_;exact AL rfl (AY [] trivial ⟨lv,trivial⟩)
 refine AU ?_;have hq:=OI h; subst hq;exact ⟨⟨Fr 9 [p2],[]⟩,AN,.inr rfl,[.v (.bool v1)],kr,kr⟩
def Ng:List AV->Option AV:=D4 HG (fun a=>FA a.1 a.2.1) HW
theorem Ny:XOk 184 Ng:=by
 refine AW Tryz.func184 (c:=JU) ?h2 ⟨Tryz.call184⟩ HG (fun a=>FA a.1 a.2.1) HW (fun a=>(by show 2<=9; decide)) ?h3 ?h4
 case h2=>kernel_rfl
 case h3=>intro b; kernel_rfl
 case h4=>exact fun a b h=>Lf a.1 a.2.1 b h
/- trestle/court.named$1 -/
noncomputable def EK:Code:=Br Tryz.f206
def Ay (x0:Ai) (x1:AE) (x2:AE):Option (Int) :=
 (FA x0 x1).bind fun v1 =>
 if (!(v1==x2.2.2.1))=true then
 some 0
 else
 some 1
def C4:Cs (Ai×AE×AE×Unit):=(csC AF (csC (cdP (cdF 184 (csE (cdP AA)) (fun _=>rfl))) (csC (cdP AA) csN)))
def C8 (r:Int):AV:=cdI.enc r
theorem GW (x0:Ai) (x1:AE) (x2:AE) (r:Int) (h:Ay x0 x1 x2=some r):Sem E0 ⟨none,false⟩ EK ⟨Fr 11 (BP 0 (C4.enc (x0,x1,x2,()))),[]⟩ fun e s'=>(e = .normal\/e = .ret)/\∃ xs,Em E0.P s'.fr s'.hp Tryz.f206.results.toList=some xs/\Ev xs=C8 r:=by
 unfold Ay at h
 let p1:Nat×AV:=(2,.pe (AA.enc x2) 0)
 let p2:Nat×AV:=(1,.pe (.fn 184 [] [.pe (AA.enc x1) 0]) 0)
 refine A8 (Bv (s1:=⟨Fr 11 [(0,AF.enc x0),p2,p1],[]⟩) AN ?_)
 let p3:Option Blk:=some ⟨10,115,[AF.enc x0],false⟩
 refine AJ AC [p2,p1,(3,.pt 0 0 0)] [p3] ?_;refine AH ?_;refine AH ?_;obtain ⟨v1,hv1,h⟩:=OB h
 let p4:Nat×AV:=(10,.v (.bool (!(v1==x2.2.2.1))))
 refine EH AC (s1:=⟨Fr 11 [p4],[]⟩) kr ?_ ?_
 ·refine Ap (n:=11) AC 2 [p1,(5,.fn 184 [] [.pe (AA.enc x1) 0]),(6,AF.enc x0)] [p3] kr kr ?_
  refine Bo (caps:=[.pe (AA.enc x1) 0]) (xs:=[AF.enc x0]) (u:=(x0,x1,())) rfl rfl Ny rfl (AB rfl) kr kr (AP (Ab (c:=AF) (v:=x0)) (AP (Ab (c:=(cdP AA)) (v:=x1)) BJ)) kr hv1 ?_;refine Ap (n:=11) AC 3 [p4] [p3] kr kr ?_;exact RunDS.done rfl (AY [] trivial ⟨lv,trivial⟩)
 refine AM (b:=(!(v1==x2.2.2.1))) kr (fun hb2=>?_) (fun hb2=>?_)
 ·rw [if_pos hb2] at h
  refine AJ AC [(4,.v (.int .i64 0))] [] ?_;refine AU ?_;have hq:=OI h; subst hq;exact ⟨⟨Fr 11 [(4,.v (.int .i64 0))],[]⟩,AN,.inr rfl,[.v (.int .i64 0)],kr,kr⟩
 ·rw [CL hb2] at h
  refine AQ ?_;refine AJ AC [(4,.v (.int .i64 1))] [] ?_;refine AU ?_;have hq:=OI h; subst hq;exact ⟨⟨Fr 11 [(4,.v (.int .i64 1))],[]⟩,AN,.inr rfl,[.v (.int .i64 1)],kr,kr⟩
def Gw:List AV->Option AV:=D4 C4 (fun a=>Ay a.1 a.2.1 a.2.2.1) C8
theorem G4:XOk 206 Gw:=by
 refine AW Tryz.func206 (c:=EK) ?h2 ⟨Tryz.call206⟩ C4 (fun a=>Ay a.1 a.2.1 a.2.2.1) C8 (fun a=>(by show 3<=11; decide)) ?h3 ?h4
 case h2=>kernel_rfl
 case h3=>intro b; kernel_rfl
 case h4=>exact fun a b h=>GW a.1 a.2.1 a.2.2.1 b h
/- trestle/court.plain$6 -/
noncomputable def JV:Code:=Br Tryz.f186
def FB (x0:Ai) (x1:AE):Option (Bool) :=
 (An x1.2.2.2.1 x0.1.2.2.1).bind fun v1 =>
 some v1
def HH:Cs (Ai×AE×Unit):=(csC AF (csC (cdP AA) csN))
def HX (r:Bool):AV:=cdB.enc r
theorem Lg (x0:Ai) (x1:AE) (r:Bool) (h:FB x0 x1=some r):Sem E0 ⟨none,false⟩ JV ⟨Fr 10 (BP 0 (HH.enc (x0,x1,()))),[]⟩ fun e s'=>(e = .normal\/e = .ret)/\∃ xs,Em E0.P s'.fr s'.hp Tryz.f186.results.toList=some xs/\Ev xs=HX r:=by
 unfold FB at h;refine A8 (Bv (s1:=⟨Fr 10 [(0,AF.enc x0),(1,.pe (AA.enc x1) 0)],[]⟩) AN ?_)
 let p1:Option Blk:=some ⟨10,115,[AF.enc x0],false⟩
 refine AJ AC [(1,.pe (AA.enc x1) 0),(2,.pt 0 0 0)] [p1] ?_;refine AH ?_;obtain ⟨v1,hv1,h⟩:=OB h
 let p2:Nat×AV:=(3,.v (.bool v1))
 refine AI (s1:=⟨Fr 10 [p2],[]⟩) ?_ ?_
 ·refine AD (n:=10) AC 5 [(5,.sl 1 (x1.2.2.2.1.map cdS.enc)),(8,.st x0.1.2.2.1)] [p1] kr ?_
  refine Ac (caps:=[]) (xs:=[.sl 1 (x1.2.2.2.1.map cdS.enc),.st x0.1.2.2.1]) (u:=(x1.2.2.2.1,x0.1.2.2.1,())) rfl rfl CQ rfl (AB rfl) kr kr (AP (Ab (c:=(cdL 1 cdS)) (v:=x1.2.2.2.1)) (AP (Ab (c:=cdS) (v:=x0.1.2.2.1)) BJ)) (.inl kr) hv1 ?_;refine AD (n:=10) AC 1 [p2] [p1] kr ?_;exact AL rfl (AY [] trivial ⟨lv,trivial⟩)
 refine AU ?_;have hq:=OI h; subst hq;exact ⟨⟨Fr 10 [p2],[]⟩,AN,.inr rfl,[.v (.bool v1)],kr,kr⟩
def Nh:List AV->Option AV:=D4 HH (fun a=>FB a.1 a.2.1) HX
theorem Nz:XOk 186 Nh:=by
 refine AW Tryz.func186 (c:=JV) ?h2 ⟨Tryz.call186⟩ HH (fun a=>FB a.1 a.2.1) HX (fun a=>(by show 2<=10; decide)) ?h3 ?h4
 case h2=>kernel_rfl
 case h3=>intro b; kernel_rfl
 case h4=>exact fun a b h=>Lg a.1 a.2.1 b h
/- trestle/court.named$1 -/
noncomputable def EL:Code:=Br Tryz.f206
def Az (x0:Ai) (x1:AE) (x2:AE):Option (Int) :=
 (FB x0 x1).bind fun v1 =>
 if (!(v1==x2.2.2.1))=true then
 some 0
 else
 some 1
def C5:Cs (Ai×AE×AE×Unit):=(csC AF (csC (cdP (cdF 186 (csE (cdP AA)) (fun _=>rfl))) (csC (cdP AA) csN)))
def C9 (r:Int):AV:=cdI.enc r
theorem GX (x0:Ai) (x1:AE) (x2:AE) (r:Int) (h:Az x0 x1 x2=some r):Sem E0 ⟨none,false⟩ EL ⟨Fr 11 (BP 0 (C5.enc (x0,x1,x2,()))),[]⟩ fun e s'=>(e = .normal\/e = .ret)/\∃ xs,Em E0.P s'.fr s'.hp Tryz.f206.results.toList=some xs/\Ev xs=C9 r:=by
 unfold Az at h
 let p1:Nat×AV:=(2,.pe (AA.enc x2) 0)
 let p2:Nat×AV:=(1,.pe (.fn 186 [] [.pe (AA.enc x1) 0]) 0)
 refine A8 (Bv (s1:=⟨Fr 11 [(0,AF.enc x0),p2,p1],[]⟩) AN ?_)
 let p3:Option Blk:=some ⟨10,115,[AF.enc x0],false⟩
 refine AJ AC [p2,p1,(3,.pt 0 0 0)] [p3] ?_;refine AH ?_;refine AH ?_;obtain ⟨v1,hv1,h⟩:=OB h
 let p4:Nat×AV:=(10,.v (.bool (!(v1==x2.2.2.1))))
 refine EH AC (s1:=⟨Fr 11 [p4],[]⟩) kr ?_ ?_
 ·refine Ap (n:=11) AC 2 [p1,(5,.fn 186 [] [.pe (AA.enc x1) 0]),(6,AF.enc x0)] [p3] kr kr ?_
  refine Bo (caps:=[.pe (AA.enc x1) 0]) (xs:=[AF.enc x0]) (u:=(x0,x1,())) rfl rfl Nz rfl (AB rfl) kr kr (AP (Ab (c:=AF) (v:=x0)) (AP (Ab (c:=(cdP AA)) (v:=x1)) BJ)) kr hv1 ?_;refine Ap (n:=11) AC 3 [p4] [p3] kr kr ?_;exact RunDS.done rfl (AY [] trivial ⟨lv,trivial⟩)
 refine AM (b:=(!(v1==x2.2.2.1))) kr (fun hb2=>?_) (fun hb2=>?_)
 ·rw [if_pos hb2] at h
  refine AJ AC [(4,.v (.int .i64 0))] [] ?_;refine AU ?_;have hq:=OI h; subst hq;exact ⟨⟨Fr 11 [(4,.v (.int .i64 0))],[]⟩,AN,.inr rfl,[.v (.int .i64 0)],kr,kr⟩
 ·rw [CL hb2] at h
  refine AQ ?_;refine AJ AC [(4,.v (.int .i64 1))] [] ?_;refine AU ?_;have hq:=OI h; subst hq;exact ⟨⟨Fr 11 [(4,.v (.int .i64 1))],[]⟩,AN,.inr rfl,[.v (.int .i64 1)],kr,kr⟩
def Gx:List AV->Option AV:=D4 C5 (fun a=>Az a.1 a.2.1 a.2.2.1) C9
theorem G5:XOk 206 Gx:=by
 refine AW Tryz.func206 (c:=EL) ?h2 ⟨Tryz.call206⟩ C5 (fun a=>Az a.1 a.2.1 a.2.2.1) C9 (fun a=>(by show 3<=11; decide)) ?h3 ?h4
 case h2=>kernel_rfl
 case h3=>intro b; kernel_rfl
 case h4=>exact fun a b h=>GX a.1 a.2.1 a.2.2.1 b h
/- trestle/court.placed$1 -/
noncomputable def Ii:Code:=Br Tryz.f208
def CK (x0:Int):Option (Bool) :=
 (if (decide (x0≥0))=true then some (decide (x0<=63)) else some false).bind fun j2 =>
 some j2
def Gi:Cs (Int×Unit):=(csC cdI csN)
def Gj (r:Bool):AV:=cdB.enc r
theorem K9 (x0:Int) (r:Bool) (h:CK x0=some r):Sem E0 ⟨none,false⟩ Ii ⟨Fr 9 (BP 0 (Gi.enc (x0,()))),[]⟩ fun e s'=>(e = .normal\/e = .ret)/\∃ xs,Em E0.P s'.fr s'.hp Tryz.f208.results.toList=some xs/\Ev xs=Gj r:=by
 unfold CK at h;refine A8 (Bv (s1:=⟨Fr 9 [(0,.v (.int .i64 x0))],[]⟩) AN ?_);refine AJ AC [(0,.v (.int .i64 x0))] [] ?_;refine AH ?_;obtain ⟨j2,hj2,h⟩:=OB h;refine AI (s1:=⟨Fr 9 [(2,.v (.bool j2))],[]⟩) ?_ ?_
 ·refine AD (n:=9) AC 3 [(0,.v (.int .i64 x0)),(5,.v (.bool (decide (x0≥0))))] [] kr ?_
  rcases BE (decide (x0≥0)) with hc3 | hc3
  ·rw [if_pos hc3] at hj2
   rw [hc3];refine AD (n:=9) AC 4 [(2,.v (.bool (decide (x0<=63))))] [] kr ?_;have hq:=OI hj2; subst hq;exact AL rfl AN
  ·rw [CL hc3] at hj2
   rw [hc3];refine AD (n:=9) AC 4 [(2,.v (.bool false))] [] kr ?_;have hq:=OI hj2; subst hq;exact AL rfl AN
 refine AU ?_;have hq:=OI h; subst hq;exact ⟨⟨Fr 9 [(2,.v (.bool j2))],[]⟩,AN,.inr rfl,[.v (.bool j2)],kr,kr⟩
def Mc:List AV->Option AV:=D4 Gi (fun a=>CK a.1) Gj
theorem FV:XOk 208 Mc:=by
 refine AW Tryz.func208 (c:=Ii) ?h2 ⟨Tryz.call208⟩ Gi (fun a=>CK a.1) Gj (fun a=>(by show 1<=9; decide)) ?h3 ?h4
 case h2=>kernel_rfl
 case h3=>intro b; kernel_rfl
 case h4=>exact fun a b h=>K9 a.1 b h
/- trestle/court.plain$8 -/
noncomputable def JX:Code:=Br Tryz.f190
def DX (x0:Int) (x1:AE):Option (Int) :=
 some ((wr .i64 ((wr .i64 (x0 * (wr .i64 ((wr .i64 (2 * x1.2.2.2.2)) + 1)))) + x1.2.2.2.2)).tmod 64)
def HJ:Cs (Int×AE×Unit):=(csC cdI (csC (cdP AA) csN))
def HZ (r:Int):AV:=cdI.enc r
theorem Li (x0:Int) (x1:AE) (r:Int) (h:DX x0 x1=some r):Sem E0 ⟨none,false⟩ JX ⟨Fr 14 (BP 0 (HJ.enc (x0,x1,()))),[]⟩ fun e s'=>(e = .normal\/e = .ret)/\∃ xs,Em E0.P s'.fr s'.hp Tryz.f190.results.toList=some xs/\Ev xs=HZ r:=by
 unfold DX at h;refine A8 (Bv (s1:=⟨Fr 14 [(0,.v (.int .i64 x0)),(1,.pe (AA.enc x1) 0)],[]⟩) AN ?_);refine AJ AC [(0,.v (.int .i64 x0)),(1,.pe (AA.enc x1) 0)] [] ?_
 let p1:Nat×AV:=(3,.v (.int .i64 ((wr .i64 ((wr .i64 (x0 * (wr .i64 ((wr .i64 (2 * x1.2.2.2.2)) + 1)))) + x1.2.2.2.2)).tmod 64)))
 refine AJ AC [p1] [] ?_;refine AU ?_;have hq:=OI h; subst hq;exact ⟨⟨Fr 14 [p1],[]⟩,AN,.inr rfl,[.v (.int .i64 ((wr .i64 ((wr .i64 (x0 * (wr .i64 ((wr .i64 (2 * x1.2.2.2.2)) + 1)))) + x1.2.2.2.2)).tmod 64))],kr,kr⟩
def Nj:List AV->Option AV:=D4 HJ (fun a=>DX a.1 a.2.1) HZ
theorem KF:XOk 190 Nj:=by
 refine AW Tryz.func190 (c:=JX) ?h2 ⟨Tryz.call190⟩ HJ (fun a=>DX a.1 a.2.1) HZ (fun a=>(by show 2<=14; decide)) ?h3 ?h4
 case h2=>kernel_rfl
 case h3=>intro b; kernel_rfl
 case h4=>exact fun a b h=>Li a.1 a.2.1 b h
/- trestle/court.placed$2 -/
noncomputable def CW:Code:=Br Tryz.f209
def Ad (x0:Ai) (x1:Ai) (x3:AE):Option (Int) :=
 (CK x0.2).bind fun v1 =>
 (if (!v1)=true then some true else (CK x1.2).bind fun v2 =>
 some (!v2)).bind fun j4 =>
 if j4=true then
 some 0
 else
 (DX x0.2 x3).bind fun v6 =>
 (DX x1.2 x3).bind fun v7 =>
 (Bq v6 v7).bind fun v8 =>
 some v8
def Bd:Cs (Ai×Ai×Unit×AE×Unit):=(csC AF (csC AF (csC (cdP (cdF 208 csN (fun _=>rfl))) (csC (cdP (cdF 190 (csE (cdP AA)) (fun _=>rfl))) csN))))
def Bg (r:Int):AV:=cdI.enc r
theorem Dr (x0:Ai) (x1:Ai) (x3:AE) (r:Int) (h:Ad x0 x1 x3=some r):Sem E0 ⟨none,false⟩ CW ⟨Fr 28 (BP 0 (Bd.enc (x0,x1,(),x3,()))),[]⟩ fun e s'=>(e = .normal\/e = .ret)/\∃ xs,Em E0.P s'.fr s'.hp Tryz.f209.results.toList=some xs/\Ev xs=Bg r:=by
 unfold Ad at h;refine A8 (Bv (s1:=⟨Fr 28 [(0,AF.enc x0),(1,AF.enc x1),(2,.pe (.fn 208 [] []) 0),(3,.pe (.fn 190 [] [.pe (AA.enc x3) 0]) 0)],[]⟩) AN ?_);refine AJ AC [(2,.pe (.fn 208 [] []) 0),(3,.pe (.fn 190 [] [.pe (AA.enc x3) 0]) 0),(4,.pt 0 0 0),(5,.pt 1 0 0)] [some ⟨10,115,[AF.enc x0],false⟩,some ⟨10,115,[AF.enc x1],false⟩] ?_;refine AH ?_;refine AH ?_;obtain ⟨v1,hv1,h⟩:=OB h;obtain ⟨j4,hj4,h⟩:=OB h;refine AI (s1:=⟨Fr 28 [(3,.pe (.fn 190 [] [.pe (AA.enc x3) 0]) 0),(4,.pt 0 0 0),(5,.pt 1 0 0),(18,.v (.bool j4))],[some ⟨10,115,[AF.enc x0],false⟩,some ⟨10,115,[AF.enc x1],false⟩]⟩) ?_ ?_
 ·refine AD (n:=28) AC 3 [(2,.pe (.fn 208 [] []) 0),(3,.pe (.fn 190 [] [.pe (AA.enc x3) 0]) 0),(4,.pt 0 0 0),(5,.pt 1 0 0),(7,.fn 208 [] []),(9,.v (.int .i64 x0.2))] [some ⟨10,115,[AF.enc x0],false⟩,some ⟨10,115,[AF.enc x1],false⟩] kr ?_
  refine Ac (caps:=[]) (xs:=[.v (.int .i64 x0.2)]) (u:=(x0.2,())) rfl rfl FV rfl (AB rfl) kr kr (AP (Ab (c:=cdI) (v:=x0.2)) BJ) (.inl kr) hv1 ?_;refine AD (n:=28) AC 2 [(2,.pe (.fn 208 [] []) 0),(3,.pe (.fn 190 [] [.pe (AA.enc x3) 0]) 0),(4,.pt 0 0 0),(5,.pt 1 0 0),(12,.v (.bool (!v1)))] [some ⟨10,115,[AF.enc x0],false⟩,some ⟨10,115,[AF.enc x1],false⟩] kr ?_;rcases BE (!v1) with hc9 | hc9
  ·rw [if_pos hc9] at hj4
   rw [hc9];refine AD (n:=28) AC 6 [(3,.pe (.fn 190 [] [.pe (AA.enc x3) 0]) 0),(4,.pt 0 0 0),(5,.pt 1 0 0),(18,.v (.bool true))] [some ⟨10,115,[AF.enc x0],false⟩,some ⟨10,115,[AF.enc x1],false⟩] kr ?_;have hq:=OI hj4; subst hq;exact AL rfl (AY [0,1] ⟨⟨_,rfl,Cu⟩,⟨_,rfl,Cu⟩,trivial⟩ ⟨lv,lv,lv,lv,trivial⟩)
  ·rw [CL hc9] at hj4
   rw [hc9];refine AD (n:=28) AC 3 [(3,.pe (.fn 190 [] [.pe (AA.enc x3) 0]) 0),(4,.pt 0 0 0),(5,.pt 1 0 0),(12,.v (.bool false)),(13,.fn 208 [] []),(15,.v (.int .i64 x1.2))] [some ⟨10,115,[AF.enc x0],false⟩,some ⟨10,115,[AF.enc x1],false⟩] kr ?_;obtain ⟨v2,hv2,hj4⟩:=OB hj4;refine Ac (caps:=[]) (xs:=[.v (.int .i64 x1.2)]) (u:=(x1.2,())) rfl rfl FV rfl kr kr kr (AP (Ab (c:=cdI) (v:=x1.2)) BJ) (.inl kr) hv2 ?_;refine AD (n:=28) AC 2 [(3,.pe (.fn 190 [] [.pe (AA.enc x3) 0]) 0),(4,.pt 0 0 0),(5,.pt 1 0 0),(18,.v (.bool (!v2)))] [some ⟨10,115,[AF.enc x0],false⟩,some ⟨10,115,[AF.enc x1],false⟩] kr ?_;have hq:=OI hj4; subst hq;exact AL rfl (AY [0,1] ⟨⟨_,rfl,Cu⟩,⟨_,rfl,Cu⟩,trivial⟩ ⟨lv,lv,lv,lv,trivial⟩)
 refine AM (b:=j4) kr (fun hb5=>?_) (fun hb5=>?_)
 ·rw [if_pos hb5] at h
  refine AH ?_;refine AI (s1:=⟨Fr 28 [(6,.v (.int .i64 0))],[]⟩) ?_ ?_
  ·refine AD (n:=28) AC 1 [(6,.v (.int .i64 0))] [some ⟨10,115,[AF.enc x0],false⟩,some ⟨10,115,[AF.enc x1],false⟩] kr ?_
   exact AL rfl (AY [] trivial ⟨lv,trivial⟩)
  refine AU ?_;have hq:=OI h; subst hq;exact ⟨⟨Fr 28 [(6,.v (.int .i64 0))],[]⟩,AN,.inr rfl,[.v (.int .i64 0)],kr,kr⟩
 ·rw [CL hb5] at h
  refine AQ ?_;refine AH ?_;obtain ⟨v6,hv6,h⟩:=OB h;obtain ⟨v7,hv7,h⟩:=OB h;obtain ⟨v8,hv8,h⟩:=OB h;refine EH AC (s1:=⟨Fr 28 [(6,.v (.int .i64 v8))],[]⟩) kr ?_ ?_
  ·refine Ap (n:=28) AC 3 [(3,.pe (.fn 190 [] [.pe (AA.enc x3) 0]) 0),(5,.pt 1 0 0),(19,.fn 190 [] [.pe (AA.enc x3) 0]),(21,.v (.int .i64 x0.2))] [some ⟨10,115,[AF.enc x0],false⟩,some ⟨10,115,[AF.enc x1],false⟩] kr kr ?_
   refine Bo (caps:=[.pe (AA.enc x3) 0]) (xs:=[.v (.int .i64 x0.2)]) (u:=(x0.2,x3,())) rfl rfl KF rfl (AB rfl) kr kr (AP (Ab (c:=cdI) (v:=x0.2)) (AP (Ab (c:=(cdP AA)) (v:=x3)) BJ)) kr hv6 ?_;refine Ap (n:=28) AC 3 [(22,.v (.int .i64 v6)),(23,.fn 190 [] [.pe (AA.enc x3) 0]),(25,.v (.int .i64 x1.2))] [some ⟨10,115,[AF.enc x0],false⟩,some ⟨10,115,[AF.enc x1],false⟩] kr kr ?_;refine Bo (caps:=[.pe (AA.enc x3) 0]) (xs:=[.v (.int .i64 x1.2)]) (u:=(x1.2,x3,())) rfl rfl KF rfl (AB rfl) kr kr (AP (Ab (c:=cdI) (v:=x1.2)) (AP (Ab (c:=(cdP AA)) (v:=x3)) BJ)) kr hv7 ?_;refine Bo (caps:=[]) (xs:=[.v (.int .i64 v6),.v (.int .i64 v7)]) (u:=(v6,v7,())) rfl rfl EQ rfl (AB rfl) kr kr (AP (Ab (c:=cdI) (v:=v6)) (AP (Ab (c:=cdI) (v:=v7)) BJ)) kr hv8 ?_;refine Ap (n:=28) AC 1 [(6,.v (.int .i64 v8))] [some ⟨10,115,[AF.enc x0],false⟩,some ⟨10,115,[AF.enc x1],false⟩] kr kr ?_;exact RunDS.done rfl (AY [] trivial ⟨lv,trivial⟩)
  refine AU ?_;have hq:=OI h; subst hq;exact ⟨⟨Fr 28 [(6,.v (.int .i64 v8))],[]⟩,AN,.inr rfl,[.v (.int .i64 v8)],kr,kr⟩
def D6:List AV->Option AV:=D4 Bd (fun a=>Ad a.1 a.2.1 a.2.2.2.1) Bg
theorem D9:XOk 209 D6:=by
 refine AW Tryz.func209 (c:=CW) ?h2 ⟨Tryz.call209⟩ Bd (fun a=>Ad a.1 a.2.1 a.2.2.2.1) Bg (fun a=>(by show 4<=28; decide)) ?h3 ?h4
 case h2=>kernel_rfl
 case h3=>intro b; kernel_rfl
 case h4=>exact fun a b h=>Dr a.1 a.2.1 a.2.2.2.1 b h
/- trestle/court.plain$9 -/
noncomputable def JY:Code:=Br Tryz.f191
def EZ (x0:Int):Option (Int) :=
 some x0
def HK:Cs (Int×Unit):=(csC cdI csN)
def Ha (r:Int):AV:=cdI.enc r
theorem Lj (x0:Int) (r:Int) (h:EZ x0=some r):Sem E0 ⟨none,false⟩ JY ⟨Fr 4 (BP 0 (HK.enc (x0,()))),[]⟩ fun e s'=>(e = .normal\/e = .ret)/\∃ xs,Em E0.P s'.fr s'.hp Tryz.f191.results.toList=some xs/\Ev xs=Ha r:=by
 unfold EZ at h;refine A8 (Bv (s1:=⟨Fr 4 [(0,.v (.int .i64 x0))],[]⟩) AN ?_);refine AJ AC [(0,.v (.int .i64 x0))] [] ?_;refine AJ AC [(2,.v (.int .i64 x0))] [] ?_;refine AU ?_;have hq:=OI h; subst hq;exact ⟨⟨Fr 4 [(2,.v (.int .i64 x0))],[]⟩,AN,.inr rfl,[.v (.int .i64 x0)],kr,kr⟩
def Nk:List AV->Option AV:=D4 HK (fun a=>EZ a.1) Ha
theorem KG:XOk 191 Nk:=by
 refine AW Tryz.func191 (c:=JY) ?h2 ⟨Tryz.call191⟩ HK (fun a=>EZ a.1) Ha (fun a=>(by show 1<=4; decide)) ?h3 ?h4
 case h2=>kernel_rfl
 case h3=>intro b; kernel_rfl
 case h4=>exact fun a b h=>Lj a.1 b h
/- trestle/court.placed$2 -/
noncomputable def CX:Code:=Br Tryz.f209
def Ae (x0:Ai) (x1:Ai):Option (Int) :=
 (CK x0.2).bind fun v1 =>
 (if (!v1)=true then some true else (CK x1.2).bind fun v2 =>
 some (!v2)).bind fun j4 =>
 if j4=true then
 some 0
 else
 (EZ x0.2).bind fun v6 =>
 (EZ x1.2).bind fun v7 =>
 (Bq v6 v7).bind fun v8 =>
 some v8
def Be:Cs (Ai×Ai×Unit×Unit×Unit):=(csC AF (csC AF (csC (cdP (cdF 208 csN (fun _=>rfl))) (csC (cdP (cdF 191 csN (fun _=>rfl))) csN))))
def Bh (r:Int):AV:=cdI.enc r
theorem Dt (x0:Ai) (x1:Ai) (r:Int) (h:Ae x0 x1=some r):Sem E0 ⟨none,false⟩ CX ⟨Fr 28 (BP 0 (Be.enc (x0,x1,(),(),()))),[]⟩ fun e s'=>(e = .normal\/e = .ret)/\∃ xs,Em E0.P s'.fr s'.hp Tryz.f209.results.toList=some xs/\Ev xs=Bh r:=by
 unfold Ae at h;refine A8 (Bv (s1:=⟨Fr 28 [(0,AF.enc x0),(1,AF.enc x1),(2,.pe (.fn 208 [] []) 0),(3,.pe (.fn 191 [] []) 0)],[]⟩) AN ?_);refine AJ AC [(2,.pe (.fn 208 [] []) 0),(3,.pe (.fn 191 [] []) 0),(4,.pt 0 0 0),(5,.pt 1 0 0)] [some ⟨10,115,[AF.enc x0],false⟩,some ⟨10,115,[AF.enc x1],false⟩] ?_;refine AH ?_;refine AH ?_;obtain ⟨v1,hv1,h⟩:=OB h;obtain ⟨j4,hj4,h⟩:=OB h;refine AI (s1:=⟨Fr 28 [(3,.pe (.fn 191 [] []) 0),(4,.pt 0 0 0),(5,.pt 1 0 0),(18,.v (.bool j4))],[some ⟨10,115,[AF.enc x0],false⟩,some ⟨10,115,[AF.enc x1],false⟩]⟩) ?_ ?_
 ·refine AD (n:=28) AC 3 [(2,.pe (.fn 208 [] []) 0),(3,.pe (.fn 191 [] []) 0),(4,.pt 0 0 0),(5,.pt 1 0 0),(7,.fn 208 [] []),(9,.v (.int .i64 x0.2))] [some ⟨10,115,[AF.enc x0],false⟩,some ⟨10,115,[AF.enc x1],false⟩] kr ?_
  refine Ac (caps:=[]) (xs:=[.v (.int .i64 x0.2)]) (u:=(x0.2,())) rfl rfl FV rfl (AB rfl) kr kr (AP (Ab (c:=cdI) (v:=x0.2)) BJ) (.inl kr) hv1 ?_;refine AD (n:=28) AC 2 [(2,.pe (.fn 208 [] []) 0),(3,.pe (.fn 191 [] []) 0),(4,.pt 0 0 0),(5,.pt 1 0 0),(12,.v (.bool (!v1)))] [some ⟨10,115,[AF.enc x0],false⟩,some ⟨10,115,[AF.enc x1],false⟩] kr ?_;rcases BE (!v1) with hc9 | hc9
  ·rw [if_pos hc9] at hj4
   rw [hc9];refine AD (n:=28) AC 6 [(3,.pe (.fn 191 [] []) 0),(4,.pt 0 0 0),(5,.pt 1 0 0),(18,.v (.bool true))] [some ⟨10,115,[AF.enc x0],false⟩,some ⟨10,115,[AF.enc x1],false⟩] kr ?_;have hq:=OI hj4; subst hq;exact AL rfl (AY [0,1] ⟨⟨_,rfl,Cu⟩,⟨_,rfl,Cu⟩,trivial⟩ ⟨lv,lv,lv,lv,trivial⟩)
  ·rw [CL hc9] at hj4
   rw [hc9];refine AD (n:=28) AC 3 [(3,.pe (.fn 191 [] []) 0),(4,.pt 0 0 0),(5,.pt 1 0 0),(12,.v (.bool false)),(13,.fn 208 [] []),(15,.v (.int .i64 x1.2))] [some ⟨10,115,[AF.enc x0],false⟩,some ⟨10,115,[AF.enc x1],false⟩] kr ?_;obtain ⟨v2,hv2,hj4⟩:=OB hj4;refine Ac (caps:=[]) (xs:=[.v (.int .i64 x1.2)]) (u:=(x1.2,())) rfl rfl FV rfl kr kr kr (AP (Ab (c:=cdI) (v:=x1.2)) BJ) (.inl kr) hv2 ?_;refine AD (n:=28) AC 2 [(3,.pe (.fn 191 [] []) 0),(4,.pt 0 0 0),(5,.pt 1 0 0),(18,.v (.bool (!v2)))] [some ⟨10,115,[AF.enc x0],false⟩,some ⟨10,115,[AF.enc x1],false⟩] kr ?_;have hq:=OI hj4; subst hq;exact AL rfl (AY [0,1] ⟨⟨_,rfl,Cu⟩,⟨_,rfl,Cu⟩,trivial⟩ ⟨lv,lv,lv,lv,trivial⟩)
 refine AM (b:=j4) kr (fun hb5=>?_) (fun hb5=>?_)
 ·rw [if_pos hb5] at h
  refine AH ?_;refine AI (s1:=⟨Fr 28 [(6,.v (.int .i64 0))],[]⟩) ?_ ?_
  ·refine AD (n:=28) AC 1 [(6,.v (.int .i64 0))] [some ⟨10,115,[AF.enc x0],false⟩,some ⟨10,115,[AF.enc x1],false⟩] kr ?_
   exact AL rfl (AY [] trivial ⟨lv,trivial⟩)
  refine AU ?_;have hq:=OI h; subst hq;exact ⟨⟨Fr 28 [(6,.v (.int .i64 0))],[]⟩,AN,.inr rfl,[.v (.int .i64 0)],kr,kr⟩
 ·rw [CL hb5] at h
  refine AQ ?_;refine AH ?_;obtain ⟨v6,hv6,h⟩:=OB h;obtain ⟨v7,hv7,h⟩:=OB h;obtain ⟨v8,hv8,h⟩:=OB h;refine EH AC (s1:=⟨Fr 28 [(6,.v (.int .i64 v8))],[]⟩) kr ?_ ?_
  ·refine Ap (n:=28) AC 3 [(3,.pe (.fn 191 [] []) 0),(5,.pt 1 0 0),(19,.fn 191 [] []),(21,.v (.int .i64 x0.2))] [some ⟨10,115,[AF.enc x0],false⟩,some ⟨10,115,[AF.enc x1],false⟩] kr kr ?_
   refine Bo (caps:=[]) (xs:=[.v (.int .i64 x0.2)]) (u:=(x0.2,())) rfl rfl KG rfl (AB rfl) kr kr (AP (Ab (c:=cdI) (v:=x0.2)) BJ) kr hv6 ?_;refine Ap (n:=28) AC 3 [(22,.v (.int .i64 v6)),(23,.fn 191 [] []),(25,.v (.int .i64 x1.2))] [some ⟨10,115,[AF.enc x0],false⟩,some ⟨10,115,[AF.enc x1],false⟩] kr kr ?_;refine Bo (caps:=[]) (xs:=[.v (.int .i64 x1.2)]) (u:=(x1.2,())) rfl rfl KG rfl (AB rfl) kr kr (AP (Ab (c:=cdI) (v:=x1.2)) BJ) kr hv7 ?_;refine Bo (caps:=[]) (xs:=[.v (.int .i64 v6),.v (.int .i64 v7)]) (u:=(v6,v7,())) rfl rfl EQ rfl (AB rfl) kr kr (AP (Ab (c:=cdI) (v:=v6)) (AP (Ab (c:=cdI) (v:=v7)) BJ)) kr hv8 ?_;refine Ap (n:=28) AC 1 [(6,.v (.int .i64 v8))] [some ⟨10,115,[AF.enc x0],false⟩,some ⟨10,115,[AF.enc x1],false⟩] kr kr ?_;exact RunDS.done rfl (AY [] trivial ⟨lv,trivial⟩)
  refine AU ?_;have hq:=OI h; subst hq;exact ⟨⟨Fr 28 [(6,.v (.int .i64 v8))],[]⟩,AN,.inr rfl,[.v (.int .i64 v8)],kr,kr⟩
def D7:List AV->Option AV:=D4 Be (fun a=>Ae a.1 a.2.1) Bh
theorem EA:XOk 209 D7:=by
 refine AW Tryz.func209 (c:=CX) ?h2 ⟨Tryz.call209⟩ Be (fun a=>Ae a.1 a.2.1) Bh (fun a=>(by show 4<=28; decide)) ?h3 ?h4
 case h2=>kernel_rfl
 case h3=>intro b; kernel_rfl
 case h4=>exact fun a b h=>Dt a.1 a.2.1 b h
theorem Wl {f:FuncId}(hc:Bu E0.P f){α β:Type}(s:Cs α) (F:α->Option β) (er:β->AV) (h:∀ a b,F a=some b->∃ t,XOk f t/\t (s.enc a)=some (er b)):XOk f (D4 s F er):=by
 refine ⟨hc,fun xs y hy w Z us hz hg hv=>?_⟩
 obtain ⟨a,ha,hy⟩:=OB hy
 obtain ⟨b,hb,rfl⟩:=Option.map_eq_some_iff.1 hy
 obtain ⟨t,hX,ht⟩:=h a b hb
 exact hX.2 _ _ ht w Z us hz hg (s.vr ha hv)
def Dj (a b:Ai) (c:AE):Option Int :=
 if (c.1==1)=true then Bc (fun a b (v:(AE×Unit)×Unit)=>By (fun x (v:AE×Unit)=>DB x v.1) a b v.1) a b c ((c,()),()) else
 if (c.1==2)=true then Bc (fun a b (v:AE×Unit)=>Ce a b v.1) a b c (c,()) else
 if (c.1==3)=true then Bc (fun a b (v:AE×Unit)=>Ce a b v.1) a b c (c,()) else
 if (c.1==4)=true then Bc (fun a b (v:(AE×AE×Unit)×Unit)=>By (fun x (v:AE×AE×Unit)=>A0 x v.1 v.2.1) a b v.1) a b c ((c,c,()),()) else
 if (c.1==5)=true then Bc (fun a b (v:(Unit×AE×Unit)×Unit)=>By (fun x (v:Unit×AE×Unit)=>A3 x v.2.1) a b v.1) a b c (((),c,()),()) else
 if (c.1==6)=true then Bc (fun a b (v:(AE×AE×Unit)×Unit)=>By (fun x (v:AE×AE×Unit)=>Ay x v.1 v.2.1) a b v.1) a b c ((c,c,()),()) else
 if (c.1==7)=true then Bc (fun a b (v:(AE×AE×Unit)×Unit)=>By (fun x (v:AE×AE×Unit)=>Az x v.1 v.2.1) a b v.1) a b c ((c,c,()),()) else
 if (c.1==8)=true then Bc (fun a b (_:Unit)=>D1 a b) a b c () else
 if (c.1==10)=true then Bc (fun a b (v:Unit×AE×Unit)=>Ad a b v.2.1) a b c ((),c,()) else
 Bc (fun a b (_:Unit×Unit×Unit)=>Ae a b) a b c ((),(),())
noncomputable def GB:Cs (Ai×Ai×AE):=csC AF (csC AF Po)
noncomputable def IJ (r:Int):AV:=cdI.enc r
noncomputable def L9:List AV->Option AV:=D4 GB (fun a=>Dj a.1 a.2.1 a.2.2) IJ
theorem If {α β:Type}{s:Cs α}{F:α->Option β}{er:β->AV}{a:α}{b:β}{xs:List AV}(h:F a=some b) (e:xs=s.enc a):D4 s F er xs=some (er b):=e ▸ Mr h
theorem Vq (a b:Ai) (c:AE):GB.enc (a,b,c)=[AF.enc a,AF.enc b,.pe (AA.enc c) 0,.pe (LB c) 0]:=rfl
theorem ME:XOk 165 L9:=by
 refine Wl ⟨Tryz.call165⟩ GB (fun a=>Dj a.1 a.2.1 a.2.2) IJ fun x r h=>?_
 obtain ⟨a,b,c⟩:=x
 rw [Vq]
 dsimp only at h
 unfold Dj at h
 unfold LB
 rcases BE (c.1==1) with h1 | h1
 ·rw [if_pos h1] at h; rw [if_pos h1]
  exact ⟨_,B6 (sx:=csC (cdP (cdF 178 (csC (cdP AA) csN) (fun _=>rfl))) csN) (hn:=fun _=>rfl) (G:=fun a b (v:(AE×Unit)×Unit)=>By (fun x (v:AE×Unit)=>DB x v.1) a b v.1) (Gz (sx:=csC (cdP AA) csN) (hn:=fun _=>rfl) (G:=fun x (v:AE×Unit)=>DB x v.1) Nu),If (a:=(a,b,c,((c,()),()),())) h rfl⟩
 rw [if_neg (by rw [h1]; decide)] at h; rw [if_neg (by rw [h1]; decide)]
 rcases BE (c.1==2) with h1 | h1
 ·rw [if_pos h1] at h; rw [if_pos h1]
  exact ⟨_,B6 (sx:=csC (cdP AA) csN) (hn:=fun _=>rfl) (G:=fun a b (v:AE×Unit)=>Ce a b v.1) KE,If (a:=(a,b,c,(c,()),())) h rfl⟩
 rw [if_neg (by rw [h1]; decide)] at h; rw [if_neg (by rw [h1]; decide)]
 rcases BE (c.1==3) with h1 | h1
 ·rw [if_pos h1] at h; rw [if_pos h1]
  exact ⟨_,B6 (sx:=csC (cdP AA) csN) (hn:=fun _=>rfl) (G:=fun a b (v:AE×Unit)=>Ce a b v.1) KE,If (a:=(a,b,c,(c,()),())) h rfl⟩
 rw [if_neg (by rw [h1]; decide)] at h; rw [if_neg (by rw [h1]; decide)]
 rcases BE (c.1==4) with h1 | h1
 ·rw [if_pos h1] at h; rw [if_pos h1]
  exact ⟨_,B6 (sx:=csC (cdP (cdF 206 (csC (cdP (cdF 182 (csE (cdP AA)) (fun _=>rfl))) (csC (cdP AA) csN)) (fun _=>rfl))) csN) (hn:=fun _=>rfl) (G:=fun a b (v:(AE×AE×Unit)×Unit)=>By (fun x (v:AE×AE×Unit)=>A0 x v.1 v.2.1) a b v.1) (Gz (sx:=csC (cdP (cdF 182 (csE (cdP AA)) (fun _=>rfl))) (csC (cdP AA) csN)) (hn:=fun _=>rfl) (G:=fun x (v:AE×AE×Unit)=>A0 x v.1 v.2.1) G0),If (a:=(a,b,c,((c,c,()),()),())) h rfl⟩
 rw [if_neg (by rw [h1]; decide)] at h; rw [if_neg (by rw [h1]; decide)]
 rcases BE (c.1==5) with h1 | h1
 ·rw [if_pos h1] at h; rw [if_pos h1]
  exact ⟨_,B6 (sx:=csC (cdP (cdF 206 (csC (cdP (cdF 183 csN (fun _=>rfl))) (csC (cdP AA) csN)) (fun _=>rfl))) csN) (hn:=fun _=>rfl) (G:=fun a b (v:(Unit×AE×Unit)×Unit)=>By (fun x (v:Unit×AE×Unit)=>A3 x v.2.1) a b v.1) (Gz (sx:=csC (cdP (cdF 183 csN (fun _=>rfl))) (csC (cdP AA) csN)) (hn:=fun _=>rfl) (G:=fun x (v:Unit×AE×Unit)=>A3 x v.2.1) G3),If (a:=(a,b,c,(((),c,()),()),())) h rfl⟩
 rw [if_neg (by rw [h1]; decide)] at h; rw [if_neg (by rw [h1]; decide)]
 rcases BE (c.1==6) with h1 | h1
 ·rw [if_pos h1] at h; rw [if_pos h1]
  exact ⟨_,B6 (sx:=csC (cdP (cdF 206 (csC (cdP (cdF 184 (csE (cdP AA)) (fun _=>rfl))) (csC (cdP AA) csN)) (fun _=>rfl))) csN) (hn:=fun _=>rfl) (G:=fun a b (v:(AE×AE×Unit)×Unit)=>By (fun x (v:AE×AE×Unit)=>Ay x v.1 v.2.1) a b v.1) (Gz (sx:=csC (cdP (cdF 184 (csE (cdP AA)) (fun _=>rfl))) (csC (cdP AA) csN)) (hn:=fun _=>rfl) (G:=fun x (v:AE×AE×Unit)=>Ay x v.1 v.2.1) G4),If (a:=(a,b,c,((c,c,()),()),())) h rfl⟩
 rw [if_neg (by rw [h1]; decide)] at h; rw [if_neg (by rw [h1]; decide)]
 rcases BE (c.1==7) with h1 | h1
 ·rw [if_pos h1] at h; rw [if_pos h1]
  exact ⟨_,B6 (sx:=csC (cdP (cdF 206 (csC (cdP (cdF 186 (csE (cdP AA)) (fun _=>rfl))) (csC (cdP AA) csN)) (fun _=>rfl))) csN) (hn:=fun _=>rfl) (G:=fun a b (v:(AE×AE×Unit)×Unit)=>By (fun x (v:AE×AE×Unit)=>Az x v.1 v.2.1) a b v.1) (Gz (sx:=csC (cdP (cdF 186 (csE (cdP AA)) (fun _=>rfl))) (csC (cdP AA) csN)) (hn:=fun _=>rfl) (G:=fun x (v:AE×AE×Unit)=>Az x v.1 v.2.1) G5),If (a:=(a,b,c,((c,c,()),()),())) h rfl⟩
 rw [if_neg (by rw [h1]; decide)] at h; rw [if_neg (by rw [h1]; decide)]
 rcases BE (c.1==8) with h1 | h1
 ·rw [if_pos h1] at h; rw [if_pos h1]
  exact ⟨_,B6 (sx:=csN) (hn:=fun _=>rfl) (G:=fun a b (_:Unit)=>D1 a b) N0,If (a:=(a,b,c,(),())) h rfl⟩
 rw [if_neg (by rw [h1]; decide)] at h; rw [if_neg (by rw [h1]; decide)]
 rcases BE (c.1==10) with h1 | h1
 ·rw [if_pos h1] at h; rw [if_pos h1]
  exact ⟨_,B6 (sx:=csC (cdP (cdF 208 csN (fun _=>rfl))) (csC (cdP (cdF 190 (csE (cdP AA)) (fun _=>rfl))) csN)) (hn:=fun _=>rfl) (G:=fun a b (v:Unit×AE×Unit)=>Ad a b v.2.1) D9,If (a:=(a,b,c,((),c,()),())) h rfl⟩
 rw [if_neg (by rw [h1]; decide)] at h; rw [if_neg (by rw [h1]; decide)]
 exact ⟨_,B6 (sx:=csC (cdP (cdF 208 csN (fun _=>rfl))) (csC (cdP (cdF 191 csN (fun _=>rfl))) csN)) (hn:=fun _=>rfl) (G:=fun a b (_:Unit×Unit×Unit)=>Ae a b) EA,If (a:=(a,b,c,((),(),()),())) h rfl⟩
/- trestle/court.first[trestle/court.seated,trestle/court.order] -/
noncomputable def CC:Code:=Br Tryz.f76
def AZ (x0:(List AE)):Nat->(List UInt8)->(List UInt8)->(List UInt8)->Int->Int->(List UInt8)->Bool->Bool->(List (List UInt8))->Int->(List UInt8)->(List UInt8)->(List UInt8)->Int->Int->(List UInt8)->Bool->Bool->(List (List UInt8))->Int->Int->Option ((Unit) ⊕ (Int×Int))
 | 0,_,_,_,_,_,_,_,_,_,_,_,_,_,_,_,_,_,_,_,_,_=>none
 | f + 1,c1,c2,c3,c4,c5,c6,c7,c8,c9,c10,c11,c12,c13,c14,c15,c16,c17,c18,c19,c20,c21 =>
  if (decide (c21 < (x0.length:Int)))=true then
  (idx x0 c21).bind fun v23 =>
  (Dj ((c1,c2,c3,c4,c5,c6,c7,c8,c9),c10) ((c11,c12,c13,c14,c15,c16,c17,c18,c19),c20) v23).bind fun v24 =>
  if (v24 != 0)=true then
  some (.inr (c21,v24))
  else
  AZ x0 f c1 c2 c3 c4 c5 c6 c7 c8 c9 c10 c11 c12 c13 c14 c15 c16 c17 c18 c19 c20 (wr .i64 (c21 + 1))
  else
  some (.inl ())
def Ah (x0:(List AE)) (x1:Ai) (x2:Ai):Option (Int×Int) :=
 (AZ x0 100000 x1.1.1 x1.1.2.1 x1.1.2.2.1 x1.1.2.2.2.1 x1.1.2.2.2.2.1 x1.1.2.2.2.2.2.1 x1.1.2.2.2.2.2.2.1 x1.1.2.2.2.2.2.2.2.1 x1.1.2.2.2.2.2.2.2.2 x1.2 x2.1.1 x2.1.2.1 x2.1.2.2.1 x2.1.2.2.2.1 x2.1.2.2.2.2.1 x2.1.2.2.2.2.2.1 x2.1.2.2.2.2.2.2.1 x2.1.2.2.2.2.2.2.2.1 x2.1.2.2.2.2.2.2.2.2 x2.2 0).bind fun r28 =>
 match r28 with
 | (.inl _w29) =>
  some ((-1),0)
 | (.inr w30) =>
  some (w30.1,w30.2)
noncomputable def CH:Cs ((List AE)×Ai×Ai×Unit):=(csC (cdL 1 Cj) (csC AF (csC AF csN)))
noncomputable def CI (r:Int×Int):AV:= .tp [cdI.enc r.1,cdI.enc r.2]
theorem Ct (x0:(List AE)):∀ (f:Nat) (c1:(List UInt8)) (c2:(List UInt8)) (c3:(List UInt8)) (c4:Int) (c5:Int) (c6:(List UInt8)) (c7:Bool) (c8:Bool) (c9:(List (List UInt8))) (c10:Int) (c11:(List UInt8)) (c12:(List UInt8)) (c13:(List UInt8)) (c14:Int) (c15:Int) (c16:(List UInt8)) (c17:Bool) (c18:Bool) (c19:(List (List UInt8))) (c20:Int) (c21:Int) (r:(Unit) ⊕ (Int×Int)),AZ x0 f c1 c2 c3 c4 c5 c6 c7 c8 c9 c10 c11 c12 c13 c14 c15 c16 c17 c18 c19 c20 c21=some r->SemN E0 ⟨none,false⟩ (pc CC [1,0,1,0,0]) f ⟨Fr 27 [(4,.pt 0 0 0),(5,.pt 1 0 0),(11,.sl 1 (x0.map Cj.enc)),(12,.v (.int .i64 (x0.length:Int))),(13,.v (.int .i64 c21))],[some ⟨10,115,[.ag [.st c1,.st c2,.st c3,.v (.int .i64 c4),.v (.int .i64 c5),.st c6,.v (.bool c7),.v (.bool c8),.sl 1 (c9.map cdS.enc),.v (.int .i64 c10)]],false⟩,some ⟨10,115,[.ag [.st c11,.st c12,.st c13,.v (.int .i64 c14),.v (.int .i64 c15),.st c16,.v (.bool c17),.v (.bool c18),.sl 1 (c19.map cdS.enc),.v (.int .i64 c20)]],false⟩]⟩ (fun e s=>match r with
 | (.inl _w)=>e=(.exit 0)/\Wk E0 s ⟨Fr 27 [],[]⟩
 | (.inr w)=>e = .ret/\Wk E0 s ⟨Fr 27 [(6,.v (.int .i64 w.1)),(7,.v (.int .i64 w.2))],[]⟩):=by
 intro f;induction f with
 | zero=>intro c1 c2 c3 c4 c5 c6 c7 c8 c9 c10 c11 c12 c13 c14 c15 c16 c17 c18 c19 c20 c21 r h; cases h
 | succ f ih0 =>
  intro c1 c2 c3 c4 c5 c6 c7 c8 c9 c10 c11 c12 c13 c14 c15 c16 c17 c18 c19 c20 c21 r h
  have ih:=fun (c1:(List UInt8)) (c2:(List UInt8)) (c3:(List UInt8)) (c4:Int) (c5:Int) (c6:(List UInt8)) (c7:Bool) (c8:Bool) (c9:(List (List UInt8))) (c10:Int) (c11:(List UInt8)) (c12:(List UInt8)) (c13:(List UInt8)) (c14:Int) (c15:Int) (c16:(List UInt8)) (c17:Bool) (c18:Bool) (c19:(List (List UInt8))) (c20:Int) (c21:Int)=>ih0 c1 c2 c3 c4 c5 c6 c7 c8 c9 c10 c11 c12 c13 c14 c15 c16 c17 c18 c19 c20 c21 r
  unfold AZ at h;refine Bw ?_
  let p1:Option Blk:=some ⟨10,115,[.ag [.st c11,.st c12,.st c13,.v (.int .i64 c14),.v (.int .i64 c15),.st c16,.v (.bool c17),.v (.bool c18),.sl 1 (c19.map cdS.enc),.v (.int .i64 c20)]],false⟩
  let p2:Option Blk:=some ⟨10,115,[.ag [.st c1,.st c2,.st c3,.v (.int .i64 c4),.v (.int .i64 c5),.st c6,.v (.bool c7),.v (.bool c8),.sl 1 (c9.map cdS.enc),.v (.int .i64 c10)]],false⟩
  let p3:Nat×AV:=(13,.v (.int .i64 c21))
  let p4:Nat×AV:=(12,.v (.int .i64 (x0.length:Int)))
  let p5:Nat×AV:=(11,.sl 1 (x0.map Cj.enc))
  let p6:Nat×AV:=(5,.pt 1 0 0)
  let p7:Nat×AV:=(4,.pt 0 0 0)
  refine AJ AC [p7,p6,p5,p4,p3,(14,.v (.bool (decide (c21 < (x0.length:Int)))))] [p2,p1] ?_;refine AH ?_;refine AM (b:=(decide (c21 < (x0.length:Int)))) kr (fun hb22=>?_) (fun hb22=>?_)
  ·rw [if_pos hb22] at h
   refine AQ ?_;refine AH ?_;refine Af ?_;refine AH ?_;obtain ⟨v23,hv23,h⟩:=OB h
   let p8:Nat×AV:=(8,.v (.int .i64 c21))
   refine AI (s1:=⟨Fr 27 [p7,p6,p8,(9,Cj.enc v23),p5,p4,p3],[p2,p1]⟩) ?_ ?_
   ·refine AD (n:=27) AC 1 [p7,p6,p5,p4,p3,(15,.v (.int .i64 c21))] [p2,p1] kr ?_
    refine AK AC 0 rfl (Ci (AB rfl) rfl (AS (a:= .sl 1 (x0.map Cj.enc)) (b:= .v (.int .i64 c21)) kr kr (FM (e:=Cj.enc) (el:=117) (k:=1) (ki:= .i64) kr kr hv23))) ?_;exact AO AC
   refine AH ?_;obtain ⟨v24,hv24,h⟩:=OB h;refine AI (s1:=⟨Fr 27 [p7,p6,p8,(10,.v (.int .i64 v24)),p5,p4,p3],[p2,p1]⟩) ?_ ?_
   ·refine AD (n:=27) AC 3 [p7,p6,p8,p5,p4,p3,(18,Cj.enc v23),(19,.ag [.st c1,.st c2,.st c3,.v (.int .i64 c4),.v (.int .i64 c5),.st c6,.v (.bool c7),.v (.bool c8),.sl 1 (c9.map cdS.enc),.v (.int .i64 c10)]),(20,.ag [.st c11,.st c12,.st c13,.v (.int .i64 c14),.v (.int .i64 c15),.st c16,.v (.bool c17),.v (.bool c18),.sl 1 (c19.map cdS.enc),.v (.int .i64 c20)])] [p2,p1] kr ?_
    refine Ac (caps:=[.pe (AA.enc v23) 0,.pe (LB v23) 0]) (xs:=[.ag [.st c1,.st c2,.st c3,.v (.int .i64 c4),.v (.int .i64 c5),.st c6,.v (.bool c7),.v (.bool c8),.sl 1 (c9.map cdS.enc),.v (.int .i64 c10)],.ag [.st c11,.st c12,.st c13,.v (.int .i64 c14),.v (.int .i64 c15),.st c16,.v (.bool c17),.v (.bool c18),.sl 1 (c19.map cdS.enc),.v (.int .i64 c20)]]) (u:=(((c1,c2,c3,c4,c5,c6,c7,c8,c9),c10),((c11,c12,c13,c14,c15,c16,c17,c18,c19),c20),v23)) rfl rfl ME rfl (AB rfl) kr kr (AP (Ab (c:=AF) (v:=((c1,c2,c3,c4,c5,c6,c7,c8,c9),c10))) (AP (Ab (c:=AF) (v:=((c11,c12,c13,c14,c15,c16,c17,c18,c19),c20))) (Ot (n:=10) (s:=Po) (a:=v23)))) (.inl kr) hv24 ?_;exact AO AC
   refine AJ AC [p7,p6,p8,(10,.v (.int .i64 v24)),p5,p4,p3,(23,.v (.bool (v24 != 0)))] [p2,p1] ?_;refine AM (b:=(v24 != 0)) kr (fun hb25=>?_) (fun hb25=>?_)
   ·rw [if_pos hb25] at h
    refine AH ?_;refine AI (s1:=⟨Fr 27 [(6,.v (.int .i64 c21)),(7,.v (.int .i64 v24))],[]⟩) ?_ ?_
    ·refine AD (n:=27) AC 4 [(6,.v (.int .i64 c21)),(7,.v (.int .i64 v24))] [p2,p1] kr ?_
     exact AL rfl (AY [] trivial ⟨lv,lv,trivial⟩)
    refine AU ?_;have hq:=OI h; subst hq;exact ⟨rfl,AN⟩
   ·rw [CL hb25] at h
    refine AQ ?_
    let p9:Nat×AV:=(13,.v (.int .i64 (wr .i64 (c21 + 1))))
    refine Cy AC [p7,p6,p5,p4,p9] [p2,p1] ?_;exact As (s1:=⟨Fr 27 [p7,p6,p5,p4,p9],[p2,p1]⟩) (AY [0,1] ⟨⟨_,rfl,Cu⟩,⟨_,rfl,Cu⟩,trivial⟩ ⟨lv,lv,lv,lv,lv,trivial⟩) (ih c1 c2 c3 c4 c5 c6 c7 c8 c9 c10 c11 c12 c13 c14 c15 c16 c17 c18 c19 c20 (wr .i64 (c21 + 1)) h)
  ·rw [CL hb22] at h
   refine CO ?_;have hq:=OI h; subst hq;exact ⟨rfl,(AY [] trivial trivial)⟩
theorem El (x0:(List AE)) (x1:Ai) (x2:Ai) (r:Int×Int) (h:Ah x0 x1 x2=some r):Sem E0 ⟨none,false⟩ CC ⟨Fr 27 (BP 0 (CH.enc (x0,x1,x2,()))),[]⟩ fun e s'=>(e = .normal\/e = .ret)/\∃ xs,Em E0.P s'.fr s'.hp Tryz.f76.results.toList=some xs/\Ev xs=CI r:=by
 unfold Ah at h;refine A8 (Bv (s1:=⟨Fr 27 [(0,.sl 1 (x0.map Cj.enc)),(1,AF.enc x1),(2,AF.enc x2)],[]⟩) AN ?_)
 let p1:Option Blk:=some ⟨10,115,[AF.enc x2],false⟩
 let p2:Option Blk:=some ⟨10,115,[AF.enc x1],false⟩
 let p3:Nat×AV:=(5,.pt 1 0 0)
 let p4:Nat×AV:=(4,.pt 0 0 0)
 refine AJ AC [(0,.sl 1 (x0.map Cj.enc)),p4,p3] [p2,p1] ?_;refine AH ?_;refine AH ?_
 let p5:Nat×AV:=(13,.v (.int .i64 0))
 let p6:Nat×AV:=(12,.v (.int .i64 (x0.length:Int)))
 let p7:Nat×AV:=(11,.sl 1 (x0.map Cj.enc))
 refine AI (s1:=⟨Fr 27 [p4,p3,p7,p6,p5],[p2,p1]⟩) ?_ ?_
 ·refine AD (n:=27) AC 1 [p4,p3,p7] [p2,p1] kr ?_
  refine AK AC 0 rfl (Ci (AB rfl) rfl (DY (a:= .sl 1 (x0.map Cj.enc)) kr (CB (el:=117) kr))) ?_;exact AO AC
 refine Af ?_;obtain ⟨r28,hr28,h⟩:=OB h;refine CV (n:=100000) ?_;rcases r28 with w29 | w30
 ·try dsimp only at h
  refine BK (As (s1:=⟨Fr 27 [p4,p3,p7,p6,p5],[p2,p1]⟩) (AY [0,1] ⟨⟨_,rfl,Cu⟩,⟨_,rfl,Cu⟩,trivial⟩ ⟨lv,lv,lv,lv,lv,trivial⟩) (Ct x0 _ x1.1.1 x1.1.2.1 x1.1.2.2.1 x1.1.2.2.2.1 x1.1.2.2.2.2.1 x1.1.2.2.2.2.2.1 x1.1.2.2.2.2.2.2.1 x1.1.2.2.2.2.2.2.2.1 x1.1.2.2.2.2.2.2.2.2 x1.2 x2.1.1 x2.1.2.1 x2.1.2.2.1 x2.1.2.2.2.1 x2.1.2.2.2.2.1 x2.1.2.2.2.2.2.1 x2.1.2.2.2.2.2.2.1 x2.1.2.2.2.2.2.2.2.1 x2.1.2.2.2.2.2.2.2.2 x2.2 0 _ hr28)) ?_;refine AJ AC [(6,.v (.int .i64 (-1))),(7,.v (.int .i64 0))] [] ?_;refine AU ?_;have hq:=OI h; subst hq;exact ⟨⟨Fr 27 [(6,.v (.int .i64 (-1))),(7,.v (.int .i64 0))],[]⟩,AN,.inr rfl,[.v (.int .i64 (-1)),.v (.int .i64 0)],kr,kr⟩
 ·try dsimp only at h
  refine BK (As (s1:=⟨Fr 27 [p4,p3,p7,p6,p5],[p2,p1]⟩) (AY [0,1] ⟨⟨_,rfl,Cu⟩,⟨_,rfl,Cu⟩,trivial⟩ ⟨lv,lv,lv,lv,lv,trivial⟩) (Ct x0 _ x1.1.1 x1.1.2.1 x1.1.2.2.1 x1.1.2.2.2.1 x1.1.2.2.2.2.1 x1.1.2.2.2.2.2.1 x1.1.2.2.2.2.2.2.1 x1.1.2.2.2.2.2.2.2.1 x1.1.2.2.2.2.2.2.2.2 x1.2 x2.1.1 x2.1.2.1 x2.1.2.2.1 x2.1.2.2.2.1 x2.1.2.2.2.2.1 x2.1.2.2.2.2.2.1 x2.1.2.2.2.2.2.2.1 x2.1.2.2.2.2.2.2.2.1 x2.1.2.2.2.2.2.2.2.2 x2.2 0 _ hr28)) ?_;have hq:=OI h; subst hq;exact ⟨⟨Fr 27 [(6,.v (.int .i64 w30.1)),(7,.v (.int .i64 w30.2))],[]⟩,AN,.inr rfl,[.v (.int .i64 w30.1),.v (.int .i64 w30.2)],kr,kr⟩
noncomputable def FE:List AV->Option AV:=D4 CH (fun a=>Ah a.1 a.2.1 a.2.2.1) CI
theorem DH:XOk 76 FE:=by
 refine AW Tryz.func76 (c:=CC) ?h2 ⟨Tryz.call76⟩ CH (fun a=>Ah a.1 a.2.1 a.2.2.1) CI (fun a=>(by show 3<=27; decide)) ?h3 ?h4
 case h2=>kernel_rfl
 case h3=>intro b; kernel_rfl
 case h4=>exact fun a b h=>El a.1 a.2.1 a.2.2.1 b h
/- trestle/court.table -/
noncomputable def DZ:Code:=Br Tryz.f107
def Ck (x1:(List Am)):Nat->Int->(List (List Int))->Option (((List (List Int))))
 | 0,_,_=>none
 | f + 1,c15,c16 =>
  if (decide (c15 < ((List.replicate (x1.length:Int).toNat ([]:(List Int))).length:Int)))=true then
  if (OD 8 (x1.length:Int))=true then
  (idx c16 c15).bind fun _v23 =>
  Ck x1 f (wr .i64 (c15 + 1)) (c16.set c15.toNat (List.replicate (x1.length:Int).toNat (0:Int)))
  else none
  else
  some c16
def Gn (c40:Int) (c43:Int) (c44:(List (List Int))) (v48:Int×Int):Option (((List (List Int)))) :=
 if (v48.2==1)=true then
 (idx c44 c43).bind fun v63 =>
 (idx v63 c40).bind fun v67 =>
 (idx v63 c40).bind fun _v68 =>
 some (c44.set c43.toNat (v63.set c40.toNat (wr .i64 (v67 + 1))))
 else
 some c44
def FK (c40:Int) (c43:Int) (c44:(List (List Int))) (v48:Int×Int):Option (((List (List Int)))) :=
 if (v48.2==(-1))=true then
 (idx c44 c40).bind fun v50 =>
 (idx v50 c43).bind fun v54 =>
 (idx v50 c43).bind fun _v55 =>
 some (c44.set c40.toNat (v50.set c43.toNat (wr .i64 (v54 + 1))))
 else
 (Gn c40 c43 c44 v48).bind fun r75 =>
 some r75
def Cb (v32:(List Ai)) (v37:(List AE)×Bool) (c40:Int):Nat->Int->(List (List Int))->Option (((List (List Int))))
 | 0,_,_=>none
 | f + 1,c43,c44 =>
  if (decide (c43 < c40))=true then
  (idx v32 c40).bind fun v46 =>
  (idx v32 c43).bind fun v47 =>
  (Ah v37.1 v46 v47).bind fun v48 =>
  (FK c40 c43 c44 v48).bind fun r78 =>
  Cb v32 v37 c40 f (wr .i64 (c43 + 1)) r78
  else
  some c44
def Ca (v32:(List Ai)) (v37:(List AE)×Bool):Nat->Int->(List (List Int))->Option (((List (List Int))))
 | 0,_,_=>none
 | f + 1,c40,c41 =>
  if (decide (c40 < (v32.length:Int)))=true then
  (Cb v32 v37 c40 100000 0 c41).bind fun r82 =>
  Ca v32 v37 f (wr .i64 (c40 + 1)) r82
  else
  some c41
def D5 (x0:(List (List AE))) (v32:(List Ai)):Nat->Int->(List (List Int))->Option (((List (List Int))) ⊕ (Unit))
 | 0,_,_=>none
 | f + 1,c33,c34 =>
  if (decide (c33 < (x0.length:Int)))=true then
  (idx x0 c33).bind fun v36 =>
  (D0 v36).bind fun v37 =>
  if (!v37.2)=true then
  some (.inr ())
  else
  (Ca v32 v37 100000 0 c34).bind fun r86 =>
  D5 x0 v32 f (wr .i64 (c33 + 1)) r86
  else
  some (.inl c34)
def Ea (x0:(List (List AE))) (x1:(List Am)):Option ((List (List Int))×Bool) :=
 (if (decide ((x0.length:Int) > 16))=true then some true else some (decide ((x1.length:Int) > 64))).bind fun j1 =>
 if j1=true then
 some (([]:(List (List Int))),false)
 else
 if (OD 24 (x1.length:Int))=true then
 (Ck x1 100000 0 (List.replicate (x1.length:Int).toNat ([]:(List Int)))).bind fun r29 =>
 (Gh x1).bind fun v32 =>
 (D5 x0 v32 100000 0 r29).bind fun r90 =>
 match r90 with
 | (.inl w91) =>
  some (w91,true)
 | (.inr _w97) =>
  some (([]:(List (List Int))),false)
 else none
theorem Lm {L:List Asn}(x1:(List Am)) (x0:(List (List AE))) (e14:AV):∀ (f:Nat) (c15:Int) (c16:(List (List Int))) (r:((List (List Int)))),Ck x1 f c15 c16=some r->∀ (hp:Hp),T hp ((own_ (ocL 1 48 (ocL 1 3 (ocV cdI))) e14 c16)::L)->SemYN E0 ⟨none,false⟩ (pc DZ [1,1,1,0,1,0,0]) f ⟨Fr 104 [(0,.sl 1 (x0.map (cdL 5 AA).enc)),(1,.sl 9 (x1.map AG.enc)),(6,e14),(29,.v (.int .i64 ((List.replicate (x1.length:Int).toNat ([]:(List Int))).length:Int))),(30,.v (.int .i64 c15))],hp⟩ (fun e s=>e=(.exit 0)/\∃ s2,(∃ (h':Hp),T h' ((own_ (ocL 1 48 (ocL 1 3 (ocV cdI))) e14 r)::L)/\s2=⟨Fr 104 [(0,.sl 1 (x0.map (cdL 5 AA).enc)),(1,.sl 9 (x1.map AG.enc)),(6,e14)],h'⟩)/\WkY E0 s s2):=by
 intro f;induction f with
 | zero=>intro c15 c16 r h; cases h
 | succ f ih0 =>
  intro c15 c16 r h  hp hT;unfold Ck at h;refine Hl ?_
  let p1:Nat×AV:=(30,.v (.int .i64 c15))
  let p2:Nat×AV:=(29,.v (.int .i64 ((List.replicate (x1.length:Int).toNat ([]:(List Int))).length:Int)))
  let p3:Nat×AV:=(1,.sl 9 (x1.map AG.enc))
  let p4:Nat×AV:=(0,.sl 1 (x0.map (cdL 5 AA).enc))
  refine DE AC [p4,p3,(6,e14),p2,p1,(31,.v (.bool (decide (c15 < ((List.replicate (x1.length:Int).toNat ([]:(List Int))).length:Int)))))] ?_;refine Bm ?_;refine Ec (b:=(decide (c15 < ((List.replicate (x1.length:Int).toNat ([]:(List Int))).length:Int)))) kr (fun hb17=>?_) (fun hb17=>?_)
  ·rw [if_pos hb17] at h
   refine SemY.skip ?_;refine Bm ?_;refine De ?_;refine DE AC [p4,p3,(6,e14),(7,.v (.int .i64 c15)),p2,p1] ?_;refine A9 ?_;refine CZ AC 3 ?_;refine Bz AC 0 rfl (Ci (AB rfl) rfl (DY (a:= .sl 9 (x1.map AG.enc)) kr (CB (el:=42) kr))) ?_;by_cases hk18:(OD 8 (x1.length:Int))=true
   case neg=>rw [if_neg hk18] at h; cases h
   rw [if_pos hk18] at h;obtain ⟨e22,hp19,hb20,hT21⟩:=P5 (P:=Tryz.prog) (o:=(ocV cdI)) (k:=1) (t:=3) (ty:=48) (bytes:=8) (kn:= .i64) (kc:= .i64) (m:=(x1.length:Int)) (x0:=0) hT (fun _=>⟨rfl,rfl⟩) kr kr hk18;refine Bz AC 0 rfl (VC (AB rfl) rfl kr (P7 (x:= .v (.int .i64 (x1.length:Int))) (y:= .v (.int .i64 (x1.length:Int))) kr kr hb20)) ?_;obtain ⟨v23,hv23,h⟩:=OB h
   have hT24:=(hT21.front 1 rfl)
   refine Bz AC 0 rfl (Ci (AB rfl) rfl (AS (a:=e14) (b:= .v (.int .i64 c15)) kr kr (V4 (bytes:=24) hT24 kr hv23))) ?_;obtain ⟨hp25,hs26,hT27⟩:=Un (P:=Tryz.prog) (ty:=48) XT hT24 (FL hv23).2 kr;refine RunL.store AC (y:=eAt e14 c15.toNat) (z:=e22) rfl (AB rfl) kr kr hs26 ?_;refine DT rfl (SemY.fr (l':=[p4,p3,(6,e14),p2,p1]) kr ?_);refine A9 ?_;refine CZ AC 2 ?_;refine DT rfl ?_;exact Ez WkY.f1 (ih0 (wr .i64 (c15 + 1)) (c16.set c15.toNat (List.replicate (x1.length:Int).toNat (0:Int))) _ h  hp25 hT27)
  ·rw [CL hb17] at h
   refine SemY.exit ?_;have hq:=OI h; subst hq;exact ⟨rfl,_,⟨hp,hT,rfl⟩,WkY.f1⟩
theorem Ll {L:List Asn}{hp:Hp}(c40:Int) (c43:Int) (c44:(List (List Int))) (v48:Int×Int) (x0:(List (List AE))) (e14:AV) (v32:(List Ai)) (c33:Int) (v37:(List AE)×Bool) (r:((List (List Int)))) (h:Gn c40 c43 c44 v48=some r) (hT:T hp ((own_ (ocL 1 48 (ocL 1 3 (ocV cdI))) e14 c44)::L)):SemY E0 ⟨none,false⟩ (pc DZ [1,1,1,1,1,0,1,0,0,1,1,0,0,1,1,1,1,0,0,1,1,0,0,1,1,0,0,1,1,0,0,1,1,1,0,1,1,1]) ⟨Fr 104 [(6,e14),(8,.sl 10 (v32.map AF.enc)),(11,.sl 1 (v37.1.map Cj.enc)),(13,.v (.int .i64 c40)),(14,.v (.int .i64 c43)),(42,.sl 1 (x0.map (cdL 5 AA).enc)),(43,.v (.int .i64 (x0.length:Int))),(44,.v (.int .i64 c33)),(56,.v (.int .i64 (v32.length:Int))),(57,.v (.int .i64 c40)),(60,.v (.int .i64 c40)),(61,.v (.int .i64 c43)),(89,.v (.bool (v48.2==1)))],hp⟩ (fun e s=>e = .normal/\∃ s2,(∃ (h':Hp),T h' ((own_ (ocL 1 48 (ocL 1 3 (ocV cdI))) e14 r)::L)/\s2=⟨Fr 104 [(6,e14),(8,.sl 10 (v32.map AF.enc)),(11,.sl 1 (v37.1.map Cj.enc)),(13,.v (.int .i64 c40)),(42,.sl 1 (x0.map (cdL 5 AA).enc)),(43,.v (.int .i64 (x0.length:Int))),(44,.v (.int .i64 c33)),(56,.v (.int .i64 (v32.length:Int))),(57,.v (.int .i64 c40)),(60,.v (.int .i64 c40)),(61,.v (.int .i64 c43))],h'⟩)/\WkY E0 s s2):=by
 unfold Gn at h;refine Ec (b:=(v48.2==1)) kr (fun hb62=>?_) (fun hb62=>?_)
 ·rw [if_pos hb62] at h
  refine A9 ?_;refine CZ AC 2 ?_;obtain ⟨v63,hv63,h⟩:=OB h;refine Bz AC 0 rfl (Ci (AB rfl) rfl (AS (a:=e14) (b:= .v (.int .i64 c43)) kr kr (V4 (bytes:=24) hT kr hv63))) ?_;obtain ⟨e64,hl65,hT66⟩:=RU (P:=Tryz.prog) (ty:=48) hT (FL hv63).2 kr kr;refine Bz AC 0 rfl (Ci (AB rfl) rfl (Ip (p:=eAt e14 c43.toNat) kr hl65)) ?_;refine CZ AC 1 ?_;obtain ⟨v67,hv67,h⟩:=OB h;refine Bz AC 0 rfl (Ci (AB rfl) rfl (AS (a:=e64) (b:= .v (.int .i64 c40)) kr kr (V4 (bytes:=8) hT66 kr hv67))) ?_;refine Bz AC 0 rfl (Ci (AB rfl) rfl (Ip (p:=eAt e64 c40.toNat) kr (S3 (y:= .v (.int .i64 v67)) (m:=1) (g:=false) hT66 (FL hv67).2 kr kr kr))) ?_;refine CZ AC 1 ?_;obtain ⟨v68,hv68,h⟩:=OB h;refine Bz AC 0 rfl (Ci (AB rfl) rfl (AS (a:=e64) (b:= .v (.int .i64 c40)) kr kr (V4 (bytes:=8) hT66 kr hv68))) ?_;obtain ⟨hp69,hs70,hT71⟩:=TZ (P:=Tryz.prog) (ty:=3) (y:= .v (.int .i64 (wr .i64 (v67 + 1)))) (v':=(wr .i64 (v67 + 1))) hT66 (FL hv68).2 kr kr kr;refine RunL.store AC (y:=eAt e64 c40.toNat) (z:= .v (.int .i64 (wr .i64 (v67 + 1)))) rfl (AB rfl) kr kr hs70 ?_;refine DT rfl ?_;have hq:=OI h; subst hq
  have hT74:=(SN hT71)
  exact ⟨rfl,_,⟨hp69,hT74,rfl⟩,WkY.f1⟩
 ·rw [CL hb62] at h
  refine SemY.skip ?_;have hq:=OI h; subst hq;exact ⟨rfl,_,⟨hp,hT,rfl⟩,WkY.f1⟩
theorem Lk {L:List Asn}{hp:Hp}(c40:Int) (c43:Int) (c44:(List (List Int))) (v48:Int×Int) (x0:(List (List AE))) (e14:AV) (v32:(List Ai)) (c33:Int) (v37:(List AE)×Bool) (r:((List (List Int)))) (h:FK c40 c43 c44 v48=some r) (hT:T hp ((own_ (ocL 1 48 (ocL 1 3 (ocV cdI))) e14 c44)::L)):SemY E0 ⟨none,false⟩ (pc DZ [1,1,1,1,1,0,1,0,0,1,1,0,0,1,1,1,1,0,0,1,1,0,0,1,1,0,0,1,1,0,0,1,1,1,0,1]) ⟨Fr 104 [(6,e14),(8,.sl 10 (v32.map AF.enc)),(11,.sl 1 (v37.1.map Cj.enc)),(13,.v (.int .i64 c40)),(14,.v (.int .i64 c43)),(42,.sl 1 (x0.map (cdL 5 AA).enc)),(43,.v (.int .i64 (x0.length:Int))),(44,.v (.int .i64 c33)),(56,.v (.int .i64 (v32.length:Int))),(57,.v (.int .i64 c40)),(60,.v (.int .i64 c40)),(61,.v (.int .i64 c43)),(77,.v (.int .i64 v48.2)),(78,.v (.bool (v48.2==(-1))))],hp⟩ (fun e s=>e = .normal/\∃ s2,(∃ (h':Hp),T h' ((own_ (ocL 1 48 (ocL 1 3 (ocV cdI))) e14 r)::L)/\s2=⟨Fr 104 [(6,e14),(8,.sl 10 (v32.map AF.enc)),(11,.sl 1 (v37.1.map Cj.enc)),(13,.v (.int .i64 c40)),(42,.sl 1 (x0.map (cdL 5 AA).enc)),(43,.v (.int .i64 (x0.length:Int))),(44,.v (.int .i64 c33)),(56,.v (.int .i64 (v32.length:Int))),(57,.v (.int .i64 c40)),(60,.v (.int .i64 c40)),(61,.v (.int .i64 c43))],h'⟩)/\WkY E0 s s2):=by
 unfold FK at h;refine Ec (b:=(v48.2==(-1))) kr (fun hb49=>?_) (fun hb49=>?_)
 ·rw [if_pos hb49] at h
  refine A9 ?_;refine CZ AC 2 ?_;obtain ⟨v50,hv50,h⟩:=OB h;refine Bz AC 0 rfl (Ci (AB rfl) rfl (AS (a:=e14) (b:= .v (.int .i64 c40)) kr kr (V4 (bytes:=24) hT kr hv50))) ?_;obtain ⟨e51,hl52,hT53⟩:=RU (P:=Tryz.prog) (ty:=48) hT (FL hv50).2 kr kr;refine Bz AC 0 rfl (Ci (AB rfl) rfl (Ip (p:=eAt e14 c40.toNat) kr hl52)) ?_;refine CZ AC 1 ?_;obtain ⟨v54,hv54,h⟩:=OB h;refine Bz AC 0 rfl (Ci (AB rfl) rfl (AS (a:=e51) (b:= .v (.int .i64 c43)) kr kr (V4 (bytes:=8) hT53 kr hv54))) ?_;refine Bz AC 0 rfl (Ci (AB rfl) rfl (Ip (p:=eAt e51 c43.toNat) kr (S3 (y:= .v (.int .i64 v54)) (m:=1) (g:=false) hT53 (FL hv54).2 kr kr kr))) ?_;refine CZ AC 1 ?_;obtain ⟨v55,hv55,h⟩:=OB h;refine Bz AC 0 rfl (Ci (AB rfl) rfl (AS (a:=e51) (b:= .v (.int .i64 c43)) kr kr (V4 (bytes:=8) hT53 kr hv55))) ?_;obtain ⟨hp56,hs57,hT58⟩:=TZ (P:=Tryz.prog) (ty:=3) (y:= .v (.int .i64 (wr .i64 (v54 + 1)))) (v':=(wr .i64 (v54 + 1))) hT53 (FL hv55).2 kr kr kr;refine RunL.store AC (y:=eAt e51 c43.toNat) (z:= .v (.int .i64 (wr .i64 (v54 + 1)))) rfl (AB rfl) kr kr hs57 ?_;refine DT rfl ?_;have hq:=OI h; subst hq
  have hT61:=(SN hT58)
  exact ⟨rfl,_,⟨hp56,hT61,rfl⟩,WkY.f1⟩
 ·rw [CL hb49] at h
  refine DE AC [(6,e14),(8,.sl 10 (v32.map AF.enc)),(11,.sl 1 (v37.1.map Cj.enc)),(13,.v (.int .i64 c40)),(14,.v (.int .i64 c43)),(42,.sl 1 (x0.map (cdL 5 AA).enc)),(43,.v (.int .i64 (x0.length:Int))),(44,.v (.int .i64 c33)),(56,.v (.int .i64 (v32.length:Int))),(57,.v (.int .i64 c40)),(60,.v (.int .i64 c40)),(61,.v (.int .i64 c43)),(89,.v (.bool (v48.2==1)))] ?_;obtain ⟨r75,hr75,h⟩:=OB h;refine K0 (Ll c40 c43 c44 v48 x0 e14 v32 c33 v37 _ hr75 hT) ?_;rintro _ ⟨hp76,hT77,rfl⟩;have hq:=OI h; subst hq;exact ⟨rfl,_,⟨hp76,hT77,rfl⟩,WkY.f1⟩
theorem Lp {L:List Asn}(v32:(List Ai)) (v37:(List AE)×Bool) (c40:Int) (x0:(List (List AE))) (e14:AV) (c33:Int):∀ (f:Nat) (c43:Int) (c44:(List (List Int))) (r:((List (List Int)))),Cb v32 v37 c40 f c43 c44=some r->∀ (hp:Hp),T hp ((own_ (ocL 1 48 (ocL 1 3 (ocV cdI))) e14 c44)::L)->SemYN E0 ⟨none,false⟩ (pc DZ [1,1,1,1,1,0,1,0,0,1,1,0,0,1,1,1,1,0,0,1,1,0,0,1,1,0,0]) f ⟨Fr 104 [(6,e14),(8,.sl 10 (v32.map AF.enc)),(11,.sl 1 (v37.1.map Cj.enc)),(13,.v (.int .i64 c40)),(42,.sl 1 (x0.map (cdL 5 AA).enc)),(43,.v (.int .i64 (x0.length:Int))),(44,.v (.int .i64 c33)),(56,.v (.int .i64 (v32.length:Int))),(57,.v (.int .i64 c40)),(60,.v (.int .i64 c40)),(61,.v (.int .i64 c43))],hp⟩ (fun e s=>e=(.exit 6)/\∃ s2,(∃ (h':Hp),T h' ((own_ (ocL 1 48 (ocL 1 3 (ocV cdI))) e14 r)::L)/\s2=⟨Fr 104 [(6,e14),(8,.sl 10 (v32.map AF.enc)),(11,.sl 1 (v37.1.map Cj.enc)),(42,.sl 1 (x0.map (cdL 5 AA).enc)),(43,.v (.int .i64 (x0.length:Int))),(44,.v (.int .i64 c33)),(56,.v (.int .i64 (v32.length:Int))),(57,.v (.int .i64 c40))],h'⟩)/\WkY E0 s s2):=by
 intro f;induction f with
 | zero=>intro c43 c44 r h; cases h
 | succ f ih0 =>
  intro c43 c44 r h  hp hT;unfold Cb at h;refine Hl ?_
  let p1:Nat×AV:=(61,.v (.int .i64 c43))
  let p2:Nat×AV:=(60,.v (.int .i64 c40))
  let p3:Nat×AV:=(57,.v (.int .i64 c40))
  let p4:Nat×AV:=(56,.v (.int .i64 (v32.length:Int)))
  let p5:Nat×AV:=(44,.v (.int .i64 c33))
  let p6:Nat×AV:=(43,.v (.int .i64 (x0.length:Int)))
  let p7:Nat×AV:=(42,.sl 1 (x0.map (cdL 5 AA).enc))
  let p8:Nat×AV:=(13,.v (.int .i64 c40))
  let p9:Nat×AV:=(11,.sl 1 (v37.1.map Cj.enc))
  let p10:Nat×AV:=(8,.sl 10 (v32.map AF.enc))
  refine DE AC [(6,e14),p10,p9,p8,p7,p6,p5,p4,p3,p2,p1,(62,.v (.bool (decide (c43 < c40))))] ?_;refine Bm ?_;refine Ec (b:=(decide (c43 < c40))) kr (fun hb45=>?_) (fun hb45=>?_)
  ·rw [if_pos hb45] at h
   refine SemY.skip ?_;refine Bm ?_;refine De ?_
   let p11:Nat×AV:=(14,.v (.int .i64 c43))
   refine DE AC [(6,e14),p10,p9,p8,p11,p7,p6,p5,p4,p3,p2,p1] ?_;refine Bm ?_;refine Rq 15 AC.mixed kr kr ?_;refine RunDT.q (x:= .sl 1 (v37.1.map Cj.enc)) rfl kr rfl (AB rfl) rfl kr kr ?_;refine RunDT.q (x:= .sl 10 (v32.map AF.enc)) rfl kr rfl (AB rfl) rfl kr kr ?_;refine RunDT.q (x:= .v (.int .i64 c40)) rfl kr rfl (AB rfl) rfl kr kr ?_;obtain ⟨v46,hv46,h⟩:=OB h;refine RunDT.q (x:= .pe (AF.enc v46) 0) rfl kr rfl (AB rfl) rfl (AS (a:= .sl 10 (v32.map AF.enc)) (b:= .v (.int .i64 c40)) kr kr (FM (e:=AF.enc) (el:=115) (k:=10) (ki:= .i64) kr kr hv46)) kr ?_;refine RunDT.q (x:=(AF.enc v46)) rfl kr rfl (AB rfl) rfl kr kr ?_;refine RunDT.q (x:= .sl 10 (v32.map AF.enc)) rfl kr rfl (AB rfl) rfl kr kr ?_;refine RunDT.q (x:= .v (.int .i64 c43)) rfl kr rfl (AB rfl) rfl kr kr ?_;obtain ⟨v47,hv47,h⟩:=OB h;refine RunDT.q (x:= .pe (AF.enc v47) 0) rfl kr rfl (AB rfl) rfl (AS (a:= .sl 10 (v32.map AF.enc)) (b:= .v (.int .i64 c43)) kr kr (FM (e:=AF.enc) (el:=115) (k:=10) (ki:= .i64) kr kr hv47)) kr ?_;refine RunDT.q (x:=(AF.enc v47)) rfl kr rfl (AB rfl) rfl kr kr ?_;obtain ⟨v48,hv48,h⟩:=OB h;refine QX (v:=v48) (caps:=[]) (xs:=[.sl 1 (v37.1.map Cj.enc),AF.enc v46,AF.enc v47]) (u:=(v37.1,v46,v47,())) rfl rfl DH rfl (AB rfl) kr kr (Dd (Ey (c:=(cdL 1 Cj)) (v:=v37.1)) (Dd (Ey (c:=AF) (v:=v46)) (Dd (Ey (c:=AF) (v:=v47)) SeesD.nil))) kr hv48 ?_;refine RunDT.q (x:= .tp [.v (.int .i64 v48.1),.v (.int .i64 v48.2)]) rfl kr rfl (AB rfl) rfl kr kr ?_;refine RunDT.q (x:= .v (.int .i64 v48.1)) rfl kr rfl (AB rfl) rfl kr kr ?_;refine RunDT.q (x:= .v (.int .i64 v48.2)) rfl kr rfl (AB rfl) rfl kr kr ?_;refine RunDT.q (x:= .v (.int .i64 v48.1)) rfl kr rfl (AB rfl) rfl kr kr ?_;refine RunDT.q (x:= .v (.int .i64 v48.2)) rfl kr rfl (AB rfl) rfl kr kr ?_;refine RunDT.done rfl (SemY.fr (l':=[(6,e14),p10,p9,p8,p11,(16,.v (.int .i64 v48.2)),p7,p6,p5,p4,p3,p2,p1]) kr ?_);refine DE AC [(6,e14),p10,p9,p8,p11,p7,p6,p5,p4,p3,p2,p1,(77,.v (.int .i64 v48.2))] ?_
   refine De ?_;refine DE AC [(6,e14),p10,p9,p8,p11,p7,p6,p5,p4,p3,p2,p1,(77,.v (.int .i64 v48.2)),(78,.v (.bool (v48.2==(-1))))] ?_;obtain ⟨r78,hr78,h⟩:=OB h;refine K0 (Lk c40 c43 c44 v48 x0 e14 v32 c33 v37 _ hr78 hT) ?_;rintro _ ⟨hp79,hT80,rfl⟩;refine A9 ?_;refine CZ AC 2 ?_;refine DT rfl ?_;exact Ez WkY.f1 (ih0 (wr .i64 (c43 + 1)) r78 _ h  hp79 hT80)
  ·rw [CL hb45] at h
   refine SemY.exit ?_;have hq:=OI h; subst hq;exact ⟨rfl,_,⟨hp,hT,rfl⟩,WkY.f1⟩
theorem Ln {L:List Asn}(v32:(List Ai)) (v37:(List AE)×Bool) (x0:(List (List AE))) (e14:AV) (c33:Int):∀ (f:Nat) (c40:Int) (c41:(List (List Int))) (r:((List (List Int)))),Ca v32 v37 f c40 c41=some r->∀ (hp:Hp),T hp ((own_ (ocL 1 48 (ocL 1 3 (ocV cdI))) e14 c41)::L)->SemYN E0 ⟨none,false⟩ (pc DZ [1,1,1,1,1,0,1,0,0,1,1,0,0,1,1,1,1,0,0]) f ⟨Fr 104 [(6,e14),(8,.sl 10 (v32.map AF.enc)),(11,.sl 1 (v37.1.map Cj.enc)),(42,.sl 1 (x0.map (cdL 5 AA).enc)),(43,.v (.int .i64 (x0.length:Int))),(44,.v (.int .i64 c33)),(56,.v (.int .i64 (v32.length:Int))),(57,.v (.int .i64 c40))],hp⟩ (fun e s=>e=(.exit 4)/\∃ s2,(∃ (h':Hp),T h' ((own_ (ocL 1 48 (ocL 1 3 (ocV cdI))) e14 r)::L)/\s2=⟨Fr 104 [(6,e14),(8,.sl 10 (v32.map AF.enc)),(42,.sl 1 (x0.map (cdL 5 AA).enc)),(43,.v (.int .i64 (x0.length:Int))),(44,.v (.int .i64 c33))],h'⟩)/\WkY E0 s s2):=by
 intro f;induction f with
 | zero=>intro c40 c41 r h; cases h
 | succ f ih0 =>
  intro c40 c41 r h  hp hT;unfold Ca at h;refine Hl ?_
  let p1:Nat×AV:=(57,.v (.int .i64 c40))
  let p2:Nat×AV:=(56,.v (.int .i64 (v32.length:Int)))
  let p3:Nat×AV:=(44,.v (.int .i64 c33))
  let p4:Nat×AV:=(43,.v (.int .i64 (x0.length:Int)))
  let p5:Nat×AV:=(42,.sl 1 (x0.map (cdL 5 AA).enc))
  let p6:Nat×AV:=(11,.sl 1 (v37.1.map Cj.enc))
  let p7:Nat×AV:=(8,.sl 10 (v32.map AF.enc))
  refine DE AC [(6,e14),p7,p6,p5,p4,p3,p2,p1,(58,.v (.bool (decide (c40 < (v32.length:Int)))))] ?_;refine Bm ?_;refine Ec (b:=(decide (c40 < (v32.length:Int)))) kr (fun hb42=>?_) (fun hb42=>?_)
  ·rw [if_pos hb42] at h
   refine SemY.skip ?_;refine Bm ?_;refine De ?_;refine DE AC [(6,e14),p7,p6,(13,.v (.int .i64 c40)),p5,p4,p3,p2,p1] ?_;refine DE AC [(6,e14),p7,p6,(13,.v (.int .i64 c40)),p5,p4,p3,p2,p1,(60,.v (.int .i64 c40)),(61,.v (.int .i64 0))] ?_;refine De ?_;refine SemY.loop (n:=100000) ?_;obtain ⟨r82,hr82,h⟩:=OB h;refine Ge (Ez WkY.f1 (Lp v32 v37 c40 x0 e14 c33 _ 0 c41 _ hr82  hp hT)) ?_;rintro _ ⟨hp83,hT84,rfl⟩;refine A9 ?_;refine CZ AC 2 ?_;refine DT rfl ?_;exact Ez WkY.f1 (ih0 (wr .i64 (c40 + 1)) r82 _ h  hp83 hT84)
  ·rw [CL hb42] at h
   refine SemY.exit ?_;have hq:=OI h; subst hq;exact ⟨rfl,_,⟨hp,hT,rfl⟩,WkY.f1⟩
theorem Il {L:List Asn}(x0:(List (List AE))) (v32:(List Ai)) (e14:AV):∀ (f:Nat) (c33:Int) (c34:(List (List Int))) (r:((List (List Int))) ⊕ (Unit)),D5 x0 v32 f c33 c34=some r->∀ (hp:Hp),T hp ((own_ (ocL 1 48 (ocL 1 3 (ocV cdI))) e14 c34)::L)->SemYN E0 ⟨none,false⟩ (pc DZ [1,1,1,1,1,0,1,0,0]) f ⟨Fr 104 [(6,e14),(8,.sl 10 (v32.map AF.enc)),(42,.sl 1 (x0.map (cdL 5 AA).enc)),(43,.v (.int .i64 (x0.length:Int))),(44,.v (.int .i64 c33))],hp⟩ (fun e s=>match r with
 | (.inl w)=>e=(.exit 2)/\∃ s2,(∃ (h':Hp),T h' ((own_ (ocL 1 48 (ocL 1 3 (ocV cdI))) e14 w)::L)/\s2=⟨Fr 104 [(6,e14)],h'⟩)/\WkY E0 s s2
 | (.inr _w)=>e = .ret/\∃ s2,(∃ (h':Hp),T h' (L)/\s2=⟨Fr 104 [(4,.e0),(5,.v (.bool false))],h'⟩)/\WkY E0 s s2):=by
 intro f;induction f with
 | zero=>intro c33 c34 r h; cases h
 | succ f ih0 =>
  intro c33 c34 r h  hp hT;unfold D5 at h;refine Hl ?_
  let p1:Nat×AV:=(44,.v (.int .i64 c33))
  let p2:Nat×AV:=(43,.v (.int .i64 (x0.length:Int)))
  let p3:Nat×AV:=(42,.sl 1 (x0.map (cdL 5 AA).enc))
  let p4:Nat×AV:=(8,.sl 10 (v32.map AF.enc))
  refine DE AC [(6,e14),p4,p3,p2,p1,(45,.v (.bool (decide (c33 < (x0.length:Int)))))] ?_;refine Bm ?_;refine Ec (b:=(decide (c33 < (x0.length:Int)))) kr (fun hb35=>?_) (fun hb35=>?_)
  ·rw [if_pos hb35] at h
   refine SemY.skip ?_;refine Bm ?_;refine De ?_;refine Bm ?_;refine A9 ?_;obtain ⟨v36,hv36,h⟩:=OB h;refine Bz AC 0 rfl (Ci (AB rfl) rfl (AS (a:= .sl 1 (x0.map (cdL 5 AA).enc)) (b:= .v (.int .i64 c33)) kr kr (FM (e:=(cdL 5 AA).enc) (el:=22) (k:=1) (ki:= .i64) kr kr hv36))) ?_;refine Fq AC [(6,e14),p4,(10,.sl 5 (v36.map AA.enc)),p3,p2,p1] ?_;refine Bm ?_;refine A9 ?_;refine CZ AC 1 ?_;obtain ⟨v37,hv37,h⟩:=OB h;refine Ih (v:=v37) (caps:=[]) (xs:=[.sl 5 (v36.map AA.enc)]) (u:=(v36,())) rfl rfl Ki rfl (AB rfl) kr kr (Dd (Ey (c:=(cdL 5 AA)) (v:=v36)) SeesD.nil) (.inr ⟨by kernel_rfl,GE.de (v36,())⟩) hv37 ?_
   let p5:Nat×AV:=(11,.sl 1 (v37.1.map Cj.enc))
   refine Fq AC [(6,e14),p4,p5,(12,.v (.bool v37.2)),p3,p2,p1] ?_;refine Bm ?_;refine DE AC [(6,e14),p4,p5,p3,p2,p1,(54,.v (.bool (!v37.2)))] ?_;refine Ec (b:=(!v37.2)) kr (fun hb38=>?_) (fun hb38=>?_)
   ·rw [if_pos hb38] at h
    refine DE AC [(4,.e0),(5,.v (.bool false))] ?_;refine SemY.ret ?_;have hq:=OI h; subst hq
    have hT39:=hT.drop
    exact ⟨rfl,_,⟨hp,hT39,rfl⟩,WkY.f1⟩
   ·rw [CL hb38] at h
    refine SemY.skip ?_;refine Bm ?_;refine A9 ?_;refine CZ AC 1 ?_;refine Bz AC 0 rfl (Ci (AB rfl) rfl (DY (a:= .sl 10 (v32.map AF.enc)) kr (CB (el:=115) kr))) ?_;refine Fq AC [(6,e14),p4,p5,p3,p2,p1,(56,.v (.int .i64 (v32.length:Int))),(57,.v (.int .i64 0))] ?_;refine De ?_;refine SemY.loop (n:=100000) ?_;obtain ⟨r86,hr86,h⟩:=OB h;refine Ge (Ez WkY.f1 (Ln v32 v37 x0 e14 c33 _ 0 c34 _ hr86  hp hT)) ?_;rintro _ ⟨hp87,hT88,rfl⟩;refine A9 ?_;refine CZ AC 2 ?_;refine DT rfl ?_;exact Ez WkY.f1 (ih0 (wr .i64 (c33 + 1)) r86 _ h  hp87 hT88)
  ·rw [CL hb35] at h
   refine SemY.exit ?_;have hq:=OI h; subst hq;exact ⟨rfl,_,⟨hp,hT,rfl⟩,WkY.f1⟩
theorem M2 {L:List Asn}{hp:Hp}(x0:(List (List AE))) (x1:(List Am)) (r:(List (List Int))×Bool) (h:Ea x0 x1=some r) (hT:T hp (L)):SemY E0 ⟨none,false⟩ DZ ⟨Fr 104 (BP 0 [.sl 1 (x0.map (cdL 5 AA).enc),.sl 9 (x1.map AG.enc)]),hp⟩ fun x s'=>(x = .normal\/x = .ret)/\∃ ys,Em E0.P s'.fr s'.hp Tryz.f107.results.toList=some ys/\(fun v h'=>v = .tp [.sl 1 (r.1.map (cdL 1 cdI).enc),.v (.bool r.2)]/\T h' (L)) (Ev ys) s'.hp:=by
 unfold Ea at h;refine Oq (Oo (s1:=⟨Fr 104 [(0,.sl 1 (x0.map (cdL 5 AA).enc)),(1,.sl 9 (x1.map AG.enc))],hp⟩) WkY.f1 ?_);refine DE AC [(0,.sl 1 (x0.map (cdL 5 AA).enc)),(1,.sl 9 (x1.map AG.enc))] ?_;refine Bm ?_;refine Bm ?_;obtain ⟨j1,hj1,h⟩:=OB h;refine Pg (A:=fun s1=>∃ (h':Hp),T h' (L)/\s1=⟨Fr 104 [(0,.sl 1 (x0.map (cdL 5 AA).enc)),(1,.sl 9 (x1.map AG.enc)),(24,.v (.bool j1))],h'⟩) ?_ ?_
 ·refine CZ AC 1 ?_
  refine Bz AC 0 rfl (Ci (AB rfl) rfl (DY (a:= .sl 1 (x0.map (cdL 5 AA).enc)) kr (CB (el:=22) kr))) ?_;refine Mu (n:=104) AC 2 [(0,.sl 1 (x0.map (cdL 5 AA).enc)),(1,.sl 9 (x1.map AG.enc)),(20,.v (.bool (decide ((x0.length:Int) > 16))))] hp kr ?_;rcases BE (decide ((x0.length:Int) > 16)) with hc104 | hc104
  ·rw [if_pos hc104] at hj1
   rw [hc104];refine CZ AC 4 ?_;have hq:=OI hj1; subst hq;exact DT rfl ⟨_,⟨hp,hT,rfl⟩,WkY.f1⟩
  ·rw [CL hc104] at hj1
   rw [hc104];refine CZ AC 1 ?_;refine Bz AC 0 rfl (Ci kr rfl (DY (a:= .sl 9 (x1.map AG.enc)) kr (CB (el:=42) kr))) ?_;refine CZ AC 2 ?_;have hq:=OI hj1; subst hq;exact DT rfl ⟨_,⟨hp,hT,rfl⟩,WkY.f1⟩
 rintro _ ⟨hp3,hT4,rfl⟩;refine Ec (b:=j1) kr (fun hb5=>?_) (fun hb5=>?_)
 ·rw [if_pos hb5] at h
  refine DE AC [(4,.e0),(5,.v (.bool false))] ?_;refine SemY.ret ?_;have hq:=OI h; subst hq
  have hT6:=(T.e0 (k:=1) (ty:=48) (o:=(ocL 1 3 (ocV cdI))) hT4)
  obtain ⟨hp7,hw8,hT9⟩:=Mh (E:=E0) (n:=104) (l:=[(4,.e0),(5,.v (.bool false))]) (l':=[(4,.sl 1 (([]:(List (List Int))).map (cdL 1 cdI).enc)),(5,.v (.bool false))]) hT6 (LkT.at_ ⟨.inr ⟨kr,rfl⟩,.inl kr,trivial⟩);exact ⟨⟨Fr 104 [(4,.sl 1 (([]:(List (List Int))).map (cdL 1 cdI).enc)),(5,.v (.bool false))],hp7⟩,(WkY.trans (WkY.trans WkY.f1 hw8) WkY.f1),.inr rfl,[.sl 1 (([]:(List (List Int))).map (cdL 1 cdI).enc),.v (.bool false)],kr,⟨rfl,hT9⟩⟩
 ·rw [CL hb5] at h
  refine SemY.skip ?_;refine Bm ?_;refine A9 ?_;refine CZ AC 1 ?_;refine Bz AC 0 rfl (Ci (AB rfl) rfl (DY (a:= .sl 9 (x1.map AG.enc)) kr (CB (el:=42) kr))) ?_;by_cases hk10:(OD 24 (x1.length:Int))=true
  case neg=>rw [if_neg hk10] at h; cases h
  rw [if_pos hk10] at h;obtain ⟨e14,hp11,hb12,hT13⟩:=P5 (P:=Tryz.prog) (o:=(ocL 1 3 (ocV cdI))) (k:=1) (t:=48) (ty:=46) (bytes:=24) (kn:= .i64) (kc:= .i64) (m:=(x1.length:Int)) (x0:=([]:(List Int))) hT4 (fun _=> .inl ⟨rfl,rfl,rfl⟩) kr kr hk10;refine Bz AC 0 rfl (VC (AB rfl) rfl kr (P7 (x:= .v (.int .i64 (x1.length:Int))) (y:= .v (.int .i64 (x1.length:Int))) kr kr hb12)) ?_;refine Fq AC [(0,.sl 1 (x0.map (cdL 5 AA).enc)),(1,.sl 9 (x1.map AG.enc)),(6,e14)] ?_;refine Bm ?_;refine Bm ?_;refine A9 ?_;refine CZ AC 1 ?_;refine Bz AC 0 rfl (Ci (AB rfl) rfl (DY (a:=e14) kr (Y2 hT13 kr))) ?_;refine Fq AC [(0,.sl 1 (x0.map (cdL 5 AA).enc)),(1,.sl 9 (x1.map AG.enc)),(6,e14),(29,.v (.int .i64 ((List.replicate (x1.length:Int).toNat ([]:(List Int))).length:Int))),(30,.v (.int .i64 0))] ?_;refine De ?_;refine SemY.loop (n:=100000) ?_;obtain ⟨r29,hr29,h⟩:=OB h;refine Ge (Ez WkY.f1 (Lm x1 x0 e14 _ 0 (List.replicate (x1.length:Int).toNat ([]:(List Int))) _ hr29  hp11 hT13)) ?_;rintro _ ⟨hp30,hT31,rfl⟩;refine Bm ?_;refine A9 ?_;refine CZ AC 1 ?_;obtain ⟨v32,hv32,h⟩:=OB h;refine Ih (v:=v32) (caps:=[]) (xs:=[.sl 9 (x1.map AG.enc)]) (u:=(x1,())) rfl rfl QS rfl (AB rfl) kr kr (Dd (Ey (c:=(cdL 9 AG)) (v:=x1)) SeesD.nil) (.inr ⟨by kernel_rfl,Hf.de (x1,())⟩) hv32 ?_;refine Fq AC [(0,.sl 1 (x0.map (cdL 5 AA).enc)),(6,e14),(8,.sl 10 (v32.map AF.enc))] ?_;refine Bm ?_;refine Bm ?_;refine A9 ?_;refine CZ AC 1 ?_;refine Bz AC 0 rfl (Ci (AB rfl) rfl (DY (a:= .sl 1 (x0.map (cdL 5 AA).enc)) kr (CB (el:=22) kr))) ?_;refine Fq AC [(6,e14),(8,.sl 10 (v32.map AF.enc)),(42,.sl 1 (x0.map (cdL 5 AA).enc)),(43,.v (.int .i64 (x0.length:Int))),(44,.v (.int .i64 0))] ?_;refine De ?_;refine SemY.loop (n:=100000) ?_;obtain ⟨r90,hr90,h⟩:=OB h;rcases r90 with w91 | w97
  ·try dsimp only at h
   refine Ge (Ez WkY.f1 (Il x0 v32 e14 _ 0 r29 _ hr90  hp30 hT31)) ?_;rintro _ ⟨hp92,hT93,rfl⟩;refine DE AC [(4,e14),(5,.v (.bool true))] ?_;refine SemY.ret ?_;have hq:=OI h; subst hq;obtain ⟨hp94,hw95,hT96⟩:=Mh (E:=E0) (n:=104) (l:=[(4,e14),(5,.v (.bool true))]) (l':=[(4,.sl 1 (w91.map (cdL 1 cdI).enc)),(5,.v (.bool true))]) hT93 (LkT.at_ ⟨.inr ⟨kr,rfl⟩,.inl kr,trivial⟩);exact ⟨⟨Fr 104 [(4,.sl 1 (w91.map (cdL 1 cdI).enc)),(5,.v (.bool true))],hp94⟩,(WkY.trans (WkY.trans WkY.f1 hw95) WkY.f1),.inr rfl,[.sl 1 (w91.map (cdL 1 cdI).enc),.v (.bool true)],kr,⟨rfl,hT96⟩⟩
  ·try dsimp only at h
   refine Ge (Ez WkY.f1 (Il x0 v32 e14 _ 0 r29 _ hr90  hp30 hT31)) ?_;rintro _ ⟨hp98,hT99,rfl⟩;have hq:=OI h; subst hq
   have hT100:=(T.e0 (k:=1) (ty:=48) (o:=(ocL 1 3 (ocV cdI))) hT99)
   obtain ⟨hp101,hw102,hT103⟩:=Mh (E:=E0) (n:=104) (l:=[(4,.e0),(5,.v (.bool false))]) (l':=[(4,.sl 1 (([]:(List (List Int))).map (cdL 1 cdI).enc)),(5,.v (.bool false))]) hT100 (LkT.at_ ⟨.inr ⟨kr,rfl⟩,.inl kr,trivial⟩);exact ⟨⟨Fr 104 [(4,.sl 1 (([]:(List (List Int))).map (cdL 1 cdI).enc)),(5,.v (.bool false))],hp101⟩,(WkY.trans (WkY.trans WkY.f1 hw102) WkY.f1),.inr rfl,[.sl 1 (([]:(List (List Int))).map (cdL 1 cdI).enc),.v (.bool false)],kr,⟨rfl,hT103⟩⟩
noncomputable def IV:Cs ((List (List AE))×(List Am)×Unit):=(csC (cdL 1 (cdL 5 AA)) (csC (cdL 9 AG) csN))
noncomputable def Ke (r:(List (List Int))×Bool):AV:= .tp [(cdL 1 (cdL 1 cdI)).enc r.1,cdB.enc r.2]
noncomputable def PR:List AV->Option AV:=D4 IV (fun a=>Ea a.1 a.2.1) Ke
theorem JL:XOk 107 PR:=by
 refine AW Tryz.func107 (c:=DZ) ?h2 ⟨Tryz.call107⟩ IV (fun a=>Ea a.1 a.2.1) Ke (fun a=>(by show 2<=104; decide)) ?h3 ?h4
 case h2=>kernel_rfl
 case h3=>intro b; kernel_rfl
 case h4 =>
  intro a b h;refine Sem.mono (QY (M2 (L:=[]) (hp:=[]) a.1 a.2.1 b h T.nil)) fun e s' hs=>?_
  obtain ⟨h1,ys,h2,h3,-⟩:=hs;exact ⟨h1,ys,h2,h3⟩
/- trestle/court.Compromise -/
noncomputable def B3:Code:=Br Tryz.f49
def CF (x0:(List (List AE))) (x1:(List Am)):Nat->Int->Option ((Unit) ⊕ (Int×Int))
 | 0,_=>none
 | f + 1,c2 =>
  if (decide (c2 < (x0.length:Int)))=true then
  (idx x0 c2).bind fun v4 =>
  (Eo v4).bind fun v5 =>
  if (v5.2 != 0)=true then
  some (.inr (0,v5.2))
  else
  CF x0 x1 f (wr .i64 (c2 + 1))
  else
  some (.inl ())
def Di (_x1:(List Am)) (v12:(List (List Int))×Bool) (c18:Int) (_c21:(List Int)) (_c22:(List Int)) (c23:Int) (c29:Int) (c30:Int):Option ((Int)) :=
 if ((DS .i64 c18 (wr .i64 (1 * 2 ^ min c30.toNat 64)))==0)=true then
 (idx v12.1 c30).bind fun v34 =>
 (idx v34 c23).bind fun v35 =>
 some (wr .i64 (c29 + v35))
 else
 some c29
def BG (x1:(List Am)) (v12:(List (List Int))×Bool) (c18:Int) (c21:(List Int)) (c22:(List Int)) (c23:Int):Nat->Int->Int->Option ((Int))
 | 0,_,_=>none
 | f + 1,c29,c30 =>
  if (decide (c30 < (x1.length:Int)))=true then
  if (decide (0<=c30))=true then
  (Di x1 v12 c18 c21 c22 c23 c29 c30).bind fun r37 =>
  BG x1 v12 c18 c21 c22 c23 f r37 (wr .i64 (c30 + 1))
  else none
  else
  some c29
def C0 (_x1:(List Am)) (_v12:(List (List Int))×Bool) (c18:Int) (c23:Int) (r39:Int) (j45:(List Int)×(List Int)×Bool):Option (((List Int)×(List Int))) :=
 if j45.2.2=true then
 (idx j45.1 c18).bind fun _v47 =>
 (idx j45.2.1 c18).bind fun _v48 =>
 some ((j45.1.set c18.toNat r39),(j45.2.1.set c18.toNat c23))
 else
 some (j45.1,j45.2.1)
def BF (x1:(List Am)) (v12:(List (List Int))×Bool) (c18:Int):Nat->(List Int)->(List Int)->Int->Option (((List Int)×(List Int)))
 | 0,_,_,_=>none
 | f + 1,c21,c22,c23 =>
  if (decide (c23 < (x1.length:Int)))=true then
  if (decide (0<=c23))=true then
  if ((DS .i64 c18 (wr .i64 (1 * 2 ^ min c23.toNat 64)))!=0)=true then
  BF x1 v12 c18 f c21 c22 (wr .i64 (c23 + 1))
  else
  if (decide (0<=c23))=true then
  (idx c21 (orI .i64 c18 (wr .i64 (1 * 2 ^ min c23.toNat 64)))).bind fun v28 =>
  (BG x1 v12 c18 c21 c22 c23 100000 v28 0).bind fun r39 =>
  (idx c21 c18).bind fun v40 =>
  (if (decide (v40 < 0))=true then some (c21,c22,true) else (idx c21 c18).bind fun v41 =>
  some (c21,c22,(decide (r39 < v41)))).bind fun j45 =>
  (C0 x1 v12 c18 c23 r39 j45).bind fun r51 =>
  BF x1 v12 c18 f r51.1 r51.2 (wr .i64 (c23 + 1))
  else none
  else none
  else
  some (c21,c22)
def Ch (x1:(List Am)) (v12:(List (List Int))×Bool):Nat->(List Int)->(List Int)->Int->Option (((List Int)×(List Int)))
 | 0,_,_,_=>none
 | f + 1,c16,c17,c18 =>
  if (decide (c18≥0))=true then
  (idx c16 c18).bind fun _v20 =>
  (BF x1 v12 c18 100000 (c16.set c18.toNat (-1)) c17 0).bind fun r55 =>
  Ch x1 v12 f r55.1 r55.2 (wr .i64 (c18 - 1))
  else
  some (c16,c17)
def CG (x1:(List Am)) (r58:(List Int)×(List Int)):Nat->(List Int)->Int->Option (((List Int)))
 | 0,_,_=>none
 | f + 1,c59,c60 =>
  if (c60 != (wr .i64 ((wr .i64 (1 * 2 ^ min (x1.length:Int).toNat 64)) - 1)))=true then
  (idx r58.2 c60).bind fun v62 =>
  if (Gg 8 (c59.length + 1))=true then
  (idx r58.2 c60).bind fun v64 =>
  if (decide (0<=v64))=true then
  CG x1 r58 f (c59++[v62]) (orI .i64 c60 (wr .i64 (1 * 2 ^ min v64.toNat 64)))
  else none
  else none
  else
  some c59
def DK (x0:(List (List AE))) (x1:(List Am)):Option ((List Int)×Int×Int) :=
 if (decide ((x0.length:Int) > 16))=true then
 some ([],0,7)
 else
 (CF x0 x1 100000 0).bind fun r9 =>
 match r9 with
 | (.inl _w10) =>
  if (decide ((x1.length:Int) > 7))=true then
  some ([],0,8)
  else
  (Ea x0 x1).bind fun v12 =>
  if (decide (0<=(x1.length:Int)))=true then
  if (OD 8 (wr .i64 ((wr .i64 ((wr .i64 (1 * 2 ^ min (x1.length:Int).toNat 64)) - 1)) + 1)))=true then
  if (OD 8 (wr .i64 ((wr .i64 ((wr .i64 (1 * 2 ^ min (x1.length:Int).toNat 64)) - 1)) + 1)))=true then
  (Ch x1 v12 100000 (List.replicate (wr .i64 ((wr .i64 ((wr .i64 (1 * 2 ^ min (x1.length:Int).toNat 64)) - 1)) + 1)).toNat (0:Int)) (List.replicate (wr .i64 ((wr .i64 ((wr .i64 (1 * 2 ^ min (x1.length:Int).toNat 64)) - 1)) + 1)).toNat (0:Int)) (wr .i64 ((wr .i64 ((wr .i64 (1 * 2 ^ min (x1.length:Int).toNat 64)) - 1)) - 1))).bind fun r58 =>
  (CG x1 r58 100000 [] 0).bind fun r67 =>
  (idx r58.1 0).bind fun v68 =>
  some (r67,v68,0)
  else none
  else none
  else none
 | (.inr w69) =>
  some ([],w69.1,w69.2)
def Fa:Cs ((List (List AE))×(List Am)×Unit):=(csC (cdL 1 (cdL 5 AA)) (csC (cdL 9 AG) csN))
def Fc (r:(List Int)×Int×Int):AV:= .tp [(cdL 1 cdI).enc r.1,cdI.enc r.2.1,cdI.enc r.2.2]
theorem Gc (x0:(List (List AE))) (x1:(List Am)):∀ (f:Nat) (c2:Int) (r:(Unit) ⊕ (Int×Int)),CF x0 x1 f c2=some r->SemN E0 ⟨none,false⟩ (pc B3 [1,1,0,1,0,0]) f ⟨Fr 148 [(0,.sl 1 (x0.map (cdL 5 AA).enc)),(1,.sl 9 (x1.map AG.enc)),(25,.sl 1 (x0.map (cdL 5 AA).enc)),(26,.v (.int .i64 (x0.length:Int))),(27,.v (.int .i64 c2))],[]⟩ (fun e s=>match r with
 | (.inl _w)=>e=(.exit 0)/\Wk E0 s ⟨Fr 148 [(0,.sl 1 (x0.map (cdL 5 AA).enc)),(1,.sl 9 (x1.map AG.enc))],[]⟩
 | (.inr w)=>e = .ret/\Wk E0 s ⟨Fr 148 [(4,.e0),(5,.v (.int .i64 w.1)),(6,.v (.int .i64 w.2))],[]⟩):=by
 intro f;induction f with
 | zero=>intro c2 r h; cases h
 | succ f ih0 =>
  intro c2 r h
  have ih:=fun (c2:Int)=>ih0 c2 r
  unfold CF at h;refine Bw ?_
  let p1:Nat×AV:=(27,.v (.int .i64 c2))
  let p2:Nat×AV:=(26,.v (.int .i64 (x0.length:Int)))
  let p3:Nat×AV:=(25,.sl 1 (x0.map (cdL 5 AA).enc))
  let p4:Nat×AV:=(1,.sl 9 (x1.map AG.enc))
  let p5:Nat×AV:=(0,.sl 1 (x0.map (cdL 5 AA).enc))
  refine AJ AC [p5,p4,p3,p2,p1,(28,.v (.bool (decide (c2 < (x0.length:Int)))))] [] ?_;refine AH ?_;refine AM (b:=(decide (c2 < (x0.length:Int)))) kr (fun hb3=>?_) (fun hb3=>?_)
  ·rw [if_pos hb3] at h
   refine AQ ?_;refine AH ?_;refine Af ?_;refine AH ?_;obtain ⟨v4,hv4,h⟩:=OB h;refine AI (s1:=⟨Fr 148 [p5,p4,(8,.sl 5 (v4.map AA.enc)),p3,p2,p1],[]⟩) ?_ ?_
   ·refine AK AC 0 rfl (Ci (AB rfl) rfl (AS (a:= .sl 1 (x0.map (cdL 5 AA).enc)) (b:= .v (.int .i64 c2)) kr kr (FM (e:=(cdL 5 AA).enc) (el:=22) (k:=1) (ki:= .i64) kr kr hv4))) ?_
    exact AO AC
   refine AH ?_;obtain ⟨v5,hv5,h⟩:=OB h;refine AI (s1:=⟨Fr 148 [p5,p4,(10,.v (.int .i64 v5.2)),p3,p2,p1],[]⟩) ?_ ?_
   ·refine AD (n:=148) AC 1 [p5,p4,p3,p2,p1,(32,.sl 5 (v4.map AA.enc))] [] kr ?_
    refine Ac (caps:=[]) (xs:=[.sl 5 (v4.map AA.enc)]) (u:=(v4,())) rfl rfl LP rfl (AB rfl) kr kr (AP (Ab (c:=(cdL 5 AA)) (v:=v4)) BJ) (.inl kr) hv5 ?_;exact AO AC
   refine AJ AC [p5,p4,(10,.v (.int .i64 v5.2)),p3,p2,p1,(37,.v (.bool (v5.2 != 0)))] [] ?_;refine AM (b:=(v5.2 != 0)) kr (fun hb6=>?_) (fun hb6=>?_)
   ·rw [if_pos hb6] at h
    refine AJ AC [(4,.e0),(5,.v (.int .i64 0)),(6,.v (.int .i64 v5.2))] [] ?_;refine AU ?_;have hq:=OI h; subst hq;exact ⟨rfl,AN⟩
   ·rw [CL hb6] at h
    refine AQ ?_
    let p6:Nat×AV:=(27,.v (.int .i64 (wr .i64 (c2 + 1))))
    refine Cy AC [p5,p4,p3,p2,p6] [] ?_;exact As (s1:=⟨Fr 148 [p5,p4,p3,p2,p6],[]⟩) AN (ih (wr .i64 (c2 + 1)) h)
  ·rw [CL hb3] at h
   refine CO ?_;have hq:=OI h; subst hq;exact ⟨rfl,AN⟩
theorem Je (x1:(List Am)) (v12:(List (List Int))×Bool) (c18:Int) (c21:(List Int)) (c22:(List Int)) (c23:Int) (c29:Int) (c30:Int) (r:(Int)) (h:Di x1 v12 c18 c21 c22 c23 c29 c30=some r):Sem E0 ⟨none,false⟩ (pc B3 [1,1,1,1,1,1,1,1,0,1,0,0,1,0,0,1,1,0,0,1,1,0,0,1,1,1,0,1,0,0,1,1,0,0,1,1]) ⟨Fr 148 [(1,.sl 9 (x1.map AG.enc)),(11,.sl 1 (v12.1.map (cdL 1 cdI).enc)),(13,.v (.int .i64 (wr .i64 ((wr .i64 (1 * 2 ^ min (x1.length:Int).toNat 64)) - 1)))),(14,.rf 0 0 c21.length c21.length),(15,.rf 1 0 c22.length c22.length),(16,.v (.int .i64 c18)),(17,.v (.int .i64 c23)),(18,.v (.int .i64 c29)),(19,.v (.int .i64 c30)),(69,.v (.int .i64 (x1.length:Int))),(70,.v (.int .i64 c23)),(86,.v (.int .i64 (x1.length:Int))),(87,.v (.int .i64 c30)),(94,.v (.bool ((DS .i64 c18 (wr .i64 (1 * 2 ^ min c30.toNat 64)))==0)))],[some ⟨1,3,(c21.map cdI.enc),false⟩,some ⟨1,3,(c22.map cdI.enc),false⟩]⟩ (fun e s=>e = .normal/\Wk E0 s ⟨Fr 148 [(1,.sl 9 (x1.map AG.enc)),(11,.sl 1 (v12.1.map (cdL 1 cdI).enc)),(13,.v (.int .i64 (wr .i64 ((wr .i64 (1 * 2 ^ min (x1.length:Int).toNat 64)) - 1)))),(14,.rf 0 0 c21.length c21.length),(15,.rf 1 0 c22.length c22.length),(16,.v (.int .i64 c18)),(17,.v (.int .i64 c23)),(18,.v (.int .i64 r)),(69,.v (.int .i64 (x1.length:Int))),(70,.v (.int .i64 c23)),(86,.v (.int .i64 (x1.length:Int))),(87,.v (.int .i64 c30))],[some ⟨1,3,(c21.map cdI.enc),false⟩,some ⟨1,3,(c22.map cdI.enc),false⟩]⟩):=by
 unfold Di at h;refine AM (b:=((DS .i64 c18 (wr .i64 (1 * 2 ^ min c30.toNat 64)))==0)) kr (fun hb33=>?_) (fun hb33=>?_)
 ·rw [if_pos hb33] at h
  obtain ⟨v34,hv34,h⟩:=OB h;obtain ⟨v35,hv35,h⟩:=OB h
  let p1:Option Blk:=some ⟨1,3,(c22.map cdI.enc),false⟩
  let p2:Option Blk:=some ⟨1,3,(c21.map cdI.enc),false⟩
  let p3:Nat×AV:=(87,.v (.int .i64 c30))
  let p4:Nat×AV:=(86,.v (.int .i64 (x1.length:Int)))
  let p5:Nat×AV:=(70,.v (.int .i64 c23))
  let p6:Nat×AV:=(69,.v (.int .i64 (x1.length:Int)))
  let p7:Nat×AV:=(17,.v (.int .i64 c23))
  let p8:Nat×AV:=(16,.v (.int .i64 c18))
  let p9:Nat×AV:=(15,.rf 1 0 c22.length c22.length)
  let p10:Nat×AV:=(14,.rf 0 0 c21.length c21.length)
  let p11:Nat×AV:=(13,.v (.int .i64 (wr .i64 ((wr .i64 (1 * 2 ^ min (x1.length:Int).toNat 64)) - 1))))
  let p12:Nat×AV:=(11,.sl 1 (v12.1.map (cdL 1 cdI).enc))
  let p13:Nat×AV:=(1,.sl 9 (x1.map AG.enc))
  refine AI (s1:=⟨Fr 148 [p13,p12,p11,p10,p9,p8,p7,(18,.v (.int .i64 (wr .i64 (c29 + v35)))),p6,p5,p4,p3],[p2,p1]⟩) ?_ ?_
  ·refine AD (n:=148) AC 3 [p13,p12,p11,p10,p9,p8,p7,p6,p5,p4,p3,(95,.v (.int .i64 c29)),(96,.sl 1 (v12.1.map (cdL 1 cdI).enc)),(97,.v (.int .i64 c30))] [p2,p1] kr ?_
   refine AK AC 0 rfl (Ci (AB rfl) rfl (AS (a:= .sl 1 (v12.1.map (cdL 1 cdI).enc)) (b:= .v (.int .i64 c30)) kr kr (FM (e:=(cdL 1 cdI).enc) (el:=48) (k:=1) (ki:= .i64) kr kr hv34))) ?_;refine AD (n:=148) AC 2 [p13,p12,p11,p10,p9,p8,p7,p6,p5,p4,p3,(95,.v (.int .i64 c29)),(99,.sl 1 (v34.map cdI.enc)),(100,.v (.int .i64 c23))] [p2,p1] kr ?_;refine AK AC 0 rfl (Ci (AB rfl) rfl (AS (a:= .sl 1 (v34.map cdI.enc)) (b:= .v (.int .i64 c23)) kr kr (FM (e:=cdI.enc) (el:=3) (k:=1) (ki:= .i64) kr kr hv35))) ?_;exact AO AC
  have hq:=OI h; subst hq;exact ⟨rfl,(AY [0,1] ⟨⟨_,rfl,B7⟩,⟨_,rfl,B7⟩,trivial⟩ ⟨lv,lv,lv,lv,lv,lv,lv,lv,lv,lv,lv,lv,trivial⟩)⟩
 ·rw [CL hb33] at h
  refine AQ ?_;have hq:=OI h; subst hq;exact ⟨rfl,(AY [0,1] ⟨⟨_,rfl,B7⟩,⟨_,rfl,B7⟩,trivial⟩ ⟨lv,lv,lv,lv,lv,lv,lv,lv,lv,lv,lv,lv,trivial⟩)⟩
theorem Ji (x1:(List Am)) (v12:(List (List Int))×Bool) (c18:Int) (c21:(List Int)) (c22:(List Int)) (c23:Int):∀ (f:Nat) (c29:Int) (c30:Int) (r:(Int)),BG x1 v12 c18 c21 c22 c23 f c29 c30=some r->SemN E0 ⟨none,false⟩ (pc B3 [1,1,1,1,1,1,1,1,0,1,0,0,1,0,0,1,1,0,0,1,1,0,0,1,1,1,0,1,0,0]) f ⟨Fr 148 [(1,.sl 9 (x1.map AG.enc)),(11,.sl 1 (v12.1.map (cdL 1 cdI).enc)),(13,.v (.int .i64 (wr .i64 ((wr .i64 (1 * 2 ^ min (x1.length:Int).toNat 64)) - 1)))),(14,.rf 0 0 c21.length c21.length),(15,.rf 1 0 c22.length c22.length),(16,.v (.int .i64 c18)),(17,.v (.int .i64 c23)),(18,.v (.int .i64 c29)),(69,.v (.int .i64 (x1.length:Int))),(70,.v (.int .i64 c23)),(86,.v (.int .i64 (x1.length:Int))),(87,.v (.int .i64 c30))],[some ⟨1,3,(c21.map cdI.enc),false⟩,some ⟨1,3,(c22.map cdI.enc),false⟩]⟩ (fun e s=>e=(.exit 6)/\Wk E0 s ⟨Fr 148 [(1,.sl 9 (x1.map AG.enc)),(11,.sl 1 (v12.1.map (cdL 1 cdI).enc)),(13,.v (.int .i64 (wr .i64 ((wr .i64 (1 * 2 ^ min (x1.length:Int).toNat 64)) - 1)))),(14,.rf 0 0 c21.length c21.length),(15,.rf 1 0 c22.length c22.length),(16,.v (.int .i64 c18)),(17,.v (.int .i64 c23)),(18,.v (.int .i64 r)),(69,.v (.int .i64 (x1.length:Int))),(70,.v (.int .i64 c23))],[some ⟨1,3,(c21.map cdI.enc),false⟩,some ⟨1,3,(c22.map cdI.enc),false⟩]⟩):=by
 intro f;induction f with
 | zero=>intro c29 c30 r h; cases h
 | succ f ih0 =>
  intro c29 c30 r h
  have ih:=fun (c29:Int) (c30:Int)=>ih0 c29 c30 r
  unfold BG at h;refine Bw ?_
  let p1:Option Blk:=some ⟨1,3,(c22.map cdI.enc),false⟩
  let p2:Option Blk:=some ⟨1,3,(c21.map cdI.enc),false⟩
  let p3:Nat×AV:=(87,.v (.int .i64 c30))
  let p4:Nat×AV:=(86,.v (.int .i64 (x1.length:Int)))
  let p5:Nat×AV:=(70,.v (.int .i64 c23))
  let p6:Nat×AV:=(69,.v (.int .i64 (x1.length:Int)))
  let p7:Nat×AV:=(18,.v (.int .i64 c29))
  let p8:Nat×AV:=(17,.v (.int .i64 c23))
  let p9:Nat×AV:=(16,.v (.int .i64 c18))
  let p10:Nat×AV:=(15,.rf 1 0 c22.length c22.length)
  let p11:Nat×AV:=(14,.rf 0 0 c21.length c21.length)
  let p12:Nat×AV:=(13,.v (.int .i64 (wr .i64 ((wr .i64 (1 * 2 ^ min (x1.length:Int).toNat 64)) - 1))))
  let p13:Nat×AV:=(11,.sl 1 (v12.1.map (cdL 1 cdI).enc))
  let p14:Nat×AV:=(1,.sl 9 (x1.map AG.enc))
  refine AJ AC [p14,p13,p12,p11,p10,p9,p8,p7,p6,p5,p4,p3,(88,.v (.bool (decide (c30 < (x1.length:Int)))))] [p2,p1] ?_;refine AH ?_;refine AM (b:=(decide (c30 < (x1.length:Int)))) kr (fun hb31=>?_) (fun hb31=>?_)
  ·rw [if_pos hb31] at h
   refine AQ ?_;refine AH ?_;refine Af ?_
   let p15:Nat×AV:=(19,.v (.int .i64 c30))
   refine AJ AC [p14,p13,p12,p11,p10,p9,p8,p7,p15,p6,p5,p4,p3] [p2,p1] ?_;refine AH ?_;by_cases hk32:(decide (0<=c30))=true
   case neg=>rw [if_neg hk32] at h; cases h
   rw [if_pos hk32] at h;refine AI (s1:=⟨Fr 148 [p14,p13,p12,p11,p10,p9,p8,p7,p15,p6,p5,p4,p3,(94,.v (.bool ((DS .i64 c18 (wr .i64 (1 * 2 ^ min c30.toNat 64)))==0)))],[p2,p1]⟩) ?_ ?_
   ·refine AD (n:=148) AC 2 [p14,p13,p12,p11,p10,p9,p8,p7,p15,p6,p5,p4,p3,(90,.v (.int .i64 c18)),(91,.v (.int .i64 c30))] [p2,p1] kr ?_
    refine AK AC 0 rfl (Ci (AB rfl) rfl (SC (a:= .v (.int .i64 1)) (b:= .v (.int .i64 c30)) kr kr (Mw hk32))) ?_;exact AO AC
   obtain ⟨r37,hr37,h⟩:=OB h;refine Cl (Je x1 v12 c18 c21 c22 c23 c29 c30 _ hr37) ?_
   let p16:Nat×AV:=(87,.v (.int .i64 (wr .i64 (c30 + 1))))
   refine Cy AC [p14,p13,p12,p11,p10,p9,p8,(18,.v (.int .i64 r37)),p6,p5,p4,p16] [p2,p1] ?_;exact As (s1:=⟨Fr 148 [p14,p13,p12,p11,p10,p9,p8,(18,.v (.int .i64 r37)),p6,p5,p4,p16],[p2,p1]⟩) (AY [0,1] ⟨⟨_,rfl,B7⟩,⟨_,rfl,B7⟩,trivial⟩ ⟨lv,lv,lv,lv,lv,lv,lv,lv,lv,lv,lv,lv,trivial⟩) (ih r37 (wr .i64 (c30 + 1)) h)
  ·rw [CL hb31] at h
   refine CO ?_;have hq:=OI h; subst hq;exact ⟨rfl,(AY [0,1] ⟨⟨_,rfl,B7⟩,⟨_,rfl,B7⟩,trivial⟩ ⟨lv,lv,lv,lv,lv,lv,lv,lv,lv,lv,trivial⟩)⟩
theorem Jf (x1:(List Am)) (v12:(List (List Int))×Bool) (c18:Int) (c23:Int) (r39:Int) (j45:(List Int)×(List Int)×Bool) (r:((List Int)×(List Int))) (h:C0 x1 v12 c18 c23 r39 j45=some r):Sem E0 ⟨none,false⟩ (pc B3 [1,1,1,1,1,1,1,1,0,1,0,0,1,0,0,1,1,0,0,1,1,0,0,1,1,1,1,1]) ⟨Fr 148 [(1,.sl 9 (x1.map AG.enc)),(11,.sl 1 (v12.1.map (cdL 1 cdI).enc)),(13,.v (.int .i64 (wr .i64 ((wr .i64 (1 * 2 ^ min (x1.length:Int).toNat 64)) - 1)))),(14,.rf 0 0 j45.1.length j45.1.length),(15,.rf 1 0 j45.2.1.length j45.2.1.length),(16,.v (.int .i64 c18)),(17,.v (.int .i64 c23)),(18,.v (.int .i64 r39)),(69,.v (.int .i64 (x1.length:Int))),(70,.v (.int .i64 c23)),(117,.v (.bool j45.2.2))],[some ⟨1,3,(j45.1.map cdI.enc),false⟩,some ⟨1,3,(j45.2.1.map cdI.enc),false⟩]⟩ (fun e s=>e = .normal/\Wk E0 s ⟨Fr 148 [(1,.sl 9 (x1.map AG.enc)),(11,.sl 1 (v12.1.map (cdL 1 cdI).enc)),(13,.v (.int .i64 (wr .i64 ((wr .i64 (1 * 2 ^ min (x1.length:Int).toNat 64)) - 1)))),(14,.rf 0 0 r.1.length r.1.length),(15,.rf 1 0 r.2.length r.2.length),(16,.v (.int .i64 c18)),(69,.v (.int .i64 (x1.length:Int))),(70,.v (.int .i64 c23))],[some ⟨1,3,(r.1.map cdI.enc),false⟩,some ⟨1,3,(r.2.map cdI.enc),false⟩]⟩):=by
 unfold C0 at h;refine AM (b:=j45.2.2) kr (fun hb46=>?_) (fun hb46=>?_)
 ·rw [if_pos hb46] at h
  obtain ⟨v47,hv47,h⟩:=OB h;obtain ⟨v48,hv48,h⟩:=OB h
  let p1:Nat×AV:=(69,.v (.int .i64 (x1.length:Int)))
  let p2:Nat×AV:=(13,.v (.int .i64 (wr .i64 ((wr .i64 (1 * 2 ^ min (x1.length:Int).toNat 64)) - 1))))
  let p3:Nat×AV:=(11,.sl 1 (v12.1.map (cdL 1 cdI).enc))
  refine AI (s1:=⟨Fr 148 [(1,.sl 9 (x1.map AG.enc)),p3,p2,(14,.rf 0 0 (j45.1.set c18.toNat r39).length (j45.1.set c18.toNat r39).length),(15,.rf 1 0 (j45.2.1.set c18.toNat c23).length (j45.2.1.set c18.toNat c23).length),(16,.v (.int .i64 c18)),p1,(70,.v (.int .i64 c23))],[some ⟨1,3,((j45.1.set c18.toNat r39).map cdI.enc),false⟩,some ⟨1,3,((j45.2.1.set c18.toNat c23).map cdI.enc),false⟩]⟩) ?_ ?_
  ·refine AD (n:=148) AC 6 [(1,.sl 9 (x1.map AG.enc)),p3,p2,(14,.rf 0 0 j45.1.length j45.1.length),(15,.rf 1 0 j45.2.1.length j45.2.1.length),(16,.v (.int .i64 c18)),p1,(70,.v (.int .i64 c23)),(118,.rf 0 0 j45.1.length j45.1.length),(119,.v (.int .i64 c18)),(120,.rf 1 0 j45.2.1.length j45.2.1.length),(121,.v (.int .i64 c18)),(122,.v (.int .i64 r39)),(123,.v (.int .i64 c23))] [some ⟨1,3,(j45.1.map cdI.enc),false⟩,some ⟨1,3,(j45.2.1.map cdI.enc),false⟩] kr ?_
   refine AK AC 0 rfl (Ci (AB rfl) rfl (AS (a:= .rf 0 0 j45.1.length j45.1.length) (b:= .v (.int .i64 c18)) kr kr (NH (e:=cdI.enc) (xs:=j45.1) (t':=3) (el:=3) (k:=1) (ki:= .i64) kr kr kr hv47))) ?_;refine RunS.store AC (y:= .pt 0 c18.toNat 0) (z:= .v (.int .i64 r39)) rfl (AB rfl) kr kr (Rh (t':=3) (k:=1) (e:=cdI.enc) (xs:=j45.1) (v:=v47) (v':=r39) kr (FL hv47).2 kr kr kr) ?_;refine AK AC 0 rfl (Ci (AB rfl) rfl (AS (a:= .rf 1 0 j45.2.1.length j45.2.1.length) (b:= .v (.int .i64 c18)) kr kr (NH (e:=cdI.enc) (xs:=j45.2.1) (t':=3) (el:=3) (k:=1) (ki:= .i64) kr kr kr hv48))) ?_;refine RunS.store AC (y:= .pt 1 c18.toNat 0) (z:= .v (.int .i64 c23)) rfl (AB rfl) kr kr (Rh (t':=3) (k:=1) (e:=cdI.enc) (xs:=j45.2.1) (v:=v48) (v':=c23) kr (FL hv48).2 kr kr kr) ?_;exact AL rfl (AY [0,1] ⟨⟨_,rfl,B7⟩,⟨_,rfl,B7⟩,trivial⟩ ⟨lv,lv,lv,UM (b':=0) (n:=j45.1.length) kr (by simp) kr,UM (b':=1) (n:=j45.2.1.length) kr (by simp) kr,lv,lv,lv,trivial⟩)
  have hq:=OI h; subst hq;exact ⟨rfl,(AY [0,1] ⟨⟨_,rfl,B7⟩,⟨_,rfl,B7⟩,trivial⟩ ⟨lv,lv,lv,lv,lv,lv,lv,lv,trivial⟩)⟩
 ·rw [CL hb46] at h
  refine AQ ?_;have hq:=OI h; subst hq;exact ⟨rfl,(AY [0,1] ⟨⟨_,rfl,B7⟩,⟨_,rfl,B7⟩,trivial⟩ ⟨lv,lv,lv,lv,lv,lv,lv,lv,trivial⟩)⟩
theorem Jh (x1:(List Am)) (v12:(List (List Int))×Bool) (c18:Int):∀ (f:Nat) (c21:(List Int)) (c22:(List Int)) (c23:Int) (r:((List Int)×(List Int))),BF x1 v12 c18 f c21 c22 c23=some r->SemN E0 ⟨none,false⟩ (pc B3 [1,1,1,1,1,1,1,1,0,1,0,0,1,0,0,1,1,0,0]) f ⟨Fr 148 [(1,.sl 9 (x1.map AG.enc)),(11,.sl 1 (v12.1.map (cdL 1 cdI).enc)),(13,.v (.int .i64 (wr .i64 ((wr .i64 (1 * 2 ^ min (x1.length:Int).toNat 64)) - 1)))),(14,.rf 0 0 c21.length c21.length),(15,.rf 1 0 c22.length c22.length),(16,.v (.int .i64 c18)),(69,.v (.int .i64 (x1.length:Int))),(70,.v (.int .i64 c23))],[some ⟨1,3,(c21.map cdI.enc),false⟩,some ⟨1,3,(c22.map cdI.enc),false⟩]⟩ (fun e s=>e=(.exit 4)/\Wk E0 s ⟨Fr 148 [(1,.sl 9 (x1.map AG.enc)),(11,.sl 1 (v12.1.map (cdL 1 cdI).enc)),(13,.v (.int .i64 (wr .i64 ((wr .i64 (1 * 2 ^ min (x1.length:Int).toNat 64)) - 1)))),(14,.rf 0 0 r.1.length r.1.length),(15,.rf 1 0 r.2.length r.2.length),(16,.v (.int .i64 c18))],[some ⟨1,3,(r.1.map cdI.enc),false⟩,some ⟨1,3,(r.2.map cdI.enc),false⟩]⟩):=by
 intro f;induction f with
 | zero=>intro c21 c22 c23 r h; cases h
 | succ f ih0 =>
  intro c21 c22 c23 r h
  have ih:=fun (c21:(List Int)) (c22:(List Int)) (c23:Int)=>ih0 c21 c22 c23 r
  unfold BF at h;refine Bw ?_;refine AJ AC [(1,.sl 9 (x1.map AG.enc)),(11,.sl 1 (v12.1.map (cdL 1 cdI).enc)),(13,.v (.int .i64 (wr .i64 ((wr .i64 (1 * 2 ^ min (x1.length:Int).toNat 64)) - 1)))),(14,.rf 0 0 c21.length c21.length),(15,.rf 1 0 c22.length c22.length),(16,.v (.int .i64 c18)),(69,.v (.int .i64 (x1.length:Int))),(70,.v (.int .i64 c23)),(71,.v (.bool (decide (c23 < (x1.length:Int)))))] [some ⟨1,3,(c21.map cdI.enc),false⟩,some ⟨1,3,(c22.map cdI.enc),false⟩] ?_;refine AH ?_;refine AM (b:=(decide (c23 < (x1.length:Int)))) kr (fun hb24=>?_) (fun hb24=>?_)
  ·rw [if_pos hb24] at h
   refine AQ ?_;refine AH ?_;refine Af ?_;refine AJ AC [(1,.sl 9 (x1.map AG.enc)),(11,.sl 1 (v12.1.map (cdL 1 cdI).enc)),(13,.v (.int .i64 (wr .i64 ((wr .i64 (1 * 2 ^ min (x1.length:Int).toNat 64)) - 1)))),(14,.rf 0 0 c21.length c21.length),(15,.rf 1 0 c22.length c22.length),(16,.v (.int .i64 c18)),(17,.v (.int .i64 c23)),(69,.v (.int .i64 (x1.length:Int))),(70,.v (.int .i64 c23))] [some ⟨1,3,(c21.map cdI.enc),false⟩,some ⟨1,3,(c22.map cdI.enc),false⟩] ?_;refine AH ?_;refine AH ?_;by_cases hk25:(decide (0<=c23))=true
   case neg=>rw [if_neg hk25] at h; cases h
   rw [if_pos hk25] at h;refine AI (s1:=⟨Fr 148 [(1,.sl 9 (x1.map AG.enc)),(11,.sl 1 (v12.1.map (cdL 1 cdI).enc)),(13,.v (.int .i64 (wr .i64 ((wr .i64 (1 * 2 ^ min (x1.length:Int).toNat 64)) - 1)))),(14,.rf 0 0 c21.length c21.length),(15,.rf 1 0 c22.length c22.length),(16,.v (.int .i64 c18)),(17,.v (.int .i64 c23)),(69,.v (.int .i64 (x1.length:Int))),(70,.v (.int .i64 c23)),(77,.v (.bool ((DS .i64 c18 (wr .i64 (1 * 2 ^ min c23.toNat 64)))!=0)))],[some ⟨1,3,(c21.map cdI.enc),false⟩,some ⟨1,3,(c22.map cdI.enc),false⟩]⟩) ?_ ?_
   ·refine AD (n:=148) AC 2 [(1,.sl 9 (x1.map AG.enc)),(11,.sl 1 (v12.1.map (cdL 1 cdI).enc)),(13,.v (.int .i64 (wr .i64 ((wr .i64 (1 * 2 ^ min (x1.length:Int).toNat 64)) - 1)))),(14,.rf 0 0 c21.length c21.length),(15,.rf 1 0 c22.length c22.length),(16,.v (.int .i64 c18)),(17,.v (.int .i64 c23)),(69,.v (.int .i64 (x1.length:Int))),(70,.v (.int .i64 c23)),(73,.v (.int .i64 c18)),(74,.v (.int .i64 c23))] [some ⟨1,3,(c21.map cdI.enc),false⟩,some ⟨1,3,(c22.map cdI.enc),false⟩] kr ?_
    refine AK AC 0 rfl (Ci (AB rfl) rfl (SC (a:= .v (.int .i64 1)) (b:= .v (.int .i64 c23)) kr kr (Mw hk25))) ?_;exact AO AC
   refine AM (b:=((DS .i64 c18 (wr .i64 (1 * 2 ^ min c23.toNat 64)))!=0)) kr (fun hb26=>?_) (fun hb26=>?_)
   ·rw [if_pos hb26] at h
    refine CO ?_;refine Cy AC [(1,.sl 9 (x1.map AG.enc)),(11,.sl 1 (v12.1.map (cdL 1 cdI).enc)),(13,.v (.int .i64 (wr .i64 ((wr .i64 (1 * 2 ^ min (x1.length:Int).toNat 64)) - 1)))),(14,.rf 0 0 c21.length c21.length),(15,.rf 1 0 c22.length c22.length),(16,.v (.int .i64 c18)),(69,.v (.int .i64 (x1.length:Int))),(70,.v (.int .i64 (wr .i64 (c23 + 1))))] [some ⟨1,3,(c21.map cdI.enc),false⟩,some ⟨1,3,(c22.map cdI.enc),false⟩] ?_;exact As (s1:=⟨Fr 148 [(1,.sl 9 (x1.map AG.enc)),(11,.sl 1 (v12.1.map (cdL 1 cdI).enc)),(13,.v (.int .i64 (wr .i64 ((wr .i64 (1 * 2 ^ min (x1.length:Int).toNat 64)) - 1)))),(14,.rf 0 0 c21.length c21.length),(15,.rf 1 0 c22.length c22.length),(16,.v (.int .i64 c18)),(69,.v (.int .i64 (x1.length:Int))),(70,.v (.int .i64 (wr .i64 (c23 + 1))))],[some ⟨1,3,(c21.map cdI.enc),false⟩,some ⟨1,3,(c22.map cdI.enc),false⟩]⟩) (AY [0,1] ⟨⟨_,rfl,B7⟩,⟨_,rfl,B7⟩,trivial⟩ ⟨lv,lv,lv,lv,lv,lv,lv,lv,trivial⟩) (ih c21 c22 (wr .i64 (c23 + 1)) h)
   ·rw [CL hb26] at h
    refine AQ ?_;refine AH ?_;by_cases hk27:(decide (0<=c23))=true
    case neg=>rw [if_neg hk27] at h; cases h
    rw [if_pos hk27] at h;obtain ⟨v28,hv28,h⟩:=OB h;refine AI (s1:=⟨Fr 148 [(1,.sl 9 (x1.map AG.enc)),(11,.sl 1 (v12.1.map (cdL 1 cdI).enc)),(13,.v (.int .i64 (wr .i64 ((wr .i64 (1 * 2 ^ min (x1.length:Int).toNat 64)) - 1)))),(14,.rf 0 0 c21.length c21.length),(15,.rf 1 0 c22.length c22.length),(16,.v (.int .i64 c18)),(17,.v (.int .i64 c23)),(18,.v (.int .i64 v28)),(69,.v (.int .i64 (x1.length:Int))),(70,.v (.int .i64 c23))],[some ⟨1,3,(c21.map cdI.enc),false⟩,some ⟨1,3,(c22.map cdI.enc),false⟩]⟩) ?_ ?_
    ·refine AD (n:=148) AC 3 [(1,.sl 9 (x1.map AG.enc)),(11,.sl 1 (v12.1.map (cdL 1 cdI).enc)),(13,.v (.int .i64 (wr .i64 ((wr .i64 (1 * 2 ^ min (x1.length:Int).toNat 64)) - 1)))),(14,.rf 0 0 c21.length c21.length),(15,.rf 1 0 c22.length c22.length),(16,.v (.int .i64 c18)),(17,.v (.int .i64 c23)),(69,.v (.int .i64 (x1.length:Int))),(70,.v (.int .i64 c23)),(78,.rf 0 0 c21.length c21.length),(79,.v (.int .i64 c18)),(80,.v (.int .i64 c23))] [some ⟨1,3,(c21.map cdI.enc),false⟩,some ⟨1,3,(c22.map cdI.enc),false⟩] kr ?_
     refine AK AC 0 rfl (Ci (AB rfl) rfl (SC (a:= .v (.int .i64 1)) (b:= .v (.int .i64 c23)) kr kr (Mw hk27))) ?_;refine AD (n:=148) AC 1 [(1,.sl 9 (x1.map AG.enc)),(11,.sl 1 (v12.1.map (cdL 1 cdI).enc)),(13,.v (.int .i64 (wr .i64 ((wr .i64 (1 * 2 ^ min (x1.length:Int).toNat 64)) - 1)))),(14,.rf 0 0 c21.length c21.length),(15,.rf 1 0 c22.length c22.length),(16,.v (.int .i64 c18)),(17,.v (.int .i64 c23)),(69,.v (.int .i64 (x1.length:Int))),(70,.v (.int .i64 c23)),(78,.rf 0 0 c21.length c21.length),(82,.v (.int .i64 (orI .i64 c18 (wr .i64 (1 * 2 ^ min c23.toNat 64)))))] [some ⟨1,3,(c21.map cdI.enc),false⟩,some ⟨1,3,(c22.map cdI.enc),false⟩] kr ?_;refine AK AC 0 rfl (Ci (AB rfl) rfl (AS (a:= .rf 0 0 c21.length c21.length) (b:= .v (.int .i64 (orI .i64 c18 (wr .i64 (1 * 2 ^ min c23.toNat 64))))) kr kr (NH (e:=cdI.enc) (xs:=c21) (t':=3) (el:=3) (k:=1) (ki:= .i64) kr kr kr hv28))) ?_;refine AK AC 0 rfl (Ci (AB rfl) rfl (Ip (p:= .pt 0 ((orI .i64 c18 (wr .i64 (1 * 2 ^ min c23.toNat 64))).toNat) 0) kr (NL (B:=⟨1,3,(c21.map cdI.enc),false⟩) (m:=1) (g:=false) (e:=cdI.enc) (xs:=c21) kr kr kr rfl (FL hv28).2 kr))) ?_;exact AO AC
    refine AH ?_;refine AH ?_;refine AI (s1:=⟨Fr 148 [(1,.sl 9 (x1.map AG.enc)),(11,.sl 1 (v12.1.map (cdL 1 cdI).enc)),(13,.v (.int .i64 (wr .i64 ((wr .i64 (1 * 2 ^ min (x1.length:Int).toNat 64)) - 1)))),(14,.rf 0 0 c21.length c21.length),(15,.rf 1 0 c22.length c22.length),(16,.v (.int .i64 c18)),(17,.v (.int .i64 c23)),(18,.v (.int .i64 v28)),(69,.v (.int .i64 (x1.length:Int))),(70,.v (.int .i64 c23)),(86,.v (.int .i64 (x1.length:Int))),(87,.v (.int .i64 0))],[some ⟨1,3,(c21.map cdI.enc),false⟩,some ⟨1,3,(c22.map cdI.enc),false⟩]⟩) ?_ ?_
    ·refine AD (n:=148) AC 1 [(1,.sl 9 (x1.map AG.enc)),(11,.sl 1 (v12.1.map (cdL 1 cdI).enc)),(13,.v (.int .i64 (wr .i64 ((wr .i64 (1 * 2 ^ min (x1.length:Int).toNat 64)) - 1)))),(14,.rf 0 0 c21.length c21.length),(15,.rf 1 0 c22.length c22.length),(16,.v (.int .i64 c18)),(17,.v (.int .i64 c23)),(18,.v (.int .i64 v28)),(69,.v (.int .i64 (x1.length:Int))),(70,.v (.int .i64 c23)),(85,.sl 9 (x1.map AG.enc))] [some ⟨1,3,(c21.map cdI.enc),false⟩,some ⟨1,3,(c22.map cdI.enc),false⟩] kr ?_
     refine AK AC 0 rfl (Ci (AB rfl) rfl (DY (a:= .sl 9 (x1.map AG.enc)) kr (CB (el:=42) kr))) ?_;exact AO AC
    refine Af ?_;obtain ⟨r39,hr39,h⟩:=OB h;refine CV (n:=100000) ?_;refine BK (As (s1:=⟨Fr 148 [(1,.sl 9 (x1.map AG.enc)),(11,.sl 1 (v12.1.map (cdL 1 cdI).enc)),(13,.v (.int .i64 (wr .i64 ((wr .i64 (1 * 2 ^ min (x1.length:Int).toNat 64)) - 1)))),(14,.rf 0 0 c21.length c21.length),(15,.rf 1 0 c22.length c22.length),(16,.v (.int .i64 c18)),(17,.v (.int .i64 c23)),(18,.v (.int .i64 v28)),(69,.v (.int .i64 (x1.length:Int))),(70,.v (.int .i64 c23)),(86,.v (.int .i64 (x1.length:Int))),(87,.v (.int .i64 0))],[some ⟨1,3,(c21.map cdI.enc),false⟩,some ⟨1,3,(c22.map cdI.enc),false⟩]⟩) (AY [0,1] ⟨⟨_,rfl,B7⟩,⟨_,rfl,B7⟩,trivial⟩ ⟨lv,lv,lv,lv,lv,lv,lv,lv,lv,lv,lv,lv,trivial⟩) (Ji x1 v12 c18 c21 c22 c23 _ v28 0 _ hr39)) ?_;refine AH ?_;obtain ⟨v40,hv40,h⟩:=OB h;obtain ⟨j45,hj45,h⟩:=OB h;refine AI (s1:=⟨Fr 148 [(1,.sl 9 (x1.map AG.enc)),(11,.sl 1 (v12.1.map (cdL 1 cdI).enc)),(13,.v (.int .i64 (wr .i64 ((wr .i64 (1 * 2 ^ min (x1.length:Int).toNat 64)) - 1)))),(14,.rf 0 0 j45.1.length j45.1.length),(15,.rf 1 0 j45.2.1.length j45.2.1.length),(16,.v (.int .i64 c18)),(17,.v (.int .i64 c23)),(18,.v (.int .i64 r39)),(69,.v (.int .i64 (x1.length:Int))),(70,.v (.int .i64 c23)),(117,.v (.bool j45.2.2))],[some ⟨1,3,(j45.1.map cdI.enc),false⟩,some ⟨1,3,(j45.2.1.map cdI.enc),false⟩]⟩) ?_ ?_
    ·refine AD (n:=148) AC 2 [(1,.sl 9 (x1.map AG.enc)),(11,.sl 1 (v12.1.map (cdL 1 cdI).enc)),(13,.v (.int .i64 (wr .i64 ((wr .i64 (1 * 2 ^ min (x1.length:Int).toNat 64)) - 1)))),(14,.rf 0 0 c21.length c21.length),(15,.rf 1 0 c22.length c22.length),(16,.v (.int .i64 c18)),(17,.v (.int .i64 c23)),(18,.v (.int .i64 r39)),(69,.v (.int .i64 (x1.length:Int))),(70,.v (.int .i64 c23)),(105,.rf 0 0 c21.length c21.length),(106,.v (.int .i64 c18))] [some ⟨1,3,(c21.map cdI.enc),false⟩,some ⟨1,3,(c22.map cdI.enc),false⟩] kr ?_
     refine AK AC 0 rfl (Ci (AB rfl) rfl (AS (a:= .rf 0 0 c21.length c21.length) (b:= .v (.int .i64 c18)) kr kr (NH (e:=cdI.enc) (xs:=c21) (t':=3) (el:=3) (k:=1) (ki:= .i64) kr kr kr hv40))) ?_;refine AK AC 0 rfl (Ci (AB rfl) rfl (Ip (p:= .pt 0 c18.toNat 0) kr (NL (B:=⟨1,3,(c21.map cdI.enc),false⟩) (m:=1) (g:=false) (e:=cdI.enc) (xs:=c21) kr kr kr rfl (FL hv40).2 kr))) ?_;refine AD (n:=148) AC 2 [(1,.sl 9 (x1.map AG.enc)),(11,.sl 1 (v12.1.map (cdL 1 cdI).enc)),(13,.v (.int .i64 (wr .i64 ((wr .i64 (1 * 2 ^ min (x1.length:Int).toNat 64)) - 1)))),(14,.rf 0 0 c21.length c21.length),(15,.rf 1 0 c22.length c22.length),(16,.v (.int .i64 c18)),(17,.v (.int .i64 c23)),(18,.v (.int .i64 r39)),(69,.v (.int .i64 (x1.length:Int))),(70,.v (.int .i64 c23)),(110,.v (.bool (decide (v40 < 0))))] [some ⟨1,3,(c21.map cdI.enc),false⟩,some ⟨1,3,(c22.map cdI.enc),false⟩] kr ?_;rcases BE (decide (v40 < 0)) with hc52 | hc52
     ·rw [if_pos hc52] at hj45
      rw [hc52];refine AD (n:=148) AC 7 [(1,.sl 9 (x1.map AG.enc)),(11,.sl 1 (v12.1.map (cdL 1 cdI).enc)),(13,.v (.int .i64 (wr .i64 ((wr .i64 (1 * 2 ^ min (x1.length:Int).toNat 64)) - 1)))),(14,.rf 0 0 c21.length c21.length),(15,.rf 1 0 c22.length c22.length),(16,.v (.int .i64 c18)),(17,.v (.int .i64 c23)),(18,.v (.int .i64 r39)),(69,.v (.int .i64 (x1.length:Int))),(70,.v (.int .i64 c23)),(111,.tp []),(112,.tp []),(113,.tp []),(114,.tp []),(115,.tp []),(116,.tp []),(117,.v (.bool true))] [some ⟨1,3,(c21.map cdI.enc),false⟩,some ⟨1,3,(c22.map cdI.enc),false⟩] kr ?_;have hq:=OI hj45; subst hq;exact AL rfl (AY [0,1] ⟨⟨_,rfl,B7⟩,⟨_,rfl,B7⟩,trivial⟩ ⟨lv,lv,lv,lv,lv,lv,lv,lv,lv,lv,lv,trivial⟩)
     ·rw [CL hc52] at hj45
      rw [hc52];refine AD (n:=148) AC 3 [(1,.sl 9 (x1.map AG.enc)),(11,.sl 1 (v12.1.map (cdL 1 cdI).enc)),(13,.v (.int .i64 (wr .i64 ((wr .i64 (1 * 2 ^ min (x1.length:Int).toNat 64)) - 1)))),(14,.rf 0 0 c21.length c21.length),(15,.rf 1 0 c22.length c22.length),(16,.v (.int .i64 c18)),(17,.v (.int .i64 c23)),(18,.v (.int .i64 r39)),(69,.v (.int .i64 (x1.length:Int))),(70,.v (.int .i64 c23)),(110,.v (.bool false)),(111,.v (.int .i64 r39)),(112,.rf 0 0 c21.length c21.length),(113,.v (.int .i64 c18))] [some ⟨1,3,(c21.map cdI.enc),false⟩,some ⟨1,3,(c22.map cdI.enc),false⟩] kr ?_;obtain ⟨v41,hv41,hj45⟩:=OB hj45;refine AK AC 0 rfl (Ci kr rfl (AS (a:= .rf 0 0 c21.length c21.length) (b:= .v (.int .i64 c18)) kr kr (NH (e:=cdI.enc) (xs:=c21) (t':=3) (el:=3) (k:=1) (ki:= .i64) kr kr kr hv41))) ?_;refine AK AC 0 rfl (Ci kr rfl (Ip (p:= .pt 0 c18.toNat 0) kr (NL (B:=⟨1,3,(c21.map cdI.enc),false⟩) (m:=1) (g:=false) (e:=cdI.enc) (xs:=c21) kr kr kr rfl (FL hv41).2 kr))) ?_;refine AD (n:=148) AC 2 [(1,.sl 9 (x1.map AG.enc)),(11,.sl 1 (v12.1.map (cdL 1 cdI).enc)),(13,.v (.int .i64 (wr .i64 ((wr .i64 (1 * 2 ^ min (x1.length:Int).toNat 64)) - 1)))),(14,.rf 0 0 c21.length c21.length),(15,.rf 1 0 c22.length c22.length),(16,.v (.int .i64 c18)),(17,.v (.int .i64 c23)),(18,.v (.int .i64 r39)),(69,.v (.int .i64 (x1.length:Int))),(70,.v (.int .i64 c23)),(111,.v (.int .i64 r39)),(112,.rf 0 0 c21.length c21.length),(113,.v (.int .i64 c18)),(114,.pt 0 c18.toNat 0),(115,.v (.int .i64 v41)),(116,.v (.bool (decide (r39 < v41)))),(117,.v (.bool (decide (r39 < v41))))] [some ⟨1,3,(c21.map cdI.enc),false⟩,some ⟨1,3,(c22.map cdI.enc),false⟩] kr ?_;have hq:=OI hj45; subst hq;exact AL rfl (AY [0,1] ⟨⟨_,rfl,B7⟩,⟨_,rfl,B7⟩,trivial⟩ ⟨lv,lv,lv,lv,lv,lv,lv,lv,lv,lv,lv,trivial⟩)
    obtain ⟨r51,hr51,h⟩:=OB h;refine Cl (Jf x1 v12 c18 c23 r39 j45 _ hr51) ?_;refine Cy AC [(1,.sl 9 (x1.map AG.enc)),(11,.sl 1 (v12.1.map (cdL 1 cdI).enc)),(13,.v (.int .i64 (wr .i64 ((wr .i64 (1 * 2 ^ min (x1.length:Int).toNat 64)) - 1)))),(14,.rf 0 0 r51.1.length r51.1.length),(15,.rf 1 0 r51.2.length r51.2.length),(16,.v (.int .i64 c18)),(69,.v (.int .i64 (x1.length:Int))),(70,.v (.int .i64 (wr .i64 (c23 + 1))))] [some ⟨1,3,(r51.1.map cdI.enc),false⟩,some ⟨1,3,(r51.2.map cdI.enc),false⟩] ?_;exact As (s1:=⟨Fr 148 [(1,.sl 9 (x1.map AG.enc)),(11,.sl 1 (v12.1.map (cdL 1 cdI).enc)),(13,.v (.int .i64 (wr .i64 ((wr .i64 (1 * 2 ^ min (x1.length:Int).toNat 64)) - 1)))),(14,.rf 0 0 r51.1.length r51.1.length),(15,.rf 1 0 r51.2.length r51.2.length),(16,.v (.int .i64 c18)),(69,.v (.int .i64 (x1.length:Int))),(70,.v (.int .i64 (wr .i64 (c23 + 1))))],[some ⟨1,3,(r51.1.map cdI.enc),false⟩,some ⟨1,3,(r51.2.map cdI.enc),false⟩]⟩) (AY [0,1] ⟨⟨_,rfl,B7⟩,⟨_,rfl,B7⟩,trivial⟩ ⟨lv,lv,lv,lv,lv,lv,lv,lv,trivial⟩) (ih r51.1 r51.2 (wr .i64 (c23 + 1)) h)
  ·rw [CL hb24] at h
   refine CO ?_;have hq:=OI h; subst hq;exact ⟨rfl,(AY [0,1] ⟨⟨_,rfl,B7⟩,⟨_,rfl,B7⟩,trivial⟩ ⟨lv,lv,lv,lv,lv,lv,trivial⟩)⟩
theorem Jg (x1:(List Am)) (v12:(List (List Int))×Bool):∀ (f:Nat) (c16:(List Int)) (c17:(List Int)) (c18:Int) (r:((List Int)×(List Int))),Ch x1 v12 f c16 c17 c18=some r->SemN E0 ⟨none,false⟩ (pc B3 [1,1,1,1,1,1,1,1,0,1,0,0]) f ⟨Fr 148 [(1,.sl 9 (x1.map AG.enc)),(11,.sl 1 (v12.1.map (cdL 1 cdI).enc)),(13,.v (.int .i64 (wr .i64 ((wr .i64 (1 * 2 ^ min (x1.length:Int).toNat 64)) - 1)))),(14,.rf 0 0 c16.length c16.length),(15,.rf 1 0 c17.length c17.length),(16,.v (.int .i64 c18))],[some ⟨1,3,(c16.map cdI.enc),false⟩,some ⟨1,3,(c17.map cdI.enc),false⟩]⟩ (fun e s=>e=(.exit 2)/\Wk E0 s ⟨Fr 148 [(13,.v (.int .i64 (wr .i64 ((wr .i64 (1 * 2 ^ min (x1.length:Int).toNat 64)) - 1)))),(14,.rf 0 0 r.1.length r.1.length),(15,.rf 1 0 r.2.length r.2.length)],[some ⟨1,3,(r.1.map cdI.enc),false⟩,some ⟨1,3,(r.2.map cdI.enc),false⟩]⟩):=by
 intro f;induction f with
 | zero=>intro c16 c17 c18 r h; cases h
 | succ f ih0 =>
  intro c16 c17 c18 r h
  have ih:=fun (c16:(List Int)) (c17:(List Int)) (c18:Int)=>ih0 c16 c17 c18 r
  unfold Ch at h;refine Bw ?_;refine AH ?_
  let p1:Option Blk:=some ⟨1,3,(c17.map cdI.enc),false⟩
  let p2:Option Blk:=some ⟨1,3,(c16.map cdI.enc),false⟩
  let p3:Nat×AV:=(16,.v (.int .i64 c18))
  let p4:Nat×AV:=(15,.rf 1 0 c17.length c17.length)
  let p5:Nat×AV:=(14,.rf 0 0 c16.length c16.length)
  let p6:Nat×AV:=(13,.v (.int .i64 (wr .i64 ((wr .i64 (1 * 2 ^ min (x1.length:Int).toNat 64)) - 1))))
  let p7:Nat×AV:=(11,.sl 1 (v12.1.map (cdL 1 cdI).enc))
  let p8:Nat×AV:=(1,.sl 9 (x1.map AG.enc))
  refine AJ AC [p8,p7,p6,p5,p4,p3,(62,.v (.bool (decide (c18≥0))))] [p2,p1] ?_;refine AM (b:=(decide (c18≥0))) kr (fun hb19=>?_) (fun hb19=>?_)
  ·rw [if_pos hb19] at h
   refine AQ ?_;refine AH ?_;refine Af ?_;refine AH ?_;obtain ⟨v20,hv20,h⟩:=OB h
   let p9:Option Blk:=some ⟨1,3,((c16.set c18.toNat (-1)).map cdI.enc),false⟩
   let p10:Nat×AV:=(14,.rf 0 0 (c16.set c18.toNat (-1)).length (c16.set c18.toNat (-1)).length)
   refine AI (s1:=⟨Fr 148 [p8,p7,p6,p10,p4,p3],[p9,p1]⟩) ?_ ?_
   ·refine AD (n:=148) AC 2 [p8,p7,p6,p5,p4,p3,(65,.rf 0 0 c16.length c16.length),(66,.v (.int .i64 c18))] [p2,p1] kr ?_
    refine AK AC 0 rfl (Ci (AB rfl) rfl (AS (a:= .rf 0 0 c16.length c16.length) (b:= .v (.int .i64 c18)) kr kr (NH (e:=cdI.enc) (xs:=c16) (t':=3) (el:=3) (k:=1) (ki:= .i64) kr kr kr hv20))) ?_;refine RunS.store AC (y:= .pt 0 c18.toNat 0) (z:= .v (.int .i64 (-1))) rfl (AB rfl) kr kr (Rh (t':=3) (k:=1) (e:=cdI.enc) (xs:=c16) (v:=v20) (v':=(-1)) kr (FL hv20).2 kr kr kr) ?_;exact AL rfl (AY [0,1] ⟨⟨_,rfl,B7⟩,⟨_,rfl,B7⟩,trivial⟩ ⟨lv,lv,lv,UM (b':=0) (n:=c16.length) kr (by simp) kr,lv,lv,trivial⟩)
   refine AH ?_
   let p11:Nat×AV:=(69,.v (.int .i64 (x1.length:Int)))
   refine AI (s1:=⟨Fr 148 [p8,p7,p6,p10,p4,p3,p11,(70,.v (.int .i64 0))],[p9,p1]⟩) ?_ ?_
   ·refine AD (n:=148) AC 1 [p8,p7,p6,p10,p4,p3,(68,.sl 9 (x1.map AG.enc))] [p9,p1] kr ?_
    refine AK AC 0 rfl (Ci (AB rfl) rfl (DY (a:= .sl 9 (x1.map AG.enc)) kr (CB (el:=42) kr))) ?_;exact AO AC
   refine Af ?_;obtain ⟨r55,hr55,h⟩:=OB h;refine CV (n:=100000) ?_;refine BK (As (s1:=⟨Fr 148 [p8,p7,p6,p10,p4,p3,p11,(70,.v (.int .i64 0))],[p9,p1]⟩) (AY [0,1] ⟨⟨_,rfl,B7⟩,⟨_,rfl,B7⟩,trivial⟩ ⟨lv,lv,lv,lv,lv,lv,lv,lv,trivial⟩) (Jh x1 v12 c18 _ (c16.set c18.toNat (-1)) c17 0 _ hr55)) ?_
   let p12:Option Blk:=some ⟨1,3,(r55.2.map cdI.enc),false⟩
   let p13:Option Blk:=some ⟨1,3,(r55.1.map cdI.enc),false⟩
   let p14:Nat×AV:=(16,.v (.int .i64 (wr .i64 (c18 - 1))))
   let p15:Nat×AV:=(15,.rf 1 0 r55.2.length r55.2.length)
   let p16:Nat×AV:=(14,.rf 0 0 r55.1.length r55.1.length)
   refine Cy AC [p8,p7,p6,p16,p15,p14] [p13,p12] ?_;exact As (s1:=⟨Fr 148 [p8,p7,p6,p16,p15,p14],[p13,p12]⟩) (AY [0,1] ⟨⟨_,rfl,B7⟩,⟨_,rfl,B7⟩,trivial⟩ ⟨lv,lv,lv,lv,lv,lv,trivial⟩) (ih r55.1 r55.2 (wr .i64 (c18 - 1)) h)
  ·rw [CL hb19] at h
   refine CO ?_;have hq:=OI h; subst hq;exact ⟨rfl,(AY [0,1] ⟨⟨_,rfl,B7⟩,⟨_,rfl,B7⟩,trivial⟩ ⟨lv,lv,lv,trivial⟩)⟩
theorem Jj (x1:(List Am)) (r58:(List Int)×(List Int)):∀ (f:Nat) (c59:(List Int)) (c60:Int) (r:((List Int))),CG x1 r58 f c59 c60=some r->SemN E0 ⟨none,false⟩ (pc B3 [1,1,1,1,1,1,1,1,1,1,0,1,0,0]) f ⟨Fr 148 [(13,.v (.int .i64 (wr .i64 ((wr .i64 (1 * 2 ^ min (x1.length:Int).toNat 64)) - 1)))),(14,.rf 0 0 r58.1.length r58.1.length),(15,.rf 1 0 r58.2.length r58.2.length),(20,hd 2 (c59.map cdI.enc)),(21,.v (.int .i64 c60))],[some ⟨1,3,(r58.1.map cdI.enc),false⟩,some ⟨1,3,(r58.2.map cdI.enc),false⟩,mk 1 3 (c59.map cdI.enc)]⟩ (fun e s=>e=(.exit 8)/\Wk E0 s ⟨Fr 148 [(14,.rf 0 0 r58.1.length r58.1.length),(20,hd 1 (r.map cdI.enc))],[some ⟨1,3,(r58.1.map cdI.enc),false⟩,mk 1 3 (r.map cdI.enc)]⟩):=by
 intro f;induction f with
 | zero=>intro c59 c60 r h; cases h
 | succ f ih0 =>
  intro c59 c60 r h
  have ih:=fun (c59:(List Int)) (c60:Int)=>ih0 c59 c60 r
  unfold CG at h;refine Bw ?_;refine AH ?_
  let p1:Option Blk:=mk 1 3 (c59.map cdI.enc)
  let p2:Option Blk:=some ⟨1,3,(r58.2.map cdI.enc),false⟩
  let p3:Option Blk:=some ⟨1,3,(r58.1.map cdI.enc),false⟩
  let p4:Nat×AV:=(21,.v (.int .i64 c60))
  let p5:Nat×AV:=(15,.rf 1 0 r58.2.length r58.2.length)
  let p6:Nat×AV:=(14,.rf 0 0 r58.1.length r58.1.length)
  let p7:Nat×AV:=(13,.v (.int .i64 (wr .i64 ((wr .i64 (1 * 2 ^ min (x1.length:Int).toNat 64)) - 1))))
  refine AJ AC [p7,p6,p5,(20,hd 2 (c59.map cdI.enc)),p4,(129,.v (.bool (c60 != (wr .i64 ((wr .i64 (1 * 2 ^ min (x1.length:Int).toNat 64)) - 1)))))] [p3,p2,p1] ?_;refine AM (b:=(c60 != (wr .i64 ((wr .i64 (1 * 2 ^ min (x1.length:Int).toNat 64)) - 1)))) kr (fun hb61=>?_) (fun hb61=>?_)
  ·rw [if_pos hb61] at h
   refine AQ ?_;refine AH ?_;refine Af ?_;obtain ⟨v62,hv62,h⟩:=OB h;by_cases hk63:(Gg 8 (c59.length + 1))=true
   case neg=>rw [if_neg hk63] at h; cases h
   rw [if_pos hk63] at h
   let p8:Option Blk:=mk 1 3 ((c59++[v62]).map cdI.enc)
   let p9:Nat×AV:=(20,hd 2 ((c59++[v62]).map cdI.enc))
   refine AI (s1:=⟨Fr 148 [p7,p6,p5,p9,p4],[p3,p2,p8]⟩) ?_ ?_
   ·refine AD (n:=148) AC 3 [p7,p6,p5,p4,(137,hd 2 (c59.map cdI.enc)),(138,.rf 1 0 r58.2.length r58.2.length),(139,.v (.int .i64 c60))] [p3,p2,p1] kr ?_
    refine AK AC 0 rfl (Ci (AB rfl) rfl (AS (a:= .rf 1 0 r58.2.length r58.2.length) (b:= .v (.int .i64 c60)) kr kr (NH (e:=cdI.enc) (xs:=r58.2) (t':=3) (el:=3) (k:=1) (ki:= .i64) kr kr kr hv62))) ?_;refine AK AC 0 rfl (Ci (AB rfl) rfl (Ip (p:= .pt 1 c60.toNat 0) kr (NL (B:=⟨1,3,(r58.2.map cdI.enc),false⟩) (m:=1) (g:=false) (e:=cdI.enc) (xs:=r58.2) kr kr kr rfl (FL hv62).2 kr))) ?_;refine AD (n:=148) AC 1 [p7,p6,p5,p4,(137,hd 2 (c59.map cdI.enc)),(142,hd 3 ([v62].map cdI.enc))] [p3,p2,p1,mk 1 3 ([v62].map cdI.enc)] kr ?_;refine AK AC 0 rfl (VD (AB rfl) rfl kr kr (IM (a:=hd 2 (c59.map cdI.enc)) (b:=hd 3 ([v62].map cdI.enc)) kr kr (Is (c:=cdI) (xs:=c59) (vs:=[v62]) (k:=1) (bytes:=8) (el:=3) kr kr (I1 (t:=3) kr) (List.cons_ne_nil _ _) kr hk63))) ?_;refine AD (n:=148) AC 1 [p7,p6,p5,(20,hd 4 ((c59++[v62]).map cdI.enc)),p4] [p3,p2,none,mk 1 3 ([v62].map cdI.enc),p8] kr ?_;exact AL rfl (AY [0,1,4] ⟨⟨_,rfl,B7⟩,⟨_,rfl,B7⟩,⟨_,rfl,Cq⟩,trivial⟩ ⟨lv,lv,lv,Cr (b':=4) kr kr,lv,trivial⟩)
   obtain ⟨v64,hv64,h⟩:=OB h;by_cases hk65:(decide (0<=v64))=true
   case neg=>rw [if_neg hk65] at h; cases h
   rw [if_pos hk65] at h
   let p10:Nat×AV:=(21,.v (.int .i64 (orI .i64 c60 (wr .i64 (1 * 2 ^ min v64.toNat 64)))))
   refine AI (s1:=⟨Fr 148 [p7,p6,p5,p9,p10],[p3,p2,p8]⟩) ?_ ?_
   ·refine AD (n:=148) AC 3 [p7,p6,p5,p9,(130,.v (.int .i64 c60)),(131,.rf 1 0 r58.2.length r58.2.length),(132,.v (.int .i64 c60))] [p3,p2,p8] kr ?_
    refine AK AC 0 rfl (Ci (AB rfl) rfl (AS (a:= .rf 1 0 r58.2.length r58.2.length) (b:= .v (.int .i64 c60)) kr kr (NH (e:=cdI.enc) (xs:=r58.2) (t':=3) (el:=3) (k:=1) (ki:= .i64) kr kr kr hv64))) ?_;refine AK AC 0 rfl (Ci (AB rfl) rfl (Ip (p:= .pt 1 c60.toNat 0) kr (NL (B:=⟨1,3,(r58.2.map cdI.enc),false⟩) (m:=1) (g:=false) (e:=cdI.enc) (xs:=r58.2) kr kr kr rfl (FL hv64).2 kr))) ?_;refine AK AC 0 rfl (Ci (AB rfl) rfl (SC (a:= .v (.int .i64 1)) (b:= .v (.int .i64 v64)) kr kr (Mw hk65))) ?_;exact AO AC
   exact As (s1:=⟨Fr 148 [p7,p6,p5,p9,p10],[p3,p2,p8]⟩) (AY [0,1,2] ⟨⟨_,rfl,B7⟩,⟨_,rfl,B7⟩,⟨_,rfl,Cq⟩,trivial⟩ ⟨lv,lv,lv,Cr (b':=2) kr kr,lv,trivial⟩) (ih (c59++[v62]) (orI .i64 c60 (wr .i64 (1 * 2 ^ min v64.toNat 64))) h)
  ·rw [CL hb61] at h
   refine CO ?_;have hq:=OI h; subst hq;exact ⟨rfl,(AY [0,2] ⟨⟨_,rfl,B7⟩,⟨_,rfl,Cq⟩,trivial⟩ ⟨lv,Cr (b':=2) kr kr,trivial⟩)⟩
theorem KS (x0:(List (List AE))) (x1:(List Am)) (r:(List Int)×Int×Int) (h:DK x0 x1=some r):Sem E0 ⟨none,false⟩ B3 ⟨Fr 148 (BP 0 (Fa.enc (x0,x1,()))),[]⟩ fun e s'=>(e = .normal\/e = .ret)/\∃ xs,Em E0.P s'.fr s'.hp Tryz.f49.results.toList=some xs/\Ev xs=Fc r:=by
 unfold DK at h
 let p1:Nat×AV:=(1,.sl 9 (x1.map AG.enc))
 let p2:Nat×AV:=(0,.sl 1 (x0.map (cdL 5 AA).enc))
 refine A8 (Bv (s1:=⟨Fr 148 [p2,p1],[]⟩) AN ?_);refine AJ AC [p2,p1] [] ?_;refine AH ?_;refine AH ?_;refine AI (s1:=⟨Fr 148 [p2,p1,(24,.v (.bool (decide ((x0.length:Int) > 16))))],[]⟩) ?_ ?_
 ·refine AD (n:=148) AC 1 [p2,p1,(22,.sl 1 (x0.map (cdL 5 AA).enc))] [] kr ?_
  refine AK AC 0 rfl (Ci (AB rfl) rfl (DY (a:= .sl 1 (x0.map (cdL 5 AA).enc)) kr (CB (el:=22) kr))) ?_;exact AO AC
 refine AM (b:=(decide ((x0.length:Int) > 16))) kr (fun hb1=>?_) (fun hb1=>?_)
 ·rw [if_pos hb1] at h
  let p3:Nat×AV:=(6,.v (.int .i64 7))
  let p4:Nat×AV:=(5,.v (.int .i64 0))
  refine AJ AC [(4,.e0),p4,p3] [] ?_;refine AU ?_;have hq:=OI h; subst hq;exact ⟨⟨Fr 148 [(4,.sl 1 ([].map cdI.enc)),p4,p3],[]⟩,(Wk.trans (s1:=⟨Fr 148 [(4,.e0),p4,p3],[]⟩) AN (Wk.trans (s1:=⟨Fr 148 [(4,.e0),p4,p3],[none]⟩) Wk.none (Wk.trans (s1:=⟨Fr 148 [(4,.sl 1 ([].map cdI.enc)),p4,p3],[none]⟩) (Fs 0 (.inr kr) ⟨.inl rfl,trivial⟩ ⟨⟨.e0,kr,Pw⟩,⟨.v (.int .i64 0),kr,.inl rfl⟩,⟨.v (.int .i64 7),kr,.inl rfl⟩,trivial⟩) (AY [] trivial ⟨lv,lv,lv,trivial⟩)))),.inr rfl,[.sl 1 ([].map cdI.enc),.v (.int .i64 0),.v (.int .i64 7)],kr,kr⟩
 ·rw [CL hb1] at h
  refine AQ ?_;refine AH ?_;refine AH ?_
  let p5:Nat×AV:=(27,.v (.int .i64 0))
  let p6:Nat×AV:=(26,.v (.int .i64 (x0.length:Int)))
  let p7:Nat×AV:=(25,.sl 1 (x0.map (cdL 5 AA).enc))
  refine AI (s1:=⟨Fr 148 [p2,p1,p7,p6,p5],[]⟩) ?_ ?_
  ·refine AD (n:=148) AC 1 [p2,p1,p7] [] kr ?_
   refine AK AC 0 rfl (Ci (AB rfl) rfl (DY (a:= .sl 1 (x0.map (cdL 5 AA).enc)) kr (CB (el:=22) kr))) ?_;exact AO AC
  refine Af ?_;obtain ⟨r9,hr9,h⟩:=OB h;refine CV (n:=100000) ?_;rcases r9 with w10 | w69
  ·try dsimp only at h
   refine BK (As (s1:=⟨Fr 148 [p2,p1,p7,p6,p5],[]⟩) AN (Gc x0 x1 _ 0 _ hr9)) ?_;refine AH ?_;refine AH ?_;refine AI (s1:=⟨Fr 148 [p2,p1,(42,.v (.bool (decide ((x1.length:Int) > 7))))],[]⟩) ?_ ?_
   ·refine AD (n:=148) AC 1 [p2,p1,(40,.sl 9 (x1.map AG.enc))] [] kr ?_
    refine AK AC 0 rfl (Ci (AB rfl) rfl (DY (a:= .sl 9 (x1.map AG.enc)) kr (CB (el:=42) kr))) ?_;exact AO AC
   refine AM (b:=(decide ((x1.length:Int) > 7))) kr (fun hb11=>?_) (fun hb11=>?_)
   ·rw [if_pos hb11] at h
    let p8:Nat×AV:=(6,.v (.int .i64 8))
    let p9:Nat×AV:=(5,.v (.int .i64 0))
    refine AJ AC [(4,.e0),p9,p8] [] ?_;refine AU ?_;have hq:=OI h; subst hq;exact ⟨⟨Fr 148 [(4,.sl 1 ([].map cdI.enc)),p9,p8],[]⟩,(Wk.trans (s1:=⟨Fr 148 [(4,.e0),p9,p8],[]⟩) AN (Wk.trans (s1:=⟨Fr 148 [(4,.e0),p9,p8],[none]⟩) Wk.none (Wk.trans (s1:=⟨Fr 148 [(4,.sl 1 ([].map cdI.enc)),p9,p8],[none]⟩) (Fs 0 (.inr kr) ⟨.inl rfl,trivial⟩ ⟨⟨.e0,kr,Pw⟩,⟨.v (.int .i64 0),kr,.inl rfl⟩,⟨.v (.int .i64 8),kr,.inl rfl⟩,trivial⟩) (AY [] trivial ⟨lv,lv,lv,trivial⟩)))),.inr rfl,[.sl 1 ([].map cdI.enc),.v (.int .i64 0),.v (.int .i64 8)],kr,kr⟩
   ·rw [CL hb11] at h
    refine AQ ?_;refine AH ?_;obtain ⟨v12,hv12,h⟩:=OB h
    let p10:Nat×AV:=(11,.sl 1 (v12.1.map (cdL 1 cdI).enc))
    refine AI (s1:=⟨Fr 148 [p1,p10],[]⟩) ?_ ?_
    ·refine AD (n:=148) AC 2 [p1,(44,.sl 1 (x0.map (cdL 5 AA).enc)),(45,.sl 9 (x1.map AG.enc))] [] kr ?_
     refine Ac (caps:=[]) (xs:=[.sl 1 (x0.map (cdL 5 AA).enc),.sl 9 (x1.map AG.enc)]) (u:=(x0,x1,())) rfl rfl JL rfl (AB rfl) kr kr (AP (Ab (c:=(cdL 1 (cdL 5 AA))) (v:=x0)) (AP (Ab (c:=(cdL 9 AG)) (v:=x1)) BJ)) (.inr kr) hv12 ?_;exact AO AC
    refine AH ?_;by_cases hk13:(decide (0<=(x1.length:Int)))=true
    case neg=>rw [if_neg hk13] at h; cases h
    rw [if_pos hk13] at h
    let p11:Nat×AV:=(13,.v (.int .i64 (wr .i64 ((wr .i64 (1 * 2 ^ min (x1.length:Int).toNat 64)) - 1))))
    refine AI (s1:=⟨Fr 148 [p1,p10,p11],[]⟩) ?_ ?_
    ·refine AD (n:=148) AC 1 [p1,p10,(49,.sl 9 (x1.map AG.enc))] [] kr ?_
     refine AK AC 0 rfl (Ci (AB rfl) rfl (DY (a:= .sl 9 (x1.map AG.enc)) kr (CB (el:=42) kr))) ?_;refine AK AC 0 rfl (Ci (AB rfl) rfl (SC (a:= .v (.int .i64 1)) (b:= .v (.int .i64 (x1.length:Int))) kr kr (Mw hk13))) ?_;exact AO AC
    refine AH ?_;by_cases hk14:(OD 8 (wr .i64 ((wr .i64 ((wr .i64 (1 * 2 ^ min (x1.length:Int).toNat 64)) - 1)) + 1)))=true
    case neg=>rw [if_neg hk14] at h; cases h
    rw [if_pos hk14] at h
    let p12:Option Blk:=some ⟨1,3,((List.replicate (wr .i64 ((wr .i64 ((wr .i64 (1 * 2 ^ min (x1.length:Int).toNat 64)) - 1)) + 1)).toNat (0:Int)).map cdI.enc),false⟩
    let p13:Nat×AV:=(14,.rf 0 0 (List.replicate (wr .i64 ((wr .i64 ((wr .i64 (1 * 2 ^ min (x1.length:Int).toNat 64)) - 1)) + 1)).toNat (0:Int)).length (List.replicate (wr .i64 ((wr .i64 ((wr .i64 (1 * 2 ^ min (x1.length:Int).toNat 64)) - 1)) + 1)).toNat (0:Int)).length)
    refine AI (s1:=⟨Fr 148 [p1,p10,p11,p13],[p12]⟩) ?_ ?_
    ·refine AD (n:=148) AC 2 [p1,p10,p11,(54,.v (.int .i64 (wr .i64 ((wr .i64 ((wr .i64 (1 * 2 ^ min (x1.length:Int).toNat 64)) - 1)) + 1))))] [] kr ?_
     refine AK AC 0 rfl (VC (AB rfl) rfl kr (P7 (x:= .v (.int .i64 (wr .i64 ((wr .i64 ((wr .i64 (1 * 2 ^ min (x1.length:Int).toNat 64)) - 1)) + 1)))) (y:= .v (.int .i64 (wr .i64 ((wr .i64 ((wr .i64 (1 * 2 ^ min (x1.length:Int).toNat 64)) - 1)) + 1)))) kr kr (S8 (c:=cdI) (z:=(0:Int)) (k:=1) (bytes:=8) (el:=3) kr kr hk14))) ?_;exact AO AC
    refine AH ?_;by_cases hk15:(OD 8 (wr .i64 ((wr .i64 ((wr .i64 (1 * 2 ^ min (x1.length:Int).toNat 64)) - 1)) + 1)))=true
    case neg=>rw [if_neg hk15] at h; cases h
    rw [if_pos hk15] at h
    let p14:Nat×AV:=(15,.rf 1 0 (List.replicate (wr .i64 ((wr .i64 ((wr .i64 (1 * 2 ^ min (x1.length:Int).toNat 64)) - 1)) + 1)).toNat (0:Int)).length (List.replicate (wr .i64 ((wr .i64 ((wr .i64 (1 * 2 ^ min (x1.length:Int).toNat 64)) - 1)) + 1)).toNat (0:Int)).length)
    refine AI (s1:=⟨Fr 148 [p1,p10,p11,p13,p14],[p12,p12]⟩) ?_ ?_
    ·refine AD (n:=148) AC 2 [p1,p10,p11,p13,(57,.v (.int .i64 (wr .i64 ((wr .i64 ((wr .i64 (1 * 2 ^ min (x1.length:Int).toNat 64)) - 1)) + 1))))] [p12] kr ?_
     refine AK AC 0 rfl (VC (AB rfl) rfl kr (P7 (x:= .v (.int .i64 (wr .i64 ((wr .i64 ((wr .i64 (1 * 2 ^ min (x1.length:Int).toNat 64)) - 1)) + 1)))) (y:= .v (.int .i64 (wr .i64 ((wr .i64 ((wr .i64 (1 * 2 ^ min (x1.length:Int).toNat 64)) - 1)) + 1)))) kr kr (S8 (c:=cdI) (z:=(0:Int)) (k:=1) (bytes:=8) (el:=3) kr kr hk15))) ?_;exact AO AC
    refine AH ?_
    let p15:Nat×AV:=(16,.v (.int .i64 (wr .i64 ((wr .i64 ((wr .i64 (1 * 2 ^ min (x1.length:Int).toNat 64)) - 1)) - 1))))
    refine AJ AC [p1,p10,p11,p13,p14,p15] [p12,p12] ?_;refine Af ?_;obtain ⟨r58,hr58,h⟩:=OB h;refine CV (n:=100000) ?_;refine BK (As (s1:=⟨Fr 148 [p1,p10,p11,p13,p14,p15],[p12,p12]⟩) (AY [0,1] ⟨⟨_,rfl,B7⟩,⟨_,rfl,B7⟩,trivial⟩ ⟨lv,lv,lv,lv,lv,lv,trivial⟩) (Jg x1 v12 _ (List.replicate (wr .i64 ((wr .i64 ((wr .i64 (1 * 2 ^ min (x1.length:Int).toNat 64)) - 1)) + 1)).toNat (0:Int)) (List.replicate (wr .i64 ((wr .i64 ((wr .i64 (1 * 2 ^ min (x1.length:Int).toNat 64)) - 1)) + 1)).toNat (0:Int)) (wr .i64 ((wr .i64 ((wr .i64 (1 * 2 ^ min (x1.length:Int).toNat 64)) - 1)) - 1)) _ hr58)) ?_
    let p16:Option Blk:=some ⟨1,3,(r58.2.map cdI.enc),false⟩
    let p17:Option Blk:=some ⟨1,3,(r58.1.map cdI.enc),false⟩
    let p18:Nat×AV:=(15,.rf 1 0 r58.2.length r58.2.length)
    let p19:Nat×AV:=(14,.rf 0 0 r58.1.length r58.1.length)
    refine AJ AC [p11,p19,p18,(20,.e0)] [p17,p16] ?_;refine AH ?_
    let p20:Nat×AV:=(21,.v (.int .i64 0))
    refine AJ AC [p11,p19,p18,(20,.e0),p20] [p17,p16] ?_;refine Af ?_;obtain ⟨r67,hr67,h⟩:=OB h;refine CV (n:=100000) ?_;refine BK (As (s1:=⟨Fr 148 [p11,p19,p18,(20,hd 2 ([].map cdI.enc)),p20],[p17,p16,mk 1 3 ([].map cdI.enc)]⟩) (Wk.trans (s1:=⟨Fr 148 [p11,p19,p18,(20,hd 2 ([].map cdI.enc)),p20],[p17,p16,mk 1 3 ([].map cdI.enc)]⟩) Wk.none (AY [0,1,2] ⟨⟨_,rfl,B7⟩,⟨_,rfl,B7⟩,⟨_,rfl,LU⟩,trivial⟩ ⟨lv,lv,lv,lv,lv,trivial⟩)) (Jj x1 r58 _ [] 0 _ hr67)) ?_;refine AH ?_;obtain ⟨v68,hv68,h⟩:=OB h
    let p21:Option Blk:=mk 1 3 (r67.map cdI.enc)
    let p22:Nat×AV:=(6,.v (.int .i64 0))
    let p23:Nat×AV:=(5,.v (.int .i64 v68))
    refine EH AC (s1:=⟨Fr 148 [(4,hd 0 (r67.map cdI.enc)),p23,p22],[p21]⟩) kr ?_ ?_
    ·refine Ap (n:=148) AC 2 [(144,hd 1 (r67.map cdI.enc)),(145,.rf 0 0 r58.1.length r58.1.length)] [p17,p21] kr kr ?_
     refine RunDS.one AC rfl kr (PE kr (AB rfl) rfl (AS (a:= .rf 0 0 r58.1.length r58.1.length) (b:= .v (.int .i64 0)) kr kr (NH (e:=cdI.enc) (xs:=r58.1) (t':=3) (el:=3) (k:=1) (ki:= .i64) kr kr kr hv68)) kr) ?_;refine RunDS.one AC rfl kr (PE kr (AB rfl) rfl (Ip (p:= .pt 0 ((0:Int).toNat) 0) kr (NL (B:=⟨1,3,(r58.1.map cdI.enc),false⟩) (m:=1) (g:=false) (e:=cdI.enc) (xs:=r58.1) kr kr kr rfl (FL hv68).2 kr)) kr) ?_;refine Ap (n:=148) AC 3 [(4,hd 1 (r67.map cdI.enc)),p23,p22] [p17,p21] kr kr ?_;exact RunDS.done rfl (AY [1] ⟨⟨_,rfl,Cq⟩,trivial⟩ ⟨Cr (b':=1) kr kr,lv,lv,trivial⟩)
    refine AU ?_;have hq:=OI h; subst hq;exact ⟨⟨Fr 148 [(4,.sl 1 (r67.map cdI.enc)),p23,p22],[]⟩,(Wk.trans (s1:=⟨Fr 148 [(4,.sl 1 (r67.map cdI.enc)),p23,p22],[none]⟩) (Fs 0 (.inl kr) ⟨.inl rfl,trivial⟩ ⟨⟨hd 0 (r67.map cdI.enc),kr,MV (t:=3) kr II⟩,⟨.v (.int .i64 v68),kr,.inl rfl⟩,⟨.v (.int .i64 0),kr,.inl rfl⟩,trivial⟩) (AY [] trivial ⟨lv,lv,lv,trivial⟩)),.inr rfl,[.sl 1 (r67.map cdI.enc),.v (.int .i64 v68),.v (.int .i64 0)],kr,kr⟩
  ·try dsimp only at h
   refine BK (As (s1:=⟨Fr 148 [p2,p1,p7,p6,p5],[]⟩) AN (Gc x0 x1 _ 0 _ hr9)) ?_;have hq:=OI h; subst hq
   let p24:Nat×AV:=(6,.v (.int .i64 w69.2))
   let p25:Nat×AV:=(5,.v (.int .i64 w69.1))
   exact ⟨⟨Fr 148 [(4,.sl 1 ([].map cdI.enc)),p25,p24],[]⟩,(Wk.trans (s1:=⟨Fr 148 [(4,.e0),p25,p24],[]⟩) AN (Wk.trans (s1:=⟨Fr 148 [(4,.e0),p25,p24],[none]⟩) Wk.none (Wk.trans (s1:=⟨Fr 148 [(4,.sl 1 ([].map cdI.enc)),p25,p24],[none]⟩) (Fs 0 (.inr kr) ⟨.inl rfl,trivial⟩ ⟨⟨.e0,kr,Pw⟩,⟨.v (.int .i64 w69.1),kr,.inl rfl⟩,⟨.v (.int .i64 w69.2),kr,.inl rfl⟩,trivial⟩) (AY [] trivial ⟨lv,lv,lv,trivial⟩)))),.inr rfl,[.sl 1 ([].map cdI.enc),.v (.int .i64 w69.1),.v (.int .i64 w69.2)],kr,kr⟩
def LL:List AV->Option AV:=D4 Fa (fun a=>DK a.1 a.2.1) Fc
theorem LQ:XOk 49 LL:=by
 refine AW Tryz.func49 (c:=B3) ?h2 ⟨Tryz.call49⟩ Fa (fun a=>DK a.1 a.2.1) Fc (fun a=>(by show 2<=148; decide)) ?h3 ?h4
 case h2=>kernel_rfl
 case h3=>intro b; kernel_rfl
 case h4=>exact fun a b h=>KS a.1 a.2.1 b h
/- trestle/court.permutation -/
noncomputable def FG:Code:=Br Tryz.f108
def CU (x0:(List Int)) (x1:Int):Nat->(List Bool)->Int->Option ((Unit) ⊕ (Bool))
 | 0,_,_=>none
 | f + 1,c2,c3 =>
  if (decide (c3 < (x0.length:Int)))=true then
  (idx x0 c3).bind fun v5 =>
  (if (decide (v5 < 0))=true then some (c2,true) else if (decide (v5≥x1))=true then some (c2,true) else (idx c2 v5).bind fun v6 =>
  some (c2,v6)).bind fun j9 =>
  if j9.2=true then
  some (.inr false)
  else
  (idx j9.1 v5).bind fun _v12 =>
  CU x0 x1 f (j9.1.set v5.toNat true) (wr .i64 (c3 + 1))
  else
  some (.inl ())
def C1 (x0:(List Int)) (x1:Int):Option (Bool) :=
 if (OD 1 x1)=true then
 (CU x0 x1 100000 (List.replicate x1.toNat false) 0).bind fun r15 =>
 match r15 with
 | (.inl _w16) =>
  some ((x0.length:Int)==x1)
 | (.inr w17) =>
  some w17
 else none
def FH:Cs ((List Int)×Int×Unit):=(csC (cdL 1 cdI) (csC cdI csN))
def FI (r:Bool):AV:=cdB.enc r
theorem F7 (x0:(List Int)) (x1:Int):∀ (f:Nat) (c2:(List Bool)) (c3:Int) (r:(Unit) ⊕ (Bool)),CU x0 x1 f c2 c3=some r->SemN E0 ⟨none,false⟩ (pc FG [1,1,0,1,0,0]) f ⟨Fr 37 [(0,.sl 1 (x0.map cdI.enc)),(1,.v (.int .i64 x1)),(5,.rf 0 0 c2.length c2.length),(10,.sl 1 (x0.map cdI.enc)),(11,.v (.int .i64 (x0.length:Int))),(12,.v (.int .i64 c3))],[some ⟨1,4,(c2.map cdB.enc),false⟩]⟩ (fun e s=>match r with
 | (.inl _w)=>e=(.exit 0)/\Wk E0 s ⟨Fr 37 [(0,.sl 1 (x0.map cdI.enc)),(1,.v (.int .i64 x1))],[]⟩
 | (.inr w)=>e = .ret/\Wk E0 s ⟨Fr 37 [(4,.v (.bool w))],[]⟩):=by
 intro f;induction f with
 | zero=>intro c2 c3 r h; cases h
 | succ f ih0 =>
  intro c2 c3 r h
  have ih:=fun (c2:(List Bool)) (c3:Int)=>ih0 c2 c3 r
  unfold CU at h;refine Bw ?_;refine AJ AC [(0,.sl 1 (x0.map cdI.enc)),(1,.v (.int .i64 x1)),(5,.rf 0 0 c2.length c2.length),(10,.sl 1 (x0.map cdI.enc)),(11,.v (.int .i64 (x0.length:Int))),(12,.v (.int .i64 c3)),(13,.v (.bool (decide (c3 < (x0.length:Int)))))] [some ⟨1,4,(c2.map cdB.enc),false⟩] ?_;refine AH ?_;refine AM (b:=(decide (c3 < (x0.length:Int)))) kr (fun hb4=>?_) (fun hb4=>?_)
  ·rw [if_pos hb4] at h
   refine AQ ?_;refine AH ?_;refine Af ?_;refine AH ?_;obtain ⟨v5,hv5,h⟩:=OB h;refine AI (s1:=⟨Fr 37 [(0,.sl 1 (x0.map cdI.enc)),(1,.v (.int .i64 x1)),(5,.rf 0 0 c2.length c2.length),(7,.v (.int .i64 v5)),(10,.sl 1 (x0.map cdI.enc)),(11,.v (.int .i64 (x0.length:Int))),(12,.v (.int .i64 c3))],[some ⟨1,4,(c2.map cdB.enc),false⟩]⟩) ?_ ?_
   ·refine AK AC 0 rfl (Ci (AB rfl) rfl (AS (a:= .sl 1 (x0.map cdI.enc)) (b:= .v (.int .i64 c3)) kr kr (FM (e:=cdI.enc) (el:=3) (k:=1) (ki:= .i64) kr kr hv5))) ?_
    exact AO AC
   refine AH ?_;refine AH ?_;obtain ⟨j9,hj9,h⟩:=OB h;refine AI (s1:=⟨Fr 37 [(0,.sl 1 (x0.map cdI.enc)),(1,.v (.int .i64 x1)),(5,.rf 0 0 j9.1.length j9.1.length),(7,.v (.int .i64 v5)),(10,.sl 1 (x0.map cdI.enc)),(11,.v (.int .i64 (x0.length:Int))),(12,.v (.int .i64 c3)),(28,.v (.bool j9.2))],[some ⟨1,4,(j9.1.map cdB.enc),false⟩]⟩) ?_ ?_
   ·refine AD (n:=37) AC 3 [(0,.sl 1 (x0.map cdI.enc)),(1,.v (.int .i64 x1)),(5,.rf 0 0 c2.length c2.length),(7,.v (.int .i64 v5)),(10,.sl 1 (x0.map cdI.enc)),(11,.v (.int .i64 (x0.length:Int))),(12,.v (.int .i64 c3)),(18,.v (.bool (decide (v5 < 0))))] [some ⟨1,4,(c2.map cdB.enc),false⟩] kr ?_
    rcases BE (decide (v5 < 0)) with hc13 | hc13
    ·rw [if_pos hc13] at hj9
     rw [hc13];refine AD (n:=37) AC 10 [(0,.sl 1 (x0.map cdI.enc)),(1,.v (.int .i64 x1)),(5,.rf 0 0 c2.length c2.length),(7,.v (.int .i64 v5)),(10,.sl 1 (x0.map cdI.enc)),(11,.v (.int .i64 (x0.length:Int))),(12,.v (.int .i64 c3)),(19,.tp []),(20,.tp []),(21,.tp []),(24,.tp []),(25,.tp []),(26,.tp []),(27,.tp []),(28,.v (.bool true))] [some ⟨1,4,(c2.map cdB.enc),false⟩] kr ?_;have hq:=OI hj9; subst hq;exact AL rfl (AY [0] ⟨⟨_,rfl,B7⟩,trivial⟩ ⟨lv,lv,lv,lv,lv,lv,lv,lv,trivial⟩)
    ·rw [CL hc13] at hj9
     rw [hc13];refine AD (n:=37) AC 5 [(0,.sl 1 (x0.map cdI.enc)),(1,.v (.int .i64 x1)),(5,.rf 0 0 c2.length c2.length),(7,.v (.int .i64 v5)),(10,.sl 1 (x0.map cdI.enc)),(11,.v (.int .i64 (x0.length:Int))),(12,.v (.int .i64 c3)),(19,.v (.int .i64 v5)),(20,.v (.int .i64 x1)),(21,.v (.bool (decide (v5≥x1)))),(23,.v (.bool (decide (v5≥x1))))] [some ⟨1,4,(c2.map cdB.enc),false⟩] kr ?_;rcases BE (decide (v5≥x1)) with hc14 | hc14
     ·rw [if_pos hc14] at hj9
      rw [hc14];refine AD (n:=37) AC 5 [(0,.sl 1 (x0.map cdI.enc)),(1,.v (.int .i64 x1)),(5,.rf 0 0 c2.length c2.length),(7,.v (.int .i64 v5)),(10,.sl 1 (x0.map cdI.enc)),(11,.v (.int .i64 (x0.length:Int))),(12,.v (.int .i64 c3)),(19,.v (.int .i64 v5)),(20,.v (.int .i64 x1)),(21,.v (.bool true)),(24,.tp []),(25,.tp []),(26,.tp []),(27,.tp []),(28,.v (.bool true))] [some ⟨1,4,(c2.map cdB.enc),false⟩] kr ?_;have hq:=OI hj9; subst hq;exact AL rfl (AY [0] ⟨⟨_,rfl,B7⟩,trivial⟩ ⟨lv,lv,lv,lv,lv,lv,lv,lv,trivial⟩)
     ·rw [CL hc14] at hj9
      rw [hc14];refine AD (n:=37) AC 2 [(0,.sl 1 (x0.map cdI.enc)),(1,.v (.int .i64 x1)),(5,.rf 0 0 c2.length c2.length),(7,.v (.int .i64 v5)),(10,.sl 1 (x0.map cdI.enc)),(11,.v (.int .i64 (x0.length:Int))),(12,.v (.int .i64 c3)),(19,.v (.int .i64 v5)),(20,.v (.int .i64 x1)),(21,.v (.bool false)),(23,.v (.bool false)),(24,.rf 0 0 c2.length c2.length),(25,.v (.int .i64 v5))] [some ⟨1,4,(c2.map cdB.enc),false⟩] kr ?_;obtain ⟨v6,hv6,hj9⟩:=OB hj9;refine AK AC 0 rfl (Ci kr rfl (AS (a:= .rf 0 0 c2.length c2.length) (b:= .v (.int .i64 v5)) kr kr (NH (e:=cdB.enc) (xs:=c2) (t':=4) (el:=4) (k:=1) (ki:= .i64) kr kr kr hv6))) ?_;refine AK AC 0 rfl (Ci kr rfl (Ip (p:= .pt 0 v5.toNat 0) kr (NL (B:=⟨1,4,(c2.map cdB.enc),false⟩) (m:=1) (g:=false) (e:=cdB.enc) (xs:=c2) kr kr kr rfl (FL hv6).2 kr))) ?_;refine AD (n:=37) AC 1 [(0,.sl 1 (x0.map cdI.enc)),(1,.v (.int .i64 x1)),(5,.rf 0 0 c2.length c2.length),(7,.v (.int .i64 v5)),(10,.sl 1 (x0.map cdI.enc)),(11,.v (.int .i64 (x0.length:Int))),(12,.v (.int .i64 c3)),(19,.v (.int .i64 v5)),(20,.v (.int .i64 x1)),(21,.v (.bool false)),(24,.rf 0 0 c2.length c2.length),(25,.v (.int .i64 v5)),(26,.pt 0 v5.toNat 0),(27,.v (.bool v6)),(28,.v (.bool v6))] [some ⟨1,4,(c2.map cdB.enc),false⟩] kr ?_;have hq:=OI hj9; subst hq;exact AL rfl (AY [0] ⟨⟨_,rfl,B7⟩,trivial⟩ ⟨lv,lv,lv,lv,lv,lv,lv,lv,trivial⟩)
   refine AM (b:=j9.2) kr (fun hb10=>?_) (fun hb10=>?_)
   ·rw [if_pos hb10] at h
    refine AH ?_;refine AI (s1:=⟨Fr 37 [(4,.v (.bool false))],[]⟩) ?_ ?_
    ·refine AD (n:=37) AC 1 [(4,.v (.bool false))] [some ⟨1,4,(j9.1.map cdB.enc),false⟩] kr ?_
     exact AL rfl (AY [] trivial ⟨lv,trivial⟩)
    refine AU ?_;have hq:=OI h; subst hq;exact ⟨rfl,AN⟩
   ·rw [CL hb10] at h
    refine AQ ?_;obtain ⟨v12,hv12,h⟩:=OB h;refine AI (s1:=⟨Fr 37 [(0,.sl 1 (x0.map cdI.enc)),(1,.v (.int .i64 x1)),(5,.rf 0 0 (j9.1.set v5.toNat true).length (j9.1.set v5.toNat true).length),(10,.sl 1 (x0.map cdI.enc)),(11,.v (.int .i64 (x0.length:Int))),(12,.v (.int .i64 c3))],[some ⟨1,4,((j9.1.set v5.toNat true).map cdB.enc),false⟩]⟩) ?_ ?_
    ·refine AD (n:=37) AC 2 [(0,.sl 1 (x0.map cdI.enc)),(1,.v (.int .i64 x1)),(5,.rf 0 0 j9.1.length j9.1.length),(10,.sl 1 (x0.map cdI.enc)),(11,.v (.int .i64 (x0.length:Int))),(12,.v (.int .i64 c3)),(29,.rf 0 0 j9.1.length j9.1.length),(30,.v (.int .i64 v5))] [some ⟨1,4,(j9.1.map cdB.enc),false⟩] kr ?_
     refine AK AC 0 rfl (Ci (AB rfl) rfl (AS (a:= .rf 0 0 j9.1.length j9.1.length) (b:= .v (.int .i64 v5)) kr kr (NH (e:=cdB.enc) (xs:=j9.1) (t':=4) (el:=4) (k:=1) (ki:= .i64) kr kr kr hv12))) ?_;refine RunS.store AC (y:= .pt 0 v5.toNat 0) (z:= .v (.bool true)) rfl (AB rfl) kr kr (Rh (t':=4) (k:=1) (e:=cdB.enc) (xs:=j9.1) (v:=v12) (v':=true) kr (FL hv12).2 kr kr kr) ?_;exact AL rfl (AY [0] ⟨⟨_,rfl,B7⟩,trivial⟩ ⟨lv,lv,UM (b':=0) (n:=j9.1.length) kr (by simp) kr,lv,lv,lv,trivial⟩)
    refine Cy AC [(0,.sl 1 (x0.map cdI.enc)),(1,.v (.int .i64 x1)),(5,.rf 0 0 (j9.1.set v5.toNat true).length (j9.1.set v5.toNat true).length),(10,.sl 1 (x0.map cdI.enc)),(11,.v (.int .i64 (x0.length:Int))),(12,.v (.int .i64 (wr .i64 (c3 + 1))))] [some ⟨1,4,((j9.1.set v5.toNat true).map cdB.enc),false⟩] ?_;exact As (s1:=⟨Fr 37 [(0,.sl 1 (x0.map cdI.enc)),(1,.v (.int .i64 x1)),(5,.rf 0 0 (j9.1.set v5.toNat true).length (j9.1.set v5.toNat true).length),(10,.sl 1 (x0.map cdI.enc)),(11,.v (.int .i64 (x0.length:Int))),(12,.v (.int .i64 (wr .i64 (c3 + 1))))],[some ⟨1,4,((j9.1.set v5.toNat true).map cdB.enc),false⟩]⟩) (AY [0] ⟨⟨_,rfl,B7⟩,trivial⟩ ⟨lv,lv,lv,lv,lv,lv,trivial⟩) (ih (j9.1.set v5.toNat true) (wr .i64 (c3 + 1)) h)
  ·rw [CL hb4] at h
   refine CO ?_;have hq:=OI h; subst hq;exact ⟨rfl,(AY [] trivial ⟨lv,lv,trivial⟩)⟩
theorem Ju (x0:(List Int)) (x1:Int) (r:Bool) (h:C1 x0 x1=some r):Sem E0 ⟨none,false⟩ FG ⟨Fr 37 (BP 0 (FH.enc (x0,x1,()))),[]⟩ fun e s'=>(e = .normal\/e = .ret)/\∃ xs,Em E0.P s'.fr s'.hp Tryz.f108.results.toList=some xs/\Ev xs=FI r:=by
 unfold C1 at h
 let p1:Nat×AV:=(1,.v (.int .i64 x1))
 let p2:Nat×AV:=(0,.sl 1 (x0.map cdI.enc))
 refine A8 (Bv (s1:=⟨Fr 37 [p2,p1],[]⟩) AN ?_);refine AJ AC [p2,p1] [] ?_;refine AH ?_;by_cases hk1:(OD 1 x1)=true
 case neg=>rw [if_neg hk1] at h; cases h
 rw [if_pos hk1] at h
 let p3:Option Blk:=some ⟨1,4,((List.replicate x1.toNat false).map cdB.enc),false⟩
 let p4:Nat×AV:=(5,.rf 0 0 (List.replicate x1.toNat false).length (List.replicate x1.toNat false).length)
 refine AI (s1:=⟨Fr 37 [p2,p1,p4],[p3]⟩) ?_ ?_
 ·refine AD (n:=37) AC 1 [p2,p1,(8,.v (.int .i64 x1))] [] kr ?_
  refine AK AC 0 rfl (VC (AB rfl) rfl kr (P7 (x:= .v (.int .i64 x1)) (y:= .v (.int .i64 x1)) kr kr (S8 (c:=cdB) (z:=false) (k:=1) (bytes:=1) (el:=4) kr kr hk1))) ?_;exact AO AC
 refine AH ?_;refine AH ?_
 let p5:Nat×AV:=(12,.v (.int .i64 0))
 let p6:Nat×AV:=(11,.v (.int .i64 (x0.length:Int)))
 let p7:Nat×AV:=(10,.sl 1 (x0.map cdI.enc))
 refine AI (s1:=⟨Fr 37 [p2,p1,p4,p7,p6,p5],[p3]⟩) ?_ ?_
 ·refine AD (n:=37) AC 1 [p2,p1,p4,p7] [p3] kr ?_
  refine AK AC 0 rfl (Ci (AB rfl) rfl (DY (a:= .sl 1 (x0.map cdI.enc)) kr (CB (el:=3) kr))) ?_;exact AO AC
 refine Af ?_;obtain ⟨r15,hr15,h⟩:=OB h;refine CV (n:=100000) ?_;rcases r15 with w16 | w17
 ·try dsimp only at h
  refine BK (As (s1:=⟨Fr 37 [p2,p1,p4,p7,p6,p5],[p3]⟩) (AY [0] ⟨⟨_,rfl,B7⟩,trivial⟩ ⟨lv,lv,lv,lv,lv,lv,trivial⟩) (F7 x0 x1 _ (List.replicate x1.toNat false) 0 _ hr15)) ?_;refine AH ?_
  let p8:Nat×AV:=(4,.v (.bool ((x0.length:Int)==x1)))
  refine AI (s1:=⟨Fr 37 [p8],[]⟩) ?_ ?_
  ·refine AD (n:=37) AC 1 [p1,(33,.sl 1 (x0.map cdI.enc))] [] kr ?_
   refine AK AC 0 rfl (Ci (AB rfl) rfl (DY (a:= .sl 1 (x0.map cdI.enc)) kr (CB (el:=3) kr))) ?_;exact AO AC
  refine AU ?_;have hq:=OI h; subst hq;exact ⟨⟨Fr 37 [p8],[]⟩,AN,.inr rfl,[.v (.bool ((x0.length:Int)==x1))],kr,kr⟩
 ·try dsimp only at h
  refine BK (As (s1:=⟨Fr 37 [p2,p1,p4,p7,p6,p5],[p3]⟩) (AY [0] ⟨⟨_,rfl,B7⟩,trivial⟩ ⟨lv,lv,lv,lv,lv,lv,trivial⟩) (F7 x0 x1 _ (List.replicate x1.toNat false) 0 _ hr15)) ?_;have hq:=OI h; subst hq;exact ⟨⟨Fr 37 [(4,.v (.bool w17))],[]⟩,AN,.inr rfl,[.v (.bool w17)],kr,kr⟩
def Kv:List AV->Option AV:=D4 FH (fun a=>C1 a.1 a.2.1) FI
theorem Ky:XOk 108 Kv:=by
 refine AW Tryz.func108 (c:=FG) ?h2 ⟨Tryz.call108⟩ FH (fun a=>C1 a.1 a.2.1) FI (fun a=>(by show 2<=37; decide)) ?h3 ?h4
 case h2=>kernel_rfl
 case h3=>intro b; kernel_rfl
 case h4=>exact fun a b h=>Ju a.1 a.2.1 b h
/- trestle/court.Disagreements -/
noncomputable def Dm:Code:=Br Tryz.f46
def Au (x2:(List Int)) (v1:(List (List Int))×Bool) (c7:Int) (v9:Int):Nat->Int->Int->Option ((Int))
 | 0,_,_=>none
 | f + 1,c11,c12 =>
  if (decide (c12 < (((x2.take (x2.length:Int).toNat).drop (wr .i64 (c7 + 1)).toNat).length:Int)))=true then
  (idx ((x2.take (x2.length:Int).toNat).drop (wr .i64 (c7 + 1)).toNat) c12).bind fun v14 =>
  (idx v1.1 v14).bind fun v15 =>
  (idx v15 v9).bind fun v16 =>
  Au x2 v1 c7 v9 f (wr .i64 (c11 + v16)) (wr .i64 (c12 + 1))
  else
  some c11
def B8 (x2:(List Int)) (v1:(List (List Int))×Bool):Nat->Int->Int->Option ((Int))
 | 0,_,_=>none
 | f + 1,c6,c7 =>
  if (decide (c7 < (x2.length:Int)))=true then
  (idx x2 c7).bind fun v9 =>
  if (DN (wr .i64 (c7 + 1)) (x2.length:Int) x2.length)=true then
  (Au x2 v1 c7 v9 100000 c6 0).bind fun r18 =>
  B8 x2 v1 f r18 (wr .i64 (c7 + 1))
  else none
  else
  some c6
def B4 (x0:(List (List AE))) (x1:(List Am)) (x2:(List Int)):Option (Int) :=
 (Ea x0 x1).bind fun v1 =>
 (if (!v1.2)=true then some true else (C1 x2 (x1.length:Int)).bind fun v2 =>
 some (!v2)).bind fun j4 =>
 if j4=true then
 some 0
 else
 (B8 x2 v1 100000 0 0).bind fun r20 =>
 some r20
def Ef:Cs ((List (List AE))×(List Am)×(List Int)×Unit):=(csC (cdL 1 (cdL 5 AA)) (csC (cdL 9 AG) (csC (cdL 1 cdI) csN)))
def Eg (r:Int):AV:=cdI.enc r
theorem IS (x2:(List Int)) (v1:(List (List Int))×Bool) (c7:Int) (v9:Int):∀ (f:Nat) (c11:Int) (c12:Int) (r:(Int)),Au x2 v1 c7 v9 f c11 c12=some r->SemN E0 ⟨none,false⟩ (pc Dm [1,1,1,1,0,1,0,0,1,1,0,0,1,1,0,0]) f ⟨Fr 57 [(2,.sl 1 (x2.map cdI.enc)),(7,.sl 1 (v1.1.map (cdL 1 cdI).enc)),(9,.v (.int .i64 c11)),(11,.v (.int .i64 v9)),(29,.sl 1 (x2.map cdI.enc)),(30,.v (.int .i64 (x2.length:Int))),(31,.v (.int .i64 c7)),(39,.sl 1 (((x2.take (x2.length:Int).toNat).drop (wr .i64 (c7 + 1)).toNat).map cdI.enc)),(40,.v (.int .i64 (((x2.take (x2.length:Int).toNat).drop (wr .i64 (c7 + 1)).toNat).length:Int))),(41,.v (.int .i64 c12))],[]⟩ (fun e s=>e=(.exit 2)/\Wk E0 s ⟨Fr 57 [(2,.sl 1 (x2.map cdI.enc)),(7,.sl 1 (v1.1.map (cdL 1 cdI).enc)),(9,.v (.int .i64 r)),(29,.sl 1 (x2.map cdI.enc)),(30,.v (.int .i64 (x2.length:Int))),(31,.v (.int .i64 c7))],[]⟩):=by
 intro f;induction f with
 | zero=>intro c11 c12 r h; cases h
 | succ f ih0 =>
  intro c11 c12 r h
  have ih:=fun (c11:Int) (c12:Int)=>ih0 c11 c12 r
  unfold Au at h;refine Bw ?_
  let p1:Nat×AV:=(41,.v (.int .i64 c12))
  let p2:Nat×AV:=(40,.v (.int .i64 (((x2.take (x2.length:Int).toNat).drop (wr .i64 (c7 + 1)).toNat).length:Int)))
  let p3:Nat×AV:=(39,.sl 1 (((x2.take (x2.length:Int).toNat).drop (wr .i64 (c7 + 1)).toNat).map cdI.enc))
  let p4:Nat×AV:=(31,.v (.int .i64 c7))
  let p5:Nat×AV:=(30,.v (.int .i64 (x2.length:Int)))
  let p6:Nat×AV:=(29,.sl 1 (x2.map cdI.enc))
  let p7:Nat×AV:=(11,.v (.int .i64 v9))
  let p8:Nat×AV:=(7,.sl 1 (v1.1.map (cdL 1 cdI).enc))
  let p9:Nat×AV:=(2,.sl 1 (x2.map cdI.enc))
  refine AJ AC [p9,p8,(9,.v (.int .i64 c11)),p7,p6,p5,p4,p3,p2,p1,(42,.v (.bool (decide (c12 < (((x2.take (x2.length:Int).toNat).drop (wr .i64 (c7 + 1)).toNat).length:Int)))))] [] ?_;refine AH ?_;refine AM (b:=(decide (c12 < (((x2.take (x2.length:Int).toNat).drop (wr .i64 (c7 + 1)).toNat).length:Int)))) kr (fun hb13=>?_) (fun hb13=>?_)
  ·rw [if_pos hb13] at h
   refine AQ ?_;refine AH ?_;refine Af ?_;refine AH ?_;obtain ⟨v14,hv14,h⟩:=OB h;refine AI (s1:=⟨Fr 57 [p9,p8,(9,.v (.int .i64 c11)),p7,(13,.v (.int .i64 v14)),p6,p5,p4,p3,p2,p1],[]⟩) ?_ ?_
   ·refine AK AC 0 rfl (Ci (AB rfl) rfl (AS (a:= .sl 1 (((x2.take (x2.length:Int).toNat).drop (wr .i64 (c7 + 1)).toNat).map cdI.enc)) (b:= .v (.int .i64 c12)) kr kr (FM (e:=cdI.enc) (el:=3) (k:=1) (ki:= .i64) kr kr hv14))) ?_
    exact AO AC
   obtain ⟨v15,hv15,h⟩:=OB h;obtain ⟨v16,hv16,h⟩:=OB h
   let p10:Nat×AV:=(9,.v (.int .i64 (wr .i64 (c11 + v16))))
   refine AI (s1:=⟨Fr 57 [p9,p8,p10,p7,p6,p5,p4,p3,p2,p1],[]⟩) ?_ ?_
   ·refine AD (n:=57) AC 3 [p9,p8,p7,p6,p5,p4,p3,p2,p1,(45,.v (.int .i64 c11)),(46,.sl 1 (v1.1.map (cdL 1 cdI).enc)),(47,.v (.int .i64 v14))] [] kr ?_
    refine AK AC 0 rfl (Ci (AB rfl) rfl (AS (a:= .sl 1 (v1.1.map (cdL 1 cdI).enc)) (b:= .v (.int .i64 v14)) kr kr (FM (e:=(cdL 1 cdI).enc) (el:=48) (k:=1) (ki:= .i64) kr kr hv15))) ?_;refine AD (n:=57) AC 2 [p9,p8,p7,p6,p5,p4,p3,p2,p1,(45,.v (.int .i64 c11)),(49,.sl 1 (v15.map cdI.enc)),(50,.v (.int .i64 v9))] [] kr ?_;refine AK AC 0 rfl (Ci (AB rfl) rfl (AS (a:= .sl 1 (v15.map cdI.enc)) (b:= .v (.int .i64 v9)) kr kr (FM (e:=cdI.enc) (el:=3) (k:=1) (ki:= .i64) kr kr hv16))) ?_;exact AO AC
   let p11:Nat×AV:=(41,.v (.int .i64 (wr .i64 (c12 + 1))))
   refine Cy AC [p9,p8,p10,p7,p6,p5,p4,p3,p2,p11] [] ?_;exact As (s1:=⟨Fr 57 [p9,p8,p10,p7,p6,p5,p4,p3,p2,p11],[]⟩) AN (ih (wr .i64 (c11 + v16)) (wr .i64 (c12 + 1)) h)
  ·rw [CL hb13] at h
   refine CO ?_;have hq:=OI h; subst hq;exact ⟨rfl,AN⟩
theorem IR (x2:(List Int)) (v1:(List (List Int))×Bool):∀ (f:Nat) (c6:Int) (c7:Int) (r:(Int)),B8 x2 v1 f c6 c7=some r->SemN E0 ⟨none,false⟩ (pc Dm [1,1,1,1,0,1,0,0]) f ⟨Fr 57 [(2,.sl 1 (x2.map cdI.enc)),(7,.sl 1 (v1.1.map (cdL 1 cdI).enc)),(9,.v (.int .i64 c6)),(29,.sl 1 (x2.map cdI.enc)),(30,.v (.int .i64 (x2.length:Int))),(31,.v (.int .i64 c7))],[]⟩ (fun e s=>e=(.exit 0)/\Wk E0 s ⟨Fr 57 [(9,.v (.int .i64 r))],[]⟩):=by
 intro f;induction f with
 | zero=>intro c6 c7 r h; cases h
 | succ f ih0 =>
  intro c6 c7 r h
  have ih:=fun (c6:Int) (c7:Int)=>ih0 c6 c7 r
  unfold B8 at h;refine Bw ?_
  let p1:Nat×AV:=(31,.v (.int .i64 c7))
  let p2:Nat×AV:=(30,.v (.int .i64 (x2.length:Int)))
  let p3:Nat×AV:=(29,.sl 1 (x2.map cdI.enc))
  let p4:Nat×AV:=(9,.v (.int .i64 c6))
  let p5:Nat×AV:=(7,.sl 1 (v1.1.map (cdL 1 cdI).enc))
  let p6:Nat×AV:=(2,.sl 1 (x2.map cdI.enc))
  refine AJ AC [p6,p5,p4,p3,p2,p1,(32,.v (.bool (decide (c7 < (x2.length:Int)))))] [] ?_;refine AH ?_;refine AM (b:=(decide (c7 < (x2.length:Int)))) kr (fun hb8=>?_) (fun hb8=>?_)
  ·rw [if_pos hb8] at h
   refine AQ ?_;refine AH ?_;refine Af ?_;refine AH ?_;obtain ⟨v9,hv9,h⟩:=OB h
   let p7:Nat×AV:=(11,.v (.int .i64 v9))
   refine AI (s1:=⟨Fr 57 [p6,p5,p4,(10,.v (.int .i64 c7)),p7,p3,p2,p1],[]⟩) ?_ ?_
   ·refine AD (n:=57) AC 1 [p6,p5,p4,p3,p2,p1,(33,.v (.int .i64 c7))] [] kr ?_
    refine AK AC 0 rfl (Ci (AB rfl) rfl (AS (a:= .sl 1 (x2.map cdI.enc)) (b:= .v (.int .i64 c7)) kr kr (FM (e:=cdI.enc) (el:=3) (k:=1) (ki:= .i64) kr kr hv9))) ?_;exact AO AC
   refine AH ?_;by_cases hk10:(DN (wr .i64 (c7 + 1)) (x2.length:Int) x2.length)=true
   case neg=>rw [if_neg hk10] at h; cases h
   rw [if_pos hk10] at h
   let p8:Nat×AV:=(40,.v (.int .i64 (((x2.take (x2.length:Int).toNat).drop (wr .i64 (c7 + 1)).toNat).length:Int)))
   let p9:Nat×AV:=(39,.sl 1 (((x2.take (x2.length:Int).toNat).drop (wr .i64 (c7 + 1)).toNat).map cdI.enc))
   refine AI (s1:=⟨Fr 57 [p6,p5,p4,p7,p3,p2,p1,p9,p8,(41,.v (.int .i64 0))],[]⟩) ?_ ?_
   ·refine AD (n:=57) AC 3 [p6,p5,p4,p7,p3,p2,p1,(36,.sl 1 (x2.map cdI.enc)),(38,.v (.int .i64 (wr .i64 (c7 + 1))))] [] kr ?_
    refine AK AC 0 rfl (Ci (AB rfl) rfl (Ei (a:= .sl 1 (x2.map cdI.enc)) (l:=(some (.v (.int .i64 (wr .i64 (c7 + 1)))))) (u:=none) (m:=none) kr kr kr rfl (KO (xs:=x2) (e:=cdI.enc) (k:=1) (el:=3) (lo:=(wr .i64 (c7 + 1))) (hi:=(x2.length:Int)) kr kr (Gd (M3 hk10)) rfl hk10))) ?_;refine AK AC 0 rfl (Ci (AB rfl) rfl (DY (a:= .sl 1 (((x2.take (x2.length:Int).toNat).drop (wr .i64 (c7 + 1)).toNat).map cdI.enc)) kr (CB (el:=3) kr))) ?_;exact AO AC
   refine Af ?_;obtain ⟨r18,hr18,h⟩:=OB h;refine CV (n:=100000) ?_;refine BK (As (s1:=⟨Fr 57 [p6,p5,p4,p7,p3,p2,p1,p9,p8,(41,.v (.int .i64 0))],[]⟩) AN (IS x2 v1 c7 v9 _ c6 0 _ hr18)) ?_
   let p10:Nat×AV:=(31,.v (.int .i64 (wr .i64 (c7 + 1))))
   refine Cy AC [p6,p5,(9,.v (.int .i64 r18)),p3,p2,p10] [] ?_;exact As (s1:=⟨Fr 57 [p6,p5,(9,.v (.int .i64 r18)),p3,p2,p10],[]⟩) AN (ih r18 (wr .i64 (c7 + 1)) h)
  ·rw [CL hb8] at h
   refine CO ?_;have hq:=OI h; subst hq;exact ⟨rfl,AN⟩
theorem Ix (x0:(List (List AE))) (x1:(List Am)) (x2:(List Int)) (r:Int) (h:B4 x0 x1 x2=some r):Sem E0 ⟨none,false⟩ Dm ⟨Fr 57 (BP 0 (Ef.enc (x0,x1,x2,()))),[]⟩ fun e s'=>(e = .normal\/e = .ret)/\∃ xs,Em E0.P s'.fr s'.hp Tryz.f46.results.toList=some xs/\Ev xs=Eg r:=by
 unfold B4 at h;refine A8 (Bv (s1:=⟨Fr 57 [(0,.sl 1 (x0.map (cdL 5 AA).enc)),(1,.sl 9 (x1.map AG.enc)),(2,.sl 1 (x2.map cdI.enc))],[]⟩) AN ?_);refine AJ AC [(0,.sl 1 (x0.map (cdL 5 AA).enc)),(1,.sl 9 (x1.map AG.enc)),(2,.sl 1 (x2.map cdI.enc))] [] ?_;refine AH ?_;obtain ⟨v1,hv1,h⟩:=OB h;refine AI (s1:=⟨Fr 57 [(1,.sl 9 (x1.map AG.enc)),(2,.sl 1 (x2.map cdI.enc)),(7,.sl 1 (v1.1.map (cdL 1 cdI).enc)),(8,.v (.bool v1.2))],[]⟩) ?_ ?_
 ·refine AD (n:=57) AC 2 [(1,.sl 9 (x1.map AG.enc)),(2,.sl 1 (x2.map cdI.enc)),(15,.sl 1 (x0.map (cdL 5 AA).enc)),(16,.sl 9 (x1.map AG.enc))] [] kr ?_
  refine Ac (caps:=[]) (xs:=[.sl 1 (x0.map (cdL 5 AA).enc),.sl 9 (x1.map AG.enc)]) (u:=(x0,x1,())) rfl rfl JL rfl (AB rfl) kr kr (AP (Ab (c:=(cdL 1 (cdL 5 AA))) (v:=x0)) (AP (Ab (c:=(cdL 9 AG)) (v:=x1)) BJ)) (.inr kr) hv1 ?_;exact AO AC
 refine AH ?_;refine AH ?_;obtain ⟨j4,hj4,h⟩:=OB h;refine AI (s1:=⟨Fr 57 [(2,.sl 1 (x2.map cdI.enc)),(7,.sl 1 (v1.1.map (cdL 1 cdI).enc)),(28,.v (.bool j4))],[]⟩) ?_ ?_
 ·refine AD (n:=57) AC 3 [(1,.sl 9 (x1.map AG.enc)),(2,.sl 1 (x2.map cdI.enc)),(7,.sl 1 (v1.1.map (cdL 1 cdI).enc)),(22,.v (.bool (!v1.2)))] [] kr ?_
  rcases BE (!v1.2) with hc21 | hc21
  ·rw [if_pos hc21] at hj4
   rw [hc21];refine AD (n:=57) AC 6 [(2,.sl 1 (x2.map cdI.enc)),(7,.sl 1 (v1.1.map (cdL 1 cdI).enc)),(28,.v (.bool true))] [] kr ?_;have hq:=OI hj4; subst hq;exact AL rfl AN
  ·rw [CL hc21] at hj4
   rw [hc21];refine AD (n:=57) AC 2 [(2,.sl 1 (x2.map cdI.enc)),(7,.sl 1 (v1.1.map (cdL 1 cdI).enc)),(22,.v (.bool false)),(23,.sl 1 (x2.map cdI.enc)),(24,.sl 9 (x1.map AG.enc))] [] kr ?_;refine AK AC 0 rfl (Ci kr rfl (DY (a:= .sl 9 (x1.map AG.enc)) kr (CB (el:=42) kr))) ?_;obtain ⟨v2,hv2,hj4⟩:=OB hj4;refine Ac (caps:=[]) (xs:=[.sl 1 (x2.map cdI.enc),.v (.int .i64 (x1.length:Int))]) (u:=(x2,(x1.length:Int),())) rfl rfl Ky rfl kr kr kr (AP (Ab (c:=(cdL 1 cdI)) (v:=x2)) (AP (Ab (c:=cdI) (v:=(x1.length:Int))) BJ)) (.inl kr) hv2 ?_;refine AD (n:=57) AC 2 [(2,.sl 1 (x2.map cdI.enc)),(7,.sl 1 (v1.1.map (cdL 1 cdI).enc)),(28,.v (.bool (!v2)))] [] kr ?_;have hq:=OI hj4; subst hq;exact AL rfl AN
 refine AM (b:=j4) kr (fun hb5=>?_) (fun hb5=>?_)
 ·rw [if_pos hb5] at h
  refine AJ AC [(6,.v (.int .i64 0))] [] ?_;refine AU ?_;have hq:=OI h; subst hq;exact ⟨⟨Fr 57 [(6,.v (.int .i64 0))],[]⟩,AN,.inr rfl,[.v (.int .i64 0)],kr,kr⟩
 ·rw [CL hb5] at h
  refine AQ ?_;refine AJ AC [(2,.sl 1 (x2.map cdI.enc)),(7,.sl 1 (v1.1.map (cdL 1 cdI).enc)),(9,.v (.int .i64 0))] [] ?_;refine AH ?_;refine AH ?_;refine AI (s1:=⟨Fr 57 [(2,.sl 1 (x2.map cdI.enc)),(7,.sl 1 (v1.1.map (cdL 1 cdI).enc)),(9,.v (.int .i64 0)),(29,.sl 1 (x2.map cdI.enc)),(30,.v (.int .i64 (x2.length:Int))),(31,.v (.int .i64 0))],[]⟩) ?_ ?_
  ·refine AD (n:=57) AC 1 [(2,.sl 1 (x2.map cdI.enc)),(7,.sl 1 (v1.1.map (cdL 1 cdI).enc)),(9,.v (.int .i64 0)),(29,.sl 1 (x2.map cdI.enc))] [] kr ?_
   refine AK AC 0 rfl (Ci (AB rfl) rfl (DY (a:= .sl 1 (x2.map cdI.enc)) kr (CB (el:=3) kr))) ?_;exact AO AC
  refine Af ?_;obtain ⟨r20,hr20,h⟩:=OB h;refine CV (n:=100000) ?_;refine BK (As (s1:=⟨Fr 57 [(2,.sl 1 (x2.map cdI.enc)),(7,.sl 1 (v1.1.map (cdL 1 cdI).enc)),(9,.v (.int .i64 0)),(29,.sl 1 (x2.map cdI.enc)),(30,.v (.int .i64 (x2.length:Int))),(31,.v (.int .i64 0))],[]⟩) AN (IR x2 v1 _ 0 0 _ hr20)) ?_;refine AJ AC [(6,.v (.int .i64 r20))] [] ?_;refine AU ?_;have hq:=OI h; subst hq;exact ⟨⟨Fr 57 [(6,.v (.int .i64 r20))],[]⟩,AN,.inr rfl,[.v (.int .i64 r20)],kr,kr⟩
def J7:List AV->Option AV:=D4 Ef (fun a=>B4 a.1 a.2.1 a.2.2.1) Eg
theorem KD:XOk 46 J7:=by
 refine AW Tryz.func46 (c:=Dm) ?h2 ⟨Tryz.call46⟩ Ef (fun a=>B4 a.1 a.2.1 a.2.2.1) Eg (fun a=>(by show 3<=57; decide)) ?h3 ?h4
 case h2=>kernel_rfl
 case h3=>intro b; kernel_rfl
 case h4=>exact fun a b h=>Ix a.1 a.2.1 a.2.2.1 b h
/- trestle/court.Agree$1 -/
noncomputable def JN:Code:=Br Tryz.f111
def EV (x0:Int) (x1:Int) (x2:(List (List Int))) (x3:(List (List AE))):Option (Bool) :=
 (idx x2 x0).bind fun v1 =>
 (idx v1 x1).bind fun v2 =>
 some (v2==(x3.length:Int))
def G8:Cs (Int×Int×(List (List Int))×(List (List AE))×Unit):=(csC cdI (csC cdI (csC (cdP (cdL 1 (cdL 1 cdI))) (csC (cdP (cdL 1 (cdL 5 AA))) csN))))
def HM (r:Bool):AV:=cdB.enc r
theorem LW (x0:Int) (x1:Int) (x2:(List (List Int))) (x3:(List (List AE))) (r:Bool) (h:EV x0 x1 x2 x3=some r):Sem E0 ⟨none,false⟩ JN ⟨Fr 17 (BP 0 (G8.enc (x0,x1,x2,x3,()))),[]⟩ fun e s'=>(e = .normal\/e = .ret)/\∃ xs,Em E0.P s'.fr s'.hp Tryz.f111.results.toList=some xs/\Ev xs=HM r:=by
 unfold EV at h
 let p1:Nat×AV:=(3,.pe (.sl 1 (x3.map (cdL 5 AA).enc)) 0)
 let p2:Nat×AV:=(2,.pe (.sl 1 (x2.map (cdL 1 cdI).enc)) 0)
 let p3:Nat×AV:=(1,.v (.int .i64 x1))
 refine A8 (Bv (s1:=⟨Fr 17 [(0,.v (.int .i64 x0)),p3,p2,p1],[]⟩) AN ?_);refine AJ AC [(0,.v (.int .i64 x0)),p3,p2,p1] [] ?_;refine AH ?_;obtain ⟨v1,hv1,h⟩:=OB h;obtain ⟨v2,hv2,h⟩:=OB h
 let p4:Nat×AV:=(6,.v (.bool (v2==(x3.length:Int))))
 refine EH AC (s1:=⟨Fr 17 [p4],[]⟩) kr ?_ ?_
 ·refine Ap (n:=17) AC 2 [p3,p1,(7,.sl 1 (x2.map (cdL 1 cdI).enc)),(8,.v (.int .i64 x0))] [] kr kr ?_
  refine RunDS.one AC rfl kr (PE kr (AB rfl) rfl (AS (a:= .sl 1 (x2.map (cdL 1 cdI).enc)) (b:= .v (.int .i64 x0)) kr kr (FM (e:=(cdL 1 cdI).enc) (el:=48) (k:=1) (ki:= .i64) kr kr hv1)) kr) ?_;refine Ap (n:=17) AC 2 [p1,(10,.sl 1 (v1.map cdI.enc)),(11,.v (.int .i64 x1))] [] kr kr ?_;refine RunDS.one AC rfl kr (PE kr (AB rfl) rfl (AS (a:= .sl 1 (v1.map cdI.enc)) (b:= .v (.int .i64 x1)) kr kr (FM (e:=cdI.enc) (el:=3) (k:=1) (ki:= .i64) kr kr hv2)) kr) ?_;refine Ap (n:=17) AC 2 [(13,.v (.int .i64 v2)),(14,.sl 1 (x3.map (cdL 5 AA).enc))] [] kr kr ?_;refine RunDS.one AC rfl kr (PE kr (AB rfl) rfl (DY (a:= .sl 1 (x3.map (cdL 5 AA).enc)) kr (CB (el:=22) kr)) kr) ?_;refine Ap (n:=17) AC 2 [p4] [] kr kr ?_;exact RunDS.done rfl AN
 refine AU ?_;have hq:=OI h; subst hq;exact ⟨⟨Fr 17 [p4],[]⟩,AN,.inr rfl,[.v (.bool (v2==(x3.length:Int)))],kr,kr⟩
def NW:List AV->Option AV:=D4 G8 (fun a=>EV a.1 a.2.1 a.2.2.1 a.2.2.2.1) HM
theorem No:XOk 111 NW:=by
 refine AW Tryz.func111 (c:=JN) ?h2 ⟨Tryz.call111⟩ G8 (fun a=>EV a.1 a.2.1 a.2.2.1 a.2.2.2.1) HM (fun a=>(by show 4<=17; decide)) ?h3 ?h4
 case h2=>kernel_rfl
 case h3=>intro b; kernel_rfl
 case h4=>exact fun a b h=>LW a.1 a.2.1 a.2.2.1 a.2.2.2.1 b h
/- trestle/court.pairs -/
noncomputable def B5:Code:=Br Tryz.f109
def Cc (c2:Int) (c6:Int) (c8:(List (Int×Int))) (v10:Bool):Option (((List (Int×Int)))) :=
 if v10=true then
 if (Gg 16 (c8.length + ([(c2,c6)]:List (Int×Int)).length))=true then
 some (c8++([(c2,c6)]:List (Int×Int)))
 else none
 else
 some c8
def Aw (x0:Int) (x1:(List (List Int))×(List (List AE))) (c2:Int):Nat->Int->(List (Int×Int))->Option (((List (Int×Int))))
 | 0,_,_=>none
 | f + 1,c6,c8 =>
  if (decide (c6 < x0))=true then
  (EV c2 c6 x1.1 x1.2).bind fun v10 =>
  (Cc c2 c6 c8 v10).bind fun r24 =>
  Aw x0 x1 c2 f (wr .i64 (c6 + 1)) r24
  else
  some c8
def Av (x0:Int) (x1:(List (List Int))×(List (List AE))):Nat->Int->(List (Int×Int))->Option (((List (Int×Int))))
 | 0,_,_=>none
 | f + 1,c2,c4 =>
  if (decide (c2 < x0))=true then
  (Aw x0 x1 c2 100000 0 c4).bind fun r30 =>
  Av x0 x1 f (wr .i64 (c2 + 1)) r30
  else
  some c4
def BY (x0:Int) (x1:(List (List Int))×(List (List AE))):Option ((List (Int×Int))) :=
 (Av x0 x1 100000 0 ([]:(List (Int×Int)))).bind fun r36 =>
 some r36
theorem GY {L:List Asn}{hp:Hp}(c2:Int) (c6:Int) (c8:(List (Int×Int))) (v10:Bool) (x0:Int) (x1:(List (List Int))×(List (List AE))) (e7:AV) (r:((List (Int×Int)))) (h:Cc c2 c6 c8 v10=some r) (hT:T hp ((own_ (ocL 2 90 (ocV (Fl cdI cdI (fun _=>rfl) (fun _=>rfl)))) e7 c8)::L)):SemY E0 ⟨none,false⟩ (pc B5 [1,1,0,1,0,0,1,1,0,0,1,1,0,0,1,1,0,0,1,1]) ⟨Fr 29 [(0,.v (.int .i64 x0)),(1,.fn 111 [] [.pe (.sl 1 (x1.1.map (cdL 1 cdI).enc)) 0,.pe (.sl 1 (x1.2.map (cdL 5 AA).enc)) 0]),(5,e7),(6,.v (.int .i64 c2)),(7,.v (.int .i64 c6)),(8,.v (.int .i64 x0)),(9,.v (.int .i64 c2)),(12,.v (.int .i64 x0)),(13,.v (.int .i64 c6)),(19,.v (.bool v10))],hp⟩ (fun e s=>e = .normal/\∃ s2,(∃ (e22:AV) (h':Hp),T h' ((own_ (ocL 2 90 (ocV (Fl cdI cdI (fun _=>rfl) (fun _=>rfl)))) e22 r)::L)/\s2=⟨Fr 29 [(0,.v (.int .i64 x0)),(1,.fn 111 [] [.pe (.sl 1 (x1.1.map (cdL 1 cdI).enc)) 0,.pe (.sl 1 (x1.2.map (cdL 5 AA).enc)) 0]),(5,e22),(6,.v (.int .i64 c2)),(8,.v (.int .i64 x0)),(9,.v (.int .i64 c2)),(12,.v (.int .i64 x0)),(13,.v (.int .i64 c6))],h'⟩)/\WkY E0 s s2):=by
 unfold Cc at h;refine Ec (b:=v10) kr (fun hb11=>?_) (fun hb11=>?_)
 ·rw [if_pos hb11] at h
  refine A9 ?_;refine CZ AC 4 ?_;obtain ⟨e15,hp12,hb13,hT14⟩:=UL (P:=Tryz.prog) (bytes:=16) (k:=2) (t:=90) (ty:=84) (xs:=([(c2,c6)]:List (Int×Int))) (n:=1) (Yv (k:=2) (fun _=>⟨rfl,rfl,rfl⟩)) (T7 (c:=(Fl cdI cdI (fun _=>rfl) (fun _=>rfl))) (xs:=([(c2,c6)]:List (Int×Int))) hT) rfl kr kr kr;refine Bz AC 0 rfl (VC (AB rfl) rfl kr (Y5 (xs:=Qe 0 [.ag [.v (.int .i64 c2),.v (.int .i64 c6)]]) kr hb13)) ?_;by_cases hk20:(Gg 16 (c8.length + ([(c2,c6)]:List (Int×Int)).length))=true
  case neg=>rw [if_neg hk20] at h; cases h
  rw [if_pos hk20] at h
  have hT21:=((hT14.front 0 rfl).front 1 rfl)
  obtain ⟨e19,hp16,hb17,hT18⟩:=Ts (P:=Tryz.prog) (ty:=84) (ty2:=84) (bytes:=16) hT21 kr kr hk20;refine Bz AC 0 rfl (VD (AB rfl) rfl kr kr (IM (a:=e7) (b:=e15) kr kr hb17)) ?_;refine CZ AC 1 ?_;refine DT rfl ?_;have hq:=OI h; subst hq;exact ⟨rfl,_,⟨e19,hp16,hT18,rfl⟩,WkY.f1⟩
 ·rw [CL hb11] at h
  refine SemY.skip ?_;have hq:=OI h; subst hq;exact ⟨rfl,_,⟨e7,hp,hT,rfl⟩,WkY.f1⟩
theorem Ga {L:List Asn}(x0:Int) (x1:(List (List Int))×(List (List AE))) (c2:Int):∀ (f:Nat) (c6:Int) (c8:(List (Int×Int))) (r:((List (Int×Int)))),Aw x0 x1 c2 f c6 c8=some r->∀ (e7:AV) (hp:Hp),T hp ((own_ (ocL 2 90 (ocV (Fl cdI cdI (fun _=>rfl) (fun _=>rfl)))) e7 c8)::L)->SemYN E0 ⟨none,false⟩ (pc B5 [1,1,0,1,0,0,1,1,0,0,1,1,0,0]) f ⟨Fr 29 [(0,.v (.int .i64 x0)),(1,.fn 111 [] [.pe (.sl 1 (x1.1.map (cdL 1 cdI).enc)) 0,.pe (.sl 1 (x1.2.map (cdL 5 AA).enc)) 0]),(5,e7),(6,.v (.int .i64 c2)),(8,.v (.int .i64 x0)),(9,.v (.int .i64 c2)),(12,.v (.int .i64 x0)),(13,.v (.int .i64 c6))],hp⟩ (fun e s=>e=(.exit 2)/\∃ s2,(∃ (e28:AV) (h':Hp),T h' ((own_ (ocL 2 90 (ocV (Fl cdI cdI (fun _=>rfl) (fun _=>rfl)))) e28 r)::L)/\s2=⟨Fr 29 [(0,.v (.int .i64 x0)),(1,.fn 111 [] [.pe (.sl 1 (x1.1.map (cdL 1 cdI).enc)) 0,.pe (.sl 1 (x1.2.map (cdL 5 AA).enc)) 0]),(5,e28),(8,.v (.int .i64 x0)),(9,.v (.int .i64 c2))],h'⟩)/\WkY E0 s s2):=by
 intro f;induction f with
 | zero=>intro c6 c8 r h; cases h
 | succ f ih0 =>
  intro c6 c8 r h e7 hp hT;unfold Aw at h;refine Hl ?_
  let p1:Nat×AV:=(13,.v (.int .i64 c6))
  let p2:Nat×AV:=(12,.v (.int .i64 x0))
  let p3:Nat×AV:=(9,.v (.int .i64 c2))
  let p4:Nat×AV:=(8,.v (.int .i64 x0))
  let p5:Nat×AV:=(6,.v (.int .i64 c2))
  let p6:Nat×AV:=(1,.fn 111 [] [.pe (.sl 1 (x1.1.map (cdL 1 cdI).enc)) 0,.pe (.sl 1 (x1.2.map (cdL 5 AA).enc)) 0])
  let p7:Nat×AV:=(0,.v (.int .i64 x0))
  refine DE AC [p7,p6,(5,e7),p5,p4,p3,p2,p1,(14,.v (.bool (decide (c6 < x0))))] ?_;refine Bm ?_;refine Ec (b:=(decide (c6 < x0))) kr (fun hb9=>?_) (fun hb9=>?_)
  ·rw [if_pos hb9] at h
   refine SemY.skip ?_;refine Bm ?_;refine De ?_;refine DE AC [p7,p6,(5,e7),p5,(7,.v (.int .i64 c6)),p4,p3,p2,p1] ?_;refine Bm ?_;refine A9 ?_;refine CZ AC 3 ?_;obtain ⟨v10,hv10,h⟩:=OB h;refine Ih (v:=v10) (caps:=[.pe (.sl 1 (x1.1.map (cdL 1 cdI).enc)) 0,.pe (.sl 1 (x1.2.map (cdL 5 AA).enc)) 0]) (xs:=[.v (.int .i64 c2),.v (.int .i64 c6)]) (u:=(c2,c6,x1.1,x1.2,())) rfl rfl No rfl (AB rfl) kr kr (Dd (Ey (c:=cdI) (v:=c2)) (Dd (Ey (c:=cdI) (v:=c6)) (Dd (Ey (c:=(cdP (cdL 1 (cdL 1 cdI)))) (v:=x1.1)) (Dd (Ey (c:=(cdP (cdL 1 (cdL 5 AA)))) (v:=x1.2)) SeesD.nil)))) (.inl kr) hv10 ?_;refine DT rfl (SemY.fr (l':=[p7,p6,(5,e7),p5,(7,.v (.int .i64 c6)),p4,p3,p2,p1,(19,.v (.bool v10))]) kr ?_);obtain ⟨r24,hr24,h⟩:=OB h;refine K0 (GY c2 c6 c8 v10 x0 x1 e7 _ hr24 hT) ?_;rintro _ ⟨e25,hp26,hT27,rfl⟩;refine A9 ?_;refine CZ AC 2 ?_;refine DT rfl ?_;exact Ez WkY.f1 (ih0 (wr .i64 (c6 + 1)) r24 _ h e25 hp26 hT27)
  ·rw [CL hb9] at h
   refine SemY.exit ?_;have hq:=OI h; subst hq;exact ⟨rfl,_,⟨e7,hp,hT,rfl⟩,WkY.f1⟩
theorem GZ {L:List Asn}(x0:Int) (x1:(List (List Int))×(List (List AE))):∀ (f:Nat) (c2:Int) (c4:(List (Int×Int))) (r:((List (Int×Int)))),Av x0 x1 f c2 c4=some r->∀ (e3:AV) (hp:Hp),T hp ((own_ (ocL 2 90 (ocV (Fl cdI cdI (fun _=>rfl) (fun _=>rfl)))) e3 c4)::L)->SemYN E0 ⟨none,false⟩ (pc B5 [1,1,0,1,0,0]) f ⟨Fr 29 [(0,.v (.int .i64 x0)),(1,.fn 111 [] [.pe (.sl 1 (x1.1.map (cdL 1 cdI).enc)) 0,.pe (.sl 1 (x1.2.map (cdL 5 AA).enc)) 0]),(5,e3),(8,.v (.int .i64 x0)),(9,.v (.int .i64 c2))],hp⟩ (fun e s=>e=(.exit 0)/\∃ s2,(∃ (e34:AV) (h':Hp),T h' ((own_ (ocL 2 90 (ocV (Fl cdI cdI (fun _=>rfl) (fun _=>rfl)))) e34 r)::L)/\s2=⟨Fr 29 [(5,e34)],h'⟩)/\WkY E0 s s2):=by
 intro f;induction f with
 | zero=>intro c2 c4 r h; cases h
 | succ f ih0 =>
  intro c2 c4 r h e3 hp hT;unfold Av at h;refine Hl ?_
  let p1:Nat×AV:=(9,.v (.int .i64 c2))
  let p2:Nat×AV:=(8,.v (.int .i64 x0))
  let p3:Nat×AV:=(1,.fn 111 [] [.pe (.sl 1 (x1.1.map (cdL 1 cdI).enc)) 0,.pe (.sl 1 (x1.2.map (cdL 5 AA).enc)) 0])
  let p4:Nat×AV:=(0,.v (.int .i64 x0))
  refine DE AC [p4,p3,(5,e3),p2,p1,(10,.v (.bool (decide (c2 < x0))))] ?_;refine Bm ?_;refine Ec (b:=(decide (c2 < x0))) kr (fun hb5=>?_) (fun hb5=>?_)
  ·rw [if_pos hb5] at h
   refine SemY.skip ?_;refine Bm ?_;refine De ?_;refine DE AC [p4,p3,(5,e3),(6,.v (.int .i64 c2)),p2,p1] ?_;refine DE AC [p4,p3,(5,e3),(6,.v (.int .i64 c2)),p2,p1,(12,.v (.int .i64 x0)),(13,.v (.int .i64 0))] ?_;refine De ?_;refine SemY.loop (n:=100000) ?_;obtain ⟨r30,hr30,h⟩:=OB h;refine Ge (Ez WkY.f1 (Ga x0 x1 c2 _ 0 c4 _ hr30 e3 hp hT)) ?_;rintro _ ⟨e31,hp32,hT33,rfl⟩;refine A9 ?_;refine CZ AC 2 ?_;refine DT rfl ?_;exact Ez WkY.f1 (ih0 (wr .i64 (c2 + 1)) r30 _ h e31 hp32 hT33)
  ·rw [CL hb5] at h
   refine SemY.exit ?_;have hq:=OI h; subst hq;exact ⟨rfl,_,⟨e3,hp,hT,rfl⟩,WkY.f1⟩
theorem Gq {L:List Asn}{hp:Hp}(x0:Int) (x1:(List (List Int))×(List (List AE))) (r:(List (Int×Int))) (h:BY x0 x1=some r) (hT:T hp (L)):SemY E0 ⟨none,false⟩ B5 ⟨Fr 29 (BP 0 [.v (.int .i64 x0),.fn 111 [] [.pe (.sl 1 (x1.1.map (cdL 1 cdI).enc)) 0,.pe (.sl 1 (x1.2.map (cdL 5 AA).enc)) 0]]),hp⟩ fun x s'=>(x = .normal\/x = .ret)/\∃ ys,Em E0.P s'.fr s'.hp Tryz.f109.results.toList=some ys/\(fun v h'=>v = .sl 2 (r.map (Fl cdI cdI (fun _=>rfl) (fun _=>rfl)).enc)/\T h' (L)) (Ev ys) s'.hp:=by
 unfold BY at h
 let p1:Nat×AV:=(1,.fn 111 [] [.pe (.sl 1 (x1.1.map (cdL 1 cdI).enc)) 0,.pe (.sl 1 (x1.2.map (cdL 5 AA).enc)) 0])
 let p2:Nat×AV:=(0,.v (.int .i64 x0))
 refine Oq (Oo (s1:=⟨Fr 29 [p2,p1],hp⟩) WkY.f1 ?_);refine DE AC [p2,p1] ?_;refine DE AC [p2,p1,(5,.e0)] ?_;refine Bm ?_;refine DE AC [p2,p1,(5,.e0),(8,.v (.int .i64 x0)),(9,.v (.int .i64 0))] ?_;refine De ?_
 have hT1:=(T.e0 (k:=2) (ty:=90) (o:=(ocV (Fl cdI cdI (fun _=>rfl) (fun _=>rfl)))) hT)
 refine SemY.loop (n:=100000) ?_;obtain ⟨r36,hr36,h⟩:=OB h;refine Ge (Ez WkY.f1 (GZ x0 x1 _ 0 ([]:(List (Int×Int))) _ hr36 .e0 hp hT1)) ?_;rintro _ ⟨e37,hp38,hT39,rfl⟩;refine DE AC [(4,e37)] ?_;refine SemY.ret ?_;have hq:=OI h; subst hq
 let p3:Nat×AV:=(4,.sl 2 (r36.map (Fl cdI cdI (fun _=>rfl) (fun _=>rfl)).enc))
 obtain ⟨hp40,hw41,hT42⟩:=Mh (E:=E0) (n:=29) (l:=[(4,e37)]) (l':=[p3]) hT39 (LkT.at_ ⟨.inr ⟨kr,rfl⟩,trivial⟩);exact ⟨⟨Fr 29 [p3],hp40⟩,(WkY.trans (WkY.trans WkY.f1 hw41) WkY.f1),.inr rfl,[.sl 2 (r36.map (Fl cdI cdI (fun _=>rfl) (fun _=>rfl)).enc)],kr,⟨rfl,hT42⟩⟩
def DL:Cs (Int×((List (List Int))×(List (List AE)))×Unit):=(csC cdI (csC (cdF 111 (csC (cdP (cdL 1 (cdL 1 cdI))) (csE (cdP (cdL 1 (cdL 5 AA))))) (fun _=>rfl)) csN))
def Ed (r:(List (Int×Int))):AV:=(cdL 2 (Fl cdI cdI (fun _=>rfl) (fun _=>rfl))).enc r
def Hi:List AV->Option AV:=D4 DL (fun a=>BY a.1 a.2.1) Ed
theorem Hk:XOk 109 Hi:=by
 refine AW Tryz.func109 (c:=B5) ?h2 ⟨Tryz.call109⟩ DL (fun a=>BY a.1 a.2.1) Ed (fun a=>(by show 2<=29; decide)) ?h3 ?h4
 case h2=>kernel_rfl
 case h3=>intro b; kernel_rfl
 case h4 =>
  intro a b h;refine Sem.mono (QY (Gq (L:=[]) (hp:=[]) a.1 a.2.1 b h T.nil)) fun e s' hs=>?_
  obtain ⟨h1,ys,h2,h3,-⟩:=hs;exact ⟨h1,ys,h2,h3⟩
/- trestle/court.Agree -/
noncomputable def Kb:Code:=Br Tryz.f48
def FX (x0:(List (List AE))) (x1:(List Am)):Option ((List (Int×Int))) :=
 (Ea x0 x1).bind fun v5 =>
 (if (!v5.2)=true then some true else some ((x0.length:Int)==0)).bind fun j14 =>
 if j14=true then
 some ([]:(List (Int×Int)))
 else
 (BY (x1.length:Int) (v5.1,x0)).bind fun v37 =>
 some v37
theorem Mz {L:List Asn}{hp:Hp}(x0:(List (List AE))) (x1:(List Am)) (r:(List (Int×Int))) (h:FX x0 x1=some r) (hT:T hp (L)):SemY E0 ⟨none,false⟩ Kb ⟨Fr 24 (BP 0 [.sl 1 (x0.map (cdL 5 AA).enc),.sl 9 (x1.map AG.enc)]),hp⟩ fun x s'=>(x = .normal\/x = .ret)/\∃ ys,Em E0.P s'.fr s'.hp Tryz.f48.results.toList=some ys/\(fun v h'=>v = .sl 2 (r.map (Fl cdI cdI (fun _=>rfl) (fun _=>rfl)).enc)/\T h' (L)) (Ev ys) s'.hp:=by
 unfold FX at h;refine Oq (Oo (s1:=⟨Fr 24 [(0,.sl 1 (x0.map (cdL 5 AA).enc)),(1,.sl 9 (x1.map AG.enc))],hp⟩) WkY.f1 ?_);refine Bm ?_;refine A9 ?_;obtain ⟨e1,hp2,hb3,hT4⟩:=SX (t:=68) (a:= .sl 1 (x0.map (cdL 5 AA).enc)) hT kr;refine Bz AC 0 rfl (VC (AB rfl) rfl kr (Y4 (z:= .sl 1 (x0.map (cdL 5 AA).enc)) kr hb3)) ?_;refine Fq AC [(1,.sl 9 (x1.map AG.enc)),(2,e1)] ?_;refine Bm ?_;refine A9 ?_;refine Bz AC 0 rfl (Ci (AB rfl) rfl (Ip (p:=e1) kr (S2 (y:= .sl 1 (x0.map (cdL 5 AA).enc)) (m:=1) (g:=false) hT4 kr kr kr))) ?_;refine CZ AC 1 ?_;obtain ⟨v5,hv5,h⟩:=OB h;refine Ih (v:=v5) (caps:=[]) (xs:=[.sl 1 (x0.map (cdL 5 AA).enc),.sl 9 (x1.map AG.enc)]) (u:=(x0,x1,())) rfl rfl JL rfl (AB rfl) kr kr (Dd (Ey (c:=(cdL 1 (cdL 5 AA))) (v:=x0)) (Dd (Ey (c:=(cdL 9 AG)) (v:=x1)) SeesD.nil)) (.inr ⟨by kernel_rfl,IV.de (x0,x1,())⟩) hv5 ?_;refine CZ AC 3 ?_;obtain ⟨e6,hp7,hb8,hT9⟩:=SX (t:=46) (a:= .e0) hT4 kr;refine Bz AC 0 rfl (VC (AB rfl) rfl kr (WJ (z:= .e0) kr hb8)) ?_;obtain ⟨hp10,hs11,hT12⟩:=Wc (P:=Tryz.prog) (ty:=46) (y:= .sl 1 (v5.1.map (cdL 1 cdI).enc)) (a':= .sl 1 (v5.1.map (cdL 1 cdI).enc)) hT9 kr kr kr;refine RunL.store AC (y:=e6) (z:= .sl 1 (v5.1.map (cdL 1 cdI).enc)) rfl (AB rfl) kr kr hs11 ?_;refine Fq AC [(1,.sl 9 (x1.map AG.enc)),(2,e1),(5,e6),(6,.v (.bool v5.2))] ?_;refine Bm ?_;refine Bm ?_;obtain ⟨j14,hj14,h⟩:=OB h;refine Pg (A:=fun s1=>∃ (h':Hp),T h' ((cel e1 1 68 (.sl 1 (x0.map (cdL 5 AA).enc)))::(cel e6 1 46 (.sl 1 (v5.1.map (cdL 1 cdI).enc)))::L)/\s1=⟨Fr 24 [(1,.sl 9 (x1.map AG.enc)),(2,e1),(5,e6),(19,.v (.bool j14))],h'⟩) ?_ ?_
 ·refine Mu (n:=24) AC 3 [(1,.sl 9 (x1.map AG.enc)),(2,e1),(5,e6),(15,.v (.bool (!v5.2)))] hp10 kr ?_
  rcases BE (!v5.2) with hc38 | hc38
  ·rw [if_pos hc38] at hj14
   rw [hc38];refine CZ AC 4 ?_;have hq:=OI hj14; subst hq
   have hT22:=(hT12.front 1 rfl)
   exact DT rfl ⟨_,⟨hp10,hT22,rfl⟩,WkY.f1⟩
  ·rw [CL hc38] at hj14
   rw [hc38]
   have hT13:=(hT12.front 1 rfl)
   refine Bz AC 0 rfl (Ci kr rfl (Ip (p:=e1) kr (S2 (y:= .sl 1 (x0.map (cdL 5 AA).enc)) (m:=1) (g:=false) hT13 kr kr kr))) ?_;refine Bz AC 0 rfl (Ci kr rfl (DY (a:= .sl 1 (x0.map (cdL 5 AA).enc)) kr (CB (el:=22) kr))) ?_;refine CZ AC 2 ?_;have hq:=OI hj14; subst hq;exact DT rfl ⟨_,⟨hp10,hT13,rfl⟩,WkY.f1⟩
 rintro _ ⟨hp23,hT24,rfl⟩;refine Ec (b:=j14) kr (fun hb25=>?_) (fun hb25=>?_)
 ·rw [if_pos hb25] at h
  refine DE AC [(4,.e0)] ?_;refine SemY.ret ?_;have hq:=OI h; subst hq
  have hT26:=(T.e0 (k:=2) (ty:=90) (o:=(ocV (Fl cdI cdI (fun _=>rfl) (fun _=>rfl)))) hT24)
  obtain ⟨hp27,hw28,hT29⟩:=Ov (E:=E0) (n:=24) (l:=[(4,.e0)]) (l':=[(4,.sl 2 (([]:(List (Int×Int))).map (Fl cdI cdI (fun _=>rfl) (fun _=>rfl)).enc))]) hT26 ⟨⟨.e0,kr,Ol⟩,trivial⟩;exact ⟨⟨Fr 24 [(4,.sl 2 (([]:(List (Int×Int))).map (Fl cdI cdI (fun _=>rfl) (fun _=>rfl)).enc))],hp27⟩,(WkY.trans (WkY.trans WkY.f1 hw28) WkY.f1),.inr rfl,[.sl 2 (([]:(List (Int×Int))).map (Fl cdI cdI (fun _=>rfl) (fun _=>rfl)).enc)],kr,⟨rfl,hT29.drop.drop⟩⟩
 ·rw [CL hb25] at h
  refine SemY.skip ?_;refine Bm ?_;refine A9 ?_;refine CZ AC 1 ?_;refine Bz AC 0 rfl (Ci (AB rfl) rfl (DY (a:= .sl 9 (x1.map AG.enc)) kr (CB (el:=42) kr))) ?_;refine CZ AC 1 ?_
  have hT30:=(hT24.front 1 rfl)
  obtain ⟨hp31,hw32,hT33⟩:=Ov (E:=E0) (n:=24) (l:=[(21,.v (.int .i64 (x1.length:Int))),(22,.fn 111 [] [e6,e1])]) (l':=[(21,.v (.int .i64 (x1.length:Int))),(22,.fn 111 [] [.pe (.sl 1 (v5.1.map (cdL 1 cdI).enc)) 0,e1])]) (SZ (c:=(cdL 1 (cdL 1 cdI))) (x:=v5.1) hT30) ⟨⟨.v (.int .i64 (x1.length:Int)),kr,FzU.refl⟩,⟨.fn 111 [] [e6,e1],kr,FzU.fn ⟨Ol,FzU.refl,trivial⟩⟩,trivial⟩;refine SM (WkY.trans WkY.f1 hw32) ?_;obtain ⟨hp34,hw35,hT36⟩:=Ov (E:=E0) (n:=24) (l:=[(21,.v (.int .i64 (x1.length:Int))),(22,.fn 111 [] [.pe (.sl 1 (v5.1.map (cdL 1 cdI).enc)) 0,e1])]) (l':=[(21,.v (.int .i64 (x1.length:Int))),(22,.fn 111 [] [.pe (.sl 1 (v5.1.map (cdL 1 cdI).enc)) 0,.pe (.sl 1 (x0.map (cdL 5 AA).enc)) 0])]) (SZ (c:=(cdL 1 (cdL 5 AA))) (x:=x0) hT33) ⟨⟨.v (.int .i64 (x1.length:Int)),kr,FzU.refl⟩,⟨.fn 111 [] [.pe (.sl 1 (v5.1.map (cdL 1 cdI).enc)) 0,e1],kr,FzU.fn ⟨FzU.refl,Ol,trivial⟩⟩,trivial⟩;refine SM (WkY.trans WkY.f1 hw35) ?_;obtain ⟨v37,hv37,h⟩:=OB h;refine Ih (v:=v37) (caps:=[]) (xs:=[.v (.int .i64 (x1.length:Int)),.fn 111 [] [.pe (.sl 1 (v5.1.map (cdL 1 cdI).enc)) 0,.pe (.sl 1 (x0.map (cdL 5 AA).enc)) 0]]) (u:=((x1.length:Int),(v5.1,x0),())) rfl rfl Hk rfl (AB rfl) kr kr (Dd (Ey (c:=cdI) (v:=(x1.length:Int))) (Dd (Ey (c:=(cdF 111 (csC (cdP (cdL 1 (cdL 1 cdI))) (csE (cdP (cdL 1 (cdL 5 AA))))) (fun _=>rfl))) (v:=(v5.1,x0))) SeesD.nil)) (.inr ⟨by kernel_rfl,DL.de ((x1.length:Int),(v5.1,x0),())⟩) hv37 ?_;refine Fq AC [(4,.sl 2 (v37.map (Fl cdI cdI (fun _=>rfl) (fun _=>rfl)).enc))] ?_;refine SemY.ret ?_;have hq:=OI h; subst hq;exact ⟨⟨Fr 24 [(4,.sl 2 (v37.map (Fl cdI cdI (fun _=>rfl) (fun _=>rfl)).enc))],hp34⟩,WkY.f1,.inr rfl,[.sl 2 (v37.map (Fl cdI cdI (fun _=>rfl) (fun _=>rfl)).enc)],kr,⟨rfl,hT36⟩⟩
def Kc:Cs ((List (List AE))×(List Am)×Unit):=(csC (cdL 1 (cdL 5 AA)) (csC (cdL 9 AG) csN))
def Kd (r:(List (Int×Int))):AV:=(cdL 2 (Fl cdI cdI (fun _=>rfl) (fun _=>rfl))).enc r
def PO:List AV->Option AV:=D4 Kc (fun a=>FX a.1 a.2.1) Kd
theorem PY:XOk 48 PO:=by
 refine AW Tryz.func48 (c:=Kb) ?h2 ⟨Tryz.call48⟩ Kc (fun a=>FX a.1 a.2.1) Kd (fun a=>(by show 2<=24; decide)) ?h3 ?h4
 case h2=>kernel_rfl
 case h3=>intro b; kernel_rfl
 case h4 =>
  intro a b h;refine Sem.mono (QY (Mz (L:=[]) (hp:=[]) a.1 a.2.1 b h T.nil)) fun e s' hs=>?_
  obtain ⟨h1,ys,h2,h3,-⟩:=hs;exact ⟨h1,ys,h2,h3⟩
/- slices.Index[[]int,int] -/
noncomputable def En:Code:=Br Tryz.f52
def Bx (x0:(List Int)) (x1:Int):Nat->Int->Option ((Unit) ⊕ (Int))
 | 0,_=>none
 | f + 1,c1 =>
  if (decide (c1 < (x0.length:Int)))=true then
  (idx x0 c1).bind fun v3 =>
  if (x1==v3)=true then
  some (.inr c1)
  else
  Bx x0 x1 f (wr .i64 (c1 + 1))
  else
  some (.inl ())
def A4 (x0:(List Int)) (x1:Int):Option (Int) :=
 (Bx x0 x1 100000 0).bind fun r6 =>
 match r6 with
 | (.inl _w7) =>
  some (-1)
 | (.inr w8) =>
  some w8
def Er:Cs ((List Int)×Int×Unit):=(csC (cdL 1 cdI) (csC cdI csN))
def Et (r:Int):AV:=cdI.enc r
theorem Fk (x0:(List Int)) (x1:Int):∀ (f:Nat) (c1:Int) (r:(Unit) ⊕ (Int)),Bx x0 x1 f c1=some r->SemN E0 ⟨none,false⟩ (pc En [1,0,1,0,0]) f ⟨Fr 19 [(0,.sl 1 (x0.map cdI.enc)),(1,.v (.int .i64 x1)),(7,.v (.int .i64 (x0.length:Int))),(8,.v (.int .i64 c1))],[]⟩ (fun e s=>match r with
 | (.inl _w)=>e=(.exit 0)/\Wk E0 s ⟨Fr 19 [],[]⟩
 | (.inr w)=>e = .ret/\Wk E0 s ⟨Fr 19 [(4,.v (.int .i64 w))],[]⟩):=by
 intro f;induction f with
 | zero=>intro c1 r h; cases h
 | succ f ih0 =>
  intro c1 r h
  have ih:=fun (c1:Int)=>ih0 c1 r
  unfold Bx at h;refine Bw ?_
  let p1:Nat×AV:=(8,.v (.int .i64 c1))
  let p2:Nat×AV:=(7,.v (.int .i64 (x0.length:Int)))
  let p3:Nat×AV:=(1,.v (.int .i64 x1))
  let p4:Nat×AV:=(0,.sl 1 (x0.map cdI.enc))
  refine AJ AC [p4,p3,p2,p1,(9,.v (.bool (decide (c1 < (x0.length:Int)))))] [] ?_;refine AH ?_;refine AM (b:=(decide (c1 < (x0.length:Int)))) kr (fun hb2=>?_) (fun hb2=>?_)
  ·rw [if_pos hb2] at h
   refine AQ ?_;refine AH ?_;refine Af ?_
   let p5:Nat×AV:=(5,.v (.int .i64 c1))
   refine AJ AC [p4,p3,p5,p2,p1] [] ?_;refine AH ?_;obtain ⟨v3,hv3,h⟩:=OB h;refine AI (s1:=⟨Fr 19 [p4,p3,p5,p2,p1,(16,.v (.bool (x1==v3)))],[]⟩) ?_ ?_
   ·refine AD (n:=19) AC 3 [p4,p3,p5,p2,p1,(11,.v (.int .i64 x1)),(12,.sl 1 (x0.map cdI.enc)),(13,.v (.int .i64 c1))] [] kr ?_
    refine AK AC 0 rfl (Ci (AB rfl) rfl (AS (a:= .sl 1 (x0.map cdI.enc)) (b:= .v (.int .i64 c1)) kr kr (FM (e:=cdI.enc) (el:=3) (k:=1) (ki:= .i64) kr kr hv3))) ?_;exact AO AC
   refine AM (b:=(x1==v3)) kr (fun hb4=>?_) (fun hb4=>?_)
   ·rw [if_pos hb4] at h
    refine AJ AC [(4,.v (.int .i64 c1))] [] ?_;refine AU ?_;have hq:=OI h; subst hq;exact ⟨rfl,AN⟩
   ·rw [CL hb4] at h
    refine AQ ?_
    let p6:Nat×AV:=(8,.v (.int .i64 (wr .i64 (c1 + 1))))
    refine Cy AC [p4,p3,p2,p6] [] ?_;exact As (s1:=⟨Fr 19 [p4,p3,p2,p6],[]⟩) AN (ih (wr .i64 (c1 + 1)) h)
  ·rw [CL hb2] at h
   refine CO ?_;have hq:=OI h; subst hq;exact ⟨rfl,AN⟩
theorem Jk (x0:(List Int)) (x1:Int) (r:Int) (h:A4 x0 x1=some r):Sem E0 ⟨none,false⟩ En ⟨Fr 19 (BP 0 (Er.enc (x0,x1,()))),[]⟩ fun e s'=>(e = .normal\/e = .ret)/\∃ xs,Em E0.P s'.fr s'.hp Tryz.f52.results.toList=some xs/\Ev xs=Et r:=by
 unfold A4 at h
 let p1:Nat×AV:=(1,.v (.int .i64 x1))
 let p2:Nat×AV:=(0,.sl 1 (x0.map cdI.enc))
 refine A8 (Bv (s1:=⟨Fr 19 [p2,p1],[]⟩) AN ?_);refine AJ AC [p2,p1] [] ?_;refine AH ?_;refine AH ?_
 let p3:Nat×AV:=(8,.v (.int .i64 0))
 let p4:Nat×AV:=(7,.v (.int .i64 (x0.length:Int)))
 refine AI (s1:=⟨Fr 19 [p2,p1,p4,p3],[]⟩) ?_ ?_
 ·refine AD (n:=19) AC 1 [p2,p1,(6,.sl 1 (x0.map cdI.enc))] [] kr ?_
  refine AK AC 0 rfl (Ci (AB rfl) rfl (DY (a:= .sl 1 (x0.map cdI.enc)) kr (CB (el:=3) kr))) ?_;exact AO AC
 refine Af ?_;obtain ⟨r6,hr6,h⟩:=OB h;refine CV (n:=100000) ?_;rcases r6 with w7 | w8
 ·try dsimp only at h
  refine BK (As (s1:=⟨Fr 19 [p2,p1,p4,p3],[]⟩) AN (Fk x0 x1 _ 0 _ hr6)) ?_;refine AJ AC [(4,.v (.int .i64 (-1)))] [] ?_;refine AU ?_;have hq:=OI h; subst hq;exact ⟨⟨Fr 19 [(4,.v (.int .i64 (-1)))],[]⟩,AN,.inr rfl,[.v (.int .i64 (-1))],kr,kr⟩
 ·try dsimp only at h
  refine BK (As (s1:=⟨Fr 19 [p2,p1,p4,p3],[]⟩) AN (Fk x0 x1 _ 0 _ hr6)) ?_;have hq:=OI h; subst hq;exact ⟨⟨Fr 19 [(4,.v (.int .i64 w8))],[]⟩,AN,.inr rfl,[.v (.int .i64 w8)],kr,kr⟩
def KV:List AV->Option AV:=D4 Er (fun a=>A4 a.1 a.2.1) Et
theorem He:XOk 52 KV:=by
 refine AW Tryz.func52 (c:=En) ?h2 ⟨Tryz.call52⟩ Er (fun a=>A4 a.1 a.2.1) Et (fun a=>(by show 2<=19; decide)) ?h3 ?h4
 case h2=>kernel_rfl
 case h3=>intro b; kernel_rfl
 case h4=>exact fun a b h=>Jk a.1 a.2.1 b h
/- trestle/court.Reason -/
noncomputable def Js:Code:=Br Tryz.f21
def Ep (x0:(List AE)) (x1:Am) (x2:Am) (x3:Int) (x4:Int):Option (Int×Int) :=
 (D0 x0).bind fun v1 =>
 if (!v1.2)=true then
 some (0,0)
 else
 (Ah v1.1 (x1,x3) (x2,x4)).bind fun v3 =>
 some (v3.1,v3.2)
noncomputable def Hv:Cs ((List AE)×Am×Am×Int×Int×Unit):=(csC (cdL 5 AA) (csC AG (csC AG (csC cdI (csC cdI csN)))))
noncomputable def Hz (r:Int×Int):AV:= .tp [cdI.enc r.1,cdI.enc r.2]
theorem MP (x0:(List AE)) (x1:Am) (x2:Am) (x3:Int) (x4:Int) (r:Int×Int) (h:Ep x0 x1 x2 x3 x4=some r):Sem E0 ⟨none,false⟩ Js ⟨Fr 31 (BP 0 (Hv.enc (x0,x1,x2,x3,x4,()))),[]⟩ fun e s'=>(e = .normal\/e = .ret)/\∃ xs,Em E0.P s'.fr s'.hp Tryz.f21.results.toList=some xs/\Ev xs=Hz r:=by
 unfold Ep at h
 let p1:Nat×AV:=(4,.v (.int .i64 x4))
 let p2:Nat×AV:=(3,.v (.int .i64 x3))
 let p3:Nat×AV:=(0,.sl 5 (x0.map AA.enc))
 refine A8 (Bv (s1:=⟨Fr 31 [p3,(1,AG.enc x1),(2,AG.enc x2),p2,p1],[]⟩) AN ?_)
 let p4:Option Blk:=some ⟨9,42,[AG.enc x2],false⟩
 let p5:Option Blk:=some ⟨9,42,[AG.enc x1],false⟩
 let p6:Nat×AV:=(7,.pt 1 0 0)
 let p7:Nat×AV:=(6,.pt 0 0 0)
 refine AJ AC [p3,p2,p1,p7,p6] [p5,p4] ?_;refine AH ?_;obtain ⟨v1,hv1,h⟩:=OB h
 let p8:Nat×AV:=(12,.sl 1 (v1.1.map Cj.enc))
 refine AI (s1:=⟨Fr 31 [p2,p1,p7,p6,p8,(13,.v (.bool v1.2))],[p5,p4]⟩) ?_ ?_
 ·refine AD (n:=31) AC 1 [p2,p1,p7,p6,(15,.sl 5 (x0.map AA.enc))] [p5,p4] kr ?_
  refine Ac (caps:=[]) (xs:=[.sl 5 (x0.map AA.enc)]) (u:=(x0,())) rfl rfl Ki rfl (AB rfl) kr kr (AP (Ab (c:=(cdL 5 AA)) (v:=x0)) BJ) (.inr kr) hv1 ?_;exact AO AC
 refine AH ?_;refine AJ AC [p2,p1,p7,p6,p8,(20,.v (.bool (!v1.2)))] [p5,p4] ?_;refine AM (b:=(!v1.2)) kr (fun hb2=>?_) (fun hb2=>?_)
 ·rw [if_pos hb2] at h
  refine AH ?_
  let p9:Nat×AV:=(11,.v (.int .i64 0))
  let p10:Nat×AV:=(10,.v (.int .i64 0))
  refine AI (s1:=⟨Fr 31 [p10,p9],[]⟩) ?_ ?_
  ·refine AD (n:=31) AC 2 [p10,p9] [p5,p4] kr ?_
   exact AL rfl (AY [] trivial ⟨lv,lv,trivial⟩)
  refine AU ?_;have hq:=OI h; subst hq;exact ⟨⟨Fr 31 [p10,p9],[]⟩,AN,.inr rfl,[.v (.int .i64 0),.v (.int .i64 0)],kr,kr⟩
 ·rw [CL hb2] at h
  refine AQ ?_;refine AH ?_;obtain ⟨v3,hv3,h⟩:=OB h
  let p11:Nat×AV:=(11,.v (.int .i64 v3.2))
  let p12:Nat×AV:=(10,.v (.int .i64 v3.1))
  refine AI (s1:=⟨Fr 31 [p12,p11],[]⟩) ?_ ?_
  ·refine AD (n:=31) AC 7 [(21,.sl 1 (v1.1.map Cj.enc)),(24,.ag [.st x1.1,.st x1.2.1,.st x1.2.2.1,.v (.int .i64 x1.2.2.2.1),.v (.int .i64 x1.2.2.2.2.1),.st x1.2.2.2.2.2.1,.v (.bool x1.2.2.2.2.2.2.1),.v (.bool x1.2.2.2.2.2.2.2.1),.sl 1 (x1.2.2.2.2.2.2.2.2.map cdS.enc),.v (.int .i64 x3)]),(27,.ag [.st x2.1,.st x2.2.1,.st x2.2.2.1,.v (.int .i64 x2.2.2.2.1),.v (.int .i64 x2.2.2.2.2.1),.st x2.2.2.2.2.2.1,.v (.bool x2.2.2.2.2.2.2.1),.v (.bool x2.2.2.2.2.2.2.2.1),.sl 1 (x2.2.2.2.2.2.2.2.2.map cdS.enc),.v (.int .i64 x4)])] [p5,p4] kr ?_
   refine Ac (caps:=[]) (xs:=[.sl 1 (v1.1.map Cj.enc),.ag [.st x1.1,.st x1.2.1,.st x1.2.2.1,.v (.int .i64 x1.2.2.2.1),.v (.int .i64 x1.2.2.2.2.1),.st x1.2.2.2.2.2.1,.v (.bool x1.2.2.2.2.2.2.1),.v (.bool x1.2.2.2.2.2.2.2.1),.sl 1 (x1.2.2.2.2.2.2.2.2.map cdS.enc),.v (.int .i64 x3)],.ag [.st x2.1,.st x2.2.1,.st x2.2.2.1,.v (.int .i64 x2.2.2.2.1),.v (.int .i64 x2.2.2.2.2.1),.st x2.2.2.2.2.2.1,.v (.bool x2.2.2.2.2.2.2.1),.v (.bool x2.2.2.2.2.2.2.2.1),.sl 1 (x2.2.2.2.2.2.2.2.2.map cdS.enc),.v (.int .i64 x4)]]) (u:=(v1.1,(x1,x3),(x2,x4),())) rfl rfl DH rfl (AB rfl) kr kr (AP (Ab (c:=(cdL 1 Cj)) (v:=v1.1)) (AP (Ab (c:=AF) (v:=(x1,x3))) (AP (Ab (c:=AF) (v:=(x2,x4))) BJ))) (.inl kr) hv3 ?_;refine AD (n:=31) AC 4 [p12,p11] [p5,p4] kr ?_;exact AL rfl (AY [] trivial ⟨lv,lv,trivial⟩)
  refine AU ?_;have hq:=OI h; subst hq;exact ⟨⟨Fr 31 [p12,p11],[]⟩,AN,.inr rfl,[.v (.int .i64 v3.1),.v (.int .i64 v3.2)],kr,kr⟩
noncomputable def OE:List AV->Option AV:=D4 Hv (fun a=>Ep a.1 a.2.1 a.2.2.1 a.2.2.2.1 a.2.2.2.2.1) Hz
theorem OL:XOk 21 OE:=by
 refine AW Tryz.func21 (c:=Js) ?h2 ⟨Tryz.call21⟩ Hv (fun a=>Ep a.1 a.2.1 a.2.2.1 a.2.2.2.1 a.2.2.2.2.1) Hz (fun a=>(by show 5<=31; decide)) ?h3 ?h4
 case h2=>kernel_rfl
 case h3=>intro b; kernel_rfl
 case h4=>exact fun a b h=>MP a.1 a.2.1 a.2.2.1 a.2.2.2.1 a.2.2.2.2.1 b h
/- trestle/court.Compare -/
noncomputable def JO:Code:=Br Tryz.f22
def DW (x0:(List AE)) (x1:Am) (x2:Am) (x3:Int) (x4:Int):Option (Int) :=
 (Ep x0 x1 x2 x3 x4).bind fun v1 =>
 some v1.2
def G9:Cs ((List AE)×Am×Am×Int×Int×Unit):=(csC (cdL 5 AA) (csC AG (csC AG (csC cdI (csC cdI csN)))))
def HN (r:Int):AV:=cdI.enc r
theorem LX (x0:(List AE)) (x1:Am) (x2:Am) (x3:Int) (x4:Int) (r:Int) (h:DW x0 x1 x2 x3 x4=some r):Sem E0 ⟨none,false⟩ JO ⟨Fr 23 (BP 0 (G9.enc (x0,x1,x2,x3,x4,()))),[]⟩ fun e s'=>(e = .normal\/e = .ret)/\∃ xs,Em E0.P s'.fr s'.hp Tryz.f22.results.toList=some xs/\Ev xs=HN r:=by
 unfold DW at h
 let p1:Nat×AV:=(0,.sl 5 (x0.map AA.enc))
 refine A8 (Bv (s1:=⟨Fr 23 [p1,(1,AG.enc x1),(2,AG.enc x2),(3,.v (.int .i64 x3)),(4,.v (.int .i64 x4))],[]⟩) AN ?_)
 let p2:Option Blk:=some ⟨9,42,[AG.enc x2],false⟩
 let p3:Option Blk:=some ⟨9,42,[AG.enc x1],false⟩
 refine AJ AC [p1,(3,.v (.int .i64 x3)),(4,.v (.int .i64 x4)),(6,.pt 0 0 0),(7,.pt 1 0 0)] [p3,p2] ?_;refine AH ?_;obtain ⟨v1,hv1,h⟩:=OB h;refine AI (s1:=⟨Fr 23 [(12,.v (.int .i64 v1.2))],[]⟩) ?_ ?_
 ·refine AD (n:=23) AC 5 [(14,.sl 5 (x0.map AA.enc)),(15,AG.enc x1),(16,AG.enc x2),(17,.v (.int .i64 x3)),(18,.v (.int .i64 x4))] [p3,p2] kr ?_
  refine Ac (caps:=[]) (xs:=[.sl 5 (x0.map AA.enc),AG.enc x1,AG.enc x2,.v (.int .i64 x3),.v (.int .i64 x4)]) (u:=(x0,x1,x2,x3,x4,())) rfl rfl OL rfl (AB rfl) kr kr (AP (Ab (c:=(cdL 5 AA)) (v:=x0)) (AP (Ab (c:=AG) (v:=x1)) (AP (Ab (c:=AG) (v:=x2)) (AP (Ab (c:=cdI) (v:=x3)) (AP (Ab (c:=cdI) (v:=x4)) BJ))))) (.inl kr) hv1 ?_;refine AD (n:=23) AC 5 [(12,.v (.int .i64 v1.2))] [p3,p2] kr ?_;exact AL rfl (AY [] trivial ⟨lv,trivial⟩)
 refine AJ AC [(10,.v (.int .i64 v1.2))] [] ?_;refine AU ?_;have hq:=OI h; subst hq;exact ⟨⟨Fr 23 [(10,.v (.int .i64 v1.2))],[]⟩,AN,.inr rfl,[.v (.int .i64 v1.2)],kr,kr⟩
def NX:List AV->Option AV:=D4 G9 (fun a=>DW a.1 a.2.1 a.2.2.1 a.2.2.2.1 a.2.2.2.2.1) HN
theorem Np:XOk 22 NX:=by
 refine AW Tryz.func22 (c:=JO) ?h2 ⟨Tryz.call22⟩ G9 (fun a=>DW a.1 a.2.1 a.2.2.1 a.2.2.2.1 a.2.2.2.2.1) HN (fun a=>(by show 5<=23; decide)) ?h3 ?h4
 case h2=>kernel_rfl
 case h3=>intro b; kernel_rfl
 case h4=>exact fun a b h=>LX a.1 a.2.1 a.2.2.1 a.2.2.2.1 a.2.2.2.2.1 b h
section
variable {E:Env}{w w':World}{Z Z':Nat->Prop}{R R':List RI}{h h':Hp}{base:Bs}{s s':St}{a:Act}{n:Nat}
/-- What a deferred call must bring about when the function below returns: nothing but new blocks. -/
def Rp (P:Program) (g:FuncId) (us:List Value):Prop:=∀ w1,CallsDIn (Fw none) 0 P g us.toArray .returning w1 fun e u' w2=>match e with | .returned _=>settle u' = .returning/\w1.grownBy w2 none | _=>False
theorem SR.grown {D:List Deferred}{b':Bs}(sr:SR E base w Z R s a) (hb:b'.n=base.n) (hg:w.grownBy w' none) (hm:MksD base.n w Z R s.hp D b'.D):SR E b' w' Z R s { a with defers:=D }:=by
 have hz:∀ c,Z c->w'.heap[c]? = w.heap[c]?:=fun c hc=>hg.block c (sr.hh.zlt c hc) (by simp)
 refine ⟨sr.hh.keep hg.size (fun c hc=>hg.block c hc (by simp)),sr.fr.off hz,?_,sr.gl.off hz,by rw [hb]; exact Nat.le_trans sr.bs hg.size⟩
 show MksD b'.n _ _ _ _ _ _
 rw [hb]
 exact MksD.imp (fun r h1 h2 h3=>⟨(hg.block r (Jb h1) (by simp)).trans h1,h2,h3⟩) hm
theorem OW {d:Deferred}{g:FuncId}{fv:_}{cap:Array Value}{us:List Value}(hbD:base.D=[d]) (ht:d.target = .fn fv cap) (hinv:∀ w1,(invoke d.target d.args).run E.P w1 = .ok (.enter g us.toArray) w1) (hcall:Rp E.P g us){fn:Func}{S:Value->World->Prop}{xs:List AV}(hres:Em E.P s.fr s.hp fn.results.toList=some xs)
  (hS:∀ w' u,w.heap.size<=w'.heap.size->w'.os=w.os->w'.tape=w.tape->w'.output=w.output->(∀ c,c < base.n->w'.heap[c]? = w.heap[c]?)->HR w' Z R s.hp->VR w' Z R (Ev xs) u->S u w') :
  ∀ {D:List Deferred} {w1:World},SR E base w1 Z R s { a with defers:=D }->w1.heap.size=w.heap.size->w1.os=w.os->w1.tape=w.tape->w1.output=w.output->(∀ c,c < base.n->w1.heap[c]? = w.heap[c]?) ->
  LeavesInM (Fw none) 0 E.P fn a.tmps (fun e w'=>match e with | .returned v=>S v w' | _=>False) D .returning w1
 | [],w1,sr,hz,ho,ht',hp,hb=>by
  have:=sr.mks
  unfold Mks MksD at this
  rw [hbD] at this
  cases this
 | d'::D,w1,sr,hz,ho,ht',hp,hb=>by
  rcases sr.mks with ⟨Ds',e,hno,hD⟩ | ⟨⟨r,h1,h2,h3,h4,h5,h6⟩,hD⟩
  ·rw [hbD] at e
   injection e with e1 e2
   subst e1 e2
   refine ⟨by simp,.inr ⟨(fun h=>by cases h),fv,cap,g,us.toArray,ht,hinv w1,fun _ _=>trivial,CallsDIn.mono (hcall w1) fun e u' w2 he=>?_⟩⟩
   cases e with
   | returned v =>
    obtain ⟨k1,k2⟩:=he
    dsimp only
    rw [k1]
    refine In (base:=⟨base.n,[]⟩) (w:=w2) rfl hres (fun w3 u g1 g2 g3 g4 g5 g6 g7=>hS w3 u ?_ (g2.trans (k2.os.trans ho)) (g3.trans (k2.tape.trans ht')) (g4.trans (k2.output.trans hp)) (fun c hc=>?_) g6 g7) (sr.grown (b':=⟨base.n,[]⟩) rfl k2 hD) rfl rfl rfl rfl (fun _ _=>rfl)
    ·rw [g1,<-hz]; exact k2.size
    ·rw [g5 c hc,k2.block c (Nat.lt_of_lt_of_le hc sr.bs) (by simp)]; exact hb c hc
   | panicked c=>exact he.elim
   | outgrown=>exact he.elim
  ·subst h2
   have hb':∀ c,(Z c\/own R s.hp c)->(w1.putObj r (.deferred none)).heap[c]? = w1.heap[c]?:=fun c hc=>GR (fun e=>by subst e; exact hc.elim h4 h5)
   exact ⟨by simp,.inl ⟨r,w1.putObj r (.deferred none),rfl,run_takeDeferred h3,OW hbD ht hinv hcall hres hS ⟨sr.hh.off (CY _ _ _) hb',sr.fr.off fun c hc=>hb' c (.inl hc),MksD.put hD h6,sr.gl.off fun c hc=>hb' c (.inl hc),by rw [CY]; exact sr.bs⟩ (by rw [CY]; exact hz) ho ht' hp (fun c hc=>(GR (by omega)).trans (hb c hc))⟩⟩
/-- The frame at the entry. -/
theorem Wb {fn:Func}{args:List AV}{us:List Value}(hh:HR w Z R h) (hv:VRs w Z R args us) (hg:GI E w Z):SR E (.of w.heap.size) w Z R ⟨args.map some++List.replicate (fn.ntmps - args.length) (some (.tp [])),h⟩ { tmps:=us.toArray++Array.replicate (fn.ntmps - us.toArray.size) undef,defers:=[] }:=by
 have hul:us.length=args.length:=hv.len
 refine ⟨hh,⟨by simp [hul],fun t x hx=>?_⟩,rfl,hg,Nat.le_refl _⟩
 have e0:us.toArray++Array.replicate (fn.ntmps - us.toArray.size) undef=(us++List.replicate (fn.ntmps - us.length) undef).toArray:=by simp
 rw [e0,Array.getD_eq_getD_getElem?,List.getElem?_toArray]
 by_cases ht:t < args.length
 ·rw [List.getElem?_append_left (by simpa using ht),List.getElem?_map] at hx
  rw [List.getElem?_append_left (by omega)]
  cases hat:args[t]? with
  | none=>rw [hat] at hx; cases hx
  | some q =>
   rw [hat] at hx
   have hx:=OI (OI hx)
   subst hx
   obtain ⟨u,hu1,hu2⟩:=hv.get hat
   rw [hu1]; exact hu2
 ·rw [List.getElem?_append_right (by simp; omega),List.getElem?_replicate] at hx
  split at hx
  ·next hlt =>
   have hx:=OI (OI hx)
   subst hx
   rw [List.getElem?_append_right (by omega),List.getElem?_replicate,if_pos (by rw [hul]; simpa using hlt)]
   exact .tp (us:=[]) rfl (fun i x u hx=>by simp at hx)
  ·cases hx
/-- A function whose body is: A; B; a closure is made and deferred; the rest. -/
theorem Pp (hE:EnvOk E){f g:FuncId}{fn:Func}{A B rest:Code}{id:Nat}{o1 o2:Oper}{args cs xs:List AV}{s1 s2 s3 s4:St}{ex:Ex}{p:Operand}{tys:Array TypeId}{us:List Value}
  (hf:E.P.funcs[f]? = some fn) (hb:fn.body=some (.seq A (.seq B (.seq (.region id #[o1,o2] false) rest)))) (hdA:Cg A=true) (hdB:Cg B=true) (hdR:Cg rest=true)
  (eA:evC E n ⟨none,false⟩ A ⟨args.map some++List.replicate (fn.ntmps - args.length) (some (.tp [])),h⟩=some (.normal,s1)) (eB:evC E n ⟨none,false⟩ B s1=some (.normal,s2)) (hg1:o1.guard=none) (e1:op1 E (evC E n) ⟨none,false⟩ o1 s2=some s3) (hg2:o2.guard=none) (ho2:o2.op = .defer ⟨.value p,#[],tys⟩) (hd2:o2.dst=none) (hp:opA E s3.fr p=some (.fn g [] cs))
  (eR:evC E n ⟨none,false⟩ rest s3=some (ex,s4)) (hex:ex = .normal\/ex = .ret) (hres:Em E.P s4.fr s4.hp fn.results.toList=some xs) (hcl:Bu E.P g) (hdef:∀ us:List Value,us.length=cs.length->Rp E.P g us)
  (hh:HR w Z R h) (hv:VRs w Z R args us) (hg:GI E w Z):Pd E f us w Z R h (Ev xs) s4.hp:=by
 have hCS:=(code_sound hE n).1
 refine callsIn_wide.1 (callsIn_of_wp_marks (F:=Fw none) (n:=0) hf hb trivial ?_)
 refine wpIn_seq (hCS _ A _ .normal s1 hdA eA none (.of w.heap.size) _ _ w Z R (fun _=>rfl) (Wb hh hv hg) (fun y hy=>by cases hy) fun a1 w1 Z1 R1 sr1 st1=>?_)
 refine wpIn_seq (hCS _ B _ .normal s2 hdB eB none (.of w.heap.size) _ _ w1 Z1 R1 (fun _=>rfl) sr1 (fun y hy=>by cases hy) fun a2 w2 Z2 R2 sr2 st2=>?_)
 refine wpIn_seq (wpIn_region_list ?_)
 unfold wpListIn
 rw [if_pos (by simp [Region.wanted,hg1])]
 refine lw_wpIn none (op1_lw hE hCS e1 sr2 fun a3 w3 Z3 R3 sr3 st3=>?_)
 unfold wpListIn
 rw [if_pos (by simp [Region.wanted,hg2])]
 have hvf:=opA_vr sr3 p _ hp
 generalize hva:a3.eval p=va at hvf
 cases hvf with
 | fn hl hl' hx hy =>
  rename_i u1 u2
  have e1':u1=[]:=by simpa using hl
  subst e1'
  have hrun:(o2.semAt (Fw none).round a3.eval).run E.P w3 = .ok (.defer ⟨.fn (.func g) u2.toArray,#[]⟩) w3:=by
   show (o2.semAt none a3.eval).run E.P w3=_
   rw [Oper.semAt_none]
   simp [execOp,ho2,resolve,hva,Deferred.ofValue]
  refine ⟨fun _ _=>trivial,?_⟩
  rw [hrun,Oper.uponIn_defer,hd2]
  have sr4:SR E ⟨w.heap.size,[⟨.fn (.func g) u2.toArray,#[]⟩]⟩ w3 Z3 R3 s3 { a3 with defers:=⟨.fn (.func g) u2.toArray,#[]⟩::a3.defers }:=by
   refine ⟨sr3.hh,sr3.fr,.inl ⟨_,rfl,fun r h=>?_,sr3.mks⟩,sr3.gl,sr3.bs⟩
   unfold RV at h
   injection h with h
   cases h
  refine hCS _ rest _ ex s4 hdR eR none ⟨w.heap.size,[⟨.fn (.func g) u2.toArray,#[]⟩]⟩ _ _ w3 Z3 R3 (fun _=>rfl) sr4 (fun y hy=>by cases hy) fun a5 w5 Z5 R5 sr5 st5=>?_
  have st:=((st1.trans st2).trans st3).trans st5
  have hle:=OW (base:=⟨w.heap.size,[⟨.fn (.func g) u2.toArray,#[]⟩]⟩) (w:=w5) (a:=a5) (fn:=fn) (g:=g) (us:=u2) rfl rfl (fun w1=>by simp [invoke,hcl.run]) (hdef u2 hl') (S:=fun v w''=>∃ Z' R',HR w'' Z' R' s4.hp/\VR w'' Z' R' (Ev xs) v/\Step w Z R h w'' Z' R' s4.hp) hres (fun w'' u g1 g2 g3 g4 g5 g6 g7=>⟨Z5,R5,g6,g7,⟨g2.trans st.os,g3.trans st.tape,g4.trans st.output,Nat.le_trans st.size g1,fun c hc hn=>(g5 c hc).trans (st.block c hc hn),st.own_,st.z,st.z',st.r⟩⟩) (D:=a5.defers) (w1:=w5) sr5 rfl rfl rfl rfl (fun _ _=>rfl)
  rcases hex with rfl | rfl
  ·exact hle
  ·exact hle
end
/-- Operations of a deferred call, where nothing is to be recovered. -/
def Lq (E:Env):List Oper->St->Option St
 | [],s=>some s
 | o::rest,s=>match o.guard with
  | some _=>none
  | none=>match o.op with
   | .call ⟨.builtin .recover,_,_⟩=>Lq E rest ⟨MJ s.fr o.dst (.v .nilIface),s.hp⟩
   | .typeAssert x _ u true=>match opA E s.fr x,E.P.underlying u,FR E.P u with
    | some (.v .nilIface),some _,some z=>Lq E rest ⟨MJ s.fr o.dst (.tp [z,.v (.bool false)]),s.hp⟩
    | _,_,_=>none
   | .store t p q=>match o.dst,opA E s.fr p,opA E s.fr q with
    | none,some y,some z=>match Eh E.P s.hp t y z with
     | some h=>Lq E rest ⟨s.fr,h⟩
     | none=>none
    | _,_,_=>none
   | op=>match Gb E.P (opA E s.fr) s.hp op with
    | some x=>Lq E rest ⟨MJ s.fr o.dst x,s.hp⟩
    | none=>match Ia E.P (opA E s.fr) s.hp op with
     | some (x,h)=>Lq E rest ⟨MJ s.fr o.dst x,h⟩
     | none=>none
section
variable {E:Env}{base:Bs}{ops:Array Oper}{Q:Exit->Act->List Frame->World->Prop}{cs:List Frame}{D:List Deferred}{s':St}
theorem Od (a:Act) (d:Option Tmp) (u:Value):(a.put d u).defers=a.defers:=by cases d <;> rfl
theorem X1 {P:Program}{t u:TypeId}{d:TypeDesc}{v:Value}{w:World}(hu:P.underlying u=some d) (hz:∀ w,(zeroValue u).run P w = .ok v w):(Instr.typeAssert .nilIface t u true).run P w = .ok (.tuple #[v,.bool false]) w:=by
 unfold Instr.typeAssert
 rw [Sem.run_bind,run_underlying hu]
 cases d <;> simp [hz,Result.andThen]
theorem Hy (hrec:recoverD cs=none):∀ {rest:List Oper}{s:St}{a:Act}{w:World}{Z:Nat->Prop}{R:List RI}{k:Nat},Lq E rest s=some s'->SR E base w Z R s a->a.defers=D->(∀ j,rest[j]? = ops[k + j]?) ->
  (∀ a' w' Z' R',SR E base w' Z' R' s' a'->a'.defers=D->Step w Z R s.hp w' Z' R' s'.hp->Q .normal a' cs w')->wpOpsSIn (Fw none) 0 E.P ops Q (List.range' k rest.length) a cs w
 | [],s,a,w,Z,R,k,e,sr,hD,hops,q=>by
  injection e with e; subst e
  exact q a w Z R sr hD (Step.refl _ _ _ _)
 | o::rest,s,a,w,Z,R,k,e,sr,hD,hops,q=>by
  have hok:ops[k]? = some o:=by have:=hops 0; simpa using this.symm
  have hops':∀ j,rest[j]? = ops[k + 1 + j]?:=fun j=>by have:=hops (j + 1); simpa [Nat.add_assoc,Nat.add_comm 1 j] using this
  have hρ:∀ o x,opA E s.fr o=some x->VR w Z R x (a.eval o):=fun o x e=>opA_vr sr o x e
  unfold Lq at e
  split at e
  ·cases e
  ·next hg =>
   rw [List.length_cons,List.range'_succ]
   unfold wpOpsSIn
   rw [hok]
   dsimp only
   refine ⟨fun _ _=>trivial,?_⟩
   rw [if_pos (by simp [Region.wanted,hg])]
   have val:∀ {x:AV} {h':Hp},Ld E.P w Z R s.hp x h' a.eval o->Lq E rest ⟨MJ s.fr o.dst x,h'⟩=some s'->(match (execOp a.eval o).run E.P w with
    | .ok .recover w'=>(match recoverD cs with
     | some (v,cs')=>wpOpsSIn (Fw none) 0 E.P ops Q (List.range' (k + 1) rest.length) (a.put o.dst v) cs' w'
     | none=>wpOpsSIn (Fw none) 0 E.P ops Q (List.range' (k + 1) rest.length) (a.put o.dst .nilIface) cs w')
    | .ok (.value v) w'=>wpOpsSIn (Fw none) 0 E.P ops Q (List.range' (k + 1) rest.length) (a.put o.dst v) cs w'
    | .ok .skip w'=>wpOpsSIn (Fw none) 0 E.P ops Q (List.range' (k + 1) rest.length) (a.put o.dst undef) cs w'
    | .halt (.panic v) w'=>Q (.panic [{ v,recovered:=false }]) a cs w'
    | _=>False):=fun {x h'} hl e=>by
    obtain ⟨u,w',R',h1,h2,h3,h4⟩:=hl
    rw [h1]
    exact Hy hrec e ((sr.step h2 h4).put h3) ((Od _ _ _).trans hD) hops' fun a' w'' Z'' R'' sr'' hD'' st=>q a' w'' Z'' R'' sr'' hD'' (h4.trans st)
   split at e
   ·next b c ho =>
    have hr:(execOp a.eval o).run E.P w = .ok .recover w:=by
     simp [execOp,ho,resolve,invoke]
     rfl
    rw [hr]
    dsimp only
    rw [hrec]
    exact Hy hrec e (sr.put (.v rfl)) ((Od _ _ _).trans hD) hops' q
   ·next x t u ho =>
    split at e
    ·next d z hx hu hz =>
     have hv:=(hρ _ _ hx).v_inv
     obtain ⟨v,hv1,_,hrun,_⟩:=Iq (w:=w) (Z:=Z) (R:=R) hz
     refine val (x:= .tp [z,.v (.bool false)]) (h':=s.hp) ⟨.tuple #[v,.bool false],w,R,?_,sr.hh,.tp (us:=[v,.bool false]) rfl (fun i x u hx hu=>?_),Step.refl _ _ _ _⟩ e
     ·simp only [execOp,ho,hv]
      rw [Sem.run_bind,X1 hu hrun]
      rfl
     ·match i with
      | 0=>simp at hx hu; subst hx hu; exact hv1
      | 1=>simp at hx hu; subst hx hu; exact .v rfl
      | i + 2=>simp at hx
    ·cases e
   ·next t p r ho =>
    split at e
    ·next y z hd hp hq =>
     split at e
     ·next h' hst =>
      obtain ⟨w',h1,h2,h3⟩:=I7 hρ sr.hh ho hp hq hst
      rw [h1,hd]
      dsimp only
      exact Hy hrec e (sr.step h2 h3) hD hops' fun a' w'' Z'' R'' sr'' hD'' st=>q a' w'' Z'' R'' sr'' hD'' (h3.trans st)
     ·cases e
    ·cases e
   ·split at e
    ·next x hx=>exact val ((evOpQ_sound sr.hh hρ hx).ld sr.hh) e
    ·split at e
     ·next x h' hx=>exact val (evOpN_sound hρ sr.hh hx).ld e
     ·cases e
/-- A deferred closure of the form: what it recovers is looked at; where it was nothing, nothing is done. -/
theorem XP {g:FuncId}{fn:Func}{id0 id1:Nat}{ops0 ops1:Array Oper}{x:Operand}{X:Code}{s1 s2:St}{us:List Value}(hG:∀ q,E.G q=none) (hf:E.P.funcs[g]? = some fn) (hb:fn.body=some (.seq (.region id0 ops0 false) (.seq (.region id1 ops1 false) (.cond x X .skip)))) (hres:fn.results=#[])
  (e1:Lq E ops0.toList ⟨List.replicate fn.ntmps none,[]⟩=some s1) (e2:Lq E ops1.toList s1=some s2) (ht:opA E s2.fr x=some (.v (.bool false))) (hl:us.length<=fn.ntmps):Rp E.P g us:=by
 intro w1
 refine callsDIn_of_wpSIn hf hb trivial fun c₀ cs hm=>?_
 have hrec:recoverD (c₀::cs)=none:=by simp [recoverD,hm]
 have sr0:SR E (.of w1.heap.size) w1 (fun _=>False) [] ⟨List.replicate fn.ntmps none,[]⟩ { tmps:=us.toArray++Array.replicate (fn.ntmps - us.toArray.size) undef,defers:=[] } :=
  ⟨hr_nil (fun _ h=>h.elim),⟨by simp; omega,fun t x hx=>by simp [List.getElem?_replicate] at hx⟩,rfl,(fun q y hy=>by rw [hG] at hy; cases hy),Nat.le_refl _⟩
 refine wpSIn_seq (wpSIn_region ?_)
 rw [List.range_eq_range',show ops0.size=ops0.toList.length by simp]
 refine Hy hrec (rest:=ops0.toList) (k:=0) (D:=[]) e1 sr0 rfl (fun j=>by simp) fun a2 w2 Z2 R2 sr2 hD2 st2=>?_
 show (Code.seq _ _).wpSIn _ _ _ _ _ _ _
 refine wpSIn_seq (wpSIn_region ?_)
 rw [List.range_eq_range',show ops1.size=ops1.toList.length by simp]
 refine Hy hrec (rest:=ops1.toList) (k:=0) (D:=[]) e2 sr2 hD2 (fun j=>by simp) fun a3 w3 Z3 R3 sr3 hD3 st3=>?_
 show (Code.cond _ _ _).wpSIn _ _ _ _ _ _ _
 refine wpSIn_cond (t:=false) (opA_vr sr3 _ _ ht).v_inv ?_
 refine wpSIn_of_wpIn rfl (wpIn_skip ?_)
 have st:=st2.trans st3
 have h0:(Array.mapM (SD a3.tmps) (#[]:Array ResultVar)).run E.P w3 = .ok #[] w3:=Og (us:=[]) (by simp)
 exact ⟨hD3,.returning,by rw [<-hm],.tuple #[],by rw [Of,hres,Sem.run_bind,h0]; rfl,rfl,⟨st.os,st.tape,st.output,st.size,fun c hc _=>st.block c hc PG⟩⟩
end
end Go.Proofs.YtlalcoehgkmhlaaGreatDoor
namespace Go.Proofs.YtlalcoehgkmhlaaGreatDoor
open Go.Shelf
def Qo:Go.Shelf.Ren:=⟨fun | 217=>194 | 266=>211 | n=>n,fun | 9=>9 | 5=>5 | 3=>3 | n=>n,fun | n=>n⟩
theorem V9:Go.Proofs.Lays.n217 Tryz.prog Qo:={
 mixed:=by kernel_rfl
 f217:=Tryz.func194.trans (congrArg some (by kernel_rfl))
 f266:=Tryz.func211.trans (congrArg some (by kernel_rfl))
 t3:=Tryz.underlying3
 a3:=Tryz.isAgg3
 z3:=Tryz.sizeOf3
 v3:=Tryz.zeroValue3
 t5:=Tryz.underlying5
 a5:=Tryz.isAgg5
 z5:=Tryz.sizeOf5
 v5:=Tryz.zeroValue5
 t9:=Tryz.underlying9
 a9:=Tryz.isAgg9
 z9:=Tryz.sizeOf9
 v9:=Tryz.zeroValue9 }
def Qn:Go.Shelf.Ren:=⟨fun | 138=>199 | 195=>213 | 218=>215 | 143=>200 | 219=>173 | 217=>194 | 225=>195 | 224=>196 | 267=>197 | 266=>211 | 314=>212 | n=>n,fun | 9=>9 | 3=>3 | 4=>4 | 5=>5 | 0=>0 | 46=>178 | 146=>222 | 51=>221 | n=>n,fun | 1=>0 | n=>n⟩
theorem V8:Go.Proofs.Lays.n138 Tryz.prog Qn:={
 mixed:=by kernel_rfl
 f138:=Tryz.func199.trans (congrArg some (by kernel_rfl))
 f143:=Tryz.func200.trans (congrArg some (by kernel_rfl))
 f195:=Tryz.func213.trans (congrArg some (by kernel_rfl))
 f217:=Tryz.func194.trans (congrArg some (by kernel_rfl))
 f218:=Tryz.func215.trans (congrArg some (by kernel_rfl))
 f219:=Tryz.func173.trans (congrArg some (by kernel_rfl))
 f224:=Tryz.func196.trans (congrArg some (by kernel_rfl))
 f225:=Tryz.func195.trans (congrArg some (by kernel_rfl))
 f266:=Tryz.func211.trans (congrArg some (by kernel_rfl))
 f267:=Tryz.func197.trans (congrArg some (by kernel_rfl))
 f314:=Tryz.func212.trans (congrArg some (by kernel_rfl))
 t0:=Tryz.underlying0
 a0:=Tryz.isAgg0
 z0:=Tryz.sizeOf0
 v0:=Tryz.zeroValue0
 t3:=Tryz.underlying3
 a3:=Tryz.isAgg3
 z3:=Tryz.sizeOf3
 v3:=Tryz.zeroValue3
 t4:=Tryz.underlying4
 a4:=Tryz.isAgg4
 z4:=Tryz.sizeOf4
 v4:=Tryz.zeroValue4
 t5:=Tryz.underlying5
 a5:=Tryz.isAgg5
 z5:=Tryz.sizeOf5
 v5:=Tryz.zeroValue5
 t9:=Tryz.underlying9
 a9:=Tryz.isAgg9
 z9:=Tryz.sizeOf9
 v9:=Tryz.zeroValue9
 t46:=Tryz.underlying178
 a46:=Tryz.isAgg178
 z46:=Tryz.sizeOf178
 v46:=Tryz.zeroValue178
 t51:=Tryz.underlying221
 a51:=Tryz.isAgg221
 z51:=Tryz.sizeOf221
 v51:=Tryz.zeroValue221
 t146:=Tryz.underlying222
 a146:=Tryz.isAgg222
 z146:=Tryz.sizeOf222
 v146:=Tryz.zeroValue222
 g1:=by kernel_rfl }
open Go.RowKit Go.Lib
/-- The first place of a byte. -/
def ixB:List AV->Option AV
 | [.st s,.v (.int .u8 c)]=>some (.v (.int .i64 (Lib.indexByte s c.toNat.toUInt8)))
 | _=>none
theorem XZ {E:Env}(hE:EnvOk E) (hP:E.P=Tryz.prog):EnvOk (E.withX 194 ixB):=by
 refine hE.withX (hP ▸ ⟨Tryz.call194⟩) fun xs x h w Z us _ _ hv=>?_
 unfold ixB at h
 split at h
 ·next s c =>
  injection h with h
  subst h
  obtain ⟨u1,r1,rfl,h1,hv⟩:=hv.head
  obtain ⟨u2,r2,rfl,h2,hv⟩:=hv.head
  have:r2=[]:=List.eq_nil_of_length_eq_zero hv.len
  subst this
  have e2:=h2.v_inv
  subst e2
  cases h1 with
  | st hs hn =>
   rename_i sb
   rw [hP]
   refine Calls.mono (Any.stringslite_IndexByte V9 sb c w) fun e w' he=>?_
   obtain ⟨rfl,rfl⟩:=he
   exact ⟨NR _,by rw [hs]; exact .v rfl⟩
 ·cases h
/-- How often a byte stands in a string. -/
def Yq:List AV->Option AV
 | [.st s,.st [c]]=>some (.v (.int .i64 (Lib.countByte s c)))
 | _=>none
theorem Vk {E:Env}(hE:EnvOk E) (hP:E.P=Tryz.prog):EnvOk (E.withX 199 Yq):=by
 refine hE.withX (hP ▸ ⟨Tryz.call199⟩) fun xs x h w Z us _ _ hv=>?_
 unfold Yq at h
 split at h
 ·next s c =>
  injection h with h
  subst h
  obtain ⟨u1,r1,rfl,h1,hv⟩:=hv.head
  obtain ⟨u2,r2,rfl,h2,hv⟩:=hv.head
  have:r2=[]:=List.eq_nil_of_length_eq_zero hv.len
  subst this
  obtain ⟨sb,rfl,hs⟩:∃ sb,u1 = .string sb/\sb.data.toList=s:=by cases h1 with | st h _=>exact ⟨_,rfl,h⟩
  obtain ⟨sc,rfl,hs2⟩:∃ sc,u2 = .string sc/\sc.data.toList=[c]:=by cases h2 with | st h _=>exact ⟨_,rfl,h⟩
  have e:sc=ByteArray.mk #[c]:=by
   obtain ⟨d⟩:=sc
   congr 1
   apply Array.ext'
   exact hs2
  subst e
  rw [hP]
  refine Calls.mono (Any.strings_Count_one V8 sb c w) fun e w' he=>?_
  obtain ⟨rfl,rfl⟩:=he
  exact ⟨NR _,by rw [hs]; exact .v rfl⟩
 ·cases h
/-- A call of a function that defers one closure: the closure, how many captures it has, what is handed back. -/
def Vn (E:Env) (n:Nat) (fn:Func) (args:List AV):Option (FuncId×Nat×AV×Hp):=match fn.body with
 | some (.seq A (.seq B (.seq (.region _ ops false) rest)))=>match ops.toList with
  | [o1,o2]=>match o1.guard,o2.guard,o2.dst,o2.op with
   | none,none,none,.defer ⟨.value p,dargs,_⟩ =>
    if dargs.size=0/\Cg A=true/\Cg B=true/\Cg rest=true then
     match evC E n ⟨none,false⟩ A ⟨args.map some++List.replicate (fn.ntmps - args.length) (some (.tp [])),[]⟩ with
     | some (.normal,s1)=>match evC E n ⟨none,false⟩ B s1 with
      | some (.normal,s2)=>match op1 E (evC E n) ⟨none,false⟩ o1 s2 with
       | some s3=>match opA E s3.fr p with
        | some (.fn g [] cs)=>match evC E n ⟨none,false⟩ rest s3 with
         | some (.normal,s4)=>(Em E.P s4.fr s4.hp fn.results.toList).map fun xs=>(g,cs.length,Ev xs,s4.hp)
         | some (.ret,s4)=>(Em E.P s4.fr s4.hp fn.results.toList).map fun xs=>(g,cs.length,Ev xs,s4.hp)
         | _=>none
        | _=>none
       | none=>none
      | _=>none
     | _=>none
    else none
   | _,_,_,_=>none
  | _=>none
 | _=>none
theorem Qd {E:Env}(hE:EnvOk E){n:Nat}{f:FuncId}{fn:Func}{args:List AV}{g m:Nat}{x:AV}{h':Hp}(hf:E.P.funcs[f]? = some fn) (hcl:Bu E.P g) (hdef:∀ us:List Value,us.length=m->Rp E.P g us) (e:Vn E n fn args=some (g,m,x,h')){w:World}{Z:Nat->Prop}{us:List Value}(hz:∀ c,Z c->c < w.heap.size) (hg:GI E w Z) (hv:VRs w Z [] args us):Pd E f us w Z [] [] x h':=by
 unfold Vn at e
 split at e
 ·next A B id ops rest hb =>
  split at e
  ·next o1 o2 hops =>
   split at e
   ·next p dargs tys hg1 hg2 hd2 ho2 =>
    split at e
    ·next hc =>
     obtain ⟨c1,c2,c3,c4⟩:=hc
     have hops':ops=#[o1,o2]:=by apply Array.ext'; exact hops
     have hda:dargs=#[]:=Array.eq_empty_of_size_eq_zero c1
     subst hops' hda
     split at e
     ·next s1 e1 =>
      split at e
      ·next s2 e2 =>
       split at e
       ·next s3 e3 =>
        split at e
        ·next g' cs hp =>
         split at e
         ·next s4 e4 =>
          obtain ⟨xs,hxs,hxe⟩:=Option.map_eq_some_iff.1 e
          injection hxe with k1 k2; injection k2 with k2 k3; injection k3 with k3 k4
          subst k1 k2 k3 k4
          exact Pp hE hf hb c2 c3 c4 e1 e2 hg1 e3 hg2 ho2 hd2 hp e4 (.inl rfl) hxs hcl hdef (hr_nil hz) hv hg
         ·next s4 e4 =>
          obtain ⟨xs,hxs,hxe⟩:=Option.map_eq_some_iff.1 e
          injection hxe with k1 k2; injection k2 with k2 k3; injection k3 with k3 k4
          subst k1 k2 k3 k4
          exact Pp hE hf hb c2 c3 c4 e1 e2 hg1 e3 hg2 ho2 hd2 hp e4 (.inr rfl) hxs hcl hdef (hr_nil hz) hv hg
         ·cases e
        ·cases e
       ·cases e
      ·cases e
     ·cases e
    ·cases e
   ·cases e
  ·cases e
 ·cases e
/-- .. as a contract. -/
def dfX (E:Env) (n:Nat) (fn:Func) (g m:Nat) (args:List AV):Option AV:=match Vn E n fn args with
 | some (g',m',x,h')=>if g'=g/\m'=m then SI h' x else none
 | none=>none
theorem XQ {E:Env}(hE:EnvOk E){n:Nat}{f:FuncId}{fn:Func}{g m:Nat}(hf:E.P.funcs[f]? = some fn) (hc:Bu E.P f) (hcl:Bu E.P g) (hdef:∀ us:List Value,us.length=m->Rp E.P g us):EnvOk (E.withX f (dfX E n fn g m)):=by
 refine hE.withX hc fun xs y h w Z us hz hgi hv=>?_
 unfold dfX at h
 split at h
 ·next g' m' x h' e =>
  split at h
  ·next hgm =>
   obtain ⟨rfl,rfl⟩:=hgm
   exact frz_ret (Qd hE hf hcl hdef e hz hgi hv) h
  ·cases h
 ·cases h
noncomputable def E1:Env:=(E0.withX 194 ixB).withX 199 Yq
theorem W2:EnvOk E1:=Vk (XZ AC rfl) rfl
theorem Xr (us:List Value) (hl:us.length=2):Rp E1.P 124 us :=
 XP (E:=E1) (s1:=(Lq E1 (match Tryz.f124.body with | some (.seq (.region _ ops _) _)=>ops.toList | _=>[]) ⟨List.replicate Tryz.f124.ntmps none,[]⟩).getD ⟨[],[]⟩) (s2:=(Lq E1 (match Tryz.f124.body with | some (.seq _ (.seq (.region _ ops _) _))=>ops.toList | _=>[]) ((Lq E1 (match Tryz.f124.body with | some (.seq (.region _ ops _) _)=>ops.toList | _=>[]) ⟨List.replicate Tryz.f124.ntmps none,[]⟩).getD ⟨[],[]⟩)).getD ⟨[],[]⟩)
  (fun _=>rfl) Tryz.func124 rfl rfl (by kernel_rfl) (by kernel_rfl) (by kernel_rfl) (by rw [hl]; decide)
noncomputable def E2:Env:=E1.withX 72 (dfX E1 3000 Tryz.f72 124 2)
theorem YV:EnvOk E2:=XQ W2 Tryz.func72 ⟨Tryz.call72⟩ ⟨Tryz.call124⟩ Xr
def exC:List AV:=[.ag [.v (.int .u8 1),.st [],.v (.bool false),.sl 1 [.st [100,117,107,101],.st [99,111,117,110,116]],.v (.int .i64 0)],.ag [.v (.int .u8 2),.st [100,117,107,101],.v (.bool false),.e0,.v (.int .i64 0)],.ag [.v (.int .u8 4),.st [],.v (.bool false),.e0,.v (.int .i64 1)],.ag [.v (.int .u8 8),.st [],.v (.bool false),.e0,.v (.int .i64 0)]]
def exG:List AV:=[.ag [.st [97,100,97],.st [99,111,117,110,116],.st [],.v (.int .i64 0),.v (.int .i64 2),.st [],.v (.bool false),.v (.bool false),.e0],.ag [.st [98,101,97],.st [100,117,107,101],.st [],.v (.int .i64 1700),.v (.int .i64 0),.st [],.v (.bool false),.v (.bool false),.e0],.ag [.st [99,121,114],.st [100,117,107,101],.st [],.v (.int .i64 1650),.v (.int .i64 0),.st [],.v (.bool false),.v (.bool false),.e0],.ag [.st [100,97,110],.st [],.st [],.v (.int .i64 0),.v (.int .i64 1),.st [],.v (.bool false),.v (.bool false),.e0],.ag [.st [101,118,97],.st [99,111,117,110,116],.st [],.v (.int .i64 0),.v (.int .i64 1),.st [],.v (.bool false),.v (.bool false),.e0]]
def i4 (n:Int):AV:= .v (.int .i64 n)
def exT:List UInt8:=[114,97,110,107,32,100,117,107,101,32,99,111,117,110,116,10,97,109,111,110,103,32,100,117,107,101,32,101,108,100,101,114,10,115,105,100,101,32,49,32,102,105,114,115,116,10,110,97,109,101,10]
end Go.Proofs.YtlalcoehgkmhlaaGreatDoor
