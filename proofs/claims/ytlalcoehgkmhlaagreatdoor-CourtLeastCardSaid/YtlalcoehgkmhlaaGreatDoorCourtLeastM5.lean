/- Lemmas for the proof. -/
import Derived.Test.YtlalcoehgkmhlaaGreatDoorCourtLeastM1
import Derived.Test.YtlalcoehgkmhlaaGreatDoorCourtLeastM2
import Derived.Test.YtlalcoehgkmhlaaGreatDoorCourtLeastM3
import Derived.Test.YtlalcoehgkmhlaaGreatDoorCourtLeastM4
import Derived.RecoverIn
import Derived.Shelf.Strings.Search1
import Derived.Shelf.Strings.Count
set_option maxHeartbeats 4000000
set_option maxRecDepth 100000
namespace Go.Proofs.YtlalcoehgkmhlaaGreatDoor
open Go.RowKit
/- trestle/court.named$1 -/
noncomputable def EG:Code:=Bn Tryz.f206
def Av (x0:Ad) (x1:AE) (x2:AE):Option (Int) :=
 (Ez x0 x1).bind fun v1 =>
 if (!(v1==x2.2.2.1))=true then
 some 0
 else
 some 1
def Cz:Cs (Ad×AE×AE×Unit):=(csC AF (csC (cdP (cdF 186 (csE (cdP AA)) (fun _=>rfl))) (csC (cdP AA) csN)))
def C3 (r:Int):AV:=cdI.enc r
theorem GU (x0:Ad) (x1:AE) (x2:AE) (r:Int) (h:Av x0 x1 x2=some r):Sem E0 ⟨none,false⟩ EG ⟨Fr 11 (BK 0 (Cz.enc (x0,x1,x2,()))),[]⟩ fun e s'=>(e = .normal\/e = .ret)/\∃ xs,Ej E0.P s'.fr s'.hp Tryz.f206.results.toList=some xs/\Eu xs=C3 r:=by
 unfold Av at h
 let p1:Nat×AV:=(2,.pe (AA.enc x2) 0)
 let p2:Nat×AV:=(1,.pe (.fn 186 [] [.pe (AA.enc x1) 0]) 0)
 refine A3 (Bo (s1:=⟨Fr 11 [(0,AF.enc x0),p2,p1],[]⟩) AO ?_)
 let p3:Option Blk:=some ⟨10,115,[AF.enc x0],false⟩
 refine AJ AC [p2,p1,(3,.pt 0 0 0)] [p3] ?_;refine AG ?_;refine AG ?_;obtain ⟨v1,hv1,h⟩:=OB h
 let p4:Nat×AV:=(10,.v (.bool (!(v1==x2.2.2.1))))
 refine FN AC (s1:=⟨Fr 11 [p4],[]⟩) kr ?_ ?_
 ·refine BR (n:=11) AC 2 [p1,(5,.fn 186 [] [.pe (AA.enc x1) 0]),(6,AF.enc x0)] [p3] kr kr ?_
  refine B5 (caps:=[.pe (AA.enc x1) 0]) (xs:=[AF.enc x0]) (u:=(x0,x1,())) rfl rfl Ni rfl (AB rfl) kr kr (AU (Ao (c:=AF) (v:=x0)) (AU (Ao (c:=(cdP AA)) (v:=x1)) Bf)) kr hv1 ?_;refine BR (n:=11) AC 3 [p4] [p3] kr kr ?_;exact RunDS.done rfl (AZ [] trivial ⟨lv,trivial⟩)
 refine AM (b:=(!(v1==x2.2.2.1))) kr (fun hb2=>?_) (fun hb2=>?_)
 ·rw [if_pos hb2] at h
  refine AJ AC [(4,.v (.int .i64 0))] [] ?_;refine AT ?_;have hq:=OI h; subst hq;exact ⟨⟨Fr 11 [(4,.v (.int .i64 0))],[]⟩,AO,.inr rfl,[.v (.int .i64 0)],kr,kr⟩
 ·rw [CK hb2] at h
  refine AP ?_;refine AJ AC [(4,.v (.int .i64 1))] [] ?_;refine AT ?_;have hq:=OI h; subst hq;exact ⟨⟨Fr 11 [(4,.v (.int .i64 1))],[]⟩,AO,.inr rfl,[.v (.int .i64 1)],kr,kr⟩
def Gv:List AV->Option AV:=EA Cz (fun a=>Av a.1 a.2.1 a.2.2.1) C3
theorem G3:XOk 206 Gv:=by
 refine AW Tryz.func206 (c:=EG) ?h2 ⟨Tryz.call206⟩ Cz (fun a=>Av a.1 a.2.1 a.2.2.1) C3 (fun a=>(by show 3<=11; decide)) ?h3 ?h4
 case h2=>kernel_rfl
 case h3=>intro b; kernel_rfl
 case h4=>exact fun a b h=>GU a.1 a.2.1 a.2.2.1 b h
/- trestle/court.placed$1 -/
noncomputable def IZ:Code:=Bn Tryz.f208
def CG (x0:Int):Option (Bool) :=
 (if (decide (x0≥0))=true then some (decide (x0<=63)) else some false).bind fun j2 =>
 some j2
def Gc:Cs (Int×Unit):=(csC cdI csN)
def Gd (r:Bool):AV:=cdB.enc r
theorem Kx (x0:Int) (r:Bool) (h:CG x0=some r):Sem E0 ⟨none,false⟩ IZ ⟨Fr 9 (BK 0 (Gc.enc (x0,()))),[]⟩ fun e s'=>(e = .normal\/e = .ret)/\∃ xs,Ej E0.P s'.fr s'.hp Tryz.f208.results.toList=some xs/\Eu xs=Gd r:=by
 unfold CG at h;refine A3 (Bo (s1:=⟨Fr 9 [(0,.v (.int .i64 x0))],[]⟩) AO ?_);refine AJ AC [(0,.v (.int .i64 x0))] [] ?_;refine AG ?_;obtain ⟨j2,hj2,h⟩:=OB h;refine AH (s1:=⟨Fr 9 [(2,.v (.bool j2))],[]⟩) ?_ ?_
 ·refine AD (n:=9) AC 3 [(0,.v (.int .i64 x0)),(5,.v (.bool (decide (x0≥0))))] [] kr ?_
  rcases BE (decide (x0≥0)) with hc3 | hc3
  ·rw [if_pos hc3] at hj2
   rw [hc3];refine AD (n:=9) AC 4 [(2,.v (.bool (decide (x0<=63))))] [] kr ?_;have hq:=OI hj2; subst hq;exact AL rfl AO
  ·rw [CK hc3] at hj2
   rw [hc3];refine AD (n:=9) AC 4 [(2,.v (.bool false))] [] kr ?_;have hq:=OI hj2; subst hq;exact AL rfl AO
 refine AT ?_;have hq:=OI h; subst hq;exact ⟨⟨Fr 9 [(2,.v (.bool j2))],[]⟩,AO,.inr rfl,[.v (.bool j2)],kr,kr⟩
def ML:List AV->Option AV:=EA Gc (fun a=>CG a.1) Gd
theorem FY:XOk 208 ML:=by
 refine AW Tryz.func208 (c:=IZ) ?h2 ⟨Tryz.call208⟩ Gc (fun a=>CG a.1) Gd (fun a=>(by show 1<=9; decide)) ?h3 ?h4
 case h2=>kernel_rfl
 case h3=>intro b; kernel_rfl
 case h4=>exact fun a b h=>Kx a.1 b h
/- trestle/court.plain$8 -/
noncomputable def JK:Code:=Bn Tryz.f190
def DQ (x0:Int) (x1:AE):Option (Int) :=
 some ((wr .i64 ((wr .i64 (x0 * (wr .i64 ((wr .i64 (2 * x1.2.2.2.2)) + 1)))) + x1.2.2.2.2)).tmod 64)
def HG:Cs (Int×AE×Unit):=(csC cdI (csC (cdP AA) csN))
def HU (r:Int):AV:=cdI.enc r
theorem LX (x0:Int) (x1:AE) (r:Int) (h:DQ x0 x1=some r):Sem E0 ⟨none,false⟩ JK ⟨Fr 14 (BK 0 (HG.enc (x0,x1,()))),[]⟩ fun e s'=>(e = .normal\/e = .ret)/\∃ xs,Ej E0.P s'.fr s'.hp Tryz.f190.results.toList=some xs/\Eu xs=HU r:=by
 unfold DQ at h;refine A3 (Bo (s1:=⟨Fr 14 [(0,.v (.int .i64 x0)),(1,.pe (AA.enc x1) 0)],[]⟩) AO ?_);refine AJ AC [(0,.v (.int .i64 x0)),(1,.pe (AA.enc x1) 0)] [] ?_
 let p1:Nat×AV:=(3,.v (.int .i64 ((wr .i64 ((wr .i64 (x0 * (wr .i64 ((wr .i64 (2 * x1.2.2.2.2)) + 1)))) + x1.2.2.2.2)).tmod 64)))
 refine AJ AC [p1] [] ?_;refine AT ?_;have hq:=OI h; subst hq;exact ⟨⟨Fr 14 [p1],[]⟩,AO,.inr rfl,[.v (.int .i64 ((wr .i64 ((wr .i64 (x0 * (wr .i64 ((wr .i64 (2 * x1.2.2.2.2)) + 1)))) + x1.2.2.2.2)).tmod 64))],kr,kr⟩
def NT:List AV->Option AV:=EA HG (fun a=>DQ a.1 a.2.1) HU
theorem J8:XOk 190 NT:=by
 refine AW Tryz.func190 (c:=JK) ?h2 ⟨Tryz.call190⟩ HG (fun a=>DQ a.1 a.2.1) HU (fun a=>(by show 2<=14; decide)) ?h3 ?h4
 case h2=>kernel_rfl
 case h3=>intro b; kernel_rfl
 case h4=>exact fun a b h=>LX a.1 a.2.1 b h
/- trestle/court.placed$2 -/
noncomputable def CP:Code:=Bn Tryz.f209
def Ab (x0:Ad) (x1:Ad) (x3:AE):Option (Int) :=
 (CG x0.2).bind fun v1 =>
 (if (!v1)=true then some true else (CG x1.2).bind fun v2 =>
 some (!v2)).bind fun j4 =>
 if j4=true then
 some 0
 else
 (DQ x0.2 x3).bind fun v6 =>
 (DQ x1.2 x3).bind fun v7 =>
 (BU v6 v7).bind fun v8 =>
 some v8
def BX:Cs (Ad×Ad×Unit×AE×Unit):=(csC AF (csC AF (csC (cdP (cdF 208 csN (fun _=>rfl))) (csC (cdP (cdF 190 (csE (cdP AA)) (fun _=>rfl))) csN))))
def Ba (r:Int):AV:=cdI.enc r
theorem Dm (x0:Ad) (x1:Ad) (x3:AE) (r:Int) (h:Ab x0 x1 x3=some r):Sem E0 ⟨none,false⟩ CP ⟨Fr 28 (BK 0 (BX.enc (x0,x1,(),x3,()))),[]⟩ fun e s'=>(e = .normal\/e = .ret)/\∃ xs,Ej E0.P s'.fr s'.hp Tryz.f209.results.toList=some xs/\Eu xs=Ba r:=by
 unfold Ab at h;refine A3 (Bo (s1:=⟨Fr 28 [(0,AF.enc x0),(1,AF.enc x1),(2,.pe (.fn 208 [] []) 0),(3,.pe (.fn 190 [] [.pe (AA.enc x3) 0]) 0)],[]⟩) AO ?_);refine AJ AC [(2,.pe (.fn 208 [] []) 0),(3,.pe (.fn 190 [] [.pe (AA.enc x3) 0]) 0),(4,.pt 0 0 0),(5,.pt 1 0 0)] [some ⟨10,115,[AF.enc x0],false⟩,some ⟨10,115,[AF.enc x1],false⟩] ?_;refine AG ?_;refine AG ?_;obtain ⟨v1,hv1,h⟩:=OB h;obtain ⟨j4,hj4,h⟩:=OB h;refine AH (s1:=⟨Fr 28 [(3,.pe (.fn 190 [] [.pe (AA.enc x3) 0]) 0),(4,.pt 0 0 0),(5,.pt 1 0 0),(18,.v (.bool j4))],[some ⟨10,115,[AF.enc x0],false⟩,some ⟨10,115,[AF.enc x1],false⟩]⟩) ?_ ?_
 ·refine AD (n:=28) AC 3 [(2,.pe (.fn 208 [] []) 0),(3,.pe (.fn 190 [] [.pe (AA.enc x3) 0]) 0),(4,.pt 0 0 0),(5,.pt 1 0 0),(7,.fn 208 [] []),(9,.v (.int .i64 x0.2))] [some ⟨10,115,[AF.enc x0],false⟩,some ⟨10,115,[AF.enc x1],false⟩] kr ?_
  refine Ai (caps:=[]) (xs:=[.v (.int .i64 x0.2)]) (u:=(x0.2,())) rfl rfl FY rfl (AB rfl) kr kr (AU (Ao (c:=cdI) (v:=x0.2)) Bf) (.inl kr) hv1 ?_;refine AD (n:=28) AC 2 [(2,.pe (.fn 208 [] []) 0),(3,.pe (.fn 190 [] [.pe (AA.enc x3) 0]) 0),(4,.pt 0 0 0),(5,.pt 1 0 0),(12,.v (.bool (!v1)))] [some ⟨10,115,[AF.enc x0],false⟩,some ⟨10,115,[AF.enc x1],false⟩] kr ?_;rcases BE (!v1) with hc9 | hc9
  ·rw [if_pos hc9] at hj4
   rw [hc9];refine AD (n:=28) AC 6 [(3,.pe (.fn 190 [] [.pe (AA.enc x3) 0]) 0),(4,.pt 0 0 0),(5,.pt 1 0 0),(18,.v (.bool true))] [some ⟨10,115,[AF.enc x0],false⟩,some ⟨10,115,[AF.enc x1],false⟩] kr ?_;have hq:=OI hj4; subst hq;exact AL rfl (AZ [0,1] ⟨⟨_,rfl,Cn⟩,⟨_,rfl,Cn⟩,trivial⟩ ⟨lv,lv,lv,lv,trivial⟩)
  ·rw [CK hc9] at hj4
   rw [hc9];refine AD (n:=28) AC 3 [(3,.pe (.fn 190 [] [.pe (AA.enc x3) 0]) 0),(4,.pt 0 0 0),(5,.pt 1 0 0),(12,.v (.bool false)),(13,.fn 208 [] []),(15,.v (.int .i64 x1.2))] [some ⟨10,115,[AF.enc x0],false⟩,some ⟨10,115,[AF.enc x1],false⟩] kr ?_;obtain ⟨v2,hv2,hj4⟩:=OB hj4;refine Ai (caps:=[]) (xs:=[.v (.int .i64 x1.2)]) (u:=(x1.2,())) rfl rfl FY rfl kr kr kr (AU (Ao (c:=cdI) (v:=x1.2)) Bf) (.inl kr) hv2 ?_;refine AD (n:=28) AC 2 [(3,.pe (.fn 190 [] [.pe (AA.enc x3) 0]) 0),(4,.pt 0 0 0),(5,.pt 1 0 0),(18,.v (.bool (!v2)))] [some ⟨10,115,[AF.enc x0],false⟩,some ⟨10,115,[AF.enc x1],false⟩] kr ?_;have hq:=OI hj4; subst hq;exact AL rfl (AZ [0,1] ⟨⟨_,rfl,Cn⟩,⟨_,rfl,Cn⟩,trivial⟩ ⟨lv,lv,lv,lv,trivial⟩)
 refine AM (b:=j4) kr (fun hb5=>?_) (fun hb5=>?_)
 ·rw [if_pos hb5] at h
  refine AG ?_;refine AH (s1:=⟨Fr 28 [(6,.v (.int .i64 0))],[]⟩) ?_ ?_
  ·refine AD (n:=28) AC 1 [(6,.v (.int .i64 0))] [some ⟨10,115,[AF.enc x0],false⟩,some ⟨10,115,[AF.enc x1],false⟩] kr ?_
   exact AL rfl (AZ [] trivial ⟨lv,trivial⟩)
  refine AT ?_;have hq:=OI h; subst hq;exact ⟨⟨Fr 28 [(6,.v (.int .i64 0))],[]⟩,AO,.inr rfl,[.v (.int .i64 0)],kr,kr⟩
 ·rw [CK hb5] at h
  refine AP ?_;refine AG ?_;obtain ⟨v6,hv6,h⟩:=OB h;obtain ⟨v7,hv7,h⟩:=OB h;obtain ⟨v8,hv8,h⟩:=OB h;refine FN AC (s1:=⟨Fr 28 [(6,.v (.int .i64 v8))],[]⟩) kr ?_ ?_
  ·refine BR (n:=28) AC 3 [(3,.pe (.fn 190 [] [.pe (AA.enc x3) 0]) 0),(5,.pt 1 0 0),(19,.fn 190 [] [.pe (AA.enc x3) 0]),(21,.v (.int .i64 x0.2))] [some ⟨10,115,[AF.enc x0],false⟩,some ⟨10,115,[AF.enc x1],false⟩] kr kr ?_
   refine B5 (caps:=[.pe (AA.enc x3) 0]) (xs:=[.v (.int .i64 x0.2)]) (u:=(x0.2,x3,())) rfl rfl J8 rfl (AB rfl) kr kr (AU (Ao (c:=cdI) (v:=x0.2)) (AU (Ao (c:=(cdP AA)) (v:=x3)) Bf)) kr hv6 ?_;refine BR (n:=28) AC 3 [(22,.v (.int .i64 v6)),(23,.fn 190 [] [.pe (AA.enc x3) 0]),(25,.v (.int .i64 x1.2))] [some ⟨10,115,[AF.enc x0],false⟩,some ⟨10,115,[AF.enc x1],false⟩] kr kr ?_;refine B5 (caps:=[.pe (AA.enc x3) 0]) (xs:=[.v (.int .i64 x1.2)]) (u:=(x1.2,x3,())) rfl rfl J8 rfl (AB rfl) kr kr (AU (Ao (c:=cdI) (v:=x1.2)) (AU (Ao (c:=(cdP AA)) (v:=x3)) Bf)) kr hv7 ?_;refine B5 (caps:=[]) (xs:=[.v (.int .i64 v6),.v (.int .i64 v7)]) (u:=(v6,v7,())) rfl rfl Da rfl (AB rfl) kr kr (AU (Ao (c:=cdI) (v:=v6)) (AU (Ao (c:=cdI) (v:=v7)) Bf)) kr hv8 ?_;refine BR (n:=28) AC 1 [(6,.v (.int .i64 v8))] [some ⟨10,115,[AF.enc x0],false⟩,some ⟨10,115,[AF.enc x1],false⟩] kr kr ?_;exact RunDS.done rfl (AZ [] trivial ⟨lv,trivial⟩)
  refine AT ?_;have hq:=OI h; subst hq;exact ⟨⟨Fr 28 [(6,.v (.int .i64 v8))],[]⟩,AO,.inr rfl,[.v (.int .i64 v8)],kr,kr⟩
def D2:List AV->Option AV:=EA BX (fun a=>Ab a.1 a.2.1 a.2.2.2.1) Ba
theorem D5:XOk 209 D2:=by
 refine AW Tryz.func209 (c:=CP) ?h2 ⟨Tryz.call209⟩ BX (fun a=>Ab a.1 a.2.1 a.2.2.2.1) Ba (fun a=>(by show 4<=28; decide)) ?h3 ?h4
 case h2=>kernel_rfl
 case h3=>intro b; kernel_rfl
 case h4=>exact fun a b h=>Dm a.1 a.2.1 a.2.2.2.1 b h
/- trestle/court.plain$9 -/
noncomputable def JL:Code:=Bn Tryz.f191
def EW (x0:Int):Option (Int) :=
 some x0
def HH:Cs (Int×Unit):=(csC cdI csN)
def HV (r:Int):AV:=cdI.enc r
theorem LY (x0:Int) (r:Int) (h:EW x0=some r):Sem E0 ⟨none,false⟩ JL ⟨Fr 4 (BK 0 (HH.enc (x0,()))),[]⟩ fun e s'=>(e = .normal\/e = .ret)/\∃ xs,Ej E0.P s'.fr s'.hp Tryz.f191.results.toList=some xs/\Eu xs=HV r:=by
 unfold EW at h;refine A3 (Bo (s1:=⟨Fr 4 [(0,.v (.int .i64 x0))],[]⟩) AO ?_);refine AJ AC [(0,.v (.int .i64 x0))] [] ?_;refine AJ AC [(2,.v (.int .i64 x0))] [] ?_;refine AT ?_;have hq:=OI h; subst hq;exact ⟨⟨Fr 4 [(2,.v (.int .i64 x0))],[]⟩,AO,.inr rfl,[.v (.int .i64 x0)],kr,kr⟩
def NU:List AV->Option AV:=EA HH (fun a=>EW a.1) HV
theorem J9:XOk 191 NU:=by
 refine AW Tryz.func191 (c:=JL) ?h2 ⟨Tryz.call191⟩ HH (fun a=>EW a.1) HV (fun a=>(by show 1<=4; decide)) ?h3 ?h4
 case h2=>kernel_rfl
 case h3=>intro b; kernel_rfl
 case h4=>exact fun a b h=>LY a.1 b h
/- trestle/court.placed$2 -/
noncomputable def CQ:Code:=Bn Tryz.f209
def Ac (x0:Ad) (x1:Ad):Option (Int) :=
 (CG x0.2).bind fun v1 =>
 (if (!v1)=true then some true else (CG x1.2).bind fun v2 =>
 some (!v2)).bind fun j4 =>
 if j4=true then
 some 0
 else
 (EW x0.2).bind fun v6 =>
 (EW x1.2).bind fun v7 =>
 (BU v6 v7).bind fun v8 =>
 some v8
def BY:Cs (Ad×Ad×Unit×Unit×Unit):=(csC AF (csC AF (csC (cdP (cdF 208 csN (fun _=>rfl))) (csC (cdP (cdF 191 csN (fun _=>rfl))) csN))))
def Bb (r:Int):AV:=cdI.enc r
theorem Dn (x0:Ad) (x1:Ad) (r:Int) (h:Ac x0 x1=some r):Sem E0 ⟨none,false⟩ CQ ⟨Fr 28 (BK 0 (BY.enc (x0,x1,(),(),()))),[]⟩ fun e s'=>(e = .normal\/e = .ret)/\∃ xs,Ej E0.P s'.fr s'.hp Tryz.f209.results.toList=some xs/\Eu xs=Bb r:=by
 unfold Ac at h;refine A3 (Bo (s1:=⟨Fr 28 [(0,AF.enc x0),(1,AF.enc x1),(2,.pe (.fn 208 [] []) 0),(3,.pe (.fn 191 [] []) 0)],[]⟩) AO ?_);refine AJ AC [(2,.pe (.fn 208 [] []) 0),(3,.pe (.fn 191 [] []) 0),(4,.pt 0 0 0),(5,.pt 1 0 0)] [some ⟨10,115,[AF.enc x0],false⟩,some ⟨10,115,[AF.enc x1],false⟩] ?_;refine AG ?_;refine AG ?_;obtain ⟨v1,hv1,h⟩:=OB h;obtain ⟨j4,hj4,h⟩:=OB h;refine AH (s1:=⟨Fr 28 [(3,.pe (.fn 191 [] []) 0),(4,.pt 0 0 0),(5,.pt 1 0 0),(18,.v (.bool j4))],[some ⟨10,115,[AF.enc x0],false⟩,some ⟨10,115,[AF.enc x1],false⟩]⟩) ?_ ?_
 ·refine AD (n:=28) AC 3 [(2,.pe (.fn 208 [] []) 0),(3,.pe (.fn 191 [] []) 0),(4,.pt 0 0 0),(5,.pt 1 0 0),(7,.fn 208 [] []),(9,.v (.int .i64 x0.2))] [some ⟨10,115,[AF.enc x0],false⟩,some ⟨10,115,[AF.enc x1],false⟩] kr ?_
  refine Ai (caps:=[]) (xs:=[.v (.int .i64 x0.2)]) (u:=(x0.2,())) rfl rfl FY rfl (AB rfl) kr kr (AU (Ao (c:=cdI) (v:=x0.2)) Bf) (.inl kr) hv1 ?_;refine AD (n:=28) AC 2 [(2,.pe (.fn 208 [] []) 0),(3,.pe (.fn 191 [] []) 0),(4,.pt 0 0 0),(5,.pt 1 0 0),(12,.v (.bool (!v1)))] [some ⟨10,115,[AF.enc x0],false⟩,some ⟨10,115,[AF.enc x1],false⟩] kr ?_;rcases BE (!v1) with hc9 | hc9
  ·rw [if_pos hc9] at hj4
   rw [hc9];refine AD (n:=28) AC 6 [(3,.pe (.fn 191 [] []) 0),(4,.pt 0 0 0),(5,.pt 1 0 0),(18,.v (.bool true))] [some ⟨10,115,[AF.enc x0],false⟩,some ⟨10,115,[AF.enc x1],false⟩] kr ?_;have hq:=OI hj4; subst hq;exact AL rfl (AZ [0,1] ⟨⟨_,rfl,Cn⟩,⟨_,rfl,Cn⟩,trivial⟩ ⟨lv,lv,lv,lv,trivial⟩)
  ·rw [CK hc9] at hj4
   rw [hc9];refine AD (n:=28) AC 3 [(3,.pe (.fn 191 [] []) 0),(4,.pt 0 0 0),(5,.pt 1 0 0),(12,.v (.bool false)),(13,.fn 208 [] []),(15,.v (.int .i64 x1.2))] [some ⟨10,115,[AF.enc x0],false⟩,some ⟨10,115,[AF.enc x1],false⟩] kr ?_;obtain ⟨v2,hv2,hj4⟩:=OB hj4;refine Ai (caps:=[]) (xs:=[.v (.int .i64 x1.2)]) (u:=(x1.2,())) rfl rfl FY rfl kr kr kr (AU (Ao (c:=cdI) (v:=x1.2)) Bf) (.inl kr) hv2 ?_;refine AD (n:=28) AC 2 [(3,.pe (.fn 191 [] []) 0),(4,.pt 0 0 0),(5,.pt 1 0 0),(18,.v (.bool (!v2)))] [some ⟨10,115,[AF.enc x0],false⟩,some ⟨10,115,[AF.enc x1],false⟩] kr ?_;have hq:=OI hj4; subst hq;exact AL rfl (AZ [0,1] ⟨⟨_,rfl,Cn⟩,⟨_,rfl,Cn⟩,trivial⟩ ⟨lv,lv,lv,lv,trivial⟩)
 refine AM (b:=j4) kr (fun hb5=>?_) (fun hb5=>?_)
 ·rw [if_pos hb5] at h
  refine AG ?_;refine AH (s1:=⟨Fr 28 [(6,.v (.int .i64 0))],[]⟩) ?_ ?_
  ·refine AD (n:=28) AC 1 [(6,.v (.int .i64 0))] [some ⟨10,115,[AF.enc x0],false⟩,some ⟨10,115,[AF.enc x1],false⟩] kr ?_
   exact AL rfl (AZ [] trivial ⟨lv,trivial⟩)
  refine AT ?_;have hq:=OI h; subst hq;exact ⟨⟨Fr 28 [(6,.v (.int .i64 0))],[]⟩,AO,.inr rfl,[.v (.int .i64 0)],kr,kr⟩
 ·rw [CK hb5] at h
  refine AP ?_;refine AG ?_;obtain ⟨v6,hv6,h⟩:=OB h;obtain ⟨v7,hv7,h⟩:=OB h;obtain ⟨v8,hv8,h⟩:=OB h;refine FN AC (s1:=⟨Fr 28 [(6,.v (.int .i64 v8))],[]⟩) kr ?_ ?_
  ·refine BR (n:=28) AC 3 [(3,.pe (.fn 191 [] []) 0),(5,.pt 1 0 0),(19,.fn 191 [] []),(21,.v (.int .i64 x0.2))] [some ⟨10,115,[AF.enc x0],false⟩,some ⟨10,115,[AF.enc x1],false⟩] kr kr ?_
   refine B5 (caps:=[]) (xs:=[.v (.int .i64 x0.2)]) (u:=(x0.2,())) rfl rfl J9 rfl (AB rfl) kr kr (AU (Ao (c:=cdI) (v:=x0.2)) Bf) kr hv6 ?_;refine BR (n:=28) AC 3 [(22,.v (.int .i64 v6)),(23,.fn 191 [] []),(25,.v (.int .i64 x1.2))] [some ⟨10,115,[AF.enc x0],false⟩,some ⟨10,115,[AF.enc x1],false⟩] kr kr ?_;refine B5 (caps:=[]) (xs:=[.v (.int .i64 x1.2)]) (u:=(x1.2,())) rfl rfl J9 rfl (AB rfl) kr kr (AU (Ao (c:=cdI) (v:=x1.2)) Bf) kr hv7 ?_;refine B5 (caps:=[]) (xs:=[.v (.int .i64 v6),.v (.int .i64 v7)]) (u:=(v6,v7,())) rfl rfl Da rfl (AB rfl) kr kr (AU (Ao (c:=cdI) (v:=v6)) (AU (Ao (c:=cdI) (v:=v7)) Bf)) kr hv8 ?_;refine BR (n:=28) AC 1 [(6,.v (.int .i64 v8))] [some ⟨10,115,[AF.enc x0],false⟩,some ⟨10,115,[AF.enc x1],false⟩] kr kr ?_;exact RunDS.done rfl (AZ [] trivial ⟨lv,trivial⟩)
  refine AT ?_;have hq:=OI h; subst hq;exact ⟨⟨Fr 28 [(6,.v (.int .i64 v8))],[]⟩,AO,.inr rfl,[.v (.int .i64 v8)],kr,kr⟩
def D3:List AV->Option AV:=EA BY (fun a=>Ac a.1 a.2.1) Bb
theorem D6:XOk 209 D3:=by
 refine AW Tryz.func209 (c:=CQ) ?h2 ⟨Tryz.call209⟩ BY (fun a=>Ac a.1 a.2.1) Bb (fun a=>(by show 4<=28; decide)) ?h3 ?h4
 case h2=>kernel_rfl
 case h3=>intro b; kernel_rfl
 case h4=>exact fun a b h=>Dn a.1 a.2.1 b h
theorem WF {f:FuncId}(hc:Bg E0.P f){α β:Type}(s:Cs α) (F:α->Option β) (er:β->AV) (h:∀ a b,F a=some b->∃ t,XOk f t/\t (s.enc a)=some (er b)):XOk f (EA s F er):=by
 refine ⟨hc,fun xs y hy w Z us hz hg hv=>?_⟩
 obtain ⟨a,ha,hy⟩:=OB hy
 obtain ⟨b,hb,rfl⟩:=Option.map_eq_some_iff.1 hy
 obtain ⟨t,hX,ht⟩:=h a b hb
 exact hX.2 _ _ ht w Z us hz hg (s.vr ha hv)
def De (a b:Ad) (c:AE):Option Int :=
 if (c.1==1)=true then BW (fun a b (v:(AE×Unit)×Unit)=>Bq (fun x (v:AE×Unit)=>C6 x v.1) a b v.1) a b c ((c,()),()) else
 if (c.1==2)=true then BW (fun a b (v:AE×Unit)=>CV a b v.1) a b c (c,()) else
 if (c.1==3)=true then BW (fun a b (v:AE×Unit)=>CV a b v.1) a b c (c,()) else
 if (c.1==4)=true then BW (fun a b (v:(AE×AE×Unit)×Unit)=>Bq (fun x (v:AE×AE×Unit)=>Ay x v.1 v.2.1) a b v.1) a b c ((c,c,()),()) else
 if (c.1==5)=true then BW (fun a b (v:(Unit×AE×Unit)×Unit)=>Bq (fun x (v:Unit×AE×Unit)=>Az x v.2.1) a b v.1) a b c (((),c,()),()) else
 if (c.1==6)=true then BW (fun a b (v:(AE×AE×Unit)×Unit)=>Bq (fun x (v:AE×AE×Unit)=>Au x v.1 v.2.1) a b v.1) a b c ((c,c,()),()) else
 if (c.1==7)=true then BW (fun a b (v:(AE×AE×Unit)×Unit)=>Bq (fun x (v:AE×AE×Unit)=>Av x v.1 v.2.1) a b v.1) a b c ((c,c,()),()) else
 if (c.1==8)=true then BW (fun a b (_:Unit)=>Dw a b) a b c () else
 if (c.1==10)=true then BW (fun a b (v:Unit×AE×Unit)=>Ab a b v.2.1) a b c ((),c,()) else
 BW (fun a b (_:Unit×Unit×Unit)=>Ac a b) a b c ((),(),())
noncomputable def F8:Cs (Ad×Ad×AE):=csC AF (csC AF PN)
noncomputable def H9 (r:Int):AV:=cdI.enc r
noncomputable def Ly:List AV->Option AV:=EA F8 (fun a=>De a.1 a.2.1 a.2.2) H9
theorem IX {α β:Type}{s:Cs α}{F:α->Option β}{er:β->AV}{a:α}{b:β}{xs:List AV}(h:F a=some b) (e:xs=s.enc a):EA s F er xs=some (er b):=e ▸ Mc h
theorem VJ (a b:Ad) (c:AE):F8.enc (a,b,c)=[AF.enc a,AF.enc b,.pe (AA.enc c) 0,.pe (Kz c) 0]:=rfl
theorem L3:XOk 165 Ly:=by
 refine WF ⟨Tryz.call165⟩ F8 (fun a=>De a.1 a.2.1 a.2.2) H9 fun x r h=>?_
 obtain ⟨a,b,c⟩:=x
 rw [VJ]
 dsimp only at h
 unfold De at h
 unfold Kz
 rcases BE (c.1==1) with h1 | h1
 ·rw [if_pos h1] at h; rw [if_pos h1]
  exact ⟨_,Bv (sx:=csC (cdP (cdF 178 (csC (cdP AA) csN) (fun _=>rfl))) csN) (hn:=fun _=>rfl) (G:=fun a b (v:(AE×Unit)×Unit)=>Bq (fun x (v:AE×Unit)=>C6 x v.1) a b v.1) (Gx (sx:=csC (cdP AA) csN) (hn:=fun _=>rfl) (G:=fun x (v:AE×Unit)=>C6 x v.1) Nd),IX (a:=(a,b,c,((c,()),()),())) h rfl⟩
 rw [if_neg (by rw [h1]; decide)] at h; rw [if_neg (by rw [h1]; decide)]
 rcases BE (c.1==2) with h1 | h1
 ·rw [if_pos h1] at h; rw [if_pos h1]
  exact ⟨_,Bv (sx:=csC (cdP AA) csN) (hn:=fun _=>rfl) (G:=fun a b (v:AE×Unit)=>CV a b v.1) J7,IX (a:=(a,b,c,(c,()),())) h rfl⟩
 rw [if_neg (by rw [h1]; decide)] at h; rw [if_neg (by rw [h1]; decide)]
 rcases BE (c.1==3) with h1 | h1
 ·rw [if_pos h1] at h; rw [if_pos h1]
  exact ⟨_,Bv (sx:=csC (cdP AA) csN) (hn:=fun _=>rfl) (G:=fun a b (v:AE×Unit)=>CV a b v.1) J7,IX (a:=(a,b,c,(c,()),())) h rfl⟩
 rw [if_neg (by rw [h1]; decide)] at h; rw [if_neg (by rw [h1]; decide)]
 rcases BE (c.1==4) with h1 | h1
 ·rw [if_pos h1] at h; rw [if_pos h1]
  exact ⟨_,Bv (sx:=csC (cdP (cdF 206 (csC (cdP (cdF 182 (csE (cdP AA)) (fun _=>rfl))) (csC (cdP AA) csN)) (fun _=>rfl))) csN) (hn:=fun _=>rfl) (G:=fun a b (v:(AE×AE×Unit)×Unit)=>Bq (fun x (v:AE×AE×Unit)=>Ay x v.1 v.2.1) a b v.1) (Gx (sx:=csC (cdP (cdF 182 (csE (cdP AA)) (fun _=>rfl))) (csC (cdP AA) csN)) (hn:=fun _=>rfl) (G:=fun x (v:AE×AE×Unit)=>Ay x v.1 v.2.1) Gy),IX (a:=(a,b,c,((c,c,()),()),())) h rfl⟩
 rw [if_neg (by rw [h1]; decide)] at h; rw [if_neg (by rw [h1]; decide)]
 rcases BE (c.1==5) with h1 | h1
 ·rw [if_pos h1] at h; rw [if_pos h1]
  exact ⟨_,Bv (sx:=csC (cdP (cdF 206 (csC (cdP (cdF 183 csN (fun _=>rfl))) (csC (cdP AA) csN)) (fun _=>rfl))) csN) (hn:=fun _=>rfl) (G:=fun a b (v:(Unit×AE×Unit)×Unit)=>Bq (fun x (v:Unit×AE×Unit)=>Az x v.2.1) a b v.1) (Gx (sx:=csC (cdP (cdF 183 csN (fun _=>rfl))) (csC (cdP AA) csN)) (hn:=fun _=>rfl) (G:=fun x (v:Unit×AE×Unit)=>Az x v.2.1) Gz),IX (a:=(a,b,c,(((),c,()),()),())) h rfl⟩
 rw [if_neg (by rw [h1]; decide)] at h; rw [if_neg (by rw [h1]; decide)]
 rcases BE (c.1==6) with h1 | h1
 ·rw [if_pos h1] at h; rw [if_pos h1]
  exact ⟨_,Bv (sx:=csC (cdP (cdF 206 (csC (cdP (cdF 184 (csE (cdP AA)) (fun _=>rfl))) (csC (cdP AA) csN)) (fun _=>rfl))) csN) (hn:=fun _=>rfl) (G:=fun a b (v:(AE×AE×Unit)×Unit)=>Bq (fun x (v:AE×AE×Unit)=>Au x v.1 v.2.1) a b v.1) (Gx (sx:=csC (cdP (cdF 184 (csE (cdP AA)) (fun _=>rfl))) (csC (cdP AA) csN)) (hn:=fun _=>rfl) (G:=fun x (v:AE×AE×Unit)=>Au x v.1 v.2.1) G0),IX (a:=(a,b,c,((c,c,()),()),())) h rfl⟩
 rw [if_neg (by rw [h1]; decide)] at h; rw [if_neg (by rw [h1]; decide)]
 rcases BE (c.1==7) with h1 | h1
 ·rw [if_pos h1] at h; rw [if_pos h1]
  exact ⟨_,Bv (sx:=csC (cdP (cdF 206 (csC (cdP (cdF 186 (csE (cdP AA)) (fun _=>rfl))) (csC (cdP AA) csN)) (fun _=>rfl))) csN) (hn:=fun _=>rfl) (G:=fun a b (v:(AE×AE×Unit)×Unit)=>Bq (fun x (v:AE×AE×Unit)=>Av x v.1 v.2.1) a b v.1) (Gx (sx:=csC (cdP (cdF 186 (csE (cdP AA)) (fun _=>rfl))) (csC (cdP AA) csN)) (hn:=fun _=>rfl) (G:=fun x (v:AE×AE×Unit)=>Av x v.1 v.2.1) G3),IX (a:=(a,b,c,((c,c,()),()),())) h rfl⟩
 rw [if_neg (by rw [h1]; decide)] at h; rw [if_neg (by rw [h1]; decide)]
 rcases BE (c.1==8) with h1 | h1
 ·rw [if_pos h1] at h; rw [if_pos h1]
  exact ⟨_,Bv (sx:=csN) (hn:=fun _=>rfl) (G:=fun a b (_:Unit)=>Dw a b) Nj,IX (a:=(a,b,c,(),())) h rfl⟩
 rw [if_neg (by rw [h1]; decide)] at h; rw [if_neg (by rw [h1]; decide)]
 rcases BE (c.1==10) with h1 | h1
 ·rw [if_pos h1] at h; rw [if_pos h1]
  exact ⟨_,Bv (sx:=csC (cdP (cdF 208 csN (fun _=>rfl))) (csC (cdP (cdF 190 (csE (cdP AA)) (fun _=>rfl))) csN)) (hn:=fun _=>rfl) (G:=fun a b (v:Unit×AE×Unit)=>Ab a b v.2.1) D5,IX (a:=(a,b,c,((),c,()),())) h rfl⟩
 rw [if_neg (by rw [h1]; decide)] at h; rw [if_neg (by rw [h1]; decide)]
 exact ⟨_,Bv (sx:=csC (cdP (cdF 208 csN (fun _=>rfl))) (csC (cdP (cdF 191 csN (fun _=>rfl))) csN)) (hn:=fun _=>rfl) (G:=fun a b (_:Unit×Unit×Unit)=>Ac a b) D6,IX (a:=(a,b,c,((),(),()),())) h rfl⟩
/- trestle/court.first[trestle/court.seated,trestle/court.order] -/
noncomputable def B7:Code:=Bn Tryz.f76
def AY (x0:(List AE)):Nat->(List UInt8)->(List UInt8)->(List UInt8)->Int->Int->(List UInt8)->Bool->Bool->(List (List UInt8))->Int->(List UInt8)->(List UInt8)->(List UInt8)->Int->Int->(List UInt8)->Bool->Bool->(List (List UInt8))->Int->Int->Option ((Unit) ⊕ (Int×Int))
 | 0,_,_,_,_,_,_,_,_,_,_,_,_,_,_,_,_,_,_,_,_,_=>none
 | f + 1,c1,c2,c3,c4,c5,c6,c7,c8,c9,c10,c11,c12,c13,c14,c15,c16,c17,c18,c19,c20,c21 =>
  if (decide (c21 < (x0.length:Int)))=true then
  (idx x0 c21).bind fun v23 =>
  (De ((c1,c2,c3,c4,c5,c6,c7,c8,c9),c10) ((c11,c12,c13,c14,c15,c16,c17,c18,c19),c20) v23).bind fun v24 =>
  if (v24 != 0)=true then
  some (.inr (c21,v24))
  else
  AY x0 f c1 c2 c3 c4 c5 c6 c7 c8 c9 c10 c11 c12 c13 c14 c15 c16 c17 c18 c19 c20 (wr .i64 (c21 + 1))
  else
  some (.inl ())
def Ah (x0:(List AE)) (x1:Ad) (x2:Ad):Option (Int×Int) :=
 (AY x0 100000 x1.1.1 x1.1.2.1 x1.1.2.2.1 x1.1.2.2.2.1 x1.1.2.2.2.2.1 x1.1.2.2.2.2.2.1 x1.1.2.2.2.2.2.2.1 x1.1.2.2.2.2.2.2.2.1 x1.1.2.2.2.2.2.2.2.2 x1.2 x2.1.1 x2.1.2.1 x2.1.2.2.1 x2.1.2.2.2.1 x2.1.2.2.2.2.1 x2.1.2.2.2.2.2.1 x2.1.2.2.2.2.2.2.1 x2.1.2.2.2.2.2.2.2.1 x2.1.2.2.2.2.2.2.2.2 x2.2 0).bind fun r28 =>
 match r28 with
 | (.inl _w29) =>
  some ((-1),0)
 | (.inr w30) =>
  some (w30.1,w30.2)
noncomputable def CC:Cs ((List AE)×Ad×Ad×Unit):=(csC (cdL 1 Cl) (csC AF (csC AF csN)))
noncomputable def CD (r:Int×Int):AV:= .tp [cdI.enc r.1,cdI.enc r.2]
theorem Cm (x0:(List AE)):∀ (f:Nat) (c1:(List UInt8)) (c2:(List UInt8)) (c3:(List UInt8)) (c4:Int) (c5:Int) (c6:(List UInt8)) (c7:Bool) (c8:Bool) (c9:(List (List UInt8))) (c10:Int) (c11:(List UInt8)) (c12:(List UInt8)) (c13:(List UInt8)) (c14:Int) (c15:Int) (c16:(List UInt8)) (c17:Bool) (c18:Bool) (c19:(List (List UInt8))) (c20:Int) (c21:Int) (r:(Unit) ⊕ (Int×Int)),AY x0 f c1 c2 c3 c4 c5 c6 c7 c8 c9 c10 c11 c12 c13 c14 c15 c16 c17 c18 c19 c20 c21=some r->SemN E0 ⟨none,false⟩ (pc B7 [1,0,1,0,0]) f ⟨Fr 27 [(4,.pt 0 0 0),(5,.pt 1 0 0),(11,.sl 1 (x0.map Cl.enc)),(12,.v (.int .i64 (x0.length:Int))),(13,.v (.int .i64 c21))],[some ⟨10,115,[.ag [.st c1,.st c2,.st c3,.v (.int .i64 c4),.v (.int .i64 c5),.st c6,.v (.bool c7),.v (.bool c8),.sl 1 (c9.map cdS.enc),.v (.int .i64 c10)]],false⟩,some ⟨10,115,[.ag [.st c11,.st c12,.st c13,.v (.int .i64 c14),.v (.int .i64 c15),.st c16,.v (.bool c17),.v (.bool c18),.sl 1 (c19.map cdS.enc),.v (.int .i64 c20)]],false⟩]⟩ (fun e s=>match r with
 | (.inl _w)=>e=(.exit 0)/\Wk E0 s ⟨Fr 27 [],[]⟩
 | (.inr w)=>e = .ret/\Wk E0 s ⟨Fr 27 [(6,.v (.int .i64 w.1)),(7,.v (.int .i64 w.2))],[]⟩):=by
 intro f;induction f with
 | zero=>intro c1 c2 c3 c4 c5 c6 c7 c8 c9 c10 c11 c12 c13 c14 c15 c16 c17 c18 c19 c20 c21 r h; cases h
 | succ f ih0 =>
  intro c1 c2 c3 c4 c5 c6 c7 c8 c9 c10 c11 c12 c13 c14 c15 c16 c17 c18 c19 c20 c21 r h
  have ih:=fun (c1:(List UInt8)) (c2:(List UInt8)) (c3:(List UInt8)) (c4:Int) (c5:Int) (c6:(List UInt8)) (c7:Bool) (c8:Bool) (c9:(List (List UInt8))) (c10:Int) (c11:(List UInt8)) (c12:(List UInt8)) (c13:(List UInt8)) (c14:Int) (c15:Int) (c16:(List UInt8)) (c17:Bool) (c18:Bool) (c19:(List (List UInt8))) (c20:Int) (c21:Int)=>ih0 c1 c2 c3 c4 c5 c6 c7 c8 c9 c10 c11 c12 c13 c14 c15 c16 c17 c18 c19 c20 c21 r
  unfold AY at h;refine B6 ?_
  let p1:Option Blk:=some ⟨10,115,[.ag [.st c11,.st c12,.st c13,.v (.int .i64 c14),.v (.int .i64 c15),.st c16,.v (.bool c17),.v (.bool c18),.sl 1 (c19.map cdS.enc),.v (.int .i64 c20)]],false⟩
  let p2:Option Blk:=some ⟨10,115,[.ag [.st c1,.st c2,.st c3,.v (.int .i64 c4),.v (.int .i64 c5),.st c6,.v (.bool c7),.v (.bool c8),.sl 1 (c9.map cdS.enc),.v (.int .i64 c10)]],false⟩
  let p3:Nat×AV:=(13,.v (.int .i64 c21))
  let p4:Nat×AV:=(12,.v (.int .i64 (x0.length:Int)))
  let p5:Nat×AV:=(11,.sl 1 (x0.map Cl.enc))
  let p6:Nat×AV:=(5,.pt 1 0 0)
  let p7:Nat×AV:=(4,.pt 0 0 0)
  refine AJ AC [p7,p6,p5,p4,p3,(14,.v (.bool (decide (c21 < (x0.length:Int)))))] [p2,p1] ?_;refine AG ?_;refine AM (b:=(decide (c21 < (x0.length:Int)))) kr (fun hb22=>?_) (fun hb22=>?_)
  ·rw [if_pos hb22] at h
   refine AP ?_;refine AG ?_;refine Aj ?_;refine AG ?_;obtain ⟨v23,hv23,h⟩:=OB h
   let p8:Nat×AV:=(8,.v (.int .i64 c21))
   refine AH (s1:=⟨Fr 27 [p7,p6,p8,(9,Cl.enc v23),p5,p4,p3],[p2,p1]⟩) ?_ ?_
   ·refine AD (n:=27) AC 1 [p7,p6,p5,p4,p3,(15,.v (.int .i64 c21))] [p2,p1] kr ?_
    refine AK AC 0 rfl (CZ (AB rfl) rfl (AQ (a:= .sl 1 (x0.map Cl.enc)) (b:= .v (.int .i64 c21)) kr kr (GW (e:=Cl.enc) (el:=117) (k:=1) (ki:= .i64) kr kr hv23))) ?_;exact AN AC
   refine AG ?_;obtain ⟨v24,hv24,h⟩:=OB h;refine AH (s1:=⟨Fr 27 [p7,p6,p8,(10,.v (.int .i64 v24)),p5,p4,p3],[p2,p1]⟩) ?_ ?_
   ·refine AD (n:=27) AC 3 [p7,p6,p8,p5,p4,p3,(18,Cl.enc v23),(19,.ag [.st c1,.st c2,.st c3,.v (.int .i64 c4),.v (.int .i64 c5),.st c6,.v (.bool c7),.v (.bool c8),.sl 1 (c9.map cdS.enc),.v (.int .i64 c10)]),(20,.ag [.st c11,.st c12,.st c13,.v (.int .i64 c14),.v (.int .i64 c15),.st c16,.v (.bool c17),.v (.bool c18),.sl 1 (c19.map cdS.enc),.v (.int .i64 c20)])] [p2,p1] kr ?_
    refine Ai (caps:=[.pe (AA.enc v23) 0,.pe (Kz v23) 0]) (xs:=[.ag [.st c1,.st c2,.st c3,.v (.int .i64 c4),.v (.int .i64 c5),.st c6,.v (.bool c7),.v (.bool c8),.sl 1 (c9.map cdS.enc),.v (.int .i64 c10)],.ag [.st c11,.st c12,.st c13,.v (.int .i64 c14),.v (.int .i64 c15),.st c16,.v (.bool c17),.v (.bool c18),.sl 1 (c19.map cdS.enc),.v (.int .i64 c20)]]) (u:=(((c1,c2,c3,c4,c5,c6,c7,c8,c9),c10),((c11,c12,c13,c14,c15,c16,c17,c18,c19),c20),v23)) rfl rfl L3 rfl (AB rfl) kr kr (AU (Ao (c:=AF) (v:=((c1,c2,c3,c4,c5,c6,c7,c8,c9),c10))) (AU (Ao (c:=AF) (v:=((c11,c12,c13,c14,c15,c16,c17,c18,c19),c20))) (OW (n:=10) (s:=PN) (a:=v23)))) (.inl kr) hv24 ?_;exact AN AC
   refine AJ AC [p7,p6,p8,(10,.v (.int .i64 v24)),p5,p4,p3,(23,.v (.bool (v24 != 0)))] [p2,p1] ?_;refine AM (b:=(v24 != 0)) kr (fun hb25=>?_) (fun hb25=>?_)
   ·rw [if_pos hb25] at h
    refine AG ?_;refine AH (s1:=⟨Fr 27 [(6,.v (.int .i64 c21)),(7,.v (.int .i64 v24))],[]⟩) ?_ ?_
    ·refine AD (n:=27) AC 4 [(6,.v (.int .i64 c21)),(7,.v (.int .i64 v24))] [p2,p1] kr ?_
     exact AL rfl (AZ [] trivial ⟨lv,lv,trivial⟩)
    refine AT ?_;have hq:=OI h; subst hq;exact ⟨rfl,AO⟩
   ·rw [CK hb25] at h
    refine AP ?_
    let p9:Nat×AV:=(13,.v (.int .i64 (wr .i64 (c21 + 1))))
    refine DD AC [p7,p6,p5,p4,p9] [p2,p1] ?_;exact Aw (s1:=⟨Fr 27 [p7,p6,p5,p4,p9],[p2,p1]⟩) (AZ [0,1] ⟨⟨_,rfl,Cn⟩,⟨_,rfl,Cn⟩,trivial⟩ ⟨lv,lv,lv,lv,lv,trivial⟩) (ih c1 c2 c3 c4 c5 c6 c7 c8 c9 c10 c11 c12 c13 c14 c15 c16 c17 c18 c19 c20 (wr .i64 (c21 + 1)) h)
  ·rw [CK hb22] at h
   refine Cc ?_;have hq:=OI h; subst hq;exact ⟨rfl,(AZ [] trivial trivial)⟩
theorem Ei (x0:(List AE)) (x1:Ad) (x2:Ad) (r:Int×Int) (h:Ah x0 x1 x2=some r):Sem E0 ⟨none,false⟩ B7 ⟨Fr 27 (BK 0 (CC.enc (x0,x1,x2,()))),[]⟩ fun e s'=>(e = .normal\/e = .ret)/\∃ xs,Ej E0.P s'.fr s'.hp Tryz.f76.results.toList=some xs/\Eu xs=CD r:=by
 unfold Ah at h;refine A3 (Bo (s1:=⟨Fr 27 [(0,.sl 1 (x0.map Cl.enc)),(1,AF.enc x1),(2,AF.enc x2)],[]⟩) AO ?_)
 let p1:Option Blk:=some ⟨10,115,[AF.enc x2],false⟩
 let p2:Option Blk:=some ⟨10,115,[AF.enc x1],false⟩
 let p3:Nat×AV:=(5,.pt 1 0 0)
 let p4:Nat×AV:=(4,.pt 0 0 0)
 refine AJ AC [(0,.sl 1 (x0.map Cl.enc)),p4,p3] [p2,p1] ?_;refine AG ?_;refine AG ?_
 let p5:Nat×AV:=(13,.v (.int .i64 0))
 let p6:Nat×AV:=(12,.v (.int .i64 (x0.length:Int)))
 let p7:Nat×AV:=(11,.sl 1 (x0.map Cl.enc))
 refine AH (s1:=⟨Fr 27 [p4,p3,p7,p6,p5],[p2,p1]⟩) ?_ ?_
 ·refine AD (n:=27) AC 1 [p4,p3,p7] [p2,p1] kr ?_
  refine AK AC 0 rfl (CZ (AB rfl) rfl (DS (a:= .sl 1 (x0.map Cl.enc)) kr (B4 (el:=117) kr))) ?_;exact AN AC
 refine Aj ?_;obtain ⟨r28,hr28,h⟩:=OB h;refine Ch (n:=100000) ?_;rcases r28 with w29 | w30
 ·try dsimp only at h
  refine BQ (Aw (s1:=⟨Fr 27 [p4,p3,p7,p6,p5],[p2,p1]⟩) (AZ [0,1] ⟨⟨_,rfl,Cn⟩,⟨_,rfl,Cn⟩,trivial⟩ ⟨lv,lv,lv,lv,lv,trivial⟩) (Cm x0 _ x1.1.1 x1.1.2.1 x1.1.2.2.1 x1.1.2.2.2.1 x1.1.2.2.2.2.1 x1.1.2.2.2.2.2.1 x1.1.2.2.2.2.2.2.1 x1.1.2.2.2.2.2.2.2.1 x1.1.2.2.2.2.2.2.2.2 x1.2 x2.1.1 x2.1.2.1 x2.1.2.2.1 x2.1.2.2.2.1 x2.1.2.2.2.2.1 x2.1.2.2.2.2.2.1 x2.1.2.2.2.2.2.2.1 x2.1.2.2.2.2.2.2.2.1 x2.1.2.2.2.2.2.2.2.2 x2.2 0 _ hr28)) ?_;refine AJ AC [(6,.v (.int .i64 (-1))),(7,.v (.int .i64 0))] [] ?_;refine AT ?_;have hq:=OI h; subst hq;exact ⟨⟨Fr 27 [(6,.v (.int .i64 (-1))),(7,.v (.int .i64 0))],[]⟩,AO,.inr rfl,[.v (.int .i64 (-1)),.v (.int .i64 0)],kr,kr⟩
 ·try dsimp only at h
  refine BQ (Aw (s1:=⟨Fr 27 [p4,p3,p7,p6,p5],[p2,p1]⟩) (AZ [0,1] ⟨⟨_,rfl,Cn⟩,⟨_,rfl,Cn⟩,trivial⟩ ⟨lv,lv,lv,lv,lv,trivial⟩) (Cm x0 _ x1.1.1 x1.1.2.1 x1.1.2.2.1 x1.1.2.2.2.1 x1.1.2.2.2.2.1 x1.1.2.2.2.2.2.1 x1.1.2.2.2.2.2.2.1 x1.1.2.2.2.2.2.2.2.1 x1.1.2.2.2.2.2.2.2.2 x1.2 x2.1.1 x2.1.2.1 x2.1.2.2.1 x2.1.2.2.2.1 x2.1.2.2.2.2.1 x2.1.2.2.2.2.2.1 x2.1.2.2.2.2.2.2.1 x2.1.2.2.2.2.2.2.2.1 x2.1.2.2.2.2.2.2.2.2 x2.2 0 _ hr28)) ?_;have hq:=OI h; subst hq;exact ⟨⟨Fr 27 [(6,.v (.int .i64 w30.1)),(7,.v (.int .i64 w30.2))],[]⟩,AO,.inr rfl,[.v (.int .i64 w30.1),.v (.int .i64 w30.2)],kr,kr⟩
noncomputable def FB:List AV->Option AV:=EA CC (fun a=>Ah a.1 a.2.1 a.2.2.1) CD
theorem FD:XOk 76 FB:=by
 refine AW Tryz.func76 (c:=B7) ?h2 ⟨Tryz.call76⟩ CC (fun a=>Ah a.1 a.2.1 a.2.2.1) CD (fun a=>(by show 3<=27; decide)) ?h3 ?h4
 case h2=>kernel_rfl
 case h3=>intro b; kernel_rfl
 case h4=>exact fun a b h=>Ei a.1 a.2.1 a.2.2.1 b h
/- trestle/court.table -/
noncomputable def DT:Code:=Bn Tryz.f107
def Ce (x1:(List Ax)):Nat->Int->(List (List Int))->Option (((List (List Int))))
 | 0,_,_=>none
 | f + 1,c15,c16 =>
  if (decide (c15 < ((List.replicate (x1.length:Int).toNat ([]:(List Int))).length:Int)))=true then
  if (Nx 8 (x1.length:Int))=true then
  (idx c16 c15).bind fun _v23 =>
  Ce x1 f (wr .i64 (c15 + 1)) (c16.set c15.toNat (List.replicate (x1.length:Int).toNat (0:Int)))
  else none
  else
  some c16
def Gi (c40:Int) (c43:Int) (c44:(List (List Int))) (v48:Int×Int):Option (((List (List Int)))) :=
 if (v48.2==1)=true then
 (idx c44 c43).bind fun v63 =>
 (idx v63 c40).bind fun v67 =>
 (idx v63 c40).bind fun _v68 =>
 some (c44.set c43.toNat (v63.set c40.toNat (wr .i64 (v67 + 1))))
 else
 some c44
def FO (c40:Int) (c43:Int) (c44:(List (List Int))) (v48:Int×Int):Option (((List (List Int)))) :=
 if (v48.2==(-1))=true then
 (idx c44 c40).bind fun v50 =>
 (idx v50 c43).bind fun v54 =>
 (idx v50 c43).bind fun _v55 =>
 some (c44.set c40.toNat (v50.set c43.toNat (wr .i64 (v54 + 1))))
 else
 (Gi c40 c43 c44 v48).bind fun r75 =>
 some r75
def CU (v32:(List Ad)) (v37:(List AE)×Bool) (c40:Int):Nat->Int->(List (List Int))->Option (((List (List Int))))
 | 0,_,_=>none
 | f + 1,c43,c44 =>
  if (decide (c43 < c40))=true then
  (idx v32 c40).bind fun v46 =>
  (idx v32 c43).bind fun v47 =>
  (Ah v37.1 v46 v47).bind fun v48 =>
  (FO c40 c43 c44 v48).bind fun r78 =>
  CU v32 v37 c40 f (wr .i64 (c43 + 1)) r78
  else
  some c44
def CT (v32:(List Ad)) (v37:(List AE)×Bool):Nat->Int->(List (List Int))->Option (((List (List Int))))
 | 0,_,_=>none
 | f + 1,c40,c41 =>
  if (decide (c40 < (v32.length:Int)))=true then
  (CU v32 v37 c40 100000 0 c41).bind fun r82 =>
  CT v32 v37 f (wr .i64 (c40 + 1)) r82
  else
  some c41
def D1 (x0:(List (List AE))) (v32:(List Ad)):Nat->Int->(List (List Int))->Option (((List (List Int))) ⊕ (Unit))
 | 0,_,_=>none
 | f + 1,c33,c34 =>
  if (decide (c33 < (x0.length:Int)))=true then
  (idx x0 c33).bind fun v36 =>
  (Em v36).bind fun v37 =>
  if (!v37.2)=true then
  some (.inr ())
  else
  (CT v32 v37 100000 0 c34).bind fun r86 =>
  D1 x0 v32 f (wr .i64 (c33 + 1)) r86
  else
  some (.inl c34)
def En (x0:(List (List AE))) (x1:(List Ax)):Option ((List (List Int))×Bool) :=
 (if (decide ((x0.length:Int) > 16))=true then some true else some (decide ((x1.length:Int) > 64))).bind fun j1 =>
 if j1=true then
 some (([]:(List (List Int))),false)
 else
 if (Nx 24 (x1.length:Int))=true then
 (Ce x1 100000 0 (List.replicate (x1.length:Int).toNat ([]:(List Int)))).bind fun r29 =>
 (Gb x1).bind fun v32 =>
 (D1 x0 v32 100000 0 r29).bind fun r90 =>
 match r90 with
 | (.inl w91) =>
  some (w91,true)
 | (.inr _w97) =>
  some (([]:(List (List Int))),false)
 else none
theorem Lb {L:List Asn}(x1:(List Ax)) (x0:(List (List AE))) (e14:AV):∀ (f:Nat) (c15:Int) (c16:(List (List Int))) (r:((List (List Int)))),Ce x1 f c15 c16=some r->∀ (hp:Hp),T hp ((own_ (ocL 1 48 (ocL 1 3 (ocV cdI))) e14 c16)::L)->SemYN E0 ⟨none,false⟩ (pc DT [1,1,1,0,1,0,0]) f ⟨Fr 104 [(0,.sl 1 (x0.map (cdL 5 AA).enc)),(1,.sl 9 (x1.map AI.enc)),(6,e14),(29,.v (.int .i64 ((List.replicate (x1.length:Int).toNat ([]:(List Int))).length:Int))),(30,.v (.int .i64 c15))],hp⟩ (fun e s=>e=(.exit 0)/\∃ s2,(∃ (h':Hp),T h' ((own_ (ocL 1 48 (ocL 1 3 (ocV cdI))) e14 r)::L)/\s2=⟨Fr 104 [(0,.sl 1 (x0.map (cdL 5 AA).enc)),(1,.sl 9 (x1.map AI.enc)),(6,e14)],h'⟩)/\WkY E0 s s2):=by
 intro f;induction f with
 | zero=>intro c15 c16 r h; cases h
 | succ f ih0 =>
  intro c15 c16 r h  hp hT;unfold Ce at h;refine He ?_
  let p1:Nat×AV:=(30,.v (.int .i64 c15))
  let p2:Nat×AV:=(29,.v (.int .i64 ((List.replicate (x1.length:Int).toNat ([]:(List Int))).length:Int)))
  let p3:Nat×AV:=(1,.sl 9 (x1.map AI.enc))
  let p4:Nat×AV:=(0,.sl 1 (x0.map (cdL 5 AA).enc))
  refine D0 AC [p4,p3,(6,e14),p2,p1,(31,.v (.bool (decide (c15 < ((List.replicate (x1.length:Int).toNat ([]:(List Int))).length:Int)))))] ?_;refine A8 ?_;refine Ec (b:=(decide (c15 < ((List.replicate (x1.length:Int).toNat ([]:(List Int))).length:Int)))) kr (fun hb17=>?_) (fun hb17=>?_)
  ·rw [if_pos hb17] at h
   refine SemY.skip ?_;refine A8 ?_;refine DX ?_;refine D0 AC [p4,p3,(6,e14),(7,.v (.int .i64 c15)),p2,p1] ?_;refine Ar ?_;refine BM AC 3 ?_;refine BL AC 0 rfl (CZ (AB rfl) rfl (DS (a:= .sl 9 (x1.map AI.enc)) kr (B4 (el:=42) kr))) ?_;by_cases hk18:(Nx 8 (x1.length:Int))=true
   case neg=>rw [if_neg hk18] at h; cases h
   rw [if_pos hk18] at h;obtain ⟨e22,hp19,hb20,hT21⟩:=Ph (P:=Tryz.prog) (o:=(ocV cdI)) (k:=1) (t:=3) (ty:=48) (bytes:=8) (kn:= .i64) (kc:= .i64) (m:=(x1.length:Int)) (x0:=0) hT (fun _=>⟨rfl,rfl⟩) kr kr hk18;refine BL AC 0 rfl (Vo (AB rfl) rfl kr (Pj (x:= .v (.int .i64 (x1.length:Int))) (y:= .v (.int .i64 (x1.length:Int))) kr kr hb20)) ?_;obtain ⟨v23,hv23,h⟩:=OB h
   have hT24:=(hT21.front 1 rfl)
   refine BL AC 0 rfl (CZ (AB rfl) rfl (AQ (a:=e14) (b:= .v (.int .i64 c15)) kr kr (Se (bytes:=24) hT24 kr hv23))) ?_;obtain ⟨hp25,hs26,hT27⟩:=UM (P:=Tryz.prog) (ty:=48) Wy hT24 (EJ hv23).2 kr;refine RunL.store AC (y:=eAt e14 c15.toNat) (z:=e22) rfl (AB rfl) kr kr hs26 ?_;refine CL rfl (SemY.fr (l':=[p4,p3,(6,e14),p2,p1]) kr ?_);refine Ar ?_;refine BM AC 2 ?_;refine CL rfl ?_;exact Ew WkY.f1 (ih0 (wr .i64 (c15 + 1)) (c16.set c15.toNat (List.replicate (x1.length:Int).toNat (0:Int))) _ h  hp25 hT27)
  ·rw [CK hb17] at h
   refine SemY.exit ?_;have hq:=OI h; subst hq;exact ⟨rfl,_,⟨hp,hT,rfl⟩,WkY.f1⟩
theorem La {L:List Asn}{hp:Hp}(c40:Int) (c43:Int) (c44:(List (List Int))) (v48:Int×Int) (x0:(List (List AE))) (e14:AV) (v32:(List Ad)) (c33:Int) (v37:(List AE)×Bool) (r:((List (List Int)))) (h:Gi c40 c43 c44 v48=some r) (hT:T hp ((own_ (ocL 1 48 (ocL 1 3 (ocV cdI))) e14 c44)::L)):SemY E0 ⟨none,false⟩ (pc DT [1,1,1,1,1,0,1,0,0,1,1,0,0,1,1,1,1,0,0,1,1,0,0,1,1,0,0,1,1,0,0,1,1,1,0,1,1,1]) ⟨Fr 104 [(6,e14),(8,.sl 10 (v32.map AF.enc)),(11,.sl 1 (v37.1.map Cl.enc)),(13,.v (.int .i64 c40)),(14,.v (.int .i64 c43)),(42,.sl 1 (x0.map (cdL 5 AA).enc)),(43,.v (.int .i64 (x0.length:Int))),(44,.v (.int .i64 c33)),(56,.v (.int .i64 (v32.length:Int))),(57,.v (.int .i64 c40)),(60,.v (.int .i64 c40)),(61,.v (.int .i64 c43)),(89,.v (.bool (v48.2==1)))],hp⟩ (fun e s=>e = .normal/\∃ s2,(∃ (h':Hp),T h' ((own_ (ocL 1 48 (ocL 1 3 (ocV cdI))) e14 r)::L)/\s2=⟨Fr 104 [(6,e14),(8,.sl 10 (v32.map AF.enc)),(11,.sl 1 (v37.1.map Cl.enc)),(13,.v (.int .i64 c40)),(42,.sl 1 (x0.map (cdL 5 AA).enc)),(43,.v (.int .i64 (x0.length:Int))),(44,.v (.int .i64 c33)),(56,.v (.int .i64 (v32.length:Int))),(57,.v (.int .i64 c40)),(60,.v (.int .i64 c40)),(61,.v (.int .i64 c43))],h'⟩)/\WkY E0 s s2):=by
 unfold Gi at h;refine Ec (b:=(v48.2==1)) kr (fun hb62=>?_) (fun hb62=>?_)
 ·rw [if_pos hb62] at h
  refine Ar ?_;refine BM AC 2 ?_;obtain ⟨v63,hv63,h⟩:=OB h;refine BL AC 0 rfl (CZ (AB rfl) rfl (AQ (a:=e14) (b:= .v (.int .i64 c43)) kr kr (Se (bytes:=24) hT kr hv63))) ?_;obtain ⟨e64,hl65,hT66⟩:=RA (P:=Tryz.prog) (ty:=48) hT (EJ hv63).2 kr kr;refine BL AC 0 rfl (CZ (AB rfl) rfl (Hw (p:=eAt e14 c43.toNat) kr hl65)) ?_;refine BM AC 1 ?_;obtain ⟨v67,hv67,h⟩:=OB h;refine BL AC 0 rfl (CZ (AB rfl) rfl (AQ (a:=e64) (b:= .v (.int .i64 c40)) kr kr (Se (bytes:=8) hT66 kr hv67))) ?_;refine BL AC 0 rfl (CZ (AB rfl) rfl (Hw (p:=eAt e64 c40.toNat) kr (Oi (y:= .v (.int .i64 v67)) (m:=1) (g:=false) hT66 (EJ hv67).2 kr kr kr))) ?_;refine BM AC 1 ?_;obtain ⟨v68,hv68,h⟩:=OB h;refine BL AC 0 rfl (CZ (AB rfl) rfl (AQ (a:=e64) (b:= .v (.int .i64 c40)) kr kr (Se (bytes:=8) hT66 kr hv68))) ?_;obtain ⟨hp69,hs70,hT71⟩:=O0 (P:=Tryz.prog) (ty:=3) (y:= .v (.int .i64 (wr .i64 (v67 + 1)))) (v':=(wr .i64 (v67 + 1))) hT66 (EJ hv68).2 kr kr kr;refine RunL.store AC (y:=eAt e64 c40.toNat) (z:= .v (.int .i64 (wr .i64 (v67 + 1)))) rfl (AB rfl) kr kr hs70 ?_;refine CL rfl ?_;have hq:=OI h; subst hq
  have hT74:=(R8 hT71)
  exact ⟨rfl,_,⟨hp69,hT74,rfl⟩,WkY.f1⟩
 ·rw [CK hb62] at h
  refine SemY.skip ?_;have hq:=OI h; subst hq;exact ⟨rfl,_,⟨hp,hT,rfl⟩,WkY.f1⟩
theorem LZ {L:List Asn}{hp:Hp}(c40:Int) (c43:Int) (c44:(List (List Int))) (v48:Int×Int) (x0:(List (List AE))) (e14:AV) (v32:(List Ad)) (c33:Int) (v37:(List AE)×Bool) (r:((List (List Int)))) (h:FO c40 c43 c44 v48=some r) (hT:T hp ((own_ (ocL 1 48 (ocL 1 3 (ocV cdI))) e14 c44)::L)):SemY E0 ⟨none,false⟩ (pc DT [1,1,1,1,1,0,1,0,0,1,1,0,0,1,1,1,1,0,0,1,1,0,0,1,1,0,0,1,1,0,0,1,1,1,0,1]) ⟨Fr 104 [(6,e14),(8,.sl 10 (v32.map AF.enc)),(11,.sl 1 (v37.1.map Cl.enc)),(13,.v (.int .i64 c40)),(14,.v (.int .i64 c43)),(42,.sl 1 (x0.map (cdL 5 AA).enc)),(43,.v (.int .i64 (x0.length:Int))),(44,.v (.int .i64 c33)),(56,.v (.int .i64 (v32.length:Int))),(57,.v (.int .i64 c40)),(60,.v (.int .i64 c40)),(61,.v (.int .i64 c43)),(77,.v (.int .i64 v48.2)),(78,.v (.bool (v48.2==(-1))))],hp⟩ (fun e s=>e = .normal/\∃ s2,(∃ (h':Hp),T h' ((own_ (ocL 1 48 (ocL 1 3 (ocV cdI))) e14 r)::L)/\s2=⟨Fr 104 [(6,e14),(8,.sl 10 (v32.map AF.enc)),(11,.sl 1 (v37.1.map Cl.enc)),(13,.v (.int .i64 c40)),(42,.sl 1 (x0.map (cdL 5 AA).enc)),(43,.v (.int .i64 (x0.length:Int))),(44,.v (.int .i64 c33)),(56,.v (.int .i64 (v32.length:Int))),(57,.v (.int .i64 c40)),(60,.v (.int .i64 c40)),(61,.v (.int .i64 c43))],h'⟩)/\WkY E0 s s2):=by
 unfold FO at h;refine Ec (b:=(v48.2==(-1))) kr (fun hb49=>?_) (fun hb49=>?_)
 ·rw [if_pos hb49] at h
  refine Ar ?_;refine BM AC 2 ?_;obtain ⟨v50,hv50,h⟩:=OB h;refine BL AC 0 rfl (CZ (AB rfl) rfl (AQ (a:=e14) (b:= .v (.int .i64 c40)) kr kr (Se (bytes:=24) hT kr hv50))) ?_;obtain ⟨e51,hl52,hT53⟩:=RA (P:=Tryz.prog) (ty:=48) hT (EJ hv50).2 kr kr;refine BL AC 0 rfl (CZ (AB rfl) rfl (Hw (p:=eAt e14 c40.toNat) kr hl52)) ?_;refine BM AC 1 ?_;obtain ⟨v54,hv54,h⟩:=OB h;refine BL AC 0 rfl (CZ (AB rfl) rfl (AQ (a:=e51) (b:= .v (.int .i64 c43)) kr kr (Se (bytes:=8) hT53 kr hv54))) ?_;refine BL AC 0 rfl (CZ (AB rfl) rfl (Hw (p:=eAt e51 c43.toNat) kr (Oi (y:= .v (.int .i64 v54)) (m:=1) (g:=false) hT53 (EJ hv54).2 kr kr kr))) ?_;refine BM AC 1 ?_;obtain ⟨v55,hv55,h⟩:=OB h;refine BL AC 0 rfl (CZ (AB rfl) rfl (AQ (a:=e51) (b:= .v (.int .i64 c43)) kr kr (Se (bytes:=8) hT53 kr hv55))) ?_;obtain ⟨hp56,hs57,hT58⟩:=O0 (P:=Tryz.prog) (ty:=3) (y:= .v (.int .i64 (wr .i64 (v54 + 1)))) (v':=(wr .i64 (v54 + 1))) hT53 (EJ hv55).2 kr kr kr;refine RunL.store AC (y:=eAt e51 c43.toNat) (z:= .v (.int .i64 (wr .i64 (v54 + 1)))) rfl (AB rfl) kr kr hs57 ?_;refine CL rfl ?_;have hq:=OI h; subst hq
  have hT61:=(R8 hT58)
  exact ⟨rfl,_,⟨hp56,hT61,rfl⟩,WkY.f1⟩
 ·rw [CK hb49] at h
  refine D0 AC [(6,e14),(8,.sl 10 (v32.map AF.enc)),(11,.sl 1 (v37.1.map Cl.enc)),(13,.v (.int .i64 c40)),(14,.v (.int .i64 c43)),(42,.sl 1 (x0.map (cdL 5 AA).enc)),(43,.v (.int .i64 (x0.length:Int))),(44,.v (.int .i64 c33)),(56,.v (.int .i64 (v32.length:Int))),(57,.v (.int .i64 c40)),(60,.v (.int .i64 c40)),(61,.v (.int .i64 c43)),(89,.v (.bool (v48.2==1)))] ?_;obtain ⟨r75,hr75,h⟩:=OB h;refine Ko (La c40 c43 c44 v48 x0 e14 v32 c33 v37 _ hr75 hT) ?_;rintro _ ⟨hp76,hT77,rfl⟩;have hq:=OI h; subst hq;exact ⟨rfl,_,⟨hp76,hT77,rfl⟩,WkY.f1⟩
theorem Le {L:List Asn}(v32:(List Ad)) (v37:(List AE)×Bool) (c40:Int) (x0:(List (List AE))) (e14:AV) (c33:Int):∀ (f:Nat) (c43:Int) (c44:(List (List Int))) (r:((List (List Int)))),CU v32 v37 c40 f c43 c44=some r->∀ (hp:Hp),T hp ((own_ (ocL 1 48 (ocL 1 3 (ocV cdI))) e14 c44)::L)->SemYN E0 ⟨none,false⟩ (pc DT [1,1,1,1,1,0,1,0,0,1,1,0,0,1,1,1,1,0,0,1,1,0,0,1,1,0,0]) f ⟨Fr 104 [(6,e14),(8,.sl 10 (v32.map AF.enc)),(11,.sl 1 (v37.1.map Cl.enc)),(13,.v (.int .i64 c40)),(42,.sl 1 (x0.map (cdL 5 AA).enc)),(43,.v (.int .i64 (x0.length:Int))),(44,.v (.int .i64 c33)),(56,.v (.int .i64 (v32.length:Int))),(57,.v (.int .i64 c40)),(60,.v (.int .i64 c40)),(61,.v (.int .i64 c43))],hp⟩ (fun e s=>e=(.exit 6)/\∃ s2,(∃ (h':Hp),T h' ((own_ (ocL 1 48 (ocL 1 3 (ocV cdI))) e14 r)::L)/\s2=⟨Fr 104 [(6,e14),(8,.sl 10 (v32.map AF.enc)),(11,.sl 1 (v37.1.map Cl.enc)),(42,.sl 1 (x0.map (cdL 5 AA).enc)),(43,.v (.int .i64 (x0.length:Int))),(44,.v (.int .i64 c33)),(56,.v (.int .i64 (v32.length:Int))),(57,.v (.int .i64 c40))],h'⟩)/\WkY E0 s s2):=by
 intro f;induction f with
 | zero=>intro c43 c44 r h; cases h
 | succ f ih0 =>
  intro c43 c44 r h  hp hT;unfold CU at h;refine He ?_
  let p1:Nat×AV:=(61,.v (.int .i64 c43))
  let p2:Nat×AV:=(60,.v (.int .i64 c40))
  let p3:Nat×AV:=(57,.v (.int .i64 c40))
  let p4:Nat×AV:=(56,.v (.int .i64 (v32.length:Int)))
  let p5:Nat×AV:=(44,.v (.int .i64 c33))
  let p6:Nat×AV:=(43,.v (.int .i64 (x0.length:Int)))
  let p7:Nat×AV:=(42,.sl 1 (x0.map (cdL 5 AA).enc))
  let p8:Nat×AV:=(13,.v (.int .i64 c40))
  let p9:Nat×AV:=(11,.sl 1 (v37.1.map Cl.enc))
  let p10:Nat×AV:=(8,.sl 10 (v32.map AF.enc))
  refine D0 AC [(6,e14),p10,p9,p8,p7,p6,p5,p4,p3,p2,p1,(62,.v (.bool (decide (c43 < c40))))] ?_;refine A8 ?_;refine Ec (b:=(decide (c43 < c40))) kr (fun hb45=>?_) (fun hb45=>?_)
  ·rw [if_pos hb45] at h
   refine SemY.skip ?_;refine A8 ?_;refine DX ?_
   let p11:Nat×AV:=(14,.v (.int .i64 c43))
   refine D0 AC [(6,e14),p10,p9,p8,p11,p7,p6,p5,p4,p3,p2,p1] ?_;refine A8 ?_;refine LK 15 AC.mixed kr kr ?_;refine RunDT.q (x:= .sl 1 (v37.1.map Cl.enc)) rfl kr rfl (AB rfl) rfl kr kr ?_;refine RunDT.q (x:= .sl 10 (v32.map AF.enc)) rfl kr rfl (AB rfl) rfl kr kr ?_;refine RunDT.q (x:= .v (.int .i64 c40)) rfl kr rfl (AB rfl) rfl kr kr ?_;obtain ⟨v46,hv46,h⟩:=OB h;refine RunDT.q (x:= .pe (AF.enc v46) 0) rfl kr rfl (AB rfl) rfl (AQ (a:= .sl 10 (v32.map AF.enc)) (b:= .v (.int .i64 c40)) kr kr (GW (e:=AF.enc) (el:=115) (k:=10) (ki:= .i64) kr kr hv46)) kr ?_;refine RunDT.q (x:=(AF.enc v46)) rfl kr rfl (AB rfl) rfl kr kr ?_;refine RunDT.q (x:= .sl 10 (v32.map AF.enc)) rfl kr rfl (AB rfl) rfl kr kr ?_;refine RunDT.q (x:= .v (.int .i64 c43)) rfl kr rfl (AB rfl) rfl kr kr ?_;obtain ⟨v47,hv47,h⟩:=OB h;refine RunDT.q (x:= .pe (AF.enc v47) 0) rfl kr rfl (AB rfl) rfl (AQ (a:= .sl 10 (v32.map AF.enc)) (b:= .v (.int .i64 c43)) kr kr (GW (e:=AF.enc) (el:=115) (k:=10) (ki:= .i64) kr kr hv47)) kr ?_;refine RunDT.q (x:=(AF.enc v47)) rfl kr rfl (AB rfl) rfl kr kr ?_;obtain ⟨v48,hv48,h⟩:=OB h;refine QB (v:=v48) (caps:=[]) (xs:=[.sl 1 (v37.1.map Cl.enc),AF.enc v46,AF.enc v47]) (u:=(v37.1,v46,v47,())) rfl rfl FD rfl (AB rfl) kr kr (Bi (C5 (c:=(cdL 1 Cl)) (v:=v37.1)) (Bi (C5 (c:=AF) (v:=v46)) (Bi (C5 (c:=AF) (v:=v47)) SeesD.nil))) kr hv48 ?_;refine RunDT.q (x:= .tp [.v (.int .i64 v48.1),.v (.int .i64 v48.2)]) rfl kr rfl (AB rfl) rfl kr kr ?_;refine RunDT.q (x:= .v (.int .i64 v48.1)) rfl kr rfl (AB rfl) rfl kr kr ?_;refine RunDT.q (x:= .v (.int .i64 v48.2)) rfl kr rfl (AB rfl) rfl kr kr ?_;refine RunDT.q (x:= .v (.int .i64 v48.1)) rfl kr rfl (AB rfl) rfl kr kr ?_;refine RunDT.q (x:= .v (.int .i64 v48.2)) rfl kr rfl (AB rfl) rfl kr kr ?_;refine RunDT.done rfl (SemY.fr (l':=[(6,e14),p10,p9,p8,p11,(16,.v (.int .i64 v48.2)),p7,p6,p5,p4,p3,p2,p1]) kr ?_);refine D0 AC [(6,e14),p10,p9,p8,p11,p7,p6,p5,p4,p3,p2,p1,(77,.v (.int .i64 v48.2))] ?_
   refine DX ?_;refine D0 AC [(6,e14),p10,p9,p8,p11,p7,p6,p5,p4,p3,p2,p1,(77,.v (.int .i64 v48.2)),(78,.v (.bool (v48.2==(-1))))] ?_;obtain ⟨r78,hr78,h⟩:=OB h;refine Ko (LZ c40 c43 c44 v48 x0 e14 v32 c33 v37 _ hr78 hT) ?_;rintro _ ⟨hp79,hT80,rfl⟩;refine Ar ?_;refine BM AC 2 ?_;refine CL rfl ?_;exact Ew WkY.f1 (ih0 (wr .i64 (c43 + 1)) r78 _ h  hp79 hT80)
  ·rw [CK hb45] at h
   refine SemY.exit ?_;have hq:=OI h; subst hq;exact ⟨rfl,_,⟨hp,hT,rfl⟩,WkY.f1⟩
theorem Lc {L:List Asn}(v32:(List Ad)) (v37:(List AE)×Bool) (x0:(List (List AE))) (e14:AV) (c33:Int):∀ (f:Nat) (c40:Int) (c41:(List (List Int))) (r:((List (List Int)))),CT v32 v37 f c40 c41=some r->∀ (hp:Hp),T hp ((own_ (ocL 1 48 (ocL 1 3 (ocV cdI))) e14 c41)::L)->SemYN E0 ⟨none,false⟩ (pc DT [1,1,1,1,1,0,1,0,0,1,1,0,0,1,1,1,1,0,0]) f ⟨Fr 104 [(6,e14),(8,.sl 10 (v32.map AF.enc)),(11,.sl 1 (v37.1.map Cl.enc)),(42,.sl 1 (x0.map (cdL 5 AA).enc)),(43,.v (.int .i64 (x0.length:Int))),(44,.v (.int .i64 c33)),(56,.v (.int .i64 (v32.length:Int))),(57,.v (.int .i64 c40))],hp⟩ (fun e s=>e=(.exit 4)/\∃ s2,(∃ (h':Hp),T h' ((own_ (ocL 1 48 (ocL 1 3 (ocV cdI))) e14 r)::L)/\s2=⟨Fr 104 [(6,e14),(8,.sl 10 (v32.map AF.enc)),(42,.sl 1 (x0.map (cdL 5 AA).enc)),(43,.v (.int .i64 (x0.length:Int))),(44,.v (.int .i64 c33))],h'⟩)/\WkY E0 s s2):=by
 intro f;induction f with
 | zero=>intro c40 c41 r h; cases h
 | succ f ih0 =>
  intro c40 c41 r h  hp hT;unfold CT at h;refine He ?_
  let p1:Nat×AV:=(57,.v (.int .i64 c40))
  let p2:Nat×AV:=(56,.v (.int .i64 (v32.length:Int)))
  let p3:Nat×AV:=(44,.v (.int .i64 c33))
  let p4:Nat×AV:=(43,.v (.int .i64 (x0.length:Int)))
  let p5:Nat×AV:=(42,.sl 1 (x0.map (cdL 5 AA).enc))
  let p6:Nat×AV:=(11,.sl 1 (v37.1.map Cl.enc))
  let p7:Nat×AV:=(8,.sl 10 (v32.map AF.enc))
  refine D0 AC [(6,e14),p7,p6,p5,p4,p3,p2,p1,(58,.v (.bool (decide (c40 < (v32.length:Int)))))] ?_;refine A8 ?_;refine Ec (b:=(decide (c40 < (v32.length:Int)))) kr (fun hb42=>?_) (fun hb42=>?_)
  ·rw [if_pos hb42] at h
   refine SemY.skip ?_;refine A8 ?_;refine DX ?_;refine D0 AC [(6,e14),p7,p6,(13,.v (.int .i64 c40)),p5,p4,p3,p2,p1] ?_;refine D0 AC [(6,e14),p7,p6,(13,.v (.int .i64 c40)),p5,p4,p3,p2,p1,(60,.v (.int .i64 c40)),(61,.v (.int .i64 0))] ?_;refine DX ?_;refine SemY.loop (n:=100000) ?_;obtain ⟨r82,hr82,h⟩:=OB h;refine GY (Ew WkY.f1 (Le v32 v37 c40 x0 e14 c33 _ 0 c41 _ hr82  hp hT)) ?_;rintro _ ⟨hp83,hT84,rfl⟩;refine Ar ?_;refine BM AC 2 ?_;refine CL rfl ?_;exact Ew WkY.f1 (ih0 (wr .i64 (c40 + 1)) r82 _ h  hp83 hT84)
  ·rw [CK hb42] at h
   refine SemY.exit ?_;have hq:=OI h; subst hq;exact ⟨rfl,_,⟨hp,hT,rfl⟩,WkY.f1⟩
theorem Ic {L:List Asn}(x0:(List (List AE))) (v32:(List Ad)) (e14:AV):∀ (f:Nat) (c33:Int) (c34:(List (List Int))) (r:((List (List Int))) ⊕ (Unit)),D1 x0 v32 f c33 c34=some r->∀ (hp:Hp),T hp ((own_ (ocL 1 48 (ocL 1 3 (ocV cdI))) e14 c34)::L)->SemYN E0 ⟨none,false⟩ (pc DT [1,1,1,1,1,0,1,0,0]) f ⟨Fr 104 [(6,e14),(8,.sl 10 (v32.map AF.enc)),(42,.sl 1 (x0.map (cdL 5 AA).enc)),(43,.v (.int .i64 (x0.length:Int))),(44,.v (.int .i64 c33))],hp⟩ (fun e s=>match r with
 | (.inl w)=>e=(.exit 2)/\∃ s2,(∃ (h':Hp),T h' ((own_ (ocL 1 48 (ocL 1 3 (ocV cdI))) e14 w)::L)/\s2=⟨Fr 104 [(6,e14)],h'⟩)/\WkY E0 s s2
 | (.inr _w)=>e = .ret/\∃ s2,(∃ (h':Hp),T h' (L)/\s2=⟨Fr 104 [(4,.e0),(5,.v (.bool false))],h'⟩)/\WkY E0 s s2):=by
 intro f;induction f with
 | zero=>intro c33 c34 r h; cases h
 | succ f ih0 =>
  intro c33 c34 r h  hp hT;unfold D1 at h;refine He ?_
  let p1:Nat×AV:=(44,.v (.int .i64 c33))
  let p2:Nat×AV:=(43,.v (.int .i64 (x0.length:Int)))
  let p3:Nat×AV:=(42,.sl 1 (x0.map (cdL 5 AA).enc))
  let p4:Nat×AV:=(8,.sl 10 (v32.map AF.enc))
  refine D0 AC [(6,e14),p4,p3,p2,p1,(45,.v (.bool (decide (c33 < (x0.length:Int)))))] ?_;refine A8 ?_;refine Ec (b:=(decide (c33 < (x0.length:Int)))) kr (fun hb35=>?_) (fun hb35=>?_)
  ·rw [if_pos hb35] at h
   refine SemY.skip ?_;refine A8 ?_;refine DX ?_;refine A8 ?_;refine Ar ?_;obtain ⟨v36,hv36,h⟩:=OB h;refine BL AC 0 rfl (CZ (AB rfl) rfl (AQ (a:= .sl 1 (x0.map (cdL 5 AA).enc)) (b:= .v (.int .i64 c33)) kr kr (GW (e:=(cdL 5 AA).enc) (el:=22) (k:=1) (ki:= .i64) kr kr hv36))) ?_;refine Du AC [(6,e14),p4,(10,.sl 5 (v36.map AA.enc)),p3,p2,p1] ?_;refine A8 ?_;refine Ar ?_;refine BM AC 1 ?_;obtain ⟨v37,hv37,h⟩:=OB h;refine Dt (v:=v37) (caps:=[]) (xs:=[.sl 5 (v36.map AA.enc)]) (u:=(v36,())) rfl rfl N4 rfl (AB rfl) kr kr (Bi (C5 (c:=(cdL 5 AA)) (v:=v36)) SeesD.nil) (.inr ⟨by kernel_rfl,GA.de (v36,())⟩) hv37 ?_
   let p5:Nat×AV:=(11,.sl 1 (v37.1.map Cl.enc))
   refine Du AC [(6,e14),p4,p5,(12,.v (.bool v37.2)),p3,p2,p1] ?_;refine A8 ?_;refine D0 AC [(6,e14),p4,p5,p3,p2,p1,(54,.v (.bool (!v37.2)))] ?_;refine Ec (b:=(!v37.2)) kr (fun hb38=>?_) (fun hb38=>?_)
   ·rw [if_pos hb38] at h
    refine D0 AC [(4,.e0),(5,.v (.bool false))] ?_;refine SemY.ret ?_;have hq:=OI h; subst hq
    have hT39:=hT.drop
    exact ⟨rfl,_,⟨hp,hT39,rfl⟩,WkY.f1⟩
   ·rw [CK hb38] at h
    refine SemY.skip ?_;refine A8 ?_;refine Ar ?_;refine BM AC 1 ?_;refine BL AC 0 rfl (CZ (AB rfl) rfl (DS (a:= .sl 10 (v32.map AF.enc)) kr (B4 (el:=115) kr))) ?_;refine Du AC [(6,e14),p4,p5,p3,p2,p1,(56,.v (.int .i64 (v32.length:Int))),(57,.v (.int .i64 0))] ?_;refine DX ?_;refine SemY.loop (n:=100000) ?_;obtain ⟨r86,hr86,h⟩:=OB h;refine GY (Ew WkY.f1 (Lc v32 v37 x0 e14 c33 _ 0 c34 _ hr86  hp hT)) ?_;rintro _ ⟨hp87,hT88,rfl⟩;refine Ar ?_;refine BM AC 2 ?_;refine CL rfl ?_;exact Ew WkY.f1 (ih0 (wr .i64 (c33 + 1)) r86 _ h  hp87 hT88)
  ·rw [CK hb35] at h
   refine SemY.exit ?_;have hq:=OI h; subst hq;exact ⟨rfl,_,⟨hp,hT,rfl⟩,WkY.f1⟩
theorem Mp {L:List Asn}{hp:Hp}(x0:(List (List AE))) (x1:(List Ax)) (r:(List (List Int))×Bool) (h:En x0 x1=some r) (hT:T hp (L)):SemY E0 ⟨none,false⟩ DT ⟨Fr 104 (BK 0 [.sl 1 (x0.map (cdL 5 AA).enc),.sl 9 (x1.map AI.enc)]),hp⟩ fun x s'=>(x = .normal\/x = .ret)/\∃ ys,Ej E0.P s'.fr s'.hp Tryz.f107.results.toList=some ys/\(fun v h'=>v = .tp [.sl 1 (r.1.map (cdL 1 cdI).enc),.v (.bool r.2)]/\T h' (L)) (Eu ys) s'.hp:=by
 unfold En at h;refine Qr (QC (s1:=⟨Fr 104 [(0,.sl 1 (x0.map (cdL 5 AA).enc)),(1,.sl 9 (x1.map AI.enc))],hp⟩) WkY.f1 ?_);refine D0 AC [(0,.sl 1 (x0.map (cdL 5 AA).enc)),(1,.sl 9 (x1.map AI.enc))] ?_;refine A8 ?_;refine A8 ?_;obtain ⟨j1,hj1,h⟩:=OB h;refine Mf (A:=fun s1=>∃ (h':Hp),T h' (L)/\s1=⟨Fr 104 [(0,.sl 1 (x0.map (cdL 5 AA).enc)),(1,.sl 9 (x1.map AI.enc)),(24,.v (.bool j1))],h'⟩) ?_ ?_
 ·refine BM AC 1 ?_
  refine BL AC 0 rfl (CZ (AB rfl) rfl (DS (a:= .sl 1 (x0.map (cdL 5 AA).enc)) kr (B4 (el:=22) kr))) ?_;refine Gm (n:=104) AC 2 [(0,.sl 1 (x0.map (cdL 5 AA).enc)),(1,.sl 9 (x1.map AI.enc)),(20,.v (.bool (decide ((x0.length:Int) > 16))))] hp kr ?_;rcases BE (decide ((x0.length:Int) > 16)) with hc104 | hc104
  ·rw [if_pos hc104] at hj1
   rw [hc104];refine BM AC 4 ?_;have hq:=OI hj1; subst hq;exact CL rfl ⟨_,⟨hp,hT,rfl⟩,WkY.f1⟩
  ·rw [CK hc104] at hj1
   rw [hc104];refine BM AC 1 ?_;refine BL AC 0 rfl (CZ kr rfl (DS (a:= .sl 9 (x1.map AI.enc)) kr (B4 (el:=42) kr))) ?_;refine BM AC 2 ?_;have hq:=OI hj1; subst hq;exact CL rfl ⟨_,⟨hp,hT,rfl⟩,WkY.f1⟩
 rintro _ ⟨hp3,hT4,rfl⟩;refine Ec (b:=j1) kr (fun hb5=>?_) (fun hb5=>?_)
 ·rw [if_pos hb5] at h
  refine D0 AC [(4,.e0),(5,.v (.bool false))] ?_;refine SemY.ret ?_;have hq:=OI h; subst hq
  have hT6:=(T.e0 (k:=1) (ty:=48) (o:=(ocL 1 3 (ocV cdI))) hT4)
  obtain ⟨hp7,hw8,hT9⟩:=MQ (E:=E0) (n:=104) (l:=[(4,.e0),(5,.v (.bool false))]) (l':=[(4,.sl 1 (([]:(List (List Int))).map (cdL 1 cdI).enc)),(5,.v (.bool false))]) hT6 (LkT.at_ ⟨.inr ⟨kr,rfl⟩,.inl kr,trivial⟩);exact ⟨⟨Fr 104 [(4,.sl 1 (([]:(List (List Int))).map (cdL 1 cdI).enc)),(5,.v (.bool false))],hp7⟩,(WkY.trans (WkY.trans WkY.f1 hw8) WkY.f1),.inr rfl,[.sl 1 (([]:(List (List Int))).map (cdL 1 cdI).enc),.v (.bool false)],kr,⟨rfl,hT9⟩⟩
 ·rw [CK hb5] at h
  refine SemY.skip ?_;refine A8 ?_;refine Ar ?_;refine BM AC 1 ?_;refine BL AC 0 rfl (CZ (AB rfl) rfl (DS (a:= .sl 9 (x1.map AI.enc)) kr (B4 (el:=42) kr))) ?_;by_cases hk10:(Nx 24 (x1.length:Int))=true
  case neg=>rw [if_neg hk10] at h; cases h
  rw [if_pos hk10] at h;obtain ⟨e14,hp11,hb12,hT13⟩:=Ph (P:=Tryz.prog) (o:=(ocL 1 3 (ocV cdI))) (k:=1) (t:=48) (ty:=46) (bytes:=24) (kn:= .i64) (kc:= .i64) (m:=(x1.length:Int)) (x0:=([]:(List Int))) hT4 (fun _=> .inl ⟨rfl,rfl,rfl⟩) kr kr hk10;refine BL AC 0 rfl (Vo (AB rfl) rfl kr (Pj (x:= .v (.int .i64 (x1.length:Int))) (y:= .v (.int .i64 (x1.length:Int))) kr kr hb12)) ?_;refine Du AC [(0,.sl 1 (x0.map (cdL 5 AA).enc)),(1,.sl 9 (x1.map AI.enc)),(6,e14)] ?_;refine A8 ?_;refine A8 ?_;refine Ar ?_;refine BM AC 1 ?_;refine BL AC 0 rfl (CZ (AB rfl) rfl (DS (a:=e14) kr (YU hT13 kr))) ?_;refine Du AC [(0,.sl 1 (x0.map (cdL 5 AA).enc)),(1,.sl 9 (x1.map AI.enc)),(6,e14),(29,.v (.int .i64 ((List.replicate (x1.length:Int).toNat ([]:(List Int))).length:Int))),(30,.v (.int .i64 0))] ?_;refine DX ?_;refine SemY.loop (n:=100000) ?_;obtain ⟨r29,hr29,h⟩:=OB h;refine GY (Ew WkY.f1 (Lb x1 x0 e14 _ 0 (List.replicate (x1.length:Int).toNat ([]:(List Int))) _ hr29  hp11 hT13)) ?_;rintro _ ⟨hp30,hT31,rfl⟩;refine A8 ?_;refine Ar ?_;refine BM AC 1 ?_;obtain ⟨v32,hv32,h⟩:=OB h;refine Dt (v:=v32) (caps:=[]) (xs:=[.sl 9 (x1.map AI.enc)]) (u:=(x1,())) rfl rfl P6 rfl (AB rfl) kr kr (Bi (C5 (c:=(cdL 9 AI)) (v:=x1)) SeesD.nil) (.inr ⟨by kernel_rfl,HZ.de (x1,())⟩) hv32 ?_;refine Du AC [(0,.sl 1 (x0.map (cdL 5 AA).enc)),(6,e14),(8,.sl 10 (v32.map AF.enc))] ?_;refine A8 ?_;refine A8 ?_;refine Ar ?_;refine BM AC 1 ?_;refine BL AC 0 rfl (CZ (AB rfl) rfl (DS (a:= .sl 1 (x0.map (cdL 5 AA).enc)) kr (B4 (el:=22) kr))) ?_;refine Du AC [(6,e14),(8,.sl 10 (v32.map AF.enc)),(42,.sl 1 (x0.map (cdL 5 AA).enc)),(43,.v (.int .i64 (x0.length:Int))),(44,.v (.int .i64 0))] ?_;refine DX ?_;refine SemY.loop (n:=100000) ?_;obtain ⟨r90,hr90,h⟩:=OB h;rcases r90 with w91 | w97
  ·try dsimp only at h
   refine GY (Ew WkY.f1 (Ic x0 v32 e14 _ 0 r29 _ hr90  hp30 hT31)) ?_;rintro _ ⟨hp92,hT93,rfl⟩;refine D0 AC [(4,e14),(5,.v (.bool true))] ?_;refine SemY.ret ?_;have hq:=OI h; subst hq;obtain ⟨hp94,hw95,hT96⟩:=MQ (E:=E0) (n:=104) (l:=[(4,e14),(5,.v (.bool true))]) (l':=[(4,.sl 1 (w91.map (cdL 1 cdI).enc)),(5,.v (.bool true))]) hT93 (LkT.at_ ⟨.inr ⟨kr,rfl⟩,.inl kr,trivial⟩);exact ⟨⟨Fr 104 [(4,.sl 1 (w91.map (cdL 1 cdI).enc)),(5,.v (.bool true))],hp94⟩,(WkY.trans (WkY.trans WkY.f1 hw95) WkY.f1),.inr rfl,[.sl 1 (w91.map (cdL 1 cdI).enc),.v (.bool true)],kr,⟨rfl,hT96⟩⟩
  ·try dsimp only at h
   refine GY (Ew WkY.f1 (Ic x0 v32 e14 _ 0 r29 _ hr90  hp30 hT31)) ?_;rintro _ ⟨hp98,hT99,rfl⟩;have hq:=OI h; subst hq
   have hT100:=(T.e0 (k:=1) (ty:=48) (o:=(ocL 1 3 (ocV cdI))) hT99)
   obtain ⟨hp101,hw102,hT103⟩:=MQ (E:=E0) (n:=104) (l:=[(4,.e0),(5,.v (.bool false))]) (l':=[(4,.sl 1 (([]:(List (List Int))).map (cdL 1 cdI).enc)),(5,.v (.bool false))]) hT100 (LkT.at_ ⟨.inr ⟨kr,rfl⟩,.inl kr,trivial⟩);exact ⟨⟨Fr 104 [(4,.sl 1 (([]:(List (List Int))).map (cdL 1 cdI).enc)),(5,.v (.bool false))],hp101⟩,(WkY.trans (WkY.trans WkY.f1 hw102) WkY.f1),.inr rfl,[.sl 1 (([]:(List (List Int))).map (cdL 1 cdI).enc),.v (.bool false)],kr,⟨rfl,hT103⟩⟩
noncomputable def KU:Cs ((List (List AE))×(List Ax)×Unit):=(csC (cdL 1 (cdL 5 AA)) (csC (cdL 9 AI) csN))
noncomputable def KV (r:(List (List Int))×Bool):AV:= .tp [(cdL 1 (cdL 1 cdI)).enc r.1,cdB.enc r.2]
noncomputable def O4:List AV->Option AV:=EA KU (fun a=>En a.1 a.2.1) KV
theorem LH:XOk 107 O4:=by
 refine AW Tryz.func107 (c:=DT) ?h2 ⟨Tryz.call107⟩ KU (fun a=>En a.1 a.2.1) KV (fun a=>(by show 2<=104; decide)) ?h3 ?h4
 case h2=>kernel_rfl
 case h3=>intro b; kernel_rfl
 case h4 =>
  intro a b h;refine Sem.mono (R7 (Mp (L:=[]) (hp:=[]) a.1 a.2.1 b h T.nil)) fun e s' hs=>?_
  obtain ⟨h1,ys,h2,h3,-⟩:=hs;exact ⟨h1,ys,h2,h3⟩
/- trestle/court.Compromise -/
noncomputable def Br:Code:=Bn Tryz.f49
def CA (x0:(List (List AE))) (x1:(List Ax)):Nat->Int->Option ((Unit) ⊕ (Int×Int))
 | 0,_=>none
 | f + 1,c2 =>
  if (decide (c2 < (x0.length:Int)))=true then
  (idx x0 c2).bind fun v4 =>
  (El v4).bind fun v5 =>
  if (v5.2 != 0)=true then
  some (.inr (0,v5.2))
  else
  CA x0 x1 f (wr .i64 (c2 + 1))
  else
  some (.inl ())
def Dd (_x1:(List Ax)) (v12:(List (List Int))×Bool) (c18:Int) (_c21:(List Int)) (_c22:(List Int)) (c23:Int) (c29:Int) (c30:Int):Option ((Int)) :=
 if ((DO .i64 c18 (wr .i64 (1 * 2 ^ min c30.toNat 64)))==0)=true then
 (idx v12.1 c30).bind fun v34 =>
 (idx v34 c23).bind fun v35 =>
 some (wr .i64 (c29 + v35))
 else
 some c29
def BA (x1:(List Ax)) (v12:(List (List Int))×Bool) (c18:Int) (c21:(List Int)) (c22:(List Int)) (c23:Int):Nat->Int->Int->Option ((Int))
 | 0,_,_=>none
 | f + 1,c29,c30 =>
  if (decide (c30 < (x1.length:Int)))=true then
  if (decide (0<=c30))=true then
  (Dd x1 v12 c18 c21 c22 c23 c29 c30).bind fun r37 =>
  BA x1 v12 c18 c21 c22 c23 f r37 (wr .i64 (c30 + 1))
  else none
  else
  some c29
def Ct (_x1:(List Ax)) (_v12:(List (List Int))×Bool) (c18:Int) (c23:Int) (r39:Int) (j45:(List Int)×(List Int)×Bool):Option (((List Int)×(List Int))) :=
 if j45.2.2=true then
 (idx j45.1 c18).bind fun _v47 =>
 (idx j45.2.1 c18).bind fun _v48 =>
 some ((j45.1.set c18.toNat r39),(j45.2.1.set c18.toNat c23))
 else
 some (j45.1,j45.2.1)
def A9 (x1:(List Ax)) (v12:(List (List Int))×Bool) (c18:Int):Nat->(List Int)->(List Int)->Int->Option (((List Int)×(List Int)))
 | 0,_,_,_=>none
 | f + 1,c21,c22,c23 =>
  if (decide (c23 < (x1.length:Int)))=true then
  if (decide (0<=c23))=true then
  if ((DO .i64 c18 (wr .i64 (1 * 2 ^ min c23.toNat 64)))!=0)=true then
  A9 x1 v12 c18 f c21 c22 (wr .i64 (c23 + 1))
  else
  if (decide (0<=c23))=true then
  (idx c21 (orI .i64 c18 (wr .i64 (1 * 2 ^ min c23.toNat 64)))).bind fun v28 =>
  (BA x1 v12 c18 c21 c22 c23 100000 v28 0).bind fun r39 =>
  (idx c21 c18).bind fun v40 =>
  (if (decide (v40 < 0))=true then some (c21,c22,true) else (idx c21 c18).bind fun v41 =>
  some (c21,c22,(decide (r39 < v41)))).bind fun j45 =>
  (Ct x1 v12 c18 c23 r39 j45).bind fun r51 =>
  A9 x1 v12 c18 f r51.1 r51.2 (wr .i64 (c23 + 1))
  else none
  else none
  else
  some (c21,c22)
def CX (x1:(List Ax)) (v12:(List (List Int))×Bool):Nat->(List Int)->(List Int)->Int->Option (((List Int)×(List Int)))
 | 0,_,_,_=>none
 | f + 1,c16,c17,c18 =>
  if (decide (c18≥0))=true then
  (idx c16 c18).bind fun _v20 =>
  (A9 x1 v12 c18 100000 (c16.set c18.toNat (-1)) c17 0).bind fun r55 =>
  CX x1 v12 f r55.1 r55.2 (wr .i64 (c18 - 1))
  else
  some (c16,c17)
def CB (x1:(List Ax)) (r58:(List Int)×(List Int)):Nat->(List Int)->Int->Option (((List Int)))
 | 0,_,_=>none
 | f + 1,c59,c60 =>
  if (c60 != (wr .i64 ((wr .i64 (1 * 2 ^ min (x1.length:Int).toNat 64)) - 1)))=true then
  (idx r58.2 c60).bind fun v62 =>
  if (Fa 8 (c59.length + 1))=true then
  (idx r58.2 c60).bind fun v64 =>
  if (decide (0<=v64))=true then
  CB x1 r58 f (c59++[v62]) (orI .i64 c60 (wr .i64 (1 * 2 ^ min v64.toNat 64)))
  else none
  else none
  else
  some c59
def DH (x0:(List (List AE))) (x1:(List Ax)):Option ((List Int)×Int×Int) :=
 if (decide ((x0.length:Int) > 16))=true then
 some ([],0,7)
 else
 (CA x0 x1 100000 0).bind fun r9 =>
 match r9 with
 | (.inl _w10) =>
  if (decide ((x1.length:Int) > 7))=true then
  some ([],0,8)
  else
  (En x0 x1).bind fun v12 =>
  if (decide (0<=(x1.length:Int)))=true then
  if (Nx 8 (wr .i64 ((wr .i64 ((wr .i64 (1 * 2 ^ min (x1.length:Int).toNat 64)) - 1)) + 1)))=true then
  if (Nx 8 (wr .i64 ((wr .i64 ((wr .i64 (1 * 2 ^ min (x1.length:Int).toNat 64)) - 1)) + 1)))=true then
  (CX x1 v12 100000 (List.replicate (wr .i64 ((wr .i64 ((wr .i64 (1 * 2 ^ min (x1.length:Int).toNat 64)) - 1)) + 1)).toNat (0:Int)) (List.replicate (wr .i64 ((wr .i64 ((wr .i64 (1 * 2 ^ min (x1.length:Int).toNat 64)) - 1)) + 1)).toNat (0:Int)) (wr .i64 ((wr .i64 ((wr .i64 (1 * 2 ^ min (x1.length:Int).toNat 64)) - 1)) - 1))).bind fun r58 =>
  (CB x1 r58 100000 [] 0).bind fun r67 =>
  (idx r58.1 0).bind fun v68 =>
  some (r67,v68,0)
  else none
  else none
  else none
 | (.inr w69) =>
  some ([],w69.1,w69.2)
def EX:Cs ((List (List AE))×(List Ax)×Unit):=(csC (cdL 1 (cdL 5 AA)) (csC (cdL 9 AI) csN))
def Fe (r:(List Int)×Int×Int):AV:= .tp [(cdL 1 cdI).enc r.1,cdI.enc r.2.1,cdI.enc r.2.2]
theorem GX (x0:(List (List AE))) (x1:(List Ax)):∀ (f:Nat) (c2:Int) (r:(Unit) ⊕ (Int×Int)),CA x0 x1 f c2=some r->SemN E0 ⟨none,false⟩ (pc Br [1,1,0,1,0,0]) f ⟨Fr 148 [(0,.sl 1 (x0.map (cdL 5 AA).enc)),(1,.sl 9 (x1.map AI.enc)),(25,.sl 1 (x0.map (cdL 5 AA).enc)),(26,.v (.int .i64 (x0.length:Int))),(27,.v (.int .i64 c2))],[]⟩ (fun e s=>match r with
 | (.inl _w)=>e=(.exit 0)/\Wk E0 s ⟨Fr 148 [(0,.sl 1 (x0.map (cdL 5 AA).enc)),(1,.sl 9 (x1.map AI.enc))],[]⟩
 | (.inr w)=>e = .ret/\Wk E0 s ⟨Fr 148 [(4,.e0),(5,.v (.int .i64 w.1)),(6,.v (.int .i64 w.2))],[]⟩):=by
 intro f;induction f with
 | zero=>intro c2 r h; cases h
 | succ f ih0 =>
  intro c2 r h
  have ih:=fun (c2:Int)=>ih0 c2 r
  unfold CA at h;refine B6 ?_
  let p1:Nat×AV:=(27,.v (.int .i64 c2))
  let p2:Nat×AV:=(26,.v (.int .i64 (x0.length:Int)))
  let p3:Nat×AV:=(25,.sl 1 (x0.map (cdL 5 AA).enc))
  let p4:Nat×AV:=(1,.sl 9 (x1.map AI.enc))
  let p5:Nat×AV:=(0,.sl 1 (x0.map (cdL 5 AA).enc))
  refine AJ AC [p5,p4,p3,p2,p1,(28,.v (.bool (decide (c2 < (x0.length:Int)))))] [] ?_;refine AG ?_;refine AM (b:=(decide (c2 < (x0.length:Int)))) kr (fun hb3=>?_) (fun hb3=>?_)
  ·rw [if_pos hb3] at h
   refine AP ?_;refine AG ?_;refine Aj ?_;refine AG ?_;obtain ⟨v4,hv4,h⟩:=OB h;refine AH (s1:=⟨Fr 148 [p5,p4,(8,.sl 5 (v4.map AA.enc)),p3,p2,p1],[]⟩) ?_ ?_
   ·refine AK AC 0 rfl (CZ (AB rfl) rfl (AQ (a:= .sl 1 (x0.map (cdL 5 AA).enc)) (b:= .v (.int .i64 c2)) kr kr (GW (e:=(cdL 5 AA).enc) (el:=22) (k:=1) (ki:= .i64) kr kr hv4))) ?_
    exact AN AC
   refine AG ?_;obtain ⟨v5,hv5,h⟩:=OB h;refine AH (s1:=⟨Fr 148 [p5,p4,(10,.v (.int .i64 v5.2)),p3,p2,p1],[]⟩) ?_ ?_
   ·refine AD (n:=148) AC 1 [p5,p4,p3,p2,p1,(32,.sl 5 (v4.map AA.enc))] [] kr ?_
    refine Ai (caps:=[]) (xs:=[.sl 5 (v4.map AA.enc)]) (u:=(v4,())) rfl rfl LF rfl (AB rfl) kr kr (AU (Ao (c:=(cdL 5 AA)) (v:=v4)) Bf) (.inl kr) hv5 ?_;exact AN AC
   refine AJ AC [p5,p4,(10,.v (.int .i64 v5.2)),p3,p2,p1,(37,.v (.bool (v5.2 != 0)))] [] ?_;refine AM (b:=(v5.2 != 0)) kr (fun hb6=>?_) (fun hb6=>?_)
   ·rw [if_pos hb6] at h
    refine AJ AC [(4,.e0),(5,.v (.int .i64 0)),(6,.v (.int .i64 v5.2))] [] ?_;refine AT ?_;have hq:=OI h; subst hq;exact ⟨rfl,AO⟩
   ·rw [CK hb6] at h
    refine AP ?_
    let p6:Nat×AV:=(27,.v (.int .i64 (wr .i64 (c2 + 1))))
    refine DD AC [p5,p4,p3,p2,p6] [] ?_;exact Aw (s1:=⟨Fr 148 [p5,p4,p3,p2,p6],[]⟩) AO (ih (wr .i64 (c2 + 1)) h)
  ·rw [CK hb3] at h
   refine Cc ?_;have hq:=OI h; subst hq;exact ⟨rfl,AO⟩
theorem JV (x1:(List Ax)) (v12:(List (List Int))×Bool) (c18:Int) (c21:(List Int)) (c22:(List Int)) (c23:Int) (c29:Int) (c30:Int) (r:(Int)) (h:Dd x1 v12 c18 c21 c22 c23 c29 c30=some r):Sem E0 ⟨none,false⟩ (pc Br [1,1,1,1,1,1,1,1,0,1,0,0,1,0,0,1,1,0,0,1,1,0,0,1,1,1,0,1,0,0,1,1,0,0,1,1]) ⟨Fr 148 [(1,.sl 9 (x1.map AI.enc)),(11,.sl 1 (v12.1.map (cdL 1 cdI).enc)),(13,.v (.int .i64 (wr .i64 ((wr .i64 (1 * 2 ^ min (x1.length:Int).toNat 64)) - 1)))),(14,.rf 0 0 c21.length c21.length),(15,.rf 1 0 c22.length c22.length),(16,.v (.int .i64 c18)),(17,.v (.int .i64 c23)),(18,.v (.int .i64 c29)),(19,.v (.int .i64 c30)),(69,.v (.int .i64 (x1.length:Int))),(70,.v (.int .i64 c23)),(86,.v (.int .i64 (x1.length:Int))),(87,.v (.int .i64 c30)),(94,.v (.bool ((DO .i64 c18 (wr .i64 (1 * 2 ^ min c30.toNat 64)))==0)))],[some ⟨1,3,(c21.map cdI.enc),false⟩,some ⟨1,3,(c22.map cdI.enc),false⟩]⟩ (fun e s=>e = .normal/\Wk E0 s ⟨Fr 148 [(1,.sl 9 (x1.map AI.enc)),(11,.sl 1 (v12.1.map (cdL 1 cdI).enc)),(13,.v (.int .i64 (wr .i64 ((wr .i64 (1 * 2 ^ min (x1.length:Int).toNat 64)) - 1)))),(14,.rf 0 0 c21.length c21.length),(15,.rf 1 0 c22.length c22.length),(16,.v (.int .i64 c18)),(17,.v (.int .i64 c23)),(18,.v (.int .i64 r)),(69,.v (.int .i64 (x1.length:Int))),(70,.v (.int .i64 c23)),(86,.v (.int .i64 (x1.length:Int))),(87,.v (.int .i64 c30))],[some ⟨1,3,(c21.map cdI.enc),false⟩,some ⟨1,3,(c22.map cdI.enc),false⟩]⟩):=by
 unfold Dd at h;refine AM (b:=((DO .i64 c18 (wr .i64 (1 * 2 ^ min c30.toNat 64)))==0)) kr (fun hb33=>?_) (fun hb33=>?_)
 ·rw [if_pos hb33] at h
  obtain ⟨v34,hv34,h⟩:=OB h;obtain ⟨v35,hv35,h⟩:=OB h
  let p1:Option Blk:=some ⟨1,3,(c22.map cdI.enc),false⟩
  let p2:Option Blk:=some ⟨1,3,(c21.map cdI.enc),false⟩
  let p3:Nat×AV:=(87,.v (.int .i64 c30))
  let p4:Nat×AV:=(86,.v (.int .i64 (x1.length:Int)))
  let p5:Nat×AV:=(70,.v (.int .i64 c23))
  let p6:Nat×AV:=(69,.v (.int .i64 (x1.length:Int)))
  let p7:Nat×AV:=(17,.v (.int .i64 c23))
  let p8:Nat×AV:=(16,.v (.int .i64 c18))
  let p9:Nat×AV:=(15,.rf 1 0 c22.length c22.length)
  let p10:Nat×AV:=(14,.rf 0 0 c21.length c21.length)
  let p11:Nat×AV:=(13,.v (.int .i64 (wr .i64 ((wr .i64 (1 * 2 ^ min (x1.length:Int).toNat 64)) - 1))))
  let p12:Nat×AV:=(11,.sl 1 (v12.1.map (cdL 1 cdI).enc))
  let p13:Nat×AV:=(1,.sl 9 (x1.map AI.enc))
  refine AH (s1:=⟨Fr 148 [p13,p12,p11,p10,p9,p8,p7,(18,.v (.int .i64 (wr .i64 (c29 + v35)))),p6,p5,p4,p3],[p2,p1]⟩) ?_ ?_
  ·refine AD (n:=148) AC 3 [p13,p12,p11,p10,p9,p8,p7,p6,p5,p4,p3,(95,.v (.int .i64 c29)),(96,.sl 1 (v12.1.map (cdL 1 cdI).enc)),(97,.v (.int .i64 c30))] [p2,p1] kr ?_
   refine AK AC 0 rfl (CZ (AB rfl) rfl (AQ (a:= .sl 1 (v12.1.map (cdL 1 cdI).enc)) (b:= .v (.int .i64 c30)) kr kr (GW (e:=(cdL 1 cdI).enc) (el:=48) (k:=1) (ki:= .i64) kr kr hv34))) ?_;refine AD (n:=148) AC 2 [p13,p12,p11,p10,p9,p8,p7,p6,p5,p4,p3,(95,.v (.int .i64 c29)),(99,.sl 1 (v34.map cdI.enc)),(100,.v (.int .i64 c23))] [p2,p1] kr ?_;refine AK AC 0 rfl (CZ (AB rfl) rfl (AQ (a:= .sl 1 (v34.map cdI.enc)) (b:= .v (.int .i64 c23)) kr kr (GW (e:=cdI.enc) (el:=3) (k:=1) (ki:= .i64) kr kr hv35))) ?_;exact AN AC
  have hq:=OI h; subst hq;exact ⟨rfl,(AZ [0,1] ⟨⟨_,rfl,Bu⟩,⟨_,rfl,Bu⟩,trivial⟩ ⟨lv,lv,lv,lv,lv,lv,lv,lv,lv,lv,lv,lv,trivial⟩)⟩
 ·rw [CK hb33] at h
  refine AP ?_;have hq:=OI h; subst hq;exact ⟨rfl,(AZ [0,1] ⟨⟨_,rfl,Bu⟩,⟨_,rfl,Bu⟩,trivial⟩ ⟨lv,lv,lv,lv,lv,lv,lv,lv,lv,lv,lv,lv,trivial⟩)⟩
theorem JZ (x1:(List Ax)) (v12:(List (List Int))×Bool) (c18:Int) (c21:(List Int)) (c22:(List Int)) (c23:Int):∀ (f:Nat) (c29:Int) (c30:Int) (r:(Int)),BA x1 v12 c18 c21 c22 c23 f c29 c30=some r->SemN E0 ⟨none,false⟩ (pc Br [1,1,1,1,1,1,1,1,0,1,0,0,1,0,0,1,1,0,0,1,1,0,0,1,1,1,0,1,0,0]) f ⟨Fr 148 [(1,.sl 9 (x1.map AI.enc)),(11,.sl 1 (v12.1.map (cdL 1 cdI).enc)),(13,.v (.int .i64 (wr .i64 ((wr .i64 (1 * 2 ^ min (x1.length:Int).toNat 64)) - 1)))),(14,.rf 0 0 c21.length c21.length),(15,.rf 1 0 c22.length c22.length),(16,.v (.int .i64 c18)),(17,.v (.int .i64 c23)),(18,.v (.int .i64 c29)),(69,.v (.int .i64 (x1.length:Int))),(70,.v (.int .i64 c23)),(86,.v (.int .i64 (x1.length:Int))),(87,.v (.int .i64 c30))],[some ⟨1,3,(c21.map cdI.enc),false⟩,some ⟨1,3,(c22.map cdI.enc),false⟩]⟩ (fun e s=>e=(.exit 6)/\Wk E0 s ⟨Fr 148 [(1,.sl 9 (x1.map AI.enc)),(11,.sl 1 (v12.1.map (cdL 1 cdI).enc)),(13,.v (.int .i64 (wr .i64 ((wr .i64 (1 * 2 ^ min (x1.length:Int).toNat 64)) - 1)))),(14,.rf 0 0 c21.length c21.length),(15,.rf 1 0 c22.length c22.length),(16,.v (.int .i64 c18)),(17,.v (.int .i64 c23)),(18,.v (.int .i64 r)),(69,.v (.int .i64 (x1.length:Int))),(70,.v (.int .i64 c23))],[some ⟨1,3,(c21.map cdI.enc),false⟩,some ⟨1,3,(c22.map cdI.enc),false⟩]⟩):=by
 intro f;induction f with
 | zero=>intro c29 c30 r h; cases h
 | succ f ih0 =>
  intro c29 c30 r h
  have ih:=fun (c29:Int) (c30:Int)=>ih0 c29 c30 r
  unfold BA at h;refine B6 ?_
  let p1:Option Blk:=some ⟨1,3,(c22.map cdI.enc),false⟩
  let p2:Option Blk:=some ⟨1,3,(c21.map cdI.enc),false⟩
  let p3:Nat×AV:=(87,.v (.int .i64 c30))
  let p4:Nat×AV:=(86,.v (.int .i64 (x1.length:Int)))
  let p5:Nat×AV:=(70,.v (.int .i64 c23))
  let p6:Nat×AV:=(69,.v (.int .i64 (x1.length:Int)))
  let p7:Nat×AV:=(18,.v (.int .i64 c29))
  let p8:Nat×AV:=(17,.v (.int .i64 c23))
  let p9:Nat×AV:=(16,.v (.int .i64 c18))
  let p10:Nat×AV:=(15,.rf 1 0 c22.length c22.length)
  let p11:Nat×AV:=(14,.rf 0 0 c21.length c21.length)
  let p12:Nat×AV:=(13,.v (.int .i64 (wr .i64 ((wr .i64 (1 * 2 ^ min (x1.length:Int).toNat 64)) - 1))))
  let p13:Nat×AV:=(11,.sl 1 (v12.1.map (cdL 1 cdI).enc))
  let p14:Nat×AV:=(1,.sl 9 (x1.map AI.enc))
  refine AJ AC [p14,p13,p12,p11,p10,p9,p8,p7,p6,p5,p4,p3,(88,.v (.bool (decide (c30 < (x1.length:Int)))))] [p2,p1] ?_;refine AG ?_;refine AM (b:=(decide (c30 < (x1.length:Int)))) kr (fun hb31=>?_) (fun hb31=>?_)
  ·rw [if_pos hb31] at h
   refine AP ?_;refine AG ?_;refine Aj ?_
   let p15:Nat×AV:=(19,.v (.int .i64 c30))
   refine AJ AC [p14,p13,p12,p11,p10,p9,p8,p7,p15,p6,p5,p4,p3] [p2,p1] ?_;refine AG ?_;by_cases hk32:(decide (0<=c30))=true
   case neg=>rw [if_neg hk32] at h; cases h
   rw [if_pos hk32] at h;refine AH (s1:=⟨Fr 148 [p14,p13,p12,p11,p10,p9,p8,p7,p15,p6,p5,p4,p3,(94,.v (.bool ((DO .i64 c18 (wr .i64 (1 * 2 ^ min c30.toNat 64)))==0)))],[p2,p1]⟩) ?_ ?_
   ·refine AD (n:=148) AC 2 [p14,p13,p12,p11,p10,p9,p8,p7,p15,p6,p5,p4,p3,(90,.v (.int .i64 c18)),(91,.v (.int .i64 c30))] [p2,p1] kr ?_
    refine AK AC 0 rfl (CZ (AB rfl) rfl (Pq (a:= .v (.int .i64 1)) (b:= .v (.int .i64 c30)) kr kr (Mg hk32))) ?_;exact AN AC
   obtain ⟨r37,hr37,h⟩:=OB h;refine Cg (JV x1 v12 c18 c21 c22 c23 c29 c30 _ hr37) ?_
   let p16:Nat×AV:=(87,.v (.int .i64 (wr .i64 (c30 + 1))))
   refine DD AC [p14,p13,p12,p11,p10,p9,p8,(18,.v (.int .i64 r37)),p6,p5,p4,p16] [p2,p1] ?_;exact Aw (s1:=⟨Fr 148 [p14,p13,p12,p11,p10,p9,p8,(18,.v (.int .i64 r37)),p6,p5,p4,p16],[p2,p1]⟩) (AZ [0,1] ⟨⟨_,rfl,Bu⟩,⟨_,rfl,Bu⟩,trivial⟩ ⟨lv,lv,lv,lv,lv,lv,lv,lv,lv,lv,lv,lv,trivial⟩) (ih r37 (wr .i64 (c30 + 1)) h)
  ·rw [CK hb31] at h
   refine Cc ?_;have hq:=OI h; subst hq;exact ⟨rfl,(AZ [0,1] ⟨⟨_,rfl,Bu⟩,⟨_,rfl,Bu⟩,trivial⟩ ⟨lv,lv,lv,lv,lv,lv,lv,lv,lv,lv,trivial⟩)⟩
theorem JW (x1:(List Ax)) (v12:(List (List Int))×Bool) (c18:Int) (c23:Int) (r39:Int) (j45:(List Int)×(List Int)×Bool) (r:((List Int)×(List Int))) (h:Ct x1 v12 c18 c23 r39 j45=some r):Sem E0 ⟨none,false⟩ (pc Br [1,1,1,1,1,1,1,1,0,1,0,0,1,0,0,1,1,0,0,1,1,0,0,1,1,1,1,1]) ⟨Fr 148 [(1,.sl 9 (x1.map AI.enc)),(11,.sl 1 (v12.1.map (cdL 1 cdI).enc)),(13,.v (.int .i64 (wr .i64 ((wr .i64 (1 * 2 ^ min (x1.length:Int).toNat 64)) - 1)))),(14,.rf 0 0 j45.1.length j45.1.length),(15,.rf 1 0 j45.2.1.length j45.2.1.length),(16,.v (.int .i64 c18)),(17,.v (.int .i64 c23)),(18,.v (.int .i64 r39)),(69,.v (.int .i64 (x1.length:Int))),(70,.v (.int .i64 c23)),(117,.v (.bool j45.2.2))],[some ⟨1,3,(j45.1.map cdI.enc),false⟩,some ⟨1,3,(j45.2.1.map cdI.enc),false⟩]⟩ (fun e s=>e = .normal/\Wk E0 s ⟨Fr 148 [(1,.sl 9 (x1.map AI.enc)),(11,.sl 1 (v12.1.map (cdL 1 cdI).enc)),(13,.v (.int .i64 (wr .i64 ((wr .i64 (1 * 2 ^ min (x1.length:Int).toNat 64)) - 1)))),(14,.rf 0 0 r.1.length r.1.length),(15,.rf 1 0 r.2.length r.2.length),(16,.v (.int .i64 c18)),(69,.v (.int .i64 (x1.length:Int))),(70,.v (.int .i64 c23))],[some ⟨1,3,(r.1.map cdI.enc),false⟩,some ⟨1,3,(r.2.map cdI.enc),false⟩]⟩):=by
 unfold Ct at h;refine AM (b:=j45.2.2) kr (fun hb46=>?_) (fun hb46=>?_)
 ·rw [if_pos hb46] at h
  obtain ⟨v47,hv47,h⟩:=OB h;obtain ⟨v48,hv48,h⟩:=OB h
  let p1:Nat×AV:=(69,.v (.int .i64 (x1.length:Int)))
  let p2:Nat×AV:=(13,.v (.int .i64 (wr .i64 ((wr .i64 (1 * 2 ^ min (x1.length:Int).toNat 64)) - 1))))
  let p3:Nat×AV:=(11,.sl 1 (v12.1.map (cdL 1 cdI).enc))
  refine AH (s1:=⟨Fr 148 [(1,.sl 9 (x1.map AI.enc)),p3,p2,(14,.rf 0 0 (j45.1.set c18.toNat r39).length (j45.1.set c18.toNat r39).length),(15,.rf 1 0 (j45.2.1.set c18.toNat c23).length (j45.2.1.set c18.toNat c23).length),(16,.v (.int .i64 c18)),p1,(70,.v (.int .i64 c23))],[some ⟨1,3,((j45.1.set c18.toNat r39).map cdI.enc),false⟩,some ⟨1,3,((j45.2.1.set c18.toNat c23).map cdI.enc),false⟩]⟩) ?_ ?_
  ·refine AD (n:=148) AC 6 [(1,.sl 9 (x1.map AI.enc)),p3,p2,(14,.rf 0 0 j45.1.length j45.1.length),(15,.rf 1 0 j45.2.1.length j45.2.1.length),(16,.v (.int .i64 c18)),p1,(70,.v (.int .i64 c23)),(118,.rf 0 0 j45.1.length j45.1.length),(119,.v (.int .i64 c18)),(120,.rf 1 0 j45.2.1.length j45.2.1.length),(121,.v (.int .i64 c18)),(122,.v (.int .i64 r39)),(123,.v (.int .i64 c23))] [some ⟨1,3,(j45.1.map cdI.enc),false⟩,some ⟨1,3,(j45.2.1.map cdI.enc),false⟩] kr ?_
   refine AK AC 0 rfl (CZ (AB rfl) rfl (AQ (a:= .rf 0 0 j45.1.length j45.1.length) (b:= .v (.int .i64 c18)) kr kr (M5 (e:=cdI.enc) (xs:=j45.1) (t':=3) (el:=3) (k:=1) (ki:= .i64) kr kr kr hv47))) ?_;refine RunS.store AC (y:= .pt 0 c18.toNat 0) (z:= .v (.int .i64 r39)) rfl (AB rfl) kr kr (RK (t':=3) (k:=1) (e:=cdI.enc) (xs:=j45.1) (v:=v47) (v':=r39) kr (EJ hv47).2 kr kr kr) ?_;refine AK AC 0 rfl (CZ (AB rfl) rfl (AQ (a:= .rf 1 0 j45.2.1.length j45.2.1.length) (b:= .v (.int .i64 c18)) kr kr (M5 (e:=cdI.enc) (xs:=j45.2.1) (t':=3) (el:=3) (k:=1) (ki:= .i64) kr kr kr hv48))) ?_;refine RunS.store AC (y:= .pt 1 c18.toNat 0) (z:= .v (.int .i64 c23)) rfl (AB rfl) kr kr (RK (t':=3) (k:=1) (e:=cdI.enc) (xs:=j45.2.1) (v:=v48) (v':=c23) kr (EJ hv48).2 kr kr kr) ?_;exact AL rfl (AZ [0,1] ⟨⟨_,rfl,Bu⟩,⟨_,rfl,Bu⟩,trivial⟩ ⟨lv,lv,lv,Tx (b':=0) (n:=j45.1.length) kr (by simp) kr,Tx (b':=1) (n:=j45.2.1.length) kr (by simp) kr,lv,lv,lv,trivial⟩)
  have hq:=OI h; subst hq;exact ⟨rfl,(AZ [0,1] ⟨⟨_,rfl,Bu⟩,⟨_,rfl,Bu⟩,trivial⟩ ⟨lv,lv,lv,lv,lv,lv,lv,lv,trivial⟩)⟩
 ·rw [CK hb46] at h
  refine AP ?_;have hq:=OI h; subst hq;exact ⟨rfl,(AZ [0,1] ⟨⟨_,rfl,Bu⟩,⟨_,rfl,Bu⟩,trivial⟩ ⟨lv,lv,lv,lv,lv,lv,lv,lv,trivial⟩)⟩
theorem JY (x1:(List Ax)) (v12:(List (List Int))×Bool) (c18:Int):∀ (f:Nat) (c21:(List Int)) (c22:(List Int)) (c23:Int) (r:((List Int)×(List Int))),A9 x1 v12 c18 f c21 c22 c23=some r->SemN E0 ⟨none,false⟩ (pc Br [1,1,1,1,1,1,1,1,0,1,0,0,1,0,0,1,1,0,0]) f ⟨Fr 148 [(1,.sl 9 (x1.map AI.enc)),(11,.sl 1 (v12.1.map (cdL 1 cdI).enc)),(13,.v (.int .i64 (wr .i64 ((wr .i64 (1 * 2 ^ min (x1.length:Int).toNat 64)) - 1)))),(14,.rf 0 0 c21.length c21.length),(15,.rf 1 0 c22.length c22.length),(16,.v (.int .i64 c18)),(69,.v (.int .i64 (x1.length:Int))),(70,.v (.int .i64 c23))],[some ⟨1,3,(c21.map cdI.enc),false⟩,some ⟨1,3,(c22.map cdI.enc),false⟩]⟩ (fun e s=>e=(.exit 4)/\Wk E0 s ⟨Fr 148 [(1,.sl 9 (x1.map AI.enc)),(11,.sl 1 (v12.1.map (cdL 1 cdI).enc)),(13,.v (.int .i64 (wr .i64 ((wr .i64 (1 * 2 ^ min (x1.length:Int).toNat 64)) - 1)))),(14,.rf 0 0 r.1.length r.1.length),(15,.rf 1 0 r.2.length r.2.length),(16,.v (.int .i64 c18))],[some ⟨1,3,(r.1.map cdI.enc),false⟩,some ⟨1,3,(r.2.map cdI.enc),false⟩]⟩):=by
 intro f;induction f with
 | zero=>intro c21 c22 c23 r h; cases h
 | succ f ih0 =>
  intro c21 c22 c23 r h
  have ih:=fun (c21:(List Int)) (c22:(List Int)) (c23:Int)=>ih0 c21 c22 c23 r
  unfold A9 at h;refine B6 ?_;refine AJ AC [(1,.sl 9 (x1.map AI.enc)),(11,.sl 1 (v12.1.map (cdL 1 cdI).enc)),(13,.v (.int .i64 (wr .i64 ((wr .i64 (1 * 2 ^ min (x1.length:Int).toNat 64)) - 1)))),(14,.rf 0 0 c21.length c21.length),(15,.rf 1 0 c22.length c22.length),(16,.v (.int .i64 c18)),(69,.v (.int .i64 (x1.length:Int))),(70,.v (.int .i64 c23)),(71,.v (.bool (decide (c23 < (x1.length:Int)))))] [some ⟨1,3,(c21.map cdI.enc),false⟩,some ⟨1,3,(c22.map cdI.enc),false⟩] ?_;refine AG ?_;refine AM (b:=(decide (c23 < (x1.length:Int)))) kr (fun hb24=>?_) (fun hb24=>?_)
  ·rw [if_pos hb24] at h
   refine AP ?_;refine AG ?_;refine Aj ?_;refine AJ AC [(1,.sl 9 (x1.map AI.enc)),(11,.sl 1 (v12.1.map (cdL 1 cdI).enc)),(13,.v (.int .i64 (wr .i64 ((wr .i64 (1 * 2 ^ min (x1.length:Int).toNat 64)) - 1)))),(14,.rf 0 0 c21.length c21.length),(15,.rf 1 0 c22.length c22.length),(16,.v (.int .i64 c18)),(17,.v (.int .i64 c23)),(69,.v (.int .i64 (x1.length:Int))),(70,.v (.int .i64 c23))] [some ⟨1,3,(c21.map cdI.enc),false⟩,some ⟨1,3,(c22.map cdI.enc),false⟩] ?_;refine AG ?_;refine AG ?_;by_cases hk25:(decide (0<=c23))=true
   case neg=>rw [if_neg hk25] at h; cases h
   rw [if_pos hk25] at h;refine AH (s1:=⟨Fr 148 [(1,.sl 9 (x1.map AI.enc)),(11,.sl 1 (v12.1.map (cdL 1 cdI).enc)),(13,.v (.int .i64 (wr .i64 ((wr .i64 (1 * 2 ^ min (x1.length:Int).toNat 64)) - 1)))),(14,.rf 0 0 c21.length c21.length),(15,.rf 1 0 c22.length c22.length),(16,.v (.int .i64 c18)),(17,.v (.int .i64 c23)),(69,.v (.int .i64 (x1.length:Int))),(70,.v (.int .i64 c23)),(77,.v (.bool ((DO .i64 c18 (wr .i64 (1 * 2 ^ min c23.toNat 64)))!=0)))],[some ⟨1,3,(c21.map cdI.enc),false⟩,some ⟨1,3,(c22.map cdI.enc),false⟩]⟩) ?_ ?_
   ·refine AD (n:=148) AC 2 [(1,.sl 9 (x1.map AI.enc)),(11,.sl 1 (v12.1.map (cdL 1 cdI).enc)),(13,.v (.int .i64 (wr .i64 ((wr .i64 (1 * 2 ^ min (x1.length:Int).toNat 64)) - 1)))),(14,.rf 0 0 c21.length c21.length),(15,.rf 1 0 c22.length c22.length),(16,.v (.int .i64 c18)),(17,.v (.int .i64 c23)),(69,.v (.int .i64 (x1.length:Int))),(70,.v (.int .i64 c23)),(73,.v (.int .i64 c18)),(74,.v (.int .i64 c23))] [some ⟨1,3,(c21.map cdI.enc),false⟩,some ⟨1,3,(c22.map cdI.enc),false⟩] kr ?_
    refine AK AC 0 rfl (CZ (AB rfl) rfl (Pq (a:= .v (.int .i64 1)) (b:= .v (.int .i64 c23)) kr kr (Mg hk25))) ?_;exact AN AC
   refine AM (b:=((DO .i64 c18 (wr .i64 (1 * 2 ^ min c23.toNat 64)))!=0)) kr (fun hb26=>?_) (fun hb26=>?_)
   ·rw [if_pos hb26] at h
    refine Cc ?_;refine DD AC [(1,.sl 9 (x1.map AI.enc)),(11,.sl 1 (v12.1.map (cdL 1 cdI).enc)),(13,.v (.int .i64 (wr .i64 ((wr .i64 (1 * 2 ^ min (x1.length:Int).toNat 64)) - 1)))),(14,.rf 0 0 c21.length c21.length),(15,.rf 1 0 c22.length c22.length),(16,.v (.int .i64 c18)),(69,.v (.int .i64 (x1.length:Int))),(70,.v (.int .i64 (wr .i64 (c23 + 1))))] [some ⟨1,3,(c21.map cdI.enc),false⟩,some ⟨1,3,(c22.map cdI.enc),false⟩] ?_;exact Aw (s1:=⟨Fr 148 [(1,.sl 9 (x1.map AI.enc)),(11,.sl 1 (v12.1.map (cdL 1 cdI).enc)),(13,.v (.int .i64 (wr .i64 ((wr .i64 (1 * 2 ^ min (x1.length:Int).toNat 64)) - 1)))),(14,.rf 0 0 c21.length c21.length),(15,.rf 1 0 c22.length c22.length),(16,.v (.int .i64 c18)),(69,.v (.int .i64 (x1.length:Int))),(70,.v (.int .i64 (wr .i64 (c23 + 1))))],[some ⟨1,3,(c21.map cdI.enc),false⟩,some ⟨1,3,(c22.map cdI.enc),false⟩]⟩) (AZ [0,1] ⟨⟨_,rfl,Bu⟩,⟨_,rfl,Bu⟩,trivial⟩ ⟨lv,lv,lv,lv,lv,lv,lv,lv,trivial⟩) (ih c21 c22 (wr .i64 (c23 + 1)) h)
   ·rw [CK hb26] at h
    refine AP ?_;refine AG ?_;by_cases hk27:(decide (0<=c23))=true
    case neg=>rw [if_neg hk27] at h; cases h
    rw [if_pos hk27] at h;obtain ⟨v28,hv28,h⟩:=OB h;refine AH (s1:=⟨Fr 148 [(1,.sl 9 (x1.map AI.enc)),(11,.sl 1 (v12.1.map (cdL 1 cdI).enc)),(13,.v (.int .i64 (wr .i64 ((wr .i64 (1 * 2 ^ min (x1.length:Int).toNat 64)) - 1)))),(14,.rf 0 0 c21.length c21.length),(15,.rf 1 0 c22.length c22.length),(16,.v (.int .i64 c18)),(17,.v (.int .i64 c23)),(18,.v (.int .i64 v28)),(69,.v (.int .i64 (x1.length:Int))),(70,.v (.int .i64 c23))],[some ⟨1,3,(c21.map cdI.enc),false⟩,some ⟨1,3,(c22.map cdI.enc),false⟩]⟩) ?_ ?_
    ·refine AD (n:=148) AC 3 [(1,.sl 9 (x1.map AI.enc)),(11,.sl 1 (v12.1.map (cdL 1 cdI).enc)),(13,.v (.int .i64 (wr .i64 ((wr .i64 (1 * 2 ^ min (x1.length:Int).toNat 64)) - 1)))),(14,.rf 0 0 c21.length c21.length),(15,.rf 1 0 c22.length c22.length),(16,.v (.int .i64 c18)),(17,.v (.int .i64 c23)),(69,.v (.int .i64 (x1.length:Int))),(70,.v (.int .i64 c23)),(78,.rf 0 0 c21.length c21.length),(79,.v (.int .i64 c18)),(80,.v (.int .i64 c23))] [some ⟨1,3,(c21.map cdI.enc),false⟩,some ⟨1,3,(c22.map cdI.enc),false⟩] kr ?_
     refine AK AC 0 rfl (CZ (AB rfl) rfl (Pq (a:= .v (.int .i64 1)) (b:= .v (.int .i64 c23)) kr kr (Mg hk27))) ?_;refine AD (n:=148) AC 1 [(1,.sl 9 (x1.map AI.enc)),(11,.sl 1 (v12.1.map (cdL 1 cdI).enc)),(13,.v (.int .i64 (wr .i64 ((wr .i64 (1 * 2 ^ min (x1.length:Int).toNat 64)) - 1)))),(14,.rf 0 0 c21.length c21.length),(15,.rf 1 0 c22.length c22.length),(16,.v (.int .i64 c18)),(17,.v (.int .i64 c23)),(69,.v (.int .i64 (x1.length:Int))),(70,.v (.int .i64 c23)),(78,.rf 0 0 c21.length c21.length),(82,.v (.int .i64 (orI .i64 c18 (wr .i64 (1 * 2 ^ min c23.toNat 64)))))] [some ⟨1,3,(c21.map cdI.enc),false⟩,some ⟨1,3,(c22.map cdI.enc),false⟩] kr ?_;refine AK AC 0 rfl (CZ (AB rfl) rfl (AQ (a:= .rf 0 0 c21.length c21.length) (b:= .v (.int .i64 (orI .i64 c18 (wr .i64 (1 * 2 ^ min c23.toNat 64))))) kr kr (M5 (e:=cdI.enc) (xs:=c21) (t':=3) (el:=3) (k:=1) (ki:= .i64) kr kr kr hv28))) ?_;refine AK AC 0 rfl (CZ (AB rfl) rfl (Hw (p:= .pt 0 ((orI .i64 c18 (wr .i64 (1 * 2 ^ min c23.toNat 64))).toNat) 0) kr (M8 (B:=⟨1,3,(c21.map cdI.enc),false⟩) (m:=1) (g:=false) (e:=cdI.enc) (xs:=c21) kr kr kr rfl (EJ hv28).2 kr))) ?_;exact AN AC
    refine AG ?_;refine AG ?_;refine AH (s1:=⟨Fr 148 [(1,.sl 9 (x1.map AI.enc)),(11,.sl 1 (v12.1.map (cdL 1 cdI).enc)),(13,.v (.int .i64 (wr .i64 ((wr .i64 (1 * 2 ^ min (x1.length:Int).toNat 64)) - 1)))),(14,.rf 0 0 c21.length c21.length),(15,.rf 1 0 c22.length c22.length),(16,.v (.int .i64 c18)),(17,.v (.int .i64 c23)),(18,.v (.int .i64 v28)),(69,.v (.int .i64 (x1.length:Int))),(70,.v (.int .i64 c23)),(86,.v (.int .i64 (x1.length:Int))),(87,.v (.int .i64 0))],[some ⟨1,3,(c21.map cdI.enc),false⟩,some ⟨1,3,(c22.map cdI.enc),false⟩]⟩) ?_ ?_
    ·refine AD (n:=148) AC 1 [(1,.sl 9 (x1.map AI.enc)),(11,.sl 1 (v12.1.map (cdL 1 cdI).enc)),(13,.v (.int .i64 (wr .i64 ((wr .i64 (1 * 2 ^ min (x1.length:Int).toNat 64)) - 1)))),(14,.rf 0 0 c21.length c21.length),(15,.rf 1 0 c22.length c22.length),(16,.v (.int .i64 c18)),(17,.v (.int .i64 c23)),(18,.v (.int .i64 v28)),(69,.v (.int .i64 (x1.length:Int))),(70,.v (.int .i64 c23)),(85,.sl 9 (x1.map AI.enc))] [some ⟨1,3,(c21.map cdI.enc),false⟩,some ⟨1,3,(c22.map cdI.enc),false⟩] kr ?_
     refine AK AC 0 rfl (CZ (AB rfl) rfl (DS (a:= .sl 9 (x1.map AI.enc)) kr (B4 (el:=42) kr))) ?_;exact AN AC
    refine Aj ?_;obtain ⟨r39,hr39,h⟩:=OB h;refine Ch (n:=100000) ?_;refine BQ (Aw (s1:=⟨Fr 148 [(1,.sl 9 (x1.map AI.enc)),(11,.sl 1 (v12.1.map (cdL 1 cdI).enc)),(13,.v (.int .i64 (wr .i64 ((wr .i64 (1 * 2 ^ min (x1.length:Int).toNat 64)) - 1)))),(14,.rf 0 0 c21.length c21.length),(15,.rf 1 0 c22.length c22.length),(16,.v (.int .i64 c18)),(17,.v (.int .i64 c23)),(18,.v (.int .i64 v28)),(69,.v (.int .i64 (x1.length:Int))),(70,.v (.int .i64 c23)),(86,.v (.int .i64 (x1.length:Int))),(87,.v (.int .i64 0))],[some ⟨1,3,(c21.map cdI.enc),false⟩,some ⟨1,3,(c22.map cdI.enc),false⟩]⟩) (AZ [0,1] ⟨⟨_,rfl,Bu⟩,⟨_,rfl,Bu⟩,trivial⟩ ⟨lv,lv,lv,lv,lv,lv,lv,lv,lv,lv,lv,lv,trivial⟩) (JZ x1 v12 c18 c21 c22 c23 _ v28 0 _ hr39)) ?_;refine AG ?_;obtain ⟨v40,hv40,h⟩:=OB h;obtain ⟨j45,hj45,h⟩:=OB h;refine AH (s1:=⟨Fr 148 [(1,.sl 9 (x1.map AI.enc)),(11,.sl 1 (v12.1.map (cdL 1 cdI).enc)),(13,.v (.int .i64 (wr .i64 ((wr .i64 (1 * 2 ^ min (x1.length:Int).toNat 64)) - 1)))),(14,.rf 0 0 j45.1.length j45.1.length),(15,.rf 1 0 j45.2.1.length j45.2.1.length),(16,.v (.int .i64 c18)),(17,.v (.int .i64 c23)),(18,.v (.int .i64 r39)),(69,.v (.int .i64 (x1.length:Int))),(70,.v (.int .i64 c23)),(117,.v (.bool j45.2.2))],[some ⟨1,3,(j45.1.map cdI.enc),false⟩,some ⟨1,3,(j45.2.1.map cdI.enc),false⟩]⟩) ?_ ?_
    ·refine AD (n:=148) AC 2 [(1,.sl 9 (x1.map AI.enc)),(11,.sl 1 (v12.1.map (cdL 1 cdI).enc)),(13,.v (.int .i64 (wr .i64 ((wr .i64 (1 * 2 ^ min (x1.length:Int).toNat 64)) - 1)))),(14,.rf 0 0 c21.length c21.length),(15,.rf 1 0 c22.length c22.length),(16,.v (.int .i64 c18)),(17,.v (.int .i64 c23)),(18,.v (.int .i64 r39)),(69,.v (.int .i64 (x1.length:Int))),(70,.v (.int .i64 c23)),(105,.rf 0 0 c21.length c21.length),(106,.v (.int .i64 c18))] [some ⟨1,3,(c21.map cdI.enc),false⟩,some ⟨1,3,(c22.map cdI.enc),false⟩] kr ?_
     refine AK AC 0 rfl (CZ (AB rfl) rfl (AQ (a:= .rf 0 0 c21.length c21.length) (b:= .v (.int .i64 c18)) kr kr (M5 (e:=cdI.enc) (xs:=c21) (t':=3) (el:=3) (k:=1) (ki:= .i64) kr kr kr hv40))) ?_;refine AK AC 0 rfl (CZ (AB rfl) rfl (Hw (p:= .pt 0 c18.toNat 0) kr (M8 (B:=⟨1,3,(c21.map cdI.enc),false⟩) (m:=1) (g:=false) (e:=cdI.enc) (xs:=c21) kr kr kr rfl (EJ hv40).2 kr))) ?_;refine AD (n:=148) AC 2 [(1,.sl 9 (x1.map AI.enc)),(11,.sl 1 (v12.1.map (cdL 1 cdI).enc)),(13,.v (.int .i64 (wr .i64 ((wr .i64 (1 * 2 ^ min (x1.length:Int).toNat 64)) - 1)))),(14,.rf 0 0 c21.length c21.length),(15,.rf 1 0 c22.length c22.length),(16,.v (.int .i64 c18)),(17,.v (.int .i64 c23)),(18,.v (.int .i64 r39)),(69,.v (.int .i64 (x1.length:Int))),(70,.v (.int .i64 c23)),(110,.v (.bool (decide (v40 < 0))))] [some ⟨1,3,(c21.map cdI.enc),false⟩,some ⟨1,3,(c22.map cdI.enc),false⟩] kr ?_;rcases BE (decide (v40 < 0)) with hc52 | hc52
     ·rw [if_pos hc52] at hj45
      rw [hc52];refine AD (n:=148) AC 7 [(1,.sl 9 (x1.map AI.enc)),(11,.sl 1 (v12.1.map (cdL 1 cdI).enc)),(13,.v (.int .i64 (wr .i64 ((wr .i64 (1 * 2 ^ min (x1.length:Int).toNat 64)) - 1)))),(14,.rf 0 0 c21.length c21.length),(15,.rf 1 0 c22.length c22.length),(16,.v (.int .i64 c18)),(17,.v (.int .i64 c23)),(18,.v (.int .i64 r39)),(69,.v (.int .i64 (x1.length:Int))),(70,.v (.int .i64 c23)),(111,.tp []),(112,.tp []),(113,.tp []),(114,.tp []),(115,.tp []),(116,.tp []),(117,.v (.bool true))] [some ⟨1,3,(c21.map cdI.enc),false⟩,some ⟨1,3,(c22.map cdI.enc),false⟩] kr ?_;have hq:=OI hj45; subst hq;exact AL rfl (AZ [0,1] ⟨⟨_,rfl,Bu⟩,⟨_,rfl,Bu⟩,trivial⟩ ⟨lv,lv,lv,lv,lv,lv,lv,lv,lv,lv,lv,trivial⟩)
     ·rw [CK hc52] at hj45
      rw [hc52];refine AD (n:=148) AC 3 [(1,.sl 9 (x1.map AI.enc)),(11,.sl 1 (v12.1.map (cdL 1 cdI).enc)),(13,.v (.int .i64 (wr .i64 ((wr .i64 (1 * 2 ^ min (x1.length:Int).toNat 64)) - 1)))),(14,.rf 0 0 c21.length c21.length),(15,.rf 1 0 c22.length c22.length),(16,.v (.int .i64 c18)),(17,.v (.int .i64 c23)),(18,.v (.int .i64 r39)),(69,.v (.int .i64 (x1.length:Int))),(70,.v (.int .i64 c23)),(110,.v (.bool false)),(111,.v (.int .i64 r39)),(112,.rf 0 0 c21.length c21.length),(113,.v (.int .i64 c18))] [some ⟨1,3,(c21.map cdI.enc),false⟩,some ⟨1,3,(c22.map cdI.enc),false⟩] kr ?_;obtain ⟨v41,hv41,hj45⟩:=OB hj45;refine AK AC 0 rfl (CZ kr rfl (AQ (a:= .rf 0 0 c21.length c21.length) (b:= .v (.int .i64 c18)) kr kr (M5 (e:=cdI.enc) (xs:=c21) (t':=3) (el:=3) (k:=1) (ki:= .i64) kr kr kr hv41))) ?_;refine AK AC 0 rfl (CZ kr rfl (Hw (p:= .pt 0 c18.toNat 0) kr (M8 (B:=⟨1,3,(c21.map cdI.enc),false⟩) (m:=1) (g:=false) (e:=cdI.enc) (xs:=c21) kr kr kr rfl (EJ hv41).2 kr))) ?_;refine AD (n:=148) AC 2 [(1,.sl 9 (x1.map AI.enc)),(11,.sl 1 (v12.1.map (cdL 1 cdI).enc)),(13,.v (.int .i64 (wr .i64 ((wr .i64 (1 * 2 ^ min (x1.length:Int).toNat 64)) - 1)))),(14,.rf 0 0 c21.length c21.length),(15,.rf 1 0 c22.length c22.length),(16,.v (.int .i64 c18)),(17,.v (.int .i64 c23)),(18,.v (.int .i64 r39)),(69,.v (.int .i64 (x1.length:Int))),(70,.v (.int .i64 c23)),(111,.v (.int .i64 r39)),(112,.rf 0 0 c21.length c21.length),(113,.v (.int .i64 c18)),(114,.pt 0 c18.toNat 0),(115,.v (.int .i64 v41)),(116,.v (.bool (decide (r39 < v41)))),(117,.v (.bool (decide (r39 < v41))))] [some ⟨1,3,(c21.map cdI.enc),false⟩,some ⟨1,3,(c22.map cdI.enc),false⟩] kr ?_;have hq:=OI hj45; subst hq;exact AL rfl (AZ [0,1] ⟨⟨_,rfl,Bu⟩,⟨_,rfl,Bu⟩,trivial⟩ ⟨lv,lv,lv,lv,lv,lv,lv,lv,lv,lv,lv,trivial⟩)
    obtain ⟨r51,hr51,h⟩:=OB h;refine Cg (JW x1 v12 c18 c23 r39 j45 _ hr51) ?_;refine DD AC [(1,.sl 9 (x1.map AI.enc)),(11,.sl 1 (v12.1.map (cdL 1 cdI).enc)),(13,.v (.int .i64 (wr .i64 ((wr .i64 (1 * 2 ^ min (x1.length:Int).toNat 64)) - 1)))),(14,.rf 0 0 r51.1.length r51.1.length),(15,.rf 1 0 r51.2.length r51.2.length),(16,.v (.int .i64 c18)),(69,.v (.int .i64 (x1.length:Int))),(70,.v (.int .i64 (wr .i64 (c23 + 1))))] [some ⟨1,3,(r51.1.map cdI.enc),false⟩,some ⟨1,3,(r51.2.map cdI.enc),false⟩] ?_;exact Aw (s1:=⟨Fr 148 [(1,.sl 9 (x1.map AI.enc)),(11,.sl 1 (v12.1.map (cdL 1 cdI).enc)),(13,.v (.int .i64 (wr .i64 ((wr .i64 (1 * 2 ^ min (x1.length:Int).toNat 64)) - 1)))),(14,.rf 0 0 r51.1.length r51.1.length),(15,.rf 1 0 r51.2.length r51.2.length),(16,.v (.int .i64 c18)),(69,.v (.int .i64 (x1.length:Int))),(70,.v (.int .i64 (wr .i64 (c23 + 1))))],[some ⟨1,3,(r51.1.map cdI.enc),false⟩,some ⟨1,3,(r51.2.map cdI.enc),false⟩]⟩) (AZ [0,1] ⟨⟨_,rfl,Bu⟩,⟨_,rfl,Bu⟩,trivial⟩ ⟨lv,lv,lv,lv,lv,lv,lv,lv,trivial⟩) (ih r51.1 r51.2 (wr .i64 (c23 + 1)) h)
  ·rw [CK hb24] at h
   refine Cc ?_;have hq:=OI h; subst hq;exact ⟨rfl,(AZ [0,1] ⟨⟨_,rfl,Bu⟩,⟨_,rfl,Bu⟩,trivial⟩ ⟨lv,lv,lv,lv,lv,lv,trivial⟩)⟩
theorem JX (x1:(List Ax)) (v12:(List (List Int))×Bool):∀ (f:Nat) (c16:(List Int)) (c17:(List Int)) (c18:Int) (r:((List Int)×(List Int))),CX x1 v12 f c16 c17 c18=some r->SemN E0 ⟨none,false⟩ (pc Br [1,1,1,1,1,1,1,1,0,1,0,0]) f ⟨Fr 148 [(1,.sl 9 (x1.map AI.enc)),(11,.sl 1 (v12.1.map (cdL 1 cdI).enc)),(13,.v (.int .i64 (wr .i64 ((wr .i64 (1 * 2 ^ min (x1.length:Int).toNat 64)) - 1)))),(14,.rf 0 0 c16.length c16.length),(15,.rf 1 0 c17.length c17.length),(16,.v (.int .i64 c18))],[some ⟨1,3,(c16.map cdI.enc),false⟩,some ⟨1,3,(c17.map cdI.enc),false⟩]⟩ (fun e s=>e=(.exit 2)/\Wk E0 s ⟨Fr 148 [(13,.v (.int .i64 (wr .i64 ((wr .i64 (1 * 2 ^ min (x1.length:Int).toNat 64)) - 1)))),(14,.rf 0 0 r.1.length r.1.length),(15,.rf 1 0 r.2.length r.2.length)],[some ⟨1,3,(r.1.map cdI.enc),false⟩,some ⟨1,3,(r.2.map cdI.enc),false⟩]⟩):=by
 intro f;induction f with
 | zero=>intro c16 c17 c18 r h; cases h
 | succ f ih0 =>
  intro c16 c17 c18 r h
  have ih:=fun (c16:(List Int)) (c17:(List Int)) (c18:Int)=>ih0 c16 c17 c18 r
  unfold CX at h;refine B6 ?_;refine AG ?_
  let p1:Option Blk:=some ⟨1,3,(c17.map cdI.enc),false⟩
  let p2:Option Blk:=some ⟨1,3,(c16.map cdI.enc),false⟩
  let p3:Nat×AV:=(16,.v (.int .i64 c18))
  let p4:Nat×AV:=(15,.rf 1 0 c17.length c17.length)
  let p5:Nat×AV:=(14,.rf 0 0 c16.length c16.length)
  let p6:Nat×AV:=(13,.v (.int .i64 (wr .i64 ((wr .i64 (1 * 2 ^ min (x1.length:Int).toNat 64)) - 1))))
  let p7:Nat×AV:=(11,.sl 1 (v12.1.map (cdL 1 cdI).enc))
  let p8:Nat×AV:=(1,.sl 9 (x1.map AI.enc))
  refine AJ AC [p8,p7,p6,p5,p4,p3,(62,.v (.bool (decide (c18≥0))))] [p2,p1] ?_;refine AM (b:=(decide (c18≥0))) kr (fun hb19=>?_) (fun hb19=>?_)
  ·rw [if_pos hb19] at h
   refine AP ?_;refine AG ?_;refine Aj ?_;refine AG ?_;obtain ⟨v20,hv20,h⟩:=OB h
   let p9:Option Blk:=some ⟨1,3,((c16.set c18.toNat (-1)).map cdI.enc),false⟩
   let p10:Nat×AV:=(14,.rf 0 0 (c16.set c18.toNat (-1)).length (c16.set c18.toNat (-1)).length)
   refine AH (s1:=⟨Fr 148 [p8,p7,p6,p10,p4,p3],[p9,p1]⟩) ?_ ?_
   ·refine AD (n:=148) AC 2 [p8,p7,p6,p5,p4,p3,(65,.rf 0 0 c16.length c16.length),(66,.v (.int .i64 c18))] [p2,p1] kr ?_
    refine AK AC 0 rfl (CZ (AB rfl) rfl (AQ (a:= .rf 0 0 c16.length c16.length) (b:= .v (.int .i64 c18)) kr kr (M5 (e:=cdI.enc) (xs:=c16) (t':=3) (el:=3) (k:=1) (ki:= .i64) kr kr kr hv20))) ?_;refine RunS.store AC (y:= .pt 0 c18.toNat 0) (z:= .v (.int .i64 (-1))) rfl (AB rfl) kr kr (RK (t':=3) (k:=1) (e:=cdI.enc) (xs:=c16) (v:=v20) (v':=(-1)) kr (EJ hv20).2 kr kr kr) ?_;exact AL rfl (AZ [0,1] ⟨⟨_,rfl,Bu⟩,⟨_,rfl,Bu⟩,trivial⟩ ⟨lv,lv,lv,Tx (b':=0) (n:=c16.length) kr (by simp) kr,lv,lv,trivial⟩)
   refine AG ?_
   let p11:Nat×AV:=(69,.v (.int .i64 (x1.length:Int)))
   refine AH (s1:=⟨Fr 148 [p8,p7,p6,p10,p4,p3,p11,(70,.v (.int .i64 0))],[p9,p1]⟩) ?_ ?_
   ·refine AD (n:=148) AC 1 [p8,p7,p6,p10,p4,p3,(68,.sl 9 (x1.map AI.enc))] [p9,p1] kr ?_
    refine AK AC 0 rfl (CZ (AB rfl) rfl (DS (a:= .sl 9 (x1.map AI.enc)) kr (B4 (el:=42) kr))) ?_;exact AN AC
   refine Aj ?_;obtain ⟨r55,hr55,h⟩:=OB h;refine Ch (n:=100000) ?_;refine BQ (Aw (s1:=⟨Fr 148 [p8,p7,p6,p10,p4,p3,p11,(70,.v (.int .i64 0))],[p9,p1]⟩) (AZ [0,1] ⟨⟨_,rfl,Bu⟩,⟨_,rfl,Bu⟩,trivial⟩ ⟨lv,lv,lv,lv,lv,lv,lv,lv,trivial⟩) (JY x1 v12 c18 _ (c16.set c18.toNat (-1)) c17 0 _ hr55)) ?_
   let p12:Option Blk:=some ⟨1,3,(r55.2.map cdI.enc),false⟩
   let p13:Option Blk:=some ⟨1,3,(r55.1.map cdI.enc),false⟩
   let p14:Nat×AV:=(16,.v (.int .i64 (wr .i64 (c18 - 1))))
   let p15:Nat×AV:=(15,.rf 1 0 r55.2.length r55.2.length)
   let p16:Nat×AV:=(14,.rf 0 0 r55.1.length r55.1.length)
   refine DD AC [p8,p7,p6,p16,p15,p14] [p13,p12] ?_;exact Aw (s1:=⟨Fr 148 [p8,p7,p6,p16,p15,p14],[p13,p12]⟩) (AZ [0,1] ⟨⟨_,rfl,Bu⟩,⟨_,rfl,Bu⟩,trivial⟩ ⟨lv,lv,lv,lv,lv,lv,trivial⟩) (ih r55.1 r55.2 (wr .i64 (c18 - 1)) h)
  ·rw [CK hb19] at h
   refine Cc ?_;have hq:=OI h; subst hq;exact ⟨rfl,(AZ [0,1] ⟨⟨_,rfl,Bu⟩,⟨_,rfl,Bu⟩,trivial⟩ ⟨lv,lv,lv,trivial⟩)⟩
theorem Ja (x1:(List Ax)) (r58:(List Int)×(List Int)):∀ (f:Nat) (c59:(List Int)) (c60:Int) (r:((List Int))),CB x1 r58 f c59 c60=some r->SemN E0 ⟨none,false⟩ (pc Br [1,1,1,1,1,1,1,1,1,1,0,1,0,0]) f ⟨Fr 148 [(13,.v (.int .i64 (wr .i64 ((wr .i64 (1 * 2 ^ min (x1.length:Int).toNat 64)) - 1)))),(14,.rf 0 0 r58.1.length r58.1.length),(15,.rf 1 0 r58.2.length r58.2.length),(20,hd 2 (c59.map cdI.enc)),(21,.v (.int .i64 c60))],[some ⟨1,3,(r58.1.map cdI.enc),false⟩,some ⟨1,3,(r58.2.map cdI.enc),false⟩,mk 1 3 (c59.map cdI.enc)]⟩ (fun e s=>e=(.exit 8)/\Wk E0 s ⟨Fr 148 [(14,.rf 0 0 r58.1.length r58.1.length),(20,hd 1 (r.map cdI.enc))],[some ⟨1,3,(r58.1.map cdI.enc),false⟩,mk 1 3 (r.map cdI.enc)]⟩):=by
 intro f;induction f with
 | zero=>intro c59 c60 r h; cases h
 | succ f ih0 =>
  intro c59 c60 r h
  have ih:=fun (c59:(List Int)) (c60:Int)=>ih0 c59 c60 r
  unfold CB at h;refine B6 ?_;refine AG ?_
  let p1:Option Blk:=mk 1 3 (c59.map cdI.enc)
  let p2:Option Blk:=some ⟨1,3,(r58.2.map cdI.enc),false⟩
  let p3:Option Blk:=some ⟨1,3,(r58.1.map cdI.enc),false⟩
  let p4:Nat×AV:=(21,.v (.int .i64 c60))
  let p5:Nat×AV:=(15,.rf 1 0 r58.2.length r58.2.length)
  let p6:Nat×AV:=(14,.rf 0 0 r58.1.length r58.1.length)
  let p7:Nat×AV:=(13,.v (.int .i64 (wr .i64 ((wr .i64 (1 * 2 ^ min (x1.length:Int).toNat 64)) - 1))))
  refine AJ AC [p7,p6,p5,(20,hd 2 (c59.map cdI.enc)),p4,(129,.v (.bool (c60 != (wr .i64 ((wr .i64 (1 * 2 ^ min (x1.length:Int).toNat 64)) - 1)))))] [p3,p2,p1] ?_;refine AM (b:=(c60 != (wr .i64 ((wr .i64 (1 * 2 ^ min (x1.length:Int).toNat 64)) - 1)))) kr (fun hb61=>?_) (fun hb61=>?_)
  ·rw [if_pos hb61] at h
   refine AP ?_;refine AG ?_;refine Aj ?_;obtain ⟨v62,hv62,h⟩:=OB h;by_cases hk63:(Fa 8 (c59.length + 1))=true
   case neg=>rw [if_neg hk63] at h; cases h
   rw [if_pos hk63] at h
   let p8:Option Blk:=mk 1 3 ((c59++[v62]).map cdI.enc)
   let p9:Nat×AV:=(20,hd 2 ((c59++[v62]).map cdI.enc))
   refine AH (s1:=⟨Fr 148 [p7,p6,p5,p9,p4],[p3,p2,p8]⟩) ?_ ?_
   ·refine AD (n:=148) AC 3 [p7,p6,p5,p4,(137,hd 2 (c59.map cdI.enc)),(138,.rf 1 0 r58.2.length r58.2.length),(139,.v (.int .i64 c60))] [p3,p2,p1] kr ?_
    refine AK AC 0 rfl (CZ (AB rfl) rfl (AQ (a:= .rf 1 0 r58.2.length r58.2.length) (b:= .v (.int .i64 c60)) kr kr (M5 (e:=cdI.enc) (xs:=r58.2) (t':=3) (el:=3) (k:=1) (ki:= .i64) kr kr kr hv62))) ?_;refine AK AC 0 rfl (CZ (AB rfl) rfl (Hw (p:= .pt 1 c60.toNat 0) kr (M8 (B:=⟨1,3,(r58.2.map cdI.enc),false⟩) (m:=1) (g:=false) (e:=cdI.enc) (xs:=r58.2) kr kr kr rfl (EJ hv62).2 kr))) ?_;refine AD (n:=148) AC 1 [p7,p6,p5,p4,(137,hd 2 (c59.map cdI.enc)),(142,hd 3 ([v62].map cdI.enc))] [p3,p2,p1,mk 1 3 ([v62].map cdI.enc)] kr ?_;refine AK AC 0 rfl (T6 (AB rfl) rfl kr kr (IC (a:=hd 2 (c59.map cdI.enc)) (b:=hd 3 ([v62].map cdI.enc)) kr kr (KA (c:=cdI) (xs:=c59) (vs:=[v62]) (k:=1) (bytes:=8) (el:=3) kr kr (KB (t:=3) kr) (List.cons_ne_nil _ _) kr hk63))) ?_;refine AD (n:=148) AC 1 [p7,p6,p5,(20,hd 4 ((c59++[v62]).map cdI.enc)),p4] [p3,p2,none,mk 1 3 ([v62].map cdI.enc),p8] kr ?_;exact AL rfl (AZ [0,1,4] ⟨⟨_,rfl,Bu⟩,⟨_,rfl,Bu⟩,⟨_,rfl,Cr⟩,trivial⟩ ⟨lv,lv,lv,C4 (b':=4) kr kr,lv,trivial⟩)
   obtain ⟨v64,hv64,h⟩:=OB h;by_cases hk65:(decide (0<=v64))=true
   case neg=>rw [if_neg hk65] at h; cases h
   rw [if_pos hk65] at h
   let p10:Nat×AV:=(21,.v (.int .i64 (orI .i64 c60 (wr .i64 (1 * 2 ^ min v64.toNat 64)))))
   refine AH (s1:=⟨Fr 148 [p7,p6,p5,p9,p10],[p3,p2,p8]⟩) ?_ ?_
   ·refine AD (n:=148) AC 3 [p7,p6,p5,p9,(130,.v (.int .i64 c60)),(131,.rf 1 0 r58.2.length r58.2.length),(132,.v (.int .i64 c60))] [p3,p2,p8] kr ?_
    refine AK AC 0 rfl (CZ (AB rfl) rfl (AQ (a:= .rf 1 0 r58.2.length r58.2.length) (b:= .v (.int .i64 c60)) kr kr (M5 (e:=cdI.enc) (xs:=r58.2) (t':=3) (el:=3) (k:=1) (ki:= .i64) kr kr kr hv64))) ?_;refine AK AC 0 rfl (CZ (AB rfl) rfl (Hw (p:= .pt 1 c60.toNat 0) kr (M8 (B:=⟨1,3,(r58.2.map cdI.enc),false⟩) (m:=1) (g:=false) (e:=cdI.enc) (xs:=r58.2) kr kr kr rfl (EJ hv64).2 kr))) ?_;refine AK AC 0 rfl (CZ (AB rfl) rfl (Pq (a:= .v (.int .i64 1)) (b:= .v (.int .i64 v64)) kr kr (Mg hk65))) ?_;exact AN AC
   exact Aw (s1:=⟨Fr 148 [p7,p6,p5,p9,p10],[p3,p2,p8]⟩) (AZ [0,1,2] ⟨⟨_,rfl,Bu⟩,⟨_,rfl,Bu⟩,⟨_,rfl,Cr⟩,trivial⟩ ⟨lv,lv,lv,C4 (b':=2) kr kr,lv,trivial⟩) (ih (c59++[v62]) (orI .i64 c60 (wr .i64 (1 * 2 ^ min v64.toNat 64))) h)
  ·rw [CK hb61] at h
   refine Cc ?_;have hq:=OI h; subst hq;exact ⟨rfl,(AZ [0,2] ⟨⟨_,rfl,Bu⟩,⟨_,rfl,Cr⟩,trivial⟩ ⟨lv,C4 (b':=2) kr kr,trivial⟩)⟩
theorem KJ (x0:(List (List AE))) (x1:(List Ax)) (r:(List Int)×Int×Int) (h:DH x0 x1=some r):Sem E0 ⟨none,false⟩ Br ⟨Fr 148 (BK 0 (EX.enc (x0,x1,()))),[]⟩ fun e s'=>(e = .normal\/e = .ret)/\∃ xs,Ej E0.P s'.fr s'.hp Tryz.f49.results.toList=some xs/\Eu xs=Fe r:=by
 unfold DH at h
 let p1:Nat×AV:=(1,.sl 9 (x1.map AI.enc))
 let p2:Nat×AV:=(0,.sl 1 (x0.map (cdL 5 AA).enc))
 refine A3 (Bo (s1:=⟨Fr 148 [p2,p1],[]⟩) AO ?_);refine AJ AC [p2,p1] [] ?_;refine AG ?_;refine AG ?_;refine AH (s1:=⟨Fr 148 [p2,p1,(24,.v (.bool (decide ((x0.length:Int) > 16))))],[]⟩) ?_ ?_
 ·refine AD (n:=148) AC 1 [p2,p1,(22,.sl 1 (x0.map (cdL 5 AA).enc))] [] kr ?_
  refine AK AC 0 rfl (CZ (AB rfl) rfl (DS (a:= .sl 1 (x0.map (cdL 5 AA).enc)) kr (B4 (el:=22) kr))) ?_;exact AN AC
 refine AM (b:=(decide ((x0.length:Int) > 16))) kr (fun hb1=>?_) (fun hb1=>?_)
 ·rw [if_pos hb1] at h
  let p3:Nat×AV:=(6,.v (.int .i64 7))
  let p4:Nat×AV:=(5,.v (.int .i64 0))
  refine AJ AC [(4,.e0),p4,p3] [] ?_;refine AT ?_;have hq:=OI h; subst hq;exact ⟨⟨Fr 148 [(4,.sl 1 ([].map cdI.enc)),p4,p3],[]⟩,(Wk.trans (s1:=⟨Fr 148 [(4,.e0),p4,p3],[]⟩) AO (Wk.trans (s1:=⟨Fr 148 [(4,.e0),p4,p3],[none]⟩) Wk.none (Wk.trans (s1:=⟨Fr 148 [(4,.sl 1 ([].map cdI.enc)),p4,p3],[none]⟩) (GZ 0 (.inr kr) ⟨.inl rfl,trivial⟩ ⟨⟨.e0,kr,PW⟩,⟨.v (.int .i64 0),kr,.inl rfl⟩,⟨.v (.int .i64 7),kr,.inl rfl⟩,trivial⟩) (AZ [] trivial ⟨lv,lv,lv,trivial⟩)))),.inr rfl,[.sl 1 ([].map cdI.enc),.v (.int .i64 0),.v (.int .i64 7)],kr,kr⟩
 ·rw [CK hb1] at h
  refine AP ?_;refine AG ?_;refine AG ?_
  let p5:Nat×AV:=(27,.v (.int .i64 0))
  let p6:Nat×AV:=(26,.v (.int .i64 (x0.length:Int)))
  let p7:Nat×AV:=(25,.sl 1 (x0.map (cdL 5 AA).enc))
  refine AH (s1:=⟨Fr 148 [p2,p1,p7,p6,p5],[]⟩) ?_ ?_
  ·refine AD (n:=148) AC 1 [p2,p1,p7] [] kr ?_
   refine AK AC 0 rfl (CZ (AB rfl) rfl (DS (a:= .sl 1 (x0.map (cdL 5 AA).enc)) kr (B4 (el:=22) kr))) ?_;exact AN AC
  refine Aj ?_;obtain ⟨r9,hr9,h⟩:=OB h;refine Ch (n:=100000) ?_;rcases r9 with w10 | w69
  ·try dsimp only at h
   refine BQ (Aw (s1:=⟨Fr 148 [p2,p1,p7,p6,p5],[]⟩) AO (GX x0 x1 _ 0 _ hr9)) ?_;refine AG ?_;refine AG ?_;refine AH (s1:=⟨Fr 148 [p2,p1,(42,.v (.bool (decide ((x1.length:Int) > 7))))],[]⟩) ?_ ?_
   ·refine AD (n:=148) AC 1 [p2,p1,(40,.sl 9 (x1.map AI.enc))] [] kr ?_
    refine AK AC 0 rfl (CZ (AB rfl) rfl (DS (a:= .sl 9 (x1.map AI.enc)) kr (B4 (el:=42) kr))) ?_;exact AN AC
   refine AM (b:=(decide ((x1.length:Int) > 7))) kr (fun hb11=>?_) (fun hb11=>?_)
   ·rw [if_pos hb11] at h
    let p8:Nat×AV:=(6,.v (.int .i64 8))
    let p9:Nat×AV:=(5,.v (.int .i64 0))
    refine AJ AC [(4,.e0),p9,p8] [] ?_;refine AT ?_;have hq:=OI h; subst hq;exact ⟨⟨Fr 148 [(4,.sl 1 ([].map cdI.enc)),p9,p8],[]⟩,(Wk.trans (s1:=⟨Fr 148 [(4,.e0),p9,p8],[]⟩) AO (Wk.trans (s1:=⟨Fr 148 [(4,.e0),p9,p8],[none]⟩) Wk.none (Wk.trans (s1:=⟨Fr 148 [(4,.sl 1 ([].map cdI.enc)),p9,p8],[none]⟩) (GZ 0 (.inr kr) ⟨.inl rfl,trivial⟩ ⟨⟨.e0,kr,PW⟩,⟨.v (.int .i64 0),kr,.inl rfl⟩,⟨.v (.int .i64 8),kr,.inl rfl⟩,trivial⟩) (AZ [] trivial ⟨lv,lv,lv,trivial⟩)))),.inr rfl,[.sl 1 ([].map cdI.enc),.v (.int .i64 0),.v (.int .i64 8)],kr,kr⟩
   ·rw [CK hb11] at h
    refine AP ?_;refine AG ?_;obtain ⟨v12,hv12,h⟩:=OB h
    let p10:Nat×AV:=(11,.sl 1 (v12.1.map (cdL 1 cdI).enc))
    refine AH (s1:=⟨Fr 148 [p1,p10],[]⟩) ?_ ?_
    ·refine AD (n:=148) AC 2 [p1,(44,.sl 1 (x0.map (cdL 5 AA).enc)),(45,.sl 9 (x1.map AI.enc))] [] kr ?_
     refine Ai (caps:=[]) (xs:=[.sl 1 (x0.map (cdL 5 AA).enc),.sl 9 (x1.map AI.enc)]) (u:=(x0,x1,())) rfl rfl LH rfl (AB rfl) kr kr (AU (Ao (c:=(cdL 1 (cdL 5 AA))) (v:=x0)) (AU (Ao (c:=(cdL 9 AI)) (v:=x1)) Bf)) (.inr kr) hv12 ?_;exact AN AC
    refine AG ?_;by_cases hk13:(decide (0<=(x1.length:Int)))=true
    case neg=>rw [if_neg hk13] at h; cases h
    rw [if_pos hk13] at h
    let p11:Nat×AV:=(13,.v (.int .i64 (wr .i64 ((wr .i64 (1 * 2 ^ min (x1.length:Int).toNat 64)) - 1))))
    refine AH (s1:=⟨Fr 148 [p1,p10,p11],[]⟩) ?_ ?_
    ·refine AD (n:=148) AC 1 [p1,p10,(49,.sl 9 (x1.map AI.enc))] [] kr ?_
     refine AK AC 0 rfl (CZ (AB rfl) rfl (DS (a:= .sl 9 (x1.map AI.enc)) kr (B4 (el:=42) kr))) ?_;refine AK AC 0 rfl (CZ (AB rfl) rfl (Pq (a:= .v (.int .i64 1)) (b:= .v (.int .i64 (x1.length:Int))) kr kr (Mg hk13))) ?_;exact AN AC
    refine AG ?_;by_cases hk14:(Nx 8 (wr .i64 ((wr .i64 ((wr .i64 (1 * 2 ^ min (x1.length:Int).toNat 64)) - 1)) + 1)))=true
    case neg=>rw [if_neg hk14] at h; cases h
    rw [if_pos hk14] at h
    let p12:Option Blk:=some ⟨1,3,((List.replicate (wr .i64 ((wr .i64 ((wr .i64 (1 * 2 ^ min (x1.length:Int).toNat 64)) - 1)) + 1)).toNat (0:Int)).map cdI.enc),false⟩
    let p13:Nat×AV:=(14,.rf 0 0 (List.replicate (wr .i64 ((wr .i64 ((wr .i64 (1 * 2 ^ min (x1.length:Int).toNat 64)) - 1)) + 1)).toNat (0:Int)).length (List.replicate (wr .i64 ((wr .i64 ((wr .i64 (1 * 2 ^ min (x1.length:Int).toNat 64)) - 1)) + 1)).toNat (0:Int)).length)
    refine AH (s1:=⟨Fr 148 [p1,p10,p11,p13],[p12]⟩) ?_ ?_
    ·refine AD (n:=148) AC 2 [p1,p10,p11,(54,.v (.int .i64 (wr .i64 ((wr .i64 ((wr .i64 (1 * 2 ^ min (x1.length:Int).toNat 64)) - 1)) + 1))))] [] kr ?_
     refine AK AC 0 rfl (Vo (AB rfl) rfl kr (Pj (x:= .v (.int .i64 (wr .i64 ((wr .i64 ((wr .i64 (1 * 2 ^ min (x1.length:Int).toNat 64)) - 1)) + 1)))) (y:= .v (.int .i64 (wr .i64 ((wr .i64 ((wr .i64 (1 * 2 ^ min (x1.length:Int).toNat 64)) - 1)) + 1)))) kr kr (Sq (c:=cdI) (z:=(0:Int)) (k:=1) (bytes:=8) (el:=3) kr kr hk14))) ?_;exact AN AC
    refine AG ?_;by_cases hk15:(Nx 8 (wr .i64 ((wr .i64 ((wr .i64 (1 * 2 ^ min (x1.length:Int).toNat 64)) - 1)) + 1)))=true
    case neg=>rw [if_neg hk15] at h; cases h
    rw [if_pos hk15] at h
    let p14:Nat×AV:=(15,.rf 1 0 (List.replicate (wr .i64 ((wr .i64 ((wr .i64 (1 * 2 ^ min (x1.length:Int).toNat 64)) - 1)) + 1)).toNat (0:Int)).length (List.replicate (wr .i64 ((wr .i64 ((wr .i64 (1 * 2 ^ min (x1.length:Int).toNat 64)) - 1)) + 1)).toNat (0:Int)).length)
    refine AH (s1:=⟨Fr 148 [p1,p10,p11,p13,p14],[p12,p12]⟩) ?_ ?_
    ·refine AD (n:=148) AC 2 [p1,p10,p11,p13,(57,.v (.int .i64 (wr .i64 ((wr .i64 ((wr .i64 (1 * 2 ^ min (x1.length:Int).toNat 64)) - 1)) + 1))))] [p12] kr ?_
     refine AK AC 0 rfl (Vo (AB rfl) rfl kr (Pj (x:= .v (.int .i64 (wr .i64 ((wr .i64 ((wr .i64 (1 * 2 ^ min (x1.length:Int).toNat 64)) - 1)) + 1)))) (y:= .v (.int .i64 (wr .i64 ((wr .i64 ((wr .i64 (1 * 2 ^ min (x1.length:Int).toNat 64)) - 1)) + 1)))) kr kr (Sq (c:=cdI) (z:=(0:Int)) (k:=1) (bytes:=8) (el:=3) kr kr hk15))) ?_;exact AN AC
    refine AG ?_
    let p15:Nat×AV:=(16,.v (.int .i64 (wr .i64 ((wr .i64 ((wr .i64 (1 * 2 ^ min (x1.length:Int).toNat 64)) - 1)) - 1))))
    refine AJ AC [p1,p10,p11,p13,p14,p15] [p12,p12] ?_;refine Aj ?_;obtain ⟨r58,hr58,h⟩:=OB h;refine Ch (n:=100000) ?_;refine BQ (Aw (s1:=⟨Fr 148 [p1,p10,p11,p13,p14,p15],[p12,p12]⟩) (AZ [0,1] ⟨⟨_,rfl,Bu⟩,⟨_,rfl,Bu⟩,trivial⟩ ⟨lv,lv,lv,lv,lv,lv,trivial⟩) (JX x1 v12 _ (List.replicate (wr .i64 ((wr .i64 ((wr .i64 (1 * 2 ^ min (x1.length:Int).toNat 64)) - 1)) + 1)).toNat (0:Int)) (List.replicate (wr .i64 ((wr .i64 ((wr .i64 (1 * 2 ^ min (x1.length:Int).toNat 64)) - 1)) + 1)).toNat (0:Int)) (wr .i64 ((wr .i64 ((wr .i64 (1 * 2 ^ min (x1.length:Int).toNat 64)) - 1)) - 1)) _ hr58)) ?_
    let p16:Option Blk:=some ⟨1,3,(r58.2.map cdI.enc),false⟩
    let p17:Option Blk:=some ⟨1,3,(r58.1.map cdI.enc),false⟩
    let p18:Nat×AV:=(15,.rf 1 0 r58.2.length r58.2.length)
    let p19:Nat×AV:=(14,.rf 0 0 r58.1.length r58.1.length)
    refine AJ AC [p11,p19,p18,(20,.e0)] [p17,p16] ?_;refine AG ?_
    let p20:Nat×AV:=(21,.v (.int .i64 0))
    refine AJ AC [p11,p19,p18,(20,.e0),p20] [p17,p16] ?_;refine Aj ?_;obtain ⟨r67,hr67,h⟩:=OB h;refine Ch (n:=100000) ?_;refine BQ (Aw (s1:=⟨Fr 148 [p11,p19,p18,(20,hd 2 ([].map cdI.enc)),p20],[p17,p16,mk 1 3 ([].map cdI.enc)]⟩) (Wk.trans (s1:=⟨Fr 148 [p11,p19,p18,(20,hd 2 ([].map cdI.enc)),p20],[p17,p16,mk 1 3 ([].map cdI.enc)]⟩) Wk.none (AZ [0,1,2] ⟨⟨_,rfl,Bu⟩,⟨_,rfl,Bu⟩,⟨_,rfl,Mh⟩,trivial⟩ ⟨lv,lv,lv,lv,lv,trivial⟩)) (Ja x1 r58 _ [] 0 _ hr67)) ?_;refine AG ?_;obtain ⟨v68,hv68,h⟩:=OB h
    let p21:Option Blk:=mk 1 3 (r67.map cdI.enc)
    let p22:Nat×AV:=(6,.v (.int .i64 0))
    let p23:Nat×AV:=(5,.v (.int .i64 v68))
    refine FN AC (s1:=⟨Fr 148 [(4,hd 0 (r67.map cdI.enc)),p23,p22],[p21]⟩) kr ?_ ?_
    ·refine BR (n:=148) AC 2 [(144,hd 1 (r67.map cdI.enc)),(145,.rf 0 0 r58.1.length r58.1.length)] [p17,p21] kr kr ?_
     refine RunDS.one AC rfl kr (Vp kr (AB rfl) rfl (AQ (a:= .rf 0 0 r58.1.length r58.1.length) (b:= .v (.int .i64 0)) kr kr (M5 (e:=cdI.enc) (xs:=r58.1) (t':=3) (el:=3) (k:=1) (ki:= .i64) kr kr kr hv68)) kr) ?_;refine RunDS.one AC rfl kr (Vp kr (AB rfl) rfl (Hw (p:= .pt 0 ((0:Int).toNat) 0) kr (M8 (B:=⟨1,3,(r58.1.map cdI.enc),false⟩) (m:=1) (g:=false) (e:=cdI.enc) (xs:=r58.1) kr kr kr rfl (EJ hv68).2 kr)) kr) ?_;refine BR (n:=148) AC 3 [(4,hd 1 (r67.map cdI.enc)),p23,p22] [p17,p21] kr kr ?_;exact RunDS.done rfl (AZ [1] ⟨⟨_,rfl,Cr⟩,trivial⟩ ⟨C4 (b':=1) kr kr,lv,lv,trivial⟩)
    refine AT ?_;have hq:=OI h; subst hq;exact ⟨⟨Fr 148 [(4,.sl 1 (r67.map cdI.enc)),p23,p22],[]⟩,(Wk.trans (s1:=⟨Fr 148 [(4,.sl 1 (r67.map cdI.enc)),p23,p22],[none]⟩) (GZ 0 (.inl kr) ⟨.inl rfl,trivial⟩ ⟨⟨hd 0 (r67.map cdI.enc),kr,Nu (t:=3) kr JO⟩,⟨.v (.int .i64 v68),kr,.inl rfl⟩,⟨.v (.int .i64 0),kr,.inl rfl⟩,trivial⟩) (AZ [] trivial ⟨lv,lv,lv,trivial⟩)),.inr rfl,[.sl 1 (r67.map cdI.enc),.v (.int .i64 v68),.v (.int .i64 0)],kr,kr⟩
  ·try dsimp only at h
   refine BQ (Aw (s1:=⟨Fr 148 [p2,p1,p7,p6,p5],[]⟩) AO (GX x0 x1 _ 0 _ hr9)) ?_;have hq:=OI h; subst hq
   let p24:Nat×AV:=(6,.v (.int .i64 w69.2))
   let p25:Nat×AV:=(5,.v (.int .i64 w69.1))
   exact ⟨⟨Fr 148 [(4,.sl 1 ([].map cdI.enc)),p25,p24],[]⟩,(Wk.trans (s1:=⟨Fr 148 [(4,.e0),p25,p24],[]⟩) AO (Wk.trans (s1:=⟨Fr 148 [(4,.e0),p25,p24],[none]⟩) Wk.none (Wk.trans (s1:=⟨Fr 148 [(4,.sl 1 ([].map cdI.enc)),p25,p24],[none]⟩) (GZ 0 (.inr kr) ⟨.inl rfl,trivial⟩ ⟨⟨.e0,kr,PW⟩,⟨.v (.int .i64 w69.1),kr,.inl rfl⟩,⟨.v (.int .i64 w69.2),kr,.inl rfl⟩,trivial⟩) (AZ [] trivial ⟨lv,lv,lv,trivial⟩)))),.inr rfl,[.sl 1 ([].map cdI.enc),.v (.int .i64 w69.1),.v (.int .i64 w69.2)],kr,kr⟩
def LA:List AV->Option AV:=EA EX (fun a=>DH a.1 a.2.1) Fe
theorem LG:XOk 49 LA:=by
 refine AW Tryz.func49 (c:=Br) ?h2 ⟨Tryz.call49⟩ EX (fun a=>DH a.1 a.2.1) Fe (fun a=>(by show 2<=148; decide)) ?h3 ?h4
 case h2=>kernel_rfl
 case h3=>intro b; kernel_rfl
 case h4=>exact fun a b h=>KJ a.1 a.2.1 b h
/- slices.Index[[]int,int] -/
noncomputable def Ek:Code:=Bn Tryz.f52
def Cb (x0:(List Int)) (x1:Int):Nat->Int->Option ((Unit) ⊕ (Int))
 | 0,_=>none
 | f + 1,c1 =>
  if (decide (c1 < (x0.length:Int)))=true then
  (idx x0 c1).bind fun v3 =>
  if (x1==v3)=true then
  some (.inr c1)
  else
  Cb x0 x1 f (wr .i64 (c1 + 1))
  else
  some (.inl ())
def DE (x0:(List Int)) (x1:Int):Option (Int) :=
 (Cb x0 x1 100000 0).bind fun r6 =>
 match r6 with
 | (.inl _w7) =>
  some (-1)
 | (.inr w8) =>
  some w8
def Ep:Cs ((List Int)×Int×Unit):=(csC (cdL 1 cdI) (csC cdI csN))
def Er (r:Int):AV:=cdI.enc r
theorem Fm (x0:(List Int)) (x1:Int):∀ (f:Nat) (c1:Int) (r:(Unit) ⊕ (Int)),Cb x0 x1 f c1=some r->SemN E0 ⟨none,false⟩ (pc Ek [1,0,1,0,0]) f ⟨Fr 19 [(0,.sl 1 (x0.map cdI.enc)),(1,.v (.int .i64 x1)),(7,.v (.int .i64 (x0.length:Int))),(8,.v (.int .i64 c1))],[]⟩ (fun e s=>match r with
 | (.inl _w)=>e=(.exit 0)/\Wk E0 s ⟨Fr 19 [],[]⟩
 | (.inr w)=>e = .ret/\Wk E0 s ⟨Fr 19 [(4,.v (.int .i64 w))],[]⟩):=by
 intro f;induction f with
 | zero=>intro c1 r h; cases h
 | succ f ih0 =>
  intro c1 r h
  have ih:=fun (c1:Int)=>ih0 c1 r
  unfold Cb at h;refine B6 ?_
  let p1:Nat×AV:=(8,.v (.int .i64 c1))
  let p2:Nat×AV:=(7,.v (.int .i64 (x0.length:Int)))
  let p3:Nat×AV:=(1,.v (.int .i64 x1))
  let p4:Nat×AV:=(0,.sl 1 (x0.map cdI.enc))
  refine AJ AC [p4,p3,p2,p1,(9,.v (.bool (decide (c1 < (x0.length:Int)))))] [] ?_;refine AG ?_;refine AM (b:=(decide (c1 < (x0.length:Int)))) kr (fun hb2=>?_) (fun hb2=>?_)
  ·rw [if_pos hb2] at h
   refine AP ?_;refine AG ?_;refine Aj ?_
   let p5:Nat×AV:=(5,.v (.int .i64 c1))
   refine AJ AC [p4,p3,p5,p2,p1] [] ?_;refine AG ?_;obtain ⟨v3,hv3,h⟩:=OB h;refine AH (s1:=⟨Fr 19 [p4,p3,p5,p2,p1,(16,.v (.bool (x1==v3)))],[]⟩) ?_ ?_
   ·refine AD (n:=19) AC 3 [p4,p3,p5,p2,p1,(11,.v (.int .i64 x1)),(12,.sl 1 (x0.map cdI.enc)),(13,.v (.int .i64 c1))] [] kr ?_
    refine AK AC 0 rfl (CZ (AB rfl) rfl (AQ (a:= .sl 1 (x0.map cdI.enc)) (b:= .v (.int .i64 c1)) kr kr (GW (e:=cdI.enc) (el:=3) (k:=1) (ki:= .i64) kr kr hv3))) ?_;exact AN AC
   refine AM (b:=(x1==v3)) kr (fun hb4=>?_) (fun hb4=>?_)
   ·rw [if_pos hb4] at h
    refine AJ AC [(4,.v (.int .i64 c1))] [] ?_;refine AT ?_;have hq:=OI h; subst hq;exact ⟨rfl,AO⟩
   ·rw [CK hb4] at h
    refine AP ?_
    let p6:Nat×AV:=(8,.v (.int .i64 (wr .i64 (c1 + 1))))
    refine DD AC [p4,p3,p2,p6] [] ?_;exact Aw (s1:=⟨Fr 19 [p4,p3,p2,p6],[]⟩) AO (ih (wr .i64 (c1 + 1)) h)
  ·rw [CK hb2] at h
   refine Cc ?_;have hq:=OI h; subst hq;exact ⟨rfl,AO⟩
theorem Jf (x0:(List Int)) (x1:Int) (r:Int) (h:DE x0 x1=some r):Sem E0 ⟨none,false⟩ Ek ⟨Fr 19 (BK 0 (Ep.enc (x0,x1,()))),[]⟩ fun e s'=>(e = .normal\/e = .ret)/\∃ xs,Ej E0.P s'.fr s'.hp Tryz.f52.results.toList=some xs/\Eu xs=Er r:=by
 unfold DE at h
 let p1:Nat×AV:=(1,.v (.int .i64 x1))
 let p2:Nat×AV:=(0,.sl 1 (x0.map cdI.enc))
 refine A3 (Bo (s1:=⟨Fr 19 [p2,p1],[]⟩) AO ?_);refine AJ AC [p2,p1] [] ?_;refine AG ?_;refine AG ?_
 let p3:Nat×AV:=(8,.v (.int .i64 0))
 let p4:Nat×AV:=(7,.v (.int .i64 (x0.length:Int)))
 refine AH (s1:=⟨Fr 19 [p2,p1,p4,p3],[]⟩) ?_ ?_
 ·refine AD (n:=19) AC 1 [p2,p1,(6,.sl 1 (x0.map cdI.enc))] [] kr ?_
  refine AK AC 0 rfl (CZ (AB rfl) rfl (DS (a:= .sl 1 (x0.map cdI.enc)) kr (B4 (el:=3) kr))) ?_;exact AN AC
 refine Aj ?_;obtain ⟨r6,hr6,h⟩:=OB h;refine Ch (n:=100000) ?_;rcases r6 with w7 | w8
 ·try dsimp only at h
  refine BQ (Aw (s1:=⟨Fr 19 [p2,p1,p4,p3],[]⟩) AO (Fm x0 x1 _ 0 _ hr6)) ?_;refine AJ AC [(4,.v (.int .i64 (-1)))] [] ?_;refine AT ?_;have hq:=OI h; subst hq;exact ⟨⟨Fr 19 [(4,.v (.int .i64 (-1)))],[]⟩,AO,.inr rfl,[.v (.int .i64 (-1))],kr,kr⟩
 ·try dsimp only at h
  refine BQ (Aw (s1:=⟨Fr 19 [p2,p1,p4,p3],[]⟩) AO (Fm x0 x1 _ 0 _ hr6)) ?_;have hq:=OI h; subst hq;exact ⟨⟨Fr 19 [(4,.v (.int .i64 w8))],[]⟩,AO,.inr rfl,[.v (.int .i64 w8)],kr,kr⟩
def KO:List AV->Option AV:=EA Ep (fun a=>DE a.1 a.2.1) Er
theorem KQ:XOk 52 KO:=by
 refine AW Tryz.func52 (c:=Ek) ?h2 ⟨Tryz.call52⟩ Ep (fun a=>DE a.1 a.2.1) Er (fun a=>(by show 2<=19; decide)) ?h3 ?h4
 case h2=>kernel_rfl
 case h3=>intro b; kernel_rfl
 case h4=>exact fun a b h=>Jf a.1 a.2.1 b h
/- slices.Contains[[]int,int] -/
noncomputable def Fh:Code:=Bn Tryz.f112
def CE (x0:(List Int)) (x1:Int):Option (Bool) :=
 (DE x0 x1).bind fun v1 =>
 some (decide (v1≥0))
def EH:Cs ((List Int)×Int×Unit):=(csC (cdL 1 cdI) (csC cdI csN))
def EI (r:Bool):AV:=cdB.enc r
theorem IW (x0:(List Int)) (x1:Int) (r:Bool) (h:CE x0 x1=some r):Sem E0 ⟨none,false⟩ Fh ⟨Fr 9 (BK 0 (EH.enc (x0,x1,()))),[]⟩ fun e s'=>(e = .normal\/e = .ret)/\∃ xs,Ej E0.P s'.fr s'.hp Tryz.f112.results.toList=some xs/\Eu xs=EI r:=by
 unfold CE at h;refine A3 (Bo (s1:=⟨Fr 9 [(0,.sl 1 (x0.map cdI.enc)),(1,.v (.int .i64 x1))],[]⟩) AO ?_);refine AJ AC [(0,.sl 1 (x0.map cdI.enc)),(1,.v (.int .i64 x1))] [] ?_;refine AG ?_;obtain ⟨v1,hv1,h⟩:=OB h
 let p1:Nat×AV:=(4,.v (.bool (decide (v1≥0))))
 refine AH (s1:=⟨Fr 9 [p1],[]⟩) ?_ ?_
 ·refine AD (n:=9) AC 2 [(5,.sl 1 (x0.map cdI.enc)),(6,.v (.int .i64 x1))] [] kr ?_
  refine Ai (caps:=[]) (xs:=[.sl 1 (x0.map cdI.enc),.v (.int .i64 x1)]) (u:=(x0,x1,())) rfl rfl KQ rfl (AB rfl) kr kr (AU (Ao (c:=(cdL 1 cdI)) (v:=x0)) (AU (Ao (c:=cdI) (v:=x1)) Bf)) (.inl kr) hv1 ?_;exact AN AC
 refine AT ?_;have hq:=OI h; subst hq;exact ⟨⟨Fr 9 [p1],[]⟩,AO,.inr rfl,[.v (.bool (decide (v1≥0)))],kr,kr⟩
def I5:List AV->Option AV:=EA EH (fun a=>CE a.1 a.2.1) EI
theorem JA:XOk 112 I5:=by
 refine AW Tryz.func112 (c:=Fh) ?h2 ⟨Tryz.call112⟩ EH (fun a=>CE a.1 a.2.1) EI (fun a=>(by show 2<=9; decide)) ?h3 ?h4
 case h2=>kernel_rfl
 case h3=>intro b; kernel_rfl
 case h4=>exact fun a b h=>IW a.1 a.2.1 b h
/- trestle/trestlelaw03.permutation -/
noncomputable def FH:Code:=Bn Tryz.f50
def CO (x0:(List Int)) (x1:Int):Nat->Int->Option ((Unit) ⊕ (Bool))
 | 0,_=>none
 | f + 1,c2 =>
  if (decide (c2 < x1))=true then
  (CE x0 c2).bind fun v4 =>
  if (!v4)=true then
  some (.inr false)
  else
  CO x0 x1 f (wr .i64 (c2 + 1))
  else
  some (.inl ())
def Ca (x0:(List Int)) (x1:Int):Option (Bool) :=
 if ((x0.length:Int)!=x1)=true then
 some false
 else
 (CO x0 x1 100000 0).bind fun r7 =>
 match r7 with
 | (.inl _w8) =>
  some true
 | (.inr w9) =>
  some w9
def FJ:Cs ((List Int)×Int×Unit):=(csC (cdL 1 cdI) (csC cdI csN))
def FL (r:Bool):AV:=cdB.enc r
theorem GM (x0:(List Int)) (x1:Int):∀ (f:Nat) (c2:Int) (r:(Unit) ⊕ (Bool)),CO x0 x1 f c2=some r->SemN E0 ⟨none,false⟩ (pc FH [1,1,0,1,0,0]) f ⟨Fr 19 [(0,.sl 1 (x0.map cdI.enc)),(10,.v (.int .i64 x1)),(11,.v (.int .i64 c2))],[]⟩ (fun e s=>match r with
 | (.inl _w)=>e=(.exit 0)/\Wk E0 s ⟨Fr 19 [],[]⟩
 | (.inr w)=>e = .ret/\Wk E0 s ⟨Fr 19 [(4,.v (.bool w))],[]⟩):=by
 intro f;induction f with
 | zero=>intro c2 r h; cases h
 | succ f ih0 =>
  intro c2 r h
  have ih:=fun (c2:Int)=>ih0 c2 r
  unfold CO at h;refine B6 ?_
  let p1:Nat×AV:=(11,.v (.int .i64 c2))
  let p2:Nat×AV:=(10,.v (.int .i64 x1))
  let p3:Nat×AV:=(0,.sl 1 (x0.map cdI.enc))
  refine AJ AC [p3,p2,p1,(12,.v (.bool (decide (c2 < x1))))] [] ?_;refine AG ?_;refine AM (b:=(decide (c2 < x1))) kr (fun hb3=>?_) (fun hb3=>?_)
  ·rw [if_pos hb3] at h
   refine AP ?_;refine AG ?_;refine Aj ?_;refine AJ AC [p3,(5,.v (.int .i64 c2)),p2,p1] [] ?_;refine AG ?_;obtain ⟨v4,hv4,h⟩:=OB h;refine AH (s1:=⟨Fr 19 [p3,p2,p1,(17,.v (.bool (!v4)))],[]⟩) ?_ ?_
   ·refine AD (n:=19) AC 2 [p3,p2,p1,(14,.sl 1 (x0.map cdI.enc)),(15,.v (.int .i64 c2))] [] kr ?_
    refine Ai (caps:=[]) (xs:=[.sl 1 (x0.map cdI.enc),.v (.int .i64 c2)]) (u:=(x0,c2,())) rfl rfl JA rfl (AB rfl) kr kr (AU (Ao (c:=(cdL 1 cdI)) (v:=x0)) (AU (Ao (c:=cdI) (v:=c2)) Bf)) (.inl kr) hv4 ?_;exact AN AC
   refine AM (b:=(!v4)) kr (fun hb5=>?_) (fun hb5=>?_)
   ·rw [if_pos hb5] at h
    refine AJ AC [(4,.v (.bool false))] [] ?_;refine AT ?_;have hq:=OI h; subst hq;exact ⟨rfl,AO⟩
   ·rw [CK hb5] at h
    refine AP ?_
    let p4:Nat×AV:=(11,.v (.int .i64 (wr .i64 (c2 + 1))))
    refine DD AC [p3,p2,p4] [] ?_;exact Aw (s1:=⟨Fr 19 [p3,p2,p4],[]⟩) AO (ih (wr .i64 (c2 + 1)) h)
  ·rw [CK hb3] at h
   refine Cc ?_;have hq:=OI h; subst hq;exact ⟨rfl,AO⟩
theorem Jv (x0:(List Int)) (x1:Int) (r:Bool) (h:Ca x0 x1=some r):Sem E0 ⟨none,false⟩ FH ⟨Fr 19 (BK 0 (FJ.enc (x0,x1,()))),[]⟩ fun e s'=>(e = .normal\/e = .ret)/\∃ xs,Ej E0.P s'.fr s'.hp Tryz.f50.results.toList=some xs/\Eu xs=FL r:=by
 unfold Ca at h
 let p1:Nat×AV:=(1,.v (.int .i64 x1))
 let p2:Nat×AV:=(0,.sl 1 (x0.map cdI.enc))
 refine A3 (Bo (s1:=⟨Fr 19 [p2,p1],[]⟩) AO ?_);refine AJ AC [p2,p1] [] ?_;refine AG ?_;refine AG ?_;refine AH (s1:=⟨Fr 19 [p2,p1,(9,.v (.bool ((x0.length:Int)!=x1)))],[]⟩) ?_ ?_
 ·refine AD (n:=19) AC 1 [p2,p1,(6,.sl 1 (x0.map cdI.enc))] [] kr ?_
  refine AK AC 0 rfl (CZ (AB rfl) rfl (DS (a:= .sl 1 (x0.map cdI.enc)) kr (B4 (el:=3) kr))) ?_;exact AN AC
 refine AM (b:=((x0.length:Int)!=x1)) kr (fun hb1=>?_) (fun hb1=>?_)
 ·rw [if_pos hb1] at h
  refine AJ AC [(4,.v (.bool false))] [] ?_;refine AT ?_;have hq:=OI h; subst hq;exact ⟨⟨Fr 19 [(4,.v (.bool false))],[]⟩,AO,.inr rfl,[.v (.bool false)],kr,kr⟩
 ·rw [CK hb1] at h
  refine AP ?_;refine AG ?_
  let p3:Nat×AV:=(11,.v (.int .i64 0))
  let p4:Nat×AV:=(10,.v (.int .i64 x1))
  refine AJ AC [p2,p4,p3] [] ?_;refine Aj ?_;obtain ⟨r7,hr7,h⟩:=OB h;refine Ch (n:=100000) ?_;rcases r7 with w8 | w9
  ·try dsimp only at h
   refine BQ (Aw (s1:=⟨Fr 19 [p2,p4,p3],[]⟩) AO (GM x0 x1 _ 0 _ hr7)) ?_;refine AJ AC [(4,.v (.bool true))] [] ?_;refine AT ?_;have hq:=OI h; subst hq;exact ⟨⟨Fr 19 [(4,.v (.bool true))],[]⟩,AO,.inr rfl,[.v (.bool true)],kr,kr⟩
  ·try dsimp only at h
   refine BQ (Aw (s1:=⟨Fr 19 [p2,p4,p3],[]⟩) AO (GM x0 x1 _ 0 _ hr7)) ?_;have hq:=OI h; subst hq;exact ⟨⟨Fr 19 [(4,.v (.bool w9))],[]⟩,AO,.inr rfl,[.v (.bool w9)],kr,kr⟩
def Kl:List AV->Option AV:=EA FJ (fun a=>Ca a.1 a.2.1) FL
theorem Kn:XOk 50 Kl:=by
 refine AW Tryz.func50 (c:=FH) ?h2 ⟨Tryz.call50⟩ FJ (fun a=>Ca a.1 a.2.1) FL (fun a=>(by show 2<=19; decide)) ?h3 ?h4
 case h2=>kernel_rfl
 case h3=>intro b; kernel_rfl
 case h4=>exact fun a b h=>Jv a.1 a.2.1 b h
noncomputable def Gp:Code:=Bn Tryz.f44
def Bp (xs:List Int):Option Blk:=some ⟨1,3,xs.map cdI.enc,false⟩
set_option maxRecDepth 100000 in
theorem IM (xs:List Int) (hc:Fa 8 xs.length=true):Sem E0 ⟨none,false⟩ Gp ⟨Fr 8 [(0,.sl 1 (xs.map cdI.enc))],[]⟩ fun e s'=>(e = .normal\/e = .ret)/\((xs=[]/\s'=⟨Fr 8 [(2,.e0)],[]⟩)\/s'=⟨Fr 8 [(2,.rf 0 0 xs.length xs.length)],[Bp xs]⟩):=by
 refine AG ?_
 refine AH (s1:=⟨Fr 8 [(0,.sl 1 (xs.map cdI.enc)),(2,.e0)],[]⟩) ?_ ?_
 ·refine Ik AC 1 (s1:=⟨Fr 8 [(0,.sl 1 (xs.map cdI.enc)),(2,.e0)],[]⟩) (by kernel_rfl) ?_
  exact AL rfl AO
 refine AG ?_
 refine AG (Qq ?_)
 refine Ik AC 1 (s1:=⟨Fr 8 [(0,.sl 1 (xs.map cdI.enc)),(2,.e0),(3,.sl 1 (xs.map cdI.enc))],[]⟩) (by kernel_rfl) ?_
 refine RV (k:=1) (el:=3) (es:=xs.map cdI.enc) rfl (AB rfl) (by kernel_rfl) (by kernel_rfl) fun b hb=>AL rfl ?_
 have hb:b=true->xs=[]:=fun h=>List.map_eq_nil_iff.1 (hb h)
 refine AM (b:=b) (by kernel_rfl) (fun hb1=>?_) (fun hb1=>?_)
 ·have hx:=hb hb1
  refine A3 ?_
  refine AG (AH (s1:=⟨Fr 8 [(2,.e0)],[]⟩) ?_ (AT ?_))
  ·refine Ik AC 1 (s1:=⟨Fr 8 [(0,.sl 1 (xs.map cdI.enc)),(2,.e0),(3,.sl 1 (xs.map cdI.enc)),(4,.v (.bool b))],[]⟩) (by kernel_rfl) ?_
   exact AL rfl AO
  ·exact ⟨_,Wk.refl,.inr rfl,.inl ⟨hx,rfl⟩⟩
 ·refine AP ?_
  refine A3 (AG (Qq ?_))
  refine Ik AC 2 (s1:=⟨Fr 8 [(0,.sl 1 (xs.map cdI.enc)),(2,.e0),(3,.sl 1 (xs.map cdI.enc)),(4,.v (.bool b)),(5,.rf 0 0 0 0),(6,.sl 1 (xs.map cdI.enc))],[Bp []]⟩) (by kernel_rfl) ?_
  cases xs with
  | nil =>
   refine AK AC 0 rfl (T6 (x:= .rf 0 0 0 0) (hp':=[Bp []]) (AB rfl) rfl (by kernel_rfl) (by kernel_rfl) (by kernel_rfl)) ?_
   refine Ik AC 1 (s1:=⟨Fr 8 [(0,.sl 1 []),(2,.rf 0 0 0 0),(3,.sl 1 []),(4,.v (.bool b)),(5,.rf 0 0 0 0),(6,.sl 1 []),(7,.rf 0 0 0 0)],[Bp []]⟩) (by kernel_rfl) (AL rfl (AT ?_))
   exact ⟨⟨Fr 8 [(2,.rf 0 0 0 0)],[Bp []]⟩,AO,.inr rfl,.inr rfl⟩
  | cons y ys =>
   refine AK AC 0 rfl (T6 (AB rfl) rfl (by kernel_rfl) (by kernel_rfl) (IC (a:= .rf 0 0 0 0) (b:= .sl 1 ((y::ys).map cdI.enc)) (by kernel_rfl) (by kernel_rfl) (TU (c:=cdI) (xs:=[]) (vs:=y::ys) (k:=1) (bytes:=8) (el:=3) (by kernel_rfl) (by kernel_rfl) Tg (List.cons_ne_nil _ _) (by kernel_rfl) (by rw [List.length_nil,Nat.zero_add]; exact hc)))) ?_
   refine Ik AC 1 (s1:=⟨Fr 8 [(0,.sl 1 ((y::ys).map cdI.enc)),(2,.rf 1 0 (y::ys).length (y::ys).length),(3,.sl 1 ((y::ys).map cdI.enc)),(4,.v (.bool b)),(5,.rf 0 0 0 0),(6,.sl 1 ((y::ys).map cdI.enc)),(7,.rf 1 0 (y::ys).length (y::ys).length)],[none,Bp (y::ys)]⟩) (by kernel_rfl) (AL rfl (AT ?_))
   exact ⟨⟨Fr 8 [(2,.rf 0 0 (y::ys).length (y::ys).length)],[Bp (y::ys)]⟩,AZ [1] ⟨⟨_,rfl,Bu⟩,trivial⟩ ⟨lv,trivial⟩,.inr rfl,.inr rfl⟩
def JT (xs:List Int) (x:AV) (h':Hp):Prop:=(xs=[]/\x = .e0/\h'=[])\/(x = .rf 0 0 xs.length xs.length/\h'=[Bp xs])
theorem KM (xs:List Int) (hc:Fa 8 xs.length=true):SOk 44 [.sl 1 (xs.map cdI.enc)] (JT xs):=by
 refine Rt AC rfl rfl (fn:=Tryz.f44) (c:=Gp) (by kernel_rfl) (by kernel_rfl) ⟨Tryz.call44⟩ (by show 1<=8; decide) (Sem.mono (IM xs hc) ?_)
 rintro e s' ⟨he,⟨hx,rfl⟩ | rfl⟩
 ·exact ⟨he,[.e0],by kernel_rfl,.inl ⟨hx,rfl,rfl⟩⟩
 ·exact ⟨he,[.rf 0 0 xs.length xs.length],by kernel_rfl,.inr ⟨rfl,rfl⟩⟩
def PO:Cs (List Int×Unit):=csC (cdL 1 cdI) csN
/- trestle/court.permutation -/
noncomputable def FG:Code:=Bn Tryz.f108
def CN (x0:(List Int)) (x1:Int):Nat->(List Bool)->Int->Option ((Unit) ⊕ (Bool))
 | 0,_,_=>none
 | f + 1,c2,c3 =>
  if (decide (c3 < (x0.length:Int)))=true then
  (idx x0 c3).bind fun v5 =>
  (if (decide (v5 < 0))=true then some (c2,true) else if (decide (v5≥x1))=true then some (c2,true) else (idx c2 v5).bind fun v6 =>
  some (c2,v6)).bind fun j9 =>
  if j9.2=true then
  some (.inr false)
  else
  (idx j9.1 v5).bind fun _v12 =>
  CN x0 x1 f (j9.1.set v5.toNat true) (wr .i64 (c3 + 1))
  else
  some (.inl ())
def Cu (x0:(List Int)) (x1:Int):Option (Bool) :=
 if (Nx 1 x1)=true then
 (CN x0 x1 100000 (List.replicate x1.toNat false) 0).bind fun r15 =>
 match r15 with
 | (.inl _w16) =>
  some ((x0.length:Int)==x1)
 | (.inr w17) =>
  some w17
 else none
def FI:Cs ((List Int)×Int×Unit):=(csC (cdL 1 cdI) (csC cdI csN))
def FK (r:Bool):AV:=cdB.enc r
theorem F4 (x0:(List Int)) (x1:Int):∀ (f:Nat) (c2:(List Bool)) (c3:Int) (r:(Unit) ⊕ (Bool)),CN x0 x1 f c2 c3=some r->SemN E0 ⟨none,false⟩ (pc FG [1,1,0,1,0,0]) f ⟨Fr 37 [(0,.sl 1 (x0.map cdI.enc)),(1,.v (.int .i64 x1)),(5,.rf 0 0 c2.length c2.length),(10,.sl 1 (x0.map cdI.enc)),(11,.v (.int .i64 (x0.length:Int))),(12,.v (.int .i64 c3))],[some ⟨1,4,(c2.map cdB.enc),false⟩]⟩ (fun e s=>match r with
 | (.inl _w)=>e=(.exit 0)/\Wk E0 s ⟨Fr 37 [(0,.sl 1 (x0.map cdI.enc)),(1,.v (.int .i64 x1))],[]⟩
 | (.inr w)=>e = .ret/\Wk E0 s ⟨Fr 37 [(4,.v (.bool w))],[]⟩):=by
 intro f;induction f with
 | zero=>intro c2 c3 r h; cases h
 | succ f ih0 =>
  intro c2 c3 r h
  have ih:=fun (c2:(List Bool)) (c3:Int)=>ih0 c2 c3 r
  unfold CN at h;refine B6 ?_;refine AJ AC [(0,.sl 1 (x0.map cdI.enc)),(1,.v (.int .i64 x1)),(5,.rf 0 0 c2.length c2.length),(10,.sl 1 (x0.map cdI.enc)),(11,.v (.int .i64 (x0.length:Int))),(12,.v (.int .i64 c3)),(13,.v (.bool (decide (c3 < (x0.length:Int)))))] [some ⟨1,4,(c2.map cdB.enc),false⟩] ?_;refine AG ?_;refine AM (b:=(decide (c3 < (x0.length:Int)))) kr (fun hb4=>?_) (fun hb4=>?_)
  ·rw [if_pos hb4] at h
   refine AP ?_;refine AG ?_;refine Aj ?_;refine AG ?_;obtain ⟨v5,hv5,h⟩:=OB h;refine AH (s1:=⟨Fr 37 [(0,.sl 1 (x0.map cdI.enc)),(1,.v (.int .i64 x1)),(5,.rf 0 0 c2.length c2.length),(7,.v (.int .i64 v5)),(10,.sl 1 (x0.map cdI.enc)),(11,.v (.int .i64 (x0.length:Int))),(12,.v (.int .i64 c3))],[some ⟨1,4,(c2.map cdB.enc),false⟩]⟩) ?_ ?_
   ·refine AK AC 0 rfl (CZ (AB rfl) rfl (AQ (a:= .sl 1 (x0.map cdI.enc)) (b:= .v (.int .i64 c3)) kr kr (GW (e:=cdI.enc) (el:=3) (k:=1) (ki:= .i64) kr kr hv5))) ?_
    exact AN AC
   refine AG ?_;refine AG ?_;obtain ⟨j9,hj9,h⟩:=OB h;refine AH (s1:=⟨Fr 37 [(0,.sl 1 (x0.map cdI.enc)),(1,.v (.int .i64 x1)),(5,.rf 0 0 j9.1.length j9.1.length),(7,.v (.int .i64 v5)),(10,.sl 1 (x0.map cdI.enc)),(11,.v (.int .i64 (x0.length:Int))),(12,.v (.int .i64 c3)),(28,.v (.bool j9.2))],[some ⟨1,4,(j9.1.map cdB.enc),false⟩]⟩) ?_ ?_
   ·refine AD (n:=37) AC 3 [(0,.sl 1 (x0.map cdI.enc)),(1,.v (.int .i64 x1)),(5,.rf 0 0 c2.length c2.length),(7,.v (.int .i64 v5)),(10,.sl 1 (x0.map cdI.enc)),(11,.v (.int .i64 (x0.length:Int))),(12,.v (.int .i64 c3)),(18,.v (.bool (decide (v5 < 0))))] [some ⟨1,4,(c2.map cdB.enc),false⟩] kr ?_
    rcases BE (decide (v5 < 0)) with hc13 | hc13
    ·rw [if_pos hc13] at hj9
     rw [hc13];refine AD (n:=37) AC 10 [(0,.sl 1 (x0.map cdI.enc)),(1,.v (.int .i64 x1)),(5,.rf 0 0 c2.length c2.length),(7,.v (.int .i64 v5)),(10,.sl 1 (x0.map cdI.enc)),(11,.v (.int .i64 (x0.length:Int))),(12,.v (.int .i64 c3)),(19,.tp []),(20,.tp []),(21,.tp []),(24,.tp []),(25,.tp []),(26,.tp []),(27,.tp []),(28,.v (.bool true))] [some ⟨1,4,(c2.map cdB.enc),false⟩] kr ?_;have hq:=OI hj9; subst hq;exact AL rfl (AZ [0] ⟨⟨_,rfl,Bu⟩,trivial⟩ ⟨lv,lv,lv,lv,lv,lv,lv,lv,trivial⟩)
    ·rw [CK hc13] at hj9
     rw [hc13];refine AD (n:=37) AC 5 [(0,.sl 1 (x0.map cdI.enc)),(1,.v (.int .i64 x1)),(5,.rf 0 0 c2.length c2.length),(7,.v (.int .i64 v5)),(10,.sl 1 (x0.map cdI.enc)),(11,.v (.int .i64 (x0.length:Int))),(12,.v (.int .i64 c3)),(19,.v (.int .i64 v5)),(20,.v (.int .i64 x1)),(21,.v (.bool (decide (v5≥x1)))),(23,.v (.bool (decide (v5≥x1))))] [some ⟨1,4,(c2.map cdB.enc),false⟩] kr ?_;rcases BE (decide (v5≥x1)) with hc14 | hc14
     ·rw [if_pos hc14] at hj9
      rw [hc14];refine AD (n:=37) AC 5 [(0,.sl 1 (x0.map cdI.enc)),(1,.v (.int .i64 x1)),(5,.rf 0 0 c2.length c2.length),(7,.v (.int .i64 v5)),(10,.sl 1 (x0.map cdI.enc)),(11,.v (.int .i64 (x0.length:Int))),(12,.v (.int .i64 c3)),(19,.v (.int .i64 v5)),(20,.v (.int .i64 x1)),(21,.v (.bool true)),(24,.tp []),(25,.tp []),(26,.tp []),(27,.tp []),(28,.v (.bool true))] [some ⟨1,4,(c2.map cdB.enc),false⟩] kr ?_;have hq:=OI hj9; subst hq;exact AL rfl (AZ [0] ⟨⟨_,rfl,Bu⟩,trivial⟩ ⟨lv,lv,lv,lv,lv,lv,lv,lv,trivial⟩)
     ·rw [CK hc14] at hj9
      rw [hc14];refine AD (n:=37) AC 2 [(0,.sl 1 (x0.map cdI.enc)),(1,.v (.int .i64 x1)),(5,.rf 0 0 c2.length c2.length),(7,.v (.int .i64 v5)),(10,.sl 1 (x0.map cdI.enc)),(11,.v (.int .i64 (x0.length:Int))),(12,.v (.int .i64 c3)),(19,.v (.int .i64 v5)),(20,.v (.int .i64 x1)),(21,.v (.bool false)),(23,.v (.bool false)),(24,.rf 0 0 c2.length c2.length),(25,.v (.int .i64 v5))] [some ⟨1,4,(c2.map cdB.enc),false⟩] kr ?_;obtain ⟨v6,hv6,hj9⟩:=OB hj9;refine AK AC 0 rfl (CZ kr rfl (AQ (a:= .rf 0 0 c2.length c2.length) (b:= .v (.int .i64 v5)) kr kr (M5 (e:=cdB.enc) (xs:=c2) (t':=4) (el:=4) (k:=1) (ki:= .i64) kr kr kr hv6))) ?_;refine AK AC 0 rfl (CZ kr rfl (Hw (p:= .pt 0 v5.toNat 0) kr (M8 (B:=⟨1,4,(c2.map cdB.enc),false⟩) (m:=1) (g:=false) (e:=cdB.enc) (xs:=c2) kr kr kr rfl (EJ hv6).2 kr))) ?_;refine AD (n:=37) AC 1 [(0,.sl 1 (x0.map cdI.enc)),(1,.v (.int .i64 x1)),(5,.rf 0 0 c2.length c2.length),(7,.v (.int .i64 v5)),(10,.sl 1 (x0.map cdI.enc)),(11,.v (.int .i64 (x0.length:Int))),(12,.v (.int .i64 c3)),(19,.v (.int .i64 v5)),(20,.v (.int .i64 x1)),(21,.v (.bool false)),(24,.rf 0 0 c2.length c2.length),(25,.v (.int .i64 v5)),(26,.pt 0 v5.toNat 0),(27,.v (.bool v6)),(28,.v (.bool v6))] [some ⟨1,4,(c2.map cdB.enc),false⟩] kr ?_;have hq:=OI hj9; subst hq;exact AL rfl (AZ [0] ⟨⟨_,rfl,Bu⟩,trivial⟩ ⟨lv,lv,lv,lv,lv,lv,lv,lv,trivial⟩)
   refine AM (b:=j9.2) kr (fun hb10=>?_) (fun hb10=>?_)
   ·rw [if_pos hb10] at h
    refine AG ?_;refine AH (s1:=⟨Fr 37 [(4,.v (.bool false))],[]⟩) ?_ ?_
    ·refine AD (n:=37) AC 1 [(4,.v (.bool false))] [some ⟨1,4,(j9.1.map cdB.enc),false⟩] kr ?_
     exact AL rfl (AZ [] trivial ⟨lv,trivial⟩)
    refine AT ?_;have hq:=OI h; subst hq;exact ⟨rfl,AO⟩
   ·rw [CK hb10] at h
    refine AP ?_;obtain ⟨v12,hv12,h⟩:=OB h;refine AH (s1:=⟨Fr 37 [(0,.sl 1 (x0.map cdI.enc)),(1,.v (.int .i64 x1)),(5,.rf 0 0 (j9.1.set v5.toNat true).length (j9.1.set v5.toNat true).length),(10,.sl 1 (x0.map cdI.enc)),(11,.v (.int .i64 (x0.length:Int))),(12,.v (.int .i64 c3))],[some ⟨1,4,((j9.1.set v5.toNat true).map cdB.enc),false⟩]⟩) ?_ ?_
    ·refine AD (n:=37) AC 2 [(0,.sl 1 (x0.map cdI.enc)),(1,.v (.int .i64 x1)),(5,.rf 0 0 j9.1.length j9.1.length),(10,.sl 1 (x0.map cdI.enc)),(11,.v (.int .i64 (x0.length:Int))),(12,.v (.int .i64 c3)),(29,.rf 0 0 j9.1.length j9.1.length),(30,.v (.int .i64 v5))] [some ⟨1,4,(j9.1.map cdB.enc),false⟩] kr ?_
     refine AK AC 0 rfl (CZ (AB rfl) rfl (AQ (a:= .rf 0 0 j9.1.length j9.1.length) (b:= .v (.int .i64 v5)) kr kr (M5 (e:=cdB.enc) (xs:=j9.1) (t':=4) (el:=4) (k:=1) (ki:= .i64) kr kr kr hv12))) ?_;refine RunS.store AC (y:= .pt 0 v5.toNat 0) (z:= .v (.bool true)) rfl (AB rfl) kr kr (RK (t':=4) (k:=1) (e:=cdB.enc) (xs:=j9.1) (v:=v12) (v':=true) kr (EJ hv12).2 kr kr kr) ?_;exact AL rfl (AZ [0] ⟨⟨_,rfl,Bu⟩,trivial⟩ ⟨lv,lv,Tx (b':=0) (n:=j9.1.length) kr (by simp) kr,lv,lv,lv,trivial⟩)
    refine DD AC [(0,.sl 1 (x0.map cdI.enc)),(1,.v (.int .i64 x1)),(5,.rf 0 0 (j9.1.set v5.toNat true).length (j9.1.set v5.toNat true).length),(10,.sl 1 (x0.map cdI.enc)),(11,.v (.int .i64 (x0.length:Int))),(12,.v (.int .i64 (wr .i64 (c3 + 1))))] [some ⟨1,4,((j9.1.set v5.toNat true).map cdB.enc),false⟩] ?_;exact Aw (s1:=⟨Fr 37 [(0,.sl 1 (x0.map cdI.enc)),(1,.v (.int .i64 x1)),(5,.rf 0 0 (j9.1.set v5.toNat true).length (j9.1.set v5.toNat true).length),(10,.sl 1 (x0.map cdI.enc)),(11,.v (.int .i64 (x0.length:Int))),(12,.v (.int .i64 (wr .i64 (c3 + 1))))],[some ⟨1,4,((j9.1.set v5.toNat true).map cdB.enc),false⟩]⟩) (AZ [0] ⟨⟨_,rfl,Bu⟩,trivial⟩ ⟨lv,lv,lv,lv,lv,lv,trivial⟩) (ih (j9.1.set v5.toNat true) (wr .i64 (c3 + 1)) h)
  ·rw [CK hb4] at h
   refine Cc ?_;have hq:=OI h; subst hq;exact ⟨rfl,(AZ [] trivial ⟨lv,lv,trivial⟩)⟩
theorem Jq (x0:(List Int)) (x1:Int) (r:Bool) (h:Cu x0 x1=some r):Sem E0 ⟨none,false⟩ FG ⟨Fr 37 (BK 0 (FI.enc (x0,x1,()))),[]⟩ fun e s'=>(e = .normal\/e = .ret)/\∃ xs,Ej E0.P s'.fr s'.hp Tryz.f108.results.toList=some xs/\Eu xs=FK r:=by
 unfold Cu at h
 let p1:Nat×AV:=(1,.v (.int .i64 x1))
 let p2:Nat×AV:=(0,.sl 1 (x0.map cdI.enc))
 refine A3 (Bo (s1:=⟨Fr 37 [p2,p1],[]⟩) AO ?_);refine AJ AC [p2,p1] [] ?_;refine AG ?_;by_cases hk1:(Nx 1 x1)=true
 case neg=>rw [if_neg hk1] at h; cases h
 rw [if_pos hk1] at h
 let p3:Option Blk:=some ⟨1,4,((List.replicate x1.toNat false).map cdB.enc),false⟩
 let p4:Nat×AV:=(5,.rf 0 0 (List.replicate x1.toNat false).length (List.replicate x1.toNat false).length)
 refine AH (s1:=⟨Fr 37 [p2,p1,p4],[p3]⟩) ?_ ?_
 ·refine AD (n:=37) AC 1 [p2,p1,(8,.v (.int .i64 x1))] [] kr ?_
  refine AK AC 0 rfl (Vo (AB rfl) rfl kr (Pj (x:= .v (.int .i64 x1)) (y:= .v (.int .i64 x1)) kr kr (Sq (c:=cdB) (z:=false) (k:=1) (bytes:=1) (el:=4) kr kr hk1))) ?_;exact AN AC
 refine AG ?_;refine AG ?_
 let p5:Nat×AV:=(12,.v (.int .i64 0))
 let p6:Nat×AV:=(11,.v (.int .i64 (x0.length:Int)))
 let p7:Nat×AV:=(10,.sl 1 (x0.map cdI.enc))
 refine AH (s1:=⟨Fr 37 [p2,p1,p4,p7,p6,p5],[p3]⟩) ?_ ?_
 ·refine AD (n:=37) AC 1 [p2,p1,p4,p7] [p3] kr ?_
  refine AK AC 0 rfl (CZ (AB rfl) rfl (DS (a:= .sl 1 (x0.map cdI.enc)) kr (B4 (el:=3) kr))) ?_;exact AN AC
 refine Aj ?_;obtain ⟨r15,hr15,h⟩:=OB h;refine Ch (n:=100000) ?_;rcases r15 with w16 | w17
 ·try dsimp only at h
  refine BQ (Aw (s1:=⟨Fr 37 [p2,p1,p4,p7,p6,p5],[p3]⟩) (AZ [0] ⟨⟨_,rfl,Bu⟩,trivial⟩ ⟨lv,lv,lv,lv,lv,lv,trivial⟩) (F4 x0 x1 _ (List.replicate x1.toNat false) 0 _ hr15)) ?_;refine AG ?_
  let p8:Nat×AV:=(4,.v (.bool ((x0.length:Int)==x1)))
  refine AH (s1:=⟨Fr 37 [p8],[]⟩) ?_ ?_
  ·refine AD (n:=37) AC 1 [p1,(33,.sl 1 (x0.map cdI.enc))] [] kr ?_
   refine AK AC 0 rfl (CZ (AB rfl) rfl (DS (a:= .sl 1 (x0.map cdI.enc)) kr (B4 (el:=3) kr))) ?_;exact AN AC
  refine AT ?_;have hq:=OI h; subst hq;exact ⟨⟨Fr 37 [p8],[]⟩,AO,.inr rfl,[.v (.bool ((x0.length:Int)==x1))],kr,kr⟩
 ·try dsimp only at h
  refine BQ (Aw (s1:=⟨Fr 37 [p2,p1,p4,p7,p6,p5],[p3]⟩) (AZ [0] ⟨⟨_,rfl,Bu⟩,trivial⟩ ⟨lv,lv,lv,lv,lv,lv,trivial⟩) (F4 x0 x1 _ (List.replicate x1.toNat false) 0 _ hr15)) ?_;have hq:=OI h; subst hq;exact ⟨⟨Fr 37 [(4,.v (.bool w17))],[]⟩,AO,.inr rfl,[.v (.bool w17)],kr,kr⟩
def Kk:List AV->Option AV:=EA FI (fun a=>Cu a.1 a.2.1) FK
theorem Km:XOk 108 Kk:=by
 refine AW Tryz.func108 (c:=FG) ?h2 ⟨Tryz.call108⟩ FI (fun a=>Cu a.1 a.2.1) FK (fun a=>(by show 2<=37; decide)) ?h3 ?h4
 case h2=>kernel_rfl
 case h3=>intro b; kernel_rfl
 case h4=>exact fun a b h=>Jq a.1 a.2.1 b h
/- trestle/court.Disagreements -/
noncomputable def Di:Code:=Bn Tryz.f46
def Aq (x2:(List Int)) (v1:(List (List Int))×Bool) (c7:Int) (v9:Int):Nat->Int->Int->Option ((Int))
 | 0,_,_=>none
 | f + 1,c11,c12 =>
  if (decide (c12 < (((x2.take (x2.length:Int).toNat).drop (wr .i64 (c7 + 1)).toNat).length:Int)))=true then
  (idx ((x2.take (x2.length:Int).toNat).drop (wr .i64 (c7 + 1)).toNat) c12).bind fun v14 =>
  (idx v1.1 v14).bind fun v15 =>
  (idx v15 v9).bind fun v16 =>
  Aq x2 v1 c7 v9 f (wr .i64 (c11 + v16)) (wr .i64 (c12 + 1))
  else
  some c11
def Bx (x2:(List Int)) (v1:(List (List Int))×Bool):Nat->Int->Int->Option ((Int))
 | 0,_,_=>none
 | f + 1,c6,c7 =>
  if (decide (c7 < (x2.length:Int)))=true then
  (idx x2 c7).bind fun v9 =>
  if (C7 (wr .i64 (c7 + 1)) (x2.length:Int) x2.length)=true then
  (Aq x2 v1 c7 v9 100000 c6 0).bind fun r18 =>
  Bx x2 v1 f r18 (wr .i64 (c7 + 1))
  else none
  else
  some c6
def A0 (x0:(List (List AE))) (x1:(List Ax)) (x2:(List Int)):Option (Int) :=
 (En x0 x1).bind fun v1 =>
 (if (!v1.2)=true then some true else (Cu x2 (x1.length:Int)).bind fun v2 =>
 some (!v2)).bind fun j4 =>
 if j4=true then
 some 0
 else
 (Bx x2 v1 100000 0 0).bind fun r20 =>
 some r20
def Ee:Cs ((List (List AE))×(List Ax)×(List Int)×Unit):=(csC (cdL 1 (cdL 5 AA)) (csC (cdL 9 AI) (csC (cdL 1 cdI) csN)))
def Ef (r:Int):AV:=cdI.enc r
theorem II (x2:(List Int)) (v1:(List (List Int))×Bool) (c7:Int) (v9:Int):∀ (f:Nat) (c11:Int) (c12:Int) (r:(Int)),Aq x2 v1 c7 v9 f c11 c12=some r->SemN E0 ⟨none,false⟩ (pc Di [1,1,1,1,0,1,0,0,1,1,0,0,1,1,0,0]) f ⟨Fr 57 [(2,.sl 1 (x2.map cdI.enc)),(7,.sl 1 (v1.1.map (cdL 1 cdI).enc)),(9,.v (.int .i64 c11)),(11,.v (.int .i64 v9)),(29,.sl 1 (x2.map cdI.enc)),(30,.v (.int .i64 (x2.length:Int))),(31,.v (.int .i64 c7)),(39,.sl 1 (((x2.take (x2.length:Int).toNat).drop (wr .i64 (c7 + 1)).toNat).map cdI.enc)),(40,.v (.int .i64 (((x2.take (x2.length:Int).toNat).drop (wr .i64 (c7 + 1)).toNat).length:Int))),(41,.v (.int .i64 c12))],[]⟩ (fun e s=>e=(.exit 2)/\Wk E0 s ⟨Fr 57 [(2,.sl 1 (x2.map cdI.enc)),(7,.sl 1 (v1.1.map (cdL 1 cdI).enc)),(9,.v (.int .i64 r)),(29,.sl 1 (x2.map cdI.enc)),(30,.v (.int .i64 (x2.length:Int))),(31,.v (.int .i64 c7))],[]⟩):=by
 intro f;induction f with
 | zero=>intro c11 c12 r h; cases h
 | succ f ih0 =>
  intro c11 c12 r h
  have ih:=fun (c11:Int) (c12:Int)=>ih0 c11 c12 r
  unfold Aq at h;refine B6 ?_
  let p1:Nat×AV:=(41,.v (.int .i64 c12))
  let p2:Nat×AV:=(40,.v (.int .i64 (((x2.take (x2.length:Int).toNat).drop (wr .i64 (c7 + 1)).toNat).length:Int)))
  let p3:Nat×AV:=(39,.sl 1 (((x2.take (x2.length:Int).toNat).drop (wr .i64 (c7 + 1)).toNat).map cdI.enc))
  let p4:Nat×AV:=(31,.v (.int .i64 c7))
  let p5:Nat×AV:=(30,.v (.int .i64 (x2.length:Int)))
  let p6:Nat×AV:=(29,.sl 1 (x2.map cdI.enc))
  let p7:Nat×AV:=(11,.v (.int .i64 v9))
  let p8:Nat×AV:=(7,.sl 1 (v1.1.map (cdL 1 cdI).enc))
  let p9:Nat×AV:=(2,.sl 1 (x2.map cdI.enc))
  refine AJ AC [p9,p8,(9,.v (.int .i64 c11)),p7,p6,p5,p4,p3,p2,p1,(42,.v (.bool (decide (c12 < (((x2.take (x2.length:Int).toNat).drop (wr .i64 (c7 + 1)).toNat).length:Int)))))] [] ?_;refine AG ?_;refine AM (b:=(decide (c12 < (((x2.take (x2.length:Int).toNat).drop (wr .i64 (c7 + 1)).toNat).length:Int)))) kr (fun hb13=>?_) (fun hb13=>?_)
  ·rw [if_pos hb13] at h
   refine AP ?_;refine AG ?_;refine Aj ?_;refine AG ?_;obtain ⟨v14,hv14,h⟩:=OB h;refine AH (s1:=⟨Fr 57 [p9,p8,(9,.v (.int .i64 c11)),p7,(13,.v (.int .i64 v14)),p6,p5,p4,p3,p2,p1],[]⟩) ?_ ?_
   ·refine AK AC 0 rfl (CZ (AB rfl) rfl (AQ (a:= .sl 1 (((x2.take (x2.length:Int).toNat).drop (wr .i64 (c7 + 1)).toNat).map cdI.enc)) (b:= .v (.int .i64 c12)) kr kr (GW (e:=cdI.enc) (el:=3) (k:=1) (ki:= .i64) kr kr hv14))) ?_
    exact AN AC
   obtain ⟨v15,hv15,h⟩:=OB h;obtain ⟨v16,hv16,h⟩:=OB h
   let p10:Nat×AV:=(9,.v (.int .i64 (wr .i64 (c11 + v16))))
   refine AH (s1:=⟨Fr 57 [p9,p8,p10,p7,p6,p5,p4,p3,p2,p1],[]⟩) ?_ ?_
   ·refine AD (n:=57) AC 3 [p9,p8,p7,p6,p5,p4,p3,p2,p1,(45,.v (.int .i64 c11)),(46,.sl 1 (v1.1.map (cdL 1 cdI).enc)),(47,.v (.int .i64 v14))] [] kr ?_
    refine AK AC 0 rfl (CZ (AB rfl) rfl (AQ (a:= .sl 1 (v1.1.map (cdL 1 cdI).enc)) (b:= .v (.int .i64 v14)) kr kr (GW (e:=(cdL 1 cdI).enc) (el:=48) (k:=1) (ki:= .i64) kr kr hv15))) ?_;refine AD (n:=57) AC 2 [p9,p8,p7,p6,p5,p4,p3,p2,p1,(45,.v (.int .i64 c11)),(49,.sl 1 (v15.map cdI.enc)),(50,.v (.int .i64 v9))] [] kr ?_;refine AK AC 0 rfl (CZ (AB rfl) rfl (AQ (a:= .sl 1 (v15.map cdI.enc)) (b:= .v (.int .i64 v9)) kr kr (GW (e:=cdI.enc) (el:=3) (k:=1) (ki:= .i64) kr kr hv16))) ?_;exact AN AC
   let p11:Nat×AV:=(41,.v (.int .i64 (wr .i64 (c12 + 1))))
   refine DD AC [p9,p8,p10,p7,p6,p5,p4,p3,p2,p11] [] ?_;exact Aw (s1:=⟨Fr 57 [p9,p8,p10,p7,p6,p5,p4,p3,p2,p11],[]⟩) AO (ih (wr .i64 (c11 + v16)) (wr .i64 (c12 + 1)) h)
  ·rw [CK hb13] at h
   refine Cc ?_;have hq:=OI h; subst hq;exact ⟨rfl,AO⟩
theorem IG (x2:(List Int)) (v1:(List (List Int))×Bool):∀ (f:Nat) (c6:Int) (c7:Int) (r:(Int)),Bx x2 v1 f c6 c7=some r->SemN E0 ⟨none,false⟩ (pc Di [1,1,1,1,0,1,0,0]) f ⟨Fr 57 [(2,.sl 1 (x2.map cdI.enc)),(7,.sl 1 (v1.1.map (cdL 1 cdI).enc)),(9,.v (.int .i64 c6)),(29,.sl 1 (x2.map cdI.enc)),(30,.v (.int .i64 (x2.length:Int))),(31,.v (.int .i64 c7))],[]⟩ (fun e s=>e=(.exit 0)/\Wk E0 s ⟨Fr 57 [(9,.v (.int .i64 r))],[]⟩):=by
 intro f;induction f with
 | zero=>intro c6 c7 r h; cases h
 | succ f ih0 =>
  intro c6 c7 r h
  have ih:=fun (c6:Int) (c7:Int)=>ih0 c6 c7 r
  unfold Bx at h;refine B6 ?_
  let p1:Nat×AV:=(31,.v (.int .i64 c7))
  let p2:Nat×AV:=(30,.v (.int .i64 (x2.length:Int)))
  let p3:Nat×AV:=(29,.sl 1 (x2.map cdI.enc))
  let p4:Nat×AV:=(9,.v (.int .i64 c6))
  let p5:Nat×AV:=(7,.sl 1 (v1.1.map (cdL 1 cdI).enc))
  let p6:Nat×AV:=(2,.sl 1 (x2.map cdI.enc))
  refine AJ AC [p6,p5,p4,p3,p2,p1,(32,.v (.bool (decide (c7 < (x2.length:Int)))))] [] ?_;refine AG ?_;refine AM (b:=(decide (c7 < (x2.length:Int)))) kr (fun hb8=>?_) (fun hb8=>?_)
  ·rw [if_pos hb8] at h
   refine AP ?_;refine AG ?_;refine Aj ?_;refine AG ?_;obtain ⟨v9,hv9,h⟩:=OB h
   let p7:Nat×AV:=(11,.v (.int .i64 v9))
   refine AH (s1:=⟨Fr 57 [p6,p5,p4,(10,.v (.int .i64 c7)),p7,p3,p2,p1],[]⟩) ?_ ?_
   ·refine AD (n:=57) AC 1 [p6,p5,p4,p3,p2,p1,(33,.v (.int .i64 c7))] [] kr ?_
    refine AK AC 0 rfl (CZ (AB rfl) rfl (AQ (a:= .sl 1 (x2.map cdI.enc)) (b:= .v (.int .i64 c7)) kr kr (GW (e:=cdI.enc) (el:=3) (k:=1) (ki:= .i64) kr kr hv9))) ?_;exact AN AC
   refine AG ?_;by_cases hk10:(C7 (wr .i64 (c7 + 1)) (x2.length:Int) x2.length)=true
   case neg=>rw [if_neg hk10] at h; cases h
   rw [if_pos hk10] at h
   let p8:Nat×AV:=(40,.v (.int .i64 (((x2.take (x2.length:Int).toNat).drop (wr .i64 (c7 + 1)).toNat).length:Int)))
   let p9:Nat×AV:=(39,.sl 1 (((x2.take (x2.length:Int).toNat).drop (wr .i64 (c7 + 1)).toNat).map cdI.enc))
   refine AH (s1:=⟨Fr 57 [p6,p5,p4,p7,p3,p2,p1,p9,p8,(41,.v (.int .i64 0))],[]⟩) ?_ ?_
   ·refine AD (n:=57) AC 3 [p6,p5,p4,p7,p3,p2,p1,(36,.sl 1 (x2.map cdI.enc)),(38,.v (.int .i64 (wr .i64 (c7 + 1))))] [] kr ?_
    refine AK AC 0 rfl (CZ (AB rfl) rfl (Eb (a:= .sl 1 (x2.map cdI.enc)) (l:=(some (.v (.int .i64 (wr .i64 (c7 + 1)))))) (u:=none) (m:=none) kr kr kr rfl (I4 (xs:=x2) (e:=cdI.enc) (k:=1) (el:=3) (lo:=(wr .i64 (c7 + 1))) (hi:=(x2.length:Int)) kr kr (GN (Mq hk10)) rfl hk10))) ?_;refine AK AC 0 rfl (CZ (AB rfl) rfl (DS (a:= .sl 1 (((x2.take (x2.length:Int).toNat).drop (wr .i64 (c7 + 1)).toNat).map cdI.enc)) kr (B4 (el:=3) kr))) ?_;exact AN AC
   refine Aj ?_;obtain ⟨r18,hr18,h⟩:=OB h;refine Ch (n:=100000) ?_;refine BQ (Aw (s1:=⟨Fr 57 [p6,p5,p4,p7,p3,p2,p1,p9,p8,(41,.v (.int .i64 0))],[]⟩) AO (II x2 v1 c7 v9 _ c6 0 _ hr18)) ?_
   let p10:Nat×AV:=(31,.v (.int .i64 (wr .i64 (c7 + 1))))
   refine DD AC [p6,p5,(9,.v (.int .i64 r18)),p3,p2,p10] [] ?_;exact Aw (s1:=⟨Fr 57 [p6,p5,(9,.v (.int .i64 r18)),p3,p2,p10],[]⟩) AO (ih r18 (wr .i64 (c7 + 1)) h)
  ·rw [CK hb8] at h
   refine Cc ?_;have hq:=OI h; subst hq;exact ⟨rfl,AO⟩
theorem Io (x0:(List (List AE))) (x1:(List Ax)) (x2:(List Int)) (r:Int) (h:A0 x0 x1 x2=some r):Sem E0 ⟨none,false⟩ Di ⟨Fr 57 (BK 0 (Ee.enc (x0,x1,x2,()))),[]⟩ fun e s'=>(e = .normal\/e = .ret)/\∃ xs,Ej E0.P s'.fr s'.hp Tryz.f46.results.toList=some xs/\Eu xs=Ef r:=by
 unfold A0 at h;refine A3 (Bo (s1:=⟨Fr 57 [(0,.sl 1 (x0.map (cdL 5 AA).enc)),(1,.sl 9 (x1.map AI.enc)),(2,.sl 1 (x2.map cdI.enc))],[]⟩) AO ?_);refine AJ AC [(0,.sl 1 (x0.map (cdL 5 AA).enc)),(1,.sl 9 (x1.map AI.enc)),(2,.sl 1 (x2.map cdI.enc))] [] ?_;refine AG ?_;obtain ⟨v1,hv1,h⟩:=OB h;refine AH (s1:=⟨Fr 57 [(1,.sl 9 (x1.map AI.enc)),(2,.sl 1 (x2.map cdI.enc)),(7,.sl 1 (v1.1.map (cdL 1 cdI).enc)),(8,.v (.bool v1.2))],[]⟩) ?_ ?_
 ·refine AD (n:=57) AC 2 [(1,.sl 9 (x1.map AI.enc)),(2,.sl 1 (x2.map cdI.enc)),(15,.sl 1 (x0.map (cdL 5 AA).enc)),(16,.sl 9 (x1.map AI.enc))] [] kr ?_
  refine Ai (caps:=[]) (xs:=[.sl 1 (x0.map (cdL 5 AA).enc),.sl 9 (x1.map AI.enc)]) (u:=(x0,x1,())) rfl rfl LH rfl (AB rfl) kr kr (AU (Ao (c:=(cdL 1 (cdL 5 AA))) (v:=x0)) (AU (Ao (c:=(cdL 9 AI)) (v:=x1)) Bf)) (.inr kr) hv1 ?_;exact AN AC
 refine AG ?_;refine AG ?_;obtain ⟨j4,hj4,h⟩:=OB h;refine AH (s1:=⟨Fr 57 [(2,.sl 1 (x2.map cdI.enc)),(7,.sl 1 (v1.1.map (cdL 1 cdI).enc)),(28,.v (.bool j4))],[]⟩) ?_ ?_
 ·refine AD (n:=57) AC 3 [(1,.sl 9 (x1.map AI.enc)),(2,.sl 1 (x2.map cdI.enc)),(7,.sl 1 (v1.1.map (cdL 1 cdI).enc)),(22,.v (.bool (!v1.2)))] [] kr ?_
  rcases BE (!v1.2) with hc21 | hc21
  ·rw [if_pos hc21] at hj4
   rw [hc21];refine AD (n:=57) AC 6 [(2,.sl 1 (x2.map cdI.enc)),(7,.sl 1 (v1.1.map (cdL 1 cdI).enc)),(28,.v (.bool true))] [] kr ?_;have hq:=OI hj4; subst hq;exact AL rfl AO
  ·rw [CK hc21] at hj4
   rw [hc21];refine AD (n:=57) AC 2 [(2,.sl 1 (x2.map cdI.enc)),(7,.sl 1 (v1.1.map (cdL 1 cdI).enc)),(22,.v (.bool false)),(23,.sl 1 (x2.map cdI.enc)),(24,.sl 9 (x1.map AI.enc))] [] kr ?_;refine AK AC 0 rfl (CZ kr rfl (DS (a:= .sl 9 (x1.map AI.enc)) kr (B4 (el:=42) kr))) ?_;obtain ⟨v2,hv2,hj4⟩:=OB hj4;refine Ai (caps:=[]) (xs:=[.sl 1 (x2.map cdI.enc),.v (.int .i64 (x1.length:Int))]) (u:=(x2,(x1.length:Int),())) rfl rfl Km rfl kr kr kr (AU (Ao (c:=(cdL 1 cdI)) (v:=x2)) (AU (Ao (c:=cdI) (v:=(x1.length:Int))) Bf)) (.inl kr) hv2 ?_;refine AD (n:=57) AC 2 [(2,.sl 1 (x2.map cdI.enc)),(7,.sl 1 (v1.1.map (cdL 1 cdI).enc)),(28,.v (.bool (!v2)))] [] kr ?_;have hq:=OI hj4; subst hq;exact AL rfl AO
 refine AM (b:=j4) kr (fun hb5=>?_) (fun hb5=>?_)
 ·rw [if_pos hb5] at h
  refine AJ AC [(6,.v (.int .i64 0))] [] ?_;refine AT ?_;have hq:=OI h; subst hq;exact ⟨⟨Fr 57 [(6,.v (.int .i64 0))],[]⟩,AO,.inr rfl,[.v (.int .i64 0)],kr,kr⟩
 ·rw [CK hb5] at h
  refine AP ?_;refine AJ AC [(2,.sl 1 (x2.map cdI.enc)),(7,.sl 1 (v1.1.map (cdL 1 cdI).enc)),(9,.v (.int .i64 0))] [] ?_;refine AG ?_;refine AG ?_;refine AH (s1:=⟨Fr 57 [(2,.sl 1 (x2.map cdI.enc)),(7,.sl 1 (v1.1.map (cdL 1 cdI).enc)),(9,.v (.int .i64 0)),(29,.sl 1 (x2.map cdI.enc)),(30,.v (.int .i64 (x2.length:Int))),(31,.v (.int .i64 0))],[]⟩) ?_ ?_
  ·refine AD (n:=57) AC 1 [(2,.sl 1 (x2.map cdI.enc)),(7,.sl 1 (v1.1.map (cdL 1 cdI).enc)),(9,.v (.int .i64 0)),(29,.sl 1 (x2.map cdI.enc))] [] kr ?_
   refine AK AC 0 rfl (CZ (AB rfl) rfl (DS (a:= .sl 1 (x2.map cdI.enc)) kr (B4 (el:=3) kr))) ?_;exact AN AC
  refine Aj ?_;obtain ⟨r20,hr20,h⟩:=OB h;refine Ch (n:=100000) ?_;refine BQ (Aw (s1:=⟨Fr 57 [(2,.sl 1 (x2.map cdI.enc)),(7,.sl 1 (v1.1.map (cdL 1 cdI).enc)),(9,.v (.int .i64 0)),(29,.sl 1 (x2.map cdI.enc)),(30,.v (.int .i64 (x2.length:Int))),(31,.v (.int .i64 0))],[]⟩) AO (IG x2 v1 _ 0 0 _ hr20)) ?_;refine AJ AC [(6,.v (.int .i64 r20))] [] ?_;refine AT ?_;have hq:=OI h; subst hq;exact ⟨⟨Fr 57 [(6,.v (.int .i64 r20))],[]⟩,AO,.inr rfl,[.v (.int .i64 r20)],kr,kr⟩
def J1:List AV->Option AV:=EA Ee (fun a=>A0 a.1 a.2.1 a.2.2.1) Ef
theorem Ev:XOk 46 J1:=by
 refine AW Tryz.func46 (c:=Di) ?h2 ⟨Tryz.call46⟩ Ee (fun a=>A0 a.1 a.2.1 a.2.2.1) Ef (fun a=>(by show 3<=57; decide)) ?h3 ?h4
 case h2=>kernel_rfl
 case h3=>intro b; kernel_rfl
 case h4=>exact fun a b h=>Io a.1 a.2.1 a.2.2.1 b h
section
variable {E:Env}{w w':World}{Z Z':Nat->Prop}{R R':List RI}{h h':Hp}{base:Bs}{s s':St}{a:Act}{n:Nat}
/-- What a deferred call must bring about when the function below returns: nothing but new blocks. -/
def RS (P:Program) (g:FuncId) (us:List Value):Prop:=∀ w1,CallsDIn (Fw none) 0 P g us.toArray .returning w1 fun e u' w2=>match e with | .returned _=>settle u' = .returning/\w1.grownBy w2 none | _=>False
theorem SR.grown {D:List Deferred}{b':Bs}(sr:SR E base w Z R s a) (hb:b'.n=base.n) (hg:w.grownBy w' none) (hm:MksD base.n w Z R s.hp D b'.D):SR E b' w' Z R s { a with defers:=D }:=by
 have hz:∀ c,Z c->w'.heap[c]? = w.heap[c]?:=fun c hc=>hg.block c (sr.hh.zlt c hc) (by simp)
 refine ⟨sr.hh.keep hg.size (fun c hc=>hg.block c hc (by simp)),sr.fr.off hz,?_,sr.gl.off hz,by rw [hb]; exact Nat.le_trans sr.bs hg.size⟩
 show MksD b'.n _ _ _ _ _ _
 rw [hb]
 exact MksD.imp (fun r h1 h2 h3=>⟨(hg.block r (JQ h1) (by simp)).trans h1,h2,h3⟩) hm
theorem OD {d:Deferred}{g:FuncId}{fv:_}{cap:Array Value}{us:List Value}(hbD:base.D=[d]) (ht:d.target = .fn fv cap) (hinv:∀ w1,(invoke d.target d.args).run E.P w1 = .ok (.enter g us.toArray) w1) (hcall:RS E.P g us){fn:Func}{S:Value->World->Prop}{xs:List AV}(hres:Ej E.P s.fr s.hp fn.results.toList=some xs)
  (hS:∀ w' u,w.heap.size<=w'.heap.size->w'.os=w.os->w'.tape=w.tape->w'.output=w.output->(∀ c,c < base.n->w'.heap[c]? = w.heap[c]?)->HR w' Z R s.hp->VR w' Z R (Eu xs) u->S u w') :
  ∀ {D:List Deferred} {w1:World},SR E base w1 Z R s { a with defers:=D }->w1.heap.size=w.heap.size->w1.os=w.os->w1.tape=w.tape->w1.output=w.output->(∀ c,c < base.n->w1.heap[c]? = w.heap[c]?) ->
  LeavesInM (Fw none) 0 E.P fn a.tmps (fun e w'=>match e with | .returned v=>S v w' | _=>False) D .returning w1
 | [],w1,sr,hz,ho,ht',hp,hb=>by
  have:=sr.mks
  unfold Mks MksD at this
  rw [hbD] at this
  cases this
 | d'::D,w1,sr,hz,ho,ht',hp,hb=>by
  rcases sr.mks with ⟨Ds',e,hno,hD⟩ | ⟨⟨r,h1,h2,h3,h4,h5,h6⟩,hD⟩
  ·rw [hbD] at e
   injection e with e1 e2
   subst e1 e2
   refine ⟨by simp,.inr ⟨(fun h=>by cases h),fv,cap,g,us.toArray,ht,hinv w1,fun _ _=>trivial,CallsDIn.mono (hcall w1) fun e u' w2 he=>?_⟩⟩
   cases e with
   | returned v =>
    obtain ⟨k1,k2⟩:=he
    dsimp only
    rw [k1]
    refine Hf (base:=⟨base.n,[]⟩) (w:=w2) rfl hres (fun w3 u g1 g2 g3 g4 g5 g6 g7=>hS w3 u ?_ (g2.trans (k2.os.trans ho)) (g3.trans (k2.tape.trans ht')) (g4.trans (k2.output.trans hp)) (fun c hc=>?_) g6 g7) (sr.grown (b':=⟨base.n,[]⟩) rfl k2 hD) rfl rfl rfl rfl (fun _ _=>rfl)
    ·rw [g1,<-hz]; exact k2.size
    ·rw [g5 c hc,k2.block c (Nat.lt_of_lt_of_le hc sr.bs) (by simp)]; exact hb c hc
   | panicked c=>exact he.elim
   | outgrown=>exact he.elim
  ·subst h2
   have hb':∀ c,(Z c\/own R s.hp c)->(w1.putObj r (.deferred none)).heap[c]? = w1.heap[c]?:=fun c hc=>GP (fun e=>by subst e; exact hc.elim h4 h5)
   exact ⟨by simp,.inl ⟨r,w1.putObj r (.deferred none),rfl,run_takeDeferred h3,OD hbD ht hinv hcall hres hS ⟨sr.hh.off (CR _ _ _) hb',sr.fr.off fun c hc=>hb' c (.inl hc),MksD.put hD h6,sr.gl.off fun c hc=>hb' c (.inl hc),by rw [CR]; exact sr.bs⟩ (by rw [CR]; exact hz) ho ht' hp (fun c hc=>(GP (by omega)).trans (hb c hc))⟩⟩
/-- The frame at the entry. -/
theorem V5 {fn:Func}{args:List AV}{us:List Value}(hh:HR w Z R h) (hv:VRs w Z R args us) (hg:GI E w Z):SR E (.of w.heap.size) w Z R ⟨args.map some++List.replicate (fn.ntmps - args.length) (some (.tp [])),h⟩ { tmps:=us.toArray++Array.replicate (fn.ntmps - us.toArray.size) undef,defers:=[] }:=by
 have hul:us.length=args.length:=hv.len
 refine ⟨hh,⟨by simp [hul],fun t x hx=>?_⟩,rfl,hg,Nat.le_refl _⟩
 have e0:us.toArray++Array.replicate (fn.ntmps - us.toArray.size) undef=(us++List.replicate (fn.ntmps - us.length) undef).toArray:=by simp
 rw [e0,Array.getD_eq_getD_getElem?,List.getElem?_toArray]
 by_cases ht:t < args.length
 ·rw [List.getElem?_append_left (by simpa using ht),List.getElem?_map] at hx
  rw [List.getElem?_append_left (by omega)]
  cases hat:args[t]? with
  | none=>rw [hat] at hx; cases hx
  | some q =>
   rw [hat] at hx
   have hx:=OI (OI hx)
   subst hx
   obtain ⟨u,hu1,hu2⟩:=hv.get hat
   rw [hu1]; exact hu2
 ·rw [List.getElem?_append_right (by simp; omega),List.getElem?_replicate] at hx
  split at hx
  ·next hlt =>
   have hx:=OI (OI hx)
   subst hx
   rw [List.getElem?_append_right (by omega),List.getElem?_replicate,if_pos (by rw [hul]; simpa using hlt)]
   exact .tp (us:=[]) rfl (fun i x u hx=>by simp at hx)
  ·cases hx
/-- A function whose body is: A; B; a closure is made and deferred; the rest. -/
theorem PP (hE:EnvOk E){f g:FuncId}{fn:Func}{A B rest:Code}{id:Nat}{o1 o2:Oper}{args cs xs:List AV}{s1 s2 s3 s4:St}{ex:Ex}{p:Operand}{tys:Array TypeId}{us:List Value}
  (hf:E.P.funcs[f]? = some fn) (hb:fn.body=some (.seq A (.seq B (.seq (.region id #[o1,o2] false) rest)))) (hdA:CW A=true) (hdB:CW B=true) (hdR:CW rest=true)
  (eA:evC E n ⟨none,false⟩ A ⟨args.map some++List.replicate (fn.ntmps - args.length) (some (.tp [])),h⟩=some (.normal,s1)) (eB:evC E n ⟨none,false⟩ B s1=some (.normal,s2)) (hg1:o1.guard=none) (e1:op1 E (evC E n) ⟨none,false⟩ o1 s2=some s3) (hg2:o2.guard=none) (ho2:o2.op = .defer ⟨.value p,#[],tys⟩) (hd2:o2.dst=none) (hp:opA E s3.fr p=some (.fn g [] cs))
  (eR:evC E n ⟨none,false⟩ rest s3=some (ex,s4)) (hex:ex = .normal\/ex = .ret) (hres:Ej E.P s4.fr s4.hp fn.results.toList=some xs) (hcl:Bg E.P g) (hdef:∀ us:List Value,us.length=cs.length->RS E.P g us)
  (hh:HR w Z R h) (hv:VRs w Z R args us) (hg:GI E w Z):PE E f us w Z R h (Eu xs) s4.hp:=by
 have hCS:=(code_sound hE n).1
 refine callsIn_wide.1 (callsIn_of_wp_marks (F:=Fw none) (n:=0) hf hb trivial ?_)
 refine wpIn_seq (hCS _ A _ .normal s1 hdA eA none (.of w.heap.size) _ _ w Z R (fun _=>rfl) (V5 hh hv hg) (fun y hy=>by cases hy) fun a1 w1 Z1 R1 sr1 st1=>?_)
 refine wpIn_seq (hCS _ B _ .normal s2 hdB eB none (.of w.heap.size) _ _ w1 Z1 R1 (fun _=>rfl) sr1 (fun y hy=>by cases hy) fun a2 w2 Z2 R2 sr2 st2=>?_)
 refine wpIn_seq (wpIn_region_list ?_)
 unfold wpListIn
 rw [if_pos (by simp [Region.wanted,hg1])]
 refine lw_wpIn none (op1_lw hE hCS e1 sr2 fun a3 w3 Z3 R3 sr3 st3=>?_)
 unfold wpListIn
 rw [if_pos (by simp [Region.wanted,hg2])]
 have hvf:=opA_vr sr3 p _ hp
 generalize hva:a3.eval p=va at hvf
 cases hvf with
 | fn hl hl' hx hy =>
  rename_i u1 u2
  have e1':u1=[]:=by simpa using hl
  subst e1'
  have hrun:(o2.semAt (Fw none).round a3.eval).run E.P w3 = .ok (.defer ⟨.fn (.func g) u2.toArray,#[]⟩) w3:=by
   show (o2.semAt none a3.eval).run E.P w3=_
   rw [Oper.semAt_none]
   simp [execOp,ho2,resolve,hva,Deferred.ofValue]
  refine ⟨fun _ _=>trivial,?_⟩
  rw [hrun,Oper.uponIn_defer,hd2]
  have sr4:SR E ⟨w.heap.size,[⟨.fn (.func g) u2.toArray,#[]⟩]⟩ w3 Z3 R3 s3 { a3 with defers:=⟨.fn (.func g) u2.toArray,#[]⟩::a3.defers }:=by
   refine ⟨sr3.hh,sr3.fr,.inl ⟨_,rfl,fun r h=>?_,sr3.mks⟩,sr3.gl,sr3.bs⟩
   unfold RB at h
   injection h with h
   cases h
  refine hCS _ rest _ ex s4 hdR eR none ⟨w.heap.size,[⟨.fn (.func g) u2.toArray,#[]⟩]⟩ _ _ w3 Z3 R3 (fun _=>rfl) sr4 (fun y hy=>by cases hy) fun a5 w5 Z5 R5 sr5 st5=>?_
  have st:=((st1.trans st2).trans st3).trans st5
  have hle:=OD (base:=⟨w.heap.size,[⟨.fn (.func g) u2.toArray,#[]⟩]⟩) (w:=w5) (a:=a5) (fn:=fn) (g:=g) (us:=u2) rfl rfl (fun w1=>by simp [invoke,hcl.run]) (hdef u2 hl') (S:=fun v w''=>∃ Z' R',HR w'' Z' R' s4.hp/\VR w'' Z' R' (Eu xs) v/\Step w Z R h w'' Z' R' s4.hp) hres (fun w'' u g1 g2 g3 g4 g5 g6 g7=>⟨Z5,R5,g6,g7,⟨g2.trans st.os,g3.trans st.tape,g4.trans st.output,Nat.le_trans st.size g1,fun c hc hn=>(g5 c hc).trans (st.block c hc hn),st.own_,st.z,st.z',st.r⟩⟩) (D:=a5.defers) (w1:=w5) sr5 rfl rfl rfl rfl (fun _ _=>rfl)
  rcases hex with rfl | rfl
  ·exact hle
  ·exact hle
end
/-- Operations of a deferred call, where nothing is to be recovered. -/
def Lf (E:Env):List Oper->St->Option St
 | [],s=>some s
 | o::rest,s=>match o.guard with
  | some _=>none
  | none=>match o.op with
   | .call ⟨.builtin .recover,_,_⟩=>Lf E rest ⟨K7 s.fr o.dst (.v .nilIface),s.hp⟩
   | .typeAssert x _ u true=>match opA E s.fr x,E.P.underlying u,FT E.P u with
    | some (.v .nilIface),some _,some z=>Lf E rest ⟨K7 s.fr o.dst (.tp [z,.v (.bool false)]),s.hp⟩
    | _,_,_=>none
   | .store t p q=>match o.dst,opA E s.fr p,opA E s.fr q with
    | none,some y,some z=>match Eg E.P s.hp t y z with
     | some h=>Lf E rest ⟨s.fr,h⟩
     | none=>none
    | _,_,_=>none
   | op=>match GV E.P (opA E s.fr) s.hp op with
    | some x=>Lf E rest ⟨K7 s.fr o.dst x,s.hp⟩
    | none=>match Ie E.P (opA E s.fr) s.hp op with
     | some (x,h)=>Lf E rest ⟨K7 s.fr o.dst x,h⟩
     | none=>none
section
variable {E:Env}{base:Bs}{ops:Array Oper}{Q:Exit->Act->List Frame->World->Prop}{cs:List Frame}{D:List Deferred}{s':St}
theorem OJ (a:Act) (d:Option Tmp) (u:Value):(a.put d u).defers=a.defers:=by cases d <;> rfl
theorem XT {P:Program}{t u:TypeId}{d:TypeDesc}{v:Value}{w:World}(hu:P.underlying u=some d) (hz:∀ w,(zeroValue u).run P w = .ok v w):(Instr.typeAssert .nilIface t u true).run P w = .ok (.tuple #[v,.bool false]) w:=by
 unfold Instr.typeAssert
 rw [Sem.run_bind,run_underlying hu]
 cases d <;> simp [hz,Result.andThen]
theorem Hq (hrec:recoverD cs=none):∀ {rest:List Oper}{s:St}{a:Act}{w:World}{Z:Nat->Prop}{R:List RI}{k:Nat},Lf E rest s=some s'->SR E base w Z R s a->a.defers=D->(∀ j,rest[j]? = ops[k + j]?) ->
  (∀ a' w' Z' R',SR E base w' Z' R' s' a'->a'.defers=D->Step w Z R s.hp w' Z' R' s'.hp->Q .normal a' cs w')->wpOpsSIn (Fw none) 0 E.P ops Q (List.range' k rest.length) a cs w
 | [],s,a,w,Z,R,k,e,sr,hD,hops,q=>by
  injection e with e; subst e
  exact q a w Z R sr hD (Step.refl _ _ _ _)
 | o::rest,s,a,w,Z,R,k,e,sr,hD,hops,q=>by
  have hok:ops[k]? = some o:=by have:=hops 0; simpa using this.symm
  have hops':∀ j,rest[j]? = ops[k + 1 + j]?:=fun j=>by have:=hops (j + 1); simpa [Nat.add_assoc,Nat.add_comm 1 j] using this
  have hρ:∀ o x,opA E s.fr o=some x->VR w Z R x (a.eval o):=fun o x e=>opA_vr sr o x e
  unfold Lf at e
  split at e
  ·cases e
  ·next hg =>
   rw [List.length_cons,List.range'_succ]
   unfold wpOpsSIn
   rw [hok]
   dsimp only
   refine ⟨fun _ _=>trivial,?_⟩
   rw [if_pos (by simp [Region.wanted,hg])]
   have val:∀ {x:AV} {h':Hp},Ld E.P w Z R s.hp x h' a.eval o->Lf E rest ⟨K7 s.fr o.dst x,h'⟩=some s'->(match (execOp a.eval o).run E.P w with
    | .ok .recover w'=>(match recoverD cs with
     | some (v,cs')=>wpOpsSIn (Fw none) 0 E.P ops Q (List.range' (k + 1) rest.length) (a.put o.dst v) cs' w'
     | none=>wpOpsSIn (Fw none) 0 E.P ops Q (List.range' (k + 1) rest.length) (a.put o.dst .nilIface) cs w')
    | .ok (.value v) w'=>wpOpsSIn (Fw none) 0 E.P ops Q (List.range' (k + 1) rest.length) (a.put o.dst v) cs w'
    | .ok .skip w'=>wpOpsSIn (Fw none) 0 E.P ops Q (List.range' (k + 1) rest.length) (a.put o.dst undef) cs w'
    | .halt (.panic v) w'=>Q (.panic [{ v,recovered:=false }]) a cs w'
    | _=>False):=fun {x h'} hl e=>by
    obtain ⟨u,w',R',h1,h2,h3,h4⟩:=hl
    rw [h1]
    exact Hq hrec e ((sr.step h2 h4).put h3) ((OJ _ _ _).trans hD) hops' fun a' w'' Z'' R'' sr'' hD'' st=>q a' w'' Z'' R'' sr'' hD'' (h4.trans st)
   split at e
   ·next b c ho =>
    have hr:(execOp a.eval o).run E.P w = .ok .recover w:=by
     simp [execOp,ho,resolve,invoke]
     rfl
    rw [hr]
    dsimp only
    rw [hrec]
    exact Hq hrec e (sr.put (.v rfl)) ((OJ _ _ _).trans hD) hops' q
   ·next x t u ho =>
    split at e
    ·next d z hx hu hz =>
     have hv:=(hρ _ _ hx).v_inv
     obtain ⟨v,hv1,_,hrun,_⟩:=Ig (w:=w) (Z:=Z) (R:=R) hz
     refine val (x:= .tp [z,.v (.bool false)]) (h':=s.hp) ⟨.tuple #[v,.bool false],w,R,?_,sr.hh,.tp (us:=[v,.bool false]) rfl (fun i x u hx hu=>?_),Step.refl _ _ _ _⟩ e
     ·simp only [execOp,ho,hv]
      rw [Sem.run_bind,XT hu hrun]
      rfl
     ·match i with
      | 0=>simp at hx hu; subst hx hu; exact hv1
      | 1=>simp at hx hu; subst hx hu; exact .v rfl
      | i + 2=>simp at hx
    ·cases e
   ·next t p r ho =>
    split at e
    ·next y z hd hp hq =>
     split at e
     ·next h' hst =>
      obtain ⟨w',h1,h2,h3⟩:=Ix hρ sr.hh ho hp hq hst
      rw [h1,hd]
      dsimp only
      exact Hq hrec e (sr.step h2 h3) hD hops' fun a' w'' Z'' R'' sr'' hD'' st=>q a' w'' Z'' R'' sr'' hD'' (h3.trans st)
     ·cases e
    ·cases e
   ·split at e
    ·next x hx=>exact val ((evOpQ_sound sr.hh hρ hx).ld sr.hh) e
    ·split at e
     ·next x h' hx=>exact val (evOpN_sound hρ sr.hh hx).ld e
     ·cases e
/-- A deferred closure of the form: what it recovers is looked at; where it was nothing, nothing is done. -/
theorem Wt {g:FuncId}{fn:Func}{id0 id1:Nat}{ops0 ops1:Array Oper}{x:Operand}{X:Code}{s1 s2:St}{us:List Value}(hG:∀ q,E.G q=none) (hf:E.P.funcs[g]? = some fn) (hb:fn.body=some (.seq (.region id0 ops0 false) (.seq (.region id1 ops1 false) (.cond x X .skip)))) (hres:fn.results=#[])
  (e1:Lf E ops0.toList ⟨List.replicate fn.ntmps none,[]⟩=some s1) (e2:Lf E ops1.toList s1=some s2) (ht:opA E s2.fr x=some (.v (.bool false))) (hl:us.length<=fn.ntmps):RS E.P g us:=by
 intro w1
 refine callsDIn_of_wpSIn hf hb trivial fun c₀ cs hm=>?_
 have hrec:recoverD (c₀::cs)=none:=by simp [recoverD,hm]
 have sr0:SR E (.of w1.heap.size) w1 (fun _=>False) [] ⟨List.replicate fn.ntmps none,[]⟩ { tmps:=us.toArray++Array.replicate (fn.ntmps - us.toArray.size) undef,defers:=[] } :=
  ⟨hr_nil (fun _ h=>h.elim),⟨by simp; omega,fun t x hx=>by simp [List.getElem?_replicate] at hx⟩,rfl,(fun q y hy=>by rw [hG] at hy; cases hy),Nat.le_refl _⟩
 refine wpSIn_seq (wpSIn_region ?_)
 rw [List.range_eq_range',show ops0.size=ops0.toList.length by simp]
 refine Hq hrec (rest:=ops0.toList) (k:=0) (D:=[]) e1 sr0 rfl (fun j=>by simp) fun a2 w2 Z2 R2 sr2 hD2 st2=>?_
 show (Code.seq _ _).wpSIn _ _ _ _ _ _ _
 refine wpSIn_seq (wpSIn_region ?_)
 rw [List.range_eq_range',show ops1.size=ops1.toList.length by simp]
 refine Hq hrec (rest:=ops1.toList) (k:=0) (D:=[]) e2 sr2 hD2 (fun j=>by simp) fun a3 w3 Z3 R3 sr3 hD3 st3=>?_
 show (Code.cond _ _ _).wpSIn _ _ _ _ _ _ _
 refine wpSIn_cond (t:=false) (opA_vr sr3 _ _ ht).v_inv ?_
 refine wpSIn_of_wpIn rfl (wpIn_skip ?_)
 have st:=st2.trans st3
 have h0:(Array.mapM (Rr a3.tmps) (#[]:Array ResultVar)).run E.P w3 = .ok #[] w3:=ON (us:=[]) (by simp)
 exact ⟨hD3,.returning,by rw [<-hm],.tuple #[],by rw [OM,hres,Sem.run_bind,h0]; rfl,rfl,⟨st.os,st.tape,st.output,st.size,fun c hc _=>st.block c hc Ov⟩⟩
end
end Go.Proofs.YtlalcoehgkmhlaaGreatDoor
namespace Go.Proofs.YtlalcoehgkmhlaaGreatDoor
open Go.Shelf
def QS:Go.Shelf.Ren:=⟨fun | 217=>194 | 266=>211 | n=>n,fun | 9=>9 | 5=>5 | 3=>3 | n=>n,fun | n=>n⟩
theorem Ve:Go.Proofs.Lays.n217 Tryz.prog QS:={
 mixed:=by kernel_rfl
 f217:=Tryz.func194.trans (congrArg some (by kernel_rfl))
 f266:=Tryz.func211.trans (congrArg some (by kernel_rfl))
 t3:=Tryz.underlying3
 a3:=Tryz.isAgg3
 z3:=Tryz.sizeOf3
 v3:=Tryz.zeroValue3
 t5:=Tryz.underlying5
 a5:=Tryz.isAgg5
 z5:=Tryz.sizeOf5
 v5:=Tryz.zeroValue5
 t9:=Tryz.underlying9
 a9:=Tryz.isAgg9
 z9:=Tryz.sizeOf9
 v9:=Tryz.zeroValue9 }
def QR:Go.Shelf.Ren:=⟨fun | 138=>199 | 195=>213 | 218=>215 | 143=>200 | 219=>173 | 217=>194 | 225=>195 | 224=>196 | 267=>197 | 266=>211 | 314=>212 | n=>n,fun | 9=>9 | 3=>3 | 4=>4 | 5=>5 | 0=>0 | 46=>178 | 146=>222 | 51=>221 | n=>n,fun | 1=>0 | n=>n⟩
theorem Vd:Go.Proofs.Lays.n138 Tryz.prog QR:={
 mixed:=by kernel_rfl
 f138:=Tryz.func199.trans (congrArg some (by kernel_rfl))
 f143:=Tryz.func200.trans (congrArg some (by kernel_rfl))
 f195:=Tryz.func213.trans (congrArg some (by kernel_rfl))
 f217:=Tryz.func194.trans (congrArg some (by kernel_rfl))
 f218:=Tryz.func215.trans (congrArg some (by kernel_rfl))
 f219:=Tryz.func173.trans (congrArg some (by kernel_rfl))
 f224:=Tryz.func196.trans (congrArg some (by kernel_rfl))
 f225:=Tryz.func195.trans (congrArg some (by kernel_rfl))
 f266:=Tryz.func211.trans (congrArg some (by kernel_rfl))
 f267:=Tryz.func197.trans (congrArg some (by kernel_rfl))
 f314:=Tryz.func212.trans (congrArg some (by kernel_rfl))
 t0:=Tryz.underlying0
 a0:=Tryz.isAgg0
 z0:=Tryz.sizeOf0
 v0:=Tryz.zeroValue0
 t3:=Tryz.underlying3
 a3:=Tryz.isAgg3
 z3:=Tryz.sizeOf3
 v3:=Tryz.zeroValue3
 t4:=Tryz.underlying4
 a4:=Tryz.isAgg4
 z4:=Tryz.sizeOf4
 v4:=Tryz.zeroValue4
 t5:=Tryz.underlying5
 a5:=Tryz.isAgg5
 z5:=Tryz.sizeOf5
 v5:=Tryz.zeroValue5
 t9:=Tryz.underlying9
 a9:=Tryz.isAgg9
 z9:=Tryz.sizeOf9
 v9:=Tryz.zeroValue9
 t46:=Tryz.underlying178
 a46:=Tryz.isAgg178
 z46:=Tryz.sizeOf178
 v46:=Tryz.zeroValue178
 t51:=Tryz.underlying221
 a51:=Tryz.isAgg221
 z51:=Tryz.sizeOf221
 v51:=Tryz.zeroValue221
 t146:=Tryz.underlying222
 a146:=Tryz.isAgg222
 z146:=Tryz.sizeOf222
 v146:=Tryz.zeroValue222
 g1:=by kernel_rfl }
open Go.RowKit Go.Lib
/-- The first place of a byte. -/
def ixB:List AV->Option AV
 | [.st s,.v (.int .u8 c)]=>some (.v (.int .i64 (Lib.indexByte s c.toNat.toUInt8)))
 | _=>none
theorem W3 {E:Env}(hE:EnvOk E) (hP:E.P=Tryz.prog):EnvOk (E.withX 194 ixB):=by
 refine hE.withX (hP ▸ ⟨Tryz.call194⟩) fun xs x h w Z us _ _ hv=>?_
 unfold ixB at h
 split at h
 ·next s c =>
  injection h with h
  subst h
  obtain ⟨u1,r1,rfl,h1,hv⟩:=hv.head
  obtain ⟨u2,r2,rfl,h2,hv⟩:=hv.head
  have:r2=[]:=List.eq_nil_of_length_eq_zero hv.len
  subst this
  have e2:=h2.v_inv
  subst e2
  cases h1 with
  | st hs hn =>
   rename_i sb
   rw [hP]
   refine Calls.mono (Any.stringslite_IndexByte Ve sb c w) fun e w' he=>?_
   obtain ⟨rfl,rfl⟩:=he
   exact ⟨NE _,by rw [hs]; exact .v rfl⟩
 ·cases h
/-- How often a byte stands in a string. -/
def YH:List AV->Option AV
 | [.st s,.st [c]]=>some (.v (.int .i64 (Lib.countByte s c)))
 | _=>none
theorem VE {E:Env}(hE:EnvOk E) (hP:E.P=Tryz.prog):EnvOk (E.withX 199 YH):=by
 refine hE.withX (hP ▸ ⟨Tryz.call199⟩) fun xs x h w Z us _ _ hv=>?_
 unfold YH at h
 split at h
 ·next s c =>
  injection h with h
  subst h
  obtain ⟨u1,r1,rfl,h1,hv⟩:=hv.head
  obtain ⟨u2,r2,rfl,h2,hv⟩:=hv.head
  have:r2=[]:=List.eq_nil_of_length_eq_zero hv.len
  subst this
  obtain ⟨sb,rfl,hs⟩:∃ sb,u1 = .string sb/\sb.data.toList=s:=by cases h1 with | st h _=>exact ⟨_,rfl,h⟩
  obtain ⟨sc,rfl,hs2⟩:∃ sc,u2 = .string sc/\sc.data.toList=[c]:=by cases h2 with | st h _=>exact ⟨_,rfl,h⟩
  have e:sc=ByteArray.mk #[c]:=by
   obtain ⟨d⟩:=sc
   congr 1
   apply Array.ext'
   exact hs2
  subst e
  rw [hP]
  refine Calls.mono (Any.strings_Count_one Vd sb c w) fun e w' he=>?_
  obtain ⟨rfl,rfl⟩:=he
  exact ⟨NE _,by rw [hs]; exact .v rfl⟩
 ·cases h
/-- A call of a function that defers one closure: the closure, how many captures it has, what is handed back. -/
def VG (E:Env) (n:Nat) (fn:Func) (args:List AV):Option (FuncId×Nat×AV×Hp):=match fn.body with
 | some (.seq A (.seq B (.seq (.region _ ops false) rest)))=>match ops.toList with
  | [o1,o2]=>match o1.guard,o2.guard,o2.dst,o2.op with
   | none,none,none,.defer ⟨.value p,dargs,_⟩ =>
    if dargs.size=0/\CW A=true/\CW B=true/\CW rest=true then
     match evC E n ⟨none,false⟩ A ⟨args.map some++List.replicate (fn.ntmps - args.length) (some (.tp [])),[]⟩ with
     | some (.normal,s1)=>match evC E n ⟨none,false⟩ B s1 with
      | some (.normal,s2)=>match op1 E (evC E n) ⟨none,false⟩ o1 s2 with
       | some s3=>match opA E s3.fr p with
        | some (.fn g [] cs)=>match evC E n ⟨none,false⟩ rest s3 with
         | some (.normal,s4)=>(Ej E.P s4.fr s4.hp fn.results.toList).map fun xs=>(g,cs.length,Eu xs,s4.hp)
         | some (.ret,s4)=>(Ej E.P s4.fr s4.hp fn.results.toList).map fun xs=>(g,cs.length,Eu xs,s4.hp)
         | _=>none
        | _=>none
       | none=>none
      | _=>none
     | _=>none
    else none
   | _,_,_,_=>none
  | _=>none
 | _=>none
theorem QH {E:Env}(hE:EnvOk E){n:Nat}{f:FuncId}{fn:Func}{args:List AV}{g m:Nat}{x:AV}{h':Hp}(hf:E.P.funcs[f]? = some fn) (hcl:Bg E.P g) (hdef:∀ us:List Value,us.length=m->RS E.P g us) (e:VG E n fn args=some (g,m,x,h')){w:World}{Z:Nat->Prop}{us:List Value}(hz:∀ c,Z c->c < w.heap.size) (hg:GI E w Z) (hv:VRs w Z [] args us):PE E f us w Z [] [] x h':=by
 unfold VG at e
 split at e
 ·next A B id ops rest hb =>
  split at e
  ·next o1 o2 hops =>
   split at e
   ·next p dargs tys hg1 hg2 hd2 ho2 =>
    split at e
    ·next hc =>
     obtain ⟨c1,c2,c3,c4⟩:=hc
     have hops':ops=#[o1,o2]:=by apply Array.ext'; exact hops
     have hda:dargs=#[]:=Array.eq_empty_of_size_eq_zero c1
     subst hops' hda
     split at e
     ·next s1 e1 =>
      split at e
      ·next s2 e2 =>
       split at e
       ·next s3 e3 =>
        split at e
        ·next g' cs hp =>
         split at e
         ·next s4 e4 =>
          obtain ⟨xs,hxs,hxe⟩:=Option.map_eq_some_iff.1 e
          injection hxe with k1 k2; injection k2 with k2 k3; injection k3 with k3 k4
          subst k1 k2 k3 k4
          exact PP hE hf hb c2 c3 c4 e1 e2 hg1 e3 hg2 ho2 hd2 hp e4 (.inl rfl) hxs hcl hdef (hr_nil hz) hv hg
         ·next s4 e4 =>
          obtain ⟨xs,hxs,hxe⟩:=Option.map_eq_some_iff.1 e
          injection hxe with k1 k2; injection k2 with k2 k3; injection k3 with k3 k4
          subst k1 k2 k3 k4
          exact PP hE hf hb c2 c3 c4 e1 e2 hg1 e3 hg2 ho2 hd2 hp e4 (.inr rfl) hxs hcl hdef (hr_nil hz) hv hg
         ·cases e
        ·cases e
       ·cases e
      ·cases e
     ·cases e
    ·cases e
   ·cases e
  ·cases e
 ·cases e
/-- .. as a contract. -/
def dfX (E:Env) (n:Nat) (fn:Func) (g m:Nat) (args:List AV):Option AV:=match VG E n fn args with
 | some (g',m',x,h')=>if g'=g/\m'=m then Ry h' x else none
 | none=>none
theorem Wu {E:Env}(hE:EnvOk E){n:Nat}{f:FuncId}{fn:Func}{g m:Nat}(hf:E.P.funcs[f]? = some fn) (hc:Bg E.P f) (hcl:Bg E.P g) (hdef:∀ us:List Value,us.length=m->RS E.P g us):EnvOk (E.withX f (dfX E n fn g m)):=by
 refine hE.withX hc fun xs y h w Z us hz hgi hv=>?_
 unfold dfX at h
 split at h
 ·next g' m' x h' e =>
  split at h
  ·next hgm =>
   obtain ⟨rfl,rfl⟩:=hgm
   exact frz_ret (QH hE hf hcl hdef e hz hgi hv) h
  ·cases h
 ·cases h
noncomputable def E1:Env:=(E0.withX 194 ixB).withX 199 YH
theorem WX:EnvOk E1:=VE (W3 AC rfl) rfl
theorem XJ (us:List Value) (hl:us.length=2):RS E1.P 124 us :=
 Wt (E:=E1) (s1:=(Lf E1 (match Tryz.f124.body with | some (.seq (.region _ ops _) _)=>ops.toList | _=>[]) ⟨List.replicate Tryz.f124.ntmps none,[]⟩).getD ⟨[],[]⟩) (s2:=(Lf E1 (match Tryz.f124.body with | some (.seq _ (.seq (.region _ ops _) _))=>ops.toList | _=>[]) ((Lf E1 (match Tryz.f124.body with | some (.seq (.region _ ops _) _)=>ops.toList | _=>[]) ⟨List.replicate Tryz.f124.ntmps none,[]⟩).getD ⟨[],[]⟩)).getD ⟨[],[]⟩)
  (fun _=>rfl) Tryz.func124 rfl rfl (by kernel_rfl) (by kernel_rfl) (by kernel_rfl) (by rw [hl]; decide)
noncomputable def E2:Env:=E1.withX 72 (dfX E1 3000 Tryz.f72 124 2)
theorem Xw:EnvOk E2:=Wu WX Tryz.func72 ⟨Tryz.call72⟩ ⟨Tryz.call124⟩ XJ
def exC:List AV:=[.ag [.v (.int .u8 1),.st [],.v (.bool false),.sl 1 [.st [100,117,107,101],.st [99,111,117,110,116]],.v (.int .i64 0)],.ag [.v (.int .u8 2),.st [100,117,107,101],.v (.bool false),.e0,.v (.int .i64 0)],.ag [.v (.int .u8 4),.st [],.v (.bool false),.e0,.v (.int .i64 1)],.ag [.v (.int .u8 8),.st [],.v (.bool false),.e0,.v (.int .i64 0)]]
def exG:List AV:=[.ag [.st [97,100,97],.st [99,111,117,110,116],.st [],.v (.int .i64 0),.v (.int .i64 2),.st [],.v (.bool false),.v (.bool false),.e0],.ag [.st [98,101,97],.st [100,117,107,101],.st [],.v (.int .i64 1700),.v (.int .i64 0),.st [],.v (.bool false),.v (.bool false),.e0],.ag [.st [99,121,114],.st [100,117,107,101],.st [],.v (.int .i64 1650),.v (.int .i64 0),.st [],.v (.bool false),.v (.bool false),.e0],.ag [.st [100,97,110],.st [],.st [],.v (.int .i64 0),.v (.int .i64 1),.st [],.v (.bool false),.v (.bool false),.e0],.ag [.st [101,118,97],.st [99,111,117,110,116],.st [],.v (.int .i64 0),.v (.int .i64 1),.st [],.v (.bool false),.v (.bool false),.e0]]
def i4 (n:Int):AV:= .v (.int .i64 n)
def exT:List UInt8:=[114,97,110,107,32,100,117,107,101,32,99,111,117,110,116,10,97,109,111,110,103,32,100,117,107,101,32,101,108,100,101,114,10,115,105,100,101,32,49,32,102,105,114,115,116,10,110,97,109,101,10]
end Go.Proofs.YtlalcoehgkmhlaaGreatDoor
