/- Lemmas for the proof. -/
import Derived.Test.YtlalcoehgkmhlaaGreatDoorCourtTakesM1
import Derived.Test.YtlalcoehgkmhlaaGreatDoorCourtTakesM2
import Derived.Test.YtlalcoehgkmhlaaGreatDoorCourtTakesM3
import Derived.Test.YtlalcoehgkmhlaaGreatDoorCourtTakesM4
import Derived.RecoverIn
import Derived.Shelf.Strings.Search1
import Derived.Shelf.Strings.Count
set_option maxHeartbeats 4000000
set_option maxRecDepth 100000
namespace Go.Proofs.YtlalcoehgkmhlaaGreatDoor
open Go.RowKit
/- trestle/court.named$1 -/
noncomputable def Ek:Code:=Bo Tryz.f206
def BC (x0:AL) (x1:AE) (x2:AE):Option (Int) :=
 (Fq x0 x1).bind fun v1 =>
 if (!(v1==x2.2.2.1))=true then
 some 0
 else
 some 1
def DJ:Cs (AL×AE×AE×Unit):=(csC AD (csC (cdP (cdF 186 (csE (cdP AB)) (fun _=>rfl))) (csC (cdP AB) csN)))
def DO (r:Int):AV:=cdI.enc r
theorem G4 (x0:AL) (x1:AE) (x2:AE) (r:Int) (h:BC x0 x1 x2=some r):Sem E0 ⟨none,false⟩ Ek ⟨Fr 11 (BQ 0 (DJ.enc (x0,x1,x2,()))),[]⟩ fun e s'=>(e = .normal\/e = .ret)/\∃ xs,Es E0.P s'.fr s'.hp Tryz.f206.results.toList=some xs/\FG xs=DO r:=by
 unfold BC at h
 let p1:Nat×AV:=(2,.pe (AB.enc x2) 0)
 let p2:Nat×AV:=(1,.pe (.fn 186 [] [.pe (AB.enc x1) 0]) 0)
 refine BV (CK (s1:=⟨Fr 11 [(0,AD.enc x0),p2,p1],[]⟩) AZ ?_)
 let p3:Option Blk:=some ⟨10,115,[AD.enc x0],false⟩
 refine AP AC [p2,p1,(3,.pt 0 0 0)] [p3] ?_;refine AJ ?_;refine AJ ?_;obtain ⟨v1,hv1,h⟩:=OB h
 let p4:Nat×AV:=(10,.v (.bool (!(v1==x2.2.2.1))))
 refine F6 AC (s1:=⟨Fr 11 [p4],[]⟩) kr ?_ ?_
 ·refine Bp (n:=11) AC 2 [p1,(5,.fn 186 [] [.pe (AB.enc x1) 0]),(6,AD.enc x0)] [p3] kr kr ?_
  refine CT (caps:=[.pe (AB.enc x1) 0]) (xs:=[AD.enc x0]) (u:=(x0,x1,())) rfl rfl On rfl (AA rfl) kr kr (AY (Ay (c:=AD) (v:=x0)) (AY (Ay (c:=(cdP AB)) (v:=x1)) CB)) kr hv1 ?_;refine Bp (n:=11) AC 3 [p4] [p3] kr kr ?_;exact RunDS.done rfl (Az [] trivial ⟨lv,trivial⟩)
 refine Ab (b:=(!(v1==x2.2.2.1))) kr (fun hb2=>?_) (fun hb2=>?_)
 ·rw [if_pos hb2] at h
  refine AP AC [(4,.v (.int .i64 0))] [] ?_;refine Ah ?_;have hq:=OI h; subst hq;exact ⟨⟨Fr 11 [(4,.v (.int .i64 0))],[]⟩,AZ,.inr rfl,[.v (.int .i64 0)],kr,kr⟩
 ·rw [Cg hb2] at h
  refine As ?_;refine AP AC [(4,.v (.int .i64 1))] [] ?_;refine Ah ?_;have hq:=OI h; subst hq;exact ⟨⟨Fr 11 [(4,.v (.int .i64 1))],[]⟩,AZ,.inr rfl,[.v (.int .i64 1)],kr,kr⟩
def HX:List AV->Option AV:=Ee DJ (fun a=>BC a.1 a.2.1 a.2.2.1) DO
theorem Hc:XOk 206 HX:=by
 refine Ad Tryz.func206 (c:=Ek) ?h2 ⟨Tryz.call206⟩ DJ (fun a=>BC a.1 a.2.1 a.2.2.1) DO (fun a=>(by show 3<=11; decide)) ?h3 ?h4
 case h2=>kernel_rfl
 case h3=>intro b; kernel_rfl
 case h4=>exact fun a b h=>G4 a.1 a.2.1 a.2.2.1 b h
/- trestle/court.placed$1 -/
noncomputable def JL:Code:=Bo Tryz.f208
def Ce (x0:Int):Option (Bool) :=
 (if (decide (x0≥0))=true then some (decide (x0<=63)) else some false).bind fun j2 =>
 some j2
def HC:Cs (Int×Unit):=(csC cdI csN)
def HE (r:Bool):AV:=cdB.enc r
theorem Ls (x0:Int) (r:Bool) (h:Ce x0=some r):Sem E0 ⟨none,false⟩ JL ⟨Fr 9 (BQ 0 (HC.enc (x0,()))),[]⟩ fun e s'=>(e = .normal\/e = .ret)/\∃ xs,Es E0.P s'.fr s'.hp Tryz.f208.results.toList=some xs/\FG xs=HE r:=by
 unfold Ce at h;refine BV (CK (s1:=⟨Fr 9 [(0,.v (.int .i64 x0))],[]⟩) AZ ?_);refine AP AC [(0,.v (.int .i64 x0))] [] ?_;refine AJ ?_;obtain ⟨j2,hj2,h⟩:=OB h;refine AS (s1:=⟨Fr 9 [(2,.v (.bool j2))],[]⟩) ?_ ?_
 ·refine AF (n:=9) AC 3 [(0,.v (.int .i64 x0)),(5,.v (.bool (decide (x0≥0))))] [] kr ?_
  rcases BE (decide (x0≥0)) with hc3 | hc3
  ·rw [if_pos hc3] at hj2
   rw [hc3];refine AF (n:=9) AC 4 [(2,.v (.bool (decide (x0<=63))))] [] kr ?_;have hq:=OI hj2; subst hq;exact AR rfl AZ
  ·rw [Cg hc3] at hj2
   rw [hc3];refine AF (n:=9) AC 4 [(2,.v (.bool false))] [] kr ?_;have hq:=OI hj2; subst hq;exact AR rfl AZ
 refine Ah ?_;have hq:=OI h; subst hq;exact ⟨⟨Fr 9 [(2,.v (.bool j2))],[]⟩,AZ,.inr rfl,[.v (.bool j2)],kr,kr⟩
def NK:List AV->Option AV:=Ee HC (fun a=>Ce a.1) HE
theorem GD:XOk 208 NK:=by
 refine Ad Tryz.func208 (c:=JL) ?h2 ⟨Tryz.call208⟩ HC (fun a=>Ce a.1) HE (fun a=>(by show 1<=9; decide)) ?h3 ?h4
 case h2=>kernel_rfl
 case h3=>intro b; kernel_rfl
 case h4=>exact fun a b h=>Ls a.1 b h
/- trestle/court.plain$8 -/
noncomputable def Jz:Code:=Bo Tryz.f190
def Dm (x0:Int) (x1:AE):Option (Int) :=
 some ((wr .i64 ((wr .i64 (x0 * (wr .i64 ((wr .i64 (2 * x1.2.2.2.2)) + 1)))) + x1.2.2.2.2)).tmod 64)
def Hq:Cs (Int×AE×Unit):=(csC cdI (csC (cdP AB) csN))
def H4 (r:Int):AV:=cdI.enc r
theorem MU (x0:Int) (x1:AE) (r:Int) (h:Dm x0 x1=some r):Sem E0 ⟨none,false⟩ Jz ⟨Fr 14 (BQ 0 (Hq.enc (x0,x1,()))),[]⟩ fun e s'=>(e = .normal\/e = .ret)/\∃ xs,Es E0.P s'.fr s'.hp Tryz.f190.results.toList=some xs/\FG xs=H4 r:=by
 unfold Dm at h;refine BV (CK (s1:=⟨Fr 14 [(0,.v (.int .i64 x0)),(1,.pe (AB.enc x1) 0)],[]⟩) AZ ?_);refine AP AC [(0,.v (.int .i64 x0)),(1,.pe (AB.enc x1) 0)] [] ?_
 let p1:Nat×AV:=(3,.v (.int .i64 ((wr .i64 ((wr .i64 (x0 * (wr .i64 ((wr .i64 (2 * x1.2.2.2.2)) + 1)))) + x1.2.2.2.2)).tmod 64)))
 refine AP AC [p1] [] ?_;refine Ah ?_;have hq:=OI h; subst hq;exact ⟨⟨Fr 14 [p1],[]⟩,AZ,.inr rfl,[.v (.int .i64 ((wr .i64 ((wr .i64 (x0 * (wr .i64 ((wr .i64 (2 * x1.2.2.2.2)) + 1)))) + x1.2.2.2.2)).tmod 64))],kr,kr⟩
def OY:List AV->Option AV:=Ee Hq (fun a=>Dm a.1 a.2.1) H4
theorem Kp:XOk 190 OY:=by
 refine Ad Tryz.func190 (c:=Jz) ?h2 ⟨Tryz.call190⟩ Hq (fun a=>Dm a.1 a.2.1) H4 (fun a=>(by show 2<=14; decide)) ?h3 ?h4
 case h2=>kernel_rfl
 case h3=>intro b; kernel_rfl
 case h4=>exact fun a b h=>MU a.1 a.2.1 b h
/- trestle/court.placed$2 -/
noncomputable def Cm:Code:=Bo Tryz.f209
def An (x0:AL) (x1:AL) (x3:AE):Option (Int) :=
 (Ce x0.2).bind fun v1 =>
 (if (!v1)=true then some true else (Ce x1.2).bind fun v2 =>
 some (!v2)).bind fun j4 =>
 if j4=true then
 some 0
 else
 (Dm x0.2 x3).bind fun v6 =>
 (Dm x1.2 x3).bind fun v7 =>
 (CD v6 v7).bind fun v8 =>
 some v8
def Bx:Cs (AL×AL×Unit×AE×Unit):=(csC AD (csC AD (csC (cdP (cdF 208 csN (fun _=>rfl))) (csC (cdP (cdF 190 (csE (cdP AB)) (fun _=>rfl))) csN))))
def B3 (r:Int):AV:=cdI.enc r
theorem EC (x0:AL) (x1:AL) (x3:AE) (r:Int) (h:An x0 x1 x3=some r):Sem E0 ⟨none,false⟩ Cm ⟨Fr 28 (BQ 0 (Bx.enc (x0,x1,(),x3,()))),[]⟩ fun e s'=>(e = .normal\/e = .ret)/\∃ xs,Es E0.P s'.fr s'.hp Tryz.f209.results.toList=some xs/\FG xs=B3 r:=by
 unfold An at h;refine BV (CK (s1:=⟨Fr 28 [(0,AD.enc x0),(1,AD.enc x1),(2,.pe (.fn 208 [] []) 0),(3,.pe (.fn 190 [] [.pe (AB.enc x3) 0]) 0)],[]⟩) AZ ?_);refine AP AC [(2,.pe (.fn 208 [] []) 0),(3,.pe (.fn 190 [] [.pe (AB.enc x3) 0]) 0),(4,.pt 0 0 0),(5,.pt 1 0 0)] [some ⟨10,115,[AD.enc x0],false⟩,some ⟨10,115,[AD.enc x1],false⟩] ?_;refine AJ ?_;refine AJ ?_;obtain ⟨v1,hv1,h⟩:=OB h;obtain ⟨j4,hj4,h⟩:=OB h;refine AS (s1:=⟨Fr 28 [(3,.pe (.fn 190 [] [.pe (AB.enc x3) 0]) 0),(4,.pt 0 0 0),(5,.pt 1 0 0),(18,.v (.bool j4))],[some ⟨10,115,[AD.enc x0],false⟩,some ⟨10,115,[AD.enc x1],false⟩]⟩) ?_ ?_
 ·refine AF (n:=28) AC 3 [(2,.pe (.fn 208 [] []) 0),(3,.pe (.fn 190 [] [.pe (AB.enc x3) 0]) 0),(4,.pt 0 0 0),(5,.pt 1 0 0),(7,.fn 208 [] []),(9,.v (.int .i64 x0.2))] [some ⟨10,115,[AD.enc x0],false⟩,some ⟨10,115,[AD.enc x1],false⟩] kr ?_
  refine A1 (caps:=[]) (xs:=[.v (.int .i64 x0.2)]) (u:=(x0.2,())) rfl rfl GD rfl (AA rfl) kr kr (AY (Ay (c:=cdI) (v:=x0.2)) CB) (.inl kr) hv1 ?_;refine AF (n:=28) AC 2 [(2,.pe (.fn 208 [] []) 0),(3,.pe (.fn 190 [] [.pe (AB.enc x3) 0]) 0),(4,.pt 0 0 0),(5,.pt 1 0 0),(12,.v (.bool (!v1)))] [some ⟨10,115,[AD.enc x0],false⟩,some ⟨10,115,[AD.enc x1],false⟩] kr ?_;rcases BE (!v1) with hc9 | hc9
  ·rw [if_pos hc9] at hj4
   rw [hc9];refine AF (n:=28) AC 6 [(3,.pe (.fn 190 [] [.pe (AB.enc x3) 0]) 0),(4,.pt 0 0 0),(5,.pt 1 0 0),(18,.v (.bool true))] [some ⟨10,115,[AD.enc x0],false⟩,some ⟨10,115,[AD.enc x1],false⟩] kr ?_;have hq:=OI hj4; subst hq;exact AR rfl (Az [0,1] ⟨⟨_,rfl,C8⟩,⟨_,rfl,C8⟩,trivial⟩ ⟨lv,lv,lv,lv,trivial⟩)
  ·rw [Cg hc9] at hj4
   rw [hc9];refine AF (n:=28) AC 3 [(3,.pe (.fn 190 [] [.pe (AB.enc x3) 0]) 0),(4,.pt 0 0 0),(5,.pt 1 0 0),(12,.v (.bool false)),(13,.fn 208 [] []),(15,.v (.int .i64 x1.2))] [some ⟨10,115,[AD.enc x0],false⟩,some ⟨10,115,[AD.enc x1],false⟩] kr ?_;obtain ⟨v2,hv2,hj4⟩:=OB hj4;refine A1 (caps:=[]) (xs:=[.v (.int .i64 x1.2)]) (u:=(x1.2,())) rfl rfl GD rfl kr kr kr (AY (Ay (c:=cdI) (v:=x1.2)) CB) (.inl kr) hv2 ?_;refine AF (n:=28) AC 2 [(3,.pe (.fn 190 [] [.pe (AB.enc x3) 0]) 0),(4,.pt 0 0 0),(5,.pt 1 0 0),(18,.v (.bool (!v2)))] [some ⟨10,115,[AD.enc x0],false⟩,some ⟨10,115,[AD.enc x1],false⟩] kr ?_;have hq:=OI hj4; subst hq;exact AR rfl (Az [0,1] ⟨⟨_,rfl,C8⟩,⟨_,rfl,C8⟩,trivial⟩ ⟨lv,lv,lv,lv,trivial⟩)
 refine Ab (b:=j4) kr (fun hb5=>?_) (fun hb5=>?_)
 ·rw [if_pos hb5] at h
  refine AJ ?_;refine AS (s1:=⟨Fr 28 [(6,.v (.int .i64 0))],[]⟩) ?_ ?_
  ·refine AF (n:=28) AC 1 [(6,.v (.int .i64 0))] [some ⟨10,115,[AD.enc x0],false⟩,some ⟨10,115,[AD.enc x1],false⟩] kr ?_
   exact AR rfl (Az [] trivial ⟨lv,trivial⟩)
  refine Ah ?_;have hq:=OI h; subst hq;exact ⟨⟨Fr 28 [(6,.v (.int .i64 0))],[]⟩,AZ,.inr rfl,[.v (.int .i64 0)],kr,kr⟩
 ·rw [Cg hb5] at h
  refine As ?_;refine AJ ?_;obtain ⟨v6,hv6,h⟩:=OB h;obtain ⟨v7,hv7,h⟩:=OB h;obtain ⟨v8,hv8,h⟩:=OB h;refine F6 AC (s1:=⟨Fr 28 [(6,.v (.int .i64 v8))],[]⟩) kr ?_ ?_
  ·refine Bp (n:=28) AC 3 [(3,.pe (.fn 190 [] [.pe (AB.enc x3) 0]) 0),(5,.pt 1 0 0),(19,.fn 190 [] [.pe (AB.enc x3) 0]),(21,.v (.int .i64 x0.2))] [some ⟨10,115,[AD.enc x0],false⟩,some ⟨10,115,[AD.enc x1],false⟩] kr kr ?_
   refine CT (caps:=[.pe (AB.enc x3) 0]) (xs:=[.v (.int .i64 x0.2)]) (u:=(x0.2,x3,())) rfl rfl Kp rfl (AA rfl) kr kr (AY (Ay (c:=cdI) (v:=x0.2)) (AY (Ay (c:=(cdP AB)) (v:=x3)) CB)) kr hv6 ?_;refine Bp (n:=28) AC 3 [(22,.v (.int .i64 v6)),(23,.fn 190 [] [.pe (AB.enc x3) 0]),(25,.v (.int .i64 x1.2))] [some ⟨10,115,[AD.enc x0],false⟩,some ⟨10,115,[AD.enc x1],false⟩] kr kr ?_;refine CT (caps:=[.pe (AB.enc x3) 0]) (xs:=[.v (.int .i64 x1.2)]) (u:=(x1.2,x3,())) rfl rfl Kp rfl (AA rfl) kr kr (AY (Ay (c:=cdI) (v:=x1.2)) (AY (Ay (c:=(cdP AB)) (v:=x3)) CB)) kr hv7 ?_;refine CT (caps:=[]) (xs:=[.v (.int .i64 v6),.v (.int .i64 v7)]) (u:=(v6,v7,())) rfl rfl Eq rfl (AA rfl) kr kr (AY (Ay (c:=cdI) (v:=v6)) (AY (Ay (c:=cdI) (v:=v7)) CB)) kr hv8 ?_;refine Bp (n:=28) AC 1 [(6,.v (.int .i64 v8))] [some ⟨10,115,[AD.enc x0],false⟩,some ⟨10,115,[AD.enc x1],false⟩] kr kr ?_;exact RunDS.done rfl (Az [] trivial ⟨lv,trivial⟩)
  refine Ah ?_;have hq:=OI h; subst hq;exact ⟨⟨Fr 28 [(6,.v (.int .i64 v8))],[]⟩,AZ,.inr rfl,[.v (.int .i64 v8)],kr,kr⟩
def EV:List AV->Option AV:=Ee Bx (fun a=>An a.1 a.2.1 a.2.2.2.1) B3
theorem EY:XOk 209 EV:=by
 refine Ad Tryz.func209 (c:=Cm) ?h2 ⟨Tryz.call209⟩ Bx (fun a=>An a.1 a.2.1 a.2.2.2.1) B3 (fun a=>(by show 4<=28; decide)) ?h3 ?h4
 case h2=>kernel_rfl
 case h3=>intro b; kernel_rfl
 case h4=>exact fun a b h=>EC a.1 a.2.1 a.2.2.2.1 b h
/- trestle/court.plain$9 -/
noncomputable def J0:Code:=Bo Tryz.f191
def FB (x0:Int):Option (Int) :=
 some x0
def Hr:Cs (Int×Unit):=(csC cdI csN)
def H5 (r:Int):AV:=cdI.enc r
theorem MV (x0:Int) (r:Int) (h:FB x0=some r):Sem E0 ⟨none,false⟩ J0 ⟨Fr 4 (BQ 0 (Hr.enc (x0,()))),[]⟩ fun e s'=>(e = .normal\/e = .ret)/\∃ xs,Es E0.P s'.fr s'.hp Tryz.f191.results.toList=some xs/\FG xs=H5 r:=by
 unfold FB at h;refine BV (CK (s1:=⟨Fr 4 [(0,.v (.int .i64 x0))],[]⟩) AZ ?_);refine AP AC [(0,.v (.int .i64 x0))] [] ?_;refine AP AC [(2,.v (.int .i64 x0))] [] ?_;refine Ah ?_;have hq:=OI h; subst hq;exact ⟨⟨Fr 4 [(2,.v (.int .i64 x0))],[]⟩,AZ,.inr rfl,[.v (.int .i64 x0)],kr,kr⟩
def OZ:List AV->Option AV:=Ee Hr (fun a=>FB a.1) H5
theorem Kq:XOk 191 OZ:=by
 refine Ad Tryz.func191 (c:=J0) ?h2 ⟨Tryz.call191⟩ Hr (fun a=>FB a.1) H5 (fun a=>(by show 1<=4; decide)) ?h3 ?h4
 case h2=>kernel_rfl
 case h3=>intro b; kernel_rfl
 case h4=>exact fun a b h=>MV a.1 b h
/- trestle/court.placed$2 -/
noncomputable def Cn:Code:=Bo Tryz.f209
def Ao (x0:AL) (x1:AL):Option (Int) :=
 (Ce x0.2).bind fun v1 =>
 (if (!v1)=true then some true else (Ce x1.2).bind fun v2 =>
 some (!v2)).bind fun j4 =>
 if j4=true then
 some 0
 else
 (FB x0.2).bind fun v6 =>
 (FB x1.2).bind fun v7 =>
 (CD v6 v7).bind fun v8 =>
 some v8
def By:Cs (AL×AL×Unit×Unit×Unit):=(csC AD (csC AD (csC (cdP (cdF 208 csN (fun _=>rfl))) (csC (cdP (cdF 191 csN (fun _=>rfl))) csN))))
def B4 (r:Int):AV:=cdI.enc r
theorem ED (x0:AL) (x1:AL) (r:Int) (h:Ao x0 x1=some r):Sem E0 ⟨none,false⟩ Cn ⟨Fr 28 (BQ 0 (By.enc (x0,x1,(),(),()))),[]⟩ fun e s'=>(e = .normal\/e = .ret)/\∃ xs,Es E0.P s'.fr s'.hp Tryz.f209.results.toList=some xs/\FG xs=B4 r:=by
 unfold Ao at h;refine BV (CK (s1:=⟨Fr 28 [(0,AD.enc x0),(1,AD.enc x1),(2,.pe (.fn 208 [] []) 0),(3,.pe (.fn 191 [] []) 0)],[]⟩) AZ ?_);refine AP AC [(2,.pe (.fn 208 [] []) 0),(3,.pe (.fn 191 [] []) 0),(4,.pt 0 0 0),(5,.pt 1 0 0)] [some ⟨10,115,[AD.enc x0],false⟩,some ⟨10,115,[AD.enc x1],false⟩] ?_;refine AJ ?_;refine AJ ?_;obtain ⟨v1,hv1,h⟩:=OB h;obtain ⟨j4,hj4,h⟩:=OB h;refine AS (s1:=⟨Fr 28 [(3,.pe (.fn 191 [] []) 0),(4,.pt 0 0 0),(5,.pt 1 0 0),(18,.v (.bool j4))],[some ⟨10,115,[AD.enc x0],false⟩,some ⟨10,115,[AD.enc x1],false⟩]⟩) ?_ ?_
 ·refine AF (n:=28) AC 3 [(2,.pe (.fn 208 [] []) 0),(3,.pe (.fn 191 [] []) 0),(4,.pt 0 0 0),(5,.pt 1 0 0),(7,.fn 208 [] []),(9,.v (.int .i64 x0.2))] [some ⟨10,115,[AD.enc x0],false⟩,some ⟨10,115,[AD.enc x1],false⟩] kr ?_
  refine A1 (caps:=[]) (xs:=[.v (.int .i64 x0.2)]) (u:=(x0.2,())) rfl rfl GD rfl (AA rfl) kr kr (AY (Ay (c:=cdI) (v:=x0.2)) CB) (.inl kr) hv1 ?_;refine AF (n:=28) AC 2 [(2,.pe (.fn 208 [] []) 0),(3,.pe (.fn 191 [] []) 0),(4,.pt 0 0 0),(5,.pt 1 0 0),(12,.v (.bool (!v1)))] [some ⟨10,115,[AD.enc x0],false⟩,some ⟨10,115,[AD.enc x1],false⟩] kr ?_;rcases BE (!v1) with hc9 | hc9
  ·rw [if_pos hc9] at hj4
   rw [hc9];refine AF (n:=28) AC 6 [(3,.pe (.fn 191 [] []) 0),(4,.pt 0 0 0),(5,.pt 1 0 0),(18,.v (.bool true))] [some ⟨10,115,[AD.enc x0],false⟩,some ⟨10,115,[AD.enc x1],false⟩] kr ?_;have hq:=OI hj4; subst hq;exact AR rfl (Az [0,1] ⟨⟨_,rfl,C8⟩,⟨_,rfl,C8⟩,trivial⟩ ⟨lv,lv,lv,lv,trivial⟩)
  ·rw [Cg hc9] at hj4
   rw [hc9];refine AF (n:=28) AC 3 [(3,.pe (.fn 191 [] []) 0),(4,.pt 0 0 0),(5,.pt 1 0 0),(12,.v (.bool false)),(13,.fn 208 [] []),(15,.v (.int .i64 x1.2))] [some ⟨10,115,[AD.enc x0],false⟩,some ⟨10,115,[AD.enc x1],false⟩] kr ?_;obtain ⟨v2,hv2,hj4⟩:=OB hj4;refine A1 (caps:=[]) (xs:=[.v (.int .i64 x1.2)]) (u:=(x1.2,())) rfl rfl GD rfl kr kr kr (AY (Ay (c:=cdI) (v:=x1.2)) CB) (.inl kr) hv2 ?_;refine AF (n:=28) AC 2 [(3,.pe (.fn 191 [] []) 0),(4,.pt 0 0 0),(5,.pt 1 0 0),(18,.v (.bool (!v2)))] [some ⟨10,115,[AD.enc x0],false⟩,some ⟨10,115,[AD.enc x1],false⟩] kr ?_;have hq:=OI hj4; subst hq;exact AR rfl (Az [0,1] ⟨⟨_,rfl,C8⟩,⟨_,rfl,C8⟩,trivial⟩ ⟨lv,lv,lv,lv,trivial⟩)
 refine Ab (b:=j4) kr (fun hb5=>?_) (fun hb5=>?_)
 ·rw [if_pos hb5] at h
  refine AJ ?_;refine AS (s1:=⟨Fr 28 [(6,.v (.int .i64 0))],[]⟩) ?_ ?_
  ·refine AF (n:=28) AC 1 [(6,.v (.int .i64 0))] [some ⟨10,115,[AD.enc x0],false⟩,some ⟨10,115,[AD.enc x1],false⟩] kr ?_
   exact AR rfl (Az [] trivial ⟨lv,trivial⟩)
  refine Ah ?_;have hq:=OI h; subst hq;exact ⟨⟨Fr 28 [(6,.v (.int .i64 0))],[]⟩,AZ,.inr rfl,[.v (.int .i64 0)],kr,kr⟩
 ·rw [Cg hb5] at h
  refine As ?_;refine AJ ?_;obtain ⟨v6,hv6,h⟩:=OB h;obtain ⟨v7,hv7,h⟩:=OB h;obtain ⟨v8,hv8,h⟩:=OB h;refine F6 AC (s1:=⟨Fr 28 [(6,.v (.int .i64 v8))],[]⟩) kr ?_ ?_
  ·refine Bp (n:=28) AC 3 [(3,.pe (.fn 191 [] []) 0),(5,.pt 1 0 0),(19,.fn 191 [] []),(21,.v (.int .i64 x0.2))] [some ⟨10,115,[AD.enc x0],false⟩,some ⟨10,115,[AD.enc x1],false⟩] kr kr ?_
   refine CT (caps:=[]) (xs:=[.v (.int .i64 x0.2)]) (u:=(x0.2,())) rfl rfl Kq rfl (AA rfl) kr kr (AY (Ay (c:=cdI) (v:=x0.2)) CB) kr hv6 ?_;refine Bp (n:=28) AC 3 [(22,.v (.int .i64 v6)),(23,.fn 191 [] []),(25,.v (.int .i64 x1.2))] [some ⟨10,115,[AD.enc x0],false⟩,some ⟨10,115,[AD.enc x1],false⟩] kr kr ?_;refine CT (caps:=[]) (xs:=[.v (.int .i64 x1.2)]) (u:=(x1.2,())) rfl rfl Kq rfl (AA rfl) kr kr (AY (Ay (c:=cdI) (v:=x1.2)) CB) kr hv7 ?_;refine CT (caps:=[]) (xs:=[.v (.int .i64 v6),.v (.int .i64 v7)]) (u:=(v6,v7,())) rfl rfl Eq rfl (AA rfl) kr kr (AY (Ay (c:=cdI) (v:=v6)) (AY (Ay (c:=cdI) (v:=v7)) CB)) kr hv8 ?_;refine Bp (n:=28) AC 1 [(6,.v (.int .i64 v8))] [some ⟨10,115,[AD.enc x0],false⟩,some ⟨10,115,[AD.enc x1],false⟩] kr kr ?_;exact RunDS.done rfl (Az [] trivial ⟨lv,trivial⟩)
  refine Ah ?_;have hq:=OI h; subst hq;exact ⟨⟨Fr 28 [(6,.v (.int .i64 v8))],[]⟩,AZ,.inr rfl,[.v (.int .i64 v8)],kr,kr⟩
def EW:List AV->Option AV:=Ee By (fun a=>Ao a.1 a.2.1) B4
theorem EZ:XOk 209 EW:=by
 refine Ad Tryz.func209 (c:=Cn) ?h2 ⟨Tryz.call209⟩ By (fun a=>Ao a.1 a.2.1) B4 (fun a=>(by show 4<=28; decide)) ?h3 ?h4
 case h2=>kernel_rfl
 case h3=>intro b; kernel_rfl
 case h4=>exact fun a b h=>ED a.1 a.2.1 b h
theorem Xg {f:FuncId}(hc:B8 E0.P f){α β:Type}(s:Cs α) (F:α->Option β) (er:β->AV) (h:∀ a b,F a=some b->∃ t,XOk f t/\t (s.enc a)=some (er b)):XOk f (Ee s F er):=by
 refine ⟨hc,fun xs y hy w Z us hz hg hv=>?_⟩
 obtain ⟨a,ha,hy⟩:=OB hy
 obtain ⟨b,hb,rfl⟩:=Option.map_eq_some_iff.1 hy
 obtain ⟨t,hX,ht⟩:=h a b hb
 exact hX.2 _ _ ht w Z us hz hg (s.vr ha hv)
def Dz (a b:AL) (c:AE):Option Int :=
 if (c.1==1)=true then Bw (fun a b (v:(AE×Unit)×Unit)=>CJ (fun x (v:AE×Unit)=>DS x v.1) a b v.1) a b c ((c,()),()) else
 if (c.1==2)=true then Bw (fun a b (v:AE×Unit)=>Cr a b v.1) a b c (c,()) else
 if (c.1==3)=true then Bw (fun a b (v:AE×Unit)=>Cr a b v.1) a b c (c,()) else
 if (c.1==4)=true then Bw (fun a b (v:(AE×AE×Unit)×Unit)=>CJ (fun x (v:AE×AE×Unit)=>BM x v.1 v.2.1) a b v.1) a b c ((c,c,()),()) else
 if (c.1==5)=true then Bw (fun a b (v:(Unit×AE×Unit)×Unit)=>CJ (fun x (v:Unit×AE×Unit)=>BN x v.2.1) a b v.1) a b c (((),c,()),()) else
 if (c.1==6)=true then Bw (fun a b (v:(AE×AE×Unit)×Unit)=>CJ (fun x (v:AE×AE×Unit)=>BB x v.1 v.2.1) a b v.1) a b c ((c,c,()),()) else
 if (c.1==7)=true then Bw (fun a b (v:(AE×AE×Unit)×Unit)=>CJ (fun x (v:AE×AE×Unit)=>BC x v.1 v.2.1) a b v.1) a b c ((c,c,()),()) else
 if (c.1==8)=true then Bw (fun a b (_:Unit)=>EP a b) a b c () else
 if (c.1==10)=true then Bw (fun a b (v:Unit×AE×Unit)=>An a b v.2.1) a b c ((),c,()) else
 Bw (fun a b (_:Unit×Unit×Unit)=>Ao a b) a b c ((),(),())
noncomputable def Gi:Cs (AL×AL×AE):=csC AD (csC AD QW)
noncomputable def Ix (r:Int):AV:=cdI.enc r
noncomputable def Mq:List AV->Option AV:=Ee Gi (fun a=>Dz a.1 a.2.1 a.2.2) Ix
theorem JH {α β:Type}{s:Cs α}{F:α->Option β}{er:β->AV}{a:α}{b:β}{xs:List AV}(h:F a=some b) (e:xs=s.enc a):Ee s F er xs=some (er b):=e ▸ Nc h
theorem Wj (a b:AL) (c:AE):Gi.enc (a,b,c)=[AD.enc a,AD.enc b,.pe (AB.enc c) 0,.pe (Lv c) 0]:=rfl
theorem Mw:XOk 165 Mq:=by
 refine Xg ⟨Tryz.call165⟩ Gi (fun a=>Dz a.1 a.2.1 a.2.2) Ix fun x r h=>?_
 obtain ⟨a,b,c⟩:=x
 rw [Wj]
 dsimp only at h
 unfold Dz at h
 unfold Lv
 rcases BE (c.1==1) with h1 | h1
 ·rw [if_pos h1] at h; rw [if_pos h1]
  exact ⟨_,CL (sx:=csC (cdP (cdF 178 (csC (cdP AB) csN) (fun _=>rfl))) csN) (hn:=fun _=>rfl) (G:=fun a b (v:(AE×Unit)×Unit)=>CJ (fun x (v:AE×Unit)=>DS x v.1) a b v.1) (HY (sx:=csC (cdP AB) csN) (hn:=fun _=>rfl) (G:=fun x (v:AE×Unit)=>DS x v.1) Oj),JH (a:=(a,b,c,((c,()),()),())) h rfl⟩
 rw [if_neg (by rw [h1]; decide)] at h; rw [if_neg (by rw [h1]; decide)]
 rcases BE (c.1==2) with h1 | h1
 ·rw [if_pos h1] at h; rw [if_pos h1]
  exact ⟨_,CL (sx:=csC (cdP AB) csN) (hn:=fun _=>rfl) (G:=fun a b (v:AE×Unit)=>Cr a b v.1) Ko,JH (a:=(a,b,c,(c,()),())) h rfl⟩
 rw [if_neg (by rw [h1]; decide)] at h; rw [if_neg (by rw [h1]; decide)]
 rcases BE (c.1==3) with h1 | h1
 ·rw [if_pos h1] at h; rw [if_pos h1]
  exact ⟨_,CL (sx:=csC (cdP AB) csN) (hn:=fun _=>rfl) (G:=fun a b (v:AE×Unit)=>Cr a b v.1) Ko,JH (a:=(a,b,c,(c,()),())) h rfl⟩
 rw [if_neg (by rw [h1]; decide)] at h; rw [if_neg (by rw [h1]; decide)]
 rcases BE (c.1==4) with h1 | h1
 ·rw [if_pos h1] at h; rw [if_pos h1]
  exact ⟨_,CL (sx:=csC (cdP (cdF 206 (csC (cdP (cdF 182 (csE (cdP AB)) (fun _=>rfl))) (csC (cdP AB) csN)) (fun _=>rfl))) csN) (hn:=fun _=>rfl) (G:=fun a b (v:(AE×AE×Unit)×Unit)=>CJ (fun x (v:AE×AE×Unit)=>BM x v.1 v.2.1) a b v.1) (HY (sx:=csC (cdP (cdF 182 (csE (cdP AB)) (fun _=>rfl))) (csC (cdP AB) csN)) (hn:=fun _=>rfl) (G:=fun x (v:AE×AE×Unit)=>BM x v.1 v.2.1) HZ),JH (a:=(a,b,c,((c,c,()),()),())) h rfl⟩
 rw [if_neg (by rw [h1]; decide)] at h; rw [if_neg (by rw [h1]; decide)]
 rcases BE (c.1==5) with h1 | h1
 ·rw [if_pos h1] at h; rw [if_pos h1]
  exact ⟨_,CL (sx:=csC (cdP (cdF 206 (csC (cdP (cdF 183 csN (fun _=>rfl))) (csC (cdP AB) csN)) (fun _=>rfl))) csN) (hn:=fun _=>rfl) (G:=fun a b (v:(Unit×AE×Unit)×Unit)=>CJ (fun x (v:Unit×AE×Unit)=>BN x v.2.1) a b v.1) (HY (sx:=csC (cdP (cdF 183 csN (fun _=>rfl))) (csC (cdP AB) csN)) (hn:=fun _=>rfl) (G:=fun x (v:Unit×AE×Unit)=>BN x v.2.1) Ha),JH (a:=(a,b,c,(((),c,()),()),())) h rfl⟩
 rw [if_neg (by rw [h1]; decide)] at h; rw [if_neg (by rw [h1]; decide)]
 rcases BE (c.1==6) with h1 | h1
 ·rw [if_pos h1] at h; rw [if_pos h1]
  exact ⟨_,CL (sx:=csC (cdP (cdF 206 (csC (cdP (cdF 184 (csE (cdP AB)) (fun _=>rfl))) (csC (cdP AB) csN)) (fun _=>rfl))) csN) (hn:=fun _=>rfl) (G:=fun a b (v:(AE×AE×Unit)×Unit)=>CJ (fun x (v:AE×AE×Unit)=>BB x v.1 v.2.1) a b v.1) (HY (sx:=csC (cdP (cdF 184 (csE (cdP AB)) (fun _=>rfl))) (csC (cdP AB) csN)) (hn:=fun _=>rfl) (G:=fun x (v:AE×AE×Unit)=>BB x v.1 v.2.1) Hb),JH (a:=(a,b,c,((c,c,()),()),())) h rfl⟩
 rw [if_neg (by rw [h1]; decide)] at h; rw [if_neg (by rw [h1]; decide)]
 rcases BE (c.1==7) with h1 | h1
 ·rw [if_pos h1] at h; rw [if_pos h1]
  exact ⟨_,CL (sx:=csC (cdP (cdF 206 (csC (cdP (cdF 186 (csE (cdP AB)) (fun _=>rfl))) (csC (cdP AB) csN)) (fun _=>rfl))) csN) (hn:=fun _=>rfl) (G:=fun a b (v:(AE×AE×Unit)×Unit)=>CJ (fun x (v:AE×AE×Unit)=>BC x v.1 v.2.1) a b v.1) (HY (sx:=csC (cdP (cdF 186 (csE (cdP AB)) (fun _=>rfl))) (csC (cdP AB) csN)) (hn:=fun _=>rfl) (G:=fun x (v:AE×AE×Unit)=>BC x v.1 v.2.1) Hc),JH (a:=(a,b,c,((c,c,()),()),())) h rfl⟩
 rw [if_neg (by rw [h1]; decide)] at h; rw [if_neg (by rw [h1]; decide)]
 rcases BE (c.1==8) with h1 | h1
 ·rw [if_pos h1] at h; rw [if_pos h1]
  exact ⟨_,CL (sx:=csN) (hn:=fun _=>rfl) (G:=fun a b (_:Unit)=>EP a b) Oo,JH (a:=(a,b,c,(),())) h rfl⟩
 rw [if_neg (by rw [h1]; decide)] at h; rw [if_neg (by rw [h1]; decide)]
 rcases BE (c.1==10) with h1 | h1
 ·rw [if_pos h1] at h; rw [if_pos h1]
  exact ⟨_,CL (sx:=csC (cdP (cdF 208 csN (fun _=>rfl))) (csC (cdP (cdF 190 (csE (cdP AB)) (fun _=>rfl))) csN)) (hn:=fun _=>rfl) (G:=fun a b (v:Unit×AE×Unit)=>An a b v.2.1) EY,JH (a:=(a,b,c,((),c,()),())) h rfl⟩
 rw [if_neg (by rw [h1]; decide)] at h; rw [if_neg (by rw [h1]; decide)]
 exact ⟨_,CL (sx:=csC (cdP (cdF 208 csN (fun _=>rfl))) (csC (cdP (cdF 191 csN (fun _=>rfl))) csN)) (hn:=fun _=>rfl) (G:=fun a b (_:Unit×Unit×Unit)=>Ao a b) EZ,JH (a:=(a,b,c,((),(),()),())) h rfl⟩
/- trestle/court.first[trestle/court.seated,trestle/court.order] -/
noncomputable def CU:Code:=Bo Tryz.f76
def Ae (x0:(List AE)):Nat->(List UInt8)->(List UInt8)->(List UInt8)->Int->Int->(List UInt8)->Bool->Bool->(List (List UInt8))->Int->(List UInt8)->(List UInt8)->(List UInt8)->Int->Int->(List UInt8)->Bool->Bool->(List (List UInt8))->Int->Int->Option ((Unit) ⊕ (Int×Int))
 | 0,_,_,_,_,_,_,_,_,_,_,_,_,_,_,_,_,_,_,_,_,_=>none
 | f + 1,c1,c2,c3,c4,c5,c6,c7,c8,c9,c10,c11,c12,c13,c14,c15,c16,c17,c18,c19,c20,c21 =>
  if (decide (c21 < (x0.length:Int)))=true then
  (idx x0 c21).bind fun v23 =>
  (Dz ((c1,c2,c3,c4,c5,c6,c7,c8,c9),c10) ((c11,c12,c13,c14,c15,c16,c17,c18,c19),c20) v23).bind fun v24 =>
  if (v24 != 0)=true then
  some (.inr (c21,v24))
  else
  Ae x0 f c1 c2 c3 c4 c5 c6 c7 c8 c9 c10 c11 c12 c13 c14 c15 c16 c17 c18 c19 c20 (wr .i64 (c21 + 1))
  else
  some (.inl ())
def Ar (x0:(List AE)) (x1:AL) (x2:AL):Option (Int×Int) :=
 (Ae x0 100000 x1.1.1 x1.1.2.1 x1.1.2.2.1 x1.1.2.2.2.1 x1.1.2.2.2.2.1 x1.1.2.2.2.2.2.1 x1.1.2.2.2.2.2.2.1 x1.1.2.2.2.2.2.2.2.1 x1.1.2.2.2.2.2.2.2.2 x1.2 x2.1.1 x2.1.2.1 x2.1.2.2.1 x2.1.2.2.2.1 x2.1.2.2.2.2.1 x2.1.2.2.2.2.2.1 x2.1.2.2.2.2.2.2.1 x2.1.2.2.2.2.2.2.2.1 x2.1.2.2.2.2.2.2.2.2 x2.2 0).bind fun r28 =>
 match r28 with
 | (.inl w29) =>
  some ((-1),0)
 | (.inr w30) =>
  some (w30.1,w30.2)
noncomputable def CY:Cs ((List AE)×AL×AL×Unit):=(csC (cdL 1 Bq) (csC AD (csC AD csN)))
noncomputable def CZ (r:Int×Int):AV:= .tp [cdI.enc r.1,cdI.enc r.2]
theorem C7 (x0:(List AE)):∀ (f:Nat) (c1:(List UInt8)) (c2:(List UInt8)) (c3:(List UInt8)) (c4:Int) (c5:Int) (c6:(List UInt8)) (c7:Bool) (c8:Bool) (c9:(List (List UInt8))) (c10:Int) (c11:(List UInt8)) (c12:(List UInt8)) (c13:(List UInt8)) (c14:Int) (c15:Int) (c16:(List UInt8)) (c17:Bool) (c18:Bool) (c19:(List (List UInt8))) (c20:Int) (c21:Int) (r:(Unit) ⊕ (Int×Int)),Ae x0 f c1 c2 c3 c4 c5 c6 c7 c8 c9 c10 c11 c12 c13 c14 c15 c16 c17 c18 c19 c20 c21=some r->SemN E0 ⟨none,false⟩ (pc CU [1,0,1,0,0]) f ⟨Fr 27 [(4,.pt 0 0 0),(5,.pt 1 0 0),(11,.sl 1 (x0.map Bq.enc)),(12,.v (.int .i64 (x0.length:Int))),(13,.v (.int .i64 c21))],[some ⟨10,115,[.ag [.st c1,.st c2,.st c3,.v (.int .i64 c4),.v (.int .i64 c5),.st c6,.v (.bool c7),.v (.bool c8),.sl 1 (c9.map cdS.enc),.v (.int .i64 c10)]],false⟩,some ⟨10,115,[.ag [.st c11,.st c12,.st c13,.v (.int .i64 c14),.v (.int .i64 c15),.st c16,.v (.bool c17),.v (.bool c18),.sl 1 (c19.map cdS.enc),.v (.int .i64 c20)]],false⟩]⟩ (fun e s=>match r with
 | (.inl w)=>e=(.exit 0)/\Wk E0 s ⟨Fr 27 [],[]⟩
 | (.inr w)=>e = .ret/\Wk E0 s ⟨Fr 27 [(6,.v (.int .i64 w.1)),(7,.v (.int .i64 w.2))],[]⟩):=by
 intro f;induction f with
 | zero=>intro c1 c2 c3 c4 c5 c6 c7 c8 c9 c10 c11 c12 c13 c14 c15 c16 c17 c18 c19 c20 c21 r h; cases h
 | succ f ih0 =>
  intro c1 c2 c3 c4 c5 c6 c7 c8 c9 c10 c11 c12 c13 c14 c15 c16 c17 c18 c19 c20 c21 r h
  have ih:=fun (c1:(List UInt8)) (c2:(List UInt8)) (c3:(List UInt8)) (c4:Int) (c5:Int) (c6:(List UInt8)) (c7:Bool) (c8:Bool) (c9:(List (List UInt8))) (c10:Int) (c11:(List UInt8)) (c12:(List UInt8)) (c13:(List UInt8)) (c14:Int) (c15:Int) (c16:(List UInt8)) (c17:Bool) (c18:Bool) (c19:(List (List UInt8))) (c20:Int) (c21:Int)=>ih0 c1 c2 c3 c4 c5 c6 c7 c8 c9 c10 c11 c12 c13 c14 c15 c16 c17 c18 c19 c20 c21 r
  unfold Ae at h;refine FI ?_
  let p1:Option Blk:=some ⟨10,115,[.ag [.st c11,.st c12,.st c13,.v (.int .i64 c14),.v (.int .i64 c15),.st c16,.v (.bool c17),.v (.bool c18),.sl 1 (c19.map cdS.enc),.v (.int .i64 c20)]],false⟩
  let p2:Option Blk:=some ⟨10,115,[.ag [.st c1,.st c2,.st c3,.v (.int .i64 c4),.v (.int .i64 c5),.st c6,.v (.bool c7),.v (.bool c8),.sl 1 (c9.map cdS.enc),.v (.int .i64 c10)]],false⟩
  let p3:Nat×AV:=(13,.v (.int .i64 c21))
  let p4:Nat×AV:=(12,.v (.int .i64 (x0.length:Int)))
  let p5:Nat×AV:=(11,.sl 1 (x0.map Bq.enc))
  let p6:Nat×AV:=(5,.pt 1 0 0)
  let p7:Nat×AV:=(4,.pt 0 0 0)
  refine AP AC [p7,p6,p5,p4,p3,(14,.v (.bool (decide (c21 < (x0.length:Int)))))] [p2,p1] ?_;refine AJ ?_;refine Ab (b:=(decide (c21 < (x0.length:Int)))) kr (fun hb22=>?_) (fun hb22=>?_)
  ·rw [if_pos hb22] at h
   refine As ?_;refine AJ ?_;refine CI ?_;refine AJ ?_;obtain ⟨v23,hv23,h⟩:=OB h
   let p8:Nat×AV:=(8,.v (.int .i64 c21))
   refine AS (s1:=⟨Fr 27 [p7,p6,p8,(9,Bq.enc v23),p5,p4,p3],[p2,p1]⟩) ?_ ?_
   ·refine AF (n:=27) AC 1 [p7,p6,p5,p4,p3,(15,.v (.int .i64 c21))] [p2,p1] kr ?_
    refine A6 AC 0 rfl (Cw (AA rfl) rfl (AQ (a:= .sl 1 (x0.map Bq.enc)) (b:= .v (.int .i64 c21)) kr kr (GS (e:=Bq.enc) (el:=117) (k:=1) (ki:= .i64) kr kr hv23))) ?_;exact BH AC
   refine AJ ?_;obtain ⟨v24,hv24,h⟩:=OB h;refine AS (s1:=⟨Fr 27 [p7,p6,p8,(10,.v (.int .i64 v24)),p5,p4,p3],[p2,p1]⟩) ?_ ?_
   ·refine AF (n:=27) AC 3 [p7,p6,p8,p5,p4,p3,(18,Bq.enc v23),(19,.ag [.st c1,.st c2,.st c3,.v (.int .i64 c4),.v (.int .i64 c5),.st c6,.v (.bool c7),.v (.bool c8),.sl 1 (c9.map cdS.enc),.v (.int .i64 c10)]),(20,.ag [.st c11,.st c12,.st c13,.v (.int .i64 c14),.v (.int .i64 c15),.st c16,.v (.bool c17),.v (.bool c18),.sl 1 (c19.map cdS.enc),.v (.int .i64 c20)])] [p2,p1] kr ?_
    refine A1 (caps:=[.pe (AB.enc v23) 0,.pe (Lv v23) 0]) (xs:=[.ag [.st c1,.st c2,.st c3,.v (.int .i64 c4),.v (.int .i64 c5),.st c6,.v (.bool c7),.v (.bool c8),.sl 1 (c9.map cdS.enc),.v (.int .i64 c10)],.ag [.st c11,.st c12,.st c13,.v (.int .i64 c14),.v (.int .i64 c15),.st c16,.v (.bool c17),.v (.bool c18),.sl 1 (c19.map cdS.enc),.v (.int .i64 c20)]]) (u:=(((c1,c2,c3,c4,c5,c6,c7,c8,c9),c10),((c11,c12,c13,c14,c15,c16,c17,c18,c19),c20),v23)) rfl rfl Mw rfl (AA rfl) kr kr (AY (Ay (c:=AD) (v:=((c1,c2,c3,c4,c5,c6,c7,c8,c9),c10))) (AY (Ay (c:=AD) (v:=((c11,c12,c13,c14,c15,c16,c17,c18,c19),c20))) (Pb (n:=10) (s:=QW) (a:=v23)))) (.inl kr) hv24 ?_;exact BH AC
   refine AP AC [p7,p6,p8,(10,.v (.int .i64 v24)),p5,p4,p3,(23,.v (.bool (v24 != 0)))] [p2,p1] ?_;refine Ab (b:=(v24 != 0)) kr (fun hb25=>?_) (fun hb25=>?_)
   ·rw [if_pos hb25] at h
    refine AJ ?_;refine AS (s1:=⟨Fr 27 [(6,.v (.int .i64 c21)),(7,.v (.int .i64 v24))],[]⟩) ?_ ?_
    ·refine AF (n:=27) AC 4 [(6,.v (.int .i64 c21)),(7,.v (.int .i64 v24))] [p2,p1] kr ?_
     exact AR rfl (Az [] trivial ⟨lv,lv,trivial⟩)
    refine Ah ?_;have hq:=OI h; subst hq;exact ⟨rfl,AZ⟩
   ·rw [Cg hb25] at h
    refine As ?_
    let p9:Nat×AV:=(13,.v (.int .i64 (wr .i64 (c21 + 1))))
    refine Fb AC [p7,p6,p5,p4,p9] [p2,p1] ?_;exact Ck (s1:=⟨Fr 27 [p7,p6,p5,p4,p9],[p2,p1]⟩) (Az [0,1] ⟨⟨_,rfl,C8⟩,⟨_,rfl,C8⟩,trivial⟩ ⟨lv,lv,lv,lv,lv,trivial⟩) (ih c1 c2 c3 c4 c5 c6 c7 c8 c9 c10 c11 c12 c13 c14 c15 c16 c17 c18 c19 c20 (wr .i64 (c21 + 1)) h)
  ·rw [Cg hb22] at h
   refine F8 ?_;have hq:=OI h; subst hq;exact ⟨rfl,(Az [] trivial trivial)⟩
theorem FZ (x0:(List AE)) (x1:AL) (x2:AL) (r:Int×Int) (h:Ar x0 x1 x2=some r):Sem E0 ⟨none,false⟩ CU ⟨Fr 27 (BQ 0 (CY.enc (x0,x1,x2,()))),[]⟩ fun e s'=>(e = .normal\/e = .ret)/\∃ xs,Es E0.P s'.fr s'.hp Tryz.f76.results.toList=some xs/\FG xs=CZ r:=by
 unfold Ar at h;refine BV (CK (s1:=⟨Fr 27 [(0,.sl 1 (x0.map Bq.enc)),(1,AD.enc x1),(2,AD.enc x2)],[]⟩) AZ ?_)
 let p1:Option Blk:=some ⟨10,115,[AD.enc x2],false⟩
 let p2:Option Blk:=some ⟨10,115,[AD.enc x1],false⟩
 let p3:Nat×AV:=(5,.pt 1 0 0)
 let p4:Nat×AV:=(4,.pt 0 0 0)
 refine AP AC [(0,.sl 1 (x0.map Bq.enc)),p4,p3] [p2,p1] ?_;refine AJ ?_;refine AJ ?_
 let p5:Nat×AV:=(13,.v (.int .i64 0))
 let p6:Nat×AV:=(12,.v (.int .i64 (x0.length:Int)))
 let p7:Nat×AV:=(11,.sl 1 (x0.map Bq.enc))
 refine AS (s1:=⟨Fr 27 [p4,p3,p7,p6,p5],[p2,p1]⟩) ?_ ?_
 ·refine AF (n:=27) AC 1 [p4,p3,p7] [p2,p1] kr ?_
  refine A6 AC 0 rfl (Cw (AA rfl) rfl (Ed (a:= .sl 1 (x0.map Bq.enc)) kr (DC (el:=117) kr))) ?_;exact BH AC
 refine CI ?_;obtain ⟨r28,hr28,h⟩:=OB h;refine F9 (n:=100000) ?_;rcases r28 with w29 | w30
 ·try dsimp only at h
  refine DR (Ck (s1:=⟨Fr 27 [p4,p3,p7,p6,p5],[p2,p1]⟩) (Az [0,1] ⟨⟨_,rfl,C8⟩,⟨_,rfl,C8⟩,trivial⟩ ⟨lv,lv,lv,lv,lv,trivial⟩) (C7 x0 _ x1.1.1 x1.1.2.1 x1.1.2.2.1 x1.1.2.2.2.1 x1.1.2.2.2.2.1 x1.1.2.2.2.2.2.1 x1.1.2.2.2.2.2.2.1 x1.1.2.2.2.2.2.2.2.1 x1.1.2.2.2.2.2.2.2.2 x1.2 x2.1.1 x2.1.2.1 x2.1.2.2.1 x2.1.2.2.2.1 x2.1.2.2.2.2.1 x2.1.2.2.2.2.2.1 x2.1.2.2.2.2.2.2.1 x2.1.2.2.2.2.2.2.2.1 x2.1.2.2.2.2.2.2.2.2 x2.2 0 _ hr28)) ?_;refine AP AC [(6,.v (.int .i64 (-1))),(7,.v (.int .i64 0))] [] ?_;refine Ah ?_;have hq:=OI h; subst hq;exact ⟨⟨Fr 27 [(6,.v (.int .i64 (-1))),(7,.v (.int .i64 0))],[]⟩,AZ,.inr rfl,[.v (.int .i64 (-1)),.v (.int .i64 0)],kr,kr⟩
 ·try dsimp only at h
  refine DR (Ck (s1:=⟨Fr 27 [p4,p3,p7,p6,p5],[p2,p1]⟩) (Az [0,1] ⟨⟨_,rfl,C8⟩,⟨_,rfl,C8⟩,trivial⟩ ⟨lv,lv,lv,lv,lv,trivial⟩) (C7 x0 _ x1.1.1 x1.1.2.1 x1.1.2.2.1 x1.1.2.2.2.1 x1.1.2.2.2.2.1 x1.1.2.2.2.2.2.1 x1.1.2.2.2.2.2.2.1 x1.1.2.2.2.2.2.2.2.1 x1.1.2.2.2.2.2.2.2.2 x1.2 x2.1.1 x2.1.2.1 x2.1.2.2.1 x2.1.2.2.2.1 x2.1.2.2.2.2.1 x2.1.2.2.2.2.2.1 x2.1.2.2.2.2.2.2.1 x2.1.2.2.2.2.2.2.2.1 x2.1.2.2.2.2.2.2.2.2 x2.2 0 _ hr28)) ?_;have hq:=OI h; subst hq;exact ⟨⟨Fr 27 [(6,.v (.int .i64 w30.1)),(7,.v (.int .i64 w30.2))],[]⟩,AZ,.inr rfl,[.v (.int .i64 w30.1),.v (.int .i64 w30.2)],kr,kr⟩
noncomputable def Fv:List AV->Option AV:=Ee CY (fun a=>Ar a.1 a.2.1 a.2.2.1) CZ
theorem Da:XOk 76 Fv:=by
 refine Ad Tryz.func76 (c:=CU) ?h2 ⟨Tryz.call76⟩ CY (fun a=>Ar a.1 a.2.1 a.2.2.1) CZ (fun a=>(by show 3<=27; decide)) ?h3 ?h4
 case h2=>kernel_rfl
 case h3=>intro b; kernel_rfl
 case h4=>exact fun a b h=>FZ a.1 a.2.1 a.2.2.1 b h
/- trestle/court.groups$1 -/
noncomputable def JK:Code:=Bo Tryz.f134
def Cz (x0:AL) (x1:AL) (x2:(List AE)):Option (Int) :=
 (Ar x2 x0 x1).bind fun v1 =>
 some v1.2
noncomputable def HB:Cs (AL×AL×(List AE)×Unit):=(csC AD (csC AD (csC (cdP (cdL 1 Bq)) csN)))
noncomputable def HD (r:Int):AV:=cdI.enc r
theorem Ll (x0:AL) (x1:AL) (x2:(List AE)) (r:Int) (h:Cz x0 x1 x2=some r):Sem E0 ⟨none,false⟩ JK ⟨Fr 16 (BQ 0 (HB.enc (x0,x1,x2,()))),[]⟩ fun e s'=>(e = .normal\/e = .ret)/\∃ xs,Es E0.P s'.fr s'.hp Tryz.f134.results.toList=some xs/\FG xs=HD r:=by
 unfold Cz at h
 let p1:Nat×AV:=(2,.pe (.sl 1 (x2.map Bq.enc)) 0)
 refine BV (CK (s1:=⟨Fr 16 [(0,AD.enc x0),(1,AD.enc x1),p1],[]⟩) AZ ?_)
 let p2:Option Blk:=some ⟨10,115,[AD.enc x1],false⟩
 let p3:Option Blk:=some ⟨10,115,[AD.enc x0],false⟩
 refine AP AC [p1,(3,.pt 0 0 0),(4,.pt 1 0 0)] [p3,p2] ?_;refine AJ ?_;obtain ⟨v1,hv1,h⟩:=OB h;refine AS (s1:=⟨Fr 16 [(7,.v (.int .i64 v1.2))],[]⟩) ?_ ?_
 ·refine AF (n:=16) AC 3 [(9,.sl 1 (x2.map Bq.enc)),(10,AD.enc x0),(11,AD.enc x1)] [p3,p2] kr ?_
  refine A1 (caps:=[]) (xs:=[.sl 1 (x2.map Bq.enc),AD.enc x0,AD.enc x1]) (u:=(x2,x0,x1,())) rfl rfl Da rfl (AA rfl) kr kr (AY (Ay (c:=(cdL 1 Bq)) (v:=x2)) (AY (Ay (c:=AD) (v:=x0)) (AY (Ay (c:=AD) (v:=x1)) CB))) (.inl kr) hv1 ?_;refine AF (n:=16) AC 5 [(7,.v (.int .i64 v1.2))] [p3,p2] kr ?_;exact AR rfl (Az [] trivial ⟨lv,trivial⟩)
 refine AP AC [(5,.v (.int .i64 v1.2))] [] ?_;refine Ah ?_;have hq:=OI h; subst hq;exact ⟨⟨Fr 16 [(5,.v (.int .i64 v1.2))],[]⟩,AZ,.inr rfl,[.v (.int .i64 v1.2)],kr,kr⟩
noncomputable def NJ:List AV->Option AV:=Ee HB (fun a=>Cz a.1 a.2.1 a.2.2.1) HD
theorem J5:XOk 134 NJ:=by
 refine Ad Tryz.func134 (c:=JK) ?h2 ⟨Tryz.call134⟩ HB (fun a=>Cz a.1 a.2.1 a.2.2.1) HD (fun a=>(by show 3<=16; decide)) ?h3 ?h4
 case h2=>kernel_rfl
 case h3=>intro b; kernel_rfl
 case h4=>exact fun a b h=>Ll a.1 a.2.1 a.2.2.1 b h
/- slices.insertionSortCmpFunc[trestle/court.seated] -/
noncomputable def A9:Code:=Bo Tryz.f192
def Ap (x1:Int) (x3:(List AE)):Nat->Int->(List AL)->Option (((List AL)))
 | 0,_,_=>none
 | f + 1,c4,c5 =>
  (if (decide (c4 > x1))=true then (idx c5 c4).bind fun v6 =>
  (idx c5 (wr .i64 (c4 - 1))).bind fun v7 =>
  (Cz v6 v7 x3).bind fun v8 =>
  some (decide (v8 < 0)) else some false).bind fun j9 =>
  if j9=true then
  (idx c5 (wr .i64 (c4 - 1))).bind fun v19 =>
  (idx c5 c4).bind fun v20 =>
  (idx c5 c4).bind fun v21 =>
  (idx (c5.set c4.toNat v19) (wr .i64 (c4 - 1))).bind fun v25 =>
  Ap x1 x3 f (wr .i64 (c4 - 1)) ((c5.set c4.toNat v19).set ((wr .i64 (c4 - 1)).toNat) v20)
  else
  some c5
def AN (x1:Int) (x2:Int) (x3:(List AE)):Nat->Int->(List AL)->Option (((List AL)))
 | 0,_,_=>none
 | f + 1,c1,c2 =>
  if (decide (c1 < x2))=true then
  (Ap x1 x3 100000 c1 c2).bind fun r31 =>
  AN x1 x2 x3 f (wr .i64 (c1 + 1)) r31
  else
  some c2
def Ai (x0:(List AL)) (x1:Int) (x2:Int) (x3:(List AE)):Option ((List AL)×(List AE)) :=
 (AN x1 x2 x3 100000 (wr .i64 (x1 + 1)) x0).bind fun r35 =>
 some (r35,x3)
theorem ET {L:List Asn}(x1:Int) (x3:(List AE)) (u0:AV) (x2:Int) (u1:AV) (c1:Int):∀ (f:Nat) (c4:Int) (c5:(List AL)) (r:((List AL))),Ap x1 x3 f c4 c5=some r->∀ (hp:Hp),T hp ((own_ (ocL 10 115 (ocV AD)) u0 c5)::(cel u1 1 110 (.sl 1 (x3.map Bq.enc)))::L)->SemYN E0 ⟨none,false⟩ (pc A9 [1,0,0,1,0,0,1,0,0]) f ⟨Fr 53 [(0,u0),(1,.v (.int .i64 x1)),(2,.v (.int .i64 x2)),(3,.fn 134 [] [u1]),(8,.v (.int .i64 c1)),(9,.v (.int .i64 c4))],hp⟩ (fun e s=>e=(.exit 2)/\∃ s2,(∃ (h':Hp),T h' ((own_ (ocL 10 115 (ocV AD)) u0 r)::(cel u1 1 110 (.sl 1 (x3.map Bq.enc)))::L)/\s2=⟨Fr 53 [(0,u0),(1,.v (.int .i64 x1)),(2,.v (.int .i64 x2)),(3,.fn 134 [] [u1]),(8,.v (.int .i64 c1))],h'⟩)/\WkY E0 s s2):=by
 intro f;induction f with
 | zero=>intro c4 c5 r h; cases h
 | succ f ih0 =>
  intro c4 c5 r h  hp hT;unfold Ap at h;refine C5 ?_;refine AK ?_;refine AK ?_;obtain ⟨j9,hj9,h⟩:=OB h;refine Kr 17 (A:=fun s1=>∃ (h':Hp),T h' ((own_ (ocL 10 115 (ocV AD)) u0 c5)::(cel u1 1 110 (.sl 1 (x3.map Bq.enc)))::L)/\s1=⟨Fr 53 [(0,u0),(1,.v (.int .i64 x1)),(2,.v (.int .i64 x2)),(3,.fn 134 [] [u1]),(8,.v (.int .i64 c1)),(9,.v (.int .i64 c4)),(34,.v (.bool j9))],h'⟩) AC.mixed kr kr ?_ ?_
  ·refine RunDT.q (x:= .v (.int .i64 c4)) rfl kr rfl (AA rfl) rfl kr kr ?_
   refine RunDT.q (x:= .v (.int .i64 x1)) rfl kr rfl (AA rfl) rfl kr kr ?_;refine RunDT.q (x:= .v (.bool (decide (c4 > x1)))) rfl kr rfl (AA rfl) rfl kr kr ?_;refine RunDT.q (x:= .v (.bool (decide (c4 > x1)))) rfl kr rfl (AA rfl) rfl kr kr ?_;rcases BE (decide (c4 > x1)) with hc30 | hc30
   ·rw [if_pos hc30] at hj9
    rw [hc30];refine RunDT.q (x:= .fn 134 [] [u1]) rfl kr rfl kr rfl kr kr ?_;refine RunDT.q (x:=u0) rfl kr rfl kr rfl kr kr ?_;refine RunDT.q (x:= .v (.int .i64 c4)) rfl kr rfl kr rfl kr kr ?_;obtain ⟨v6,hv6,hj9⟩:=OB hj9;refine RunDT.q (x:=eAt u0 c4.toNat) rfl kr rfl kr rfl (AQ (a:=u0) (b:= .v (.int .i64 c4)) kr kr (MZ (bytes:=120) hT kr hv6)) kr ?_;refine RunDT.q (x:=(AD.enc v6)) rfl kr rfl kr rfl (CR (p:=eAt u0 c4.toNat) kr (FR (y:=(AD.enc v6)) (m:=10) (g:=true) hT (Cv hv6).2 kr kr kr)) (Fk hT (Cv hv6).2 kr) ?_;refine RunDT.q (x:=u0) rfl kr rfl kr rfl kr kr ?_;refine RunDT.q (x:= .v (.int .i64 c4)) rfl kr rfl kr rfl kr kr ?_;refine RunDT.q (x:= .v (.int .i64 (wr .i64 (c4 - 1)))) rfl kr rfl kr rfl kr kr ?_;obtain ⟨v7,hv7,hj9⟩:=OB hj9;refine RunDT.q (x:=eAt u0 ((wr .i64 (c4 - 1)).toNat)) rfl kr rfl kr rfl (AQ (a:=u0) (b:= .v (.int .i64 (wr .i64 (c4 - 1)))) kr kr (MZ (bytes:=120) hT kr hv7)) kr ?_;refine RunDT.q (x:=(AD.enc v7)) rfl kr rfl kr rfl (CR (p:=eAt u0 ((wr .i64 (c4 - 1)).toNat)) kr (FR (y:=(AD.enc v7)) (m:=10) (g:=true) hT (Cv hv7).2 kr kr kr)) (Fk hT (Cv hv7).2 kr) ?_;obtain ⟨v8,hv8,hj9⟩:=OB hj9;refine G9 (v:=v8) (caps:=[u1]) (xs:=[AD.enc v6,AD.enc v7]) (u:=(v6,v7,x3,())) rfl rfl J5 rfl kr kr kr (A2 (CG (c:=AD) (v:=v6)) (A2 (CG (c:=AD) (v:=v7)) (A2 (SeeD.cel (c:=(cdL 1 Bq)) (v:=x3) hT (i:=1) rfl) SeesD.nil))) kr hv8 ?_;refine RunDT.q (x:= .v (.bool (decide (v8 < 0)))) rfl kr rfl kr rfl kr kr ?_;refine RunDT.q (x:= .v (.bool (decide (v8 < 0)))) rfl kr rfl (AA rfl) rfl kr kr ?_;have hq:=OI hj9; subst hq;exact RunDT.done rfl ⟨_,⟨hp,hT,rfl⟩,WkY.f1⟩
   ·rw [Cg hc30] at hj9
    rw [hc30];refine RunDT.skip rfl kr rfl ?_;refine RunDT.skip rfl kr rfl ?_;refine RunDT.skip rfl kr rfl ?_;refine RunDT.skip rfl kr rfl ?_;refine RunDT.skip rfl kr rfl ?_;refine RunDT.skip rfl kr rfl ?_;refine RunDT.skip rfl kr rfl ?_;refine RunDT.skip rfl kr rfl ?_;refine RunDT.skip rfl kr rfl ?_;refine RunDT.skip rfl kr rfl ?_;refine RunDT.skip rfl kr rfl ?_;refine RunDT.skip rfl kr rfl ?_;refine RunDT.q (x:= .v (.bool false)) rfl kr rfl (AA rfl) rfl kr kr ?_;have hq:=OI hj9; subst hq;exact RunDT.done rfl ⟨_,⟨hp,hT,rfl⟩,WkY.f1⟩
  rintro _ ⟨hp16,hT17,rfl⟩;refine BW (b:=j9) kr (fun hb18=>?_) (fun hb18=>?_)
  ·rw [if_pos hb18] at h
   refine SemY.skip ?_;refine AK ?_;refine BI ?_;refine IC 15 AC.mixed kr kr ?_;refine RunDT.q (x:=u0) rfl kr rfl (AA rfl) rfl kr kr ?_;refine RunDT.q (x:= .v (.int .i64 c4)) rfl kr rfl (AA rfl) rfl kr kr ?_;refine RunDT.q (x:=u0) rfl kr rfl (AA rfl) rfl kr kr ?_;refine RunDT.q (x:= .v (.int .i64 c4)) rfl kr rfl (AA rfl) rfl kr kr ?_;refine RunDT.q (x:= .v (.int .i64 (wr .i64 (c4 - 1)))) rfl kr rfl (AA rfl) rfl kr kr ?_;refine RunDT.q (x:=u0) rfl kr rfl (AA rfl) rfl kr kr ?_;refine RunDT.q (x:= .v (.int .i64 c4)) rfl kr rfl (AA rfl) rfl kr kr ?_;refine RunDT.q (x:= .v (.int .i64 (wr .i64 (c4 - 1)))) rfl kr rfl (AA rfl) rfl kr kr ?_;obtain ⟨v19,hv19,h⟩:=OB h;refine RunDT.q (x:=eAt u0 ((wr .i64 (c4 - 1)).toNat)) rfl kr rfl (AA rfl) rfl (AQ (a:=u0) (b:= .v (.int .i64 (wr .i64 (c4 - 1)))) kr kr (MZ (bytes:=120) hT17 kr hv19)) kr ?_;refine RunDT.q (x:=(AD.enc v19)) rfl kr rfl (AA rfl) rfl (CR (p:=eAt u0 ((wr .i64 (c4 - 1)).toNat)) kr (FR (y:=(AD.enc v19)) (m:=10) (g:=true) hT17 (Cv hv19).2 kr kr kr)) (Fk hT17 (Cv hv19).2 kr) ?_;refine RunDT.q (x:=u0) rfl kr rfl (AA rfl) rfl kr kr ?_;refine RunDT.q (x:= .v (.int .i64 c4)) rfl kr rfl (AA rfl) rfl kr kr ?_;obtain ⟨v20,hv20,h⟩:=OB h;refine RunDT.q (x:=eAt u0 c4.toNat) rfl kr rfl (AA rfl) rfl (AQ (a:=u0) (b:= .v (.int .i64 c4)) kr kr (MZ (bytes:=120) hT17 kr hv20)) kr ?_;refine RunDT.q (x:=(AD.enc v20)) rfl kr rfl (AA rfl) rfl (CR (p:=eAt u0 c4.toNat) kr (FR (y:=(AD.enc v20)) (m:=10) (g:=true) hT17 (Cv hv20).2 kr kr kr)) (Fk hT17 (Cv hv20).2 kr) ?_;obtain ⟨v21,hv21,h⟩:=OB h;refine RunDT.q (x:=eAt u0 c4.toNat) rfl kr rfl (AA rfl) rfl (AQ (a:=u0) (b:= .v (.int .i64 c4)) kr kr (MZ (bytes:=120) hT17 kr hv21)) kr ?_;refine RunDT.tail rfl ?_;obtain ⟨hp22,hs23,hT24⟩:=Kg (P:=Tryz.prog) (ty:=115) (y:=(AD.enc v19)) (v':=v19) hT17 (Cv hv21).2 kr kr kr;refine RunL.store AC (y:=eAt u0 c4.toNat) (z:=(AD.enc v19)) rfl (AA rfl) kr kr hs23 ?_;obtain ⟨v25,hv25,h⟩:=OB h
   refine AM AC 0 rfl (Cw (AA rfl) rfl (AQ (a:=u0) (b:= .v (.int .i64 (wr .i64 (c4 - 1)))) kr kr (MZ (bytes:=120) hT24 kr hv25))) ?_;obtain ⟨hp26,hs27,hT28⟩:=Kg (P:=Tryz.prog) (ty:=115) (y:=(AD.enc v20)) (v':=v20) hT24 (Cv hv25).2 kr kr kr;refine RunL.store AC (y:=eAt u0 ((wr .i64 (c4 - 1)).toNat)) (z:=(AD.enc v20)) rfl (AA rfl) kr kr hs27 ?_;refine Aw rfl (SemY.fr (l':=[(0,u0),(1,.v (.int .i64 x1)),(2,.v (.int .i64 x2)),(3,.fn 134 [] [u1]),(8,.v (.int .i64 c1)),(9,.v (.int .i64 c4))]) kr ?_);refine AI ?_;refine AX AC 3 ?_;refine Aw rfl ?_;exact Br WkY.f1 (ih0 (wr .i64 (c4 - 1)) ((c5.set c4.toNat v19).set ((wr .i64 (c4 - 1)).toNat) v20) _ h  hp26 hT28)
  ·rw [Cg hb18] at h
   refine SemY.exit ?_;have hq:=OI h; subst hq;exact ⟨rfl,_,⟨hp16,hT17,rfl⟩,WkY.f1⟩
theorem ES {L:List Asn}(x1:Int) (x2:Int) (x3:(List AE)) (u0:AV) (u1:AV):∀ (f:Nat) (c1:Int) (c2:(List AL)) (r:((List AL))),AN x1 x2 x3 f c1 c2=some r->∀ (hp:Hp),T hp ((own_ (ocL 10 115 (ocV AD)) u0 c2)::(cel u1 1 110 (.sl 1 (x3.map Bq.enc)))::L)->SemYN E0 ⟨none,false⟩ (pc A9 [1,0,0]) f ⟨Fr 53 [(0,u0),(1,.v (.int .i64 x1)),(2,.v (.int .i64 x2)),(3,.fn 134 [] [u1]),(8,.v (.int .i64 c1))],hp⟩ (fun e s=>e=(.exit 0)/\∃ s2,(∃ (h':Hp),T h' ((own_ (ocL 10 115 (ocV AD)) u0 r)::(cel u1 1 110 (.sl 1 (x3.map Bq.enc)))::L)/\s2=⟨Fr 53 [],h'⟩)/\WkY E0 s s2):=by
 intro f;induction f with
 | zero=>intro c1 c2 r h; cases h
 | succ f ih0 =>
  intro c1 c2 r h  hp hT;unfold AN at h;refine C5 ?_;refine AK ?_;refine BJ AC [(0,u0),(1,.v (.int .i64 x1)),(2,.v (.int .i64 x2)),(3,.fn 134 [] [u1]),(8,.v (.int .i64 c1)),(14,.v (.bool (decide (c1 < x2))))] ?_;refine BW (b:=(decide (c1 < x2))) kr (fun hb3=>?_) (fun hb3=>?_)
  ·rw [if_pos hb3] at h
   refine SemY.skip ?_;refine AK ?_;refine BI ?_;refine BJ AC [(0,u0),(1,.v (.int .i64 x1)),(2,.v (.int .i64 x2)),(3,.fn 134 [] [u1]),(8,.v (.int .i64 c1)),(9,.v (.int .i64 c1))] ?_;refine BI ?_;refine SemY.loop (n:=100000) ?_;obtain ⟨r31,hr31,h⟩:=OB h;refine CP (Br WkY.f1 (ET x1 x3 u0 x2 u1 c1 _ c1 c2 _ hr31  hp hT)) ?_;rintro _ ⟨hp32,hT33,rfl⟩;refine AI ?_;refine AX AC 3 ?_;refine Aw rfl ?_;exact Br WkY.f1 (ih0 (wr .i64 (c1 + 1)) r31 _ h  hp32 hT33)
  ·rw [Cg hb3] at h
   refine SemY.exit ?_;have hq:=OI h; subst hq;exact ⟨rfl,_,⟨hp,hT,rfl⟩,WkY.f1⟩
theorem Cu {L:List Asn}{hp:Hp}(u0:AV) (x0:(List AL)) (x1:Int) (x2:Int) (u1:AV) (x3:(List AE)) (r:(List AL)×(List AE)) (h:Ai x0 x1 x2 x3=some r) (hT:T hp ((own_ (ocL 10 115 (ocV AD)) u0 x0)::(cel u1 1 110 (.sl 1 (x3.map Bq.enc)))::L)):SemY E0 ⟨none,false⟩ A9 ⟨Fr 53 (BQ 0 [u0,.v (.int .i64 x1),.v (.int .i64 x2),.fn 134 [] [u1]]),hp⟩ fun x s'=>(x = .normal\/x = .ret)/\∃ ys,Es E0.P s'.fr s'.hp Tryz.f192.results.toList=some ys/\(fun v h'=>v = .tp []/\T h' ((own_ (ocL 10 115 (ocV AD)) u0 r.1)::(cel u1 1 110 (.sl 1 (r.2.map Bq.enc)))::L)) (FG ys) s'.hp:=by
 unfold Ai at h;refine HK (IJ (s1:=⟨Fr 53 [(0,u0),(1,.v (.int .i64 x1)),(2,.v (.int .i64 x2)),(3,.fn 134 [] [u1])],hp⟩) WkY.f1 ?_);refine BJ AC [(0,u0),(1,.v (.int .i64 x1)),(2,.v (.int .i64 x2)),(3,.fn 134 [] [u1]),(8,.v (.int .i64 (wr .i64 (x1 + 1))))] ?_;refine BI ?_;refine SemY.loop (n:=100000) ?_;obtain ⟨r35,hr35,h⟩:=OB h;refine CP (Br WkY.f1 (ES x1 x2 x3 u0 u1 _ (wr .i64 (x1 + 1)) x0 _ hr35  hp hT)) ?_;rintro _ ⟨hp36,hT37,rfl⟩;have hq:=OI h; subst hq;exact ⟨⟨Fr 53 [],hp36⟩,WkY.f1,.inl rfl,[],kr,⟨rfl,hT37⟩⟩
/- slices.stableCmpFunc[trestle/court.seated] -/
noncomputable def B9:Code:=Bo Tryz.f166
def Ak (x1:Int):Nat->Int->Int->(List AL)->(List AE)->Option ((Int×(List AL)×(List AE)))
 | 0,_,_,_,_=>none
 | f + 1,c1,c2,c3,c4 =>
  if (decide (c2<=x1))=true then
  (Ai c3 c1 c2 c4).bind fun v6 =>
  Ak x1 f c2 (wr .i64 (c2 + 20)) v6.1 v6.2
  else
  some (c1,c3,c4)
def BU (x1:Int):Nat->Option ((Unit))
 | 0=>none
 | f + 1 =>
  if (decide ((20:Int) < x1))=true then
  none
  else
  some ()
def Bi (x0:(List AL)) (x1:Int) (x2:(List AE)):Option ((List AL)×(List AE)) :=
 (Ak x1 100000 0 20 x0 x2).bind fun r12 =>
 (Ai r12.2.1 r12.1 x1 r12.2.2).bind fun v15 =>
 (BU x1 100000 ).bind fun r19 =>
 some (v15.1,v15.2)
theorem FT {L:List Asn}(x1:Int) (u0:AV) (u1:AV):∀ (f:Nat) (c1:Int) (c2:Int) (c3:(List AL)) (c4:(List AE)) (r:(Int×(List AL)×(List AE))),Ak x1 f c1 c2 c3 c4=some r->∀ (hp:Hp),T hp ((own_ (ocL 10 115 (ocV AD)) u0 c3)::(cel u1 1 110 (.sl 1 (c4.map Bq.enc)))::L)->SemYN E0 ⟨none,false⟩ (pc B9 [1,1,0,0,0]) f ⟨Fr 63 [(0,u0),(1,.v (.int .i64 x1)),(2,.fn 134 [] [u1]),(6,.v (.int .i64 20)),(7,.v (.int .i64 c1)),(8,.v (.int .i64 c2))],hp⟩ (fun e s=>e=(.exit 0)/\∃ s2,(∃ (h':Hp),T h' ((own_ (ocL 10 115 (ocV AD)) u0 r.2.1)::(cel u1 1 110 (.sl 1 (r.2.2.map Bq.enc)))::L)/\s2=⟨Fr 63 [(0,u0),(1,.v (.int .i64 x1)),(2,.fn 134 [] [u1]),(6,.v (.int .i64 20)),(7,.v (.int .i64 r.1))],h'⟩)/\WkY E0 s s2):=by
 intro f;induction f with
 | zero=>intro c1 c2 c3 c4 r h; cases h
 | succ f ih0 =>
  intro c1 c2 c3 c4 r h  hp hT;unfold Ak at h;refine C5 ?_;refine AK ?_
  let p1:Nat×AV:=(8,.v (.int .i64 c2))
  let p2:Nat×AV:=(6,.v (.int .i64 20))
  let p3:Nat×AV:=(2,.fn 134 [] [u1])
  let p4:Nat×AV:=(1,.v (.int .i64 x1))
  refine BJ AC [(0,u0),p4,p3,p2,(7,.v (.int .i64 c1)),p1,(13,.v (.bool (decide (c2<=x1))))] ?_;refine BW (b:=(decide (c2<=x1))) kr (fun hb5=>?_) (fun hb5=>?_)
  ·rw [if_pos hb5] at h
   refine SemY.skip ?_;refine BI ?_;refine AK ?_;refine AI ?_;refine AX AC 4 ?_;obtain ⟨v6,hv6,h⟩:=OB h;refine HN (E:=E0) (e:=E0) rfl rfl AC rfl rfl (fid:=192) (caps:=[]) (xs:=[u0,.v (.int .i64 c1),.v (.int .i64 c2),.fn 134 [] [u1]]) (fn:=Tryz.f192) (c:=A9) (Out:=fun v h'=>v = .tp []/\T h' ((own_ (ocL 10 115 (ocV AD)) u0 v6.1)::(cel u1 1 110 (.sl 1 (v6.2.map Bq.enc)))::L)) rfl (AA rfl) kr kr kr kr (by show 4<=53; decide) (Cu u0 c3 c1 c2 u1 c4 _ hv6 hT) ?_;rintro xx hp7 ⟨hqhp7,hT8⟩; subst xx;refine Aw rfl (SemY.fr (l':=[(0,u0),p4,p3,p2,p1]) kr ?_);refine BJ AC [(0,u0),p4,p3,p2,(7,.v (.int .i64 c2)),p1] ?_;refine AI ?_;refine AX AC 4 ?_;refine Aw rfl ?_;exact Br WkY.f1 (ih0 c2 (wr .i64 (c2 + 20)) v6.1 v6.2 _ h  hp7 hT8)
  ·rw [Cg hb5] at h
   refine SemY.exit ?_;have hq:=OI h; subst hq;exact ⟨rfl,_,⟨hp,hT,rfl⟩,WkY.f1⟩
theorem FU {L:List Asn}(x1:Int) (u0:AV) (u1:AV) (v15:(List AL)×(List AE)):∀ (f:Nat)  (r:(Unit)),BU x1 f  = some r->∀ (hp:Hp),T hp ((own_ (ocL 10 115 (ocV AD)) u0 v15.1)::(cel u1 1 110 (.sl 1 (v15.2.map Bq.enc)))::L)->SemYN E0 ⟨none,false⟩ (pc B9 [1,1,1,1,0,0]) f ⟨Fr 63 [(1,.v (.int .i64 x1)),(6,.v (.int .i64 20))],hp⟩ (fun e s=>e=(.exit 2)/\∃ s2,(∃ (h':Hp),T h' ((own_ (ocL 10 115 (ocV AD)) u0 v15.1)::(cel u1 1 110 (.sl 1 (v15.2.map Bq.enc)))::L)/\s2=⟨Fr 63 [],h'⟩)/\WkY E0 s s2):=by
 intro f;induction f with
 | zero=>intro  r h; cases h
 | succ f ih0 =>
  intro  r h  hp hT;unfold BU at h;refine C5 ?_;refine AK ?_;refine BJ AC [(30,.v (.bool (decide ((20:Int) < x1))))] ?_;refine BW (b:=(decide ((20:Int) < x1))) kr (fun hb18=>?_) (fun hb18=>?_)
  ·rw [if_pos hb18] at h
   refine SemY.skip ?_;refine BI ?_;cases h
  ·rw [Cg hb18] at h
   refine SemY.exit ?_;have hq:=OI h; subst hq;exact ⟨rfl,_,⟨hp,hT,rfl⟩,WkY.f1⟩
theorem Fm {L:List Asn}{hp:Hp}(u0:AV) (x0:(List AL)) (x1:Int) (u1:AV) (x2:(List AE)) (r:(List AL)×(List AE)) (h:Bi x0 x1 x2=some r) (hT:T hp ((own_ (ocL 10 115 (ocV AD)) u0 x0)::(cel u1 1 110 (.sl 1 (x2.map Bq.enc)))::L)):SemY E0 ⟨none,false⟩ B9 ⟨Fr 63 (BQ 0 [u0,.v (.int .i64 x1),.fn 134 [] [u1]]),hp⟩ fun x s'=>(x = .normal\/x = .ret)/\∃ ys,Es E0.P s'.fr s'.hp Tryz.f166.results.toList=some ys/\(fun v h'=>v = .tp []/\T h' ((own_ (ocL 10 115 (ocV AD)) u0 r.1)::(cel u1 1 110 (.sl 1 (r.2.map Bq.enc)))::L)) (FG ys) s'.hp:=by
 unfold Bi at h
 let p1:Nat×AV:=(2,.fn 134 [] [u1])
 let p2:Nat×AV:=(1,.v (.int .i64 x1))
 refine HK (IJ (s1:=⟨Fr 63 [(0,u0),p2,p1],hp⟩) WkY.f1 ?_)
 let p3:Nat×AV:=(6,.v (.int .i64 20))
 refine BJ AC [(0,u0),p2,p1,p3] ?_;refine BJ AC [(0,u0),p2,p1,p3,(7,.v (.int .i64 0)),(8,.v (.int .i64 20))] ?_;refine AK ?_;refine BI ?_;refine SemY.loop (n:=100000) ?_;obtain ⟨r12,hr12,h⟩:=OB h;refine CP (Br WkY.f1 (FT x1 u0 u1 _ 0 20 x0 x2 _ hr12  hp hT)) ?_;rintro _ ⟨hp13,hT14,rfl⟩;refine AK ?_;refine AI ?_;refine AX AC 4 ?_;obtain ⟨v15,hv15,h⟩:=OB h;refine HN (E:=E0) (e:=E0) rfl rfl AC rfl rfl (fid:=192) (caps:=[]) (xs:=[u0,.v (.int .i64 r12.1),.v (.int .i64 x1),.fn 134 [] [u1]]) (fn:=Tryz.f192) (c:=A9) (Out:=fun v h'=>v = .tp []/\T h' ((own_ (ocL 10 115 (ocV AD)) u0 v15.1)::(cel u1 1 110 (.sl 1 (v15.2.map Bq.enc)))::L)) rfl (AA rfl) kr kr kr kr (by show 4<=53; decide) (Cu u0 r12.2.1 r12.1 x1 u1 r12.2.2 _ hv15 hT14) ?_;rintro xx hp16 ⟨hqhp16,hT17⟩; subst xx;refine Aw rfl (SemY.fr (l':=[p2,p3]) kr ?_);refine BI ?_;refine SemY.loop (n:=100000) ?_;obtain ⟨r19,hr19,h⟩:=OB h;refine CP (Br WkY.f1 (FU x1 u0 u1 v15 _  _ hr19  hp16 hT17)) ?_;rintro _ ⟨hp20,hT21,rfl⟩;have hq:=OI h; subst hq;exact ⟨⟨Fr 63 [],hp20⟩,WkY.f1,.inl rfl,[],kr,⟨rfl,hT21⟩⟩
/- slices.SortStableFunc[[]trestle/court.seated,trestle/court.seated] -/
noncomputable def CQ:Code:=Bo Tryz.f136
def A5 (x0:(List AL)) (x1:(List AE)):Option ((List AL)×(List AE)) :=
 (Bi x0 (x0.length:Int) x1).bind fun v1 =>
 some (v1.1,v1.2)
theorem Dq {L:List Asn}{hp:Hp}(u0:AV) (x0:(List AL)) (u1:AV) (x1:(List AE)) (r:(List AL)×(List AE)) (h:A5 x0 x1=some r) (hT:T hp ((own_ (ocL 10 115 (ocV AD)) u0 x0)::(cel u1 1 110 (.sl 1 (x1.map Bq.enc)))::L)):SemY E0 ⟨none,false⟩ CQ ⟨Fr 9 (BQ 0 [u0,.fn 134 [] [u1]]),hp⟩ fun x s'=>(x = .normal\/x = .ret)/\∃ ys,Es E0.P s'.fr s'.hp Tryz.f136.results.toList=some ys/\(fun v h'=>v = .tp []/\T h' ((own_ (ocL 10 115 (ocV AD)) u0 r.1)::(cel u1 1 110 (.sl 1 (r.2.map Bq.enc)))::L)) (FG ys) s'.hp:=by
 unfold A5 at h;refine HK (IJ (s1:=⟨Fr 9 [(0,u0),(1,.fn 134 [] [u1])],hp⟩) WkY.f1 ?_);refine AI ?_;refine AX AC 2 ?_;refine AM AC 0 rfl (Cw (AA rfl) rfl (Ed (a:=u0) kr (S4 hT kr))) ?_;refine AX AC 1 ?_;obtain ⟨v1,hv1,h⟩:=OB h;refine HN (E:=E0) (e:=E0) rfl rfl AC rfl rfl (fid:=166) (caps:=[]) (xs:=[u0,.v (.int .i64 (x0.length:Int)),.fn 134 [] [u1]]) (fn:=Tryz.f166) (c:=B9) (Out:=fun v h'=>v = .tp []/\T h' ((own_ (ocL 10 115 (ocV AD)) u0 v1.1)::(cel u1 1 110 (.sl 1 (v1.2.map Bq.enc)))::L)) rfl (AA rfl) kr kr kr kr (by show 3<=63; decide) (Fm u0 x0 (x0.length:Int) u1 x1 _ hv1 hT) ?_;rintro xx hp2 ⟨hqhp2,hT3⟩; subst xx;refine Aw rfl ?_;have hq:=OI h; subst hq;exact ⟨⟨Fr 9 [],hp2⟩,WkY.f1,.inl rfl,[],kr,⟨rfl,hT3⟩⟩
/- trestle/court.groups -/
noncomputable def GU:Code:=Bo Tryz.f78
def Ff (c15:(List (List Int))) (j29:Bool):Option (((List (List Int)))) :=
 if j29=true then
 if (Dj 24 (c15.length + ([([]:(List Int))]:List (List Int)).length))=true then
 some (c15++([([]:(List Int))]:List (List Int)))
 else none
 else
 some c15
def CX (v9:(List AL)×(List AE)):Nat->Int->(List (List Int))->Option (((List (List Int))))
 | 0,_,_=>none
 | f + 1,c13,c15 =>
  if (decide (c13 < (v9.1.length:Int)))=true then
  (idx v9.1 c13).bind fun v17 =>
  (if (c13==0)=true then some true else (idx v9.1 (wr .i64 (c13 - 1))).bind fun v25 =>
  (Cz v25 v17 v9.2).bind fun v28 =>
  some (v28 != 0)).bind fun j29 =>
  (Ff c15 j29).bind fun r71 =>
  (idx r71 (wr .i64 ((r71.length:Int) - 1))).bind fun v76 =>
  if (Dj 8 (v76.length + ([v17.2]:List Int).length))=true then
  (idx r71 (wr .i64 ((r71.length:Int) - 1))).bind fun v91 =>
  CX v9 f (wr .i64 (c13 + 1)) (r71.set ((wr .i64 ((r71.length:Int) - 1)).toNat) (v76++([v17.2]:List Int)))
  else none
  else
  some c15
def EL (x0:(List AE)) (x1:(List AL)):Option ((List (List Int))) :=
 if (Dj 120 x1.length)=true then
 (A5 x1 x0).bind fun v9 =>
 (CX v9 100000 0 ([]:(List (List Int)))).bind fun r102 =>
 some r102
 else none
theorem Lm {L:List Asn}{hp:Hp}(c15:(List (List Int))) (j29:Bool) (e1:AV) (e6:AV) (v9:(List AL)×(List AE)) (c13:Int) (e14:AV) (v17:AL) (e18:AV) (r:((List (List Int)))) (h:Ff c15 j29=some r) (hT:T hp ((own_ (ocL 10 115 (ocV AD)) e6 v9.1)::(cel e1 1 110 (.sl 1 (v9.2.map Bq.enc)))::(own_ (ocL 1 48 (ocL 1 3 (ocV cdI))) e14 c15)::(cel e18 10 115 (AD.enc v17))::L)):SemY E0 ⟨none,false⟩ (pc GU [1,1,1,1,1,0,1,0,0,1,1,0,0,1,0,1]) ⟨Fr 55 [(1,e6),(5,.fn 134 [] [e1]),(6,e14),(8,e18),(16,e6),(17,.v (.int .i64 (v9.1.length:Int))),(18,.v (.int .i64 c13)),(35,.v (.bool j29))],hp⟩ (fun e s=>e = .normal/\∃ s2,(∃ (e68:AV) (h':Hp),T h' ((own_ (ocL 10 115 (ocV AD)) e6 v9.1)::(cel e1 1 110 (.sl 1 (v9.2.map Bq.enc)))::(own_ (ocL 1 48 (ocL 1 3 (ocV cdI))) e68 r)::(cel e18 10 115 (AD.enc v17))::L)/\s2=⟨Fr 55 [(1,e6),(5,.fn 134 [] [e1]),(6,e68),(8,e18),(16,e6),(17,.v (.int .i64 (v9.1.length:Int))),(18,.v (.int .i64 c13))],h'⟩)/\WkY E0 s s2):=by
 unfold Ff at h;refine BW (b:=j29) kr (fun hb55=>?_) (fun hb55=>?_)
 ·rw [if_pos hb55] at h
  refine AI ?_;refine AX AC 1 ?_
  have hT60:=(T.e0 (k:=1) (ty:=3) (o:=(ocV cdI)) hT)
  have hl61:M9 Tryz.prog 48 .e0=some (eI ([]:(List Int)).length):=S4 hT60 kr
  obtain ⟨e59,hp56,hb57,hT58⟩:=HM (P:=Tryz.prog) (bytes:=24) (k:=1) (t:=48) (ty:=46) (xs:=([([]:(List Int))]:List (List Int))) (n:=1) Wm (U8 ((Wh (o:=(ocL 1 3 (ocV cdI))) hT60).front 1 rfl)) rfl kr kr kr;refine AM AC 0 rfl (PN (AA rfl) rfl kr (O1 (xs:=K5 0 [.e0]) kr hb57)) ?_;by_cases hk66:(Dj 24 (c15.length + ([([]:(List Int))]:List (List Int)).length))=true
  case neg=>rw [if_neg hk66] at h; cases h
  rw [if_pos hk66] at h
  have hT67:=((hT58.front 0 rfl).front 3 rfl)
  obtain ⟨e65,hp62,hb63,hT64⟩:=H9 (P:=Tryz.prog) (ty:=46) (ty2:=46) (bytes:=24) hT67 kr kr hk66;refine AM AC 0 rfl (Q9 (AA rfl) rfl kr kr (FE (a:=e14) (b:=e59) kr kr hb63)) ?_;refine AX AC 1 ?_;refine Aw rfl ?_;have hq:=OI h; subst hq
  have hT70:=((((hT64.front 3 rfl).front 1 rfl).front 3 rfl).front 3 rfl)
  exact ⟨rfl,_,⟨e65,hp62,hT70,rfl⟩,WkY.f1⟩
 ·rw [Cg hb55] at h
  refine SemY.skip ?_;have hq:=OI h; subst hq;exact ⟨rfl,_,⟨e14,hp,hT,rfl⟩,WkY.f1⟩
theorem Ln {L:List Asn}(v9:(List AL)×(List AE)) (e1:AV) (e6:AV):∀ (f:Nat) (c13:Int) (c15:(List (List Int))) (r:((List (List Int)))),CX v9 f c13 c15=some r->∀ (e14:AV) (hp:Hp),T hp ((own_ (ocL 10 115 (ocV AD)) e6 v9.1)::(cel e1 1 110 (.sl 1 (v9.2.map Bq.enc)))::(own_ (ocL 1 48 (ocL 1 3 (ocV cdI))) e14 c15)::L)->SemYN E0 ⟨none,false⟩ (pc GU [1,1,1,1,1,0,1,0,0]) f ⟨Fr 55 [(1,e6),(5,.fn 134 [] [e1]),(6,e14),(16,e6),(17,.v (.int .i64 (v9.1.length:Int))),(18,.v (.int .i64 c13))],hp⟩ (fun e s=>e=(.exit 0)/\∃ s2,(∃ (e98:AV) (h':Hp),T h' ((own_ (ocL 1 48 (ocL 1 3 (ocV cdI))) e98 r)::L)/\s2=⟨Fr 55 [(6,e98)],h'⟩)/\WkY E0 s s2):=by
 intro f;induction f with
 | zero=>intro c13 c15 r h; cases h
 | succ f ih0 =>
  intro c13 c15 r h e14 hp hT;unfold CX at h;refine C5 ?_;refine BJ AC [(1,e6),(5,.fn 134 [] [e1]),(6,e14),(16,e6),(17,.v (.int .i64 (v9.1.length:Int))),(18,.v (.int .i64 c13)),(19,.v (.bool (decide (c13 < (v9.1.length:Int)))))] ?_;refine AK ?_;refine BW (b:=(decide (c13 < (v9.1.length:Int)))) kr (fun hb16=>?_) (fun hb16=>?_)
  ·rw [if_pos hb16] at h
   refine SemY.skip ?_;refine AK ?_;refine BI ?_;refine AK ?_;refine AI ?_;refine AX AC 1 ?_;obtain ⟨v17,hv17,h⟩:=OB h;refine AM AC 0 rfl (Cw (AA rfl) rfl (AQ (a:=e6) (b:= .v (.int .i64 c13)) kr kr (MZ (bytes:=120) hT kr hv17))) ?_;refine AM AC 0 rfl (Cw (AA rfl) rfl (CR (p:=eAt e6 c13.toNat) kr (FR (y:=(AD.enc v17)) (m:=10) (g:=true) hT (Cv hv17).2 kr kr kr))) ?_;obtain ⟨e18,hp19,hb20,hT21⟩:=JY (t:=115) (a:= .ag [.st [],.st [],.st [],.v (.int .i64 0),.v (.int .i64 0),.st [],.v (.bool false),.v (.bool false),.e0,.v (.int .i64 0)]) hT kr;refine AM AC 0 rfl (PN (AA rfl) rfl kr (LV (z:= .ag [.st [],.st [],.st [],.v (.int .i64 0),.v (.int .i64 0),.st [],.v (.bool false),.v (.bool false),.e0,.v (.int .i64 0)]) kr hb20)) ?_;refine AX AC 1 ?_;obtain ⟨hp22,hs23,hT24⟩:=LZ (P:=Tryz.prog) (ty:=115) (y:=(AD.enc v17)) (a':=(AD.enc v17)) hT21 kr kr kr;refine RunL.store AC (y:=e18) (z:=(AD.enc v17)) rfl (AA rfl) kr kr hs23 ?_;refine Aw rfl (SemY.fr (l':=[(1,e6),(5,.fn 134 [] [e1]),(6,e14),(7,.v (.int .i64 c13)),(8,e18),(16,e6),(17,.v (.int .i64 (v9.1.length:Int))),(18,.v (.int .i64 c13))]) kr ?_);refine AK ?_;refine AK ?_;obtain ⟨j29,hj29,h⟩:=OB h;refine Kr 13 (A:=fun s1=>∃ (h':Hp),T h' ((own_ (ocL 10 115 (ocV AD)) e6 v9.1)::(cel e1 1 110 (.sl 1 (v9.2.map Bq.enc)))::(own_ (ocL 1 48 (ocL 1 3 (ocV cdI))) e14 c15)::(cel e18 10 115 (AD.enc v17))::L)/\s1=⟨Fr 55 [(1,e6),(5,.fn 134 [] [e1]),(6,e14),(8,e18),(16,e6),(17,.v (.int .i64 (v9.1.length:Int))),(18,.v (.int .i64 c13)),(35,.v (.bool j29))],h'⟩) AC.mixed kr kr ?_ ?_
   ·refine RunDT.q (x:= .v (.int .i64 c13)) rfl kr rfl (AA rfl) rfl kr kr ?_
    refine RunDT.q (x:= .v (.bool (c13==0))) rfl kr rfl (AA rfl) rfl kr kr ?_;refine RunDT.q (x:= .v (.bool (c13==0))) rfl kr rfl (AA rfl) rfl kr kr ?_;rcases BE (c13==0) with hc97 | hc97
    ·rw [if_pos hc97] at hj29
     rw [hc97];refine RunDT.skip rfl kr rfl ?_;refine RunDT.skip rfl kr rfl ?_;refine RunDT.skip rfl kr rfl ?_;refine RunDT.skip rfl kr rfl ?_;refine RunDT.skip rfl kr rfl ?_;refine RunDT.skip rfl kr rfl ?_;refine RunDT.skip rfl kr rfl ?_;refine RunDT.skip rfl kr rfl ?_;refine RunDT.skip rfl kr rfl ?_;refine RunDT.q (x:= .v (.bool true)) rfl kr rfl (AA rfl) rfl kr kr ?_;have hq:=OI hj29; subst hq
     have hT51:=(((hT24.front 3 rfl).front 3 rfl).front 3 rfl)
     exact RunDT.done rfl ⟨_,⟨hp22,hT51,rfl⟩,WkY.f1⟩
    ·rw [Cg hc97] at hj29
     rw [hc97];refine RunDT.q (x:= .fn 134 [] [e1]) rfl kr rfl kr rfl kr kr ?_;refine RunDT.q (x:=e6) rfl kr rfl kr rfl kr kr ?_;refine RunDT.q (x:= .v (.int .i64 c13)) rfl kr rfl kr rfl kr kr ?_;refine RunDT.q (x:= .v (.int .i64 (wr .i64 (c13 - 1)))) rfl kr rfl kr rfl kr kr ?_;obtain ⟨v25,hv25,hj29⟩:=OB hj29
     have hT26:=(hT24.front 1 rfl)
     refine RunDT.q (x:=eAt e6 ((wr .i64 (c13 - 1)).toNat)) rfl kr rfl kr rfl (AQ (a:=e6) (b:= .v (.int .i64 (wr .i64 (c13 - 1)))) kr kr (MZ (bytes:=120) hT26 kr hv25)) kr ?_;refine RunDT.q (x:=(AD.enc v25)) rfl kr rfl kr rfl (CR (p:=eAt e6 ((wr .i64 (c13 - 1)).toNat)) kr (FR (y:=(AD.enc v25)) (m:=10) (g:=true) hT26 (Cv hv25).2 kr kr kr)) (Fk (hT24.front 1 rfl) (Cv hv25).2 kr) ?_
     have hT27:=(hT26.front 1 rfl)
     refine RunDT.q (x:=(AD.enc v17)) rfl kr rfl kr rfl (CR (p:=e18) kr (DQ (y:=(AD.enc v17)) (m:=10) (g:=true) hT27 kr kr kr)) (FK hT24 kr) ?_;obtain ⟨v28,hv28,hj29⟩:=OB hj29;refine G9 (v:=v28) (caps:=[e1]) (xs:=[AD.enc v25,AD.enc v17]) (u:=(v25,v17,v9.2,())) rfl rfl J5 rfl kr kr kr (A2 (CG (c:=AD) (v:=v25)) (A2 (CG (c:=AD) (v:=v17)) (A2 (SeeD.cel (c:=(cdL 1 Bq)) (v:=v9.2) hT27 (i:=2) rfl) SeesD.nil))) kr hv28 ?_;refine RunDT.q (x:= .v (.bool (v28 != 0))) rfl kr rfl kr rfl kr kr ?_;refine RunDT.q (x:= .v (.bool (v28 != 0))) rfl kr rfl (AA rfl) rfl kr kr ?_;have hq:=OI hj29; subst hq
     have hT52:=(((hT27.front 3 rfl).front 3 rfl).front 3 rfl)
     exact RunDT.done rfl ⟨_,⟨hp22,hT52,rfl⟩,WkY.f1⟩
   rintro _ ⟨hp53,hT54,rfl⟩;obtain ⟨r71,hr71,h⟩:=OB h;refine JJ (Lm c15 j29 e1 e6 v9 c13 e14 v17 e18 _ hr71 hT54) ?_;rintro _ ⟨e72,hp73,hT74,rfl⟩;refine AK ?_;refine AI ?_;refine AX AC 1 ?_
   have hT75:=(hT74.front 2 rfl)
   refine AM AC 0 rfl (Cw (AA rfl) rfl (Ed (a:=e72) kr (S4 hT75 kr))) ?_;refine BK AC [(1,e6),(5,.fn 134 [] [e1]),(6,e72),(8,e18),(9,.v (.int .i64 (wr .i64 ((r71.length:Int) - 1)))),(16,e6),(17,.v (.int .i64 (v9.1.length:Int))),(18,.v (.int .i64 c13))] ?_;refine IC 9 AC.mixed kr kr ?_;refine RunDT.q (x:=e72) rfl kr rfl (AA rfl) rfl kr kr ?_;refine RunDT.q (x:= .v (.int .i64 (wr .i64 ((r71.length:Int) - 1)))) rfl kr rfl (AA rfl) rfl kr kr ?_;refine RunDT.q (x:=e72) rfl kr rfl (AA rfl) rfl kr kr ?_;refine RunDT.q (x:= .v (.int .i64 (wr .i64 ((r71.length:Int) - 1)))) rfl kr rfl (AA rfl) rfl kr kr ?_;obtain ⟨v76,hv76,h⟩:=OB h;refine RunDT.q (x:=eAt e72 ((wr .i64 ((r71.length:Int) - 1)).toNat)) rfl kr rfl (AA rfl) rfl (AQ (a:=e72) (b:= .v (.int .i64 (wr .i64 ((r71.length:Int) - 1)))) kr kr (MZ (bytes:=24) hT75 kr hv76)) kr ?_;obtain ⟨e77,hl78,hT79⟩:=VP (P:=Tryz.prog) (ty:=48) hT75 (Cv hv76).2 kr kr;refine RunDT.q (x:=e77) rfl kr rfl (AA rfl) rfl (CR (p:=eAt e72 ((wr .i64 ((r71.length:Int) - 1)).toNat)) kr hl78) (Fk hT75 (Cv hv76).2 kr) ?_
   have hT80:=(hT79.front 4 rfl)
   refine RunDT.q (x:=P1 e18 9) rfl kr rfl (AA rfl) rfl (Yp (a:=e18) kr (V3 (off:=9) hT80 kr)) kr ?_;refine RunDT.q (x:= .v (.int .i64 v17.2)) rfl kr rfl (AA rfl) rfl (CR (p:=P1 e18 9) kr (T2 (off:=9) (y:= .v (.int .i64 v17.2)) (m:=1) (g:=false) hT80 kr kr kr)) (VN (off:=9) (hT75.front 3 rfl) kr) ?_;obtain ⟨e84,hp81,hb82,hT83⟩:=HM (P:=Tryz.prog) (bytes:=8) (k:=1) (t:=3) (ty:=48) (xs:=([v17.2]:List Int)) (n:=1) (Pp (k:=1) (fun _=>⟨rfl,rfl,rfl⟩)) (GB (c:=cdI) (xs:=([v17.2]:List Int)) hT80) rfl kr kr kr;refine RunDT.new rfl (AA rfl) rfl (O1 (xs:=K5 0 [.v (.int .i64 v17.2)]) kr hb82) ?_;refine RunDT.tail rfl ?_;by_cases hk89:(Dj 8 (v76.length + ([v17.2]:List Int).length))=true
   case neg=>rw [if_neg hk89] at h; cases h
   rw [if_pos hk89] at h
   have hT90:=((hT83.front 0 rfl).front 2 rfl)
   obtain ⟨e88,hp85,hb86,hT87⟩:=H9 (P:=Tryz.prog) (ty:=48) (ty2:=48) (bytes:=8) hT90 kr kr hk89;refine AM AC 0 rfl (Q9 (AA rfl) rfl kr kr (FE (a:=e77) (b:=e84) kr kr hb86)) ?_;obtain ⟨v91,hv91,h⟩:=OB h
   have hT92:=(hT87.front 2 rfl)
   refine AM AC 0 rfl (Cw (AA rfl) rfl (AQ (a:=e72) (b:= .v (.int .i64 (wr .i64 ((r71.length:Int) - 1)))) kr kr (Zq (bytes:=24) hT92 kr hv91))) ?_;obtain ⟨hp93,hs94,hT95⟩:=Xa (P:=Tryz.prog) (ty:=48) Wm hT92 kr;refine RunL.store AC (y:=eAt e72 ((wr .i64 ((r71.length:Int) - 1)).toNat)) (z:=e88) rfl (AA rfl) kr kr hs94 ?_;refine Aw rfl (SemY.fr (l':=[(1,e6),(5,.fn 134 [] [e1]),(6,e72),(16,e6),(17,.v (.int .i64 (v9.1.length:Int))),(18,.v (.int .i64 c13))]) kr ?_);refine AI ?_;refine AX AC 2 ?_;refine Aw rfl ?_
   have hT96:=(((hT95.front 1 rfl).drop.front 2 rfl).front 2 rfl)
   exact Br WkY.f1 (ih0 (wr .i64 (c13 + 1)) (r71.set ((wr .i64 ((r71.length:Int) - 1)).toNat) (v76++([v17.2]:List Int))) _ h e72 hp93 hT96)
  ·rw [Cg hb16] at h
   refine SemY.exit ?_;have hq:=OI h; subst hq
   have hT100:=hT.drop.drop
   exact ⟨rfl,_,⟨e14,hp,hT100,rfl⟩,WkY.f1⟩
theorem M5 {L:List Asn}{hp:Hp}(x0:(List AE)) (x1:(List AL)) (r:(List (List Int))) (h:EL x0 x1=some r) (hT:T hp (L)):SemY E0 ⟨none,false⟩ GU ⟨Fr 55 (BQ 0 [.sl 1 (x0.map Bq.enc),.sl 10 (x1.map AD.enc)]),hp⟩ fun x s'=>(x = .normal\/x = .ret)/\∃ ys,Es E0.P s'.fr s'.hp Tryz.f78.results.toList=some ys/\(fun v h'=>v = .sl 1 (r.map (cdL 1 cdI).enc)/\T h' (L)) (FG ys) s'.hp:=by
 unfold EL at h
 let p1:Nat×AV:=(1,.sl 10 (x1.map AD.enc))
 refine HK (IJ (s1:=⟨Fr 55 [(0,.sl 1 (x0.map Bq.enc)),p1],hp⟩) WkY.f1 ?_);refine AK ?_;refine AI ?_;obtain ⟨e1,hp2,hb3,hT4⟩:=JY (t:=110) (a:= .sl 1 (x0.map Bq.enc)) hT kr;refine AM AC 0 rfl (PN (AA rfl) rfl kr (Yg (z:= .sl 1 (x0.map Bq.enc)) kr hb3)) ?_;refine BK AC [p1,(2,e1)] ?_
 let p2:Nat×AV:=(5,.fn 134 [] [e1])
 refine BJ AC [p1,p2] ?_;refine AK ?_;refine AI ?_;refine AX AC 1 ?_;by_cases hk5:(Dj 120 x1.length)=true
 case neg=>rw [if_neg hk5] at h; cases h
 rw [if_pos hk5] at h;refine PD rfl rfl (Fa x1 hk5) rfl (AA rfl) kr kr kr Sw ?_;intro x h' hO; obtain ⟨e6,hp7,e6q,hp7q,hT8⟩:=Sx (c:=AD) (k:=10) (t:=115) hT4 hO; rw [<-e6q,<-hp7q];refine BK AC [(1,e6),p2] ?_;refine AK ?_;refine AI ?_;refine AX AC 2 ?_;obtain ⟨v9,hv9,h⟩:=OB h;refine HN (E:=E0) (e:=E0) rfl rfl AC rfl rfl (fid:=136) (caps:=[]) (xs:=[e6,.fn 134 [] [e1]]) (fn:=Tryz.f136) (c:=CQ) (Out:=fun v h'=>v = .tp []/\T h' ((own_ (ocL 10 115 (ocV AD)) e6 v9.1)::(cel e1 1 110 (.sl 1 (v9.2.map Bq.enc)))::L)) rfl (AA rfl) kr kr kr kr (by show 2<=9; decide) (Dq e6 x1 e1 x0 _ hv9 hT8) ?_;rintro xx hp10 ⟨hqhp10,hT11⟩; subst xx;refine Aw rfl (SemY.fr (l':=[(1,e6),p2]) kr ?_);refine BJ AC [(1,e6),p2,(6,.e0)] ?_;refine AK ?_;refine AK ?_;refine AI ?_;refine AX AC 1 ?_;refine AM AC 0 rfl (Cw (AA rfl) rfl (Ed (a:=e6) kr (S4 hT11 kr))) ?_;refine BK AC [(1,e6),p2,(6,.e0),(16,e6),(17,.v (.int .i64 (v9.1.length:Int))),(18,.v (.int .i64 0))] ?_;refine BI ?_
 have hT12:=(T.e0 (k:=1) (ty:=48) (o:=(ocL 1 3 (ocV cdI))) hT11)
 have hT101:=((hT12.front 2 rfl).front 2 rfl)
 refine SemY.loop (n:=100000) ?_;obtain ⟨r102,hr102,h⟩:=OB h;refine CP (Br WkY.f1 (Ln v9 e1 e6 _ 0 ([]:(List (List Int))) _ hr102 .e0 hp10 hT101)) ?_;rintro _ ⟨e103,hp104,hT105,rfl⟩;refine BJ AC [(4,e103)] ?_;refine SemY.ret ?_;have hq:=OI h; subst hq
 let p3:Nat×AV:=(4,.sl 1 (r102.map (cdL 1 cdI).enc))
 obtain ⟨hp106,hw107,hT108⟩:=HL (E:=E0) (n:=55) (l:=[(4,e103)]) (l':=[p3]) hT105 ⟨⟨e103,kr,F7⟩,trivial⟩;exact ⟨⟨Fr 55 [p3],hp106⟩,(WkY.trans (WkY.trans WkY.f1 hw107) WkY.f1),.inr rfl,[.sl 1 (r102.map (cdL 1 cdI).enc)],kr,⟨rfl,hT108⟩⟩
noncomputable def IV:Cs ((List AE)×(List AL)×Unit):=(csC (cdL 1 Bq) (csC (cdL 10 AD) csN))
noncomputable def KT (r:(List (List Int))):AV:=(cdL 1 (cdL 1 cdI)).enc r
noncomputable def O4:List AV->Option AV:=Ee IV (fun a=>EL a.1 a.2.1) KT
theorem PA:XOk 78 O4:=by
 refine Ad Tryz.func78 (c:=GU) ?h2 ⟨Tryz.call78⟩ IV (fun a=>EL a.1 a.2.1) KT (fun a=>(by show 2<=55; decide)) ?h3 ?h4
 case h2=>kernel_rfl
 case h3=>intro b; kernel_rfl
 case h4 =>
  intro a b h;refine Sem.mono (Pa (M5 (L:=[]) (hp:=[]) a.1 a.2.1 b h T.nil)) fun e s' hs=>?_
  obtain ⟨h1,ys,h2,h3,-⟩:=hs;exact ⟨h1,ys,h2,h3⟩
/- trestle/court.line -/
noncomputable def JZ:Code:=Bo Tryz.f81
def EM (x0:(List (List Int))):Nat->Int->(List Int)->Option (((List Int)) ⊕ (Unit))
 | 0,_,_=>none
 | f + 1,c2,c4 =>
  if (decide (c2 < (x0.length:Int)))=true then
  (idx x0 c2).bind fun v6 =>
  if (decide ((v6.length:Int) > 1))=true then
  some (.inr ())
  else
  if (Dj 8 (c4.length + v6.length))=true then
  EM x0 f (wr .i64 (c2 + 1)) (c4++v6)
  else none
  else
  some (.inl c4)
def GO (x0:(List (List Int))):Option ((List Int)×Int) :=
 (EM x0 100000 0 ([]:(List Int))).bind fun r16 =>
 match r16 with
 | (.inl w17) =>
  some (w17,0)
 | (.inr w24) =>
  some (([]:(List Int)),32)
theorem J2 {L:List Asn}(x0:(List (List Int))):∀ (f:Nat) (c2:Int) (c4:(List Int)) (r:((List Int)) ⊕ (Unit)),EM x0 f c2 c4=some r->∀ (e3:AV) (hp:Hp),T hp ((own_ (ocL 1 3 (ocV cdI)) e3 c4)::L)->SemYN E0 ⟨none,false⟩ (pc JZ [1,1,0,1,0,0]) f ⟨Fr 21 [(4,e3),(7,.sl 1 (x0.map (cdL 1 cdI).enc)),(8,.v (.int .i64 (x0.length:Int))),(9,.v (.int .i64 c2))],hp⟩ (fun e s=>match r with
 | (.inl w)=>e=(.exit 0)/\∃ s2,(∃ (e14:AV) (h':Hp),T h' ((own_ (ocL 1 3 (ocV cdI)) e14 w)::L)/\s2=⟨Fr 21 [(4,e14)],h'⟩)/\WkY E0 s s2
 | (.inr w)=>e = .ret/\∃ s2,(∃ (h':Hp),T h' (L)/\s2=⟨Fr 21 [(2,.e0),(3,.v (.int .i64 32))],h'⟩)/\WkY E0 s s2):=by
 intro f;induction f with
 | zero=>intro c2 c4 r h; cases h
 | succ f ih0 =>
  intro c2 c4 r h e3 hp hT;unfold EM at h;refine C5 ?_
  let p1:Nat×AV:=(9,.v (.int .i64 c2))
  let p2:Nat×AV:=(8,.v (.int .i64 (x0.length:Int)))
  let p3:Nat×AV:=(7,.sl 1 (x0.map (cdL 1 cdI).enc))
  refine BJ AC [(4,e3),p3,p2,p1,(10,.v (.bool (decide (c2 < (x0.length:Int)))))] ?_;refine AK ?_;refine BW (b:=(decide (c2 < (x0.length:Int)))) kr (fun hb5=>?_) (fun hb5=>?_)
  ·rw [if_pos hb5] at h
   refine SemY.skip ?_;refine AK ?_;refine BI ?_;refine AK ?_;refine AI ?_;obtain ⟨v6,hv6,h⟩:=OB h;refine AM AC 0 rfl (Cw (AA rfl) rfl (AQ (a:= .sl 1 (x0.map (cdL 1 cdI).enc)) (b:= .v (.int .i64 c2)) kr kr (GS (e:=(cdL 1 cdI).enc) (el:=48) (k:=1) (ki:= .i64) kr kr hv6))) ?_;refine BK AC [(4,e3),(6,.sl 1 (v6.map cdI.enc)),p3,p2,p1] ?_;refine AK ?_;refine AK ?_;refine AI ?_;refine AX AC 1 ?_;refine AM AC 0 rfl (Cw (AA rfl) rfl (Ed (a:= .sl 1 (v6.map cdI.enc)) kr (DC (el:=3) kr))) ?_;refine BK AC [(4,e3),(6,.sl 1 (v6.map cdI.enc)),p3,p2,p1,(15,.v (.bool (decide ((v6.length:Int) > 1))))] ?_;refine BW (b:=(decide ((v6.length:Int) > 1))) kr (fun hb7=>?_) (fun hb7=>?_)
   ·rw [if_pos hb7] at h
    refine BJ AC [(2,.e0),(3,.v (.int .i64 32))] ?_;refine SemY.ret ?_;have hq:=OI h; subst hq
    have hT8:=hT.drop
    exact ⟨rfl,_,⟨hp,hT8,rfl⟩,WkY.f1⟩
   ·rw [Cg hb7] at h
    refine SemY.skip ?_;refine AI ?_;refine AX AC 2 ?_;by_cases hk13:(Dj 8 (c4.length + v6.length))=true
    case neg=>rw [if_neg hk13] at h; cases h
    rw [if_pos hk13] at h;obtain ⟨e12,hp9,hb10,hT11⟩:=TQ (P:=Tryz.prog) (ty:=48) (ty2:=48) (bytes:=8) (y:= .sl 1 (v6.map cdI.enc)) (ys:=v6) hT kr SE kr hk13;refine AM AC 0 rfl (Q9 (AA rfl) rfl kr kr (FE (a:=e3) (b:= .sl 1 (v6.map cdI.enc)) kr kr hb10)) ?_;refine BK AC [(4,e12),p3,p2,p1] ?_;refine AI ?_;refine AX AC 2 ?_;refine Aw rfl ?_;exact Br WkY.f1 (ih0 (wr .i64 (c2 + 1)) (c4++v6) _ h e12 hp9 hT11)
  ·rw [Cg hb5] at h
   refine SemY.exit ?_;have hq:=OI h; subst hq;exact ⟨rfl,_,⟨e3,hp,hT,rfl⟩,WkY.f1⟩
theorem Ox {L:List Asn}{hp:Hp}(x0:(List (List Int))) (r:(List Int)×Int) (h:GO x0=some r) (hT:T hp (L)):SemY E0 ⟨none,false⟩ JZ ⟨Fr 21 (BQ 0 [.sl 1 (x0.map (cdL 1 cdI).enc)]),hp⟩ fun x s'=>(x = .normal\/x = .ret)/\∃ ys,Es E0.P s'.fr s'.hp Tryz.f81.results.toList=some ys/\(fun v h'=>v = .tp [.sl 1 (r.1.map cdI.enc),.v (.int .i64 r.2)]/\T h' (L)) (FG ys) s'.hp:=by
 unfold GO at h
 let p1:Nat×AV:=(0,.sl 1 (x0.map (cdL 1 cdI).enc))
 refine HK (IJ (s1:=⟨Fr 21 [p1],hp⟩) WkY.f1 ?_);refine BJ AC [p1] ?_;refine BJ AC [p1,(4,.e0)] ?_;refine AK ?_;refine AK ?_;refine AI ?_;refine AX AC 1 ?_;refine AM AC 0 rfl (Cw (AA rfl) rfl (Ed (a:= .sl 1 (x0.map (cdL 1 cdI).enc)) kr (DC (el:=48) kr))) ?_;refine BK AC [(4,.e0),(7,.sl 1 (x0.map (cdL 1 cdI).enc)),(8,.v (.int .i64 (x0.length:Int))),(9,.v (.int .i64 0))] ?_;refine BI ?_
 have hT1:=(T.e0 (k:=1) (ty:=3) (o:=(ocV cdI)) hT)
 refine SemY.loop (n:=100000) ?_;obtain ⟨r16,hr16,h⟩:=OB h;rcases r16 with w17 | w24
 ·try dsimp only at h
  refine CP (Br WkY.f1 (J2 x0 _ 0 ([]:(List Int)) _ hr16 .e0 hp hT1)) ?_;rintro _ ⟨e18,hp19,hT20,rfl⟩
  let p2:Nat×AV:=(3,.v (.int .i64 0))
  refine BJ AC [(2,e18),p2] ?_;refine SemY.ret ?_;have hq:=OI h; subst hq;obtain ⟨hp21,hw22,hT23⟩:=HL (E:=E0) (n:=21) (l:=[(2,e18),p2]) (l':=[(2,.sl 1 (w17.map cdI.enc)),p2]) hT20 ⟨⟨e18,kr,F7⟩,⟨.v (.int .i64 0),kr,FzU.refl⟩,trivial⟩;exact ⟨⟨Fr 21 [(2,.sl 1 (w17.map cdI.enc)),p2],hp21⟩,(WkY.trans (WkY.trans WkY.f1 hw22) WkY.f1),.inr rfl,[.sl 1 (w17.map cdI.enc),.v (.int .i64 0)],kr,⟨rfl,hT23⟩⟩
 ·try dsimp only at h
  refine CP (Br WkY.f1 (J2 x0 _ 0 ([]:(List Int)) _ hr16 .e0 hp hT1)) ?_;rintro _ ⟨hp25,hT26,rfl⟩;have hq:=OI h; subst hq
  have hT27:=(T.e0 (k:=1) (ty:=3) (o:=(ocV cdI)) hT26)
  let p3:Nat×AV:=(3,.v (.int .i64 32))
  let p4:Nat×AV:=(2,.sl 1 (([]:(List Int)).map cdI.enc))
  obtain ⟨hp28,hw29,hT30⟩:=HL (E:=E0) (n:=21) (l:=[(2,.e0),p3]) (l':=[p4,p3]) hT27 ⟨⟨.e0,kr,F7⟩,⟨.v (.int .i64 32),kr,FzU.refl⟩,trivial⟩;exact ⟨⟨Fr 21 [p4,p3],hp28⟩,(WkY.trans (WkY.trans WkY.f1 hw29) WkY.f1),.inr rfl,[.sl 1 (([]:(List Int)).map cdI.enc),.v (.int .i64 32)],kr,⟨rfl,hT30⟩⟩
def Jc:Cs ((List (List Int))×Unit):=(csC (cdL 1 (cdL 1 cdI)) csN)
def Ly (r:(List Int)×Int):AV:= .tp [(cdL 1 cdI).enc r.1,cdI.enc r.2]
def Qz:List AV->Option AV:=Ee Jc (fun a=>GO a.1) Ly
theorem Q8:XOk 81 Qz:=by
 refine Ad Tryz.func81 (c:=JZ) ?h2 ⟨Tryz.call81⟩ Jc (fun a=>GO a.1) Ly (fun a=>(by show 1<=21; decide)) ?h3 ?h4
 case h2=>kernel_rfl
 case h3=>intro b; kernel_rfl
 case h4 =>
  intro a b h;refine Sem.mono (Pa (Ox (L:=[]) (hp:=[]) a.1 b h T.nil)) fun e s' hs=>?_
  obtain ⟨h1,ys,h2,h3,-⟩:=hs;exact ⟨h1,ys,h2,h3⟩
/- trestle/court.list -/
noncomputable def IL:Code:=Bo Tryz.f79
def Cp (x0:(List Aq)):Nat->Int->(List AL)->Option (((List AL)))
 | 0,_,_=>none
 | f + 1,c2,c4 =>
  if (decide (c2 < (x0.length:Int)))=true then
  (idx x0 c2).bind fun v6 =>
  if (Dj 120 (c4.length + ([(v6,c2)]:List AL).length))=true then
  Cp x0 f (wr .i64 (c2 + 1)) (c4++([(v6,c2)]:List AL))
  else none
  else
  some c4
def HQ (x0:(List Aq)):Option ((List AL)) :=
 (Cp x0 100000 0 ([]:(List AL))).bind fun r27 =>
 some r27
theorem Lq {L:List Asn}(x0:(List Aq)):∀ (f:Nat) (c2:Int) (c4:(List AL)) (r:((List AL))),Cp x0 f c2 c4=some r->∀ (e3:AV) (hp:Hp),T hp ((own_ (ocL 10 115 (ocV AD)) e3 c4)::L)->SemYN E0 ⟨none,false⟩ (pc IL [1,1,0,1,0,0]) f ⟨Fr 21 [(3,e3),(6,.sl 9 (x0.map AH.enc)),(7,.v (.int .i64 (x0.length:Int))),(8,.v (.int .i64 c2))],hp⟩ (fun e s=>e=(.exit 0)/\∃ s2,(∃ (e25:AV) (h':Hp),T h' ((own_ (ocL 10 115 (ocV AD)) e25 r)::L)/\s2=⟨Fr 21 [(3,e25)],h'⟩)/\WkY E0 s s2):=by
 intro f;induction f with
 | zero=>intro c2 c4 r h; cases h
 | succ f ih0 =>
  intro c2 c4 r h e3 hp hT;unfold Cp at h;refine C5 ?_
  let p1:Nat×AV:=(8,.v (.int .i64 c2))
  let p2:Nat×AV:=(7,.v (.int .i64 (x0.length:Int)))
  let p3:Nat×AV:=(6,.sl 9 (x0.map AH.enc))
  refine BJ AC [(3,e3),p3,p2,p1,(9,.v (.bool (decide (c2 < (x0.length:Int)))))] ?_;refine AK ?_;refine BW (b:=(decide (c2 < (x0.length:Int)))) kr (fun hb5=>?_) (fun hb5=>?_)
  ·rw [if_pos hb5] at h
   refine SemY.skip ?_;refine AK ?_;refine BI ?_;refine AK ?_;refine AI ?_;refine AX AC 1 ?_;obtain ⟨v6,hv6,h⟩:=OB h;refine AM AC 0 rfl (Cw (AA rfl) rfl (AQ (a:= .sl 9 (x0.map AH.enc)) (b:= .v (.int .i64 c2)) kr kr (GS (e:=AH.enc) (el:=42) (k:=9) (ki:= .i64) kr kr hv6))) ?_;refine AX AC 1 ?_;obtain ⟨e7,hp8,hb9,hT10⟩:=JY (t:=42) (a:= .ag [.st [],.st [],.st [],.v (.int .i64 0),.v (.int .i64 0),.st [],.v (.bool false),.v (.bool false),.e0]) hT kr;refine AM AC 0 rfl (PN (AA rfl) rfl kr (LV (z:= .ag [.st [],.st [],.st [],.v (.int .i64 0),.v (.int .i64 0),.st [],.v (.bool false),.v (.bool false),.e0]) kr hb9)) ?_;refine AX AC 1 ?_;obtain ⟨hp11,hs12,hT13⟩:=LZ (P:=Tryz.prog) (ty:=42) (y:=(AH.enc v6)) (a':=(AH.enc v6)) hT10 kr kr kr;refine RunL.store AC (y:=e7) (z:=(AH.enc v6)) rfl (AA rfl) kr kr hs12 ?_;refine Aw rfl (SemY.fr (l':=[(3,e3),(4,.v (.int .i64 c2)),(5,e7),p3,p2,p1]) kr ?_);refine AI ?_;refine AX AC 1 ?_;refine AM AC 0 rfl (Cw (AA rfl) rfl (CR (p:=e7) kr (DQ (y:=(AH.enc v6)) (m:=9) (g:=true) hT13 kr kr kr))) ?_;refine AX AC 2 ?_;obtain ⟨e17,hp14,hb15,hT16⟩:=HM (P:=Tryz.prog) (bytes:=120) (k:=10) (t:=115) (ty:=119) (xs:=([(v6,c2)]:List AL)) (n:=1) (Pp (k:=10) (fun _=>⟨rfl,rfl,rfl⟩)) (GB (c:=AD) (xs:=([(v6,c2)]:List AL)) hT13) rfl kr kr kr;refine AM AC 0 rfl (PN (AA rfl) rfl kr (O1 (xs:=K5 0 [.ag [.st v6.1,.st v6.2.1,.st v6.2.2.1,.v (.int .i64 v6.2.2.2.1),.v (.int .i64 v6.2.2.2.2.1),.st v6.2.2.2.2.2.1,.v (.bool v6.2.2.2.2.2.2.1),.v (.bool v6.2.2.2.2.2.2.2.1),.sl 1 (v6.2.2.2.2.2.2.2.2.map cdS.enc),.v (.int .i64 c2)]]) kr hb15)) ?_;by_cases hk22:(Dj 120 (c4.length + ([(v6,c2)]:List AL).length))=true
   case neg=>rw [if_neg hk22] at h; cases h
   rw [if_pos hk22] at h
   have hT23:=((hT16.front 0 rfl).front 2 rfl)
   obtain ⟨e21,hp18,hb19,hT20⟩:=H9 (P:=Tryz.prog) (ty:=119) (ty2:=119) (bytes:=120) hT23 kr kr hk22;refine AM AC 0 rfl (Q9 (AA rfl) rfl kr kr (FE (a:=e3) (b:=e17) kr kr hb19)) ?_;refine BK AC [(3,e21),p3,p2,p1] ?_;refine AI ?_;refine AX AC 2 ?_;refine Aw rfl ?_
   have hT24:=(hT20.front 1 rfl).drop
   exact Br WkY.f1 (ih0 (wr .i64 (c2 + 1)) (c4++([(v6,c2)]:List AL)) _ h e21 hp18 hT24)
  ·rw [Cg hb5] at h
   refine SemY.exit ?_;have hq:=OI h; subst hq;exact ⟨rfl,_,⟨e3,hp,hT,rfl⟩,WkY.f1⟩
theorem M6 {L:List Asn}{hp:Hp}(x0:(List Aq)) (r:(List AL)) (h:HQ x0=some r) (hT:T hp (L)):SemY E0 ⟨none,false⟩ IL ⟨Fr 21 (BQ 0 [.sl 9 (x0.map AH.enc)]),hp⟩ fun x s'=>(x = .normal\/x = .ret)/\∃ ys,Es E0.P s'.fr s'.hp Tryz.f79.results.toList=some ys/\(fun v h'=>∃ (z0:AV),v=z0/\T h' ((own_ (ocL 10 115 (ocV AD)) z0 r)::L)) (FG ys) s'.hp:=by
 unfold HQ at h
 let p1:Nat×AV:=(0,.sl 9 (x0.map AH.enc))
 refine HK (IJ (s1:=⟨Fr 21 [p1],hp⟩) WkY.f1 ?_);refine BJ AC [p1] ?_;refine BJ AC [p1,(3,.e0)] ?_;refine AK ?_;refine AK ?_;refine AI ?_;refine AX AC 1 ?_;refine AM AC 0 rfl (Cw (AA rfl) rfl (Ed (a:= .sl 9 (x0.map AH.enc)) kr (DC (el:=42) kr))) ?_;refine BK AC [(3,.e0),(6,.sl 9 (x0.map AH.enc)),(7,.v (.int .i64 (x0.length:Int))),(8,.v (.int .i64 0))] ?_;refine BI ?_
 have hT1:=(T.e0 (k:=10) (ty:=115) (o:=(ocV AD)) hT)
 refine SemY.loop (n:=100000) ?_;obtain ⟨r27,hr27,h⟩:=OB h;refine CP (Br WkY.f1 (Lq x0 _ 0 ([]:(List AL)) _ hr27 .e0 hp hT1)) ?_;rintro _ ⟨e28,hp29,hT30,rfl⟩;refine BJ AC [(2,e28)] ?_;refine SemY.ret ?_;have hq:=OI h; subst hq;exact ⟨⟨Fr 21 [(2,e28)],hp29⟩,WkY.f1,.inr rfl,[e28],kr,⟨e28,rfl,hT30⟩⟩
/- trestle/court.Alternate$1 -/
noncomputable def H7:Code:=Bo Tryz.f99
def Ci (x0:AL) (x1:(List (List UInt8))) (x2:Int):Option (Bool) :=
 (idx x1 x2).bind fun v1 =>
 some (!(x0.1.2.2.1==v1))
def F4:Cs (AL×(List (List UInt8))×Int×Unit):=(csC AD (csC (cdP (cdL 1 cdS)) (csC (cdP cdI) csN)))
def F5 (r:Bool):AV:=cdB.enc r
theorem KL (x0:AL) (x1:(List (List UInt8))) (x2:Int) (r:Bool) (h:Ci x0 x1 x2=some r):Sem E0 ⟨none,false⟩ H7 ⟨Fr 13 (BQ 0 (F4.enc (x0,x1,x2,()))),[]⟩ fun e s'=>(e = .normal\/e = .ret)/\∃ xs,Es E0.P s'.fr s'.hp Tryz.f99.results.toList=some xs/\FG xs=F5 r:=by
 unfold Ci at h
 let p1:Nat×AV:=(1,.pe (.sl 1 (x1.map cdS.enc)) 0)
 refine BV (CK (s1:=⟨Fr 13 [(0,AD.enc x0),p1,(2,.pe (.v (.int .i64 x2)) 0)],[]⟩) AZ ?_)
 let p2:Option Blk:=some ⟨10,115,[AD.enc x0],false⟩
 refine AP AC [p1,(2,.pe (.v (.int .i64 x2)) 0),(3,.pt 0 0 0)] [p2] ?_;refine AJ ?_;obtain ⟨v1,hv1,h⟩:=OB h
 let p3:Nat×AV:=(4,.v (.bool (!(x0.1.2.2.1==v1))))
 refine F6 AC (s1:=⟨Fr 13 [p3],[]⟩) kr ?_ ?_
 ·refine Bp (n:=13) AC 5 [(7,.st x0.1.2.2.1),(8,.sl 1 (x1.map cdS.enc)),(9,.v (.int .i64 x2))] [p2] kr kr ?_
  refine RunDS.one AC rfl kr (Yk kr (AA rfl) rfl (AQ (a:= .sl 1 (x1.map cdS.enc)) (b:= .v (.int .i64 x2)) kr kr (GS (e:=cdS.enc) (el:=9) (k:=1) (ki:= .i64) kr kr hv1)) kr) ?_;refine Bp (n:=13) AC 3 [p3] [p2] kr kr ?_;exact RunDS.done rfl (Az [] trivial ⟨lv,trivial⟩)
 refine Ah ?_;have hq:=OI h; subst hq;exact ⟨⟨Fr 13 [p3],[]⟩,AZ,.inr rfl,[.v (.bool (!(x0.1.2.2.1==v1)))],kr,kr⟩
def La:List AV->Option AV:=Ee F4 (fun a=>Ci a.1 a.2.1 a.2.2.1) F5
theorem Ii:XOk 99 La:=by
 refine Ad Tryz.func99 (c:=H7) ?h2 ⟨Tryz.call99⟩ F4 (fun a=>Ci a.1 a.2.1 a.2.2.1) F5 (fun a=>(by show 3<=13; decide)) ?h3 ?h4
 case h2=>kernel_rfl
 case h3=>intro b; kernel_rfl
 case h4=>exact fun a b h=>KL a.1 a.2.1 a.2.2.1 b h
/- slices.IndexFunc[[]trestle/court.seated,trestle/court.seated] -/
noncomputable def BD:Code:=Bo Tryz.f144
def AG (x0:(List AL)) (x1:(List (List UInt8))×Int):Nat->Int->Option ((Unit) ⊕ (Int))
 | 0,_=>none
 | f + 1,c1 =>
  if (decide (c1 < (x0.length:Int)))=true then
  (idx x0 c1).bind fun v3 =>
  (Ci v3 x1.1 x1.2).bind fun v4 =>
  if v4=true then
  some (.inr c1)
  else
  AG x0 x1 f (wr .i64 (c1 + 1))
  else
  some (.inl ())
def AO (x0:(List AL)) (x1:(List (List UInt8))×Int):Option (Int) :=
 (AG x0 x1 100000 0).bind fun r7 =>
 match r7 with
 | (.inl w8) =>
  some (-1)
 | (.inr w9) =>
  some w9
def BF:Cs ((List AL)×((List (List UInt8))×Int)×Unit):=(csC (cdL 10 AD) (csC (cdF 99 (csC (cdP (cdL 1 cdS)) (csE (cdP cdI))) (fun _=>rfl)) csN))
def BG (r:Int):AV:=cdI.enc r
theorem Bh (x0:(List AL)) (x1:(List (List UInt8))×Int):∀ (f:Nat) (c1:Int) (r:(Unit) ⊕ (Int)),AG x0 x1 f c1=some r->SemN E0 ⟨none,false⟩ (pc BD [1,0,1,0,0]) f ⟨Fr 19 [(0,.sl 10 (x0.map AD.enc)),(1,.fn 99 [] [.pe (.sl 1 (x1.1.map cdS.enc)) 0,.pe (.v (.int .i64 x1.2)) 0]),(7,.v (.int .i64 (x0.length:Int))),(8,.v (.int .i64 c1))],[]⟩ (fun e s=>match r with
 | (.inl w)=>e=(.exit 0)/\Wk E0 s ⟨Fr 19 [],[]⟩
 | (.inr w)=>e = .ret/\Wk E0 s ⟨Fr 19 [(4,.v (.int .i64 w))],[]⟩):=by
 intro f;induction f with
 | zero=>intro c1 r h; cases h
 | succ f ih0 =>
  intro c1 r h
  have ih:=fun (c1:Int)=>ih0 c1 r
  unfold AG at h;refine FI ?_
  let p1:Nat×AV:=(8,.v (.int .i64 c1))
  let p2:Nat×AV:=(7,.v (.int .i64 (x0.length:Int)))
  let p3:Nat×AV:=(1,.fn 99 [] [.pe (.sl 1 (x1.1.map cdS.enc)) 0,.pe (.v (.int .i64 x1.2)) 0])
  let p4:Nat×AV:=(0,.sl 10 (x0.map AD.enc))
  refine AP AC [p4,p3,p2,p1,(9,.v (.bool (decide (c1 < (x0.length:Int)))))] [] ?_;refine AJ ?_;refine Ab (b:=(decide (c1 < (x0.length:Int)))) kr (fun hb2=>?_) (fun hb2=>?_)
  ·rw [if_pos hb2] at h
   refine As ?_;refine AJ ?_;refine CI ?_
   let p5:Nat×AV:=(5,.v (.int .i64 c1))
   refine AP AC [p4,p3,p5,p2,p1] [] ?_;refine AJ ?_;obtain ⟨v3,hv3,h⟩:=OB h;obtain ⟨v4,hv4,h⟩:=OB h;refine AS (s1:=⟨Fr 19 [p4,p3,p5,p2,p1,(16,.v (.bool v4))],[]⟩) ?_ ?_
   ·let p6:Nat×AV:=(11,.fn 99 [] [.pe (.sl 1 (x1.1.map cdS.enc)) 0,.pe (.v (.int .i64 x1.2)) 0])
    refine AF (n:=19) AC 3 [p4,p3,p5,p2,p1,p6,(12,.sl 10 (x0.map AD.enc)),(13,.v (.int .i64 c1))] [] kr ?_;refine A6 AC 0 rfl (Cw (AA rfl) rfl (AQ (a:= .sl 10 (x0.map AD.enc)) (b:= .v (.int .i64 c1)) kr kr (GS (e:=AD.enc) (el:=115) (k:=10) (ki:= .i64) kr kr hv3))) ?_;refine AF (n:=19) AC 1 [p4,p3,p5,p2,p1,p6,(15,AD.enc v3)] [] kr ?_;refine A1 (caps:=[.pe (.sl 1 (x1.1.map cdS.enc)) 0,.pe (.v (.int .i64 x1.2)) 0]) (xs:=[AD.enc v3]) (u:=(v3,x1.1,x1.2,())) rfl rfl Ii rfl (AA rfl) kr kr (AY (Ay (c:=AD) (v:=v3)) (AY (Ay (c:=(cdP (cdL 1 cdS))) (v:=x1.1)) (AY (Ay (c:=(cdP cdI)) (v:=x1.2)) CB))) (.inl kr) hv4 ?_;exact AR rfl AZ
   refine Ab (b:=v4) kr (fun hb5=>?_) (fun hb5=>?_)
   ·rw [if_pos hb5] at h
    refine AP AC [(4,.v (.int .i64 c1))] [] ?_;refine Ah ?_;have hq:=OI h; subst hq;exact ⟨rfl,AZ⟩
   ·rw [Cg hb5] at h
    refine As ?_
    let p7:Nat×AV:=(8,.v (.int .i64 (wr .i64 (c1 + 1))))
    refine Fb AC [p4,p3,p2,p7] [] ?_;exact Ck (s1:=⟨Fr 19 [p4,p3,p2,p7],[]⟩) AZ (ih (wr .i64 (c1 + 1)) h)
  ·rw [Cg hb2] at h
   refine F8 ?_;have hq:=OI h; subst hq;exact ⟨rfl,AZ⟩
theorem Cy (x0:(List AL)) (x1:(List (List UInt8))×Int) (r:Int) (h:AO x0 x1=some r):Sem E0 ⟨none,false⟩ BD ⟨Fr 19 (BQ 0 (BF.enc (x0,x1,()))),[]⟩ fun e s'=>(e = .normal\/e = .ret)/\∃ xs,Es E0.P s'.fr s'.hp Tryz.f144.results.toList=some xs/\FG xs=BG r:=by
 unfold AO at h
 let p1:Nat×AV:=(1,.fn 99 [] [.pe (.sl 1 (x1.1.map cdS.enc)) 0,.pe (.v (.int .i64 x1.2)) 0])
 let p2:Nat×AV:=(0,.sl 10 (x0.map AD.enc))
 refine BV (CK (s1:=⟨Fr 19 [p2,p1],[]⟩) AZ ?_);refine AP AC [p2,p1] [] ?_;refine AJ ?_;refine AJ ?_
 let p3:Nat×AV:=(8,.v (.int .i64 0))
 let p4:Nat×AV:=(7,.v (.int .i64 (x0.length:Int)))
 refine AS (s1:=⟨Fr 19 [p2,p1,p4,p3],[]⟩) ?_ ?_
 ·refine AF (n:=19) AC 1 [p2,p1,(6,.sl 10 (x0.map AD.enc))] [] kr ?_
  refine A6 AC 0 rfl (Cw (AA rfl) rfl (Ed (a:= .sl 10 (x0.map AD.enc)) kr (DC (el:=115) kr))) ?_;exact BH AC
 refine CI ?_;obtain ⟨r7,hr7,h⟩:=OB h;refine F9 (n:=100000) ?_;rcases r7 with w8 | w9
 ·try dsimp only at h
  refine DR (Ck (s1:=⟨Fr 19 [p2,p1,p4,p3],[]⟩) AZ (Bh x0 x1 _ 0 _ hr7)) ?_;refine AP AC [(4,.v (.int .i64 (-1)))] [] ?_;refine Ah ?_;have hq:=OI h; subst hq;exact ⟨⟨Fr 19 [(4,.v (.int .i64 (-1)))],[]⟩,AZ,.inr rfl,[.v (.int .i64 (-1))],kr,kr⟩
 ·try dsimp only at h
  refine DR (Ck (s1:=⟨Fr 19 [p2,p1,p4,p3],[]⟩) AZ (Bh x0 x1 _ 0 _ hr7)) ?_;have hq:=OI h; subst hq;exact ⟨⟨Fr 19 [(4,.v (.int .i64 w9))],[]⟩,AZ,.inr rfl,[.v (.int .i64 w9)],kr,kr⟩
def C3:List AV->Option AV:=Ee BF (fun a=>AO a.1 a.2.1) BG
theorem C4:XOk 144 C3:=by
 refine Ad Tryz.func144 (c:=BD) ?h2 ⟨Tryz.call144⟩ BF (fun a=>AO a.1 a.2.1) BG (fun a=>(by show 2<=19; decide)) ?h3 ?h4
 case h2=>kernel_rfl
 case h3=>intro b; kernel_rfl
 case h4=>exact fun a b h=>Cy a.1 a.2.1 b h
/-- An own block is shortened. -/
theorem TN {E:Env}{n d:Nat}{l:List (Nat×AV)}{hp:Hp}{b k q m:Nat}{t:TypeId}{es zs:List AV}(hb:hp[b]? = some (some ⟨k,t,es++zs,false⟩)) (_:q<=m):WkY E ⟨Fr n ((d,.rf b 0 q m)::l),hp⟩ ⟨Fr n ((d,.rf b 0 q q)::l),hp.set b (some ⟨k,t,es,false⟩)⟩:=by
 intro base w Z R a sr
 obtain ⟨r,arr,us,g1,g2,g3,g4,g5,g6,g7,g8,g9,g10⟩:=sr.hh.blk b _ hb
 have hel:(es++zs).take es.length=es:=by rw [List.take_append_of_le_length (Nat.le_refl _),List.take_of_length_le (Nat.le_refl _)]
 have hput:=sr.hh.put (w':=w) (es:=es) (us:=us.take es.length) (arr:=arr) hb rfl g1 ⟨rfl,rfl,rfl,Nat.le_refl _,fun _ _ _=>rfl⟩ g3 g4 (by have:(es++zs).length<=r.cap:=g5; rw [List.length_append] at this; omega) (by have:=g9.take es.length; rwa [hel] at this) (fun i u hu=>by
  rw [List.getElem?_take] at hu
  split at hu
  ·exact g10 i u hu
  ·cases hu)
 refine ⟨Z,R,⟨hput.1,⟨?_,fun t x hx=>?_⟩,sr.mks.step hput.2,sr.gl.step sr.hh hput.2,sr.bs⟩,hput.2⟩
 ·have:=sr.fr.1; rw [Fz] at this ⊢; exact this
 ·have hold:∀ x,(Fr n ((d,.rf b 0 q m)::l))[t]? = some (some x)->VR w Z R x (a.tmps.getD t undef):=fun x h=>sr.fr.2 t x h
  rw [FW] at hx
  by_cases ht:t < n
  ·rw [if_pos ht] at hx
   injection hx with hx
   rw [Ic] at hx
   by_cases hd:d=t
   ·subst hd
    rw [if_pos rfl] at hx
    injection hx with hx
    subst hx
    have h2:=hold (.rf b 0 q m) (by rw [FW,if_pos ht,Ic,if_pos rfl])
    generalize a.tmps.getD d undef=u at h2
    cases h2 with
    | rf hr h0 h1 h2 hm=>exact .rf hr (Nat.le_refl _) (Nat.le_trans h0 h1) h2 hm
   ·rw [if_neg hd] at hx
    exact hold x (by rw [FW,if_pos ht,Ic,if_neg hd,hx])
  ·rw [if_neg ht] at hx; cases hx
def YF (i:Int) (m:Nat):Bool:=decide (0 < m)&&(decide (0<=i)&&decide (i<=(m:Int)))
section
variable {E:Env}{cx:Cx}{ops:Array Oper}{rest rest':List Oper}{K:St->Prop}{n k d:Nat}{l:List (Nat×AV)}{hp:Hp}{t ty:TypeId}{α:Type}{c:Cd α}{xs:List α}{e:AV}{L:List Asn}
theorem TM (hE:EnvOk E){x y:Operand}{i:Int}{ki:IntKind}{t':TypeId}{pos:String}{af:Array Edge}{g:Option (Nat×Bool)}(ht:T hp (own_ (ocL k t (ocV c)) e xs::L)) (hc:YF i xs.length=true) (hr:rest=⟨some d,.slice ty x none (some y) none,t',pos,af,g⟩::rest') (hw:CF ops (Fr n l) ⟨some d,.slice ty x none (some y) none,t',pos,af,g⟩=some true)
  (hx:opA E (Fr n l) x=some e) (hy:opA E (Fr n l) y=some (.v (.int ki i))) (hu:E.P.underlying ty=some (.slice t)) (hs:CO E.P t=some k) (kk:∀ e' hp',T hp' (own_ (ocL k t (ocV c)) e' (xs.take i.toNat)::L)->RunL E cx ops rest' ⟨Fr n ((d,e')::l),hp'⟩ K):RunL E cx ops rest ⟨Fr n l,hp⟩ K:=by
 unfold YF at hc
 simp only [Bool.and_eq_true,decide_eq_true_eq] at hc
 obtain ⟨h0,h1,h2⟩:=hc
 obtain ⟨F,p,hn',hk,_⟩:=ht.act
 rcases p with ⟨rfl,rfl,_⟩ | ⟨b,es,F',rfl,hb,rfl,h4⟩
 ·simp at h0
 ·obtain ⟨rfl,rfl⟩:=h4.leaf_inv
  have hi:i.toNat<=xs.length:=by omega
  have hsl:HF E.P hp ty (.rf b 0 xs.length xs.length) none (some (.v (.int ki i))) none=some (.rf b 0 i.toNat xs.length):=by
   unfold HF
   have hni:¬ i < 0:=by omega
   simp only [hu,hb,NW,hni,if_false,hs]
   rw [if_pos ⟨Nat.zero_le _,hi,Nat.le_refl _,.inl rfl,trivial⟩,if_pos h0]
   simp
  refine AM hE 0 hr (Cw hw rfl (EE hx rfl (by show (opA E (Fr n l) y).map some=_; rw [hy]; rfl) rfl hsl)) ?_
  refine MG (TN (es:=(xs.take i.toNat).map c.enc) (zs:=(xs.drop i.toNat).map c.enc) (by rw [hb,<-List.map_append,List.take_append_drop]) hi) ?_
  have hlt:=Ib hb
  have hl:(xs.take i.toNat).length=i.toNat:=by rw [List.length_take]; omega
  refine kk _ _ (hk _ _ [b] (.inr ⟨b,(xs.take i.toNat).map c.enc,[],by rw [hl],by simp [hlt],rfl,KB⟩) (by simp) (fun b' hb' _=>?_) (fun b' hb'=> .inl hb'))
  rw [List.getElem?_set,if_neg (by intro e; subst e; simp at hb')]
end
def Xj (i:Int) (m:Nat):Bool:=decide (0<=i)&&decide (i < (m:Int))
theorem LI (z:Value):∀ n:Nat,(Builtin.zeroCells z.cells n).toList=Be (List.replicate n z)
 | 0=>by simp [Builtin.zeroCells,Be]
 | n + 1=>by
  have ih:=LI z n
  have e:Be (List.replicate (n + 1) z)=Be (List.replicate n z)++z.cells.toList:=by
   unfold Be
   rw [List.replicate_succ',List.map_append,List.flatten_append]
   simp
  rw [e,<-ih]
  apply List.ext_getElem?
  intro i
  simp only [Builtin.zeroCells,Array.toList_map,Array.toList_range,List.getElem?_map]
  rw [List.getElem?_append]
  simp only [List.length_map,List.length_range,List.getElem?_map]
  have hs:(n + 1) * z.cells.size=n * z.cells.size + z.cells.size:=Nat.succ_mul _ _
  by_cases h1:i < n * z.cells.size
  ·rw [if_pos h1,List.getElem?_range (by omega),List.getElem?_range h1]
  ·rw [if_neg h1]
   by_cases h2:i < (n + 1) * z.cells.size
   ·rw [List.getElem?_range h2]
    have h3:i - n * z.cells.size < z.cells.size:=by omega
    have h4:i % z.cells.size=i - n * z.cells.size:=by
     have:i=(i - n * z.cells.size) + z.cells.size * n:=by have:=Nat.mul_comm z.cells.size n; omega
     conv=>lhs; rw [this]
     rw [Nat.add_mul_mod_self_left,Nat.mod_eq_of_lt h3]
    simp only [Option.map_some,h4]
    simp [h3]
   ·rw [List.getElem?_eq_none (by rw [List.length_range]; omega),List.getElem?_eq_none (by rw [Array.length_toList]; omega)]; rfl
section
variable {E:Env}{cx:Cx}{ops:Array Oper}{rest rest':List Oper}{K:St->Prop}{n k d:Nat}{l:List (Nat×AV)}{hp:Hp}{t ty:TypeId}{α:Type}{c:Cd α}{xs:List α}{e:AV}{L:List Asn}
theorem RunL.clear {x:Operand}{t2:TypeId}{pos:String}{af:Array Edge}{g:Option (Nat×Bool)}{b lo q m:Nat}{B:Blk}{z0 z:AV}(hr:rest=⟨none,.call ⟨.builtin .clear,#[x],#[ty]⟩,t2,pos,af,g⟩::rest') (hw:CF ops (Fr n l) ⟨none,.call ⟨.builtin .clear,#[x],#[ty]⟩,t2,pos,af,g⟩=some true)
  (hx:opA E (Fr n l) x=some (.rf b lo (q + 1) m)) (hu:E.P.underlying ty=some (.slice t)) (hz:F0 E.P t=some z0) (hup:UpV z0 z) (hnt:z.notTp=true) (hk:z.nc=B.k) (hB:hp[b]? = some (some B)) (hf:B.fz=false) (hle:lo + (q + 1)<=B.es.length)
  (kk:RunL E cx ops rest' ⟨Fr n l,hp.set b (some { B with es:=B.es.take lo++List.replicate (q + 1) z++B.es.drop (lo + (q + 1)) })⟩ K):RunL E cx ops rest ⟨Fr n l,hp⟩ K:=by
 subst hr
 intro ro base Q a w Z R hro sr hy qq
 refine Jj rfl (wantedA_eq sr hw) ?_
 have hv:=opA_vr sr x _ hx
 generalize hva:a.eval x=va at hv
 obtain ⟨u,hzu0,_,hzr,i,hi1,hi2⟩:=Ig (w:=w) (Z:=Z) (R:=R) hz
 have hzu:=hup _ _ _ _ hzu0
 obtain ⟨r,arr,us,g1,g2,g3,g4,g5,g6,g7,g8,g9,g10⟩:=sr.hh.blk b B hB
 cases hv with
 | rf hr q0 q1 q2 q3 =>
  rename_i c' r'
  rw [g1] at hr
  injection hr with hr
  subst hr
  have hys:VRs w Z R (List.replicate (q + 1) z) (List.replicate (q + 1) u):=VRs.replicate _ hzu
  obtain ⟨k1,k2,k3,k4,k5⟩:=sr.hh.write (lo:=lo) (ys:=List.replicate (q + 1) z) (vs:=List.replicate (q + 1) u) hB hf g1 (by simp; omega) (by omega) hys (fun v hv=>by
   have:=List.eq_of_mem_replicate hv
   subst this
   exact ⟨hzu.cells.1.trans hk,hzu.cells_one hnt⟩)
  rw [List.length_replicate] at k1 k2
  have hst:=run_storeCells_cells (P:=E.P) r.c (lo * r.k) (Be (List.replicate (q + 1) u)) 0 w (fun j hj=>by rw [g2]; simpa using k3 j hj) (fun j hj=>by rw [g2]; simpa using k4 j hj) k5
  simp only [Nat.add_zero] at hst
  have hst':(storeCells ⟨r.c,lo * r.k,none⟩ (Be (List.replicate (q + 1) u))).run E.P w = .ok () (w.setCells r.c (lo * B.k) (Be (List.replicate (q + 1) u))):=by rw [hst,g2]
  have hrun:=Gx (P:=E.P) (ve:=a.eval) (o:=⟨none,.call ⟨.builtin .clear,#[x],#[ty]⟩,t2,pos,af,g⟩) (us:=[.slice (some ⟨r.c,lo * r.k,none⟩) (q + 1) c']) rfl (by simp [hva]) w
  have hfin:(execOp a.eval ⟨none,.call ⟨.builtin .clear,#[x],#[ty]⟩,t2,pos,af,g⟩).run E.P w = .ok (.value (.tuple #[])) (w.setCells r.c (lo * B.k) (Be (List.replicate (q + 1) u))):=by
   rw [hrun]
   simp [builtin,Builtin.clear_,run_underlying hu,hzr,LI,hst']
  unfold Lw
  rw [hfin]
  exact kk ro base Q _ _ Z R hro ((sr.step k1 k2).put (d:=none) (x:= .tp []) (u:= .tuple #[]) (.tp (us:=[]) rfl fun i x u h=>by simp at h)) (hy.step sr.hh k2) fun s' a' w'' Z'' R'' hK sr'' st'=>qq s' a' w'' Z'' R'' hK sr'' (k2.trans st')
theorem TL (hE:EnvOk E){x y:Operand}{i:Int}{ki:IntKind}{z:α}{t1 t2:TypeId}{p1 p2:String}{f1 f2:Array Edge}{g1 g2:Option (Nat×Bool)}(ht:T hp (own_ (ocL k t (ocV c)) e xs::L)) (hc:Xj i xs.length=true)
  (hr:rest=⟨some d,.slice ty x (some y) none none,t1,p1,f1,g1⟩::⟨none,.call ⟨.builtin .clear,#[.tmp d],#[ty]⟩,t2,p2,f2,g2⟩::rest') (hw:CF ops (Fr n l) ⟨some d,.slice ty x (some y) none none,t1,p1,f1,g1⟩=some true)
  (hw2:∀ v,CF ops (Fr n ((d,v)::l)) ⟨none,.call ⟨.builtin .clear,#[.tmp d],#[ty]⟩,t2,p2,f2,g2⟩=some true) (hd:Nat.blt d n=true) (hx:opA E (Fr n l) x=some e) (hy:opA E (Fr n l) y=some (.v (.int ki i))) (hu:E.P.underlying ty=some (.slice t)) (hs:CO E.P t=some k) {z0:AV} (hz:F0 E.P t=some z0) (hup:UpV z0 (c.enc z)) (hnt:(c.enc z).notTp=true) (hk:(c.enc z).nc=k)
  (kk:∀ v hp',T hp' (own_ (ocL k t (ocV c)) e (xs.take i.toNat++List.replicate (xs.length - i.toNat) z)::L)->RunL E cx ops rest' ⟨Fr n ((d,v)::l),hp'⟩ K):RunL E cx ops rest ⟨Fr n l,hp⟩ K:=by
 unfold Xj at hc
 simp only [Bool.and_eq_true,decide_eq_true_eq] at hc
 obtain ⟨h1,h2⟩:=hc
 obtain ⟨F,p,hn',hk',_⟩:=ht.act
 rcases p with ⟨rfl,rfl,_⟩ | ⟨b,es,F',rfl,hb,rfl,h4⟩
 ·simp at h2; omega
 ·obtain ⟨rfl,rfl⟩:=h4.leaf_inv
  obtain ⟨j,rfl⟩:∃ j:Nat,i=(j:Int):=⟨i.toNat,by omega⟩
  have hj:j < xs.length:=by omega
  obtain ⟨q,hq⟩:∃ q,xs.length=j + (q + 1):=⟨xs.length - j - 1,by omega⟩
  have hsl:HF E.P hp ty (.rf b 0 xs.length xs.length) (some (.v (.int ki (j:Int)))) none none=some (.rf b j (q + 1) (q + 1)):=by
   unfold HF
   have hni:¬ (j:Int) < 0:=by omega
   simp only [hu,hb,NW,hni,if_false,hs,Int.toNat_natCast]
   rw [if_pos ⟨by omega,Nat.le_refl _,Nat.le_refl _,.inl rfl,trivial⟩,if_pos (by omega)]
   rw [hq]
   simp
  refine AM hE 0 hr (Cw hw rfl (EE hx (by show (opA E (Fr n l) y).map some=_; rw [hy]; rfl) rfl rfl hsl)) ?_
  refine RunL.clear (z:=c.enc z) (q:=q) (lo:=j) (m:=q + 1) (b:=b) (B:=⟨k,t,xs.map c.enc,false⟩) rfl (hw2 _) ?_ hu hz hup hnt hk hb rfl (by simp; omega) ?_
  ·show (match (Fr n ((d,AV.rf b j (q + 1) (q + 1))::l))[d]? with | some (some x)=>some x | _=>none)=_
   rw [FW,if_pos (show d < n from Nat.le_of_ble_eq_true hd)]
   simp [lk]
  ·have e1:(xs.map c.enc).take j++List.replicate (q + 1) (c.enc z)++(xs.map c.enc).drop (j + (q + 1))=(xs.take j++List.replicate (xs.length - j) z).map c.enc:=by
    rw [List.drop_eq_nil_of_le (by simp; omega),List.append_nil,List.map_append,List.map_take,List.map_replicate,show xs.length - j=q + 1 by omega]
   have hl:(xs.take j++List.replicate (xs.length - j) z).length=xs.length:=by simp; omega
   simp only [e1,Int.toNat_natCast] at kk ⊢
   have hlt:=Ib hb
   refine kk _ _ (hk' _ _ [b] (.inr ⟨b,(xs.take j++List.replicate (xs.length - j) z).map c.enc,[],by rw [hl],by simp [hlt],rfl,KB⟩) (by simp) (fun b' hb' _=>?_) (fun b' hb'=> .inl hb'))
   rw [List.getElem?_set,if_neg (by intro e; subst e; simp at hb')]
end
/- slices.DeleteFunc[[]trestle/court.seated,trestle/court.seated] -/
noncomputable def BL:Code:=Bo Tryz.f98
def Af (c3:Int) (c5:(List AL)) (v7:AL) (v15:Bool):Option ((Int×(List AL))) :=
 if (!v15)=true then
 (idx c5 c3).bind fun v17 =>
 some ((wr .i64 (c3 + 1)),(c5.set c3.toNat v7))
 else
 some (c3,c5)
def AW (x1:(List (List UInt8))) (x2:Int):Nat->Int->Int->(List AL)->Option ((Int×(List AL)))
 | 0,_,_,_=>none
 | f + 1,c3,c4,c5 =>
  if (decide (c4 < (c5.length:Int)))=true then
  (idx c5 c4).bind fun v7 =>
  (Ci v7 x1 x2).bind fun v15 =>
  (Af c3 c5 v7 v15).bind fun r26 =>
  AW x1 x2 f r26.1 (wr .i64 (c4 + 1)) r26.2
  else
  some (c3,c5)
def BA (x0:(List AL)) (x1:(List (List UInt8))) (x2:Int):Option ((List (List UInt8))×Int×(List AL)) :=
 (AO x0 (x1,x2)).bind fun v1 =>
 if (v1==(-1))=true then
 some (x1,x2,x0)
 else
 (AW x1 x2 100000 v1 (wr .i64 (v1 + 1)) x0).bind fun r31 =>
 if (Xj r31.1 r31.2.length)=true then
 if (YF r31.1 (r31.2.take r31.1.toNat++List.replicate (r31.2.length - r31.1.toNat) ((([]:List UInt8),([]:List UInt8),([]:List UInt8),(0:Int),(0:Int),([]:List UInt8),false,false,([]:(List (List UInt8)))),(0:Int))).length)=true then
 some (x1,x2,((r31.2.take r31.1.toNat++List.replicate (r31.2.length - r31.1.toNat) ((([]:List UInt8),([]:List UInt8),([]:List UInt8),(0:Int),(0:Int),([]:List UInt8),false,false,([]:(List (List UInt8)))),(0:Int))).take r31.1.toNat))
 else none
 else none
theorem D4 {L:List Asn}{hp:Hp}(c3:Int) (c5:(List AL)) (v7:AL) (v15:Bool) (u0:AV) (u1:AV) (x1:(List (List UInt8))) (u2:AV) (x2:Int) (c4:Int) (e8:AV) (r:(Int×(List AL))) (h:Af c3 c5 v7 v15=some r) (hT:T hp ((cel e8 10 115 (AD.enc v7))::(own_ (ocL 10 115 (ocV AD)) u0 c5)::(cel u1 1 40 (.sl 1 (x1.map cdS.enc)))::(cel u2 1 3 (.v (.int .i64 x2)))::L)):SemY E0 ⟨none,false⟩ (pc BL [1,1,1,0,1,0,0,1,0,0,1,1]) ⟨Fr 42 [(0,u0),(1,.fn 99 [] [u1,u2]),(5,.v (.int .i64 c3)),(6,.v (.int .i64 c4)),(7,e8),(29,.v (.bool (!v15)))],hp⟩ (fun e s=>e = .normal/\∃ s2,(∃ (h':Hp),T h' ((own_ (ocL 10 115 (ocV AD)) u0 r.2)::(cel u1 1 40 (.sl 1 (x1.map cdS.enc)))::(cel u2 1 3 (.v (.int .i64 x2)))::L)/\s2=⟨Fr 42 [(0,u0),(1,.fn 99 [] [u1,u2]),(5,.v (.int .i64 r.1)),(6,.v (.int .i64 c4))],h'⟩)/\WkY E0 s s2):=by
 unfold Af at h;refine BW (b:=(!v15)) kr (fun hb16=>?_) (fun hb16=>?_)
 ·rw [if_pos hb16] at h
  refine AK ?_;refine AI ?_;refine AX AC 2 ?_;refine AM AC 0 rfl (Cw (AA rfl) rfl (CR (p:=e8) kr (DQ (y:=(AD.enc v7)) (m:=10) (g:=true) hT kr kr kr))) ?_;obtain ⟨v17,hv17,h⟩:=OB h
  have hT18:=(hT.front 1 rfl)
  refine AM AC 0 rfl (Cw (AA rfl) rfl (AQ (a:=u0) (b:= .v (.int .i64 c3)) kr kr (MZ (bytes:=120) hT18 kr hv17))) ?_;obtain ⟨hp19,hs20,hT21⟩:=Kg (P:=Tryz.prog) (ty:=115) (y:=(AD.enc v7)) (v':=v7) hT18 (Cv hv17).2 kr kr kr;refine RunL.store AC (y:=eAt u0 c3.toNat) (z:=(AD.enc v7)) rfl (AA rfl) kr kr hs20 ?_;refine Aw rfl (SemY.fr (l':=[(0,u0),(1,.fn 99 [] [u1,u2]),(5,.v (.int .i64 c3)),(6,.v (.int .i64 c4))]) kr ?_);refine AI ?_;refine AX AC 3 ?_;refine Aw rfl ?_;have hq:=OI h; subst hq
  have hT24:=(hT21.front 1 rfl).drop
  exact ⟨rfl,_,⟨hp19,hT24,rfl⟩,WkY.f1⟩
 ·rw [Cg hb16] at h
  refine SemY.skip ?_;have hq:=OI h; subst hq
  have hT25:=hT.drop
  exact ⟨rfl,_,⟨hp,hT25,rfl⟩,WkY.f1⟩
theorem D5 {L:List Asn}(x1:(List (List UInt8))) (x2:Int) (u0:AV) (u1:AV) (u2:AV):∀ (f:Nat) (c3:Int) (c4:Int) (c5:(List AL)) (r:(Int×(List AL))),AW x1 x2 f c3 c4 c5=some r->∀ (hp:Hp),T hp ((own_ (ocL 10 115 (ocV AD)) u0 c5)::(cel u1 1 40 (.sl 1 (x1.map cdS.enc)))::(cel u2 1 3 (.v (.int .i64 x2)))::L)->SemYN E0 ⟨none,false⟩ (pc BL [1,1,1,0,1,0,0]) f ⟨Fr 42 [(0,u0),(1,.fn 99 [] [u1,u2]),(5,.v (.int .i64 c3)),(6,.v (.int .i64 c4))],hp⟩ (fun e s=>e=(.exit 0)/\∃ s2,(∃ (h':Hp),T h' ((own_ (ocL 10 115 (ocV AD)) u0 r.2)::(cel u1 1 40 (.sl 1 (x1.map cdS.enc)))::(cel u2 1 3 (.v (.int .i64 x2)))::L)/\s2=⟨Fr 42 [(0,u0),(5,.v (.int .i64 r.1))],h'⟩)/\WkY E0 s s2):=by
 intro f;induction f with
 | zero=>intro c3 c4 c5 r h; cases h
 | succ f ih0 =>
  intro c3 c4 c5 r h  hp hT;unfold AW at h;refine C5 ?_;refine AK ?_;refine AK ?_;refine AI ?_;refine AX AC 2 ?_;refine AM AC 0 rfl (Cw (AA rfl) rfl (Ed (a:=u0) kr (S4 hT kr))) ?_
  let p1:Nat×AV:=(6,.v (.int .i64 c4))
  let p2:Nat×AV:=(5,.v (.int .i64 c3))
  let p3:Nat×AV:=(1,.fn 99 [] [u1,u2])
  refine BK AC [(0,u0),p3,p2,p1,(19,.v (.bool (decide (c4 < (c5.length:Int)))))] ?_;refine BW (b:=(decide (c4 < (c5.length:Int)))) kr (fun hb6=>?_) (fun hb6=>?_)
  ·rw [if_pos hb6] at h
   refine SemY.skip ?_;refine AK ?_;refine BI ?_;refine AK ?_;refine AI ?_;refine AX AC 2 ?_;obtain ⟨v7,hv7,h⟩:=OB h;refine AM AC 0 rfl (Cw (AA rfl) rfl (AQ (a:=u0) (b:= .v (.int .i64 c4)) kr kr (MZ (bytes:=120) hT kr hv7))) ?_;refine AM AC 0 rfl (Cw (AA rfl) rfl (CR (p:=eAt u0 c4.toNat) kr (FR (y:=(AD.enc v7)) (m:=10) (g:=true) hT (Cv hv7).2 kr kr kr))) ?_;obtain ⟨e8,hp9,hb10,hT11⟩:=JY (t:=115) (a:= .ag [.st [],.st [],.st [],.v (.int .i64 0),.v (.int .i64 0),.st [],.v (.bool false),.v (.bool false),.e0,.v (.int .i64 0)]) hT kr;refine AM AC 0 rfl (PN (AA rfl) rfl kr (LV (z:= .ag [.st [],.st [],.st [],.v (.int .i64 0),.v (.int .i64 0),.st [],.v (.bool false),.v (.bool false),.e0,.v (.int .i64 0)]) kr hb10)) ?_;obtain ⟨hp12,hs13,hT14⟩:=LZ (P:=Tryz.prog) (ty:=115) (y:=(AD.enc v7)) (a':=(AD.enc v7)) hT11 kr kr kr;refine RunL.store AC (y:=e8) (z:=(AD.enc v7)) rfl (AA rfl) kr kr hs13 ?_;refine Aw rfl (SemY.fr (l':=[(0,u0),p3,p2,p1,(7,e8)]) kr ?_);refine AK ?_;refine AI ?_;refine AX AC 1 ?_;refine AM AC 0 rfl (Cw (AA rfl) rfl (CR (p:=e8) kr (DQ (y:=(AD.enc v7)) (m:=10) (g:=true) hT14 kr kr kr))) ?_;obtain ⟨v15,hv15,h⟩:=OB h;refine Eg (v:=v15) (caps:=[u1,u2]) (xs:=[AD.enc v7]) (u:=(v7,x1,x2,())) rfl rfl Ii rfl (AA rfl) kr kr (A2 (CG (c:=AD) (v:=v7)) (A2 (SeeD.cel (c:=(cdL 1 cdS)) (v:=x1) hT14 (i:=2) rfl) (A2 (SeeD.cel (c:=cdI) (v:=x2) hT14 (i:=3) rfl) SeesD.nil))) (.inl kr) hv15 ?_;refine BK AC [(0,u0),p3,p2,p1,(7,e8),(29,.v (.bool (!v15)))] ?_;obtain ⟨r26,hr26,h⟩:=OB h;refine JJ (D4 c3 c5 v7 v15 u0 u1 x1 u2 x2 c4 e8 _ hr26 hT14) ?_;rintro _ ⟨hp27,hT28,rfl⟩;refine AI ?_;refine AX AC 3 ?_;refine Aw rfl ?_;exact Br WkY.f1 (ih0 r26.1 (wr .i64 (c4 + 1)) r26.2 _ h  hp27 hT28)
  ·rw [Cg hb6] at h
   refine SemY.exit ?_;have hq:=OI h; subst hq;exact ⟨rfl,_,⟨hp,hT,rfl⟩,WkY.f1⟩
theorem EF {L:List Asn}{hp:Hp}(u0:AV) (x0:(List AL)) (u1:AV) (x1:(List (List UInt8))) (u2:AV) (x2:Int) (r:(List (List UInt8))×Int×(List AL)) (h:BA x0 x1 x2=some r) (hT:T hp ((own_ (ocL 10 115 (ocV AD)) u0 x0)::(cel u1 1 40 (.sl 1 (x1.map cdS.enc)))::(cel u2 1 3 (.v (.int .i64 x2)))::L)):SemY E0 ⟨none,false⟩ BL ⟨Fr 42 (BQ 0 [u0,.fn 99 [] [u1,u2]]),hp⟩ fun x s'=>(x = .normal\/x = .ret)/\∃ ys,Es E0.P s'.fr s'.hp Tryz.f98.results.toList=some ys/\(fun v h'=>∃ (z0:AV),v=z0/\T h' ((cel u1 1 40 (.sl 1 (r.1.map cdS.enc)))::(cel u2 1 3 (.v (.int .i64 r.2.1)))::(own_ (ocL 10 115 (ocV AD)) z0 r.2.2)::L)) (FG ys) s'.hp:=by
 unfold BA at h
 let p1:Nat×AV:=(1,.fn 99 [] [u1,u2])
 refine HK (IJ (s1:=⟨Fr 42 [(0,u0),p1],hp⟩) WkY.f1 ?_);refine BJ AC [(0,u0),p1] ?_;refine AK ?_;refine AI ?_;refine AX AC 2 ?_;obtain ⟨v1,hv1,h⟩:=OB h;refine Eg (v:=v1) (caps:=[]) (xs:=[u0,.fn 99 [] [u1,u2]]) (u:=(x0,(x1,x2),())) rfl rfl C4 rfl (AA rfl) kr kr (A2 (SeeD.own hT (i:=0) rfl) (A2 (SeeD.fn (A2 (SeeD.cel (c:=(cdL 1 cdS)) (v:=x1) hT (i:=1) rfl) (Sp (SeeD.cel (c:=cdI) (v:=x2) hT (i:=2) rfl)))) SeesD.nil)) (.inl kr) hv1 ?_
 let p2:Nat×AV:=(5,.v (.int .i64 v1))
 refine BK AC [(0,u0),p1,p2] ?_;refine AK ?_;refine BJ AC [(0,u0),p1,p2,(12,.v (.bool (v1==(-1))))] ?_;refine BW (b:=(v1==(-1))) kr (fun hb2=>?_) (fun hb2=>?_)
 ·rw [if_pos hb2] at h
  refine BJ AC [(4,u0)] ?_;refine SemY.ret ?_;have hq:=OI h; subst hq;exact ⟨⟨Fr 42 [(4,u0)],hp⟩,WkY.f1,.inr rfl,[u0],kr,⟨u0,rfl,((hT.front 2 rfl).front 2 rfl)⟩⟩
 ·rw [Cg hb2] at h
  refine SemY.skip ?_;refine AK ?_;refine BJ AC [(0,u0),p1,p2,(6,.v (.int .i64 (wr .i64 (v1 + 1))))] ?_;refine BI ?_;refine SemY.loop (n:=100000) ?_;obtain ⟨r31,hr31,h⟩:=OB h;refine CP (Br WkY.f1 (D5 x1 x2 u0 u1 u2 _ v1 (wr .i64 (v1 + 1)) x0 _ hr31  hp hT)) ?_;rintro _ ⟨hp32,hT33,rfl⟩;refine AK ?_;refine AI ?_;refine AX AC 2 ?_;by_cases hk34:(Xj r31.1 r31.2.length)=true
  case neg=>rw [if_neg hk34] at h; cases h
  rw [if_pos hk34] at h;refine TL (ki:= .i64) (i:=r31.1) (z:=((([]:List UInt8),([]:List UInt8),([]:List UInt8),(0:Int),(0:Int),([]:List UInt8),false,false,([]:(List (List UInt8)))),(0:Int))) (z0:= .ag [.st [],.st [],.st [],.v (.int .i64 0),.v (.int .i64 0),.st [],.v (.bool false),.v (.bool false),.e0,.v (.int .i64 0)]) AC hT33 hk34 rfl (AA rfl) (fun _=>AA rfl) kr kr kr kr kr kr (UpV.ag ⟨UpV.refl,UpV.refl,UpV.refl,UpV.refl,UpV.refl,UpV.refl,UpV.refl,UpV.refl,UpV.nil,UpV.refl,trivial⟩) kr kr ?_;intro _ hp35 hT36;refine Aw rfl (SemY.fr (l':=[(0,u0),(5,.v (.int .i64 r31.1))]) kr ?_);refine AK ?_;refine AI ?_;refine AX AC 2 ?_;by_cases hk37:(YF r31.1 (r31.2.take r31.1.toNat++List.replicate (r31.2.length - r31.1.toNat) ((([]:List UInt8),([]:List UInt8),([]:List UInt8),(0:Int),(0:Int),([]:List UInt8),false,false,([]:(List (List UInt8)))),(0:Int))).length)=true
  case neg=>rw [if_neg hk37] at h; cases h
  rw [if_pos hk37] at h;refine TM (ki:= .i64) (i:=r31.1) AC hT36 hk37 rfl (AA rfl) kr kr kr kr ?_;intro e38 hp39 hT40;refine BK AC [(4,e38)] ?_;refine SemY.ret ?_;have hq:=OI h; subst hq;exact ⟨⟨Fr 42 [(4,e38)],hp39⟩,WkY.f1,.inr rfl,[e38],kr,⟨e38,rfl,((hT40.front 2 rfl).front 2 rfl)⟩⟩
/- trestle/court.Alternate -/
noncomputable def Cl:Code:=Bo Tryz.f39
def CH (x0:(List (List AE))) (x2:(List Aq)):Nat->Int->(List (List UInt8))->(List (List Int))->Option (((List (List UInt8))×(List (List Int))) ⊕ (Int))
 | 0,_,_,_=>none
 | f + 1,c23,c24,c26 =>
  if (decide (c23 < (x0.length:Int)))=true then
  (idx x0 c23).bind fun v28 =>
  (idx c24 c23).bind fun v38 =>
  (if (!(v38==[]))=true then (idx c24 c23).bind fun v41 =>
  (Fo v41).bind fun v42 =>
  some (!v42) else some false).bind fun j43 =>
  if j43=true then
  some (.inr 4)
  else
  if (DK 0 c23 c24.length)=true then
  (idx c24 c23).bind fun v65 =>
  (Am ((c24.take c23.toNat).drop (0:Int).toNat) v65).bind fun v66 =>
  if v66=true then
  some (.inr 5)
  else
  (Fd v28).bind fun v69 =>
  if (v69.2 != 0)=true then
  some (.inr v69.2)
  else
  (EO v28).bind fun v72 =>
  (HQ x2).bind fun v73 =>
  (BA v73 c24 c23).bind fun v78 =>
  (EL v72.1 v78.2.2).bind fun v86 =>
  (GO v86).bind fun v87 =>
  if (v87.2 != 0)=true then
  some (.inr v87.2)
  else
  if (Dj 24 (c26.length + ([v87.1]:List (List Int)).length))=true then
  CH x0 x2 f (wr .i64 (c23 + 1)) v78.1 (c26++([v87.1]:List (List Int)))
  else none
  else none
  else
  some (.inl (c24,c26))
def EJ (c112:Int) (c119:(List Int)) (v121:(List Int)):Option (((List Int))) :=
 if (decide (c112 < (v121.length:Int)))=true then
 (idx v121 c112).bind fun v124 =>
 if (Dj 8 (c119.length + ([v124]:List Int).length))=true then
 some (c119++([v124]:List Int))
 else none
 else
 some c119
def Bc (w107:(List (List UInt8))×(List (List Int))) (c112:Int):Nat->Int->(List Int)->Option (((List Int)))
 | 0,_,_=>none
 | f + 1,c117,c119 =>
  if (decide (c117 < (w107.2.length:Int)))=true then
  (idx w107.2 c117).bind fun v121 =>
  (EJ c112 c119 v121).bind fun r139 =>
  Bc w107 c112 f (wr .i64 (c117 + 1)) r139
  else
  some c119
def Bb (x2:(List Aq)) (w107:(List (List UInt8))×(List (List Int))):Nat->Int->(List Int)->Option (((List Int)))
 | 0,_,_=>none
 | f + 1,c112,c114 =>
  if (decide (c112 < (x2.length:Int)))=true then
  (Bc w107 c112 100000 0 c114).bind fun r146 =>
  Bb x2 w107 f (wr .i64 (c112 + 1)) r146
  else
  some c114
def EK (c158:Int) (c160:(List Int)) (v172:Bool):Option (((List Int))) :=
 if (!v172)=true then
 if (Dj 8 (c160.length + ([c158]:List Int).length))=true then
 some (c160++([c158]:List Int))
 else none
 else
 some c160
def Bd (x2:(List Aq)) (w107:(List (List UInt8))×(List (List Int))):Nat->Int->(List Int)->Option (((List Int)))
 | 0,_,_=>none
 | f + 1,c158,c160 =>
  if (decide (c158 < (x2.length:Int)))=true then
  (idx x2 c158).bind fun v162 =>
  (Am w107.1 v162.2.2.1).bind fun v172 =>
  (EK c158 c160 v172).bind fun r188 =>
  Bd x2 w107 f (wr .i64 (c158 + 1)) r188
  else
  some c160
def Dy (x0:(List (List AE))) (x1:(List (List UInt8))) (x2:(List Aq)):Option ((List Int)×Int) :=
 (if (decide ((x0.length:Int) > 16))=true then some true else some (decide ((x2.length:Int) > 64))).bind fun j5 =>
 if j5=true then
 some (([]:(List Int)),7)
 else
 if ((x0.length:Int)!=(x1.length:Int))=true then
 some (([]:(List Int)),2)
 else
 (CH x0 x2 100000 0 x1 ([]:(List (List Int)))).bind fun r106 =>
 match r106 with
 | (.inl w107) =>
  (Bb x2 w107 100000 0 ([]:(List Int))).bind fun r154 =>
  (Bd x2 w107 100000 0 r154).bind fun r195 =>
  some (r195,0)
 | (.inr w202) =>
  some (([]:(List Int)),w202)
theorem HP {L:List Asn}(x0:(List (List AE))) (x2:(List Aq)) (e1:AV):∀ (f:Nat) (c23:Int) (c24:(List (List UInt8))) (c26:(List (List Int))) (r:((List (List UInt8))×(List (List Int))) ⊕ (Int)),CH x0 x2 f c23 c24 c26=some r->∀ (e25:AV) (hp:Hp),T hp ((cel e1 1 40 (.sl 1 (c24.map cdS.enc)))::(own_ (ocL 1 48 (ocV (cdL 1 cdI))) e25 c26)::L)->SemYN E0 ⟨none,false⟩ (pc Cl [1,1,1,0,1,0,0]) f ⟨Fr 141 [(2,.sl 9 (x2.map AH.enc)),(4,e1),(8,e25),(39,.sl 1 (x0.map (cdL 5 AB).enc)),(40,.v (.int .i64 (x0.length:Int))),(41,.v (.int .i64 c23))],hp⟩ (fun e s=>match r with
 | (.inl w)=>e=(.exit 1)/\∃ s2,(∃ (e103:AV) (h':Hp),T h' ((cel e1 1 40 (.sl 1 (w.1.map cdS.enc)))::(own_ (ocL 1 48 (ocV (cdL 1 cdI))) e103 w.2)::L)/\s2=⟨Fr 141 [(2,.sl 9 (x2.map AH.enc)),(4,e1),(8,e103)],h'⟩)/\WkY E0 s s2
 | (.inr w)=>e = .ret/\∃ s2,(∃ (h':Hp),T h' (L)/\s2=⟨Fr 141 [(6,.e0),(7,.v (.int .i64 w))],h'⟩)/\WkY E0 s s2):=by
 intro f;induction f with
 | zero=>intro c23 c24 c26 r h; cases h
 | succ f ih0 =>
  intro c23 c24 c26 r h e25 hp hT;unfold CH at h;refine C5 ?_;refine BJ AC [(2,.sl 9 (x2.map AH.enc)),(4,e1),(8,e25),(39,.sl 1 (x0.map (cdL 5 AB).enc)),(40,.v (.int .i64 (x0.length:Int))),(41,.v (.int .i64 c23)),(42,.v (.bool (decide (c23 < (x0.length:Int)))))] ?_;refine AK ?_;refine BW (b:=(decide (c23 < (x0.length:Int)))) kr (fun hb27=>?_) (fun hb27=>?_)
  ·rw [if_pos hb27] at h
   refine SemY.skip ?_;refine AK ?_;refine BI ?_;refine AK ?_;refine AI ?_;refine AX AC 1 ?_;obtain ⟨v28,hv28,h⟩:=OB h;refine AM AC 0 rfl (Cw (AA rfl) rfl (AQ (a:= .sl 1 (x0.map (cdL 5 AB).enc)) (b:= .v (.int .i64 c23)) kr kr (GS (e:=(cdL 5 AB).enc) (el:=22) (k:=1) (ki:= .i64) kr kr hv28))) ?_;refine AX AC 1 ?_;obtain ⟨e29,hp30,hb31,hT32⟩:=JY (t:=3) (a:= .v (.int .i64 0)) hT kr;refine AM AC 0 rfl (PN (AA rfl) rfl kr (LV (z:= .v (.int .i64 0)) kr hb31)) ?_;obtain ⟨hp33,hs34,hT35⟩:=LZ (P:=Tryz.prog) (ty:=3) (y:= .v (.int .i64 c23)) (a':= .v (.int .i64 c23)) hT32 kr kr kr;refine RunL.store AC (y:=e29) (z:= .v (.int .i64 c23)) rfl (AA rfl) kr kr hs34 ?_;refine BK AC [(2,.sl 9 (x2.map AH.enc)),(4,e1),(8,e25),(9,e29),(10,.sl 5 (v28.map AB.enc)),(39,.sl 1 (x0.map (cdL 5 AB).enc)),(40,.v (.int .i64 (x0.length:Int))),(41,.v (.int .i64 c23))] ?_;refine AK ?_;refine AK ?_;obtain ⟨v38,hv38,h⟩:=OB h;obtain ⟨j43,hj43,h⟩:=OB h;refine Le (A:=fun s1=>∃ (h':Hp),T h' ((cel e1 1 40 (.sl 1 (c24.map cdS.enc)))::(own_ (ocL 1 48 (ocV (cdL 1 cdI))) e25 c26)::(cel e29 1 3 (.v (.int .i64 c23)))::L)/\s1=⟨Fr 141 [(2,.sl 9 (x2.map AH.enc)),(4,e1),(8,e25),(9,e29),(10,.sl 5 (v28.map AB.enc)),(39,.sl 1 (x0.map (cdL 5 AB).enc)),(40,.v (.int .i64 (x0.length:Int))),(41,.v (.int .i64 c23)),(58,.v (.bool j43))],h'⟩) ?_ ?_
   ·have hT36:=(hT35.front 1 rfl)
    refine AM AC 0 rfl (Cw (AA rfl) rfl (CR (p:=e1) kr (DQ (y:= .sl 1 (c24.map cdS.enc)) (m:=1) (g:=false) hT36 kr kr kr))) ?_
    have hT37:=(hT36.front 1 rfl)
    refine AM AC 0 rfl (Cw (AA rfl) rfl (CR (p:=e29) kr (DQ (y:= .v (.int .i64 c23)) (m:=1) (g:=false) hT37 kr kr kr))) ?_;refine AM AC 0 rfl (Cw (AA rfl) rfl (AQ (a:= .sl 1 (c24.map cdS.enc)) (b:= .v (.int .i64 c23)) kr kr (GS (e:=cdS.enc) (el:=9) (k:=1) (ki:= .i64) kr kr hv38))) ?_;refine II (n:=141) AC 3 [(2,.sl 9 (x2.map AH.enc)),(4,e1),(8,e25),(9,e29),(10,.sl 5 (v28.map AB.enc)),(39,.sl 1 (x0.map (cdL 5 AB).enc)),(40,.v (.int .i64 (x0.length:Int))),(41,.v (.int .i64 c23)),(51,.v (.bool (!(v38==[]))))] hp33 kr ?_;rcases BE (!(v38==[])) with hc101 | hc101
    ·rw [if_pos hc101] at hj43
     rw [hc101]
     have hT39:=(hT37.front 1 rfl)
     refine AM AC 0 rfl (Cw kr rfl (CR (p:=e1) kr (DQ (y:= .sl 1 (c24.map cdS.enc)) (m:=1) (g:=false) hT39 kr kr kr))) ?_
     have hT40:=(hT39.front 1 rfl)
     refine AM AC 0 rfl (Cw kr rfl (CR (p:=e29) kr (DQ (y:= .v (.int .i64 c23)) (m:=1) (g:=false) hT40 kr kr kr))) ?_;obtain ⟨v41,hv41,hj43⟩:=OB hj43;refine AM AC 0 rfl (Cw kr rfl (AQ (a:= .sl 1 (c24.map cdS.enc)) (b:= .v (.int .i64 c23)) kr kr (GS (e:=cdS.enc) (el:=9) (k:=1) (ki:= .i64) kr kr hv41))) ?_;refine AX AC 1 ?_;obtain ⟨v42,hv42,hj43⟩:=OB hj43;refine Eg (v:=v42) (caps:=[]) (xs:=[.st v41]) (u:=(v41,())) rfl rfl Kn rfl kr kr kr (A2 (CG (c:=cdS) (v:=v41)) SeesD.nil) (.inl kr) hv42 ?_;refine AX AC 2 ?_;have hq:=OI hj43; subst hq
     have hT54:=((hT40.front 2 rfl).front 2 rfl)
     exact Aw rfl ⟨_,⟨hp33,hT54,rfl⟩,WkY.f1⟩
    ·rw [Cg hc101] at hj43
     rw [hc101];refine AX AC 7 ?_;have hq:=OI hj43; subst hq
     have hT55:=((hT37.front 2 rfl).front 2 rfl)
     exact Aw rfl ⟨_,⟨hp33,hT55,rfl⟩,WkY.f1⟩
   rintro _ ⟨hp56,hT57,rfl⟩;refine BW (b:=j43) kr (fun hb58=>?_) (fun hb58=>?_)
   ·rw [if_pos hb58] at h
    refine BJ AC [(6,.e0),(7,.v (.int .i64 4))] ?_;refine SemY.ret ?_;have hq:=OI h; subst hq
    have hT60:=hT57.drop.drop.drop
    exact ⟨rfl,_,⟨hp56,hT60,rfl⟩,WkY.f1⟩
   ·rw [Cg hb58] at h
    refine SemY.skip ?_;refine AK ?_;refine AK ?_;refine IC 8 AC.mixed kr kr ?_;refine RunDT.q (x:= .sl 1 (c24.map cdS.enc)) rfl kr rfl (AA rfl) rfl (CR (p:=e1) kr (DQ (y:= .sl 1 (c24.map cdS.enc)) (m:=1) (g:=false) hT57 kr kr kr)) (FK hT57 kr) ?_
    have hT61:=(hT57.front 2 rfl)
    refine RunDT.q (x:= .v (.int .i64 c23)) rfl kr rfl (AA rfl) rfl (CR (p:=e29) kr (DQ (y:= .v (.int .i64 c23)) (m:=1) (g:=false) hT61 kr kr kr)) (FK (hT57.front 2 rfl) kr) ?_;by_cases hk62:(DK 0 c23 c24.length)=true
    case neg=>rw [if_neg hk62] at h; cases h
    rw [if_pos hk62] at h;refine RunDT.q (x:= .sl 1 (((c24.take c23.toNat).drop (0:Int).toNat).map cdS.enc)) rfl kr rfl (AA rfl) rfl (EE (a:= .sl 1 (c24.map cdS.enc)) (l:=none) (u:=(some (.v (.int .i64 c23)))) (m:=none) kr kr kr rfl (K0 (xs:=c24) (e:=cdS.enc) (k:=1) (el:=9) (lo:=0) (hi:=c23) kr kr rfl (GR (JP hk62)) hk62)) kr ?_
    have hT63:=(hT61.front 1 rfl)
    refine RunDT.q (x:= .sl 1 (c24.map cdS.enc)) rfl kr rfl (AA rfl) rfl (CR (p:=e1) kr (DQ (y:= .sl 1 (c24.map cdS.enc)) (m:=1) (g:=false) hT63 kr kr kr)) (FK hT57 kr) ?_
    have hT64:=(hT63.front 1 rfl)
    refine RunDT.q (x:= .v (.int .i64 c23)) rfl kr rfl (AA rfl) rfl (CR (p:=e29) kr (DQ (y:= .v (.int .i64 c23)) (m:=1) (g:=false) hT64 kr kr kr)) (FK (hT57.front 2 rfl) kr) ?_;obtain ⟨v65,hv65,h⟩:=OB h;refine RunDT.q (x:= .pe (.st v65) 0) rfl kr rfl (AA rfl) rfl (AQ (a:= .sl 1 (c24.map cdS.enc)) (b:= .v (.int .i64 c23)) kr kr (GS (e:=cdS.enc) (el:=9) (k:=1) (ki:= .i64) kr kr hv65)) kr ?_;refine RunDT.q (x:= .st v65) rfl kr rfl (AA rfl) rfl kr kr ?_;obtain ⟨v66,hv66,h⟩:=OB h;refine G9 (v:=v66) (caps:=[]) (xs:=[.sl 1 (((c24.take c23.toNat).drop (0:Int).toNat).map cdS.enc),.st v65]) (u:=(((c24.take c23.toNat).drop (0:Int).toNat),v65,())) rfl rfl Ba rfl (AA rfl) kr kr (A2 (CG (c:=(cdL 1 cdS)) (v:=((c24.take c23.toNat).drop (0:Int).toNat))) (A2 (CG (c:=cdS) (v:=v65)) SeesD.nil)) kr hv66 ?_;refine RunDT.done rfl (SemY.fr (l':=[(2,.sl 9 (x2.map AH.enc)),(4,e1),(8,e25),(9,e29),(10,.sl 5 (v28.map AB.enc)),(39,.sl 1 (x0.map (cdL 5 AB).enc)),(40,.v (.int .i64 (x0.length:Int))),(41,.v (.int .i64 c23)),(66,.v (.bool v66))]) kr ?_);refine BW (b:=v66) kr (fun hb67=>?_) (fun hb67=>?_)
    ·rw [if_pos hb67] at h
     refine BJ AC [(6,.e0),(7,.v (.int .i64 5))] ?_;refine SemY.ret ?_;have hq:=OI h; subst hq
     have hT68:=hT64.drop.drop.drop
     exact ⟨rfl,_,⟨hp56,hT68,rfl⟩,WkY.f1⟩
    ·rw [Cg hb67] at h
     refine SemY.skip ?_;refine AK ?_;refine AK ?_;refine AI ?_;refine AX AC 1 ?_;obtain ⟨v69,hv69,h⟩:=OB h;refine Eg (v:=v69) (caps:=[]) (xs:=[.sl 5 (v28.map AB.enc)]) (u:=(v28,())) rfl rfl MD rfl (AA rfl) kr kr (A2 (CG (c:=(cdL 5 AB)) (v:=v28)) SeesD.nil) (.inl kr) hv69 ?_;refine BK AC [(2,.sl 9 (x2.map AH.enc)),(4,e1),(8,e25),(9,e29),(10,.sl 5 (v28.map AB.enc)),(12,.v (.int .i64 v69.2)),(39,.sl 1 (x0.map (cdL 5 AB).enc)),(40,.v (.int .i64 (x0.length:Int))),(41,.v (.int .i64 c23))] ?_;refine BJ AC [(2,.sl 9 (x2.map AH.enc)),(4,e1),(8,e25),(9,e29),(10,.sl 5 (v28.map AB.enc)),(12,.v (.int .i64 v69.2)),(39,.sl 1 (x0.map (cdL 5 AB).enc)),(40,.v (.int .i64 (x0.length:Int))),(41,.v (.int .i64 c23)),(73,.v (.bool (v69.2 != 0)))] ?_;refine BW (b:=(v69.2 != 0)) kr (fun hb70=>?_) (fun hb70=>?_)
     ·rw [if_pos hb70] at h
      refine BJ AC [(6,.e0),(7,.v (.int .i64 v69.2))] ?_;refine SemY.ret ?_;have hq:=OI h; subst hq
      have hT71:=hT64.drop.drop.drop
      exact ⟨rfl,_,⟨hp56,hT71,rfl⟩,WkY.f1⟩
     ·rw [Cg hb70] at h
      refine SemY.skip ?_;refine AK ?_;refine AI ?_;refine AX AC 1 ?_;obtain ⟨v72,hv72,h⟩:=OB h;refine Eg (v:=v72) (caps:=[]) (xs:=[.sl 5 (v28.map AB.enc)]) (u:=(v28,())) rfl rfl LH rfl (AA rfl) kr kr (A2 (CG (c:=(cdL 5 AB)) (v:=v28)) SeesD.nil) (.inr ⟨by kernel_rfl,Gk.de (v28,())⟩) hv72 ?_;refine BK AC [(2,.sl 9 (x2.map AH.enc)),(4,e1),(8,e25),(9,e29),(13,.sl 1 (v72.1.map Bq.enc)),(39,.sl 1 (x0.map (cdL 5 AB).enc)),(40,.v (.int .i64 (x0.length:Int))),(41,.v (.int .i64 c23))] ?_;refine AK ?_;refine AI ?_;refine AX AC 1 ?_;obtain ⟨v73,hv73,h⟩:=OB h;refine HN (E:=E0) (e:=E0) rfl rfl AC rfl rfl (fid:=79) (caps:=[]) (xs:=[.sl 9 (x2.map AH.enc)]) (fn:=Tryz.f79) (c:=IL) (Out:=fun v h'=>∃ (z0:AV),v=z0/\T h' ((own_ (ocL 10 115 (ocV AD)) z0 v73)::(cel e29 1 3 (.v (.int .i64 c23)))::(cel e1 1 40 (.sl 1 (c24.map cdS.enc)))::(own_ (ocL 1 48 (ocV (cdL 1 cdI))) e25 c26)::L)) rfl (AA rfl) kr kr kr kr (by show 1<=21; decide) (M6 x2 _ hv73 hT64) ?_;rintro xx hp75 ⟨e74,hqhp75,hT76⟩; subst xx;refine AX AC 1 ?_;obtain ⟨v78,hv78,h⟩:=OB h
      have hT77:=(((hT76.front 1 rfl).front 2 rfl).front 2 rfl)
      refine HN (E:=E0) (e:=E0) rfl rfl AC rfl rfl (fid:=98) (caps:=[]) (xs:=[e74,.fn 99 [] [e1,e29]]) (fn:=Tryz.f98) (c:=BL) (Out:=fun v h'=>∃ (z0:AV),v=z0/\T h' ((cel e1 1 40 (.sl 1 (v78.1.map cdS.enc)))::(cel e29 1 3 (.v (.int .i64 v78.2.1)))::(own_ (ocL 10 115 (ocV AD)) z0 v78.2.2)::(own_ (ocL 1 48 (ocV (cdL 1 cdI))) e25 c26)::L)) rfl (AA rfl) kr kr kr kr (by show 2<=42; decide) (EF e74 v73 e1 c24 e29 c23 _ hv78 hT77) ?_;rintro xx hp80 ⟨e79,hqhp80,hT81⟩; subst xx;refine BK AC [(2,.sl 9 (x2.map AH.enc)),(4,e1),(8,e25),(13,.sl 1 (v72.1.map Bq.enc)),(15,e79),(39,.sl 1 (x0.map (cdL 5 AB).enc)),(40,.v (.int .i64 (x0.length:Int))),(41,.v (.int .i64 c23))] ?_;refine AK ?_;refine AI ?_;refine AX AC 2 ?_
      have hT82:=(hT81.front 2 rfl)
      obtain ⟨hp83,hw84,hT85⟩:=HL (E:=E0) (n:=141) (l:=[(2,.sl 9 (x2.map AH.enc)),(4,e1),(8,e25),(39,.sl 1 (x0.map (cdL 5 AB).enc)),(40,.v (.int .i64 (x0.length:Int))),(41,.v (.int .i64 c23)),(85,.sl 1 (v72.1.map Bq.enc)),(86,e79)]) (l':=[(2,.sl 9 (x2.map AH.enc)),(4,e1),(8,e25),(39,.sl 1 (x0.map (cdL 5 AB).enc)),(40,.v (.int .i64 (x0.length:Int))),(41,.v (.int .i64 c23)),(85,.sl 1 (v72.1.map Bq.enc)),(86,.sl 10 (v78.2.2.map AD.enc))]) hT82 ⟨⟨.sl 9 (x2.map AH.enc),kr,FzU.refl⟩,⟨e1,kr,FzU.refl⟩,⟨e25,kr,FzU.refl⟩,⟨.sl 1 (x0.map (cdL 5 AB).enc),kr,FzU.refl⟩,⟨.v (.int .i64 (x0.length:Int)),kr,FzU.refl⟩,⟨.v (.int .i64 c23),kr,FzU.refl⟩,⟨.sl 1 (v72.1.map Bq.enc),kr,FzU.refl⟩,⟨e79,kr,F7⟩,trivial⟩;refine MG (WkY.trans WkY.f1 hw84) ?_;obtain ⟨v86,hv86,h⟩:=OB h;refine Eg (v:=v86) (caps:=[]) (xs:=[.sl 1 (v72.1.map Bq.enc),.sl 10 (v78.2.2.map AD.enc)]) (u:=(v72.1,v78.2.2,())) rfl rfl PA rfl (AA rfl) kr kr (A2 (CG (c:=(cdL 1 Bq)) (v:=v72.1)) (A2 (CG (c:=(cdL 10 AD)) (v:=v78.2.2)) SeesD.nil)) (.inr ⟨by kernel_rfl,IV.de (v72.1,v78.2.2,())⟩) hv86 ?_;obtain ⟨v87,hv87,h⟩:=OB h;refine Eg (v:=v87) (caps:=[]) (xs:=[.sl 1 (v86.map (cdL 1 cdI).enc)]) (u:=(v86,())) rfl rfl Q8 rfl (AA rfl) kr kr (A2 (CG (c:=(cdL 1 (cdL 1 cdI))) (v:=v86)) SeesD.nil) (.inr ⟨by kernel_rfl,Jc.de (v86,())⟩) hv87 ?_;refine BK AC [(2,.sl 9 (x2.map AH.enc)),(4,e1),(8,e25),(16,.sl 1 (v87.1.map cdI.enc)),(17,.v (.int .i64 v87.2)),(39,.sl 1 (x0.map (cdL 5 AB).enc)),(40,.v (.int .i64 (x0.length:Int))),(41,.v (.int .i64 c23))] ?_;refine AK ?_;refine BJ AC [(2,.sl 9 (x2.map AH.enc)),(4,e1),(8,e25),(16,.sl 1 (v87.1.map cdI.enc)),(17,.v (.int .i64 v87.2)),(39,.sl 1 (x0.map (cdL 5 AB).enc)),(40,.v (.int .i64 (x0.length:Int))),(41,.v (.int .i64 c23)),(92,.v (.bool (v87.2 != 0)))] ?_;refine BW (b:=(v87.2 != 0)) kr (fun hb88=>?_) (fun hb88=>?_)
      ·rw [if_pos hb88] at h
       refine BJ AC [(6,.e0),(7,.v (.int .i64 v87.2))] ?_;refine SemY.ret ?_;have hq:=OI h; subst hq
       have hT89:=hT85.drop.drop.drop
       exact ⟨rfl,_,⟨hp83,hT89,rfl⟩,WkY.f1⟩
      ·rw [Cg hb88] at h
       refine SemY.skip ?_;refine AI ?_;refine AX AC 2 ?_;obtain ⟨e93,hp90,hb91,hT92⟩:=HM (P:=Tryz.prog) (bytes:=24) (k:=1) (t:=48) (ty:=46) (xs:=([v87.1]:List (List Int))) (n:=1) (Pp (k:=1) (fun _=>⟨rfl,rfl,rfl⟩)) (GB (c:=(cdL 1 cdI)) (xs:=([v87.1]:List (List Int))) hT85) rfl kr kr kr;refine AM AC 0 rfl (PN (AA rfl) rfl kr (O1 (xs:=K5 0 [.sl 1 (v87.1.map cdI.enc)]) kr hb91)) ?_;by_cases hk98:(Dj 24 (c26.length + ([v87.1]:List (List Int)).length))=true
       case neg=>rw [if_neg hk98] at h; cases h
       rw [if_pos hk98] at h
       have hT99:=((hT92.front 0 rfl).front 3 rfl)
       obtain ⟨e97,hp94,hb95,hT96⟩:=H9 (P:=Tryz.prog) (ty:=46) (ty2:=46) (bytes:=24) hT99 kr kr hk98;refine AM AC 0 rfl (Q9 (AA rfl) rfl kr kr (FE (a:=e25) (b:=e93) kr kr hb95)) ?_;refine BK AC [(2,.sl 9 (x2.map AH.enc)),(4,e1),(8,e97),(39,.sl 1 (x0.map (cdL 5 AB).enc)),(40,.v (.int .i64 (x0.length:Int))),(41,.v (.int .i64 c23))] ?_;refine AI ?_;refine AX AC 2 ?_;refine Aw rfl ?_
       have hT100:=((hT96.front 2 rfl).drop.front 1 rfl)
       exact Br WkY.f1 (ih0 (wr .i64 (c23 + 1)) v78.1 (c26++([v87.1]:List (List Int))) _ h e97 hp94 hT100)
  ·rw [Cg hb27] at h
   refine SemY.exit ?_;have hq:=OI h; subst hq;exact ⟨rfl,_,⟨e25,hp,hT,rfl⟩,WkY.f1⟩
theorem KM {L:List Asn}{hp:Hp}(c112:Int) (c119:(List Int)) (v121:(List Int)) (x2:(List Aq)) (e1:AV) (e108:AV) (w107:(List (List UInt8))×(List (List Int))) (c117:Int) (e118:AV) (r:((List Int))) (h:EJ c112 c119 v121=some r) (hT:T hp ((own_ (ocL 1 48 (ocV (cdL 1 cdI))) e108 w107.2)::(cel e1 1 40 (.sl 1 (w107.1.map cdS.enc)))::(own_ (ocL 1 3 (ocV cdI)) e118 c119)::L)):SemY E0 ⟨none,false⟩ (pc Cl [1,1,1,1,1,0,1,0,0,1,1,0,0,1,1,0,0,1,1,0,0,1,1]) ⟨Fr 141 [(2,.sl 9 (x2.map AH.enc)),(4,e1),(8,e108),(18,e118),(19,.v (.int .i64 c112)),(21,.sl 1 (v121.map cdI.enc)),(100,.v (.int .i64 (x2.length:Int))),(101,.v (.int .i64 c112)),(104,e108),(105,.v (.int .i64 (w107.2.length:Int))),(106,.v (.int .i64 c117)),(113,.v (.bool (decide (c112 < (v121.length:Int)))))],hp⟩ (fun e s=>e = .normal/\∃ s2,(∃ (e135:AV) (h':Hp),T h' ((cel e1 1 40 (.sl 1 (w107.1.map cdS.enc)))::(own_ (ocL 1 48 (ocV (cdL 1 cdI))) e108 w107.2)::(own_ (ocL 1 3 (ocV cdI)) e135 r)::L)/\s2=⟨Fr 141 [(2,.sl 9 (x2.map AH.enc)),(4,e1),(8,e108),(18,e135),(19,.v (.int .i64 c112)),(100,.v (.int .i64 (x2.length:Int))),(101,.v (.int .i64 c112)),(104,e108),(105,.v (.int .i64 (w107.2.length:Int))),(106,.v (.int .i64 c117))],h'⟩)/\WkY E0 s s2):=by
 unfold EJ at h;refine BW (b:=(decide (c112 < (v121.length:Int)))) kr (fun hb123=>?_) (fun hb123=>?_)
 ·rw [if_pos hb123] at h
  refine AI ?_;refine AX AC 3 ?_;obtain ⟨v124,hv124,h⟩:=OB h;refine AM AC 0 rfl (Cw (AA rfl) rfl (AQ (a:= .sl 1 (v121.map cdI.enc)) (b:= .v (.int .i64 c112)) kr kr (GS (e:=cdI.enc) (el:=3) (k:=1) (ki:= .i64) kr kr hv124))) ?_;refine AX AC 1 ?_;obtain ⟨e128,hp125,hb126,hT127⟩:=HM (P:=Tryz.prog) (bytes:=8) (k:=1) (t:=3) (ty:=48) (xs:=([v124]:List Int)) (n:=1) (Pp (k:=1) (fun _=>⟨rfl,rfl,rfl⟩)) (GB (c:=cdI) (xs:=([v124]:List Int)) hT) rfl kr kr kr;refine AM AC 0 rfl (PN (AA rfl) rfl kr (O1 (xs:=K5 0 [.v (.int .i64 v124)]) kr hb126)) ?_;by_cases hk133:(Dj 8 (c119.length + ([v124]:List Int).length))=true
  case neg=>rw [if_neg hk133] at h; cases h
  rw [if_pos hk133] at h
  have hT134:=((hT127.front 0 rfl).front 3 rfl)
  obtain ⟨e132,hp129,hb130,hT131⟩:=H9 (P:=Tryz.prog) (ty:=48) (ty2:=48) (bytes:=8) hT134 kr kr hk133;refine AM AC 0 rfl (Q9 (AA rfl) rfl kr kr (FE (a:=e118) (b:=e128) kr kr hb130)) ?_;refine AX AC 1 ?_;refine Aw rfl ?_;have hq:=OI h; subst hq
  have hT137:=((hT131.front 1 rfl).front 2 rfl)
  exact ⟨rfl,_,⟨e132,hp129,hT137,rfl⟩,WkY.f1⟩
 ·rw [Cg hb123] at h
  refine SemY.skip ?_;have hq:=OI h; subst hq
  have hT138:=(((hT.front 2 rfl).front 1 rfl).front 2 rfl)
  exact ⟨rfl,_,⟨e118,hp,hT138,rfl⟩,WkY.f1⟩
theorem KP {L:List Asn}(w107:(List (List UInt8))×(List (List Int))) (c112:Int) (x2:(List Aq)) (e1:AV) (e108:AV):∀ (f:Nat) (c117:Int) (c119:(List Int)) (r:((List Int))),Bc w107 c112 f c117 c119=some r->∀ (e118:AV) (hp:Hp),T hp ((cel e1 1 40 (.sl 1 (w107.1.map cdS.enc)))::(own_ (ocL 1 48 (ocV (cdL 1 cdI))) e108 w107.2)::(own_ (ocL 1 3 (ocV cdI)) e118 c119)::L)->SemYN E0 ⟨none,false⟩ (pc Cl [1,1,1,1,1,0,1,0,0,1,1,0,0,1,1,0,0]) f ⟨Fr 141 [(2,.sl 9 (x2.map AH.enc)),(4,e1),(8,e108),(18,e118),(19,.v (.int .i64 c112)),(100,.v (.int .i64 (x2.length:Int))),(101,.v (.int .i64 c112)),(104,e108),(105,.v (.int .i64 (w107.2.length:Int))),(106,.v (.int .i64 c117))],hp⟩ (fun e s=>e=(.exit 5)/\∃ s2,(∃ (e143:AV) (h':Hp),T h' ((cel e1 1 40 (.sl 1 (w107.1.map cdS.enc)))::(own_ (ocL 1 48 (ocV (cdL 1 cdI))) e108 w107.2)::(own_ (ocL 1 3 (ocV cdI)) e143 r)::L)/\s2=⟨Fr 141 [(2,.sl 9 (x2.map AH.enc)),(4,e1),(8,e108),(18,e143),(100,.v (.int .i64 (x2.length:Int))),(101,.v (.int .i64 c112))],h'⟩)/\WkY E0 s s2):=by
 intro f;induction f with
 | zero=>intro c117 c119 r h; cases h
 | succ f ih0 =>
  intro c117 c119 r h e118 hp hT;unfold Bc at h;refine C5 ?_
  let p1:Nat×AV:=(106,.v (.int .i64 c117))
  let p2:Nat×AV:=(105,.v (.int .i64 (w107.2.length:Int)))
  let p3:Nat×AV:=(101,.v (.int .i64 c112))
  let p4:Nat×AV:=(100,.v (.int .i64 (x2.length:Int)))
  let p5:Nat×AV:=(19,.v (.int .i64 c112))
  let p6:Nat×AV:=(2,.sl 9 (x2.map AH.enc))
  refine BJ AC [p6,(4,e1),(8,e108),(18,e118),p5,p4,p3,(104,e108),p2,p1,(107,.v (.bool (decide (c117 < (w107.2.length:Int)))))] ?_;refine AK ?_;refine BW (b:=(decide (c117 < (w107.2.length:Int)))) kr (fun hb120=>?_) (fun hb120=>?_)
  ·rw [if_pos hb120] at h
   refine SemY.skip ?_;refine AK ?_;refine BI ?_;refine AK ?_;refine AI ?_;obtain ⟨v121,hv121,h⟩:=OB h
   have hT122:=(hT.front 1 rfl)
   refine AM AC 0 rfl (Cw (AA rfl) rfl (AQ (a:=e108) (b:= .v (.int .i64 c117)) kr kr (MZ (bytes:=24) hT122 kr hv121))) ?_;refine AM AC 0 rfl (Cw (AA rfl) rfl (CR (p:=eAt e108 c117.toNat) kr (FR (y:= .sl 1 (v121.map cdI.enc)) (m:=1) (g:=false) hT122 (Cv hv121).2 kr kr kr))) ?_;refine BK AC [p6,(4,e1),(8,e108),(18,e118),p5,(21,.sl 1 (v121.map cdI.enc)),p4,p3,(104,e108),p2,p1] ?_;refine AK ?_;refine AI ?_;refine AX AC 2 ?_;refine AM AC 0 rfl (Cw (AA rfl) rfl (Ed (a:= .sl 1 (v121.map cdI.enc)) kr (DC (el:=3) kr))) ?_;refine BK AC [p6,(4,e1),(8,e108),(18,e118),p5,(21,.sl 1 (v121.map cdI.enc)),p4,p3,(104,e108),p2,p1,(113,.v (.bool (decide (c112 < (v121.length:Int)))))] ?_;obtain ⟨r139,hr139,h⟩:=OB h;refine JJ (KM c112 c119 v121 x2 e1 e108 w107 c117 e118 _ hr139 hT122) ?_;rintro _ ⟨e140,hp141,hT142,rfl⟩;refine AI ?_;refine AX AC 2 ?_;refine Aw rfl ?_;exact Br WkY.f1 (ih0 (wr .i64 (c117 + 1)) r139 _ h e140 hp141 hT142)
  ·rw [Cg hb120] at h
   refine SemY.exit ?_;have hq:=OI h; subst hq;exact ⟨rfl,_,⟨e118,hp,hT,rfl⟩,WkY.f1⟩
theorem KO {L:List Asn}(x2:(List Aq)) (w107:(List (List UInt8))×(List (List Int))) (e1:AV) (e108:AV):∀ (f:Nat) (c112:Int) (c114:(List Int)) (r:((List Int))),Bb x2 w107 f c112 c114=some r->∀ (e113:AV) (hp:Hp),T hp ((cel e1 1 40 (.sl 1 (w107.1.map cdS.enc)))::(own_ (ocL 1 48 (ocV (cdL 1 cdI))) e108 w107.2)::(own_ (ocL 1 3 (ocV cdI)) e113 c114)::L)->SemYN E0 ⟨none,false⟩ (pc Cl [1,1,1,1,1,0,1,0,0]) f ⟨Fr 141 [(2,.sl 9 (x2.map AH.enc)),(4,e1),(8,e108),(18,e113),(100,.v (.int .i64 (x2.length:Int))),(101,.v (.int .i64 c112))],hp⟩ (fun e s=>e=(.exit 3)/\∃ s2,(∃ (e150:AV) (h':Hp),T h' ((cel e1 1 40 (.sl 1 (w107.1.map cdS.enc)))::(own_ (ocL 1 3 (ocV cdI)) e150 r)::L)/\s2=⟨Fr 141 [(2,.sl 9 (x2.map AH.enc)),(4,e1),(18,e150)],h'⟩)/\WkY E0 s s2):=by
 intro f;induction f with
 | zero=>intro c112 c114 r h; cases h
 | succ f ih0 =>
  intro c112 c114 r h e113 hp hT;unfold Bb at h;refine C5 ?_
  let p1:Nat×AV:=(101,.v (.int .i64 c112))
  let p2:Nat×AV:=(100,.v (.int .i64 (x2.length:Int)))
  let p3:Nat×AV:=(2,.sl 9 (x2.map AH.enc))
  refine BJ AC [p3,(4,e1),(8,e108),(18,e113),p2,p1,(102,.v (.bool (decide (c112 < (x2.length:Int)))))] ?_;refine AK ?_;refine BW (b:=(decide (c112 < (x2.length:Int)))) kr (fun hb115=>?_) (fun hb115=>?_)
  ·rw [if_pos hb115] at h
   refine SemY.skip ?_;refine AK ?_;refine BI ?_;refine BJ AC [p3,(4,e1),(8,e108),(18,e113),(19,.v (.int .i64 c112)),p2,p1] ?_;refine AK ?_;refine AI ?_;refine AX AC 1 ?_
   have hT116:=(hT.front 1 rfl)
   refine AM AC 0 rfl (Cw (AA rfl) rfl (Ed (a:=e108) kr (S4 hT116 kr))) ?_;refine BK AC [p3,(4,e1),(8,e108),(18,e113),(19,.v (.int .i64 c112)),p2,p1,(104,e108),(105,.v (.int .i64 (w107.2.length:Int))),(106,.v (.int .i64 0))] ?_;refine BI ?_
   have hT145:=(((hT116.front 2 rfl).front 1 rfl).front 2 rfl)
   refine SemY.loop (n:=100000) ?_;obtain ⟨r146,hr146,h⟩:=OB h;refine CP (Br WkY.f1 (KP w107 c112 x2 e1 e108 _ 0 c114 _ hr146 e113 hp hT145)) ?_;rintro _ ⟨e147,hp148,hT149,rfl⟩;refine AI ?_;refine AX AC 2 ?_;refine Aw rfl ?_;exact Br WkY.f1 (ih0 (wr .i64 (c112 + 1)) r146 _ h e147 hp148 hT149)
  ·rw [Cg hb115] at h
   refine SemY.exit ?_;have hq:=OI h; subst hq
   have hT152:=(hT.front 1 rfl).drop
   exact ⟨rfl,_,⟨e113,hp,hT152,rfl⟩,WkY.f1⟩
theorem KN {L:List Asn}{hp:Hp}(c158:Int) (c160:(List Int)) (v172:Bool) (x2:(List Aq)) (e1:AV) (w107:(List (List UInt8))×(List (List Int))) (e159:AV) (v162:Aq) (e163:AV) (r:((List Int))) (h:EK c158 c160 v172=some r) (hT:T hp ((cel e163 9 42 (AH.enc v162))::(cel e1 1 40 (.sl 1 (w107.1.map cdS.enc)))::(own_ (ocL 1 3 (ocV cdI)) e159 c160)::L)):SemY E0 ⟨none,false⟩ (pc Cl [1,1,1,1,1,1,0,1,0,0,1,1,0,0,1,1]) ⟨Fr 141 [(4,e1),(18,e159),(22,.v (.int .i64 c158)),(123,.sl 9 (x2.map AH.enc)),(124,.v (.int .i64 (x2.length:Int))),(125,.v (.int .i64 c158)),(134,.v (.bool (!v172)))],hp⟩ (fun e s=>e = .normal/\∃ s2,(∃ (e184:AV) (h':Hp),T h' ((cel e1 1 40 (.sl 1 (w107.1.map cdS.enc)))::(own_ (ocL 1 3 (ocV cdI)) e184 r)::L)/\s2=⟨Fr 141 [(4,e1),(18,e184),(123,.sl 9 (x2.map AH.enc)),(124,.v (.int .i64 (x2.length:Int))),(125,.v (.int .i64 c158))],h'⟩)/\WkY E0 s s2):=by
 unfold EK at h;refine BW (b:=(!v172)) kr (fun hb173=>?_) (fun hb173=>?_)
 ·rw [if_pos hb173] at h
  refine AI ?_;refine AX AC 2 ?_;obtain ⟨e177,hp174,hb175,hT176⟩:=HM (P:=Tryz.prog) (bytes:=8) (k:=1) (t:=3) (ty:=48) (xs:=([c158]:List Int)) (n:=1) (Pp (k:=1) (fun _=>⟨rfl,rfl,rfl⟩)) (GB (c:=cdI) (xs:=([c158]:List Int)) hT) rfl kr kr kr;refine AM AC 0 rfl (PN (AA rfl) rfl kr (O1 (xs:=K5 0 [.v (.int .i64 c158)]) kr hb175)) ?_;by_cases hk182:(Dj 8 (c160.length + ([c158]:List Int).length))=true
  case neg=>rw [if_neg hk182] at h; cases h
  rw [if_pos hk182] at h
  have hT183:=((hT176.front 0 rfl).front 3 rfl)
  obtain ⟨e181,hp178,hb179,hT180⟩:=H9 (P:=Tryz.prog) (ty:=48) (ty2:=48) (bytes:=8) hT183 kr kr hk182;refine AM AC 0 rfl (Q9 (AA rfl) rfl kr kr (FE (a:=e159) (b:=e177) kr kr hb179)) ?_;refine AX AC 1 ?_;refine Aw rfl ?_;have hq:=OI h; subst hq
  have hT186:=((hT180.front 1 rfl).drop.front 1 rfl)
  exact ⟨rfl,_,⟨e181,hp178,hT186,rfl⟩,WkY.f1⟩
 ·rw [Cg hb173] at h
  refine SemY.skip ?_;have hq:=OI h; subst hq
  have hT187:=hT.drop
  exact ⟨rfl,_,⟨e159,hp,hT187,rfl⟩,WkY.f1⟩
theorem KQ {L:List Asn}(x2:(List Aq)) (w107:(List (List UInt8))×(List (List Int))) (e1:AV):∀ (f:Nat) (c158:Int) (c160:(List Int)) (r:((List Int))),Bd x2 w107 f c158 c160=some r->∀ (e159:AV) (hp:Hp),T hp ((cel e1 1 40 (.sl 1 (w107.1.map cdS.enc)))::(own_ (ocL 1 3 (ocV cdI)) e159 c160)::L)->SemYN E0 ⟨none,false⟩ (pc Cl [1,1,1,1,1,1,0,1,0,0]) f ⟨Fr 141 [(4,e1),(18,e159),(123,.sl 9 (x2.map AH.enc)),(124,.v (.int .i64 (x2.length:Int))),(125,.v (.int .i64 c158))],hp⟩ (fun e s=>e=(.exit 7)/\∃ s2,(∃ (e192:AV) (h':Hp),T h' ((own_ (ocL 1 3 (ocV cdI)) e192 r)::L)/\s2=⟨Fr 141 [(18,e192)],h'⟩)/\WkY E0 s s2):=by
 intro f;induction f with
 | zero=>intro c158 c160 r h; cases h
 | succ f ih0 =>
  intro c158 c160 r h e159 hp hT;unfold Bd at h;refine C5 ?_
  let p1:Nat×AV:=(125,.v (.int .i64 c158))
  let p2:Nat×AV:=(124,.v (.int .i64 (x2.length:Int)))
  let p3:Nat×AV:=(123,.sl 9 (x2.map AH.enc))
  refine BJ AC [(4,e1),(18,e159),p3,p2,p1,(126,.v (.bool (decide (c158 < (x2.length:Int)))))] ?_;refine AK ?_;refine BW (b:=(decide (c158 < (x2.length:Int)))) kr (fun hb161=>?_) (fun hb161=>?_)
  ·rw [if_pos hb161] at h
   refine SemY.skip ?_;refine AK ?_;refine BI ?_;refine AK ?_;refine AI ?_;refine AX AC 1 ?_;obtain ⟨v162,hv162,h⟩:=OB h;refine AM AC 0 rfl (Cw (AA rfl) rfl (AQ (a:= .sl 9 (x2.map AH.enc)) (b:= .v (.int .i64 c158)) kr kr (GS (e:=AH.enc) (el:=42) (k:=9) (ki:= .i64) kr kr hv162))) ?_;refine AX AC 1 ?_;obtain ⟨e163,hp164,hb165,hT166⟩:=JY (t:=42) (a:= .ag [.st [],.st [],.st [],.v (.int .i64 0),.v (.int .i64 0),.st [],.v (.bool false),.v (.bool false),.e0]) hT kr;refine AM AC 0 rfl (PN (AA rfl) rfl kr (LV (z:= .ag [.st [],.st [],.st [],.v (.int .i64 0),.v (.int .i64 0),.st [],.v (.bool false),.v (.bool false),.e0]) kr hb165)) ?_;refine AX AC 1 ?_;obtain ⟨hp167,hs168,hT169⟩:=LZ (P:=Tryz.prog) (ty:=42) (y:=(AH.enc v162)) (a':=(AH.enc v162)) hT166 kr kr kr;refine RunL.store AC (y:=e163) (z:=(AH.enc v162)) rfl (AA rfl) kr kr hs168 ?_;refine Aw rfl (SemY.fr (l':=[(4,e1),(18,e159),(22,.v (.int .i64 c158)),(23,e163),p3,p2,p1]) kr ?_);refine AK ?_;refine AI ?_
   have hT170:=(hT169.front 1 rfl)
   refine AM AC 0 rfl (Cw (AA rfl) rfl (CR (p:=e1) kr (DQ (y:= .sl 1 (w107.1.map cdS.enc)) (m:=1) (g:=false) hT170 kr kr kr))) ?_
   have hT171:=(hT170.front 1 rfl)
   refine AM AC 0 rfl (Cw (AA rfl) rfl (Yp (a:=e163) kr (V3 (off:=2) hT171 kr))) ?_;refine AM AC 0 rfl (Cw (AA rfl) rfl (CR (p:=P1 e163 2) kr (T2 (off:=2) (y:= .st v162.2.2.1) (m:=1) (g:=false) hT171 kr kr kr))) ?_;obtain ⟨v172,hv172,h⟩:=OB h;refine Eg (v:=v172) (caps:=[]) (xs:=[.sl 1 (w107.1.map cdS.enc),.st v162.2.2.1]) (u:=(w107.1,v162.2.2.1,())) rfl rfl Ba rfl (AA rfl) kr kr (A2 (CG (c:=(cdL 1 cdS)) (v:=w107.1)) (A2 (CG (c:=cdS) (v:=v162.2.2.1)) SeesD.nil)) (.inl kr) hv172 ?_;refine BK AC [(4,e1),(18,e159),(22,.v (.int .i64 c158)),p3,p2,p1,(134,.v (.bool (!v172)))] ?_;obtain ⟨r188,hr188,h⟩:=OB h;refine JJ (KN c158 c160 v172 x2 e1 w107 e159 v162 e163 _ hr188 hT171) ?_;rintro _ ⟨e189,hp190,hT191,rfl⟩;refine AI ?_;refine AX AC 2 ?_;refine Aw rfl ?_;exact Br WkY.f1 (ih0 (wr .i64 (c158 + 1)) r188 _ h e189 hp190 hT191)
  ·rw [Cg hb161] at h
   refine SemY.exit ?_;have hq:=OI h; subst hq
   have hT194:=hT.drop
   exact ⟨rfl,_,⟨e159,hp,hT194,rfl⟩,WkY.f1⟩
theorem LL {L:List Asn}{hp:Hp}(x0:(List (List AE))) (x1:(List (List UInt8))) (x2:(List Aq)) (r:(List Int)×Int) (h:Dy x0 x1 x2=some r) (hT:T hp (L)):SemY E0 ⟨none,false⟩ Cl ⟨Fr 141 (BQ 0 [.sl 1 (x0.map (cdL 5 AB).enc),.sl 1 (x1.map cdS.enc),.sl 9 (x2.map AH.enc)]),hp⟩ fun x s'=>(x = .normal\/x = .ret)/\∃ ys,Es E0.P s'.fr s'.hp Tryz.f39.results.toList=some ys/\(fun v h'=>v = .tp [.sl 1 (r.1.map cdI.enc),.v (.int .i64 r.2)]/\T h' (L)) (FG ys) s'.hp:=by
 unfold Dy at h;refine HK (IJ (s1:=⟨Fr 141 [(0,.sl 1 (x0.map (cdL 5 AB).enc)),(1,.sl 1 (x1.map cdS.enc)),(2,.sl 9 (x2.map AH.enc))],hp⟩) WkY.f1 ?_);refine AK ?_;refine AI ?_;obtain ⟨e1,hp2,hb3,hT4⟩:=JY (t:=40) (a:= .sl 1 (x1.map cdS.enc)) hT kr;refine AM AC 0 rfl (PN (AA rfl) rfl kr (Yg (z:= .sl 1 (x1.map cdS.enc)) kr hb3)) ?_;refine BK AC [(0,.sl 1 (x0.map (cdL 5 AB).enc)),(2,.sl 9 (x2.map AH.enc)),(4,e1)] ?_;refine AK ?_;refine BI ?_;refine AK ?_;obtain ⟨j5,hj5,h⟩:=OB h;refine Le (A:=fun s1=>∃ (h':Hp),T h' ((cel e1 1 40 (.sl 1 (x1.map cdS.enc)))::L)/\s1=⟨Fr 141 [(0,.sl 1 (x0.map (cdL 5 AB).enc)),(2,.sl 9 (x2.map AH.enc)),(4,e1),(24,.v (.bool j5))],h'⟩) ?_ ?_
 ·refine AX AC 1 ?_
  refine AM AC 0 rfl (Cw (AA rfl) rfl (Ed (a:= .sl 1 (x0.map (cdL 5 AB).enc)) kr (DC (el:=22) kr))) ?_;refine II (n:=141) AC 2 [(0,.sl 1 (x0.map (cdL 5 AB).enc)),(2,.sl 9 (x2.map AH.enc)),(4,e1),(28,.v (.bool (decide ((x0.length:Int) > 16))))] hp2 kr ?_;rcases BE (decide ((x0.length:Int) > 16)) with hc209 | hc209
  ·rw [if_pos hc209] at hj5
   rw [hc209];refine AX AC 5 ?_;have hq:=OI hj5; subst hq;exact Aw rfl ⟨_,⟨hp2,hT4,rfl⟩,WkY.f1⟩
  ·rw [Cg hc209] at hj5
   rw [hc209];refine AX AC 1 ?_;refine AM AC 0 rfl (Cw kr rfl (Ed (a:= .sl 9 (x2.map AH.enc)) kr (DC (el:=42) kr))) ?_;refine AX AC 3 ?_;have hq:=OI hj5; subst hq;exact Aw rfl ⟨_,⟨hp2,hT4,rfl⟩,WkY.f1⟩
 rintro _ ⟨hp10,hT11,rfl⟩;refine BW (b:=j5) kr (fun hb12=>?_) (fun hb12=>?_)
 ·rw [if_pos hb12] at h
  refine BJ AC [(6,.e0),(7,.v (.int .i64 7))] ?_;refine SemY.ret ?_;have hq:=OI h; subst hq
  have hT13:=(T.e0 (k:=1) (ty:=3) (o:=(ocV cdI)) hT11)
  obtain ⟨hp14,hw15,hT16⟩:=HL (E:=E0) (n:=141) (l:=[(6,.e0),(7,.v (.int .i64 7))]) (l':=[(6,.sl 1 (([]:(List Int)).map cdI.enc)),(7,.v (.int .i64 7))]) hT13 ⟨⟨.e0,kr,F7⟩,⟨.v (.int .i64 7),kr,FzU.refl⟩,trivial⟩;exact ⟨⟨Fr 141 [(6,.sl 1 (([]:(List Int)).map cdI.enc)),(7,.v (.int .i64 7))],hp14⟩,(WkY.trans (WkY.trans WkY.f1 hw15) WkY.f1),.inr rfl,[.sl 1 (([]:(List Int)).map cdI.enc),.v (.int .i64 7)],kr,⟨rfl,hT16.drop⟩⟩
 ·rw [Cg hb12] at h
  refine AK ?_;refine AI ?_;refine AX AC 1 ?_;refine AM AC 0 rfl (Cw (AA rfl) rfl (Ed (a:= .sl 1 (x0.map (cdL 5 AB).enc)) kr (DC (el:=22) kr))) ?_;refine AM AC 0 rfl (Cw (AA rfl) rfl (CR (p:=e1) kr (DQ (y:= .sl 1 (x1.map cdS.enc)) (m:=1) (g:=false) hT11 kr kr kr))) ?_;refine AM AC 0 rfl (Cw (AA rfl) rfl (Ed (a:= .sl 1 (x1.map cdS.enc)) kr (DC (el:=9) kr))) ?_;refine BK AC [(0,.sl 1 (x0.map (cdL 5 AB).enc)),(2,.sl 9 (x2.map AH.enc)),(4,e1),(33,.v (.bool ((x0.length:Int)!=(x1.length:Int))))] ?_;refine BW (b:=((x0.length:Int)!=(x1.length:Int))) kr (fun hb17=>?_) (fun hb17=>?_)
  ·rw [if_pos hb17] at h
   refine BJ AC [(6,.e0),(7,.v (.int .i64 2))] ?_;refine SemY.ret ?_;have hq:=OI h; subst hq
   have hT18:=(T.e0 (k:=1) (ty:=3) (o:=(ocV cdI)) hT11)
   obtain ⟨hp19,hw20,hT21⟩:=HL (E:=E0) (n:=141) (l:=[(6,.e0),(7,.v (.int .i64 2))]) (l':=[(6,.sl 1 (([]:(List Int)).map cdI.enc)),(7,.v (.int .i64 2))]) hT18 ⟨⟨.e0,kr,F7⟩,⟨.v (.int .i64 2),kr,FzU.refl⟩,trivial⟩;exact ⟨⟨Fr 141 [(6,.sl 1 (([]:(List Int)).map cdI.enc)),(7,.v (.int .i64 2))],hp19⟩,(WkY.trans (WkY.trans WkY.f1 hw20) WkY.f1),.inr rfl,[.sl 1 (([]:(List Int)).map cdI.enc),.v (.int .i64 2)],kr,⟨rfl,hT21.drop⟩⟩
  ·rw [Cg hb17] at h
   refine SemY.skip ?_;refine BJ AC [(0,.sl 1 (x0.map (cdL 5 AB).enc)),(2,.sl 9 (x2.map AH.enc)),(4,e1),(8,.e0)] ?_;refine AK ?_;refine AK ?_;refine AI ?_;refine AX AC 1 ?_;refine AM AC 0 rfl (Cw (AA rfl) rfl (Ed (a:= .sl 1 (x0.map (cdL 5 AB).enc)) kr (DC (el:=22) kr))) ?_;refine BK AC [(2,.sl 9 (x2.map AH.enc)),(4,e1),(8,.e0),(39,.sl 1 (x0.map (cdL 5 AB).enc)),(40,.v (.int .i64 (x0.length:Int))),(41,.v (.int .i64 0))] ?_;refine BI ?_
   have hT22:=(T.e0 (k:=1) (ty:=48) (o:=(ocV (cdL 1 cdI))) hT11)
   have hT105:=(hT22.front 1 rfl)
   refine SemY.loop (n:=100000) ?_;obtain ⟨r106,hr106,h⟩:=OB h;rcases r106 with w107 | w202
   ·try dsimp only at h
    refine CP (Br WkY.f1 (HP x0 x2 e1 _ 0 x1 ([]:(List (List Int))) _ hr106 .e0 hp10 hT105)) ?_;rintro _ ⟨e108,hp109,hT110,rfl⟩;refine BJ AC [(2,.sl 9 (x2.map AH.enc)),(4,e1),(8,e108),(18,.e0)] ?_;refine AK ?_;refine AK ?_;refine AI ?_;refine AX AC 1 ?_;refine AM AC 0 rfl (Cw (AA rfl) rfl (Ed (a:= .sl 9 (x2.map AH.enc)) kr (DC (el:=42) kr))) ?_;refine BK AC [(2,.sl 9 (x2.map AH.enc)),(4,e1),(8,e108),(18,.e0),(100,.v (.int .i64 (x2.length:Int))),(101,.v (.int .i64 0))] ?_;refine BI ?_
    have hT111:=(T.e0 (k:=1) (ty:=3) (o:=(ocV cdI)) hT110)
    have hT153:=((hT111.front 2 rfl).front 2 rfl)
    refine SemY.loop (n:=100000) ?_;obtain ⟨r154,hr154,h⟩:=OB h;refine CP (Br WkY.f1 (KO x2 w107 e1 e108 _ 0 ([]:(List Int)) _ hr154 .e0 hp109 hT153)) ?_;rintro _ ⟨e155,hp156,hT157,rfl⟩;refine AK ?_;refine AK ?_;refine AI ?_;refine AX AC 1 ?_;refine AM AC 0 rfl (Cw (AA rfl) rfl (Ed (a:= .sl 9 (x2.map AH.enc)) kr (DC (el:=42) kr))) ?_;refine BK AC [(4,e1),(18,e155),(123,.sl 9 (x2.map AH.enc)),(124,.v (.int .i64 (x2.length:Int))),(125,.v (.int .i64 0))] ?_;refine BI ?_;refine SemY.loop (n:=100000) ?_;obtain ⟨r195,hr195,h⟩:=OB h;refine CP (Br WkY.f1 (KQ x2 w107 e1 _ 0 r154 _ hr195 e155 hp156 hT157)) ?_;rintro _ ⟨e196,hp197,hT198,rfl⟩;refine BJ AC [(6,e196),(7,.v (.int .i64 0))] ?_;refine SemY.ret ?_;have hq:=OI h; subst hq;obtain ⟨hp199,hw200,hT201⟩:=HL (E:=E0) (n:=141) (l:=[(6,e196),(7,.v (.int .i64 0))]) (l':=[(6,.sl 1 (r195.map cdI.enc)),(7,.v (.int .i64 0))]) hT198 ⟨⟨e196,kr,F7⟩,⟨.v (.int .i64 0),kr,FzU.refl⟩,trivial⟩;exact ⟨⟨Fr 141 [(6,.sl 1 (r195.map cdI.enc)),(7,.v (.int .i64 0))],hp199⟩,(WkY.trans (WkY.trans WkY.f1 hw200) WkY.f1),.inr rfl,[.sl 1 (r195.map cdI.enc),.v (.int .i64 0)],kr,⟨rfl,hT201⟩⟩
   ·try dsimp only at h
    refine CP (Br WkY.f1 (HP x0 x2 e1 _ 0 x1 ([]:(List (List Int))) _ hr106 .e0 hp10 hT105)) ?_;rintro _ ⟨hp203,hT204,rfl⟩;have hq:=OI h; subst hq
    have hT205:=(T.e0 (k:=1) (ty:=3) (o:=(ocV cdI)) hT204)
    obtain ⟨hp206,hw207,hT208⟩:=HL (E:=E0) (n:=141) (l:=[(6,.e0),(7,.v (.int .i64 w202))]) (l':=[(6,.sl 1 (([]:(List Int)).map cdI.enc)),(7,.v (.int .i64 w202))]) hT205 ⟨⟨.e0,kr,F7⟩,⟨.v (.int .i64 w202),kr,FzU.refl⟩,trivial⟩;exact ⟨⟨Fr 141 [(6,.sl 1 (([]:(List Int)).map cdI.enc)),(7,.v (.int .i64 w202))],hp206⟩,(WkY.trans (WkY.trans WkY.f1 hw207) WkY.f1),.inr rfl,[.sl 1 (([]:(List Int)).map cdI.enc),.v (.int .i64 w202)],kr,⟨rfl,hT208⟩⟩
noncomputable def Gh:Cs ((List (List AE))×(List (List UInt8))×(List Aq)×Unit):=(csC (cdL 1 (cdL 5 AB)) (csC (cdL 1 cdS) (csC (cdL 9 AH) csN)))
noncomputable def Iw (r:(List Int)×Int):AV:= .tp [(cdL 1 cdI).enc r.1,cdI.enc r.2]
noncomputable def Mp:List AV->Option AV:=Ee Gh (fun a=>Dy a.1 a.2.1 a.2.2.1) Iw
theorem Mv:XOk 39 Mp:=by
 refine Ad Tryz.func39 (c:=Cl) ?h2 ⟨Tryz.call39⟩ Gh (fun a=>Dy a.1 a.2.1 a.2.2.1) Iw (fun a=>(by show 3<=141; decide)) ?h3 ?h4
 case h2=>kernel_rfl
 case h3=>intro b; kernel_rfl
 case h4 =>
  intro a b h;refine Sem.mono (Pa (LL (L:=[]) (hp:=[]) a.1 a.2.1 a.2.2.1 b h T.nil)) fun e s' hs=>?_
  obtain ⟨h1,ys,h2,h3,-⟩:=hs;exact ⟨h1,ys,h2,h3⟩
/- trestle/court.Reason -/
noncomputable def KK:Code:=Bo Tryz.f21
def Fe (x0:(List AE)) (x1:Aq) (x2:Aq) (x3:Int) (x4:Int):Option (Int×Int) :=
 (EO x0).bind fun v1 =>
 if (!v1.2)=true then
 some (0,0)
 else
 (Ar v1.1 (x1,x3) (x2,x4)).bind fun v3 =>
 some (v3.1,v3.2)
noncomputable def IT:Cs ((List AE)×Aq×Aq×Int×Int×Unit):=(csC (cdL 5 AB) (csC AH (csC AH (csC cdI (csC cdI csN)))))
noncomputable def IX (r:Int×Int):AV:= .tp [cdI.enc r.1,cdI.enc r.2]
theorem M3 (x0:(List AE)) (x1:Aq) (x2:Aq) (x3:Int) (x4:Int) (r:Int×Int) (h:Fe x0 x1 x2 x3 x4=some r):Sem E0 ⟨none,false⟩ KK ⟨Fr 31 (BQ 0 (IT.enc (x0,x1,x2,x3,x4,()))),[]⟩ fun e s'=>(e = .normal\/e = .ret)/\∃ xs,Es E0.P s'.fr s'.hp Tryz.f21.results.toList=some xs/\FG xs=IX r:=by
 unfold Fe at h
 let p1:Nat×AV:=(4,.v (.int .i64 x4))
 let p2:Nat×AV:=(3,.v (.int .i64 x3))
 let p3:Nat×AV:=(0,.sl 5 (x0.map AB.enc))
 refine BV (CK (s1:=⟨Fr 31 [p3,(1,AH.enc x1),(2,AH.enc x2),p2,p1],[]⟩) AZ ?_)
 let p4:Option Blk:=some ⟨9,42,[AH.enc x2],false⟩
 let p5:Option Blk:=some ⟨9,42,[AH.enc x1],false⟩
 let p6:Nat×AV:=(7,.pt 1 0 0)
 let p7:Nat×AV:=(6,.pt 0 0 0)
 refine AP AC [p3,p2,p1,p7,p6] [p5,p4] ?_;refine AJ ?_;obtain ⟨v1,hv1,h⟩:=OB h
 let p8:Nat×AV:=(12,.sl 1 (v1.1.map Bq.enc))
 refine AS (s1:=⟨Fr 31 [p2,p1,p7,p6,p8,(13,.v (.bool v1.2))],[p5,p4]⟩) ?_ ?_
 ·refine AF (n:=31) AC 1 [p2,p1,p7,p6,(15,.sl 5 (x0.map AB.enc))] [p5,p4] kr ?_
  refine A1 (caps:=[]) (xs:=[.sl 5 (x0.map AB.enc)]) (u:=(x0,())) rfl rfl LH rfl (AA rfl) kr kr (AY (Ay (c:=(cdL 5 AB)) (v:=x0)) CB) (.inr kr) hv1 ?_;exact BH AC
 refine AJ ?_;refine AP AC [p2,p1,p7,p6,p8,(20,.v (.bool (!v1.2)))] [p5,p4] ?_;refine Ab (b:=(!v1.2)) kr (fun hb2=>?_) (fun hb2=>?_)
 ·rw [if_pos hb2] at h
  refine AJ ?_
  let p9:Nat×AV:=(11,.v (.int .i64 0))
  let p10:Nat×AV:=(10,.v (.int .i64 0))
  refine AS (s1:=⟨Fr 31 [p10,p9],[]⟩) ?_ ?_
  ·refine AF (n:=31) AC 2 [p10,p9] [p5,p4] kr ?_
   exact AR rfl (Az [] trivial ⟨lv,lv,trivial⟩)
  refine Ah ?_;have hq:=OI h; subst hq;exact ⟨⟨Fr 31 [p10,p9],[]⟩,AZ,.inr rfl,[.v (.int .i64 0),.v (.int .i64 0)],kr,kr⟩
 ·rw [Cg hb2] at h
  refine As ?_;refine AJ ?_;obtain ⟨v3,hv3,h⟩:=OB h
  let p11:Nat×AV:=(11,.v (.int .i64 v3.2))
  let p12:Nat×AV:=(10,.v (.int .i64 v3.1))
  refine AS (s1:=⟨Fr 31 [p12,p11],[]⟩) ?_ ?_
  ·refine AF (n:=31) AC 7 [(21,.sl 1 (v1.1.map Bq.enc)),(24,.ag [.st x1.1,.st x1.2.1,.st x1.2.2.1,.v (.int .i64 x1.2.2.2.1),.v (.int .i64 x1.2.2.2.2.1),.st x1.2.2.2.2.2.1,.v (.bool x1.2.2.2.2.2.2.1),.v (.bool x1.2.2.2.2.2.2.2.1),.sl 1 (x1.2.2.2.2.2.2.2.2.map cdS.enc),.v (.int .i64 x3)]),(27,.ag [.st x2.1,.st x2.2.1,.st x2.2.2.1,.v (.int .i64 x2.2.2.2.1),.v (.int .i64 x2.2.2.2.2.1),.st x2.2.2.2.2.2.1,.v (.bool x2.2.2.2.2.2.2.1),.v (.bool x2.2.2.2.2.2.2.2.1),.sl 1 (x2.2.2.2.2.2.2.2.2.map cdS.enc),.v (.int .i64 x4)])] [p5,p4] kr ?_
   refine A1 (caps:=[]) (xs:=[.sl 1 (v1.1.map Bq.enc),.ag [.st x1.1,.st x1.2.1,.st x1.2.2.1,.v (.int .i64 x1.2.2.2.1),.v (.int .i64 x1.2.2.2.2.1),.st x1.2.2.2.2.2.1,.v (.bool x1.2.2.2.2.2.2.1),.v (.bool x1.2.2.2.2.2.2.2.1),.sl 1 (x1.2.2.2.2.2.2.2.2.map cdS.enc),.v (.int .i64 x3)],.ag [.st x2.1,.st x2.2.1,.st x2.2.2.1,.v (.int .i64 x2.2.2.2.1),.v (.int .i64 x2.2.2.2.2.1),.st x2.2.2.2.2.2.1,.v (.bool x2.2.2.2.2.2.2.1),.v (.bool x2.2.2.2.2.2.2.2.1),.sl 1 (x2.2.2.2.2.2.2.2.2.map cdS.enc),.v (.int .i64 x4)]]) (u:=(v1.1,(x1,x3),(x2,x4),())) rfl rfl Da rfl (AA rfl) kr kr (AY (Ay (c:=(cdL 1 Bq)) (v:=v1.1)) (AY (Ay (c:=AD) (v:=(x1,x3))) (AY (Ay (c:=AD) (v:=(x2,x4))) CB))) (.inl kr) hv3 ?_;refine AF (n:=31) AC 4 [p12,p11] [p5,p4] kr ?_;exact AR rfl (Az [] trivial ⟨lv,lv,trivial⟩)
  refine Ah ?_;have hq:=OI h; subst hq;exact ⟨⟨Fr 31 [p12,p11],[]⟩,AZ,.inr rfl,[.v (.int .i64 v3.1),.v (.int .i64 v3.2)],kr,kr⟩
noncomputable def O2:List AV->Option AV:=Ee IT (fun a=>Fe a.1 a.2.1 a.2.2.1 a.2.2.2.1 a.2.2.2.2.1) IX
theorem O8:XOk 21 O2:=by
 refine Ad Tryz.func21 (c:=KK) ?h2 ⟨Tryz.call21⟩ IT (fun a=>Fe a.1 a.2.1 a.2.2.1 a.2.2.2.1 a.2.2.2.2.1) IX (fun a=>(by show 5<=31; decide)) ?h3 ?h4
 case h2=>kernel_rfl
 case h3=>intro b; kernel_rfl
 case h4=>exact fun a b h=>M3 a.1 a.2.1 a.2.2.1 a.2.2.2.1 a.2.2.2.2.1 b h
/- trestle/court.Compare -/
noncomputable def Jq:Code:=Bo Tryz.f22
def C1 (x0:(List AE)) (x1:Aq) (x2:Aq) (x3:Int) (x4:Int):Option (Int) :=
 (Fe x0 x1 x2 x3 x4).bind fun v1 =>
 some v1.2
def Hf:Cs ((List AE)×Aq×Aq×Int×Int×Unit):=(csC (cdL 5 AB) (csC AH (csC AH (csC cdI (csC cdI csN)))))
def Ht (r:Int):AV:=cdI.enc r
theorem MK (x0:(List AE)) (x1:Aq) (x2:Aq) (x3:Int) (x4:Int) (r:Int) (h:C1 x0 x1 x2 x3 x4=some r):Sem E0 ⟨none,false⟩ Jq ⟨Fr 23 (BQ 0 (Hf.enc (x0,x1,x2,x3,x4,()))),[]⟩ fun e s'=>(e = .normal\/e = .ret)/\∃ xs,Es E0.P s'.fr s'.hp Tryz.f22.results.toList=some xs/\FG xs=Ht r:=by
 unfold C1 at h
 let p1:Nat×AV:=(0,.sl 5 (x0.map AB.enc))
 refine BV (CK (s1:=⟨Fr 23 [p1,(1,AH.enc x1),(2,AH.enc x2),(3,.v (.int .i64 x3)),(4,.v (.int .i64 x4))],[]⟩) AZ ?_)
 let p2:Option Blk:=some ⟨9,42,[AH.enc x2],false⟩
 let p3:Option Blk:=some ⟨9,42,[AH.enc x1],false⟩
 refine AP AC [p1,(3,.v (.int .i64 x3)),(4,.v (.int .i64 x4)),(6,.pt 0 0 0),(7,.pt 1 0 0)] [p3,p2] ?_;refine AJ ?_;obtain ⟨v1,hv1,h⟩:=OB h;refine AS (s1:=⟨Fr 23 [(12,.v (.int .i64 v1.2))],[]⟩) ?_ ?_
 ·refine AF (n:=23) AC 5 [(14,.sl 5 (x0.map AB.enc)),(15,AH.enc x1),(16,AH.enc x2),(17,.v (.int .i64 x3)),(18,.v (.int .i64 x4))] [p3,p2] kr ?_
  refine A1 (caps:=[]) (xs:=[.sl 5 (x0.map AB.enc),AH.enc x1,AH.enc x2,.v (.int .i64 x3),.v (.int .i64 x4)]) (u:=(x0,x1,x2,x3,x4,())) rfl rfl O8 rfl (AA rfl) kr kr (AY (Ay (c:=(cdL 5 AB)) (v:=x0)) (AY (Ay (c:=AH) (v:=x1)) (AY (Ay (c:=AH) (v:=x2)) (AY (Ay (c:=cdI) (v:=x3)) (AY (Ay (c:=cdI) (v:=x4)) CB))))) (.inl kr) hv1 ?_;refine AF (n:=23) AC 5 [(12,.v (.int .i64 v1.2))] [p3,p2] kr ?_;exact AR rfl (Az [] trivial ⟨lv,trivial⟩)
 refine AP AC [(10,.v (.int .i64 v1.2))] [] ?_;refine Ah ?_;have hq:=OI h; subst hq;exact ⟨⟨Fr 23 [(10,.v (.int .i64 v1.2))],[]⟩,AZ,.inr rfl,[.v (.int .i64 v1.2)],kr,kr⟩
def OM:List AV->Option AV:=Ee Hf (fun a=>C1 a.1 a.2.1 a.2.2.1 a.2.2.2.1 a.2.2.2.2.1) Ht
theorem Km:XOk 22 OM:=by
 refine Ad Tryz.func22 (c:=Jq) ?h2 ⟨Tryz.call22⟩ Hf (fun a=>C1 a.1 a.2.1 a.2.2.1 a.2.2.2.1 a.2.2.2.2.1) Ht (fun a=>(by show 5<=23; decide)) ?h3 ?h4
 case h2=>kernel_rfl
 case h3=>intro b; kernel_rfl
 case h4=>exact fun a b h=>MK a.1 a.2.1 a.2.2.1 a.2.2.2.1 a.2.2.2.2.1 b h
section
variable {E:Env}{w w':World}{Z Z':Nat->Prop}{R R':List RI}{h h':Hp}{base:Bs}{s s':St}{a:Act}{n:Nat}
/-- What a deferred call must bring about when the function below returns: nothing but new blocks. -/
def Sk (P:Program) (g:FuncId) (us:List Value):Prop:=∀ w1,CallsDIn (Fw none) 0 P g us.toArray .returning w1 fun e u' w2=>match e with | .returned _=>settle u' = .returning/\w1.grownBy w2 none | _=>False
theorem SR.grown {D:List Deferred}{b':Bs}(sr:SR E base w Z R s a) (hb:b'.n=base.n) (hg:w.grownBy w' none) (hm:MksD base.n w Z R s.hp D b'.D):SR E b' w' Z R s { a with defers:=D }:=by
 have hz:∀ c,Z c->w'.heap[c]? = w.heap[c]?:=fun c hc=>hg.block c (sr.hh.zlt c hc) (by simp)
 refine ⟨sr.hh.keep hg.size (fun c hc=>hg.block c hc (by simp)),sr.fr.off hz,?_,sr.gl.off hz,by rw [hb]; exact Nat.le_trans sr.bs hg.size⟩
 show MksD b'.n _ _ _ _ _ _
 rw [hb]
 exact MksD.imp (fun r h1 h2 h3=>⟨(hg.block r (J4 h1) (by simp)).trans h1,h2,h3⟩) hm
theorem PK {d:Deferred}{g:FuncId}{fv:_}{cap:Array Value}{us:List Value}(hbD:base.D=[d]) (ht:d.target = .fn fv cap) (hinv:∀ w1,(invoke d.target d.args).run E.P w1 = .ok (.enter g us.toArray) w1) (hcall:Sk E.P g us){fn:Func}{S:Value->World->Prop}{xs:List AV}(hres:Es E.P s.fr s.hp fn.results.toList=some xs)
  (hS:∀ w' u,w.heap.size<=w'.heap.size->w'.os=w.os->w'.tape=w.tape->w'.output=w.output->(∀ c,c < base.n->w'.heap[c]? = w.heap[c]?)->HR w' Z R s.hp->VR w' Z R (FG xs) u->S u w') :
  ∀ {D:List Deferred} {w1:World},SR E base w1 Z R s { a with defers:=D }->w1.heap.size=w.heap.size->w1.os=w.os->w1.tape=w.tape->w1.output=w.output->(∀ c,c < base.n->w1.heap[c]? = w.heap[c]?) ->
  LeavesInM (Fw none) 0 E.P fn a.tmps (fun e w'=>match e with | .returned v=>S v w' | _=>False) D .returning w1
 | [],w1,sr,hz,ho,ht',hp,hb=>by
  have:=sr.mks
  unfold Mks MksD at this
  rw [hbD] at this
  cases this
 | d'::D,w1,sr,hz,ho,ht',hp,hb=>by
  rcases sr.mks with ⟨Ds',e,hno,hD⟩ | ⟨⟨r,h1,h2,h3,h4,h5,h6⟩,hD⟩
  ·rw [hbD] at e
   injection e with e1 e2
   subst e1 e2
   refine ⟨by simp,.inr ⟨(fun h=>by cases h),fv,cap,g,us.toArray,ht,hinv w1,fun _ _=>trivial,CallsDIn.mono (hcall w1) fun e u' w2 he=>?_⟩⟩
   cases e with
   | returned v =>
    obtain ⟨k1,k2⟩:=he
    dsimp only
    rw [k1]
    refine IE (base:=⟨base.n,[]⟩) (w:=w2) rfl hres (fun w3 u g1 g2 g3 g4 g5 g6 g7=>hS w3 u ?_ (g2.trans (k2.os.trans ho)) (g3.trans (k2.tape.trans ht')) (g4.trans (k2.output.trans hp)) (fun c hc=>?_) g6 g7) (sr.grown (b':=⟨base.n,[]⟩) rfl k2 hD) rfl rfl rfl rfl (fun _ _=>rfl)
    ·rw [g1,<-hz]; exact k2.size
    ·rw [g5 c hc,k2.block c (Nat.lt_of_lt_of_le hc sr.bs) (by simp)]; exact hb c hc
   | panicked c=>exact he.elim
   | outgrown=>exact he.elim
  ·subst h2
   have hb':∀ c,(Z c\/own R s.hp c)->(w1.putObj r (.deferred none)).heap[c]? = w1.heap[c]?:=fun c hc=>Gw (fun e=>by subst e; exact hc.elim h4 h5)
   exact ⟨by simp,.inl ⟨r,w1.putObj r (.deferred none),rfl,run_takeDeferred h3,PK hbD ht hinv hcall hres hS ⟨sr.hh.off (Co _ _ _) hb',sr.fr.off fun c hc=>hb' c (.inl hc),MksD.put hD h6,sr.gl.off fun c hc=>hb' c (.inl hc),by rw [Co]; exact sr.bs⟩ (by rw [Co]; exact hz) ho ht' hp (fun c hc=>(Gw (by omega)).trans (hb c hc))⟩⟩
/-- The frame at the entry. -/
theorem XZ {fn:Func}{args:List AV}{us:List Value}(hh:HR w Z R h) (hv:VRs w Z R args us) (hg:GI E w Z):SR E (.of w.heap.size) w Z R ⟨args.map some++List.replicate (fn.ntmps - args.length) (some (.tp [])),h⟩ { tmps:=us.toArray++Array.replicate (fn.ntmps - us.toArray.size) undef,defers:=[] }:=by
 have hul:us.length=args.length:=hv.len
 refine ⟨hh,⟨by simp [hul],fun t x hx=>?_⟩,rfl,hg,Nat.le_refl _⟩
 have e0:us.toArray++Array.replicate (fn.ntmps - us.toArray.size) undef=(us++List.replicate (fn.ntmps - us.length) undef).toArray:=by simp
 rw [e0,Array.getD_eq_getD_getElem?,List.getElem?_toArray]
 by_cases ht:t < args.length
 ·rw [List.getElem?_append_left (by simpa using ht),List.getElem?_map] at hx
  rw [List.getElem?_append_left (by omega)]
  cases hat:args[t]? with
  | none=>rw [hat] at hx; cases hx
  | some q =>
   rw [hat] at hx
   have hx:=OI (OI hx)
   subst hx
   obtain ⟨u,hu1,hu2⟩:=hv.get hat
   rw [hu1]; exact hu2
 ·rw [List.getElem?_append_right (by simp; omega),List.getElem?_replicate] at hx
  split at hx
  ·next hlt =>
   have hx:=OI (OI hx)
   subst hx
   rw [List.getElem?_append_right (by omega),List.getElem?_replicate,if_pos (by rw [hul]; simpa using hlt)]
   exact .tp (us:=[]) rfl (fun i x u hx=>by simp at hx)
  ·cases hx
/-- A function whose body is: A; B; a closure is made and deferred; the rest. -/
theorem QX (hE:EnvOk E){f g:FuncId}{fn:Func}{A B rest:Code}{id:Nat}{o1 o2:Oper}{args cs xs:List AV}{s1 s2 s3 s4:St}{ex:Ex}{p:Operand}{tys:Array TypeId}{us:List Value}
  (hf:E.P.funcs[f]? = some fn) (hb:fn.body=some (.seq A (.seq B (.seq (.region id #[o1,o2] false) rest)))) (hdA:Ct A=true) (hdB:Ct B=true) (hdR:Ct rest=true)
  (eA:evC E n ⟨none,false⟩ A ⟨args.map some++List.replicate (fn.ntmps - args.length) (some (.tp [])),h⟩=some (.normal,s1)) (eB:evC E n ⟨none,false⟩ B s1=some (.normal,s2)) (hg1:o1.guard=none) (e1:op1 E (evC E n) ⟨none,false⟩ o1 s2=some s3) (hg2:o2.guard=none) (ho2:o2.op = .defer ⟨.value p,#[],tys⟩) (hd2:o2.dst=none) (hp:opA E s3.fr p=some (.fn g [] cs))
  (eR:evC E n ⟨none,false⟩ rest s3=some (ex,s4)) (hex:ex = .normal\/ex = .ret) (hres:Es E.P s4.fr s4.hp fn.results.toList=some xs) (hcl:B8 E.P g) (hdef:∀ us:List Value,us.length=cs.length->Sk E.P g us)
  (hh:HR w Z R h) (hv:VRs w Z R args us) (hg:GI E w Z):QO E f us w Z R h (FG xs) s4.hp:=by
 have hCS:=(code_sound hE n).1
 refine callsIn_wide.1 (callsIn_of_wp_marks (F:=Fw none) (n:=0) hf hb trivial ?_)
 refine wpIn_seq (hCS _ A _ .normal s1 hdA eA none (.of w.heap.size) _ _ w Z R (fun _=>rfl) (XZ hh hv hg) (fun y hy=>by cases hy) fun a1 w1 Z1 R1 sr1 st1=>?_)
 refine wpIn_seq (hCS _ B _ .normal s2 hdB eB none (.of w.heap.size) _ _ w1 Z1 R1 (fun _=>rfl) sr1 (fun y hy=>by cases hy) fun a2 w2 Z2 R2 sr2 st2=>?_)
 refine wpIn_seq (wpIn_region_list ?_)
 unfold wpListIn
 rw [if_pos (by simp [Region.wanted,hg1])]
 refine lw_wpIn none (op1_lw hE hCS e1 sr2 fun a3 w3 Z3 R3 sr3 st3=>?_)
 unfold wpListIn
 rw [if_pos (by simp [Region.wanted,hg2])]
 have hvf:=opA_vr sr3 p _ hp
 generalize hva:a3.eval p=va at hvf
 cases hvf with
 | fn hl hl' hx hy =>
  rename_i u1 u2
  have e1':u1=[]:=by simpa using hl
  subst e1'
  have hrun:(o2.semAt (Fw none).round a3.eval).run E.P w3 = .ok (.defer ⟨.fn (.func g) u2.toArray,#[]⟩) w3:=by
   show (o2.semAt none a3.eval).run E.P w3=_
   rw [Oper.semAt_none]
   simp [execOp,ho2,resolve,hva,Deferred.ofValue]
  refine ⟨fun _ _=>trivial,?_⟩
  rw [hrun,Oper.uponIn_defer,hd2]
  have sr4:SR E ⟨w.heap.size,[⟨.fn (.func g) u2.toArray,#[]⟩]⟩ w3 Z3 R3 s3 { a3 with defers:=⟨.fn (.func g) u2.toArray,#[]⟩::a3.defers }:=by
   refine ⟨sr3.hh,sr3.fr,.inl ⟨_,rfl,fun r h=>?_,sr3.mks⟩,sr3.gl,sr3.bs⟩
   unfold SU at h
   injection h with h
   cases h
  refine hCS _ rest _ ex s4 hdR eR none ⟨w.heap.size,[⟨.fn (.func g) u2.toArray,#[]⟩]⟩ _ _ w3 Z3 R3 (fun _=>rfl) sr4 (fun y hy=>by cases hy) fun a5 w5 Z5 R5 sr5 st5=>?_
  have st:=((st1.trans st2).trans st3).trans st5
  have hle:=PK (base:=⟨w.heap.size,[⟨.fn (.func g) u2.toArray,#[]⟩]⟩) (w:=w5) (a:=a5) (fn:=fn) (g:=g) (us:=u2) rfl rfl (fun w1=>by simp [invoke,hcl.run]) (hdef u2 hl') (S:=fun v w''=>∃ Z' R',HR w'' Z' R' s4.hp/\VR w'' Z' R' (FG xs) v/\Step w Z R h w'' Z' R' s4.hp) hres (fun w'' u g1 g2 g3 g4 g5 g6 g7=>⟨Z5,R5,g6,g7,⟨g2.trans st.os,g3.trans st.tape,g4.trans st.output,Nat.le_trans st.size g1,fun c hc hn=>(g5 c hc).trans (st.block c hc hn),st.own_,st.z,st.z',st.r⟩⟩) (D:=a5.defers) (w1:=w5) sr5 rfl rfl rfl rfl (fun _ _=>rfl)
  rcases hex with rfl | rfl
  ·exact hle
  ·exact hle
end
/-- Operations of a deferred call, where nothing is to be recovered. -/
def MW (E:Env):List Oper->St->Option St
 | [],s=>some s
 | o::rest,s=>match o.guard with
  | some _=>none
  | none=>match o.op with
   | .call ⟨.builtin .recover,_,_⟩=>MW E rest ⟨LX s.fr o.dst (.v .nilIface),s.hp⟩
   | .typeAssert x _ u true=>match opA E s.fr x,E.P.underlying u,F0 E.P u with
    | some (.v .nilIface),some _,some z=>MW E rest ⟨LX s.fr o.dst (.tp [z,.v (.bool false)]),s.hp⟩
    | _,_,_=>none
   | .store t p q=>match o.dst,opA E s.fr p,opA E s.fr q with
    | none,some y,some z=>match Gs E.P s.hp t y z with
     | some h=>MW E rest ⟨s.fr,h⟩
     | none=>none
    | _,_,_=>none
   | op=>match Gr E.P (opA E s.fr) s.hp op with
    | some x=>MW E rest ⟨LX s.fr o.dst x,s.hp⟩
    | none=>match Ik E.P (opA E s.fr) s.hp op with
     | some (x,h)=>MW E rest ⟨LX s.fr o.dst x,h⟩
     | none=>none
section
variable {E:Env}{base:Bs}{ops:Array Oper}{Q:Exit->Act->List Frame->World->Prop}{cs:List Frame}{D:List Deferred}{s':St}
theorem PO (a:Act) (d:Option Tmp) (u:Value):(a.put d u).defers=a.defers:=by cases d <;> rfl
theorem Yw {P:Program}{t u:TypeId}{d:TypeDesc}{v:Value}{w:World}(hu:P.underlying u=some d) (hz:∀ w,(zeroValue u).run P w = .ok v w):(Instr.typeAssert .nilIface t u true).run P w = .ok (.tuple #[v,.bool false]) w:=by
 unfold Instr.typeAssert
 rw [Sem.run_bind,run_underlying hu]
 cases d <;> simp [hz,Result.andThen]
theorem IW (hrec:recoverD cs=none):∀ {rest:List Oper}{s:St}{a:Act}{w:World}{Z:Nat->Prop}{R:List RI}{k:Nat},MW E rest s=some s'->SR E base w Z R s a->a.defers=D->(∀ j,rest[j]? = ops[k + j]?) ->
  (∀ a' w' Z' R',SR E base w' Z' R' s' a'->a'.defers=D->Step w Z R s.hp w' Z' R' s'.hp->Q .normal a' cs w')->wpOpsSIn (Fw none) 0 E.P ops Q (List.range' k rest.length) a cs w
 | [],s,a,w,Z,R,k,e,sr,hD,hops,q=>by
  injection e with e; subst e
  exact q a w Z R sr hD (Step.refl _ _ _ _)
 | o::rest,s,a,w,Z,R,k,e,sr,hD,hops,q=>by
  have hok:ops[k]? = some o:=by have:=hops 0; simpa using this.symm
  have hops':∀ j,rest[j]? = ops[k + 1 + j]?:=fun j=>by have:=hops (j + 1); simpa [Nat.add_assoc,Nat.add_comm 1 j] using this
  have hρ:∀ o x,opA E s.fr o=some x->VR w Z R x (a.eval o):=fun o x e=>opA_vr sr o x e
  unfold MW at e
  split at e
  ·cases e
  ·next hg =>
   rw [List.length_cons,List.range'_succ]
   unfold wpOpsSIn
   rw [hok]
   dsimp only
   refine ⟨fun _ _=>trivial,?_⟩
   rw [if_pos (by simp [Region.wanted,hg])]
   have val:∀ {x:AV} {h':Hp},Ld E.P w Z R s.hp x h' a.eval o->MW E rest ⟨LX s.fr o.dst x,h'⟩=some s'->(match (execOp a.eval o).run E.P w with
    | .ok .recover w'=>(match recoverD cs with
     | some (v,cs')=>wpOpsSIn (Fw none) 0 E.P ops Q (List.range' (k + 1) rest.length) (a.put o.dst v) cs' w'
     | none=>wpOpsSIn (Fw none) 0 E.P ops Q (List.range' (k + 1) rest.length) (a.put o.dst .nilIface) cs w')
    | .ok (.value v) w'=>wpOpsSIn (Fw none) 0 E.P ops Q (List.range' (k + 1) rest.length) (a.put o.dst v) cs w'
    | .ok .skip w'=>wpOpsSIn (Fw none) 0 E.P ops Q (List.range' (k + 1) rest.length) (a.put o.dst undef) cs w'
    | .halt (.panic v) w'=>Q (.panic [{ v,recovered:=false }]) a cs w'
    | _=>False):=fun {x h'} hl e=>by
    obtain ⟨u,w',R',h1,h2,h3,h4⟩:=hl
    rw [h1]
    exact IW hrec e ((sr.step h2 h4).put h3) ((PO _ _ _).trans hD) hops' fun a' w'' Z'' R'' sr'' hD'' st=>q a' w'' Z'' R'' sr'' hD'' (h4.trans st)
   split at e
   ·next b c ho =>
    have hr:(execOp a.eval o).run E.P w = .ok .recover w:=by
     simp [execOp,ho,resolve,invoke]
     rfl
    rw [hr]
    dsimp only
    rw [hrec]
    exact IW hrec e (sr.put (.v rfl)) ((PO _ _ _).trans hD) hops' q
   ·next x t u ho =>
    split at e
    ·next d z hx hu hz =>
     have hv:=(hρ _ _ hx).v_inv
     obtain ⟨v,hv1,_,hrun,_⟩:=Ig (w:=w) (Z:=Z) (R:=R) hz
     refine val (x:= .tp [z,.v (.bool false)]) (h':=s.hp) ⟨.tuple #[v,.bool false],w,R,?_,sr.hh,.tp (us:=[v,.bool false]) rfl (fun i x u hx hu=>?_),Step.refl _ _ _ _⟩ e
     ·simp only [execOp,ho,hv]
      rw [Sem.run_bind,Yw hu hrun]
      rfl
     ·match i with
      | 0=>simp at hx hu; subst hx hu; exact hv1
      | 1=>simp at hx hu; subst hx hu; exact .v rfl
      | i + 2=>simp at hx
    ·cases e
   ·next t p r ho =>
    split at e
    ·next y z hd hp hq =>
     split at e
     ·next h' hst =>
      obtain ⟨w',h1,h2,h3⟩:=Jg hρ sr.hh ho hp hq hst
      rw [h1,hd]
      dsimp only
      exact IW hrec e (sr.step h2 h3) hD hops' fun a' w'' Z'' R'' sr'' hD'' st=>q a' w'' Z'' R'' sr'' hD'' (h3.trans st)
     ·cases e
    ·cases e
   ·split at e
    ·next x hx=>exact val ((evOpQ_sound sr.hh hρ hx).ld sr.hh) e
    ·split at e
     ·next x h' hx=>exact val (evOpN_sound hρ sr.hh hx).ld e
     ·cases e
/-- A deferred closure of the form: what it recovers is looked at; where it was nothing, nothing is done. -/
theorem YG {g:FuncId}{fn:Func}{id0 id1:Nat}{ops0 ops1:Array Oper}{x:Operand}{X:Code}{s1 s2:St}{us:List Value}(hG:∀ q,E.G q=none) (hf:E.P.funcs[g]? = some fn) (hb:fn.body=some (.seq (.region id0 ops0 false) (.seq (.region id1 ops1 false) (.cond x X .skip)))) (hres:fn.results=#[])
  (e1:MW E ops0.toList ⟨List.replicate fn.ntmps none,[]⟩=some s1) (e2:MW E ops1.toList s1=some s2) (ht:opA E s2.fr x=some (.v (.bool false))) (hl:us.length<=fn.ntmps):Sk E.P g us:=by
 intro w1
 refine callsDIn_of_wpSIn hf hb trivial fun c₀ cs hm=>?_
 have hrec:recoverD (c₀::cs)=none:=by simp [recoverD,hm]
 have sr0:SR E (.of w1.heap.size) w1 (fun _=>False) [] ⟨List.replicate fn.ntmps none,[]⟩ { tmps:=us.toArray++Array.replicate (fn.ntmps - us.toArray.size) undef,defers:=[] } :=
  ⟨hr_nil (fun _ h=>h.elim),⟨by simp; omega,fun t x hx=>by simp [List.getElem?_replicate] at hx⟩,rfl,(fun q y hy=>by rw [hG] at hy; cases hy),Nat.le_refl _⟩
 refine wpSIn_seq (wpSIn_region ?_)
 rw [List.range_eq_range',show ops0.size=ops0.toList.length by simp]
 refine IW hrec (rest:=ops0.toList) (k:=0) (D:=[]) e1 sr0 rfl (fun j=>by simp) fun a2 w2 Z2 R2 sr2 hD2 st2=>?_
 show (Code.seq _ _).wpSIn _ _ _ _ _ _ _
 refine wpSIn_seq (wpSIn_region ?_)
 rw [List.range_eq_range',show ops1.size=ops1.toList.length by simp]
 refine IW hrec (rest:=ops1.toList) (k:=0) (D:=[]) e2 sr2 hD2 (fun j=>by simp) fun a3 w3 Z3 R3 sr3 hD3 st3=>?_
 show (Code.cond _ _ _).wpSIn _ _ _ _ _ _ _
 refine wpSIn_cond (t:=false) (opA_vr sr3 _ _ ht).v_inv ?_
 refine wpSIn_of_wpIn rfl (wpIn_skip ?_)
 have st:=st2.trans st3
 have h0:(Array.mapM (S9 a3.tmps) (#[]:Array ResultVar)).run E.P w3 = .ok #[] w3:=PR (us:=[]) (by simp)
 exact ⟨hD3,.returning,by rw [<-hm],.tuple #[],by rw [PQ,hres,Sem.run_bind,h0]; rfl,rfl,⟨st.os,st.tape,st.output,st.size,fun c hc _=>st.block c hc P0⟩⟩
end
end Go.Proofs.YtlalcoehgkmhlaaGreatDoor
namespace Go.Proofs.YtlalcoehgkmhlaaGreatDoor
open Go.Shelf
def RX:Go.Shelf.Ren:=⟨fun | 217=>194 | 266=>211 | n=>n,fun | 9=>9 | 5=>5 | 3=>3 | n=>n,fun | n=>n⟩
theorem W7:Go.Proofs.Lays.n217 Tryz.prog RX:={
 mixed:=by kernel_rfl
 f217:=Tryz.func194.trans (congrArg some (by kernel_rfl))
 f266:=Tryz.func211.trans (congrArg some (by kernel_rfl))
 t3:=Tryz.underlying3
 a3:=Tryz.isAgg3
 z3:=Tryz.sizeOf3
 v3:=Tryz.zeroValue3
 t5:=Tryz.underlying5
 a5:=Tryz.isAgg5
 z5:=Tryz.sizeOf5
 v5:=Tryz.zeroValue5
 t9:=Tryz.underlying9
 a9:=Tryz.isAgg9
 z9:=Tryz.sizeOf9
 v9:=Tryz.zeroValue9 }
def RW:Go.Shelf.Ren:=⟨fun | 138=>199 | 195=>213 | 218=>215 | 143=>200 | 219=>173 | 217=>194 | 225=>195 | 224=>196 | 267=>197 | 266=>211 | 314=>212 | n=>n,fun | 9=>9 | 3=>3 | 4=>4 | 5=>5 | 0=>0 | 46=>178 | 146=>222 | 51=>221 | n=>n,fun | 1=>0 | n=>n⟩
theorem W6:Go.Proofs.Lays.n138 Tryz.prog RW:={
 mixed:=by kernel_rfl
 f138:=Tryz.func199.trans (congrArg some (by kernel_rfl))
 f143:=Tryz.func200.trans (congrArg some (by kernel_rfl))
 f195:=Tryz.func213.trans (congrArg some (by kernel_rfl))
 f217:=Tryz.func194.trans (congrArg some (by kernel_rfl))
 f218:=Tryz.func215.trans (congrArg some (by kernel_rfl))
 f219:=Tryz.func173.trans (congrArg some (by kernel_rfl))
 f224:=Tryz.func196.trans (congrArg some (by kernel_rfl))
 f225:=Tryz.func195.trans (congrArg some (by kernel_rfl))
 f266:=Tryz.func211.trans (congrArg some (by kernel_rfl))
 f267:=Tryz.func197.trans (congrArg some (by kernel_rfl))
 f314:=Tryz.func212.trans (congrArg some (by kernel_rfl))
 t0:=Tryz.underlying0
 a0:=Tryz.isAgg0
 z0:=Tryz.sizeOf0
 v0:=Tryz.zeroValue0
 t3:=Tryz.underlying3
 a3:=Tryz.isAgg3
 z3:=Tryz.sizeOf3
 v3:=Tryz.zeroValue3
 t4:=Tryz.underlying4
 a4:=Tryz.isAgg4
 z4:=Tryz.sizeOf4
 v4:=Tryz.zeroValue4
 t5:=Tryz.underlying5
 a5:=Tryz.isAgg5
 z5:=Tryz.sizeOf5
 v5:=Tryz.zeroValue5
 t9:=Tryz.underlying9
 a9:=Tryz.isAgg9
 z9:=Tryz.sizeOf9
 v9:=Tryz.zeroValue9
 t46:=Tryz.underlying178
 a46:=Tryz.isAgg178
 z46:=Tryz.sizeOf178
 v46:=Tryz.zeroValue178
 t51:=Tryz.underlying221
 a51:=Tryz.isAgg221
 z51:=Tryz.sizeOf221
 v51:=Tryz.zeroValue221
 t146:=Tryz.underlying222
 a146:=Tryz.isAgg222
 z146:=Tryz.sizeOf222
 v146:=Tryz.zeroValue222
 g1:=by kernel_rfl }
open Go.RowKit Go.Lib
/-- The first place of a byte. -/
def ixB:List AV->Option AV
 | [.st s,.v (.int .u8 c)]=>some (.v (.int .i64 (Lib.indexByte s c.toNat.toUInt8)))
 | _=>none
theorem YT {E:Env}(hE:EnvOk E) (hP:E.P=Tryz.prog):EnvOk (E.withX 194 ixB):=by
 refine hE.withX (hP ▸ ⟨Tryz.call194⟩) fun xs x h w Z us _ _ hv=>?_
 unfold ixB at h
 split at h
 ·next s c =>
  injection h with h
  subst h
  obtain ⟨u1,r1,rfl,h1,hv⟩:=hv.head
  obtain ⟨u2,r2,rfl,h2,hv⟩:=hv.head
  have:r2=[]:=List.eq_nil_of_length_eq_zero hv.len
  subst this
  have e2:=h2.v_inv
  subst e2
  cases h1 with
  | st hs hn =>
   rename_i sb
   rw [hP]
   refine Calls.mono (Any.stringslite_IndexByte W7 sb c w) fun e w' he=>?_
   obtain ⟨rfl,rfl⟩:=he
   exact ⟨OC _,by rw [hs]; exact .v rfl⟩
 ·cases h
/-- How often a byte stands in a string. -/
def Ze:List AV->Option AV
 | [.st s,.st [c]]=>some (.v (.int .i64 (Lib.countByte s c)))
 | _=>none
theorem Wd {E:Env}(hE:EnvOk E) (hP:E.P=Tryz.prog):EnvOk (E.withX 199 Ze):=by
 refine hE.withX (hP ▸ ⟨Tryz.call199⟩) fun xs x h w Z us _ _ hv=>?_
 unfold Ze at h
 split at h
 ·next s c =>
  injection h with h
  subst h
  obtain ⟨u1,r1,rfl,h1,hv⟩:=hv.head
  obtain ⟨u2,r2,rfl,h2,hv⟩:=hv.head
  have:r2=[]:=List.eq_nil_of_length_eq_zero hv.len
  subst this
  obtain ⟨sb,rfl,hs⟩:∃ sb,u1 = .string sb/\sb.data.toList=s:=by cases h1 with | st h _=>exact ⟨_,rfl,h⟩
  obtain ⟨sc,rfl,hs2⟩:∃ sc,u2 = .string sc/\sc.data.toList=[c]:=by cases h2 with | st h _=>exact ⟨_,rfl,h⟩
  have e:sc=ByteArray.mk #[c]:=by
   obtain ⟨d⟩:=sc
   congr 1
   apply Array.ext'
   exact hs2
  subst e
  rw [hP]
  refine Calls.mono (Any.strings_Count_one W6 sb c w) fun e w' he=>?_
  obtain ⟨rfl,rfl⟩:=he
  exact ⟨OC _,by rw [hs]; exact .v rfl⟩
 ·cases h
/-- A call of a function that defers one closure: the closure, how many captures it has, what is handed back. -/
def Wg (E:Env) (n:Nat) (fn:Func) (args:List AV):Option (FuncId×Nat×AV×Hp):=match fn.body with
 | some (.seq A (.seq B (.seq (.region _ ops false) rest)))=>match ops.toList with
  | [o1,o2]=>match o1.guard,o2.guard,o2.dst,o2.op with
   | none,none,none,.defer ⟨.value p,dargs,_⟩ =>
    if dargs.size=0/\Ct A=true/\Ct B=true/\Ct rest=true then
     match evC E n ⟨none,false⟩ A ⟨args.map some++List.replicate (fn.ntmps - args.length) (some (.tp [])),[]⟩ with
     | some (.normal,s1)=>match evC E n ⟨none,false⟩ B s1 with
      | some (.normal,s2)=>match op1 E (evC E n) ⟨none,false⟩ o1 s2 with
       | some s3=>match opA E s3.fr p with
        | some (.fn g [] cs)=>match evC E n ⟨none,false⟩ rest s3 with
         | some (.normal,s4)=>(Es E.P s4.fr s4.hp fn.results.toList).map fun xs=>(g,cs.length,FG xs,s4.hp)
         | some (.ret,s4)=>(Es E.P s4.fr s4.hp fn.results.toList).map fun xs=>(g,cs.length,FG xs,s4.hp)
         | _=>none
        | _=>none
       | none=>none
      | _=>none
     | _=>none
    else none
   | _,_,_,_=>none
  | _=>none
 | _=>none
theorem RK {E:Env}(hE:EnvOk E){n:Nat}{f:FuncId}{fn:Func}{args:List AV}{g m:Nat}{x:AV}{h':Hp}(hf:E.P.funcs[f]? = some fn) (hcl:B8 E.P g) (hdef:∀ us:List Value,us.length=m->Sk E.P g us) (e:Wg E n fn args=some (g,m,x,h')){w:World}{Z:Nat->Prop}{us:List Value}(hz:∀ c,Z c->c < w.heap.size) (hg:GI E w Z) (hv:VRs w Z [] args us):QO E f us w Z [] [] x h':=by
 unfold Wg at e
 split at e
 ·next A B id ops rest hb =>
  split at e
  ·next o1 o2 hops =>
   split at e
   ·next p dargs tys hg1 hg2 hd2 ho2 =>
    split at e
    ·next hc =>
     obtain ⟨c1,c2,c3,c4⟩:=hc
     have hops':ops=#[o1,o2]:=by apply Array.ext'; exact hops
     have hda:dargs=#[]:=Array.eq_empty_of_size_eq_zero c1
     subst hops' hda
     split at e
     ·next s1 e1 =>
      split at e
      ·next s2 e2 =>
       split at e
       ·next s3 e3 =>
        split at e
        ·next g' cs hp =>
         split at e
         ·next s4 e4 =>
          obtain ⟨xs,hxs,hxe⟩:=Option.map_eq_some_iff.1 e
          injection hxe with k1 k2; injection k2 with k2 k3; injection k3 with k3 k4
          subst k1 k2 k3 k4
          exact QX hE hf hb c2 c3 c4 e1 e2 hg1 e3 hg2 ho2 hd2 hp e4 (.inl rfl) hxs hcl hdef (hr_nil hz) hv hg
         ·next s4 e4 =>
          obtain ⟨xs,hxs,hxe⟩:=Option.map_eq_some_iff.1 e
          injection hxe with k1 k2; injection k2 with k2 k3; injection k3 with k3 k4
          subst k1 k2 k3 k4
          exact QX hE hf hb c2 c3 c4 e1 e2 hg1 e3 hg2 ho2 hd2 hp e4 (.inr rfl) hxs hcl hdef (hr_nil hz) hv hg
         ·cases e
        ·cases e
       ·cases e
      ·cases e
     ·cases e
    ·cases e
   ·cases e
  ·cases e
 ·cases e
/-- .. as a contract. -/
def dfX (E:Env) (n:Nat) (fn:Func) (g m:Nat) (args:List AV):Option AV:=match Wg E n fn args with
 | some (g',m',x,h')=>if g'=g/\m'=m then TG h' x else none
 | none=>none
theorem YH {E:Env}(hE:EnvOk E){n:Nat}{f:FuncId}{fn:Func}{g m:Nat}(hf:E.P.funcs[f]? = some fn) (hc:B8 E.P f) (hcl:B8 E.P g) (hdef:∀ us:List Value,us.length=m->Sk E.P g us):EnvOk (E.withX f (dfX E n fn g m)):=by
 refine hE.withX hc fun xs y h w Z us hz hgi hv=>?_
 unfold dfX at h
 split at h
 ·next g' m' x h' e =>
  split at h
  ·next hgm =>
   obtain ⟨rfl,rfl⟩:=hgm
   exact frz_ret (RK hE hf hcl hdef e hz hgi hv) h
  ·cases h
 ·cases h
noncomputable def E1:Env:=(E0.withX 194 ixB).withX 199 Ze
theorem Xt:EnvOk E1:=Wd (YT AC rfl) rfl
theorem Yo (us:List Value) (hl:us.length=2):Sk E1.P 124 us :=
 YG (E:=E1) (s1:=(MW E1 (match Tryz.f124.body with | some (.seq (.region _ ops _) _)=>ops.toList | _=>[]) ⟨List.replicate Tryz.f124.ntmps none,[]⟩).getD ⟨[],[]⟩) (s2:=(MW E1 (match Tryz.f124.body with | some (.seq _ (.seq (.region _ ops _) _))=>ops.toList | _=>[]) ((MW E1 (match Tryz.f124.body with | some (.seq (.region _ ops _) _)=>ops.toList | _=>[]) ⟨List.replicate Tryz.f124.ntmps none,[]⟩).getD ⟨[],[]⟩)).getD ⟨[],[]⟩)
  (fun _=>rfl) Tryz.func124 rfl rfl (by kernel_rfl) (by kernel_rfl) (by kernel_rfl) (by rw [hl]; decide)
noncomputable def E2:Env:=E1.withX 72 (dfX E1 3000 Tryz.f72 124 2)
theorem ZL:EnvOk E2:=YH Xt Tryz.func72 ⟨Tryz.call72⟩ ⟨Tryz.call124⟩ Yo
def exC:List AV:=[.ag [.v (.int .u8 1),.st [],.v (.bool false),.sl 1 [.st [100,117,107,101],.st [99,111,117,110,116]],.v (.int .i64 0)],.ag [.v (.int .u8 2),.st [100,117,107,101],.v (.bool false),.e0,.v (.int .i64 0)],.ag [.v (.int .u8 4),.st [],.v (.bool false),.e0,.v (.int .i64 1)],.ag [.v (.int .u8 8),.st [],.v (.bool false),.e0,.v (.int .i64 0)]]
def exG:List AV:=[.ag [.st [97,100,97],.st [99,111,117,110,116],.st [],.v (.int .i64 0),.v (.int .i64 2),.st [],.v (.bool false),.v (.bool false),.e0],.ag [.st [98,101,97],.st [100,117,107,101],.st [],.v (.int .i64 1700),.v (.int .i64 0),.st [],.v (.bool false),.v (.bool false),.e0],.ag [.st [99,121,114],.st [100,117,107,101],.st [],.v (.int .i64 1650),.v (.int .i64 0),.st [],.v (.bool false),.v (.bool false),.e0],.ag [.st [100,97,110],.st [],.st [],.v (.int .i64 0),.v (.int .i64 1),.st [],.v (.bool false),.v (.bool false),.e0],.ag [.st [101,118,97],.st [99,111,117,110,116],.st [],.v (.int .i64 0),.v (.int .i64 1),.st [],.v (.bool false),.v (.bool false),.e0]]
def i4 (n:Int):AV:= .v (.int .i64 n)
def exT:List UInt8:=[114,97,110,107,32,100,117,107,101,32,99,111,117,110,116,10,97,109,111,110,103,32,100,117,107,101,32,101,108,100,101,114,10,115,105,100,101,32,49,32,102,105,114,115,116,10,110,97,109,101,10]
def exO:List AV:=[.fn 165 [] [.pe (.ag [.v (.int .u8 1),.st [],.v (.bool false),.sl 1 [.st [100,117,107,101],.st [99,111,117,110,116]],.v (.int .i64 0)]) 0,.pe (.fn 205 [] [.pe (.fn 178 [] [.pe (.ag [.v (.int .u8 1),.st [],.v (.bool false),.sl 1 [.st [100,117,107,101],.st [99,111,117,110,116]],.v (.int .i64 0)]) 0]) 0]) 0],.fn 165 [] [.pe (.ag [.v (.int .u8 2),.st [100,117,107,101],.v (.bool false),.e0,.v (.int .i64 0)]) 0,.pe (.fn 179 [] [.pe (.ag [.v (.int .u8 2),.st [100,117,107,101],.v (.bool false),.e0,.v (.int .i64 0)]) 0]) 0],.fn 165 [] [.pe (.ag [.v (.int .u8 4),.st [],.v (.bool false),.e0,.v (.int .i64 1)]) 0,.pe (.fn 205 [] [.pe (.fn 206 [] [.pe (.fn 182 [] [.pe (.ag [.v (.int .u8 4),.st [],.v (.bool false),.e0,.v (.int .i64 1)]) 0]) 0,.pe (.ag [.v (.int .u8 4),.st [],.v (.bool false),.e0,.v (.int .i64 1)]) 0]) 0]) 0],.fn 165 [] [.pe (.ag [.v (.int .u8 8),.st [],.v (.bool false),.e0,.v (.int .i64 0)]) 0,.pe (.fn 187 [] []) 0]]
def Xc:List (List AV×AV):=[([.sl 5 exC],.tp [i4 0,i4 0]),([.sl 5 (exC.take 2)],.tp [i4 0,i4 0]),([.sl 5 (exC.drop 1)],.tp [i4 0,i4 31])]
noncomputable def E3:Env:=E1.withX 80 (PV Xc)
theorem WW:Bu E1 2000 80 [.sl 5 exC]=some (.tp [i4 0,i4 0]):=by kernel_rfl
theorem WX:Bu E1 2000 80 [.sl 5 (exC.take 2)]=some (.tp [i4 0,i4 0]):=by kernel_rfl
theorem WY:Bu E1 2000 80 [.sl 5 (exC.drop 1)]=some (.tp [i4 0,i4 31]):=by kernel_rfl
theorem ZM:EnvOk E3:=LG Xt ⟨Tryz.call80⟩ ⟨⟨2000,WW⟩,⟨2000,WX⟩,⟨2000,WY⟩,trivial⟩
def Vk:List (List AV×AV):=[([.sl 5 exC],.tp [.sl 1 exO,.v (.bool true)]),([.sl 5 (exC.take 2)],.tp [.sl 1 (exO.take 2),.v (.bool true)])]
noncomputable def E4:Env:=E3.withX 75 (PV Vk)
theorem VW:Bu E3 2000 75 [.sl 5 exC]=some (.tp [.sl 1 exO,.v (.bool true)]):=by kernel_rfl
theorem VX:Bu E3 2000 75 [.sl 5 (exC.take 2)]=some (.tp [.sl 1 (exO.take 2),.v (.bool true)]):=by kernel_rfl
theorem ZN:EnvOk E4:=LG ZM ⟨Tryz.call75⟩ ⟨⟨2000,VW⟩,⟨2000,VX⟩,trivial⟩
def Yy:List (List AV×AV):=[([.sl 5 exC,.sl 9 exG],.tp [.sl 1 [i4 2,i4 1,i4 4,i4 0,i4 3],i4 0]),([.sl 5 (exC.take 2),.sl 9 exG],.tp [.e0,i4 32])]
noncomputable def E5:Env:=E4.withX 26 (PV Yy)
theorem Ut:Bu E4 2000 26 [.sl 5 exC,.sl 9 exG]=some (.tp [.sl 1 [i4 2,i4 1,i4 4,i4 0,i4 3],i4 0]):=by kernel_rfl
theorem Uu:Bu E4 2000 26 [.sl 5 (exC.take 2),.sl 9 exG]=some (.tp [.e0,i4 32]):=by kernel_rfl
theorem ZO:EnvOk E5:=LG ZN ⟨Tryz.call26⟩ ⟨⟨2000,Ut⟩,⟨2000,Uu⟩,trivial⟩
def Vl:List (List AV×AV):=[([.sl 5 exC,exG.headD .e0,(exG.drop 4).headD .e0,i4 0,i4 4],.tp [i4 2,i4 1])]
noncomputable def E6:Env:=E5.withX 21 (PV Vl)
theorem Sr:Bu E5 2000 21 [.sl 5 exC,exG.headD .e0,(exG.drop 4).headD .e0,i4 0,i4 4]=some (.tp [i4 2,i4 1]):=by kernel_rfl
theorem ZP:EnvOk E6:=LG ZO ⟨Tryz.call21⟩ ⟨⟨2000,Sr⟩,trivial⟩
def TD:List (List AV×AV):=[([.sl 5 exC,.sl 9 exG],.sl 1 [i4 0,i4 1,i4 2])]
noncomputable def E7:Env:=E6.withX 68 (PV TD)
theorem QR:Bu E6 2000 68 [.sl 5 exC,.sl 9 exG]=some (.sl 1 [i4 0,i4 1,i4 2]):=by kernel_rfl
theorem ZQ:EnvOk E7:=LG ZP ⟨Tryz.call68⟩ ⟨⟨2000,QR⟩,trivial⟩
def Xd:List (List AV×AV):=[([.sl 5 (exC.take 2),.sl 9 exG],.sl 1 [i4 2,i4 1,i4 0,i4 3,i4 2])]
noncomputable def E8:Env:=E7.withX 25 (PV Xd)
theorem TT:Bu E7 2000 25 [.sl 5 (exC.take 2),.sl 9 exG]=some (.sl 1 [i4 2,i4 1,i4 0,i4 3,i4 2]):=by kernel_rfl
theorem ZR:EnvOk E8:=LG ZQ ⟨Tryz.call25⟩ ⟨⟨2000,TT⟩,trivial⟩
def Vj:List (List AV×AV):=[([.sl 5 (exC.drop 1)],.st [])]
noncomputable def E9:Env:=E8.withX 73 (PV Vj)
theorem Sq:Bu E8 2000 73 [.sl 5 (exC.drop 1)]=some (.st []):=by kernel_rfl
theorem ZS:EnvOk E9:=LG ZR ⟨Tryz.call73⟩ ⟨⟨2000,Sq⟩,trivial⟩
def Yz:List (List AV×AV):=[([.sl 5 exC,.sl 5 exC],.v (.bool true))]
noncomputable def E10:Env:=E9.withX 69 (PV Yz)
theorem Uv:Bu E9 2000 69 [.sl 5 exC,.sl 5 exC]=some (.v (.bool true)):=by kernel_rfl
theorem Xp:EnvOk E10:=LG ZS ⟨Tryz.call69⟩ ⟨⟨2000,Uv⟩,trivial⟩
def Q1:List (List AV×AV):=[([.sl 1 [i4 2,i4 1,i4 0,i4 3,i4 2],.sl 1 [i4 0,i4 1,i4 2,i4 3,i4 4]],i4 4)]
noncomputable def E11:Env:=E10.withX 28 (PV Q1)
theorem Ov:Bu E10 2000 28 [.sl 1 [i4 2,i4 1,i4 0,i4 3,i4 2],.sl 1 [i4 0,i4 1,i4 2,i4 3,i4 4]]=some (i4 4):=by kernel_rfl
theorem Xq:EnvOk E11:=LG Xp ⟨Tryz.call28⟩ ⟨⟨2000,Ov⟩,trivial⟩
def Ua:List (List AV×AV):=[([],.tp [.sl 5 exC,.sl 9 exG])]
noncomputable def E12:Env:=E11.withX 71 (PV Ua)
theorem RB:Bu E11 2000 71 []=some (.tp [.sl 5 exC,.sl 9 exG]):=by kernel_rfl
theorem Xr:EnvOk E12:=LG Xq ⟨Tryz.call71⟩ ⟨⟨2000,RB⟩,trivial⟩
def Ub:List (List AV×AV):=[([.st exT],.tp [.sl 5 exC,i4 0,i4 0])]
theorem TU:dfX E1 3000 Tryz.f72 124 2 [.st exT]=some (.tp [.sl 5 exC,i4 0,i4 0]):=by kernel_rfl
theorem Ui:EnvOk (E1.withX 72 (PV Ub)):=Xb ZL fun p hp=>by
 rw [List.mem_singleton.1 hp]; exact TU
noncomputable def E13:Env:=E12.withX 72 (PV Ub)
theorem Xs:EnvOk E13:=Vq Xr Ui rfl rfl
def isT (r:Option (AV×Hp)):Bool:=match r with
 | some (.v (.bool true),_)=>true
 | _=>false
theorem W1 {r:Option (AV×Hp)}(h:isT r=true):∃ h',r=some (.v (.bool true),h'):=by
 unfold isT at h
 split at h
 ·exact ⟨_,rfl⟩
 ·cases h
set_option maxRecDepth 1000000 in
theorem X2:isT (SG E13 3000 18 [] [])=true:=by kernel_rfl
theorem Uw:∃ h,SG E13 3000 18 [] []=some (.v (.bool true),h):=W1 X2
theorem TV (w:World):Ret Tryz.prog 18 #[] w fun v w'=>v = .bool true/\w.grownBy w' none:=by
 obtain ⟨h,e⟩:=Uw
 exact Vf (E:=E13) (Z:=fun _=>False) (us:=[]) Xs e (fun c hc=>hc.elim) (fun g x h=>by cases h) .nil
theorem Xe {w:World}{Z:Nat->Prop}:VR w Z [] (.v (.bool true)) (.bool true):= .v rfl
def N4:Option Bool:=some true
def Oz:Cs Unit:=csN
def O0 (b:Bool):AV:=cdB.enc b
def QD:List AV->Option AV:=Ee Oz (fun _=>N4) O0
theorem QL:XOk 18 QD:=by
 refine ⟨⟨Tryz.call18⟩,fun xs x h w Z us _ _ hv=>?_⟩
 obtain ⟨a,ha,h⟩:=OB h
 obtain ⟨b,hb,rfl⟩:=Option.map_eq_some_iff.1 h
 have hb:=OI hb
 subst hb
 have:xs=[]:=by
  cases xs with
  | nil=>rfl
  | cons x xs=>cases ha
 subst this
 have:us=[]:=by have:=hv.len; simpa using this
 subst this
 exact Ret.mono (TV w) fun v w' h=>⟨h.2,by rw [h.1]; exact Xe⟩
/- trestle/trestlelaw03.CourtTakes$1 -/
noncomputable def Ev:Code:=Bo Tryz.f40
def C6 (x0:Int) (x1:(List (List UInt8))) (x2:(List Aq)):Option (Int×(List (List UInt8))×(List Aq)) :=
 (idx x2 x0).bind fun v2 =>
 (A4 x1 v2.2.2.1).bind fun v3 =>
 if (decide (v3≥0))=true then
 some (v3,x1,x2)
 else
 some (4,x1,x2)
theorem GQ {L:List Asn}{hp:Hp}(x0:Int) (u0:AV) (x1:(List (List UInt8))) (u1:AV) (x2:(List Aq)) (r:Int×(List (List UInt8))×(List Aq)) (h:C6 x0 x1 x2=some r) (hT:T hp ((cel u0 1 40 (.sl 1 (x1.map cdS.enc)))::(cel u1 1 23 (.sl 9 (x2.map AH.enc)))::L)):SemY E0 ⟨none,false⟩ Ev ⟨Fr 16 (BQ 0 [.v (.int .i64 x0),u0,u1]),hp⟩ fun x s'=>(x = .normal\/x = .ret)/\∃ ys,Es E0.P s'.fr s'.hp Tryz.f40.results.toList=some ys/\(fun v h'=>v = .v (.int .i64 r.1)/\T h' ((cel u0 1 40 (.sl 1 (r.2.1.map cdS.enc)))::(cel u1 1 23 (.sl 9 (r.2.2.map AH.enc)))::L)) (FG ys) s'.hp:=by
 unfold C6 at h;refine HK (IJ (s1:=⟨Fr 16 [(0,.v (.int .i64 x0)),(1,u0),(2,u1)],hp⟩) WkY.f1 ?_);refine BJ AC [(0,.v (.int .i64 x0)),(1,u0),(2,u1)] ?_;refine AK ?_;refine AK ?_;refine IC 8 AC.mixed kr kr ?_;refine RunDT.q (x:= .sl 1 (x1.map cdS.enc)) rfl kr rfl (AA rfl) rfl (CR (p:=u0) kr (DQ (y:= .sl 1 (x1.map cdS.enc)) (m:=1) (g:=false) hT kr kr kr)) (FK hT kr) ?_
 have hT1:=(hT.front 1 rfl)
 refine RunDT.q (x:= .sl 9 (x2.map AH.enc)) rfl kr rfl (AA rfl) rfl (CR (p:=u1) kr (DQ (y:= .sl 9 (x2.map AH.enc)) (m:=1) (g:=false) hT1 kr kr kr)) (FK (hT.front 1 rfl) kr) ?_;refine RunDT.q (x:= .v (.int .i64 x0)) rfl kr rfl (AA rfl) rfl kr kr ?_;obtain ⟨v2,hv2,h⟩:=OB h;refine RunDT.q (x:= .pe (AH.enc v2) 0) rfl kr rfl (AA rfl) rfl (AQ (a:= .sl 9 (x2.map AH.enc)) (b:= .v (.int .i64 x0)) kr kr (GS (e:=AH.enc) (el:=42) (k:=9) (ki:= .i64) kr kr hv2)) kr ?_;refine RunDT.q (x:= .pe (AH.enc v2) 2) rfl kr rfl (AA rfl) rfl kr kr ?_;refine RunDT.q (x:= .st v2.2.2.1) rfl kr rfl (AA rfl) rfl kr kr ?_;obtain ⟨v3,hv3,h⟩:=OB h;refine G9 (v:=v3) (caps:=[]) (xs:=[.sl 1 (x1.map cdS.enc),.st v2.2.2.1]) (u:=(x1,v2.2.2.1,())) rfl rfl Dr rfl (AA rfl) kr kr (A2 (CG (c:=(cdL 1 cdS)) (v:=x1)) (A2 (CG (c:=cdS) (v:=v2.2.2.1)) SeesD.nil)) kr hv3 ?_;refine RunDT.q (x:= .v (.int .i64 v3)) rfl kr rfl (AA rfl) rfl kr kr ?_;refine RunDT.done rfl (SemY.fr (l':=[(5,.v (.int .i64 v3))]) kr ?_);refine BJ AC [(5,.v (.int .i64 v3)),(14,.v (.bool (decide (v3≥0))))] ?_;refine BW (b:=(decide (v3≥0))) kr (fun hb4=>?_) (fun hb4=>?_)
 ·rw [if_pos hb4] at h
  refine BJ AC [(4,.v (.int .i64 v3))] ?_;refine SemY.ret ?_;have hq:=OI h; subst hq;exact ⟨⟨Fr 16 [(4,.v (.int .i64 v3))],hp⟩,WkY.f1,.inr rfl,[.v (.int .i64 v3)],kr,⟨rfl,(hT1.front 1 rfl)⟩⟩
 ·rw [Cg hb4] at h
  refine SemY.skip ?_;refine BJ AC [(4,.v (.int .i64 4))] ?_;refine SemY.ret ?_;have hq:=OI h; subst hq;exact ⟨⟨Fr 16 [(4,.v (.int .i64 4))],hp⟩,WkY.f1,.inr rfl,[.v (.int .i64 4)],kr,⟨rfl,(hT1.front 1 rfl)⟩⟩
end Go.Proofs.YtlalcoehgkmhlaaGreatDoor
