/- Lemmas for the proof. -/
import Derived.Test.YtlalcoehgkmhlaaGreatDoorCourtReverseM1
import Derived.Test.YtlalcoehgkmhlaaGreatDoorCourtReverseM2
import Derived.Test.YtlalcoehgkmhlaaGreatDoorCourtReverseM3
import Derived.Test.YtlalcoehgkmhlaaGreatDoorCourtReverseM4
import Derived.RecoverIn
import Derived.Shelf.Strings.Search1
import Derived.Shelf.Strings.Count
set_option maxHeartbeats 4000000
set_option maxRecDepth 100000
namespace Go.Proofs.YtlalcoehgkmhlaaGreatDoor
open Go.RowKit
/- trestle/court.placed$1 -/
noncomputable def I1:Code:=Bh Tryz.f208
def CU (x0:Int):Option (Bool) :=
 (if (decide (x0≥0))=true then some (decide (x0<=63)) else some false).bind fun j2 =>
 some j2
def Gp:Cs (Int×Unit):=(csC cdI csN)
def Gq (r:Bool):AV:=cdB.enc r
theorem Lb (x0:Int) (r:Bool) (h:CU x0=some r):Sem E0 ⟨none,false⟩ I1 ⟨Fr 9 (BN 0 (Gp.enc (x0,()))),[]⟩ fun e s'=>(e = .normal\/e = .ret)/\∃ xs,Eo E0.P s'.fr s'.hp Tryz.f208.results.toList=some xs/\Es xs=Gq r:=by
 unfold CU at h;refine BJ (CB (s1:=⟨Fr 9 [(0,.v (.int .i64 x0))],[]⟩) AQ ?_);refine AL AC [(0,.v (.int .i64 x0))] [] ?_;refine AG ?_;obtain ⟨j2,hj2,h⟩:=OB h;refine AJ (s1:=⟨Fr 9 [(2,.v (.bool j2))],[]⟩) ?_ ?_
 ·refine AE (n:=9) AC 3 [(0,.v (.int .i64 x0)),(5,.v (.bool (decide (x0≥0))))] [] kr ?_
  rcases BE (decide (x0≥0)) with hc3 | hc3
  ·rw [if_pos hc3] at hj2
   rw [hc3];refine AE (n:=9) AC 4 [(2,.v (.bool (decide (x0<=63))))] [] kr ?_;have hq:=OI hj2; subst hq;exact AI rfl AQ
  ·rw [Ce hc3] at hj2
   rw [hc3];refine AE (n:=9) AC 4 [(2,.v (.bool false))] [] kr ?_;have hq:=OI hj2; subst hq;exact AI rfl AQ
 refine AX ?_;have hq:=OI h; subst hq;exact ⟨⟨Fr 9 [(2,.v (.bool j2))],[]⟩,AQ,.inr rfl,[.v (.bool j2)],kr,kr⟩
def M1:List AV->Option AV:=EF Gp (fun a=>CU a.1) Gq
theorem Fj:XOk 208 M1:=by
 refine AR Tryz.func208 (c:=I1) ?h2 ⟨Tryz.call208⟩ Gp (fun a=>CU a.1) Gq (fun a=>(by show 1<=9; decide)) ?h3 ?h4
 case h2=>kernel_rfl
 case h3=>intro b; kernel_rfl
 case h4=>exact fun a b h=>Lb a.1 b h
/- trestle/court.plain$8 -/
noncomputable def Jx:Code:=Bh Tryz.f190
def Dc (x0:Int) (x1:AD):Option (Int) :=
 some ((wr .i64 ((wr .i64 (x0 * (wr .i64 ((wr .i64 (2 * x1.2.2.2.2)) + 1)))) + x1.2.2.2.2)).tmod 64)
def HV:Cs (Int×AD×Unit):=(csC cdI (csC (cdP AA) csN))
def Hk (r:Int):AV:=cdI.enc r
theorem L8 (x0:Int) (x1:AD) (r:Int) (h:Dc x0 x1=some r):Sem E0 ⟨none,false⟩ Jx ⟨Fr 14 (BN 0 (HV.enc (x0,x1,()))),[]⟩ fun e s'=>(e = .normal\/e = .ret)/\∃ xs,Eo E0.P s'.fr s'.hp Tryz.f190.results.toList=some xs/\Es xs=Hk r:=by
 unfold Dc at h;refine BJ (CB (s1:=⟨Fr 14 [(0,.v (.int .i64 x0)),(1,.pe (AA.enc x1) 0)],[]⟩) AQ ?_);refine AL AC [(0,.v (.int .i64 x0)),(1,.pe (AA.enc x1) 0)] [] ?_
 let p1:Nat×AV:=(3,.v (.int .i64 ((wr .i64 ((wr .i64 (x0 * (wr .i64 ((wr .i64 (2 * x1.2.2.2.2)) + 1)))) + x1.2.2.2.2)).tmod 64)))
 refine AL AC [p1] [] ?_;refine AX ?_;have hq:=OI h; subst hq;exact ⟨⟨Fr 14 [p1],[]⟩,AQ,.inr rfl,[.v (.int .i64 ((wr .i64 ((wr .i64 (x0 * (wr .i64 ((wr .i64 (2 * x1.2.2.2.2)) + 1)))) + x1.2.2.2.2)).tmod 64))],kr,kr⟩
def OE:List AV->Option AV:=EF HV (fun a=>Dc a.1 a.2.1) Hk
theorem Ke:XOk 190 OE:=by
 refine AR Tryz.func190 (c:=Jx) ?h2 ⟨Tryz.call190⟩ HV (fun a=>Dc a.1 a.2.1) Hk (fun a=>(by show 2<=14; decide)) ?h3 ?h4
 case h2=>kernel_rfl
 case h3=>intro b; kernel_rfl
 case h4=>exact fun a b h=>L8 a.1 a.2.1 b h
/- trestle/court.placed$2 -/
noncomputable def CZ:Code:=Bh Tryz.f209
def Ac (x0:Ai) (x1:Ai) (x3:AD):Option (Int) :=
 (CU x0.2).bind fun v1 =>
 (if (!v1)=true then some true else (CU x1.2).bind fun v2 =>
 some (!v2)).bind fun j4 =>
 if j4=true then
 some 0
 else
 (Dc x0.2 x3).bind fun v6 =>
 (Dc x1.2 x3).bind fun v7 =>
 (B4 v6 v7).bind fun v8 =>
 some v8
def Bm:Cs (Ai×Ai×Unit×AD×Unit):=(csC AF (csC AF (csC (cdP (cdF 208 csN (fun _=>rfl))) (csC (cdP (cdF 190 (csE (cdP AA)) (fun _=>rfl))) csN))))
def Bp (r:Int):AV:=cdI.enc r
theorem Dz (x0:Ai) (x1:Ai) (x3:AD) (r:Int) (h:Ac x0 x1 x3=some r):Sem E0 ⟨none,false⟩ CZ ⟨Fr 28 (BN 0 (Bm.enc (x0,x1,(),x3,()))),[]⟩ fun e s'=>(e = .normal\/e = .ret)/\∃ xs,Eo E0.P s'.fr s'.hp Tryz.f209.results.toList=some xs/\Es xs=Bp r:=by
 unfold Ac at h;refine BJ (CB (s1:=⟨Fr 28 [(0,AF.enc x0),(1,AF.enc x1),(2,.pe (.fn 208 [] []) 0),(3,.pe (.fn 190 [] [.pe (AA.enc x3) 0]) 0)],[]⟩) AQ ?_);refine AL AC [(2,.pe (.fn 208 [] []) 0),(3,.pe (.fn 190 [] [.pe (AA.enc x3) 0]) 0),(4,.pt 0 0 0),(5,.pt 1 0 0)] [some ⟨10,115,[AF.enc x0],false⟩,some ⟨10,115,[AF.enc x1],false⟩] ?_;refine AG ?_;refine AG ?_;obtain ⟨v1,hv1,h⟩:=OB h;obtain ⟨j4,hj4,h⟩:=OB h;refine AJ (s1:=⟨Fr 28 [(3,.pe (.fn 190 [] [.pe (AA.enc x3) 0]) 0),(4,.pt 0 0 0),(5,.pt 1 0 0),(18,.v (.bool j4))],[some ⟨10,115,[AF.enc x0],false⟩,some ⟨10,115,[AF.enc x1],false⟩]⟩) ?_ ?_
 ·refine AE (n:=28) AC 3 [(2,.pe (.fn 208 [] []) 0),(3,.pe (.fn 190 [] [.pe (AA.enc x3) 0]) 0),(4,.pt 0 0 0),(5,.pt 1 0 0),(7,.fn 208 [] []),(9,.v (.int .i64 x0.2))] [some ⟨10,115,[AF.enc x0],false⟩,some ⟨10,115,[AF.enc x1],false⟩] kr ?_
  refine Av (caps:=[]) (xs:=[.v (.int .i64 x0.2)]) (u:=(x0.2,())) rfl rfl Fj rfl (AB rfl) kr kr (AW (Ax (c:=cdI) (v:=x0.2)) B6) (.inl kr) hv1 ?_;refine AE (n:=28) AC 2 [(2,.pe (.fn 208 [] []) 0),(3,.pe (.fn 190 [] [.pe (AA.enc x3) 0]) 0),(4,.pt 0 0 0),(5,.pt 1 0 0),(12,.v (.bool (!v1)))] [some ⟨10,115,[AF.enc x0],false⟩,some ⟨10,115,[AF.enc x1],false⟩] kr ?_;rcases BE (!v1) with hc9 | hc9
  ·rw [if_pos hc9] at hj4
   rw [hc9];refine AE (n:=28) AC 6 [(3,.pe (.fn 190 [] [.pe (AA.enc x3) 0]) 0),(4,.pt 0 0 0),(5,.pt 1 0 0),(18,.v (.bool true))] [some ⟨10,115,[AF.enc x0],false⟩,some ⟨10,115,[AF.enc x1],false⟩] kr ?_;have hq:=OI hj4; subst hq;exact AI rfl (Ao [0,1] ⟨⟨_,rfl,C2⟩,⟨_,rfl,C2⟩,trivial⟩ ⟨lv,lv,lv,lv,trivial⟩)
  ·rw [Ce hc9] at hj4
   rw [hc9];refine AE (n:=28) AC 3 [(3,.pe (.fn 190 [] [.pe (AA.enc x3) 0]) 0),(4,.pt 0 0 0),(5,.pt 1 0 0),(12,.v (.bool false)),(13,.fn 208 [] []),(15,.v (.int .i64 x1.2))] [some ⟨10,115,[AF.enc x0],false⟩,some ⟨10,115,[AF.enc x1],false⟩] kr ?_;obtain ⟨v2,hv2,hj4⟩:=OB hj4;refine Av (caps:=[]) (xs:=[.v (.int .i64 x1.2)]) (u:=(x1.2,())) rfl rfl Fj rfl kr kr kr (AW (Ax (c:=cdI) (v:=x1.2)) B6) (.inl kr) hv2 ?_;refine AE (n:=28) AC 2 [(3,.pe (.fn 190 [] [.pe (AA.enc x3) 0]) 0),(4,.pt 0 0 0),(5,.pt 1 0 0),(18,.v (.bool (!v2)))] [some ⟨10,115,[AF.enc x0],false⟩,some ⟨10,115,[AF.enc x1],false⟩] kr ?_;have hq:=OI hj4; subst hq;exact AI rfl (Ao [0,1] ⟨⟨_,rfl,C2⟩,⟨_,rfl,C2⟩,trivial⟩ ⟨lv,lv,lv,lv,trivial⟩)
 refine AT (b:=j4) kr (fun hb5=>?_) (fun hb5=>?_)
 ·rw [if_pos hb5] at h
  refine AG ?_;refine AJ (s1:=⟨Fr 28 [(6,.v (.int .i64 0))],[]⟩) ?_ ?_
  ·refine AE (n:=28) AC 1 [(6,.v (.int .i64 0))] [some ⟨10,115,[AF.enc x0],false⟩,some ⟨10,115,[AF.enc x1],false⟩] kr ?_
   exact AI rfl (Ao [] trivial ⟨lv,trivial⟩)
  refine AX ?_;have hq:=OI h; subst hq;exact ⟨⟨Fr 28 [(6,.v (.int .i64 0))],[]⟩,AQ,.inr rfl,[.v (.int .i64 0)],kr,kr⟩
 ·rw [Ce hb5] at h
  refine Ae ?_;refine AG ?_;obtain ⟨v6,hv6,h⟩:=OB h;obtain ⟨v7,hv7,h⟩:=OB h;obtain ⟨v8,hv8,h⟩:=OB h;refine FV AC (s1:=⟨Fr 28 [(6,.v (.int .i64 v8))],[]⟩) kr ?_ ?_
  ·refine BV (n:=28) AC 3 [(3,.pe (.fn 190 [] [.pe (AA.enc x3) 0]) 0),(5,.pt 1 0 0),(19,.fn 190 [] [.pe (AA.enc x3) 0]),(21,.v (.int .i64 x0.2))] [some ⟨10,115,[AF.enc x0],false⟩,some ⟨10,115,[AF.enc x1],false⟩] kr kr ?_
   refine CM (caps:=[.pe (AA.enc x3) 0]) (xs:=[.v (.int .i64 x0.2)]) (u:=(x0.2,x3,())) rfl rfl Ke rfl (AB rfl) kr kr (AW (Ax (c:=cdI) (v:=x0.2)) (AW (Ax (c:=(cdP AA)) (v:=x3)) B6)) kr hv6 ?_;refine BV (n:=28) AC 3 [(22,.v (.int .i64 v6)),(23,.fn 190 [] [.pe (AA.enc x3) 0]),(25,.v (.int .i64 x1.2))] [some ⟨10,115,[AF.enc x0],false⟩,some ⟨10,115,[AF.enc x1],false⟩] kr kr ?_;refine CM (caps:=[.pe (AA.enc x3) 0]) (xs:=[.v (.int .i64 x1.2)]) (u:=(x1.2,x3,())) rfl rfl Ke rfl (AB rfl) kr kr (AW (Ax (c:=cdI) (v:=x1.2)) (AW (Ax (c:=(cdP AA)) (v:=x3)) B6)) kr hv7 ?_;refine CM (caps:=[]) (xs:=[.v (.int .i64 v6),.v (.int .i64 v7)]) (u:=(v6,v7,())) rfl rfl Eb rfl (AB rfl) kr kr (AW (Ax (c:=cdI) (v:=v6)) (AW (Ax (c:=cdI) (v:=v7)) B6)) kr hv8 ?_;refine BV (n:=28) AC 1 [(6,.v (.int .i64 v8))] [some ⟨10,115,[AF.enc x0],false⟩,some ⟨10,115,[AF.enc x1],false⟩] kr kr ?_;exact RunDS.done rfl (Ao [] trivial ⟨lv,trivial⟩)
  refine AX ?_;have hq:=OI h; subst hq;exact ⟨⟨Fr 28 [(6,.v (.int .i64 v8))],[]⟩,AQ,.inr rfl,[.v (.int .i64 v8)],kr,kr⟩
def EI:List AV->Option AV:=EF Bm (fun a=>Ac a.1 a.2.1 a.2.2.2.1) Bp
theorem EL:XOk 209 EI:=by
 refine AR Tryz.func209 (c:=CZ) ?h2 ⟨Tryz.call209⟩ Bm (fun a=>Ac a.1 a.2.1 a.2.2.2.1) Bp (fun a=>(by show 4<=28; decide)) ?h3 ?h4
 case h2=>kernel_rfl
 case h3=>intro b; kernel_rfl
 case h4=>exact fun a b h=>Dz a.1 a.2.1 a.2.2.2.1 b h
/- trestle/court.plain$9 -/
noncomputable def Jy:Code:=Bh Tryz.f191
def El (x0:Int):Option (Int) :=
 some x0
def HW:Cs (Int×Unit):=(csC cdI csN)
def Hl (r:Int):AV:=cdI.enc r
theorem L9 (x0:Int) (r:Int) (h:El x0=some r):Sem E0 ⟨none,false⟩ Jy ⟨Fr 4 (BN 0 (HW.enc (x0,()))),[]⟩ fun e s'=>(e = .normal\/e = .ret)/\∃ xs,Eo E0.P s'.fr s'.hp Tryz.f191.results.toList=some xs/\Es xs=Hl r:=by
 unfold El at h;refine BJ (CB (s1:=⟨Fr 4 [(0,.v (.int .i64 x0))],[]⟩) AQ ?_);refine AL AC [(0,.v (.int .i64 x0))] [] ?_;refine AL AC [(2,.v (.int .i64 x0))] [] ?_;refine AX ?_;have hq:=OI h; subst hq;exact ⟨⟨Fr 4 [(2,.v (.int .i64 x0))],[]⟩,AQ,.inr rfl,[.v (.int .i64 x0)],kr,kr⟩
def OF:List AV->Option AV:=EF HW (fun a=>El a.1) Hl
theorem Kf:XOk 191 OF:=by
 refine AR Tryz.func191 (c:=Jy) ?h2 ⟨Tryz.call191⟩ HW (fun a=>El a.1) Hl (fun a=>(by show 1<=4; decide)) ?h3 ?h4
 case h2=>kernel_rfl
 case h3=>intro b; kernel_rfl
 case h4=>exact fun a b h=>L9 a.1 b h
/- trestle/court.placed$2 -/
noncomputable def Ca:Code:=Bh Tryz.f209
def Ad (x0:Ai) (x1:Ai):Option (Int) :=
 (CU x0.2).bind fun v1 =>
 (if (!v1)=true then some true else (CU x1.2).bind fun v2 =>
 some (!v2)).bind fun j4 =>
 if j4=true then
 some 0
 else
 (El x0.2).bind fun v6 =>
 (El x1.2).bind fun v7 =>
 (B4 v6 v7).bind fun v8 =>
 some v8
def Bn:Cs (Ai×Ai×Unit×Unit×Unit):=(csC AF (csC AF (csC (cdP (cdF 208 csN (fun _=>rfl))) (csC (cdP (cdF 191 csN (fun _=>rfl))) csN))))
def Bq (r:Int):AV:=cdI.enc r
theorem D0 (x0:Ai) (x1:Ai) (r:Int) (h:Ad x0 x1=some r):Sem E0 ⟨none,false⟩ Ca ⟨Fr 28 (BN 0 (Bn.enc (x0,x1,(),(),()))),[]⟩ fun e s'=>(e = .normal\/e = .ret)/\∃ xs,Eo E0.P s'.fr s'.hp Tryz.f209.results.toList=some xs/\Es xs=Bq r:=by
 unfold Ad at h;refine BJ (CB (s1:=⟨Fr 28 [(0,AF.enc x0),(1,AF.enc x1),(2,.pe (.fn 208 [] []) 0),(3,.pe (.fn 191 [] []) 0)],[]⟩) AQ ?_);refine AL AC [(2,.pe (.fn 208 [] []) 0),(3,.pe (.fn 191 [] []) 0),(4,.pt 0 0 0),(5,.pt 1 0 0)] [some ⟨10,115,[AF.enc x0],false⟩,some ⟨10,115,[AF.enc x1],false⟩] ?_;refine AG ?_;refine AG ?_;obtain ⟨v1,hv1,h⟩:=OB h;obtain ⟨j4,hj4,h⟩:=OB h;refine AJ (s1:=⟨Fr 28 [(3,.pe (.fn 191 [] []) 0),(4,.pt 0 0 0),(5,.pt 1 0 0),(18,.v (.bool j4))],[some ⟨10,115,[AF.enc x0],false⟩,some ⟨10,115,[AF.enc x1],false⟩]⟩) ?_ ?_
 ·refine AE (n:=28) AC 3 [(2,.pe (.fn 208 [] []) 0),(3,.pe (.fn 191 [] []) 0),(4,.pt 0 0 0),(5,.pt 1 0 0),(7,.fn 208 [] []),(9,.v (.int .i64 x0.2))] [some ⟨10,115,[AF.enc x0],false⟩,some ⟨10,115,[AF.enc x1],false⟩] kr ?_
  refine Av (caps:=[]) (xs:=[.v (.int .i64 x0.2)]) (u:=(x0.2,())) rfl rfl Fj rfl (AB rfl) kr kr (AW (Ax (c:=cdI) (v:=x0.2)) B6) (.inl kr) hv1 ?_;refine AE (n:=28) AC 2 [(2,.pe (.fn 208 [] []) 0),(3,.pe (.fn 191 [] []) 0),(4,.pt 0 0 0),(5,.pt 1 0 0),(12,.v (.bool (!v1)))] [some ⟨10,115,[AF.enc x0],false⟩,some ⟨10,115,[AF.enc x1],false⟩] kr ?_;rcases BE (!v1) with hc9 | hc9
  ·rw [if_pos hc9] at hj4
   rw [hc9];refine AE (n:=28) AC 6 [(3,.pe (.fn 191 [] []) 0),(4,.pt 0 0 0),(5,.pt 1 0 0),(18,.v (.bool true))] [some ⟨10,115,[AF.enc x0],false⟩,some ⟨10,115,[AF.enc x1],false⟩] kr ?_;have hq:=OI hj4; subst hq;exact AI rfl (Ao [0,1] ⟨⟨_,rfl,C2⟩,⟨_,rfl,C2⟩,trivial⟩ ⟨lv,lv,lv,lv,trivial⟩)
  ·rw [Ce hc9] at hj4
   rw [hc9];refine AE (n:=28) AC 3 [(3,.pe (.fn 191 [] []) 0),(4,.pt 0 0 0),(5,.pt 1 0 0),(12,.v (.bool false)),(13,.fn 208 [] []),(15,.v (.int .i64 x1.2))] [some ⟨10,115,[AF.enc x0],false⟩,some ⟨10,115,[AF.enc x1],false⟩] kr ?_;obtain ⟨v2,hv2,hj4⟩:=OB hj4;refine Av (caps:=[]) (xs:=[.v (.int .i64 x1.2)]) (u:=(x1.2,())) rfl rfl Fj rfl kr kr kr (AW (Ax (c:=cdI) (v:=x1.2)) B6) (.inl kr) hv2 ?_;refine AE (n:=28) AC 2 [(3,.pe (.fn 191 [] []) 0),(4,.pt 0 0 0),(5,.pt 1 0 0),(18,.v (.bool (!v2)))] [some ⟨10,115,[AF.enc x0],false⟩,some ⟨10,115,[AF.enc x1],false⟩] kr ?_;have hq:=OI hj4; subst hq;exact AI rfl (Ao [0,1] ⟨⟨_,rfl,C2⟩,⟨_,rfl,C2⟩,trivial⟩ ⟨lv,lv,lv,lv,trivial⟩)
 refine AT (b:=j4) kr (fun hb5=>?_) (fun hb5=>?_)
 ·rw [if_pos hb5] at h
  refine AG ?_;refine AJ (s1:=⟨Fr 28 [(6,.v (.int .i64 0))],[]⟩) ?_ ?_
  ·refine AE (n:=28) AC 1 [(6,.v (.int .i64 0))] [some ⟨10,115,[AF.enc x0],false⟩,some ⟨10,115,[AF.enc x1],false⟩] kr ?_
   exact AI rfl (Ao [] trivial ⟨lv,trivial⟩)
  refine AX ?_;have hq:=OI h; subst hq;exact ⟨⟨Fr 28 [(6,.v (.int .i64 0))],[]⟩,AQ,.inr rfl,[.v (.int .i64 0)],kr,kr⟩
 ·rw [Ce hb5] at h
  refine Ae ?_;refine AG ?_;obtain ⟨v6,hv6,h⟩:=OB h;obtain ⟨v7,hv7,h⟩:=OB h;obtain ⟨v8,hv8,h⟩:=OB h;refine FV AC (s1:=⟨Fr 28 [(6,.v (.int .i64 v8))],[]⟩) kr ?_ ?_
  ·refine BV (n:=28) AC 3 [(3,.pe (.fn 191 [] []) 0),(5,.pt 1 0 0),(19,.fn 191 [] []),(21,.v (.int .i64 x0.2))] [some ⟨10,115,[AF.enc x0],false⟩,some ⟨10,115,[AF.enc x1],false⟩] kr kr ?_
   refine CM (caps:=[]) (xs:=[.v (.int .i64 x0.2)]) (u:=(x0.2,())) rfl rfl Kf rfl (AB rfl) kr kr (AW (Ax (c:=cdI) (v:=x0.2)) B6) kr hv6 ?_;refine BV (n:=28) AC 3 [(22,.v (.int .i64 v6)),(23,.fn 191 [] []),(25,.v (.int .i64 x1.2))] [some ⟨10,115,[AF.enc x0],false⟩,some ⟨10,115,[AF.enc x1],false⟩] kr kr ?_;refine CM (caps:=[]) (xs:=[.v (.int .i64 x1.2)]) (u:=(x1.2,())) rfl rfl Kf rfl (AB rfl) kr kr (AW (Ax (c:=cdI) (v:=x1.2)) B6) kr hv7 ?_;refine CM (caps:=[]) (xs:=[.v (.int .i64 v6),.v (.int .i64 v7)]) (u:=(v6,v7,())) rfl rfl Eb rfl (AB rfl) kr kr (AW (Ax (c:=cdI) (v:=v6)) (AW (Ax (c:=cdI) (v:=v7)) B6)) kr hv8 ?_;refine BV (n:=28) AC 1 [(6,.v (.int .i64 v8))] [some ⟨10,115,[AF.enc x0],false⟩,some ⟨10,115,[AF.enc x1],false⟩] kr kr ?_;exact RunDS.done rfl (Ao [] trivial ⟨lv,trivial⟩)
  refine AX ?_;have hq:=OI h; subst hq;exact ⟨⟨Fr 28 [(6,.v (.int .i64 v8))],[]⟩,AQ,.inr rfl,[.v (.int .i64 v8)],kr,kr⟩
def EJ:List AV->Option AV:=EF Bn (fun a=>Ad a.1 a.2.1) Bq
theorem EM:XOk 209 EJ:=by
 refine AR Tryz.func209 (c:=Ca) ?h2 ⟨Tryz.call209⟩ Bn (fun a=>Ad a.1 a.2.1) Bq (fun a=>(by show 4<=28; decide)) ?h3 ?h4
 case h2=>kernel_rfl
 case h3=>intro b; kernel_rfl
 case h4=>exact fun a b h=>D0 a.1 a.2.1 b h
theorem Wz {f:FuncId}(hc:Bw E0.P f){α β:Type}(s:Cs α) (F:α->Option β) (er:β->AV) (h:∀ a b,F a=some b->∃ t,XOk f t/\t (s.enc a)=some (er b)):XOk f (EF s F er):=by
 refine ⟨hc,fun xs y hy w Z us hz hg hv=>?_⟩
 obtain ⟨a,ha,hy⟩:=OB hy
 obtain ⟨b,hb,rfl⟩:=Option.map_eq_some_iff.1 hy
 obtain ⟨t,hX,ht⟩:=h a b hb
 exact hX.2 _ _ ht w Z us hz hg (s.vr ha hv)
def Dp (a b:Ai) (c:AD):Option Int :=
 if (c.1==1)=true then Bj (fun a b (v:(AD×Unit)×Unit)=>B9 (fun x (v:AD×Unit)=>DL x v.1) a b v.1) a b c ((c,()),()) else
 if (c.1==2)=true then Bj (fun a b (v:AD×Unit)=>Cj a b v.1) a b c (c,()) else
 if (c.1==3)=true then Bj (fun a b (v:AD×Unit)=>Cj a b v.1) a b c (c,()) else
 if (c.1==4)=true then Bj (fun a b (v:(AD×AD×Unit)×Unit)=>B9 (fun x (v:AD×AD×Unit)=>BA x v.1 v.2.1) a b v.1) a b c ((c,c,()),()) else
 if (c.1==5)=true then Bj (fun a b (v:(Unit×AD×Unit)×Unit)=>B9 (fun x (v:Unit×AD×Unit)=>BB x v.2.1) a b v.1) a b c (((),c,()),()) else
 if (c.1==6)=true then Bj (fun a b (v:(AD×AD×Unit)×Unit)=>B9 (fun x (v:AD×AD×Unit)=>A5 x v.1 v.2.1) a b v.1) a b c ((c,c,()),()) else
 if (c.1==7)=true then Bj (fun a b (v:(AD×AD×Unit)×Unit)=>B9 (fun x (v:AD×AD×Unit)=>A6 x v.1 v.2.1) a b v.1) a b c ((c,c,()),()) else
 if (c.1==8)=true then Bj (fun a b (_:Unit)=>D9 a b) a b c () else
 if (c.1==10)=true then Bj (fun a b (v:Unit×AD×Unit)=>Ac a b v.2.1) a b c ((),c,()) else
 Bj (fun a b (_:Unit×Unit×Unit)=>Ad a b) a b c ((),(),())
noncomputable def GK:Cs (Ai×Ai×AD):=csC AF (csC AF QA)
noncomputable def Ic (r:Int):AV:=cdI.enc r
noncomputable def MZ:List AV->Option AV:=EF GK (fun a=>Dp a.1 a.2.1 a.2.2) Ic
theorem Iy {α β:Type}{s:Cs α}{F:α->Option β}{er:β->AV}{a:α}{b:β}{xs:List AV}(h:F a=some b) (e:xs=s.enc a):EF s F er xs=some (er b):=e ▸ NI h
theorem V3 (a b:Ai) (c:AD):GK.enc (a,b,c)=[AF.enc a,AF.enc b,.pe (AA.enc c) 0,.pe (Le c) 0]:=rfl
theorem Mf:XOk 165 MZ:=by
 refine Wz ⟨Tryz.call165⟩ GK (fun a=>Dp a.1 a.2.1 a.2.2) Ic fun x r h=>?_
 obtain ⟨a,b,c⟩:=x
 rw [V3]
 dsimp only at h
 unfold Dp at h
 unfold Le
 rcases BE (c.1==1) with h1 | h1
 ·rw [if_pos h1] at h; rw [if_pos h1]
  exact ⟨_,CD (sx:=csC (cdP (cdF 178 (csC (cdP AA) csN) (fun _=>rfl))) csN) (hn:=fun _=>rfl) (G:=fun a b (v:(AD×Unit)×Unit)=>B9 (fun x (v:AD×Unit)=>DL x v.1) a b v.1) (HC (sx:=csC (cdP AA) csN) (hn:=fun _=>rfl) (G:=fun x (v:AD×Unit)=>DL x v.1) OQ),Iy (a:=(a,b,c,((c,()),()),())) h rfl⟩
 rw [if_neg (by rw [h1]; decide)] at h; rw [if_neg (by rw [h1]; decide)]
 rcases BE (c.1==2) with h1 | h1
 ·rw [if_pos h1] at h; rw [if_pos h1]
  exact ⟨_,CD (sx:=csC (cdP AA) csN) (hn:=fun _=>rfl) (G:=fun a b (v:AD×Unit)=>Cj a b v.1) Kd,Iy (a:=(a,b,c,(c,()),())) h rfl⟩
 rw [if_neg (by rw [h1]; decide)] at h; rw [if_neg (by rw [h1]; decide)]
 rcases BE (c.1==3) with h1 | h1
 ·rw [if_pos h1] at h; rw [if_pos h1]
  exact ⟨_,CD (sx:=csC (cdP AA) csN) (hn:=fun _=>rfl) (G:=fun a b (v:AD×Unit)=>Cj a b v.1) Kd,Iy (a:=(a,b,c,(c,()),())) h rfl⟩
 rw [if_neg (by rw [h1]; decide)] at h; rw [if_neg (by rw [h1]; decide)]
 rcases BE (c.1==4) with h1 | h1
 ·rw [if_pos h1] at h; rw [if_pos h1]
  exact ⟨_,CD (sx:=csC (cdP (cdF 206 (csC (cdP (cdF 182 (csE (cdP AA)) (fun _=>rfl))) (csC (cdP AA) csN)) (fun _=>rfl))) csN) (hn:=fun _=>rfl) (G:=fun a b (v:(AD×AD×Unit)×Unit)=>B9 (fun x (v:AD×AD×Unit)=>BA x v.1 v.2.1) a b v.1) (HC (sx:=csC (cdP (cdF 182 (csE (cdP AA)) (fun _=>rfl))) (csC (cdP AA) csN)) (hn:=fun _=>rfl) (G:=fun x (v:AD×AD×Unit)=>BA x v.1 v.2.1) HD),Iy (a:=(a,b,c,((c,c,()),()),())) h rfl⟩
 rw [if_neg (by rw [h1]; decide)] at h; rw [if_neg (by rw [h1]; decide)]
 rcases BE (c.1==5) with h1 | h1
 ·rw [if_pos h1] at h; rw [if_pos h1]
  exact ⟨_,CD (sx:=csC (cdP (cdF 206 (csC (cdP (cdF 183 csN (fun _=>rfl))) (csC (cdP AA) csN)) (fun _=>rfl))) csN) (hn:=fun _=>rfl) (G:=fun a b (v:(Unit×AD×Unit)×Unit)=>B9 (fun x (v:Unit×AD×Unit)=>BB x v.2.1) a b v.1) (HC (sx:=csC (cdP (cdF 183 csN (fun _=>rfl))) (csC (cdP AA) csN)) (hn:=fun _=>rfl) (G:=fun x (v:Unit×AD×Unit)=>BB x v.2.1) HE),Iy (a:=(a,b,c,(((),c,()),()),())) h rfl⟩
 rw [if_neg (by rw [h1]; decide)] at h; rw [if_neg (by rw [h1]; decide)]
 rcases BE (c.1==6) with h1 | h1
 ·rw [if_pos h1] at h; rw [if_pos h1]
  exact ⟨_,CD (sx:=csC (cdP (cdF 206 (csC (cdP (cdF 184 (csE (cdP AA)) (fun _=>rfl))) (csC (cdP AA) csN)) (fun _=>rfl))) csN) (hn:=fun _=>rfl) (G:=fun a b (v:(AD×AD×Unit)×Unit)=>B9 (fun x (v:AD×AD×Unit)=>A5 x v.1 v.2.1) a b v.1) (HC (sx:=csC (cdP (cdF 184 (csE (cdP AA)) (fun _=>rfl))) (csC (cdP AA) csN)) (hn:=fun _=>rfl) (G:=fun x (v:AD×AD×Unit)=>A5 x v.1 v.2.1) HF),Iy (a:=(a,b,c,((c,c,()),()),())) h rfl⟩
 rw [if_neg (by rw [h1]; decide)] at h; rw [if_neg (by rw [h1]; decide)]
 rcases BE (c.1==7) with h1 | h1
 ·rw [if_pos h1] at h; rw [if_pos h1]
  exact ⟨_,CD (sx:=csC (cdP (cdF 206 (csC (cdP (cdF 186 (csE (cdP AA)) (fun _=>rfl))) (csC (cdP AA) csN)) (fun _=>rfl))) csN) (hn:=fun _=>rfl) (G:=fun a b (v:(AD×AD×Unit)×Unit)=>B9 (fun x (v:AD×AD×Unit)=>A6 x v.1 v.2.1) a b v.1) (HC (sx:=csC (cdP (cdF 186 (csE (cdP AA)) (fun _=>rfl))) (csC (cdP AA) csN)) (hn:=fun _=>rfl) (G:=fun x (v:AD×AD×Unit)=>A6 x v.1 v.2.1) HG),Iy (a:=(a,b,c,((c,c,()),()),())) h rfl⟩
 rw [if_neg (by rw [h1]; decide)] at h; rw [if_neg (by rw [h1]; decide)]
 rcases BE (c.1==8) with h1 | h1
 ·rw [if_pos h1] at h; rw [if_pos h1]
  exact ⟨_,CD (sx:=csN) (hn:=fun _=>rfl) (G:=fun a b (_:Unit)=>D9 a b) OW,Iy (a:=(a,b,c,(),())) h rfl⟩
 rw [if_neg (by rw [h1]; decide)] at h; rw [if_neg (by rw [h1]; decide)]
 rcases BE (c.1==10) with h1 | h1
 ·rw [if_pos h1] at h; rw [if_pos h1]
  exact ⟨_,CD (sx:=csC (cdP (cdF 208 csN (fun _=>rfl))) (csC (cdP (cdF 190 (csE (cdP AA)) (fun _=>rfl))) csN)) (hn:=fun _=>rfl) (G:=fun a b (v:Unit×AD×Unit)=>Ac a b v.2.1) EL,Iy (a:=(a,b,c,((),c,()),())) h rfl⟩
 rw [if_neg (by rw [h1]; decide)] at h; rw [if_neg (by rw [h1]; decide)]
 exact ⟨_,CD (sx:=csC (cdP (cdF 208 csN (fun _=>rfl))) (csC (cdP (cdF 191 csN (fun _=>rfl))) csN)) (hn:=fun _=>rfl) (G:=fun a b (_:Unit×Unit×Unit)=>Ad a b) EM,Iy (a:=(a,b,c,((),(),()),())) h rfl⟩
/- trestle/court.first[trestle/court.seated,trestle/court.order] -/
noncomputable def CN:Code:=Bh Tryz.f76
def AY (x0:(List AD)):Nat->(List UInt8)->(List UInt8)->(List UInt8)->Int->Int->(List UInt8)->Bool->Bool->(List (List UInt8))->Int->(List UInt8)->(List UInt8)->(List UInt8)->Int->Int->(List UInt8)->Bool->Bool->(List (List UInt8))->Int->Int->Option ((Unit) ⊕ (Int×Int))
 | 0,_,_,_,_,_,_,_,_,_,_,_,_,_,_,_,_,_,_,_,_,_=>none
 | f + 1,c1,c2,c3,c4,c5,c6,c7,c8,c9,c10,c11,c12,c13,c14,c15,c16,c17,c18,c19,c20,c21 =>
  if (decide (c21 < (x0.length:Int)))=true then
  (idx x0 c21).bind fun v23 =>
  (Dp ((c1,c2,c3,c4,c5,c6,c7,c8,c9),c10) ((c11,c12,c13,c14,c15,c16,c17,c18,c19),c20) v23).bind fun v24 =>
  if (v24 != 0)=true then
  some (.inr (c21,v24))
  else
  AY x0 f c1 c2 c3 c4 c5 c6 c7 c8 c9 c10 c11 c12 c13 c14 c15 c16 c17 c18 c19 c20 (wr .i64 (c21 + 1))
  else
  some (.inl ())
def Af (x0:(List AD)) (x1:Ai) (x2:Ai):Option (Int×Int) :=
 (AY x0 100000 x1.1.1 x1.1.2.1 x1.1.2.2.1 x1.1.2.2.2.1 x1.1.2.2.2.2.1 x1.1.2.2.2.2.2.1 x1.1.2.2.2.2.2.2.1 x1.1.2.2.2.2.2.2.2.1 x1.1.2.2.2.2.2.2.2.2 x1.2 x2.1.1 x2.1.2.1 x2.1.2.2.1 x2.1.2.2.2.1 x2.1.2.2.2.2.1 x2.1.2.2.2.2.2.1 x2.1.2.2.2.2.2.2.1 x2.1.2.2.2.2.2.2.2.1 x2.1.2.2.2.2.2.2.2.2 x2.2 0).bind fun r28 =>
 match r28 with
 | (.inl w29) =>
  some ((-1),0)
 | (.inr w30) =>
  some (w30.1,w30.2)
noncomputable def CQ:Cs ((List AD)×Ai×Ai×Unit):=(csC (cdL 1 Cn) (csC AF (csC AF csN)))
noncomputable def CR (r:Int×Int):AV:= .tp [cdI.enc r.1,cdI.enc r.2]
theorem C0 (x0:(List AD)):∀ (f:Nat) (c1:(List UInt8)) (c2:(List UInt8)) (c3:(List UInt8)) (c4:Int) (c5:Int) (c6:(List UInt8)) (c7:Bool) (c8:Bool) (c9:(List (List UInt8))) (c10:Int) (c11:(List UInt8)) (c12:(List UInt8)) (c13:(List UInt8)) (c14:Int) (c15:Int) (c16:(List UInt8)) (c17:Bool) (c18:Bool) (c19:(List (List UInt8))) (c20:Int) (c21:Int) (r:(Unit) ⊕ (Int×Int)),AY x0 f c1 c2 c3 c4 c5 c6 c7 c8 c9 c10 c11 c12 c13 c14 c15 c16 c17 c18 c19 c20 c21=some r->SemN E0 ⟨none,false⟩ (pc CN [1,0,1,0,0]) f ⟨Fr 27 [(4,.pt 0 0 0),(5,.pt 1 0 0),(11,.sl 1 (x0.map Cn.enc)),(12,.v (.int .i64 (x0.length:Int))),(13,.v (.int .i64 c21))],[some ⟨10,115,[.ag [.st c1,.st c2,.st c3,.v (.int .i64 c4),.v (.int .i64 c5),.st c6,.v (.bool c7),.v (.bool c8),.sl 1 (c9.map cdS.enc),.v (.int .i64 c10)]],false⟩,some ⟨10,115,[.ag [.st c11,.st c12,.st c13,.v (.int .i64 c14),.v (.int .i64 c15),.st c16,.v (.bool c17),.v (.bool c18),.sl 1 (c19.map cdS.enc),.v (.int .i64 c20)]],false⟩]⟩ (fun e s=>match r with
 | (.inl w)=>e=(.exit 0)/\Wk E0 s ⟨Fr 27 [],[]⟩
 | (.inr w)=>e = .ret/\Wk E0 s ⟨Fr 27 [(6,.v (.int .i64 w.1)),(7,.v (.int .i64 w.2))],[]⟩):=by
 intro f;induction f with
 | zero=>intro c1 c2 c3 c4 c5 c6 c7 c8 c9 c10 c11 c12 c13 c14 c15 c16 c17 c18 c19 c20 c21 r h; cases h
 | succ f ih0 =>
  intro c1 c2 c3 c4 c5 c6 c7 c8 c9 c10 c11 c12 c13 c14 c15 c16 c17 c18 c19 c20 c21 r h
  have ih:=fun (c1:(List UInt8)) (c2:(List UInt8)) (c3:(List UInt8)) (c4:Int) (c5:Int) (c6:(List UInt8)) (c7:Bool) (c8:Bool) (c9:(List (List UInt8))) (c10:Int) (c11:(List UInt8)) (c12:(List UInt8)) (c13:(List UInt8)) (c14:Int) (c15:Int) (c16:(List UInt8)) (c17:Bool) (c18:Bool) (c19:(List (List UInt8))) (c20:Int) (c21:Int)=>ih0 c1 c2 c3 c4 c5 c6 c7 c8 c9 c10 c11 c12 c13 c14 c15 c16 c17 c18 c19 c20 c21 r
  unfold AY at h;refine D5 ?_
  let p1:Option Blk:=some ⟨10,115,[.ag [.st c11,.st c12,.st c13,.v (.int .i64 c14),.v (.int .i64 c15),.st c16,.v (.bool c17),.v (.bool c18),.sl 1 (c19.map cdS.enc),.v (.int .i64 c20)]],false⟩
  let p2:Option Blk:=some ⟨10,115,[.ag [.st c1,.st c2,.st c3,.v (.int .i64 c4),.v (.int .i64 c5),.st c6,.v (.bool c7),.v (.bool c8),.sl 1 (c9.map cdS.enc),.v (.int .i64 c10)]],false⟩
  let p3:Nat×AV:=(13,.v (.int .i64 c21))
  let p4:Nat×AV:=(12,.v (.int .i64 (x0.length:Int)))
  let p5:Nat×AV:=(11,.sl 1 (x0.map Cn.enc))
  let p6:Nat×AV:=(5,.pt 1 0 0)
  let p7:Nat×AV:=(4,.pt 0 0 0)
  refine AL AC [p7,p6,p5,p4,p3,(14,.v (.bool (decide (c21 < (x0.length:Int)))))] [p2,p1] ?_;refine AG ?_;refine AT (b:=(decide (c21 < (x0.length:Int)))) kr (fun hb22=>?_) (fun hb22=>?_)
  ·rw [if_pos hb22] at h
   refine Ae ?_;refine AG ?_;refine Bb ?_;refine AG ?_;obtain ⟨v23,hv23,h⟩:=OB h
   let p8:Nat×AV:=(8,.v (.int .i64 c21))
   refine AJ (s1:=⟨Fr 27 [p7,p6,p8,(9,Cn.enc v23),p5,p4,p3],[p2,p1]⟩) ?_ ?_
   ·refine AE (n:=27) AC 1 [p7,p6,p5,p4,p3,(15,.v (.int .i64 c21))] [p2,p1] kr ?_
    refine Aa AC 0 rfl (C5 (AB rfl) rfl (AN (a:= .sl 1 (x0.map Cn.enc)) (b:= .v (.int .i64 c21)) kr kr (Gi (e:=Cn.enc) (el:=117) (k:=1) (ki:= .i64) kr kr hv23))) ?_;exact Ap AC
   refine AG ?_;obtain ⟨v24,hv24,h⟩:=OB h;refine AJ (s1:=⟨Fr 27 [p7,p6,p8,(10,.v (.int .i64 v24)),p5,p4,p3],[p2,p1]⟩) ?_ ?_
   ·refine AE (n:=27) AC 3 [p7,p6,p8,p5,p4,p3,(18,Cn.enc v23),(19,.ag [.st c1,.st c2,.st c3,.v (.int .i64 c4),.v (.int .i64 c5),.st c6,.v (.bool c7),.v (.bool c8),.sl 1 (c9.map cdS.enc),.v (.int .i64 c10)]),(20,.ag [.st c11,.st c12,.st c13,.v (.int .i64 c14),.v (.int .i64 c15),.st c16,.v (.bool c17),.v (.bool c18),.sl 1 (c19.map cdS.enc),.v (.int .i64 c20)])] [p2,p1] kr ?_
    refine Av (caps:=[.pe (AA.enc v23) 0,.pe (Le v23) 0]) (xs:=[.ag [.st c1,.st c2,.st c3,.v (.int .i64 c4),.v (.int .i64 c5),.st c6,.v (.bool c7),.v (.bool c8),.sl 1 (c9.map cdS.enc),.v (.int .i64 c10)],.ag [.st c11,.st c12,.st c13,.v (.int .i64 c14),.v (.int .i64 c15),.st c16,.v (.bool c17),.v (.bool c18),.sl 1 (c19.map cdS.enc),.v (.int .i64 c20)]]) (u:=(((c1,c2,c3,c4,c5,c6,c7,c8,c9),c10),((c11,c12,c13,c14,c15,c16,c17,c18,c19),c20),v23)) rfl rfl Mf rfl (AB rfl) kr kr (AW (Ax (c:=AF) (v:=((c1,c2,c3,c4,c5,c6,c7,c8,c9),c10))) (AW (Ax (c:=AF) (v:=((c11,c12,c13,c14,c15,c16,c17,c18,c19),c20))) (PI (n:=10) (s:=QA) (a:=v23)))) (.inl kr) hv24 ?_;exact Ap AC
   refine AL AC [p7,p6,p8,(10,.v (.int .i64 v24)),p5,p4,p3,(23,.v (.bool (v24 != 0)))] [p2,p1] ?_;refine AT (b:=(v24 != 0)) kr (fun hb25=>?_) (fun hb25=>?_)
   ·rw [if_pos hb25] at h
    refine AG ?_;refine AJ (s1:=⟨Fr 27 [(6,.v (.int .i64 c21)),(7,.v (.int .i64 v24))],[]⟩) ?_ ?_
    ·refine AE (n:=27) AC 4 [(6,.v (.int .i64 c21)),(7,.v (.int .i64 v24))] [p2,p1] kr ?_
     exact AI rfl (Ao [] trivial ⟨lv,lv,trivial⟩)
    refine AX ?_;have hq:=OI h; subst hq;exact ⟨rfl,AQ⟩
   ·rw [Ce hb25] at h
    refine Ae ?_
    let p9:Nat×AV:=(13,.v (.int .i64 (wr .i64 (c21 + 1))))
    refine Ep AC [p7,p6,p5,p4,p9] [p2,p1] ?_;exact CF (s1:=⟨Fr 27 [p7,p6,p5,p4,p9],[p2,p1]⟩) (Ao [0,1] ⟨⟨_,rfl,C2⟩,⟨_,rfl,C2⟩,trivial⟩ ⟨lv,lv,lv,lv,lv,trivial⟩) (ih c1 c2 c3 c4 c5 c6 c7 c8 c9 c10 c11 c12 c13 c14 c15 c16 c17 c18 c19 c20 (wr .i64 (c21 + 1)) h)
  ·rw [Ce hb22] at h
   refine Ew ?_;have hq:=OI h; subst hq;exact ⟨rfl,(Ao [] trivial trivial)⟩
theorem FA (x0:(List AD)) (x1:Ai) (x2:Ai) (r:Int×Int) (h:Af x0 x1 x2=some r):Sem E0 ⟨none,false⟩ CN ⟨Fr 27 (BN 0 (CQ.enc (x0,x1,x2,()))),[]⟩ fun e s'=>(e = .normal\/e = .ret)/\∃ xs,Eo E0.P s'.fr s'.hp Tryz.f76.results.toList=some xs/\Es xs=CR r:=by
 unfold Af at h;refine BJ (CB (s1:=⟨Fr 27 [(0,.sl 1 (x0.map Cn.enc)),(1,AF.enc x1),(2,AF.enc x2)],[]⟩) AQ ?_)
 let p1:Option Blk:=some ⟨10,115,[AF.enc x2],false⟩
 let p2:Option Blk:=some ⟨10,115,[AF.enc x1],false⟩
 let p3:Nat×AV:=(5,.pt 1 0 0)
 let p4:Nat×AV:=(4,.pt 0 0 0)
 refine AL AC [(0,.sl 1 (x0.map Cn.enc)),p4,p3] [p2,p1] ?_;refine AG ?_;refine AG ?_
 let p5:Nat×AV:=(13,.v (.int .i64 0))
 let p6:Nat×AV:=(12,.v (.int .i64 (x0.length:Int)))
 let p7:Nat×AV:=(11,.sl 1 (x0.map Cn.enc))
 refine AJ (s1:=⟨Fr 27 [p4,p3,p7,p6,p5],[p2,p1]⟩) ?_ ?_
 ·refine AE (n:=27) AC 1 [p4,p3,p7] [p2,p1] kr ?_
  refine Aa AC 0 rfl (C5 (AB rfl) rfl (Dd (a:= .sl 1 (x0.map Cn.enc)) kr (C1 (el:=117) kr))) ?_;exact Ap AC
 refine Bb ?_;obtain ⟨r28,hr28,h⟩:=OB h;refine Ey (n:=100000) ?_;rcases r28 with w29 | w30
 ·try dsimp only at h
  refine Cq (CF (s1:=⟨Fr 27 [p4,p3,p7,p6,p5],[p2,p1]⟩) (Ao [0,1] ⟨⟨_,rfl,C2⟩,⟨_,rfl,C2⟩,trivial⟩ ⟨lv,lv,lv,lv,lv,trivial⟩) (C0 x0 _ x1.1.1 x1.1.2.1 x1.1.2.2.1 x1.1.2.2.2.1 x1.1.2.2.2.2.1 x1.1.2.2.2.2.2.1 x1.1.2.2.2.2.2.2.1 x1.1.2.2.2.2.2.2.2.1 x1.1.2.2.2.2.2.2.2.2 x1.2 x2.1.1 x2.1.2.1 x2.1.2.2.1 x2.1.2.2.2.1 x2.1.2.2.2.2.1 x2.1.2.2.2.2.2.1 x2.1.2.2.2.2.2.2.1 x2.1.2.2.2.2.2.2.2.1 x2.1.2.2.2.2.2.2.2.2 x2.2 0 _ hr28)) ?_;refine AL AC [(6,.v (.int .i64 (-1))),(7,.v (.int .i64 0))] [] ?_;refine AX ?_;have hq:=OI h; subst hq;exact ⟨⟨Fr 27 [(6,.v (.int .i64 (-1))),(7,.v (.int .i64 0))],[]⟩,AQ,.inr rfl,[.v (.int .i64 (-1)),.v (.int .i64 0)],kr,kr⟩
 ·try dsimp only at h
  refine Cq (CF (s1:=⟨Fr 27 [p4,p3,p7,p6,p5],[p2,p1]⟩) (Ao [0,1] ⟨⟨_,rfl,C2⟩,⟨_,rfl,C2⟩,trivial⟩ ⟨lv,lv,lv,lv,lv,trivial⟩) (C0 x0 _ x1.1.1 x1.1.2.1 x1.1.2.2.1 x1.1.2.2.2.1 x1.1.2.2.2.2.1 x1.1.2.2.2.2.2.1 x1.1.2.2.2.2.2.2.1 x1.1.2.2.2.2.2.2.2.1 x1.1.2.2.2.2.2.2.2.2 x1.2 x2.1.1 x2.1.2.1 x2.1.2.2.1 x2.1.2.2.2.1 x2.1.2.2.2.2.1 x2.1.2.2.2.2.2.1 x2.1.2.2.2.2.2.2.1 x2.1.2.2.2.2.2.2.2.1 x2.1.2.2.2.2.2.2.2.2 x2.2 0 _ hr28)) ?_;have hq:=OI h; subst hq;exact ⟨⟨Fr 27 [(6,.v (.int .i64 w30.1)),(7,.v (.int .i64 w30.2))],[]⟩,AQ,.inr rfl,[.v (.int .i64 w30.1),.v (.int .i64 w30.2)],kr,kr⟩
noncomputable def FN:List AV->Option AV:=EF CQ (fun a=>Af a.1 a.2.1 a.2.2.1) CR
theorem DR:XOk 76 FN:=by
 refine AR Tryz.func76 (c:=CN) ?h2 ⟨Tryz.call76⟩ CQ (fun a=>Af a.1 a.2.1 a.2.2.1) CR (fun a=>(by show 3<=27; decide)) ?h3 ?h4
 case h2=>kernel_rfl
 case h3=>intro b; kernel_rfl
 case h4=>exact fun a b h=>FA a.1 a.2.1 a.2.2.1 b h
/- trestle/court.Reason -/
noncomputable def KJ:Code:=Bh Tryz.f21
def FB (x0:(List AD)) (x1:Ah) (x2:Ah) (x3:Int) (x4:Int):Option (Int×Int) :=
 (D8 x0).bind fun v1 =>
 if (!v1.2)=true then
 some (0,0)
 else
 (Af v1.1 (x1,x3) (x2,x4)).bind fun v3 =>
 some (v3.1,v3.2)
noncomputable def IB:Cs ((List AD)×Ah×Ah×Int×Int×Unit):=(csC (cdL 5 AA) (csC AK (csC AK (csC cdI (csC cdI csN)))))
noncomputable def IE (r:Int×Int):AV:= .tp [cdI.enc r.1,cdI.enc r.2]
theorem Mp (x0:(List AD)) (x1:Ah) (x2:Ah) (x3:Int) (x4:Int) (r:Int×Int) (h:FB x0 x1 x2 x3 x4=some r):Sem E0 ⟨none,false⟩ KJ ⟨Fr 31 (BN 0 (IB.enc (x0,x1,x2,x3,x4,()))),[]⟩ fun e s'=>(e = .normal\/e = .ret)/\∃ xs,Eo E0.P s'.fr s'.hp Tryz.f21.results.toList=some xs/\Es xs=IE r:=by
 unfold FB at h
 let p1:Nat×AV:=(4,.v (.int .i64 x4))
 let p2:Nat×AV:=(3,.v (.int .i64 x3))
 let p3:Nat×AV:=(0,.sl 5 (x0.map AA.enc))
 refine BJ (CB (s1:=⟨Fr 31 [p3,(1,AK.enc x1),(2,AK.enc x2),p2,p1],[]⟩) AQ ?_)
 let p4:Option Blk:=some ⟨9,42,[AK.enc x2],false⟩
 let p5:Option Blk:=some ⟨9,42,[AK.enc x1],false⟩
 let p6:Nat×AV:=(7,.pt 1 0 0)
 let p7:Nat×AV:=(6,.pt 0 0 0)
 refine AL AC [p3,p2,p1,p7,p6] [p5,p4] ?_;refine AG ?_;obtain ⟨v1,hv1,h⟩:=OB h
 let p8:Nat×AV:=(12,.sl 1 (v1.1.map Cn.enc))
 refine AJ (s1:=⟨Fr 31 [p2,p1,p7,p6,p8,(13,.v (.bool v1.2))],[p5,p4]⟩) ?_ ?_
 ·refine AE (n:=31) AC 1 [p2,p1,p7,p6,(15,.sl 5 (x0.map AA.enc))] [p5,p4] kr ?_
  refine Av (caps:=[]) (xs:=[.sl 5 (x0.map AA.enc)]) (u:=(x0,())) rfl rfl LA rfl (AB rfl) kr kr (AW (Ax (c:=(cdL 5 AA)) (v:=x0)) B6) (.inr kr) hv1 ?_;exact Ap AC
 refine AG ?_;refine AL AC [p2,p1,p7,p6,p8,(20,.v (.bool (!v1.2)))] [p5,p4] ?_;refine AT (b:=(!v1.2)) kr (fun hb2=>?_) (fun hb2=>?_)
 ·rw [if_pos hb2] at h
  refine AG ?_
  let p9:Nat×AV:=(11,.v (.int .i64 0))
  let p10:Nat×AV:=(10,.v (.int .i64 0))
  refine AJ (s1:=⟨Fr 31 [p10,p9],[]⟩) ?_ ?_
  ·refine AE (n:=31) AC 2 [p10,p9] [p5,p4] kr ?_
   exact AI rfl (Ao [] trivial ⟨lv,lv,trivial⟩)
  refine AX ?_;have hq:=OI h; subst hq;exact ⟨⟨Fr 31 [p10,p9],[]⟩,AQ,.inr rfl,[.v (.int .i64 0),.v (.int .i64 0)],kr,kr⟩
 ·rw [Ce hb2] at h
  refine Ae ?_;refine AG ?_;obtain ⟨v3,hv3,h⟩:=OB h
  let p11:Nat×AV:=(11,.v (.int .i64 v3.2))
  let p12:Nat×AV:=(10,.v (.int .i64 v3.1))
  refine AJ (s1:=⟨Fr 31 [p12,p11],[]⟩) ?_ ?_
  ·refine AE (n:=31) AC 7 [(21,.sl 1 (v1.1.map Cn.enc)),(24,.ag [.st x1.1,.st x1.2.1,.st x1.2.2.1,.v (.int .i64 x1.2.2.2.1),.v (.int .i64 x1.2.2.2.2.1),.st x1.2.2.2.2.2.1,.v (.bool x1.2.2.2.2.2.2.1),.v (.bool x1.2.2.2.2.2.2.2.1),.sl 1 (x1.2.2.2.2.2.2.2.2.map cdS.enc),.v (.int .i64 x3)]),(27,.ag [.st x2.1,.st x2.2.1,.st x2.2.2.1,.v (.int .i64 x2.2.2.2.1),.v (.int .i64 x2.2.2.2.2.1),.st x2.2.2.2.2.2.1,.v (.bool x2.2.2.2.2.2.2.1),.v (.bool x2.2.2.2.2.2.2.2.1),.sl 1 (x2.2.2.2.2.2.2.2.2.map cdS.enc),.v (.int .i64 x4)])] [p5,p4] kr ?_
   refine Av (caps:=[]) (xs:=[.sl 1 (v1.1.map Cn.enc),.ag [.st x1.1,.st x1.2.1,.st x1.2.2.1,.v (.int .i64 x1.2.2.2.1),.v (.int .i64 x1.2.2.2.2.1),.st x1.2.2.2.2.2.1,.v (.bool x1.2.2.2.2.2.2.1),.v (.bool x1.2.2.2.2.2.2.2.1),.sl 1 (x1.2.2.2.2.2.2.2.2.map cdS.enc),.v (.int .i64 x3)],.ag [.st x2.1,.st x2.2.1,.st x2.2.2.1,.v (.int .i64 x2.2.2.2.1),.v (.int .i64 x2.2.2.2.2.1),.st x2.2.2.2.2.2.1,.v (.bool x2.2.2.2.2.2.2.1),.v (.bool x2.2.2.2.2.2.2.2.1),.sl 1 (x2.2.2.2.2.2.2.2.2.map cdS.enc),.v (.int .i64 x4)]]) (u:=(v1.1,(x1,x3),(x2,x4),())) rfl rfl DR rfl (AB rfl) kr kr (AW (Ax (c:=(cdL 1 Cn)) (v:=v1.1)) (AW (Ax (c:=AF) (v:=(x1,x3))) (AW (Ax (c:=AF) (v:=(x2,x4))) B6))) (.inl kr) hv3 ?_;refine AE (n:=31) AC 4 [p12,p11] [p5,p4] kr ?_;exact AI rfl (Ao [] trivial ⟨lv,lv,trivial⟩)
  refine AX ?_;have hq:=OI h; subst hq;exact ⟨⟨Fr 31 [p12,p11],[]⟩,AQ,.inr rfl,[.v (.int .i64 v3.1),.v (.int .i64 v3.2)],kr,kr⟩
noncomputable def Oi:List AV->Option AV:=EF IB (fun a=>FB a.1 a.2.1 a.2.2.1 a.2.2.2.1 a.2.2.2.2.1) IE
theorem On:XOk 21 Oi:=by
 refine AR Tryz.func21 (c:=KJ) ?h2 ⟨Tryz.call21⟩ IB (fun a=>FB a.1 a.2.1 a.2.2.1 a.2.2.2.1 a.2.2.2.2.1) IE (fun a=>(by show 5<=31; decide)) ?h3 ?h4
 case h2=>kernel_rfl
 case h3=>intro b; kernel_rfl
 case h4=>exact fun a b h=>Mp a.1 a.2.1 a.2.2.1 a.2.2.2.1 a.2.2.2.2.1 b h
/- trestle/court.Compare -/
noncomputable def Jo:Code:=Bh Tryz.f22
def D6 (x0:(List AD)) (x1:Ah) (x2:Ah) (x3:Int) (x4:Int):Option (Int) :=
 (FB x0 x1 x2 x3 x4).bind fun v1 =>
 some v1.2
def HK:Cs ((List AD)×Ah×Ah×Int×Int×Unit):=(csC (cdL 5 AA) (csC AK (csC AK (csC cdI (csC cdI csN)))))
def HZ (r:Int):AV:=cdI.enc r
theorem Lv (x0:(List AD)) (x1:Ah) (x2:Ah) (x3:Int) (x4:Int) (r:Int) (h:D6 x0 x1 x2 x3 x4=some r):Sem E0 ⟨none,false⟩ Jo ⟨Fr 23 (BN 0 (HK.enc (x0,x1,x2,x3,x4,()))),[]⟩ fun e s'=>(e = .normal\/e = .ret)/\∃ xs,Eo E0.P s'.fr s'.hp Tryz.f22.results.toList=some xs/\Es xs=HZ r:=by
 unfold D6 at h
 let p1:Nat×AV:=(0,.sl 5 (x0.map AA.enc))
 refine BJ (CB (s1:=⟨Fr 23 [p1,(1,AK.enc x1),(2,AK.enc x2),(3,.v (.int .i64 x3)),(4,.v (.int .i64 x4))],[]⟩) AQ ?_)
 let p2:Option Blk:=some ⟨9,42,[AK.enc x2],false⟩
 let p3:Option Blk:=some ⟨9,42,[AK.enc x1],false⟩
 refine AL AC [p1,(3,.v (.int .i64 x3)),(4,.v (.int .i64 x4)),(6,.pt 0 0 0),(7,.pt 1 0 0)] [p3,p2] ?_;refine AG ?_;obtain ⟨v1,hv1,h⟩:=OB h;refine AJ (s1:=⟨Fr 23 [(12,.v (.int .i64 v1.2))],[]⟩) ?_ ?_
 ·refine AE (n:=23) AC 5 [(14,.sl 5 (x0.map AA.enc)),(15,AK.enc x1),(16,AK.enc x2),(17,.v (.int .i64 x3)),(18,.v (.int .i64 x4))] [p3,p2] kr ?_
  refine Av (caps:=[]) (xs:=[.sl 5 (x0.map AA.enc),AK.enc x1,AK.enc x2,.v (.int .i64 x3),.v (.int .i64 x4)]) (u:=(x0,x1,x2,x3,x4,())) rfl rfl On rfl (AB rfl) kr kr (AW (Ax (c:=(cdL 5 AA)) (v:=x0)) (AW (Ax (c:=AK) (v:=x1)) (AW (Ax (c:=AK) (v:=x2)) (AW (Ax (c:=cdI) (v:=x3)) (AW (Ax (c:=cdI) (v:=x4)) B6))))) (.inl kr) hv1 ?_;refine AE (n:=23) AC 5 [(12,.v (.int .i64 v1.2))] [p3,p2] kr ?_;exact AI rfl (Ao [] trivial ⟨lv,trivial⟩)
 refine AL AC [(10,.v (.int .i64 v1.2))] [] ?_;refine AX ?_;have hq:=OI h; subst hq;exact ⟨⟨Fr 23 [(10,.v (.int .i64 v1.2))],[]⟩,AQ,.inr rfl,[.v (.int .i64 v1.2)],kr,kr⟩
def N2:List AV->Option AV:=EF HK (fun a=>D6 a.1 a.2.1 a.2.2.1 a.2.2.2.1 a.2.2.2.2.1) HZ
theorem OL:XOk 22 N2:=by
 refine AR Tryz.func22 (c:=Jo) ?h2 ⟨Tryz.call22⟩ HK (fun a=>D6 a.1 a.2.1 a.2.2.1 a.2.2.2.1 a.2.2.2.2.1) HZ (fun a=>(by show 5<=23; decide)) ?h3 ?h4
 case h2=>kernel_rfl
 case h3=>intro b; kernel_rfl
 case h4=>exact fun a b h=>Lv a.1 a.2.1 a.2.2.1 a.2.2.2.1 a.2.2.2.2.1 b h
/- trestle/court.list -/
noncomputable def JO:Code:=Bh Tryz.f79
def Cv (x0:(List Ah)):Nat->(List Ai)->Int->Option (((List Ai)))
 | 0,_,_=>none
 | f + 1,c1,c2 =>
  if (decide (c2 < (x0.length:Int)))=true then
  (idx x0 c2).bind fun v4 =>
  if (FP 120 (c1.length + 1))=true then
  Cv x0 f (c1++[(v4,c2)]) (wr .i64 (c2 + 1))
  else none
  else
  some c1
def Gn (x0:(List Ah)):Option ((List Ai)) :=
 (Cv x0 100000 [] 0).bind fun r7 =>
 some r7
def Hr:Cs ((List Ah)×Unit):=(csC (cdL 9 AK) csN)
def JU (r:(List Ai)):AV:=(cdL 10 AF).enc r
theorem Mr (x0:(List Ah)):∀ (f:Nat) (c1:(List Ai)) (c2:Int) (r:((List Ai))),Cv x0 f c1 c2=some r->SemN E0 ⟨none,false⟩ (pc JO [1,1,0,1,0,0]) f ⟨Fr 21 [(3,hd 0 (c1.map AF.enc)),(6,.sl 9 (x0.map AK.enc)),(7,.v (.int .i64 (x0.length:Int))),(8,.v (.int .i64 c2))],[mk 10 115 (c1.map AF.enc)]⟩ (fun e s=>e=(.exit 0)/\Wk E0 s ⟨Fr 21 [(3,hd 0 (r.map AF.enc))],[mk 10 115 (r.map AF.enc)]⟩):=by
 intro f;induction f with
 | zero=>intro c1 c2 r h; cases h
 | succ f ih0 =>
  intro c1 c2 r h
  have ih:=fun (c1:(List Ai)) (c2:Int)=>ih0 c1 c2 r
  unfold Cv at h;refine D5 ?_
  let p1:Option Blk:=mk 10 115 (c1.map AF.enc)
  let p2:Nat×AV:=(8,.v (.int .i64 c2))
  let p3:Nat×AV:=(7,.v (.int .i64 (x0.length:Int)))
  let p4:Nat×AV:=(6,.sl 9 (x0.map AK.enc))
  let p5:Nat×AV:=(3,hd 0 (c1.map AF.enc))
  refine AL AC [p5,p4,p3,p2,(9,.v (.bool (decide (c2 < (x0.length:Int)))))] [p1] ?_;refine AG ?_;refine AT (b:=(decide (c2 < (x0.length:Int)))) kr (fun hb3=>?_) (fun hb3=>?_)
  ·rw [if_pos hb3] at h
   refine Ae ?_;refine AG ?_;refine Bb ?_;refine AG ?_;obtain ⟨v4,hv4,h⟩:=OB h
   let p6:Option Blk:=some ⟨9,42,[AK.enc v4],false⟩
   refine AJ (s1:=⟨Fr 21 [p5,(4,.v (.int .i64 c2)),(5,.pt 1 0 0),p4,p3,p2],[p1,p6]⟩) ?_ ?_
   ·refine AE (n:=21) AC 1 [p5,p4,p3,p2,(10,.v (.int .i64 c2))] [p1] kr ?_
    refine Aa AC 0 rfl (C5 (AB rfl) rfl (AN (a:= .sl 9 (x0.map AK.enc)) (b:= .v (.int .i64 c2)) kr kr (Gi (e:=AK.enc) (el:=42) (k:=9) (ki:= .i64) kr kr hv4))) ?_;exact Ap AC
   by_cases hk5:(FP 120 (c1.length + 1))=true
   case neg=>rw [if_neg hk5] at h; cases h
   rw [if_pos hk5] at h
   let p7:Option Blk:=mk 10 115 ((c1++[(v4,c2)]).map AF.enc)
   let p8:Nat×AV:=(3,hd 0 ((c1++[(v4,c2)]).map AF.enc))
   refine AJ (s1:=⟨Fr 21 [p8,p4,p3,p2],[p7]⟩) ?_ ?_
   ·let p9:Option Blk:=mk 10 115 ([(v4,c2)].map AF.enc)
    refine AE (n:=21) AC 5 [p4,p3,p2,(13,hd 0 (c1.map AF.enc)),(17,hd 2 ([(v4,c2)].map AF.enc))] [p1,p6,p9] kr ?_;refine Aa AC 0 rfl (UD (AB rfl) rfl kr kr (H0 (a:=hd 0 (c1.map AF.enc)) (b:=hd 2 ([(v4,c2)].map AF.enc)) kr kr (M7 (c:=AF) (xs:=c1) (vs:=[(v4,c2)]) (k:=10) (bytes:=120) (el:=115) kr kr (M8 (t:=115) kr) (List.cons_ne_nil _ _) kr hk5))) ?_;refine AE (n:=21) AC 1 [(3,hd 3 ((c1++[(v4,c2)]).map AF.enc)),p4,p3,p2] [none,p6,p9,p7] kr ?_;exact AI rfl (Ao [3] ⟨⟨_,rfl,Dk⟩,trivial⟩ ⟨Dl (b':=3) kr kr,lv,lv,lv,trivial⟩)
   let p10:Nat×AV:=(8,.v (.int .i64 (wr .i64 (c2 + 1))))
   refine Ep AC [p8,p4,p3,p10] [p7] ?_;exact CF (s1:=⟨Fr 21 [p8,p4,p3,p10],[p7]⟩) (Ao [0] ⟨⟨_,rfl,Dk⟩,trivial⟩ ⟨Dl (b':=0) kr kr,lv,lv,lv,trivial⟩) (ih (c1++[(v4,c2)]) (wr .i64 (c2 + 1)) h)
  ·rw [Ce hb3] at h
   refine Ew ?_;have hq:=OI h; subst hq;exact ⟨rfl,(Ao [0] ⟨⟨_,rfl,Dk⟩,trivial⟩ ⟨Dl (b':=0) kr kr,trivial⟩)⟩
theorem Od (x0:(List Ah)) (r:(List Ai)) (h:Gn x0=some r):Sem E0 ⟨none,false⟩ JO ⟨Fr 21 (BN 0 (Hr.enc (x0,()))),[]⟩ fun e s'=>(e = .normal\/e = .ret)/\∃ xs,Eo E0.P s'.fr s'.hp Tryz.f79.results.toList=some xs/\Es xs=JU r:=by
 unfold Gn at h
 let p1:Nat×AV:=(0,.sl 9 (x0.map AK.enc))
 refine BJ (CB (s1:=⟨Fr 21 [p1],[]⟩) AQ ?_);refine AL AC [p1] [] ?_;refine AL AC [p1,(3,.e0)] [] ?_;refine AG ?_;refine AG ?_
 let p2:Nat×AV:=(8,.v (.int .i64 0))
 let p3:Nat×AV:=(7,.v (.int .i64 (x0.length:Int)))
 let p4:Nat×AV:=(6,.sl 9 (x0.map AK.enc))
 refine AJ (s1:=⟨Fr 21 [(3,.e0),p4,p3,p2],[]⟩) ?_ ?_
 ·refine AE (n:=21) AC 1 [(3,.e0),p4] [] kr ?_
  refine Aa AC 0 rfl (C5 (AB rfl) rfl (Dd (a:= .sl 9 (x0.map AK.enc)) kr (C1 (el:=42) kr))) ?_;exact Ap AC
 refine Bb ?_;obtain ⟨r7,hr7,h⟩:=OB h;refine Ey (n:=100000) ?_
 let p5:Option Blk:=mk 10 115 ([].map AF.enc)
 let p6:Nat×AV:=(3,hd 0 ([].map AF.enc))
 refine Cq (CF (s1:=⟨Fr 21 [p6,p4,p3,p2],[p5]⟩) (Wk.trans (s1:=⟨Fr 21 [p6,p4,p3,p2],[p5]⟩) Wk.none (Ao [0] ⟨⟨_,rfl,Qx⟩,trivial⟩ ⟨lv,lv,lv,lv,trivial⟩)) (Mr x0 _ [] 0 _ hr7)) ?_;refine AL AC [(2,hd 0 (r7.map AF.enc))] [mk 10 115 (r7.map AF.enc)] ?_;refine AX ?_;have hq:=OI h; subst hq
 let p7:Nat×AV:=(2,.sl 10 (r7.map AF.enc))
 exact ⟨⟨Fr 21 [p7],[]⟩,(Wk.trans (s1:=⟨Fr 21 [p7],[none]⟩) (KF 0 (.inl kr) ⟨.inl rfl,trivial⟩ ⟨⟨hd 0 (r7.map AF.enc),kr,QK (t:=115) kr K3⟩,trivial⟩) (Ao [] trivial ⟨lv,trivial⟩)),.inr rfl,[.sl 10 (r7.map AF.enc)],kr,kr⟩
def Qe:List AV->Option AV:=EF Hr (fun a=>Gn a.1) JU
theorem Qp:XOk 79 Qe:=by
 refine AR Tryz.func79 (c:=JO) ?h2 ⟨Tryz.call79⟩ Hr (fun a=>Gn a.1) JU (fun a=>(by show 1<=21; decide)) ?h3 ?h4
 case h2=>kernel_rfl
 case h3=>intro b; kernel_rfl
 case h4=>exact fun a b h=>Od a.1 b h
/- trestle/court.table -/
noncomputable def De:Code:=Bh Tryz.f107
def Cp (x1:(List Ah)):Nat->Int->(List (List Int))->Option (((List (List Int))))
 | 0,_,_=>none
 | f + 1,c15,c16 =>
  if (decide (c15 < ((List.replicate (x1.length:Int).toNat ([]:(List Int))).length:Int)))=true then
  if (P0 8 (x1.length:Int))=true then
  (idx c16 c15).bind fun v23 =>
  Cp x1 f (wr .i64 (c15 + 1)) (c16.set c15.toNat (List.replicate (x1.length:Int).toNat (0:Int)))
  else none
  else
  some c16
def Gu (c40:Int) (c43:Int) (c44:(List (List Int))) (v48:Int×Int):Option (((List (List Int)))) :=
 if (v48.2==1)=true then
 (idx c44 c43).bind fun v63 =>
 (idx v63 c40).bind fun v67 =>
 (idx v63 c40).bind fun v68 =>
 some (c44.set c43.toNat (v63.set c40.toNat (wr .i64 (v67 + 1))))
 else
 some c44
def FZ (c40:Int) (c43:Int) (c44:(List (List Int))) (v48:Int×Int):Option (((List (List Int)))) :=
 if (v48.2==(-1))=true then
 (idx c44 c40).bind fun v50 =>
 (idx v50 c43).bind fun v54 =>
 (idx v50 c43).bind fun v55 =>
 some (c44.set c40.toNat (v50.set c43.toNat (wr .i64 (v54 + 1))))
 else
 (Gu c40 c43 c44 v48).bind fun r75 =>
 some r75
def Ch (v32:(List Ai)) (v37:(List AD)×Bool) (c40:Int):Nat->Int->(List (List Int))->Option (((List (List Int))))
 | 0,_,_=>none
 | f + 1,c43,c44 =>
  if (decide (c43 < c40))=true then
  (idx v32 c40).bind fun v46 =>
  (idx v32 c43).bind fun v47 =>
  (Af v37.1 v46 v47).bind fun v48 =>
  (FZ c40 c43 c44 v48).bind fun r78 =>
  Ch v32 v37 c40 f (wr .i64 (c43 + 1)) r78
  else
  some c44
def Cg (v32:(List Ai)) (v37:(List AD)×Bool):Nat->Int->(List (List Int))->Option (((List (List Int))))
 | 0,_,_=>none
 | f + 1,c40,c41 =>
  if (decide (c40 < (v32.length:Int)))=true then
  (Ch v32 v37 c40 100000 0 c41).bind fun r82 =>
  Cg v32 v37 f (wr .i64 (c40 + 1)) r82
  else
  some c41
def EH (x0:(List (List AD))) (v32:(List Ai)):Nat->Int->(List (List Int))->Option (((List (List Int))) ⊕ (Unit))
 | 0,_,_=>none
 | f + 1,c33,c34 =>
  if (decide (c33 < (x0.length:Int)))=true then
  (idx x0 c33).bind fun v36 =>
  (D8 v36).bind fun v37 =>
  if (!v37.2)=true then
  some (.inr ())
  else
  (Cg v32 v37 100000 0 c34).bind fun r86 =>
  EH x0 v32 f (wr .i64 (c33 + 1)) r86
  else
  some (.inl c34)
def Em (x0:(List (List AD))) (x1:(List Ah)):Option ((List (List Int))×Bool) :=
 (if (decide ((x0.length:Int) > 16))=true then some true else some (decide ((x1.length:Int) > 64))).bind fun j1 =>
 if j1=true then
 some (([]:(List (List Int))),false)
 else
 if (P0 24 (x1.length:Int))=true then
 (Cp x1 100000 0 (List.replicate (x1.length:Int).toNat ([]:(List Int)))).bind fun r29 =>
 (Gn x1).bind fun v32 =>
 (EH x0 v32 100000 0 r29).bind fun r90 =>
 match r90 with
 | (.inl w91) =>
  some (w91,true)
 | (.inr w97) =>
  some (([]:(List (List Int))),false)
 else none
theorem MC {L:List Asn}(x1:(List Ah)) (x0:(List (List AD))) (e14:AV):∀ (f:Nat) (c15:Int) (c16:(List (List Int))) (r:((List (List Int)))),Cp x1 f c15 c16=some r->∀ (hp:Hp),T hp ((own_ (ocL 1 48 (ocL 1 3 (ocV cdI))) e14 c16)::L)->SemYN E0 ⟨none,false⟩ (pc De [1,1,1,0,1,0,0]) f ⟨Fr 104 [(0,.sl 1 (x0.map (cdL 5 AA).enc)),(1,.sl 9 (x1.map AK.enc)),(6,e14),(29,.v (.int .i64 ((List.replicate (x1.length:Int).toNat ([]:(List Int))).length:Int))),(30,.v (.int .i64 c15))],hp⟩ (fun e s=>e=(.exit 0)/\∃ s2,(∃ (h':Hp),T h' ((own_ (ocL 1 48 (ocL 1 3 (ocV cdI))) e14 r)::L)/\s2=⟨Fr 104 [(0,.sl 1 (x0.map (cdL 5 AA).enc)),(1,.sl 9 (x1.map AK.enc)),(6,e14)],h'⟩)/\WkY E0 s s2):=by
 intro f;induction f with
 | zero=>intro c15 c16 r h; cases h
 | succ f ih0 =>
  intro c15 c16 r h  hp hT;unfold Cp at h;refine Cm ?_
  let p1:Nat×AV:=(30,.v (.int .i64 c15))
  let p2:Nat×AV:=(29,.v (.int .i64 ((List.replicate (x1.length:Int).toNat ([]:(List Int))).length:Int)))
  let p3:Nat×AV:=(1,.sl 9 (x1.map AK.enc))
  let p4:Nat×AV:=(0,.sl 1 (x0.map (cdL 5 AA).enc))
  refine A7 AC [p4,p3,(6,e14),p2,p1,(31,.v (.bool (decide (c15 < ((List.replicate (x1.length:Int).toNat ([]:(List Int))).length:Int)))))] ?_;refine AM ?_;refine Bz (b:=(decide (c15 < ((List.replicate (x1.length:Int).toNat ([]:(List Int))).length:Int)))) kr (fun hb17=>?_) (fun hb17=>?_)
  ·rw [if_pos hb17] at h
   refine SemY.skip ?_;refine AM ?_;refine A4 ?_;refine A7 AC [p4,p3,(6,e14),(7,.v (.int .i64 c15)),p2,p1] ?_;refine AH ?_;refine AZ AC 3 ?_;refine AS AC 0 rfl (C5 (AB rfl) rfl (Dd (a:= .sl 9 (x1.map AK.enc)) kr (C1 (el:=42) kr))) ?_;by_cases hk18:(P0 8 (x1.length:Int))=true
   case neg=>rw [if_neg hk18] at h; cases h
   rw [if_pos hk18] at h;obtain ⟨e22,hp19,hb20,hT21⟩:=Np (P:=Tryz.prog) (o:=(ocV cdI)) (k:=1) (t:=3) (ty:=48) (bytes:=8) (kn:= .i64) (kc:= .i64) (m:=(x1.length:Int)) (x0:=0) hT (fun _=>⟨rfl,rfl⟩) kr kr hk18;refine AS AC 0 rfl (QW (AB rfl) rfl kr (Rx (x:= .v (.int .i64 (x1.length:Int))) (y:= .v (.int .i64 (x1.length:Int))) kr kr hb20)) ?_;obtain ⟨v23,hv23,h⟩:=OB h
   have hT24:=(hT21.front 1 rfl)
   refine AS AC 0 rfl (C5 (AB rfl) rfl (AN (a:=e14) (b:= .v (.int .i64 c15)) kr kr (O0 (bytes:=24) hT24 kr hv23))) ?_;obtain ⟨hp25,hs26,hT27⟩:=U7 (P:=Tryz.prog) (ty:=48) Xh hT24 (Dh hv23).2 kr;refine RunL.store AC (y:=eAt e14 c15.toNat) (z:=e22) rfl (AB rfl) kr kr hs26 ?_;refine A3 rfl (SemY.fr (l':=[p4,p3,(6,e14),p2,p1]) kr ?_);refine AH ?_;refine AZ AC 2 ?_;refine A3 rfl ?_;exact Bd WkY.f1 (ih0 (wr .i64 (c15 + 1)) (c16.set c15.toNat (List.replicate (x1.length:Int).toNat (0:Int))) _ h  hp25 hT27)
  ·rw [Ce hb17] at h
   refine SemY.exit ?_;have hq:=OI h; subst hq;exact ⟨rfl,_,⟨hp,hT,rfl⟩,WkY.f1⟩
theorem MB {L:List Asn}{hp:Hp}(c40:Int) (c43:Int) (c44:(List (List Int))) (v48:Int×Int) (x0:(List (List AD))) (e14:AV) (v32:(List Ai)) (c33:Int) (v37:(List AD)×Bool) (r:((List (List Int)))) (h:Gu c40 c43 c44 v48=some r) (hT:T hp ((own_ (ocL 1 48 (ocL 1 3 (ocV cdI))) e14 c44)::L)):SemY E0 ⟨none,false⟩ (pc De [1,1,1,1,1,0,1,0,0,1,1,0,0,1,1,1,1,0,0,1,1,0,0,1,1,0,0,1,1,0,0,1,1,1,0,1,1,1]) ⟨Fr 104 [(6,e14),(8,.sl 10 (v32.map AF.enc)),(11,.sl 1 (v37.1.map Cn.enc)),(13,.v (.int .i64 c40)),(14,.v (.int .i64 c43)),(42,.sl 1 (x0.map (cdL 5 AA).enc)),(43,.v (.int .i64 (x0.length:Int))),(44,.v (.int .i64 c33)),(56,.v (.int .i64 (v32.length:Int))),(57,.v (.int .i64 c40)),(60,.v (.int .i64 c40)),(61,.v (.int .i64 c43)),(89,.v (.bool (v48.2==1)))],hp⟩ (fun e s=>e = .normal/\∃ s2,(∃ (h':Hp),T h' ((own_ (ocL 1 48 (ocL 1 3 (ocV cdI))) e14 r)::L)/\s2=⟨Fr 104 [(6,e14),(8,.sl 10 (v32.map AF.enc)),(11,.sl 1 (v37.1.map Cn.enc)),(13,.v (.int .i64 c40)),(42,.sl 1 (x0.map (cdL 5 AA).enc)),(43,.v (.int .i64 (x0.length:Int))),(44,.v (.int .i64 c33)),(56,.v (.int .i64 (v32.length:Int))),(57,.v (.int .i64 c40)),(60,.v (.int .i64 c40)),(61,.v (.int .i64 c43))],h'⟩)/\WkY E0 s s2):=by
 unfold Gu at h;refine Bz (b:=(v48.2==1)) kr (fun hb62=>?_) (fun hb62=>?_)
 ·rw [if_pos hb62] at h
  refine AH ?_;refine AZ AC 2 ?_;obtain ⟨v63,hv63,h⟩:=OB h;refine AS AC 0 rfl (C5 (AB rfl) rfl (AN (a:=e14) (b:= .v (.int .i64 c43)) kr kr (O0 (bytes:=24) hT kr hv63))) ?_;obtain ⟨e64,hl65,hT66⟩:=Rv (P:=Tryz.prog) (ty:=48) hT (Dh hv63).2 kr kr;refine AS AC 0 rfl (C5 (AB rfl) rfl (G3 (p:=eAt e14 c43.toNat) kr hl65)) ?_;refine AZ AC 1 ?_;obtain ⟨v67,hv67,h⟩:=OB h;refine AS AC 0 rfl (C5 (AB rfl) rfl (AN (a:=e64) (b:= .v (.int .i64 c40)) kr kr (O0 (bytes:=8) hT66 kr hv67))) ?_;refine AS AC 0 rfl (C5 (AB rfl) rfl (G3 (p:=eAt e64 c40.toNat) kr (Jd (y:= .v (.int .i64 v67)) (m:=1) (g:=false) hT66 (Dh hv67).2 kr kr kr))) ?_;refine AZ AC 1 ?_;obtain ⟨v68,hv68,h⟩:=OB h;refine AS AC 0 rfl (C5 (AB rfl) rfl (AN (a:=e64) (b:= .v (.int .i64 c40)) kr kr (O0 (bytes:=8) hT66 kr hv68))) ?_;obtain ⟨hp69,hs70,hT71⟩:=LL (P:=Tryz.prog) (ty:=3) (y:= .v (.int .i64 (wr .i64 (v67 + 1)))) (v':=(wr .i64 (v67 + 1))) hT66 (Dh hv68).2 kr kr kr;refine RunL.store AC (y:=eAt e64 c40.toNat) (z:= .v (.int .i64 (wr .i64 (v67 + 1)))) rfl (AB rfl) kr kr hs70 ?_;refine A3 rfl ?_;have hq:=OI h; subst hq
  have hT74:=(Su hT71)
  exact ⟨rfl,_,⟨hp69,hT74,rfl⟩,WkY.f1⟩
 ·rw [Ce hb62] at h
  refine SemY.skip ?_;have hq:=OI h; subst hq;exact ⟨rfl,_,⟨hp,hT,rfl⟩,WkY.f1⟩
theorem MA {L:List Asn}{hp:Hp}(c40:Int) (c43:Int) (c44:(List (List Int))) (v48:Int×Int) (x0:(List (List AD))) (e14:AV) (v32:(List Ai)) (c33:Int) (v37:(List AD)×Bool) (r:((List (List Int)))) (h:FZ c40 c43 c44 v48=some r) (hT:T hp ((own_ (ocL 1 48 (ocL 1 3 (ocV cdI))) e14 c44)::L)):SemY E0 ⟨none,false⟩ (pc De [1,1,1,1,1,0,1,0,0,1,1,0,0,1,1,1,1,0,0,1,1,0,0,1,1,0,0,1,1,0,0,1,1,1,0,1]) ⟨Fr 104 [(6,e14),(8,.sl 10 (v32.map AF.enc)),(11,.sl 1 (v37.1.map Cn.enc)),(13,.v (.int .i64 c40)),(14,.v (.int .i64 c43)),(42,.sl 1 (x0.map (cdL 5 AA).enc)),(43,.v (.int .i64 (x0.length:Int))),(44,.v (.int .i64 c33)),(56,.v (.int .i64 (v32.length:Int))),(57,.v (.int .i64 c40)),(60,.v (.int .i64 c40)),(61,.v (.int .i64 c43)),(77,.v (.int .i64 v48.2)),(78,.v (.bool (v48.2==(-1))))],hp⟩ (fun e s=>e = .normal/\∃ s2,(∃ (h':Hp),T h' ((own_ (ocL 1 48 (ocL 1 3 (ocV cdI))) e14 r)::L)/\s2=⟨Fr 104 [(6,e14),(8,.sl 10 (v32.map AF.enc)),(11,.sl 1 (v37.1.map Cn.enc)),(13,.v (.int .i64 c40)),(42,.sl 1 (x0.map (cdL 5 AA).enc)),(43,.v (.int .i64 (x0.length:Int))),(44,.v (.int .i64 c33)),(56,.v (.int .i64 (v32.length:Int))),(57,.v (.int .i64 c40)),(60,.v (.int .i64 c40)),(61,.v (.int .i64 c43))],h'⟩)/\WkY E0 s s2):=by
 unfold FZ at h;refine Bz (b:=(v48.2==(-1))) kr (fun hb49=>?_) (fun hb49=>?_)
 ·rw [if_pos hb49] at h
  refine AH ?_;refine AZ AC 2 ?_;obtain ⟨v50,hv50,h⟩:=OB h;refine AS AC 0 rfl (C5 (AB rfl) rfl (AN (a:=e14) (b:= .v (.int .i64 c40)) kr kr (O0 (bytes:=24) hT kr hv50))) ?_;obtain ⟨e51,hl52,hT53⟩:=Rv (P:=Tryz.prog) (ty:=48) hT (Dh hv50).2 kr kr;refine AS AC 0 rfl (C5 (AB rfl) rfl (G3 (p:=eAt e14 c40.toNat) kr hl52)) ?_;refine AZ AC 1 ?_;obtain ⟨v54,hv54,h⟩:=OB h;refine AS AC 0 rfl (C5 (AB rfl) rfl (AN (a:=e51) (b:= .v (.int .i64 c43)) kr kr (O0 (bytes:=8) hT53 kr hv54))) ?_;refine AS AC 0 rfl (C5 (AB rfl) rfl (G3 (p:=eAt e51 c43.toNat) kr (Jd (y:= .v (.int .i64 v54)) (m:=1) (g:=false) hT53 (Dh hv54).2 kr kr kr))) ?_;refine AZ AC 1 ?_;obtain ⟨v55,hv55,h⟩:=OB h;refine AS AC 0 rfl (C5 (AB rfl) rfl (AN (a:=e51) (b:= .v (.int .i64 c43)) kr kr (O0 (bytes:=8) hT53 kr hv55))) ?_;obtain ⟨hp56,hs57,hT58⟩:=LL (P:=Tryz.prog) (ty:=3) (y:= .v (.int .i64 (wr .i64 (v54 + 1)))) (v':=(wr .i64 (v54 + 1))) hT53 (Dh hv55).2 kr kr kr;refine RunL.store AC (y:=eAt e51 c43.toNat) (z:= .v (.int .i64 (wr .i64 (v54 + 1)))) rfl (AB rfl) kr kr hs57 ?_;refine A3 rfl ?_;have hq:=OI h; subst hq
  have hT61:=(Su hT58)
  exact ⟨rfl,_,⟨hp56,hT61,rfl⟩,WkY.f1⟩
 ·rw [Ce hb49] at h
  refine A7 AC [(6,e14),(8,.sl 10 (v32.map AF.enc)),(11,.sl 1 (v37.1.map Cn.enc)),(13,.v (.int .i64 c40)),(14,.v (.int .i64 c43)),(42,.sl 1 (x0.map (cdL 5 AA).enc)),(43,.v (.int .i64 (x0.length:Int))),(44,.v (.int .i64 c33)),(56,.v (.int .i64 (v32.length:Int))),(57,.v (.int .i64 c40)),(60,.v (.int .i64 c40)),(61,.v (.int .i64 c43)),(89,.v (.bool (v48.2==1)))] ?_;obtain ⟨r75,hr75,h⟩:=OB h;refine H5 (MB c40 c43 c44 v48 x0 e14 v32 c33 v37 _ hr75 hT) ?_;rintro _ ⟨hp76,hT77,rfl⟩;have hq:=OI h; subst hq;exact ⟨rfl,_,⟨hp76,hT77,rfl⟩,WkY.f1⟩
theorem ME {L:List Asn}(v32:(List Ai)) (v37:(List AD)×Bool) (c40:Int) (x0:(List (List AD))) (e14:AV) (c33:Int):∀ (f:Nat) (c43:Int) (c44:(List (List Int))) (r:((List (List Int)))),Ch v32 v37 c40 f c43 c44=some r->∀ (hp:Hp),T hp ((own_ (ocL 1 48 (ocL 1 3 (ocV cdI))) e14 c44)::L)->SemYN E0 ⟨none,false⟩ (pc De [1,1,1,1,1,0,1,0,0,1,1,0,0,1,1,1,1,0,0,1,1,0,0,1,1,0,0]) f ⟨Fr 104 [(6,e14),(8,.sl 10 (v32.map AF.enc)),(11,.sl 1 (v37.1.map Cn.enc)),(13,.v (.int .i64 c40)),(42,.sl 1 (x0.map (cdL 5 AA).enc)),(43,.v (.int .i64 (x0.length:Int))),(44,.v (.int .i64 c33)),(56,.v (.int .i64 (v32.length:Int))),(57,.v (.int .i64 c40)),(60,.v (.int .i64 c40)),(61,.v (.int .i64 c43))],hp⟩ (fun e s=>e=(.exit 6)/\∃ s2,(∃ (h':Hp),T h' ((own_ (ocL 1 48 (ocL 1 3 (ocV cdI))) e14 r)::L)/\s2=⟨Fr 104 [(6,e14),(8,.sl 10 (v32.map AF.enc)),(11,.sl 1 (v37.1.map Cn.enc)),(42,.sl 1 (x0.map (cdL 5 AA).enc)),(43,.v (.int .i64 (x0.length:Int))),(44,.v (.int .i64 c33)),(56,.v (.int .i64 (v32.length:Int))),(57,.v (.int .i64 c40))],h'⟩)/\WkY E0 s s2):=by
 intro f;induction f with
 | zero=>intro c43 c44 r h; cases h
 | succ f ih0 =>
  intro c43 c44 r h  hp hT;unfold Ch at h;refine Cm ?_
  let p1:Nat×AV:=(61,.v (.int .i64 c43))
  let p2:Nat×AV:=(60,.v (.int .i64 c40))
  let p3:Nat×AV:=(57,.v (.int .i64 c40))
  let p4:Nat×AV:=(56,.v (.int .i64 (v32.length:Int)))
  let p5:Nat×AV:=(44,.v (.int .i64 c33))
  let p6:Nat×AV:=(43,.v (.int .i64 (x0.length:Int)))
  let p7:Nat×AV:=(42,.sl 1 (x0.map (cdL 5 AA).enc))
  let p8:Nat×AV:=(13,.v (.int .i64 c40))
  let p9:Nat×AV:=(11,.sl 1 (v37.1.map Cn.enc))
  let p10:Nat×AV:=(8,.sl 10 (v32.map AF.enc))
  refine A7 AC [(6,e14),p10,p9,p8,p7,p6,p5,p4,p3,p2,p1,(62,.v (.bool (decide (c43 < c40))))] ?_;refine AM ?_;refine Bz (b:=(decide (c43 < c40))) kr (fun hb45=>?_) (fun hb45=>?_)
  ·rw [if_pos hb45] at h
   refine SemY.skip ?_;refine AM ?_;refine A4 ?_
   let p11:Nat×AV:=(14,.v (.int .i64 c43))
   refine A7 AC [(6,e14),p10,p9,p8,p11,p7,p6,p5,p4,p3,p2,p1] ?_;refine AM ?_;refine I0 15 AC.mixed kr kr ?_;refine RunDT.q (x:= .sl 1 (v37.1.map Cn.enc)) rfl kr rfl (AB rfl) rfl kr kr ?_;refine RunDT.q (x:= .sl 10 (v32.map AF.enc)) rfl kr rfl (AB rfl) rfl kr kr ?_;refine RunDT.q (x:= .v (.int .i64 c40)) rfl kr rfl (AB rfl) rfl kr kr ?_;obtain ⟨v46,hv46,h⟩:=OB h;refine RunDT.q (x:= .pe (AF.enc v46) 0) rfl kr rfl (AB rfl) rfl (AN (a:= .sl 10 (v32.map AF.enc)) (b:= .v (.int .i64 c40)) kr kr (Gi (e:=AF.enc) (el:=115) (k:=10) (ki:= .i64) kr kr hv46)) kr ?_;refine RunDT.q (x:=(AF.enc v46)) rfl kr rfl (AB rfl) rfl kr kr ?_;refine RunDT.q (x:= .sl 10 (v32.map AF.enc)) rfl kr rfl (AB rfl) rfl kr kr ?_;refine RunDT.q (x:= .v (.int .i64 c43)) rfl kr rfl (AB rfl) rfl kr kr ?_;obtain ⟨v47,hv47,h⟩:=OB h;refine RunDT.q (x:= .pe (AF.enc v47) 0) rfl kr rfl (AB rfl) rfl (AN (a:= .sl 10 (v32.map AF.enc)) (b:= .v (.int .i64 c43)) kr kr (Gi (e:=AF.enc) (el:=115) (k:=10) (ki:= .i64) kr kr hv47)) kr ?_;refine RunDT.q (x:=(AF.enc v47)) rfl kr rfl (AB rfl) rfl kr kr ?_;obtain ⟨v48,hv48,h⟩:=OB h;refine NL (v:=v48) (caps:=[]) (xs:=[.sl 1 (v37.1.map Cn.enc),AF.enc v46,AF.enc v47]) (u:=(v37.1,v46,v47,())) rfl rfl DR rfl (AB rfl) kr kr (Aw (Bx (c:=(cdL 1 Cn)) (v:=v37.1)) (Aw (Bx (c:=AF) (v:=v46)) (Aw (Bx (c:=AF) (v:=v47)) SeesD.nil))) kr hv48 ?_;refine RunDT.q (x:= .tp [.v (.int .i64 v48.1),.v (.int .i64 v48.2)]) rfl kr rfl (AB rfl) rfl kr kr ?_;refine RunDT.q (x:= .v (.int .i64 v48.1)) rfl kr rfl (AB rfl) rfl kr kr ?_;refine RunDT.q (x:= .v (.int .i64 v48.2)) rfl kr rfl (AB rfl) rfl kr kr ?_;refine RunDT.q (x:= .v (.int .i64 v48.1)) rfl kr rfl (AB rfl) rfl kr kr ?_;refine RunDT.q (x:= .v (.int .i64 v48.2)) rfl kr rfl (AB rfl) rfl kr kr ?_;refine RunDT.done rfl (SemY.fr (l':=[(6,e14),p10,p9,p8,p11,(16,.v (.int .i64 v48.2)),p7,p6,p5,p4,p3,p2,p1]) kr ?_);refine A7 AC [(6,e14),p10,p9,p8,p11,p7,p6,p5,p4,p3,p2,p1,(77,.v (.int .i64 v48.2))] ?_
   refine A4 ?_;refine A7 AC [(6,e14),p10,p9,p8,p11,p7,p6,p5,p4,p3,p2,p1,(77,.v (.int .i64 v48.2)),(78,.v (.bool (v48.2==(-1))))] ?_;obtain ⟨r78,hr78,h⟩:=OB h;refine H5 (MA c40 c43 c44 v48 x0 e14 v32 c33 v37 _ hr78 hT) ?_;rintro _ ⟨hp79,hT80,rfl⟩;refine AH ?_;refine AZ AC 2 ?_;refine A3 rfl ?_;exact Bd WkY.f1 (ih0 (wr .i64 (c43 + 1)) r78 _ h  hp79 hT80)
  ·rw [Ce hb45] at h
   refine SemY.exit ?_;have hq:=OI h; subst hq;exact ⟨rfl,_,⟨hp,hT,rfl⟩,WkY.f1⟩
theorem MD {L:List Asn}(v32:(List Ai)) (v37:(List AD)×Bool) (x0:(List (List AD))) (e14:AV) (c33:Int):∀ (f:Nat) (c40:Int) (c41:(List (List Int))) (r:((List (List Int)))),Cg v32 v37 f c40 c41=some r->∀ (hp:Hp),T hp ((own_ (ocL 1 48 (ocL 1 3 (ocV cdI))) e14 c41)::L)->SemYN E0 ⟨none,false⟩ (pc De [1,1,1,1,1,0,1,0,0,1,1,0,0,1,1,1,1,0,0]) f ⟨Fr 104 [(6,e14),(8,.sl 10 (v32.map AF.enc)),(11,.sl 1 (v37.1.map Cn.enc)),(42,.sl 1 (x0.map (cdL 5 AA).enc)),(43,.v (.int .i64 (x0.length:Int))),(44,.v (.int .i64 c33)),(56,.v (.int .i64 (v32.length:Int))),(57,.v (.int .i64 c40))],hp⟩ (fun e s=>e=(.exit 4)/\∃ s2,(∃ (h':Hp),T h' ((own_ (ocL 1 48 (ocL 1 3 (ocV cdI))) e14 r)::L)/\s2=⟨Fr 104 [(6,e14),(8,.sl 10 (v32.map AF.enc)),(42,.sl 1 (x0.map (cdL 5 AA).enc)),(43,.v (.int .i64 (x0.length:Int))),(44,.v (.int .i64 c33))],h'⟩)/\WkY E0 s s2):=by
 intro f;induction f with
 | zero=>intro c40 c41 r h; cases h
 | succ f ih0 =>
  intro c40 c41 r h  hp hT;unfold Cg at h;refine Cm ?_
  let p1:Nat×AV:=(57,.v (.int .i64 c40))
  let p2:Nat×AV:=(56,.v (.int .i64 (v32.length:Int)))
  let p3:Nat×AV:=(44,.v (.int .i64 c33))
  let p4:Nat×AV:=(43,.v (.int .i64 (x0.length:Int)))
  let p5:Nat×AV:=(42,.sl 1 (x0.map (cdL 5 AA).enc))
  let p6:Nat×AV:=(11,.sl 1 (v37.1.map Cn.enc))
  let p7:Nat×AV:=(8,.sl 10 (v32.map AF.enc))
  refine A7 AC [(6,e14),p7,p6,p5,p4,p3,p2,p1,(58,.v (.bool (decide (c40 < (v32.length:Int)))))] ?_;refine AM ?_;refine Bz (b:=(decide (c40 < (v32.length:Int)))) kr (fun hb42=>?_) (fun hb42=>?_)
  ·rw [if_pos hb42] at h
   refine SemY.skip ?_;refine AM ?_;refine A4 ?_;refine A7 AC [(6,e14),p7,p6,(13,.v (.int .i64 c40)),p5,p4,p3,p2,p1] ?_;refine A7 AC [(6,e14),p7,p6,(13,.v (.int .i64 c40)),p5,p4,p3,p2,p1,(60,.v (.int .i64 c40)),(61,.v (.int .i64 0))] ?_;refine A4 ?_;refine SemY.loop (n:=100000) ?_;obtain ⟨r82,hr82,h⟩:=OB h;refine Cc (Bd WkY.f1 (ME v32 v37 c40 x0 e14 c33 _ 0 c41 _ hr82  hp hT)) ?_;rintro _ ⟨hp83,hT84,rfl⟩;refine AH ?_;refine AZ AC 2 ?_;refine A3 rfl ?_;exact Bd WkY.f1 (ih0 (wr .i64 (c40 + 1)) r82 _ h  hp83 hT84)
  ·rw [Ce hb42] at h
   refine SemY.exit ?_;have hq:=OI h; subst hq;exact ⟨rfl,_,⟨hp,hT,rfl⟩,WkY.f1⟩
theorem I5 {L:List Asn}(x0:(List (List AD))) (v32:(List Ai)) (e14:AV):∀ (f:Nat) (c33:Int) (c34:(List (List Int))) (r:((List (List Int))) ⊕ (Unit)),EH x0 v32 f c33 c34=some r->∀ (hp:Hp),T hp ((own_ (ocL 1 48 (ocL 1 3 (ocV cdI))) e14 c34)::L)->SemYN E0 ⟨none,false⟩ (pc De [1,1,1,1,1,0,1,0,0]) f ⟨Fr 104 [(6,e14),(8,.sl 10 (v32.map AF.enc)),(42,.sl 1 (x0.map (cdL 5 AA).enc)),(43,.v (.int .i64 (x0.length:Int))),(44,.v (.int .i64 c33))],hp⟩ (fun e s=>match r with
 | (.inl w)=>e=(.exit 2)/\∃ s2,(∃ (h':Hp),T h' ((own_ (ocL 1 48 (ocL 1 3 (ocV cdI))) e14 w)::L)/\s2=⟨Fr 104 [(6,e14)],h'⟩)/\WkY E0 s s2
 | (.inr w)=>e = .ret/\∃ s2,(∃ (h':Hp),T h' (L)/\s2=⟨Fr 104 [(4,.e0),(5,.v (.bool false))],h'⟩)/\WkY E0 s s2):=by
 intro f;induction f with
 | zero=>intro c33 c34 r h; cases h
 | succ f ih0 =>
  intro c33 c34 r h  hp hT;unfold EH at h;refine Cm ?_
  let p1:Nat×AV:=(44,.v (.int .i64 c33))
  let p2:Nat×AV:=(43,.v (.int .i64 (x0.length:Int)))
  let p3:Nat×AV:=(42,.sl 1 (x0.map (cdL 5 AA).enc))
  let p4:Nat×AV:=(8,.sl 10 (v32.map AF.enc))
  refine A7 AC [(6,e14),p4,p3,p2,p1,(45,.v (.bool (decide (c33 < (x0.length:Int)))))] ?_;refine AM ?_;refine Bz (b:=(decide (c33 < (x0.length:Int)))) kr (fun hb35=>?_) (fun hb35=>?_)
  ·rw [if_pos hb35] at h
   refine SemY.skip ?_;refine AM ?_;refine A4 ?_;refine AM ?_;refine AH ?_;obtain ⟨v36,hv36,h⟩:=OB h;refine AS AC 0 rfl (C5 (AB rfl) rfl (AN (a:= .sl 1 (x0.map (cdL 5 AA).enc)) (b:= .v (.int .i64 c33)) kr kr (Gi (e:=(cdL 5 AA).enc) (el:=22) (k:=1) (ki:= .i64) kr kr hv36))) ?_;refine CA AC [(6,e14),p4,(10,.sl 5 (v36.map AA.enc)),p3,p2,p1] ?_;refine AM ?_;refine AH ?_;refine AZ AC 1 ?_;obtain ⟨v37,hv37,h⟩:=OB h;refine C8 (v:=v37) (caps:=[]) (xs:=[.sl 5 (v36.map AA.enc)]) (u:=(v36,())) rfl rfl LA rfl (AB rfl) kr kr (Aw (Bx (c:=(cdL 5 AA)) (v:=v36)) SeesD.nil) (.inr ⟨by kernel_rfl,GM.de (v36,())⟩) hv37 ?_
   let p5:Nat×AV:=(11,.sl 1 (v37.1.map Cn.enc))
   refine CA AC [(6,e14),p4,p5,(12,.v (.bool v37.2)),p3,p2,p1] ?_;refine AM ?_;refine A7 AC [(6,e14),p4,p5,p3,p2,p1,(54,.v (.bool (!v37.2)))] ?_;refine Bz (b:=(!v37.2)) kr (fun hb38=>?_) (fun hb38=>?_)
   ·rw [if_pos hb38] at h
    refine A7 AC [(4,.e0),(5,.v (.bool false))] ?_;refine SemY.ret ?_;have hq:=OI h; subst hq
    have hT39:=hT.drop
    exact ⟨rfl,_,⟨hp,hT39,rfl⟩,WkY.f1⟩
   ·rw [Ce hb38] at h
    refine SemY.skip ?_;refine AM ?_;refine AH ?_;refine AZ AC 1 ?_;refine AS AC 0 rfl (C5 (AB rfl) rfl (Dd (a:= .sl 10 (v32.map AF.enc)) kr (C1 (el:=115) kr))) ?_;refine CA AC [(6,e14),p4,p5,p3,p2,p1,(56,.v (.int .i64 (v32.length:Int))),(57,.v (.int .i64 0))] ?_;refine A4 ?_;refine SemY.loop (n:=100000) ?_;obtain ⟨r86,hr86,h⟩:=OB h;refine Cc (Bd WkY.f1 (MD v32 v37 x0 e14 c33 _ 0 c34 _ hr86  hp hT)) ?_;rintro _ ⟨hp87,hT88,rfl⟩;refine AH ?_;refine AZ AC 2 ?_;refine A3 rfl ?_;exact Bd WkY.f1 (ih0 (wr .i64 (c33 + 1)) r86 _ h  hp87 hT88)
  ·rw [Ce hb35] at h
   refine SemY.exit ?_;have hq:=OI h; subst hq;exact ⟨rfl,_,⟨hp,hT,rfl⟩,WkY.f1⟩
theorem NU {L:List Asn}{hp:Hp}(x0:(List (List AD))) (x1:(List Ah)) (r:(List (List Int))×Bool) (h:Em x0 x1=some r) (hT:T hp (L)):SemY E0 ⟨none,false⟩ De ⟨Fr 104 (BN 0 [.sl 1 (x0.map (cdL 5 AA).enc),.sl 9 (x1.map AK.enc)]),hp⟩ fun x s'=>(x = .normal\/x = .ret)/\∃ ys,Eo E0.P s'.fr s'.hp Tryz.f107.results.toList=some ys/\(fun v h'=>v = .tp [.sl 1 (r.1.map (cdL 1 cdI).enc),.v (.bool r.2)]/\T h' (L)) (Es ys) s'.hp:=by
 unfold Em at h;refine IP (JN (s1:=⟨Fr 104 [(0,.sl 1 (x0.map (cdL 5 AA).enc)),(1,.sl 9 (x1.map AK.enc))],hp⟩) WkY.f1 ?_);refine A7 AC [(0,.sl 1 (x0.map (cdL 5 AA).enc)),(1,.sl 9 (x1.map AK.enc))] ?_;refine AM ?_;refine AM ?_;obtain ⟨j1,hj1,h⟩:=OB h;refine NM (A:=fun s1=>∃ (h':Hp),T h' (L)/\s1=⟨Fr 104 [(0,.sl 1 (x0.map (cdL 5 AA).enc)),(1,.sl 9 (x1.map AK.enc)),(24,.v (.bool j1))],h'⟩) ?_ ?_
 ·refine AZ AC 1 ?_
  refine AS AC 0 rfl (C5 (AB rfl) rfl (Dd (a:= .sl 1 (x0.map (cdL 5 AA).enc)) kr (C1 (el:=22) kr))) ?_;refine Gx (n:=104) AC 2 [(0,.sl 1 (x0.map (cdL 5 AA).enc)),(1,.sl 9 (x1.map AK.enc)),(20,.v (.bool (decide ((x0.length:Int) > 16))))] hp kr ?_;rcases BE (decide ((x0.length:Int) > 16)) with hc104 | hc104
  ·rw [if_pos hc104] at hj1
   rw [hc104];refine AZ AC 4 ?_;have hq:=OI hj1; subst hq;exact A3 rfl ⟨_,⟨hp,hT,rfl⟩,WkY.f1⟩
  ·rw [Ce hc104] at hj1
   rw [hc104];refine AZ AC 1 ?_;refine AS AC 0 rfl (C5 kr rfl (Dd (a:= .sl 9 (x1.map AK.enc)) kr (C1 (el:=42) kr))) ?_;refine AZ AC 2 ?_;have hq:=OI hj1; subst hq;exact A3 rfl ⟨_,⟨hp,hT,rfl⟩,WkY.f1⟩
 rintro _ ⟨hp3,hT4,rfl⟩;refine Bz (b:=j1) kr (fun hb5=>?_) (fun hb5=>?_)
 ·rw [if_pos hb5] at h
  refine A7 AC [(4,.e0),(5,.v (.bool false))] ?_;refine SemY.ret ?_;have hq:=OI h; subst hq
  have hT6:=(T.e0 (k:=1) (ty:=48) (o:=(ocL 1 3 (ocV cdI))) hT4)
  obtain ⟨hp7,hw8,hT9⟩:=Ed (E:=E0) (n:=104) (l:=[(4,.e0),(5,.v (.bool false))]) (l':=[(4,.sl 1 (([]:(List (List Int))).map (cdL 1 cdI).enc)),(5,.v (.bool false))]) hT6 ⟨⟨.e0,kr,Dt⟩,⟨.v (.bool false),kr,FzU.refl⟩,trivial⟩;exact ⟨⟨Fr 104 [(4,.sl 1 (([]:(List (List Int))).map (cdL 1 cdI).enc)),(5,.v (.bool false))],hp7⟩,(WkY.trans (WkY.trans WkY.f1 hw8) WkY.f1),.inr rfl,[.sl 1 (([]:(List (List Int))).map (cdL 1 cdI).enc),.v (.bool false)],kr,⟨rfl,hT9⟩⟩
 ·rw [Ce hb5] at h
  refine SemY.skip ?_;refine AM ?_;refine AH ?_;refine AZ AC 1 ?_;refine AS AC 0 rfl (C5 (AB rfl) rfl (Dd (a:= .sl 9 (x1.map AK.enc)) kr (C1 (el:=42) kr))) ?_;by_cases hk10:(P0 24 (x1.length:Int))=true
  case neg=>rw [if_neg hk10] at h; cases h
  rw [if_pos hk10] at h;obtain ⟨e14,hp11,hb12,hT13⟩:=Np (P:=Tryz.prog) (o:=(ocL 1 3 (ocV cdI))) (k:=1) (t:=48) (ty:=46) (bytes:=24) (kn:= .i64) (kc:= .i64) (m:=(x1.length:Int)) (x0:=([]:(List Int))) hT4 (fun _=> .inl ⟨rfl,rfl,rfl⟩) kr kr hk10;refine AS AC 0 rfl (QW (AB rfl) rfl kr (Rx (x:= .v (.int .i64 (x1.length:Int))) (y:= .v (.int .i64 (x1.length:Int))) kr kr hb12)) ?_;refine CA AC [(0,.sl 1 (x0.map (cdL 5 AA).enc)),(1,.sl 9 (x1.map AK.enc)),(6,e14)] ?_;refine AM ?_;refine AM ?_;refine AH ?_;refine AZ AC 1 ?_;refine AS AC 0 rfl (C5 (AB rfl) rfl (Dd (a:=e14) kr (Nm hT13 kr))) ?_;refine CA AC [(0,.sl 1 (x0.map (cdL 5 AA).enc)),(1,.sl 9 (x1.map AK.enc)),(6,e14),(29,.v (.int .i64 ((List.replicate (x1.length:Int).toNat ([]:(List Int))).length:Int))),(30,.v (.int .i64 0))] ?_;refine A4 ?_;refine SemY.loop (n:=100000) ?_;obtain ⟨r29,hr29,h⟩:=OB h;refine Cc (Bd WkY.f1 (MC x1 x0 e14 _ 0 (List.replicate (x1.length:Int).toNat ([]:(List Int))) _ hr29  hp11 hT13)) ?_;rintro _ ⟨hp30,hT31,rfl⟩;refine AM ?_;refine AH ?_;refine AZ AC 1 ?_;obtain ⟨v32,hv32,h⟩:=OB h;refine C8 (v:=v32) (caps:=[]) (xs:=[.sl 9 (x1.map AK.enc)]) (u:=(x1,())) rfl rfl Qp rfl (AB rfl) kr kr (Aw (Bx (c:=(cdL 9 AK)) (v:=x1)) SeesD.nil) (.inr ⟨by kernel_rfl,Hr.de (x1,())⟩) hv32 ?_;refine CA AC [(0,.sl 1 (x0.map (cdL 5 AA).enc)),(6,e14),(8,.sl 10 (v32.map AF.enc))] ?_;refine AM ?_;refine AM ?_;refine AH ?_;refine AZ AC 1 ?_;refine AS AC 0 rfl (C5 (AB rfl) rfl (Dd (a:= .sl 1 (x0.map (cdL 5 AA).enc)) kr (C1 (el:=22) kr))) ?_;refine CA AC [(6,e14),(8,.sl 10 (v32.map AF.enc)),(42,.sl 1 (x0.map (cdL 5 AA).enc)),(43,.v (.int .i64 (x0.length:Int))),(44,.v (.int .i64 0))] ?_;refine A4 ?_;refine SemY.loop (n:=100000) ?_;obtain ⟨r90,hr90,h⟩:=OB h;rcases r90 with w91 | w97
  ·try dsimp only at h
   refine Cc (Bd WkY.f1 (I5 x0 v32 e14 _ 0 r29 _ hr90  hp30 hT31)) ?_;rintro _ ⟨hp92,hT93,rfl⟩;refine A7 AC [(4,e14),(5,.v (.bool true))] ?_;refine SemY.ret ?_;have hq:=OI h; subst hq;obtain ⟨hp94,hw95,hT96⟩:=Ed (E:=E0) (n:=104) (l:=[(4,e14),(5,.v (.bool true))]) (l':=[(4,.sl 1 (w91.map (cdL 1 cdI).enc)),(5,.v (.bool true))]) hT93 ⟨⟨e14,kr,Dt⟩,⟨.v (.bool true),kr,FzU.refl⟩,trivial⟩;exact ⟨⟨Fr 104 [(4,.sl 1 (w91.map (cdL 1 cdI).enc)),(5,.v (.bool true))],hp94⟩,(WkY.trans (WkY.trans WkY.f1 hw95) WkY.f1),.inr rfl,[.sl 1 (w91.map (cdL 1 cdI).enc),.v (.bool true)],kr,⟨rfl,hT96⟩⟩
  ·try dsimp only at h
   refine Cc (Bd WkY.f1 (I5 x0 v32 e14 _ 0 r29 _ hr90  hp30 hT31)) ?_;rintro _ ⟨hp98,hT99,rfl⟩;have hq:=OI h; subst hq
   have hT100:=(T.e0 (k:=1) (ty:=48) (o:=(ocL 1 3 (ocV cdI))) hT99)
   obtain ⟨hp101,hw102,hT103⟩:=Ed (E:=E0) (n:=104) (l:=[(4,.e0),(5,.v (.bool false))]) (l':=[(4,.sl 1 (([]:(List (List Int))).map (cdL 1 cdI).enc)),(5,.v (.bool false))]) hT100 ⟨⟨.e0,kr,Dt⟩,⟨.v (.bool false),kr,FzU.refl⟩,trivial⟩;exact ⟨⟨Fr 104 [(4,.sl 1 (([]:(List (List Int))).map (cdL 1 cdI).enc)),(5,.v (.bool false))],hp101⟩,(WkY.trans (WkY.trans WkY.f1 hw102) WkY.f1),.inr rfl,[.sl 1 (([]:(List (List Int))).map (cdL 1 cdI).enc),.v (.bool false)],kr,⟨rfl,hT103⟩⟩
noncomputable def Gv:Cs ((List (List AD))×(List Ah)×Unit):=(csC (cdL 1 (cdL 5 AA)) (csC (cdL 9 AK) csN))
noncomputable def K5 (r:(List (List Int))×Bool):AV:= .tp [(cdL 1 (cdL 1 cdI)).enc r.1,cdB.enc r.2]
noncomputable def Pp:List AV->Option AV:=EF Gv (fun a=>Em a.1 a.2.1) K5
theorem Jl:XOk 107 Pp:=by
 refine AR Tryz.func107 (c:=De) ?h2 ⟨Tryz.call107⟩ Gv (fun a=>Em a.1 a.2.1) K5 (fun a=>(by show 2<=104; decide)) ?h3 ?h4
 case h2=>kernel_rfl
 case h3=>intro b; kernel_rfl
 case h4 =>
  intro a b h;refine Sem.mono (Lr (NU (L:=[]) (hp:=[]) a.1 a.2.1 b h T.nil)) fun e s' hs=>?_
  obtain ⟨h1,ys,h2,h3,-⟩:=hs;exact ⟨h1,ys,h2,h3⟩
/- trestle/court.permutation -/
noncomputable def FQ:Code:=Bh Tryz.f108
def CY (x0:(List Int)) (x1:Int):Nat->(List Bool)->Int->Option ((Unit) ⊕ (Bool))
 | 0,_,_=>none
 | f + 1,c2,c3 =>
  if (decide (c3 < (x0.length:Int)))=true then
  (idx x0 c3).bind fun v5 =>
  (if (decide (v5 < 0))=true then some (c2,true) else if (decide (v5≥x1))=true then some (c2,true) else (idx c2 v5).bind fun v6 =>
  some (c2,v6)).bind fun j9 =>
  if j9.2=true then
  some (.inr false)
  else
  (idx j9.1 v5).bind fun v12 =>
  CY x0 x1 f (j9.1.set v5.toNat true) (wr .i64 (c3 + 1))
  else
  some (.inl ())
def DB (x0:(List Int)) (x1:Int):Option (Bool) :=
 if (P0 1 x1)=true then
 (CY x0 x1 100000 (List.replicate x1.toNat false) 0).bind fun r15 =>
 match r15 with
 | (.inl w16) =>
  some ((x0.length:Int)==x1)
 | (.inr w17) =>
  some w17
 else none
def FS:Cs ((List Int)×Int×Unit):=(csC (cdL 1 cdI) (csC cdI csN))
def FU (r:Bool):AV:=cdB.enc r
theorem GE (x0:(List Int)) (x1:Int):∀ (f:Nat) (c2:(List Bool)) (c3:Int) (r:(Unit) ⊕ (Bool)),CY x0 x1 f c2 c3=some r->SemN E0 ⟨none,false⟩ (pc FQ [1,1,0,1,0,0]) f ⟨Fr 37 [(0,.sl 1 (x0.map cdI.enc)),(1,.v (.int .i64 x1)),(5,.rf 0 0 c2.length c2.length),(10,.sl 1 (x0.map cdI.enc)),(11,.v (.int .i64 (x0.length:Int))),(12,.v (.int .i64 c3))],[some ⟨1,4,(c2.map cdB.enc),false⟩]⟩ (fun e s=>match r with
 | (.inl w)=>e=(.exit 0)/\Wk E0 s ⟨Fr 37 [(0,.sl 1 (x0.map cdI.enc)),(1,.v (.int .i64 x1))],[]⟩
 | (.inr w)=>e = .ret/\Wk E0 s ⟨Fr 37 [(4,.v (.bool w))],[]⟩):=by
 intro f;induction f with
 | zero=>intro c2 c3 r h; cases h
 | succ f ih0 =>
  intro c2 c3 r h
  have ih:=fun (c2:(List Bool)) (c3:Int)=>ih0 c2 c3 r
  unfold CY at h;refine D5 ?_;refine AL AC [(0,.sl 1 (x0.map cdI.enc)),(1,.v (.int .i64 x1)),(5,.rf 0 0 c2.length c2.length),(10,.sl 1 (x0.map cdI.enc)),(11,.v (.int .i64 (x0.length:Int))),(12,.v (.int .i64 c3)),(13,.v (.bool (decide (c3 < (x0.length:Int)))))] [some ⟨1,4,(c2.map cdB.enc),false⟩] ?_;refine AG ?_;refine AT (b:=(decide (c3 < (x0.length:Int)))) kr (fun hb4=>?_) (fun hb4=>?_)
  ·rw [if_pos hb4] at h
   refine Ae ?_;refine AG ?_;refine Bb ?_;refine AG ?_;obtain ⟨v5,hv5,h⟩:=OB h;refine AJ (s1:=⟨Fr 37 [(0,.sl 1 (x0.map cdI.enc)),(1,.v (.int .i64 x1)),(5,.rf 0 0 c2.length c2.length),(7,.v (.int .i64 v5)),(10,.sl 1 (x0.map cdI.enc)),(11,.v (.int .i64 (x0.length:Int))),(12,.v (.int .i64 c3))],[some ⟨1,4,(c2.map cdB.enc),false⟩]⟩) ?_ ?_
   ·refine Aa AC 0 rfl (C5 (AB rfl) rfl (AN (a:= .sl 1 (x0.map cdI.enc)) (b:= .v (.int .i64 c3)) kr kr (Gi (e:=cdI.enc) (el:=3) (k:=1) (ki:= .i64) kr kr hv5))) ?_
    exact Ap AC
   refine AG ?_;refine AG ?_;obtain ⟨j9,hj9,h⟩:=OB h;refine AJ (s1:=⟨Fr 37 [(0,.sl 1 (x0.map cdI.enc)),(1,.v (.int .i64 x1)),(5,.rf 0 0 j9.1.length j9.1.length),(7,.v (.int .i64 v5)),(10,.sl 1 (x0.map cdI.enc)),(11,.v (.int .i64 (x0.length:Int))),(12,.v (.int .i64 c3)),(28,.v (.bool j9.2))],[some ⟨1,4,(j9.1.map cdB.enc),false⟩]⟩) ?_ ?_
   ·refine AE (n:=37) AC 3 [(0,.sl 1 (x0.map cdI.enc)),(1,.v (.int .i64 x1)),(5,.rf 0 0 c2.length c2.length),(7,.v (.int .i64 v5)),(10,.sl 1 (x0.map cdI.enc)),(11,.v (.int .i64 (x0.length:Int))),(12,.v (.int .i64 c3)),(18,.v (.bool (decide (v5 < 0))))] [some ⟨1,4,(c2.map cdB.enc),false⟩] kr ?_
    rcases BE (decide (v5 < 0)) with hc13 | hc13
    ·rw [if_pos hc13] at hj9
     rw [hc13];refine AE (n:=37) AC 10 [(0,.sl 1 (x0.map cdI.enc)),(1,.v (.int .i64 x1)),(5,.rf 0 0 c2.length c2.length),(7,.v (.int .i64 v5)),(10,.sl 1 (x0.map cdI.enc)),(11,.v (.int .i64 (x0.length:Int))),(12,.v (.int .i64 c3)),(19,.tp []),(20,.tp []),(21,.tp []),(24,.tp []),(25,.tp []),(26,.tp []),(27,.tp []),(28,.v (.bool true))] [some ⟨1,4,(c2.map cdB.enc),false⟩] kr ?_;have hq:=OI hj9; subst hq;exact AI rfl (Ao [0] ⟨⟨_,rfl,Mh⟩,trivial⟩ ⟨lv,lv,lv,lv,lv,lv,lv,lv,trivial⟩)
    ·rw [Ce hc13] at hj9
     rw [hc13];refine AE (n:=37) AC 5 [(0,.sl 1 (x0.map cdI.enc)),(1,.v (.int .i64 x1)),(5,.rf 0 0 c2.length c2.length),(7,.v (.int .i64 v5)),(10,.sl 1 (x0.map cdI.enc)),(11,.v (.int .i64 (x0.length:Int))),(12,.v (.int .i64 c3)),(19,.v (.int .i64 v5)),(20,.v (.int .i64 x1)),(21,.v (.bool (decide (v5≥x1)))),(23,.v (.bool (decide (v5≥x1))))] [some ⟨1,4,(c2.map cdB.enc),false⟩] kr ?_;rcases BE (decide (v5≥x1)) with hc14 | hc14
     ·rw [if_pos hc14] at hj9
      rw [hc14];refine AE (n:=37) AC 5 [(0,.sl 1 (x0.map cdI.enc)),(1,.v (.int .i64 x1)),(5,.rf 0 0 c2.length c2.length),(7,.v (.int .i64 v5)),(10,.sl 1 (x0.map cdI.enc)),(11,.v (.int .i64 (x0.length:Int))),(12,.v (.int .i64 c3)),(19,.v (.int .i64 v5)),(20,.v (.int .i64 x1)),(21,.v (.bool true)),(24,.tp []),(25,.tp []),(26,.tp []),(27,.tp []),(28,.v (.bool true))] [some ⟨1,4,(c2.map cdB.enc),false⟩] kr ?_;have hq:=OI hj9; subst hq;exact AI rfl (Ao [0] ⟨⟨_,rfl,Mh⟩,trivial⟩ ⟨lv,lv,lv,lv,lv,lv,lv,lv,trivial⟩)
     ·rw [Ce hc14] at hj9
      rw [hc14];refine AE (n:=37) AC 2 [(0,.sl 1 (x0.map cdI.enc)),(1,.v (.int .i64 x1)),(5,.rf 0 0 c2.length c2.length),(7,.v (.int .i64 v5)),(10,.sl 1 (x0.map cdI.enc)),(11,.v (.int .i64 (x0.length:Int))),(12,.v (.int .i64 c3)),(19,.v (.int .i64 v5)),(20,.v (.int .i64 x1)),(21,.v (.bool false)),(23,.v (.bool false)),(24,.rf 0 0 c2.length c2.length),(25,.v (.int .i64 v5))] [some ⟨1,4,(c2.map cdB.enc),false⟩] kr ?_;obtain ⟨v6,hv6,hj9⟩:=OB hj9;refine Aa AC 0 rfl (C5 kr rfl (AN (a:= .rf 0 0 c2.length c2.length) (b:= .v (.int .i64 v5)) kr kr (Xq (e:=cdB.enc) (xs:=c2) (t':=4) (el:=4) (k:=1) (ki:= .i64) kr kr kr hv6))) ?_;refine Aa AC 0 rfl (C5 kr rfl (G3 (p:= .pt 0 v5.toNat 0) kr (Xs (B:=⟨1,4,(c2.map cdB.enc),false⟩) (m:=1) (g:=false) (e:=cdB.enc) (xs:=c2) kr kr kr rfl (Dh hv6).2 kr))) ?_;refine AE (n:=37) AC 1 [(0,.sl 1 (x0.map cdI.enc)),(1,.v (.int .i64 x1)),(5,.rf 0 0 c2.length c2.length),(7,.v (.int .i64 v5)),(10,.sl 1 (x0.map cdI.enc)),(11,.v (.int .i64 (x0.length:Int))),(12,.v (.int .i64 c3)),(19,.v (.int .i64 v5)),(20,.v (.int .i64 x1)),(21,.v (.bool false)),(24,.rf 0 0 c2.length c2.length),(25,.v (.int .i64 v5)),(26,.pt 0 v5.toNat 0),(27,.v (.bool v6)),(28,.v (.bool v6))] [some ⟨1,4,(c2.map cdB.enc),false⟩] kr ?_;have hq:=OI hj9; subst hq;exact AI rfl (Ao [0] ⟨⟨_,rfl,Mh⟩,trivial⟩ ⟨lv,lv,lv,lv,lv,lv,lv,lv,trivial⟩)
   refine AT (b:=j9.2) kr (fun hb10=>?_) (fun hb10=>?_)
   ·rw [if_pos hb10] at h
    refine AG ?_;refine AJ (s1:=⟨Fr 37 [(4,.v (.bool false))],[]⟩) ?_ ?_
    ·refine AE (n:=37) AC 1 [(4,.v (.bool false))] [some ⟨1,4,(j9.1.map cdB.enc),false⟩] kr ?_
     exact AI rfl (Ao [] trivial ⟨lv,trivial⟩)
    refine AX ?_;have hq:=OI h; subst hq;exact ⟨rfl,AQ⟩
   ·rw [Ce hb10] at h
    refine Ae ?_;obtain ⟨v12,hv12,h⟩:=OB h;refine AJ (s1:=⟨Fr 37 [(0,.sl 1 (x0.map cdI.enc)),(1,.v (.int .i64 x1)),(5,.rf 0 0 (j9.1.set v5.toNat true).length (j9.1.set v5.toNat true).length),(10,.sl 1 (x0.map cdI.enc)),(11,.v (.int .i64 (x0.length:Int))),(12,.v (.int .i64 c3))],[some ⟨1,4,((j9.1.set v5.toNat true).map cdB.enc),false⟩]⟩) ?_ ?_
    ·refine AE (n:=37) AC 2 [(0,.sl 1 (x0.map cdI.enc)),(1,.v (.int .i64 x1)),(5,.rf 0 0 j9.1.length j9.1.length),(10,.sl 1 (x0.map cdI.enc)),(11,.v (.int .i64 (x0.length:Int))),(12,.v (.int .i64 c3)),(29,.rf 0 0 j9.1.length j9.1.length),(30,.v (.int .i64 v5))] [some ⟨1,4,(j9.1.map cdB.enc),false⟩] kr ?_
     refine Aa AC 0 rfl (C5 (AB rfl) rfl (AN (a:= .rf 0 0 j9.1.length j9.1.length) (b:= .v (.int .i64 v5)) kr kr (Xq (e:=cdB.enc) (xs:=j9.1) (t':=4) (el:=4) (k:=1) (ki:= .i64) kr kr kr hv12))) ?_;refine RunS.store AC (y:= .pt 0 v5.toNat 0) (z:= .v (.bool true)) rfl (AB rfl) kr kr (YF (t':=4) (k:=1) (e:=cdB.enc) (xs:=j9.1) (v:=v12) (v':=true) kr (Dh hv12).2 kr kr kr) ?_;exact AI rfl (Ao [0] ⟨⟨_,rfl,Mh⟩,trivial⟩ ⟨lv,lv,ZM (b':=0) (n:=j9.1.length) kr (by simp) kr,lv,lv,lv,trivial⟩)
    refine Ep AC [(0,.sl 1 (x0.map cdI.enc)),(1,.v (.int .i64 x1)),(5,.rf 0 0 (j9.1.set v5.toNat true).length (j9.1.set v5.toNat true).length),(10,.sl 1 (x0.map cdI.enc)),(11,.v (.int .i64 (x0.length:Int))),(12,.v (.int .i64 (wr .i64 (c3 + 1))))] [some ⟨1,4,((j9.1.set v5.toNat true).map cdB.enc),false⟩] ?_;exact CF (s1:=⟨Fr 37 [(0,.sl 1 (x0.map cdI.enc)),(1,.v (.int .i64 x1)),(5,.rf 0 0 (j9.1.set v5.toNat true).length (j9.1.set v5.toNat true).length),(10,.sl 1 (x0.map cdI.enc)),(11,.v (.int .i64 (x0.length:Int))),(12,.v (.int .i64 (wr .i64 (c3 + 1))))],[some ⟨1,4,((j9.1.set v5.toNat true).map cdB.enc),false⟩]⟩) (Ao [0] ⟨⟨_,rfl,Mh⟩,trivial⟩ ⟨lv,lv,lv,lv,lv,lv,trivial⟩) (ih (j9.1.set v5.toNat true) (wr .i64 (c3 + 1)) h)
  ·rw [Ce hb4] at h
   refine Ew ?_;have hq:=OI h; subst hq;exact ⟨rfl,(Ao [] trivial ⟨lv,lv,trivial⟩)⟩
theorem KL (x0:(List Int)) (x1:Int) (r:Bool) (h:DB x0 x1=some r):Sem E0 ⟨none,false⟩ FQ ⟨Fr 37 (BN 0 (FS.enc (x0,x1,()))),[]⟩ fun e s'=>(e = .normal\/e = .ret)/\∃ xs,Eo E0.P s'.fr s'.hp Tryz.f108.results.toList=some xs/\Es xs=FU r:=by
 unfold DB at h
 let p1:Nat×AV:=(1,.v (.int .i64 x1))
 let p2:Nat×AV:=(0,.sl 1 (x0.map cdI.enc))
 refine BJ (CB (s1:=⟨Fr 37 [p2,p1],[]⟩) AQ ?_);refine AL AC [p2,p1] [] ?_;refine AG ?_;by_cases hk1:(P0 1 x1)=true
 case neg=>rw [if_neg hk1] at h; cases h
 rw [if_pos hk1] at h
 let p3:Option Blk:=some ⟨1,4,((List.replicate x1.toNat false).map cdB.enc),false⟩
 let p4:Nat×AV:=(5,.rf 0 0 (List.replicate x1.toNat false).length (List.replicate x1.toNat false).length)
 refine AJ (s1:=⟨Fr 37 [p2,p1,p4],[p3]⟩) ?_ ?_
 ·refine AE (n:=37) AC 1 [p2,p1,(8,.v (.int .i64 x1))] [] kr ?_
  refine Aa AC 0 rfl (QW (AB rfl) rfl kr (Rx (x:= .v (.int .i64 x1)) (y:= .v (.int .i64 x1)) kr kr (X0 (c:=cdB) (z:=false) (k:=1) (bytes:=1) (el:=4) kr kr hk1))) ?_;exact Ap AC
 refine AG ?_;refine AG ?_
 let p5:Nat×AV:=(12,.v (.int .i64 0))
 let p6:Nat×AV:=(11,.v (.int .i64 (x0.length:Int)))
 let p7:Nat×AV:=(10,.sl 1 (x0.map cdI.enc))
 refine AJ (s1:=⟨Fr 37 [p2,p1,p4,p7,p6,p5],[p3]⟩) ?_ ?_
 ·refine AE (n:=37) AC 1 [p2,p1,p4,p7] [p3] kr ?_
  refine Aa AC 0 rfl (C5 (AB rfl) rfl (Dd (a:= .sl 1 (x0.map cdI.enc)) kr (C1 (el:=3) kr))) ?_;exact Ap AC
 refine Bb ?_;obtain ⟨r15,hr15,h⟩:=OB h;refine Ey (n:=100000) ?_;rcases r15 with w16 | w17
 ·try dsimp only at h
  refine Cq (CF (s1:=⟨Fr 37 [p2,p1,p4,p7,p6,p5],[p3]⟩) (Ao [0] ⟨⟨_,rfl,Mh⟩,trivial⟩ ⟨lv,lv,lv,lv,lv,lv,trivial⟩) (GE x0 x1 _ (List.replicate x1.toNat false) 0 _ hr15)) ?_;refine AG ?_
  let p8:Nat×AV:=(4,.v (.bool ((x0.length:Int)==x1)))
  refine AJ (s1:=⟨Fr 37 [p8],[]⟩) ?_ ?_
  ·refine AE (n:=37) AC 1 [p1,(33,.sl 1 (x0.map cdI.enc))] [] kr ?_
   refine Aa AC 0 rfl (C5 (AB rfl) rfl (Dd (a:= .sl 1 (x0.map cdI.enc)) kr (C1 (el:=3) kr))) ?_;exact Ap AC
  refine AX ?_;have hq:=OI h; subst hq;exact ⟨⟨Fr 37 [p8],[]⟩,AQ,.inr rfl,[.v (.bool ((x0.length:Int)==x1))],kr,kr⟩
 ·try dsimp only at h
  refine Cq (CF (s1:=⟨Fr 37 [p2,p1,p4,p7,p6,p5],[p3]⟩) (Ao [0] ⟨⟨_,rfl,Mh⟩,trivial⟩ ⟨lv,lv,lv,lv,lv,lv,trivial⟩) (GE x0 x1 _ (List.replicate x1.toNat false) 0 _ hr15)) ?_;have hq:=OI h; subst hq;exact ⟨⟨Fr 37 [(4,.v (.bool w17))],[]⟩,AQ,.inr rfl,[.v (.bool w17)],kr,kr⟩
def LN:List AV->Option AV:=EF FS (fun a=>DB a.1 a.2.1) FU
theorem LQ:XOk 108 LN:=by
 refine AR Tryz.func108 (c:=FQ) ?h2 ⟨Tryz.call108⟩ FS (fun a=>DB a.1 a.2.1) FU (fun a=>(by show 2<=37; decide)) ?h3 ?h4
 case h2=>kernel_rfl
 case h3=>intro b; kernel_rfl
 case h4=>exact fun a b h=>KL a.1 a.2.1 b h
/- trestle/court.Disagreements -/
noncomputable def Dv:Code:=Bh Tryz.f46
def Az (x2:(List Int)) (v1:(List (List Int))×Bool) (c7:Int) (v9:Int):Nat->Int->Int->Option ((Int))
 | 0,_,_=>none
 | f + 1,c11,c12 =>
  if (decide (c12 < (((x2.take (x2.length:Int).toNat).drop (wr .i64 (c7 + 1)).toNat).length:Int)))=true then
  (idx ((x2.take (x2.length:Int).toNat).drop (wr .i64 (c7 + 1)).toNat) c12).bind fun v14 =>
  (idx v1.1 v14).bind fun v15 =>
  (idx v15 v9).bind fun v16 =>
  Az x2 v1 c7 v9 f (wr .i64 (c11 + v16)) (wr .i64 (c12 + 1))
  else
  some c11
def CG (x2:(List Int)) (v1:(List (List Int))×Bool):Nat->Int->Int->Option ((Int))
 | 0,_,_=>none
 | f + 1,c6,c7 =>
  if (decide (c7 < (x2.length:Int)))=true then
  (idx x2 c7).bind fun v9 =>
  if (DG (wr .i64 (c7 + 1)) (x2.length:Int) x2.length)=true then
  (Az x2 v1 c7 v9 100000 c6 0).bind fun r18 =>
  CG x2 v1 f r18 (wr .i64 (c7 + 1))
  else none
  else
  some c6
def Bu (x0:(List (List AD))) (x1:(List Ah)) (x2:(List Int)):Option (Int) :=
 (Em x0 x1).bind fun v1 =>
 (if (!v1.2)=true then some true else (DB x2 (x1.length:Int)).bind fun v2 =>
 some (!v2)).bind fun j4 =>
 if j4=true then
 some 0
 else
 (CG x2 v1 100000 0 0).bind fun r20 =>
 some r20
def Et:Cs ((List (List AD))×(List Ah)×(List Int)×Unit):=(csC (cdL 1 (cdL 5 AA)) (csC (cdL 9 AK) (csC (cdL 1 cdI) csN)))
def Eu (r:Int):AV:=cdI.enc r
theorem Ik (x2:(List Int)) (v1:(List (List Int))×Bool) (c7:Int) (v9:Int):∀ (f:Nat) (c11:Int) (c12:Int) (r:(Int)),Az x2 v1 c7 v9 f c11 c12=some r->SemN E0 ⟨none,false⟩ (pc Dv [1,1,1,1,0,1,0,0,1,1,0,0,1,1,0,0]) f ⟨Fr 57 [(2,.sl 1 (x2.map cdI.enc)),(7,.sl 1 (v1.1.map (cdL 1 cdI).enc)),(9,.v (.int .i64 c11)),(11,.v (.int .i64 v9)),(29,.sl 1 (x2.map cdI.enc)),(30,.v (.int .i64 (x2.length:Int))),(31,.v (.int .i64 c7)),(39,.sl 1 (((x2.take (x2.length:Int).toNat).drop (wr .i64 (c7 + 1)).toNat).map cdI.enc)),(40,.v (.int .i64 (((x2.take (x2.length:Int).toNat).drop (wr .i64 (c7 + 1)).toNat).length:Int))),(41,.v (.int .i64 c12))],[]⟩ (fun e s=>e=(.exit 2)/\Wk E0 s ⟨Fr 57 [(2,.sl 1 (x2.map cdI.enc)),(7,.sl 1 (v1.1.map (cdL 1 cdI).enc)),(9,.v (.int .i64 r)),(29,.sl 1 (x2.map cdI.enc)),(30,.v (.int .i64 (x2.length:Int))),(31,.v (.int .i64 c7))],[]⟩):=by
 intro f;induction f with
 | zero=>intro c11 c12 r h; cases h
 | succ f ih0 =>
  intro c11 c12 r h
  have ih:=fun (c11:Int) (c12:Int)=>ih0 c11 c12 r
  unfold Az at h;refine D5 ?_
  let p1:Nat×AV:=(41,.v (.int .i64 c12))
  let p2:Nat×AV:=(40,.v (.int .i64 (((x2.take (x2.length:Int).toNat).drop (wr .i64 (c7 + 1)).toNat).length:Int)))
  let p3:Nat×AV:=(39,.sl 1 (((x2.take (x2.length:Int).toNat).drop (wr .i64 (c7 + 1)).toNat).map cdI.enc))
  let p4:Nat×AV:=(31,.v (.int .i64 c7))
  let p5:Nat×AV:=(30,.v (.int .i64 (x2.length:Int)))
  let p6:Nat×AV:=(29,.sl 1 (x2.map cdI.enc))
  let p7:Nat×AV:=(11,.v (.int .i64 v9))
  let p8:Nat×AV:=(7,.sl 1 (v1.1.map (cdL 1 cdI).enc))
  let p9:Nat×AV:=(2,.sl 1 (x2.map cdI.enc))
  refine AL AC [p9,p8,(9,.v (.int .i64 c11)),p7,p6,p5,p4,p3,p2,p1,(42,.v (.bool (decide (c12 < (((x2.take (x2.length:Int).toNat).drop (wr .i64 (c7 + 1)).toNat).length:Int)))))] [] ?_;refine AG ?_;refine AT (b:=(decide (c12 < (((x2.take (x2.length:Int).toNat).drop (wr .i64 (c7 + 1)).toNat).length:Int)))) kr (fun hb13=>?_) (fun hb13=>?_)
  ·rw [if_pos hb13] at h
   refine Ae ?_;refine AG ?_;refine Bb ?_;refine AG ?_;obtain ⟨v14,hv14,h⟩:=OB h;refine AJ (s1:=⟨Fr 57 [p9,p8,(9,.v (.int .i64 c11)),p7,(13,.v (.int .i64 v14)),p6,p5,p4,p3,p2,p1],[]⟩) ?_ ?_
   ·refine Aa AC 0 rfl (C5 (AB rfl) rfl (AN (a:= .sl 1 (((x2.take (x2.length:Int).toNat).drop (wr .i64 (c7 + 1)).toNat).map cdI.enc)) (b:= .v (.int .i64 c12)) kr kr (Gi (e:=cdI.enc) (el:=3) (k:=1) (ki:= .i64) kr kr hv14))) ?_
    exact Ap AC
   obtain ⟨v15,hv15,h⟩:=OB h;obtain ⟨v16,hv16,h⟩:=OB h
   let p10:Nat×AV:=(9,.v (.int .i64 (wr .i64 (c11 + v16))))
   refine AJ (s1:=⟨Fr 57 [p9,p8,p10,p7,p6,p5,p4,p3,p2,p1],[]⟩) ?_ ?_
   ·refine AE (n:=57) AC 3 [p9,p8,p7,p6,p5,p4,p3,p2,p1,(45,.v (.int .i64 c11)),(46,.sl 1 (v1.1.map (cdL 1 cdI).enc)),(47,.v (.int .i64 v14))] [] kr ?_
    refine Aa AC 0 rfl (C5 (AB rfl) rfl (AN (a:= .sl 1 (v1.1.map (cdL 1 cdI).enc)) (b:= .v (.int .i64 v14)) kr kr (Gi (e:=(cdL 1 cdI).enc) (el:=48) (k:=1) (ki:= .i64) kr kr hv15))) ?_;refine AE (n:=57) AC 2 [p9,p8,p7,p6,p5,p4,p3,p2,p1,(45,.v (.int .i64 c11)),(49,.sl 1 (v15.map cdI.enc)),(50,.v (.int .i64 v9))] [] kr ?_;refine Aa AC 0 rfl (C5 (AB rfl) rfl (AN (a:= .sl 1 (v15.map cdI.enc)) (b:= .v (.int .i64 v9)) kr kr (Gi (e:=cdI.enc) (el:=3) (k:=1) (ki:= .i64) kr kr hv16))) ?_;exact Ap AC
   let p11:Nat×AV:=(41,.v (.int .i64 (wr .i64 (c12 + 1))))
   refine Ep AC [p9,p8,p10,p7,p6,p5,p4,p3,p2,p11] [] ?_;exact CF (s1:=⟨Fr 57 [p9,p8,p10,p7,p6,p5,p4,p3,p2,p11],[]⟩) AQ (ih (wr .i64 (c11 + v16)) (wr .i64 (c12 + 1)) h)
  ·rw [Ce hb13] at h
   refine Ew ?_;have hq:=OI h; subst hq;exact ⟨rfl,AQ⟩
theorem Ij (x2:(List Int)) (v1:(List (List Int))×Bool):∀ (f:Nat) (c6:Int) (c7:Int) (r:(Int)),CG x2 v1 f c6 c7=some r->SemN E0 ⟨none,false⟩ (pc Dv [1,1,1,1,0,1,0,0]) f ⟨Fr 57 [(2,.sl 1 (x2.map cdI.enc)),(7,.sl 1 (v1.1.map (cdL 1 cdI).enc)),(9,.v (.int .i64 c6)),(29,.sl 1 (x2.map cdI.enc)),(30,.v (.int .i64 (x2.length:Int))),(31,.v (.int .i64 c7))],[]⟩ (fun e s=>e=(.exit 0)/\Wk E0 s ⟨Fr 57 [(9,.v (.int .i64 r))],[]⟩):=by
 intro f;induction f with
 | zero=>intro c6 c7 r h; cases h
 | succ f ih0 =>
  intro c6 c7 r h
  have ih:=fun (c6:Int) (c7:Int)=>ih0 c6 c7 r
  unfold CG at h;refine D5 ?_
  let p1:Nat×AV:=(31,.v (.int .i64 c7))
  let p2:Nat×AV:=(30,.v (.int .i64 (x2.length:Int)))
  let p3:Nat×AV:=(29,.sl 1 (x2.map cdI.enc))
  let p4:Nat×AV:=(9,.v (.int .i64 c6))
  let p5:Nat×AV:=(7,.sl 1 (v1.1.map (cdL 1 cdI).enc))
  let p6:Nat×AV:=(2,.sl 1 (x2.map cdI.enc))
  refine AL AC [p6,p5,p4,p3,p2,p1,(32,.v (.bool (decide (c7 < (x2.length:Int)))))] [] ?_;refine AG ?_;refine AT (b:=(decide (c7 < (x2.length:Int)))) kr (fun hb8=>?_) (fun hb8=>?_)
  ·rw [if_pos hb8] at h
   refine Ae ?_;refine AG ?_;refine Bb ?_;refine AG ?_;obtain ⟨v9,hv9,h⟩:=OB h
   let p7:Nat×AV:=(11,.v (.int .i64 v9))
   refine AJ (s1:=⟨Fr 57 [p6,p5,p4,(10,.v (.int .i64 c7)),p7,p3,p2,p1],[]⟩) ?_ ?_
   ·refine AE (n:=57) AC 1 [p6,p5,p4,p3,p2,p1,(33,.v (.int .i64 c7))] [] kr ?_
    refine Aa AC 0 rfl (C5 (AB rfl) rfl (AN (a:= .sl 1 (x2.map cdI.enc)) (b:= .v (.int .i64 c7)) kr kr (Gi (e:=cdI.enc) (el:=3) (k:=1) (ki:= .i64) kr kr hv9))) ?_;exact Ap AC
   refine AG ?_;by_cases hk10:(DG (wr .i64 (c7 + 1)) (x2.length:Int) x2.length)=true
   case neg=>rw [if_neg hk10] at h; cases h
   rw [if_pos hk10] at h
   let p8:Nat×AV:=(40,.v (.int .i64 (((x2.take (x2.length:Int).toNat).drop (wr .i64 (c7 + 1)).toNat).length:Int)))
   let p9:Nat×AV:=(39,.sl 1 (((x2.take (x2.length:Int).toNat).drop (wr .i64 (c7 + 1)).toNat).map cdI.enc))
   refine AJ (s1:=⟨Fr 57 [p6,p5,p4,p7,p3,p2,p1,p9,p8,(41,.v (.int .i64 0))],[]⟩) ?_ ?_
   ·refine AE (n:=57) AC 3 [p6,p5,p4,p7,p3,p2,p1,(36,.sl 1 (x2.map cdI.enc)),(38,.v (.int .i64 (wr .i64 (c7 + 1))))] [] kr ?_
    refine Aa AC 0 rfl (C5 (AB rfl) rfl (En (a:= .sl 1 (x2.map cdI.enc)) (l:=(some (.v (.int .i64 (wr .i64 (c7 + 1)))))) (u:=none) (m:=none) kr kr kr rfl (Jf (xs:=x2) (e:=cdI.enc) (k:=1) (el:=3) (lo:=(wr .i64 (c7 + 1))) (hi:=(x2.length:Int)) kr kr (GW (NV hk10)) rfl hk10))) ?_;refine Aa AC 0 rfl (C5 (AB rfl) rfl (Dd (a:= .sl 1 (((x2.take (x2.length:Int).toNat).drop (wr .i64 (c7 + 1)).toNat).map cdI.enc)) kr (C1 (el:=3) kr))) ?_;exact Ap AC
   refine Bb ?_;obtain ⟨r18,hr18,h⟩:=OB h;refine Ey (n:=100000) ?_;refine Cq (CF (s1:=⟨Fr 57 [p6,p5,p4,p7,p3,p2,p1,p9,p8,(41,.v (.int .i64 0))],[]⟩) AQ (Ik x2 v1 c7 v9 _ c6 0 _ hr18)) ?_
   let p10:Nat×AV:=(31,.v (.int .i64 (wr .i64 (c7 + 1))))
   refine Ep AC [p6,p5,(9,.v (.int .i64 r18)),p3,p2,p10] [] ?_;exact CF (s1:=⟨Fr 57 [p6,p5,(9,.v (.int .i64 r18)),p3,p2,p10],[]⟩) AQ (ih r18 (wr .i64 (c7 + 1)) h)
  ·rw [Ce hb8] at h
   refine Ew ?_;have hq:=OI h; subst hq;exact ⟨rfl,AQ⟩
theorem JQ (x0:(List (List AD))) (x1:(List Ah)) (x2:(List Int)) (r:Int) (h:Bu x0 x1 x2=some r):Sem E0 ⟨none,false⟩ Dv ⟨Fr 57 (BN 0 (Et.enc (x0,x1,x2,()))),[]⟩ fun e s'=>(e = .normal\/e = .ret)/\∃ xs,Eo E0.P s'.fr s'.hp Tryz.f46.results.toList=some xs/\Es xs=Eu r:=by
 unfold Bu at h;refine BJ (CB (s1:=⟨Fr 57 [(0,.sl 1 (x0.map (cdL 5 AA).enc)),(1,.sl 9 (x1.map AK.enc)),(2,.sl 1 (x2.map cdI.enc))],[]⟩) AQ ?_);refine AL AC [(0,.sl 1 (x0.map (cdL 5 AA).enc)),(1,.sl 9 (x1.map AK.enc)),(2,.sl 1 (x2.map cdI.enc))] [] ?_;refine AG ?_;obtain ⟨v1,hv1,h⟩:=OB h;refine AJ (s1:=⟨Fr 57 [(1,.sl 9 (x1.map AK.enc)),(2,.sl 1 (x2.map cdI.enc)),(7,.sl 1 (v1.1.map (cdL 1 cdI).enc)),(8,.v (.bool v1.2))],[]⟩) ?_ ?_
 ·refine AE (n:=57) AC 2 [(1,.sl 9 (x1.map AK.enc)),(2,.sl 1 (x2.map cdI.enc)),(15,.sl 1 (x0.map (cdL 5 AA).enc)),(16,.sl 9 (x1.map AK.enc))] [] kr ?_
  refine Av (caps:=[]) (xs:=[.sl 1 (x0.map (cdL 5 AA).enc),.sl 9 (x1.map AK.enc)]) (u:=(x0,x1,())) rfl rfl Jl rfl (AB rfl) kr kr (AW (Ax (c:=(cdL 1 (cdL 5 AA))) (v:=x0)) (AW (Ax (c:=(cdL 9 AK)) (v:=x1)) B6)) (.inr kr) hv1 ?_;exact Ap AC
 refine AG ?_;refine AG ?_;obtain ⟨j4,hj4,h⟩:=OB h;refine AJ (s1:=⟨Fr 57 [(2,.sl 1 (x2.map cdI.enc)),(7,.sl 1 (v1.1.map (cdL 1 cdI).enc)),(28,.v (.bool j4))],[]⟩) ?_ ?_
 ·refine AE (n:=57) AC 3 [(1,.sl 9 (x1.map AK.enc)),(2,.sl 1 (x2.map cdI.enc)),(7,.sl 1 (v1.1.map (cdL 1 cdI).enc)),(22,.v (.bool (!v1.2)))] [] kr ?_
  rcases BE (!v1.2) with hc21 | hc21
  ·rw [if_pos hc21] at hj4
   rw [hc21];refine AE (n:=57) AC 6 [(2,.sl 1 (x2.map cdI.enc)),(7,.sl 1 (v1.1.map (cdL 1 cdI).enc)),(28,.v (.bool true))] [] kr ?_;have hq:=OI hj4; subst hq;exact AI rfl AQ
  ·rw [Ce hc21] at hj4
   rw [hc21];refine AE (n:=57) AC 2 [(2,.sl 1 (x2.map cdI.enc)),(7,.sl 1 (v1.1.map (cdL 1 cdI).enc)),(22,.v (.bool false)),(23,.sl 1 (x2.map cdI.enc)),(24,.sl 9 (x1.map AK.enc))] [] kr ?_;refine Aa AC 0 rfl (C5 kr rfl (Dd (a:= .sl 9 (x1.map AK.enc)) kr (C1 (el:=42) kr))) ?_;obtain ⟨v2,hv2,hj4⟩:=OB hj4;refine Av (caps:=[]) (xs:=[.sl 1 (x2.map cdI.enc),.v (.int .i64 (x1.length:Int))]) (u:=(x2,(x1.length:Int),())) rfl rfl LQ rfl kr kr kr (AW (Ax (c:=(cdL 1 cdI)) (v:=x2)) (AW (Ax (c:=cdI) (v:=(x1.length:Int))) B6)) (.inl kr) hv2 ?_;refine AE (n:=57) AC 2 [(2,.sl 1 (x2.map cdI.enc)),(7,.sl 1 (v1.1.map (cdL 1 cdI).enc)),(28,.v (.bool (!v2)))] [] kr ?_;have hq:=OI hj4; subst hq;exact AI rfl AQ
 refine AT (b:=j4) kr (fun hb5=>?_) (fun hb5=>?_)
 ·rw [if_pos hb5] at h
  refine AL AC [(6,.v (.int .i64 0))] [] ?_;refine AX ?_;have hq:=OI h; subst hq;exact ⟨⟨Fr 57 [(6,.v (.int .i64 0))],[]⟩,AQ,.inr rfl,[.v (.int .i64 0)],kr,kr⟩
 ·rw [Ce hb5] at h
  refine Ae ?_;refine AL AC [(2,.sl 1 (x2.map cdI.enc)),(7,.sl 1 (v1.1.map (cdL 1 cdI).enc)),(9,.v (.int .i64 0))] [] ?_;refine AG ?_;refine AG ?_;refine AJ (s1:=⟨Fr 57 [(2,.sl 1 (x2.map cdI.enc)),(7,.sl 1 (v1.1.map (cdL 1 cdI).enc)),(9,.v (.int .i64 0)),(29,.sl 1 (x2.map cdI.enc)),(30,.v (.int .i64 (x2.length:Int))),(31,.v (.int .i64 0))],[]⟩) ?_ ?_
  ·refine AE (n:=57) AC 1 [(2,.sl 1 (x2.map cdI.enc)),(7,.sl 1 (v1.1.map (cdL 1 cdI).enc)),(9,.v (.int .i64 0)),(29,.sl 1 (x2.map cdI.enc))] [] kr ?_
   refine Aa AC 0 rfl (C5 (AB rfl) rfl (Dd (a:= .sl 1 (x2.map cdI.enc)) kr (C1 (el:=3) kr))) ?_;exact Ap AC
  refine Bb ?_;obtain ⟨r20,hr20,h⟩:=OB h;refine Ey (n:=100000) ?_;refine Cq (CF (s1:=⟨Fr 57 [(2,.sl 1 (x2.map cdI.enc)),(7,.sl 1 (v1.1.map (cdL 1 cdI).enc)),(9,.v (.int .i64 0)),(29,.sl 1 (x2.map cdI.enc)),(30,.v (.int .i64 (x2.length:Int))),(31,.v (.int .i64 0))],[]⟩) AQ (Ij x2 v1 _ 0 0 _ hr20)) ?_;refine AL AC [(6,.v (.int .i64 r20))] [] ?_;refine AX ?_;have hq:=OI h; subst hq;exact ⟨⟨Fr 57 [(6,.v (.int .i64 r20))],[]⟩,AQ,.inr rfl,[.v (.int .i64 r20)],kr,kr⟩
def KX:List AV->Option AV:=EF Et (fun a=>Bu a.1 a.2.1 a.2.2.1) Eu
theorem HB:XOk 46 KX:=by
 refine AR Tryz.func46 (c:=Dv) ?h2 ⟨Tryz.call46⟩ Et (fun a=>Bu a.1 a.2.1 a.2.2.1) Eu (fun a=>(by show 3<=57; decide)) ?h3 ?h4
 case h2=>kernel_rfl
 case h3=>intro b; kernel_rfl
 case h4=>exact fun a b h=>JQ a.1 a.2.1 a.2.2.1 b h
/- trestle/court.Conflicts$1 -/
noncomputable def Hn:Code:=Bh Tryz.f110
def DA (x0:Int) (x1:Int) (x2:(List (List Int))):Option (Bool) :=
 (if (decide (x0 < x1))=true then (idx x2 x0).bind fun v1 =>
 (idx v1 x1).bind fun v2 =>
 if (decide (v2 > 0))=true then (idx x2 x1).bind fun v3 =>
 (idx v3 x0).bind fun v4 =>
 some (decide (v4 > 0)) else some false else some false).bind fun j6 =>
 some j6
def FR:Cs (Int×Int×(List (List Int))×Unit):=(csC cdI (csC cdI (csC (cdP (cdL 1 (cdL 1 cdI))) csN)))
def FT (r:Bool):AV:=cdB.enc r
theorem KK (x0:Int) (x1:Int) (x2:(List (List Int))) (r:Bool) (h:DA x0 x1 x2=some r):Sem E0 ⟨none,false⟩ Hn ⟨Fr 29 (BN 0 (FR.enc (x0,x1,x2,()))),[]⟩ fun e s'=>(e = .normal\/e = .ret)/\∃ xs,Eo E0.P s'.fr s'.hp Tryz.f110.results.toList=some xs/\Es xs=FT r:=by
 unfold DA at h;refine BJ (CB (s1:=⟨Fr 29 [(0,.v (.int .i64 x0)),(1,.v (.int .i64 x1)),(2,.pe (.sl 1 (x2.map (cdL 1 cdI).enc)) 0)],[]⟩) AQ ?_);refine AL AC [(0,.v (.int .i64 x0)),(1,.v (.int .i64 x1)),(2,.pe (.sl 1 (x2.map (cdL 1 cdI).enc)) 0)] [] ?_;refine AG ?_;obtain ⟨j6,hj6,h⟩:=OB h;refine AJ (s1:=⟨Fr 29 [(5,.v (.bool j6))],[]⟩) ?_ ?_
 ·refine AE (n:=29) AC 4 [(0,.v (.int .i64 x0)),(1,.v (.int .i64 x1)),(2,.pe (.sl 1 (x2.map (cdL 1 cdI).enc)) 0),(9,.v (.bool (decide (x0 < x1))))] [] kr ?_
  rcases BE (decide (x0 < x1)) with hc7 | hc7
  ·rw [if_pos hc7] at hj6
   rw [hc7];refine AE (n:=29) AC 2 [(0,.v (.int .i64 x0)),(1,.v (.int .i64 x1)),(2,.pe (.sl 1 (x2.map (cdL 1 cdI).enc)) 0),(9,.v (.bool true)),(10,.sl 1 (x2.map (cdL 1 cdI).enc)),(11,.v (.int .i64 x0))] [] kr ?_;obtain ⟨v1,hv1,hj6⟩:=OB hj6;refine Aa AC 0 rfl (C5 kr rfl (AN (a:= .sl 1 (x2.map (cdL 1 cdI).enc)) (b:= .v (.int .i64 x0)) kr kr (Gi (e:=(cdL 1 cdI).enc) (el:=48) (k:=1) (ki:= .i64) kr kr hv1))) ?_;refine AE (n:=29) AC 2 [(0,.v (.int .i64 x0)),(1,.v (.int .i64 x1)),(2,.pe (.sl 1 (x2.map (cdL 1 cdI).enc)) 0),(9,.v (.bool true)),(13,.sl 1 (v1.map cdI.enc)),(14,.v (.int .i64 x1))] [] kr ?_;obtain ⟨v2,hv2,hj6⟩:=OB hj6;refine Aa AC 0 rfl (C5 kr rfl (AN (a:= .sl 1 (v1.map cdI.enc)) (b:= .v (.int .i64 x1)) kr kr (Gi (e:=cdI.enc) (el:=3) (k:=1) (ki:= .i64) kr kr hv2))) ?_;refine AE (n:=29) AC 4 [(0,.v (.int .i64 x0)),(1,.v (.int .i64 x1)),(2,.pe (.sl 1 (x2.map (cdL 1 cdI).enc)) 0),(19,.v (.bool (decide (v2 > 0))))] [] kr ?_;rcases BE (decide (v2 > 0)) with hc8 | hc8
   ·rw [if_pos hc8] at hj6
    rw [hc8];refine AE (n:=29) AC 2 [(0,.v (.int .i64 x0)),(19,.v (.bool true)),(20,.sl 1 (x2.map (cdL 1 cdI).enc)),(21,.v (.int .i64 x1))] [] kr ?_;obtain ⟨v3,hv3,hj6⟩:=OB hj6;refine Aa AC 0 rfl (C5 kr rfl (AN (a:= .sl 1 (x2.map (cdL 1 cdI).enc)) (b:= .v (.int .i64 x1)) kr kr (Gi (e:=(cdL 1 cdI).enc) (el:=48) (k:=1) (ki:= .i64) kr kr hv3))) ?_;refine AE (n:=29) AC 2 [(19,.v (.bool true)),(23,.sl 1 (v3.map cdI.enc)),(24,.v (.int .i64 x0))] [] kr ?_;obtain ⟨v4,hv4,hj6⟩:=OB hj6;refine Aa AC 0 rfl (C5 kr rfl (AN (a:= .sl 1 (v3.map cdI.enc)) (b:= .v (.int .i64 x0)) kr kr (Gi (e:=cdI.enc) (el:=3) (k:=1) (ki:= .i64) kr kr hv4))) ?_;refine AE (n:=29) AC 4 [(5,.v (.bool (decide (v4 > 0))))] [] kr ?_;have hq:=OI hj6; subst hq;exact AI rfl AQ
   ·rw [Ce hc8] at hj6
    rw [hc8];refine AE (n:=29) AC 10 [(5,.v (.bool false))] [] kr ?_;have hq:=OI hj6; subst hq;exact AI rfl AQ
  ·rw [Ce hc7] at hj6
   rw [hc7];refine AE (n:=29) AC 20 [(5,.v (.bool false))] [] kr ?_;have hq:=OI hj6; subst hq;exact AI rfl AQ
 refine AX ?_;have hq:=OI h; subst hq;exact ⟨⟨Fr 29 [(5,.v (.bool j6))],[]⟩,AQ,.inr rfl,[.v (.bool j6)],kr,kr⟩
def LM:List AV->Option AV:=EF FR (fun a=>DA a.1 a.2.1 a.2.2.1) FT
theorem LP:XOk 110 LM:=by
 refine AR Tryz.func110 (c:=Hn) ?h2 ⟨Tryz.call110⟩ FR (fun a=>DA a.1 a.2.1 a.2.2.1) FT (fun a=>(by show 3<=29; decide)) ?h3 ?h4
 case h2=>kernel_rfl
 case h3=>intro b; kernel_rfl
 case h4=>exact fun a b h=>KK a.1 a.2.1 a.2.2.1 b h
/- trestle/court.pairs -/
noncomputable def Be:Code:=Bh Tryz.f109
def CJ (c2:Int) (c6:Int) (c8:(List (Int×Int))) (v10:Bool):Option (((List (Int×Int)))) :=
 if v10=true then
 if (FP 16 (c8.length + ([(c2,c6)]:List (Int×Int)).length))=true then
 some (c8++([(c2,c6)]:List (Int×Int)))
 else none
 else
 some c8
def An (x0:Int) (x1:(List (List Int))) (c2:Int):Nat->Int->(List (Int×Int))->Option (((List (Int×Int))))
 | 0,_,_=>none
 | f + 1,c6,c8 =>
  if (decide (c6 < x0))=true then
  (DA c2 c6 x1).bind fun v10 =>
  (CJ c2 c6 c8 v10).bind fun r24 =>
  An x0 x1 c2 f (wr .i64 (c6 + 1)) r24
  else
  some c8
def Am (x0:Int) (x1:(List (List Int))):Nat->Int->(List (Int×Int))->Option (((List (Int×Int))))
 | 0,_,_=>none
 | f + 1,c2,c4 =>
  if (decide (c2 < x0))=true then
  (An x0 x1 c2 100000 0 c4).bind fun r30 =>
  Am x0 x1 f (wr .i64 (c2 + 1)) r30
  else
  some c4
def BH (x0:Int) (x1:(List (List Int))):Option ((List (Int×Int))) :=
 (Am x0 x1 100000 0 ([]:(List (Int×Int)))).bind fun r36 =>
 some r36
theorem FW {L:List Asn}{hp:Hp}(c2:Int) (c6:Int) (c8:(List (Int×Int))) (v10:Bool) (x0:Int) (x1:(List (List Int))) (e7:AV) (r:((List (Int×Int)))) (h:CJ c2 c6 c8 v10=some r) (hT:T hp ((own_ (ocL 2 90 (ocV (CL cdI cdI (fun _=>rfl) (fun _=>rfl)))) e7 c8)::L)):SemY E0 ⟨none,false⟩ (pc Be [1,1,0,1,0,0,1,1,0,0,1,1,0,0,1,1,0,0,1,1]) ⟨Fr 29 [(0,.v (.int .i64 x0)),(1,.fn 110 [] [.pe (.sl 1 (x1.map (cdL 1 cdI).enc)) 0]),(5,e7),(6,.v (.int .i64 c2)),(7,.v (.int .i64 c6)),(8,.v (.int .i64 x0)),(9,.v (.int .i64 c2)),(12,.v (.int .i64 x0)),(13,.v (.int .i64 c6)),(19,.v (.bool v10))],hp⟩ (fun e s=>e = .normal/\∃ s2,(∃ (e22:AV) (h':Hp),T h' ((own_ (ocL 2 90 (ocV (CL cdI cdI (fun _=>rfl) (fun _=>rfl)))) e22 r)::L)/\s2=⟨Fr 29 [(0,.v (.int .i64 x0)),(1,.fn 110 [] [.pe (.sl 1 (x1.map (cdL 1 cdI).enc)) 0]),(5,e22),(6,.v (.int .i64 c2)),(8,.v (.int .i64 x0)),(9,.v (.int .i64 c2)),(12,.v (.int .i64 x0)),(13,.v (.int .i64 c6))],h'⟩)/\WkY E0 s s2):=by
 unfold CJ at h;refine Bz (b:=v10) kr (fun hb11=>?_) (fun hb11=>?_)
 ·rw [if_pos hb11] at h
  refine AH ?_;refine AZ AC 4 ?_;obtain ⟨e15,hp12,hb13,hT14⟩:=Ie (P:=Tryz.prog) (bytes:=16) (k:=2) (t:=90) (ty:=84) (xs:=([(c2,c6)]:List (Int×Int))) (n:=1) (QH (k:=2) (fun _=>⟨rfl,rfl,rfl⟩)) (Ht (c:=(CL cdI cdI (fun _=>rfl) (fun _=>rfl))) (xs:=([(c2,c6)]:List (Int×Int))) hT) rfl kr kr kr;refine AS AC 0 rfl (QW (AB rfl) rfl kr (QU (xs:=Lf 0 [.ag [.v (.int .i64 c2),.v (.int .i64 c6)]]) kr hb13)) ?_;by_cases hk20:(FP 16 (c8.length + ([(c2,c6)]:List (Int×Int)).length))=true
  case neg=>rw [if_neg hk20] at h; cases h
  rw [if_pos hk20] at h
  have hT21:=((hT14.front 0 rfl).front 1 rfl)
  obtain ⟨e19,hp16,hb17,hT18⟩:=M6 (P:=Tryz.prog) (ty:=84) (ty2:=84) (bytes:=16) hT21 kr kr hk20;refine AS AC 0 rfl (UD (AB rfl) rfl kr kr (H0 (a:=e7) (b:=e15) kr kr hb17)) ?_;refine AZ AC 1 ?_;refine A3 rfl ?_;have hq:=OI h; subst hq;exact ⟨rfl,_,⟨e19,hp16,hT18,rfl⟩,WkY.f1⟩
 ·rw [Ce hb11] at h
  refine SemY.skip ?_;have hq:=OI h; subst hq;exact ⟨rfl,_,⟨e7,hp,hT,rfl⟩,WkY.f1⟩
theorem FY {L:List Asn}(x0:Int) (x1:(List (List Int))) (c2:Int):∀ (f:Nat) (c6:Int) (c8:(List (Int×Int))) (r:((List (Int×Int)))),An x0 x1 c2 f c6 c8=some r->∀ (e7:AV) (hp:Hp),T hp ((own_ (ocL 2 90 (ocV (CL cdI cdI (fun _=>rfl) (fun _=>rfl)))) e7 c8)::L)->SemYN E0 ⟨none,false⟩ (pc Be [1,1,0,1,0,0,1,1,0,0,1,1,0,0]) f ⟨Fr 29 [(0,.v (.int .i64 x0)),(1,.fn 110 [] [.pe (.sl 1 (x1.map (cdL 1 cdI).enc)) 0]),(5,e7),(6,.v (.int .i64 c2)),(8,.v (.int .i64 x0)),(9,.v (.int .i64 c2)),(12,.v (.int .i64 x0)),(13,.v (.int .i64 c6))],hp⟩ (fun e s=>e=(.exit 2)/\∃ s2,(∃ (e28:AV) (h':Hp),T h' ((own_ (ocL 2 90 (ocV (CL cdI cdI (fun _=>rfl) (fun _=>rfl)))) e28 r)::L)/\s2=⟨Fr 29 [(0,.v (.int .i64 x0)),(1,.fn 110 [] [.pe (.sl 1 (x1.map (cdL 1 cdI).enc)) 0]),(5,e28),(8,.v (.int .i64 x0)),(9,.v (.int .i64 c2))],h'⟩)/\WkY E0 s s2):=by
 intro f;induction f with
 | zero=>intro c6 c8 r h; cases h
 | succ f ih0 =>
  intro c6 c8 r h e7 hp hT;unfold An at h;refine Cm ?_
  let p1:Nat×AV:=(13,.v (.int .i64 c6))
  let p2:Nat×AV:=(12,.v (.int .i64 x0))
  let p3:Nat×AV:=(9,.v (.int .i64 c2))
  let p4:Nat×AV:=(8,.v (.int .i64 x0))
  let p5:Nat×AV:=(6,.v (.int .i64 c2))
  let p6:Nat×AV:=(1,.fn 110 [] [.pe (.sl 1 (x1.map (cdL 1 cdI).enc)) 0])
  let p7:Nat×AV:=(0,.v (.int .i64 x0))
  refine A7 AC [p7,p6,(5,e7),p5,p4,p3,p2,p1,(14,.v (.bool (decide (c6 < x0))))] ?_;refine AM ?_;refine Bz (b:=(decide (c6 < x0))) kr (fun hb9=>?_) (fun hb9=>?_)
  ·rw [if_pos hb9] at h
   refine SemY.skip ?_;refine AM ?_;refine A4 ?_;refine A7 AC [p7,p6,(5,e7),p5,(7,.v (.int .i64 c6)),p4,p3,p2,p1] ?_;refine AM ?_;refine AH ?_;refine AZ AC 3 ?_;obtain ⟨v10,hv10,h⟩:=OB h;refine C8 (v:=v10) (caps:=[.pe (.sl 1 (x1.map (cdL 1 cdI).enc)) 0]) (xs:=[.v (.int .i64 c2),.v (.int .i64 c6)]) (u:=(c2,c6,x1,())) rfl rfl LP rfl (AB rfl) kr kr (Aw (Bx (c:=cdI) (v:=c2)) (Aw (Bx (c:=cdI) (v:=c6)) (Aw (Bx (c:=(cdP (cdL 1 (cdL 1 cdI)))) (v:=x1)) SeesD.nil))) (.inl kr) hv10 ?_;refine A3 rfl (SemY.fr (l':=[p7,p6,(5,e7),p5,(7,.v (.int .i64 c6)),p4,p3,p2,p1,(19,.v (.bool v10))]) kr ?_);obtain ⟨r24,hr24,h⟩:=OB h;refine H5 (FW c2 c6 c8 v10 x0 x1 e7 _ hr24 hT) ?_;rintro _ ⟨e25,hp26,hT27,rfl⟩;refine AH ?_;refine AZ AC 2 ?_;refine A3 rfl ?_;exact Bd WkY.f1 (ih0 (wr .i64 (c6 + 1)) r24 _ h e25 hp26 hT27)
  ·rw [Ce hb9] at h
   refine SemY.exit ?_;have hq:=OI h; subst hq;exact ⟨rfl,_,⟨e7,hp,hT,rfl⟩,WkY.f1⟩
theorem FX {L:List Asn}(x0:Int) (x1:(List (List Int))):∀ (f:Nat) (c2:Int) (c4:(List (Int×Int))) (r:((List (Int×Int)))),Am x0 x1 f c2 c4=some r->∀ (e3:AV) (hp:Hp),T hp ((own_ (ocL 2 90 (ocV (CL cdI cdI (fun _=>rfl) (fun _=>rfl)))) e3 c4)::L)->SemYN E0 ⟨none,false⟩ (pc Be [1,1,0,1,0,0]) f ⟨Fr 29 [(0,.v (.int .i64 x0)),(1,.fn 110 [] [.pe (.sl 1 (x1.map (cdL 1 cdI).enc)) 0]),(5,e3),(8,.v (.int .i64 x0)),(9,.v (.int .i64 c2))],hp⟩ (fun e s=>e=(.exit 0)/\∃ s2,(∃ (e34:AV) (h':Hp),T h' ((own_ (ocL 2 90 (ocV (CL cdI cdI (fun _=>rfl) (fun _=>rfl)))) e34 r)::L)/\s2=⟨Fr 29 [(5,e34)],h'⟩)/\WkY E0 s s2):=by
 intro f;induction f with
 | zero=>intro c2 c4 r h; cases h
 | succ f ih0 =>
  intro c2 c4 r h e3 hp hT;unfold Am at h;refine Cm ?_
  let p1:Nat×AV:=(9,.v (.int .i64 c2))
  let p2:Nat×AV:=(8,.v (.int .i64 x0))
  let p3:Nat×AV:=(1,.fn 110 [] [.pe (.sl 1 (x1.map (cdL 1 cdI).enc)) 0])
  let p4:Nat×AV:=(0,.v (.int .i64 x0))
  refine A7 AC [p4,p3,(5,e3),p2,p1,(10,.v (.bool (decide (c2 < x0))))] ?_;refine AM ?_;refine Bz (b:=(decide (c2 < x0))) kr (fun hb5=>?_) (fun hb5=>?_)
  ·rw [if_pos hb5] at h
   refine SemY.skip ?_;refine AM ?_;refine A4 ?_;refine A7 AC [p4,p3,(5,e3),(6,.v (.int .i64 c2)),p2,p1] ?_;refine A7 AC [p4,p3,(5,e3),(6,.v (.int .i64 c2)),p2,p1,(12,.v (.int .i64 x0)),(13,.v (.int .i64 0))] ?_;refine A4 ?_;refine SemY.loop (n:=100000) ?_;obtain ⟨r30,hr30,h⟩:=OB h;refine Cc (Bd WkY.f1 (FY x0 x1 c2 _ 0 c4 _ hr30 e3 hp hT)) ?_;rintro _ ⟨e31,hp32,hT33,rfl⟩;refine AH ?_;refine AZ AC 2 ?_;refine A3 rfl ?_;exact Bd WkY.f1 (ih0 (wr .i64 (c2 + 1)) r30 _ h e31 hp32 hT33)
  ·rw [Ce hb5] at h
   refine SemY.exit ?_;have hq:=OI h; subst hq;exact ⟨rfl,_,⟨e3,hp,hT,rfl⟩,WkY.f1⟩
theorem Fz {L:List Asn}{hp:Hp}(x0:Int) (x1:(List (List Int))) (r:(List (Int×Int))) (h:BH x0 x1=some r) (hT:T hp (L)):SemY E0 ⟨none,false⟩ Be ⟨Fr 29 (BN 0 [.v (.int .i64 x0),.fn 110 [] [.pe (.sl 1 (x1.map (cdL 1 cdI).enc)) 0]]),hp⟩ fun x s'=>(x = .normal\/x = .ret)/\∃ ys,Eo E0.P s'.fr s'.hp Tryz.f109.results.toList=some ys/\(fun v h'=>v = .sl 2 (r.map (CL cdI cdI (fun _=>rfl) (fun _=>rfl)).enc)/\T h' (L)) (Es ys) s'.hp:=by
 unfold BH at h
 let p1:Nat×AV:=(1,.fn 110 [] [.pe (.sl 1 (x1.map (cdL 1 cdI).enc)) 0])
 let p2:Nat×AV:=(0,.v (.int .i64 x0))
 refine IP (JN (s1:=⟨Fr 29 [p2,p1],hp⟩) WkY.f1 ?_);refine A7 AC [p2,p1] ?_;refine A7 AC [p2,p1,(5,.e0)] ?_;refine AM ?_;refine A7 AC [p2,p1,(5,.e0),(8,.v (.int .i64 x0)),(9,.v (.int .i64 0))] ?_;refine A4 ?_
 have hT1:=(T.e0 (k:=2) (ty:=90) (o:=(ocV (CL cdI cdI (fun _=>rfl) (fun _=>rfl)))) hT)
 refine SemY.loop (n:=100000) ?_;obtain ⟨r36,hr36,h⟩:=OB h;refine Cc (Bd WkY.f1 (FX x0 x1 _ 0 ([]:(List (Int×Int))) _ hr36 .e0 hp hT1)) ?_;rintro _ ⟨e37,hp38,hT39,rfl⟩;refine A7 AC [(4,e37)] ?_;refine SemY.ret ?_;have hq:=OI h; subst hq
 let p3:Nat×AV:=(4,.sl 2 (r36.map (CL cdI cdI (fun _=>rfl) (fun _=>rfl)).enc))
 obtain ⟨hp40,hw41,hT42⟩:=Ed (E:=E0) (n:=29) (l:=[(4,e37)]) (l':=[p3]) hT39 ⟨⟨e37,kr,Dt⟩,trivial⟩;exact ⟨⟨Fr 29 [p3],hp40⟩,(WkY.trans (WkY.trans WkY.f1 hw41) WkY.f1),.inr rfl,[.sl 2 (r36.map (CL cdI cdI (fun _=>rfl) (fun _=>rfl)).enc)],kr,⟨rfl,hT42⟩⟩
def Cy:Cs (Int×(List (List Int))×Unit):=(csC cdI (csC (cdF 110 (csE (cdP (cdL 1 (cdL 1 cdI)))) (fun _=>rfl)) csN))
def EB (r:(List (Int×Int))):AV:=(cdL 2 (CL cdI cdI (fun _=>rfl) (fun _=>rfl))).enc r
def Gj:List AV->Option AV:=EF Cy (fun a=>BH a.1 a.2.1) EB
theorem Gk:XOk 109 Gj:=by
 refine AR Tryz.func109 (c:=Be) ?h2 ⟨Tryz.call109⟩ Cy (fun a=>BH a.1 a.2.1) EB (fun a=>(by show 2<=29; decide)) ?h3 ?h4
 case h2=>kernel_rfl
 case h3=>intro b; kernel_rfl
 case h4 =>
  intro a b h;refine Sem.mono (Lr (Fz (L:=[]) (hp:=[]) a.1 a.2.1 b h T.nil)) fun e s' hs=>?_
  obtain ⟨h1,ys,h2,h3,-⟩:=hs;exact ⟨h1,ys,h2,h3⟩
/- trestle/court.Conflicts -/
noncomputable def IS:Code:=Bh Tryz.f47
def Cu (x0:(List (List AD))) (x1:(List Ah)):Option ((List (Int×Int))) :=
 (Em x0 x1).bind fun v1 =>
 if (!v1.2)=true then
 some ([]:(List (Int×Int)))
 else
 (BH (x1.length:Int) v1.1).bind fun v17 =>
 some v17
theorem LD {L:List Asn}{hp:Hp}(x0:(List (List AD))) (x1:(List Ah)) (r:(List (Int×Int))) (h:Cu x0 x1=some r) (hT:T hp (L)):SemY E0 ⟨none,false⟩ IS ⟨Fr 19 (BN 0 [.sl 1 (x0.map (cdL 5 AA).enc),.sl 9 (x1.map AK.enc)]),hp⟩ fun x s'=>(x = .normal\/x = .ret)/\∃ ys,Eo E0.P s'.fr s'.hp Tryz.f47.results.toList=some ys/\(fun v h'=>v = .sl 2 (r.map (CL cdI cdI (fun _=>rfl) (fun _=>rfl)).enc)/\T h' (L)) (Es ys) s'.hp:=by
 unfold Cu at h
 let p1:Nat×AV:=(1,.sl 9 (x1.map AK.enc))
 let p2:Nat×AV:=(0,.sl 1 (x0.map (cdL 5 AA).enc))
 refine IP (JN (s1:=⟨Fr 19 [p2,p1],hp⟩) WkY.f1 ?_);refine A7 AC [p2,p1] ?_;refine AM ?_;refine AH ?_;refine AZ AC 2 ?_;obtain ⟨v1,hv1,h⟩:=OB h;refine C8 (v:=v1) (caps:=[]) (xs:=[.sl 1 (x0.map (cdL 5 AA).enc),.sl 9 (x1.map AK.enc)]) (u:=(x0,x1,())) rfl rfl Jl rfl (AB rfl) kr kr (Aw (Bx (c:=(cdL 1 (cdL 5 AA))) (v:=x0)) (Aw (Bx (c:=(cdL 9 AK)) (v:=x1)) SeesD.nil)) (.inr ⟨by kernel_rfl,Gv.de (x0,x1,())⟩) hv1 ?_;refine AZ AC 3 ?_;obtain ⟨e2,hp3,hb4,hT5⟩:=NN (t:=46) (a:= .e0) hT kr;refine AS AC 0 rfl (QW (AB rfl) rfl kr (PT (z:= .e0) kr hb4)) ?_;obtain ⟨hp6,hs7,hT8⟩:=Pk (P:=Tryz.prog) (ty:=46) (y:= .sl 1 (v1.1.map (cdL 1 cdI).enc)) (a':= .sl 1 (v1.1.map (cdL 1 cdI).enc)) hT5 kr kr kr;refine RunL.store AC (y:=e2) (z:= .sl 1 (v1.1.map (cdL 1 cdI).enc)) rfl (AB rfl) kr kr hs7 ?_;refine CA AC [p1,(5,e2),(6,.v (.bool v1.2))] ?_;refine AM ?_;refine A7 AC [p1,(5,e2),(14,.v (.bool (!v1.2)))] ?_;refine Bz (b:=(!v1.2)) kr (fun hb9=>?_) (fun hb9=>?_)
 ·rw [if_pos hb9] at h
  refine A7 AC [(4,.e0)] ?_;refine SemY.ret ?_;have hq:=OI h; subst hq
  have hT10:=(T.e0 (k:=2) (ty:=90) (o:=(ocV (CL cdI cdI (fun _=>rfl) (fun _=>rfl)))) hT8)
  let p3:Nat×AV:=(4,.sl 2 (([]:(List (Int×Int))).map (CL cdI cdI (fun _=>rfl) (fun _=>rfl)).enc))
  obtain ⟨hp11,hw12,hT13⟩:=Ed (E:=E0) (n:=19) (l:=[(4,.e0)]) (l':=[p3]) hT10 ⟨⟨.e0,kr,Dt⟩,trivial⟩;exact ⟨⟨Fr 19 [p3],hp11⟩,(WkY.trans (WkY.trans WkY.f1 hw12) WkY.f1),.inr rfl,[.sl 2 (([]:(List (Int×Int))).map (CL cdI cdI (fun _=>rfl) (fun _=>rfl)).enc)],kr,⟨rfl,hT13.drop⟩⟩
 ·rw [Ce hb9] at h
  refine SemY.skip ?_;refine AM ?_;refine AH ?_;refine AZ AC 1 ?_;refine AS AC 0 rfl (C5 (AB rfl) rfl (Dd (a:= .sl 9 (x1.map AK.enc)) kr (C1 (el:=42) kr))) ?_;refine AZ AC 1 ?_
  let p4:Nat×AV:=(16,.v (.int .i64 (x1.length:Int)))
  obtain ⟨hp14,hw15,hT16⟩:=Ed (E:=E0) (n:=19) (l:=[p4,(17,.fn 110 [] [e2])]) (l':=[p4,(17,.fn 110 [] [.pe (.sl 1 (v1.1.map (cdL 1 cdI).enc)) 0])]) (Qz (c:=(cdL 1 (cdL 1 cdI))) (x:=v1.1) hT8) ⟨⟨.v (.int .i64 (x1.length:Int)),kr,FzU.refl⟩,⟨.fn 110 [] [e2],kr,FzU.fn ⟨Dt,trivial⟩⟩,trivial⟩;refine Ig (WkY.trans WkY.f1 hw15) ?_;obtain ⟨v17,hv17,h⟩:=OB h;refine C8 (v:=v17) (caps:=[]) (xs:=[.v (.int .i64 (x1.length:Int)),.fn 110 [] [.pe (.sl 1 (v1.1.map (cdL 1 cdI).enc)) 0]]) (u:=((x1.length:Int),v1.1,())) rfl rfl Gk rfl (AB rfl) kr kr (Aw (Bx (c:=cdI) (v:=(x1.length:Int))) (Aw (Bx (c:=(cdF 110 (csE (cdP (cdL 1 (cdL 1 cdI)))) (fun _=>rfl))) (v:=v1.1)) SeesD.nil)) (.inr ⟨by kernel_rfl,Cy.de ((x1.length:Int),v1.1,())⟩) hv17 ?_
  let p5:Nat×AV:=(4,.sl 2 (v17.map (CL cdI cdI (fun _=>rfl) (fun _=>rfl)).enc))
  refine CA AC [p5] ?_;refine SemY.ret ?_;have hq:=OI h; subst hq;exact ⟨⟨Fr 19 [p5],hp14⟩,WkY.f1,.inr rfl,[.sl 2 (v17.map (CL cdI cdI (fun _=>rfl) (fun _=>rfl)).enc)],kr,⟨rfl,hT16⟩⟩
def GJ:Cs ((List (List AD))×(List Ah)×Unit):=(csC (cdL 1 (cdL 5 AA)) (csC (cdL 9 AK) csN))
def Ib (r:(List (Int×Int))):AV:=(cdL 2 (CL cdI cdI (fun _=>rfl) (fun _=>rfl))).enc r
def MY:List AV->Option AV:=EF GJ (fun a=>Cu a.1 a.2.1) Ib
theorem Me:XOk 47 MY:=by
 refine AR Tryz.func47 (c:=IS) ?h2 ⟨Tryz.call47⟩ GJ (fun a=>Cu a.1 a.2.1) Ib (fun a=>(by show 2<=19; decide)) ?h3 ?h4
 case h2=>kernel_rfl
 case h3=>intro b; kernel_rfl
 case h4 =>
  intro a b h;refine Sem.mono (Lr (LD (L:=[]) (hp:=[]) a.1 a.2.1 b h T.nil)) fun e s' hs=>?_
  obtain ⟨h1,ys,h2,h3,-⟩:=hs;exact ⟨h1,ys,h2,h3⟩
/- trestle/court.Agree$1 -/
noncomputable def Jn:Code:=Bh Tryz.f111
def Eh (x0:Int) (x1:Int) (x2:(List (List Int))) (x3:(List (List AD))):Option (Bool) :=
 (idx x2 x0).bind fun v1 =>
 (idx v1 x1).bind fun v2 =>
 some (v2==(x3.length:Int))
def HJ:Cs (Int×Int×(List (List Int))×(List (List AD))×Unit):=(csC cdI (csC cdI (csC (cdP (cdL 1 (cdL 1 cdI))) (csC (cdP (cdL 1 (cdL 5 AA))) csN))))
def HY (r:Bool):AV:=cdB.enc r
theorem Lu (x0:Int) (x1:Int) (x2:(List (List Int))) (x3:(List (List AD))) (r:Bool) (h:Eh x0 x1 x2 x3=some r):Sem E0 ⟨none,false⟩ Jn ⟨Fr 17 (BN 0 (HJ.enc (x0,x1,x2,x3,()))),[]⟩ fun e s'=>(e = .normal\/e = .ret)/\∃ xs,Eo E0.P s'.fr s'.hp Tryz.f111.results.toList=some xs/\Es xs=HY r:=by
 unfold Eh at h
 let p1:Nat×AV:=(3,.pe (.sl 1 (x3.map (cdL 5 AA).enc)) 0)
 let p2:Nat×AV:=(2,.pe (.sl 1 (x2.map (cdL 1 cdI).enc)) 0)
 let p3:Nat×AV:=(1,.v (.int .i64 x1))
 refine BJ (CB (s1:=⟨Fr 17 [(0,.v (.int .i64 x0)),p3,p2,p1],[]⟩) AQ ?_);refine AL AC [(0,.v (.int .i64 x0)),p3,p2,p1] [] ?_;refine AG ?_;obtain ⟨v1,hv1,h⟩:=OB h;obtain ⟨v2,hv2,h⟩:=OB h
 let p4:Nat×AV:=(6,.v (.bool (v2==(x3.length:Int))))
 refine FV AC (s1:=⟨Fr 17 [p4],[]⟩) kr ?_ ?_
 ·refine BV (n:=17) AC 2 [p3,p1,(7,.sl 1 (x2.map (cdL 1 cdI).enc)),(8,.v (.int .i64 x0))] [] kr kr ?_
  refine RunDS.one AC rfl kr (Uo kr (AB rfl) rfl (AN (a:= .sl 1 (x2.map (cdL 1 cdI).enc)) (b:= .v (.int .i64 x0)) kr kr (Gi (e:=(cdL 1 cdI).enc) (el:=48) (k:=1) (ki:= .i64) kr kr hv1)) kr) ?_;refine BV (n:=17) AC 2 [p1,(10,.sl 1 (v1.map cdI.enc)),(11,.v (.int .i64 x1))] [] kr kr ?_;refine RunDS.one AC rfl kr (Uo kr (AB rfl) rfl (AN (a:= .sl 1 (v1.map cdI.enc)) (b:= .v (.int .i64 x1)) kr kr (Gi (e:=cdI.enc) (el:=3) (k:=1) (ki:= .i64) kr kr hv2)) kr) ?_;refine BV (n:=17) AC 2 [(13,.v (.int .i64 v2)),(14,.sl 1 (x3.map (cdL 5 AA).enc))] [] kr kr ?_;refine RunDS.one AC rfl kr (Uo kr (AB rfl) rfl (Dd (a:= .sl 1 (x3.map (cdL 5 AA).enc)) kr (C1 (el:=22) kr)) kr) ?_;refine BV (n:=17) AC 2 [p4] [] kr kr ?_;exact RunDS.done rfl AQ
 refine AX ?_;have hq:=OI h; subst hq;exact ⟨⟨Fr 17 [p4],[]⟩,AQ,.inr rfl,[.v (.bool (v2==(x3.length:Int)))],kr,kr⟩
def N1:List AV->Option AV:=EF HJ (fun a=>Eh a.1 a.2.1 a.2.2.1 a.2.2.2.1) HY
theorem OK:XOk 111 N1:=by
 refine AR Tryz.func111 (c:=Jn) ?h2 ⟨Tryz.call111⟩ HJ (fun a=>Eh a.1 a.2.1 a.2.2.1 a.2.2.2.1) HY (fun a=>(by show 4<=17; decide)) ?h3 ?h4
 case h2=>kernel_rfl
 case h3=>intro b; kernel_rfl
 case h4=>exact fun a b h=>Lu a.1 a.2.1 a.2.2.1 a.2.2.2.1 b h
/- trestle/court.pairs -/
noncomputable def CC:Code:=Bh Tryz.f109
def Ci (c2:Int) (c6:Int) (c8:(List (Int×Int))) (v10:Bool):Option (((List (Int×Int)))) :=
 if v10=true then
 if (FP 16 (c8.length + ([(c2,c6)]:List (Int×Int)).length))=true then
 some (c8++([(c2,c6)]:List (Int×Int)))
 else none
 else
 some c8
def A1 (x0:Int) (x1:(List (List Int))×(List (List AD))) (c2:Int):Nat->Int->(List (Int×Int))->Option (((List (Int×Int))))
 | 0,_,_=>none
 | f + 1,c6,c8 =>
  if (decide (c6 < x0))=true then
  (Eh c2 c6 x1.1 x1.2).bind fun v10 =>
  (Ci c2 c6 c8 v10).bind fun r24 =>
  A1 x0 x1 c2 f (wr .i64 (c6 + 1)) r24
  else
  some c8
def A0 (x0:Int) (x1:(List (List Int))×(List (List AD))):Nat->Int->(List (Int×Int))->Option (((List (Int×Int))))
 | 0,_,_=>none
 | f + 1,c2,c4 =>
  if (decide (c2 < x0))=true then
  (A1 x0 x1 c2 100000 0 c4).bind fun r30 =>
  A0 x0 x1 f (wr .i64 (c2 + 1)) r30
  else
  some c4
def Bc (x0:Int) (x1:(List (List Int))×(List (List AD))):Option ((List (Int×Int))) :=
 (A0 x0 x1 100000 0 ([]:(List (Int×Int)))).bind fun r36 =>
 some r36
theorem Gf {L:List Asn}{hp:Hp}(c2:Int) (c6:Int) (c8:(List (Int×Int))) (v10:Bool) (x0:Int) (x1:(List (List Int))×(List (List AD))) (e7:AV) (r:((List (Int×Int)))) (h:Ci c2 c6 c8 v10=some r) (hT:T hp ((own_ (ocL 2 90 (ocV (CL cdI cdI (fun _=>rfl) (fun _=>rfl)))) e7 c8)::L)):SemY E0 ⟨none,false⟩ (pc CC [1,1,0,1,0,0,1,1,0,0,1,1,0,0,1,1,0,0,1,1]) ⟨Fr 29 [(0,.v (.int .i64 x0)),(1,.fn 111 [] [.pe (.sl 1 (x1.1.map (cdL 1 cdI).enc)) 0,.pe (.sl 1 (x1.2.map (cdL 5 AA).enc)) 0]),(5,e7),(6,.v (.int .i64 c2)),(7,.v (.int .i64 c6)),(8,.v (.int .i64 x0)),(9,.v (.int .i64 c2)),(12,.v (.int .i64 x0)),(13,.v (.int .i64 c6)),(19,.v (.bool v10))],hp⟩ (fun e s=>e = .normal/\∃ s2,(∃ (e22:AV) (h':Hp),T h' ((own_ (ocL 2 90 (ocV (CL cdI cdI (fun _=>rfl) (fun _=>rfl)))) e22 r)::L)/\s2=⟨Fr 29 [(0,.v (.int .i64 x0)),(1,.fn 111 [] [.pe (.sl 1 (x1.1.map (cdL 1 cdI).enc)) 0,.pe (.sl 1 (x1.2.map (cdL 5 AA).enc)) 0]),(5,e22),(6,.v (.int .i64 c2)),(8,.v (.int .i64 x0)),(9,.v (.int .i64 c2)),(12,.v (.int .i64 x0)),(13,.v (.int .i64 c6))],h'⟩)/\WkY E0 s s2):=by
 unfold Ci at h;refine Bz (b:=v10) kr (fun hb11=>?_) (fun hb11=>?_)
 ·rw [if_pos hb11] at h
  refine AH ?_;refine AZ AC 4 ?_;obtain ⟨e15,hp12,hb13,hT14⟩:=Ie (P:=Tryz.prog) (bytes:=16) (k:=2) (t:=90) (ty:=84) (xs:=([(c2,c6)]:List (Int×Int))) (n:=1) (QH (k:=2) (fun _=>⟨rfl,rfl,rfl⟩)) (Ht (c:=(CL cdI cdI (fun _=>rfl) (fun _=>rfl))) (xs:=([(c2,c6)]:List (Int×Int))) hT) rfl kr kr kr;refine AS AC 0 rfl (QW (AB rfl) rfl kr (QU (xs:=Lf 0 [.ag [.v (.int .i64 c2),.v (.int .i64 c6)]]) kr hb13)) ?_;by_cases hk20:(FP 16 (c8.length + ([(c2,c6)]:List (Int×Int)).length))=true
  case neg=>rw [if_neg hk20] at h; cases h
  rw [if_pos hk20] at h
  have hT21:=((hT14.front 0 rfl).front 1 rfl)
  obtain ⟨e19,hp16,hb17,hT18⟩:=M6 (P:=Tryz.prog) (ty:=84) (ty2:=84) (bytes:=16) hT21 kr kr hk20;refine AS AC 0 rfl (UD (AB rfl) rfl kr kr (H0 (a:=e7) (b:=e15) kr kr hb17)) ?_;refine AZ AC 1 ?_;refine A3 rfl ?_;have hq:=OI h; subst hq;exact ⟨rfl,_,⟨e19,hp16,hT18,rfl⟩,WkY.f1⟩
 ·rw [Ce hb11] at h
  refine SemY.skip ?_;have hq:=OI h; subst hq;exact ⟨rfl,_,⟨e7,hp,hT,rfl⟩,WkY.f1⟩
theorem Gh {L:List Asn}(x0:Int) (x1:(List (List Int))×(List (List AD))) (c2:Int):∀ (f:Nat) (c6:Int) (c8:(List (Int×Int))) (r:((List (Int×Int)))),A1 x0 x1 c2 f c6 c8=some r->∀ (e7:AV) (hp:Hp),T hp ((own_ (ocL 2 90 (ocV (CL cdI cdI (fun _=>rfl) (fun _=>rfl)))) e7 c8)::L)->SemYN E0 ⟨none,false⟩ (pc CC [1,1,0,1,0,0,1,1,0,0,1,1,0,0]) f ⟨Fr 29 [(0,.v (.int .i64 x0)),(1,.fn 111 [] [.pe (.sl 1 (x1.1.map (cdL 1 cdI).enc)) 0,.pe (.sl 1 (x1.2.map (cdL 5 AA).enc)) 0]),(5,e7),(6,.v (.int .i64 c2)),(8,.v (.int .i64 x0)),(9,.v (.int .i64 c2)),(12,.v (.int .i64 x0)),(13,.v (.int .i64 c6))],hp⟩ (fun e s=>e=(.exit 2)/\∃ s2,(∃ (e28:AV) (h':Hp),T h' ((own_ (ocL 2 90 (ocV (CL cdI cdI (fun _=>rfl) (fun _=>rfl)))) e28 r)::L)/\s2=⟨Fr 29 [(0,.v (.int .i64 x0)),(1,.fn 111 [] [.pe (.sl 1 (x1.1.map (cdL 1 cdI).enc)) 0,.pe (.sl 1 (x1.2.map (cdL 5 AA).enc)) 0]),(5,e28),(8,.v (.int .i64 x0)),(9,.v (.int .i64 c2))],h'⟩)/\WkY E0 s s2):=by
 intro f;induction f with
 | zero=>intro c6 c8 r h; cases h
 | succ f ih0 =>
  intro c6 c8 r h e7 hp hT;unfold A1 at h;refine Cm ?_
  let p1:Nat×AV:=(13,.v (.int .i64 c6))
  let p2:Nat×AV:=(12,.v (.int .i64 x0))
  let p3:Nat×AV:=(9,.v (.int .i64 c2))
  let p4:Nat×AV:=(8,.v (.int .i64 x0))
  let p5:Nat×AV:=(6,.v (.int .i64 c2))
  let p6:Nat×AV:=(1,.fn 111 [] [.pe (.sl 1 (x1.1.map (cdL 1 cdI).enc)) 0,.pe (.sl 1 (x1.2.map (cdL 5 AA).enc)) 0])
  let p7:Nat×AV:=(0,.v (.int .i64 x0))
  refine A7 AC [p7,p6,(5,e7),p5,p4,p3,p2,p1,(14,.v (.bool (decide (c6 < x0))))] ?_;refine AM ?_;refine Bz (b:=(decide (c6 < x0))) kr (fun hb9=>?_) (fun hb9=>?_)
  ·rw [if_pos hb9] at h
   refine SemY.skip ?_;refine AM ?_;refine A4 ?_;refine A7 AC [p7,p6,(5,e7),p5,(7,.v (.int .i64 c6)),p4,p3,p2,p1] ?_;refine AM ?_;refine AH ?_;refine AZ AC 3 ?_;obtain ⟨v10,hv10,h⟩:=OB h;refine C8 (v:=v10) (caps:=[.pe (.sl 1 (x1.1.map (cdL 1 cdI).enc)) 0,.pe (.sl 1 (x1.2.map (cdL 5 AA).enc)) 0]) (xs:=[.v (.int .i64 c2),.v (.int .i64 c6)]) (u:=(c2,c6,x1.1,x1.2,())) rfl rfl OK rfl (AB rfl) kr kr (Aw (Bx (c:=cdI) (v:=c2)) (Aw (Bx (c:=cdI) (v:=c6)) (Aw (Bx (c:=(cdP (cdL 1 (cdL 1 cdI)))) (v:=x1.1)) (Aw (Bx (c:=(cdP (cdL 1 (cdL 5 AA)))) (v:=x1.2)) SeesD.nil)))) (.inl kr) hv10 ?_;refine A3 rfl (SemY.fr (l':=[p7,p6,(5,e7),p5,(7,.v (.int .i64 c6)),p4,p3,p2,p1,(19,.v (.bool v10))]) kr ?_);obtain ⟨r24,hr24,h⟩:=OB h;refine H5 (Gf c2 c6 c8 v10 x0 x1 e7 _ hr24 hT) ?_;rintro _ ⟨e25,hp26,hT27,rfl⟩;refine AH ?_;refine AZ AC 2 ?_;refine A3 rfl ?_;exact Bd WkY.f1 (ih0 (wr .i64 (c6 + 1)) r24 _ h e25 hp26 hT27)
  ·rw [Ce hb9] at h
   refine SemY.exit ?_;have hq:=OI h; subst hq;exact ⟨rfl,_,⟨e7,hp,hT,rfl⟩,WkY.f1⟩
theorem Gg {L:List Asn}(x0:Int) (x1:(List (List Int))×(List (List AD))):∀ (f:Nat) (c2:Int) (c4:(List (Int×Int))) (r:((List (Int×Int)))),A0 x0 x1 f c2 c4=some r->∀ (e3:AV) (hp:Hp),T hp ((own_ (ocL 2 90 (ocV (CL cdI cdI (fun _=>rfl) (fun _=>rfl)))) e3 c4)::L)->SemYN E0 ⟨none,false⟩ (pc CC [1,1,0,1,0,0]) f ⟨Fr 29 [(0,.v (.int .i64 x0)),(1,.fn 111 [] [.pe (.sl 1 (x1.1.map (cdL 1 cdI).enc)) 0,.pe (.sl 1 (x1.2.map (cdL 5 AA).enc)) 0]),(5,e3),(8,.v (.int .i64 x0)),(9,.v (.int .i64 c2))],hp⟩ (fun e s=>e=(.exit 0)/\∃ s2,(∃ (e34:AV) (h':Hp),T h' ((own_ (ocL 2 90 (ocV (CL cdI cdI (fun _=>rfl) (fun _=>rfl)))) e34 r)::L)/\s2=⟨Fr 29 [(5,e34)],h'⟩)/\WkY E0 s s2):=by
 intro f;induction f with
 | zero=>intro c2 c4 r h; cases h
 | succ f ih0 =>
  intro c2 c4 r h e3 hp hT;unfold A0 at h;refine Cm ?_
  let p1:Nat×AV:=(9,.v (.int .i64 c2))
  let p2:Nat×AV:=(8,.v (.int .i64 x0))
  let p3:Nat×AV:=(1,.fn 111 [] [.pe (.sl 1 (x1.1.map (cdL 1 cdI).enc)) 0,.pe (.sl 1 (x1.2.map (cdL 5 AA).enc)) 0])
  let p4:Nat×AV:=(0,.v (.int .i64 x0))
  refine A7 AC [p4,p3,(5,e3),p2,p1,(10,.v (.bool (decide (c2 < x0))))] ?_;refine AM ?_;refine Bz (b:=(decide (c2 < x0))) kr (fun hb5=>?_) (fun hb5=>?_)
  ·rw [if_pos hb5] at h
   refine SemY.skip ?_;refine AM ?_;refine A4 ?_;refine A7 AC [p4,p3,(5,e3),(6,.v (.int .i64 c2)),p2,p1] ?_;refine A7 AC [p4,p3,(5,e3),(6,.v (.int .i64 c2)),p2,p1,(12,.v (.int .i64 x0)),(13,.v (.int .i64 0))] ?_;refine A4 ?_;refine SemY.loop (n:=100000) ?_;obtain ⟨r30,hr30,h⟩:=OB h;refine Cc (Bd WkY.f1 (Gh x0 x1 c2 _ 0 c4 _ hr30 e3 hp hT)) ?_;rintro _ ⟨e31,hp32,hT33,rfl⟩;refine AH ?_;refine AZ AC 2 ?_;refine A3 rfl ?_;exact Bd WkY.f1 (ih0 (wr .i64 (c2 + 1)) r30 _ h e31 hp32 hT33)
  ·rw [Ce hb5] at h
   refine SemY.exit ?_;have hq:=OI h; subst hq;exact ⟨rfl,_,⟨e3,hp,hT,rfl⟩,WkY.f1⟩
theorem G0 {L:List Asn}{hp:Hp}(x0:Int) (x1:(List (List Int))×(List (List AD))) (r:(List (Int×Int))) (h:Bc x0 x1=some r) (hT:T hp (L)):SemY E0 ⟨none,false⟩ CC ⟨Fr 29 (BN 0 [.v (.int .i64 x0),.fn 111 [] [.pe (.sl 1 (x1.1.map (cdL 1 cdI).enc)) 0,.pe (.sl 1 (x1.2.map (cdL 5 AA).enc)) 0]]),hp⟩ fun x s'=>(x = .normal\/x = .ret)/\∃ ys,Eo E0.P s'.fr s'.hp Tryz.f109.results.toList=some ys/\(fun v h'=>v = .sl 2 (r.map (CL cdI cdI (fun _=>rfl) (fun _=>rfl)).enc)/\T h' (L)) (Es ys) s'.hp:=by
 unfold Bc at h
 let p1:Nat×AV:=(1,.fn 111 [] [.pe (.sl 1 (x1.1.map (cdL 1 cdI).enc)) 0,.pe (.sl 1 (x1.2.map (cdL 5 AA).enc)) 0])
 let p2:Nat×AV:=(0,.v (.int .i64 x0))
 refine IP (JN (s1:=⟨Fr 29 [p2,p1],hp⟩) WkY.f1 ?_);refine A7 AC [p2,p1] ?_;refine A7 AC [p2,p1,(5,.e0)] ?_;refine AM ?_;refine A7 AC [p2,p1,(5,.e0),(8,.v (.int .i64 x0)),(9,.v (.int .i64 0))] ?_;refine A4 ?_
 have hT1:=(T.e0 (k:=2) (ty:=90) (o:=(ocV (CL cdI cdI (fun _=>rfl) (fun _=>rfl)))) hT)
 refine SemY.loop (n:=100000) ?_;obtain ⟨r36,hr36,h⟩:=OB h;refine Cc (Bd WkY.f1 (Gg x0 x1 _ 0 ([]:(List (Int×Int))) _ hr36 .e0 hp hT1)) ?_;rintro _ ⟨e37,hp38,hT39,rfl⟩;refine A7 AC [(4,e37)] ?_;refine SemY.ret ?_;have hq:=OI h; subst hq
 let p3:Nat×AV:=(4,.sl 2 (r36.map (CL cdI cdI (fun _=>rfl) (fun _=>rfl)).enc))
 obtain ⟨hp40,hw41,hT42⟩:=Ed (E:=E0) (n:=29) (l:=[(4,e37)]) (l':=[p3]) hT39 ⟨⟨e37,kr,Dt⟩,trivial⟩;exact ⟨⟨Fr 29 [p3],hp40⟩,(WkY.trans (WkY.trans WkY.f1 hw41) WkY.f1),.inr rfl,[.sl 2 (r36.map (CL cdI cdI (fun _=>rfl) (fun _=>rfl)).enc)],kr,⟨rfl,hT42⟩⟩
def DU:Cs (Int×((List (List Int))×(List (List AD)))×Unit):=(csC cdI (csC (cdF 111 (csC (cdP (cdL 1 (cdL 1 cdI))) (csE (cdP (cdL 1 (cdL 5 AA))))) (fun _=>rfl)) csN))
def Eq (r:(List (Int×Int))):AV:=(cdL 2 (CL cdI cdI (fun _=>rfl) (fun _=>rfl))).enc r
def Hy:List AV->Option AV:=EF DU (fun a=>Bc a.1 a.2.1) Eq
theorem H1:XOk 109 Hy:=by
 refine AR Tryz.func109 (c:=CC) ?h2 ⟨Tryz.call109⟩ DU (fun a=>Bc a.1 a.2.1) Eq (fun a=>(by show 2<=29; decide)) ?h3 ?h4
 case h2=>kernel_rfl
 case h3=>intro b; kernel_rfl
 case h4 =>
  intro a b h;refine Sem.mono (Lr (G0 (L:=[]) (hp:=[]) a.1 a.2.1 b h T.nil)) fun e s' hs=>?_
  obtain ⟨h1,ys,h2,h3,-⟩:=hs;exact ⟨h1,ys,h2,h3⟩
/- trestle/court.Agree -/
noncomputable def K2:Code:=Bh Tryz.f48
def Eg (x0:(List (List AD))) (x1:(List Ah)):Option ((List (Int×Int))) :=
 (Em x0 x1).bind fun v5 =>
 (if (!v5.2)=true then some true else some ((x0.length:Int)==0)).bind fun j14 =>
 if j14=true then
 some ([]:(List (Int×Int)))
 else
 (Bc (x1.length:Int) (v5.1,x0)).bind fun v37 =>
 some v37
theorem NR {L:List Asn}{hp:Hp}(x0:(List (List AD))) (x1:(List Ah)) (r:(List (Int×Int))) (h:Eg x0 x1=some r) (hT:T hp (L)):SemY E0 ⟨none,false⟩ K2 ⟨Fr 24 (BN 0 [.sl 1 (x0.map (cdL 5 AA).enc),.sl 9 (x1.map AK.enc)]),hp⟩ fun x s'=>(x = .normal\/x = .ret)/\∃ ys,Eo E0.P s'.fr s'.hp Tryz.f48.results.toList=some ys/\(fun v h'=>v = .sl 2 (r.map (CL cdI cdI (fun _=>rfl) (fun _=>rfl)).enc)/\T h' (L)) (Es ys) s'.hp:=by
 unfold Eg at h;refine IP (JN (s1:=⟨Fr 24 [(0,.sl 1 (x0.map (cdL 5 AA).enc)),(1,.sl 9 (x1.map AK.enc))],hp⟩) WkY.f1 ?_);refine AM ?_;refine AH ?_;obtain ⟨e1,hp2,hb3,hT4⟩:=NN (t:=68) (a:= .sl 1 (x0.map (cdL 5 AA).enc)) hT kr;refine AS AC 0 rfl (QW (AB rfl) rfl kr (ZO (z:= .sl 1 (x0.map (cdL 5 AA).enc)) kr hb3)) ?_;refine CA AC [(1,.sl 9 (x1.map AK.enc)),(2,e1)] ?_;refine AM ?_;refine AH ?_;refine AS AC 0 rfl (C5 (AB rfl) rfl (G3 (p:=e1) kr (RD (y:= .sl 1 (x0.map (cdL 5 AA).enc)) (m:=1) (g:=false) hT4 kr kr kr))) ?_;refine AZ AC 1 ?_;obtain ⟨v5,hv5,h⟩:=OB h;refine C8 (v:=v5) (caps:=[]) (xs:=[.sl 1 (x0.map (cdL 5 AA).enc),.sl 9 (x1.map AK.enc)]) (u:=(x0,x1,())) rfl rfl Jl rfl (AB rfl) kr kr (Aw (Bx (c:=(cdL 1 (cdL 5 AA))) (v:=x0)) (Aw (Bx (c:=(cdL 9 AK)) (v:=x1)) SeesD.nil)) (.inr ⟨by kernel_rfl,Gv.de (x0,x1,())⟩) hv5 ?_;refine AZ AC 3 ?_;obtain ⟨e6,hp7,hb8,hT9⟩:=NN (t:=46) (a:= .e0) hT4 kr;refine AS AC 0 rfl (QW (AB rfl) rfl kr (PT (z:= .e0) kr hb8)) ?_;obtain ⟨hp10,hs11,hT12⟩:=Pk (P:=Tryz.prog) (ty:=46) (y:= .sl 1 (v5.1.map (cdL 1 cdI).enc)) (a':= .sl 1 (v5.1.map (cdL 1 cdI).enc)) hT9 kr kr kr;refine RunL.store AC (y:=e6) (z:= .sl 1 (v5.1.map (cdL 1 cdI).enc)) rfl (AB rfl) kr kr hs11 ?_;refine CA AC [(1,.sl 9 (x1.map AK.enc)),(2,e1),(5,e6),(6,.v (.bool v5.2))] ?_;refine AM ?_;refine AM ?_;obtain ⟨j14,hj14,h⟩:=OB h;refine NM (A:=fun s1=>∃ (h':Hp),T h' ((cel e1 1 68 (.sl 1 (x0.map (cdL 5 AA).enc)))::(cel e6 1 46 (.sl 1 (v5.1.map (cdL 1 cdI).enc)))::L)/\s1=⟨Fr 24 [(1,.sl 9 (x1.map AK.enc)),(2,e1),(5,e6),(19,.v (.bool j14))],h'⟩) ?_ ?_
 ·refine Gx (n:=24) AC 3 [(1,.sl 9 (x1.map AK.enc)),(2,e1),(5,e6),(15,.v (.bool (!v5.2)))] hp10 kr ?_
  rcases BE (!v5.2) with hc38 | hc38
  ·rw [if_pos hc38] at hj14
   rw [hc38];refine AZ AC 4 ?_;have hq:=OI hj14; subst hq
   have hT22:=(hT12.front 1 rfl)
   exact A3 rfl ⟨_,⟨hp10,hT22,rfl⟩,WkY.f1⟩
  ·rw [Ce hc38] at hj14
   rw [hc38]
   have hT13:=(hT12.front 1 rfl)
   refine AS AC 0 rfl (C5 kr rfl (G3 (p:=e1) kr (RD (y:= .sl 1 (x0.map (cdL 5 AA).enc)) (m:=1) (g:=false) hT13 kr kr kr))) ?_;refine AS AC 0 rfl (C5 kr rfl (Dd (a:= .sl 1 (x0.map (cdL 5 AA).enc)) kr (C1 (el:=22) kr))) ?_;refine AZ AC 2 ?_;have hq:=OI hj14; subst hq;exact A3 rfl ⟨_,⟨hp10,hT13,rfl⟩,WkY.f1⟩
 rintro _ ⟨hp23,hT24,rfl⟩;refine Bz (b:=j14) kr (fun hb25=>?_) (fun hb25=>?_)
 ·rw [if_pos hb25] at h
  refine A7 AC [(4,.e0)] ?_;refine SemY.ret ?_;have hq:=OI h; subst hq
  have hT26:=(T.e0 (k:=2) (ty:=90) (o:=(ocV (CL cdI cdI (fun _=>rfl) (fun _=>rfl)))) hT24)
  obtain ⟨hp27,hw28,hT29⟩:=Ed (E:=E0) (n:=24) (l:=[(4,.e0)]) (l':=[(4,.sl 2 (([]:(List (Int×Int))).map (CL cdI cdI (fun _=>rfl) (fun _=>rfl)).enc))]) hT26 ⟨⟨.e0,kr,Dt⟩,trivial⟩;exact ⟨⟨Fr 24 [(4,.sl 2 (([]:(List (Int×Int))).map (CL cdI cdI (fun _=>rfl) (fun _=>rfl)).enc))],hp27⟩,(WkY.trans (WkY.trans WkY.f1 hw28) WkY.f1),.inr rfl,[.sl 2 (([]:(List (Int×Int))).map (CL cdI cdI (fun _=>rfl) (fun _=>rfl)).enc)],kr,⟨rfl,hT29.drop.drop⟩⟩
 ·rw [Ce hb25] at h
  refine SemY.skip ?_;refine AM ?_;refine AH ?_;refine AZ AC 1 ?_;refine AS AC 0 rfl (C5 (AB rfl) rfl (Dd (a:= .sl 9 (x1.map AK.enc)) kr (C1 (el:=42) kr))) ?_;refine AZ AC 1 ?_
  have hT30:=(hT24.front 1 rfl)
  obtain ⟨hp31,hw32,hT33⟩:=Ed (E:=E0) (n:=24) (l:=[(21,.v (.int .i64 (x1.length:Int))),(22,.fn 111 [] [e6,e1])]) (l':=[(21,.v (.int .i64 (x1.length:Int))),(22,.fn 111 [] [.pe (.sl 1 (v5.1.map (cdL 1 cdI).enc)) 0,e1])]) (Qz (c:=(cdL 1 (cdL 1 cdI))) (x:=v5.1) hT30) ⟨⟨.v (.int .i64 (x1.length:Int)),kr,FzU.refl⟩,⟨.fn 111 [] [e6,e1],kr,FzU.fn ⟨Dt,FzU.refl,trivial⟩⟩,trivial⟩;refine Ig (WkY.trans WkY.f1 hw32) ?_;obtain ⟨hp34,hw35,hT36⟩:=Ed (E:=E0) (n:=24) (l:=[(21,.v (.int .i64 (x1.length:Int))),(22,.fn 111 [] [.pe (.sl 1 (v5.1.map (cdL 1 cdI).enc)) 0,e1])]) (l':=[(21,.v (.int .i64 (x1.length:Int))),(22,.fn 111 [] [.pe (.sl 1 (v5.1.map (cdL 1 cdI).enc)) 0,.pe (.sl 1 (x0.map (cdL 5 AA).enc)) 0])]) (Qz (c:=(cdL 1 (cdL 5 AA))) (x:=x0) hT33) ⟨⟨.v (.int .i64 (x1.length:Int)),kr,FzU.refl⟩,⟨.fn 111 [] [.pe (.sl 1 (v5.1.map (cdL 1 cdI).enc)) 0,e1],kr,FzU.fn ⟨FzU.refl,Dt,trivial⟩⟩,trivial⟩;refine Ig (WkY.trans WkY.f1 hw35) ?_;obtain ⟨v37,hv37,h⟩:=OB h;refine C8 (v:=v37) (caps:=[]) (xs:=[.v (.int .i64 (x1.length:Int)),.fn 111 [] [.pe (.sl 1 (v5.1.map (cdL 1 cdI).enc)) 0,.pe (.sl 1 (x0.map (cdL 5 AA).enc)) 0]]) (u:=((x1.length:Int),(v5.1,x0),())) rfl rfl H1 rfl (AB rfl) kr kr (Aw (Bx (c:=cdI) (v:=(x1.length:Int))) (Aw (Bx (c:=(cdF 111 (csC (cdP (cdL 1 (cdL 1 cdI))) (csE (cdP (cdL 1 (cdL 5 AA))))) (fun _=>rfl))) (v:=(v5.1,x0))) SeesD.nil)) (.inr ⟨by kernel_rfl,DU.de ((x1.length:Int),(v5.1,x0),())⟩) hv37 ?_;refine CA AC [(4,.sl 2 (v37.map (CL cdI cdI (fun _=>rfl) (fun _=>rfl)).enc))] ?_;refine SemY.ret ?_;have hq:=OI h; subst hq;exact ⟨⟨Fr 24 [(4,.sl 2 (v37.map (CL cdI cdI (fun _=>rfl) (fun _=>rfl)).enc))],hp34⟩,WkY.f1,.inr rfl,[.sl 2 (v37.map (CL cdI cdI (fun _=>rfl) (fun _=>rfl)).enc)],kr,⟨rfl,hT36⟩⟩
def Il:Cs ((List (List AD))×(List Ah)×Unit):=(csC (cdL 1 (cdL 5 AA)) (csC (cdL 9 AK) csN))
def K4 (r:(List (Int×Int))):AV:=(cdL 2 (CL cdI cdI (fun _=>rfl) (fun _=>rfl))).enc r
def Pm:List AV->Option AV:=EF Il (fun a=>Eg a.1 a.2.1) K4
theorem Pv:XOk 48 Pm:=by
 refine AR Tryz.func48 (c:=K2) ?h2 ⟨Tryz.call48⟩ Il (fun a=>Eg a.1 a.2.1) K4 (fun a=>(by show 2<=24; decide)) ?h3 ?h4
 case h2=>kernel_rfl
 case h3=>intro b; kernel_rfl
 case h4 =>
  intro a b h;refine Sem.mono (Lr (NR (L:=[]) (hp:=[]) a.1 a.2.1 b h T.nil)) fun e s' hs=>?_
  obtain ⟨h1,ys,h2,h3,-⟩:=hs;exact ⟨h1,ys,h2,h3⟩
section
variable {E:Env}{w w':World}{Z Z':Nat->Prop}{R R':List RI}{h h':Hp}{base:Bs}{s s':St}{a:Act}{n:Nat}
/-- What a deferred call must bring about when the function below returns: nothing but new blocks. -/
def SL (P:Program) (g:FuncId) (us:List Value):Prop:=∀ w1,CallsDIn (Fw none) 0 P g us.toArray .returning w1 fun e u' w2=>match e with | .returned _=>settle u' = .returning/\w1.grownBy w2 none | _=>False
theorem SR.grown {D:List Deferred}{b':Bs}(sr:SR E base w Z R s a) (hb:b'.n=base.n) (hg:w.grownBy w' none) (hm:MksD base.n w Z R s.hp D b'.D):SR E b' w' Z R s { a with defers:=D }:=by
 have hz:∀ c,Z c->w'.heap[c]? = w.heap[c]?:=fun c hc=>hg.block c (sr.hh.zlt c hc) (by simp)
 refine ⟨sr.hh.keep hg.size (fun c hc=>hg.block c hc (by simp)),sr.fr.off hz,?_,sr.gl.off hz,by rw [hb]; exact Nat.le_trans sr.bs hg.size⟩
 show MksD b'.n _ _ _ _ _ _
 rw [hb]
 exact MksD.imp (fun r h1 h2 h3=>⟨(hg.block r (J2 h1) (by simp)).trans h1,h2,h3⟩) hm
theorem O1 {d:Deferred}{g:FuncId}{fv:_}{cap:Array Value}{us:List Value}(hbD:base.D=[d]) (ht:d.target = .fn fv cap) (hinv:∀ w1,(invoke d.target d.args).run E.P w1 = .ok (.enter g us.toArray) w1) (hcall:SL E.P g us){fn:Func}{S:Value->World->Prop}{xs:List AV}(hres:Eo E.P s.fr s.hp fn.results.toList=some xs)
  (hS:∀ w' u,w.heap.size<=w'.heap.size->w'.os=w.os->w'.tape=w.tape->w'.output=w.output->(∀ c,c < base.n->w'.heap[c]? = w.heap[c]?)->HR w' Z R s.hp->VR w' Z R (Es xs) u->S u w') :
  ∀ {D:List Deferred} {w1:World},SR E base w1 Z R s { a with defers:=D }->w1.heap.size=w.heap.size->w1.os=w.os->w1.tape=w.tape->w1.output=w.output->(∀ c,c < base.n->w1.heap[c]? = w.heap[c]?) ->
  LeavesInM (Fw none) 0 E.P fn a.tmps (fun e w'=>match e with | .returned v=>S v w' | _=>False) D .returning w1
 | [],w1,sr,hz,ho,ht',hp,hb=>by
  have:=sr.mks
  unfold Mks MksD at this
  rw [hbD] at this
  cases this
 | d'::D,w1,sr,hz,ho,ht',hp,hb=>by
  rcases sr.mks with ⟨Ds',e,hno,hD⟩ | ⟨⟨r,h1,h2,h3,h4,h5,h6⟩,hD⟩
  ·rw [hbD] at e
   injection e with e1 e2
   subst e1 e2
   refine ⟨by simp,.inr ⟨(fun h=>by cases h),fv,cap,g,us.toArray,ht,hinv w1,fun _ _=>trivial,CallsDIn.mono (hcall w1) fun e u' w2 he=>?_⟩⟩
   cases e with
   | returned v =>
    obtain ⟨k1,k2⟩:=he
    dsimp only
    rw [k1]
    refine H2 (base:=⟨base.n,[]⟩) (w:=w2) rfl hres (fun w3 u g1 g2 g3 g4 g5 g6 g7=>hS w3 u ?_ (g2.trans (k2.os.trans ho)) (g3.trans (k2.tape.trans ht')) (g4.trans (k2.output.trans hp)) (fun c hc=>?_) g6 g7) (sr.grown (b':=⟨base.n,[]⟩) rfl k2 hD) rfl rfl rfl rfl (fun _ _=>rfl)
    ·rw [g1,<-hz]; exact k2.size
    ·rw [g5 c hc,k2.block c (Nat.lt_of_lt_of_le hc sr.bs) (by simp)]; exact hb c hc
   | panicked c=>exact he.elim
   | outgrown=>exact he.elim
  ·subst h2
   have hb':∀ c,(Z c\/own R s.hp c)->(w1.putObj r (.deferred none)).heap[c]? = w1.heap[c]?:=fun c hc=>GY (fun e=>by subst e; exact hc.elim h4 h5)
   exact ⟨by simp,.inl ⟨r,w1.putObj r (.deferred none),rfl,run_takeDeferred h3,O1 hbD ht hinv hcall hres hS ⟨sr.hh.off (Cb _ _ _) hb',sr.fr.off fun c hc=>hb' c (.inl hc),MksD.put hD h6,sr.gl.off fun c hc=>hb' c (.inl hc),by rw [Cb]; exact sr.bs⟩ (by rw [Cb]; exact hz) ho ht' hp (fun c hc=>(GY (by omega)).trans (hb c hc))⟩⟩
/-- The frame at the entry. -/
theorem Wp {fn:Func}{args:List AV}{us:List Value}(hh:HR w Z R h) (hv:VRs w Z R args us) (hg:GI E w Z):SR E (.of w.heap.size) w Z R ⟨args.map some++List.replicate (fn.ntmps - args.length) (some (.tp [])),h⟩ { tmps:=us.toArray++Array.replicate (fn.ntmps - us.toArray.size) undef,defers:=[] }:=by
 have hul:us.length=args.length:=hv.len
 refine ⟨hh,⟨by simp [hul],fun t x hx=>?_⟩,rfl,hg,Nat.le_refl _⟩
 have e0:us.toArray++Array.replicate (fn.ntmps - us.toArray.size) undef=(us++List.replicate (fn.ntmps - us.length) undef).toArray:=by simp
 rw [e0,Array.getD_eq_getD_getElem?,List.getElem?_toArray]
 by_cases ht:t < args.length
 ·rw [List.getElem?_append_left (by simpa using ht),List.getElem?_map] at hx
  rw [List.getElem?_append_left (by omega)]
  cases hat:args[t]? with
  | none=>rw [hat] at hx; cases hx
  | some q =>
   rw [hat] at hx
   have hx:=OI (OI hx)
   subst hx
   obtain ⟨u,hu1,hu2⟩:=hv.get hat
   rw [hu1]; exact hu2
 ·rw [List.getElem?_append_right (by simp; omega),List.getElem?_replicate] at hx
  split at hx
  ·next hlt =>
   have hx:=OI (OI hx)
   subst hx
   rw [List.getElem?_append_right (by omega),List.getElem?_replicate,if_pos (by rw [hul]; simpa using hlt)]
   exact .tp (us:=[]) rfl (fun i x u hx=>by simp at hx)
  ·cases hx
/-- A function whose body is: A; B; a closure is made and deferred; the rest. -/
theorem QC (hE:EnvOk E){f g:FuncId}{fn:Func}{A B rest:Code}{id:Nat}{o1 o2:Oper}{args cs xs:List AV}{s1 s2 s3 s4:St}{ex:Ex}{p:Operand}{tys:Array TypeId}{us:List Value}
  (hf:E.P.funcs[f]? = some fn) (hb:fn.body=some (.seq A (.seq B (.seq (.region id #[o1,o2] false) rest)))) (hdA:Ck A=true) (hdB:Ck B=true) (hdR:Ck rest=true)
  (eA:evC E n ⟨none,false⟩ A ⟨args.map some++List.replicate (fn.ntmps - args.length) (some (.tp [])),h⟩=some (.normal,s1)) (eB:evC E n ⟨none,false⟩ B s1=some (.normal,s2)) (hg1:o1.guard=none) (e1:op1 E (evC E n) ⟨none,false⟩ o1 s2=some s3) (hg2:o2.guard=none) (ho2:o2.op = .defer ⟨.value p,#[],tys⟩) (hd2:o2.dst=none) (hp:opA E s3.fr p=some (.fn g [] cs))
  (eR:evC E n ⟨none,false⟩ rest s3=some (ex,s4)) (hex:ex = .normal\/ex = .ret) (hres:Eo E.P s4.fr s4.hp fn.results.toList=some xs) (hcl:Bw E.P g) (hdef:∀ us:List Value,us.length=cs.length->SL E.P g us)
  (hh:HR w Z R h) (hv:VRs w Z R args us) (hg:GI E w Z):P3 E f us w Z R h (Es xs) s4.hp:=by
 have hCS:=(code_sound hE n).1
 refine callsIn_wide.1 (callsIn_of_wp_marks (F:=Fw none) (n:=0) hf hb trivial ?_)
 refine wpIn_seq (hCS _ A _ .normal s1 hdA eA none (.of w.heap.size) _ _ w Z R (fun _=>rfl) (Wp hh hv hg) (fun y hy=>by cases hy) fun a1 w1 Z1 R1 sr1 st1=>?_)
 refine wpIn_seq (hCS _ B _ .normal s2 hdB eB none (.of w.heap.size) _ _ w1 Z1 R1 (fun _=>rfl) sr1 (fun y hy=>by cases hy) fun a2 w2 Z2 R2 sr2 st2=>?_)
 refine wpIn_seq (wpIn_region_list ?_)
 unfold wpListIn
 rw [if_pos (by simp [Region.wanted,hg1])]
 refine lw_wpIn none (op1_lw hE hCS e1 sr2 fun a3 w3 Z3 R3 sr3 st3=>?_)
 unfold wpListIn
 rw [if_pos (by simp [Region.wanted,hg2])]
 have hvf:=opA_vr sr3 p _ hp
 generalize hva:a3.eval p=va at hvf
 cases hvf with
 | fn hl hl' hx hy =>
  rename_i u1 u2
  have e1':u1=[]:=by simpa using hl
  subst e1'
  have hrun:(o2.semAt (Fw none).round a3.eval).run E.P w3 = .ok (.defer ⟨.fn (.func g) u2.toArray,#[]⟩) w3:=by
   show (o2.semAt none a3.eval).run E.P w3=_
   rw [Oper.semAt_none]
   simp [execOp,ho2,resolve,hva,Deferred.ofValue]
  refine ⟨fun _ _=>trivial,?_⟩
  rw [hrun,Oper.uponIn_defer,hd2]
  have sr4:SR E ⟨w.heap.size,[⟨.fn (.func g) u2.toArray,#[]⟩]⟩ w3 Z3 R3 s3 { a3 with defers:=⟨.fn (.func g) u2.toArray,#[]⟩::a3.defers }:=by
   refine ⟨sr3.hh,sr3.fr,.inl ⟨_,rfl,fun r h=>?_,sr3.mks⟩,sr3.gl,sr3.bs⟩
   unfold Rw at h
   injection h with h
   cases h
  refine hCS _ rest _ ex s4 hdR eR none ⟨w.heap.size,[⟨.fn (.func g) u2.toArray,#[]⟩]⟩ _ _ w3 Z3 R3 (fun _=>rfl) sr4 (fun y hy=>by cases hy) fun a5 w5 Z5 R5 sr5 st5=>?_
  have st:=((st1.trans st2).trans st3).trans st5
  have hle:=O1 (base:=⟨w.heap.size,[⟨.fn (.func g) u2.toArray,#[]⟩]⟩) (w:=w5) (a:=a5) (fn:=fn) (g:=g) (us:=u2) rfl rfl (fun w1=>by simp [invoke,hcl.run]) (hdef u2 hl') (S:=fun v w''=>∃ Z' R',HR w'' Z' R' s4.hp/\VR w'' Z' R' (Es xs) v/\Step w Z R h w'' Z' R' s4.hp) hres (fun w'' u g1 g2 g3 g4 g5 g6 g7=>⟨Z5,R5,g6,g7,⟨g2.trans st.os,g3.trans st.tape,g4.trans st.output,Nat.le_trans st.size g1,fun c hc hn=>(g5 c hc).trans (st.block c hc hn),st.own_,st.z,st.z',st.r⟩⟩) (D:=a5.defers) (w1:=w5) sr5 rfl rfl rfl rfl (fun _ _=>rfl)
  rcases hex with rfl | rfl
  ·exact hle
  ·exact hle
end
/-- Operations of a deferred call, where nothing is to be recovered. -/
def MF (E:Env):List Oper->St->Option St
 | [],s=>some s
 | o::rest,s=>match o.guard with
  | some _=>none
  | none=>match o.op with
   | .call ⟨.builtin .recover,_,_⟩=>MF E rest ⟨LR s.fr o.dst (.v .nilIface),s.hp⟩
   | .typeAssert x _ u true=>match opA E s.fr x,E.P.underlying u,Fe E.P u with
    | some (.v .nilIface),some _,some z=>MF E rest ⟨LR s.fr o.dst (.tp [z,.v (.bool false)]),s.hp⟩
    | _,_,_=>none
   | .store t p q=>match o.dst,opA E s.fr p,opA E s.fr q with
    | none,some y,some z=>match Ev E.P s.hp t y z with
     | some h=>MF E rest ⟨s.fr,h⟩
     | none=>none
    | _,_,_=>none
   | op=>match GR E.P (opA E s.fr) s.hp op with
    | some x=>MF E rest ⟨LR s.fr o.dst x,s.hp⟩
    | none=>match Is E.P (opA E s.fr) s.hp op with
     | some (x,h)=>MF E rest ⟨LR s.fr o.dst x,h⟩
     | none=>none
section
variable {E:Env}{base:Bs}{ops:Array Oper}{Q:Exit->Act->List Frame->World->Prop}{cs:List Frame}{D:List Deferred}{s':St}
theorem O6 (a:Act) (d:Option Tmp) (u:Value):(a.put d u).defers=a.defers:=by cases d <;> rfl
theorem YJ {P:Program}{t u:TypeId}{d:TypeDesc}{v:Value}{w:World}(hu:P.underlying u=some d) (hz:∀ w,(zeroValue u).run P w = .ok v w):(Instr.typeAssert .nilIface t u true).run P w = .ok (.tuple #[v,.bool false]) w:=by
 unfold Instr.typeAssert
 rw [Sem.run_bind,run_underlying hu]
 cases d <;> simp [hz,Result.andThen]
theorem ID (hrec:recoverD cs=none):∀ {rest:List Oper}{s:St}{a:Act}{w:World}{Z:Nat->Prop}{R:List RI}{k:Nat},MF E rest s=some s'->SR E base w Z R s a->a.defers=D->(∀ j,rest[j]? = ops[k + j]?) ->
  (∀ a' w' Z' R',SR E base w' Z' R' s' a'->a'.defers=D->Step w Z R s.hp w' Z' R' s'.hp->Q .normal a' cs w')->wpOpsSIn (Fw none) 0 E.P ops Q (List.range' k rest.length) a cs w
 | [],s,a,w,Z,R,k,e,sr,hD,hops,q=>by
  injection e with e; subst e
  exact q a w Z R sr hD (Step.refl _ _ _ _)
 | o::rest,s,a,w,Z,R,k,e,sr,hD,hops,q=>by
  have hok:ops[k]? = some o:=by have:=hops 0; simpa using this.symm
  have hops':∀ j,rest[j]? = ops[k + 1 + j]?:=fun j=>by have:=hops (j + 1); simpa [Nat.add_assoc,Nat.add_comm 1 j] using this
  have hρ:∀ o x,opA E s.fr o=some x->VR w Z R x (a.eval o):=fun o x e=>opA_vr sr o x e
  unfold MF at e
  split at e
  ·cases e
  ·next hg =>
   rw [List.length_cons,List.range'_succ]
   unfold wpOpsSIn
   rw [hok]
   dsimp only
   refine ⟨fun _ _=>trivial,?_⟩
   rw [if_pos (by simp [Region.wanted,hg])]
   have val:∀ {x:AV} {h':Hp},Ld E.P w Z R s.hp x h' a.eval o->MF E rest ⟨LR s.fr o.dst x,h'⟩=some s'->(match (execOp a.eval o).run E.P w with
    | .ok .recover w'=>(match recoverD cs with
     | some (v,cs')=>wpOpsSIn (Fw none) 0 E.P ops Q (List.range' (k + 1) rest.length) (a.put o.dst v) cs' w'
     | none=>wpOpsSIn (Fw none) 0 E.P ops Q (List.range' (k + 1) rest.length) (a.put o.dst .nilIface) cs w')
    | .ok (.value v) w'=>wpOpsSIn (Fw none) 0 E.P ops Q (List.range' (k + 1) rest.length) (a.put o.dst v) cs w'
    | .ok .skip w'=>wpOpsSIn (Fw none) 0 E.P ops Q (List.range' (k + 1) rest.length) (a.put o.dst undef) cs w'
    | .halt (.panic v) w'=>Q (.panic [{ v,recovered:=false }]) a cs w'
    | _=>False):=fun {x h'} hl e=>by
    obtain ⟨u,w',R',h1,h2,h3,h4⟩:=hl
    rw [h1]
    exact ID hrec e ((sr.step h2 h4).put h3) ((O6 _ _ _).trans hD) hops' fun a' w'' Z'' R'' sr'' hD'' st=>q a' w'' Z'' R'' sr'' hD'' (h4.trans st)
   split at e
   ·next b c ho =>
    have hr:(execOp a.eval o).run E.P w = .ok .recover w:=by
     simp [execOp,ho,resolve,invoke]
     rfl
    rw [hr]
    dsimp only
    rw [hrec]
    exact ID hrec e (sr.put (.v rfl)) ((O6 _ _ _).trans hD) hops' q
   ·next x t u ho =>
    split at e
    ·next d z hx hu hz =>
     have hv:=(hρ _ _ hx).v_inv
     obtain ⟨v,hv1,_,hrun,_⟩:=JK (w:=w) (Z:=Z) (R:=R) hz
     refine val (x:= .tp [z,.v (.bool false)]) (h':=s.hp) ⟨.tuple #[v,.bool false],w,R,?_,sr.hh,.tp (us:=[v,.bool false]) rfl (fun i x u hx hu=>?_),Step.refl _ _ _ _⟩ e
     ·simp only [execOp,ho,hv]
      rw [Sem.run_bind,YJ hu hrun]
      rfl
     ·match i with
      | 0=>simp at hx hu; subst hx hu; exact hv1
      | 1=>simp at hx hu; subst hx hu; exact .v rfl
      | i + 2=>simp at hx
    ·cases e
   ·next t p r ho =>
    split at e
    ·next y z hd hp hq =>
     split at e
     ·next h' hst =>
      obtain ⟨w',h1,h2,h3⟩:=JY hρ sr.hh ho hp hq hst
      rw [h1,hd]
      dsimp only
      exact ID hrec e (sr.step h2 h3) hD hops' fun a' w'' Z'' R'' sr'' hD'' st=>q a' w'' Z'' R'' sr'' hD'' (h3.trans st)
     ·cases e
    ·cases e
   ·split at e
    ·next x hx=>exact val ((evOpQ_sound sr.hh hρ hx).ld sr.hh) e
    ·split at e
     ·next x h' hx=>exact val (evOpN_sound hρ sr.hh hx).ld e
     ·cases e
/-- A deferred closure of the form: what it recovers is looked at; where it was nothing, nothing is done. -/
theorem Xc {g:FuncId}{fn:Func}{id0 id1:Nat}{ops0 ops1:Array Oper}{x:Operand}{X:Code}{s1 s2:St}{us:List Value}(hG:∀ q,E.G q=none) (hf:E.P.funcs[g]? = some fn) (hb:fn.body=some (.seq (.region id0 ops0 false) (.seq (.region id1 ops1 false) (.cond x X .skip)))) (hres:fn.results=#[])
  (e1:MF E ops0.toList ⟨List.replicate fn.ntmps none,[]⟩=some s1) (e2:MF E ops1.toList s1=some s2) (ht:opA E s2.fr x=some (.v (.bool false))) (hl:us.length<=fn.ntmps):SL E.P g us:=by
 intro w1
 refine callsDIn_of_wpSIn hf hb trivial fun c₀ cs hm=>?_
 have hrec:recoverD (c₀::cs)=none:=by simp [recoverD,hm]
 have sr0:SR E (.of w1.heap.size) w1 (fun _=>False) [] ⟨List.replicate fn.ntmps none,[]⟩ { tmps:=us.toArray++Array.replicate (fn.ntmps - us.toArray.size) undef,defers:=[] } :=
  ⟨hr_nil (fun _ h=>h.elim),⟨by simp; omega,fun t x hx=>by simp [List.getElem?_replicate] at hx⟩,rfl,(fun q y hy=>by rw [hG] at hy; cases hy),Nat.le_refl _⟩
 refine wpSIn_seq (wpSIn_region ?_)
 rw [List.range_eq_range',show ops0.size=ops0.toList.length by simp]
 refine ID hrec (rest:=ops0.toList) (k:=0) (D:=[]) e1 sr0 rfl (fun j=>by simp) fun a2 w2 Z2 R2 sr2 hD2 st2=>?_
 show (Code.seq _ _).wpSIn _ _ _ _ _ _ _
 refine wpSIn_seq (wpSIn_region ?_)
 rw [List.range_eq_range',show ops1.size=ops1.toList.length by simp]
 refine ID hrec (rest:=ops1.toList) (k:=0) (D:=[]) e2 sr2 hD2 (fun j=>by simp) fun a3 w3 Z3 R3 sr3 hD3 st3=>?_
 show (Code.cond _ _ _).wpSIn _ _ _ _ _ _ _
 refine wpSIn_cond (t:=false) (opA_vr sr3 _ _ ht).v_inv ?_
 refine wpSIn_of_wpIn rfl (wpIn_skip ?_)
 have st:=st2.trans st3
 have h0:(Array.mapM (Sf a3.tmps) (#[]:Array ResultVar)).run E.P w3 = .ok #[] w3:=PA (us:=[]) (by simp)
 exact ⟨hD3,.returning,by rw [<-hm],.tuple #[],by rw [O9,hres,Sem.run_bind,h0]; rfl,rfl,⟨st.os,st.tape,st.output,st.size,fun c hc _=>st.block c hc Pc⟩⟩
end
end Go.Proofs.YtlalcoehgkmhlaaGreatDoor
namespace Go.Proofs.YtlalcoehgkmhlaaGreatDoor
open Go.Shelf
def RC:Go.Shelf.Ren:=⟨fun | 217=>194 | 266=>211 | n=>n,fun | 9=>9 | 5=>5 | 3=>3 | n=>n,fun | n=>n⟩
theorem WO:Go.Proofs.Lays.n217 Tryz.prog RC:={
 mixed:=by kernel_rfl
 f217:=Tryz.func194.trans (congrArg some (by kernel_rfl))
 f266:=Tryz.func211.trans (congrArg some (by kernel_rfl))
 t3:=Tryz.underlying3
 a3:=Tryz.isAgg3
 z3:=Tryz.sizeOf3
 v3:=Tryz.zeroValue3
 t5:=Tryz.underlying5
 a5:=Tryz.isAgg5
 z5:=Tryz.sizeOf5
 v5:=Tryz.zeroValue5
 t9:=Tryz.underlying9
 a9:=Tryz.isAgg9
 z9:=Tryz.sizeOf9
 v9:=Tryz.zeroValue9 }
def RB:Go.Shelf.Ren:=⟨fun | 138=>199 | 195=>213 | 218=>215 | 143=>200 | 219=>173 | 217=>194 | 225=>195 | 224=>196 | 267=>197 | 266=>211 | 314=>212 | n=>n,fun | 9=>9 | 3=>3 | 4=>4 | 5=>5 | 0=>0 | 46=>178 | 146=>222 | 51=>221 | n=>n,fun | 1=>0 | n=>n⟩
theorem WN:Go.Proofs.Lays.n138 Tryz.prog RB:={
 mixed:=by kernel_rfl
 f138:=Tryz.func199.trans (congrArg some (by kernel_rfl))
 f143:=Tryz.func200.trans (congrArg some (by kernel_rfl))
 f195:=Tryz.func213.trans (congrArg some (by kernel_rfl))
 f217:=Tryz.func194.trans (congrArg some (by kernel_rfl))
 f218:=Tryz.func215.trans (congrArg some (by kernel_rfl))
 f219:=Tryz.func173.trans (congrArg some (by kernel_rfl))
 f224:=Tryz.func196.trans (congrArg some (by kernel_rfl))
 f225:=Tryz.func195.trans (congrArg some (by kernel_rfl))
 f266:=Tryz.func211.trans (congrArg some (by kernel_rfl))
 f267:=Tryz.func197.trans (congrArg some (by kernel_rfl))
 f314:=Tryz.func212.trans (congrArg some (by kernel_rfl))
 t0:=Tryz.underlying0
 a0:=Tryz.isAgg0
 z0:=Tryz.sizeOf0
 v0:=Tryz.zeroValue0
 t3:=Tryz.underlying3
 a3:=Tryz.isAgg3
 z3:=Tryz.sizeOf3
 v3:=Tryz.zeroValue3
 t4:=Tryz.underlying4
 a4:=Tryz.isAgg4
 z4:=Tryz.sizeOf4
 v4:=Tryz.zeroValue4
 t5:=Tryz.underlying5
 a5:=Tryz.isAgg5
 z5:=Tryz.sizeOf5
 v5:=Tryz.zeroValue5
 t9:=Tryz.underlying9
 a9:=Tryz.isAgg9
 z9:=Tryz.sizeOf9
 v9:=Tryz.zeroValue9
 t46:=Tryz.underlying178
 a46:=Tryz.isAgg178
 z46:=Tryz.sizeOf178
 v46:=Tryz.zeroValue178
 t51:=Tryz.underlying221
 a51:=Tryz.isAgg221
 z51:=Tryz.sizeOf221
 v51:=Tryz.zeroValue221
 t146:=Tryz.underlying222
 a146:=Tryz.isAgg222
 z146:=Tryz.sizeOf222
 v146:=Tryz.zeroValue222
 g1:=by kernel_rfl }
open Go.RowKit Go.Lib
/-- The first place of a byte. -/
def ixB:List AV->Option AV
 | [.st s,.v (.int .u8 c)]=>some (.v (.int .i64 (Lib.indexByte s c.toNat.toUInt8)))
 | _=>none
theorem Xn {E:Env}(hE:EnvOk E) (hP:E.P=Tryz.prog):EnvOk (E.withX 194 ixB):=by
 refine hE.withX (hP ▸ ⟨Tryz.call194⟩) fun xs x h w Z us _ _ hv=>?_
 unfold ixB at h
 split at h
 ·next s c =>
  injection h with h
  subst h
  obtain ⟨u1,r1,rfl,h1,hv⟩:=hv.head
  obtain ⟨u2,r2,rfl,h2,hv⟩:=hv.head
  have:r2=[]:=List.eq_nil_of_length_eq_zero hv.len
  subst this
  have e2:=h2.v_inv
  subst e2
  cases h1 with
  | st hs hn =>
   rename_i sb
   rw [hP]
   refine Calls.mono (Any.stringslite_IndexByte WO sb c w) fun e w' he=>?_
   obtain ⟨rfl,rfl⟩:=he
   exact ⟨Nv _,by rw [hs]; exact .v rfl⟩
 ·cases h
/-- How often a byte stands in a string. -/
def ZA:List AV->Option AV
 | [.st s,.st [c]]=>some (.v (.int .i64 (Lib.countByte s c)))
 | _=>none
theorem Vw {E:Env}(hE:EnvOk E) (hP:E.P=Tryz.prog):EnvOk (E.withX 199 ZA):=by
 refine hE.withX (hP ▸ ⟨Tryz.call199⟩) fun xs x h w Z us _ _ hv=>?_
 unfold ZA at h
 split at h
 ·next s c =>
  injection h with h
  subst h
  obtain ⟨u1,r1,rfl,h1,hv⟩:=hv.head
  obtain ⟨u2,r2,rfl,h2,hv⟩:=hv.head
  have:r2=[]:=List.eq_nil_of_length_eq_zero hv.len
  subst this
  obtain ⟨sb,rfl,hs⟩:∃ sb,u1 = .string sb/\sb.data.toList=s:=by cases h1 with | st h _=>exact ⟨_,rfl,h⟩
  obtain ⟨sc,rfl,hs2⟩:∃ sc,u2 = .string sc/\sc.data.toList=[c]:=by cases h2 with | st h _=>exact ⟨_,rfl,h⟩
  have e:sc=ByteArray.mk #[c]:=by
   obtain ⟨d⟩:=sc
   congr 1
   apply Array.ext'
   exact hs2
  subst e
  rw [hP]
  refine Calls.mono (Any.strings_Count_one WN sb c w) fun e w' he=>?_
  obtain ⟨rfl,rfl⟩:=he
  exact ⟨Nv _,by rw [hs]; exact .v rfl⟩
 ·cases h
/-- A call of a function that defers one closure: the closure, how many captures it has, what is handed back. -/
def V0 (E:Env) (n:Nat) (fn:Func) (args:List AV):Option (FuncId×Nat×AV×Hp):=match fn.body with
 | some (.seq A (.seq B (.seq (.region _ ops false) rest)))=>match ops.toList with
  | [o1,o2]=>match o1.guard,o2.guard,o2.dst,o2.op with
   | none,none,none,.defer ⟨.value p,dargs,_⟩ =>
    if dargs.size=0/\Ck A=true/\Ck B=true/\Ck rest=true then
     match evC E n ⟨none,false⟩ A ⟨args.map some++List.replicate (fn.ntmps - args.length) (some (.tp [])),[]⟩ with
     | some (.normal,s1)=>match evC E n ⟨none,false⟩ B s1 with
      | some (.normal,s2)=>match op1 E (evC E n) ⟨none,false⟩ o1 s2 with
       | some s3=>match opA E s3.fr p with
        | some (.fn g [] cs)=>match evC E n ⟨none,false⟩ rest s3 with
         | some (.normal,s4)=>(Eo E.P s4.fr s4.hp fn.results.toList).map fun xs=>(g,cs.length,Es xs,s4.hp)
         | some (.ret,s4)=>(Eo E.P s4.fr s4.hp fn.results.toList).map fun xs=>(g,cs.length,Es xs,s4.hp)
         | _=>none
        | _=>none
       | none=>none
      | _=>none
     | _=>none
    else none
   | _,_,_,_=>none
  | _=>none
 | _=>none
theorem Q2 {E:Env}(hE:EnvOk E){n:Nat}{f:FuncId}{fn:Func}{args:List AV}{g m:Nat}{x:AV}{h':Hp}(hf:E.P.funcs[f]? = some fn) (hcl:Bw E.P g) (hdef:∀ us:List Value,us.length=m->SL E.P g us) (e:V0 E n fn args=some (g,m,x,h')){w:World}{Z:Nat->Prop}{us:List Value}(hz:∀ c,Z c->c < w.heap.size) (hg:GI E w Z) (hv:VRs w Z [] args us):P3 E f us w Z [] [] x h':=by
 unfold V0 at e
 split at e
 ·next A B id ops rest hb =>
  split at e
  ·next o1 o2 hops =>
   split at e
   ·next p dargs tys hg1 hg2 hd2 ho2 =>
    split at e
    ·next hc =>
     obtain ⟨c1,c2,c3,c4⟩:=hc
     have hops':ops=#[o1,o2]:=by apply Array.ext'; exact hops
     have hda:dargs=#[]:=Array.eq_empty_of_size_eq_zero c1
     subst hops' hda
     split at e
     ·next s1 e1 =>
      split at e
      ·next s2 e2 =>
       split at e
       ·next s3 e3 =>
        split at e
        ·next g' cs hp =>
         split at e
         ·next s4 e4 =>
          obtain ⟨xs,hxs,hxe⟩:=Option.map_eq_some_iff.1 e
          injection hxe with k1 k2; injection k2 with k2 k3; injection k3 with k3 k4
          subst k1 k2 k3 k4
          exact QC hE hf hb c2 c3 c4 e1 e2 hg1 e3 hg2 ho2 hd2 hp e4 (.inl rfl) hxs hcl hdef (hr_nil hz) hv hg
         ·next s4 e4 =>
          obtain ⟨xs,hxs,hxe⟩:=Option.map_eq_some_iff.1 e
          injection hxe with k1 k2; injection k2 with k2 k3; injection k3 with k3 k4
          subst k1 k2 k3 k4
          exact QC hE hf hb c2 c3 c4 e1 e2 hg1 e3 hg2 ho2 hd2 hp e4 (.inr rfl) hxs hcl hdef (hr_nil hz) hv hg
         ·cases e
        ·cases e
       ·cases e
      ·cases e
     ·cases e
    ·cases e
   ·cases e
  ·cases e
 ·cases e
/-- .. as a contract. -/
def dfX (E:Env) (n:Nat) (fn:Func) (g m:Nat) (args:List AV):Option AV:=match V0 E n fn args with
 | some (g',m',x,h')=>if g'=g/\m'=m then Sp h' x else none
 | none=>none
theorem Xd {E:Env}(hE:EnvOk E){n:Nat}{f:FuncId}{fn:Func}{g m:Nat}(hf:E.P.funcs[f]? = some fn) (hc:Bw E.P f) (hcl:Bw E.P g) (hdef:∀ us:List Value,us.length=m->SL E.P g us):EnvOk (E.withX f (dfX E n fn g m)):=by
 refine hE.withX hc fun xs y h w Z us hz hgi hv=>?_
 unfold dfX at h
 split at h
 ·next g' m' x h' e =>
  split at h
  ·next hgm =>
   obtain ⟨rfl,rfl⟩:=hgm
   exact frz_ret (Q2 hE hf hcl hdef e hz hgi hv) h
  ·cases h
 ·cases h
noncomputable def E1:Env:=(E0.withX 194 ixB).withX 199 ZA
theorem XG:EnvOk E1:=Vw (Xn AC rfl) rfl
theorem X7 (us:List Value) (hl:us.length=2):SL E1.P 124 us :=
 Xc (E:=E1) (s1:=(MF E1 (match Tryz.f124.body with | some (.seq (.region _ ops _) _)=>ops.toList | _=>[]) ⟨List.replicate Tryz.f124.ntmps none,[]⟩).getD ⟨[],[]⟩) (s2:=(MF E1 (match Tryz.f124.body with | some (.seq _ (.seq (.region _ ops _) _))=>ops.toList | _=>[]) ((MF E1 (match Tryz.f124.body with | some (.seq (.region _ ops _) _)=>ops.toList | _=>[]) ⟨List.replicate Tryz.f124.ntmps none,[]⟩).getD ⟨[],[]⟩)).getD ⟨[],[]⟩)
  (fun _=>rfl) Tryz.func124 rfl rfl (by kernel_rfl) (by kernel_rfl) (by kernel_rfl) (by rw [hl]; decide)
noncomputable def E2:Env:=E1.withX 72 (dfX E1 3000 Tryz.f72 124 2)
theorem Yn:EnvOk E2:=Xd XG Tryz.func72 ⟨Tryz.call72⟩ ⟨Tryz.call124⟩ X7
def exC:List AV:=[.ag [.v (.int .u8 1),.st [],.v (.bool false),.sl 1 [.st [100,117,107,101],.st [99,111,117,110,116]],.v (.int .i64 0)],.ag [.v (.int .u8 2),.st [100,117,107,101],.v (.bool false),.e0,.v (.int .i64 0)],.ag [.v (.int .u8 4),.st [],.v (.bool false),.e0,.v (.int .i64 1)],.ag [.v (.int .u8 8),.st [],.v (.bool false),.e0,.v (.int .i64 0)]]
def exG:List AV:=[.ag [.st [97,100,97],.st [99,111,117,110,116],.st [],.v (.int .i64 0),.v (.int .i64 2),.st [],.v (.bool false),.v (.bool false),.e0],.ag [.st [98,101,97],.st [100,117,107,101],.st [],.v (.int .i64 1700),.v (.int .i64 0),.st [],.v (.bool false),.v (.bool false),.e0],.ag [.st [99,121,114],.st [100,117,107,101],.st [],.v (.int .i64 1650),.v (.int .i64 0),.st [],.v (.bool false),.v (.bool false),.e0],.ag [.st [100,97,110],.st [],.st [],.v (.int .i64 0),.v (.int .i64 1),.st [],.v (.bool false),.v (.bool false),.e0],.ag [.st [101,118,97],.st [99,111,117,110,116],.st [],.v (.int .i64 0),.v (.int .i64 1),.st [],.v (.bool false),.v (.bool false),.e0]]
def i4 (n:Int):AV:= .v (.int .i64 n)
def exT:List UInt8:=[114,97,110,107,32,100,117,107,101,32,99,111,117,110,116,10,97,109,111,110,103,32,100,117,107,101,32,101,108,100,101,114,10,115,105,100,101,32,49,32,102,105,114,115,116,10,110,97,109,101,10]
end Go.Proofs.YtlalcoehgkmhlaaGreatDoor
