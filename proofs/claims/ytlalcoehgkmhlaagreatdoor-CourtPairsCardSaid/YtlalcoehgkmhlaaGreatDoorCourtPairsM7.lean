/- Lemmas for the proof. -/
import Derived.Test.YtlalcoehgkmhlaaGreatDoorCourtPairsM1
import Derived.Test.YtlalcoehgkmhlaaGreatDoorCourtPairsM2
import Derived.Test.YtlalcoehgkmhlaaGreatDoorCourtPairsM3
import Derived.Test.YtlalcoehgkmhlaaGreatDoorCourtPairsM4
import Derived.Test.YtlalcoehgkmhlaaGreatDoorCourtPairsM5
import Derived.Test.YtlalcoehgkmhlaaGreatDoorCourtPairsM6
set_option maxHeartbeats 4000000
set_option maxRecDepth 100000
namespace Go.Proofs.YtlalcoehgkmhlaaGreatDoor
open Go.RowKit
/- trestle/court.placed$2 -/
noncomputable def Dy:Code:=A3 Tryz.f209
def Az (x0:A6) (x1:A6) (x3:AF):Option (Int) :=
 (Dm x0.2).bind fun v1 =>
 (if (!v1)=true then some true else (Dm x1.2).bind fun v2 =>
 some (!v2)).bind fun j4 =>
 if j4=true then
 some 0
 else
 (Fk x0.2 x3).bind fun v6 =>
 (Fk x1.2 x3).bind fun v7 =>
 (C6 v6 v7).bind fun v8 =>
 some v8
def Cp:Cs (A6×A6×Unit×AF×Unit):=(csC AH (csC AH (csC (cdP (cdF 208 csN (fun _=>rfl))) (csC (cdP (cdF 190 (csE (cdP AA)) (fun _=>rfl))) csN))))
def Cu (r:Int):AV:=cdI.enc r
theorem GV (x0:A6) (x1:A6) (x3:AF) (r:Int) (h:Az x0 x1 x3=some r):Sem E0 ⟨none,false⟩ Dy ⟨Fr 28 (Av 0 (Cp.enc (x0,x1,(),x3,()))),[]⟩ fun e s'=>(e = .normal\/e = .ret)/\∃ xs,D6 E0.P s'.fr s'.hp Tryz.f209.results.toList=some xs/\EA xs=Cu r:=by
 unfold Az at h;refine Aj (A8 (s1:=⟨Fr 28 [(0,AH.enc x0),(1,AH.enc x1),(2,.pe (.fn 208 [] []) 0),(3,.pe (.fn 190 [] [.pe (AA.enc x3) 0]) 0)],[]⟩) AJ ?_);refine AK AC [(2,.pe (.fn 208 [] []) 0),(3,.pe (.fn 190 [] [.pe (AA.enc x3) 0]) 0),(4,.pt 0 0 0),(5,.pt 1 0 0)] [some ⟨10,115,[AH.enc x0],false⟩,some ⟨10,115,[AH.enc x1],false⟩] ?_;refine AG ?_;refine AG ?_;obtain ⟨v1,hv1,h⟩:=OB h;obtain ⟨j4,hj4,h⟩:=OB h;refine AL (s1:=⟨Fr 28 [(3,.pe (.fn 190 [] [.pe (AA.enc x3) 0]) 0),(4,.pt 0 0 0),(5,.pt 1 0 0),(18,.v (.bool j4))],[some ⟨10,115,[AH.enc x0],false⟩,some ⟨10,115,[AH.enc x1],false⟩]⟩) ?_ ?_
 ·refine AD (n:=28) AC 3 [(2,.pe (.fn 208 [] []) 0),(3,.pe (.fn 190 [] [.pe (AA.enc x3) 0]) 0),(4,.pt 0 0 0),(5,.pt 1 0 0),(7,.fn 208 [] []),(9,.v (.int .i64 x0.2))] [some ⟨10,115,[AH.enc x0],false⟩,some ⟨10,115,[AH.enc x1],false⟩] kr ?_
  refine AR (caps:=[]) (xs:=[.v (.int .i64 x0.2)]) (u:=(x0.2,())) rfl rfl Ij rfl (AB rfl) kr kr (AM (AU (c:=cdI) (v:=x0.2)) Af) (.inl kr) hv1 ?_;refine AD (n:=28) AC 2 [(2,.pe (.fn 208 [] []) 0),(3,.pe (.fn 190 [] [.pe (AA.enc x3) 0]) 0),(4,.pt 0 0 0),(5,.pt 1 0 0),(12,.v (.bool (!v1)))] [some ⟨10,115,[AH.enc x0],false⟩,some ⟨10,115,[AH.enc x1],false⟩] kr ?_;rcases BE (!v1) with hc9 | hc9
  ·rw [if_pos hc9] at hj4
   rw [hc9];refine AD (n:=28) AC 6 [(3,.pe (.fn 190 [] [.pe (AA.enc x3) 0]) 0),(4,.pt 0 0 0),(5,.pt 1 0 0),(18,.v (.bool true))] [some ⟨10,115,[AH.enc x0],false⟩,some ⟨10,115,[AH.enc x1],false⟩] kr ?_;have hq:=OI hj4; subst hq;exact AI rfl (Ae [0,1] ⟨⟨_,rfl,Gy⟩,⟨_,rfl,Gy⟩,trivial⟩ ⟨lv,lv,lv,lv,trivial⟩)
  ·rw [BY hc9] at hj4
   rw [hc9];refine AD (n:=28) AC 3 [(3,.pe (.fn 190 [] [.pe (AA.enc x3) 0]) 0),(4,.pt 0 0 0),(5,.pt 1 0 0),(12,.v (.bool false)),(13,.fn 208 [] []),(15,.v (.int .i64 x1.2))] [some ⟨10,115,[AH.enc x0],false⟩,some ⟨10,115,[AH.enc x1],false⟩] kr ?_;obtain ⟨v2,hv2,hj4⟩:=OB hj4;refine AR (caps:=[]) (xs:=[.v (.int .i64 x1.2)]) (u:=(x1.2,())) rfl rfl Ij rfl kr kr kr (AM (AU (c:=cdI) (v:=x1.2)) Af) (.inl kr) hv2 ?_;refine AD (n:=28) AC 2 [(3,.pe (.fn 190 [] [.pe (AA.enc x3) 0]) 0),(4,.pt 0 0 0),(5,.pt 1 0 0),(18,.v (.bool (!v2)))] [some ⟨10,115,[AH.enc x0],false⟩,some ⟨10,115,[AH.enc x1],false⟩] kr ?_;have hq:=OI hj4; subst hq;exact AI rfl (Ae [0,1] ⟨⟨_,rfl,Gy⟩,⟨_,rfl,Gy⟩,trivial⟩ ⟨lv,lv,lv,lv,trivial⟩)
 refine AP (b:=j4) kr (fun hb5=>?_) (fun hb5=>?_)
 ·rw [if_pos hb5] at h
  refine AG ?_;refine AL (s1:=⟨Fr 28 [(6,.v (.int .i64 0))],[]⟩) ?_ ?_
  ·refine AD (n:=28) AC 1 [(6,.v (.int .i64 0))] [some ⟨10,115,[AH.enc x0],false⟩,some ⟨10,115,[AH.enc x1],false⟩] kr ?_
   exact AI rfl (Ae [] trivial ⟨lv,trivial⟩)
  refine AN ?_;have hq:=OI h; subst hq;exact ⟨⟨Fr 28 [(6,.v (.int .i64 0))],[]⟩,AJ,.inr rfl,[.v (.int .i64 0)],kr,kr⟩
 ·rw [BY hb5] at h
  refine AT ?_;refine AG ?_;obtain ⟨v6,hv6,h⟩:=OB h;obtain ⟨v7,hv7,h⟩:=OB h;obtain ⟨v8,hv8,h⟩:=OB h;refine DI AC (s1:=⟨Fr 28 [(6,.v (.int .i64 v8))],[]⟩) kr ?_ ?_
  ·refine AY (n:=28) AC 3 [(3,.pe (.fn 190 [] [.pe (AA.enc x3) 0]) 0),(5,.pt 1 0 0),(19,.fn 190 [] [.pe (AA.enc x3) 0]),(21,.v (.int .i64 x0.2))] [some ⟨10,115,[AH.enc x0],false⟩,some ⟨10,115,[AH.enc x1],false⟩] kr kr ?_
   refine Bg (caps:=[.pe (AA.enc x3) 0]) (xs:=[.v (.int .i64 x0.2)]) (u:=(x0.2,x3,())) rfl rfl Pe rfl (AB rfl) kr kr (AM (AU (c:=cdI) (v:=x0.2)) (AM (AU (c:=(cdP AA)) (v:=x3)) Af)) kr hv6 ?_;refine AY (n:=28) AC 3 [(22,.v (.int .i64 v6)),(23,.fn 190 [] [.pe (AA.enc x3) 0]),(25,.v (.int .i64 x1.2))] [some ⟨10,115,[AH.enc x0],false⟩,some ⟨10,115,[AH.enc x1],false⟩] kr kr ?_;refine Bg (caps:=[.pe (AA.enc x3) 0]) (xs:=[.v (.int .i64 x1.2)]) (u:=(x1.2,x3,())) rfl rfl Pe rfl (AB rfl) kr kr (AM (AU (c:=cdI) (v:=x1.2)) (AM (AU (c:=(cdP AA)) (v:=x3)) Af)) kr hv7 ?_;refine Bg (caps:=[]) (xs:=[.v (.int .i64 v6),.v (.int .i64 v7)]) (u:=(v6,v7,())) rfl rfl HF rfl (AB rfl) kr kr (AM (AU (c:=cdI) (v:=v6)) (AM (AU (c:=cdI) (v:=v7)) Af)) kr hv8 ?_;refine AY (n:=28) AC 1 [(6,.v (.int .i64 v8))] [some ⟨10,115,[AH.enc x0],false⟩,some ⟨10,115,[AH.enc x1],false⟩] kr kr ?_;exact RunDS.done rfl (Ae [] trivial ⟨lv,trivial⟩)
  refine AN ?_;have hq:=OI h; subst hq;exact ⟨⟨Fr 28 [(6,.v (.int .i64 v8))],[]⟩,AJ,.inr rfl,[.v (.int .i64 v8)],kr,kr⟩
def Gq:List AV->Option AV:=Dk Cp (fun a=>Az a.1 a.2.1 a.2.2.2.1) Cu
theorem Gu:XOk 209 Gq:=by
 refine AQ Tryz.func209 (c:=Dy) ?h2 ⟨Tryz.call209⟩ Cp (fun a=>Az a.1 a.2.1 a.2.2.2.1) Cu (fun a=>(by show 4<=28; decide)) ?h3 ?h4
 case h2=>kernel_rfl
 case h3=>intro b; kernel_rfl
 case h4=>exact fun a b h=>GV a.1 a.2.1 a.2.2.2.1 b h
/- trestle/court.plain$9 -/
noncomputable def OW:Code:=A3 Tryz.f191
def HU (x0:Int):Option (Int) :=
 some x0
def Ky:Cs (Int×Unit):=(csC cdI csN)
def LL (r:Int):AV:=cdI.enc r
theorem Rj (x0:Int) (r:Int) (h:HU x0=some r):Sem E0 ⟨none,false⟩ OW ⟨Fr 4 (Av 0 (Ky.enc (x0,()))),[]⟩ fun e s'=>(e = .normal\/e = .ret)/\∃ xs,D6 E0.P s'.fr s'.hp Tryz.f191.results.toList=some xs/\EA xs=LL r:=by
 unfold HU at h;refine Aj (A8 (s1:=⟨Fr 4 [(0,.v (.int .i64 x0))],[]⟩) AJ ?_);refine AK AC [(0,.v (.int .i64 x0))] [] ?_;refine AK AC [(2,.v (.int .i64 x0))] [] ?_;refine AN ?_;have hq:=OI h; subst hq;exact ⟨⟨Fr 4 [(2,.v (.int .i64 x0))],[]⟩,AJ,.inr rfl,[.v (.int .i64 x0)],kr,kr⟩
def UP:List AV->Option AV:=Dk Ky (fun a=>HU a.1) LL
theorem Pf:XOk 191 UP:=by
 refine AQ Tryz.func191 (c:=OW) ?h2 ⟨Tryz.call191⟩ Ky (fun a=>HU a.1) LL (fun a=>(by show 1<=4; decide)) ?h3 ?h4
 case h2=>kernel_rfl
 case h3=>intro b; kernel_rfl
 case h4=>exact fun a b h=>Rj a.1 b h
/- trestle/court.placed$2 -/
noncomputable def Dz:Code:=A3 Tryz.f209
def A0 (x0:A6) (x1:A6):Option (Int) :=
 (Dm x0.2).bind fun v1 =>
 (if (!v1)=true then some true else (Dm x1.2).bind fun v2 =>
 some (!v2)).bind fun j4 =>
 if j4=true then
 some 0
 else
 (HU x0.2).bind fun v6 =>
 (HU x1.2).bind fun v7 =>
 (C6 v6 v7).bind fun v8 =>
 some v8
def Cq:Cs (A6×A6×Unit×Unit×Unit):=(csC AH (csC AH (csC (cdP (cdF 208 csN (fun _=>rfl))) (csC (cdP (cdF 191 csN (fun _=>rfl))) csN))))
def Cv (r:Int):AV:=cdI.enc r
theorem GW (x0:A6) (x1:A6) (r:Int) (h:A0 x0 x1=some r):Sem E0 ⟨none,false⟩ Dz ⟨Fr 28 (Av 0 (Cq.enc (x0,x1,(),(),()))),[]⟩ fun e s'=>(e = .normal\/e = .ret)/\∃ xs,D6 E0.P s'.fr s'.hp Tryz.f209.results.toList=some xs/\EA xs=Cv r:=by
 unfold A0 at h;refine Aj (A8 (s1:=⟨Fr 28 [(0,AH.enc x0),(1,AH.enc x1),(2,.pe (.fn 208 [] []) 0),(3,.pe (.fn 191 [] []) 0)],[]⟩) AJ ?_);refine AK AC [(2,.pe (.fn 208 [] []) 0),(3,.pe (.fn 191 [] []) 0),(4,.pt 0 0 0),(5,.pt 1 0 0)] [some ⟨10,115,[AH.enc x0],false⟩,some ⟨10,115,[AH.enc x1],false⟩] ?_;refine AG ?_;refine AG ?_;obtain ⟨v1,hv1,h⟩:=OB h;obtain ⟨j4,hj4,h⟩:=OB h;refine AL (s1:=⟨Fr 28 [(3,.pe (.fn 191 [] []) 0),(4,.pt 0 0 0),(5,.pt 1 0 0),(18,.v (.bool j4))],[some ⟨10,115,[AH.enc x0],false⟩,some ⟨10,115,[AH.enc x1],false⟩]⟩) ?_ ?_
 ·refine AD (n:=28) AC 3 [(2,.pe (.fn 208 [] []) 0),(3,.pe (.fn 191 [] []) 0),(4,.pt 0 0 0),(5,.pt 1 0 0),(7,.fn 208 [] []),(9,.v (.int .i64 x0.2))] [some ⟨10,115,[AH.enc x0],false⟩,some ⟨10,115,[AH.enc x1],false⟩] kr ?_
  refine AR (caps:=[]) (xs:=[.v (.int .i64 x0.2)]) (u:=(x0.2,())) rfl rfl Ij rfl (AB rfl) kr kr (AM (AU (c:=cdI) (v:=x0.2)) Af) (.inl kr) hv1 ?_;refine AD (n:=28) AC 2 [(2,.pe (.fn 208 [] []) 0),(3,.pe (.fn 191 [] []) 0),(4,.pt 0 0 0),(5,.pt 1 0 0),(12,.v (.bool (!v1)))] [some ⟨10,115,[AH.enc x0],false⟩,some ⟨10,115,[AH.enc x1],false⟩] kr ?_;rcases BE (!v1) with hc9 | hc9
  ·rw [if_pos hc9] at hj4
   rw [hc9];refine AD (n:=28) AC 6 [(3,.pe (.fn 191 [] []) 0),(4,.pt 0 0 0),(5,.pt 1 0 0),(18,.v (.bool true))] [some ⟨10,115,[AH.enc x0],false⟩,some ⟨10,115,[AH.enc x1],false⟩] kr ?_;have hq:=OI hj4; subst hq;exact AI rfl (Ae [0,1] ⟨⟨_,rfl,Gy⟩,⟨_,rfl,Gy⟩,trivial⟩ ⟨lv,lv,lv,lv,trivial⟩)
  ·rw [BY hc9] at hj4
   rw [hc9];refine AD (n:=28) AC 3 [(3,.pe (.fn 191 [] []) 0),(4,.pt 0 0 0),(5,.pt 1 0 0),(12,.v (.bool false)),(13,.fn 208 [] []),(15,.v (.int .i64 x1.2))] [some ⟨10,115,[AH.enc x0],false⟩,some ⟨10,115,[AH.enc x1],false⟩] kr ?_;obtain ⟨v2,hv2,hj4⟩:=OB hj4;refine AR (caps:=[]) (xs:=[.v (.int .i64 x1.2)]) (u:=(x1.2,())) rfl rfl Ij rfl kr kr kr (AM (AU (c:=cdI) (v:=x1.2)) Af) (.inl kr) hv2 ?_;refine AD (n:=28) AC 2 [(3,.pe (.fn 191 [] []) 0),(4,.pt 0 0 0),(5,.pt 1 0 0),(18,.v (.bool (!v2)))] [some ⟨10,115,[AH.enc x0],false⟩,some ⟨10,115,[AH.enc x1],false⟩] kr ?_;have hq:=OI hj4; subst hq;exact AI rfl (Ae [0,1] ⟨⟨_,rfl,Gy⟩,⟨_,rfl,Gy⟩,trivial⟩ ⟨lv,lv,lv,lv,trivial⟩)
 refine AP (b:=j4) kr (fun hb5=>?_) (fun hb5=>?_)
 ·rw [if_pos hb5] at h
  refine AG ?_;refine AL (s1:=⟨Fr 28 [(6,.v (.int .i64 0))],[]⟩) ?_ ?_
  ·refine AD (n:=28) AC 1 [(6,.v (.int .i64 0))] [some ⟨10,115,[AH.enc x0],false⟩,some ⟨10,115,[AH.enc x1],false⟩] kr ?_
   exact AI rfl (Ae [] trivial ⟨lv,trivial⟩)
  refine AN ?_;have hq:=OI h; subst hq;exact ⟨⟨Fr 28 [(6,.v (.int .i64 0))],[]⟩,AJ,.inr rfl,[.v (.int .i64 0)],kr,kr⟩
 ·rw [BY hb5] at h
  refine AT ?_;refine AG ?_;obtain ⟨v6,hv6,h⟩:=OB h;obtain ⟨v7,hv7,h⟩:=OB h;obtain ⟨v8,hv8,h⟩:=OB h;refine DI AC (s1:=⟨Fr 28 [(6,.v (.int .i64 v8))],[]⟩) kr ?_ ?_
  ·refine AY (n:=28) AC 3 [(3,.pe (.fn 191 [] []) 0),(5,.pt 1 0 0),(19,.fn 191 [] []),(21,.v (.int .i64 x0.2))] [some ⟨10,115,[AH.enc x0],false⟩,some ⟨10,115,[AH.enc x1],false⟩] kr kr ?_
   refine Bg (caps:=[]) (xs:=[.v (.int .i64 x0.2)]) (u:=(x0.2,())) rfl rfl Pf rfl (AB rfl) kr kr (AM (AU (c:=cdI) (v:=x0.2)) Af) kr hv6 ?_;refine AY (n:=28) AC 3 [(22,.v (.int .i64 v6)),(23,.fn 191 [] []),(25,.v (.int .i64 x1.2))] [some ⟨10,115,[AH.enc x0],false⟩,some ⟨10,115,[AH.enc x1],false⟩] kr kr ?_;refine Bg (caps:=[]) (xs:=[.v (.int .i64 x1.2)]) (u:=(x1.2,())) rfl rfl Pf rfl (AB rfl) kr kr (AM (AU (c:=cdI) (v:=x1.2)) Af) kr hv7 ?_;refine Bg (caps:=[]) (xs:=[.v (.int .i64 v6),.v (.int .i64 v7)]) (u:=(v6,v7,())) rfl rfl HF rfl (AB rfl) kr kr (AM (AU (c:=cdI) (v:=v6)) (AM (AU (c:=cdI) (v:=v7)) Af)) kr hv8 ?_;refine AY (n:=28) AC 1 [(6,.v (.int .i64 v8))] [some ⟨10,115,[AH.enc x0],false⟩,some ⟨10,115,[AH.enc x1],false⟩] kr kr ?_;exact RunDS.done rfl (Ae [] trivial ⟨lv,trivial⟩)
  refine AN ?_;have hq:=OI h; subst hq;exact ⟨⟨Fr 28 [(6,.v (.int .i64 v8))],[]⟩,AJ,.inr rfl,[.v (.int .i64 v8)],kr,kr⟩
def Gr:List AV->Option AV:=Dk Cq (fun a=>A0 a.1 a.2.1) Cv
theorem Gv:XOk 209 Gr:=by
 refine AQ Tryz.func209 (c:=Dz) ?h2 ⟨Tryz.call209⟩ Cq (fun a=>A0 a.1 a.2.1) Cv (fun a=>(by show 4<=28; decide)) ?h3 ?h4
 case h2=>kernel_rfl
 case h3=>intro b; kernel_rfl
 case h4=>exact fun a b h=>GW a.1 a.2.1 b h
theorem ADk {f:FuncId}(hc:Cc E0.P f){α β:Type}(s:Cs α) (F:α->Option β) (er:β->AV) (h:∀ a b,F a=some b->∃ t,XOk f t/\t (s.enc a)=some (er b)):XOk f (Dk s F er):=by
 refine ⟨hc,fun xs y hy w Z us hz hg hv=>?_⟩
 obtain ⟨a,ha,hy⟩:=OB hy
 obtain ⟨b,hb,rfl⟩:=Option.map_eq_some_iff.1 hy
 obtain ⟨t,hX,ht⟩:=h a b hb
 exact hX.2 _ _ ht w Z us hz hg (s.vr ha hv)
def GC (a b:A6) (c:AF):Option Int :=
 if (c.1==1)=true then Co (fun a b (v:(AF×Unit)×Unit)=>DE (fun x (v:AF×Unit)=>Ev x v.1) a b v.1) a b c ((c,()),()) else
 if (c.1==2)=true then Co (fun a b (v:AF×Unit)=>D5 a b v.1) a b c (c,()) else
 if (c.1==3)=true then Co (fun a b (v:AF×Unit)=>D5 a b v.1) a b c (c,()) else
 if (c.1==4)=true then Co (fun a b (v:(AF×AF×Unit)×Unit)=>DE (fun x (v:AF×AF×Unit)=>Bu x v.1 v.2.1) a b v.1) a b c ((c,c,()),()) else
 if (c.1==5)=true then Co (fun a b (v:(Unit×AF×Unit)×Unit)=>DE (fun x (v:Unit×AF×Unit)=>Bv x v.2.1) a b v.1) a b c (((),c,()),()) else
 if (c.1==6)=true then Co (fun a b (v:(AF×AF×Unit)×Unit)=>DE (fun x (v:AF×AF×Unit)=>Be x v.1 v.2.1) a b v.1) a b c ((c,c,()),()) else
 if (c.1==7)=true then Co (fun a b (v:(AF×AF×Unit)×Unit)=>DE (fun x (v:AF×AF×Unit)=>Bf x v.1 v.2.1) a b v.1) a b c ((c,c,()),()) else
 if (c.1==8)=true then Co (fun a b (_:Unit)=>Gg a b) a b c () else
 if (c.1==10)=true then Co (fun a b (v:Unit×AF×Unit)=>Az a b v.2.1) a b c ((),c,()) else
 Co (fun a b (_:Unit×Unit×Unit)=>A0 a b) a b c ((),(),())
noncomputable def JO:Cs (A6×A6×AF):=csC AH (csC AH Ww)
noncomputable def Mp (r:Int):AV:=cdI.enc r
noncomputable def SO:List AV->Option AV:=Dk JO (fun a=>GC a.1 a.2.1 a.2.2) Mp
theorem NN {α β:Type}{s:Cs α}{F:α->Option β}{er:β->AV}{a:α}{b:β}{xs:List AV}(h:F a=some b) (e:xs=s.enc a):Dk s F er xs=some (er b):=e ▸ TV h
theorem ACt (a b:A6) (c:AF):JO.enc (a,b,c)=[AH.enc a,AH.enc b,.pe (AA.enc c) 0,.pe (Q5 c) 0]:=rfl
theorem SX:XOk 165 SO:=by
 refine ADk ⟨Tryz.call165⟩ JO (fun a=>GC a.1 a.2.1 a.2.2) Mp fun x r h=>?_
 obtain ⟨a,b,c⟩:=x
 rw [ACt]
 dsimp only at h
 unfold GC at h
 unfold Q5
 rcases BE (c.1==1) with h1 | h1
 ·rw [if_pos h1] at h; rw [if_pos h1]
  exact ⟨_,DQ (sx:=csC (cdP (cdF 178 (csC (cdP AA) csN) (fun _=>rfl))) csN) (hn:=fun _=>rfl) (G:=fun a b (v:(AF×Unit)×Unit)=>DE (fun x (v:AF×Unit)=>Ev x v.1) a b v.1) (Kb (sx:=csC (cdP AA) csN) (hn:=fun _=>rfl) (G:=fun x (v:AF×Unit)=>Ev x v.1) Ui),NN (a:=(a,b,c,((c,()),()),())) h rfl⟩
 rw [if_neg (by rw [h1]; decide)] at h; rw [if_neg (by rw [h1]; decide)]
 rcases BE (c.1==2) with h1 | h1
 ·rw [if_pos h1] at h; rw [if_pos h1]
  exact ⟨_,DQ (sx:=csC (cdP AA) csN) (hn:=fun _=>rfl) (G:=fun a b (v:AF×Unit)=>D5 a b v.1) Pd,NN (a:=(a,b,c,(c,()),())) h rfl⟩
 rw [if_neg (by rw [h1]; decide)] at h; rw [if_neg (by rw [h1]; decide)]
 rcases BE (c.1==3) with h1 | h1
 ·rw [if_pos h1] at h; rw [if_pos h1]
  exact ⟨_,DQ (sx:=csC (cdP AA) csN) (hn:=fun _=>rfl) (G:=fun a b (v:AF×Unit)=>D5 a b v.1) Pd,NN (a:=(a,b,c,(c,()),())) h rfl⟩
 rw [if_neg (by rw [h1]; decide)] at h; rw [if_neg (by rw [h1]; decide)]
 rcases BE (c.1==4) with h1 | h1
 ·rw [if_pos h1] at h; rw [if_pos h1]
  exact ⟨_,DQ (sx:=csC (cdP (cdF 206 (csC (cdP (cdF 182 (csE (cdP AA)) (fun _=>rfl))) (csC (cdP AA) csN)) (fun _=>rfl))) csN) (hn:=fun _=>rfl) (G:=fun a b (v:(AF×AF×Unit)×Unit)=>DE (fun x (v:AF×AF×Unit)=>Bu x v.1 v.2.1) a b v.1) (Kb (sx:=csC (cdP (cdF 182 (csE (cdP AA)) (fun _=>rfl))) (csC (cdP AA) csN)) (hn:=fun _=>rfl) (G:=fun x (v:AF×AF×Unit)=>Bu x v.1 v.2.1) Kc),NN (a:=(a,b,c,((c,c,()),()),())) h rfl⟩
 rw [if_neg (by rw [h1]; decide)] at h; rw [if_neg (by rw [h1]; decide)]
 rcases BE (c.1==5) with h1 | h1
 ·rw [if_pos h1] at h; rw [if_pos h1]
  exact ⟨_,DQ (sx:=csC (cdP (cdF 206 (csC (cdP (cdF 183 csN (fun _=>rfl))) (csC (cdP AA) csN)) (fun _=>rfl))) csN) (hn:=fun _=>rfl) (G:=fun a b (v:(Unit×AF×Unit)×Unit)=>DE (fun x (v:Unit×AF×Unit)=>Bv x v.2.1) a b v.1) (Kb (sx:=csC (cdP (cdF 183 csN (fun _=>rfl))) (csC (cdP AA) csN)) (hn:=fun _=>rfl) (G:=fun x (v:Unit×AF×Unit)=>Bv x v.2.1) Kd),NN (a:=(a,b,c,(((),c,()),()),())) h rfl⟩
 rw [if_neg (by rw [h1]; decide)] at h; rw [if_neg (by rw [h1]; decide)]
 rcases BE (c.1==6) with h1 | h1
 ·rw [if_pos h1] at h; rw [if_pos h1]
  exact ⟨_,DQ (sx:=csC (cdP (cdF 206 (csC (cdP (cdF 184 (csE (cdP AA)) (fun _=>rfl))) (csC (cdP AA) csN)) (fun _=>rfl))) csN) (hn:=fun _=>rfl) (G:=fun a b (v:(AF×AF×Unit)×Unit)=>DE (fun x (v:AF×AF×Unit)=>Be x v.1 v.2.1) a b v.1) (Kb (sx:=csC (cdP (cdF 184 (csE (cdP AA)) (fun _=>rfl))) (csC (cdP AA) csN)) (hn:=fun _=>rfl) (G:=fun x (v:AF×AF×Unit)=>Be x v.1 v.2.1) Ke),NN (a:=(a,b,c,((c,c,()),()),())) h rfl⟩
 rw [if_neg (by rw [h1]; decide)] at h; rw [if_neg (by rw [h1]; decide)]
 rcases BE (c.1==7) with h1 | h1
 ·rw [if_pos h1] at h; rw [if_pos h1]
  exact ⟨_,DQ (sx:=csC (cdP (cdF 206 (csC (cdP (cdF 186 (csE (cdP AA)) (fun _=>rfl))) (csC (cdP AA) csN)) (fun _=>rfl))) csN) (hn:=fun _=>rfl) (G:=fun a b (v:(AF×AF×Unit)×Unit)=>DE (fun x (v:AF×AF×Unit)=>Bf x v.1 v.2.1) a b v.1) (Kb (sx:=csC (cdP (cdF 186 (csE (cdP AA)) (fun _=>rfl))) (csC (cdP AA) csN)) (hn:=fun _=>rfl) (G:=fun x (v:AF×AF×Unit)=>Bf x v.1 v.2.1) Kf),NN (a:=(a,b,c,((c,c,()),()),())) h rfl⟩
 rw [if_neg (by rw [h1]; decide)] at h; rw [if_neg (by rw [h1]; decide)]
 rcases BE (c.1==8) with h1 | h1
 ·rw [if_pos h1] at h; rw [if_pos h1]
  exact ⟨_,DQ (sx:=csN) (hn:=fun _=>rfl) (G:=fun a b (_:Unit)=>Gg a b) Un,NN (a:=(a,b,c,(),())) h rfl⟩
 rw [if_neg (by rw [h1]; decide)] at h; rw [if_neg (by rw [h1]; decide)]
 rcases BE (c.1==10) with h1 | h1
 ·rw [if_pos h1] at h; rw [if_pos h1]
  exact ⟨_,DQ (sx:=csC (cdP (cdF 208 csN (fun _=>rfl))) (csC (cdP (cdF 190 (csE (cdP AA)) (fun _=>rfl))) csN)) (hn:=fun _=>rfl) (G:=fun a b (v:Unit×AF×Unit)=>Az a b v.2.1) Gu,NN (a:=(a,b,c,((),c,()),())) h rfl⟩
 rw [if_neg (by rw [h1]; decide)] at h; rw [if_neg (by rw [h1]; decide)]
 exact ⟨_,DQ (sx:=csC (cdP (cdF 208 csN (fun _=>rfl))) (csC (cdP (cdF 191 csN (fun _=>rfl))) csN)) (hn:=fun _=>rfl) (G:=fun a b (_:Unit×Unit×Unit)=>A0 a b) Gv,NN (a:=(a,b,c,((),(),()),())) h rfl⟩
/- trestle/court.first[trestle/court.seated,trestle/court.order] -/
noncomputable def DZ:Code:=A3 Tryz.f76
def Au (x0:(List AF)):Nat->(List UInt8)->(List UInt8)->(List UInt8)->Int->Int->(List UInt8)->Bool->Bool->(List (List UInt8))->Int->(List UInt8)->(List UInt8)->(List UInt8)->Int->Int->(List UInt8)->Bool->Bool->(List (List UInt8))->Int->Int->Option ((Unit) ⊕ (Int×Int))
 | 0,_,_,_,_,_,_,_,_,_,_,_,_,_,_,_,_,_,_,_,_,_=>none
 | f + 1,c1,c2,c3,c4,c5,c6,c7,c8,c9,c10,c11,c12,c13,c14,c15,c16,c17,c18,c19,c20,c21 =>
  if (decide (c21 < (x0.length:Int)))=true then
  (idx x0 c21).bind fun v23 =>
  (GC ((c1,c2,c3,c4,c5,c6,c7,c8,c9),c10) ((c11,c12,c13,c14,c15,c16,c17,c18,c19),c20) v23).bind fun v24 =>
  if (v24 != 0)=true then
  some (.inr (c21,v24))
  else
  Au x0 f c1 c2 c3 c4 c5 c6 c7 c8 c9 c10 c11 c12 c13 c14 c15 c16 c17 c18 c19 c20 (wr .i64 (c21 + 1))
  else
  some (.inl ())
def BI (x0:(List AF)) (x1:A6) (x2:A6):Option (Int×Int) :=
 (Au x0 100000 x1.1.1 x1.1.2.1 x1.1.2.2.1 x1.1.2.2.2.1 x1.1.2.2.2.2.1 x1.1.2.2.2.2.2.1 x1.1.2.2.2.2.2.2.1 x1.1.2.2.2.2.2.2.2.1 x1.1.2.2.2.2.2.2.2.2 x1.2 x2.1.1 x2.1.2.1 x2.1.2.2.1 x2.1.2.2.2.1 x2.1.2.2.2.2.1 x2.1.2.2.2.2.2.1 x2.1.2.2.2.2.2.2.1 x2.1.2.2.2.2.2.2.2.1 x2.1.2.2.2.2.2.2.2.2 x2.2 0).bind fun r28 =>
 match r28 with
 | (.inl _w29) =>
  some ((-1),0)
 | (.inr w30) =>
  some (w30.1,w30.2)
noncomputable def Dd:Cs ((List AF)×A6×A6×Unit):=(csC (cdL 1 ER) (csC AH (csC AH csN)))
noncomputable def De (r:Int×Int):AV:= .tp [cdI.enc r.1,cdI.enc r.2]
theorem EU (x0:(List AF)):∀ (f:Nat) (c1:(List UInt8)) (c2:(List UInt8)) (c3:(List UInt8)) (c4:Int) (c5:Int) (c6:(List UInt8)) (c7:Bool) (c8:Bool) (c9:(List (List UInt8))) (c10:Int) (c11:(List UInt8)) (c12:(List UInt8)) (c13:(List UInt8)) (c14:Int) (c15:Int) (c16:(List UInt8)) (c17:Bool) (c18:Bool) (c19:(List (List UInt8))) (c20:Int) (c21:Int) (r:(Unit) ⊕ (Int×Int)),Au x0 f c1 c2 c3 c4 c5 c6 c7 c8 c9 c10 c11 c12 c13 c14 c15 c16 c17 c18 c19 c20 c21=some r->SemN E0 ⟨none,false⟩ (pc DZ [1,0,1,0,0]) f ⟨Fr 27 [(4,.pt 0 0 0),(5,.pt 1 0 0),(11,.sl 1 (x0.map ER.enc)),(12,.v (.int .i64 (x0.length:Int))),(13,.v (.int .i64 c21))],[some ⟨10,115,[.ag [.st c1,.st c2,.st c3,.v (.int .i64 c4),.v (.int .i64 c5),.st c6,.v (.bool c7),.v (.bool c8),.sl 1 (c9.map cdS.enc),.v (.int .i64 c10)]],false⟩,some ⟨10,115,[.ag [.st c11,.st c12,.st c13,.v (.int .i64 c14),.v (.int .i64 c15),.st c16,.v (.bool c17),.v (.bool c18),.sl 1 (c19.map cdS.enc),.v (.int .i64 c20)]],false⟩]⟩ (fun e s=>match r with
 | (.inl _w)=>e=(.exit 0)/\Wk E0 s ⟨Fr 27 [],[]⟩
 | (.inr w)=>e = .ret/\Wk E0 s ⟨Fr 27 [(6,.v (.int .i64 w.1)),(7,.v (.int .i64 w.2))],[]⟩):=by
 intro f;induction f with
 | zero=>intro c1 c2 c3 c4 c5 c6 c7 c8 c9 c10 c11 c12 c13 c14 c15 c16 c17 c18 c19 c20 c21 r h; cases h
 | succ f ih0 =>
  intro c1 c2 c3 c4 c5 c6 c7 c8 c9 c10 c11 c12 c13 c14 c15 c16 c17 c18 c19 c20 c21 r h
  have ih:=fun (c1:(List UInt8)) (c2:(List UInt8)) (c3:(List UInt8)) (c4:Int) (c5:Int) (c6:(List UInt8)) (c7:Bool) (c8:Bool) (c9:(List (List UInt8))) (c10:Int) (c11:(List UInt8)) (c12:(List UInt8)) (c13:(List UInt8)) (c14:Int) (c15:Int) (c16:(List UInt8)) (c17:Bool) (c18:Bool) (c19:(List (List UInt8))) (c20:Int) (c21:Int)=>ih0 c1 c2 c3 c4 c5 c6 c7 c8 c9 c10 c11 c12 c13 c14 c15 c16 c17 c18 c19 c20 c21 r
  unfold Au at h;refine BR ?_
  let p1:Option Blk:=some ⟨10,115,[.ag [.st c11,.st c12,.st c13,.v (.int .i64 c14),.v (.int .i64 c15),.st c16,.v (.bool c17),.v (.bool c18),.sl 1 (c19.map cdS.enc),.v (.int .i64 c20)]],false⟩
  let p2:Option Blk:=some ⟨10,115,[.ag [.st c1,.st c2,.st c3,.v (.int .i64 c4),.v (.int .i64 c5),.st c6,.v (.bool c7),.v (.bool c8),.sl 1 (c9.map cdS.enc),.v (.int .i64 c10)]],false⟩
  let p3:Nat×AV:=(13,.v (.int .i64 c21))
  let p4:Nat×AV:=(12,.v (.int .i64 (x0.length:Int)))
  let p5:Nat×AV:=(11,.sl 1 (x0.map ER.enc))
  let p6:Nat×AV:=(5,.pt 1 0 0)
  let p7:Nat×AV:=(4,.pt 0 0 0)
  refine AK AC [p7,p6,p5,p4,p3,(14,.v (.bool (decide (c21 < (x0.length:Int)))))] [p2,p1] ?_;refine AG ?_;refine AP (b:=(decide (c21 < (x0.length:Int)))) kr (fun hb22=>?_) (fun hb22=>?_)
  ·rw [if_pos hb22] at h
   refine AT ?_;refine AG ?_;refine AZ ?_;refine AG ?_;obtain ⟨v23,hv23,h⟩:=OB h
   let p8:Nat×AV:=(8,.v (.int .i64 c21))
   refine AL (s1:=⟨Fr 27 [p7,p6,p8,(9,ER.enc v23),p5,p4,p3],[p2,p1]⟩) ?_ ?_
   ·refine AD (n:=27) AC 1 [p7,p6,p5,p4,p3,(15,.v (.int .i64 c21))] [p2,p1] kr ?_
    refine AS AC 0 rfl (DH (AB rfl) rfl (AW (a:= .sl 1 (x0.map ER.enc)) (b:= .v (.int .i64 c21)) kr kr (DK (e:=ER.enc) (el:=117) (k:=1) (ki:= .i64) kr kr hv23))) ?_;exact AX AC
   refine AG ?_;obtain ⟨v24,hv24,h⟩:=OB h;refine AL (s1:=⟨Fr 27 [p7,p6,p8,(10,.v (.int .i64 v24)),p5,p4,p3],[p2,p1]⟩) ?_ ?_
   ·refine AD (n:=27) AC 3 [p7,p6,p8,p5,p4,p3,(18,ER.enc v23),(19,.ag [.st c1,.st c2,.st c3,.v (.int .i64 c4),.v (.int .i64 c5),.st c6,.v (.bool c7),.v (.bool c8),.sl 1 (c9.map cdS.enc),.v (.int .i64 c10)]),(20,.ag [.st c11,.st c12,.st c13,.v (.int .i64 c14),.v (.int .i64 c15),.st c16,.v (.bool c17),.v (.bool c18),.sl 1 (c19.map cdS.enc),.v (.int .i64 c20)])] [p2,p1] kr ?_
    refine AR (caps:=[.pe (AA.enc v23) 0,.pe (Q5 v23) 0]) (xs:=[.ag [.st c1,.st c2,.st c3,.v (.int .i64 c4),.v (.int .i64 c5),.st c6,.v (.bool c7),.v (.bool c8),.sl 1 (c9.map cdS.enc),.v (.int .i64 c10)],.ag [.st c11,.st c12,.st c13,.v (.int .i64 c14),.v (.int .i64 c15),.st c16,.v (.bool c17),.v (.bool c18),.sl 1 (c19.map cdS.enc),.v (.int .i64 c20)]]) (u:=(((c1,c2,c3,c4,c5,c6,c7,c8,c9),c10),((c11,c12,c13,c14,c15,c16,c17,c18,c19),c20),v23)) rfl rfl SX rfl (AB rfl) kr kr (AM (AU (c:=AH) (v:=((c1,c2,c3,c4,c5,c6,c7,c8,c9),c10))) (AM (AU (c:=AH) (v:=((c11,c12,c13,c14,c15,c16,c17,c18,c19),c20))) (Vk (n:=10) (s:=Ww) (a:=v23)))) (.inl kr) hv24 ?_;exact AX AC
   refine AK AC [p7,p6,p8,(10,.v (.int .i64 v24)),p5,p4,p3,(23,.v (.bool (v24 != 0)))] [p2,p1] ?_;refine AP (b:=(v24 != 0)) kr (fun hb25=>?_) (fun hb25=>?_)
   ·rw [if_pos hb25] at h
    refine AG ?_;refine AL (s1:=⟨Fr 27 [(6,.v (.int .i64 c21)),(7,.v (.int .i64 v24))],[]⟩) ?_ ?_
    ·refine AD (n:=27) AC 4 [(6,.v (.int .i64 c21)),(7,.v (.int .i64 v24))] [p2,p1] kr ?_
     exact AI rfl (Ae [] trivial ⟨lv,lv,trivial⟩)
    refine AN ?_;have hq:=OI h; subst hq;exact ⟨rfl,AJ⟩
   ·rw [BY hb25] at h
    refine AT ?_
    let p9:Nat×AV:=(13,.v (.int .i64 (wr .i64 (c21 + 1))))
    refine Ci AC [p7,p6,p5,p4,p9] [p2,p1] ?_;exact Ab (s1:=⟨Fr 27 [p7,p6,p5,p4,p9],[p2,p1]⟩) (Ae [0,1] ⟨⟨_,rfl,Gy⟩,⟨_,rfl,Gy⟩,trivial⟩ ⟨lv,lv,lv,lv,lv,trivial⟩) (ih c1 c2 c3 c4 c5 c6 c7 c8 c9 c10 c11 c12 c13 c14 c15 c16 c17 c18 c19 c20 (wr .i64 (c21 + 1)) h)
  ·rw [BY hb22] at h
   refine Bi ?_;have hq:=OI h; subst hq;exact ⟨rfl,(Ae [] trivial trivial)⟩
theorem Hs (x0:(List AF)) (x1:A6) (x2:A6) (r:Int×Int) (h:BI x0 x1 x2=some r):Sem E0 ⟨none,false⟩ DZ ⟨Fr 27 (Av 0 (Dd.enc (x0,x1,x2,()))),[]⟩ fun e s'=>(e = .normal\/e = .ret)/\∃ xs,D6 E0.P s'.fr s'.hp Tryz.f76.results.toList=some xs/\EA xs=De r:=by
 unfold BI at h;refine Aj (A8 (s1:=⟨Fr 27 [(0,.sl 1 (x0.map ER.enc)),(1,AH.enc x1),(2,AH.enc x2)],[]⟩) AJ ?_)
 let p1:Option Blk:=some ⟨10,115,[AH.enc x2],false⟩
 let p2:Option Blk:=some ⟨10,115,[AH.enc x1],false⟩
 let p3:Nat×AV:=(5,.pt 1 0 0)
 let p4:Nat×AV:=(4,.pt 0 0 0)
 refine AK AC [(0,.sl 1 (x0.map ER.enc)),p4,p3] [p2,p1] ?_;refine AG ?_;refine AG ?_
 let p5:Nat×AV:=(13,.v (.int .i64 0))
 let p6:Nat×AV:=(12,.v (.int .i64 (x0.length:Int)))
 let p7:Nat×AV:=(11,.sl 1 (x0.map ER.enc))
 refine AL (s1:=⟨Fr 27 [p4,p3,p7,p6,p5],[p2,p1]⟩) ?_ ?_
 ·refine AD (n:=27) AC 1 [p4,p3,p7] [p2,p1] kr ?_
  refine AS AC 0 rfl (DH (AB rfl) rfl (CX (a:= .sl 1 (x0.map ER.enc)) kr (BS (el:=117) kr))) ?_;exact AX AC
 refine AZ ?_;obtain ⟨r28,hr28,h⟩:=OB h;refine Bj (n:=100000) ?_;rcases r28 with w29 | w30
 ·try dsimp only at h
  refine Ao (Ab (s1:=⟨Fr 27 [p4,p3,p7,p6,p5],[p2,p1]⟩) (Ae [0,1] ⟨⟨_,rfl,Gy⟩,⟨_,rfl,Gy⟩,trivial⟩ ⟨lv,lv,lv,lv,lv,trivial⟩) (EU x0 _ x1.1.1 x1.1.2.1 x1.1.2.2.1 x1.1.2.2.2.1 x1.1.2.2.2.2.1 x1.1.2.2.2.2.2.1 x1.1.2.2.2.2.2.2.1 x1.1.2.2.2.2.2.2.2.1 x1.1.2.2.2.2.2.2.2.2 x1.2 x2.1.1 x2.1.2.1 x2.1.2.2.1 x2.1.2.2.2.1 x2.1.2.2.2.2.1 x2.1.2.2.2.2.2.1 x2.1.2.2.2.2.2.2.1 x2.1.2.2.2.2.2.2.2.1 x2.1.2.2.2.2.2.2.2.2 x2.2 0 _ hr28)) ?_;refine AK AC [(6,.v (.int .i64 (-1))),(7,.v (.int .i64 0))] [] ?_;refine AN ?_;have hq:=OI h; subst hq;exact ⟨⟨Fr 27 [(6,.v (.int .i64 (-1))),(7,.v (.int .i64 0))],[]⟩,AJ,.inr rfl,[.v (.int .i64 (-1)),.v (.int .i64 0)],kr,kr⟩
 ·try dsimp only at h
  refine Ao (Ab (s1:=⟨Fr 27 [p4,p3,p7,p6,p5],[p2,p1]⟩) (Ae [0,1] ⟨⟨_,rfl,Gy⟩,⟨_,rfl,Gy⟩,trivial⟩ ⟨lv,lv,lv,lv,lv,trivial⟩) (EU x0 _ x1.1.1 x1.1.2.1 x1.1.2.2.1 x1.1.2.2.2.1 x1.1.2.2.2.2.1 x1.1.2.2.2.2.2.1 x1.1.2.2.2.2.2.2.1 x1.1.2.2.2.2.2.2.2.1 x1.1.2.2.2.2.2.2.2.2 x1.2 x2.1.1 x2.1.2.1 x2.1.2.2.1 x2.1.2.2.2.1 x2.1.2.2.2.2.1 x2.1.2.2.2.2.2.1 x2.1.2.2.2.2.2.2.1 x2.1.2.2.2.2.2.2.2.1 x2.1.2.2.2.2.2.2.2.2 x2.2 0 _ hr28)) ?_;have hq:=OI h; subst hq;exact ⟨⟨Fr 27 [(6,.v (.int .i64 w30.1)),(7,.v (.int .i64 w30.2))],[]⟩,AJ,.inr rfl,[.v (.int .i64 w30.1),.v (.int .i64 w30.2)],kr,kr⟩
noncomputable def II:List AV->Option AV:=Dk Dd (fun a=>BI a.1 a.2.1 a.2.2.1) De
theorem IJ:XOk 76 II:=by
 refine AQ Tryz.func76 (c:=DZ) ?h2 ⟨Tryz.call76⟩ Dd (fun a=>BI a.1 a.2.1 a.2.2.1) De (fun a=>(by show 3<=27; decide)) ?h3 ?h4
 case h2=>kernel_rfl
 case h3=>intro b; kernel_rfl
 case h4=>exact fun a b h=>Hs a.1 a.2.1 a.2.2.1 b h
/- trestle/court.table -/
noncomputable def Ft:Code:=A3 Tryz.f107
def EG (x1:(List Ai)):Nat->Int->(List (List Int))->Option (((List (List Int))))
 | 0,_,_=>none
 | f + 1,c15,c16 =>
  if (decide (c15 < ((List.replicate (x1.length:Int).toNat ([]:(List Int))).length:Int)))=true then
  if (YA 8 (x1.length:Int))=true then
  (idx c16 c15).bind fun _v23 =>
  EG x1 f (wr .i64 (c15 + 1)) (c16.set c15.toNat (List.replicate (x1.length:Int).toNat (0:Int)))
  else none
  else
  some c16
def KF (c40:Int) (c43:Int) (c44:(List (List Int))) (v48:Int×Int):Option (((List (List Int)))) :=
 if (v48.2==1)=true then
 (idx c44 c43).bind fun v63 =>
 (idx v63 c40).bind fun v67 =>
 (idx v63 c40).bind fun _v68 =>
 some (c44.set c43.toNat (v63.set c40.toNat (wr .i64 (v67 + 1))))
 else
 some c44
def Ic (c40:Int) (c43:Int) (c44:(List (List Int))) (v48:Int×Int):Option (((List (List Int)))) :=
 if (v48.2==(-1))=true then
 (idx c44 c40).bind fun v50 =>
 (idx v50 c43).bind fun v54 =>
 (idx v50 c43).bind fun _v55 =>
 some (c44.set c40.toNat (v50.set c43.toNat (wr .i64 (v54 + 1))))
 else
 (KF c40 c43 c44 v48).bind fun r75 =>
 some r75
def D2 (v32:(List A6)) (v37:(List AF)×Bool) (c40:Int):Nat->Int->(List (List Int))->Option (((List (List Int))))
 | 0,_,_=>none
 | f + 1,c43,c44 =>
  if (decide (c43 < c40))=true then
  (idx v32 c40).bind fun v46 =>
  (idx v32 c43).bind fun v47 =>
  (BI v37.1 v46 v47).bind fun v48 =>
  (Ic c40 c43 c44 v48).bind fun r78 =>
  D2 v32 v37 c40 f (wr .i64 (c43 + 1)) r78
  else
  some c44
def D1 (v32:(List A6)) (v37:(List AF)×Bool):Nat->Int->(List (List Int))->Option (((List (List Int))))
 | 0,_,_=>none
 | f + 1,c40,c41 =>
  if (decide (c40 < (v32.length:Int)))=true then
  (D2 v32 v37 c40 100000 0 c41).bind fun r82 =>
  D1 v32 v37 f (wr .i64 (c40 + 1)) r82
  else
  some c41
def Gj (x0:(List (List AF))) (v32:(List A6)):Nat->Int->(List (List Int))->Option (((List (List Int))) ⊕ (Unit))
 | 0,_,_=>none
 | f + 1,c33,c34 =>
  if (decide (c33 < (x0.length:Int)))=true then
  (idx x0 c33).bind fun v36 =>
  (Hv v36).bind fun v37 =>
  if (!v37.2)=true then
  some (.inr ())
  else
  (D1 v32 v37 100000 0 c34).bind fun r86 =>
  Gj x0 v32 f (wr .i64 (c33 + 1)) r86
  else
  some (.inl c34)
def HV (x0:(List (List AF))) (x1:(List Ai)):Option ((List (List Int))×Bool) :=
 (if (decide ((x0.length:Int) > 16))=true then some true else some (decide ((x1.length:Int) > 64))).bind fun j1 =>
 if j1=true then
 some (([]:(List (List Int))),false)
 else
 if (YA 24 (x1.length:Int))=true then
 (EG x1 100000 0 (List.replicate (x1.length:Int).toNat ([]:(List Int)))).bind fun r29 =>
 (Jt x1).bind fun v32 =>
 (Gj x0 v32 100000 0 r29).bind fun r90 =>
 match r90 with
 | (.inl w91) =>
  some (w91,true)
 | (.inr _w97) =>
  some (([]:(List (List Int))),false)
 else none
theorem Rm {L:List Asn}(x1:(List Ai)) (x0:(List (List AF))) (e14:AV):∀ (f:Nat) (c15:Int) (c16:(List (List Int))) (r:((List (List Int)))),EG x1 f c15 c16=some r->∀ (hp:Hp),T hp ((own_ (ocL 1 48 (ocL 1 3 (ocV cdI))) e14 c16)::L)->SemYN E0 ⟨none,false⟩ (pc Ft [1,1,1,0,1,0,0]) f ⟨Fr 104 [(0,.sl 1 (x0.map (cdL 5 AA).enc)),(1,.sl 9 (x1.map AE.enc)),(6,e14),(29,.v (.int .i64 ((List.replicate (x1.length:Int).toNat ([]:(List Int))).length:Int))),(30,.v (.int .i64 c15))],hp⟩ (fun e s=>e=(.exit 0)/\∃ s2,(∃ (h':Hp),T h' ((own_ (ocL 1 48 (ocL 1 3 (ocV cdI))) e14 r)::L)/\s2=⟨Fr 104 [(0,.sl 1 (x0.map (cdL 5 AA).enc)),(1,.sl 9 (x1.map AE.enc)),(6,e14)],h'⟩)/\WkY E0 s s2):=by
 intro f;induction f with
 | zero=>intro c15 c16 r h; cases h
 | succ f ih0 =>
  intro c15 c16 r h  hp hT;unfold EG at h;refine Gb ?_
  let p1:Nat×AV:=(30,.v (.int .i64 c15))
  let p2:Nat×AV:=(29,.v (.int .i64 ((List.replicate (x1.length:Int).toNat ([]:(List Int))).length:Int)))
  let p3:Nat×AV:=(1,.sl 9 (x1.map AE.enc))
  let p4:Nat×AV:=(0,.sl 1 (x0.map (cdL 5 AA).enc))
  refine CR AC [p4,p3,(6,e14),p2,p1,(31,.v (.bool (decide (c15 < ((List.replicate (x1.length:Int).toNat ([]:(List Int))).length:Int)))))] ?_;refine BK ?_;refine Du (b:=(decide (c15 < ((List.replicate (x1.length:Int).toNat ([]:(List Int))).length:Int)))) kr (fun hb17=>?_) (fun hb17=>?_)
  ·rw [if_pos hb17] at h
   refine SemY.skip ?_;refine BK ?_;refine Ch ?_;refine CR AC [p4,p3,(6,e14),(7,.v (.int .i64 c15)),p2,p1] ?_;refine As ?_;refine Bd AC 3 ?_;refine Bq AC 0 rfl (DH (AB rfl) rfl (CX (a:= .sl 9 (x1.map AE.enc)) kr (BS (el:=42) kr))) ?_;by_cases hk18:(YA 8 (x1.length:Int))=true
   case neg=>rw [if_neg hk18] at h; cases h
   rw [if_pos hk18] at h;obtain ⟨e22,hp19,hb20,hT21⟩:=XD (P:=Tryz.prog) (o:=(ocV cdI)) (k:=1) (t:=3) (ty:=48) (bytes:=8) (kn:= .i64) (kc:= .i64) (m:=(x1.length:Int)) (x0:=0) hT (fun _=>⟨rfl,rfl⟩) kr kr hk18;refine Bq AC 0 rfl (AAz (AB rfl) rfl kr (AAG (x:= .v (.int .i64 (x1.length:Int))) (y:= .v (.int .i64 (x1.length:Int))) kr kr hb20)) ?_;obtain ⟨v23,hv23,h⟩:=OB h
   have hT24:=(hT21.front 1 rfl)
   refine Bq AC 0 rfl (DH (AB rfl) rfl (AW (a:=e14) (b:= .v (.int .i64 c15)) kr kr (ADA (bytes:=24) hT24 kr hv23))) ?_;obtain ⟨hp25,hs26,hT27⟩:=ABu (P:=Tryz.prog) (ty:=48) AES hT24 (Oj hv23).2 kr;refine RunL.store AC (y:=eAt e14 c15.toNat) (z:=e22) rfl (AB rfl) kr kr hs26 ?_;refine Cb rfl (SemY.fr (l':=[p4,p3,(6,e14),p2,p1]) kr ?_);refine As ?_;refine Bd AC 2 ?_;refine Cb rfl ?_;exact D3 WkY.f1 (ih0 (wr .i64 (c15 + 1)) (c16.set c15.toNat (List.replicate (x1.length:Int).toNat (0:Int))) _ h  hp25 hT27)
  ·rw [BY hb17] at h
   refine SemY.exit ?_;have hq:=OI h; subst hq;exact ⟨rfl,_,⟨hp,hT,rfl⟩,WkY.f1⟩
theorem Rl {L:List Asn}{hp:Hp}(c40:Int) (c43:Int) (c44:(List (List Int))) (v48:Int×Int) (x0:(List (List AF))) (e14:AV) (v32:(List A6)) (c33:Int) (v37:(List AF)×Bool) (r:((List (List Int)))) (h:KF c40 c43 c44 v48=some r) (hT:T hp ((own_ (ocL 1 48 (ocL 1 3 (ocV cdI))) e14 c44)::L)):SemY E0 ⟨none,false⟩ (pc Ft [1,1,1,1,1,0,1,0,0,1,1,0,0,1,1,1,1,0,0,1,1,0,0,1,1,0,0,1,1,0,0,1,1,1,0,1,1,1]) ⟨Fr 104 [(6,e14),(8,.sl 10 (v32.map AH.enc)),(11,.sl 1 (v37.1.map ER.enc)),(13,.v (.int .i64 c40)),(14,.v (.int .i64 c43)),(42,.sl 1 (x0.map (cdL 5 AA).enc)),(43,.v (.int .i64 (x0.length:Int))),(44,.v (.int .i64 c33)),(56,.v (.int .i64 (v32.length:Int))),(57,.v (.int .i64 c40)),(60,.v (.int .i64 c40)),(61,.v (.int .i64 c43)),(89,.v (.bool (v48.2==1)))],hp⟩ (fun e s=>e = .normal/\∃ s2,(∃ (h':Hp),T h' ((own_ (ocL 1 48 (ocL 1 3 (ocV cdI))) e14 r)::L)/\s2=⟨Fr 104 [(6,e14),(8,.sl 10 (v32.map AH.enc)),(11,.sl 1 (v37.1.map ER.enc)),(13,.v (.int .i64 c40)),(42,.sl 1 (x0.map (cdL 5 AA).enc)),(43,.v (.int .i64 (x0.length:Int))),(44,.v (.int .i64 c33)),(56,.v (.int .i64 (v32.length:Int))),(57,.v (.int .i64 c40)),(60,.v (.int .i64 c40)),(61,.v (.int .i64 c43))],h'⟩)/\WkY E0 s s2):=by
 unfold KF at h;refine Du (b:=(v48.2==1)) kr (fun hb62=>?_) (fun hb62=>?_)
 ·rw [if_pos hb62] at h
  refine As ?_;refine Bd AC 2 ?_;obtain ⟨v63,hv63,h⟩:=OB h;refine Bq AC 0 rfl (DH (AB rfl) rfl (AW (a:=e14) (b:= .v (.int .i64 c43)) kr kr (ADA (bytes:=24) hT kr hv63))) ?_;obtain ⟨e64,hl65,hT66⟩:=Yj (P:=Tryz.prog) (ty:=48) hT (Oj hv63).2 kr kr;refine Bq AC 0 rfl (DH (AB rfl) rfl (T2 (p:=eAt e14 c43.toNat) kr hl65)) ?_;refine Bd AC 1 ?_;obtain ⟨v67,hv67,h⟩:=OB h;refine Bq AC 0 rfl (DH (AB rfl) rfl (AW (a:=e64) (b:= .v (.int .i64 c40)) kr kr (ADA (bytes:=8) hT66 kr hv67))) ?_;refine Bq AC 0 rfl (DH (AB rfl) rfl (T2 (p:=eAt e64 c40.toNat) kr (AAC (y:= .v (.int .i64 v67)) (m:=1) (g:=false) hT66 (Oj hv67).2 kr kr kr))) ?_;refine Bd AC 1 ?_;obtain ⟨v68,hv68,h⟩:=OB h;refine Bq AC 0 rfl (DH (AB rfl) rfl (AW (a:=e64) (b:= .v (.int .i64 c40)) kr kr (ADA (bytes:=8) hT66 kr hv68))) ?_;obtain ⟨hp69,hs70,hT71⟩:=AAj (P:=Tryz.prog) (ty:=3) (y:= .v (.int .i64 (wr .i64 (v67 + 1)))) (v':=(wr .i64 (v67 + 1))) hT66 (Oj hv68).2 kr kr kr;refine RunL.store AC (y:=eAt e64 c40.toNat) (z:= .v (.int .i64 (wr .i64 (v67 + 1)))) rfl (AB rfl) kr kr hs70 ?_;refine Cb rfl ?_;have hq:=OI h; subst hq
  have hT74:=(Zb hT71)
  exact ⟨rfl,_,⟨hp69,hT74,rfl⟩,WkY.f1⟩
 ·rw [BY hb62] at h
  refine SemY.skip ?_;have hq:=OI h; subst hq;exact ⟨rfl,_,⟨hp,hT,rfl⟩,WkY.f1⟩
theorem Rk {L:List Asn}{hp:Hp}(c40:Int) (c43:Int) (c44:(List (List Int))) (v48:Int×Int) (x0:(List (List AF))) (e14:AV) (v32:(List A6)) (c33:Int) (v37:(List AF)×Bool) (r:((List (List Int)))) (h:Ic c40 c43 c44 v48=some r) (hT:T hp ((own_ (ocL 1 48 (ocL 1 3 (ocV cdI))) e14 c44)::L)):SemY E0 ⟨none,false⟩ (pc Ft [1,1,1,1,1,0,1,0,0,1,1,0,0,1,1,1,1,0,0,1,1,0,0,1,1,0,0,1,1,0,0,1,1,1,0,1]) ⟨Fr 104 [(6,e14),(8,.sl 10 (v32.map AH.enc)),(11,.sl 1 (v37.1.map ER.enc)),(13,.v (.int .i64 c40)),(14,.v (.int .i64 c43)),(42,.sl 1 (x0.map (cdL 5 AA).enc)),(43,.v (.int .i64 (x0.length:Int))),(44,.v (.int .i64 c33)),(56,.v (.int .i64 (v32.length:Int))),(57,.v (.int .i64 c40)),(60,.v (.int .i64 c40)),(61,.v (.int .i64 c43)),(77,.v (.int .i64 v48.2)),(78,.v (.bool (v48.2==(-1))))],hp⟩ (fun e s=>e = .normal/\∃ s2,(∃ (h':Hp),T h' ((own_ (ocL 1 48 (ocL 1 3 (ocV cdI))) e14 r)::L)/\s2=⟨Fr 104 [(6,e14),(8,.sl 10 (v32.map AH.enc)),(11,.sl 1 (v37.1.map ER.enc)),(13,.v (.int .i64 c40)),(42,.sl 1 (x0.map (cdL 5 AA).enc)),(43,.v (.int .i64 (x0.length:Int))),(44,.v (.int .i64 c33)),(56,.v (.int .i64 (v32.length:Int))),(57,.v (.int .i64 c40)),(60,.v (.int .i64 c40)),(61,.v (.int .i64 c43))],h'⟩)/\WkY E0 s s2):=by
 unfold Ic at h;refine Du (b:=(v48.2==(-1))) kr (fun hb49=>?_) (fun hb49=>?_)
 ·rw [if_pos hb49] at h
  refine As ?_;refine Bd AC 2 ?_;obtain ⟨v50,hv50,h⟩:=OB h;refine Bq AC 0 rfl (DH (AB rfl) rfl (AW (a:=e14) (b:= .v (.int .i64 c40)) kr kr (ADA (bytes:=24) hT kr hv50))) ?_;obtain ⟨e51,hl52,hT53⟩:=Yj (P:=Tryz.prog) (ty:=48) hT (Oj hv50).2 kr kr;refine Bq AC 0 rfl (DH (AB rfl) rfl (T2 (p:=eAt e14 c40.toNat) kr hl52)) ?_;refine Bd AC 1 ?_;obtain ⟨v54,hv54,h⟩:=OB h;refine Bq AC 0 rfl (DH (AB rfl) rfl (AW (a:=e51) (b:= .v (.int .i64 c43)) kr kr (ADA (bytes:=8) hT53 kr hv54))) ?_;refine Bq AC 0 rfl (DH (AB rfl) rfl (T2 (p:=eAt e51 c43.toNat) kr (AAC (y:= .v (.int .i64 v54)) (m:=1) (g:=false) hT53 (Oj hv54).2 kr kr kr))) ?_;refine Bd AC 1 ?_;obtain ⟨v55,hv55,h⟩:=OB h;refine Bq AC 0 rfl (DH (AB rfl) rfl (AW (a:=e51) (b:= .v (.int .i64 c43)) kr kr (ADA (bytes:=8) hT53 kr hv55))) ?_;obtain ⟨hp56,hs57,hT58⟩:=AAj (P:=Tryz.prog) (ty:=3) (y:= .v (.int .i64 (wr .i64 (v54 + 1)))) (v':=(wr .i64 (v54 + 1))) hT53 (Oj hv55).2 kr kr kr;refine RunL.store AC (y:=eAt e51 c43.toNat) (z:= .v (.int .i64 (wr .i64 (v54 + 1)))) rfl (AB rfl) kr kr hs57 ?_;refine Cb rfl ?_;have hq:=OI h; subst hq
  have hT61:=(Zb hT58)
  exact ⟨rfl,_,⟨hp56,hT61,rfl⟩,WkY.f1⟩
 ·rw [BY hb49] at h
  refine CR AC [(6,e14),(8,.sl 10 (v32.map AH.enc)),(11,.sl 1 (v37.1.map ER.enc)),(13,.v (.int .i64 c40)),(14,.v (.int .i64 c43)),(42,.sl 1 (x0.map (cdL 5 AA).enc)),(43,.v (.int .i64 (x0.length:Int))),(44,.v (.int .i64 c33)),(56,.v (.int .i64 (v32.length:Int))),(57,.v (.int .i64 c40)),(60,.v (.int .i64 c40)),(61,.v (.int .i64 c43)),(89,.v (.bool (v48.2==1)))] ?_;obtain ⟨r75,hr75,h⟩:=OB h;refine Lx (Rl c40 c43 c44 v48 x0 e14 v32 c33 v37 _ hr75 hT) ?_;rintro _ ⟨hp76,hT77,rfl⟩;have hq:=OI h; subst hq;exact ⟨rfl,_,⟨hp76,hT77,rfl⟩,WkY.f1⟩
theorem Ro {L:List Asn}(v32:(List A6)) (v37:(List AF)×Bool) (c40:Int) (x0:(List (List AF))) (e14:AV) (c33:Int):∀ (f:Nat) (c43:Int) (c44:(List (List Int))) (r:((List (List Int)))),D2 v32 v37 c40 f c43 c44=some r->∀ (hp:Hp),T hp ((own_ (ocL 1 48 (ocL 1 3 (ocV cdI))) e14 c44)::L)->SemYN E0 ⟨none,false⟩ (pc Ft [1,1,1,1,1,0,1,0,0,1,1,0,0,1,1,1,1,0,0,1,1,0,0,1,1,0,0]) f ⟨Fr 104 [(6,e14),(8,.sl 10 (v32.map AH.enc)),(11,.sl 1 (v37.1.map ER.enc)),(13,.v (.int .i64 c40)),(42,.sl 1 (x0.map (cdL 5 AA).enc)),(43,.v (.int .i64 (x0.length:Int))),(44,.v (.int .i64 c33)),(56,.v (.int .i64 (v32.length:Int))),(57,.v (.int .i64 c40)),(60,.v (.int .i64 c40)),(61,.v (.int .i64 c43))],hp⟩ (fun e s=>e=(.exit 6)/\∃ s2,(∃ (h':Hp),T h' ((own_ (ocL 1 48 (ocL 1 3 (ocV cdI))) e14 r)::L)/\s2=⟨Fr 104 [(6,e14),(8,.sl 10 (v32.map AH.enc)),(11,.sl 1 (v37.1.map ER.enc)),(42,.sl 1 (x0.map (cdL 5 AA).enc)),(43,.v (.int .i64 (x0.length:Int))),(44,.v (.int .i64 c33)),(56,.v (.int .i64 (v32.length:Int))),(57,.v (.int .i64 c40))],h'⟩)/\WkY E0 s s2):=by
 intro f;induction f with
 | zero=>intro c43 c44 r h; cases h
 | succ f ih0 =>
  intro c43 c44 r h  hp hT;unfold D2 at h;refine Gb ?_
  let p1:Nat×AV:=(61,.v (.int .i64 c43))
  let p2:Nat×AV:=(60,.v (.int .i64 c40))
  let p3:Nat×AV:=(57,.v (.int .i64 c40))
  let p4:Nat×AV:=(56,.v (.int .i64 (v32.length:Int)))
  let p5:Nat×AV:=(44,.v (.int .i64 c33))
  let p6:Nat×AV:=(43,.v (.int .i64 (x0.length:Int)))
  let p7:Nat×AV:=(42,.sl 1 (x0.map (cdL 5 AA).enc))
  let p8:Nat×AV:=(13,.v (.int .i64 c40))
  let p9:Nat×AV:=(11,.sl 1 (v37.1.map ER.enc))
  let p10:Nat×AV:=(8,.sl 10 (v32.map AH.enc))
  refine CR AC [(6,e14),p10,p9,p8,p7,p6,p5,p4,p3,p2,p1,(62,.v (.bool (decide (c43 < c40))))] ?_;refine BK ?_;refine Du (b:=(decide (c43 < c40))) kr (fun hb45=>?_) (fun hb45=>?_)
  ·rw [if_pos hb45] at h
   refine SemY.skip ?_;refine BK ?_;refine Ch ?_
   let p11:Nat×AV:=(14,.v (.int .i64 c43))
   refine CR AC [(6,e14),p10,p9,p8,p11,p7,p6,p5,p4,p3,p2,p1] ?_;refine BK ?_;refine Y4 15 AC.mixed kr kr ?_;refine RunDT.q (x:= .sl 1 (v37.1.map ER.enc)) rfl kr rfl (AB rfl) rfl kr kr ?_;refine RunDT.q (x:= .sl 10 (v32.map AH.enc)) rfl kr rfl (AB rfl) rfl kr kr ?_;refine RunDT.q (x:= .v (.int .i64 c40)) rfl kr rfl (AB rfl) rfl kr kr ?_;obtain ⟨v46,hv46,h⟩:=OB h;refine RunDT.q (x:= .pe (AH.enc v46) 0) rfl kr rfl (AB rfl) rfl (AW (a:= .sl 10 (v32.map AH.enc)) (b:= .v (.int .i64 c40)) kr kr (DK (e:=AH.enc) (el:=115) (k:=10) (ki:= .i64) kr kr hv46)) kr ?_;refine RunDT.q (x:=(AH.enc v46)) rfl kr rfl (AB rfl) rfl kr kr ?_;refine RunDT.q (x:= .sl 10 (v32.map AH.enc)) rfl kr rfl (AB rfl) rfl kr kr ?_;refine RunDT.q (x:= .v (.int .i64 c43)) rfl kr rfl (AB rfl) rfl kr kr ?_;obtain ⟨v47,hv47,h⟩:=OB h;refine RunDT.q (x:= .pe (AH.enc v47) 0) rfl kr rfl (AB rfl) rfl (AW (a:= .sl 10 (v32.map AH.enc)) (b:= .v (.int .i64 c43)) kr kr (DK (e:=AH.enc) (el:=115) (k:=10) (ki:= .i64) kr kr hv47)) kr ?_;refine RunDT.q (x:=(AH.enc v47)) rfl kr rfl (AB rfl) rfl kr kr ?_;obtain ⟨v48,hv48,h⟩:=OB h;refine Xj (v:=v48) (caps:=[]) (xs:=[.sl 1 (v37.1.map ER.enc),AH.enc v46,AH.enc v47]) (u:=(v37.1,v46,v47,())) rfl rfl IJ rfl (AB rfl) kr kr (Bp (C8 (c:=(cdL 1 ER)) (v:=v37.1)) (Bp (C8 (c:=AH) (v:=v46)) (Bp (C8 (c:=AH) (v:=v47)) SeesD.nil))) kr hv48 ?_;refine RunDT.q (x:= .tp [.v (.int .i64 v48.1),.v (.int .i64 v48.2)]) rfl kr rfl (AB rfl) rfl kr kr ?_;refine RunDT.q (x:= .v (.int .i64 v48.1)) rfl kr rfl (AB rfl) rfl kr kr ?_;refine RunDT.q (x:= .v (.int .i64 v48.2)) rfl kr rfl (AB rfl) rfl kr kr ?_;refine RunDT.q (x:= .v (.int .i64 v48.1)) rfl kr rfl (AB rfl) rfl kr kr ?_;refine RunDT.q (x:= .v (.int .i64 v48.2)) rfl kr rfl (AB rfl) rfl kr kr ?_;refine RunDT.done rfl (SemY.fr (l':=[(6,e14),p10,p9,p8,p11,(16,.v (.int .i64 v48.2)),p7,p6,p5,p4,p3,p2,p1]) kr ?_);refine CR AC [(6,e14),p10,p9,p8,p11,p7,p6,p5,p4,p3,p2,p1,(77,.v (.int .i64 v48.2))] ?_
   refine Ch ?_;refine CR AC [(6,e14),p10,p9,p8,p11,p7,p6,p5,p4,p3,p2,p1,(77,.v (.int .i64 v48.2)),(78,.v (.bool (v48.2==(-1))))] ?_;obtain ⟨r78,hr78,h⟩:=OB h;refine Lx (Rk c40 c43 c44 v48 x0 e14 v32 c33 v37 _ hr78 hT) ?_;rintro _ ⟨hp79,hT80,rfl⟩;refine As ?_;refine Bd AC 2 ?_;refine Cb rfl ?_;exact D3 WkY.f1 (ih0 (wr .i64 (c43 + 1)) r78 _ h  hp79 hT80)
  ·rw [BY hb45] at h
   refine SemY.exit ?_;have hq:=OI h; subst hq;exact ⟨rfl,_,⟨hp,hT,rfl⟩,WkY.f1⟩
theorem Rn {L:List Asn}(v32:(List A6)) (v37:(List AF)×Bool) (x0:(List (List AF))) (e14:AV) (c33:Int):∀ (f:Nat) (c40:Int) (c41:(List (List Int))) (r:((List (List Int)))),D1 v32 v37 f c40 c41=some r->∀ (hp:Hp),T hp ((own_ (ocL 1 48 (ocL 1 3 (ocV cdI))) e14 c41)::L)->SemYN E0 ⟨none,false⟩ (pc Ft [1,1,1,1,1,0,1,0,0,1,1,0,0,1,1,1,1,0,0]) f ⟨Fr 104 [(6,e14),(8,.sl 10 (v32.map AH.enc)),(11,.sl 1 (v37.1.map ER.enc)),(42,.sl 1 (x0.map (cdL 5 AA).enc)),(43,.v (.int .i64 (x0.length:Int))),(44,.v (.int .i64 c33)),(56,.v (.int .i64 (v32.length:Int))),(57,.v (.int .i64 c40))],hp⟩ (fun e s=>e=(.exit 4)/\∃ s2,(∃ (h':Hp),T h' ((own_ (ocL 1 48 (ocL 1 3 (ocV cdI))) e14 r)::L)/\s2=⟨Fr 104 [(6,e14),(8,.sl 10 (v32.map AH.enc)),(42,.sl 1 (x0.map (cdL 5 AA).enc)),(43,.v (.int .i64 (x0.length:Int))),(44,.v (.int .i64 c33))],h'⟩)/\WkY E0 s s2):=by
 intro f;induction f with
 | zero=>intro c40 c41 r h; cases h
 | succ f ih0 =>
  intro c40 c41 r h  hp hT;unfold D1 at h;refine Gb ?_
  let p1:Nat×AV:=(57,.v (.int .i64 c40))
  let p2:Nat×AV:=(56,.v (.int .i64 (v32.length:Int)))
  let p3:Nat×AV:=(44,.v (.int .i64 c33))
  let p4:Nat×AV:=(43,.v (.int .i64 (x0.length:Int)))
  let p5:Nat×AV:=(42,.sl 1 (x0.map (cdL 5 AA).enc))
  let p6:Nat×AV:=(11,.sl 1 (v37.1.map ER.enc))
  let p7:Nat×AV:=(8,.sl 10 (v32.map AH.enc))
  refine CR AC [(6,e14),p7,p6,p5,p4,p3,p2,p1,(58,.v (.bool (decide (c40 < (v32.length:Int)))))] ?_;refine BK ?_;refine Du (b:=(decide (c40 < (v32.length:Int)))) kr (fun hb42=>?_) (fun hb42=>?_)
  ·rw [if_pos hb42] at h
   refine SemY.skip ?_;refine BK ?_;refine Ch ?_;refine CR AC [(6,e14),p7,p6,(13,.v (.int .i64 c40)),p5,p4,p3,p2,p1] ?_;refine CR AC [(6,e14),p7,p6,(13,.v (.int .i64 c40)),p5,p4,p3,p2,p1,(60,.v (.int .i64 c40)),(61,.v (.int .i64 0))] ?_;refine Ch ?_;refine SemY.loop (n:=100000) ?_;obtain ⟨r82,hr82,h⟩:=OB h;refine F5 (D3 WkY.f1 (Ro v32 v37 c40 x0 e14 c33 _ 0 c41 _ hr82  hp hT)) ?_;rintro _ ⟨hp83,hT84,rfl⟩;refine As ?_;refine Bd AC 2 ?_;refine Cb rfl ?_;exact D3 WkY.f1 (ih0 (wr .i64 (c40 + 1)) r82 _ h  hp83 hT84)
  ·rw [BY hb42] at h
   refine SemY.exit ?_;have hq:=OI h; subst hq;exact ⟨rfl,_,⟨hp,hT,rfl⟩,WkY.f1⟩
theorem NY {L:List Asn}(x0:(List (List AF))) (v32:(List A6)) (e14:AV):∀ (f:Nat) (c33:Int) (c34:(List (List Int))) (r:((List (List Int))) ⊕ (Unit)),Gj x0 v32 f c33 c34=some r->∀ (hp:Hp),T hp ((own_ (ocL 1 48 (ocL 1 3 (ocV cdI))) e14 c34)::L)->SemYN E0 ⟨none,false⟩ (pc Ft [1,1,1,1,1,0,1,0,0]) f ⟨Fr 104 [(6,e14),(8,.sl 10 (v32.map AH.enc)),(42,.sl 1 (x0.map (cdL 5 AA).enc)),(43,.v (.int .i64 (x0.length:Int))),(44,.v (.int .i64 c33))],hp⟩ (fun e s=>match r with
 | (.inl w)=>e=(.exit 2)/\∃ s2,(∃ (h':Hp),T h' ((own_ (ocL 1 48 (ocL 1 3 (ocV cdI))) e14 w)::L)/\s2=⟨Fr 104 [(6,e14)],h'⟩)/\WkY E0 s s2
 | (.inr _w)=>e = .ret/\∃ s2,(∃ (h':Hp),T h' (L)/\s2=⟨Fr 104 [(4,.e0),(5,.v (.bool false))],h'⟩)/\WkY E0 s s2):=by
 intro f;induction f with
 | zero=>intro c33 c34 r h; cases h
 | succ f ih0 =>
  intro c33 c34 r h  hp hT;unfold Gj at h;refine Gb ?_
  let p1:Nat×AV:=(44,.v (.int .i64 c33))
  let p2:Nat×AV:=(43,.v (.int .i64 (x0.length:Int)))
  let p3:Nat×AV:=(42,.sl 1 (x0.map (cdL 5 AA).enc))
  let p4:Nat×AV:=(8,.sl 10 (v32.map AH.enc))
  refine CR AC [(6,e14),p4,p3,p2,p1,(45,.v (.bool (decide (c33 < (x0.length:Int)))))] ?_;refine BK ?_;refine Du (b:=(decide (c33 < (x0.length:Int)))) kr (fun hb35=>?_) (fun hb35=>?_)
  ·rw [if_pos hb35] at h
   refine SemY.skip ?_;refine BK ?_;refine Ch ?_;refine BK ?_;refine As ?_;obtain ⟨v36,hv36,h⟩:=OB h;refine Bq AC 0 rfl (DH (AB rfl) rfl (AW (a:= .sl 1 (x0.map (cdL 5 AA).enc)) (b:= .v (.int .i64 c33)) kr kr (DK (e:=(cdL 5 AA).enc) (el:=22) (k:=1) (ki:= .i64) kr kr hv36))) ?_;refine Gc AC [(6,e14),p4,(10,.sl 5 (v36.map AA.enc)),p3,p2,p1] ?_;refine BK ?_;refine As ?_;refine Bd AC 1 ?_;obtain ⟨v37,hv37,h⟩:=OB h;refine G6 (v:=v37) (caps:=[]) (xs:=[.sl 5 (v36.map AA.enc)]) (u:=(v36,())) rfl rfl VK rfl (AB rfl) kr kr (Bp (C8 (c:=(cdL 5 AA)) (v:=v36)) SeesD.nil) (.inr ⟨by kernel_rfl,JQ.de (v36,())⟩) hv37 ?_
   let p5:Nat×AV:=(11,.sl 1 (v37.1.map ER.enc))
   refine Gc AC [(6,e14),p4,p5,(12,.v (.bool v37.2)),p3,p2,p1] ?_;refine BK ?_;refine CR AC [(6,e14),p4,p5,p3,p2,p1,(54,.v (.bool (!v37.2)))] ?_;refine Du (b:=(!v37.2)) kr (fun hb38=>?_) (fun hb38=>?_)
   ·rw [if_pos hb38] at h
    refine CR AC [(4,.e0),(5,.v (.bool false))] ?_;refine SemY.ret ?_;have hq:=OI h; subst hq
    have hT39:=hT.drop
    exact ⟨rfl,_,⟨hp,hT39,rfl⟩,WkY.f1⟩
   ·rw [BY hb38] at h
    refine SemY.skip ?_;refine BK ?_;refine As ?_;refine Bd AC 1 ?_;refine Bq AC 0 rfl (DH (AB rfl) rfl (CX (a:= .sl 10 (v32.map AH.enc)) kr (BS (el:=115) kr))) ?_;refine Gc AC [(6,e14),p4,p5,p3,p2,p1,(56,.v (.int .i64 (v32.length:Int))),(57,.v (.int .i64 0))] ?_;refine Ch ?_;refine SemY.loop (n:=100000) ?_;obtain ⟨r86,hr86,h⟩:=OB h;refine F5 (D3 WkY.f1 (Rn v32 v37 x0 e14 c33 _ 0 c34 _ hr86  hp hT)) ?_;rintro _ ⟨hp87,hT88,rfl⟩;refine As ?_;refine Bd AC 2 ?_;refine Cb rfl ?_;exact D3 WkY.f1 (ih0 (wr .i64 (c33 + 1)) r86 _ h  hp87 hT88)
  ·rw [BY hb35] at h
   refine SemY.exit ?_;have hq:=OI h; subst hq;exact ⟨rfl,_,⟨hp,hT,rfl⟩,WkY.f1⟩
theorem Tf {L:List Asn}{hp:Hp}(x0:(List (List AF))) (x1:(List Ai)) (r:(List (List Int))×Bool) (h:HV x0 x1=some r) (hT:T hp (L)):SemY E0 ⟨none,false⟩ Ft ⟨Fr 104 (Av 0 [.sl 1 (x0.map (cdL 5 AA).enc),.sl 9 (x1.map AE.enc)]),hp⟩ fun x s'=>(x = .normal\/x = .ret)/\∃ ys,D6 E0.P s'.fr s'.hp Tryz.f107.results.toList=some ys/\(fun v h'=>v = .tp [.sl 1 (r.1.map (cdL 1 cdI).enc),.v (.bool r.2)]/\T h' (L)) (EA ys) s'.hp:=by
 unfold HV at h;refine Nh (Ov (s1:=⟨Fr 104 [(0,.sl 1 (x0.map (cdL 5 AA).enc)),(1,.sl 9 (x1.map AE.enc))],hp⟩) WkY.f1 ?_);refine CR AC [(0,.sl 1 (x0.map (cdL 5 AA).enc)),(1,.sl 9 (x1.map AE.enc))] ?_;refine BK ?_;refine BK ?_;obtain ⟨j1,hj1,h⟩:=OB h;refine Qr (A:=fun s1=>∃ (h':Hp),T h' (L)/\s1=⟨Fr 104 [(0,.sl 1 (x0.map (cdL 5 AA).enc)),(1,.sl 9 (x1.map AE.enc)),(24,.v (.bool j1))],h'⟩) ?_ ?_
 ·refine Bd AC 1 ?_
  refine Bq AC 0 rfl (DH (AB rfl) rfl (CX (a:= .sl 1 (x0.map (cdL 5 AA).enc)) kr (BS (el:=22) kr))) ?_;refine Ou (n:=104) AC 2 [(0,.sl 1 (x0.map (cdL 5 AA).enc)),(1,.sl 9 (x1.map AE.enc)),(20,.v (.bool (decide ((x0.length:Int) > 16))))] hp kr ?_;rcases BE (decide ((x0.length:Int) > 16)) with hc104 | hc104
  ·rw [if_pos hc104] at hj1
   rw [hc104];refine Bd AC 4 ?_;have hq:=OI hj1; subst hq;exact Cb rfl ⟨_,⟨hp,hT,rfl⟩,WkY.f1⟩
  ·rw [BY hc104] at hj1
   rw [hc104];refine Bd AC 1 ?_;refine Bq AC 0 rfl (DH kr rfl (CX (a:= .sl 9 (x1.map AE.enc)) kr (BS (el:=42) kr))) ?_;refine Bd AC 2 ?_;have hq:=OI hj1; subst hq;exact Cb rfl ⟨_,⟨hp,hT,rfl⟩,WkY.f1⟩
 rintro _ ⟨hp3,hT4,rfl⟩;refine Du (b:=j1) kr (fun hb5=>?_) (fun hb5=>?_)
 ·rw [if_pos hb5] at h
  refine CR AC [(4,.e0),(5,.v (.bool false))] ?_;refine SemY.ret ?_;have hq:=OI h; subst hq
  have hT6:=(T.e0 (k:=1) (ty:=48) (o:=(ocL 1 3 (ocV cdI))) hT4)
  obtain ⟨hp7,hw8,hT9⟩:=Ni (E:=E0) (n:=104) (l:=[(4,.e0),(5,.v (.bool false))]) (l':=[(4,.sl 1 (([]:(List (List Int))).map (cdL 1 cdI).enc)),(5,.v (.bool false))]) hT6 (LkT.at_ ⟨.inr ⟨kr,rfl⟩,.inl kr,trivial⟩);exact ⟨⟨Fr 104 [(4,.sl 1 (([]:(List (List Int))).map (cdL 1 cdI).enc)),(5,.v (.bool false))],hp7⟩,(WkY.trans (WkY.trans WkY.f1 hw8) WkY.f1),.inr rfl,[.sl 1 (([]:(List (List Int))).map (cdL 1 cdI).enc),.v (.bool false)],kr,⟨rfl,hT9⟩⟩
 ·rw [BY hb5] at h
  refine SemY.skip ?_;refine BK ?_;refine As ?_;refine Bd AC 1 ?_;refine Bq AC 0 rfl (DH (AB rfl) rfl (CX (a:= .sl 9 (x1.map AE.enc)) kr (BS (el:=42) kr))) ?_;by_cases hk10:(YA 24 (x1.length:Int))=true
  case neg=>rw [if_neg hk10] at h; cases h
  rw [if_pos hk10] at h;obtain ⟨e14,hp11,hb12,hT13⟩:=XD (P:=Tryz.prog) (o:=(ocL 1 3 (ocV cdI))) (k:=1) (t:=48) (ty:=46) (bytes:=24) (kn:= .i64) (kc:= .i64) (m:=(x1.length:Int)) (x0:=([]:(List Int))) hT4 (fun _=> .inl ⟨rfl,rfl,rfl⟩) kr kr hk10;refine Bq AC 0 rfl (AAz (AB rfl) rfl kr (AAG (x:= .v (.int .i64 (x1.length:Int))) (y:= .v (.int .i64 (x1.length:Int))) kr kr hb12)) ?_;refine Gc AC [(0,.sl 1 (x0.map (cdL 5 AA).enc)),(1,.sl 9 (x1.map AE.enc)),(6,e14)] ?_;refine BK ?_;refine BK ?_;refine As ?_;refine Bd AC 1 ?_;refine Bq AC 0 rfl (DH (AB rfl) rfl (CX (a:=e14) kr (AF2 hT13 kr))) ?_;refine Gc AC [(0,.sl 1 (x0.map (cdL 5 AA).enc)),(1,.sl 9 (x1.map AE.enc)),(6,e14),(29,.v (.int .i64 ((List.replicate (x1.length:Int).toNat ([]:(List Int))).length:Int))),(30,.v (.int .i64 0))] ?_;refine Ch ?_;refine SemY.loop (n:=100000) ?_;obtain ⟨r29,hr29,h⟩:=OB h;refine F5 (D3 WkY.f1 (Rm x1 x0 e14 _ 0 (List.replicate (x1.length:Int).toNat ([]:(List Int))) _ hr29  hp11 hT13)) ?_;rintro _ ⟨hp30,hT31,rfl⟩;refine BK ?_;refine As ?_;refine Bd AC 1 ?_;obtain ⟨v32,hv32,h⟩:=OB h;refine G6 (v:=v32) (caps:=[]) (xs:=[.sl 9 (x1.map AE.enc)]) (u:=(x1,())) rfl rfl Xb rfl (AB rfl) kr kr (Bp (C8 (c:=(cdL 9 AE)) (v:=x1)) SeesD.nil) (.inr ⟨by kernel_rfl,Lf.de (x1,())⟩) hv32 ?_;refine Gc AC [(0,.sl 1 (x0.map (cdL 5 AA).enc)),(6,e14),(8,.sl 10 (v32.map AH.enc))] ?_;refine BK ?_;refine BK ?_;refine As ?_;refine Bd AC 1 ?_;refine Bq AC 0 rfl (DH (AB rfl) rfl (CX (a:= .sl 1 (x0.map (cdL 5 AA).enc)) kr (BS (el:=22) kr))) ?_;refine Gc AC [(6,e14),(8,.sl 10 (v32.map AH.enc)),(42,.sl 1 (x0.map (cdL 5 AA).enc)),(43,.v (.int .i64 (x0.length:Int))),(44,.v (.int .i64 0))] ?_;refine Ch ?_;refine SemY.loop (n:=100000) ?_;obtain ⟨r90,hr90,h⟩:=OB h;rcases r90 with w91 | w97
  ·try dsimp only at h
   refine F5 (D3 WkY.f1 (NY x0 v32 e14 _ 0 r29 _ hr90  hp30 hT31)) ?_;rintro _ ⟨hp92,hT93,rfl⟩;refine CR AC [(4,e14),(5,.v (.bool true))] ?_;refine SemY.ret ?_;have hq:=OI h; subst hq;obtain ⟨hp94,hw95,hT96⟩:=Ni (E:=E0) (n:=104) (l:=[(4,e14),(5,.v (.bool true))]) (l':=[(4,.sl 1 (w91.map (cdL 1 cdI).enc)),(5,.v (.bool true))]) hT93 (LkT.at_ ⟨.inr ⟨kr,rfl⟩,.inl kr,trivial⟩);exact ⟨⟨Fr 104 [(4,.sl 1 (w91.map (cdL 1 cdI).enc)),(5,.v (.bool true))],hp94⟩,(WkY.trans (WkY.trans WkY.f1 hw95) WkY.f1),.inr rfl,[.sl 1 (w91.map (cdL 1 cdI).enc),.v (.bool true)],kr,⟨rfl,hT96⟩⟩
  ·try dsimp only at h
   refine F5 (D3 WkY.f1 (NY x0 v32 e14 _ 0 r29 _ hr90  hp30 hT31)) ?_;rintro _ ⟨hp98,hT99,rfl⟩;have hq:=OI h; subst hq
   have hT100:=(T.e0 (k:=1) (ty:=48) (o:=(ocL 1 3 (ocV cdI))) hT99)
   obtain ⟨hp101,hw102,hT103⟩:=Ni (E:=E0) (n:=104) (l:=[(4,.e0),(5,.v (.bool false))]) (l':=[(4,.sl 1 (([]:(List (List Int))).map (cdL 1 cdI).enc)),(5,.v (.bool false))]) hT100 (LkT.at_ ⟨.inr ⟨kr,rfl⟩,.inl kr,trivial⟩);exact ⟨⟨Fr 104 [(4,.sl 1 (([]:(List (List Int))).map (cdL 1 cdI).enc)),(5,.v (.bool false))],hp101⟩,(WkY.trans (WkY.trans WkY.f1 hw102) WkY.f1),.inr rfl,[.sl 1 (([]:(List (List Int))).map (cdL 1 cdI).enc),.v (.bool false)],kr,⟨rfl,hT103⟩⟩
noncomputable def KG:Cs ((List (List AF))×(List Ai)×Unit):=(csC (cdL 1 (cdL 5 AA)) (csC (cdL 9 AE) csN))
noncomputable def QE (r:(List (List Int))×Bool):AV:= .tp [(cdL 1 (cdL 1 cdI)).enc r.1,cdB.enc r.2]
noncomputable def WO:List AV->Option AV:=Dk KG (fun a=>HV a.1 a.2.1) QE
theorem OF:XOk 107 WO:=by
 refine AQ Tryz.func107 (c:=Ft) ?h2 ⟨Tryz.call107⟩ KG (fun a=>HV a.1 a.2.1) QE (fun a=>(by show 2<=104; decide)) ?h3 ?h4
 case h2=>kernel_rfl
 case h3=>intro b; kernel_rfl
 case h4 =>
  intro a b h;refine Sem.mono (QL (Tf (L:=[]) (hp:=[]) a.1 a.2.1 b h T.nil)) fun e s' hs=>?_
  obtain ⟨h1,ys,h2,h3,-⟩:=hs;exact ⟨h1,ys,h2,h3⟩
/- trestle/court.Agree$1 -/
noncomputable def OL:Code:=A3 Tryz.f111
def HP (x0:Int) (x1:Int) (x2:(List (List Int))) (x3:(List (List AF))):Option (Bool) :=
 (idx x2 x0).bind fun v1 =>
 (idx v1 x1).bind fun v2 =>
 some (v2==(x3.length:Int))
def Km:Cs (Int×Int×(List (List Int))×(List (List AF))×Unit):=(csC cdI (csC cdI (csC (cdP (cdL 1 (cdL 1 cdI))) (csC (cdP (cdL 1 (cdL 5 AA))) csN))))
def K9 (r:Bool):AV:=cdB.enc r
theorem RV (x0:Int) (x1:Int) (x2:(List (List Int))) (x3:(List (List AF))) (r:Bool) (h:HP x0 x1 x2 x3=some r):Sem E0 ⟨none,false⟩ OL ⟨Fr 17 (Av 0 (Km.enc (x0,x1,x2,x3,()))),[]⟩ fun e s'=>(e = .normal\/e = .ret)/\∃ xs,D6 E0.P s'.fr s'.hp Tryz.f111.results.toList=some xs/\EA xs=K9 r:=by
 unfold HP at h
 let p1:Nat×AV:=(3,.pe (.sl 1 (x3.map (cdL 5 AA).enc)) 0)
 let p2:Nat×AV:=(2,.pe (.sl 1 (x2.map (cdL 1 cdI).enc)) 0)
 let p3:Nat×AV:=(1,.v (.int .i64 x1))
 refine Aj (A8 (s1:=⟨Fr 17 [(0,.v (.int .i64 x0)),p3,p2,p1],[]⟩) AJ ?_);refine AK AC [(0,.v (.int .i64 x0)),p3,p2,p1] [] ?_;refine AG ?_;obtain ⟨v1,hv1,h⟩:=OB h;obtain ⟨v2,hv2,h⟩:=OB h
 let p4:Nat×AV:=(6,.v (.bool (v2==(x3.length:Int))))
 refine DI AC (s1:=⟨Fr 17 [p4],[]⟩) kr ?_ ?_
 ·refine AY (n:=17) AC 2 [p3,p1,(7,.sl 1 (x2.map (cdL 1 cdI).enc)),(8,.v (.int .i64 x0))] [] kr kr ?_
  refine RunDS.one AC rfl kr (Hd kr (AB rfl) rfl (AW (a:= .sl 1 (x2.map (cdL 1 cdI).enc)) (b:= .v (.int .i64 x0)) kr kr (DK (e:=(cdL 1 cdI).enc) (el:=48) (k:=1) (ki:= .i64) kr kr hv1)) kr) ?_;refine AY (n:=17) AC 2 [p1,(10,.sl 1 (v1.map cdI.enc)),(11,.v (.int .i64 x1))] [] kr kr ?_;refine RunDS.one AC rfl kr (Hd kr (AB rfl) rfl (AW (a:= .sl 1 (v1.map cdI.enc)) (b:= .v (.int .i64 x1)) kr kr (DK (e:=cdI.enc) (el:=3) (k:=1) (ki:= .i64) kr kr hv2)) kr) ?_;refine AY (n:=17) AC 2 [(13,.v (.int .i64 v2)),(14,.sl 1 (x3.map (cdL 5 AA).enc))] [] kr kr ?_;refine RunDS.one AC rfl kr (Hd kr (AB rfl) rfl (CX (a:= .sl 1 (x3.map (cdL 5 AA).enc)) kr (BS (el:=22) kr)) kr) ?_;refine AY (n:=17) AC 2 [p4] [] kr kr ?_;exact RunDS.done rfl AJ
 refine AN ?_;have hq:=OI h; subst hq;exact ⟨⟨Fr 17 [p4],[]⟩,AJ,.inr rfl,[.v (.bool (v2==(x3.length:Int)))],kr,kr⟩
def UD:List AV->Option AV:=Dk Km (fun a=>HP a.1 a.2.1 a.2.2.1 a.2.2.2.1) K9
theorem Ud:XOk 111 UD:=by
 refine AQ Tryz.func111 (c:=OL) ?h2 ⟨Tryz.call111⟩ Km (fun a=>HP a.1 a.2.1 a.2.2.1 a.2.2.2.1) K9 (fun a=>(by show 4<=17; decide)) ?h3 ?h4
 case h2=>kernel_rfl
 case h3=>intro b; kernel_rfl
 case h4=>exact fun a b h=>RV a.1 a.2.1 a.2.2.1 a.2.2.2.1 b h
/- trestle/court.pairs -/
noncomputable def DJ:Code:=A3 Tryz.f109
def D4 (c2:Int) (c6:Int) (c8:(List (Int×Int))) (v10:Bool):Option (((List (Int×Int)))) :=
 if v10=true then
 if (Gd 16 (c8.length + ([(c2,c6)]:List (Int×Int)).length))=true then
 some (c8++([(c2,c6)]:List (Int×Int)))
 else none
 else
 some c8
def Ba (x0:Int) (x1:(List (List Int))×(List (List AF))) (c2:Int):Nat->Int->(List (Int×Int))->Option (((List (Int×Int))))
 | 0,_,_=>none
 | f + 1,c6,c8 =>
  if (decide (c6 < x0))=true then
  (HP c2 c6 x1.1 x1.2).bind fun v10 =>
  (D4 c2 c6 c8 v10).bind fun r24 =>
  Ba x0 x1 c2 f (wr .i64 (c6 + 1)) r24
  else
  some c8
def BZ (x0:Int) (x1:(List (List Int))×(List (List AF))):Nat->Int->(List (Int×Int))->Option (((List (Int×Int))))
 | 0,_,_=>none
 | f + 1,c2,c4 =>
  if (decide (c2 < x0))=true then
  (Ba x0 x1 c2 100000 0 c4).bind fun r30 =>
  BZ x0 x1 f (wr .i64 (c2 + 1)) r30
  else
  some c4
def Ce (x0:Int) (x1:(List (List Int))×(List (List AF))):Option ((List (Int×Int))) :=
 (BZ x0 x1 100000 0 ([]:(List (Int×Int)))).bind fun r36 =>
 some r36
theorem Jj {L:List Asn}{hp:Hp}(c2:Int) (c6:Int) (c8:(List (Int×Int))) (v10:Bool) (x0:Int) (x1:(List (List Int))×(List (List AF))) (e7:AV) (r:((List (Int×Int)))) (h:D4 c2 c6 c8 v10=some r) (hT:T hp ((own_ (ocL 2 90 (ocV (ET cdI cdI (fun _=>rfl) (fun _=>rfl)))) e7 c8)::L)):SemY E0 ⟨none,false⟩ (pc DJ [1,1,0,1,0,0,1,1,0,0,1,1,0,0,1,1,0,0,1,1]) ⟨Fr 29 [(0,.v (.int .i64 x0)),(1,.fn 111 [] [.pe (.sl 1 (x1.1.map (cdL 1 cdI).enc)) 0,.pe (.sl 1 (x1.2.map (cdL 5 AA).enc)) 0]),(5,e7),(6,.v (.int .i64 c2)),(7,.v (.int .i64 c6)),(8,.v (.int .i64 x0)),(9,.v (.int .i64 c2)),(12,.v (.int .i64 x0)),(13,.v (.int .i64 c6)),(19,.v (.bool v10))],hp⟩ (fun e s=>e = .normal/\∃ s2,(∃ (e22:AV) (h':Hp),T h' ((own_ (ocL 2 90 (ocV (ET cdI cdI (fun _=>rfl) (fun _=>rfl)))) e22 r)::L)/\s2=⟨Fr 29 [(0,.v (.int .i64 x0)),(1,.fn 111 [] [.pe (.sl 1 (x1.1.map (cdL 1 cdI).enc)) 0,.pe (.sl 1 (x1.2.map (cdL 5 AA).enc)) 0]),(5,e22),(6,.v (.int .i64 c2)),(8,.v (.int .i64 x0)),(9,.v (.int .i64 c2)),(12,.v (.int .i64 x0)),(13,.v (.int .i64 c6))],h'⟩)/\WkY E0 s s2):=by
 unfold D4 at h;refine Du (b:=v10) kr (fun hb11=>?_) (fun hb11=>?_)
 ·rw [if_pos hb11] at h
  refine As ?_;refine Bd AC 4 ?_;obtain ⟨e15,hp12,hb13,hT14⟩:=TM (P:=Tryz.prog) (bytes:=16) (k:=2) (t:=90) (ty:=84) (xs:=([(c2,c6)]:List (Int×Int))) (n:=1) (ABQ (k:=2) (fun _=>⟨rfl,rfl,rfl⟩)) (TI (c:=(ET cdI cdI (fun _=>rfl) (fun _=>rfl))) (xs:=([(c2,c6)]:List (Int×Int))) hT) rfl kr kr kr;refine Bq AC 0 rfl (AAz (AB rfl) rfl kr (ABZ (xs:=U3 0 [.ag [.v (.int .i64 c2),.v (.int .i64 c6)]]) kr hb13)) ?_;by_cases hk20:(Gd 16 (c8.length + ([(c2,c6)]:List (Int×Int)).length))=true
  case neg=>rw [if_neg hk20] at h; cases h
  rw [if_pos hk20] at h
  have hT21:=((hT14.front 0 rfl).front 1 rfl)
  obtain ⟨e19,hp16,hb17,hT18⟩:=TG (P:=Tryz.prog) (ty:=84) (ty2:=84) (bytes:=16) hT21 kr kr hk20;refine Bq AC 0 rfl (Xg (AB rfl) rfl kr kr (Eb (a:=e7) (b:=e15) kr kr hb17)) ?_;refine Bd AC 1 ?_;refine Cb rfl ?_;have hq:=OI h; subst hq;exact ⟨rfl,_,⟨e19,hp16,hT18,rfl⟩,WkY.f1⟩
 ·rw [BY hb11] at h
  refine SemY.skip ?_;have hq:=OI h; subst hq;exact ⟨rfl,_,⟨e7,hp,hT,rfl⟩,WkY.f1⟩
theorem Jl {L:List Asn}(x0:Int) (x1:(List (List Int))×(List (List AF))) (c2:Int):∀ (f:Nat) (c6:Int) (c8:(List (Int×Int))) (r:((List (Int×Int)))),Ba x0 x1 c2 f c6 c8=some r->∀ (e7:AV) (hp:Hp),T hp ((own_ (ocL 2 90 (ocV (ET cdI cdI (fun _=>rfl) (fun _=>rfl)))) e7 c8)::L)->SemYN E0 ⟨none,false⟩ (pc DJ [1,1,0,1,0,0,1,1,0,0,1,1,0,0]) f ⟨Fr 29 [(0,.v (.int .i64 x0)),(1,.fn 111 [] [.pe (.sl 1 (x1.1.map (cdL 1 cdI).enc)) 0,.pe (.sl 1 (x1.2.map (cdL 5 AA).enc)) 0]),(5,e7),(6,.v (.int .i64 c2)),(8,.v (.int .i64 x0)),(9,.v (.int .i64 c2)),(12,.v (.int .i64 x0)),(13,.v (.int .i64 c6))],hp⟩ (fun e s=>e=(.exit 2)/\∃ s2,(∃ (e28:AV) (h':Hp),T h' ((own_ (ocL 2 90 (ocV (ET cdI cdI (fun _=>rfl) (fun _=>rfl)))) e28 r)::L)/\s2=⟨Fr 29 [(0,.v (.int .i64 x0)),(1,.fn 111 [] [.pe (.sl 1 (x1.1.map (cdL 1 cdI).enc)) 0,.pe (.sl 1 (x1.2.map (cdL 5 AA).enc)) 0]),(5,e28),(8,.v (.int .i64 x0)),(9,.v (.int .i64 c2))],h'⟩)/\WkY E0 s s2):=by
 intro f;induction f with
 | zero=>intro c6 c8 r h; cases h
 | succ f ih0 =>
  intro c6 c8 r h e7 hp hT;unfold Ba at h;refine Gb ?_
  let p1:Nat×AV:=(13,.v (.int .i64 c6))
  let p2:Nat×AV:=(12,.v (.int .i64 x0))
  let p3:Nat×AV:=(9,.v (.int .i64 c2))
  let p4:Nat×AV:=(8,.v (.int .i64 x0))
  let p5:Nat×AV:=(6,.v (.int .i64 c2))
  let p6:Nat×AV:=(1,.fn 111 [] [.pe (.sl 1 (x1.1.map (cdL 1 cdI).enc)) 0,.pe (.sl 1 (x1.2.map (cdL 5 AA).enc)) 0])
  let p7:Nat×AV:=(0,.v (.int .i64 x0))
  refine CR AC [p7,p6,(5,e7),p5,p4,p3,p2,p1,(14,.v (.bool (decide (c6 < x0))))] ?_;refine BK ?_;refine Du (b:=(decide (c6 < x0))) kr (fun hb9=>?_) (fun hb9=>?_)
  ·rw [if_pos hb9] at h
   refine SemY.skip ?_;refine BK ?_;refine Ch ?_;refine CR AC [p7,p6,(5,e7),p5,(7,.v (.int .i64 c6)),p4,p3,p2,p1] ?_;refine BK ?_;refine As ?_;refine Bd AC 3 ?_;obtain ⟨v10,hv10,h⟩:=OB h;refine G6 (v:=v10) (caps:=[.pe (.sl 1 (x1.1.map (cdL 1 cdI).enc)) 0,.pe (.sl 1 (x1.2.map (cdL 5 AA).enc)) 0]) (xs:=[.v (.int .i64 c2),.v (.int .i64 c6)]) (u:=(c2,c6,x1.1,x1.2,())) rfl rfl Ud rfl (AB rfl) kr kr (Bp (C8 (c:=cdI) (v:=c2)) (Bp (C8 (c:=cdI) (v:=c6)) (Bp (C8 (c:=(cdP (cdL 1 (cdL 1 cdI)))) (v:=x1.1)) (Bp (C8 (c:=(cdP (cdL 1 (cdL 5 AA)))) (v:=x1.2)) SeesD.nil)))) (.inl kr) hv10 ?_;refine Cb rfl (SemY.fr (l':=[p7,p6,(5,e7),p5,(7,.v (.int .i64 c6)),p4,p3,p2,p1,(19,.v (.bool v10))]) kr ?_);obtain ⟨r24,hr24,h⟩:=OB h;refine Lx (Jj c2 c6 c8 v10 x0 x1 e7 _ hr24 hT) ?_;rintro _ ⟨e25,hp26,hT27,rfl⟩;refine As ?_;refine Bd AC 2 ?_;refine Cb rfl ?_;exact D3 WkY.f1 (ih0 (wr .i64 (c6 + 1)) r24 _ h e25 hp26 hT27)
  ·rw [BY hb9] at h
   refine SemY.exit ?_;have hq:=OI h; subst hq;exact ⟨rfl,_,⟨e7,hp,hT,rfl⟩,WkY.f1⟩
theorem Jk {L:List Asn}(x0:Int) (x1:(List (List Int))×(List (List AF))):∀ (f:Nat) (c2:Int) (c4:(List (Int×Int))) (r:((List (Int×Int)))),BZ x0 x1 f c2 c4=some r->∀ (e3:AV) (hp:Hp),T hp ((own_ (ocL 2 90 (ocV (ET cdI cdI (fun _=>rfl) (fun _=>rfl)))) e3 c4)::L)->SemYN E0 ⟨none,false⟩ (pc DJ [1,1,0,1,0,0]) f ⟨Fr 29 [(0,.v (.int .i64 x0)),(1,.fn 111 [] [.pe (.sl 1 (x1.1.map (cdL 1 cdI).enc)) 0,.pe (.sl 1 (x1.2.map (cdL 5 AA).enc)) 0]),(5,e3),(8,.v (.int .i64 x0)),(9,.v (.int .i64 c2))],hp⟩ (fun e s=>e=(.exit 0)/\∃ s2,(∃ (e34:AV) (h':Hp),T h' ((own_ (ocL 2 90 (ocV (ET cdI cdI (fun _=>rfl) (fun _=>rfl)))) e34 r)::L)/\s2=⟨Fr 29 [(5,e34)],h'⟩)/\WkY E0 s s2):=by
 intro f;induction f with
 | zero=>intro c2 c4 r h; cases h
 | succ f ih0 =>
  intro c2 c4 r h e3 hp hT;unfold BZ at h;refine Gb ?_
  let p1:Nat×AV:=(9,.v (.int .i64 c2))
  let p2:Nat×AV:=(8,.v (.int .i64 x0))
  let p3:Nat×AV:=(1,.fn 111 [] [.pe (.sl 1 (x1.1.map (cdL 1 cdI).enc)) 0,.pe (.sl 1 (x1.2.map (cdL 5 AA).enc)) 0])
  let p4:Nat×AV:=(0,.v (.int .i64 x0))
  refine CR AC [p4,p3,(5,e3),p2,p1,(10,.v (.bool (decide (c2 < x0))))] ?_;refine BK ?_;refine Du (b:=(decide (c2 < x0))) kr (fun hb5=>?_) (fun hb5=>?_)
  ·rw [if_pos hb5] at h
   refine SemY.skip ?_;refine BK ?_;refine Ch ?_;refine CR AC [p4,p3,(5,e3),(6,.v (.int .i64 c2)),p2,p1] ?_;refine CR AC [p4,p3,(5,e3),(6,.v (.int .i64 c2)),p2,p1,(12,.v (.int .i64 x0)),(13,.v (.int .i64 0))] ?_;refine Ch ?_;refine SemY.loop (n:=100000) ?_;obtain ⟨r30,hr30,h⟩:=OB h;refine F5 (D3 WkY.f1 (Jl x0 x1 c2 _ 0 c4 _ hr30 e3 hp hT)) ?_;rintro _ ⟨e31,hp32,hT33,rfl⟩;refine As ?_;refine Bd AC 2 ?_;refine Cb rfl ?_;exact D3 WkY.f1 (ih0 (wr .i64 (c2 + 1)) r30 _ h e31 hp32 hT33)
  ·rw [BY hb5] at h
   refine SemY.exit ?_;have hq:=OI h; subst hq;exact ⟨rfl,_,⟨e3,hp,hT,rfl⟩,WkY.f1⟩
theorem KM {L:List Asn}{hp:Hp}(x0:Int) (x1:(List (List Int))×(List (List AF))) (r:(List (Int×Int))) (h:Ce x0 x1=some r) (hT:T hp (L)):SemY E0 ⟨none,false⟩ DJ ⟨Fr 29 (Av 0 [.v (.int .i64 x0),.fn 111 [] [.pe (.sl 1 (x1.1.map (cdL 1 cdI).enc)) 0,.pe (.sl 1 (x1.2.map (cdL 5 AA).enc)) 0]]),hp⟩ fun x s'=>(x = .normal\/x = .ret)/\∃ ys,D6 E0.P s'.fr s'.hp Tryz.f109.results.toList=some ys/\(fun v h'=>v = .sl 2 (r.map (ET cdI cdI (fun _=>rfl) (fun _=>rfl)).enc)/\T h' (L)) (EA ys) s'.hp:=by
 unfold Ce at h
 let p1:Nat×AV:=(1,.fn 111 [] [.pe (.sl 1 (x1.1.map (cdL 1 cdI).enc)) 0,.pe (.sl 1 (x1.2.map (cdL 5 AA).enc)) 0])
 let p2:Nat×AV:=(0,.v (.int .i64 x0))
 refine Nh (Ov (s1:=⟨Fr 29 [p2,p1],hp⟩) WkY.f1 ?_);refine CR AC [p2,p1] ?_;refine CR AC [p2,p1,(5,.e0)] ?_;refine BK ?_;refine CR AC [p2,p1,(5,.e0),(8,.v (.int .i64 x0)),(9,.v (.int .i64 0))] ?_;refine Ch ?_
 have hT1:=(T.e0 (k:=2) (ty:=90) (o:=(ocV (ET cdI cdI (fun _=>rfl) (fun _=>rfl)))) hT)
 refine SemY.loop (n:=100000) ?_;obtain ⟨r36,hr36,h⟩:=OB h;refine F5 (D3 WkY.f1 (Jk x0 x1 _ 0 ([]:(List (Int×Int))) _ hr36 .e0 hp hT1)) ?_;rintro _ ⟨e37,hp38,hT39,rfl⟩;refine CR AC [(4,e37)] ?_;refine SemY.ret ?_;have hq:=OI h; subst hq
 let p3:Nat×AV:=(4,.sl 2 (r36.map (ET cdI cdI (fun _=>rfl) (fun _=>rfl)).enc))
 obtain ⟨hp40,hw41,hT42⟩:=Ni (E:=E0) (n:=29) (l:=[(4,e37)]) (l':=[p3]) hT39 (LkT.at_ ⟨.inr ⟨kr,rfl⟩,trivial⟩);exact ⟨⟨Fr 29 [p3],hp40⟩,(WkY.trans (WkY.trans WkY.f1 hw41) WkY.f1),.inr rfl,[.sl 2 (r36.map (ET cdI cdI (fun _=>rfl) (fun _=>rfl)).enc)],kr,⟨rfl,hT42⟩⟩
def FW:Cs (Int×((List (List Int))×(List (List AF)))×Unit):=(csC cdI (csC (cdF 111 (csC (cdP (cdL 1 (cdL 1 cdI))) (csE (cdP (cdL 1 (cdL 5 AA))))) (fun _=>rfl)) csN))
def Hf (r:(List (Int×Int))):AV:=(cdL 2 (ET cdI cdI (fun _=>rfl) (fun _=>rfl))).enc r
def Lk:List AV->Option AV:=Dk FW (fun a=>Ce a.1 a.2.1) Hf
theorem Ln:XOk 109 Lk:=by
 refine AQ Tryz.func109 (c:=DJ) ?h2 ⟨Tryz.call109⟩ FW (fun a=>Ce a.1 a.2.1) Hf (fun a=>(by show 2<=29; decide)) ?h3 ?h4
 case h2=>kernel_rfl
 case h3=>intro b; kernel_rfl
 case h4 =>
  intro a b h;refine Sem.mono (QL (KM (L:=[]) (hp:=[]) a.1 a.2.1 b h T.nil)) fun e s' hs=>?_
  obtain ⟨h1,ys,h2,h3,-⟩:=hs;exact ⟨h1,ys,h2,h3⟩
/- trestle/court.Agree -/
noncomputable def P8:Code:=A3 Tryz.f48
def HO (x0:(List (List AF))) (x1:(List Ai)):Option ((List (Int×Int))) :=
 (HV x0 x1).bind fun v5 =>
 (if (!v5.2)=true then some true else some ((x0.length:Int)==0)).bind fun j14 =>
 if j14=true then
 some ([]:(List (Int×Int)))
 else
 (Ce (x1.length:Int) (v5.1,x0)).bind fun v37 =>
 some v37
theorem Tc {L:List Asn}{hp:Hp}(x0:(List (List AF))) (x1:(List Ai)) (r:(List (Int×Int))) (h:HO x0 x1=some r) (hT:T hp (L)):SemY E0 ⟨none,false⟩ P8 ⟨Fr 24 (Av 0 [.sl 1 (x0.map (cdL 5 AA).enc),.sl 9 (x1.map AE.enc)]),hp⟩ fun x s'=>(x = .normal\/x = .ret)/\∃ ys,D6 E0.P s'.fr s'.hp Tryz.f48.results.toList=some ys/\(fun v h'=>v = .sl 2 (r.map (ET cdI cdI (fun _=>rfl) (fun _=>rfl)).enc)/\T h' (L)) (EA ys) s'.hp:=by
 unfold HO at h;refine Nh (Ov (s1:=⟨Fr 24 [(0,.sl 1 (x0.map (cdL 5 AA).enc)),(1,.sl 9 (x1.map AE.enc))],hp⟩) WkY.f1 ?_);refine BK ?_;refine As ?_;obtain ⟨e1,hp2,hb3,hT4⟩:=Xp (t:=68) (a:= .sl 1 (x0.map (cdL 5 AA).enc)) hT kr;refine Bq AC 0 rfl (AAz (AB rfl) rfl kr (AF6 (z:= .sl 1 (x0.map (cdL 5 AA).enc)) kr hb3)) ?_;refine Gc AC [(1,.sl 9 (x1.map AE.enc)),(2,e1)] ?_;refine BK ?_;refine As ?_;refine Bq AC 0 rfl (DH (AB rfl) rfl (T2 (p:=e1) kr (AAB (y:= .sl 1 (x0.map (cdL 5 AA).enc)) (m:=1) (g:=false) hT4 kr kr kr))) ?_;refine Bd AC 1 ?_;obtain ⟨v5,hv5,h⟩:=OB h;refine G6 (v:=v5) (caps:=[]) (xs:=[.sl 1 (x0.map (cdL 5 AA).enc),.sl 9 (x1.map AE.enc)]) (u:=(x0,x1,())) rfl rfl OF rfl (AB rfl) kr kr (Bp (C8 (c:=(cdL 1 (cdL 5 AA))) (v:=x0)) (Bp (C8 (c:=(cdL 9 AE)) (v:=x1)) SeesD.nil)) (.inr ⟨by kernel_rfl,KG.de (x0,x1,())⟩) hv5 ?_;refine Bd AC 3 ?_;obtain ⟨e6,hp7,hb8,hT9⟩:=Xp (t:=46) (a:= .e0) hT4 kr;refine Bq AC 0 rfl (AAz (AB rfl) rfl kr (AAF (z:= .e0) kr hb8)) ?_;obtain ⟨hp10,hs11,hT12⟩:=AAi (P:=Tryz.prog) (ty:=46) (y:= .sl 1 (v5.1.map (cdL 1 cdI).enc)) (a':= .sl 1 (v5.1.map (cdL 1 cdI).enc)) hT9 kr kr kr;refine RunL.store AC (y:=e6) (z:= .sl 1 (v5.1.map (cdL 1 cdI).enc)) rfl (AB rfl) kr kr hs11 ?_;refine Gc AC [(1,.sl 9 (x1.map AE.enc)),(2,e1),(5,e6),(6,.v (.bool v5.2))] ?_;refine BK ?_;refine BK ?_;obtain ⟨j14,hj14,h⟩:=OB h;refine Qr (A:=fun s1=>∃ (h':Hp),T h' ((cel e1 1 68 (.sl 1 (x0.map (cdL 5 AA).enc)))::(cel e6 1 46 (.sl 1 (v5.1.map (cdL 1 cdI).enc)))::L)/\s1=⟨Fr 24 [(1,.sl 9 (x1.map AE.enc)),(2,e1),(5,e6),(19,.v (.bool j14))],h'⟩) ?_ ?_
 ·refine Ou (n:=24) AC 3 [(1,.sl 9 (x1.map AE.enc)),(2,e1),(5,e6),(15,.v (.bool (!v5.2)))] hp10 kr ?_
  rcases BE (!v5.2) with hc38 | hc38
  ·rw [if_pos hc38] at hj14
   rw [hc38];refine Bd AC 4 ?_;have hq:=OI hj14; subst hq
   have hT22:=(hT12.front 1 rfl)
   exact Cb rfl ⟨_,⟨hp10,hT22,rfl⟩,WkY.f1⟩
  ·rw [BY hc38] at hj14
   rw [hc38]
   have hT13:=(hT12.front 1 rfl)
   refine Bq AC 0 rfl (DH kr rfl (T2 (p:=e1) kr (AAB (y:= .sl 1 (x0.map (cdL 5 AA).enc)) (m:=1) (g:=false) hT13 kr kr kr))) ?_;refine Bq AC 0 rfl (DH kr rfl (CX (a:= .sl 1 (x0.map (cdL 5 AA).enc)) kr (BS (el:=22) kr))) ?_;refine Bd AC 2 ?_;have hq:=OI hj14; subst hq;exact Cb rfl ⟨_,⟨hp10,hT13,rfl⟩,WkY.f1⟩
 rintro _ ⟨hp23,hT24,rfl⟩;refine Du (b:=j14) kr (fun hb25=>?_) (fun hb25=>?_)
 ·rw [if_pos hb25] at h
  refine CR AC [(4,.e0)] ?_;refine SemY.ret ?_;have hq:=OI h; subst hq
  have hT26:=(T.e0 (k:=2) (ty:=90) (o:=(ocV (ET cdI cdI (fun _=>rfl) (fun _=>rfl)))) hT24)
  obtain ⟨hp27,hw28,hT29⟩:=Qs (E:=E0) (n:=24) (l:=[(4,.e0)]) (l':=[(4,.sl 2 (([]:(List (Int×Int))).map (ET cdI cdI (fun _=>rfl) (fun _=>rfl)).enc))]) hT26 ⟨⟨.e0,kr,Qq⟩,trivial⟩;exact ⟨⟨Fr 24 [(4,.sl 2 (([]:(List (Int×Int))).map (ET cdI cdI (fun _=>rfl) (fun _=>rfl)).enc))],hp27⟩,(WkY.trans (WkY.trans WkY.f1 hw28) WkY.f1),.inr rfl,[.sl 2 (([]:(List (Int×Int))).map (ET cdI cdI (fun _=>rfl) (fun _=>rfl)).enc)],kr,⟨rfl,hT29.drop.drop⟩⟩
 ·rw [BY hb25] at h
  refine SemY.skip ?_;refine BK ?_;refine As ?_;refine Bd AC 1 ?_;refine Bq AC 0 rfl (DH (AB rfl) rfl (CX (a:= .sl 9 (x1.map AE.enc)) kr (BS (el:=42) kr))) ?_;refine Bd AC 1 ?_
  have hT30:=(hT24.front 1 rfl)
  obtain ⟨hp31,hw32,hT33⟩:=Qs (E:=E0) (n:=24) (l:=[(21,.v (.int .i64 (x1.length:Int))),(22,.fn 111 [] [e6,e1])]) (l':=[(21,.v (.int .i64 (x1.length:Int))),(22,.fn 111 [] [.pe (.sl 1 (v5.1.map (cdL 1 cdI).enc)) 0,e1])]) (Xr (c:=(cdL 1 (cdL 1 cdI))) (x:=v5.1) hT30) ⟨⟨.v (.int .i64 (x1.length:Int)),kr,FzU.refl⟩,⟨.fn 111 [] [e6,e1],kr,FzU.fn ⟨Qq,FzU.refl,trivial⟩⟩,trivial⟩;refine Xk (WkY.trans WkY.f1 hw32) ?_;obtain ⟨hp34,hw35,hT36⟩:=Qs (E:=E0) (n:=24) (l:=[(21,.v (.int .i64 (x1.length:Int))),(22,.fn 111 [] [.pe (.sl 1 (v5.1.map (cdL 1 cdI).enc)) 0,e1])]) (l':=[(21,.v (.int .i64 (x1.length:Int))),(22,.fn 111 [] [.pe (.sl 1 (v5.1.map (cdL 1 cdI).enc)) 0,.pe (.sl 1 (x0.map (cdL 5 AA).enc)) 0])]) (Xr (c:=(cdL 1 (cdL 5 AA))) (x:=x0) hT33) ⟨⟨.v (.int .i64 (x1.length:Int)),kr,FzU.refl⟩,⟨.fn 111 [] [.pe (.sl 1 (v5.1.map (cdL 1 cdI).enc)) 0,e1],kr,FzU.fn ⟨FzU.refl,Qq,trivial⟩⟩,trivial⟩;refine Xk (WkY.trans WkY.f1 hw35) ?_;obtain ⟨v37,hv37,h⟩:=OB h;refine G6 (v:=v37) (caps:=[]) (xs:=[.v (.int .i64 (x1.length:Int)),.fn 111 [] [.pe (.sl 1 (v5.1.map (cdL 1 cdI).enc)) 0,.pe (.sl 1 (x0.map (cdL 5 AA).enc)) 0]]) (u:=((x1.length:Int),(v5.1,x0),())) rfl rfl Ln rfl (AB rfl) kr kr (Bp (C8 (c:=cdI) (v:=(x1.length:Int))) (Bp (C8 (c:=(cdF 111 (csC (cdP (cdL 1 (cdL 1 cdI))) (csE (cdP (cdL 1 (cdL 5 AA))))) (fun _=>rfl))) (v:=(v5.1,x0))) SeesD.nil)) (.inr ⟨by kernel_rfl,FW.de ((x1.length:Int),(v5.1,x0),())⟩) hv37 ?_;refine Gc AC [(4,.sl 2 (v37.map (ET cdI cdI (fun _=>rfl) (fun _=>rfl)).enc))] ?_;refine SemY.ret ?_;have hq:=OI h; subst hq;exact ⟨⟨Fr 24 [(4,.sl 2 (v37.map (ET cdI cdI (fun _=>rfl) (fun _=>rfl)).enc))],hp34⟩,WkY.f1,.inr rfl,[.sl 2 (v37.map (ET cdI cdI (fun _=>rfl) (fun _=>rfl)).enc)],kr,⟨rfl,hT36⟩⟩
def QB:Cs ((List (List AF))×(List Ai)×Unit):=(csC (cdL 1 (cdL 5 AA)) (csC (cdL 9 AE) csN))
def QD (r:(List (Int×Int))):AV:=(cdL 2 (ET cdI cdI (fun _=>rfl) (fun _=>rfl))).enc r
def WJ:List AV->Option AV:=Dk QB (fun a=>HO a.1 a.2.1) QD
theorem Wd:XOk 48 WJ:=by
 refine AQ Tryz.func48 (c:=P8) ?h2 ⟨Tryz.call48⟩ QB (fun a=>HO a.1 a.2.1) QD (fun a=>(by show 2<=24; decide)) ?h3 ?h4
 case h2=>kernel_rfl
 case h3=>intro b; kernel_rfl
 case h4 =>
  intro a b h;refine Sem.mono (QL (Tc (L:=[]) (hp:=[]) a.1 a.2.1 b h T.nil)) fun e s' hs=>?_
  obtain ⟨h1,ys,h2,h3,-⟩:=hs;exact ⟨h1,ys,h2,h3⟩
/- slices.Equal[[][2]int,[2]int] -/
noncomputable def GB:Code:=A3 Tryz.f106
def Dh (x0:(List (Int×Int))) (x1:(List (Int×Int))):Nat->Int->Option ((Unit) ⊕ (Bool))
 | 0,_=>none
 | f + 1,c2 =>
  if (decide (c2 < (x0.length:Int)))=true then
  (idx x0 c2).bind fun v4 =>
  (idx x1 c2).bind fun v5 =>
  if (!(v4.1==v5.1&&v4.2==v5.2))=true then
  some (.inr false)
  else
  Dh x0 x1 f (wr .i64 (c2 + 1))
  else
  some (.inl ())
def CG (x0:(List (Int×Int))) (x1:(List (Int×Int))):Option (Bool) :=
 if ((x0.length:Int)!=(x1.length:Int))=true then
 some false
 else
 (Dh x0 x1 100000 0).bind fun r8 =>
 match r8 with
 | (.inl _w9) =>
  some true
 | (.inr w10) =>
  some w10
def GF:Cs (((List (Int×Int)))×((List (Int×Int)))×Unit):=(csC (cdL 2 (ET cdI cdI (fun _=>rfl) (fun _=>rfl))) (csC (cdL 2 (ET cdI cdI (fun _=>rfl) (fun _=>rfl))) csN))
def GG (r:Bool):AV:=cdB.enc r
theorem HK (x0:(List (Int×Int))) (x1:(List (Int×Int))):∀ (f:Nat) (c2:Int) (r:(Unit) ⊕ (Bool)),Dh x0 x1 f c2=some r->SemN E0 ⟨none,false⟩ (pc GB [1,1,0,1,0,0]) f ⟨Fr 26 [(0,.sl 2 (x0.map (ET cdI cdI (fun _=>rfl) (fun _=>rfl)).enc)),(1,.sl 2 (x1.map (ET cdI cdI (fun _=>rfl) (fun _=>rfl)).enc)),(12,.v (.int .i64 (x0.length:Int))),(13,.v (.int .i64 c2))],[]⟩ (fun e s=>match r with
 | (.inl _w)=>e=(.exit 0)/\Wk E0 s ⟨Fr 26 [],[]⟩
 | (.inr w)=>e = .ret/\Wk E0 s ⟨Fr 26 [(4,.v (.bool w))],[]⟩):=by
 intro f;induction f with
 | zero=>intro c2 r h; cases h
 | succ f ih0 =>
  intro c2 r h
  have ih:=fun (c2:Int)=>ih0 c2 r
  unfold Dh at h;refine BR ?_
  let p1:Nat×AV:=(13,.v (.int .i64 c2))
  let p2:Nat×AV:=(12,.v (.int .i64 (x0.length:Int)))
  let p3:Nat×AV:=(1,.sl 2 (x1.map (ET cdI cdI (fun _=>rfl) (fun _=>rfl)).enc))
  let p4:Nat×AV:=(0,.sl 2 (x0.map (ET cdI cdI (fun _=>rfl) (fun _=>rfl)).enc))
  refine AK AC [p4,p3,p2,p1,(14,.v (.bool (decide (c2 < (x0.length:Int)))))] [] ?_;refine AG ?_;refine AP (b:=(decide (c2 < (x0.length:Int)))) kr (fun hb3=>?_) (fun hb3=>?_)
  ·rw [if_pos hb3] at h
   refine AT ?_;refine AG ?_;refine AZ ?_;refine AK AC [p4,p3,(5,.v (.int .i64 c2)),p2,p1] [] ?_;refine AG ?_;obtain ⟨v4,hv4,h⟩:=OB h;obtain ⟨v5,hv5,h⟩:=OB h
   let p5:Nat×AV:=(24,.v (.bool (!(v4.1==v5.1&&v4.2==v5.2))))
   refine DI AC (s1:=⟨Fr 26 [p4,p3,p2,p1,p5],[]⟩) kr ?_ ?_
   ·refine AY (n:=26) AC 2 [p4,p3,(5,.v (.int .i64 c2)),p2,p1,(16,.sl 2 (x0.map (ET cdI cdI (fun _=>rfl) (fun _=>rfl)).enc)),(17,.v (.int .i64 c2))] [] kr kr ?_
    refine RunDS.one AC rfl kr (Hd kr (AB rfl) rfl (AW (a:= .sl 2 (x0.map (ET cdI cdI (fun _=>rfl) (fun _=>rfl)).enc)) (b:= .v (.int .i64 c2)) kr kr (DK (e:=(ET cdI cdI (fun _=>rfl) (fun _=>rfl)).enc) (el:=90) (k:=2) (ki:= .i64) kr kr hv4)) kr) ?_;refine AY (n:=26) AC 3 [p4,p3,p2,p1,(19,.ag [.v (.int .i64 v4.1),.v (.int .i64 v4.2)]),(20,.sl 2 (x1.map (ET cdI cdI (fun _=>rfl) (fun _=>rfl)).enc)),(21,.v (.int .i64 c2))] [] kr kr ?_;refine RunDS.one AC rfl kr (Hd kr (AB rfl) rfl (AW (a:= .sl 2 (x1.map (ET cdI cdI (fun _=>rfl) (fun _=>rfl)).enc)) (b:= .v (.int .i64 c2)) kr kr (DK (e:=(ET cdI cdI (fun _=>rfl) (fun _=>rfl)).enc) (el:=90) (k:=2) (ki:= .i64) kr kr hv5)) kr) ?_;refine AY (n:=26) AC 2 [p4,p3,p2,p1,p5] [] kr kr ?_;exact RunDS.done rfl AJ
   refine AP (b:=(!(v4.1==v5.1&&v4.2==v5.2))) kr (fun hb6=>?_) (fun hb6=>?_)
   ·rw [if_pos hb6] at h
    refine AK AC [(4,.v (.bool false))] [] ?_;refine AN ?_;have hq:=OI h; subst hq;exact ⟨rfl,AJ⟩
   ·rw [BY hb6] at h
    refine AT ?_
    let p6:Nat×AV:=(13,.v (.int .i64 (wr .i64 (c2 + 1))))
    refine Ci AC [p4,p3,p2,p6] [] ?_;exact Ab (s1:=⟨Fr 26 [p4,p3,p2,p6],[]⟩) AJ (ih (wr .i64 (c2 + 1)) h)
  ·rw [BY hb3] at h
   refine Bi ?_;have hq:=OI h; subst hq;exact ⟨rfl,AJ⟩
theorem Lj (x0:(List (Int×Int))) (x1:(List (Int×Int))) (r:Bool) (h:CG x0 x1=some r):Sem E0 ⟨none,false⟩ GB ⟨Fr 26 (Av 0 (GF.enc (x0,x1,()))),[]⟩ fun e s'=>(e = .normal\/e = .ret)/\∃ xs,D6 E0.P s'.fr s'.hp Tryz.f106.results.toList=some xs/\EA xs=GG r:=by
 unfold CG at h
 let p1:Nat×AV:=(1,.sl 2 (x1.map (ET cdI cdI (fun _=>rfl) (fun _=>rfl)).enc))
 let p2:Nat×AV:=(0,.sl 2 (x0.map (ET cdI cdI (fun _=>rfl) (fun _=>rfl)).enc))
 refine Aj (A8 (s1:=⟨Fr 26 [p2,p1],[]⟩) AJ ?_);refine AK AC [p2,p1] [] ?_;refine AG ?_;refine AG ?_;refine AL (s1:=⟨Fr 26 [p2,p1,(10,.v (.bool ((x0.length:Int)!=(x1.length:Int))))],[]⟩) ?_ ?_
 ·refine AD (n:=26) AC 1 [p2,p1,(6,.sl 2 (x0.map (ET cdI cdI (fun _=>rfl) (fun _=>rfl)).enc))] [] kr ?_
  refine AS AC 0 rfl (DH (AB rfl) rfl (CX (a:= .sl 2 (x0.map (ET cdI cdI (fun _=>rfl) (fun _=>rfl)).enc)) kr (BS (el:=90) kr))) ?_;refine AD (n:=26) AC 1 [p2,p1,(7,.v (.int .i64 (x0.length:Int))),(8,.sl 2 (x1.map (ET cdI cdI (fun _=>rfl) (fun _=>rfl)).enc))] [] kr ?_;refine AS AC 0 rfl (DH (AB rfl) rfl (CX (a:= .sl 2 (x1.map (ET cdI cdI (fun _=>rfl) (fun _=>rfl)).enc)) kr (BS (el:=90) kr))) ?_;exact AX AC
 refine AP (b:=((x0.length:Int)!=(x1.length:Int))) kr (fun hb1=>?_) (fun hb1=>?_)
 ·rw [if_pos hb1] at h
  refine AK AC [(4,.v (.bool false))] [] ?_;refine AN ?_;have hq:=OI h; subst hq;exact ⟨⟨Fr 26 [(4,.v (.bool false))],[]⟩,AJ,.inr rfl,[.v (.bool false)],kr,kr⟩
 ·rw [BY hb1] at h
  refine AT ?_;refine AG ?_;refine AG ?_
  let p3:Nat×AV:=(13,.v (.int .i64 0))
  let p4:Nat×AV:=(12,.v (.int .i64 (x0.length:Int)))
  refine AL (s1:=⟨Fr 26 [p2,p1,p4,p3],[]⟩) ?_ ?_
  ·refine AD (n:=26) AC 1 [p2,p1,(11,.sl 2 (x0.map (ET cdI cdI (fun _=>rfl) (fun _=>rfl)).enc))] [] kr ?_
   refine AS AC 0 rfl (DH (AB rfl) rfl (CX (a:= .sl 2 (x0.map (ET cdI cdI (fun _=>rfl) (fun _=>rfl)).enc)) kr (BS (el:=90) kr))) ?_;exact AX AC
  refine AZ ?_;obtain ⟨r8,hr8,h⟩:=OB h;refine Bj (n:=100000) ?_;rcases r8 with w9 | w10
  ·try dsimp only at h
   refine Ao (Ab (s1:=⟨Fr 26 [p2,p1,p4,p3],[]⟩) AJ (HK x0 x1 _ 0 _ hr8)) ?_;refine AK AC [(4,.v (.bool true))] [] ?_;refine AN ?_;have hq:=OI h; subst hq;exact ⟨⟨Fr 26 [(4,.v (.bool true))],[]⟩,AJ,.inr rfl,[.v (.bool true)],kr,kr⟩
  ·try dsimp only at h
   refine Ao (Ab (s1:=⟨Fr 26 [p2,p1,p4,p3],[]⟩) AJ (HK x0 x1 _ 0 _ hr8)) ?_;have hq:=OI h; subst hq;exact ⟨⟨Fr 26 [(4,.v (.bool w10))],[]⟩,AJ,.inr rfl,[.v (.bool w10)],kr,kr⟩
def MY:List AV->Option AV:=Dk GF (fun a=>CG a.1 a.2.1) GG
theorem IL:XOk 106 MY:=by
 refine AQ Tryz.func106 (c:=GB) ?h2 ⟨Tryz.call106⟩ GF (fun a=>CG a.1 a.2.1) GG (fun a=>(by show 2<=26; decide)) ?h3 ?h4
 case h2=>kernel_rfl
 case h3=>intro b; kernel_rfl
 case h4=>exact fun a b h=>Lj a.1 a.2.1 b h
/- trestle/court.Conflicts$1 -/
noncomputable def LW:Code:=A3 Tryz.f110
def Ef (x0:Int) (x1:Int) (x2:(List (List Int))):Option (Bool) :=
 (if (decide (x0 < x1))=true then (idx x2 x0).bind fun v1 =>
 (idx v1 x1).bind fun v2 =>
 if (decide (v2 > 0))=true then (idx x2 x1).bind fun v3 =>
 (idx v3 x0).bind fun v4 =>
 some (decide (v4 > 0)) else some false else some false).bind fun j6 =>
 some j6
def IP:Cs (Int×Int×(List (List Int))×Unit):=(csC cdI (csC cdI (csC (cdP (cdL 1 (cdL 1 cdI))) csN)))
def IT (r:Bool):AV:=cdB.enc r
theorem O5 (x0:Int) (x1:Int) (x2:(List (List Int))) (r:Bool) (h:Ef x0 x1 x2=some r):Sem E0 ⟨none,false⟩ LW ⟨Fr 29 (Av 0 (IP.enc (x0,x1,x2,()))),[]⟩ fun e s'=>(e = .normal\/e = .ret)/\∃ xs,D6 E0.P s'.fr s'.hp Tryz.f110.results.toList=some xs/\EA xs=IT r:=by
 unfold Ef at h;refine Aj (A8 (s1:=⟨Fr 29 [(0,.v (.int .i64 x0)),(1,.v (.int .i64 x1)),(2,.pe (.sl 1 (x2.map (cdL 1 cdI).enc)) 0)],[]⟩) AJ ?_);refine AK AC [(0,.v (.int .i64 x0)),(1,.v (.int .i64 x1)),(2,.pe (.sl 1 (x2.map (cdL 1 cdI).enc)) 0)] [] ?_;refine AG ?_;obtain ⟨j6,hj6,h⟩:=OB h;refine AL (s1:=⟨Fr 29 [(5,.v (.bool j6))],[]⟩) ?_ ?_
 ·refine AD (n:=29) AC 4 [(0,.v (.int .i64 x0)),(1,.v (.int .i64 x1)),(2,.pe (.sl 1 (x2.map (cdL 1 cdI).enc)) 0),(9,.v (.bool (decide (x0 < x1))))] [] kr ?_
  rcases BE (decide (x0 < x1)) with hc7 | hc7
  ·rw [if_pos hc7] at hj6
   rw [hc7];refine AD (n:=29) AC 2 [(0,.v (.int .i64 x0)),(1,.v (.int .i64 x1)),(2,.pe (.sl 1 (x2.map (cdL 1 cdI).enc)) 0),(9,.v (.bool true)),(10,.sl 1 (x2.map (cdL 1 cdI).enc)),(11,.v (.int .i64 x0))] [] kr ?_;obtain ⟨v1,hv1,hj6⟩:=OB hj6;refine AS AC 0 rfl (DH kr rfl (AW (a:= .sl 1 (x2.map (cdL 1 cdI).enc)) (b:= .v (.int .i64 x0)) kr kr (DK (e:=(cdL 1 cdI).enc) (el:=48) (k:=1) (ki:= .i64) kr kr hv1))) ?_;refine AD (n:=29) AC 2 [(0,.v (.int .i64 x0)),(1,.v (.int .i64 x1)),(2,.pe (.sl 1 (x2.map (cdL 1 cdI).enc)) 0),(9,.v (.bool true)),(13,.sl 1 (v1.map cdI.enc)),(14,.v (.int .i64 x1))] [] kr ?_;obtain ⟨v2,hv2,hj6⟩:=OB hj6;refine AS AC 0 rfl (DH kr rfl (AW (a:= .sl 1 (v1.map cdI.enc)) (b:= .v (.int .i64 x1)) kr kr (DK (e:=cdI.enc) (el:=3) (k:=1) (ki:= .i64) kr kr hv2))) ?_;refine AD (n:=29) AC 4 [(0,.v (.int .i64 x0)),(1,.v (.int .i64 x1)),(2,.pe (.sl 1 (x2.map (cdL 1 cdI).enc)) 0),(19,.v (.bool (decide (v2 > 0))))] [] kr ?_;rcases BE (decide (v2 > 0)) with hc8 | hc8
   ·rw [if_pos hc8] at hj6
    rw [hc8];refine AD (n:=29) AC 2 [(0,.v (.int .i64 x0)),(19,.v (.bool true)),(20,.sl 1 (x2.map (cdL 1 cdI).enc)),(21,.v (.int .i64 x1))] [] kr ?_;obtain ⟨v3,hv3,hj6⟩:=OB hj6;refine AS AC 0 rfl (DH kr rfl (AW (a:= .sl 1 (x2.map (cdL 1 cdI).enc)) (b:= .v (.int .i64 x1)) kr kr (DK (e:=(cdL 1 cdI).enc) (el:=48) (k:=1) (ki:= .i64) kr kr hv3))) ?_;refine AD (n:=29) AC 2 [(19,.v (.bool true)),(23,.sl 1 (v3.map cdI.enc)),(24,.v (.int .i64 x0))] [] kr ?_;obtain ⟨v4,hv4,hj6⟩:=OB hj6;refine AS AC 0 rfl (DH kr rfl (AW (a:= .sl 1 (v3.map cdI.enc)) (b:= .v (.int .i64 x0)) kr kr (DK (e:=cdI.enc) (el:=3) (k:=1) (ki:= .i64) kr kr hv4))) ?_;refine AD (n:=29) AC 4 [(5,.v (.bool (decide (v4 > 0))))] [] kr ?_;have hq:=OI hj6; subst hq;exact AI rfl AJ
   ·rw [BY hc8] at hj6
    rw [hc8];refine AD (n:=29) AC 10 [(5,.v (.bool false))] [] kr ?_;have hq:=OI hj6; subst hq;exact AI rfl AJ
  ·rw [BY hc7] at hj6
   rw [hc7];refine AD (n:=29) AC 20 [(5,.v (.bool false))] [] kr ?_;have hq:=OI hj6; subst hq;exact AI rfl AJ
 refine AN ?_;have hq:=OI h; subst hq;exact ⟨⟨Fr 29 [(5,.v (.bool j6))],[]⟩,AJ,.inr rfl,[.v (.bool j6)],kr,kr⟩
def Qg:List AV->Option AV:=Dk IP (fun a=>Ef a.1 a.2.1 a.2.2.1) IT
theorem Qk:XOk 110 Qg:=by
 refine AQ Tryz.func110 (c:=LW) ?h2 ⟨Tryz.call110⟩ IP (fun a=>Ef a.1 a.2.1 a.2.2.1) IT (fun a=>(by show 3<=29; decide)) ?h3 ?h4
 case h2=>kernel_rfl
 case h3=>intro b; kernel_rfl
 case h4=>exact fun a b h=>O5 a.1 a.2.1 a.2.2.1 b h
/- trestle/court.pairs -/
noncomputable def Cj:Code:=A3 Tryz.f109
def DV (c2:Int) (c6:Int) (c8:(List (Int×Int))) (v10:Bool):Option (((List (Int×Int)))) :=
 if v10=true then
 if (Gd 16 (c8.length + ([(c2,c6)]:List (Int×Int)).length))=true then
 some (c8++([(c2,c6)]:List (Int×Int)))
 else none
 else
 some c8
def BH (x0:Int) (x1:(List (List Int))) (c2:Int):Nat->Int->(List (Int×Int))->Option (((List (Int×Int))))
 | 0,_,_=>none
 | f + 1,c6,c8 =>
  if (decide (c6 < x0))=true then
  (Ef c2 c6 x1).bind fun v10 =>
  (DV c2 c6 c8 v10).bind fun r24 =>
  BH x0 x1 c2 f (wr .i64 (c6 + 1)) r24
  else
  some c8
def BG (x0:Int) (x1:(List (List Int))):Nat->Int->(List (Int×Int))->Option (((List (Int×Int))))
 | 0,_,_=>none
 | f + 1,c2,c4 =>
  if (decide (c2 < x0))=true then
  (BH x0 x1 c2 100000 0 c4).bind fun r30 =>
  BG x0 x1 f (wr .i64 (c2 + 1)) r30
  else
  some c4
def B6 (x0:Int) (x1:(List (List Int))):Option ((List (Int×Int))) :=
 (BG x0 x1 100000 0 ([]:(List (Int×Int)))).bind fun r36 =>
 some r36
theorem IZ {L:List Asn}{hp:Hp}(c2:Int) (c6:Int) (c8:(List (Int×Int))) (v10:Bool) (x0:Int) (x1:(List (List Int))) (e7:AV) (r:((List (Int×Int)))) (h:DV c2 c6 c8 v10=some r) (hT:T hp ((own_ (ocL 2 90 (ocV (ET cdI cdI (fun _=>rfl) (fun _=>rfl)))) e7 c8)::L)):SemY E0 ⟨none,false⟩ (pc Cj [1,1,0,1,0,0,1,1,0,0,1,1,0,0,1,1,0,0,1,1]) ⟨Fr 29 [(0,.v (.int .i64 x0)),(1,.fn 110 [] [.pe (.sl 1 (x1.map (cdL 1 cdI).enc)) 0]),(5,e7),(6,.v (.int .i64 c2)),(7,.v (.int .i64 c6)),(8,.v (.int .i64 x0)),(9,.v (.int .i64 c2)),(12,.v (.int .i64 x0)),(13,.v (.int .i64 c6)),(19,.v (.bool v10))],hp⟩ (fun e s=>e = .normal/\∃ s2,(∃ (e22:AV) (h':Hp),T h' ((own_ (ocL 2 90 (ocV (ET cdI cdI (fun _=>rfl) (fun _=>rfl)))) e22 r)::L)/\s2=⟨Fr 29 [(0,.v (.int .i64 x0)),(1,.fn 110 [] [.pe (.sl 1 (x1.map (cdL 1 cdI).enc)) 0]),(5,e22),(6,.v (.int .i64 c2)),(8,.v (.int .i64 x0)),(9,.v (.int .i64 c2)),(12,.v (.int .i64 x0)),(13,.v (.int .i64 c6))],h'⟩)/\WkY E0 s s2):=by
 unfold DV at h;refine Du (b:=v10) kr (fun hb11=>?_) (fun hb11=>?_)
 ·rw [if_pos hb11] at h
  refine As ?_;refine Bd AC 4 ?_;obtain ⟨e15,hp12,hb13,hT14⟩:=TM (P:=Tryz.prog) (bytes:=16) (k:=2) (t:=90) (ty:=84) (xs:=([(c2,c6)]:List (Int×Int))) (n:=1) (ABQ (k:=2) (fun _=>⟨rfl,rfl,rfl⟩)) (TI (c:=(ET cdI cdI (fun _=>rfl) (fun _=>rfl))) (xs:=([(c2,c6)]:List (Int×Int))) hT) rfl kr kr kr;refine Bq AC 0 rfl (AAz (AB rfl) rfl kr (ABZ (xs:=U3 0 [.ag [.v (.int .i64 c2),.v (.int .i64 c6)]]) kr hb13)) ?_;by_cases hk20:(Gd 16 (c8.length + ([(c2,c6)]:List (Int×Int)).length))=true
  case neg=>rw [if_neg hk20] at h; cases h
  rw [if_pos hk20] at h
  have hT21:=((hT14.front 0 rfl).front 1 rfl)
  obtain ⟨e19,hp16,hb17,hT18⟩:=TG (P:=Tryz.prog) (ty:=84) (ty2:=84) (bytes:=16) hT21 kr kr hk20;refine Bq AC 0 rfl (Xg (AB rfl) rfl kr kr (Eb (a:=e7) (b:=e15) kr kr hb17)) ?_;refine Bd AC 1 ?_;refine Cb rfl ?_;have hq:=OI h; subst hq;exact ⟨rfl,_,⟨e19,hp16,hT18,rfl⟩,WkY.f1⟩
 ·rw [BY hb11] at h
  refine SemY.skip ?_;have hq:=OI h; subst hq;exact ⟨rfl,_,⟨e7,hp,hT,rfl⟩,WkY.f1⟩
theorem Ib {L:List Asn}(x0:Int) (x1:(List (List Int))) (c2:Int):∀ (f:Nat) (c6:Int) (c8:(List (Int×Int))) (r:((List (Int×Int)))),BH x0 x1 c2 f c6 c8=some r->∀ (e7:AV) (hp:Hp),T hp ((own_ (ocL 2 90 (ocV (ET cdI cdI (fun _=>rfl) (fun _=>rfl)))) e7 c8)::L)->SemYN E0 ⟨none,false⟩ (pc Cj [1,1,0,1,0,0,1,1,0,0,1,1,0,0]) f ⟨Fr 29 [(0,.v (.int .i64 x0)),(1,.fn 110 [] [.pe (.sl 1 (x1.map (cdL 1 cdI).enc)) 0]),(5,e7),(6,.v (.int .i64 c2)),(8,.v (.int .i64 x0)),(9,.v (.int .i64 c2)),(12,.v (.int .i64 x0)),(13,.v (.int .i64 c6))],hp⟩ (fun e s=>e=(.exit 2)/\∃ s2,(∃ (e28:AV) (h':Hp),T h' ((own_ (ocL 2 90 (ocV (ET cdI cdI (fun _=>rfl) (fun _=>rfl)))) e28 r)::L)/\s2=⟨Fr 29 [(0,.v (.int .i64 x0)),(1,.fn 110 [] [.pe (.sl 1 (x1.map (cdL 1 cdI).enc)) 0]),(5,e28),(8,.v (.int .i64 x0)),(9,.v (.int .i64 c2))],h'⟩)/\WkY E0 s s2):=by
 intro f;induction f with
 | zero=>intro c6 c8 r h; cases h
 | succ f ih0 =>
  intro c6 c8 r h e7 hp hT;unfold BH at h;refine Gb ?_
  let p1:Nat×AV:=(13,.v (.int .i64 c6))
  let p2:Nat×AV:=(12,.v (.int .i64 x0))
  let p3:Nat×AV:=(9,.v (.int .i64 c2))
  let p4:Nat×AV:=(8,.v (.int .i64 x0))
  let p5:Nat×AV:=(6,.v (.int .i64 c2))
  let p6:Nat×AV:=(1,.fn 110 [] [.pe (.sl 1 (x1.map (cdL 1 cdI).enc)) 0])
  let p7:Nat×AV:=(0,.v (.int .i64 x0))
  refine CR AC [p7,p6,(5,e7),p5,p4,p3,p2,p1,(14,.v (.bool (decide (c6 < x0))))] ?_;refine BK ?_;refine Du (b:=(decide (c6 < x0))) kr (fun hb9=>?_) (fun hb9=>?_)
  ·rw [if_pos hb9] at h
   refine SemY.skip ?_;refine BK ?_;refine Ch ?_;refine CR AC [p7,p6,(5,e7),p5,(7,.v (.int .i64 c6)),p4,p3,p2,p1] ?_;refine BK ?_;refine As ?_;refine Bd AC 3 ?_;obtain ⟨v10,hv10,h⟩:=OB h;refine G6 (v:=v10) (caps:=[.pe (.sl 1 (x1.map (cdL 1 cdI).enc)) 0]) (xs:=[.v (.int .i64 c2),.v (.int .i64 c6)]) (u:=(c2,c6,x1,())) rfl rfl Qk rfl (AB rfl) kr kr (Bp (C8 (c:=cdI) (v:=c2)) (Bp (C8 (c:=cdI) (v:=c6)) (Bp (C8 (c:=(cdP (cdL 1 (cdL 1 cdI)))) (v:=x1)) SeesD.nil))) (.inl kr) hv10 ?_;refine Cb rfl (SemY.fr (l':=[p7,p6,(5,e7),p5,(7,.v (.int .i64 c6)),p4,p3,p2,p1,(19,.v (.bool v10))]) kr ?_);obtain ⟨r24,hr24,h⟩:=OB h;refine Lx (IZ c2 c6 c8 v10 x0 x1 e7 _ hr24 hT) ?_;rintro _ ⟨e25,hp26,hT27,rfl⟩;refine As ?_;refine Bd AC 2 ?_;refine Cb rfl ?_;exact D3 WkY.f1 (ih0 (wr .i64 (c6 + 1)) r24 _ h e25 hp26 hT27)
  ·rw [BY hb9] at h
   refine SemY.exit ?_;have hq:=OI h; subst hq;exact ⟨rfl,_,⟨e7,hp,hT,rfl⟩,WkY.f1⟩
theorem Ia {L:List Asn}(x0:Int) (x1:(List (List Int))):∀ (f:Nat) (c2:Int) (c4:(List (Int×Int))) (r:((List (Int×Int)))),BG x0 x1 f c2 c4=some r->∀ (e3:AV) (hp:Hp),T hp ((own_ (ocL 2 90 (ocV (ET cdI cdI (fun _=>rfl) (fun _=>rfl)))) e3 c4)::L)->SemYN E0 ⟨none,false⟩ (pc Cj [1,1,0,1,0,0]) f ⟨Fr 29 [(0,.v (.int .i64 x0)),(1,.fn 110 [] [.pe (.sl 1 (x1.map (cdL 1 cdI).enc)) 0]),(5,e3),(8,.v (.int .i64 x0)),(9,.v (.int .i64 c2))],hp⟩ (fun e s=>e=(.exit 0)/\∃ s2,(∃ (e34:AV) (h':Hp),T h' ((own_ (ocL 2 90 (ocV (ET cdI cdI (fun _=>rfl) (fun _=>rfl)))) e34 r)::L)/\s2=⟨Fr 29 [(5,e34)],h'⟩)/\WkY E0 s s2):=by
 intro f;induction f with
 | zero=>intro c2 c4 r h; cases h
 | succ f ih0 =>
  intro c2 c4 r h e3 hp hT;unfold BG at h;refine Gb ?_
  let p1:Nat×AV:=(9,.v (.int .i64 c2))
  let p2:Nat×AV:=(8,.v (.int .i64 x0))
  let p3:Nat×AV:=(1,.fn 110 [] [.pe (.sl 1 (x1.map (cdL 1 cdI).enc)) 0])
  let p4:Nat×AV:=(0,.v (.int .i64 x0))
  refine CR AC [p4,p3,(5,e3),p2,p1,(10,.v (.bool (decide (c2 < x0))))] ?_;refine BK ?_;refine Du (b:=(decide (c2 < x0))) kr (fun hb5=>?_) (fun hb5=>?_)
  ·rw [if_pos hb5] at h
   refine SemY.skip ?_;refine BK ?_;refine Ch ?_;refine CR AC [p4,p3,(5,e3),(6,.v (.int .i64 c2)),p2,p1] ?_;refine CR AC [p4,p3,(5,e3),(6,.v (.int .i64 c2)),p2,p1,(12,.v (.int .i64 x0)),(13,.v (.int .i64 0))] ?_;refine Ch ?_;refine SemY.loop (n:=100000) ?_;obtain ⟨r30,hr30,h⟩:=OB h;refine F5 (D3 WkY.f1 (Ib x0 x1 c2 _ 0 c4 _ hr30 e3 hp hT)) ?_;rintro _ ⟨e31,hp32,hT33,rfl⟩;refine As ?_;refine Bd AC 2 ?_;refine Cb rfl ?_;exact D3 WkY.f1 (ih0 (wr .i64 (c2 + 1)) r30 _ h e31 hp32 hT33)
  ·rw [BY hb5] at h
   refine SemY.exit ?_;have hq:=OI h; subst hq;exact ⟨rfl,_,⟨e3,hp,hT,rfl⟩,WkY.f1⟩
theorem I5 {L:List Asn}{hp:Hp}(x0:Int) (x1:(List (List Int))) (r:(List (Int×Int))) (h:B6 x0 x1=some r) (hT:T hp (L)):SemY E0 ⟨none,false⟩ Cj ⟨Fr 29 (Av 0 [.v (.int .i64 x0),.fn 110 [] [.pe (.sl 1 (x1.map (cdL 1 cdI).enc)) 0]]),hp⟩ fun x s'=>(x = .normal\/x = .ret)/\∃ ys,D6 E0.P s'.fr s'.hp Tryz.f109.results.toList=some ys/\(fun v h'=>v = .sl 2 (r.map (ET cdI cdI (fun _=>rfl) (fun _=>rfl)).enc)/\T h' (L)) (EA ys) s'.hp:=by
 unfold B6 at h
 let p1:Nat×AV:=(1,.fn 110 [] [.pe (.sl 1 (x1.map (cdL 1 cdI).enc)) 0])
 let p2:Nat×AV:=(0,.v (.int .i64 x0))
 refine Nh (Ov (s1:=⟨Fr 29 [p2,p1],hp⟩) WkY.f1 ?_);refine CR AC [p2,p1] ?_;refine CR AC [p2,p1,(5,.e0)] ?_;refine BK ?_;refine CR AC [p2,p1,(5,.e0),(8,.v (.int .i64 x0)),(9,.v (.int .i64 0))] ?_;refine Ch ?_
 have hT1:=(T.e0 (k:=2) (ty:=90) (o:=(ocV (ET cdI cdI (fun _=>rfl) (fun _=>rfl)))) hT)
 refine SemY.loop (n:=100000) ?_;obtain ⟨r36,hr36,h⟩:=OB h;refine F5 (D3 WkY.f1 (Ia x0 x1 _ 0 ([]:(List (Int×Int))) _ hr36 .e0 hp hT1)) ?_;rintro _ ⟨e37,hp38,hT39,rfl⟩;refine CR AC [(4,e37)] ?_;refine SemY.ret ?_;have hq:=OI h; subst hq
 let p3:Nat×AV:=(4,.sl 2 (r36.map (ET cdI cdI (fun _=>rfl) (fun _=>rfl)).enc))
 obtain ⟨hp40,hw41,hT42⟩:=Ni (E:=E0) (n:=29) (l:=[(4,e37)]) (l':=[p3]) hT39 (LkT.at_ ⟨.inr ⟨kr,rfl⟩,trivial⟩);exact ⟨⟨Fr 29 [p3],hp40⟩,(WkY.trans (WkY.trans WkY.f1 hw41) WkY.f1),.inr rfl,[.sl 2 (r36.map (ET cdI cdI (fun _=>rfl) (fun _=>rfl)).enc)],kr,⟨rfl,hT42⟩⟩
def EN:Cs (Int×(List (List Int))×Unit):=(csC cdI (csC (cdF 110 (csE (cdP (cdL 1 (cdL 1 cdI)))) (fun _=>rfl)) csN))
def Gh (r:(List (Int×Int))):AV:=(cdL 2 (ET cdI cdI (fun _=>rfl) (fun _=>rfl))).enc r
def Jm:List AV->Option AV:=Dk EN (fun a=>B6 a.1 a.2.1) Gh
theorem Jn:XOk 109 Jm:=by
 refine AQ Tryz.func109 (c:=Cj) ?h2 ⟨Tryz.call109⟩ EN (fun a=>B6 a.1 a.2.1) Gh (fun a=>(by show 2<=29; decide)) ?h3 ?h4
 case h2=>kernel_rfl
 case h3=>intro b; kernel_rfl
 case h4 =>
  intro a b h;refine Sem.mono (QL (I5 (L:=[]) (hp:=[]) a.1 a.2.1 b h T.nil)) fun e s' hs=>?_
  obtain ⟨h1,ys,h2,h3,-⟩:=hs;exact ⟨h1,ys,h2,h3⟩
/- trestle/court.Conflicts -/
noncomputable def Mb:Code:=A3 Tryz.f47
def EL (x0:(List (List AF))) (x1:(List Ai)):Option ((List (Int×Int))) :=
 (HV x0 x1).bind fun v1 =>
 if (!v1.2)=true then
 some ([]:(List (Int×Int)))
 else
 (B6 (x1.length:Int) v1.1).bind fun v17 =>
 some v17
theorem QO {L:List Asn}{hp:Hp}(x0:(List (List AF))) (x1:(List Ai)) (r:(List (Int×Int))) (h:EL x0 x1=some r) (hT:T hp (L)):SemY E0 ⟨none,false⟩ Mb ⟨Fr 19 (Av 0 [.sl 1 (x0.map (cdL 5 AA).enc),.sl 9 (x1.map AE.enc)]),hp⟩ fun x s'=>(x = .normal\/x = .ret)/\∃ ys,D6 E0.P s'.fr s'.hp Tryz.f47.results.toList=some ys/\(fun v h'=>v = .sl 2 (r.map (ET cdI cdI (fun _=>rfl) (fun _=>rfl)).enc)/\T h' (L)) (EA ys) s'.hp:=by
 unfold EL at h
 let p1:Nat×AV:=(1,.sl 9 (x1.map AE.enc))
 let p2:Nat×AV:=(0,.sl 1 (x0.map (cdL 5 AA).enc))
 refine Nh (Ov (s1:=⟨Fr 19 [p2,p1],hp⟩) WkY.f1 ?_);refine CR AC [p2,p1] ?_;refine BK ?_;refine As ?_;refine Bd AC 2 ?_;obtain ⟨v1,hv1,h⟩:=OB h;refine G6 (v:=v1) (caps:=[]) (xs:=[.sl 1 (x0.map (cdL 5 AA).enc),.sl 9 (x1.map AE.enc)]) (u:=(x0,x1,())) rfl rfl OF rfl (AB rfl) kr kr (Bp (C8 (c:=(cdL 1 (cdL 5 AA))) (v:=x0)) (Bp (C8 (c:=(cdL 9 AE)) (v:=x1)) SeesD.nil)) (.inr ⟨by kernel_rfl,KG.de (x0,x1,())⟩) hv1 ?_;refine Bd AC 3 ?_;obtain ⟨e2,hp3,hb4,hT5⟩:=Xp (t:=46) (a:= .e0) hT kr;refine Bq AC 0 rfl (AAz (AB rfl) rfl kr (AAF (z:= .e0) kr hb4)) ?_;obtain ⟨hp6,hs7,hT8⟩:=AAi (P:=Tryz.prog) (ty:=46) (y:= .sl 1 (v1.1.map (cdL 1 cdI).enc)) (a':= .sl 1 (v1.1.map (cdL 1 cdI).enc)) hT5 kr kr kr;refine RunL.store AC (y:=e2) (z:= .sl 1 (v1.1.map (cdL 1 cdI).enc)) rfl (AB rfl) kr kr hs7 ?_;refine Gc AC [p1,(5,e2),(6,.v (.bool v1.2))] ?_;refine BK ?_;refine CR AC [p1,(5,e2),(14,.v (.bool (!v1.2)))] ?_;refine Du (b:=(!v1.2)) kr (fun hb9=>?_) (fun hb9=>?_)
 ·rw [if_pos hb9] at h
  refine CR AC [(4,.e0)] ?_;refine SemY.ret ?_;have hq:=OI h; subst hq
  have hT10:=(T.e0 (k:=2) (ty:=90) (o:=(ocV (ET cdI cdI (fun _=>rfl) (fun _=>rfl)))) hT8)
  let p3:Nat×AV:=(4,.sl 2 (([]:(List (Int×Int))).map (ET cdI cdI (fun _=>rfl) (fun _=>rfl)).enc))
  obtain ⟨hp11,hw12,hT13⟩:=Qs (E:=E0) (n:=19) (l:=[(4,.e0)]) (l':=[p3]) hT10 ⟨⟨.e0,kr,Qq⟩,trivial⟩;exact ⟨⟨Fr 19 [p3],hp11⟩,(WkY.trans (WkY.trans WkY.f1 hw12) WkY.f1),.inr rfl,[.sl 2 (([]:(List (Int×Int))).map (ET cdI cdI (fun _=>rfl) (fun _=>rfl)).enc)],kr,⟨rfl,hT13.drop⟩⟩
 ·rw [BY hb9] at h
  refine SemY.skip ?_;refine BK ?_;refine As ?_;refine Bd AC 1 ?_;refine Bq AC 0 rfl (DH (AB rfl) rfl (CX (a:= .sl 9 (x1.map AE.enc)) kr (BS (el:=42) kr))) ?_;refine Bd AC 1 ?_
  let p4:Nat×AV:=(16,.v (.int .i64 (x1.length:Int)))
  obtain ⟨hp14,hw15,hT16⟩:=Qs (E:=E0) (n:=19) (l:=[p4,(17,.fn 110 [] [e2])]) (l':=[p4,(17,.fn 110 [] [.pe (.sl 1 (v1.1.map (cdL 1 cdI).enc)) 0])]) (Xr (c:=(cdL 1 (cdL 1 cdI))) (x:=v1.1) hT8) ⟨⟨.v (.int .i64 (x1.length:Int)),kr,FzU.refl⟩,⟨.fn 110 [] [e2],kr,FzU.fn ⟨Qq,trivial⟩⟩,trivial⟩;refine Xk (WkY.trans WkY.f1 hw15) ?_;obtain ⟨v17,hv17,h⟩:=OB h;refine G6 (v:=v17) (caps:=[]) (xs:=[.v (.int .i64 (x1.length:Int)),.fn 110 [] [.pe (.sl 1 (v1.1.map (cdL 1 cdI).enc)) 0]]) (u:=((x1.length:Int),v1.1,())) rfl rfl Jn rfl (AB rfl) kr kr (Bp (C8 (c:=cdI) (v:=(x1.length:Int))) (Bp (C8 (c:=(cdF 110 (csE (cdP (cdL 1 (cdL 1 cdI)))) (fun _=>rfl))) (v:=v1.1)) SeesD.nil)) (.inr ⟨by kernel_rfl,EN.de ((x1.length:Int),v1.1,())⟩) hv17 ?_
  let p5:Nat×AV:=(4,.sl 2 (v17.map (ET cdI cdI (fun _=>rfl) (fun _=>rfl)).enc))
  refine Gc AC [p5] ?_;refine SemY.ret ?_;have hq:=OI h; subst hq;exact ⟨⟨Fr 19 [p5],hp14⟩,WkY.f1,.inr rfl,[.sl 2 (v17.map (ET cdI cdI (fun _=>rfl) (fun _=>rfl)).enc)],kr,⟨rfl,hT16⟩⟩
def Ml:Cs ((List (List AF))×(List Ai)×Unit):=(csC (cdL 1 (cdL 5 AA)) (csC (cdL 9 AE) csN))
def Mo (r:(List (Int×Int))):AV:=(cdL 2 (ET cdI cdI (fun _=>rfl) (fun _=>rfl))).enc r
def SN:List AV->Option AV:=Dk Ml (fun a=>EL a.1 a.2.1) Mo
theorem SW:XOk 47 SN:=by
 refine AQ Tryz.func47 (c:=Mb) ?h2 ⟨Tryz.call47⟩ Ml (fun a=>EL a.1 a.2.1) Mo (fun a=>(by show 2<=19; decide)) ?h3 ?h4
 case h2=>kernel_rfl
 case h3=>intro b; kernel_rfl
 case h4 =>
  intro a b h;refine Sem.mono (QL (QO (L:=[]) (hp:=[]) a.1 a.2.1 b h T.nil)) fun e s' hs=>?_
  obtain ⟨h1,ys,h2,h3,-⟩:=hs;exact ⟨h1,ys,h2,h3⟩
/- trestle/court.permutation -/
noncomputable def IM:Code:=A3 Tryz.f108
def Dw (x0:(List Int)) (x1:Int):Nat->(List Bool)->Int->Option ((Unit) ⊕ (Bool))
 | 0,_,_=>none
 | f + 1,c2,c3 =>
  if (decide (c3 < (x0.length:Int)))=true then
  (idx x0 c3).bind fun v5 =>
  (if (decide (v5 < 0))=true then some (c2,true) else if (decide (v5≥x1))=true then some (c2,true) else (idx c2 v5).bind fun v6 =>
  some (c2,v6)).bind fun j9 =>
  if j9.2=true then
  some (.inr false)
  else
  (idx j9.1 v5).bind fun _v12 =>
  Dw x0 x1 f (j9.1.set v5.toNat true) (wr .i64 (c3 + 1))
  else
  some (.inl ())
def Eg (x0:(List Int)) (x1:Int):Option (Bool) :=
 if (YA 1 x1)=true then
 (Dw x0 x1 100000 (List.replicate x1.toNat false) 0).bind fun r15 =>
 match r15 with
 | (.inl _w16) =>
  some ((x0.length:Int)==x1)
 | (.inr w17) =>
  some w17
 else none
def IQ:Cs ((List Int)×Int×Unit):=(csC (cdL 1 cdI) (csC cdI csN))
def IU (r:Bool):AV:=cdB.enc r
theorem JK (x0:(List Int)) (x1:Int):∀ (f:Nat) (c2:(List Bool)) (c3:Int) (r:(Unit) ⊕ (Bool)),Dw x0 x1 f c2 c3=some r->SemN E0 ⟨none,false⟩ (pc IM [1,1,0,1,0,0]) f ⟨Fr 37 [(0,.sl 1 (x0.map cdI.enc)),(1,.v (.int .i64 x1)),(5,.rf 0 0 c2.length c2.length),(10,.sl 1 (x0.map cdI.enc)),(11,.v (.int .i64 (x0.length:Int))),(12,.v (.int .i64 c3))],[some ⟨1,4,(c2.map cdB.enc),false⟩]⟩ (fun e s=>match r with
 | (.inl _w)=>e=(.exit 0)/\Wk E0 s ⟨Fr 37 [(0,.sl 1 (x0.map cdI.enc)),(1,.v (.int .i64 x1))],[]⟩
 | (.inr w)=>e = .ret/\Wk E0 s ⟨Fr 37 [(4,.v (.bool w))],[]⟩):=by
 intro f;induction f with
 | zero=>intro c2 c3 r h; cases h
 | succ f ih0 =>
  intro c2 c3 r h
  have ih:=fun (c2:(List Bool)) (c3:Int)=>ih0 c2 c3 r
  unfold Dw at h;refine BR ?_;refine AK AC [(0,.sl 1 (x0.map cdI.enc)),(1,.v (.int .i64 x1)),(5,.rf 0 0 c2.length c2.length),(10,.sl 1 (x0.map cdI.enc)),(11,.v (.int .i64 (x0.length:Int))),(12,.v (.int .i64 c3)),(13,.v (.bool (decide (c3 < (x0.length:Int)))))] [some ⟨1,4,(c2.map cdB.enc),false⟩] ?_;refine AG ?_;refine AP (b:=(decide (c3 < (x0.length:Int)))) kr (fun hb4=>?_) (fun hb4=>?_)
  ·rw [if_pos hb4] at h
   refine AT ?_;refine AG ?_;refine AZ ?_;refine AG ?_;obtain ⟨v5,hv5,h⟩:=OB h;refine AL (s1:=⟨Fr 37 [(0,.sl 1 (x0.map cdI.enc)),(1,.v (.int .i64 x1)),(5,.rf 0 0 c2.length c2.length),(7,.v (.int .i64 v5)),(10,.sl 1 (x0.map cdI.enc)),(11,.v (.int .i64 (x0.length:Int))),(12,.v (.int .i64 c3))],[some ⟨1,4,(c2.map cdB.enc),false⟩]⟩) ?_ ?_
   ·refine AS AC 0 rfl (DH (AB rfl) rfl (AW (a:= .sl 1 (x0.map cdI.enc)) (b:= .v (.int .i64 c3)) kr kr (DK (e:=cdI.enc) (el:=3) (k:=1) (ki:= .i64) kr kr hv5))) ?_
    exact AX AC
   refine AG ?_;refine AG ?_;obtain ⟨j9,hj9,h⟩:=OB h;refine AL (s1:=⟨Fr 37 [(0,.sl 1 (x0.map cdI.enc)),(1,.v (.int .i64 x1)),(5,.rf 0 0 j9.1.length j9.1.length),(7,.v (.int .i64 v5)),(10,.sl 1 (x0.map cdI.enc)),(11,.v (.int .i64 (x0.length:Int))),(12,.v (.int .i64 c3)),(28,.v (.bool j9.2))],[some ⟨1,4,(j9.1.map cdB.enc),false⟩]⟩) ?_ ?_
   ·refine AD (n:=37) AC 3 [(0,.sl 1 (x0.map cdI.enc)),(1,.v (.int .i64 x1)),(5,.rf 0 0 c2.length c2.length),(7,.v (.int .i64 v5)),(10,.sl 1 (x0.map cdI.enc)),(11,.v (.int .i64 (x0.length:Int))),(12,.v (.int .i64 c3)),(18,.v (.bool (decide (v5 < 0))))] [some ⟨1,4,(c2.map cdB.enc),false⟩] kr ?_
    rcases BE (decide (v5 < 0)) with hc13 | hc13
    ·rw [if_pos hc13] at hj9
     rw [hc13];refine AD (n:=37) AC 10 [(0,.sl 1 (x0.map cdI.enc)),(1,.v (.int .i64 x1)),(5,.rf 0 0 c2.length c2.length),(7,.v (.int .i64 v5)),(10,.sl 1 (x0.map cdI.enc)),(11,.v (.int .i64 (x0.length:Int))),(12,.v (.int .i64 c3)),(19,.tp []),(20,.tp []),(21,.tp []),(24,.tp []),(25,.tp []),(26,.tp []),(27,.tp []),(28,.v (.bool true))] [some ⟨1,4,(c2.map cdB.enc),false⟩] kr ?_;have hq:=OI hj9; subst hq;exact AI rfl (Ae [0] ⟨⟨_,rfl,NT⟩,trivial⟩ ⟨lv,lv,lv,lv,lv,lv,lv,lv,trivial⟩)
    ·rw [BY hc13] at hj9
     rw [hc13];refine AD (n:=37) AC 5 [(0,.sl 1 (x0.map cdI.enc)),(1,.v (.int .i64 x1)),(5,.rf 0 0 c2.length c2.length),(7,.v (.int .i64 v5)),(10,.sl 1 (x0.map cdI.enc)),(11,.v (.int .i64 (x0.length:Int))),(12,.v (.int .i64 c3)),(19,.v (.int .i64 v5)),(20,.v (.int .i64 x1)),(21,.v (.bool (decide (v5≥x1)))),(23,.v (.bool (decide (v5≥x1))))] [some ⟨1,4,(c2.map cdB.enc),false⟩] kr ?_;rcases BE (decide (v5≥x1)) with hc14 | hc14
     ·rw [if_pos hc14] at hj9
      rw [hc14];refine AD (n:=37) AC 5 [(0,.sl 1 (x0.map cdI.enc)),(1,.v (.int .i64 x1)),(5,.rf 0 0 c2.length c2.length),(7,.v (.int .i64 v5)),(10,.sl 1 (x0.map cdI.enc)),(11,.v (.int .i64 (x0.length:Int))),(12,.v (.int .i64 c3)),(19,.v (.int .i64 v5)),(20,.v (.int .i64 x1)),(21,.v (.bool true)),(24,.tp []),(25,.tp []),(26,.tp []),(27,.tp []),(28,.v (.bool true))] [some ⟨1,4,(c2.map cdB.enc),false⟩] kr ?_;have hq:=OI hj9; subst hq;exact AI rfl (Ae [0] ⟨⟨_,rfl,NT⟩,trivial⟩ ⟨lv,lv,lv,lv,lv,lv,lv,lv,trivial⟩)
     ·rw [BY hc14] at hj9
      rw [hc14];refine AD (n:=37) AC 2 [(0,.sl 1 (x0.map cdI.enc)),(1,.v (.int .i64 x1)),(5,.rf 0 0 c2.length c2.length),(7,.v (.int .i64 v5)),(10,.sl 1 (x0.map cdI.enc)),(11,.v (.int .i64 (x0.length:Int))),(12,.v (.int .i64 c3)),(19,.v (.int .i64 v5)),(20,.v (.int .i64 x1)),(21,.v (.bool false)),(23,.v (.bool false)),(24,.rf 0 0 c2.length c2.length),(25,.v (.int .i64 v5))] [some ⟨1,4,(c2.map cdB.enc),false⟩] kr ?_;obtain ⟨v6,hv6,hj9⟩:=OB hj9;refine AS AC 0 rfl (DH kr rfl (AW (a:= .rf 0 0 c2.length c2.length) (b:= .v (.int .i64 v5)) kr kr (AEf (e:=cdB.enc) (xs:=c2) (t':=4) (el:=4) (k:=1) (ki:= .i64) kr kr kr hv6))) ?_;refine AS AC 0 rfl (DH kr rfl (T2 (p:= .pt 0 v5.toNat 0) kr (AEh (B:=⟨1,4,(c2.map cdB.enc),false⟩) (m:=1) (g:=false) (e:=cdB.enc) (xs:=c2) kr kr kr rfl (Oj hv6).2 kr))) ?_;refine AD (n:=37) AC 1 [(0,.sl 1 (x0.map cdI.enc)),(1,.v (.int .i64 x1)),(5,.rf 0 0 c2.length c2.length),(7,.v (.int .i64 v5)),(10,.sl 1 (x0.map cdI.enc)),(11,.v (.int .i64 (x0.length:Int))),(12,.v (.int .i64 c3)),(19,.v (.int .i64 v5)),(20,.v (.int .i64 x1)),(21,.v (.bool false)),(24,.rf 0 0 c2.length c2.length),(25,.v (.int .i64 v5)),(26,.pt 0 v5.toNat 0),(27,.v (.bool v6)),(28,.v (.bool v6))] [some ⟨1,4,(c2.map cdB.enc),false⟩] kr ?_;have hq:=OI hj9; subst hq;exact AI rfl (Ae [0] ⟨⟨_,rfl,NT⟩,trivial⟩ ⟨lv,lv,lv,lv,lv,lv,lv,lv,trivial⟩)
   refine AP (b:=j9.2) kr (fun hb10=>?_) (fun hb10=>?_)
   ·rw [if_pos hb10] at h
    refine AG ?_;refine AL (s1:=⟨Fr 37 [(4,.v (.bool false))],[]⟩) ?_ ?_
    ·refine AD (n:=37) AC 1 [(4,.v (.bool false))] [some ⟨1,4,(j9.1.map cdB.enc),false⟩] kr ?_
     exact AI rfl (Ae [] trivial ⟨lv,trivial⟩)
    refine AN ?_;have hq:=OI h; subst hq;exact ⟨rfl,AJ⟩
   ·rw [BY hb10] at h
    refine AT ?_;obtain ⟨v12,hv12,h⟩:=OB h;refine AL (s1:=⟨Fr 37 [(0,.sl 1 (x0.map cdI.enc)),(1,.v (.int .i64 x1)),(5,.rf 0 0 (j9.1.set v5.toNat true).length (j9.1.set v5.toNat true).length),(10,.sl 1 (x0.map cdI.enc)),(11,.v (.int .i64 (x0.length:Int))),(12,.v (.int .i64 c3))],[some ⟨1,4,((j9.1.set v5.toNat true).map cdB.enc),false⟩]⟩) ?_ ?_
    ·refine AD (n:=37) AC 2 [(0,.sl 1 (x0.map cdI.enc)),(1,.v (.int .i64 x1)),(5,.rf 0 0 j9.1.length j9.1.length),(10,.sl 1 (x0.map cdI.enc)),(11,.v (.int .i64 (x0.length:Int))),(12,.v (.int .i64 c3)),(29,.rf 0 0 j9.1.length j9.1.length),(30,.v (.int .i64 v5))] [some ⟨1,4,(j9.1.map cdB.enc),false⟩] kr ?_
     refine AS AC 0 rfl (DH (AB rfl) rfl (AW (a:= .rf 0 0 j9.1.length j9.1.length) (b:= .v (.int .i64 v5)) kr kr (AEf (e:=cdB.enc) (xs:=j9.1) (t':=4) (el:=4) (k:=1) (ki:= .i64) kr kr kr hv12))) ?_;refine RunS.store AC (y:= .pt 0 v5.toNat 0) (z:= .v (.bool true)) rfl (AB rfl) kr kr (AE2 (t':=4) (k:=1) (e:=cdB.enc) (xs:=j9.1) (v:=v12) (v':=true) kr (Oj hv12).2 kr kr kr) ?_;exact AI rfl (Ae [0] ⟨⟨_,rfl,NT⟩,trivial⟩ ⟨lv,lv,AF4 (b':=0) (n:=j9.1.length) kr (by simp) kr,lv,lv,lv,trivial⟩)
    refine Ci AC [(0,.sl 1 (x0.map cdI.enc)),(1,.v (.int .i64 x1)),(5,.rf 0 0 (j9.1.set v5.toNat true).length (j9.1.set v5.toNat true).length),(10,.sl 1 (x0.map cdI.enc)),(11,.v (.int .i64 (x0.length:Int))),(12,.v (.int .i64 (wr .i64 (c3 + 1))))] [some ⟨1,4,((j9.1.set v5.toNat true).map cdB.enc),false⟩] ?_;exact Ab (s1:=⟨Fr 37 [(0,.sl 1 (x0.map cdI.enc)),(1,.v (.int .i64 x1)),(5,.rf 0 0 (j9.1.set v5.toNat true).length (j9.1.set v5.toNat true).length),(10,.sl 1 (x0.map cdI.enc)),(11,.v (.int .i64 (x0.length:Int))),(12,.v (.int .i64 (wr .i64 (c3 + 1))))],[some ⟨1,4,((j9.1.set v5.toNat true).map cdB.enc),false⟩]⟩) (Ae [0] ⟨⟨_,rfl,NT⟩,trivial⟩ ⟨lv,lv,lv,lv,lv,lv,trivial⟩) (ih (j9.1.set v5.toNat true) (wr .i64 (c3 + 1)) h)
  ·rw [BY hb4] at h
   refine Bi ?_;have hq:=OI h; subst hq;exact ⟨rfl,(Ae [] trivial ⟨lv,lv,trivial⟩)⟩
theorem O6 (x0:(List Int)) (x1:Int) (r:Bool) (h:Eg x0 x1=some r):Sem E0 ⟨none,false⟩ IM ⟨Fr 37 (Av 0 (IQ.enc (x0,x1,()))),[]⟩ fun e s'=>(e = .normal\/e = .ret)/\∃ xs,D6 E0.P s'.fr s'.hp Tryz.f108.results.toList=some xs/\EA xs=IU r:=by
 unfold Eg at h
 let p1:Nat×AV:=(1,.v (.int .i64 x1))
 let p2:Nat×AV:=(0,.sl 1 (x0.map cdI.enc))
 refine Aj (A8 (s1:=⟨Fr 37 [p2,p1],[]⟩) AJ ?_);refine AK AC [p2,p1] [] ?_;refine AG ?_;by_cases hk1:(YA 1 x1)=true
 case neg=>rw [if_neg hk1] at h; cases h
 rw [if_pos hk1] at h
 let p3:Option Blk:=some ⟨1,4,((List.replicate x1.toNat false).map cdB.enc),false⟩
 let p4:Nat×AV:=(5,.rf 0 0 (List.replicate x1.toNat false).length (List.replicate x1.toNat false).length)
 refine AL (s1:=⟨Fr 37 [p2,p1,p4],[p3]⟩) ?_ ?_
 ·refine AD (n:=37) AC 1 [p2,p1,(8,.v (.int .i64 x1))] [] kr ?_
  refine AS AC 0 rfl (AAz (AB rfl) rfl kr (AAG (x:= .v (.int .i64 x1)) (y:= .v (.int .i64 x1)) kr kr (AEp (c:=cdB) (z:=false) (k:=1) (bytes:=1) (el:=4) kr kr hk1))) ?_;exact AX AC
 refine AG ?_;refine AG ?_
 let p5:Nat×AV:=(12,.v (.int .i64 0))
 let p6:Nat×AV:=(11,.v (.int .i64 (x0.length:Int)))
 let p7:Nat×AV:=(10,.sl 1 (x0.map cdI.enc))
 refine AL (s1:=⟨Fr 37 [p2,p1,p4,p7,p6,p5],[p3]⟩) ?_ ?_
 ·refine AD (n:=37) AC 1 [p2,p1,p4,p7] [p3] kr ?_
  refine AS AC 0 rfl (DH (AB rfl) rfl (CX (a:= .sl 1 (x0.map cdI.enc)) kr (BS (el:=3) kr))) ?_;exact AX AC
 refine AZ ?_;obtain ⟨r15,hr15,h⟩:=OB h;refine Bj (n:=100000) ?_;rcases r15 with w16 | w17
 ·try dsimp only at h
  refine Ao (Ab (s1:=⟨Fr 37 [p2,p1,p4,p7,p6,p5],[p3]⟩) (Ae [0] ⟨⟨_,rfl,NT⟩,trivial⟩ ⟨lv,lv,lv,lv,lv,lv,trivial⟩) (JK x0 x1 _ (List.replicate x1.toNat false) 0 _ hr15)) ?_;refine AG ?_
  let p8:Nat×AV:=(4,.v (.bool ((x0.length:Int)==x1)))
  refine AL (s1:=⟨Fr 37 [p8],[]⟩) ?_ ?_
  ·refine AD (n:=37) AC 1 [p1,(33,.sl 1 (x0.map cdI.enc))] [] kr ?_
   refine AS AC 0 rfl (DH (AB rfl) rfl (CX (a:= .sl 1 (x0.map cdI.enc)) kr (BS (el:=3) kr))) ?_;exact AX AC
  refine AN ?_;have hq:=OI h; subst hq;exact ⟨⟨Fr 37 [p8],[]⟩,AJ,.inr rfl,[.v (.bool ((x0.length:Int)==x1))],kr,kr⟩
 ·try dsimp only at h
  refine Ao (Ab (s1:=⟨Fr 37 [p2,p1,p4,p7,p6,p5],[p3]⟩) (Ae [0] ⟨⟨_,rfl,NT⟩,trivial⟩ ⟨lv,lv,lv,lv,lv,lv,trivial⟩) (JK x0 x1 _ (List.replicate x1.toNat false) 0 _ hr15)) ?_;have hq:=OI h; subst hq;exact ⟨⟨Fr 37 [(4,.v (.bool w17))],[]⟩,AJ,.inr rfl,[.v (.bool w17)],kr,kr⟩
def Qh:List AV->Option AV:=Dk IQ (fun a=>Eg a.1 a.2.1) IU
theorem Ql:XOk 108 Qh:=by
 refine AQ Tryz.func108 (c:=IM) ?h2 ⟨Tryz.call108⟩ IQ (fun a=>Eg a.1 a.2.1) IU (fun a=>(by show 2<=37; decide)) ?h3 ?h4
 case h2=>kernel_rfl
 case h3=>intro b; kernel_rfl
 case h4=>exact fun a b h=>O6 a.1 a.2.1 b h
/- trestle/court.Disagreements -/
noncomputable def GM:Code:=A3 Tryz.f46
def BW (x2:(List Int)) (v1:(List (List Int))×Bool) (c7:Int) (v9:Int):Nat->Int->Int->Option ((Int))
 | 0,_,_=>none
 | f + 1,c11,c12 =>
  if (decide (c12 < (((x2.take (x2.length:Int).toNat).drop (wr .i64 (c7 + 1)).toNat).length:Int)))=true then
  (idx ((x2.take (x2.length:Int).toNat).drop (wr .i64 (c7 + 1)).toNat) c12).bind fun v14 =>
  (idx v1.1 v14).bind fun v15 =>
  (idx v15 v9).bind fun v16 =>
  BW x2 v1 c7 v9 f (wr .i64 (c11 + v16)) (wr .i64 (c12 + 1))
  else
  some c11
def DS (x2:(List Int)) (v1:(List (List Int))×Bool):Nat->Int->Int->Option ((Int))
 | 0,_,_=>none
 | f + 1,c6,c7 =>
  if (decide (c7 < (x2.length:Int)))=true then
  (idx x2 c7).bind fun v9 =>
  if (MW (wr .i64 (c7 + 1)) (x2.length:Int) x2.length)=true then
  (BW x2 v1 c7 v9 100000 c6 0).bind fun r18 =>
  DS x2 v1 f r18 (wr .i64 (c7 + 1))
  else none
  else
  some c6
def DF (x0:(List (List AF))) (x1:(List Ai)) (x2:(List Int)):Option (Int) :=
 (HV x0 x1).bind fun v1 =>
 (if (!v1.2)=true then some true else (Eg x2 (x1.length:Int)).bind fun v2 =>
 some (!v2)).bind fun j4 =>
 if j4=true then
 some 0
 else
 (DS x2 v1 100000 0 0).bind fun r20 =>
 some r20
def Hh:Cs ((List (List AF))×(List Ai)×(List Int)×Unit):=(csC (cdL 1 (cdL 5 AA)) (csC (cdL 9 AE) (csC (cdL 1 cdI) csN)))
def Hk (r:Int):AV:=cdI.enc r
theorem M0 (x2:(List Int)) (v1:(List (List Int))×Bool) (c7:Int) (v9:Int):∀ (f:Nat) (c11:Int) (c12:Int) (r:(Int)),BW x2 v1 c7 v9 f c11 c12=some r->SemN E0 ⟨none,false⟩ (pc GM [1,1,1,1,0,1,0,0,1,1,0,0,1,1,0,0]) f ⟨Fr 57 [(2,.sl 1 (x2.map cdI.enc)),(7,.sl 1 (v1.1.map (cdL 1 cdI).enc)),(9,.v (.int .i64 c11)),(11,.v (.int .i64 v9)),(29,.sl 1 (x2.map cdI.enc)),(30,.v (.int .i64 (x2.length:Int))),(31,.v (.int .i64 c7)),(39,.sl 1 (((x2.take (x2.length:Int).toNat).drop (wr .i64 (c7 + 1)).toNat).map cdI.enc)),(40,.v (.int .i64 (((x2.take (x2.length:Int).toNat).drop (wr .i64 (c7 + 1)).toNat).length:Int))),(41,.v (.int .i64 c12))],[]⟩ (fun e s=>e=(.exit 2)/\Wk E0 s ⟨Fr 57 [(2,.sl 1 (x2.map cdI.enc)),(7,.sl 1 (v1.1.map (cdL 1 cdI).enc)),(9,.v (.int .i64 r)),(29,.sl 1 (x2.map cdI.enc)),(30,.v (.int .i64 (x2.length:Int))),(31,.v (.int .i64 c7))],[]⟩):=by
 intro f;induction f with
 | zero=>intro c11 c12 r h; cases h
 | succ f ih0 =>
  intro c11 c12 r h
  have ih:=fun (c11:Int) (c12:Int)=>ih0 c11 c12 r
  unfold BW at h;refine BR ?_
  let p1:Nat×AV:=(41,.v (.int .i64 c12))
  let p2:Nat×AV:=(40,.v (.int .i64 (((x2.take (x2.length:Int).toNat).drop (wr .i64 (c7 + 1)).toNat).length:Int)))
  let p3:Nat×AV:=(39,.sl 1 (((x2.take (x2.length:Int).toNat).drop (wr .i64 (c7 + 1)).toNat).map cdI.enc))
  let p4:Nat×AV:=(31,.v (.int .i64 c7))
  let p5:Nat×AV:=(30,.v (.int .i64 (x2.length:Int)))
  let p6:Nat×AV:=(29,.sl 1 (x2.map cdI.enc))
  let p7:Nat×AV:=(11,.v (.int .i64 v9))
  let p8:Nat×AV:=(7,.sl 1 (v1.1.map (cdL 1 cdI).enc))
  let p9:Nat×AV:=(2,.sl 1 (x2.map cdI.enc))
  refine AK AC [p9,p8,(9,.v (.int .i64 c11)),p7,p6,p5,p4,p3,p2,p1,(42,.v (.bool (decide (c12 < (((x2.take (x2.length:Int).toNat).drop (wr .i64 (c7 + 1)).toNat).length:Int)))))] [] ?_;refine AG ?_;refine AP (b:=(decide (c12 < (((x2.take (x2.length:Int).toNat).drop (wr .i64 (c7 + 1)).toNat).length:Int)))) kr (fun hb13=>?_) (fun hb13=>?_)
  ·rw [if_pos hb13] at h
   refine AT ?_;refine AG ?_;refine AZ ?_;refine AG ?_;obtain ⟨v14,hv14,h⟩:=OB h;refine AL (s1:=⟨Fr 57 [p9,p8,(9,.v (.int .i64 c11)),p7,(13,.v (.int .i64 v14)),p6,p5,p4,p3,p2,p1],[]⟩) ?_ ?_
   ·refine AS AC 0 rfl (DH (AB rfl) rfl (AW (a:= .sl 1 (((x2.take (x2.length:Int).toNat).drop (wr .i64 (c7 + 1)).toNat).map cdI.enc)) (b:= .v (.int .i64 c12)) kr kr (DK (e:=cdI.enc) (el:=3) (k:=1) (ki:= .i64) kr kr hv14))) ?_
    exact AX AC
   obtain ⟨v15,hv15,h⟩:=OB h;obtain ⟨v16,hv16,h⟩:=OB h
   let p10:Nat×AV:=(9,.v (.int .i64 (wr .i64 (c11 + v16))))
   refine AL (s1:=⟨Fr 57 [p9,p8,p10,p7,p6,p5,p4,p3,p2,p1],[]⟩) ?_ ?_
   ·refine AD (n:=57) AC 3 [p9,p8,p7,p6,p5,p4,p3,p2,p1,(45,.v (.int .i64 c11)),(46,.sl 1 (v1.1.map (cdL 1 cdI).enc)),(47,.v (.int .i64 v14))] [] kr ?_
    refine AS AC 0 rfl (DH (AB rfl) rfl (AW (a:= .sl 1 (v1.1.map (cdL 1 cdI).enc)) (b:= .v (.int .i64 v14)) kr kr (DK (e:=(cdL 1 cdI).enc) (el:=48) (k:=1) (ki:= .i64) kr kr hv15))) ?_;refine AD (n:=57) AC 2 [p9,p8,p7,p6,p5,p4,p3,p2,p1,(45,.v (.int .i64 c11)),(49,.sl 1 (v15.map cdI.enc)),(50,.v (.int .i64 v9))] [] kr ?_;refine AS AC 0 rfl (DH (AB rfl) rfl (AW (a:= .sl 1 (v15.map cdI.enc)) (b:= .v (.int .i64 v9)) kr kr (DK (e:=cdI.enc) (el:=3) (k:=1) (ki:= .i64) kr kr hv16))) ?_;exact AX AC
   let p11:Nat×AV:=(41,.v (.int .i64 (wr .i64 (c12 + 1))))
   refine Ci AC [p9,p8,p10,p7,p6,p5,p4,p3,p2,p11] [] ?_;exact Ab (s1:=⟨Fr 57 [p9,p8,p10,p7,p6,p5,p4,p3,p2,p11],[]⟩) AJ (ih (wr .i64 (c11 + v16)) (wr .i64 (c12 + 1)) h)
  ·rw [BY hb13] at h
   refine Bi ?_;have hq:=OI h; subst hq;exact ⟨rfl,AJ⟩
theorem Mz (x2:(List Int)) (v1:(List (List Int))×Bool):∀ (f:Nat) (c6:Int) (c7:Int) (r:(Int)),DS x2 v1 f c6 c7=some r->SemN E0 ⟨none,false⟩ (pc GM [1,1,1,1,0,1,0,0]) f ⟨Fr 57 [(2,.sl 1 (x2.map cdI.enc)),(7,.sl 1 (v1.1.map (cdL 1 cdI).enc)),(9,.v (.int .i64 c6)),(29,.sl 1 (x2.map cdI.enc)),(30,.v (.int .i64 (x2.length:Int))),(31,.v (.int .i64 c7))],[]⟩ (fun e s=>e=(.exit 0)/\Wk E0 s ⟨Fr 57 [(9,.v (.int .i64 r))],[]⟩):=by
 intro f;induction f with
 | zero=>intro c6 c7 r h; cases h
 | succ f ih0 =>
  intro c6 c7 r h
  have ih:=fun (c6:Int) (c7:Int)=>ih0 c6 c7 r
  unfold DS at h;refine BR ?_
  let p1:Nat×AV:=(31,.v (.int .i64 c7))
  let p2:Nat×AV:=(30,.v (.int .i64 (x2.length:Int)))
  let p3:Nat×AV:=(29,.sl 1 (x2.map cdI.enc))
  let p4:Nat×AV:=(9,.v (.int .i64 c6))
  let p5:Nat×AV:=(7,.sl 1 (v1.1.map (cdL 1 cdI).enc))
  let p6:Nat×AV:=(2,.sl 1 (x2.map cdI.enc))
  refine AK AC [p6,p5,p4,p3,p2,p1,(32,.v (.bool (decide (c7 < (x2.length:Int)))))] [] ?_;refine AG ?_;refine AP (b:=(decide (c7 < (x2.length:Int)))) kr (fun hb8=>?_) (fun hb8=>?_)
  ·rw [if_pos hb8] at h
   refine AT ?_;refine AG ?_;refine AZ ?_;refine AG ?_;obtain ⟨v9,hv9,h⟩:=OB h
   let p7:Nat×AV:=(11,.v (.int .i64 v9))
   refine AL (s1:=⟨Fr 57 [p6,p5,p4,(10,.v (.int .i64 c7)),p7,p3,p2,p1],[]⟩) ?_ ?_
   ·refine AD (n:=57) AC 1 [p6,p5,p4,p3,p2,p1,(33,.v (.int .i64 c7))] [] kr ?_
    refine AS AC 0 rfl (DH (AB rfl) rfl (AW (a:= .sl 1 (x2.map cdI.enc)) (b:= .v (.int .i64 c7)) kr kr (DK (e:=cdI.enc) (el:=3) (k:=1) (ki:= .i64) kr kr hv9))) ?_;exact AX AC
   refine AG ?_;by_cases hk10:(MW (wr .i64 (c7 + 1)) (x2.length:Int) x2.length)=true
   case neg=>rw [if_neg hk10] at h; cases h
   rw [if_pos hk10] at h
   let p8:Nat×AV:=(40,.v (.int .i64 (((x2.take (x2.length:Int).toNat).drop (wr .i64 (c7 + 1)).toNat).length:Int)))
   let p9:Nat×AV:=(39,.sl 1 (((x2.take (x2.length:Int).toNat).drop (wr .i64 (c7 + 1)).toNat).map cdI.enc))
   refine AL (s1:=⟨Fr 57 [p6,p5,p4,p7,p3,p2,p1,p9,p8,(41,.v (.int .i64 0))],[]⟩) ?_ ?_
   ·refine AD (n:=57) AC 3 [p6,p5,p4,p7,p3,p2,p1,(36,.sl 1 (x2.map cdI.enc)),(38,.v (.int .i64 (wr .i64 (c7 + 1))))] [] kr ?_
    refine AS AC 0 rfl (DH (AB rfl) rfl (R9 (a:= .sl 1 (x2.map cdI.enc)) (l:=(some (.v (.int .i64 (wr .i64 (c7 + 1)))))) (u:=none) (m:=none) kr kr kr rfl (TT (xs:=x2) (e:=cdI.enc) (k:=1) (el:=3) (lo:=(wr .i64 (c7 + 1))) (hi:=(x2.length:Int)) kr kr (XF (AEL hk10)) rfl hk10))) ?_;refine AS AC 0 rfl (DH (AB rfl) rfl (CX (a:= .sl 1 (((x2.take (x2.length:Int).toNat).drop (wr .i64 (c7 + 1)).toNat).map cdI.enc)) kr (BS (el:=3) kr))) ?_;exact AX AC
   refine AZ ?_;obtain ⟨r18,hr18,h⟩:=OB h;refine Bj (n:=100000) ?_;refine Ao (Ab (s1:=⟨Fr 57 [p6,p5,p4,p7,p3,p2,p1,p9,p8,(41,.v (.int .i64 0))],[]⟩) AJ (M0 x2 v1 c7 v9 _ c6 0 _ hr18)) ?_
   let p10:Nat×AV:=(31,.v (.int .i64 (wr .i64 (c7 + 1))))
   refine Ci AC [p6,p5,(9,.v (.int .i64 r18)),p3,p2,p10] [] ?_;exact Ab (s1:=⟨Fr 57 [p6,p5,(9,.v (.int .i64 r18)),p3,p2,p10],[]⟩) AJ (ih r18 (wr .i64 (c7 + 1)) h)
  ·rw [BY hb8] at h
   refine Bi ?_;have hq:=OI h; subst hq;exact ⟨rfl,AJ⟩
theorem Nn (x0:(List (List AF))) (x1:(List Ai)) (x2:(List Int)) (r:Int) (h:DF x0 x1 x2=some r):Sem E0 ⟨none,false⟩ GM ⟨Fr 57 (Av 0 (Hh.enc (x0,x1,x2,()))),[]⟩ fun e s'=>(e = .normal\/e = .ret)/\∃ xs,D6 E0.P s'.fr s'.hp Tryz.f46.results.toList=some xs/\EA xs=Hk r:=by
 unfold DF at h;refine Aj (A8 (s1:=⟨Fr 57 [(0,.sl 1 (x0.map (cdL 5 AA).enc)),(1,.sl 9 (x1.map AE.enc)),(2,.sl 1 (x2.map cdI.enc))],[]⟩) AJ ?_);refine AK AC [(0,.sl 1 (x0.map (cdL 5 AA).enc)),(1,.sl 9 (x1.map AE.enc)),(2,.sl 1 (x2.map cdI.enc))] [] ?_;refine AG ?_;obtain ⟨v1,hv1,h⟩:=OB h;refine AL (s1:=⟨Fr 57 [(1,.sl 9 (x1.map AE.enc)),(2,.sl 1 (x2.map cdI.enc)),(7,.sl 1 (v1.1.map (cdL 1 cdI).enc)),(8,.v (.bool v1.2))],[]⟩) ?_ ?_
 ·refine AD (n:=57) AC 2 [(1,.sl 9 (x1.map AE.enc)),(2,.sl 1 (x2.map cdI.enc)),(15,.sl 1 (x0.map (cdL 5 AA).enc)),(16,.sl 9 (x1.map AE.enc))] [] kr ?_
  refine AR (caps:=[]) (xs:=[.sl 1 (x0.map (cdL 5 AA).enc),.sl 9 (x1.map AE.enc)]) (u:=(x0,x1,())) rfl rfl OF rfl (AB rfl) kr kr (AM (AU (c:=(cdL 1 (cdL 5 AA))) (v:=x0)) (AM (AU (c:=(cdL 9 AE)) (v:=x1)) Af)) (.inr kr) hv1 ?_;exact AX AC
 refine AG ?_;refine AG ?_;obtain ⟨j4,hj4,h⟩:=OB h;refine AL (s1:=⟨Fr 57 [(2,.sl 1 (x2.map cdI.enc)),(7,.sl 1 (v1.1.map (cdL 1 cdI).enc)),(28,.v (.bool j4))],[]⟩) ?_ ?_
 ·refine AD (n:=57) AC 3 [(1,.sl 9 (x1.map AE.enc)),(2,.sl 1 (x2.map cdI.enc)),(7,.sl 1 (v1.1.map (cdL 1 cdI).enc)),(22,.v (.bool (!v1.2)))] [] kr ?_
  rcases BE (!v1.2) with hc21 | hc21
  ·rw [if_pos hc21] at hj4
   rw [hc21];refine AD (n:=57) AC 6 [(2,.sl 1 (x2.map cdI.enc)),(7,.sl 1 (v1.1.map (cdL 1 cdI).enc)),(28,.v (.bool true))] [] kr ?_;have hq:=OI hj4; subst hq;exact AI rfl AJ
  ·rw [BY hc21] at hj4
   rw [hc21];refine AD (n:=57) AC 2 [(2,.sl 1 (x2.map cdI.enc)),(7,.sl 1 (v1.1.map (cdL 1 cdI).enc)),(22,.v (.bool false)),(23,.sl 1 (x2.map cdI.enc)),(24,.sl 9 (x1.map AE.enc))] [] kr ?_;refine AS AC 0 rfl (DH kr rfl (CX (a:= .sl 9 (x1.map AE.enc)) kr (BS (el:=42) kr))) ?_;obtain ⟨v2,hv2,hj4⟩:=OB hj4;refine AR (caps:=[]) (xs:=[.sl 1 (x2.map cdI.enc),.v (.int .i64 (x1.length:Int))]) (u:=(x2,(x1.length:Int),())) rfl rfl Ql rfl kr kr kr (AM (AU (c:=(cdL 1 cdI)) (v:=x2)) (AM (AU (c:=cdI) (v:=(x1.length:Int))) Af)) (.inl kr) hv2 ?_;refine AD (n:=57) AC 2 [(2,.sl 1 (x2.map cdI.enc)),(7,.sl 1 (v1.1.map (cdL 1 cdI).enc)),(28,.v (.bool (!v2)))] [] kr ?_;have hq:=OI hj4; subst hq;exact AI rfl AJ
 refine AP (b:=j4) kr (fun hb5=>?_) (fun hb5=>?_)
 ·rw [if_pos hb5] at h
  refine AK AC [(6,.v (.int .i64 0))] [] ?_;refine AN ?_;have hq:=OI h; subst hq;exact ⟨⟨Fr 57 [(6,.v (.int .i64 0))],[]⟩,AJ,.inr rfl,[.v (.int .i64 0)],kr,kr⟩
 ·rw [BY hb5] at h
  refine AT ?_;refine AK AC [(2,.sl 1 (x2.map cdI.enc)),(7,.sl 1 (v1.1.map (cdL 1 cdI).enc)),(9,.v (.int .i64 0))] [] ?_;refine AG ?_;refine AG ?_;refine AL (s1:=⟨Fr 57 [(2,.sl 1 (x2.map cdI.enc)),(7,.sl 1 (v1.1.map (cdL 1 cdI).enc)),(9,.v (.int .i64 0)),(29,.sl 1 (x2.map cdI.enc)),(30,.v (.int .i64 (x2.length:Int))),(31,.v (.int .i64 0))],[]⟩) ?_ ?_
  ·refine AD (n:=57) AC 1 [(2,.sl 1 (x2.map cdI.enc)),(7,.sl 1 (v1.1.map (cdL 1 cdI).enc)),(9,.v (.int .i64 0)),(29,.sl 1 (x2.map cdI.enc))] [] kr ?_
   refine AS AC 0 rfl (DH (AB rfl) rfl (CX (a:= .sl 1 (x2.map cdI.enc)) kr (BS (el:=3) kr))) ?_;exact AX AC
  refine AZ ?_;obtain ⟨r20,hr20,h⟩:=OB h;refine Bj (n:=100000) ?_;refine Ao (Ab (s1:=⟨Fr 57 [(2,.sl 1 (x2.map cdI.enc)),(7,.sl 1 (v1.1.map (cdL 1 cdI).enc)),(9,.v (.int .i64 0)),(29,.sl 1 (x2.map cdI.enc)),(30,.v (.int .i64 (x2.length:Int))),(31,.v (.int .i64 0))],[]⟩) AJ (Mz x2 v1 _ 0 0 _ hr20)) ?_;refine AK AC [(6,.v (.int .i64 r20))] [] ?_;refine AN ?_;have hq:=OI h; subst hq;exact ⟨⟨Fr 57 [(6,.v (.int .i64 r20))],[]⟩,AJ,.inr rfl,[.v (.int .i64 r20)],kr,kr⟩
def PV:List AV->Option AV:=Dk Hh (fun a=>DF a.1 a.2.1 a.2.2.1) Hk
theorem Pc:XOk 46 PV:=by
 refine AQ Tryz.func46 (c:=GM) ?h2 ⟨Tryz.call46⟩ Hh (fun a=>DF a.1 a.2.1 a.2.2.1) Hk (fun a=>(by show 3<=57; decide)) ?h3 ?h4
 case h2=>kernel_rfl
 case h3=>intro b; kernel_rfl
 case h4=>exact fun a b h=>Nn a.1 a.2.1 a.2.2.1 b h
/- slices.Equal[[]string,string] -/
noncomputable def FT:Code:=A3 Tryz.f95
def DL (x0:(List (List UInt8))) (x1:(List (List UInt8))):Nat->Int->Option ((Unit) ⊕ (Bool))
 | 0,_=>none
 | f + 1,c2 =>
  if (decide (c2 < (x0.length:Int)))=true then
  (idx x0 c2).bind fun v4 =>
  (idx x1 c2).bind fun v5 =>
  if (!(v4==v5))=true then
  some (.inr false)
  else
  DL x0 x1 f (wr .i64 (c2 + 1))
  else
  some (.inl ())
def Cg (x0:(List (List UInt8))) (x1:(List (List UInt8))):Option (Bool) :=
 if ((x0.length:Int)!=(x1.length:Int))=true then
 some false
 else
 (DL x0 x1 100000 0).bind fun r8 =>
 match r8 with
 | (.inl _w9) =>
  some true
 | (.inr w10) =>
  some w10
def FX:Cs ((List (List UInt8))×(List (List UInt8))×Unit):=(csC (cdL 1 cdS) (csC (cdL 1 cdS) csN))
def FZ (r:Bool):AV:=cdB.enc r
theorem G0 (x0:(List (List UInt8))) (x1:(List (List UInt8))):∀ (f:Nat) (c2:Int) (r:(Unit) ⊕ (Bool)),DL x0 x1 f c2=some r->SemN E0 ⟨none,false⟩ (pc FT [1,1,0,1,0,0]) f ⟨Fr 26 [(0,.sl 1 (x0.map cdS.enc)),(1,.sl 1 (x1.map cdS.enc)),(12,.v (.int .i64 (x0.length:Int))),(13,.v (.int .i64 c2))],[]⟩ (fun e s=>match r with
 | (.inl _w)=>e=(.exit 0)/\Wk E0 s ⟨Fr 26 [],[]⟩
 | (.inr w)=>e = .ret/\Wk E0 s ⟨Fr 26 [(4,.v (.bool w))],[]⟩):=by
 intro f;induction f with
 | zero=>intro c2 r h; cases h
 | succ f ih0 =>
  intro c2 r h
  have ih:=fun (c2:Int)=>ih0 c2 r
  unfold DL at h;refine BR ?_
  let p1:Nat×AV:=(13,.v (.int .i64 c2))
  let p2:Nat×AV:=(12,.v (.int .i64 (x0.length:Int)))
  let p3:Nat×AV:=(1,.sl 1 (x1.map cdS.enc))
  let p4:Nat×AV:=(0,.sl 1 (x0.map cdS.enc))
  refine AK AC [p4,p3,p2,p1,(14,.v (.bool (decide (c2 < (x0.length:Int)))))] [] ?_;refine AG ?_;refine AP (b:=(decide (c2 < (x0.length:Int)))) kr (fun hb3=>?_) (fun hb3=>?_)
  ·rw [if_pos hb3] at h
   refine AT ?_;refine AG ?_;refine AZ ?_;refine AK AC [p4,p3,(5,.v (.int .i64 c2)),p2,p1] [] ?_;refine AG ?_;obtain ⟨v4,hv4,h⟩:=OB h;obtain ⟨v5,hv5,h⟩:=OB h;refine DI AC (s1:=⟨Fr 26 [p4,p3,p2,p1,(24,.v (.bool (!(v4==v5))))],[]⟩) kr ?_ ?_
   ·refine AY (n:=26) AC 2 [p4,p3,(5,.v (.int .i64 c2)),p2,p1,(16,.sl 1 (x0.map cdS.enc)),(17,.v (.int .i64 c2))] [] kr kr ?_
    refine RunDS.one AC rfl kr (Hd kr (AB rfl) rfl (AW (a:= .sl 1 (x0.map cdS.enc)) (b:= .v (.int .i64 c2)) kr kr (DK (e:=cdS.enc) (el:=9) (k:=1) (ki:= .i64) kr kr hv4)) kr) ?_;refine AY (n:=26) AC 3 [p4,p3,p2,p1,(19,.st v4),(20,.sl 1 (x1.map cdS.enc)),(21,.v (.int .i64 c2))] [] kr kr ?_;refine RunDS.one AC rfl kr (Hd kr (AB rfl) rfl (AW (a:= .sl 1 (x1.map cdS.enc)) (b:= .v (.int .i64 c2)) kr kr (DK (e:=cdS.enc) (el:=9) (k:=1) (ki:= .i64) kr kr hv5)) kr) ?_;refine AY (n:=26) AC 2 [p4,p3,p2,p1,(24,.v (.bool (!(v4==v5))))] [] kr kr ?_;exact RunDS.done rfl AJ
   refine AP (b:=(!(v4==v5))) kr (fun hb6=>?_) (fun hb6=>?_)
   ·rw [if_pos hb6] at h
    refine AK AC [(4,.v (.bool false))] [] ?_;refine AN ?_;have hq:=OI h; subst hq;exact ⟨rfl,AJ⟩
   ·rw [BY hb6] at h
    refine AT ?_
    let p5:Nat×AV:=(13,.v (.int .i64 (wr .i64 (c2 + 1))))
    refine Ci AC [p4,p3,p2,p5] [] ?_;exact Ab (s1:=⟨Fr 26 [p4,p3,p2,p5],[]⟩) AJ (ih (wr .i64 (c2 + 1)) h)
  ·rw [BY hb3] at h
   refine Bi ?_;have hq:=OI h; subst hq;exact ⟨rfl,AJ⟩
theorem KT (x0:(List (List UInt8))) (x1:(List (List UInt8))) (r:Bool) (h:Cg x0 x1=some r):Sem E0 ⟨none,false⟩ FT ⟨Fr 26 (Av 0 (FX.enc (x0,x1,()))),[]⟩ fun e s'=>(e = .normal\/e = .ret)/\∃ xs,D6 E0.P s'.fr s'.hp Tryz.f95.results.toList=some xs/\EA xs=FZ r:=by
 unfold Cg at h
 let p1:Nat×AV:=(1,.sl 1 (x1.map cdS.enc))
 let p2:Nat×AV:=(0,.sl 1 (x0.map cdS.enc))
 refine Aj (A8 (s1:=⟨Fr 26 [p2,p1],[]⟩) AJ ?_);refine AK AC [p2,p1] [] ?_;refine AG ?_;refine AG ?_;refine AL (s1:=⟨Fr 26 [p2,p1,(10,.v (.bool ((x0.length:Int)!=(x1.length:Int))))],[]⟩) ?_ ?_
 ·refine AD (n:=26) AC 1 [p2,p1,(6,.sl 1 (x0.map cdS.enc))] [] kr ?_
  refine AS AC 0 rfl (DH (AB rfl) rfl (CX (a:= .sl 1 (x0.map cdS.enc)) kr (BS (el:=9) kr))) ?_;refine AD (n:=26) AC 1 [p2,p1,(7,.v (.int .i64 (x0.length:Int))),(8,.sl 1 (x1.map cdS.enc))] [] kr ?_;refine AS AC 0 rfl (DH (AB rfl) rfl (CX (a:= .sl 1 (x1.map cdS.enc)) kr (BS (el:=9) kr))) ?_;exact AX AC
 refine AP (b:=((x0.length:Int)!=(x1.length:Int))) kr (fun hb1=>?_) (fun hb1=>?_)
 ·rw [if_pos hb1] at h
  refine AK AC [(4,.v (.bool false))] [] ?_;refine AN ?_;have hq:=OI h; subst hq;exact ⟨⟨Fr 26 [(4,.v (.bool false))],[]⟩,AJ,.inr rfl,[.v (.bool false)],kr,kr⟩
 ·rw [BY hb1] at h
  refine AT ?_;refine AG ?_;refine AG ?_
  let p3:Nat×AV:=(13,.v (.int .i64 0))
  let p4:Nat×AV:=(12,.v (.int .i64 (x0.length:Int)))
  refine AL (s1:=⟨Fr 26 [p2,p1,p4,p3],[]⟩) ?_ ?_
  ·refine AD (n:=26) AC 1 [p2,p1,(11,.sl 1 (x0.map cdS.enc))] [] kr ?_
   refine AS AC 0 rfl (DH (AB rfl) rfl (CX (a:= .sl 1 (x0.map cdS.enc)) kr (BS (el:=9) kr))) ?_;exact AX AC
  refine AZ ?_;obtain ⟨r8,hr8,h⟩:=OB h;refine Bj (n:=100000) ?_;rcases r8 with w9 | w10
  ·try dsimp only at h
   refine Ao (Ab (s1:=⟨Fr 26 [p2,p1,p4,p3],[]⟩) AJ (G0 x0 x1 _ 0 _ hr8)) ?_;refine AK AC [(4,.v (.bool true))] [] ?_;refine AN ?_;have hq:=OI h; subst hq;exact ⟨⟨Fr 26 [(4,.v (.bool true))],[]⟩,AJ,.inr rfl,[.v (.bool true)],kr,kr⟩
  ·try dsimp only at h
   refine Ao (Ab (s1:=⟨Fr 26 [p2,p1,p4,p3],[]⟩) AJ (G0 x0 x1 _ 0 _ hr8)) ?_;have hq:=OI h; subst hq;exact ⟨⟨Fr 26 [(4,.v (.bool w10))],[]⟩,AJ,.inr rfl,[.v (.bool w10)],kr,kr⟩
def Ll:List AV->Option AV:=Dk FX (fun a=>Cg a.1 a.2.1) FZ
theorem Ls:XOk 95 Ll:=by
 refine AQ Tryz.func95 (c:=FT) ?h2 ⟨Tryz.call95⟩ FX (fun a=>Cg a.1 a.2.1) FZ (fun a=>(by show 2<=26; decide)) ?h3 ?h4
 case h2=>kernel_rfl
 case h3=>intro b; kernel_rfl
 case h4=>exact fun a b h=>KT a.1 a.2.1 b h
/- trestle/trestlelaw03.SameClause -/
noncomputable def L3:Code:=A3 Tryz.f122
def EX (x0:AF) (x1:AF):Option (Bool) :=
 (if (x0.1==x1.1)=true then if (x0.2.1==x1.2.1)=true then if (x0.2.2.1==x1.2.2.1)=true then if (x0.2.2.2.2==x1.2.2.2.2)=true then (Cg x0.2.2.2.1 x1.2.2.2.1).bind fun v1 =>
 some v1 else some false else some false else some false else some false).bind fun j3 =>
 some j3
def Io:Cs (AF×AF×Unit):=(csC AA (csC AA csN))
def Iq (r:Bool):AV:=cdB.enc r
theorem Pv (x0:AF) (x1:AF) (r:Bool) (h:EX x0 x1=some r):Sem E0 ⟨none,false⟩ L3 ⟨Fr 38 (Av 0 (Io.enc (x0,x1,()))),[]⟩ fun e s'=>(e = .normal\/e = .ret)/\∃ xs,D6 E0.P s'.fr s'.hp Tryz.f122.results.toList=some xs/\EA xs=Iq r:=by
 unfold EX at h;refine Aj (A8 (s1:=⟨Fr 38 [(0,AA.enc x0),(1,AA.enc x1)],[]⟩) AJ ?_);refine AK AC [(2,.pt 0 0 0),(3,.pt 1 0 0)] [some ⟨5,60,[AA.enc x0],false⟩,some ⟨5,60,[AA.enc x1],false⟩] ?_;refine AG ?_;obtain ⟨j3,hj3,h⟩:=OB h;refine AL (s1:=⟨Fr 38 [(4,.v (.bool j3))],[]⟩) ?_ ?_
 ·refine AD (n:=38) AC 6 [(2,.pt 0 0 0),(3,.pt 1 0 0),(10,.v (.bool (x0.1==x1.1)))] [some ⟨5,60,[AA.enc x0],false⟩,some ⟨5,60,[AA.enc x1],false⟩] kr ?_
  rcases BE (x0.1==x1.1) with hc4 | hc4
  ·rw [if_pos hc4] at hj3
   rw [hc4];refine AD (n:=38) AC 7 [(2,.pt 0 0 0),(3,.pt 1 0 0),(17,.v (.bool (x0.2.1==x1.2.1)))] [some ⟨5,60,[AA.enc x0],false⟩,some ⟨5,60,[AA.enc x1],false⟩] kr ?_;rcases BE (x0.2.1==x1.2.1) with hc5 | hc5
   ·rw [if_pos hc5] at hj3
    rw [hc5];refine AD (n:=38) AC 7 [(2,.pt 0 0 0),(3,.pt 1 0 0),(24,.v (.bool (x0.2.2.1==x1.2.2.1)))] [some ⟨5,60,[AA.enc x0],false⟩,some ⟨5,60,[AA.enc x1],false⟩] kr ?_;rcases BE (x0.2.2.1==x1.2.2.1) with hc6 | hc6
    ·rw [if_pos hc6] at hj3
     rw [hc6];refine AD (n:=38) AC 7 [(2,.pt 0 0 0),(3,.pt 1 0 0),(31,.v (.bool (x0.2.2.2.2==x1.2.2.2.2)))] [some ⟨5,60,[AA.enc x0],false⟩,some ⟨5,60,[AA.enc x1],false⟩] kr ?_;rcases BE (x0.2.2.2.2==x1.2.2.2.2) with hc7 | hc7
     ·rw [if_pos hc7] at hj3
      rw [hc7];refine AD (n:=38) AC 4 [(31,.v (.bool true)),(33,.sl 1 (x0.2.2.2.1.map cdS.enc)),(35,.sl 1 (x1.2.2.2.1.map cdS.enc))] [some ⟨5,60,[AA.enc x0],false⟩,some ⟨5,60,[AA.enc x1],false⟩] kr ?_;obtain ⟨v1,hv1,hj3⟩:=OB hj3;refine AR (caps:=[]) (xs:=[.sl 1 (x0.2.2.2.1.map cdS.enc),.sl 1 (x1.2.2.2.1.map cdS.enc)]) (u:=(x0.2.2.2.1,x1.2.2.2.1,())) rfl rfl Ls rfl kr kr kr (AM (AU (c:=(cdL 1 cdS)) (v:=x0.2.2.2.1)) (AM (AU (c:=(cdL 1 cdS)) (v:=x1.2.2.2.1)) Af)) (.inl kr) hv1 ?_;refine AD (n:=38) AC 2 [(4,.v (.bool v1))] [some ⟨5,60,[AA.enc x0],false⟩,some ⟨5,60,[AA.enc x1],false⟩] kr ?_;have hq:=OI hj3; subst hq;exact AI rfl (Ae [] trivial ⟨lv,trivial⟩)
     ·rw [BY hc7] at hj3
      rw [hc7];refine AD (n:=38) AC 7 [(4,.v (.bool false))] [some ⟨5,60,[AA.enc x0],false⟩,some ⟨5,60,[AA.enc x1],false⟩] kr ?_;have hq:=OI hj3; subst hq;exact AI rfl (Ae [] trivial ⟨lv,trivial⟩)
    ·rw [BY hc6] at hj3
     rw [hc6];refine AD (n:=38) AC 14 [(4,.v (.bool false))] [some ⟨5,60,[AA.enc x0],false⟩,some ⟨5,60,[AA.enc x1],false⟩] kr ?_;have hq:=OI hj3; subst hq;exact AI rfl (Ae [] trivial ⟨lv,trivial⟩)
   ·rw [BY hc5] at hj3
    rw [hc5];refine AD (n:=38) AC 21 [(4,.v (.bool false))] [some ⟨5,60,[AA.enc x0],false⟩,some ⟨5,60,[AA.enc x1],false⟩] kr ?_;have hq:=OI hj3; subst hq;exact AI rfl (Ae [] trivial ⟨lv,trivial⟩)
  ·rw [BY hc4] at hj3
   rw [hc4];refine AD (n:=38) AC 28 [(4,.v (.bool false))] [some ⟨5,60,[AA.enc x0],false⟩,some ⟨5,60,[AA.enc x1],false⟩] kr ?_;have hq:=OI hj3; subst hq;exact AI rfl (Ae [] trivial ⟨lv,trivial⟩)
 refine AN ?_;have hq:=OI h; subst hq;exact ⟨⟨Fr 38 [(4,.v (.bool j3))],[]⟩,AJ,.inr rfl,[.v (.bool j3)],kr,kr⟩
def RL:List AV->Option AV:=Dk Io (fun a=>EX a.1 a.2.1) Iq
theorem RS:XOk 122 RL:=by
 refine AQ Tryz.func122 (c:=L3) ?h2 ⟨Tryz.call122⟩ Io (fun a=>EX a.1 a.2.1) Iq (fun a=>(by show 2<=38; decide)) ?h3 ?h4
 case h2=>kernel_rfl
 case h3=>intro b; kernel_rfl
 case h4=>exact fun a b h=>Pv a.1 a.2.1 b h
/- slices.EqualFunc[[]trestle/api.Clause,[]trestle/api.Clause,trestle/api.Clause,trestle/api.Clause] -/
noncomputable def A9:Code:=A3 Tryz.f121
def Ad (x0:(List AF)) (x1:(List AF)):Nat->Int->Option ((Unit) ⊕ (Bool))
 | 0,_=>none
 | f + 1,c2 =>
  if (decide (c2 < (x0.length:Int)))=true then
  (idx x0 c2).bind fun v4 =>
  (idx x1 c2).bind fun v5 =>
  (EX v4 v5).bind fun v6 =>
  if (!v6)=true then
  some (.inr false)
  else
  Ad x0 x1 f (wr .i64 (c2 + 1))
  else
  some (.inl ())
def Aa (x0:(List AF)) (x1:(List AF)):Option (Bool) :=
 if ((x0.length:Int)!=(x1.length:Int))=true then
 some false
 else
 (Ad x0 x1 100000 0).bind fun r9 =>
 match r9 with
 | (.inl _w10) =>
  some true
 | (.inr w11) =>
  some w11
def BA:Cs ((List AF)×(List AF)×Unit×Unit):=(csC (cdL 5 AA) (csC (cdL 5 AA) (csC (cdF 122 csN (fun _=>rfl)) csN)))
def BB (r:Bool):AV:=cdB.enc r
theorem Bh (x0:(List AF)) (x1:(List AF)):∀ (f:Nat) (c2:Int) (r:(Unit) ⊕ (Bool)),Ad x0 x1 f c2=some r->SemN E0 ⟨none,false⟩ (pc A9 [1,1,0,1,0,0]) f ⟨Fr 32 [(1,.sl 5 (x1.map AA.enc)),(2,.fn 122 [] []),(15,.sl 5 (x0.map AA.enc)),(16,.v (.int .i64 (x0.length:Int))),(17,.v (.int .i64 c2))],[]⟩ (fun e s=>match r with
 | (.inl _w)=>e=(.exit 0)/\Wk E0 s ⟨Fr 32 [],[]⟩
 | (.inr w)=>e = .ret/\Wk E0 s ⟨Fr 32 [(6,.v (.bool w))],[]⟩):=by
 intro f;induction f with
 | zero=>intro c2 r h; cases h
 | succ f ih0 =>
  intro c2 r h
  have ih:=fun (c2:Int)=>ih0 c2 r
  unfold Ad at h;refine BR ?_
  let p1:Nat×AV:=(17,.v (.int .i64 c2))
  let p2:Nat×AV:=(16,.v (.int .i64 (x0.length:Int)))
  let p3:Nat×AV:=(15,.sl 5 (x0.map AA.enc))
  let p4:Nat×AV:=(2,.fn 122 [] [])
  let p5:Nat×AV:=(1,.sl 5 (x1.map AA.enc))
  refine AK AC [p5,p4,p3,p2,p1,(18,.v (.bool (decide (c2 < (x0.length:Int)))))] [] ?_;refine AG ?_;refine AP (b:=(decide (c2 < (x0.length:Int)))) kr (fun hb3=>?_) (fun hb3=>?_)
  ·rw [if_pos hb3] at h
   refine AT ?_;refine AG ?_;refine AZ ?_;refine AG ?_;obtain ⟨v4,hv4,h⟩:=OB h
   let p6:Option Blk:=some ⟨5,60,[AA.enc v4],false⟩
   refine AL (s1:=⟨Fr 32 [p5,p4,(7,.v (.int .i64 c2)),(8,.pt 0 0 0),p3,p2,p1],[p6]⟩) ?_ ?_
   ·refine AD (n:=32) AC 1 [p5,p4,p3,p2,p1,(19,.v (.int .i64 c2))] [] kr ?_
    refine AS AC 0 rfl (DH (AB rfl) rfl (AW (a:= .sl 5 (x0.map AA.enc)) (b:= .v (.int .i64 c2)) kr kr (DK (e:=AA.enc) (el:=60) (k:=5) (ki:= .i64) kr kr hv4))) ?_;exact AX AC
   refine AG ?_;obtain ⟨v5,hv5,h⟩:=OB h
   let p7:Option Blk:=some ⟨5,60,[AA.enc v5],false⟩
   refine AL (s1:=⟨Fr 32 [p5,p4,(8,.pt 0 0 0),(9,.pt 1 0 0),p3,p2,p1],[p6,p7]⟩) ?_ ?_
   ·refine AD (n:=32) AC 2 [p5,p4,(8,.pt 0 0 0),p3,p2,p1,(22,.sl 5 (x1.map AA.enc)),(23,.v (.int .i64 c2))] [p6] kr ?_
    refine AS AC 0 rfl (DH (AB rfl) rfl (AW (a:= .sl 5 (x1.map AA.enc)) (b:= .v (.int .i64 c2)) kr kr (DK (e:=AA.enc) (el:=60) (k:=5) (ki:= .i64) kr kr hv5))) ?_;exact AX AC
   refine AG ?_;obtain ⟨v6,hv6,h⟩:=OB h;refine AL (s1:=⟨Fr 32 [p5,p4,p3,p2,p1,(30,.v (.bool (!v6)))],[]⟩) ?_ ?_
   ·refine AD (n:=32) AC 3 [p5,p4,p3,p2,p1,(26,.fn 122 [] []),(27,AA.enc v4),(28,AA.enc v5)] [p6,p7] kr ?_
    refine AR (caps:=[]) (xs:=[AA.enc v4,AA.enc v5]) (u:=(v4,v5,())) rfl rfl RS rfl (AB rfl) kr kr (AM (AU (c:=AA) (v:=v4)) (AM (AU (c:=AA) (v:=v5)) Af)) (.inl kr) hv6 ?_;refine AD (n:=32) AC 1 [p5,p4,p3,p2,p1,(30,.v (.bool (!v6)))] [p6,p7] kr ?_;exact AI rfl (Ae [] trivial ⟨lv,lv,lv,lv,lv,lv,trivial⟩)
   refine AP (b:=(!v6)) kr (fun hb7=>?_) (fun hb7=>?_)
   ·rw [if_pos hb7] at h
    refine AK AC [(6,.v (.bool false))] [] ?_;refine AN ?_;have hq:=OI h; subst hq;exact ⟨rfl,AJ⟩
   ·rw [BY hb7] at h
    refine AT ?_
    let p8:Nat×AV:=(17,.v (.int .i64 (wr .i64 (c2 + 1))))
    refine Ci AC [p5,p4,p3,p2,p8] [] ?_;exact Ab (s1:=⟨Fr 32 [p5,p4,p3,p2,p8],[]⟩) AJ (ih (wr .i64 (c2 + 1)) h)
  ·rw [BY hb3] at h
   refine Bi ?_;have hq:=OI h; subst hq;exact ⟨rfl,AJ⟩
theorem DG (x0:(List AF)) (x1:(List AF)) (r:Bool) (h:Aa x0 x1=some r):Sem E0 ⟨none,false⟩ A9 ⟨Fr 32 (Av 0 (BA.enc (x0,x1,(),()))),[]⟩ fun e s'=>(e = .normal\/e = .ret)/\∃ xs,D6 E0.P s'.fr s'.hp Tryz.f121.results.toList=some xs/\EA xs=BB r:=by
 unfold Aa at h
 let p1:Nat×AV:=(2,.fn 122 [] [])
 let p2:Nat×AV:=(1,.sl 5 (x1.map AA.enc))
 let p3:Nat×AV:=(0,.sl 5 (x0.map AA.enc))
 refine Aj (A8 (s1:=⟨Fr 32 [p3,p2,p1],[]⟩) AJ ?_);refine AK AC [p3,p2,p1] [] ?_;refine AG ?_;refine AG ?_;refine AL (s1:=⟨Fr 32 [p3,p2,p1,(14,.v (.bool ((x0.length:Int)!=(x1.length:Int))))],[]⟩) ?_ ?_
 ·refine AD (n:=32) AC 1 [p3,p2,p1,(10,.sl 5 (x0.map AA.enc))] [] kr ?_
  refine AS AC 0 rfl (DH (AB rfl) rfl (CX (a:= .sl 5 (x0.map AA.enc)) kr (BS (el:=60) kr))) ?_;refine AD (n:=32) AC 1 [p3,p2,p1,(11,.v (.int .i64 (x0.length:Int))),(12,.sl 5 (x1.map AA.enc))] [] kr ?_;refine AS AC 0 rfl (DH (AB rfl) rfl (CX (a:= .sl 5 (x1.map AA.enc)) kr (BS (el:=60) kr))) ?_;exact AX AC
 refine AP (b:=((x0.length:Int)!=(x1.length:Int))) kr (fun hb1=>?_) (fun hb1=>?_)
 ·rw [if_pos hb1] at h
  refine AK AC [(6,.v (.bool false))] [] ?_;refine AN ?_;have hq:=OI h; subst hq;exact ⟨⟨Fr 32 [(6,.v (.bool false))],[]⟩,AJ,.inr rfl,[.v (.bool false)],kr,kr⟩
 ·rw [BY hb1] at h
  refine AT ?_;refine AG ?_;refine AG ?_
  let p4:Nat×AV:=(17,.v (.int .i64 0))
  let p5:Nat×AV:=(16,.v (.int .i64 (x0.length:Int)))
  let p6:Nat×AV:=(15,.sl 5 (x0.map AA.enc))
  refine AL (s1:=⟨Fr 32 [p2,p1,p6,p5,p4],[]⟩) ?_ ?_
  ·refine AD (n:=32) AC 1 [p2,p1,p6] [] kr ?_
   refine AS AC 0 rfl (DH (AB rfl) rfl (CX (a:= .sl 5 (x0.map AA.enc)) kr (BS (el:=60) kr))) ?_;exact AX AC
  refine AZ ?_;obtain ⟨r9,hr9,h⟩:=OB h;refine Bj (n:=100000) ?_;rcases r9 with w10 | w11
  ·try dsimp only at h
   refine Ao (Ab (s1:=⟨Fr 32 [p2,p1,p6,p5,p4],[]⟩) AJ (Bh x0 x1 _ 0 _ hr9)) ?_;refine AK AC [(6,.v (.bool true))] [] ?_;refine AN ?_;have hq:=OI h; subst hq;exact ⟨⟨Fr 32 [(6,.v (.bool true))],[]⟩,AJ,.inr rfl,[.v (.bool true)],kr,kr⟩
  ·try dsimp only at h
   refine Ao (Ab (s1:=⟨Fr 32 [p2,p1,p6,p5,p4],[]⟩) AJ (Bh x0 x1 _ 0 _ hr9)) ?_;have hq:=OI h; subst hq;exact ⟨⟨Fr 32 [(6,.v (.bool w11))],[]⟩,AJ,.inr rfl,[.v (.bool w11)],kr,kr⟩
def DP:List AV->Option AV:=Dk BA (fun a=>Aa a.1 a.2.1) BB
theorem DR:XOk 121 DP:=by
 refine AQ Tryz.func121 (c:=A9) ?h2 ⟨Tryz.call121⟩ BA (fun a=>Aa a.1 a.2.1) BB (fun a=>(by show 3<=32; decide)) ?h3 ?h4
 case h2=>kernel_rfl
 case h3=>intro b; kernel_rfl
 case h4=>exact fun a b h=>DG a.1 a.2.1 b h
/- trestle/trestlelaw03.Same -/
noncomputable def Qx:Code:=A3 Tryz.f69
def J8 (x0:(List AF)) (x1:(List AF)):Option (Bool) :=
 (Aa x0 x1).bind fun v1 =>
 some v1
def Nr:Cs ((List AF)×(List AF)×Unit):=(csC (cdL 5 AA) (csC (cdL 5 AA) csN))
def Nz (r:Bool):AV:=cdB.enc r
theorem U7 (x0:(List AF)) (x1:(List AF)) (r:Bool) (h:J8 x0 x1=some r):Sem E0 ⟨none,false⟩ Qx ⟨Fr 8 (Av 0 (Nr.enc (x0,x1,()))),[]⟩ fun e s'=>(e = .normal\/e = .ret)/\∃ xs,D6 E0.P s'.fr s'.hp Tryz.f69.results.toList=some xs/\EA xs=Nz r:=by
 unfold J8 at h
 let p1:Nat×AV:=(1,.sl 5 (x1.map AA.enc))
 let p2:Nat×AV:=(0,.sl 5 (x0.map AA.enc))
 refine Aj (A8 (s1:=⟨Fr 8 [p2,p1],[]⟩) AJ ?_);refine AK AC [p2,p1] [] ?_;refine AG ?_;obtain ⟨v1,hv1,h⟩:=OB h;refine AL (s1:=⟨Fr 8 [(4,.v (.bool v1))],[]⟩) ?_ ?_
 ·refine AD (n:=8) AC 2 [(5,.sl 5 (x0.map AA.enc)),(6,.sl 5 (x1.map AA.enc))] [] kr ?_
  refine AR (caps:=[]) (xs:=[.sl 5 (x0.map AA.enc),.sl 5 (x1.map AA.enc),.fn 122 [] []]) (u:=(x0,x1,(),())) rfl rfl DR rfl (AB rfl) kr kr (AM (AU (c:=(cdL 5 AA)) (v:=x0)) (AM (AU (c:=(cdL 5 AA)) (v:=x1)) (AM (Sm.fn Af) Af))) (.inl kr) hv1 ?_;exact AX AC
 refine AN ?_;have hq:=OI h; subst hq;exact ⟨⟨Fr 8 [(4,.v (.bool v1))],[]⟩,AJ,.inr rfl,[.v (.bool v1)],kr,kr⟩
def XR:List AV->Option AV:=Dk Nr (fun a=>J8 a.1 a.2.1) Nz
theorem Xd:XOk 69 XR:=by
 refine AQ Tryz.func69 (c:=Qx) ?h2 ⟨Tryz.call69⟩ Nr (fun a=>J8 a.1 a.2.1) Nz (fun a=>(by show 2<=8; decide)) ?h3 ?h4
 case h2=>kernel_rfl
 case h3=>intro b; kernel_rfl
 case h4=>exact fun a b h=>U7 a.1 a.2.1 b h
/- slices.EqualFunc[[][]trestle/api.Clause,[][]trestle/api.Clause,[]trestle/api.Clause,[]trestle/api.Clause] -/
noncomputable def BN:Code:=A3 Tryz.f143
def AO (x0:(List (List AF))) (x1:(List (List AF))):Nat->Int->Option ((Unit) ⊕ (Bool))
 | 0,_=>none
 | f + 1,c2 =>
  if (decide (c2 < (x0.length:Int)))=true then
  (idx x0 c2).bind fun v4 =>
  (idx x1 c2).bind fun v5 =>
  (J8 v4 v5).bind fun v6 =>
  if (!v6)=true then
  some (.inr false)
  else
  AO x0 x1 f (wr .i64 (c2 + 1))
  else
  some (.inl ())
def Ac (x0:(List (List AF))) (x1:(List (List AF))):Option (Bool) :=
 if ((x0.length:Int)!=(x1.length:Int))=true then
 some false
 else
 (AO x0 x1 100000 0).bind fun r9 =>
 match r9 with
 | (.inl _w10) =>
  some true
 | (.inr w11) =>
  some w11
def BO:Cs ((List (List AF))×(List (List AF))×Unit×Unit):=(csC (cdL 1 (cdL 5 AA)) (csC (cdL 1 (cdL 5 AA)) (csC (cdF 69 csN (fun _=>rfl)) csN)))
def BP (r:Bool):AV:=cdB.enc r
theorem Bw (x0:(List (List AF))) (x1:(List (List AF))):∀ (f:Nat) (c2:Int) (r:(Unit) ⊕ (Bool)),AO x0 x1 f c2=some r->SemN E0 ⟨none,false⟩ (pc BN [1,1,0,1,0,0]) f ⟨Fr 32 [(1,.sl 1 (x1.map (cdL 5 AA).enc)),(2,.fn 69 [] []),(15,.sl 1 (x0.map (cdL 5 AA).enc)),(16,.v (.int .i64 (x0.length:Int))),(17,.v (.int .i64 c2))],[]⟩ (fun e s=>match r with
 | (.inl _w)=>e=(.exit 0)/\Wk E0 s ⟨Fr 32 [],[]⟩
 | (.inr w)=>e = .ret/\Wk E0 s ⟨Fr 32 [(6,.v (.bool w))],[]⟩):=by
 intro f;induction f with
 | zero=>intro c2 r h; cases h
 | succ f ih0 =>
  intro c2 r h
  have ih:=fun (c2:Int)=>ih0 c2 r
  unfold AO at h;refine BR ?_
  let p1:Nat×AV:=(17,.v (.int .i64 c2))
  let p2:Nat×AV:=(16,.v (.int .i64 (x0.length:Int)))
  let p3:Nat×AV:=(15,.sl 1 (x0.map (cdL 5 AA).enc))
  let p4:Nat×AV:=(2,.fn 69 [] [])
  let p5:Nat×AV:=(1,.sl 1 (x1.map (cdL 5 AA).enc))
  refine AK AC [p5,p4,p3,p2,p1,(18,.v (.bool (decide (c2 < (x0.length:Int)))))] [] ?_;refine AG ?_;refine AP (b:=(decide (c2 < (x0.length:Int)))) kr (fun hb3=>?_) (fun hb3=>?_)
  ·rw [if_pos hb3] at h
   refine AT ?_;refine AG ?_;refine AZ ?_;refine AG ?_;obtain ⟨v4,hv4,h⟩:=OB h
   let p6:Nat×AV:=(8,.sl 5 (v4.map AA.enc))
   refine AL (s1:=⟨Fr 32 [p5,p4,(7,.v (.int .i64 c2)),p6,p3,p2,p1],[]⟩) ?_ ?_
   ·refine AD (n:=32) AC 1 [p5,p4,p3,p2,p1,(19,.v (.int .i64 c2))] [] kr ?_
    refine AS AC 0 rfl (DH (AB rfl) rfl (AW (a:= .sl 1 (x0.map (cdL 5 AA).enc)) (b:= .v (.int .i64 c2)) kr kr (DK (e:=(cdL 5 AA).enc) (el:=22) (k:=1) (ki:= .i64) kr kr hv4))) ?_;exact AX AC
   refine AG ?_;obtain ⟨v5,hv5,h⟩:=OB h;refine AL (s1:=⟨Fr 32 [p5,p4,p6,(9,.sl 5 (v5.map AA.enc)),p3,p2,p1],[]⟩) ?_ ?_
   ·refine AD (n:=32) AC 2 [p5,p4,p6,p3,p2,p1,(22,.sl 1 (x1.map (cdL 5 AA).enc)),(23,.v (.int .i64 c2))] [] kr ?_
    refine AS AC 0 rfl (DH (AB rfl) rfl (AW (a:= .sl 1 (x1.map (cdL 5 AA).enc)) (b:= .v (.int .i64 c2)) kr kr (DK (e:=(cdL 5 AA).enc) (el:=22) (k:=1) (ki:= .i64) kr kr hv5))) ?_;exact AX AC
   refine AG ?_;obtain ⟨v6,hv6,h⟩:=OB h;refine AL (s1:=⟨Fr 32 [p5,p4,p3,p2,p1,(30,.v (.bool (!v6)))],[]⟩) ?_ ?_
   ·refine AD (n:=32) AC 3 [p5,p4,p3,p2,p1,(26,.fn 69 [] []),(27,.sl 5 (v4.map AA.enc)),(28,.sl 5 (v5.map AA.enc))] [] kr ?_
    refine AR (caps:=[]) (xs:=[.sl 5 (v4.map AA.enc),.sl 5 (v5.map AA.enc)]) (u:=(v4,v5,())) rfl rfl Xd rfl (AB rfl) kr kr (AM (AU (c:=(cdL 5 AA)) (v:=v4)) (AM (AU (c:=(cdL 5 AA)) (v:=v5)) Af)) (.inl kr) hv6 ?_;exact AX AC
   refine AP (b:=(!v6)) kr (fun hb7=>?_) (fun hb7=>?_)
   ·rw [if_pos hb7] at h
    refine AK AC [(6,.v (.bool false))] [] ?_;refine AN ?_;have hq:=OI h; subst hq;exact ⟨rfl,AJ⟩
   ·rw [BY hb7] at h
    refine AT ?_
    let p7:Nat×AV:=(17,.v (.int .i64 (wr .i64 (c2 + 1))))
    refine Ci AC [p5,p4,p3,p2,p7] [] ?_;exact Ab (s1:=⟨Fr 32 [p5,p4,p3,p2,p7],[]⟩) AJ (ih (wr .i64 (c2 + 1)) h)
  ·rw [BY hb3] at h
   refine Bi ?_;have hq:=OI h; subst hq;exact ⟨rfl,AJ⟩
theorem DY (x0:(List (List AF))) (x1:(List (List AF))) (r:Bool) (h:Ac x0 x1=some r):Sem E0 ⟨none,false⟩ BN ⟨Fr 32 (Av 0 (BO.enc (x0,x1,(),()))),[]⟩ fun e s'=>(e = .normal\/e = .ret)/\∃ xs,D6 E0.P s'.fr s'.hp Tryz.f143.results.toList=some xs/\EA xs=BP r:=by
 unfold Ac at h
 let p1:Nat×AV:=(2,.fn 69 [] [])
 let p2:Nat×AV:=(1,.sl 1 (x1.map (cdL 5 AA).enc))
 let p3:Nat×AV:=(0,.sl 1 (x0.map (cdL 5 AA).enc))
 refine Aj (A8 (s1:=⟨Fr 32 [p3,p2,p1],[]⟩) AJ ?_);refine AK AC [p3,p2,p1] [] ?_;refine AG ?_;refine AG ?_;refine AL (s1:=⟨Fr 32 [p3,p2,p1,(14,.v (.bool ((x0.length:Int)!=(x1.length:Int))))],[]⟩) ?_ ?_
 ·refine AD (n:=32) AC 1 [p3,p2,p1,(10,.sl 1 (x0.map (cdL 5 AA).enc))] [] kr ?_
  refine AS AC 0 rfl (DH (AB rfl) rfl (CX (a:= .sl 1 (x0.map (cdL 5 AA).enc)) kr (BS (el:=22) kr))) ?_;refine AD (n:=32) AC 1 [p3,p2,p1,(11,.v (.int .i64 (x0.length:Int))),(12,.sl 1 (x1.map (cdL 5 AA).enc))] [] kr ?_;refine AS AC 0 rfl (DH (AB rfl) rfl (CX (a:= .sl 1 (x1.map (cdL 5 AA).enc)) kr (BS (el:=22) kr))) ?_;exact AX AC
 refine AP (b:=((x0.length:Int)!=(x1.length:Int))) kr (fun hb1=>?_) (fun hb1=>?_)
 ·rw [if_pos hb1] at h
  refine AK AC [(6,.v (.bool false))] [] ?_;refine AN ?_;have hq:=OI h; subst hq;exact ⟨⟨Fr 32 [(6,.v (.bool false))],[]⟩,AJ,.inr rfl,[.v (.bool false)],kr,kr⟩
 ·rw [BY hb1] at h
  refine AT ?_;refine AG ?_;refine AG ?_
  let p4:Nat×AV:=(17,.v (.int .i64 0))
  let p5:Nat×AV:=(16,.v (.int .i64 (x0.length:Int)))
  let p6:Nat×AV:=(15,.sl 1 (x0.map (cdL 5 AA).enc))
  refine AL (s1:=⟨Fr 32 [p2,p1,p6,p5,p4],[]⟩) ?_ ?_
  ·refine AD (n:=32) AC 1 [p2,p1,p6] [] kr ?_
   refine AS AC 0 rfl (DH (AB rfl) rfl (CX (a:= .sl 1 (x0.map (cdL 5 AA).enc)) kr (BS (el:=22) kr))) ?_;exact AX AC
  refine AZ ?_;obtain ⟨r9,hr9,h⟩:=OB h;refine Bj (n:=100000) ?_;rcases r9 with w10 | w11
  ·try dsimp only at h
   refine Ao (Ab (s1:=⟨Fr 32 [p2,p1,p6,p5,p4],[]⟩) AJ (Bw x0 x1 _ 0 _ hr9)) ?_;refine AK AC [(6,.v (.bool true))] [] ?_;refine AN ?_;have hq:=OI h; subst hq;exact ⟨⟨Fr 32 [(6,.v (.bool true))],[]⟩,AJ,.inr rfl,[.v (.bool true)],kr,kr⟩
  ·try dsimp only at h
   refine Ao (Ab (s1:=⟨Fr 32 [p2,p1,p6,p5,p4],[]⟩) AJ (Bw x0 x1 _ 0 _ hr9)) ?_;have hq:=OI h; subst hq;exact ⟨⟨Fr 32 [(6,.v (.bool w11))],[]⟩,AJ,.inr rfl,[.v (.bool w11)],kr,kr⟩
def Dp:List AV->Option AV:=Dk BO (fun a=>Ac a.1 a.2.1) BP
theorem Dq:XOk 143 Dp:=by
 refine AQ Tryz.func143 (c:=BN) ?h2 ⟨Tryz.call143⟩ BO (fun a=>Ac a.1 a.2.1) BP (fun a=>(by show 3<=32; decide)) ?h3 ?h4
 case h2=>kernel_rfl
 case h3=>intro b; kernel_rfl
 case h4=>exact fun a b h=>DY a.1 a.2.1 b h
/- trestle/trestlelaw03.SameAll -/
noncomputable def Oa:Code:=A3 Tryz.f94
def Hb (x0:(List (List AF))) (x1:(List (List AF))):Option (Bool) :=
 (Ac x0 x1).bind fun v1 =>
 some v1
def K6:Cs ((List (List AF))×(List (List AF))×Unit):=(csC (cdL 1 (cdL 5 AA)) (csC (cdL 1 (cdL 5 AA)) csN))
def LT (r:Bool):AV:=cdB.enc r
theorem Rx (x0:(List (List AF))) (x1:(List (List AF))) (r:Bool) (h:Hb x0 x1=some r):Sem E0 ⟨none,false⟩ Oa ⟨Fr 8 (Av 0 (K6.enc (x0,x1,()))),[]⟩ fun e s'=>(e = .normal\/e = .ret)/\∃ xs,D6 E0.P s'.fr s'.hp Tryz.f94.results.toList=some xs/\EA xs=LT r:=by
 unfold Hb at h
 let p1:Nat×AV:=(1,.sl 1 (x1.map (cdL 5 AA).enc))
 let p2:Nat×AV:=(0,.sl 1 (x0.map (cdL 5 AA).enc))
 refine Aj (A8 (s1:=⟨Fr 8 [p2,p1],[]⟩) AJ ?_);refine AK AC [p2,p1] [] ?_;refine AG ?_;obtain ⟨v1,hv1,h⟩:=OB h;refine AL (s1:=⟨Fr 8 [(4,.v (.bool v1))],[]⟩) ?_ ?_
 ·refine AD (n:=8) AC 2 [(5,.sl 1 (x0.map (cdL 5 AA).enc)),(6,.sl 1 (x1.map (cdL 5 AA).enc))] [] kr ?_
  refine AR (caps:=[]) (xs:=[.sl 1 (x0.map (cdL 5 AA).enc),.sl 1 (x1.map (cdL 5 AA).enc),.fn 69 [] []]) (u:=(x0,x1,(),())) rfl rfl Dq rfl (AB rfl) kr kr (AM (AU (c:=(cdL 1 (cdL 5 AA))) (v:=x0)) (AM (AU (c:=(cdL 1 (cdL 5 AA))) (v:=x1)) (AM (Sm.fn Af) Af))) (.inl kr) hv1 ?_;exact AX AC
 refine AN ?_;have hq:=OI h; subst hq;exact ⟨⟨Fr 8 [(4,.v (.bool v1))],[]⟩,AJ,.inr rfl,[.v (.bool v1)],kr,kr⟩
def UW:List AV->Option AV:=Dk K6 (fun a=>Hb a.1 a.2.1) LT
theorem Uu:XOk 94 UW:=by
 refine AQ Tryz.func94 (c:=Oa) ?h2 ⟨Tryz.call94⟩ K6 (fun a=>Hb a.1 a.2.1) LT (fun a=>(by show 2<=8; decide)) ?h3 ?h4
 case h2=>kernel_rfl
 case h3=>intro b; kernel_rfl
 case h4=>exact fun a b h=>Rx a.1 a.2.1 b h
/- trestle/trestlekit.SameWords -/
noncomputable def Kj:Code:=A3 Tryz.f152
def EW (x0:(List (List UInt8))) (x1:(List (List UInt8))):Nat->Int->Option ((Unit) ⊕ (Bool))
 | 0,_=>none
 | f + 1,c2 =>
  if (decide (c2 < (x0.length:Int)))=true then
  (idx x0 c2).bind fun v4 =>
  (idx x1 c2).bind fun v5 =>
  if (!(v4==v5))=true then
  some (.inr false)
  else
  EW x0 x1 f (wr .i64 (c2 + 1))
  else
  some (.inl ())
def HZ (x0:(List (List UInt8))) (x1:(List (List UInt8))):Option (Bool) :=
 if ((x0.length:Int)!=(x1.length:Int))=true then
 some false
 else
 (EW x0 x1 100000 0).bind fun r8 =>
 match r8 with
 | (.inl _w9) =>
  some true
 | (.inr w10) =>
  some w10
def K3:Cs ((List (List UInt8))×(List (List UInt8))×Unit):=(csC (cdL 1 cdS) (csC (cdL 1 cdS) csN))
def LP (r:Bool):AV:=cdB.enc r
theorem ML (x0:(List (List UInt8))) (x1:(List (List UInt8))):∀ (f:Nat) (c2:Int) (r:(Unit) ⊕ (Bool)),EW x0 x1 f c2=some r->SemN E0 ⟨none,false⟩ (pc Kj [1,1,0,1,0,0]) f ⟨Fr 26 [(0,.sl 1 (x0.map cdS.enc)),(1,.sl 1 (x1.map cdS.enc)),(5,.v (.int .i64 c2))],[]⟩ (fun e s=>match r with
 | (.inl _w)=>e=(.exit 0)/\Wk E0 s ⟨Fr 26 [],[]⟩
 | (.inr w)=>e = .ret/\Wk E0 s ⟨Fr 26 [(4,.v (.bool w))],[]⟩):=by
 intro f;induction f with
 | zero=>intro c2 r h; cases h
 | succ f ih0 =>
  intro c2 r h
  have ih:=fun (c2:Int)=>ih0 c2 r
  unfold EW at h;refine BR ?_;refine AG ?_;refine AG ?_
  let p1:Nat×AV:=(5,.v (.int .i64 c2))
  let p2:Nat×AV:=(1,.sl 1 (x1.map cdS.enc))
  let p3:Nat×AV:=(0,.sl 1 (x0.map cdS.enc))
  refine AL (s1:=⟨Fr 26 [p3,p2,p1,(14,.v (.bool (decide (c2 < (x0.length:Int)))))],[]⟩) ?_ ?_
  ·refine AD (n:=26) AC 2 [p3,p2,p1,(11,.v (.int .i64 c2)),(12,.sl 1 (x0.map cdS.enc))] [] kr ?_
   refine AS AC 0 rfl (DH (AB rfl) rfl (CX (a:= .sl 1 (x0.map cdS.enc)) kr (BS (el:=9) kr))) ?_;exact AX AC
  refine AP (b:=(decide (c2 < (x0.length:Int)))) kr (fun hb3=>?_) (fun hb3=>?_)
  ·rw [if_pos hb3] at h
   refine AT ?_;refine AG ?_;refine AZ ?_;refine AG ?_;obtain ⟨v4,hv4,h⟩:=OB h;obtain ⟨v5,hv5,h⟩:=OB h;refine DI AC (s1:=⟨Fr 26 [p3,p2,p1,(25,.v (.bool (!(v4==v5))))],[]⟩) kr ?_ ?_
   ·refine AY (n:=26) AC 2 [p3,p2,p1,(17,.sl 1 (x0.map cdS.enc)),(18,.v (.int .i64 c2))] [] kr kr ?_
    refine RunDS.one AC rfl kr (Hd kr (AB rfl) rfl (AW (a:= .sl 1 (x0.map cdS.enc)) (b:= .v (.int .i64 c2)) kr kr (DK (e:=cdS.enc) (el:=9) (k:=1) (ki:= .i64) kr kr hv4)) kr) ?_;refine AY (n:=26) AC 3 [p3,p2,p1,(20,.st v4),(21,.sl 1 (x1.map cdS.enc)),(22,.v (.int .i64 c2))] [] kr kr ?_;refine RunDS.one AC rfl kr (Hd kr (AB rfl) rfl (AW (a:= .sl 1 (x1.map cdS.enc)) (b:= .v (.int .i64 c2)) kr kr (DK (e:=cdS.enc) (el:=9) (k:=1) (ki:= .i64) kr kr hv5)) kr) ?_;refine AY (n:=26) AC 2 [p3,p2,p1,(25,.v (.bool (!(v4==v5))))] [] kr kr ?_;exact RunDS.done rfl AJ
   refine AP (b:=(!(v4==v5))) kr (fun hb6=>?_) (fun hb6=>?_)
   ·rw [if_pos hb6] at h
    refine AK AC [(4,.v (.bool false))] [] ?_;refine AN ?_;have hq:=OI h; subst hq;exact ⟨rfl,AJ⟩
   ·rw [BY hb6] at h
    refine AT ?_
    let p4:Nat×AV:=(5,.v (.int .i64 (wr .i64 (c2 + 1))))
    refine Ci AC [p3,p2,p4] [] ?_;exact Ab (s1:=⟨Fr 26 [p3,p2,p4],[]⟩) AJ (ih (wr .i64 (c2 + 1)) h)
  ·rw [BY hb3] at h
   refine Bi ?_;have hq:=OI h; subst hq;exact ⟨rfl,AJ⟩
theorem Ru (x0:(List (List UInt8))) (x1:(List (List UInt8))) (r:Bool) (h:HZ x0 x1=some r):Sem E0 ⟨none,false⟩ Kj ⟨Fr 26 (Av 0 (K3.enc (x0,x1,()))),[]⟩ fun e s'=>(e = .normal\/e = .ret)/\∃ xs,D6 E0.P s'.fr s'.hp Tryz.f152.results.toList=some xs/\EA xs=LP r:=by
 unfold HZ at h
 let p1:Nat×AV:=(1,.sl 1 (x1.map cdS.enc))
 let p2:Nat×AV:=(0,.sl 1 (x0.map cdS.enc))
 refine Aj (A8 (s1:=⟨Fr 26 [p2,p1],[]⟩) AJ ?_);refine AK AC [p2,p1] [] ?_;refine AG ?_;refine AG ?_;refine AL (s1:=⟨Fr 26 [p2,p1,(10,.v (.bool ((x0.length:Int)!=(x1.length:Int))))],[]⟩) ?_ ?_
 ·refine AD (n:=26) AC 1 [p2,p1,(6,.sl 1 (x0.map cdS.enc))] [] kr ?_
  refine AS AC 0 rfl (DH (AB rfl) rfl (CX (a:= .sl 1 (x0.map cdS.enc)) kr (BS (el:=9) kr))) ?_;refine AD (n:=26) AC 1 [p2,p1,(7,.v (.int .i64 (x0.length:Int))),(8,.sl 1 (x1.map cdS.enc))] [] kr ?_;refine AS AC 0 rfl (DH (AB rfl) rfl (CX (a:= .sl 1 (x1.map cdS.enc)) kr (BS (el:=9) kr))) ?_;exact AX AC
 refine AP (b:=((x0.length:Int)!=(x1.length:Int))) kr (fun hb1=>?_) (fun hb1=>?_)
 ·rw [if_pos hb1] at h
  refine AK AC [(4,.v (.bool false))] [] ?_;refine AN ?_;have hq:=OI h; subst hq;exact ⟨⟨Fr 26 [(4,.v (.bool false))],[]⟩,AJ,.inr rfl,[.v (.bool false)],kr,kr⟩
 ·rw [BY hb1] at h
  refine AT ?_;refine AG ?_
  let p3:Nat×AV:=(5,.v (.int .i64 0))
  refine AK AC [p2,p1,p3] [] ?_;refine AZ ?_;obtain ⟨r8,hr8,h⟩:=OB h;refine Bj (n:=100000) ?_;rcases r8 with w9 | w10
  ·try dsimp only at h
   refine Ao (Ab (s1:=⟨Fr 26 [p2,p1,p3],[]⟩) AJ (ML x0 x1 _ 0 _ hr8)) ?_;refine AK AC [(4,.v (.bool true))] [] ?_;refine AN ?_;have hq:=OI h; subst hq;exact ⟨⟨Fr 26 [(4,.v (.bool true))],[]⟩,AJ,.inr rfl,[.v (.bool true)],kr,kr⟩
  ·try dsimp only at h
   refine Ao (Ab (s1:=⟨Fr 26 [p2,p1,p3],[]⟩) AJ (ML x0 x1 _ 0 _ hr8)) ?_;have hq:=OI h; subst hq;exact ⟨⟨Fr 26 [(4,.v (.bool w10))],[]⟩,AJ,.inr rfl,[.v (.bool w10)],kr,kr⟩
def UT:List AV->Option AV:=Dk K3 (fun a=>HZ a.1 a.2.1) LP
theorem Ur:XOk 152 UT:=by
 refine AQ Tryz.func152 (c:=Kj) ?h2 ⟨Tryz.call152⟩ K3 (fun a=>HZ a.1 a.2.1) LP (fun a=>(by show 2<=26; decide)) ?h3 ?h4
 case h2=>kernel_rfl
 case h3=>intro b; kernel_rfl
 case h4=>exact fun a b h=>Ru a.1 a.2.1 b h
/- trestle/trestlekit.SameGuest -/
noncomputable def OY:Code:=A3 Tryz.f123
def HY (x0:Ai) (x1:Ai):Option (Bool) :=
 (if (x0.1==x1.1)=true then if (x0.2.1==x1.2.1)=true then if (x0.2.2.1==x1.2.2.1)=true then if (x0.2.2.2.1==x1.2.2.2.1)=true then if (x0.2.2.2.2.1==x1.2.2.2.2.1)=true then if (x0.2.2.2.2.2.1==x1.2.2.2.2.2.1)=true then if (x0.2.2.2.2.2.2.1==x1.2.2.2.2.2.2.1)=true then if (x0.2.2.2.2.2.2.2.1==x1.2.2.2.2.2.2.2.1)=true then (HZ x0.2.2.2.2.2.2.2.2 x1.2.2.2.2.2.2.2.2).bind fun v1 =>
 some v1 else some false else some false else some false else some false else some false else some false else some false else some false).bind fun j3 =>
 some j3
def K2:Cs (Ai×Ai×Unit):=(csC AE (csC AE csN))
def LO (r:Bool):AV:=cdB.enc r
theorem Rt (x0:Ai) (x1:Ai) (r:Bool) (h:HY x0 x1=some r):Sem E0 ⟨none,false⟩ OY ⟨Fr 66 (Av 0 (K2.enc (x0,x1,()))),[]⟩ fun e s'=>(e = .normal\/e = .ret)/\∃ xs,D6 E0.P s'.fr s'.hp Tryz.f123.results.toList=some xs/\EA xs=LO r:=by
 unfold HY at h;refine Aj (A8 (s1:=⟨Fr 66 [(0,AE.enc x0),(1,AE.enc x1)],[]⟩) AJ ?_);refine AK AC [(2,.pt 0 0 0),(3,.pt 1 0 0)] [some ⟨9,42,[AE.enc x0],false⟩,some ⟨9,42,[AE.enc x1],false⟩] ?_;refine AG ?_;obtain ⟨j3,hj3,h⟩:=OB h;refine AL (s1:=⟨Fr 66 [(4,.v (.bool j3))],[]⟩) ?_ ?_
 ·refine AD (n:=66) AC 6 [(2,.pt 0 0 0),(3,.pt 1 0 0),(10,.v (.bool (x0.1==x1.1)))] [some ⟨9,42,[AE.enc x0],false⟩,some ⟨9,42,[AE.enc x1],false⟩] kr ?_
  rcases BE (x0.1==x1.1) with hc4 | hc4
  ·rw [if_pos hc4] at hj3
   rw [hc4];refine AD (n:=66) AC 7 [(2,.pt 0 0 0),(3,.pt 1 0 0),(17,.v (.bool (x0.2.1==x1.2.1)))] [some ⟨9,42,[AE.enc x0],false⟩,some ⟨9,42,[AE.enc x1],false⟩] kr ?_;rcases BE (x0.2.1==x1.2.1) with hc5 | hc5
   ·rw [if_pos hc5] at hj3
    rw [hc5];refine AD (n:=66) AC 7 [(2,.pt 0 0 0),(3,.pt 1 0 0),(24,.v (.bool (x0.2.2.1==x1.2.2.1)))] [some ⟨9,42,[AE.enc x0],false⟩,some ⟨9,42,[AE.enc x1],false⟩] kr ?_;rcases BE (x0.2.2.1==x1.2.2.1) with hc6 | hc6
    ·rw [if_pos hc6] at hj3
     rw [hc6];refine AD (n:=66) AC 7 [(2,.pt 0 0 0),(3,.pt 1 0 0),(31,.v (.bool (x0.2.2.2.1==x1.2.2.2.1)))] [some ⟨9,42,[AE.enc x0],false⟩,some ⟨9,42,[AE.enc x1],false⟩] kr ?_;rcases BE (x0.2.2.2.1==x1.2.2.2.1) with hc7 | hc7
     ·rw [if_pos hc7] at hj3
      rw [hc7];refine AD (n:=66) AC 7 [(2,.pt 0 0 0),(3,.pt 1 0 0),(38,.v (.bool (x0.2.2.2.2.1==x1.2.2.2.2.1)))] [some ⟨9,42,[AE.enc x0],false⟩,some ⟨9,42,[AE.enc x1],false⟩] kr ?_;rcases BE (x0.2.2.2.2.1==x1.2.2.2.2.1) with hc8 | hc8
      ·rw [if_pos hc8] at hj3
       rw [hc8];refine AD (n:=66) AC 7 [(2,.pt 0 0 0),(3,.pt 1 0 0),(45,.v (.bool (x0.2.2.2.2.2.1==x1.2.2.2.2.2.1)))] [some ⟨9,42,[AE.enc x0],false⟩,some ⟨9,42,[AE.enc x1],false⟩] kr ?_;rcases BE (x0.2.2.2.2.2.1==x1.2.2.2.2.2.1) with hc9 | hc9
       ·rw [if_pos hc9] at hj3
        rw [hc9];refine AD (n:=66) AC 7 [(2,.pt 0 0 0),(3,.pt 1 0 0),(52,.v (.bool (x0.2.2.2.2.2.2.1==x1.2.2.2.2.2.2.1)))] [some ⟨9,42,[AE.enc x0],false⟩,some ⟨9,42,[AE.enc x1],false⟩] kr ?_;rcases BE (x0.2.2.2.2.2.2.1==x1.2.2.2.2.2.2.1) with hc10 | hc10
        ·rw [if_pos hc10] at hj3
         rw [hc10];refine AD (n:=66) AC 7 [(2,.pt 0 0 0),(3,.pt 1 0 0),(59,.v (.bool (x0.2.2.2.2.2.2.2.1==x1.2.2.2.2.2.2.2.1)))] [some ⟨9,42,[AE.enc x0],false⟩,some ⟨9,42,[AE.enc x1],false⟩] kr ?_;rcases BE (x0.2.2.2.2.2.2.2.1==x1.2.2.2.2.2.2.2.1) with hc11 | hc11
         ·rw [if_pos hc11] at hj3
          rw [hc11];refine AD (n:=66) AC 4 [(59,.v (.bool true)),(61,.sl 1 (x0.2.2.2.2.2.2.2.2.map cdS.enc)),(63,.sl 1 (x1.2.2.2.2.2.2.2.2.map cdS.enc))] [some ⟨9,42,[AE.enc x0],false⟩,some ⟨9,42,[AE.enc x1],false⟩] kr ?_;obtain ⟨v1,hv1,hj3⟩:=OB hj3;refine AR (caps:=[]) (xs:=[.sl 1 (x0.2.2.2.2.2.2.2.2.map cdS.enc),.sl 1 (x1.2.2.2.2.2.2.2.2.map cdS.enc)]) (u:=(x0.2.2.2.2.2.2.2.2,x1.2.2.2.2.2.2.2.2,())) rfl rfl Ur rfl kr kr kr (AM (AU (c:=(cdL 1 cdS)) (v:=x0.2.2.2.2.2.2.2.2)) (AM (AU (c:=(cdL 1 cdS)) (v:=x1.2.2.2.2.2.2.2.2)) Af)) (.inl kr) hv1 ?_;refine AD (n:=66) AC 2 [(4,.v (.bool v1))] [some ⟨9,42,[AE.enc x0],false⟩,some ⟨9,42,[AE.enc x1],false⟩] kr ?_;have hq:=OI hj3; subst hq;exact AI rfl (Ae [] trivial ⟨lv,trivial⟩)
         ·rw [BY hc11] at hj3
          rw [hc11];refine AD (n:=66) AC 7 [(4,.v (.bool false))] [some ⟨9,42,[AE.enc x0],false⟩,some ⟨9,42,[AE.enc x1],false⟩] kr ?_;have hq:=OI hj3; subst hq;exact AI rfl (Ae [] trivial ⟨lv,trivial⟩)
        ·rw [BY hc10] at hj3
         rw [hc10];refine AD (n:=66) AC 14 [(4,.v (.bool false))] [some ⟨9,42,[AE.enc x0],false⟩,some ⟨9,42,[AE.enc x1],false⟩] kr ?_;have hq:=OI hj3; subst hq;exact AI rfl (Ae [] trivial ⟨lv,trivial⟩)
       ·rw [BY hc9] at hj3
        rw [hc9];refine AD (n:=66) AC 21 [(4,.v (.bool false))] [some ⟨9,42,[AE.enc x0],false⟩,some ⟨9,42,[AE.enc x1],false⟩] kr ?_;have hq:=OI hj3; subst hq;exact AI rfl (Ae [] trivial ⟨lv,trivial⟩)
      ·rw [BY hc8] at hj3
       rw [hc8];refine AD (n:=66) AC 28 [(4,.v (.bool false))] [some ⟨9,42,[AE.enc x0],false⟩,some ⟨9,42,[AE.enc x1],false⟩] kr ?_;have hq:=OI hj3; subst hq;exact AI rfl (Ae [] trivial ⟨lv,trivial⟩)
     ·rw [BY hc7] at hj3
      rw [hc7];refine AD (n:=66) AC 35 [(4,.v (.bool false))] [some ⟨9,42,[AE.enc x0],false⟩,some ⟨9,42,[AE.enc x1],false⟩] kr ?_;have hq:=OI hj3; subst hq;exact AI rfl (Ae [] trivial ⟨lv,trivial⟩)
    ·rw [BY hc6] at hj3
     rw [hc6];refine AD (n:=66) AC 42 [(4,.v (.bool false))] [some ⟨9,42,[AE.enc x0],false⟩,some ⟨9,42,[AE.enc x1],false⟩] kr ?_;have hq:=OI hj3; subst hq;exact AI rfl (Ae [] trivial ⟨lv,trivial⟩)
   ·rw [BY hc5] at hj3
    rw [hc5];refine AD (n:=66) AC 49 [(4,.v (.bool false))] [some ⟨9,42,[AE.enc x0],false⟩,some ⟨9,42,[AE.enc x1],false⟩] kr ?_;have hq:=OI hj3; subst hq;exact AI rfl (Ae [] trivial ⟨lv,trivial⟩)
  ·rw [BY hc4] at hj3
   rw [hc4];refine AD (n:=66) AC 56 [(4,.v (.bool false))] [some ⟨9,42,[AE.enc x0],false⟩,some ⟨9,42,[AE.enc x1],false⟩] kr ?_;have hq:=OI hj3; subst hq;exact AI rfl (Ae [] trivial ⟨lv,trivial⟩)
 refine AN ?_;have hq:=OI h; subst hq;exact ⟨⟨Fr 66 [(4,.v (.bool j3))],[]⟩,AJ,.inr rfl,[.v (.bool j3)],kr,kr⟩
def US:List AV->Option AV:=Dk K2 (fun a=>HY a.1 a.2.1) LO
theorem Uq:XOk 123 US:=by
 refine AQ Tryz.func123 (c:=OY) ?h2 ⟨Tryz.call123⟩ K2 (fun a=>HY a.1 a.2.1) LO (fun a=>(by show 2<=66; decide)) ?h3 ?h4
 case h2=>kernel_rfl
 case h3=>intro b; kernel_rfl
 case h4=>exact fun a b h=>Rt a.1 a.2.1 b h
/- trestle/trestlekit.SameGuests -/
noncomputable def Jr:Code:=A3 Tryz.f70
def DO (x0:(List Ai)) (x1:(List Ai)):Nat->Int->Option ((Unit) ⊕ (Bool))
 | 0,_=>none
 | f + 1,c2 =>
  if (decide (c2 < (x0.length:Int)))=true then
  (idx x0 c2).bind fun v4 =>
  (idx x1 c2).bind fun v5 =>
  (HY v4 v5).bind fun v6 =>
  if (!v6)=true then
  some (.inr false)
  else
  DO x0 x1 f (wr .i64 (c2 + 1))
  else
  some (.inl ())
def Gl (x0:(List Ai)) (x1:(List Ai)):Option (Bool) :=
 if ((x0.length:Int)!=(x1.length:Int))=true then
 some false
 else
 (DO x0 x1 100000 0).bind fun r9 =>
 match r9 with
 | (.inl _w10) =>
  some true
 | (.inr w11) =>
  some w11
def Jw:Cs ((List Ai)×(List Ai)×Unit):=(csC (cdL 9 AE) (csC (cdL 9 AE) csN))
def J2 (r:Bool):AV:=cdB.enc r
theorem LY (x0:(List Ai)) (x1:(List Ai)):∀ (f:Nat) (c2:Int) (r:(Unit) ⊕ (Bool)),DO x0 x1 f c2=some r->SemN E0 ⟨none,false⟩ (pc Jr [1,1,0,1,0,0]) f ⟨Fr 27 [(0,.sl 9 (x0.map AE.enc)),(1,.sl 9 (x1.map AE.enc)),(5,.v (.int .i64 c2))],[]⟩ (fun e s=>match r with
 | (.inl _w)=>e=(.exit 0)/\Wk E0 s ⟨Fr 27 [],[]⟩
 | (.inr w)=>e = .ret/\Wk E0 s ⟨Fr 27 [(4,.v (.bool w))],[]⟩):=by
 intro f;induction f with
 | zero=>intro c2 r h; cases h
 | succ f ih0 =>
  intro c2 r h
  have ih:=fun (c2:Int)=>ih0 c2 r
  unfold DO at h;refine BR ?_;refine AG ?_;refine AG ?_
  let p1:Nat×AV:=(5,.v (.int .i64 c2))
  let p2:Nat×AV:=(1,.sl 9 (x1.map AE.enc))
  let p3:Nat×AV:=(0,.sl 9 (x0.map AE.enc))
  refine AL (s1:=⟨Fr 27 [p3,p2,p1,(14,.v (.bool (decide (c2 < (x0.length:Int)))))],[]⟩) ?_ ?_
  ·refine AD (n:=27) AC 2 [p3,p2,p1,(11,.v (.int .i64 c2)),(12,.sl 9 (x0.map AE.enc))] [] kr ?_
   refine AS AC 0 rfl (DH (AB rfl) rfl (CX (a:= .sl 9 (x0.map AE.enc)) kr (BS (el:=42) kr))) ?_;exact AX AC
  refine AP (b:=(decide (c2 < (x0.length:Int)))) kr (fun hb3=>?_) (fun hb3=>?_)
  ·rw [if_pos hb3] at h
   refine AT ?_;refine AG ?_;refine AZ ?_;refine AG ?_;obtain ⟨v4,hv4,h⟩:=OB h;obtain ⟨v5,hv5,h⟩:=OB h;obtain ⟨v6,hv6,h⟩:=OB h;refine DI AC (s1:=⟨Fr 27 [p3,p2,p1,(26,.v (.bool (!v6)))],[]⟩) kr ?_ ?_
   ·refine AY (n:=27) AC 2 [p3,p2,p1,(17,.sl 9 (x0.map AE.enc)),(18,.v (.int .i64 c2))] [] kr kr ?_
    refine RunDS.one AC rfl kr (Hd kr (AB rfl) rfl (AW (a:= .sl 9 (x0.map AE.enc)) (b:= .v (.int .i64 c2)) kr kr (DK (e:=AE.enc) (el:=42) (k:=9) (ki:= .i64) kr kr hv4)) kr) ?_;refine AY (n:=27) AC 3 [p3,p2,p1,(20,AE.enc v4),(21,.sl 9 (x1.map AE.enc)),(22,.v (.int .i64 c2))] [] kr kr ?_;refine RunDS.one AC rfl kr (Hd kr (AB rfl) rfl (AW (a:= .sl 9 (x1.map AE.enc)) (b:= .v (.int .i64 c2)) kr kr (DK (e:=AE.enc) (el:=42) (k:=9) (ki:= .i64) kr kr hv5)) kr) ?_;refine AY (n:=27) AC 1 [p3,p2,p1,(20,AE.enc v4),(24,AE.enc v5)] [] kr kr ?_;refine Bg (caps:=[]) (xs:=[AE.enc v4,AE.enc v5]) (u:=(v4,v5,())) rfl rfl Uq rfl (AB rfl) kr kr (AM (AU (c:=AE) (v:=v4)) (AM (AU (c:=AE) (v:=v5)) Af)) kr hv6 ?_;refine AY (n:=27) AC 1 [p3,p2,p1,(26,.v (.bool (!v6)))] [] kr kr ?_;exact RunDS.done rfl AJ
   refine AP (b:=(!v6)) kr (fun hb7=>?_) (fun hb7=>?_)
   ·rw [if_pos hb7] at h
    refine AK AC [(4,.v (.bool false))] [] ?_;refine AN ?_;have hq:=OI h; subst hq;exact ⟨rfl,AJ⟩
   ·rw [BY hb7] at h
    refine AT ?_
    let p4:Nat×AV:=(5,.v (.int .i64 (wr .i64 (c2 + 1))))
    refine Ci AC [p3,p2,p4] [] ?_;exact Ab (s1:=⟨Fr 27 [p3,p2,p4],[]⟩) AJ (ih (wr .i64 (c2 + 1)) h)
  ·rw [BY hb3] at h
   refine Bi ?_;have hq:=OI h; subst hq;exact ⟨rfl,AJ⟩
theorem Q8 (x0:(List Ai)) (x1:(List Ai)) (r:Bool) (h:Gl x0 x1=some r):Sem E0 ⟨none,false⟩ Jr ⟨Fr 27 (Av 0 (Jw.enc (x0,x1,()))),[]⟩ fun e s'=>(e = .normal\/e = .ret)/\∃ xs,D6 E0.P s'.fr s'.hp Tryz.f70.results.toList=some xs/\EA xs=J2 r:=by
 unfold Gl at h
 let p1:Nat×AV:=(1,.sl 9 (x1.map AE.enc))
 let p2:Nat×AV:=(0,.sl 9 (x0.map AE.enc))
 refine Aj (A8 (s1:=⟨Fr 27 [p2,p1],[]⟩) AJ ?_);refine AK AC [p2,p1] [] ?_;refine AG ?_;refine AG ?_;refine AL (s1:=⟨Fr 27 [p2,p1,(10,.v (.bool ((x0.length:Int)!=(x1.length:Int))))],[]⟩) ?_ ?_
 ·refine AD (n:=27) AC 1 [p2,p1,(6,.sl 9 (x0.map AE.enc))] [] kr ?_
  refine AS AC 0 rfl (DH (AB rfl) rfl (CX (a:= .sl 9 (x0.map AE.enc)) kr (BS (el:=42) kr))) ?_;refine AD (n:=27) AC 1 [p2,p1,(7,.v (.int .i64 (x0.length:Int))),(8,.sl 9 (x1.map AE.enc))] [] kr ?_;refine AS AC 0 rfl (DH (AB rfl) rfl (CX (a:= .sl 9 (x1.map AE.enc)) kr (BS (el:=42) kr))) ?_;exact AX AC
 refine AP (b:=((x0.length:Int)!=(x1.length:Int))) kr (fun hb1=>?_) (fun hb1=>?_)
 ·rw [if_pos hb1] at h
  refine AK AC [(4,.v (.bool false))] [] ?_;refine AN ?_;have hq:=OI h; subst hq;exact ⟨⟨Fr 27 [(4,.v (.bool false))],[]⟩,AJ,.inr rfl,[.v (.bool false)],kr,kr⟩
 ·rw [BY hb1] at h
  refine AT ?_;refine AG ?_
  let p3:Nat×AV:=(5,.v (.int .i64 0))
  refine AK AC [p2,p1,p3] [] ?_;refine AZ ?_;obtain ⟨r9,hr9,h⟩:=OB h;refine Bj (n:=100000) ?_;rcases r9 with w10 | w11
  ·try dsimp only at h
   refine Ao (Ab (s1:=⟨Fr 27 [p2,p1,p3],[]⟩) AJ (LY x0 x1 _ 0 _ hr9)) ?_;refine AK AC [(4,.v (.bool true))] [] ?_;refine AN ?_;have hq:=OI h; subst hq;exact ⟨⟨Fr 27 [(4,.v (.bool true))],[]⟩,AJ,.inr rfl,[.v (.bool true)],kr,kr⟩
  ·try dsimp only at h
   refine Ao (Ab (s1:=⟨Fr 27 [p2,p1,p3],[]⟩) AJ (LY x0 x1 _ 0 _ hr9)) ?_;have hq:=OI h; subst hq;exact ⟨⟨Fr 27 [(4,.v (.bool w11))],[]⟩,AJ,.inr rfl,[.v (.bool w11)],kr,kr⟩
def S1:List AV->Option AV:=Dk Jw (fun a=>Gl a.1 a.2.1) J2
theorem S7:XOk 70 S1:=by
 refine AQ Tryz.func70 (c:=Jr) ?h2 ⟨Tryz.call70⟩ Jw (fun a=>Gl a.1 a.2.1) J2 (fun a=>(by show 2<=27; decide)) ?h3 ?h4
 case h2=>kernel_rfl
 case h3=>intro b; kernel_rfl
 case h4=>exact fun a b h=>Q8 a.1 a.2.1 b h
/- slices.Equal[[]int,int] -/
noncomputable def Ht:Code:=A3 Tryz.f66
def FG (x0:(List Int)) (x1:(List Int)):Nat->Int->Option ((Unit) ⊕ (Bool))
 | 0,_=>none
 | f + 1,c2 =>
  if (decide (c2 < (x0.length:Int)))=true then
  (idx x0 c2).bind fun v4 =>
  (idx x1 c2).bind fun v5 =>
  if (v4 != v5)=true then
  some (.inr false)
  else
  FG x0 x1 f (wr .i64 (c2 + 1))
  else
  some (.inl ())
def EQ (x0:(List Int)) (x1:(List Int)):Option (Bool) :=
 if ((x0.length:Int)!=(x1.length:Int))=true then
 some false
 else
 (FG x0 x1 100000 0).bind fun r8 =>
 match r8 with
 | (.inl _w9) =>
  some true
 | (.inr w10) =>
  some w10
def Hx:Cs ((List Int)×(List Int)×Unit):=(csC (cdL 1 cdI) (csC (cdL 1 cdI) csN))
def H0 (r:Bool):AV:=cdB.enc r
theorem I2 (x0:(List Int)) (x1:(List Int)):∀ (f:Nat) (c2:Int) (r:(Unit) ⊕ (Bool)),FG x0 x1 f c2=some r->SemN E0 ⟨none,false⟩ (pc Ht [1,1,0,1,0,0]) f ⟨Fr 26 [(0,.sl 1 (x0.map cdI.enc)),(1,.sl 1 (x1.map cdI.enc)),(12,.v (.int .i64 (x0.length:Int))),(13,.v (.int .i64 c2))],[]⟩ (fun e s=>match r with
 | (.inl _w)=>e=(.exit 0)/\Wk E0 s ⟨Fr 26 [],[]⟩
 | (.inr w)=>e = .ret/\Wk E0 s ⟨Fr 26 [(4,.v (.bool w))],[]⟩):=by
 intro f;induction f with
 | zero=>intro c2 r h; cases h
 | succ f ih0 =>
  intro c2 r h
  have ih:=fun (c2:Int)=>ih0 c2 r
  unfold FG at h;refine BR ?_
  let p1:Nat×AV:=(13,.v (.int .i64 c2))
  let p2:Nat×AV:=(12,.v (.int .i64 (x0.length:Int)))
  let p3:Nat×AV:=(1,.sl 1 (x1.map cdI.enc))
  let p4:Nat×AV:=(0,.sl 1 (x0.map cdI.enc))
  refine AK AC [p4,p3,p2,p1,(14,.v (.bool (decide (c2 < (x0.length:Int)))))] [] ?_;refine AG ?_;refine AP (b:=(decide (c2 < (x0.length:Int)))) kr (fun hb3=>?_) (fun hb3=>?_)
  ·rw [if_pos hb3] at h
   refine AT ?_;refine AG ?_;refine AZ ?_;refine AK AC [p4,p3,(5,.v (.int .i64 c2)),p2,p1] [] ?_;refine AG ?_;obtain ⟨v4,hv4,h⟩:=OB h;obtain ⟨v5,hv5,h⟩:=OB h;refine DI AC (s1:=⟨Fr 26 [p4,p3,p2,p1,(24,.v (.bool (v4 != v5)))],[]⟩) kr ?_ ?_
   ·refine AY (n:=26) AC 2 [p4,p3,(5,.v (.int .i64 c2)),p2,p1,(16,.sl 1 (x0.map cdI.enc)),(17,.v (.int .i64 c2))] [] kr kr ?_
    refine RunDS.one AC rfl kr (Hd kr (AB rfl) rfl (AW (a:= .sl 1 (x0.map cdI.enc)) (b:= .v (.int .i64 c2)) kr kr (DK (e:=cdI.enc) (el:=3) (k:=1) (ki:= .i64) kr kr hv4)) kr) ?_;refine AY (n:=26) AC 3 [p4,p3,p2,p1,(19,.v (.int .i64 v4)),(20,.sl 1 (x1.map cdI.enc)),(21,.v (.int .i64 c2))] [] kr kr ?_;refine RunDS.one AC rfl kr (Hd kr (AB rfl) rfl (AW (a:= .sl 1 (x1.map cdI.enc)) (b:= .v (.int .i64 c2)) kr kr (DK (e:=cdI.enc) (el:=3) (k:=1) (ki:= .i64) kr kr hv5)) kr) ?_;refine AY (n:=26) AC 2 [p4,p3,p2,p1,(24,.v (.bool (v4 != v5)))] [] kr kr ?_;exact RunDS.done rfl AJ
   refine AP (b:=(v4 != v5)) kr (fun hb6=>?_) (fun hb6=>?_)
   ·rw [if_pos hb6] at h
    refine AK AC [(4,.v (.bool false))] [] ?_;refine AN ?_;have hq:=OI h; subst hq;exact ⟨rfl,AJ⟩
   ·rw [BY hb6] at h
    refine AT ?_
    let p5:Nat×AV:=(13,.v (.int .i64 (wr .i64 (c2 + 1))))
    refine Ci AC [p4,p3,p2,p5] [] ?_;exact Ab (s1:=⟨Fr 26 [p4,p3,p2,p5],[]⟩) AJ (ih (wr .i64 (c2 + 1)) h)
  ·rw [BY hb3] at h
   refine Bi ?_;have hq:=OI h; subst hq;exact ⟨rfl,AJ⟩
theorem Oq (x0:(List Int)) (x1:(List Int)) (r:Bool) (h:EQ x0 x1=some r):Sem E0 ⟨none,false⟩ Ht ⟨Fr 26 (Av 0 (Hx.enc (x0,x1,()))),[]⟩ fun e s'=>(e = .normal\/e = .ret)/\∃ xs,D6 E0.P s'.fr s'.hp Tryz.f66.results.toList=some xs/\EA xs=H0 r:=by
 unfold EQ at h
 let p1:Nat×AV:=(1,.sl 1 (x1.map cdI.enc))
 let p2:Nat×AV:=(0,.sl 1 (x0.map cdI.enc))
 refine Aj (A8 (s1:=⟨Fr 26 [p2,p1],[]⟩) AJ ?_);refine AK AC [p2,p1] [] ?_;refine AG ?_;refine AG ?_;refine AL (s1:=⟨Fr 26 [p2,p1,(10,.v (.bool ((x0.length:Int)!=(x1.length:Int))))],[]⟩) ?_ ?_
 ·refine AD (n:=26) AC 1 [p2,p1,(6,.sl 1 (x0.map cdI.enc))] [] kr ?_
  refine AS AC 0 rfl (DH (AB rfl) rfl (CX (a:= .sl 1 (x0.map cdI.enc)) kr (BS (el:=3) kr))) ?_;refine AD (n:=26) AC 1 [p2,p1,(7,.v (.int .i64 (x0.length:Int))),(8,.sl 1 (x1.map cdI.enc))] [] kr ?_;refine AS AC 0 rfl (DH (AB rfl) rfl (CX (a:= .sl 1 (x1.map cdI.enc)) kr (BS (el:=3) kr))) ?_;exact AX AC
 refine AP (b:=((x0.length:Int)!=(x1.length:Int))) kr (fun hb1=>?_) (fun hb1=>?_)
 ·rw [if_pos hb1] at h
  refine AK AC [(4,.v (.bool false))] [] ?_;refine AN ?_;have hq:=OI h; subst hq;exact ⟨⟨Fr 26 [(4,.v (.bool false))],[]⟩,AJ,.inr rfl,[.v (.bool false)],kr,kr⟩
 ·rw [BY hb1] at h
  refine AT ?_;refine AG ?_;refine AG ?_
  let p3:Nat×AV:=(13,.v (.int .i64 0))
  let p4:Nat×AV:=(12,.v (.int .i64 (x0.length:Int)))
  refine AL (s1:=⟨Fr 26 [p2,p1,p4,p3],[]⟩) ?_ ?_
  ·refine AD (n:=26) AC 1 [p2,p1,(11,.sl 1 (x0.map cdI.enc))] [] kr ?_
   refine AS AC 0 rfl (DH (AB rfl) rfl (CX (a:= .sl 1 (x0.map cdI.enc)) kr (BS (el:=3) kr))) ?_;exact AX AC
  refine AZ ?_;obtain ⟨r8,hr8,h⟩:=OB h;refine Bj (n:=100000) ?_;rcases r8 with w9 | w10
  ·try dsimp only at h
   refine Ao (Ab (s1:=⟨Fr 26 [p2,p1,p4,p3],[]⟩) AJ (I2 x0 x1 _ 0 _ hr8)) ?_;refine AK AC [(4,.v (.bool true))] [] ?_;refine AN ?_;have hq:=OI h; subst hq;exact ⟨⟨Fr 26 [(4,.v (.bool true))],[]⟩,AJ,.inr rfl,[.v (.bool true)],kr,kr⟩
  ·try dsimp only at h
   refine Ao (Ab (s1:=⟨Fr 26 [p2,p1,p4,p3],[]⟩) AJ (I2 x0 x1 _ 0 _ hr8)) ?_;have hq:=OI h; subst hq;exact ⟨⟨Fr 26 [(4,.v (.bool w10))],[]⟩,AJ,.inr rfl,[.v (.bool w10)],kr,kr⟩
def Pz:List AV->Option AV:=Dk Hx (fun a=>EQ a.1 a.2.1) H0
theorem P3:XOk 66 Pz:=by
 refine AQ Tryz.func66 (c:=Ht) ?h2 ⟨Tryz.call66⟩ Hx (fun a=>EQ a.1 a.2.1) H0 (fun a=>(by show 2<=26; decide)) ?h3 ?h4
 case h2=>kernel_rfl
 case h3=>intro b; kernel_rfl
 case h4=>exact fun a b h=>Oq a.1 a.2.1 b h
/- trestle/trestlelaw03.pairs -/
noncomputable def KC:Code:=A3 Tryz.f43
def KH (x0:(List (List AF))) (x1:(List Ai)) (x2:(List Int)) (_v1:(List (List AF))) (_v2:(List Ai)) (_v3:(List Int)) (_v8:(List (Int×Int))) (_v9:(List (Int×Int))) (v10:Bool):Option ((Int)) :=
 if v10=true then
 (Iw x0 x1).bind fun v12 =>
 (D9 v12 x2).bind fun v13 =>
 some v13
 else
 some 0
def Gm (x0:(List (List AF))) (x1:(List Ai)) (x2:(List Int)) (v1:(List (List AF))) (v2:(List Ai)) (v3:(List Int)) (j6:Bool):Option (((List (Int×Int))×(List (Int×Int))×Int)) :=
 if j6=true then
 (Is x0 x1).bind fun v8 =>
 (GJ x0 x1).bind fun v9 =>
 (Eq x2 (x1.length:Int)).bind fun v10 =>
 (KH x0 x1 x2 v1 v2 v3 v8 v9 v10).bind fun r15 =>
 some (v8,v9,r15)
 else
 some ([],[],0)
def Ir (x0:(List (List AF))) (x1:(List Ai)) (x2:(List Int)):Option (Bool) :=
 (Ha x0).bind fun v1 =>
 (Gk x1).bind fun v2 =>
 (EP x2).bind fun v3 =>
 (if (decide ((x0.length:Int)<=16))=true then (F0 x0).bind fun v4 =>
 some v4 else some false).bind fun j6 =>
 (Gm x0 x1 x2 v1 v2 v3 j6).bind fun r19 =>
 (HO v1 v2).bind fun v20 =>
 (CG v20 r19.1).bind fun v21 =>
 (if v21=true then (EL v1 v2).bind fun v22 =>
 (CG v22 r19.2.1).bind fun v23 =>
 if v23=true then (DF v1 v2 v3).bind fun v24 =>
 if (v24==r19.2.2)=true then (Hb v1 x0).bind fun v25 =>
 if v25=true then (Gl v2 x1).bind fun v26 =>
 if v26=true then (EQ v3 x2).bind fun v27 =>
 some v27 else some false else some false else some false else some false else some false).bind fun j29 =>
 some j29
def M4:Cs ((List (List AF))×(List Ai)×(List Int)×Unit):=(csC (cdL 1 (cdL 5 AA)) (csC (cdL 9 AE) (csC (cdL 1 cdI) csN)))
def NE (r:Bool):AV:=cdB.enc r
theorem Rz (x0:(List (List AF))) (x1:(List Ai)) (x2:(List Int)) (v1:(List (List AF))) (v2:(List Ai)) (v3:(List Int)) (v8:(List (Int×Int))) (v9:(List (Int×Int))) (v10:Bool) (r:(Int)) (h:KH x0 x1 x2 v1 v2 v3 v8 v9 v10=some r):Sem E0 ⟨none,false⟩ (pc KC [1,1,1,1,0,1,0,1,1]) ⟨Fr 76 [(0,.sl 1 (x0.map (cdL 5 AA).enc)),(1,.sl 9 (x1.map AE.enc)),(2,.sl 1 (x2.map cdI.enc)),(7,.sl 1 (v1.map (cdL 5 AA).enc)),(8,.sl 9 (v2.map AE.enc)),(9,.sl 1 (v3.map cdI.enc)),(10,.sl 2 (v8.map (ET cdI cdI (fun _=>rfl) (fun _=>rfl)).enc)),(11,.sl 2 (v9.map (ET cdI cdI (fun _=>rfl) (fun _=>rfl)).enc)),(12,.v (.int .i64 0)),(35,.v (.bool v10))],[]⟩ (fun e s=>e = .normal/\Wk E0 s ⟨Fr 76 [(0,.sl 1 (x0.map (cdL 5 AA).enc)),(1,.sl 9 (x1.map AE.enc)),(2,.sl 1 (x2.map cdI.enc)),(7,.sl 1 (v1.map (cdL 5 AA).enc)),(8,.sl 9 (v2.map AE.enc)),(9,.sl 1 (v3.map cdI.enc)),(10,.sl 2 (v8.map (ET cdI cdI (fun _=>rfl) (fun _=>rfl)).enc)),(11,.sl 2 (v9.map (ET cdI cdI (fun _=>rfl) (fun _=>rfl)).enc)),(12,.v (.int .i64 r))],[]⟩):=by
 unfold KH at h;refine AP (b:=v10) kr (fun hb11=>?_) (fun hb11=>?_)
 ·rw [if_pos hb11] at h
  obtain ⟨v12,hv12,h⟩:=OB h;obtain ⟨v13,hv13,h⟩:=OB h
  let p1:Nat×AV:=(11,.sl 2 (v9.map (ET cdI cdI (fun _=>rfl) (fun _=>rfl)).enc))
  let p2:Nat×AV:=(10,.sl 2 (v8.map (ET cdI cdI (fun _=>rfl) (fun _=>rfl)).enc))
  let p3:Nat×AV:=(9,.sl 1 (v3.map cdI.enc))
  let p4:Nat×AV:=(8,.sl 9 (v2.map AE.enc))
  let p5:Nat×AV:=(7,.sl 1 (v1.map (cdL 5 AA).enc))
  let p6:Nat×AV:=(2,.sl 1 (x2.map cdI.enc))
  let p7:Nat×AV:=(1,.sl 9 (x1.map AE.enc))
  let p8:Nat×AV:=(0,.sl 1 (x0.map (cdL 5 AA).enc))
  refine AL (s1:=⟨Fr 76 [p8,p7,p6,p5,p4,p3,p2,p1,(12,.v (.int .i64 v13))],[]⟩) ?_ ?_
  ·refine AD (n:=76) AC 2 [p8,p7,p6,p5,p4,p3,p2,p1,(36,.sl 1 (x0.map (cdL 5 AA).enc)),(37,.sl 9 (x1.map AE.enc))] [] kr ?_
   refine AR (caps:=[]) (xs:=[.sl 1 (x0.map (cdL 5 AA).enc),.sl 9 (x1.map AE.enc)]) (u:=(x0,x1,())) rfl rfl Wm rfl (AB rfl) kr kr (AM (AU (c:=(cdL 1 (cdL 5 AA))) (v:=x0)) (AM (AU (c:=(cdL 9 AE)) (v:=x1)) Af)) (.inr kr) hv12 ?_;refine AD (n:=76) AC 1 [p8,p7,p6,p5,p4,p3,p2,p1,(38,.sl 1 (v12.map (cdL 1 cdI).enc)),(39,.sl 1 (x2.map cdI.enc))] [] kr ?_;refine AR (caps:=[]) (xs:=[.sl 1 (v12.map (cdL 1 cdI).enc),.sl 1 (x2.map cdI.enc)]) (u:=(v12,x2,())) rfl rfl Ph rfl (AB rfl) kr kr (AM (AU (c:=(cdL 1 (cdL 1 cdI))) (v:=v12)) (AM (AU (c:=(cdL 1 cdI)) (v:=x2)) Af)) (.inl kr) hv13 ?_;exact AX AC
  have hq:=OI h; subst hq;exact ⟨rfl,AJ⟩
 ·rw [BY hb11] at h
  refine AT ?_;have hq:=OI h; subst hq;exact ⟨rfl,AJ⟩
theorem Ry (x0:(List (List AF))) (x1:(List Ai)) (x2:(List Int)) (v1:(List (List AF))) (v2:(List Ai)) (v3:(List Int)) (j6:Bool) (r:((List (Int×Int))×(List (Int×Int))×Int)) (h:Gm x0 x1 x2 v1 v2 v3 j6=some r):Sem E0 ⟨none,false⟩ (pc KC [1,1,1,1,0,1]) ⟨Fr 76 [(0,.sl 1 (x0.map (cdL 5 AA).enc)),(1,.sl 9 (x1.map AE.enc)),(2,.sl 1 (x2.map cdI.enc)),(7,.sl 1 (v1.map (cdL 5 AA).enc)),(8,.sl 9 (v2.map AE.enc)),(9,.sl 1 (v3.map cdI.enc)),(10,.e0),(11,.e0),(12,.v (.int .i64 0)),(25,.v (.bool j6))],[]⟩ (fun e s=>e = .normal/\Wk E0 s ⟨Fr 76 [(0,.sl 1 (x0.map (cdL 5 AA).enc)),(1,.sl 9 (x1.map AE.enc)),(2,.sl 1 (x2.map cdI.enc)),(7,.sl 1 (v1.map (cdL 5 AA).enc)),(8,.sl 9 (v2.map AE.enc)),(9,.sl 1 (v3.map cdI.enc)),(10,.sl 2 (r.1.map (ET cdI cdI (fun _=>rfl) (fun _=>rfl)).enc)),(11,.sl 2 (r.2.1.map (ET cdI cdI (fun _=>rfl) (fun _=>rfl)).enc)),(12,.v (.int .i64 r.2.2))],[]⟩):=by
 unfold Gm at h;refine AP (b:=j6) kr (fun hb7=>?_) (fun hb7=>?_)
 ·rw [if_pos hb7] at h
  refine AG ?_;obtain ⟨v8,hv8,h⟩:=OB h;obtain ⟨v9,hv9,h⟩:=OB h
  let p1:Nat×AV:=(12,.v (.int .i64 0))
  let p2:Nat×AV:=(11,.sl 2 (v9.map (ET cdI cdI (fun _=>rfl) (fun _=>rfl)).enc))
  let p3:Nat×AV:=(10,.sl 2 (v8.map (ET cdI cdI (fun _=>rfl) (fun _=>rfl)).enc))
  let p4:Nat×AV:=(9,.sl 1 (v3.map cdI.enc))
  let p5:Nat×AV:=(8,.sl 9 (v2.map AE.enc))
  let p6:Nat×AV:=(7,.sl 1 (v1.map (cdL 5 AA).enc))
  let p7:Nat×AV:=(2,.sl 1 (x2.map cdI.enc))
  let p8:Nat×AV:=(1,.sl 9 (x1.map AE.enc))
  let p9:Nat×AV:=(0,.sl 1 (x0.map (cdL 5 AA).enc))
  refine AL (s1:=⟨Fr 76 [p9,p8,p7,p6,p5,p4,p3,p2,p1],[]⟩) ?_ ?_
  ·refine AD (n:=76) AC 2 [p9,p8,p7,p6,p5,p4,p1,(26,.sl 1 (x0.map (cdL 5 AA).enc)),(27,.sl 9 (x1.map AE.enc))] [] kr ?_
   refine AR (caps:=[]) (xs:=[.sl 1 (x0.map (cdL 5 AA).enc),.sl 9 (x1.map AE.enc)]) (u:=(x0,x1,())) rfl rfl Wi rfl (AB rfl) kr kr (AM (AU (c:=(cdL 1 (cdL 5 AA))) (v:=x0)) (AM (AU (c:=(cdL 9 AE)) (v:=x1)) Af)) (.inr kr) hv8 ?_;refine AD (n:=76) AC 2 [p9,p8,p7,p6,p5,p4,p1,(28,.sl 2 (v8.map (ET cdI cdI (fun _=>rfl) (fun _=>rfl)).enc)),(29,.sl 1 (x0.map (cdL 5 AA).enc)),(30,.sl 9 (x1.map AE.enc))] [] kr ?_;refine AR (caps:=[]) (xs:=[.sl 1 (x0.map (cdL 5 AA).enc),.sl 9 (x1.map AE.enc)]) (u:=(x0,x1,())) rfl rfl Sa rfl (AB rfl) kr kr (AM (AU (c:=(cdL 1 (cdL 5 AA))) (v:=x0)) (AM (AU (c:=(cdL 9 AE)) (v:=x1)) Af)) (.inr kr) hv9 ?_;exact AX AC
  refine AG ?_;obtain ⟨v10,hv10,h⟩:=OB h;refine AL (s1:=⟨Fr 76 [p9,p8,p7,p6,p5,p4,p3,p2,p1,(35,.v (.bool v10))],[]⟩) ?_ ?_
  ·refine AD (n:=76) AC 2 [p9,p8,p7,p6,p5,p4,p3,p2,p1,(32,.sl 1 (x2.map cdI.enc)),(33,.sl 9 (x1.map AE.enc))] [] kr ?_
   refine AS AC 0 rfl (DH (AB rfl) rfl (CX (a:= .sl 9 (x1.map AE.enc)) kr (BS (el:=42) kr))) ?_;refine AR (caps:=[]) (xs:=[.sl 1 (x2.map cdI.enc),.v (.int .i64 (x1.length:Int))]) (u:=(x2,(x1.length:Int),())) rfl rfl Qo rfl (AB rfl) kr kr (AM (AU (c:=(cdL 1 cdI)) (v:=x2)) (AM (AU (c:=cdI) (v:=(x1.length:Int))) Af)) (.inl kr) hv10 ?_;exact AI rfl AJ
  obtain ⟨r15,hr15,h⟩:=OB h;refine GU (Rz x0 x1 x2 v1 v2 v3 v8 v9 v10 _ hr15) ?_;have hq:=OI h; subst hq;exact ⟨rfl,AJ⟩
 ·rw [BY hb7] at h
  refine AT ?_;have hq:=OI h; subst hq
  let p10:Nat×AV:=(12,.v (.int .i64 0))
  let p11:Nat×AV:=(9,.sl 1 (v3.map cdI.enc))
  let p12:Nat×AV:=(8,.sl 9 (v2.map AE.enc))
  let p13:Nat×AV:=(7,.sl 1 (v1.map (cdL 5 AA).enc))
  let p14:Nat×AV:=(2,.sl 1 (x2.map cdI.enc))
  let p15:Nat×AV:=(1,.sl 9 (x1.map AE.enc))
  let p16:Nat×AV:=(0,.sl 1 (x0.map (cdL 5 AA).enc))
  exact ⟨rfl,(Wk.trans (s1:=⟨Fr 76 [p16,p15,p14,p13,p12,p11,(10,.e0),(11,.e0),p10],[]⟩) AJ (Wk.trans (s1:=⟨Fr 76 [p16,p15,p14,p13,p12,p11,(10,.e0),(11,.e0),p10],[none]⟩) Wk.none (Wk.trans (s1:=⟨Fr 76 [p16,p15,p14,p13,p12,p11,(10,.sl 2 ([].map (ET cdI cdI (fun _=>rfl) (fun _=>rfl)).enc)),(11,.sl 2 ([].map (ET cdI cdI (fun _=>rfl) (fun _=>rfl)).enc)),p10],[none]⟩) (Kg 0 (.inr kr) ⟨.inl rfl,trivial⟩ ⟨⟨.sl 1 (x0.map (cdL 5 AA).enc),kr,.inl rfl⟩,⟨.sl 9 (x1.map AE.enc),kr,.inl rfl⟩,⟨.sl 1 (x2.map cdI.enc),kr,.inl rfl⟩,⟨.sl 1 (v1.map (cdL 5 AA).enc),kr,.inl rfl⟩,⟨.sl 9 (v2.map AE.enc),kr,.inl rfl⟩,⟨.sl 1 (v3.map cdI.enc),kr,.inl rfl⟩,⟨.e0,kr,ABR⟩,⟨.e0,kr,ABR⟩,⟨.v (.int .i64 0),kr,.inl rfl⟩,trivial⟩) (Ae [] trivial ⟨lv,lv,lv,lv,lv,lv,lv,lv,lv,trivial⟩))))⟩
theorem Tu (x0:(List (List AF))) (x1:(List Ai)) (x2:(List Int)) (r:Bool) (h:Ir x0 x1 x2=some r):Sem E0 ⟨none,false⟩ KC ⟨Fr 76 (Av 0 (M4.enc (x0,x1,x2,()))),[]⟩ fun e s'=>(e = .normal\/e = .ret)/\∃ xs,D6 E0.P s'.fr s'.hp Tryz.f43.results.toList=some xs/\EA xs=NE r:=by
 unfold Ir at h;refine Aj (A8 (s1:=⟨Fr 76 [(0,.sl 1 (x0.map (cdL 5 AA).enc)),(1,.sl 9 (x1.map AE.enc)),(2,.sl 1 (x2.map cdI.enc))],[]⟩) AJ ?_);refine AK AC [(0,.sl 1 (x0.map (cdL 5 AA).enc)),(1,.sl 9 (x1.map AE.enc)),(2,.sl 1 (x2.map cdI.enc))] [] ?_;refine AG ?_;obtain ⟨v1,hv1,h⟩:=OB h;obtain ⟨v2,hv2,h⟩:=OB h;obtain ⟨v3,hv3,h⟩:=OB h;refine AL (s1:=⟨Fr 76 [(0,.sl 1 (x0.map (cdL 5 AA).enc)),(1,.sl 9 (x1.map AE.enc)),(2,.sl 1 (x2.map cdI.enc)),(7,.sl 1 (v1.map (cdL 5 AA).enc)),(8,.sl 9 (v2.map AE.enc)),(9,.sl 1 (v3.map cdI.enc))],[]⟩) ?_ ?_
 ·refine AD (n:=76) AC 1 [(0,.sl 1 (x0.map (cdL 5 AA).enc)),(1,.sl 9 (x1.map AE.enc)),(2,.sl 1 (x2.map cdI.enc)),(13,.sl 1 (x0.map (cdL 5 AA).enc))] [] kr ?_
  refine AR (caps:=[]) (xs:=[.sl 1 (x0.map (cdL 5 AA).enc)]) (u:=(x0,())) rfl rfl Us rfl (AB rfl) kr kr (AM (AU (c:=(cdL 1 (cdL 5 AA))) (v:=x0)) Af) (.inr kr) hv1 ?_;refine AD (n:=76) AC 1 [(0,.sl 1 (x0.map (cdL 5 AA).enc)),(1,.sl 9 (x1.map AE.enc)),(2,.sl 1 (x2.map cdI.enc)),(14,.sl 1 (v1.map (cdL 5 AA).enc)),(15,.sl 9 (x1.map AE.enc))] [] kr ?_;refine AR (caps:=[]) (xs:=[.sl 9 (x1.map AE.enc)]) (u:=(x1,())) rfl rfl S6 rfl (AB rfl) kr kr (AM (AU (c:=(cdL 9 AE)) (v:=x1)) Af) (.inr kr) hv2 ?_;refine AD (n:=76) AC 1 [(0,.sl 1 (x0.map (cdL 5 AA).enc)),(1,.sl 9 (x1.map AE.enc)),(2,.sl 1 (x2.map cdI.enc)),(14,.sl 1 (v1.map (cdL 5 AA).enc)),(16,.sl 9 (v2.map AE.enc)),(17,.sl 1 (x2.map cdI.enc))] [] kr ?_;refine AR (caps:=[]) (xs:=[.sl 1 (x2.map cdI.enc)]) (u:=(x2,())) rfl rfl P2 rfl (AB rfl) kr kr (AM (AU (c:=(cdL 1 cdI)) (v:=x2)) Af) (.inr kr) hv3 ?_;exact AX AC
 refine AK AC [(0,.sl 1 (x0.map (cdL 5 AA).enc)),(1,.sl 9 (x1.map AE.enc)),(2,.sl 1 (x2.map cdI.enc)),(7,.sl 1 (v1.map (cdL 5 AA).enc)),(8,.sl 9 (v2.map AE.enc)),(9,.sl 1 (v3.map cdI.enc)),(10,.e0),(11,.e0)] [] ?_;refine AK AC [(0,.sl 1 (x0.map (cdL 5 AA).enc)),(1,.sl 9 (x1.map AE.enc)),(2,.sl 1 (x2.map cdI.enc)),(7,.sl 1 (v1.map (cdL 5 AA).enc)),(8,.sl 9 (v2.map AE.enc)),(9,.sl 1 (v3.map cdI.enc)),(10,.e0),(11,.e0),(12,.v (.int .i64 0))] [] ?_;refine AG ?_;refine AG ?_;obtain ⟨j6,hj6,h⟩:=OB h;refine AL (s1:=⟨Fr 76 [(0,.sl 1 (x0.map (cdL 5 AA).enc)),(1,.sl 9 (x1.map AE.enc)),(2,.sl 1 (x2.map cdI.enc)),(7,.sl 1 (v1.map (cdL 5 AA).enc)),(8,.sl 9 (v2.map AE.enc)),(9,.sl 1 (v3.map cdI.enc)),(10,.e0),(11,.e0),(12,.v (.int .i64 0)),(25,.v (.bool j6))],[]⟩) ?_ ?_
 ·refine AD (n:=76) AC 1 [(0,.sl 1 (x0.map (cdL 5 AA).enc)),(1,.sl 9 (x1.map AE.enc)),(2,.sl 1 (x2.map cdI.enc)),(7,.sl 1 (v1.map (cdL 5 AA).enc)),(8,.sl 9 (v2.map AE.enc)),(9,.sl 1 (v3.map cdI.enc)),(10,.e0),(11,.e0),(12,.v (.int .i64 0)),(19,.sl 1 (x0.map (cdL 5 AA).enc))] [] kr ?_
  refine AS AC 0 rfl (DH (AB rfl) rfl (CX (a:= .sl 1 (x0.map (cdL 5 AA).enc)) kr (BS (el:=22) kr))) ?_;refine AD (n:=76) AC 2 [(0,.sl 1 (x0.map (cdL 5 AA).enc)),(1,.sl 9 (x1.map AE.enc)),(2,.sl 1 (x2.map cdI.enc)),(7,.sl 1 (v1.map (cdL 5 AA).enc)),(8,.sl 9 (v2.map AE.enc)),(9,.sl 1 (v3.map cdI.enc)),(10,.e0),(11,.e0),(12,.v (.int .i64 0)),(22,.v (.bool (decide ((x0.length:Int)<=16))))] [] kr ?_;rcases BE (decide ((x0.length:Int)<=16)) with hc35 | hc35
  ·rw [if_pos hc35] at hj6
   rw [hc35];refine AD (n:=76) AC 1 [(0,.sl 1 (x0.map (cdL 5 AA).enc)),(1,.sl 9 (x1.map AE.enc)),(2,.sl 1 (x2.map cdI.enc)),(7,.sl 1 (v1.map (cdL 5 AA).enc)),(8,.sl 9 (v2.map AE.enc)),(9,.sl 1 (v3.map cdI.enc)),(10,.e0),(11,.e0),(12,.v (.int .i64 0)),(22,.v (.bool true)),(23,.sl 1 (x0.map (cdL 5 AA).enc))] [] kr ?_;obtain ⟨v4,hv4,hj6⟩:=OB hj6;refine AR (caps:=[]) (xs:=[.sl 1 (x0.map (cdL 5 AA).enc)]) (u:=(x0,())) rfl rfl S9 rfl kr kr kr (AM (AU (c:=(cdL 1 (cdL 5 AA))) (v:=x0)) Af) (.inl kr) hv4 ?_;refine AD (n:=76) AC 1 [(0,.sl 1 (x0.map (cdL 5 AA).enc)),(1,.sl 9 (x1.map AE.enc)),(2,.sl 1 (x2.map cdI.enc)),(7,.sl 1 (v1.map (cdL 5 AA).enc)),(8,.sl 9 (v2.map AE.enc)),(9,.sl 1 (v3.map cdI.enc)),(10,.e0),(11,.e0),(12,.v (.int .i64 0)),(25,.v (.bool v4))] [] kr ?_;have hq:=OI hj6; subst hq;exact AI rfl AJ
  ·rw [BY hc35] at hj6
   rw [hc35];refine AD (n:=76) AC 3 [(0,.sl 1 (x0.map (cdL 5 AA).enc)),(1,.sl 9 (x1.map AE.enc)),(2,.sl 1 (x2.map cdI.enc)),(7,.sl 1 (v1.map (cdL 5 AA).enc)),(8,.sl 9 (v2.map AE.enc)),(9,.sl 1 (v3.map cdI.enc)),(10,.e0),(11,.e0),(12,.v (.int .i64 0)),(25,.v (.bool false))] [] kr ?_;have hq:=OI hj6; subst hq;exact AI rfl AJ
 obtain ⟨r19,hr19,h⟩:=OB h;refine GU (Ry x0 x1 x2 v1 v2 v3 j6 _ hr19) ?_;refine AG ?_;obtain ⟨v20,hv20,h⟩:=OB h;obtain ⟨v21,hv21,h⟩:=OB h;obtain ⟨j29,hj29,h⟩:=OB h;refine AL (s1:=⟨Fr 76 [(6,.v (.bool j29))],[]⟩) ?_ ?_
 ·refine AD (n:=76) AC 2 [(0,.sl 1 (x0.map (cdL 5 AA).enc)),(1,.sl 9 (x1.map AE.enc)),(2,.sl 1 (x2.map cdI.enc)),(7,.sl 1 (v1.map (cdL 5 AA).enc)),(8,.sl 9 (v2.map AE.enc)),(9,.sl 1 (v3.map cdI.enc)),(10,.sl 2 (r19.1.map (ET cdI cdI (fun _=>rfl) (fun _=>rfl)).enc)),(11,.sl 2 (r19.2.1.map (ET cdI cdI (fun _=>rfl) (fun _=>rfl)).enc)),(12,.v (.int .i64 r19.2.2)),(41,.sl 1 (v1.map (cdL 5 AA).enc)),(42,.sl 9 (v2.map AE.enc))] [] kr ?_
  refine AR (caps:=[]) (xs:=[.sl 1 (v1.map (cdL 5 AA).enc),.sl 9 (v2.map AE.enc)]) (u:=(v1,v2,())) rfl rfl Wd rfl (AB rfl) kr kr (AM (AU (c:=(cdL 1 (cdL 5 AA))) (v:=v1)) (AM (AU (c:=(cdL 9 AE)) (v:=v2)) Af)) (.inr kr) hv20 ?_;refine AD (n:=76) AC 1 [(0,.sl 1 (x0.map (cdL 5 AA).enc)),(1,.sl 9 (x1.map AE.enc)),(2,.sl 1 (x2.map cdI.enc)),(7,.sl 1 (v1.map (cdL 5 AA).enc)),(8,.sl 9 (v2.map AE.enc)),(9,.sl 1 (v3.map cdI.enc)),(11,.sl 2 (r19.2.1.map (ET cdI cdI (fun _=>rfl) (fun _=>rfl)).enc)),(12,.v (.int .i64 r19.2.2)),(43,.sl 2 (v20.map (ET cdI cdI (fun _=>rfl) (fun _=>rfl)).enc)),(44,.sl 2 (r19.1.map (ET cdI cdI (fun _=>rfl) (fun _=>rfl)).enc))] [] kr ?_;refine AR (caps:=[]) (xs:=[.sl 2 (v20.map (ET cdI cdI (fun _=>rfl) (fun _=>rfl)).enc),.sl 2 (r19.1.map (ET cdI cdI (fun _=>rfl) (fun _=>rfl)).enc)]) (u:=(v20,r19.1,())) rfl rfl IL rfl (AB rfl) kr kr (AM (AU (c:=(cdL 2 (ET cdI cdI (fun _=>rfl) (fun _=>rfl)))) (v:=v20)) (AM (AU (c:=(cdL 2 (ET cdI cdI (fun _=>rfl) (fun _=>rfl)))) (v:=r19.1)) Af)) (.inl kr) hv21 ?_;refine AD (n:=76) AC 1 [(0,.sl 1 (x0.map (cdL 5 AA).enc)),(1,.sl 9 (x1.map AE.enc)),(2,.sl 1 (x2.map cdI.enc)),(7,.sl 1 (v1.map (cdL 5 AA).enc)),(8,.sl 9 (v2.map AE.enc)),(9,.sl 1 (v3.map cdI.enc)),(11,.sl 2 (r19.2.1.map (ET cdI cdI (fun _=>rfl) (fun _=>rfl)).enc)),(12,.v (.int .i64 r19.2.2)),(46,.v (.bool v21))] [] kr ?_;rcases BE v21 with hc30 | hc30
  ·rw [if_pos hc30] at hj29
   rw [hc30];refine AD (n:=76) AC 2 [(0,.sl 1 (x0.map (cdL 5 AA).enc)),(1,.sl 9 (x1.map AE.enc)),(2,.sl 1 (x2.map cdI.enc)),(7,.sl 1 (v1.map (cdL 5 AA).enc)),(8,.sl 9 (v2.map AE.enc)),(9,.sl 1 (v3.map cdI.enc)),(11,.sl 2 (r19.2.1.map (ET cdI cdI (fun _=>rfl) (fun _=>rfl)).enc)),(12,.v (.int .i64 r19.2.2)),(46,.v (.bool true)),(47,.sl 1 (v1.map (cdL 5 AA).enc)),(48,.sl 9 (v2.map AE.enc))] [] kr ?_;obtain ⟨v22,hv22,hj29⟩:=OB hj29;refine AR (caps:=[]) (xs:=[.sl 1 (v1.map (cdL 5 AA).enc),.sl 9 (v2.map AE.enc)]) (u:=(v1,v2,())) rfl rfl SW rfl kr kr kr (AM (AU (c:=(cdL 1 (cdL 5 AA))) (v:=v1)) (AM (AU (c:=(cdL 9 AE)) (v:=v2)) Af)) (.inr kr) hv22 ?_;refine AD (n:=76) AC 1 [(0,.sl 1 (x0.map (cdL 5 AA).enc)),(1,.sl 9 (x1.map AE.enc)),(2,.sl 1 (x2.map cdI.enc)),(7,.sl 1 (v1.map (cdL 5 AA).enc)),(8,.sl 9 (v2.map AE.enc)),(9,.sl 1 (v3.map cdI.enc)),(12,.v (.int .i64 r19.2.2)),(46,.v (.bool true)),(49,.sl 2 (v22.map (ET cdI cdI (fun _=>rfl) (fun _=>rfl)).enc)),(50,.sl 2 (r19.2.1.map (ET cdI cdI (fun _=>rfl) (fun _=>rfl)).enc))] [] kr ?_;obtain ⟨v23,hv23,hj29⟩:=OB hj29;refine AR (caps:=[]) (xs:=[.sl 2 (v22.map (ET cdI cdI (fun _=>rfl) (fun _=>rfl)).enc),.sl 2 (r19.2.1.map (ET cdI cdI (fun _=>rfl) (fun _=>rfl)).enc)]) (u:=(v22,r19.2.1,())) rfl rfl IL rfl kr kr kr (AM (AU (c:=(cdL 2 (ET cdI cdI (fun _=>rfl) (fun _=>rfl)))) (v:=v22)) (AM (AU (c:=(cdL 2 (ET cdI cdI (fun _=>rfl) (fun _=>rfl)))) (v:=r19.2.1)) Af)) (.inl kr) hv23 ?_;refine AD (n:=76) AC 2 [(0,.sl 1 (x0.map (cdL 5 AA).enc)),(1,.sl 9 (x1.map AE.enc)),(2,.sl 1 (x2.map cdI.enc)),(7,.sl 1 (v1.map (cdL 5 AA).enc)),(8,.sl 9 (v2.map AE.enc)),(9,.sl 1 (v3.map cdI.enc)),(12,.v (.int .i64 r19.2.2)),(53,.v (.bool v23))] [] kr ?_;rcases BE v23 with hc31 | hc31
   ·rw [if_pos hc31] at hj29
    rw [hc31];refine AD (n:=76) AC 3 [(0,.sl 1 (x0.map (cdL 5 AA).enc)),(1,.sl 9 (x1.map AE.enc)),(2,.sl 1 (x2.map cdI.enc)),(7,.sl 1 (v1.map (cdL 5 AA).enc)),(8,.sl 9 (v2.map AE.enc)),(9,.sl 1 (v3.map cdI.enc)),(12,.v (.int .i64 r19.2.2)),(53,.v (.bool true)),(54,.sl 1 (v1.map (cdL 5 AA).enc)),(55,.sl 9 (v2.map AE.enc)),(56,.sl 1 (v3.map cdI.enc))] [] kr ?_;obtain ⟨v24,hv24,hj29⟩:=OB hj29;refine AR (caps:=[]) (xs:=[.sl 1 (v1.map (cdL 5 AA).enc),.sl 9 (v2.map AE.enc),.sl 1 (v3.map cdI.enc)]) (u:=(v1,v2,v3,())) rfl rfl Pc rfl kr kr kr (AM (AU (c:=(cdL 1 (cdL 5 AA))) (v:=v1)) (AM (AU (c:=(cdL 9 AE)) (v:=v2)) (AM (AU (c:=(cdL 1 cdI)) (v:=v3)) Af))) (.inl kr) hv24 ?_;refine AD (n:=76) AC 4 [(0,.sl 1 (x0.map (cdL 5 AA).enc)),(1,.sl 9 (x1.map AE.enc)),(2,.sl 1 (x2.map cdI.enc)),(7,.sl 1 (v1.map (cdL 5 AA).enc)),(8,.sl 9 (v2.map AE.enc)),(9,.sl 1 (v3.map cdI.enc)),(61,.v (.bool (v24==r19.2.2)))] [] kr ?_;rcases BE (v24==r19.2.2) with hc32 | hc32
    ·rw [if_pos hc32] at hj29
     rw [hc32];refine AD (n:=76) AC 2 [(1,.sl 9 (x1.map AE.enc)),(2,.sl 1 (x2.map cdI.enc)),(8,.sl 9 (v2.map AE.enc)),(9,.sl 1 (v3.map cdI.enc)),(61,.v (.bool true)),(62,.sl 1 (v1.map (cdL 5 AA).enc)),(63,.sl 1 (x0.map (cdL 5 AA).enc))] [] kr ?_;obtain ⟨v25,hv25,hj29⟩:=OB hj29;refine AR (caps:=[]) (xs:=[.sl 1 (v1.map (cdL 5 AA).enc),.sl 1 (x0.map (cdL 5 AA).enc)]) (u:=(v1,x0,())) rfl rfl Uu rfl kr kr kr (AM (AU (c:=(cdL 1 (cdL 5 AA))) (v:=v1)) (AM (AU (c:=(cdL 1 (cdL 5 AA))) (v:=x0)) Af)) (.inl kr) hv25 ?_;refine AD (n:=76) AC 2 [(1,.sl 9 (x1.map AE.enc)),(2,.sl 1 (x2.map cdI.enc)),(8,.sl 9 (v2.map AE.enc)),(9,.sl 1 (v3.map cdI.enc)),(66,.v (.bool v25))] [] kr ?_;rcases BE v25 with hc33 | hc33
     ·rw [if_pos hc33] at hj29
      rw [hc33];refine AD (n:=76) AC 2 [(2,.sl 1 (x2.map cdI.enc)),(9,.sl 1 (v3.map cdI.enc)),(66,.v (.bool true)),(67,.sl 9 (v2.map AE.enc)),(68,.sl 9 (x1.map AE.enc))] [] kr ?_;obtain ⟨v26,hv26,hj29⟩:=OB hj29;refine AR (caps:=[]) (xs:=[.sl 9 (v2.map AE.enc),.sl 9 (x1.map AE.enc)]) (u:=(v2,x1,())) rfl rfl S7 rfl kr kr kr (AM (AU (c:=(cdL 9 AE)) (v:=v2)) (AM (AU (c:=(cdL 9 AE)) (v:=x1)) Af)) (.inl kr) hv26 ?_;refine AD (n:=76) AC 2 [(2,.sl 1 (x2.map cdI.enc)),(9,.sl 1 (v3.map cdI.enc)),(71,.v (.bool v26))] [] kr ?_;rcases BE v26 with hc34 | hc34
      ·rw [if_pos hc34] at hj29
       rw [hc34];refine AD (n:=76) AC 2 [(71,.v (.bool true)),(72,.sl 1 (v3.map cdI.enc)),(73,.sl 1 (x2.map cdI.enc))] [] kr ?_;obtain ⟨v27,hv27,hj29⟩:=OB hj29;refine AR (caps:=[]) (xs:=[.sl 1 (v3.map cdI.enc),.sl 1 (x2.map cdI.enc)]) (u:=(v3,x2,())) rfl rfl P3 rfl kr kr kr (AM (AU (c:=(cdL 1 cdI)) (v:=v3)) (AM (AU (c:=(cdL 1 cdI)) (v:=x2)) Af)) (.inl kr) hv27 ?_;refine AD (n:=76) AC 2 [(6,.v (.bool v27))] [] kr ?_;have hq:=OI hj29; subst hq;exact AI rfl AJ
      ·rw [BY hc34] at hj29
       rw [hc34];refine AD (n:=76) AC 5 [(6,.v (.bool false))] [] kr ?_;have hq:=OI hj29; subst hq;exact AI rfl AJ
     ·rw [BY hc33] at hj29
      rw [hc33];refine AD (n:=76) AC 10 [(6,.v (.bool false))] [] kr ?_;have hq:=OI hj29; subst hq;exact AI rfl AJ
    ·rw [BY hc32] at hj29
     rw [hc32];refine AD (n:=76) AC 15 [(6,.v (.bool false))] [] kr ?_;have hq:=OI hj29; subst hq;exact AI rfl AJ
   ·rw [BY hc31] at hj29
    rw [hc31];refine AD (n:=76) AC 23 [(6,.v (.bool false))] [] kr ?_;have hq:=OI hj29; subst hq;exact AI rfl AJ
  ·rw [BY hc30] at hj29
   rw [hc30];refine AD (n:=76) AC 30 [(6,.v (.bool false))] [] kr ?_;have hq:=OI hj29; subst hq;exact AI rfl AJ
 refine AN ?_;have hq:=OI h; subst hq;exact ⟨⟨Fr 76 [(6,.v (.bool j29))],[]⟩,AJ,.inr rfl,[.v (.bool j29)],kr,kr⟩
def WR:List AV->Option AV:=Dk M4 (fun a=>Ir a.1 a.2.1 a.2.2.1) NE
theorem Wh:XOk 43 WR:=by
 refine AQ Tryz.func43 (c:=KC) ?h2 ⟨Tryz.call43⟩ M4 (fun a=>Ir a.1 a.2.1 a.2.2.1) NE (fun a=>(by show 3<=76; decide)) ?h3 ?h4
 case h2=>kernel_rfl
 case h3=>intro b; kernel_rfl
 case h4=>exact fun a b h=>Tu a.1 a.2.1 a.2.2.1 b h
/- trestle/trestlelaw03.CourtPairs -/
noncomputable def L0:Code:=A3 Tryz.f11
def Fc (x0:(List (List AF))) (x1:(List Ai)) (x2:(List Int)):Option (Bool) :=
 (H4 x0 20).bind fun v1 =>
 (if (!v1)=true then MN.bind fun v2 =>
 some v2 else (GH x1 8).bind fun v3 =>
 if (!v3)=true then MN.bind fun v4 =>
 some v4 else if (decide ((x2.length:Int) > 12))=true then MN.bind fun v5 =>
 some v5 else (Ir x0 x1 x2).bind fun v6 =>
 if v6=true then MN.bind fun v7 =>
 some v7 else some false).bind fun j9 =>
 some j9
def GE:Cs ((List (List AF))×(List Ai)×(List Int)×Unit):=(csC (cdL 1 (cdL 5 AA)) (csC (cdL 9 AE) (csC (cdL 1 cdI) csN)))
def HW (r:Bool):AV:=cdB.enc r
theorem Pu (x0:(List (List AF))) (x1:(List Ai)) (x2:(List Int)) (r:Bool) (h:Fc x0 x1 x2=some r):Sem E0 ⟨none,false⟩ L0 ⟨Fr 29 (Av 0 (GE.enc (x0,x1,x2,()))),[]⟩ fun e s'=>(e = .normal\/e = .ret)/\∃ xs,D6 E0.P s'.fr s'.hp Tryz.f11.results.toList=some xs/\EA xs=HW r:=by
 unfold Fc at h;refine Aj (A8 (s1:=⟨Fr 29 [(0,.sl 1 (x0.map (cdL 5 AA).enc)),(1,.sl 9 (x1.map AE.enc)),(2,.sl 1 (x2.map cdI.enc))],[]⟩) AJ ?_);refine AK AC [(0,.sl 1 (x0.map (cdL 5 AA).enc)),(1,.sl 9 (x1.map AE.enc)),(2,.sl 1 (x2.map cdI.enc))] [] ?_;refine AG ?_;obtain ⟨v1,hv1,h⟩:=OB h;obtain ⟨j9,hj9,h⟩:=OB h;refine AL (s1:=⟨Fr 29 [(6,.v (.bool j9))],[]⟩) ?_ ?_
 ·refine AD (n:=29) AC 1 [(0,.sl 1 (x0.map (cdL 5 AA).enc)),(1,.sl 9 (x1.map AE.enc)),(2,.sl 1 (x2.map cdI.enc)),(7,.sl 1 (x0.map (cdL 5 AA).enc))] [] kr ?_
  refine AR (caps:=[]) (xs:=[.sl 1 (x0.map (cdL 5 AA).enc),.v (.int .i64 20)]) (u:=(x0,20,())) rfl rfl VL rfl (AB rfl) kr kr (AM (AU (c:=(cdL 1 (cdL 5 AA))) (v:=x0)) (AM (AU (c:=cdI) (v:=20)) Af)) (.inl kr) hv1 ?_;refine AD (n:=29) AC 2 [(0,.sl 1 (x0.map (cdL 5 AA).enc)),(1,.sl 9 (x1.map AE.enc)),(2,.sl 1 (x2.map cdI.enc)),(10,.v (.bool (!v1)))] [] kr ?_;rcases BE (!v1) with hc10 | hc10
  ·rw [if_pos hc10] at hj9
   rw [hc10];refine AD (n:=29) AC 16 [(26,.v (.bool true))] [] kr ?_;obtain ⟨v2,hv2,hj9⟩:=OB hj9;refine AR (caps:=[]) (xs:=[]) (u:=(())) rfl rfl Lp rfl kr kr kr Af (.inl kr) hv2 ?_;refine AD (n:=29) AC 2 [(6,.v (.bool v2))] [] kr ?_;have hq:=OI hj9; subst hq;exact AI rfl AJ
  ·rw [BY hc10] at hj9
   rw [hc10];refine AD (n:=29) AC 1 [(0,.sl 1 (x0.map (cdL 5 AA).enc)),(1,.sl 9 (x1.map AE.enc)),(2,.sl 1 (x2.map cdI.enc)),(10,.v (.bool false)),(11,.sl 9 (x1.map AE.enc))] [] kr ?_;obtain ⟨v3,hv3,hj9⟩:=OB hj9;refine AR (caps:=[]) (xs:=[.sl 9 (x1.map AE.enc),.v (.int .i64 8)]) (u:=(x1,8,())) rfl rfl SZ rfl kr kr kr (AM (AU (c:=(cdL 9 AE)) (v:=x1)) (AM (AU (c:=cdI) (v:=8)) Af)) (.inl kr) hv3 ?_;refine AD (n:=29) AC 3 [(0,.sl 1 (x0.map (cdL 5 AA).enc)),(1,.sl 9 (x1.map AE.enc)),(2,.sl 1 (x2.map cdI.enc)),(15,.v (.bool (!v3)))] [] kr ?_;rcases BE (!v3) with hc11 | hc11
   ·rw [if_pos hc11] at hj9
    rw [hc11];refine AD (n:=29) AC 11 [(26,.v (.bool true))] [] kr ?_;obtain ⟨v4,hv4,hj9⟩:=OB hj9;refine AR (caps:=[]) (xs:=[]) (u:=(())) rfl rfl Lp rfl kr kr kr Af (.inl kr) hv4 ?_;refine AD (n:=29) AC 2 [(6,.v (.bool v4))] [] kr ?_;have hq:=OI hj9; subst hq;exact AI rfl AJ
   ·rw [BY hc11] at hj9
    rw [hc11];refine AD (n:=29) AC 1 [(0,.sl 1 (x0.map (cdL 5 AA).enc)),(1,.sl 9 (x1.map AE.enc)),(2,.sl 1 (x2.map cdI.enc)),(15,.v (.bool false)),(16,.sl 1 (x2.map cdI.enc))] [] kr ?_;refine AS AC 0 rfl (DH kr rfl (CX (a:= .sl 1 (x2.map cdI.enc)) kr (BS (el:=3) kr))) ?_;refine AD (n:=29) AC 3 [(0,.sl 1 (x0.map (cdL 5 AA).enc)),(1,.sl 9 (x1.map AE.enc)),(2,.sl 1 (x2.map cdI.enc)),(20,.v (.bool (decide ((x2.length:Int) > 12))))] [] kr ?_;rcases BE (decide ((x2.length:Int) > 12)) with hc12 | hc12
    ·rw [if_pos hc12] at hj9
     rw [hc12];refine AD (n:=29) AC 6 [(26,.v (.bool true))] [] kr ?_;obtain ⟨v5,hv5,hj9⟩:=OB hj9;refine AR (caps:=[]) (xs:=[]) (u:=(())) rfl rfl Lp rfl kr kr kr Af (.inl kr) hv5 ?_;refine AD (n:=29) AC 2 [(6,.v (.bool v5))] [] kr ?_;have hq:=OI hj9; subst hq;exact AI rfl AJ
    ·rw [BY hc12] at hj9
     rw [hc12];refine AD (n:=29) AC 3 [(20,.v (.bool false)),(21,.sl 1 (x0.map (cdL 5 AA).enc)),(22,.sl 9 (x1.map AE.enc)),(23,.sl 1 (x2.map cdI.enc))] [] kr ?_;obtain ⟨v6,hv6,hj9⟩:=OB hj9;refine AR (caps:=[]) (xs:=[.sl 1 (x0.map (cdL 5 AA).enc),.sl 9 (x1.map AE.enc),.sl 1 (x2.map cdI.enc)]) (u:=(x0,x1,x2,())) rfl rfl Wh rfl kr kr kr (AM (AU (c:=(cdL 1 (cdL 5 AA))) (v:=x0)) (AM (AU (c:=(cdL 9 AE)) (v:=x1)) (AM (AU (c:=(cdL 1 cdI)) (v:=x2)) Af))) (.inl kr) hv6 ?_;refine AD (n:=29) AC 2 [(26,.v (.bool v6))] [] kr ?_;rcases BE v6 with hc13 | hc13
     ·rw [if_pos hc13] at hj9
      rw [hc13];obtain ⟨v7,hv7,hj9⟩:=OB hj9;refine AR (caps:=[]) (xs:=[]) (u:=(())) rfl rfl Lp rfl kr kr kr Af (.inl kr) hv7 ?_;refine AD (n:=29) AC 2 [(6,.v (.bool v7))] [] kr ?_;have hq:=OI hj9; subst hq;exact AI rfl AJ
     ·rw [BY hc13] at hj9
      rw [hc13];refine AD (n:=29) AC 3 [(6,.v (.bool false))] [] kr ?_;have hq:=OI hj9; subst hq;exact AI rfl AJ
 refine AN ?_;have hq:=OI h; subst hq;exact ⟨⟨Fr 29 [(6,.v (.bool j9))],[]⟩,AJ,.inr rfl,[.v (.bool j9)],kr,kr⟩
def RK:List AV->Option AV:=Dk GE (fun a=>Fc a.1 a.2.1 a.2.2.1) HW
theorem RR:XOk 11 RK:=by
 refine AQ Tryz.func11 (c:=L0) ?h2 ⟨Tryz.call11⟩ GE (fun a=>Fc a.1 a.2.1 a.2.2.1) HW (fun a=>(by show 3<=29; decide)) ?h3 ?h4
 case h2=>kernel_rfl
 case h3=>intro b; kernel_rfl
 case h4=>exact fun a b h=>Pu a.1 a.2.1 a.2.2.1 b h
theorem AAv {n:Int}(h1 : -9223372036854775808<=n) (h2:n<=9223372036854775807):wr .i64 n=n:=by
 show (if _ then n else _)=n
 rw [if_pos ⟨h1,h2⟩]
theorem D8 {α:Type}(pre:List α) (v:α) (r:List α):idx (pre++v::r) (pre.length:Int)=some v:=by
 unfold idx
 rw [if_pos (by omega)]
 simp
theorem PH {α:Type}{xs:List α}{i:Nat}(h:i < xs.length):idx xs (i:Int)=some xs[i]:=by
 unfold idx
 rw [if_pos (by omega)]
 simp [h]
theorem FJ {α:Type}(pre:List α) (v:α) (r:List α) (h:(pre++v::r).length<=1000000000):wr .i64 ((pre.length:Int) + 1)=((pre++[v]).length:Int):=by
 simp at h
 rw [AAv (by omega) (by omega)]; simp
theorem HI {α:Type}(pre:List α) (v:α) (r:List α):decide ((pre.length:Int) < ((pre++v::r).length:Int))=true:=by
 simp; omega
theorem ADN {α:Type}(pre:List α):decide ((pre.length:Int) < ((pre++[]).length:Int))=false:=by simp
theorem HM {b n:Nat}(hb:b<=1000) (h:n<=1000000000):Gd b n=true:=by
 have h1:n * b<=1000000000 * 1000:=Nat.mul_le_mul h hb
 unfold Gd
 rw [Bool.and_eq_true]
 exact ⟨Nat.ble_eq_true_of_le (by omega),Nat.ble_eq_true_of_le (by omega)⟩
theorem ABS {α:Type}{xs:List α}{i:Int}{v:α}(h:idx xs i=some v):v ∈ xs:=by
 unfold idx at h
 split at h
 ·exact List.mem_of_getElem? h
 ·cases h
/-- A loop over a list: v, its index, the rest. -/
def goU {α ρ:Type}(B:α->Nat->Option ρ->Option ρ) (D:Option ρ):List α->Nat->Option ρ
 | [],_=>D
 | v::r,i=>B v i (goU B D r (i + 1))
theorem AEn {α ρ:Type}(xs:List α) (L:Nat->Int->Option ρ) (B:α->Nat->Option ρ->Option ρ) (D:Option ρ)
  (hs:∀ f (pre:List α) v r,xs=pre++v::r->L (f + 1) (pre.length:Int)=B v pre.length (L f (((pre++[v]).length:Nat):Int))) (hd:∀ f,L (f + 1) (xs.length:Int)=D) :
  ∀ (r pre:List α) (f:Nat),xs=pre++r->r.length < f->L f (pre.length:Int)=goU B D r pre.length
 | [],pre,f + 1,hx,_=>by
  rw [show pre.length=xs.length by rw [hx]; simp]
  exact hd f
 | v::r,pre,f + 1,hx,hf=>by
  rw [hs f pre v r hx]
  have:=AEn xs L B D hs hd r (pre++[v]) f (by rw [hx]; simp) (by simp at hf; omega)
  rw [this]
  show B v pre.length _=B v pre.length _
  congr 1
  simp
theorem LZ {α ρ:Type}(xs:List α) (L:Nat->Int->Option ρ) (B:α->Nat->Option ρ->Option ρ) (D:Option ρ) (f:Nat) (hf:xs.length < f)
  (hs:∀ f (pre:List α) v r,xs=pre++v::r->L (f + 1) (pre.length:Int)=B v pre.length (L f (((pre++[v]).length:Nat):Int))) (hd:∀ f,L (f + 1) (xs.length:Int)=D):L f 0=goU B D xs 0 :=
 AEn xs L B D hs hd xs [] f rfl hf
/-- .. as it is printed. -/
theorem AF3 {α ρ:Type}(xs:List α) (L:Nat->Int->Option ρ) (B:α->Nat->Option ρ->Option ρ) (D:Option ρ) (f:Nat) (hf:xs.length < f) (hx:xs.length<=1000000)
  (h:∀ f c,L (f + 1) c=if decide (c < (xs.length:Int))=true then (idx xs c).bind fun v=>B v c.toNat (L f (wr .i64 (c + 1))) else D):L f 0=goU B D xs 0 :=
 LZ xs L B D f hf (fun f pre v r e=>by
  subst e
  rw [h,if_pos (HI pre v r),D8,OS,FJ pre v r (by omega),Int.toNat_natCast]) (fun f=>by rw [h,if_neg (by simp)])
/-- The first that meets a test. -/
theorem Z4 {α:Type}(P:α->Option Bool) (p:α->Bool):∀ (xs:List α) (i:Nat),(∀ x ∈ xs,P x=some (p x))->∃ r:Unit ⊕ Int,goU (fun v i k=>(P v).bind fun b=>if b=true then some (.inr (i:Int)) else k) (some (.inl ())) xs i=some r/\(match r with | .inl _=>xs.any p=false | .inr n=>xs.any p=true/\0<=n)
 | [],i,_=>⟨.inl (),rfl,rfl⟩
 | x::xs,i,h=>by
  unfold goU
  rw [h x (by simp),OS]
  cases hp:p x with
  | true=>exact ⟨.inr i,by simp,by simp [hp]⟩
  | false =>
   obtain ⟨r,h1,h2⟩:=Z4 P p xs (i + 1) fun y hy=>h y (List.mem_cons_of_mem _ hy)
   refine ⟨r,by simpa using h1,?_⟩
   cases r with
   | inl u=>simpa [hp] using h2
   | inr n=>simpa [hp] using h2
/-- slices.IndexFunc and slices.ContainsFunc. -/
theorem P7 {α:Type}(xs:List α) (hx:xs.length<=99999) (P:α->Option Bool) (p:α->Bool) (hP:∀ x ∈ xs,P x=some (p x)) (L:Nat->Int->Option (Unit ⊕ Int))
  (h:∀ f c,L (f + 1) c=if decide (c < (xs.length:Int))=true then (idx xs c).bind fun v=>(P v).bind fun b=>if b=true then some (.inr c) else L f (wr .i64 (c + 1)) else some (.inl ())) :
  ∃ n,((L 100000 0).bind fun r=>match r with | .inl _=>some (-1) | .inr w=>some w)=some n/\decide (n≥0)=xs.any p:=by
 have e:=LZ xs L (fun v i k=>(P v).bind fun b=>if b=true then some (.inr (i:Int)) else k) (some (.inl ())) 100000 (by omega) (fun f pre v r e=>by
  subst e
  rw [h,if_pos (HI pre v r),D8,OS,FJ pre v r (by omega)]) (fun f=>by rw [h,if_neg (by simp)])
 obtain ⟨r,h1,h2⟩:=Z4 P p xs 0 hP
 rw [e,h1]
 cases r with
 | inl u=>exact ⟨-1,rfl,by rw [h2]; rfl⟩
 | inr n=>exact ⟨n,rfl,by rw [h2.1]; simpa using h2.2⟩
/-- Two lists side by side. -/
def go2 {α β ρ:Type}(B:α->β->Option ρ->Option ρ) (D:Option ρ):List α->List β->Option ρ
 | v::r,u::q=>B v u (go2 B D r q)
 | _,_=>D
theorem AEm {α β ρ:Type}(L:Nat->Int->Option ρ) (B:α->β->Option ρ->Option ρ) (D:Option ρ) (xs:List α) (ys:List β) (hl:xs.length=ys.length) (hx:xs.length<=1000000)
  (h:∀ f c,L (f + 1) c=if decide (c < (xs.length:Int))=true then (idx xs c).bind fun v=>(idx ys c).bind fun u=>B v u (L f (wr .i64 (c + 1))) else D) :
  ∀ (r:List α) (q:List β) (pre:List α) (pre':List β) (f:Nat),xs=pre++r->ys=pre'++q->pre.length=pre'.length->r.length < f->L f (pre.length:Int)=go2 B D r q
 | [],q,pre,pre',f + 1,e1,e2,e3,_=>by
  have:q=[]:=by
   have:xs.length=pre.length:=by rw [e1]; simp
   have h2:ys.length=pre'.length + q.length:=by rw [e2]; simp
   exact List.eq_nil_of_length_eq_zero (by omega)
  subst this
  subst e1
  rw [h,ADN]
  rfl
 | v::r,[],pre,pre',f + 1,e1,e2,e3,_=>by
  exfalso
  have h1:xs.length=pre.length + (r.length + 1):=by rw [e1]; simp
  have h2:ys.length=pre'.length:=by rw [e2]; simp
  omega
 | v::r,u::q,pre,pre',f + 1,e1,e2,e3,hf=>by
  have ih:=AEm L B D xs ys hl hx h r q (pre++[v]) (pre'++[u]) f (by rw [e1]; simp) (by rw [e2]; simp) (by simp [e3]) (by simp at hf; omega)
  have k1:idx xs (pre.length:Int)=some v:=by rw [e1,D8]
  have k2:idx ys (pre.length:Int)=some u:=by rw [e2,e3,D8]
  have k3:decide ((pre.length:Int) < (xs.length:Int))=true:=by rw [e1]; exact HI pre v r
  have k4:wr .i64 ((pre.length:Int) + 1)=((pre++[v]).length:Int):=FJ pre v r (by rw [<-e1]; omega)
  rw [h,if_pos k3,k1,OS,k2,OS,k4,ih]
  rfl
theorem Zz {α β:Type}(P:α->β->Option Bool) (p:α->β->Bool):∀ (xs:List α) (ys:List β),(∀ x ∈ xs,∀ y ∈ ys,P x y=some (p x y))->xs.length=ys.length ->
  go2 (fun v u k=>(P v u).bind fun b=>if (!b)=true then some (Sum.inr false) else k) (some (Sum.inl ())) xs ys=some (if (xs.zip ys).all (fun x=>p x.1 x.2) then Sum.inl () else Sum.inr false)
 | [],[],_,_=>rfl
 | x::xs,y::ys,h,hl=>by
  unfold go2
  rw [h x (by simp) y (by simp),OS,Zz P p xs ys (fun a ha b hb=>h a (List.mem_cons_of_mem _ ha) b (List.mem_cons_of_mem _ hb)) (by simpa using hl)]
  rw [List.zip_cons_cons,List.all_cons]
  show (if (!p x y)=true then _ else _)=some (if (p x y&&_)=true then _ else _)
  cases p x y <;> rfl
 | [],_::_,_,hl=>by simp at hl
 | _::_,[],_,hl=>by simp at hl
/-- slices.EqualFunc. -/
theorem Xm {α β:Type}(xs:List α) (ys:List β) (hx:xs.length<=99999) (P:α->β->Option Bool) (p:α->β->Bool) (hP:∀ x ∈ xs,∀ y ∈ ys,P x y=some (p x y)) (L:Nat->Int->Option (Unit ⊕ Bool))
  (h:∀ f c,L (f + 1) c=if decide (c < (xs.length:Int))=true then (idx xs c).bind fun v=>(idx ys c).bind fun u=>(P v u).bind fun b=>if (!b)=true then some (.inr false) else L f (wr .i64 (c + 1)) else some (.inl ())) :
  (if ((xs.length:Int)!=(ys.length:Int))=true then some false else (L 100000 0).bind fun r=>match r with | .inl _=>some true | .inr w=>some w)=some (decide (xs.length=ys.length)&&(xs.zip ys).all fun x=>p x.1 x.2):=by
 by_cases hl:xs.length=ys.length
 ·rw [if_neg (by simp [hl])]
  have e:=AEm L (fun v u k=>(P v u).bind fun b=>if (!b)=true then some (Sum.inr false) else k) (some (Sum.inl ())) xs ys hl (by omega) h xs ys [] [] 100000 rfl rfl rfl (by omega)
  have e0:L 100000 (([]:List α).length:Int)=L 100000 0:=rfl
  rw [<-e0,e,Zz P p xs ys hP hl]
  cases hq:(xs.zip ys).all (fun x=>p x.1 x.2) <;> simp [hl]
 ·rw [if_pos (by simp; omega)]
  simp [hl]
theorem Pr {α:Type} [DecidableEq α] {p:α->α->Bool}(hp:∀ a b,p a b=decide (a=b)):∀ (xs ys:List α),(decide (xs.length=ys.length)&&(xs.zip ys).all fun x=>p x.1 x.2)=decide (xs=ys)
 | [],[]=>rfl
 | x::xs,y::ys=>by
  have ih:=Pr hp xs ys
  simp only [List.length_cons,Nat.add_right_cancel_iff,List.zip_cons_cons,List.all_cons,List.cons.injEq,hp]
  simp only [hp] at ih
  by_cases h1:x=y
  ·subst h1; simpa using ih
  ·simp [h1]
 | [],_::_=>by simp
 | _::_,[]=>by simp
/-- slices.Equal. -/
theorem AEP {α:Type} [DecidableEq α] [BEq α] [LawfulBEq α] (xs ys:List α) (hx:xs.length<=99999) (L:Nat->Int->Option (Unit ⊕ Bool))
  (h:∀ f c,L (f + 1) c=if decide (c < (xs.length:Int))=true then (idx xs c).bind fun v=>(idx ys c).bind fun u=>if (v != u)=true then some (.inr false) else L f (wr .i64 (c + 1)) else some (.inl ())) :
  (if ((xs.length:Int)!=(ys.length:Int))=true then some false else (L 100000 0).bind fun r=>match r with | .inl _=>some true | .inr w=>some w)=some (decide (xs=ys)):=by
 rw [Xm xs ys hx (fun v u=>some (v==u)) (fun v u=>v==u) (fun _ _ _ _=>rfl) L (fun f c=>by rw [h]; rfl),Pr (fun a b=>by by_cases h:a=b <;> simp [h])]
def Zv (x:AF):Prop:=x.2.1.length<=40/\x.2.2.2.1.length<=20/\∀ s ∈ x.2.2.2.1,s.length<=40
def few (c:List AF):Prop:=c.length<=40/\∀ x ∈ c,Zv x
theorem Zw (l:List (List UInt8)) (h:l.length<=99999):Aw l=some (l.any fun s=>decide ((s.length:Int) > 40)):=by
 unfold Aw BM
 obtain ⟨n,h1,h2⟩:=P7 l h IF (fun s=>decide ((s.length:Int) > 40)) (fun x _=>rfl) (BV l) (fun f c=>rfl)
 rw [<-h2]
 exact (congrArg (fun o=>o.bind fun v1=>some (decide (v1≥0))) h1)
def ACy (x:AF):Bool:=decide ((x.2.1.length:Int) > 40)||decide ((x.2.2.2.1.length:Int) > 20)||x.2.2.2.1.any fun s=>decide ((s.length:Int) > 40)
theorem AFs (x:AF):H5 x=some (ACy x):=by
 unfold H5 ACy
 by_cases h1:(x.2.1.length:Int) > 40
 ·simp [h1]
 ·by_cases h2:(x.2.2.2.1.length:Int) > 20
  ·simp [h2]
  ·rw [Zw _ (by omega)]
   simp [h1,h2]
theorem Yc (x:AF):ACy x=false↔Zv x:=by
 unfold ACy Zv
 simp only [Bool.or_eq_false_iff,decide_eq_false_iff_not,List.any_eq_false,decide_eq_true_eq]
 constructor
 ·rintro ⟨⟨h1,h2⟩,h3⟩
  exact ⟨by omega,by omega,fun s hs=>by have:=h3 s hs; omega⟩
 ·rintro ⟨h1,h2,h3⟩
  exact ⟨⟨by omega,by omega⟩,fun s hs=>by have:=h3 s hs; omega⟩
theorem AEQ (c:List AF):∃ b,MM c=some b/\(b=true↔few c):=by
 unfold MM
 by_cases h:c.length<=40
 ·rw [if_pos (by simp; omega)]
  have e:Al c=some (c.any ACy):=by
   unfold Al A1
   obtain ⟨n,h1,h2⟩:=P7 c (by omega) H5 ACy (fun x _=>AFs x) (BD c) (fun f c=>rfl)
   rw [<-h2]
   exact (congrArg (fun o=>o.bind fun v1=>some (decide (v1≥0))) h1)
  rw [e]
  refine ⟨!c.any ACy,rfl,?_⟩
  simp only [Bool.not_eq_true',List.any_eq_false,few,h,true_and]
  exact ⟨fun q x hx=>(Yc x).1 (by simpa using q x hx),fun q x hx=>by simp [(Yc x).2 (q x hx)]⟩
 ·rw [if_neg (by simp; omega)]
  exact ⟨false,rfl,by simp [few,h]⟩
/-- Copies. -/
theorem Zn (c:List AF) (h:few c):∀ (r pre:List AF) (f:Nat),c=pre++r->r.length < f->Fm c f pre (pre.length:Int)=some c
 | [],pre,f + 1,e,_=>by
  unfold Fm
  rw [if_neg (by rw [e]; simp),e,List.append_nil]
 | v::r,pre,f + 1,e,hf=>by
  have hv:Zv v:=h.2 v (by rw [e]; simp)
  have hl:=h.1
  have hl2:c.length=pre.length + r.length + 1:=by rw [e]; simp; omega
  simp only [List.length_cons] at hf
  obtain ⟨h1,h2,h3⟩:=hv
  unfold Fm
  have hi:idx c (pre.length:Int)=some v:=by rw [e,D8]
  rw [if_pos (by rw [e]; exact HI pre v r),hi,OS,if_pos (HM (by omega) (by omega)),if_pos (HM (by omega) (by omega)),if_pos (by unfold MW; simp; omega),if_pos (HM (by omega) (by omega))]
  have hv2:(v.1,v.2.1,v.2.2.1,((v.2.2.2.1++[[115,112,97,114,101]]).take ((v.2.2.2.1.length:Int).toNat)),v.2.2.2.2)=v:=by
   rw [Int.toNat_natCast,List.take_left]
  rw [hv2,show wr .i64 ((pre.length:Int) + 1)=((pre++[v]).length:Int) from FJ pre v r (by rw [<-e]; omega)]
  exact Zn c h r (pre++[v]) f (by rw [e]; simp) (by omega)
theorem ACo (c:List AF) (h:few c):J7 c=some c:=by
 unfold J7
 have:=Zn c h c [] 100000 rfl (by have:=h.1; omega)
 have e0:Fm c 100000 [] (([]:List AF).length:Int)=Fm c 100000 [] 0:=rfl
 rw [<-e0,this]; rfl
/-- Comparisons. -/
theorem ACu (xs ys:List (List UInt8)) (h:xs.length<=99999):Cg xs ys=some (decide (xs=ys)):=by
 unfold Cg
 exact AEP xs ys h (DL xs ys) (fun f c=>rfl)
theorem AE0 (a b:AF) (h:a.2.2.2.1.length<=99999):EX a b=some (decide (a=b)):=by
 unfold EX
 rw [ACu _ _ h]
 obtain ⟨a1,a2,a3,a4,a5⟩:=a
 obtain ⟨b1,b2,b3,b4,b5⟩:=b
 by_cases h1:a1=b1
 ·by_cases h2:a2=b2
  ·by_cases h3:a3=b3
   ·by_cases h5:a5=b5
    ·simp [h1,h2,h3,h5]
    ·simp [h5]
   ·simp [h3]
  ·simp [h2]
 ·simp [h1]
theorem ADa (a b:List AF) (h:few a):J8 a b=some (decide (a=b)):=by
 unfold J8 Aa
 rw [<-Pr (p:=fun x y=>decide (x=y)) (fun _ _=>rfl) a b]
 have:=Xm a b (by have:=h.1; omega) EX (fun x y=>decide (x=y)) (fun x hx y _=>AE0 x y (by have:=(h.2 x hx).2.1; omega)) (Ad a b) (fun f c=>rfl)
 exact (congrArg (fun o=>o.bind fun v1=>some v1) this)
/-- Names. -/
def AAy (c:UInt8):Bool:=decide ((c.toNat:Int) < 97)||decide ((c.toNat:Int) > 122)
def HH (s:List UInt8):Bool:=decide (1<=s.length)&&decide (s.length<=12)&&!s.any AAy
theorem X2:∀ (s:List UInt8) (i:Nat),goU (fun v _ (k:Option (Unit ⊕ Bool))=>if AAy v=true then some (.inr false) else k) (some (.inl ())) s i=some (if s.any AAy=true then .inr false else .inl ())
 | [],_=>rfl
 | c::s,i=>by
  unfold goU
  rw [X2 s (i + 1),List.any_cons]
  cases AAy c <;> rfl
theorem AEq (s:List UInt8) (h:s.length<=99999):Gf s 100000 0=some (if s.any AAy=true then .inr false else .inl ()):=by
 rw [<-X2 s 0]
 refine LZ s (Gf s) _ _ 100000 (by omega) (fun f pre v r e=>?_) (fun f=>?_)
 ·conv=>lhs; unfold Gf
  rw [e,if_pos (HI pre v r),D8,OS,OS,FJ pre v r (by rw [<-e]; omega)]
  unfold AAy
  by_cases h:(v.toNat:Int) < 97 <;> simp [h]
 ·conv=>lhs; unfold Gf
  rw [if_neg (by simp)]
theorem ADC (s:List UInt8) (h:s.length<=99999):H3 s 100000 0=some (if s.any AAy=true then .inr false else .inl ()):=by
 rw [<-X2 s 0]
 refine LZ s (H3 s) _ _ 100000 (by omega) (fun f pre v r e=>?_) (fun f=>?_)
 ·conv=>lhs; unfold H3
  rw [e,if_pos (HI pre v r),D8,OS,OS,FJ pre v r (by rw [<-e]; omega)]
  unfold AAy
  by_cases h:(v.toNat:Int) < 97 <;> simp [h]
 ·conv=>lhs; unfold H3
  rw [if_neg (by simp)]
theorem AAH (s:List UInt8) (h:s.length<=99999):Iz s=some (HH s):=by
 unfold Iz HH
 rw [AEq s h,OS]
 cases hb:s.any AAy
 ·by_cases h1:s.length < 1
  ·have:s.length=0:=by omega
   simp [this]
  ·simp [show (s.length:Int)≥1 by omega,show 1<=s.length by omega]; omega
 ·simp
theorem Yi (s:List UInt8) (h:s.length<=99999):Ms s=some (HH s):=by
 unfold Ms HH
 by_cases h1:s.length < 1
 ·have:s.length=0:=by omega
  simp [this]
 ·by_cases h2:s.length > 12
  ·simp [show ¬ ((s.length:Int) < 1) by omega,show ((s.length:Int) > 12) by omega,show ¬ (s.length<=12) by omega]
  ·rw [ADC s h]
   cases hb:s.any AAy
   ·simp [show ¬ ((s.length:Int) < 1) by omega,show ¬ ((s.length:Int) > 12) by omega,show (s.length<=12) by omega,show 1<=s.length by omega]
   ·simp [show ¬ ((s.length:Int) < 1) by omega,show ¬ ((s.length:Int) > 12) by omega]
theorem ADM (l:List (List UInt8)) (h:l.length<=99999) (hs:∀ s ∈ l,s.length<=99999):An l=some (l.any fun s=>!HH s):=by
 unfold An BL
 obtain ⟨n,h1,h2⟩:=P7 l h HQ (fun s=>!HH s) (fun x hx=>by unfold HQ; rw [AAH x (hs x hx)]; rfl) (BU l) (fun f c=>rfl)
 rw [<-h2]
 exact (congrArg (fun o=>o.bind fun v1=>some (decide (v1≥0))) h1)
def Oh (l:List (List UInt8)) (s:List UInt8):Bool:=l.any fun v=>s==v
theorem L6 (l:List (List UInt8)) (s:List UInt8) (h:l.length<=99999):BQ l s=some (Oh l s):=by
 unfold BQ CH
 obtain ⟨n,h1,h2⟩:=P7 l h (fun v=>some (s==v)) (fun v=>s==v) (fun _ _=>rfl) (Bc l s) (fun f c=>rfl)
 unfold Oh
 rw [<-h2]
 exact (congrArg (fun o=>o.bind fun v1=>some (decide (v1≥0))) h1)
theorem Z6 (s:List UInt8):∀ (l:List (List UInt8)) (i:Nat),goU (fun v _ (k:Option (Unit ⊕ Bool))=>if (v==s)=true then some (.inr true) else k) (some (.inl ())) l i=some (if Oh l s=true then .inr true else .inl ())
 | [],_=>rfl
 | c::l,i=>by
  unfold goU
  rw [Z6 s l (i + 1)]
  have:Oh (c::l) s=((c==s)||Oh l s):=by
   unfold Oh
   rw [List.any_cons,Bool.beq_comm]
  rw [this]
  cases (c==s) <;> rfl
theorem Ye (l:List (List UInt8)) (s:List UInt8) (h:l.length<=99999):Ie l s=some (Oh l s):=by
 unfold Ie
 have e:=AF3 l (KR l s) (fun v _ (k:Option (Unit ⊕ Bool))=>if (v==s)=true then some (.inr true) else k) (some (.inl ())) 100000 (by omega) (by omega) (fun f c=>rfl)
 rw [e,Z6]
 cases Oh l s <;> rfl
/-- What is asked of the fields, by a row: names, from, to, last. -/
def fin (L:Nat) (n:Int) (la:Bool) (w:Int×Int×Int×Bool):Option Bool :=
 (if (decide ((L:Int)<=w.1))=true then if (w.1==0)=true then if (decide (n≥w.2.1))=true then if (decide (n<=w.2.2.1))=true then if w.2.2.2=true then some true else some (!la) else some false else some false else if (decide ((L:Int) > 0))=true then if (decide (n≥w.2.1))=true then if (decide (n<=w.2.2.1))=true then if w.2.2.2=true then some true else some (!la) else some false else some false else some false else some false).bind fun j58=>some j58
theorem QG (L:Nat) (n:Int) (la:Bool) (a lo hi:Int) (last:Bool):fin L n la (a,lo,hi,last)=some ((decide ((L:Int)<=a)&&(a==0||decide ((L:Int) > 0)))&&(decide (n≥lo)&&(decide (n<=hi)&&(last||!la)))):=by
 unfold fin
 dsimp only
 generalize decide ((L:Int)<=a)=b1
 generalize (a==0)=b2
 generalize decide ((L:Int) > 0)=b3
 generalize decide (n≥lo)=b4
 generalize decide (n<=hi)=b5
 cases b1 <;> cases b2 <;> cases b3 <;> cases b4 <;> cases b5 <;> cases last <;> cases la <;> rfl
theorem W4 (x:AF):∃ b,Cn x=some b/\BJ x=some b:=by
 obtain ⟨k,am,la,nm,n⟩:=x
 by_cases h1:k=1
 ·subst h1
  have hr:BJ (1,am,la,nm,n)=some ((decide (1<=(nm.length:Int))&&decide ((nm.length:Int)<=16))&&((n==0)&&(!la&&(am==[])))):=by
   unfold BJ
   unfold Bb
   dsimp only
   generalize decide (1<=(nm.length:Int))=b0
   generalize decide ((nm.length:Int)<=16)=b1
   generalize (n==0)=b2
   generalize (am==[])=b3
   cases b0 <;> cases b1 <;> cases b2 <;> cases la <;> cases b3 <;> rfl
  refine ⟨_,?_,hr⟩
  cases am with
  | cons a am =>
   have hc:Cn (1,a::am,la,nm,n)=some false:=rfl
   rw [hc]
   simp
  | nil =>
   have hc:Cn (1,[],la,nm,n)=fin nm.length n la (16,0,0,false):=rfl
   rw [hc,QG]
   congr 1
   rw [Bool.eq_iff_iff]
   generalize nm.length=L
   cases la <;> simp <;> omega
 by_cases h2:k=2
 ·subst h2
  have hr:BJ (2,am,la,nm,n)=some (((nm.length:Int)==0)&&((n==0)&&!la)):=by
   unfold BJ
   unfold Bb
   dsimp only
   generalize ((nm.length:Int)==0)=b0
   generalize (n==0)=b1
   cases b0 <;> cases b1 <;> cases la <;> rfl
  refine ⟨_,?_,hr⟩
  have hc:Cn (2,am,la,nm,n)=fin nm.length n la (0,0,0,false):=rfl
  rw [hc,QG]
  congr 1
  rw [Bool.eq_iff_iff]
  generalize nm.length=L
  cases la <;> simp <;> omega
 by_cases h3:k=3
 ·subst h3
  have hr:BJ (3,am,la,nm,n)=some (((nm.length:Int)==0)&&((n==0)&&!la)):=by
   unfold BJ
   unfold Bb
   dsimp only
   generalize ((nm.length:Int)==0)=b0
   generalize (n==0)=b1
   cases b0 <;> cases b1 <;> cases la <;> rfl
  refine ⟨_,?_,hr⟩
  have hc:Cn (3,am,la,nm,n)=fin nm.length n la (0,0,0,false):=rfl
  rw [hc,QG]
  congr 1
  rw [Bool.eq_iff_iff]
  generalize nm.length=L
  cases la <;> simp <;> omega
 by_cases h8:k=8
 ·subst h8
  have hr:BJ (8,am,la,nm,n)=some (((nm.length:Int)==0)&&((n==0)&&!la)):=by
   unfold BJ
   unfold Bb
   dsimp only
   generalize ((nm.length:Int)==0)=b0
   generalize (n==0)=b1
   cases b0 <;> cases b1 <;> cases la <;> rfl
  refine ⟨_,?_,hr⟩
  have hc:Cn (8,am,la,nm,n)=fin nm.length n la (0,0,0,false):=rfl
  rw [hc,QG]
  congr 1
  rw [Bool.eq_iff_iff]
  generalize nm.length=L
  cases la <;> simp <;> omega
 by_cases h9:k=9
 ·subst h9
  have hr:BJ (9,am,la,nm,n)=some (((nm.length:Int)==0)&&((n==0)&&!la)):=by
   unfold BJ
   unfold Bb
   dsimp only
   generalize ((nm.length:Int)==0)=b0
   generalize (n==0)=b1
   cases b0 <;> cases b1 <;> cases la <;> rfl
  refine ⟨_,?_,hr⟩
  have hc:Cn (9,am,la,nm,n)=fin nm.length n la (0,0,0,false):=rfl
  rw [hc,QG]
  congr 1
  rw [Bool.eq_iff_iff]
  generalize nm.length=L
  cases la <;> simp <;> omega
 by_cases h4:k=4
 ·subst h4
  have hr:BJ (4,am,la,nm,n)=some (((nm.length:Int)==0)&&(decide (1<=n)&&decide (n<=2))):=by
   unfold BJ
   unfold Bb
   dsimp only
   generalize ((nm.length:Int)==0)=b0
   generalize decide (1<=n)=b1
   generalize decide (n<=2)=b2
   cases b0 <;> cases b1 <;> cases b2 <;> cases la <;> rfl
  refine ⟨_,?_,hr⟩
  have hc:Cn (4,am,la,nm,n)=fin nm.length n la (0,1,2,true):=rfl
  rw [hc,QG]
  congr 1
  rw [Bool.eq_iff_iff]
  generalize nm.length=L
  cases la <;> simp <;> omega
 by_cases h5:k=5
 ·subst h5
  have hr:BJ (5,am,la,nm,n)=some (((nm.length:Int)==0)&&(n==0)):=by
   unfold BJ
   unfold Bb
   dsimp only
   generalize ((nm.length:Int)==0)=b0
   generalize (n==0)=b1
   cases b0 <;> cases b1 <;> cases la <;> rfl
  refine ⟨_,?_,hr⟩
  have hc:Cn (5,am,la,nm,n)=fin nm.length n la (0,0,0,true):=rfl
  rw [hc,QG]
  congr 1
  rw [Bool.eq_iff_iff]
  generalize nm.length=L
  cases la <;> simp <;> omega
 by_cases h6:k=6
 ·subst h6
  have hr:BJ (6,am,la,nm,n)=some ((decide (1<=(nm.length:Int))&&decide ((nm.length:Int)<=16))&&(n==0)):=by
   unfold BJ
   unfold Bb
   dsimp only
   generalize decide (1<=(nm.length:Int))=b0
   generalize decide ((nm.length:Int)<=16)=b1
   generalize (n==0)=b2
   cases b0 <;> cases b1 <;> cases b2 <;> cases la <;> rfl
  refine ⟨_,?_,hr⟩
  have hc:Cn (6,am,la,nm,n)=fin nm.length n la (16,0,0,true):=rfl
  rw [hc,QG]
  congr 1
  rw [Bool.eq_iff_iff]
  generalize nm.length=L
  cases la <;> simp <;> omega
 by_cases h7:k=7
 ·subst h7
  have hr:BJ (7,am,la,nm,n)=some ((decide (1<=(nm.length:Int))&&decide ((nm.length:Int)<=16))&&(n==0)):=by
   unfold BJ
   unfold Bb
   dsimp only
   generalize decide (1<=(nm.length:Int))=b0
   generalize decide ((nm.length:Int)<=16)=b1
   generalize (n==0)=b2
   cases b0 <;> cases b1 <;> cases b2 <;> cases la <;> rfl
  refine ⟨_,?_,hr⟩
  have hc:Cn (7,am,la,nm,n)=fin nm.length n la (16,0,0,true):=rfl
  rw [hc,QG]
  congr 1
  rw [Bool.eq_iff_iff]
  generalize nm.length=L
  cases la <;> simp <;> omega
 by_cases h10:k=10
 ·subst h10
  have hr:BJ (10,am,la,nm,n)=some (((nm.length:Int)==0)&&((decide (0<=n)&&decide (n<=63))&&!la)):=by
   unfold BJ
   unfold Bb
   dsimp only
   generalize ((nm.length:Int)==0)=b0
   generalize decide (0<=n)=b1
   generalize decide (n<=63)=b2
   cases b0 <;> cases b1 <;> cases b2 <;> cases la <;> rfl
  refine ⟨_,?_,hr⟩
  have hc:Cn (10,am,la,nm,n)=fin nm.length n la (0,0,63,false):=rfl
  rw [hc,QG]
  congr 1
  rw [Bool.eq_iff_iff]
  generalize nm.length=L
  cases la <;> simp <;> omega
 have e:∀ m:Int,(m=1\/m=2\/m=3\/m=4\/m=5\/m=6\/m=7\/m=8\/m=9\/m=10)->(k==m)=false:=fun m hm=>by
  rw [beq_eq_false_iff_ne]
  rintro rfl
  omega
 refine ⟨false,?_,?_⟩
 ·simp [Cn,JB,JC,JD,JE,JF,JG,JH,JI,JJ,e]
 ·simp [BJ,H7,H8,H9,IA,e]
end Go.Proofs.YtlalcoehgkmhlaaGreatDoor
