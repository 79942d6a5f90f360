/- Lemmas for the proof. -/
import Derived.Test.YtlalcoehgkmhlaaGreatDoorCourtMovedM1
import Derived.Test.YtlalcoehgkmhlaaGreatDoorCourtMovedM2
import Derived.Test.YtlalcoehgkmhlaaGreatDoorCourtMovedM3
import Derived.Test.YtlalcoehgkmhlaaGreatDoorCourtMovedM4
import Derived.RecoverIn
import Derived.Shelf.Strings.Search1
import Derived.Shelf.Strings.Count
set_option maxHeartbeats 4000000
set_option maxRecDepth 100000
namespace Go.Proofs.YtlalcoehgkmhlaaGreatDoor
open Go.RowKit
/- trestle/court.orderOf$1 -/
noncomputable def II:Code:=Bo Tryz.f165
def Bq {β:Type}(G:AP->AP->β->Option Int) (x0:AP) (x1:AP) (x2:AE) (x3:β):Option (Int) :=
 (if (!(x2.2.1==[]))=true then if (!(x0.1.2.1==x2.2.1))=true then some true else some (!(x1.1.2.1==x2.2.1)) else some false).bind fun j2 =>
 if j2=true then
 some 0
 else
 (G x0 x1 x3).bind fun v4 =>
 some v4
def GP {β:Type}(fid:FuncId) (sx:Cs β) (hn:∀ x,(sx.enc x).all F6=true):Cs (AP×AP×AE×β×Unit):=(csC AD (csC AD (csC (cdP AA) (csC (cdP (cdF fid sx hn)) csN))))
def GT (r:Int):AV:=cdI.enc r
theorem Kg {β:Type}{fid:FuncId}{sx:Cs β}{hn:∀ x,(sx.enc x).all F6=true}{G:AP->AP->β->Option Int}(hX:XOk fid (EN (csC AD (csC AD sx)) (fun a=>G a.1 a.2.1 a.2.2) cdI.enc)) (x0:AP) (x1:AP) (x2:AE) (x3:β) (r:Int) (h:Bq G x0 x1 x2 x3=some r):Sem E0 ⟨none,false⟩ II ⟨Fr 30 (BS 0 ((GP fid sx hn).enc (x0,x1,x2,x3,()))),[]⟩ fun e s'=>(e = .normal\/e = .ret)/\∃ xs,Eo E0.P s'.fr s'.hp Tryz.f165.results.toList=some xs/\Er xs=GT r:=by
 unfold Bq at h
 refine BJ (CD (s1:=⟨Fr 30 [(0,AD.enc x0),(1,AD.enc x1),(2,.pe (AA.enc x2) 0),(3,.pe (.fn fid [] (sx.enc x3)) 0)],[]⟩) AT ?_)
 refine AM AC [(2,.pe (AA.enc x2) 0),(3,.pe (.fn fid [] (sx.enc x3)) 0),(4,.pt 0 0 0),(5,.pt 1 0 0)] [some ⟨10,115,[AD.enc x0],false⟩,some ⟨10,115,[AD.enc x1],false⟩] ?_
 refine AH ?_
 refine AH ?_
 obtain ⟨j2,hj2,h⟩:=OB h
 refine AO (s1:=⟨Fr 30 [(3,.pe (.fn fid [] (sx.enc x3)) 0),(4,.pt 0 0 0),(5,.pt 1 0 0),(25,.v (.bool j2))],[some ⟨10,115,[AD.enc x0],false⟩,some ⟨10,115,[AD.enc x1],false⟩]⟩) ?_ ?_
 ·refine AF (n:=30) AC 4 [(2,.pe (AA.enc x2) 0),(3,.pe (.fn fid [] (sx.enc x3)) 0),(4,.pt 0 0 0),(5,.pt 1 0 0),(10,.v (.bool (!(x2.2.1==[]))))] [some ⟨10,115,[AD.enc x0],false⟩,some ⟨10,115,[AD.enc x1],false⟩] kr ?_
  rcases BE (!(x2.2.1==[])) with hc5 | hc5
  ·rw [if_pos hc5] at hj2
   rw [hc5]
   refine AF (n:=30) AC 7 [(2,.pe (AA.enc x2) 0),(3,.pe (.fn fid [] (sx.enc x3)) 0),(4,.pt 0 0 0),(5,.pt 1 0 0),(10,.v (.bool true)),(17,.v (.bool (!(x0.1.2.1==x2.2.1))))] [some ⟨10,115,[AD.enc x0],false⟩,some ⟨10,115,[AD.enc x1],false⟩] kr ?_
   rcases BE (!(x0.1.2.1==x2.2.1)) with hc6 | hc6
   ·rw [if_pos hc6] at hj2
    rw [hc6]
    refine AF (n:=30) AC 8 [(3,.pe (.fn fid [] (sx.enc x3)) 0),(4,.pt 0 0 0),(5,.pt 1 0 0),(25,.v (.bool true))] [some ⟨10,115,[AD.enc x0],false⟩,some ⟨10,115,[AD.enc x1],false⟩] kr ?_
    have hq:=OI hj2; subst hq
    exact AL rfl (Au [0,1] ⟨⟨_,rfl,Cw⟩,⟨_,rfl,Cw⟩,trivial⟩ ⟨lv,lv,lv,lv,trivial⟩)
   ·rw [Cr hc6] at hj2
    rw [hc6]
    refine AF (n:=30) AC 8 [(3,.pe (.fn fid [] (sx.enc x3)) 0),(4,.pt 0 0 0),(5,.pt 1 0 0),(25,.v (.bool (!(x1.1.2.1==x2.2.1))))] [some ⟨10,115,[AD.enc x0],false⟩,some ⟨10,115,[AD.enc x1],false⟩] kr ?_
    have hq:=OI hj2; subst hq
    exact AL rfl (Au [0,1] ⟨⟨_,rfl,Cw⟩,⟨_,rfl,Cw⟩,trivial⟩ ⟨lv,lv,lv,lv,trivial⟩)
  ·rw [Cr hc5] at hj2
   rw [hc5]
   refine AF (n:=30) AC 15 [(3,.pe (.fn fid [] (sx.enc x3)) 0),(4,.pt 0 0 0),(5,.pt 1 0 0),(25,.v (.bool false))] [some ⟨10,115,[AD.enc x0],false⟩,some ⟨10,115,[AD.enc x1],false⟩] kr ?_
   have hq:=OI hj2; subst hq
   exact AL rfl (Au [0,1] ⟨⟨_,rfl,Cw⟩,⟨_,rfl,Cw⟩,trivial⟩ ⟨lv,lv,lv,lv,trivial⟩)
 refine AW (b:=j2) kr (fun hb3=>?_) (fun hb3=>?_)
 ·rw [if_pos hb3] at h
  refine AH ?_
  refine AO (s1:=⟨Fr 30 [(6,.v (.int .i64 0))],[]⟩) ?_ ?_
  ·refine AF (n:=30) AC 1 [(6,.v (.int .i64 0))] [some ⟨10,115,[AD.enc x0],false⟩,some ⟨10,115,[AD.enc x1],false⟩] kr ?_
   exact AL rfl (Au [] trivial ⟨lv,trivial⟩)
  refine AX ?_
  have hq:=OI h; subst hq
  exact ⟨⟨Fr 30 [(6,.v (.int .i64 0))],[]⟩,AT,.inr rfl,[.v (.int .i64 0)],kr,kr⟩
 ·rw [Cr hb3] at h
  refine Ai ?_
  refine AH ?_
  obtain ⟨v4,hv4,h⟩:=OB h
  refine AO (s1:=⟨Fr 30 [(6,.v (.int .i64 v4))],[]⟩) ?_ ?_
  ·refine AF (n:=30) AC 3 [(26,.fn fid [] (sx.enc x3)),(27,AD.enc x0),(28,AD.enc x1)] [some ⟨10,115,[AD.enc x0],false⟩,some ⟨10,115,[AD.enc x1],false⟩] kr ?_
   refine Ay (caps:=sx.enc x3) (xs:=[AD.enc x0,AD.enc x1]) (u:=(x0,x1,x3)) rfl rfl hX rfl (AB rfl) kr kr (Ab (A3 (c:=AD) (v:=x0)) (Ab (A3 (c:=AD) (v:=x1)) (Og (n:=10) (s:=sx) (a:=x3)))) (.inl kr) hv4 ?_
   refine AF (n:=30) AC 1 [(6,.v (.int .i64 v4))] [some ⟨10,115,[AD.enc x0],false⟩,some ⟨10,115,[AD.enc x1],false⟩] kr ?_
   exact AL rfl (Au [] trivial ⟨lv,trivial⟩)
  refine AX ?_
  have hq:=OI h; subst hq
  exact ⟨⟨Fr 30 [(6,.v (.int .i64 v4))],[]⟩,AT,.inr rfl,[.v (.int .i64 v4)],kr,kr⟩
def L4 {β:Type}(fid:FuncId) (sx:Cs β) (hn:∀ x,(sx.enc x).all F6=true) (G:AP->AP->β->Option Int):List AV->Option AV:=EN (GP fid sx hn) (fun a=>Bq G a.1 a.2.1 a.2.2.1 a.2.2.2.1) GT
theorem CG {β:Type}{fid:FuncId}{sx:Cs β}{hn:∀ x,(sx.enc x).all F6=true}{G:AP->AP->β->Option Int}(hX:XOk fid (EN (csC AD (csC AD sx)) (fun a=>G a.1 a.2.1 a.2.2) cdI.enc)):XOk 165 (L4 fid sx hn G):=by
 refine AZ Tryz.func165 (c:=II) ?h2 ⟨Tryz.call165⟩ (GP fid sx hn) (fun a=>Bq G a.1 a.2.1 a.2.2.1 a.2.2.2.1) GT (fun a=>(by show 4<=30; decide)) ?h3 ?h4
 case h2=>kernel_rfl
 case h3=>intro b; kernel_rfl
 case h4=>exact fun a b h=>Kg hX a.1 a.2.1 a.2.2.1 a.2.2.2.1 b h
/- cmp.isNaN[int] -/
noncomputable def JJ:Code:=Bo Tryz.f137
def Eg (x0:Int):Option (Bool) :=
 some (x0 != x0)
def HK:Cs (Int×Unit):=(csC cdI csN)
def HX (r:Bool):AV:=cdB.enc r
theorem LR (x0:Int) (r:Bool) (h:Eg x0=some r):Sem E0 ⟨none,false⟩ JJ ⟨Fr 6 (BS 0 (HK.enc (x0,()))),[]⟩ fun e s'=>(e = .normal\/e = .ret)/\∃ xs,Eo E0.P s'.fr s'.hp Tryz.f137.results.toList=some xs/\Er xs=HX r:=by
 unfold Eg at h;refine BJ (CD (s1:=⟨Fr 6 [(0,.v (.int .i64 x0))],[]⟩) AT ?_);refine AM AC [(0,.v (.int .i64 x0))] [] ?_;refine AM AC [(2,.v (.bool (x0 != x0)))] [] ?_;refine AX ?_;have hq:=OI h; subst hq;exact ⟨⟨Fr 6 [(2,.v (.bool (x0 != x0)))],[]⟩,AT,.inr rfl,[.v (.bool (x0 != x0))],kr,kr⟩
def NP:List AV->Option AV:=EN HK (fun a=>Eg a.1) HX
theorem J7:XOk 137 NP:=by
 refine AZ Tryz.func137 (c:=JJ) ?h2 ⟨Tryz.call137⟩ HK (fun a=>Eg a.1) HX (fun a=>(by show 1<=6; decide)) ?h3 ?h4
 case h2=>kernel_rfl
 case h3=>intro b; kernel_rfl
 case h4=>exact fun a b h=>LR a.1 b h
/- cmp.Compare[int] -/
noncomputable def IG:Code:=Bo Tryz.f113
def CA (x0:Int) (x1:Int):Option (Int) :=
 (Eg x0).bind fun v1 =>
 (Eg x1).bind fun v2 =>
 if v1=true then
 if v2=true then
 some 0
 else
 some (-1)
 else
 if v2=true then
 some 1
 else
 if (decide (x0 < x1))=true then
 some (-1)
 else
 if (decide (x0 > x1))=true then
 some 1
 else
 some 0
def GN:Cs (Int×Int×Unit):=(csC cdI (csC cdI csN))
def GS (r:Int):AV:=cdI.enc r
theorem Kf (x0:Int) (x1:Int) (r:Int) (h:CA x0 x1=some r):Sem E0 ⟨none,false⟩ IG ⟨Fr 20 (BS 0 (GN.enc (x0,x1,()))),[]⟩ fun e s'=>(e = .normal\/e = .ret)/\∃ xs,Eo E0.P s'.fr s'.hp Tryz.f113.results.toList=some xs/\Er xs=GS r:=by
 unfold CA at h
 let p1:Nat×AV:=(1,.v (.int .i64 x1))
 let p2:Nat×AV:=(0,.v (.int .i64 x0))
 refine BJ (CD (s1:=⟨Fr 20 [p2,p1],[]⟩) AT ?_);refine AM AC [p2,p1] [] ?_;refine AH ?_;obtain ⟨v1,hv1,h⟩:=OB h
 let p3:Nat×AV:=(5,.v (.bool v1))
 refine AO (s1:=⟨Fr 20 [p2,p1,p3],[]⟩) ?_ ?_
 ·refine AF (n:=20) AC 1 [p2,p1,(7,.v (.int .i64 x0))] [] kr ?_
  refine Ay (caps:=[]) (xs:=[.v (.int .i64 x0)]) (u:=(x0,())) rfl rfl J7 rfl (AB rfl) kr kr (Ab (A3 (c:=cdI) (v:=x0)) B6) (.inl kr) hv1 ?_;exact A5 AC
 refine AH ?_;obtain ⟨v2,hv2,h⟩:=OB h;refine AO (s1:=⟨Fr 20 [p2,p1,p3,(6,.v (.bool v2))],[]⟩) ?_ ?_
 ·refine AF (n:=20) AC 1 [p2,p1,p3,(9,.v (.int .i64 x1))] [] kr ?_
  refine Ay (caps:=[]) (xs:=[.v (.int .i64 x1)]) (u:=(x1,())) rfl rfl J7 rfl (AB rfl) kr kr (Ab (A3 (c:=cdI) (v:=x1)) B6) (.inl kr) hv2 ?_;exact A5 AC
 refine AH ?_;refine AM AC [p2,p1,(6,.v (.bool v2)),(11,.v (.bool v1))] [] ?_;refine AW (b:=v1) kr (fun hb3=>?_) (fun hb3=>?_)
 ·rw [if_pos hb3] at h
  refine AH ?_;refine AM AC [(12,.v (.bool v2))] [] ?_;refine AW (b:=v2) kr (fun hb4=>?_) (fun hb4=>?_)
  ·rw [if_pos hb4] at h
   refine AM AC [(4,.v (.int .i64 0))] [] ?_;refine AX ?_;have hq:=OI h; subst hq;exact ⟨⟨Fr 20 [(4,.v (.int .i64 0))],[]⟩,AT,.inr rfl,[.v (.int .i64 0)],kr,kr⟩
  ·rw [Cr hb4] at h
   refine Ai ?_;refine AM AC [(4,.v (.int .i64 (-1)))] [] ?_;refine AX ?_;have hq:=OI h; subst hq;exact ⟨⟨Fr 20 [(4,.v (.int .i64 (-1)))],[]⟩,AT,.inr rfl,[.v (.int .i64 (-1))],kr,kr⟩
 ·rw [Cr hb3] at h
  refine Ai ?_;refine AH ?_;refine AM AC [p2,p1,(13,.v (.bool v2))] [] ?_;refine AW (b:=v2) kr (fun hb5=>?_) (fun hb5=>?_)
  ·rw [if_pos hb5] at h
   refine AM AC [(4,.v (.int .i64 1))] [] ?_;refine AX ?_;have hq:=OI h; subst hq;exact ⟨⟨Fr 20 [(4,.v (.int .i64 1))],[]⟩,AT,.inr rfl,[.v (.int .i64 1)],kr,kr⟩
  ·rw [Cr hb5] at h
   refine Ai ?_;refine AH ?_;refine AM AC [p2,p1,(16,.v (.bool (decide (x0 < x1))))] [] ?_;refine AW (b:=(decide (x0 < x1))) kr (fun hb6=>?_) (fun hb6=>?_)
   ·rw [if_pos hb6] at h
    refine AM AC [(4,.v (.int .i64 (-1)))] [] ?_;refine AX ?_;have hq:=OI h; subst hq;exact ⟨⟨Fr 20 [(4,.v (.int .i64 (-1)))],[]⟩,AT,.inr rfl,[.v (.int .i64 (-1))],kr,kr⟩
   ·rw [Cr hb6] at h
    refine Ai ?_;refine AH ?_;refine AM AC [(19,.v (.bool (decide (x0 > x1))))] [] ?_;refine AW (b:=(decide (x0 > x1))) kr (fun hb7=>?_) (fun hb7=>?_)
    ·rw [if_pos hb7] at h
     refine AM AC [(4,.v (.int .i64 1))] [] ?_;refine AX ?_;have hq:=OI h; subst hq;exact ⟨⟨Fr 20 [(4,.v (.int .i64 1))],[]⟩,AT,.inr rfl,[.v (.int .i64 1)],kr,kr⟩
    ·rw [Cr hb7] at h
     refine Ai ?_;refine AM AC [(4,.v (.int .i64 0))] [] ?_;refine AX ?_;have hq:=OI h; subst hq;exact ⟨⟨Fr 20 [(4,.v (.int .i64 0))],[]⟩,AT,.inr rfl,[.v (.int .i64 0)],kr,kr⟩
def L1:List AV->Option AV:=EN GN (fun a=>CA a.1 a.2.1) GS
theorem Eb:XOk 113 L1:=by
 refine AZ Tryz.func113 (c:=IG) ?h2 ⟨Tryz.call113⟩ GN (fun a=>CA a.1 a.2.1) GS (fun a=>(by show 2<=20; decide)) ?h3 ?h4
 case h2=>kernel_rfl
 case h3=>intro b; kernel_rfl
 case h4=>exact fun a b h=>Kf a.1 a.2.1 b h
/- trestle/court.by$1 -/
noncomputable def Kr:Code:=Bo Tryz.f205
def CE {β:Type}(G:AP->β->Option Int) (x0:AP) (x1:AP) (x2:β):Option (Int) :=
 (G x0 x2).bind fun v1 =>
 (G x1 x2).bind fun v2 =>
 (CA v1 v2).bind fun v3 =>
 some v3
def I3 {β:Type}(fid:FuncId) (sx:Cs β) (hn:∀ x,(sx.enc x).all F6=true):Cs (AP×AP×β×Unit):=(csC AD (csC AD (csC (cdP (cdF fid sx hn)) csN)))
def I6 (r:Int):AV:=cdI.enc r
theorem Nt {β:Type}{fid:FuncId}{sx:Cs β}{hn:∀ x,(sx.enc x).all F6=true}{G:AP->β->Option Int}(hX:XOk fid (EN (csC AD sx) (fun a=>G a.1 a.2) cdI.enc)) (x0:AP) (x1:AP) (x2:β) (r:Int) (h:CE G x0 x1 x2=some r):Sem E0 ⟨none,false⟩ Kr ⟨Fr 13 (BS 0 ((I3 fid sx hn).enc (x0,x1,x2,()))),[]⟩ fun e s'=>(e = .normal\/e = .ret)/\∃ xs,Eo E0.P s'.fr s'.hp Tryz.f205.results.toList=some xs/\Er xs=I6 r:=by
 unfold CE at h
 refine BJ (CD (s1:=⟨Fr 13 [(0,AD.enc x0),(1,AD.enc x1),(2,.pe (.fn fid [] (sx.enc x2)) 0)],[]⟩) AT ?_)
 refine AM AC [(2,.pe (.fn fid [] (sx.enc x2)) 0),(3,.pt 0 0 0),(4,.pt 1 0 0)] [some ⟨10,115,[AD.enc x0],false⟩,some ⟨10,115,[AD.enc x1],false⟩] ?_
 refine AH ?_
 obtain ⟨v1,hv1,h⟩:=OB h
 obtain ⟨v2,hv2,h⟩:=OB h
 obtain ⟨v3,hv3,h⟩:=OB h
 refine F8 AC (s1:=⟨Fr 13 [(5,.v (.int .i64 v3))],[]⟩) kr ?_ ?_
 ·refine B8 (n:=13) AC 2 [(2,.pe (.fn fid [] (sx.enc x2)) 0),(4,.pt 1 0 0),(6,.fn fid [] (sx.enc x2)),(7,AD.enc x0)] [some ⟨10,115,[AD.enc x0],false⟩,some ⟨10,115,[AD.enc x1],false⟩] kr kr ?_
  refine CM (caps:=sx.enc x2) (xs:=[AD.enc x0]) (u:=(x0,x2)) rfl rfl hX rfl (AB rfl) kr kr (Ab (A3 (c:=AD) (v:=x0)) (Og (n:=10) (s:=sx) (a:=x2))) kr hv1 ?_
  refine B8 (n:=13) AC 2 [(8,.v (.int .i64 v1)),(9,.fn fid [] (sx.enc x2)),(10,AD.enc x1)] [some ⟨10,115,[AD.enc x0],false⟩,some ⟨10,115,[AD.enc x1],false⟩] kr kr ?_
  refine CM (caps:=sx.enc x2) (xs:=[AD.enc x1]) (u:=(x1,x2)) rfl rfl hX rfl (AB rfl) kr kr (Ab (A3 (c:=AD) (v:=x1)) (Og (n:=10) (s:=sx) (a:=x2))) kr hv2 ?_
  refine CM (caps:=[]) (xs:=[.v (.int .i64 v1),.v (.int .i64 v2)]) (u:=(v1,v2,())) rfl rfl Eb rfl (AB rfl) kr kr (Ab (A3 (c:=cdI) (v:=v1)) (Ab (A3 (c:=cdI) (v:=v2)) B6)) kr hv3 ?_
  refine B8 (n:=13) AC 1 [(5,.v (.int .i64 v3))] [some ⟨10,115,[AD.enc x0],false⟩,some ⟨10,115,[AD.enc x1],false⟩] kr kr ?_
  exact RunDS.done rfl (Au [] trivial ⟨lv,trivial⟩)
 refine AX ?_
 have hq:=OI h; subst hq
 exact ⟨⟨Fr 13 [(5,.v (.int .i64 v3))],[]⟩,AT,.inr rfl,[.v (.int .i64 v3)],kr,kr⟩
def QA {β:Type}(fid:FuncId) (sx:Cs β) (hn:∀ x,(sx.enc x).all F6=true) (G:AP->β->Option Int):List AV->Option AV:=EN (I3 fid sx hn) (fun a=>CE G a.1 a.2.1 a.2.2.1) I6
theorem HE {β:Type}{fid:FuncId}{sx:Cs β}{hn:∀ x,(sx.enc x).all F6=true}{G:AP->β->Option Int}(hX:XOk fid (EN (csC AD sx) (fun a=>G a.1 a.2) cdI.enc)):XOk 205 (QA fid sx hn G):=by
 refine AZ Tryz.func205 (c:=Kr) ?h2 ⟨Tryz.call205⟩ (I3 fid sx hn) (fun a=>CE G a.1 a.2.1 a.2.2.1) I6 (fun a=>(by show 3<=13; decide)) ?h3 ?h4
 case h2=>kernel_rfl
 case h3=>intro b; kernel_rfl
 case h4=>exact fun a b h=>Nt hX a.1 a.2.1 a.2.2.1 b h
/- trestle/court.plain$1 -/
noncomputable def JM:Code:=Bo Tryz.f178
def DG (x0:AP) (x1:AE):Option (Int) :=
 (BU x1.2.2.2.1 x0.1.2.1).bind fun v1 =>
 if (decide (v1≥0))=true then
 some v1
 else
 some (x1.2.2.2.1.length:Int)
def HN:Cs (AP×AE×Unit):=(csC AD (csC (cdP AA) csN))
def Hb (r:Int):AV:=cdI.enc r
theorem LY (x0:AP) (x1:AE) (r:Int) (h:DG x0 x1=some r):Sem E0 ⟨none,false⟩ JM ⟨Fr 17 (BS 0 (HN.enc (x0,x1,()))),[]⟩ fun e s'=>(e = .normal\/e = .ret)/\∃ xs,Eo E0.P s'.fr s'.hp Tryz.f178.results.toList=some xs/\Er xs=Hb r:=by
 unfold DG at h
 let p1:Nat×AV:=(1,.pe (AA.enc x1) 0)
 refine BJ (CD (s1:=⟨Fr 17 [(0,AD.enc x0),p1],[]⟩) AT ?_)
 let p2:Option Blk:=some ⟨10,115,[AD.enc x0],false⟩
 refine AM AC [p1,(2,.pt 0 0 0)] [p2] ?_;refine AH ?_;refine AH ?_;obtain ⟨v1,hv1,h⟩:=OB h
 let p3:Nat×AV:=(4,.v (.int .i64 v1))
 refine AO (s1:=⟨Fr 17 [p1,p3],[]⟩) ?_ ?_
 ·refine AF (n:=17) AC 5 [p1,(6,.sl 1 (x1.2.2.2.1.map cdS.enc)),(9,.st x0.1.2.1)] [p2] kr ?_
  refine Ay (caps:=[]) (xs:=[.sl 1 (x1.2.2.2.1.map cdS.enc),.st x0.1.2.1]) (u:=(x1.2.2.2.1,x0.1.2.1,())) rfl rfl FF rfl (AB rfl) kr kr (Ab (A3 (c:=(cdL 1 cdS)) (v:=x1.2.2.2.1)) (Ab (A3 (c:=cdS) (v:=x0.1.2.1)) B6)) (.inl kr) hv1 ?_;refine AF (n:=17) AC 1 [p1,p3] [p2] kr ?_;exact AL rfl (Au [] trivial ⟨lv,lv,trivial⟩)
 refine AM AC [p1,p3,(12,.v (.bool (decide (v1≥0))))] [] ?_;refine AW (b:=(decide (v1≥0))) kr (fun hb2=>?_) (fun hb2=>?_)
 ·rw [if_pos hb2] at h
  refine AM AC [(3,.v (.int .i64 v1))] [] ?_;refine AX ?_;have hq:=OI h; subst hq;exact ⟨⟨Fr 17 [(3,.v (.int .i64 v1))],[]⟩,AT,.inr rfl,[.v (.int .i64 v1)],kr,kr⟩
 ·rw [Cr hb2] at h
  refine Ai ?_;refine AH ?_
  let p4:Nat×AV:=(3,.v (.int .i64 (x1.2.2.2.1.length:Int)))
  refine AO (s1:=⟨Fr 17 [p4],[]⟩) ?_ ?_
  ·refine AF (n:=17) AC 2 [(15,.sl 1 (x1.2.2.2.1.map cdS.enc))] [] kr ?_
   refine Aq AC 0 rfl (EM (AB rfl) rfl (FU (a:= .sl 1 (x1.2.2.2.1.map cdS.enc)) kr (Dq (el:=9) kr))) ?_;exact A5 AC
  refine AX ?_;have hq:=OI h; subst hq;exact ⟨⟨Fr 17 [p4],[]⟩,AT,.inr rfl,[.v (.int .i64 (x1.2.2.2.1.length:Int))],kr,kr⟩
def NT:List AV->Option AV:=EN HN (fun a=>DG a.1 a.2.1) Hb
theorem Nl:XOk 178 NT:=by
 refine AZ Tryz.func178 (c:=JM) ?h2 ⟨Tryz.call178⟩ HN (fun a=>DG a.1 a.2.1) Hb (fun a=>(by show 2<=17; decide)) ?h3 ?h4
 case h2=>kernel_rfl
 case h3=>intro b; kernel_rfl
 case h4=>exact fun a b h=>LY a.1 a.2.1 b h
/- trestle/court.b2i -/
noncomputable def MA:Code:=Bo Tryz.f180
def H2 (x0:Bool):Option (Int) :=
 if x0=true then
 some 1
 else
 some 0
def Jr:Cs (Bool×Unit):=(csC cdB csN)
def Ju (r:Int):AV:=cdI.enc r
theorem Oo (x0:Bool) (r:Int) (h:H2 x0=some r):Sem E0 ⟨none,false⟩ MA ⟨Fr 4 (BS 0 (Jr.enc (x0,()))),[]⟩ fun e s'=>(e = .normal\/e = .ret)/\∃ xs,Eo E0.P s'.fr s'.hp Tryz.f180.results.toList=some xs/\Er xs=Ju r:=by
 unfold H2 at h;refine BJ (CD (s1:=⟨Fr 4 [(0,.v (.bool x0))],[]⟩) AT ?_);refine AM AC [(0,.v (.bool x0))] [] ?_;refine AH ?_;refine AM AC [(3,.v (.bool x0))] [] ?_;refine AW (b:=x0) kr (fun hb1=>?_) (fun hb1=>?_)
 ·rw [if_pos hb1] at h
  refine AM AC [(2,.v (.int .i64 1))] [] ?_;refine AX ?_;have hq:=OI h; subst hq;exact ⟨⟨Fr 4 [(2,.v (.int .i64 1))],[]⟩,AT,.inr rfl,[.v (.int .i64 1)],kr,kr⟩
 ·rw [Cr hb1] at h
  refine Ai ?_;refine AM AC [(2,.v (.int .i64 0))] [] ?_;refine AX ?_;have hq:=OI h; subst hq;exact ⟨⟨Fr 4 [(2,.v (.int .i64 0))],[]⟩,AT,.inr rfl,[.v (.int .i64 0)],kr,kr⟩
def Qy:List AV->Option AV:=EN Jr (fun a=>H2 a.1) Ju
theorem Nh:XOk 180 Qy:=by
 refine AZ Tryz.func180 (c:=MA) ?h2 ⟨Tryz.call180⟩ Jr (fun a=>H2 a.1) Ju (fun a=>(by show 1<=4; decide)) ?h3 ?h4
 case h2=>kernel_rfl
 case h3=>intro b; kernel_rfl
 case h4=>exact fun a b h=>Oo a.1 b h
/- trestle/court.plain$2 -/
noncomputable def HJ:Code:=Bo Tryz.f179
def Fk (x2:AE) (v5:Int):Option ((Int)) :=
 if (x2.1==3)=true then
 some (wr .i64 (0 - v5))
 else
 some v5
def Ck (x0:AP) (x1:AP) (x2:AE):Option (Int) :=
 if (!((x0.1.2.2.2.1==0)==(x1.1.2.2.2.1==0)))=true then
 (H2 (x0.1.2.2.2.1==0)).bind fun v2 =>
 (H2 (x1.1.2.2.2.1==0)).bind fun v3 =>
 (CA v2 v3).bind fun v4 =>
 some v4
 else
 (CA x0.1.2.2.2.1 x1.1.2.2.2.1).bind fun v5 =>
 (Fk x2 v5).bind fun r8 =>
 some r8
def HO:Cs (AP×AP×AE×Unit):=(csC AD (csC AD (csC (cdP AA) csN)))
def Hc (r:Int):AV:=cdI.enc r
theorem Kh (x2:AE) (v5:Int) (r:(Int)) (h:Fk x2 v5=some r):Sem E0 ⟨none,false⟩ (pc HJ [1,1,1,0,1]) ⟨Fr 40 [(6,.v (.int .i64 v5)),(36,.v (.bool (x2.1==3)))],[]⟩ (fun e s=>e = .normal/\Wk E0 s ⟨Fr 40 [(6,.v (.int .i64 r))],[]⟩):=by
 unfold Fk at h;refine AW (b:=(x2.1==3)) kr (fun hb6=>?_) (fun hb6=>?_)
 ·rw [if_pos hb6] at h
  refine Eq AC [(6,.v (.int .i64 (wr .i64 (0 - v5))))] [] ?_;have hq:=OI h; subst hq;exact ⟨rfl,AT⟩
 ·rw [Cr hb6] at h
  refine Ai ?_;have hq:=OI h; subst hq;exact ⟨rfl,AT⟩
theorem LZ (x0:AP) (x1:AP) (x2:AE) (r:Int) (h:Ck x0 x1 x2=some r):Sem E0 ⟨none,false⟩ HJ ⟨Fr 40 (BS 0 (HO.enc (x0,x1,x2,()))),[]⟩ fun e s'=>(e = .normal\/e = .ret)/\∃ xs,Eo E0.P s'.fr s'.hp Tryz.f179.results.toList=some xs/\Er xs=Hc r:=by
 unfold Ck at h
 let p1:Nat×AV:=(2,.pe (AA.enc x2) 0)
 refine BJ (CD (s1:=⟨Fr 40 [(0,AD.enc x0),(1,AD.enc x1),p1],[]⟩) AT ?_)
 let p2:Option Blk:=some ⟨10,115,[AD.enc x1],false⟩
 let p3:Option Blk:=some ⟨10,115,[AD.enc x0],false⟩
 refine AM AC [p1,(3,.pt 0 0 0),(4,.pt 1 0 0)] [p3,p2] ?_;refine AH ?_;refine AM AC [p1,(3,.pt 0 0 0),(4,.pt 1 0 0),(15,.v (.bool (!((x0.1.2.2.2.1==0)==(x1.1.2.2.2.1==0)))))] [p3,p2] ?_;refine AW (b:=(!((x0.1.2.2.2.1==0)==(x1.1.2.2.2.1==0)))) kr (fun hb1=>?_) (fun hb1=>?_)
 ·rw [if_pos hb1] at h
  refine AH ?_;obtain ⟨v2,hv2,h⟩:=OB h;obtain ⟨v3,hv3,h⟩:=OB h;obtain ⟨v4,hv4,h⟩:=OB h
  let p4:Nat×AV:=(5,.v (.int .i64 v4))
  refine F8 AC (s1:=⟨Fr 40 [p4],[]⟩) kr ?_ ?_
  ·refine B8 (n:=40) AC 4 [(4,.pt 1 0 0),(19,.v (.bool (x0.1.2.2.2.1==0)))] [p3,p2] kr kr ?_
   refine CM (caps:=[]) (xs:=[.v (.bool (x0.1.2.2.2.1==0))]) (u:=((x0.1.2.2.2.1==0),())) rfl rfl Nh rfl (AB rfl) kr kr (Ab (A3 (c:=cdB) (v:=(x0.1.2.2.2.1==0))) B6) kr hv2 ?_;refine B8 (n:=40) AC 4 [(20,.v (.int .i64 v2)),(24,.v (.bool (x1.1.2.2.2.1==0)))] [p3,p2] kr kr ?_;refine CM (caps:=[]) (xs:=[.v (.bool (x1.1.2.2.2.1==0))]) (u:=((x1.1.2.2.2.1==0),())) rfl rfl Nh rfl (AB rfl) kr kr (Ab (A3 (c:=cdB) (v:=(x1.1.2.2.2.1==0))) B6) kr hv3 ?_;refine CM (caps:=[]) (xs:=[.v (.int .i64 v2),.v (.int .i64 v3)]) (u:=(v2,v3,())) rfl rfl Eb rfl (AB rfl) kr kr (Ab (A3 (c:=cdI) (v:=v2)) (Ab (A3 (c:=cdI) (v:=v3)) B6)) kr hv4 ?_;refine B8 (n:=40) AC 1 [p4] [p3,p2] kr kr ?_;exact RunDS.done rfl (Au [] trivial ⟨lv,trivial⟩)
  refine AX ?_;have hq:=OI h; subst hq;exact ⟨⟨Fr 40 [p4],[]⟩,AT,.inr rfl,[.v (.int .i64 v4)],kr,kr⟩
 ·rw [Cr hb1] at h
  refine Ai ?_;refine AH ?_;obtain ⟨v5,hv5,h⟩:=OB h
  let p5:Nat×AV:=(6,.v (.int .i64 v5))
  refine AO (s1:=⟨Fr 40 [p1,p5],[]⟩) ?_ ?_
  ·refine AF (n:=40) AC 6 [p1,(29,.v (.int .i64 x0.1.2.2.2.1)),(32,.v (.int .i64 x1.1.2.2.2.1))] [p3,p2] kr ?_
   refine Ay (caps:=[]) (xs:=[.v (.int .i64 x0.1.2.2.2.1),.v (.int .i64 x1.1.2.2.2.1)]) (u:=(x0.1.2.2.2.1,x1.1.2.2.2.1,())) rfl rfl Eb rfl (AB rfl) kr kr (Ab (A3 (c:=cdI) (v:=x0.1.2.2.2.1)) (Ab (A3 (c:=cdI) (v:=x1.1.2.2.2.1)) B6)) (.inl kr) hv5 ?_;refine AF (n:=40) AC 1 [p1,p5] [p3,p2] kr ?_;exact AL rfl (Au [] trivial ⟨lv,lv,trivial⟩)
  refine AH ?_;refine AM AC [p5,(36,.v (.bool (x2.1==3)))] [] ?_;obtain ⟨r8,hr8,h⟩:=OB h;refine C6 (Kh x2 v5 _ hr8) ?_;refine AM AC [(5,.v (.int .i64 r8))] [] ?_;refine AX ?_;have hq:=OI h; subst hq;exact ⟨⟨Fr 40 [(5,.v (.int .i64 r8))],[]⟩,AT,.inr rfl,[.v (.int .i64 r8)],kr,kr⟩
def NU:List AV->Option AV:=EN HO (fun a=>Ck a.1 a.2.1 a.2.2.1) Hc
theorem J8:XOk 179 NU:=by
 refine AZ Tryz.func179 (c:=HJ) ?h2 ⟨Tryz.call179⟩ HO (fun a=>Ck a.1 a.2.1 a.2.2.1) Hc (fun a=>(by show 3<=40; decide)) ?h3 ?h4
 case h2=>kernel_rfl
 case h3=>intro b; kernel_rfl
 case h4=>exact fun a b h=>LZ a.1 a.2.1 a.2.2.1 b h
/- cmp.isNaN[string] -/
noncomputable def Hx:Code:=Bo Tryz.f207
def DV (x0:(List UInt8)):Option (Bool) :=
 some (!(x0==x0))
def Ft:Cs ((List UInt8)×Unit):=(csC cdS csN)
def Fu (r:Bool):AV:=cdB.enc r
theorem KK (x0:(List UInt8)) (r:Bool) (h:DV x0=some r):Sem E0 ⟨none,false⟩ Hx ⟨Fr 6 (BS 0 (Ft.enc (x0,()))),[]⟩ fun e s'=>(e = .normal\/e = .ret)/\∃ xs,Eo E0.P s'.fr s'.hp Tryz.f207.results.toList=some xs/\Er xs=Fu r:=by
 unfold DV at h;refine BJ (CD (s1:=⟨Fr 6 [(0,.st x0)],[]⟩) AT ?_);refine AM AC [(0,.st x0)] [] ?_;refine AM AC [(2,.v (.bool (!(x0==x0))))] [] ?_;refine AX ?_;have hq:=OI h; subst hq;exact ⟨⟨Fr 6 [(2,.v (.bool (!(x0==x0))))],[]⟩,AT,.inr rfl,[.v (.bool (!(x0==x0)))],kr,kr⟩
def LI:List AV->Option AV:=EN Ft (fun a=>DV a.1) Fu
theorem IW:XOk 207 LI:=by
 refine AZ Tryz.func207 (c:=Hx) ?h2 ⟨Tryz.call207⟩ Ft (fun a=>DV a.1) Fu (fun a=>(by show 1<=6; decide)) ?h3 ?h4
 case h2=>kernel_rfl
 case h3=>intro b; kernel_rfl
 case h4=>exact fun a b h=>KK a.1 b h
/- cmp.Compare[string] -/
noncomputable def G3:Code:=Bo Tryz.f188
def Cp (x0:(List UInt8)) (x1:(List UInt8)):Option (Int) :=
 (DV x0).bind fun v1 =>
 (DV x1).bind fun v2 =>
 if v1=true then
 if v2=true then
 some 0
 else
 some (-1)
 else
 if v2=true then
 some 1
 else
 if (Go.Op.bytesLess x0 x1)=true then
 some (-1)
 else
 if (!((Go.Op.bytesLess x0 x1)||(x0==x1)))=true then
 some 1
 else
 some 0
def FM:Cs ((List UInt8)×(List UInt8)×Unit):=(csC cdS (csC cdS csN))
def FQ (r:Int):AV:=cdI.enc r
theorem JY (x0:(List UInt8)) (x1:(List UInt8)) (r:Int) (h:Cp x0 x1=some r):Sem E0 ⟨none,false⟩ G3 ⟨Fr 20 (BS 0 (FM.enc (x0,x1,()))),[]⟩ fun e s'=>(e = .normal\/e = .ret)/\∃ xs,Eo E0.P s'.fr s'.hp Tryz.f188.results.toList=some xs/\Er xs=FQ r:=by
 unfold Cp at h;refine BJ (CD (s1:=⟨Fr 20 [(0,.st x0),(1,.st x1)],[]⟩) AT ?_);refine AM AC [(0,.st x0),(1,.st x1)] [] ?_;refine AH ?_;obtain ⟨v1,hv1,h⟩:=OB h
 let p1:Nat×AV:=(5,.v (.bool v1))
 refine AO (s1:=⟨Fr 20 [(0,.st x0),(1,.st x1),p1],[]⟩) ?_ ?_
 ·refine AF (n:=20) AC 1 [(0,.st x0),(1,.st x1),(7,.st x0)] [] kr ?_
  refine Ay (caps:=[]) (xs:=[.st x0]) (u:=(x0,())) rfl rfl IW rfl (AB rfl) kr kr (Ab (A3 (c:=cdS) (v:=x0)) B6) (.inl kr) hv1 ?_;exact A5 AC
 refine AH ?_;obtain ⟨v2,hv2,h⟩:=OB h;refine AO (s1:=⟨Fr 20 [(0,.st x0),(1,.st x1),p1,(6,.v (.bool v2))],[]⟩) ?_ ?_
 ·refine AF (n:=20) AC 1 [(0,.st x0),(1,.st x1),p1,(9,.st x1)] [] kr ?_
  refine Ay (caps:=[]) (xs:=[.st x1]) (u:=(x1,())) rfl rfl IW rfl (AB rfl) kr kr (Ab (A3 (c:=cdS) (v:=x1)) B6) (.inl kr) hv2 ?_;exact A5 AC
 refine AH ?_;refine AM AC [(0,.st x0),(1,.st x1),(6,.v (.bool v2)),(11,.v (.bool v1))] [] ?_;refine AW (b:=v1) kr (fun hb3=>?_) (fun hb3=>?_)
 ·rw [if_pos hb3] at h
  refine AH ?_;refine AM AC [(12,.v (.bool v2))] [] ?_;refine AW (b:=v2) kr (fun hb4=>?_) (fun hb4=>?_)
  ·rw [if_pos hb4] at h
   refine AM AC [(4,.v (.int .i64 0))] [] ?_;refine AX ?_;have hq:=OI h; subst hq;exact ⟨⟨Fr 20 [(4,.v (.int .i64 0))],[]⟩,AT,.inr rfl,[.v (.int .i64 0)],kr,kr⟩
  ·rw [Cr hb4] at h
   refine Ai ?_;refine AM AC [(4,.v (.int .i64 (-1)))] [] ?_;refine AX ?_;have hq:=OI h; subst hq;exact ⟨⟨Fr 20 [(4,.v (.int .i64 (-1)))],[]⟩,AT,.inr rfl,[.v (.int .i64 (-1))],kr,kr⟩
 ·rw [Cr hb3] at h
  refine Ai ?_;refine AH ?_;refine AM AC [(0,.st x0),(1,.st x1),(13,.v (.bool v2))] [] ?_;refine AW (b:=v2) kr (fun hb5=>?_) (fun hb5=>?_)
  ·rw [if_pos hb5] at h
   refine AM AC [(4,.v (.int .i64 1))] [] ?_;refine AX ?_;have hq:=OI h; subst hq;exact ⟨⟨Fr 20 [(4,.v (.int .i64 1))],[]⟩,AT,.inr rfl,[.v (.int .i64 1)],kr,kr⟩
  ·rw [Cr hb5] at h
   refine Ai ?_;refine AH ?_;refine AM AC [(0,.st x0),(1,.st x1),(16,.v (.bool (Go.Op.bytesLess x0 x1)))] [] ?_;refine AW (b:=(Go.Op.bytesLess x0 x1)) kr (fun hb6=>?_) (fun hb6=>?_)
   ·rw [if_pos hb6] at h
    refine AM AC [(4,.v (.int .i64 (-1)))] [] ?_;refine AX ?_;have hq:=OI h; subst hq;exact ⟨⟨Fr 20 [(4,.v (.int .i64 (-1)))],[]⟩,AT,.inr rfl,[.v (.int .i64 (-1))],kr,kr⟩
   ·rw [Cr hb6] at h
    refine Ai ?_;refine AH ?_;refine AM AC [(19,.v (.bool (!((Go.Op.bytesLess x0 x1)||(x0==x1)))))] [] ?_;refine AW (b:=(!((Go.Op.bytesLess x0 x1)||(x0==x1)))) kr (fun hb7=>?_) (fun hb7=>?_)
    ·rw [if_pos hb7] at h
     refine AM AC [(4,.v (.int .i64 1))] [] ?_;refine AX ?_;have hq:=OI h; subst hq;exact ⟨⟨Fr 20 [(4,.v (.int .i64 1))],[]⟩,AT,.inr rfl,[.v (.int .i64 1)],kr,kr⟩
    ·rw [Cr hb7] at h
     refine Ai ?_;refine AM AC [(4,.v (.int .i64 0))] [] ?_;refine AX ?_;have hq:=OI h; subst hq;exact ⟨⟨Fr 20 [(4,.v (.int .i64 0))],[]⟩,AT,.inr rfl,[.v (.int .i64 0)],kr,kr⟩
def KM:List AV->Option AV:=EN FM (fun a=>Cp a.1 a.2.1) FQ
theorem KP:XOk 188 KM:=by
 refine AZ Tryz.func188 (c:=G3) ?h2 ⟨Tryz.call188⟩ FM (fun a=>Cp a.1 a.2.1) FQ (fun a=>(by show 2<=20; decide)) ?h3 ?h4
 case h2=>kernel_rfl
 case h3=>intro b; kernel_rfl
 case h4=>exact fun a b h=>JY a.1 a.2.1 b h
/- trestle/court.plain$7 -/
noncomputable def JR:Code:=Bo Tryz.f187
def D5 (x0:AP) (x1:AP):Option (Int) :=
 (Cp x0.1.1 x1.1.1).bind fun v1 =>
 some v1
def HU:Cs (AP×AP×Unit):=(csC AD (csC AD csN))
def Hh (r:Int):AV:=cdI.enc r
theorem Lf (x0:AP) (x1:AP) (r:Int) (h:D5 x0 x1=some r):Sem E0 ⟨none,false⟩ JR ⟨Fr 12 (BS 0 (HU.enc (x0,x1,()))),[]⟩ fun e s'=>(e = .normal\/e = .ret)/\∃ xs,Eo E0.P s'.fr s'.hp Tryz.f187.results.toList=some xs/\Er xs=Hh r:=by
 unfold D5 at h;refine BJ (CD (s1:=⟨Fr 12 [(0,AD.enc x0),(1,AD.enc x1)],[]⟩) AT ?_)
 let p1:Option Blk:=some ⟨10,115,[AD.enc x1],false⟩
 let p2:Option Blk:=some ⟨10,115,[AD.enc x0],false⟩
 refine AM AC [(2,.pt 0 0 0),(3,.pt 1 0 0)] [p2,p1] ?_;refine AH ?_;obtain ⟨v1,hv1,h⟩:=OB h
 let p3:Nat×AV:=(4,.v (.int .i64 v1))
 refine AO (s1:=⟨Fr 12 [p3],[]⟩) ?_ ?_
 ·refine AF (n:=12) AC 6 [(7,.st x0.1.1),(10,.st x1.1.1)] [p2,p1] kr ?_
  refine Ay (caps:=[]) (xs:=[.st x0.1.1,.st x1.1.1]) (u:=(x0.1.1,x1.1.1,())) rfl rfl KP rfl (AB rfl) kr kr (Ab (A3 (c:=cdS) (v:=x0.1.1)) (Ab (A3 (c:=cdS) (v:=x1.1.1)) B6)) (.inl kr) hv1 ?_;refine AF (n:=12) AC 1 [p3] [p2,p1] kr ?_;exact AL rfl (Au [] trivial ⟨lv,trivial⟩)
 refine AX ?_;have hq:=OI h; subst hq;exact ⟨⟨Fr 12 [p3],[]⟩,AT,.inr rfl,[.v (.int .i64 v1)],kr,kr⟩
def NZ:List AV->Option AV:=EN HU (fun a=>D5 a.1 a.2.1) Hh
theorem Nq:XOk 187 NZ:=by
 refine AZ Tryz.func187 (c:=JR) ?h2 ⟨Tryz.call187⟩ HU (fun a=>D5 a.1 a.2.1) Hh (fun a=>(by show 2<=12; decide)) ?h3 ?h4
 case h2=>kernel_rfl
 case h3=>intro b; kernel_rfl
 case h4=>exact fun a b h=>Lf a.1 a.2.1 b h
/- trestle/court.plain$3 -/
noncomputable def JN:Code:=Bo Tryz.f182
def GK (x0:AP) (x1:AE):Option (Bool) :=
 some (x0.1.2.2.2.2.1==x1.2.2.2.2)
def HP:Cs (AP×AE×Unit):=(csC AD (csC (cdP AA) csN))
def Hd (r:Bool):AV:=cdB.enc r
theorem La (x0:AP) (x1:AE) (r:Bool) (h:GK x0 x1=some r):Sem E0 ⟨none,false⟩ JN ⟨Fr 10 (BS 0 (HP.enc (x0,x1,()))),[]⟩ fun e s'=>(e = .normal\/e = .ret)/\∃ xs,Eo E0.P s'.fr s'.hp Tryz.f182.results.toList=some xs/\Er xs=Hd r:=by
 unfold GK at h;refine BJ (CD (s1:=⟨Fr 10 [(0,AD.enc x0),(1,.pe (AA.enc x1) 0)],[]⟩) AT ?_)
 let p1:Option Blk:=some ⟨10,115,[AD.enc x0],false⟩
 refine AM AC [(1,.pe (AA.enc x1) 0),(2,.pt 0 0 0)] [p1] ?_;refine AH ?_
 let p2:Nat×AV:=(3,.v (.bool (x0.1.2.2.2.2.1==x1.2.2.2.2)))
 refine AO (s1:=⟨Fr 10 [p2],[]⟩) ?_ ?_
 ·refine AF (n:=10) AC 7 [p2] [p1] kr ?_
  exact AL rfl (Au [] trivial ⟨lv,trivial⟩)
 refine AX ?_;have hq:=OI h; subst hq;exact ⟨⟨Fr 10 [p2],[]⟩,AT,.inr rfl,[.v (.bool (x0.1.2.2.2.2.1==x1.2.2.2.2))],kr,kr⟩
def NV:List AV->Option AV:=EN HP (fun a=>GK a.1 a.2.1) Hd
theorem Nm:XOk 182 NV:=by
 refine AZ Tryz.func182 (c:=JN) ?h2 ⟨Tryz.call182⟩ HP (fun a=>GK a.1 a.2.1) Hd (fun a=>(by show 2<=10; decide)) ?h3 ?h4
 case h2=>kernel_rfl
 case h3=>intro b; kernel_rfl
 case h4=>exact fun a b h=>La a.1 a.2.1 b h
/- trestle/court.named$1 -/
noncomputable def EQ:Code:=Bo Tryz.f206
def BG (x0:AP) (x1:AE) (x2:AE):Option (Int) :=
 (GK x0 x1).bind fun v1 =>
 if (!(v1==x2.2.2.1))=true then
 some 0
 else
 some 1
def C7:Cs (AP×AE×AE×Unit):=(csC AD (csC (cdP (cdF 182 (csE (cdP AA)) (fun _=>rfl))) (csC (cdP AA) csN)))
def DB (r:Int):AV:=cdI.enc r
theorem Gg (x0:AP) (x1:AE) (x2:AE) (r:Int) (h:BG x0 x1 x2=some r):Sem E0 ⟨none,false⟩ EQ ⟨Fr 11 (BS 0 (C7.enc (x0,x1,x2,()))),[]⟩ fun e s'=>(e = .normal\/e = .ret)/\∃ xs,Eo E0.P s'.fr s'.hp Tryz.f206.results.toList=some xs/\Er xs=DB r:=by
 unfold BG at h
 let p1:Nat×AV:=(2,.pe (AA.enc x2) 0)
 let p2:Nat×AV:=(1,.pe (.fn 182 [] [.pe (AA.enc x1) 0]) 0)
 refine BJ (CD (s1:=⟨Fr 11 [(0,AD.enc x0),p2,p1],[]⟩) AT ?_)
 let p3:Option Blk:=some ⟨10,115,[AD.enc x0],false⟩
 refine AM AC [p2,p1,(3,.pt 0 0 0)] [p3] ?_;refine AH ?_;refine AH ?_;obtain ⟨v1,hv1,h⟩:=OB h
 let p4:Nat×AV:=(10,.v (.bool (!(v1==x2.2.2.1))))
 refine F8 AC (s1:=⟨Fr 11 [p4],[]⟩) kr ?_ ?_
 ·refine B8 (n:=11) AC 2 [p1,(5,.fn 182 [] [.pe (AA.enc x1) 0]),(6,AD.enc x0)] [p3] kr kr ?_
  refine CM (caps:=[.pe (AA.enc x1) 0]) (xs:=[AD.enc x0]) (u:=(x0,x1,())) rfl rfl Nm rfl (AB rfl) kr kr (Ab (A3 (c:=AD) (v:=x0)) (Ab (A3 (c:=(cdP AA)) (v:=x1)) B6)) kr hv1 ?_;refine B8 (n:=11) AC 3 [p4] [p3] kr kr ?_;exact RunDS.done rfl (Au [] trivial ⟨lv,trivial⟩)
 refine AW (b:=(!(v1==x2.2.2.1))) kr (fun hb2=>?_) (fun hb2=>?_)
 ·rw [if_pos hb2] at h
  refine AM AC [(4,.v (.int .i64 0))] [] ?_;refine AX ?_;have hq:=OI h; subst hq;exact ⟨⟨Fr 11 [(4,.v (.int .i64 0))],[]⟩,AT,.inr rfl,[.v (.int .i64 0)],kr,kr⟩
 ·rw [Cr hb2] at h
  refine Ai ?_;refine AM AC [(4,.v (.int .i64 1))] [] ?_;refine AX ?_;have hq:=OI h; subst hq;exact ⟨⟨Fr 11 [(4,.v (.int .i64 1))],[]⟩,AT,.inr rfl,[.v (.int .i64 1)],kr,kr⟩
def G9:List AV->Option AV:=EN C7 (fun a=>BG a.1 a.2.1 a.2.2.1) DB
theorem HF:XOk 206 G9:=by
 refine AZ Tryz.func206 (c:=EQ) ?h2 ⟨Tryz.call206⟩ C7 (fun a=>BG a.1 a.2.1 a.2.2.1) DB (fun a=>(by show 3<=11; decide)) ?h3 ?h4
 case h2=>kernel_rfl
 case h3=>intro b; kernel_rfl
 case h4=>exact fun a b h=>Gg a.1 a.2.1 a.2.2.1 b h
/- trestle/court.plain$4 -/
noncomputable def JO:Code:=Bo Tryz.f183
def GM (x0:AP):Option (Bool) :=
 some x0.1.2.2.2.2.2.2.1
def HQ:Cs (AP×Unit):=(csC AD csN)
def He (r:Bool):AV:=cdB.enc r
theorem Lb (x0:AP) (r:Bool) (h:GM x0=some r):Sem E0 ⟨none,false⟩ JO ⟨Fr 6 (BS 0 (HQ.enc (x0,()))),[]⟩ fun e s'=>(e = .normal\/e = .ret)/\∃ xs,Eo E0.P s'.fr s'.hp Tryz.f183.results.toList=some xs/\Er xs=He r:=by
 unfold GM at h;refine BJ (CD (s1:=⟨Fr 6 [(0,AD.enc x0)],[]⟩) AT ?_)
 let p1:Option Blk:=some ⟨10,115,[AD.enc x0],false⟩
 refine AM AC [(1,.pt 0 0 0)] [p1] ?_;refine AH ?_
 let p2:Nat×AV:=(2,.v (.bool x0.1.2.2.2.2.2.2.1))
 refine AO (s1:=⟨Fr 6 [p2],[]⟩) ?_ ?_
 ·refine AF (n:=6) AC 4 [p2] [p1] kr ?_
  exact AL rfl (Au [] trivial ⟨lv,trivial⟩)
 refine AX ?_;have hq:=OI h; subst hq;exact ⟨⟨Fr 6 [p2],[]⟩,AT,.inr rfl,[.v (.bool x0.1.2.2.2.2.2.2.1)],kr,kr⟩
def NW:List AV->Option AV:=EN HQ (fun a=>GM a.1) He
theorem Nn:XOk 183 NW:=by
 refine AZ Tryz.func183 (c:=JO) ?h2 ⟨Tryz.call183⟩ HQ (fun a=>GM a.1) He (fun a=>(by show 1<=6; decide)) ?h3 ?h4
 case h2=>kernel_rfl
 case h3=>intro b; kernel_rfl
 case h4=>exact fun a b h=>Lb a.1 b h
/- trestle/court.named$1 -/
noncomputable def ER:Code:=Bo Tryz.f206
def BH (x0:AP) (x2:AE):Option (Int) :=
 (GM x0).bind fun v1 =>
 if (!(v1==x2.2.2.1))=true then
 some 0
 else
 some 1
def C8:Cs (AP×Unit×AE×Unit):=(csC AD (csC (cdP (cdF 183 csN (fun _=>rfl))) (csC (cdP AA) csN)))
def DC (r:Int):AV:=cdI.enc r
theorem Gh (x0:AP) (x2:AE) (r:Int) (h:BH x0 x2=some r):Sem E0 ⟨none,false⟩ ER ⟨Fr 11 (BS 0 (C8.enc (x0,(),x2,()))),[]⟩ fun e s'=>(e = .normal\/e = .ret)/\∃ xs,Eo E0.P s'.fr s'.hp Tryz.f206.results.toList=some xs/\Er xs=DC r:=by
 unfold BH at h
 let p1:Nat×AV:=(2,.pe (AA.enc x2) 0)
 refine BJ (CD (s1:=⟨Fr 11 [(0,AD.enc x0),(1,.pe (.fn 183 [] []) 0),p1],[]⟩) AT ?_)
 let p2:Option Blk:=some ⟨10,115,[AD.enc x0],false⟩
 refine AM AC [(1,.pe (.fn 183 [] []) 0),p1,(3,.pt 0 0 0)] [p2] ?_;refine AH ?_;refine AH ?_;obtain ⟨v1,hv1,h⟩:=OB h
 let p3:Nat×AV:=(10,.v (.bool (!(v1==x2.2.2.1))))
 refine F8 AC (s1:=⟨Fr 11 [p3],[]⟩) kr ?_ ?_
 ·refine B8 (n:=11) AC 2 [p1,(5,.fn 183 [] []),(6,AD.enc x0)] [p2] kr kr ?_
  refine CM (caps:=[]) (xs:=[AD.enc x0]) (u:=(x0,())) rfl rfl Nn rfl (AB rfl) kr kr (Ab (A3 (c:=AD) (v:=x0)) B6) kr hv1 ?_;refine B8 (n:=11) AC 3 [p3] [p2] kr kr ?_;exact RunDS.done rfl (Au [] trivial ⟨lv,trivial⟩)
 refine AW (b:=(!(v1==x2.2.2.1))) kr (fun hb2=>?_) (fun hb2=>?_)
 ·rw [if_pos hb2] at h
  refine AM AC [(4,.v (.int .i64 0))] [] ?_;refine AX ?_;have hq:=OI h; subst hq;exact ⟨⟨Fr 11 [(4,.v (.int .i64 0))],[]⟩,AT,.inr rfl,[.v (.int .i64 0)],kr,kr⟩
 ·rw [Cr hb2] at h
  refine Ai ?_;refine AM AC [(4,.v (.int .i64 1))] [] ?_;refine AX ?_;have hq:=OI h; subst hq;exact ⟨⟨Fr 11 [(4,.v (.int .i64 1))],[]⟩,AT,.inr rfl,[.v (.int .i64 1)],kr,kr⟩
def HA:List AV->Option AV:=EN C8 (fun a=>BH a.1 a.2.2.1) DC
theorem HG:XOk 206 HA:=by
 refine AZ Tryz.func206 (c:=ER) ?h2 ⟨Tryz.call206⟩ C8 (fun a=>BH a.1 a.2.2.1) DC (fun a=>(by show 3<=11; decide)) ?h3 ?h4
 case h2=>kernel_rfl
 case h3=>intro b; kernel_rfl
 case h4=>exact fun a b h=>Gh a.1 a.2.2.1 b h
/- trestle/court.plain$5$1 -/
noncomputable def IJ:Code:=Bo Tryz.f185
def Dn (x0:(List UInt8)) (x1:AE):Option (Bool) :=
 (Az x1.2.2.2.1 x0).bind fun v1 =>
 some v1
def GQ:Cs ((List UInt8)×AE×Unit):=(csC cdS (csC (cdP AA) csN))
def GU (r:Bool):AV:=cdB.enc r
theorem Ki (x0:(List UInt8)) (x1:AE) (r:Bool) (h:Dn x0 x1=some r):Sem E0 ⟨none,false⟩ IJ ⟨Fr 8 (BS 0 (GQ.enc (x0,x1,()))),[]⟩ fun e s'=>(e = .normal\/e = .ret)/\∃ xs,Eo E0.P s'.fr s'.hp Tryz.f185.results.toList=some xs/\Er xs=GU r:=by
 unfold Dn at h;refine BJ (CD (s1:=⟨Fr 8 [(0,.st x0),(1,.pe (AA.enc x1) 0)],[]⟩) AT ?_);refine AM AC [(0,.st x0),(1,.pe (AA.enc x1) 0)] [] ?_;refine AH ?_;obtain ⟨v1,hv1,h⟩:=OB h;refine AO (s1:=⟨Fr 8 [(3,.v (.bool v1))],[]⟩) ?_ ?_
 ·refine AF (n:=8) AC 3 [(5,.sl 1 (x1.2.2.2.1.map cdS.enc)),(6,.st x0)] [] kr ?_
  refine Ay (caps:=[]) (xs:=[.sl 1 (x1.2.2.2.1.map cdS.enc),.st x0]) (u:=(x1.2.2.2.1,x0,())) rfl rfl Ca rfl (AB rfl) kr kr (Ab (A3 (c:=(cdL 1 cdS)) (v:=x1.2.2.2.1)) (Ab (A3 (c:=cdS) (v:=x0)) B6)) (.inl kr) hv1 ?_;exact A5 AC
 refine AX ?_;have hq:=OI h; subst hq;exact ⟨⟨Fr 8 [(3,.v (.bool v1))],[]⟩,AT,.inr rfl,[.v (.bool v1)],kr,kr⟩
def L5:List AV->Option AV:=EN GQ (fun a=>Dn a.1 a.2.1) GU
theorem L9:XOk 185 L5:=by
 refine AZ Tryz.func185 (c:=IJ) ?h2 ⟨Tryz.call185⟩ GQ (fun a=>Dn a.1 a.2.1) GU (fun a=>(by show 2<=8; decide)) ?h3 ?h4
 case h2=>kernel_rfl
 case h3=>intro b; kernel_rfl
 case h4=>exact fun a b h=>Ki a.1 a.2.1 b h
/- slices.IndexFunc[[]string,string] -/
noncomputable def Be:Code:=Bo Tryz.f90
def A0 (x0:(List (List UInt8))) (x1:AE):Nat->Int->Option ((Unit) ⊕ (Int))
 | 0,_=>none
 | f + 1,c1 =>
  if (decide (c1 < (x0.length:Int)))=true then
  (idx x0 c1).bind fun v3 =>
  (Dn v3 x1).bind fun v4 =>
  if v4=true then
  some (.inr c1)
  else
  A0 x0 x1 f (wr .i64 (c1 + 1))
  else
  some (.inl ())
def Ar (x0:(List (List UInt8))) (x1:AE):Option (Int) :=
 (A0 x0 x1 100000 0).bind fun r7 =>
 match r7 with
 | (.inl w8) =>
  some (-1)
 | (.inr w9) =>
  some w9
def Bf:Cs ((List (List UInt8))×AE×Unit):=(csC (cdL 1 cdS) (csC (cdF 185 (csE (cdP AA)) (fun _=>rfl)) csN))
def Bg (r:Int):AV:=cdI.enc r
theorem CJ (x0:(List (List UInt8))) (x1:AE):∀ (f:Nat) (c1:Int) (r:(Unit) ⊕ (Int)),A0 x0 x1 f c1=some r->SemN E0 ⟨none,false⟩ (pc Be [1,0,1,0,0]) f ⟨Fr 19 [(0,.sl 1 (x0.map cdS.enc)),(1,.fn 185 [] [.pe (AA.enc x1) 0]),(7,.v (.int .i64 (x0.length:Int))),(8,.v (.int .i64 c1))],[]⟩ (fun e s=>match r with
 | (.inl w)=>e=(.exit 0)/\Wk E0 s ⟨Fr 19 [],[]⟩
 | (.inr w)=>e = .ret/\Wk E0 s ⟨Fr 19 [(4,.v (.int .i64 w))],[]⟩):=by
 intro f;induction f with
 | zero=>intro c1 r h; cases h
 | succ f ih0 =>
  intro c1 r h
  have ih:=fun (c1:Int)=>ih0 c1 r
  unfold A0 at h;refine D3 ?_
  let p1:Nat×AV:=(8,.v (.int .i64 c1))
  let p2:Nat×AV:=(7,.v (.int .i64 (x0.length:Int)))
  let p3:Nat×AV:=(1,.fn 185 [] [.pe (AA.enc x1) 0])
  let p4:Nat×AV:=(0,.sl 1 (x0.map cdS.enc))
  refine AM AC [p4,p3,p2,p1,(9,.v (.bool (decide (c1 < (x0.length:Int)))))] [] ?_;refine AH ?_;refine AW (b:=(decide (c1 < (x0.length:Int)))) kr (fun hb2=>?_) (fun hb2=>?_)
  ·rw [if_pos hb2] at h
   refine Ai ?_;refine AH ?_;refine Bh ?_
   let p5:Nat×AV:=(5,.v (.int .i64 c1))
   refine AM AC [p4,p3,p5,p2,p1] [] ?_;refine AH ?_;obtain ⟨v3,hv3,h⟩:=OB h;obtain ⟨v4,hv4,h⟩:=OB h;refine AO (s1:=⟨Fr 19 [p4,p3,p5,p2,p1,(16,.v (.bool v4))],[]⟩) ?_ ?_
   ·let p6:Nat×AV:=(11,.fn 185 [] [.pe (AA.enc x1) 0])
    refine AF (n:=19) AC 3 [p4,p3,p5,p2,p1,p6,(12,.sl 1 (x0.map cdS.enc)),(13,.v (.int .i64 c1))] [] kr ?_;refine Aq AC 0 rfl (EM (AB rfl) rfl (Ao (a:= .sl 1 (x0.map cdS.enc)) (b:= .v (.int .i64 c1)) kr kr (Iw (e:=cdS.enc) (el:=9) (k:=1) (ki:= .i64) kr kr hv3))) ?_;refine AF (n:=19) AC 1 [p4,p3,p5,p2,p1,p6,(15,.st v3)] [] kr ?_;refine Ay (caps:=[.pe (AA.enc x1) 0]) (xs:=[.st v3]) (u:=(v3,x1,())) rfl rfl L9 rfl (AB rfl) kr kr (Ab (A3 (c:=cdS) (v:=v3)) (Ab (A3 (c:=(cdP AA)) (v:=x1)) B6)) (.inl kr) hv4 ?_;exact AL rfl AT
   refine AW (b:=v4) kr (fun hb5=>?_) (fun hb5=>?_)
   ·rw [if_pos hb5] at h
    refine AM AC [(4,.v (.int .i64 c1))] [] ?_;refine AX ?_;have hq:=OI h; subst hq;exact ⟨rfl,AT⟩
   ·rw [Cr hb5] at h
    refine Ai ?_
    let p7:Nat×AV:=(8,.v (.int .i64 (wr .i64 (c1 + 1))))
    refine Eq AC [p4,p3,p2,p7] [] ?_;exact CF (s1:=⟨Fr 19 [p4,p3,p2,p7],[]⟩) AT (ih (wr .i64 (c1 + 1)) h)
  ·rw [Cr hb2] at h
   refine FD ?_;have hq:=OI h; subst hq;exact ⟨rfl,AT⟩
theorem Dt (x0:(List (List UInt8))) (x1:AE) (r:Int) (h:Ar x0 x1=some r):Sem E0 ⟨none,false⟩ Be ⟨Fr 19 (BS 0 (Bf.enc (x0,x1,()))),[]⟩ fun e s'=>(e = .normal\/e = .ret)/\∃ xs,Eo E0.P s'.fr s'.hp Tryz.f90.results.toList=some xs/\Er xs=Bg r:=by
 unfold Ar at h
 let p1:Nat×AV:=(1,.fn 185 [] [.pe (AA.enc x1) 0])
 let p2:Nat×AV:=(0,.sl 1 (x0.map cdS.enc))
 refine BJ (CD (s1:=⟨Fr 19 [p2,p1],[]⟩) AT ?_);refine AM AC [p2,p1] [] ?_;refine AH ?_;refine AH ?_
 let p3:Nat×AV:=(8,.v (.int .i64 0))
 let p4:Nat×AV:=(7,.v (.int .i64 (x0.length:Int)))
 refine AO (s1:=⟨Fr 19 [p2,p1,p4,p3],[]⟩) ?_ ?_
 ·refine AF (n:=19) AC 1 [p2,p1,(6,.sl 1 (x0.map cdS.enc))] [] kr ?_
  refine Aq AC 0 rfl (EM (AB rfl) rfl (FU (a:= .sl 1 (x0.map cdS.enc)) kr (Dq (el:=9) kr))) ?_;exact A5 AC
 refine Bh ?_;obtain ⟨r7,hr7,h⟩:=OB h;refine FE (n:=100000) ?_;rcases r7 with w8 | w9
 ·try dsimp only at h
  refine Cn (CF (s1:=⟨Fr 19 [p2,p1,p4,p3],[]⟩) AT (CJ x0 x1 _ 0 _ hr7)) ?_;refine AM AC [(4,.v (.int .i64 (-1)))] [] ?_;refine AX ?_;have hq:=OI h; subst hq;exact ⟨⟨Fr 19 [(4,.v (.int .i64 (-1)))],[]⟩,AT,.inr rfl,[.v (.int .i64 (-1))],kr,kr⟩
 ·try dsimp only at h
  refine Cn (CF (s1:=⟨Fr 19 [p2,p1,p4,p3],[]⟩) AT (CJ x0 x1 _ 0 _ hr7)) ?_;have hq:=OI h; subst hq;exact ⟨⟨Fr 19 [(4,.v (.int .i64 w9))],[]⟩,AT,.inr rfl,[.v (.int .i64 w9)],kr,kr⟩
def D1:List AV->Option AV:=EN Bf (fun a=>Ar a.1 a.2.1) Bg
theorem D2:XOk 90 D1:=by
 refine AZ Tryz.func90 (c:=Be) ?h2 ⟨Tryz.call90⟩ Bf (fun a=>Ar a.1 a.2.1) Bg (fun a=>(by show 2<=19; decide)) ?h3 ?h4
 case h2=>kernel_rfl
 case h3=>intro b; kernel_rfl
 case h4=>exact fun a b h=>Dt a.1 a.2.1 b h
/- slices.ContainsFunc[[]string,string] -/
noncomputable def CI:Code:=Bo Tryz.f36
def AY (x0:(List (List UInt8))) (x1:AE):Option (Bool) :=
 (Ar x0 x1).bind fun v1 =>
 some (decide (v1≥0))
def BW:Cs ((List (List UInt8))×AE×Unit):=(csC (cdL 1 cdS) (csC (cdF 185 (csE (cdP AA)) (fun _=>rfl)) csN))
def BX (r:Bool):AV:=cdB.enc r
theorem Dc (x0:(List (List UInt8))) (x1:AE) (r:Bool) (h:AY x0 x1=some r):Sem E0 ⟨none,false⟩ CI ⟨Fr 9 (BS 0 (BW.enc (x0,x1,()))),[]⟩ fun e s'=>(e = .normal\/e = .ret)/\∃ xs,Eo E0.P s'.fr s'.hp Tryz.f36.results.toList=some xs/\Er xs=BX r:=by
 unfold AY at h
 let p1:Nat×AV:=(1,.fn 185 [] [.pe (AA.enc x1) 0])
 refine BJ (CD (s1:=⟨Fr 9 [(0,.sl 1 (x0.map cdS.enc)),p1],[]⟩) AT ?_);refine AM AC [(0,.sl 1 (x0.map cdS.enc)),p1] [] ?_;refine AH ?_;obtain ⟨v1,hv1,h⟩:=OB h
 let p2:Nat×AV:=(4,.v (.bool (decide (v1≥0))))
 refine AO (s1:=⟨Fr 9 [p2],[]⟩) ?_ ?_
 ·refine AF (n:=9) AC 2 [(5,.sl 1 (x0.map cdS.enc)),(6,.fn 185 [] [.pe (AA.enc x1) 0])] [] kr ?_
  refine Ay (caps:=[]) (xs:=[.sl 1 (x0.map cdS.enc),.fn 185 [] [.pe (AA.enc x1) 0]]) (u:=(x0,x1,())) rfl rfl D2 rfl (AB rfl) kr kr (Ab (A3 (c:=(cdL 1 cdS)) (v:=x0)) (Ab (Sm.fn (Oh (A3 (c:=(cdP AA)) (v:=x1)))) B6)) (.inl kr) hv1 ?_;exact A5 AC
 refine AX ?_;have hq:=OI h; subst hq;exact ⟨⟨Fr 9 [p2],[]⟩,AT,.inr rfl,[.v (.bool (decide (v1≥0)))],kr,kr⟩
def Di:List AV->Option AV:=EN BW (fun a=>AY a.1 a.2.1) BX
theorem Dj:XOk 36 Di:=by
 refine AZ Tryz.func36 (c:=CI) ?h2 ⟨Tryz.call36⟩ BW (fun a=>AY a.1 a.2.1) BX (fun a=>(by show 2<=9; decide)) ?h3 ?h4
 case h2=>kernel_rfl
 case h3=>intro b; kernel_rfl
 case h4=>exact fun a b h=>Dc a.1 a.2.1 b h
/- trestle/court.plain$5 -/
noncomputable def JP:Code:=Bo Tryz.f184
def FX (x0:AP) (x1:AE):Option (Bool) :=
 (AY x0.1.2.2.2.2.2.2.2.2 x1).bind fun v1 =>
 some v1
def HS:Cs (AP×AE×Unit):=(csC AD (csC (cdP AA) csN))
def Hf (r:Bool):AV:=cdB.enc r
theorem Lc (x0:AP) (x1:AE) (r:Bool) (h:FX x0 x1=some r):Sem E0 ⟨none,false⟩ JP ⟨Fr 9 (BS 0 (HS.enc (x0,x1,()))),[]⟩ fun e s'=>(e = .normal\/e = .ret)/\∃ xs,Eo E0.P s'.fr s'.hp Tryz.f184.results.toList=some xs/\Er xs=Hf r:=by
 unfold FX at h;refine BJ (CD (s1:=⟨Fr 9 [(0,AD.enc x0),(1,.pe (AA.enc x1) 0)],[]⟩) AT ?_)
 let p1:Option Blk:=some ⟨10,115,[AD.enc x0],false⟩
 refine AM AC [(1,.pe (AA.enc x1) 0),(2,.pt 0 0 0)] [p1] ?_;refine AH ?_;obtain ⟨v1,hv1,h⟩:=OB h
 let p2:Nat×AV:=(3,.v (.bool v1))
 refine AO (s1:=⟨Fr 9 [p2],[]⟩) ?_ ?_
 ·refine AF (n:=9) AC 4 [(6,.sl 1 (x0.1.2.2.2.2.2.2.2.2.map cdS.enc)),(7,.fn 185 [] [.pe (AA.enc x1) 0])] [p1] kr ?_
  refine Ay (caps:=[]) (xs:=[.sl 1 (x0.1.2.2.2.2.2.2.2.2.map cdS.enc),.fn 185 [] [.pe (AA.enc x1) 0]]) (u:=(x0.1.2.2.2.2.2.2.2.2,x1,())) rfl rfl Dj rfl (AB rfl) kr kr (Ab (A3 (c:=(cdL 1 cdS)) (v:=x0.1.2.2.2.2.2.2.2.2)) (Ab (Sm.fn (Oh (A3 (c:=(cdP AA)) (v:=x1)))) B6)) (.inl kr) hv1 ?_;refine AF (n:=9) AC 1 [p2] [p1] kr ?_;exact AL rfl (Au [] trivial ⟨lv,trivial⟩)
 refine AX ?_;have hq:=OI h; subst hq;exact ⟨⟨Fr 9 [p2],[]⟩,AT,.inr rfl,[.v (.bool v1)],kr,kr⟩
def NX:List AV->Option AV:=EN HS (fun a=>FX a.1 a.2.1) Hf
theorem No:XOk 184 NX:=by
 refine AZ Tryz.func184 (c:=JP) ?h2 ⟨Tryz.call184⟩ HS (fun a=>FX a.1 a.2.1) Hf (fun a=>(by show 2<=9; decide)) ?h3 ?h4
 case h2=>kernel_rfl
 case h3=>intro b; kernel_rfl
 case h4=>exact fun a b h=>Lc a.1 a.2.1 b h
/- trestle/court.named$1 -/
noncomputable def ES:Code:=Bo Tryz.f206
def A8 (x0:AP) (x1:AE) (x2:AE):Option (Int) :=
 (FX x0 x1).bind fun v1 =>
 if (!(v1==x2.2.2.1))=true then
 some 0
 else
 some 1
def C9:Cs (AP×AE×AE×Unit):=(csC AD (csC (cdP (cdF 184 (csE (cdP AA)) (fun _=>rfl))) (csC (cdP AA) csN)))
def DD (r:Int):AV:=cdI.enc r
theorem Gi (x0:AP) (x1:AE) (x2:AE) (r:Int) (h:A8 x0 x1 x2=some r):Sem E0 ⟨none,false⟩ ES ⟨Fr 11 (BS 0 (C9.enc (x0,x1,x2,()))),[]⟩ fun e s'=>(e = .normal\/e = .ret)/\∃ xs,Eo E0.P s'.fr s'.hp Tryz.f206.results.toList=some xs/\Er xs=DD r:=by
 unfold A8 at h
 let p1:Nat×AV:=(2,.pe (AA.enc x2) 0)
 let p2:Nat×AV:=(1,.pe (.fn 184 [] [.pe (AA.enc x1) 0]) 0)
 refine BJ (CD (s1:=⟨Fr 11 [(0,AD.enc x0),p2,p1],[]⟩) AT ?_)
 let p3:Option Blk:=some ⟨10,115,[AD.enc x0],false⟩
 refine AM AC [p2,p1,(3,.pt 0 0 0)] [p3] ?_;refine AH ?_;refine AH ?_;obtain ⟨v1,hv1,h⟩:=OB h
 let p4:Nat×AV:=(10,.v (.bool (!(v1==x2.2.2.1))))
 refine F8 AC (s1:=⟨Fr 11 [p4],[]⟩) kr ?_ ?_
 ·refine B8 (n:=11) AC 2 [p1,(5,.fn 184 [] [.pe (AA.enc x1) 0]),(6,AD.enc x0)] [p3] kr kr ?_
  refine CM (caps:=[.pe (AA.enc x1) 0]) (xs:=[AD.enc x0]) (u:=(x0,x1,())) rfl rfl No rfl (AB rfl) kr kr (Ab (A3 (c:=AD) (v:=x0)) (Ab (A3 (c:=(cdP AA)) (v:=x1)) B6)) kr hv1 ?_;refine B8 (n:=11) AC 3 [p4] [p3] kr kr ?_;exact RunDS.done rfl (Au [] trivial ⟨lv,trivial⟩)
 refine AW (b:=(!(v1==x2.2.2.1))) kr (fun hb2=>?_) (fun hb2=>?_)
 ·rw [if_pos hb2] at h
  refine AM AC [(4,.v (.int .i64 0))] [] ?_;refine AX ?_;have hq:=OI h; subst hq;exact ⟨⟨Fr 11 [(4,.v (.int .i64 0))],[]⟩,AT,.inr rfl,[.v (.int .i64 0)],kr,kr⟩
 ·rw [Cr hb2] at h
  refine Ai ?_;refine AM AC [(4,.v (.int .i64 1))] [] ?_;refine AX ?_;have hq:=OI h; subst hq;exact ⟨⟨Fr 11 [(4,.v (.int .i64 1))],[]⟩,AT,.inr rfl,[.v (.int .i64 1)],kr,kr⟩
def HB:List AV->Option AV:=EN C9 (fun a=>A8 a.1 a.2.1 a.2.2.1) DD
theorem HH:XOk 206 HB:=by
 refine AZ Tryz.func206 (c:=ES) ?h2 ⟨Tryz.call206⟩ C9 (fun a=>A8 a.1 a.2.1 a.2.2.1) DD (fun a=>(by show 3<=11; decide)) ?h3 ?h4
 case h2=>kernel_rfl
 case h3=>intro b; kernel_rfl
 case h4=>exact fun a b h=>Gi a.1 a.2.1 a.2.2.1 b h
/- trestle/court.plain$6 -/
noncomputable def JQ:Code:=Bo Tryz.f186
def FY (x0:AP) (x1:AE):Option (Bool) :=
 (Az x1.2.2.2.1 x0.1.2.2.1).bind fun v1 =>
 some v1
def HT:Cs (AP×AE×Unit):=(csC AD (csC (cdP AA) csN))
def Hg (r:Bool):AV:=cdB.enc r
theorem Le (x0:AP) (x1:AE) (r:Bool) (h:FY x0 x1=some r):Sem E0 ⟨none,false⟩ JQ ⟨Fr 10 (BS 0 (HT.enc (x0,x1,()))),[]⟩ fun e s'=>(e = .normal\/e = .ret)/\∃ xs,Eo E0.P s'.fr s'.hp Tryz.f186.results.toList=some xs/\Er xs=Hg r:=by
 unfold FY at h;refine BJ (CD (s1:=⟨Fr 10 [(0,AD.enc x0),(1,.pe (AA.enc x1) 0)],[]⟩) AT ?_)
 let p1:Option Blk:=some ⟨10,115,[AD.enc x0],false⟩
 refine AM AC [(1,.pe (AA.enc x1) 0),(2,.pt 0 0 0)] [p1] ?_;refine AH ?_;obtain ⟨v1,hv1,h⟩:=OB h
 let p2:Nat×AV:=(3,.v (.bool v1))
 refine AO (s1:=⟨Fr 10 [p2],[]⟩) ?_ ?_
 ·refine AF (n:=10) AC 5 [(5,.sl 1 (x1.2.2.2.1.map cdS.enc)),(8,.st x0.1.2.2.1)] [p1] kr ?_
  refine Ay (caps:=[]) (xs:=[.sl 1 (x1.2.2.2.1.map cdS.enc),.st x0.1.2.2.1]) (u:=(x1.2.2.2.1,x0.1.2.2.1,())) rfl rfl Ca rfl (AB rfl) kr kr (Ab (A3 (c:=(cdL 1 cdS)) (v:=x1.2.2.2.1)) (Ab (A3 (c:=cdS) (v:=x0.1.2.2.1)) B6)) (.inl kr) hv1 ?_;refine AF (n:=10) AC 1 [p2] [p1] kr ?_;exact AL rfl (Au [] trivial ⟨lv,trivial⟩)
 refine AX ?_;have hq:=OI h; subst hq;exact ⟨⟨Fr 10 [p2],[]⟩,AT,.inr rfl,[.v (.bool v1)],kr,kr⟩
def NY:List AV->Option AV:=EN HT (fun a=>FY a.1 a.2.1) Hg
theorem Np:XOk 186 NY:=by
 refine AZ Tryz.func186 (c:=JQ) ?h2 ⟨Tryz.call186⟩ HT (fun a=>FY a.1 a.2.1) Hg (fun a=>(by show 2<=10; decide)) ?h3 ?h4
 case h2=>kernel_rfl
 case h3=>intro b; kernel_rfl
 case h4=>exact fun a b h=>Le a.1 a.2.1 b h
/- trestle/court.named$1 -/
noncomputable def ET:Code:=Bo Tryz.f206
def A9 (x0:AP) (x1:AE) (x2:AE):Option (Int) :=
 (FY x0 x1).bind fun v1 =>
 if (!(v1==x2.2.2.1))=true then
 some 0
 else
 some 1
def DA:Cs (AP×AE×AE×Unit):=(csC AD (csC (cdP (cdF 186 (csE (cdP AA)) (fun _=>rfl))) (csC (cdP AA) csN)))
def DE (r:Int):AV:=cdI.enc r
theorem Gj (x0:AP) (x1:AE) (x2:AE) (r:Int) (h:A9 x0 x1 x2=some r):Sem E0 ⟨none,false⟩ ET ⟨Fr 11 (BS 0 (DA.enc (x0,x1,x2,()))),[]⟩ fun e s'=>(e = .normal\/e = .ret)/\∃ xs,Eo E0.P s'.fr s'.hp Tryz.f206.results.toList=some xs/\Er xs=DE r:=by
 unfold A9 at h
 let p1:Nat×AV:=(2,.pe (AA.enc x2) 0)
 let p2:Nat×AV:=(1,.pe (.fn 186 [] [.pe (AA.enc x1) 0]) 0)
 refine BJ (CD (s1:=⟨Fr 11 [(0,AD.enc x0),p2,p1],[]⟩) AT ?_)
 let p3:Option Blk:=some ⟨10,115,[AD.enc x0],false⟩
 refine AM AC [p2,p1,(3,.pt 0 0 0)] [p3] ?_;refine AH ?_;refine AH ?_;obtain ⟨v1,hv1,h⟩:=OB h
 let p4:Nat×AV:=(10,.v (.bool (!(v1==x2.2.2.1))))
 refine F8 AC (s1:=⟨Fr 11 [p4],[]⟩) kr ?_ ?_
 ·refine B8 (n:=11) AC 2 [p1,(5,.fn 186 [] [.pe (AA.enc x1) 0]),(6,AD.enc x0)] [p3] kr kr ?_
  refine CM (caps:=[.pe (AA.enc x1) 0]) (xs:=[AD.enc x0]) (u:=(x0,x1,())) rfl rfl Np rfl (AB rfl) kr kr (Ab (A3 (c:=AD) (v:=x0)) (Ab (A3 (c:=(cdP AA)) (v:=x1)) B6)) kr hv1 ?_;refine B8 (n:=11) AC 3 [p4] [p3] kr kr ?_;exact RunDS.done rfl (Au [] trivial ⟨lv,trivial⟩)
 refine AW (b:=(!(v1==x2.2.2.1))) kr (fun hb2=>?_) (fun hb2=>?_)
 ·rw [if_pos hb2] at h
  refine AM AC [(4,.v (.int .i64 0))] [] ?_;refine AX ?_;have hq:=OI h; subst hq;exact ⟨⟨Fr 11 [(4,.v (.int .i64 0))],[]⟩,AT,.inr rfl,[.v (.int .i64 0)],kr,kr⟩
 ·rw [Cr hb2] at h
  refine Ai ?_;refine AM AC [(4,.v (.int .i64 1))] [] ?_;refine AX ?_;have hq:=OI h; subst hq;exact ⟨⟨Fr 11 [(4,.v (.int .i64 1))],[]⟩,AT,.inr rfl,[.v (.int .i64 1)],kr,kr⟩
def HC:List AV->Option AV:=EN DA (fun a=>A9 a.1 a.2.1 a.2.2.1) DE
theorem HI:XOk 206 HC:=by
 refine AZ Tryz.func206 (c:=ET) ?h2 ⟨Tryz.call206⟩ DA (fun a=>A9 a.1 a.2.1 a.2.2.1) DE (fun a=>(by show 3<=11; decide)) ?h3 ?h4
 case h2=>kernel_rfl
 case h3=>intro b; kernel_rfl
 case h4=>exact fun a b h=>Gj a.1 a.2.1 a.2.2.1 b h
/- trestle/court.placed$1 -/
noncomputable def Iq:Code:=Bo Tryz.f208
def CX (x0:Int):Option (Bool) :=
 (if (decide (x0≥0))=true then some (decide (x0<=63)) else some false).bind fun j2 =>
 some j2
def Gr:Cs (Int×Unit):=(csC cdI csN)
def Gt (r:Bool):AV:=cdB.enc r
theorem K3 (x0:Int) (r:Bool) (h:CX x0=some r):Sem E0 ⟨none,false⟩ Iq ⟨Fr 9 (BS 0 (Gr.enc (x0,()))),[]⟩ fun e s'=>(e = .normal\/e = .ret)/\∃ xs,Eo E0.P s'.fr s'.hp Tryz.f208.results.toList=some xs/\Er xs=Gt r:=by
 unfold CX at h;refine BJ (CD (s1:=⟨Fr 9 [(0,.v (.int .i64 x0))],[]⟩) AT ?_);refine AM AC [(0,.v (.int .i64 x0))] [] ?_;refine AH ?_;obtain ⟨j2,hj2,h⟩:=OB h;refine AO (s1:=⟨Fr 9 [(2,.v (.bool j2))],[]⟩) ?_ ?_
 ·refine AF (n:=9) AC 3 [(0,.v (.int .i64 x0)),(5,.v (.bool (decide (x0≥0))))] [] kr ?_
  rcases BE (decide (x0≥0)) with hc3 | hc3
  ·rw [if_pos hc3] at hj2
   rw [hc3];refine AF (n:=9) AC 4 [(2,.v (.bool (decide (x0<=63))))] [] kr ?_;have hq:=OI hj2; subst hq;exact AL rfl AT
  ·rw [Cr hc3] at hj2
   rw [hc3];refine AF (n:=9) AC 4 [(2,.v (.bool false))] [] kr ?_;have hq:=OI hj2; subst hq;exact AL rfl AT
 refine AX ?_;have hq:=OI h; subst hq;exact ⟨⟨Fr 9 [(2,.v (.bool j2))],[]⟩,AT,.inr rfl,[.v (.bool j2)],kr,kr⟩
def MW:List AV->Option AV:=EN Gr (fun a=>CX a.1) Gt
theorem Fn:XOk 208 MW:=by
 refine AZ Tryz.func208 (c:=Iq) ?h2 ⟨Tryz.call208⟩ Gr (fun a=>CX a.1) Gt (fun a=>(by show 1<=9; decide)) ?h3 ?h4
 case h2=>kernel_rfl
 case h3=>intro b; kernel_rfl
 case h4=>exact fun a b h=>K3 a.1 b h
/- trestle/court.plain$8 -/
noncomputable def JS:Code:=Bo Tryz.f190
def Dd (x0:Int) (x1:AE):Option (Int) :=
 some ((wr .i64 ((wr .i64 (x0 * (wr .i64 ((wr .i64 (2 * x1.2.2.2.2)) + 1)))) + x1.2.2.2.2)).tmod 64)
def HV:Cs (Int×AE×Unit):=(csC cdI (csC (cdP AA) csN))
def Hi (r:Int):AV:=cdI.enc r
theorem Lg (x0:Int) (x1:AE) (r:Int) (h:Dd x0 x1=some r):Sem E0 ⟨none,false⟩ JS ⟨Fr 14 (BS 0 (HV.enc (x0,x1,()))),[]⟩ fun e s'=>(e = .normal\/e = .ret)/\∃ xs,Eo E0.P s'.fr s'.hp Tryz.f190.results.toList=some xs/\Er xs=Hi r:=by
 unfold Dd at h;refine BJ (CD (s1:=⟨Fr 14 [(0,.v (.int .i64 x0)),(1,.pe (AA.enc x1) 0)],[]⟩) AT ?_);refine AM AC [(0,.v (.int .i64 x0)),(1,.pe (AA.enc x1) 0)] [] ?_
 let p1:Nat×AV:=(3,.v (.int .i64 ((wr .i64 ((wr .i64 (x0 * (wr .i64 ((wr .i64 (2 * x1.2.2.2.2)) + 1)))) + x1.2.2.2.2)).tmod 64)))
 refine AM AC [p1] [] ?_;refine AX ?_;have hq:=OI h; subst hq;exact ⟨⟨Fr 14 [p1],[]⟩,AT,.inr rfl,[.v (.int .i64 ((wr .i64 ((wr .i64 (x0 * (wr .i64 ((wr .i64 (2 * x1.2.2.2.2)) + 1)))) + x1.2.2.2.2)).tmod 64))],kr,kr⟩
def Na:List AV->Option AV:=EN HV (fun a=>Dd a.1 a.2.1) Hi
theorem J9:XOk 190 Na:=by
 refine AZ Tryz.func190 (c:=JS) ?h2 ⟨Tryz.call190⟩ HV (fun a=>Dd a.1 a.2.1) Hi (fun a=>(by show 2<=14; decide)) ?h3 ?h4
 case h2=>kernel_rfl
 case h3=>intro b; kernel_rfl
 case h4=>exact fun a b h=>Lg a.1 a.2.1 b h
/- trestle/court.placed$2 -/
noncomputable def Ce:Code:=Bo Tryz.f209
def Aj (x0:AP) (x1:AP) (x3:AE):Option (Int) :=
 (CX x0.2).bind fun v1 =>
 (if (!v1)=true then some true else (CX x1.2).bind fun v2 =>
 some (!v2)).bind fun j4 =>
 if j4=true then
 some 0
 else
 (Dd x0.2 x3).bind fun v6 =>
 (Dd x1.2 x3).bind fun v7 =>
 (CA v6 v7).bind fun v8 =>
 some v8
def Br:Cs (AP×AP×Unit×AE×Unit):=(csC AD (csC AD (csC (cdP (cdF 208 csN (fun _=>rfl))) (csC (cdP (cdF 190 (csE (cdP AA)) (fun _=>rfl))) csN))))
def Bv (r:Int):AV:=cdI.enc r
theorem Dy (x0:AP) (x1:AP) (x3:AE) (r:Int) (h:Aj x0 x1 x3=some r):Sem E0 ⟨none,false⟩ Ce ⟨Fr 28 (BS 0 (Br.enc (x0,x1,(),x3,()))),[]⟩ fun e s'=>(e = .normal\/e = .ret)/\∃ xs,Eo E0.P s'.fr s'.hp Tryz.f209.results.toList=some xs/\Er xs=Bv r:=by
 unfold Aj at h;refine BJ (CD (s1:=⟨Fr 28 [(0,AD.enc x0),(1,AD.enc x1),(2,.pe (.fn 208 [] []) 0),(3,.pe (.fn 190 [] [.pe (AA.enc x3) 0]) 0)],[]⟩) AT ?_);refine AM AC [(2,.pe (.fn 208 [] []) 0),(3,.pe (.fn 190 [] [.pe (AA.enc x3) 0]) 0),(4,.pt 0 0 0),(5,.pt 1 0 0)] [some ⟨10,115,[AD.enc x0],false⟩,some ⟨10,115,[AD.enc x1],false⟩] ?_;refine AH ?_;refine AH ?_;obtain ⟨v1,hv1,h⟩:=OB h;obtain ⟨j4,hj4,h⟩:=OB h;refine AO (s1:=⟨Fr 28 [(3,.pe (.fn 190 [] [.pe (AA.enc x3) 0]) 0),(4,.pt 0 0 0),(5,.pt 1 0 0),(18,.v (.bool j4))],[some ⟨10,115,[AD.enc x0],false⟩,some ⟨10,115,[AD.enc x1],false⟩]⟩) ?_ ?_
 ·refine AF (n:=28) AC 3 [(2,.pe (.fn 208 [] []) 0),(3,.pe (.fn 190 [] [.pe (AA.enc x3) 0]) 0),(4,.pt 0 0 0),(5,.pt 1 0 0),(7,.fn 208 [] []),(9,.v (.int .i64 x0.2))] [some ⟨10,115,[AD.enc x0],false⟩,some ⟨10,115,[AD.enc x1],false⟩] kr ?_
  refine Ay (caps:=[]) (xs:=[.v (.int .i64 x0.2)]) (u:=(x0.2,())) rfl rfl Fn rfl (AB rfl) kr kr (Ab (A3 (c:=cdI) (v:=x0.2)) B6) (.inl kr) hv1 ?_;refine AF (n:=28) AC 2 [(2,.pe (.fn 208 [] []) 0),(3,.pe (.fn 190 [] [.pe (AA.enc x3) 0]) 0),(4,.pt 0 0 0),(5,.pt 1 0 0),(12,.v (.bool (!v1)))] [some ⟨10,115,[AD.enc x0],false⟩,some ⟨10,115,[AD.enc x1],false⟩] kr ?_;rcases BE (!v1) with hc9 | hc9
  ·rw [if_pos hc9] at hj4
   rw [hc9];refine AF (n:=28) AC 6 [(3,.pe (.fn 190 [] [.pe (AA.enc x3) 0]) 0),(4,.pt 0 0 0),(5,.pt 1 0 0),(18,.v (.bool true))] [some ⟨10,115,[AD.enc x0],false⟩,some ⟨10,115,[AD.enc x1],false⟩] kr ?_;have hq:=OI hj4; subst hq;exact AL rfl (Au [0,1] ⟨⟨_,rfl,Cw⟩,⟨_,rfl,Cw⟩,trivial⟩ ⟨lv,lv,lv,lv,trivial⟩)
  ·rw [Cr hc9] at hj4
   rw [hc9];refine AF (n:=28) AC 3 [(3,.pe (.fn 190 [] [.pe (AA.enc x3) 0]) 0),(4,.pt 0 0 0),(5,.pt 1 0 0),(12,.v (.bool false)),(13,.fn 208 [] []),(15,.v (.int .i64 x1.2))] [some ⟨10,115,[AD.enc x0],false⟩,some ⟨10,115,[AD.enc x1],false⟩] kr ?_;obtain ⟨v2,hv2,hj4⟩:=OB hj4;refine Ay (caps:=[]) (xs:=[.v (.int .i64 x1.2)]) (u:=(x1.2,())) rfl rfl Fn rfl kr kr kr (Ab (A3 (c:=cdI) (v:=x1.2)) B6) (.inl kr) hv2 ?_;refine AF (n:=28) AC 2 [(3,.pe (.fn 190 [] [.pe (AA.enc x3) 0]) 0),(4,.pt 0 0 0),(5,.pt 1 0 0),(18,.v (.bool (!v2)))] [some ⟨10,115,[AD.enc x0],false⟩,some ⟨10,115,[AD.enc x1],false⟩] kr ?_;have hq:=OI hj4; subst hq;exact AL rfl (Au [0,1] ⟨⟨_,rfl,Cw⟩,⟨_,rfl,Cw⟩,trivial⟩ ⟨lv,lv,lv,lv,trivial⟩)
 refine AW (b:=j4) kr (fun hb5=>?_) (fun hb5=>?_)
 ·rw [if_pos hb5] at h
  refine AH ?_;refine AO (s1:=⟨Fr 28 [(6,.v (.int .i64 0))],[]⟩) ?_ ?_
  ·refine AF (n:=28) AC 1 [(6,.v (.int .i64 0))] [some ⟨10,115,[AD.enc x0],false⟩,some ⟨10,115,[AD.enc x1],false⟩] kr ?_
   exact AL rfl (Au [] trivial ⟨lv,trivial⟩)
  refine AX ?_;have hq:=OI h; subst hq;exact ⟨⟨Fr 28 [(6,.v (.int .i64 0))],[]⟩,AT,.inr rfl,[.v (.int .i64 0)],kr,kr⟩
 ·rw [Cr hb5] at h
  refine Ai ?_;refine AH ?_;obtain ⟨v6,hv6,h⟩:=OB h;obtain ⟨v7,hv7,h⟩:=OB h;obtain ⟨v8,hv8,h⟩:=OB h;refine F8 AC (s1:=⟨Fr 28 [(6,.v (.int .i64 v8))],[]⟩) kr ?_ ?_
  ·refine B8 (n:=28) AC 3 [(3,.pe (.fn 190 [] [.pe (AA.enc x3) 0]) 0),(5,.pt 1 0 0),(19,.fn 190 [] [.pe (AA.enc x3) 0]),(21,.v (.int .i64 x0.2))] [some ⟨10,115,[AD.enc x0],false⟩,some ⟨10,115,[AD.enc x1],false⟩] kr kr ?_
   refine CM (caps:=[.pe (AA.enc x3) 0]) (xs:=[.v (.int .i64 x0.2)]) (u:=(x0.2,x3,())) rfl rfl J9 rfl (AB rfl) kr kr (Ab (A3 (c:=cdI) (v:=x0.2)) (Ab (A3 (c:=(cdP AA)) (v:=x3)) B6)) kr hv6 ?_;refine B8 (n:=28) AC 3 [(22,.v (.int .i64 v6)),(23,.fn 190 [] [.pe (AA.enc x3) 0]),(25,.v (.int .i64 x1.2))] [some ⟨10,115,[AD.enc x0],false⟩,some ⟨10,115,[AD.enc x1],false⟩] kr kr ?_;refine CM (caps:=[.pe (AA.enc x3) 0]) (xs:=[.v (.int .i64 x1.2)]) (u:=(x1.2,x3,())) rfl rfl J9 rfl (AB rfl) kr kr (Ab (A3 (c:=cdI) (v:=x1.2)) (Ab (A3 (c:=(cdP AA)) (v:=x3)) B6)) kr hv7 ?_;refine CM (caps:=[]) (xs:=[.v (.int .i64 v6),.v (.int .i64 v7)]) (u:=(v6,v7,())) rfl rfl Eb rfl (AB rfl) kr kr (Ab (A3 (c:=cdI) (v:=v6)) (Ab (A3 (c:=cdI) (v:=v7)) B6)) kr hv8 ?_;refine B8 (n:=28) AC 1 [(6,.v (.int .i64 v8))] [some ⟨10,115,[AD.enc x0],false⟩,some ⟨10,115,[AD.enc x1],false⟩] kr kr ?_;exact RunDS.done rfl (Au [] trivial ⟨lv,trivial⟩)
  refine AX ?_;have hq:=OI h; subst hq;exact ⟨⟨Fr 28 [(6,.v (.int .i64 v8))],[]⟩,AT,.inr rfl,[.v (.int .i64 v8)],kr,kr⟩
def EE:List AV->Option AV:=EN Br (fun a=>Aj a.1 a.2.1 a.2.2.2.1) Bv
theorem EH:XOk 209 EE:=by
 refine AZ Tryz.func209 (c:=Ce) ?h2 ⟨Tryz.call209⟩ Br (fun a=>Aj a.1 a.2.1 a.2.2.2.1) Bv (fun a=>(by show 4<=28; decide)) ?h3 ?h4
 case h2=>kernel_rfl
 case h3=>intro b; kernel_rfl
 case h4=>exact fun a b h=>Dy a.1 a.2.1 a.2.2.2.1 b h
/- trestle/court.plain$9 -/
noncomputable def JT:Code:=Bo Tryz.f191
def Ek (x0:Int):Option (Int) :=
 some x0
def HW:Cs (Int×Unit):=(csC cdI csN)
def Hj (r:Int):AV:=cdI.enc r
theorem Lh (x0:Int) (r:Int) (h:Ek x0=some r):Sem E0 ⟨none,false⟩ JT ⟨Fr 4 (BS 0 (HW.enc (x0,()))),[]⟩ fun e s'=>(e = .normal\/e = .ret)/\∃ xs,Eo E0.P s'.fr s'.hp Tryz.f191.results.toList=some xs/\Er xs=Hj r:=by
 unfold Ek at h;refine BJ (CD (s1:=⟨Fr 4 [(0,.v (.int .i64 x0))],[]⟩) AT ?_);refine AM AC [(0,.v (.int .i64 x0))] [] ?_;refine AM AC [(2,.v (.int .i64 x0))] [] ?_;refine AX ?_;have hq:=OI h; subst hq;exact ⟨⟨Fr 4 [(2,.v (.int .i64 x0))],[]⟩,AT,.inr rfl,[.v (.int .i64 x0)],kr,kr⟩
def Nb:List AV->Option AV:=EN HW (fun a=>Ek a.1) Hj
theorem KA:XOk 191 Nb:=by
 refine AZ Tryz.func191 (c:=JT) ?h2 ⟨Tryz.call191⟩ HW (fun a=>Ek a.1) Hj (fun a=>(by show 1<=4; decide)) ?h3 ?h4
 case h2=>kernel_rfl
 case h3=>intro b; kernel_rfl
 case h4=>exact fun a b h=>Lh a.1 b h
/- trestle/court.placed$2 -/
noncomputable def Cg:Code:=Bo Tryz.f209
def Ak (x0:AP) (x1:AP):Option (Int) :=
 (CX x0.2).bind fun v1 =>
 (if (!v1)=true then some true else (CX x1.2).bind fun v2 =>
 some (!v2)).bind fun j4 =>
 if j4=true then
 some 0
 else
 (Ek x0.2).bind fun v6 =>
 (Ek x1.2).bind fun v7 =>
 (CA v6 v7).bind fun v8 =>
 some v8
def Bt:Cs (AP×AP×Unit×Unit×Unit):=(csC AD (csC AD (csC (cdP (cdF 208 csN (fun _=>rfl))) (csC (cdP (cdF 191 csN (fun _=>rfl))) csN))))
def Bw (r:Int):AV:=cdI.enc r
theorem Dz (x0:AP) (x1:AP) (r:Int) (h:Ak x0 x1=some r):Sem E0 ⟨none,false⟩ Cg ⟨Fr 28 (BS 0 (Bt.enc (x0,x1,(),(),()))),[]⟩ fun e s'=>(e = .normal\/e = .ret)/\∃ xs,Eo E0.P s'.fr s'.hp Tryz.f209.results.toList=some xs/\Er xs=Bw r:=by
 unfold Ak at h;refine BJ (CD (s1:=⟨Fr 28 [(0,AD.enc x0),(1,AD.enc x1),(2,.pe (.fn 208 [] []) 0),(3,.pe (.fn 191 [] []) 0)],[]⟩) AT ?_);refine AM AC [(2,.pe (.fn 208 [] []) 0),(3,.pe (.fn 191 [] []) 0),(4,.pt 0 0 0),(5,.pt 1 0 0)] [some ⟨10,115,[AD.enc x0],false⟩,some ⟨10,115,[AD.enc x1],false⟩] ?_;refine AH ?_;refine AH ?_;obtain ⟨v1,hv1,h⟩:=OB h;obtain ⟨j4,hj4,h⟩:=OB h;refine AO (s1:=⟨Fr 28 [(3,.pe (.fn 191 [] []) 0),(4,.pt 0 0 0),(5,.pt 1 0 0),(18,.v (.bool j4))],[some ⟨10,115,[AD.enc x0],false⟩,some ⟨10,115,[AD.enc x1],false⟩]⟩) ?_ ?_
 ·refine AF (n:=28) AC 3 [(2,.pe (.fn 208 [] []) 0),(3,.pe (.fn 191 [] []) 0),(4,.pt 0 0 0),(5,.pt 1 0 0),(7,.fn 208 [] []),(9,.v (.int .i64 x0.2))] [some ⟨10,115,[AD.enc x0],false⟩,some ⟨10,115,[AD.enc x1],false⟩] kr ?_
  refine Ay (caps:=[]) (xs:=[.v (.int .i64 x0.2)]) (u:=(x0.2,())) rfl rfl Fn rfl (AB rfl) kr kr (Ab (A3 (c:=cdI) (v:=x0.2)) B6) (.inl kr) hv1 ?_;refine AF (n:=28) AC 2 [(2,.pe (.fn 208 [] []) 0),(3,.pe (.fn 191 [] []) 0),(4,.pt 0 0 0),(5,.pt 1 0 0),(12,.v (.bool (!v1)))] [some ⟨10,115,[AD.enc x0],false⟩,some ⟨10,115,[AD.enc x1],false⟩] kr ?_;rcases BE (!v1) with hc9 | hc9
  ·rw [if_pos hc9] at hj4
   rw [hc9];refine AF (n:=28) AC 6 [(3,.pe (.fn 191 [] []) 0),(4,.pt 0 0 0),(5,.pt 1 0 0),(18,.v (.bool true))] [some ⟨10,115,[AD.enc x0],false⟩,some ⟨10,115,[AD.enc x1],false⟩] kr ?_;have hq:=OI hj4; subst hq;exact AL rfl (Au [0,1] ⟨⟨_,rfl,Cw⟩,⟨_,rfl,Cw⟩,trivial⟩ ⟨lv,lv,lv,lv,trivial⟩)
  ·rw [Cr hc9] at hj4
   rw [hc9];refine AF (n:=28) AC 3 [(3,.pe (.fn 191 [] []) 0),(4,.pt 0 0 0),(5,.pt 1 0 0),(12,.v (.bool false)),(13,.fn 208 [] []),(15,.v (.int .i64 x1.2))] [some ⟨10,115,[AD.enc x0],false⟩,some ⟨10,115,[AD.enc x1],false⟩] kr ?_;obtain ⟨v2,hv2,hj4⟩:=OB hj4;refine Ay (caps:=[]) (xs:=[.v (.int .i64 x1.2)]) (u:=(x1.2,())) rfl rfl Fn rfl kr kr kr (Ab (A3 (c:=cdI) (v:=x1.2)) B6) (.inl kr) hv2 ?_;refine AF (n:=28) AC 2 [(3,.pe (.fn 191 [] []) 0),(4,.pt 0 0 0),(5,.pt 1 0 0),(18,.v (.bool (!v2)))] [some ⟨10,115,[AD.enc x0],false⟩,some ⟨10,115,[AD.enc x1],false⟩] kr ?_;have hq:=OI hj4; subst hq;exact AL rfl (Au [0,1] ⟨⟨_,rfl,Cw⟩,⟨_,rfl,Cw⟩,trivial⟩ ⟨lv,lv,lv,lv,trivial⟩)
 refine AW (b:=j4) kr (fun hb5=>?_) (fun hb5=>?_)
 ·rw [if_pos hb5] at h
  refine AH ?_;refine AO (s1:=⟨Fr 28 [(6,.v (.int .i64 0))],[]⟩) ?_ ?_
  ·refine AF (n:=28) AC 1 [(6,.v (.int .i64 0))] [some ⟨10,115,[AD.enc x0],false⟩,some ⟨10,115,[AD.enc x1],false⟩] kr ?_
   exact AL rfl (Au [] trivial ⟨lv,trivial⟩)
  refine AX ?_;have hq:=OI h; subst hq;exact ⟨⟨Fr 28 [(6,.v (.int .i64 0))],[]⟩,AT,.inr rfl,[.v (.int .i64 0)],kr,kr⟩
 ·rw [Cr hb5] at h
  refine Ai ?_;refine AH ?_;obtain ⟨v6,hv6,h⟩:=OB h;obtain ⟨v7,hv7,h⟩:=OB h;obtain ⟨v8,hv8,h⟩:=OB h;refine F8 AC (s1:=⟨Fr 28 [(6,.v (.int .i64 v8))],[]⟩) kr ?_ ?_
  ·refine B8 (n:=28) AC 3 [(3,.pe (.fn 191 [] []) 0),(5,.pt 1 0 0),(19,.fn 191 [] []),(21,.v (.int .i64 x0.2))] [some ⟨10,115,[AD.enc x0],false⟩,some ⟨10,115,[AD.enc x1],false⟩] kr kr ?_
   refine CM (caps:=[]) (xs:=[.v (.int .i64 x0.2)]) (u:=(x0.2,())) rfl rfl KA rfl (AB rfl) kr kr (Ab (A3 (c:=cdI) (v:=x0.2)) B6) kr hv6 ?_;refine B8 (n:=28) AC 3 [(22,.v (.int .i64 v6)),(23,.fn 191 [] []),(25,.v (.int .i64 x1.2))] [some ⟨10,115,[AD.enc x0],false⟩,some ⟨10,115,[AD.enc x1],false⟩] kr kr ?_;refine CM (caps:=[]) (xs:=[.v (.int .i64 x1.2)]) (u:=(x1.2,())) rfl rfl KA rfl (AB rfl) kr kr (Ab (A3 (c:=cdI) (v:=x1.2)) B6) kr hv7 ?_;refine CM (caps:=[]) (xs:=[.v (.int .i64 v6),.v (.int .i64 v7)]) (u:=(v6,v7,())) rfl rfl Eb rfl (AB rfl) kr kr (Ab (A3 (c:=cdI) (v:=v6)) (Ab (A3 (c:=cdI) (v:=v7)) B6)) kr hv8 ?_;refine B8 (n:=28) AC 1 [(6,.v (.int .i64 v8))] [some ⟨10,115,[AD.enc x0],false⟩,some ⟨10,115,[AD.enc x1],false⟩] kr kr ?_;exact RunDS.done rfl (Au [] trivial ⟨lv,trivial⟩)
  refine AX ?_;have hq:=OI h; subst hq;exact ⟨⟨Fr 28 [(6,.v (.int .i64 v8))],[]⟩,AT,.inr rfl,[.v (.int .i64 v8)],kr,kr⟩
def EF:List AV->Option AV:=EN Bt (fun a=>Ak a.1 a.2.1) Bw
theorem EI:XOk 209 EF:=by
 refine AZ Tryz.func209 (c:=Cg) ?h2 ⟨Tryz.call209⟩ Bt (fun a=>Ak a.1 a.2.1) Bw (fun a=>(by show 4<=28; decide)) ?h3 ?h4
 case h2=>kernel_rfl
 case h3=>intro b; kernel_rfl
 case h4=>exact fun a b h=>Dz a.1 a.2.1 b h
theorem WN {f:FuncId}(hc:B4 E0.P f){α β:Type}(s:Cs α) (F:α->Option β) (er:β->AV) (h:∀ a b,F a=some b->∃ t,XOk f t/\t (s.enc a)=some (er b)):XOk f (EN s F er):=by
 refine ⟨hc,fun xs y hy w Z us hz hg hv=>?_⟩
 obtain ⟨a,ha,hy⟩:=OB hy
 obtain ⟨b,hb,rfl⟩:=Option.map_eq_some_iff.1 hy
 obtain ⟨t,hX,ht⟩:=h a b hb
 exact hX.2 _ _ ht w Z us hz hg (s.vr ha hv)
def Dm (a b:AP) (c:AE):Option Int :=
 if (c.1==1)=true then Bq (fun a b (v:(AE×Unit)×Unit)=>CE (fun x (v:AE×Unit)=>DG x v.1) a b v.1) a b c ((c,()),()) else
 if (c.1==2)=true then Bq (fun a b (v:AE×Unit)=>Ck a b v.1) a b c (c,()) else
 if (c.1==3)=true then Bq (fun a b (v:AE×Unit)=>Ck a b v.1) a b c (c,()) else
 if (c.1==4)=true then Bq (fun a b (v:(AE×AE×Unit)×Unit)=>CE (fun x (v:AE×AE×Unit)=>BG x v.1 v.2.1) a b v.1) a b c ((c,c,()),()) else
 if (c.1==5)=true then Bq (fun a b (v:(Unit×AE×Unit)×Unit)=>CE (fun x (v:Unit×AE×Unit)=>BH x v.2.1) a b v.1) a b c (((),c,()),()) else
 if (c.1==6)=true then Bq (fun a b (v:(AE×AE×Unit)×Unit)=>CE (fun x (v:AE×AE×Unit)=>A8 x v.1 v.2.1) a b v.1) a b c ((c,c,()),()) else
 if (c.1==7)=true then Bq (fun a b (v:(AE×AE×Unit)×Unit)=>CE (fun x (v:AE×AE×Unit)=>A9 x v.1 v.2.1) a b v.1) a b c ((c,c,()),()) else
 if (c.1==8)=true then Bq (fun a b (_:Unit)=>D5 a b) a b c () else
 if (c.1==10)=true then Bq (fun a b (v:Unit×AE×Unit)=>Aj a b v.2.1) a b c ((),c,()) else
 Bq (fun a b (_:Unit×Unit×Unit)=>Ak a b) a b c ((),(),())
noncomputable def GO:Cs (AP×AP×AE):=csC AD (csC AD Ph)
noncomputable def IR (r:Int):AV:=cdI.enc r
noncomputable def L3:List AV->Option AV:=EN GO (fun a=>Dm a.1 a.2.1 a.2.2) IR
theorem Im {α β:Type}{s:Cs α}{F:α->Option β}{er:β->AV}{a:α}{b:β}{xs:List AV}(h:F a=some b) (e:xs=s.enc a):EN s F er xs=some (er b):=e ▸ Mn h
theorem VN (a b:AP) (c:AE):GO.enc (a,b,c)=[AD.enc a,AD.enc b,.pe (AA.enc c) 0,.pe (K7 c) 0]:=rfl
theorem L8:XOk 165 L3:=by
 refine WN ⟨Tryz.call165⟩ GO (fun a=>Dm a.1 a.2.1 a.2.2) IR fun x r h=>?_
 obtain ⟨a,b,c⟩:=x
 rw [VN]
 dsimp only at h
 unfold Dm at h
 unfold K7
 rcases BE (c.1==1) with h1 | h1
 ·rw [if_pos h1] at h; rw [if_pos h1]
  exact ⟨_,CG (sx:=csC (cdP (cdF 178 (csC (cdP AA) csN) (fun _=>rfl))) csN) (hn:=fun _=>rfl) (G:=fun a b (v:(AE×Unit)×Unit)=>CE (fun x (v:AE×Unit)=>DG x v.1) a b v.1) (HE (sx:=csC (cdP AA) csN) (hn:=fun _=>rfl) (G:=fun x (v:AE×Unit)=>DG x v.1) Nl),Im (a:=(a,b,c,((c,()),()),())) h rfl⟩
 rw [if_neg (by rw [h1]; decide)] at h; rw [if_neg (by rw [h1]; decide)]
 rcases BE (c.1==2) with h1 | h1
 ·rw [if_pos h1] at h; rw [if_pos h1]
  exact ⟨_,CG (sx:=csC (cdP AA) csN) (hn:=fun _=>rfl) (G:=fun a b (v:AE×Unit)=>Ck a b v.1) J8,Im (a:=(a,b,c,(c,()),())) h rfl⟩
 rw [if_neg (by rw [h1]; decide)] at h; rw [if_neg (by rw [h1]; decide)]
 rcases BE (c.1==3) with h1 | h1
 ·rw [if_pos h1] at h; rw [if_pos h1]
  exact ⟨_,CG (sx:=csC (cdP AA) csN) (hn:=fun _=>rfl) (G:=fun a b (v:AE×Unit)=>Ck a b v.1) J8,Im (a:=(a,b,c,(c,()),())) h rfl⟩
 rw [if_neg (by rw [h1]; decide)] at h; rw [if_neg (by rw [h1]; decide)]
 rcases BE (c.1==4) with h1 | h1
 ·rw [if_pos h1] at h; rw [if_pos h1]
  exact ⟨_,CG (sx:=csC (cdP (cdF 206 (csC (cdP (cdF 182 (csE (cdP AA)) (fun _=>rfl))) (csC (cdP AA) csN)) (fun _=>rfl))) csN) (hn:=fun _=>rfl) (G:=fun a b (v:(AE×AE×Unit)×Unit)=>CE (fun x (v:AE×AE×Unit)=>BG x v.1 v.2.1) a b v.1) (HE (sx:=csC (cdP (cdF 182 (csE (cdP AA)) (fun _=>rfl))) (csC (cdP AA) csN)) (hn:=fun _=>rfl) (G:=fun x (v:AE×AE×Unit)=>BG x v.1 v.2.1) HF),Im (a:=(a,b,c,((c,c,()),()),())) h rfl⟩
 rw [if_neg (by rw [h1]; decide)] at h; rw [if_neg (by rw [h1]; decide)]
 rcases BE (c.1==5) with h1 | h1
 ·rw [if_pos h1] at h; rw [if_pos h1]
  exact ⟨_,CG (sx:=csC (cdP (cdF 206 (csC (cdP (cdF 183 csN (fun _=>rfl))) (csC (cdP AA) csN)) (fun _=>rfl))) csN) (hn:=fun _=>rfl) (G:=fun a b (v:(Unit×AE×Unit)×Unit)=>CE (fun x (v:Unit×AE×Unit)=>BH x v.2.1) a b v.1) (HE (sx:=csC (cdP (cdF 183 csN (fun _=>rfl))) (csC (cdP AA) csN)) (hn:=fun _=>rfl) (G:=fun x (v:Unit×AE×Unit)=>BH x v.2.1) HG),Im (a:=(a,b,c,(((),c,()),()),())) h rfl⟩
 rw [if_neg (by rw [h1]; decide)] at h; rw [if_neg (by rw [h1]; decide)]
 rcases BE (c.1==6) with h1 | h1
 ·rw [if_pos h1] at h; rw [if_pos h1]
  exact ⟨_,CG (sx:=csC (cdP (cdF 206 (csC (cdP (cdF 184 (csE (cdP AA)) (fun _=>rfl))) (csC (cdP AA) csN)) (fun _=>rfl))) csN) (hn:=fun _=>rfl) (G:=fun a b (v:(AE×AE×Unit)×Unit)=>CE (fun x (v:AE×AE×Unit)=>A8 x v.1 v.2.1) a b v.1) (HE (sx:=csC (cdP (cdF 184 (csE (cdP AA)) (fun _=>rfl))) (csC (cdP AA) csN)) (hn:=fun _=>rfl) (G:=fun x (v:AE×AE×Unit)=>A8 x v.1 v.2.1) HH),Im (a:=(a,b,c,((c,c,()),()),())) h rfl⟩
 rw [if_neg (by rw [h1]; decide)] at h; rw [if_neg (by rw [h1]; decide)]
 rcases BE (c.1==7) with h1 | h1
 ·rw [if_pos h1] at h; rw [if_pos h1]
  exact ⟨_,CG (sx:=csC (cdP (cdF 206 (csC (cdP (cdF 186 (csE (cdP AA)) (fun _=>rfl))) (csC (cdP AA) csN)) (fun _=>rfl))) csN) (hn:=fun _=>rfl) (G:=fun a b (v:(AE×AE×Unit)×Unit)=>CE (fun x (v:AE×AE×Unit)=>A9 x v.1 v.2.1) a b v.1) (HE (sx:=csC (cdP (cdF 186 (csE (cdP AA)) (fun _=>rfl))) (csC (cdP AA) csN)) (hn:=fun _=>rfl) (G:=fun x (v:AE×AE×Unit)=>A9 x v.1 v.2.1) HI),Im (a:=(a,b,c,((c,c,()),()),())) h rfl⟩
 rw [if_neg (by rw [h1]; decide)] at h; rw [if_neg (by rw [h1]; decide)]
 rcases BE (c.1==8) with h1 | h1
 ·rw [if_pos h1] at h; rw [if_pos h1]
  exact ⟨_,CG (sx:=csN) (hn:=fun _=>rfl) (G:=fun a b (_:Unit)=>D5 a b) Nq,Im (a:=(a,b,c,(),())) h rfl⟩
 rw [if_neg (by rw [h1]; decide)] at h; rw [if_neg (by rw [h1]; decide)]
 rcases BE (c.1==10) with h1 | h1
 ·rw [if_pos h1] at h; rw [if_pos h1]
  exact ⟨_,CG (sx:=csC (cdP (cdF 208 csN (fun _=>rfl))) (csC (cdP (cdF 190 (csE (cdP AA)) (fun _=>rfl))) csN)) (hn:=fun _=>rfl) (G:=fun a b (v:Unit×AE×Unit)=>Aj a b v.2.1) EH,Im (a:=(a,b,c,((),c,()),())) h rfl⟩
 rw [if_neg (by rw [h1]; decide)] at h; rw [if_neg (by rw [h1]; decide)]
 exact ⟨_,CG (sx:=csC (cdP (cdF 208 csN (fun _=>rfl))) (csC (cdP (cdF 191 csN (fun _=>rfl))) csN)) (hn:=fun _=>rfl) (G:=fun a b (_:Unit×Unit×Unit)=>Ak a b) EI,Im (a:=(a,b,c,((),(),()),())) h rfl⟩
/- trestle/court.first[trestle/court.seated,trestle/court.order] -/
noncomputable def CN:Code:=Bo Tryz.f76
def Ac (x0:(List AE)):Nat->(List UInt8)->(List UInt8)->(List UInt8)->Int->Int->(List UInt8)->Bool->Bool->(List (List UInt8))->Int->(List UInt8)->(List UInt8)->(List UInt8)->Int->Int->(List UInt8)->Bool->Bool->(List (List UInt8))->Int->Int->Option ((Unit) ⊕ (Int×Int))
 | 0,_,_,_,_,_,_,_,_,_,_,_,_,_,_,_,_,_,_,_,_,_=>none
 | f + 1,c1,c2,c3,c4,c5,c6,c7,c8,c9,c10,c11,c12,c13,c14,c15,c16,c17,c18,c19,c20,c21 =>
  if (decide (c21 < (x0.length:Int)))=true then
  (idx x0 c21).bind fun v23 =>
  (Dm ((c1,c2,c3,c4,c5,c6,c7,c8,c9),c10) ((c11,c12,c13,c14,c15,c16,c17,c18,c19),c20) v23).bind fun v24 =>
  if (v24 != 0)=true then
  some (.inr (c21,v24))
  else
  Ac x0 f c1 c2 c3 c4 c5 c6 c7 c8 c9 c10 c11 c12 c13 c14 c15 c16 c17 c18 c19 c20 (wr .i64 (c21 + 1))
  else
  some (.inl ())
def As (x0:(List AE)) (x1:AP) (x2:AP):Option (Int×Int) :=
 (Ac x0 100000 x1.1.1 x1.1.2.1 x1.1.2.2.1 x1.1.2.2.2.1 x1.1.2.2.2.2.1 x1.1.2.2.2.2.2.1 x1.1.2.2.2.2.2.2.1 x1.1.2.2.2.2.2.2.2.1 x1.1.2.2.2.2.2.2.2.2 x1.2 x2.1.1 x2.1.2.1 x2.1.2.2.1 x2.1.2.2.2.1 x2.1.2.2.2.2.1 x2.1.2.2.2.2.2.1 x2.1.2.2.2.2.2.2.1 x2.1.2.2.2.2.2.2.2.1 x2.1.2.2.2.2.2.2.2.2 x2.2 0).bind fun r28 =>
 match r28 with
 | (.inl w29) =>
  some ((-1),0)
 | (.inr w30) =>
  some (w30.1,w30.2)
noncomputable def CR:Cs ((List AE)×AP×AP×Unit):=(csC (cdL 1 By) (csC AD (csC AD csN)))
noncomputable def CT (r:Int×Int):AV:= .tp [cdI.enc r.1,cdI.enc r.2]
theorem Cu (x0:(List AE)):∀ (f:Nat) (c1:(List UInt8)) (c2:(List UInt8)) (c3:(List UInt8)) (c4:Int) (c5:Int) (c6:(List UInt8)) (c7:Bool) (c8:Bool) (c9:(List (List UInt8))) (c10:Int) (c11:(List UInt8)) (c12:(List UInt8)) (c13:(List UInt8)) (c14:Int) (c15:Int) (c16:(List UInt8)) (c17:Bool) (c18:Bool) (c19:(List (List UInt8))) (c20:Int) (c21:Int) (r:(Unit) ⊕ (Int×Int)),Ac x0 f c1 c2 c3 c4 c5 c6 c7 c8 c9 c10 c11 c12 c13 c14 c15 c16 c17 c18 c19 c20 c21=some r->SemN E0 ⟨none,false⟩ (pc CN [1,0,1,0,0]) f ⟨Fr 27 [(4,.pt 0 0 0),(5,.pt 1 0 0),(11,.sl 1 (x0.map By.enc)),(12,.v (.int .i64 (x0.length:Int))),(13,.v (.int .i64 c21))],[some ⟨10,115,[.ag [.st c1,.st c2,.st c3,.v (.int .i64 c4),.v (.int .i64 c5),.st c6,.v (.bool c7),.v (.bool c8),.sl 1 (c9.map cdS.enc),.v (.int .i64 c10)]],false⟩,some ⟨10,115,[.ag [.st c11,.st c12,.st c13,.v (.int .i64 c14),.v (.int .i64 c15),.st c16,.v (.bool c17),.v (.bool c18),.sl 1 (c19.map cdS.enc),.v (.int .i64 c20)]],false⟩]⟩ (fun e s=>match r with
 | (.inl w)=>e=(.exit 0)/\Wk E0 s ⟨Fr 27 [],[]⟩
 | (.inr w)=>e = .ret/\Wk E0 s ⟨Fr 27 [(6,.v (.int .i64 w.1)),(7,.v (.int .i64 w.2))],[]⟩):=by
 intro f;induction f with
 | zero=>intro c1 c2 c3 c4 c5 c6 c7 c8 c9 c10 c11 c12 c13 c14 c15 c16 c17 c18 c19 c20 c21 r h; cases h
 | succ f ih0 =>
  intro c1 c2 c3 c4 c5 c6 c7 c8 c9 c10 c11 c12 c13 c14 c15 c16 c17 c18 c19 c20 c21 r h
  have ih:=fun (c1:(List UInt8)) (c2:(List UInt8)) (c3:(List UInt8)) (c4:Int) (c5:Int) (c6:(List UInt8)) (c7:Bool) (c8:Bool) (c9:(List (List UInt8))) (c10:Int) (c11:(List UInt8)) (c12:(List UInt8)) (c13:(List UInt8)) (c14:Int) (c15:Int) (c16:(List UInt8)) (c17:Bool) (c18:Bool) (c19:(List (List UInt8))) (c20:Int) (c21:Int)=>ih0 c1 c2 c3 c4 c5 c6 c7 c8 c9 c10 c11 c12 c13 c14 c15 c16 c17 c18 c19 c20 c21 r
  unfold Ac at h;refine D3 ?_
  let p1:Option Blk:=some ⟨10,115,[.ag [.st c11,.st c12,.st c13,.v (.int .i64 c14),.v (.int .i64 c15),.st c16,.v (.bool c17),.v (.bool c18),.sl 1 (c19.map cdS.enc),.v (.int .i64 c20)]],false⟩
  let p2:Option Blk:=some ⟨10,115,[.ag [.st c1,.st c2,.st c3,.v (.int .i64 c4),.v (.int .i64 c5),.st c6,.v (.bool c7),.v (.bool c8),.sl 1 (c9.map cdS.enc),.v (.int .i64 c10)]],false⟩
  let p3:Nat×AV:=(13,.v (.int .i64 c21))
  let p4:Nat×AV:=(12,.v (.int .i64 (x0.length:Int)))
  let p5:Nat×AV:=(11,.sl 1 (x0.map By.enc))
  let p6:Nat×AV:=(5,.pt 1 0 0)
  let p7:Nat×AV:=(4,.pt 0 0 0)
  refine AM AC [p7,p6,p5,p4,p3,(14,.v (.bool (decide (c21 < (x0.length:Int)))))] [p2,p1] ?_;refine AH ?_;refine AW (b:=(decide (c21 < (x0.length:Int)))) kr (fun hb22=>?_) (fun hb22=>?_)
  ·rw [if_pos hb22] at h
   refine Ai ?_;refine AH ?_;refine Bh ?_;refine AH ?_;obtain ⟨v23,hv23,h⟩:=OB h
   let p8:Nat×AV:=(8,.v (.int .i64 c21))
   refine AO (s1:=⟨Fr 27 [p7,p6,p8,(9,By.enc v23),p5,p4,p3],[p2,p1]⟩) ?_ ?_
   ·refine AF (n:=27) AC 1 [p7,p6,p5,p4,p3,(15,.v (.int .i64 c21))] [p2,p1] kr ?_
    refine Aq AC 0 rfl (EM (AB rfl) rfl (Ao (a:= .sl 1 (x0.map By.enc)) (b:= .v (.int .i64 c21)) kr kr (Iw (e:=By.enc) (el:=117) (k:=1) (ki:= .i64) kr kr hv23))) ?_;exact A5 AC
   refine AH ?_;obtain ⟨v24,hv24,h⟩:=OB h;refine AO (s1:=⟨Fr 27 [p7,p6,p8,(10,.v (.int .i64 v24)),p5,p4,p3],[p2,p1]⟩) ?_ ?_
   ·refine AF (n:=27) AC 3 [p7,p6,p8,p5,p4,p3,(18,By.enc v23),(19,.ag [.st c1,.st c2,.st c3,.v (.int .i64 c4),.v (.int .i64 c5),.st c6,.v (.bool c7),.v (.bool c8),.sl 1 (c9.map cdS.enc),.v (.int .i64 c10)]),(20,.ag [.st c11,.st c12,.st c13,.v (.int .i64 c14),.v (.int .i64 c15),.st c16,.v (.bool c17),.v (.bool c18),.sl 1 (c19.map cdS.enc),.v (.int .i64 c20)])] [p2,p1] kr ?_
    refine Ay (caps:=[.pe (AA.enc v23) 0,.pe (K7 v23) 0]) (xs:=[.ag [.st c1,.st c2,.st c3,.v (.int .i64 c4),.v (.int .i64 c5),.st c6,.v (.bool c7),.v (.bool c8),.sl 1 (c9.map cdS.enc),.v (.int .i64 c10)],.ag [.st c11,.st c12,.st c13,.v (.int .i64 c14),.v (.int .i64 c15),.st c16,.v (.bool c17),.v (.bool c18),.sl 1 (c19.map cdS.enc),.v (.int .i64 c20)]]) (u:=(((c1,c2,c3,c4,c5,c6,c7,c8,c9),c10),((c11,c12,c13,c14,c15,c16,c17,c18,c19),c20),v23)) rfl rfl L8 rfl (AB rfl) kr kr (Ab (A3 (c:=AD) (v:=((c1,c2,c3,c4,c5,c6,c7,c8,c9),c10))) (Ab (A3 (c:=AD) (v:=((c11,c12,c13,c14,c15,c16,c17,c18,c19),c20))) (Og (n:=10) (s:=Ph) (a:=v23)))) (.inl kr) hv24 ?_;exact A5 AC
   refine AM AC [p7,p6,p8,(10,.v (.int .i64 v24)),p5,p4,p3,(23,.v (.bool (v24 != 0)))] [p2,p1] ?_;refine AW (b:=(v24 != 0)) kr (fun hb25=>?_) (fun hb25=>?_)
   ·rw [if_pos hb25] at h
    refine AH ?_;refine AO (s1:=⟨Fr 27 [(6,.v (.int .i64 c21)),(7,.v (.int .i64 v24))],[]⟩) ?_ ?_
    ·refine AF (n:=27) AC 4 [(6,.v (.int .i64 c21)),(7,.v (.int .i64 v24))] [p2,p1] kr ?_
     exact AL rfl (Au [] trivial ⟨lv,lv,trivial⟩)
    refine AX ?_;have hq:=OI h; subst hq;exact ⟨rfl,AT⟩
   ·rw [Cr hb25] at h
    refine Ai ?_
    let p9:Nat×AV:=(13,.v (.int .i64 (wr .i64 (c21 + 1))))
    refine Eq AC [p7,p6,p5,p4,p9] [p2,p1] ?_;exact CF (s1:=⟨Fr 27 [p7,p6,p5,p4,p9],[p2,p1]⟩) (Au [0,1] ⟨⟨_,rfl,Cw⟩,⟨_,rfl,Cw⟩,trivial⟩ ⟨lv,lv,lv,lv,lv,trivial⟩) (ih c1 c2 c3 c4 c5 c6 c7 c8 c9 c10 c11 c12 c13 c14 c15 c16 c17 c18 c19 c20 (wr .i64 (c21 + 1)) h)
  ·rw [Cr hb22] at h
   refine FD ?_;have hq:=OI h; subst hq;exact ⟨rfl,(Au [] trivial trivial)⟩
theorem FG (x0:(List AE)) (x1:AP) (x2:AP) (r:Int×Int) (h:As x0 x1 x2=some r):Sem E0 ⟨none,false⟩ CN ⟨Fr 27 (BS 0 (CR.enc (x0,x1,x2,()))),[]⟩ fun e s'=>(e = .normal\/e = .ret)/\∃ xs,Eo E0.P s'.fr s'.hp Tryz.f76.results.toList=some xs/\Er xs=CT r:=by
 unfold As at h;refine BJ (CD (s1:=⟨Fr 27 [(0,.sl 1 (x0.map By.enc)),(1,AD.enc x1),(2,AD.enc x2)],[]⟩) AT ?_)
 let p1:Option Blk:=some ⟨10,115,[AD.enc x2],false⟩
 let p2:Option Blk:=some ⟨10,115,[AD.enc x1],false⟩
 let p3:Nat×AV:=(5,.pt 1 0 0)
 let p4:Nat×AV:=(4,.pt 0 0 0)
 refine AM AC [(0,.sl 1 (x0.map By.enc)),p4,p3] [p2,p1] ?_;refine AH ?_;refine AH ?_
 let p5:Nat×AV:=(13,.v (.int .i64 0))
 let p6:Nat×AV:=(12,.v (.int .i64 (x0.length:Int)))
 let p7:Nat×AV:=(11,.sl 1 (x0.map By.enc))
 refine AO (s1:=⟨Fr 27 [p4,p3,p7,p6,p5],[p2,p1]⟩) ?_ ?_
 ·refine AF (n:=27) AC 1 [p4,p3,p7] [p2,p1] kr ?_
  refine Aq AC 0 rfl (EM (AB rfl) rfl (FU (a:= .sl 1 (x0.map By.enc)) kr (Dq (el:=117) kr))) ?_;exact A5 AC
 refine Bh ?_;obtain ⟨r28,hr28,h⟩:=OB h;refine FE (n:=100000) ?_;rcases r28 with w29 | w30
 ·try dsimp only at h
  refine Cn (CF (s1:=⟨Fr 27 [p4,p3,p7,p6,p5],[p2,p1]⟩) (Au [0,1] ⟨⟨_,rfl,Cw⟩,⟨_,rfl,Cw⟩,trivial⟩ ⟨lv,lv,lv,lv,lv,trivial⟩) (Cu x0 _ x1.1.1 x1.1.2.1 x1.1.2.2.1 x1.1.2.2.2.1 x1.1.2.2.2.2.1 x1.1.2.2.2.2.2.1 x1.1.2.2.2.2.2.2.1 x1.1.2.2.2.2.2.2.2.1 x1.1.2.2.2.2.2.2.2.2 x1.2 x2.1.1 x2.1.2.1 x2.1.2.2.1 x2.1.2.2.2.1 x2.1.2.2.2.2.1 x2.1.2.2.2.2.2.1 x2.1.2.2.2.2.2.2.1 x2.1.2.2.2.2.2.2.2.1 x2.1.2.2.2.2.2.2.2.2 x2.2 0 _ hr28)) ?_;refine AM AC [(6,.v (.int .i64 (-1))),(7,.v (.int .i64 0))] [] ?_;refine AX ?_;have hq:=OI h; subst hq;exact ⟨⟨Fr 27 [(6,.v (.int .i64 (-1))),(7,.v (.int .i64 0))],[]⟩,AT,.inr rfl,[.v (.int .i64 (-1)),.v (.int .i64 0)],kr,kr⟩
 ·try dsimp only at h
  refine Cn (CF (s1:=⟨Fr 27 [p4,p3,p7,p6,p5],[p2,p1]⟩) (Au [0,1] ⟨⟨_,rfl,Cw⟩,⟨_,rfl,Cw⟩,trivial⟩ ⟨lv,lv,lv,lv,lv,trivial⟩) (Cu x0 _ x1.1.1 x1.1.2.1 x1.1.2.2.1 x1.1.2.2.2.1 x1.1.2.2.2.2.1 x1.1.2.2.2.2.2.1 x1.1.2.2.2.2.2.2.1 x1.1.2.2.2.2.2.2.2.1 x1.1.2.2.2.2.2.2.2.2 x1.2 x2.1.1 x2.1.2.1 x2.1.2.2.1 x2.1.2.2.2.1 x2.1.2.2.2.2.1 x2.1.2.2.2.2.2.1 x2.1.2.2.2.2.2.2.1 x2.1.2.2.2.2.2.2.2.1 x2.1.2.2.2.2.2.2.2.2 x2.2 0 _ hr28)) ?_;have hq:=OI h; subst hq;exact ⟨⟨Fr 27 [(6,.v (.int .i64 w30.1)),(7,.v (.int .i64 w30.2))],[]⟩,AT,.inr rfl,[.v (.int .i64 w30.1),.v (.int .i64 w30.2)],kr,kr⟩
noncomputable def Fb:List AV->Option AV:=EN CR (fun a=>As a.1 a.2.1 a.2.2.1) CT
theorem Fc:XOk 76 Fb:=by
 refine AZ Tryz.func76 (c:=CN) ?h2 ⟨Tryz.call76⟩ CR (fun a=>As a.1 a.2.1 a.2.2.1) CT (fun a=>(by show 3<=27; decide)) ?h3 ?h4
 case h2=>kernel_rfl
 case h3=>intro b; kernel_rfl
 case h4=>exact fun a b h=>FG a.1 a.2.1 a.2.2.1 b h
/- trestle/court.groups$1 -/
noncomputable def Ip:Code:=Bo Tryz.f134
def Co (x0:AP) (x1:AP) (x2:(List AE)):Option (Int) :=
 (As x2 x0 x1).bind fun v1 =>
 some v1.2
noncomputable def Gq:Cs (AP×AP×(List AE)×Unit):=(csC AD (csC AD (csC (cdP (cdL 1 By)) csN)))
noncomputable def Gs (r:Int):AV:=cdI.enc r
theorem Ky (x0:AP) (x1:AP) (x2:(List AE)) (r:Int) (h:Co x0 x1 x2=some r):Sem E0 ⟨none,false⟩ Ip ⟨Fr 16 (BS 0 (Gq.enc (x0,x1,x2,()))),[]⟩ fun e s'=>(e = .normal\/e = .ret)/\∃ xs,Eo E0.P s'.fr s'.hp Tryz.f134.results.toList=some xs/\Er xs=Gs r:=by
 unfold Co at h
 let p1:Nat×AV:=(2,.pe (.sl 1 (x2.map By.enc)) 0)
 refine BJ (CD (s1:=⟨Fr 16 [(0,AD.enc x0),(1,AD.enc x1),p1],[]⟩) AT ?_)
 let p2:Option Blk:=some ⟨10,115,[AD.enc x1],false⟩
 let p3:Option Blk:=some ⟨10,115,[AD.enc x0],false⟩
 refine AM AC [p1,(3,.pt 0 0 0),(4,.pt 1 0 0)] [p3,p2] ?_;refine AH ?_;obtain ⟨v1,hv1,h⟩:=OB h;refine AO (s1:=⟨Fr 16 [(7,.v (.int .i64 v1.2))],[]⟩) ?_ ?_
 ·refine AF (n:=16) AC 3 [(9,.sl 1 (x2.map By.enc)),(10,AD.enc x0),(11,AD.enc x1)] [p3,p2] kr ?_
  refine Ay (caps:=[]) (xs:=[.sl 1 (x2.map By.enc),AD.enc x0,AD.enc x1]) (u:=(x2,x0,x1,())) rfl rfl Fc rfl (AB rfl) kr kr (Ab (A3 (c:=(cdL 1 By)) (v:=x2)) (Ab (A3 (c:=AD) (v:=x0)) (Ab (A3 (c:=AD) (v:=x1)) B6))) (.inl kr) hv1 ?_;refine AF (n:=16) AC 5 [(7,.v (.int .i64 v1.2))] [p3,p2] kr ?_;exact AL rfl (Au [] trivial ⟨lv,trivial⟩)
 refine AM AC [(5,.v (.int .i64 v1.2))] [] ?_;refine AX ?_;have hq:=OI h; subst hq;exact ⟨⟨Fr 16 [(5,.v (.int .i64 v1.2))],[]⟩,AT,.inr rfl,[.v (.int .i64 v1.2)],kr,kr⟩
noncomputable def MV:List AV->Option AV:=EN Gq (fun a=>Co a.1 a.2.1 a.2.2.1) Gs
theorem JX:XOk 134 MV:=by
 refine AZ Tryz.func134 (c:=Ip) ?h2 ⟨Tryz.call134⟩ Gq (fun a=>Co a.1 a.2.1 a.2.2.1) Gs (fun a=>(by show 3<=16; decide)) ?h3 ?h4
 case h2=>kernel_rfl
 case h3=>intro b; kernel_rfl
 case h4=>exact fun a b h=>Ky a.1 a.2.1 a.2.2.1 b h
/- slices.insertionSortCmpFunc[trestle/court.seated] -/
noncomputable def A7:Code:=Bo Tryz.f192
def Al (x1:Int) (x3:(List AE)):Nat->Int->(List AP)->Option (((List AP)))
 | 0,_,_=>none
 | f + 1,c4,c5 =>
  (if (decide (c4 > x1))=true then (idx c5 c4).bind fun v6 =>
  (idx c5 (wr .i64 (c4 - 1))).bind fun v7 =>
  (Co v6 v7 x3).bind fun v8 =>
  some (decide (v8 < 0)) else some false).bind fun j9 =>
  if j9=true then
  (idx c5 (wr .i64 (c4 - 1))).bind fun v19 =>
  (idx c5 c4).bind fun v20 =>
  (idx c5 c4).bind fun v21 =>
  (idx (c5.set c4.toNat v19) (wr .i64 (c4 - 1))).bind fun v25 =>
  Al x1 x3 f (wr .i64 (c4 - 1)) ((c5.set c4.toNat v19).set ((wr .i64 (c4 - 1)).toNat) v20)
  else
  some c5
def AK (x1:Int) (x2:Int) (x3:(List AE)):Nat->Int->(List AP)->Option (((List AP)))
 | 0,_,_=>none
 | f + 1,c1,c2 =>
  if (decide (c1 < x2))=true then
  (Al x1 x3 100000 c1 c2).bind fun r31 =>
  AK x1 x2 x3 f (wr .i64 (c1 + 1)) r31
  else
  some c2
def Ad (x0:(List AP)) (x1:Int) (x2:Int) (x3:(List AE)):Option ((List AP)×(List AE)) :=
 (AK x1 x2 x3 100000 (wr .i64 (x1 + 1)) x0).bind fun r35 =>
 some (r35,x3)
theorem EA {L:List Asn}(x1:Int) (x3:(List AE)) (u0:AV) (x2:Int) (u1:AV) (c1:Int):∀ (f:Nat) (c4:Int) (c5:(List AP)) (r:((List AP))),Al x1 x3 f c4 c5=some r->∀ (hp:Hp),T hp ((own_ (ocL 10 115 (ocV AD)) u0 c5)::(cel u1 1 110 (.sl 1 (x3.map By.enc)))::L)->SemYN E0 ⟨none,false⟩ (pc A7 [1,0,0,1,0,0,1,0,0]) f ⟨Fr 53 [(0,u0),(1,.v (.int .i64 x1)),(2,.v (.int .i64 x2)),(3,.fn 134 [] [u1]),(8,.v (.int .i64 c1)),(9,.v (.int .i64 c4))],hp⟩ (fun e s=>e=(.exit 2)/\∃ s2,(∃ (h':Hp),T h' ((own_ (ocL 10 115 (ocV AD)) u0 r)::(cel u1 1 110 (.sl 1 (x3.map By.enc)))::L)/\s2=⟨Fr 53 [(0,u0),(1,.v (.int .i64 x1)),(2,.v (.int .i64 x2)),(3,.fn 134 [] [u1]),(8,.v (.int .i64 c1))],h'⟩)/\WkY E0 s s2):=by
 intro f;induction f with
 | zero=>intro c4 c5 r h; cases h
 | succ f ih0 =>
  intro c4 c5 r h  hp hT;unfold Al at h;refine Es ?_;refine An ?_;refine An ?_;obtain ⟨j9,hj9,h⟩:=OB h;refine OC 17 (A:=fun s1=>∃ (h':Hp),T h' ((own_ (ocL 10 115 (ocV AD)) u0 c5)::(cel u1 1 110 (.sl 1 (x3.map By.enc)))::L)/\s1=⟨Fr 53 [(0,u0),(1,.v (.int .i64 x1)),(2,.v (.int .i64 x2)),(3,.fn 134 [] [u1]),(8,.v (.int .i64 c1)),(9,.v (.int .i64 c4)),(34,.v (.bool j9))],h'⟩) AC.mixed kr kr ?_ ?_
  ·refine RunDT.q (x:= .v (.int .i64 c4)) rfl kr rfl (AB rfl) rfl kr kr ?_
   refine RunDT.q (x:= .v (.int .i64 x1)) rfl kr rfl (AB rfl) rfl kr kr ?_;refine RunDT.q (x:= .v (.bool (decide (c4 > x1)))) rfl kr rfl (AB rfl) rfl kr kr ?_;refine RunDT.q (x:= .v (.bool (decide (c4 > x1)))) rfl kr rfl (AB rfl) rfl kr kr ?_;rcases BE (decide (c4 > x1)) with hc30 | hc30
   ·rw [if_pos hc30] at hj9
    rw [hc30];refine RunDT.q (x:= .fn 134 [] [u1]) rfl kr rfl kr rfl kr kr ?_;refine RunDT.q (x:=u0) rfl kr rfl kr rfl kr kr ?_;refine RunDT.q (x:= .v (.int .i64 c4)) rfl kr rfl kr rfl kr kr ?_;obtain ⟨v6,hv6,hj9⟩:=OB hj9;refine RunDT.q (x:=eAt u0 c4.toNat) rfl kr rfl kr rfl (Ao (a:=u0) (b:= .v (.int .i64 c4)) kr kr (QM (bytes:=120) hT kr hv6)) kr ?_;refine RunDT.q (x:=(AD.enc v6)) rfl kr rfl kr rfl (Hl (p:=eAt u0 c4.toNat) kr (JC (y:=(AD.enc v6)) (m:=10) (g:=true) hT (EV hv6).2 kr kr kr)) (G6 hT (EV hv6).2 kr) ?_;refine RunDT.q (x:=u0) rfl kr rfl kr rfl kr kr ?_;refine RunDT.q (x:= .v (.int .i64 c4)) rfl kr rfl kr rfl kr kr ?_;refine RunDT.q (x:= .v (.int .i64 (wr .i64 (c4 - 1)))) rfl kr rfl kr rfl kr kr ?_;obtain ⟨v7,hv7,hj9⟩:=OB hj9;refine RunDT.q (x:=eAt u0 ((wr .i64 (c4 - 1)).toNat)) rfl kr rfl kr rfl (Ao (a:=u0) (b:= .v (.int .i64 (wr .i64 (c4 - 1)))) kr kr (QM (bytes:=120) hT kr hv7)) kr ?_;refine RunDT.q (x:=(AD.enc v7)) rfl kr rfl kr rfl (Hl (p:=eAt u0 ((wr .i64 (c4 - 1)).toNat)) kr (JC (y:=(AD.enc v7)) (m:=10) (g:=true) hT (EV hv7).2 kr kr kr)) (G6 hT (EV hv7).2 kr) ?_;obtain ⟨v8,hv8,hj9⟩:=OB hj9;refine Mp (v:=v8) (caps:=[u1]) (xs:=[AD.enc v6,AD.enc v7]) (u:=(v6,v7,x3,())) rfl rfl JX rfl kr kr kr (CZ (Ee (c:=AD) (v:=v6)) (CZ (Ee (c:=AD) (v:=v7)) (CZ (SeeD.cel (c:=(cdL 1 By)) (v:=x3) hT (i:=1) rfl) SeesD.nil))) kr hv8 ?_;refine RunDT.q (x:= .v (.bool (decide (v8 < 0)))) rfl kr rfl kr rfl kr kr ?_;refine RunDT.q (x:= .v (.bool (decide (v8 < 0)))) rfl kr rfl (AB rfl) rfl kr kr ?_;have hq:=OI hj9; subst hq;exact RunDT.done rfl ⟨_,⟨hp,hT,rfl⟩,WkY.f1⟩
   ·rw [Cr hc30] at hj9
    rw [hc30];refine RunDT.skip rfl kr rfl ?_;refine RunDT.skip rfl kr rfl ?_;refine RunDT.skip rfl kr rfl ?_;refine RunDT.skip rfl kr rfl ?_;refine RunDT.skip rfl kr rfl ?_;refine RunDT.skip rfl kr rfl ?_;refine RunDT.skip rfl kr rfl ?_;refine RunDT.skip rfl kr rfl ?_;refine RunDT.skip rfl kr rfl ?_;refine RunDT.skip rfl kr rfl ?_;refine RunDT.skip rfl kr rfl ?_;refine RunDT.skip rfl kr rfl ?_;refine RunDT.q (x:= .v (.bool false)) rfl kr rfl (AB rfl) rfl kr kr ?_;have hq:=OI hj9; subst hq;exact RunDT.done rfl ⟨_,⟨hp,hT,rfl⟩,WkY.f1⟩
  rintro _ ⟨hp16,hT17,rfl⟩;refine DL (b:=j9) kr (fun hb18=>?_) (fun hb18=>?_)
  ·rw [if_pos hb18] at h
   refine SemY.skip ?_;refine An ?_;refine CK ?_;refine Hs 15 AC.mixed kr kr ?_;refine RunDT.q (x:=u0) rfl kr rfl (AB rfl) rfl kr kr ?_;refine RunDT.q (x:= .v (.int .i64 c4)) rfl kr rfl (AB rfl) rfl kr kr ?_;refine RunDT.q (x:=u0) rfl kr rfl (AB rfl) rfl kr kr ?_;refine RunDT.q (x:= .v (.int .i64 c4)) rfl kr rfl (AB rfl) rfl kr kr ?_;refine RunDT.q (x:= .v (.int .i64 (wr .i64 (c4 - 1)))) rfl kr rfl (AB rfl) rfl kr kr ?_;refine RunDT.q (x:=u0) rfl kr rfl (AB rfl) rfl kr kr ?_;refine RunDT.q (x:= .v (.int .i64 c4)) rfl kr rfl (AB rfl) rfl kr kr ?_;refine RunDT.q (x:= .v (.int .i64 (wr .i64 (c4 - 1)))) rfl kr rfl (AB rfl) rfl kr kr ?_;obtain ⟨v19,hv19,h⟩:=OB h;refine RunDT.q (x:=eAt u0 ((wr .i64 (c4 - 1)).toNat)) rfl kr rfl (AB rfl) rfl (Ao (a:=u0) (b:= .v (.int .i64 (wr .i64 (c4 - 1)))) kr kr (QM (bytes:=120) hT17 kr hv19)) kr ?_;refine RunDT.q (x:=(AD.enc v19)) rfl kr rfl (AB rfl) rfl (Hl (p:=eAt u0 ((wr .i64 (c4 - 1)).toNat)) kr (JC (y:=(AD.enc v19)) (m:=10) (g:=true) hT17 (EV hv19).2 kr kr kr)) (G6 hT17 (EV hv19).2 kr) ?_;refine RunDT.q (x:=u0) rfl kr rfl (AB rfl) rfl kr kr ?_;refine RunDT.q (x:= .v (.int .i64 c4)) rfl kr rfl (AB rfl) rfl kr kr ?_;obtain ⟨v20,hv20,h⟩:=OB h;refine RunDT.q (x:=eAt u0 c4.toNat) rfl kr rfl (AB rfl) rfl (Ao (a:=u0) (b:= .v (.int .i64 c4)) kr kr (QM (bytes:=120) hT17 kr hv20)) kr ?_;refine RunDT.q (x:=(AD.enc v20)) rfl kr rfl (AB rfl) rfl (Hl (p:=eAt u0 c4.toNat) kr (JC (y:=(AD.enc v20)) (m:=10) (g:=true) hT17 (EV hv20).2 kr kr kr)) (G6 hT17 (EV hv20).2 kr) ?_;obtain ⟨v21,hv21,h⟩:=OB h;refine RunDT.q (x:=eAt u0 c4.toNat) rfl kr rfl (AB rfl) rfl (Ao (a:=u0) (b:= .v (.int .i64 c4)) kr kr (QM (bytes:=120) hT17 kr hv21)) kr ?_;refine LO rfl ?_;obtain ⟨hp22,hs23,hT24⟩:=Lz (P:=Tryz.prog) (ty:=115) (y:=(AD.enc v19)) (v':=v19) hT17 (EV hv21).2 kr kr kr;refine RunL.store AC (y:=eAt u0 c4.toNat) (z:=(AD.enc v19)) rfl (AB rfl) kr kr hs23 ?_;obtain ⟨v25,hv25,h⟩:=OB h;refine BF AC 0 rfl (EM (AB rfl) rfl (Ao (a:=u0) (b:= .v (.int .i64 (wr .i64 (c4 - 1)))) kr kr (QM (bytes:=120) hT24 kr hv25))) ?_
   obtain ⟨hp26,hs27,hT28⟩:=Lz (P:=Tryz.prog) (ty:=115) (y:=(AD.enc v20)) (v':=v20) hT24 (EV hv25).2 kr kr kr;refine RunL.store AC (y:=eAt u0 ((wr .i64 (c4 - 1)).toNat)) (z:=(AD.enc v20)) rfl (AB rfl) kr kr hs27 ?_;refine Bj rfl (SemY.fr (l':=[(0,u0),(1,.v (.int .i64 x1)),(2,.v (.int .i64 x2)),(3,.fn 134 [] [u1]),(8,.v (.int .i64 c1)),(9,.v (.int .i64 c4))]) kr ?_);refine AS ?_;refine BI AC 3 ?_;refine Bj rfl ?_;exact DS WkY.f1 (ih0 (wr .i64 (c4 - 1)) ((c5.set c4.toNat v19).set ((wr .i64 (c4 - 1)).toNat) v20) _ h  hp26 hT28)
  ·rw [Cr hb18] at h
   refine SemY.exit ?_;have hq:=OI h; subst hq;exact ⟨rfl,_,⟨hp16,hT17,rfl⟩,WkY.f1⟩
theorem D9 {L:List Asn}(x1:Int) (x2:Int) (x3:(List AE)) (u0:AV) (u1:AV):∀ (f:Nat) (c1:Int) (c2:(List AP)) (r:((List AP))),AK x1 x2 x3 f c1 c2=some r->∀ (hp:Hp),T hp ((own_ (ocL 10 115 (ocV AD)) u0 c2)::(cel u1 1 110 (.sl 1 (x3.map By.enc)))::L)->SemYN E0 ⟨none,false⟩ (pc A7 [1,0,0]) f ⟨Fr 53 [(0,u0),(1,.v (.int .i64 x1)),(2,.v (.int .i64 x2)),(3,.fn 134 [] [u1]),(8,.v (.int .i64 c1))],hp⟩ (fun e s=>e=(.exit 0)/\∃ s2,(∃ (h':Hp),T h' ((own_ (ocL 10 115 (ocV AD)) u0 r)::(cel u1 1 110 (.sl 1 (x3.map By.enc)))::L)/\s2=⟨Fr 53 [],h'⟩)/\WkY E0 s s2):=by
 intro f;induction f with
 | zero=>intro c1 c2 r h; cases h
 | succ f ih0 =>
  intro c1 c2 r h  hp hT;unfold AK at h;refine Es ?_;refine An ?_;refine Cv AC [(0,u0),(1,.v (.int .i64 x1)),(2,.v (.int .i64 x2)),(3,.fn 134 [] [u1]),(8,.v (.int .i64 c1)),(14,.v (.bool (decide (c1 < x2))))] ?_;refine DL (b:=(decide (c1 < x2))) kr (fun hb3=>?_) (fun hb3=>?_)
  ·rw [if_pos hb3] at h
   refine SemY.skip ?_;refine An ?_;refine CK ?_;refine Cv AC [(0,u0),(1,.v (.int .i64 x1)),(2,.v (.int .i64 x2)),(3,.fn 134 [] [u1]),(8,.v (.int .i64 c1)),(9,.v (.int .i64 c1))] ?_;refine CK ?_;refine SemY.loop (n:=100000) ?_;obtain ⟨r31,hr31,h⟩:=OB h;refine EP (DS WkY.f1 (EA x1 x3 u0 x2 u1 c1 _ c1 c2 _ hr31  hp hT)) ?_;rintro _ ⟨hp32,hT33,rfl⟩;refine AS ?_;refine BI AC 3 ?_;refine Bj rfl ?_;exact DS WkY.f1 (ih0 (wr .i64 (c1 + 1)) r31 _ h  hp32 hT33)
  ·rw [Cr hb3] at h
   refine SemY.exit ?_;have hq:=OI h; subst hq;exact ⟨rfl,_,⟨hp,hT,rfl⟩,WkY.f1⟩
theorem Cm {L:List Asn}{hp:Hp}(u0:AV) (x0:(List AP)) (x1:Int) (x2:Int) (u1:AV) (x3:(List AE)) (r:(List AP)×(List AE)) (h:Ad x0 x1 x2 x3=some r) (hT:T hp ((own_ (ocL 10 115 (ocV AD)) u0 x0)::(cel u1 1 110 (.sl 1 (x3.map By.enc)))::L)):SemY E0 ⟨none,false⟩ A7 ⟨Fr 53 (BS 0 [u0,.v (.int .i64 x1),.v (.int .i64 x2),.fn 134 [] [u1]]),hp⟩ fun x s'=>(x = .normal\/x = .ret)/\∃ ys,Eo E0.P s'.fr s'.hp Tryz.f192.results.toList=some ys/\(fun v h'=>v = .tp []/\T h' ((own_ (ocL 10 115 (ocV AD)) u0 r.1)::(cel u1 1 110 (.sl 1 (r.2.map By.enc)))::L)) (Er ys) s'.hp:=by
 unfold Ad at h;refine Iz (Jm (s1:=⟨Fr 53 [(0,u0),(1,.v (.int .i64 x1)),(2,.v (.int .i64 x2)),(3,.fn 134 [] [u1])],hp⟩) WkY.f1 ?_);refine Cv AC [(0,u0),(1,.v (.int .i64 x1)),(2,.v (.int .i64 x2)),(3,.fn 134 [] [u1]),(8,.v (.int .i64 (wr .i64 (x1 + 1))))] ?_;refine CK ?_;refine SemY.loop (n:=100000) ?_;obtain ⟨r35,hr35,h⟩:=OB h;refine EP (DS WkY.f1 (D9 x1 x2 x3 u0 u1 _ (wr .i64 (x1 + 1)) x0 _ hr35  hp hT)) ?_;rintro _ ⟨hp36,hT37,rfl⟩;have hq:=OI h; subst hq;exact ⟨⟨Fr 53 [],hp36⟩,WkY.f1,.inl rfl,[],kr,⟨rfl,hT37⟩⟩
/- slices.stableCmpFunc[trestle/court.seated] -/
noncomputable def B5:Code:=Bo Tryz.f166
def Af (x1:Int):Nat->Int->Int->(List AP)->(List AE)->Option ((Int×(List AP)×(List AE)))
 | 0,_,_,_,_=>none
 | f + 1,c1,c2,c3,c4 =>
  if (decide (c2<=x1))=true then
  (Ad c3 c1 c2 c4).bind fun v6 =>
  Af x1 f c2 (wr .i64 (c2 + 20)) v6.1 v6.2
  else
  some (c1,c3,c4)
def BT (x1:Int):Nat->Option ((Unit))
 | 0=>none
 | f + 1 =>
  if (decide ((20:Int) < x1))=true then
  none
  else
  some ()
def Bd (x0:(List AP)) (x1:Int) (x2:(List AE)):Option ((List AP)×(List AE)) :=
 (Af x1 100000 0 20 x0 x2).bind fun r12 =>
 (Ad r12.2.1 r12.1 x1 r12.2.2).bind fun v15 =>
 (BT x1 100000 ).bind fun r19 =>
 some (v15.1,v15.2)
theorem FB {L:List Asn}(x1:Int) (u0:AV) (u1:AV):∀ (f:Nat) (c1:Int) (c2:Int) (c3:(List AP)) (c4:(List AE)) (r:(Int×(List AP)×(List AE))),Af x1 f c1 c2 c3 c4=some r->∀ (hp:Hp),T hp ((own_ (ocL 10 115 (ocV AD)) u0 c3)::(cel u1 1 110 (.sl 1 (c4.map By.enc)))::L)->SemYN E0 ⟨none,false⟩ (pc B5 [1,1,0,0,0]) f ⟨Fr 63 [(0,u0),(1,.v (.int .i64 x1)),(2,.fn 134 [] [u1]),(6,.v (.int .i64 20)),(7,.v (.int .i64 c1)),(8,.v (.int .i64 c2))],hp⟩ (fun e s=>e=(.exit 0)/\∃ s2,(∃ (h':Hp),T h' ((own_ (ocL 10 115 (ocV AD)) u0 r.2.1)::(cel u1 1 110 (.sl 1 (r.2.2.map By.enc)))::L)/\s2=⟨Fr 63 [(0,u0),(1,.v (.int .i64 x1)),(2,.fn 134 [] [u1]),(6,.v (.int .i64 20)),(7,.v (.int .i64 r.1))],h'⟩)/\WkY E0 s s2):=by
 intro f;induction f with
 | zero=>intro c1 c2 c3 c4 r h; cases h
 | succ f ih0 =>
  intro c1 c2 c3 c4 r h  hp hT;unfold Af at h;refine Es ?_;refine An ?_
  let p1:Nat×AV:=(8,.v (.int .i64 c2))
  let p2:Nat×AV:=(6,.v (.int .i64 20))
  let p3:Nat×AV:=(2,.fn 134 [] [u1])
  let p4:Nat×AV:=(1,.v (.int .i64 x1))
  refine Cv AC [(0,u0),p4,p3,p2,(7,.v (.int .i64 c1)),p1,(13,.v (.bool (decide (c2<=x1))))] ?_;refine DL (b:=(decide (c2<=x1))) kr (fun hb5=>?_) (fun hb5=>?_)
  ·rw [if_pos hb5] at h
   refine SemY.skip ?_;refine CK ?_;refine An ?_;refine AS ?_;refine BI AC 4 ?_;obtain ⟨v6,hv6,h⟩:=OB h;refine Jl (E:=E0) (e:=E0) rfl rfl AC rfl rfl (fid:=192) (caps:=[]) (xs:=[u0,.v (.int .i64 c1),.v (.int .i64 c2),.fn 134 [] [u1]]) (fn:=Tryz.f192) (c:=A7) (Out:=fun v h'=>v = .tp []/\T h' ((own_ (ocL 10 115 (ocV AD)) u0 v6.1)::(cel u1 1 110 (.sl 1 (v6.2.map By.enc)))::L)) rfl (AB rfl) kr kr kr kr (by show 4<=53; decide) (Cm u0 c3 c1 c2 u1 c4 _ hv6 hT) ?_;rintro xx hp7 ⟨hqhp7,hT8⟩; subst xx;refine Bj rfl (SemY.fr (l':=[(0,u0),p4,p3,p2,p1]) kr ?_);refine Cv AC [(0,u0),p4,p3,p2,(7,.v (.int .i64 c2)),p1] ?_;refine AS ?_;refine BI AC 4 ?_;refine Bj rfl ?_;exact DS WkY.f1 (ih0 c2 (wr .i64 (c2 + 20)) v6.1 v6.2 _ h  hp7 hT8)
  ·rw [Cr hb5] at h
   refine SemY.exit ?_;have hq:=OI h; subst hq;exact ⟨rfl,_,⟨hp,hT,rfl⟩,WkY.f1⟩
theorem FC {L:List Asn}(x1:Int) (u0:AV) (u1:AV) (v15:(List AP)×(List AE)):∀ (f:Nat)  (r:(Unit)),BT x1 f  = some r->∀ (hp:Hp),T hp ((own_ (ocL 10 115 (ocV AD)) u0 v15.1)::(cel u1 1 110 (.sl 1 (v15.2.map By.enc)))::L)->SemYN E0 ⟨none,false⟩ (pc B5 [1,1,1,1,0,0]) f ⟨Fr 63 [(1,.v (.int .i64 x1)),(6,.v (.int .i64 20))],hp⟩ (fun e s=>e=(.exit 2)/\∃ s2,(∃ (h':Hp),T h' ((own_ (ocL 10 115 (ocV AD)) u0 v15.1)::(cel u1 1 110 (.sl 1 (v15.2.map By.enc)))::L)/\s2=⟨Fr 63 [],h'⟩)/\WkY E0 s s2):=by
 intro f;induction f with
 | zero=>intro  r h; cases h
 | succ f ih0 =>
  intro  r h  hp hT;unfold BT at h;refine Es ?_;refine An ?_;refine Cv AC [(30,.v (.bool (decide ((20:Int) < x1))))] ?_;refine DL (b:=(decide ((20:Int) < x1))) kr (fun hb18=>?_) (fun hb18=>?_)
  ·rw [if_pos hb18] at h
   refine SemY.skip ?_;refine CK ?_;cases h
  ·rw [Cr hb18] at h
   refine SemY.exit ?_;have hq:=OI h; subst hq;exact ⟨rfl,_,⟨hp,hT,rfl⟩,WkY.f1⟩
theorem FV {L:List Asn}{hp:Hp}(u0:AV) (x0:(List AP)) (x1:Int) (u1:AV) (x2:(List AE)) (r:(List AP)×(List AE)) (h:Bd x0 x1 x2=some r) (hT:T hp ((own_ (ocL 10 115 (ocV AD)) u0 x0)::(cel u1 1 110 (.sl 1 (x2.map By.enc)))::L)):SemY E0 ⟨none,false⟩ B5 ⟨Fr 63 (BS 0 [u0,.v (.int .i64 x1),.fn 134 [] [u1]]),hp⟩ fun x s'=>(x = .normal\/x = .ret)/\∃ ys,Eo E0.P s'.fr s'.hp Tryz.f166.results.toList=some ys/\(fun v h'=>v = .tp []/\T h' ((own_ (ocL 10 115 (ocV AD)) u0 r.1)::(cel u1 1 110 (.sl 1 (r.2.map By.enc)))::L)) (Er ys) s'.hp:=by
 unfold Bd at h
 let p1:Nat×AV:=(2,.fn 134 [] [u1])
 let p2:Nat×AV:=(1,.v (.int .i64 x1))
 refine Iz (Jm (s1:=⟨Fr 63 [(0,u0),p2,p1],hp⟩) WkY.f1 ?_)
 let p3:Nat×AV:=(6,.v (.int .i64 20))
 refine Cv AC [(0,u0),p2,p1,p3] ?_;refine Cv AC [(0,u0),p2,p1,p3,(7,.v (.int .i64 0)),(8,.v (.int .i64 20))] ?_;refine An ?_;refine CK ?_;refine SemY.loop (n:=100000) ?_;obtain ⟨r12,hr12,h⟩:=OB h;refine EP (DS WkY.f1 (FB x1 u0 u1 _ 0 20 x0 x2 _ hr12  hp hT)) ?_;rintro _ ⟨hp13,hT14,rfl⟩;refine An ?_;refine AS ?_;refine BI AC 4 ?_;obtain ⟨v15,hv15,h⟩:=OB h;refine Jl (E:=E0) (e:=E0) rfl rfl AC rfl rfl (fid:=192) (caps:=[]) (xs:=[u0,.v (.int .i64 r12.1),.v (.int .i64 x1),.fn 134 [] [u1]]) (fn:=Tryz.f192) (c:=A7) (Out:=fun v h'=>v = .tp []/\T h' ((own_ (ocL 10 115 (ocV AD)) u0 v15.1)::(cel u1 1 110 (.sl 1 (v15.2.map By.enc)))::L)) rfl (AB rfl) kr kr kr kr (by show 4<=53; decide) (Cm u0 r12.2.1 r12.1 x1 u1 r12.2.2 _ hv15 hT14) ?_;rintro xx hp16 ⟨hqhp16,hT17⟩; subst xx;refine Bj rfl (SemY.fr (l':=[p2,p3]) kr ?_);refine CK ?_;refine SemY.loop (n:=100000) ?_;obtain ⟨r19,hr19,h⟩:=OB h;refine EP (DS WkY.f1 (FC x1 u0 u1 v15 _  _ hr19  hp16 hT17)) ?_;rintro _ ⟨hp20,hT21,rfl⟩;have hq:=OI h; subst hq;exact ⟨⟨Fr 63 [],hp20⟩,WkY.f1,.inl rfl,[],kr,⟨rfl,hT21⟩⟩
/- slices.SortStableFunc[[]trestle/court.seated,trestle/court.seated] -/
noncomputable def CL:Code:=Bo Tryz.f136
def A2 (x0:(List AP)) (x1:(List AE)):Option ((List AP)×(List AE)) :=
 (Bd x0 (x0.length:Int) x1).bind fun v1 =>
 some (v1.1,v1.2)
theorem De {L:List Asn}{hp:Hp}(u0:AV) (x0:(List AP)) (u1:AV) (x1:(List AE)) (r:(List AP)×(List AE)) (h:A2 x0 x1=some r) (hT:T hp ((own_ (ocL 10 115 (ocV AD)) u0 x0)::(cel u1 1 110 (.sl 1 (x1.map By.enc)))::L)):SemY E0 ⟨none,false⟩ CL ⟨Fr 9 (BS 0 [u0,.fn 134 [] [u1]]),hp⟩ fun x s'=>(x = .normal\/x = .ret)/\∃ ys,Eo E0.P s'.fr s'.hp Tryz.f136.results.toList=some ys/\(fun v h'=>v = .tp []/\T h' ((own_ (ocL 10 115 (ocV AD)) u0 r.1)::(cel u1 1 110 (.sl 1 (r.2.map By.enc)))::L)) (Er ys) s'.hp:=by
 unfold A2 at h;refine Iz (Jm (s1:=⟨Fr 9 [(0,u0),(1,.fn 134 [] [u1])],hp⟩) WkY.f1 ?_);refine AS ?_;refine BI AC 2 ?_;refine BF AC 0 rfl (EM (AB rfl) rfl (FU (a:=u0) kr (S4 hT kr))) ?_;refine BI AC 1 ?_;obtain ⟨v1,hv1,h⟩:=OB h;refine Jl (E:=E0) (e:=E0) rfl rfl AC rfl rfl (fid:=166) (caps:=[]) (xs:=[u0,.v (.int .i64 (x0.length:Int)),.fn 134 [] [u1]]) (fn:=Tryz.f166) (c:=B5) (Out:=fun v h'=>v = .tp []/\T h' ((own_ (ocL 10 115 (ocV AD)) u0 v1.1)::(cel u1 1 110 (.sl 1 (v1.2.map By.enc)))::L)) rfl (AB rfl) kr kr kr kr (by show 3<=63; decide) (FV u0 x0 (x0.length:Int) u1 x1 _ hv1 hT) ?_;rintro xx hp2 ⟨hqhp2,hT3⟩; subst xx;refine Bj rfl ?_;have hq:=OI h; subst hq;exact ⟨⟨Fr 9 [],hp2⟩,WkY.f1,.inl rfl,[],kr,⟨rfl,hT3⟩⟩
/- trestle/court.groups -/
noncomputable def F9:Code:=Bo Tryz.f78
def FK (c15:(List (List Int))) (j29:Bool):Option (((List (List Int)))) :=
 if j29=true then
 if (Fe 24 (c15.length + ([([]:(List Int))]:List (List Int)).length))=true then
 some (c15++([([]:(List Int))]:List (List Int)))
 else none
 else
 some c15
def CQ (v9:(List AP)×(List AE)):Nat->Int->(List (List Int))->Option (((List (List Int))))
 | 0,_,_=>none
 | f + 1,c13,c15 =>
  if (decide (c13 < (v9.1.length:Int)))=true then
  (idx v9.1 c13).bind fun v17 =>
  (if (c13==0)=true then some true else (idx v9.1 (wr .i64 (c13 - 1))).bind fun v25 =>
  (Co v25 v17 v9.2).bind fun v28 =>
  some (v28 != 0)).bind fun j29 =>
  (FK c15 j29).bind fun r71 =>
  (idx r71 (wr .i64 ((r71.length:Int) - 1))).bind fun v76 =>
  if (Fe 8 (v76.length + ([v17.2]:List Int).length))=true then
  (idx r71 (wr .i64 ((r71.length:Int) - 1))).bind fun v91 =>
  CQ v9 f (wr .i64 (c13 + 1)) (r71.set ((wr .i64 ((r71.length:Int) - 1)).toNat) (v76++([v17.2]:List Int)))
  else none
  else
  some c15
def FJ (x0:(List AE)) (x1:(List AP)):Option ((List (List Int))) :=
 if (Fe 120 x1.length)=true then
 (A2 x1 x0).bind fun v9 =>
 (CQ v9 100000 0 ([]:(List (List Int)))).bind fun r102 =>
 some r102
 else none
theorem Kz {L:List Asn}{hp:Hp}(c15:(List (List Int))) (j29:Bool) (e1:AV) (e6:AV) (v9:(List AP)×(List AE)) (c13:Int) (e14:AV) (v17:AP) (e18:AV) (r:((List (List Int)))) (h:FK c15 j29=some r) (hT:T hp ((own_ (ocL 10 115 (ocV AD)) e6 v9.1)::(cel e1 1 110 (.sl 1 (v9.2.map By.enc)))::(own_ (ocL 1 48 (ocL 1 3 (ocV cdI))) e14 c15)::(cel e18 10 115 (AD.enc v17))::L)):SemY E0 ⟨none,false⟩ (pc F9 [1,1,1,1,1,0,1,0,0,1,1,0,0,1,0,1]) ⟨Fr 55 [(1,e6),(5,.fn 134 [] [e1]),(6,e14),(8,e18),(16,e6),(17,.v (.int .i64 (v9.1.length:Int))),(18,.v (.int .i64 c13)),(35,.v (.bool j29))],hp⟩ (fun e s=>e = .normal/\∃ s2,(∃ (e68:AV) (h':Hp),T h' ((own_ (ocL 10 115 (ocV AD)) e6 v9.1)::(cel e1 1 110 (.sl 1 (v9.2.map By.enc)))::(own_ (ocL 1 48 (ocL 1 3 (ocV cdI))) e68 r)::(cel e18 10 115 (AD.enc v17))::L)/\s2=⟨Fr 55 [(1,e6),(5,.fn 134 [] [e1]),(6,e68),(8,e18),(16,e6),(17,.v (.int .i64 (v9.1.length:Int))),(18,.v (.int .i64 c13))],h'⟩)/\WkY E0 s s2):=by
 unfold FK at h;refine DL (b:=j29) kr (fun hb55=>?_) (fun hb55=>?_)
 ·rw [if_pos hb55] at h
  refine AS ?_;refine BI AC 1 ?_
  have hT60:=(T.e0 (k:=1) (ty:=3) (o:=(ocV cdI)) hT)
  have hl61:MM Tryz.prog 48 .e0=some (eI ([]:(List Int)).length):=S4 hT60 kr
  obtain ⟨e59,hp56,hb57,hT58⟩:=RZ (P:=Tryz.prog) (bytes:=24) (k:=1) (t:=48) (ty:=46) (xs:=([([]:(List Int))]:List (List Int))) (n:=1) VQ (T0 ((VL (o:=(ocL 1 3 (ocV cdI))) hT60).front 1 rfl)) rfl kr kr kr;refine BF AC 0 rfl (Vy (AB rfl) rfl kr (XK (xs:=Pj 0 [.e0]) kr hb57)) ?_;by_cases hk66:(Fe 24 (c15.length + ([([]:(List Int))]:List (List Int)).length))=true
  case neg=>rw [if_neg hk66] at h; cases h
  rw [if_pos hk66] at h
  have hT67:=((hT58.front 0 rfl).front 3 rfl)
  obtain ⟨e65,hp62,hb63,hT64⟩:=RA (P:=Tryz.prog) (ty:=46) (ty2:=46) (bytes:=24) hT67 kr kr hk66;refine BF AC 0 rfl (TK (AB rfl) rfl kr kr (Hr (a:=e14) (b:=e59) kr kr hb63)) ?_;refine BI AC 1 ?_;refine Bj rfl ?_;have hq:=OI h; subst hq
  have hT70:=((((hT64.front 3 rfl).front 1 rfl).front 3 rfl).front 3 rfl)
  exact ⟨rfl,_,⟨e65,hp62,hT70,rfl⟩,WkY.f1⟩
 ·rw [Cr hb55] at h
  refine SemY.skip ?_;have hq:=OI h; subst hq;exact ⟨rfl,_,⟨e14,hp,hT,rfl⟩,WkY.f1⟩
theorem K0 {L:List Asn}(v9:(List AP)×(List AE)) (e1:AV) (e6:AV):∀ (f:Nat) (c13:Int) (c15:(List (List Int))) (r:((List (List Int)))),CQ v9 f c13 c15=some r->∀ (e14:AV) (hp:Hp),T hp ((own_ (ocL 10 115 (ocV AD)) e6 v9.1)::(cel e1 1 110 (.sl 1 (v9.2.map By.enc)))::(own_ (ocL 1 48 (ocL 1 3 (ocV cdI))) e14 c15)::L)->SemYN E0 ⟨none,false⟩ (pc F9 [1,1,1,1,1,0,1,0,0]) f ⟨Fr 55 [(1,e6),(5,.fn 134 [] [e1]),(6,e14),(16,e6),(17,.v (.int .i64 (v9.1.length:Int))),(18,.v (.int .i64 c13))],hp⟩ (fun e s=>e=(.exit 0)/\∃ s2,(∃ (e98:AV) (h':Hp),T h' ((own_ (ocL 1 48 (ocL 1 3 (ocV cdI))) e98 r)::L)/\s2=⟨Fr 55 [(6,e98)],h'⟩)/\WkY E0 s s2):=by
 intro f;induction f with
 | zero=>intro c13 c15 r h; cases h
 | succ f ih0 =>
  intro c13 c15 r h e14 hp hT;unfold CQ at h;refine Es ?_;refine Cv AC [(1,e6),(5,.fn 134 [] [e1]),(6,e14),(16,e6),(17,.v (.int .i64 (v9.1.length:Int))),(18,.v (.int .i64 c13)),(19,.v (.bool (decide (c13 < (v9.1.length:Int)))))] ?_;refine An ?_;refine DL (b:=(decide (c13 < (v9.1.length:Int)))) kr (fun hb16=>?_) (fun hb16=>?_)
  ·rw [if_pos hb16] at h
   refine SemY.skip ?_;refine An ?_;refine CK ?_;refine An ?_;refine AS ?_;refine BI AC 1 ?_;obtain ⟨v17,hv17,h⟩:=OB h;refine BF AC 0 rfl (EM (AB rfl) rfl (Ao (a:=e6) (b:= .v (.int .i64 c13)) kr kr (QM (bytes:=120) hT kr hv17))) ?_;refine BF AC 0 rfl (EM (AB rfl) rfl (Hl (p:=eAt e6 c13.toNat) kr (JC (y:=(AD.enc v17)) (m:=10) (g:=true) hT (EV hv17).2 kr kr kr))) ?_;obtain ⟨e18,hp19,hb20,hT21⟩:=Mq (t:=115) (a:= .ag [.st [],.st [],.st [],.v (.int .i64 0),.v (.int .i64 0),.st [],.v (.bool false),.v (.bool false),.e0,.v (.int .i64 0)]) hT kr;refine BF AC 0 rfl (Vy (AB rfl) rfl kr (O0 (z:= .ag [.st [],.st [],.st [],.v (.int .i64 0),.v (.int .i64 0),.st [],.v (.bool false),.v (.bool false),.e0,.v (.int .i64 0)]) kr hb20)) ?_;refine BI AC 1 ?_;obtain ⟨hp22,hs23,hT24⟩:=PI (P:=Tryz.prog) (ty:=115) (y:=(AD.enc v17)) (a':=(AD.enc v17)) hT21 kr kr kr;refine RunL.store AC (y:=e18) (z:=(AD.enc v17)) rfl (AB rfl) kr kr hs23 ?_;refine Bj rfl (SemY.fr (l':=[(1,e6),(5,.fn 134 [] [e1]),(6,e14),(7,.v (.int .i64 c13)),(8,e18),(16,e6),(17,.v (.int .i64 (v9.1.length:Int))),(18,.v (.int .i64 c13))]) kr ?_);refine An ?_;refine An ?_;obtain ⟨j29,hj29,h⟩:=OB h;refine OC 13 (A:=fun s1=>∃ (h':Hp),T h' ((own_ (ocL 10 115 (ocV AD)) e6 v9.1)::(cel e1 1 110 (.sl 1 (v9.2.map By.enc)))::(own_ (ocL 1 48 (ocL 1 3 (ocV cdI))) e14 c15)::(cel e18 10 115 (AD.enc v17))::L)/\s1=⟨Fr 55 [(1,e6),(5,.fn 134 [] [e1]),(6,e14),(8,e18),(16,e6),(17,.v (.int .i64 (v9.1.length:Int))),(18,.v (.int .i64 c13)),(35,.v (.bool j29))],h'⟩) AC.mixed kr kr ?_ ?_
   ·refine RunDT.q (x:= .v (.int .i64 c13)) rfl kr rfl (AB rfl) rfl kr kr ?_
    refine RunDT.q (x:= .v (.bool (c13==0))) rfl kr rfl (AB rfl) rfl kr kr ?_;refine RunDT.q (x:= .v (.bool (c13==0))) rfl kr rfl (AB rfl) rfl kr kr ?_;rcases BE (c13==0) with hc97 | hc97
    ·rw [if_pos hc97] at hj29
     rw [hc97];refine RunDT.skip rfl kr rfl ?_;refine RunDT.skip rfl kr rfl ?_;refine RunDT.skip rfl kr rfl ?_;refine RunDT.skip rfl kr rfl ?_;refine RunDT.skip rfl kr rfl ?_;refine RunDT.skip rfl kr rfl ?_;refine RunDT.skip rfl kr rfl ?_;refine RunDT.skip rfl kr rfl ?_;refine RunDT.skip rfl kr rfl ?_;refine RunDT.q (x:= .v (.bool true)) rfl kr rfl (AB rfl) rfl kr kr ?_;have hq:=OI hj29; subst hq
     have hT51:=(((hT24.front 3 rfl).front 3 rfl).front 3 rfl)
     exact RunDT.done rfl ⟨_,⟨hp22,hT51,rfl⟩,WkY.f1⟩
    ·rw [Cr hc97] at hj29
     rw [hc97];refine RunDT.q (x:= .fn 134 [] [e1]) rfl kr rfl kr rfl kr kr ?_;refine RunDT.q (x:=e6) rfl kr rfl kr rfl kr kr ?_;refine RunDT.q (x:= .v (.int .i64 c13)) rfl kr rfl kr rfl kr kr ?_;refine RunDT.q (x:= .v (.int .i64 (wr .i64 (c13 - 1)))) rfl kr rfl kr rfl kr kr ?_;obtain ⟨v25,hv25,hj29⟩:=OB hj29
     have hT26:=(hT24.front 1 rfl)
     refine RunDT.q (x:=eAt e6 ((wr .i64 (c13 - 1)).toNat)) rfl kr rfl kr rfl (Ao (a:=e6) (b:= .v (.int .i64 (wr .i64 (c13 - 1)))) kr kr (QM (bytes:=120) hT26 kr hv25)) kr ?_;refine RunDT.q (x:=(AD.enc v25)) rfl kr rfl kr rfl (Hl (p:=eAt e6 ((wr .i64 (c13 - 1)).toNat)) kr (JC (y:=(AD.enc v25)) (m:=10) (g:=true) hT26 (EV hv25).2 kr kr kr)) (G6 (hT24.front 1 rfl) (EV hv25).2 kr) ?_
     have hT27:=(hT26.front 1 rfl)
     refine RunDT.q (x:=(AD.enc v17)) rfl kr rfl kr rfl (Hl (p:=e18) kr (Qg (y:=(AD.enc v17)) (m:=10) (g:=true) hT27 kr kr kr)) (S3 hT24 kr) ?_;obtain ⟨v28,hv28,hj29⟩:=OB hj29;refine Mp (v:=v28) (caps:=[e1]) (xs:=[AD.enc v25,AD.enc v17]) (u:=(v25,v17,v9.2,())) rfl rfl JX rfl kr kr kr (CZ (Ee (c:=AD) (v:=v25)) (CZ (Ee (c:=AD) (v:=v17)) (CZ (SeeD.cel (c:=(cdL 1 By)) (v:=v9.2) hT27 (i:=2) rfl) SeesD.nil))) kr hv28 ?_;refine RunDT.q (x:= .v (.bool (v28 != 0))) rfl kr rfl kr rfl kr kr ?_;refine RunDT.q (x:= .v (.bool (v28 != 0))) rfl kr rfl (AB rfl) rfl kr kr ?_;have hq:=OI hj29; subst hq
     have hT52:=(((hT27.front 3 rfl).front 3 rfl).front 3 rfl)
     exact RunDT.done rfl ⟨_,⟨hp22,hT52,rfl⟩,WkY.f1⟩
   rintro _ ⟨hp53,hT54,rfl⟩;obtain ⟨r71,hr71,h⟩:=OB h;refine Io (Kz c15 j29 e1 e6 v9 c13 e14 v17 e18 _ hr71 hT54) ?_;rintro _ ⟨e72,hp73,hT74,rfl⟩;refine An ?_;refine AS ?_;refine BI AC 1 ?_
   have hT75:=(hT74.front 2 rfl)
   refine BF AC 0 rfl (EM (AB rfl) rfl (FU (a:=e72) kr (S4 hT75 kr))) ?_;refine C0 AC [(1,e6),(5,.fn 134 [] [e1]),(6,e72),(8,e18),(9,.v (.int .i64 (wr .i64 ((r71.length:Int) - 1)))),(16,e6),(17,.v (.int .i64 (v9.1.length:Int))),(18,.v (.int .i64 c13))] ?_;refine Hs 9 AC.mixed kr kr ?_;refine RunDT.q (x:=e72) rfl kr rfl (AB rfl) rfl kr kr ?_;refine RunDT.q (x:= .v (.int .i64 (wr .i64 ((r71.length:Int) - 1)))) rfl kr rfl (AB rfl) rfl kr kr ?_;refine RunDT.q (x:=e72) rfl kr rfl (AB rfl) rfl kr kr ?_;refine RunDT.q (x:= .v (.int .i64 (wr .i64 ((r71.length:Int) - 1)))) rfl kr rfl (AB rfl) rfl kr kr ?_;obtain ⟨v76,hv76,h⟩:=OB h;refine RunDT.q (x:=eAt e72 ((wr .i64 ((r71.length:Int) - 1)).toNat)) rfl kr rfl (AB rfl) rfl (Ao (a:=e72) (b:= .v (.int .i64 (wr .i64 ((r71.length:Int) - 1)))) kr kr (QM (bytes:=24) hT75 kr hv76)) kr ?_;obtain ⟨e77,hl78,hT79⟩:=UH (P:=Tryz.prog) (ty:=48) hT75 (EV hv76).2 kr kr;refine RunDT.q (x:=e77) rfl kr rfl (AB rfl) rfl (Hl (p:=eAt e72 ((wr .i64 ((r71.length:Int) - 1)).toNat)) kr hl78) (G6 hT75 (EV hv76).2 kr) ?_
   have hT80:=(hT79.front 4 rfl)
   refine RunDT.q (x:=MD e18 9) rfl kr rfl (AB rfl) rfl (Yl (a:=e18) kr (W4 (off:=9) hT80 kr)) kr ?_;refine RunDT.q (x:= .v (.int .i64 v17.2)) rfl kr rfl (AB rfl) rfl (Hl (p:=MD e18 9) kr (RY (off:=9) (y:= .v (.int .i64 v17.2)) (m:=1) (g:=false) hT80 kr kr kr)) (Oz (off:=9) (hT75.front 3 rfl) kr) ?_;obtain ⟨e84,hp81,hb82,hT83⟩:=RZ (P:=Tryz.prog) (bytes:=8) (k:=1) (t:=3) (ty:=48) (xs:=([v17.2]:List Int)) (n:=1) (YT (k:=1) (fun _=>⟨rfl,rfl,rfl⟩)) (Oq (c:=cdI) (xs:=([v17.2]:List Int)) hT80) rfl kr kr kr;refine RunDT.new rfl (AB rfl) rfl (XK (xs:=Pj 0 [.v (.int .i64 v17.2)]) kr hb82) ?_;refine LO rfl ?_;by_cases hk89:(Fe 8 (v76.length + ([v17.2]:List Int).length))=true
   case neg=>rw [if_neg hk89] at h; cases h
   rw [if_pos hk89] at h
   have hT90:=((hT83.front 0 rfl).front 2 rfl)
   obtain ⟨e88,hp85,hb86,hT87⟩:=RA (P:=Tryz.prog) (ty:=48) (ty2:=48) (bytes:=8) hT90 kr kr hk89;refine BF AC 0 rfl (TK (AB rfl) rfl kr kr (Hr (a:=e77) (b:=e84) kr kr hb86)) ?_;obtain ⟨v91,hv91,h⟩:=OB h
   have hT92:=(hT87.front 2 rfl)
   refine BF AC 0 rfl (EM (AB rfl) rfl (Ao (a:=e72) (b:= .v (.int .i64 (wr .i64 ((r71.length:Int) - 1)))) kr kr (Yc (bytes:=24) hT92 kr hv91))) ?_;obtain ⟨hp93,hs94,hT95⟩:=WF (P:=Tryz.prog) (ty:=48) VQ hT92 kr;refine RunL.store AC (y:=eAt e72 ((wr .i64 ((r71.length:Int) - 1)).toNat)) (z:=e88) rfl (AB rfl) kr kr hs94 ?_;refine Bj rfl (SemY.fr (l':=[(1,e6),(5,.fn 134 [] [e1]),(6,e72),(16,e6),(17,.v (.int .i64 (v9.1.length:Int))),(18,.v (.int .i64 c13))]) kr ?_);refine AS ?_;refine BI AC 2 ?_;refine Bj rfl ?_
   have hT96:=(((hT95.front 1 rfl).drop.front 2 rfl).front 2 rfl)
   exact DS WkY.f1 (ih0 (wr .i64 (c13 + 1)) (r71.set ((wr .i64 ((r71.length:Int) - 1)).toNat) (v76++([v17.2]:List Int))) _ h e72 hp93 hT96)
  ·rw [Cr hb16] at h
   refine SemY.exit ?_;have hq:=OI h; subst hq
   have hT100:=hT.drop.drop
   exact ⟨rfl,_,⟨e14,hp,hT100,rfl⟩,WkY.f1⟩
theorem MI {L:List Asn}{hp:Hp}(x0:(List AE)) (x1:(List AP)) (r:(List (List Int))) (h:FJ x0 x1=some r) (hT:T hp (L)):SemY E0 ⟨none,false⟩ F9 ⟨Fr 55 (BS 0 [.sl 1 (x0.map By.enc),.sl 10 (x1.map AD.enc)]),hp⟩ fun x s'=>(x = .normal\/x = .ret)/\∃ ys,Eo E0.P s'.fr s'.hp Tryz.f78.results.toList=some ys/\(fun v h'=>v = .sl 1 (r.map (cdL 1 cdI).enc)/\T h' (L)) (Er ys) s'.hp:=by
 unfold FJ at h
 let p1:Nat×AV:=(1,.sl 10 (x1.map AD.enc))
 refine Iz (Jm (s1:=⟨Fr 55 [(0,.sl 1 (x0.map By.enc)),p1],hp⟩) WkY.f1 ?_);refine An ?_;refine AS ?_;obtain ⟨e1,hp2,hb3,hT4⟩:=Mq (t:=110) (a:= .sl 1 (x0.map By.enc)) hT kr;refine BF AC 0 rfl (Vy (AB rfl) rfl kr (Yh (z:= .sl 1 (x0.map By.enc)) kr hb3)) ?_;refine C0 AC [p1,(2,e1)] ?_
 let p2:Nat×AV:=(5,.fn 134 [] [e1])
 refine Cv AC [p1,p2] ?_;refine An ?_;refine AS ?_;refine BI AC 1 ?_;by_cases hk5:(Fe 120 x1.length)=true
 case neg=>rw [if_neg hk5] at h; cases h
 rw [if_pos hk5] at h;refine LP rfl rfl (FH x1 hk5) rfl (AB rfl) kr kr kr OF ?_;intro x h' hO; obtain ⟨e6,hp7,e6q,hp7q,hT8⟩:=OG (c:=AD) (k:=10) (t:=115) hT4 hO; rw [<-e6q,<-hp7q];refine C0 AC [(1,e6),p2] ?_;refine An ?_;refine AS ?_;refine BI AC 2 ?_;obtain ⟨v9,hv9,h⟩:=OB h;refine Jl (E:=E0) (e:=E0) rfl rfl AC rfl rfl (fid:=136) (caps:=[]) (xs:=[e6,.fn 134 [] [e1]]) (fn:=Tryz.f136) (c:=CL) (Out:=fun v h'=>v = .tp []/\T h' ((own_ (ocL 10 115 (ocV AD)) e6 v9.1)::(cel e1 1 110 (.sl 1 (v9.2.map By.enc)))::L)) rfl (AB rfl) kr kr kr kr (by show 2<=9; decide) (De e6 x1 e1 x0 _ hv9 hT8) ?_;rintro xx hp10 ⟨hqhp10,hT11⟩; subst xx;refine Bj rfl (SemY.fr (l':=[(1,e6),p2]) kr ?_);refine Cv AC [(1,e6),p2,(6,.e0)] ?_;refine An ?_;refine An ?_;refine AS ?_;refine BI AC 1 ?_;refine BF AC 0 rfl (EM (AB rfl) rfl (FU (a:=e6) kr (S4 hT11 kr))) ?_;refine C0 AC [(1,e6),p2,(6,.e0),(16,e6),(17,.v (.int .i64 (v9.1.length:Int))),(18,.v (.int .i64 0))] ?_;refine CK ?_
 have hT12:=(T.e0 (k:=1) (ty:=48) (o:=(ocL 1 3 (ocV cdI))) hT11)
 have hT101:=((hT12.front 2 rfl).front 2 rfl)
 refine SemY.loop (n:=100000) ?_;obtain ⟨r102,hr102,h⟩:=OB h;refine EP (DS WkY.f1 (K0 v9 e1 e6 _ 0 ([]:(List (List Int))) _ hr102 .e0 hp10 hT101)) ?_;rintro _ ⟨e103,hp104,hT105,rfl⟩;refine Cv AC [(4,e103)] ?_;refine SemY.ret ?_;have hq:=OI h; subst hq
 let p3:Nat×AV:=(4,.sl 1 (r102.map (cdL 1 cdI).enc))
 obtain ⟨hp106,hw107,hT108⟩:=Mc (E:=E0) (n:=55) (l:=[(4,e103)]) (l':=[p3]) hT105 ⟨⟨e103,kr,KB⟩,trivial⟩;exact ⟨⟨Fr 55 [p3],hp106⟩,(WkY.trans (WkY.trans WkY.f1 hw107) WkY.f1),.inr rfl,[.sl 1 (r102.map (cdL 1 cdI).enc)],kr,⟨rfl,hT108⟩⟩
noncomputable def Js:Cs ((List AE)×(List AP)×Unit):=(csC (cdL 1 By) (csC (cdL 10 AD) csN))
noncomputable def Jv (r:(List (List Int))):AV:=(cdL 1 (cdL 1 cdI)).enc r
noncomputable def N1:List AV->Option AV:=EN Js (fun a=>FJ a.1 a.2.1) Jv
theorem N6:XOk 78 N1:=by
 refine AZ Tryz.func78 (c:=F9) ?h2 ⟨Tryz.call78⟩ Js (fun a=>FJ a.1 a.2.1) Jv (fun a=>(by show 2<=55; decide)) ?h3 ?h4
 case h2=>kernel_rfl
 case h3=>intro b; kernel_rfl
 case h4 =>
  intro a b h;refine Sem.mono (QP (MI (L:=[]) (hp:=[]) a.1 a.2.1 b h T.nil)) fun e s' hs=>?_
  obtain ⟨h1,ys,h2,h3,-⟩:=hs;exact ⟨h1,ys,h2,h3⟩
/- trestle/court.Order -/
noncomputable def KU:Code:=Bo Tryz.f24
def Fq (x0:(List AE)) (x1:(List Aw)):Option ((List (List Int))) :=
 (FL x0).bind fun v1 =>
 (if (!v1.2)=true then some true else some (decide ((x1.length:Int) > 64))).bind fun j3 =>
 if j3=true then
 some []
 else
 (Gp x1).bind fun v5 =>
 (FJ v1.1 v5).bind fun v6 =>
 some v6
noncomputable def G0:Cs ((List AE)×(List Aw)×Unit):=(csC (cdL 5 AA) (csC (cdL 9 AI) csN))
noncomputable def Ie (r:(List (List Int))):AV:=(cdL 1 (cdL 1 cdI)).enc r
theorem Mv (x0:(List AE)) (x1:(List Aw)) (r:(List (List Int))) (h:Fq x0 x1=some r):Sem E0 ⟨none,false⟩ KU ⟨Fr 23 (BS 0 (G0.enc (x0,x1,()))),[]⟩ fun e s'=>(e = .normal\/e = .ret)/\∃ xs,Eo E0.P s'.fr s'.hp Tryz.f24.results.toList=some xs/\Er xs=Ie r:=by
 unfold Fq at h;refine BJ (CD (s1:=⟨Fr 23 [(0,.sl 5 (x0.map AA.enc)),(1,.sl 9 (x1.map AI.enc))],[]⟩) AT ?_);refine AM AC [(0,.sl 5 (x0.map AA.enc)),(1,.sl 9 (x1.map AI.enc))] [] ?_;refine AH ?_;obtain ⟨v1,hv1,h⟩:=OB h;refine AO (s1:=⟨Fr 23 [(1,.sl 9 (x1.map AI.enc)),(5,.sl 1 (v1.1.map By.enc)),(6,.v (.bool v1.2))],[]⟩) ?_ ?_
 ·refine AF (n:=23) AC 1 [(1,.sl 9 (x1.map AI.enc)),(8,.sl 5 (x0.map AA.enc))] [] kr ?_
  refine Ay (caps:=[]) (xs:=[.sl 5 (x0.map AA.enc)]) (u:=(x0,())) rfl rfl N7 rfl (AB rfl) kr kr (Ab (A3 (c:=(cdL 5 AA)) (v:=x0)) B6) (.inr kr) hv1 ?_;exact A5 AC
 refine AH ?_;refine AH ?_;obtain ⟨j3,hj3,h⟩:=OB h;refine AO (s1:=⟨Fr 23 [(1,.sl 9 (x1.map AI.enc)),(5,.sl 1 (v1.1.map By.enc)),(18,.v (.bool j3))],[]⟩) ?_ ?_
 ·refine AF (n:=23) AC 3 [(1,.sl 9 (x1.map AI.enc)),(5,.sl 1 (v1.1.map By.enc)),(14,.v (.bool (!v1.2)))] [] kr ?_
  rcases BE (!v1.2) with hc7 | hc7
  ·rw [if_pos hc7] at hj3
   rw [hc7];refine AF (n:=23) AC 4 [(1,.sl 9 (x1.map AI.enc)),(5,.sl 1 (v1.1.map By.enc)),(18,.v (.bool true))] [] kr ?_;have hq:=OI hj3; subst hq;exact AL rfl AT
  ·rw [Cr hc7] at hj3
   rw [hc7];refine AF (n:=23) AC 1 [(1,.sl 9 (x1.map AI.enc)),(5,.sl 1 (v1.1.map By.enc)),(14,.v (.bool false)),(15,.sl 9 (x1.map AI.enc))] [] kr ?_;refine Aq AC 0 rfl (EM kr rfl (FU (a:= .sl 9 (x1.map AI.enc)) kr (Dq (el:=42) kr))) ?_;refine AF (n:=23) AC 2 [(1,.sl 9 (x1.map AI.enc)),(5,.sl 1 (v1.1.map By.enc)),(18,.v (.bool (decide ((x1.length:Int) > 64))))] [] kr ?_;have hq:=OI hj3; subst hq;exact AL rfl AT
 refine AW (b:=j3) kr (fun hb4=>?_) (fun hb4=>?_)
 ·rw [if_pos hb4] at h
  refine AM AC [(4,.e0)] [] ?_;refine AX ?_;have hq:=OI h; subst hq;exact ⟨⟨Fr 23 [(4,.sl 1 ([].map (cdL 1 cdI).enc))],[]⟩,(Wk.trans (s1:=⟨Fr 23 [(4,.e0)],[]⟩) AT (Wk.trans (s1:=⟨Fr 23 [(4,.e0)],[none]⟩) Wk.none (Wk.trans (s1:=⟨Fr 23 [(4,.sl 1 ([].map (cdL 1 cdI).enc))],[none]⟩) (I0 0 (.inr kr) ⟨.inl rfl,trivial⟩ ⟨⟨.e0,kr,R9⟩,trivial⟩) (Au [] trivial ⟨lv,trivial⟩)))),.inr rfl,[.sl 1 ([].map (cdL 1 cdI).enc)],kr,kr⟩
 ·rw [Cr hb4] at h
  refine Ai ?_;refine AH ?_;obtain ⟨v5,hv5,h⟩:=OB h;obtain ⟨v6,hv6,h⟩:=OB h;refine AO (s1:=⟨Fr 23 [(4,.sl 1 (v6.map (cdL 1 cdI).enc))],[]⟩) ?_ ?_
  ·refine AF (n:=23) AC 2 [(19,.sl 1 (v1.1.map By.enc)),(20,.sl 9 (x1.map AI.enc))] [] kr ?_
   refine Ay (caps:=[]) (xs:=[.sl 9 (x1.map AI.enc)]) (u:=(x1,())) rfl rfl QL rfl (AB rfl) kr kr (Ab (A3 (c:=(cdL 9 AI)) (v:=x1)) B6) (.inr kr) hv5 ?_;refine Ay (caps:=[]) (xs:=[.sl 1 (v1.1.map By.enc),.sl 10 (v5.map AD.enc)]) (u:=(v1.1,v5,())) rfl rfl N6 rfl (AB rfl) kr kr (Ab (A3 (c:=(cdL 1 By)) (v:=v1.1)) (Ab (A3 (c:=(cdL 10 AD)) (v:=v5)) B6)) (.inr kr) hv6 ?_;exact A5 AC
  refine AX ?_;have hq:=OI h; subst hq;exact ⟨⟨Fr 23 [(4,.sl 1 (v6.map (cdL 1 cdI).enc))],[]⟩,AT,.inr rfl,[.sl 1 (v6.map (cdL 1 cdI).enc)],kr,kr⟩
noncomputable def PL:List AV->Option AV:=EN G0 (fun a=>Fq a.1 a.2.1) Ie
theorem PU:XOk 24 PL:=by
 refine AZ Tryz.func24 (c:=KU) ?h2 ⟨Tryz.call24⟩ G0 (fun a=>Fq a.1 a.2.1) Ie (fun a=>(by show 2<=23; decide)) ?h3 ?h4
 case h2=>kernel_rfl
 case h3=>intro b; kernel_rfl
 case h4=>exact fun a b h=>Mv a.1 a.2.1 b h
/- trestle/court.Class -/
noncomputable def Fg:Code:=Bo Tryz.f25
def Fh (x1:(List Aw)) (c3:Int) (c5:(List Int)):Option (((List Int))) :=
 if (c3==0)=true then
 if (WZ 8 (x1.length:Int))=true then
 some (List.replicate (x1.length:Int).toNat (0:Int))
 else none
 else
 some c5
def CW (c3:Int) (v7:(List Int)):Nat->Int->(List Int)->Option (((List Int)))
 | 0,_,_=>none
 | f + 1,c21,c22 =>
  if (decide (c21 < (v7.length:Int)))=true then
  (idx v7 c21).bind fun v24 =>
  (idx c22 v24).bind fun v25 =>
  CW c3 v7 f (wr .i64 (c21 + 1)) (c22.set v24.toNat c3)
  else
  some c22
def DF (x1:(List Aw)) (v1:(List (List Int))):Nat->Int->(List Int)->Option (((List Int)))
 | 0,_,_=>none
 | f + 1,c3,c5 =>
  if (decide (c3 < (v1.length:Int)))=true then
  (idx v1 c3).bind fun v7 =>
  (Fh x1 c3 c5).bind fun r17 =>
  (CW c3 v7 100000 0 r17).bind fun r30 =>
  DF x1 v1 f (wr .i64 (c3 + 1)) r30
  else
  some c5
def FI (x0:(List AE)) (x1:(List Aw)):Option ((List Int)) :=
 (Fq x0 x1).bind fun v1 =>
 (DF x1 v1 100000 0 ([]:(List Int))).bind fun r35 =>
 some r35
theorem LT {L:List Asn}{hp:Hp}(x1:(List Aw)) (c3:Int) (c5:(List Int)) (v1:(List (List Int))) (e4:AV) (v7:(List Int)) (r:((List Int))) (h:Fh x1 c3 c5=some r) (hT:T hp ((own_ (ocL 1 3 (ocV cdI)) e4 c5)::L)):SemY E0 ⟨none,false⟩ (pc Fg [1,1,0,1,0,0,1,1,0,0,1,0,1]) ⟨Fr 37 [(1,.sl 9 (x1.map AI.enc)),(5,e4),(6,.v (.int .i64 c3)),(7,.sl 1 (v7.map cdI.enc)),(12,.sl 1 (v1.map (cdL 1 cdI).enc)),(13,.v (.int .i64 (v1.length:Int))),(14,.v (.int .i64 c3)),(20,.v (.bool (c3==0)))],hp⟩ (fun e s=>e = .normal/\∃ s2,(∃ (e14:AV) (h':Hp),T h' ((own_ (ocL 1 3 (ocV cdI)) e14 r)::L)/\s2=⟨Fr 37 [(1,.sl 9 (x1.map AI.enc)),(5,e14),(6,.v (.int .i64 c3)),(7,.sl 1 (v7.map cdI.enc)),(12,.sl 1 (v1.map (cdL 1 cdI).enc)),(13,.v (.int .i64 (v1.length:Int))),(14,.v (.int .i64 c3))],h'⟩)/\WkY E0 s s2):=by
 unfold Fh at h;refine DL (b:=(c3==0)) kr (fun hb8=>?_) (fun hb8=>?_)
 ·rw [if_pos hb8] at h
  refine AS ?_;refine BI AC 1 ?_;refine BF AC 0 rfl (EM (AB rfl) rfl (FU (a:= .sl 9 (x1.map AI.enc)) kr (Dq (el:=42) kr))) ?_;by_cases hk9:(WZ 8 (x1.length:Int))=true
  case neg=>rw [if_neg hk9] at h; cases h
  rw [if_pos hk9] at h;obtain ⟨e13,hp10,hb11,hT12⟩:=TC (P:=Tryz.prog) (o:=(ocV cdI)) (k:=1) (t:=3) (ty:=48) (bytes:=8) (kn:= .i64) (kc:= .i64) (m:=(x1.length:Int)) (x0:=0) hT (fun _=>⟨rfl,rfl⟩) kr kr hk9;refine BF AC 0 rfl (Vy (AB rfl) rfl kr (XL (x:= .v (.int .i64 (x1.length:Int))) (y:= .v (.int .i64 (x1.length:Int))) kr kr hb11)) ?_;refine BI AC 1 ?_;refine Bj rfl ?_;have hq:=OI h; subst hq
  have hT16:=(hT12.front 1 rfl).drop
  exact ⟨rfl,_,⟨e13,hp10,hT16,rfl⟩,WkY.f1⟩
 ·rw [Cr hb8] at h
  refine SemY.skip ?_;have hq:=OI h; subst hq;exact ⟨rfl,_,⟨e4,hp,hT,rfl⟩,WkY.f1⟩
theorem LV {L:List Asn}(c3:Int) (v7:(List Int)) (x1:(List Aw)) (v1:(List (List Int))) (e18:AV):∀ (f:Nat) (c21:Int) (c22:(List Int)) (r:((List Int))),CW c3 v7 f c21 c22=some r->∀ (hp:Hp),T hp ((own_ (ocL 1 3 (ocV cdI)) e18 c22)::L)->SemYN E0 ⟨none,false⟩ (pc Fg [1,1,0,1,0,0,1,1,0,0,1,1,1,0,0]) f ⟨Fr 37 [(1,.sl 9 (x1.map AI.enc)),(5,e18),(6,.v (.int .i64 c3)),(12,.sl 1 (v1.map (cdL 1 cdI).enc)),(13,.v (.int .i64 (v1.length:Int))),(14,.v (.int .i64 c3)),(24,.sl 1 (v7.map cdI.enc)),(25,.v (.int .i64 (v7.length:Int))),(26,.v (.int .i64 c21))],hp⟩ (fun e s=>e=(.exit 2)/\∃ s2,(∃ (h':Hp),T h' ((own_ (ocL 1 3 (ocV cdI)) e18 r)::L)/\s2=⟨Fr 37 [(1,.sl 9 (x1.map AI.enc)),(5,e18),(12,.sl 1 (v1.map (cdL 1 cdI).enc)),(13,.v (.int .i64 (v1.length:Int))),(14,.v (.int .i64 c3))],h'⟩)/\WkY E0 s s2):=by
 intro f;induction f with
 | zero=>intro c21 c22 r h; cases h
 | succ f ih0 =>
  intro c21 c22 r h  hp hT;unfold CW at h;refine Es ?_
  let p1:Nat×AV:=(26,.v (.int .i64 c21))
  let p2:Nat×AV:=(25,.v (.int .i64 (v7.length:Int)))
  let p3:Nat×AV:=(24,.sl 1 (v7.map cdI.enc))
  let p4:Nat×AV:=(14,.v (.int .i64 c3))
  let p5:Nat×AV:=(13,.v (.int .i64 (v1.length:Int)))
  let p6:Nat×AV:=(12,.sl 1 (v1.map (cdL 1 cdI).enc))
  let p7:Nat×AV:=(6,.v (.int .i64 c3))
  let p8:Nat×AV:=(1,.sl 9 (x1.map AI.enc))
  refine Cv AC [p8,(5,e18),p7,p6,p5,p4,p3,p2,p1,(27,.v (.bool (decide (c21 < (v7.length:Int)))))] ?_;refine An ?_;refine DL (b:=(decide (c21 < (v7.length:Int)))) kr (fun hb23=>?_) (fun hb23=>?_)
  ·rw [if_pos hb23] at h
   refine SemY.skip ?_;refine An ?_;refine CK ?_;refine An ?_;refine AS ?_;obtain ⟨v24,hv24,h⟩:=OB h;refine BF AC 0 rfl (EM (AB rfl) rfl (Ao (a:= .sl 1 (v7.map cdI.enc)) (b:= .v (.int .i64 c21)) kr kr (Iw (e:=cdI.enc) (el:=3) (k:=1) (ki:= .i64) kr kr hv24))) ?_;refine C0 AC [p8,(5,e18),p7,(9,.v (.int .i64 v24)),p6,p5,p4,p3,p2,p1] ?_;refine AS ?_;refine BI AC 3 ?_;obtain ⟨v25,hv25,h⟩:=OB h;refine BF AC 0 rfl (EM (AB rfl) rfl (Ao (a:=e18) (b:= .v (.int .i64 v24)) kr kr (QM (bytes:=8) hT kr hv25))) ?_;obtain ⟨hp26,hs27,hT28⟩:=Lz (P:=Tryz.prog) (ty:=3) (y:= .v (.int .i64 c3)) (v':=c3) hT (EV hv25).2 kr kr kr;refine RunL.store AC (y:=eAt e18 v24.toNat) (z:= .v (.int .i64 c3)) rfl (AB rfl) kr kr hs27 ?_;refine Bj rfl (SemY.fr (l':=[p8,(5,e18),p7,p6,p5,p4,p3,p2,p1]) kr ?_);refine AS ?_;refine BI AC 2 ?_;refine Bj rfl ?_;exact DS WkY.f1 (ih0 (wr .i64 (c21 + 1)) (c22.set v24.toNat c3) _ h  hp26 hT28)
  ·rw [Cr hb23] at h
   refine SemY.exit ?_;have hq:=OI h; subst hq;exact ⟨rfl,_,⟨hp,hT,rfl⟩,WkY.f1⟩
theorem LU {L:List Asn}(x1:(List Aw)) (v1:(List (List Int))):∀ (f:Nat) (c3:Int) (c5:(List Int)) (r:((List Int))),DF x1 v1 f c3 c5=some r->∀ (e4:AV) (hp:Hp),T hp ((own_ (ocL 1 3 (ocV cdI)) e4 c5)::L)->SemYN E0 ⟨none,false⟩ (pc Fg [1,1,0,1,0,0]) f ⟨Fr 37 [(1,.sl 9 (x1.map AI.enc)),(5,e4),(12,.sl 1 (v1.map (cdL 1 cdI).enc)),(13,.v (.int .i64 (v1.length:Int))),(14,.v (.int .i64 c3))],hp⟩ (fun e s=>e=(.exit 0)/\∃ s2,(∃ (e33:AV) (h':Hp),T h' ((own_ (ocL 1 3 (ocV cdI)) e33 r)::L)/\s2=⟨Fr 37 [(5,e33)],h'⟩)/\WkY E0 s s2):=by
 intro f;induction f with
 | zero=>intro c3 c5 r h; cases h
 | succ f ih0 =>
  intro c3 c5 r h e4 hp hT;unfold DF at h;refine Es ?_
  let p1:Nat×AV:=(14,.v (.int .i64 c3))
  let p2:Nat×AV:=(13,.v (.int .i64 (v1.length:Int)))
  let p3:Nat×AV:=(12,.sl 1 (v1.map (cdL 1 cdI).enc))
  let p4:Nat×AV:=(1,.sl 9 (x1.map AI.enc))
  refine Cv AC [p4,(5,e4),p3,p2,p1,(15,.v (.bool (decide (c3 < (v1.length:Int)))))] ?_;refine An ?_;refine DL (b:=(decide (c3 < (v1.length:Int)))) kr (fun hb6=>?_) (fun hb6=>?_)
  ·rw [if_pos hb6] at h
   refine SemY.skip ?_;refine An ?_;refine CK ?_;refine An ?_;refine AS ?_;refine BI AC 1 ?_;obtain ⟨v7,hv7,h⟩:=OB h;refine BF AC 0 rfl (EM (AB rfl) rfl (Ao (a:= .sl 1 (v1.map (cdL 1 cdI).enc)) (b:= .v (.int .i64 c3)) kr kr (Iw (e:=(cdL 1 cdI).enc) (el:=48) (k:=1) (ki:= .i64) kr kr hv7))) ?_
   let p5:Nat×AV:=(6,.v (.int .i64 c3))
   refine C0 AC [p4,(5,e4),p5,(7,.sl 1 (v7.map cdI.enc)),p3,p2,p1] ?_;refine An ?_;refine Cv AC [p4,(5,e4),p5,(7,.sl 1 (v7.map cdI.enc)),p3,p2,p1,(20,.v (.bool (c3==0)))] ?_;obtain ⟨r17,hr17,h⟩:=OB h;refine Io (LT x1 c3 c5 v1 e4 v7 _ hr17 hT) ?_;rintro _ ⟨e18,hp19,hT20,rfl⟩;refine An ?_;refine AS ?_;refine BI AC 1 ?_;refine BF AC 0 rfl (EM (AB rfl) rfl (FU (a:= .sl 1 (v7.map cdI.enc)) kr (Dq (el:=3) kr))) ?_;refine C0 AC [p4,(5,e18),p5,p3,p2,p1,(24,.sl 1 (v7.map cdI.enc)),(25,.v (.int .i64 (v7.length:Int))),(26,.v (.int .i64 0))] ?_;refine CK ?_;refine SemY.loop (n:=100000) ?_;obtain ⟨r30,hr30,h⟩:=OB h;refine EP (DS WkY.f1 (LV c3 v7 x1 v1 e18 _ 0 r17 _ hr30  hp19 hT20)) ?_;rintro _ ⟨hp31,hT32,rfl⟩;refine AS ?_;refine BI AC 2 ?_;refine Bj rfl ?_;exact DS WkY.f1 (ih0 (wr .i64 (c3 + 1)) r30 _ h e18 hp31 hT32)
  ·rw [Cr hb6] at h
   refine SemY.exit ?_;have hq:=OI h; subst hq;exact ⟨rfl,_,⟨e4,hp,hT,rfl⟩,WkY.f1⟩
theorem Mu {L:List Asn}{hp:Hp}(x0:(List AE)) (x1:(List Aw)) (r:(List Int)) (h:FI x0 x1=some r) (hT:T hp (L)):SemY E0 ⟨none,false⟩ Fg ⟨Fr 37 (BS 0 [.sl 5 (x0.map AA.enc),.sl 9 (x1.map AI.enc)]),hp⟩ fun x s'=>(x = .normal\/x = .ret)/\∃ ys,Eo E0.P s'.fr s'.hp Tryz.f25.results.toList=some ys/\(fun v h'=>v = .sl 1 (r.map cdI.enc)/\T h' (L)) (Er ys) s'.hp:=by
 unfold FI at h
 let p1:Nat×AV:=(1,.sl 9 (x1.map AI.enc))
 let p2:Nat×AV:=(0,.sl 5 (x0.map AA.enc))
 refine Iz (Jm (s1:=⟨Fr 37 [p2,p1],hp⟩) WkY.f1 ?_);refine Cv AC [p2,p1] ?_;refine Cv AC [p2,p1,(5,.e0)] ?_;refine An ?_;refine An ?_;refine AS ?_;refine BI AC 2 ?_;obtain ⟨v1,hv1,h⟩:=OB h;refine F3 (v:=v1) (caps:=[]) (xs:=[.sl 5 (x0.map AA.enc),.sl 9 (x1.map AI.enc)]) (u:=(x0,x1,())) rfl rfl PU rfl (AB rfl) kr kr (CZ (Ee (c:=(cdL 5 AA)) (v:=x0)) (CZ (Ee (c:=(cdL 9 AI)) (v:=x1)) SeesD.nil)) (.inr ⟨by kernel_rfl,G0.de (x0,x1,())⟩) hv1 ?_;refine BF AC 0 rfl (EM (AB rfl) rfl (FU (a:= .sl 1 (v1.map (cdL 1 cdI).enc)) kr (Dq (el:=48) kr))) ?_;refine C0 AC [p1,(5,.e0),(12,.sl 1 (v1.map (cdL 1 cdI).enc)),(13,.v (.int .i64 (v1.length:Int))),(14,.v (.int .i64 0))] ?_;refine CK ?_
 have hT2:=(T.e0 (k:=1) (ty:=3) (o:=(ocV cdI)) hT)
 refine SemY.loop (n:=100000) ?_;obtain ⟨r35,hr35,h⟩:=OB h;refine EP (DS WkY.f1 (LU x1 v1 _ 0 ([]:(List Int)) _ hr35 .e0 hp hT2)) ?_;rintro _ ⟨e36,hp37,hT38,rfl⟩;refine Cv AC [(4,e36)] ?_;refine SemY.ret ?_;have hq:=OI h; subst hq;obtain ⟨hp39,hw40,hT41⟩:=Mc (E:=E0) (n:=37) (l:=[(4,e36)]) (l':=[(4,.sl 1 (r35.map cdI.enc))]) hT38 ⟨⟨e36,kr,KB⟩,trivial⟩;exact ⟨⟨Fr 37 [(4,.sl 1 (r35.map cdI.enc))],hp39⟩,(WkY.trans (WkY.trans WkY.f1 hw40) WkY.f1),.inr rfl,[.sl 1 (r35.map cdI.enc)],kr,⟨rfl,hT41⟩⟩
def Gz:Cs ((List AE)×(List Aw)×Unit):=(csC (cdL 5 AA) (csC (cdL 9 AI) csN))
def KW (r:(List Int)):AV:=(cdL 1 cdI).enc r
def PK:List AV->Option AV:=EN Gz (fun a=>FI a.1 a.2.1) KW
theorem LM:XOk 25 PK:=by
 refine AZ Tryz.func25 (c:=Fg) ?h2 ⟨Tryz.call25⟩ Gz (fun a=>FI a.1 a.2.1) KW (fun a=>(by show 2<=37; decide)) ?h3 ?h4
 case h2=>kernel_rfl
 case h3=>intro b; kernel_rfl
 case h4 =>
  intro a b h;refine Sem.mono (QP (Mu (L:=[]) (hp:=[]) a.1 a.2.1 b h T.nil)) fun e s' hs=>?_
  obtain ⟨h1,ys,h2,h3,-⟩:=hs;exact ⟨h1,ys,h2,h3⟩
/- trestle/trestlelaw03.CourtMoved$2 -/
noncomputable def G5:Code:=Bo Tryz.f33
def DT (x0:Aw) (x1:Aw):Option (Bool) :=
 some (x0.1==x1.1)
def FO:Cs (Aw×Aw×Unit):=(csC AI (csC (cdP AI) csN))
def FS (r:Bool):AV:=cdB.enc r
theorem Jd (x0:Aw) (x1:Aw) (r:Bool) (h:DT x0 x1=some r):Sem E0 ⟨none,false⟩ G5 ⟨Fr 9 (BS 0 (FO.enc (x0,x1,()))),[]⟩ fun e s'=>(e = .normal\/e = .ret)/\∃ xs,Eo E0.P s'.fr s'.hp Tryz.f33.results.toList=some xs/\Er xs=FS r:=by
 unfold DT at h;refine BJ (CD (s1:=⟨Fr 9 [(0,AI.enc x0),(1,.pe (AI.enc x1) 0)],[]⟩) AT ?_)
 let p1:Option Blk:=some ⟨9,42,[AI.enc x0],false⟩
 refine AM AC [(1,.pe (AI.enc x1) 0),(2,.pt 0 0 0)] [p1] ?_;refine AH ?_
 let p2:Nat×AV:=(3,.v (.bool (x0.1==x1.1)))
 refine AO (s1:=⟨Fr 9 [p2],[]⟩) ?_ ?_
 ·refine AF (n:=9) AC 6 [p2] [p1] kr ?_
  exact AL rfl (Au [] trivial ⟨lv,trivial⟩)
 refine AX ?_;have hq:=OI h; subst hq;exact ⟨⟨Fr 9 [p2],[]⟩,AT,.inr rfl,[.v (.bool (x0.1==x1.1))],kr,kr⟩
def KO:List AV->Option AV:=EN FO (fun a=>DT a.1 a.2.1) FS
theorem KQ:XOk 33 KO:=by
 refine AZ Tryz.func33 (c:=G5) ?h2 ⟨Tryz.call33⟩ FO (fun a=>DT a.1 a.2.1) FS (fun a=>(by show 2<=9; decide)) ?h3 ?h4
 case h2=>kernel_rfl
 case h3=>intro b; kernel_rfl
 case h4=>exact fun a b h=>Jd a.1 a.2.1 b h
/- slices.IndexFunc[[]trestle/api.Guest,trestle/api.Guest] -/
noncomputable def BK:Code:=Bo Tryz.f32
def AJ (x0:(List Aw)) (x1:Aw):Nat->Int->Option ((Unit) ⊕ (Int))
 | 0,_=>none
 | f + 1,c1 =>
  if (decide (c1 < (x0.length:Int)))=true then
  (idx x0 c1).bind fun v3 =>
  (DT v3 x1).bind fun v4 =>
  if v4=true then
  some (.inr c1)
  else
  AJ x0 x1 f (wr .i64 (c1 + 1))
  else
  some (.inl ())
def AR (x0:(List Aw)) (x1:Aw):Option (Int) :=
 (AJ x0 x1 100000 0).bind fun r7 =>
 match r7 with
 | (.inl w8) =>
  some (-1)
 | (.inr w9) =>
  some w9
def BM:Cs ((List Aw)×Aw×Unit):=(csC (cdL 9 AI) (csC (cdF 33 (csE (cdP AI)) (fun _=>rfl)) csN))
def BO (r:Int):AV:=cdI.enc r
theorem Bz (x0:(List Aw)) (x1:Aw):∀ (f:Nat) (c1:Int) (r:(Unit) ⊕ (Int)),AJ x0 x1 f c1=some r->SemN E0 ⟨none,false⟩ (pc BK [1,0,1,0,0]) f ⟨Fr 19 [(0,.sl 9 (x0.map AI.enc)),(1,.fn 33 [] [.pe (AI.enc x1) 0]),(7,.v (.int .i64 (x0.length:Int))),(8,.v (.int .i64 c1))],[]⟩ (fun e s=>match r with
 | (.inl w)=>e=(.exit 0)/\Wk E0 s ⟨Fr 19 [],[]⟩
 | (.inr w)=>e = .ret/\Wk E0 s ⟨Fr 19 [(4,.v (.int .i64 w))],[]⟩):=by
 intro f;induction f with
 | zero=>intro c1 r h; cases h
 | succ f ih0 =>
  intro c1 r h
  have ih:=fun (c1:Int)=>ih0 c1 r
  unfold AJ at h;refine D3 ?_
  let p1:Nat×AV:=(8,.v (.int .i64 c1))
  let p2:Nat×AV:=(7,.v (.int .i64 (x0.length:Int)))
  let p3:Nat×AV:=(1,.fn 33 [] [.pe (AI.enc x1) 0])
  let p4:Nat×AV:=(0,.sl 9 (x0.map AI.enc))
  refine AM AC [p4,p3,p2,p1,(9,.v (.bool (decide (c1 < (x0.length:Int)))))] [] ?_;refine AH ?_;refine AW (b:=(decide (c1 < (x0.length:Int)))) kr (fun hb2=>?_) (fun hb2=>?_)
  ·rw [if_pos hb2] at h
   refine Ai ?_;refine AH ?_;refine Bh ?_
   let p5:Nat×AV:=(5,.v (.int .i64 c1))
   refine AM AC [p4,p3,p5,p2,p1] [] ?_;refine AH ?_;obtain ⟨v3,hv3,h⟩:=OB h;obtain ⟨v4,hv4,h⟩:=OB h;refine AO (s1:=⟨Fr 19 [p4,p3,p5,p2,p1,(16,.v (.bool v4))],[]⟩) ?_ ?_
   ·let p6:Nat×AV:=(11,.fn 33 [] [.pe (AI.enc x1) 0])
    refine AF (n:=19) AC 3 [p4,p3,p5,p2,p1,p6,(12,.sl 9 (x0.map AI.enc)),(13,.v (.int .i64 c1))] [] kr ?_;refine Aq AC 0 rfl (EM (AB rfl) rfl (Ao (a:= .sl 9 (x0.map AI.enc)) (b:= .v (.int .i64 c1)) kr kr (Iw (e:=AI.enc) (el:=42) (k:=9) (ki:= .i64) kr kr hv3))) ?_;refine AF (n:=19) AC 1 [p4,p3,p5,p2,p1,p6,(15,AI.enc v3)] [] kr ?_;refine Ay (caps:=[.pe (AI.enc x1) 0]) (xs:=[AI.enc v3]) (u:=(v3,x1,())) rfl rfl KQ rfl (AB rfl) kr kr (Ab (A3 (c:=AI) (v:=v3)) (Ab (A3 (c:=(cdP AI)) (v:=x1)) B6)) (.inl kr) hv4 ?_;exact AL rfl AT
   refine AW (b:=v4) kr (fun hb5=>?_) (fun hb5=>?_)
   ·rw [if_pos hb5] at h
    refine AM AC [(4,.v (.int .i64 c1))] [] ?_;refine AX ?_;have hq:=OI h; subst hq;exact ⟨rfl,AT⟩
   ·rw [Cr hb5] at h
    refine Ai ?_
    let p7:Nat×AV:=(8,.v (.int .i64 (wr .i64 (c1 + 1))))
    refine Eq AC [p4,p3,p2,p7] [] ?_;exact CF (s1:=⟨Fr 19 [p4,p3,p2,p7],[]⟩) AT (ih (wr .i64 (c1 + 1)) h)
  ·rw [Cr hb2] at h
   refine FD ?_;have hq:=OI h; subst hq;exact ⟨rfl,AT⟩
theorem C3 (x0:(List Aw)) (x1:Aw) (r:Int) (h:AR x0 x1=some r):Sem E0 ⟨none,false⟩ BK ⟨Fr 19 (BS 0 (BM.enc (x0,x1,()))),[]⟩ fun e s'=>(e = .normal\/e = .ret)/\∃ xs,Eo E0.P s'.fr s'.hp Tryz.f32.results.toList=some xs/\Er xs=BO r:=by
 unfold AR at h
 let p1:Nat×AV:=(1,.fn 33 [] [.pe (AI.enc x1) 0])
 let p2:Nat×AV:=(0,.sl 9 (x0.map AI.enc))
 refine BJ (CD (s1:=⟨Fr 19 [p2,p1],[]⟩) AT ?_);refine AM AC [p2,p1] [] ?_;refine AH ?_;refine AH ?_
 let p3:Nat×AV:=(8,.v (.int .i64 0))
 let p4:Nat×AV:=(7,.v (.int .i64 (x0.length:Int)))
 refine AO (s1:=⟨Fr 19 [p2,p1,p4,p3],[]⟩) ?_ ?_
 ·refine AF (n:=19) AC 1 [p2,p1,(6,.sl 9 (x0.map AI.enc))] [] kr ?_
  refine Aq AC 0 rfl (EM (AB rfl) rfl (FU (a:= .sl 9 (x0.map AI.enc)) kr (Dq (el:=42) kr))) ?_;exact A5 AC
 refine Bh ?_;obtain ⟨r7,hr7,h⟩:=OB h;refine FE (n:=100000) ?_;rcases r7 with w8 | w9
 ·try dsimp only at h
  refine Cn (CF (s1:=⟨Fr 19 [p2,p1,p4,p3],[]⟩) AT (Bz x0 x1 _ 0 _ hr7)) ?_;refine AM AC [(4,.v (.int .i64 (-1)))] [] ?_;refine AX ?_;have hq:=OI h; subst hq;exact ⟨⟨Fr 19 [(4,.v (.int .i64 (-1)))],[]⟩,AT,.inr rfl,[.v (.int .i64 (-1))],kr,kr⟩
 ·try dsimp only at h
  refine Cn (CF (s1:=⟨Fr 19 [p2,p1,p4,p3],[]⟩) AT (Bz x0 x1 _ 0 _ hr7)) ?_;have hq:=OI h; subst hq;exact ⟨⟨Fr 19 [(4,.v (.int .i64 w9))],[]⟩,AT,.inr rfl,[.v (.int .i64 w9)],kr,kr⟩
def DI:List AV->Option AV:=EN BM (fun a=>AR a.1 a.2.1) BO
theorem DK:XOk 32 DI:=by
 refine AZ Tryz.func32 (c:=BK) ?h2 ⟨Tryz.call32⟩ BM (fun a=>AR a.1 a.2.1) BO (fun a=>(by show 2<=19; decide)) ?h3 ?h4
 case h2=>kernel_rfl
 case h3=>intro b; kernel_rfl
 case h4=>exact fun a b h=>C3 a.1 a.2.1 b h
section
variable {E:Env}{w w':World}{Z Z':Nat->Prop}{R R':List RI}{h h':Hp}{base:Bs}{s s':St}{a:Act}{n:Nat}
/-- What a deferred call must bring about when the function below returns: nothing but new blocks. -/
def Rq (P:Program) (g:FuncId) (us:List Value):Prop:=∀ w1,CallsDIn (Fw none) 0 P g us.toArray .returning w1 fun e u' w2=>match e with | .returned _=>settle u' = .returning/\w1.grownBy w2 none | _=>False
theorem SR.grown {D:List Deferred}{b':Bs}(sr:SR E base w Z R s a) (hb:b'.n=base.n) (hg:w.grownBy w' none) (hm:MksD base.n w Z R s.hp D b'.D):SR E b' w' Z R s { a with defers:=D }:=by
 have hz:∀ c,Z c->w'.heap[c]? = w.heap[c]?:=fun c hc=>hg.block c (sr.hh.zlt c hc) (by simp)
 refine ⟨sr.hh.keep hg.size (fun c hc=>hg.block c hc (by simp)),sr.fr.off hz,?_,sr.gl.off hz,by rw [hb]; exact Nat.le_trans sr.bs hg.size⟩
 show MksD b'.n _ _ _ _ _ _
 rw [hb]
 exact MksD.imp (fun r h1 h2 h3=>⟨(hg.block r (JV h1) (by simp)).trans h1,h2,h3⟩) hm
theorem OM {d:Deferred}{g:FuncId}{fv:_}{cap:Array Value}{us:List Value}(hbD:base.D=[d]) (ht:d.target = .fn fv cap) (hinv:∀ w1,(invoke d.target d.args).run E.P w1 = .ok (.enter g us.toArray) w1) (hcall:Rq E.P g us){fn:Func}{S:Value->World->Prop}{xs:List AV}(hres:Eo E.P s.fr s.hp fn.results.toList=some xs)
  (hS:∀ w' u,w.heap.size<=w'.heap.size->w'.os=w.os->w'.tape=w.tape->w'.output=w.output->(∀ c,c < base.n->w'.heap[c]? = w.heap[c]?)->HR w' Z R s.hp->VR w' Z R (Er xs) u->S u w') :
  ∀ {D:List Deferred} {w1:World},SR E base w1 Z R s { a with defers:=D }->w1.heap.size=w.heap.size->w1.os=w.os->w1.tape=w.tape->w1.output=w.output->(∀ c,c < base.n->w1.heap[c]? = w.heap[c]?) ->
  LeavesInM (Fw none) 0 E.P fn a.tmps (fun e w'=>match e with | .returned v=>S v w' | _=>False) D .returning w1
 | [],w1,sr,hz,ho,ht',hp,hb=>by
  have:=sr.mks
  unfold Mks MksD at this
  rw [hbD] at this
  cases this
 | d'::D,w1,sr,hz,ho,ht',hp,hb=>by
  rcases sr.mks with ⟨Ds',e,hno,hD⟩ | ⟨⟨r,h1,h2,h3,h4,h5,h6⟩,hD⟩
  ·rw [hbD] at e
   injection e with e1 e2
   subst e1 e2
   refine ⟨by simp,.inr ⟨(fun h=>by cases h),fv,cap,g,us.toArray,ht,hinv w1,fun _ _=>trivial,CallsDIn.mono (hcall w1) fun e u' w2 he=>?_⟩⟩
   cases e with
   | returned v =>
    obtain ⟨k1,k2⟩:=he
    dsimp only
    rw [k1]
    refine Hu (base:=⟨base.n,[]⟩) (w:=w2) rfl hres (fun w3 u g1 g2 g3 g4 g5 g6 g7=>hS w3 u ?_ (g2.trans (k2.os.trans ho)) (g3.trans (k2.tape.trans ht')) (g4.trans (k2.output.trans hp)) (fun c hc=>?_) g6 g7) (sr.grown (b':=⟨base.n,[]⟩) rfl k2 hD) rfl rfl rfl rfl (fun _ _=>rfl)
    ·rw [g1,<-hz]; exact k2.size
    ·rw [g5 c hc,k2.block c (Nat.lt_of_lt_of_le hc sr.bs) (by simp)]; exact hb c hc
   | panicked c=>exact he.elim
   | outgrown=>exact he.elim
  ·subst h2
   have hb':∀ c,(Z c\/own R s.hp c)->(w1.putObj r (.deferred none)).heap[c]? = w1.heap[c]?:=fun c hc=>Gc (fun e=>by subst e; exact hc.elim h4 h5)
   exact ⟨by simp,.inl ⟨r,w1.putObj r (.deferred none),rfl,run_takeDeferred h3,OM hbD ht hinv hcall hres hS ⟨sr.hh.off (Ci _ _ _) hb',sr.fr.off fun c hc=>hb' c (.inl hc),MksD.put hD h6,sr.gl.off fun c hc=>hb' c (.inl hc),by rw [Ci]; exact sr.bs⟩ (by rw [Ci]; exact hz) ho ht' hp (fun c hc=>(Gc (by omega)).trans (hb c hc))⟩⟩
/-- The frame at the entry. -/
theorem WE {fn:Func}{args:List AV}{us:List Value}(hh:HR w Z R h) (hv:VRs w Z R args us) (hg:GI E w Z):SR E (.of w.heap.size) w Z R ⟨args.map some++List.replicate (fn.ntmps - args.length) (some (.tp [])),h⟩ { tmps:=us.toArray++Array.replicate (fn.ntmps - us.toArray.size) undef,defers:=[] }:=by
 have hul:us.length=args.length:=hv.len
 refine ⟨hh,⟨by simp [hul],fun t x hx=>?_⟩,rfl,hg,Nat.le_refl _⟩
 have e0:us.toArray++Array.replicate (fn.ntmps - us.toArray.size) undef=(us++List.replicate (fn.ntmps - us.length) undef).toArray:=by simp
 rw [e0,Array.getD_eq_getD_getElem?,List.getElem?_toArray]
 by_cases ht:t < args.length
 ·rw [List.getElem?_append_left (by simpa using ht),List.getElem?_map] at hx
  rw [List.getElem?_append_left (by omega)]
  cases hat:args[t]? with
  | none=>rw [hat] at hx; cases hx
  | some q =>
   rw [hat] at hx
   have hx:=OI (OI hx)
   subst hx
   obtain ⟨u,hu1,hu2⟩:=hv.get hat
   rw [hu1]; exact hu2
 ·rw [List.getElem?_append_right (by simp; omega),List.getElem?_replicate] at hx
  split at hx
  ·next hlt =>
   have hx:=OI (OI hx)
   subst hx
   rw [List.getElem?_append_right (by omega),List.getElem?_replicate,if_pos (by rw [hul]; simpa using hlt)]
   exact .tp (us:=[]) rfl (fun i x u hx=>by simp at hx)
  ·cases hx
/-- A function whose body is: A; B; a closure is made and deferred; the rest. -/
theorem Pi (hE:EnvOk E){f g:FuncId}{fn:Func}{A B rest:Code}{id:Nat}{o1 o2:Oper}{args cs xs:List AV}{s1 s2 s3 s4:St}{ex:Ex}{p:Operand}{tys:Array TypeId}{us:List Value}
  (hf:E.P.funcs[f]? = some fn) (hb:fn.body=some (.seq A (.seq B (.seq (.region id #[o1,o2] false) rest)))) (hdA:Cl A=true) (hdB:Cl B=true) (hdR:Cl rest=true)
  (eA:evC E n ⟨none,false⟩ A ⟨args.map some++List.replicate (fn.ntmps - args.length) (some (.tp [])),h⟩=some (.normal,s1)) (eB:evC E n ⟨none,false⟩ B s1=some (.normal,s2)) (hg1:o1.guard=none) (e1:op1 E (evC E n) ⟨none,false⟩ o1 s2=some s3) (hg2:o2.guard=none) (ho2:o2.op = .defer ⟨.value p,#[],tys⟩) (hd2:o2.dst=none) (hp:opA E s3.fr p=some (.fn g [] cs))
  (eR:evC E n ⟨none,false⟩ rest s3=some (ex,s4)) (hex:ex = .normal\/ex = .ret) (hres:Eo E.P s4.fr s4.hp fn.results.toList=some xs) (hcl:B4 E.P g) (hdef:∀ us:List Value,us.length=cs.length->Rq E.P g us)
  (hh:HR w Z R h) (hv:VRs w Z R args us) (hg:GI E w Z):Pa E f us w Z R h (Er xs) s4.hp:=by
 have hCS:=(code_sound hE n).1
 refine callsIn_wide.1 (callsIn_of_wp_marks (F:=Fw none) (n:=0) hf hb trivial ?_)
 refine wpIn_seq (hCS _ A _ .normal s1 hdA eA none (.of w.heap.size) _ _ w Z R (fun _=>rfl) (WE hh hv hg) (fun y hy=>by cases hy) fun a1 w1 Z1 R1 sr1 st1=>?_)
 refine wpIn_seq (hCS _ B _ .normal s2 hdB eB none (.of w.heap.size) _ _ w1 Z1 R1 (fun _=>rfl) sr1 (fun y hy=>by cases hy) fun a2 w2 Z2 R2 sr2 st2=>?_)
 refine wpIn_seq (wpIn_region_list ?_)
 unfold wpListIn
 rw [if_pos (by simp [Region.wanted,hg1])]
 refine lw_wpIn none (op1_lw hE hCS e1 sr2 fun a3 w3 Z3 R3 sr3 st3=>?_)
 unfold wpListIn
 rw [if_pos (by simp [Region.wanted,hg2])]
 have hvf:=opA_vr sr3 p _ hp
 generalize hva:a3.eval p=va at hvf
 cases hvf with
 | fn hl hl' hx hy =>
  rename_i u1 u2
  have e1':u1=[]:=by simpa using hl
  subst e1'
  have hrun:(o2.semAt (Fw none).round a3.eval).run E.P w3 = .ok (.defer ⟨.fn (.func g) u2.toArray,#[]⟩) w3:=by
   show (o2.semAt none a3.eval).run E.P w3=_
   rw [Oper.semAt_none]
   simp [execOp,ho2,resolve,hva,Deferred.ofValue]
  refine ⟨fun _ _=>trivial,?_⟩
  rw [hrun,Oper.uponIn_defer,hd2]
  have sr4:SR E ⟨w.heap.size,[⟨.fn (.func g) u2.toArray,#[]⟩]⟩ w3 Z3 R3 s3 { a3 with defers:=⟨.fn (.func g) u2.toArray,#[]⟩::a3.defers }:=by
   refine ⟨sr3.hh,sr3.fr,.inl ⟨_,rfl,fun r h=>?_,sr3.mks⟩,sr3.gl,sr3.bs⟩
   unfold Ra at h
   injection h with h
   cases h
  refine hCS _ rest _ ex s4 hdR eR none ⟨w.heap.size,[⟨.fn (.func g) u2.toArray,#[]⟩]⟩ _ _ w3 Z3 R3 (fun _=>rfl) sr4 (fun y hy=>by cases hy) fun a5 w5 Z5 R5 sr5 st5=>?_
  have st:=((st1.trans st2).trans st3).trans st5
  have hle:=OM (base:=⟨w.heap.size,[⟨.fn (.func g) u2.toArray,#[]⟩]⟩) (w:=w5) (a:=a5) (fn:=fn) (g:=g) (us:=u2) rfl rfl (fun w1=>by simp [invoke,hcl.run]) (hdef u2 hl') (S:=fun v w''=>∃ Z' R',HR w'' Z' R' s4.hp/\VR w'' Z' R' (Er xs) v/\Step w Z R h w'' Z' R' s4.hp) hres (fun w'' u g1 g2 g3 g4 g5 g6 g7=>⟨Z5,R5,g6,g7,⟨g2.trans st.os,g3.trans st.tape,g4.trans st.output,Nat.le_trans st.size g1,fun c hc hn=>(g5 c hc).trans (st.block c hc hn),st.own_,st.z,st.z',st.r⟩⟩) (D:=a5.defers) (w1:=w5) sr5 rfl rfl rfl rfl (fun _ _=>rfl)
  rcases hex with rfl | rfl
  ·exact hle
  ·exact hle
end
/-- Operations of a deferred call, where nothing is to be recovered. -/
def Li (E:Env):List Oper->St->Option St
 | [],s=>some s
 | o::rest,s=>match o.guard with
  | some _=>none
  | none=>match o.op with
   | .call ⟨.builtin .recover,_,_⟩=>Li E rest ⟨Kn s.fr o.dst (.v .nilIface),s.hp⟩
   | .typeAssert x _ u true=>match opA E s.fr x,E.P.underlying u,Fj E.P u with
    | some (.v .nilIface),some _,some z=>Li E rest ⟨Kn s.fr o.dst (.tp [z,.v (.bool false)]),s.hp⟩
    | _,_,_=>none
   | .store t p q=>match o.dst,opA E s.fr p,opA E s.fr q with
    | none,some y,some z=>match GW E.P s.hp t y z with
     | some h=>Li E rest ⟨s.fr,h⟩
     | none=>none
    | _,_,_=>none
   | op=>match GV E.P (opA E s.fr) s.hp op with
    | some x=>Li E rest ⟨Kn s.fr o.dst x,s.hp⟩
    | none=>match ID E.P (opA E s.fr) s.hp op with
     | some (x,h)=>Li E rest ⟨Kn s.fr o.dst x,h⟩
     | none=>none
section
variable {E:Env}{base:Bs}{ops:Array Oper}{Q:Exit->Act->List Frame->World->Prop}{cs:List Frame}{D:List Deferred}{s':St}
theorem OR (a:Act) (d:Option Tmp) (u:Value):(a.put d u).defers=a.defers:=by cases d <;> rfl
theorem XZ {P:Program}{t u:TypeId}{d:TypeDesc}{v:Value}{w:World}(hu:P.underlying u=some d) (hz:∀ w,(zeroValue u).run P w = .ok v w):(Instr.typeAssert .nilIface t u true).run P w = .ok (.tuple #[v,.bool false]) w:=by
 unfold Instr.typeAssert
 rw [Sem.run_bind,run_underlying hu]
 cases d <;> simp [hz,Result.andThen]
theorem H5 (hrec:recoverD cs=none):∀ {rest:List Oper}{s:St}{a:Act}{w:World}{Z:Nat->Prop}{R:List RI}{k:Nat},Li E rest s=some s'->SR E base w Z R s a->a.defers=D->(∀ j,rest[j]? = ops[k + j]?) ->
  (∀ a' w' Z' R',SR E base w' Z' R' s' a'->a'.defers=D->Step w Z R s.hp w' Z' R' s'.hp->Q .normal a' cs w')->wpOpsSIn (Fw none) 0 E.P ops Q (List.range' k rest.length) a cs w
 | [],s,a,w,Z,R,k,e,sr,hD,hops,q=>by
  injection e with e; subst e
  exact q a w Z R sr hD (Step.refl _ _ _ _)
 | o::rest,s,a,w,Z,R,k,e,sr,hD,hops,q=>by
  have hok:ops[k]? = some o:=by have:=hops 0; simpa using this.symm
  have hops':∀ j,rest[j]? = ops[k + 1 + j]?:=fun j=>by have:=hops (j + 1); simpa [Nat.add_assoc,Nat.add_comm 1 j] using this
  have hρ:∀ o x,opA E s.fr o=some x->VR w Z R x (a.eval o):=fun o x e=>opA_vr sr o x e
  unfold Li at e
  split at e
  ·cases e
  ·next hg =>
   rw [List.length_cons,List.range'_succ]
   unfold wpOpsSIn
   rw [hok]
   dsimp only
   refine ⟨fun _ _=>trivial,?_⟩
   rw [if_pos (by simp [Region.wanted,hg])]
   have val:∀ {x:AV} {h':Hp},Ld E.P w Z R s.hp x h' a.eval o->Li E rest ⟨Kn s.fr o.dst x,h'⟩=some s'->(match (execOp a.eval o).run E.P w with
    | .ok .recover w'=>(match recoverD cs with
     | some (v,cs')=>wpOpsSIn (Fw none) 0 E.P ops Q (List.range' (k + 1) rest.length) (a.put o.dst v) cs' w'
     | none=>wpOpsSIn (Fw none) 0 E.P ops Q (List.range' (k + 1) rest.length) (a.put o.dst .nilIface) cs w')
    | .ok (.value v) w'=>wpOpsSIn (Fw none) 0 E.P ops Q (List.range' (k + 1) rest.length) (a.put o.dst v) cs w'
    | .ok .skip w'=>wpOpsSIn (Fw none) 0 E.P ops Q (List.range' (k + 1) rest.length) (a.put o.dst undef) cs w'
    | .halt (.panic v) w'=>Q (.panic [{ v,recovered:=false }]) a cs w'
    | _=>False):=fun {x h'} hl e=>by
    obtain ⟨u,w',R',h1,h2,h3,h4⟩:=hl
    rw [h1]
    exact H5 hrec e ((sr.step h2 h4).put h3) ((OR _ _ _).trans hD) hops' fun a' w'' Z'' R'' sr'' hD'' st=>q a' w'' Z'' R'' sr'' hD'' (h4.trans st)
   split at e
   ·next b c ho =>
    have hr:(execOp a.eval o).run E.P w = .ok .recover w:=by
     simp [execOp,ho,resolve,invoke]
     rfl
    rw [hr]
    dsimp only
    rw [hrec]
    exact H5 hrec e (sr.put (.v rfl)) ((OR _ _ _).trans hD) hops' q
   ·next x t u ho =>
    split at e
    ·next d z hx hu hz =>
     have hv:=(hρ _ _ hx).v_inv
     obtain ⟨v,hv1,_,hrun,_⟩:=IB (w:=w) (Z:=Z) (R:=R) hz
     refine val (x:= .tp [z,.v (.bool false)]) (h':=s.hp) ⟨.tuple #[v,.bool false],w,R,?_,sr.hh,.tp (us:=[v,.bool false]) rfl (fun i x u hx hu=>?_),Step.refl _ _ _ _⟩ e
     ·simp only [execOp,ho,hv]
      rw [Sem.run_bind,XZ hu hrun]
      rfl
     ·match i with
      | 0=>simp at hx hu; subst hx hu; exact hv1
      | 1=>simp at hx hu; subst hx hu; exact .v rfl
      | i + 2=>simp at hx
    ·cases e
   ·next t p r ho =>
    split at e
    ·next y z hd hp hq =>
     split at e
     ·next h' hst =>
      obtain ⟨w',h1,h2,h3⟩:=I9 hρ sr.hh ho hp hq hst
      rw [h1,hd]
      dsimp only
      exact H5 hrec e (sr.step h2 h3) hD hops' fun a' w'' Z'' R'' sr'' hD'' st=>q a' w'' Z'' R'' sr'' hD'' (h3.trans st)
     ·cases e
    ·cases e
   ·split at e
    ·next x hx=>exact val ((evOpQ_sound sr.hh hρ hx).ld sr.hh) e
    ·split at e
     ·next x h' hx=>exact val (evOpN_sound hρ sr.hh hx).ld e
     ·cases e
/-- A deferred closure of the form: what it recovers is looked at; where it was nothing, nothing is done. -/
theorem W0 {g:FuncId}{fn:Func}{id0 id1:Nat}{ops0 ops1:Array Oper}{x:Operand}{X:Code}{s1 s2:St}{us:List Value}(hG:∀ q,E.G q=none) (hf:E.P.funcs[g]? = some fn) (hb:fn.body=some (.seq (.region id0 ops0 false) (.seq (.region id1 ops1 false) (.cond x X .skip)))) (hres:fn.results=#[])
  (e1:Li E ops0.toList ⟨List.replicate fn.ntmps none,[]⟩=some s1) (e2:Li E ops1.toList s1=some s2) (ht:opA E s2.fr x=some (.v (.bool false))) (hl:us.length<=fn.ntmps):Rq E.P g us:=by
 intro w1
 refine callsDIn_of_wpSIn hf hb trivial fun c₀ cs hm=>?_
 have hrec:recoverD (c₀::cs)=none:=by simp [recoverD,hm]
 have sr0:SR E (.of w1.heap.size) w1 (fun _=>False) [] ⟨List.replicate fn.ntmps none,[]⟩ { tmps:=us.toArray++Array.replicate (fn.ntmps - us.toArray.size) undef,defers:=[] } :=
  ⟨hr_nil (fun _ h=>h.elim),⟨by simp; omega,fun t x hx=>by simp [List.getElem?_replicate] at hx⟩,rfl,(fun q y hy=>by rw [hG] at hy; cases hy),Nat.le_refl _⟩
 refine wpSIn_seq (wpSIn_region ?_)
 rw [List.range_eq_range',show ops0.size=ops0.toList.length by simp]
 refine H5 hrec (rest:=ops0.toList) (k:=0) (D:=[]) e1 sr0 rfl (fun j=>by simp) fun a2 w2 Z2 R2 sr2 hD2 st2=>?_
 show (Code.seq _ _).wpSIn _ _ _ _ _ _ _
 refine wpSIn_seq (wpSIn_region ?_)
 rw [List.range_eq_range',show ops1.size=ops1.toList.length by simp]
 refine H5 hrec (rest:=ops1.toList) (k:=0) (D:=[]) e2 sr2 hD2 (fun j=>by simp) fun a3 w3 Z3 R3 sr3 hD3 st3=>?_
 show (Code.cond _ _ _).wpSIn _ _ _ _ _ _ _
 refine wpSIn_cond (t:=false) (opA_vr sr3 _ _ ht).v_inv ?_
 refine wpSIn_of_wpIn rfl (wpIn_skip ?_)
 have st:=st2.trans st3
 have h0:(Array.mapM (SH a3.tmps) (#[]:Array ResultVar)).run E.P w3 = .ok #[] w3:=OW (us:=[]) (by simp)
 exact ⟨hD3,.returning,by rw [<-hm],.tuple #[],by rw [OV,hres,Sem.run_bind,h0]; rfl,rfl,⟨st.os,st.tape,st.output,st.size,fun c hc _=>st.block c hc O8⟩⟩
end
end Go.Proofs.YtlalcoehgkmhlaaGreatDoor
namespace Go.Proofs.YtlalcoehgkmhlaaGreatDoor
open Go.Shelf
def Qf:Go.Shelf.Ren:=⟨fun | 217=>194 | 266=>211 | n=>n,fun | 9=>9 | 5=>5 | 3=>3 | n=>n,fun | n=>n⟩
theorem Vm:Go.Proofs.Lays.n217 Tryz.prog Qf:={
 mixed:=by kernel_rfl
 f217:=Tryz.func194.trans (congrArg some (by kernel_rfl))
 f266:=Tryz.func211.trans (congrArg some (by kernel_rfl))
 t3:=Tryz.underlying3
 a3:=Tryz.isAgg3
 z3:=Tryz.sizeOf3
 v3:=Tryz.zeroValue3
 t5:=Tryz.underlying5
 a5:=Tryz.isAgg5
 z5:=Tryz.sizeOf5
 v5:=Tryz.zeroValue5
 t9:=Tryz.underlying9
 a9:=Tryz.isAgg9
 z9:=Tryz.sizeOf9
 v9:=Tryz.zeroValue9 }
def Qe:Go.Shelf.Ren:=⟨fun | 138=>199 | 195=>213 | 218=>215 | 143=>200 | 219=>173 | 217=>194 | 225=>195 | 224=>196 | 267=>197 | 266=>211 | 314=>212 | n=>n,fun | 9=>9 | 3=>3 | 4=>4 | 5=>5 | 0=>0 | 46=>178 | 146=>222 | 51=>221 | n=>n,fun | 1=>0 | n=>n⟩
theorem Vl:Go.Proofs.Lays.n138 Tryz.prog Qe:={
 mixed:=by kernel_rfl
 f138:=Tryz.func199.trans (congrArg some (by kernel_rfl))
 f143:=Tryz.func200.trans (congrArg some (by kernel_rfl))
 f195:=Tryz.func213.trans (congrArg some (by kernel_rfl))
 f217:=Tryz.func194.trans (congrArg some (by kernel_rfl))
 f218:=Tryz.func215.trans (congrArg some (by kernel_rfl))
 f219:=Tryz.func173.trans (congrArg some (by kernel_rfl))
 f224:=Tryz.func196.trans (congrArg some (by kernel_rfl))
 f225:=Tryz.func195.trans (congrArg some (by kernel_rfl))
 f266:=Tryz.func211.trans (congrArg some (by kernel_rfl))
 f267:=Tryz.func197.trans (congrArg some (by kernel_rfl))
 f314:=Tryz.func212.trans (congrArg some (by kernel_rfl))
 t0:=Tryz.underlying0
 a0:=Tryz.isAgg0
 z0:=Tryz.sizeOf0
 v0:=Tryz.zeroValue0
 t3:=Tryz.underlying3
 a3:=Tryz.isAgg3
 z3:=Tryz.sizeOf3
 v3:=Tryz.zeroValue3
 t4:=Tryz.underlying4
 a4:=Tryz.isAgg4
 z4:=Tryz.sizeOf4
 v4:=Tryz.zeroValue4
 t5:=Tryz.underlying5
 a5:=Tryz.isAgg5
 z5:=Tryz.sizeOf5
 v5:=Tryz.zeroValue5
 t9:=Tryz.underlying9
 a9:=Tryz.isAgg9
 z9:=Tryz.sizeOf9
 v9:=Tryz.zeroValue9
 t46:=Tryz.underlying178
 a46:=Tryz.isAgg178
 z46:=Tryz.sizeOf178
 v46:=Tryz.zeroValue178
 t51:=Tryz.underlying221
 a51:=Tryz.isAgg221
 z51:=Tryz.sizeOf221
 v51:=Tryz.zeroValue221
 t146:=Tryz.underlying222
 a146:=Tryz.isAgg222
 z146:=Tryz.sizeOf222
 v146:=Tryz.zeroValue222
 g1:=by kernel_rfl }
open Go.RowKit Go.Lib
/-- The first place of a byte. -/
def ixB:List AV->Option AV
 | [.st s,.v (.int .u8 c)]=>some (.v (.int .i64 (Lib.indexByte s c.toNat.toUInt8)))
 | _=>none
theorem W9 {E:Env}(hE:EnvOk E) (hP:E.P=Tryz.prog):EnvOk (E.withX 194 ixB):=by
 refine hE.withX (hP ▸ ⟨Tryz.call194⟩) fun xs x h w Z us _ _ hv=>?_
 unfold ixB at h
 split at h
 ·next s c =>
  injection h with h
  subst h
  obtain ⟨u1,r1,rfl,h1,hv⟩:=hv.head
  obtain ⟨u2,r2,rfl,h2,hv⟩:=hv.head
  have:r2=[]:=List.eq_nil_of_length_eq_zero hv.len
  subst this
  have e2:=h2.v_inv
  subst e2
  cases h1 with
  | st hs hn =>
   rename_i sb
   rw [hP]
   refine Calls.mono (Any.stringslite_IndexByte Vm sb c w) fun e w' he=>?_
   obtain ⟨rfl,rfl⟩:=he
   exact ⟨NL _,by rw [hs]; exact .v rfl⟩
 ·cases h
/-- How often a byte stands in a string. -/
def YP:List AV->Option AV
 | [.st s,.st [c]]=>some (.v (.int .i64 (Lib.countByte s c)))
 | _=>none
theorem VI {E:Env}(hE:EnvOk E) (hP:E.P=Tryz.prog):EnvOk (E.withX 199 YP):=by
 refine hE.withX (hP ▸ ⟨Tryz.call199⟩) fun xs x h w Z us _ _ hv=>?_
 unfold YP at h
 split at h
 ·next s c =>
  injection h with h
  subst h
  obtain ⟨u1,r1,rfl,h1,hv⟩:=hv.head
  obtain ⟨u2,r2,rfl,h2,hv⟩:=hv.head
  have:r2=[]:=List.eq_nil_of_length_eq_zero hv.len
  subst this
  obtain ⟨sb,rfl,hs⟩:∃ sb,u1 = .string sb/\sb.data.toList=s:=by cases h1 with | st h _=>exact ⟨_,rfl,h⟩
  obtain ⟨sc,rfl,hs2⟩:∃ sc,u2 = .string sc/\sc.data.toList=[c]:=by cases h2 with | st h _=>exact ⟨_,rfl,h⟩
  have e:sc=ByteArray.mk #[c]:=by
   obtain ⟨d⟩:=sc
   congr 1
   apply Array.ext'
   exact hs2
  subst e
  rw [hP]
  refine Calls.mono (Any.strings_Count_one Vl sb c w) fun e w' he=>?_
  obtain ⟨rfl,rfl⟩:=he
  exact ⟨NL _,by rw [hs]; exact .v rfl⟩
 ·cases h
/-- A call of a function that defers one closure: the closure, how many captures it has, what is handed back. -/
def VK (E:Env) (n:Nat) (fn:Func) (args:List AV):Option (FuncId×Nat×AV×Hp):=match fn.body with
 | some (.seq A (.seq B (.seq (.region _ ops false) rest)))=>match ops.toList with
  | [o1,o2]=>match o1.guard,o2.guard,o2.dst,o2.op with
   | none,none,none,.defer ⟨.value p,dargs,_⟩ =>
    if dargs.size=0/\Cl A=true/\Cl B=true/\Cl rest=true then
     match evC E n ⟨none,false⟩ A ⟨args.map some++List.replicate (fn.ntmps - args.length) (some (.tp [])),[]⟩ with
     | some (.normal,s1)=>match evC E n ⟨none,false⟩ B s1 with
      | some (.normal,s2)=>match op1 E (evC E n) ⟨none,false⟩ o1 s2 with
       | some s3=>match opA E s3.fr p with
        | some (.fn g [] cs)=>match evC E n ⟨none,false⟩ rest s3 with
         | some (.normal,s4)=>(Eo E.P s4.fr s4.hp fn.results.toList).map fun xs=>(g,cs.length,Er xs,s4.hp)
         | some (.ret,s4)=>(Eo E.P s4.fr s4.hp fn.results.toList).map fun xs=>(g,cs.length,Er xs,s4.hp)
         | _=>none
        | _=>none
       | none=>none
      | _=>none
     | _=>none
    else none
   | _,_,_,_=>none
  | _=>none
 | _=>none
theorem QT {E:Env}(hE:EnvOk E){n:Nat}{f:FuncId}{fn:Func}{args:List AV}{g m:Nat}{x:AV}{h':Hp}(hf:E.P.funcs[f]? = some fn) (hcl:B4 E.P g) (hdef:∀ us:List Value,us.length=m->Rq E.P g us) (e:VK E n fn args=some (g,m,x,h')){w:World}{Z:Nat->Prop}{us:List Value}(hz:∀ c,Z c->c < w.heap.size) (hg:GI E w Z) (hv:VRs w Z [] args us):Pa E f us w Z [] [] x h':=by
 unfold VK at e
 split at e
 ·next A B id ops rest hb =>
  split at e
  ·next o1 o2 hops =>
   split at e
   ·next p dargs tys hg1 hg2 hd2 ho2 =>
    split at e
    ·next hc =>
     obtain ⟨c1,c2,c3,c4⟩:=hc
     have hops':ops=#[o1,o2]:=by apply Array.ext'; exact hops
     have hda:dargs=#[]:=Array.eq_empty_of_size_eq_zero c1
     subst hops' hda
     split at e
     ·next s1 e1 =>
      split at e
      ·next s2 e2 =>
       split at e
       ·next s3 e3 =>
        split at e
        ·next g' cs hp =>
         split at e
         ·next s4 e4 =>
          obtain ⟨xs,hxs,hxe⟩:=Option.map_eq_some_iff.1 e
          injection hxe with k1 k2; injection k2 with k2 k3; injection k3 with k3 k4
          subst k1 k2 k3 k4
          exact Pi hE hf hb c2 c3 c4 e1 e2 hg1 e3 hg2 ho2 hd2 hp e4 (.inl rfl) hxs hcl hdef (hr_nil hz) hv hg
         ·next s4 e4 =>
          obtain ⟨xs,hxs,hxe⟩:=Option.map_eq_some_iff.1 e
          injection hxe with k1 k2; injection k2 with k2 k3; injection k3 with k3 k4
          subst k1 k2 k3 k4
          exact Pi hE hf hb c2 c3 c4 e1 e2 hg1 e3 hg2 ho2 hd2 hp e4 (.inr rfl) hxs hcl hdef (hr_nil hz) hv hg
         ·cases e
        ·cases e
       ·cases e
      ·cases e
     ·cases e
    ·cases e
   ·cases e
  ·cases e
 ·cases e
/-- .. as a contract. -/
def dfX (E:Env) (n:Nat) (fn:Func) (g m:Nat) (args:List AV):Option AV:=match VK E n fn args with
 | some (g',m',x,h')=>if g'=g/\m'=m then SM h' x else none
 | none=>none
theorem W2 {E:Env}(hE:EnvOk E){n:Nat}{f:FuncId}{fn:Func}{g m:Nat}(hf:E.P.funcs[f]? = some fn) (hc:B4 E.P f) (hcl:B4 E.P g) (hdef:∀ us:List Value,us.length=m->Rq E.P g us):EnvOk (E.withX f (dfX E n fn g m)):=by
 refine hE.withX hc fun xs y h w Z us hz hgi hv=>?_
 unfold dfX at h
 split at h
 ·next g' m' x h' e =>
  split at h
  ·next hgm =>
   obtain ⟨rfl,rfl⟩:=hgm
   exact frz_ret (QT hE hf hcl hdef e hz hgi hv) h
  ·cases h
 ·cases h
noncomputable def E1:Env:=(E0.withX 194 ixB).withX 199 YP
theorem We:EnvOk E1:=VI (W9 AC rfl) rfl
theorem XR (us:List Value) (hl:us.length=2):Rq E1.P 124 us :=
 W0 (E:=E1) (s1:=(Li E1 (match Tryz.f124.body with | some (.seq (.region _ ops _) _)=>ops.toList | _=>[]) ⟨List.replicate Tryz.f124.ntmps none,[]⟩).getD ⟨[],[]⟩) (s2:=(Li E1 (match Tryz.f124.body with | some (.seq _ (.seq (.region _ ops _) _))=>ops.toList | _=>[]) ((Li E1 (match Tryz.f124.body with | some (.seq (.region _ ops _) _)=>ops.toList | _=>[]) ⟨List.replicate Tryz.f124.ntmps none,[]⟩).getD ⟨[],[]⟩)).getD ⟨[],[]⟩)
  (fun _=>rfl) Tryz.func124 rfl rfl (by kernel_rfl) (by kernel_rfl) (by kernel_rfl) (by rw [hl]; decide)
noncomputable def E2:Env:=E1.withX 72 (dfX E1 3000 Tryz.f72 124 2)
theorem X2:EnvOk E2:=W2 We Tryz.func72 ⟨Tryz.call72⟩ ⟨Tryz.call124⟩ XR
def exC:List AV:=[.ag [.v (.int .u8 1),.st [],.v (.bool false),.sl 1 [.st [100,117,107,101],.st [99,111,117,110,116]],.v (.int .i64 0)],.ag [.v (.int .u8 2),.st [100,117,107,101],.v (.bool false),.e0,.v (.int .i64 0)],.ag [.v (.int .u8 4),.st [],.v (.bool false),.e0,.v (.int .i64 1)],.ag [.v (.int .u8 8),.st [],.v (.bool false),.e0,.v (.int .i64 0)]]
def exG:List AV:=[.ag [.st [97,100,97],.st [99,111,117,110,116],.st [],.v (.int .i64 0),.v (.int .i64 2),.st [],.v (.bool false),.v (.bool false),.e0],.ag [.st [98,101,97],.st [100,117,107,101],.st [],.v (.int .i64 1700),.v (.int .i64 0),.st [],.v (.bool false),.v (.bool false),.e0],.ag [.st [99,121,114],.st [100,117,107,101],.st [],.v (.int .i64 1650),.v (.int .i64 0),.st [],.v (.bool false),.v (.bool false),.e0],.ag [.st [100,97,110],.st [],.st [],.v (.int .i64 0),.v (.int .i64 1),.st [],.v (.bool false),.v (.bool false),.e0],.ag [.st [101,118,97],.st [99,111,117,110,116],.st [],.v (.int .i64 0),.v (.int .i64 1),.st [],.v (.bool false),.v (.bool false),.e0]]
def i4 (n:Int):AV:= .v (.int .i64 n)
def exT:List UInt8:=[114,97,110,107,32,100,117,107,101,32,99,111,117,110,116,10,97,109,111,110,103,32,100,117,107,101,32,101,108,100,101,114,10,115,105,100,101,32,49,32,102,105,114,115,116,10,110,97,109,101,10]
end Go.Proofs.YtlalcoehgkmhlaaGreatDoor
