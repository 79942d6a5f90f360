/- Lemmas for the proof. -/
import Derived.Test.YtlalcoehgkmhlaaGreatDoorCourtTurnsM1
import Derived.Test.YtlalcoehgkmhlaaGreatDoorCourtTurnsM2
import Derived.Test.YtlalcoehgkmhlaaGreatDoorCourtTurnsM3
import Derived.Test.YtlalcoehgkmhlaaGreatDoorCourtTurnsM4
import Derived.Test.YtlalcoehgkmhlaaGreatDoorCourtTurnsM5
set_option maxHeartbeats 4000000
set_option maxRecDepth 100000
namespace Go.Proofs.YtlalcoehgkmhlaaGreatDoor
open Go.RowKit
/- cmp.Compare[int] -/
noncomputable def Mb:Code:=BL Tryz.f113
def Dc (x0:Int) (x1:Int):Option (Int) :=
 (Hn x0).bind fun v1 =>
 (Hn x1).bind fun v2 =>
 if v1=true then
 if v2=true then
 some 0
 else
 some (-1)
 else
 if v2=true then
 some 1
 else
 if (decide (x0 < x1))=true then
 some (-1)
 else
 if (decide (x0 > x1))=true then
 some 1
 else
 some 0
def Ja:Cs (Int×Int×Unit):=(csC cdI (csC cdI csN))
def Jh (r:Int):AV:=cdI.enc r
theorem P9 (x0:Int) (x1:Int) (r:Int) (h:Dc x0 x1=some r):Sem E0 ⟨none,false⟩ Mb ⟨Fr 20 (A6 0 (Ja.enc (x0,x1,()))),[]⟩ fun e s'=>(e = .normal\/e = .ret)/\∃ xs,EZ E0.P s'.fr s'.hp Tryz.f113.results.toList=some xs/\Ee xs=Jh r:=by
 unfold Dc at h
 let p1:Nat×AV:=(1,.j x1)
 let p2:Nat×AV:=(0,.j x0)
 refine Ax (BY (s1:=⟨Fr 20 [p2,p1],[]⟩) AJ ?_);refine AK AC [p2,p1] [] ?_;refine AH ?_;obtain ⟨v1,hv1,h⟩:=OB h
 let p3:Nat×AV:=(5,.b v1)
 refine AM (s1:=⟨Fr 20 [p2,p1,p3],[]⟩) ?_ ?_
 ·refine AD (n:=20) AC 1 [p2,p1,(7,.j x0)] [] kr ?_
  refine AS (caps:=[]) (xs:=[.j x0]) (u:=(x0,())) rfl rfl PS rfl (AB rfl) kr kr (AL (AW (c:=cdI) (v:=x0)) Ao) (.inl kr) hv1 ?_;exact Ad AC
 refine AH ?_;obtain ⟨v2,hv2,h⟩:=OB h;refine AM (s1:=⟨Fr 20 [p2,p1,p3,(6,.b v2)],[]⟩) ?_ ?_
 ·refine AD (n:=20) AC 1 [p2,p1,p3,(9,.j x1)] [] kr ?_
  refine AS (caps:=[]) (xs:=[.j x1]) (u:=(x1,())) rfl rfl PS rfl (AB rfl) kr kr (AL (AW (c:=cdI) (v:=x1)) Ao) (.inl kr) hv2 ?_;exact Ad AC
 refine AH ?_;refine AK AC [p2,p1,(6,.b v2),(11,.b v1)] [] ?_;refine AT (b:=v1) kr (fun hb3=>?_) (fun hb3=>?_)
 ·rw [if_pos hb3] at h
  refine AH ?_;refine AK AC [(12,.b v2)] [] ?_;refine AT (b:=v2) kr (fun hb4=>?_) (fun hb4=>?_)
  ·rw [if_pos hb4] at h
   refine AK AC [(4,.j 0)] [] ?_;refine AR ?_;have hq:=OI h; subst hq;exact ⟨⟨Fr 20 [(4,.j 0)],[]⟩,AJ,.inr rfl,[.j 0],kr,kr⟩
  ·rw [Bm hb4] at h
   refine AY ?_;refine AK AC [(4,.j (-1))] [] ?_;refine AR ?_;have hq:=OI h; subst hq;exact ⟨⟨Fr 20 [(4,.j (-1))],[]⟩,AJ,.inr rfl,[.j (-1)],kr,kr⟩
 ·rw [Bm hb3] at h
  refine AY ?_;refine AH ?_;refine AK AC [p2,p1,(13,.b v2)] [] ?_;refine AT (b:=v2) kr (fun hb5=>?_) (fun hb5=>?_)
  ·rw [if_pos hb5] at h
   refine AK AC [(4,.j 1)] [] ?_;refine AR ?_;have hq:=OI h; subst hq;exact ⟨⟨Fr 20 [(4,.j 1)],[]⟩,AJ,.inr rfl,[.j 1],kr,kr⟩
  ·rw [Bm hb5] at h
   refine AY ?_;refine AH ?_;refine AK AC [p2,p1,(16,.b (decide (x0 < x1)))] [] ?_;refine AT (b:=(decide (x0 < x1))) kr (fun hb6=>?_) (fun hb6=>?_)
   ·rw [if_pos hb6] at h
    refine AK AC [(4,.j (-1))] [] ?_;refine AR ?_;have hq:=OI h; subst hq;exact ⟨⟨Fr 20 [(4,.j (-1))],[]⟩,AJ,.inr rfl,[.j (-1)],kr,kr⟩
   ·rw [Bm hb6] at h
    refine AY ?_;refine AH ?_;refine AK AC [(19,.b (decide (x0 > x1)))] [] ?_;refine AT (b:=(decide (x0 > x1))) kr (fun hb7=>?_) (fun hb7=>?_)
    ·rw [if_pos hb7] at h
     refine AK AC [(4,.j 1)] [] ?_;refine AR ?_;have hq:=OI h; subst hq;exact ⟨⟨Fr 20 [(4,.j 1)],[]⟩,AJ,.inr rfl,[.j 1],kr,kr⟩
    ·rw [Bm hb7] at h
     refine AY ?_;refine AK AC [(4,.j 0)] [] ?_;refine AR ?_;have hq:=OI h; subst hq;exact ⟨⟨Fr 20 [(4,.j 0)],[]⟩,AJ,.inr rfl,[.j 0],kr,kr⟩
def Rr:List AV->Option AV:=ES Ja (fun a=>Dc a.1 a.2.1) Jh
theorem Hg:XOk 113 Rr:=by
 refine AU Tryz.func113 (c:=Mb) ?h2 ⟨Tryz.call113⟩ Ja (fun a=>Dc a.1 a.2.1) Jh (fun a=>(by show 2<=20; decide)) ?h3 ?h4
 case h2=>kernel_rfl
 case h3=>intro b; kernel_rfl
 case h4=>exact fun a b h=>P9 a.1 a.2.1 b h
/- trestle/court.by$1 -/
noncomputable def QY:Code:=BL Tryz.f205
def Dl {β:Type}(G:Ab->β->Option Int) (x0:Ab) (x1:Ab) (x2:β):Option (Int) :=
 (G x0 x2).bind fun v1 =>
 (G x1 x2).bind fun v2 =>
 (Dc v1 v2).bind fun v3 =>
 some v3
def Nj {β:Type}(fid:FuncId) (sx:Cs β) (hn:∀ x,(sx.enc x).all JN=true):Cs (Ab×Ab×β×Unit):=(csC AG (csC AG (csC (cdP (cdF fid sx hn)) csN)))
def Ns (r:Int):AV:=cdI.enc r
theorem UT {β:Type}{fid:FuncId}{sx:Cs β}{hn:∀ x,(sx.enc x).all JN=true}{G:Ab->β->Option Int}(hX:XOk fid (ES (csC AG sx) (fun a=>G a.1 a.2) cdI.enc)) (x0:Ab) (x1:Ab) (x2:β) (r:Int) (h:Dl G x0 x1 x2=some r):Sem E0 ⟨none,false⟩ QY ⟨Fr 13 (A6 0 ((Nj fid sx hn).enc (x0,x1,x2,()))),[]⟩ fun e s'=>(e = .normal\/e = .ret)/\∃ xs,EZ E0.P s'.fr s'.hp Tryz.f205.results.toList=some xs/\Ee xs=Ns r:=by
 unfold Dl at h
 refine Ax (BY (s1:=⟨Fr 13 [(0,AG.enc x0),(1,AG.enc x1),(2,.pe (.fn fid [] (sx.enc x2)) 0)],[]⟩) AJ ?_)
 refine AK AC [(2,.pe (.fn fid [] (sx.enc x2)) 0),(3,.pt 0 0 0),(4,.pt 1 0 0)] [some ⟨10,115,[AG.enc x0],false⟩,some ⟨10,115,[AG.enc x1],false⟩] ?_
 refine AH ?_
 obtain ⟨v1,hv1,h⟩:=OB h
 obtain ⟨v2,hv2,h⟩:=OB h
 obtain ⟨v3,hv3,h⟩:=OB h
 refine D5 AC (s1:=⟨Fr 13 [(5,.v (.int .i64 v3))],[]⟩) kr ?_ ?_
 ·refine Aa (n:=13) AC 2 [(2,.pe (.fn fid [] (sx.enc x2)) 0),(4,.pt 1 0 0),(6,.fn fid [] (sx.enc x2)),(7,AG.enc x0)] [some ⟨10,115,[AG.enc x0],false⟩,some ⟨10,115,[AG.enc x1],false⟩] kr kr ?_
  refine Bx (caps:=sx.enc x2) (xs:=[AG.enc x0]) (u:=(x0,x2)) rfl rfl hX rfl (AB rfl) kr kr (AL (AW (c:=AG) (v:=x0)) (VJ (n:=10) (s:=sx) (a:=x2))) kr hv1 ?_
  refine Aa (n:=13) AC 2 [(8,.v (.int .i64 v1)),(9,.fn fid [] (sx.enc x2)),(10,AG.enc x1)] [some ⟨10,115,[AG.enc x0],false⟩,some ⟨10,115,[AG.enc x1],false⟩] kr kr ?_
  refine Bx (caps:=sx.enc x2) (xs:=[AG.enc x1]) (u:=(x1,x2)) rfl rfl hX rfl (AB rfl) kr kr (AL (AW (c:=AG) (v:=x1)) (VJ (n:=10) (s:=sx) (a:=x2))) kr hv2 ?_
  refine Bx (caps:=[]) (xs:=[.v (.int .i64 v1),.v (.int .i64 v2)]) (u:=(v1,v2,())) rfl rfl Hg rfl (AB rfl) kr kr (AL (AW (c:=cdI) (v:=v1)) (AL (AW (c:=cdI) (v:=v2)) Ao)) kr hv3 ?_
  refine Aa (n:=13) AC 1 [(5,.v (.int .i64 v3))] [some ⟨10,115,[AG.enc x0],false⟩,some ⟨10,115,[AG.enc x1],false⟩] kr kr ?_
  exact RunDS.done rfl (Ar [] trivial ⟨lv,trivial⟩)
 refine AR ?_
 have hq:=OI h; subst hq
 exact ⟨⟨Fr 13 [(5,.v (.int .i64 v3))],[]⟩,AJ,.inr rfl,[.v (.int .i64 v3)],kr,kr⟩
def Wp {β:Type}(fid:FuncId) (sx:Cs β) (hn:∀ x,(sx.enc x).all JN=true) (G:Ab->β->Option Int):List AV->Option AV:=ES (Nj fid sx hn) (fun a=>Dl G a.1 a.2.1 a.2.2.1) Ns
theorem Kg {β:Type}{fid:FuncId}{sx:Cs β}{hn:∀ x,(sx.enc x).all JN=true}{G:Ab->β->Option Int}(hX:XOk fid (ES (csC AG sx) (fun a=>G a.1 a.2) cdI.enc)):XOk 205 (Wp fid sx hn G):=by
 refine AU Tryz.func205 (c:=QY) ?h2 ⟨Tryz.call205⟩ (Nj fid sx hn) (fun a=>Dl G a.1 a.2.1 a.2.2.1) Ns (fun a=>(by show 3<=13; decide)) ?h3 ?h4
 case h2=>kernel_rfl
 case h3=>intro b; kernel_rfl
 case h4=>exact fun a b h=>UT hX a.1 a.2.1 a.2.2.1 b h
/- trestle/court.plain$1 -/
noncomputable def OC:Code:=BL Tryz.f178
def FO (x0:Ab) (x1:AF):Option (Int) :=
 (Cc x1.2.2.2.1 x0.1.2.1).bind fun v1 =>
 if (decide (v1≥0))=true then
 some v1
 else
 some (x1.2.2.2.1.length:Int)
def Kt:Cs (Ab×AF×Unit):=(csC AG (csC (cdP AA) csN))
def LF (r:Int):AV:=cdI.enc r
theorem RO (x0:Ab) (x1:AF) (r:Int) (h:FO x0 x1=some r):Sem E0 ⟨none,false⟩ OC ⟨Fr 17 (A6 0 (Kt.enc (x0,x1,()))),[]⟩ fun e s'=>(e = .normal\/e = .ret)/\∃ xs,EZ E0.P s'.fr s'.hp Tryz.f178.results.toList=some xs/\Ee xs=LF r:=by
 unfold FO at h
 let p1:Nat×AV:=(1,.pe (AA.enc x1) 0)
 refine Ax (BY (s1:=⟨Fr 17 [(0,AG.enc x0),p1],[]⟩) AJ ?_)
 let p2:Option Blk:=some ⟨10,115,[AG.enc x0],false⟩
 refine AK AC [p1,(2,.pt 0 0 0)] [p2] ?_;refine AH ?_;refine AH ?_;obtain ⟨v1,hv1,h⟩:=OB h
 let p3:Nat×AV:=(4,.j v1)
 refine AM (s1:=⟨Fr 17 [p1,p3],[]⟩) ?_ ?_
 ·refine AD (n:=17) AC 5 [p1,(6,.sl 1 (x1.2.2.2.1.map cdS.enc)),(9,.st x0.1.2.1)] [p2] kr ?_
  refine AS (caps:=[]) (xs:=[.sl 1 (x1.2.2.2.1.map cdS.enc),.st x0.1.2.1]) (u:=(x1.2.2.2.1,x0.1.2.1,())) rfl rfl IJ rfl (AB rfl) kr kr (AL (AW (c:=(cdL 1 cdS)) (v:=x1.2.2.2.1)) (AL (AW (c:=cdS) (v:=x0.1.2.1)) Ao)) (.inl kr) hv1 ?_;refine AD (n:=17) AC 1 [p1,p3] [p2] kr ?_;exact AI rfl (Ar [] trivial ⟨lv,lv,trivial⟩)
 refine AK AC [p1,p3,(12,.b (decide (v1≥0)))] [] ?_;refine AT (b:=(decide (v1≥0))) kr (fun hb2=>?_) (fun hb2=>?_)
 ·rw [if_pos hb2] at h
  refine AK AC [(3,.j v1)] [] ?_;refine AR ?_;have hq:=OI h; subst hq;exact ⟨⟨Fr 17 [(3,.j v1)],[]⟩,AJ,.inr rfl,[.j v1],kr,kr⟩
 ·rw [Bm hb2] at h
  refine AY ?_;refine AH ?_
  let p4:Nat×AV:=(3,.j (x1.2.2.2.1.length:Int))
  refine AM (s1:=⟨Fr 17 [p4],[]⟩) ?_ ?_
  ·refine AD (n:=17) AC 2 [(15,.sl 1 (x1.2.2.2.1.map cdS.enc))] [] kr ?_
   refine AZ AC 0 rfl (DR (AB rfl) rfl (C3 (a:= .sl 1 (x1.2.2.2.1.map cdS.enc)) kr (Bn (el:=9) kr))) ?_;exact Ad AC
  refine AR ?_;have hq:=OI h; subst hq;exact ⟨⟨Fr 17 [p4],[]⟩,AJ,.inr rfl,[.j (x1.2.2.2.1.length:Int)],kr,kr⟩
def To:List AV->Option AV:=ES Kt (fun a=>FO a.1 a.2.1) LF
theorem UD:XOk 178 To:=by
 refine AU Tryz.func178 (c:=OC) ?h2 ⟨Tryz.call178⟩ Kt (fun a=>FO a.1 a.2.1) LF (fun a=>(by show 2<=17; decide)) ?h3 ?h4
 case h2=>kernel_rfl
 case h3=>intro b; kernel_rfl
 case h4=>exact fun a b h=>RO a.1 a.2.1 b h
/- trestle/court.b2i -/
noncomputable def SC:Code:=BL Tryz.f180
def L5 (x0:Bool):Option (Int) :=
 if x0=true then
 some 1
 else
 some 0
def Oz:Cs (Bool×Unit):=(csC cdB csN)
def O3 (r:Int):AV:=cdI.enc r
theorem VS (x0:Bool) (r:Int) (h:L5 x0=some r):Sem E0 ⟨none,false⟩ SC ⟨Fr 4 (A6 0 (Oz.enc (x0,()))),[]⟩ fun e s'=>(e = .normal\/e = .ret)/\∃ xs,EZ E0.P s'.fr s'.hp Tryz.f180.results.toList=some xs/\Ee xs=O3 r:=by
 unfold L5 at h;refine Ax (BY (s1:=⟨Fr 4 [(0,.b x0)],[]⟩) AJ ?_);refine AK AC [(0,.b x0)] [] ?_;refine AH ?_;refine AK AC [(3,.b x0)] [] ?_;refine AT (b:=x0) kr (fun hb1=>?_) (fun hb1=>?_)
 ·rw [if_pos hb1] at h
  refine AK AC [(2,.j 1)] [] ?_;refine AR ?_;have hq:=OI h; subst hq;exact ⟨⟨Fr 4 [(2,.j 1)],[]⟩,AJ,.inr rfl,[.j 1],kr,kr⟩
 ·rw [Bm hb1] at h
  refine AY ?_;refine AK AC [(2,.j 0)] [] ?_;refine AR ?_;have hq:=OI h; subst hq;exact ⟨⟨Fr 4 [(2,.j 0)],[]⟩,AJ,.inr rfl,[.j 0],kr,kr⟩
def Xh:List AV->Option AV:=ES Oz (fun a=>L5 a.1) O3
theorem T9:XOk 180 Xh:=by
 refine AU Tryz.func180 (c:=SC) ?h2 ⟨Tryz.call180⟩ Oz (fun a=>L5 a.1) O3 (fun a=>(by show 1<=4; decide)) ?h3 ?h4
 case h2=>kernel_rfl
 case h3=>intro b; kernel_rfl
 case h4=>exact fun a b h=>VS a.1 b h
/- trestle/court.plain$2 -/
noncomputable def Kl:Code:=BL Tryz.f179
def I1 (x2:AF) (v5:Int):Option ((Int)) :=
 if (x2.1==3)=true then
 some (wr .i64 (0 - v5))
 else
 some v5
def EW (x0:Ab) (x1:Ab) (x2:AF):Option (Int) :=
 if (!((x0.1.2.2.2.1==0)==(x1.1.2.2.2.1==0)))=true then
 (L5 (x0.1.2.2.2.1==0)).bind fun v2 =>
 (L5 (x1.1.2.2.2.1==0)).bind fun v3 =>
 (Dc v2 v3).bind fun v4 =>
 some v4
 else
 (Dc x0.1.2.2.2.1 x1.1.2.2.2.1).bind fun v5 =>
 (I1 x2 v5).bind fun r8 =>
 some r8
def Ku:Cs (Ab×Ab×AF×Unit):=(csC AG (csC AG (csC (cdP AA) csN)))
def LG (r:Int):AV:=cdI.enc r
theorem QC (x2:AF) (v5:Int) (r:(Int)) (h:I1 x2 v5=some r):Sem E0 ⟨none,false⟩ (pc Kl [1,1,1,0,1]) ⟨Fr 40 [(6,.j v5),(36,.b (x2.1==3))],[]⟩ (fun e s=>e = .normal/\Wk E0 s ⟨Fr 40 [(6,.j r)],[]⟩):=by
 unfold I1 at h;refine AT (b:=(x2.1==3)) kr (fun hb6=>?_) (fun hb6=>?_)
 ·rw [if_pos hb6] at h
  refine D1 AC [(6,.j (wr .i64 (0 - v5)))] [] ?_;have hq:=OI h; subst hq;exact ⟨rfl,AJ⟩
 ·rw [Bm hb6] at h
  refine AY ?_;have hq:=OI h; subst hq;exact ⟨rfl,AJ⟩
theorem RP (x0:Ab) (x1:Ab) (x2:AF) (r:Int) (h:EW x0 x1 x2=some r):Sem E0 ⟨none,false⟩ Kl ⟨Fr 40 (A6 0 (Ku.enc (x0,x1,x2,()))),[]⟩ fun e s'=>(e = .normal\/e = .ret)/\∃ xs,EZ E0.P s'.fr s'.hp Tryz.f179.results.toList=some xs/\Ee xs=LG r:=by
 unfold EW at h
 let p1:Nat×AV:=(2,.pe (AA.enc x2) 0)
 refine Ax (BY (s1:=⟨Fr 40 [(0,AG.enc x0),(1,AG.enc x1),p1],[]⟩) AJ ?_)
 let p2:Option Blk:=some ⟨10,115,[AG.enc x1],false⟩
 let p3:Option Blk:=some ⟨10,115,[AG.enc x0],false⟩
 refine AK AC [p1,(3,.pt 0 0 0),(4,.pt 1 0 0)] [p3,p2] ?_;refine AH ?_;refine AK AC [p1,(3,.pt 0 0 0),(4,.pt 1 0 0),(15,.b (!((x0.1.2.2.2.1==0)==(x1.1.2.2.2.1==0))))] [p3,p2] ?_;refine AT (b:=(!((x0.1.2.2.2.1==0)==(x1.1.2.2.2.1==0)))) kr (fun hb1=>?_) (fun hb1=>?_)
 ·rw [if_pos hb1] at h
  refine AH ?_;obtain ⟨v2,hv2,h⟩:=OB h;obtain ⟨v3,hv3,h⟩:=OB h;obtain ⟨v4,hv4,h⟩:=OB h
  let p4:Nat×AV:=(5,.j v4)
  refine D5 AC (s1:=⟨Fr 40 [p4],[]⟩) kr ?_ ?_
  ·refine Aa (n:=40) AC 4 [(4,.pt 1 0 0),(19,.b (x0.1.2.2.2.1==0))] [p3,p2] kr kr ?_
   refine Bx (caps:=[]) (xs:=[.b (x0.1.2.2.2.1==0)]) (u:=((x0.1.2.2.2.1==0),())) rfl rfl T9 rfl (AB rfl) kr kr (AL (AW (c:=cdB) (v:=(x0.1.2.2.2.1==0))) Ao) kr hv2 ?_;refine Aa (n:=40) AC 4 [(20,.j v2),(24,.b (x1.1.2.2.2.1==0))] [p3,p2] kr kr ?_;refine Bx (caps:=[]) (xs:=[.b (x1.1.2.2.2.1==0)]) (u:=((x1.1.2.2.2.1==0),())) rfl rfl T9 rfl (AB rfl) kr kr (AL (AW (c:=cdB) (v:=(x1.1.2.2.2.1==0))) Ao) kr hv3 ?_;refine Bx (caps:=[]) (xs:=[.j v2,.j v3]) (u:=(v2,v3,())) rfl rfl Hg rfl (AB rfl) kr kr (AL (AW (c:=cdI) (v:=v2)) (AL (AW (c:=cdI) (v:=v3)) Ao)) kr hv4 ?_;refine Aa (n:=40) AC 1 [p4] [p3,p2] kr kr ?_;exact RunDS.done rfl (Ar [] trivial ⟨lv,trivial⟩)
  refine AR ?_;have hq:=OI h; subst hq;exact ⟨⟨Fr 40 [p4],[]⟩,AJ,.inr rfl,[.j v4],kr,kr⟩
 ·rw [Bm hb1] at h
  refine AY ?_;refine AH ?_;obtain ⟨v5,hv5,h⟩:=OB h
  let p5:Nat×AV:=(6,.j v5)
  refine AM (s1:=⟨Fr 40 [p1,p5],[]⟩) ?_ ?_
  ·refine AD (n:=40) AC 6 [p1,(29,.j x0.1.2.2.2.1),(32,.j x1.1.2.2.2.1)] [p3,p2] kr ?_
   refine AS (caps:=[]) (xs:=[.j x0.1.2.2.2.1,.j x1.1.2.2.2.1]) (u:=(x0.1.2.2.2.1,x1.1.2.2.2.1,())) rfl rfl Hg rfl (AB rfl) kr kr (AL (AW (c:=cdI) (v:=x0.1.2.2.2.1)) (AL (AW (c:=cdI) (v:=x1.1.2.2.2.1)) Ao)) (.inl kr) hv5 ?_;refine AD (n:=40) AC 1 [p1,p5] [p3,p2] kr ?_;exact AI rfl (Ar [] trivial ⟨lv,lv,trivial⟩)
  refine AH ?_;refine AK AC [p5,(36,.b (x2.1==3))] [] ?_;obtain ⟨r8,hr8,h⟩:=OB h;refine Hl (QC x2 v5 _ hr8) ?_;refine AK AC [(5,.j r8)] [] ?_;refine AR ?_;have hq:=OI h; subst hq;exact ⟨⟨Fr 40 [(5,.j r8)],[]⟩,AJ,.inr rfl,[.j r8],kr,kr⟩
def Tp:List AV->Option AV:=ES Ku (fun a=>EW a.1 a.2.1 a.2.2.1) LG
theorem PU:XOk 179 Tp:=by
 refine AU Tryz.func179 (c:=Kl) ?h2 ⟨Tryz.call179⟩ Ku (fun a=>EW a.1 a.2.1 a.2.2.1) LG (fun a=>(by show 3<=40; decide)) ?h3 ?h4
 case h2=>kernel_rfl
 case h3=>intro b; kernel_rfl
 case h4=>exact fun a b h=>RP a.1 a.2.1 a.2.2.1 b h
/- cmp.isNaN[string] -/
noncomputable def Lu:Code:=BL Tryz.f207
def Fs (x0:(List UInt8)):Option (Bool) :=
 some (!(x0==x0))
def I7:Cs ((List UInt8)×Unit):=(csC cdS csN)
def I9 (r:Bool):AV:=cdB.enc r
theorem Ph (x0:(List UInt8)) (r:Bool) (h:Fs x0=some r):Sem E0 ⟨none,false⟩ Lu ⟨Fr 6 (A6 0 (I7.enc (x0,()))),[]⟩ fun e s'=>(e = .normal\/e = .ret)/\∃ xs,EZ E0.P s'.fr s'.hp Tryz.f207.results.toList=some xs/\Ee xs=I9 r:=by
 unfold Fs at h;refine Ax (BY (s1:=⟨Fr 6 [(0,.st x0)],[]⟩) AJ ?_);refine AK AC [(0,.st x0)] [] ?_;refine AK AC [(2,.b (!(x0==x0)))] [] ?_;refine AR ?_;have hq:=OI h; subst hq;exact ⟨⟨Fr 6 [(2,.b (!(x0==x0)))],[]⟩,AJ,.inr rfl,[.b (!(x0==x0))],kr,kr⟩
def Q6:List AV->Option AV:=ES I7 (fun a=>Fs a.1) I9
theorem Mz:XOk 207 Q6:=by
 refine AU Tryz.func207 (c:=Lu) ?h2 ⟨Tryz.call207⟩ I7 (fun a=>Fs a.1) I9 (fun a=>(by show 1<=6; decide)) ?h3 ?h4
 case h2=>kernel_rfl
 case h3=>intro b; kernel_rfl
 case h4=>exact fun a b h=>Ph a.1 b h
/- cmp.Compare[string] -/
noncomputable def KQ:Code:=BL Tryz.f188
def Ei (x0:(List UInt8)) (x1:(List UInt8)):Option (Int) :=
 (Fs x0).bind fun v1 =>
 (Fs x1).bind fun v2 =>
 if v1=true then
 if v2=true then
 some 0
 else
 some (-1)
 else
 if v2=true then
 some 1
 else
 if (Go.Op.bytesLess x0 x1)=true then
 some (-1)
 else
 if (!((Go.Op.bytesLess x0 x1)||(x0==x1)))=true then
 some 1
 else
 some 0
def IR:Cs ((List UInt8)×(List UInt8)×Unit):=(csC cdS (csC cdS csN))
def IU (r:Int):AV:=cdI.enc r
theorem OZ (x0:(List UInt8)) (x1:(List UInt8)) (r:Int) (h:Ei x0 x1=some r):Sem E0 ⟨none,false⟩ KQ ⟨Fr 20 (A6 0 (IR.enc (x0,x1,()))),[]⟩ fun e s'=>(e = .normal\/e = .ret)/\∃ xs,EZ E0.P s'.fr s'.hp Tryz.f188.results.toList=some xs/\Ee xs=IU r:=by
 unfold Ei at h;refine Ax (BY (s1:=⟨Fr 20 [(0,.st x0),(1,.st x1)],[]⟩) AJ ?_);refine AK AC [(0,.st x0),(1,.st x1)] [] ?_;refine AH ?_;obtain ⟨v1,hv1,h⟩:=OB h
 let p1:Nat×AV:=(5,.b v1)
 refine AM (s1:=⟨Fr 20 [(0,.st x0),(1,.st x1),p1],[]⟩) ?_ ?_
 ·refine AD (n:=20) AC 1 [(0,.st x0),(1,.st x1),(7,.st x0)] [] kr ?_
  refine AS (caps:=[]) (xs:=[.st x0]) (u:=(x0,())) rfl rfl Mz rfl (AB rfl) kr kr (AL (AW (c:=cdS) (v:=x0)) Ao) (.inl kr) hv1 ?_;exact Ad AC
 refine AH ?_;obtain ⟨v2,hv2,h⟩:=OB h;refine AM (s1:=⟨Fr 20 [(0,.st x0),(1,.st x1),p1,(6,.b v2)],[]⟩) ?_ ?_
 ·refine AD (n:=20) AC 1 [(0,.st x0),(1,.st x1),p1,(9,.st x1)] [] kr ?_
  refine AS (caps:=[]) (xs:=[.st x1]) (u:=(x1,())) rfl rfl Mz rfl (AB rfl) kr kr (AL (AW (c:=cdS) (v:=x1)) Ao) (.inl kr) hv2 ?_;exact Ad AC
 refine AH ?_;refine AK AC [(0,.st x0),(1,.st x1),(6,.b v2),(11,.b v1)] [] ?_;refine AT (b:=v1) kr (fun hb3=>?_) (fun hb3=>?_)
 ·rw [if_pos hb3] at h
  refine AH ?_;refine AK AC [(12,.b v2)] [] ?_;refine AT (b:=v2) kr (fun hb4=>?_) (fun hb4=>?_)
  ·rw [if_pos hb4] at h
   refine AK AC [(4,.j 0)] [] ?_;refine AR ?_;have hq:=OI h; subst hq;exact ⟨⟨Fr 20 [(4,.j 0)],[]⟩,AJ,.inr rfl,[.j 0],kr,kr⟩
  ·rw [Bm hb4] at h
   refine AY ?_;refine AK AC [(4,.j (-1))] [] ?_;refine AR ?_;have hq:=OI h; subst hq;exact ⟨⟨Fr 20 [(4,.j (-1))],[]⟩,AJ,.inr rfl,[.j (-1)],kr,kr⟩
 ·rw [Bm hb3] at h
  refine AY ?_;refine AH ?_;refine AK AC [(0,.st x0),(1,.st x1),(13,.b v2)] [] ?_;refine AT (b:=v2) kr (fun hb5=>?_) (fun hb5=>?_)
  ·rw [if_pos hb5] at h
   refine AK AC [(4,.j 1)] [] ?_;refine AR ?_;have hq:=OI h; subst hq;exact ⟨⟨Fr 20 [(4,.j 1)],[]⟩,AJ,.inr rfl,[.j 1],kr,kr⟩
  ·rw [Bm hb5] at h
   refine AY ?_;refine AH ?_;refine AK AC [(0,.st x0),(1,.st x1),(16,.b (Go.Op.bytesLess x0 x1))] [] ?_;refine AT (b:=(Go.Op.bytesLess x0 x1)) kr (fun hb6=>?_) (fun hb6=>?_)
   ·rw [if_pos hb6] at h
    refine AK AC [(4,.j (-1))] [] ?_;refine AR ?_;have hq:=OI h; subst hq;exact ⟨⟨Fr 20 [(4,.j (-1))],[]⟩,AJ,.inr rfl,[.j (-1)],kr,kr⟩
   ·rw [Bm hb6] at h
    refine AY ?_;refine AH ?_;refine AK AC [(19,.b (!((Go.Op.bytesLess x0 x1)||(x0==x1))))] [] ?_;refine AT (b:=(!((Go.Op.bytesLess x0 x1)||(x0==x1)))) kr (fun hb7=>?_) (fun hb7=>?_)
    ·rw [if_pos hb7] at h
     refine AK AC [(4,.j 1)] [] ?_;refine AR ?_;have hq:=OI h; subst hq;exact ⟨⟨Fr 20 [(4,.j 1)],[]⟩,AJ,.inr rfl,[.j 1],kr,kr⟩
    ·rw [Bm hb7] at h
     refine AY ?_;refine AK AC [(4,.j 0)] [] ?_;refine AR ?_;have hq:=OI h; subst hq;exact ⟨⟨Fr 20 [(4,.j 0)],[]⟩,AJ,.inr rfl,[.j 0],kr,kr⟩
def Pm:List AV->Option AV:=ES IR (fun a=>Ei a.1 a.2.1) IU
theorem Pp:XOk 188 Pm:=by
 refine AU Tryz.func188 (c:=KQ) ?h2 ⟨Tryz.call188⟩ IR (fun a=>Ei a.1 a.2.1) IU (fun a=>(by show 2<=20; decide)) ?h3 ?h4
 case h2=>kernel_rfl
 case h3=>intro b; kernel_rfl
 case h4=>exact fun a b h=>OZ a.1 a.2.1 b h
/- trestle/court.plain$7 -/
noncomputable def OH:Code:=BL Tryz.f187
def G4 (x0:Ab) (x1:Ab):Option (Int) :=
 (Ei x0.1.1 x1.1.1).bind fun v1 =>
 some v1
def Kz:Cs (Ab×Ab×Unit):=(csC AG (csC AG csN))
def LL (r:Int):AV:=cdI.enc r
theorem RU (x0:Ab) (x1:Ab) (r:Int) (h:G4 x0 x1=some r):Sem E0 ⟨none,false⟩ OH ⟨Fr 12 (A6 0 (Kz.enc (x0,x1,()))),[]⟩ fun e s'=>(e = .normal\/e = .ret)/\∃ xs,EZ E0.P s'.fr s'.hp Tryz.f187.results.toList=some xs/\Ee xs=LL r:=by
 unfold G4 at h;refine Ax (BY (s1:=⟨Fr 12 [(0,AG.enc x0),(1,AG.enc x1)],[]⟩) AJ ?_)
 let p1:Option Blk:=some ⟨10,115,[AG.enc x1],false⟩
 let p2:Option Blk:=some ⟨10,115,[AG.enc x0],false⟩
 refine AK AC [(2,.pt 0 0 0),(3,.pt 1 0 0)] [p2,p1] ?_;refine AH ?_;obtain ⟨v1,hv1,h⟩:=OB h
 let p3:Nat×AV:=(4,.j v1)
 refine AM (s1:=⟨Fr 12 [p3],[]⟩) ?_ ?_
 ·refine AD (n:=12) AC 6 [(7,.st x0.1.1),(10,.st x1.1.1)] [p2,p1] kr ?_
  refine AS (caps:=[]) (xs:=[.st x0.1.1,.st x1.1.1]) (u:=(x0.1.1,x1.1.1,())) rfl rfl Pp rfl (AB rfl) kr kr (AL (AW (c:=cdS) (v:=x0.1.1)) (AL (AW (c:=cdS) (v:=x1.1.1)) Ao)) (.inl kr) hv1 ?_;refine AD (n:=12) AC 1 [p3] [p2,p1] kr ?_;exact AI rfl (Ar [] trivial ⟨lv,trivial⟩)
 refine AR ?_;have hq:=OI h; subst hq;exact ⟨⟨Fr 12 [p3],[]⟩,AJ,.inr rfl,[.j v1],kr,kr⟩
def Tu:List AV->Option AV:=ES Kz (fun a=>G4 a.1 a.2.1) LL
theorem UI:XOk 187 Tu:=by
 refine AU Tryz.func187 (c:=OH) ?h2 ⟨Tryz.call187⟩ Kz (fun a=>G4 a.1 a.2.1) LL (fun a=>(by show 2<=12; decide)) ?h3 ?h4
 case h2=>kernel_rfl
 case h3=>intro b; kernel_rfl
 case h4=>exact fun a b h=>RU a.1 a.2.1 b h
/- trestle/court.plain$3 -/
noncomputable def OD:Code:=BL Tryz.f182
def JY (x0:Ab) (x1:AF):Option (Bool) :=
 some (x0.1.2.2.2.2.1==x1.2.2.2.2)
def Kv:Cs (Ab×AF×Unit):=(csC AG (csC (cdP AA) csN))
def LH (r:Bool):AV:=cdB.enc r
theorem RQ (x0:Ab) (x1:AF) (r:Bool) (h:JY x0 x1=some r):Sem E0 ⟨none,false⟩ OD ⟨Fr 10 (A6 0 (Kv.enc (x0,x1,()))),[]⟩ fun e s'=>(e = .normal\/e = .ret)/\∃ xs,EZ E0.P s'.fr s'.hp Tryz.f182.results.toList=some xs/\Ee xs=LH r:=by
 unfold JY at h;refine Ax (BY (s1:=⟨Fr 10 [(0,AG.enc x0),(1,.pe (AA.enc x1) 0)],[]⟩) AJ ?_)
 let p1:Option Blk:=some ⟨10,115,[AG.enc x0],false⟩
 refine AK AC [(1,.pe (AA.enc x1) 0),(2,.pt 0 0 0)] [p1] ?_;refine AH ?_
 let p2:Nat×AV:=(3,.b (x0.1.2.2.2.2.1==x1.2.2.2.2))
 refine AM (s1:=⟨Fr 10 [p2],[]⟩) ?_ ?_
 ·refine AD (n:=10) AC 7 [p2] [p1] kr ?_
  exact AI rfl (Ar [] trivial ⟨lv,trivial⟩)
 refine AR ?_;have hq:=OI h; subst hq;exact ⟨⟨Fr 10 [p2],[]⟩,AJ,.inr rfl,[.b (x0.1.2.2.2.2.1==x1.2.2.2.2)],kr,kr⟩
def Tq:List AV->Option AV:=ES Kv (fun a=>JY a.1 a.2.1) LH
theorem UE:XOk 182 Tq:=by
 refine AU Tryz.func182 (c:=OD) ?h2 ⟨Tryz.call182⟩ Kv (fun a=>JY a.1 a.2.1) LH (fun a=>(by show 2<=10; decide)) ?h3 ?h4
 case h2=>kernel_rfl
 case h3=>intro b; kernel_rfl
 case h4=>exact fun a b h=>RQ a.1 a.2.1 b h
/- trestle/court.named$1 -/
noncomputable def HX:Code:=BL Tryz.f206
def CD (x0:Ab) (x1:AF) (x2:AF):Option (Int) :=
 (JY x0 x1).bind fun v1 =>
 if (!(v1==x2.2.2.1))=true then
 some 0
 else
 some 1
def FB:Cs (Ab×AF×AF×Unit):=(csC AG (csC (cdP (cdF 182 (csE (cdP AA)) (fun _=>rfl))) (csC (cdP AA) csN)))
def FF (r:Int):AV:=cdI.enc r
theorem Ju (x0:Ab) (x1:AF) (x2:AF) (r:Int) (h:CD x0 x1 x2=some r):Sem E0 ⟨none,false⟩ HX ⟨Fr 11 (A6 0 (FB.enc (x0,x1,x2,()))),[]⟩ fun e s'=>(e = .normal\/e = .ret)/\∃ xs,EZ E0.P s'.fr s'.hp Tryz.f206.results.toList=some xs/\Ee xs=FF r:=by
 unfold CD at h
 let p1:Nat×AV:=(2,.pe (AA.enc x2) 0)
 let p2:Nat×AV:=(1,.pe (.fn 182 [] [.pe (AA.enc x1) 0]) 0)
 refine Ax (BY (s1:=⟨Fr 11 [(0,AG.enc x0),p2,p1],[]⟩) AJ ?_)
 let p3:Option Blk:=some ⟨10,115,[AG.enc x0],false⟩
 refine AK AC [p2,p1,(3,.pt 0 0 0)] [p3] ?_;refine AH ?_;refine AH ?_;obtain ⟨v1,hv1,h⟩:=OB h
 let p4:Nat×AV:=(10,.b (!(v1==x2.2.2.1)))
 refine D5 AC (s1:=⟨Fr 11 [p4],[]⟩) kr ?_ ?_
 ·refine Aa (n:=11) AC 2 [p1,(5,.fn 182 [] [.pe (AA.enc x1) 0]),(6,AG.enc x0)] [p3] kr kr ?_
  refine Bx (caps:=[.pe (AA.enc x1) 0]) (xs:=[AG.enc x0]) (u:=(x0,x1,())) rfl rfl UE rfl (AB rfl) kr kr (AL (AW (c:=AG) (v:=x0)) (AL (AW (c:=(cdP AA)) (v:=x1)) Ao)) kr hv1 ?_;refine Aa (n:=11) AC 3 [p4] [p3] kr kr ?_;exact RunDS.done rfl (Ar [] trivial ⟨lv,trivial⟩)
 refine AT (b:=(!(v1==x2.2.2.1))) kr (fun hb2=>?_) (fun hb2=>?_)
 ·rw [if_pos hb2] at h
  refine AK AC [(4,.j 0)] [] ?_;refine AR ?_;have hq:=OI h; subst hq;exact ⟨⟨Fr 11 [(4,.j 0)],[]⟩,AJ,.inr rfl,[.j 0],kr,kr⟩
 ·rw [Bm hb2] at h
  refine AY ?_;refine AK AC [(4,.j 1)] [] ?_;refine AR ?_;have hq:=OI h; subst hq;exact ⟨⟨Fr 11 [(4,.j 1)],[]⟩,AJ,.inr rfl,[.j 1],kr,kr⟩
def Ka:List AV->Option AV:=ES FB (fun a=>CD a.1 a.2.1 a.2.2.1) FF
theorem Kh:XOk 206 Ka:=by
 refine AU Tryz.func206 (c:=HX) ?h2 ⟨Tryz.call206⟩ FB (fun a=>CD a.1 a.2.1 a.2.2.1) FF (fun a=>(by show 3<=11; decide)) ?h3 ?h4
 case h2=>kernel_rfl
 case h3=>intro b; kernel_rfl
 case h4=>exact fun a b h=>Ju a.1 a.2.1 a.2.2.1 b h
/- trestle/court.plain$4 -/
noncomputable def OE:Code:=BL Tryz.f183
def JZ (x0:Ab):Option (Bool) :=
 some x0.1.2.2.2.2.2.2.1
def Kw:Cs (Ab×Unit):=(csC AG csN)
def LI (r:Bool):AV:=cdB.enc r
theorem RR (x0:Ab) (r:Bool) (h:JZ x0=some r):Sem E0 ⟨none,false⟩ OE ⟨Fr 6 (A6 0 (Kw.enc (x0,()))),[]⟩ fun e s'=>(e = .normal\/e = .ret)/\∃ xs,EZ E0.P s'.fr s'.hp Tryz.f183.results.toList=some xs/\Ee xs=LI r:=by
 unfold JZ at h;refine Ax (BY (s1:=⟨Fr 6 [(0,AG.enc x0)],[]⟩) AJ ?_)
 let p1:Option Blk:=some ⟨10,115,[AG.enc x0],false⟩
 refine AK AC [(1,.pt 0 0 0)] [p1] ?_;refine AH ?_
 let p2:Nat×AV:=(2,.b x0.1.2.2.2.2.2.2.1)
 refine AM (s1:=⟨Fr 6 [p2],[]⟩) ?_ ?_
 ·refine AD (n:=6) AC 4 [p2] [p1] kr ?_
  exact AI rfl (Ar [] trivial ⟨lv,trivial⟩)
 refine AR ?_;have hq:=OI h; subst hq;exact ⟨⟨Fr 6 [p2],[]⟩,AJ,.inr rfl,[.b x0.1.2.2.2.2.2.2.1],kr,kr⟩
def Tr:List AV->Option AV:=ES Kw (fun a=>JZ a.1) LI
theorem UF:XOk 183 Tr:=by
 refine AU Tryz.func183 (c:=OE) ?h2 ⟨Tryz.call183⟩ Kw (fun a=>JZ a.1) LI (fun a=>(by show 1<=6; decide)) ?h3 ?h4
 case h2=>kernel_rfl
 case h3=>intro b; kernel_rfl
 case h4=>exact fun a b h=>RR a.1 b h
/- trestle/court.named$1 -/
noncomputable def HY:Code:=BL Tryz.f206
def CE (x0:Ab) (x2:AF):Option (Int) :=
 (JZ x0).bind fun v1 =>
 if (!(v1==x2.2.2.1))=true then
 some 0
 else
 some 1
def FC:Cs (Ab×Unit×AF×Unit):=(csC AG (csC (cdP (cdF 183 csN (fun _=>rfl))) (csC (cdP AA) csN)))
def FG (r:Int):AV:=cdI.enc r
theorem Jv (x0:Ab) (x2:AF) (r:Int) (h:CE x0 x2=some r):Sem E0 ⟨none,false⟩ HY ⟨Fr 11 (A6 0 (FC.enc (x0,(),x2,()))),[]⟩ fun e s'=>(e = .normal\/e = .ret)/\∃ xs,EZ E0.P s'.fr s'.hp Tryz.f206.results.toList=some xs/\Ee xs=FG r:=by
 unfold CE at h
 let p1:Nat×AV:=(2,.pe (AA.enc x2) 0)
 refine Ax (BY (s1:=⟨Fr 11 [(0,AG.enc x0),(1,.pe (.fn 183 [] []) 0),p1],[]⟩) AJ ?_)
 let p2:Option Blk:=some ⟨10,115,[AG.enc x0],false⟩
 refine AK AC [(1,.pe (.fn 183 [] []) 0),p1,(3,.pt 0 0 0)] [p2] ?_;refine AH ?_;refine AH ?_;obtain ⟨v1,hv1,h⟩:=OB h
 let p3:Nat×AV:=(10,.b (!(v1==x2.2.2.1)))
 refine D5 AC (s1:=⟨Fr 11 [p3],[]⟩) kr ?_ ?_
 ·refine Aa (n:=11) AC 2 [p1,(5,.fn 183 [] []),(6,AG.enc x0)] [p2] kr kr ?_
  refine Bx (caps:=[]) (xs:=[AG.enc x0]) (u:=(x0,())) rfl rfl UF rfl (AB rfl) kr kr (AL (AW (c:=AG) (v:=x0)) Ao) kr hv1 ?_;refine Aa (n:=11) AC 3 [p3] [p2] kr kr ?_;exact RunDS.done rfl (Ar [] trivial ⟨lv,trivial⟩)
 refine AT (b:=(!(v1==x2.2.2.1))) kr (fun hb2=>?_) (fun hb2=>?_)
 ·rw [if_pos hb2] at h
  refine AK AC [(4,.j 0)] [] ?_;refine AR ?_;have hq:=OI h; subst hq;exact ⟨⟨Fr 11 [(4,.j 0)],[]⟩,AJ,.inr rfl,[.j 0],kr,kr⟩
 ·rw [Bm hb2] at h
  refine AY ?_;refine AK AC [(4,.j 1)] [] ?_;refine AR ?_;have hq:=OI h; subst hq;exact ⟨⟨Fr 11 [(4,.j 1)],[]⟩,AJ,.inr rfl,[.j 1],kr,kr⟩
def Kb:List AV->Option AV:=ES FC (fun a=>CE a.1 a.2.2.1) FG
theorem Ki:XOk 206 Kb:=by
 refine AU Tryz.func206 (c:=HY) ?h2 ⟨Tryz.call206⟩ FC (fun a=>CE a.1 a.2.2.1) FG (fun a=>(by show 3<=11; decide)) ?h3 ?h4
 case h2=>kernel_rfl
 case h3=>intro b; kernel_rfl
 case h4=>exact fun a b h=>Jv a.1 a.2.2.1 b h
/- trestle/court.plain$5$1 -/
noncomputable def Md:Code:=BL Tryz.f185
def GZ (x0:(List UInt8)) (x1:AF):Option (Bool) :=
 (BC x1.2.2.2.1 x0).bind fun v1 =>
 some v1
def Je:Cs ((List UInt8)×AF×Unit):=(csC cdS (csC (cdP AA) csN))
def Jj (r:Bool):AV:=cdB.enc r
theorem QD (x0:(List UInt8)) (x1:AF) (r:Bool) (h:GZ x0 x1=some r):Sem E0 ⟨none,false⟩ Md ⟨Fr 8 (A6 0 (Je.enc (x0,x1,()))),[]⟩ fun e s'=>(e = .normal\/e = .ret)/\∃ xs,EZ E0.P s'.fr s'.hp Tryz.f185.results.toList=some xs/\Ee xs=Jj r:=by
 unfold GZ at h;refine Ax (BY (s1:=⟨Fr 8 [(0,.st x0),(1,.pe (AA.enc x1) 0)],[]⟩) AJ ?_);refine AK AC [(0,.st x0),(1,.pe (AA.enc x1) 0)] [] ?_;refine AH ?_;obtain ⟨v1,hv1,h⟩:=OB h;refine AM (s1:=⟨Fr 8 [(3,.b v1)],[]⟩) ?_ ?_
 ·refine AD (n:=8) AC 3 [(5,.sl 1 (x1.2.2.2.1.map cdS.enc)),(6,.st x0)] [] kr ?_
  refine AS (caps:=[]) (xs:=[.sl 1 (x1.2.2.2.1.map cdS.enc),.st x0]) (u:=(x1.2.2.2.1,x0,())) rfl rfl Cr rfl (AB rfl) kr kr (AL (AW (c:=(cdL 1 cdS)) (v:=x1.2.2.2.1)) (AL (AW (c:=cdS) (v:=x0)) Ao)) (.inl kr) hv1 ?_;exact Ad AC
 refine AR ?_;have hq:=OI h; subst hq;exact ⟨⟨Fr 8 [(3,.b v1)],[]⟩,AJ,.inr rfl,[.b v1],kr,kr⟩
def Rv:List AV->Option AV:=ES Je (fun a=>GZ a.1 a.2.1) Jj
theorem R7:XOk 185 Rv:=by
 refine AU Tryz.func185 (c:=Md) ?h2 ⟨Tryz.call185⟩ Je (fun a=>GZ a.1 a.2.1) Jj (fun a=>(by show 2<=8; decide)) ?h3 ?h4
 case h2=>kernel_rfl
 case h3=>intro b; kernel_rfl
 case h4=>exact fun a b h=>QD a.1 a.2.1 b h
/- slices.IndexFunc[[]string,string] -/
noncomputable def C8:Code:=BL Tryz.f90
def Bg (x0:(List (List UInt8))) (x1:AF):Nat->Int->Option ((Unit) ⊕ (Int))
 | 0,_=>none
 | f + 1,c1 =>
  if (decide (c1 < (x0.length:Int)))=true then
  (idx x0 c1).bind fun v3 =>
  (GZ v3 x1).bind fun v4 =>
  if v4=true then
  some (.inr c1)
  else
  Bg x0 x1 f (wr .i64 (c1 + 1))
  else
  some (.inl ())
def BR (x0:(List (List UInt8))) (x1:AF):Option (Int) :=
 (Bg x0 x1 100000 0).bind fun r7 =>
 match r7 with
 | (.inl w8) =>
  some (-1)
 | (.inr w9) =>
  some w9
def C9:Cs ((List (List UInt8))×AF×Unit):=(csC (cdL 1 cdS) (csC (cdF 185 (csE (cdP AA)) (fun _=>rfl)) csN))
def DA (r:Int):AV:=cdI.enc r
theorem D0 (x0:(List (List UInt8))) (x1:AF):∀ (f:Nat) (c1:Int) (r:(Unit) ⊕ (Int)),Bg x0 x1 f c1=some r->SemN E0 ⟨none,false⟩ (pc C8 [1,0,1,0,0]) f ⟨Fr 19 [(0,.sl 1 (x0.map cdS.enc)),(1,.fn 185 [] [.pe (AA.enc x1) 0]),(7,.j (x0.length:Int)),(8,.j c1)],[]⟩ (fun e s=>match r with
 | (.inl w)=>e=(.exit 0)/\Wk E0 s ⟨Fr 19 [],[]⟩
 | (.inr w)=>e = .ret/\Wk E0 s ⟨Fr 19 [(4,.j w)],[]⟩):=by
 intro f;induction f with
 | zero=>intro c1 r h; cases h
 | succ f ih0 =>
  intro c1 r h
  have ih:=fun (c1:Int)=>ih0 c1 r
  unfold Bg at h;refine CI ?_
  let p1:Nat×AV:=(8,.j c1)
  let p2:Nat×AV:=(7,.j (x0.length:Int))
  let p3:Nat×AV:=(1,.fn 185 [] [.pe (AA.enc x1) 0])
  let p4:Nat×AV:=(0,.sl 1 (x0.map cdS.enc))
  refine AK AC [p4,p3,p2,p1,(9,.b (decide (c1 < (x0.length:Int))))] [] ?_;refine AH ?_;refine AT (b:=(decide (c1 < (x0.length:Int)))) kr (fun hb2=>?_) (fun hb2=>?_)
  ·rw [if_pos hb2] at h
   refine AY ?_;refine AH ?_;refine Al ?_
   let p5:Nat×AV:=(5,.j c1)
   refine AK AC [p4,p3,p5,p2,p1] [] ?_;refine AH ?_;obtain ⟨v3,hv3,h⟩:=OB h;obtain ⟨v4,hv4,h⟩:=OB h;refine AM (s1:=⟨Fr 19 [p4,p3,p5,p2,p1,(16,.b v4)],[]⟩) ?_ ?_
   ·let p6:Nat×AV:=(11,.fn 185 [] [.pe (AA.enc x1) 0])
    refine AD (n:=19) AC 3 [p4,p3,p5,p2,p1,p6,(12,.sl 1 (x0.map cdS.enc)),(13,.j c1)] [] kr ?_;refine AZ AC 0 rfl (DR (AB rfl) rfl (AP (a:= .sl 1 (x0.map cdS.enc)) (b:= .j c1) kr kr (Di (e:=cdS.enc) (el:=9) (k:=1) (ki:= .i64) kr kr hv3))) ?_;refine AD (n:=19) AC 1 [p4,p3,p5,p2,p1,p6,(15,.st v3)] [] kr ?_;refine AS (caps:=[.pe (AA.enc x1) 0]) (xs:=[.st v3]) (u:=(v3,x1,())) rfl rfl R7 rfl (AB rfl) kr kr (AL (AW (c:=cdS) (v:=v3)) (AL (AW (c:=(cdP AA)) (v:=x1)) Ao)) (.inl kr) hv4 ?_;exact AI rfl AJ
   refine AT (b:=v4) kr (fun hb5=>?_) (fun hb5=>?_)
   ·rw [if_pos hb5] at h
    refine AK AC [(4,.j c1)] [] ?_;refine AR ?_;have hq:=OI h; subst hq;exact ⟨rfl,AJ⟩
   ·rw [Bm hb5] at h
    refine AY ?_
    let p7:Nat×AV:=(8,.j (wr .i64 (c1 + 1)))
    refine D1 AC [p4,p3,p2,p7] [] ?_;exact Aq (s1:=⟨Fr 19 [p4,p3,p2,p7],[]⟩) AJ (ih (wr .i64 (c1 + 1)) h)
  ·rw [Bm hb2] at h
   refine C6 ?_;have hq:=OI h; subst hq;exact ⟨rfl,AJ⟩
theorem Gf (x0:(List (List UInt8))) (x1:AF) (r:Int) (h:BR x0 x1=some r):Sem E0 ⟨none,false⟩ C8 ⟨Fr 19 (A6 0 (C9.enc (x0,x1,()))),[]⟩ fun e s'=>(e = .normal\/e = .ret)/\∃ xs,EZ E0.P s'.fr s'.hp Tryz.f90.results.toList=some xs/\Ee xs=DA r:=by
 unfold BR at h
 let p1:Nat×AV:=(1,.fn 185 [] [.pe (AA.enc x1) 0])
 let p2:Nat×AV:=(0,.sl 1 (x0.map cdS.enc))
 refine Ax (BY (s1:=⟨Fr 19 [p2,p1],[]⟩) AJ ?_);refine AK AC [p2,p1] [] ?_;refine AH ?_;refine AH ?_
 let p3:Nat×AV:=(8,.j 0)
 let p4:Nat×AV:=(7,.j (x0.length:Int))
 refine AM (s1:=⟨Fr 19 [p2,p1,p4,p3],[]⟩) ?_ ?_
 ·refine AD (n:=19) AC 1 [p2,p1,(6,.sl 1 (x0.map cdS.enc))] [] kr ?_
  refine AZ AC 0 rfl (DR (AB rfl) rfl (C3 (a:= .sl 1 (x0.map cdS.enc)) kr (Bn (el:=9) kr))) ?_;exact Ad AC
 refine Al ?_;obtain ⟨r7,hr7,h⟩:=OB h;refine DB (n:=100000) ?_;rcases r7 with w8 | w9
 ·try dsimp only at h
  refine BB (Aq (s1:=⟨Fr 19 [p2,p1,p4,p3],[]⟩) AJ (D0 x0 x1 _ 0 _ hr7)) ?_;refine AK AC [(4,.j (-1))] [] ?_;refine AR ?_;have hq:=OI h; subst hq;exact ⟨⟨Fr 19 [(4,.j (-1))],[]⟩,AJ,.inr rfl,[.j (-1)],kr,kr⟩
 ·try dsimp only at h
  refine BB (Aq (s1:=⟨Fr 19 [p2,p1,p4,p3],[]⟩) AJ (D0 x0 x1 _ 0 _ hr7)) ?_;have hq:=OI h; subst hq;exact ⟨⟨Fr 19 [(4,.j w9)],[]⟩,AJ,.inr rfl,[.j w9],kr,kr⟩
def Gs:List AV->Option AV:=ES C9 (fun a=>BR a.1 a.2.1) DA
theorem Gu:XOk 90 Gs:=by
 refine AU Tryz.func90 (c:=C8) ?h2 ⟨Tryz.call90⟩ C9 (fun a=>BR a.1 a.2.1) DA (fun a=>(by show 2<=19; decide)) ?h3 ?h4
 case h2=>kernel_rfl
 case h3=>intro b; kernel_rfl
 case h4=>exact fun a b h=>Gf a.1 a.2.1 b h
/- slices.ContainsFunc[[]string,string] -/
noncomputable def Dz:Code:=BL Tryz.f36
def A0 (x0:(List (List UInt8))) (x1:AF):Option (Bool) :=
 (BR x0 x1).bind fun v1 =>
 some (decide (v1≥0))
def Cm:Cs ((List (List UInt8))×AF×Unit):=(csC (cdL 1 cdS) (csC (cdF 185 (csE (cdP AA)) (fun _=>rfl)) csN))
def Co (r:Bool):AV:=cdB.enc r
theorem GA (x0:(List (List UInt8))) (x1:AF) (r:Bool) (h:A0 x0 x1=some r):Sem E0 ⟨none,false⟩ Dz ⟨Fr 9 (A6 0 (Cm.enc (x0,x1,()))),[]⟩ fun e s'=>(e = .normal\/e = .ret)/\∃ xs,EZ E0.P s'.fr s'.hp Tryz.f36.results.toList=some xs/\Ee xs=Co r:=by
 unfold A0 at h
 let p1:Nat×AV:=(1,.fn 185 [] [.pe (AA.enc x1) 0])
 refine Ax (BY (s1:=⟨Fr 9 [(0,.sl 1 (x0.map cdS.enc)),p1],[]⟩) AJ ?_);refine AK AC [(0,.sl 1 (x0.map cdS.enc)),p1] [] ?_;refine AH ?_;obtain ⟨v1,hv1,h⟩:=OB h
 let p2:Nat×AV:=(4,.b (decide (v1≥0)))
 refine AM (s1:=⟨Fr 9 [p2],[]⟩) ?_ ?_
 ·refine AD (n:=9) AC 2 [(5,.sl 1 (x0.map cdS.enc)),(6,.fn 185 [] [.pe (AA.enc x1) 0])] [] kr ?_
  refine AS (caps:=[]) (xs:=[.sl 1 (x0.map cdS.enc),.fn 185 [] [.pe (AA.enc x1) 0]]) (u:=(x0,x1,())) rfl rfl Gu rfl (AB rfl) kr kr (AL (AW (c:=(cdL 1 cdS)) (v:=x0)) (AL (Sm.fn (VK (AW (c:=(cdP AA)) (v:=x1)))) Ao)) (.inl kr) hv1 ?_;exact Ad AC
 refine AR ?_;have hq:=OI h; subst hq;exact ⟨⟨Fr 9 [p2],[]⟩,AJ,.inr rfl,[.b (decide (v1≥0))],kr,kr⟩
def GT:List AV->Option AV:=ES Cm (fun a=>A0 a.1 a.2.1) Co
theorem GV:XOk 36 GT:=by
 refine AU Tryz.func36 (c:=Dz) ?h2 ⟨Tryz.call36⟩ Cm (fun a=>A0 a.1 a.2.1) Co (fun a=>(by show 2<=9; decide)) ?h3 ?h4
 case h2=>kernel_rfl
 case h3=>intro b; kernel_rfl
 case h4=>exact fun a b h=>GA a.1 a.2.1 b h
/- trestle/court.plain$5 -/
noncomputable def OF:Code:=BL Tryz.f184
def Im (x0:Ab) (x1:AF):Option (Bool) :=
 (A0 x0.1.2.2.2.2.2.2.2.2 x1).bind fun v1 =>
 some v1
def Kx:Cs (Ab×AF×Unit):=(csC AG (csC (cdP AA) csN))
def LJ (r:Bool):AV:=cdB.enc r
theorem RS (x0:Ab) (x1:AF) (r:Bool) (h:Im x0 x1=some r):Sem E0 ⟨none,false⟩ OF ⟨Fr 9 (A6 0 (Kx.enc (x0,x1,()))),[]⟩ fun e s'=>(e = .normal\/e = .ret)/\∃ xs,EZ E0.P s'.fr s'.hp Tryz.f184.results.toList=some xs/\Ee xs=LJ r:=by
 unfold Im at h;refine Ax (BY (s1:=⟨Fr 9 [(0,AG.enc x0),(1,.pe (AA.enc x1) 0)],[]⟩) AJ ?_)
 let p1:Option Blk:=some ⟨10,115,[AG.enc x0],false⟩
 refine AK AC [(1,.pe (AA.enc x1) 0),(2,.pt 0 0 0)] [p1] ?_;refine AH ?_;obtain ⟨v1,hv1,h⟩:=OB h
 let p2:Nat×AV:=(3,.b v1)
 refine AM (s1:=⟨Fr 9 [p2],[]⟩) ?_ ?_
 ·refine AD (n:=9) AC 4 [(6,.sl 1 (x0.1.2.2.2.2.2.2.2.2.map cdS.enc)),(7,.fn 185 [] [.pe (AA.enc x1) 0])] [p1] kr ?_
  refine AS (caps:=[]) (xs:=[.sl 1 (x0.1.2.2.2.2.2.2.2.2.map cdS.enc),.fn 185 [] [.pe (AA.enc x1) 0]]) (u:=(x0.1.2.2.2.2.2.2.2.2,x1,())) rfl rfl GV rfl (AB rfl) kr kr (AL (AW (c:=(cdL 1 cdS)) (v:=x0.1.2.2.2.2.2.2.2.2)) (AL (Sm.fn (VK (AW (c:=(cdP AA)) (v:=x1)))) Ao)) (.inl kr) hv1 ?_;refine AD (n:=9) AC 1 [p2] [p1] kr ?_;exact AI rfl (Ar [] trivial ⟨lv,trivial⟩)
 refine AR ?_;have hq:=OI h; subst hq;exact ⟨⟨Fr 9 [p2],[]⟩,AJ,.inr rfl,[.b v1],kr,kr⟩
def Ts:List AV->Option AV:=ES Kx (fun a=>Im a.1 a.2.1) LJ
theorem UG:XOk 184 Ts:=by
 refine AU Tryz.func184 (c:=OF) ?h2 ⟨Tryz.call184⟩ Kx (fun a=>Im a.1 a.2.1) LJ (fun a=>(by show 2<=9; decide)) ?h3 ?h4
 case h2=>kernel_rfl
 case h3=>intro b; kernel_rfl
 case h4=>exact fun a b h=>RS a.1 a.2.1 b h
/- trestle/court.named$1 -/
noncomputable def HZ:Code:=BL Tryz.f206
def Bv (x0:Ab) (x1:AF) (x2:AF):Option (Int) :=
 (Im x0 x1).bind fun v1 =>
 if (!(v1==x2.2.2.1))=true then
 some 0
 else
 some 1
def FD:Cs (Ab×AF×AF×Unit):=(csC AG (csC (cdP (cdF 184 (csE (cdP AA)) (fun _=>rfl))) (csC (cdP AA) csN)))
def FH (r:Int):AV:=cdI.enc r
theorem Jw (x0:Ab) (x1:AF) (x2:AF) (r:Int) (h:Bv x0 x1 x2=some r):Sem E0 ⟨none,false⟩ HZ ⟨Fr 11 (A6 0 (FD.enc (x0,x1,x2,()))),[]⟩ fun e s'=>(e = .normal\/e = .ret)/\∃ xs,EZ E0.P s'.fr s'.hp Tryz.f206.results.toList=some xs/\Ee xs=FH r:=by
 unfold Bv at h
 let p1:Nat×AV:=(2,.pe (AA.enc x2) 0)
 let p2:Nat×AV:=(1,.pe (.fn 184 [] [.pe (AA.enc x1) 0]) 0)
 refine Ax (BY (s1:=⟨Fr 11 [(0,AG.enc x0),p2,p1],[]⟩) AJ ?_)
 let p3:Option Blk:=some ⟨10,115,[AG.enc x0],false⟩
 refine AK AC [p2,p1,(3,.pt 0 0 0)] [p3] ?_;refine AH ?_;refine AH ?_;obtain ⟨v1,hv1,h⟩:=OB h
 let p4:Nat×AV:=(10,.b (!(v1==x2.2.2.1)))
 refine D5 AC (s1:=⟨Fr 11 [p4],[]⟩) kr ?_ ?_
 ·refine Aa (n:=11) AC 2 [p1,(5,.fn 184 [] [.pe (AA.enc x1) 0]),(6,AG.enc x0)] [p3] kr kr ?_
  refine Bx (caps:=[.pe (AA.enc x1) 0]) (xs:=[AG.enc x0]) (u:=(x0,x1,())) rfl rfl UG rfl (AB rfl) kr kr (AL (AW (c:=AG) (v:=x0)) (AL (AW (c:=(cdP AA)) (v:=x1)) Ao)) kr hv1 ?_;refine Aa (n:=11) AC 3 [p4] [p3] kr kr ?_;exact RunDS.done rfl (Ar [] trivial ⟨lv,trivial⟩)
 refine AT (b:=(!(v1==x2.2.2.1))) kr (fun hb2=>?_) (fun hb2=>?_)
 ·rw [if_pos hb2] at h
  refine AK AC [(4,.j 0)] [] ?_;refine AR ?_;have hq:=OI h; subst hq;exact ⟨⟨Fr 11 [(4,.j 0)],[]⟩,AJ,.inr rfl,[.j 0],kr,kr⟩
 ·rw [Bm hb2] at h
  refine AY ?_;refine AK AC [(4,.j 1)] [] ?_;refine AR ?_;have hq:=OI h; subst hq;exact ⟨⟨Fr 11 [(4,.j 1)],[]⟩,AJ,.inr rfl,[.j 1],kr,kr⟩
def Kc:List AV->Option AV:=ES FD (fun a=>Bv a.1 a.2.1 a.2.2.1) FH
theorem Kj:XOk 206 Kc:=by
 refine AU Tryz.func206 (c:=HZ) ?h2 ⟨Tryz.call206⟩ FD (fun a=>Bv a.1 a.2.1 a.2.2.1) FH (fun a=>(by show 3<=11; decide)) ?h3 ?h4
 case h2=>kernel_rfl
 case h3=>intro b; kernel_rfl
 case h4=>exact fun a b h=>Jw a.1 a.2.1 a.2.2.1 b h
/- trestle/court.plain$6 -/
noncomputable def OG:Code:=BL Tryz.f186
def In (x0:Ab) (x1:AF):Option (Bool) :=
 (BC x1.2.2.2.1 x0.1.2.2.1).bind fun v1 =>
 some v1
def Ky:Cs (Ab×AF×Unit):=(csC AG (csC (cdP AA) csN))
def LK (r:Bool):AV:=cdB.enc r
theorem RT (x0:Ab) (x1:AF) (r:Bool) (h:In x0 x1=some r):Sem E0 ⟨none,false⟩ OG ⟨Fr 10 (A6 0 (Ky.enc (x0,x1,()))),[]⟩ fun e s'=>(e = .normal\/e = .ret)/\∃ xs,EZ E0.P s'.fr s'.hp Tryz.f186.results.toList=some xs/\Ee xs=LK r:=by
 unfold In at h;refine Ax (BY (s1:=⟨Fr 10 [(0,AG.enc x0),(1,.pe (AA.enc x1) 0)],[]⟩) AJ ?_)
 let p1:Option Blk:=some ⟨10,115,[AG.enc x0],false⟩
 refine AK AC [(1,.pe (AA.enc x1) 0),(2,.pt 0 0 0)] [p1] ?_;refine AH ?_;obtain ⟨v1,hv1,h⟩:=OB h
 let p2:Nat×AV:=(3,.b v1)
 refine AM (s1:=⟨Fr 10 [p2],[]⟩) ?_ ?_
 ·refine AD (n:=10) AC 5 [(5,.sl 1 (x1.2.2.2.1.map cdS.enc)),(8,.st x0.1.2.2.1)] [p1] kr ?_
  refine AS (caps:=[]) (xs:=[.sl 1 (x1.2.2.2.1.map cdS.enc),.st x0.1.2.2.1]) (u:=(x1.2.2.2.1,x0.1.2.2.1,())) rfl rfl Cr rfl (AB rfl) kr kr (AL (AW (c:=(cdL 1 cdS)) (v:=x1.2.2.2.1)) (AL (AW (c:=cdS) (v:=x0.1.2.2.1)) Ao)) (.inl kr) hv1 ?_;refine AD (n:=10) AC 1 [p2] [p1] kr ?_;exact AI rfl (Ar [] trivial ⟨lv,trivial⟩)
 refine AR ?_;have hq:=OI h; subst hq;exact ⟨⟨Fr 10 [p2],[]⟩,AJ,.inr rfl,[.b v1],kr,kr⟩
def Tt:List AV->Option AV:=ES Ky (fun a=>In a.1 a.2.1) LK
theorem UH:XOk 186 Tt:=by
 refine AU Tryz.func186 (c:=OG) ?h2 ⟨Tryz.call186⟩ Ky (fun a=>In a.1 a.2.1) LK (fun a=>(by show 2<=10; decide)) ?h3 ?h4
 case h2=>kernel_rfl
 case h3=>intro b; kernel_rfl
 case h4=>exact fun a b h=>RT a.1 a.2.1 b h
/- trestle/court.named$1 -/
noncomputable def Ha:Code:=BL Tryz.f206
def Bw (x0:Ab) (x1:AF) (x2:AF):Option (Int) :=
 (In x0 x1).bind fun v1 =>
 if (!(v1==x2.2.2.1))=true then
 some 0
 else
 some 1
def FE:Cs (Ab×AF×AF×Unit):=(csC AG (csC (cdP (cdF 186 (csE (cdP AA)) (fun _=>rfl))) (csC (cdP AA) csN)))
def FI (r:Int):AV:=cdI.enc r
theorem Jx (x0:Ab) (x1:AF) (x2:AF) (r:Int) (h:Bw x0 x1 x2=some r):Sem E0 ⟨none,false⟩ Ha ⟨Fr 11 (A6 0 (FE.enc (x0,x1,x2,()))),[]⟩ fun e s'=>(e = .normal\/e = .ret)/\∃ xs,EZ E0.P s'.fr s'.hp Tryz.f206.results.toList=some xs/\Ee xs=FI r:=by
 unfold Bw at h
 let p1:Nat×AV:=(2,.pe (AA.enc x2) 0)
 let p2:Nat×AV:=(1,.pe (.fn 186 [] [.pe (AA.enc x1) 0]) 0)
 refine Ax (BY (s1:=⟨Fr 11 [(0,AG.enc x0),p2,p1],[]⟩) AJ ?_)
 let p3:Option Blk:=some ⟨10,115,[AG.enc x0],false⟩
 refine AK AC [p2,p1,(3,.pt 0 0 0)] [p3] ?_;refine AH ?_;refine AH ?_;obtain ⟨v1,hv1,h⟩:=OB h
 let p4:Nat×AV:=(10,.b (!(v1==x2.2.2.1)))
 refine D5 AC (s1:=⟨Fr 11 [p4],[]⟩) kr ?_ ?_
 ·refine Aa (n:=11) AC 2 [p1,(5,.fn 186 [] [.pe (AA.enc x1) 0]),(6,AG.enc x0)] [p3] kr kr ?_
  refine Bx (caps:=[.pe (AA.enc x1) 0]) (xs:=[AG.enc x0]) (u:=(x0,x1,())) rfl rfl UH rfl (AB rfl) kr kr (AL (AW (c:=AG) (v:=x0)) (AL (AW (c:=(cdP AA)) (v:=x1)) Ao)) kr hv1 ?_;refine Aa (n:=11) AC 3 [p4] [p3] kr kr ?_;exact RunDS.done rfl (Ar [] trivial ⟨lv,trivial⟩)
 refine AT (b:=(!(v1==x2.2.2.1))) kr (fun hb2=>?_) (fun hb2=>?_)
 ·rw [if_pos hb2] at h
  refine AK AC [(4,.j 0)] [] ?_;refine AR ?_;have hq:=OI h; subst hq;exact ⟨⟨Fr 11 [(4,.j 0)],[]⟩,AJ,.inr rfl,[.j 0],kr,kr⟩
 ·rw [Bm hb2] at h
  refine AY ?_;refine AK AC [(4,.j 1)] [] ?_;refine AR ?_;have hq:=OI h; subst hq;exact ⟨⟨Fr 11 [(4,.j 1)],[]⟩,AJ,.inr rfl,[.j 1],kr,kr⟩
def Kd:List AV->Option AV:=ES FE (fun a=>Bw a.1 a.2.1 a.2.2.1) FI
theorem Kk:XOk 206 Kd:=by
 refine AU Tryz.func206 (c:=Ha) ?h2 ⟨Tryz.call206⟩ FE (fun a=>Bw a.1 a.2.1 a.2.2.1) FI (fun a=>(by show 3<=11; decide)) ?h3 ?h4
 case h2=>kernel_rfl
 case h3=>intro b; kernel_rfl
 case h4=>exact fun a b h=>Jx a.1 a.2.1 a.2.2.1 b h
/- trestle/court.placed$1 -/
noncomputable def NR:Code:=BL Tryz.f208
def EF (x0:Int):Option (Bool) :=
 (if (decide (x0≥0))=true then some (decide (x0<=63)) else some false).bind fun j2 =>
 some j2
def J5:Cs (Int×Unit):=(csC cdI csN)
def KC (r:Bool):AV:=cdB.enc r
theorem Ql (x0:Int) (r:Bool) (h:EF x0=some r):Sem E0 ⟨none,false⟩ NR ⟨Fr 9 (A6 0 (J5.enc (x0,()))),[]⟩ fun e s'=>(e = .normal\/e = .ret)/\∃ xs,EZ E0.P s'.fr s'.hp Tryz.f208.results.toList=some xs/\Ee xs=KC r:=by
 unfold EF at h;refine Ax (BY (s1:=⟨Fr 9 [(0,.j x0)],[]⟩) AJ ?_);refine AK AC [(0,.j x0)] [] ?_;refine AH ?_;obtain ⟨j2,hj2,h⟩:=OB h;refine AM (s1:=⟨Fr 9 [(2,.b j2)],[]⟩) ?_ ?_
 ·refine AD (n:=9) AC 3 [(0,.j x0),(5,.b (decide (x0≥0)))] [] kr ?_
  rcases BE (decide (x0≥0)) with hc3 | hc3
  ·rw [if_pos hc3] at hj2
   rw [hc3];refine AD (n:=9) AC 4 [(2,.b (decide (x0<=63)))] [] kr ?_;have hq:=OI hj2; subst hq;exact AI rfl AJ
  ·rw [Bm hc3] at hj2
   rw [hc3];refine AD (n:=9) AC 4 [(2,.b false)] [] kr ?_;have hq:=OI hj2; subst hq;exact AI rfl AJ
 refine AR ?_;have hq:=OI h; subst hq;exact ⟨⟨Fr 9 [(2,.b j2)],[]⟩,AJ,.inr rfl,[.b j2],kr,kr⟩
def Sc:List AV->Option AV:=ES J5 (fun a=>EF a.1) KC
theorem I3:XOk 208 Sc:=by
 refine AU Tryz.func208 (c:=NR) ?h2 ⟨Tryz.call208⟩ J5 (fun a=>EF a.1) KC (fun a=>(by show 1<=9; decide)) ?h3 ?h4
 case h2=>kernel_rfl
 case h3=>intro b; kernel_rfl
 case h4=>exact fun a b h=>Ql a.1 b h
/- trestle/court.plain$8 -/
noncomputable def OJ:Code:=BL Tryz.f190
def GC (x0:Int) (x1:AF):Option (Int) :=
 some ((wr .i64 ((wr .i64 (x0 * (wr .i64 ((wr .i64 (2 * x1.2.2.2.2)) + 1)))) + x1.2.2.2.2)).tmod 64)
def K0:Cs (Int×AF×Unit):=(csC cdI (csC (cdP AA) csN))
def LM (r:Int):AV:=cdI.enc r
theorem RV (x0:Int) (x1:AF) (r:Int) (h:GC x0 x1=some r):Sem E0 ⟨none,false⟩ OJ ⟨Fr 14 (A6 0 (K0.enc (x0,x1,()))),[]⟩ fun e s'=>(e = .normal\/e = .ret)/\∃ xs,EZ E0.P s'.fr s'.hp Tryz.f190.results.toList=some xs/\Ee xs=LM r:=by
 unfold GC at h;refine Ax (BY (s1:=⟨Fr 14 [(0,.j x0),(1,.pe (AA.enc x1) 0)],[]⟩) AJ ?_);refine AK AC [(0,.j x0),(1,.pe (AA.enc x1) 0)] [] ?_
 let p1:Nat×AV:=(3,.j ((wr .i64 ((wr .i64 (x0 * (wr .i64 ((wr .i64 (2 * x1.2.2.2.2)) + 1)))) + x1.2.2.2.2)).tmod 64))
 refine AK AC [p1] [] ?_;refine AR ?_;have hq:=OI h; subst hq;exact ⟨⟨Fr 14 [p1],[]⟩,AJ,.inr rfl,[.j ((wr .i64 ((wr .i64 (x0 * (wr .i64 ((wr .i64 (2 * x1.2.2.2.2)) + 1)))) + x1.2.2.2.2)).tmod 64)],kr,kr⟩
def Tv:List AV->Option AV:=ES K0 (fun a=>GC a.1 a.2.1) LM
theorem PV:XOk 190 Tv:=by
 refine AU Tryz.func190 (c:=OJ) ?h2 ⟨Tryz.call190⟩ K0 (fun a=>GC a.1 a.2.1) LM (fun a=>(by show 2<=14; decide)) ?h3 ?h4
 case h2=>kernel_rfl
 case h3=>intro b; kernel_rfl
 case h4=>exact fun a b h=>RV a.1 a.2.1 b h
/- trestle/court.placed$2 -/
noncomputable def EP:Code:=BL Tryz.f209
def BD (x0:Ab) (x1:Ab) (x3:AF):Option (Int) :=
 (EF x0.2).bind fun v1 =>
 (if (!v1)=true then some true else (EF x1.2).bind fun v2 =>
 some (!v2)).bind fun j4 =>
 if j4=true then
 some 0
 else
 (GC x0.2 x3).bind fun v6 =>
 (GC x1.2 x3).bind fun v7 =>
 (Dc v6 v7).bind fun v8 =>
 some v8
def DJ:Cs (Ab×Ab×Unit×AF×Unit):=(csC AG (csC AG (csC (cdP (cdF 208 csN (fun _=>rfl))) (csC (cdP (cdF 190 (csE (cdP AA)) (fun _=>rfl))) csN))))
def DN (r:Int):AV:=cdI.enc r
theorem Gm (x0:Ab) (x1:Ab) (x3:AF) (r:Int) (h:BD x0 x1 x3=some r):Sem E0 ⟨none,false⟩ EP ⟨Fr 28 (A6 0 (DJ.enc (x0,x1,(),x3,()))),[]⟩ fun e s'=>(e = .normal\/e = .ret)/\∃ xs,EZ E0.P s'.fr s'.hp Tryz.f209.results.toList=some xs/\Ee xs=DN r:=by
 unfold BD at h;refine Ax (BY (s1:=⟨Fr 28 [(0,AG.enc x0),(1,AG.enc x1),(2,.pe (.fn 208 [] []) 0),(3,.pe (.fn 190 [] [.pe (AA.enc x3) 0]) 0)],[]⟩) AJ ?_);refine AK AC [(2,.pe (.fn 208 [] []) 0),(3,.pe (.fn 190 [] [.pe (AA.enc x3) 0]) 0),(4,.pt 0 0 0),(5,.pt 1 0 0)] [some ⟨10,115,[AG.enc x0],false⟩,some ⟨10,115,[AG.enc x1],false⟩] ?_;refine AH ?_;refine AH ?_;obtain ⟨v1,hv1,h⟩:=OB h;obtain ⟨j4,hj4,h⟩:=OB h;refine AM (s1:=⟨Fr 28 [(3,.pe (.fn 190 [] [.pe (AA.enc x3) 0]) 0),(4,.pt 0 0 0),(5,.pt 1 0 0),(18,.b j4)],[some ⟨10,115,[AG.enc x0],false⟩,some ⟨10,115,[AG.enc x1],false⟩]⟩) ?_ ?_
 ·refine AD (n:=28) AC 3 [(2,.pe (.fn 208 [] []) 0),(3,.pe (.fn 190 [] [.pe (AA.enc x3) 0]) 0),(4,.pt 0 0 0),(5,.pt 1 0 0),(7,.fn 208 [] []),(9,.j x0.2)] [some ⟨10,115,[AG.enc x0],false⟩,some ⟨10,115,[AG.enc x1],false⟩] kr ?_
  refine AS (caps:=[]) (xs:=[.j x0.2]) (u:=(x0.2,())) rfl rfl I3 rfl (AB rfl) kr kr (AL (AW (c:=cdI) (v:=x0.2)) Ao) (.inl kr) hv1 ?_;refine AD (n:=28) AC 2 [(2,.pe (.fn 208 [] []) 0),(3,.pe (.fn 190 [] [.pe (AA.enc x3) 0]) 0),(4,.pt 0 0 0),(5,.pt 1 0 0),(12,.b (!v1))] [some ⟨10,115,[AG.enc x0],false⟩,some ⟨10,115,[AG.enc x1],false⟩] kr ?_;rcases BE (!v1) with hc9 | hc9
  ·rw [if_pos hc9] at hj4
   rw [hc9];refine AD (n:=28) AC 6 [(3,.pe (.fn 190 [] [.pe (AA.enc x3) 0]) 0),(4,.pt 0 0 0),(5,.pt 1 0 0),(18,.b true)] [some ⟨10,115,[AG.enc x0],false⟩,some ⟨10,115,[AG.enc x1],false⟩] kr ?_;have hq:=OI hj4; subst hq;exact AI rfl (Ar [0,1] ⟨⟨_,rfl,HS⟩,⟨_,rfl,HS⟩,trivial⟩ ⟨lv,lv,lv,lv,trivial⟩)
  ·rw [Bm hc9] at hj4
   rw [hc9];refine AD (n:=28) AC 3 [(3,.pe (.fn 190 [] [.pe (AA.enc x3) 0]) 0),(4,.pt 0 0 0),(5,.pt 1 0 0),(12,.b false),(13,.fn 208 [] []),(15,.j x1.2)] [some ⟨10,115,[AG.enc x0],false⟩,some ⟨10,115,[AG.enc x1],false⟩] kr ?_;obtain ⟨v2,hv2,hj4⟩:=OB hj4;refine AS (caps:=[]) (xs:=[.j x1.2]) (u:=(x1.2,())) rfl rfl I3 rfl kr kr kr (AL (AW (c:=cdI) (v:=x1.2)) Ao) (.inl kr) hv2 ?_;refine AD (n:=28) AC 2 [(3,.pe (.fn 190 [] [.pe (AA.enc x3) 0]) 0),(4,.pt 0 0 0),(5,.pt 1 0 0),(18,.b (!v2))] [some ⟨10,115,[AG.enc x0],false⟩,some ⟨10,115,[AG.enc x1],false⟩] kr ?_;have hq:=OI hj4; subst hq;exact AI rfl (Ar [0,1] ⟨⟨_,rfl,HS⟩,⟨_,rfl,HS⟩,trivial⟩ ⟨lv,lv,lv,lv,trivial⟩)
 refine AT (b:=j4) kr (fun hb5=>?_) (fun hb5=>?_)
 ·rw [if_pos hb5] at h
  refine AH ?_;refine AM (s1:=⟨Fr 28 [(6,.j 0)],[]⟩) ?_ ?_
  ·refine AD (n:=28) AC 1 [(6,.j 0)] [some ⟨10,115,[AG.enc x0],false⟩,some ⟨10,115,[AG.enc x1],false⟩] kr ?_
   exact AI rfl (Ar [] trivial ⟨lv,trivial⟩)
  refine AR ?_;have hq:=OI h; subst hq;exact ⟨⟨Fr 28 [(6,.j 0)],[]⟩,AJ,.inr rfl,[.j 0],kr,kr⟩
 ·rw [Bm hb5] at h
  refine AY ?_;refine AH ?_;obtain ⟨v6,hv6,h⟩:=OB h;obtain ⟨v7,hv7,h⟩:=OB h;obtain ⟨v8,hv8,h⟩:=OB h;refine D5 AC (s1:=⟨Fr 28 [(6,.j v8)],[]⟩) kr ?_ ?_
  ·refine Aa (n:=28) AC 3 [(3,.pe (.fn 190 [] [.pe (AA.enc x3) 0]) 0),(5,.pt 1 0 0),(19,.fn 190 [] [.pe (AA.enc x3) 0]),(21,.j x0.2)] [some ⟨10,115,[AG.enc x0],false⟩,some ⟨10,115,[AG.enc x1],false⟩] kr kr ?_
   refine Bx (caps:=[.pe (AA.enc x3) 0]) (xs:=[.j x0.2]) (u:=(x0.2,x3,())) rfl rfl PV rfl (AB rfl) kr kr (AL (AW (c:=cdI) (v:=x0.2)) (AL (AW (c:=(cdP AA)) (v:=x3)) Ao)) kr hv6 ?_;refine Aa (n:=28) AC 3 [(22,.j v6),(23,.fn 190 [] [.pe (AA.enc x3) 0]),(25,.j x1.2)] [some ⟨10,115,[AG.enc x0],false⟩,some ⟨10,115,[AG.enc x1],false⟩] kr kr ?_;refine Bx (caps:=[.pe (AA.enc x3) 0]) (xs:=[.j x1.2]) (u:=(x1.2,x3,())) rfl rfl PV rfl (AB rfl) kr kr (AL (AW (c:=cdI) (v:=x1.2)) (AL (AW (c:=(cdP AA)) (v:=x3)) Ao)) kr hv7 ?_;refine Bx (caps:=[]) (xs:=[.j v6,.j v7]) (u:=(v6,v7,())) rfl rfl Hg rfl (AB rfl) kr kr (AL (AW (c:=cdI) (v:=v6)) (AL (AW (c:=cdI) (v:=v7)) Ao)) kr hv8 ?_;refine Aa (n:=28) AC 1 [(6,.j v8)] [some ⟨10,115,[AG.enc x0],false⟩,some ⟨10,115,[AG.enc x1],false⟩] kr kr ?_;exact RunDS.done rfl (Ar [] trivial ⟨lv,trivial⟩)
  refine AR ?_;have hq:=OI h; subst hq;exact ⟨⟨Fr 28 [(6,.j v8)],[]⟩,AJ,.inr rfl,[.j v8],kr,kr⟩
def HI:List AV->Option AV:=ES DJ (fun a=>BD a.1 a.2.1 a.2.2.2.1) DN
theorem HN:XOk 209 HI:=by
 refine AU Tryz.func209 (c:=EP) ?h2 ⟨Tryz.call209⟩ DJ (fun a=>BD a.1 a.2.1 a.2.2.2.1) DN (fun a=>(by show 4<=28; decide)) ?h3 ?h4
 case h2=>kernel_rfl
 case h3=>intro b; kernel_rfl
 case h4=>exact fun a b h=>Gm a.1 a.2.1 a.2.2.2.1 b h
/- trestle/court.plain$9 -/
noncomputable def OK:Code:=BL Tryz.f191
def Hs (x0:Int):Option (Int) :=
 some x0
def K2:Cs (Int×Unit):=(csC cdI csN)
def LN (r:Int):AV:=cdI.enc r
theorem RW (x0:Int) (r:Int) (h:Hs x0=some r):Sem E0 ⟨none,false⟩ OK ⟨Fr 4 (A6 0 (K2.enc (x0,()))),[]⟩ fun e s'=>(e = .normal\/e = .ret)/\∃ xs,EZ E0.P s'.fr s'.hp Tryz.f191.results.toList=some xs/\Ee xs=LN r:=by
 unfold Hs at h;refine Ax (BY (s1:=⟨Fr 4 [(0,.j x0)],[]⟩) AJ ?_);refine AK AC [(0,.j x0)] [] ?_;refine AK AC [(2,.j x0)] [] ?_;refine AR ?_;have hq:=OI h; subst hq;exact ⟨⟨Fr 4 [(2,.j x0)],[]⟩,AJ,.inr rfl,[.j x0],kr,kr⟩
def Tw:List AV->Option AV:=ES K2 (fun a=>Hs a.1) LN
theorem PW:XOk 191 Tw:=by
 refine AU Tryz.func191 (c:=OK) ?h2 ⟨Tryz.call191⟩ K2 (fun a=>Hs a.1) LN (fun a=>(by show 1<=4; decide)) ?h3 ?h4
 case h2=>kernel_rfl
 case h3=>intro b; kernel_rfl
 case h4=>exact fun a b h=>RW a.1 b h
/- trestle/court.placed$2 -/
noncomputable def EQ:Code:=BL Tryz.f209
def BF (x0:Ab) (x1:Ab):Option (Int) :=
 (EF x0.2).bind fun v1 =>
 (if (!v1)=true then some true else (EF x1.2).bind fun v2 =>
 some (!v2)).bind fun j4 =>
 if j4=true then
 some 0
 else
 (Hs x0.2).bind fun v6 =>
 (Hs x1.2).bind fun v7 =>
 (Dc v6 v7).bind fun v8 =>
 some v8
def DK:Cs (Ab×Ab×Unit×Unit×Unit):=(csC AG (csC AG (csC (cdP (cdF 208 csN (fun _=>rfl))) (csC (cdP (cdF 191 csN (fun _=>rfl))) csN))))
def DO (r:Int):AV:=cdI.enc r
theorem Gn (x0:Ab) (x1:Ab) (r:Int) (h:BF x0 x1=some r):Sem E0 ⟨none,false⟩ EQ ⟨Fr 28 (A6 0 (DK.enc (x0,x1,(),(),()))),[]⟩ fun e s'=>(e = .normal\/e = .ret)/\∃ xs,EZ E0.P s'.fr s'.hp Tryz.f209.results.toList=some xs/\Ee xs=DO r:=by
 unfold BF at h;refine Ax (BY (s1:=⟨Fr 28 [(0,AG.enc x0),(1,AG.enc x1),(2,.pe (.fn 208 [] []) 0),(3,.pe (.fn 191 [] []) 0)],[]⟩) AJ ?_);refine AK AC [(2,.pe (.fn 208 [] []) 0),(3,.pe (.fn 191 [] []) 0),(4,.pt 0 0 0),(5,.pt 1 0 0)] [some ⟨10,115,[AG.enc x0],false⟩,some ⟨10,115,[AG.enc x1],false⟩] ?_;refine AH ?_;refine AH ?_;obtain ⟨v1,hv1,h⟩:=OB h;obtain ⟨j4,hj4,h⟩:=OB h;refine AM (s1:=⟨Fr 28 [(3,.pe (.fn 191 [] []) 0),(4,.pt 0 0 0),(5,.pt 1 0 0),(18,.b j4)],[some ⟨10,115,[AG.enc x0],false⟩,some ⟨10,115,[AG.enc x1],false⟩]⟩) ?_ ?_
 ·refine AD (n:=28) AC 3 [(2,.pe (.fn 208 [] []) 0),(3,.pe (.fn 191 [] []) 0),(4,.pt 0 0 0),(5,.pt 1 0 0),(7,.fn 208 [] []),(9,.j x0.2)] [some ⟨10,115,[AG.enc x0],false⟩,some ⟨10,115,[AG.enc x1],false⟩] kr ?_
  refine AS (caps:=[]) (xs:=[.j x0.2]) (u:=(x0.2,())) rfl rfl I3 rfl (AB rfl) kr kr (AL (AW (c:=cdI) (v:=x0.2)) Ao) (.inl kr) hv1 ?_;refine AD (n:=28) AC 2 [(2,.pe (.fn 208 [] []) 0),(3,.pe (.fn 191 [] []) 0),(4,.pt 0 0 0),(5,.pt 1 0 0),(12,.b (!v1))] [some ⟨10,115,[AG.enc x0],false⟩,some ⟨10,115,[AG.enc x1],false⟩] kr ?_;rcases BE (!v1) with hc9 | hc9
  ·rw [if_pos hc9] at hj4
   rw [hc9];refine AD (n:=28) AC 6 [(3,.pe (.fn 191 [] []) 0),(4,.pt 0 0 0),(5,.pt 1 0 0),(18,.b true)] [some ⟨10,115,[AG.enc x0],false⟩,some ⟨10,115,[AG.enc x1],false⟩] kr ?_;have hq:=OI hj4; subst hq;exact AI rfl (Ar [0,1] ⟨⟨_,rfl,HS⟩,⟨_,rfl,HS⟩,trivial⟩ ⟨lv,lv,lv,lv,trivial⟩)
  ·rw [Bm hc9] at hj4
   rw [hc9];refine AD (n:=28) AC 3 [(3,.pe (.fn 191 [] []) 0),(4,.pt 0 0 0),(5,.pt 1 0 0),(12,.b false),(13,.fn 208 [] []),(15,.j x1.2)] [some ⟨10,115,[AG.enc x0],false⟩,some ⟨10,115,[AG.enc x1],false⟩] kr ?_;obtain ⟨v2,hv2,hj4⟩:=OB hj4;refine AS (caps:=[]) (xs:=[.j x1.2]) (u:=(x1.2,())) rfl rfl I3 rfl kr kr kr (AL (AW (c:=cdI) (v:=x1.2)) Ao) (.inl kr) hv2 ?_;refine AD (n:=28) AC 2 [(3,.pe (.fn 191 [] []) 0),(4,.pt 0 0 0),(5,.pt 1 0 0),(18,.b (!v2))] [some ⟨10,115,[AG.enc x0],false⟩,some ⟨10,115,[AG.enc x1],false⟩] kr ?_;have hq:=OI hj4; subst hq;exact AI rfl (Ar [0,1] ⟨⟨_,rfl,HS⟩,⟨_,rfl,HS⟩,trivial⟩ ⟨lv,lv,lv,lv,trivial⟩)
 refine AT (b:=j4) kr (fun hb5=>?_) (fun hb5=>?_)
 ·rw [if_pos hb5] at h
  refine AH ?_;refine AM (s1:=⟨Fr 28 [(6,.j 0)],[]⟩) ?_ ?_
  ·refine AD (n:=28) AC 1 [(6,.j 0)] [some ⟨10,115,[AG.enc x0],false⟩,some ⟨10,115,[AG.enc x1],false⟩] kr ?_
   exact AI rfl (Ar [] trivial ⟨lv,trivial⟩)
  refine AR ?_;have hq:=OI h; subst hq;exact ⟨⟨Fr 28 [(6,.j 0)],[]⟩,AJ,.inr rfl,[.j 0],kr,kr⟩
 ·rw [Bm hb5] at h
  refine AY ?_;refine AH ?_;obtain ⟨v6,hv6,h⟩:=OB h;obtain ⟨v7,hv7,h⟩:=OB h;obtain ⟨v8,hv8,h⟩:=OB h;refine D5 AC (s1:=⟨Fr 28 [(6,.j v8)],[]⟩) kr ?_ ?_
  ·refine Aa (n:=28) AC 3 [(3,.pe (.fn 191 [] []) 0),(5,.pt 1 0 0),(19,.fn 191 [] []),(21,.j x0.2)] [some ⟨10,115,[AG.enc x0],false⟩,some ⟨10,115,[AG.enc x1],false⟩] kr kr ?_
   refine Bx (caps:=[]) (xs:=[.j x0.2]) (u:=(x0.2,())) rfl rfl PW rfl (AB rfl) kr kr (AL (AW (c:=cdI) (v:=x0.2)) Ao) kr hv6 ?_;refine Aa (n:=28) AC 3 [(22,.j v6),(23,.fn 191 [] []),(25,.j x1.2)] [some ⟨10,115,[AG.enc x0],false⟩,some ⟨10,115,[AG.enc x1],false⟩] kr kr ?_;refine Bx (caps:=[]) (xs:=[.j x1.2]) (u:=(x1.2,())) rfl rfl PW rfl (AB rfl) kr kr (AL (AW (c:=cdI) (v:=x1.2)) Ao) kr hv7 ?_;refine Bx (caps:=[]) (xs:=[.j v6,.j v7]) (u:=(v6,v7,())) rfl rfl Hg rfl (AB rfl) kr kr (AL (AW (c:=cdI) (v:=v6)) (AL (AW (c:=cdI) (v:=v7)) Ao)) kr hv8 ?_;refine Aa (n:=28) AC 1 [(6,.j v8)] [some ⟨10,115,[AG.enc x0],false⟩,some ⟨10,115,[AG.enc x1],false⟩] kr kr ?_;exact RunDS.done rfl (Ar [] trivial ⟨lv,trivial⟩)
  refine AR ?_;have hq:=OI h; subst hq;exact ⟨⟨Fr 28 [(6,.j v8)],[]⟩,AJ,.inr rfl,[.j v8],kr,kr⟩
def HJ:List AV->Option AV:=ES DK (fun a=>BF a.1 a.2.1) DO
theorem HO:XOk 209 HJ:=by
 refine AU Tryz.func209 (c:=EQ) ?h2 ⟨Tryz.call209⟩ DK (fun a=>BF a.1 a.2.1) DO (fun a=>(by show 4<=28; decide)) ?h3 ?h4
 case h2=>kernel_rfl
 case h3=>intro b; kernel_rfl
 case h4=>exact fun a b h=>Gn a.1 a.2.1 b h
theorem AC7 {f:FuncId}(hc:DD E0.P f){α β:Type}(s:Cs α) (F:α->Option β) (er:β->AV) (h:∀ a b,F a=some b->∃ t,XOk f t/\t (s.enc a)=some (er b)):XOk f (ES s F er):=by
 refine ⟨hc,fun xs y hy w Z us hz hg hv=>?_⟩
 obtain ⟨a,ha,hy⟩:=OB hy
 obtain ⟨b,hb,rfl⟩:=Option.map_eq_some_iff.1 hy
 obtain ⟨t,hX,ht⟩:=h a b hb
 exact hX.2 _ _ ht w Z us hz hg (s.vr ha hv)
def GY (a b:Ab) (c:AF):Option Int :=
 if (c.1==1)=true then DI (fun a b (v:(AF×Unit)×Unit)=>Dl (fun x (v:AF×Unit)=>FO x v.1) a b v.1) a b c ((c,()),()) else
 if (c.1==2)=true then DI (fun a b (v:AF×Unit)=>EW a b v.1) a b c (c,()) else
 if (c.1==3)=true then DI (fun a b (v:AF×Unit)=>EW a b v.1) a b c (c,()) else
 if (c.1==4)=true then DI (fun a b (v:(AF×AF×Unit)×Unit)=>Dl (fun x (v:AF×AF×Unit)=>CD x v.1 v.2.1) a b v.1) a b c ((c,c,()),()) else
 if (c.1==5)=true then DI (fun a b (v:(Unit×AF×Unit)×Unit)=>Dl (fun x (v:Unit×AF×Unit)=>CE x v.2.1) a b v.1) a b c (((),c,()),()) else
 if (c.1==6)=true then DI (fun a b (v:(AF×AF×Unit)×Unit)=>Dl (fun x (v:AF×AF×Unit)=>Bv x v.1 v.2.1) a b v.1) a b c ((c,c,()),()) else
 if (c.1==7)=true then DI (fun a b (v:(AF×AF×Unit)×Unit)=>Dl (fun x (v:AF×AF×Unit)=>Bw x v.1 v.2.1) a b v.1) a b c ((c,c,()),()) else
 if (c.1==8)=true then DI (fun a b (_:Unit)=>G4 a b) a b c () else
 if (c.1==10)=true then DI (fun a b (v:Unit×AF×Unit)=>BD a b v.2.1) a b c ((),c,()) else
 DI (fun a b (_:Unit×Unit×Unit)=>BF a b) a b c ((),(),())
noncomputable def Jb:Cs (Ab×Ab×AF):=csC AG (csC AG WI)
noncomputable def Mp (r:Int):AV:=cdI.enc r
noncomputable def Rt:List AV->Option AV:=ES Jb (fun a=>GY a.1 a.2.1 a.2.2) Mp
theorem NK {α β:Type}{s:Cs α}{F:α->Option β}{er:β->AV}{a:α}{b:β}{xs:List AV}(h:F a=some b) (e:xs=s.enc a):ES s F er xs=some (er b):=e ▸ S9 h
theorem ACC (a b:Ab) (c:AF):Jb.enc (a,b,c)=[AG.enc a,AG.enc b,.pe (AA.enc c) 0,.pe (Qn c) 0]:=rfl
theorem R6:XOk 165 Rt:=by
 refine AC7 ⟨Tryz.call165⟩ Jb (fun a=>GY a.1 a.2.1 a.2.2) Mp fun x r h=>?_
 obtain ⟨a,b,c⟩:=x
 rw [ACC]
 dsimp only at h
 unfold GY at h
 unfold Qn
 rcases BE (c.1==1) with h1 | h1
 ·rw [if_pos h1] at h; rw [if_pos h1]
  exact ⟨_,Dv (sx:=csC (cdP (cdF 178 (csC (cdP AA) csN) (fun _=>rfl))) csN) (hn:=fun _=>rfl) (G:=fun a b (v:(AF×Unit)×Unit)=>Dl (fun x (v:AF×Unit)=>FO x v.1) a b v.1) (Kg (sx:=csC (cdP AA) csN) (hn:=fun _=>rfl) (G:=fun x (v:AF×Unit)=>FO x v.1) UD),NK (a:=(a,b,c,((c,()),()),())) h rfl⟩
 rw [if_neg (by rw [h1]; decide)] at h; rw [if_neg (by rw [h1]; decide)]
 rcases BE (c.1==2) with h1 | h1
 ·rw [if_pos h1] at h; rw [if_pos h1]
  exact ⟨_,Dv (sx:=csC (cdP AA) csN) (hn:=fun _=>rfl) (G:=fun a b (v:AF×Unit)=>EW a b v.1) PU,NK (a:=(a,b,c,(c,()),())) h rfl⟩
 rw [if_neg (by rw [h1]; decide)] at h; rw [if_neg (by rw [h1]; decide)]
 rcases BE (c.1==3) with h1 | h1
 ·rw [if_pos h1] at h; rw [if_pos h1]
  exact ⟨_,Dv (sx:=csC (cdP AA) csN) (hn:=fun _=>rfl) (G:=fun a b (v:AF×Unit)=>EW a b v.1) PU,NK (a:=(a,b,c,(c,()),())) h rfl⟩
 rw [if_neg (by rw [h1]; decide)] at h; rw [if_neg (by rw [h1]; decide)]
 rcases BE (c.1==4) with h1 | h1
 ·rw [if_pos h1] at h; rw [if_pos h1]
  exact ⟨_,Dv (sx:=csC (cdP (cdF 206 (csC (cdP (cdF 182 (csE (cdP AA)) (fun _=>rfl))) (csC (cdP AA) csN)) (fun _=>rfl))) csN) (hn:=fun _=>rfl) (G:=fun a b (v:(AF×AF×Unit)×Unit)=>Dl (fun x (v:AF×AF×Unit)=>CD x v.1 v.2.1) a b v.1) (Kg (sx:=csC (cdP (cdF 182 (csE (cdP AA)) (fun _=>rfl))) (csC (cdP AA) csN)) (hn:=fun _=>rfl) (G:=fun x (v:AF×AF×Unit)=>CD x v.1 v.2.1) Kh),NK (a:=(a,b,c,((c,c,()),()),())) h rfl⟩
 rw [if_neg (by rw [h1]; decide)] at h; rw [if_neg (by rw [h1]; decide)]
 rcases BE (c.1==5) with h1 | h1
 ·rw [if_pos h1] at h; rw [if_pos h1]
  exact ⟨_,Dv (sx:=csC (cdP (cdF 206 (csC (cdP (cdF 183 csN (fun _=>rfl))) (csC (cdP AA) csN)) (fun _=>rfl))) csN) (hn:=fun _=>rfl) (G:=fun a b (v:(Unit×AF×Unit)×Unit)=>Dl (fun x (v:Unit×AF×Unit)=>CE x v.2.1) a b v.1) (Kg (sx:=csC (cdP (cdF 183 csN (fun _=>rfl))) (csC (cdP AA) csN)) (hn:=fun _=>rfl) (G:=fun x (v:Unit×AF×Unit)=>CE x v.2.1) Ki),NK (a:=(a,b,c,(((),c,()),()),())) h rfl⟩
 rw [if_neg (by rw [h1]; decide)] at h; rw [if_neg (by rw [h1]; decide)]
 rcases BE (c.1==6) with h1 | h1
 ·rw [if_pos h1] at h; rw [if_pos h1]
  exact ⟨_,Dv (sx:=csC (cdP (cdF 206 (csC (cdP (cdF 184 (csE (cdP AA)) (fun _=>rfl))) (csC (cdP AA) csN)) (fun _=>rfl))) csN) (hn:=fun _=>rfl) (G:=fun a b (v:(AF×AF×Unit)×Unit)=>Dl (fun x (v:AF×AF×Unit)=>Bv x v.1 v.2.1) a b v.1) (Kg (sx:=csC (cdP (cdF 184 (csE (cdP AA)) (fun _=>rfl))) (csC (cdP AA) csN)) (hn:=fun _=>rfl) (G:=fun x (v:AF×AF×Unit)=>Bv x v.1 v.2.1) Kj),NK (a:=(a,b,c,((c,c,()),()),())) h rfl⟩
 rw [if_neg (by rw [h1]; decide)] at h; rw [if_neg (by rw [h1]; decide)]
 rcases BE (c.1==7) with h1 | h1
 ·rw [if_pos h1] at h; rw [if_pos h1]
  exact ⟨_,Dv (sx:=csC (cdP (cdF 206 (csC (cdP (cdF 186 (csE (cdP AA)) (fun _=>rfl))) (csC (cdP AA) csN)) (fun _=>rfl))) csN) (hn:=fun _=>rfl) (G:=fun a b (v:(AF×AF×Unit)×Unit)=>Dl (fun x (v:AF×AF×Unit)=>Bw x v.1 v.2.1) a b v.1) (Kg (sx:=csC (cdP (cdF 186 (csE (cdP AA)) (fun _=>rfl))) (csC (cdP AA) csN)) (hn:=fun _=>rfl) (G:=fun x (v:AF×AF×Unit)=>Bw x v.1 v.2.1) Kk),NK (a:=(a,b,c,((c,c,()),()),())) h rfl⟩
 rw [if_neg (by rw [h1]; decide)] at h; rw [if_neg (by rw [h1]; decide)]
 rcases BE (c.1==8) with h1 | h1
 ·rw [if_pos h1] at h; rw [if_pos h1]
  exact ⟨_,Dv (sx:=csN) (hn:=fun _=>rfl) (G:=fun a b (_:Unit)=>G4 a b) UI,NK (a:=(a,b,c,(),())) h rfl⟩
 rw [if_neg (by rw [h1]; decide)] at h; rw [if_neg (by rw [h1]; decide)]
 rcases BE (c.1==10) with h1 | h1
 ·rw [if_pos h1] at h; rw [if_pos h1]
  exact ⟨_,Dv (sx:=csC (cdP (cdF 208 csN (fun _=>rfl))) (csC (cdP (cdF 190 (csE (cdP AA)) (fun _=>rfl))) csN)) (hn:=fun _=>rfl) (G:=fun a b (v:Unit×AF×Unit)=>BD a b v.2.1) HN,NK (a:=(a,b,c,((),c,()),())) h rfl⟩
 rw [if_neg (by rw [h1]; decide)] at h; rw [if_neg (by rw [h1]; decide)]
 exact ⟨_,Dv (sx:=csC (cdP (cdF 208 csN (fun _=>rfl))) (csC (cdP (cdF 191 csN (fun _=>rfl))) csN)) (hn:=fun _=>rfl) (G:=fun a b (_:Unit×Unit×Unit)=>BF a b) HO,NK (a:=(a,b,c,((),(),()),())) h rfl⟩
/- trestle/court.first[trestle/court.seated,trestle/court.order] -/
noncomputable def D6:Code:=BL Tryz.f76
def A2 (x0:(List AF)):Nat->(List UInt8)->(List UInt8)->(List UInt8)->Int->Int->(List UInt8)->Bool->Bool->(List (List UInt8))->Int->(List UInt8)->(List UInt8)->(List UInt8)->Int->Int->(List UInt8)->Bool->Bool->(List (List UInt8))->Int->Int->Option ((Unit) ⊕ (Int×Int))
 | 0,_,_,_,_,_,_,_,_,_,_,_,_,_,_,_,_,_,_,_,_,_=>none
 | f + 1,c1,c2,c3,c4,c5,c6,c7,c8,c9,c10,c11,c12,c13,c14,c15,c16,c17,c18,c19,c20,c21 =>
  if (decide (c21 < (x0.length:Int)))=true then
  (idx x0 c21).bind fun v23 =>
  (GY ((c1,c2,c3,c4,c5,c6,c7,c8,c9),c10) ((c11,c12,c13,c14,c15,c16,c17,c18,c19),c20) v23).bind fun v24 =>
  if (v24 != 0)=true then
  some (.inr (c21,v24))
  else
  A2 x0 f c1 c2 c3 c4 c5 c6 c7 c8 c9 c10 c11 c12 c13 c14 c15 c16 c17 c18 c19 c20 (wr .i64 (c21 + 1))
  else
  some (.inl ())
def BW (x0:(List AF)) (x1:Ab) (x2:Ab):Option (Int×Int) :=
 (A2 x0 100000 x1.1.1 x1.1.2.1 x1.1.2.2.1 x1.1.2.2.2.1 x1.1.2.2.2.2.1 x1.1.2.2.2.2.2.1 x1.1.2.2.2.2.2.2.1 x1.1.2.2.2.2.2.2.2.1 x1.1.2.2.2.2.2.2.2.2 x1.2 x2.1.1 x2.1.2.1 x2.1.2.2.1 x2.1.2.2.2.1 x2.1.2.2.2.2.1 x2.1.2.2.2.2.2.1 x2.1.2.2.2.2.2.2.1 x2.1.2.2.2.2.2.2.2.1 x2.1.2.2.2.2.2.2.2.2 x2.2 0).bind fun r28 =>
 match r28 with
 | (.inl w29) =>
  some ((-1),0)
 | (.inr w30) =>
  some (w30.1,w30.2)
noncomputable def EB:Cs ((List AF)×Ab×Ab×Unit):=(csC (cdL 1 DW) (csC AG (csC AG csN)))
noncomputable def EC (r:Int×Int):AV:= .tp [cdI.enc r.1,cdI.enc r.2]
theorem Ep (x0:(List AF)):∀ (f:Nat) (c1:(List UInt8)) (c2:(List UInt8)) (c3:(List UInt8)) (c4:Int) (c5:Int) (c6:(List UInt8)) (c7:Bool) (c8:Bool) (c9:(List (List UInt8))) (c10:Int) (c11:(List UInt8)) (c12:(List UInt8)) (c13:(List UInt8)) (c14:Int) (c15:Int) (c16:(List UInt8)) (c17:Bool) (c18:Bool) (c19:(List (List UInt8))) (c20:Int) (c21:Int) (r:(Unit) ⊕ (Int×Int)),A2 x0 f c1 c2 c3 c4 c5 c6 c7 c8 c9 c10 c11 c12 c13 c14 c15 c16 c17 c18 c19 c20 c21=some r->SemN E0 ⟨none,false⟩ (pc D6 [1,0,1,0,0]) f ⟨Fr 27 [(4,.pt 0 0 0),(5,.pt 1 0 0),(11,.sl 1 (x0.map DW.enc)),(12,.j (x0.length:Int)),(13,.j c21)],[some ⟨10,115,[.ag [.st c1,.st c2,.st c3,.j c4,.j c5,.st c6,.b c7,.b c8,.sl 1 (c9.map cdS.enc),.j c10]],false⟩,some ⟨10,115,[.ag [.st c11,.st c12,.st c13,.j c14,.j c15,.st c16,.b c17,.b c18,.sl 1 (c19.map cdS.enc),.j c20]],false⟩]⟩ (fun e s=>match r with
 | (.inl w)=>e=(.exit 0)/\Wk E0 s ⟨Fr 27 [],[]⟩
 | (.inr w)=>e = .ret/\Wk E0 s ⟨Fr 27 [(6,.j w.1),(7,.j w.2)],[]⟩):=by
 intro f;induction f with
 | zero=>intro c1 c2 c3 c4 c5 c6 c7 c8 c9 c10 c11 c12 c13 c14 c15 c16 c17 c18 c19 c20 c21 r h; cases h
 | succ f ih0 =>
  intro c1 c2 c3 c4 c5 c6 c7 c8 c9 c10 c11 c12 c13 c14 c15 c16 c17 c18 c19 c20 c21 r h
  have ih:=fun (c1:(List UInt8)) (c2:(List UInt8)) (c3:(List UInt8)) (c4:Int) (c5:Int) (c6:(List UInt8)) (c7:Bool) (c8:Bool) (c9:(List (List UInt8))) (c10:Int) (c11:(List UInt8)) (c12:(List UInt8)) (c13:(List UInt8)) (c14:Int) (c15:Int) (c16:(List UInt8)) (c17:Bool) (c18:Bool) (c19:(List (List UInt8))) (c20:Int) (c21:Int)=>ih0 c1 c2 c3 c4 c5 c6 c7 c8 c9 c10 c11 c12 c13 c14 c15 c16 c17 c18 c19 c20 c21 r
  unfold A2 at h;refine CI ?_
  let p1:Option Blk:=some ⟨10,115,[.ag [.st c11,.st c12,.st c13,.j c14,.j c15,.st c16,.b c17,.b c18,.sl 1 (c19.map cdS.enc),.j c20]],false⟩
  let p2:Option Blk:=some ⟨10,115,[.ag [.st c1,.st c2,.st c3,.j c4,.j c5,.st c6,.b c7,.b c8,.sl 1 (c9.map cdS.enc),.j c10]],false⟩
  let p3:Nat×AV:=(13,.j c21)
  let p4:Nat×AV:=(12,.j (x0.length:Int))
  let p5:Nat×AV:=(11,.sl 1 (x0.map DW.enc))
  let p6:Nat×AV:=(5,.pt 1 0 0)
  let p7:Nat×AV:=(4,.pt 0 0 0)
  refine AK AC [p7,p6,p5,p4,p3,(14,.b (decide (c21 < (x0.length:Int))))] [p2,p1] ?_;refine AH ?_;refine AT (b:=(decide (c21 < (x0.length:Int)))) kr (fun hb22=>?_) (fun hb22=>?_)
  ·rw [if_pos hb22] at h
   refine AY ?_;refine AH ?_;refine Al ?_;refine AH ?_;obtain ⟨v23,hv23,h⟩:=OB h
   let p8:Nat×AV:=(8,.j c21)
   refine AM (s1:=⟨Fr 27 [p7,p6,p8,(9,DW.enc v23),p5,p4,p3],[p2,p1]⟩) ?_ ?_
   ·refine AD (n:=27) AC 1 [p7,p6,p5,p4,p3,(15,.j c21)] [p2,p1] kr ?_
    refine AZ AC 0 rfl (DR (AB rfl) rfl (AP (a:= .sl 1 (x0.map DW.enc)) (b:= .j c21) kr kr (Di (e:=DW.enc) (el:=117) (k:=1) (ki:= .i64) kr kr hv23))) ?_;exact Ad AC
   refine AH ?_;obtain ⟨v24,hv24,h⟩:=OB h;refine AM (s1:=⟨Fr 27 [p7,p6,p8,(10,.j v24),p5,p4,p3],[p2,p1]⟩) ?_ ?_
   ·refine AD (n:=27) AC 3 [p7,p6,p8,p5,p4,p3,(18,DW.enc v23),(19,.ag [.st c1,.st c2,.st c3,.j c4,.j c5,.st c6,.b c7,.b c8,.sl 1 (c9.map cdS.enc),.j c10]),(20,.ag [.st c11,.st c12,.st c13,.j c14,.j c15,.st c16,.b c17,.b c18,.sl 1 (c19.map cdS.enc),.j c20])] [p2,p1] kr ?_
    refine AS (caps:=[.pe (AA.enc v23) 0,.pe (Qn v23) 0]) (xs:=[.ag [.st c1,.st c2,.st c3,.j c4,.j c5,.st c6,.b c7,.b c8,.sl 1 (c9.map cdS.enc),.j c10],.ag [.st c11,.st c12,.st c13,.j c14,.j c15,.st c16,.b c17,.b c18,.sl 1 (c19.map cdS.enc),.j c20]]) (u:=(((c1,c2,c3,c4,c5,c6,c7,c8,c9),c10),((c11,c12,c13,c14,c15,c16,c17,c18,c19),c20),v23)) rfl rfl R6 rfl (AB rfl) kr kr (AL (AW (c:=AG) (v:=((c1,c2,c3,c4,c5,c6,c7,c8,c9),c10))) (AL (AW (c:=AG) (v:=((c11,c12,c13,c14,c15,c16,c17,c18,c19),c20))) (VJ (n:=10) (s:=WI) (a:=v23)))) (.inl kr) hv24 ?_;exact Ad AC
   refine AK AC [p7,p6,p8,(10,.j v24),p5,p4,p3,(23,.b (v24 != 0))] [p2,p1] ?_;refine AT (b:=(v24 != 0)) kr (fun hb25=>?_) (fun hb25=>?_)
   ·rw [if_pos hb25] at h
    refine AH ?_;refine AM (s1:=⟨Fr 27 [(6,.j c21),(7,.j v24)],[]⟩) ?_ ?_
    ·refine AD (n:=27) AC 4 [(6,.j c21),(7,.j v24)] [p2,p1] kr ?_
     exact AI rfl (Ar [] trivial ⟨lv,lv,trivial⟩)
    refine AR ?_;have hq:=OI h; subst hq;exact ⟨rfl,AJ⟩
   ·rw [Bm hb25] at h
    refine AY ?_
    let p9:Nat×AV:=(13,.j (wr .i64 (c21 + 1)))
    refine D1 AC [p7,p6,p5,p4,p9] [p2,p1] ?_;exact Aq (s1:=⟨Fr 27 [p7,p6,p5,p4,p9],[p2,p1]⟩) (Ar [0,1] ⟨⟨_,rfl,HS⟩,⟨_,rfl,HS⟩,trivial⟩ ⟨lv,lv,lv,lv,lv,trivial⟩) (ih c1 c2 c3 c4 c5 c6 c7 c8 c9 c10 c11 c12 c13 c14 c15 c16 c17 c18 c19 c20 (wr .i64 (c21 + 1)) h)
  ·rw [Bm hb22] at h
   refine C6 ?_;have hq:=OI h; subst hq;exact ⟨rfl,(Ar [] trivial trivial)⟩
theorem IK (x0:(List AF)) (x1:Ab) (x2:Ab) (r:Int×Int) (h:BW x0 x1 x2=some r):Sem E0 ⟨none,false⟩ D6 ⟨Fr 27 (A6 0 (EB.enc (x0,x1,x2,()))),[]⟩ fun e s'=>(e = .normal\/e = .ret)/\∃ xs,EZ E0.P s'.fr s'.hp Tryz.f76.results.toList=some xs/\Ee xs=EC r:=by
 unfold BW at h;refine Ax (BY (s1:=⟨Fr 27 [(0,.sl 1 (x0.map DW.enc)),(1,AG.enc x1),(2,AG.enc x2)],[]⟩) AJ ?_)
 let p1:Option Blk:=some ⟨10,115,[AG.enc x2],false⟩
 let p2:Option Blk:=some ⟨10,115,[AG.enc x1],false⟩
 let p3:Nat×AV:=(5,.pt 1 0 0)
 let p4:Nat×AV:=(4,.pt 0 0 0)
 refine AK AC [(0,.sl 1 (x0.map DW.enc)),p4,p3] [p2,p1] ?_;refine AH ?_;refine AH ?_
 let p5:Nat×AV:=(13,.j 0)
 let p6:Nat×AV:=(12,.j (x0.length:Int))
 let p7:Nat×AV:=(11,.sl 1 (x0.map DW.enc))
 refine AM (s1:=⟨Fr 27 [p4,p3,p7,p6,p5],[p2,p1]⟩) ?_ ?_
 ·refine AD (n:=27) AC 1 [p4,p3,p7] [p2,p1] kr ?_
  refine AZ AC 0 rfl (DR (AB rfl) rfl (C3 (a:= .sl 1 (x0.map DW.enc)) kr (Bn (el:=117) kr))) ?_;exact Ad AC
 refine Al ?_;obtain ⟨r28,hr28,h⟩:=OB h;refine DB (n:=100000) ?_;rcases r28 with w29 | w30
 ·try dsimp only at h
  refine BB (Aq (s1:=⟨Fr 27 [p4,p3,p7,p6,p5],[p2,p1]⟩) (Ar [0,1] ⟨⟨_,rfl,HS⟩,⟨_,rfl,HS⟩,trivial⟩ ⟨lv,lv,lv,lv,lv,trivial⟩) (Ep x0 _ x1.1.1 x1.1.2.1 x1.1.2.2.1 x1.1.2.2.2.1 x1.1.2.2.2.2.1 x1.1.2.2.2.2.2.1 x1.1.2.2.2.2.2.2.1 x1.1.2.2.2.2.2.2.2.1 x1.1.2.2.2.2.2.2.2.2 x1.2 x2.1.1 x2.1.2.1 x2.1.2.2.1 x2.1.2.2.2.1 x2.1.2.2.2.2.1 x2.1.2.2.2.2.2.1 x2.1.2.2.2.2.2.2.1 x2.1.2.2.2.2.2.2.2.1 x2.1.2.2.2.2.2.2.2.2 x2.2 0 _ hr28)) ?_;refine AK AC [(6,.j (-1)),(7,.j 0)] [] ?_;refine AR ?_;have hq:=OI h; subst hq;exact ⟨⟨Fr 27 [(6,.j (-1)),(7,.j 0)],[]⟩,AJ,.inr rfl,[.j (-1),.j 0],kr,kr⟩
 ·try dsimp only at h
  refine BB (Aq (s1:=⟨Fr 27 [p4,p3,p7,p6,p5],[p2,p1]⟩) (Ar [0,1] ⟨⟨_,rfl,HS⟩,⟨_,rfl,HS⟩,trivial⟩ ⟨lv,lv,lv,lv,lv,trivial⟩) (Ep x0 _ x1.1.1 x1.1.2.1 x1.1.2.2.1 x1.1.2.2.2.1 x1.1.2.2.2.2.1 x1.1.2.2.2.2.2.1 x1.1.2.2.2.2.2.2.1 x1.1.2.2.2.2.2.2.2.1 x1.1.2.2.2.2.2.2.2.2 x1.2 x2.1.1 x2.1.2.1 x2.1.2.2.1 x2.1.2.2.2.1 x2.1.2.2.2.2.1 x2.1.2.2.2.2.2.1 x2.1.2.2.2.2.2.2.1 x2.1.2.2.2.2.2.2.2.1 x2.1.2.2.2.2.2.2.2.2 x2.2 0 _ hr28)) ?_;have hq:=OI h; subst hq;exact ⟨⟨Fr 27 [(6,.j w30.1),(7,.j w30.2)],[]⟩,AJ,.inr rfl,[.j w30.1,.j w30.2],kr,kr⟩
noncomputable def Ir:List AV->Option AV:=ES EB (fun a=>BW a.1 a.2.1 a.2.2.1) EC
theorem Is:XOk 76 Ir:=by
 refine AU Tryz.func76 (c:=D6) ?h2 ⟨Tryz.call76⟩ EB (fun a=>BW a.1 a.2.1 a.2.2.1) EC (fun a=>(by show 3<=27; decide)) ?h3 ?h4
 case h2=>kernel_rfl
 case h3=>intro b; kernel_rfl
 case h4=>exact fun a b h=>IK a.1 a.2.1 a.2.2.1 b h
/- trestle/court.groups$1 -/
noncomputable def NQ:Code:=BL Tryz.f134
def Eg (x0:Ab) (x1:Ab) (x2:(List AF)):Option (Int) :=
 (BW x2 x0 x1).bind fun v1 =>
 some v1.2
noncomputable def J4:Cs (Ab×Ab×(List AF)×Unit):=(csC AG (csC AG (csC (cdP (cdL 1 DW)) csN)))
noncomputable def KB (r:Int):AV:=cdI.enc r
theorem Qf (x0:Ab) (x1:Ab) (x2:(List AF)) (r:Int) (h:Eg x0 x1 x2=some r):Sem E0 ⟨none,false⟩ NQ ⟨Fr 16 (A6 0 (J4.enc (x0,x1,x2,()))),[]⟩ fun e s'=>(e = .normal\/e = .ret)/\∃ xs,EZ E0.P s'.fr s'.hp Tryz.f134.results.toList=some xs/\Ee xs=KB r:=by
 unfold Eg at h
 let p1:Nat×AV:=(2,.pe (.sl 1 (x2.map DW.enc)) 0)
 refine Ax (BY (s1:=⟨Fr 16 [(0,AG.enc x0),(1,AG.enc x1),p1],[]⟩) AJ ?_)
 let p2:Option Blk:=some ⟨10,115,[AG.enc x1],false⟩
 let p3:Option Blk:=some ⟨10,115,[AG.enc x0],false⟩
 refine AK AC [p1,(3,.pt 0 0 0),(4,.pt 1 0 0)] [p3,p2] ?_;refine AH ?_;obtain ⟨v1,hv1,h⟩:=OB h;refine AM (s1:=⟨Fr 16 [(7,.j v1.2)],[]⟩) ?_ ?_
 ·refine AD (n:=16) AC 3 [(9,.sl 1 (x2.map DW.enc)),(10,AG.enc x0),(11,AG.enc x1)] [p3,p2] kr ?_
  refine AS (caps:=[]) (xs:=[.sl 1 (x2.map DW.enc),AG.enc x0,AG.enc x1]) (u:=(x2,x0,x1,())) rfl rfl Is rfl (AB rfl) kr kr (AL (AW (c:=(cdL 1 DW)) (v:=x2)) (AL (AW (c:=AG) (v:=x0)) (AL (AW (c:=AG) (v:=x1)) Ao))) (.inl kr) hv1 ?_;refine AD (n:=16) AC 5 [(7,.j v1.2)] [p3,p2] kr ?_;exact AI rfl (Ar [] trivial ⟨lv,trivial⟩)
 refine AK AC [(5,.j v1.2)] [] ?_;refine AR ?_;have hq:=OI h; subst hq;exact ⟨⟨Fr 16 [(5,.j v1.2)],[]⟩,AJ,.inr rfl,[.j v1.2],kr,kr⟩
noncomputable def Sb:List AV->Option AV:=ES J4 (fun a=>Eg a.1 a.2.1 a.2.2.1) KB
theorem OY:XOk 134 Sb:=by
 refine AU Tryz.func134 (c:=NQ) ?h2 ⟨Tryz.call134⟩ J4 (fun a=>Eg a.1 a.2.1 a.2.2.1) KB (fun a=>(by show 3<=16; decide)) ?h3 ?h4
 case h2=>kernel_rfl
 case h3=>intro b; kernel_rfl
 case h4=>exact fun a b h=>Qf a.1 a.2.1 a.2.2.1 b h
/- slices.insertionSortCmpFunc[trestle/court.seated] -/
noncomputable def Bt:Code:=BL Tryz.f192
def BI (x1:Int) (x3:(List AF)):Nat->Int->(List Ab)->Option (((List Ab)))
 | 0,_,_=>none
 | f + 1,c4,c5 =>
  (if (decide (c4 > x1))=true then (idx c5 c4).bind fun v6 =>
  (idx c5 (wr .i64 (c4 - 1))).bind fun v7 =>
  (Eg v6 v7 x3).bind fun v8 =>
  some (decide (v8 < 0)) else some false).bind fun j9 =>
  if j9=true then
  (idx c5 (wr .i64 (c4 - 1))).bind fun v19 =>
  (idx c5 c4).bind fun v20 =>
  (idx c5 c4).bind fun v21 =>
  (idx (c5.set c4.toNat v19) (wr .i64 (c4 - 1))).bind fun v25 =>
  BI x1 x3 f (wr .i64 (c4 - 1)) ((c5.set c4.toNat v19).set ((wr .i64 (c4 - 1)).toNat) v20)
  else
  some c5
def Ae (x1:Int) (x2:Int) (x3:(List AF)):Nat->Int->(List Ab)->Option (((List Ab)))
 | 0,_,_=>none
 | f + 1,c1,c2 =>
  if (decide (c1 < x2))=true then
  (BI x1 x3 100000 c1 c2).bind fun r31 =>
  Ae x1 x2 x3 f (wr .i64 (c1 + 1)) r31
  else
  some c2
def A7 (x0:(List Ab)) (x1:Int) (x2:Int) (x3:(List AF)):Option ((List Ab)×(List AF)) :=
 (Ae x1 x2 x3 100000 (wr .i64 (x1 + 1)) x0).bind fun r35 =>
 some (r35,x3)
theorem HC {L:List Asn}(x1:Int) (x3:(List AF)) (u0:AV) (x2:Int) (u1:AV) (c1:Int):∀ (f:Nat) (c4:Int) (c5:(List Ab)) (r:((List Ab))),BI x1 x3 f c4 c5=some r->∀ (hp:Hp),T hp ((own_ (ocL 10 115 (ocV AG)) u0 c5)::(cel u1 1 110 (.sl 1 (x3.map DW.enc)))::L)->SemYN E0 ⟨none,false⟩ (pc Bt [1,0,0,1,0,0,1,0,0]) f ⟨Fr 53 [(0,u0),(1,.j x1),(2,.j x2),(3,.fn 134 [] [u1]),(8,.j c1),(9,.j c4)],hp⟩ (fun e s=>e=(.exit 2)/\∃ s2,(∃ (h':Hp),T h' ((own_ (ocL 10 115 (ocV AG)) u0 r)::(cel u1 1 110 (.sl 1 (x3.map DW.enc)))::L)/\s2=⟨Fr 53 [(0,u0),(1,.j x1),(2,.j x2),(3,.fn 134 [] [u1]),(8,.j c1)],h'⟩)/\WkY E0 s s2):=by
 intro f;induction f with
 | zero=>intro c4 c5 r h; cases h
 | succ f ih0 =>
  intro c4 c5 r h  hp hT;unfold BI at h;refine D2 ?_;refine AX ?_;refine AX ?_;obtain ⟨j9,hj9,h⟩:=OB h;refine RJ 17 (A:=fun s1=>∃ (h':Hp),T h' ((own_ (ocL 10 115 (ocV AG)) u0 c5)::(cel u1 1 110 (.sl 1 (x3.map DW.enc)))::L)/\s1=⟨Fr 53 [(0,u0),(1,.j x1),(2,.j x2),(3,.fn 134 [] [u1]),(8,.j c1),(9,.j c4),(34,.b j9)],h'⟩) AC.mixed kr kr ?_ ?_
  ·refine RunDT.q (x:= .j c4) rfl kr rfl (AB rfl) rfl kr kr ?_
   refine RunDT.q (x:= .j x1) rfl kr rfl (AB rfl) rfl kr kr ?_;refine RunDT.q (x:= .b (decide (c4 > x1))) rfl kr rfl (AB rfl) rfl kr kr ?_;refine RunDT.q (x:= .b (decide (c4 > x1))) rfl kr rfl (AB rfl) rfl kr kr ?_;rcases BE (decide (c4 > x1)) with hc30 | hc30
   ·rw [if_pos hc30] at hj9
    rw [hc30];refine RunDT.q (x:= .fn 134 [] [u1]) rfl kr rfl kr rfl kr kr ?_;refine RunDT.q (x:=u0) rfl kr rfl kr rfl kr kr ?_;refine RunDT.q (x:= .j c4) rfl kr rfl kr rfl kr kr ?_;obtain ⟨v6,hv6,hj9⟩:=OB hj9;refine RunDT.q (x:=eAt u0 c4.toNat) rfl kr rfl kr rfl (AP (a:=u0) (b:= .j c4) kr kr (W8 (bytes:=120) hT kr hv6)) kr ?_;refine RunDT.q (x:=(AG.enc v6)) rfl kr rfl kr rfl (HU (p:=eAt u0 c4.toNat) kr (MN (y:=(AG.enc v6)) (m:=10) (g:=true) hT (H6 hv6).2 kr kr kr)) (NY hT (H6 hv6).2 kr) ?_;refine RunDT.q (x:=u0) rfl kr rfl kr rfl kr kr ?_;refine RunDT.q (x:= .j c4) rfl kr rfl kr rfl kr kr ?_;refine RunDT.q (x:= .j (wr .i64 (c4 - 1))) rfl kr rfl kr rfl kr kr ?_;obtain ⟨v7,hv7,hj9⟩:=OB hj9;refine RunDT.q (x:=eAt u0 ((wr .i64 (c4 - 1)).toNat)) rfl kr rfl kr rfl (AP (a:=u0) (b:= .j (wr .i64 (c4 - 1))) kr kr (W8 (bytes:=120) hT kr hv7)) kr ?_;refine RunDT.q (x:=(AG.enc v7)) rfl kr rfl kr rfl (HU (p:=eAt u0 ((wr .i64 (c4 - 1)).toNat)) kr (MN (y:=(AG.enc v7)) (m:=10) (g:=true) hT (H6 hv7).2 kr kr kr)) (NY hT (H6 hv7).2 kr) ?_;obtain ⟨v8,hv8,hj9⟩:=OB hj9;refine Ls (v:=v8) (caps:=[u1]) (xs:=[AG.enc v6,AG.enc v7]) (u:=(v6,v7,x3,())) rfl rfl OY rfl kr kr kr (Br (Dy (c:=AG) (v:=v6)) (Br (Dy (c:=AG) (v:=v7)) (Br (SeeD.cel (c:=(cdL 1 DW)) (v:=x3) hT (i:=1) rfl) SeesD.nil))) kr hv8 ?_;refine RunDT.q (x:= .b (decide (v8 < 0))) rfl kr rfl kr rfl kr kr ?_;refine RunDT.q (x:= .b (decide (v8 < 0))) rfl kr rfl (AB rfl) rfl kr kr ?_;have hq:=OI hj9; subst hq;exact RunDT.done rfl ⟨_,⟨hp,hT,rfl⟩,WkY.f1⟩
   ·rw [Bm hc30] at hj9
    rw [hc30];refine RunDT.skip rfl kr rfl ?_;refine RunDT.skip rfl kr rfl ?_;refine RunDT.skip rfl kr rfl ?_;refine RunDT.skip rfl kr rfl ?_;refine RunDT.skip rfl kr rfl ?_;refine RunDT.skip rfl kr rfl ?_;refine RunDT.skip rfl kr rfl ?_;refine RunDT.skip rfl kr rfl ?_;refine RunDT.skip rfl kr rfl ?_;refine RunDT.skip rfl kr rfl ?_;refine RunDT.skip rfl kr rfl ?_;refine RunDT.skip rfl kr rfl ?_;refine RunDT.q (x:= .b false) rfl kr rfl (AB rfl) rfl kr kr ?_;have hq:=OI hj9; subst hq;exact RunDT.done rfl ⟨_,⟨hp,hT,rfl⟩,WkY.f1⟩
  rintro _ ⟨hp16,hT17,rfl⟩;refine Bo (b:=j9) kr (fun hb18=>?_) (fun hb18=>?_)
  ·rw [if_pos hb18] at h
   refine SemY.skip ?_;refine AX ?_;refine BZ ?_;refine Ln 15 AC.mixed kr kr ?_;refine RunDT.q (x:=u0) rfl kr rfl (AB rfl) rfl kr kr ?_;refine RunDT.q (x:= .j c4) rfl kr rfl (AB rfl) rfl kr kr ?_;refine RunDT.q (x:=u0) rfl kr rfl (AB rfl) rfl kr kr ?_;refine RunDT.q (x:= .j c4) rfl kr rfl (AB rfl) rfl kr kr ?_;refine RunDT.q (x:= .j (wr .i64 (c4 - 1))) rfl kr rfl (AB rfl) rfl kr kr ?_;refine RunDT.q (x:=u0) rfl kr rfl (AB rfl) rfl kr kr ?_;refine RunDT.q (x:= .j c4) rfl kr rfl (AB rfl) rfl kr kr ?_;refine RunDT.q (x:= .j (wr .i64 (c4 - 1))) rfl kr rfl (AB rfl) rfl kr kr ?_;obtain ⟨v19,hv19,h⟩:=OB h;refine RunDT.q (x:=eAt u0 ((wr .i64 (c4 - 1)).toNat)) rfl kr rfl (AB rfl) rfl (AP (a:=u0) (b:= .j (wr .i64 (c4 - 1))) kr kr (W8 (bytes:=120) hT17 kr hv19)) kr ?_;refine RunDT.q (x:=(AG.enc v19)) rfl kr rfl (AB rfl) rfl (HU (p:=eAt u0 ((wr .i64 (c4 - 1)).toNat)) kr (MN (y:=(AG.enc v19)) (m:=10) (g:=true) hT17 (H6 hv19).2 kr kr kr)) (NY hT17 (H6 hv19).2 kr) ?_;refine RunDT.q (x:=u0) rfl kr rfl (AB rfl) rfl kr kr ?_;refine RunDT.q (x:= .j c4) rfl kr rfl (AB rfl) rfl kr kr ?_;obtain ⟨v20,hv20,h⟩:=OB h;refine RunDT.q (x:=eAt u0 c4.toNat) rfl kr rfl (AB rfl) rfl (AP (a:=u0) (b:= .j c4) kr kr (W8 (bytes:=120) hT17 kr hv20)) kr ?_;refine RunDT.q (x:=(AG.enc v20)) rfl kr rfl (AB rfl) rfl (HU (p:=eAt u0 c4.toNat) kr (MN (y:=(AG.enc v20)) (m:=10) (g:=true) hT17 (H6 hv20).2 kr kr kr)) (NY hT17 (H6 hv20).2 kr) ?_;obtain ⟨v21,hv21,h⟩:=OB h;refine RunDT.q (x:=eAt u0 c4.toNat) rfl kr rfl (AB rfl) rfl (AP (a:=u0) (b:= .j c4) kr kr (W8 (bytes:=120) hT17 kr hv21)) kr ?_;refine RunDT.tail rfl ?_;obtain ⟨hp22,hs23,hT24⟩:=Vv (P:=Tryz.prog) (ty:=115) (y:=(AG.enc v19)) (v':=v19) hT17 (H6 hv21).2 kr kr kr;refine RunL.store AC (y:=eAt u0 c4.toNat) (z:=(AG.enc v19)) rfl (AB rfl) kr kr hs23 ?_;obtain ⟨v25,hv25,h⟩:=OB h;refine Ac AC 0 rfl (DR (AB rfl) rfl (AP (a:=u0) (b:= .j (wr .i64 (c4 - 1))) kr kr (W8 (bytes:=120) hT24 kr hv25))) ?_
   obtain ⟨hp26,hs27,hT28⟩:=Vv (P:=Tryz.prog) (ty:=115) (y:=(AG.enc v20)) (v':=v20) hT24 (H6 hv25).2 kr kr kr;refine RunL.store AC (y:=eAt u0 ((wr .i64 (c4 - 1)).toNat)) (z:=(AG.enc v20)) rfl (AB rfl) kr kr hs27 ?_;refine BU rfl (SemY.fr (l':=[(0,u0),(1,.j x1),(2,.j x2),(3,.fn 134 [] [u1]),(8,.j c1),(9,.j c4)]) kr ?_);refine AQ ?_;refine Aj AC 3 ?_;refine BU rfl ?_;exact CJ WkY.f1 (ih0 (wr .i64 (c4 - 1)) ((c5.set c4.toNat v19).set ((wr .i64 (c4 - 1)).toNat) v20) _ h  hp26 hT28)
  ·rw [Bm hb18] at h
   refine SemY.exit ?_;have hq:=OI h; subst hq;exact ⟨rfl,_,⟨hp16,hT17,rfl⟩,WkY.f1⟩
theorem HB {L:List Asn}(x1:Int) (x2:Int) (x3:(List AF)) (u0:AV) (u1:AV):∀ (f:Nat) (c1:Int) (c2:(List Ab)) (r:((List Ab))),Ae x1 x2 x3 f c1 c2=some r->∀ (hp:Hp),T hp ((own_ (ocL 10 115 (ocV AG)) u0 c2)::(cel u1 1 110 (.sl 1 (x3.map DW.enc)))::L)->SemYN E0 ⟨none,false⟩ (pc Bt [1,0,0]) f ⟨Fr 53 [(0,u0),(1,.j x1),(2,.j x2),(3,.fn 134 [] [u1]),(8,.j c1)],hp⟩ (fun e s=>e=(.exit 0)/\∃ s2,(∃ (h':Hp),T h' ((own_ (ocL 10 115 (ocV AG)) u0 r)::(cel u1 1 110 (.sl 1 (x3.map DW.enc)))::L)/\s2=⟨Fr 53 [],h'⟩)/\WkY E0 s s2):=by
 intro f;induction f with
 | zero=>intro c1 c2 r h; cases h
 | succ f ih0 =>
  intro c1 c2 r h  hp hT;unfold Ae at h;refine D2 ?_;refine AX ?_;refine Bf AC [(0,u0),(1,.j x1),(2,.j x2),(3,.fn 134 [] [u1]),(8,.j c1),(14,.b (decide (c1 < x2)))] ?_;refine Bo (b:=(decide (c1 < x2))) kr (fun hb3=>?_) (fun hb3=>?_)
  ·rw [if_pos hb3] at h
   refine SemY.skip ?_;refine AX ?_;refine BZ ?_;refine Bf AC [(0,u0),(1,.j x1),(2,.j x2),(3,.fn 134 [] [u1]),(8,.j c1),(9,.j c1)] ?_;refine BZ ?_;refine SemY.loop (n:=100000) ?_;obtain ⟨r31,hr31,h⟩:=OB h;refine DT (CJ WkY.f1 (HC x1 x3 u0 x2 u1 c1 _ c1 c2 _ hr31  hp hT)) ?_;rintro _ ⟨hp32,hT33,rfl⟩;refine AQ ?_;refine Aj AC 3 ?_;refine BU rfl ?_;exact CJ WkY.f1 (ih0 (wr .i64 (c1 + 1)) r31 _ h  hp32 hT33)
  ·rw [Bm hb3] at h
   refine SemY.exit ?_;have hq:=OI h; subst hq;exact ⟨rfl,_,⟨hp,hT,rfl⟩,WkY.f1⟩
theorem EY {L:List Asn}{hp:Hp}(u0:AV) (x0:(List Ab)) (x1:Int) (x2:Int) (u1:AV) (x3:(List AF)) (r:(List Ab)×(List AF)) (h:A7 x0 x1 x2 x3=some r) (hT:T hp ((own_ (ocL 10 115 (ocV AG)) u0 x0)::(cel u1 1 110 (.sl 1 (x3.map DW.enc)))::L)):SemY E0 ⟨none,false⟩ Bt ⟨Fr 53 (A6 0 [u0,.j x1,.j x2,.fn 134 [] [u1]]),hp⟩ fun x s'=>(x = .normal\/x = .ret)/\∃ ys,EZ E0.P s'.fr s'.hp Tryz.f192.results.toList=some ys/\(fun v h'=>v = .tp []/\T h' ((own_ (ocL 10 115 (ocV AG)) u0 r.1)::(cel u1 1 110 (.sl 1 (r.2.map DW.enc)))::L)) (Ee ys) s'.hp:=by
 unfold A7 at h;refine KO (Lt (s1:=⟨Fr 53 [(0,u0),(1,.j x1),(2,.j x2),(3,.fn 134 [] [u1])],hp⟩) WkY.f1 ?_);refine Bf AC [(0,u0),(1,.j x1),(2,.j x2),(3,.fn 134 [] [u1]),(8,.j (wr .i64 (x1 + 1)))] ?_;refine BZ ?_;refine SemY.loop (n:=100000) ?_;obtain ⟨r35,hr35,h⟩:=OB h;refine DT (CJ WkY.f1 (HB x1 x2 x3 u0 u1 _ (wr .i64 (x1 + 1)) x0 _ hr35  hp hT)) ?_;rintro _ ⟨hp36,hT37,rfl⟩;have hq:=OI h; subst hq;exact ⟨⟨Fr 53 [],hp36⟩,WkY.f1,.inl rfl,[],kr,⟨rfl,hT37⟩⟩
/- slices.stableCmpFunc[trestle/court.seated] -/
noncomputable def DU:Code:=BL Tryz.f166
def A9 (x1:Int):Nat->Int->Int->(List Ab)->(List AF)->Option ((Int×(List Ab)×(List AF)))
 | 0,_,_,_,_=>none
 | f + 1,c1,c2,c3,c4 =>
  if (decide (c2<=x1))=true then
  (A7 c3 c1 c2 c4).bind fun v6 =>
  A9 x1 f c2 (wr .i64 (c2 + 20)) v6.1 v6.2
  else
  some (c1,c3,c4)
def Ca (x1:Int):Nat->Option ((Unit))
 | 0=>none
 | f + 1 =>
  if (decide ((20:Int) < x1))=true then
  none
  else
  some ()
def C5 (x0:(List Ab)) (x1:Int) (x2:(List AF)):Option ((List Ab)×(List AF)) :=
 (A9 x1 100000 0 20 x0 x2).bind fun r12 =>
 (A7 r12.2.1 r12.1 x1 r12.2.2).bind fun v15 =>
 (Ca x1 100000 ).bind fun r19 =>
 some (v15.1,v15.2)
theorem IA {L:List Asn}(x1:Int) (u0:AV) (u1:AV):∀ (f:Nat) (c1:Int) (c2:Int) (c3:(List Ab)) (c4:(List AF)) (r:(Int×(List Ab)×(List AF))),A9 x1 f c1 c2 c3 c4=some r->∀ (hp:Hp),T hp ((own_ (ocL 10 115 (ocV AG)) u0 c3)::(cel u1 1 110 (.sl 1 (c4.map DW.enc)))::L)->SemYN E0 ⟨none,false⟩ (pc DU [1,1,0,0,0]) f ⟨Fr 63 [(0,u0),(1,.j x1),(2,.fn 134 [] [u1]),(6,.j 20),(7,.j c1),(8,.j c2)],hp⟩ (fun e s=>e=(.exit 0)/\∃ s2,(∃ (h':Hp),T h' ((own_ (ocL 10 115 (ocV AG)) u0 r.2.1)::(cel u1 1 110 (.sl 1 (r.2.2.map DW.enc)))::L)/\s2=⟨Fr 63 [(0,u0),(1,.j x1),(2,.fn 134 [] [u1]),(6,.j 20),(7,.j r.1)],h'⟩)/\WkY E0 s s2):=by
 intro f;induction f with
 | zero=>intro c1 c2 c3 c4 r h; cases h
 | succ f ih0 =>
  intro c1 c2 c3 c4 r h  hp hT;unfold A9 at h;refine D2 ?_;refine AX ?_
  let p1:Nat×AV:=(8,.j c2)
  let p2:Nat×AV:=(6,.j 20)
  let p3:Nat×AV:=(2,.fn 134 [] [u1])
  let p4:Nat×AV:=(1,.j x1)
  refine Bf AC [(0,u0),p4,p3,p2,(7,.j c1),p1,(13,.b (decide (c2<=x1)))] ?_;refine Bo (b:=(decide (c2<=x1))) kr (fun hb5=>?_) (fun hb5=>?_)
  ·rw [if_pos hb5] at h
   refine SemY.skip ?_;refine BZ ?_;refine AX ?_;refine AQ ?_;refine Aj AC 4 ?_;obtain ⟨v6,hv6,h⟩:=OB h;refine NP (E:=E0) (e:=E0) rfl rfl AC rfl rfl (fid:=192) (caps:=[]) (xs:=[u0,.j c1,.j c2,.fn 134 [] [u1]]) (fn:=Tryz.f192) (c:=Bt) (Out:=fun v h'=>v = .tp []/\T h' ((own_ (ocL 10 115 (ocV AG)) u0 v6.1)::(cel u1 1 110 (.sl 1 (v6.2.map DW.enc)))::L)) rfl (AB rfl) kr kr kr kr (by show 4<=53; decide) (EY u0 c3 c1 c2 u1 c4 _ hv6 hT) ?_;rintro xx hp7 ⟨hqhp7,hT8⟩; subst xx;refine BU rfl (SemY.fr (l':=[(0,u0),p4,p3,p2,p1]) kr ?_);refine Bf AC [(0,u0),p4,p3,p2,(7,.j c2),p1] ?_;refine AQ ?_;refine Aj AC 4 ?_;refine BU rfl ?_;exact CJ WkY.f1 (ih0 c2 (wr .i64 (c2 + 20)) v6.1 v6.2 _ h  hp7 hT8)
  ·rw [Bm hb5] at h
   refine SemY.exit ?_;have hq:=OI h; subst hq;exact ⟨rfl,_,⟨hp,hT,rfl⟩,WkY.f1⟩
theorem IB {L:List Asn}(x1:Int) (u0:AV) (u1:AV) (v15:(List Ab)×(List AF)):∀ (f:Nat)  (r:(Unit)),Ca x1 f  = some r->∀ (hp:Hp),T hp ((own_ (ocL 10 115 (ocV AG)) u0 v15.1)::(cel u1 1 110 (.sl 1 (v15.2.map DW.enc)))::L)->SemYN E0 ⟨none,false⟩ (pc DU [1,1,1,1,0,0]) f ⟨Fr 63 [(1,.j x1),(6,.j 20)],hp⟩ (fun e s=>e=(.exit 2)/\∃ s2,(∃ (h':Hp),T h' ((own_ (ocL 10 115 (ocV AG)) u0 v15.1)::(cel u1 1 110 (.sl 1 (v15.2.map DW.enc)))::L)/\s2=⟨Fr 63 [],h'⟩)/\WkY E0 s s2):=by
 intro f;induction f with
 | zero=>intro  r h; cases h
 | succ f ih0 =>
  intro  r h  hp hT;unfold Ca at h;refine D2 ?_;refine AX ?_;refine Bf AC [(30,.b (decide ((20:Int) < x1)))] ?_;refine Bo (b:=(decide ((20:Int) < x1))) kr (fun hb18=>?_) (fun hb18=>?_)
  ·rw [if_pos hb18] at h
   refine SemY.skip ?_;refine BZ ?_;cases h
  ·rw [Bm hb18] at h
   refine SemY.exit ?_;have hq:=OI h; subst hq;exact ⟨rfl,_,⟨hp,hT,rfl⟩,WkY.f1⟩
theorem Ii {L:List Asn}{hp:Hp}(u0:AV) (x0:(List Ab)) (x1:Int) (u1:AV) (x2:(List AF)) (r:(List Ab)×(List AF)) (h:C5 x0 x1 x2=some r) (hT:T hp ((own_ (ocL 10 115 (ocV AG)) u0 x0)::(cel u1 1 110 (.sl 1 (x2.map DW.enc)))::L)):SemY E0 ⟨none,false⟩ DU ⟨Fr 63 (A6 0 [u0,.j x1,.fn 134 [] [u1]]),hp⟩ fun x s'=>(x = .normal\/x = .ret)/\∃ ys,EZ E0.P s'.fr s'.hp Tryz.f166.results.toList=some ys/\(fun v h'=>v = .tp []/\T h' ((own_ (ocL 10 115 (ocV AG)) u0 r.1)::(cel u1 1 110 (.sl 1 (r.2.map DW.enc)))::L)) (Ee ys) s'.hp:=by
 unfold C5 at h
 let p1:Nat×AV:=(2,.fn 134 [] [u1])
 let p2:Nat×AV:=(1,.j x1)
 refine KO (Lt (s1:=⟨Fr 63 [(0,u0),p2,p1],hp⟩) WkY.f1 ?_)
 let p3:Nat×AV:=(6,.j 20)
 refine Bf AC [(0,u0),p2,p1,p3] ?_;refine Bf AC [(0,u0),p2,p1,p3,(7,.j 0),(8,.j 20)] ?_;refine AX ?_;refine BZ ?_;refine SemY.loop (n:=100000) ?_;obtain ⟨r12,hr12,h⟩:=OB h;refine DT (CJ WkY.f1 (IA x1 u0 u1 _ 0 20 x0 x2 _ hr12  hp hT)) ?_;rintro _ ⟨hp13,hT14,rfl⟩;refine AX ?_;refine AQ ?_;refine Aj AC 4 ?_;obtain ⟨v15,hv15,h⟩:=OB h;refine NP (E:=E0) (e:=E0) rfl rfl AC rfl rfl (fid:=192) (caps:=[]) (xs:=[u0,.j r12.1,.j x1,.fn 134 [] [u1]]) (fn:=Tryz.f192) (c:=Bt) (Out:=fun v h'=>v = .tp []/\T h' ((own_ (ocL 10 115 (ocV AG)) u0 v15.1)::(cel u1 1 110 (.sl 1 (v15.2.map DW.enc)))::L)) rfl (AB rfl) kr kr kr kr (by show 4<=53; decide) (EY u0 r12.2.1 r12.1 x1 u1 r12.2.2 _ hv15 hT14) ?_;rintro xx hp16 ⟨hqhp16,hT17⟩; subst xx;refine BU rfl (SemY.fr (l':=[p2,p3]) kr ?_);refine BZ ?_;refine SemY.loop (n:=100000) ?_;obtain ⟨r19,hr19,h⟩:=OB h;refine DT (CJ WkY.f1 (IB x1 u0 u1 v15 _  _ hr19  hp16 hT17)) ?_;rintro _ ⟨hp20,hT21,rfl⟩;have hq:=OI h; subst hq;exact ⟨⟨Fr 63 [],hp20⟩,WkY.f1,.inl rfl,[],kr,⟨rfl,hT21⟩⟩
/- slices.SortStableFunc[[]trestle/court.seated,trestle/court.seated] -/
noncomputable def D3:Code:=BL Tryz.f136
def Bh (x0:(List Ab)) (x1:(List AF)):Option ((List Ab)×(List AF)) :=
 (C5 x0 (x0.length:Int) x1).bind fun v1 =>
 some (v1.1,v1.2)
theorem GE {L:List Asn}{hp:Hp}(u0:AV) (x0:(List Ab)) (u1:AV) (x1:(List AF)) (r:(List Ab)×(List AF)) (h:Bh x0 x1=some r) (hT:T hp ((own_ (ocL 10 115 (ocV AG)) u0 x0)::(cel u1 1 110 (.sl 1 (x1.map DW.enc)))::L)):SemY E0 ⟨none,false⟩ D3 ⟨Fr 9 (A6 0 [u0,.fn 134 [] [u1]]),hp⟩ fun x s'=>(x = .normal\/x = .ret)/\∃ ys,EZ E0.P s'.fr s'.hp Tryz.f136.results.toList=some ys/\(fun v h'=>v = .tp []/\T h' ((own_ (ocL 10 115 (ocV AG)) u0 r.1)::(cel u1 1 110 (.sl 1 (r.2.map DW.enc)))::L)) (Ee ys) s'.hp:=by
 unfold Bh at h;refine KO (Lt (s1:=⟨Fr 9 [(0,u0),(1,.fn 134 [] [u1])],hp⟩) WkY.f1 ?_);refine AQ ?_;refine Aj AC 2 ?_;refine Ac AC 0 rfl (DR (AB rfl) rfl (C3 (a:=u0) kr (We hT kr))) ?_;refine Aj AC 1 ?_;obtain ⟨v1,hv1,h⟩:=OB h;refine NP (E:=E0) (e:=E0) rfl rfl AC rfl rfl (fid:=166) (caps:=[]) (xs:=[u0,.j (x0.length:Int),.fn 134 [] [u1]]) (fn:=Tryz.f166) (c:=DU) (Out:=fun v h'=>v = .tp []/\T h' ((own_ (ocL 10 115 (ocV AG)) u0 v1.1)::(cel u1 1 110 (.sl 1 (v1.2.map DW.enc)))::L)) rfl (AB rfl) kr kr kr kr (by show 3<=63; decide) (Ii u0 x0 (x0.length:Int) u1 x1 _ hv1 hT) ?_;rintro xx hp2 ⟨hqhp2,hT3⟩; subst xx;refine BU rfl ?_;have hq:=OI h; subst hq;exact ⟨⟨Fr 9 [],hp2⟩,WkY.f1,.inl rfl,[],kr,⟨rfl,hT3⟩⟩
/- trestle/court.groups -/
noncomputable def JO:Code:=BL Tryz.f78
def IP (c15:(List (List Int))) (j29:Bool):Option (((List (List Int)))) :=
 if j29=true then
 if (EK 24 (c15.length + ([([]:(List Int))]:List (List Int)).length))=true then
 some (c15++([([]:(List Int))]:List (List Int)))
 else none
 else
 some c15
def EA (v9:(List Ab)×(List AF)):Nat->Int->(List (List Int))->Option (((List (List Int))))
 | 0,_,_=>none
 | f + 1,c13,c15 =>
  if (decide (c13 < (v9.1.length:Int)))=true then
  (idx v9.1 c13).bind fun v17 =>
  (if (c13==0)=true then some true else (idx v9.1 (wr .i64 (c13 - 1))).bind fun v25 =>
  (Eg v25 v17 v9.2).bind fun v28 =>
  some (v28 != 0)).bind fun j29 =>
  (IP c15 j29).bind fun r71 =>
  (idx r71 (wr .i64 ((r71.length:Int) - 1))).bind fun v76 =>
  if (EK 8 (v76.length + ([v17.2]:List Int).length))=true then
  (idx r71 (wr .i64 ((r71.length:Int) - 1))).bind fun v91 =>
  EA v9 f (wr .i64 (c13 + 1)) (r71.set ((wr .i64 ((r71.length:Int) - 1)).toNat) (v76++([v17.2]:List Int)))
  else none
  else
  some c15
def Gz (x0:(List AF)) (x1:(List Ab)):Option ((List (List Int))) :=
 if (EK 120 x1.length)=true then
 (Bh x1 x0).bind fun v9 =>
 (EA v9 100000 0 ([]:(List (List Int)))).bind fun r102 =>
 some r102
 else none
theorem Qg {L:List Asn}{hp:Hp}(c15:(List (List Int))) (j29:Bool) (e1:AV) (e6:AV) (v9:(List Ab)×(List AF)) (c13:Int) (e14:AV) (v17:Ab) (e18:AV) (r:((List (List Int)))) (h:IP c15 j29=some r) (hT:T hp ((own_ (ocL 10 115 (ocV AG)) e6 v9.1)::(cel e1 1 110 (.sl 1 (v9.2.map DW.enc)))::(own_ (ocL 1 48 (ocL 1 3 (ocV cdI))) e14 c15)::(cel e18 10 115 (AG.enc v17))::L)):SemY E0 ⟨none,false⟩ (pc JO [1,1,1,1,1,0,1,0,0,1,1,0,0,1,0,1]) ⟨Fr 55 [(1,e6),(5,.fn 134 [] [e1]),(6,e14),(8,e18),(16,e6),(17,.j (v9.1.length:Int)),(18,.j c13),(35,.b j29)],hp⟩ (fun e s=>e = .normal/\∃ s2,(∃ (e68:AV) (h':Hp),T h' ((own_ (ocL 10 115 (ocV AG)) e6 v9.1)::(cel e1 1 110 (.sl 1 (v9.2.map DW.enc)))::(own_ (ocL 1 48 (ocL 1 3 (ocV cdI))) e68 r)::(cel e18 10 115 (AG.enc v17))::L)/\s2=⟨Fr 55 [(1,e6),(5,.fn 134 [] [e1]),(6,e68),(8,e18),(16,e6),(17,.j (v9.1.length:Int)),(18,.j c13)],h'⟩)/\WkY E0 s s2):=by
 unfold IP at h;refine Bo (b:=j29) kr (fun hb55=>?_) (fun hb55=>?_)
 ·rw [if_pos hb55] at h
  refine AQ ?_;refine Aj AC 1 ?_
  have hT60:=(T.e0 (k:=1) (ty:=3) (o:=(ocV cdI)) hT)
  have hl61:SP Tryz.prog 48 .e0=some (eI ([]:(List Int)).length):=We hT60 kr
  obtain ⟨e59,hp56,hb57,hT58⟩:=Iq (P:=Tryz.prog) (bytes:=24) (k:=1) (t:=48) (ty:=46) (xs:=([([]:(List Int))]:List (List Int))) (n:=1) ACJ (AAf ((ACA (o:=(ocL 1 3 (ocV cdI))) hT60).front 1 rfl)) rfl kr kr kr;refine Ac AC 0 rfl (Vh (AB rfl) rfl kr (Rj (xs:=Nr 0 [.e0]) kr hb57)) ?_;by_cases hk66:(EK 24 (c15.length + ([([]:(List Int))]:List (List Int)).length))=true
  case neg=>rw [if_neg hk66] at h; cases h
  rw [if_pos hk66] at h
  have hT67:=((hT58.front 0 rfl).front 3 rfl)
  obtain ⟨e65,hp62,hb63,hT64⟩:=Ik (P:=Tryz.prog) (ty:=46) (ty2:=46) (bytes:=24) hT67 kr kr hk66;refine Ac AC 0 rfl (S4 (AB rfl) rfl kr kr (Dq (a:=e14) (b:=e59) kr kr hb63)) ?_;refine Aj AC 1 ?_;refine BU rfl ?_;have hq:=OI h; subst hq
  have hT70:=((((hT64.front 3 rfl).front 1 rfl).front 3 rfl).front 3 rfl)
  exact ⟨rfl,_,⟨e65,hp62,hT70,rfl⟩,WkY.f1⟩
 ·rw [Bm hb55] at h
  refine SemY.skip ?_;have hq:=OI h; subst hq;exact ⟨rfl,_,⟨e14,hp,hT,rfl⟩,WkY.f1⟩
theorem Qh {L:List Asn}(v9:(List Ab)×(List AF)) (e1:AV) (e6:AV):∀ (f:Nat) (c13:Int) (c15:(List (List Int))) (r:((List (List Int)))),EA v9 f c13 c15=some r->∀ (e14:AV) (hp:Hp),T hp ((own_ (ocL 10 115 (ocV AG)) e6 v9.1)::(cel e1 1 110 (.sl 1 (v9.2.map DW.enc)))::(own_ (ocL 1 48 (ocL 1 3 (ocV cdI))) e14 c15)::L)->SemYN E0 ⟨none,false⟩ (pc JO [1,1,1,1,1,0,1,0,0]) f ⟨Fr 55 [(1,e6),(5,.fn 134 [] [e1]),(6,e14),(16,e6),(17,.j (v9.1.length:Int)),(18,.j c13)],hp⟩ (fun e s=>e=(.exit 0)/\∃ s2,(∃ (e98:AV) (h':Hp),T h' ((own_ (ocL 1 48 (ocL 1 3 (ocV cdI))) e98 r)::L)/\s2=⟨Fr 55 [(6,e98)],h'⟩)/\WkY E0 s s2):=by
 intro f;induction f with
 | zero=>intro c13 c15 r h; cases h
 | succ f ih0 =>
  intro c13 c15 r h e14 hp hT;unfold EA at h;refine D2 ?_;refine Bf AC [(1,e6),(5,.fn 134 [] [e1]),(6,e14),(16,e6),(17,.j (v9.1.length:Int)),(18,.j c13),(19,.b (decide (c13 < (v9.1.length:Int))))] ?_;refine AX ?_;refine Bo (b:=(decide (c13 < (v9.1.length:Int)))) kr (fun hb16=>?_) (fun hb16=>?_)
  ·rw [if_pos hb16] at h
   refine SemY.skip ?_;refine AX ?_;refine BZ ?_;refine AX ?_;refine AQ ?_;refine Aj AC 1 ?_;obtain ⟨v17,hv17,h⟩:=OB h;refine Ac AC 0 rfl (DR (AB rfl) rfl (AP (a:=e6) (b:= .j c13) kr kr (W8 (bytes:=120) hT kr hv17))) ?_;refine Ac AC 0 rfl (DR (AB rfl) rfl (HU (p:=eAt e6 c13.toNat) kr (MN (y:=(AG.enc v17)) (m:=10) (g:=true) hT (H6 hv17).2 kr kr kr))) ?_;obtain ⟨e18,hp19,hb20,hT21⟩:=P6 (t:=115) (a:= .ag [.st [],.st [],.st [],.j 0,.j 0,.st [],.b false,.b false,.e0,.j 0]) hT kr;refine Ac AC 0 rfl (Vh (AB rfl) rfl kr (Ta (z:= .ag [.st [],.st [],.st [],.j 0,.j 0,.st [],.b false,.b false,.e0,.j 0]) kr hb20)) ?_;refine Aj AC 1 ?_;obtain ⟨hp22,hs23,hT24⟩:=Tj (P:=Tryz.prog) (ty:=115) (y:=(AG.enc v17)) (a':=(AG.enc v17)) hT21 kr kr kr;refine RunL.store AC (y:=e18) (z:=(AG.enc v17)) rfl (AB rfl) kr kr hs23 ?_;refine BU rfl (SemY.fr (l':=[(1,e6),(5,.fn 134 [] [e1]),(6,e14),(7,.j c13),(8,e18),(16,e6),(17,.j (v9.1.length:Int)),(18,.j c13)]) kr ?_);refine AX ?_;refine AX ?_;obtain ⟨j29,hj29,h⟩:=OB h;refine RJ 13 (A:=fun s1=>∃ (h':Hp),T h' ((own_ (ocL 10 115 (ocV AG)) e6 v9.1)::(cel e1 1 110 (.sl 1 (v9.2.map DW.enc)))::(own_ (ocL 1 48 (ocL 1 3 (ocV cdI))) e14 c15)::(cel e18 10 115 (AG.enc v17))::L)/\s1=⟨Fr 55 [(1,e6),(5,.fn 134 [] [e1]),(6,e14),(8,e18),(16,e6),(17,.j (v9.1.length:Int)),(18,.j c13),(35,.b j29)],h'⟩) AC.mixed kr kr ?_ ?_
   ·refine RunDT.q (x:= .j c13) rfl kr rfl (AB rfl) rfl kr kr ?_
    refine RunDT.q (x:= .b (c13==0)) rfl kr rfl (AB rfl) rfl kr kr ?_;refine RunDT.q (x:= .b (c13==0)) rfl kr rfl (AB rfl) rfl kr kr ?_;rcases BE (c13==0) with hc97 | hc97
    ·rw [if_pos hc97] at hj29
     rw [hc97];refine RunDT.skip rfl kr rfl ?_;refine RunDT.skip rfl kr rfl ?_;refine RunDT.skip rfl kr rfl ?_;refine RunDT.skip rfl kr rfl ?_;refine RunDT.skip rfl kr rfl ?_;refine RunDT.skip rfl kr rfl ?_;refine RunDT.skip rfl kr rfl ?_;refine RunDT.skip rfl kr rfl ?_;refine RunDT.skip rfl kr rfl ?_;refine RunDT.q (x:= .b true) rfl kr rfl (AB rfl) rfl kr kr ?_;have hq:=OI hj29; subst hq
     have hT51:=(((hT24.front 3 rfl).front 3 rfl).front 3 rfl)
     exact RunDT.done rfl ⟨_,⟨hp22,hT51,rfl⟩,WkY.f1⟩
    ·rw [Bm hc97] at hj29
     rw [hc97];refine RunDT.q (x:= .fn 134 [] [e1]) rfl kr rfl kr rfl kr kr ?_;refine RunDT.q (x:=e6) rfl kr rfl kr rfl kr kr ?_;refine RunDT.q (x:= .j c13) rfl kr rfl kr rfl kr kr ?_;refine RunDT.q (x:= .j (wr .i64 (c13 - 1))) rfl kr rfl kr rfl kr kr ?_;obtain ⟨v25,hv25,hj29⟩:=OB hj29
     have hT26:=(hT24.front 1 rfl)
     refine RunDT.q (x:=eAt e6 ((wr .i64 (c13 - 1)).toNat)) rfl kr rfl kr rfl (AP (a:=e6) (b:= .j (wr .i64 (c13 - 1))) kr kr (W8 (bytes:=120) hT26 kr hv25)) kr ?_;refine RunDT.q (x:=(AG.enc v25)) rfl kr rfl kr rfl (HU (p:=eAt e6 ((wr .i64 (c13 - 1)).toNat)) kr (MN (y:=(AG.enc v25)) (m:=10) (g:=true) hT26 (H6 hv25).2 kr kr kr)) (NY (hT24.front 1 rfl) (H6 hv25).2 kr) ?_
     have hT27:=(hT26.front 1 rfl)
     refine RunDT.q (x:=(AG.enc v17)) rfl kr rfl kr rfl (HU (p:=e18) kr (Jo (y:=(AG.enc v17)) (m:=10) (g:=true) hT27 kr kr kr)) (PA hT24 kr) ?_;obtain ⟨v28,hv28,hj29⟩:=OB hj29;refine Ls (v:=v28) (caps:=[e1]) (xs:=[AG.enc v25,AG.enc v17]) (u:=(v25,v17,v9.2,())) rfl rfl OY rfl kr kr kr (Br (Dy (c:=AG) (v:=v25)) (Br (Dy (c:=AG) (v:=v17)) (Br (SeeD.cel (c:=(cdL 1 DW)) (v:=v9.2) hT27 (i:=2) rfl) SeesD.nil))) kr hv28 ?_;refine RunDT.q (x:= .b (v28 != 0)) rfl kr rfl kr rfl kr kr ?_;refine RunDT.q (x:= .b (v28 != 0)) rfl kr rfl (AB rfl) rfl kr kr ?_;have hq:=OI hj29; subst hq
     have hT52:=(((hT27.front 3 rfl).front 3 rfl).front 3 rfl)
     exact RunDT.done rfl ⟨_,⟨hp22,hT52,rfl⟩,WkY.f1⟩
   rintro _ ⟨hp53,hT54,rfl⟩;obtain ⟨r71,hr71,h⟩:=OB h;refine I0 (Qg c15 j29 e1 e6 v9 c13 e14 v17 e18 _ hr71 hT54) ?_;rintro _ ⟨e72,hp73,hT74,rfl⟩;refine AX ?_;refine AQ ?_;refine Aj AC 1 ?_
   have hT75:=(hT74.front 2 rfl)
   refine Ac AC 0 rfl (DR (AB rfl) rfl (C3 (a:=e72) kr (We hT75 kr))) ?_;refine B6 AC [(1,e6),(5,.fn 134 [] [e1]),(6,e72),(8,e18),(9,.j (wr .i64 ((r71.length:Int) - 1))),(16,e6),(17,.j (v9.1.length:Int)),(18,.j c13)] ?_;refine Ln 9 AC.mixed kr kr ?_;refine RunDT.q (x:=e72) rfl kr rfl (AB rfl) rfl kr kr ?_;refine RunDT.q (x:= .j (wr .i64 ((r71.length:Int) - 1))) rfl kr rfl (AB rfl) rfl kr kr ?_;refine RunDT.q (x:=e72) rfl kr rfl (AB rfl) rfl kr kr ?_;refine RunDT.q (x:= .j (wr .i64 ((r71.length:Int) - 1))) rfl kr rfl (AB rfl) rfl kr kr ?_;obtain ⟨v76,hv76,h⟩:=OB h;refine RunDT.q (x:=eAt e72 ((wr .i64 ((r71.length:Int) - 1)).toNat)) rfl kr rfl (AB rfl) rfl (AP (a:=e72) (b:= .j (wr .i64 ((r71.length:Int) - 1))) kr kr (W8 (bytes:=24) hT75 kr hv76)) kr ?_;obtain ⟨e77,hl78,hT79⟩:=AAt (P:=Tryz.prog) (ty:=48) hT75 (H6 hv76).2 kr kr;refine RunDT.q (x:=e77) rfl kr rfl (AB rfl) rfl (HU (p:=eAt e72 ((wr .i64 ((r71.length:Int) - 1)).toNat)) kr hl78) (NY hT75 (H6 hv76).2 kr) ?_
   have hT80:=(hT79.front 4 rfl)
   refine RunDT.q (x:=Vk e18 9) rfl kr rfl (AB rfl) rfl (AEH (a:=e18) kr (ABY (off:=9) hT80 kr)) kr ?_;refine RunDT.q (x:= .j v17.2) rfl kr rfl (AB rfl) rfl (HU (p:=Vk e18 9) kr (Zg (off:=9) (y:= .j v17.2) (m:=1) (g:=false) hT80 kr kr kr)) (AAr (off:=9) (hT75.front 3 rfl) kr) ?_;obtain ⟨e84,hp81,hb82,hT83⟩:=Iq (P:=Tryz.prog) (bytes:=8) (k:=1) (t:=3) (ty:=48) (xs:=([v17.2]:List Int)) (n:=1) (SS (k:=1) (fun _=>⟨rfl,rfl,rfl⟩)) (ID (c:=cdI) (xs:=([v17.2]:List Int)) hT80) rfl kr kr kr;refine RunDT.new rfl (AB rfl) rfl (Rj (xs:=Nr 0 [.j v17.2]) kr hb82) ?_;refine RunDT.tail rfl ?_;by_cases hk89:(EK 8 (v76.length + ([v17.2]:List Int).length))=true
   case neg=>rw [if_neg hk89] at h; cases h
   rw [if_pos hk89] at h
   have hT90:=((hT83.front 0 rfl).front 2 rfl)
   obtain ⟨e88,hp85,hb86,hT87⟩:=Ik (P:=Tryz.prog) (ty:=48) (ty2:=48) (bytes:=8) hT90 kr kr hk89;refine Ac AC 0 rfl (S4 (AB rfl) rfl kr kr (Dq (a:=e77) (b:=e84) kr kr hb86)) ?_;obtain ⟨v91,hv91,h⟩:=OB h
   have hT92:=(hT87.front 2 rfl)
   refine Ac AC 0 rfl (DR (AB rfl) rfl (AP (a:=e72) (b:= .j (wr .i64 ((r71.length:Int) - 1))) kr kr (AFO (bytes:=24) hT92 kr hv91))) ?_;obtain ⟨hp93,hs94,hT95⟩:=AC1 (P:=Tryz.prog) (ty:=48) ACJ hT92 kr;refine RunL.store AC (y:=eAt e72 ((wr .i64 ((r71.length:Int) - 1)).toNat)) (z:=e88) rfl (AB rfl) kr kr hs94 ?_;refine BU rfl (SemY.fr (l':=[(1,e6),(5,.fn 134 [] [e1]),(6,e72),(16,e6),(17,.j (v9.1.length:Int)),(18,.j c13)]) kr ?_);refine AQ ?_;refine Aj AC 2 ?_;refine BU rfl ?_
   have hT96:=(((hT95.front 1 rfl).drop.front 2 rfl).front 2 rfl)
   exact CJ WkY.f1 (ih0 (wr .i64 (c13 + 1)) (r71.set ((wr .i64 ((r71.length:Int) - 1)).toNat) (v76++([v17.2]:List Int))) _ h e72 hp93 hT96)
  ·rw [Bm hb16] at h
   refine SemY.exit ?_;have hq:=OI h; subst hq
   have hT100:=hT.drop.drop
   exact ⟨rfl,_,⟨e14,hp,hT100,rfl⟩,WkY.f1⟩
theorem SL {L:List Asn}{hp:Hp}(x0:(List AF)) (x1:(List Ab)) (r:(List (List Int))) (h:Gz x0 x1=some r) (hT:T hp (L)):SemY E0 ⟨none,false⟩ JO ⟨Fr 55 (A6 0 [.sl 1 (x0.map DW.enc),.sl 10 (x1.map AG.enc)]),hp⟩ fun x s'=>(x = .normal\/x = .ret)/\∃ ys,EZ E0.P s'.fr s'.hp Tryz.f78.results.toList=some ys/\(fun v h'=>v = .sl 1 (r.map (cdL 1 cdI).enc)/\T h' (L)) (Ee ys) s'.hp:=by
 unfold Gz at h
 let p1:Nat×AV:=(1,.sl 10 (x1.map AG.enc))
 refine KO (Lt (s1:=⟨Fr 55 [(0,.sl 1 (x0.map DW.enc)),p1],hp⟩) WkY.f1 ?_);refine AX ?_;refine AQ ?_;obtain ⟨e1,hp2,hb3,hT4⟩:=P6 (t:=110) (a:= .sl 1 (x0.map DW.enc)) hT kr;refine Ac AC 0 rfl (Vh (AB rfl) rfl kr (AEC (z:= .sl 1 (x0.map DW.enc)) kr hb3)) ?_;refine B6 AC [p1,(2,e1)] ?_
 let p2:Nat×AV:=(5,.fn 134 [] [e1])
 refine Bf AC [p1,p2] ?_;refine AX ?_;refine AQ ?_;refine Aj AC 1 ?_;by_cases hk5:(EK 120 x1.length)=true
 case neg=>rw [if_neg hk5] at h; cases h
 rw [if_pos hk5] at h;refine YT rfl rfl (IL x1 hk5) rfl (AB rfl) kr kr kr Yb ?_;intro x h' hO; obtain ⟨e6,hp7,e6q,hp7q,hT8⟩:=Yc (c:=AG) (k:=10) (t:=115) hT4 hO; rw [<-e6q,<-hp7q];refine B6 AC [(1,e6),p2] ?_;refine AX ?_;refine AQ ?_;refine Aj AC 2 ?_;obtain ⟨v9,hv9,h⟩:=OB h;refine NP (E:=E0) (e:=E0) rfl rfl AC rfl rfl (fid:=136) (caps:=[]) (xs:=[e6,.fn 134 [] [e1]]) (fn:=Tryz.f136) (c:=D3) (Out:=fun v h'=>v = .tp []/\T h' ((own_ (ocL 10 115 (ocV AG)) e6 v9.1)::(cel e1 1 110 (.sl 1 (v9.2.map DW.enc)))::L)) rfl (AB rfl) kr kr kr kr (by show 2<=9; decide) (GE e6 x1 e1 x0 _ hv9 hT8) ?_;rintro xx hp10 ⟨hqhp10,hT11⟩; subst xx;refine BU rfl (SemY.fr (l':=[(1,e6),p2]) kr ?_);refine Bf AC [(1,e6),p2,(6,.e0)] ?_;refine AX ?_;refine AX ?_;refine AQ ?_;refine Aj AC 1 ?_;refine Ac AC 0 rfl (DR (AB rfl) rfl (C3 (a:=e6) kr (We hT11 kr))) ?_;refine B6 AC [(1,e6),p2,(6,.e0),(16,e6),(17,.j (v9.1.length:Int)),(18,.j 0)] ?_;refine BZ ?_
 have hT12:=(T.e0 (k:=1) (ty:=48) (o:=(ocL 1 3 (ocV cdI))) hT11)
 have hT101:=((hT12.front 2 rfl).front 2 rfl)
 refine SemY.loop (n:=100000) ?_;obtain ⟨r102,hr102,h⟩:=OB h;refine DT (CJ WkY.f1 (Qh v9 e1 e6 _ 0 ([]:(List (List Int))) _ hr102 .e0 hp10 hT101)) ?_;rintro _ ⟨e103,hp104,hT105,rfl⟩;refine Bf AC [(4,e103)] ?_;refine SemY.ret ?_;have hq:=OI h; subst hq
 let p3:Nat×AV:=(4,.sl 1 (r102.map (cdL 1 cdI).enc))
 obtain ⟨hp106,hw107,hT108⟩:=Gw (E:=E0) (n:=55) (l:=[(4,e103)]) (l':=[p3]) hT105 ⟨⟨e103,kr,Gv⟩,trivial⟩;exact ⟨⟨Fr 55 [p3],hp106⟩,(WkY.trans (WkY.trans WkY.f1 hw107) WkY.f1),.inr rfl,[.sl 1 (r102.map (cdL 1 cdI).enc)],kr,⟨rfl,hT108⟩⟩
noncomputable def L7:Cs ((List AF)×(List Ab)×Unit):=(csC (cdL 1 DW) (csC (cdL 10 AG) csN))
noncomputable def O4 (r:(List (List Int))):AV:=(cdL 1 (cdL 1 cdI)).enc r
noncomputable def Ud:List AV->Option AV:=ES L7 (fun a=>Gz a.1 a.2.1) O4
theorem Uo:XOk 78 Ud:=by
 refine AU Tryz.func78 (c:=JO) ?h2 ⟨Tryz.call78⟩ L7 (fun a=>Gz a.1 a.2.1) O4 (fun a=>(by show 2<=55; decide)) ?h3 ?h4
 case h2=>kernel_rfl
 case h3=>intro b; kernel_rfl
 case h4 =>
  intro a b h;refine Sem.mono (TC (SL (L:=[]) (hp:=[]) a.1 a.2.1 b h T.nil)) fun e s' hs=>?_
  obtain ⟨h1,ys,h2,h3,-⟩:=hs;exact ⟨h1,ys,h2,h3⟩
/- trestle/court.line -/
noncomputable def Nf:Code:=BL Tryz.f81
def G0 (x0:(List (List Int))):Nat->Int->(List Int)->Option (((List Int)) ⊕ (Unit))
 | 0,_,_=>none
 | f + 1,c2,c4 =>
  if (decide (c2 < (x0.length:Int)))=true then
  (idx x0 c2).bind fun v6 =>
  if (decide ((v6.length:Int) > 1))=true then
  some (.inr ())
  else
  if (EK 8 (c4.length + v6.length))=true then
  G0 x0 f (wr .i64 (c2 + 1)) (c4++v6)
  else none
  else
  some (.inl c4)
def JG (x0:(List (List Int))):Option ((List Int)×Int) :=
 (G0 x0 100000 0 ([]:(List Int))).bind fun r16 =>
 match r16 with
 | (.inl w17) =>
  some (w17,0)
 | (.inr w24) =>
  some (([]:(List Int)),32)
theorem OR {L:List Asn}(x0:(List (List Int))):∀ (f:Nat) (c2:Int) (c4:(List Int)) (r:((List Int)) ⊕ (Unit)),G0 x0 f c2 c4=some r->∀ (e3:AV) (hp:Hp),T hp ((own_ (ocL 1 3 (ocV cdI)) e3 c4)::L)->SemYN E0 ⟨none,false⟩ (pc Nf [1,1,0,1,0,0]) f ⟨Fr 21 [(4,e3),(7,.sl 1 (x0.map (cdL 1 cdI).enc)),(8,.j (x0.length:Int)),(9,.j c2)],hp⟩ (fun e s=>match r with
 | (.inl w)=>e=(.exit 0)/\∃ s2,(∃ (e14:AV) (h':Hp),T h' ((own_ (ocL 1 3 (ocV cdI)) e14 w)::L)/\s2=⟨Fr 21 [(4,e14)],h'⟩)/\WkY E0 s s2
 | (.inr w)=>e = .ret/\∃ s2,(∃ (h':Hp),T h' (L)/\s2=⟨Fr 21 [(2,.e0),(3,.j 32)],h'⟩)/\WkY E0 s s2):=by
 intro f;induction f with
 | zero=>intro c2 c4 r h; cases h
 | succ f ih0 =>
  intro c2 c4 r h e3 hp hT;unfold G0 at h;refine D2 ?_
  let p1:Nat×AV:=(9,.j c2)
  let p2:Nat×AV:=(8,.j (x0.length:Int))
  let p3:Nat×AV:=(7,.sl 1 (x0.map (cdL 1 cdI).enc))
  refine Bf AC [(4,e3),p3,p2,p1,(10,.b (decide (c2 < (x0.length:Int))))] ?_;refine AX ?_;refine Bo (b:=(decide (c2 < (x0.length:Int)))) kr (fun hb5=>?_) (fun hb5=>?_)
  ·rw [if_pos hb5] at h
   refine SemY.skip ?_;refine AX ?_;refine BZ ?_;refine AX ?_;refine AQ ?_;obtain ⟨v6,hv6,h⟩:=OB h;refine Ac AC 0 rfl (DR (AB rfl) rfl (AP (a:= .sl 1 (x0.map (cdL 1 cdI).enc)) (b:= .j c2) kr kr (Di (e:=(cdL 1 cdI).enc) (el:=48) (k:=1) (ki:= .i64) kr kr hv6))) ?_;refine B6 AC [(4,e3),(6,.sl 1 (v6.map cdI.enc)),p3,p2,p1] ?_;refine AX ?_;refine AX ?_;refine AQ ?_;refine Aj AC 1 ?_;refine Ac AC 0 rfl (DR (AB rfl) rfl (C3 (a:= .sl 1 (v6.map cdI.enc)) kr (Bn (el:=3) kr))) ?_;refine B6 AC [(4,e3),(6,.sl 1 (v6.map cdI.enc)),p3,p2,p1,(15,.b (decide ((v6.length:Int) > 1)))] ?_;refine Bo (b:=(decide ((v6.length:Int) > 1))) kr (fun hb7=>?_) (fun hb7=>?_)
   ·rw [if_pos hb7] at h
    refine Bf AC [(2,.e0),(3,.j 32)] ?_;refine SemY.ret ?_;have hq:=OI h; subst hq
    have hT8:=hT.drop
    exact ⟨rfl,_,⟨hp,hT8,rfl⟩,WkY.f1⟩
   ·rw [Bm hb7] at h
    refine SemY.skip ?_;refine AQ ?_;refine Aj AC 2 ?_;by_cases hk13:(EK 8 (c4.length + v6.length))=true
    case neg=>rw [if_neg hk13] at h; cases h
    rw [if_pos hk13] at h;obtain ⟨e12,hp9,hb10,hT11⟩:=Y7 (P:=Tryz.prog) (ty:=48) (ty2:=48) (bytes:=8) (y:= .sl 1 (v6.map cdI.enc)) (ys:=v6) hT kr VU kr hk13;refine Ac AC 0 rfl (S4 (AB rfl) rfl kr kr (Dq (a:=e3) (b:= .sl 1 (v6.map cdI.enc)) kr kr hb10)) ?_;refine B6 AC [(4,e12),p3,p2,p1] ?_;refine AQ ?_;refine Aj AC 2 ?_;refine BU rfl ?_;exact CJ WkY.f1 (ih0 (wr .i64 (c2 + 1)) (c4++v6) _ h e12 hp9 hT11)
  ·rw [Bm hb5] at h
   refine SemY.exit ?_;have hq:=OI h; subst hq;exact ⟨rfl,_,⟨e3,hp,hT,rfl⟩,WkY.f1⟩
theorem UU {L:List Asn}{hp:Hp}(x0:(List (List Int))) (r:(List Int)×Int) (h:JG x0=some r) (hT:T hp (L)):SemY E0 ⟨none,false⟩ Nf ⟨Fr 21 (A6 0 [.sl 1 (x0.map (cdL 1 cdI).enc)]),hp⟩ fun x s'=>(x = .normal\/x = .ret)/\∃ ys,EZ E0.P s'.fr s'.hp Tryz.f81.results.toList=some ys/\(fun v h'=>v = .tp [.sl 1 (r.1.map cdI.enc),.j r.2]/\T h' (L)) (Ee ys) s'.hp:=by
 unfold JG at h
 let p1:Nat×AV:=(0,.sl 1 (x0.map (cdL 1 cdI).enc))
 refine KO (Lt (s1:=⟨Fr 21 [p1],hp⟩) WkY.f1 ?_);refine Bf AC [p1] ?_;refine Bf AC [p1,(4,.e0)] ?_;refine AX ?_;refine AX ?_;refine AQ ?_;refine Aj AC 1 ?_;refine Ac AC 0 rfl (DR (AB rfl) rfl (C3 (a:= .sl 1 (x0.map (cdL 1 cdI).enc)) kr (Bn (el:=48) kr))) ?_;refine B6 AC [(4,.e0),(7,.sl 1 (x0.map (cdL 1 cdI).enc)),(8,.j (x0.length:Int)),(9,.j 0)] ?_;refine BZ ?_
 have hT1:=(T.e0 (k:=1) (ty:=3) (o:=(ocV cdI)) hT)
 refine SemY.loop (n:=100000) ?_;obtain ⟨r16,hr16,h⟩:=OB h;rcases r16 with w17 | w24
 ·try dsimp only at h
  refine DT (CJ WkY.f1 (OR x0 _ 0 ([]:(List Int)) _ hr16 .e0 hp hT1)) ?_;rintro _ ⟨e18,hp19,hT20,rfl⟩
  let p2:Nat×AV:=(3,.j 0)
  refine Bf AC [(2,e18),p2] ?_;refine SemY.ret ?_;have hq:=OI h; subst hq;obtain ⟨hp21,hw22,hT23⟩:=Gw (E:=E0) (n:=21) (l:=[(2,e18),p2]) (l':=[(2,.sl 1 (w17.map cdI.enc)),p2]) hT20 ⟨⟨e18,kr,Gv⟩,⟨.j 0,kr,FzU.refl⟩,trivial⟩;exact ⟨⟨Fr 21 [(2,.sl 1 (w17.map cdI.enc)),p2],hp21⟩,(WkY.trans (WkY.trans WkY.f1 hw22) WkY.f1),.inr rfl,[.sl 1 (w17.map cdI.enc),.j 0],kr,⟨rfl,hT23⟩⟩
 ·try dsimp only at h
  refine DT (CJ WkY.f1 (OR x0 _ 0 ([]:(List Int)) _ hr16 .e0 hp hT1)) ?_;rintro _ ⟨hp25,hT26,rfl⟩;have hq:=OI h; subst hq
  have hT27:=(T.e0 (k:=1) (ty:=3) (o:=(ocV cdI)) hT26)
  let p3:Nat×AV:=(3,.j 32)
  let p4:Nat×AV:=(2,.sl 1 (([]:(List Int)).map cdI.enc))
  obtain ⟨hp28,hw29,hT30⟩:=Gw (E:=E0) (n:=21) (l:=[(2,.e0),p3]) (l':=[p4,p3]) hT27 ⟨⟨.e0,kr,Gv⟩,⟨.j 32,kr,FzU.refl⟩,trivial⟩;exact ⟨⟨Fr 21 [p4,p3],hp28⟩,(WkY.trans (WkY.trans WkY.f1 hw29) WkY.f1),.inr rfl,[.sl 1 (([]:(List Int)).map cdI.enc),.j 32],kr,⟨rfl,hT30⟩⟩
def Nk:Cs ((List (List Int))×Unit):=(csC (cdL 1 (cdL 1 cdI)) csN)
def Qo (r:(List Int)×Int):AV:= .tp [(cdL 1 cdI).enc r.1,cdI.enc r.2]
def Wq:List AV->Option AV:=ES Nk (fun a=>JG a.1) Qo
theorem W3:XOk 81 Wq:=by
 refine AU Tryz.func81 (c:=Nf) ?h2 ⟨Tryz.call81⟩ Nk (fun a=>JG a.1) Qo (fun a=>(by show 1<=21; decide)) ?h3 ?h4
 case h2=>kernel_rfl
 case h3=>intro b; kernel_rfl
 case h4 =>
  intro a b h;refine Sem.mono (TC (UU (L:=[]) (hp:=[]) a.1 b h T.nil)) fun e s' hs=>?_
  obtain ⟨h1,ys,h2,h3,-⟩:=hs;exact ⟨h1,ys,h2,h3⟩
/- trestle/court.list -/
noncomputable def Lv:Code:=BL Tryz.f79
def ET (x0:(List An)):Nat->Int->(List Ab)->Option (((List Ab)))
 | 0,_,_=>none
 | f + 1,c2,c4 =>
  if (decide (c2 < (x0.length:Int)))=true then
  (idx x0 c2).bind fun v6 =>
  if (EK 120 (c4.length + ([(v6,c2)]:List Ab).length))=true then
  ET x0 f (wr .i64 (c2 + 1)) (c4++([(v6,c2)]:List Ab))
  else none
  else
  some c4
def KT (x0:(List An)):Option ((List Ab)) :=
 (ET x0 100000 0 ([]:(List Ab))).bind fun r27 =>
 some r27
theorem Qj {L:List Asn}(x0:(List An)):∀ (f:Nat) (c2:Int) (c4:(List Ab)) (r:((List Ab))),ET x0 f c2 c4=some r->∀ (e3:AV) (hp:Hp),T hp ((own_ (ocL 10 115 (ocV AG)) e3 c4)::L)->SemYN E0 ⟨none,false⟩ (pc Lv [1,1,0,1,0,0]) f ⟨Fr 21 [(3,e3),(6,.sl 9 (x0.map AE.enc)),(7,.j (x0.length:Int)),(8,.j c2)],hp⟩ (fun e s=>e=(.exit 0)/\∃ s2,(∃ (e25:AV) (h':Hp),T h' ((own_ (ocL 10 115 (ocV AG)) e25 r)::L)/\s2=⟨Fr 21 [(3,e25)],h'⟩)/\WkY E0 s s2):=by
 intro f;induction f with
 | zero=>intro c2 c4 r h; cases h
 | succ f ih0 =>
  intro c2 c4 r h e3 hp hT;unfold ET at h;refine D2 ?_
  let p1:Nat×AV:=(8,.j c2)
  let p2:Nat×AV:=(7,.j (x0.length:Int))
  let p3:Nat×AV:=(6,.sl 9 (x0.map AE.enc))
  refine Bf AC [(3,e3),p3,p2,p1,(9,.b (decide (c2 < (x0.length:Int))))] ?_;refine AX ?_;refine Bo (b:=(decide (c2 < (x0.length:Int)))) kr (fun hb5=>?_) (fun hb5=>?_)
  ·rw [if_pos hb5] at h
   refine SemY.skip ?_;refine AX ?_;refine BZ ?_;refine AX ?_;refine AQ ?_;refine Aj AC 1 ?_;obtain ⟨v6,hv6,h⟩:=OB h;refine Ac AC 0 rfl (DR (AB rfl) rfl (AP (a:= .sl 9 (x0.map AE.enc)) (b:= .j c2) kr kr (Di (e:=AE.enc) (el:=42) (k:=9) (ki:= .i64) kr kr hv6))) ?_;refine Aj AC 1 ?_;obtain ⟨e7,hp8,hb9,hT10⟩:=P6 (t:=42) (a:= .ag [.st [],.st [],.st [],.j 0,.j 0,.st [],.b false,.b false,.e0]) hT kr;refine Ac AC 0 rfl (Vh (AB rfl) rfl kr (Ta (z:= .ag [.st [],.st [],.st [],.j 0,.j 0,.st [],.b false,.b false,.e0]) kr hb9)) ?_;refine Aj AC 1 ?_;obtain ⟨hp11,hs12,hT13⟩:=Tj (P:=Tryz.prog) (ty:=42) (y:=(AE.enc v6)) (a':=(AE.enc v6)) hT10 kr kr kr;refine RunL.store AC (y:=e7) (z:=(AE.enc v6)) rfl (AB rfl) kr kr hs12 ?_;refine BU rfl (SemY.fr (l':=[(3,e3),(4,.j c2),(5,e7),p3,p2,p1]) kr ?_);refine AQ ?_;refine Aj AC 1 ?_;refine Ac AC 0 rfl (DR (AB rfl) rfl (HU (p:=e7) kr (Jo (y:=(AE.enc v6)) (m:=9) (g:=true) hT13 kr kr kr))) ?_;refine Aj AC 2 ?_;obtain ⟨e17,hp14,hb15,hT16⟩:=Iq (P:=Tryz.prog) (bytes:=120) (k:=10) (t:=115) (ty:=119) (xs:=([(v6,c2)]:List Ab)) (n:=1) (SS (k:=10) (fun _=>⟨rfl,rfl,rfl⟩)) (ID (c:=AG) (xs:=([(v6,c2)]:List Ab)) hT13) rfl kr kr kr;refine Ac AC 0 rfl (Vh (AB rfl) rfl kr (Rj (xs:=Nr 0 [.ag [.st v6.1,.st v6.2.1,.st v6.2.2.1,.j v6.2.2.2.1,.j v6.2.2.2.2.1,.st v6.2.2.2.2.2.1,.b v6.2.2.2.2.2.2.1,.b v6.2.2.2.2.2.2.2.1,.sl 1 (v6.2.2.2.2.2.2.2.2.map cdS.enc),.j c2]]) kr hb15)) ?_;by_cases hk22:(EK 120 (c4.length + ([(v6,c2)]:List Ab).length))=true
   case neg=>rw [if_neg hk22] at h; cases h
   rw [if_pos hk22] at h
   have hT23:=((hT16.front 0 rfl).front 2 rfl)
   obtain ⟨e21,hp18,hb19,hT20⟩:=Ik (P:=Tryz.prog) (ty:=119) (ty2:=119) (bytes:=120) hT23 kr kr hk22;refine Ac AC 0 rfl (S4 (AB rfl) rfl kr kr (Dq (a:=e3) (b:=e17) kr kr hb19)) ?_;refine B6 AC [(3,e21),p3,p2,p1] ?_;refine AQ ?_;refine Aj AC 2 ?_;refine BU rfl ?_
   have hT24:=(hT20.front 1 rfl).drop
   exact CJ WkY.f1 (ih0 (wr .i64 (c2 + 1)) (c4++([(v6,c2)]:List Ab)) _ h e21 hp18 hT24)
  ·rw [Bm hb5] at h
   refine SemY.exit ?_;have hq:=OI h; subst hq;exact ⟨rfl,_,⟨e3,hp,hT,rfl⟩,WkY.f1⟩
theorem SM {L:List Asn}{hp:Hp}(x0:(List An)) (r:(List Ab)) (h:KT x0=some r) (hT:T hp (L)):SemY E0 ⟨none,false⟩ Lv ⟨Fr 21 (A6 0 [.sl 9 (x0.map AE.enc)]),hp⟩ fun x s'=>(x = .normal\/x = .ret)/\∃ ys,EZ E0.P s'.fr s'.hp Tryz.f79.results.toList=some ys/\(fun v h'=>∃ (z0:AV),v=z0/\T h' ((own_ (ocL 10 115 (ocV AG)) z0 r)::L)) (Ee ys) s'.hp:=by
 unfold KT at h
 let p1:Nat×AV:=(0,.sl 9 (x0.map AE.enc))
 refine KO (Lt (s1:=⟨Fr 21 [p1],hp⟩) WkY.f1 ?_);refine Bf AC [p1] ?_;refine Bf AC [p1,(3,.e0)] ?_;refine AX ?_;refine AX ?_;refine AQ ?_;refine Aj AC 1 ?_;refine Ac AC 0 rfl (DR (AB rfl) rfl (C3 (a:= .sl 9 (x0.map AE.enc)) kr (Bn (el:=42) kr))) ?_;refine B6 AC [(3,.e0),(6,.sl 9 (x0.map AE.enc)),(7,.j (x0.length:Int)),(8,.j 0)] ?_;refine BZ ?_
 have hT1:=(T.e0 (k:=10) (ty:=115) (o:=(ocV AG)) hT)
 refine SemY.loop (n:=100000) ?_;obtain ⟨r27,hr27,h⟩:=OB h;refine DT (CJ WkY.f1 (Qj x0 _ 0 ([]:(List Ab)) _ hr27 .e0 hp hT1)) ?_;rintro _ ⟨e28,hp29,hT30,rfl⟩;refine Bf AC [(2,e28)] ?_;refine SemY.ret ?_;have hq:=OI h; subst hq;exact ⟨⟨Fr 21 [(2,e28)],hp29⟩,WkY.f1,.inr rfl,[e28],kr,⟨e28,rfl,hT30⟩⟩
/- trestle/court.Alternate$1 -/
noncomputable def LY:Code:=BL Tryz.f99
def EL (x0:Ab) (x1:(List (List UInt8))) (x2:Int):Option (Bool) :=
 (idx x1 x2).bind fun v1 =>
 some (!(x0.1.2.2.1==v1))
def Iw:Cs (Ab×(List (List UInt8))×Int×Unit):=(csC AG (csC (cdP (cdL 1 cdS)) (csC (cdP cdI) csN)))
def Iy (r:Bool):AV:=cdB.enc r
theorem Ot (x0:Ab) (x1:(List (List UInt8))) (x2:Int) (r:Bool) (h:EL x0 x1 x2=some r):Sem E0 ⟨none,false⟩ LY ⟨Fr 13 (A6 0 (Iw.enc (x0,x1,x2,()))),[]⟩ fun e s'=>(e = .normal\/e = .ret)/\∃ xs,EZ E0.P s'.fr s'.hp Tryz.f99.results.toList=some xs/\Ee xs=Iy r:=by
 unfold EL at h
 let p1:Nat×AV:=(1,.pe (.sl 1 (x1.map cdS.enc)) 0)
 refine Ax (BY (s1:=⟨Fr 13 [(0,AG.enc x0),p1,(2,.pe (.j x2) 0)],[]⟩) AJ ?_)
 let p2:Option Blk:=some ⟨10,115,[AG.enc x0],false⟩
 refine AK AC [p1,(2,.pe (.j x2) 0),(3,.pt 0 0 0)] [p2] ?_;refine AH ?_;obtain ⟨v1,hv1,h⟩:=OB h
 let p3:Nat×AV:=(4,.b (!(x0.1.2.2.1==v1)))
 refine D5 AC (s1:=⟨Fr 13 [p3],[]⟩) kr ?_ ?_
 ·refine Aa (n:=13) AC 5 [(7,.st x0.1.2.2.1),(8,.sl 1 (x1.map cdS.enc)),(9,.j x2)] [p2] kr kr ?_
  refine RunDS.one AC rfl kr (JB kr (AB rfl) rfl (AP (a:= .sl 1 (x1.map cdS.enc)) (b:= .j x2) kr kr (Di (e:=cdS.enc) (el:=9) (k:=1) (ki:= .i64) kr kr hv1)) kr) ?_;refine Aa (n:=13) AC 3 [p3] [p2] kr kr ?_;exact RunDS.done rfl (Ar [] trivial ⟨lv,trivial⟩)
 refine AR ?_;have hq:=OI h; subst hq;exact ⟨⟨Fr 13 [p3],[]⟩,AJ,.inr rfl,[.b (!(x0.1.2.2.1==v1))],kr,kr⟩
def QR:List AV->Option AV:=ES Iw (fun a=>EL a.1 a.2.1 a.2.2.1) Iy
theorem MX:XOk 99 QR:=by
 refine AU Tryz.func99 (c:=LY) ?h2 ⟨Tryz.call99⟩ Iw (fun a=>EL a.1 a.2.1 a.2.2.1) Iy (fun a=>(by show 3<=13; decide)) ?h3 ?h4
 case h2=>kernel_rfl
 case h3=>intro b; kernel_rfl
 case h4=>exact fun a b h=>Ot a.1 a.2.1 a.2.2.1 b h
/- slices.IndexFunc[[]trestle/court.seated,trestle/court.seated] -/
noncomputable def By:Code:=BL Tryz.f144
def AN (x0:(List Ab)) (x1:(List (List UInt8))×Int):Nat->Int->Option ((Unit) ⊕ (Int))
 | 0,_=>none
 | f + 1,c1 =>
  if (decide (c1 < (x0.length:Int)))=true then
  (idx x0 c1).bind fun v3 =>
  (EL v3 x1.1 x1.2).bind fun v4 =>
  if v4=true then
  some (.inr c1)
  else
  AN x0 x1 f (wr .i64 (c1 + 1))
  else
  some (.inl ())
def Ah (x0:(List Ab)) (x1:(List (List UInt8))×Int):Option (Int) :=
 (AN x0 x1 100000 0).bind fun r7 =>
 match r7 with
 | (.inl w8) =>
  some (-1)
 | (.inr w9) =>
  some w9
def Bz:Cs ((List Ab)×((List (List UInt8))×Int)×Unit):=(csC (cdL 10 AG) (csC (cdF 99 (csC (cdP (cdL 1 cdS)) (csE (cdP cdI))) (fun _=>rfl)) csN))
def B3 (r:Int):AV:=cdI.enc r
theorem C4 (x0:(List Ab)) (x1:(List (List UInt8))×Int):∀ (f:Nat) (c1:Int) (r:(Unit) ⊕ (Int)),AN x0 x1 f c1=some r->SemN E0 ⟨none,false⟩ (pc By [1,0,1,0,0]) f ⟨Fr 19 [(0,.sl 10 (x0.map AG.enc)),(1,.fn 99 [] [.pe (.sl 1 (x1.1.map cdS.enc)) 0,.pe (.j x1.2) 0]),(7,.j (x0.length:Int)),(8,.j c1)],[]⟩ (fun e s=>match r with
 | (.inl w)=>e=(.exit 0)/\Wk E0 s ⟨Fr 19 [],[]⟩
 | (.inr w)=>e = .ret/\Wk E0 s ⟨Fr 19 [(4,.j w)],[]⟩):=by
 intro f;induction f with
 | zero=>intro c1 r h; cases h
 | succ f ih0 =>
  intro c1 r h
  have ih:=fun (c1:Int)=>ih0 c1 r
  unfold AN at h;refine CI ?_
  let p1:Nat×AV:=(8,.j c1)
  let p2:Nat×AV:=(7,.j (x0.length:Int))
  let p3:Nat×AV:=(1,.fn 99 [] [.pe (.sl 1 (x1.1.map cdS.enc)) 0,.pe (.j x1.2) 0])
  let p4:Nat×AV:=(0,.sl 10 (x0.map AG.enc))
  refine AK AC [p4,p3,p2,p1,(9,.b (decide (c1 < (x0.length:Int))))] [] ?_;refine AH ?_;refine AT (b:=(decide (c1 < (x0.length:Int)))) kr (fun hb2=>?_) (fun hb2=>?_)
  ·rw [if_pos hb2] at h
   refine AY ?_;refine AH ?_;refine Al ?_
   let p5:Nat×AV:=(5,.j c1)
   refine AK AC [p4,p3,p5,p2,p1] [] ?_;refine AH ?_;obtain ⟨v3,hv3,h⟩:=OB h;obtain ⟨v4,hv4,h⟩:=OB h;refine AM (s1:=⟨Fr 19 [p4,p3,p5,p2,p1,(16,.b v4)],[]⟩) ?_ ?_
   ·let p6:Nat×AV:=(11,.fn 99 [] [.pe (.sl 1 (x1.1.map cdS.enc)) 0,.pe (.j x1.2) 0])
    refine AD (n:=19) AC 3 [p4,p3,p5,p2,p1,p6,(12,.sl 10 (x0.map AG.enc)),(13,.j c1)] [] kr ?_;refine AZ AC 0 rfl (DR (AB rfl) rfl (AP (a:= .sl 10 (x0.map AG.enc)) (b:= .j c1) kr kr (Di (e:=AG.enc) (el:=115) (k:=10) (ki:= .i64) kr kr hv3))) ?_;refine AD (n:=19) AC 1 [p4,p3,p5,p2,p1,p6,(15,AG.enc v3)] [] kr ?_;refine AS (caps:=[.pe (.sl 1 (x1.1.map cdS.enc)) 0,.pe (.j x1.2) 0]) (xs:=[AG.enc v3]) (u:=(v3,x1.1,x1.2,())) rfl rfl MX rfl (AB rfl) kr kr (AL (AW (c:=AG) (v:=v3)) (AL (AW (c:=(cdP (cdL 1 cdS))) (v:=x1.1)) (AL (AW (c:=(cdP cdI)) (v:=x1.2)) Ao))) (.inl kr) hv4 ?_;exact AI rfl AJ
   refine AT (b:=v4) kr (fun hb5=>?_) (fun hb5=>?_)
   ·rw [if_pos hb5] at h
    refine AK AC [(4,.j c1)] [] ?_;refine AR ?_;have hq:=OI h; subst hq;exact ⟨rfl,AJ⟩
   ·rw [Bm hb5] at h
    refine AY ?_
    let p7:Nat×AV:=(8,.j (wr .i64 (c1 + 1)))
    refine D1 AC [p4,p3,p2,p7] [] ?_;exact Aq (s1:=⟨Fr 19 [p4,p3,p2,p7],[]⟩) AJ (ih (wr .i64 (c1 + 1)) h)
  ·rw [Bm hb2] at h
   refine C6 ?_;have hq:=OI h; subst hq;exact ⟨rfl,AJ⟩
theorem Ef (x0:(List Ab)) (x1:(List (List UInt8))×Int) (r:Int) (h:Ah x0 x1=some r):Sem E0 ⟨none,false⟩ By ⟨Fr 19 (A6 0 (Bz.enc (x0,x1,()))),[]⟩ fun e s'=>(e = .normal\/e = .ret)/\∃ xs,EZ E0.P s'.fr s'.hp Tryz.f144.results.toList=some xs/\Ee xs=B3 r:=by
 unfold Ah at h
 let p1:Nat×AV:=(1,.fn 99 [] [.pe (.sl 1 (x1.1.map cdS.enc)) 0,.pe (.j x1.2) 0])
 let p2:Nat×AV:=(0,.sl 10 (x0.map AG.enc))
 refine Ax (BY (s1:=⟨Fr 19 [p2,p1],[]⟩) AJ ?_);refine AK AC [p2,p1] [] ?_;refine AH ?_;refine AH ?_
 let p3:Nat×AV:=(8,.j 0)
 let p4:Nat×AV:=(7,.j (x0.length:Int))
 refine AM (s1:=⟨Fr 19 [p2,p1,p4,p3],[]⟩) ?_ ?_
 ·refine AD (n:=19) AC 1 [p2,p1,(6,.sl 10 (x0.map AG.enc))] [] kr ?_
  refine AZ AC 0 rfl (DR (AB rfl) rfl (C3 (a:= .sl 10 (x0.map AG.enc)) kr (Bn (el:=115) kr))) ?_;exact Ad AC
 refine Al ?_;obtain ⟨r7,hr7,h⟩:=OB h;refine DB (n:=100000) ?_;rcases r7 with w8 | w9
 ·try dsimp only at h
  refine BB (Aq (s1:=⟨Fr 19 [p2,p1,p4,p3],[]⟩) AJ (C4 x0 x1 _ 0 _ hr7)) ?_;refine AK AC [(4,.j (-1))] [] ?_;refine AR ?_;have hq:=OI h; subst hq;exact ⟨⟨Fr 19 [(4,.j (-1))],[]⟩,AJ,.inr rfl,[.j (-1)],kr,kr⟩
 ·try dsimp only at h
  refine BB (Aq (s1:=⟨Fr 19 [p2,p1,p4,p3],[]⟩) AJ (C4 x0 x1 _ 0 _ hr7)) ?_;have hq:=OI h; subst hq;exact ⟨⟨Fr 19 [(4,.j w9)],[]⟩,AJ,.inr rfl,[.j w9],kr,kr⟩
def Em:List AV->Option AV:=ES Bz (fun a=>Ah a.1 a.2.1) B3
theorem En:XOk 144 Em:=by
 refine AU Tryz.func144 (c:=By) ?h2 ⟨Tryz.call144⟩ Bz (fun a=>Ah a.1 a.2.1) B3 (fun a=>(by show 2<=19; decide)) ?h3 ?h4
 case h2=>kernel_rfl
 case h3=>intro b; kernel_rfl
 case h4=>exact fun a b h=>Ef a.1 a.2.1 b h
/-- An own block is shortened. -/
theorem Y4 {E:Env}{n d:Nat}{l:List (Nat×AV)}{hp:Hp}{b k q m:Nat}{t:TypeId}{es zs:List AV}(hb:hp[b]? = some (some ⟨k,t,es++zs,false⟩)) (_:q<=m):WkY E ⟨Fr n ((d,.rf b 0 q m)::l),hp⟩ ⟨Fr n ((d,.rf b 0 q q)::l),hp.set b (some ⟨k,t,es,false⟩)⟩:=by
 intro base w Z R a sr
 obtain ⟨r,arr,us,g1,g2,g3,g4,g5,g6,g7,g8,g9,g10⟩:=sr.hh.blk b _ hb
 have hel:(es++zs).take es.length=es:=by rw [List.take_append_of_le_length (Nat.le_refl _),List.take_of_length_le (Nat.le_refl _)]
 have hput:=sr.hh.put (w':=w) (es:=es) (us:=us.take es.length) (arr:=arr) hb rfl g1 ⟨rfl,rfl,rfl,Nat.le_refl _,fun _ _ _=>rfl⟩ g3 g4 (by have:(es++zs).length<=r.cap:=g5; rw [List.length_append] at this; omega) (by have:=g9.take es.length; rwa [hel] at this) (fun i u hu=>by
  rw [List.getElem?_take] at hu
  split at hu
  ·exact g10 i u hu
  ·cases hu)
 refine ⟨Z,R,⟨hput.1,⟨?_,fun t x hx=>?_⟩,sr.mks.step hput.2,sr.gl.step sr.hh hput.2,sr.bs⟩,hput.2⟩
 ·have:=sr.fr.1; rw [Jy] at this ⊢; exact this
 ·have hold:∀ x,(Fr n ((d,.rf b 0 q m)::l))[t]? = some (some x)->VR w Z R x (a.tmps.getD t undef):=fun x h=>sr.fr.2 t x h
  rw [JE] at hx
  by_cases ht:t < n
  ·rw [if_pos ht] at hx
   injection hx with hx
   rw [MO] at hx
   by_cases hd:d=t
   ·subst hd
    rw [if_pos rfl] at hx
    injection hx with hx
    subst hx
    have h2:=hold (.rf b 0 q m) (by rw [JE,if_pos ht,MO,if_pos rfl])
    generalize a.tmps.getD d undef=u at h2
    cases h2 with
    | rf hr h0 h1 h2 hm=>exact .rf hr (Nat.le_refl _) (Nat.le_trans h0 h1) h2 hm
   ·rw [if_neg hd] at hx
    exact hold x (by rw [JE,if_pos ht,MO,if_neg hd,hx])
  ·rw [if_neg ht] at hx; cases hx
def ADh (i:Int) (m:Nat):Bool:=decide (0 < m)&&(decide (0<=i)&&decide (i<=(m:Int)))
section
variable {E:Env}{cx:Cx}{ops:Array Oper}{rest rest':List Oper}{K:St->Prop}{n k d:Nat}{l:List (Nat×AV)}{hp:Hp}{t ty:TypeId}{α:Type}{c:Cd α}{xs:List α}{e:AV}{L:List Asn}
theorem Y2 (hE:EnvOk E){x y:Operand}{i:Int}{ki:IntKind}{t':TypeId}{pos:String}{af:Array Edge}{g:Option (Nat×Bool)}(ht:T hp (own_ (ocL k t (ocV c)) e xs::L)) (hc:ADh i xs.length=true) (hr:rest=⟨some d,.slice ty x none (some y) none,t',pos,af,g⟩::rest') (hw:DS ops (Fr n l) ⟨some d,.slice ty x none (some y) none,t',pos,af,g⟩=some true)
  (hx:opA E (Fr n l) x=some e) (hy:opA E (Fr n l) y=some (.v (.int ki i))) (hu:E.P.underlying ty=some (.slice t)) (hs:Dx E.P t=some k) (kk:∀ e' hp',T hp' (own_ (ocL k t (ocV c)) e' (xs.take i.toNat)::L)->RunL E cx ops rest' ⟨Fr n ((d,e')::l),hp'⟩ K):RunL E cx ops rest ⟨Fr n l,hp⟩ K:=by
 unfold ADh at hc
 simp only [Bool.and_eq_true,decide_eq_true_eq] at hc
 obtain ⟨h0,h1,h2⟩:=hc
 obtain ⟨F,p,hn',hk,_⟩:=ht.act
 rcases p with ⟨rfl,rfl,_⟩ | ⟨b,es,F',rfl,hb,rfl,h4⟩
 ·simp at h0
 ·obtain ⟨rfl,rfl⟩:=h4.leaf_inv
  have hi:i.toNat<=xs.length:=by omega
  have hsl:KH E.P hp ty (.rf b 0 xs.length xs.length) none (some (.v (.int ki i))) none=some (.rf b 0 i.toNat xs.length):=by
   unfold KH
   have hni:¬ i < 0:=by omega
   simp only [hu,hb,S1,hni,if_false,hs]
   rw [if_pos ⟨Nat.zero_le _,hi,Nat.le_refl _,.inl rfl,trivial⟩,if_pos h0]
   simp
  refine Ac hE 0 hr (DR hw rfl (NH hx rfl (by show (opA E (Fr n l) y).map some=_; rw [hy]; rfl) rfl hsl)) ?_
  refine VH (Y4 (es:=(xs.take i.toNat).map c.enc) (zs:=(xs.drop i.toNat).map c.enc) (by rw [hb,<-List.map_append,List.take_append_drop]) hi) ?_
  have hlt:=Mr hb
  have hl:(xs.take i.toNat).length=i.toNat:=by rw [List.length_take]; omega
  refine kk _ _ (hk _ _ [b] (.inr ⟨b,(xs.take i.toNat).map c.enc,[],by rw [hl],by simp [hlt],rfl,Of⟩) (by simp) (fun b' hb' _=>?_) (fun b' hb'=> .inl hb'))
  rw [List.getElem?_set,if_neg (by intro e; subst e; simp at hb')]
end
def ADC (i:Int) (m:Nat):Bool:=decide (0<=i)&&decide (i < (m:Int))
theorem P5 (z:Value):∀ n:Nat,(Builtin.zeroCells z.cells n).toList=C7 (List.replicate n z)
 | 0=>by simp [Builtin.zeroCells,C7]
 | n + 1=>by
  have ih:=P5 z n
  have e:C7 (List.replicate (n + 1) z)=C7 (List.replicate n z)++z.cells.toList:=by
   unfold C7
   rw [List.replicate_succ',List.map_append,List.flatten_append]
   simp
  rw [e,<-ih]
  apply List.ext_getElem?
  intro i
  simp only [Builtin.zeroCells,Array.toList_map,Array.toList_range,List.getElem?_map]
  rw [List.getElem?_append]
  simp only [List.length_map,List.length_range,List.getElem?_map]
  have hs:(n + 1) * z.cells.size=n * z.cells.size + z.cells.size:=Nat.succ_mul _ _
  by_cases h1:i < n * z.cells.size
  ·rw [if_pos h1,List.getElem?_range (by omega),List.getElem?_range h1]
  ·rw [if_neg h1]
   by_cases h2:i < (n + 1) * z.cells.size
   ·rw [List.getElem?_range h2]
    have h3:i - n * z.cells.size < z.cells.size:=by omega
    have h4:i % z.cells.size=i - n * z.cells.size:=by
     have:i=(i - n * z.cells.size) + z.cells.size * n:=by have:=Nat.mul_comm z.cells.size n; omega
     conv=>lhs; rw [this]
     rw [Nat.add_mul_mod_self_left,Nat.mod_eq_of_lt h3]
    simp only [Option.map_some,h4]
    simp [h3]
   ·rw [List.getElem?_eq_none (by rw [List.length_range]; omega),List.getElem?_eq_none (by rw [Array.length_toList]; omega)]; rfl
section
variable {E:Env}{cx:Cx}{ops:Array Oper}{rest rest':List Oper}{K:St->Prop}{n k d:Nat}{l:List (Nat×AV)}{hp:Hp}{t ty:TypeId}{α:Type}{c:Cd α}{xs:List α}{e:AV}{L:List Asn}
theorem RunL.clear {x:Operand}{t2:TypeId}{pos:String}{af:Array Edge}{g:Option (Nat×Bool)}{b lo q m:Nat}{B:Blk}{z0 z:AV}(hr:rest=⟨none,.call ⟨.builtin .clear,#[x],#[ty]⟩,t2,pos,af,g⟩::rest') (hw:DS ops (Fr n l) ⟨none,.call ⟨.builtin .clear,#[x],#[ty]⟩,t2,pos,af,g⟩=some true)
  (hx:opA E (Fr n l) x=some (.rf b lo (q + 1) m)) (hu:E.P.underlying ty=some (.slice t)) (hz:JK E.P t=some z0) (hup:UpV z0 z) (hnt:z.notTp=true) (hk:z.nc=B.k) (hB:hp[b]? = some (some B)) (hf:B.fz=false) (hle:lo + (q + 1)<=B.es.length)
  (kk:RunL E cx ops rest' ⟨Fr n l,hp.set b (some { B with es:=B.es.take lo++List.replicate (q + 1) z++B.es.drop (lo + (q + 1)) })⟩ K):RunL E cx ops rest ⟨Fr n l,hp⟩ K:=by
 subst hr
 intro ro base Q a w Z R hro sr hy qq
 refine Pc rfl (wantedA_eq sr hw) ?_
 have hv:=opA_vr sr x _ hx
 generalize hva:a.eval x=va at hv
 obtain ⟨u,hzu0,_,hzr,i,hi1,hi2⟩:=MV (w:=w) (Z:=Z) (R:=R) hz
 have hzu:=hup _ _ _ _ hzu0
 obtain ⟨r,arr,us,g1,g2,g3,g4,g5,g6,g7,g8,g9,g10⟩:=sr.hh.blk b B hB
 cases hv with
 | rf hr q0 q1 q2 q3 =>
  rename_i c' r'
  rw [g1] at hr
  injection hr with hr
  subst hr
  have hys:VRs w Z R (List.replicate (q + 1) z) (List.replicate (q + 1) u):=VRs.replicate _ hzu
  obtain ⟨k1,k2,k3,k4,k5⟩:=sr.hh.write (lo:=lo) (ys:=List.replicate (q + 1) z) (vs:=List.replicate (q + 1) u) hB hf g1 (by simp; omega) (by omega) hys (fun v hv=>by
   have:=List.eq_of_mem_replicate hv
   subst this
   exact ⟨hzu.cells.1.trans hk,hzu.cells_one hnt⟩)
  rw [List.length_replicate] at k1 k2
  have hst:=run_storeCells_cells (P:=E.P) r.c (lo * r.k) (C7 (List.replicate (q + 1) u)) 0 w (fun j hj=>by rw [g2]; simpa using k3 j hj) (fun j hj=>by rw [g2]; simpa using k4 j hj) k5
  simp only [Nat.add_zero] at hst
  have hst':(storeCells ⟨r.c,lo * r.k,none⟩ (C7 (List.replicate (q + 1) u))).run E.P w = .ok () (w.setCells r.c (lo * B.k) (C7 (List.replicate (q + 1) u))):=by rw [hst,g2]
  have hrun:=Js (P:=E.P) (ve:=a.eval) (o:=⟨none,.call ⟨.builtin .clear,#[x],#[ty]⟩,t2,pos,af,g⟩) (us:=[.slice (some ⟨r.c,lo * r.k,none⟩) (q + 1) c']) rfl (by simp [hva]) w
  have hfin:(execOp a.eval ⟨none,.call ⟨.builtin .clear,#[x],#[ty]⟩,t2,pos,af,g⟩).run E.P w = .ok (.value (.tuple #[])) (w.setCells r.c (lo * B.k) (C7 (List.replicate (q + 1) u))):=by
   rw [hrun]
   simp [builtin,Builtin.clear_,run_underlying hu,hzr,P5,hst']
  unfold Lw
  rw [hfin]
  exact kk ro base Q _ _ Z R hro ((sr.step k1 k2).put (d:=none) (x:= .tp []) (u:= .tuple #[]) (.tp (us:=[]) rfl fun i x u h=>by simp at h)) (hy.step sr.hh k2) fun s' a' w'' Z'' R'' hK sr'' st'=>qq s' a' w'' Z'' R'' hK sr'' (k2.trans st')
theorem Y1 (hE:EnvOk E){x y:Operand}{i:Int}{ki:IntKind}{z:α}{t1 t2:TypeId}{p1 p2:String}{f1 f2:Array Edge}{g1 g2:Option (Nat×Bool)}(ht:T hp (own_ (ocL k t (ocV c)) e xs::L)) (hc:ADC i xs.length=true)
  (hr:rest=⟨some d,.slice ty x (some y) none none,t1,p1,f1,g1⟩::⟨none,.call ⟨.builtin .clear,#[.tmp d],#[ty]⟩,t2,p2,f2,g2⟩::rest') (hw:DS ops (Fr n l) ⟨some d,.slice ty x (some y) none none,t1,p1,f1,g1⟩=some true)
  (hw2:∀ v,DS ops (Fr n ((d,v)::l)) ⟨none,.call ⟨.builtin .clear,#[.tmp d],#[ty]⟩,t2,p2,f2,g2⟩=some true) (hd:Nat.blt d n=true) (hx:opA E (Fr n l) x=some e) (hy:opA E (Fr n l) y=some (.v (.int ki i))) (hu:E.P.underlying ty=some (.slice t)) (hs:Dx E.P t=some k) {z0:AV} (hz:JK E.P t=some z0) (hup:UpV z0 (c.enc z)) (hnt:(c.enc z).notTp=true) (hk:(c.enc z).nc=k)
  (kk:∀ v hp',T hp' (own_ (ocL k t (ocV c)) e (xs.take i.toNat++List.replicate (xs.length - i.toNat) z)::L)->RunL E cx ops rest' ⟨Fr n ((d,v)::l),hp'⟩ K):RunL E cx ops rest ⟨Fr n l,hp⟩ K:=by
 unfold ADC at hc
 simp only [Bool.and_eq_true,decide_eq_true_eq] at hc
 obtain ⟨h1,h2⟩:=hc
 obtain ⟨F,p,hn',hk',_⟩:=ht.act
 rcases p with ⟨rfl,rfl,_⟩ | ⟨b,es,F',rfl,hb,rfl,h4⟩
 ·simp at h2; omega
 ·obtain ⟨rfl,rfl⟩:=h4.leaf_inv
  obtain ⟨j,rfl⟩:∃ j:Nat,i=(j:Int):=⟨i.toNat,by omega⟩
  have hj:j < xs.length:=by omega
  obtain ⟨q,hq⟩:∃ q,xs.length=j + (q + 1):=⟨xs.length - j - 1,by omega⟩
  have hsl:KH E.P hp ty (.rf b 0 xs.length xs.length) (some (.v (.int ki (j:Int)))) none none=some (.rf b j (q + 1) (q + 1)):=by
   unfold KH
   have hni:¬ (j:Int) < 0:=by omega
   simp only [hu,hb,S1,hni,if_false,hs,Int.toNat_natCast]
   rw [if_pos ⟨by omega,Nat.le_refl _,Nat.le_refl _,.inl rfl,trivial⟩,if_pos (by omega)]
   rw [hq]
   simp
  refine Ac hE 0 hr (DR hw rfl (NH hx (by show (opA E (Fr n l) y).map some=_; rw [hy]; rfl) rfl rfl hsl)) ?_
  refine RunL.clear (z:=c.enc z) (q:=q) (lo:=j) (m:=q + 1) (b:=b) (B:=⟨k,t,xs.map c.enc,false⟩) rfl (hw2 _) ?_ hu hz hup hnt hk hb rfl (by simp; omega) ?_
  ·show (match (Fr n ((d,AV.rf b j (q + 1) (q + 1))::l))[d]? with | some (some x)=>some x | _=>none)=_
   rw [JE,if_pos (show d < n from Nat.le_of_ble_eq_true hd)]
   simp [lk]
  ·have e1:(xs.map c.enc).take j++List.replicate (q + 1) (c.enc z)++(xs.map c.enc).drop (j + (q + 1))=(xs.take j++List.replicate (xs.length - j) z).map c.enc:=by
    rw [List.drop_eq_nil_of_le (by simp; omega),List.append_nil,List.map_append,List.map_take,List.map_replicate,show xs.length - j=q + 1 by omega]
   have hl:(xs.take j++List.replicate (xs.length - j) z).length=xs.length:=by simp; omega
   simp only [e1,Int.toNat_natCast] at kk ⊢
   have hlt:=Mr hb
   refine kk _ _ (hk' _ _ [b] (.inr ⟨b,(xs.take j++List.replicate (xs.length - j) z).map c.enc,[],by rw [hl],by simp [hlt],rfl,Of⟩) (by simp) (fun b' hb' _=>?_) (fun b' hb'=> .inl hb'))
   rw [List.getElem?_set,if_neg (by intro e; subst e; simp at hb')]
end
/- slices.DeleteFunc[[]trestle/court.seated,trestle/court.seated] -/
noncomputable def CC:Code:=BL Tryz.f98
def A4 (c3:Int) (c5:(List Ab)) (v7:Ab) (v15:Bool):Option ((Int×(List Ab))) :=
 if (!v15)=true then
 (idx c5 c3).bind fun v17 =>
 some ((wr .i64 (c3 + 1)),(c5.set c3.toNat v7))
 else
 some (c3,c5)
def Aw (x1:(List (List UInt8))) (x2:Int):Nat->Int->Int->(List Ab)->Option ((Int×(List Ab)))
 | 0,_,_,_=>none
 | f + 1,c3,c4,c5 =>
  if (decide (c4 < (c5.length:Int)))=true then
  (idx c5 c4).bind fun v7 =>
  (EL v7 x1 x2).bind fun v15 =>
  (A4 c3 c5 v7 v15).bind fun r26 =>
  Aw x1 x2 f r26.1 (wr .i64 (c4 + 1)) r26.2
  else
  some (c3,c5)
def Bu (x0:(List Ab)) (x1:(List (List UInt8))) (x2:Int):Option ((List (List UInt8))×Int×(List Ab)) :=
 (Ah x0 (x1,x2)).bind fun v1 =>
 if (v1==(-1))=true then
 some (x1,x2,x0)
 else
 (Aw x1 x2 100000 v1 (wr .i64 (v1 + 1)) x0).bind fun r31 =>
 if (ADC r31.1 r31.2.length)=true then
 if (ADh r31.1 (r31.2.take r31.1.toNat++List.replicate (r31.2.length - r31.1.toNat) ((([]:List UInt8),([]:List UInt8),([]:List UInt8),(0:Int),(0:Int),([]:List UInt8),false,false,([]:(List (List UInt8)))),(0:Int))).length)=true then
 some (x1,x2,((r31.2.take r31.1.toNat++List.replicate (r31.2.length - r31.1.toNat) ((([]:List UInt8),([]:List UInt8),([]:List UInt8),(0:Int),(0:Int),([]:List UInt8),false,false,([]:(List (List UInt8)))),(0:Int))).take r31.1.toNat))
 else none
 else none
theorem Gd {L:List Asn}{hp:Hp}(c3:Int) (c5:(List Ab)) (v7:Ab) (v15:Bool) (u0:AV) (u1:AV) (x1:(List (List UInt8))) (u2:AV) (x2:Int) (c4:Int) (e8:AV) (r:(Int×(List Ab))) (h:A4 c3 c5 v7 v15=some r) (hT:T hp ((cel e8 10 115 (AG.enc v7))::(own_ (ocL 10 115 (ocV AG)) u0 c5)::(cel u1 1 40 (.sl 1 (x1.map cdS.enc)))::(cel u2 1 3 (.j x2))::L)):SemY E0 ⟨none,false⟩ (pc CC [1,1,1,0,1,0,0,1,0,0,1,1]) ⟨Fr 42 [(0,u0),(1,.fn 99 [] [u1,u2]),(5,.j c3),(6,.j c4),(7,e8),(29,.b (!v15))],hp⟩ (fun e s=>e = .normal/\∃ s2,(∃ (h':Hp),T h' ((own_ (ocL 10 115 (ocV AG)) u0 r.2)::(cel u1 1 40 (.sl 1 (x1.map cdS.enc)))::(cel u2 1 3 (.j x2))::L)/\s2=⟨Fr 42 [(0,u0),(1,.fn 99 [] [u1,u2]),(5,.j r.1),(6,.j c4)],h'⟩)/\WkY E0 s s2):=by
 unfold A4 at h;refine Bo (b:=(!v15)) kr (fun hb16=>?_) (fun hb16=>?_)
 ·rw [if_pos hb16] at h
  refine AX ?_;refine AQ ?_;refine Aj AC 2 ?_;refine Ac AC 0 rfl (DR (AB rfl) rfl (HU (p:=e8) kr (Jo (y:=(AG.enc v7)) (m:=10) (g:=true) hT kr kr kr))) ?_;obtain ⟨v17,hv17,h⟩:=OB h
  have hT18:=(hT.front 1 rfl)
  refine Ac AC 0 rfl (DR (AB rfl) rfl (AP (a:=u0) (b:= .j c3) kr kr (W8 (bytes:=120) hT18 kr hv17))) ?_;obtain ⟨hp19,hs20,hT21⟩:=Vv (P:=Tryz.prog) (ty:=115) (y:=(AG.enc v7)) (v':=v7) hT18 (H6 hv17).2 kr kr kr;refine RunL.store AC (y:=eAt u0 c3.toNat) (z:=(AG.enc v7)) rfl (AB rfl) kr kr hs20 ?_;refine BU rfl (SemY.fr (l':=[(0,u0),(1,.fn 99 [] [u1,u2]),(5,.j c3),(6,.j c4)]) kr ?_);refine AQ ?_;refine Aj AC 3 ?_;refine BU rfl ?_;have hq:=OI h; subst hq
  have hT24:=(hT21.front 1 rfl).drop
  exact ⟨rfl,_,⟨hp19,hT24,rfl⟩,WkY.f1⟩
 ·rw [Bm hb16] at h
  refine SemY.skip ?_;have hq:=OI h; subst hq
  have hT25:=hT.drop
  exact ⟨rfl,_,⟨hp,hT25,rfl⟩,WkY.f1⟩
theorem Ge {L:List Asn}(x1:(List (List UInt8))) (x2:Int) (u0:AV) (u1:AV) (u2:AV):∀ (f:Nat) (c3:Int) (c4:Int) (c5:(List Ab)) (r:(Int×(List Ab))),Aw x1 x2 f c3 c4 c5=some r->∀ (hp:Hp),T hp ((own_ (ocL 10 115 (ocV AG)) u0 c5)::(cel u1 1 40 (.sl 1 (x1.map cdS.enc)))::(cel u2 1 3 (.j x2))::L)->SemYN E0 ⟨none,false⟩ (pc CC [1,1,1,0,1,0,0]) f ⟨Fr 42 [(0,u0),(1,.fn 99 [] [u1,u2]),(5,.j c3),(6,.j c4)],hp⟩ (fun e s=>e=(.exit 0)/\∃ s2,(∃ (h':Hp),T h' ((own_ (ocL 10 115 (ocV AG)) u0 r.2)::(cel u1 1 40 (.sl 1 (x1.map cdS.enc)))::(cel u2 1 3 (.j x2))::L)/\s2=⟨Fr 42 [(0,u0),(5,.j r.1)],h'⟩)/\WkY E0 s s2):=by
 intro f;induction f with
 | zero=>intro c3 c4 c5 r h; cases h
 | succ f ih0 =>
  intro c3 c4 c5 r h  hp hT;unfold Aw at h;refine D2 ?_;refine AX ?_;refine AX ?_;refine AQ ?_;refine Aj AC 2 ?_;refine Ac AC 0 rfl (DR (AB rfl) rfl (C3 (a:=u0) kr (We hT kr))) ?_
  let p1:Nat×AV:=(6,.j c4)
  let p2:Nat×AV:=(5,.j c3)
  let p3:Nat×AV:=(1,.fn 99 [] [u1,u2])
  refine B6 AC [(0,u0),p3,p2,p1,(19,.b (decide (c4 < (c5.length:Int))))] ?_;refine Bo (b:=(decide (c4 < (c5.length:Int)))) kr (fun hb6=>?_) (fun hb6=>?_)
  ·rw [if_pos hb6] at h
   refine SemY.skip ?_;refine AX ?_;refine BZ ?_;refine AX ?_;refine AQ ?_;refine Aj AC 2 ?_;obtain ⟨v7,hv7,h⟩:=OB h;refine Ac AC 0 rfl (DR (AB rfl) rfl (AP (a:=u0) (b:= .j c4) kr kr (W8 (bytes:=120) hT kr hv7))) ?_;refine Ac AC 0 rfl (DR (AB rfl) rfl (HU (p:=eAt u0 c4.toNat) kr (MN (y:=(AG.enc v7)) (m:=10) (g:=true) hT (H6 hv7).2 kr kr kr))) ?_;obtain ⟨e8,hp9,hb10,hT11⟩:=P6 (t:=115) (a:= .ag [.st [],.st [],.st [],.j 0,.j 0,.st [],.b false,.b false,.e0,.j 0]) hT kr;refine Ac AC 0 rfl (Vh (AB rfl) rfl kr (Ta (z:= .ag [.st [],.st [],.st [],.j 0,.j 0,.st [],.b false,.b false,.e0,.j 0]) kr hb10)) ?_;obtain ⟨hp12,hs13,hT14⟩:=Tj (P:=Tryz.prog) (ty:=115) (y:=(AG.enc v7)) (a':=(AG.enc v7)) hT11 kr kr kr;refine RunL.store AC (y:=e8) (z:=(AG.enc v7)) rfl (AB rfl) kr kr hs13 ?_;refine BU rfl (SemY.fr (l':=[(0,u0),p3,p2,p1,(7,e8)]) kr ?_);refine AX ?_;refine AQ ?_;refine Aj AC 1 ?_;refine Ac AC 0 rfl (DR (AB rfl) rfl (HU (p:=e8) kr (Jo (y:=(AG.enc v7)) (m:=10) (g:=true) hT14 kr kr kr))) ?_;obtain ⟨v15,hv15,h⟩:=OB h;refine GP (v:=v15) (caps:=[u1,u2]) (xs:=[AG.enc v7]) (u:=(v7,x1,x2,())) rfl rfl MX rfl (AB rfl) kr kr (Br (Dy (c:=AG) (v:=v7)) (Br (SeeD.cel (c:=(cdL 1 cdS)) (v:=x1) hT14 (i:=2) rfl) (Br (SeeD.cel (c:=cdI) (v:=x2) hT14 (i:=3) rfl) SeesD.nil))) (.inl kr) hv15 ?_;refine B6 AC [(0,u0),p3,p2,p1,(7,e8),(29,.b (!v15))] ?_;obtain ⟨r26,hr26,h⟩:=OB h;refine I0 (Gd c3 c5 v7 v15 u0 u1 x1 u2 x2 c4 e8 _ hr26 hT14) ?_;rintro _ ⟨hp27,hT28,rfl⟩;refine AQ ?_;refine Aj AC 3 ?_;refine BU rfl ?_;exact CJ WkY.f1 (ih0 r26.1 (wr .i64 (c4 + 1)) r26.2 _ h  hp27 hT28)
  ·rw [Bm hb6] at h
   refine SemY.exit ?_;have hq:=OI h; subst hq;exact ⟨rfl,_,⟨hp,hT,rfl⟩,WkY.f1⟩
theorem Gp {L:List Asn}{hp:Hp}(u0:AV) (x0:(List Ab)) (u1:AV) (x1:(List (List UInt8))) (u2:AV) (x2:Int) (r:(List (List UInt8))×Int×(List Ab)) (h:Bu x0 x1 x2=some r) (hT:T hp ((own_ (ocL 10 115 (ocV AG)) u0 x0)::(cel u1 1 40 (.sl 1 (x1.map cdS.enc)))::(cel u2 1 3 (.j x2))::L)):SemY E0 ⟨none,false⟩ CC ⟨Fr 42 (A6 0 [u0,.fn 99 [] [u1,u2]]),hp⟩ fun x s'=>(x = .normal\/x = .ret)/\∃ ys,EZ E0.P s'.fr s'.hp Tryz.f98.results.toList=some ys/\(fun v h'=>∃ (z0:AV),v=z0/\T h' ((cel u1 1 40 (.sl 1 (r.1.map cdS.enc)))::(cel u2 1 3 (.j r.2.1))::(own_ (ocL 10 115 (ocV AG)) z0 r.2.2)::L)) (Ee ys) s'.hp:=by
 unfold Bu at h
 let p1:Nat×AV:=(1,.fn 99 [] [u1,u2])
 refine KO (Lt (s1:=⟨Fr 42 [(0,u0),p1],hp⟩) WkY.f1 ?_);refine Bf AC [(0,u0),p1] ?_;refine AX ?_;refine AQ ?_;refine Aj AC 2 ?_;obtain ⟨v1,hv1,h⟩:=OB h;refine GP (v:=v1) (caps:=[]) (xs:=[u0,.fn 99 [] [u1,u2]]) (u:=(x0,(x1,x2),())) rfl rfl En rfl (AB rfl) kr kr (Br (SeeD.own hT (i:=0) rfl) (Br (SeeD.fn (Br (SeeD.cel (c:=(cdL 1 cdS)) (v:=x1) hT (i:=1) rfl) (YU (SeeD.cel (c:=cdI) (v:=x2) hT (i:=2) rfl)))) SeesD.nil)) (.inl kr) hv1 ?_
 let p2:Nat×AV:=(5,.j v1)
 refine B6 AC [(0,u0),p1,p2] ?_;refine AX ?_;refine Bf AC [(0,u0),p1,p2,(12,.b (v1==(-1)))] ?_;refine Bo (b:=(v1==(-1))) kr (fun hb2=>?_) (fun hb2=>?_)
 ·rw [if_pos hb2] at h
  refine Bf AC [(4,u0)] ?_;refine SemY.ret ?_;have hq:=OI h; subst hq;exact ⟨⟨Fr 42 [(4,u0)],hp⟩,WkY.f1,.inr rfl,[u0],kr,⟨u0,rfl,((hT.front 2 rfl).front 2 rfl)⟩⟩
 ·rw [Bm hb2] at h
  refine SemY.skip ?_;refine AX ?_;refine Bf AC [(0,u0),p1,p2,(6,.j (wr .i64 (v1 + 1)))] ?_;refine BZ ?_;refine SemY.loop (n:=100000) ?_;obtain ⟨r31,hr31,h⟩:=OB h;refine DT (CJ WkY.f1 (Ge x1 x2 u0 u1 u2 _ v1 (wr .i64 (v1 + 1)) x0 _ hr31  hp hT)) ?_;rintro _ ⟨hp32,hT33,rfl⟩;refine AX ?_;refine AQ ?_;refine Aj AC 2 ?_;by_cases hk34:(ADC r31.1 r31.2.length)=true
  case neg=>rw [if_neg hk34] at h; cases h
  rw [if_pos hk34] at h;refine Y1 (ki:= .i64) (i:=r31.1) (z:=((([]:List UInt8),([]:List UInt8),([]:List UInt8),(0:Int),(0:Int),([]:List UInt8),false,false,([]:(List (List UInt8)))),(0:Int))) (z0:= .ag [.st [],.st [],.st [],.j 0,.j 0,.st [],.b false,.b false,.e0,.j 0]) AC hT33 hk34 rfl (AB rfl) (fun _=>AB rfl) kr kr kr kr kr kr (UpV.ag ⟨UpV.refl,UpV.refl,UpV.refl,UpV.refl,UpV.refl,UpV.refl,UpV.refl,UpV.refl,UpV.nil,UpV.refl,trivial⟩) kr kr ?_;intro _ hp35 hT36;refine BU rfl (SemY.fr (l':=[(0,u0),(5,.j r31.1)]) kr ?_);refine AX ?_;refine AQ ?_;refine Aj AC 2 ?_;by_cases hk37:(ADh r31.1 (r31.2.take r31.1.toNat++List.replicate (r31.2.length - r31.1.toNat) ((([]:List UInt8),([]:List UInt8),([]:List UInt8),(0:Int),(0:Int),([]:List UInt8),false,false,([]:(List (List UInt8)))),(0:Int))).length)=true
  case neg=>rw [if_neg hk37] at h; cases h
  rw [if_pos hk37] at h;refine Y2 (ki:= .i64) (i:=r31.1) AC hT36 hk37 rfl (AB rfl) kr kr kr kr ?_;intro e38 hp39 hT40;refine B6 AC [(4,e38)] ?_;refine SemY.ret ?_;have hq:=OI h; subst hq;exact ⟨⟨Fr 42 [(4,e38)],hp39⟩,WkY.f1,.inr rfl,[e38],kr,⟨e38,rfl,((hT40.front 2 rfl).front 2 rfl)⟩⟩
/- trestle/court.Alternate -/
noncomputable def EO:Code:=BL Tryz.f39
def court_Alternate_l1 (x0:(List (List AF))) (x2:(List An)):Nat->Int->(List (List UInt8))->(List (List Int))->Option (((List (List UInt8))×(List (List Int))) ⊕ (Int))
 | 0,_,_,_=>none
 | f + 1,c23,c24,c26 =>
  if (decide (c23 < (x0.length:Int)))=true then
  (idx x0 c23).bind fun v28 =>
  (idx c24 c23).bind fun v38 =>
  (if (!(v38==[]))=true then (idx c24 c23).bind fun v41 =>
  (Il v41).bind fun v42 =>
  some (!v42) else some false).bind fun j43 =>
  if j43=true then
  some (.inr 4)
  else
  if (KA 0 c23 c24.length)=true then
  (idx c24 c23).bind fun v65 =>
  (BC ((c24.take c23.toNat).drop (0:Int).toNat) v65).bind fun v66 =>
  if v66=true then
  some (.inr 5)
  else
  (IN v28).bind fun v69 =>
  if (v69.2 != 0)=true then
  some (.inr v69.2)
  else
  (IQ v28).bind fun v72 =>
  (KT x2).bind fun v73 =>
  (Bu v73 c24 c23).bind fun v78 =>
  (Gz v72.1 v78.2.2).bind fun v86 =>
  (JG v86).bind fun v87 =>
  if (v87.2 != 0)=true then
  some (.inr v87.2)
  else
  if (EK 24 (c26.length + ([v87.1]:List (List Int)).length))=true then
  court_Alternate_l1 x0 x2 f (wr .i64 (c23 + 1)) v78.1 (c26++([v87.1]:List (List Int)))
  else none
  else none
  else
  some (.inl (c24,c26))
def Gx (c112:Int) (c119:(List Int)) (v121:(List Int)):Option (((List Int))) :=
 if (decide (c112 < (v121.length:Int)))=true then
 (idx v121 c112).bind fun v124 =>
 if (EK 8 (c119.length + ([v124]:List Int).length))=true then
 some (c119++([v124]:List Int))
 else none
 else
 some c119
def Cu (w107:(List (List UInt8))×(List (List Int))) (c112:Int):Nat->Int->(List Int)->Option (((List Int)))
 | 0,_,_=>none
 | f + 1,c117,c119 =>
  if (decide (c117 < (w107.2.length:Int)))=true then
  (idx w107.2 c117).bind fun v121 =>
  (Gx c112 c119 v121).bind fun r139 =>
  Cu w107 c112 f (wr .i64 (c117 + 1)) r139
  else
  some c119
def Ct (x2:(List An)) (w107:(List (List UInt8))×(List (List Int))):Nat->Int->(List Int)->Option (((List Int)))
 | 0,_,_=>none
 | f + 1,c112,c114 =>
  if (decide (c112 < (x2.length:Int)))=true then
  (Cu w107 c112 100000 0 c114).bind fun r146 =>
  Ct x2 w107 f (wr .i64 (c112 + 1)) r146
  else
  some c114
def Gy (c158:Int) (c160:(List Int)) (v172:Bool):Option (((List Int))) :=
 if (!v172)=true then
 if (EK 8 (c160.length + ([c158]:List Int).length))=true then
 some (c160++([c158]:List Int))
 else none
 else
 some c160
def Cv (x2:(List An)) (w107:(List (List UInt8))×(List (List Int))):Nat->Int->(List Int)->Option (((List Int)))
 | 0,_,_=>none
 | f + 1,c158,c160 =>
  if (decide (c158 < (x2.length:Int)))=true then
  (idx x2 c158).bind fun v162 =>
  (BC w107.1 v162.2.2.1).bind fun v172 =>
  (Gy c158 c160 v172).bind fun r188 =>
  Cv x2 w107 f (wr .i64 (c158 + 1)) r188
  else
  some c160
def GX (x0:(List (List AF))) (x1:(List (List UInt8))) (x2:(List An)):Option ((List Int)×Int) :=
 (if (decide ((x0.length:Int) > 16))=true then some true else some (decide ((x2.length:Int) > 64))).bind fun j5 =>
 if j5=true then
 some (([]:(List Int)),7)
 else
 if ((x0.length:Int)!=(x1.length:Int))=true then
 some (([]:(List Int)),2)
 else
 (court_Alternate_l1 x0 x2 100000 0 x1 ([]:(List (List Int)))).bind fun r106 =>
 match r106 with
 | (.inl w107) =>
  (Ct x2 w107 100000 0 ([]:(List Int))).bind fun r154 =>
  (Cv x2 w107 100000 0 r154).bind fun r195 =>
  some (r195,0)
 | (.inr w202) =>
  some (([]:(List Int)),w202)
theorem KS {L:List Asn}(x0:(List (List AF))) (x2:(List An)) (e1:AV):∀ (f:Nat) (c23:Int) (c24:(List (List UInt8))) (c26:(List (List Int))) (r:((List (List UInt8))×(List (List Int))) ⊕ (Int)),court_Alternate_l1 x0 x2 f c23 c24 c26=some r->∀ (e25:AV) (hp:Hp),T hp ((cel e1 1 40 (.sl 1 (c24.map cdS.enc)))::(own_ (ocL 1 48 (ocV (cdL 1 cdI))) e25 c26)::L)->SemYN E0 ⟨none,false⟩ (pc EO [1,1,1,0,1,0,0]) f ⟨Fr 141 [(2,.sl 9 (x2.map AE.enc)),(4,e1),(8,e25),(39,.sl 1 (x0.map (cdL 5 AA).enc)),(40,.j (x0.length:Int)),(41,.j c23)],hp⟩ (fun e s=>match r with
 | (.inl w)=>e=(.exit 1)/\∃ s2,(∃ (e103:AV) (h':Hp),T h' ((cel e1 1 40 (.sl 1 (w.1.map cdS.enc)))::(own_ (ocL 1 48 (ocV (cdL 1 cdI))) e103 w.2)::L)/\s2=⟨Fr 141 [(2,.sl 9 (x2.map AE.enc)),(4,e1),(8,e103)],h'⟩)/\WkY E0 s s2
 | (.inr w)=>e = .ret/\∃ s2,(∃ (h':Hp),T h' (L)/\s2=⟨Fr 141 [(6,.e0),(7,.j w)],h'⟩)/\WkY E0 s s2):=by
 intro f;induction f with
 | zero=>intro c23 c24 c26 r h; cases h
 | succ f ih0 =>
  intro c23 c24 c26 r h e25 hp hT;unfold court_Alternate_l1 at h;refine D2 ?_;refine Bf AC [(2,.sl 9 (x2.map AE.enc)),(4,e1),(8,e25),(39,.sl 1 (x0.map (cdL 5 AA).enc)),(40,.j (x0.length:Int)),(41,.j c23),(42,.b (decide (c23 < (x0.length:Int))))] ?_;refine AX ?_;refine Bo (b:=(decide (c23 < (x0.length:Int)))) kr (fun hb27=>?_) (fun hb27=>?_)
  ·rw [if_pos hb27] at h
   refine SemY.skip ?_;refine AX ?_;refine BZ ?_;refine AX ?_;refine AQ ?_;refine Aj AC 1 ?_;obtain ⟨v28,hv28,h⟩:=OB h;refine Ac AC 0 rfl (DR (AB rfl) rfl (AP (a:= .sl 1 (x0.map (cdL 5 AA).enc)) (b:= .j c23) kr kr (Di (e:=(cdL 5 AA).enc) (el:=22) (k:=1) (ki:= .i64) kr kr hv28))) ?_;refine Aj AC 1 ?_;obtain ⟨e29,hp30,hb31,hT32⟩:=P6 (t:=3) (a:= .j 0) hT kr;refine Ac AC 0 rfl (Vh (AB rfl) rfl kr (Ta (z:= .j 0) kr hb31)) ?_;obtain ⟨hp33,hs34,hT35⟩:=Tj (P:=Tryz.prog) (ty:=3) (y:= .j c23) (a':= .j c23) hT32 kr kr kr;refine RunL.store AC (y:=e29) (z:= .j c23) rfl (AB rfl) kr kr hs34 ?_;refine B6 AC [(2,.sl 9 (x2.map AE.enc)),(4,e1),(8,e25),(9,e29),(10,.sl 5 (v28.map AA.enc)),(39,.sl 1 (x0.map (cdL 5 AA).enc)),(40,.j (x0.length:Int)),(41,.j c23)] ?_;refine AX ?_;refine AX ?_;obtain ⟨v38,hv38,h⟩:=OB h;obtain ⟨j43,hj43,h⟩:=OB h;refine QV (A:=fun s1=>∃ (h':Hp),T h' ((cel e1 1 40 (.sl 1 (c24.map cdS.enc)))::(own_ (ocL 1 48 (ocV (cdL 1 cdI))) e25 c26)::(cel e29 1 3 (.j c23))::L)/\s1=⟨Fr 141 [(2,.sl 9 (x2.map AE.enc)),(4,e1),(8,e25),(9,e29),(10,.sl 5 (v28.map AA.enc)),(39,.sl 1 (x0.map (cdL 5 AA).enc)),(40,.j (x0.length:Int)),(41,.j c23),(58,.b j43)],h'⟩) ?_ ?_
   ·have hT36:=(hT35.front 1 rfl)
    refine Ac AC 0 rfl (DR (AB rfl) rfl (HU (p:=e1) kr (Jo (y:= .sl 1 (c24.map cdS.enc)) (m:=1) (g:=false) hT36 kr kr kr))) ?_
    have hT37:=(hT36.front 1 rfl)
    refine Ac AC 0 rfl (DR (AB rfl) rfl (HU (p:=e29) kr (Jo (y:= .j c23) (m:=1) (g:=false) hT37 kr kr kr))) ?_;refine Ac AC 0 rfl (DR (AB rfl) rfl (AP (a:= .sl 1 (c24.map cdS.enc)) (b:= .j c23) kr kr (Di (e:=cdS.enc) (el:=9) (k:=1) (ki:= .i64) kr kr hv38))) ?_;refine Og (n:=141) AC 3 [(2,.sl 9 (x2.map AE.enc)),(4,e1),(8,e25),(9,e29),(10,.sl 5 (v28.map AA.enc)),(39,.sl 1 (x0.map (cdL 5 AA).enc)),(40,.j (x0.length:Int)),(41,.j c23),(51,.b (!(v38==[])))] hp33 kr ?_;rcases BE (!(v38==[])) with hc101 | hc101
    ·rw [if_pos hc101] at hj43
     rw [hc101]
     have hT39:=(hT37.front 1 rfl)
     refine Ac AC 0 rfl (DR kr rfl (HU (p:=e1) kr (Jo (y:= .sl 1 (c24.map cdS.enc)) (m:=1) (g:=false) hT39 kr kr kr))) ?_
     have hT40:=(hT39.front 1 rfl)
     refine Ac AC 0 rfl (DR kr rfl (HU (p:=e29) kr (Jo (y:= .j c23) (m:=1) (g:=false) hT40 kr kr kr))) ?_;obtain ⟨v41,hv41,hj43⟩:=OB hj43;refine Ac AC 0 rfl (DR kr rfl (AP (a:= .sl 1 (c24.map cdS.enc)) (b:= .j c23) kr kr (Di (e:=cdS.enc) (el:=9) (k:=1) (ki:= .i64) kr kr hv41))) ?_;refine Aj AC 1 ?_;obtain ⟨v42,hv42,hj43⟩:=OB hj43;refine GP (v:=v42) (caps:=[]) (xs:=[.st v41]) (u:=(v41,())) rfl rfl PT rfl kr kr kr (Br (Dy (c:=cdS) (v:=v41)) SeesD.nil) (.inl kr) hv42 ?_;refine Aj AC 2 ?_;have hq:=OI hj43; subst hq
     have hT54:=((hT40.front 2 rfl).front 2 rfl)
     exact BU rfl ⟨_,⟨hp33,hT54,rfl⟩,WkY.f1⟩
    ·rw [Bm hc101] at hj43
     rw [hc101];refine Aj AC 7 ?_;have hq:=OI hj43; subst hq
     have hT55:=((hT37.front 2 rfl).front 2 rfl)
     exact BU rfl ⟨_,⟨hp33,hT55,rfl⟩,WkY.f1⟩
   rintro _ ⟨hp56,hT57,rfl⟩;refine Bo (b:=j43) kr (fun hb58=>?_) (fun hb58=>?_)
   ·rw [if_pos hb58] at h
    refine Bf AC [(6,.e0),(7,.j 4)] ?_;refine SemY.ret ?_;have hq:=OI h; subst hq
    have hT60:=hT57.drop.drop.drop
    exact ⟨rfl,_,⟨hp56,hT60,rfl⟩,WkY.f1⟩
   ·rw [Bm hb58] at h
    refine SemY.skip ?_;refine AX ?_;refine AX ?_;refine Ln 8 AC.mixed kr kr ?_;refine RunDT.q (x:= .sl 1 (c24.map cdS.enc)) rfl kr rfl (AB rfl) rfl (HU (p:=e1) kr (Jo (y:= .sl 1 (c24.map cdS.enc)) (m:=1) (g:=false) hT57 kr kr kr)) (PA hT57 kr) ?_
    have hT61:=(hT57.front 2 rfl)
    refine RunDT.q (x:= .j c23) rfl kr rfl (AB rfl) rfl (HU (p:=e29) kr (Jo (y:= .j c23) (m:=1) (g:=false) hT61 kr kr kr)) (PA (hT57.front 2 rfl) kr) ?_;by_cases hk62:(KA 0 c23 c24.length)=true
    case neg=>rw [if_neg hk62] at h; cases h
    rw [if_pos hk62] at h;refine RunDT.q (x:= .sl 1 (((c24.take c23.toNat).drop (0:Int).toNat).map cdS.enc)) rfl kr rfl (AB rfl) rfl (NH (a:= .sl 1 (c24.map cdS.enc)) (l:=none) (u:=(some (.j c23))) (m:=none) kr kr kr rfl (Pe (xs:=c24) (e:=cdS.enc) (k:=1) (el:=9) (lo:=0) (hi:=c23) kr kr rfl (Tb (WJ hk62)) hk62)) kr ?_
    have hT63:=(hT61.front 1 rfl)
    refine RunDT.q (x:= .sl 1 (c24.map cdS.enc)) rfl kr rfl (AB rfl) rfl (HU (p:=e1) kr (Jo (y:= .sl 1 (c24.map cdS.enc)) (m:=1) (g:=false) hT63 kr kr kr)) (PA hT57 kr) ?_
    have hT64:=(hT63.front 1 rfl)
    refine RunDT.q (x:= .j c23) rfl kr rfl (AB rfl) rfl (HU (p:=e29) kr (Jo (y:= .j c23) (m:=1) (g:=false) hT64 kr kr kr)) (PA (hT57.front 2 rfl) kr) ?_;obtain ⟨v65,hv65,h⟩:=OB h;refine RunDT.q (x:= .pe (.st v65) 0) rfl kr rfl (AB rfl) rfl (AP (a:= .sl 1 (c24.map cdS.enc)) (b:= .j c23) kr kr (Di (e:=cdS.enc) (el:=9) (k:=1) (ki:= .i64) kr kr hv65)) kr ?_;refine RunDT.q (x:= .st v65) rfl kr rfl (AB rfl) rfl kr kr ?_;obtain ⟨v66,hv66,h⟩:=OB h;refine Ls (v:=v66) (caps:=[]) (xs:=[.sl 1 (((c24.take c23.toNat).drop (0:Int).toNat).map cdS.enc),.st v65]) (u:=(((c24.take c23.toNat).drop (0:Int).toNat),v65,())) rfl rfl Cr rfl (AB rfl) kr kr (Br (Dy (c:=(cdL 1 cdS)) (v:=((c24.take c23.toNat).drop (0:Int).toNat))) (Br (Dy (c:=cdS) (v:=v65)) SeesD.nil)) kr hv66 ?_;refine RunDT.done rfl (SemY.fr (l':=[(2,.sl 9 (x2.map AE.enc)),(4,e1),(8,e25),(9,e29),(10,.sl 5 (v28.map AA.enc)),(39,.sl 1 (x0.map (cdL 5 AA).enc)),(40,.j (x0.length:Int)),(41,.j c23),(66,.b v66)]) kr ?_);refine Bo (b:=v66) kr (fun hb67=>?_) (fun hb67=>?_)
    ·rw [if_pos hb67] at h
     refine Bf AC [(6,.e0),(7,.j 5)] ?_;refine SemY.ret ?_;have hq:=OI h; subst hq
     have hT68:=hT64.drop.drop.drop
     exact ⟨rfl,_,⟨hp56,hT68,rfl⟩,WkY.f1⟩
    ·rw [Bm hb67] at h
     refine SemY.skip ?_;refine AX ?_;refine AX ?_;refine AQ ?_;refine Aj AC 1 ?_;obtain ⟨v69,hv69,h⟩:=OB h;refine GP (v:=v69) (caps:=[]) (xs:=[.sl 5 (v28.map AA.enc)]) (u:=(v28,())) rfl rfl RD rfl (AB rfl) kr kr (Br (Dy (c:=(cdL 5 AA)) (v:=v28)) SeesD.nil) (.inl kr) hv69 ?_;refine B6 AC [(2,.sl 9 (x2.map AE.enc)),(4,e1),(8,e25),(9,e29),(10,.sl 5 (v28.map AA.enc)),(12,.j v69.2),(39,.sl 1 (x0.map (cdL 5 AA).enc)),(40,.j (x0.length:Int)),(41,.j c23)] ?_;refine Bf AC [(2,.sl 9 (x2.map AE.enc)),(4,e1),(8,e25),(9,e29),(10,.sl 5 (v28.map AA.enc)),(12,.j v69.2),(39,.sl 1 (x0.map (cdL 5 AA).enc)),(40,.j (x0.length:Int)),(41,.j c23),(73,.b (v69.2 != 0))] ?_;refine Bo (b:=(v69.2 != 0)) kr (fun hb70=>?_) (fun hb70=>?_)
     ·rw [if_pos hb70] at h
      refine Bf AC [(6,.e0),(7,.j v69.2)] ?_;refine SemY.ret ?_;have hq:=OI h; subst hq
      have hT71:=hT64.drop.drop.drop
      exact ⟨rfl,_,⟨hp56,hT71,rfl⟩,WkY.f1⟩
     ·rw [Bm hb70] at h
      refine SemY.skip ?_;refine AX ?_;refine AQ ?_;refine Aj AC 1 ?_;obtain ⟨v72,hv72,h⟩:=OB h;refine GP (v:=v72) (caps:=[]) (xs:=[.sl 5 (v28.map AA.enc)]) (u:=(v28,())) rfl rfl Up rfl (AB rfl) kr kr (Br (Dy (c:=(cdL 5 AA)) (v:=v28)) SeesD.nil) (.inr ⟨by kernel_rfl,Jd.de (v28,())⟩) hv72 ?_;refine B6 AC [(2,.sl 9 (x2.map AE.enc)),(4,e1),(8,e25),(9,e29),(13,.sl 1 (v72.1.map DW.enc)),(39,.sl 1 (x0.map (cdL 5 AA).enc)),(40,.j (x0.length:Int)),(41,.j c23)] ?_;refine AX ?_;refine AQ ?_;refine Aj AC 1 ?_;obtain ⟨v73,hv73,h⟩:=OB h;refine NP (E:=E0) (e:=E0) rfl rfl AC rfl rfl (fid:=79) (caps:=[]) (xs:=[.sl 9 (x2.map AE.enc)]) (fn:=Tryz.f79) (c:=Lv) (Out:=fun v h'=>∃ (z0:AV),v=z0/\T h' ((own_ (ocL 10 115 (ocV AG)) z0 v73)::(cel e29 1 3 (.j c23))::(cel e1 1 40 (.sl 1 (c24.map cdS.enc)))::(own_ (ocL 1 48 (ocV (cdL 1 cdI))) e25 c26)::L)) rfl (AB rfl) kr kr kr kr (by show 1<=21; decide) (SM x2 _ hv73 hT64) ?_;rintro xx hp75 ⟨e74,hqhp75,hT76⟩; subst xx;refine Aj AC 1 ?_;obtain ⟨v78,hv78,h⟩:=OB h
      have hT77:=(((hT76.front 1 rfl).front 2 rfl).front 2 rfl)
      refine NP (E:=E0) (e:=E0) rfl rfl AC rfl rfl (fid:=98) (caps:=[]) (xs:=[e74,.fn 99 [] [e1,e29]]) (fn:=Tryz.f98) (c:=CC) (Out:=fun v h'=>∃ (z0:AV),v=z0/\T h' ((cel e1 1 40 (.sl 1 (v78.1.map cdS.enc)))::(cel e29 1 3 (.j v78.2.1))::(own_ (ocL 10 115 (ocV AG)) z0 v78.2.2)::(own_ (ocL 1 48 (ocV (cdL 1 cdI))) e25 c26)::L)) rfl (AB rfl) kr kr kr kr (by show 2<=42; decide) (Gp e74 v73 e1 c24 e29 c23 _ hv78 hT77) ?_;rintro xx hp80 ⟨e79,hqhp80,hT81⟩; subst xx;refine B6 AC [(2,.sl 9 (x2.map AE.enc)),(4,e1),(8,e25),(13,.sl 1 (v72.1.map DW.enc)),(15,e79),(39,.sl 1 (x0.map (cdL 5 AA).enc)),(40,.j (x0.length:Int)),(41,.j c23)] ?_;refine AX ?_;refine AQ ?_;refine Aj AC 2 ?_
      have hT82:=(hT81.front 2 rfl)
      obtain ⟨hp83,hw84,hT85⟩:=Gw (E:=E0) (n:=141) (l:=[(2,.sl 9 (x2.map AE.enc)),(4,e1),(8,e25),(39,.sl 1 (x0.map (cdL 5 AA).enc)),(40,.j (x0.length:Int)),(41,.j c23),(85,.sl 1 (v72.1.map DW.enc)),(86,e79)]) (l':=[(2,.sl 9 (x2.map AE.enc)),(4,e1),(8,e25),(39,.sl 1 (x0.map (cdL 5 AA).enc)),(40,.j (x0.length:Int)),(41,.j c23),(85,.sl 1 (v72.1.map DW.enc)),(86,.sl 10 (v78.2.2.map AG.enc))]) hT82 ⟨⟨.sl 9 (x2.map AE.enc),kr,FzU.refl⟩,⟨e1,kr,FzU.refl⟩,⟨e25,kr,FzU.refl⟩,⟨.sl 1 (x0.map (cdL 5 AA).enc),kr,FzU.refl⟩,⟨.j (x0.length:Int),kr,FzU.refl⟩,⟨.j c23,kr,FzU.refl⟩,⟨.sl 1 (v72.1.map DW.enc),kr,FzU.refl⟩,⟨e79,kr,Gv⟩,trivial⟩;refine VH (WkY.trans WkY.f1 hw84) ?_;obtain ⟨v86,hv86,h⟩:=OB h;refine GP (v:=v86) (caps:=[]) (xs:=[.sl 1 (v72.1.map DW.enc),.sl 10 (v78.2.2.map AG.enc)]) (u:=(v72.1,v78.2.2,())) rfl rfl Uo rfl (AB rfl) kr kr (Br (Dy (c:=(cdL 1 DW)) (v:=v72.1)) (Br (Dy (c:=(cdL 10 AG)) (v:=v78.2.2)) SeesD.nil)) (.inr ⟨by kernel_rfl,L7.de (v72.1,v78.2.2,())⟩) hv86 ?_;obtain ⟨v87,hv87,h⟩:=OB h;refine GP (v:=v87) (caps:=[]) (xs:=[.sl 1 (v86.map (cdL 1 cdI).enc)]) (u:=(v86,())) rfl rfl W3 rfl (AB rfl) kr kr (Br (Dy (c:=(cdL 1 (cdL 1 cdI))) (v:=v86)) SeesD.nil) (.inr ⟨by kernel_rfl,Nk.de (v86,())⟩) hv87 ?_;refine B6 AC [(2,.sl 9 (x2.map AE.enc)),(4,e1),(8,e25),(16,.sl 1 (v87.1.map cdI.enc)),(17,.j v87.2),(39,.sl 1 (x0.map (cdL 5 AA).enc)),(40,.j (x0.length:Int)),(41,.j c23)] ?_;refine AX ?_;refine Bf AC [(2,.sl 9 (x2.map AE.enc)),(4,e1),(8,e25),(16,.sl 1 (v87.1.map cdI.enc)),(17,.j v87.2),(39,.sl 1 (x0.map (cdL 5 AA).enc)),(40,.j (x0.length:Int)),(41,.j c23),(92,.b (v87.2 != 0))] ?_;refine Bo (b:=(v87.2 != 0)) kr (fun hb88=>?_) (fun hb88=>?_)
      ·rw [if_pos hb88] at h
       refine Bf AC [(6,.e0),(7,.j v87.2)] ?_;refine SemY.ret ?_;have hq:=OI h; subst hq
       have hT89:=hT85.drop.drop.drop
       exact ⟨rfl,_,⟨hp83,hT89,rfl⟩,WkY.f1⟩
      ·rw [Bm hb88] at h
       refine SemY.skip ?_;refine AQ ?_;refine Aj AC 2 ?_;obtain ⟨e93,hp90,hb91,hT92⟩:=Iq (P:=Tryz.prog) (bytes:=24) (k:=1) (t:=48) (ty:=46) (xs:=([v87.1]:List (List Int))) (n:=1) (SS (k:=1) (fun _=>⟨rfl,rfl,rfl⟩)) (ID (c:=(cdL 1 cdI)) (xs:=([v87.1]:List (List Int))) hT85) rfl kr kr kr;refine Ac AC 0 rfl (Vh (AB rfl) rfl kr (Rj (xs:=Nr 0 [.sl 1 (v87.1.map cdI.enc)]) kr hb91)) ?_;by_cases hk98:(EK 24 (c26.length + ([v87.1]:List (List Int)).length))=true
       case neg=>rw [if_neg hk98] at h; cases h
       rw [if_pos hk98] at h
       have hT99:=((hT92.front 0 rfl).front 3 rfl)
       obtain ⟨e97,hp94,hb95,hT96⟩:=Ik (P:=Tryz.prog) (ty:=46) (ty2:=46) (bytes:=24) hT99 kr kr hk98;refine Ac AC 0 rfl (S4 (AB rfl) rfl kr kr (Dq (a:=e25) (b:=e93) kr kr hb95)) ?_;refine B6 AC [(2,.sl 9 (x2.map AE.enc)),(4,e1),(8,e97),(39,.sl 1 (x0.map (cdL 5 AA).enc)),(40,.j (x0.length:Int)),(41,.j c23)] ?_;refine AQ ?_;refine Aj AC 2 ?_;refine BU rfl ?_
       have hT100:=((hT96.front 2 rfl).drop.front 1 rfl)
       exact CJ WkY.f1 (ih0 (wr .i64 (c23 + 1)) v78.1 (c26++([v87.1]:List (List Int))) _ h e97 hp94 hT100)
  ·rw [Bm hb27] at h
   refine SemY.exit ?_;have hq:=OI h; subst hq;exact ⟨rfl,_,⟨e25,hp,hT,rfl⟩,WkY.f1⟩
theorem Ou {L:List Asn}{hp:Hp}(c112:Int) (c119:(List Int)) (v121:(List Int)) (x2:(List An)) (e1:AV) (e108:AV) (w107:(List (List UInt8))×(List (List Int))) (c117:Int) (e118:AV) (r:((List Int))) (h:Gx c112 c119 v121=some r) (hT:T hp ((own_ (ocL 1 48 (ocV (cdL 1 cdI))) e108 w107.2)::(cel e1 1 40 (.sl 1 (w107.1.map cdS.enc)))::(own_ (ocL 1 3 (ocV cdI)) e118 c119)::L)):SemY E0 ⟨none,false⟩ (pc EO [1,1,1,1,1,0,1,0,0,1,1,0,0,1,1,0,0,1,1,0,0,1,1]) ⟨Fr 141 [(2,.sl 9 (x2.map AE.enc)),(4,e1),(8,e108),(18,e118),(19,.j c112),(21,.sl 1 (v121.map cdI.enc)),(100,.j (x2.length:Int)),(101,.j c112),(104,e108),(105,.j (w107.2.length:Int)),(106,.j c117),(113,.b (decide (c112 < (v121.length:Int))))],hp⟩ (fun e s=>e = .normal/\∃ s2,(∃ (e135:AV) (h':Hp),T h' ((cel e1 1 40 (.sl 1 (w107.1.map cdS.enc)))::(own_ (ocL 1 48 (ocV (cdL 1 cdI))) e108 w107.2)::(own_ (ocL 1 3 (ocV cdI)) e135 r)::L)/\s2=⟨Fr 141 [(2,.sl 9 (x2.map AE.enc)),(4,e1),(8,e108),(18,e135),(19,.j c112),(100,.j (x2.length:Int)),(101,.j c112),(104,e108),(105,.j (w107.2.length:Int)),(106,.j c117)],h'⟩)/\WkY E0 s s2):=by
 unfold Gx at h;refine Bo (b:=(decide (c112 < (v121.length:Int)))) kr (fun hb123=>?_) (fun hb123=>?_)
 ·rw [if_pos hb123] at h
  refine AQ ?_;refine Aj AC 3 ?_;obtain ⟨v124,hv124,h⟩:=OB h;refine Ac AC 0 rfl (DR (AB rfl) rfl (AP (a:= .sl 1 (v121.map cdI.enc)) (b:= .j c112) kr kr (Di (e:=cdI.enc) (el:=3) (k:=1) (ki:= .i64) kr kr hv124))) ?_;refine Aj AC 1 ?_;obtain ⟨e128,hp125,hb126,hT127⟩:=Iq (P:=Tryz.prog) (bytes:=8) (k:=1) (t:=3) (ty:=48) (xs:=([v124]:List Int)) (n:=1) (SS (k:=1) (fun _=>⟨rfl,rfl,rfl⟩)) (ID (c:=cdI) (xs:=([v124]:List Int)) hT) rfl kr kr kr;refine Ac AC 0 rfl (Vh (AB rfl) rfl kr (Rj (xs:=Nr 0 [.j v124]) kr hb126)) ?_;by_cases hk133:(EK 8 (c119.length + ([v124]:List Int).length))=true
  case neg=>rw [if_neg hk133] at h; cases h
  rw [if_pos hk133] at h
  have hT134:=((hT127.front 0 rfl).front 3 rfl)
  obtain ⟨e132,hp129,hb130,hT131⟩:=Ik (P:=Tryz.prog) (ty:=48) (ty2:=48) (bytes:=8) hT134 kr kr hk133;refine Ac AC 0 rfl (S4 (AB rfl) rfl kr kr (Dq (a:=e118) (b:=e128) kr kr hb130)) ?_;refine Aj AC 1 ?_;refine BU rfl ?_;have hq:=OI h; subst hq
  have hT137:=((hT131.front 1 rfl).front 2 rfl)
  exact ⟨rfl,_,⟨e132,hp129,hT137,rfl⟩,WkY.f1⟩
 ·rw [Bm hb123] at h
  refine SemY.skip ?_;have hq:=OI h; subst hq
  have hT138:=(((hT.front 2 rfl).front 1 rfl).front 2 rfl)
  exact ⟨rfl,_,⟨e118,hp,hT138,rfl⟩,WkY.f1⟩
theorem Ox {L:List Asn}(w107:(List (List UInt8))×(List (List Int))) (c112:Int) (x2:(List An)) (e1:AV) (e108:AV):∀ (f:Nat) (c117:Int) (c119:(List Int)) (r:((List Int))),Cu w107 c112 f c117 c119=some r->∀ (e118:AV) (hp:Hp),T hp ((cel e1 1 40 (.sl 1 (w107.1.map cdS.enc)))::(own_ (ocL 1 48 (ocV (cdL 1 cdI))) e108 w107.2)::(own_ (ocL 1 3 (ocV cdI)) e118 c119)::L)->SemYN E0 ⟨none,false⟩ (pc EO [1,1,1,1,1,0,1,0,0,1,1,0,0,1,1,0,0]) f ⟨Fr 141 [(2,.sl 9 (x2.map AE.enc)),(4,e1),(8,e108),(18,e118),(19,.j c112),(100,.j (x2.length:Int)),(101,.j c112),(104,e108),(105,.j (w107.2.length:Int)),(106,.j c117)],hp⟩ (fun e s=>e=(.exit 5)/\∃ s2,(∃ (e143:AV) (h':Hp),T h' ((cel e1 1 40 (.sl 1 (w107.1.map cdS.enc)))::(own_ (ocL 1 48 (ocV (cdL 1 cdI))) e108 w107.2)::(own_ (ocL 1 3 (ocV cdI)) e143 r)::L)/\s2=⟨Fr 141 [(2,.sl 9 (x2.map AE.enc)),(4,e1),(8,e108),(18,e143),(100,.j (x2.length:Int)),(101,.j c112)],h'⟩)/\WkY E0 s s2):=by
 intro f;induction f with
 | zero=>intro c117 c119 r h; cases h
 | succ f ih0 =>
  intro c117 c119 r h e118 hp hT;unfold Cu at h;refine D2 ?_
  let p1:Nat×AV:=(106,.j c117)
  let p2:Nat×AV:=(105,.j (w107.2.length:Int))
  let p3:Nat×AV:=(101,.j c112)
  let p4:Nat×AV:=(100,.j (x2.length:Int))
  let p5:Nat×AV:=(19,.j c112)
  let p6:Nat×AV:=(2,.sl 9 (x2.map AE.enc))
  refine Bf AC [p6,(4,e1),(8,e108),(18,e118),p5,p4,p3,(104,e108),p2,p1,(107,.b (decide (c117 < (w107.2.length:Int))))] ?_;refine AX ?_;refine Bo (b:=(decide (c117 < (w107.2.length:Int)))) kr (fun hb120=>?_) (fun hb120=>?_)
  ·rw [if_pos hb120] at h
   refine SemY.skip ?_;refine AX ?_;refine BZ ?_;refine AX ?_;refine AQ ?_;obtain ⟨v121,hv121,h⟩:=OB h
   have hT122:=(hT.front 1 rfl)
   refine Ac AC 0 rfl (DR (AB rfl) rfl (AP (a:=e108) (b:= .j c117) kr kr (W8 (bytes:=24) hT122 kr hv121))) ?_;refine Ac AC 0 rfl (DR (AB rfl) rfl (HU (p:=eAt e108 c117.toNat) kr (MN (y:= .sl 1 (v121.map cdI.enc)) (m:=1) (g:=false) hT122 (H6 hv121).2 kr kr kr))) ?_;refine B6 AC [p6,(4,e1),(8,e108),(18,e118),p5,(21,.sl 1 (v121.map cdI.enc)),p4,p3,(104,e108),p2,p1] ?_;refine AX ?_;refine AQ ?_;refine Aj AC 2 ?_;refine Ac AC 0 rfl (DR (AB rfl) rfl (C3 (a:= .sl 1 (v121.map cdI.enc)) kr (Bn (el:=3) kr))) ?_;refine B6 AC [p6,(4,e1),(8,e108),(18,e118),p5,(21,.sl 1 (v121.map cdI.enc)),p4,p3,(104,e108),p2,p1,(113,.b (decide (c112 < (v121.length:Int))))] ?_;obtain ⟨r139,hr139,h⟩:=OB h;refine I0 (Ou c112 c119 v121 x2 e1 e108 w107 c117 e118 _ hr139 hT122) ?_;rintro _ ⟨e140,hp141,hT142,rfl⟩;refine AQ ?_;refine Aj AC 2 ?_;refine BU rfl ?_;exact CJ WkY.f1 (ih0 (wr .i64 (c117 + 1)) r139 _ h e140 hp141 hT142)
  ·rw [Bm hb120] at h
   refine SemY.exit ?_;have hq:=OI h; subst hq;exact ⟨rfl,_,⟨e118,hp,hT,rfl⟩,WkY.f1⟩
theorem Ow {L:List Asn}(x2:(List An)) (w107:(List (List UInt8))×(List (List Int))) (e1:AV) (e108:AV):∀ (f:Nat) (c112:Int) (c114:(List Int)) (r:((List Int))),Ct x2 w107 f c112 c114=some r->∀ (e113:AV) (hp:Hp),T hp ((cel e1 1 40 (.sl 1 (w107.1.map cdS.enc)))::(own_ (ocL 1 48 (ocV (cdL 1 cdI))) e108 w107.2)::(own_ (ocL 1 3 (ocV cdI)) e113 c114)::L)->SemYN E0 ⟨none,false⟩ (pc EO [1,1,1,1,1,0,1,0,0]) f ⟨Fr 141 [(2,.sl 9 (x2.map AE.enc)),(4,e1),(8,e108),(18,e113),(100,.j (x2.length:Int)),(101,.j c112)],hp⟩ (fun e s=>e=(.exit 3)/\∃ s2,(∃ (e150:AV) (h':Hp),T h' ((cel e1 1 40 (.sl 1 (w107.1.map cdS.enc)))::(own_ (ocL 1 3 (ocV cdI)) e150 r)::L)/\s2=⟨Fr 141 [(2,.sl 9 (x2.map AE.enc)),(4,e1),(18,e150)],h'⟩)/\WkY E0 s s2):=by
 intro f;induction f with
 | zero=>intro c112 c114 r h; cases h
 | succ f ih0 =>
  intro c112 c114 r h e113 hp hT;unfold Ct at h;refine D2 ?_
  let p1:Nat×AV:=(101,.j c112)
  let p2:Nat×AV:=(100,.j (x2.length:Int))
  let p3:Nat×AV:=(2,.sl 9 (x2.map AE.enc))
  refine Bf AC [p3,(4,e1),(8,e108),(18,e113),p2,p1,(102,.b (decide (c112 < (x2.length:Int))))] ?_;refine AX ?_;refine Bo (b:=(decide (c112 < (x2.length:Int)))) kr (fun hb115=>?_) (fun hb115=>?_)
  ·rw [if_pos hb115] at h
   refine SemY.skip ?_;refine AX ?_;refine BZ ?_;refine Bf AC [p3,(4,e1),(8,e108),(18,e113),(19,.j c112),p2,p1] ?_;refine AX ?_;refine AQ ?_;refine Aj AC 1 ?_
   have hT116:=(hT.front 1 rfl)
   refine Ac AC 0 rfl (DR (AB rfl) rfl (C3 (a:=e108) kr (We hT116 kr))) ?_;refine B6 AC [p3,(4,e1),(8,e108),(18,e113),(19,.j c112),p2,p1,(104,e108),(105,.j (w107.2.length:Int)),(106,.j 0)] ?_;refine BZ ?_
   have hT145:=(((hT116.front 2 rfl).front 1 rfl).front 2 rfl)
   refine SemY.loop (n:=100000) ?_;obtain ⟨r146,hr146,h⟩:=OB h;refine DT (CJ WkY.f1 (Ox w107 c112 x2 e1 e108 _ 0 c114 _ hr146 e113 hp hT145)) ?_;rintro _ ⟨e147,hp148,hT149,rfl⟩;refine AQ ?_;refine Aj AC 2 ?_;refine BU rfl ?_;exact CJ WkY.f1 (ih0 (wr .i64 (c112 + 1)) r146 _ h e147 hp148 hT149)
  ·rw [Bm hb115] at h
   refine SemY.exit ?_;have hq:=OI h; subst hq
   have hT152:=(hT.front 1 rfl).drop
   exact ⟨rfl,_,⟨e113,hp,hT152,rfl⟩,WkY.f1⟩
theorem Ov {L:List Asn}{hp:Hp}(c158:Int) (c160:(List Int)) (v172:Bool) (x2:(List An)) (e1:AV) (w107:(List (List UInt8))×(List (List Int))) (e159:AV) (v162:An) (e163:AV) (r:((List Int))) (h:Gy c158 c160 v172=some r) (hT:T hp ((cel e163 9 42 (AE.enc v162))::(cel e1 1 40 (.sl 1 (w107.1.map cdS.enc)))::(own_ (ocL 1 3 (ocV cdI)) e159 c160)::L)):SemY E0 ⟨none,false⟩ (pc EO [1,1,1,1,1,1,0,1,0,0,1,1,0,0,1,1]) ⟨Fr 141 [(4,e1),(18,e159),(22,.j c158),(123,.sl 9 (x2.map AE.enc)),(124,.j (x2.length:Int)),(125,.j c158),(134,.b (!v172))],hp⟩ (fun e s=>e = .normal/\∃ s2,(∃ (e184:AV) (h':Hp),T h' ((cel e1 1 40 (.sl 1 (w107.1.map cdS.enc)))::(own_ (ocL 1 3 (ocV cdI)) e184 r)::L)/\s2=⟨Fr 141 [(4,e1),(18,e184),(123,.sl 9 (x2.map AE.enc)),(124,.j (x2.length:Int)),(125,.j c158)],h'⟩)/\WkY E0 s s2):=by
 unfold Gy at h;refine Bo (b:=(!v172)) kr (fun hb173=>?_) (fun hb173=>?_)
 ·rw [if_pos hb173] at h
  refine AQ ?_;refine Aj AC 2 ?_;obtain ⟨e177,hp174,hb175,hT176⟩:=Iq (P:=Tryz.prog) (bytes:=8) (k:=1) (t:=3) (ty:=48) (xs:=([c158]:List Int)) (n:=1) (SS (k:=1) (fun _=>⟨rfl,rfl,rfl⟩)) (ID (c:=cdI) (xs:=([c158]:List Int)) hT) rfl kr kr kr;refine Ac AC 0 rfl (Vh (AB rfl) rfl kr (Rj (xs:=Nr 0 [.j c158]) kr hb175)) ?_;by_cases hk182:(EK 8 (c160.length + ([c158]:List Int).length))=true
  case neg=>rw [if_neg hk182] at h; cases h
  rw [if_pos hk182] at h
  have hT183:=((hT176.front 0 rfl).front 3 rfl)
  obtain ⟨e181,hp178,hb179,hT180⟩:=Ik (P:=Tryz.prog) (ty:=48) (ty2:=48) (bytes:=8) hT183 kr kr hk182;refine Ac AC 0 rfl (S4 (AB rfl) rfl kr kr (Dq (a:=e159) (b:=e177) kr kr hb179)) ?_;refine Aj AC 1 ?_;refine BU rfl ?_;have hq:=OI h; subst hq
  have hT186:=((hT180.front 1 rfl).drop.front 1 rfl)
  exact ⟨rfl,_,⟨e181,hp178,hT186,rfl⟩,WkY.f1⟩
 ·rw [Bm hb173] at h
  refine SemY.skip ?_;have hq:=OI h; subst hq
  have hT187:=hT.drop
  exact ⟨rfl,_,⟨e159,hp,hT187,rfl⟩,WkY.f1⟩
theorem Oy {L:List Asn}(x2:(List An)) (w107:(List (List UInt8))×(List (List Int))) (e1:AV):∀ (f:Nat) (c158:Int) (c160:(List Int)) (r:((List Int))),Cv x2 w107 f c158 c160=some r->∀ (e159:AV) (hp:Hp),T hp ((cel e1 1 40 (.sl 1 (w107.1.map cdS.enc)))::(own_ (ocL 1 3 (ocV cdI)) e159 c160)::L)->SemYN E0 ⟨none,false⟩ (pc EO [1,1,1,1,1,1,0,1,0,0]) f ⟨Fr 141 [(4,e1),(18,e159),(123,.sl 9 (x2.map AE.enc)),(124,.j (x2.length:Int)),(125,.j c158)],hp⟩ (fun e s=>e=(.exit 7)/\∃ s2,(∃ (e192:AV) (h':Hp),T h' ((own_ (ocL 1 3 (ocV cdI)) e192 r)::L)/\s2=⟨Fr 141 [(18,e192)],h'⟩)/\WkY E0 s s2):=by
 intro f;induction f with
 | zero=>intro c158 c160 r h; cases h
 | succ f ih0 =>
  intro c158 c160 r h e159 hp hT;unfold Cv at h;refine D2 ?_
  let p1:Nat×AV:=(125,.j c158)
  let p2:Nat×AV:=(124,.j (x2.length:Int))
  let p3:Nat×AV:=(123,.sl 9 (x2.map AE.enc))
  refine Bf AC [(4,e1),(18,e159),p3,p2,p1,(126,.b (decide (c158 < (x2.length:Int))))] ?_;refine AX ?_;refine Bo (b:=(decide (c158 < (x2.length:Int)))) kr (fun hb161=>?_) (fun hb161=>?_)
  ·rw [if_pos hb161] at h
   refine SemY.skip ?_;refine AX ?_;refine BZ ?_;refine AX ?_;refine AQ ?_;refine Aj AC 1 ?_;obtain ⟨v162,hv162,h⟩:=OB h;refine Ac AC 0 rfl (DR (AB rfl) rfl (AP (a:= .sl 9 (x2.map AE.enc)) (b:= .j c158) kr kr (Di (e:=AE.enc) (el:=42) (k:=9) (ki:= .i64) kr kr hv162))) ?_;refine Aj AC 1 ?_;obtain ⟨e163,hp164,hb165,hT166⟩:=P6 (t:=42) (a:= .ag [.st [],.st [],.st [],.j 0,.j 0,.st [],.b false,.b false,.e0]) hT kr;refine Ac AC 0 rfl (Vh (AB rfl) rfl kr (Ta (z:= .ag [.st [],.st [],.st [],.j 0,.j 0,.st [],.b false,.b false,.e0]) kr hb165)) ?_;refine Aj AC 1 ?_;obtain ⟨hp167,hs168,hT169⟩:=Tj (P:=Tryz.prog) (ty:=42) (y:=(AE.enc v162)) (a':=(AE.enc v162)) hT166 kr kr kr;refine RunL.store AC (y:=e163) (z:=(AE.enc v162)) rfl (AB rfl) kr kr hs168 ?_;refine BU rfl (SemY.fr (l':=[(4,e1),(18,e159),(22,.j c158),(23,e163),p3,p2,p1]) kr ?_);refine AX ?_;refine AQ ?_
   have hT170:=(hT169.front 1 rfl)
   refine Ac AC 0 rfl (DR (AB rfl) rfl (HU (p:=e1) kr (Jo (y:= .sl 1 (w107.1.map cdS.enc)) (m:=1) (g:=false) hT170 kr kr kr))) ?_
   have hT171:=(hT170.front 1 rfl)
   refine Ac AC 0 rfl (DR (AB rfl) rfl (AEH (a:=e163) kr (ABY (off:=2) hT171 kr))) ?_;refine Ac AC 0 rfl (DR (AB rfl) rfl (HU (p:=Vk e163 2) kr (Zg (off:=2) (y:= .st v162.2.2.1) (m:=1) (g:=false) hT171 kr kr kr))) ?_;obtain ⟨v172,hv172,h⟩:=OB h;refine GP (v:=v172) (caps:=[]) (xs:=[.sl 1 (w107.1.map cdS.enc),.st v162.2.2.1]) (u:=(w107.1,v162.2.2.1,())) rfl rfl Cr rfl (AB rfl) kr kr (Br (Dy (c:=(cdL 1 cdS)) (v:=w107.1)) (Br (Dy (c:=cdS) (v:=v162.2.2.1)) SeesD.nil)) (.inl kr) hv172 ?_;refine B6 AC [(4,e1),(18,e159),(22,.j c158),p3,p2,p1,(134,.b (!v172))] ?_;obtain ⟨r188,hr188,h⟩:=OB h;refine I0 (Ov c158 c160 v172 x2 e1 w107 e159 v162 e163 _ hr188 hT171) ?_;rintro _ ⟨e189,hp190,hT191,rfl⟩;refine AQ ?_;refine Aj AC 2 ?_;refine BU rfl ?_;exact CJ WkY.f1 (ih0 (wr .i64 (c158 + 1)) r188 _ h e189 hp190 hT191)
  ·rw [Bm hb161] at h
   refine SemY.exit ?_;have hq:=OI h; subst hq
   have hT194:=hT.drop
   exact ⟨rfl,_,⟨e159,hp,hT194,rfl⟩,WkY.f1⟩
theorem QA {L:List Asn}{hp:Hp}(x0:(List (List AF))) (x1:(List (List UInt8))) (x2:(List An)) (r:(List Int)×Int) (h:GX x0 x1 x2=some r) (hT:T hp (L)):SemY E0 ⟨none,false⟩ EO ⟨Fr 141 (A6 0 [.sl 1 (x0.map (cdL 5 AA).enc),.sl 1 (x1.map cdS.enc),.sl 9 (x2.map AE.enc)]),hp⟩ fun x s'=>(x = .normal\/x = .ret)/\∃ ys,EZ E0.P s'.fr s'.hp Tryz.f39.results.toList=some ys/\(fun v h'=>v = .tp [.sl 1 (r.1.map cdI.enc),.j r.2]/\T h' (L)) (Ee ys) s'.hp:=by
 unfold GX at h;refine KO (Lt (s1:=⟨Fr 141 [(0,.sl 1 (x0.map (cdL 5 AA).enc)),(1,.sl 1 (x1.map cdS.enc)),(2,.sl 9 (x2.map AE.enc))],hp⟩) WkY.f1 ?_);refine AX ?_;refine AQ ?_;obtain ⟨e1,hp2,hb3,hT4⟩:=P6 (t:=40) (a:= .sl 1 (x1.map cdS.enc)) hT kr;refine Ac AC 0 rfl (Vh (AB rfl) rfl kr (AEC (z:= .sl 1 (x1.map cdS.enc)) kr hb3)) ?_;refine B6 AC [(0,.sl 1 (x0.map (cdL 5 AA).enc)),(2,.sl 9 (x2.map AE.enc)),(4,e1)] ?_;refine AX ?_;refine BZ ?_;refine AX ?_;obtain ⟨j5,hj5,h⟩:=OB h;refine QV (A:=fun s1=>∃ (h':Hp),T h' ((cel e1 1 40 (.sl 1 (x1.map cdS.enc)))::L)/\s1=⟨Fr 141 [(0,.sl 1 (x0.map (cdL 5 AA).enc)),(2,.sl 9 (x2.map AE.enc)),(4,e1),(24,.b j5)],h'⟩) ?_ ?_
 ·refine Aj AC 1 ?_
  refine Ac AC 0 rfl (DR (AB rfl) rfl (C3 (a:= .sl 1 (x0.map (cdL 5 AA).enc)) kr (Bn (el:=22) kr))) ?_;refine Og (n:=141) AC 2 [(0,.sl 1 (x0.map (cdL 5 AA).enc)),(2,.sl 9 (x2.map AE.enc)),(4,e1),(28,.b (decide ((x0.length:Int) > 16)))] hp2 kr ?_;rcases BE (decide ((x0.length:Int) > 16)) with hc209 | hc209
  ·rw [if_pos hc209] at hj5
   rw [hc209];refine Aj AC 5 ?_;have hq:=OI hj5; subst hq;exact BU rfl ⟨_,⟨hp2,hT4,rfl⟩,WkY.f1⟩
  ·rw [Bm hc209] at hj5
   rw [hc209];refine Aj AC 1 ?_;refine Ac AC 0 rfl (DR kr rfl (C3 (a:= .sl 9 (x2.map AE.enc)) kr (Bn (el:=42) kr))) ?_;refine Aj AC 3 ?_;have hq:=OI hj5; subst hq;exact BU rfl ⟨_,⟨hp2,hT4,rfl⟩,WkY.f1⟩
 rintro _ ⟨hp10,hT11,rfl⟩;refine Bo (b:=j5) kr (fun hb12=>?_) (fun hb12=>?_)
 ·rw [if_pos hb12] at h
  refine Bf AC [(6,.e0),(7,.j 7)] ?_;refine SemY.ret ?_;have hq:=OI h; subst hq
  have hT13:=(T.e0 (k:=1) (ty:=3) (o:=(ocV cdI)) hT11)
  obtain ⟨hp14,hw15,hT16⟩:=Gw (E:=E0) (n:=141) (l:=[(6,.e0),(7,.j 7)]) (l':=[(6,.sl 1 (([]:(List Int)).map cdI.enc)),(7,.j 7)]) hT13 ⟨⟨.e0,kr,Gv⟩,⟨.j 7,kr,FzU.refl⟩,trivial⟩;exact ⟨⟨Fr 141 [(6,.sl 1 (([]:(List Int)).map cdI.enc)),(7,.j 7)],hp14⟩,(WkY.trans (WkY.trans WkY.f1 hw15) WkY.f1),.inr rfl,[.sl 1 (([]:(List Int)).map cdI.enc),.j 7],kr,⟨rfl,hT16.drop⟩⟩
 ·rw [Bm hb12] at h
  refine AX ?_;refine AQ ?_;refine Aj AC 1 ?_;refine Ac AC 0 rfl (DR (AB rfl) rfl (C3 (a:= .sl 1 (x0.map (cdL 5 AA).enc)) kr (Bn (el:=22) kr))) ?_;refine Ac AC 0 rfl (DR (AB rfl) rfl (HU (p:=e1) kr (Jo (y:= .sl 1 (x1.map cdS.enc)) (m:=1) (g:=false) hT11 kr kr kr))) ?_;refine Ac AC 0 rfl (DR (AB rfl) rfl (C3 (a:= .sl 1 (x1.map cdS.enc)) kr (Bn (el:=9) kr))) ?_;refine B6 AC [(0,.sl 1 (x0.map (cdL 5 AA).enc)),(2,.sl 9 (x2.map AE.enc)),(4,e1),(33,.b ((x0.length:Int)!=(x1.length:Int)))] ?_;refine Bo (b:=((x0.length:Int)!=(x1.length:Int))) kr (fun hb17=>?_) (fun hb17=>?_)
  ·rw [if_pos hb17] at h
   refine Bf AC [(6,.e0),(7,.j 2)] ?_;refine SemY.ret ?_;have hq:=OI h; subst hq
   have hT18:=(T.e0 (k:=1) (ty:=3) (o:=(ocV cdI)) hT11)
   obtain ⟨hp19,hw20,hT21⟩:=Gw (E:=E0) (n:=141) (l:=[(6,.e0),(7,.j 2)]) (l':=[(6,.sl 1 (([]:(List Int)).map cdI.enc)),(7,.j 2)]) hT18 ⟨⟨.e0,kr,Gv⟩,⟨.j 2,kr,FzU.refl⟩,trivial⟩;exact ⟨⟨Fr 141 [(6,.sl 1 (([]:(List Int)).map cdI.enc)),(7,.j 2)],hp19⟩,(WkY.trans (WkY.trans WkY.f1 hw20) WkY.f1),.inr rfl,[.sl 1 (([]:(List Int)).map cdI.enc),.j 2],kr,⟨rfl,hT21.drop⟩⟩
  ·rw [Bm hb17] at h
   refine SemY.skip ?_;refine Bf AC [(0,.sl 1 (x0.map (cdL 5 AA).enc)),(2,.sl 9 (x2.map AE.enc)),(4,e1),(8,.e0)] ?_;refine AX ?_;refine AX ?_;refine AQ ?_;refine Aj AC 1 ?_;refine Ac AC 0 rfl (DR (AB rfl) rfl (C3 (a:= .sl 1 (x0.map (cdL 5 AA).enc)) kr (Bn (el:=22) kr))) ?_;refine B6 AC [(2,.sl 9 (x2.map AE.enc)),(4,e1),(8,.e0),(39,.sl 1 (x0.map (cdL 5 AA).enc)),(40,.j (x0.length:Int)),(41,.j 0)] ?_;refine BZ ?_
   have hT22:=(T.e0 (k:=1) (ty:=48) (o:=(ocV (cdL 1 cdI))) hT11)
   have hT105:=(hT22.front 1 rfl)
   refine SemY.loop (n:=100000) ?_;obtain ⟨r106,hr106,h⟩:=OB h;rcases r106 with w107 | w202
   ·try dsimp only at h
    refine DT (CJ WkY.f1 (KS x0 x2 e1 _ 0 x1 ([]:(List (List Int))) _ hr106 .e0 hp10 hT105)) ?_;rintro _ ⟨e108,hp109,hT110,rfl⟩;refine Bf AC [(2,.sl 9 (x2.map AE.enc)),(4,e1),(8,e108),(18,.e0)] ?_;refine AX ?_;refine AX ?_;refine AQ ?_;refine Aj AC 1 ?_;refine Ac AC 0 rfl (DR (AB rfl) rfl (C3 (a:= .sl 9 (x2.map AE.enc)) kr (Bn (el:=42) kr))) ?_;refine B6 AC [(2,.sl 9 (x2.map AE.enc)),(4,e1),(8,e108),(18,.e0),(100,.j (x2.length:Int)),(101,.j 0)] ?_;refine BZ ?_
    have hT111:=(T.e0 (k:=1) (ty:=3) (o:=(ocV cdI)) hT110)
    have hT153:=((hT111.front 2 rfl).front 2 rfl)
    refine SemY.loop (n:=100000) ?_;obtain ⟨r154,hr154,h⟩:=OB h;refine DT (CJ WkY.f1 (Ow x2 w107 e1 e108 _ 0 ([]:(List Int)) _ hr154 .e0 hp109 hT153)) ?_;rintro _ ⟨e155,hp156,hT157,rfl⟩;refine AX ?_;refine AX ?_;refine AQ ?_;refine Aj AC 1 ?_;refine Ac AC 0 rfl (DR (AB rfl) rfl (C3 (a:= .sl 9 (x2.map AE.enc)) kr (Bn (el:=42) kr))) ?_;refine B6 AC [(4,e1),(18,e155),(123,.sl 9 (x2.map AE.enc)),(124,.j (x2.length:Int)),(125,.j 0)] ?_;refine BZ ?_;refine SemY.loop (n:=100000) ?_;obtain ⟨r195,hr195,h⟩:=OB h;refine DT (CJ WkY.f1 (Oy x2 w107 e1 _ 0 r154 _ hr195 e155 hp156 hT157)) ?_;rintro _ ⟨e196,hp197,hT198,rfl⟩;refine Bf AC [(6,e196),(7,.j 0)] ?_;refine SemY.ret ?_;have hq:=OI h; subst hq;obtain ⟨hp199,hw200,hT201⟩:=Gw (E:=E0) (n:=141) (l:=[(6,e196),(7,.j 0)]) (l':=[(6,.sl 1 (r195.map cdI.enc)),(7,.j 0)]) hT198 ⟨⟨e196,kr,Gv⟩,⟨.j 0,kr,FzU.refl⟩,trivial⟩;exact ⟨⟨Fr 141 [(6,.sl 1 (r195.map cdI.enc)),(7,.j 0)],hp199⟩,(WkY.trans (WkY.trans WkY.f1 hw200) WkY.f1),.inr rfl,[.sl 1 (r195.map cdI.enc),.j 0],kr,⟨rfl,hT201⟩⟩
   ·try dsimp only at h
    refine DT (CJ WkY.f1 (KS x0 x2 e1 _ 0 x1 ([]:(List (List Int))) _ hr106 .e0 hp10 hT105)) ?_;rintro _ ⟨hp203,hT204,rfl⟩;have hq:=OI h; subst hq
    have hT205:=(T.e0 (k:=1) (ty:=3) (o:=(ocV cdI)) hT204)
    obtain ⟨hp206,hw207,hT208⟩:=Gw (E:=E0) (n:=141) (l:=[(6,.e0),(7,.j w202)]) (l':=[(6,.sl 1 (([]:(List Int)).map cdI.enc)),(7,.j w202)]) hT205 ⟨⟨.e0,kr,Gv⟩,⟨.j w202,kr,FzU.refl⟩,trivial⟩;exact ⟨⟨Fr 141 [(6,.sl 1 (([]:(List Int)).map cdI.enc)),(7,.j w202)],hp206⟩,(WkY.trans (WkY.trans WkY.f1 hw207) WkY.f1),.inr rfl,[.sl 1 (([]:(List Int)).map cdI.enc),.j w202],kr,⟨rfl,hT208⟩⟩
noncomputable def Ml:Cs ((List (List AF))×(List (List UInt8))×(List An)×Unit):=(csC (cdL 1 (cdL 5 AA)) (csC (cdL 1 cdS) (csC (cdL 9 AE) csN)))
noncomputable def Mo (r:(List Int)×Int):AV:= .tp [(cdL 1 cdI).enc r.1,cdI.enc r.2]
noncomputable def Rs:List AV->Option AV:=ES Ml (fun a=>GX a.1 a.2.1 a.2.2.1) Mo
theorem R4:XOk 39 Rs:=by
 refine AU Tryz.func39 (c:=EO) ?h2 ⟨Tryz.call39⟩ Ml (fun a=>GX a.1 a.2.1 a.2.2.1) Mo (fun a=>(by show 3<=141; decide)) ?h3 ?h4
 case h2=>kernel_rfl
 case h3=>intro b; kernel_rfl
 case h4 =>
  intro a b h;refine Sem.mono (TC (QA (L:=[]) (hp:=[]) a.1 a.2.1 a.2.2.1 b h T.nil)) fun e s' hs=>?_
  obtain ⟨h1,ys,h2,h3,-⟩:=hs;exact ⟨h1,ys,h2,h3⟩
/- trestle/trestlekit.Name -/
noncomputable def P8:Code:=BL Tryz.f141
def IY (x0:(List UInt8)):Nat->Int->Option ((Unit) ⊕ (Bool))
 | 0,_=>none
 | f + 1,c4 =>
  if (decide (c4 < (x0.length:Int)))=true then
  (idx x0 c4).bind fun v6 =>
  (if (decide ((v6.toNat:Int) < 97))=true then some true else (idx x0 c4).bind fun v7 =>
  some (decide ((v7.toNat:Int) > 122))).bind fun j9 =>
  if j9=true then
  some (.inr false)
  else
  IY x0 f (wr .i64 (c4 + 1))
  else
  some (.inl ())
def Lh (x0:(List UInt8)):Option (Bool) :=
 (if (decide ((x0.length:Int) < 1))=true then some true else some (decide ((x0.length:Int) > 12))).bind fun j2 =>
 if j2=true then
 some false
 else
 (IY x0 100000 0).bind fun r13 =>
 match r13 with
 | (.inl w14) =>
  some true
 | (.inr w15) =>
  some w15
def QE:Cs ((List UInt8)×Unit):=(csC cdS csN)
def QF (r:Bool):AV:=cdB.enc r
theorem Pz (x0:(List UInt8)):∀ (f:Nat) (c4:Int) (r:(Unit) ⊕ (Bool)),IY x0 f c4=some r->SemN E0 ⟨none,false⟩ (pc P8 [1,1,0,1,0,0]) f ⟨Fr 28 [(0,.st x0),(3,.j c4)],[]⟩ (fun e s=>match r with
 | (.inl w)=>e=(.exit 0)/\Wk E0 s ⟨Fr 28 [],[]⟩
 | (.inr w)=>e = .ret/\Wk E0 s ⟨Fr 28 [(2,.b w)],[]⟩):=by
 intro f;induction f with
 | zero=>intro c4 r h; cases h
 | succ f ih0 =>
  intro c4 r h
  have ih:=fun (c4:Int)=>ih0 c4 r
  unfold IY at h;refine CI ?_;refine AH ?_;refine AK AC [(0,.st x0),(3,.j c4),(15,.b (decide (c4 < (x0.length:Int))))] [] ?_;refine AT (b:=(decide (c4 < (x0.length:Int)))) kr (fun hb5=>?_) (fun hb5=>?_)
  ·rw [if_pos hb5] at h
   refine AY ?_;refine AH ?_;refine Al ?_;refine AH ?_;obtain ⟨v6,hv6,h⟩:=OB h;obtain ⟨j9,hj9,h⟩:=OB h;refine AM (s1:=⟨Fr 28 [(0,.st x0),(3,.j c4),(27,.b j9)],[]⟩) ?_ ?_
   ·refine AD (n:=28) AC 2 [(0,.st x0),(3,.j c4),(18,.st x0),(19,.j c4)] [] kr ?_
    refine AZ AC 0 rfl (DR (AB rfl) rfl (Vl (a:= .st x0) (b:= .j c4) kr kr (Sy (bs:=x0) (ki:= .i64) kr hv6))) ?_;refine AD (n:=28) AC 2 [(0,.st x0),(3,.j c4),(22,.b (decide ((v6.toNat:Int) < 97)))] [] kr ?_;rcases BE (decide ((v6.toNat:Int) < 97)) with hc12 | hc12
    ·rw [if_pos hc12] at hj9
     rw [hc12];refine AD (n:=28) AC 5 [(0,.st x0),(3,.j c4),(23,.tp []),(24,.tp []),(25,.tp []),(26,.tp []),(27,.b true)] [] kr ?_;have hq:=OI hj9; subst hq;exact AI rfl AJ
    ·rw [Bm hc12] at hj9
     rw [hc12];refine AD (n:=28) AC 2 [(0,.st x0),(3,.j c4),(22,.b false),(23,.st x0),(24,.j c4)] [] kr ?_;obtain ⟨v7,hv7,hj9⟩:=OB hj9;refine AZ AC 0 rfl (DR kr rfl (Vl (a:= .st x0) (b:= .j c4) kr kr (Sy (bs:=x0) (ki:= .i64) kr hv7))) ?_;refine AD (n:=28) AC 2 [(0,.st x0),(3,.j c4),(23,.st x0),(24,.j c4),(25,.v (.int .u8 (v7.toNat:Int))),(26,.b (decide ((v7.toNat:Int) > 122))),(27,.b (decide ((v7.toNat:Int) > 122)))] [] kr ?_;have hq:=OI hj9; subst hq;exact AI rfl AJ
   refine AT (b:=j9) kr (fun hb10=>?_) (fun hb10=>?_)
   ·rw [if_pos hb10] at h
    refine AK AC [(2,.b false)] [] ?_;refine AR ?_;have hq:=OI h; subst hq;exact ⟨rfl,AJ⟩
   ·rw [Bm hb10] at h
    refine AY ?_;refine D1 AC [(0,.st x0),(3,.j (wr .i64 (c4 + 1)))] [] ?_;exact Aq (s1:=⟨Fr 28 [(0,.st x0),(3,.j (wr .i64 (c4 + 1)))],[]⟩) AJ (ih (wr .i64 (c4 + 1)) h)
  ·rw [Bm hb5] at h
   refine C6 ?_;have hq:=OI h; subst hq;exact ⟨rfl,AJ⟩
theorem Wd (x0:(List UInt8)) (r:Bool) (h:Lh x0=some r):Sem E0 ⟨none,false⟩ P8 ⟨Fr 28 (A6 0 (QE.enc (x0,()))),[]⟩ fun e s'=>(e = .normal\/e = .ret)/\∃ xs,EZ E0.P s'.fr s'.hp Tryz.f141.results.toList=some xs/\Ee xs=QF r:=by
 unfold Lh at h;refine Ax (BY (s1:=⟨Fr 28 [(0,.st x0)],[]⟩) AJ ?_);refine AK AC [(0,.st x0)] [] ?_;refine AH ?_;refine AH ?_;obtain ⟨j2,hj2,h⟩:=OB h;refine AM (s1:=⟨Fr 28 [(0,.st x0),(11,.b j2)],[]⟩) ?_ ?_
 ·refine AD (n:=28) AC 4 [(0,.st x0),(7,.b (decide ((x0.length:Int) < 1)))] [] kr ?_
  rcases BE (decide ((x0.length:Int) < 1)) with hc16 | hc16
  ·rw [if_pos hc16] at hj2
   rw [hc16];refine AD (n:=28) AC 4 [(0,.st x0),(11,.b true)] [] kr ?_;have hq:=OI hj2; subst hq;exact AI rfl AJ
  ·rw [Bm hc16] at hj2
   rw [hc16];refine AD (n:=28) AC 4 [(0,.st x0),(11,.b (decide ((x0.length:Int) > 12)))] [] kr ?_;have hq:=OI hj2; subst hq;exact AI rfl AJ
 refine AT (b:=j2) kr (fun hb3=>?_) (fun hb3=>?_)
 ·rw [if_pos hb3] at h
  refine AK AC [(2,.b false)] [] ?_;refine AR ?_;have hq:=OI h; subst hq;exact ⟨⟨Fr 28 [(2,.b false)],[]⟩,AJ,.inr rfl,[.b false],kr,kr⟩
 ·rw [Bm hb3] at h
  refine AY ?_;refine AH ?_;refine AK AC [(0,.st x0),(3,.j 0)] [] ?_;refine Al ?_;obtain ⟨r13,hr13,h⟩:=OB h;refine DB (n:=100000) ?_;rcases r13 with w14 | w15
  ·try dsimp only at h
   refine BB (Aq (s1:=⟨Fr 28 [(0,.st x0),(3,.j 0)],[]⟩) AJ (Pz x0 _ 0 _ hr13)) ?_;refine AK AC [(2,.b true)] [] ?_;refine AR ?_;have hq:=OI h; subst hq;exact ⟨⟨Fr 28 [(2,.b true)],[]⟩,AJ,.inr rfl,[.b true],kr,kr⟩
  ·try dsimp only at h
   refine BB (Aq (s1:=⟨Fr 28 [(0,.st x0),(3,.j 0)],[]⟩) AJ (Pz x0 _ 0 _ hr13)) ?_;have hq:=OI h; subst hq;exact ⟨⟨Fr 28 [(2,.b w15)],[]⟩,AJ,.inr rfl,[.b w15],kr,kr⟩
def Yu:List AV->Option AV:=ES QE (fun a=>Lh a.1) QF
theorem R8:XOk 141 Yu:=by
 refine AU Tryz.func141 (c:=P8) ?h2 ⟨Tryz.call141⟩ QE (fun a=>Lh a.1) QF (fun a=>(by show 1<=28; decide)) ?h3 ?h4
 case h2=>kernel_rfl
 case h3=>intro b; kernel_rfl
 case h4=>exact fun a b h=>Wd a.1 b h
/- trestle/trestleref03.has -/
noncomputable def Oo:Code:=BL Tryz.f142
def KX (x0:(List (List UInt8))) (x1:(List UInt8)):Nat->Int->Option ((Unit) ⊕ (Bool))
 | 0,_=>none
 | f + 1,c1 =>
  if (decide (c1 < (x0.length:Int)))=true then
  (idx x0 c1).bind fun v3 =>
  if (v3==x1)=true then
  some (.inr true)
  else
  KX x0 x1 f (wr .i64 (c1 + 1))
  else
  some (.inl ())
def H7 (x0:(List (List UInt8))) (x1:(List UInt8)):Option (Bool) :=
 (KX x0 x1 100000 0).bind fun r6 =>
 match r6 with
 | (.inl w7) =>
  some false
 | (.inr w8) =>
  some w8
def O1:Cs ((List (List UInt8))×(List UInt8)×Unit):=(csC (cdL 1 cdS) (csC cdS csN))
def O7 (r:Bool):AV:=cdB.enc r
theorem PL (x0:(List (List UInt8))) (x1:(List UInt8)):∀ (f:Nat) (c1:Int) (r:(Unit) ⊕ (Bool)),KX x0 x1 f c1=some r->SemN E0 ⟨none,false⟩ (pc Oo [1,0,1,0,0]) f ⟨Fr 18 [(0,.sl 1 (x0.map cdS.enc)),(1,.st x1),(5,.j c1)],[]⟩ (fun e s=>match r with
 | (.inl w)=>e=(.exit 0)/\Wk E0 s ⟨Fr 18 [],[]⟩
 | (.inr w)=>e = .ret/\Wk E0 s ⟨Fr 18 [(4,.b w)],[]⟩):=by
 intro f;induction f with
 | zero=>intro c1 r h; cases h
 | succ f ih0 =>
  intro c1 r h
  have ih:=fun (c1:Int)=>ih0 c1 r
  unfold KX at h;refine CI ?_;refine AH ?_;refine AH ?_
  let p1:Nat×AV:=(5,.j c1)
  let p2:Nat×AV:=(0,.sl 1 (x0.map cdS.enc))
  refine AM (s1:=⟨Fr 18 [p2,(1,.st x1),p1,(9,.b (decide (c1 < (x0.length:Int))))],[]⟩) ?_ ?_
  ·refine AD (n:=18) AC 2 [p2,(1,.st x1),p1,(6,.j c1),(7,.sl 1 (x0.map cdS.enc))] [] kr ?_
   refine AZ AC 0 rfl (DR (AB rfl) rfl (C3 (a:= .sl 1 (x0.map cdS.enc)) kr (Bn (el:=9) kr))) ?_;exact Ad AC
  refine AT (b:=(decide (c1 < (x0.length:Int)))) kr (fun hb2=>?_) (fun hb2=>?_)
  ·rw [if_pos hb2] at h
   refine AY ?_;refine AH ?_;refine Al ?_;refine AH ?_;obtain ⟨v3,hv3,h⟩:=OB h;refine AM (s1:=⟨Fr 18 [p2,(1,.st x1),p1,(17,.b (v3==x1))],[]⟩) ?_ ?_
   ·refine AD (n:=18) AC 2 [p2,(1,.st x1),p1,(12,.sl 1 (x0.map cdS.enc)),(13,.j c1)] [] kr ?_
    refine AZ AC 0 rfl (DR (AB rfl) rfl (AP (a:= .sl 1 (x0.map cdS.enc)) (b:= .j c1) kr kr (Di (e:=cdS.enc) (el:=9) (k:=1) (ki:= .i64) kr kr hv3))) ?_;exact Ad AC
   refine AT (b:=(v3==x1)) kr (fun hb4=>?_) (fun hb4=>?_)
   ·rw [if_pos hb4] at h
    refine AK AC [(4,.b true)] [] ?_;refine AR ?_;have hq:=OI h; subst hq;exact ⟨rfl,AJ⟩
   ·rw [Bm hb4] at h
    refine AY ?_
    let p3:Nat×AV:=(5,.j (wr .i64 (c1 + 1)))
    refine D1 AC [p2,(1,.st x1),p3] [] ?_;exact Aq (s1:=⟨Fr 18 [p2,(1,.st x1),p3],[]⟩) AJ (ih (wr .i64 (c1 + 1)) h)
  ·rw [Bm hb2] at h
   refine C6 ?_;have hq:=OI h; subst hq;exact ⟨rfl,AJ⟩
theorem Vn (x0:(List (List UInt8))) (x1:(List UInt8)) (r:Bool) (h:H7 x0 x1=some r):Sem E0 ⟨none,false⟩ Oo ⟨Fr 18 (A6 0 (O1.enc (x0,x1,()))),[]⟩ fun e s'=>(e = .normal\/e = .ret)/\∃ xs,EZ E0.P s'.fr s'.hp Tryz.f142.results.toList=some xs/\Ee xs=O7 r:=by
 unfold H7 at h
 let p1:Nat×AV:=(0,.sl 1 (x0.map cdS.enc))
 refine Ax (BY (s1:=⟨Fr 18 [p1,(1,.st x1)],[]⟩) AJ ?_);refine AK AC [p1,(1,.st x1)] [] ?_;refine AH ?_
 let p2:Nat×AV:=(5,.j 0)
 refine AK AC [p1,(1,.st x1),p2] [] ?_;refine Al ?_;obtain ⟨r6,hr6,h⟩:=OB h;refine DB (n:=100000) ?_;rcases r6 with w7 | w8
 ·try dsimp only at h
  refine BB (Aq (s1:=⟨Fr 18 [p1,(1,.st x1),p2],[]⟩) AJ (PL x0 x1 _ 0 _ hr6)) ?_;refine AK AC [(4,.b false)] [] ?_;refine AR ?_;have hq:=OI h; subst hq;exact ⟨⟨Fr 18 [(4,.b false)],[]⟩,AJ,.inr rfl,[.b false],kr,kr⟩
 ·try dsimp only at h
  refine BB (Aq (s1:=⟨Fr 18 [p1,(1,.st x1),p2],[]⟩) AJ (PL x0 x1 _ 0 _ hr6)) ?_;have hq:=OI h; subst hq;exact ⟨⟨Fr 18 [(4,.b w8)],[]⟩,AJ,.inr rfl,[.b w8],kr,kr⟩
def Xj:List AV->Option AV:=ES O1 (fun a=>H7 a.1 a.2.1) O7
theorem KN:XOk 142 Xj:=by
 refine AU Tryz.func142 (c:=Oo) ?h2 ⟨Tryz.call142⟩ O1 (fun a=>H7 a.1 a.2.1) O7 (fun a=>(by show 2<=18; decide)) ?h3 ?h4
 case h2=>kernel_rfl
 case h3=>intro b; kernel_rfl
 case h4=>exact fun a b h=>Vn a.1 a.2.1 b h
/- trestle/trestleref03.between -/
noncomputable def OP:Code:=BL Tryz.f170
def Bp (x0:Int) (x1:Int) (x2:Int):Option (Bool) :=
 (if (decide (x1<=x0))=true then some (decide (x0<=x2)) else some false).bind fun j2 =>
 some j2
def LA:Cs (Int×Int×Int×Unit):=(csC cdI (csC cdI (csC cdI csN)))
def LW (r:Bool):AV:=cdB.enc r
theorem Ro (x0:Int) (x1:Int) (x2:Int) (r:Bool) (h:Bp x0 x1 x2=some r):Sem E0 ⟨none,false⟩ OP ⟨Fr 15 (A6 0 (LA.enc (x0,x1,x2,()))),[]⟩ fun e s'=>(e = .normal\/e = .ret)/\∃ xs,EZ E0.P s'.fr s'.hp Tryz.f170.results.toList=some xs/\Ee xs=LW r:=by
 unfold Bp at h;refine Ax (BY (s1:=⟨Fr 15 [(0,.j x0),(1,.j x1),(2,.j x2)],[]⟩) AJ ?_);refine AK AC [(0,.j x0),(1,.j x1),(2,.j x2)] [] ?_;refine AH ?_;obtain ⟨j2,hj2,h⟩:=OB h;refine AM (s1:=⟨Fr 15 [(6,.b j2)],[]⟩) ?_ ?_
 ·refine AD (n:=15) AC 4 [(0,.j x0),(2,.j x2),(10,.b (decide (x1<=x0)))] [] kr ?_
  rcases BE (decide (x1<=x0)) with hc3 | hc3
  ·rw [if_pos hc3] at hj2
   rw [hc3];refine AD (n:=15) AC 5 [(6,.b (decide (x0<=x2)))] [] kr ?_;have hq:=OI hj2; subst hq;exact AI rfl AJ
  ·rw [Bm hc3] at hj2
   rw [hc3];refine AD (n:=15) AC 5 [(6,.b false)] [] kr ?_;have hq:=OI hj2; subst hq;exact AI rfl AJ
 refine AR ?_;have hq:=OI h; subst hq;exact ⟨⟨Fr 15 [(6,.b j2)],[]⟩,AJ,.inr rfl,[.b j2],kr,kr⟩
def T4:List AV->Option AV:=ES LA (fun a=>Bp a.1 a.2.1 a.2.2.1) LW
theorem Fe:XOk 170 T4:=by
 refine AU Tryz.func170 (c:=OP) ?h2 ⟨Tryz.call170⟩ LA (fun a=>Bp a.1 a.2.1 a.2.2.1) LW (fun a=>(by show 3<=15; decide)) ?h3 ?h4
 case h2=>kernel_rfl
 case h3=>intro b; kernel_rfl
 case h4=>exact fun a b h=>Ro a.1 a.2.1 a.2.2.1 b h
/- trestle/trestleref03.formed -/
noncomputable def Hc:Code:=BL Tryz.f168
def If (x0:AF):Option ((Bool)) :=
 if (x0.1==8)=true then
 some (x0.1==8)
 else
 some (x0.1==9)
def Ie (x0:AF):Option ((Bool)) :=
 if (x0.1==3)=true then
 some (x0.1==3)
 else
 (If x0).bind fun r14 =>
 some r14
def Id (x0:AF):Option ((Bool)) :=
 if (x0.1==2)=true then
 some (x0.1==2)
 else
 (Ie x0).bind fun r15 =>
 some r15
def Ig (x0:AF):Option ((Bool)) :=
 if (x0.1==6)=true then
 some (x0.1==6)
 else
 some (x0.1==7)
def BX (x0:AF):Option (Bool) :=
 if (x0.1==1)=true then
 (Bp (x0.2.2.2.1.length:Int) 1 16).bind fun v2 =>
 (if v2=true then if (x0.2.2.2.2==0)=true then if (!x0.2.2.1)=true then some (x0.2.1==[]) else some false else some false else some false).bind fun j4 =>
 some j4
 else
 (Id x0).bind fun r16 =>
 if r16=true then
 (if ((x0.2.2.2.1.length:Int)==0)=true then if (x0.2.2.2.2==0)=true then some (!x0.2.2.1) else some false else some false).bind fun j19 =>
 some j19
 else
 if (x0.1==4)=true then
 (if ((x0.2.2.2.1.length:Int)==0)=true then (Bp x0.2.2.2.2 1 2).bind fun v23 =>
 some v23 else some false).bind fun j25 =>
 some j25
 else
 if (x0.1==5)=true then
 (if ((x0.2.2.2.1.length:Int)==0)=true then some (x0.2.2.2.2==0) else some false).bind fun j29 =>
 some j29
 else
 (Ig x0).bind fun r33 =>
 if r33=true then
 (Bp (x0.2.2.2.1.length:Int) 1 16).bind fun v35 =>
 (if v35=true then some (x0.2.2.2.2==0) else some false).bind fun j37 =>
 some j37
 else
 if (x0.1==10)=true then
 (if ((x0.2.2.2.1.length:Int)==0)=true then (Bp x0.2.2.2.2 0 63).bind fun v40 =>
 if v40=true then some (!x0.2.2.1) else some false else some false).bind fun j42 =>
 some j42
 else
 some false
def MB:Cs (AF×Unit):=(csC AA csN)
def MJ (r:Bool):AV:=cdB.enc r
theorem Q1 (x0:AF) (r:(Bool)) (h:If x0=some r):Sem E0 ⟨none,false⟩ (pc Hc [1,1,0,1,0,1,1,0,1,1,1,1,1]) ⟨Fr 87 [(1,.pt 0 0 0),(3,.j (x0.2.2.2.1.length:Int)),(8,.v (.int .u8 x0.1)),(28,.b (x0.1==8))],[some ⟨5,60,[AA.enc x0],false⟩]⟩ (fun e s=>e = .normal/\Wk E0 s ⟨Fr 87 [(1,.pt 0 0 0),(3,.j (x0.2.2.2.1.length:Int)),(8,.v (.int .u8 x0.1)),(28,.b r)],[some ⟨5,60,[AA.enc x0],false⟩]⟩):=by
 unfold If at h;refine AT (b:=(x0.1==8)) kr (fun hb12=>?_) (fun hb12=>?_)
 ·rw [if_pos hb12] at h
  refine AY ?_;have hq:=OI h; subst hq;exact ⟨rfl,(Ar [0] ⟨⟨_,rfl,HS⟩,trivial⟩ ⟨lv,lv,lv,lv,trivial⟩)⟩
 ·rw [Bm hb12] at h
  refine D1 AC [(1,.pt 0 0 0),(3,.j (x0.2.2.2.1.length:Int)),(8,.v (.int .u8 x0.1)),(28,.b (x0.1==9))] [some ⟨5,60,[AA.enc x0],false⟩] ?_;have hq:=OI h; subst hq;exact ⟨rfl,(Ar [0] ⟨⟨_,rfl,HS⟩,trivial⟩ ⟨lv,lv,lv,lv,trivial⟩)⟩
theorem Q0 (x0:AF) (r:(Bool)) (h:Ie x0=some r):Sem E0 ⟨none,false⟩ (pc Hc [1,1,0,1,0,1,1,0,1,1,1]) ⟨Fr 87 [(1,.pt 0 0 0),(3,.j (x0.2.2.2.1.length:Int)),(8,.v (.int .u8 x0.1)),(28,.b (x0.1==3))],[some ⟨5,60,[AA.enc x0],false⟩]⟩ (fun e s=>e = .normal/\Wk E0 s ⟨Fr 87 [(1,.pt 0 0 0),(3,.j (x0.2.2.2.1.length:Int)),(8,.v (.int .u8 x0.1)),(28,.b r)],[some ⟨5,60,[AA.enc x0],false⟩]⟩):=by
 unfold Ie at h;refine AT (b:=(x0.1==3)) kr (fun hb10=>?_) (fun hb10=>?_)
 ·rw [if_pos hb10] at h
  refine AY ?_;have hq:=OI h; subst hq;exact ⟨rfl,(Ar [0] ⟨⟨_,rfl,HS⟩,trivial⟩ ⟨lv,lv,lv,lv,trivial⟩)⟩
 ·rw [Bm hb10] at h
  refine AK AC [(1,.pt 0 0 0),(3,.j (x0.2.2.2.1.length:Int)),(8,.v (.int .u8 x0.1)),(28,.b (x0.1==8))] [some ⟨5,60,[AA.enc x0],false⟩] ?_;obtain ⟨r14,hr14,h⟩:=OB h;refine Hl (Q1 x0 _ hr14) ?_;have hq:=OI h; subst hq;exact ⟨rfl,(Ar [0] ⟨⟨_,rfl,HS⟩,trivial⟩ ⟨lv,lv,lv,lv,trivial⟩)⟩
theorem Qz (x0:AF) (r:(Bool)) (h:Id x0=some r):Sem E0 ⟨none,false⟩ (pc Hc [1,1,0,1,0,1,1,0,1]) ⟨Fr 87 [(1,.pt 0 0 0),(3,.j (x0.2.2.2.1.length:Int)),(8,.v (.int .u8 x0.1)),(28,.b (x0.1==2))],[some ⟨5,60,[AA.enc x0],false⟩]⟩ (fun e s=>e = .normal/\Wk E0 s ⟨Fr 87 [(1,.pt 0 0 0),(3,.j (x0.2.2.2.1.length:Int)),(8,.v (.int .u8 x0.1)),(28,.b r)],[some ⟨5,60,[AA.enc x0],false⟩]⟩):=by
 unfold Id at h;refine AT (b:=(x0.1==2)) kr (fun hb8=>?_) (fun hb8=>?_)
 ·rw [if_pos hb8] at h
  refine AY ?_;have hq:=OI h; subst hq;exact ⟨rfl,(Ar [0] ⟨⟨_,rfl,HS⟩,trivial⟩ ⟨lv,lv,lv,lv,trivial⟩)⟩
 ·rw [Bm hb8] at h
  refine AK AC [(1,.pt 0 0 0),(3,.j (x0.2.2.2.1.length:Int)),(8,.v (.int .u8 x0.1)),(28,.b (x0.1==3))] [some ⟨5,60,[AA.enc x0],false⟩] ?_;obtain ⟨r15,hr15,h⟩:=OB h;refine Hl (Q0 x0 _ hr15) ?_;have hq:=OI h; subst hq;exact ⟨rfl,(Ar [0] ⟨⟨_,rfl,HS⟩,trivial⟩ ⟨lv,lv,lv,lv,trivial⟩)⟩
theorem Q2 (x0:AF) (r:(Bool)) (h:Ig x0=some r):Sem E0 ⟨none,false⟩ (pc Hc [1,1,0,1,0,1,1,1,1,1,1,1,1,0,1]) ⟨Fr 87 [(1,.pt 0 0 0),(3,.j (x0.2.2.2.1.length:Int)),(8,.v (.int .u8 x0.1)),(63,.b (x0.1==6))],[some ⟨5,60,[AA.enc x0],false⟩]⟩ (fun e s=>e = .normal/\Wk E0 s ⟨Fr 87 [(1,.pt 0 0 0),(3,.j (x0.2.2.2.1.length:Int)),(8,.v (.int .u8 x0.1)),(63,.b r)],[some ⟨5,60,[AA.enc x0],false⟩]⟩):=by
 unfold Ig at h;refine AT (b:=(x0.1==6)) kr (fun hb31=>?_) (fun hb31=>?_)
 ·rw [if_pos hb31] at h
  refine AY ?_;have hq:=OI h; subst hq;exact ⟨rfl,(Ar [0] ⟨⟨_,rfl,HS⟩,trivial⟩ ⟨lv,lv,lv,lv,trivial⟩)⟩
 ·rw [Bm hb31] at h
  refine D1 AC [(1,.pt 0 0 0),(3,.j (x0.2.2.2.1.length:Int)),(8,.v (.int .u8 x0.1)),(63,.b (x0.1==7))] [some ⟨5,60,[AA.enc x0],false⟩] ?_;have hq:=OI h; subst hq;exact ⟨rfl,(Ar [0] ⟨⟨_,rfl,HS⟩,trivial⟩ ⟨lv,lv,lv,lv,trivial⟩)⟩
theorem SY (x0:AF) (r:Bool) (h:BX x0=some r):Sem E0 ⟨none,false⟩ Hc ⟨Fr 87 (A6 0 (MB.enc (x0,()))),[]⟩ fun e s'=>(e = .normal\/e = .ret)/\∃ xs,EZ E0.P s'.fr s'.hp Tryz.f168.results.toList=some xs/\Ee xs=MJ r:=by
 unfold BX at h;refine Ax (BY (s1:=⟨Fr 87 [(0,AA.enc x0)],[]⟩) AJ ?_);refine AK AC [(1,.pt 0 0 0)] [some ⟨5,60,[AA.enc x0],false⟩] ?_;refine AH ?_;refine AM (s1:=⟨Fr 87 [(1,.pt 0 0 0),(3,.j (x0.2.2.2.1.length:Int))],[some ⟨5,60,[AA.enc x0],false⟩]⟩) ?_ ?_
 ·refine AD (n:=87) AC 2 [(1,.pt 0 0 0),(5,.sl 1 (x0.2.2.2.1.map cdS.enc))] [some ⟨5,60,[AA.enc x0],false⟩] kr ?_
  refine AZ AC 0 rfl (DR (AB rfl) rfl (C3 (a:= .sl 1 (x0.2.2.2.1.map cdS.enc)) kr (Bn (el:=9) kr))) ?_;exact Ad AC
 refine AH ?_;refine AK AC [(1,.pt 0 0 0),(3,.j (x0.2.2.2.1.length:Int)),(8,.v (.int .u8 x0.1))] [some ⟨5,60,[AA.enc x0],false⟩] ?_;refine Al ?_;refine AK AC [(1,.pt 0 0 0),(3,.j (x0.2.2.2.1.length:Int)),(8,.v (.int .u8 x0.1)),(9,.b (x0.1==1))] [some ⟨5,60,[AA.enc x0],false⟩] ?_;refine AT (b:=(x0.1==1)) kr (fun hb1=>?_) (fun hb1=>?_)
 ·rw [if_pos hb1] at h
  refine AH ?_;obtain ⟨v2,hv2,h⟩:=OB h;obtain ⟨j4,hj4,h⟩:=OB h;refine AM (s1:=⟨Fr 87 [(2,.b j4)],[]⟩) ?_ ?_
  ·refine AD (n:=87) AC 1 [(1,.pt 0 0 0),(11,.j (x0.2.2.2.1.length:Int))] [some ⟨5,60,[AA.enc x0],false⟩] kr ?_
   refine AS (caps:=[]) (xs:=[.j (x0.2.2.2.1.length:Int),.j 1,.j 16]) (u:=((x0.2.2.2.1.length:Int),1,16,())) rfl rfl Fe rfl (AB rfl) kr kr (AL (AW (c:=cdI) (v:=(x0.2.2.2.1.length:Int))) (AL (AW (c:=cdI) (v:=1)) (AL (AW (c:=cdI) (v:=16)) Ao))) (.inl kr) hv2 ?_;refine AD (n:=87) AC 1 [(1,.pt 0 0 0),(13,.b v2)] [some ⟨5,60,[AA.enc x0],false⟩] kr ?_;rcases BE v2 with hc5 | hc5
   ·rw [if_pos hc5] at hj4
    rw [hc5];refine AD (n:=87) AC 5 [(1,.pt 0 0 0),(18,.b (x0.2.2.2.2==0))] [some ⟨5,60,[AA.enc x0],false⟩] kr ?_;rcases BE (x0.2.2.2.2==0) with hc6 | hc6
    ·rw [if_pos hc6] at hj4
     rw [hc6];refine AD (n:=87) AC 5 [(1,.pt 0 0 0),(23,.b (!x0.2.2.1))] [some ⟨5,60,[AA.enc x0],false⟩] kr ?_;rcases BE (!x0.2.2.1) with hc7 | hc7
     ·rw [if_pos hc7] at hj4
      rw [hc7];refine AD (n:=87) AC 5 [(2,.b (x0.2.1==[]))] [some ⟨5,60,[AA.enc x0],false⟩] kr ?_;have hq:=OI hj4; subst hq;exact AI rfl (Ar [] trivial ⟨lv,trivial⟩)
     ·rw [Bm hc7] at hj4
      rw [hc7];refine AD (n:=87) AC 5 [(2,.b false)] [some ⟨5,60,[AA.enc x0],false⟩] kr ?_;have hq:=OI hj4; subst hq;exact AI rfl (Ar [] trivial ⟨lv,trivial⟩)
    ·rw [Bm hc6] at hj4
     rw [hc6];refine AD (n:=87) AC 10 [(2,.b false)] [some ⟨5,60,[AA.enc x0],false⟩] kr ?_;have hq:=OI hj4; subst hq;exact AI rfl (Ar [] trivial ⟨lv,trivial⟩)
   ·rw [Bm hc5] at hj4
    rw [hc5];refine AD (n:=87) AC 15 [(2,.b false)] [some ⟨5,60,[AA.enc x0],false⟩] kr ?_;have hq:=OI hj4; subst hq;exact AI rfl (Ar [] trivial ⟨lv,trivial⟩)
  refine AR ?_;have hq:=OI h; subst hq;exact ⟨⟨Fr 87 [(2,.b j4)],[]⟩,AJ,.inr rfl,[.b j4],kr,kr⟩
 ·rw [Bm hb1] at h
  refine AH ?_;refine AK AC [(1,.pt 0 0 0),(3,.j (x0.2.2.2.1.length:Int)),(8,.v (.int .u8 x0.1)),(28,.b (x0.1==2))] [some ⟨5,60,[AA.enc x0],false⟩] ?_;obtain ⟨r16,hr16,h⟩:=OB h;refine Hl (Qz x0 _ hr16) ?_;refine AT (b:=r16) kr (fun hb17=>?_) (fun hb17=>?_)
  ·rw [if_pos hb17] at h
   refine AH ?_;obtain ⟨j19,hj19,h⟩:=OB h;refine AM (s1:=⟨Fr 87 [(2,.b j19)],[]⟩) ?_ ?_
   ·refine AD (n:=87) AC 3 [(1,.pt 0 0 0),(35,.b ((x0.2.2.2.1.length:Int)==0))] [some ⟨5,60,[AA.enc x0],false⟩] kr ?_
    rcases BE ((x0.2.2.2.1.length:Int)==0) with hc20 | hc20
    ·rw [if_pos hc20] at hj19
     rw [hc20];refine AD (n:=87) AC 5 [(1,.pt 0 0 0),(40,.b (x0.2.2.2.2==0))] [some ⟨5,60,[AA.enc x0],false⟩] kr ?_;rcases BE (x0.2.2.2.2==0) with hc21 | hc21
     ·rw [if_pos hc21] at hj19
      rw [hc21];refine AD (n:=87) AC 5 [(2,.b (!x0.2.2.1))] [some ⟨5,60,[AA.enc x0],false⟩] kr ?_;have hq:=OI hj19; subst hq;exact AI rfl (Ar [] trivial ⟨lv,trivial⟩)
     ·rw [Bm hc21] at hj19
      rw [hc21];refine AD (n:=87) AC 5 [(2,.b false)] [some ⟨5,60,[AA.enc x0],false⟩] kr ?_;have hq:=OI hj19; subst hq;exact AI rfl (Ar [] trivial ⟨lv,trivial⟩)
    ·rw [Bm hc20] at hj19
     rw [hc20];refine AD (n:=87) AC 10 [(2,.b false)] [some ⟨5,60,[AA.enc x0],false⟩] kr ?_;have hq:=OI hj19; subst hq;exact AI rfl (Ar [] trivial ⟨lv,trivial⟩)
   refine AR ?_;have hq:=OI h; subst hq;exact ⟨⟨Fr 87 [(2,.b j19)],[]⟩,AJ,.inr rfl,[.b j19],kr,kr⟩
  ·rw [Bm hb17] at h
   refine AK AC [(1,.pt 0 0 0),(3,.j (x0.2.2.2.1.length:Int)),(8,.v (.int .u8 x0.1)),(45,.b (x0.1==4))] [some ⟨5,60,[AA.enc x0],false⟩] ?_;refine AT (b:=(x0.1==4)) kr (fun hb22=>?_) (fun hb22=>?_)
   ·rw [if_pos hb22] at h
    refine AH ?_;obtain ⟨j25,hj25,h⟩:=OB h;refine AM (s1:=⟨Fr 87 [(2,.b j25)],[]⟩) ?_ ?_
    ·refine AD (n:=87) AC 3 [(1,.pt 0 0 0),(49,.b ((x0.2.2.2.1.length:Int)==0))] [some ⟨5,60,[AA.enc x0],false⟩] kr ?_
     rcases BE ((x0.2.2.2.1.length:Int)==0) with hc26 | hc26
     ·rw [if_pos hc26] at hj25
      rw [hc26];refine AD (n:=87) AC 2 [(49,.b true),(51,.j x0.2.2.2.2)] [some ⟨5,60,[AA.enc x0],false⟩] kr ?_;obtain ⟨v23,hv23,hj25⟩:=OB hj25;refine AS (caps:=[]) (xs:=[.j x0.2.2.2.2,.j 1,.j 2]) (u:=(x0.2.2.2.2,1,2,())) rfl rfl Fe rfl kr kr kr (AL (AW (c:=cdI) (v:=x0.2.2.2.2)) (AL (AW (c:=cdI) (v:=1)) (AL (AW (c:=cdI) (v:=2)) Ao))) (.inl kr) hv23 ?_;refine AD (n:=87) AC 2 [(2,.b v23)] [some ⟨5,60,[AA.enc x0],false⟩] kr ?_;have hq:=OI hj25; subst hq;exact AI rfl (Ar [] trivial ⟨lv,trivial⟩)
     ·rw [Bm hc26] at hj25
      rw [hc26];refine AD (n:=87) AC 5 [(2,.b false)] [some ⟨5,60,[AA.enc x0],false⟩] kr ?_;have hq:=OI hj25; subst hq;exact AI rfl (Ar [] trivial ⟨lv,trivial⟩)
    refine AR ?_;have hq:=OI h; subst hq;exact ⟨⟨Fr 87 [(2,.b j25)],[]⟩,AJ,.inr rfl,[.b j25],kr,kr⟩
   ·rw [Bm hb22] at h
    refine AK AC [(1,.pt 0 0 0),(3,.j (x0.2.2.2.1.length:Int)),(8,.v (.int .u8 x0.1)),(54,.b (x0.1==5))] [some ⟨5,60,[AA.enc x0],false⟩] ?_;refine AT (b:=(x0.1==5)) kr (fun hb27=>?_) (fun hb27=>?_)
    ·rw [if_pos hb27] at h
     refine AH ?_;obtain ⟨j29,hj29,h⟩:=OB h;refine AM (s1:=⟨Fr 87 [(2,.b j29)],[]⟩) ?_ ?_
     ·refine AD (n:=87) AC 3 [(1,.pt 0 0 0),(58,.b ((x0.2.2.2.1.length:Int)==0))] [some ⟨5,60,[AA.enc x0],false⟩] kr ?_
      rcases BE ((x0.2.2.2.1.length:Int)==0) with hc30 | hc30
      ·rw [if_pos hc30] at hj29
       rw [hc30];refine AD (n:=87) AC 5 [(2,.b (x0.2.2.2.2==0))] [some ⟨5,60,[AA.enc x0],false⟩] kr ?_;have hq:=OI hj29; subst hq;exact AI rfl (Ar [] trivial ⟨lv,trivial⟩)
      ·rw [Bm hc30] at hj29
       rw [hc30];refine AD (n:=87) AC 5 [(2,.b false)] [some ⟨5,60,[AA.enc x0],false⟩] kr ?_;have hq:=OI hj29; subst hq;exact AI rfl (Ar [] trivial ⟨lv,trivial⟩)
     refine AR ?_;have hq:=OI h; subst hq;exact ⟨⟨Fr 87 [(2,.b j29)],[]⟩,AJ,.inr rfl,[.b j29],kr,kr⟩
    ·rw [Bm hb27] at h
     refine AH ?_;refine AK AC [(1,.pt 0 0 0),(3,.j (x0.2.2.2.1.length:Int)),(8,.v (.int .u8 x0.1)),(63,.b (x0.1==6))] [some ⟨5,60,[AA.enc x0],false⟩] ?_;obtain ⟨r33,hr33,h⟩:=OB h;refine Hl (Q2 x0 _ hr33) ?_;refine AT (b:=r33) kr (fun hb34=>?_) (fun hb34=>?_)
     ·rw [if_pos hb34] at h
      refine AH ?_;obtain ⟨v35,hv35,h⟩:=OB h;obtain ⟨j37,hj37,h⟩:=OB h;refine AM (s1:=⟨Fr 87 [(2,.b j37)],[]⟩) ?_ ?_
      ·refine AD (n:=87) AC 1 [(1,.pt 0 0 0),(66,.j (x0.2.2.2.1.length:Int))] [some ⟨5,60,[AA.enc x0],false⟩] kr ?_
       refine AS (caps:=[]) (xs:=[.j (x0.2.2.2.1.length:Int),.j 1,.j 16]) (u:=((x0.2.2.2.1.length:Int),1,16,())) rfl rfl Fe rfl (AB rfl) kr kr (AL (AW (c:=cdI) (v:=(x0.2.2.2.1.length:Int))) (AL (AW (c:=cdI) (v:=1)) (AL (AW (c:=cdI) (v:=16)) Ao))) (.inl kr) hv35 ?_;refine AD (n:=87) AC 1 [(1,.pt 0 0 0),(68,.b v35)] [some ⟨5,60,[AA.enc x0],false⟩] kr ?_;rcases BE v35 with hc38 | hc38
       ·rw [if_pos hc38] at hj37
        rw [hc38];refine AD (n:=87) AC 5 [(2,.b (x0.2.2.2.2==0))] [some ⟨5,60,[AA.enc x0],false⟩] kr ?_;have hq:=OI hj37; subst hq;exact AI rfl (Ar [] trivial ⟨lv,trivial⟩)
       ·rw [Bm hc38] at hj37
        rw [hc38];refine AD (n:=87) AC 5 [(2,.b false)] [some ⟨5,60,[AA.enc x0],false⟩] kr ?_;have hq:=OI hj37; subst hq;exact AI rfl (Ar [] trivial ⟨lv,trivial⟩)
      refine AR ?_;have hq:=OI h; subst hq;exact ⟨⟨Fr 87 [(2,.b j37)],[]⟩,AJ,.inr rfl,[.b j37],kr,kr⟩
     ·rw [Bm hb34] at h
      refine AK AC [(1,.pt 0 0 0),(3,.j (x0.2.2.2.1.length:Int)),(73,.b (x0.1==10))] [some ⟨5,60,[AA.enc x0],false⟩] ?_;refine AT (b:=(x0.1==10)) kr (fun hb39=>?_) (fun hb39=>?_)
      ·rw [if_pos hb39] at h
       refine AH ?_;obtain ⟨j42,hj42,h⟩:=OB h;refine AM (s1:=⟨Fr 87 [(2,.b j42)],[]⟩) ?_ ?_
       ·refine AD (n:=87) AC 3 [(1,.pt 0 0 0),(77,.b ((x0.2.2.2.1.length:Int)==0))] [some ⟨5,60,[AA.enc x0],false⟩] kr ?_
        rcases BE ((x0.2.2.2.1.length:Int)==0) with hc43 | hc43
        ·rw [if_pos hc43] at hj42
         rw [hc43];refine AD (n:=87) AC 2 [(1,.pt 0 0 0),(77,.b true),(79,.j x0.2.2.2.2)] [some ⟨5,60,[AA.enc x0],false⟩] kr ?_;obtain ⟨v40,hv40,hj42⟩:=OB hj42;refine AS (caps:=[]) (xs:=[.j x0.2.2.2.2,.j 0,.j 63]) (u:=(x0.2.2.2.2,0,63,())) rfl rfl Fe rfl kr kr kr (AL (AW (c:=cdI) (v:=x0.2.2.2.2)) (AL (AW (c:=cdI) (v:=0)) (AL (AW (c:=cdI) (v:=63)) Ao))) (.inl kr) hv40 ?_;refine AD (n:=87) AC 2 [(1,.pt 0 0 0),(82,.b v40)] [some ⟨5,60,[AA.enc x0],false⟩] kr ?_;rcases BE v40 with hc44 | hc44
         ·rw [if_pos hc44] at hj42
          rw [hc44];refine AD (n:=87) AC 5 [(2,.b (!x0.2.2.1))] [some ⟨5,60,[AA.enc x0],false⟩] kr ?_;have hq:=OI hj42; subst hq;exact AI rfl (Ar [] trivial ⟨lv,trivial⟩)
         ·rw [Bm hc44] at hj42
          rw [hc44];refine AD (n:=87) AC 5 [(2,.b false)] [some ⟨5,60,[AA.enc x0],false⟩] kr ?_;have hq:=OI hj42; subst hq;exact AI rfl (Ar [] trivial ⟨lv,trivial⟩)
        ·rw [Bm hc43] at hj42
         rw [hc43];refine AD (n:=87) AC 10 [(2,.b false)] [some ⟨5,60,[AA.enc x0],false⟩] kr ?_;have hq:=OI hj42; subst hq;exact AI rfl (Ar [] trivial ⟨lv,trivial⟩)
       refine AR ?_;have hq:=OI h; subst hq;exact ⟨⟨Fr 87 [(2,.b j42)],[]⟩,AJ,.inr rfl,[.b j42],kr,kr⟩
      ·rw [Bm hb39] at h
       refine AY ?_;refine AH ?_;refine AM (s1:=⟨Fr 87 [(2,.b false)],[]⟩) ?_ ?_
       ·refine AD (n:=87) AC 1 [(2,.b false)] [some ⟨5,60,[AA.enc x0],false⟩] kr ?_
        exact AI rfl (Ar [] trivial ⟨lv,trivial⟩)
       refine AR ?_;have hq:=OI h; subst hq;exact ⟨⟨Fr 87 [(2,.b false)],[]⟩,AJ,.inr rfl,[.b false],kr,kr⟩
def Ui:List AV->Option AV:=ES MB (fun a=>BX a.1) MJ
theorem Us:XOk 168 Ui:=by
 refine AU Tryz.func168 (c:=Hc) ?h2 ⟨Tryz.call168⟩ MB (fun a=>BX a.1) MJ (fun a=>(by show 1<=87; decide)) ?h3 ?h4
 case h2=>kernel_rfl
 case h3=>intro b; kernel_rfl
 case h4=>exact fun a b h=>SY a.1 b h
end Go.Proofs.YtlalcoehgkmhlaaGreatDoor
