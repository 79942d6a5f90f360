/- Lemmas for the proof. -/
import Derived.Test.YtlalcoehgkmhlaaGreatDoorCourtOrdersM1
import Derived.Test.YtlalcoehgkmhlaaGreatDoorCourtOrdersM2
import Derived.Test.YtlalcoehgkmhlaaGreatDoorCourtOrdersM3
import Derived.Test.YtlalcoehgkmhlaaGreatDoorCourtOrdersM4
import Derived.Test.YtlalcoehgkmhlaaGreatDoorCourtOrdersM5
set_option maxHeartbeats 4000000
set_option maxRecDepth 100000
namespace Go.Proofs.YtlalcoehgkmhlaaGreatDoor
open Go.RowKit
/- trestle/court.by$1 -/
noncomputable def Ph:Code:=A9 Tryz.f205
def Cy {β:Type}(G:Ae->β->Option Int) (x0:Ae) (x1:Ae) (x2:β):Option (Int) :=
 (G x0 x2).bind fun v1 =>
 (G x1 x2).bind fun v2 =>
 (Co v1 v2).bind fun v3 =>
 some v3
def Me {β:Type}(fid:FuncId) (sx:Cs β) (hn:∀ x,(sx.enc x).all IN=true):Cs (Ae×Ae×β×Unit):=(csC AF (csC AF (csC (cdP (cdF fid sx hn)) csN)))
def Mp (r:Int):AV:=cdI.enc r
theorem Tu {β:Type}{fid:FuncId}{sx:Cs β}{hn:∀ x,(sx.enc x).all IN=true}{G:Ae->β->Option Int}(hX:XOk fid (Dm (csC AF sx) (fun a=>G a.1 a.2) cdI.enc)) (x0:Ae) (x1:Ae) (x2:β) (r:Int) (h:Cy G x0 x1 x2=some r):Sem E0 ⟨none,false⟩ Ph ⟨Fr 13 (A0 0 ((Me fid sx hn).enc (x0,x1,x2,()))),[]⟩ fun e s'=>(e = .normal\/e = .ret)/\∃ xs,Dz E0.P s'.fr s'.hp Tryz.f205.results.toList=some xs/\D0 xs=Mp r:=by
 unfold Cy at h
 refine Ao (BL (s1:=⟨Fr 13 [(0,AF.enc x0),(1,AF.enc x1),(2,.pe (.fn fid [] (sx.enc x2)) 0)],[]⟩) AM ?_)
 refine AK AC [(2,.pe (.fn fid [] (sx.enc x2)) 0),(3,.pt 0 0 0),(4,.pt 1 0 0)] [some ⟨10,115,[AF.enc x0],false⟩,some ⟨10,115,[AF.enc x1],false⟩] ?_
 refine AG ?_
 obtain ⟨v1,hv1,h⟩:=OB h
 obtain ⟨v2,hv2,h⟩:=OB h
 obtain ⟨v3,hv3,h⟩:=OB h
 refine C0 AC (s1:=⟨Fr 13 [(5,.v (.int .i64 v3))],[]⟩) kr ?_ ?_
 ·refine AU (n:=13) AC 2 [(2,.pe (.fn fid [] (sx.enc x2)) 0),(4,.pt 1 0 0),(6,.fn fid [] (sx.enc x2)),(7,AF.enc x0)] [some ⟨10,115,[AF.enc x0],false⟩,some ⟨10,115,[AF.enc x1],false⟩] kr kr ?_
  refine BQ (caps:=sx.enc x2) (xs:=[AF.enc x0]) (u:=(x0,x2)) rfl rfl hX rfl (AB rfl) kr kr (AJ (AQ (c:=AF) (v:=x0)) (Ul (n:=10) (s:=sx) (a:=x2))) kr hv1 ?_
  refine AU (n:=13) AC 2 [(8,.v (.int .i64 v1)),(9,.fn fid [] (sx.enc x2)),(10,AF.enc x1)] [some ⟨10,115,[AF.enc x0],false⟩,some ⟨10,115,[AF.enc x1],false⟩] kr kr ?_
  refine BQ (caps:=sx.enc x2) (xs:=[AF.enc x1]) (u:=(x1,x2)) rfl rfl hX rfl (AB rfl) kr kr (AJ (AQ (c:=AF) (v:=x1)) (Ul (n:=10) (s:=sx) (a:=x2))) kr hv2 ?_
  refine BQ (caps:=[]) (xs:=[.v (.int .i64 v1),.v (.int .i64 v2)]) (u:=(v1,v2,())) rfl rfl Gg rfl (AB rfl) kr kr (AJ (AQ (c:=cdI) (v:=v1)) (AJ (AQ (c:=cdI) (v:=v2)) Ah)) kr hv3 ?_
  refine AU (n:=13) AC 1 [(5,.v (.int .i64 v3))] [some ⟨10,115,[AF.enc x0],false⟩,some ⟨10,115,[AF.enc x1],false⟩] kr kr ?_
  exact RunDS.done rfl (Ac [] trivial ⟨lv,trivial⟩)
 refine AO ?_
 have hq:=OI h; subst hq
 exact ⟨⟨Fr 13 [(5,.v (.int .i64 v3))],[]⟩,AM,.inr rfl,[.v (.int .i64 v3)],kr,kr⟩
def WQ {β:Type}(fid:FuncId) (sx:Cs β) (hn:∀ x,(sx.enc x).all IN=true) (G:Ae->β->Option Int):List AV->Option AV:=Dm (Me fid sx hn) (fun a=>Cy G a.1 a.2.1 a.2.2.1) Mp
theorem Jd {β:Type}{fid:FuncId}{sx:Cs β}{hn:∀ x,(sx.enc x).all IN=true}{G:Ae->β->Option Int}(hX:XOk fid (Dm (csC AF sx) (fun a=>G a.1 a.2) cdI.enc)):XOk 205 (WQ fid sx hn G):=by
 refine AR Tryz.func205 (c:=Ph) ?h2 ⟨Tryz.call205⟩ (Me fid sx hn) (fun a=>Cy G a.1 a.2.1 a.2.2.1) Mp (fun a=>(by show 3<=13; decide)) ?h3 ?h4
 case h2=>kernel_rfl
 case h3=>intro b; kernel_rfl
 case h4=>exact fun a b h=>Tu hX a.1 a.2.1 a.2.2.1 b h
/- trestle/court.plain$1 -/
noncomputable def NF:Code:=A9 Tryz.f178
def EX (x0:Ae) (x1:AH):Option (Int) :=
 (B3 x1.2.2.2.1 x0.1.2.1).bind fun v1 =>
 if (decide (v1≥0))=true then
 some v1
 else
 some (x1.2.2.2.1.length:Int)
def Jp:Cs (Ae×AH×Unit):=(csC AF (csC (cdP AA) csN))
def J9 (r:Int):AV:=cdI.enc r
theorem Qg (x0:Ae) (x1:AH) (r:Int) (h:EX x0 x1=some r):Sem E0 ⟨none,false⟩ NF ⟨Fr 17 (A0 0 (Jp.enc (x0,x1,()))),[]⟩ fun e s'=>(e = .normal\/e = .ret)/\∃ xs,Dz E0.P s'.fr s'.hp Tryz.f178.results.toList=some xs/\D0 xs=J9 r:=by
 unfold EX at h
 let p1:Nat×AV:=(1,.pe (AA.enc x1) 0)
 refine Ao (BL (s1:=⟨Fr 17 [(0,AF.enc x0),p1],[]⟩) AM ?_)
 let p2:Option Blk:=some ⟨10,115,[AF.enc x0],false⟩
 refine AK AC [p1,(2,.pt 0 0 0)] [p2] ?_;refine AG ?_;refine AG ?_;obtain ⟨v1,hv1,h⟩:=OB h
 let p3:Nat×AV:=(4,.v (.int .i64 v1))
 refine AL (s1:=⟨Fr 17 [p1,p3],[]⟩) ?_ ?_
 ·refine AD (n:=17) AC 5 [p1,(6,.sl 1 (x1.2.2.2.1.map cdS.enc)),(9,.st x0.1.2.1)] [p2] kr ?_
  refine AN (caps:=[]) (xs:=[.sl 1 (x1.2.2.2.1.map cdS.enc),.st x0.1.2.1]) (u:=(x1.2.2.2.1,x0.1.2.1,())) rfl rfl HD rfl (AB rfl) kr kr (AJ (AQ (c:=(cdL 1 cdS)) (v:=x1.2.2.2.1)) (AJ (AQ (c:=cdS) (v:=x0.1.2.1)) Ah)) (.inl kr) hv1 ?_;refine AD (n:=17) AC 1 [p1,p3] [p2] kr ?_;exact AI rfl (Ac [] trivial ⟨lv,lv,trivial⟩)
 refine AK AC [p1,p3,(12,.v (.bool (decide (v1≥0))))] [] ?_;refine AP (b:=(decide (v1≥0))) kr (fun hb2=>?_) (fun hb2=>?_)
 ·rw [if_pos hb2] at h
  refine AK AC [(3,.v (.int .i64 v1))] [] ?_;refine AO ?_;have hq:=OI h; subst hq;exact ⟨⟨Fr 17 [(3,.v (.int .i64 v1))],[]⟩,AM,.inr rfl,[.v (.int .i64 v1)],kr,kr⟩
 ·rw [BV hb2] at h
  refine AT ?_;refine AG ?_
  let p4:Nat×AV:=(3,.v (.int .i64 (x1.2.2.2.1.length:Int)))
  refine AL (s1:=⟨Fr 17 [p4],[]⟩) ?_ ?_
  ·refine AD (n:=17) AC 2 [(15,.sl 1 (x1.2.2.2.1.map cdS.enc))] [] kr ?_
   refine AW AC 0 rfl (DW (AB rfl) rfl (CO (a:= .sl 1 (x1.2.2.2.1.map cdS.enc)) kr (BS (el:=9) kr))) ?_;exact AX AC
  refine AO ?_;have hq:=OI h; subst hq;exact ⟨⟨Fr 17 [p4],[]⟩,AM,.inr rfl,[.v (.int .i64 (x1.2.2.2.1.length:Int))],kr,kr⟩
def TE:List AV->Option AV:=Dm Jp (fun a=>EX a.1 a.2.1) J9
theorem Tc:XOk 178 TE:=by
 refine AR Tryz.func178 (c:=NF) ?h2 ⟨Tryz.call178⟩ Jp (fun a=>EX a.1 a.2.1) J9 (fun a=>(by show 2<=17; decide)) ?h3 ?h4
 case h2=>kernel_rfl
 case h3=>intro b; kernel_rfl
 case h4=>exact fun a b h=>Qg a.1 a.2.1 b h
/- trestle/court.b2i -/
noncomputable def RO:Code:=A9 Tryz.f180
def Kp (x0:Bool):Option (Int) :=
 if x0=true then
 some 1
 else
 some 0
def Np:Cs (Bool×Unit):=(csC cdB csN)
def N0 (r:Int):AV:=cdI.enc r
theorem Uu (x0:Bool) (r:Int) (h:Kp x0=some r):Sem E0 ⟨none,false⟩ RO ⟨Fr 4 (A0 0 (Np.enc (x0,()))),[]⟩ fun e s'=>(e = .normal\/e = .ret)/\∃ xs,Dz E0.P s'.fr s'.hp Tryz.f180.results.toList=some xs/\D0 xs=N0 r:=by
 unfold Kp at h;refine Ao (BL (s1:=⟨Fr 4 [(0,.v (.bool x0))],[]⟩) AM ?_);refine AK AC [(0,.v (.bool x0))] [] ?_;refine AG ?_;refine AK AC [(3,.v (.bool x0))] [] ?_;refine AP (b:=x0) kr (fun hb1=>?_) (fun hb1=>?_)
 ·rw [if_pos hb1] at h
  refine AK AC [(2,.v (.int .i64 1))] [] ?_;refine AO ?_;have hq:=OI h; subst hq;exact ⟨⟨Fr 4 [(2,.v (.int .i64 1))],[]⟩,AM,.inr rfl,[.v (.int .i64 1)],kr,kr⟩
 ·rw [BV hb1] at h
  refine AT ?_;refine AK AC [(2,.v (.int .i64 0))] [] ?_;refine AO ?_;have hq:=OI h; subst hq;exact ⟨⟨Fr 4 [(2,.v (.int .i64 0))],[]⟩,AM,.inr rfl,[.v (.int .i64 0)],kr,kr⟩
def XU:List AV->Option AV:=Dm Np (fun a=>Kp a.1) N0
theorem TY:XOk 180 XU:=by
 refine AR Tryz.func180 (c:=RO) ?h2 ⟨Tryz.call180⟩ Np (fun a=>Kp a.1) N0 (fun a=>(by show 1<=4; decide)) ?h3 ?h4
 case h2=>kernel_rfl
 case h3=>intro b; kernel_rfl
 case h4=>exact fun a b h=>Uu a.1 b h
/- trestle/court.plain$2 -/
noncomputable def Ji:Code:=A9 Tryz.f179
def Hz (x2:AH) (v5:Int):Option ((Int)) :=
 if (x2.1==3)=true then
 some (wr .i64 (0 - v5))
 else
 some v5
def Dn (x0:Ae) (x1:Ae) (x2:AH):Option (Int) :=
 if (!((x0.1.2.2.2.1==0)==(x1.1.2.2.2.1==0)))=true then
 (Kp (x0.1.2.2.2.1==0)).bind fun v2 =>
 (Kp (x1.1.2.2.2.1==0)).bind fun v3 =>
 (Co v2 v3).bind fun v4 =>
 some v4
 else
 (Co x0.1.2.2.2.1 x1.1.2.2.2.1).bind fun v5 =>
 (Hz x2 v5).bind fun r8 =>
 some r8
def Jq:Cs (Ae×Ae×AH×Unit):=(csC AF (csC AF (csC (cdP AA) csN)))
def KA (r:Int):AV:=cdI.enc r
theorem PL (x2:AH) (v5:Int) (r:(Int)) (h:Hz x2 v5=some r):Sem E0 ⟨none,false⟩ (pc Ji [1,1,1,0,1]) ⟨Fr 40 [(6,.v (.int .i64 v5)),(36,.v (.bool (x2.1==3)))],[]⟩ (fun e s=>e = .normal/\Wk E0 s ⟨Fr 40 [(6,.v (.int .i64 r))],[]⟩):=by
 unfold Hz at h;refine AP (b:=(x2.1==3)) kr (fun hb6=>?_) (fun hb6=>?_)
 ·rw [if_pos hb6] at h
  refine DC AC [(6,.v (.int .i64 (wr .i64 (0 - v5))))] [] ?_;have hq:=OI h; subst hq;exact ⟨rfl,AM⟩
 ·rw [BV hb6] at h
  refine AT ?_;have hq:=OI h; subst hq;exact ⟨rfl,AM⟩
theorem Qh (x0:Ae) (x1:Ae) (x2:AH) (r:Int) (h:Dn x0 x1 x2=some r):Sem E0 ⟨none,false⟩ Ji ⟨Fr 40 (A0 0 (Jq.enc (x0,x1,x2,()))),[]⟩ fun e s'=>(e = .normal\/e = .ret)/\∃ xs,Dz E0.P s'.fr s'.hp Tryz.f179.results.toList=some xs/\D0 xs=KA r:=by
 unfold Dn at h
 let p1:Nat×AV:=(2,.pe (AA.enc x2) 0)
 refine Ao (BL (s1:=⟨Fr 40 [(0,AF.enc x0),(1,AF.enc x1),p1],[]⟩) AM ?_)
 let p2:Option Blk:=some ⟨10,115,[AF.enc x1],false⟩
 let p3:Option Blk:=some ⟨10,115,[AF.enc x0],false⟩
 refine AK AC [p1,(3,.pt 0 0 0),(4,.pt 1 0 0)] [p3,p2] ?_;refine AG ?_;refine AK AC [p1,(3,.pt 0 0 0),(4,.pt 1 0 0),(15,.v (.bool (!((x0.1.2.2.2.1==0)==(x1.1.2.2.2.1==0)))))] [p3,p2] ?_;refine AP (b:=(!((x0.1.2.2.2.1==0)==(x1.1.2.2.2.1==0)))) kr (fun hb1=>?_) (fun hb1=>?_)
 ·rw [if_pos hb1] at h
  refine AG ?_;obtain ⟨v2,hv2,h⟩:=OB h;obtain ⟨v3,hv3,h⟩:=OB h;obtain ⟨v4,hv4,h⟩:=OB h
  let p4:Nat×AV:=(5,.v (.int .i64 v4))
  refine C0 AC (s1:=⟨Fr 40 [p4],[]⟩) kr ?_ ?_
  ·refine AU (n:=40) AC 4 [(4,.pt 1 0 0),(19,.v (.bool (x0.1.2.2.2.1==0)))] [p3,p2] kr kr ?_
   refine BQ (caps:=[]) (xs:=[.v (.bool (x0.1.2.2.2.1==0))]) (u:=((x0.1.2.2.2.1==0),())) rfl rfl TY rfl (AB rfl) kr kr (AJ (AQ (c:=cdB) (v:=(x0.1.2.2.2.1==0))) Ah) kr hv2 ?_;refine AU (n:=40) AC 4 [(20,.v (.int .i64 v2)),(24,.v (.bool (x1.1.2.2.2.1==0)))] [p3,p2] kr kr ?_;refine BQ (caps:=[]) (xs:=[.v (.bool (x1.1.2.2.2.1==0))]) (u:=((x1.1.2.2.2.1==0),())) rfl rfl TY rfl (AB rfl) kr kr (AJ (AQ (c:=cdB) (v:=(x1.1.2.2.2.1==0))) Ah) kr hv3 ?_;refine BQ (caps:=[]) (xs:=[.v (.int .i64 v2),.v (.int .i64 v3)]) (u:=(v2,v3,())) rfl rfl Gg rfl (AB rfl) kr kr (AJ (AQ (c:=cdI) (v:=v2)) (AJ (AQ (c:=cdI) (v:=v3)) Ah)) kr hv4 ?_;refine AU (n:=40) AC 1 [p4] [p3,p2] kr kr ?_;exact RunDS.done rfl (Ac [] trivial ⟨lv,trivial⟩)
  refine AO ?_;have hq:=OI h; subst hq;exact ⟨⟨Fr 40 [p4],[]⟩,AM,.inr rfl,[.v (.int .i64 v4)],kr,kr⟩
 ·rw [BV hb1] at h
  refine AT ?_;refine AG ?_;obtain ⟨v5,hv5,h⟩:=OB h
  let p5:Nat×AV:=(6,.v (.int .i64 v5))
  refine AL (s1:=⟨Fr 40 [p1,p5],[]⟩) ?_ ?_
  ·refine AD (n:=40) AC 6 [p1,(29,.v (.int .i64 x0.1.2.2.2.1)),(32,.v (.int .i64 x1.1.2.2.2.1))] [p3,p2] kr ?_
   refine AN (caps:=[]) (xs:=[.v (.int .i64 x0.1.2.2.2.1),.v (.int .i64 x1.1.2.2.2.1)]) (u:=(x0.1.2.2.2.1,x1.1.2.2.2.1,())) rfl rfl Gg rfl (AB rfl) kr kr (AJ (AQ (c:=cdI) (v:=x0.1.2.2.2.1)) (AJ (AQ (c:=cdI) (v:=x1.1.2.2.2.1)) Ah)) (.inl kr) hv5 ?_;refine AD (n:=40) AC 1 [p1,p5] [p3,p2] kr ?_;exact AI rfl (Ac [] trivial ⟨lv,lv,trivial⟩)
  refine AG ?_;refine AK AC [p5,(36,.v (.bool (x2.1==3)))] [] ?_;obtain ⟨r8,hr8,h⟩:=OB h;refine Fo (PL x2 v5 _ hr8) ?_;refine AK AC [(5,.v (.int .i64 r8))] [] ?_;refine AO ?_;have hq:=OI h; subst hq;exact ⟨⟨Fr 40 [(5,.v (.int .i64 r8))],[]⟩,AM,.inr rfl,[.v (.int .i64 r8)],kr,kr⟩
def TG:List AV->Option AV:=Dm Jq (fun a=>Dn a.1 a.2.1 a.2.2.1) KA
theorem OO:XOk 179 TG:=by
 refine AR Tryz.func179 (c:=Ji) ?h2 ⟨Tryz.call179⟩ Jq (fun a=>Dn a.1 a.2.1 a.2.2.1) KA (fun a=>(by show 3<=40; decide)) ?h3 ?h4
 case h2=>kernel_rfl
 case h3=>intro b; kernel_rfl
 case h4=>exact fun a b h=>Qh a.1 a.2.1 a.2.2.1 b h
/- cmp.isNaN[string] -/
noncomputable def Kf:Code:=A9 Tryz.f207
def Eu (x0:(List UInt8)):Option (Bool) :=
 some (!(x0==x0))
def H5:Cs ((List UInt8)×Unit):=(csC cdS csN)
def H7 (r:Bool):AV:=cdB.enc r
theorem Od (x0:(List UInt8)) (r:Bool) (h:Eu x0=some r):Sem E0 ⟨none,false⟩ Kf ⟨Fr 6 (A0 0 (H5.enc (x0,()))),[]⟩ fun e s'=>(e = .normal\/e = .ret)/\∃ xs,Dz E0.P s'.fr s'.hp Tryz.f207.results.toList=some xs/\D0 xs=H7 r:=by
 unfold Eu at h;refine Ao (BL (s1:=⟨Fr 6 [(0,.st x0)],[]⟩) AM ?_);refine AK AC [(0,.st x0)] [] ?_;refine AK AC [(2,.v (.bool (!(x0==x0))))] [] ?_;refine AO ?_;have hq:=OI h; subst hq;exact ⟨⟨Fr 6 [(2,.v (.bool (!(x0==x0))))],[]⟩,AM,.inr rfl,[.v (.bool (!(x0==x0)))],kr,kr⟩
def QM:List AV->Option AV:=Dm H5 (fun a=>Eu a.1) H7
theorem Lk:XOk 207 QM:=by
 refine AR Tryz.func207 (c:=Kf) ?h2 ⟨Tryz.call207⟩ H5 (fun a=>Eu a.1) H7 (fun a=>(by show 1<=6; decide)) ?h3 ?h4
 case h2=>kernel_rfl
 case h3=>intro b; kernel_rfl
 case h4=>exact fun a b h=>Od a.1 b h
/- cmp.Compare[string] -/
noncomputable def JR:Code:=A9 Tryz.f188
def D2 (x0:(List UInt8)) (x1:(List UInt8)):Option (Int) :=
 (Eu x0).bind fun v1 =>
 (Eu x1).bind fun v2 =>
 if v1=true then
 if v2=true then
 some 0
 else
 some (-1)
 else
 if v2=true then
 some 1
 else
 if (Go.Op.bytesLess x0 x1)=true then
 some (-1)
 else
 if (!((Go.Op.bytesLess x0 x1)||(x0==x1)))=true then
 some 1
 else
 some 0
def HM:Cs ((List UInt8)×(List UInt8)×Unit):=(csC cdS (csC cdS csN))
def HO (r:Int):AV:=cdI.enc r
theorem Nd (x0:(List UInt8)) (x1:(List UInt8)) (r:Int) (h:D2 x0 x1=some r):Sem E0 ⟨none,false⟩ JR ⟨Fr 20 (A0 0 (HM.enc (x0,x1,()))),[]⟩ fun e s'=>(e = .normal\/e = .ret)/\∃ xs,Dz E0.P s'.fr s'.hp Tryz.f188.results.toList=some xs/\D0 xs=HO r:=by
 unfold D2 at h;refine Ao (BL (s1:=⟨Fr 20 [(0,.st x0),(1,.st x1)],[]⟩) AM ?_);refine AK AC [(0,.st x0),(1,.st x1)] [] ?_;refine AG ?_;obtain ⟨v1,hv1,h⟩:=OB h
 let p1:Nat×AV:=(5,.v (.bool v1))
 refine AL (s1:=⟨Fr 20 [(0,.st x0),(1,.st x1),p1],[]⟩) ?_ ?_
 ·refine AD (n:=20) AC 1 [(0,.st x0),(1,.st x1),(7,.st x0)] [] kr ?_
  refine AN (caps:=[]) (xs:=[.st x0]) (u:=(x0,())) rfl rfl Lk rfl (AB rfl) kr kr (AJ (AQ (c:=cdS) (v:=x0)) Ah) (.inl kr) hv1 ?_;exact AX AC
 refine AG ?_;obtain ⟨v2,hv2,h⟩:=OB h;refine AL (s1:=⟨Fr 20 [(0,.st x0),(1,.st x1),p1,(6,.v (.bool v2))],[]⟩) ?_ ?_
 ·refine AD (n:=20) AC 1 [(0,.st x0),(1,.st x1),p1,(9,.st x1)] [] kr ?_
  refine AN (caps:=[]) (xs:=[.st x1]) (u:=(x1,())) rfl rfl Lk rfl (AB rfl) kr kr (AJ (AQ (c:=cdS) (v:=x1)) Ah) (.inl kr) hv2 ?_;exact AX AC
 refine AG ?_;refine AK AC [(0,.st x0),(1,.st x1),(6,.v (.bool v2)),(11,.v (.bool v1))] [] ?_;refine AP (b:=v1) kr (fun hb3=>?_) (fun hb3=>?_)
 ·rw [if_pos hb3] at h
  refine AG ?_;refine AK AC [(12,.v (.bool v2))] [] ?_;refine AP (b:=v2) kr (fun hb4=>?_) (fun hb4=>?_)
  ·rw [if_pos hb4] at h
   refine AK AC [(4,.v (.int .i64 0))] [] ?_;refine AO ?_;have hq:=OI h; subst hq;exact ⟨⟨Fr 20 [(4,.v (.int .i64 0))],[]⟩,AM,.inr rfl,[.v (.int .i64 0)],kr,kr⟩
  ·rw [BV hb4] at h
   refine AT ?_;refine AK AC [(4,.v (.int .i64 (-1)))] [] ?_;refine AO ?_;have hq:=OI h; subst hq;exact ⟨⟨Fr 20 [(4,.v (.int .i64 (-1)))],[]⟩,AM,.inr rfl,[.v (.int .i64 (-1))],kr,kr⟩
 ·rw [BV hb3] at h
  refine AT ?_;refine AG ?_;refine AK AC [(0,.st x0),(1,.st x1),(13,.v (.bool v2))] [] ?_;refine AP (b:=v2) kr (fun hb5=>?_) (fun hb5=>?_)
  ·rw [if_pos hb5] at h
   refine AK AC [(4,.v (.int .i64 1))] [] ?_;refine AO ?_;have hq:=OI h; subst hq;exact ⟨⟨Fr 20 [(4,.v (.int .i64 1))],[]⟩,AM,.inr rfl,[.v (.int .i64 1)],kr,kr⟩
  ·rw [BV hb5] at h
   refine AT ?_;refine AG ?_;refine AK AC [(0,.st x0),(1,.st x1),(16,.v (.bool (Go.Op.bytesLess x0 x1)))] [] ?_;refine AP (b:=(Go.Op.bytesLess x0 x1)) kr (fun hb6=>?_) (fun hb6=>?_)
   ·rw [if_pos hb6] at h
    refine AK AC [(4,.v (.int .i64 (-1)))] [] ?_;refine AO ?_;have hq:=OI h; subst hq;exact ⟨⟨Fr 20 [(4,.v (.int .i64 (-1)))],[]⟩,AM,.inr rfl,[.v (.int .i64 (-1))],kr,kr⟩
   ·rw [BV hb6] at h
    refine AT ?_;refine AG ?_;refine AK AC [(19,.v (.bool (!((Go.Op.bytesLess x0 x1)||(x0==x1)))))] [] ?_;refine AP (b:=(!((Go.Op.bytesLess x0 x1)||(x0==x1)))) kr (fun hb7=>?_) (fun hb7=>?_)
    ·rw [if_pos hb7] at h
     refine AK AC [(4,.v (.int .i64 1))] [] ?_;refine AO ?_;have hq:=OI h; subst hq;exact ⟨⟨Fr 20 [(4,.v (.int .i64 1))],[]⟩,AM,.inr rfl,[.v (.int .i64 1)],kr,kr⟩
    ·rw [BV hb7] at h
     refine AT ?_;refine AK AC [(4,.v (.int .i64 0))] [] ?_;refine AO ?_;have hq:=OI h; subst hq;exact ⟨⟨Fr 20 [(4,.v (.int .i64 0))],[]⟩,AM,.inr rfl,[.v (.int .i64 0)],kr,kr⟩
def Oq:List AV->Option AV:=Dm HM (fun a=>D2 a.1 a.2.1) HO
theorem Ou:XOk 188 Oq:=by
 refine AR Tryz.func188 (c:=JR) ?h2 ⟨Tryz.call188⟩ HM (fun a=>D2 a.1 a.2.1) HO (fun a=>(by show 2<=20; decide)) ?h3 ?h4
 case h2=>kernel_rfl
 case h3=>intro b; kernel_rfl
 case h4=>exact fun a b h=>Nd a.1 a.2.1 b h
/- trestle/court.plain$7 -/
noncomputable def NK:Code:=A9 Tryz.f187
def F3 (x0:Ae) (x1:Ae):Option (Int) :=
 (D2 x0.1.1 x1.1.1).bind fun v1 =>
 some v1
def Jv:Cs (Ae×Ae×Unit):=(csC AF (csC AF csN))
def KF (r:Int):AV:=cdI.enc r
theorem Qn (x0:Ae) (x1:Ae) (r:Int) (h:F3 x0 x1=some r):Sem E0 ⟨none,false⟩ NK ⟨Fr 12 (A0 0 (Jv.enc (x0,x1,()))),[]⟩ fun e s'=>(e = .normal\/e = .ret)/\∃ xs,Dz E0.P s'.fr s'.hp Tryz.f187.results.toList=some xs/\D0 xs=KF r:=by
 unfold F3 at h;refine Ao (BL (s1:=⟨Fr 12 [(0,AF.enc x0),(1,AF.enc x1)],[]⟩) AM ?_)
 let p1:Option Blk:=some ⟨10,115,[AF.enc x1],false⟩
 let p2:Option Blk:=some ⟨10,115,[AF.enc x0],false⟩
 refine AK AC [(2,.pt 0 0 0),(3,.pt 1 0 0)] [p2,p1] ?_;refine AG ?_;obtain ⟨v1,hv1,h⟩:=OB h
 let p3:Nat×AV:=(4,.v (.int .i64 v1))
 refine AL (s1:=⟨Fr 12 [p3],[]⟩) ?_ ?_
 ·refine AD (n:=12) AC 6 [(7,.st x0.1.1),(10,.st x1.1.1)] [p2,p1] kr ?_
  refine AN (caps:=[]) (xs:=[.st x0.1.1,.st x1.1.1]) (u:=(x0.1.1,x1.1.1,())) rfl rfl Ou rfl (AB rfl) kr kr (AJ (AQ (c:=cdS) (v:=x0.1.1)) (AJ (AQ (c:=cdS) (v:=x1.1.1)) Ah)) (.inl kr) hv1 ?_;refine AD (n:=12) AC 1 [p3] [p2,p1] kr ?_;exact AI rfl (Ac [] trivial ⟨lv,trivial⟩)
 refine AO ?_;have hq:=OI h; subst hq;exact ⟨⟨Fr 12 [p3],[]⟩,AM,.inr rfl,[.v (.int .i64 v1)],kr,kr⟩
def TL:List AV->Option AV:=Dm Jv (fun a=>F3 a.1 a.2.1) KF
theorem Th:XOk 187 TL:=by
 refine AR Tryz.func187 (c:=NK) ?h2 ⟨Tryz.call187⟩ Jv (fun a=>F3 a.1 a.2.1) KF (fun a=>(by show 2<=12; decide)) ?h3 ?h4
 case h2=>kernel_rfl
 case h3=>intro b; kernel_rfl
 case h4=>exact fun a b h=>Qn a.1 a.2.1 b h
/- trestle/court.plain$3 -/
noncomputable def NG:Code:=A9 Tryz.f182
def IZ (x0:Ae) (x1:AH):Option (Bool) :=
 some (x0.1.2.2.2.2.1==x1.2.2.2.2)
def Jr:Cs (Ae×AH×Unit):=(csC AF (csC (cdP AA) csN))
def KB (r:Bool):AV:=cdB.enc r
theorem Qi (x0:Ae) (x1:AH) (r:Bool) (h:IZ x0 x1=some r):Sem E0 ⟨none,false⟩ NG ⟨Fr 10 (A0 0 (Jr.enc (x0,x1,()))),[]⟩ fun e s'=>(e = .normal\/e = .ret)/\∃ xs,Dz E0.P s'.fr s'.hp Tryz.f182.results.toList=some xs/\D0 xs=KB r:=by
 unfold IZ at h;refine Ao (BL (s1:=⟨Fr 10 [(0,AF.enc x0),(1,.pe (AA.enc x1) 0)],[]⟩) AM ?_)
 let p1:Option Blk:=some ⟨10,115,[AF.enc x0],false⟩
 refine AK AC [(1,.pe (AA.enc x1) 0),(2,.pt 0 0 0)] [p1] ?_;refine AG ?_
 let p2:Nat×AV:=(3,.v (.bool (x0.1.2.2.2.2.1==x1.2.2.2.2)))
 refine AL (s1:=⟨Fr 10 [p2],[]⟩) ?_ ?_
 ·refine AD (n:=10) AC 7 [p2] [p1] kr ?_
  exact AI rfl (Ac [] trivial ⟨lv,trivial⟩)
 refine AO ?_;have hq:=OI h; subst hq;exact ⟨⟨Fr 10 [p2],[]⟩,AM,.inr rfl,[.v (.bool (x0.1.2.2.2.2.1==x1.2.2.2.2))],kr,kr⟩
def TH:List AV->Option AV:=Dm Jr (fun a=>IZ a.1 a.2.1) KB
theorem Td:XOk 182 TH:=by
 refine AR Tryz.func182 (c:=NG) ?h2 ⟨Tryz.call182⟩ Jr (fun a=>IZ a.1 a.2.1) KB (fun a=>(by show 2<=10; decide)) ?h3 ?h4
 case h2=>kernel_rfl
 case h3=>intro b; kernel_rfl
 case h4=>exact fun a b h=>Qi a.1 a.2.1 b h
/- trestle/court.named$1 -/
noncomputable def GU:Code:=A9 Tryz.f206
def Bh (x0:Ae) (x1:AH) (x2:AH):Option (Int) :=
 (IZ x0 x1).bind fun v1 =>
 if (!(v1==x2.2.2.1))=true then
 some 0
 else
 some 1
def EL:Cs (Ae×AH×AH×Unit):=(csC AF (csC (cdP (cdF 182 (csE (cdP AA)) (fun _=>rfl))) (csC (cdP AA) csN)))
def EP (r:Int):AV:=cdI.enc r
theorem It (x0:Ae) (x1:AH) (x2:AH) (r:Int) (h:Bh x0 x1 x2=some r):Sem E0 ⟨none,false⟩ GU ⟨Fr 11 (A0 0 (EL.enc (x0,x1,x2,()))),[]⟩ fun e s'=>(e = .normal\/e = .ret)/\∃ xs,Dz E0.P s'.fr s'.hp Tryz.f206.results.toList=some xs/\D0 xs=EP r:=by
 unfold Bh at h
 let p1:Nat×AV:=(2,.pe (AA.enc x2) 0)
 let p2:Nat×AV:=(1,.pe (.fn 182 [] [.pe (AA.enc x1) 0]) 0)
 refine Ao (BL (s1:=⟨Fr 11 [(0,AF.enc x0),p2,p1],[]⟩) AM ?_)
 let p3:Option Blk:=some ⟨10,115,[AF.enc x0],false⟩
 refine AK AC [p2,p1,(3,.pt 0 0 0)] [p3] ?_;refine AG ?_;refine AG ?_;obtain ⟨v1,hv1,h⟩:=OB h
 let p4:Nat×AV:=(10,.v (.bool (!(v1==x2.2.2.1))))
 refine C0 AC (s1:=⟨Fr 11 [p4],[]⟩) kr ?_ ?_
 ·refine AU (n:=11) AC 2 [p1,(5,.fn 182 [] [.pe (AA.enc x1) 0]),(6,AF.enc x0)] [p3] kr kr ?_
  refine BQ (caps:=[.pe (AA.enc x1) 0]) (xs:=[AF.enc x0]) (u:=(x0,x1,())) rfl rfl Td rfl (AB rfl) kr kr (AJ (AQ (c:=AF) (v:=x0)) (AJ (AQ (c:=(cdP AA)) (v:=x1)) Ah)) kr hv1 ?_;refine AU (n:=11) AC 3 [p4] [p3] kr kr ?_;exact RunDS.done rfl (Ac [] trivial ⟨lv,trivial⟩)
 refine AP (b:=(!(v1==x2.2.2.1))) kr (fun hb2=>?_) (fun hb2=>?_)
 ·rw [if_pos hb2] at h
  refine AK AC [(4,.v (.int .i64 0))] [] ?_;refine AO ?_;have hq:=OI h; subst hq;exact ⟨⟨Fr 11 [(4,.v (.int .i64 0))],[]⟩,AM,.inr rfl,[.v (.int .i64 0)],kr,kr⟩
 ·rw [BV hb2] at h
  refine AT ?_;refine AK AC [(4,.v (.int .i64 1))] [] ?_;refine AO ?_;have hq:=OI h; subst hq;exact ⟨⟨Fr 11 [(4,.v (.int .i64 1))],[]⟩,AM,.inr rfl,[.v (.int .i64 1)],kr,kr⟩
def JY:List AV->Option AV:=Dm EL (fun a=>Bh a.1 a.2.1 a.2.2.1) EP
theorem Je:XOk 206 JY:=by
 refine AR Tryz.func206 (c:=GU) ?h2 ⟨Tryz.call206⟩ EL (fun a=>Bh a.1 a.2.1 a.2.2.1) EP (fun a=>(by show 3<=11; decide)) ?h3 ?h4
 case h2=>kernel_rfl
 case h3=>intro b; kernel_rfl
 case h4=>exact fun a b h=>It a.1 a.2.1 a.2.2.1 b h
/- trestle/court.plain$4 -/
noncomputable def NH:Code:=A9 Tryz.f183
def Ia (x0:Ae):Option (Bool) :=
 some x0.1.2.2.2.2.2.2.1
def Js:Cs (Ae×Unit):=(csC AF csN)
def KC (r:Bool):AV:=cdB.enc r
theorem Qj (x0:Ae) (r:Bool) (h:Ia x0=some r):Sem E0 ⟨none,false⟩ NH ⟨Fr 6 (A0 0 (Js.enc (x0,()))),[]⟩ fun e s'=>(e = .normal\/e = .ret)/\∃ xs,Dz E0.P s'.fr s'.hp Tryz.f183.results.toList=some xs/\D0 xs=KC r:=by
 unfold Ia at h;refine Ao (BL (s1:=⟨Fr 6 [(0,AF.enc x0)],[]⟩) AM ?_)
 let p1:Option Blk:=some ⟨10,115,[AF.enc x0],false⟩
 refine AK AC [(1,.pt 0 0 0)] [p1] ?_;refine AG ?_
 let p2:Nat×AV:=(2,.v (.bool x0.1.2.2.2.2.2.2.1))
 refine AL (s1:=⟨Fr 6 [p2],[]⟩) ?_ ?_
 ·refine AD (n:=6) AC 4 [p2] [p1] kr ?_
  exact AI rfl (Ac [] trivial ⟨lv,trivial⟩)
 refine AO ?_;have hq:=OI h; subst hq;exact ⟨⟨Fr 6 [p2],[]⟩,AM,.inr rfl,[.v (.bool x0.1.2.2.2.2.2.2.1)],kr,kr⟩
def TI:List AV->Option AV:=Dm Js (fun a=>Ia a.1) KC
theorem Te:XOk 183 TI:=by
 refine AR Tryz.func183 (c:=NH) ?h2 ⟨Tryz.call183⟩ Js (fun a=>Ia a.1) KC (fun a=>(by show 1<=6; decide)) ?h3 ?h4
 case h2=>kernel_rfl
 case h3=>intro b; kernel_rfl
 case h4=>exact fun a b h=>Qj a.1 b h
/- trestle/court.named$1 -/
noncomputable def GV:Code:=A9 Tryz.f206
def Bi (x0:Ae) (x2:AH):Option (Int) :=
 (Ia x0).bind fun v1 =>
 if (!(v1==x2.2.2.1))=true then
 some 0
 else
 some 1
def EM:Cs (Ae×Unit×AH×Unit):=(csC AF (csC (cdP (cdF 183 csN (fun _=>rfl))) (csC (cdP AA) csN)))
def EQ (r:Int):AV:=cdI.enc r
theorem Iu (x0:Ae) (x2:AH) (r:Int) (h:Bi x0 x2=some r):Sem E0 ⟨none,false⟩ GV ⟨Fr 11 (A0 0 (EM.enc (x0,(),x2,()))),[]⟩ fun e s'=>(e = .normal\/e = .ret)/\∃ xs,Dz E0.P s'.fr s'.hp Tryz.f206.results.toList=some xs/\D0 xs=EQ r:=by
 unfold Bi at h
 let p1:Nat×AV:=(2,.pe (AA.enc x2) 0)
 refine Ao (BL (s1:=⟨Fr 11 [(0,AF.enc x0),(1,.pe (.fn 183 [] []) 0),p1],[]⟩) AM ?_)
 let p2:Option Blk:=some ⟨10,115,[AF.enc x0],false⟩
 refine AK AC [(1,.pe (.fn 183 [] []) 0),p1,(3,.pt 0 0 0)] [p2] ?_;refine AG ?_;refine AG ?_;obtain ⟨v1,hv1,h⟩:=OB h
 let p3:Nat×AV:=(10,.v (.bool (!(v1==x2.2.2.1))))
 refine C0 AC (s1:=⟨Fr 11 [p3],[]⟩) kr ?_ ?_
 ·refine AU (n:=11) AC 2 [p1,(5,.fn 183 [] []),(6,AF.enc x0)] [p2] kr kr ?_
  refine BQ (caps:=[]) (xs:=[AF.enc x0]) (u:=(x0,())) rfl rfl Te rfl (AB rfl) kr kr (AJ (AQ (c:=AF) (v:=x0)) Ah) kr hv1 ?_;refine AU (n:=11) AC 3 [p3] [p2] kr kr ?_;exact RunDS.done rfl (Ac [] trivial ⟨lv,trivial⟩)
 refine AP (b:=(!(v1==x2.2.2.1))) kr (fun hb2=>?_) (fun hb2=>?_)
 ·rw [if_pos hb2] at h
  refine AK AC [(4,.v (.int .i64 0))] [] ?_;refine AO ?_;have hq:=OI h; subst hq;exact ⟨⟨Fr 11 [(4,.v (.int .i64 0))],[]⟩,AM,.inr rfl,[.v (.int .i64 0)],kr,kr⟩
 ·rw [BV hb2] at h
  refine AT ?_;refine AK AC [(4,.v (.int .i64 1))] [] ?_;refine AO ?_;have hq:=OI h; subst hq;exact ⟨⟨Fr 11 [(4,.v (.int .i64 1))],[]⟩,AM,.inr rfl,[.v (.int .i64 1)],kr,kr⟩
def JZ:List AV->Option AV:=Dm EM (fun a=>Bi a.1 a.2.2.1) EQ
theorem Jf:XOk 206 JZ:=by
 refine AR Tryz.func206 (c:=GV) ?h2 ⟨Tryz.call206⟩ EM (fun a=>Bi a.1 a.2.2.1) EQ (fun a=>(by show 3<=11; decide)) ?h3 ?h4
 case h2=>kernel_rfl
 case h3=>intro b; kernel_rfl
 case h4=>exact fun a b h=>Iu a.1 a.2.2.1 b h
/- trestle/court.plain$5$1 -/
noncomputable def LQ:Code:=A9 Tryz.f185
def Fd (x0:(List UInt8)) (x1:AH):Option (Bool) :=
 (BK x1.2.2.2.1 x0).bind fun v1 =>
 some v1
def Ie:Cs ((List UInt8)×AH×Unit):=(csC cdS (csC (cdP AA) csN))
def Ij (r:Bool):AV:=cdB.enc r
theorem PM (x0:(List UInt8)) (x1:AH) (r:Bool) (h:Fd x0 x1=some r):Sem E0 ⟨none,false⟩ LQ ⟨Fr 8 (A0 0 (Ie.enc (x0,x1,()))),[]⟩ fun e s'=>(e = .normal\/e = .ret)/\∃ xs,Dz E0.P s'.fr s'.hp Tryz.f185.results.toList=some xs/\D0 xs=Ij r:=by
 unfold Fd at h;refine Ao (BL (s1:=⟨Fr 8 [(0,.st x0),(1,.pe (AA.enc x1) 0)],[]⟩) AM ?_);refine AK AC [(0,.st x0),(1,.pe (AA.enc x1) 0)] [] ?_;refine AG ?_;obtain ⟨v1,hv1,h⟩:=OB h;refine AL (s1:=⟨Fr 8 [(3,.v (.bool v1))],[]⟩) ?_ ?_
 ·refine AD (n:=8) AC 3 [(5,.sl 1 (x1.2.2.2.1.map cdS.enc)),(6,.st x0)] [] kr ?_
  refine AN (caps:=[]) (xs:=[.sl 1 (x1.2.2.2.1.map cdS.enc),.st x0]) (u:=(x1.2.2.2.1,x0,())) rfl rfl Da rfl (AB rfl) kr kr (AJ (AQ (c:=(cdL 1 cdS)) (v:=x1.2.2.2.1)) (AJ (AQ (c:=cdS) (v:=x0)) Ah)) (.inl kr) hv1 ?_;exact AX AC
 refine AO ?_;have hq:=OI h; subst hq;exact ⟨⟨Fr 8 [(3,.v (.bool v1))],[]⟩,AM,.inr rfl,[.v (.bool v1)],kr,kr⟩
def RE:List AV->Option AV:=Dm Ie (fun a=>Fd a.1 a.2.1) Ij
theorem RK:XOk 185 RE:=by
 refine AR Tryz.func185 (c:=LQ) ?h2 ⟨Tryz.call185⟩ Ie (fun a=>Fd a.1 a.2.1) Ij (fun a=>(by show 2<=8; decide)) ?h3 ?h4
 case h2=>kernel_rfl
 case h3=>intro b; kernel_rfl
 case h4=>exact fun a b h=>PM a.1 a.2.1 b h
/- slices.IndexFunc[[]string,string] -/
noncomputable def CL:Code:=A9 Tryz.f90
def BM (x0:(List (List UInt8))) (x1:AH):Nat->Int->Option ((Unit) ⊕ (Int))
 | 0,_=>none
 | f + 1,c1 =>
  if (decide (c1 < (x0.length:Int)))=true then
  (idx x0 c1).bind fun v3 =>
  (Fd v3 x1).bind fun v4 =>
  if v4=true then
  some (.inr c1)
  else
  BM x0 x1 f (wr .i64 (c1 + 1))
  else
  some (.inl ())
def BD (x0:(List (List UInt8))) (x1:AH):Option (Int) :=
 (BM x0 x1 100000 0).bind fun r7 =>
 match r7 with
 | (.inl _w8) =>
  some (-1)
 | (.inr w9) =>
  some w9
def CM:Cs ((List (List UInt8))×AH×Unit):=(csC (cdL 1 cdS) (csC (cdF 185 (csE (cdP AA)) (fun _=>rfl)) csN))
def CN (r:Int):AV:=cdI.enc r
theorem DF (x0:(List (List UInt8))) (x1:AH):∀ (f:Nat) (c1:Int) (r:(Unit) ⊕ (Int)),BM x0 x1 f c1=some r->SemN E0 ⟨none,false⟩ (pc CL [1,0,1,0,0]) f ⟨Fr 19 [(0,.sl 1 (x0.map cdS.enc)),(1,.fn 185 [] [.pe (AA.enc x1) 0]),(7,.v (.int .i64 (x0.length:Int))),(8,.v (.int .i64 c1))],[]⟩ (fun e s=>match r with
 | (.inl _w)=>e=(.exit 0)/\Wk E0 s ⟨Fr 19 [],[]⟩
 | (.inr w)=>e = .ret/\Wk E0 s ⟨Fr 19 [(4,.v (.int .i64 w))],[]⟩):=by
 intro f;induction f with
 | zero=>intro c1 r h; cases h
 | succ f ih0 =>
  intro c1 r h
  have ih:=fun (c1:Int)=>ih0 c1 r
  unfold BM at h;refine Bc ?_
  let p1:Nat×AV:=(8,.v (.int .i64 c1))
  let p2:Nat×AV:=(7,.v (.int .i64 (x0.length:Int)))
  let p3:Nat×AV:=(1,.fn 185 [] [.pe (AA.enc x1) 0])
  let p4:Nat×AV:=(0,.sl 1 (x0.map cdS.enc))
  refine AK AC [p4,p3,p2,p1,(9,.v (.bool (decide (c1 < (x0.length:Int)))))] [] ?_;refine AG ?_;refine AP (b:=(decide (c1 < (x0.length:Int)))) kr (fun hb2=>?_) (fun hb2=>?_)
  ·rw [if_pos hb2] at h
   refine AT ?_;refine AG ?_;refine Aa ?_
   let p5:Nat×AV:=(5,.v (.int .i64 c1))
   refine AK AC [p4,p3,p5,p2,p1] [] ?_;refine AG ?_;obtain ⟨v3,hv3,h⟩:=OB h;obtain ⟨v4,hv4,h⟩:=OB h;refine AL (s1:=⟨Fr 19 [p4,p3,p5,p2,p1,(16,.v (.bool v4))],[]⟩) ?_ ?_
   ·let p6:Nat×AV:=(11,.fn 185 [] [.pe (AA.enc x1) 0])
    refine AD (n:=19) AC 3 [p4,p3,p5,p2,p1,p6,(12,.sl 1 (x0.map cdS.enc)),(13,.v (.int .i64 c1))] [] kr ?_;refine AW AC 0 rfl (DW (AB rfl) rfl (AS (a:= .sl 1 (x0.map cdS.enc)) (b:= .v (.int .i64 c1)) kr kr (DP (e:=cdS.enc) (el:=9) (k:=1) (ki:= .i64) kr kr hv3))) ?_;refine AD (n:=19) AC 1 [p4,p3,p5,p2,p1,p6,(15,.st v3)] [] kr ?_;refine AN (caps:=[.pe (AA.enc x1) 0]) (xs:=[.st v3]) (u:=(v3,x1,())) rfl rfl RK rfl (AB rfl) kr kr (AJ (AQ (c:=cdS) (v:=v3)) (AJ (AQ (c:=(cdP AA)) (v:=x1)) Ah)) (.inl kr) hv4 ?_;exact AI rfl AM
   refine AP (b:=v4) kr (fun hb5=>?_) (fun hb5=>?_)
   ·rw [if_pos hb5] at h
    refine AK AC [(4,.v (.int .i64 c1))] [] ?_;refine AO ?_;have hq:=OI h; subst hq;exact ⟨rfl,AM⟩
   ·rw [BV hb5] at h
    refine AT ?_
    let p7:Nat×AV:=(8,.v (.int .i64 (wr .i64 (c1 + 1))))
    refine DC AC [p4,p3,p2,p7] [] ?_;exact Aj (s1:=⟨Fr 19 [p4,p3,p2,p7],[]⟩) AM (ih (wr .i64 (c1 + 1)) h)
  ·rw [BV hb2] at h
   refine CA ?_;have hq:=OI h; subst hq;exact ⟨rfl,AM⟩
theorem Fg (x0:(List (List UInt8))) (x1:AH) (r:Int) (h:BD x0 x1=some r):Sem E0 ⟨none,false⟩ CL ⟨Fr 19 (A0 0 (CM.enc (x0,x1,()))),[]⟩ fun e s'=>(e = .normal\/e = .ret)/\∃ xs,Dz E0.P s'.fr s'.hp Tryz.f90.results.toList=some xs/\D0 xs=CN r:=by
 unfold BD at h
 let p1:Nat×AV:=(1,.fn 185 [] [.pe (AA.enc x1) 0])
 let p2:Nat×AV:=(0,.sl 1 (x0.map cdS.enc))
 refine Ao (BL (s1:=⟨Fr 19 [p2,p1],[]⟩) AM ?_);refine AK AC [p2,p1] [] ?_;refine AG ?_;refine AG ?_
 let p3:Nat×AV:=(8,.v (.int .i64 0))
 let p4:Nat×AV:=(7,.v (.int .i64 (x0.length:Int)))
 refine AL (s1:=⟨Fr 19 [p2,p1,p4,p3],[]⟩) ?_ ?_
 ·refine AD (n:=19) AC 1 [p2,p1,(6,.sl 1 (x0.map cdS.enc))] [] kr ?_
  refine AW AC 0 rfl (DW (AB rfl) rfl (CO (a:= .sl 1 (x0.map cdS.enc)) kr (BS (el:=9) kr))) ?_;exact AX AC
 refine Aa ?_;obtain ⟨r7,hr7,h⟩:=OB h;refine CF (n:=100000) ?_;rcases r7 with w8 | w9
 ·try dsimp only at h
  refine A1 (Aj (s1:=⟨Fr 19 [p2,p1,p4,p3],[]⟩) AM (DF x0 x1 _ 0 _ hr7)) ?_;refine AK AC [(4,.v (.int .i64 (-1)))] [] ?_;refine AO ?_;have hq:=OI h; subst hq;exact ⟨⟨Fr 19 [(4,.v (.int .i64 (-1)))],[]⟩,AM,.inr rfl,[.v (.int .i64 (-1))],kr,kr⟩
 ·try dsimp only at h
  refine A1 (Aj (s1:=⟨Fr 19 [p2,p1,p4,p3],[]⟩) AM (DF x0 x1 _ 0 _ hr7)) ?_;have hq:=OI h; subst hq;exact ⟨⟨Fr 19 [(4,.v (.int .i64 w9))],[]⟩,AM,.inr rfl,[.v (.int .i64 w9)],kr,kr⟩
def Fu:List AV->Option AV:=Dm CM (fun a=>BD a.1 a.2.1) CN
theorem Fv:XOk 90 Fu:=by
 refine AR Tryz.func90 (c:=CL) ?h2 ⟨Tryz.call90⟩ CM (fun a=>BD a.1 a.2.1) CN (fun a=>(by show 2<=19; decide)) ?h3 ?h4
 case h2=>kernel_rfl
 case h3=>intro b; kernel_rfl
 case h4=>exact fun a b h=>Fg a.1 a.2.1 b h
/- slices.ContainsFunc[[]string,string] -/
noncomputable def DD:Code:=A9 Tryz.f36
def Aq (x0:(List (List UInt8))) (x1:AH):Option (Bool) :=
 (BD x0 x1).bind fun v1 =>
 some (decide (v1≥0))
def CC:Cs ((List (List UInt8))×AH×Unit):=(csC (cdL 1 cdS) (csC (cdF 185 (csE (cdP AA)) (fun _=>rfl)) csN))
def CD (r:Bool):AV:=cdB.enc r
theorem FH (x0:(List (List UInt8))) (x1:AH) (r:Bool) (h:Aq x0 x1=some r):Sem E0 ⟨none,false⟩ DD ⟨Fr 9 (A0 0 (CC.enc (x0,x1,()))),[]⟩ fun e s'=>(e = .normal\/e = .ret)/\∃ xs,Dz E0.P s'.fr s'.hp Tryz.f36.results.toList=some xs/\D0 xs=CD r:=by
 unfold Aq at h
 let p1:Nat×AV:=(1,.fn 185 [] [.pe (AA.enc x1) 0])
 refine Ao (BL (s1:=⟨Fr 9 [(0,.sl 1 (x0.map cdS.enc)),p1],[]⟩) AM ?_);refine AK AC [(0,.sl 1 (x0.map cdS.enc)),p1] [] ?_;refine AG ?_;obtain ⟨v1,hv1,h⟩:=OB h
 let p2:Nat×AV:=(4,.v (.bool (decide (v1≥0))))
 refine AL (s1:=⟨Fr 9 [p2],[]⟩) ?_ ?_
 ·refine AD (n:=9) AC 2 [(5,.sl 1 (x0.map cdS.enc)),(6,.fn 185 [] [.pe (AA.enc x1) 0])] [] kr ?_
  refine AN (caps:=[]) (xs:=[.sl 1 (x0.map cdS.enc),.fn 185 [] [.pe (AA.enc x1) 0]]) (u:=(x0,x1,())) rfl rfl Fv rfl (AB rfl) kr kr (AJ (AQ (c:=(cdL 1 cdS)) (v:=x0)) (AJ (Sm.fn (Um (AQ (c:=(cdP AA)) (v:=x1)))) Ah)) (.inl kr) hv1 ?_;exact AX AC
 refine AO ?_;have hq:=OI h; subst hq;exact ⟨⟨Fr 9 [p2],[]⟩,AM,.inr rfl,[.v (.bool (decide (v1≥0)))],kr,kr⟩
def Fa:List AV->Option AV:=Dm CC (fun a=>Aq a.1 a.2.1) CD
theorem Fb:XOk 36 Fa:=by
 refine AR Tryz.func36 (c:=DD) ?h2 ⟨Tryz.call36⟩ CC (fun a=>Aq a.1 a.2.1) CD (fun a=>(by show 2<=9; decide)) ?h3 ?h4
 case h2=>kernel_rfl
 case h3=>intro b; kernel_rfl
 case h4=>exact fun a b h=>FH a.1 a.2.1 b h
/- trestle/court.plain$5 -/
noncomputable def NI:Code:=A9 Tryz.f184
def Hj (x0:Ae) (x1:AH):Option (Bool) :=
 (Aq x0.1.2.2.2.2.2.2.2.2 x1).bind fun v1 =>
 some v1
def Jt:Cs (Ae×AH×Unit):=(csC AF (csC (cdP AA) csN))
def KD (r:Bool):AV:=cdB.enc r
theorem Qk (x0:Ae) (x1:AH) (r:Bool) (h:Hj x0 x1=some r):Sem E0 ⟨none,false⟩ NI ⟨Fr 9 (A0 0 (Jt.enc (x0,x1,()))),[]⟩ fun e s'=>(e = .normal\/e = .ret)/\∃ xs,Dz E0.P s'.fr s'.hp Tryz.f184.results.toList=some xs/\D0 xs=KD r:=by
 unfold Hj at h;refine Ao (BL (s1:=⟨Fr 9 [(0,AF.enc x0),(1,.pe (AA.enc x1) 0)],[]⟩) AM ?_)
 let p1:Option Blk:=some ⟨10,115,[AF.enc x0],false⟩
 refine AK AC [(1,.pe (AA.enc x1) 0),(2,.pt 0 0 0)] [p1] ?_;refine AG ?_;obtain ⟨v1,hv1,h⟩:=OB h
 let p2:Nat×AV:=(3,.v (.bool v1))
 refine AL (s1:=⟨Fr 9 [p2],[]⟩) ?_ ?_
 ·refine AD (n:=9) AC 4 [(6,.sl 1 (x0.1.2.2.2.2.2.2.2.2.map cdS.enc)),(7,.fn 185 [] [.pe (AA.enc x1) 0])] [p1] kr ?_
  refine AN (caps:=[]) (xs:=[.sl 1 (x0.1.2.2.2.2.2.2.2.2.map cdS.enc),.fn 185 [] [.pe (AA.enc x1) 0]]) (u:=(x0.1.2.2.2.2.2.2.2.2,x1,())) rfl rfl Fb rfl (AB rfl) kr kr (AJ (AQ (c:=(cdL 1 cdS)) (v:=x0.1.2.2.2.2.2.2.2.2)) (AJ (Sm.fn (Um (AQ (c:=(cdP AA)) (v:=x1)))) Ah)) (.inl kr) hv1 ?_;refine AD (n:=9) AC 1 [p2] [p1] kr ?_;exact AI rfl (Ac [] trivial ⟨lv,trivial⟩)
 refine AO ?_;have hq:=OI h; subst hq;exact ⟨⟨Fr 9 [p2],[]⟩,AM,.inr rfl,[.v (.bool v1)],kr,kr⟩
def TJ:List AV->Option AV:=Dm Jt (fun a=>Hj a.1 a.2.1) KD
theorem Tf:XOk 184 TJ:=by
 refine AR Tryz.func184 (c:=NI) ?h2 ⟨Tryz.call184⟩ Jt (fun a=>Hj a.1 a.2.1) KD (fun a=>(by show 2<=9; decide)) ?h3 ?h4
 case h2=>kernel_rfl
 case h3=>intro b; kernel_rfl
 case h4=>exact fun a b h=>Qk a.1 a.2.1 b h
/- trestle/court.named$1 -/
noncomputable def GW:Code:=A9 Tryz.f206
def BY (x0:Ae) (x1:AH) (x2:AH):Option (Int) :=
 (Hj x0 x1).bind fun v1 =>
 if (!(v1==x2.2.2.1))=true then
 some 0
 else
 some 1
def EN:Cs (Ae×AH×AH×Unit):=(csC AF (csC (cdP (cdF 184 (csE (cdP AA)) (fun _=>rfl))) (csC (cdP AA) csN)))
def ER (r:Int):AV:=cdI.enc r
theorem Iw (x0:Ae) (x1:AH) (x2:AH) (r:Int) (h:BY x0 x1 x2=some r):Sem E0 ⟨none,false⟩ GW ⟨Fr 11 (A0 0 (EN.enc (x0,x1,x2,()))),[]⟩ fun e s'=>(e = .normal\/e = .ret)/\∃ xs,Dz E0.P s'.fr s'.hp Tryz.f206.results.toList=some xs/\D0 xs=ER r:=by
 unfold BY at h
 let p1:Nat×AV:=(2,.pe (AA.enc x2) 0)
 let p2:Nat×AV:=(1,.pe (.fn 184 [] [.pe (AA.enc x1) 0]) 0)
 refine Ao (BL (s1:=⟨Fr 11 [(0,AF.enc x0),p2,p1],[]⟩) AM ?_)
 let p3:Option Blk:=some ⟨10,115,[AF.enc x0],false⟩
 refine AK AC [p2,p1,(3,.pt 0 0 0)] [p3] ?_;refine AG ?_;refine AG ?_;obtain ⟨v1,hv1,h⟩:=OB h
 let p4:Nat×AV:=(10,.v (.bool (!(v1==x2.2.2.1))))
 refine C0 AC (s1:=⟨Fr 11 [p4],[]⟩) kr ?_ ?_
 ·refine AU (n:=11) AC 2 [p1,(5,.fn 184 [] [.pe (AA.enc x1) 0]),(6,AF.enc x0)] [p3] kr kr ?_
  refine BQ (caps:=[.pe (AA.enc x1) 0]) (xs:=[AF.enc x0]) (u:=(x0,x1,())) rfl rfl Tf rfl (AB rfl) kr kr (AJ (AQ (c:=AF) (v:=x0)) (AJ (AQ (c:=(cdP AA)) (v:=x1)) Ah)) kr hv1 ?_;refine AU (n:=11) AC 3 [p4] [p3] kr kr ?_;exact RunDS.done rfl (Ac [] trivial ⟨lv,trivial⟩)
 refine AP (b:=(!(v1==x2.2.2.1))) kr (fun hb2=>?_) (fun hb2=>?_)
 ·rw [if_pos hb2] at h
  refine AK AC [(4,.v (.int .i64 0))] [] ?_;refine AO ?_;have hq:=OI h; subst hq;exact ⟨⟨Fr 11 [(4,.v (.int .i64 0))],[]⟩,AM,.inr rfl,[.v (.int .i64 0)],kr,kr⟩
 ·rw [BV hb2] at h
  refine AT ?_;refine AK AC [(4,.v (.int .i64 1))] [] ?_;refine AO ?_;have hq:=OI h; subst hq;exact ⟨⟨Fr 11 [(4,.v (.int .i64 1))],[]⟩,AM,.inr rfl,[.v (.int .i64 1)],kr,kr⟩
def Ja:List AV->Option AV:=Dm EN (fun a=>BY a.1 a.2.1 a.2.2.1) ER
theorem Jg:XOk 206 Ja:=by
 refine AR Tryz.func206 (c:=GW) ?h2 ⟨Tryz.call206⟩ EN (fun a=>BY a.1 a.2.1 a.2.2.1) ER (fun a=>(by show 3<=11; decide)) ?h3 ?h4
 case h2=>kernel_rfl
 case h3=>intro b; kernel_rfl
 case h4=>exact fun a b h=>Iw a.1 a.2.1 a.2.2.1 b h
/- trestle/court.plain$6 -/
noncomputable def NJ:Code:=A9 Tryz.f186
def Hk (x0:Ae) (x1:AH):Option (Bool) :=
 (BK x1.2.2.2.1 x0.1.2.2.1).bind fun v1 =>
 some v1
def Ju:Cs (Ae×AH×Unit):=(csC AF (csC (cdP AA) csN))
def KE (r:Bool):AV:=cdB.enc r
theorem Ql (x0:Ae) (x1:AH) (r:Bool) (h:Hk x0 x1=some r):Sem E0 ⟨none,false⟩ NJ ⟨Fr 10 (A0 0 (Ju.enc (x0,x1,()))),[]⟩ fun e s'=>(e = .normal\/e = .ret)/\∃ xs,Dz E0.P s'.fr s'.hp Tryz.f186.results.toList=some xs/\D0 xs=KE r:=by
 unfold Hk at h;refine Ao (BL (s1:=⟨Fr 10 [(0,AF.enc x0),(1,.pe (AA.enc x1) 0)],[]⟩) AM ?_)
 let p1:Option Blk:=some ⟨10,115,[AF.enc x0],false⟩
 refine AK AC [(1,.pe (AA.enc x1) 0),(2,.pt 0 0 0)] [p1] ?_;refine AG ?_;obtain ⟨v1,hv1,h⟩:=OB h
 let p2:Nat×AV:=(3,.v (.bool v1))
 refine AL (s1:=⟨Fr 10 [p2],[]⟩) ?_ ?_
 ·refine AD (n:=10) AC 5 [(5,.sl 1 (x1.2.2.2.1.map cdS.enc)),(8,.st x0.1.2.2.1)] [p1] kr ?_
  refine AN (caps:=[]) (xs:=[.sl 1 (x1.2.2.2.1.map cdS.enc),.st x0.1.2.2.1]) (u:=(x1.2.2.2.1,x0.1.2.2.1,())) rfl rfl Da rfl (AB rfl) kr kr (AJ (AQ (c:=(cdL 1 cdS)) (v:=x1.2.2.2.1)) (AJ (AQ (c:=cdS) (v:=x0.1.2.2.1)) Ah)) (.inl kr) hv1 ?_;refine AD (n:=10) AC 1 [p2] [p1] kr ?_;exact AI rfl (Ac [] trivial ⟨lv,trivial⟩)
 refine AO ?_;have hq:=OI h; subst hq;exact ⟨⟨Fr 10 [p2],[]⟩,AM,.inr rfl,[.v (.bool v1)],kr,kr⟩
def TK:List AV->Option AV:=Dm Ju (fun a=>Hk a.1 a.2.1) KE
theorem Tg:XOk 186 TK:=by
 refine AR Tryz.func186 (c:=NJ) ?h2 ⟨Tryz.call186⟩ Ju (fun a=>Hk a.1 a.2.1) KE (fun a=>(by show 2<=10; decide)) ?h3 ?h4
 case h2=>kernel_rfl
 case h3=>intro b; kernel_rfl
 case h4=>exact fun a b h=>Ql a.1 a.2.1 b h
/- trestle/court.named$1 -/
noncomputable def GX:Code:=A9 Tryz.f206
def BZ (x0:Ae) (x1:AH) (x2:AH):Option (Int) :=
 (Hk x0 x1).bind fun v1 =>
 if (!(v1==x2.2.2.1))=true then
 some 0
 else
 some 1
def EO:Cs (Ae×AH×AH×Unit):=(csC AF (csC (cdP (cdF 186 (csE (cdP AA)) (fun _=>rfl))) (csC (cdP AA) csN)))
def ES (r:Int):AV:=cdI.enc r
theorem Ix (x0:Ae) (x1:AH) (x2:AH) (r:Int) (h:BZ x0 x1 x2=some r):Sem E0 ⟨none,false⟩ GX ⟨Fr 11 (A0 0 (EO.enc (x0,x1,x2,()))),[]⟩ fun e s'=>(e = .normal\/e = .ret)/\∃ xs,Dz E0.P s'.fr s'.hp Tryz.f206.results.toList=some xs/\D0 xs=ES r:=by
 unfold BZ at h
 let p1:Nat×AV:=(2,.pe (AA.enc x2) 0)
 let p2:Nat×AV:=(1,.pe (.fn 186 [] [.pe (AA.enc x1) 0]) 0)
 refine Ao (BL (s1:=⟨Fr 11 [(0,AF.enc x0),p2,p1],[]⟩) AM ?_)
 let p3:Option Blk:=some ⟨10,115,[AF.enc x0],false⟩
 refine AK AC [p2,p1,(3,.pt 0 0 0)] [p3] ?_;refine AG ?_;refine AG ?_;obtain ⟨v1,hv1,h⟩:=OB h
 let p4:Nat×AV:=(10,.v (.bool (!(v1==x2.2.2.1))))
 refine C0 AC (s1:=⟨Fr 11 [p4],[]⟩) kr ?_ ?_
 ·refine AU (n:=11) AC 2 [p1,(5,.fn 186 [] [.pe (AA.enc x1) 0]),(6,AF.enc x0)] [p3] kr kr ?_
  refine BQ (caps:=[.pe (AA.enc x1) 0]) (xs:=[AF.enc x0]) (u:=(x0,x1,())) rfl rfl Tg rfl (AB rfl) kr kr (AJ (AQ (c:=AF) (v:=x0)) (AJ (AQ (c:=(cdP AA)) (v:=x1)) Ah)) kr hv1 ?_;refine AU (n:=11) AC 3 [p4] [p3] kr kr ?_;exact RunDS.done rfl (Ac [] trivial ⟨lv,trivial⟩)
 refine AP (b:=(!(v1==x2.2.2.1))) kr (fun hb2=>?_) (fun hb2=>?_)
 ·rw [if_pos hb2] at h
  refine AK AC [(4,.v (.int .i64 0))] [] ?_;refine AO ?_;have hq:=OI h; subst hq;exact ⟨⟨Fr 11 [(4,.v (.int .i64 0))],[]⟩,AM,.inr rfl,[.v (.int .i64 0)],kr,kr⟩
 ·rw [BV hb2] at h
  refine AT ?_;refine AK AC [(4,.v (.int .i64 1))] [] ?_;refine AO ?_;have hq:=OI h; subst hq;exact ⟨⟨Fr 11 [(4,.v (.int .i64 1))],[]⟩,AM,.inr rfl,[.v (.int .i64 1)],kr,kr⟩
def Jb:List AV->Option AV:=Dm EO (fun a=>BZ a.1 a.2.1 a.2.2.1) ES
theorem Jh:XOk 206 Jb:=by
 refine AR Tryz.func206 (c:=GX) ?h2 ⟨Tryz.call206⟩ EO (fun a=>BZ a.1 a.2.1 a.2.2.1) ES (fun a=>(by show 3<=11; decide)) ?h3 ?h4
 case h2=>kernel_rfl
 case h3=>intro b; kernel_rfl
 case h4=>exact fun a b h=>Ix a.1 a.2.1 a.2.2.1 b h
/- trestle/court.placed$1 -/
noncomputable def MI:Code:=A9 Tryz.f208
def DU (x0:Int):Option (Bool) :=
 (if (decide (x0≥0))=true then some (decide (x0<=63)) else some false).bind fun j2 =>
 some j2
def I5:Cs (Int×Unit):=(csC cdI csN)
def JB (r:Bool):AV:=cdB.enc r
theorem Pv (x0:Int) (r:Bool) (h:DU x0=some r):Sem E0 ⟨none,false⟩ MI ⟨Fr 9 (A0 0 (I5.enc (x0,()))),[]⟩ fun e s'=>(e = .normal\/e = .ret)/\∃ xs,Dz E0.P s'.fr s'.hp Tryz.f208.results.toList=some xs/\D0 xs=JB r:=by
 unfold DU at h;refine Ao (BL (s1:=⟨Fr 9 [(0,.v (.int .i64 x0))],[]⟩) AM ?_);refine AK AC [(0,.v (.int .i64 x0))] [] ?_;refine AG ?_;obtain ⟨j2,hj2,h⟩:=OB h;refine AL (s1:=⟨Fr 9 [(2,.v (.bool j2))],[]⟩) ?_ ?_
 ·refine AD (n:=9) AC 3 [(0,.v (.int .i64 x0)),(5,.v (.bool (decide (x0≥0))))] [] kr ?_
  rcases BE (decide (x0≥0)) with hc3 | hc3
  ·rw [if_pos hc3] at hj2
   rw [hc3];refine AD (n:=9) AC 4 [(2,.v (.bool (decide (x0<=63))))] [] kr ?_;have hq:=OI hj2; subst hq;exact AI rfl AM
  ·rw [BV hc3] at hj2
   rw [hc3];refine AD (n:=9) AC 4 [(2,.v (.bool false))] [] kr ?_;have hq:=OI hj2; subst hq;exact AI rfl AM
 refine AO ?_;have hq:=OI h; subst hq;exact ⟨⟨Fr 9 [(2,.v (.bool j2))],[]⟩,AM,.inr rfl,[.v (.bool j2)],kr,kr⟩
def Rs:List AV->Option AV:=Dm I5 (fun a=>DU a.1) JB
theorem H1:XOk 208 Rs:=by
 refine AR Tryz.func208 (c:=MI) ?h2 ⟨Tryz.call208⟩ I5 (fun a=>DU a.1) JB (fun a=>(by show 1<=9; decide)) ?h3 ?h4
 case h2=>kernel_rfl
 case h3=>intro b; kernel_rfl
 case h4=>exact fun a b h=>Pv a.1 b h
/- trestle/court.plain$8 -/
noncomputable def NL:Code:=A9 Tryz.f190
def FJ (x0:Int) (x1:AH):Option (Int) :=
 some ((wr .i64 ((wr .i64 (x0 * (wr .i64 ((wr .i64 (2 * x1.2.2.2.2)) + 1)))) + x1.2.2.2.2)).tmod 64)
def Jw:Cs (Int×AH×Unit):=(csC cdI (csC (cdP AA) csN))
def KG (r:Int):AV:=cdI.enc r
theorem Qo (x0:Int) (x1:AH) (r:Int) (h:FJ x0 x1=some r):Sem E0 ⟨none,false⟩ NL ⟨Fr 14 (A0 0 (Jw.enc (x0,x1,()))),[]⟩ fun e s'=>(e = .normal\/e = .ret)/\∃ xs,Dz E0.P s'.fr s'.hp Tryz.f190.results.toList=some xs/\D0 xs=KG r:=by
 unfold FJ at h;refine Ao (BL (s1:=⟨Fr 14 [(0,.v (.int .i64 x0)),(1,.pe (AA.enc x1) 0)],[]⟩) AM ?_);refine AK AC [(0,.v (.int .i64 x0)),(1,.pe (AA.enc x1) 0)] [] ?_
 let p1:Nat×AV:=(3,.v (.int .i64 ((wr .i64 ((wr .i64 (x0 * (wr .i64 ((wr .i64 (2 * x1.2.2.2.2)) + 1)))) + x1.2.2.2.2)).tmod 64)))
 refine AK AC [p1] [] ?_;refine AO ?_;have hq:=OI h; subst hq;exact ⟨⟨Fr 14 [p1],[]⟩,AM,.inr rfl,[.v (.int .i64 ((wr .i64 ((wr .i64 (x0 * (wr .i64 ((wr .i64 (2 * x1.2.2.2.2)) + 1)))) + x1.2.2.2.2)).tmod 64))],kr,kr⟩
def TM:List AV->Option AV:=Dm Jw (fun a=>FJ a.1 a.2.1) KG
theorem OP:XOk 190 TM:=by
 refine AR Tryz.func190 (c:=NL) ?h2 ⟨Tryz.call190⟩ Jw (fun a=>FJ a.1 a.2.1) KG (fun a=>(by show 2<=14; decide)) ?h3 ?h4
 case h2=>kernel_rfl
 case h3=>intro b; kernel_rfl
 case h4=>exact fun a b h=>Qo a.1 a.2.1 b h
/- trestle/court.placed$2 -/
noncomputable def Dd:Code:=A9 Tryz.f209
def A2 (x0:Ae) (x1:Ae) (x3:AH):Option (Int) :=
 (DU x0.2).bind fun v1 =>
 (if (!v1)=true then some true else (DU x1.2).bind fun v2 =>
 some (!v2)).bind fun j4 =>
 if j4=true then
 some 0
 else
 (FJ x0.2 x3).bind fun v6 =>
 (FJ x1.2 x3).bind fun v7 =>
 (Co v6 v7).bind fun v8 =>
 some v8
def CX:Cs (Ae×Ae×Unit×AH×Unit):=(csC AF (csC AF (csC (cdP (cdF 208 csN (fun _=>rfl))) (csC (cdP (cdF 190 (csE (cdP AA)) (fun _=>rfl))) csN))))
def Cb (r:Int):AV:=cdI.enc r
theorem Fp (x0:Ae) (x1:Ae) (x3:AH) (r:Int) (h:A2 x0 x1 x3=some r):Sem E0 ⟨none,false⟩ Dd ⟨Fr 28 (A0 0 (CX.enc (x0,x1,(),x3,()))),[]⟩ fun e s'=>(e = .normal\/e = .ret)/\∃ xs,Dz E0.P s'.fr s'.hp Tryz.f209.results.toList=some xs/\D0 xs=Cb r:=by
 unfold A2 at h;refine Ao (BL (s1:=⟨Fr 28 [(0,AF.enc x0),(1,AF.enc x1),(2,.pe (.fn 208 [] []) 0),(3,.pe (.fn 190 [] [.pe (AA.enc x3) 0]) 0)],[]⟩) AM ?_);refine AK AC [(2,.pe (.fn 208 [] []) 0),(3,.pe (.fn 190 [] [.pe (AA.enc x3) 0]) 0),(4,.pt 0 0 0),(5,.pt 1 0 0)] [some ⟨10,115,[AF.enc x0],false⟩,some ⟨10,115,[AF.enc x1],false⟩] ?_;refine AG ?_;refine AG ?_;obtain ⟨v1,hv1,h⟩:=OB h;obtain ⟨j4,hj4,h⟩:=OB h;refine AL (s1:=⟨Fr 28 [(3,.pe (.fn 190 [] [.pe (AA.enc x3) 0]) 0),(4,.pt 0 0 0),(5,.pt 1 0 0),(18,.v (.bool j4))],[some ⟨10,115,[AF.enc x0],false⟩,some ⟨10,115,[AF.enc x1],false⟩]⟩) ?_ ?_
 ·refine AD (n:=28) AC 3 [(2,.pe (.fn 208 [] []) 0),(3,.pe (.fn 190 [] [.pe (AA.enc x3) 0]) 0),(4,.pt 0 0 0),(5,.pt 1 0 0),(7,.fn 208 [] []),(9,.v (.int .i64 x0.2))] [some ⟨10,115,[AF.enc x0],false⟩,some ⟨10,115,[AF.enc x1],false⟩] kr ?_
  refine AN (caps:=[]) (xs:=[.v (.int .i64 x0.2)]) (u:=(x0.2,())) rfl rfl H1 rfl (AB rfl) kr kr (AJ (AQ (c:=cdI) (v:=x0.2)) Ah) (.inl kr) hv1 ?_;refine AD (n:=28) AC 2 [(2,.pe (.fn 208 [] []) 0),(3,.pe (.fn 190 [] [.pe (AA.enc x3) 0]) 0),(4,.pt 0 0 0),(5,.pt 1 0 0),(12,.v (.bool (!v1)))] [some ⟨10,115,[AF.enc x0],false⟩,some ⟨10,115,[AF.enc x1],false⟩] kr ?_;rcases BE (!v1) with hc9 | hc9
  ·rw [if_pos hc9] at hj4
   rw [hc9];refine AD (n:=28) AC 6 [(3,.pe (.fn 190 [] [.pe (AA.enc x3) 0]) 0),(4,.pt 0 0 0),(5,.pt 1 0 0),(18,.v (.bool true))] [some ⟨10,115,[AF.enc x0],false⟩,some ⟨10,115,[AF.enc x1],false⟩] kr ?_;have hq:=OI hj4; subst hq;exact AI rfl (Ac [0,1] ⟨⟨_,rfl,GO⟩,⟨_,rfl,GO⟩,trivial⟩ ⟨lv,lv,lv,lv,trivial⟩)
  ·rw [BV hc9] at hj4
   rw [hc9];refine AD (n:=28) AC 3 [(3,.pe (.fn 190 [] [.pe (AA.enc x3) 0]) 0),(4,.pt 0 0 0),(5,.pt 1 0 0),(12,.v (.bool false)),(13,.fn 208 [] []),(15,.v (.int .i64 x1.2))] [some ⟨10,115,[AF.enc x0],false⟩,some ⟨10,115,[AF.enc x1],false⟩] kr ?_;obtain ⟨v2,hv2,hj4⟩:=OB hj4;refine AN (caps:=[]) (xs:=[.v (.int .i64 x1.2)]) (u:=(x1.2,())) rfl rfl H1 rfl kr kr kr (AJ (AQ (c:=cdI) (v:=x1.2)) Ah) (.inl kr) hv2 ?_;refine AD (n:=28) AC 2 [(3,.pe (.fn 190 [] [.pe (AA.enc x3) 0]) 0),(4,.pt 0 0 0),(5,.pt 1 0 0),(18,.v (.bool (!v2)))] [some ⟨10,115,[AF.enc x0],false⟩,some ⟨10,115,[AF.enc x1],false⟩] kr ?_;have hq:=OI hj4; subst hq;exact AI rfl (Ac [0,1] ⟨⟨_,rfl,GO⟩,⟨_,rfl,GO⟩,trivial⟩ ⟨lv,lv,lv,lv,trivial⟩)
 refine AP (b:=j4) kr (fun hb5=>?_) (fun hb5=>?_)
 ·rw [if_pos hb5] at h
  refine AG ?_;refine AL (s1:=⟨Fr 28 [(6,.v (.int .i64 0))],[]⟩) ?_ ?_
  ·refine AD (n:=28) AC 1 [(6,.v (.int .i64 0))] [some ⟨10,115,[AF.enc x0],false⟩,some ⟨10,115,[AF.enc x1],false⟩] kr ?_
   exact AI rfl (Ac [] trivial ⟨lv,trivial⟩)
  refine AO ?_;have hq:=OI h; subst hq;exact ⟨⟨Fr 28 [(6,.v (.int .i64 0))],[]⟩,AM,.inr rfl,[.v (.int .i64 0)],kr,kr⟩
 ·rw [BV hb5] at h
  refine AT ?_;refine AG ?_;obtain ⟨v6,hv6,h⟩:=OB h;obtain ⟨v7,hv7,h⟩:=OB h;obtain ⟨v8,hv8,h⟩:=OB h;refine C0 AC (s1:=⟨Fr 28 [(6,.v (.int .i64 v8))],[]⟩) kr ?_ ?_
  ·refine AU (n:=28) AC 3 [(3,.pe (.fn 190 [] [.pe (AA.enc x3) 0]) 0),(5,.pt 1 0 0),(19,.fn 190 [] [.pe (AA.enc x3) 0]),(21,.v (.int .i64 x0.2))] [some ⟨10,115,[AF.enc x0],false⟩,some ⟨10,115,[AF.enc x1],false⟩] kr kr ?_
   refine BQ (caps:=[.pe (AA.enc x3) 0]) (xs:=[.v (.int .i64 x0.2)]) (u:=(x0.2,x3,())) rfl rfl OP rfl (AB rfl) kr kr (AJ (AQ (c:=cdI) (v:=x0.2)) (AJ (AQ (c:=(cdP AA)) (v:=x3)) Ah)) kr hv6 ?_;refine AU (n:=28) AC 3 [(22,.v (.int .i64 v6)),(23,.fn 190 [] [.pe (AA.enc x3) 0]),(25,.v (.int .i64 x1.2))] [some ⟨10,115,[AF.enc x0],false⟩,some ⟨10,115,[AF.enc x1],false⟩] kr kr ?_;refine BQ (caps:=[.pe (AA.enc x3) 0]) (xs:=[.v (.int .i64 x1.2)]) (u:=(x1.2,x3,())) rfl rfl OP rfl (AB rfl) kr kr (AJ (AQ (c:=cdI) (v:=x1.2)) (AJ (AQ (c:=(cdP AA)) (v:=x3)) Ah)) kr hv7 ?_;refine BQ (caps:=[]) (xs:=[.v (.int .i64 v6),.v (.int .i64 v7)]) (u:=(v6,v7,())) rfl rfl Gg rfl (AB rfl) kr kr (AJ (AQ (c:=cdI) (v:=v6)) (AJ (AQ (c:=cdI) (v:=v7)) Ah)) kr hv8 ?_;refine AU (n:=28) AC 1 [(6,.v (.int .i64 v8))] [some ⟨10,115,[AF.enc x0],false⟩,some ⟨10,115,[AF.enc x1],false⟩] kr kr ?_;exact RunDS.done rfl (Ac [] trivial ⟨lv,trivial⟩)
  refine AO ?_;have hq:=OI h; subst hq;exact ⟨⟨Fr 28 [(6,.v (.int .i64 v8))],[]⟩,AM,.inr rfl,[.v (.int .i64 v8)],kr,kr⟩
def GE:List AV->Option AV:=Dm CX (fun a=>A2 a.1 a.2.1 a.2.2.2.1) Cb
theorem GJ:XOk 209 GE:=by
 refine AR Tryz.func209 (c:=Dd) ?h2 ⟨Tryz.call209⟩ CX (fun a=>A2 a.1 a.2.1 a.2.2.2.1) Cb (fun a=>(by show 4<=28; decide)) ?h3 ?h4
 case h2=>kernel_rfl
 case h3=>intro b; kernel_rfl
 case h4=>exact fun a b h=>Fp a.1 a.2.1 a.2.2.2.1 b h
/- trestle/court.plain$9 -/
noncomputable def NM:Code:=A9 Tryz.f191
def Gt (x0:Int):Option (Int) :=
 some x0
def Jx:Cs (Int×Unit):=(csC cdI csN)
def KH (r:Int):AV:=cdI.enc r
theorem Qp (x0:Int) (r:Int) (h:Gt x0=some r):Sem E0 ⟨none,false⟩ NM ⟨Fr 4 (A0 0 (Jx.enc (x0,()))),[]⟩ fun e s'=>(e = .normal\/e = .ret)/\∃ xs,Dz E0.P s'.fr s'.hp Tryz.f191.results.toList=some xs/\D0 xs=KH r:=by
 unfold Gt at h;refine Ao (BL (s1:=⟨Fr 4 [(0,.v (.int .i64 x0))],[]⟩) AM ?_);refine AK AC [(0,.v (.int .i64 x0))] [] ?_;refine AK AC [(2,.v (.int .i64 x0))] [] ?_;refine AO ?_;have hq:=OI h; subst hq;exact ⟨⟨Fr 4 [(2,.v (.int .i64 x0))],[]⟩,AM,.inr rfl,[.v (.int .i64 x0)],kr,kr⟩
def TN:List AV->Option AV:=Dm Jx (fun a=>Gt a.1) KH
theorem OQ:XOk 191 TN:=by
 refine AR Tryz.func191 (c:=NM) ?h2 ⟨Tryz.call191⟩ Jx (fun a=>Gt a.1) KH (fun a=>(by show 1<=4; decide)) ?h3 ?h4
 case h2=>kernel_rfl
 case h3=>intro b; kernel_rfl
 case h4=>exact fun a b h=>Qp a.1 b h
/- trestle/court.placed$2 -/
noncomputable def De:Code:=A9 Tryz.f209
def A3 (x0:Ae) (x1:Ae):Option (Int) :=
 (DU x0.2).bind fun v1 =>
 (if (!v1)=true then some true else (DU x1.2).bind fun v2 =>
 some (!v2)).bind fun j4 =>
 if j4=true then
 some 0
 else
 (Gt x0.2).bind fun v6 =>
 (Gt x1.2).bind fun v7 =>
 (Co v6 v7).bind fun v8 =>
 some v8
def CY:Cs (Ae×Ae×Unit×Unit×Unit):=(csC AF (csC AF (csC (cdP (cdF 208 csN (fun _=>rfl))) (csC (cdP (cdF 191 csN (fun _=>rfl))) csN))))
def Cc (r:Int):AV:=cdI.enc r
theorem Fq (x0:Ae) (x1:Ae) (r:Int) (h:A3 x0 x1=some r):Sem E0 ⟨none,false⟩ De ⟨Fr 28 (A0 0 (CY.enc (x0,x1,(),(),()))),[]⟩ fun e s'=>(e = .normal\/e = .ret)/\∃ xs,Dz E0.P s'.fr s'.hp Tryz.f209.results.toList=some xs/\D0 xs=Cc r:=by
 unfold A3 at h;refine Ao (BL (s1:=⟨Fr 28 [(0,AF.enc x0),(1,AF.enc x1),(2,.pe (.fn 208 [] []) 0),(3,.pe (.fn 191 [] []) 0)],[]⟩) AM ?_);refine AK AC [(2,.pe (.fn 208 [] []) 0),(3,.pe (.fn 191 [] []) 0),(4,.pt 0 0 0),(5,.pt 1 0 0)] [some ⟨10,115,[AF.enc x0],false⟩,some ⟨10,115,[AF.enc x1],false⟩] ?_;refine AG ?_;refine AG ?_;obtain ⟨v1,hv1,h⟩:=OB h;obtain ⟨j4,hj4,h⟩:=OB h;refine AL (s1:=⟨Fr 28 [(3,.pe (.fn 191 [] []) 0),(4,.pt 0 0 0),(5,.pt 1 0 0),(18,.v (.bool j4))],[some ⟨10,115,[AF.enc x0],false⟩,some ⟨10,115,[AF.enc x1],false⟩]⟩) ?_ ?_
 ·refine AD (n:=28) AC 3 [(2,.pe (.fn 208 [] []) 0),(3,.pe (.fn 191 [] []) 0),(4,.pt 0 0 0),(5,.pt 1 0 0),(7,.fn 208 [] []),(9,.v (.int .i64 x0.2))] [some ⟨10,115,[AF.enc x0],false⟩,some ⟨10,115,[AF.enc x1],false⟩] kr ?_
  refine AN (caps:=[]) (xs:=[.v (.int .i64 x0.2)]) (u:=(x0.2,())) rfl rfl H1 rfl (AB rfl) kr kr (AJ (AQ (c:=cdI) (v:=x0.2)) Ah) (.inl kr) hv1 ?_;refine AD (n:=28) AC 2 [(2,.pe (.fn 208 [] []) 0),(3,.pe (.fn 191 [] []) 0),(4,.pt 0 0 0),(5,.pt 1 0 0),(12,.v (.bool (!v1)))] [some ⟨10,115,[AF.enc x0],false⟩,some ⟨10,115,[AF.enc x1],false⟩] kr ?_;rcases BE (!v1) with hc9 | hc9
  ·rw [if_pos hc9] at hj4
   rw [hc9];refine AD (n:=28) AC 6 [(3,.pe (.fn 191 [] []) 0),(4,.pt 0 0 0),(5,.pt 1 0 0),(18,.v (.bool true))] [some ⟨10,115,[AF.enc x0],false⟩,some ⟨10,115,[AF.enc x1],false⟩] kr ?_;have hq:=OI hj4; subst hq;exact AI rfl (Ac [0,1] ⟨⟨_,rfl,GO⟩,⟨_,rfl,GO⟩,trivial⟩ ⟨lv,lv,lv,lv,trivial⟩)
  ·rw [BV hc9] at hj4
   rw [hc9];refine AD (n:=28) AC 3 [(3,.pe (.fn 191 [] []) 0),(4,.pt 0 0 0),(5,.pt 1 0 0),(12,.v (.bool false)),(13,.fn 208 [] []),(15,.v (.int .i64 x1.2))] [some ⟨10,115,[AF.enc x0],false⟩,some ⟨10,115,[AF.enc x1],false⟩] kr ?_;obtain ⟨v2,hv2,hj4⟩:=OB hj4;refine AN (caps:=[]) (xs:=[.v (.int .i64 x1.2)]) (u:=(x1.2,())) rfl rfl H1 rfl kr kr kr (AJ (AQ (c:=cdI) (v:=x1.2)) Ah) (.inl kr) hv2 ?_;refine AD (n:=28) AC 2 [(3,.pe (.fn 191 [] []) 0),(4,.pt 0 0 0),(5,.pt 1 0 0),(18,.v (.bool (!v2)))] [some ⟨10,115,[AF.enc x0],false⟩,some ⟨10,115,[AF.enc x1],false⟩] kr ?_;have hq:=OI hj4; subst hq;exact AI rfl (Ac [0,1] ⟨⟨_,rfl,GO⟩,⟨_,rfl,GO⟩,trivial⟩ ⟨lv,lv,lv,lv,trivial⟩)
 refine AP (b:=j4) kr (fun hb5=>?_) (fun hb5=>?_)
 ·rw [if_pos hb5] at h
  refine AG ?_;refine AL (s1:=⟨Fr 28 [(6,.v (.int .i64 0))],[]⟩) ?_ ?_
  ·refine AD (n:=28) AC 1 [(6,.v (.int .i64 0))] [some ⟨10,115,[AF.enc x0],false⟩,some ⟨10,115,[AF.enc x1],false⟩] kr ?_
   exact AI rfl (Ac [] trivial ⟨lv,trivial⟩)
  refine AO ?_;have hq:=OI h; subst hq;exact ⟨⟨Fr 28 [(6,.v (.int .i64 0))],[]⟩,AM,.inr rfl,[.v (.int .i64 0)],kr,kr⟩
 ·rw [BV hb5] at h
  refine AT ?_;refine AG ?_;obtain ⟨v6,hv6,h⟩:=OB h;obtain ⟨v7,hv7,h⟩:=OB h;obtain ⟨v8,hv8,h⟩:=OB h;refine C0 AC (s1:=⟨Fr 28 [(6,.v (.int .i64 v8))],[]⟩) kr ?_ ?_
  ·refine AU (n:=28) AC 3 [(3,.pe (.fn 191 [] []) 0),(5,.pt 1 0 0),(19,.fn 191 [] []),(21,.v (.int .i64 x0.2))] [some ⟨10,115,[AF.enc x0],false⟩,some ⟨10,115,[AF.enc x1],false⟩] kr kr ?_
   refine BQ (caps:=[]) (xs:=[.v (.int .i64 x0.2)]) (u:=(x0.2,())) rfl rfl OQ rfl (AB rfl) kr kr (AJ (AQ (c:=cdI) (v:=x0.2)) Ah) kr hv6 ?_;refine AU (n:=28) AC 3 [(22,.v (.int .i64 v6)),(23,.fn 191 [] []),(25,.v (.int .i64 x1.2))] [some ⟨10,115,[AF.enc x0],false⟩,some ⟨10,115,[AF.enc x1],false⟩] kr kr ?_;refine BQ (caps:=[]) (xs:=[.v (.int .i64 x1.2)]) (u:=(x1.2,())) rfl rfl OQ rfl (AB rfl) kr kr (AJ (AQ (c:=cdI) (v:=x1.2)) Ah) kr hv7 ?_;refine BQ (caps:=[]) (xs:=[.v (.int .i64 v6),.v (.int .i64 v7)]) (u:=(v6,v7,())) rfl rfl Gg rfl (AB rfl) kr kr (AJ (AQ (c:=cdI) (v:=v6)) (AJ (AQ (c:=cdI) (v:=v7)) Ah)) kr hv8 ?_;refine AU (n:=28) AC 1 [(6,.v (.int .i64 v8))] [some ⟨10,115,[AF.enc x0],false⟩,some ⟨10,115,[AF.enc x1],false⟩] kr kr ?_;exact RunDS.done rfl (Ac [] trivial ⟨lv,trivial⟩)
  refine AO ?_;have hq:=OI h; subst hq;exact ⟨⟨Fr 28 [(6,.v (.int .i64 v8))],[]⟩,AM,.inr rfl,[.v (.int .i64 v8)],kr,kr⟩
def GF:List AV->Option AV:=Dm CY (fun a=>A3 a.1 a.2.1) Cc
theorem GK:XOk 209 GF:=by
 refine AR Tryz.func209 (c:=De) ?h2 ⟨Tryz.call209⟩ CY (fun a=>A3 a.1 a.2.1) Cc (fun a=>(by show 4<=28; decide)) ?h3 ?h4
 case h2=>kernel_rfl
 case h3=>intro b; kernel_rfl
 case h4=>exact fun a b h=>Fq a.1 a.2.1 b h
theorem ADE {f:FuncId}(hc:Ch E0.P f){α β:Type}(s:Cs α) (F:α->Option β) (er:β->AV) (h:∀ a b,F a=some b->∃ t,XOk f t/\t (s.enc a)=some (er b)):XOk f (Dm s F er):=by
 refine ⟨hc,fun xs y hy w Z us hz hg hv=>?_⟩
 obtain ⟨a,ha,hy⟩:=OB hy
 obtain ⟨b,hb,rfl⟩:=Option.map_eq_some_iff.1 hy
 obtain ⟨t,hX,ht⟩:=h a b hb
 exact hX.2 _ _ ht w Z us hz hg (s.vr ha hv)
def Fc (a b:Ae) (c:AH):Option Int :=
 if (c.1==1)=true then CW (fun a b (v:(AH×Unit)×Unit)=>Cy (fun x (v:AH×Unit)=>EX x v.1) a b v.1) a b c ((c,()),()) else
 if (c.1==2)=true then CW (fun a b (v:AH×Unit)=>Dn a b v.1) a b c (c,()) else
 if (c.1==3)=true then CW (fun a b (v:AH×Unit)=>Dn a b v.1) a b c (c,()) else
 if (c.1==4)=true then CW (fun a b (v:(AH×AH×Unit)×Unit)=>Cy (fun x (v:AH×AH×Unit)=>Bh x v.1 v.2.1) a b v.1) a b c ((c,c,()),()) else
 if (c.1==5)=true then CW (fun a b (v:(Unit×AH×Unit)×Unit)=>Cy (fun x (v:Unit×AH×Unit)=>Bi x v.2.1) a b v.1) a b c (((),c,()),()) else
 if (c.1==6)=true then CW (fun a b (v:(AH×AH×Unit)×Unit)=>Cy (fun x (v:AH×AH×Unit)=>BY x v.1 v.2.1) a b v.1) a b c ((c,c,()),()) else
 if (c.1==7)=true then CW (fun a b (v:(AH×AH×Unit)×Unit)=>Cy (fun x (v:AH×AH×Unit)=>BZ x v.1 v.2.1) a b v.1) a b c ((c,c,()),()) else
 if (c.1==8)=true then CW (fun a b (_:Unit)=>F3 a b) a b c () else
 if (c.1==10)=true then CW (fun a b (v:Unit×AH×Unit)=>A2 a b v.2.1) a b c ((),c,()) else
 CW (fun a b (_:Unit×Unit×Unit)=>A3 a b) a b c ((),(),())
noncomputable def Ic:Cs (Ae×Ae×AH):=csC AF (csC AF Vr)
noncomputable def La (r:Int):AV:=cdI.enc r
noncomputable def RC:List AV->Option AV:=Dm Ic (fun a=>Fc a.1 a.2.1 a.2.2) La
theorem MB {α β:Type}{s:Cs α}{F:α->Option β}{er:β->AV}{a:α}{b:β}{xs:List AV}(h:F a=some b) (e:xs=s.enc a):Dm s F er xs=some (er b):=e ▸ SP h
theorem ACE (a b:Ae) (c:AH):Ic.enc (a,b,c)=[AF.enc a,AF.enc b,.pe (AA.enc c) 0,.pe (Px c) 0]:=rfl
theorem RJ:XOk 165 RC:=by
 refine ADE ⟨Tryz.call165⟩ Ic (fun a=>Fc a.1 a.2.1 a.2.2) La fun x r h=>?_
 obtain ⟨a,b,c⟩:=x
 rw [ACE]
 dsimp only at h
 unfold Fc at h
 unfold Px
 rcases BE (c.1==1) with h1 | h1
 ·rw [if_pos h1] at h; rw [if_pos h1]
  exact ⟨_,DA (sx:=csC (cdP (cdF 178 (csC (cdP AA) csN) (fun _=>rfl))) csN) (hn:=fun _=>rfl) (G:=fun a b (v:(AH×Unit)×Unit)=>Cy (fun x (v:AH×Unit)=>EX x v.1) a b v.1) (Jd (sx:=csC (cdP AA) csN) (hn:=fun _=>rfl) (G:=fun x (v:AH×Unit)=>EX x v.1) Tc),MB (a:=(a,b,c,((c,()),()),())) h rfl⟩
 rw [if_neg (by rw [h1]; decide)] at h; rw [if_neg (by rw [h1]; decide)]
 rcases BE (c.1==2) with h1 | h1
 ·rw [if_pos h1] at h; rw [if_pos h1]
  exact ⟨_,DA (sx:=csC (cdP AA) csN) (hn:=fun _=>rfl) (G:=fun a b (v:AH×Unit)=>Dn a b v.1) OO,MB (a:=(a,b,c,(c,()),())) h rfl⟩
 rw [if_neg (by rw [h1]; decide)] at h; rw [if_neg (by rw [h1]; decide)]
 rcases BE (c.1==3) with h1 | h1
 ·rw [if_pos h1] at h; rw [if_pos h1]
  exact ⟨_,DA (sx:=csC (cdP AA) csN) (hn:=fun _=>rfl) (G:=fun a b (v:AH×Unit)=>Dn a b v.1) OO,MB (a:=(a,b,c,(c,()),())) h rfl⟩
 rw [if_neg (by rw [h1]; decide)] at h; rw [if_neg (by rw [h1]; decide)]
 rcases BE (c.1==4) with h1 | h1
 ·rw [if_pos h1] at h; rw [if_pos h1]
  exact ⟨_,DA (sx:=csC (cdP (cdF 206 (csC (cdP (cdF 182 (csE (cdP AA)) (fun _=>rfl))) (csC (cdP AA) csN)) (fun _=>rfl))) csN) (hn:=fun _=>rfl) (G:=fun a b (v:(AH×AH×Unit)×Unit)=>Cy (fun x (v:AH×AH×Unit)=>Bh x v.1 v.2.1) a b v.1) (Jd (sx:=csC (cdP (cdF 182 (csE (cdP AA)) (fun _=>rfl))) (csC (cdP AA) csN)) (hn:=fun _=>rfl) (G:=fun x (v:AH×AH×Unit)=>Bh x v.1 v.2.1) Je),MB (a:=(a,b,c,((c,c,()),()),())) h rfl⟩
 rw [if_neg (by rw [h1]; decide)] at h; rw [if_neg (by rw [h1]; decide)]
 rcases BE (c.1==5) with h1 | h1
 ·rw [if_pos h1] at h; rw [if_pos h1]
  exact ⟨_,DA (sx:=csC (cdP (cdF 206 (csC (cdP (cdF 183 csN (fun _=>rfl))) (csC (cdP AA) csN)) (fun _=>rfl))) csN) (hn:=fun _=>rfl) (G:=fun a b (v:(Unit×AH×Unit)×Unit)=>Cy (fun x (v:Unit×AH×Unit)=>Bi x v.2.1) a b v.1) (Jd (sx:=csC (cdP (cdF 183 csN (fun _=>rfl))) (csC (cdP AA) csN)) (hn:=fun _=>rfl) (G:=fun x (v:Unit×AH×Unit)=>Bi x v.2.1) Jf),MB (a:=(a,b,c,(((),c,()),()),())) h rfl⟩
 rw [if_neg (by rw [h1]; decide)] at h; rw [if_neg (by rw [h1]; decide)]
 rcases BE (c.1==6) with h1 | h1
 ·rw [if_pos h1] at h; rw [if_pos h1]
  exact ⟨_,DA (sx:=csC (cdP (cdF 206 (csC (cdP (cdF 184 (csE (cdP AA)) (fun _=>rfl))) (csC (cdP AA) csN)) (fun _=>rfl))) csN) (hn:=fun _=>rfl) (G:=fun a b (v:(AH×AH×Unit)×Unit)=>Cy (fun x (v:AH×AH×Unit)=>BY x v.1 v.2.1) a b v.1) (Jd (sx:=csC (cdP (cdF 184 (csE (cdP AA)) (fun _=>rfl))) (csC (cdP AA) csN)) (hn:=fun _=>rfl) (G:=fun x (v:AH×AH×Unit)=>BY x v.1 v.2.1) Jg),MB (a:=(a,b,c,((c,c,()),()),())) h rfl⟩
 rw [if_neg (by rw [h1]; decide)] at h; rw [if_neg (by rw [h1]; decide)]
 rcases BE (c.1==7) with h1 | h1
 ·rw [if_pos h1] at h; rw [if_pos h1]
  exact ⟨_,DA (sx:=csC (cdP (cdF 206 (csC (cdP (cdF 186 (csE (cdP AA)) (fun _=>rfl))) (csC (cdP AA) csN)) (fun _=>rfl))) csN) (hn:=fun _=>rfl) (G:=fun a b (v:(AH×AH×Unit)×Unit)=>Cy (fun x (v:AH×AH×Unit)=>BZ x v.1 v.2.1) a b v.1) (Jd (sx:=csC (cdP (cdF 186 (csE (cdP AA)) (fun _=>rfl))) (csC (cdP AA) csN)) (hn:=fun _=>rfl) (G:=fun x (v:AH×AH×Unit)=>BZ x v.1 v.2.1) Jh),MB (a:=(a,b,c,((c,c,()),()),())) h rfl⟩
 rw [if_neg (by rw [h1]; decide)] at h; rw [if_neg (by rw [h1]; decide)]
 rcases BE (c.1==8) with h1 | h1
 ·rw [if_pos h1] at h; rw [if_pos h1]
  exact ⟨_,DA (sx:=csN) (hn:=fun _=>rfl) (G:=fun a b (_:Unit)=>F3 a b) Th,MB (a:=(a,b,c,(),())) h rfl⟩
 rw [if_neg (by rw [h1]; decide)] at h; rw [if_neg (by rw [h1]; decide)]
 rcases BE (c.1==10) with h1 | h1
 ·rw [if_pos h1] at h; rw [if_pos h1]
  exact ⟨_,DA (sx:=csC (cdP (cdF 208 csN (fun _=>rfl))) (csC (cdP (cdF 190 (csE (cdP AA)) (fun _=>rfl))) csN)) (hn:=fun _=>rfl) (G:=fun a b (v:Unit×AH×Unit)=>A2 a b v.2.1) GJ,MB (a:=(a,b,c,((),c,()),())) h rfl⟩
 rw [if_neg (by rw [h1]; decide)] at h; rw [if_neg (by rw [h1]; decide)]
 exact ⟨_,DA (sx:=csC (cdP (cdF 208 csN (fun _=>rfl))) (csC (cdP (cdF 191 csN (fun _=>rfl))) csN)) (hn:=fun _=>rfl) (G:=fun a b (_:Unit×Unit×Unit)=>A3 a b) GK,MB (a:=(a,b,c,((),(),()),())) h rfl⟩
/- trestle/court.first[trestle/court.seated,trestle/court.order] -/
noncomputable def DI:Code:=A9 Tryz.f76
def Au (x0:(List AH)):Nat->(List UInt8)->(List UInt8)->(List UInt8)->Int->Int->(List UInt8)->Bool->Bool->(List (List UInt8))->Int->(List UInt8)->(List UInt8)->(List UInt8)->Int->Int->(List UInt8)->Bool->Bool->(List (List UInt8))->Int->Int->Option ((Unit) ⊕ (Int×Int))
 | 0,_,_,_,_,_,_,_,_,_,_,_,_,_,_,_,_,_,_,_,_,_=>none
 | f + 1,c1,c2,c3,c4,c5,c6,c7,c8,c9,c10,c11,c12,c13,c14,c15,c16,c17,c18,c19,c20,c21 =>
  if (decide (c21 < (x0.length:Int)))=true then
  (idx x0 c21).bind fun v23 =>
  (Fc ((c1,c2,c3,c4,c5,c6,c7,c8,c9),c10) ((c11,c12,c13,c14,c15,c16,c17,c18,c19),c20) v23).bind fun v24 =>
  if (v24 != 0)=true then
  some (.inr (c21,v24))
  else
  Au x0 f c1 c2 c3 c4 c5 c6 c7 c8 c9 c10 c11 c12 c13 c14 c15 c16 c17 c18 c19 c20 (wr .i64 (c21 + 1))
  else
  some (.inl ())
def As (x0:(List AH)) (x1:Ae) (x2:Ae):Option (Int×Int) :=
 (Au x0 100000 x1.1.1 x1.1.2.1 x1.1.2.2.1 x1.1.2.2.2.1 x1.1.2.2.2.2.1 x1.1.2.2.2.2.2.1 x1.1.2.2.2.2.2.2.1 x1.1.2.2.2.2.2.2.2.1 x1.1.2.2.2.2.2.2.2.2 x1.2 x2.1.1 x2.1.2.1 x2.1.2.2.1 x2.1.2.2.2.1 x2.1.2.2.2.2.1 x2.1.2.2.2.2.2.1 x2.1.2.2.2.2.2.2.1 x2.1.2.2.2.2.2.2.2.1 x2.1.2.2.2.2.2.2.2.2 x2.2 0).bind fun r28 =>
 match r28 with
 | (.inl _w29) =>
  some ((-1),0)
 | (.inr w30) =>
  some (w30.1,w30.2)
noncomputable def DN:Cs ((List AH)×Ae×Ae×Unit):=(csC (cdL 1 Bg) (csC AF (csC AF csN)))
noncomputable def DO (r:Int×Int):AV:= .tp [cdI.enc r.1,cdI.enc r.2]
theorem D8 (x0:(List AH)):∀ (f:Nat) (c1:(List UInt8)) (c2:(List UInt8)) (c3:(List UInt8)) (c4:Int) (c5:Int) (c6:(List UInt8)) (c7:Bool) (c8:Bool) (c9:(List (List UInt8))) (c10:Int) (c11:(List UInt8)) (c12:(List UInt8)) (c13:(List UInt8)) (c14:Int) (c15:Int) (c16:(List UInt8)) (c17:Bool) (c18:Bool) (c19:(List (List UInt8))) (c20:Int) (c21:Int) (r:(Unit) ⊕ (Int×Int)),Au x0 f c1 c2 c3 c4 c5 c6 c7 c8 c9 c10 c11 c12 c13 c14 c15 c16 c17 c18 c19 c20 c21=some r->SemN E0 ⟨none,false⟩ (pc DI [1,0,1,0,0]) f ⟨Fr 27 [(4,.pt 0 0 0),(5,.pt 1 0 0),(11,.sl 1 (x0.map Bg.enc)),(12,.v (.int .i64 (x0.length:Int))),(13,.v (.int .i64 c21))],[some ⟨10,115,[.ag [.st c1,.st c2,.st c3,.v (.int .i64 c4),.v (.int .i64 c5),.st c6,.v (.bool c7),.v (.bool c8),.sl 1 (c9.map cdS.enc),.v (.int .i64 c10)]],false⟩,some ⟨10,115,[.ag [.st c11,.st c12,.st c13,.v (.int .i64 c14),.v (.int .i64 c15),.st c16,.v (.bool c17),.v (.bool c18),.sl 1 (c19.map cdS.enc),.v (.int .i64 c20)]],false⟩]⟩ (fun e s=>match r with
 | (.inl _w)=>e=(.exit 0)/\Wk E0 s ⟨Fr 27 [],[]⟩
 | (.inr w)=>e = .ret/\Wk E0 s ⟨Fr 27 [(6,.v (.int .i64 w.1)),(7,.v (.int .i64 w.2))],[]⟩):=by
 intro f;induction f with
 | zero=>intro c1 c2 c3 c4 c5 c6 c7 c8 c9 c10 c11 c12 c13 c14 c15 c16 c17 c18 c19 c20 c21 r h; cases h
 | succ f ih0 =>
  intro c1 c2 c3 c4 c5 c6 c7 c8 c9 c10 c11 c12 c13 c14 c15 c16 c17 c18 c19 c20 c21 r h
  have ih:=fun (c1:(List UInt8)) (c2:(List UInt8)) (c3:(List UInt8)) (c4:Int) (c5:Int) (c6:(List UInt8)) (c7:Bool) (c8:Bool) (c9:(List (List UInt8))) (c10:Int) (c11:(List UInt8)) (c12:(List UInt8)) (c13:(List UInt8)) (c14:Int) (c15:Int) (c16:(List UInt8)) (c17:Bool) (c18:Bool) (c19:(List (List UInt8))) (c20:Int) (c21:Int)=>ih0 c1 c2 c3 c4 c5 c6 c7 c8 c9 c10 c11 c12 c13 c14 c15 c16 c17 c18 c19 c20 c21 r
  unfold Au at h;refine Bc ?_
  let p1:Option Blk:=some ⟨10,115,[.ag [.st c11,.st c12,.st c13,.v (.int .i64 c14),.v (.int .i64 c15),.st c16,.v (.bool c17),.v (.bool c18),.sl 1 (c19.map cdS.enc),.v (.int .i64 c20)]],false⟩
  let p2:Option Blk:=some ⟨10,115,[.ag [.st c1,.st c2,.st c3,.v (.int .i64 c4),.v (.int .i64 c5),.st c6,.v (.bool c7),.v (.bool c8),.sl 1 (c9.map cdS.enc),.v (.int .i64 c10)]],false⟩
  let p3:Nat×AV:=(13,.v (.int .i64 c21))
  let p4:Nat×AV:=(12,.v (.int .i64 (x0.length:Int)))
  let p5:Nat×AV:=(11,.sl 1 (x0.map Bg.enc))
  let p6:Nat×AV:=(5,.pt 1 0 0)
  let p7:Nat×AV:=(4,.pt 0 0 0)
  refine AK AC [p7,p6,p5,p4,p3,(14,.v (.bool (decide (c21 < (x0.length:Int)))))] [p2,p1] ?_;refine AG ?_;refine AP (b:=(decide (c21 < (x0.length:Int)))) kr (fun hb22=>?_) (fun hb22=>?_)
  ·rw [if_pos hb22] at h
   refine AT ?_;refine AG ?_;refine Aa ?_;refine AG ?_;obtain ⟨v23,hv23,h⟩:=OB h
   let p8:Nat×AV:=(8,.v (.int .i64 c21))
   refine AL (s1:=⟨Fr 27 [p7,p6,p8,(9,Bg.enc v23),p5,p4,p3],[p2,p1]⟩) ?_ ?_
   ·refine AD (n:=27) AC 1 [p7,p6,p5,p4,p3,(15,.v (.int .i64 c21))] [p2,p1] kr ?_
    refine AW AC 0 rfl (DW (AB rfl) rfl (AS (a:= .sl 1 (x0.map Bg.enc)) (b:= .v (.int .i64 c21)) kr kr (DP (e:=Bg.enc) (el:=117) (k:=1) (ki:= .i64) kr kr hv23))) ?_;exact AX AC
   refine AG ?_;obtain ⟨v24,hv24,h⟩:=OB h;refine AL (s1:=⟨Fr 27 [p7,p6,p8,(10,.v (.int .i64 v24)),p5,p4,p3],[p2,p1]⟩) ?_ ?_
   ·refine AD (n:=27) AC 3 [p7,p6,p8,p5,p4,p3,(18,Bg.enc v23),(19,.ag [.st c1,.st c2,.st c3,.v (.int .i64 c4),.v (.int .i64 c5),.st c6,.v (.bool c7),.v (.bool c8),.sl 1 (c9.map cdS.enc),.v (.int .i64 c10)]),(20,.ag [.st c11,.st c12,.st c13,.v (.int .i64 c14),.v (.int .i64 c15),.st c16,.v (.bool c17),.v (.bool c18),.sl 1 (c19.map cdS.enc),.v (.int .i64 c20)])] [p2,p1] kr ?_
    refine AN (caps:=[.pe (AA.enc v23) 0,.pe (Px v23) 0]) (xs:=[.ag [.st c1,.st c2,.st c3,.v (.int .i64 c4),.v (.int .i64 c5),.st c6,.v (.bool c7),.v (.bool c8),.sl 1 (c9.map cdS.enc),.v (.int .i64 c10)],.ag [.st c11,.st c12,.st c13,.v (.int .i64 c14),.v (.int .i64 c15),.st c16,.v (.bool c17),.v (.bool c18),.sl 1 (c19.map cdS.enc),.v (.int .i64 c20)]]) (u:=(((c1,c2,c3,c4,c5,c6,c7,c8,c9),c10),((c11,c12,c13,c14,c15,c16,c17,c18,c19),c20),v23)) rfl rfl RJ rfl (AB rfl) kr kr (AJ (AQ (c:=AF) (v:=((c1,c2,c3,c4,c5,c6,c7,c8,c9),c10))) (AJ (AQ (c:=AF) (v:=((c11,c12,c13,c14,c15,c16,c17,c18,c19),c20))) (Ul (n:=10) (s:=Vr) (a:=v23)))) (.inl kr) hv24 ?_;exact AX AC
   refine AK AC [p7,p6,p8,(10,.v (.int .i64 v24)),p5,p4,p3,(23,.v (.bool (v24 != 0)))] [p2,p1] ?_;refine AP (b:=(v24 != 0)) kr (fun hb25=>?_) (fun hb25=>?_)
   ·rw [if_pos hb25] at h
    refine AG ?_;refine AL (s1:=⟨Fr 27 [(6,.v (.int .i64 c21)),(7,.v (.int .i64 v24))],[]⟩) ?_ ?_
    ·refine AD (n:=27) AC 4 [(6,.v (.int .i64 c21)),(7,.v (.int .i64 v24))] [p2,p1] kr ?_
     exact AI rfl (Ac [] trivial ⟨lv,lv,trivial⟩)
    refine AO ?_;have hq:=OI h; subst hq;exact ⟨rfl,AM⟩
   ·rw [BV hb25] at h
    refine AT ?_
    let p9:Nat×AV:=(13,.v (.int .i64 (wr .i64 (c21 + 1))))
    refine DC AC [p7,p6,p5,p4,p9] [p2,p1] ?_;exact Aj (s1:=⟨Fr 27 [p7,p6,p5,p4,p9],[p2,p1]⟩) (Ac [0,1] ⟨⟨_,rfl,GO⟩,⟨_,rfl,GO⟩,trivial⟩ ⟨lv,lv,lv,lv,lv,trivial⟩) (ih c1 c2 c3 c4 c5 c6 c7 c8 c9 c10 c11 c12 c13 c14 c15 c16 c17 c18 c19 c20 (wr .i64 (c21 + 1)) h)
  ·rw [BV hb22] at h
   refine CA ?_;have hq:=OI h; subst hq;exact ⟨rfl,(Ac [] trivial trivial)⟩
theorem HE (x0:(List AH)) (x1:Ae) (x2:Ae) (r:Int×Int) (h:As x0 x1 x2=some r):Sem E0 ⟨none,false⟩ DI ⟨Fr 27 (A0 0 (DN.enc (x0,x1,x2,()))),[]⟩ fun e s'=>(e = .normal\/e = .ret)/\∃ xs,Dz E0.P s'.fr s'.hp Tryz.f76.results.toList=some xs/\D0 xs=DO r:=by
 unfold As at h;refine Ao (BL (s1:=⟨Fr 27 [(0,.sl 1 (x0.map Bg.enc)),(1,AF.enc x1),(2,AF.enc x2)],[]⟩) AM ?_)
 let p1:Option Blk:=some ⟨10,115,[AF.enc x2],false⟩
 let p2:Option Blk:=some ⟨10,115,[AF.enc x1],false⟩
 let p3:Nat×AV:=(5,.pt 1 0 0)
 let p4:Nat×AV:=(4,.pt 0 0 0)
 refine AK AC [(0,.sl 1 (x0.map Bg.enc)),p4,p3] [p2,p1] ?_;refine AG ?_;refine AG ?_
 let p5:Nat×AV:=(13,.v (.int .i64 0))
 let p6:Nat×AV:=(12,.v (.int .i64 (x0.length:Int)))
 let p7:Nat×AV:=(11,.sl 1 (x0.map Bg.enc))
 refine AL (s1:=⟨Fr 27 [p4,p3,p7,p6,p5],[p2,p1]⟩) ?_ ?_
 ·refine AD (n:=27) AC 1 [p4,p3,p7] [p2,p1] kr ?_
  refine AW AC 0 rfl (DW (AB rfl) rfl (CO (a:= .sl 1 (x0.map Bg.enc)) kr (BS (el:=117) kr))) ?_;exact AX AC
 refine Aa ?_;obtain ⟨r28,hr28,h⟩:=OB h;refine CF (n:=100000) ?_;rcases r28 with w29 | w30
 ·try dsimp only at h
  refine A1 (Aj (s1:=⟨Fr 27 [p4,p3,p7,p6,p5],[p2,p1]⟩) (Ac [0,1] ⟨⟨_,rfl,GO⟩,⟨_,rfl,GO⟩,trivial⟩ ⟨lv,lv,lv,lv,lv,trivial⟩) (D8 x0 _ x1.1.1 x1.1.2.1 x1.1.2.2.1 x1.1.2.2.2.1 x1.1.2.2.2.2.1 x1.1.2.2.2.2.2.1 x1.1.2.2.2.2.2.2.1 x1.1.2.2.2.2.2.2.2.1 x1.1.2.2.2.2.2.2.2.2 x1.2 x2.1.1 x2.1.2.1 x2.1.2.2.1 x2.1.2.2.2.1 x2.1.2.2.2.2.1 x2.1.2.2.2.2.2.1 x2.1.2.2.2.2.2.2.1 x2.1.2.2.2.2.2.2.2.1 x2.1.2.2.2.2.2.2.2.2 x2.2 0 _ hr28)) ?_;refine AK AC [(6,.v (.int .i64 (-1))),(7,.v (.int .i64 0))] [] ?_;refine AO ?_;have hq:=OI h; subst hq;exact ⟨⟨Fr 27 [(6,.v (.int .i64 (-1))),(7,.v (.int .i64 0))],[]⟩,AM,.inr rfl,[.v (.int .i64 (-1)),.v (.int .i64 0)],kr,kr⟩
 ·try dsimp only at h
  refine A1 (Aj (s1:=⟨Fr 27 [p4,p3,p7,p6,p5],[p2,p1]⟩) (Ac [0,1] ⟨⟨_,rfl,GO⟩,⟨_,rfl,GO⟩,trivial⟩ ⟨lv,lv,lv,lv,lv,trivial⟩) (D8 x0 _ x1.1.1 x1.1.2.1 x1.1.2.2.1 x1.1.2.2.2.1 x1.1.2.2.2.2.1 x1.1.2.2.2.2.2.1 x1.1.2.2.2.2.2.2.1 x1.1.2.2.2.2.2.2.2.1 x1.1.2.2.2.2.2.2.2.2 x1.2 x2.1.1 x2.1.2.1 x2.1.2.2.1 x2.1.2.2.2.1 x2.1.2.2.2.2.1 x2.1.2.2.2.2.2.1 x2.1.2.2.2.2.2.2.1 x2.1.2.2.2.2.2.2.2.1 x2.1.2.2.2.2.2.2.2.2 x2.2 0 _ hr28)) ?_;have hq:=OI h; subst hq;exact ⟨⟨Fr 27 [(6,.v (.int .i64 w30.1)),(7,.v (.int .i64 w30.2))],[]⟩,AM,.inr rfl,[.v (.int .i64 w30.1),.v (.int .i64 w30.2)],kr,kr⟩
noncomputable def Hn:List AV->Option AV:=Dm DN (fun a=>As a.1 a.2.1 a.2.2.1) DO
theorem Er:XOk 76 Hn:=by
 refine AR Tryz.func76 (c:=DI) ?h2 ⟨Tryz.call76⟩ DN (fun a=>As a.1 a.2.1 a.2.2.1) DO (fun a=>(by show 3<=27; decide)) ?h3 ?h4
 case h2=>kernel_rfl
 case h3=>intro b; kernel_rfl
 case h4=>exact fun a b h=>HE a.1 a.2.1 a.2.2.1 b h
/- trestle/court.groups$1 -/
noncomputable def MH:Code:=A9 Tryz.f134
def D1 (x0:Ae) (x1:Ae) (x2:(List AH)):Option (Int) :=
 (As x2 x0 x1).bind fun v1 =>
 some v1.2
noncomputable def I4:Cs (Ae×Ae×(List AH)×Unit):=(csC AF (csC AF (csC (cdP (cdL 1 Bg)) csN)))
noncomputable def JA (r:Int):AV:=cdI.enc r
theorem Pr (x0:Ae) (x1:Ae) (x2:(List AH)) (r:Int) (h:D1 x0 x1 x2=some r):Sem E0 ⟨none,false⟩ MH ⟨Fr 16 (A0 0 (I4.enc (x0,x1,x2,()))),[]⟩ fun e s'=>(e = .normal\/e = .ret)/\∃ xs,Dz E0.P s'.fr s'.hp Tryz.f134.results.toList=some xs/\D0 xs=JA r:=by
 unfold D1 at h
 let p1:Nat×AV:=(2,.pe (.sl 1 (x2.map Bg.enc)) 0)
 refine Ao (BL (s1:=⟨Fr 16 [(0,AF.enc x0),(1,AF.enc x1),p1],[]⟩) AM ?_)
 let p2:Option Blk:=some ⟨10,115,[AF.enc x1],false⟩
 let p3:Option Blk:=some ⟨10,115,[AF.enc x0],false⟩
 refine AK AC [p1,(3,.pt 0 0 0),(4,.pt 1 0 0)] [p3,p2] ?_;refine AG ?_;obtain ⟨v1,hv1,h⟩:=OB h;refine AL (s1:=⟨Fr 16 [(7,.v (.int .i64 v1.2))],[]⟩) ?_ ?_
 ·refine AD (n:=16) AC 3 [(9,.sl 1 (x2.map Bg.enc)),(10,AF.enc x0),(11,AF.enc x1)] [p3,p2] kr ?_
  refine AN (caps:=[]) (xs:=[.sl 1 (x2.map Bg.enc),AF.enc x0,AF.enc x1]) (u:=(x2,x0,x1,())) rfl rfl Er rfl (AB rfl) kr kr (AJ (AQ (c:=(cdL 1 Bg)) (v:=x2)) (AJ (AQ (c:=AF) (v:=x0)) (AJ (AQ (c:=AF) (v:=x1)) Ah))) (.inl kr) hv1 ?_;refine AD (n:=16) AC 5 [(7,.v (.int .i64 v1.2))] [p3,p2] kr ?_;exact AI rfl (Ac [] trivial ⟨lv,trivial⟩)
 refine AK AC [(5,.v (.int .i64 v1.2))] [] ?_;refine AO ?_;have hq:=OI h; subst hq;exact ⟨⟨Fr 16 [(5,.v (.int .i64 v1.2))],[]⟩,AM,.inr rfl,[.v (.int .i64 v1.2)],kr,kr⟩
noncomputable def Rr:List AV->Option AV:=Dm I4 (fun a=>D1 a.1 a.2.1 a.2.2.1) JA
theorem Nc:XOk 134 Rr:=by
 refine AR Tryz.func134 (c:=MH) ?h2 ⟨Tryz.call134⟩ I4 (fun a=>D1 a.1 a.2.1 a.2.2.1) JA (fun a=>(by show 3<=16; decide)) ?h3 ?h4
 case h2=>kernel_rfl
 case h3=>intro b; kernel_rfl
 case h4=>exact fun a b h=>Pr a.1 a.2.1 a.2.2.1 b h
/- slices.insertionSortCmpFunc[trestle/court.seated] -/
noncomputable def BX:Code:=A9 Tryz.f192
def A6 (x1:Int) (x3:(List AH)):Nat->Int->(List Ae)->Option (((List Ae)))
 | 0,_,_=>none
 | f + 1,c4,c5 =>
  (if (decide (c4 > x1))=true then (idx c5 c4).bind fun v6 =>
  (idx c5 (wr .i64 (c4 - 1))).bind fun v7 =>
  (D1 v6 v7 x3).bind fun v8 =>
  some (decide (v8 < 0)) else some false).bind fun j9 =>
  if j9=true then
  (idx c5 (wr .i64 (c4 - 1))).bind fun v19 =>
  (idx c5 c4).bind fun v20 =>
  (idx c5 c4).bind fun _v21 =>
  (idx (c5.set c4.toNat v19) (wr .i64 (c4 - 1))).bind fun _v25 =>
  A6 x1 x3 f (wr .i64 (c4 - 1)) ((c5.set c4.toNat v19).set ((wr .i64 (c4 - 1)).toNat) v20)
  else
  some c5
def AY (x1:Int) (x2:Int) (x3:(List AH)):Nat->Int->(List Ae)->Option (((List Ae)))
 | 0,_,_=>none
 | f + 1,c1,c2 =>
  if (decide (c1 < x2))=true then
  (A6 x1 x3 100000 c1 c2).bind fun r31 =>
  AY x1 x2 x3 f (wr .i64 (c1 + 1)) r31
  else
  some c2
def Aw (x0:(List Ae)) (x1:Int) (x2:Int) (x3:(List AH)):Option ((List Ae)×(List AH)) :=
 (AY x1 x2 x3 100000 (wr .i64 (x1 + 1)) x0).bind fun r35 =>
 some (r35,x3)
theorem F8 {L:List Asn}(x1:Int) (x3:(List AH)) (u0:AV) (x2:Int) (u1:AV) (c1:Int):∀ (f:Nat) (c4:Int) (c5:(List Ae)) (r:((List Ae))),A6 x1 x3 f c4 c5=some r->∀ (hp:Hp),T hp ((own_ (ocL 10 115 (ocV AF)) u0 c5)::(cel u1 1 110 (.sl 1 (x3.map Bg.enc)))::L)->SemYN E0 ⟨none,false⟩ (pc BX [1,0,0,1,0,0,1,0,0]) f ⟨Fr 53 [(0,u0),(1,.v (.int .i64 x1)),(2,.v (.int .i64 x2)),(3,.fn 134 [] [u1]),(8,.v (.int .i64 c1)),(9,.v (.int .i64 c4))],hp⟩ (fun e s=>e=(.exit 2)/\∃ s2,(∃ (h':Hp),T h' ((own_ (ocL 10 115 (ocV AF)) u0 r)::(cel u1 1 110 (.sl 1 (x3.map Bg.enc)))::L)/\s2=⟨Fr 53 [(0,u0),(1,.v (.int .i64 x1)),(2,.v (.int .i64 x2)),(3,.fn 134 [] [u1]),(8,.v (.int .i64 c1))],h'⟩)/\WkY E0 s s2):=by
 intro f;induction f with
 | zero=>intro c4 c5 r h; cases h
 | succ f ih0 =>
  intro c4 c5 r h  hp hT;unfold A6 at h;refine Dr ?_;refine Ap ?_;refine Ap ?_;obtain ⟨j9,hj9,h⟩:=OB h;refine QY 17 (A:=fun s1=>∃ (h':Hp),T h' ((own_ (ocL 10 115 (ocV AF)) u0 c5)::(cel u1 1 110 (.sl 1 (x3.map Bg.enc)))::L)/\s1=⟨Fr 53 [(0,u0),(1,.v (.int .i64 x1)),(2,.v (.int .i64 x2)),(3,.fn 134 [] [u1]),(8,.v (.int .i64 c1)),(9,.v (.int .i64 c4)),(34,.v (.bool j9))],h'⟩) AC.mixed kr kr ?_ ?_
  ·refine RunDT.q (x:= .v (.int .i64 c4)) rfl kr rfl (AB rfl) rfl kr kr ?_
   refine RunDT.q (x:= .v (.int .i64 x1)) rfl kr rfl (AB rfl) rfl kr kr ?_;refine RunDT.q (x:= .v (.bool (decide (c4 > x1)))) rfl kr rfl (AB rfl) rfl kr kr ?_;refine RunDT.q (x:= .v (.bool (decide (c4 > x1)))) rfl kr rfl (AB rfl) rfl kr kr ?_;rcases BE (decide (c4 > x1)) with hc30 | hc30
   ·rw [if_pos hc30] at hj9
    rw [hc30];refine RunDT.q (x:= .fn 134 [] [u1]) rfl kr rfl kr rfl kr kr ?_;refine RunDT.q (x:=u0) rfl kr rfl kr rfl kr kr ?_;refine RunDT.q (x:= .v (.int .i64 c4)) rfl kr rfl kr rfl kr kr ?_;obtain ⟨v6,hv6,hj9⟩:=OB hj9;refine RunDT.q (x:=eAt u0 c4.toNat) rfl kr rfl kr rfl (AS (a:=u0) (b:= .v (.int .i64 c4)) kr kr (Ze (bytes:=120) hT kr hv6)) kr ?_;refine RunDT.q (x:=(AF.enc v6)) rfl kr rfl kr rfl (PA (p:=eAt u0 c4.toNat) kr (Q0 (y:=(AF.enc v6)) (m:=10) (g:=true) hT (HT hv6).2 kr kr kr)) (MP hT (HT hv6).2 kr) ?_;refine RunDT.q (x:=u0) rfl kr rfl kr rfl kr kr ?_;refine RunDT.q (x:= .v (.int .i64 c4)) rfl kr rfl kr rfl kr kr ?_;refine RunDT.q (x:= .v (.int .i64 (wr .i64 (c4 - 1)))) rfl kr rfl kr rfl kr kr ?_;obtain ⟨v7,hv7,hj9⟩:=OB hj9;refine RunDT.q (x:=eAt u0 ((wr .i64 (c4 - 1)).toNat)) rfl kr rfl kr rfl (AS (a:=u0) (b:= .v (.int .i64 (wr .i64 (c4 - 1)))) kr kr (Ze (bytes:=120) hT kr hv7)) kr ?_;refine RunDT.q (x:=(AF.enc v7)) rfl kr rfl kr rfl (PA (p:=eAt u0 ((wr .i64 (c4 - 1)).toNat)) kr (Q0 (y:=(AF.enc v7)) (m:=10) (g:=true) hT (HT hv7).2 kr kr kr)) (MP hT (HT hv7).2 kr) ?_;obtain ⟨v8,hv8,hj9⟩:=OB hj9;refine MV (v:=v8) (caps:=[u1]) (xs:=[AF.enc v6,AF.enc v7]) (u:=(v6,v7,x3,())) rfl rfl Nc rfl kr kr kr (Dq (Gm (c:=AF) (v:=v6)) (Dq (Gm (c:=AF) (v:=v7)) (Dq (SeeD.cel (c:=(cdL 1 Bg)) (v:=x3) hT (i:=1) rfl) SeesD.nil))) kr hv8 ?_;refine RunDT.q (x:= .v (.bool (decide (v8 < 0)))) rfl kr rfl kr rfl kr kr ?_;refine RunDT.q (x:= .v (.bool (decide (v8 < 0)))) rfl kr rfl (AB rfl) rfl kr kr ?_;have hq:=OI hj9; subst hq;exact RunDT.done rfl ⟨_,⟨hp,hT,rfl⟩,WkY.f1⟩
   ·rw [BV hc30] at hj9
    rw [hc30];refine RunDT.skip rfl kr rfl ?_;refine RunDT.skip rfl kr rfl ?_;refine RunDT.skip rfl kr rfl ?_;refine RunDT.skip rfl kr rfl ?_;refine RunDT.skip rfl kr rfl ?_;refine RunDT.skip rfl kr rfl ?_;refine RunDT.skip rfl kr rfl ?_;refine RunDT.skip rfl kr rfl ?_;refine RunDT.skip rfl kr rfl ?_;refine RunDT.skip rfl kr rfl ?_;refine RunDT.skip rfl kr rfl ?_;refine RunDT.skip rfl kr rfl ?_;refine RunDT.q (x:= .v (.bool false)) rfl kr rfl (AB rfl) rfl kr kr ?_;have hq:=OI hj9; subst hq;exact RunDT.done rfl ⟨_,⟨hp,hT,rfl⟩,WkY.f1⟩
  rintro _ ⟨hp16,hT17,rfl⟩;refine DH (b:=j9) kr (fun hb18=>?_) (fun hb18=>?_)
  ·rw [if_pos hb18] at h
   refine SemY.skip ?_;refine Ap ?_;refine Ba ?_;refine OT 15 AC.mixed kr kr ?_;refine RunDT.q (x:=u0) rfl kr rfl (AB rfl) rfl kr kr ?_;refine RunDT.q (x:= .v (.int .i64 c4)) rfl kr rfl (AB rfl) rfl kr kr ?_;refine RunDT.q (x:=u0) rfl kr rfl (AB rfl) rfl kr kr ?_;refine RunDT.q (x:= .v (.int .i64 c4)) rfl kr rfl (AB rfl) rfl kr kr ?_;refine RunDT.q (x:= .v (.int .i64 (wr .i64 (c4 - 1)))) rfl kr rfl (AB rfl) rfl kr kr ?_;refine RunDT.q (x:=u0) rfl kr rfl (AB rfl) rfl kr kr ?_;refine RunDT.q (x:= .v (.int .i64 c4)) rfl kr rfl (AB rfl) rfl kr kr ?_;refine RunDT.q (x:= .v (.int .i64 (wr .i64 (c4 - 1)))) rfl kr rfl (AB rfl) rfl kr kr ?_;obtain ⟨v19,hv19,h⟩:=OB h;refine RunDT.q (x:=eAt u0 ((wr .i64 (c4 - 1)).toNat)) rfl kr rfl (AB rfl) rfl (AS (a:=u0) (b:= .v (.int .i64 (wr .i64 (c4 - 1)))) kr kr (Ze (bytes:=120) hT17 kr hv19)) kr ?_;refine RunDT.q (x:=(AF.enc v19)) rfl kr rfl (AB rfl) rfl (PA (p:=eAt u0 ((wr .i64 (c4 - 1)).toNat)) kr (Q0 (y:=(AF.enc v19)) (m:=10) (g:=true) hT17 (HT hv19).2 kr kr kr)) (MP hT17 (HT hv19).2 kr) ?_;refine RunDT.q (x:=u0) rfl kr rfl (AB rfl) rfl kr kr ?_;refine RunDT.q (x:= .v (.int .i64 c4)) rfl kr rfl (AB rfl) rfl kr kr ?_;obtain ⟨v20,hv20,h⟩:=OB h;refine RunDT.q (x:=eAt u0 c4.toNat) rfl kr rfl (AB rfl) rfl (AS (a:=u0) (b:= .v (.int .i64 c4)) kr kr (Ze (bytes:=120) hT17 kr hv20)) kr ?_;refine RunDT.q (x:=(AF.enc v20)) rfl kr rfl (AB rfl) rfl (PA (p:=eAt u0 c4.toNat) kr (Q0 (y:=(AF.enc v20)) (m:=10) (g:=true) hT17 (HT hv20).2 kr kr kr)) (MP hT17 (HT hv20).2 kr) ?_;obtain ⟨v21,hv21,h⟩:=OB h;refine RunDT.q (x:=eAt u0 c4.toNat) rfl kr rfl (AB rfl) rfl (AS (a:=u0) (b:= .v (.int .i64 c4)) kr kr (Ze (bytes:=120) hT17 kr hv21)) kr ?_;refine RunDT.tail rfl ?_;obtain ⟨hp22,hs23,hT24⟩:=VM (P:=Tryz.prog) (ty:=115) (y:=(AF.enc v19)) (v':=v19) hT17 (HT hv21).2 kr kr kr;refine RunL.store AC (y:=eAt u0 c4.toNat) (z:=(AF.enc v19)) rfl (AB rfl) kr kr hs23 ?_;obtain ⟨v25,hv25,h⟩:=OB h
   refine BW AC 0 rfl (DW (AB rfl) rfl (AS (a:=u0) (b:= .v (.int .i64 (wr .i64 (c4 - 1)))) kr kr (Ze (bytes:=120) hT24 kr hv25))) ?_;obtain ⟨hp26,hs27,hT28⟩:=VM (P:=Tryz.prog) (ty:=115) (y:=(AF.enc v20)) (v':=v20) hT24 (HT hv25).2 kr kr kr;refine RunL.store AC (y:=eAt u0 ((wr .i64 (c4 - 1)).toNat)) (z:=(AF.enc v20)) rfl (AB rfl) kr kr hs27 ?_;refine Bq rfl (SemY.fr (l':=[(0,u0),(1,.v (.int .i64 x1)),(2,.v (.int .i64 x2)),(3,.fn 134 [] [u1]),(8,.v (.int .i64 c1)),(9,.v (.int .i64 c4))]) kr ?_);refine Ab ?_;refine BR AC 3 ?_;refine Bq rfl ?_;exact CQ WkY.f1 (ih0 (wr .i64 (c4 - 1)) ((c5.set c4.toNat v19).set ((wr .i64 (c4 - 1)).toNat) v20) _ h  hp26 hT28)
  ·rw [BV hb18] at h
   refine SemY.exit ?_;have hq:=OI h; subst hq;exact ⟨rfl,_,⟨hp16,hT17,rfl⟩,WkY.f1⟩
theorem F7 {L:List Asn}(x1:Int) (x2:Int) (x3:(List AH)) (u0:AV) (u1:AV):∀ (f:Nat) (c1:Int) (c2:(List Ae)) (r:((List Ae))),AY x1 x2 x3 f c1 c2=some r->∀ (hp:Hp),T hp ((own_ (ocL 10 115 (ocV AF)) u0 c2)::(cel u1 1 110 (.sl 1 (x3.map Bg.enc)))::L)->SemYN E0 ⟨none,false⟩ (pc BX [1,0,0]) f ⟨Fr 53 [(0,u0),(1,.v (.int .i64 x1)),(2,.v (.int .i64 x2)),(3,.fn 134 [] [u1]),(8,.v (.int .i64 c1))],hp⟩ (fun e s=>e=(.exit 0)/\∃ s2,(∃ (h':Hp),T h' ((own_ (ocL 10 115 (ocV AF)) u0 r)::(cel u1 1 110 (.sl 1 (x3.map Bg.enc)))::L)/\s2=⟨Fr 53 [],h'⟩)/\WkY E0 s s2):=by
 intro f;induction f with
 | zero=>intro c1 c2 r h; cases h
 | succ f ih0 =>
  intro c1 c2 r h  hp hT;unfold AY at h;refine Dr ?_;refine Ap ?_;refine CB AC [(0,u0),(1,.v (.int .i64 x1)),(2,.v (.int .i64 x2)),(3,.fn 134 [] [u1]),(8,.v (.int .i64 c1)),(14,.v (.bool (decide (c1 < x2))))] ?_;refine DH (b:=(decide (c1 < x2))) kr (fun hb3=>?_) (fun hb3=>?_)
  ·rw [if_pos hb3] at h
   refine SemY.skip ?_;refine Ap ?_;refine Ba ?_;refine CB AC [(0,u0),(1,.v (.int .i64 x1)),(2,.v (.int .i64 x2)),(3,.fn 134 [] [u1]),(8,.v (.int .i64 c1)),(9,.v (.int .i64 c1))] ?_;refine Ba ?_;refine SemY.loop (n:=100000) ?_;obtain ⟨r31,hr31,h⟩:=OB h;refine DY (CQ WkY.f1 (F8 x1 x3 u0 x2 u1 c1 _ c1 c2 _ hr31  hp hT)) ?_;rintro _ ⟨hp32,hT33,rfl⟩;refine Ab ?_;refine BR AC 3 ?_;refine Bq rfl ?_;exact CQ WkY.f1 (ih0 (wr .i64 (c1 + 1)) r31 _ h  hp32 hT33)
  ·rw [BV hb3] at h
   refine SemY.exit ?_;have hq:=OI h; subst hq;exact ⟨rfl,_,⟨hp,hT,rfl⟩,WkY.f1⟩
theorem Dp {L:List Asn}{hp:Hp}(u0:AV) (x0:(List Ae)) (x1:Int) (x2:Int) (u1:AV) (x3:(List AH)) (r:(List Ae)×(List AH)) (h:Aw x0 x1 x2 x3=some r) (hT:T hp ((own_ (ocL 10 115 (ocV AF)) u0 x0)::(cel u1 1 110 (.sl 1 (x3.map Bg.enc)))::L)):SemY E0 ⟨none,false⟩ BX ⟨Fr 53 (A0 0 [u0,.v (.int .i64 x1),.v (.int .i64 x2),.fn 134 [] [u1]]),hp⟩ fun x s'=>(x = .normal\/x = .ret)/\∃ ys,Dz E0.P s'.fr s'.hp Tryz.f192.results.toList=some ys/\(fun v h'=>v = .tp []/\T h' ((own_ (ocL 10 115 (ocV AF)) u0 r.1)::(cel u1 1 110 (.sl 1 (r.2.map Bg.enc)))::L)) (D0 ys) s'.hp:=by
 unfold Aw at h;refine JK (Ke (s1:=⟨Fr 53 [(0,u0),(1,.v (.int .i64 x1)),(2,.v (.int .i64 x2)),(3,.fn 134 [] [u1])],hp⟩) WkY.f1 ?_);refine CB AC [(0,u0),(1,.v (.int .i64 x1)),(2,.v (.int .i64 x2)),(3,.fn 134 [] [u1]),(8,.v (.int .i64 (wr .i64 (x1 + 1))))] ?_;refine Ba ?_;refine SemY.loop (n:=100000) ?_;obtain ⟨r35,hr35,h⟩:=OB h;refine DY (CQ WkY.f1 (F7 x1 x2 x3 u0 u1 _ (wr .i64 (x1 + 1)) x0 _ hr35  hp hT)) ?_;rintro _ ⟨hp36,hT37,rfl⟩;have hq:=OI h; subst hq;exact ⟨⟨Fr 53 [],hp36⟩,WkY.f1,.inl rfl,[],kr,⟨rfl,hT37⟩⟩
/- slices.stableCmpFunc[trestle/court.seated] -/
noncomputable def Ci:Code:=A9 Tryz.f166
def Ay (x1:Int):Nat->Int->Int->(List Ae)->(List AH)->Option ((Int×(List Ae)×(List AH)))
 | 0,_,_,_,_=>none
 | f + 1,c1,c2,c3,c4 =>
  if (decide (c2<=x1))=true then
  (Aw c3 c1 c2 c4).bind fun v6 =>
  Ay x1 f c2 (wr .i64 (c2 + 20)) v6.1 v6.2
  else
  some (c1,c3,c4)
def Bz (x1:Int):Nat->Option ((Unit))
 | 0=>none
 | _f + 1 =>
  if (decide ((20:Int) < x1))=true then
  none
  else
  some ()
def CK (x0:(List Ae)) (x1:Int) (x2:(List AH)):Option ((List Ae)×(List AH)) :=
 (Ay x1 100000 0 20 x0 x2).bind fun r12 =>
 (Aw r12.2.1 r12.1 x1 r12.2.2).bind fun v15 =>
 (Bz x1 100000 ).bind fun _r19 =>
 some (v15.1,v15.2)
theorem G9 {L:List Asn}(x1:Int) (u0:AV) (u1:AV):∀ (f:Nat) (c1:Int) (c2:Int) (c3:(List Ae)) (c4:(List AH)) (r:(Int×(List Ae)×(List AH))),Ay x1 f c1 c2 c3 c4=some r->∀ (hp:Hp),T hp ((own_ (ocL 10 115 (ocV AF)) u0 c3)::(cel u1 1 110 (.sl 1 (c4.map Bg.enc)))::L)->SemYN E0 ⟨none,false⟩ (pc Ci [1,1,0,0,0]) f ⟨Fr 63 [(0,u0),(1,.v (.int .i64 x1)),(2,.fn 134 [] [u1]),(6,.v (.int .i64 20)),(7,.v (.int .i64 c1)),(8,.v (.int .i64 c2))],hp⟩ (fun e s=>e=(.exit 0)/\∃ s2,(∃ (h':Hp),T h' ((own_ (ocL 10 115 (ocV AF)) u0 r.2.1)::(cel u1 1 110 (.sl 1 (r.2.2.map Bg.enc)))::L)/\s2=⟨Fr 63 [(0,u0),(1,.v (.int .i64 x1)),(2,.fn 134 [] [u1]),(6,.v (.int .i64 20)),(7,.v (.int .i64 r.1))],h'⟩)/\WkY E0 s s2):=by
 intro f;induction f with
 | zero=>intro c1 c2 c3 c4 r h; cases h
 | succ f ih0 =>
  intro c1 c2 c3 c4 r h  hp hT;unfold Ay at h;refine Dr ?_;refine Ap ?_
  let p1:Nat×AV:=(8,.v (.int .i64 c2))
  let p2:Nat×AV:=(6,.v (.int .i64 20))
  let p3:Nat×AV:=(2,.fn 134 [] [u1])
  let p4:Nat×AV:=(1,.v (.int .i64 x1))
  refine CB AC [(0,u0),p4,p3,p2,(7,.v (.int .i64 c1)),p1,(13,.v (.bool (decide (c2<=x1))))] ?_;refine DH (b:=(decide (c2<=x1))) kr (fun hb5=>?_) (fun hb5=>?_)
  ·rw [if_pos hb5] at h
   refine SemY.skip ?_;refine Ba ?_;refine Ap ?_;refine Ab ?_;refine BR AC 4 ?_;obtain ⟨v6,hv6,h⟩:=OB h;refine Nh (E:=E0) (e:=E0) rfl rfl AC rfl rfl (fid:=192) (caps:=[]) (xs:=[u0,.v (.int .i64 c1),.v (.int .i64 c2),.fn 134 [] [u1]]) (fn:=Tryz.f192) (c:=BX) (Out:=fun v h'=>v = .tp []/\T h' ((own_ (ocL 10 115 (ocV AF)) u0 v6.1)::(cel u1 1 110 (.sl 1 (v6.2.map Bg.enc)))::L)) rfl (AB rfl) kr kr kr kr (by show 4<=53; decide) (Dp u0 c3 c1 c2 u1 c4 _ hv6 hT) ?_;rintro xx hp7 ⟨hqhp7,hT8⟩; subst xx;refine Bq rfl (SemY.fr (l':=[(0,u0),p4,p3,p2,p1]) kr ?_);refine CB AC [(0,u0),p4,p3,p2,(7,.v (.int .i64 c2)),p1] ?_;refine Ab ?_;refine BR AC 4 ?_;refine Bq rfl ?_;exact CQ WkY.f1 (ih0 c2 (wr .i64 (c2 + 20)) v6.1 v6.2 _ h  hp7 hT8)
  ·rw [BV hb5] at h
   refine SemY.exit ?_;have hq:=OI h; subst hq;exact ⟨rfl,_,⟨hp,hT,rfl⟩,WkY.f1⟩
theorem HA {L:List Asn}(x1:Int) (u0:AV) (u1:AV) (v15:(List Ae)×(List AH)):∀ (f:Nat)  (r:(Unit)),Bz x1 f  = some r->∀ (hp:Hp),T hp ((own_ (ocL 10 115 (ocV AF)) u0 v15.1)::(cel u1 1 110 (.sl 1 (v15.2.map Bg.enc)))::L)->SemYN E0 ⟨none,false⟩ (pc Ci [1,1,1,1,0,0]) f ⟨Fr 63 [(1,.v (.int .i64 x1)),(6,.v (.int .i64 20))],hp⟩ (fun e s=>e=(.exit 2)/\∃ s2,(∃ (h':Hp),T h' ((own_ (ocL 10 115 (ocV AF)) u0 v15.1)::(cel u1 1 110 (.sl 1 (v15.2.map Bg.enc)))::L)/\s2=⟨Fr 63 [],h'⟩)/\WkY E0 s s2):=by
 intro f;induction f with
 | zero=>intro  r h; cases h
 | succ f ih0 =>
  intro  r h  hp hT;unfold Bz at h;refine Dr ?_;refine Ap ?_;refine CB AC [(30,.v (.bool (decide ((20:Int) < x1))))] ?_;refine DH (b:=(decide ((20:Int) < x1))) kr (fun hb18=>?_) (fun hb18=>?_)
  ·rw [if_pos hb18] at h
   refine SemY.skip ?_;refine Ba ?_;cases h
  ·rw [BV hb18] at h
   refine SemY.exit ?_;have hq:=OI h; subst hq;exact ⟨rfl,_,⟨hp,hT,rfl⟩,WkY.f1⟩
theorem Hh {L:List Asn}{hp:Hp}(u0:AV) (x0:(List Ae)) (x1:Int) (u1:AV) (x2:(List AH)) (r:(List Ae)×(List AH)) (h:CK x0 x1 x2=some r) (hT:T hp ((own_ (ocL 10 115 (ocV AF)) u0 x0)::(cel u1 1 110 (.sl 1 (x2.map Bg.enc)))::L)):SemY E0 ⟨none,false⟩ Ci ⟨Fr 63 (A0 0 [u0,.v (.int .i64 x1),.fn 134 [] [u1]]),hp⟩ fun x s'=>(x = .normal\/x = .ret)/\∃ ys,Dz E0.P s'.fr s'.hp Tryz.f166.results.toList=some ys/\(fun v h'=>v = .tp []/\T h' ((own_ (ocL 10 115 (ocV AF)) u0 r.1)::(cel u1 1 110 (.sl 1 (r.2.map Bg.enc)))::L)) (D0 ys) s'.hp:=by
 unfold CK at h
 let p1:Nat×AV:=(2,.fn 134 [] [u1])
 let p2:Nat×AV:=(1,.v (.int .i64 x1))
 refine JK (Ke (s1:=⟨Fr 63 [(0,u0),p2,p1],hp⟩) WkY.f1 ?_)
 let p3:Nat×AV:=(6,.v (.int .i64 20))
 refine CB AC [(0,u0),p2,p1,p3] ?_;refine CB AC [(0,u0),p2,p1,p3,(7,.v (.int .i64 0)),(8,.v (.int .i64 20))] ?_;refine Ap ?_;refine Ba ?_;refine SemY.loop (n:=100000) ?_;obtain ⟨r12,hr12,h⟩:=OB h;refine DY (CQ WkY.f1 (G9 x1 u0 u1 _ 0 20 x0 x2 _ hr12  hp hT)) ?_;rintro _ ⟨hp13,hT14,rfl⟩;refine Ap ?_;refine Ab ?_;refine BR AC 4 ?_;obtain ⟨v15,hv15,h⟩:=OB h;refine Nh (E:=E0) (e:=E0) rfl rfl AC rfl rfl (fid:=192) (caps:=[]) (xs:=[u0,.v (.int .i64 r12.1),.v (.int .i64 x1),.fn 134 [] [u1]]) (fn:=Tryz.f192) (c:=BX) (Out:=fun v h'=>v = .tp []/\T h' ((own_ (ocL 10 115 (ocV AF)) u0 v15.1)::(cel u1 1 110 (.sl 1 (v15.2.map Bg.enc)))::L)) rfl (AB rfl) kr kr kr kr (by show 4<=53; decide) (Dp u0 r12.2.1 r12.1 x1 u1 r12.2.2 _ hv15 hT14) ?_;rintro xx hp16 ⟨hqhp16,hT17⟩; subst xx;refine Bq rfl (SemY.fr (l':=[p2,p3]) kr ?_);refine Ba ?_;refine SemY.loop (n:=100000) ?_;obtain ⟨r19,hr19,h⟩:=OB h;refine DY (CQ WkY.f1 (HA x1 u0 u1 v15 _  _ hr19  hp16 hT17)) ?_;rintro _ ⟨hp20,hT21,rfl⟩;have hq:=OI h; subst hq;exact ⟨⟨Fr 63 [],hp20⟩,WkY.f1,.inl rfl,[],kr,⟨rfl,hT21⟩⟩
/- slices.SortStableFunc[[]trestle/court.seated,trestle/court.seated] -/
noncomputable def DG:Code:=A9 Tryz.f136
def BN (x0:(List Ae)) (x1:(List AH)):Option ((List Ae)×(List AH)) :=
 (CK x0 (x0.length:Int) x1).bind fun v1 =>
 some (v1.1,v1.2)
theorem FL {L:List Asn}{hp:Hp}(u0:AV) (x0:(List Ae)) (u1:AV) (x1:(List AH)) (r:(List Ae)×(List AH)) (h:BN x0 x1=some r) (hT:T hp ((own_ (ocL 10 115 (ocV AF)) u0 x0)::(cel u1 1 110 (.sl 1 (x1.map Bg.enc)))::L)):SemY E0 ⟨none,false⟩ DG ⟨Fr 9 (A0 0 [u0,.fn 134 [] [u1]]),hp⟩ fun x s'=>(x = .normal\/x = .ret)/\∃ ys,Dz E0.P s'.fr s'.hp Tryz.f136.results.toList=some ys/\(fun v h'=>v = .tp []/\T h' ((own_ (ocL 10 115 (ocV AF)) u0 r.1)::(cel u1 1 110 (.sl 1 (r.2.map Bg.enc)))::L)) (D0 ys) s'.hp:=by
 unfold BN at h;refine JK (Ke (s1:=⟨Fr 9 [(0,u0),(1,.fn 134 [] [u1])],hp⟩) WkY.f1 ?_);refine Ab ?_;refine BR AC 2 ?_;refine BW AC 0 rfl (DW (AB rfl) rfl (CO (a:=u0) kr (Zh hT kr))) ?_;refine BR AC 1 ?_;obtain ⟨v1,hv1,h⟩:=OB h;refine Nh (E:=E0) (e:=E0) rfl rfl AC rfl rfl (fid:=166) (caps:=[]) (xs:=[u0,.v (.int .i64 (x0.length:Int)),.fn 134 [] [u1]]) (fn:=Tryz.f166) (c:=Ci) (Out:=fun v h'=>v = .tp []/\T h' ((own_ (ocL 10 115 (ocV AF)) u0 v1.1)::(cel u1 1 110 (.sl 1 (v1.2.map Bg.enc)))::L)) rfl (AB rfl) kr kr kr kr (by show 3<=63; decide) (Hh u0 x0 (x0.length:Int) u1 x1 _ hv1 hT) ?_;rintro xx hp2 ⟨hqhp2,hT3⟩; subst xx;refine Bq rfl ?_;have hq:=OI h; subst hq;exact ⟨⟨Fr 9 [],hp2⟩,WkY.f1,.inl rfl,[],kr,⟨rfl,hT3⟩⟩
/- trestle/court.groups -/
noncomputable def IP:Code:=A9 Tryz.f78
def HL (c15:(List (List Int))) (j29:Bool):Option (((List (List Int)))) :=
 if j29=true then
 if (EC 24 (c15.length + ([([]:(List Int))]:List (List Int)).length))=true then
 some (c15++([([]:(List Int))]:List (List Int)))
 else none
 else
 some c15
def DM (v9:(List Ae)×(List AH)):Nat->Int->(List (List Int))->Option (((List (List Int))))
 | 0,_,_=>none
 | f + 1,c13,c15 =>
  if (decide (c13 < (v9.1.length:Int)))=true then
  (idx v9.1 c13).bind fun v17 =>
  (if (c13==0)=true then some true else (idx v9.1 (wr .i64 (c13 - 1))).bind fun v25 =>
  (D1 v25 v17 v9.2).bind fun v28 =>
  some (v28 != 0)).bind fun j29 =>
  (HL c15 j29).bind fun r71 =>
  (idx r71 (wr .i64 ((r71.length:Int) - 1))).bind fun v76 =>
  if (EC 8 (v76.length + ([v17.2]:List Int).length))=true then
  (idx r71 (wr .i64 ((r71.length:Int) - 1))).bind fun _v91 =>
  DM v9 f (wr .i64 (c13 + 1)) (r71.set ((wr .i64 ((r71.length:Int) - 1)).toNat) (v76++([v17.2]:List Int)))
  else none
  else
  some c15
def HK (x0:(List AH)) (x1:(List Ae)):Option ((List (List Int))) :=
 if (EC 120 x1.length)=true then
 (BN x1 x0).bind fun v9 =>
 (DM v9 100000 0 ([]:(List (List Int)))).bind fun r102 =>
 some r102
 else none
theorem Ps {L:List Asn}{hp:Hp}(c15:(List (List Int))) (j29:Bool) (e1:AV) (e6:AV) (v9:(List Ae)×(List AH)) (c13:Int) (e14:AV) (v17:Ae) (e18:AV) (r:((List (List Int)))) (h:HL c15 j29=some r) (hT:T hp ((own_ (ocL 10 115 (ocV AF)) e6 v9.1)::(cel e1 1 110 (.sl 1 (v9.2.map Bg.enc)))::(own_ (ocL 1 48 (ocL 1 3 (ocV cdI))) e14 c15)::(cel e18 10 115 (AF.enc v17))::L)):SemY E0 ⟨none,false⟩ (pc IP [1,1,1,1,1,0,1,0,0,1,1,0,0,1,0,1]) ⟨Fr 55 [(1,e6),(5,.fn 134 [] [e1]),(6,e14),(8,e18),(16,e6),(17,.v (.int .i64 (v9.1.length:Int))),(18,.v (.int .i64 c13)),(35,.v (.bool j29))],hp⟩ (fun e s=>e = .normal/\∃ s2,(∃ (e68:AV) (h':Hp),T h' ((own_ (ocL 10 115 (ocV AF)) e6 v9.1)::(cel e1 1 110 (.sl 1 (v9.2.map Bg.enc)))::(own_ (ocL 1 48 (ocL 1 3 (ocV cdI))) e68 r)::(cel e18 10 115 (AF.enc v17))::L)/\s2=⟨Fr 55 [(1,e6),(5,.fn 134 [] [e1]),(6,e68),(8,e18),(16,e6),(17,.v (.int .i64 (v9.1.length:Int))),(18,.v (.int .i64 c13))],h'⟩)/\WkY E0 s s2):=by
 unfold HL at h;refine DH (b:=j29) kr (fun hb55=>?_) (fun hb55=>?_)
 ·rw [if_pos hb55] at h
  refine Ab ?_;refine BR AC 1 ?_
  have hT60:=(T.e0 (k:=1) (ty:=3) (o:=(ocV cdI)) hT)
  have hl61:Pz Tryz.prog 48 .e0=some (eI ([]:(List Int)).length):=Zh hT60 kr
  obtain ⟨e59,hp56,hb57,hT58⟩:=M3 (P:=Tryz.prog) (bytes:=24) (k:=1) (t:=48) (ty:=46) (xs:=([([]:(List Int))]:List (List Int))) (n:=1) ACJ (AAg ((ACC (o:=(ocL 1 3 (ocV cdI))) hT60).front 1 rfl)) rfl kr kr kr;refine BW AC 0 rfl (AAK (AB rfl) rfl kr (XI (xs:=Qr 0 [.e0]) kr hb57)) ?_;by_cases hk66:(EC 24 (c15.length + ([([]:(List Int))]:List (List Int)).length))=true
  case neg=>rw [if_neg hk66] at h; cases h
  rw [if_pos hk66] at h
  have hT67:=((hT58.front 0 rfl).front 3 rfl)
  obtain ⟨e65,hp62,hb63,hT64⟩:=MW (P:=Tryz.prog) (ty:=46) (ty2:=46) (bytes:=24) hT67 kr kr hk66;refine BW AC 0 rfl (UX (AB rfl) rfl kr kr (Dg (a:=e14) (b:=e59) kr kr hb63)) ?_;refine BR AC 1 ?_;refine Bq rfl ?_;have hq:=OI h; subst hq
  have hT70:=((((hT64.front 3 rfl).front 1 rfl).front 3 rfl).front 3 rfl)
  exact ⟨rfl,_,⟨e65,hp62,hT70,rfl⟩,WkY.f1⟩
 ·rw [BV hb55] at h
  refine SemY.skip ?_;have hq:=OI h; subst hq;exact ⟨rfl,_,⟨e14,hp,hT,rfl⟩,WkY.f1⟩
theorem Pt {L:List Asn}(v9:(List Ae)×(List AH)) (e1:AV) (e6:AV):∀ (f:Nat) (c13:Int) (c15:(List (List Int))) (r:((List (List Int)))),DM v9 f c13 c15=some r->∀ (e14:AV) (hp:Hp),T hp ((own_ (ocL 10 115 (ocV AF)) e6 v9.1)::(cel e1 1 110 (.sl 1 (v9.2.map Bg.enc)))::(own_ (ocL 1 48 (ocL 1 3 (ocV cdI))) e14 c15)::L)->SemYN E0 ⟨none,false⟩ (pc IP [1,1,1,1,1,0,1,0,0]) f ⟨Fr 55 [(1,e6),(5,.fn 134 [] [e1]),(6,e14),(16,e6),(17,.v (.int .i64 (v9.1.length:Int))),(18,.v (.int .i64 c13))],hp⟩ (fun e s=>e=(.exit 0)/\∃ s2,(∃ (e98:AV) (h':Hp),T h' ((own_ (ocL 1 48 (ocL 1 3 (ocV cdI))) e98 r)::L)/\s2=⟨Fr 55 [(6,e98)],h'⟩)/\WkY E0 s s2):=by
 intro f;induction f with
 | zero=>intro c13 c15 r h; cases h
 | succ f ih0 =>
  intro c13 c15 r h e14 hp hT;unfold DM at h;refine Dr ?_;refine CB AC [(1,e6),(5,.fn 134 [] [e1]),(6,e14),(16,e6),(17,.v (.int .i64 (v9.1.length:Int))),(18,.v (.int .i64 c13)),(19,.v (.bool (decide (c13 < (v9.1.length:Int)))))] ?_;refine Ap ?_;refine DH (b:=(decide (c13 < (v9.1.length:Int)))) kr (fun hb16=>?_) (fun hb16=>?_)
  ·rw [if_pos hb16] at h
   refine SemY.skip ?_;refine Ap ?_;refine Ba ?_;refine Ap ?_;refine Ab ?_;refine BR AC 1 ?_;obtain ⟨v17,hv17,h⟩:=OB h;refine BW AC 0 rfl (DW (AB rfl) rfl (AS (a:=e6) (b:= .v (.int .i64 c13)) kr kr (Ze (bytes:=120) hT kr hv17))) ?_;refine BW AC 0 rfl (DW (AB rfl) rfl (PA (p:=eAt e6 c13.toNat) kr (Q0 (y:=(AF.enc v17)) (m:=10) (g:=true) hT (HT hv17).2 kr kr kr))) ?_;obtain ⟨e18,hp19,hb20,hT21⟩:=ZG (t:=115) (a:= .ag [.st [],.st [],.st [],.v (.int .i64 0),.v (.int .i64 0),.st [],.v (.bool false),.v (.bool false),.e0,.v (.int .i64 0)]) hT kr;refine BW AC 0 rfl (AAK (AB rfl) rfl kr (ACl (z:= .ag [.st [],.st [],.st [],.v (.int .i64 0),.v (.int .i64 0),.st [],.v (.bool false),.v (.bool false),.e0,.v (.int .i64 0)]) kr hb20)) ?_;refine BR AC 1 ?_;obtain ⟨hp22,hs23,hT24⟩:=AC7 (P:=Tryz.prog) (ty:=115) (y:=(AF.enc v17)) (a':=(AF.enc v17)) hT21 kr kr kr;refine RunL.store AC (y:=e18) (z:=(AF.enc v17)) rfl (AB rfl) kr kr hs23 ?_;refine Bq rfl (SemY.fr (l':=[(1,e6),(5,.fn 134 [] [e1]),(6,e14),(7,.v (.int .i64 c13)),(8,e18),(16,e6),(17,.v (.int .i64 (v9.1.length:Int))),(18,.v (.int .i64 c13))]) kr ?_);refine Ap ?_;refine Ap ?_;obtain ⟨j29,hj29,h⟩:=OB h;refine QY 13 (A:=fun s1=>∃ (h':Hp),T h' ((own_ (ocL 10 115 (ocV AF)) e6 v9.1)::(cel e1 1 110 (.sl 1 (v9.2.map Bg.enc)))::(own_ (ocL 1 48 (ocL 1 3 (ocV cdI))) e14 c15)::(cel e18 10 115 (AF.enc v17))::L)/\s1=⟨Fr 55 [(1,e6),(5,.fn 134 [] [e1]),(6,e14),(8,e18),(16,e6),(17,.v (.int .i64 (v9.1.length:Int))),(18,.v (.int .i64 c13)),(35,.v (.bool j29))],h'⟩) AC.mixed kr kr ?_ ?_
   ·refine RunDT.q (x:= .v (.int .i64 c13)) rfl kr rfl (AB rfl) rfl kr kr ?_
    refine RunDT.q (x:= .v (.bool (c13==0))) rfl kr rfl (AB rfl) rfl kr kr ?_;refine RunDT.q (x:= .v (.bool (c13==0))) rfl kr rfl (AB rfl) rfl kr kr ?_;rcases BE (c13==0) with hc97 | hc97
    ·rw [if_pos hc97] at hj29
     rw [hc97];refine RunDT.skip rfl kr rfl ?_;refine RunDT.skip rfl kr rfl ?_;refine RunDT.skip rfl kr rfl ?_;refine RunDT.skip rfl kr rfl ?_;refine RunDT.skip rfl kr rfl ?_;refine RunDT.skip rfl kr rfl ?_;refine RunDT.skip rfl kr rfl ?_;refine RunDT.skip rfl kr rfl ?_;refine RunDT.skip rfl kr rfl ?_;refine RunDT.q (x:= .v (.bool true)) rfl kr rfl (AB rfl) rfl kr kr ?_;have hq:=OI hj29; subst hq
     have hT51:=(((hT24.front 3 rfl).front 3 rfl).front 3 rfl)
     exact RunDT.done rfl ⟨_,⟨hp22,hT51,rfl⟩,WkY.f1⟩
    ·rw [BV hc97] at hj29
     rw [hc97];refine RunDT.q (x:= .fn 134 [] [e1]) rfl kr rfl kr rfl kr kr ?_;refine RunDT.q (x:=e6) rfl kr rfl kr rfl kr kr ?_;refine RunDT.q (x:= .v (.int .i64 c13)) rfl kr rfl kr rfl kr kr ?_;refine RunDT.q (x:= .v (.int .i64 (wr .i64 (c13 - 1)))) rfl kr rfl kr rfl kr kr ?_;obtain ⟨v25,hv25,hj29⟩:=OB hj29
     have hT26:=(hT24.front 1 rfl)
     refine RunDT.q (x:=eAt e6 ((wr .i64 (c13 - 1)).toNat)) rfl kr rfl kr rfl (AS (a:=e6) (b:= .v (.int .i64 (wr .i64 (c13 - 1)))) kr kr (Ze (bytes:=120) hT26 kr hv25)) kr ?_;refine RunDT.q (x:=(AF.enc v25)) rfl kr rfl kr rfl (PA (p:=eAt e6 ((wr .i64 (c13 - 1)).toNat)) kr (Q0 (y:=(AF.enc v25)) (m:=10) (g:=true) hT26 (HT hv25).2 kr kr kr)) (MP (hT24.front 1 rfl) (HT hv25).2 kr) ?_
     have hT27:=(hT26.front 1 rfl)
     refine RunDT.q (x:=(AF.enc v17)) rfl kr rfl kr rfl (PA (p:=e18) kr (ACc (y:=(AF.enc v17)) (m:=10) (g:=true) hT27 kr kr kr)) (Zg hT24 kr) ?_;obtain ⟨v28,hv28,hj29⟩:=OB hj29;refine MV (v:=v28) (caps:=[e1]) (xs:=[AF.enc v25,AF.enc v17]) (u:=(v25,v17,v9.2,())) rfl rfl Nc rfl kr kr kr (Dq (Gm (c:=AF) (v:=v25)) (Dq (Gm (c:=AF) (v:=v17)) (Dq (SeeD.cel (c:=(cdL 1 Bg)) (v:=v9.2) hT27 (i:=2) rfl) SeesD.nil))) kr hv28 ?_;refine RunDT.q (x:= .v (.bool (v28 != 0))) rfl kr rfl kr rfl kr kr ?_;refine RunDT.q (x:= .v (.bool (v28 != 0))) rfl kr rfl (AB rfl) rfl kr kr ?_;have hq:=OI hj29; subst hq
     have hT52:=(((hT27.front 3 rfl).front 3 rfl).front 3 rfl)
     exact RunDT.done rfl ⟨_,⟨hp22,hT52,rfl⟩,WkY.f1⟩
   rintro _ ⟨hp53,hT54,rfl⟩;obtain ⟨r71,hr71,h⟩:=OB h;refine MG (Ps c15 j29 e1 e6 v9 c13 e14 v17 e18 _ hr71 hT54) ?_;rintro _ ⟨e72,hp73,hT74,rfl⟩;refine Ap ?_;refine Ab ?_;refine BR AC 1 ?_
   have hT75:=(hT74.front 2 rfl)
   refine BW AC 0 rfl (DW (AB rfl) rfl (CO (a:=e72) kr (Zh hT75 kr))) ?_;refine Dx AC [(1,e6),(5,.fn 134 [] [e1]),(6,e72),(8,e18),(9,.v (.int .i64 (wr .i64 ((r71.length:Int) - 1)))),(16,e6),(17,.v (.int .i64 (v9.1.length:Int))),(18,.v (.int .i64 c13))] ?_;refine OT 9 AC.mixed kr kr ?_;refine RunDT.q (x:=e72) rfl kr rfl (AB rfl) rfl kr kr ?_;refine RunDT.q (x:= .v (.int .i64 (wr .i64 ((r71.length:Int) - 1)))) rfl kr rfl (AB rfl) rfl kr kr ?_;refine RunDT.q (x:=e72) rfl kr rfl (AB rfl) rfl kr kr ?_;refine RunDT.q (x:= .v (.int .i64 (wr .i64 ((r71.length:Int) - 1)))) rfl kr rfl (AB rfl) rfl kr kr ?_;obtain ⟨v76,hv76,h⟩:=OB h;refine RunDT.q (x:=eAt e72 ((wr .i64 ((r71.length:Int) - 1)).toNat)) rfl kr rfl (AB rfl) rfl (AS (a:=e72) (b:= .v (.int .i64 (wr .i64 ((r71.length:Int) - 1)))) kr kr (Ze (bytes:=24) hT75 kr hv76)) kr ?_;obtain ⟨e77,hl78,hT79⟩:=AAv (P:=Tryz.prog) (ty:=48) hT75 (HT hv76).2 kr kr;refine RunDT.q (x:=e77) rfl kr rfl (AB rfl) rfl (PA (p:=eAt e72 ((wr .i64 ((r71.length:Int) - 1)).toNat)) kr hl78) (MP hT75 (HT hv76).2 kr) ?_
   have hT80:=(hT79.front 4 rfl)
   refine RunDT.q (x:=Vh e18 9) rfl kr rfl (AB rfl) rfl (AFf (a:=e18) kr (ADx (off:=9) hT80 kr)) kr ?_;refine RunDT.q (x:= .v (.int .i64 v17.2)) rfl kr rfl (AB rfl) rfl (PA (p:=Vh e18 9) kr (ABe (off:=9) (y:= .v (.int .i64 v17.2)) (m:=1) (g:=false) hT80 kr kr kr)) (AAt (off:=9) (hT75.front 3 rfl) kr) ?_;obtain ⟨e84,hp81,hb82,hT83⟩:=M3 (P:=Tryz.prog) (bytes:=8) (k:=1) (t:=3) (ty:=48) (xs:=([v17.2]:List Int)) (n:=1) (Yg (k:=1) (fun _=>⟨rfl,rfl,rfl⟩)) (LY (c:=cdI) (xs:=([v17.2]:List Int)) hT80) rfl kr kr kr;refine RunDT.new rfl (AB rfl) rfl (XI (xs:=Qr 0 [.v (.int .i64 v17.2)]) kr hb82) ?_;refine RunDT.tail rfl ?_;by_cases hk89:(EC 8 (v76.length + ([v17.2]:List Int).length))=true
   case neg=>rw [if_neg hk89] at h; cases h
   rw [if_pos hk89] at h
   have hT90:=((hT83.front 0 rfl).front 2 rfl)
   obtain ⟨e88,hp85,hb86,hT87⟩:=MW (P:=Tryz.prog) (ty:=48) (ty2:=48) (bytes:=8) hT90 kr kr hk89;refine BW AC 0 rfl (UX (AB rfl) rfl kr kr (Dg (a:=e77) (b:=e84) kr kr hb86)) ?_;obtain ⟨v91,hv91,h⟩:=OB h
   have hT92:=(hT87.front 2 rfl)
   refine BW AC 0 rfl (DW (AB rfl) rfl (AS (a:=e72) (b:= .v (.int .i64 (wr .i64 ((r71.length:Int) - 1)))) kr kr (AFX (bytes:=24) hT92 kr hv91))) ?_;obtain ⟨hp93,hs94,hT95⟩:=AC8 (P:=Tryz.prog) (ty:=48) ACJ hT92 kr;refine RunL.store AC (y:=eAt e72 ((wr .i64 ((r71.length:Int) - 1)).toNat)) (z:=e88) rfl (AB rfl) kr kr hs94 ?_;refine Bq rfl (SemY.fr (l':=[(1,e6),(5,.fn 134 [] [e1]),(6,e72),(16,e6),(17,.v (.int .i64 (v9.1.length:Int))),(18,.v (.int .i64 c13))]) kr ?_);refine Ab ?_;refine BR AC 2 ?_;refine Bq rfl ?_
   have hT96:=(((hT95.front 1 rfl).drop.front 2 rfl).front 2 rfl)
   exact CQ WkY.f1 (ih0 (wr .i64 (c13 + 1)) (r71.set ((wr .i64 ((r71.length:Int) - 1)).toNat) (v76++([v17.2]:List Int))) _ h e72 hp93 hT96)
  ·rw [BV hb16] at h
   refine SemY.exit ?_;have hq:=OI h; subst hq
   have hT100:=hT.drop.drop
   exact ⟨rfl,_,⟨e14,hp,hT100,rfl⟩,WkY.f1⟩
theorem RY {L:List Asn}{hp:Hp}(x0:(List AH)) (x1:(List Ae)) (r:(List (List Int))) (h:HK x0 x1=some r) (hT:T hp (L)):SemY E0 ⟨none,false⟩ IP ⟨Fr 55 (A0 0 [.sl 1 (x0.map Bg.enc),.sl 10 (x1.map AF.enc)]),hp⟩ fun x s'=>(x = .normal\/x = .ret)/\∃ ys,Dz E0.P s'.fr s'.hp Tryz.f78.results.toList=some ys/\(fun v h'=>v = .sl 1 (r.map (cdL 1 cdI).enc)/\T h' (L)) (D0 ys) s'.hp:=by
 unfold HK at h
 let p1:Nat×AV:=(1,.sl 10 (x1.map AF.enc))
 refine JK (Ke (s1:=⟨Fr 55 [(0,.sl 1 (x0.map Bg.enc)),p1],hp⟩) WkY.f1 ?_);refine Ap ?_;refine Ab ?_;obtain ⟨e1,hp2,hb3,hT4⟩:=ZG (t:=110) (a:= .sl 1 (x0.map Bg.enc)) hT kr;refine BW AC 0 rfl (AAK (AB rfl) rfl kr (AFd (z:= .sl 1 (x0.map Bg.enc)) kr hb3)) ?_;refine Dx AC [p1,(2,e1)] ?_
 let p2:Nat×AV:=(5,.fn 134 [] [e1])
 refine CB AC [p1,p2] ?_;refine Ap ?_;refine Ab ?_;refine BR AC 1 ?_;by_cases hk5:(EC 120 x1.length)=true
 case neg=>rw [if_neg hk5] at h; cases h
 rw [if_pos hk5] at h;refine YN rfl rfl (HG x1 hk5) rfl (AB rfl) kr kr kr YV ?_;intro x h' hO; obtain ⟨e6,hp7,e6q,hp7q,hT8⟩:=YW (c:=AF) (k:=10) (t:=115) hT4 hO; rw [<-e6q,<-hp7q];refine Dx AC [(1,e6),p2] ?_;refine Ap ?_;refine Ab ?_;refine BR AC 2 ?_;obtain ⟨v9,hv9,h⟩:=OB h;refine Nh (E:=E0) (e:=E0) rfl rfl AC rfl rfl (fid:=136) (caps:=[]) (xs:=[e6,.fn 134 [] [e1]]) (fn:=Tryz.f136) (c:=DG) (Out:=fun v h'=>v = .tp []/\T h' ((own_ (ocL 10 115 (ocV AF)) e6 v9.1)::(cel e1 1 110 (.sl 1 (v9.2.map Bg.enc)))::L)) rfl (AB rfl) kr kr kr kr (by show 2<=9; decide) (FL e6 x1 e1 x0 _ hv9 hT8) ?_;rintro xx hp10 ⟨hqhp10,hT11⟩; subst xx;refine Bq rfl (SemY.fr (l':=[(1,e6),p2]) kr ?_);refine CB AC [(1,e6),p2,(6,.e0)] ?_;refine Ap ?_;refine Ap ?_;refine Ab ?_;refine BR AC 1 ?_;refine BW AC 0 rfl (DW (AB rfl) rfl (CO (a:=e6) kr (Zh hT11 kr))) ?_;refine Dx AC [(1,e6),p2,(6,.e0),(16,e6),(17,.v (.int .i64 (v9.1.length:Int))),(18,.v (.int .i64 0))] ?_;refine Ba ?_
 have hT12:=(T.e0 (k:=1) (ty:=48) (o:=(ocL 1 3 (ocV cdI))) hT11)
 have hT101:=((hT12.front 2 rfl).front 2 rfl)
 refine SemY.loop (n:=100000) ?_;obtain ⟨r102,hr102,h⟩:=OB h;refine DY (CQ WkY.f1 (Pt v9 e1 e6 _ 0 ([]:(List (List Int))) _ hr102 .e0 hp10 hT101)) ?_;rintro _ ⟨e103,hp104,hT105,rfl⟩;refine CB AC [(4,e103)] ?_;refine SemY.ret ?_;have hq:=OI h; subst hq
 let p3:Nat×AV:=(4,.sl 1 (r102.map (cdL 1 cdI).enc))
 obtain ⟨hp106,hw107,hT108⟩:=JL (E:=E0) (n:=55) (l:=[(4,e103)]) (l':=[p3]) hT105 (LkT.at_ ⟨.inr ⟨kr,rfl⟩,trivial⟩);exact ⟨⟨Fr 55 [p3],hp106⟩,(WkY.trans (WkY.trans WkY.f1 hw107) WkY.f1),.inr rfl,[.sl 1 (r102.map (cdL 1 cdI).enc)],kr,⟨rfl,hT108⟩⟩
noncomputable def Nq:Cs ((List AH)×(List Ae)×Unit):=(csC (cdL 1 Bg) (csC (cdL 10 AF) csN))
noncomputable def N1 (r:(List (List Int))):AV:=(cdL 1 (cdL 1 cdI)).enc r
noncomputable def T6:List AV->Option AV:=Dm Nq (fun a=>HK a.1 a.2.1) N1
theorem UJ:XOk 78 T6:=by
 refine AR Tryz.func78 (c:=IP) ?h2 ⟨Tryz.call78⟩ Nq (fun a=>HK a.1 a.2.1) N1 (fun a=>(by show 2<=55; decide)) ?h3 ?h4
 case h2=>kernel_rfl
 case h3=>intro b; kernel_rfl
 case h4 =>
  intro a b h;refine Sem.mono (QX (RY (L:=[]) (hp:=[]) a.1 a.2.1 b h T.nil)) fun e s' hs=>?_
  obtain ⟨h1,ys,h2,h3,-⟩:=hs;exact ⟨h1,ys,h2,h3⟩
/- trestle/court.Order -/
noncomputable def Ox:Code:=A9 Tryz.f24
def Dc (x0:(List AH)) (x1:(List Af)):Option ((List (List Int))) :=
 (Gi x0).bind fun v1 =>
 (if (!v1.2)=true then some true else some (decide ((x1.length:Int) > 64))).bind fun j3 =>
 if j3=true then
 some []
 else
 (ID x1).bind fun v5 =>
 (HK v1.1 v5).bind fun v6 =>
 some v6
noncomputable def JN:Cs ((List AH)×(List Af)×Unit):=(csC (cdL 5 AA) (csC (cdL 9 AE) csN))
noncomputable def L3 (r:(List (List Int))):AV:=(cdL 1 (cdL 1 cdI)).enc r
theorem SZ (x0:(List AH)) (x1:(List Af)) (r:(List (List Int))) (h:Dc x0 x1=some r):Sem E0 ⟨none,false⟩ Ox ⟨Fr 23 (A0 0 (JN.enc (x0,x1,()))),[]⟩ fun e s'=>(e = .normal\/e = .ret)/\∃ xs,Dz E0.P s'.fr s'.hp Tryz.f24.results.toList=some xs/\D0 xs=L3 r:=by
 unfold Dc at h;refine Ao (BL (s1:=⟨Fr 23 [(0,.sl 5 (x0.map AA.enc)),(1,.sl 9 (x1.map AE.enc))],[]⟩) AM ?_);refine AK AC [(0,.sl 5 (x0.map AA.enc)),(1,.sl 9 (x1.map AE.enc))] [] ?_;refine AG ?_;obtain ⟨v1,hv1,h⟩:=OB h;refine AL (s1:=⟨Fr 23 [(1,.sl 9 (x1.map AE.enc)),(5,.sl 1 (v1.1.map Bg.enc)),(6,.v (.bool v1.2))],[]⟩) ?_ ?_
 ·refine AD (n:=23) AC 1 [(1,.sl 9 (x1.map AE.enc)),(8,.sl 5 (x0.map AA.enc))] [] kr ?_
  refine AN (caps:=[]) (xs:=[.sl 5 (x0.map AA.enc)]) (u:=(x0,())) rfl rfl PD rfl (AB rfl) kr kr (AJ (AQ (c:=(cdL 5 AA)) (v:=x0)) Ah) (.inr kr) hv1 ?_;exact AX AC
 refine AG ?_;refine AG ?_;obtain ⟨j3,hj3,h⟩:=OB h;refine AL (s1:=⟨Fr 23 [(1,.sl 9 (x1.map AE.enc)),(5,.sl 1 (v1.1.map Bg.enc)),(18,.v (.bool j3))],[]⟩) ?_ ?_
 ·refine AD (n:=23) AC 3 [(1,.sl 9 (x1.map AE.enc)),(5,.sl 1 (v1.1.map Bg.enc)),(14,.v (.bool (!v1.2)))] [] kr ?_
  rcases BE (!v1.2) with hc7 | hc7
  ·rw [if_pos hc7] at hj3
   rw [hc7];refine AD (n:=23) AC 4 [(1,.sl 9 (x1.map AE.enc)),(5,.sl 1 (v1.1.map Bg.enc)),(18,.v (.bool true))] [] kr ?_;have hq:=OI hj3; subst hq;exact AI rfl AM
  ·rw [BV hc7] at hj3
   rw [hc7];refine AD (n:=23) AC 1 [(1,.sl 9 (x1.map AE.enc)),(5,.sl 1 (v1.1.map Bg.enc)),(14,.v (.bool false)),(15,.sl 9 (x1.map AE.enc))] [] kr ?_;refine AW AC 0 rfl (DW kr rfl (CO (a:= .sl 9 (x1.map AE.enc)) kr (BS (el:=42) kr))) ?_;refine AD (n:=23) AC 2 [(1,.sl 9 (x1.map AE.enc)),(5,.sl 1 (v1.1.map Bg.enc)),(18,.v (.bool (decide ((x1.length:Int) > 64))))] [] kr ?_;have hq:=OI hj3; subst hq;exact AI rfl AM
 refine AP (b:=j3) kr (fun hb4=>?_) (fun hb4=>?_)
 ·rw [if_pos hb4] at h
  refine AK AC [(4,.e0)] [] ?_;refine AO ?_;have hq:=OI h; subst hq;exact ⟨⟨Fr 23 [(4,.sl 1 ([].map (cdL 1 cdI).enc))],[]⟩,(Wk.trans (s1:=⟨Fr 23 [(4,.e0)],[]⟩) AM (Wk.trans (s1:=⟨Fr 23 [(4,.e0)],[none]⟩) Wk.none (Wk.trans (s1:=⟨Fr 23 [(4,.sl 1 ([].map (cdL 1 cdI).enc))],[none]⟩) (HH 0 (.inr kr) ⟨.inl rfl,trivial⟩ ⟨⟨.e0,kr,Si⟩,trivial⟩) (Ac [] trivial ⟨lv,trivial⟩)))),.inr rfl,[.sl 1 ([].map (cdL 1 cdI).enc)],kr,kr⟩
 ·rw [BV hb4] at h
  refine AT ?_;refine AG ?_;obtain ⟨v5,hv5,h⟩:=OB h;obtain ⟨v6,hv6,h⟩:=OB h;refine AL (s1:=⟨Fr 23 [(4,.sl 1 (v6.map (cdL 1 cdI).enc))],[]⟩) ?_ ?_
  ·refine AD (n:=23) AC 2 [(19,.sl 1 (v1.1.map Bg.enc)),(20,.sl 9 (x1.map AE.enc))] [] kr ?_
   refine AN (caps:=[]) (xs:=[.sl 9 (x1.map AE.enc)]) (u:=(x1,())) rfl rfl RU rfl (AB rfl) kr kr (AJ (AQ (c:=(cdL 9 AE)) (v:=x1)) Ah) (.inr kr) hv5 ?_;refine AN (caps:=[]) (xs:=[.sl 1 (v1.1.map Bg.enc),.sl 10 (v5.map AF.enc)]) (u:=(v1.1,v5,())) rfl rfl UJ rfl (AB rfl) kr kr (AJ (AQ (c:=(cdL 1 Bg)) (v:=v1.1)) (AJ (AQ (c:=(cdL 10 AF)) (v:=v5)) Ah)) (.inr kr) hv6 ?_;exact AX AC
  refine AO ?_;have hq:=OI h; subst hq;exact ⟨⟨Fr 23 [(4,.sl 1 (v6.map (cdL 1 cdI).enc))],[]⟩,AM,.inr rfl,[.sl 1 (v6.map (cdL 1 cdI).enc)],kr,kr⟩
noncomputable def VP:List AV->Option AV:=Dm JN (fun a=>Dc a.1 a.2.1) L3
theorem M9:XOk 24 VP:=by
 refine AR Tryz.func24 (c:=Ox) ?h2 ⟨Tryz.call24⟩ JN (fun a=>Dc a.1 a.2.1) L3 (fun a=>(by show 2<=23; decide)) ?h3 ?h4
 case h2=>kernel_rfl
 case h3=>intro b; kernel_rfl
 case h4=>exact fun a b h=>SZ a.1 a.2.1 b h
/- trestle/court.line -/
noncomputable def MY:Code:=A9 Tryz.f81
def Fz (x0:(List (List Int))):Nat->Int->(List Int)->Option (((List Int)) ⊕ (Unit))
 | 0,_,_=>none
 | f + 1,c2,c4 =>
  if (decide (c2 < (x0.length:Int)))=true then
  (idx x0 c2).bind fun v6 =>
  if (decide ((v6.length:Int) > 1))=true then
  some (.inr ())
  else
  if (EC 8 (c4.length + v6.length))=true then
  Fz x0 f (wr .i64 (c2 + 1)) (c4++v6)
  else none
  else
  some (.inl c4)
def I2 (x0:(List (List Int))):Option ((List Int)×Int) :=
 (Fz x0 100000 0 ([]:(List Int))).bind fun r16 =>
 match r16 with
 | (.inl w17) =>
  some (w17,0)
 | (.inr _w24) =>
  some (([]:(List Int)),32)
theorem NS {L:List Asn}(x0:(List (List Int))):∀ (f:Nat) (c2:Int) (c4:(List Int)) (r:((List Int)) ⊕ (Unit)),Fz x0 f c2 c4=some r->∀ (e3:AV) (hp:Hp),T hp ((own_ (ocL 1 3 (ocV cdI)) e3 c4)::L)->SemYN E0 ⟨none,false⟩ (pc MY [1,1,0,1,0,0]) f ⟨Fr 21 [(4,e3),(7,.sl 1 (x0.map (cdL 1 cdI).enc)),(8,.v (.int .i64 (x0.length:Int))),(9,.v (.int .i64 c2))],hp⟩ (fun e s=>match r with
 | (.inl w)=>e=(.exit 0)/\∃ s2,(∃ (e14:AV) (h':Hp),T h' ((own_ (ocL 1 3 (ocV cdI)) e14 w)::L)/\s2=⟨Fr 21 [(4,e14)],h'⟩)/\WkY E0 s s2
 | (.inr _w)=>e = .ret/\∃ s2,(∃ (h':Hp),T h' (L)/\s2=⟨Fr 21 [(2,.e0),(3,.v (.int .i64 32))],h'⟩)/\WkY E0 s s2):=by
 intro f;induction f with
 | zero=>intro c2 c4 r h; cases h
 | succ f ih0 =>
  intro c2 c4 r h e3 hp hT;unfold Fz at h;refine Dr ?_
  let p1:Nat×AV:=(9,.v (.int .i64 c2))
  let p2:Nat×AV:=(8,.v (.int .i64 (x0.length:Int)))
  let p3:Nat×AV:=(7,.sl 1 (x0.map (cdL 1 cdI).enc))
  refine CB AC [(4,e3),p3,p2,p1,(10,.v (.bool (decide (c2 < (x0.length:Int)))))] ?_;refine Ap ?_;refine DH (b:=(decide (c2 < (x0.length:Int)))) kr (fun hb5=>?_) (fun hb5=>?_)
  ·rw [if_pos hb5] at h
   refine SemY.skip ?_;refine Ap ?_;refine Ba ?_;refine Ap ?_;refine Ab ?_;obtain ⟨v6,hv6,h⟩:=OB h;refine BW AC 0 rfl (DW (AB rfl) rfl (AS (a:= .sl 1 (x0.map (cdL 1 cdI).enc)) (b:= .v (.int .i64 c2)) kr kr (DP (e:=(cdL 1 cdI).enc) (el:=48) (k:=1) (ki:= .i64) kr kr hv6))) ?_;refine Dx AC [(4,e3),(6,.sl 1 (v6.map cdI.enc)),p3,p2,p1] ?_;refine Ap ?_;refine Ap ?_;refine Ab ?_;refine BR AC 1 ?_;refine BW AC 0 rfl (DW (AB rfl) rfl (CO (a:= .sl 1 (v6.map cdI.enc)) kr (BS (el:=3) kr))) ?_;refine Dx AC [(4,e3),(6,.sl 1 (v6.map cdI.enc)),p3,p2,p1,(15,.v (.bool (decide ((v6.length:Int) > 1))))] ?_;refine DH (b:=(decide ((v6.length:Int) > 1))) kr (fun hb7=>?_) (fun hb7=>?_)
   ·rw [if_pos hb7] at h
    refine CB AC [(2,.e0),(3,.v (.int .i64 32))] ?_;refine SemY.ret ?_;have hq:=OI h; subst hq
    have hT8:=hT.drop
    exact ⟨rfl,_,⟨hp,hT8,rfl⟩,WkY.f1⟩
   ·rw [BV hb7] at h
    refine SemY.skip ?_;refine Ab ?_;refine BR AC 2 ?_;by_cases hk13:(EC 8 (c4.length + v6.length))=true
    case neg=>rw [if_neg hk13] at h; cases h
    rw [if_pos hk13] at h;obtain ⟨e12,hp9,hb10,hT11⟩:=Y9 (P:=Tryz.prog) (ty:=48) (ty2:=48) (bytes:=8) (y:= .sl 1 (v6.map cdI.enc)) (ys:=v6) hT kr Uw kr hk13;refine BW AC 0 rfl (UX (AB rfl) rfl kr kr (Dg (a:=e3) (b:= .sl 1 (v6.map cdI.enc)) kr kr hb10)) ?_;refine Dx AC [(4,e12),p3,p2,p1] ?_;refine Ab ?_;refine BR AC 2 ?_;refine Bq rfl ?_;exact CQ WkY.f1 (ih0 (wr .i64 (c2 + 1)) (c4++v6) _ h e12 hp9 hT11)
  ·rw [BV hb5] at h
   refine SemY.exit ?_;have hq:=OI h; subst hq;exact ⟨rfl,_,⟨e3,hp,hT,rfl⟩,WkY.f1⟩
theorem Tv {L:List Asn}{hp:Hp}(x0:(List (List Int))) (r:(List Int)×Int) (h:I2 x0=some r) (hT:T hp (L)):SemY E0 ⟨none,false⟩ MY ⟨Fr 21 (A0 0 [.sl 1 (x0.map (cdL 1 cdI).enc)]),hp⟩ fun x s'=>(x = .normal\/x = .ret)/\∃ ys,Dz E0.P s'.fr s'.hp Tryz.f81.results.toList=some ys/\(fun v h'=>v = .tp [.sl 1 (r.1.map cdI.enc),.v (.int .i64 r.2)]/\T h' (L)) (D0 ys) s'.hp:=by
 unfold I2 at h
 let p1:Nat×AV:=(0,.sl 1 (x0.map (cdL 1 cdI).enc))
 refine JK (Ke (s1:=⟨Fr 21 [p1],hp⟩) WkY.f1 ?_);refine CB AC [p1] ?_;refine CB AC [p1,(4,.e0)] ?_;refine Ap ?_;refine Ap ?_;refine Ab ?_;refine BR AC 1 ?_;refine BW AC 0 rfl (DW (AB rfl) rfl (CO (a:= .sl 1 (x0.map (cdL 1 cdI).enc)) kr (BS (el:=48) kr))) ?_;refine Dx AC [(4,.e0),(7,.sl 1 (x0.map (cdL 1 cdI).enc)),(8,.v (.int .i64 (x0.length:Int))),(9,.v (.int .i64 0))] ?_;refine Ba ?_
 have hT1:=(T.e0 (k:=1) (ty:=3) (o:=(ocV cdI)) hT)
 refine SemY.loop (n:=100000) ?_;obtain ⟨r16,hr16,h⟩:=OB h;rcases r16 with w17 | w24
 ·try dsimp only at h
  refine DY (CQ WkY.f1 (NS x0 _ 0 ([]:(List Int)) _ hr16 .e0 hp hT1)) ?_;rintro _ ⟨e18,hp19,hT20,rfl⟩
  let p2:Nat×AV:=(3,.v (.int .i64 0))
  refine CB AC [(2,e18),p2] ?_;refine SemY.ret ?_;have hq:=OI h; subst hq;obtain ⟨hp21,hw22,hT23⟩:=JL (E:=E0) (n:=21) (l:=[(2,e18),p2]) (l':=[(2,.sl 1 (w17.map cdI.enc)),p2]) hT20 (LkT.at_ ⟨.inr ⟨kr,rfl⟩,.inl kr,trivial⟩);exact ⟨⟨Fr 21 [(2,.sl 1 (w17.map cdI.enc)),p2],hp21⟩,(WkY.trans (WkY.trans WkY.f1 hw22) WkY.f1),.inr rfl,[.sl 1 (w17.map cdI.enc),.v (.int .i64 0)],kr,⟨rfl,hT23⟩⟩
 ·try dsimp only at h
  refine DY (CQ WkY.f1 (NS x0 _ 0 ([]:(List Int)) _ hr16 .e0 hp hT1)) ?_;rintro _ ⟨hp25,hT26,rfl⟩;have hq:=OI h; subst hq
  have hT27:=(T.e0 (k:=1) (ty:=3) (o:=(ocV cdI)) hT26)
  let p3:Nat×AV:=(3,.v (.int .i64 32))
  let p4:Nat×AV:=(2,.sl 1 (([]:(List Int)).map cdI.enc))
  obtain ⟨hp28,hw29,hT30⟩:=JL (E:=E0) (n:=21) (l:=[(2,.e0),p3]) (l':=[p4,p3]) hT27 (LkT.at_ ⟨.inr ⟨kr,rfl⟩,.inl kr,trivial⟩);exact ⟨⟨Fr 21 [p4,p3],hp28⟩,(WkY.trans (WkY.trans WkY.f1 hw29) WkY.f1),.inr rfl,[.sl 1 (([]:(List Int)).map cdI.enc),.v (.int .i64 32)],kr,⟨rfl,hT30⟩⟩
def Pw:Cs ((List (List Int))×Unit):=(csC (cdL 1 (cdL 1 cdI)) csN)
def Py (r:(List Int)×Int):AV:= .tp [(cdL 1 cdI).enc r.1,cdI.enc r.2]
def WR:List AV->Option AV:=Dm Pw (fun a=>I2 a.1) Py
theorem Wj:XOk 81 WR:=by
 refine AR Tryz.func81 (c:=MY) ?h2 ⟨Tryz.call81⟩ Pw (fun a=>I2 a.1) Py (fun a=>(by show 1<=21; decide)) ?h3 ?h4
 case h2=>kernel_rfl
 case h3=>intro b; kernel_rfl
 case h4 =>
  intro a b h;refine Sem.mono (QX (Tv (L:=[]) (hp:=[]) a.1 b h T.nil)) fun e s' hs=>?_
  obtain ⟨h1,ys,h2,h3,-⟩:=hs;exact ⟨h1,ys,h2,h3⟩
/- trestle/court.Line -/
noncomputable def Pg:Code:=A9 Tryz.f26
def G5 (x0:(List AH)) (x1:(List Af)):Option ((List Int)×Int) :=
 (HJ x0).bind fun v1 =>
 if (v1.2 != 0)=true then
 some ([],v1.2)
 else
 if (decide ((x1.length:Int) > 64))=true then
 some ([],7)
 else
 (Dc x0 x1).bind fun v4 =>
 (I2 v4).bind fun v5 =>
 some (v5.1,v5.2)
def Md:Cs ((List AH)×(List Af)×Unit):=(csC (cdL 5 AA) (csC (cdL 9 AE) csN))
def Mo (r:(List Int)×Int):AV:= .tp [(cdL 1 cdI).enc r.1,cdI.enc r.2]
theorem Tt (x0:(List AH)) (x1:(List Af)) (r:(List Int)×Int) (h:G5 x0 x1=some r):Sem E0 ⟨none,false⟩ Pg ⟨Fr 25 (A0 0 (Md.enc (x0,x1,()))),[]⟩ fun e s'=>(e = .normal\/e = .ret)/\∃ xs,Dz E0.P s'.fr s'.hp Tryz.f26.results.toList=some xs/\D0 xs=Mo r:=by
 unfold G5 at h
 let p1:Nat×AV:=(1,.sl 9 (x1.map AE.enc))
 let p2:Nat×AV:=(0,.sl 5 (x0.map AA.enc))
 refine Ao (BL (s1:=⟨Fr 25 [p2,p1],[]⟩) AM ?_);refine AK AC [p2,p1] [] ?_;refine AG ?_;refine AG ?_;obtain ⟨v1,hv1,h⟩:=OB h;refine AL (s1:=⟨Fr 25 [p2,p1,(7,.v (.int .i64 v1.2))],[]⟩) ?_ ?_
 ·refine AD (n:=25) AC 1 [p2,p1,(9,.sl 5 (x0.map AA.enc))] [] kr ?_
  refine AN (caps:=[]) (xs:=[.sl 5 (x0.map AA.enc)]) (u:=(x0,())) rfl rfl QS rfl (AB rfl) kr kr (AJ (AQ (c:=(cdL 5 AA)) (v:=x0)) Ah) (.inl kr) hv1 ?_;exact AX AC
 refine AK AC [p2,p1,(7,.v (.int .i64 v1.2)),(14,.v (.bool (v1.2 != 0)))] [] ?_;refine AP (b:=(v1.2 != 0)) kr (fun hb2=>?_) (fun hb2=>?_)
 ·rw [if_pos hb2] at h
  let p3:Nat×AV:=(5,.v (.int .i64 v1.2))
  refine AK AC [(4,.e0),p3] [] ?_;refine AO ?_;have hq:=OI h; subst hq;exact ⟨⟨Fr 25 [(4,.sl 1 ([].map cdI.enc)),p3],[]⟩,(Wk.trans (s1:=⟨Fr 25 [(4,.e0),p3],[]⟩) AM (Wk.trans (s1:=⟨Fr 25 [(4,.e0),p3],[none]⟩) Wk.none (Wk.trans (s1:=⟨Fr 25 [(4,.sl 1 ([].map cdI.enc)),p3],[none]⟩) (HH 0 (.inr kr) ⟨.inl rfl,trivial⟩ ⟨⟨.e0,kr,Si⟩,⟨.v (.int .i64 v1.2),kr,.inl rfl⟩,trivial⟩) (Ac [] trivial ⟨lv,lv,trivial⟩)))),.inr rfl,[.sl 1 ([].map cdI.enc),.v (.int .i64 v1.2)],kr,kr⟩
 ·rw [BV hb2] at h
  refine AT ?_;refine AG ?_;refine AG ?_;refine AL (s1:=⟨Fr 25 [p2,p1,(18,.v (.bool (decide ((x1.length:Int) > 64))))],[]⟩) ?_ ?_
  ·refine AD (n:=25) AC 1 [p2,p1,(16,.sl 9 (x1.map AE.enc))] [] kr ?_
   refine AW AC 0 rfl (DW (AB rfl) rfl (CO (a:= .sl 9 (x1.map AE.enc)) kr (BS (el:=42) kr))) ?_;exact AX AC
  refine AP (b:=(decide ((x1.length:Int) > 64))) kr (fun hb3=>?_) (fun hb3=>?_)
  ·rw [if_pos hb3] at h
   let p4:Nat×AV:=(5,.v (.int .i64 7))
   refine AK AC [(4,.e0),p4] [] ?_;refine AO ?_;have hq:=OI h; subst hq;exact ⟨⟨Fr 25 [(4,.sl 1 ([].map cdI.enc)),p4],[]⟩,(Wk.trans (s1:=⟨Fr 25 [(4,.e0),p4],[]⟩) AM (Wk.trans (s1:=⟨Fr 25 [(4,.e0),p4],[none]⟩) Wk.none (Wk.trans (s1:=⟨Fr 25 [(4,.sl 1 ([].map cdI.enc)),p4],[none]⟩) (HH 0 (.inr kr) ⟨.inl rfl,trivial⟩ ⟨⟨.e0,kr,Si⟩,⟨.v (.int .i64 7),kr,.inl rfl⟩,trivial⟩) (Ac [] trivial ⟨lv,lv,trivial⟩)))),.inr rfl,[.sl 1 ([].map cdI.enc),.v (.int .i64 7)],kr,kr⟩
  ·rw [BV hb3] at h
   refine AT ?_;refine AG ?_;obtain ⟨v4,hv4,h⟩:=OB h;obtain ⟨v5,hv5,h⟩:=OB h;refine AL (s1:=⟨Fr 25 [(4,.sl 1 (v5.1.map cdI.enc)),(5,.v (.int .i64 v5.2))],[]⟩) ?_ ?_
   ·refine AD (n:=25) AC 2 [(19,.sl 5 (x0.map AA.enc)),(20,.sl 9 (x1.map AE.enc))] [] kr ?_
    refine AN (caps:=[]) (xs:=[.sl 5 (x0.map AA.enc),.sl 9 (x1.map AE.enc)]) (u:=(x0,x1,())) rfl rfl M9 rfl (AB rfl) kr kr (AJ (AQ (c:=(cdL 5 AA)) (v:=x0)) (AJ (AQ (c:=(cdL 9 AE)) (v:=x1)) Ah)) (.inr kr) hv4 ?_;refine AN (caps:=[]) (xs:=[.sl 1 (v4.map (cdL 1 cdI).enc)]) (u:=(v4,())) rfl rfl Wj rfl (AB rfl) kr kr (AJ (AQ (c:=(cdL 1 (cdL 1 cdI))) (v:=v4)) Ah) (.inr kr) hv5 ?_;exact AX AC
   refine AO ?_;have hq:=OI h; subst hq;exact ⟨⟨Fr 25 [(4,.sl 1 (v5.1.map cdI.enc)),(5,.v (.int .i64 v5.2))],[]⟩,AM,.inr rfl,[.sl 1 (v5.1.map cdI.enc),.v (.int .i64 v5.2)],kr,kr⟩
def WP:List AV->Option AV:=Dm Md (fun a=>G5 a.1 a.2.1) Mo
theorem Wi:XOk 26 WP:=by
 refine AR Tryz.func26 (c:=Pg) ?h2 ⟨Tryz.call26⟩ Md (fun a=>G5 a.1 a.2.1) Mo (fun a=>(by show 2<=25; decide)) ?h3 ?h4
 case h2=>kernel_rfl
 case h3=>intro b; kernel_rfl
 case h4=>exact fun a b h=>Tt a.1 a.2.1 b h
/- trestle/trestleref03.between -/
noncomputable def NQ:Code:=A9 Tryz.f170
def BT (x0:Int) (x1:Int) (x2:Int):Option (Bool) :=
 (if (decide (x1<=x0))=true then some (decide (x0<=x2)) else some false).bind fun j2 =>
 some j2
def J4:Cs (Int×Int×Int×Unit):=(csC cdI (csC cdI (csC cdI csN)))
def KO (r:Bool):AV:=cdB.enc r
theorem Q7 (x0:Int) (x1:Int) (x2:Int) (r:Bool) (h:BT x0 x1 x2=some r):Sem E0 ⟨none,false⟩ NQ ⟨Fr 15 (A0 0 (J4.enc (x0,x1,x2,()))),[]⟩ fun e s'=>(e = .normal\/e = .ret)/\∃ xs,Dz E0.P s'.fr s'.hp Tryz.f170.results.toList=some xs/\D0 xs=KO r:=by
 unfold BT at h;refine Ao (BL (s1:=⟨Fr 15 [(0,.v (.int .i64 x0)),(1,.v (.int .i64 x1)),(2,.v (.int .i64 x2))],[]⟩) AM ?_);refine AK AC [(0,.v (.int .i64 x0)),(1,.v (.int .i64 x1)),(2,.v (.int .i64 x2))] [] ?_;refine AG ?_;obtain ⟨j2,hj2,h⟩:=OB h;refine AL (s1:=⟨Fr 15 [(6,.v (.bool j2))],[]⟩) ?_ ?_
 ·refine AD (n:=15) AC 4 [(0,.v (.int .i64 x0)),(2,.v (.int .i64 x2)),(10,.v (.bool (decide (x1<=x0))))] [] kr ?_
  rcases BE (decide (x1<=x0)) with hc3 | hc3
  ·rw [if_pos hc3] at hj2
   rw [hc3];refine AD (n:=15) AC 5 [(6,.v (.bool (decide (x0<=x2))))] [] kr ?_;have hq:=OI hj2; subst hq;exact AI rfl AM
  ·rw [BV hc3] at hj2
   rw [hc3];refine AD (n:=15) AC 5 [(6,.v (.bool false))] [] kr ?_;have hq:=OI hj2; subst hq;exact AI rfl AM
 refine AO ?_;have hq:=OI h; subst hq;exact ⟨⟨Fr 15 [(6,.v (.bool j2))],[]⟩,AM,.inr rfl,[.v (.bool j2)],kr,kr⟩
def TU:List AV->Option AV:=Dm J4 (fun a=>BT a.1 a.2.1 a.2.2.1) KO
theorem El:XOk 170 TU:=by
 refine AR Tryz.func170 (c:=NQ) ?h2 ⟨Tryz.call170⟩ J4 (fun a=>BT a.1 a.2.1 a.2.2.1) KO (fun a=>(by show 3<=15; decide)) ?h3 ?h4
 case h2=>kernel_rfl
 case h3=>intro b; kernel_rfl
 case h4=>exact fun a b h=>Q7 a.1 a.2.1 a.2.2.1 b h
/- trestle/trestleref03.formed -/
noncomputable def GZ:Code:=A9 Tryz.f168
def Hc (x0:AH):Option ((Bool)) :=
 if (x0.1==8)=true then
 some (x0.1==8)
 else
 some (x0.1==9)
def Hb (x0:AH):Option ((Bool)) :=
 if (x0.1==3)=true then
 some (x0.1==3)
 else
 (Hc x0).bind fun r14 =>
 some r14
def Ha (x0:AH):Option ((Bool)) :=
 if (x0.1==2)=true then
 some (x0.1==2)
 else
 (Hb x0).bind fun r15 =>
 some r15
def Hd (x0:AH):Option ((Bool)) :=
 if (x0.1==6)=true then
 some (x0.1==6)
 else
 some (x0.1==7)
def BH (x0:AH):Option (Bool) :=
 if (x0.1==1)=true then
 (BT (x0.2.2.2.1.length:Int) 1 16).bind fun v2 =>
 (if v2=true then if (x0.2.2.2.2==0)=true then if (!x0.2.2.1)=true then some (x0.2.1==[]) else some false else some false else some false).bind fun j4 =>
 some j4
 else
 (Ha x0).bind fun r16 =>
 if r16=true then
 (if ((x0.2.2.2.1.length:Int)==0)=true then if (x0.2.2.2.2==0)=true then some (!x0.2.2.1) else some false else some false).bind fun j19 =>
 some j19
 else
 if (x0.1==4)=true then
 (if ((x0.2.2.2.1.length:Int)==0)=true then (BT x0.2.2.2.2 1 2).bind fun v23 =>
 some v23 else some false).bind fun j25 =>
 some j25
 else
 if (x0.1==5)=true then
 (if ((x0.2.2.2.1.length:Int)==0)=true then some (x0.2.2.2.2==0) else some false).bind fun j29 =>
 some j29
 else
 (Hd x0).bind fun r33 =>
 if r33=true then
 (BT (x0.2.2.2.1.length:Int) 1 16).bind fun v35 =>
 (if v35=true then some (x0.2.2.2.2==0) else some false).bind fun j37 =>
 some j37
 else
 if (x0.1==10)=true then
 (if ((x0.2.2.2.1.length:Int)==0)=true then (BT x0.2.2.2.2 0 63).bind fun v40 =>
 if v40=true then some (!x0.2.2.1) else some false else some false).bind fun j42 =>
 some j42
 else
 some false
def Kx:Cs (AH×Unit):=(csC AA csN)
def K7 (r:Bool):AV:=cdB.enc r
theorem QF (x0:AH) (r:(Bool)) (h:Hc x0=some r):Sem E0 ⟨none,false⟩ (pc GZ [1,1,0,1,0,1,1,0,1,1,1,1,1]) ⟨Fr 87 [(1,.pt 0 0 0),(3,.v (.int .i64 (x0.2.2.2.1.length:Int))),(8,.v (.int .u8 x0.1)),(28,.v (.bool (x0.1==8)))],[some ⟨5,60,[AA.enc x0],false⟩]⟩ (fun e s=>e = .normal/\Wk E0 s ⟨Fr 87 [(1,.pt 0 0 0),(3,.v (.int .i64 (x0.2.2.2.1.length:Int))),(8,.v (.int .u8 x0.1)),(28,.v (.bool r))],[some ⟨5,60,[AA.enc x0],false⟩]⟩):=by
 unfold Hc at h;refine AP (b:=(x0.1==8)) kr (fun hb12=>?_) (fun hb12=>?_)
 ·rw [if_pos hb12] at h
  refine AT ?_;have hq:=OI h; subst hq;exact ⟨rfl,(Ac [0] ⟨⟨_,rfl,GO⟩,trivial⟩ ⟨lv,lv,lv,lv,trivial⟩)⟩
 ·rw [BV hb12] at h
  refine DC AC [(1,.pt 0 0 0),(3,.v (.int .i64 (x0.2.2.2.1.length:Int))),(8,.v (.int .u8 x0.1)),(28,.v (.bool (x0.1==9)))] [some ⟨5,60,[AA.enc x0],false⟩] ?_;have hq:=OI h; subst hq;exact ⟨rfl,(Ac [0] ⟨⟨_,rfl,GO⟩,trivial⟩ ⟨lv,lv,lv,lv,trivial⟩)⟩
theorem QE (x0:AH) (r:(Bool)) (h:Hb x0=some r):Sem E0 ⟨none,false⟩ (pc GZ [1,1,0,1,0,1,1,0,1,1,1]) ⟨Fr 87 [(1,.pt 0 0 0),(3,.v (.int .i64 (x0.2.2.2.1.length:Int))),(8,.v (.int .u8 x0.1)),(28,.v (.bool (x0.1==3)))],[some ⟨5,60,[AA.enc x0],false⟩]⟩ (fun e s=>e = .normal/\Wk E0 s ⟨Fr 87 [(1,.pt 0 0 0),(3,.v (.int .i64 (x0.2.2.2.1.length:Int))),(8,.v (.int .u8 x0.1)),(28,.v (.bool r))],[some ⟨5,60,[AA.enc x0],false⟩]⟩):=by
 unfold Hb at h;refine AP (b:=(x0.1==3)) kr (fun hb10=>?_) (fun hb10=>?_)
 ·rw [if_pos hb10] at h
  refine AT ?_;have hq:=OI h; subst hq;exact ⟨rfl,(Ac [0] ⟨⟨_,rfl,GO⟩,trivial⟩ ⟨lv,lv,lv,lv,trivial⟩)⟩
 ·rw [BV hb10] at h
  refine AK AC [(1,.pt 0 0 0),(3,.v (.int .i64 (x0.2.2.2.1.length:Int))),(8,.v (.int .u8 x0.1)),(28,.v (.bool (x0.1==8)))] [some ⟨5,60,[AA.enc x0],false⟩] ?_;obtain ⟨r14,hr14,h⟩:=OB h;refine Fo (QF x0 _ hr14) ?_;have hq:=OI h; subst hq;exact ⟨rfl,(Ac [0] ⟨⟨_,rfl,GO⟩,trivial⟩ ⟨lv,lv,lv,lv,trivial⟩)⟩
theorem QD (x0:AH) (r:(Bool)) (h:Ha x0=some r):Sem E0 ⟨none,false⟩ (pc GZ [1,1,0,1,0,1,1,0,1]) ⟨Fr 87 [(1,.pt 0 0 0),(3,.v (.int .i64 (x0.2.2.2.1.length:Int))),(8,.v (.int .u8 x0.1)),(28,.v (.bool (x0.1==2)))],[some ⟨5,60,[AA.enc x0],false⟩]⟩ (fun e s=>e = .normal/\Wk E0 s ⟨Fr 87 [(1,.pt 0 0 0),(3,.v (.int .i64 (x0.2.2.2.1.length:Int))),(8,.v (.int .u8 x0.1)),(28,.v (.bool r))],[some ⟨5,60,[AA.enc x0],false⟩]⟩):=by
 unfold Ha at h;refine AP (b:=(x0.1==2)) kr (fun hb8=>?_) (fun hb8=>?_)
 ·rw [if_pos hb8] at h
  refine AT ?_;have hq:=OI h; subst hq;exact ⟨rfl,(Ac [0] ⟨⟨_,rfl,GO⟩,trivial⟩ ⟨lv,lv,lv,lv,trivial⟩)⟩
 ·rw [BV hb8] at h
  refine AK AC [(1,.pt 0 0 0),(3,.v (.int .i64 (x0.2.2.2.1.length:Int))),(8,.v (.int .u8 x0.1)),(28,.v (.bool (x0.1==3)))] [some ⟨5,60,[AA.enc x0],false⟩] ?_;obtain ⟨r15,hr15,h⟩:=OB h;refine Fo (QE x0 _ hr15) ?_;have hq:=OI h; subst hq;exact ⟨rfl,(Ac [0] ⟨⟨_,rfl,GO⟩,trivial⟩ ⟨lv,lv,lv,lv,trivial⟩)⟩
theorem QG (x0:AH) (r:(Bool)) (h:Hd x0=some r):Sem E0 ⟨none,false⟩ (pc GZ [1,1,0,1,0,1,1,1,1,1,1,1,1,0,1]) ⟨Fr 87 [(1,.pt 0 0 0),(3,.v (.int .i64 (x0.2.2.2.1.length:Int))),(8,.v (.int .u8 x0.1)),(63,.v (.bool (x0.1==6)))],[some ⟨5,60,[AA.enc x0],false⟩]⟩ (fun e s=>e = .normal/\Wk E0 s ⟨Fr 87 [(1,.pt 0 0 0),(3,.v (.int .i64 (x0.2.2.2.1.length:Int))),(8,.v (.int .u8 x0.1)),(63,.v (.bool r))],[some ⟨5,60,[AA.enc x0],false⟩]⟩):=by
 unfold Hd at h;refine AP (b:=(x0.1==6)) kr (fun hb31=>?_) (fun hb31=>?_)
 ·rw [if_pos hb31] at h
  refine AT ?_;have hq:=OI h; subst hq;exact ⟨rfl,(Ac [0] ⟨⟨_,rfl,GO⟩,trivial⟩ ⟨lv,lv,lv,lv,trivial⟩)⟩
 ·rw [BV hb31] at h
  refine DC AC [(1,.pt 0 0 0),(3,.v (.int .i64 (x0.2.2.2.1.length:Int))),(8,.v (.int .u8 x0.1)),(63,.v (.bool (x0.1==7)))] [some ⟨5,60,[AA.enc x0],false⟩] ?_;have hq:=OI h; subst hq;exact ⟨rfl,(Ac [0] ⟨⟨_,rfl,GO⟩,trivial⟩ ⟨lv,lv,lv,lv,trivial⟩)⟩
theorem Rn (x0:AH) (r:Bool) (h:BH x0=some r):Sem E0 ⟨none,false⟩ GZ ⟨Fr 87 (A0 0 (Kx.enc (x0,()))),[]⟩ fun e s'=>(e = .normal\/e = .ret)/\∃ xs,Dz E0.P s'.fr s'.hp Tryz.f168.results.toList=some xs/\D0 xs=K7 r:=by
 unfold BH at h;refine Ao (BL (s1:=⟨Fr 87 [(0,AA.enc x0)],[]⟩) AM ?_);refine AK AC [(1,.pt 0 0 0)] [some ⟨5,60,[AA.enc x0],false⟩] ?_;refine AG ?_;refine AL (s1:=⟨Fr 87 [(1,.pt 0 0 0),(3,.v (.int .i64 (x0.2.2.2.1.length:Int)))],[some ⟨5,60,[AA.enc x0],false⟩]⟩) ?_ ?_
 ·refine AD (n:=87) AC 2 [(1,.pt 0 0 0),(5,.sl 1 (x0.2.2.2.1.map cdS.enc))] [some ⟨5,60,[AA.enc x0],false⟩] kr ?_
  refine AW AC 0 rfl (DW (AB rfl) rfl (CO (a:= .sl 1 (x0.2.2.2.1.map cdS.enc)) kr (BS (el:=9) kr))) ?_;exact AX AC
 refine AG ?_;refine AK AC [(1,.pt 0 0 0),(3,.v (.int .i64 (x0.2.2.2.1.length:Int))),(8,.v (.int .u8 x0.1))] [some ⟨5,60,[AA.enc x0],false⟩] ?_;refine Aa ?_;refine AK AC [(1,.pt 0 0 0),(3,.v (.int .i64 (x0.2.2.2.1.length:Int))),(8,.v (.int .u8 x0.1)),(9,.v (.bool (x0.1==1)))] [some ⟨5,60,[AA.enc x0],false⟩] ?_;refine AP (b:=(x0.1==1)) kr (fun hb1=>?_) (fun hb1=>?_)
 ·rw [if_pos hb1] at h
  refine AG ?_;obtain ⟨v2,hv2,h⟩:=OB h;obtain ⟨j4,hj4,h⟩:=OB h;refine AL (s1:=⟨Fr 87 [(2,.v (.bool j4))],[]⟩) ?_ ?_
  ·refine AD (n:=87) AC 1 [(1,.pt 0 0 0),(11,.v (.int .i64 (x0.2.2.2.1.length:Int)))] [some ⟨5,60,[AA.enc x0],false⟩] kr ?_
   refine AN (caps:=[]) (xs:=[.v (.int .i64 (x0.2.2.2.1.length:Int)),.v (.int .i64 1),.v (.int .i64 16)]) (u:=((x0.2.2.2.1.length:Int),1,16,())) rfl rfl El rfl (AB rfl) kr kr (AJ (AQ (c:=cdI) (v:=(x0.2.2.2.1.length:Int))) (AJ (AQ (c:=cdI) (v:=1)) (AJ (AQ (c:=cdI) (v:=16)) Ah))) (.inl kr) hv2 ?_;refine AD (n:=87) AC 1 [(1,.pt 0 0 0),(13,.v (.bool v2))] [some ⟨5,60,[AA.enc x0],false⟩] kr ?_;rcases BE v2 with hc5 | hc5
   ·rw [if_pos hc5] at hj4
    rw [hc5];refine AD (n:=87) AC 5 [(1,.pt 0 0 0),(18,.v (.bool (x0.2.2.2.2==0)))] [some ⟨5,60,[AA.enc x0],false⟩] kr ?_;rcases BE (x0.2.2.2.2==0) with hc6 | hc6
    ·rw [if_pos hc6] at hj4
     rw [hc6];refine AD (n:=87) AC 5 [(1,.pt 0 0 0),(23,.v (.bool (!x0.2.2.1)))] [some ⟨5,60,[AA.enc x0],false⟩] kr ?_;rcases BE (!x0.2.2.1) with hc7 | hc7
     ·rw [if_pos hc7] at hj4
      rw [hc7];refine AD (n:=87) AC 5 [(2,.v (.bool (x0.2.1==[])))] [some ⟨5,60,[AA.enc x0],false⟩] kr ?_;have hq:=OI hj4; subst hq;exact AI rfl (Ac [] trivial ⟨lv,trivial⟩)
     ·rw [BV hc7] at hj4
      rw [hc7];refine AD (n:=87) AC 5 [(2,.v (.bool false))] [some ⟨5,60,[AA.enc x0],false⟩] kr ?_;have hq:=OI hj4; subst hq;exact AI rfl (Ac [] trivial ⟨lv,trivial⟩)
    ·rw [BV hc6] at hj4
     rw [hc6];refine AD (n:=87) AC 10 [(2,.v (.bool false))] [some ⟨5,60,[AA.enc x0],false⟩] kr ?_;have hq:=OI hj4; subst hq;exact AI rfl (Ac [] trivial ⟨lv,trivial⟩)
   ·rw [BV hc5] at hj4
    rw [hc5];refine AD (n:=87) AC 15 [(2,.v (.bool false))] [some ⟨5,60,[AA.enc x0],false⟩] kr ?_;have hq:=OI hj4; subst hq;exact AI rfl (Ac [] trivial ⟨lv,trivial⟩)
  refine AO ?_;have hq:=OI h; subst hq;exact ⟨⟨Fr 87 [(2,.v (.bool j4))],[]⟩,AM,.inr rfl,[.v (.bool j4)],kr,kr⟩
 ·rw [BV hb1] at h
  refine AG ?_;refine AK AC [(1,.pt 0 0 0),(3,.v (.int .i64 (x0.2.2.2.1.length:Int))),(8,.v (.int .u8 x0.1)),(28,.v (.bool (x0.1==2)))] [some ⟨5,60,[AA.enc x0],false⟩] ?_;obtain ⟨r16,hr16,h⟩:=OB h;refine Fo (QD x0 _ hr16) ?_;refine AP (b:=r16) kr (fun hb17=>?_) (fun hb17=>?_)
  ·rw [if_pos hb17] at h
   refine AG ?_;obtain ⟨j19,hj19,h⟩:=OB h;refine AL (s1:=⟨Fr 87 [(2,.v (.bool j19))],[]⟩) ?_ ?_
   ·refine AD (n:=87) AC 3 [(1,.pt 0 0 0),(35,.v (.bool ((x0.2.2.2.1.length:Int)==0)))] [some ⟨5,60,[AA.enc x0],false⟩] kr ?_
    rcases BE ((x0.2.2.2.1.length:Int)==0) with hc20 | hc20
    ·rw [if_pos hc20] at hj19
     rw [hc20];refine AD (n:=87) AC 5 [(1,.pt 0 0 0),(40,.v (.bool (x0.2.2.2.2==0)))] [some ⟨5,60,[AA.enc x0],false⟩] kr ?_;rcases BE (x0.2.2.2.2==0) with hc21 | hc21
     ·rw [if_pos hc21] at hj19
      rw [hc21];refine AD (n:=87) AC 5 [(2,.v (.bool (!x0.2.2.1)))] [some ⟨5,60,[AA.enc x0],false⟩] kr ?_;have hq:=OI hj19; subst hq;exact AI rfl (Ac [] trivial ⟨lv,trivial⟩)
     ·rw [BV hc21] at hj19
      rw [hc21];refine AD (n:=87) AC 5 [(2,.v (.bool false))] [some ⟨5,60,[AA.enc x0],false⟩] kr ?_;have hq:=OI hj19; subst hq;exact AI rfl (Ac [] trivial ⟨lv,trivial⟩)
    ·rw [BV hc20] at hj19
     rw [hc20];refine AD (n:=87) AC 10 [(2,.v (.bool false))] [some ⟨5,60,[AA.enc x0],false⟩] kr ?_;have hq:=OI hj19; subst hq;exact AI rfl (Ac [] trivial ⟨lv,trivial⟩)
   refine AO ?_;have hq:=OI h; subst hq;exact ⟨⟨Fr 87 [(2,.v (.bool j19))],[]⟩,AM,.inr rfl,[.v (.bool j19)],kr,kr⟩
  ·rw [BV hb17] at h
   refine AK AC [(1,.pt 0 0 0),(3,.v (.int .i64 (x0.2.2.2.1.length:Int))),(8,.v (.int .u8 x0.1)),(45,.v (.bool (x0.1==4)))] [some ⟨5,60,[AA.enc x0],false⟩] ?_;refine AP (b:=(x0.1==4)) kr (fun hb22=>?_) (fun hb22=>?_)
   ·rw [if_pos hb22] at h
    refine AG ?_;obtain ⟨j25,hj25,h⟩:=OB h;refine AL (s1:=⟨Fr 87 [(2,.v (.bool j25))],[]⟩) ?_ ?_
    ·refine AD (n:=87) AC 3 [(1,.pt 0 0 0),(49,.v (.bool ((x0.2.2.2.1.length:Int)==0)))] [some ⟨5,60,[AA.enc x0],false⟩] kr ?_
     rcases BE ((x0.2.2.2.1.length:Int)==0) with hc26 | hc26
     ·rw [if_pos hc26] at hj25
      rw [hc26];refine AD (n:=87) AC 2 [(49,.v (.bool true)),(51,.v (.int .i64 x0.2.2.2.2))] [some ⟨5,60,[AA.enc x0],false⟩] kr ?_;obtain ⟨v23,hv23,hj25⟩:=OB hj25;refine AN (caps:=[]) (xs:=[.v (.int .i64 x0.2.2.2.2),.v (.int .i64 1),.v (.int .i64 2)]) (u:=(x0.2.2.2.2,1,2,())) rfl rfl El rfl kr kr kr (AJ (AQ (c:=cdI) (v:=x0.2.2.2.2)) (AJ (AQ (c:=cdI) (v:=1)) (AJ (AQ (c:=cdI) (v:=2)) Ah))) (.inl kr) hv23 ?_;refine AD (n:=87) AC 2 [(2,.v (.bool v23))] [some ⟨5,60,[AA.enc x0],false⟩] kr ?_;have hq:=OI hj25; subst hq;exact AI rfl (Ac [] trivial ⟨lv,trivial⟩)
     ·rw [BV hc26] at hj25
      rw [hc26];refine AD (n:=87) AC 5 [(2,.v (.bool false))] [some ⟨5,60,[AA.enc x0],false⟩] kr ?_;have hq:=OI hj25; subst hq;exact AI rfl (Ac [] trivial ⟨lv,trivial⟩)
    refine AO ?_;have hq:=OI h; subst hq;exact ⟨⟨Fr 87 [(2,.v (.bool j25))],[]⟩,AM,.inr rfl,[.v (.bool j25)],kr,kr⟩
   ·rw [BV hb22] at h
    refine AK AC [(1,.pt 0 0 0),(3,.v (.int .i64 (x0.2.2.2.1.length:Int))),(8,.v (.int .u8 x0.1)),(54,.v (.bool (x0.1==5)))] [some ⟨5,60,[AA.enc x0],false⟩] ?_;refine AP (b:=(x0.1==5)) kr (fun hb27=>?_) (fun hb27=>?_)
    ·rw [if_pos hb27] at h
     refine AG ?_;obtain ⟨j29,hj29,h⟩:=OB h;refine AL (s1:=⟨Fr 87 [(2,.v (.bool j29))],[]⟩) ?_ ?_
     ·refine AD (n:=87) AC 3 [(1,.pt 0 0 0),(58,.v (.bool ((x0.2.2.2.1.length:Int)==0)))] [some ⟨5,60,[AA.enc x0],false⟩] kr ?_
      rcases BE ((x0.2.2.2.1.length:Int)==0) with hc30 | hc30
      ·rw [if_pos hc30] at hj29
       rw [hc30];refine AD (n:=87) AC 5 [(2,.v (.bool (x0.2.2.2.2==0)))] [some ⟨5,60,[AA.enc x0],false⟩] kr ?_;have hq:=OI hj29; subst hq;exact AI rfl (Ac [] trivial ⟨lv,trivial⟩)
      ·rw [BV hc30] at hj29
       rw [hc30];refine AD (n:=87) AC 5 [(2,.v (.bool false))] [some ⟨5,60,[AA.enc x0],false⟩] kr ?_;have hq:=OI hj29; subst hq;exact AI rfl (Ac [] trivial ⟨lv,trivial⟩)
     refine AO ?_;have hq:=OI h; subst hq;exact ⟨⟨Fr 87 [(2,.v (.bool j29))],[]⟩,AM,.inr rfl,[.v (.bool j29)],kr,kr⟩
    ·rw [BV hb27] at h
     refine AG ?_;refine AK AC [(1,.pt 0 0 0),(3,.v (.int .i64 (x0.2.2.2.1.length:Int))),(8,.v (.int .u8 x0.1)),(63,.v (.bool (x0.1==6)))] [some ⟨5,60,[AA.enc x0],false⟩] ?_;obtain ⟨r33,hr33,h⟩:=OB h;refine Fo (QG x0 _ hr33) ?_;refine AP (b:=r33) kr (fun hb34=>?_) (fun hb34=>?_)
     ·rw [if_pos hb34] at h
      refine AG ?_;obtain ⟨v35,hv35,h⟩:=OB h;obtain ⟨j37,hj37,h⟩:=OB h;refine AL (s1:=⟨Fr 87 [(2,.v (.bool j37))],[]⟩) ?_ ?_
      ·refine AD (n:=87) AC 1 [(1,.pt 0 0 0),(66,.v (.int .i64 (x0.2.2.2.1.length:Int)))] [some ⟨5,60,[AA.enc x0],false⟩] kr ?_
       refine AN (caps:=[]) (xs:=[.v (.int .i64 (x0.2.2.2.1.length:Int)),.v (.int .i64 1),.v (.int .i64 16)]) (u:=((x0.2.2.2.1.length:Int),1,16,())) rfl rfl El rfl (AB rfl) kr kr (AJ (AQ (c:=cdI) (v:=(x0.2.2.2.1.length:Int))) (AJ (AQ (c:=cdI) (v:=1)) (AJ (AQ (c:=cdI) (v:=16)) Ah))) (.inl kr) hv35 ?_;refine AD (n:=87) AC 1 [(1,.pt 0 0 0),(68,.v (.bool v35))] [some ⟨5,60,[AA.enc x0],false⟩] kr ?_;rcases BE v35 with hc38 | hc38
       ·rw [if_pos hc38] at hj37
        rw [hc38];refine AD (n:=87) AC 5 [(2,.v (.bool (x0.2.2.2.2==0)))] [some ⟨5,60,[AA.enc x0],false⟩] kr ?_;have hq:=OI hj37; subst hq;exact AI rfl (Ac [] trivial ⟨lv,trivial⟩)
       ·rw [BV hc38] at hj37
        rw [hc38];refine AD (n:=87) AC 5 [(2,.v (.bool false))] [some ⟨5,60,[AA.enc x0],false⟩] kr ?_;have hq:=OI hj37; subst hq;exact AI rfl (Ac [] trivial ⟨lv,trivial⟩)
      refine AO ?_;have hq:=OI h; subst hq;exact ⟨⟨Fr 87 [(2,.v (.bool j37))],[]⟩,AM,.inr rfl,[.v (.bool j37)],kr,kr⟩
     ·rw [BV hb34] at h
      refine AK AC [(1,.pt 0 0 0),(3,.v (.int .i64 (x0.2.2.2.1.length:Int))),(73,.v (.bool (x0.1==10)))] [some ⟨5,60,[AA.enc x0],false⟩] ?_;refine AP (b:=(x0.1==10)) kr (fun hb39=>?_) (fun hb39=>?_)
      ·rw [if_pos hb39] at h
       refine AG ?_;obtain ⟨j42,hj42,h⟩:=OB h;refine AL (s1:=⟨Fr 87 [(2,.v (.bool j42))],[]⟩) ?_ ?_
       ·refine AD (n:=87) AC 3 [(1,.pt 0 0 0),(77,.v (.bool ((x0.2.2.2.1.length:Int)==0)))] [some ⟨5,60,[AA.enc x0],false⟩] kr ?_
        rcases BE ((x0.2.2.2.1.length:Int)==0) with hc43 | hc43
        ·rw [if_pos hc43] at hj42
         rw [hc43];refine AD (n:=87) AC 2 [(1,.pt 0 0 0),(77,.v (.bool true)),(79,.v (.int .i64 x0.2.2.2.2))] [some ⟨5,60,[AA.enc x0],false⟩] kr ?_;obtain ⟨v40,hv40,hj42⟩:=OB hj42;refine AN (caps:=[]) (xs:=[.v (.int .i64 x0.2.2.2.2),.v (.int .i64 0),.v (.int .i64 63)]) (u:=(x0.2.2.2.2,0,63,())) rfl rfl El rfl kr kr kr (AJ (AQ (c:=cdI) (v:=x0.2.2.2.2)) (AJ (AQ (c:=cdI) (v:=0)) (AJ (AQ (c:=cdI) (v:=63)) Ah))) (.inl kr) hv40 ?_;refine AD (n:=87) AC 2 [(1,.pt 0 0 0),(82,.v (.bool v40))] [some ⟨5,60,[AA.enc x0],false⟩] kr ?_;rcases BE v40 with hc44 | hc44
         ·rw [if_pos hc44] at hj42
          rw [hc44];refine AD (n:=87) AC 5 [(2,.v (.bool (!x0.2.2.1)))] [some ⟨5,60,[AA.enc x0],false⟩] kr ?_;have hq:=OI hj42; subst hq;exact AI rfl (Ac [] trivial ⟨lv,trivial⟩)
         ·rw [BV hc44] at hj42
          rw [hc44];refine AD (n:=87) AC 5 [(2,.v (.bool false))] [some ⟨5,60,[AA.enc x0],false⟩] kr ?_;have hq:=OI hj42; subst hq;exact AI rfl (Ac [] trivial ⟨lv,trivial⟩)
        ·rw [BV hc43] at hj42
         rw [hc43];refine AD (n:=87) AC 10 [(2,.v (.bool false))] [some ⟨5,60,[AA.enc x0],false⟩] kr ?_;have hq:=OI hj42; subst hq;exact AI rfl (Ac [] trivial ⟨lv,trivial⟩)
       refine AO ?_;have hq:=OI h; subst hq;exact ⟨⟨Fr 87 [(2,.v (.bool j42))],[]⟩,AM,.inr rfl,[.v (.bool j42)],kr,kr⟩
      ·rw [BV hb39] at h
       refine AT ?_;refine AG ?_;refine AL (s1:=⟨Fr 87 [(2,.v (.bool false))],[]⟩) ?_ ?_
       ·refine AD (n:=87) AC 1 [(2,.v (.bool false))] [some ⟨5,60,[AA.enc x0],false⟩] kr ?_
        exact AI rfl (Ac [] trivial ⟨lv,trivial⟩)
       refine AO ?_;have hq:=OI h; subst hq;exact ⟨⟨Fr 87 [(2,.v (.bool false))],[]⟩,AM,.inr rfl,[.v (.bool false)],kr,kr⟩
def UC:List AV->Option AV:=Dm Kx (fun a=>BH a.1) K7
theorem UL:XOk 168 UC:=by
 refine AR Tryz.func168 (c:=GZ) ?h2 ⟨Tryz.call168⟩ Kx (fun a=>BH a.1) K7 (fun a=>(by show 1<=87; decide)) ?h3 ?h4
 case h2=>kernel_rfl
 case h3=>intro b; kernel_rfl
 case h4=>exact fun a b h=>Rn a.1 b h
/- trestle/trestlekit.Name -/
noncomputable def PH:Code:=A9 Tryz.f141
def HU (x0:(List UInt8)):Nat->Int->Option ((Unit) ⊕ (Bool))
 | 0,_=>none
 | f + 1,c4 =>
  if (decide (c4 < (x0.length:Int)))=true then
  (idx x0 c4).bind fun v6 =>
  (if (decide ((v6.toNat:Int) < 97))=true then some true else (idx x0 c4).bind fun v7 =>
  some (decide ((v7.toNat:Int) > 122))).bind fun j9 =>
  if j9=true then
  some (.inr false)
  else
  HU x0 f (wr .i64 (c4 + 1))
  else
  some (.inl ())
def Le (x0:(List UInt8)):Option (Bool) :=
 (if (decide ((x0.length:Int) < 1))=true then some true else some (decide ((x0.length:Int) > 12))).bind fun j2 =>
 if j2=true then
 some false
 else
 (HU x0 100000 0).bind fun r13 =>
 match r13 with
 | (.inl _w14) =>
  some true
 | (.inr w15) =>
  some w15
def PN:Cs ((List UInt8)×Unit):=(csC cdS csN)
def PO (r:Bool):AV:=cdB.enc r
theorem O7 (x0:(List UInt8)):∀ (f:Nat) (c4:Int) (r:(Unit) ⊕ (Bool)),HU x0 f c4=some r->SemN E0 ⟨none,false⟩ (pc PH [1,1,0,1,0,0]) f ⟨Fr 28 [(0,.st x0),(3,.v (.int .i64 c4))],[]⟩ (fun e s=>match r with
 | (.inl _w)=>e=(.exit 0)/\Wk E0 s ⟨Fr 28 [],[]⟩
 | (.inr w)=>e = .ret/\Wk E0 s ⟨Fr 28 [(2,.v (.bool w))],[]⟩):=by
 intro f;induction f with
 | zero=>intro c4 r h; cases h
 | succ f ih0 =>
  intro c4 r h
  have ih:=fun (c4:Int)=>ih0 c4 r
  unfold HU at h;refine Bc ?_;refine AG ?_;refine AK AC [(0,.st x0),(3,.v (.int .i64 c4)),(15,.v (.bool (decide (c4 < (x0.length:Int)))))] [] ?_;refine AP (b:=(decide (c4 < (x0.length:Int)))) kr (fun hb5=>?_) (fun hb5=>?_)
  ·rw [if_pos hb5] at h
   refine AT ?_;refine AG ?_;refine Aa ?_;refine AG ?_;obtain ⟨v6,hv6,h⟩:=OB h;obtain ⟨j9,hj9,h⟩:=OB h;refine AL (s1:=⟨Fr 28 [(0,.st x0),(3,.v (.int .i64 c4)),(27,.v (.bool j9))],[]⟩) ?_ ?_
   ·refine AD (n:=28) AC 2 [(0,.st x0),(3,.v (.int .i64 c4)),(18,.st x0),(19,.v (.int .i64 c4))] [] kr ?_
    refine AW AC 0 rfl (DW (AB rfl) rfl (VA (a:= .st x0) (b:= .v (.int .i64 c4)) kr kr (SF (bs:=x0) (ki:= .i64) kr hv6))) ?_;refine AD (n:=28) AC 2 [(0,.st x0),(3,.v (.int .i64 c4)),(22,.v (.bool (decide ((v6.toNat:Int) < 97))))] [] kr ?_;rcases BE (decide ((v6.toNat:Int) < 97)) with hc12 | hc12
    ·rw [if_pos hc12] at hj9
     rw [hc12];refine AD (n:=28) AC 5 [(0,.st x0),(3,.v (.int .i64 c4)),(23,.tp []),(24,.tp []),(25,.tp []),(26,.tp []),(27,.v (.bool true))] [] kr ?_;have hq:=OI hj9; subst hq;exact AI rfl AM
    ·rw [BV hc12] at hj9
     rw [hc12];refine AD (n:=28) AC 2 [(0,.st x0),(3,.v (.int .i64 c4)),(22,.v (.bool false)),(23,.st x0),(24,.v (.int .i64 c4))] [] kr ?_;obtain ⟨v7,hv7,hj9⟩:=OB hj9;refine AW AC 0 rfl (DW kr rfl (VA (a:= .st x0) (b:= .v (.int .i64 c4)) kr kr (SF (bs:=x0) (ki:= .i64) kr hv7))) ?_;refine AD (n:=28) AC 2 [(0,.st x0),(3,.v (.int .i64 c4)),(23,.st x0),(24,.v (.int .i64 c4)),(25,.v (.int .u8 (v7.toNat:Int))),(26,.v (.bool (decide ((v7.toNat:Int) > 122)))),(27,.v (.bool (decide ((v7.toNat:Int) > 122))))] [] kr ?_;have hq:=OI hj9; subst hq;exact AI rfl AM
   refine AP (b:=j9) kr (fun hb10=>?_) (fun hb10=>?_)
   ·rw [if_pos hb10] at h
    refine AK AC [(2,.v (.bool false))] [] ?_;refine AO ?_;have hq:=OI h; subst hq;exact ⟨rfl,AM⟩
   ·rw [BV hb10] at h
    refine AT ?_;refine DC AC [(0,.st x0),(3,.v (.int .i64 (wr .i64 (c4 + 1))))] [] ?_;exact Aj (s1:=⟨Fr 28 [(0,.st x0),(3,.v (.int .i64 (wr .i64 (c4 + 1))))],[]⟩) AM (ih (wr .i64 (c4 + 1)) h)
  ·rw [BV hb5] at h
   refine CA ?_;have hq:=OI h; subst hq;exact ⟨rfl,AM⟩
theorem WB (x0:(List UInt8)) (r:Bool) (h:Le x0=some r):Sem E0 ⟨none,false⟩ PH ⟨Fr 28 (A0 0 (PN.enc (x0,()))),[]⟩ fun e s'=>(e = .normal\/e = .ret)/\∃ xs,Dz E0.P s'.fr s'.hp Tryz.f141.results.toList=some xs/\D0 xs=PO r:=by
 unfold Le at h;refine Ao (BL (s1:=⟨Fr 28 [(0,.st x0)],[]⟩) AM ?_);refine AK AC [(0,.st x0)] [] ?_;refine AG ?_;refine AG ?_;obtain ⟨j2,hj2,h⟩:=OB h;refine AL (s1:=⟨Fr 28 [(0,.st x0),(11,.v (.bool j2))],[]⟩) ?_ ?_
 ·refine AD (n:=28) AC 4 [(0,.st x0),(7,.v (.bool (decide ((x0.length:Int) < 1))))] [] kr ?_
  rcases BE (decide ((x0.length:Int) < 1)) with hc16 | hc16
  ·rw [if_pos hc16] at hj2
   rw [hc16];refine AD (n:=28) AC 4 [(0,.st x0),(11,.v (.bool true))] [] kr ?_;have hq:=OI hj2; subst hq;exact AI rfl AM
  ·rw [BV hc16] at hj2
   rw [hc16];refine AD (n:=28) AC 4 [(0,.st x0),(11,.v (.bool (decide ((x0.length:Int) > 12))))] [] kr ?_;have hq:=OI hj2; subst hq;exact AI rfl AM
 refine AP (b:=j2) kr (fun hb3=>?_) (fun hb3=>?_)
 ·rw [if_pos hb3] at h
  refine AK AC [(2,.v (.bool false))] [] ?_;refine AO ?_;have hq:=OI h; subst hq;exact ⟨⟨Fr 28 [(2,.v (.bool false))],[]⟩,AM,.inr rfl,[.v (.bool false)],kr,kr⟩
 ·rw [BV hb3] at h
  refine AT ?_;refine AG ?_;refine AK AC [(0,.st x0),(3,.v (.int .i64 0))] [] ?_;refine Aa ?_;obtain ⟨r13,hr13,h⟩:=OB h;refine CF (n:=100000) ?_;rcases r13 with w14 | w15
  ·try dsimp only at h
   refine A1 (Aj (s1:=⟨Fr 28 [(0,.st x0),(3,.v (.int .i64 0))],[]⟩) AM (O7 x0 _ 0 _ hr13)) ?_;refine AK AC [(2,.v (.bool true))] [] ?_;refine AO ?_;have hq:=OI h; subst hq;exact ⟨⟨Fr 28 [(2,.v (.bool true))],[]⟩,AM,.inr rfl,[.v (.bool true)],kr,kr⟩
  ·try dsimp only at h
   refine A1 (Aj (s1:=⟨Fr 28 [(0,.st x0),(3,.v (.int .i64 0))],[]⟩) AM (O7 x0 _ 0 _ hr13)) ?_;have hq:=OI h; subst hq;exact ⟨⟨Fr 28 [(2,.v (.bool w15))],[]⟩,AM,.inr rfl,[.v (.bool w15)],kr,kr⟩
def Yy:List AV->Option AV:=Dm PN (fun a=>Le a.1) PO
theorem Uj:XOk 141 Yy:=by
 refine AR Tryz.func141 (c:=PH) ?h2 ⟨Tryz.call141⟩ PN (fun a=>Le a.1) PO (fun a=>(by show 1<=28; decide)) ?h3 ?h4
 case h2=>kernel_rfl
 case h3=>intro b; kernel_rfl
 case h4=>exact fun a b h=>WB a.1 b h
/- trestle/trestleref03.has -/
noncomputable def No:Code:=A9 Tryz.f142
def JU (x0:(List (List UInt8))) (x1:(List UInt8)):Nat->Int->Option ((Unit) ⊕ (Bool))
 | 0,_=>none
 | f + 1,c1 =>
  if (decide (c1 < (x0.length:Int)))=true then
  (idx x0 c1).bind fun v3 =>
  if (v3==x1)=true then
  some (.inr true)
  else
  JU x0 x1 f (wr .i64 (c1 + 1))
  else
  some (.inl ())
def Hy (x0:(List (List UInt8))) (x1:(List UInt8)):Option (Bool) :=
 (JU x0 x1 100000 0).bind fun r6 =>
 match r6 with
 | (.inl _w7) =>
  some false
 | (.inr w8) =>
  some w8
def Nu:Cs ((List (List UInt8))×(List UInt8)×Unit):=(csC (cdL 1 cdS) (csC cdS csN))
def N5 (r:Bool):AV:=cdB.enc r
theorem OE (x0:(List (List UInt8))) (x1:(List UInt8)):∀ (f:Nat) (c1:Int) (r:(Unit) ⊕ (Bool)),JU x0 x1 f c1=some r->SemN E0 ⟨none,false⟩ (pc No [1,0,1,0,0]) f ⟨Fr 18 [(0,.sl 1 (x0.map cdS.enc)),(1,.st x1),(5,.v (.int .i64 c1))],[]⟩ (fun e s=>match r with
 | (.inl _w)=>e=(.exit 0)/\Wk E0 s ⟨Fr 18 [],[]⟩
 | (.inr w)=>e = .ret/\Wk E0 s ⟨Fr 18 [(4,.v (.bool w))],[]⟩):=by
 intro f;induction f with
 | zero=>intro c1 r h; cases h
 | succ f ih0 =>
  intro c1 r h
  have ih:=fun (c1:Int)=>ih0 c1 r
  unfold JU at h;refine Bc ?_;refine AG ?_;refine AG ?_
  let p1:Nat×AV:=(5,.v (.int .i64 c1))
  let p2:Nat×AV:=(0,.sl 1 (x0.map cdS.enc))
  refine AL (s1:=⟨Fr 18 [p2,(1,.st x1),p1,(9,.v (.bool (decide (c1 < (x0.length:Int)))))],[]⟩) ?_ ?_
  ·refine AD (n:=18) AC 2 [p2,(1,.st x1),p1,(6,.v (.int .i64 c1)),(7,.sl 1 (x0.map cdS.enc))] [] kr ?_
   refine AW AC 0 rfl (DW (AB rfl) rfl (CO (a:= .sl 1 (x0.map cdS.enc)) kr (BS (el:=9) kr))) ?_;exact AX AC
  refine AP (b:=(decide (c1 < (x0.length:Int)))) kr (fun hb2=>?_) (fun hb2=>?_)
  ·rw [if_pos hb2] at h
   refine AT ?_;refine AG ?_;refine Aa ?_;refine AG ?_;obtain ⟨v3,hv3,h⟩:=OB h;refine AL (s1:=⟨Fr 18 [p2,(1,.st x1),p1,(17,.v (.bool (v3==x1)))],[]⟩) ?_ ?_
   ·refine AD (n:=18) AC 2 [p2,(1,.st x1),p1,(12,.sl 1 (x0.map cdS.enc)),(13,.v (.int .i64 c1))] [] kr ?_
    refine AW AC 0 rfl (DW (AB rfl) rfl (AS (a:= .sl 1 (x0.map cdS.enc)) (b:= .v (.int .i64 c1)) kr kr (DP (e:=cdS.enc) (el:=9) (k:=1) (ki:= .i64) kr kr hv3))) ?_;exact AX AC
   refine AP (b:=(v3==x1)) kr (fun hb4=>?_) (fun hb4=>?_)
   ·rw [if_pos hb4] at h
    refine AK AC [(4,.v (.bool true))] [] ?_;refine AO ?_;have hq:=OI h; subst hq;exact ⟨rfl,AM⟩
   ·rw [BV hb4] at h
    refine AT ?_
    let p3:Nat×AV:=(5,.v (.int .i64 (wr .i64 (c1 + 1))))
    refine DC AC [p2,(1,.st x1),p3] [] ?_;exact Aj (s1:=⟨Fr 18 [p2,(1,.st x1),p3],[]⟩) AM (ih (wr .i64 (c1 + 1)) h)
  ·rw [BV hb2] at h
   refine CA ?_;have hq:=OI h; subst hq;exact ⟨rfl,AM⟩
theorem VD (x0:(List (List UInt8))) (x1:(List UInt8)) (r:Bool) (h:Hy x0 x1=some r):Sem E0 ⟨none,false⟩ No ⟨Fr 18 (A0 0 (Nu.enc (x0,x1,()))),[]⟩ fun e s'=>(e = .normal\/e = .ret)/\∃ xs,Dz E0.P s'.fr s'.hp Tryz.f142.results.toList=some xs/\D0 xs=N5 r:=by
 unfold Hy at h
 let p1:Nat×AV:=(0,.sl 1 (x0.map cdS.enc))
 refine Ao (BL (s1:=⟨Fr 18 [p1,(1,.st x1)],[]⟩) AM ?_);refine AK AC [p1,(1,.st x1)] [] ?_;refine AG ?_
 let p2:Nat×AV:=(5,.v (.int .i64 0))
 refine AK AC [p1,(1,.st x1),p2] [] ?_;refine Aa ?_;obtain ⟨r6,hr6,h⟩:=OB h;refine CF (n:=100000) ?_;rcases r6 with w7 | w8
 ·try dsimp only at h
  refine A1 (Aj (s1:=⟨Fr 18 [p1,(1,.st x1),p2],[]⟩) AM (OE x0 x1 _ 0 _ hr6)) ?_;refine AK AC [(4,.v (.bool false))] [] ?_;refine AO ?_;have hq:=OI h; subst hq;exact ⟨⟨Fr 18 [(4,.v (.bool false))],[]⟩,AM,.inr rfl,[.v (.bool false)],kr,kr⟩
 ·try dsimp only at h
  refine A1 (Aj (s1:=⟨Fr 18 [p1,(1,.st x1),p2],[]⟩) AM (OE x0 x1 _ 0 _ hr6)) ?_;have hq:=OI h; subst hq;exact ⟨⟨Fr 18 [(4,.v (.bool w8))],[]⟩,AM,.inr rfl,[.v (.bool w8)],kr,kr⟩
def XX:List AV->Option AV:=Dm Nu (fun a=>Hy a.1 a.2.1) N5
theorem NA:XOk 142 XX:=by
 refine AR Tryz.func142 (c:=No) ?h2 ⟨Tryz.call142⟩ Nu (fun a=>Hy a.1 a.2.1) N5 (fun a=>(by show 2<=18; decide)) ?h3 ?h4
 case h2=>kernel_rfl
 case h3=>intro b; kernel_rfl
 case h4=>exact fun a b h=>VD a.1 a.2.1 b h
/- trestle/trestleref03.CheckOne -/
noncomputable def GY:Code:=A9 Tryz.f149
def Du (x0:(List AH)) (x1:Int):Nat->Int->Option ((Unit) ⊕ (Int))
 | 0,_=>none
 | f + 1,c10 =>
  (idx x0 x1).bind fun v11 =>
  if (decide (c10 < (v11.2.2.2.1.length:Int)))=true then
  (idx x0 x1).bind fun v13 =>
  (idx v13.2.2.2.1 c10).bind fun v14 =>
  (Le v14).bind fun v15 =>
  if (!v15)=true then
  some (.inr 4)
  else
  Du x0 x1 f (wr .i64 (c10 + 1))
  else
  some (.inl ())
def Dv (x0:(List AH)) (x1:Int):Nat->Int->Option ((Unit) ⊕ (Int))
 | 0,_=>none
 | f + 1,c20 =>
  (idx x0 x1).bind fun v21 =>
  if (decide (c20 < (v21.2.2.2.1.length:Int)))=true then
  (idx x0 x1).bind fun v23 =>
  if (Nx 0 c20 v23.2.2.2.1.length)=true then
  (idx x0 x1).bind fun v25 =>
  (idx v25.2.2.2.1 c20).bind fun v26 =>
  (Hy ((v23.2.2.2.1.take c20.toNat).drop (0:Int).toNat) v26).bind fun v27 =>
  if v27=true then
  some (.inr 5)
  else
  Dv x0 x1 f (wr .i64 (c20 + 1))
  else none
  else
  some (.inl ())
def Dw (x0:(List AH)) (x1:Int):Nat->Int->Option ((Unit) ⊕ (Int))
 | 0,_=>none
 | f + 1,c34 =>
  if (decide (c34 < x1))=true then
  (idx x0 c34).bind fun v36 =>
  (if (v36.1==1)=true then (idx x0 c34).bind fun v37 =>
  (idx x0 x1).bind fun v38 =>
  (Hy v37.2.2.2.1 v38.2.1).bind fun v39 =>
  some v39 else some false).bind fun j41 =>
  if j41=true then
  some (.inr 0)
  else
  Dw x0 x1 f (wr .i64 (c34 + 1))
  else
  some (.inl ())
def GC (x0:(List AH)) (x1:Int):Option (Int) :=
 (idx x0 x1).bind fun v1 =>
 (BH v1).bind fun v2 =>
 if (!v2)=true then
 some 30
 else
 (idx x0 x1).bind fun v4 =>
 (if (!(v4.2.1==[]))=true then (idx x0 x1).bind fun v5 =>
 (Le v5.2.1).bind fun v6 =>
 some (!v6) else some false).bind fun j8 =>
 if j8=true then
 some 4
 else
 (Du x0 x1 100000 0).bind fun r18 =>
 match r18 with
 | (.inl _w19) =>
  (Dv x0 x1 100000 0).bind fun r30 =>
  match r30 with
  | (.inl _w31) =>
   (idx x0 x1).bind fun v32 =>
   if (v32.2.1==[])=true then
   some 0
   else
   (Dw x0 x1 100000 0).bind fun r45 =>
   match r45 with
   | (.inl _w46) =>
    some 31
   | (.inr w47) =>
    some w47
  | (.inr w48) =>
   some w48
 | (.inr w49) =>
  some w49
def I8:Cs ((List AH)×Int×Unit):=(csC (cdL 5 AA) (csC cdI csN))
def JE (r:Int):AV:=cdI.enc r
theorem KT (x0:(List AH)) (x1:Int):∀ (f:Nat) (c10:Int) (r:(Unit) ⊕ (Int)),Du x0 x1 f c10=some r->SemN E0 ⟨none,false⟩ (pc GY [1,1,1,0,1,0,0]) f ⟨Fr 105 [(0,.sl 5 (x0.map AA.enc)),(1,.v (.int .i64 x1)),(5,.v (.int .i64 c10))],[]⟩ (fun e s=>match r with
 | (.inl _w)=>e=(.exit 0)/\Wk E0 s ⟨Fr 105 [(0,.sl 5 (x0.map AA.enc)),(1,.v (.int .i64 x1))],[]⟩
 | (.inr w)=>e = .ret/\Wk E0 s ⟨Fr 105 [(4,.v (.int .i64 w))],[]⟩):=by
 intro f;induction f with
 | zero=>intro c10 r h; cases h
 | succ f ih0 =>
  intro c10 r h
  have ih:=fun (c10:Int)=>ih0 c10 r
  unfold Du at h;refine Bc ?_;refine AG ?_;refine AG ?_;obtain ⟨v11,hv11,h⟩:=OB h
  let p1:Nat×AV:=(5,.v (.int .i64 c10))
  let p2:Nat×AV:=(1,.v (.int .i64 x1))
  let p3:Nat×AV:=(0,.sl 5 (x0.map AA.enc))
  refine AL (s1:=⟨Fr 105 [p3,p2,p1,(36,.v (.bool (decide (c10 < (v11.2.2.2.1.length:Int)))))],[]⟩) ?_ ?_
  ·refine AD (n:=105) AC 3 [p3,p2,p1,(29,.v (.int .i64 c10)),(30,.sl 5 (x0.map AA.enc)),(31,.v (.int .i64 x1))] [] kr ?_
   refine AW AC 0 rfl (DW (AB rfl) rfl (AS (a:= .sl 5 (x0.map AA.enc)) (b:= .v (.int .i64 x1)) kr kr (DP (e:=AA.enc) (el:=60) (k:=5) (ki:= .i64) kr kr hv11))) ?_;refine AD (n:=105) AC 2 [p3,p2,p1,(29,.v (.int .i64 c10)),(34,.sl 1 (v11.2.2.2.1.map cdS.enc))] [] kr ?_;refine AW AC 0 rfl (DW (AB rfl) rfl (CO (a:= .sl 1 (v11.2.2.2.1.map cdS.enc)) kr (BS (el:=9) kr))) ?_;exact AX AC
  refine AP (b:=(decide (c10 < (v11.2.2.2.1.length:Int)))) kr (fun hb12=>?_) (fun hb12=>?_)
  ·rw [if_pos hb12] at h
   refine AT ?_;refine AG ?_;refine Aa ?_;refine AG ?_;obtain ⟨v13,hv13,h⟩:=OB h;obtain ⟨v14,hv14,h⟩:=OB h;obtain ⟨v15,hv15,h⟩:=OB h;refine AL (s1:=⟨Fr 105 [p3,p2,p1,(48,.v (.bool (!v15)))],[]⟩) ?_ ?_
   ·refine AD (n:=105) AC 2 [p3,p2,p1,(39,.sl 5 (x0.map AA.enc)),(40,.v (.int .i64 x1))] [] kr ?_
    refine AW AC 0 rfl (DW (AB rfl) rfl (AS (a:= .sl 5 (x0.map AA.enc)) (b:= .v (.int .i64 x1)) kr kr (DP (e:=AA.enc) (el:=60) (k:=5) (ki:= .i64) kr kr hv13))) ?_;refine AD (n:=105) AC 3 [p3,p2,p1,(43,.sl 1 (v13.2.2.2.1.map cdS.enc)),(44,.v (.int .i64 c10))] [] kr ?_;refine AW AC 0 rfl (DW (AB rfl) rfl (AS (a:= .sl 1 (v13.2.2.2.1.map cdS.enc)) (b:= .v (.int .i64 c10)) kr kr (DP (e:=cdS.enc) (el:=9) (k:=1) (ki:= .i64) kr kr hv14))) ?_;refine AD (n:=105) AC 1 [p3,p2,p1,(46,.st v14)] [] kr ?_;refine AN (caps:=[]) (xs:=[.st v14]) (u:=(v14,())) rfl rfl Uj rfl (AB rfl) kr kr (AJ (AQ (c:=cdS) (v:=v14)) Ah) (.inl kr) hv15 ?_;exact AX AC
   refine AP (b:=(!v15)) kr (fun hb16=>?_) (fun hb16=>?_)
   ·rw [if_pos hb16] at h
    refine AK AC [(4,.v (.int .i64 4))] [] ?_;refine AO ?_;have hq:=OI h; subst hq;exact ⟨rfl,AM⟩
   ·rw [BV hb16] at h
    refine AT ?_
    let p4:Nat×AV:=(5,.v (.int .i64 (wr .i64 (c10 + 1))))
    refine DC AC [p3,p2,p4] [] ?_;exact Aj (s1:=⟨Fr 105 [p3,p2,p4],[]⟩) AM (ih (wr .i64 (c10 + 1)) h)
  ·rw [BV hb12] at h
   refine CA ?_;have hq:=OI h; subst hq;exact ⟨rfl,AM⟩
theorem KU (x0:(List AH)) (x1:Int):∀ (f:Nat) (c20:Int) (r:(Unit) ⊕ (Int)),Dv x0 x1 f c20=some r->SemN E0 ⟨none,false⟩ (pc GY [1,1,1,1,0,1,0,0]) f ⟨Fr 105 [(0,.sl 5 (x0.map AA.enc)),(1,.v (.int .i64 x1)),(6,.v (.int .i64 c20))],[]⟩ (fun e s=>match r with
 | (.inl _w)=>e=(.exit 2)/\Wk E0 s ⟨Fr 105 [(0,.sl 5 (x0.map AA.enc)),(1,.v (.int .i64 x1))],[]⟩
 | (.inr w)=>e = .ret/\Wk E0 s ⟨Fr 105 [(4,.v (.int .i64 w))],[]⟩):=by
 intro f;induction f with
 | zero=>intro c20 r h; cases h
 | succ f ih0 =>
  intro c20 r h
  have ih:=fun (c20:Int)=>ih0 c20 r
  unfold Dv at h;refine Bc ?_;refine AG ?_;refine AG ?_;obtain ⟨v21,hv21,h⟩:=OB h
  let p1:Nat×AV:=(6,.v (.int .i64 c20))
  let p2:Nat×AV:=(1,.v (.int .i64 x1))
  let p3:Nat×AV:=(0,.sl 5 (x0.map AA.enc))
  refine AL (s1:=⟨Fr 105 [p3,p2,p1,(56,.v (.bool (decide (c20 < (v21.2.2.2.1.length:Int)))))],[]⟩) ?_ ?_
  ·refine AD (n:=105) AC 3 [p3,p2,p1,(49,.v (.int .i64 c20)),(50,.sl 5 (x0.map AA.enc)),(51,.v (.int .i64 x1))] [] kr ?_
   refine AW AC 0 rfl (DW (AB rfl) rfl (AS (a:= .sl 5 (x0.map AA.enc)) (b:= .v (.int .i64 x1)) kr kr (DP (e:=AA.enc) (el:=60) (k:=5) (ki:= .i64) kr kr hv21))) ?_;refine AD (n:=105) AC 2 [p3,p2,p1,(49,.v (.int .i64 c20)),(54,.sl 1 (v21.2.2.2.1.map cdS.enc))] [] kr ?_;refine AW AC 0 rfl (DW (AB rfl) rfl (CO (a:= .sl 1 (v21.2.2.2.1.map cdS.enc)) kr (BS (el:=9) kr))) ?_;exact AX AC
  refine AP (b:=(decide (c20 < (v21.2.2.2.1.length:Int)))) kr (fun hb22=>?_) (fun hb22=>?_)
  ·rw [if_pos hb22] at h
   refine AT ?_;refine AG ?_;refine Aa ?_;refine AG ?_;obtain ⟨v23,hv23,h⟩:=OB h;by_cases hk24:(Nx 0 c20 v23.2.2.2.1.length)=true
   case neg=>rw [if_neg hk24] at h; cases h
   rw [if_pos hk24] at h;obtain ⟨v25,hv25,h⟩:=OB h;obtain ⟨v26,hv26,h⟩:=OB h;obtain ⟨v27,hv27,h⟩:=OB h;refine C0 AC (s1:=⟨Fr 105 [p3,p2,p1,(74,.v (.bool v27))],[]⟩) kr ?_ ?_
   ·refine AU (n:=105) AC 2 [p3,p2,p1,(59,.sl 5 (x0.map AA.enc)),(60,.v (.int .i64 x1))] [] kr kr ?_
    refine RunDS.one AC rfl kr (HF kr (AB rfl) rfl (AS (a:= .sl 5 (x0.map AA.enc)) (b:= .v (.int .i64 x1)) kr kr (DP (e:=AA.enc) (el:=60) (k:=5) (ki:= .i64) kr kr hv23)) kr) ?_;refine AU (n:=105) AC 3 [p3,p2,p1,(63,.sl 1 (v23.2.2.2.1.map cdS.enc)),(64,.v (.int .i64 c20))] [] kr kr ?_;refine RunDS.one AC rfl kr (HF kr (AB rfl) rfl (S0 (a:= .sl 1 (v23.2.2.2.1.map cdS.enc)) (l:=none) (u:=(some (.v (.int .i64 c20)))) (m:=none) kr kr kr rfl (VK (xs:=v23.2.2.2.1) (e:=cdS.enc) (k:=1) (el:=9) (lo:=0) (hi:=c20) kr kr rfl (X2 (ZN hk24)) hk24)) kr) ?_
    let p4:Nat×AV:=(65,.sl 1 (((v23.2.2.2.1.take c20.toNat).drop (0:Int).toNat).map cdS.enc))
    refine AU (n:=105) AC 2 [p3,p2,p1,p4,(66,.sl 5 (x0.map AA.enc)),(67,.v (.int .i64 x1))] [] kr kr ?_;refine RunDS.one AC rfl kr (HF kr (AB rfl) rfl (AS (a:= .sl 5 (x0.map AA.enc)) (b:= .v (.int .i64 x1)) kr kr (DP (e:=AA.enc) (el:=60) (k:=5) (ki:= .i64) kr kr hv25)) kr) ?_;refine AU (n:=105) AC 3 [p3,p2,p1,p4,(70,.sl 1 (v25.2.2.2.1.map cdS.enc)),(71,.v (.int .i64 c20))] [] kr kr ?_;refine RunDS.one AC rfl kr (HF kr (AB rfl) rfl (AS (a:= .sl 1 (v25.2.2.2.1.map cdS.enc)) (b:= .v (.int .i64 c20)) kr kr (DP (e:=cdS.enc) (el:=9) (k:=1) (ki:= .i64) kr kr hv26)) kr) ?_;refine AU (n:=105) AC 1 [p3,p2,p1,p4,(73,.st v26)] [] kr kr ?_;refine BQ (caps:=[]) (xs:=[.sl 1 (((v23.2.2.2.1.take c20.toNat).drop (0:Int).toNat).map cdS.enc),.st v26]) (u:=(((v23.2.2.2.1.take c20.toNat).drop (0:Int).toNat),v26,())) rfl rfl NA rfl (AB rfl) kr kr (AJ (AQ (c:=(cdL 1 cdS)) (v:=((v23.2.2.2.1.take c20.toNat).drop (0:Int).toNat))) (AJ (AQ (c:=cdS) (v:=v26)) Ah)) kr hv27 ?_;exact RunDS.done rfl AM
   refine AP (b:=v27) kr (fun hb28=>?_) (fun hb28=>?_)
   ·rw [if_pos hb28] at h
    refine AK AC [(4,.v (.int .i64 5))] [] ?_;refine AO ?_;have hq:=OI h; subst hq;exact ⟨rfl,AM⟩
   ·rw [BV hb28] at h
    refine AT ?_
    let p5:Nat×AV:=(6,.v (.int .i64 (wr .i64 (c20 + 1))))
    refine DC AC [p3,p2,p5] [] ?_;exact Aj (s1:=⟨Fr 105 [p3,p2,p5],[]⟩) AM (ih (wr .i64 (c20 + 1)) h)
  ·rw [BV hb22] at h
   refine CA ?_;have hq:=OI h; subst hq;exact ⟨rfl,AM⟩
theorem KV (x0:(List AH)) (x1:Int):∀ (f:Nat) (c34:Int) (r:(Unit) ⊕ (Int)),Dw x0 x1 f c34=some r->SemN E0 ⟨none,false⟩ (pc GY [1,1,1,1,1,1,0,1,0,0]) f ⟨Fr 105 [(0,.sl 5 (x0.map AA.enc)),(1,.v (.int .i64 x1)),(7,.v (.int .i64 c34))],[]⟩ (fun e s=>match r with
 | (.inl _w)=>e=(.exit 4)/\Wk E0 s ⟨Fr 105 [],[]⟩
 | (.inr w)=>e = .ret/\Wk E0 s ⟨Fr 105 [(4,.v (.int .i64 w))],[]⟩):=by
 intro f;induction f with
 | zero=>intro c34 r h; cases h
 | succ f ih0 =>
  intro c34 r h
  have ih:=fun (c34:Int)=>ih0 c34 r
  unfold Dw at h;refine Bc ?_;refine AG ?_;refine AK AC [(0,.sl 5 (x0.map AA.enc)),(1,.v (.int .i64 x1)),(7,.v (.int .i64 c34)),(83,.v (.bool (decide (c34 < x1))))] [] ?_;refine AP (b:=(decide (c34 < x1))) kr (fun hb35=>?_) (fun hb35=>?_)
  ·rw [if_pos hb35] at h
   refine AT ?_;refine AG ?_;refine Aa ?_;refine AG ?_;obtain ⟨v36,hv36,h⟩:=OB h;obtain ⟨j41,hj41,h⟩:=OB h;refine C0 AC (s1:=⟨Fr 105 [(0,.sl 5 (x0.map AA.enc)),(1,.v (.int .i64 x1)),(7,.v (.int .i64 c34)),(104,.v (.bool j41))],[]⟩) kr ?_ ?_
   ·refine AU (n:=105) AC 2 [(0,.sl 5 (x0.map AA.enc)),(1,.v (.int .i64 x1)),(7,.v (.int .i64 c34)),(86,.sl 5 (x0.map AA.enc)),(87,.v (.int .i64 c34))] [] kr kr ?_
    refine RunDS.one AC rfl kr (HF kr (AB rfl) rfl (AS (a:= .sl 5 (x0.map AA.enc)) (b:= .v (.int .i64 c34)) kr kr (DP (e:=AA.enc) (el:=60) (k:=5) (ki:= .i64) kr kr hv36)) kr) ?_;refine AU (n:=105) AC 4 [(0,.sl 5 (x0.map AA.enc)),(1,.v (.int .i64 x1)),(7,.v (.int .i64 c34)),(92,.v (.bool (v36.1==1)))] [] kr kr ?_;rcases BE (v36.1==1) with hc44 | hc44
    ·rw [if_pos hc44] at hj41
     rw [hc44];refine AU (n:=105) AC 2 [(0,.sl 5 (x0.map AA.enc)),(1,.v (.int .i64 x1)),(7,.v (.int .i64 c34)),(92,.v (.bool true)),(93,.sl 5 (x0.map AA.enc)),(94,.v (.int .i64 c34))] [] kr kr ?_;obtain ⟨v37,hv37,hj41⟩:=OB hj41;refine RunDS.one AC rfl kr (HF kr kr rfl (AS (a:= .sl 5 (x0.map AA.enc)) (b:= .v (.int .i64 c34)) kr kr (DP (e:=AA.enc) (el:=60) (k:=5) (ki:= .i64) kr kr hv37)) kr) ?_;refine AU (n:=105) AC 4 [(0,.sl 5 (x0.map AA.enc)),(1,.v (.int .i64 x1)),(7,.v (.int .i64 c34)),(92,.v (.bool true)),(93,.sl 5 (x0.map AA.enc)),(94,.v (.int .i64 c34)),(95,.pe (AA.enc v37) 0),(96,.pe (AA.enc v37) 3),(97,.sl 1 (v37.2.2.2.1.map cdS.enc)),(98,.sl 5 (x0.map AA.enc)),(99,.v (.int .i64 x1))] [] kr kr ?_;obtain ⟨v38,hv38,hj41⟩:=OB hj41;refine RunDS.one AC rfl kr (HF kr kr rfl (AS (a:= .sl 5 (x0.map AA.enc)) (b:= .v (.int .i64 x1)) kr kr (DP (e:=AA.enc) (el:=60) (k:=5) (ki:= .i64) kr kr hv38)) kr) ?_;refine AU (n:=105) AC 2 [(0,.sl 5 (x0.map AA.enc)),(1,.v (.int .i64 x1)),(7,.v (.int .i64 c34)),(92,.v (.bool true)),(93,.sl 5 (x0.map AA.enc)),(94,.v (.int .i64 c34)),(95,.pe (AA.enc v37) 0),(96,.pe (AA.enc v37) 3),(97,.sl 1 (v37.2.2.2.1.map cdS.enc)),(98,.sl 5 (x0.map AA.enc)),(99,.v (.int .i64 x1)),(100,.pe (AA.enc v38) 0),(101,.pe (AA.enc v38) 1),(102,.st v38.2.1)] [] kr kr ?_;obtain ⟨v39,hv39,hj41⟩:=OB hj41;refine BQ (caps:=[]) (xs:=[.sl 1 (v37.2.2.2.1.map cdS.enc),.st v38.2.1]) (u:=(v37.2.2.2.1,v38.2.1,())) rfl rfl NA rfl kr kr kr (AJ (AQ (c:=(cdL 1 cdS)) (v:=v37.2.2.2.1)) (AJ (AQ (c:=cdS) (v:=v38.2.1)) Ah)) kr hv39 ?_;refine AU (n:=105) AC 1 [(0,.sl 5 (x0.map AA.enc)),(1,.v (.int .i64 x1)),(7,.v (.int .i64 c34)),(93,.sl 5 (x0.map AA.enc)),(94,.v (.int .i64 c34)),(95,.pe (AA.enc v37) 0),(96,.pe (AA.enc v37) 3),(97,.sl 1 (v37.2.2.2.1.map cdS.enc)),(98,.sl 5 (x0.map AA.enc)),(99,.v (.int .i64 x1)),(100,.pe (AA.enc v38) 0),(101,.pe (AA.enc v38) 1),(102,.st v38.2.1),(103,.v (.bool v39)),(104,.v (.bool v39))] [] kr kr ?_
     have hq:=OI hj41; subst hq;exact RunDS.done rfl AM
    ·rw [BV hc44] at hj41
     rw [hc44];refine AU (n:=105) AC 12 [(0,.sl 5 (x0.map AA.enc)),(1,.v (.int .i64 x1)),(7,.v (.int .i64 c34)),(93,.tp []),(94,.tp []),(95,.tp []),(96,.tp []),(97,.tp []),(98,.tp []),(99,.tp []),(100,.tp []),(101,.tp []),(102,.tp []),(103,.tp []),(104,.v (.bool false))] [] kr kr ?_;have hq:=OI hj41; subst hq;exact RunDS.done rfl AM
   refine AP (b:=j41) kr (fun hb42=>?_) (fun hb42=>?_)
   ·rw [if_pos hb42] at h
    refine AK AC [(4,.v (.int .i64 0))] [] ?_;refine AO ?_;have hq:=OI h; subst hq;exact ⟨rfl,AM⟩
   ·rw [BV hb42] at h
    refine AT ?_;refine DC AC [(0,.sl 5 (x0.map AA.enc)),(1,.v (.int .i64 x1)),(7,.v (.int .i64 (wr .i64 (c34 + 1))))] [] ?_;exact Aj (s1:=⟨Fr 105 [(0,.sl 5 (x0.map AA.enc)),(1,.v (.int .i64 x1)),(7,.v (.int .i64 (wr .i64 (c34 + 1))))],[]⟩) AM (ih (wr .i64 (c34 + 1)) h)
  ·rw [BV hb35] at h
   refine CA ?_;have hq:=OI h; subst hq;exact ⟨rfl,AM⟩
theorem QB (x0:(List AH)) (x1:Int) (r:Int) (h:GC x0 x1=some r):Sem E0 ⟨none,false⟩ GY ⟨Fr 105 (A0 0 (I8.enc (x0,x1,()))),[]⟩ fun e s'=>(e = .normal\/e = .ret)/\∃ xs,Dz E0.P s'.fr s'.hp Tryz.f149.results.toList=some xs/\D0 xs=JE r:=by
 unfold GC at h;refine Ao (BL (s1:=⟨Fr 105 [(0,.sl 5 (x0.map AA.enc)),(1,.v (.int .i64 x1))],[]⟩) AM ?_);refine AK AC [(0,.sl 5 (x0.map AA.enc)),(1,.v (.int .i64 x1))] [] ?_;refine AG ?_;refine AG ?_;obtain ⟨v1,hv1,h⟩:=OB h;obtain ⟨v2,hv2,h⟩:=OB h;refine AL (s1:=⟨Fr 105 [(0,.sl 5 (x0.map AA.enc)),(1,.v (.int .i64 x1)),(13,.v (.bool (!v2)))],[]⟩) ?_ ?_
 ·refine AD (n:=105) AC 2 [(0,.sl 5 (x0.map AA.enc)),(1,.v (.int .i64 x1)),(8,.sl 5 (x0.map AA.enc)),(9,.v (.int .i64 x1))] [] kr ?_
  refine AW AC 0 rfl (DW (AB rfl) rfl (AS (a:= .sl 5 (x0.map AA.enc)) (b:= .v (.int .i64 x1)) kr kr (DP (e:=AA.enc) (el:=60) (k:=5) (ki:= .i64) kr kr hv1))) ?_;refine AD (n:=105) AC 1 [(0,.sl 5 (x0.map AA.enc)),(1,.v (.int .i64 x1)),(11,AA.enc v1)] [] kr ?_;refine AN (caps:=[]) (xs:=[AA.enc v1]) (u:=(v1,())) rfl rfl UL rfl (AB rfl) kr kr (AJ (AQ (c:=AA) (v:=v1)) Ah) (.inl kr) hv2 ?_;exact AX AC
 refine AP (b:=(!v2)) kr (fun hb3=>?_) (fun hb3=>?_)
 ·rw [if_pos hb3] at h
  refine AK AC [(4,.v (.int .i64 30))] [] ?_;refine AO ?_;have hq:=OI h; subst hq;exact ⟨⟨Fr 105 [(4,.v (.int .i64 30))],[]⟩,AM,.inr rfl,[.v (.int .i64 30)],kr,kr⟩
 ·rw [BV hb3] at h
  refine AT ?_;refine AG ?_;refine AG ?_;obtain ⟨v4,hv4,h⟩:=OB h;obtain ⟨j8,hj8,h⟩:=OB h;refine AL (s1:=⟨Fr 105 [(0,.sl 5 (x0.map AA.enc)),(1,.v (.int .i64 x1)),(28,.v (.bool j8))],[]⟩) ?_ ?_
  ·refine AD (n:=105) AC 2 [(0,.sl 5 (x0.map AA.enc)),(1,.v (.int .i64 x1)),(14,.sl 5 (x0.map AA.enc)),(15,.v (.int .i64 x1))] [] kr ?_
   refine AW AC 0 rfl (DW (AB rfl) rfl (AS (a:= .sl 5 (x0.map AA.enc)) (b:= .v (.int .i64 x1)) kr kr (DP (e:=AA.enc) (el:=60) (k:=5) (ki:= .i64) kr kr hv4))) ?_;refine AD (n:=105) AC 4 [(0,.sl 5 (x0.map AA.enc)),(1,.v (.int .i64 x1)),(20,.v (.bool (!(v4.2.1==[]))))] [] kr ?_;rcases BE (!(v4.2.1==[])) with hc50 | hc50
   ·rw [if_pos hc50] at hj8
    rw [hc50];refine AD (n:=105) AC 2 [(0,.sl 5 (x0.map AA.enc)),(1,.v (.int .i64 x1)),(20,.v (.bool true)),(21,.sl 5 (x0.map AA.enc)),(22,.v (.int .i64 x1))] [] kr ?_;obtain ⟨v5,hv5,hj8⟩:=OB hj8;refine AW AC 0 rfl (DW kr rfl (AS (a:= .sl 5 (x0.map AA.enc)) (b:= .v (.int .i64 x1)) kr kr (DP (e:=AA.enc) (el:=60) (k:=5) (ki:= .i64) kr kr hv5))) ?_;refine AD (n:=105) AC 2 [(0,.sl 5 (x0.map AA.enc)),(1,.v (.int .i64 x1)),(20,.v (.bool true)),(25,.st v5.2.1)] [] kr ?_;obtain ⟨v6,hv6,hj8⟩:=OB hj8;refine AN (caps:=[]) (xs:=[.st v5.2.1]) (u:=(v5.2.1,())) rfl rfl Uj rfl kr kr kr (AJ (AQ (c:=cdS) (v:=v5.2.1)) Ah) (.inl kr) hv6 ?_;refine AD (n:=105) AC 2 [(0,.sl 5 (x0.map AA.enc)),(1,.v (.int .i64 x1)),(28,.v (.bool (!v6)))] [] kr ?_;have hq:=OI hj8; subst hq;exact AI rfl AM
   ·rw [BV hc50] at hj8
    rw [hc50];refine AD (n:=105) AC 8 [(0,.sl 5 (x0.map AA.enc)),(1,.v (.int .i64 x1)),(28,.v (.bool false))] [] kr ?_;have hq:=OI hj8; subst hq;exact AI rfl AM
  refine AP (b:=j8) kr (fun hb9=>?_) (fun hb9=>?_)
  ·rw [if_pos hb9] at h
   refine AK AC [(4,.v (.int .i64 4))] [] ?_;refine AO ?_;have hq:=OI h; subst hq;exact ⟨⟨Fr 105 [(4,.v (.int .i64 4))],[]⟩,AM,.inr rfl,[.v (.int .i64 4)],kr,kr⟩
  ·rw [BV hb9] at h
   refine AT ?_;refine AG ?_;refine AK AC [(0,.sl 5 (x0.map AA.enc)),(1,.v (.int .i64 x1)),(5,.v (.int .i64 0))] [] ?_;refine Aa ?_;obtain ⟨r18,hr18,h⟩:=OB h;refine CF (n:=100000) ?_;rcases r18 with w19 | w49
   ·try dsimp only at h
    refine A1 (Aj (s1:=⟨Fr 105 [(0,.sl 5 (x0.map AA.enc)),(1,.v (.int .i64 x1)),(5,.v (.int .i64 0))],[]⟩) AM (KT x0 x1 _ 0 _ hr18)) ?_;refine AG ?_;refine AK AC [(0,.sl 5 (x0.map AA.enc)),(1,.v (.int .i64 x1)),(6,.v (.int .i64 0))] [] ?_;refine Aa ?_;obtain ⟨r30,hr30,h⟩:=OB h;refine CF (n:=100000) ?_;rcases r30 with w31 | w48
    ·try dsimp only at h
     refine A1 (Aj (s1:=⟨Fr 105 [(0,.sl 5 (x0.map AA.enc)),(1,.v (.int .i64 x1)),(6,.v (.int .i64 0))],[]⟩) AM (KU x0 x1 _ 0 _ hr30)) ?_;refine AG ?_;refine AG ?_;obtain ⟨v32,hv32,h⟩:=OB h;refine AL (s1:=⟨Fr 105 [(0,.sl 5 (x0.map AA.enc)),(1,.v (.int .i64 x1)),(80,.v (.bool (v32.2.1==[])))],[]⟩) ?_ ?_
     ·refine AD (n:=105) AC 2 [(0,.sl 5 (x0.map AA.enc)),(1,.v (.int .i64 x1)),(75,.sl 5 (x0.map AA.enc)),(76,.v (.int .i64 x1))] [] kr ?_
      refine AW AC 0 rfl (DW (AB rfl) rfl (AS (a:= .sl 5 (x0.map AA.enc)) (b:= .v (.int .i64 x1)) kr kr (DP (e:=AA.enc) (el:=60) (k:=5) (ki:= .i64) kr kr hv32))) ?_;exact AX AC
     refine AP (b:=(v32.2.1==[])) kr (fun hb33=>?_) (fun hb33=>?_)
     ·rw [if_pos hb33] at h
      refine AK AC [(4,.v (.int .i64 0))] [] ?_;refine AO ?_;have hq:=OI h; subst hq;exact ⟨⟨Fr 105 [(4,.v (.int .i64 0))],[]⟩,AM,.inr rfl,[.v (.int .i64 0)],kr,kr⟩
     ·rw [BV hb33] at h
      refine AT ?_;refine AG ?_;refine AK AC [(0,.sl 5 (x0.map AA.enc)),(1,.v (.int .i64 x1)),(7,.v (.int .i64 0))] [] ?_;refine Aa ?_;obtain ⟨r45,hr45,h⟩:=OB h;refine CF (n:=100000) ?_;rcases r45 with w46 | w47
      ·try dsimp only at h
       refine A1 (Aj (s1:=⟨Fr 105 [(0,.sl 5 (x0.map AA.enc)),(1,.v (.int .i64 x1)),(7,.v (.int .i64 0))],[]⟩) AM (KV x0 x1 _ 0 _ hr45)) ?_;refine AK AC [(4,.v (.int .i64 31))] [] ?_;refine AO ?_;have hq:=OI h; subst hq;exact ⟨⟨Fr 105 [(4,.v (.int .i64 31))],[]⟩,AM,.inr rfl,[.v (.int .i64 31)],kr,kr⟩
      ·try dsimp only at h
       refine A1 (Aj (s1:=⟨Fr 105 [(0,.sl 5 (x0.map AA.enc)),(1,.v (.int .i64 x1)),(7,.v (.int .i64 0))],[]⟩) AM (KV x0 x1 _ 0 _ hr45)) ?_;have hq:=OI h; subst hq;exact ⟨⟨Fr 105 [(4,.v (.int .i64 w47))],[]⟩,AM,.inr rfl,[.v (.int .i64 w47)],kr,kr⟩
    ·try dsimp only at h
     refine A1 (Aj (s1:=⟨Fr 105 [(0,.sl 5 (x0.map AA.enc)),(1,.v (.int .i64 x1)),(6,.v (.int .i64 0))],[]⟩) AM (KU x0 x1 _ 0 _ hr30)) ?_;have hq:=OI h; subst hq;exact ⟨⟨Fr 105 [(4,.v (.int .i64 w48))],[]⟩,AM,.inr rfl,[.v (.int .i64 w48)],kr,kr⟩
   ·try dsimp only at h
    refine A1 (Aj (s1:=⟨Fr 105 [(0,.sl 5 (x0.map AA.enc)),(1,.v (.int .i64 x1)),(5,.v (.int .i64 0))],[]⟩) AM (KT x0 x1 _ 0 _ hr18)) ?_;have hq:=OI h; subst hq;exact ⟨⟨Fr 105 [(4,.v (.int .i64 w49))],[]⟩,AM,.inr rfl,[.v (.int .i64 w49)],kr,kr⟩
def Rv:List AV->Option AV:=Dm I8 (fun a=>GC a.1 a.2.1) JE
theorem R6:XOk 149 Rv:=by
 refine AR Tryz.func149 (c:=GY) ?h2 ⟨Tryz.call149⟩ I8 (fun a=>GC a.1 a.2.1) JE (fun a=>(by show 2<=105; decide)) ?h3 ?h4
 case h2=>kernel_rfl
 case h3=>intro b; kernel_rfl
 case h4=>exact fun a b h=>QB a.1 a.2.1 b h
/- trestle/trestleref03.Check -/
noncomputable def Lp:Code:=A9 Tryz.f115
def FS (x0:(List AH)):Nat->Int->Option ((Unit) ⊕ (Int×Int))
 | 0,_=>none
 | f + 1,c2 =>
  if (decide (c2 < (x0.length:Int)))=true then
  (GC x0 c2).bind fun v4 =>
  if (v4 != 0)=true then
  some (.inr (c2,v4))
  else
  FS x0 f (wr .i64 (c2 + 1))
  else
  some (.inl ())
def HX (x0:(List AH)):Option (Int×Int) :=
 if (decide ((x0.length:Int) > 32))=true then
 some (0,7)
 else
 (FS x0 100000 0).bind fun r8 =>
 match r8 with
 | (.inl _w9) =>
  some (0,0)
 | (.inr w10) =>
  some (w10.1,w10.2)
def Lv:Cs ((List AH)×Unit):=(csC (cdL 5 AA) csN)
def L6 (r:Int×Int):AV:= .tp [cdI.enc r.1,cdI.enc r.2]
theorem MR (x0:(List AH)):∀ (f:Nat) (c2:Int) (r:(Unit) ⊕ (Int×Int)),FS x0 f c2=some r->SemN E0 ⟨none,false⟩ (pc Lp [1,1,0,1,0,0]) f ⟨Fr 22 [(0,.sl 5 (x0.map AA.enc)),(4,.v (.int .i64 c2))],[]⟩ (fun e s=>match r with
 | (.inl _w)=>e=(.exit 0)/\Wk E0 s ⟨Fr 22 [],[]⟩
 | (.inr w)=>e = .ret/\Wk E0 s ⟨Fr 22 [(2,.v (.int .i64 w.1)),(3,.v (.int .i64 w.2))],[]⟩):=by
 intro f;induction f with
 | zero=>intro c2 r h; cases h
 | succ f ih0 =>
  intro c2 r h
  have ih:=fun (c2:Int)=>ih0 c2 r
  unfold FS at h;refine Bc ?_;refine AG ?_;refine AG ?_
  let p1:Nat×AV:=(4,.v (.int .i64 c2))
  let p2:Nat×AV:=(0,.sl 5 (x0.map AA.enc))
  refine AL (s1:=⟨Fr 22 [p2,p1,(12,.v (.bool (decide (c2 < (x0.length:Int)))))],[]⟩) ?_ ?_
  ·refine AD (n:=22) AC 2 [p2,p1,(9,.v (.int .i64 c2)),(10,.sl 5 (x0.map AA.enc))] [] kr ?_
   refine AW AC 0 rfl (DW (AB rfl) rfl (CO (a:= .sl 5 (x0.map AA.enc)) kr (BS (el:=60) kr))) ?_;exact AX AC
  refine AP (b:=(decide (c2 < (x0.length:Int)))) kr (fun hb3=>?_) (fun hb3=>?_)
  ·rw [if_pos hb3] at h
   refine AT ?_;refine AG ?_;refine Aa ?_;refine AG ?_;obtain ⟨v4,hv4,h⟩:=OB h;refine AL (s1:=⟨Fr 22 [p2,p1,(5,.v (.int .i64 v4))],[]⟩) ?_ ?_
   ·refine AD (n:=22) AC 2 [p2,p1,(15,.sl 5 (x0.map AA.enc)),(16,.v (.int .i64 c2))] [] kr ?_
    refine AN (caps:=[]) (xs:=[.sl 5 (x0.map AA.enc),.v (.int .i64 c2)]) (u:=(x0,c2,())) rfl rfl R6 rfl (AB rfl) kr kr (AJ (AQ (c:=(cdL 5 AA)) (v:=x0)) (AJ (AQ (c:=cdI) (v:=c2)) Ah)) (.inl kr) hv4 ?_;exact AX AC
   refine AK AC [p2,p1,(5,.v (.int .i64 v4)),(19,.v (.bool (v4 != 0)))] [] ?_;refine AP (b:=(v4 != 0)) kr (fun hb5=>?_) (fun hb5=>?_)
   ·rw [if_pos hb5] at h
    refine AK AC [(2,.v (.int .i64 c2)),(3,.v (.int .i64 v4))] [] ?_;refine AO ?_;have hq:=OI h; subst hq;exact ⟨rfl,AM⟩
   ·rw [BV hb5] at h
    refine AT ?_
    let p3:Nat×AV:=(4,.v (.int .i64 (wr .i64 (c2 + 1))))
    refine DC AC [p2,p3] [] ?_;exact Aj (s1:=⟨Fr 22 [p2,p3],[]⟩) AM (ih (wr .i64 (c2 + 1)) h)
  ·rw [BV hb3] at h
   refine CA ?_;have hq:=OI h; subst hq;exact ⟨rfl,AM⟩
theorem S1 (x0:(List AH)) (r:Int×Int) (h:HX x0=some r):Sem E0 ⟨none,false⟩ Lp ⟨Fr 22 (A0 0 (Lv.enc (x0,()))),[]⟩ fun e s'=>(e = .normal\/e = .ret)/\∃ xs,Dz E0.P s'.fr s'.hp Tryz.f115.results.toList=some xs/\D0 xs=L6 r:=by
 unfold HX at h
 let p1:Nat×AV:=(0,.sl 5 (x0.map AA.enc))
 refine Ao (BL (s1:=⟨Fr 22 [p1],[]⟩) AM ?_);refine AK AC [p1] [] ?_;refine AG ?_;refine AG ?_;refine AL (s1:=⟨Fr 22 [p1,(8,.v (.bool (decide ((x0.length:Int) > 32))))],[]⟩) ?_ ?_
 ·refine AD (n:=22) AC 1 [p1,(6,.sl 5 (x0.map AA.enc))] [] kr ?_
  refine AW AC 0 rfl (DW (AB rfl) rfl (CO (a:= .sl 5 (x0.map AA.enc)) kr (BS (el:=60) kr))) ?_;exact AX AC
 refine AP (b:=(decide ((x0.length:Int) > 32))) kr (fun hb1=>?_) (fun hb1=>?_)
 ·rw [if_pos hb1] at h
  refine AK AC [(2,.v (.int .i64 0)),(3,.v (.int .i64 7))] [] ?_;refine AO ?_;have hq:=OI h; subst hq;exact ⟨⟨Fr 22 [(2,.v (.int .i64 0)),(3,.v (.int .i64 7))],[]⟩,AM,.inr rfl,[.v (.int .i64 0),.v (.int .i64 7)],kr,kr⟩
 ·rw [BV hb1] at h
  refine AT ?_;refine AG ?_
  let p2:Nat×AV:=(4,.v (.int .i64 0))
  refine AK AC [p1,p2] [] ?_;refine Aa ?_;obtain ⟨r8,hr8,h⟩:=OB h;refine CF (n:=100000) ?_;rcases r8 with w9 | w10
  ·try dsimp only at h
   refine A1 (Aj (s1:=⟨Fr 22 [p1,p2],[]⟩) AM (MR x0 _ 0 _ hr8)) ?_;refine AK AC [(2,.v (.int .i64 0)),(3,.v (.int .i64 0))] [] ?_;refine AO ?_;have hq:=OI h; subst hq;exact ⟨⟨Fr 22 [(2,.v (.int .i64 0)),(3,.v (.int .i64 0))],[]⟩,AM,.inr rfl,[.v (.int .i64 0),.v (.int .i64 0)],kr,kr⟩
  ·try dsimp only at h
   refine A1 (Aj (s1:=⟨Fr 22 [p1,p2],[]⟩) AM (MR x0 _ 0 _ hr8)) ?_;have hq:=OI h; subst hq;exact ⟨⟨Fr 22 [(2,.v (.int .i64 w10.1)),(3,.v (.int .i64 w10.2))],[]⟩,AM,.inr rfl,[.v (.int .i64 w10.1),.v (.int .i64 w10.2)],kr,kr⟩
def VU:List AV->Option AV:=Dm Lv (fun a=>HX a.1) L6
theorem QU:XOk 115 VU:=by
 refine AR Tryz.func115 (c:=Lp) ?h2 ⟨Tryz.call115⟩ Lv (fun a=>HX a.1) L6 (fun a=>(by show 1<=22; decide)) ?h3 ?h4
 case h2=>kernel_rfl
 case h3=>intro b; kernel_rfl
 case h4=>exact fun a b h=>S1 a.1 b h
/- trestle/trestleref03.all -/
noncomputable def Nm:Code:=A9 Tryz.f118
def Eg (x0:Int):Nat->(List Int)->Int->Option (((List Int)))
 | 0,_,_=>none
 | f + 1,c1,c2 =>
  if (decide (c2 < x0))=true then
  if (EC 8 (c1.length + 1))=true then
  Eg x0 f (c1++[c2]) (wr .i64 (c2 + 1))
  else none
  else
  some c1
def LI (x0:Int):Option ((List Int)) :=
 (Eg x0 100000 [] 0).bind fun r6 =>
 some r6
def Ns:Cs (Int×Unit):=(csC cdI csN)
def N3 (r:(List Int)):AV:=(cdL 1 cdI).enc r
theorem S5 (x0:Int):∀ (f:Nat) (c1:(List Int)) (c2:Int) (r:((List Int))),Eg x0 f c1 c2=some r->SemN E0 ⟨none,false⟩ (pc Nm [1,1,0,1,0,0]) f ⟨Fr 15 [(0,.v (.int .i64 x0)),(3,hd 0 (c1.map cdI.enc)),(4,.v (.int .i64 c2))],[mk 1 3 (c1.map cdI.enc)]⟩ (fun e s=>e=(.exit 0)/\Wk E0 s ⟨Fr 15 [(3,hd 0 (r.map cdI.enc))],[mk 1 3 (r.map cdI.enc)]⟩):=by
 intro f;induction f with
 | zero=>intro c1 c2 r h; cases h
 | succ f ih0 =>
  intro c1 c2 r h
  have ih:=fun (c1:(List Int)) (c2:Int)=>ih0 c1 c2 r
  unfold Eg at h;refine Bc ?_;refine AG ?_
  let p1:Nat×AV:=(4,.v (.int .i64 c2))
  let p2:Nat×AV:=(0,.v (.int .i64 x0))
  refine AK AC [p2,(3,hd 0 (c1.map cdI.enc)),p1,(7,.v (.bool (decide (c2 < x0))))] [mk 1 3 (c1.map cdI.enc)] ?_;refine AP (b:=(decide (c2 < x0))) kr (fun hb3=>?_) (fun hb3=>?_)
  ·rw [if_pos hb3] at h
   refine AT ?_;refine AG ?_;refine Aa ?_;by_cases hk4:(EC 8 (c1.length + 1))=true
   case neg=>rw [if_neg hk4] at h; cases h
   rw [if_pos hk4] at h
   let p3:Option Blk:=mk 1 3 ((c1++[c2]).map cdI.enc)
   let p4:Nat×AV:=(3,hd 0 ((c1++[c2]).map cdI.enc))
   refine AL (s1:=⟨Fr 15 [p2,p4,p1],[p3]⟩) ?_ ?_
   ·refine AD (n:=15) AC 3 [p2,p1,(10,hd 0 (c1.map cdI.enc)),(12,hd 1 ([c2].map cdI.enc))] [mk 1 3 (c1.map cdI.enc),mk 1 3 ([c2].map cdI.enc)] kr ?_
    refine AW AC 0 rfl (UX (AB rfl) rfl kr kr (Dg (a:=hd 0 (c1.map cdI.enc)) (b:=hd 1 ([c2].map cdI.enc)) kr kr (LN (c:=cdI) (xs:=c1) (vs:=[c2]) (k:=1) (bytes:=8) (el:=3) kr kr (GS (t:=3) kr) (List.cons_ne_nil _ _) kr hk4))) ?_;refine AD (n:=15) AC 1 [p2,(3,hd 2 ((c1++[c2]).map cdI.enc)),p1] [none,mk 1 3 ([c2].map cdI.enc),p3] kr ?_;exact AI rfl (Ac [2] ⟨⟨_,rfl,IL⟩,trivial⟩ ⟨lv,IM (b':=2) kr kr,lv,trivial⟩)
   let p5:Nat×AV:=(4,.v (.int .i64 (wr .i64 (c2 + 1))))
   refine DC AC [p2,p4,p5] [p3] ?_;exact Aj (s1:=⟨Fr 15 [p2,p4,p5],[p3]⟩) (Ac [0] ⟨⟨_,rfl,IL⟩,trivial⟩ ⟨lv,IM (b':=0) kr kr,lv,trivial⟩) (ih (c1++[c2]) (wr .i64 (c2 + 1)) h)
  ·rw [BV hb3] at h
   refine CA ?_;have hq:=OI h; subst hq;exact ⟨rfl,(Ac [0] ⟨⟨_,rfl,IL⟩,trivial⟩ ⟨IM (b':=0) kr kr,trivial⟩)⟩
theorem VC (x0:Int) (r:(List Int)) (h:LI x0=some r):Sem E0 ⟨none,false⟩ Nm ⟨Fr 15 (A0 0 (Ns.enc (x0,()))),[]⟩ fun e s'=>(e = .normal\/e = .ret)/\∃ xs,Dz E0.P s'.fr s'.hp Tryz.f118.results.toList=some xs/\D0 xs=N3 r:=by
 unfold LI at h
 let p1:Nat×AV:=(0,.v (.int .i64 x0))
 refine Ao (BL (s1:=⟨Fr 15 [p1],[]⟩) AM ?_);refine AK AC [p1] [] ?_;refine AK AC [p1,(3,.e0)] [] ?_;refine AG ?_
 let p2:Nat×AV:=(4,.v (.int .i64 0))
 refine AK AC [p1,(3,.e0),p2] [] ?_;refine Aa ?_;obtain ⟨r6,hr6,h⟩:=OB h;refine CF (n:=100000) ?_;refine A1 (Aj (s1:=⟨Fr 15 [p1,(3,hd 0 ([].map cdI.enc)),p2],[mk 1 3 ([].map cdI.enc)]⟩) (Wk.trans (s1:=⟨Fr 15 [p1,(3,hd 0 ([].map cdI.enc)),p2],[mk 1 3 ([].map cdI.enc)]⟩) Wk.none (Ac [0] ⟨⟨_,rfl,MX⟩,trivial⟩ ⟨lv,lv,lv,trivial⟩)) (S5 x0 _ [] 0 _ hr6)) ?_;refine AK AC [(2,hd 0 (r6.map cdI.enc))] [mk 1 3 (r6.map cdI.enc)] ?_;refine AO ?_;have hq:=OI h; subst hq;exact ⟨⟨Fr 15 [(2,.sl 1 (r6.map cdI.enc))],[]⟩,(Wk.trans (s1:=⟨Fr 15 [(2,.sl 1 (r6.map cdI.enc))],[none]⟩) (HH 0 (.inl kr) ⟨.inl rfl,trivial⟩ ⟨⟨hd 0 (r6.map cdI.enc),kr,V4 (t:=3) kr Nz⟩,trivial⟩) (Ac [] trivial ⟨lv,trivial⟩)),.inr rfl,[.sl 1 (r6.map cdI.enc)],kr,kr⟩
def XW:List AV->Option AV:=Dm Ns (fun a=>LI a.1) N3
theorem Xg:XOk 118 XW:=by
 refine AR Tryz.func118 (c:=Nm) ?h2 ⟨Tryz.call118⟩ Ns (fun a=>LI a.1) N3 (fun a=>(by show 1<=15; decide)) ?h3 ?h4
 case h2=>kernel_rfl
 case h3=>intro b; kernel_rfl
 case h4=>exact fun a b h=>VC a.1 b h
/- trestle/trestleref03.rank -/
noncomputable def Mc:Code:=A9 Tryz.f169
def F6 (x0:(List (List UInt8))) (x1:(List UInt8)):Nat->Int->Option ((Unit) ⊕ (Int))
 | 0,_=>none
 | f + 1,c1 =>
  if (decide (c1 < (x0.length:Int)))=true then
  (idx x0 c1).bind fun v3 =>
  if (v3==x1)=true then
  some (.inr c1)
  else
  F6 x0 x1 f (wr .i64 (c1 + 1))
  else
  some (.inl ())
def II (x0:(List (List UInt8))) (x1:(List UInt8)):Option (Int) :=
 (F6 x0 x1 100000 0).bind fun r6 =>
 match r6 with
 | (.inl _w7) =>
  some (x0.length:Int)
 | (.inr w8) =>
  some w8
def Mm:Cs ((List (List UInt8))×(List UInt8)×Unit):=(csC (cdL 1 cdS) (csC cdS csN))
def Mw (r:Int):AV:=cdI.enc r
theorem Nb (x0:(List (List UInt8))) (x1:(List UInt8)):∀ (f:Nat) (c1:Int) (r:(Unit) ⊕ (Int)),F6 x0 x1 f c1=some r->SemN E0 ⟨none,false⟩ (pc Mc [1,0,1,0,0]) f ⟨Fr 21 [(0,.sl 1 (x0.map cdS.enc)),(1,.st x1),(5,.v (.int .i64 c1))],[]⟩ (fun e s=>match r with
 | (.inl _w)=>e=(.exit 0)/\Wk E0 s ⟨Fr 21 [(0,.sl 1 (x0.map cdS.enc))],[]⟩
 | (.inr w)=>e = .ret/\Wk E0 s ⟨Fr 21 [(4,.v (.int .i64 w))],[]⟩):=by
 intro f;induction f with
 | zero=>intro c1 r h; cases h
 | succ f ih0 =>
  intro c1 r h
  have ih:=fun (c1:Int)=>ih0 c1 r
  unfold F6 at h;refine Bc ?_;refine AG ?_;refine AG ?_
  let p1:Nat×AV:=(5,.v (.int .i64 c1))
  let p2:Nat×AV:=(0,.sl 1 (x0.map cdS.enc))
  refine AL (s1:=⟨Fr 21 [p2,(1,.st x1),p1,(9,.v (.bool (decide (c1 < (x0.length:Int)))))],[]⟩) ?_ ?_
  ·refine AD (n:=21) AC 2 [p2,(1,.st x1),p1,(6,.v (.int .i64 c1)),(7,.sl 1 (x0.map cdS.enc))] [] kr ?_
   refine AW AC 0 rfl (DW (AB rfl) rfl (CO (a:= .sl 1 (x0.map cdS.enc)) kr (BS (el:=9) kr))) ?_;exact AX AC
  refine AP (b:=(decide (c1 < (x0.length:Int)))) kr (fun hb2=>?_) (fun hb2=>?_)
  ·rw [if_pos hb2] at h
   refine AT ?_;refine AG ?_;refine Aa ?_;refine AG ?_;obtain ⟨v3,hv3,h⟩:=OB h;refine AL (s1:=⟨Fr 21 [p2,(1,.st x1),p1,(17,.v (.bool (v3==x1)))],[]⟩) ?_ ?_
   ·refine AD (n:=21) AC 2 [p2,(1,.st x1),p1,(12,.sl 1 (x0.map cdS.enc)),(13,.v (.int .i64 c1))] [] kr ?_
    refine AW AC 0 rfl (DW (AB rfl) rfl (AS (a:= .sl 1 (x0.map cdS.enc)) (b:= .v (.int .i64 c1)) kr kr (DP (e:=cdS.enc) (el:=9) (k:=1) (ki:= .i64) kr kr hv3))) ?_;exact AX AC
   refine AP (b:=(v3==x1)) kr (fun hb4=>?_) (fun hb4=>?_)
   ·rw [if_pos hb4] at h
    refine AK AC [(4,.v (.int .i64 c1))] [] ?_;refine AO ?_;have hq:=OI h; subst hq;exact ⟨rfl,AM⟩
   ·rw [BV hb4] at h
    refine AT ?_
    let p3:Nat×AV:=(5,.v (.int .i64 (wr .i64 (c1 + 1))))
    refine DC AC [p2,(1,.st x1),p3] [] ?_;exact Aj (s1:=⟨Fr 21 [p2,(1,.st x1),p3],[]⟩) AM (ih (wr .i64 (c1 + 1)) h)
  ·rw [BV hb2] at h
   refine CA ?_;have hq:=OI h; subst hq;exact ⟨rfl,AM⟩
theorem T4 (x0:(List (List UInt8))) (x1:(List UInt8)) (r:Int) (h:II x0 x1=some r):Sem E0 ⟨none,false⟩ Mc ⟨Fr 21 (A0 0 (Mm.enc (x0,x1,()))),[]⟩ fun e s'=>(e = .normal\/e = .ret)/\∃ xs,Dz E0.P s'.fr s'.hp Tryz.f169.results.toList=some xs/\D0 xs=Mw r:=by
 unfold II at h
 let p1:Nat×AV:=(0,.sl 1 (x0.map cdS.enc))
 refine Ao (BL (s1:=⟨Fr 21 [p1,(1,.st x1)],[]⟩) AM ?_);refine AK AC [p1,(1,.st x1)] [] ?_;refine AG ?_
 let p2:Nat×AV:=(5,.v (.int .i64 0))
 refine AK AC [p1,(1,.st x1),p2] [] ?_;refine Aa ?_;obtain ⟨r6,hr6,h⟩:=OB h;refine CF (n:=100000) ?_;rcases r6 with w7 | w8
 ·try dsimp only at h
  refine A1 (Aj (s1:=⟨Fr 21 [p1,(1,.st x1),p2],[]⟩) AM (Nb x0 x1 _ 0 _ hr6)) ?_;refine AG ?_
  let p3:Nat×AV:=(4,.v (.int .i64 (x0.length:Int)))
  refine AL (s1:=⟨Fr 21 [p3],[]⟩) ?_ ?_
  ·refine AD (n:=21) AC 1 [(19,.sl 1 (x0.map cdS.enc))] [] kr ?_
   refine AW AC 0 rfl (DW (AB rfl) rfl (CO (a:= .sl 1 (x0.map cdS.enc)) kr (BS (el:=9) kr))) ?_;exact AX AC
  refine AO ?_;have hq:=OI h; subst hq;exact ⟨⟨Fr 21 [p3],[]⟩,AM,.inr rfl,[.v (.int .i64 (x0.length:Int))],kr,kr⟩
 ·try dsimp only at h
  refine A1 (Aj (s1:=⟨Fr 21 [p1,(1,.st x1),p2],[]⟩) AM (Nb x0 x1 _ 0 _ hr6)) ?_;have hq:=OI h; subst hq;exact ⟨⟨Fr 21 [(4,.v (.int .i64 w8))],[]⟩,AM,.inr rfl,[.v (.int .i64 w8)],kr,kr⟩
def WZ:List AV->Option AV:=Dm Mm (fun a=>II a.1 a.2.1) Mw
theorem RW:XOk 169 WZ:=by
 refine AR Tryz.func169 (c:=Mc) ?h2 ⟨Tryz.call169⟩ Mm (fun a=>II a.1 a.2.1) Mw (fun a=>(by show 2<=21; decide)) ?h3 ?h4
 case h2=>kernel_rfl
 case h3=>intro b; kernel_rfl
 case h4=>exact fun a b h=>T4 a.1 a.2.1 b h
/- trestle/trestleref03.key -/
noncomputable def RQ:Code:=A9 Tryz.f171
def LK (x0:Int) (x1:Int):Option (Int) :=
 some ((wr .i64 ((wr .i64 (x0 * (wr .i64 ((wr .i64 (x1 + x1)) + 1)))) + x1)).tmod 64)
def Nv:Cs (Int×Int×Unit):=(csC cdI (csC cdI csN))
def N6 (r:Int):AV:=cdI.enc r
theorem VE (x0:Int) (x1:Int) (r:Int) (h:LK x0 x1=some r):Sem E0 ⟨none,false⟩ RQ ⟨Fr 14 (A0 0 (Nv.enc (x0,x1,()))),[]⟩ fun e s'=>(e = .normal\/e = .ret)/\∃ xs,Dz E0.P s'.fr s'.hp Tryz.f171.results.toList=some xs/\D0 xs=N6 r:=by
 unfold LK at h;refine Ao (BL (s1:=⟨Fr 14 [(0,.v (.int .i64 x0)),(1,.v (.int .i64 x1))],[]⟩) AM ?_);refine AK AC [(0,.v (.int .i64 x0)),(1,.v (.int .i64 x1))] [] ?_
 let p1:Nat×AV:=(4,.v (.int .i64 ((wr .i64 ((wr .i64 (x0 * (wr .i64 ((wr .i64 (x1 + x1)) + 1)))) + x1)).tmod 64)))
 refine AK AC [p1] [] ?_;refine AO ?_;have hq:=OI h; subst hq;exact ⟨⟨Fr 14 [p1],[]⟩,AM,.inr rfl,[.v (.int .i64 ((wr .i64 ((wr .i64 (x0 * (wr .i64 ((wr .i64 (x1 + x1)) + 1)))) + x1)).tmod 64))],kr,kr⟩
def XY:List AV->Option AV:=Dm Nv (fun a=>LK a.1 a.2.1) N6
theorem To:XOk 171 XY:=by
 refine AR Tryz.func171 (c:=RQ) ?h2 ⟨Tryz.call171⟩ Nv (fun a=>LK a.1 a.2.1) N6 (fun a=>(by show 2<=14; decide)) ?h3 ?h4
 case h2=>kernel_rfl
 case h3=>intro b; kernel_rfl
 case h4=>exact fun a b h=>VE a.1 a.2.1 b h
/- trestle/trestleref03.named -/
noncomputable def Lr:Code:=A9 Tryz.f172
def FV (x0:AH) (x1:Af):Nat->Int->Option ((Unit) ⊕ (Bool))
 | 0,_=>none
 | f + 1,c5 =>
  if (decide (c5 < (x1.2.2.2.2.2.2.2.2.length:Int)))=true then
  (idx x1.2.2.2.2.2.2.2.2 c5).bind fun v7 =>
  (Hy x0.2.2.2.1 v7).bind fun v8 =>
  if v8=true then
  some (.inr true)
  else
  FV x0 x1 f (wr .i64 (c5 + 1))
  else
  some (.inl ())
def GD (x0:AH) (x1:Af):Option (Bool) :=
 if (x0.1==4)=true then
 some (x1.2.2.2.2.1==x0.2.2.2.2)
 else
 if (x0.1==5)=true then
 some x1.2.2.2.2.2.2.1
 else
 if (x0.1==7)=true then
 (Hy x0.2.2.2.1 x1.2.2.1).bind fun v4 =>
 some v4
 else
 (FV x0 x1 100000 0).bind fun r11 =>
 match r11 with
 | (.inl _w12) =>
  some false
 | (.inr w13) =>
  some w13
def Lz:Cs (AH×Af×Unit):=(csC AA (csC AE csN))
def L9 (r:Bool):AV:=cdB.enc r
theorem MS (x0:AH) (x1:Af):∀ (f:Nat) (c5:Int) (r:(Unit) ⊕ (Bool)),FV x0 x1 f c5=some r->SemN E0 ⟨none,false⟩ (pc Lr [1,1,0,1,0,0]) f ⟨Fr 41 [(2,.pt 0 0 0),(3,.pt 1 0 0),(5,.v (.int .i64 c5))],[some ⟨5,60,[AA.enc x0],false⟩,some ⟨9,42,[AE.enc x1],false⟩]⟩ (fun e s=>match r with
 | (.inl _w)=>e=(.exit 1)/\Wk E0 s ⟨Fr 41 [],[]⟩
 | (.inr w)=>e = .ret/\Wk E0 s ⟨Fr 41 [(4,.v (.bool w))],[]⟩):=by
 intro f;induction f with
 | zero=>intro c5 r h; cases h
 | succ f ih0 =>
  intro c5 r h
  have ih:=fun (c5:Int)=>ih0 c5 r
  unfold FV at h;refine Bc ?_;refine AG ?_;refine AG ?_
  let p1:Option Blk:=some ⟨9,42,[AE.enc x1],false⟩
  let p2:Option Blk:=some ⟨5,60,[AA.enc x0],false⟩
  let p3:Nat×AV:=(5,.v (.int .i64 c5))
  let p4:Nat×AV:=(3,.pt 1 0 0)
  let p5:Nat×AV:=(2,.pt 0 0 0)
  refine AL (s1:=⟨Fr 41 [p5,p4,p3,(30,.v (.bool (decide (c5 < (x1.2.2.2.2.2.2.2.2.length:Int)))))],[p2,p1]⟩) ?_ ?_
  ·refine AD (n:=41) AC 3 [p5,p4,p3,(26,.v (.int .i64 c5)),(28,.sl 1 (x1.2.2.2.2.2.2.2.2.map cdS.enc))] [p2,p1] kr ?_
   refine AW AC 0 rfl (DW (AB rfl) rfl (CO (a:= .sl 1 (x1.2.2.2.2.2.2.2.2.map cdS.enc)) kr (BS (el:=9) kr))) ?_;exact AX AC
  refine AP (b:=(decide (c5 < (x1.2.2.2.2.2.2.2.2.length:Int)))) kr (fun hb6=>?_) (fun hb6=>?_)
  ·rw [if_pos hb6] at h
   refine AT ?_;refine AG ?_;refine Aa ?_;refine AG ?_;obtain ⟨v7,hv7,h⟩:=OB h;obtain ⟨v8,hv8,h⟩:=OB h;refine C0 AC (s1:=⟨Fr 41 [p5,p4,p3,(40,.v (.bool v8))],[p2,p1]⟩) kr ?_ ?_
   ·refine AU (n:=41) AC 5 [p5,p4,p3,(34,.sl 1 (x0.2.2.2.1.map cdS.enc)),(36,.sl 1 (x1.2.2.2.2.2.2.2.2.map cdS.enc)),(37,.v (.int .i64 c5))] [p2,p1] kr kr ?_
    refine RunDS.one AC rfl kr (HF kr (AB rfl) rfl (AS (a:= .sl 1 (x1.2.2.2.2.2.2.2.2.map cdS.enc)) (b:= .v (.int .i64 c5)) kr kr (DP (e:=cdS.enc) (el:=9) (k:=1) (ki:= .i64) kr kr hv7)) kr) ?_;refine AU (n:=41) AC 1 [p5,p4,p3,(34,.sl 1 (x0.2.2.2.1.map cdS.enc)),(39,.st v7)] [p2,p1] kr kr ?_;refine BQ (caps:=[]) (xs:=[.sl 1 (x0.2.2.2.1.map cdS.enc),.st v7]) (u:=(x0.2.2.2.1,v7,())) rfl rfl NA rfl (AB rfl) kr kr (AJ (AQ (c:=(cdL 1 cdS)) (v:=x0.2.2.2.1)) (AJ (AQ (c:=cdS) (v:=v7)) Ah)) kr hv8 ?_;exact RunDS.done rfl (Ac [0,1] ⟨⟨_,rfl,GO⟩,⟨_,rfl,GO⟩,trivial⟩ ⟨lv,lv,lv,lv,trivial⟩)
   refine AP (b:=v8) kr (fun hb9=>?_) (fun hb9=>?_)
   ·rw [if_pos hb9] at h
    refine AG ?_;refine AL (s1:=⟨Fr 41 [(4,.v (.bool true))],[]⟩) ?_ ?_
    ·refine AD (n:=41) AC 1 [(4,.v (.bool true))] [p2,p1] kr ?_
     exact AI rfl (Ac [] trivial ⟨lv,trivial⟩)
    refine AO ?_;have hq:=OI h; subst hq;exact ⟨rfl,AM⟩
   ·rw [BV hb9] at h
    refine AT ?_
    let p6:Nat×AV:=(5,.v (.int .i64 (wr .i64 (c5 + 1))))
    refine DC AC [p5,p4,p6] [p2,p1] ?_;exact Aj (s1:=⟨Fr 41 [p5,p4,p6],[p2,p1]⟩) (Ac [0,1] ⟨⟨_,rfl,GO⟩,⟨_,rfl,GO⟩,trivial⟩ ⟨lv,lv,lv,trivial⟩) (ih (wr .i64 (c5 + 1)) h)
  ·rw [BV hb6] at h
   refine CA ?_;have hq:=OI h; subst hq;exact ⟨rfl,(Ac [] trivial trivial)⟩
theorem S7 (x0:AH) (x1:Af) (r:Bool) (h:GD x0 x1=some r):Sem E0 ⟨none,false⟩ Lr ⟨Fr 41 (A0 0 (Lz.enc (x0,x1,()))),[]⟩ fun e s'=>(e = .normal\/e = .ret)/\∃ xs,Dz E0.P s'.fr s'.hp Tryz.f172.results.toList=some xs/\D0 xs=L9 r:=by
 unfold GD at h;refine Ao (BL (s1:=⟨Fr 41 [(0,AA.enc x0),(1,AE.enc x1)],[]⟩) AM ?_)
 let p1:Option Blk:=some ⟨9,42,[AE.enc x1],false⟩
 let p2:Option Blk:=some ⟨5,60,[AA.enc x0],false⟩
 let p3:Nat×AV:=(3,.pt 1 0 0)
 let p4:Nat×AV:=(2,.pt 0 0 0)
 refine AK AC [p4,p3] [p2,p1] ?_;refine AG ?_
 let p5:Nat×AV:=(7,.v (.int .u8 x0.1))
 refine AK AC [p4,p3,p5] [p2,p1] ?_;refine Aa ?_;refine AK AC [p4,p3,p5,(8,.v (.bool (x0.1==4)))] [p2,p1] ?_;refine AP (b:=(x0.1==4)) kr (fun hb1=>?_) (fun hb1=>?_)
 ·rw [if_pos hb1] at h
  refine AG ?_
  let p6:Nat×AV:=(4,.v (.bool (x1.2.2.2.2.1==x0.2.2.2.2)))
  refine AL (s1:=⟨Fr 41 [p6],[]⟩) ?_ ?_
  ·refine AD (n:=41) AC 6 [p6] [p2,p1] kr ?_
   exact AI rfl (Ac [] trivial ⟨lv,trivial⟩)
  refine AO ?_;have hq:=OI h; subst hq;exact ⟨⟨Fr 41 [p6],[]⟩,AM,.inr rfl,[.v (.bool (x1.2.2.2.2.1==x0.2.2.2.2))],kr,kr⟩
 ·rw [BV hb1] at h
  refine AK AC [p4,p3,p5,(15,.v (.bool (x0.1==5)))] [p2,p1] ?_;refine AP (b:=(x0.1==5)) kr (fun hb2=>?_) (fun hb2=>?_)
  ·rw [if_pos hb2] at h
   refine AG ?_
   let p7:Nat×AV:=(4,.v (.bool x1.2.2.2.2.2.2.1))
   refine AL (s1:=⟨Fr 41 [p7],[]⟩) ?_ ?_
   ·refine AD (n:=41) AC 3 [p7] [p2,p1] kr ?_
    exact AI rfl (Ac [] trivial ⟨lv,trivial⟩)
   refine AO ?_;have hq:=OI h; subst hq;exact ⟨⟨Fr 41 [p7],[]⟩,AM,.inr rfl,[.v (.bool x1.2.2.2.2.2.2.1)],kr,kr⟩
  ·rw [BV hb2] at h
   refine AK AC [p4,p3,(19,.v (.bool (x0.1==7)))] [p2,p1] ?_;refine AP (b:=(x0.1==7)) kr (fun hb3=>?_) (fun hb3=>?_)
   ·rw [if_pos hb3] at h
    refine AG ?_;obtain ⟨v4,hv4,h⟩:=OB h;refine AL (s1:=⟨Fr 41 [(4,.v (.bool v4))],[]⟩) ?_ ?_
    ·refine AD (n:=41) AC 4 [(22,.sl 1 (x0.2.2.2.1.map cdS.enc)),(24,.st x1.2.2.1)] [p2,p1] kr ?_
     refine AN (caps:=[]) (xs:=[.sl 1 (x0.2.2.2.1.map cdS.enc),.st x1.2.2.1]) (u:=(x0.2.2.2.1,x1.2.2.1,())) rfl rfl NA rfl (AB rfl) kr kr (AJ (AQ (c:=(cdL 1 cdS)) (v:=x0.2.2.2.1)) (AJ (AQ (c:=cdS) (v:=x1.2.2.1)) Ah)) (.inl kr) hv4 ?_;refine AD (n:=41) AC 1 [(4,.v (.bool v4))] [p2,p1] kr ?_;exact AI rfl (Ac [] trivial ⟨lv,trivial⟩)
    refine AO ?_;have hq:=OI h; subst hq;exact ⟨⟨Fr 41 [(4,.v (.bool v4))],[]⟩,AM,.inr rfl,[.v (.bool v4)],kr,kr⟩
   ·rw [BV hb3] at h
    refine AT ?_;refine AG ?_
    let p8:Nat×AV:=(5,.v (.int .i64 0))
    refine AK AC [p4,p3,p8] [p2,p1] ?_;refine Aa ?_;obtain ⟨r11,hr11,h⟩:=OB h;refine CF (n:=100000) ?_;rcases r11 with w12 | w13
    ·try dsimp only at h
     refine A1 (Aj (s1:=⟨Fr 41 [p4,p3,p8],[p2,p1]⟩) (Ac [0,1] ⟨⟨_,rfl,GO⟩,⟨_,rfl,GO⟩,trivial⟩ ⟨lv,lv,lv,trivial⟩) (MS x0 x1 _ 0 _ hr11)) ?_;refine AK AC [(4,.v (.bool false))] [] ?_;refine AO ?_;have hq:=OI h; subst hq;exact ⟨⟨Fr 41 [(4,.v (.bool false))],[]⟩,AM,.inr rfl,[.v (.bool false)],kr,kr⟩
    ·try dsimp only at h
     refine A1 (Aj (s1:=⟨Fr 41 [p4,p3,p8],[p2,p1]⟩) (Ac [0,1] ⟨⟨_,rfl,GO⟩,⟨_,rfl,GO⟩,trivial⟩ ⟨lv,lv,lv,trivial⟩) (MS x0 x1 _ 0 _ hr11)) ?_;have hq:=OI h; subst hq;exact ⟨⟨Fr 41 [(4,.v (.bool w13))],[]⟩,AM,.inr rfl,[.v (.bool w13)],kr,kr⟩
def VY:List AV->Option AV:=Dm Lz (fun a=>GD a.1 a.2.1) L9
theorem KZ:XOk 172 VY:=by
 refine AR Tryz.func172 (c:=Lr) ?h2 ⟨Tryz.call172⟩ Lz (fun a=>GD a.1 a.2.1) L9 (fun a=>(by show 2<=41; decide)) ?h3 ?h4
 case h2=>kernel_rfl
 case h3=>intro b; kernel_rfl
 case h4=>exact fun a b h=>S7 a.1 a.2.1 b h
/- trestle/trestleref03.before -/
noncomputable def Nn:Code:=A9 Tryz.f151
def Gk (x0:AH) (x1:Af) (x2:Af) (x3:Int) (x4:Int):Option (Bool) :=
 if (x0.1==1)=true then
 (II x0.2.2.2.1 x1.2.1).bind fun v2 =>
 (II x0.2.2.2.1 x2.2.1).bind fun v3 =>
 some (decide (v2 < v3))
 else
 if (x0.1==2)=true then
 (if (x1.2.2.2.1 != 0)=true then if (x2.2.2.2.1==0)=true then some true else some (decide (x1.2.2.2.1 < x2.2.2.2.1)) else some false).bind fun j6 =>
 some j6
 else
 if (x0.1==3)=true then
 (if (x1.2.2.2.1 != 0)=true then if (x2.2.2.2.1==0)=true then some true else some (decide (x1.2.2.2.1 > x2.2.2.2.1)) else some false).bind fun j11 =>
 some j11
 else
 if (x0.1==8)=true then
 some (Go.Op.bytesLess x1.1 x2.1)
 else
 if (x0.1==9)=true then
 (BT x3 0 63).bind fun v16 =>
 (if v16=true then (BT x4 0 63).bind fun v17 =>
 if v17=true then some (decide (x3 < x4)) else some false else some false).bind fun j19 =>
 some j19
 else
 if (x0.1==10)=true then
 (BT x3 0 63).bind fun v23 =>
 (if v23=true then (BT x4 0 63).bind fun v24 =>
 if v24=true then (LK x3 x0.2.2.2.2).bind fun v25 =>
 (LK x4 x0.2.2.2.2).bind fun v26 =>
 some (decide (v25 < v26)) else some false else some false).bind fun j28 =>
 some j28
 else
 if x0.2.2.1=true then
 (GD x0 x1).bind fun v32 =>
 (if (!v32)=true then (GD x0 x2).bind fun v33 =>
 some v33 else some false).bind fun j35 =>
 some j35
 else
 (GD x0 x1).bind fun v37 =>
 (if v37=true then (GD x0 x2).bind fun v38 =>
 some (!v38) else some false).bind fun j40 =>
 some j40
def Kw:Cs (AH×Af×Af×Int×Int×Unit):=(csC AA (csC AE (csC AE (csC cdI (csC cdI csN)))))
def K6 (r:Bool):AV:=cdB.enc r
theorem Rm (x0:AH) (x1:Af) (x2:Af) (x3:Int) (x4:Int) (r:Bool) (h:Gk x0 x1 x2 x3 x4=some r):Sem E0 ⟨none,false⟩ Nn ⟨Fr 119 (A0 0 (Kw.enc (x0,x1,x2,x3,x4,()))),[]⟩ fun e s'=>(e = .normal\/e = .ret)/\∃ xs,Dz E0.P s'.fr s'.hp Tryz.f151.results.toList=some xs/\D0 xs=K6 r:=by
 unfold Gk at h;refine Ao (BL (s1:=⟨Fr 119 [(0,AA.enc x0),(1,AE.enc x1),(2,AE.enc x2),(3,.v (.int .i64 x3)),(4,.v (.int .i64 x4))],[]⟩) AM ?_);refine AK AC [(3,.v (.int .i64 x3)),(4,.v (.int .i64 x4)),(5,.pt 0 0 0),(6,.pt 1 0 0),(7,.pt 2 0 0)] [some ⟨5,60,[AA.enc x0],false⟩,some ⟨9,42,[AE.enc x1],false⟩,some ⟨9,42,[AE.enc x2],false⟩] ?_;refine AG ?_;refine AK AC [(3,.v (.int .i64 x3)),(4,.v (.int .i64 x4)),(5,.pt 0 0 0),(6,.pt 1 0 0),(7,.pt 2 0 0),(12,.v (.int .u8 x0.1))] [some ⟨5,60,[AA.enc x0],false⟩,some ⟨9,42,[AE.enc x1],false⟩,some ⟨9,42,[AE.enc x2],false⟩] ?_;refine Aa ?_;refine AK AC [(3,.v (.int .i64 x3)),(4,.v (.int .i64 x4)),(5,.pt 0 0 0),(6,.pt 1 0 0),(7,.pt 2 0 0),(12,.v (.int .u8 x0.1)),(13,.v (.bool (x0.1==1)))] [some ⟨5,60,[AA.enc x0],false⟩,some ⟨9,42,[AE.enc x1],false⟩,some ⟨9,42,[AE.enc x2],false⟩] ?_;refine AP (b:=(x0.1==1)) kr (fun hb1=>?_) (fun hb1=>?_)
 ·rw [if_pos hb1] at h
  refine AG ?_;obtain ⟨v2,hv2,h⟩:=OB h;obtain ⟨v3,hv3,h⟩:=OB h;refine C0 AC (s1:=⟨Fr 119 [(10,.v (.bool (decide (v2 < v3))))],[]⟩) kr ?_ ?_
  ·refine AU (n:=119) AC 4 [(5,.pt 0 0 0),(7,.pt 2 0 0),(16,.sl 1 (x0.2.2.2.1.map cdS.enc)),(18,.st x1.2.1)] [some ⟨5,60,[AA.enc x0],false⟩,some ⟨9,42,[AE.enc x1],false⟩,some ⟨9,42,[AE.enc x2],false⟩] kr kr ?_
   refine BQ (caps:=[]) (xs:=[.sl 1 (x0.2.2.2.1.map cdS.enc),.st x1.2.1]) (u:=(x0.2.2.2.1,x1.2.1,())) rfl rfl RW rfl (AB rfl) kr kr (AJ (AQ (c:=(cdL 1 cdS)) (v:=x0.2.2.2.1)) (AJ (AQ (c:=cdS) (v:=x1.2.1)) Ah)) kr hv2 ?_;refine AU (n:=119) AC 4 [(19,.v (.int .i64 v2)),(21,.sl 1 (x0.2.2.2.1.map cdS.enc)),(23,.st x2.2.1)] [some ⟨5,60,[AA.enc x0],false⟩,some ⟨9,42,[AE.enc x1],false⟩,some ⟨9,42,[AE.enc x2],false⟩] kr kr ?_;refine BQ (caps:=[]) (xs:=[.sl 1 (x0.2.2.2.1.map cdS.enc),.st x2.2.1]) (u:=(x0.2.2.2.1,x2.2.1,())) rfl rfl RW rfl (AB rfl) kr kr (AJ (AQ (c:=(cdL 1 cdS)) (v:=x0.2.2.2.1)) (AJ (AQ (c:=cdS) (v:=x2.2.1)) Ah)) kr hv3 ?_;refine AU (n:=119) AC 2 [(10,.v (.bool (decide (v2 < v3))))] [some ⟨5,60,[AA.enc x0],false⟩,some ⟨9,42,[AE.enc x1],false⟩,some ⟨9,42,[AE.enc x2],false⟩] kr kr ?_;exact RunDS.done rfl (Ac [] trivial ⟨lv,trivial⟩)
  refine AO ?_;have hq:=OI h; subst hq;exact ⟨⟨Fr 119 [(10,.v (.bool (decide (v2 < v3))))],[]⟩,AM,.inr rfl,[.v (.bool (decide (v2 < v3)))],kr,kr⟩
 ·rw [BV hb1] at h
  refine AK AC [(3,.v (.int .i64 x3)),(4,.v (.int .i64 x4)),(5,.pt 0 0 0),(6,.pt 1 0 0),(7,.pt 2 0 0),(12,.v (.int .u8 x0.1)),(26,.v (.bool (x0.1==2)))] [some ⟨5,60,[AA.enc x0],false⟩,some ⟨9,42,[AE.enc x1],false⟩,some ⟨9,42,[AE.enc x2],false⟩] ?_;refine AP (b:=(x0.1==2)) kr (fun hb4=>?_) (fun hb4=>?_)
  ·rw [if_pos hb4] at h
   refine AG ?_;obtain ⟨j6,hj6,h⟩:=OB h;refine AL (s1:=⟨Fr 119 [(10,.v (.bool j6))],[]⟩) ?_ ?_
   ·refine AD (n:=119) AC 4 [(6,.pt 1 0 0),(7,.pt 2 0 0),(31,.v (.bool (x1.2.2.2.1 != 0)))] [some ⟨5,60,[AA.enc x0],false⟩,some ⟨9,42,[AE.enc x1],false⟩,some ⟨9,42,[AE.enc x2],false⟩] kr ?_
    rcases BE (x1.2.2.2.1 != 0) with hc7 | hc7
    ·rw [if_pos hc7] at hj6
     rw [hc7];refine AD (n:=119) AC 4 [(6,.pt 1 0 0),(7,.pt 2 0 0),(31,.v (.bool true)),(35,.v (.bool (x2.2.2.2.1==0)))] [some ⟨5,60,[AA.enc x0],false⟩,some ⟨9,42,[AE.enc x1],false⟩,some ⟨9,42,[AE.enc x2],false⟩] kr ?_;rcases BE (x2.2.2.2.1==0) with hc8 | hc8
     ·rw [if_pos hc8] at hj6
      rw [hc8];refine AD (n:=119) AC 8 [(10,.v (.bool true))] [some ⟨5,60,[AA.enc x0],false⟩,some ⟨9,42,[AE.enc x1],false⟩,some ⟨9,42,[AE.enc x2],false⟩] kr ?_;have hq:=OI hj6; subst hq;exact AI rfl (Ac [] trivial ⟨lv,trivial⟩)
     ·rw [BV hc8] at hj6
      rw [hc8];refine AD (n:=119) AC 8 [(10,.v (.bool (decide (x1.2.2.2.1 < x2.2.2.2.1))))] [some ⟨5,60,[AA.enc x0],false⟩,some ⟨9,42,[AE.enc x1],false⟩,some ⟨9,42,[AE.enc x2],false⟩] kr ?_;have hq:=OI hj6; subst hq;exact AI rfl (Ac [] trivial ⟨lv,trivial⟩)
    ·rw [BV hc7] at hj6
     rw [hc7];refine AD (n:=119) AC 12 [(10,.v (.bool false))] [some ⟨5,60,[AA.enc x0],false⟩,some ⟨9,42,[AE.enc x1],false⟩,some ⟨9,42,[AE.enc x2],false⟩] kr ?_;have hq:=OI hj6; subst hq;exact AI rfl (Ac [] trivial ⟨lv,trivial⟩)
   refine AO ?_;have hq:=OI h; subst hq;exact ⟨⟨Fr 119 [(10,.v (.bool j6))],[]⟩,AM,.inr rfl,[.v (.bool j6)],kr,kr⟩
  ·rw [BV hb4] at h
   refine AK AC [(3,.v (.int .i64 x3)),(4,.v (.int .i64 x4)),(5,.pt 0 0 0),(6,.pt 1 0 0),(7,.pt 2 0 0),(12,.v (.int .u8 x0.1)),(43,.v (.bool (x0.1==3)))] [some ⟨5,60,[AA.enc x0],false⟩,some ⟨9,42,[AE.enc x1],false⟩,some ⟨9,42,[AE.enc x2],false⟩] ?_;refine AP (b:=(x0.1==3)) kr (fun hb9=>?_) (fun hb9=>?_)
   ·rw [if_pos hb9] at h
    refine AG ?_;obtain ⟨j11,hj11,h⟩:=OB h;refine AL (s1:=⟨Fr 119 [(10,.v (.bool j11))],[]⟩) ?_ ?_
    ·refine AD (n:=119) AC 4 [(6,.pt 1 0 0),(7,.pt 2 0 0),(48,.v (.bool (x1.2.2.2.1 != 0)))] [some ⟨5,60,[AA.enc x0],false⟩,some ⟨9,42,[AE.enc x1],false⟩,some ⟨9,42,[AE.enc x2],false⟩] kr ?_
     rcases BE (x1.2.2.2.1 != 0) with hc12 | hc12
     ·rw [if_pos hc12] at hj11
      rw [hc12];refine AD (n:=119) AC 4 [(6,.pt 1 0 0),(7,.pt 2 0 0),(48,.v (.bool true)),(52,.v (.bool (x2.2.2.2.1==0)))] [some ⟨5,60,[AA.enc x0],false⟩,some ⟨9,42,[AE.enc x1],false⟩,some ⟨9,42,[AE.enc x2],false⟩] kr ?_;rcases BE (x2.2.2.2.1==0) with hc13 | hc13
      ·rw [if_pos hc13] at hj11
       rw [hc13];refine AD (n:=119) AC 8 [(10,.v (.bool true))] [some ⟨5,60,[AA.enc x0],false⟩,some ⟨9,42,[AE.enc x1],false⟩,some ⟨9,42,[AE.enc x2],false⟩] kr ?_;have hq:=OI hj11; subst hq;exact AI rfl (Ac [] trivial ⟨lv,trivial⟩)
      ·rw [BV hc13] at hj11
       rw [hc13];refine AD (n:=119) AC 8 [(10,.v (.bool (decide (x1.2.2.2.1 > x2.2.2.2.1))))] [some ⟨5,60,[AA.enc x0],false⟩,some ⟨9,42,[AE.enc x1],false⟩,some ⟨9,42,[AE.enc x2],false⟩] kr ?_;have hq:=OI hj11; subst hq;exact AI rfl (Ac [] trivial ⟨lv,trivial⟩)
     ·rw [BV hc12] at hj11
      rw [hc12];refine AD (n:=119) AC 12 [(10,.v (.bool false))] [some ⟨5,60,[AA.enc x0],false⟩,some ⟨9,42,[AE.enc x1],false⟩,some ⟨9,42,[AE.enc x2],false⟩] kr ?_;have hq:=OI hj11; subst hq;exact AI rfl (Ac [] trivial ⟨lv,trivial⟩)
    refine AO ?_;have hq:=OI h; subst hq;exact ⟨⟨Fr 119 [(10,.v (.bool j11))],[]⟩,AM,.inr rfl,[.v (.bool j11)],kr,kr⟩
   ·rw [BV hb9] at h
    refine AK AC [(3,.v (.int .i64 x3)),(4,.v (.int .i64 x4)),(5,.pt 0 0 0),(6,.pt 1 0 0),(7,.pt 2 0 0),(12,.v (.int .u8 x0.1)),(60,.v (.bool (x0.1==8)))] [some ⟨5,60,[AA.enc x0],false⟩,some ⟨9,42,[AE.enc x1],false⟩,some ⟨9,42,[AE.enc x2],false⟩] ?_;refine AP (b:=(x0.1==8)) kr (fun hb14=>?_) (fun hb14=>?_)
    ·rw [if_pos hb14] at h
     refine AG ?_;refine AL (s1:=⟨Fr 119 [(10,.v (.bool (Go.Op.bytesLess x1.1 x2.1)))],[]⟩) ?_ ?_
     ·refine AD (n:=119) AC 6 [(10,.v (.bool (Go.Op.bytesLess x1.1 x2.1)))] [some ⟨5,60,[AA.enc x0],false⟩,some ⟨9,42,[AE.enc x1],false⟩,some ⟨9,42,[AE.enc x2],false⟩] kr ?_
      exact AI rfl (Ac [] trivial ⟨lv,trivial⟩)
     refine AO ?_;have hq:=OI h; subst hq;exact ⟨⟨Fr 119 [(10,.v (.bool (Go.Op.bytesLess x1.1 x2.1)))],[]⟩,AM,.inr rfl,[.v (.bool (Go.Op.bytesLess x1.1 x2.1))],kr,kr⟩
    ·rw [BV hb14] at h
     refine AK AC [(3,.v (.int .i64 x3)),(4,.v (.int .i64 x4)),(5,.pt 0 0 0),(6,.pt 1 0 0),(7,.pt 2 0 0),(12,.v (.int .u8 x0.1)),(67,.v (.bool (x0.1==9)))] [some ⟨5,60,[AA.enc x0],false⟩,some ⟨9,42,[AE.enc x1],false⟩,some ⟨9,42,[AE.enc x2],false⟩] ?_;refine AP (b:=(x0.1==9)) kr (fun hb15=>?_) (fun hb15=>?_)
     ·rw [if_pos hb15] at h
      refine AG ?_;obtain ⟨v16,hv16,h⟩:=OB h;obtain ⟨j19,hj19,h⟩:=OB h;refine AL (s1:=⟨Fr 119 [(10,.v (.bool j19))],[]⟩) ?_ ?_
      ·refine AD (n:=119) AC 1 [(3,.v (.int .i64 x3)),(4,.v (.int .i64 x4)),(69,.v (.int .i64 x3))] [some ⟨5,60,[AA.enc x0],false⟩,some ⟨9,42,[AE.enc x1],false⟩,some ⟨9,42,[AE.enc x2],false⟩] kr ?_
       refine AN (caps:=[]) (xs:=[.v (.int .i64 x3),.v (.int .i64 0),.v (.int .i64 63)]) (u:=(x3,0,63,())) rfl rfl El rfl (AB rfl) kr kr (AJ (AQ (c:=cdI) (v:=x3)) (AJ (AQ (c:=cdI) (v:=0)) (AJ (AQ (c:=cdI) (v:=63)) Ah))) (.inl kr) hv16 ?_;refine AD (n:=119) AC 1 [(3,.v (.int .i64 x3)),(4,.v (.int .i64 x4)),(71,.v (.bool v16))] [some ⟨5,60,[AA.enc x0],false⟩,some ⟨9,42,[AE.enc x1],false⟩,some ⟨9,42,[AE.enc x2],false⟩] kr ?_;rcases BE v16 with hc20 | hc20
       ·rw [if_pos hc20] at hj19
        rw [hc20];refine AD (n:=119) AC 1 [(3,.v (.int .i64 x3)),(4,.v (.int .i64 x4)),(71,.v (.bool true)),(72,.v (.int .i64 x4))] [some ⟨5,60,[AA.enc x0],false⟩,some ⟨9,42,[AE.enc x1],false⟩,some ⟨9,42,[AE.enc x2],false⟩] kr ?_;obtain ⟨v17,hv17,hj19⟩:=OB hj19;refine AN (caps:=[]) (xs:=[.v (.int .i64 x4),.v (.int .i64 0),.v (.int .i64 63)]) (u:=(x4,0,63,())) rfl rfl El rfl kr kr kr (AJ (AQ (c:=cdI) (v:=x4)) (AJ (AQ (c:=cdI) (v:=0)) (AJ (AQ (c:=cdI) (v:=63)) Ah))) (.inl kr) hv17 ?_;refine AD (n:=119) AC 2 [(3,.v (.int .i64 x3)),(4,.v (.int .i64 x4)),(75,.v (.bool v17))] [some ⟨5,60,[AA.enc x0],false⟩,some ⟨9,42,[AE.enc x1],false⟩,some ⟨9,42,[AE.enc x2],false⟩] kr ?_;rcases BE v17 with hc21 | hc21
        ·rw [if_pos hc21] at hj19
         rw [hc21];refine AD (n:=119) AC 5 [(10,.v (.bool (decide (x3 < x4))))] [some ⟨5,60,[AA.enc x0],false⟩,some ⟨9,42,[AE.enc x1],false⟩,some ⟨9,42,[AE.enc x2],false⟩] kr ?_;have hq:=OI hj19; subst hq;exact AI rfl (Ac [] trivial ⟨lv,trivial⟩)
        ·rw [BV hc21] at hj19
         rw [hc21];refine AD (n:=119) AC 5 [(10,.v (.bool false))] [some ⟨5,60,[AA.enc x0],false⟩,some ⟨9,42,[AE.enc x1],false⟩,some ⟨9,42,[AE.enc x2],false⟩] kr ?_;have hq:=OI hj19; subst hq;exact AI rfl (Ac [] trivial ⟨lv,trivial⟩)
       ·rw [BV hc20] at hj19
        rw [hc20];refine AD (n:=119) AC 9 [(10,.v (.bool false))] [some ⟨5,60,[AA.enc x0],false⟩,some ⟨9,42,[AE.enc x1],false⟩,some ⟨9,42,[AE.enc x2],false⟩] kr ?_;have hq:=OI hj19; subst hq;exact AI rfl (Ac [] trivial ⟨lv,trivial⟩)
      refine AO ?_;have hq:=OI h; subst hq;exact ⟨⟨Fr 119 [(10,.v (.bool j19))],[]⟩,AM,.inr rfl,[.v (.bool j19)],kr,kr⟩
     ·rw [BV hb15] at h
      refine AK AC [(3,.v (.int .i64 x3)),(4,.v (.int .i64 x4)),(5,.pt 0 0 0),(6,.pt 1 0 0),(7,.pt 2 0 0),(80,.v (.bool (x0.1==10)))] [some ⟨5,60,[AA.enc x0],false⟩,some ⟨9,42,[AE.enc x1],false⟩,some ⟨9,42,[AE.enc x2],false⟩] ?_;refine AP (b:=(x0.1==10)) kr (fun hb22=>?_) (fun hb22=>?_)
      ·rw [if_pos hb22] at h
       refine AG ?_;obtain ⟨v23,hv23,h⟩:=OB h;obtain ⟨j28,hj28,h⟩:=OB h;refine C0 AC (s1:=⟨Fr 119 [(10,.v (.bool j28))],[]⟩) kr ?_ ?_
       ·refine AU (n:=119) AC 1 [(3,.v (.int .i64 x3)),(4,.v (.int .i64 x4)),(5,.pt 0 0 0),(82,.v (.int .i64 x3))] [some ⟨5,60,[AA.enc x0],false⟩,some ⟨9,42,[AE.enc x1],false⟩,some ⟨9,42,[AE.enc x2],false⟩] kr kr ?_
        refine BQ (caps:=[]) (xs:=[.v (.int .i64 x3),.v (.int .i64 0),.v (.int .i64 63)]) (u:=(x3,0,63,())) rfl rfl El rfl (AB rfl) kr kr (AJ (AQ (c:=cdI) (v:=x3)) (AJ (AQ (c:=cdI) (v:=0)) (AJ (AQ (c:=cdI) (v:=63)) Ah))) kr hv23 ?_;refine AU (n:=119) AC 1 [(3,.v (.int .i64 x3)),(4,.v (.int .i64 x4)),(5,.pt 0 0 0),(84,.v (.bool v23))] [some ⟨5,60,[AA.enc x0],false⟩,some ⟨9,42,[AE.enc x1],false⟩,some ⟨9,42,[AE.enc x2],false⟩] kr kr ?_;rcases BE v23 with hc29 | hc29
        ·rw [if_pos hc29] at hj28
         rw [hc29];refine AU (n:=119) AC 1 [(3,.v (.int .i64 x3)),(4,.v (.int .i64 x4)),(5,.pt 0 0 0),(84,.v (.bool true)),(85,.v (.int .i64 x4))] [some ⟨5,60,[AA.enc x0],false⟩,some ⟨9,42,[AE.enc x1],false⟩,some ⟨9,42,[AE.enc x2],false⟩] kr kr ?_;obtain ⟨v24,hv24,hj28⟩:=OB hj28;refine BQ (caps:=[]) (xs:=[.v (.int .i64 x4),.v (.int .i64 0),.v (.int .i64 63)]) (u:=(x4,0,63,())) rfl rfl El rfl kr kr kr (AJ (AQ (c:=cdI) (v:=x4)) (AJ (AQ (c:=cdI) (v:=0)) (AJ (AQ (c:=cdI) (v:=63)) Ah))) kr hv24 ?_;refine AU (n:=119) AC 2 [(3,.v (.int .i64 x3)),(4,.v (.int .i64 x4)),(5,.pt 0 0 0),(88,.v (.bool v24))] [some ⟨5,60,[AA.enc x0],false⟩,some ⟨9,42,[AE.enc x1],false⟩,some ⟨9,42,[AE.enc x2],false⟩] kr kr ?_;rcases BE v24 with hc30 | hc30
         ·rw [if_pos hc30] at hj28
          rw [hc30];refine AU (n:=119) AC 3 [(4,.v (.int .i64 x4)),(5,.pt 0 0 0),(88,.v (.bool true)),(89,.v (.int .i64 x3)),(91,.v (.int .i64 x0.2.2.2.2))] [some ⟨5,60,[AA.enc x0],false⟩,some ⟨9,42,[AE.enc x1],false⟩,some ⟨9,42,[AE.enc x2],false⟩] kr kr ?_;obtain ⟨v25,hv25,hj28⟩:=OB hj28;refine BQ (caps:=[]) (xs:=[.v (.int .i64 x3),.v (.int .i64 x0.2.2.2.2)]) (u:=(x3,x0.2.2.2.2,())) rfl rfl To rfl kr kr kr (AJ (AQ (c:=cdI) (v:=x3)) (AJ (AQ (c:=cdI) (v:=x0.2.2.2.2)) Ah)) kr hv25 ?_;refine AU (n:=119) AC 3 [(88,.v (.bool true)),(92,.v (.int .i64 v25)),(93,.v (.int .i64 x4)),(95,.v (.int .i64 x0.2.2.2.2))] [some ⟨5,60,[AA.enc x0],false⟩,some ⟨9,42,[AE.enc x1],false⟩,some ⟨9,42,[AE.enc x2],false⟩] kr kr ?_;obtain ⟨v26,hv26,hj28⟩:=OB hj28;refine BQ (caps:=[]) (xs:=[.v (.int .i64 x4),.v (.int .i64 x0.2.2.2.2)]) (u:=(x4,x0.2.2.2.2,())) rfl rfl To rfl kr kr kr (AJ (AQ (c:=cdI) (v:=x4)) (AJ (AQ (c:=cdI) (v:=x0.2.2.2.2)) Ah)) kr hv26 ?_;refine AU (n:=119) AC 3 [(10,.v (.bool (decide (v25 < v26))))] [some ⟨5,60,[AA.enc x0],false⟩,some ⟨9,42,[AE.enc x1],false⟩,some ⟨9,42,[AE.enc x2],false⟩] kr kr ?_;have hq:=OI hj28; subst hq;exact RunDS.done rfl (Ac [] trivial ⟨lv,trivial⟩)
         ·rw [BV hc30] at hj28
          rw [hc30];refine AU (n:=119) AC 11 [(10,.v (.bool false))] [some ⟨5,60,[AA.enc x0],false⟩,some ⟨9,42,[AE.enc x1],false⟩,some ⟨9,42,[AE.enc x2],false⟩] kr kr ?_;have hq:=OI hj28; subst hq;exact RunDS.done rfl (Ac [] trivial ⟨lv,trivial⟩)
        ·rw [BV hc29] at hj28
         rw [hc29];refine AU (n:=119) AC 15 [(10,.v (.bool false))] [some ⟨5,60,[AA.enc x0],false⟩,some ⟨9,42,[AE.enc x1],false⟩,some ⟨9,42,[AE.enc x2],false⟩] kr kr ?_;have hq:=OI hj28; subst hq;exact RunDS.done rfl (Ac [] trivial ⟨lv,trivial⟩)
       refine AO ?_;have hq:=OI h; subst hq;exact ⟨⟨Fr 119 [(10,.v (.bool j28))],[]⟩,AM,.inr rfl,[.v (.bool j28)],kr,kr⟩
      ·rw [BV hb22] at h
       refine AT ?_;refine AG ?_;refine AK AC [(5,.pt 0 0 0),(6,.pt 1 0 0),(7,.pt 2 0 0),(100,.v (.bool x0.2.2.1))] [some ⟨5,60,[AA.enc x0],false⟩,some ⟨9,42,[AE.enc x1],false⟩,some ⟨9,42,[AE.enc x2],false⟩] ?_;refine AP (b:=x0.2.2.1) kr (fun hb31=>?_) (fun hb31=>?_)
       ·rw [if_pos hb31] at h
        refine AG ?_;obtain ⟨v32,hv32,h⟩:=OB h;obtain ⟨j35,hj35,h⟩:=OB h;refine AL (s1:=⟨Fr 119 [(10,.v (.bool j35))],[]⟩) ?_ ?_
        ·refine AD (n:=119) AC 2 [(5,.pt 0 0 0),(7,.pt 2 0 0),(101,AA.enc x0),(102,AE.enc x1)] [some ⟨5,60,[AA.enc x0],false⟩,some ⟨9,42,[AE.enc x1],false⟩,some ⟨9,42,[AE.enc x2],false⟩] kr ?_
         refine AN (caps:=[]) (xs:=[AA.enc x0,AE.enc x1]) (u:=(x0,x1,())) rfl rfl KZ rfl (AB rfl) kr kr (AJ (AQ (c:=AA) (v:=x0)) (AJ (AQ (c:=AE) (v:=x1)) Ah)) (.inl kr) hv32 ?_;refine AD (n:=119) AC 2 [(5,.pt 0 0 0),(7,.pt 2 0 0),(105,.v (.bool (!v32)))] [some ⟨5,60,[AA.enc x0],false⟩,some ⟨9,42,[AE.enc x1],false⟩,some ⟨9,42,[AE.enc x2],false⟩] kr ?_;rcases BE (!v32) with hc36 | hc36
         ·rw [if_pos hc36] at hj35
          rw [hc36];refine AD (n:=119) AC 2 [(105,.v (.bool true)),(106,AA.enc x0),(107,AE.enc x2)] [some ⟨5,60,[AA.enc x0],false⟩,some ⟨9,42,[AE.enc x1],false⟩,some ⟨9,42,[AE.enc x2],false⟩] kr ?_;obtain ⟨v33,hv33,hj35⟩:=OB hj35;refine AN (caps:=[]) (xs:=[AA.enc x0,AE.enc x2]) (u:=(x0,x2,())) rfl rfl KZ rfl kr kr kr (AJ (AQ (c:=AA) (v:=x0)) (AJ (AQ (c:=AE) (v:=x2)) Ah)) (.inl kr) hv33 ?_;refine AD (n:=119) AC 2 [(10,.v (.bool v33))] [some ⟨5,60,[AA.enc x0],false⟩,some ⟨9,42,[AE.enc x1],false⟩,some ⟨9,42,[AE.enc x2],false⟩] kr ?_;have hq:=OI hj35; subst hq;exact AI rfl (Ac [] trivial ⟨lv,trivial⟩)
         ·rw [BV hc36] at hj35
          rw [hc36];refine AD (n:=119) AC 5 [(10,.v (.bool false))] [some ⟨5,60,[AA.enc x0],false⟩,some ⟨9,42,[AE.enc x1],false⟩,some ⟨9,42,[AE.enc x2],false⟩] kr ?_;have hq:=OI hj35; subst hq;exact AI rfl (Ac [] trivial ⟨lv,trivial⟩)
        refine AO ?_;have hq:=OI h; subst hq;exact ⟨⟨Fr 119 [(10,.v (.bool j35))],[]⟩,AM,.inr rfl,[.v (.bool j35)],kr,kr⟩
       ·rw [BV hb31] at h
        refine AT ?_;refine AG ?_;obtain ⟨v37,hv37,h⟩:=OB h;obtain ⟨j40,hj40,h⟩:=OB h;refine AL (s1:=⟨Fr 119 [(10,.v (.bool j40))],[]⟩) ?_ ?_
        ·refine AD (n:=119) AC 2 [(5,.pt 0 0 0),(7,.pt 2 0 0),(110,AA.enc x0),(111,AE.enc x1)] [some ⟨5,60,[AA.enc x0],false⟩,some ⟨9,42,[AE.enc x1],false⟩,some ⟨9,42,[AE.enc x2],false⟩] kr ?_
         refine AN (caps:=[]) (xs:=[AA.enc x0,AE.enc x1]) (u:=(x0,x1,())) rfl rfl KZ rfl (AB rfl) kr kr (AJ (AQ (c:=AA) (v:=x0)) (AJ (AQ (c:=AE) (v:=x1)) Ah)) (.inl kr) hv37 ?_;refine AD (n:=119) AC 1 [(5,.pt 0 0 0),(7,.pt 2 0 0),(113,.v (.bool v37))] [some ⟨5,60,[AA.enc x0],false⟩,some ⟨9,42,[AE.enc x1],false⟩,some ⟨9,42,[AE.enc x2],false⟩] kr ?_;rcases BE v37 with hc41 | hc41
         ·rw [if_pos hc41] at hj40
          rw [hc41];refine AD (n:=119) AC 2 [(113,.v (.bool true)),(114,AA.enc x0),(115,AE.enc x2)] [some ⟨5,60,[AA.enc x0],false⟩,some ⟨9,42,[AE.enc x1],false⟩,some ⟨9,42,[AE.enc x2],false⟩] kr ?_;obtain ⟨v38,hv38,hj40⟩:=OB hj40;refine AN (caps:=[]) (xs:=[AA.enc x0,AE.enc x2]) (u:=(x0,x2,())) rfl rfl KZ rfl kr kr kr (AJ (AQ (c:=AA) (v:=x0)) (AJ (AQ (c:=AE) (v:=x2)) Ah)) (.inl kr) hv38 ?_;refine AD (n:=119) AC 3 [(10,.v (.bool (!v38)))] [some ⟨5,60,[AA.enc x0],false⟩,some ⟨9,42,[AE.enc x1],false⟩,some ⟨9,42,[AE.enc x2],false⟩] kr ?_;have hq:=OI hj40; subst hq;exact AI rfl (Ac [] trivial ⟨lv,trivial⟩)
         ·rw [BV hc41] at hj40
          rw [hc41];refine AD (n:=119) AC 6 [(10,.v (.bool false))] [some ⟨5,60,[AA.enc x0],false⟩,some ⟨9,42,[AE.enc x1],false⟩,some ⟨9,42,[AE.enc x2],false⟩] kr ?_;have hq:=OI hj40; subst hq;exact AI rfl (Ac [] trivial ⟨lv,trivial⟩)
        refine AO ?_;have hq:=OI h; subst hq;exact ⟨⟨Fr 119 [(10,.v (.bool j40))],[]⟩,AM,.inr rfl,[.v (.bool j40)],kr,kr⟩
def UB:List AV->Option AV:=Dm Kw (fun a=>Gk a.1 a.2.1 a.2.2.1 a.2.2.2.1 a.2.2.2.2.1) K6
theorem PG:XOk 151 UB:=by
 refine AR Tryz.func151 (c:=Nn) ?h2 ⟨Tryz.call151⟩ Kw (fun a=>Gk a.1 a.2.1 a.2.2.1 a.2.2.2.1 a.2.2.2.2.1) K6 (fun a=>(by show 5<=119; decide)) ?h3 ?h4
 case h2=>kernel_rfl
 case h3=>intro b; kernel_rfl
 case h4=>exact fun a b h=>Rm a.1 a.2.1 a.2.2.1 a.2.2.2.1 a.2.2.2.2.1 b h
end Go.Proofs.YtlalcoehgkmhlaaGreatDoor
