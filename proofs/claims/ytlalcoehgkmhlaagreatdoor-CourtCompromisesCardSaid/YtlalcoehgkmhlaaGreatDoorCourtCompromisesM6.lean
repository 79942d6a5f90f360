/- Lemmas for the proof. -/
import Derived.Test.YtlalcoehgkmhlaaGreatDoorCourtCompromisesM1
import Derived.Test.YtlalcoehgkmhlaaGreatDoorCourtCompromisesM2
import Derived.Test.YtlalcoehgkmhlaaGreatDoorCourtCompromisesM3
import Derived.Test.YtlalcoehgkmhlaaGreatDoorCourtCompromisesM4
import Derived.Test.YtlalcoehgkmhlaaGreatDoorCourtCompromisesM5
set_option maxHeartbeats 4000000
set_option maxRecDepth 100000
namespace Go.Proofs.YtlalcoehgkmhlaaGreatDoor
open Go.RowKit
/- trestle/court.b2i -/
noncomputable def Qw:Code:=BG Tryz.f180
def K4 (x0:Bool):Option (Int) :=
 if x0=true then
 some 1
 else
 some 0
def No:Cs (Bool×Unit):=(csC cdB csN)
def Nv (r:Int):AV:=cdI.enc r
theorem UB (x0:Bool) (r:Int) (h:K4 x0=some r):Sem E0 ⟨none,false⟩ Qw ⟨Fr 4 (A3 0 (No.enc (x0,()))),[]⟩ fun e s'=>(e = .normal\/e = .ret)/\∃ xs,EG E0.P s'.fr s'.hp Tryz.f180.results.toList=some xs/\EN xs=Nv r:=by
 unfold K4 at h;refine An (BP (s1:=⟨Fr 4 [(0,.v (.bool x0))],[]⟩) AL ?_);refine AJ AC [(0,.v (.bool x0))] [] ?_;refine AF ?_;refine AJ AC [(3,.v (.bool x0))] [] ?_;refine AP (b:=x0) kr (fun hb1=>?_) (fun hb1=>?_)
 ·rw [if_pos hb1] at h
  refine AJ AC [(2,.v (.int .i64 1))] [] ?_;refine AQ ?_;have hq:=OI h; subst hq;exact ⟨⟨Fr 4 [(2,.v (.int .i64 1))],[]⟩,AL,.inr rfl,[.v (.int .i64 1)],kr,kr⟩
 ·rw [BZ hb1] at h
  refine AS ?_;refine AJ AC [(2,.v (.int .i64 0))] [] ?_;refine AQ ?_;have hq:=OI h; subst hq;exact ⟨⟨Fr 4 [(2,.v (.int .i64 0))],[]⟩,AL,.inr rfl,[.v (.int .i64 0)],kr,kr⟩
def WR:List AV->Option AV:=Dx No (fun a=>K4 a.1) Nv
theorem Sy:XOk 180 WR:=by
 refine AU Tryz.func180 (c:=Qw) ?h2 ⟨Tryz.call180⟩ No (fun a=>K4 a.1) Nv (fun a=>(by show 1<=4; decide)) ?h3 ?h4
 case h2=>kernel_rfl
 case h3=>intro b; kernel_rfl
 case h4=>exact fun a b h=>UB a.1 b h
/- trestle/court.plain$2 -/
noncomputable def Js:Code:=BG Tryz.f179
def Hw (x2:AG) (v5:Int):Option ((Int)) :=
 if (x2.1==3)=true then
 some (wr .i64 (0 - v5))
 else
 some v5
def Dt (x0:A5) (x1:A5) (x2:AG):Option (Int) :=
 if (!((x0.1.2.2.2.1==0)==(x1.1.2.2.2.1==0)))=true then
 (K4 (x0.1.2.2.2.1==0)).bind fun v2 =>
 (K4 (x1.1.2.2.2.1==0)).bind fun v3 =>
 (Cy v2 v3).bind fun v4 =>
 some v4
 else
 (Cy x0.1.2.2.2.1 x1.1.2.2.2.1).bind fun v5 =>
 (Hw x2 v5).bind fun r8 =>
 some r8
def J0:Cs (A5×A5×AG×Unit):=(csC AH (csC AH (csC (cdP AA) csN)))
def KL (r:Int):AV:=cdI.enc r
theorem O0 (x2:AG) (v5:Int) (r:(Int)) (h:Hw x2 v5=some r):Sem E0 ⟨none,false⟩ (pc Js [1,1,1,0,1]) ⟨Fr 40 [(6,.v (.int .i64 v5)),(36,.v (.bool (x2.1==3)))],[]⟩ (fun e s=>e = .normal/\Wk E0 s ⟨Fr 40 [(6,.v (.int .i64 r))],[]⟩):=by
 unfold Hw at h;refine AP (b:=(x2.1==3)) kr (fun hb6=>?_) (fun hb6=>?_)
 ·rw [if_pos hb6] at h
  refine Cn AC [(6,.v (.int .i64 (wr .i64 (0 - v5))))] [] ?_;have hq:=OI h; subst hq;exact ⟨rfl,AL⟩
 ·rw [BZ hb6] at h
  refine AS ?_;have hq:=OI h; subst hq;exact ⟨rfl,AL⟩
theorem QA (x0:A5) (x1:A5) (x2:AG) (r:Int) (h:Dt x0 x1 x2=some r):Sem E0 ⟨none,false⟩ Js ⟨Fr 40 (A3 0 (J0.enc (x0,x1,x2,()))),[]⟩ fun e s'=>(e = .normal\/e = .ret)/\∃ xs,EG E0.P s'.fr s'.hp Tryz.f179.results.toList=some xs/\EN xs=KL r:=by
 unfold Dt at h
 let p1:Nat×AV:=(2,.pe (AA.enc x2) 0)
 refine An (BP (s1:=⟨Fr 40 [(0,AH.enc x0),(1,AH.enc x1),p1],[]⟩) AL ?_)
 let p2:Option Blk:=some ⟨10,115,[AH.enc x1],false⟩
 let p3:Option Blk:=some ⟨10,115,[AH.enc x0],false⟩
 refine AJ AC [p1,(3,.pt 0 0 0),(4,.pt 1 0 0)] [p3,p2] ?_;refine AF ?_;refine AJ AC [p1,(3,.pt 0 0 0),(4,.pt 1 0 0),(15,.v (.bool (!((x0.1.2.2.2.1==0)==(x1.1.2.2.2.1==0)))))] [p3,p2] ?_;refine AP (b:=(!((x0.1.2.2.2.1==0)==(x1.1.2.2.2.1==0)))) kr (fun hb1=>?_) (fun hb1=>?_)
 ·rw [if_pos hb1] at h
  refine AF ?_;obtain ⟨v2,hv2,h⟩:=OB h;obtain ⟨v3,hv3,h⟩:=OB h;obtain ⟨v4,hv4,h⟩:=OB h
  let p4:Nat×AV:=(5,.v (.int .i64 v4))
  refine DL AC (s1:=⟨Fr 40 [p4],[]⟩) kr ?_ ?_
  ·refine AY (n:=40) AC 4 [(4,.pt 1 0 0),(19,.v (.bool (x0.1.2.2.2.1==0)))] [p3,p2] kr kr ?_
   refine Bb (caps:=[]) (xs:=[.v (.bool (x0.1.2.2.2.1==0))]) (u:=((x0.1.2.2.2.1==0),())) rfl rfl Sy rfl (AB rfl) kr kr (AM (AX (c:=cdB) (v:=(x0.1.2.2.2.1==0))) Aj) kr hv2 ?_;refine AY (n:=40) AC 4 [(20,.v (.int .i64 v2)),(24,.v (.bool (x1.1.2.2.2.1==0)))] [p3,p2] kr kr ?_;refine Bb (caps:=[]) (xs:=[.v (.bool (x1.1.2.2.2.1==0))]) (u:=((x1.1.2.2.2.1==0),())) rfl rfl Sy rfl (AB rfl) kr kr (AM (AX (c:=cdB) (v:=(x1.1.2.2.2.1==0))) Aj) kr hv3 ?_;refine Bb (caps:=[]) (xs:=[.v (.int .i64 v2),.v (.int .i64 v3)]) (u:=(v2,v3,())) rfl rfl Gm rfl (AB rfl) kr kr (AM (AX (c:=cdI) (v:=v2)) (AM (AX (c:=cdI) (v:=v3)) Aj)) kr hv4 ?_;refine AY (n:=40) AC 1 [p4] [p3,p2] kr kr ?_;exact RunDS.done rfl (Ad [] trivial ⟨lv,trivial⟩)
  refine AQ ?_;have hq:=OI h; subst hq;exact ⟨⟨Fr 40 [p4],[]⟩,AL,.inr rfl,[.v (.int .i64 v4)],kr,kr⟩
 ·rw [BZ hb1] at h
  refine AS ?_;refine AF ?_;obtain ⟨v5,hv5,h⟩:=OB h
  let p5:Nat×AV:=(6,.v (.int .i64 v5))
  refine AK (s1:=⟨Fr 40 [p1,p5],[]⟩) ?_ ?_
  ·refine AD (n:=40) AC 6 [p1,(29,.v (.int .i64 x0.1.2.2.2.1)),(32,.v (.int .i64 x1.1.2.2.2.1))] [p3,p2] kr ?_
   refine AT (caps:=[]) (xs:=[.v (.int .i64 x0.1.2.2.2.1),.v (.int .i64 x1.1.2.2.2.1)]) (u:=(x0.1.2.2.2.1,x1.1.2.2.2.1,())) rfl rfl Gm rfl (AB rfl) kr kr (AM (AX (c:=cdI) (v:=x0.1.2.2.2.1)) (AM (AX (c:=cdI) (v:=x1.1.2.2.2.1)) Aj)) (.inl kr) hv5 ?_;refine AD (n:=40) AC 1 [p1,p5] [p3,p2] kr ?_;exact AI rfl (Ad [] trivial ⟨lv,lv,trivial⟩)
  refine AF ?_;refine AJ AC [p5,(36,.v (.bool (x2.1==3)))] [] ?_;obtain ⟨r8,hr8,h⟩:=OB h;refine F7 (O0 x2 v5 _ hr8) ?_;refine AJ AC [(5,.v (.int .i64 r8))] [] ?_;refine AQ ?_;have hq:=OI h; subst hq;exact ⟨⟨Fr 40 [(5,.v (.int .i64 r8))],[]⟩,AL,.inr rfl,[.v (.int .i64 r8)],kr,kr⟩
def Sa:List AV->Option AV:=Dx J0 (fun a=>Dt a.1 a.2.1 a.2.2.1) KL
theorem OK:XOk 179 Sa:=by
 refine AU Tryz.func179 (c:=Js) ?h2 ⟨Tryz.call179⟩ J0 (fun a=>Dt a.1 a.2.1 a.2.2.1) KL (fun a=>(by show 3<=40; decide)) ?h3 ?h4
 case h2=>kernel_rfl
 case h3=>intro b; kernel_rfl
 case h4=>exact fun a b h=>QA a.1 a.2.1 a.2.2.1 b h
/- cmp.isNaN[string] -/
noncomputable def Kx:Code:=BG Tryz.f207
def FH (x0:(List UInt8)):Option (Bool) :=
 some (!(x0==x0))
def H3:Cs ((List UInt8)×Unit):=(csC cdS csN)
def H6 (r:Bool):AV:=cdB.enc r
theorem OX (x0:(List UInt8)) (r:Bool) (h:FH x0=some r):Sem E0 ⟨none,false⟩ Kx ⟨Fr 6 (A3 0 (H3.enc (x0,()))),[]⟩ fun e s'=>(e = .normal\/e = .ret)/\∃ xs,EG E0.P s'.fr s'.hp Tryz.f207.results.toList=some xs/\EN xs=H6 r:=by
 unfold FH at h;refine An (BP (s1:=⟨Fr 6 [(0,.st x0)],[]⟩) AL ?_);refine AJ AC [(0,.st x0)] [] ?_;refine AJ AC [(2,.v (.bool (!(x0==x0))))] [] ?_;refine AQ ?_;have hq:=OI h; subst hq;exact ⟨⟨Fr 6 [(2,.v (.bool (!(x0==x0))))],[]⟩,AL,.inr rfl,[.v (.bool (!(x0==x0)))],kr,kr⟩
def Pq:List AV->Option AV:=Dx H3 (fun a=>FH a.1) H6
theorem Lp:XOk 207 Pq:=by
 refine AU Tryz.func207 (c:=Kx) ?h2 ⟨Tryz.call207⟩ H3 (fun a=>FH a.1) H6 (fun a=>(by show 1<=6; decide)) ?h3 ?h4
 case h2=>kernel_rfl
 case h3=>intro b; kernel_rfl
 case h4=>exact fun a b h=>OX a.1 b h
/- cmp.Compare[string] -/
noncomputable def JY:Code:=BG Tryz.f188
def EC (x0:(List UInt8)) (x1:(List UInt8)):Option (Int) :=
 (FH x0).bind fun v1 =>
 (FH x1).bind fun v2 =>
 if v1=true then
 if v2=true then
 some 0
 else
 some (-1)
 else
 if v2=true then
 some 1
 else
 if (Go.Op.bytesLess x0 x1)=true then
 some (-1)
 else
 if (!((Go.Op.bytesLess x0 x1)||(x0==x1)))=true then
 some 1
 else
 some 0
def HP:Cs ((List UInt8)×(List UInt8)×Unit):=(csC cdS (csC cdS csN))
def HS (r:Int):AV:=cdI.enc r
theorem NU (x0:(List UInt8)) (x1:(List UInt8)) (r:Int) (h:EC x0 x1=some r):Sem E0 ⟨none,false⟩ JY ⟨Fr 20 (A3 0 (HP.enc (x0,x1,()))),[]⟩ fun e s'=>(e = .normal\/e = .ret)/\∃ xs,EG E0.P s'.fr s'.hp Tryz.f188.results.toList=some xs/\EN xs=HS r:=by
 unfold EC at h;refine An (BP (s1:=⟨Fr 20 [(0,.st x0),(1,.st x1)],[]⟩) AL ?_);refine AJ AC [(0,.st x0),(1,.st x1)] [] ?_;refine AF ?_;obtain ⟨v1,hv1,h⟩:=OB h
 let p1:Nat×AV:=(5,.v (.bool v1))
 refine AK (s1:=⟨Fr 20 [(0,.st x0),(1,.st x1),p1],[]⟩) ?_ ?_
 ·refine AD (n:=20) AC 1 [(0,.st x0),(1,.st x1),(7,.st x0)] [] kr ?_
  refine AT (caps:=[]) (xs:=[.st x0]) (u:=(x0,())) rfl rfl Lp rfl (AB rfl) kr kr (AM (AX (c:=cdS) (v:=x0)) Aj) (.inl kr) hv1 ?_;exact AW AC
 refine AF ?_;obtain ⟨v2,hv2,h⟩:=OB h;refine AK (s1:=⟨Fr 20 [(0,.st x0),(1,.st x1),p1,(6,.v (.bool v2))],[]⟩) ?_ ?_
 ·refine AD (n:=20) AC 1 [(0,.st x0),(1,.st x1),p1,(9,.st x1)] [] kr ?_
  refine AT (caps:=[]) (xs:=[.st x1]) (u:=(x1,())) rfl rfl Lp rfl (AB rfl) kr kr (AM (AX (c:=cdS) (v:=x1)) Aj) (.inl kr) hv2 ?_;exact AW AC
 refine AF ?_;refine AJ AC [(0,.st x0),(1,.st x1),(6,.v (.bool v2)),(11,.v (.bool v1))] [] ?_;refine AP (b:=v1) kr (fun hb3=>?_) (fun hb3=>?_)
 ·rw [if_pos hb3] at h
  refine AF ?_;refine AJ AC [(12,.v (.bool v2))] [] ?_;refine AP (b:=v2) kr (fun hb4=>?_) (fun hb4=>?_)
  ·rw [if_pos hb4] at h
   refine AJ AC [(4,.v (.int .i64 0))] [] ?_;refine AQ ?_;have hq:=OI h; subst hq;exact ⟨⟨Fr 20 [(4,.v (.int .i64 0))],[]⟩,AL,.inr rfl,[.v (.int .i64 0)],kr,kr⟩
  ·rw [BZ hb4] at h
   refine AS ?_;refine AJ AC [(4,.v (.int .i64 (-1)))] [] ?_;refine AQ ?_;have hq:=OI h; subst hq;exact ⟨⟨Fr 20 [(4,.v (.int .i64 (-1)))],[]⟩,AL,.inr rfl,[.v (.int .i64 (-1))],kr,kr⟩
 ·rw [BZ hb3] at h
  refine AS ?_;refine AF ?_;refine AJ AC [(0,.st x0),(1,.st x1),(13,.v (.bool v2))] [] ?_;refine AP (b:=v2) kr (fun hb5=>?_) (fun hb5=>?_)
  ·rw [if_pos hb5] at h
   refine AJ AC [(4,.v (.int .i64 1))] [] ?_;refine AQ ?_;have hq:=OI h; subst hq;exact ⟨⟨Fr 20 [(4,.v (.int .i64 1))],[]⟩,AL,.inr rfl,[.v (.int .i64 1)],kr,kr⟩
  ·rw [BZ hb5] at h
   refine AS ?_;refine AF ?_;refine AJ AC [(0,.st x0),(1,.st x1),(16,.v (.bool (Go.Op.bytesLess x0 x1)))] [] ?_;refine AP (b:=(Go.Op.bytesLess x0 x1)) kr (fun hb6=>?_) (fun hb6=>?_)
   ·rw [if_pos hb6] at h
    refine AJ AC [(4,.v (.int .i64 (-1)))] [] ?_;refine AQ ?_;have hq:=OI h; subst hq;exact ⟨⟨Fr 20 [(4,.v (.int .i64 (-1)))],[]⟩,AL,.inr rfl,[.v (.int .i64 (-1))],kr,kr⟩
   ·rw [BZ hb6] at h
    refine AS ?_;refine AF ?_;refine AJ AC [(19,.v (.bool (!((Go.Op.bytesLess x0 x1)||(x0==x1)))))] [] ?_;refine AP (b:=(!((Go.Op.bytesLess x0 x1)||(x0==x1)))) kr (fun hb7=>?_) (fun hb7=>?_)
    ·rw [if_pos hb7] at h
     refine AJ AC [(4,.v (.int .i64 1))] [] ?_;refine AQ ?_;have hq:=OI h; subst hq;exact ⟨⟨Fr 20 [(4,.v (.int .i64 1))],[]⟩,AL,.inr rfl,[.v (.int .i64 1)],kr,kr⟩
    ·rw [BZ hb7] at h
     refine AS ?_;refine AJ AC [(4,.v (.int .i64 0))] [] ?_;refine AQ ?_;have hq:=OI h; subst hq;exact ⟨⟨Fr 20 [(4,.v (.int .i64 0))],[]⟩,AL,.inr rfl,[.v (.int .i64 0)],kr,kr⟩
def Of:List AV->Option AV:=Dx HP (fun a=>EC a.1 a.2.1) HS
theorem Oi:XOk 188 Of:=by
 refine AU Tryz.func188 (c:=JY) ?h2 ⟨Tryz.call188⟩ HP (fun a=>EC a.1 a.2.1) HS (fun a=>(by show 2<=20; decide)) ?h3 ?h4
 case h2=>kernel_rfl
 case h3=>intro b; kernel_rfl
 case h4=>exact fun a b h=>NU a.1 a.2.1 b h
/- trestle/court.plain$7 -/
noncomputable def NC:Code:=BG Tryz.f187
def GJ (x0:A5) (x1:A5):Option (Int) :=
 (EC x0.1.1 x1.1.1).bind fun v1 =>
 some v1
def J5:Cs (A5×A5×Unit):=(csC AH (csC AH csN))
def KQ (r:Int):AV:=cdI.enc r
theorem QF (x0:A5) (x1:A5) (r:Int) (h:GJ x0 x1=some r):Sem E0 ⟨none,false⟩ NC ⟨Fr 12 (A3 0 (J5.enc (x0,x1,()))),[]⟩ fun e s'=>(e = .normal\/e = .ret)/\∃ xs,EG E0.P s'.fr s'.hp Tryz.f187.results.toList=some xs/\EN xs=KQ r:=by
 unfold GJ at h;refine An (BP (s1:=⟨Fr 12 [(0,AH.enc x0),(1,AH.enc x1)],[]⟩) AL ?_)
 let p1:Option Blk:=some ⟨10,115,[AH.enc x1],false⟩
 let p2:Option Blk:=some ⟨10,115,[AH.enc x0],false⟩
 refine AJ AC [(2,.pt 0 0 0),(3,.pt 1 0 0)] [p2,p1] ?_;refine AF ?_;obtain ⟨v1,hv1,h⟩:=OB h
 let p3:Nat×AV:=(4,.v (.int .i64 v1))
 refine AK (s1:=⟨Fr 12 [p3],[]⟩) ?_ ?_
 ·refine AD (n:=12) AC 6 [(7,.st x0.1.1),(10,.st x1.1.1)] [p2,p1] kr ?_
  refine AT (caps:=[]) (xs:=[.st x0.1.1,.st x1.1.1]) (u:=(x0.1.1,x1.1.1,())) rfl rfl Oi rfl (AB rfl) kr kr (AM (AX (c:=cdS) (v:=x0.1.1)) (AM (AX (c:=cdS) (v:=x1.1.1)) Aj)) (.inl kr) hv1 ?_;refine AD (n:=12) AC 1 [p3] [p2,p1] kr ?_;exact AI rfl (Ad [] trivial ⟨lv,trivial⟩)
 refine AQ ?_;have hq:=OI h; subst hq;exact ⟨⟨Fr 12 [p3],[]⟩,AL,.inr rfl,[.v (.int .i64 v1)],kr,kr⟩
def Sf:List AV->Option AV:=Dx J5 (fun a=>GJ a.1 a.2.1) KQ
theorem S7:XOk 187 Sf:=by
 refine AU Tryz.func187 (c:=NC) ?h2 ⟨Tryz.call187⟩ J5 (fun a=>GJ a.1 a.2.1) KQ (fun a=>(by show 2<=12; decide)) ?h3 ?h4
 case h2=>kernel_rfl
 case h3=>intro b; kernel_rfl
 case h4=>exact fun a b h=>QF a.1 a.2.1 b h
/- trestle/court.plain$3 -/
noncomputable def M8:Code:=BG Tryz.f182
def IX (x0:A5) (x1:AG):Option (Bool) :=
 some (x0.1.2.2.2.2.1==x1.2.2.2.2)
def J1:Cs (A5×AG×Unit):=(csC AH (csC (cdP AA) csN))
def KM (r:Bool):AV:=cdB.enc r
theorem QB (x0:A5) (x1:AG) (r:Bool) (h:IX x0 x1=some r):Sem E0 ⟨none,false⟩ M8 ⟨Fr 10 (A3 0 (J1.enc (x0,x1,()))),[]⟩ fun e s'=>(e = .normal\/e = .ret)/\∃ xs,EG E0.P s'.fr s'.hp Tryz.f182.results.toList=some xs/\EN xs=KM r:=by
 unfold IX at h;refine An (BP (s1:=⟨Fr 10 [(0,AH.enc x0),(1,.pe (AA.enc x1) 0)],[]⟩) AL ?_)
 let p1:Option Blk:=some ⟨10,115,[AH.enc x0],false⟩
 refine AJ AC [(1,.pe (AA.enc x1) 0),(2,.pt 0 0 0)] [p1] ?_;refine AF ?_
 let p2:Nat×AV:=(3,.v (.bool (x0.1.2.2.2.2.1==x1.2.2.2.2)))
 refine AK (s1:=⟨Fr 10 [p2],[]⟩) ?_ ?_
 ·refine AD (n:=10) AC 7 [p2] [p1] kr ?_
  exact AI rfl (Ad [] trivial ⟨lv,trivial⟩)
 refine AQ ?_;have hq:=OI h; subst hq;exact ⟨⟨Fr 10 [p2],[]⟩,AL,.inr rfl,[.v (.bool (x0.1.2.2.2.2.1==x1.2.2.2.2))],kr,kr⟩
def Sb:List AV->Option AV:=Dx J1 (fun a=>IX a.1 a.2.1) KM
theorem S3:XOk 182 Sb:=by
 refine AU Tryz.func182 (c:=M8) ?h2 ⟨Tryz.call182⟩ J1 (fun a=>IX a.1 a.2.1) KM (fun a=>(by show 2<=10; decide)) ?h3 ?h4
 case h2=>kernel_rfl
 case h3=>intro b; kernel_rfl
 case h4=>exact fun a b h=>QB a.1 a.2.1 b h
/- trestle/court.named$1 -/
noncomputable def Gg:Code:=BG Tryz.f206
def Bm (x0:A5) (x1:AG) (x2:AG):Option (Int) :=
 (IX x0 x1).bind fun v1 =>
 if (!(v1==x2.2.2.1))=true then
 some 0
 else
 some 1
def EV:Cs (A5×AG×AG×Unit):=(csC AH (csC (cdP (cdF 182 (csE (cdP AA)) (fun _=>rfl))) (csC (cdP AA) csN)))
def EZ (r:Int):AV:=cdI.enc r
theorem Iw (x0:A5) (x1:AG) (x2:AG) (r:Int) (h:Bm x0 x1 x2=some r):Sem E0 ⟨none,false⟩ Gg ⟨Fr 11 (A3 0 (EV.enc (x0,x1,x2,()))),[]⟩ fun e s'=>(e = .normal\/e = .ret)/\∃ xs,EG E0.P s'.fr s'.hp Tryz.f206.results.toList=some xs/\EN xs=EZ r:=by
 unfold Bm at h
 let p1:Nat×AV:=(2,.pe (AA.enc x2) 0)
 let p2:Nat×AV:=(1,.pe (.fn 182 [] [.pe (AA.enc x1) 0]) 0)
 refine An (BP (s1:=⟨Fr 11 [(0,AH.enc x0),p2,p1],[]⟩) AL ?_)
 let p3:Option Blk:=some ⟨10,115,[AH.enc x0],false⟩
 refine AJ AC [p2,p1,(3,.pt 0 0 0)] [p3] ?_;refine AF ?_;refine AF ?_;obtain ⟨v1,hv1,h⟩:=OB h
 let p4:Nat×AV:=(10,.v (.bool (!(v1==x2.2.2.1))))
 refine DL AC (s1:=⟨Fr 11 [p4],[]⟩) kr ?_ ?_
 ·refine AY (n:=11) AC 2 [p1,(5,.fn 182 [] [.pe (AA.enc x1) 0]),(6,AH.enc x0)] [p3] kr kr ?_
  refine Bb (caps:=[.pe (AA.enc x1) 0]) (xs:=[AH.enc x0]) (u:=(x0,x1,())) rfl rfl S3 rfl (AB rfl) kr kr (AM (AX (c:=AH) (v:=x0)) (AM (AX (c:=(cdP AA)) (v:=x1)) Aj)) kr hv1 ?_;refine AY (n:=11) AC 3 [p4] [p3] kr kr ?_;exact RunDS.done rfl (Ad [] trivial ⟨lv,trivial⟩)
 refine AP (b:=(!(v1==x2.2.2.1))) kr (fun hb2=>?_) (fun hb2=>?_)
 ·rw [if_pos hb2] at h
  refine AJ AC [(4,.v (.int .i64 0))] [] ?_;refine AQ ?_;have hq:=OI h; subst hq;exact ⟨⟨Fr 11 [(4,.v (.int .i64 0))],[]⟩,AL,.inr rfl,[.v (.int .i64 0)],kr,kr⟩
 ·rw [BZ hb2] at h
  refine AS ?_;refine AJ AC [(4,.v (.int .i64 1))] [] ?_;refine AQ ?_;have hq:=OI h; subst hq;exact ⟨⟨Fr 11 [(4,.v (.int .i64 1))],[]⟩,AL,.inr rfl,[.v (.int .i64 1)],kr,kr⟩
def Jg:List AV->Option AV:=Dx EV (fun a=>Bm a.1 a.2.1 a.2.2.1) EZ
theorem Jn:XOk 206 Jg:=by
 refine AU Tryz.func206 (c:=Gg) ?h2 ⟨Tryz.call206⟩ EV (fun a=>Bm a.1 a.2.1 a.2.2.1) EZ (fun a=>(by show 3<=11; decide)) ?h3 ?h4
 case h2=>kernel_rfl
 case h3=>intro b; kernel_rfl
 case h4=>exact fun a b h=>Iw a.1 a.2.1 a.2.2.1 b h
/- trestle/court.plain$4 -/
noncomputable def M9:Code:=BG Tryz.f183
def IY (x0:A5):Option (Bool) :=
 some x0.1.2.2.2.2.2.2.1
def J2:Cs (A5×Unit):=(csC AH csN)
def KN (r:Bool):AV:=cdB.enc r
theorem QC (x0:A5) (r:Bool) (h:IY x0=some r):Sem E0 ⟨none,false⟩ M9 ⟨Fr 6 (A3 0 (J2.enc (x0,()))),[]⟩ fun e s'=>(e = .normal\/e = .ret)/\∃ xs,EG E0.P s'.fr s'.hp Tryz.f183.results.toList=some xs/\EN xs=KN r:=by
 unfold IY at h;refine An (BP (s1:=⟨Fr 6 [(0,AH.enc x0)],[]⟩) AL ?_)
 let p1:Option Blk:=some ⟨10,115,[AH.enc x0],false⟩
 refine AJ AC [(1,.pt 0 0 0)] [p1] ?_;refine AF ?_
 let p2:Nat×AV:=(2,.v (.bool x0.1.2.2.2.2.2.2.1))
 refine AK (s1:=⟨Fr 6 [p2],[]⟩) ?_ ?_
 ·refine AD (n:=6) AC 4 [p2] [p1] kr ?_
  exact AI rfl (Ad [] trivial ⟨lv,trivial⟩)
 refine AQ ?_;have hq:=OI h; subst hq;exact ⟨⟨Fr 6 [p2],[]⟩,AL,.inr rfl,[.v (.bool x0.1.2.2.2.2.2.2.1)],kr,kr⟩
def Sc:List AV->Option AV:=Dx J2 (fun a=>IY a.1) KN
theorem S4:XOk 183 Sc:=by
 refine AU Tryz.func183 (c:=M9) ?h2 ⟨Tryz.call183⟩ J2 (fun a=>IY a.1) KN (fun a=>(by show 1<=6; decide)) ?h3 ?h4
 case h2=>kernel_rfl
 case h3=>intro b; kernel_rfl
 case h4=>exact fun a b h=>QC a.1 b h
/- trestle/court.named$1 -/
noncomputable def Gh:Code:=BG Tryz.f206
def Bn (x0:A5) (x2:AG):Option (Int) :=
 (IY x0).bind fun v1 =>
 if (!(v1==x2.2.2.1))=true then
 some 0
 else
 some 1
def EW:Cs (A5×Unit×AG×Unit):=(csC AH (csC (cdP (cdF 183 csN (fun _=>rfl))) (csC (cdP AA) csN)))
def Ea (r:Int):AV:=cdI.enc r
theorem Ix (x0:A5) (x2:AG) (r:Int) (h:Bn x0 x2=some r):Sem E0 ⟨none,false⟩ Gh ⟨Fr 11 (A3 0 (EW.enc (x0,(),x2,()))),[]⟩ fun e s'=>(e = .normal\/e = .ret)/\∃ xs,EG E0.P s'.fr s'.hp Tryz.f206.results.toList=some xs/\EN xs=Ea r:=by
 unfold Bn at h
 let p1:Nat×AV:=(2,.pe (AA.enc x2) 0)
 refine An (BP (s1:=⟨Fr 11 [(0,AH.enc x0),(1,.pe (.fn 183 [] []) 0),p1],[]⟩) AL ?_)
 let p2:Option Blk:=some ⟨10,115,[AH.enc x0],false⟩
 refine AJ AC [(1,.pe (.fn 183 [] []) 0),p1,(3,.pt 0 0 0)] [p2] ?_;refine AF ?_;refine AF ?_;obtain ⟨v1,hv1,h⟩:=OB h
 let p3:Nat×AV:=(10,.v (.bool (!(v1==x2.2.2.1))))
 refine DL AC (s1:=⟨Fr 11 [p3],[]⟩) kr ?_ ?_
 ·refine AY (n:=11) AC 2 [p1,(5,.fn 183 [] []),(6,AH.enc x0)] [p2] kr kr ?_
  refine Bb (caps:=[]) (xs:=[AH.enc x0]) (u:=(x0,())) rfl rfl S4 rfl (AB rfl) kr kr (AM (AX (c:=AH) (v:=x0)) Aj) kr hv1 ?_;refine AY (n:=11) AC 3 [p3] [p2] kr kr ?_;exact RunDS.done rfl (Ad [] trivial ⟨lv,trivial⟩)
 refine AP (b:=(!(v1==x2.2.2.1))) kr (fun hb2=>?_) (fun hb2=>?_)
 ·rw [if_pos hb2] at h
  refine AJ AC [(4,.v (.int .i64 0))] [] ?_;refine AQ ?_;have hq:=OI h; subst hq;exact ⟨⟨Fr 11 [(4,.v (.int .i64 0))],[]⟩,AL,.inr rfl,[.v (.int .i64 0)],kr,kr⟩
 ·rw [BZ hb2] at h
  refine AS ?_;refine AJ AC [(4,.v (.int .i64 1))] [] ?_;refine AQ ?_;have hq:=OI h; subst hq;exact ⟨⟨Fr 11 [(4,.v (.int .i64 1))],[]⟩,AL,.inr rfl,[.v (.int .i64 1)],kr,kr⟩
def Jh:List AV->Option AV:=Dx EW (fun a=>Bn a.1 a.2.2.1) Ea
theorem Jo:XOk 206 Jh:=by
 refine AU Tryz.func206 (c:=Gh) ?h2 ⟨Tryz.call206⟩ EW (fun a=>Bn a.1 a.2.2.1) Ea (fun a=>(by show 3<=11; decide)) ?h3 ?h4
 case h2=>kernel_rfl
 case h3=>intro b; kernel_rfl
 case h4=>exact fun a b h=>Ix a.1 a.2.2.1 b h
/- trestle/court.plain$5$1 -/
noncomputable def La:Code:=BG Tryz.f185
def Fp (x0:(List UInt8)) (x1:AG):Option (Bool) :=
 (BO x1.2.2.2.1 x0).bind fun v1 =>
 some v1
def Id:Cs ((List UInt8)×AG×Unit):=(csC cdS (csC (cdP AA) csN))
def Ii (r:Bool):AV:=cdB.enc r
theorem O1 (x0:(List UInt8)) (x1:AG) (r:Bool) (h:Fp x0 x1=some r):Sem E0 ⟨none,false⟩ La ⟨Fr 8 (A3 0 (Id.enc (x0,x1,()))),[]⟩ fun e s'=>(e = .normal\/e = .ret)/\∃ xs,EG E0.P s'.fr s'.hp Tryz.f185.results.toList=some xs/\EN xs=Ii r:=by
 unfold Fp at h;refine An (BP (s1:=⟨Fr 8 [(0,.st x0),(1,.pe (AA.enc x1) 0)],[]⟩) AL ?_);refine AJ AC [(0,.st x0),(1,.pe (AA.enc x1) 0)] [] ?_;refine AF ?_;obtain ⟨v1,hv1,h⟩:=OB h;refine AK (s1:=⟨Fr 8 [(3,.v (.bool v1))],[]⟩) ?_ ?_
 ·refine AD (n:=8) AC 3 [(5,.sl 1 (x1.2.2.2.1.map cdS.enc)),(6,.st x0)] [] kr ?_
  refine AT (caps:=[]) (xs:=[.sl 1 (x1.2.2.2.1.map cdS.enc),.st x0]) (u:=(x1.2.2.2.1,x0,())) rfl rfl Di rfl (AB rfl) kr kr (AM (AX (c:=(cdL 1 cdS)) (v:=x1.2.2.2.1)) (AM (AX (c:=cdS) (v:=x0)) Aj)) (.inl kr) hv1 ?_;exact AW AC
 refine AQ ?_;have hq:=OI h; subst hq;exact ⟨⟨Fr 8 [(3,.v (.bool v1))],[]⟩,AL,.inr rfl,[.v (.bool v1)],kr,kr⟩
def Qn:List AV->Option AV:=Dx Id (fun a=>Fp a.1 a.2.1) Ii
theorem Qs:XOk 185 Qn:=by
 refine AU Tryz.func185 (c:=La) ?h2 ⟨Tryz.call185⟩ Id (fun a=>Fp a.1 a.2.1) Ii (fun a=>(by show 2<=8; decide)) ?h3 ?h4
 case h2=>kernel_rfl
 case h3=>intro b; kernel_rfl
 case h4=>exact fun a b h=>O1 a.1 a.2.1 b h
/- slices.IndexFunc[[]string,string] -/
noncomputable def CQ:Code:=BG Tryz.f90
def BQ (x0:(List (List UInt8))) (x1:AG):Nat->Int->Option ((Unit) ⊕ (Int))
 | 0,_=>none
 | f + 1,c1 =>
  if (decide (c1 < (x0.length:Int)))=true then
  (idx x0 c1).bind fun v3 =>
  (Fp v3 x1).bind fun v4 =>
  if v4=true then
  some (.inr c1)
  else
  BQ x0 x1 f (wr .i64 (c1 + 1))
  else
  some (.inl ())
def BA (x0:(List (List UInt8))) (x1:AG):Option (Int) :=
 (BQ x0 x1 100000 0).bind fun r7 =>
 match r7 with
 | (.inl _w8) =>
  some (-1)
 | (.inr w9) =>
  some w9
def CR:Cs ((List (List UInt8))×AG×Unit):=(csC (cdL 1 cdS) (csC (cdF 185 (csE (cdP AA)) (fun _=>rfl)) csN))
def CT (r:Int):AV:=cdI.enc r
theorem DN (x0:(List (List UInt8))) (x1:AG):∀ (f:Nat) (c1:Int) (r:(Unit) ⊕ (Int)),BQ x0 x1 f c1=some r->SemN E0 ⟨none,false⟩ (pc CQ [1,0,1,0,0]) f ⟨Fr 19 [(0,.sl 1 (x0.map cdS.enc)),(1,.fn 185 [] [.pe (AA.enc x1) 0]),(7,.v (.int .i64 (x0.length:Int))),(8,.v (.int .i64 c1))],[]⟩ (fun e s=>match r with
 | (.inl _w)=>e=(.exit 0)/\Wk E0 s ⟨Fr 19 [],[]⟩
 | (.inr w)=>e = .ret/\Wk E0 s ⟨Fr 19 [(4,.v (.int .i64 w))],[]⟩):=by
 intro f;induction f with
 | zero=>intro c1 r h; cases h
 | succ f ih0 =>
  intro c1 r h
  have ih:=fun (c1:Int)=>ih0 c1 r
  unfold BQ at h;refine BR ?_
  let p1:Nat×AV:=(8,.v (.int .i64 c1))
  let p2:Nat×AV:=(7,.v (.int .i64 (x0.length:Int)))
  let p3:Nat×AV:=(1,.fn 185 [] [.pe (AA.enc x1) 0])
  let p4:Nat×AV:=(0,.sl 1 (x0.map cdS.enc))
  refine AJ AC [p4,p3,p2,p1,(9,.v (.bool (decide (c1 < (x0.length:Int)))))] [] ?_;refine AF ?_;refine AP (b:=(decide (c1 < (x0.length:Int)))) kr (fun hb2=>?_) (fun hb2=>?_)
  ·rw [if_pos hb2] at h
   refine AS ?_;refine AF ?_;refine AZ ?_
   let p5:Nat×AV:=(5,.v (.int .i64 c1))
   refine AJ AC [p4,p3,p5,p2,p1] [] ?_;refine AF ?_;obtain ⟨v3,hv3,h⟩:=OB h;obtain ⟨v4,hv4,h⟩:=OB h;refine AK (s1:=⟨Fr 19 [p4,p3,p5,p2,p1,(16,.v (.bool v4))],[]⟩) ?_ ?_
   ·let p6:Nat×AV:=(11,.fn 185 [] [.pe (AA.enc x1) 0])
    refine AD (n:=19) AC 3 [p4,p3,p5,p2,p1,p6,(12,.sl 1 (x0.map cdS.enc)),(13,.v (.int .i64 c1))] [] kr ?_;refine AR AC 0 rfl (C7 (AB rfl) rfl (AO (a:= .sl 1 (x0.map cdS.enc)) (b:= .v (.int .i64 c1)) kr kr (Dn (e:=cdS.enc) (el:=9) (k:=1) (ki:= .i64) kr kr hv3))) ?_;refine AD (n:=19) AC 1 [p4,p3,p5,p2,p1,p6,(15,.st v3)] [] kr ?_;refine AT (caps:=[.pe (AA.enc x1) 0]) (xs:=[.st v3]) (u:=(v3,x1,())) rfl rfl Qs rfl (AB rfl) kr kr (AM (AX (c:=cdS) (v:=v3)) (AM (AX (c:=(cdP AA)) (v:=x1)) Aj)) (.inl kr) hv4 ?_;exact AI rfl AL
   refine AP (b:=v4) kr (fun hb5=>?_) (fun hb5=>?_)
   ·rw [if_pos hb5] at h
    refine AJ AC [(4,.v (.int .i64 c1))] [] ?_;refine AQ ?_;have hq:=OI h; subst hq;exact ⟨rfl,AL⟩
   ·rw [BZ hb5] at h
    refine AS ?_
    let p7:Nat×AV:=(8,.v (.int .i64 (wr .i64 (c1 + 1))))
    refine Cn AC [p4,p3,p2,p7] [] ?_;exact Ac (s1:=⟨Fr 19 [p4,p3,p2,p7],[]⟩) AL (ih (wr .i64 (c1 + 1)) h)
  ·rw [BZ hb2] at h
   refine Bd ?_;have hq:=OI h; subst hq;exact ⟨rfl,AL⟩
theorem Fu (x0:(List (List UInt8))) (x1:AG) (r:Int) (h:BA x0 x1=some r):Sem E0 ⟨none,false⟩ CQ ⟨Fr 19 (A3 0 (CR.enc (x0,x1,()))),[]⟩ fun e s'=>(e = .normal\/e = .ret)/\∃ xs,EG E0.P s'.fr s'.hp Tryz.f90.results.toList=some xs/\EN xs=CT r:=by
 unfold BA at h
 let p1:Nat×AV:=(1,.fn 185 [] [.pe (AA.enc x1) 0])
 let p2:Nat×AV:=(0,.sl 1 (x0.map cdS.enc))
 refine An (BP (s1:=⟨Fr 19 [p2,p1],[]⟩) AL ?_);refine AJ AC [p2,p1] [] ?_;refine AF ?_;refine AF ?_
 let p3:Nat×AV:=(8,.v (.int .i64 0))
 let p4:Nat×AV:=(7,.v (.int .i64 (x0.length:Int)))
 refine AK (s1:=⟨Fr 19 [p2,p1,p4,p3],[]⟩) ?_ ?_
 ·refine AD (n:=19) AC 1 [p2,p1,(6,.sl 1 (x0.map cdS.enc))] [] kr ?_
  refine AR AC 0 rfl (C7 (AB rfl) rfl (Ck (a:= .sl 1 (x0.map cdS.enc)) kr (Ba (el:=9) kr))) ?_;exact AW AC
 refine AZ ?_;obtain ⟨r7,hr7,h⟩:=OB h;refine Bj (n:=100000) ?_;rcases r7 with w8 | w9
 ·try dsimp only at h
  refine Aq (Ac (s1:=⟨Fr 19 [p2,p1,p4,p3],[]⟩) AL (DN x0 x1 _ 0 _ hr7)) ?_;refine AJ AC [(4,.v (.int .i64 (-1)))] [] ?_;refine AQ ?_;have hq:=OI h; subst hq;exact ⟨⟨Fr 19 [(4,.v (.int .i64 (-1)))],[]⟩,AL,.inr rfl,[.v (.int .i64 (-1))],kr,kr⟩
 ·try dsimp only at h
  refine Aq (Ac (s1:=⟨Fr 19 [p2,p1,p4,p3],[]⟩) AL (DN x0 x1 _ 0 _ hr7)) ?_;have hq:=OI h; subst hq;exact ⟨⟨Fr 19 [(4,.v (.int .i64 w9))],[]⟩,AL,.inr rfl,[.v (.int .i64 w9)],kr,kr⟩
def GE:List AV->Option AV:=Dx CR (fun a=>BA a.1 a.2.1) CT
theorem GF:XOk 90 GE:=by
 refine AU Tryz.func90 (c:=CQ) ?h2 ⟨Tryz.call90⟩ CR (fun a=>BA a.1 a.2.1) CT (fun a=>(by show 2<=19; decide)) ?h3 ?h4
 case h2=>kernel_rfl
 case h3=>intro b; kernel_rfl
 case h4=>exact fun a b h=>Fu a.1 a.2.1 b h
/- slices.ContainsFunc[[]string,string] -/
noncomputable def DM:Code:=BG Tryz.f36
def Ap (x0:(List (List UInt8))) (x1:AG):Option (Bool) :=
 (BA x0 x1).bind fun v1 =>
 some (decide (v1≥0))
def CI:Cs ((List (List UInt8))×AG×Unit):=(csC (cdL 1 cdS) (csC (cdF 185 (csE (cdP AA)) (fun _=>rfl)) csN))
def CJ (r:Bool):AV:=cdB.enc r
theorem FR (x0:(List (List UInt8))) (x1:AG) (r:Bool) (h:Ap x0 x1=some r):Sem E0 ⟨none,false⟩ DM ⟨Fr 9 (A3 0 (CI.enc (x0,x1,()))),[]⟩ fun e s'=>(e = .normal\/e = .ret)/\∃ xs,EG E0.P s'.fr s'.hp Tryz.f36.results.toList=some xs/\EN xs=CJ r:=by
 unfold Ap at h
 let p1:Nat×AV:=(1,.fn 185 [] [.pe (AA.enc x1) 0])
 refine An (BP (s1:=⟨Fr 9 [(0,.sl 1 (x0.map cdS.enc)),p1],[]⟩) AL ?_);refine AJ AC [(0,.sl 1 (x0.map cdS.enc)),p1] [] ?_;refine AF ?_;obtain ⟨v1,hv1,h⟩:=OB h
 let p2:Nat×AV:=(4,.v (.bool (decide (v1≥0))))
 refine AK (s1:=⟨Fr 9 [p2],[]⟩) ?_ ?_
 ·refine AD (n:=9) AC 2 [(5,.sl 1 (x0.map cdS.enc)),(6,.fn 185 [] [.pe (AA.enc x1) 0])] [] kr ?_
  refine AT (caps:=[]) (xs:=[.sl 1 (x0.map cdS.enc),.fn 185 [] [.pe (AA.enc x1) 0]]) (u:=(x0,x1,())) rfl rfl GF rfl (AB rfl) kr kr (AM (AX (c:=(cdL 1 cdS)) (v:=x0)) (AM (Sm.fn (T5 (AX (c:=(cdP AA)) (v:=x1)))) Aj)) (.inl kr) hv1 ?_;exact AW AC
 refine AQ ?_;have hq:=OI h; subst hq;exact ⟨⟨Fr 9 [p2],[]⟩,AL,.inr rfl,[.v (.bool (decide (v1≥0)))],kr,kr⟩
def Fk:List AV->Option AV:=Dx CI (fun a=>Ap a.1 a.2.1) CJ
theorem Fl:XOk 36 Fk:=by
 refine AU Tryz.func36 (c:=DM) ?h2 ⟨Tryz.call36⟩ CI (fun a=>Ap a.1 a.2.1) CJ (fun a=>(by show 2<=9; decide)) ?h3 ?h4
 case h2=>kernel_rfl
 case h3=>intro b; kernel_rfl
 case h4=>exact fun a b h=>FR a.1 a.2.1 b h
/- trestle/court.plain$5 -/
noncomputable def NA:Code:=BG Tryz.f184
def Hd (x0:A5) (x1:AG):Option (Bool) :=
 (Ap x0.1.2.2.2.2.2.2.2.2 x1).bind fun v1 =>
 some v1
def J3:Cs (A5×AG×Unit):=(csC AH (csC (cdP AA) csN))
def KO (r:Bool):AV:=cdB.enc r
theorem QD (x0:A5) (x1:AG) (r:Bool) (h:Hd x0 x1=some r):Sem E0 ⟨none,false⟩ NA ⟨Fr 9 (A3 0 (J3.enc (x0,x1,()))),[]⟩ fun e s'=>(e = .normal\/e = .ret)/\∃ xs,EG E0.P s'.fr s'.hp Tryz.f184.results.toList=some xs/\EN xs=KO r:=by
 unfold Hd at h;refine An (BP (s1:=⟨Fr 9 [(0,AH.enc x0),(1,.pe (AA.enc x1) 0)],[]⟩) AL ?_)
 let p1:Option Blk:=some ⟨10,115,[AH.enc x0],false⟩
 refine AJ AC [(1,.pe (AA.enc x1) 0),(2,.pt 0 0 0)] [p1] ?_;refine AF ?_;obtain ⟨v1,hv1,h⟩:=OB h
 let p2:Nat×AV:=(3,.v (.bool v1))
 refine AK (s1:=⟨Fr 9 [p2],[]⟩) ?_ ?_
 ·refine AD (n:=9) AC 4 [(6,.sl 1 (x0.1.2.2.2.2.2.2.2.2.map cdS.enc)),(7,.fn 185 [] [.pe (AA.enc x1) 0])] [p1] kr ?_
  refine AT (caps:=[]) (xs:=[.sl 1 (x0.1.2.2.2.2.2.2.2.2.map cdS.enc),.fn 185 [] [.pe (AA.enc x1) 0]]) (u:=(x0.1.2.2.2.2.2.2.2.2,x1,())) rfl rfl Fl rfl (AB rfl) kr kr (AM (AX (c:=(cdL 1 cdS)) (v:=x0.1.2.2.2.2.2.2.2.2)) (AM (Sm.fn (T5 (AX (c:=(cdP AA)) (v:=x1)))) Aj)) (.inl kr) hv1 ?_;refine AD (n:=9) AC 1 [p2] [p1] kr ?_;exact AI rfl (Ad [] trivial ⟨lv,trivial⟩)
 refine AQ ?_;have hq:=OI h; subst hq;exact ⟨⟨Fr 9 [p2],[]⟩,AL,.inr rfl,[.v (.bool v1)],kr,kr⟩
def Sd:List AV->Option AV:=Dx J3 (fun a=>Hd a.1 a.2.1) KO
theorem S5:XOk 184 Sd:=by
 refine AU Tryz.func184 (c:=NA) ?h2 ⟨Tryz.call184⟩ J3 (fun a=>Hd a.1 a.2.1) KO (fun a=>(by show 2<=9; decide)) ?h3 ?h4
 case h2=>kernel_rfl
 case h3=>intro b; kernel_rfl
 case h4=>exact fun a b h=>QD a.1 a.2.1 b h
/- trestle/court.named$1 -/
noncomputable def Gi:Code:=BG Tryz.f206
def BX (x0:A5) (x1:AG) (x2:AG):Option (Int) :=
 (Hd x0 x1).bind fun v1 =>
 if (!(v1==x2.2.2.1))=true then
 some 0
 else
 some 1
def EX:Cs (A5×AG×AG×Unit):=(csC AH (csC (cdP (cdF 184 (csE (cdP AA)) (fun _=>rfl))) (csC (cdP AA) csN)))
def Eb (r:Int):AV:=cdI.enc r
theorem Iy (x0:A5) (x1:AG) (x2:AG) (r:Int) (h:BX x0 x1 x2=some r):Sem E0 ⟨none,false⟩ Gi ⟨Fr 11 (A3 0 (EX.enc (x0,x1,x2,()))),[]⟩ fun e s'=>(e = .normal\/e = .ret)/\∃ xs,EG E0.P s'.fr s'.hp Tryz.f206.results.toList=some xs/\EN xs=Eb r:=by
 unfold BX at h
 let p1:Nat×AV:=(2,.pe (AA.enc x2) 0)
 let p2:Nat×AV:=(1,.pe (.fn 184 [] [.pe (AA.enc x1) 0]) 0)
 refine An (BP (s1:=⟨Fr 11 [(0,AH.enc x0),p2,p1],[]⟩) AL ?_)
 let p3:Option Blk:=some ⟨10,115,[AH.enc x0],false⟩
 refine AJ AC [p2,p1,(3,.pt 0 0 0)] [p3] ?_;refine AF ?_;refine AF ?_;obtain ⟨v1,hv1,h⟩:=OB h
 let p4:Nat×AV:=(10,.v (.bool (!(v1==x2.2.2.1))))
 refine DL AC (s1:=⟨Fr 11 [p4],[]⟩) kr ?_ ?_
 ·refine AY (n:=11) AC 2 [p1,(5,.fn 184 [] [.pe (AA.enc x1) 0]),(6,AH.enc x0)] [p3] kr kr ?_
  refine Bb (caps:=[.pe (AA.enc x1) 0]) (xs:=[AH.enc x0]) (u:=(x0,x1,())) rfl rfl S5 rfl (AB rfl) kr kr (AM (AX (c:=AH) (v:=x0)) (AM (AX (c:=(cdP AA)) (v:=x1)) Aj)) kr hv1 ?_;refine AY (n:=11) AC 3 [p4] [p3] kr kr ?_;exact RunDS.done rfl (Ad [] trivial ⟨lv,trivial⟩)
 refine AP (b:=(!(v1==x2.2.2.1))) kr (fun hb2=>?_) (fun hb2=>?_)
 ·rw [if_pos hb2] at h
  refine AJ AC [(4,.v (.int .i64 0))] [] ?_;refine AQ ?_;have hq:=OI h; subst hq;exact ⟨⟨Fr 11 [(4,.v (.int .i64 0))],[]⟩,AL,.inr rfl,[.v (.int .i64 0)],kr,kr⟩
 ·rw [BZ hb2] at h
  refine AS ?_;refine AJ AC [(4,.v (.int .i64 1))] [] ?_;refine AQ ?_;have hq:=OI h; subst hq;exact ⟨⟨Fr 11 [(4,.v (.int .i64 1))],[]⟩,AL,.inr rfl,[.v (.int .i64 1)],kr,kr⟩
def Ji:List AV->Option AV:=Dx EX (fun a=>BX a.1 a.2.1 a.2.2.1) Eb
theorem Jp:XOk 206 Ji:=by
 refine AU Tryz.func206 (c:=Gi) ?h2 ⟨Tryz.call206⟩ EX (fun a=>BX a.1 a.2.1 a.2.2.1) Eb (fun a=>(by show 3<=11; decide)) ?h3 ?h4
 case h2=>kernel_rfl
 case h3=>intro b; kernel_rfl
 case h4=>exact fun a b h=>Iy a.1 a.2.1 a.2.2.1 b h
/- trestle/court.plain$6 -/
noncomputable def NB:Code:=BG Tryz.f186
def He (x0:A5) (x1:AG):Option (Bool) :=
 (BO x1.2.2.2.1 x0.1.2.2.1).bind fun v1 =>
 some v1
def J4:Cs (A5×AG×Unit):=(csC AH (csC (cdP AA) csN))
def KP (r:Bool):AV:=cdB.enc r
theorem QE (x0:A5) (x1:AG) (r:Bool) (h:He x0 x1=some r):Sem E0 ⟨none,false⟩ NB ⟨Fr 10 (A3 0 (J4.enc (x0,x1,()))),[]⟩ fun e s'=>(e = .normal\/e = .ret)/\∃ xs,EG E0.P s'.fr s'.hp Tryz.f186.results.toList=some xs/\EN xs=KP r:=by
 unfold He at h;refine An (BP (s1:=⟨Fr 10 [(0,AH.enc x0),(1,.pe (AA.enc x1) 0)],[]⟩) AL ?_)
 let p1:Option Blk:=some ⟨10,115,[AH.enc x0],false⟩
 refine AJ AC [(1,.pe (AA.enc x1) 0),(2,.pt 0 0 0)] [p1] ?_;refine AF ?_;obtain ⟨v1,hv1,h⟩:=OB h
 let p2:Nat×AV:=(3,.v (.bool v1))
 refine AK (s1:=⟨Fr 10 [p2],[]⟩) ?_ ?_
 ·refine AD (n:=10) AC 5 [(5,.sl 1 (x1.2.2.2.1.map cdS.enc)),(8,.st x0.1.2.2.1)] [p1] kr ?_
  refine AT (caps:=[]) (xs:=[.sl 1 (x1.2.2.2.1.map cdS.enc),.st x0.1.2.2.1]) (u:=(x1.2.2.2.1,x0.1.2.2.1,())) rfl rfl Di rfl (AB rfl) kr kr (AM (AX (c:=(cdL 1 cdS)) (v:=x1.2.2.2.1)) (AM (AX (c:=cdS) (v:=x0.1.2.2.1)) Aj)) (.inl kr) hv1 ?_;refine AD (n:=10) AC 1 [p2] [p1] kr ?_;exact AI rfl (Ad [] trivial ⟨lv,trivial⟩)
 refine AQ ?_;have hq:=OI h; subst hq;exact ⟨⟨Fr 10 [p2],[]⟩,AL,.inr rfl,[.v (.bool v1)],kr,kr⟩
def Se:List AV->Option AV:=Dx J4 (fun a=>He a.1 a.2.1) KP
theorem S6:XOk 186 Se:=by
 refine AU Tryz.func186 (c:=NB) ?h2 ⟨Tryz.call186⟩ J4 (fun a=>He a.1 a.2.1) KP (fun a=>(by show 2<=10; decide)) ?h3 ?h4
 case h2=>kernel_rfl
 case h3=>intro b; kernel_rfl
 case h4=>exact fun a b h=>QE a.1 a.2.1 b h
/- trestle/court.named$1 -/
noncomputable def Gj:Code:=BG Tryz.f206
def BY (x0:A5) (x1:AG) (x2:AG):Option (Int) :=
 (He x0 x1).bind fun v1 =>
 if (!(v1==x2.2.2.1))=true then
 some 0
 else
 some 1
def EY:Cs (A5×AG×AG×Unit):=(csC AH (csC (cdP (cdF 186 (csE (cdP AA)) (fun _=>rfl))) (csC (cdP AA) csN)))
def Ec (r:Int):AV:=cdI.enc r
theorem Iz (x0:A5) (x1:AG) (x2:AG) (r:Int) (h:BY x0 x1 x2=some r):Sem E0 ⟨none,false⟩ Gj ⟨Fr 11 (A3 0 (EY.enc (x0,x1,x2,()))),[]⟩ fun e s'=>(e = .normal\/e = .ret)/\∃ xs,EG E0.P s'.fr s'.hp Tryz.f206.results.toList=some xs/\EN xs=Ec r:=by
 unfold BY at h
 let p1:Nat×AV:=(2,.pe (AA.enc x2) 0)
 let p2:Nat×AV:=(1,.pe (.fn 186 [] [.pe (AA.enc x1) 0]) 0)
 refine An (BP (s1:=⟨Fr 11 [(0,AH.enc x0),p2,p1],[]⟩) AL ?_)
 let p3:Option Blk:=some ⟨10,115,[AH.enc x0],false⟩
 refine AJ AC [p2,p1,(3,.pt 0 0 0)] [p3] ?_;refine AF ?_;refine AF ?_;obtain ⟨v1,hv1,h⟩:=OB h
 let p4:Nat×AV:=(10,.v (.bool (!(v1==x2.2.2.1))))
 refine DL AC (s1:=⟨Fr 11 [p4],[]⟩) kr ?_ ?_
 ·refine AY (n:=11) AC 2 [p1,(5,.fn 186 [] [.pe (AA.enc x1) 0]),(6,AH.enc x0)] [p3] kr kr ?_
  refine Bb (caps:=[.pe (AA.enc x1) 0]) (xs:=[AH.enc x0]) (u:=(x0,x1,())) rfl rfl S6 rfl (AB rfl) kr kr (AM (AX (c:=AH) (v:=x0)) (AM (AX (c:=(cdP AA)) (v:=x1)) Aj)) kr hv1 ?_;refine AY (n:=11) AC 3 [p4] [p3] kr kr ?_;exact RunDS.done rfl (Ad [] trivial ⟨lv,trivial⟩)
 refine AP (b:=(!(v1==x2.2.2.1))) kr (fun hb2=>?_) (fun hb2=>?_)
 ·rw [if_pos hb2] at h
  refine AJ AC [(4,.v (.int .i64 0))] [] ?_;refine AQ ?_;have hq:=OI h; subst hq;exact ⟨⟨Fr 11 [(4,.v (.int .i64 0))],[]⟩,AL,.inr rfl,[.v (.int .i64 0)],kr,kr⟩
 ·rw [BZ hb2] at h
  refine AS ?_;refine AJ AC [(4,.v (.int .i64 1))] [] ?_;refine AQ ?_;have hq:=OI h; subst hq;exact ⟨⟨Fr 11 [(4,.v (.int .i64 1))],[]⟩,AL,.inr rfl,[.v (.int .i64 1)],kr,kr⟩
def Jj:List AV->Option AV:=Dx EY (fun a=>BY a.1 a.2.1 a.2.2.1) Ec
theorem Jq:XOk 206 Jj:=by
 refine AU Tryz.func206 (c:=Gj) ?h2 ⟨Tryz.call206⟩ EY (fun a=>BY a.1 a.2.1 a.2.2.1) Ec (fun a=>(by show 3<=11; decide)) ?h3 ?h4
 case h2=>kernel_rfl
 case h3=>intro b; kernel_rfl
 case h4=>exact fun a b h=>Iz a.1 a.2.1 a.2.2.1 b h
/- trestle/court.placed$1 -/
noncomputable def MH:Code:=BG Tryz.f208
def Db (x0:Int):Option (Bool) :=
 (if (decide (x0≥0))=true then some (decide (x0<=63)) else some false).bind fun j2 =>
 some j2
def I9:Cs (Int×Unit):=(csC cdI csN)
def JE (r:Bool):AV:=cdB.enc r
theorem PY (x0:Int) (r:Bool) (h:Db x0=some r):Sem E0 ⟨none,false⟩ MH ⟨Fr 9 (A3 0 (I9.enc (x0,()))),[]⟩ fun e s'=>(e = .normal\/e = .ret)/\∃ xs,EG E0.P s'.fr s'.hp Tryz.f208.results.toList=some xs/\EN xs=JE r:=by
 unfold Db at h;refine An (BP (s1:=⟨Fr 9 [(0,.v (.int .i64 x0))],[]⟩) AL ?_);refine AJ AC [(0,.v (.int .i64 x0))] [] ?_;refine AF ?_;obtain ⟨j2,hj2,h⟩:=OB h;refine AK (s1:=⟨Fr 9 [(2,.v (.bool j2))],[]⟩) ?_ ?_
 ·refine AD (n:=9) AC 3 [(0,.v (.int .i64 x0)),(5,.v (.bool (decide (x0≥0))))] [] kr ?_
  rcases BE (decide (x0≥0)) with hc3 | hc3
  ·rw [if_pos hc3] at hj2
   rw [hc3];refine AD (n:=9) AC 4 [(2,.v (.bool (decide (x0<=63))))] [] kr ?_;have hq:=OI hj2; subst hq;exact AI rfl AL
  ·rw [BZ hc3] at hj2
   rw [hc3];refine AD (n:=9) AC 4 [(2,.v (.bool false))] [] kr ?_;have hq:=OI hj2; subst hq;exact AI rfl AL
 refine AQ ?_;have hq:=OI h; subst hq;exact ⟨⟨Fr 9 [(2,.v (.bool j2))],[]⟩,AL,.inr rfl,[.v (.bool j2)],kr,kr⟩
def RJ:List AV->Option AV:=Dx I9 (fun a=>Db a.1) JE
theorem Hy:XOk 208 RJ:=by
 refine AU Tryz.func208 (c:=MH) ?h2 ⟨Tryz.call208⟩ I9 (fun a=>Db a.1) JE (fun a=>(by show 1<=9; decide)) ?h3 ?h4
 case h2=>kernel_rfl
 case h3=>intro b; kernel_rfl
 case h4=>exact fun a b h=>PY a.1 b h
/- trestle/court.plain$8 -/
noncomputable def ND:Code:=BG Tryz.f190
def FS (x0:Int) (x1:AG):Option (Int) :=
 some ((wr .i64 ((wr .i64 (x0 * (wr .i64 ((wr .i64 (2 * x1.2.2.2.2)) + 1)))) + x1.2.2.2.2)).tmod 64)
def J6:Cs (Int×AG×Unit):=(csC cdI (csC (cdP AA) csN))
def KR (r:Int):AV:=cdI.enc r
theorem QG (x0:Int) (x1:AG) (r:Int) (h:FS x0 x1=some r):Sem E0 ⟨none,false⟩ ND ⟨Fr 14 (A3 0 (J6.enc (x0,x1,()))),[]⟩ fun e s'=>(e = .normal\/e = .ret)/\∃ xs,EG E0.P s'.fr s'.hp Tryz.f190.results.toList=some xs/\EN xs=KR r:=by
 unfold FS at h;refine An (BP (s1:=⟨Fr 14 [(0,.v (.int .i64 x0)),(1,.pe (AA.enc x1) 0)],[]⟩) AL ?_);refine AJ AC [(0,.v (.int .i64 x0)),(1,.pe (AA.enc x1) 0)] [] ?_
 let p1:Nat×AV:=(3,.v (.int .i64 ((wr .i64 ((wr .i64 (x0 * (wr .i64 ((wr .i64 (2 * x1.2.2.2.2)) + 1)))) + x1.2.2.2.2)).tmod 64)))
 refine AJ AC [p1] [] ?_;refine AQ ?_;have hq:=OI h; subst hq;exact ⟨⟨Fr 14 [p1],[]⟩,AL,.inr rfl,[.v (.int .i64 ((wr .i64 ((wr .i64 (x0 * (wr .i64 ((wr .i64 (2 * x1.2.2.2.2)) + 1)))) + x1.2.2.2.2)).tmod 64))],kr,kr⟩
def Sg:List AV->Option AV:=Dx J6 (fun a=>FS a.1 a.2.1) KR
theorem OL:XOk 190 Sg:=by
 refine AU Tryz.func190 (c:=ND) ?h2 ⟨Tryz.call190⟩ J6 (fun a=>FS a.1 a.2.1) KR (fun a=>(by show 2<=14; decide)) ?h3 ?h4
 case h2=>kernel_rfl
 case h3=>intro b; kernel_rfl
 case h4=>exact fun a b h=>QG a.1 a.2.1 b h
/- trestle/court.placed$2 -/
noncomputable def Dk:Code:=BG Tryz.f209
def Ay (x0:A5) (x1:A5) (x3:AG):Option (Int) :=
 (Db x0.2).bind fun v1 =>
 (if (!v1)=true then some true else (Db x1.2).bind fun v2 =>
 some (!v2)).bind fun j4 =>
 if j4=true then
 some 0
 else
 (FS x0.2 x3).bind fun v6 =>
 (FS x1.2 x3).bind fun v7 =>
 (Cy v6 v7).bind fun v8 =>
 some v8
def Ca:Cs (A5×A5×Unit×AG×Unit):=(csC AH (csC AH (csC (cdP (cdF 208 csN (fun _=>rfl))) (csC (cdP (cdF 190 (csE (cdP AA)) (fun _=>rfl))) csN))))
def Cg (r:Int):AV:=cdI.enc r
theorem F8 (x0:A5) (x1:A5) (x3:AG) (r:Int) (h:Ay x0 x1 x3=some r):Sem E0 ⟨none,false⟩ Dk ⟨Fr 28 (A3 0 (Ca.enc (x0,x1,(),x3,()))),[]⟩ fun e s'=>(e = .normal\/e = .ret)/\∃ xs,EG E0.P s'.fr s'.hp Tryz.f209.results.toList=some xs/\EN xs=Cg r:=by
 unfold Ay at h;refine An (BP (s1:=⟨Fr 28 [(0,AH.enc x0),(1,AH.enc x1),(2,.pe (.fn 208 [] []) 0),(3,.pe (.fn 190 [] [.pe (AA.enc x3) 0]) 0)],[]⟩) AL ?_);refine AJ AC [(2,.pe (.fn 208 [] []) 0),(3,.pe (.fn 190 [] [.pe (AA.enc x3) 0]) 0),(4,.pt 0 0 0),(5,.pt 1 0 0)] [some ⟨10,115,[AH.enc x0],false⟩,some ⟨10,115,[AH.enc x1],false⟩] ?_;refine AF ?_;refine AF ?_;obtain ⟨v1,hv1,h⟩:=OB h;obtain ⟨j4,hj4,h⟩:=OB h;refine AK (s1:=⟨Fr 28 [(3,.pe (.fn 190 [] [.pe (AA.enc x3) 0]) 0),(4,.pt 0 0 0),(5,.pt 1 0 0),(18,.v (.bool j4))],[some ⟨10,115,[AH.enc x0],false⟩,some ⟨10,115,[AH.enc x1],false⟩]⟩) ?_ ?_
 ·refine AD (n:=28) AC 3 [(2,.pe (.fn 208 [] []) 0),(3,.pe (.fn 190 [] [.pe (AA.enc x3) 0]) 0),(4,.pt 0 0 0),(5,.pt 1 0 0),(7,.fn 208 [] []),(9,.v (.int .i64 x0.2))] [some ⟨10,115,[AH.enc x0],false⟩,some ⟨10,115,[AH.enc x1],false⟩] kr ?_
  refine AT (caps:=[]) (xs:=[.v (.int .i64 x0.2)]) (u:=(x0.2,())) rfl rfl Hy rfl (AB rfl) kr kr (AM (AX (c:=cdI) (v:=x0.2)) Aj) (.inl kr) hv1 ?_;refine AD (n:=28) AC 2 [(2,.pe (.fn 208 [] []) 0),(3,.pe (.fn 190 [] [.pe (AA.enc x3) 0]) 0),(4,.pt 0 0 0),(5,.pt 1 0 0),(12,.v (.bool (!v1)))] [some ⟨10,115,[AH.enc x0],false⟩,some ⟨10,115,[AH.enc x1],false⟩] kr ?_;rcases BE (!v1) with hc9 | hc9
  ·rw [if_pos hc9] at hj4
   rw [hc9];refine AD (n:=28) AC 6 [(3,.pe (.fn 190 [] [.pe (AA.enc x3) 0]) 0),(4,.pt 0 0 0),(5,.pt 1 0 0),(18,.v (.bool true))] [some ⟨10,115,[AH.enc x0],false⟩,some ⟨10,115,[AH.enc x1],false⟩] kr ?_;have hq:=OI hj4; subst hq;exact AI rfl (Ad [0,1] ⟨⟨_,rfl,Ga⟩,⟨_,rfl,Ga⟩,trivial⟩ ⟨lv,lv,lv,lv,trivial⟩)
  ·rw [BZ hc9] at hj4
   rw [hc9];refine AD (n:=28) AC 3 [(3,.pe (.fn 190 [] [.pe (AA.enc x3) 0]) 0),(4,.pt 0 0 0),(5,.pt 1 0 0),(12,.v (.bool false)),(13,.fn 208 [] []),(15,.v (.int .i64 x1.2))] [some ⟨10,115,[AH.enc x0],false⟩,some ⟨10,115,[AH.enc x1],false⟩] kr ?_;obtain ⟨v2,hv2,hj4⟩:=OB hj4;refine AT (caps:=[]) (xs:=[.v (.int .i64 x1.2)]) (u:=(x1.2,())) rfl rfl Hy rfl kr kr kr (AM (AX (c:=cdI) (v:=x1.2)) Aj) (.inl kr) hv2 ?_;refine AD (n:=28) AC 2 [(3,.pe (.fn 190 [] [.pe (AA.enc x3) 0]) 0),(4,.pt 0 0 0),(5,.pt 1 0 0),(18,.v (.bool (!v2)))] [some ⟨10,115,[AH.enc x0],false⟩,some ⟨10,115,[AH.enc x1],false⟩] kr ?_;have hq:=OI hj4; subst hq;exact AI rfl (Ad [0,1] ⟨⟨_,rfl,Ga⟩,⟨_,rfl,Ga⟩,trivial⟩ ⟨lv,lv,lv,lv,trivial⟩)
 refine AP (b:=j4) kr (fun hb5=>?_) (fun hb5=>?_)
 ·rw [if_pos hb5] at h
  refine AF ?_;refine AK (s1:=⟨Fr 28 [(6,.v (.int .i64 0))],[]⟩) ?_ ?_
  ·refine AD (n:=28) AC 1 [(6,.v (.int .i64 0))] [some ⟨10,115,[AH.enc x0],false⟩,some ⟨10,115,[AH.enc x1],false⟩] kr ?_
   exact AI rfl (Ad [] trivial ⟨lv,trivial⟩)
  refine AQ ?_;have hq:=OI h; subst hq;exact ⟨⟨Fr 28 [(6,.v (.int .i64 0))],[]⟩,AL,.inr rfl,[.v (.int .i64 0)],kr,kr⟩
 ·rw [BZ hb5] at h
  refine AS ?_;refine AF ?_;obtain ⟨v6,hv6,h⟩:=OB h;obtain ⟨v7,hv7,h⟩:=OB h;obtain ⟨v8,hv8,h⟩:=OB h;refine DL AC (s1:=⟨Fr 28 [(6,.v (.int .i64 v8))],[]⟩) kr ?_ ?_
  ·refine AY (n:=28) AC 3 [(3,.pe (.fn 190 [] [.pe (AA.enc x3) 0]) 0),(5,.pt 1 0 0),(19,.fn 190 [] [.pe (AA.enc x3) 0]),(21,.v (.int .i64 x0.2))] [some ⟨10,115,[AH.enc x0],false⟩,some ⟨10,115,[AH.enc x1],false⟩] kr kr ?_
   refine Bb (caps:=[.pe (AA.enc x3) 0]) (xs:=[.v (.int .i64 x0.2)]) (u:=(x0.2,x3,())) rfl rfl OL rfl (AB rfl) kr kr (AM (AX (c:=cdI) (v:=x0.2)) (AM (AX (c:=(cdP AA)) (v:=x3)) Aj)) kr hv6 ?_;refine AY (n:=28) AC 3 [(22,.v (.int .i64 v6)),(23,.fn 190 [] [.pe (AA.enc x3) 0]),(25,.v (.int .i64 x1.2))] [some ⟨10,115,[AH.enc x0],false⟩,some ⟨10,115,[AH.enc x1],false⟩] kr kr ?_;refine Bb (caps:=[.pe (AA.enc x3) 0]) (xs:=[.v (.int .i64 x1.2)]) (u:=(x1.2,x3,())) rfl rfl OL rfl (AB rfl) kr kr (AM (AX (c:=cdI) (v:=x1.2)) (AM (AX (c:=(cdP AA)) (v:=x3)) Aj)) kr hv7 ?_;refine Bb (caps:=[]) (xs:=[.v (.int .i64 v6),.v (.int .i64 v7)]) (u:=(v6,v7,())) rfl rfl Gm rfl (AB rfl) kr kr (AM (AX (c:=cdI) (v:=v6)) (AM (AX (c:=cdI) (v:=v7)) Aj)) kr hv8 ?_;refine AY (n:=28) AC 1 [(6,.v (.int .i64 v8))] [some ⟨10,115,[AH.enc x0],false⟩,some ⟨10,115,[AH.enc x1],false⟩] kr kr ?_;exact RunDS.done rfl (Ad [] trivial ⟨lv,trivial⟩)
  refine AQ ?_;have hq:=OI h; subst hq;exact ⟨⟨Fr 28 [(6,.v (.int .i64 v8))],[]⟩,AL,.inr rfl,[.v (.int .i64 v8)],kr,kr⟩
def GS:List AV->Option AV:=Dx Ca (fun a=>Ay a.1 a.2.1 a.2.2.2.1) Cg
theorem GW:XOk 209 GS:=by
 refine AU Tryz.func209 (c:=Dk) ?h2 ⟨Tryz.call209⟩ Ca (fun a=>Ay a.1 a.2.1 a.2.2.2.1) Cg (fun a=>(by show 4<=28; decide)) ?h3 ?h4
 case h2=>kernel_rfl
 case h3=>intro b; kernel_rfl
 case h4=>exact fun a b h=>F8 a.1 a.2.1 a.2.2.2.1 b h
/- trestle/court.plain$9 -/
noncomputable def NE:Code:=BG Tryz.f191
def Gx (x0:Int):Option (Int) :=
 some x0
def J7:Cs (Int×Unit):=(csC cdI csN)
def KS (r:Int):AV:=cdI.enc r
theorem QH (x0:Int) (r:Int) (h:Gx x0=some r):Sem E0 ⟨none,false⟩ NE ⟨Fr 4 (A3 0 (J7.enc (x0,()))),[]⟩ fun e s'=>(e = .normal\/e = .ret)/\∃ xs,EG E0.P s'.fr s'.hp Tryz.f191.results.toList=some xs/\EN xs=KS r:=by
 unfold Gx at h;refine An (BP (s1:=⟨Fr 4 [(0,.v (.int .i64 x0))],[]⟩) AL ?_);refine AJ AC [(0,.v (.int .i64 x0))] [] ?_;refine AJ AC [(2,.v (.int .i64 x0))] [] ?_;refine AQ ?_;have hq:=OI h; subst hq;exact ⟨⟨Fr 4 [(2,.v (.int .i64 x0))],[]⟩,AL,.inr rfl,[.v (.int .i64 x0)],kr,kr⟩
def Sh:List AV->Option AV:=Dx J7 (fun a=>Gx a.1) KS
theorem OM:XOk 191 Sh:=by
 refine AU Tryz.func191 (c:=NE) ?h2 ⟨Tryz.call191⟩ J7 (fun a=>Gx a.1) KS (fun a=>(by show 1<=4; decide)) ?h3 ?h4
 case h2=>kernel_rfl
 case h3=>intro b; kernel_rfl
 case h4=>exact fun a b h=>QH a.1 b h
/- trestle/court.placed$2 -/
noncomputable def Dl:Code:=BG Tryz.f209
def Az (x0:A5) (x1:A5):Option (Int) :=
 (Db x0.2).bind fun v1 =>
 (if (!v1)=true then some true else (Db x1.2).bind fun v2 =>
 some (!v2)).bind fun j4 =>
 if j4=true then
 some 0
 else
 (Gx x0.2).bind fun v6 =>
 (Gx x1.2).bind fun v7 =>
 (Cy v6 v7).bind fun v8 =>
 some v8
def Cb:Cs (A5×A5×Unit×Unit×Unit):=(csC AH (csC AH (csC (cdP (cdF 208 csN (fun _=>rfl))) (csC (cdP (cdF 191 csN (fun _=>rfl))) csN))))
def Ch (r:Int):AV:=cdI.enc r
theorem F9 (x0:A5) (x1:A5) (r:Int) (h:Az x0 x1=some r):Sem E0 ⟨none,false⟩ Dl ⟨Fr 28 (A3 0 (Cb.enc (x0,x1,(),(),()))),[]⟩ fun e s'=>(e = .normal\/e = .ret)/\∃ xs,EG E0.P s'.fr s'.hp Tryz.f209.results.toList=some xs/\EN xs=Ch r:=by
 unfold Az at h;refine An (BP (s1:=⟨Fr 28 [(0,AH.enc x0),(1,AH.enc x1),(2,.pe (.fn 208 [] []) 0),(3,.pe (.fn 191 [] []) 0)],[]⟩) AL ?_);refine AJ AC [(2,.pe (.fn 208 [] []) 0),(3,.pe (.fn 191 [] []) 0),(4,.pt 0 0 0),(5,.pt 1 0 0)] [some ⟨10,115,[AH.enc x0],false⟩,some ⟨10,115,[AH.enc x1],false⟩] ?_;refine AF ?_;refine AF ?_;obtain ⟨v1,hv1,h⟩:=OB h;obtain ⟨j4,hj4,h⟩:=OB h;refine AK (s1:=⟨Fr 28 [(3,.pe (.fn 191 [] []) 0),(4,.pt 0 0 0),(5,.pt 1 0 0),(18,.v (.bool j4))],[some ⟨10,115,[AH.enc x0],false⟩,some ⟨10,115,[AH.enc x1],false⟩]⟩) ?_ ?_
 ·refine AD (n:=28) AC 3 [(2,.pe (.fn 208 [] []) 0),(3,.pe (.fn 191 [] []) 0),(4,.pt 0 0 0),(5,.pt 1 0 0),(7,.fn 208 [] []),(9,.v (.int .i64 x0.2))] [some ⟨10,115,[AH.enc x0],false⟩,some ⟨10,115,[AH.enc x1],false⟩] kr ?_
  refine AT (caps:=[]) (xs:=[.v (.int .i64 x0.2)]) (u:=(x0.2,())) rfl rfl Hy rfl (AB rfl) kr kr (AM (AX (c:=cdI) (v:=x0.2)) Aj) (.inl kr) hv1 ?_;refine AD (n:=28) AC 2 [(2,.pe (.fn 208 [] []) 0),(3,.pe (.fn 191 [] []) 0),(4,.pt 0 0 0),(5,.pt 1 0 0),(12,.v (.bool (!v1)))] [some ⟨10,115,[AH.enc x0],false⟩,some ⟨10,115,[AH.enc x1],false⟩] kr ?_;rcases BE (!v1) with hc9 | hc9
  ·rw [if_pos hc9] at hj4
   rw [hc9];refine AD (n:=28) AC 6 [(3,.pe (.fn 191 [] []) 0),(4,.pt 0 0 0),(5,.pt 1 0 0),(18,.v (.bool true))] [some ⟨10,115,[AH.enc x0],false⟩,some ⟨10,115,[AH.enc x1],false⟩] kr ?_;have hq:=OI hj4; subst hq;exact AI rfl (Ad [0,1] ⟨⟨_,rfl,Ga⟩,⟨_,rfl,Ga⟩,trivial⟩ ⟨lv,lv,lv,lv,trivial⟩)
  ·rw [BZ hc9] at hj4
   rw [hc9];refine AD (n:=28) AC 3 [(3,.pe (.fn 191 [] []) 0),(4,.pt 0 0 0),(5,.pt 1 0 0),(12,.v (.bool false)),(13,.fn 208 [] []),(15,.v (.int .i64 x1.2))] [some ⟨10,115,[AH.enc x0],false⟩,some ⟨10,115,[AH.enc x1],false⟩] kr ?_;obtain ⟨v2,hv2,hj4⟩:=OB hj4;refine AT (caps:=[]) (xs:=[.v (.int .i64 x1.2)]) (u:=(x1.2,())) rfl rfl Hy rfl kr kr kr (AM (AX (c:=cdI) (v:=x1.2)) Aj) (.inl kr) hv2 ?_;refine AD (n:=28) AC 2 [(3,.pe (.fn 191 [] []) 0),(4,.pt 0 0 0),(5,.pt 1 0 0),(18,.v (.bool (!v2)))] [some ⟨10,115,[AH.enc x0],false⟩,some ⟨10,115,[AH.enc x1],false⟩] kr ?_;have hq:=OI hj4; subst hq;exact AI rfl (Ad [0,1] ⟨⟨_,rfl,Ga⟩,⟨_,rfl,Ga⟩,trivial⟩ ⟨lv,lv,lv,lv,trivial⟩)
 refine AP (b:=j4) kr (fun hb5=>?_) (fun hb5=>?_)
 ·rw [if_pos hb5] at h
  refine AF ?_;refine AK (s1:=⟨Fr 28 [(6,.v (.int .i64 0))],[]⟩) ?_ ?_
  ·refine AD (n:=28) AC 1 [(6,.v (.int .i64 0))] [some ⟨10,115,[AH.enc x0],false⟩,some ⟨10,115,[AH.enc x1],false⟩] kr ?_
   exact AI rfl (Ad [] trivial ⟨lv,trivial⟩)
  refine AQ ?_;have hq:=OI h; subst hq;exact ⟨⟨Fr 28 [(6,.v (.int .i64 0))],[]⟩,AL,.inr rfl,[.v (.int .i64 0)],kr,kr⟩
 ·rw [BZ hb5] at h
  refine AS ?_;refine AF ?_;obtain ⟨v6,hv6,h⟩:=OB h;obtain ⟨v7,hv7,h⟩:=OB h;obtain ⟨v8,hv8,h⟩:=OB h;refine DL AC (s1:=⟨Fr 28 [(6,.v (.int .i64 v8))],[]⟩) kr ?_ ?_
  ·refine AY (n:=28) AC 3 [(3,.pe (.fn 191 [] []) 0),(5,.pt 1 0 0),(19,.fn 191 [] []),(21,.v (.int .i64 x0.2))] [some ⟨10,115,[AH.enc x0],false⟩,some ⟨10,115,[AH.enc x1],false⟩] kr kr ?_
   refine Bb (caps:=[]) (xs:=[.v (.int .i64 x0.2)]) (u:=(x0.2,())) rfl rfl OM rfl (AB rfl) kr kr (AM (AX (c:=cdI) (v:=x0.2)) Aj) kr hv6 ?_;refine AY (n:=28) AC 3 [(22,.v (.int .i64 v6)),(23,.fn 191 [] []),(25,.v (.int .i64 x1.2))] [some ⟨10,115,[AH.enc x0],false⟩,some ⟨10,115,[AH.enc x1],false⟩] kr kr ?_;refine Bb (caps:=[]) (xs:=[.v (.int .i64 x1.2)]) (u:=(x1.2,())) rfl rfl OM rfl (AB rfl) kr kr (AM (AX (c:=cdI) (v:=x1.2)) Aj) kr hv7 ?_;refine Bb (caps:=[]) (xs:=[.v (.int .i64 v6),.v (.int .i64 v7)]) (u:=(v6,v7,())) rfl rfl Gm rfl (AB rfl) kr kr (AM (AX (c:=cdI) (v:=v6)) (AM (AX (c:=cdI) (v:=v7)) Aj)) kr hv8 ?_;refine AY (n:=28) AC 1 [(6,.v (.int .i64 v8))] [some ⟨10,115,[AH.enc x0],false⟩,some ⟨10,115,[AH.enc x1],false⟩] kr kr ?_;exact RunDS.done rfl (Ad [] trivial ⟨lv,trivial⟩)
  refine AQ ?_;have hq:=OI h; subst hq;exact ⟨⟨Fr 28 [(6,.v (.int .i64 v8))],[]⟩,AL,.inr rfl,[.v (.int .i64 v8)],kr,kr⟩
def GT:List AV->Option AV:=Dx Cb (fun a=>Az a.1 a.2.1) Ch
theorem GX:XOk 209 GT:=by
 refine AU Tryz.func209 (c:=Dl) ?h2 ⟨Tryz.call209⟩ Cb (fun a=>Az a.1 a.2.1) Ch (fun a=>(by show 4<=28; decide)) ?h3 ?h4
 case h2=>kernel_rfl
 case h3=>intro b; kernel_rfl
 case h4=>exact fun a b h=>F9 a.1 a.2.1 b h
theorem ACP {f:FuncId}(hc:Cm E0.P f){α β:Type}(s:Cs α) (F:α->Option β) (er:β->AV) (h:∀ a b,F a=some b->∃ t,XOk f t/\t (s.enc a)=some (er b)):XOk f (Dx s F er):=by
 refine ⟨hc,fun xs y hy w Z us hz hg hv=>?_⟩
 obtain ⟨a,ha,hy⟩:=OB hy
 obtain ⟨b,hb,rfl⟩:=Option.map_eq_some_iff.1 hy
 obtain ⟨t,hX,ht⟩:=h a b hb
 exact hX.2 _ _ ht w Z us hz hg (s.vr ha hv)
def Fo (a b:A5) (c:AG):Option Int :=
 if (c.1==1)=true then CZ (fun a b (v:(AG×Unit)×Unit)=>C4 (fun x (v:AG×Unit)=>Eh x v.1) a b v.1) a b c ((c,()),()) else
 if (c.1==2)=true then CZ (fun a b (v:AG×Unit)=>Dt a b v.1) a b c (c,()) else
 if (c.1==3)=true then CZ (fun a b (v:AG×Unit)=>Dt a b v.1) a b c (c,()) else
 if (c.1==4)=true then CZ (fun a b (v:(AG×AG×Unit)×Unit)=>C4 (fun x (v:AG×AG×Unit)=>Bm x v.1 v.2.1) a b v.1) a b c ((c,c,()),()) else
 if (c.1==5)=true then CZ (fun a b (v:(Unit×AG×Unit)×Unit)=>C4 (fun x (v:Unit×AG×Unit)=>Bn x v.2.1) a b v.1) a b c (((),c,()),()) else
 if (c.1==6)=true then CZ (fun a b (v:(AG×AG×Unit)×Unit)=>C4 (fun x (v:AG×AG×Unit)=>BX x v.1 v.2.1) a b v.1) a b c ((c,c,()),()) else
 if (c.1==7)=true then CZ (fun a b (v:(AG×AG×Unit)×Unit)=>C4 (fun x (v:AG×AG×Unit)=>BY x v.1 v.2.1) a b v.1) a b c ((c,c,()),()) else
 if (c.1==8)=true then CZ (fun a b (_:Unit)=>GJ a b) a b c () else
 if (c.1==10)=true then CZ (fun a b (v:Unit×AG×Unit)=>Ay a b v.2.1) a b c ((),c,()) else
 CZ (fun a b (_:Unit×Unit×Unit)=>Az a b) a b c ((),(),())
noncomputable def Ia:Cs (A5×A5×AG):=csC AH (csC AH U2)
noncomputable def Lj (r:Int):AV:=cdI.enc r
noncomputable def Qk:List AV->Option AV:=Dx Ia (fun a=>Fo a.1 a.2.1 a.2.2) Lj
theorem MB {α β:Type}{s:Cs α}{F:α->Option β}{er:β->AV}{a:α}{b:β}{xs:List AV}(h:F a=some b) (e:xs=s.enc a):Dx s F er xs=some (er b):=e ▸ Rn h
theorem ABS (a b:A5) (c:AG):Ia.enc (a,b,c)=[AH.enc a,AH.enc b,.pe (AA.enc c) 0,.pe (PZ c) 0]:=rfl
theorem Qr:XOk 165 Qk:=by
 refine ACP ⟨Tryz.call165⟩ Ia (fun a=>Fo a.1 a.2.1 a.2.2) Lj fun x r h=>?_
 obtain ⟨a,b,c⟩:=x
 rw [ABS]
 dsimp only at h
 unfold Fo at h
 unfold PZ
 rcases BE (c.1==1) with h1 | h1
 ·rw [if_pos h1] at h; rw [if_pos h1]
  exact ⟨_,DH (sx:=csC (cdP (cdF 178 (csC (cdP AA) csN) (fun _=>rfl))) csN) (hn:=fun _=>rfl) (G:=fun a b (v:(AG×Unit)×Unit)=>C4 (fun x (v:AG×Unit)=>Eh x v.1) a b v.1) (Jm (sx:=csC (cdP AA) csN) (hn:=fun _=>rfl) (G:=fun x (v:AG×Unit)=>Eh x v.1) S2),MB (a:=(a,b,c,((c,()),()),())) h rfl⟩
 rw [if_neg (by rw [h1]; decide)] at h; rw [if_neg (by rw [h1]; decide)]
 rcases BE (c.1==2) with h1 | h1
 ·rw [if_pos h1] at h; rw [if_pos h1]
  exact ⟨_,DH (sx:=csC (cdP AA) csN) (hn:=fun _=>rfl) (G:=fun a b (v:AG×Unit)=>Dt a b v.1) OK,MB (a:=(a,b,c,(c,()),())) h rfl⟩
 rw [if_neg (by rw [h1]; decide)] at h; rw [if_neg (by rw [h1]; decide)]
 rcases BE (c.1==3) with h1 | h1
 ·rw [if_pos h1] at h; rw [if_pos h1]
  exact ⟨_,DH (sx:=csC (cdP AA) csN) (hn:=fun _=>rfl) (G:=fun a b (v:AG×Unit)=>Dt a b v.1) OK,MB (a:=(a,b,c,(c,()),())) h rfl⟩
 rw [if_neg (by rw [h1]; decide)] at h; rw [if_neg (by rw [h1]; decide)]
 rcases BE (c.1==4) with h1 | h1
 ·rw [if_pos h1] at h; rw [if_pos h1]
  exact ⟨_,DH (sx:=csC (cdP (cdF 206 (csC (cdP (cdF 182 (csE (cdP AA)) (fun _=>rfl))) (csC (cdP AA) csN)) (fun _=>rfl))) csN) (hn:=fun _=>rfl) (G:=fun a b (v:(AG×AG×Unit)×Unit)=>C4 (fun x (v:AG×AG×Unit)=>Bm x v.1 v.2.1) a b v.1) (Jm (sx:=csC (cdP (cdF 182 (csE (cdP AA)) (fun _=>rfl))) (csC (cdP AA) csN)) (hn:=fun _=>rfl) (G:=fun x (v:AG×AG×Unit)=>Bm x v.1 v.2.1) Jn),MB (a:=(a,b,c,((c,c,()),()),())) h rfl⟩
 rw [if_neg (by rw [h1]; decide)] at h; rw [if_neg (by rw [h1]; decide)]
 rcases BE (c.1==5) with h1 | h1
 ·rw [if_pos h1] at h; rw [if_pos h1]
  exact ⟨_,DH (sx:=csC (cdP (cdF 206 (csC (cdP (cdF 183 csN (fun _=>rfl))) (csC (cdP AA) csN)) (fun _=>rfl))) csN) (hn:=fun _=>rfl) (G:=fun a b (v:(Unit×AG×Unit)×Unit)=>C4 (fun x (v:Unit×AG×Unit)=>Bn x v.2.1) a b v.1) (Jm (sx:=csC (cdP (cdF 183 csN (fun _=>rfl))) (csC (cdP AA) csN)) (hn:=fun _=>rfl) (G:=fun x (v:Unit×AG×Unit)=>Bn x v.2.1) Jo),MB (a:=(a,b,c,(((),c,()),()),())) h rfl⟩
 rw [if_neg (by rw [h1]; decide)] at h; rw [if_neg (by rw [h1]; decide)]
 rcases BE (c.1==6) with h1 | h1
 ·rw [if_pos h1] at h; rw [if_pos h1]
  exact ⟨_,DH (sx:=csC (cdP (cdF 206 (csC (cdP (cdF 184 (csE (cdP AA)) (fun _=>rfl))) (csC (cdP AA) csN)) (fun _=>rfl))) csN) (hn:=fun _=>rfl) (G:=fun a b (v:(AG×AG×Unit)×Unit)=>C4 (fun x (v:AG×AG×Unit)=>BX x v.1 v.2.1) a b v.1) (Jm (sx:=csC (cdP (cdF 184 (csE (cdP AA)) (fun _=>rfl))) (csC (cdP AA) csN)) (hn:=fun _=>rfl) (G:=fun x (v:AG×AG×Unit)=>BX x v.1 v.2.1) Jp),MB (a:=(a,b,c,((c,c,()),()),())) h rfl⟩
 rw [if_neg (by rw [h1]; decide)] at h; rw [if_neg (by rw [h1]; decide)]
 rcases BE (c.1==7) with h1 | h1
 ·rw [if_pos h1] at h; rw [if_pos h1]
  exact ⟨_,DH (sx:=csC (cdP (cdF 206 (csC (cdP (cdF 186 (csE (cdP AA)) (fun _=>rfl))) (csC (cdP AA) csN)) (fun _=>rfl))) csN) (hn:=fun _=>rfl) (G:=fun a b (v:(AG×AG×Unit)×Unit)=>C4 (fun x (v:AG×AG×Unit)=>BY x v.1 v.2.1) a b v.1) (Jm (sx:=csC (cdP (cdF 186 (csE (cdP AA)) (fun _=>rfl))) (csC (cdP AA) csN)) (hn:=fun _=>rfl) (G:=fun x (v:AG×AG×Unit)=>BY x v.1 v.2.1) Jq),MB (a:=(a,b,c,((c,c,()),()),())) h rfl⟩
 rw [if_neg (by rw [h1]; decide)] at h; rw [if_neg (by rw [h1]; decide)]
 rcases BE (c.1==8) with h1 | h1
 ·rw [if_pos h1] at h; rw [if_pos h1]
  exact ⟨_,DH (sx:=csN) (hn:=fun _=>rfl) (G:=fun a b (_:Unit)=>GJ a b) S7,MB (a:=(a,b,c,(),())) h rfl⟩
 rw [if_neg (by rw [h1]; decide)] at h; rw [if_neg (by rw [h1]; decide)]
 rcases BE (c.1==10) with h1 | h1
 ·rw [if_pos h1] at h; rw [if_pos h1]
  exact ⟨_,DH (sx:=csC (cdP (cdF 208 csN (fun _=>rfl))) (csC (cdP (cdF 190 (csE (cdP AA)) (fun _=>rfl))) csN)) (hn:=fun _=>rfl) (G:=fun a b (v:Unit×AG×Unit)=>Ay a b v.2.1) GW,MB (a:=(a,b,c,((),c,()),())) h rfl⟩
 rw [if_neg (by rw [h1]; decide)] at h; rw [if_neg (by rw [h1]; decide)]
 exact ⟨_,DH (sx:=csC (cdP (cdF 208 csN (fun _=>rfl))) (csC (cdP (cdF 191 csN (fun _=>rfl))) csN)) (hn:=fun _=>rfl) (G:=fun a b (_:Unit×Unit×Unit)=>Az a b) GX,MB (a:=(a,b,c,((),(),()),())) h rfl⟩
/- trestle/court.first[trestle/court.seated,trestle/court.order] -/
noncomputable def DQ:Code:=BG Tryz.f76
def Au (x0:(List AG)):Nat->(List UInt8)->(List UInt8)->(List UInt8)->Int->Int->(List UInt8)->Bool->Bool->(List (List UInt8))->Int->(List UInt8)->(List UInt8)->(List UInt8)->Int->Int->(List UInt8)->Bool->Bool->(List (List UInt8))->Int->Int->Option ((Unit) ⊕ (Int×Int))
 | 0,_,_,_,_,_,_,_,_,_,_,_,_,_,_,_,_,_,_,_,_,_=>none
 | f + 1,c1,c2,c3,c4,c5,c6,c7,c8,c9,c10,c11,c12,c13,c14,c15,c16,c17,c18,c19,c20,c21 =>
  if (decide (c21 < (x0.length:Int)))=true then
  (idx x0 c21).bind fun v23 =>
  (Fo ((c1,c2,c3,c4,c5,c6,c7,c8,c9),c10) ((c11,c12,c13,c14,c15,c16,c17,c18,c19),c20) v23).bind fun v24 =>
  if (v24 != 0)=true then
  some (.inr (c21,v24))
  else
  Au x0 f c1 c2 c3 c4 c5 c6 c7 c8 c9 c10 c11 c12 c13 c14 c15 c16 c17 c18 c19 c20 (wr .i64 (c21 + 1))
  else
  some (.inl ())
def BH (x0:(List AG)) (x1:A5) (x2:A5):Option (Int×Int) :=
 (Au x0 100000 x1.1.1 x1.1.2.1 x1.1.2.2.1 x1.1.2.2.2.1 x1.1.2.2.2.2.1 x1.1.2.2.2.2.2.1 x1.1.2.2.2.2.2.2.1 x1.1.2.2.2.2.2.2.2.1 x1.1.2.2.2.2.2.2.2.2 x1.2 x2.1.1 x2.1.2.1 x2.1.2.2.1 x2.1.2.2.2.1 x2.1.2.2.2.2.1 x2.1.2.2.2.2.2.1 x2.1.2.2.2.2.2.2.1 x2.1.2.2.2.2.2.2.2.1 x2.1.2.2.2.2.2.2.2.2 x2.2 0).bind fun r28 =>
 match r28 with
 | (.inl _w29) =>
  some ((-1),0)
 | (.inr w30) =>
  some (w30.1,w30.2)
noncomputable def DW:Cs ((List AG)×A5×A5×Unit):=(csC (cdL 1 EH) (csC AH (csC AH csN)))
noncomputable def DX (r:Int×Int):AV:= .tp [cdI.enc r.1,cdI.enc r.2]
theorem EJ (x0:(List AG)):∀ (f:Nat) (c1:(List UInt8)) (c2:(List UInt8)) (c3:(List UInt8)) (c4:Int) (c5:Int) (c6:(List UInt8)) (c7:Bool) (c8:Bool) (c9:(List (List UInt8))) (c10:Int) (c11:(List UInt8)) (c12:(List UInt8)) (c13:(List UInt8)) (c14:Int) (c15:Int) (c16:(List UInt8)) (c17:Bool) (c18:Bool) (c19:(List (List UInt8))) (c20:Int) (c21:Int) (r:(Unit) ⊕ (Int×Int)),Au x0 f c1 c2 c3 c4 c5 c6 c7 c8 c9 c10 c11 c12 c13 c14 c15 c16 c17 c18 c19 c20 c21=some r->SemN E0 ⟨none,false⟩ (pc DQ [1,0,1,0,0]) f ⟨Fr 27 [(4,.pt 0 0 0),(5,.pt 1 0 0),(11,.sl 1 (x0.map EH.enc)),(12,.v (.int .i64 (x0.length:Int))),(13,.v (.int .i64 c21))],[some ⟨10,115,[.ag [.st c1,.st c2,.st c3,.v (.int .i64 c4),.v (.int .i64 c5),.st c6,.v (.bool c7),.v (.bool c8),.sl 1 (c9.map cdS.enc),.v (.int .i64 c10)]],false⟩,some ⟨10,115,[.ag [.st c11,.st c12,.st c13,.v (.int .i64 c14),.v (.int .i64 c15),.st c16,.v (.bool c17),.v (.bool c18),.sl 1 (c19.map cdS.enc),.v (.int .i64 c20)]],false⟩]⟩ (fun e s=>match r with
 | (.inl _w)=>e=(.exit 0)/\Wk E0 s ⟨Fr 27 [],[]⟩
 | (.inr w)=>e = .ret/\Wk E0 s ⟨Fr 27 [(6,.v (.int .i64 w.1)),(7,.v (.int .i64 w.2))],[]⟩):=by
 intro f;induction f with
 | zero=>intro c1 c2 c3 c4 c5 c6 c7 c8 c9 c10 c11 c12 c13 c14 c15 c16 c17 c18 c19 c20 c21 r h; cases h
 | succ f ih0 =>
  intro c1 c2 c3 c4 c5 c6 c7 c8 c9 c10 c11 c12 c13 c14 c15 c16 c17 c18 c19 c20 c21 r h
  have ih:=fun (c1:(List UInt8)) (c2:(List UInt8)) (c3:(List UInt8)) (c4:Int) (c5:Int) (c6:(List UInt8)) (c7:Bool) (c8:Bool) (c9:(List (List UInt8))) (c10:Int) (c11:(List UInt8)) (c12:(List UInt8)) (c13:(List UInt8)) (c14:Int) (c15:Int) (c16:(List UInt8)) (c17:Bool) (c18:Bool) (c19:(List (List UInt8))) (c20:Int) (c21:Int)=>ih0 c1 c2 c3 c4 c5 c6 c7 c8 c9 c10 c11 c12 c13 c14 c15 c16 c17 c18 c19 c20 c21 r
  unfold Au at h;refine BR ?_
  let p1:Option Blk:=some ⟨10,115,[.ag [.st c11,.st c12,.st c13,.v (.int .i64 c14),.v (.int .i64 c15),.st c16,.v (.bool c17),.v (.bool c18),.sl 1 (c19.map cdS.enc),.v (.int .i64 c20)]],false⟩
  let p2:Option Blk:=some ⟨10,115,[.ag [.st c1,.st c2,.st c3,.v (.int .i64 c4),.v (.int .i64 c5),.st c6,.v (.bool c7),.v (.bool c8),.sl 1 (c9.map cdS.enc),.v (.int .i64 c10)]],false⟩
  let p3:Nat×AV:=(13,.v (.int .i64 c21))
  let p4:Nat×AV:=(12,.v (.int .i64 (x0.length:Int)))
  let p5:Nat×AV:=(11,.sl 1 (x0.map EH.enc))
  let p6:Nat×AV:=(5,.pt 1 0 0)
  let p7:Nat×AV:=(4,.pt 0 0 0)
  refine AJ AC [p7,p6,p5,p4,p3,(14,.v (.bool (decide (c21 < (x0.length:Int)))))] [p2,p1] ?_;refine AF ?_;refine AP (b:=(decide (c21 < (x0.length:Int)))) kr (fun hb22=>?_) (fun hb22=>?_)
  ·rw [if_pos hb22] at h
   refine AS ?_;refine AF ?_;refine AZ ?_;refine AF ?_;obtain ⟨v23,hv23,h⟩:=OB h
   let p8:Nat×AV:=(8,.v (.int .i64 c21))
   refine AK (s1:=⟨Fr 27 [p7,p6,p8,(9,EH.enc v23),p5,p4,p3],[p2,p1]⟩) ?_ ?_
   ·refine AD (n:=27) AC 1 [p7,p6,p5,p4,p3,(15,.v (.int .i64 c21))] [p2,p1] kr ?_
    refine AR AC 0 rfl (C7 (AB rfl) rfl (AO (a:= .sl 1 (x0.map EH.enc)) (b:= .v (.int .i64 c21)) kr kr (Dn (e:=EH.enc) (el:=117) (k:=1) (ki:= .i64) kr kr hv23))) ?_;exact AW AC
   refine AF ?_;obtain ⟨v24,hv24,h⟩:=OB h;refine AK (s1:=⟨Fr 27 [p7,p6,p8,(10,.v (.int .i64 v24)),p5,p4,p3],[p2,p1]⟩) ?_ ?_
   ·refine AD (n:=27) AC 3 [p7,p6,p8,p5,p4,p3,(18,EH.enc v23),(19,.ag [.st c1,.st c2,.st c3,.v (.int .i64 c4),.v (.int .i64 c5),.st c6,.v (.bool c7),.v (.bool c8),.sl 1 (c9.map cdS.enc),.v (.int .i64 c10)]),(20,.ag [.st c11,.st c12,.st c13,.v (.int .i64 c14),.v (.int .i64 c15),.st c16,.v (.bool c17),.v (.bool c18),.sl 1 (c19.map cdS.enc),.v (.int .i64 c20)])] [p2,p1] kr ?_
    refine AT (caps:=[.pe (AA.enc v23) 0,.pe (PZ v23) 0]) (xs:=[.ag [.st c1,.st c2,.st c3,.v (.int .i64 c4),.v (.int .i64 c5),.st c6,.v (.bool c7),.v (.bool c8),.sl 1 (c9.map cdS.enc),.v (.int .i64 c10)],.ag [.st c11,.st c12,.st c13,.v (.int .i64 c14),.v (.int .i64 c15),.st c16,.v (.bool c17),.v (.bool c18),.sl 1 (c19.map cdS.enc),.v (.int .i64 c20)]]) (u:=(((c1,c2,c3,c4,c5,c6,c7,c8,c9),c10),((c11,c12,c13,c14,c15,c16,c17,c18,c19),c20),v23)) rfl rfl Qr rfl (AB rfl) kr kr (AM (AX (c:=AH) (v:=((c1,c2,c3,c4,c5,c6,c7,c8,c9),c10))) (AM (AX (c:=AH) (v:=((c11,c12,c13,c14,c15,c16,c17,c18,c19),c20))) (T4 (n:=10) (s:=U2) (a:=v23)))) (.inl kr) hv24 ?_;exact AW AC
   refine AJ AC [p7,p6,p8,(10,.v (.int .i64 v24)),p5,p4,p3,(23,.v (.bool (v24 != 0)))] [p2,p1] ?_;refine AP (b:=(v24 != 0)) kr (fun hb25=>?_) (fun hb25=>?_)
   ·rw [if_pos hb25] at h
    refine AF ?_;refine AK (s1:=⟨Fr 27 [(6,.v (.int .i64 c21)),(7,.v (.int .i64 v24))],[]⟩) ?_ ?_
    ·refine AD (n:=27) AC 4 [(6,.v (.int .i64 c21)),(7,.v (.int .i64 v24))] [p2,p1] kr ?_
     exact AI rfl (Ad [] trivial ⟨lv,lv,trivial⟩)
    refine AQ ?_;have hq:=OI h; subst hq;exact ⟨rfl,AL⟩
   ·rw [BZ hb25] at h
    refine AS ?_
    let p9:Nat×AV:=(13,.v (.int .i64 (wr .i64 (c21 + 1))))
    refine Cn AC [p7,p6,p5,p4,p9] [p2,p1] ?_;exact Ac (s1:=⟨Fr 27 [p7,p6,p5,p4,p9],[p2,p1]⟩) (Ad [0,1] ⟨⟨_,rfl,Ga⟩,⟨_,rfl,Ga⟩,trivial⟩ ⟨lv,lv,lv,lv,lv,trivial⟩) (ih c1 c2 c3 c4 c5 c6 c7 c8 c9 c10 c11 c12 c13 c14 c15 c16 c17 c18 c19 c20 (wr .i64 (c21 + 1)) h)
  ·rw [BZ hb22] at h
   refine Bd ?_;have hq:=OI h; subst hq;exact ⟨rfl,(Ad [] trivial trivial)⟩
theorem HI (x0:(List AG)) (x1:A5) (x2:A5) (r:Int×Int) (h:BH x0 x1 x2=some r):Sem E0 ⟨none,false⟩ DQ ⟨Fr 27 (A3 0 (DW.enc (x0,x1,x2,()))),[]⟩ fun e s'=>(e = .normal\/e = .ret)/\∃ xs,EG E0.P s'.fr s'.hp Tryz.f76.results.toList=some xs/\EN xs=DX r:=by
 unfold BH at h;refine An (BP (s1:=⟨Fr 27 [(0,.sl 1 (x0.map EH.enc)),(1,AH.enc x1),(2,AH.enc x2)],[]⟩) AL ?_)
 let p1:Option Blk:=some ⟨10,115,[AH.enc x2],false⟩
 let p2:Option Blk:=some ⟨10,115,[AH.enc x1],false⟩
 let p3:Nat×AV:=(5,.pt 1 0 0)
 let p4:Nat×AV:=(4,.pt 0 0 0)
 refine AJ AC [(0,.sl 1 (x0.map EH.enc)),p4,p3] [p2,p1] ?_;refine AF ?_;refine AF ?_
 let p5:Nat×AV:=(13,.v (.int .i64 0))
 let p6:Nat×AV:=(12,.v (.int .i64 (x0.length:Int)))
 let p7:Nat×AV:=(11,.sl 1 (x0.map EH.enc))
 refine AK (s1:=⟨Fr 27 [p4,p3,p7,p6,p5],[p2,p1]⟩) ?_ ?_
 ·refine AD (n:=27) AC 1 [p4,p3,p7] [p2,p1] kr ?_
  refine AR AC 0 rfl (C7 (AB rfl) rfl (Ck (a:= .sl 1 (x0.map EH.enc)) kr (Ba (el:=117) kr))) ?_;exact AW AC
 refine AZ ?_;obtain ⟨r28,hr28,h⟩:=OB h;refine Bj (n:=100000) ?_;rcases r28 with w29 | w30
 ·try dsimp only at h
  refine Aq (Ac (s1:=⟨Fr 27 [p4,p3,p7,p6,p5],[p2,p1]⟩) (Ad [0,1] ⟨⟨_,rfl,Ga⟩,⟨_,rfl,Ga⟩,trivial⟩ ⟨lv,lv,lv,lv,lv,trivial⟩) (EJ x0 _ x1.1.1 x1.1.2.1 x1.1.2.2.1 x1.1.2.2.2.1 x1.1.2.2.2.2.1 x1.1.2.2.2.2.2.1 x1.1.2.2.2.2.2.2.1 x1.1.2.2.2.2.2.2.2.1 x1.1.2.2.2.2.2.2.2.2 x1.2 x2.1.1 x2.1.2.1 x2.1.2.2.1 x2.1.2.2.2.1 x2.1.2.2.2.2.1 x2.1.2.2.2.2.2.1 x2.1.2.2.2.2.2.2.1 x2.1.2.2.2.2.2.2.2.1 x2.1.2.2.2.2.2.2.2.2 x2.2 0 _ hr28)) ?_;refine AJ AC [(6,.v (.int .i64 (-1))),(7,.v (.int .i64 0))] [] ?_;refine AQ ?_;have hq:=OI h; subst hq;exact ⟨⟨Fr 27 [(6,.v (.int .i64 (-1))),(7,.v (.int .i64 0))],[]⟩,AL,.inr rfl,[.v (.int .i64 (-1)),.v (.int .i64 0)],kr,kr⟩
 ·try dsimp only at h
  refine Aq (Ac (s1:=⟨Fr 27 [p4,p3,p7,p6,p5],[p2,p1]⟩) (Ad [0,1] ⟨⟨_,rfl,Ga⟩,⟨_,rfl,Ga⟩,trivial⟩ ⟨lv,lv,lv,lv,lv,trivial⟩) (EJ x0 _ x1.1.1 x1.1.2.1 x1.1.2.2.1 x1.1.2.2.2.1 x1.1.2.2.2.2.1 x1.1.2.2.2.2.2.1 x1.1.2.2.2.2.2.2.1 x1.1.2.2.2.2.2.2.2.1 x1.1.2.2.2.2.2.2.2.2 x1.2 x2.1.1 x2.1.2.1 x2.1.2.2.1 x2.1.2.2.2.1 x2.1.2.2.2.2.1 x2.1.2.2.2.2.2.1 x2.1.2.2.2.2.2.2.1 x2.1.2.2.2.2.2.2.2.1 x2.1.2.2.2.2.2.2.2.2 x2.2 0 _ hr28)) ?_;have hq:=OI h; subst hq;exact ⟨⟨Fr 27 [(6,.v (.int .i64 w30.1)),(7,.v (.int .i64 w30.2))],[]⟩,AL,.inr rfl,[.v (.int .i64 w30.1),.v (.int .i64 w30.2)],kr,kr⟩
noncomputable def Hi:List AV->Option AV:=Dx DW (fun a=>BH a.1 a.2.1 a.2.2.1) DX
theorem Hj:XOk 76 Hi:=by
 refine AU Tryz.func76 (c:=DQ) ?h2 ⟨Tryz.call76⟩ DW (fun a=>BH a.1 a.2.1 a.2.2.1) DX (fun a=>(by show 3<=27; decide)) ?h3 ?h4
 case h2=>kernel_rfl
 case h3=>intro b; kernel_rfl
 case h4=>exact fun a b h=>HI a.1 a.2.1 a.2.2.1 b h
/- trestle/court.table -/
noncomputable def Fa:Code:=BG Tryz.f107
def D7 (x1:(List Ai)):Nat->Int->(List (List Int))->Option (((List (List Int))))
 | 0,_,_=>none
 | f + 1,c15,c16 =>
  if (decide (c15 < ((List.replicate (x1.length:Int).toNat ([]:(List Int))).length:Int)))=true then
  if (Ur 8 (x1.length:Int))=true then
  (idx c16 c15).bind fun _v23 =>
  D7 x1 f (wr .i64 (c15 + 1)) (c16.set c15.toNat (List.replicate (x1.length:Int).toNat (0:Int)))
  else none
  else
  some c16
def JS (c40:Int) (c43:Int) (c44:(List (List Int))) (v48:Int×Int):Option (((List (List Int)))) :=
 if (v48.2==1)=true then
 (idx c44 c43).bind fun v63 =>
 (idx v63 c40).bind fun v67 =>
 (idx v63 c40).bind fun _v68 =>
 some (c44.set c43.toNat (v63.set c40.toNat (wr .i64 (v67 + 1))))
 else
 some c44
def Hs (c40:Int) (c43:Int) (c44:(List (List Int))) (v48:Int×Int):Option (((List (List Int)))) :=
 if (v48.2==(-1))=true then
 (idx c44 c40).bind fun v50 =>
 (idx v50 c43).bind fun v54 =>
 (idx v50 c43).bind fun _v55 =>
 some (c44.set c40.toNat (v50.set c43.toNat (wr .i64 (v54 + 1))))
 else
 (JS c40 c43 c44 v48).bind fun r75 =>
 some r75
def Dp (v32:(List A5)) (v37:(List AG)×Bool) (c40:Int):Nat->Int->(List (List Int))->Option (((List (List Int))))
 | 0,_,_=>none
 | f + 1,c43,c44 =>
  if (decide (c43 < c40))=true then
  (idx v32 c40).bind fun v46 =>
  (idx v32 c43).bind fun v47 =>
  (BH v37.1 v46 v47).bind fun v48 =>
  (Hs c40 c43 c44 v48).bind fun r78 =>
  Dp v32 v37 c40 f (wr .i64 (c43 + 1)) r78
  else
  some c44
def Do (v32:(List A5)) (v37:(List AG)×Bool):Nat->Int->(List (List Int))->Option (((List (List Int))))
 | 0,_,_=>none
 | f + 1,c40,c41 =>
  if (decide (c40 < (v32.length:Int)))=true then
  (Dp v32 v37 c40 100000 0 c41).bind fun r82 =>
  Do v32 v37 f (wr .i64 (c40 + 1)) r82
  else
  some c41
def GN (x0:(List (List AG))) (v32:(List A5)):Nat->Int->(List (List Int))->Option (((List (List Int))) ⊕ (Unit))
 | 0,_,_=>none
 | f + 1,c33,c34 =>
  if (decide (c33 < (x0.length:Int)))=true then
  (idx x0 c33).bind fun v36 =>
  (HO v36).bind fun v37 =>
  if (!v37.2)=true then
  some (.inr ())
  else
  (Do v32 v37 100000 0 c34).bind fun r86 =>
  GN x0 v32 f (wr .i64 (c33 + 1)) r86
  else
  some (.inl c34)
def H1 (x0:(List (List AG))) (x1:(List Ai)):Option ((List (List Int))×Bool) :=
 (if (decide ((x0.length:Int) > 16))=true then some true else some (decide ((x1.length:Int) > 64))).bind fun j1 =>
 if j1=true then
 some (([]:(List (List Int))),false)
 else
 if (Ur 24 (x1.length:Int))=true then
 (D7 x1 100000 0 (List.replicate (x1.length:Int).toNat ([]:(List Int)))).bind fun r29 =>
 (I8 x1).bind fun v32 =>
 (GN x0 v32 100000 0 r29).bind fun r90 =>
 match r90 with
 | (.inl w91) =>
  some (w91,true)
 | (.inr _w97) =>
  some (([]:(List (List Int))),false)
 else none
theorem QK {L:List Asn}(x1:(List Ai)) (x0:(List (List AG))) (e14:AV):∀ (f:Nat) (c15:Int) (c16:(List (List Int))) (r:((List (List Int)))),D7 x1 f c15 c16=some r->∀ (hp:Hp),T hp ((own_ (ocL 1 48 (ocL 1 3 (ocV cdI))) e14 c16)::L)->SemYN E0 ⟨none,false⟩ (pc Fa [1,1,1,0,1,0,0]) f ⟨Fr 104 [(0,.sl 1 (x0.map (cdL 5 AA).enc)),(1,.sl 9 (x1.map AE.enc)),(6,e14),(29,.v (.int .i64 ((List.replicate (x1.length:Int).toNat ([]:(List Int))).length:Int))),(30,.v (.int .i64 c15))],hp⟩ (fun e s=>e=(.exit 0)/\∃ s2,(∃ (h':Hp),T h' ((own_ (ocL 1 48 (ocL 1 3 (ocV cdI))) e14 r)::L)/\s2=⟨Fr 104 [(0,.sl 1 (x0.map (cdL 5 AA).enc)),(1,.sl 9 (x1.map AE.enc)),(6,e14)],h'⟩)/\WkY E0 s s2):=by
 intro f;induction f with
 | zero=>intro c15 c16 r h; cases h
 | succ f ih0 =>
  intro c15 c16 r h  hp hT;unfold D7 at h;refine Ge ?_
  let p1:Nat×AV:=(30,.v (.int .i64 c15))
  let p2:Nat×AV:=(29,.v (.int .i64 ((List.replicate (x1.length:Int).toNat ([]:(List Int))).length:Int)))
  let p3:Nat×AV:=(1,.sl 9 (x1.map AE.enc))
  let p4:Nat×AV:=(0,.sl 1 (x0.map (cdL 5 AA).enc))
  refine C5 AC [p4,p3,(6,e14),p2,p1,(31,.v (.bool (decide (c15 < ((List.replicate (x1.length:Int).toNat ([]:(List Int))).length:Int)))))] ?_;refine BF ?_;refine Dz (b:=(decide (c15 < ((List.replicate (x1.length:Int).toNat ([]:(List Int))).length:Int)))) kr (fun hb17=>?_) (fun hb17=>?_)
  ·rw [if_pos hb17] at h
   refine SemY.skip ?_;refine BF ?_;refine Cv ?_;refine C5 AC [p4,p3,(6,e14),(7,.v (.int .i64 c15)),p2,p1] ?_;refine As ?_;refine CP AC 3 ?_;refine CB AC 0 rfl (C7 (AB rfl) rfl (Ck (a:= .sl 9 (x1.map AE.enc)) kr (Ba (el:=42) kr))) ?_;by_cases hk18:(Ur 8 (x1.length:Int))=true
   case neg=>rw [if_neg hk18] at h; cases h
   rw [if_pos hk18] at h;obtain ⟨e22,hp19,hb20,hT21⟩:=VL (P:=Tryz.prog) (o:=(ocV cdI)) (k:=1) (t:=3) (ty:=48) (bytes:=8) (kn:= .i64) (kc:= .i64) (m:=(x1.length:Int)) (x0:=0) hT (fun _=>⟨rfl,rfl⟩) kr kr hk18;refine CB AC 0 rfl (ACZ (AB rfl) rfl kr (W1 (x:= .v (.int .i64 (x1.length:Int))) (y:= .v (.int .i64 (x1.length:Int))) kr kr hb20)) ?_;obtain ⟨v23,hv23,h⟩:=OB h
   have hT24:=(hT21.front 1 rfl)
   refine CB AC 0 rfl (C7 (AB rfl) rfl (AO (a:=e14) (b:= .v (.int .i64 c15)) kr kr (Tn (bytes:=24) hT24 kr hv23))) ?_;obtain ⟨hp25,hs26,hT27⟩:=AAE (P:=Tryz.prog) (ty:=48) ADB hT24 (D6 hv23).2 kr;refine RunL.store AC (y:=eAt e14 c15.toNat) (z:=e22) rfl (AB rfl) kr kr hs26 ?_;refine Dy rfl (SemY.fr (l':=[p4,p3,(6,e14),p2,p1]) kr ?_);refine As ?_;refine CP AC 2 ?_;refine Dy rfl ?_;exact D4 WkY.f1 (ih0 (wr .i64 (c15 + 1)) (c16.set c15.toNat (List.replicate (x1.length:Int).toNat (0:Int))) _ h  hp25 hT27)
  ·rw [BZ hb17] at h
   refine SemY.exit ?_;have hq:=OI h; subst hq;exact ⟨rfl,_,⟨hp,hT,rfl⟩,WkY.f1⟩
theorem QJ {L:List Asn}{hp:Hp}(c40:Int) (c43:Int) (c44:(List (List Int))) (v48:Int×Int) (x0:(List (List AG))) (e14:AV) (v32:(List A5)) (c33:Int) (v37:(List AG)×Bool) (r:((List (List Int)))) (h:JS c40 c43 c44 v48=some r) (hT:T hp ((own_ (ocL 1 48 (ocL 1 3 (ocV cdI))) e14 c44)::L)):SemY E0 ⟨none,false⟩ (pc Fa [1,1,1,1,1,0,1,0,0,1,1,0,0,1,1,1,1,0,0,1,1,0,0,1,1,0,0,1,1,0,0,1,1,1,0,1,1,1]) ⟨Fr 104 [(6,e14),(8,.sl 10 (v32.map AH.enc)),(11,.sl 1 (v37.1.map EH.enc)),(13,.v (.int .i64 c40)),(14,.v (.int .i64 c43)),(42,.sl 1 (x0.map (cdL 5 AA).enc)),(43,.v (.int .i64 (x0.length:Int))),(44,.v (.int .i64 c33)),(56,.v (.int .i64 (v32.length:Int))),(57,.v (.int .i64 c40)),(60,.v (.int .i64 c40)),(61,.v (.int .i64 c43)),(89,.v (.bool (v48.2==1)))],hp⟩ (fun e s=>e = .normal/\∃ s2,(∃ (h':Hp),T h' ((own_ (ocL 1 48 (ocL 1 3 (ocV cdI))) e14 r)::L)/\s2=⟨Fr 104 [(6,e14),(8,.sl 10 (v32.map AH.enc)),(11,.sl 1 (v37.1.map EH.enc)),(13,.v (.int .i64 c40)),(42,.sl 1 (x0.map (cdL 5 AA).enc)),(43,.v (.int .i64 (x0.length:Int))),(44,.v (.int .i64 c33)),(56,.v (.int .i64 (v32.length:Int))),(57,.v (.int .i64 c40)),(60,.v (.int .i64 c40)),(61,.v (.int .i64 c43))],h'⟩)/\WkY E0 s s2):=by
 unfold JS at h;refine Dz (b:=(v48.2==1)) kr (fun hb62=>?_) (fun hb62=>?_)
 ·rw [if_pos hb62] at h
  refine As ?_;refine CP AC 2 ?_;obtain ⟨v63,hv63,h⟩:=OB h;refine CB AC 0 rfl (C7 (AB rfl) rfl (AO (a:=e14) (b:= .v (.int .i64 c43)) kr kr (Tn (bytes:=24) hT kr hv63))) ?_;obtain ⟨e64,hl65,hT66⟩:=Wy (P:=Tryz.prog) (ty:=48) hT (D6 hv63).2 kr kr;refine CB AC 0 rfl (C7 (AB rfl) rfl (Ip (p:=eAt e14 c43.toNat) kr hl65)) ?_;refine CP AC 1 ?_;obtain ⟨v67,hv67,h⟩:=OB h;refine CB AC 0 rfl (C7 (AB rfl) rfl (AO (a:=e64) (b:= .v (.int .i64 c40)) kr kr (Tn (bytes:=8) hT66 kr hv67))) ?_;refine CB AC 0 rfl (C7 (AB rfl) rfl (Ip (p:=eAt e64 c40.toNat) kr (LL (y:= .v (.int .i64 v67)) (m:=1) (g:=false) hT66 (D6 hv67).2 kr kr kr))) ?_;refine CP AC 1 ?_;obtain ⟨v68,hv68,h⟩:=OB h;refine CB AC 0 rfl (C7 (AB rfl) rfl (AO (a:=e64) (b:= .v (.int .i64 c40)) kr kr (Tn (bytes:=8) hT66 kr hv68))) ?_;obtain ⟨hp69,hs70,hT71⟩:=Qh (P:=Tryz.prog) (ty:=3) (y:= .v (.int .i64 (wr .i64 (v67 + 1)))) (v':=(wr .i64 (v67 + 1))) hT66 (D6 hv68).2 kr kr kr;refine RunL.store AC (y:=eAt e64 c40.toNat) (z:= .v (.int .i64 (wr .i64 (v67 + 1)))) rfl (AB rfl) kr kr hs70 ?_;refine Dy rfl ?_;have hq:=OI h; subst hq
  have hT74:=(Xy hT71)
  exact ⟨rfl,_,⟨hp69,hT74,rfl⟩,WkY.f1⟩
 ·rw [BZ hb62] at h
  refine SemY.skip ?_;have hq:=OI h; subst hq;exact ⟨rfl,_,⟨hp,hT,rfl⟩,WkY.f1⟩
theorem QI {L:List Asn}{hp:Hp}(c40:Int) (c43:Int) (c44:(List (List Int))) (v48:Int×Int) (x0:(List (List AG))) (e14:AV) (v32:(List A5)) (c33:Int) (v37:(List AG)×Bool) (r:((List (List Int)))) (h:Hs c40 c43 c44 v48=some r) (hT:T hp ((own_ (ocL 1 48 (ocL 1 3 (ocV cdI))) e14 c44)::L)):SemY E0 ⟨none,false⟩ (pc Fa [1,1,1,1,1,0,1,0,0,1,1,0,0,1,1,1,1,0,0,1,1,0,0,1,1,0,0,1,1,0,0,1,1,1,0,1]) ⟨Fr 104 [(6,e14),(8,.sl 10 (v32.map AH.enc)),(11,.sl 1 (v37.1.map EH.enc)),(13,.v (.int .i64 c40)),(14,.v (.int .i64 c43)),(42,.sl 1 (x0.map (cdL 5 AA).enc)),(43,.v (.int .i64 (x0.length:Int))),(44,.v (.int .i64 c33)),(56,.v (.int .i64 (v32.length:Int))),(57,.v (.int .i64 c40)),(60,.v (.int .i64 c40)),(61,.v (.int .i64 c43)),(77,.v (.int .i64 v48.2)),(78,.v (.bool (v48.2==(-1))))],hp⟩ (fun e s=>e = .normal/\∃ s2,(∃ (h':Hp),T h' ((own_ (ocL 1 48 (ocL 1 3 (ocV cdI))) e14 r)::L)/\s2=⟨Fr 104 [(6,e14),(8,.sl 10 (v32.map AH.enc)),(11,.sl 1 (v37.1.map EH.enc)),(13,.v (.int .i64 c40)),(42,.sl 1 (x0.map (cdL 5 AA).enc)),(43,.v (.int .i64 (x0.length:Int))),(44,.v (.int .i64 c33)),(56,.v (.int .i64 (v32.length:Int))),(57,.v (.int .i64 c40)),(60,.v (.int .i64 c40)),(61,.v (.int .i64 c43))],h'⟩)/\WkY E0 s s2):=by
 unfold Hs at h;refine Dz (b:=(v48.2==(-1))) kr (fun hb49=>?_) (fun hb49=>?_)
 ·rw [if_pos hb49] at h
  refine As ?_;refine CP AC 2 ?_;obtain ⟨v50,hv50,h⟩:=OB h;refine CB AC 0 rfl (C7 (AB rfl) rfl (AO (a:=e14) (b:= .v (.int .i64 c40)) kr kr (Tn (bytes:=24) hT kr hv50))) ?_;obtain ⟨e51,hl52,hT53⟩:=Wy (P:=Tryz.prog) (ty:=48) hT (D6 hv50).2 kr kr;refine CB AC 0 rfl (C7 (AB rfl) rfl (Ip (p:=eAt e14 c40.toNat) kr hl52)) ?_;refine CP AC 1 ?_;obtain ⟨v54,hv54,h⟩:=OB h;refine CB AC 0 rfl (C7 (AB rfl) rfl (AO (a:=e51) (b:= .v (.int .i64 c43)) kr kr (Tn (bytes:=8) hT53 kr hv54))) ?_;refine CB AC 0 rfl (C7 (AB rfl) rfl (Ip (p:=eAt e51 c43.toNat) kr (LL (y:= .v (.int .i64 v54)) (m:=1) (g:=false) hT53 (D6 hv54).2 kr kr kr))) ?_;refine CP AC 1 ?_;obtain ⟨v55,hv55,h⟩:=OB h;refine CB AC 0 rfl (C7 (AB rfl) rfl (AO (a:=e51) (b:= .v (.int .i64 c43)) kr kr (Tn (bytes:=8) hT53 kr hv55))) ?_;obtain ⟨hp56,hs57,hT58⟩:=Qh (P:=Tryz.prog) (ty:=3) (y:= .v (.int .i64 (wr .i64 (v54 + 1)))) (v':=(wr .i64 (v54 + 1))) hT53 (D6 hv55).2 kr kr kr;refine RunL.store AC (y:=eAt e51 c43.toNat) (z:= .v (.int .i64 (wr .i64 (v54 + 1)))) rfl (AB rfl) kr kr hs57 ?_;refine Dy rfl ?_;have hq:=OI h; subst hq
  have hT61:=(Xy hT58)
  exact ⟨rfl,_,⟨hp56,hT61,rfl⟩,WkY.f1⟩
 ·rw [BZ hb49] at h
  refine C5 AC [(6,e14),(8,.sl 10 (v32.map AH.enc)),(11,.sl 1 (v37.1.map EH.enc)),(13,.v (.int .i64 c40)),(14,.v (.int .i64 c43)),(42,.sl 1 (x0.map (cdL 5 AA).enc)),(43,.v (.int .i64 (x0.length:Int))),(44,.v (.int .i64 c33)),(56,.v (.int .i64 (v32.length:Int))),(57,.v (.int .i64 c40)),(60,.v (.int .i64 c40)),(61,.v (.int .i64 c43)),(89,.v (.bool (v48.2==1)))] ?_;obtain ⟨r75,hr75,h⟩:=OB h;refine Nf (QJ c40 c43 c44 v48 x0 e14 v32 c33 v37 _ hr75 hT) ?_;rintro _ ⟨hp76,hT77,rfl⟩;have hq:=OI h; subst hq;exact ⟨rfl,_,⟨hp76,hT77,rfl⟩,WkY.f1⟩
theorem QM {L:List Asn}(v32:(List A5)) (v37:(List AG)×Bool) (c40:Int) (x0:(List (List AG))) (e14:AV) (c33:Int):∀ (f:Nat) (c43:Int) (c44:(List (List Int))) (r:((List (List Int)))),Dp v32 v37 c40 f c43 c44=some r->∀ (hp:Hp),T hp ((own_ (ocL 1 48 (ocL 1 3 (ocV cdI))) e14 c44)::L)->SemYN E0 ⟨none,false⟩ (pc Fa [1,1,1,1,1,0,1,0,0,1,1,0,0,1,1,1,1,0,0,1,1,0,0,1,1,0,0]) f ⟨Fr 104 [(6,e14),(8,.sl 10 (v32.map AH.enc)),(11,.sl 1 (v37.1.map EH.enc)),(13,.v (.int .i64 c40)),(42,.sl 1 (x0.map (cdL 5 AA).enc)),(43,.v (.int .i64 (x0.length:Int))),(44,.v (.int .i64 c33)),(56,.v (.int .i64 (v32.length:Int))),(57,.v (.int .i64 c40)),(60,.v (.int .i64 c40)),(61,.v (.int .i64 c43))],hp⟩ (fun e s=>e=(.exit 6)/\∃ s2,(∃ (h':Hp),T h' ((own_ (ocL 1 48 (ocL 1 3 (ocV cdI))) e14 r)::L)/\s2=⟨Fr 104 [(6,e14),(8,.sl 10 (v32.map AH.enc)),(11,.sl 1 (v37.1.map EH.enc)),(42,.sl 1 (x0.map (cdL 5 AA).enc)),(43,.v (.int .i64 (x0.length:Int))),(44,.v (.int .i64 c33)),(56,.v (.int .i64 (v32.length:Int))),(57,.v (.int .i64 c40))],h'⟩)/\WkY E0 s s2):=by
 intro f;induction f with
 | zero=>intro c43 c44 r h; cases h
 | succ f ih0 =>
  intro c43 c44 r h  hp hT;unfold Dp at h;refine Ge ?_
  let p1:Nat×AV:=(61,.v (.int .i64 c43))
  let p2:Nat×AV:=(60,.v (.int .i64 c40))
  let p3:Nat×AV:=(57,.v (.int .i64 c40))
  let p4:Nat×AV:=(56,.v (.int .i64 (v32.length:Int)))
  let p5:Nat×AV:=(44,.v (.int .i64 c33))
  let p6:Nat×AV:=(43,.v (.int .i64 (x0.length:Int)))
  let p7:Nat×AV:=(42,.sl 1 (x0.map (cdL 5 AA).enc))
  let p8:Nat×AV:=(13,.v (.int .i64 c40))
  let p9:Nat×AV:=(11,.sl 1 (v37.1.map EH.enc))
  let p10:Nat×AV:=(8,.sl 10 (v32.map AH.enc))
  refine C5 AC [(6,e14),p10,p9,p8,p7,p6,p5,p4,p3,p2,p1,(62,.v (.bool (decide (c43 < c40))))] ?_;refine BF ?_;refine Dz (b:=(decide (c43 < c40))) kr (fun hb45=>?_) (fun hb45=>?_)
  ·rw [if_pos hb45] at h
   refine SemY.skip ?_;refine BF ?_;refine Cv ?_
   let p11:Nat×AV:=(14,.v (.int .i64 c43))
   refine C5 AC [(6,e14),p10,p9,p8,p11,p7,p6,p5,p4,p3,p2,p1] ?_;refine BF ?_;refine MG 15 AC.mixed kr kr ?_;refine RunDT.q (x:= .sl 1 (v37.1.map EH.enc)) rfl kr rfl (AB rfl) rfl kr kr ?_;refine RunDT.q (x:= .sl 10 (v32.map AH.enc)) rfl kr rfl (AB rfl) rfl kr kr ?_;refine RunDT.q (x:= .v (.int .i64 c40)) rfl kr rfl (AB rfl) rfl kr kr ?_;obtain ⟨v46,hv46,h⟩:=OB h;refine RunDT.q (x:= .pe (AH.enc v46) 0) rfl kr rfl (AB rfl) rfl (AO (a:= .sl 10 (v32.map AH.enc)) (b:= .v (.int .i64 c40)) kr kr (Dn (e:=AH.enc) (el:=115) (k:=10) (ki:= .i64) kr kr hv46)) kr ?_;refine RunDT.q (x:=(AH.enc v46)) rfl kr rfl (AB rfl) rfl kr kr ?_;refine RunDT.q (x:= .sl 10 (v32.map AH.enc)) rfl kr rfl (AB rfl) rfl kr kr ?_;refine RunDT.q (x:= .v (.int .i64 c43)) rfl kr rfl (AB rfl) rfl kr kr ?_;obtain ⟨v47,hv47,h⟩:=OB h;refine RunDT.q (x:= .pe (AH.enc v47) 0) rfl kr rfl (AB rfl) rfl (AO (a:= .sl 10 (v32.map AH.enc)) (b:= .v (.int .i64 c43)) kr kr (Dn (e:=AH.enc) (el:=115) (k:=10) (ki:= .i64) kr kr hv47)) kr ?_;refine RunDT.q (x:=(AH.enc v47)) rfl kr rfl (AB rfl) rfl kr kr ?_;obtain ⟨v48,hv48,h⟩:=OB h;refine Vt (v:=v48) (caps:=[]) (xs:=[.sl 1 (v37.1.map EH.enc),AH.enc v46,AH.enc v47]) (u:=(v37.1,v46,v47,())) rfl rfl Hj rfl (AB rfl) kr kr (GG (JP (c:=(cdL 1 EH)) (v:=v37.1)) (GG (JP (c:=AH) (v:=v46)) (GG (JP (c:=AH) (v:=v47)) SeesD.nil))) kr hv48 ?_;refine RunDT.q (x:= .tp [.v (.int .i64 v48.1),.v (.int .i64 v48.2)]) rfl kr rfl (AB rfl) rfl kr kr ?_;refine RunDT.q (x:= .v (.int .i64 v48.1)) rfl kr rfl (AB rfl) rfl kr kr ?_;refine RunDT.q (x:= .v (.int .i64 v48.2)) rfl kr rfl (AB rfl) rfl kr kr ?_;refine RunDT.q (x:= .v (.int .i64 v48.1)) rfl kr rfl (AB rfl) rfl kr kr ?_;refine RunDT.q (x:= .v (.int .i64 v48.2)) rfl kr rfl (AB rfl) rfl kr kr ?_;refine RunDT.done rfl (SemY.fr (l':=[(6,e14),p10,p9,p8,p11,(16,.v (.int .i64 v48.2)),p7,p6,p5,p4,p3,p2,p1]) kr ?_);refine C5 AC [(6,e14),p10,p9,p8,p11,p7,p6,p5,p4,p3,p2,p1,(77,.v (.int .i64 v48.2))] ?_
   refine Cv ?_;refine C5 AC [(6,e14),p10,p9,p8,p11,p7,p6,p5,p4,p3,p2,p1,(77,.v (.int .i64 v48.2)),(78,.v (.bool (v48.2==(-1))))] ?_;obtain ⟨r78,hr78,h⟩:=OB h;refine Nf (QI c40 c43 c44 v48 x0 e14 v32 c33 v37 _ hr78 hT) ?_;rintro _ ⟨hp79,hT80,rfl⟩;refine As ?_;refine CP AC 2 ?_;refine Dy rfl ?_;exact D4 WkY.f1 (ih0 (wr .i64 (c43 + 1)) r78 _ h  hp79 hT80)
  ·rw [BZ hb45] at h
   refine SemY.exit ?_;have hq:=OI h; subst hq;exact ⟨rfl,_,⟨hp,hT,rfl⟩,WkY.f1⟩
theorem QL {L:List Asn}(v32:(List A5)) (v37:(List AG)×Bool) (x0:(List (List AG))) (e14:AV) (c33:Int):∀ (f:Nat) (c40:Int) (c41:(List (List Int))) (r:((List (List Int)))),Do v32 v37 f c40 c41=some r->∀ (hp:Hp),T hp ((own_ (ocL 1 48 (ocL 1 3 (ocV cdI))) e14 c41)::L)->SemYN E0 ⟨none,false⟩ (pc Fa [1,1,1,1,1,0,1,0,0,1,1,0,0,1,1,1,1,0,0]) f ⟨Fr 104 [(6,e14),(8,.sl 10 (v32.map AH.enc)),(11,.sl 1 (v37.1.map EH.enc)),(42,.sl 1 (x0.map (cdL 5 AA).enc)),(43,.v (.int .i64 (x0.length:Int))),(44,.v (.int .i64 c33)),(56,.v (.int .i64 (v32.length:Int))),(57,.v (.int .i64 c40))],hp⟩ (fun e s=>e=(.exit 4)/\∃ s2,(∃ (h':Hp),T h' ((own_ (ocL 1 48 (ocL 1 3 (ocV cdI))) e14 r)::L)/\s2=⟨Fr 104 [(6,e14),(8,.sl 10 (v32.map AH.enc)),(42,.sl 1 (x0.map (cdL 5 AA).enc)),(43,.v (.int .i64 (x0.length:Int))),(44,.v (.int .i64 c33))],h'⟩)/\WkY E0 s s2):=by
 intro f;induction f with
 | zero=>intro c40 c41 r h; cases h
 | succ f ih0 =>
  intro c40 c41 r h  hp hT;unfold Do at h;refine Ge ?_
  let p1:Nat×AV:=(57,.v (.int .i64 c40))
  let p2:Nat×AV:=(56,.v (.int .i64 (v32.length:Int)))
  let p3:Nat×AV:=(44,.v (.int .i64 c33))
  let p4:Nat×AV:=(43,.v (.int .i64 (x0.length:Int)))
  let p5:Nat×AV:=(42,.sl 1 (x0.map (cdL 5 AA).enc))
  let p6:Nat×AV:=(11,.sl 1 (v37.1.map EH.enc))
  let p7:Nat×AV:=(8,.sl 10 (v32.map AH.enc))
  refine C5 AC [(6,e14),p7,p6,p5,p4,p3,p2,p1,(58,.v (.bool (decide (c40 < (v32.length:Int)))))] ?_;refine BF ?_;refine Dz (b:=(decide (c40 < (v32.length:Int)))) kr (fun hb42=>?_) (fun hb42=>?_)
  ·rw [if_pos hb42] at h
   refine SemY.skip ?_;refine BF ?_;refine Cv ?_;refine C5 AC [(6,e14),p7,p6,(13,.v (.int .i64 c40)),p5,p4,p3,p2,p1] ?_;refine C5 AC [(6,e14),p7,p6,(13,.v (.int .i64 c40)),p5,p4,p3,p2,p1,(60,.v (.int .i64 c40)),(61,.v (.int .i64 0))] ?_;refine Cv ?_;refine SemY.loop (n:=100000) ?_;obtain ⟨r82,hr82,h⟩:=OB h;refine Fg (D4 WkY.f1 (QM v32 v37 c40 x0 e14 c33 _ 0 c41 _ hr82  hp hT)) ?_;rintro _ ⟨hp83,hT84,rfl⟩;refine As ?_;refine CP AC 2 ?_;refine Dy rfl ?_;exact D4 WkY.f1 (ih0 (wr .i64 (c40 + 1)) r82 _ h  hp83 hT84)
  ·rw [BZ hb42] at h
   refine SemY.exit ?_;have hq:=OI h; subst hq;exact ⟨rfl,_,⟨hp,hT,rfl⟩,WkY.f1⟩
theorem MM {L:List Asn}(x0:(List (List AG))) (v32:(List A5)) (e14:AV):∀ (f:Nat) (c33:Int) (c34:(List (List Int))) (r:((List (List Int))) ⊕ (Unit)),GN x0 v32 f c33 c34=some r->∀ (hp:Hp),T hp ((own_ (ocL 1 48 (ocL 1 3 (ocV cdI))) e14 c34)::L)->SemYN E0 ⟨none,false⟩ (pc Fa [1,1,1,1,1,0,1,0,0]) f ⟨Fr 104 [(6,e14),(8,.sl 10 (v32.map AH.enc)),(42,.sl 1 (x0.map (cdL 5 AA).enc)),(43,.v (.int .i64 (x0.length:Int))),(44,.v (.int .i64 c33))],hp⟩ (fun e s=>match r with
 | (.inl w)=>e=(.exit 2)/\∃ s2,(∃ (h':Hp),T h' ((own_ (ocL 1 48 (ocL 1 3 (ocV cdI))) e14 w)::L)/\s2=⟨Fr 104 [(6,e14)],h'⟩)/\WkY E0 s s2
 | (.inr _w)=>e = .ret/\∃ s2,(∃ (h':Hp),T h' (L)/\s2=⟨Fr 104 [(4,.e0),(5,.v (.bool false))],h'⟩)/\WkY E0 s s2):=by
 intro f;induction f with
 | zero=>intro c33 c34 r h; cases h
 | succ f ih0 =>
  intro c33 c34 r h  hp hT;unfold GN at h;refine Ge ?_
  let p1:Nat×AV:=(44,.v (.int .i64 c33))
  let p2:Nat×AV:=(43,.v (.int .i64 (x0.length:Int)))
  let p3:Nat×AV:=(42,.sl 1 (x0.map (cdL 5 AA).enc))
  let p4:Nat×AV:=(8,.sl 10 (v32.map AH.enc))
  refine C5 AC [(6,e14),p4,p3,p2,p1,(45,.v (.bool (decide (c33 < (x0.length:Int)))))] ?_;refine BF ?_;refine Dz (b:=(decide (c33 < (x0.length:Int)))) kr (fun hb35=>?_) (fun hb35=>?_)
  ·rw [if_pos hb35] at h
   refine SemY.skip ?_;refine BF ?_;refine Cv ?_;refine BF ?_;refine As ?_;obtain ⟨v36,hv36,h⟩:=OB h;refine CB AC 0 rfl (C7 (AB rfl) rfl (AO (a:= .sl 1 (x0.map (cdL 5 AA).enc)) (b:= .v (.int .i64 c33)) kr kr (Dn (e:=(cdL 5 AA).enc) (el:=22) (k:=1) (ki:= .i64) kr kr hv36))) ?_;refine EB AC [(6,e14),p4,(10,.sl 5 (v36.map AA.enc)),p3,p2,p1] ?_;refine BF ?_;refine As ?_;refine CP AC 1 ?_;obtain ⟨v37,hv37,h⟩:=OB h;refine Kt (v:=v37) (caps:=[]) (xs:=[.sl 5 (v36.map AA.enc)]) (u:=(v36,())) rfl rfl Tc rfl (AB rfl) kr kr (GG (JP (c:=(cdL 5 AA)) (v:=v36)) SeesD.nil) (.inr ⟨by kernel_rfl,Ic.de (v36,())⟩) hv37 ?_
   let p5:Nat×AV:=(11,.sl 1 (v37.1.map EH.enc))
   refine EB AC [(6,e14),p4,p5,(12,.v (.bool v37.2)),p3,p2,p1] ?_;refine BF ?_;refine C5 AC [(6,e14),p4,p5,p3,p2,p1,(54,.v (.bool (!v37.2)))] ?_;refine Dz (b:=(!v37.2)) kr (fun hb38=>?_) (fun hb38=>?_)
   ·rw [if_pos hb38] at h
    refine C5 AC [(4,.e0),(5,.v (.bool false))] ?_;refine SemY.ret ?_;have hq:=OI h; subst hq
    have hT39:=hT.drop
    exact ⟨rfl,_,⟨hp,hT39,rfl⟩,WkY.f1⟩
   ·rw [BZ hb38] at h
    refine SemY.skip ?_;refine BF ?_;refine As ?_;refine CP AC 1 ?_;refine CB AC 0 rfl (C7 (AB rfl) rfl (Ck (a:= .sl 10 (v32.map AH.enc)) kr (Ba (el:=115) kr))) ?_;refine EB AC [(6,e14),p4,p5,p3,p2,p1,(56,.v (.int .i64 (v32.length:Int))),(57,.v (.int .i64 0))] ?_;refine Cv ?_;refine SemY.loop (n:=100000) ?_;obtain ⟨r86,hr86,h⟩:=OB h;refine Fg (D4 WkY.f1 (QL v32 v37 x0 e14 c33 _ 0 c34 _ hr86  hp hT)) ?_;rintro _ ⟨hp87,hT88,rfl⟩;refine As ?_;refine CP AC 2 ?_;refine Dy rfl ?_;exact D4 WkY.f1 (ih0 (wr .i64 (c33 + 1)) r86 _ h  hp87 hT88)
  ·rw [BZ hb35] at h
   refine SemY.exit ?_;have hq:=OI h; subst hq;exact ⟨rfl,_,⟨hp,hT,rfl⟩,WkY.f1⟩
theorem Rw {L:List Asn}{hp:Hp}(x0:(List (List AG))) (x1:(List Ai)) (r:(List (List Int))×Bool) (h:H1 x0 x1=some r) (hT:T hp (L)):SemY E0 ⟨none,false⟩ Fa ⟨Fr 104 (A3 0 [.sl 1 (x0.map (cdL 5 AA).enc),.sl 9 (x1.map AE.enc)]),hp⟩ fun x s'=>(x = .normal\/x = .ret)/\∃ ys,EG E0.P s'.fr s'.hp Tryz.f107.results.toList=some ys/\(fun v h'=>v = .tp [.sl 1 (r.1.map (cdL 1 cdI).enc),.v (.bool r.2)]/\T h' (L)) (EN ys) s'.hp:=by
 unfold H1 at h;refine PK (P3 (s1:=⟨Fr 104 [(0,.sl 1 (x0.map (cdL 5 AA).enc)),(1,.sl 9 (x1.map AE.enc))],hp⟩) WkY.f1 ?_);refine C5 AC [(0,.sl 1 (x0.map (cdL 5 AA).enc)),(1,.sl 9 (x1.map AE.enc))] ?_;refine BF ?_;refine BF ?_;obtain ⟨j1,hj1,h⟩:=OB h;refine Xx (A:=fun s1=>∃ (h':Hp),T h' (L)/\s1=⟨Fr 104 [(0,.sl 1 (x0.map (cdL 5 AA).enc)),(1,.sl 9 (x1.map AE.enc)),(24,.v (.bool j1))],h'⟩) ?_ ?_
 ·refine CP AC 1 ?_
  refine CB AC 0 rfl (C7 (AB rfl) rfl (Ck (a:= .sl 1 (x0.map (cdL 5 AA).enc)) kr (Ba (el:=22) kr))) ?_;refine Uw (n:=104) AC 2 [(0,.sl 1 (x0.map (cdL 5 AA).enc)),(1,.sl 9 (x1.map AE.enc)),(20,.v (.bool (decide ((x0.length:Int) > 16))))] hp kr ?_;rcases BE (decide ((x0.length:Int) > 16)) with hc104 | hc104
  ·rw [if_pos hc104] at hj1
   rw [hc104];refine CP AC 4 ?_;have hq:=OI hj1; subst hq;exact Dy rfl ⟨_,⟨hp,hT,rfl⟩,WkY.f1⟩
  ·rw [BZ hc104] at hj1
   rw [hc104];refine CP AC 1 ?_;refine CB AC 0 rfl (C7 kr rfl (Ck (a:= .sl 9 (x1.map AE.enc)) kr (Ba (el:=42) kr))) ?_;refine CP AC 2 ?_;have hq:=OI hj1; subst hq;exact Dy rfl ⟨_,⟨hp,hT,rfl⟩,WkY.f1⟩
 rintro _ ⟨hp3,hT4,rfl⟩;refine Dz (b:=j1) kr (fun hb5=>?_) (fun hb5=>?_)
 ·rw [if_pos hb5] at h
  refine C5 AC [(4,.e0),(5,.v (.bool false))] ?_;refine SemY.ret ?_;have hq:=OI h; subst hq
  have hT6:=(T.e0 (k:=1) (ty:=48) (o:=(ocL 1 3 (ocV cdI))) hT4)
  obtain ⟨hp7,hw8,hT9⟩:=MX (E:=E0) (n:=104) (l:=[(4,.e0),(5,.v (.bool false))]) (l':=[(4,.sl 1 (([]:(List (List Int))).map (cdL 1 cdI).enc)),(5,.v (.bool false))]) hT6 (LkT.at_ ⟨.inr ⟨kr,rfl⟩,.inl kr,trivial⟩);exact ⟨⟨Fr 104 [(4,.sl 1 (([]:(List (List Int))).map (cdL 1 cdI).enc)),(5,.v (.bool false))],hp7⟩,(WkY.trans (WkY.trans WkY.f1 hw8) WkY.f1),.inr rfl,[.sl 1 (([]:(List (List Int))).map (cdL 1 cdI).enc),.v (.bool false)],kr,⟨rfl,hT9⟩⟩
 ·rw [BZ hb5] at h
  refine SemY.skip ?_;refine BF ?_;refine As ?_;refine CP AC 1 ?_;refine CB AC 0 rfl (C7 (AB rfl) rfl (Ck (a:= .sl 9 (x1.map AE.enc)) kr (Ba (el:=42) kr))) ?_;by_cases hk10:(Ur 24 (x1.length:Int))=true
  case neg=>rw [if_neg hk10] at h; cases h
  rw [if_pos hk10] at h;obtain ⟨e14,hp11,hb12,hT13⟩:=VL (P:=Tryz.prog) (o:=(ocL 1 3 (ocV cdI))) (k:=1) (t:=48) (ty:=46) (bytes:=24) (kn:= .i64) (kc:= .i64) (m:=(x1.length:Int)) (x0:=([]:(List Int))) hT4 (fun _=> .inl ⟨rfl,rfl,rfl⟩) kr kr hk10;refine CB AC 0 rfl (ACZ (AB rfl) rfl kr (W1 (x:= .v (.int .i64 (x1.length:Int))) (y:= .v (.int .i64 (x1.length:Int))) kr kr hb12)) ?_;refine EB AC [(0,.sl 1 (x0.map (cdL 5 AA).enc)),(1,.sl 9 (x1.map AE.enc)),(6,e14)] ?_;refine BF ?_;refine BF ?_;refine As ?_;refine CP AC 1 ?_;refine CB AC 0 rfl (C7 (AB rfl) rfl (Ck (a:=e14) kr (YY hT13 kr))) ?_;refine EB AC [(0,.sl 1 (x0.map (cdL 5 AA).enc)),(1,.sl 9 (x1.map AE.enc)),(6,e14),(29,.v (.int .i64 ((List.replicate (x1.length:Int).toNat ([]:(List Int))).length:Int))),(30,.v (.int .i64 0))] ?_;refine Cv ?_;refine SemY.loop (n:=100000) ?_;obtain ⟨r29,hr29,h⟩:=OB h;refine Fg (D4 WkY.f1 (QK x1 x0 e14 _ 0 (List.replicate (x1.length:Int).toNat ([]:(List Int))) _ hr29  hp11 hT13)) ?_;rintro _ ⟨hp30,hT31,rfl⟩;refine BF ?_;refine As ?_;refine CP AC 1 ?_;obtain ⟨v32,hv32,h⟩:=OB h;refine Kt (v:=v32) (caps:=[]) (xs:=[.sl 9 (x1.map AE.enc)]) (u:=(x1,())) rfl rfl Vl rfl (AB rfl) kr kr (GG (JP (c:=(cdL 9 AE)) (v:=x1)) SeesD.nil) (.inr ⟨by kernel_rfl,Kk.de (x1,())⟩) hv32 ?_;refine EB AC [(0,.sl 1 (x0.map (cdL 5 AA).enc)),(6,e14),(8,.sl 10 (v32.map AH.enc))] ?_;refine BF ?_;refine BF ?_;refine As ?_;refine CP AC 1 ?_;refine CB AC 0 rfl (C7 (AB rfl) rfl (Ck (a:= .sl 1 (x0.map (cdL 5 AA).enc)) kr (Ba (el:=22) kr))) ?_;refine EB AC [(6,e14),(8,.sl 10 (v32.map AH.enc)),(42,.sl 1 (x0.map (cdL 5 AA).enc)),(43,.v (.int .i64 (x0.length:Int))),(44,.v (.int .i64 0))] ?_;refine Cv ?_;refine SemY.loop (n:=100000) ?_;obtain ⟨r90,hr90,h⟩:=OB h;rcases r90 with w91 | w97
  ·try dsimp only at h
   refine Fg (D4 WkY.f1 (MM x0 v32 e14 _ 0 r29 _ hr90  hp30 hT31)) ?_;rintro _ ⟨hp92,hT93,rfl⟩;refine C5 AC [(4,e14),(5,.v (.bool true))] ?_;refine SemY.ret ?_;have hq:=OI h; subst hq;obtain ⟨hp94,hw95,hT96⟩:=MX (E:=E0) (n:=104) (l:=[(4,e14),(5,.v (.bool true))]) (l':=[(4,.sl 1 (w91.map (cdL 1 cdI).enc)),(5,.v (.bool true))]) hT93 (LkT.at_ ⟨.inr ⟨kr,rfl⟩,.inl kr,trivial⟩);exact ⟨⟨Fr 104 [(4,.sl 1 (w91.map (cdL 1 cdI).enc)),(5,.v (.bool true))],hp94⟩,(WkY.trans (WkY.trans WkY.f1 hw95) WkY.f1),.inr rfl,[.sl 1 (w91.map (cdL 1 cdI).enc),.v (.bool true)],kr,⟨rfl,hT96⟩⟩
  ·try dsimp only at h
   refine Fg (D4 WkY.f1 (MM x0 v32 e14 _ 0 r29 _ hr90  hp30 hT31)) ?_;rintro _ ⟨hp98,hT99,rfl⟩;have hq:=OI h; subst hq
   have hT100:=(T.e0 (k:=1) (ty:=48) (o:=(ocL 1 3 (ocV cdI))) hT99)
   obtain ⟨hp101,hw102,hT103⟩:=MX (E:=E0) (n:=104) (l:=[(4,.e0),(5,.v (.bool false))]) (l':=[(4,.sl 1 (([]:(List (List Int))).map (cdL 1 cdI).enc)),(5,.v (.bool false))]) hT100 (LkT.at_ ⟨.inr ⟨kr,rfl⟩,.inl kr,trivial⟩);exact ⟨⟨Fr 104 [(4,.sl 1 (([]:(List (List Int))).map (cdL 1 cdI).enc)),(5,.v (.bool false))],hp101⟩,(WkY.trans (WkY.trans WkY.f1 hw102) WkY.f1),.inr rfl,[.sl 1 (([]:(List (List Int))).map (cdL 1 cdI).enc),.v (.bool false)],kr,⟨rfl,hT103⟩⟩
noncomputable def On:Cs ((List (List AG))×(List Ai)×Unit):=(csC (cdL 1 (cdL 5 AA)) (csC (cdL 9 AE) csN))
noncomputable def Oo (r:(List (List Int))×Bool):AV:= .tp [(cdL 1 (cdL 1 cdI)).enc r.1,cdB.enc r.2]
noncomputable def Uc:List AV->Option AV:=Dx On (fun a=>H1 a.1 a.2.1) Oo
theorem Um:XOk 107 Uc:=by
 refine AU Tryz.func107 (c:=Fa) ?h2 ⟨Tryz.call107⟩ On (fun a=>H1 a.1 a.2.1) Oo (fun a=>(by show 2<=104; decide)) ?h3 ?h4
 case h2=>kernel_rfl
 case h3=>intro b; kernel_rfl
 case h4 =>
  intro a b h;refine Sem.mono (Xv (Rw (L:=[]) (hp:=[]) a.1 a.2.1 b h T.nil)) fun e s' hs=>?_
  obtain ⟨h1,ys,h2,h3,-⟩:=hs;exact ⟨h1,ys,h2,h3⟩
/- trestle/court.Compromise -/
noncomputable def C6:Code:=BG Tryz.f49
def DU (x0:(List (List AG))) (x1:(List Ai)):Nat->Int->Option ((Unit) ⊕ (Int×Int))
 | 0,_=>none
 | f + 1,c2 =>
  if (decide (c2 < (x0.length:Int)))=true then
  (idx x0 c2).bind fun v4 =>
  (HN v4).bind fun v5 =>
  if (v5.2 != 0)=true then
  some (.inr (0,v5.2))
  else
  DU x0 x1 f (wr .i64 (c2 + 1))
  else
  some (.inl ())
def Fn (_x1:(List Ai)) (v12:(List (List Int))×Bool) (c18:Int) (_c21:(List Int)) (_c22:(List Int)) (c23:Int) (c29:Int) (c30:Int):Option ((Int)) :=
 if ((AAU .i64 c18 (wr .i64 (1 * 2 ^ min c30.toNat 64)))==0)=true then
 (idx v12.1 c30).bind fun v34 =>
 (idx v34 c23).bind fun v35 =>
 some (wr .i64 (c29 + v35))
 else
 some c29
def B9 (x1:(List Ai)) (v12:(List (List Int))×Bool) (c18:Int) (c21:(List Int)) (c22:(List Int)) (c23:Int):Nat->Int->Int->Option ((Int))
 | 0,_,_=>none
 | f + 1,c29,c30 =>
  if (decide (c30 < (x1.length:Int)))=true then
  if (decide (0<=c30))=true then
  (Fn x1 v12 c18 c21 c22 c23 c29 c30).bind fun r37 =>
  B9 x1 v12 c18 c21 c22 c23 f r37 (wr .i64 (c30 + 1))
  else none
  else
  some c29
def EU (_x1:(List Ai)) (_v12:(List (List Int))×Bool) (c18:Int) (c23:Int) (r39:Int) (j45:(List Int)×(List Int)×Bool):Option (((List Int)×(List Int))) :=
 if j45.2.2=true then
 (idx j45.1 c18).bind fun _v47 =>
 (idx j45.2.1 c18).bind fun _v48 =>
 some ((j45.1.set c18.toNat r39),(j45.2.1.set c18.toNat c23))
 else
 some (j45.1,j45.2.1)
def B8 (x1:(List Ai)) (v12:(List (List Int))×Bool) (c18:Int):Nat->(List Int)->(List Int)->Int->Option (((List Int)×(List Int)))
 | 0,_,_,_=>none
 | f + 1,c21,c22,c23 =>
  if (decide (c23 < (x1.length:Int)))=true then
  if (decide (0<=c23))=true then
  if ((AAU .i64 c18 (wr .i64 (1 * 2 ^ min c23.toNat 64)))!=0)=true then
  B8 x1 v12 c18 f c21 c22 (wr .i64 (c23 + 1))
  else
  if (decide (0<=c23))=true then
  (idx c21 (orI .i64 c18 (wr .i64 (1 * 2 ^ min c23.toNat 64)))).bind fun v28 =>
  (B9 x1 v12 c18 c21 c22 c23 100000 v28 0).bind fun r39 =>
  (idx c21 c18).bind fun v40 =>
  (if (decide (v40 < 0))=true then some (c21,c22,true) else (idx c21 c18).bind fun v41 =>
  some (c21,c22,(decide (r39 < v41)))).bind fun j45 =>
  (EU x1 v12 c18 c23 r39 j45).bind fun r51 =>
  B8 x1 v12 c18 f r51.1 r51.2 (wr .i64 (c23 + 1))
  else none
  else none
  else
  some (c21,c22)
def Dv (x1:(List Ai)) (v12:(List (List Int))×Bool):Nat->(List Int)->(List Int)->Int->Option (((List Int)×(List Int)))
 | 0,_,_,_=>none
 | f + 1,c16,c17,c18 =>
  if (decide (c18≥0))=true then
  (idx c16 c18).bind fun _v20 =>
  (B8 x1 v12 c18 100000 (c16.set c18.toNat (-1)) c17 0).bind fun r55 =>
  Dv x1 v12 f r55.1 r55.2 (wr .i64 (c18 - 1))
  else
  some (c16,c17)
def DV (x1:(List Ai)) (r58:(List Int)×(List Int)):Nat->(List Int)->Int->Option (((List Int)))
 | 0,_,_=>none
 | f + 1,c59,c60 =>
  if (c60 != (wr .i64 ((wr .i64 (1 * 2 ^ min (x1.length:Int).toNat 64)) - 1)))=true then
  (idx r58.2 c60).bind fun v62 =>
  if (Gf 8 (c59.length + 1))=true then
  (idx r58.2 c60).bind fun v64 =>
  if (decide (0<=v64))=true then
  DV x1 r58 f (c59++[v62]) (orI .i64 c60 (wr .i64 (1 * 2 ^ min v64.toNat 64)))
  else none
  else none
  else
  some c59
def C9 (x0:(List (List AG))) (x1:(List Ai)):Option ((List Int)×Int×Int) :=
 if (decide ((x0.length:Int) > 16))=true then
 some ([],0,7)
 else
 (DU x0 x1 100000 0).bind fun r9 =>
 match r9 with
 | (.inl _w10) =>
  if (decide ((x1.length:Int) > 7))=true then
  some ([],0,8)
  else
  (H1 x0 x1).bind fun v12 =>
  if (decide (0<=(x1.length:Int)))=true then
  if (Ur 8 (wr .i64 ((wr .i64 ((wr .i64 (1 * 2 ^ min (x1.length:Int).toNat 64)) - 1)) + 1)))=true then
  if (Ur 8 (wr .i64 ((wr .i64 ((wr .i64 (1 * 2 ^ min (x1.length:Int).toNat 64)) - 1)) + 1)))=true then
  (Dv x1 v12 100000 (List.replicate (wr .i64 ((wr .i64 ((wr .i64 (1 * 2 ^ min (x1.length:Int).toNat 64)) - 1)) + 1)).toNat (0:Int)) (List.replicate (wr .i64 ((wr .i64 ((wr .i64 (1 * 2 ^ min (x1.length:Int).toNat 64)) - 1)) + 1)).toNat (0:Int)) (wr .i64 ((wr .i64 ((wr .i64 (1 * 2 ^ min (x1.length:Int).toNat 64)) - 1)) - 1))).bind fun r58 =>
  (DV x1 r58 100000 [] 0).bind fun r67 =>
  (idx r58.1 0).bind fun v68 =>
  some (r67,v68,0)
  else none
  else none
  else none
 | (.inr w69) =>
  some ([],w69.1,w69.2)
def H4:Cs ((List (List AG))×(List Ai)×Unit):=(csC (cdL 1 (cdL 5 AA)) (csC (cdL 9 AE) csN))
def H7 (r:(List Int)×Int×Int):AV:= .tp [(cdL 1 cdI).enc r.1,cdI.enc r.2.1,cdI.enc r.2.2]
theorem I1 (x0:(List (List AG))) (x1:(List Ai)):∀ (f:Nat) (c2:Int) (r:(Unit) ⊕ (Int×Int)),DU x0 x1 f c2=some r->SemN E0 ⟨none,false⟩ (pc C6 [1,1,0,1,0,0]) f ⟨Fr 148 [(0,.sl 1 (x0.map (cdL 5 AA).enc)),(1,.sl 9 (x1.map AE.enc)),(25,.sl 1 (x0.map (cdL 5 AA).enc)),(26,.v (.int .i64 (x0.length:Int))),(27,.v (.int .i64 c2))],[]⟩ (fun e s=>match r with
 | (.inl _w)=>e=(.exit 0)/\Wk E0 s ⟨Fr 148 [(0,.sl 1 (x0.map (cdL 5 AA).enc)),(1,.sl 9 (x1.map AE.enc))],[]⟩
 | (.inr w)=>e = .ret/\Wk E0 s ⟨Fr 148 [(4,.e0),(5,.v (.int .i64 w.1)),(6,.v (.int .i64 w.2))],[]⟩):=by
 intro f;induction f with
 | zero=>intro c2 r h; cases h
 | succ f ih0 =>
  intro c2 r h
  have ih:=fun (c2:Int)=>ih0 c2 r
  unfold DU at h;refine BR ?_
  let p1:Nat×AV:=(27,.v (.int .i64 c2))
  let p2:Nat×AV:=(26,.v (.int .i64 (x0.length:Int)))
  let p3:Nat×AV:=(25,.sl 1 (x0.map (cdL 5 AA).enc))
  let p4:Nat×AV:=(1,.sl 9 (x1.map AE.enc))
  let p5:Nat×AV:=(0,.sl 1 (x0.map (cdL 5 AA).enc))
  refine AJ AC [p5,p4,p3,p2,p1,(28,.v (.bool (decide (c2 < (x0.length:Int)))))] [] ?_;refine AF ?_;refine AP (b:=(decide (c2 < (x0.length:Int)))) kr (fun hb3=>?_) (fun hb3=>?_)
  ·rw [if_pos hb3] at h
   refine AS ?_;refine AF ?_;refine AZ ?_;refine AF ?_;obtain ⟨v4,hv4,h⟩:=OB h;refine AK (s1:=⟨Fr 148 [p5,p4,(8,.sl 5 (v4.map AA.enc)),p3,p2,p1],[]⟩) ?_ ?_
   ·refine AR AC 0 rfl (C7 (AB rfl) rfl (AO (a:= .sl 1 (x0.map (cdL 5 AA).enc)) (b:= .v (.int .i64 c2)) kr kr (Dn (e:=(cdL 5 AA).enc) (el:=22) (k:=1) (ki:= .i64) kr kr hv4))) ?_
    exact AW AC
   refine AF ?_;obtain ⟨v5,hv5,h⟩:=OB h;refine AK (s1:=⟨Fr 148 [p5,p4,(10,.v (.int .i64 v5.2)),p3,p2,p1],[]⟩) ?_ ?_
   ·refine AD (n:=148) AC 1 [p5,p4,p3,p2,p1,(32,.sl 5 (v4.map AA.enc))] [] kr ?_
    refine AT (caps:=[]) (xs:=[.sl 5 (v4.map AA.enc)]) (u:=(v4,())) rfl rfl Py rfl (AB rfl) kr kr (AM (AX (c:=(cdL 5 AA)) (v:=v4)) Aj) (.inl kr) hv5 ?_;exact AW AC
   refine AJ AC [p5,p4,(10,.v (.int .i64 v5.2)),p3,p2,p1,(37,.v (.bool (v5.2 != 0)))] [] ?_;refine AP (b:=(v5.2 != 0)) kr (fun hb6=>?_) (fun hb6=>?_)
   ·rw [if_pos hb6] at h
    refine AJ AC [(4,.e0),(5,.v (.int .i64 0)),(6,.v (.int .i64 v5.2))] [] ?_;refine AQ ?_;have hq:=OI h; subst hq;exact ⟨rfl,AL⟩
   ·rw [BZ hb6] at h
    refine AS ?_
    let p6:Nat×AV:=(27,.v (.int .i64 (wr .i64 (c2 + 1))))
    refine Cn AC [p5,p4,p3,p2,p6] [] ?_;exact Ac (s1:=⟨Fr 148 [p5,p4,p3,p2,p6],[]⟩) AL (ih (wr .i64 (c2 + 1)) h)
  ·rw [BZ hb3] at h
   refine Bd ?_;have hq:=OI h; subst hq;exact ⟨rfl,AL⟩
theorem NV (x1:(List Ai)) (v12:(List (List Int))×Bool) (c18:Int) (c21:(List Int)) (c22:(List Int)) (c23:Int) (c29:Int) (c30:Int) (r:(Int)) (h:Fn x1 v12 c18 c21 c22 c23 c29 c30=some r):Sem E0 ⟨none,false⟩ (pc C6 [1,1,1,1,1,1,1,1,0,1,0,0,1,0,0,1,1,0,0,1,1,0,0,1,1,1,0,1,0,0,1,1,0,0,1,1]) ⟨Fr 148 [(1,.sl 9 (x1.map AE.enc)),(11,.sl 1 (v12.1.map (cdL 1 cdI).enc)),(13,.v (.int .i64 (wr .i64 ((wr .i64 (1 * 2 ^ min (x1.length:Int).toNat 64)) - 1)))),(14,.rf 0 0 c21.length c21.length),(15,.rf 1 0 c22.length c22.length),(16,.v (.int .i64 c18)),(17,.v (.int .i64 c23)),(18,.v (.int .i64 c29)),(19,.v (.int .i64 c30)),(69,.v (.int .i64 (x1.length:Int))),(70,.v (.int .i64 c23)),(86,.v (.int .i64 (x1.length:Int))),(87,.v (.int .i64 c30)),(94,.v (.bool ((AAU .i64 c18 (wr .i64 (1 * 2 ^ min c30.toNat 64)))==0)))],[some ⟨1,3,(c21.map cdI.enc),false⟩,some ⟨1,3,(c22.map cdI.enc),false⟩]⟩ (fun e s=>e = .normal/\Wk E0 s ⟨Fr 148 [(1,.sl 9 (x1.map AE.enc)),(11,.sl 1 (v12.1.map (cdL 1 cdI).enc)),(13,.v (.int .i64 (wr .i64 ((wr .i64 (1 * 2 ^ min (x1.length:Int).toNat 64)) - 1)))),(14,.rf 0 0 c21.length c21.length),(15,.rf 1 0 c22.length c22.length),(16,.v (.int .i64 c18)),(17,.v (.int .i64 c23)),(18,.v (.int .i64 r)),(69,.v (.int .i64 (x1.length:Int))),(70,.v (.int .i64 c23)),(86,.v (.int .i64 (x1.length:Int))),(87,.v (.int .i64 c30))],[some ⟨1,3,(c21.map cdI.enc),false⟩,some ⟨1,3,(c22.map cdI.enc),false⟩]⟩):=by
 unfold Fn at h;refine AP (b:=((AAU .i64 c18 (wr .i64 (1 * 2 ^ min c30.toNat 64)))==0)) kr (fun hb33=>?_) (fun hb33=>?_)
 ·rw [if_pos hb33] at h
  obtain ⟨v34,hv34,h⟩:=OB h;obtain ⟨v35,hv35,h⟩:=OB h
  let p1:Option Blk:=some ⟨1,3,(c22.map cdI.enc),false⟩
  let p2:Option Blk:=some ⟨1,3,(c21.map cdI.enc),false⟩
  let p3:Nat×AV:=(87,.v (.int .i64 c30))
  let p4:Nat×AV:=(86,.v (.int .i64 (x1.length:Int)))
  let p5:Nat×AV:=(70,.v (.int .i64 c23))
  let p6:Nat×AV:=(69,.v (.int .i64 (x1.length:Int)))
  let p7:Nat×AV:=(17,.v (.int .i64 c23))
  let p8:Nat×AV:=(16,.v (.int .i64 c18))
  let p9:Nat×AV:=(15,.rf 1 0 c22.length c22.length)
  let p10:Nat×AV:=(14,.rf 0 0 c21.length c21.length)
  let p11:Nat×AV:=(13,.v (.int .i64 (wr .i64 ((wr .i64 (1 * 2 ^ min (x1.length:Int).toNat 64)) - 1))))
  let p12:Nat×AV:=(11,.sl 1 (v12.1.map (cdL 1 cdI).enc))
  let p13:Nat×AV:=(1,.sl 9 (x1.map AE.enc))
  refine AK (s1:=⟨Fr 148 [p13,p12,p11,p10,p9,p8,p7,(18,.v (.int .i64 (wr .i64 (c29 + v35)))),p6,p5,p4,p3],[p2,p1]⟩) ?_ ?_
  ·refine AD (n:=148) AC 3 [p13,p12,p11,p10,p9,p8,p7,p6,p5,p4,p3,(95,.v (.int .i64 c29)),(96,.sl 1 (v12.1.map (cdL 1 cdI).enc)),(97,.v (.int .i64 c30))] [p2,p1] kr ?_
   refine AR AC 0 rfl (C7 (AB rfl) rfl (AO (a:= .sl 1 (v12.1.map (cdL 1 cdI).enc)) (b:= .v (.int .i64 c30)) kr kr (Dn (e:=(cdL 1 cdI).enc) (el:=48) (k:=1) (ki:= .i64) kr kr hv34))) ?_;refine AD (n:=148) AC 2 [p13,p12,p11,p10,p9,p8,p7,p6,p5,p4,p3,(95,.v (.int .i64 c29)),(99,.sl 1 (v34.map cdI.enc)),(100,.v (.int .i64 c23))] [p2,p1] kr ?_;refine AR AC 0 rfl (C7 (AB rfl) rfl (AO (a:= .sl 1 (v34.map cdI.enc)) (b:= .v (.int .i64 c23)) kr kr (Dn (e:=cdI.enc) (el:=3) (k:=1) (ki:= .i64) kr kr hv35))) ?_;exact AW AC
  have hq:=OI h; subst hq;exact ⟨rfl,(Ad [0,1] ⟨⟨_,rfl,DO⟩,⟨_,rfl,DO⟩,trivial⟩ ⟨lv,lv,lv,lv,lv,lv,lv,lv,lv,lv,lv,lv,trivial⟩)⟩
 ·rw [BZ hb33] at h
  refine AS ?_;have hq:=OI h; subst hq;exact ⟨rfl,(Ad [0,1] ⟨⟨_,rfl,DO⟩,⟨_,rfl,DO⟩,trivial⟩ ⟨lv,lv,lv,lv,lv,lv,lv,lv,lv,lv,lv,lv,trivial⟩)⟩
theorem NZ (x1:(List Ai)) (v12:(List (List Int))×Bool) (c18:Int) (c21:(List Int)) (c22:(List Int)) (c23:Int):∀ (f:Nat) (c29:Int) (c30:Int) (r:(Int)),B9 x1 v12 c18 c21 c22 c23 f c29 c30=some r->SemN E0 ⟨none,false⟩ (pc C6 [1,1,1,1,1,1,1,1,0,1,0,0,1,0,0,1,1,0,0,1,1,0,0,1,1,1,0,1,0,0]) f ⟨Fr 148 [(1,.sl 9 (x1.map AE.enc)),(11,.sl 1 (v12.1.map (cdL 1 cdI).enc)),(13,.v (.int .i64 (wr .i64 ((wr .i64 (1 * 2 ^ min (x1.length:Int).toNat 64)) - 1)))),(14,.rf 0 0 c21.length c21.length),(15,.rf 1 0 c22.length c22.length),(16,.v (.int .i64 c18)),(17,.v (.int .i64 c23)),(18,.v (.int .i64 c29)),(69,.v (.int .i64 (x1.length:Int))),(70,.v (.int .i64 c23)),(86,.v (.int .i64 (x1.length:Int))),(87,.v (.int .i64 c30))],[some ⟨1,3,(c21.map cdI.enc),false⟩,some ⟨1,3,(c22.map cdI.enc),false⟩]⟩ (fun e s=>e=(.exit 6)/\Wk E0 s ⟨Fr 148 [(1,.sl 9 (x1.map AE.enc)),(11,.sl 1 (v12.1.map (cdL 1 cdI).enc)),(13,.v (.int .i64 (wr .i64 ((wr .i64 (1 * 2 ^ min (x1.length:Int).toNat 64)) - 1)))),(14,.rf 0 0 c21.length c21.length),(15,.rf 1 0 c22.length c22.length),(16,.v (.int .i64 c18)),(17,.v (.int .i64 c23)),(18,.v (.int .i64 r)),(69,.v (.int .i64 (x1.length:Int))),(70,.v (.int .i64 c23))],[some ⟨1,3,(c21.map cdI.enc),false⟩,some ⟨1,3,(c22.map cdI.enc),false⟩]⟩):=by
 intro f;induction f with
 | zero=>intro c29 c30 r h; cases h
 | succ f ih0 =>
  intro c29 c30 r h
  have ih:=fun (c29:Int) (c30:Int)=>ih0 c29 c30 r
  unfold B9 at h;refine BR ?_
  let p1:Option Blk:=some ⟨1,3,(c22.map cdI.enc),false⟩
  let p2:Option Blk:=some ⟨1,3,(c21.map cdI.enc),false⟩
  let p3:Nat×AV:=(87,.v (.int .i64 c30))
  let p4:Nat×AV:=(86,.v (.int .i64 (x1.length:Int)))
  let p5:Nat×AV:=(70,.v (.int .i64 c23))
  let p6:Nat×AV:=(69,.v (.int .i64 (x1.length:Int)))
  let p7:Nat×AV:=(18,.v (.int .i64 c29))
  let p8:Nat×AV:=(17,.v (.int .i64 c23))
  let p9:Nat×AV:=(16,.v (.int .i64 c18))
  let p10:Nat×AV:=(15,.rf 1 0 c22.length c22.length)
  let p11:Nat×AV:=(14,.rf 0 0 c21.length c21.length)
  let p12:Nat×AV:=(13,.v (.int .i64 (wr .i64 ((wr .i64 (1 * 2 ^ min (x1.length:Int).toNat 64)) - 1))))
  let p13:Nat×AV:=(11,.sl 1 (v12.1.map (cdL 1 cdI).enc))
  let p14:Nat×AV:=(1,.sl 9 (x1.map AE.enc))
  refine AJ AC [p14,p13,p12,p11,p10,p9,p8,p7,p6,p5,p4,p3,(88,.v (.bool (decide (c30 < (x1.length:Int)))))] [p2,p1] ?_;refine AF ?_;refine AP (b:=(decide (c30 < (x1.length:Int)))) kr (fun hb31=>?_) (fun hb31=>?_)
  ·rw [if_pos hb31] at h
   refine AS ?_;refine AF ?_;refine AZ ?_
   let p15:Nat×AV:=(19,.v (.int .i64 c30))
   refine AJ AC [p14,p13,p12,p11,p10,p9,p8,p7,p15,p6,p5,p4,p3] [p2,p1] ?_;refine AF ?_;by_cases hk32:(decide (0<=c30))=true
   case neg=>rw [if_neg hk32] at h; cases h
   rw [if_pos hk32] at h;refine AK (s1:=⟨Fr 148 [p14,p13,p12,p11,p10,p9,p8,p7,p15,p6,p5,p4,p3,(94,.v (.bool ((AAU .i64 c18 (wr .i64 (1 * 2 ^ min c30.toNat 64)))==0)))],[p2,p1]⟩) ?_ ?_
   ·refine AD (n:=148) AC 2 [p14,p13,p12,p11,p10,p9,p8,p7,p15,p6,p5,p4,p3,(90,.v (.int .i64 c18)),(91,.v (.int .i64 c30))] [p2,p1] kr ?_
    refine AR AC 0 rfl (C7 (AB rfl) rfl (Yl (a:= .v (.int .i64 1)) (b:= .v (.int .i64 c30)) kr kr (Rr hk32))) ?_;exact AW AC
   obtain ⟨r37,hr37,h⟩:=OB h;refine F7 (NV x1 v12 c18 c21 c22 c23 c29 c30 _ hr37) ?_
   let p16:Nat×AV:=(87,.v (.int .i64 (wr .i64 (c30 + 1))))
   refine Cn AC [p14,p13,p12,p11,p10,p9,p8,(18,.v (.int .i64 r37)),p6,p5,p4,p16] [p2,p1] ?_;exact Ac (s1:=⟨Fr 148 [p14,p13,p12,p11,p10,p9,p8,(18,.v (.int .i64 r37)),p6,p5,p4,p16],[p2,p1]⟩) (Ad [0,1] ⟨⟨_,rfl,DO⟩,⟨_,rfl,DO⟩,trivial⟩ ⟨lv,lv,lv,lv,lv,lv,lv,lv,lv,lv,lv,lv,trivial⟩) (ih r37 (wr .i64 (c30 + 1)) h)
  ·rw [BZ hb31] at h
   refine Bd ?_;have hq:=OI h; subst hq;exact ⟨rfl,(Ad [0,1] ⟨⟨_,rfl,DO⟩,⟨_,rfl,DO⟩,trivial⟩ ⟨lv,lv,lv,lv,lv,lv,lv,lv,lv,lv,trivial⟩)⟩
theorem NW (x1:(List Ai)) (v12:(List (List Int))×Bool) (c18:Int) (c23:Int) (r39:Int) (j45:(List Int)×(List Int)×Bool) (r:((List Int)×(List Int))) (h:EU x1 v12 c18 c23 r39 j45=some r):Sem E0 ⟨none,false⟩ (pc C6 [1,1,1,1,1,1,1,1,0,1,0,0,1,0,0,1,1,0,0,1,1,0,0,1,1,1,1,1]) ⟨Fr 148 [(1,.sl 9 (x1.map AE.enc)),(11,.sl 1 (v12.1.map (cdL 1 cdI).enc)),(13,.v (.int .i64 (wr .i64 ((wr .i64 (1 * 2 ^ min (x1.length:Int).toNat 64)) - 1)))),(14,.rf 0 0 j45.1.length j45.1.length),(15,.rf 1 0 j45.2.1.length j45.2.1.length),(16,.v (.int .i64 c18)),(17,.v (.int .i64 c23)),(18,.v (.int .i64 r39)),(69,.v (.int .i64 (x1.length:Int))),(70,.v (.int .i64 c23)),(117,.v (.bool j45.2.2))],[some ⟨1,3,(j45.1.map cdI.enc),false⟩,some ⟨1,3,(j45.2.1.map cdI.enc),false⟩]⟩ (fun e s=>e = .normal/\Wk E0 s ⟨Fr 148 [(1,.sl 9 (x1.map AE.enc)),(11,.sl 1 (v12.1.map (cdL 1 cdI).enc)),(13,.v (.int .i64 (wr .i64 ((wr .i64 (1 * 2 ^ min (x1.length:Int).toNat 64)) - 1)))),(14,.rf 0 0 r.1.length r.1.length),(15,.rf 1 0 r.2.length r.2.length),(16,.v (.int .i64 c18)),(69,.v (.int .i64 (x1.length:Int))),(70,.v (.int .i64 c23))],[some ⟨1,3,(r.1.map cdI.enc),false⟩,some ⟨1,3,(r.2.map cdI.enc),false⟩]⟩):=by
 unfold EU at h;refine AP (b:=j45.2.2) kr (fun hb46=>?_) (fun hb46=>?_)
 ·rw [if_pos hb46] at h
  obtain ⟨v47,hv47,h⟩:=OB h;obtain ⟨v48,hv48,h⟩:=OB h
  let p1:Nat×AV:=(69,.v (.int .i64 (x1.length:Int)))
  let p2:Nat×AV:=(13,.v (.int .i64 (wr .i64 ((wr .i64 (1 * 2 ^ min (x1.length:Int).toNat 64)) - 1))))
  let p3:Nat×AV:=(11,.sl 1 (v12.1.map (cdL 1 cdI).enc))
  refine AK (s1:=⟨Fr 148 [(1,.sl 9 (x1.map AE.enc)),p3,p2,(14,.rf 0 0 (j45.1.set c18.toNat r39).length (j45.1.set c18.toNat r39).length),(15,.rf 1 0 (j45.2.1.set c18.toNat c23).length (j45.2.1.set c18.toNat c23).length),(16,.v (.int .i64 c18)),p1,(70,.v (.int .i64 c23))],[some ⟨1,3,((j45.1.set c18.toNat r39).map cdI.enc),false⟩,some ⟨1,3,((j45.2.1.set c18.toNat c23).map cdI.enc),false⟩]⟩) ?_ ?_
  ·refine AD (n:=148) AC 6 [(1,.sl 9 (x1.map AE.enc)),p3,p2,(14,.rf 0 0 j45.1.length j45.1.length),(15,.rf 1 0 j45.2.1.length j45.2.1.length),(16,.v (.int .i64 c18)),p1,(70,.v (.int .i64 c23)),(118,.rf 0 0 j45.1.length j45.1.length),(119,.v (.int .i64 c18)),(120,.rf 1 0 j45.2.1.length j45.2.1.length),(121,.v (.int .i64 c18)),(122,.v (.int .i64 r39)),(123,.v (.int .i64 c23))] [some ⟨1,3,(j45.1.map cdI.enc),false⟩,some ⟨1,3,(j45.2.1.map cdI.enc),false⟩] kr ?_
   refine AR AC 0 rfl (C7 (AB rfl) rfl (AO (a:= .rf 0 0 j45.1.length j45.1.length) (b:= .v (.int .i64 c18)) kr kr (UH (e:=cdI.enc) (xs:=j45.1) (t':=3) (el:=3) (k:=1) (ki:= .i64) kr kr kr hv47))) ?_;refine RunS.store AC (y:= .pt 0 c18.toNat 0) (z:= .v (.int .i64 r39)) rfl (AB rfl) kr kr (Yv (t':=3) (k:=1) (e:=cdI.enc) (xs:=j45.1) (v:=v47) (v':=r39) kr (D6 hv47).2 kr kr kr) ?_;refine AR AC 0 rfl (C7 (AB rfl) rfl (AO (a:= .rf 1 0 j45.2.1.length j45.2.1.length) (b:= .v (.int .i64 c18)) kr kr (UH (e:=cdI.enc) (xs:=j45.2.1) (t':=3) (el:=3) (k:=1) (ki:= .i64) kr kr kr hv48))) ?_;refine RunS.store AC (y:= .pt 1 c18.toNat 0) (z:= .v (.int .i64 c23)) rfl (AB rfl) kr kr (Yv (t':=3) (k:=1) (e:=cdI.enc) (xs:=j45.2.1) (v:=v48) (v':=c23) kr (D6 hv48).2 kr kr kr) ?_;exact AI rfl (Ad [0,1] ⟨⟨_,rfl,DO⟩,⟨_,rfl,DO⟩,trivial⟩ ⟨lv,lv,lv,ABq (b':=0) (n:=j45.1.length) kr (by simp) kr,ABq (b':=1) (n:=j45.2.1.length) kr (by simp) kr,lv,lv,lv,trivial⟩)
  have hq:=OI h; subst hq;exact ⟨rfl,(Ad [0,1] ⟨⟨_,rfl,DO⟩,⟨_,rfl,DO⟩,trivial⟩ ⟨lv,lv,lv,lv,lv,lv,lv,lv,trivial⟩)⟩
 ·rw [BZ hb46] at h
  refine AS ?_;have hq:=OI h; subst hq;exact ⟨rfl,(Ad [0,1] ⟨⟨_,rfl,DO⟩,⟨_,rfl,DO⟩,trivial⟩ ⟨lv,lv,lv,lv,lv,lv,lv,lv,trivial⟩)⟩
theorem NY (x1:(List Ai)) (v12:(List (List Int))×Bool) (c18:Int):∀ (f:Nat) (c21:(List Int)) (c22:(List Int)) (c23:Int) (r:((List Int)×(List Int))),B8 x1 v12 c18 f c21 c22 c23=some r->SemN E0 ⟨none,false⟩ (pc C6 [1,1,1,1,1,1,1,1,0,1,0,0,1,0,0,1,1,0,0]) f ⟨Fr 148 [(1,.sl 9 (x1.map AE.enc)),(11,.sl 1 (v12.1.map (cdL 1 cdI).enc)),(13,.v (.int .i64 (wr .i64 ((wr .i64 (1 * 2 ^ min (x1.length:Int).toNat 64)) - 1)))),(14,.rf 0 0 c21.length c21.length),(15,.rf 1 0 c22.length c22.length),(16,.v (.int .i64 c18)),(69,.v (.int .i64 (x1.length:Int))),(70,.v (.int .i64 c23))],[some ⟨1,3,(c21.map cdI.enc),false⟩,some ⟨1,3,(c22.map cdI.enc),false⟩]⟩ (fun e s=>e=(.exit 4)/\Wk E0 s ⟨Fr 148 [(1,.sl 9 (x1.map AE.enc)),(11,.sl 1 (v12.1.map (cdL 1 cdI).enc)),(13,.v (.int .i64 (wr .i64 ((wr .i64 (1 * 2 ^ min (x1.length:Int).toNat 64)) - 1)))),(14,.rf 0 0 r.1.length r.1.length),(15,.rf 1 0 r.2.length r.2.length),(16,.v (.int .i64 c18))],[some ⟨1,3,(r.1.map cdI.enc),false⟩,some ⟨1,3,(r.2.map cdI.enc),false⟩]⟩):=by
 intro f;induction f with
 | zero=>intro c21 c22 c23 r h; cases h
 | succ f ih0 =>
  intro c21 c22 c23 r h
  have ih:=fun (c21:(List Int)) (c22:(List Int)) (c23:Int)=>ih0 c21 c22 c23 r
  unfold B8 at h;refine BR ?_;refine AJ AC [(1,.sl 9 (x1.map AE.enc)),(11,.sl 1 (v12.1.map (cdL 1 cdI).enc)),(13,.v (.int .i64 (wr .i64 ((wr .i64 (1 * 2 ^ min (x1.length:Int).toNat 64)) - 1)))),(14,.rf 0 0 c21.length c21.length),(15,.rf 1 0 c22.length c22.length),(16,.v (.int .i64 c18)),(69,.v (.int .i64 (x1.length:Int))),(70,.v (.int .i64 c23)),(71,.v (.bool (decide (c23 < (x1.length:Int)))))] [some ⟨1,3,(c21.map cdI.enc),false⟩,some ⟨1,3,(c22.map cdI.enc),false⟩] ?_;refine AF ?_;refine AP (b:=(decide (c23 < (x1.length:Int)))) kr (fun hb24=>?_) (fun hb24=>?_)
  ·rw [if_pos hb24] at h
   refine AS ?_;refine AF ?_;refine AZ ?_;refine AJ AC [(1,.sl 9 (x1.map AE.enc)),(11,.sl 1 (v12.1.map (cdL 1 cdI).enc)),(13,.v (.int .i64 (wr .i64 ((wr .i64 (1 * 2 ^ min (x1.length:Int).toNat 64)) - 1)))),(14,.rf 0 0 c21.length c21.length),(15,.rf 1 0 c22.length c22.length),(16,.v (.int .i64 c18)),(17,.v (.int .i64 c23)),(69,.v (.int .i64 (x1.length:Int))),(70,.v (.int .i64 c23))] [some ⟨1,3,(c21.map cdI.enc),false⟩,some ⟨1,3,(c22.map cdI.enc),false⟩] ?_;refine AF ?_;refine AF ?_;by_cases hk25:(decide (0<=c23))=true
   case neg=>rw [if_neg hk25] at h; cases h
   rw [if_pos hk25] at h;refine AK (s1:=⟨Fr 148 [(1,.sl 9 (x1.map AE.enc)),(11,.sl 1 (v12.1.map (cdL 1 cdI).enc)),(13,.v (.int .i64 (wr .i64 ((wr .i64 (1 * 2 ^ min (x1.length:Int).toNat 64)) - 1)))),(14,.rf 0 0 c21.length c21.length),(15,.rf 1 0 c22.length c22.length),(16,.v (.int .i64 c18)),(17,.v (.int .i64 c23)),(69,.v (.int .i64 (x1.length:Int))),(70,.v (.int .i64 c23)),(77,.v (.bool ((AAU .i64 c18 (wr .i64 (1 * 2 ^ min c23.toNat 64)))!=0)))],[some ⟨1,3,(c21.map cdI.enc),false⟩,some ⟨1,3,(c22.map cdI.enc),false⟩]⟩) ?_ ?_
   ·refine AD (n:=148) AC 2 [(1,.sl 9 (x1.map AE.enc)),(11,.sl 1 (v12.1.map (cdL 1 cdI).enc)),(13,.v (.int .i64 (wr .i64 ((wr .i64 (1 * 2 ^ min (x1.length:Int).toNat 64)) - 1)))),(14,.rf 0 0 c21.length c21.length),(15,.rf 1 0 c22.length c22.length),(16,.v (.int .i64 c18)),(17,.v (.int .i64 c23)),(69,.v (.int .i64 (x1.length:Int))),(70,.v (.int .i64 c23)),(73,.v (.int .i64 c18)),(74,.v (.int .i64 c23))] [some ⟨1,3,(c21.map cdI.enc),false⟩,some ⟨1,3,(c22.map cdI.enc),false⟩] kr ?_
    refine AR AC 0 rfl (C7 (AB rfl) rfl (Yl (a:= .v (.int .i64 1)) (b:= .v (.int .i64 c23)) kr kr (Rr hk25))) ?_;exact AW AC
   refine AP (b:=((AAU .i64 c18 (wr .i64 (1 * 2 ^ min c23.toNat 64)))!=0)) kr (fun hb26=>?_) (fun hb26=>?_)
   ·rw [if_pos hb26] at h
    refine Bd ?_;refine Cn AC [(1,.sl 9 (x1.map AE.enc)),(11,.sl 1 (v12.1.map (cdL 1 cdI).enc)),(13,.v (.int .i64 (wr .i64 ((wr .i64 (1 * 2 ^ min (x1.length:Int).toNat 64)) - 1)))),(14,.rf 0 0 c21.length c21.length),(15,.rf 1 0 c22.length c22.length),(16,.v (.int .i64 c18)),(69,.v (.int .i64 (x1.length:Int))),(70,.v (.int .i64 (wr .i64 (c23 + 1))))] [some ⟨1,3,(c21.map cdI.enc),false⟩,some ⟨1,3,(c22.map cdI.enc),false⟩] ?_;exact Ac (s1:=⟨Fr 148 [(1,.sl 9 (x1.map AE.enc)),(11,.sl 1 (v12.1.map (cdL 1 cdI).enc)),(13,.v (.int .i64 (wr .i64 ((wr .i64 (1 * 2 ^ min (x1.length:Int).toNat 64)) - 1)))),(14,.rf 0 0 c21.length c21.length),(15,.rf 1 0 c22.length c22.length),(16,.v (.int .i64 c18)),(69,.v (.int .i64 (x1.length:Int))),(70,.v (.int .i64 (wr .i64 (c23 + 1))))],[some ⟨1,3,(c21.map cdI.enc),false⟩,some ⟨1,3,(c22.map cdI.enc),false⟩]⟩) (Ad [0,1] ⟨⟨_,rfl,DO⟩,⟨_,rfl,DO⟩,trivial⟩ ⟨lv,lv,lv,lv,lv,lv,lv,lv,trivial⟩) (ih c21 c22 (wr .i64 (c23 + 1)) h)
   ·rw [BZ hb26] at h
    refine AS ?_;refine AF ?_;by_cases hk27:(decide (0<=c23))=true
    case neg=>rw [if_neg hk27] at h; cases h
    rw [if_pos hk27] at h;obtain ⟨v28,hv28,h⟩:=OB h;refine AK (s1:=⟨Fr 148 [(1,.sl 9 (x1.map AE.enc)),(11,.sl 1 (v12.1.map (cdL 1 cdI).enc)),(13,.v (.int .i64 (wr .i64 ((wr .i64 (1 * 2 ^ min (x1.length:Int).toNat 64)) - 1)))),(14,.rf 0 0 c21.length c21.length),(15,.rf 1 0 c22.length c22.length),(16,.v (.int .i64 c18)),(17,.v (.int .i64 c23)),(18,.v (.int .i64 v28)),(69,.v (.int .i64 (x1.length:Int))),(70,.v (.int .i64 c23))],[some ⟨1,3,(c21.map cdI.enc),false⟩,some ⟨1,3,(c22.map cdI.enc),false⟩]⟩) ?_ ?_
    ·refine AD (n:=148) AC 3 [(1,.sl 9 (x1.map AE.enc)),(11,.sl 1 (v12.1.map (cdL 1 cdI).enc)),(13,.v (.int .i64 (wr .i64 ((wr .i64 (1 * 2 ^ min (x1.length:Int).toNat 64)) - 1)))),(14,.rf 0 0 c21.length c21.length),(15,.rf 1 0 c22.length c22.length),(16,.v (.int .i64 c18)),(17,.v (.int .i64 c23)),(69,.v (.int .i64 (x1.length:Int))),(70,.v (.int .i64 c23)),(78,.rf 0 0 c21.length c21.length),(79,.v (.int .i64 c18)),(80,.v (.int .i64 c23))] [some ⟨1,3,(c21.map cdI.enc),false⟩,some ⟨1,3,(c22.map cdI.enc),false⟩] kr ?_
     refine AR AC 0 rfl (C7 (AB rfl) rfl (Yl (a:= .v (.int .i64 1)) (b:= .v (.int .i64 c23)) kr kr (Rr hk27))) ?_;refine AD (n:=148) AC 1 [(1,.sl 9 (x1.map AE.enc)),(11,.sl 1 (v12.1.map (cdL 1 cdI).enc)),(13,.v (.int .i64 (wr .i64 ((wr .i64 (1 * 2 ^ min (x1.length:Int).toNat 64)) - 1)))),(14,.rf 0 0 c21.length c21.length),(15,.rf 1 0 c22.length c22.length),(16,.v (.int .i64 c18)),(17,.v (.int .i64 c23)),(69,.v (.int .i64 (x1.length:Int))),(70,.v (.int .i64 c23)),(78,.rf 0 0 c21.length c21.length),(82,.v (.int .i64 (orI .i64 c18 (wr .i64 (1 * 2 ^ min c23.toNat 64)))))] [some ⟨1,3,(c21.map cdI.enc),false⟩,some ⟨1,3,(c22.map cdI.enc),false⟩] kr ?_;refine AR AC 0 rfl (C7 (AB rfl) rfl (AO (a:= .rf 0 0 c21.length c21.length) (b:= .v (.int .i64 (orI .i64 c18 (wr .i64 (1 * 2 ^ min c23.toNat 64))))) kr kr (UH (e:=cdI.enc) (xs:=c21) (t':=3) (el:=3) (k:=1) (ki:= .i64) kr kr kr hv28))) ?_;refine AR AC 0 rfl (C7 (AB rfl) rfl (Ip (p:= .pt 0 ((orI .i64 c18 (wr .i64 (1 * 2 ^ min c23.toNat 64))).toNat) 0) kr (To (B:=⟨1,3,(c21.map cdI.enc),false⟩) (m:=1) (g:=false) (e:=cdI.enc) (xs:=c21) kr kr kr rfl (D6 hv28).2 kr))) ?_;exact AW AC
    refine AF ?_;refine AF ?_;refine AK (s1:=⟨Fr 148 [(1,.sl 9 (x1.map AE.enc)),(11,.sl 1 (v12.1.map (cdL 1 cdI).enc)),(13,.v (.int .i64 (wr .i64 ((wr .i64 (1 * 2 ^ min (x1.length:Int).toNat 64)) - 1)))),(14,.rf 0 0 c21.length c21.length),(15,.rf 1 0 c22.length c22.length),(16,.v (.int .i64 c18)),(17,.v (.int .i64 c23)),(18,.v (.int .i64 v28)),(69,.v (.int .i64 (x1.length:Int))),(70,.v (.int .i64 c23)),(86,.v (.int .i64 (x1.length:Int))),(87,.v (.int .i64 0))],[some ⟨1,3,(c21.map cdI.enc),false⟩,some ⟨1,3,(c22.map cdI.enc),false⟩]⟩) ?_ ?_
    ·refine AD (n:=148) AC 1 [(1,.sl 9 (x1.map AE.enc)),(11,.sl 1 (v12.1.map (cdL 1 cdI).enc)),(13,.v (.int .i64 (wr .i64 ((wr .i64 (1 * 2 ^ min (x1.length:Int).toNat 64)) - 1)))),(14,.rf 0 0 c21.length c21.length),(15,.rf 1 0 c22.length c22.length),(16,.v (.int .i64 c18)),(17,.v (.int .i64 c23)),(18,.v (.int .i64 v28)),(69,.v (.int .i64 (x1.length:Int))),(70,.v (.int .i64 c23)),(85,.sl 9 (x1.map AE.enc))] [some ⟨1,3,(c21.map cdI.enc),false⟩,some ⟨1,3,(c22.map cdI.enc),false⟩] kr ?_
     refine AR AC 0 rfl (C7 (AB rfl) rfl (Ck (a:= .sl 9 (x1.map AE.enc)) kr (Ba (el:=42) kr))) ?_;exact AW AC
    refine AZ ?_;obtain ⟨r39,hr39,h⟩:=OB h;refine Bj (n:=100000) ?_;refine Aq (Ac (s1:=⟨Fr 148 [(1,.sl 9 (x1.map AE.enc)),(11,.sl 1 (v12.1.map (cdL 1 cdI).enc)),(13,.v (.int .i64 (wr .i64 ((wr .i64 (1 * 2 ^ min (x1.length:Int).toNat 64)) - 1)))),(14,.rf 0 0 c21.length c21.length),(15,.rf 1 0 c22.length c22.length),(16,.v (.int .i64 c18)),(17,.v (.int .i64 c23)),(18,.v (.int .i64 v28)),(69,.v (.int .i64 (x1.length:Int))),(70,.v (.int .i64 c23)),(86,.v (.int .i64 (x1.length:Int))),(87,.v (.int .i64 0))],[some ⟨1,3,(c21.map cdI.enc),false⟩,some ⟨1,3,(c22.map cdI.enc),false⟩]⟩) (Ad [0,1] ⟨⟨_,rfl,DO⟩,⟨_,rfl,DO⟩,trivial⟩ ⟨lv,lv,lv,lv,lv,lv,lv,lv,lv,lv,lv,lv,trivial⟩) (NZ x1 v12 c18 c21 c22 c23 _ v28 0 _ hr39)) ?_;refine AF ?_;obtain ⟨v40,hv40,h⟩:=OB h;obtain ⟨j45,hj45,h⟩:=OB h;refine AK (s1:=⟨Fr 148 [(1,.sl 9 (x1.map AE.enc)),(11,.sl 1 (v12.1.map (cdL 1 cdI).enc)),(13,.v (.int .i64 (wr .i64 ((wr .i64 (1 * 2 ^ min (x1.length:Int).toNat 64)) - 1)))),(14,.rf 0 0 j45.1.length j45.1.length),(15,.rf 1 0 j45.2.1.length j45.2.1.length),(16,.v (.int .i64 c18)),(17,.v (.int .i64 c23)),(18,.v (.int .i64 r39)),(69,.v (.int .i64 (x1.length:Int))),(70,.v (.int .i64 c23)),(117,.v (.bool j45.2.2))],[some ⟨1,3,(j45.1.map cdI.enc),false⟩,some ⟨1,3,(j45.2.1.map cdI.enc),false⟩]⟩) ?_ ?_
    ·refine AD (n:=148) AC 2 [(1,.sl 9 (x1.map AE.enc)),(11,.sl 1 (v12.1.map (cdL 1 cdI).enc)),(13,.v (.int .i64 (wr .i64 ((wr .i64 (1 * 2 ^ min (x1.length:Int).toNat 64)) - 1)))),(14,.rf 0 0 c21.length c21.length),(15,.rf 1 0 c22.length c22.length),(16,.v (.int .i64 c18)),(17,.v (.int .i64 c23)),(18,.v (.int .i64 r39)),(69,.v (.int .i64 (x1.length:Int))),(70,.v (.int .i64 c23)),(105,.rf 0 0 c21.length c21.length),(106,.v (.int .i64 c18))] [some ⟨1,3,(c21.map cdI.enc),false⟩,some ⟨1,3,(c22.map cdI.enc),false⟩] kr ?_
     refine AR AC 0 rfl (C7 (AB rfl) rfl (AO (a:= .rf 0 0 c21.length c21.length) (b:= .v (.int .i64 c18)) kr kr (UH (e:=cdI.enc) (xs:=c21) (t':=3) (el:=3) (k:=1) (ki:= .i64) kr kr kr hv40))) ?_;refine AR AC 0 rfl (C7 (AB rfl) rfl (Ip (p:= .pt 0 c18.toNat 0) kr (To (B:=⟨1,3,(c21.map cdI.enc),false⟩) (m:=1) (g:=false) (e:=cdI.enc) (xs:=c21) kr kr kr rfl (D6 hv40).2 kr))) ?_;refine AD (n:=148) AC 2 [(1,.sl 9 (x1.map AE.enc)),(11,.sl 1 (v12.1.map (cdL 1 cdI).enc)),(13,.v (.int .i64 (wr .i64 ((wr .i64 (1 * 2 ^ min (x1.length:Int).toNat 64)) - 1)))),(14,.rf 0 0 c21.length c21.length),(15,.rf 1 0 c22.length c22.length),(16,.v (.int .i64 c18)),(17,.v (.int .i64 c23)),(18,.v (.int .i64 r39)),(69,.v (.int .i64 (x1.length:Int))),(70,.v (.int .i64 c23)),(110,.v (.bool (decide (v40 < 0))))] [some ⟨1,3,(c21.map cdI.enc),false⟩,some ⟨1,3,(c22.map cdI.enc),false⟩] kr ?_;rcases BE (decide (v40 < 0)) with hc52 | hc52
     ·rw [if_pos hc52] at hj45
      rw [hc52];refine AD (n:=148) AC 7 [(1,.sl 9 (x1.map AE.enc)),(11,.sl 1 (v12.1.map (cdL 1 cdI).enc)),(13,.v (.int .i64 (wr .i64 ((wr .i64 (1 * 2 ^ min (x1.length:Int).toNat 64)) - 1)))),(14,.rf 0 0 c21.length c21.length),(15,.rf 1 0 c22.length c22.length),(16,.v (.int .i64 c18)),(17,.v (.int .i64 c23)),(18,.v (.int .i64 r39)),(69,.v (.int .i64 (x1.length:Int))),(70,.v (.int .i64 c23)),(111,.tp []),(112,.tp []),(113,.tp []),(114,.tp []),(115,.tp []),(116,.tp []),(117,.v (.bool true))] [some ⟨1,3,(c21.map cdI.enc),false⟩,some ⟨1,3,(c22.map cdI.enc),false⟩] kr ?_;have hq:=OI hj45; subst hq;exact AI rfl (Ad [0,1] ⟨⟨_,rfl,DO⟩,⟨_,rfl,DO⟩,trivial⟩ ⟨lv,lv,lv,lv,lv,lv,lv,lv,lv,lv,lv,trivial⟩)
     ·rw [BZ hc52] at hj45
      rw [hc52];refine AD (n:=148) AC 3 [(1,.sl 9 (x1.map AE.enc)),(11,.sl 1 (v12.1.map (cdL 1 cdI).enc)),(13,.v (.int .i64 (wr .i64 ((wr .i64 (1 * 2 ^ min (x1.length:Int).toNat 64)) - 1)))),(14,.rf 0 0 c21.length c21.length),(15,.rf 1 0 c22.length c22.length),(16,.v (.int .i64 c18)),(17,.v (.int .i64 c23)),(18,.v (.int .i64 r39)),(69,.v (.int .i64 (x1.length:Int))),(70,.v (.int .i64 c23)),(110,.v (.bool false)),(111,.v (.int .i64 r39)),(112,.rf 0 0 c21.length c21.length),(113,.v (.int .i64 c18))] [some ⟨1,3,(c21.map cdI.enc),false⟩,some ⟨1,3,(c22.map cdI.enc),false⟩] kr ?_;obtain ⟨v41,hv41,hj45⟩:=OB hj45;refine AR AC 0 rfl (C7 kr rfl (AO (a:= .rf 0 0 c21.length c21.length) (b:= .v (.int .i64 c18)) kr kr (UH (e:=cdI.enc) (xs:=c21) (t':=3) (el:=3) (k:=1) (ki:= .i64) kr kr kr hv41))) ?_;refine AR AC 0 rfl (C7 kr rfl (Ip (p:= .pt 0 c18.toNat 0) kr (To (B:=⟨1,3,(c21.map cdI.enc),false⟩) (m:=1) (g:=false) (e:=cdI.enc) (xs:=c21) kr kr kr rfl (D6 hv41).2 kr))) ?_;refine AD (n:=148) AC 2 [(1,.sl 9 (x1.map AE.enc)),(11,.sl 1 (v12.1.map (cdL 1 cdI).enc)),(13,.v (.int .i64 (wr .i64 ((wr .i64 (1 * 2 ^ min (x1.length:Int).toNat 64)) - 1)))),(14,.rf 0 0 c21.length c21.length),(15,.rf 1 0 c22.length c22.length),(16,.v (.int .i64 c18)),(17,.v (.int .i64 c23)),(18,.v (.int .i64 r39)),(69,.v (.int .i64 (x1.length:Int))),(70,.v (.int .i64 c23)),(111,.v (.int .i64 r39)),(112,.rf 0 0 c21.length c21.length),(113,.v (.int .i64 c18)),(114,.pt 0 c18.toNat 0),(115,.v (.int .i64 v41)),(116,.v (.bool (decide (r39 < v41)))),(117,.v (.bool (decide (r39 < v41))))] [some ⟨1,3,(c21.map cdI.enc),false⟩,some ⟨1,3,(c22.map cdI.enc),false⟩] kr ?_;have hq:=OI hj45; subst hq;exact AI rfl (Ad [0,1] ⟨⟨_,rfl,DO⟩,⟨_,rfl,DO⟩,trivial⟩ ⟨lv,lv,lv,lv,lv,lv,lv,lv,lv,lv,lv,trivial⟩)
    obtain ⟨r51,hr51,h⟩:=OB h;refine F7 (NW x1 v12 c18 c23 r39 j45 _ hr51) ?_;refine Cn AC [(1,.sl 9 (x1.map AE.enc)),(11,.sl 1 (v12.1.map (cdL 1 cdI).enc)),(13,.v (.int .i64 (wr .i64 ((wr .i64 (1 * 2 ^ min (x1.length:Int).toNat 64)) - 1)))),(14,.rf 0 0 r51.1.length r51.1.length),(15,.rf 1 0 r51.2.length r51.2.length),(16,.v (.int .i64 c18)),(69,.v (.int .i64 (x1.length:Int))),(70,.v (.int .i64 (wr .i64 (c23 + 1))))] [some ⟨1,3,(r51.1.map cdI.enc),false⟩,some ⟨1,3,(r51.2.map cdI.enc),false⟩] ?_;exact Ac (s1:=⟨Fr 148 [(1,.sl 9 (x1.map AE.enc)),(11,.sl 1 (v12.1.map (cdL 1 cdI).enc)),(13,.v (.int .i64 (wr .i64 ((wr .i64 (1 * 2 ^ min (x1.length:Int).toNat 64)) - 1)))),(14,.rf 0 0 r51.1.length r51.1.length),(15,.rf 1 0 r51.2.length r51.2.length),(16,.v (.int .i64 c18)),(69,.v (.int .i64 (x1.length:Int))),(70,.v (.int .i64 (wr .i64 (c23 + 1))))],[some ⟨1,3,(r51.1.map cdI.enc),false⟩,some ⟨1,3,(r51.2.map cdI.enc),false⟩]⟩) (Ad [0,1] ⟨⟨_,rfl,DO⟩,⟨_,rfl,DO⟩,trivial⟩ ⟨lv,lv,lv,lv,lv,lv,lv,lv,trivial⟩) (ih r51.1 r51.2 (wr .i64 (c23 + 1)) h)
  ·rw [BZ hb24] at h
   refine Bd ?_;have hq:=OI h; subst hq;exact ⟨rfl,(Ad [0,1] ⟨⟨_,rfl,DO⟩,⟨_,rfl,DO⟩,trivial⟩ ⟨lv,lv,lv,lv,lv,lv,trivial⟩)⟩
theorem NX (x1:(List Ai)) (v12:(List (List Int))×Bool):∀ (f:Nat) (c16:(List Int)) (c17:(List Int)) (c18:Int) (r:((List Int)×(List Int))),Dv x1 v12 f c16 c17 c18=some r->SemN E0 ⟨none,false⟩ (pc C6 [1,1,1,1,1,1,1,1,0,1,0,0]) f ⟨Fr 148 [(1,.sl 9 (x1.map AE.enc)),(11,.sl 1 (v12.1.map (cdL 1 cdI).enc)),(13,.v (.int .i64 (wr .i64 ((wr .i64 (1 * 2 ^ min (x1.length:Int).toNat 64)) - 1)))),(14,.rf 0 0 c16.length c16.length),(15,.rf 1 0 c17.length c17.length),(16,.v (.int .i64 c18))],[some ⟨1,3,(c16.map cdI.enc),false⟩,some ⟨1,3,(c17.map cdI.enc),false⟩]⟩ (fun e s=>e=(.exit 2)/\Wk E0 s ⟨Fr 148 [(13,.v (.int .i64 (wr .i64 ((wr .i64 (1 * 2 ^ min (x1.length:Int).toNat 64)) - 1)))),(14,.rf 0 0 r.1.length r.1.length),(15,.rf 1 0 r.2.length r.2.length)],[some ⟨1,3,(r.1.map cdI.enc),false⟩,some ⟨1,3,(r.2.map cdI.enc),false⟩]⟩):=by
 intro f;induction f with
 | zero=>intro c16 c17 c18 r h; cases h
 | succ f ih0 =>
  intro c16 c17 c18 r h
  have ih:=fun (c16:(List Int)) (c17:(List Int)) (c18:Int)=>ih0 c16 c17 c18 r
  unfold Dv at h;refine BR ?_;refine AF ?_
  let p1:Option Blk:=some ⟨1,3,(c17.map cdI.enc),false⟩
  let p2:Option Blk:=some ⟨1,3,(c16.map cdI.enc),false⟩
  let p3:Nat×AV:=(16,.v (.int .i64 c18))
  let p4:Nat×AV:=(15,.rf 1 0 c17.length c17.length)
  let p5:Nat×AV:=(14,.rf 0 0 c16.length c16.length)
  let p6:Nat×AV:=(13,.v (.int .i64 (wr .i64 ((wr .i64 (1 * 2 ^ min (x1.length:Int).toNat 64)) - 1))))
  let p7:Nat×AV:=(11,.sl 1 (v12.1.map (cdL 1 cdI).enc))
  let p8:Nat×AV:=(1,.sl 9 (x1.map AE.enc))
  refine AJ AC [p8,p7,p6,p5,p4,p3,(62,.v (.bool (decide (c18≥0))))] [p2,p1] ?_;refine AP (b:=(decide (c18≥0))) kr (fun hb19=>?_) (fun hb19=>?_)
  ·rw [if_pos hb19] at h
   refine AS ?_;refine AF ?_;refine AZ ?_;refine AF ?_;obtain ⟨v20,hv20,h⟩:=OB h
   let p9:Option Blk:=some ⟨1,3,((c16.set c18.toNat (-1)).map cdI.enc),false⟩
   let p10:Nat×AV:=(14,.rf 0 0 (c16.set c18.toNat (-1)).length (c16.set c18.toNat (-1)).length)
   refine AK (s1:=⟨Fr 148 [p8,p7,p6,p10,p4,p3],[p9,p1]⟩) ?_ ?_
   ·refine AD (n:=148) AC 2 [p8,p7,p6,p5,p4,p3,(65,.rf 0 0 c16.length c16.length),(66,.v (.int .i64 c18))] [p2,p1] kr ?_
    refine AR AC 0 rfl (C7 (AB rfl) rfl (AO (a:= .rf 0 0 c16.length c16.length) (b:= .v (.int .i64 c18)) kr kr (UH (e:=cdI.enc) (xs:=c16) (t':=3) (el:=3) (k:=1) (ki:= .i64) kr kr kr hv20))) ?_;refine RunS.store AC (y:= .pt 0 c18.toNat 0) (z:= .v (.int .i64 (-1))) rfl (AB rfl) kr kr (Yv (t':=3) (k:=1) (e:=cdI.enc) (xs:=c16) (v:=v20) (v':=(-1)) kr (D6 hv20).2 kr kr kr) ?_;exact AI rfl (Ad [0,1] ⟨⟨_,rfl,DO⟩,⟨_,rfl,DO⟩,trivial⟩ ⟨lv,lv,lv,ABq (b':=0) (n:=c16.length) kr (by simp) kr,lv,lv,trivial⟩)
   refine AF ?_
   let p11:Nat×AV:=(69,.v (.int .i64 (x1.length:Int)))
   refine AK (s1:=⟨Fr 148 [p8,p7,p6,p10,p4,p3,p11,(70,.v (.int .i64 0))],[p9,p1]⟩) ?_ ?_
   ·refine AD (n:=148) AC 1 [p8,p7,p6,p10,p4,p3,(68,.sl 9 (x1.map AE.enc))] [p9,p1] kr ?_
    refine AR AC 0 rfl (C7 (AB rfl) rfl (Ck (a:= .sl 9 (x1.map AE.enc)) kr (Ba (el:=42) kr))) ?_;exact AW AC
   refine AZ ?_;obtain ⟨r55,hr55,h⟩:=OB h;refine Bj (n:=100000) ?_;refine Aq (Ac (s1:=⟨Fr 148 [p8,p7,p6,p10,p4,p3,p11,(70,.v (.int .i64 0))],[p9,p1]⟩) (Ad [0,1] ⟨⟨_,rfl,DO⟩,⟨_,rfl,DO⟩,trivial⟩ ⟨lv,lv,lv,lv,lv,lv,lv,lv,trivial⟩) (NY x1 v12 c18 _ (c16.set c18.toNat (-1)) c17 0 _ hr55)) ?_
   let p12:Option Blk:=some ⟨1,3,(r55.2.map cdI.enc),false⟩
   let p13:Option Blk:=some ⟨1,3,(r55.1.map cdI.enc),false⟩
   let p14:Nat×AV:=(16,.v (.int .i64 (wr .i64 (c18 - 1))))
   let p15:Nat×AV:=(15,.rf 1 0 r55.2.length r55.2.length)
   let p16:Nat×AV:=(14,.rf 0 0 r55.1.length r55.1.length)
   refine Cn AC [p8,p7,p6,p16,p15,p14] [p13,p12] ?_;exact Ac (s1:=⟨Fr 148 [p8,p7,p6,p16,p15,p14],[p13,p12]⟩) (Ad [0,1] ⟨⟨_,rfl,DO⟩,⟨_,rfl,DO⟩,trivial⟩ ⟨lv,lv,lv,lv,lv,lv,trivial⟩) (ih r55.1 r55.2 (wr .i64 (c18 - 1)) h)
  ·rw [BZ hb19] at h
   refine Bd ?_;have hq:=OI h; subst hq;exact ⟨rfl,(Ad [0,1] ⟨⟨_,rfl,DO⟩,⟨_,rfl,DO⟩,trivial⟩ ⟨lv,lv,lv,trivial⟩)⟩
theorem Na (x1:(List Ai)) (r58:(List Int)×(List Int)):∀ (f:Nat) (c59:(List Int)) (c60:Int) (r:((List Int))),DV x1 r58 f c59 c60=some r->SemN E0 ⟨none,false⟩ (pc C6 [1,1,1,1,1,1,1,1,1,1,0,1,0,0]) f ⟨Fr 148 [(13,.v (.int .i64 (wr .i64 ((wr .i64 (1 * 2 ^ min (x1.length:Int).toNat 64)) - 1)))),(14,.rf 0 0 r58.1.length r58.1.length),(15,.rf 1 0 r58.2.length r58.2.length),(20,hd 2 (c59.map cdI.enc)),(21,.v (.int .i64 c60))],[some ⟨1,3,(r58.1.map cdI.enc),false⟩,some ⟨1,3,(r58.2.map cdI.enc),false⟩,mk 1 3 (c59.map cdI.enc)]⟩ (fun e s=>e=(.exit 8)/\Wk E0 s ⟨Fr 148 [(14,.rf 0 0 r58.1.length r58.1.length),(20,hd 1 (r.map cdI.enc))],[some ⟨1,3,(r58.1.map cdI.enc),false⟩,mk 1 3 (r.map cdI.enc)]⟩):=by
 intro f;induction f with
 | zero=>intro c59 c60 r h; cases h
 | succ f ih0 =>
  intro c59 c60 r h
  have ih:=fun (c59:(List Int)) (c60:Int)=>ih0 c59 c60 r
  unfold DV at h;refine BR ?_;refine AF ?_
  let p1:Option Blk:=mk 1 3 (c59.map cdI.enc)
  let p2:Option Blk:=some ⟨1,3,(r58.2.map cdI.enc),false⟩
  let p3:Option Blk:=some ⟨1,3,(r58.1.map cdI.enc),false⟩
  let p4:Nat×AV:=(21,.v (.int .i64 c60))
  let p5:Nat×AV:=(15,.rf 1 0 r58.2.length r58.2.length)
  let p6:Nat×AV:=(14,.rf 0 0 r58.1.length r58.1.length)
  let p7:Nat×AV:=(13,.v (.int .i64 (wr .i64 ((wr .i64 (1 * 2 ^ min (x1.length:Int).toNat 64)) - 1))))
  refine AJ AC [p7,p6,p5,(20,hd 2 (c59.map cdI.enc)),p4,(129,.v (.bool (c60 != (wr .i64 ((wr .i64 (1 * 2 ^ min (x1.length:Int).toNat 64)) - 1)))))] [p3,p2,p1] ?_;refine AP (b:=(c60 != (wr .i64 ((wr .i64 (1 * 2 ^ min (x1.length:Int).toNat 64)) - 1)))) kr (fun hb61=>?_) (fun hb61=>?_)
  ·rw [if_pos hb61] at h
   refine AS ?_;refine AF ?_;refine AZ ?_;obtain ⟨v62,hv62,h⟩:=OB h;by_cases hk63:(Gf 8 (c59.length + 1))=true
   case neg=>rw [if_neg hk63] at h; cases h
   rw [if_pos hk63] at h
   let p8:Option Blk:=mk 1 3 ((c59++[v62]).map cdI.enc)
   let p9:Nat×AV:=(20,hd 2 ((c59++[v62]).map cdI.enc))
   refine AK (s1:=⟨Fr 148 [p7,p6,p5,p9,p4],[p3,p2,p8]⟩) ?_ ?_
   ·refine AD (n:=148) AC 3 [p7,p6,p5,p4,(137,hd 2 (c59.map cdI.enc)),(138,.rf 1 0 r58.2.length r58.2.length),(139,.v (.int .i64 c60))] [p3,p2,p1] kr ?_
    refine AR AC 0 rfl (C7 (AB rfl) rfl (AO (a:= .rf 1 0 r58.2.length r58.2.length) (b:= .v (.int .i64 c60)) kr kr (UH (e:=cdI.enc) (xs:=r58.2) (t':=3) (el:=3) (k:=1) (ki:= .i64) kr kr kr hv62))) ?_;refine AR AC 0 rfl (C7 (AB rfl) rfl (Ip (p:= .pt 1 c60.toNat 0) kr (To (B:=⟨1,3,(r58.2.map cdI.enc),false⟩) (m:=1) (g:=false) (e:=cdI.enc) (xs:=r58.2) kr kr kr rfl (D6 hv62).2 kr))) ?_;refine AD (n:=148) AC 1 [p7,p6,p5,p4,(137,hd 2 (c59.map cdI.enc)),(142,hd 3 ([v62].map cdI.enc))] [p3,p2,p1,mk 1 3 ([v62].map cdI.enc)] kr ?_;refine AR AC 0 rfl (Xe (AB rfl) rfl kr kr (FE (a:=hd 2 (c59.map cdI.enc)) (b:=hd 3 ([v62].map cdI.enc)) kr kr (Kj (c:=cdI) (xs:=c59) (vs:=[v62]) (k:=1) (bytes:=8) (el:=3) kr kr (GK (t:=3) kr) (List.cons_ne_nil _ _) kr hk63))) ?_;refine AD (n:=148) AC 1 [p7,p6,p5,(20,hd 4 ((c59++[v62]).map cdI.enc)),p4] [p3,p2,none,mk 1 3 ([v62].map cdI.enc),p8] kr ?_;exact AI rfl (Ad [0,1,4] ⟨⟨_,rfl,DO⟩,⟨_,rfl,DO⟩,⟨_,rfl,HH⟩,trivial⟩ ⟨lv,lv,lv,HJ (b':=4) kr kr,lv,trivial⟩)
   obtain ⟨v64,hv64,h⟩:=OB h;by_cases hk65:(decide (0<=v64))=true
   case neg=>rw [if_neg hk65] at h; cases h
   rw [if_pos hk65] at h
   let p10:Nat×AV:=(21,.v (.int .i64 (orI .i64 c60 (wr .i64 (1 * 2 ^ min v64.toNat 64)))))
   refine AK (s1:=⟨Fr 148 [p7,p6,p5,p9,p10],[p3,p2,p8]⟩) ?_ ?_
   ·refine AD (n:=148) AC 3 [p7,p6,p5,p9,(130,.v (.int .i64 c60)),(131,.rf 1 0 r58.2.length r58.2.length),(132,.v (.int .i64 c60))] [p3,p2,p8] kr ?_
    refine AR AC 0 rfl (C7 (AB rfl) rfl (AO (a:= .rf 1 0 r58.2.length r58.2.length) (b:= .v (.int .i64 c60)) kr kr (UH (e:=cdI.enc) (xs:=r58.2) (t':=3) (el:=3) (k:=1) (ki:= .i64) kr kr kr hv64))) ?_;refine AR AC 0 rfl (C7 (AB rfl) rfl (Ip (p:= .pt 1 c60.toNat 0) kr (To (B:=⟨1,3,(r58.2.map cdI.enc),false⟩) (m:=1) (g:=false) (e:=cdI.enc) (xs:=r58.2) kr kr kr rfl (D6 hv64).2 kr))) ?_;refine AR AC 0 rfl (C7 (AB rfl) rfl (Yl (a:= .v (.int .i64 1)) (b:= .v (.int .i64 v64)) kr kr (Rr hk65))) ?_;exact AW AC
   exact Ac (s1:=⟨Fr 148 [p7,p6,p5,p9,p10],[p3,p2,p8]⟩) (Ad [0,1,2] ⟨⟨_,rfl,DO⟩,⟨_,rfl,DO⟩,⟨_,rfl,HH⟩,trivial⟩ ⟨lv,lv,lv,HJ (b':=2) kr kr,lv,trivial⟩) (ih (c59++[v62]) (orI .i64 c60 (wr .i64 (1 * 2 ^ min v64.toNat 64))) h)
  ·rw [BZ hb61] at h
   refine Bd ?_;have hq:=OI h; subst hq;exact ⟨rfl,(Ad [0,2] ⟨⟨_,rfl,DO⟩,⟨_,rfl,HH⟩,trivial⟩ ⟨lv,HJ (b':=2) kr kr,trivial⟩)⟩
theorem OY (x0:(List (List AG))) (x1:(List Ai)) (r:(List Int)×Int×Int) (h:C9 x0 x1=some r):Sem E0 ⟨none,false⟩ C6 ⟨Fr 148 (A3 0 (H4.enc (x0,x1,()))),[]⟩ fun e s'=>(e = .normal\/e = .ret)/\∃ xs,EG E0.P s'.fr s'.hp Tryz.f49.results.toList=some xs/\EN xs=H7 r:=by
 unfold C9 at h
 let p1:Nat×AV:=(1,.sl 9 (x1.map AE.enc))
 let p2:Nat×AV:=(0,.sl 1 (x0.map (cdL 5 AA).enc))
 refine An (BP (s1:=⟨Fr 148 [p2,p1],[]⟩) AL ?_);refine AJ AC [p2,p1] [] ?_;refine AF ?_;refine AF ?_;refine AK (s1:=⟨Fr 148 [p2,p1,(24,.v (.bool (decide ((x0.length:Int) > 16))))],[]⟩) ?_ ?_
 ·refine AD (n:=148) AC 1 [p2,p1,(22,.sl 1 (x0.map (cdL 5 AA).enc))] [] kr ?_
  refine AR AC 0 rfl (C7 (AB rfl) rfl (Ck (a:= .sl 1 (x0.map (cdL 5 AA).enc)) kr (Ba (el:=22) kr))) ?_;exact AW AC
 refine AP (b:=(decide ((x0.length:Int) > 16))) kr (fun hb1=>?_) (fun hb1=>?_)
 ·rw [if_pos hb1] at h
  let p3:Nat×AV:=(6,.v (.int .i64 7))
  let p4:Nat×AV:=(5,.v (.int .i64 0))
  refine AJ AC [(4,.e0),p4,p3] [] ?_;refine AQ ?_;have hq:=OI h; subst hq;exact ⟨⟨Fr 148 [(4,.sl 1 ([].map cdI.enc)),p4,p3],[]⟩,(Wk.trans (s1:=⟨Fr 148 [(4,.e0),p4,p3],[]⟩) AL (Wk.trans (s1:=⟨Fr 148 [(4,.e0),p4,p3],[none]⟩) Wk.none (Wk.trans (s1:=⟨Fr 148 [(4,.sl 1 ([].map cdI.enc)),p4,p3],[none]⟩) (I4 0 (.inr kr) ⟨.inl rfl,trivial⟩ ⟨⟨.e0,kr,Zf⟩,⟨.v (.int .i64 0),kr,.inl rfl⟩,⟨.v (.int .i64 7),kr,.inl rfl⟩,trivial⟩) (Ad [] trivial ⟨lv,lv,lv,trivial⟩)))),.inr rfl,[.sl 1 ([].map cdI.enc),.v (.int .i64 0),.v (.int .i64 7)],kr,kr⟩
 ·rw [BZ hb1] at h
  refine AS ?_;refine AF ?_;refine AF ?_
  let p5:Nat×AV:=(27,.v (.int .i64 0))
  let p6:Nat×AV:=(26,.v (.int .i64 (x0.length:Int)))
  let p7:Nat×AV:=(25,.sl 1 (x0.map (cdL 5 AA).enc))
  refine AK (s1:=⟨Fr 148 [p2,p1,p7,p6,p5],[]⟩) ?_ ?_
  ·refine AD (n:=148) AC 1 [p2,p1,p7] [] kr ?_
   refine AR AC 0 rfl (C7 (AB rfl) rfl (Ck (a:= .sl 1 (x0.map (cdL 5 AA).enc)) kr (Ba (el:=22) kr))) ?_;exact AW AC
  refine AZ ?_;obtain ⟨r9,hr9,h⟩:=OB h;refine Bj (n:=100000) ?_;rcases r9 with w10 | w69
  ·try dsimp only at h
   refine Aq (Ac (s1:=⟨Fr 148 [p2,p1,p7,p6,p5],[]⟩) AL (I1 x0 x1 _ 0 _ hr9)) ?_;refine AF ?_;refine AF ?_;refine AK (s1:=⟨Fr 148 [p2,p1,(42,.v (.bool (decide ((x1.length:Int) > 7))))],[]⟩) ?_ ?_
   ·refine AD (n:=148) AC 1 [p2,p1,(40,.sl 9 (x1.map AE.enc))] [] kr ?_
    refine AR AC 0 rfl (C7 (AB rfl) rfl (Ck (a:= .sl 9 (x1.map AE.enc)) kr (Ba (el:=42) kr))) ?_;exact AW AC
   refine AP (b:=(decide ((x1.length:Int) > 7))) kr (fun hb11=>?_) (fun hb11=>?_)
   ·rw [if_pos hb11] at h
    let p8:Nat×AV:=(6,.v (.int .i64 8))
    let p9:Nat×AV:=(5,.v (.int .i64 0))
    refine AJ AC [(4,.e0),p9,p8] [] ?_;refine AQ ?_;have hq:=OI h; subst hq;exact ⟨⟨Fr 148 [(4,.sl 1 ([].map cdI.enc)),p9,p8],[]⟩,(Wk.trans (s1:=⟨Fr 148 [(4,.e0),p9,p8],[]⟩) AL (Wk.trans (s1:=⟨Fr 148 [(4,.e0),p9,p8],[none]⟩) Wk.none (Wk.trans (s1:=⟨Fr 148 [(4,.sl 1 ([].map cdI.enc)),p9,p8],[none]⟩) (I4 0 (.inr kr) ⟨.inl rfl,trivial⟩ ⟨⟨.e0,kr,Zf⟩,⟨.v (.int .i64 0),kr,.inl rfl⟩,⟨.v (.int .i64 8),kr,.inl rfl⟩,trivial⟩) (Ad [] trivial ⟨lv,lv,lv,trivial⟩)))),.inr rfl,[.sl 1 ([].map cdI.enc),.v (.int .i64 0),.v (.int .i64 8)],kr,kr⟩
   ·rw [BZ hb11] at h
    refine AS ?_;refine AF ?_;obtain ⟨v12,hv12,h⟩:=OB h
    let p10:Nat×AV:=(11,.sl 1 (v12.1.map (cdL 1 cdI).enc))
    refine AK (s1:=⟨Fr 148 [p1,p10],[]⟩) ?_ ?_
    ·refine AD (n:=148) AC 2 [p1,(44,.sl 1 (x0.map (cdL 5 AA).enc)),(45,.sl 9 (x1.map AE.enc))] [] kr ?_
     refine AT (caps:=[]) (xs:=[.sl 1 (x0.map (cdL 5 AA).enc),.sl 9 (x1.map AE.enc)]) (u:=(x0,x1,())) rfl rfl Um rfl (AB rfl) kr kr (AM (AX (c:=(cdL 1 (cdL 5 AA))) (v:=x0)) (AM (AX (c:=(cdL 9 AE)) (v:=x1)) Aj)) (.inr kr) hv12 ?_;exact AW AC
    refine AF ?_;by_cases hk13:(decide (0<=(x1.length:Int)))=true
    case neg=>rw [if_neg hk13] at h; cases h
    rw [if_pos hk13] at h
    let p11:Nat×AV:=(13,.v (.int .i64 (wr .i64 ((wr .i64 (1 * 2 ^ min (x1.length:Int).toNat 64)) - 1))))
    refine AK (s1:=⟨Fr 148 [p1,p10,p11],[]⟩) ?_ ?_
    ·refine AD (n:=148) AC 1 [p1,p10,(49,.sl 9 (x1.map AE.enc))] [] kr ?_
     refine AR AC 0 rfl (C7 (AB rfl) rfl (Ck (a:= .sl 9 (x1.map AE.enc)) kr (Ba (el:=42) kr))) ?_;refine AR AC 0 rfl (C7 (AB rfl) rfl (Yl (a:= .v (.int .i64 1)) (b:= .v (.int .i64 (x1.length:Int))) kr kr (Rr hk13))) ?_;exact AW AC
    refine AF ?_;by_cases hk14:(Ur 8 (wr .i64 ((wr .i64 ((wr .i64 (1 * 2 ^ min (x1.length:Int).toNat 64)) - 1)) + 1)))=true
    case neg=>rw [if_neg hk14] at h; cases h
    rw [if_pos hk14] at h
    let p12:Option Blk:=some ⟨1,3,((List.replicate (wr .i64 ((wr .i64 ((wr .i64 (1 * 2 ^ min (x1.length:Int).toNat 64)) - 1)) + 1)).toNat (0:Int)).map cdI.enc),false⟩
    let p13:Nat×AV:=(14,.rf 0 0 (List.replicate (wr .i64 ((wr .i64 ((wr .i64 (1 * 2 ^ min (x1.length:Int).toNat 64)) - 1)) + 1)).toNat (0:Int)).length (List.replicate (wr .i64 ((wr .i64 ((wr .i64 (1 * 2 ^ min (x1.length:Int).toNat 64)) - 1)) + 1)).toNat (0:Int)).length)
    refine AK (s1:=⟨Fr 148 [p1,p10,p11,p13],[p12]⟩) ?_ ?_
    ·refine AD (n:=148) AC 2 [p1,p10,p11,(54,.v (.int .i64 (wr .i64 ((wr .i64 ((wr .i64 (1 * 2 ^ min (x1.length:Int).toNat 64)) - 1)) + 1))))] [] kr ?_
     refine AR AC 0 rfl (ACZ (AB rfl) rfl kr (W1 (x:= .v (.int .i64 (wr .i64 ((wr .i64 ((wr .i64 (1 * 2 ^ min (x1.length:Int).toNat 64)) - 1)) + 1)))) (y:= .v (.int .i64 (wr .i64 ((wr .i64 ((wr .i64 (1 * 2 ^ min (x1.length:Int).toNat 64)) - 1)) + 1)))) kr kr (AAi (c:=cdI) (z:=(0:Int)) (k:=1) (bytes:=8) (el:=3) kr kr hk14))) ?_;exact AW AC
    refine AF ?_;by_cases hk15:(Ur 8 (wr .i64 ((wr .i64 ((wr .i64 (1 * 2 ^ min (x1.length:Int).toNat 64)) - 1)) + 1)))=true
    case neg=>rw [if_neg hk15] at h; cases h
    rw [if_pos hk15] at h
    let p14:Nat×AV:=(15,.rf 1 0 (List.replicate (wr .i64 ((wr .i64 ((wr .i64 (1 * 2 ^ min (x1.length:Int).toNat 64)) - 1)) + 1)).toNat (0:Int)).length (List.replicate (wr .i64 ((wr .i64 ((wr .i64 (1 * 2 ^ min (x1.length:Int).toNat 64)) - 1)) + 1)).toNat (0:Int)).length)
    refine AK (s1:=⟨Fr 148 [p1,p10,p11,p13,p14],[p12,p12]⟩) ?_ ?_
    ·refine AD (n:=148) AC 2 [p1,p10,p11,p13,(57,.v (.int .i64 (wr .i64 ((wr .i64 ((wr .i64 (1 * 2 ^ min (x1.length:Int).toNat 64)) - 1)) + 1))))] [p12] kr ?_
     refine AR AC 0 rfl (ACZ (AB rfl) rfl kr (W1 (x:= .v (.int .i64 (wr .i64 ((wr .i64 ((wr .i64 (1 * 2 ^ min (x1.length:Int).toNat 64)) - 1)) + 1)))) (y:= .v (.int .i64 (wr .i64 ((wr .i64 ((wr .i64 (1 * 2 ^ min (x1.length:Int).toNat 64)) - 1)) + 1)))) kr kr (AAi (c:=cdI) (z:=(0:Int)) (k:=1) (bytes:=8) (el:=3) kr kr hk15))) ?_;exact AW AC
    refine AF ?_
    let p15:Nat×AV:=(16,.v (.int .i64 (wr .i64 ((wr .i64 ((wr .i64 (1 * 2 ^ min (x1.length:Int).toNat 64)) - 1)) - 1))))
    refine AJ AC [p1,p10,p11,p13,p14,p15] [p12,p12] ?_;refine AZ ?_;obtain ⟨r58,hr58,h⟩:=OB h;refine Bj (n:=100000) ?_;refine Aq (Ac (s1:=⟨Fr 148 [p1,p10,p11,p13,p14,p15],[p12,p12]⟩) (Ad [0,1] ⟨⟨_,rfl,DO⟩,⟨_,rfl,DO⟩,trivial⟩ ⟨lv,lv,lv,lv,lv,lv,trivial⟩) (NX x1 v12 _ (List.replicate (wr .i64 ((wr .i64 ((wr .i64 (1 * 2 ^ min (x1.length:Int).toNat 64)) - 1)) + 1)).toNat (0:Int)) (List.replicate (wr .i64 ((wr .i64 ((wr .i64 (1 * 2 ^ min (x1.length:Int).toNat 64)) - 1)) + 1)).toNat (0:Int)) (wr .i64 ((wr .i64 ((wr .i64 (1 * 2 ^ min (x1.length:Int).toNat 64)) - 1)) - 1)) _ hr58)) ?_
    let p16:Option Blk:=some ⟨1,3,(r58.2.map cdI.enc),false⟩
    let p17:Option Blk:=some ⟨1,3,(r58.1.map cdI.enc),false⟩
    let p18:Nat×AV:=(15,.rf 1 0 r58.2.length r58.2.length)
    let p19:Nat×AV:=(14,.rf 0 0 r58.1.length r58.1.length)
    refine AJ AC [p11,p19,p18,(20,.e0)] [p17,p16] ?_;refine AF ?_
    let p20:Nat×AV:=(21,.v (.int .i64 0))
    refine AJ AC [p11,p19,p18,(20,.e0),p20] [p17,p16] ?_;refine AZ ?_;obtain ⟨r67,hr67,h⟩:=OB h;refine Bj (n:=100000) ?_;refine Aq (Ac (s1:=⟨Fr 148 [p11,p19,p18,(20,hd 2 ([].map cdI.enc)),p20],[p17,p16,mk 1 3 ([].map cdI.enc)]⟩) (Wk.trans (s1:=⟨Fr 148 [p11,p19,p18,(20,hd 2 ([].map cdI.enc)),p20],[p17,p16,mk 1 3 ([].map cdI.enc)]⟩) Wk.none (Ad [0,1,2] ⟨⟨_,rfl,DO⟩,⟨_,rfl,DO⟩,⟨_,rfl,MY⟩,trivial⟩ ⟨lv,lv,lv,lv,lv,trivial⟩)) (Na x1 r58 _ [] 0 _ hr67)) ?_;refine AF ?_;obtain ⟨v68,hv68,h⟩:=OB h
    let p21:Option Blk:=mk 1 3 (r67.map cdI.enc)
    let p22:Nat×AV:=(6,.v (.int .i64 0))
    let p23:Nat×AV:=(5,.v (.int .i64 v68))
    refine DL AC (s1:=⟨Fr 148 [(4,hd 0 (r67.map cdI.enc)),p23,p22],[p21]⟩) kr ?_ ?_
    ·refine AY (n:=148) AC 2 [(144,hd 1 (r67.map cdI.enc)),(145,.rf 0 0 r58.1.length r58.1.length)] [p17,p21] kr kr ?_
     refine RunDS.one AC rfl kr (HK kr (AB rfl) rfl (AO (a:= .rf 0 0 r58.1.length r58.1.length) (b:= .v (.int .i64 0)) kr kr (UH (e:=cdI.enc) (xs:=r58.1) (t':=3) (el:=3) (k:=1) (ki:= .i64) kr kr kr hv68)) kr) ?_;refine RunDS.one AC rfl kr (HK kr (AB rfl) rfl (Ip (p:= .pt 0 ((0:Int).toNat) 0) kr (To (B:=⟨1,3,(r58.1.map cdI.enc),false⟩) (m:=1) (g:=false) (e:=cdI.enc) (xs:=r58.1) kr kr kr rfl (D6 hv68).2 kr)) kr) ?_;refine AY (n:=148) AC 3 [(4,hd 1 (r67.map cdI.enc)),p23,p22] [p17,p21] kr kr ?_;exact RunDS.done rfl (Ad [1] ⟨⟨_,rfl,HH⟩,trivial⟩ ⟨HJ (b':=1) kr kr,lv,lv,trivial⟩)
    refine AQ ?_;have hq:=OI h; subst hq;exact ⟨⟨Fr 148 [(4,.sl 1 (r67.map cdI.enc)),p23,p22],[]⟩,(Wk.trans (s1:=⟨Fr 148 [(4,.sl 1 (r67.map cdI.enc)),p23,p22],[none]⟩) (I4 0 (.inl kr) ⟨.inl rfl,trivial⟩ ⟨⟨hd 0 (r67.map cdI.enc),kr,UF (t:=3) kr NM⟩,⟨.v (.int .i64 v68),kr,.inl rfl⟩,⟨.v (.int .i64 0),kr,.inl rfl⟩,trivial⟩) (Ad [] trivial ⟨lv,lv,lv,trivial⟩)),.inr rfl,[.sl 1 (r67.map cdI.enc),.v (.int .i64 v68),.v (.int .i64 0)],kr,kr⟩
  ·try dsimp only at h
   refine Aq (Ac (s1:=⟨Fr 148 [p2,p1,p7,p6,p5],[]⟩) AL (I1 x0 x1 _ 0 _ hr9)) ?_;have hq:=OI h; subst hq
   let p24:Nat×AV:=(6,.v (.int .i64 w69.2))
   let p25:Nat×AV:=(5,.v (.int .i64 w69.1))
   exact ⟨⟨Fr 148 [(4,.sl 1 ([].map cdI.enc)),p25,p24],[]⟩,(Wk.trans (s1:=⟨Fr 148 [(4,.e0),p25,p24],[]⟩) AL (Wk.trans (s1:=⟨Fr 148 [(4,.e0),p25,p24],[none]⟩) Wk.none (Wk.trans (s1:=⟨Fr 148 [(4,.sl 1 ([].map cdI.enc)),p25,p24],[none]⟩) (I4 0 (.inr kr) ⟨.inl rfl,trivial⟩ ⟨⟨.e0,kr,Zf⟩,⟨.v (.int .i64 w69.1),kr,.inl rfl⟩,⟨.v (.int .i64 w69.2),kr,.inl rfl⟩,trivial⟩) (Ad [] trivial ⟨lv,lv,lv,trivial⟩)))),.inr rfl,[.sl 1 ([].map cdI.enc),.v (.int .i64 w69.1),.v (.int .i64 w69.2)],kr,kr⟩
def Pr:List AV->Option AV:=Dx H4 (fun a=>C9 a.1 a.2.1) H7
theorem Pz:XOk 49 Pr:=by
 refine AU Tryz.func49 (c:=C6) ?h2 ⟨Tryz.call49⟩ H4 (fun a=>C9 a.1 a.2.1) H7 (fun a=>(by show 2<=148; decide)) ?h3 ?h4
 case h2=>kernel_rfl
 case h3=>intro b; kernel_rfl
 case h4=>exact fun a b h=>OY a.1 a.2.1 b h
/- trestle/trestleref03.between -/
noncomputable def NJ:Code:=BG Tryz.f170
def BV (x0:Int) (x1:Int) (x2:Int):Option (Bool) :=
 (if (decide (x1<=x0))=true then some (decide (x0<=x2)) else some false).bind fun j2 =>
 some j2
def KF:Cs (Int×Int×Int×Unit):=(csC cdI (csC cdI (csC cdI csN)))
def Ka (r:Bool):AV:=cdB.enc r
theorem Qb (x0:Int) (x1:Int) (x2:Int) (r:Bool) (h:BV x0 x1 x2=some r):Sem E0 ⟨none,false⟩ NJ ⟨Fr 15 (A3 0 (KF.enc (x0,x1,x2,()))),[]⟩ fun e s'=>(e = .normal\/e = .ret)/\∃ xs,EG E0.P s'.fr s'.hp Tryz.f170.results.toList=some xs/\EN xs=Ka r:=by
 unfold BV at h;refine An (BP (s1:=⟨Fr 15 [(0,.v (.int .i64 x0)),(1,.v (.int .i64 x1)),(2,.v (.int .i64 x2))],[]⟩) AL ?_);refine AJ AC [(0,.v (.int .i64 x0)),(1,.v (.int .i64 x1)),(2,.v (.int .i64 x2))] [] ?_;refine AF ?_;obtain ⟨j2,hj2,h⟩:=OB h;refine AK (s1:=⟨Fr 15 [(6,.v (.bool j2))],[]⟩) ?_ ?_
 ·refine AD (n:=15) AC 4 [(0,.v (.int .i64 x0)),(2,.v (.int .i64 x2)),(10,.v (.bool (decide (x1<=x0))))] [] kr ?_
  rcases BE (decide (x1<=x0)) with hc3 | hc3
  ·rw [if_pos hc3] at hj2
   rw [hc3];refine AD (n:=15) AC 5 [(6,.v (.bool (decide (x0<=x2))))] [] kr ?_;have hq:=OI hj2; subst hq;exact AI rfl AL
  ·rw [BZ hc3] at hj2
   rw [hc3];refine AD (n:=15) AC 5 [(6,.v (.bool false))] [] kr ?_;have hq:=OI hj2; subst hq;exact AI rfl AL
 refine AQ ?_;have hq:=OI h; subst hq;exact ⟨⟨Fr 15 [(6,.v (.bool j2))],[]⟩,AL,.inr rfl,[.v (.bool j2)],kr,kr⟩
def Ss:List AV->Option AV:=Dx KF (fun a=>BV a.1 a.2.1 a.2.2.1) Ka
theorem Eu:XOk 170 Ss:=by
 refine AU Tryz.func170 (c:=NJ) ?h2 ⟨Tryz.call170⟩ KF (fun a=>BV a.1 a.2.1 a.2.2.1) Ka (fun a=>(by show 3<=15; decide)) ?h3 ?h4
 case h2=>kernel_rfl
 case h3=>intro b; kernel_rfl
 case h4=>exact fun a b h=>Qb a.1 a.2.1 a.2.2.1 b h
/- trestle/trestleref03.formed -/
noncomputable def Gl:Code:=BG Tryz.f168
def Ha (x0:AG):Option ((Bool)) :=
 if (x0.1==8)=true then
 some (x0.1==8)
 else
 some (x0.1==9)
def HZ (x0:AG):Option ((Bool)) :=
 if (x0.1==3)=true then
 some (x0.1==3)
 else
 (Ha x0).bind fun r14 =>
 some r14
def HY (x0:AG):Option ((Bool)) :=
 if (x0.1==2)=true then
 some (x0.1==2)
 else
 (HZ x0).bind fun r15 =>
 some r15
def Hb (x0:AG):Option ((Bool)) :=
 if (x0.1==6)=true then
 some (x0.1==6)
 else
 some (x0.1==7)
def BI (x0:AG):Option (Bool) :=
 if (x0.1==1)=true then
 (BV (x0.2.2.2.1.length:Int) 1 16).bind fun v2 =>
 (if v2=true then if (x0.2.2.2.2==0)=true then if (!x0.2.2.1)=true then some (x0.2.1==[]) else some false else some false else some false).bind fun j4 =>
 some j4
 else
 (HY x0).bind fun r16 =>
 if r16=true then
 (if ((x0.2.2.2.1.length:Int)==0)=true then if (x0.2.2.2.2==0)=true then some (!x0.2.2.1) else some false else some false).bind fun j19 =>
 some j19
 else
 if (x0.1==4)=true then
 (if ((x0.2.2.2.1.length:Int)==0)=true then (BV x0.2.2.2.2 1 2).bind fun v23 =>
 some v23 else some false).bind fun j25 =>
 some j25
 else
 if (x0.1==5)=true then
 (if ((x0.2.2.2.1.length:Int)==0)=true then some (x0.2.2.2.2==0) else some false).bind fun j29 =>
 some j29
 else
 (Hb x0).bind fun r33 =>
 if r33=true then
 (BV (x0.2.2.2.1.length:Int) 1 16).bind fun v35 =>
 (if v35=true then some (x0.2.2.2.2==0) else some false).bind fun j37 =>
 some j37
 else
 if (x0.1==10)=true then
 (if ((x0.2.2.2.1.length:Int)==0)=true then (BV x0.2.2.2.2 0 63).bind fun v40 =>
 if v40=true then some (!x0.2.2.1) else some false else some false).bind fun j42 =>
 some j42
 else
 some false
def LA:Cs (AG×Unit):=(csC AA csN)
def LI (r:Bool):AV:=cdB.enc r
theorem Pk (x0:AG) (r:(Bool)) (h:Ha x0=some r):Sem E0 ⟨none,false⟩ (pc Gl [1,1,0,1,0,1,1,0,1,1,1,1,1]) ⟨Fr 87 [(1,.pt 0 0 0),(3,.v (.int .i64 (x0.2.2.2.1.length:Int))),(8,.v (.int .u8 x0.1)),(28,.v (.bool (x0.1==8)))],[some ⟨5,60,[AA.enc x0],false⟩]⟩ (fun e s=>e = .normal/\Wk E0 s ⟨Fr 87 [(1,.pt 0 0 0),(3,.v (.int .i64 (x0.2.2.2.1.length:Int))),(8,.v (.int .u8 x0.1)),(28,.v (.bool r))],[some ⟨5,60,[AA.enc x0],false⟩]⟩):=by
 unfold Ha at h;refine AP (b:=(x0.1==8)) kr (fun hb12=>?_) (fun hb12=>?_)
 ·rw [if_pos hb12] at h
  refine AS ?_;have hq:=OI h; subst hq;exact ⟨rfl,(Ad [0] ⟨⟨_,rfl,Ga⟩,trivial⟩ ⟨lv,lv,lv,lv,trivial⟩)⟩
 ·rw [BZ hb12] at h
  refine Cn AC [(1,.pt 0 0 0),(3,.v (.int .i64 (x0.2.2.2.1.length:Int))),(8,.v (.int .u8 x0.1)),(28,.v (.bool (x0.1==9)))] [some ⟨5,60,[AA.enc x0],false⟩] ?_;have hq:=OI h; subst hq;exact ⟨rfl,(Ad [0] ⟨⟨_,rfl,Ga⟩,trivial⟩ ⟨lv,lv,lv,lv,trivial⟩)⟩
theorem Pj (x0:AG) (r:(Bool)) (h:HZ x0=some r):Sem E0 ⟨none,false⟩ (pc Gl [1,1,0,1,0,1,1,0,1,1,1]) ⟨Fr 87 [(1,.pt 0 0 0),(3,.v (.int .i64 (x0.2.2.2.1.length:Int))),(8,.v (.int .u8 x0.1)),(28,.v (.bool (x0.1==3)))],[some ⟨5,60,[AA.enc x0],false⟩]⟩ (fun e s=>e = .normal/\Wk E0 s ⟨Fr 87 [(1,.pt 0 0 0),(3,.v (.int .i64 (x0.2.2.2.1.length:Int))),(8,.v (.int .u8 x0.1)),(28,.v (.bool r))],[some ⟨5,60,[AA.enc x0],false⟩]⟩):=by
 unfold HZ at h;refine AP (b:=(x0.1==3)) kr (fun hb10=>?_) (fun hb10=>?_)
 ·rw [if_pos hb10] at h
  refine AS ?_;have hq:=OI h; subst hq;exact ⟨rfl,(Ad [0] ⟨⟨_,rfl,Ga⟩,trivial⟩ ⟨lv,lv,lv,lv,trivial⟩)⟩
 ·rw [BZ hb10] at h
  refine AJ AC [(1,.pt 0 0 0),(3,.v (.int .i64 (x0.2.2.2.1.length:Int))),(8,.v (.int .u8 x0.1)),(28,.v (.bool (x0.1==8)))] [some ⟨5,60,[AA.enc x0],false⟩] ?_;obtain ⟨r14,hr14,h⟩:=OB h;refine F7 (Pk x0 _ hr14) ?_;have hq:=OI h; subst hq;exact ⟨rfl,(Ad [0] ⟨⟨_,rfl,Ga⟩,trivial⟩ ⟨lv,lv,lv,lv,trivial⟩)⟩
theorem Pi (x0:AG) (r:(Bool)) (h:HY x0=some r):Sem E0 ⟨none,false⟩ (pc Gl [1,1,0,1,0,1,1,0,1]) ⟨Fr 87 [(1,.pt 0 0 0),(3,.v (.int .i64 (x0.2.2.2.1.length:Int))),(8,.v (.int .u8 x0.1)),(28,.v (.bool (x0.1==2)))],[some ⟨5,60,[AA.enc x0],false⟩]⟩ (fun e s=>e = .normal/\Wk E0 s ⟨Fr 87 [(1,.pt 0 0 0),(3,.v (.int .i64 (x0.2.2.2.1.length:Int))),(8,.v (.int .u8 x0.1)),(28,.v (.bool r))],[some ⟨5,60,[AA.enc x0],false⟩]⟩):=by
 unfold HY at h;refine AP (b:=(x0.1==2)) kr (fun hb8=>?_) (fun hb8=>?_)
 ·rw [if_pos hb8] at h
  refine AS ?_;have hq:=OI h; subst hq;exact ⟨rfl,(Ad [0] ⟨⟨_,rfl,Ga⟩,trivial⟩ ⟨lv,lv,lv,lv,trivial⟩)⟩
 ·rw [BZ hb8] at h
  refine AJ AC [(1,.pt 0 0 0),(3,.v (.int .i64 (x0.2.2.2.1.length:Int))),(8,.v (.int .u8 x0.1)),(28,.v (.bool (x0.1==3)))] [some ⟨5,60,[AA.enc x0],false⟩] ?_;obtain ⟨r15,hr15,h⟩:=OB h;refine F7 (Pj x0 _ hr15) ?_;have hq:=OI h; subst hq;exact ⟨rfl,(Ad [0] ⟨⟨_,rfl,Ga⟩,trivial⟩ ⟨lv,lv,lv,lv,trivial⟩)⟩
theorem Pm (x0:AG) (r:(Bool)) (h:Hb x0=some r):Sem E0 ⟨none,false⟩ (pc Gl [1,1,0,1,0,1,1,1,1,1,1,1,1,0,1]) ⟨Fr 87 [(1,.pt 0 0 0),(3,.v (.int .i64 (x0.2.2.2.1.length:Int))),(8,.v (.int .u8 x0.1)),(63,.v (.bool (x0.1==6)))],[some ⟨5,60,[AA.enc x0],false⟩]⟩ (fun e s=>e = .normal/\Wk E0 s ⟨Fr 87 [(1,.pt 0 0 0),(3,.v (.int .i64 (x0.2.2.2.1.length:Int))),(8,.v (.int .u8 x0.1)),(63,.v (.bool r))],[some ⟨5,60,[AA.enc x0],false⟩]⟩):=by
 unfold Hb at h;refine AP (b:=(x0.1==6)) kr (fun hb31=>?_) (fun hb31=>?_)
 ·rw [if_pos hb31] at h
  refine AS ?_;have hq:=OI h; subst hq;exact ⟨rfl,(Ad [0] ⟨⟨_,rfl,Ga⟩,trivial⟩ ⟨lv,lv,lv,lv,trivial⟩)⟩
 ·rw [BZ hb31] at h
  refine Cn AC [(1,.pt 0 0 0),(3,.v (.int .i64 (x0.2.2.2.1.length:Int))),(8,.v (.int .u8 x0.1)),(63,.v (.bool (x0.1==7)))] [some ⟨5,60,[AA.enc x0],false⟩] ?_;have hq:=OI h; subst hq;exact ⟨rfl,(Ad [0] ⟨⟨_,rfl,Ga⟩,trivial⟩ ⟨lv,lv,lv,lv,trivial⟩)⟩
theorem RG (x0:AG) (r:Bool) (h:BI x0=some r):Sem E0 ⟨none,false⟩ Gl ⟨Fr 87 (A3 0 (LA.enc (x0,()))),[]⟩ fun e s'=>(e = .normal\/e = .ret)/\∃ xs,EG E0.P s'.fr s'.hp Tryz.f168.results.toList=some xs/\EN xs=LI r:=by
 unfold BI at h;refine An (BP (s1:=⟨Fr 87 [(0,AA.enc x0)],[]⟩) AL ?_);refine AJ AC [(1,.pt 0 0 0)] [some ⟨5,60,[AA.enc x0],false⟩] ?_;refine AF ?_;refine AK (s1:=⟨Fr 87 [(1,.pt 0 0 0),(3,.v (.int .i64 (x0.2.2.2.1.length:Int)))],[some ⟨5,60,[AA.enc x0],false⟩]⟩) ?_ ?_
 ·refine AD (n:=87) AC 2 [(1,.pt 0 0 0),(5,.sl 1 (x0.2.2.2.1.map cdS.enc))] [some ⟨5,60,[AA.enc x0],false⟩] kr ?_
  refine AR AC 0 rfl (C7 (AB rfl) rfl (Ck (a:= .sl 1 (x0.2.2.2.1.map cdS.enc)) kr (Ba (el:=9) kr))) ?_;exact AW AC
 refine AF ?_;refine AJ AC [(1,.pt 0 0 0),(3,.v (.int .i64 (x0.2.2.2.1.length:Int))),(8,.v (.int .u8 x0.1))] [some ⟨5,60,[AA.enc x0],false⟩] ?_;refine AZ ?_;refine AJ AC [(1,.pt 0 0 0),(3,.v (.int .i64 (x0.2.2.2.1.length:Int))),(8,.v (.int .u8 x0.1)),(9,.v (.bool (x0.1==1)))] [some ⟨5,60,[AA.enc x0],false⟩] ?_;refine AP (b:=(x0.1==1)) kr (fun hb1=>?_) (fun hb1=>?_)
 ·rw [if_pos hb1] at h
  refine AF ?_;obtain ⟨v2,hv2,h⟩:=OB h;obtain ⟨j4,hj4,h⟩:=OB h;refine AK (s1:=⟨Fr 87 [(2,.v (.bool j4))],[]⟩) ?_ ?_
  ·refine AD (n:=87) AC 1 [(1,.pt 0 0 0),(11,.v (.int .i64 (x0.2.2.2.1.length:Int)))] [some ⟨5,60,[AA.enc x0],false⟩] kr ?_
   refine AT (caps:=[]) (xs:=[.v (.int .i64 (x0.2.2.2.1.length:Int)),.v (.int .i64 1),.v (.int .i64 16)]) (u:=((x0.2.2.2.1.length:Int),1,16,())) rfl rfl Eu rfl (AB rfl) kr kr (AM (AX (c:=cdI) (v:=(x0.2.2.2.1.length:Int))) (AM (AX (c:=cdI) (v:=1)) (AM (AX (c:=cdI) (v:=16)) Aj))) (.inl kr) hv2 ?_;refine AD (n:=87) AC 1 [(1,.pt 0 0 0),(13,.v (.bool v2))] [some ⟨5,60,[AA.enc x0],false⟩] kr ?_;rcases BE v2 with hc5 | hc5
   ·rw [if_pos hc5] at hj4
    rw [hc5];refine AD (n:=87) AC 5 [(1,.pt 0 0 0),(18,.v (.bool (x0.2.2.2.2==0)))] [some ⟨5,60,[AA.enc x0],false⟩] kr ?_;rcases BE (x0.2.2.2.2==0) with hc6 | hc6
    ·rw [if_pos hc6] at hj4
     rw [hc6];refine AD (n:=87) AC 5 [(1,.pt 0 0 0),(23,.v (.bool (!x0.2.2.1)))] [some ⟨5,60,[AA.enc x0],false⟩] kr ?_;rcases BE (!x0.2.2.1) with hc7 | hc7
     ·rw [if_pos hc7] at hj4
      rw [hc7];refine AD (n:=87) AC 5 [(2,.v (.bool (x0.2.1==[])))] [some ⟨5,60,[AA.enc x0],false⟩] kr ?_;have hq:=OI hj4; subst hq;exact AI rfl (Ad [] trivial ⟨lv,trivial⟩)
     ·rw [BZ hc7] at hj4
      rw [hc7];refine AD (n:=87) AC 5 [(2,.v (.bool false))] [some ⟨5,60,[AA.enc x0],false⟩] kr ?_;have hq:=OI hj4; subst hq;exact AI rfl (Ad [] trivial ⟨lv,trivial⟩)
    ·rw [BZ hc6] at hj4
     rw [hc6];refine AD (n:=87) AC 10 [(2,.v (.bool false))] [some ⟨5,60,[AA.enc x0],false⟩] kr ?_;have hq:=OI hj4; subst hq;exact AI rfl (Ad [] trivial ⟨lv,trivial⟩)
   ·rw [BZ hc5] at hj4
    rw [hc5];refine AD (n:=87) AC 15 [(2,.v (.bool false))] [some ⟨5,60,[AA.enc x0],false⟩] kr ?_;have hq:=OI hj4; subst hq;exact AI rfl (Ad [] trivial ⟨lv,trivial⟩)
  refine AQ ?_;have hq:=OI h; subst hq;exact ⟨⟨Fr 87 [(2,.v (.bool j4))],[]⟩,AL,.inr rfl,[.v (.bool j4)],kr,kr⟩
 ·rw [BZ hb1] at h
  refine AF ?_;refine AJ AC [(1,.pt 0 0 0),(3,.v (.int .i64 (x0.2.2.2.1.length:Int))),(8,.v (.int .u8 x0.1)),(28,.v (.bool (x0.1==2)))] [some ⟨5,60,[AA.enc x0],false⟩] ?_;obtain ⟨r16,hr16,h⟩:=OB h;refine F7 (Pi x0 _ hr16) ?_;refine AP (b:=r16) kr (fun hb17=>?_) (fun hb17=>?_)
  ·rw [if_pos hb17] at h
   refine AF ?_;obtain ⟨j19,hj19,h⟩:=OB h;refine AK (s1:=⟨Fr 87 [(2,.v (.bool j19))],[]⟩) ?_ ?_
   ·refine AD (n:=87) AC 3 [(1,.pt 0 0 0),(35,.v (.bool ((x0.2.2.2.1.length:Int)==0)))] [some ⟨5,60,[AA.enc x0],false⟩] kr ?_
    rcases BE ((x0.2.2.2.1.length:Int)==0) with hc20 | hc20
    ·rw [if_pos hc20] at hj19
     rw [hc20];refine AD (n:=87) AC 5 [(1,.pt 0 0 0),(40,.v (.bool (x0.2.2.2.2==0)))] [some ⟨5,60,[AA.enc x0],false⟩] kr ?_;rcases BE (x0.2.2.2.2==0) with hc21 | hc21
     ·rw [if_pos hc21] at hj19
      rw [hc21];refine AD (n:=87) AC 5 [(2,.v (.bool (!x0.2.2.1)))] [some ⟨5,60,[AA.enc x0],false⟩] kr ?_;have hq:=OI hj19; subst hq;exact AI rfl (Ad [] trivial ⟨lv,trivial⟩)
     ·rw [BZ hc21] at hj19
      rw [hc21];refine AD (n:=87) AC 5 [(2,.v (.bool false))] [some ⟨5,60,[AA.enc x0],false⟩] kr ?_;have hq:=OI hj19; subst hq;exact AI rfl (Ad [] trivial ⟨lv,trivial⟩)
    ·rw [BZ hc20] at hj19
     rw [hc20];refine AD (n:=87) AC 10 [(2,.v (.bool false))] [some ⟨5,60,[AA.enc x0],false⟩] kr ?_;have hq:=OI hj19; subst hq;exact AI rfl (Ad [] trivial ⟨lv,trivial⟩)
   refine AQ ?_;have hq:=OI h; subst hq;exact ⟨⟨Fr 87 [(2,.v (.bool j19))],[]⟩,AL,.inr rfl,[.v (.bool j19)],kr,kr⟩
  ·rw [BZ hb17] at h
   refine AJ AC [(1,.pt 0 0 0),(3,.v (.int .i64 (x0.2.2.2.1.length:Int))),(8,.v (.int .u8 x0.1)),(45,.v (.bool (x0.1==4)))] [some ⟨5,60,[AA.enc x0],false⟩] ?_;refine AP (b:=(x0.1==4)) kr (fun hb22=>?_) (fun hb22=>?_)
   ·rw [if_pos hb22] at h
    refine AF ?_;obtain ⟨j25,hj25,h⟩:=OB h;refine AK (s1:=⟨Fr 87 [(2,.v (.bool j25))],[]⟩) ?_ ?_
    ·refine AD (n:=87) AC 3 [(1,.pt 0 0 0),(49,.v (.bool ((x0.2.2.2.1.length:Int)==0)))] [some ⟨5,60,[AA.enc x0],false⟩] kr ?_
     rcases BE ((x0.2.2.2.1.length:Int)==0) with hc26 | hc26
     ·rw [if_pos hc26] at hj25
      rw [hc26];refine AD (n:=87) AC 2 [(49,.v (.bool true)),(51,.v (.int .i64 x0.2.2.2.2))] [some ⟨5,60,[AA.enc x0],false⟩] kr ?_;obtain ⟨v23,hv23,hj25⟩:=OB hj25;refine AT (caps:=[]) (xs:=[.v (.int .i64 x0.2.2.2.2),.v (.int .i64 1),.v (.int .i64 2)]) (u:=(x0.2.2.2.2,1,2,())) rfl rfl Eu rfl kr kr kr (AM (AX (c:=cdI) (v:=x0.2.2.2.2)) (AM (AX (c:=cdI) (v:=1)) (AM (AX (c:=cdI) (v:=2)) Aj))) (.inl kr) hv23 ?_;refine AD (n:=87) AC 2 [(2,.v (.bool v23))] [some ⟨5,60,[AA.enc x0],false⟩] kr ?_;have hq:=OI hj25; subst hq;exact AI rfl (Ad [] trivial ⟨lv,trivial⟩)
     ·rw [BZ hc26] at hj25
      rw [hc26];refine AD (n:=87) AC 5 [(2,.v (.bool false))] [some ⟨5,60,[AA.enc x0],false⟩] kr ?_;have hq:=OI hj25; subst hq;exact AI rfl (Ad [] trivial ⟨lv,trivial⟩)
    refine AQ ?_;have hq:=OI h; subst hq;exact ⟨⟨Fr 87 [(2,.v (.bool j25))],[]⟩,AL,.inr rfl,[.v (.bool j25)],kr,kr⟩
   ·rw [BZ hb22] at h
    refine AJ AC [(1,.pt 0 0 0),(3,.v (.int .i64 (x0.2.2.2.1.length:Int))),(8,.v (.int .u8 x0.1)),(54,.v (.bool (x0.1==5)))] [some ⟨5,60,[AA.enc x0],false⟩] ?_;refine AP (b:=(x0.1==5)) kr (fun hb27=>?_) (fun hb27=>?_)
    ·rw [if_pos hb27] at h
     refine AF ?_;obtain ⟨j29,hj29,h⟩:=OB h;refine AK (s1:=⟨Fr 87 [(2,.v (.bool j29))],[]⟩) ?_ ?_
     ·refine AD (n:=87) AC 3 [(1,.pt 0 0 0),(58,.v (.bool ((x0.2.2.2.1.length:Int)==0)))] [some ⟨5,60,[AA.enc x0],false⟩] kr ?_
      rcases BE ((x0.2.2.2.1.length:Int)==0) with hc30 | hc30
      ·rw [if_pos hc30] at hj29
       rw [hc30];refine AD (n:=87) AC 5 [(2,.v (.bool (x0.2.2.2.2==0)))] [some ⟨5,60,[AA.enc x0],false⟩] kr ?_;have hq:=OI hj29; subst hq;exact AI rfl (Ad [] trivial ⟨lv,trivial⟩)
      ·rw [BZ hc30] at hj29
       rw [hc30];refine AD (n:=87) AC 5 [(2,.v (.bool false))] [some ⟨5,60,[AA.enc x0],false⟩] kr ?_;have hq:=OI hj29; subst hq;exact AI rfl (Ad [] trivial ⟨lv,trivial⟩)
     refine AQ ?_;have hq:=OI h; subst hq;exact ⟨⟨Fr 87 [(2,.v (.bool j29))],[]⟩,AL,.inr rfl,[.v (.bool j29)],kr,kr⟩
    ·rw [BZ hb27] at h
     refine AF ?_;refine AJ AC [(1,.pt 0 0 0),(3,.v (.int .i64 (x0.2.2.2.1.length:Int))),(8,.v (.int .u8 x0.1)),(63,.v (.bool (x0.1==6)))] [some ⟨5,60,[AA.enc x0],false⟩] ?_;obtain ⟨r33,hr33,h⟩:=OB h;refine F7 (Pm x0 _ hr33) ?_;refine AP (b:=r33) kr (fun hb34=>?_) (fun hb34=>?_)
     ·rw [if_pos hb34] at h
      refine AF ?_;obtain ⟨v35,hv35,h⟩:=OB h;obtain ⟨j37,hj37,h⟩:=OB h;refine AK (s1:=⟨Fr 87 [(2,.v (.bool j37))],[]⟩) ?_ ?_
      ·refine AD (n:=87) AC 1 [(1,.pt 0 0 0),(66,.v (.int .i64 (x0.2.2.2.1.length:Int)))] [some ⟨5,60,[AA.enc x0],false⟩] kr ?_
       refine AT (caps:=[]) (xs:=[.v (.int .i64 (x0.2.2.2.1.length:Int)),.v (.int .i64 1),.v (.int .i64 16)]) (u:=((x0.2.2.2.1.length:Int),1,16,())) rfl rfl Eu rfl (AB rfl) kr kr (AM (AX (c:=cdI) (v:=(x0.2.2.2.1.length:Int))) (AM (AX (c:=cdI) (v:=1)) (AM (AX (c:=cdI) (v:=16)) Aj))) (.inl kr) hv35 ?_;refine AD (n:=87) AC 1 [(1,.pt 0 0 0),(68,.v (.bool v35))] [some ⟨5,60,[AA.enc x0],false⟩] kr ?_;rcases BE v35 with hc38 | hc38
       ·rw [if_pos hc38] at hj37
        rw [hc38];refine AD (n:=87) AC 5 [(2,.v (.bool (x0.2.2.2.2==0)))] [some ⟨5,60,[AA.enc x0],false⟩] kr ?_;have hq:=OI hj37; subst hq;exact AI rfl (Ad [] trivial ⟨lv,trivial⟩)
       ·rw [BZ hc38] at hj37
        rw [hc38];refine AD (n:=87) AC 5 [(2,.v (.bool false))] [some ⟨5,60,[AA.enc x0],false⟩] kr ?_;have hq:=OI hj37; subst hq;exact AI rfl (Ad [] trivial ⟨lv,trivial⟩)
      refine AQ ?_;have hq:=OI h; subst hq;exact ⟨⟨Fr 87 [(2,.v (.bool j37))],[]⟩,AL,.inr rfl,[.v (.bool j37)],kr,kr⟩
     ·rw [BZ hb34] at h
      refine AJ AC [(1,.pt 0 0 0),(3,.v (.int .i64 (x0.2.2.2.1.length:Int))),(73,.v (.bool (x0.1==10)))] [some ⟨5,60,[AA.enc x0],false⟩] ?_;refine AP (b:=(x0.1==10)) kr (fun hb39=>?_) (fun hb39=>?_)
      ·rw [if_pos hb39] at h
       refine AF ?_;obtain ⟨j42,hj42,h⟩:=OB h;refine AK (s1:=⟨Fr 87 [(2,.v (.bool j42))],[]⟩) ?_ ?_
       ·refine AD (n:=87) AC 3 [(1,.pt 0 0 0),(77,.v (.bool ((x0.2.2.2.1.length:Int)==0)))] [some ⟨5,60,[AA.enc x0],false⟩] kr ?_
        rcases BE ((x0.2.2.2.1.length:Int)==0) with hc43 | hc43
        ·rw [if_pos hc43] at hj42
         rw [hc43];refine AD (n:=87) AC 2 [(1,.pt 0 0 0),(77,.v (.bool true)),(79,.v (.int .i64 x0.2.2.2.2))] [some ⟨5,60,[AA.enc x0],false⟩] kr ?_;obtain ⟨v40,hv40,hj42⟩:=OB hj42;refine AT (caps:=[]) (xs:=[.v (.int .i64 x0.2.2.2.2),.v (.int .i64 0),.v (.int .i64 63)]) (u:=(x0.2.2.2.2,0,63,())) rfl rfl Eu rfl kr kr kr (AM (AX (c:=cdI) (v:=x0.2.2.2.2)) (AM (AX (c:=cdI) (v:=0)) (AM (AX (c:=cdI) (v:=63)) Aj))) (.inl kr) hv40 ?_;refine AD (n:=87) AC 2 [(1,.pt 0 0 0),(82,.v (.bool v40))] [some ⟨5,60,[AA.enc x0],false⟩] kr ?_;rcases BE v40 with hc44 | hc44
         ·rw [if_pos hc44] at hj42
          rw [hc44];refine AD (n:=87) AC 5 [(2,.v (.bool (!x0.2.2.1)))] [some ⟨5,60,[AA.enc x0],false⟩] kr ?_;have hq:=OI hj42; subst hq;exact AI rfl (Ad [] trivial ⟨lv,trivial⟩)
         ·rw [BZ hc44] at hj42
          rw [hc44];refine AD (n:=87) AC 5 [(2,.v (.bool false))] [some ⟨5,60,[AA.enc x0],false⟩] kr ?_;have hq:=OI hj42; subst hq;exact AI rfl (Ad [] trivial ⟨lv,trivial⟩)
        ·rw [BZ hc43] at hj42
         rw [hc43];refine AD (n:=87) AC 10 [(2,.v (.bool false))] [some ⟨5,60,[AA.enc x0],false⟩] kr ?_;have hq:=OI hj42; subst hq;exact AI rfl (Ad [] trivial ⟨lv,trivial⟩)
       refine AQ ?_;have hq:=OI h; subst hq;exact ⟨⟨Fr 87 [(2,.v (.bool j42))],[]⟩,AL,.inr rfl,[.v (.bool j42)],kr,kr⟩
      ·rw [BZ hb39] at h
       refine AS ?_;refine AF ?_;refine AK (s1:=⟨Fr 87 [(2,.v (.bool false))],[]⟩) ?_ ?_
       ·refine AD (n:=87) AC 1 [(2,.v (.bool false))] [some ⟨5,60,[AA.enc x0],false⟩] kr ?_
        exact AI rfl (Ad [] trivial ⟨lv,trivial⟩)
       refine AQ ?_;have hq:=OI h; subst hq;exact ⟨⟨Fr 87 [(2,.v (.bool false))],[]⟩,AL,.inr rfl,[.v (.bool false)],kr,kr⟩
def TY:List AV->Option AV:=Dx LA (fun a=>BI a.1) LI
theorem Tf:XOk 168 TY:=by
 refine AU Tryz.func168 (c:=Gl) ?h2 ⟨Tryz.call168⟩ LA (fun a=>BI a.1) LI (fun a=>(by show 1<=87; decide)) ?h3 ?h4
 case h2=>kernel_rfl
 case h3=>intro b; kernel_rfl
 case h4=>exact fun a b h=>RG a.1 b h
/- trestle/trestlekit.Name -/
noncomputable def Ox:Code:=BG Tryz.f141
def HU (x0:(List UInt8)):Nat->Int->Option ((Unit) ⊕ (Bool))
 | 0,_=>none
 | f + 1,c4 =>
  if (decide (c4 < (x0.length:Int)))=true then
  (idx x0 c4).bind fun v6 =>
  (if (decide ((v6.toNat:Int) < 97))=true then some true else (idx x0 c4).bind fun v7 =>
  some (decide ((v7.toNat:Int) > 122))).bind fun j9 =>
  if j9=true then
  some (.inr false)
  else
  HU x0 f (wr .i64 (c4 + 1))
  else
  some (.inl ())
def Lm (x0:(List UInt8)):Option (Bool) :=
 (if (decide ((x0.length:Int) < 1))=true then some true else some (decide ((x0.length:Int) > 12))).bind fun j2 =>
 if j2=true then
 some false
 else
 (HU x0 100000 0).bind fun r13 =>
 match r13 with
 | (.inl _w14) =>
  some true
 | (.inr w15) =>
  some w15
def O2:Cs ((List UInt8)×Unit):=(csC cdS csN)
def O3 (r:Bool):AV:=cdB.enc r
theorem Ot (x0:(List UInt8)):∀ (f:Nat) (c4:Int) (r:(Unit) ⊕ (Bool)),HU x0 f c4=some r->SemN E0 ⟨none,false⟩ (pc Ox [1,1,0,1,0,0]) f ⟨Fr 28 [(0,.st x0),(3,.v (.int .i64 c4))],[]⟩ (fun e s=>match r with
 | (.inl _w)=>e=(.exit 0)/\Wk E0 s ⟨Fr 28 [],[]⟩
 | (.inr w)=>e = .ret/\Wk E0 s ⟨Fr 28 [(2,.v (.bool w))],[]⟩):=by
 intro f;induction f with
 | zero=>intro c4 r h; cases h
 | succ f ih0 =>
  intro c4 r h
  have ih:=fun (c4:Int)=>ih0 c4 r
  unfold HU at h;refine BR ?_;refine AF ?_;refine AJ AC [(0,.st x0),(3,.v (.int .i64 c4)),(15,.v (.bool (decide (c4 < (x0.length:Int)))))] [] ?_;refine AP (b:=(decide (c4 < (x0.length:Int)))) kr (fun hb5=>?_) (fun hb5=>?_)
  ·rw [if_pos hb5] at h
   refine AS ?_;refine AF ?_;refine AZ ?_;refine AF ?_;obtain ⟨v6,hv6,h⟩:=OB h;obtain ⟨j9,hj9,h⟩:=OB h;refine AK (s1:=⟨Fr 28 [(0,.st x0),(3,.v (.int .i64 c4)),(27,.v (.bool j9))],[]⟩) ?_ ?_
   ·refine AD (n:=28) AC 2 [(0,.st x0),(3,.v (.int .i64 c4)),(18,.st x0),(19,.v (.int .i64 c4))] [] kr ?_
    refine AR AC 0 rfl (C7 (AB rfl) rfl (UR (a:= .st x0) (b:= .v (.int .i64 c4)) kr kr (Rb (bs:=x0) (ki:= .i64) kr hv6))) ?_;refine AD (n:=28) AC 2 [(0,.st x0),(3,.v (.int .i64 c4)),(22,.v (.bool (decide ((v6.toNat:Int) < 97))))] [] kr ?_;rcases BE (decide ((v6.toNat:Int) < 97)) with hc12 | hc12
    ·rw [if_pos hc12] at hj9
     rw [hc12];refine AD (n:=28) AC 5 [(0,.st x0),(3,.v (.int .i64 c4)),(23,.tp []),(24,.tp []),(25,.tp []),(26,.tp []),(27,.v (.bool true))] [] kr ?_;have hq:=OI hj9; subst hq;exact AI rfl AL
    ·rw [BZ hc12] at hj9
     rw [hc12];refine AD (n:=28) AC 2 [(0,.st x0),(3,.v (.int .i64 c4)),(22,.v (.bool false)),(23,.st x0),(24,.v (.int .i64 c4))] [] kr ?_;obtain ⟨v7,hv7,hj9⟩:=OB hj9;refine AR AC 0 rfl (C7 kr rfl (UR (a:= .st x0) (b:= .v (.int .i64 c4)) kr kr (Rb (bs:=x0) (ki:= .i64) kr hv7))) ?_;refine AD (n:=28) AC 2 [(0,.st x0),(3,.v (.int .i64 c4)),(23,.st x0),(24,.v (.int .i64 c4)),(25,.v (.int .u8 (v7.toNat:Int))),(26,.v (.bool (decide ((v7.toNat:Int) > 122)))),(27,.v (.bool (decide ((v7.toNat:Int) > 122))))] [] kr ?_;have hq:=OI hj9; subst hq;exact AI rfl AL
   refine AP (b:=j9) kr (fun hb10=>?_) (fun hb10=>?_)
   ·rw [if_pos hb10] at h
    refine AJ AC [(2,.v (.bool false))] [] ?_;refine AQ ?_;have hq:=OI h; subst hq;exact ⟨rfl,AL⟩
   ·rw [BZ hb10] at h
    refine AS ?_;refine Cn AC [(0,.st x0),(3,.v (.int .i64 (wr .i64 (c4 + 1))))] [] ?_;exact Ac (s1:=⟨Fr 28 [(0,.st x0),(3,.v (.int .i64 (wr .i64 (c4 + 1))))],[]⟩) AL (ih (wr .i64 (c4 + 1)) h)
  ·rw [BZ hb5] at h
   refine Bd ?_;have hq:=OI h; subst hq;exact ⟨rfl,AL⟩
theorem VJ (x0:(List UInt8)) (r:Bool) (h:Lm x0=some r):Sem E0 ⟨none,false⟩ Ox ⟨Fr 28 (A3 0 (O2.enc (x0,()))),[]⟩ fun e s'=>(e = .normal\/e = .ret)/\∃ xs,EG E0.P s'.fr s'.hp Tryz.f141.results.toList=some xs/\EN xs=O3 r:=by
 unfold Lm at h;refine An (BP (s1:=⟨Fr 28 [(0,.st x0)],[]⟩) AL ?_);refine AJ AC [(0,.st x0)] [] ?_;refine AF ?_;refine AF ?_;obtain ⟨j2,hj2,h⟩:=OB h;refine AK (s1:=⟨Fr 28 [(0,.st x0),(11,.v (.bool j2))],[]⟩) ?_ ?_
 ·refine AD (n:=28) AC 4 [(0,.st x0),(7,.v (.bool (decide ((x0.length:Int) < 1))))] [] kr ?_
  rcases BE (decide ((x0.length:Int) < 1)) with hc16 | hc16
  ·rw [if_pos hc16] at hj2
   rw [hc16];refine AD (n:=28) AC 4 [(0,.st x0),(11,.v (.bool true))] [] kr ?_;have hq:=OI hj2; subst hq;exact AI rfl AL
  ·rw [BZ hc16] at hj2
   rw [hc16];refine AD (n:=28) AC 4 [(0,.st x0),(11,.v (.bool (decide ((x0.length:Int) > 12))))] [] kr ?_;have hq:=OI hj2; subst hq;exact AI rfl AL
 refine AP (b:=j2) kr (fun hb3=>?_) (fun hb3=>?_)
 ·rw [if_pos hb3] at h
  refine AJ AC [(2,.v (.bool false))] [] ?_;refine AQ ?_;have hq:=OI h; subst hq;exact ⟨⟨Fr 28 [(2,.v (.bool false))],[]⟩,AL,.inr rfl,[.v (.bool false)],kr,kr⟩
 ·rw [BZ hb3] at h
  refine AS ?_;refine AF ?_;refine AJ AC [(0,.st x0),(3,.v (.int .i64 0))] [] ?_;refine AZ ?_;obtain ⟨r13,hr13,h⟩:=OB h;refine Bj (n:=100000) ?_;rcases r13 with w14 | w15
  ·try dsimp only at h
   refine Aq (Ac (s1:=⟨Fr 28 [(0,.st x0),(3,.v (.int .i64 0))],[]⟩) AL (Ot x0 _ 0 _ hr13)) ?_;refine AJ AC [(2,.v (.bool true))] [] ?_;refine AQ ?_;have hq:=OI h; subst hq;exact ⟨⟨Fr 28 [(2,.v (.bool true))],[]⟩,AL,.inr rfl,[.v (.bool true)],kr,kr⟩
  ·try dsimp only at h
   refine Aq (Ac (s1:=⟨Fr 28 [(0,.st x0),(3,.v (.int .i64 0))],[]⟩) AL (Ot x0 _ 0 _ hr13)) ?_;have hq:=OI h; subst hq;exact ⟨⟨Fr 28 [(2,.v (.bool w15))],[]⟩,AL,.inr rfl,[.v (.bool w15)],kr,kr⟩
def Xm:List AV->Option AV:=Dx O2 (fun a=>Lm a.1) O3
theorem T2:XOk 141 Xm:=by
 refine AU Tryz.func141 (c:=Ox) ?h2 ⟨Tryz.call141⟩ O2 (fun a=>Lm a.1) O3 (fun a=>(by show 1<=28; decide)) ?h3 ?h4
 case h2=>kernel_rfl
 case h3=>intro b; kernel_rfl
 case h4=>exact fun a b h=>VJ a.1 b h
/- trestle/trestleref03.has -/
noncomputable def Nn:Code:=BG Tryz.f142
def Jc (x0:(List (List UInt8))) (x1:(List UInt8)):Nat->Int->Option ((Unit) ⊕ (Bool))
 | 0,_=>none
 | f + 1,c1 =>
  if (decide (c1 < (x0.length:Int)))=true then
  (idx x0 c1).bind fun v3 =>
  if (v3==x1)=true then
  some (.inr true)
  else
  Jc x0 x1 f (wr .i64 (c1 + 1))
  else
  some (.inl ())
def Ht (x0:(List (List UInt8))) (x1:(List UInt8)):Option (Bool) :=
 (Jc x0 x1 100000 0).bind fun r6 =>
 match r6 with
 | (.inl _w7) =>
  some false
 | (.inr w8) =>
  some w8
def Nq:Cs ((List (List UInt8))×(List UInt8)×Unit):=(csC (cdL 1 cdS) (csC cdS csN))
def Ny (r:Bool):AV:=cdB.enc r
theorem N8 (x0:(List (List UInt8))) (x1:(List UInt8)):∀ (f:Nat) (c1:Int) (r:(Unit) ⊕ (Bool)),Jc x0 x1 f c1=some r->SemN E0 ⟨none,false⟩ (pc Nn [1,0,1,0,0]) f ⟨Fr 18 [(0,.sl 1 (x0.map cdS.enc)),(1,.st x1),(5,.v (.int .i64 c1))],[]⟩ (fun e s=>match r with
 | (.inl _w)=>e=(.exit 0)/\Wk E0 s ⟨Fr 18 [],[]⟩
 | (.inr w)=>e = .ret/\Wk E0 s ⟨Fr 18 [(4,.v (.bool w))],[]⟩):=by
 intro f;induction f with
 | zero=>intro c1 r h; cases h
 | succ f ih0 =>
  intro c1 r h
  have ih:=fun (c1:Int)=>ih0 c1 r
  unfold Jc at h;refine BR ?_;refine AF ?_;refine AF ?_
  let p1:Nat×AV:=(5,.v (.int .i64 c1))
  let p2:Nat×AV:=(0,.sl 1 (x0.map cdS.enc))
  refine AK (s1:=⟨Fr 18 [p2,(1,.st x1),p1,(9,.v (.bool (decide (c1 < (x0.length:Int)))))],[]⟩) ?_ ?_
  ·refine AD (n:=18) AC 2 [p2,(1,.st x1),p1,(6,.v (.int .i64 c1)),(7,.sl 1 (x0.map cdS.enc))] [] kr ?_
   refine AR AC 0 rfl (C7 (AB rfl) rfl (Ck (a:= .sl 1 (x0.map cdS.enc)) kr (Ba (el:=9) kr))) ?_;exact AW AC
  refine AP (b:=(decide (c1 < (x0.length:Int)))) kr (fun hb2=>?_) (fun hb2=>?_)
  ·rw [if_pos hb2] at h
   refine AS ?_;refine AF ?_;refine AZ ?_;refine AF ?_;obtain ⟨v3,hv3,h⟩:=OB h;refine AK (s1:=⟨Fr 18 [p2,(1,.st x1),p1,(17,.v (.bool (v3==x1)))],[]⟩) ?_ ?_
   ·refine AD (n:=18) AC 2 [p2,(1,.st x1),p1,(12,.sl 1 (x0.map cdS.enc)),(13,.v (.int .i64 c1))] [] kr ?_
    refine AR AC 0 rfl (C7 (AB rfl) rfl (AO (a:= .sl 1 (x0.map cdS.enc)) (b:= .v (.int .i64 c1)) kr kr (Dn (e:=cdS.enc) (el:=9) (k:=1) (ki:= .i64) kr kr hv3))) ?_;exact AW AC
   refine AP (b:=(v3==x1)) kr (fun hb4=>?_) (fun hb4=>?_)
   ·rw [if_pos hb4] at h
    refine AJ AC [(4,.v (.bool true))] [] ?_;refine AQ ?_;have hq:=OI h; subst hq;exact ⟨rfl,AL⟩
   ·rw [BZ hb4] at h
    refine AS ?_
    let p3:Nat×AV:=(5,.v (.int .i64 (wr .i64 (c1 + 1))))
    refine Cn AC [p2,(1,.st x1),p3] [] ?_;exact Ac (s1:=⟨Fr 18 [p2,(1,.st x1),p3],[]⟩) AL (ih (wr .i64 (c1 + 1)) h)
  ·rw [BZ hb2] at h
   refine Bd ?_;have hq:=OI h; subst hq;exact ⟨rfl,AL⟩
theorem UT (x0:(List (List UInt8))) (x1:(List UInt8)) (r:Bool) (h:Ht x0 x1=some r):Sem E0 ⟨none,false⟩ Nn ⟨Fr 18 (A3 0 (Nq.enc (x0,x1,()))),[]⟩ fun e s'=>(e = .normal\/e = .ret)/\∃ xs,EG E0.P s'.fr s'.hp Tryz.f142.results.toList=some xs/\EN xs=Ny r:=by
 unfold Ht at h
 let p1:Nat×AV:=(0,.sl 1 (x0.map cdS.enc))
 refine An (BP (s1:=⟨Fr 18 [p1,(1,.st x1)],[]⟩) AL ?_);refine AJ AC [p1,(1,.st x1)] [] ?_;refine AF ?_
 let p2:Nat×AV:=(5,.v (.int .i64 0))
 refine AJ AC [p1,(1,.st x1),p2] [] ?_;refine AZ ?_;obtain ⟨r6,hr6,h⟩:=OB h;refine Bj (n:=100000) ?_;rcases r6 with w7 | w8
 ·try dsimp only at h
  refine Aq (Ac (s1:=⟨Fr 18 [p1,(1,.st x1),p2],[]⟩) AL (N8 x0 x1 _ 0 _ hr6)) ?_;refine AJ AC [(4,.v (.bool false))] [] ?_;refine AQ ?_;have hq:=OI h; subst hq;exact ⟨⟨Fr 18 [(4,.v (.bool false))],[]⟩,AL,.inr rfl,[.v (.bool false)],kr,kr⟩
 ·try dsimp only at h
  refine Aq (Ac (s1:=⟨Fr 18 [p1,(1,.st x1),p2],[]⟩) AL (N8 x0 x1 _ 0 _ hr6)) ?_;have hq:=OI h; subst hq;exact ⟨⟨Fr 18 [(4,.v (.bool w8))],[]⟩,AL,.inr rfl,[.v (.bool w8)],kr,kr⟩
def WU:List AV->Option AV:=Dx Nq (fun a=>Ht a.1 a.2.1) Ny
theorem M2:XOk 142 WU:=by
 refine AU Tryz.func142 (c:=Nn) ?h2 ⟨Tryz.call142⟩ Nq (fun a=>Ht a.1 a.2.1) Ny (fun a=>(by show 2<=18; decide)) ?h3 ?h4
 case h2=>kernel_rfl
 case h3=>intro b; kernel_rfl
 case h4=>exact fun a b h=>UT a.1 a.2.1 b h
/- trestle/trestleref03.CheckOne -/
noncomputable def Gk:Code:=BG Tryz.f149
def D1 (x0:(List AG)) (x1:Int):Nat->Int->Option ((Unit) ⊕ (Int))
 | 0,_=>none
 | f + 1,c10 =>
  (idx x0 x1).bind fun v11 =>
  if (decide (c10 < (v11.2.2.2.1.length:Int)))=true then
  (idx x0 x1).bind fun v13 =>
  (idx v13.2.2.2.1 c10).bind fun v14 =>
  (Lm v14).bind fun v15 =>
  if (!v15)=true then
  some (.inr 4)
  else
  D1 x0 x1 f (wr .i64 (c10 + 1))
  else
  some (.inl ())
def D2 (x0:(List AG)) (x1:Int):Nat->Int->Option ((Unit) ⊕ (Int))
 | 0,_=>none
 | f + 1,c20 =>
  (idx x0 x1).bind fun v21 =>
  if (decide (c20 < (v21.2.2.2.1.length:Int)))=true then
  (idx x0 x1).bind fun v23 =>
  if (Ns 0 c20 v23.2.2.2.1.length)=true then
  (idx x0 x1).bind fun v25 =>
  (idx v25.2.2.2.1 c20).bind fun v26 =>
  (Ht ((v23.2.2.2.1.take c20.toNat).drop (0:Int).toNat) v26).bind fun v27 =>
  if v27=true then
  some (.inr 5)
  else
  D2 x0 x1 f (wr .i64 (c20 + 1))
  else none
  else
  some (.inl ())
def D3 (x0:(List AG)) (x1:Int):Nat->Int->Option ((Unit) ⊕ (Int))
 | 0,_=>none
 | f + 1,c34 =>
  if (decide (c34 < x1))=true then
  (idx x0 c34).bind fun v36 =>
  (if (v36.1==1)=true then (idx x0 c34).bind fun v37 =>
  (idx x0 x1).bind fun v38 =>
  (Ht v37.2.2.2.1 v38.2.1).bind fun v39 =>
  some v39 else some false).bind fun j41 =>
  if j41=true then
  some (.inr 0)
  else
  D3 x0 x1 f (wr .i64 (c34 + 1))
  else
  some (.inl ())
def GQ (x0:(List AG)) (x1:Int):Option (Int) :=
 (idx x0 x1).bind fun v1 =>
 (BI v1).bind fun v2 =>
 if (!v2)=true then
 some 30
 else
 (idx x0 x1).bind fun v4 =>
 (if (!(v4.2.1==[]))=true then (idx x0 x1).bind fun v5 =>
 (Lm v5.2.1).bind fun v6 =>
 some (!v6) else some false).bind fun j8 =>
 if j8=true then
 some 4
 else
 (D1 x0 x1 100000 0).bind fun r18 =>
 match r18 with
 | (.inl _w19) =>
  (D2 x0 x1 100000 0).bind fun r30 =>
  match r30 with
  | (.inl _w31) =>
   (idx x0 x1).bind fun v32 =>
   if (v32.2.1==[])=true then
   some 0
   else
   (D3 x0 x1 100000 0).bind fun r45 =>
   match r45 with
   | (.inl _w46) =>
    some 31
   | (.inr w47) =>
    some w47
  | (.inr w48) =>
   some w48
 | (.inr w49) =>
  some w49
def JD:Cs ((List AG)×Int×Unit):=(csC (cdL 5 AA) (csC cdI csN))
def JI (r:Int):AV:=cdI.enc r
theorem Kg (x0:(List AG)) (x1:Int):∀ (f:Nat) (c10:Int) (r:(Unit) ⊕ (Int)),D1 x0 x1 f c10=some r->SemN E0 ⟨none,false⟩ (pc Gk [1,1,1,0,1,0,0]) f ⟨Fr 105 [(0,.sl 5 (x0.map AA.enc)),(1,.v (.int .i64 x1)),(5,.v (.int .i64 c10))],[]⟩ (fun e s=>match r with
 | (.inl _w)=>e=(.exit 0)/\Wk E0 s ⟨Fr 105 [(0,.sl 5 (x0.map AA.enc)),(1,.v (.int .i64 x1))],[]⟩
 | (.inr w)=>e = .ret/\Wk E0 s ⟨Fr 105 [(4,.v (.int .i64 w))],[]⟩):=by
 intro f;induction f with
 | zero=>intro c10 r h; cases h
 | succ f ih0 =>
  intro c10 r h
  have ih:=fun (c10:Int)=>ih0 c10 r
  unfold D1 at h;refine BR ?_;refine AF ?_;refine AF ?_;obtain ⟨v11,hv11,h⟩:=OB h
  let p1:Nat×AV:=(5,.v (.int .i64 c10))
  let p2:Nat×AV:=(1,.v (.int .i64 x1))
  let p3:Nat×AV:=(0,.sl 5 (x0.map AA.enc))
  refine AK (s1:=⟨Fr 105 [p3,p2,p1,(36,.v (.bool (decide (c10 < (v11.2.2.2.1.length:Int)))))],[]⟩) ?_ ?_
  ·refine AD (n:=105) AC 3 [p3,p2,p1,(29,.v (.int .i64 c10)),(30,.sl 5 (x0.map AA.enc)),(31,.v (.int .i64 x1))] [] kr ?_
   refine AR AC 0 rfl (C7 (AB rfl) rfl (AO (a:= .sl 5 (x0.map AA.enc)) (b:= .v (.int .i64 x1)) kr kr (Dn (e:=AA.enc) (el:=60) (k:=5) (ki:= .i64) kr kr hv11))) ?_;refine AD (n:=105) AC 2 [p3,p2,p1,(29,.v (.int .i64 c10)),(34,.sl 1 (v11.2.2.2.1.map cdS.enc))] [] kr ?_;refine AR AC 0 rfl (C7 (AB rfl) rfl (Ck (a:= .sl 1 (v11.2.2.2.1.map cdS.enc)) kr (Ba (el:=9) kr))) ?_;exact AW AC
  refine AP (b:=(decide (c10 < (v11.2.2.2.1.length:Int)))) kr (fun hb12=>?_) (fun hb12=>?_)
  ·rw [if_pos hb12] at h
   refine AS ?_;refine AF ?_;refine AZ ?_;refine AF ?_;obtain ⟨v13,hv13,h⟩:=OB h;obtain ⟨v14,hv14,h⟩:=OB h;obtain ⟨v15,hv15,h⟩:=OB h;refine AK (s1:=⟨Fr 105 [p3,p2,p1,(48,.v (.bool (!v15)))],[]⟩) ?_ ?_
   ·refine AD (n:=105) AC 2 [p3,p2,p1,(39,.sl 5 (x0.map AA.enc)),(40,.v (.int .i64 x1))] [] kr ?_
    refine AR AC 0 rfl (C7 (AB rfl) rfl (AO (a:= .sl 5 (x0.map AA.enc)) (b:= .v (.int .i64 x1)) kr kr (Dn (e:=AA.enc) (el:=60) (k:=5) (ki:= .i64) kr kr hv13))) ?_;refine AD (n:=105) AC 3 [p3,p2,p1,(43,.sl 1 (v13.2.2.2.1.map cdS.enc)),(44,.v (.int .i64 c10))] [] kr ?_;refine AR AC 0 rfl (C7 (AB rfl) rfl (AO (a:= .sl 1 (v13.2.2.2.1.map cdS.enc)) (b:= .v (.int .i64 c10)) kr kr (Dn (e:=cdS.enc) (el:=9) (k:=1) (ki:= .i64) kr kr hv14))) ?_;refine AD (n:=105) AC 1 [p3,p2,p1,(46,.st v14)] [] kr ?_;refine AT (caps:=[]) (xs:=[.st v14]) (u:=(v14,())) rfl rfl T2 rfl (AB rfl) kr kr (AM (AX (c:=cdS) (v:=v14)) Aj) (.inl kr) hv15 ?_;exact AW AC
   refine AP (b:=(!v15)) kr (fun hb16=>?_) (fun hb16=>?_)
   ·rw [if_pos hb16] at h
    refine AJ AC [(4,.v (.int .i64 4))] [] ?_;refine AQ ?_;have hq:=OI h; subst hq;exact ⟨rfl,AL⟩
   ·rw [BZ hb16] at h
    refine AS ?_
    let p4:Nat×AV:=(5,.v (.int .i64 (wr .i64 (c10 + 1))))
    refine Cn AC [p3,p2,p4] [] ?_;exact Ac (s1:=⟨Fr 105 [p3,p2,p4],[]⟩) AL (ih (wr .i64 (c10 + 1)) h)
  ·rw [BZ hb12] at h
   refine Bd ?_;have hq:=OI h; subst hq;exact ⟨rfl,AL⟩
theorem Kh (x0:(List AG)) (x1:Int):∀ (f:Nat) (c20:Int) (r:(Unit) ⊕ (Int)),D2 x0 x1 f c20=some r->SemN E0 ⟨none,false⟩ (pc Gk [1,1,1,1,0,1,0,0]) f ⟨Fr 105 [(0,.sl 5 (x0.map AA.enc)),(1,.v (.int .i64 x1)),(6,.v (.int .i64 c20))],[]⟩ (fun e s=>match r with
 | (.inl _w)=>e=(.exit 2)/\Wk E0 s ⟨Fr 105 [(0,.sl 5 (x0.map AA.enc)),(1,.v (.int .i64 x1))],[]⟩
 | (.inr w)=>e = .ret/\Wk E0 s ⟨Fr 105 [(4,.v (.int .i64 w))],[]⟩):=by
 intro f;induction f with
 | zero=>intro c20 r h; cases h
 | succ f ih0 =>
  intro c20 r h
  have ih:=fun (c20:Int)=>ih0 c20 r
  unfold D2 at h;refine BR ?_;refine AF ?_;refine AF ?_;obtain ⟨v21,hv21,h⟩:=OB h
  let p1:Nat×AV:=(6,.v (.int .i64 c20))
  let p2:Nat×AV:=(1,.v (.int .i64 x1))
  let p3:Nat×AV:=(0,.sl 5 (x0.map AA.enc))
  refine AK (s1:=⟨Fr 105 [p3,p2,p1,(56,.v (.bool (decide (c20 < (v21.2.2.2.1.length:Int)))))],[]⟩) ?_ ?_
  ·refine AD (n:=105) AC 3 [p3,p2,p1,(49,.v (.int .i64 c20)),(50,.sl 5 (x0.map AA.enc)),(51,.v (.int .i64 x1))] [] kr ?_
   refine AR AC 0 rfl (C7 (AB rfl) rfl (AO (a:= .sl 5 (x0.map AA.enc)) (b:= .v (.int .i64 x1)) kr kr (Dn (e:=AA.enc) (el:=60) (k:=5) (ki:= .i64) kr kr hv21))) ?_;refine AD (n:=105) AC 2 [p3,p2,p1,(49,.v (.int .i64 c20)),(54,.sl 1 (v21.2.2.2.1.map cdS.enc))] [] kr ?_;refine AR AC 0 rfl (C7 (AB rfl) rfl (Ck (a:= .sl 1 (v21.2.2.2.1.map cdS.enc)) kr (Ba (el:=9) kr))) ?_;exact AW AC
  refine AP (b:=(decide (c20 < (v21.2.2.2.1.length:Int)))) kr (fun hb22=>?_) (fun hb22=>?_)
  ·rw [if_pos hb22] at h
   refine AS ?_;refine AF ?_;refine AZ ?_;refine AF ?_;obtain ⟨v23,hv23,h⟩:=OB h;by_cases hk24:(Ns 0 c20 v23.2.2.2.1.length)=true
   case neg=>rw [if_neg hk24] at h; cases h
   rw [if_pos hk24] at h;obtain ⟨v25,hv25,h⟩:=OB h;obtain ⟨v26,hv26,h⟩:=OB h;obtain ⟨v27,hv27,h⟩:=OB h;refine DL AC (s1:=⟨Fr 105 [p3,p2,p1,(74,.v (.bool v27))],[]⟩) kr ?_ ?_
   ·refine AY (n:=105) AC 2 [p3,p2,p1,(59,.sl 5 (x0.map AA.enc)),(60,.v (.int .i64 x1))] [] kr kr ?_
    refine RunDS.one AC rfl kr (HK kr (AB rfl) rfl (AO (a:= .sl 5 (x0.map AA.enc)) (b:= .v (.int .i64 x1)) kr kr (Dn (e:=AA.enc) (el:=60) (k:=5) (ki:= .i64) kr kr hv23)) kr) ?_;refine AY (n:=105) AC 3 [p3,p2,p1,(63,.sl 1 (v23.2.2.2.1.map cdS.enc)),(64,.v (.int .i64 c20))] [] kr kr ?_;refine RunDS.one AC rfl kr (HK kr (AB rfl) rfl (SL (a:= .sl 1 (v23.2.2.2.1.map cdS.enc)) (l:=none) (u:=(some (.v (.int .i64 c20)))) (m:=none) kr kr kr rfl (UZ (xs:=v23.2.2.2.1) (e:=cdS.enc) (k:=1) (el:=9) (lo:=0) (hi:=c20) kr kr rfl (W2 (YJ hk24)) hk24)) kr) ?_
    let p4:Nat×AV:=(65,.sl 1 (((v23.2.2.2.1.take c20.toNat).drop (0:Int).toNat).map cdS.enc))
    refine AY (n:=105) AC 2 [p3,p2,p1,p4,(66,.sl 5 (x0.map AA.enc)),(67,.v (.int .i64 x1))] [] kr kr ?_;refine RunDS.one AC rfl kr (HK kr (AB rfl) rfl (AO (a:= .sl 5 (x0.map AA.enc)) (b:= .v (.int .i64 x1)) kr kr (Dn (e:=AA.enc) (el:=60) (k:=5) (ki:= .i64) kr kr hv25)) kr) ?_;refine AY (n:=105) AC 3 [p3,p2,p1,p4,(70,.sl 1 (v25.2.2.2.1.map cdS.enc)),(71,.v (.int .i64 c20))] [] kr kr ?_;refine RunDS.one AC rfl kr (HK kr (AB rfl) rfl (AO (a:= .sl 1 (v25.2.2.2.1.map cdS.enc)) (b:= .v (.int .i64 c20)) kr kr (Dn (e:=cdS.enc) (el:=9) (k:=1) (ki:= .i64) kr kr hv26)) kr) ?_;refine AY (n:=105) AC 1 [p3,p2,p1,p4,(73,.st v26)] [] kr kr ?_;refine Bb (caps:=[]) (xs:=[.sl 1 (((v23.2.2.2.1.take c20.toNat).drop (0:Int).toNat).map cdS.enc),.st v26]) (u:=(((v23.2.2.2.1.take c20.toNat).drop (0:Int).toNat),v26,())) rfl rfl M2 rfl (AB rfl) kr kr (AM (AX (c:=(cdL 1 cdS)) (v:=((v23.2.2.2.1.take c20.toNat).drop (0:Int).toNat))) (AM (AX (c:=cdS) (v:=v26)) Aj)) kr hv27 ?_;exact RunDS.done rfl AL
   refine AP (b:=v27) kr (fun hb28=>?_) (fun hb28=>?_)
   ·rw [if_pos hb28] at h
    refine AJ AC [(4,.v (.int .i64 5))] [] ?_;refine AQ ?_;have hq:=OI h; subst hq;exact ⟨rfl,AL⟩
   ·rw [BZ hb28] at h
    refine AS ?_
    let p5:Nat×AV:=(6,.v (.int .i64 (wr .i64 (c20 + 1))))
    refine Cn AC [p3,p2,p5] [] ?_;exact Ac (s1:=⟨Fr 105 [p3,p2,p5],[]⟩) AL (ih (wr .i64 (c20 + 1)) h)
  ·rw [BZ hb22] at h
   refine Bd ?_;have hq:=OI h; subst hq;exact ⟨rfl,AL⟩
theorem Ki (x0:(List AG)) (x1:Int):∀ (f:Nat) (c34:Int) (r:(Unit) ⊕ (Int)),D3 x0 x1 f c34=some r->SemN E0 ⟨none,false⟩ (pc Gk [1,1,1,1,1,1,0,1,0,0]) f ⟨Fr 105 [(0,.sl 5 (x0.map AA.enc)),(1,.v (.int .i64 x1)),(7,.v (.int .i64 c34))],[]⟩ (fun e s=>match r with
 | (.inl _w)=>e=(.exit 4)/\Wk E0 s ⟨Fr 105 [],[]⟩
 | (.inr w)=>e = .ret/\Wk E0 s ⟨Fr 105 [(4,.v (.int .i64 w))],[]⟩):=by
 intro f;induction f with
 | zero=>intro c34 r h; cases h
 | succ f ih0 =>
  intro c34 r h
  have ih:=fun (c34:Int)=>ih0 c34 r
  unfold D3 at h;refine BR ?_;refine AF ?_;refine AJ AC [(0,.sl 5 (x0.map AA.enc)),(1,.v (.int .i64 x1)),(7,.v (.int .i64 c34)),(83,.v (.bool (decide (c34 < x1))))] [] ?_;refine AP (b:=(decide (c34 < x1))) kr (fun hb35=>?_) (fun hb35=>?_)
  ·rw [if_pos hb35] at h
   refine AS ?_;refine AF ?_;refine AZ ?_;refine AF ?_;obtain ⟨v36,hv36,h⟩:=OB h;obtain ⟨j41,hj41,h⟩:=OB h;refine DL AC (s1:=⟨Fr 105 [(0,.sl 5 (x0.map AA.enc)),(1,.v (.int .i64 x1)),(7,.v (.int .i64 c34)),(104,.v (.bool j41))],[]⟩) kr ?_ ?_
   ·refine AY (n:=105) AC 2 [(0,.sl 5 (x0.map AA.enc)),(1,.v (.int .i64 x1)),(7,.v (.int .i64 c34)),(86,.sl 5 (x0.map AA.enc)),(87,.v (.int .i64 c34))] [] kr kr ?_
    refine RunDS.one AC rfl kr (HK kr (AB rfl) rfl (AO (a:= .sl 5 (x0.map AA.enc)) (b:= .v (.int .i64 c34)) kr kr (Dn (e:=AA.enc) (el:=60) (k:=5) (ki:= .i64) kr kr hv36)) kr) ?_;refine AY (n:=105) AC 4 [(0,.sl 5 (x0.map AA.enc)),(1,.v (.int .i64 x1)),(7,.v (.int .i64 c34)),(92,.v (.bool (v36.1==1)))] [] kr kr ?_;rcases BE (v36.1==1) with hc44 | hc44
    ·rw [if_pos hc44] at hj41
     rw [hc44];refine AY (n:=105) AC 2 [(0,.sl 5 (x0.map AA.enc)),(1,.v (.int .i64 x1)),(7,.v (.int .i64 c34)),(92,.v (.bool true)),(93,.sl 5 (x0.map AA.enc)),(94,.v (.int .i64 c34))] [] kr kr ?_;obtain ⟨v37,hv37,hj41⟩:=OB hj41;refine RunDS.one AC rfl kr (HK kr kr rfl (AO (a:= .sl 5 (x0.map AA.enc)) (b:= .v (.int .i64 c34)) kr kr (Dn (e:=AA.enc) (el:=60) (k:=5) (ki:= .i64) kr kr hv37)) kr) ?_;refine AY (n:=105) AC 4 [(0,.sl 5 (x0.map AA.enc)),(1,.v (.int .i64 x1)),(7,.v (.int .i64 c34)),(92,.v (.bool true)),(93,.sl 5 (x0.map AA.enc)),(94,.v (.int .i64 c34)),(95,.pe (AA.enc v37) 0),(96,.pe (AA.enc v37) 3),(97,.sl 1 (v37.2.2.2.1.map cdS.enc)),(98,.sl 5 (x0.map AA.enc)),(99,.v (.int .i64 x1))] [] kr kr ?_;obtain ⟨v38,hv38,hj41⟩:=OB hj41;refine RunDS.one AC rfl kr (HK kr kr rfl (AO (a:= .sl 5 (x0.map AA.enc)) (b:= .v (.int .i64 x1)) kr kr (Dn (e:=AA.enc) (el:=60) (k:=5) (ki:= .i64) kr kr hv38)) kr) ?_;refine AY (n:=105) AC 2 [(0,.sl 5 (x0.map AA.enc)),(1,.v (.int .i64 x1)),(7,.v (.int .i64 c34)),(92,.v (.bool true)),(93,.sl 5 (x0.map AA.enc)),(94,.v (.int .i64 c34)),(95,.pe (AA.enc v37) 0),(96,.pe (AA.enc v37) 3),(97,.sl 1 (v37.2.2.2.1.map cdS.enc)),(98,.sl 5 (x0.map AA.enc)),(99,.v (.int .i64 x1)),(100,.pe (AA.enc v38) 0),(101,.pe (AA.enc v38) 1),(102,.st v38.2.1)] [] kr kr ?_;obtain ⟨v39,hv39,hj41⟩:=OB hj41;refine Bb (caps:=[]) (xs:=[.sl 1 (v37.2.2.2.1.map cdS.enc),.st v38.2.1]) (u:=(v37.2.2.2.1,v38.2.1,())) rfl rfl M2 rfl kr kr kr (AM (AX (c:=(cdL 1 cdS)) (v:=v37.2.2.2.1)) (AM (AX (c:=cdS) (v:=v38.2.1)) Aj)) kr hv39 ?_;refine AY (n:=105) AC 1 [(0,.sl 5 (x0.map AA.enc)),(1,.v (.int .i64 x1)),(7,.v (.int .i64 c34)),(93,.sl 5 (x0.map AA.enc)),(94,.v (.int .i64 c34)),(95,.pe (AA.enc v37) 0),(96,.pe (AA.enc v37) 3),(97,.sl 1 (v37.2.2.2.1.map cdS.enc)),(98,.sl 5 (x0.map AA.enc)),(99,.v (.int .i64 x1)),(100,.pe (AA.enc v38) 0),(101,.pe (AA.enc v38) 1),(102,.st v38.2.1),(103,.v (.bool v39)),(104,.v (.bool v39))] [] kr kr ?_
     have hq:=OI hj41; subst hq;exact RunDS.done rfl AL
    ·rw [BZ hc44] at hj41
     rw [hc44];refine AY (n:=105) AC 12 [(0,.sl 5 (x0.map AA.enc)),(1,.v (.int .i64 x1)),(7,.v (.int .i64 c34)),(93,.tp []),(94,.tp []),(95,.tp []),(96,.tp []),(97,.tp []),(98,.tp []),(99,.tp []),(100,.tp []),(101,.tp []),(102,.tp []),(103,.tp []),(104,.v (.bool false))] [] kr kr ?_;have hq:=OI hj41; subst hq;exact RunDS.done rfl AL
   refine AP (b:=j41) kr (fun hb42=>?_) (fun hb42=>?_)
   ·rw [if_pos hb42] at h
    refine AJ AC [(4,.v (.int .i64 0))] [] ?_;refine AQ ?_;have hq:=OI h; subst hq;exact ⟨rfl,AL⟩
   ·rw [BZ hb42] at h
    refine AS ?_;refine Cn AC [(0,.sl 5 (x0.map AA.enc)),(1,.v (.int .i64 x1)),(7,.v (.int .i64 (wr .i64 (c34 + 1))))] [] ?_;exact Ac (s1:=⟨Fr 105 [(0,.sl 5 (x0.map AA.enc)),(1,.v (.int .i64 x1)),(7,.v (.int .i64 (wr .i64 (c34 + 1))))],[]⟩) AL (ih (wr .i64 (c34 + 1)) h)
  ·rw [BZ hb35] at h
   refine Bd ?_;have hq:=OI h; subst hq;exact ⟨rfl,AL⟩
theorem Ph (x0:(List AG)) (x1:Int) (r:Int) (h:GQ x0 x1=some r):Sem E0 ⟨none,false⟩ Gk ⟨Fr 105 (A3 0 (JD.enc (x0,x1,()))),[]⟩ fun e s'=>(e = .normal\/e = .ret)/\∃ xs,EG E0.P s'.fr s'.hp Tryz.f149.results.toList=some xs/\EN xs=JI r:=by
 unfold GQ at h;refine An (BP (s1:=⟨Fr 105 [(0,.sl 5 (x0.map AA.enc)),(1,.v (.int .i64 x1))],[]⟩) AL ?_);refine AJ AC [(0,.sl 5 (x0.map AA.enc)),(1,.v (.int .i64 x1))] [] ?_;refine AF ?_;refine AF ?_;obtain ⟨v1,hv1,h⟩:=OB h;obtain ⟨v2,hv2,h⟩:=OB h;refine AK (s1:=⟨Fr 105 [(0,.sl 5 (x0.map AA.enc)),(1,.v (.int .i64 x1)),(13,.v (.bool (!v2)))],[]⟩) ?_ ?_
 ·refine AD (n:=105) AC 2 [(0,.sl 5 (x0.map AA.enc)),(1,.v (.int .i64 x1)),(8,.sl 5 (x0.map AA.enc)),(9,.v (.int .i64 x1))] [] kr ?_
  refine AR AC 0 rfl (C7 (AB rfl) rfl (AO (a:= .sl 5 (x0.map AA.enc)) (b:= .v (.int .i64 x1)) kr kr (Dn (e:=AA.enc) (el:=60) (k:=5) (ki:= .i64) kr kr hv1))) ?_;refine AD (n:=105) AC 1 [(0,.sl 5 (x0.map AA.enc)),(1,.v (.int .i64 x1)),(11,AA.enc v1)] [] kr ?_;refine AT (caps:=[]) (xs:=[AA.enc v1]) (u:=(v1,())) rfl rfl Tf rfl (AB rfl) kr kr (AM (AX (c:=AA) (v:=v1)) Aj) (.inl kr) hv2 ?_;exact AW AC
 refine AP (b:=(!v2)) kr (fun hb3=>?_) (fun hb3=>?_)
 ·rw [if_pos hb3] at h
  refine AJ AC [(4,.v (.int .i64 30))] [] ?_;refine AQ ?_;have hq:=OI h; subst hq;exact ⟨⟨Fr 105 [(4,.v (.int .i64 30))],[]⟩,AL,.inr rfl,[.v (.int .i64 30)],kr,kr⟩
 ·rw [BZ hb3] at h
  refine AS ?_;refine AF ?_;refine AF ?_;obtain ⟨v4,hv4,h⟩:=OB h;obtain ⟨j8,hj8,h⟩:=OB h;refine AK (s1:=⟨Fr 105 [(0,.sl 5 (x0.map AA.enc)),(1,.v (.int .i64 x1)),(28,.v (.bool j8))],[]⟩) ?_ ?_
  ·refine AD (n:=105) AC 2 [(0,.sl 5 (x0.map AA.enc)),(1,.v (.int .i64 x1)),(14,.sl 5 (x0.map AA.enc)),(15,.v (.int .i64 x1))] [] kr ?_
   refine AR AC 0 rfl (C7 (AB rfl) rfl (AO (a:= .sl 5 (x0.map AA.enc)) (b:= .v (.int .i64 x1)) kr kr (Dn (e:=AA.enc) (el:=60) (k:=5) (ki:= .i64) kr kr hv4))) ?_;refine AD (n:=105) AC 4 [(0,.sl 5 (x0.map AA.enc)),(1,.v (.int .i64 x1)),(20,.v (.bool (!(v4.2.1==[]))))] [] kr ?_;rcases BE (!(v4.2.1==[])) with hc50 | hc50
   ·rw [if_pos hc50] at hj8
    rw [hc50];refine AD (n:=105) AC 2 [(0,.sl 5 (x0.map AA.enc)),(1,.v (.int .i64 x1)),(20,.v (.bool true)),(21,.sl 5 (x0.map AA.enc)),(22,.v (.int .i64 x1))] [] kr ?_;obtain ⟨v5,hv5,hj8⟩:=OB hj8;refine AR AC 0 rfl (C7 kr rfl (AO (a:= .sl 5 (x0.map AA.enc)) (b:= .v (.int .i64 x1)) kr kr (Dn (e:=AA.enc) (el:=60) (k:=5) (ki:= .i64) kr kr hv5))) ?_;refine AD (n:=105) AC 2 [(0,.sl 5 (x0.map AA.enc)),(1,.v (.int .i64 x1)),(20,.v (.bool true)),(25,.st v5.2.1)] [] kr ?_;obtain ⟨v6,hv6,hj8⟩:=OB hj8;refine AT (caps:=[]) (xs:=[.st v5.2.1]) (u:=(v5.2.1,())) rfl rfl T2 rfl kr kr kr (AM (AX (c:=cdS) (v:=v5.2.1)) Aj) (.inl kr) hv6 ?_;refine AD (n:=105) AC 2 [(0,.sl 5 (x0.map AA.enc)),(1,.v (.int .i64 x1)),(28,.v (.bool (!v6)))] [] kr ?_;have hq:=OI hj8; subst hq;exact AI rfl AL
   ·rw [BZ hc50] at hj8
    rw [hc50];refine AD (n:=105) AC 8 [(0,.sl 5 (x0.map AA.enc)),(1,.v (.int .i64 x1)),(28,.v (.bool false))] [] kr ?_;have hq:=OI hj8; subst hq;exact AI rfl AL
  refine AP (b:=j8) kr (fun hb9=>?_) (fun hb9=>?_)
  ·rw [if_pos hb9] at h
   refine AJ AC [(4,.v (.int .i64 4))] [] ?_;refine AQ ?_;have hq:=OI h; subst hq;exact ⟨⟨Fr 105 [(4,.v (.int .i64 4))],[]⟩,AL,.inr rfl,[.v (.int .i64 4)],kr,kr⟩
  ·rw [BZ hb9] at h
   refine AS ?_;refine AF ?_;refine AJ AC [(0,.sl 5 (x0.map AA.enc)),(1,.v (.int .i64 x1)),(5,.v (.int .i64 0))] [] ?_;refine AZ ?_;obtain ⟨r18,hr18,h⟩:=OB h;refine Bj (n:=100000) ?_;rcases r18 with w19 | w49
   ·try dsimp only at h
    refine Aq (Ac (s1:=⟨Fr 105 [(0,.sl 5 (x0.map AA.enc)),(1,.v (.int .i64 x1)),(5,.v (.int .i64 0))],[]⟩) AL (Kg x0 x1 _ 0 _ hr18)) ?_;refine AF ?_;refine AJ AC [(0,.sl 5 (x0.map AA.enc)),(1,.v (.int .i64 x1)),(6,.v (.int .i64 0))] [] ?_;refine AZ ?_;obtain ⟨r30,hr30,h⟩:=OB h;refine Bj (n:=100000) ?_;rcases r30 with w31 | w48
    ·try dsimp only at h
     refine Aq (Ac (s1:=⟨Fr 105 [(0,.sl 5 (x0.map AA.enc)),(1,.v (.int .i64 x1)),(6,.v (.int .i64 0))],[]⟩) AL (Kh x0 x1 _ 0 _ hr30)) ?_;refine AF ?_;refine AF ?_;obtain ⟨v32,hv32,h⟩:=OB h;refine AK (s1:=⟨Fr 105 [(0,.sl 5 (x0.map AA.enc)),(1,.v (.int .i64 x1)),(80,.v (.bool (v32.2.1==[])))],[]⟩) ?_ ?_
     ·refine AD (n:=105) AC 2 [(0,.sl 5 (x0.map AA.enc)),(1,.v (.int .i64 x1)),(75,.sl 5 (x0.map AA.enc)),(76,.v (.int .i64 x1))] [] kr ?_
      refine AR AC 0 rfl (C7 (AB rfl) rfl (AO (a:= .sl 5 (x0.map AA.enc)) (b:= .v (.int .i64 x1)) kr kr (Dn (e:=AA.enc) (el:=60) (k:=5) (ki:= .i64) kr kr hv32))) ?_;exact AW AC
     refine AP (b:=(v32.2.1==[])) kr (fun hb33=>?_) (fun hb33=>?_)
     ·rw [if_pos hb33] at h
      refine AJ AC [(4,.v (.int .i64 0))] [] ?_;refine AQ ?_;have hq:=OI h; subst hq;exact ⟨⟨Fr 105 [(4,.v (.int .i64 0))],[]⟩,AL,.inr rfl,[.v (.int .i64 0)],kr,kr⟩
     ·rw [BZ hb33] at h
      refine AS ?_;refine AF ?_;refine AJ AC [(0,.sl 5 (x0.map AA.enc)),(1,.v (.int .i64 x1)),(7,.v (.int .i64 0))] [] ?_;refine AZ ?_;obtain ⟨r45,hr45,h⟩:=OB h;refine Bj (n:=100000) ?_;rcases r45 with w46 | w47
      ·try dsimp only at h
       refine Aq (Ac (s1:=⟨Fr 105 [(0,.sl 5 (x0.map AA.enc)),(1,.v (.int .i64 x1)),(7,.v (.int .i64 0))],[]⟩) AL (Ki x0 x1 _ 0 _ hr45)) ?_;refine AJ AC [(4,.v (.int .i64 31))] [] ?_;refine AQ ?_;have hq:=OI h; subst hq;exact ⟨⟨Fr 105 [(4,.v (.int .i64 31))],[]⟩,AL,.inr rfl,[.v (.int .i64 31)],kr,kr⟩
      ·try dsimp only at h
       refine Aq (Ac (s1:=⟨Fr 105 [(0,.sl 5 (x0.map AA.enc)),(1,.v (.int .i64 x1)),(7,.v (.int .i64 0))],[]⟩) AL (Ki x0 x1 _ 0 _ hr45)) ?_;have hq:=OI h; subst hq;exact ⟨⟨Fr 105 [(4,.v (.int .i64 w47))],[]⟩,AL,.inr rfl,[.v (.int .i64 w47)],kr,kr⟩
    ·try dsimp only at h
     refine Aq (Ac (s1:=⟨Fr 105 [(0,.sl 5 (x0.map AA.enc)),(1,.v (.int .i64 x1)),(6,.v (.int .i64 0))],[]⟩) AL (Kh x0 x1 _ 0 _ hr30)) ?_;have hq:=OI h; subst hq;exact ⟨⟨Fr 105 [(4,.v (.int .i64 w48))],[]⟩,AL,.inr rfl,[.v (.int .i64 w48)],kr,kr⟩
   ·try dsimp only at h
    refine Aq (Ac (s1:=⟨Fr 105 [(0,.sl 5 (x0.map AA.enc)),(1,.v (.int .i64 x1)),(5,.v (.int .i64 0))],[]⟩) AL (Kg x0 x1 _ 0 _ hr18)) ?_;have hq:=OI h; subst hq;exact ⟨⟨Fr 105 [(4,.v (.int .i64 w49))],[]⟩,AL,.inr rfl,[.v (.int .i64 w49)],kr,kr⟩
def RO:List AV->Option AV:=Dx JD (fun a=>GQ a.1 a.2.1) JI
theorem RT:XOk 149 RO:=by
 refine AU Tryz.func149 (c:=Gk) ?h2 ⟨Tryz.call149⟩ JD (fun a=>GQ a.1 a.2.1) JI (fun a=>(by show 2<=105; decide)) ?h3 ?h4
 case h2=>kernel_rfl
 case h3=>intro b; kernel_rfl
 case h4=>exact fun a b h=>Ph a.1 a.2.1 b h
/- trestle/trestleref03.Check -/
noncomputable def Ls:Code:=BG Tryz.f115
def Fe (x0:(List AG)):Nat->Int->Option ((Unit) ⊕ (Int×Int))
 | 0,_=>none
 | f + 1,c2 =>
  if (decide (c2 < (x0.length:Int)))=true then
  (GQ x0 c2).bind fun v4 =>
  if (v4 != 0)=true then
  some (.inr (c2,v4))
  else
  Fe x0 f (wr .i64 (c2 + 1))
  else
  some (.inl ())
def IB (x0:(List AG)):Option (Int×Int) :=
 if (decide ((x0.length:Int) > 32))=true then
 some (0,7)
 else
 (Fe x0 100000 0).bind fun r8 =>
 match r8 with
 | (.inl _w9) =>
  some (0,0)
 | (.inr w10) =>
  some (w10.1,w10.2)
def Lz:Cs ((List AG)×Unit):=(csC (cdL 5 AA) csN)
def L5 (r:Int×Int):AV:= .tp [cdI.enc r.1,cdI.enc r.2]
theorem MQ (x0:(List AG)):∀ (f:Nat) (c2:Int) (r:(Unit) ⊕ (Int×Int)),Fe x0 f c2=some r->SemN E0 ⟨none,false⟩ (pc Ls [1,1,0,1,0,0]) f ⟨Fr 22 [(0,.sl 5 (x0.map AA.enc)),(4,.v (.int .i64 c2))],[]⟩ (fun e s=>match r with
 | (.inl _w)=>e=(.exit 0)/\Wk E0 s ⟨Fr 22 [],[]⟩
 | (.inr w)=>e = .ret/\Wk E0 s ⟨Fr 22 [(2,.v (.int .i64 w.1)),(3,.v (.int .i64 w.2))],[]⟩):=by
 intro f;induction f with
 | zero=>intro c2 r h; cases h
 | succ f ih0 =>
  intro c2 r h
  have ih:=fun (c2:Int)=>ih0 c2 r
  unfold Fe at h;refine BR ?_;refine AF ?_;refine AF ?_
  let p1:Nat×AV:=(4,.v (.int .i64 c2))
  let p2:Nat×AV:=(0,.sl 5 (x0.map AA.enc))
  refine AK (s1:=⟨Fr 22 [p2,p1,(12,.v (.bool (decide (c2 < (x0.length:Int)))))],[]⟩) ?_ ?_
  ·refine AD (n:=22) AC 2 [p2,p1,(9,.v (.int .i64 c2)),(10,.sl 5 (x0.map AA.enc))] [] kr ?_
   refine AR AC 0 rfl (C7 (AB rfl) rfl (Ck (a:= .sl 5 (x0.map AA.enc)) kr (Ba (el:=60) kr))) ?_;exact AW AC
  refine AP (b:=(decide (c2 < (x0.length:Int)))) kr (fun hb3=>?_) (fun hb3=>?_)
  ·rw [if_pos hb3] at h
   refine AS ?_;refine AF ?_;refine AZ ?_;refine AF ?_;obtain ⟨v4,hv4,h⟩:=OB h;refine AK (s1:=⟨Fr 22 [p2,p1,(5,.v (.int .i64 v4))],[]⟩) ?_ ?_
   ·refine AD (n:=22) AC 2 [p2,p1,(15,.sl 5 (x0.map AA.enc)),(16,.v (.int .i64 c2))] [] kr ?_
    refine AT (caps:=[]) (xs:=[.sl 5 (x0.map AA.enc),.v (.int .i64 c2)]) (u:=(x0,c2,())) rfl rfl RT rfl (AB rfl) kr kr (AM (AX (c:=(cdL 5 AA)) (v:=x0)) (AM (AX (c:=cdI) (v:=c2)) Aj)) (.inl kr) hv4 ?_;exact AW AC
   refine AJ AC [p2,p1,(5,.v (.int .i64 v4)),(19,.v (.bool (v4 != 0)))] [] ?_;refine AP (b:=(v4 != 0)) kr (fun hb5=>?_) (fun hb5=>?_)
   ·rw [if_pos hb5] at h
    refine AJ AC [(2,.v (.int .i64 c2)),(3,.v (.int .i64 v4))] [] ?_;refine AQ ?_;have hq:=OI h; subst hq;exact ⟨rfl,AL⟩
   ·rw [BZ hb5] at h
    refine AS ?_
    let p3:Nat×AV:=(4,.v (.int .i64 (wr .i64 (c2 + 1))))
    refine Cn AC [p2,p3] [] ?_;exact Ac (s1:=⟨Fr 22 [p2,p3],[]⟩) AL (ih (wr .i64 (c2 + 1)) h)
  ·rw [BZ hb3] at h
   refine Bd ?_;have hq:=OI h; subst hq;exact ⟨rfl,AL⟩
theorem SM (x0:(List AG)) (r:Int×Int) (h:IB x0=some r):Sem E0 ⟨none,false⟩ Ls ⟨Fr 22 (A3 0 (Lz.enc (x0,()))),[]⟩ fun e s'=>(e = .normal\/e = .ret)/\∃ xs,EG E0.P s'.fr s'.hp Tryz.f115.results.toList=some xs/\EN xs=L5 r:=by
 unfold IB at h
 let p1:Nat×AV:=(0,.sl 5 (x0.map AA.enc))
 refine An (BP (s1:=⟨Fr 22 [p1],[]⟩) AL ?_);refine AJ AC [p1] [] ?_;refine AF ?_;refine AF ?_;refine AK (s1:=⟨Fr 22 [p1,(8,.v (.bool (decide ((x0.length:Int) > 32))))],[]⟩) ?_ ?_
 ·refine AD (n:=22) AC 1 [p1,(6,.sl 5 (x0.map AA.enc))] [] kr ?_
  refine AR AC 0 rfl (C7 (AB rfl) rfl (Ck (a:= .sl 5 (x0.map AA.enc)) kr (Ba (el:=60) kr))) ?_;exact AW AC
 refine AP (b:=(decide ((x0.length:Int) > 32))) kr (fun hb1=>?_) (fun hb1=>?_)
 ·rw [if_pos hb1] at h
  refine AJ AC [(2,.v (.int .i64 0)),(3,.v (.int .i64 7))] [] ?_;refine AQ ?_;have hq:=OI h; subst hq;exact ⟨⟨Fr 22 [(2,.v (.int .i64 0)),(3,.v (.int .i64 7))],[]⟩,AL,.inr rfl,[.v (.int .i64 0),.v (.int .i64 7)],kr,kr⟩
 ·rw [BZ hb1] at h
  refine AS ?_;refine AF ?_
  let p2:Nat×AV:=(4,.v (.int .i64 0))
  refine AJ AC [p1,p2] [] ?_;refine AZ ?_;obtain ⟨r8,hr8,h⟩:=OB h;refine Bj (n:=100000) ?_;rcases r8 with w9 | w10
  ·try dsimp only at h
   refine Aq (Ac (s1:=⟨Fr 22 [p1,p2],[]⟩) AL (MQ x0 _ 0 _ hr8)) ?_;refine AJ AC [(2,.v (.int .i64 0)),(3,.v (.int .i64 0))] [] ?_;refine AQ ?_;have hq:=OI h; subst hq;exact ⟨⟨Fr 22 [(2,.v (.int .i64 0)),(3,.v (.int .i64 0))],[]⟩,AL,.inr rfl,[.v (.int .i64 0),.v (.int .i64 0)],kr,kr⟩
  ·try dsimp only at h
   refine Aq (Ac (s1:=⟨Fr 22 [p1,p2],[]⟩) AL (MQ x0 _ 0 _ hr8)) ?_;have hq:=OI h; subst hq;exact ⟨⟨Fr 22 [(2,.v (.int .i64 w10.1)),(3,.v (.int .i64 w10.2))],[]⟩,AL,.inr rfl,[.v (.int .i64 w10.1),.v (.int .i64 w10.2)],kr,kr⟩
def Uf:List AV->Option AV:=Dx Lz (fun a=>IB a.1) L5
theorem Uo:XOk 115 Uf:=by
 refine AU Tryz.func115 (c:=Ls) ?h2 ⟨Tryz.call115⟩ Lz (fun a=>IB a.1) L5 (fun a=>(by show 1<=22; decide)) ?h3 ?h4
 case h2=>kernel_rfl
 case h3=>intro b; kernel_rfl
 case h4=>exact fun a b h=>SM a.1 b h
/- trestle/trestleref03.rank -/
noncomputable def Mc:Code:=BG Tryz.f169
def GM (x0:(List (List UInt8))) (x1:(List UInt8)):Nat->Int->Option ((Unit) ⊕ (Int))
 | 0,_=>none
 | f + 1,c1 =>
  if (decide (c1 < (x0.length:Int)))=true then
  (idx x0 c1).bind fun v3 =>
  if (v3==x1)=true then
  some (.inr c1)
  else
  GM x0 x1 f (wr .i64 (c1 + 1))
  else
  some (.inl ())
def IJ (x0:(List (List UInt8))) (x1:(List UInt8)):Option (Int) :=
 (GM x0 x1 100000 0).bind fun r6 =>
 match r6 with
 | (.inl _w7) =>
  some (x0.length:Int)
 | (.inr w8) =>
  some w8
def Mi:Cs ((List (List UInt8))×(List UInt8)×Unit):=(csC (cdL 1 cdS) (csC cdS csN))
def Mq (r:Int):AV:=cdI.enc r
theorem NT (x0:(List (List UInt8))) (x1:(List UInt8)):∀ (f:Nat) (c1:Int) (r:(Unit) ⊕ (Int)),GM x0 x1 f c1=some r->SemN E0 ⟨none,false⟩ (pc Mc [1,0,1,0,0]) f ⟨Fr 21 [(0,.sl 1 (x0.map cdS.enc)),(1,.st x1),(5,.v (.int .i64 c1))],[]⟩ (fun e s=>match r with
 | (.inl _w)=>e=(.exit 0)/\Wk E0 s ⟨Fr 21 [(0,.sl 1 (x0.map cdS.enc))],[]⟩
 | (.inr w)=>e = .ret/\Wk E0 s ⟨Fr 21 [(4,.v (.int .i64 w))],[]⟩):=by
 intro f;induction f with
 | zero=>intro c1 r h; cases h
 | succ f ih0 =>
  intro c1 r h
  have ih:=fun (c1:Int)=>ih0 c1 r
  unfold GM at h;refine BR ?_;refine AF ?_;refine AF ?_
  let p1:Nat×AV:=(5,.v (.int .i64 c1))
  let p2:Nat×AV:=(0,.sl 1 (x0.map cdS.enc))
  refine AK (s1:=⟨Fr 21 [p2,(1,.st x1),p1,(9,.v (.bool (decide (c1 < (x0.length:Int)))))],[]⟩) ?_ ?_
  ·refine AD (n:=21) AC 2 [p2,(1,.st x1),p1,(6,.v (.int .i64 c1)),(7,.sl 1 (x0.map cdS.enc))] [] kr ?_
   refine AR AC 0 rfl (C7 (AB rfl) rfl (Ck (a:= .sl 1 (x0.map cdS.enc)) kr (Ba (el:=9) kr))) ?_;exact AW AC
  refine AP (b:=(decide (c1 < (x0.length:Int)))) kr (fun hb2=>?_) (fun hb2=>?_)
  ·rw [if_pos hb2] at h
   refine AS ?_;refine AF ?_;refine AZ ?_;refine AF ?_;obtain ⟨v3,hv3,h⟩:=OB h;refine AK (s1:=⟨Fr 21 [p2,(1,.st x1),p1,(17,.v (.bool (v3==x1)))],[]⟩) ?_ ?_
   ·refine AD (n:=21) AC 2 [p2,(1,.st x1),p1,(12,.sl 1 (x0.map cdS.enc)),(13,.v (.int .i64 c1))] [] kr ?_
    refine AR AC 0 rfl (C7 (AB rfl) rfl (AO (a:= .sl 1 (x0.map cdS.enc)) (b:= .v (.int .i64 c1)) kr kr (Dn (e:=cdS.enc) (el:=9) (k:=1) (ki:= .i64) kr kr hv3))) ?_;exact AW AC
   refine AP (b:=(v3==x1)) kr (fun hb4=>?_) (fun hb4=>?_)
   ·rw [if_pos hb4] at h
    refine AJ AC [(4,.v (.int .i64 c1))] [] ?_;refine AQ ?_;have hq:=OI h; subst hq;exact ⟨rfl,AL⟩
   ·rw [BZ hb4] at h
    refine AS ?_
    let p3:Nat×AV:=(5,.v (.int .i64 (wr .i64 (c1 + 1))))
    refine Cn AC [p2,(1,.st x1),p3] [] ?_;exact Ac (s1:=⟨Fr 21 [p2,(1,.st x1),p3],[]⟩) AL (ih (wr .i64 (c1 + 1)) h)
  ·rw [BZ hb2] at h
   refine Bd ?_;have hq:=OI h; subst hq;exact ⟨rfl,AL⟩
theorem TS (x0:(List (List UInt8))) (x1:(List UInt8)) (r:Int) (h:IJ x0 x1=some r):Sem E0 ⟨none,false⟩ Mc ⟨Fr 21 (A3 0 (Mi.enc (x0,x1,()))),[]⟩ fun e s'=>(e = .normal\/e = .ret)/\∃ xs,EG E0.P s'.fr s'.hp Tryz.f169.results.toList=some xs/\EN xs=Mq r:=by
 unfold IJ at h
 let p1:Nat×AV:=(0,.sl 1 (x0.map cdS.enc))
 refine An (BP (s1:=⟨Fr 21 [p1,(1,.st x1)],[]⟩) AL ?_);refine AJ AC [p1,(1,.st x1)] [] ?_;refine AF ?_
 let p2:Nat×AV:=(5,.v (.int .i64 0))
 refine AJ AC [p1,(1,.st x1),p2] [] ?_;refine AZ ?_;obtain ⟨r6,hr6,h⟩:=OB h;refine Bj (n:=100000) ?_;rcases r6 with w7 | w8
 ·try dsimp only at h
  refine Aq (Ac (s1:=⟨Fr 21 [p1,(1,.st x1),p2],[]⟩) AL (NT x0 x1 _ 0 _ hr6)) ?_;refine AF ?_
  let p3:Nat×AV:=(4,.v (.int .i64 (x0.length:Int)))
  refine AK (s1:=⟨Fr 21 [p3],[]⟩) ?_ ?_
  ·refine AD (n:=21) AC 1 [(19,.sl 1 (x0.map cdS.enc))] [] kr ?_
   refine AR AC 0 rfl (C7 (AB rfl) rfl (Ck (a:= .sl 1 (x0.map cdS.enc)) kr (Ba (el:=9) kr))) ?_;exact AW AC
  refine AQ ?_;have hq:=OI h; subst hq;exact ⟨⟨Fr 21 [p3],[]⟩,AL,.inr rfl,[.v (.int .i64 (x0.length:Int))],kr,kr⟩
 ·try dsimp only at h
  refine Aq (Ac (s1:=⟨Fr 21 [p1,(1,.st x1),p2],[]⟩) AL (NT x0 x1 _ 0 _ hr6)) ?_;have hq:=OI h; subst hq;exact ⟨⟨Fr 21 [(4,.v (.int .i64 w8))],[]⟩,AL,.inr rfl,[.v (.int .i64 w8)],kr,kr⟩
def Vc:List AV->Option AV:=Dx Mi (fun a=>IJ a.1 a.2.1) Mq
theorem Q5:XOk 169 Vc:=by
 refine AU Tryz.func169 (c:=Mc) ?h2 ⟨Tryz.call169⟩ Mi (fun a=>IJ a.1 a.2.1) Mq (fun a=>(by show 2<=21; decide)) ?h3 ?h4
 case h2=>kernel_rfl
 case h3=>intro b; kernel_rfl
 case h4=>exact fun a b h=>TS a.1 a.2.1 b h
/- trestle/trestleref03.key -/
noncomputable def Qy:Code:=BG Tryz.f171
def LR (x0:Int) (x1:Int):Option (Int) :=
 some ((wr .i64 ((wr .i64 (x0 * (wr .i64 ((wr .i64 (x1 + x1)) + 1)))) + x1)).tmod 64)
def Nr:Cs (Int×Int×Unit):=(csC cdI (csC cdI csN))
def Nz (r:Int):AV:=cdI.enc r
theorem UU (x0:Int) (x1:Int) (r:Int) (h:LR x0 x1=some r):Sem E0 ⟨none,false⟩ Qy ⟨Fr 14 (A3 0 (Nr.enc (x0,x1,()))),[]⟩ fun e s'=>(e = .normal\/e = .ret)/\∃ xs,EG E0.P s'.fr s'.hp Tryz.f171.results.toList=some xs/\EN xs=Nz r:=by
 unfold LR at h;refine An (BP (s1:=⟨Fr 14 [(0,.v (.int .i64 x0)),(1,.v (.int .i64 x1))],[]⟩) AL ?_);refine AJ AC [(0,.v (.int .i64 x0)),(1,.v (.int .i64 x1))] [] ?_
 let p1:Nat×AV:=(4,.v (.int .i64 ((wr .i64 ((wr .i64 (x0 * (wr .i64 ((wr .i64 (x1 + x1)) + 1)))) + x1)).tmod 64)))
 refine AJ AC [p1] [] ?_;refine AQ ?_;have hq:=OI h; subst hq;exact ⟨⟨Fr 14 [p1],[]⟩,AL,.inr rfl,[.v (.int .i64 ((wr .i64 ((wr .i64 (x0 * (wr .i64 ((wr .i64 (x1 + x1)) + 1)))) + x1)).tmod 64))],kr,kr⟩
def WV:List AV->Option AV:=Dx Nr (fun a=>LR a.1 a.2.1) Nz
theorem TG:XOk 171 WV:=by
 refine AU Tryz.func171 (c:=Qy) ?h2 ⟨Tryz.call171⟩ Nr (fun a=>LR a.1 a.2.1) Nz (fun a=>(by show 2<=14; decide)) ?h3 ?h4
 case h2=>kernel_rfl
 case h3=>intro b; kernel_rfl
 case h4=>exact fun a b h=>UU a.1 a.2.1 b h
/- trestle/trestleref03.named -/
noncomputable def Lu:Code:=BG Tryz.f172
def Ff (x0:AG) (x1:Ai):Nat->Int->Option ((Unit) ⊕ (Bool))
 | 0,_=>none
 | f + 1,c5 =>
  if (decide (c5 < (x1.2.2.2.2.2.2.2.2.length:Int)))=true then
  (idx x1.2.2.2.2.2.2.2.2 c5).bind fun v7 =>
  (Ht x0.2.2.2.1 v7).bind fun v8 =>
  if v8=true then
  some (.inr true)
  else
  Ff x0 x1 f (wr .i64 (c5 + 1))
  else
  some (.inl ())
def GR (x0:AG) (x1:Ai):Option (Bool) :=
 if (x0.1==4)=true then
 some (x1.2.2.2.2.1==x0.2.2.2.2)
 else
 if (x0.1==5)=true then
 some x1.2.2.2.2.2.2.1
 else
 if (x0.1==7)=true then
 (Ht x0.2.2.2.1 x1.2.2.1).bind fun v4 =>
 some v4
 else
 (Ff x0 x1 100000 0).bind fun r11 =>
 match r11 with
 | (.inl _w12) =>
  some false
 | (.inr w13) =>
  some w13
def L0:Cs (AG×Ai×Unit):=(csC AA (csC AE csN))
def L7 (r:Bool):AV:=cdB.enc r
theorem MR (x0:AG) (x1:Ai):∀ (f:Nat) (c5:Int) (r:(Unit) ⊕ (Bool)),Ff x0 x1 f c5=some r->SemN E0 ⟨none,false⟩ (pc Lu [1,1,0,1,0,0]) f ⟨Fr 41 [(2,.pt 0 0 0),(3,.pt 1 0 0),(5,.v (.int .i64 c5))],[some ⟨5,60,[AA.enc x0],false⟩,some ⟨9,42,[AE.enc x1],false⟩]⟩ (fun e s=>match r with
 | (.inl _w)=>e=(.exit 1)/\Wk E0 s ⟨Fr 41 [],[]⟩
 | (.inr w)=>e = .ret/\Wk E0 s ⟨Fr 41 [(4,.v (.bool w))],[]⟩):=by
 intro f;induction f with
 | zero=>intro c5 r h; cases h
 | succ f ih0 =>
  intro c5 r h
  have ih:=fun (c5:Int)=>ih0 c5 r
  unfold Ff at h;refine BR ?_;refine AF ?_;refine AF ?_
  let p1:Option Blk:=some ⟨9,42,[AE.enc x1],false⟩
  let p2:Option Blk:=some ⟨5,60,[AA.enc x0],false⟩
  let p3:Nat×AV:=(5,.v (.int .i64 c5))
  let p4:Nat×AV:=(3,.pt 1 0 0)
  let p5:Nat×AV:=(2,.pt 0 0 0)
  refine AK (s1:=⟨Fr 41 [p5,p4,p3,(30,.v (.bool (decide (c5 < (x1.2.2.2.2.2.2.2.2.length:Int)))))],[p2,p1]⟩) ?_ ?_
  ·refine AD (n:=41) AC 3 [p5,p4,p3,(26,.v (.int .i64 c5)),(28,.sl 1 (x1.2.2.2.2.2.2.2.2.map cdS.enc))] [p2,p1] kr ?_
   refine AR AC 0 rfl (C7 (AB rfl) rfl (Ck (a:= .sl 1 (x1.2.2.2.2.2.2.2.2.map cdS.enc)) kr (Ba (el:=9) kr))) ?_;exact AW AC
  refine AP (b:=(decide (c5 < (x1.2.2.2.2.2.2.2.2.length:Int)))) kr (fun hb6=>?_) (fun hb6=>?_)
  ·rw [if_pos hb6] at h
   refine AS ?_;refine AF ?_;refine AZ ?_;refine AF ?_;obtain ⟨v7,hv7,h⟩:=OB h;obtain ⟨v8,hv8,h⟩:=OB h;refine DL AC (s1:=⟨Fr 41 [p5,p4,p3,(40,.v (.bool v8))],[p2,p1]⟩) kr ?_ ?_
   ·refine AY (n:=41) AC 5 [p5,p4,p3,(34,.sl 1 (x0.2.2.2.1.map cdS.enc)),(36,.sl 1 (x1.2.2.2.2.2.2.2.2.map cdS.enc)),(37,.v (.int .i64 c5))] [p2,p1] kr kr ?_
    refine RunDS.one AC rfl kr (HK kr (AB rfl) rfl (AO (a:= .sl 1 (x1.2.2.2.2.2.2.2.2.map cdS.enc)) (b:= .v (.int .i64 c5)) kr kr (Dn (e:=cdS.enc) (el:=9) (k:=1) (ki:= .i64) kr kr hv7)) kr) ?_;refine AY (n:=41) AC 1 [p5,p4,p3,(34,.sl 1 (x0.2.2.2.1.map cdS.enc)),(39,.st v7)] [p2,p1] kr kr ?_;refine Bb (caps:=[]) (xs:=[.sl 1 (x0.2.2.2.1.map cdS.enc),.st v7]) (u:=(x0.2.2.2.1,v7,())) rfl rfl M2 rfl (AB rfl) kr kr (AM (AX (c:=(cdL 1 cdS)) (v:=x0.2.2.2.1)) (AM (AX (c:=cdS) (v:=v7)) Aj)) kr hv8 ?_;exact RunDS.done rfl (Ad [0,1] ⟨⟨_,rfl,Ga⟩,⟨_,rfl,Ga⟩,trivial⟩ ⟨lv,lv,lv,lv,trivial⟩)
   refine AP (b:=v8) kr (fun hb9=>?_) (fun hb9=>?_)
   ·rw [if_pos hb9] at h
    refine AF ?_;refine AK (s1:=⟨Fr 41 [(4,.v (.bool true))],[]⟩) ?_ ?_
    ·refine AD (n:=41) AC 1 [(4,.v (.bool true))] [p2,p1] kr ?_
     exact AI rfl (Ad [] trivial ⟨lv,trivial⟩)
    refine AQ ?_;have hq:=OI h; subst hq;exact ⟨rfl,AL⟩
   ·rw [BZ hb9] at h
    refine AS ?_
    let p6:Nat×AV:=(5,.v (.int .i64 (wr .i64 (c5 + 1))))
    refine Cn AC [p5,p4,p6] [p2,p1] ?_;exact Ac (s1:=⟨Fr 41 [p5,p4,p6],[p2,p1]⟩) (Ad [0,1] ⟨⟨_,rfl,Ga⟩,⟨_,rfl,Ga⟩,trivial⟩ ⟨lv,lv,lv,trivial⟩) (ih (wr .i64 (c5 + 1)) h)
  ·rw [BZ hb6] at h
   refine Bd ?_;have hq:=OI h; subst hq;exact ⟨rfl,(Ad [] trivial trivial)⟩
theorem SP (x0:AG) (x1:Ai) (r:Bool) (h:GR x0 x1=some r):Sem E0 ⟨none,false⟩ Lu ⟨Fr 41 (A3 0 (L0.enc (x0,x1,()))),[]⟩ fun e s'=>(e = .normal\/e = .ret)/\∃ xs,EG E0.P s'.fr s'.hp Tryz.f172.results.toList=some xs/\EN xs=L7 r:=by
 unfold GR at h;refine An (BP (s1:=⟨Fr 41 [(0,AA.enc x0),(1,AE.enc x1)],[]⟩) AL ?_)
 let p1:Option Blk:=some ⟨9,42,[AE.enc x1],false⟩
 let p2:Option Blk:=some ⟨5,60,[AA.enc x0],false⟩
 let p3:Nat×AV:=(3,.pt 1 0 0)
 let p4:Nat×AV:=(2,.pt 0 0 0)
 refine AJ AC [p4,p3] [p2,p1] ?_;refine AF ?_
 let p5:Nat×AV:=(7,.v (.int .u8 x0.1))
 refine AJ AC [p4,p3,p5] [p2,p1] ?_;refine AZ ?_;refine AJ AC [p4,p3,p5,(8,.v (.bool (x0.1==4)))] [p2,p1] ?_;refine AP (b:=(x0.1==4)) kr (fun hb1=>?_) (fun hb1=>?_)
 ·rw [if_pos hb1] at h
  refine AF ?_
  let p6:Nat×AV:=(4,.v (.bool (x1.2.2.2.2.1==x0.2.2.2.2)))
  refine AK (s1:=⟨Fr 41 [p6],[]⟩) ?_ ?_
  ·refine AD (n:=41) AC 6 [p6] [p2,p1] kr ?_
   exact AI rfl (Ad [] trivial ⟨lv,trivial⟩)
  refine AQ ?_;have hq:=OI h; subst hq;exact ⟨⟨Fr 41 [p6],[]⟩,AL,.inr rfl,[.v (.bool (x1.2.2.2.2.1==x0.2.2.2.2))],kr,kr⟩
 ·rw [BZ hb1] at h
  refine AJ AC [p4,p3,p5,(15,.v (.bool (x0.1==5)))] [p2,p1] ?_;refine AP (b:=(x0.1==5)) kr (fun hb2=>?_) (fun hb2=>?_)
  ·rw [if_pos hb2] at h
   refine AF ?_
   let p7:Nat×AV:=(4,.v (.bool x1.2.2.2.2.2.2.1))
   refine AK (s1:=⟨Fr 41 [p7],[]⟩) ?_ ?_
   ·refine AD (n:=41) AC 3 [p7] [p2,p1] kr ?_
    exact AI rfl (Ad [] trivial ⟨lv,trivial⟩)
   refine AQ ?_;have hq:=OI h; subst hq;exact ⟨⟨Fr 41 [p7],[]⟩,AL,.inr rfl,[.v (.bool x1.2.2.2.2.2.2.1)],kr,kr⟩
  ·rw [BZ hb2] at h
   refine AJ AC [p4,p3,(19,.v (.bool (x0.1==7)))] [p2,p1] ?_;refine AP (b:=(x0.1==7)) kr (fun hb3=>?_) (fun hb3=>?_)
   ·rw [if_pos hb3] at h
    refine AF ?_;obtain ⟨v4,hv4,h⟩:=OB h;refine AK (s1:=⟨Fr 41 [(4,.v (.bool v4))],[]⟩) ?_ ?_
    ·refine AD (n:=41) AC 4 [(22,.sl 1 (x0.2.2.2.1.map cdS.enc)),(24,.st x1.2.2.1)] [p2,p1] kr ?_
     refine AT (caps:=[]) (xs:=[.sl 1 (x0.2.2.2.1.map cdS.enc),.st x1.2.2.1]) (u:=(x0.2.2.2.1,x1.2.2.1,())) rfl rfl M2 rfl (AB rfl) kr kr (AM (AX (c:=(cdL 1 cdS)) (v:=x0.2.2.2.1)) (AM (AX (c:=cdS) (v:=x1.2.2.1)) Aj)) (.inl kr) hv4 ?_;refine AD (n:=41) AC 1 [(4,.v (.bool v4))] [p2,p1] kr ?_;exact AI rfl (Ad [] trivial ⟨lv,trivial⟩)
    refine AQ ?_;have hq:=OI h; subst hq;exact ⟨⟨Fr 41 [(4,.v (.bool v4))],[]⟩,AL,.inr rfl,[.v (.bool v4)],kr,kr⟩
   ·rw [BZ hb3] at h
    refine AS ?_;refine AF ?_
    let p8:Nat×AV:=(5,.v (.int .i64 0))
    refine AJ AC [p4,p3,p8] [p2,p1] ?_;refine AZ ?_;obtain ⟨r11,hr11,h⟩:=OB h;refine Bj (n:=100000) ?_;rcases r11 with w12 | w13
    ·try dsimp only at h
     refine Aq (Ac (s1:=⟨Fr 41 [p4,p3,p8],[p2,p1]⟩) (Ad [0,1] ⟨⟨_,rfl,Ga⟩,⟨_,rfl,Ga⟩,trivial⟩ ⟨lv,lv,lv,trivial⟩) (MR x0 x1 _ 0 _ hr11)) ?_;refine AJ AC [(4,.v (.bool false))] [] ?_;refine AQ ?_;have hq:=OI h; subst hq;exact ⟨⟨Fr 41 [(4,.v (.bool false))],[]⟩,AL,.inr rfl,[.v (.bool false)],kr,kr⟩
    ·try dsimp only at h
     refine Aq (Ac (s1:=⟨Fr 41 [p4,p3,p8],[p2,p1]⟩) (Ad [0,1] ⟨⟨_,rfl,Ga⟩,⟨_,rfl,Ga⟩,trivial⟩ ⟨lv,lv,lv,trivial⟩) (MR x0 x1 _ 0 _ hr11)) ?_;have hq:=OI h; subst hq;exact ⟨⟨Fr 41 [(4,.v (.bool w13))],[]⟩,AL,.inr rfl,[.v (.bool w13)],kr,kr⟩
def Uh:List AV->Option AV:=Dx L0 (fun a=>GR a.1 a.2.1) L7
theorem Kq:XOk 172 Uh:=by
 refine AU Tryz.func172 (c:=Lu) ?h2 ⟨Tryz.call172⟩ L0 (fun a=>GR a.1 a.2.1) L7 (fun a=>(by show 2<=41; decide)) ?h3 ?h4
 case h2=>kernel_rfl
 case h3=>intro b; kernel_rfl
 case h4=>exact fun a b h=>SP a.1 a.2.1 b h
end Go.Proofs.YtlalcoehgkmhlaaGreatDoor
