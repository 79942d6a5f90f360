/- Lemmas for the proof. -/
import Derived.Test.YtlalcoehgkmhlaaGreatDoorCourtGroupsM1
import Derived.Test.YtlalcoehgkmhlaaGreatDoorCourtGroupsM2
import Derived.Test.YtlalcoehgkmhlaaGreatDoorCourtGroupsM3
set_option maxHeartbeats 4000000
set_option maxRecDepth 100000
namespace Go.Proofs.YtlalcoehgkmhlaaGreatDoor
open Go.RowKit
/- trestle/trestlelaw03.Guest -/
noncomputable def Et:Code:=BS Tryz.f74
def Fe (x0:(Int×Int)) (x1:(List UInt8)):Option ((Int×Int×(List UInt8)×(List UInt8)×(List UInt8)×Int×Int×(List UInt8)×Bool×Bool×(List UInt8)×(List UInt8)×(List UInt8)×Int×Int×(List UInt8)×Bool×Bool)) :=
 if ((Dt .u8 x0.1 4)!=0)=true then
 if (Do (Dt .u8 (x0.1.fdiv 8) 3) (([97,98,99,100]:List UInt8).length:Int) ([97,98,99,100]:List UInt8).length)=true then
 if (Do 0 (1:Int) ((([97,98,99,100]:List UInt8).take (([97,98,99,100]:List UInt8).length:Int).toNat).drop (Dt .u8 (x0.1.fdiv 8) 3).toNat).length)=true then
 some (x0.1,x0.2,[],[],[],0,0,[],false,false,x1,((((([97,98,99,100]:List UInt8).take (([97,98,99,100]:List UInt8).length:Int).toNat).drop (Dt .u8 (x0.1.fdiv 8) 3).toNat).take (1:Int).toNat).drop (0:Int).toNat),[],(wr .i64 (10 * (wr .i64 (x0.2.tmod 4)))),(wr .i64 (x0.1.tmod 3)),[],((Dt .u8 x0.1 64)!=0),((Dt .u8 x0.2 128)!=0))
 else none
 else none
 else
 some (x0.1,x0.2,[],[],[],0,0,[],false,false,x1,[],[],(wr .i64 (10 * (wr .i64 (x0.2.tmod 4)))),(wr .i64 (x0.1.tmod 3)),[],((Dt .u8 x0.1 64)!=0),((Dt .u8 x0.2 128)!=0))
def Ff (r22:Int×Int×(List UInt8)×(List UInt8)×(List UInt8)×Int×Int×(List UInt8)×Bool×Bool×(List UInt8)×(List UInt8)×(List UInt8)×Int×Int×(List UInt8)×Bool×Bool):Option ((Int×Int×(List UInt8)×(List UInt8)×(List UInt8)×Int×Int×(List UInt8)×Bool×Bool×(List UInt8)×(List UInt8)×(List UInt8)×Int×Int×(List UInt8)×Bool×Bool)) :=
 if ((Dt .u8 r22.2.1 4)!=0)=true then
 if (Do (Dt .u8 (r22.2.1.fdiv 8) 3) (([97,98,99,100]:List UInt8).length:Int) ([97,98,99,100]:List UInt8).length)=true then
 if (Do 0 (1:Int) ((([97,98,99,100]:List UInt8).take (([97,98,99,100]:List UInt8).length:Int).toNat).drop (Dt .u8 (r22.2.1.fdiv 8) 3).toNat).length)=true then
 some (r22.1,r22.2.1,r22.2.2.1,r22.2.2.2.1,r22.2.2.2.2.1,r22.2.2.2.2.2.1,r22.2.2.2.2.2.2.1,r22.2.2.2.2.2.2.2.1,r22.2.2.2.2.2.2.2.2.1,r22.2.2.2.2.2.2.2.2.2.1,r22.2.2.2.2.2.2.2.2.2.2.1,r22.2.2.2.2.2.2.2.2.2.2.2.1,((((([97,98,99,100]:List UInt8).take (([97,98,99,100]:List UInt8).length:Int).toNat).drop (Dt .u8 (r22.2.1.fdiv 8) 3).toNat).take (1:Int).toNat).drop (0:Int).toNat),r22.2.2.2.2.2.2.2.2.2.2.2.2.2.1,r22.2.2.2.2.2.2.2.2.2.2.2.2.2.2.1,r22.2.2.2.2.2.2.2.2.2.2.2.2.2.2.2.1,r22.2.2.2.2.2.2.2.2.2.2.2.2.2.2.2.2.1,r22.2.2.2.2.2.2.2.2.2.2.2.2.2.2.2.2.2)
 else none
 else none
 else
 some (r22.1,r22.2.1,r22.2.2.1,r22.2.2.2.1,r22.2.2.2.2.1,r22.2.2.2.2.2.1,r22.2.2.2.2.2.2.1,r22.2.2.2.2.2.2.2.1,r22.2.2.2.2.2.2.2.2.1,r22.2.2.2.2.2.2.2.2.2.1,r22.2.2.2.2.2.2.2.2.2.2.1,r22.2.2.2.2.2.2.2.2.2.2.2.1,r22.2.2.2.2.2.2.2.2.2.2.2.2.1,r22.2.2.2.2.2.2.2.2.2.2.2.2.2.1,r22.2.2.2.2.2.2.2.2.2.2.2.2.2.2.1,r22.2.2.2.2.2.2.2.2.2.2.2.2.2.2.2.1,r22.2.2.2.2.2.2.2.2.2.2.2.2.2.2.2.2.1,r22.2.2.2.2.2.2.2.2.2.2.2.2.2.2.2.2.2)
def Fg (r44:Int×Int×(List UInt8)×(List UInt8)×(List UInt8)×Int×Int×(List UInt8)×Bool×Bool×(List UInt8)×(List UInt8)×(List UInt8)×Int×Int×(List UInt8)×Bool×Bool):Option ((Int×Int×(List UInt8)×(List UInt8)×(List UInt8)×Int×Int×(List UInt8)×Bool×Bool×(List UInt8)×(List UInt8)×(List UInt8)×Int×Int×(List UInt8)×Bool×Bool×(List (List UInt8)))) :=
 if ((Dt .u8 r44.2.1 64)!=0)=true then
 if (Do (Dt .u8 (r44.1.fdiv 16) 3) (([97,98,99,100]:List UInt8).length:Int) ([97,98,99,100]:List UInt8).length)=true then
 if (Do 0 (1:Int) ((([97,98,99,100]:List UInt8).take (([97,98,99,100]:List UInt8).length:Int).toNat).drop (Dt .u8 (r44.1.fdiv 16) 3).toNat).length)=true then
 some (r44.1,r44.2.1,r44.2.2.1,r44.2.2.2.1,r44.2.2.2.2.1,r44.2.2.2.2.2.1,r44.2.2.2.2.2.2.1,r44.2.2.2.2.2.2.2.1,r44.2.2.2.2.2.2.2.2.1,r44.2.2.2.2.2.2.2.2.2.1,r44.2.2.2.2.2.2.2.2.2.2.1,r44.2.2.2.2.2.2.2.2.2.2.2.1,r44.2.2.2.2.2.2.2.2.2.2.2.2.1,r44.2.2.2.2.2.2.2.2.2.2.2.2.2.1,r44.2.2.2.2.2.2.2.2.2.2.2.2.2.2.1,r44.2.2.2.2.2.2.2.2.2.2.2.2.2.2.2.1,r44.2.2.2.2.2.2.2.2.2.2.2.2.2.2.2.2.1,r44.2.2.2.2.2.2.2.2.2.2.2.2.2.2.2.2.2,[((((([97,98,99,100]:List UInt8).take (([97,98,99,100]:List UInt8).length:Int).toNat).drop (Dt .u8 (r44.1.fdiv 16) 3).toNat).take (1:Int).toNat).drop (0:Int).toNat)])
 else none
 else none
 else
 some (r44.1,r44.2.1,r44.2.2.1,r44.2.2.2.1,r44.2.2.2.2.1,r44.2.2.2.2.2.1,r44.2.2.2.2.2.2.1,r44.2.2.2.2.2.2.2.1,r44.2.2.2.2.2.2.2.2.1,r44.2.2.2.2.2.2.2.2.2.1,r44.2.2.2.2.2.2.2.2.2.2.1,r44.2.2.2.2.2.2.2.2.2.2.2.1,r44.2.2.2.2.2.2.2.2.2.2.2.2.1,r44.2.2.2.2.2.2.2.2.2.2.2.2.2.1,r44.2.2.2.2.2.2.2.2.2.2.2.2.2.2.1,r44.2.2.2.2.2.2.2.2.2.2.2.2.2.2.2.1,r44.2.2.2.2.2.2.2.2.2.2.2.2.2.2.2.2.1,r44.2.2.2.2.2.2.2.2.2.2.2.2.2.2.2.2.2,[])
def Fh (r67:Int×Int×(List UInt8)×(List UInt8)×(List UInt8)×Int×Int×(List UInt8)×Bool×Bool×(List UInt8)×(List UInt8)×(List UInt8)×Int×Int×(List UInt8)×Bool×Bool×(List (List UInt8))):Option (((List UInt8)×(List UInt8)×(List UInt8)×Int×Int×(List UInt8)×Bool×Bool×(List UInt8)×(List UInt8)×(List UInt8)×Int×Int×(List UInt8)×Bool×Bool×(List (List UInt8)))) :=
 if ((Dt .u8 r67.1 128)!=0)=true then
 if (Do (Dt .u8 (r67.2.1.fdiv 16) 3) (([97,98,99,100]:List UInt8).length:Int) ([97,98,99,100]:List UInt8).length)=true then
 if (Do 0 (1:Int) ((([97,98,99,100]:List UInt8).take (([97,98,99,100]:List UInt8).length:Int).toNat).drop (Dt .u8 (r67.2.1.fdiv 16) 3).toNat).length)=true then
 some (r67.2.2.1,r67.2.2.2.1,r67.2.2.2.2.1,r67.2.2.2.2.2.1,r67.2.2.2.2.2.2.1,r67.2.2.2.2.2.2.2.1,r67.2.2.2.2.2.2.2.2.1,r67.2.2.2.2.2.2.2.2.2.1,r67.2.2.2.2.2.2.2.2.2.2.1,r67.2.2.2.2.2.2.2.2.2.2.2.1,r67.2.2.2.2.2.2.2.2.2.2.2.2.1,r67.2.2.2.2.2.2.2.2.2.2.2.2.2.1,r67.2.2.2.2.2.2.2.2.2.2.2.2.2.2.1,((((([97,98,99,100]:List UInt8).take (([97,98,99,100]:List UInt8).length:Int).toNat).drop (Dt .u8 (r67.2.1.fdiv 16) 3).toNat).take (1:Int).toNat).drop (0:Int).toNat),r67.2.2.2.2.2.2.2.2.2.2.2.2.2.2.2.2.1,r67.2.2.2.2.2.2.2.2.2.2.2.2.2.2.2.2.2.1,r67.2.2.2.2.2.2.2.2.2.2.2.2.2.2.2.2.2.2)
 else none
 else none
 else
 some (r67.2.2.1,r67.2.2.2.1,r67.2.2.2.2.1,r67.2.2.2.2.2.1,r67.2.2.2.2.2.2.1,r67.2.2.2.2.2.2.2.1,r67.2.2.2.2.2.2.2.2.1,r67.2.2.2.2.2.2.2.2.2.1,r67.2.2.2.2.2.2.2.2.2.2.1,r67.2.2.2.2.2.2.2.2.2.2.2.1,r67.2.2.2.2.2.2.2.2.2.2.2.2.1,r67.2.2.2.2.2.2.2.2.2.2.2.2.2.1,r67.2.2.2.2.2.2.2.2.2.2.2.2.2.2.1,r67.2.2.2.2.2.2.2.2.2.2.2.2.2.2.2.1,r67.2.2.2.2.2.2.2.2.2.2.2.2.2.2.2.2.1,r67.2.2.2.2.2.2.2.2.2.2.2.2.2.2.2.2.2.1,r67.2.2.2.2.2.2.2.2.2.2.2.2.2.2.2.2.2.2)
def Fv (x0:(Int×Int)) (x1:(List UInt8)):Option (A6) :=
 (Fe x0 x1).bind fun r22 =>
 (Ff r22).bind fun r44 =>
 (Fg r44).bind fun r67 =>
 (Fh r67).bind fun r88 =>
 some r88.2.2.2.2.2.2.2.2
def Ih:Cs (((Int×Int))×(List UInt8)×Unit):=(csC (NI (cdK .u8) (cdK .u8) (fun _=>rfl) (fun _=>rfl)) (csC cdS csN))
def Il (r:A6):AV:=AG.enc r
theorem MD (x0:(Int×Int)) (x1:(List UInt8)) (r:(Int×Int×(List UInt8)×(List UInt8)×(List UInt8)×Int×Int×(List UInt8)×Bool×Bool×(List UInt8)×(List UInt8)×(List UInt8)×Int×Int×(List UInt8)×Bool×Bool)) (h:Fe x0 x1=some r):Sem E0 ⟨none,false⟩ (pc Et [1,1,0,1]) ⟨Fr 71 [(2,.pt 0 0 0),(4,.pt 1 0 0),(5,.pt 2 0 0),(28,.v (.bool ((Dt .u8 x0.1 4)!=0)))],[some ⟨2,30,[.ag [.v (.int .u8 x0.1),.v (.int .u8 x0.2)]],false⟩,some ⟨9,42,[.ag [.st [],.st [],.st [],.v (.int .i64 0),.v (.int .i64 0),.st [],.v (.bool false),.v (.bool false),.e0]],false⟩,some ⟨9,42,[.ag [.st x1,.st [],.st [],.v (.int .i64 (wr .i64 (10 * (wr .i64 (x0.2.tmod 4))))),.v (.int .i64 (wr .i64 (x0.1.tmod 3))),.st [],.v (.bool ((Dt .u8 x0.1 64)!=0)),.v (.bool ((Dt .u8 x0.2 128)!=0)),.e0]],false⟩]⟩ (fun e s=>e = .normal/\Wk E0 s ⟨Fr 71 [(2,.pt 0 0 0),(4,.pt 1 0 0),(5,.pt 2 0 0)],[some ⟨2,30,[.ag [.v (.int .u8 r.1),.v (.int .u8 r.2.1)]],false⟩,some ⟨9,42,[.ag [.st r.2.2.1,.st r.2.2.2.1,.st r.2.2.2.2.1,.v (.int .i64 r.2.2.2.2.2.1),.v (.int .i64 r.2.2.2.2.2.2.1),.st r.2.2.2.2.2.2.2.1,.v (.bool r.2.2.2.2.2.2.2.2.1),.v (.bool r.2.2.2.2.2.2.2.2.2.1),.e0]],false⟩,some ⟨9,42,[.ag [.st r.2.2.2.2.2.2.2.2.2.2.1,.st r.2.2.2.2.2.2.2.2.2.2.2.1,.st r.2.2.2.2.2.2.2.2.2.2.2.2.1,.v (.int .i64 r.2.2.2.2.2.2.2.2.2.2.2.2.2.1),.v (.int .i64 r.2.2.2.2.2.2.2.2.2.2.2.2.2.2.1),.st r.2.2.2.2.2.2.2.2.2.2.2.2.2.2.2.1,.v (.bool r.2.2.2.2.2.2.2.2.2.2.2.2.2.2.2.2.1),.v (.bool r.2.2.2.2.2.2.2.2.2.2.2.2.2.2.2.2.2),.e0]],false⟩]⟩):=by
 unfold Fe at h;refine AO (b:=((Dt .u8 x0.1 4)!=0)) kr (fun hb1=>?_) (fun hb1=>?_)
 ·rw [if_pos hb1] at h
  by_cases hk2:(Do (Dt .u8 (x0.1.fdiv 8) 3) (([97,98,99,100]:List UInt8).length:Int) ([97,98,99,100]:List UInt8).length)=true
  case neg=>rw [if_neg hk2] at h; cases h
  rw [if_pos hk2] at h;by_cases hk3:(Do 0 (1:Int) ((([97,98,99,100]:List UInt8).take (([97,98,99,100]:List UInt8).length:Int).toNat).drop (Dt .u8 (x0.1.fdiv 8) 3).toNat).length)=true
  case neg=>rw [if_neg hk3] at h; cases h
  rw [if_pos hk3] at h
  let p1:Option Blk:=some ⟨9,42,[.ag [.st [],.st [],.st [],.v (.int .i64 0),.v (.int .i64 0),.st [],.v (.bool false),.v (.bool false),.e0]],false⟩
  let p2:Option Blk:=some ⟨2,30,[.ag [.v (.int .u8 x0.1),.v (.int .u8 x0.2)]],false⟩
  refine AI (s1:=⟨Fr 71 [(2,.pt 0 0 0),(4,.pt 1 0 0),(5,.pt 2 0 0)],[p2,p1,some ⟨9,42,[.ag [.st x1,.st ((((([97,98,99,100]:List UInt8).take (([97,98,99,100]:List UInt8).length:Int).toNat).drop (Dt .u8 (x0.1.fdiv 8) 3).toNat).take (1:Int).toNat).drop (0:Int).toNat),.st [],.v (.int .i64 (wr .i64 (10 * (wr .i64 (x0.2.tmod 4))))),.v (.int .i64 (wr .i64 (x0.1.tmod 3))),.st [],.v (.bool ((Dt .u8 x0.1 64)!=0)),.v (.bool ((Dt .u8 x0.2 128)!=0)),.e0]],false⟩]⟩) ?_ ?_
  ·refine AD (n:=71) AC 4 [(2,.pt 0 0 0),(4,.pt 1 0 0),(5,.pt 2 0 0),(32,.v (.int .u8 (Dt .u8 (x0.1.fdiv 8) 3)))] [p2,p1,some ⟨9,42,[.ag [.st x1,.st [],.st [],.v (.int .i64 (wr .i64 (10 * (wr .i64 (x0.2.tmod 4))))),.v (.int .i64 (wr .i64 (x0.1.tmod 3))),.st [],.v (.bool ((Dt .u8 x0.1 64)!=0)),.v (.bool ((Dt .u8 x0.2 128)!=0)),.e0]],false⟩] kr ?_
   refine AP AC 0 rfl (Dq (AB rfl) rfl (FO (a:= .st [97,98,99,100]) (l:=(some (.v (.int .u8 (Dt .u8 (x0.1.fdiv 8) 3))))) (u:=none) (m:=none) kr kr kr rfl (Fl (bs:=[97,98,99,100]) (lo:=(Dt .u8 (x0.1.fdiv 8) 3)) (hi:=(([97,98,99,100]:List UInt8).length:Int)) kr (HA (NO hk2)) rfl hk2))) ?_;refine AP AC 0 rfl (Dq (AB rfl) rfl (FO (a:= .st ((([97,98,99,100]:List UInt8).take (([97,98,99,100]:List UInt8).length:Int).toNat).drop (Dt .u8 (x0.1.fdiv 8) 3).toNat)) (l:=none) (u:=(some (.v (.int .i64 1)))) (m:=none) kr kr kr rfl (Fl (bs:=((([97,98,99,100]:List UInt8).take (([97,98,99,100]:List UInt8).length:Int).toNat).drop (Dt .u8 (x0.1.fdiv 8) 3).toNat)) (lo:=0) (hi:=(1:Int)) kr rfl (HA (Km hk3)) hk3))) ?_;exact AY AC
  have hq:=OI h; subst hq;exact ⟨rfl,(An [0,1,2] ⟨⟨_,rfl,Cm⟩,⟨_,rfl,Cm⟩,⟨_,rfl,Cm⟩,trivial⟩ ⟨lv,lv,lv,trivial⟩)⟩
 ·rw [CT hb1] at h
  refine AS ?_;have hq:=OI h; subst hq;exact ⟨rfl,(An [0,1,2] ⟨⟨_,rfl,Cm⟩,⟨_,rfl,Cm⟩,⟨_,rfl,Cm⟩,trivial⟩ ⟨lv,lv,lv,trivial⟩)⟩
theorem ME (r22:Int×Int×(List UInt8)×(List UInt8)×(List UInt8)×Int×Int×(List UInt8)×Bool×Bool×(List UInt8)×(List UInt8)×(List UInt8)×Int×Int×(List UInt8)×Bool×Bool) (r:(Int×Int×(List UInt8)×(List UInt8)×(List UInt8)×Int×Int×(List UInt8)×Bool×Bool×(List UInt8)×(List UInt8)×(List UInt8)×Int×Int×(List UInt8)×Bool×Bool)) (h:Ff r22=some r):Sem E0 ⟨none,false⟩ (pc Et [1,1,1,0,1]) ⟨Fr 71 [(2,.pt 0 0 0),(4,.pt 1 0 0),(5,.pt 2 0 0),(39,.v (.bool ((Dt .u8 r22.2.1 4)!=0)))],[some ⟨2,30,[.ag [.v (.int .u8 r22.1),.v (.int .u8 r22.2.1)]],false⟩,some ⟨9,42,[.ag [.st r22.2.2.1,.st r22.2.2.2.1,.st r22.2.2.2.2.1,.v (.int .i64 r22.2.2.2.2.2.1),.v (.int .i64 r22.2.2.2.2.2.2.1),.st r22.2.2.2.2.2.2.2.1,.v (.bool r22.2.2.2.2.2.2.2.2.1),.v (.bool r22.2.2.2.2.2.2.2.2.2.1),.e0]],false⟩,some ⟨9,42,[.ag [.st r22.2.2.2.2.2.2.2.2.2.2.1,.st r22.2.2.2.2.2.2.2.2.2.2.2.1,.st r22.2.2.2.2.2.2.2.2.2.2.2.2.1,.v (.int .i64 r22.2.2.2.2.2.2.2.2.2.2.2.2.2.1),.v (.int .i64 r22.2.2.2.2.2.2.2.2.2.2.2.2.2.2.1),.st r22.2.2.2.2.2.2.2.2.2.2.2.2.2.2.2.1,.v (.bool r22.2.2.2.2.2.2.2.2.2.2.2.2.2.2.2.2.1),.v (.bool r22.2.2.2.2.2.2.2.2.2.2.2.2.2.2.2.2.2),.e0]],false⟩]⟩ (fun e s=>e = .normal/\Wk E0 s ⟨Fr 71 [(2,.pt 0 0 0),(4,.pt 1 0 0),(5,.pt 2 0 0)],[some ⟨2,30,[.ag [.v (.int .u8 r.1),.v (.int .u8 r.2.1)]],false⟩,some ⟨9,42,[.ag [.st r.2.2.1,.st r.2.2.2.1,.st r.2.2.2.2.1,.v (.int .i64 r.2.2.2.2.2.1),.v (.int .i64 r.2.2.2.2.2.2.1),.st r.2.2.2.2.2.2.2.1,.v (.bool r.2.2.2.2.2.2.2.2.1),.v (.bool r.2.2.2.2.2.2.2.2.2.1),.e0]],false⟩,some ⟨9,42,[.ag [.st r.2.2.2.2.2.2.2.2.2.2.1,.st r.2.2.2.2.2.2.2.2.2.2.2.1,.st r.2.2.2.2.2.2.2.2.2.2.2.2.1,.v (.int .i64 r.2.2.2.2.2.2.2.2.2.2.2.2.2.1),.v (.int .i64 r.2.2.2.2.2.2.2.2.2.2.2.2.2.2.1),.st r.2.2.2.2.2.2.2.2.2.2.2.2.2.2.2.1,.v (.bool r.2.2.2.2.2.2.2.2.2.2.2.2.2.2.2.2.1),.v (.bool r.2.2.2.2.2.2.2.2.2.2.2.2.2.2.2.2.2),.e0]],false⟩]⟩):=by
 unfold Ff at h;refine AO (b:=((Dt .u8 r22.2.1 4)!=0)) kr (fun hb23=>?_) (fun hb23=>?_)
 ·rw [if_pos hb23] at h
  by_cases hk24:(Do (Dt .u8 (r22.2.1.fdiv 8) 3) (([97,98,99,100]:List UInt8).length:Int) ([97,98,99,100]:List UInt8).length)=true
  case neg=>rw [if_neg hk24] at h; cases h
  rw [if_pos hk24] at h;by_cases hk25:(Do 0 (1:Int) ((([97,98,99,100]:List UInt8).take (([97,98,99,100]:List UInt8).length:Int).toNat).drop (Dt .u8 (r22.2.1.fdiv 8) 3).toNat).length)=true
  case neg=>rw [if_neg hk25] at h; cases h
  rw [if_pos hk25] at h
  let p1:Option Blk:=some ⟨9,42,[.ag [.st r22.2.2.1,.st r22.2.2.2.1,.st r22.2.2.2.2.1,.v (.int .i64 r22.2.2.2.2.2.1),.v (.int .i64 r22.2.2.2.2.2.2.1),.st r22.2.2.2.2.2.2.2.1,.v (.bool r22.2.2.2.2.2.2.2.2.1),.v (.bool r22.2.2.2.2.2.2.2.2.2.1),.e0]],false⟩
  let p2:Option Blk:=some ⟨2,30,[.ag [.v (.int .u8 r22.1),.v (.int .u8 r22.2.1)]],false⟩
  refine AI (s1:=⟨Fr 71 [(2,.pt 0 0 0),(4,.pt 1 0 0),(5,.pt 2 0 0)],[p2,p1,some ⟨9,42,[.ag [.st r22.2.2.2.2.2.2.2.2.2.2.1,.st r22.2.2.2.2.2.2.2.2.2.2.2.1,.st ((((([97,98,99,100]:List UInt8).take (([97,98,99,100]:List UInt8).length:Int).toNat).drop (Dt .u8 (r22.2.1.fdiv 8) 3).toNat).take (1:Int).toNat).drop (0:Int).toNat),.v (.int .i64 r22.2.2.2.2.2.2.2.2.2.2.2.2.2.1),.v (.int .i64 r22.2.2.2.2.2.2.2.2.2.2.2.2.2.2.1),.st r22.2.2.2.2.2.2.2.2.2.2.2.2.2.2.2.1,.v (.bool r22.2.2.2.2.2.2.2.2.2.2.2.2.2.2.2.2.1),.v (.bool r22.2.2.2.2.2.2.2.2.2.2.2.2.2.2.2.2.2),.e0]],false⟩]⟩) ?_ ?_
  ·refine AD (n:=71) AC 4 [(2,.pt 0 0 0),(4,.pt 1 0 0),(5,.pt 2 0 0),(43,.v (.int .u8 (Dt .u8 (r22.2.1.fdiv 8) 3)))] [p2,p1,some ⟨9,42,[.ag [.st r22.2.2.2.2.2.2.2.2.2.2.1,.st r22.2.2.2.2.2.2.2.2.2.2.2.1,.st r22.2.2.2.2.2.2.2.2.2.2.2.2.1,.v (.int .i64 r22.2.2.2.2.2.2.2.2.2.2.2.2.2.1),.v (.int .i64 r22.2.2.2.2.2.2.2.2.2.2.2.2.2.2.1),.st r22.2.2.2.2.2.2.2.2.2.2.2.2.2.2.2.1,.v (.bool r22.2.2.2.2.2.2.2.2.2.2.2.2.2.2.2.2.1),.v (.bool r22.2.2.2.2.2.2.2.2.2.2.2.2.2.2.2.2.2),.e0]],false⟩] kr ?_
   refine AP AC 0 rfl (Dq (AB rfl) rfl (FO (a:= .st [97,98,99,100]) (l:=(some (.v (.int .u8 (Dt .u8 (r22.2.1.fdiv 8) 3))))) (u:=none) (m:=none) kr kr kr rfl (Fl (bs:=[97,98,99,100]) (lo:=(Dt .u8 (r22.2.1.fdiv 8) 3)) (hi:=(([97,98,99,100]:List UInt8).length:Int)) kr (HA (NO hk24)) rfl hk24))) ?_;refine AP AC 0 rfl (Dq (AB rfl) rfl (FO (a:= .st ((([97,98,99,100]:List UInt8).take (([97,98,99,100]:List UInt8).length:Int).toNat).drop (Dt .u8 (r22.2.1.fdiv 8) 3).toNat)) (l:=none) (u:=(some (.v (.int .i64 1)))) (m:=none) kr kr kr rfl (Fl (bs:=((([97,98,99,100]:List UInt8).take (([97,98,99,100]:List UInt8).length:Int).toNat).drop (Dt .u8 (r22.2.1.fdiv 8) 3).toNat)) (lo:=0) (hi:=(1:Int)) kr rfl (HA (Km hk25)) hk25))) ?_;exact AY AC
  have hq:=OI h; subst hq;exact ⟨rfl,(An [0,1,2] ⟨⟨_,rfl,Cm⟩,⟨_,rfl,Cm⟩,⟨_,rfl,Cm⟩,trivial⟩ ⟨lv,lv,lv,trivial⟩)⟩
 ·rw [CT hb23] at h
  refine AS ?_;have hq:=OI h; subst hq;exact ⟨rfl,(An [0,1,2] ⟨⟨_,rfl,Cm⟩,⟨_,rfl,Cm⟩,⟨_,rfl,Cm⟩,trivial⟩ ⟨lv,lv,lv,trivial⟩)⟩
theorem MF (r44:Int×Int×(List UInt8)×(List UInt8)×(List UInt8)×Int×Int×(List UInt8)×Bool×Bool×(List UInt8)×(List UInt8)×(List UInt8)×Int×Int×(List UInt8)×Bool×Bool) (r:(Int×Int×(List UInt8)×(List UInt8)×(List UInt8)×Int×Int×(List UInt8)×Bool×Bool×(List UInt8)×(List UInt8)×(List UInt8)×Int×Int×(List UInt8)×Bool×Bool×(List (List UInt8)))) (h:Fg r44=some r):Sem E0 ⟨none,false⟩ (pc Et [1,1,1,1,0,1]) ⟨Fr 71 [(2,.pt 0 0 0),(4,.pt 1 0 0),(5,.pt 2 0 0),(50,.v (.bool ((Dt .u8 r44.2.1 64)!=0)))],[some ⟨2,30,[.ag [.v (.int .u8 r44.1),.v (.int .u8 r44.2.1)]],false⟩,some ⟨9,42,[.ag [.st r44.2.2.1,.st r44.2.2.2.1,.st r44.2.2.2.2.1,.v (.int .i64 r44.2.2.2.2.2.1),.v (.int .i64 r44.2.2.2.2.2.2.1),.st r44.2.2.2.2.2.2.2.1,.v (.bool r44.2.2.2.2.2.2.2.2.1),.v (.bool r44.2.2.2.2.2.2.2.2.2.1),.e0]],false⟩,some ⟨9,42,[.ag [.st r44.2.2.2.2.2.2.2.2.2.2.1,.st r44.2.2.2.2.2.2.2.2.2.2.2.1,.st r44.2.2.2.2.2.2.2.2.2.2.2.2.1,.v (.int .i64 r44.2.2.2.2.2.2.2.2.2.2.2.2.2.1),.v (.int .i64 r44.2.2.2.2.2.2.2.2.2.2.2.2.2.2.1),.st r44.2.2.2.2.2.2.2.2.2.2.2.2.2.2.2.1,.v (.bool r44.2.2.2.2.2.2.2.2.2.2.2.2.2.2.2.2.1),.v (.bool r44.2.2.2.2.2.2.2.2.2.2.2.2.2.2.2.2.2),.e0]],false⟩]⟩ (fun e s=>e = .normal/\Wk E0 s ⟨Fr 71 [(2,.pt 0 0 0),(4,.pt 1 0 0),(5,.pt 2 0 0)],[some ⟨2,30,[.ag [.v (.int .u8 r.1),.v (.int .u8 r.2.1)]],false⟩,some ⟨9,42,[.ag [.st r.2.2.1,.st r.2.2.2.1,.st r.2.2.2.2.1,.v (.int .i64 r.2.2.2.2.2.1),.v (.int .i64 r.2.2.2.2.2.2.1),.st r.2.2.2.2.2.2.2.1,.v (.bool r.2.2.2.2.2.2.2.2.1),.v (.bool r.2.2.2.2.2.2.2.2.2.1),.e0]],false⟩,some ⟨9,42,[AG.enc r.2.2.2.2.2.2.2.2.2.2],false⟩]⟩):=by
 unfold Fg at h;refine AO (b:=((Dt .u8 r44.2.1 64)!=0)) kr (fun hb45=>?_) (fun hb45=>?_)
 ·rw [if_pos hb45] at h
  by_cases hk46:(Do (Dt .u8 (r44.1.fdiv 16) 3) (([97,98,99,100]:List UInt8).length:Int) ([97,98,99,100]:List UInt8).length)=true
  case neg=>rw [if_neg hk46] at h; cases h
  rw [if_pos hk46] at h;by_cases hk47:(Do 0 (1:Int) ((([97,98,99,100]:List UInt8).take (([97,98,99,100]:List UInt8).length:Int).toNat).drop (Dt .u8 (r44.1.fdiv 16) 3).toNat).length)=true
  case neg=>rw [if_neg hk47] at h; cases h
  rw [if_pos hk47] at h
  let p1:Option Blk:=some ⟨9,42,[.ag [.st r44.2.2.2.2.2.2.2.2.2.2.1,.st r44.2.2.2.2.2.2.2.2.2.2.2.1,.st r44.2.2.2.2.2.2.2.2.2.2.2.2.1,.v (.int .i64 r44.2.2.2.2.2.2.2.2.2.2.2.2.2.1),.v (.int .i64 r44.2.2.2.2.2.2.2.2.2.2.2.2.2.2.1),.st r44.2.2.2.2.2.2.2.2.2.2.2.2.2.2.2.1,.v (.bool r44.2.2.2.2.2.2.2.2.2.2.2.2.2.2.2.2.1),.v (.bool r44.2.2.2.2.2.2.2.2.2.2.2.2.2.2.2.2.2),.sl 1 ([((((([97,98,99,100]:List UInt8).take (([97,98,99,100]:List UInt8).length:Int).toNat).drop (Dt .u8 (r44.1.fdiv 16) 3).toNat).take (1:Int).toNat).drop (0:Int).toNat)].map cdS.enc)]],false⟩
  let p2:Option Blk:=some ⟨9,42,[.ag [.st r44.2.2.1,.st r44.2.2.2.1,.st r44.2.2.2.2.1,.v (.int .i64 r44.2.2.2.2.2.1),.v (.int .i64 r44.2.2.2.2.2.2.1),.st r44.2.2.2.2.2.2.2.1,.v (.bool r44.2.2.2.2.2.2.2.2.1),.v (.bool r44.2.2.2.2.2.2.2.2.2.1),.e0]],false⟩
  let p3:Option Blk:=some ⟨2,30,[.ag [.v (.int .u8 r44.1),.v (.int .u8 r44.2.1)]],false⟩
  let p4:Nat×AV:=(5,.pt 2 0 0)
  let p5:Nat×AV:=(4,.pt 1 0 0)
  let p6:Nat×AV:=(2,.pt 0 0 0)
  refine AI (s1:=⟨Fr 71 [p6,p5,p4],[p3,p2,p1]⟩) ?_ ?_
  ·let p7:Option Blk:=some ⟨9,42,[.ag [.st r44.2.2.2.2.2.2.2.2.2.2.1,.st r44.2.2.2.2.2.2.2.2.2.2.2.1,.st r44.2.2.2.2.2.2.2.2.2.2.2.2.1,.v (.int .i64 r44.2.2.2.2.2.2.2.2.2.2.2.2.2.1),.v (.int .i64 r44.2.2.2.2.2.2.2.2.2.2.2.2.2.2.1),.st r44.2.2.2.2.2.2.2.2.2.2.2.2.2.2.2.1,.v (.bool r44.2.2.2.2.2.2.2.2.2.2.2.2.2.2.2.2.1),.v (.bool r44.2.2.2.2.2.2.2.2.2.2.2.2.2.2.2.2.2),.e0]],false⟩
   refine AD (n:=71) AC 4 [p6,p5,p4,(54,.v (.int .u8 (Dt .u8 (r44.1.fdiv 16) 3)))] [p3,p2,p7] kr ?_;refine AP AC 0 rfl (Dq (AB rfl) rfl (FO (a:= .st [97,98,99,100]) (l:=(some (.v (.int .u8 (Dt .u8 (r44.1.fdiv 16) 3))))) (u:=none) (m:=none) kr kr kr rfl (Fl (bs:=[97,98,99,100]) (lo:=(Dt .u8 (r44.1.fdiv 16) 3)) (hi:=(([97,98,99,100]:List UInt8).length:Int)) kr (HA (NO hk46)) rfl hk46))) ?_;refine AP AC 0 rfl (Dq (AB rfl) rfl (FO (a:= .st ((([97,98,99,100]:List UInt8).take (([97,98,99,100]:List UInt8).length:Int).toNat).drop (Dt .u8 (r44.1.fdiv 16) 3).toNat)) (l:=none) (u:=(some (.v (.int .i64 1)))) (m:=none) kr kr kr rfl (Fl (bs:=((([97,98,99,100]:List UInt8).take (([97,98,99,100]:List UInt8).length:Int).toNat).drop (Dt .u8 (r44.1.fdiv 16) 3).toNat)) (lo:=0) (hi:=(1:Int)) kr rfl (HA (Km hk47)) hk47))) ?_;refine AD (n:=71) AC 2 [p6,p5,p4,(57,hd 3 ([((((([97,98,99,100]:List UInt8).take (([97,98,99,100]:List UInt8).length:Int).toNat).drop (Dt .u8 (r44.1.fdiv 16) 3).toNat).take (1:Int).toNat).drop (0:Int).toNat)].map cdS.enc)),(58,.pt 2 0 8)] [p3,p2,p7,mk 1 9 ([((((([97,98,99,100]:List UInt8).take (([97,98,99,100]:List UInt8).length:Int).toNat).drop (Dt .u8 (r44.1.fdiv 16) 3).toNat).take (1:Int).toNat).drop (0:Int).toNat)].map cdS.enc)] kr ?_;refine O5 (s1:=⟨Fr 71 [p6,p5,p4,(57,.sl 1 ([((((([97,98,99,100]:List UInt8).take (([97,98,99,100]:List UInt8).length:Int).toNat).drop (Dt .u8 (r44.1.fdiv 16) 3).toNat).take (1:Int).toNat).drop (0:Int).toNat)].map cdS.enc)),(58,.pt 2 0 8)],[p3,p2,p7,none]⟩) (HM 3 (.inl kr) ⟨.inr (.inr ⟨_,_,_,_,rfl,rfl,⟨.inl rfl,trivial⟩⟩),.inr (.inr ⟨_,_,_,_,rfl,rfl,⟨.inl rfl,trivial⟩⟩),.inr (.inr ⟨_,_,_,_,rfl,rfl,⟨.inl rfl,trivial⟩⟩),.inl rfl,trivial⟩ ⟨⟨.pt 0 0 0,kr,.inl rfl⟩,⟨.pt 1 0 0,kr,.inl rfl⟩,⟨.pt 2 0 0,kr,.inl rfl⟩,⟨hd 3 ([((((([97,98,99,100]:List UInt8).take (([97,98,99,100]:List UInt8).length:Int).toNat).drop (Dt .u8 (r44.1.fdiv 16) 3).toNat).take (1:Int).toNat).drop (0:Int).toNat)].map cdS.enc),kr,PI (t:=9) kr KA⟩,⟨.pt 2 0 8,kr,.inl rfl⟩,trivial⟩) ?_
   refine AD (n:=71) AC 1 [p6,p5,p4] [p3,p2,p1,none] kr ?_;exact AJ rfl (An [0,1,2] ⟨⟨_,rfl,Cm⟩,⟨_,rfl,Cm⟩,⟨_,rfl,Cm⟩,trivial⟩ ⟨lv,lv,lv,trivial⟩)
  have hq:=OI h; subst hq;exact ⟨rfl,(An [0,1,2] ⟨⟨_,rfl,Cm⟩,⟨_,rfl,Cm⟩,⟨_,rfl,Cm⟩,trivial⟩ ⟨lv,lv,lv,trivial⟩)⟩
 ·rw [CT hb45] at h
  refine AS ?_;have hq:=OI h; subst hq
  let p8:Option Blk:=some ⟨9,42,[.ag [.st r44.2.2.1,.st r44.2.2.2.1,.st r44.2.2.2.2.1,.v (.int .i64 r44.2.2.2.2.2.1),.v (.int .i64 r44.2.2.2.2.2.2.1),.st r44.2.2.2.2.2.2.2.1,.v (.bool r44.2.2.2.2.2.2.2.2.1),.v (.bool r44.2.2.2.2.2.2.2.2.2.1),.e0]],false⟩
  let p9:Option Blk:=some ⟨2,30,[.ag [.v (.int .u8 r44.1),.v (.int .u8 r44.2.1)]],false⟩
  let p10:Option Blk:=some ⟨9,42,[.ag [.st r44.2.2.2.2.2.2.2.2.2.2.1,.st r44.2.2.2.2.2.2.2.2.2.2.2.1,.st r44.2.2.2.2.2.2.2.2.2.2.2.2.1,.v (.int .i64 r44.2.2.2.2.2.2.2.2.2.2.2.2.2.1),.v (.int .i64 r44.2.2.2.2.2.2.2.2.2.2.2.2.2.2.1),.st r44.2.2.2.2.2.2.2.2.2.2.2.2.2.2.2.1,.v (.bool r44.2.2.2.2.2.2.2.2.2.2.2.2.2.2.2.2.1),.v (.bool r44.2.2.2.2.2.2.2.2.2.2.2.2.2.2.2.2.2),.e0]],false⟩
  exact ⟨rfl,(Wk.trans (s1:=⟨Fr 71 [(2,.pt 0 0 0),(4,.pt 1 0 0),(5,.pt 2 0 0)],[p9,p8,p10]⟩) AL (Wk.trans (s1:=⟨Fr 71 [(2,.pt 0 0 0),(4,.pt 1 0 0),(5,.pt 2 0 0)],[p9,p8,p10,none]⟩) Wk.none (Wk.trans (s1:=⟨Fr 71 [(2,.pt 0 0 0),(4,.pt 1 0 0),(5,.pt 2 0 0)],[p9,p8,some ⟨9,42,[.ag [.st r44.2.2.2.2.2.2.2.2.2.2.1,.st r44.2.2.2.2.2.2.2.2.2.2.2.1,.st r44.2.2.2.2.2.2.2.2.2.2.2.2.1,.v (.int .i64 r44.2.2.2.2.2.2.2.2.2.2.2.2.2.1),.v (.int .i64 r44.2.2.2.2.2.2.2.2.2.2.2.2.2.2.1),.st r44.2.2.2.2.2.2.2.2.2.2.2.2.2.2.2.1,.v (.bool r44.2.2.2.2.2.2.2.2.2.2.2.2.2.2.2.2.1),.v (.bool r44.2.2.2.2.2.2.2.2.2.2.2.2.2.2.2.2.2),.sl 1 ([].map cdS.enc)]],false⟩,none]⟩) (M0 3 (.inr kr) ⟨.inr (.inl rfl),.inr (.inl rfl),.inr (.inr ⟨_,_,_,_,rfl,rfl,⟨(.inr ⟨_,_,rfl,rfl,⟨.inl rfl,.inl rfl,.inl rfl,.inl rfl,.inl rfl,.inl rfl,.inl rfl,.inl rfl,QC,trivial⟩⟩),trivial⟩⟩),.inl rfl,trivial⟩ ⟨⟨.pt 0 0 0,kr,(.inl (.inl rfl))⟩,⟨.pt 1 0 0,kr,(.inl (.inl rfl))⟩,⟨.pt 2 0 0,kr,(.inl (.inl rfl))⟩,trivial⟩) (An [0,1,2] ⟨⟨_,rfl,Cm⟩,⟨_,rfl,Cm⟩,⟨_,rfl,Cm⟩,trivial⟩ ⟨lv,lv,lv,trivial⟩))))⟩
theorem MG (r67:Int×Int×(List UInt8)×(List UInt8)×(List UInt8)×Int×Int×(List UInt8)×Bool×Bool×(List UInt8)×(List UInt8)×(List UInt8)×Int×Int×(List UInt8)×Bool×Bool×(List (List UInt8))) (r:((List UInt8)×(List UInt8)×(List UInt8)×Int×Int×(List UInt8)×Bool×Bool×(List UInt8)×(List UInt8)×(List UInt8)×Int×Int×(List UInt8)×Bool×Bool×(List (List UInt8)))) (h:Fh r67=some r):Sem E0 ⟨none,false⟩ (pc Et [1,1,1,1,1,0,1]) ⟨Fr 71 [(2,.pt 0 0 0),(4,.pt 1 0 0),(5,.pt 2 0 0),(62,.v (.bool ((Dt .u8 r67.1 128)!=0)))],[some ⟨2,30,[.ag [.v (.int .u8 r67.1),.v (.int .u8 r67.2.1)]],false⟩,some ⟨9,42,[.ag [.st r67.2.2.1,.st r67.2.2.2.1,.st r67.2.2.2.2.1,.v (.int .i64 r67.2.2.2.2.2.1),.v (.int .i64 r67.2.2.2.2.2.2.1),.st r67.2.2.2.2.2.2.2.1,.v (.bool r67.2.2.2.2.2.2.2.2.1),.v (.bool r67.2.2.2.2.2.2.2.2.2.1),.e0]],false⟩,some ⟨9,42,[AG.enc r67.2.2.2.2.2.2.2.2.2.2],false⟩]⟩ (fun e s=>e = .normal/\Wk E0 s ⟨Fr 71 [(4,.pt 0 0 0),(5,.pt 1 0 0)],[some ⟨9,42,[.ag [.st r.1,.st r.2.1,.st r.2.2.1,.v (.int .i64 r.2.2.2.1),.v (.int .i64 r.2.2.2.2.1),.st r.2.2.2.2.2.1,.v (.bool r.2.2.2.2.2.2.1),.v (.bool r.2.2.2.2.2.2.2.1),.e0]],false⟩,some ⟨9,42,[AG.enc r.2.2.2.2.2.2.2.2],false⟩]⟩):=by
 unfold Fh at h;refine AO (b:=((Dt .u8 r67.1 128)!=0)) kr (fun hb68=>?_) (fun hb68=>?_)
 ·rw [if_pos hb68] at h
  by_cases hk69:(Do (Dt .u8 (r67.2.1.fdiv 16) 3) (([97,98,99,100]:List UInt8).length:Int) ([97,98,99,100]:List UInt8).length)=true
  case neg=>rw [if_neg hk69] at h; cases h
  rw [if_pos hk69] at h;by_cases hk70:(Do 0 (1:Int) ((([97,98,99,100]:List UInt8).take (([97,98,99,100]:List UInt8).length:Int).toNat).drop (Dt .u8 (r67.2.1.fdiv 16) 3).toNat).length)=true
  case neg=>rw [if_neg hk70] at h; cases h
  rw [if_pos hk70] at h
  let p1:Option Blk:=some ⟨9,42,[.ag [.st r67.2.2.2.2.2.2.2.2.2.2.1,.st r67.2.2.2.2.2.2.2.2.2.2.2.1,.st r67.2.2.2.2.2.2.2.2.2.2.2.2.1,.v (.int .i64 r67.2.2.2.2.2.2.2.2.2.2.2.2.2.1),.v (.int .i64 r67.2.2.2.2.2.2.2.2.2.2.2.2.2.2.1),.st ((((([97,98,99,100]:List UInt8).take (([97,98,99,100]:List UInt8).length:Int).toNat).drop (Dt .u8 (r67.2.1.fdiv 16) 3).toNat).take (1:Int).toNat).drop (0:Int).toNat),.v (.bool r67.2.2.2.2.2.2.2.2.2.2.2.2.2.2.2.2.1),.v (.bool r67.2.2.2.2.2.2.2.2.2.2.2.2.2.2.2.2.2.1),.sl 1 (r67.2.2.2.2.2.2.2.2.2.2.2.2.2.2.2.2.2.2.map cdS.enc)]],false⟩
  let p2:Option Blk:=some ⟨9,42,[.ag [.st r67.2.2.1,.st r67.2.2.2.1,.st r67.2.2.2.2.1,.v (.int .i64 r67.2.2.2.2.2.1),.v (.int .i64 r67.2.2.2.2.2.2.1),.st r67.2.2.2.2.2.2.2.1,.v (.bool r67.2.2.2.2.2.2.2.2.1),.v (.bool r67.2.2.2.2.2.2.2.2.2.1),.e0]],false⟩
  refine AI (s1:=⟨Fr 71 [(4,.pt 0 0 0),(5,.pt 1 0 0)],[p2,p1]⟩) ?_ ?_
  ·let p3:Option Blk:=some ⟨2,30,[.ag [.v (.int .u8 r67.1),.v (.int .u8 r67.2.1)]],false⟩
   refine AD (n:=71) AC 4 [(4,.pt 1 0 0),(5,.pt 2 0 0),(66,.v (.int .u8 (Dt .u8 (r67.2.1.fdiv 16) 3)))] [p3,p2,some ⟨9,42,[AG.enc r67.2.2.2.2.2.2.2.2.2.2],false⟩] kr ?_;refine AP AC 0 rfl (Dq (AB rfl) rfl (FO (a:= .st [97,98,99,100]) (l:=(some (.v (.int .u8 (Dt .u8 (r67.2.1.fdiv 16) 3))))) (u:=none) (m:=none) kr kr kr rfl (Fl (bs:=[97,98,99,100]) (lo:=(Dt .u8 (r67.2.1.fdiv 16) 3)) (hi:=(([97,98,99,100]:List UInt8).length:Int)) kr (HA (NO hk69)) rfl hk69))) ?_;refine AP AC 0 rfl (Dq (AB rfl) rfl (FO (a:= .st ((([97,98,99,100]:List UInt8).take (([97,98,99,100]:List UInt8).length:Int).toNat).drop (Dt .u8 (r67.2.1.fdiv 16) 3).toNat)) (l:=none) (u:=(some (.v (.int .i64 1)))) (m:=none) kr kr kr rfl (Fl (bs:=((([97,98,99,100]:List UInt8).take (([97,98,99,100]:List UInt8).length:Int).toNat).drop (Dt .u8 (r67.2.1.fdiv 16) 3).toNat)) (lo:=0) (hi:=(1:Int)) kr rfl (HA (Km hk70)) hk70))) ?_;refine AD (n:=71) AC 2 [(4,.pt 1 0 0),(5,.pt 2 0 0)] [p3,p2,p1] kr ?_;exact AJ rfl (An [1,2] ⟨⟨_,rfl,Cm⟩,⟨_,rfl,Cm⟩,trivial⟩ ⟨lv,lv,trivial⟩)
  have hq:=OI h; subst hq;exact ⟨rfl,(An [0,1] ⟨⟨_,rfl,Cm⟩,⟨_,rfl,Cm⟩,trivial⟩ ⟨lv,lv,trivial⟩)⟩
 ·rw [CT hb68] at h
  refine AS ?_;have hq:=OI h; subst hq;exact ⟨rfl,(An [1,2] ⟨⟨_,rfl,Cm⟩,⟨_,rfl,Cm⟩,trivial⟩ ⟨lv,lv,trivial⟩)⟩
theorem Nc (x0:(Int×Int)) (x1:(List UInt8)) (r:A6) (h:Fv x0 x1=some r):Sem E0 ⟨none,false⟩ Et ⟨Fr 71 (BG 0 (Ih.enc (x0,x1,()))),[]⟩ fun e s'=>(e = .normal\/e = .ret)/\∃ xs,Ef E0.P s'.fr s'.hp Tryz.f74.results.toList=some xs/\Eh xs=Il r:=by
 unfold Fv at h;refine A7 (Bt (s1:=⟨Fr 71 [(0,.ag [.v (.int .u8 x0.1),.v (.int .u8 x0.2)]),(1,.st x1)],[]⟩) AL ?_)
 let p1:Option Blk:=some ⟨9,42,[.ag [.st [],.st [],.st [],.v (.int .i64 0),.v (.int .i64 0),.st [],.v (.bool false),.v (.bool false),.e0]],false⟩
 let p2:Option Blk:=some ⟨2,30,[.ag [.v (.int .u8 x0.1),.v (.int .u8 x0.2)]],false⟩
 let p3:Nat×AV:=(4,.pt 1 0 0)
 let p4:Nat×AV:=(2,.pt 0 0 0)
 refine AK AC [(1,.st x1),p4,p3] [p2,p1] ?_
 let p5:Option Blk:=some ⟨9,42,[.ag [.st x1,.st [],.st [],.v (.int .i64 (wr .i64 (10 * (wr .i64 (x0.2.tmod 4))))),.v (.int .i64 (wr .i64 (x0.1.tmod 3))),.st [],.v (.bool ((Dt .u8 x0.1 64)!=0)),.v (.bool ((Dt .u8 x0.2 128)!=0)),.e0]],false⟩
 let p6:Nat×AV:=(5,.pt 2 0 0)
 refine AK AC [p4,p3,p6] [p2,p1,p5] ?_;refine AH ?_;refine AK AC [p4,p3,p6,(28,.v (.bool ((Dt .u8 x0.1 4)!=0)))] [p2,p1,p5] ?_;obtain ⟨r22,hr22,h⟩:=OB h;refine Cy (MD x0 x1 _ hr22) ?_;refine AH ?_;refine AK AC [p4,p3,p6,(39,.v (.bool ((Dt .u8 r22.2.1 4)!=0)))] [some ⟨2,30,[.ag [.v (.int .u8 r22.1),.v (.int .u8 r22.2.1)]],false⟩,some ⟨9,42,[.ag [.st r22.2.2.1,.st r22.2.2.2.1,.st r22.2.2.2.2.1,.v (.int .i64 r22.2.2.2.2.2.1),.v (.int .i64 r22.2.2.2.2.2.2.1),.st r22.2.2.2.2.2.2.2.1,.v (.bool r22.2.2.2.2.2.2.2.2.1),.v (.bool r22.2.2.2.2.2.2.2.2.2.1),.e0]],false⟩,some ⟨9,42,[.ag [.st r22.2.2.2.2.2.2.2.2.2.2.1,.st r22.2.2.2.2.2.2.2.2.2.2.2.1,.st r22.2.2.2.2.2.2.2.2.2.2.2.2.1,.v (.int .i64 r22.2.2.2.2.2.2.2.2.2.2.2.2.2.1),.v (.int .i64 r22.2.2.2.2.2.2.2.2.2.2.2.2.2.2.1),.st r22.2.2.2.2.2.2.2.2.2.2.2.2.2.2.2.1,.v (.bool r22.2.2.2.2.2.2.2.2.2.2.2.2.2.2.2.2.1),.v (.bool r22.2.2.2.2.2.2.2.2.2.2.2.2.2.2.2.2.2),.e0]],false⟩] ?_;obtain ⟨r44,hr44,h⟩:=OB h;refine Cy (ME r22 _ hr44) ?_;refine AH ?_;refine AK AC [p4,p3,p6,(50,.v (.bool ((Dt .u8 r44.2.1 64)!=0)))] [some ⟨2,30,[.ag [.v (.int .u8 r44.1),.v (.int .u8 r44.2.1)]],false⟩,some ⟨9,42,[.ag [.st r44.2.2.1,.st r44.2.2.2.1,.st r44.2.2.2.2.1,.v (.int .i64 r44.2.2.2.2.2.1),.v (.int .i64 r44.2.2.2.2.2.2.1),.st r44.2.2.2.2.2.2.2.1,.v (.bool r44.2.2.2.2.2.2.2.2.1),.v (.bool r44.2.2.2.2.2.2.2.2.2.1),.e0]],false⟩,some ⟨9,42,[.ag [.st r44.2.2.2.2.2.2.2.2.2.2.1,.st r44.2.2.2.2.2.2.2.2.2.2.2.1,.st r44.2.2.2.2.2.2.2.2.2.2.2.2.1,.v (.int .i64 r44.2.2.2.2.2.2.2.2.2.2.2.2.2.1),.v (.int .i64 r44.2.2.2.2.2.2.2.2.2.2.2.2.2.2.1),.st r44.2.2.2.2.2.2.2.2.2.2.2.2.2.2.2.1,.v (.bool r44.2.2.2.2.2.2.2.2.2.2.2.2.2.2.2.2.1),.v (.bool r44.2.2.2.2.2.2.2.2.2.2.2.2.2.2.2.2.2),.e0]],false⟩] ?_;obtain ⟨r67,hr67,h⟩:=OB h;refine Cy (MF r44 _ hr67) ?_;refine AH ?_;refine AK AC [p4,p3,p6,(62,.v (.bool ((Dt .u8 r67.1 128)!=0)))] [some ⟨2,30,[.ag [.v (.int .u8 r67.1),.v (.int .u8 r67.2.1)]],false⟩,some ⟨9,42,[.ag [.st r67.2.2.1,.st r67.2.2.2.1,.st r67.2.2.2.2.1,.v (.int .i64 r67.2.2.2.2.2.1),.v (.int .i64 r67.2.2.2.2.2.2.1),.st r67.2.2.2.2.2.2.2.1,.v (.bool r67.2.2.2.2.2.2.2.2.1),.v (.bool r67.2.2.2.2.2.2.2.2.2.1),.e0]],false⟩,some ⟨9,42,[AG.enc r67.2.2.2.2.2.2.2.2.2.2],false⟩] ?_
 obtain ⟨r88,hr88,h⟩:=OB h;refine Cy (MG r67 _ hr88) ?_;refine AH ?_
 let p7:Option Blk:=some ⟨9,42,[AG.enc r88.2.2.2.2.2.2.2.2],false⟩
 refine AI (s1:=⟨Fr 71 [(4,.pt 0 0 0)],[p7]⟩) ?_ ?_
 ·refine AD (n:=71) AC 2 [(4,.pt 0 0 0)] [p7,p7] kr ?_
  exact AJ rfl (An [0] ⟨⟨_,rfl,Cm⟩,trivial⟩ ⟨lv,trivial⟩)
 refine AQ ?_;have hq:=OI h; subst hq;exact ⟨⟨Fr 71 [(4,.pt 0 0 0)],[p7]⟩,(An [0] ⟨⟨_,rfl,Cm⟩,trivial⟩ ⟨lv,trivial⟩),.inr rfl,[AG.enc r88.2.2.2.2.2.2.2.2],kr,kr⟩
def Ph:List AV->Option AV:=Dx Ih (fun a=>Fv a.1 a.2.1) Il
theorem Pq:XOk 74 Ph:=by
 refine AU Tryz.func74 (c:=Et) ?h2 ⟨Tryz.call74⟩ Ih (fun a=>Fv a.1 a.2.1) Il (fun a=>(by show 2<=71; decide)) ?h3 ?h4
 case h2=>kernel_rfl
 case h3=>intro b; kernel_rfl
 case h4=>exact fun a b h=>Nc a.1 a.2.1 b h
/- trestle/trestlelaw03.Guests -/
noncomputable def H4:Code:=BS Tryz.f20
def DL (x0:(List (Int×Int))) (x1:Int):Nat->(List A6)->Int->Option (((List A6)))
 | 0,_,_=>none
 | f + 1,c2,c3 =>
  if (decide (c3 < (((x0.take (mnI (x0.length:Int) x1).toNat).drop (0:Int).toNat).length:Int)))=true then
  (idx ((x0.take (mnI (x0.length:Int) x1).toNat).drop (0:Int).toNat) c3).bind fun v5 =>
  if (okB ([103]++(by8 [(wr .u8 (wr .i64 (97 + (wr .i64 (c3.tdiv 26))))),(wr .u8 (wr .i64 (97 + (c3.tmod 26))))])))=true then
  (Fv (v5.1,v5.2) ([103]++(by8 [(wr .u8 (wr .i64 (97 + (wr .i64 (c3.tdiv 26))))),(wr .u8 (wr .i64 (97 + (c3.tmod 26))))]))).bind fun v7 =>
  if (FZ 112 (c2.length + 1))=true then
  DL x0 x1 f (c2++[v7]) (wr .i64 (c3 + 1))
  else none
  else none
  else
  some c2
def FN (x0:(List (Int×Int))) (x1:Int):Option ((List A6)) :=
 if (Do 0 (mnI (x0.length:Int) x1) x0.length)=true then
 (DL x0 x1 100000 [] 0).bind fun r10 =>
 some r10
 else none
def IC:Cs (((List (Int×Int)))×Int×Unit):=(csC (cdL 2 (NI (cdK .u8) (cdK .u8) (fun _=>rfl) (fun _=>rfl))) (csC cdI csN))
def IJ (r:(List A6)):AV:=(cdL 9 AG).enc r
theorem LZ (x0:(List (Int×Int))) (x1:Int):∀ (f:Nat) (c2:(List A6)) (c3:Int) (r:((List A6))),DL x0 x1 f c2 c3=some r->SemN E0 ⟨none,false⟩ (pc H4 [1,1,0,1,0,0]) f ⟨Fr 38 [(5,hd 0 (c2.map AG.enc)),(13,.sl 2 (((x0.take (mnI (x0.length:Int) x1).toNat).drop (0:Int).toNat).map (NI (cdK .u8) (cdK .u8) (fun _=>rfl) (fun _=>rfl)).enc)),(14,.v (.int .i64 (((x0.take (mnI (x0.length:Int) x1).toNat).drop (0:Int).toNat).length:Int))),(15,.v (.int .i64 c3))],[mk 9 42 (c2.map AG.enc)]⟩ (fun e s=>e=(.exit 0)/\Wk E0 s ⟨Fr 38 [(5,hd 0 (r.map AG.enc))],[mk 9 42 (r.map AG.enc)]⟩):=by
 intro f;induction f with
 | zero=>intro c2 c3 r h; cases h
 | succ f ih0 =>
  intro c2 c3 r h
  have ih:=fun (c2:(List A6)) (c3:Int)=>ih0 c2 c3 r
  unfold DL at h;refine Ch ?_
  let p1:Option Blk:=mk 9 42 (c2.map AG.enc)
  let p2:Nat×AV:=(15,.v (.int .i64 c3))
  let p3:Nat×AV:=(14,.v (.int .i64 (((x0.take (mnI (x0.length:Int) x1).toNat).drop (0:Int).toNat).length:Int)))
  let p4:Nat×AV:=(13,.sl 2 (((x0.take (mnI (x0.length:Int) x1).toNat).drop (0:Int).toNat).map (NI (cdK .u8) (cdK .u8) (fun _=>rfl) (fun _=>rfl)).enc))
  let p5:Nat×AV:=(5,hd 0 (c2.map AG.enc))
  refine AK AC [p5,p4,p3,p2,(16,.v (.bool (decide (c3 < (((x0.take (mnI (x0.length:Int) x1).toNat).drop (0:Int).toNat).length:Int)))))] [p1] ?_;refine AH ?_;refine AO (b:=(decide (c3 < (((x0.take (mnI (x0.length:Int) x1).toNat).drop (0:Int).toNat).length:Int)))) kr (fun hb4=>?_) (fun hb4=>?_)
  ·rw [if_pos hb4] at h
   refine AS ?_;refine AH ?_;refine Ay ?_;refine AH ?_;obtain ⟨v5,hv5,h⟩:=OB h
   let p6:Option Blk:=some ⟨2,30,[.ag [.v (.int .u8 v5.1),.v (.int .u8 v5.2)]],false⟩
   refine AI (s1:=⟨Fr 38 [p5,(6,.v (.int .i64 c3)),(7,.pt 1 0 0),p4,p3,p2],[p1,p6]⟩) ?_ ?_
   ·refine AD (n:=38) AC 1 [p5,p4,p3,p2,(17,.v (.int .i64 c3))] [p1] kr ?_
    refine AP AC 0 rfl (Dq (AB rfl) rfl (Ac (a:= .sl 2 (((x0.take (mnI (x0.length:Int) x1).toNat).drop (0:Int).toNat).map (NI (cdK .u8) (cdK .u8) (fun _=>rfl) (fun _=>rfl)).enc)) (b:= .v (.int .i64 c3)) kr kr (Fa (e:=(NI (cdK .u8) (cdK .u8) (fun _=>rfl) (fun _=>rfl)).enc) (el:=30) (k:=2) (ki:= .i64) kr kr hv5))) ?_;exact AY AC
   by_cases hk6:(okB ([103]++(by8 [(wr .u8 (wr .i64 (97 + (wr .i64 (c3.tdiv 26))))),(wr .u8 (wr .i64 (97 + (c3.tmod 26))))])))=true
   case neg=>rw [if_neg hk6] at h; cases h
   rw [if_pos hk6] at h;obtain ⟨v7,hv7,h⟩:=OB h;by_cases hk8:(FZ 112 (c2.length + 1))=true
   case neg=>rw [if_neg hk8] at h; cases h
   rw [if_pos hk8] at h
   let p7:Option Blk:=mk 9 42 ((c2++[v7]).map AG.enc)
   let p8:Nat×AV:=(5,hd 0 ((c2++[v7]).map AG.enc))
   refine AI (s1:=⟨Fr 38 [p8,p4,p3,p2],[p7]⟩) ?_ ?_
   ·let p9:Option Blk:=mk 1 5 ([(wr .u8 (wr .i64 (97 + (wr .i64 (c3.tdiv 26))))),(wr .u8 (wr .i64 (97 + (c3.tmod 26))))].map (cdK .u8).enc)
    refine AD (n:=38) AC 11 [p4,p3,p2,(20,hd 0 (c2.map AG.enc)),(21,.ag [.v (.int .u8 v5.1),.v (.int .u8 v5.2)]),(30,hd 2 ([(wr .u8 (wr .i64 (97 + (wr .i64 (c3.tdiv 26))))),(wr .u8 (wr .i64 (97 + (c3.tmod 26))))].map (cdK .u8).enc))] [p1,p6,p9] kr ?_;refine RunS.bytes (bb:=2) (lo:=0) (q:=2) (c:=2) (e:=5) [(wr .u8 (wr .i64 (97 + (wr .i64 (c3.tdiv 26))))),(wr .u8 (wr .i64 (97 + (c3.tmod 26))))] rfl (AB rfl) kr kr kr kr kr kr ?_;refine AP AC 0 rfl (Dq (AB rfl) rfl (ZG (a:= .st [103]) (b:= .st (by8 [(wr .u8 (wr .i64 (97 + (wr .i64 (c3.tdiv 26))))),(wr .u8 (wr .i64 (97 + (c3.tmod 26))))])) kr kr (XR hk6))) ?_;refine AW (v:=v7) (caps:=[]) (xs:=[.ag [.v (.int .u8 v5.1),.v (.int .u8 v5.2)],.st ([103]++(by8 [(wr .u8 (wr .i64 (97 + (wr .i64 (c3.tdiv 26))))),(wr .u8 (wr .i64 (97 + (c3.tmod 26))))]))]) (u:=((v5.1,v5.2),([103]++(by8 [(wr .u8 (wr .i64 (97 + (wr .i64 (c3.tdiv 26))))),(wr .u8 (wr .i64 (97 + (c3.tmod 26))))])),())) rfl rfl Pq rfl (AB rfl) kr kr (AN (AZ (c:=(NI (cdK .u8) (cdK .u8) (fun _=>rfl) (fun _=>rfl))) (v:=(v5.1,v5.2))) (AN (AZ (c:=cdS) (v:=([103]++(by8 [(wr .u8 (wr .i64 (97 + (wr .i64 (c3.tdiv 26))))),(wr .u8 (wr .i64 (97 + (c3.tmod 26))))])))) BA)) (.inr kr) (by dsimp only; exact hv7) ?_;refine AD (n:=38) AC 1 [p4,p3,p2,(20,hd 0 (c2.map AG.enc)),(34,hd 3 ([v7].map AG.enc))] [p1,p6,p9,mk 9 42 ([v7].map AG.enc)] kr ?_;refine AP AC 0 rfl (T7 (AB rfl) rfl kr kr (Hy (a:=hd 0 (c2.map AG.enc)) (b:=hd 3 ([v7].map AG.enc)) kr kr (LB (c:=AG) (xs:=c2) (vs:=[v7]) (k:=9) (bytes:=112) (el:=42) kr kr (LQ (t:=42) kr) (List.cons_ne_nil _ _) kr hk8))) ?_;refine AD (n:=38) AC 1 [(5,hd 4 ((c2++[v7]).map AG.enc)),p4,p3,p2] [none,p6,p9,mk 9 42 ([v7].map AG.enc),p7] kr ?_;exact AJ rfl (An [4] ⟨⟨_,rfl,DQ⟩,trivial⟩ ⟨DV (b':=4) kr kr,lv,lv,lv,trivial⟩)
   let p10:Nat×AV:=(15,.v (.int .i64 (wr .i64 (c3 + 1))))
   refine DO AC [p8,p4,p3,p10] [p7] ?_;exact A9 (s1:=⟨Fr 38 [p8,p4,p3,p10],[p7]⟩) (An [0] ⟨⟨_,rfl,DQ⟩,trivial⟩ ⟨DV (b':=0) kr kr,lv,lv,lv,trivial⟩) (ih (c2++[v7]) (wr .i64 (c3 + 1)) h)
  ·rw [CT hb4] at h
   refine DE ?_;have hq:=OI h; subst hq;exact ⟨rfl,(An [0] ⟨⟨_,rfl,DQ⟩,trivial⟩ ⟨DV (b':=0) kr kr,trivial⟩)⟩
theorem Mo (x0:(List (Int×Int))) (x1:Int) (r:(List A6)) (h:FN x0 x1=some r):Sem E0 ⟨none,false⟩ H4 ⟨Fr 38 (BG 0 (IC.enc (x0,x1,()))),[]⟩ fun e s'=>(e = .normal\/e = .ret)/\∃ xs,Ef E0.P s'.fr s'.hp Tryz.f20.results.toList=some xs/\Eh xs=IJ r:=by
 unfold FN at h
 let p1:Nat×AV:=(1,.v (.int .i64 x1))
 let p2:Nat×AV:=(0,.sl 2 (x0.map (NI (cdK .u8) (cdK .u8) (fun _=>rfl) (fun _=>rfl)).enc))
 refine A7 (Bt (s1:=⟨Fr 38 [p2,p1],[]⟩) AL ?_);refine AK AC [p2,p1] [] ?_;refine AK AC [p2,p1,(5,.e0)] [] ?_;refine AH ?_;refine AH ?_;by_cases hk1:(Do 0 (mnI (x0.length:Int) x1) x0.length)=true
 case neg=>rw [if_neg hk1] at h; cases h
 rw [if_pos hk1] at h
 let p3:Nat×AV:=(15,.v (.int .i64 0))
 let p4:Nat×AV:=(14,.v (.int .i64 (((x0.take (mnI (x0.length:Int) x1).toNat).drop (0:Int).toNat).length:Int)))
 let p5:Nat×AV:=(13,.sl 2 (((x0.take (mnI (x0.length:Int) x1).toNat).drop (0:Int).toNat).map (NI (cdK .u8) (cdK .u8) (fun _=>rfl) (fun _=>rfl)).enc))
 refine AI (s1:=⟨Fr 38 [(5,.e0),p5,p4,p3],[]⟩) ?_ ?_
 ·let p6:Nat×AV:=(8,.sl 2 (x0.map (NI (cdK .u8) (cdK .u8) (fun _=>rfl) (fun _=>rfl)).enc))
  refine AD (n:=38) AC 2 [p1,(5,.e0),p6,(9,.sl 2 (x0.map (NI (cdK .u8) (cdK .u8) (fun _=>rfl) (fun _=>rfl)).enc))] [] kr ?_;refine AP AC 0 rfl (Dq (AB rfl) rfl (Dg (a:= .sl 2 (x0.map (NI (cdK .u8) (cdK .u8) (fun _=>rfl) (fun _=>rfl)).enc)) kr (CW (el:=30) kr))) ?_;refine AD (n:=38) AC 2 [(5,.e0),p6,(12,.v (.int .i64 (mnI (x0.length:Int) x1)))] [] kr ?_;refine AP AC 0 rfl (Dq (AB rfl) rfl (FO (a:= .sl 2 (x0.map (NI (cdK .u8) (cdK .u8) (fun _=>rfl) (fun _=>rfl)).enc)) (l:=none) (u:=(some (.v (.int .i64 (mnI (x0.length:Int) x1))))) (m:=none) kr kr kr rfl (Lf (xs:=x0) (e:=(NI (cdK .u8) (cdK .u8) (fun _=>rfl) (fun _=>rfl)).enc) (k:=2) (el:=30) (lo:=0) (hi:=(mnI (x0.length:Int) x1)) kr kr rfl (HA (Km hk1)) hk1))) ?_;refine AP AC 0 rfl (Dq (AB rfl) rfl (Dg (a:= .sl 2 (((x0.take (mnI (x0.length:Int) x1).toNat).drop (0:Int).toNat).map (NI (cdK .u8) (cdK .u8) (fun _=>rfl) (fun _=>rfl)).enc)) kr (CW (el:=30) kr))) ?_;exact AY AC
 refine Ay ?_;obtain ⟨r10,hr10,h⟩:=OB h;refine DF (n:=100000) ?_;refine Bd (A9 (s1:=⟨Fr 38 [(5,hd 0 ([].map AG.enc)),p5,p4,p3],[mk 9 42 ([].map AG.enc)]⟩) (Wk.trans (s1:=⟨Fr 38 [(5,hd 0 ([].map AG.enc)),p5,p4,p3],[mk 9 42 ([].map AG.enc)]⟩) Wk.none (An [0] ⟨⟨_,rfl,PA⟩,trivial⟩ ⟨lv,lv,lv,lv,trivial⟩)) (LZ x0 x1 _ [] 0 _ hr10)) ?_;refine AK AC [(4,hd 0 (r10.map AG.enc))] [mk 9 42 (r10.map AG.enc)] ?_;refine AQ ?_;have hq:=OI h; subst hq
 let p7:Nat×AV:=(4,.sl 9 (r10.map AG.enc))
 exact ⟨⟨Fr 38 [p7],[]⟩,(Wk.trans (s1:=⟨Fr 38 [p7],[none]⟩) (HM 0 (.inl kr) ⟨.inl rfl,trivial⟩ ⟨⟨hd 0 (r10.map AG.enc),kr,PI (t:=42) kr KA⟩,trivial⟩) (An [] trivial ⟨lv,trivial⟩)),.inr rfl,[.sl 9 (r10.map AG.enc)],kr,kr⟩
def Oa:List AV->Option AV:=Dx IC (fun a=>FN a.1 a.2.1) IJ
theorem Oh:XOk 20 Oa:=by
 refine AU Tryz.func20 (c:=H4) ?h2 ⟨Tryz.call20⟩ IC (fun a=>FN a.1 a.2.1) IJ (fun a=>(by show 2<=38; decide)) ?h3 ?h4
 case h2=>kernel_rfl
 case h3=>intro b; kernel_rfl
 case h4=>exact fun a b h=>Mo a.1 a.2.1 b h
theorem PU {R:List RI}{c:Nat}:¬ own R [] c:=fun ⟨b,B,_,hb,_⟩=>by simp at hb
/-- What a call hands back, seen as frozen. -/
def Sr (h:Hp):AV->Option AV
 | .tp l=>(OK (Fz h 12) l).map .tp
 | x=>Fz h 12 x
theorem VB {w:World}{Z:Nat->Prop}{R:List RI}{h:Hp}{x y:AV}{v:Value}(hh:HR w Z R h) (hv:VR w Z R x v) (e:Sr h x=some y):VR w (fun c=>Z c\/own R h c) [] y v:=by
 unfold Sr at e
 split at e
 ·obtain ⟨ys,h1,rfl⟩:=Option.map_eq_some_iff.1 e
  cases hv with
  | tp hl hx =>
   have:=allV_vr (Ka hh 12) ⟨hl,hx⟩ h1
   exact .tp this.len this.at_
 ·exact Ka hh 12 _ _ _ hv e
theorem frz_ret {E:Env}{f:FuncId}{w:World}{Z:Nat->Prop}{us:List Value}{x y:AV}{h':Hp}(hr:Pv E f us w Z [] [] x h') (hv:Sr h' x=some y) :
  Ret E.P f us.toArray w fun v w'=>w.grownBy w' none/\VR w' (fun c=>Z c\/(w.heap.size<=c/\c < w'.heap.size)) [] y v:=by
 refine Ret.mono hr fun v w' hS=>?_
 obtain ⟨Z',R',k1,k2,k3⟩:=hS
 refine ⟨⟨k3.os,k3.tape,k3.output,k3.size,fun c hc _=>k3.block c hc PU⟩,(VB k1 k2 hv).mono (fun _ _=>rfl) (fun c hc=>?_) (fun _ _ h=>h)⟩
 rcases hc with hc | hc
 ·rcases k3.z' c hc with h1 | h1 | h1
  ·exact .inl h1
  ·exact absurd h1 PU
  ·exact .inr ⟨h1,k1.zlt c hc⟩
 ·rcases k3.own_ c hc with h1 | h1
  ·exact absurd h1 PU
  ·obtain ⟨b,B,r,h2,_,h3,rfl⟩:=hc
   exact .inr ⟨h1,k1.rltL h2 h3⟩
theorem hr_nil {w:World}{Z:Nat->Prop}(hz:∀ c,Z c->c < w.heap.size):HR w Z [] []:=⟨rfl,fun b B hB=>by simp at hB,fun b b' B B' r r' hB=>by simp at hB,hz⟩
/-- A closed call is told by what the interpreter finds. -/
theorem S7 {E:Env}(hE:EnvOk E){f:FuncId}{g:List AV->Option AV}(hc:Bw E.P f) (hg:∀ xs y,g xs=some y->∃ n x h',I0 E (evC E n) none f xs []=some (x,h')/\Sr h' x=some y):EnvOk (E.withX f g):=by
 refine hE.withX hc fun xs y h w Z us hz hgi hv=>?_
 obtain ⟨n,x,h',he,hvw⟩:=hg xs y h
 exact frz_ret (enter_sound hE (code_sound hE n).1 he (hr_nil hz) hv hgi (fun y hy=>by cases hy)) hvw
/-- What a closed call hands back, frozen. -/
def Bf (E:Env) (n:Nat) (f:FuncId) (args:List AV):Option AV:=match I0 E (evC E n) none f args [] with
 | some (x,h')=>Sr h' x
 | none=>none
/-- The same values? -/
def kB:IntKind->IntKind->Bool
 | .i64,.i64=>true
 | .u8,.u8=>true
 | _,_=>false
def vB:Value->Value->Bool
 | .int k a,.int k' b=>kB k k'&&a==b
 | .bool a,.bool b=>a==b
 | .pointer none,.pointer none=>true
 | _,_=>false
def bsB:List UInt8->List UInt8->Bool
 | [],[]=>true
 | a::l,b::r=>Nat.beq a.toNat b.toNat&&bsB l r
 | _,_=>false
def UA (g:AV->AV->Bool):List AV->List AV->Bool
 | [],[]=>true
 | a::l,b::r=>g a b&&UA g l r
 | _,_=>false
def UJ:Nat->AV->AV->Bool
 | 0,_,_=>false
 | n + 1,x,y=>match x,y with
  | .v a,.v b=>vB a b
  | .st a,.st b=>bsB a b
  | .e0,.e0=>true
  | .sl k a,.sl k' b=>Nat.beq k k'&&UA (UJ n) a b
  | .pe a o,.pe b o'=>Nat.beq o o'&&UJ n a b
  | .ag a,.ag b=>UA (UJ n) a b
  | .tp a,.tp b=>UA (UJ n) a b
  | .fn f a b,.fn f' a' b'=>Nat.beq f f'&&(UA (UJ n) a a'&&UA (UJ n) b b')
  | _,_=>false
theorem ZA {a b:IntKind}(h:kB a b=true):a=b:=by
 unfold kB at h
 split at h
 ·rfl
 ·rfl
 ·cases h
theorem ZK {a b:Value}(h:vB a b=true):a=b:=by
 unfold vB at h
 split at h
 ·rw [Bool.and_eq_true] at h
  rw [ZA h.1,eq_of_beq h.2]
 ·rw [eq_of_beq h]
 ·rfl
 ·cases h
theorem VJ:∀ {a b:List UInt8},bsB a b=true->a=b
 | [],[],_=>rfl
 | x::l,y::r,h=>by
  unfold bsB at h
  rw [Bool.and_eq_true] at h
  rw [UInt8.toNat_inj.1 (Nat.eq_of_beq_eq_true h.1),VJ h.2]
 | [],_::_,h=>by cases h
 | _::_,[],h=>by cases h
theorem J2 {g:AV->AV->Bool}(hg:∀ x y,g x y=true->x=y):∀ {a b:List AV},UA g a b=true->a=b
 | [],[],_=>rfl
 | x::l,y::r,h=>by
  unfold UA at h
  rw [Bool.and_eq_true] at h
  rw [hg _ _ h.1,J2 hg h.2]
 | [],_::_,h=>by cases h
 | _::_,[],h=>by cases h
theorem Qs:∀ (n:Nat) (x y:AV),UJ n x y=true->x=y
 | 0,_,_,h=>by cases h
 | n + 1,x,y,h=>by
  have ih:=Qs n
  unfold UJ at h
  split at h
  ·rw [ZK h]
  ·rw [VJ h]
  ·rfl
  ·rw [Bool.and_eq_true] at h
   rw [Nat.eq_of_beq_eq_true h.1,J2 ih h.2]
  ·rw [Bool.and_eq_true] at h
   rw [Nat.eq_of_beq_eq_true h.1,ih _ _ h.2]
  ·rw [J2 ih h]
  ·rw [J2 ih h]
  ·rw [Bool.and_eq_true,Bool.and_eq_true] at h
   rw [Nat.eq_of_beq_eq_true h.1,J2 ih h.2.1,J2 ih h.2.2]
  ·cases h
/-- A table. -/
def O3:List (List AV×AV)->List AV->Option AV
 | [],_=>none
 | (a,r)::l,xs=>if UA (UJ 40) a xs=true then some r else O3 l xs
def Vf (E:Env) (f:FuncId):List (List AV×AV)->Prop
 | []=>True
 | (a,r)::l=>(∃ n,Bf E n f a=some r)/\Vf E f l
theorem Va {E:Env}{f:FuncId}:∀ {l:List (List AV×AV)}{xs:List AV}{y:AV},Vf E f l->O3 l xs=some y->∃ n,Bf E n f xs=some y
 | (a,r)::l,xs,y,h,e=>by
  unfold O3 at e
  split at e
  ·next hb =>
   injection e with e
   subst e
   rw [<-J2 (Qs 40) hb]
   exact h.1
  ·exact Va h.2 e
theorem Kt {E:Env}(hE:EnvOk E){f:FuncId}{l:List (List AV×AV)}(hc:Bw E.P f) (h:Vf E f l):EnvOk (E.withX f (O3 l)):=by
 refine S7 hE hc fun xs y e=>?_
 obtain ⟨n,hn⟩:=Va h e
 unfold Bf at hn
 split at hn
 ·next x h' he=>exact ⟨n,x,h',he,hn⟩
 ·cases hn
/-- Another contract, told by a table of its own values. -/
theorem Wt {E:Env}{f:FuncId}{g:List AV->Option AV}{l:List (List AV×AV)}(hE:EnvOk (E.withX f g)) (h:∀ p ∈ l,g p.1=some p.2):EnvOk (E.withX f (O3 l)):=by
 have hl:∀ {l:List (List AV×AV)} {xs:List AV} {y:AV},(∀ p ∈ l,g p.1=some p.2)->O3 l xs=some y->g xs=some y:=by
  intro l
  induction l with
  | nil=>intro xs y _ e; cases e
  | cons p l ih =>
   intro xs y h e
   obtain ⟨a,r⟩:=p
   unfold O3 at e
   split at e
   ·next hb =>
    injection e with e
    subst e
    rw [<-J2 (Qs 40) hb]
    exact h (a,r) (by simp)
   ·exact ih (fun p hp=>h p (List.mem_cons_of_mem _ hp)) e
 refine ⟨hE.fn,hE.mixed,hE.I,fun k q hk=>?_⟩
 change (if k=f then some (O3 l) else E.X k)=some q at hk
 split at hk
 ·next hkf =>
  injection hk with hk
  subst hk hkf
  obtain ⟨h1,h2⟩:=hE.X k g (if_pos rfl)
  exact ⟨h1,fun xs x hx w Z us hz hg hv=>h2 xs x (hl h hx) w Z us hz hg hv⟩
 ·next hkf=>exact hE.X k q ((if_neg hkf).trans hk)
/-- What is told in one environment may be told in another of the same program. -/
theorem VC {E E':Env}{f:FuncId}{g:List AV->Option AV}(hE:EnvOk E) (h:EnvOk (E'.withX f g)) (hP:E'.P=E.P) (hG:E'.G=E.G):EnvOk (E.withX f g):=by
 obtain ⟨h1,h2⟩:=h.X f g (if_pos rfl)
 have e1:(E'.withX f g).P=E.P:=hP
 refine hE.withX (e1 ▸ h1) fun xs x hx w Z us hz hg hv=>?_
 have:=h2 xs x hx w Z us hz (fun q y hy=>hg q y (by rw [<-hG]; exact hy)) hv
 exact e1 ▸ this
/-- Lists that are told by one value. -/
noncomputable def csJ {α:Type}(e:α->List AV) (hi:∀ x y,e x=e y->x=y) (hn:∀ x,(e x).all DW=true):Cs α where
 enc:=e
 dec a:=open Classical in if h:∃ x,e x=a then some h.choose else none
 de x:=by
  have h:∃ y,e y=e x:=⟨x,rfl⟩
  rw [dif_pos h,hi _ _ h.choose_spec]
 vr:=fun {w Z a x u} hd hv=>by
  split at hd
  ·next h=>injection hd with hd; subst hd; rw [h.choose_spec]; exact hv
  ·cases hd
 nr:=hn
theorem O8 {α:Type}{n:Nat}{h:Hp}{s:Cs α}{a:α}:Sl (n + 2) h s (s.enc a) a :=
 ⟨s.enc a,J3 fun y hy=>KL (List.all_eq_true.1 (s.nr a) y hy) n,s.de a⟩
theorem VK {α:Type}{c:Cd α}{x y:α}(h:c.enc x=c.enc y):x=y:=by
 have h1:=c.de x
 rw [h,c.de y] at h1
 exact (OI h1).symm
/-- The order of a clause without regard to Among. -/
def LR (c:AF):AV :=
 if (c.1==1)=true then .fn 205 [] [.pe (.fn 178 [] [.pe (AA.enc c) 0]) 0] else
 if (c.1==2)=true then .fn 179 [] [.pe (AA.enc c) 0] else
 if (c.1==3)=true then .fn 179 [] [.pe (AA.enc c) 0] else
 if (c.1==4)=true then .fn 205 [] [.pe (.fn 206 [] [.pe (.fn 182 [] [.pe (AA.enc c) 0]) 0,.pe (AA.enc c) 0]) 0] else
 if (c.1==5)=true then .fn 205 [] [.pe (.fn 206 [] [.pe (.fn 183 [] []) 0,.pe (AA.enc c) 0]) 0] else
 if (c.1==6)=true then .fn 205 [] [.pe (.fn 206 [] [.pe (.fn 184 [] [.pe (AA.enc c) 0]) 0,.pe (AA.enc c) 0]) 0] else
 if (c.1==7)=true then .fn 205 [] [.pe (.fn 206 [] [.pe (.fn 186 [] [.pe (AA.enc c) 0]) 0,.pe (AA.enc c) 0]) 0] else
 if (c.1==8)=true then .fn 187 [] [] else
 if (c.1==10)=true then .fn 209 [] [.pe (.fn 208 [] []) 0,.pe (.fn 190 [] [.pe (AA.enc c) 0]) 0] else
 .fn 209 [] [.pe (.fn 208 [] []) 0,.pe (.fn 191 [] []) 0]
def IX (c:AF):AV:= .fn 165 [] [.pe (AA.enc c) 0,.pe (LR c) 0]
noncomputable def Bc:Cd AF:=cdJ IX (fun x y h=>by
 unfold IX at h
 injection h with _ _ h
 injection h with h
 injection h with h
 exact VK h) (fun _=>rfl)
noncomputable def P2:Cs AF:=csJ (fun c=>[.pe (AA.enc c) 0,.pe (LR c) 0]) (fun x y h=>by
 injection h with h
 injection h with h
 exact VK h) (fun _=>rfl)
/-- A straight call, told by what the interpreter finds. -/
theorem Ss {f:FuncId}(hc:Bw E0.P f){α β:Type}(s:Cs α) (F:α->Option β) (er:β->AV) (h:∀ a b,F a=some b->∃ n,Bf E0 n f (s.enc a)=some (er b)):XOk f (Dx s F er):=by
 refine ⟨hc,fun xs y hy w Z us hz hg hv=>?_⟩
 obtain ⟨a,ha,hy⟩:=OB hy
 obtain ⟨b,hb,rfl⟩:=Option.map_eq_some_iff.1 hy
 obtain ⟨n,hn⟩:=h a b hb
 unfold Bf at hn
 split at hn
 ·next x h' he=>exact frz_ret (enter_sound AC (code_sound AC n).1 he (hr_nil hz) (s.vr ha hv) hg (fun y hy=>by cases hy)) hn
 ·cases hn
def Eq (x0:AF):Option AF:=if 1<=x0.1/\x0.1<=10 then some x0 else none
def Bx:Cs (AF×Unit):=csC AA csN
noncomputable def Hg (r:AF):AV:=Bc.enc r
noncomputable def Nr:List AV->Option AV:=Dx Bx (fun a=>Eq a.1) Hg
section
variable (am:List UInt8) (la:Bool) (nm:List (List UInt8)) (m:Int)
theorem Wc:Bf E0 300 133 (Bx.enc ((1,am,la,nm,m),()))=some (IX (1,am,la,nm,m)):=by kernel_rfl
theorem Wd:Bf E0 300 133 (Bx.enc ((2,am,la,nm,m),()))=some (IX (2,am,la,nm,m)):=by kernel_rfl
theorem We:Bf E0 300 133 (Bx.enc ((3,am,la,nm,m),()))=some (IX (3,am,la,nm,m)):=by kernel_rfl
theorem Wf:Bf E0 300 133 (Bx.enc ((4,am,la,nm,m),()))=some (IX (4,am,la,nm,m)):=by kernel_rfl
theorem Wg:Bf E0 300 133 (Bx.enc ((5,am,la,nm,m),()))=some (IX (5,am,la,nm,m)):=by kernel_rfl
theorem Wh:Bf E0 300 133 (Bx.enc ((6,am,la,nm,m),()))=some (IX (6,am,la,nm,m)):=by kernel_rfl
theorem Wi:Bf E0 300 133 (Bx.enc ((7,am,la,nm,m),()))=some (IX (7,am,la,nm,m)):=by kernel_rfl
theorem Wj:Bf E0 300 133 (Bx.enc ((8,am,la,nm,m),()))=some (IX (8,am,la,nm,m)):=by kernel_rfl
theorem Wl:Bf E0 300 133 (Bx.enc ((9,am,la,nm,m),()))=some (IX (9,am,la,nm,m)):=by kernel_rfl
theorem Us:Bf E0 300 133 (Bx.enc ((10,am,la,nm,m),()))=some (IX (10,am,la,nm,m)):=by kernel_rfl
end
theorem N9:XOk 133 Nr:=by
 refine Ss ⟨Tryz.call133⟩ Bx (fun a=>Eq a.1) Hg fun a b h=>⟨300,?_⟩
 obtain ⟨⟨k,am,la,nm,m⟩,⟨⟩⟩:=a
 by_cases hk:1<=k/\k<=10
 ·have h1:some (k,am,la,nm,m)=some b:=(if_pos hk:Eq (k,am,la,nm,m)=_).symm.trans h
  have h2:Hg b=IX (k,am,la,nm,m):=congrArg IX (OI h1).symm
  rw [h2]
  clear h h1 h2
  have hk':k=1\/k=2\/k=3\/k=4\/k=5\/k=6\/k=7\/k=8\/k=9\/k=10:=by omega
  rcases hk' with rfl | rfl | rfl | rfl | rfl | rfl | rfl | rfl | rfl | rfl
  ·exact Wc am la nm m
  ·exact Wd am la nm m
  ·exact We am la nm m
  ·exact Wf am la nm m
  ·exact Wg am la nm m
  ·exact Wh am la nm m
  ·exact Wi am la nm m
  ·exact Wj am la nm m
  ·exact Wl am la nm m
  ·exact Us am la nm m
 ·exact nomatch ((if_neg hk:Eq (k,am,la,nm,m)=_).symm.trans h)
/- trestle/court.formed -/
noncomputable def CH:Code:=BS Tryz.f159
def GC (x0:AF):Option ((Bool)) :=
 if (x0.1==8)=true then
 some (x0.1==8)
 else
 some (x0.1==9)
def GB (x0:AF):Option ((Bool)) :=
 if (x0.1==3)=true then
 some (x0.1==3)
 else
 (GC x0).bind fun r14 =>
 some r14
def GA (x0:AF):Option ((Bool)) :=
 if (x0.1==2)=true then
 some (x0.1==2)
 else
 (GB x0).bind fun r15 =>
 some r15
def GG (x0:AF):Option ((Bool)) :=
 if (x0.1==6)=true then
 some (x0.1==6)
 else
 some (x0.1==7)
def GH (x0:AF) (r33:Bool):Option ((Int×Int×Bool) ⊕ (Bool)) :=
 if r33=true then
 some (.inl (16,0,true))
 else
 if (x0.1==10)=true then
 some (.inl (0,63,false))
 else
 some (.inr false)
def GF (x0:AF):Option ((Int×Int×Bool) ⊕ (Bool)) :=
 if (x0.1==5)=true then
 some (.inl (0,0,true))
 else
 (GG x0).bind fun r33 =>
 (GH x0 r33).bind fun r40 =>
 match r40 with
 | (.inl w41) =>
  some (.inl (w41.1,w41.2.1,w41.2.2))
 | (.inr w42) =>
  some (.inr w42)
def GE (x0:AF):Option ((Int×Int×Int×Bool) ⊕ (Bool)) :=
 if (x0.1==4)=true then
 some (.inl (0,1,2,true))
 else
 (GF x0).bind fun r44 =>
 match r44 with
 | (.inl w45) =>
  some (.inl (w45.1,0,w45.2.1,w45.2.2))
 | (.inr w46) =>
  some (.inr w46)
def GD (x0:AF) (r16:Bool):Option ((Int×Int×Int×Bool) ⊕ (Bool)) :=
 if r16=true then
 some (.inl (0,0,0,false))
 else
 (GE x0).bind fun r48 =>
 match r48 with
 | (.inl w49) =>
  some (.inl (w49.1,w49.2.1,w49.2.2.1,w49.2.2.2))
 | (.inr w50) =>
  some (.inr w50)
def F9 (x0:AF):Option ((Int×Int×Int×Bool) ⊕ (Bool)) :=
 if (x0.1==1)=true then
 if (!(x0.2.1==[]))=true then
 some (.inr false)
 else
 some (.inl (16,0,0,false))
 else
 (GA x0).bind fun r16 =>
 (GD x0 r16).bind fun r52 =>
 match r52 with
 | (.inl w53) =>
  some (.inl (w53.1,w53.2.1,w53.2.2.1,w53.2.2.2))
 | (.inr w54) =>
  some (.inr w54)
def Bg (x0:AF):Option (Bool) :=
 (F9 x0).bind fun r55 =>
 match r55 with
 | (.inl w56) =>
  (if (decide ((x0.2.2.2.1.length:Int)<=w56.1))=true then if (w56.1==0)=true then if (decide (x0.2.2.2.2≥w56.2.1))=true then if (decide (x0.2.2.2.2<=w56.2.2.1))=true then if w56.2.2.2=true then some true else some (!x0.2.2.1) else some false else some false else if (decide ((x0.2.2.2.1.length:Int) > 0))=true then if (decide (x0.2.2.2.2≥w56.2.1))=true then if (decide (x0.2.2.2.2<=w56.2.2.1))=true then if w56.2.2.2=true then some true else some (!x0.2.2.1) else some false else some false else some false else some false).bind fun j58 =>
  some j58
 | (.inr w68) =>
  some w68
def IA:Cs (AF×Unit):=(csC AA csN)
def IG (r:Bool):AV:=cdB.enc r
theorem LH (x0:AF) (r:(Bool)) (h:GC x0=some r):Sem E0 ⟨none,false⟩ (pc CH [1,1,0,1,0,1,1,0,1,1,1,1,1]) ⟨Fr 63 [(1,.pt 0 0 0),(3,.v (.int .i64 0)),(4,.v (.int .i64 0)),(5,.v (.int .i64 0)),(6,.v (.bool false)),(8,.v (.int .u8 x0.1)),(14,.v (.bool (x0.1==8)))],[some ⟨5,60,[AA.enc x0],false⟩]⟩ (fun e s=>e = .normal/\Wk E0 s ⟨Fr 63 [(1,.pt 0 0 0),(3,.v (.int .i64 0)),(4,.v (.int .i64 0)),(5,.v (.int .i64 0)),(6,.v (.bool false)),(8,.v (.int .u8 x0.1)),(14,.v (.bool r))],[some ⟨5,60,[AA.enc x0],false⟩]⟩):=by
 unfold GC at h;refine AO (b:=(x0.1==8)) kr (fun hb12=>?_) (fun hb12=>?_)
 ·rw [if_pos hb12] at h
  refine AS ?_;have hq:=OI h; subst hq;exact ⟨rfl,(An [0] ⟨⟨_,rfl,Cm⟩,trivial⟩ ⟨lv,lv,lv,lv,lv,lv,lv,trivial⟩)⟩
 ·rw [CT hb12] at h
  refine DO AC [(1,.pt 0 0 0),(3,.v (.int .i64 0)),(4,.v (.int .i64 0)),(5,.v (.int .i64 0)),(6,.v (.bool false)),(8,.v (.int .u8 x0.1)),(14,.v (.bool (x0.1==9)))] [some ⟨5,60,[AA.enc x0],false⟩] ?_;have hq:=OI h; subst hq;exact ⟨rfl,(An [0] ⟨⟨_,rfl,Cm⟩,trivial⟩ ⟨lv,lv,lv,lv,lv,lv,lv,trivial⟩)⟩
theorem LG (x0:AF) (r:(Bool)) (h:GB x0=some r):Sem E0 ⟨none,false⟩ (pc CH [1,1,0,1,0,1,1,0,1,1,1]) ⟨Fr 63 [(1,.pt 0 0 0),(3,.v (.int .i64 0)),(4,.v (.int .i64 0)),(5,.v (.int .i64 0)),(6,.v (.bool false)),(8,.v (.int .u8 x0.1)),(14,.v (.bool (x0.1==3)))],[some ⟨5,60,[AA.enc x0],false⟩]⟩ (fun e s=>e = .normal/\Wk E0 s ⟨Fr 63 [(1,.pt 0 0 0),(3,.v (.int .i64 0)),(4,.v (.int .i64 0)),(5,.v (.int .i64 0)),(6,.v (.bool false)),(8,.v (.int .u8 x0.1)),(14,.v (.bool r))],[some ⟨5,60,[AA.enc x0],false⟩]⟩):=by
 unfold GB at h;refine AO (b:=(x0.1==3)) kr (fun hb10=>?_) (fun hb10=>?_)
 ·rw [if_pos hb10] at h
  refine AS ?_;have hq:=OI h; subst hq;exact ⟨rfl,(An [0] ⟨⟨_,rfl,Cm⟩,trivial⟩ ⟨lv,lv,lv,lv,lv,lv,lv,trivial⟩)⟩
 ·rw [CT hb10] at h
  refine AK AC [(1,.pt 0 0 0),(3,.v (.int .i64 0)),(4,.v (.int .i64 0)),(5,.v (.int .i64 0)),(6,.v (.bool false)),(8,.v (.int .u8 x0.1)),(14,.v (.bool (x0.1==8)))] [some ⟨5,60,[AA.enc x0],false⟩] ?_;obtain ⟨r14,hr14,h⟩:=OB h;refine Cy (LH x0 _ hr14) ?_;have hq:=OI h; subst hq;exact ⟨rfl,(An [0] ⟨⟨_,rfl,Cm⟩,trivial⟩ ⟨lv,lv,lv,lv,lv,lv,lv,trivial⟩)⟩
theorem LF (x0:AF) (r:(Bool)) (h:GA x0=some r):Sem E0 ⟨none,false⟩ (pc CH [1,1,0,1,0,1,1,0,1]) ⟨Fr 63 [(1,.pt 0 0 0),(3,.v (.int .i64 0)),(4,.v (.int .i64 0)),(5,.v (.int .i64 0)),(6,.v (.bool false)),(8,.v (.int .u8 x0.1)),(14,.v (.bool (x0.1==2)))],[some ⟨5,60,[AA.enc x0],false⟩]⟩ (fun e s=>e = .normal/\Wk E0 s ⟨Fr 63 [(1,.pt 0 0 0),(3,.v (.int .i64 0)),(4,.v (.int .i64 0)),(5,.v (.int .i64 0)),(6,.v (.bool false)),(8,.v (.int .u8 x0.1)),(14,.v (.bool r))],[some ⟨5,60,[AA.enc x0],false⟩]⟩):=by
 unfold GA at h;refine AO (b:=(x0.1==2)) kr (fun hb8=>?_) (fun hb8=>?_)
 ·rw [if_pos hb8] at h
  refine AS ?_;have hq:=OI h; subst hq;exact ⟨rfl,(An [0] ⟨⟨_,rfl,Cm⟩,trivial⟩ ⟨lv,lv,lv,lv,lv,lv,lv,trivial⟩)⟩
 ·rw [CT hb8] at h
  refine AK AC [(1,.pt 0 0 0),(3,.v (.int .i64 0)),(4,.v (.int .i64 0)),(5,.v (.int .i64 0)),(6,.v (.bool false)),(8,.v (.int .u8 x0.1)),(14,.v (.bool (x0.1==3)))] [some ⟨5,60,[AA.enc x0],false⟩] ?_;obtain ⟨r15,hr15,h⟩:=OB h;refine Cy (LG x0 _ hr15) ?_;have hq:=OI h; subst hq;exact ⟨rfl,(An [0] ⟨⟨_,rfl,Cm⟩,trivial⟩ ⟨lv,lv,lv,lv,lv,lv,lv,trivial⟩)⟩
theorem LI (x0:AF) (r:(Bool)) (h:GG x0=some r):Sem E0 ⟨none,false⟩ (pc CH [1,1,0,1,0,1,1,1,1,1,1,1,1,0,1]) ⟨Fr 63 [(1,.pt 0 0 0),(3,.v (.int .i64 0)),(4,.v (.int .i64 0)),(5,.v (.int .i64 0)),(6,.v (.bool false)),(8,.v (.int .u8 x0.1)),(23,.v (.bool (x0.1==6)))],[some ⟨5,60,[AA.enc x0],false⟩]⟩ (fun e s=>e = .normal/\Wk E0 s ⟨Fr 63 [(1,.pt 0 0 0),(3,.v (.int .i64 0)),(4,.v (.int .i64 0)),(5,.v (.int .i64 0)),(6,.v (.bool false)),(8,.v (.int .u8 x0.1)),(23,.v (.bool r))],[some ⟨5,60,[AA.enc x0],false⟩]⟩):=by
 unfold GG at h;refine AO (b:=(x0.1==6)) kr (fun hb31=>?_) (fun hb31=>?_)
 ·rw [if_pos hb31] at h
  refine AS ?_;have hq:=OI h; subst hq;exact ⟨rfl,(An [0] ⟨⟨_,rfl,Cm⟩,trivial⟩ ⟨lv,lv,lv,lv,lv,lv,lv,trivial⟩)⟩
 ·rw [CT hb31] at h
  refine DO AC [(1,.pt 0 0 0),(3,.v (.int .i64 0)),(4,.v (.int .i64 0)),(5,.v (.int .i64 0)),(6,.v (.bool false)),(8,.v (.int .u8 x0.1)),(23,.v (.bool (x0.1==7)))] [some ⟨5,60,[AA.enc x0],false⟩] ?_;have hq:=OI h; subst hq;exact ⟨rfl,(An [0] ⟨⟨_,rfl,Cm⟩,trivial⟩ ⟨lv,lv,lv,lv,lv,lv,lv,trivial⟩)⟩
theorem IW (x0:AF) (r33:Bool) (r:(Int×Int×Bool) ⊕ (Bool)) (h:GH x0 r33=some r):Sem E0 ⟨none,false⟩ (pc CH [1,1,0,1,0,1,1,1,1,1,1,1,1,1]) ⟨Fr 63 [(1,.pt 0 0 0),(3,.v (.int .i64 0)),(4,.v (.int .i64 0)),(5,.v (.int .i64 0)),(6,.v (.bool false)),(8,.v (.int .u8 x0.1)),(23,.v (.bool r33))],[some ⟨5,60,[AA.enc x0],false⟩]⟩ (fun e s=>match r with
 | (.inl w)=>e = .normal/\Wk E0 s ⟨Fr 63 [(1,.pt 0 0 0),(3,.v (.int .i64 w.1)),(4,.v (.int .i64 0)),(5,.v (.int .i64 w.2.1)),(6,.v (.bool w.2.2))],[some ⟨5,60,[AA.enc x0],false⟩]⟩
 | (.inr w)=>e = .ret/\Wk E0 s ⟨Fr 63 [(2,.v (.bool w))],[]⟩):=by
 unfold GH at h;refine AO (b:=r33) kr (fun hb34=>?_) (fun hb34=>?_)
 ·rw [if_pos hb34] at h
  refine DO AC [(1,.pt 0 0 0),(3,.v (.int .i64 16)),(4,.v (.int .i64 0)),(5,.v (.int .i64 0)),(6,.v (.bool true))] [some ⟨5,60,[AA.enc x0],false⟩] ?_;have hq:=OI h; subst hq;exact ⟨rfl,(An [0] ⟨⟨_,rfl,Cm⟩,trivial⟩ ⟨lv,lv,lv,lv,lv,trivial⟩)⟩
 ·rw [CT hb34] at h
  let p1:Option Blk:=some ⟨5,60,[AA.enc x0],false⟩
  refine AK AC [(1,.pt 0 0 0),(3,.v (.int .i64 0)),(4,.v (.int .i64 0)),(6,.v (.bool false)),(26,.v (.bool (x0.1==10)))] [p1] ?_;refine AO (b:=(x0.1==10)) kr (fun hb38=>?_) (fun hb38=>?_)
  ·rw [if_pos hb38] at h
   refine DO AC [(1,.pt 0 0 0),(3,.v (.int .i64 0)),(4,.v (.int .i64 0)),(5,.v (.int .i64 63)),(6,.v (.bool false))] [p1] ?_;have hq:=OI h; subst hq;exact ⟨rfl,(An [0] ⟨⟨_,rfl,Cm⟩,trivial⟩ ⟨lv,lv,lv,lv,lv,trivial⟩)⟩
  ·rw [CT hb38] at h
   refine AH ?_;refine AI (s1:=⟨Fr 63 [(2,.v (.bool false))],[]⟩) ?_ ?_
   ·refine AD (n:=63) AC 1 [(2,.v (.bool false))] [p1] kr ?_
    exact AJ rfl (An [] trivial ⟨lv,trivial⟩)
   refine AQ ?_;have hq:=OI h; subst hq;exact ⟨rfl,AL⟩
theorem IV (x0:AF) (r:(Int×Int×Bool) ⊕ (Bool)) (h:GF x0=some r):Sem E0 ⟨none,false⟩ (pc CH [1,1,0,1,0,1,1,1,1,1,1,1]) ⟨Fr 63 [(1,.pt 0 0 0),(3,.v (.int .i64 0)),(4,.v (.int .i64 0)),(5,.v (.int .i64 0)),(6,.v (.bool false)),(8,.v (.int .u8 x0.1)),(21,.v (.bool (x0.1==5)))],[some ⟨5,60,[AA.enc x0],false⟩]⟩ (fun e s=>match r with
 | (.inl w)=>e = .normal/\Wk E0 s ⟨Fr 63 [(1,.pt 0 0 0),(3,.v (.int .i64 w.1)),(4,.v (.int .i64 0)),(5,.v (.int .i64 w.2.1)),(6,.v (.bool w.2.2))],[some ⟨5,60,[AA.enc x0],false⟩]⟩
 | (.inr w)=>e = .ret/\Wk E0 s ⟨Fr 63 [(2,.v (.bool w))],[]⟩):=by
 unfold GF at h;refine AO (b:=(x0.1==5)) kr (fun hb27=>?_) (fun hb27=>?_)
 ·rw [if_pos hb27] at h
  refine DO AC [(1,.pt 0 0 0),(3,.v (.int .i64 0)),(4,.v (.int .i64 0)),(5,.v (.int .i64 0)),(6,.v (.bool true))] [some ⟨5,60,[AA.enc x0],false⟩] ?_;have hq:=OI h; subst hq;exact ⟨rfl,(An [0] ⟨⟨_,rfl,Cm⟩,trivial⟩ ⟨lv,lv,lv,lv,lv,trivial⟩)⟩
 ·rw [CT hb27] at h
  refine AH ?_;refine AK AC [(1,.pt 0 0 0),(3,.v (.int .i64 0)),(4,.v (.int .i64 0)),(5,.v (.int .i64 0)),(6,.v (.bool false)),(8,.v (.int .u8 x0.1)),(23,.v (.bool (x0.1==6)))] [some ⟨5,60,[AA.enc x0],false⟩] ?_;obtain ⟨r33,hr33,h⟩:=OB h;refine Cy (LI x0 _ hr33) ?_;obtain ⟨r40,hr40,h⟩:=OB h;rcases r40 with w41 | w42
  ·try dsimp only at h
   refine Cy (IW x0 r33 _ hr40) ?_;have hq:=OI h; subst hq;exact ⟨rfl,(An [0] ⟨⟨_,rfl,Cm⟩,trivial⟩ ⟨lv,lv,lv,lv,lv,trivial⟩)⟩
  ·try dsimp only at h
   refine Cy (IW x0 r33 _ hr40) ?_;have hq:=OI h; subst hq;exact ⟨rfl,AL⟩
theorem IU (x0:AF) (r:(Int×Int×Int×Bool) ⊕ (Bool)) (h:GE x0=some r):Sem E0 ⟨none,false⟩ (pc CH [1,1,0,1,0,1,1,1,1,1]) ⟨Fr 63 [(1,.pt 0 0 0),(3,.v (.int .i64 0)),(4,.v (.int .i64 0)),(5,.v (.int .i64 0)),(6,.v (.bool false)),(8,.v (.int .u8 x0.1)),(19,.v (.bool (x0.1==4)))],[some ⟨5,60,[AA.enc x0],false⟩]⟩ (fun e s=>match r with
 | (.inl w)=>e = .normal/\Wk E0 s ⟨Fr 63 [(1,.pt 0 0 0),(3,.v (.int .i64 w.1)),(4,.v (.int .i64 w.2.1)),(5,.v (.int .i64 w.2.2.1)),(6,.v (.bool w.2.2.2))],[some ⟨5,60,[AA.enc x0],false⟩]⟩
 | (.inr w)=>e = .ret/\Wk E0 s ⟨Fr 63 [(2,.v (.bool w))],[]⟩):=by
 unfold GE at h;refine AO (b:=(x0.1==4)) kr (fun hb22=>?_) (fun hb22=>?_)
 ·rw [if_pos hb22] at h
  refine DO AC [(1,.pt 0 0 0),(3,.v (.int .i64 0)),(4,.v (.int .i64 1)),(5,.v (.int .i64 2)),(6,.v (.bool true))] [some ⟨5,60,[AA.enc x0],false⟩] ?_;have hq:=OI h; subst hq;exact ⟨rfl,(An [0] ⟨⟨_,rfl,Cm⟩,trivial⟩ ⟨lv,lv,lv,lv,lv,trivial⟩)⟩
 ·rw [CT hb22] at h
  refine AK AC [(1,.pt 0 0 0),(3,.v (.int .i64 0)),(4,.v (.int .i64 0)),(5,.v (.int .i64 0)),(6,.v (.bool false)),(8,.v (.int .u8 x0.1)),(21,.v (.bool (x0.1==5)))] [some ⟨5,60,[AA.enc x0],false⟩] ?_;obtain ⟨r44,hr44,h⟩:=OB h;rcases r44 with w45 | w46
  ·try dsimp only at h
   refine Cy (IV x0 _ hr44) ?_;have hq:=OI h; subst hq;exact ⟨rfl,(An [0] ⟨⟨_,rfl,Cm⟩,trivial⟩ ⟨lv,lv,lv,lv,lv,trivial⟩)⟩
  ·try dsimp only at h
   refine Cy (IV x0 _ hr44) ?_;have hq:=OI h; subst hq;exact ⟨rfl,AL⟩
theorem IT (x0:AF) (r16:Bool) (r:(Int×Int×Int×Bool) ⊕ (Bool)) (h:GD x0 r16=some r):Sem E0 ⟨none,false⟩ (pc CH [1,1,0,1,0,1,1,1]) ⟨Fr 63 [(1,.pt 0 0 0),(3,.v (.int .i64 0)),(4,.v (.int .i64 0)),(5,.v (.int .i64 0)),(6,.v (.bool false)),(8,.v (.int .u8 x0.1)),(14,.v (.bool r16))],[some ⟨5,60,[AA.enc x0],false⟩]⟩ (fun e s=>match r with
 | (.inl w)=>e = .normal/\Wk E0 s ⟨Fr 63 [(1,.pt 0 0 0),(3,.v (.int .i64 w.1)),(4,.v (.int .i64 w.2.1)),(5,.v (.int .i64 w.2.2.1)),(6,.v (.bool w.2.2.2))],[some ⟨5,60,[AA.enc x0],false⟩]⟩
 | (.inr w)=>e = .ret/\Wk E0 s ⟨Fr 63 [(2,.v (.bool w))],[]⟩):=by
 unfold GD at h;refine AO (b:=r16) kr (fun hb17=>?_) (fun hb17=>?_)
 ·rw [if_pos hb17] at h
  refine AS ?_;have hq:=OI h; subst hq;exact ⟨rfl,(An [0] ⟨⟨_,rfl,Cm⟩,trivial⟩ ⟨lv,lv,lv,lv,lv,trivial⟩)⟩
 ·rw [CT hb17] at h
  refine AK AC [(1,.pt 0 0 0),(3,.v (.int .i64 0)),(4,.v (.int .i64 0)),(5,.v (.int .i64 0)),(6,.v (.bool false)),(8,.v (.int .u8 x0.1)),(19,.v (.bool (x0.1==4)))] [some ⟨5,60,[AA.enc x0],false⟩] ?_;obtain ⟨r48,hr48,h⟩:=OB h;rcases r48 with w49 | w50
  ·try dsimp only at h
   refine Cy (IU x0 _ hr48) ?_;have hq:=OI h; subst hq;exact ⟨rfl,(An [0] ⟨⟨_,rfl,Cm⟩,trivial⟩ ⟨lv,lv,lv,lv,lv,trivial⟩)⟩
  ·try dsimp only at h
   refine Cy (IU x0 _ hr48) ?_;have hq:=OI h; subst hq;exact ⟨rfl,AL⟩
theorem IS (x0:AF) (r:(Int×Int×Int×Bool) ⊕ (Bool)) (h:F9 x0=some r):Sem E0 ⟨none,false⟩ (pc CH [1,1,0,1,0,1]) ⟨Fr 63 [(1,.pt 0 0 0),(3,.v (.int .i64 0)),(4,.v (.int .i64 0)),(5,.v (.int .i64 0)),(6,.v (.bool false)),(8,.v (.int .u8 x0.1)),(9,.v (.bool (x0.1==1)))],[some ⟨5,60,[AA.enc x0],false⟩]⟩ (fun e s=>match r with
 | (.inl w)=>e = .normal/\Wk E0 s ⟨Fr 63 [(1,.pt 0 0 0),(3,.v (.int .i64 w.1)),(4,.v (.int .i64 w.2.1)),(5,.v (.int .i64 w.2.2.1)),(6,.v (.bool w.2.2.2))],[some ⟨5,60,[AA.enc x0],false⟩]⟩
 | (.inr w)=>e = .ret/\Wk E0 s ⟨Fr 63 [(2,.v (.bool w))],[]⟩):=by
 unfold F9 at h;refine AO (b:=(x0.1==1)) kr (fun hb1=>?_) (fun hb1=>?_)
 ·rw [if_pos hb1] at h
  refine AH ?_
  let p1:Option Blk:=some ⟨5,60,[AA.enc x0],false⟩
  refine AK AC [(1,.pt 0 0 0),(4,.v (.int .i64 0)),(5,.v (.int .i64 0)),(6,.v (.bool false)),(13,.v (.bool (!(x0.2.1==[]))))] [p1] ?_;refine AO (b:=(!(x0.2.1==[]))) kr (fun hb2=>?_) (fun hb2=>?_)
  ·rw [if_pos hb2] at h
   refine AH ?_;refine AI (s1:=⟨Fr 63 [(2,.v (.bool false))],[]⟩) ?_ ?_
   ·refine AD (n:=63) AC 1 [(2,.v (.bool false))] [p1] kr ?_
    exact AJ rfl (An [] trivial ⟨lv,trivial⟩)
   refine AQ ?_;have hq:=OI h; subst hq;exact ⟨rfl,AL⟩
  ·rw [CT hb2] at h
   refine AS ?_;refine DO AC [(1,.pt 0 0 0),(3,.v (.int .i64 16)),(4,.v (.int .i64 0)),(5,.v (.int .i64 0)),(6,.v (.bool false))] [p1] ?_;have hq:=OI h; subst hq;exact ⟨rfl,(An [0] ⟨⟨_,rfl,Cm⟩,trivial⟩ ⟨lv,lv,lv,lv,lv,trivial⟩)⟩
 ·rw [CT hb1] at h
  refine AH ?_;refine AK AC [(1,.pt 0 0 0),(3,.v (.int .i64 0)),(4,.v (.int .i64 0)),(5,.v (.int .i64 0)),(6,.v (.bool false)),(8,.v (.int .u8 x0.1)),(14,.v (.bool (x0.1==2)))] [some ⟨5,60,[AA.enc x0],false⟩] ?_;obtain ⟨r16,hr16,h⟩:=OB h;refine Cy (LF x0 _ hr16) ?_;obtain ⟨r52,hr52,h⟩:=OB h;rcases r52 with w53 | w54
  ·try dsimp only at h
   refine Cy (IT x0 r16 _ hr52) ?_;have hq:=OI h; subst hq;exact ⟨rfl,(An [0] ⟨⟨_,rfl,Cm⟩,trivial⟩ ⟨lv,lv,lv,lv,lv,trivial⟩)⟩
  ·try dsimp only at h
   refine Cy (IT x0 r16 _ hr52) ?_;have hq:=OI h; subst hq;exact ⟨rfl,AL⟩
theorem Mg (x0:AF) (r:Bool) (h:Bg x0=some r):Sem E0 ⟨none,false⟩ CH ⟨Fr 63 (BG 0 (IA.enc (x0,()))),[]⟩ fun e s'=>(e = .normal\/e = .ret)/\∃ xs,Ef E0.P s'.fr s'.hp Tryz.f159.results.toList=some xs/\Eh xs=IG r:=by
 unfold Bg at h;refine A7 (Bt (s1:=⟨Fr 63 [(0,AA.enc x0)],[]⟩) AL ?_);refine AK AC [(1,.pt 0 0 0)] [some ⟨5,60,[AA.enc x0],false⟩] ?_;refine AK AC [(1,.pt 0 0 0),(3,.v (.int .i64 0)),(4,.v (.int .i64 0)),(5,.v (.int .i64 0)),(6,.v (.bool false))] [some ⟨5,60,[AA.enc x0],false⟩] ?_;refine AH ?_;refine AK AC [(1,.pt 0 0 0),(3,.v (.int .i64 0)),(4,.v (.int .i64 0)),(5,.v (.int .i64 0)),(6,.v (.bool false)),(8,.v (.int .u8 x0.1))] [some ⟨5,60,[AA.enc x0],false⟩] ?_;refine Ay ?_;refine AK AC [(1,.pt 0 0 0),(3,.v (.int .i64 0)),(4,.v (.int .i64 0)),(5,.v (.int .i64 0)),(6,.v (.bool false)),(8,.v (.int .u8 x0.1)),(9,.v (.bool (x0.1==1)))] [some ⟨5,60,[AA.enc x0],false⟩] ?_;obtain ⟨r55,hr55,h⟩:=OB h;rcases r55 with w56 | w68
 ·try dsimp only at h
  refine Cy (IS x0 _ hr55) ?_;refine AH ?_;obtain ⟨j58,hj58,h⟩:=OB h;refine AI (s1:=⟨Fr 63 [(2,.v (.bool j58))],[]⟩) ?_ ?_
  ·refine AD (n:=63) AC 2 [(1,.pt 0 0 0),(3,.v (.int .i64 w56.1)),(4,.v (.int .i64 w56.2.1)),(5,.v (.int .i64 w56.2.2.1)),(6,.v (.bool w56.2.2.2)),(29,.sl 1 (x0.2.2.2.1.map cdS.enc))] [some ⟨5,60,[AA.enc x0],false⟩] kr ?_
   refine AP AC 0 rfl (Dq (AB rfl) rfl (Dg (a:= .sl 1 (x0.2.2.2.1.map cdS.enc)) kr (CW (el:=9) kr))) ?_;refine AD (n:=63) AC 3 [(1,.pt 0 0 0),(3,.v (.int .i64 w56.1)),(4,.v (.int .i64 w56.2.1)),(5,.v (.int .i64 w56.2.2.1)),(6,.v (.bool w56.2.2.2)),(33,.v (.bool (decide ((x0.2.2.2.1.length:Int)<=w56.1))))] [some ⟨5,60,[AA.enc x0],false⟩] kr ?_;rcases BE (decide ((x0.2.2.2.1.length:Int)<=w56.1)) with hc59 | hc59
   ·rw [if_pos hc59] at hj58
    rw [hc59];refine AD (n:=63) AC 3 [(1,.pt 0 0 0),(4,.v (.int .i64 w56.2.1)),(5,.v (.int .i64 w56.2.2.1)),(6,.v (.bool w56.2.2.2)),(33,.v (.bool true)),(36,.v (.bool (w56.1==0)))] [some ⟨5,60,[AA.enc x0],false⟩] kr ?_;rcases BE (w56.1==0) with hc60 | hc60
    ·rw [if_pos hc60] at hj58
     rw [hc60];refine AD (n:=63) AC 13 [(1,.pt 0 0 0),(5,.v (.int .i64 w56.2.2.1)),(6,.v (.bool w56.2.2.2)),(49,.v (.bool (decide (x0.2.2.2.2≥w56.2.1))))] [some ⟨5,60,[AA.enc x0],false⟩] kr ?_;rcases BE (decide (x0.2.2.2.2≥w56.2.1)) with hc61 | hc61
     ·rw [if_pos hc61] at hj58
      rw [hc61];refine AD (n:=63) AC 6 [(1,.pt 0 0 0),(6,.v (.bool w56.2.2.2)),(55,.v (.bool (decide (x0.2.2.2.2<=w56.2.2.1))))] [some ⟨5,60,[AA.enc x0],false⟩] kr ?_;rcases BE (decide (x0.2.2.2.2<=w56.2.2.1)) with hc62 | hc62
      ·rw [if_pos hc62] at hj58
       rw [hc62];refine AD (n:=63) AC 2 [(1,.pt 0 0 0),(55,.v (.bool true)),(57,.v (.bool w56.2.2.2))] [some ⟨5,60,[AA.enc x0],false⟩] kr ?_;rcases BE w56.2.2.2 with hc63 | hc63
       ·rw [if_pos hc63] at hj58
        rw [hc63];refine AD (n:=63) AC 6 [(2,.v (.bool true))] [some ⟨5,60,[AA.enc x0],false⟩] kr ?_;have hq:=OI hj58; subst hq;exact AJ rfl (An [] trivial ⟨lv,trivial⟩)
       ·rw [CT hc63] at hj58
        rw [hc63];refine AD (n:=63) AC 6 [(2,.v (.bool (!x0.2.2.1)))] [some ⟨5,60,[AA.enc x0],false⟩] kr ?_;have hq:=OI hj58; subst hq;exact AJ rfl (An [] trivial ⟨lv,trivial⟩)
      ·rw [CT hc62] at hj58
       rw [hc62];refine AD (n:=63) AC 8 [(2,.v (.bool false))] [some ⟨5,60,[AA.enc x0],false⟩] kr ?_;have hq:=OI hj58; subst hq;exact AJ rfl (An [] trivial ⟨lv,trivial⟩)
     ·rw [CT hc61] at hj58
      rw [hc61];refine AD (n:=63) AC 14 [(2,.v (.bool false))] [some ⟨5,60,[AA.enc x0],false⟩] kr ?_;have hq:=OI hj58; subst hq;exact AJ rfl (An [] trivial ⟨lv,trivial⟩)
    ·rw [CT hc60] at hj58
     rw [hc60];refine AD (n:=63) AC 2 [(1,.pt 0 0 0),(4,.v (.int .i64 w56.2.1)),(5,.v (.int .i64 w56.2.2.1)),(6,.v (.bool w56.2.2.2)),(33,.v (.bool true)),(36,.v (.bool false)),(38,.sl 1 (x0.2.2.2.1.map cdS.enc))] [some ⟨5,60,[AA.enc x0],false⟩] kr ?_;refine AP AC 0 rfl (Dq kr rfl (Dg (a:= .sl 1 (x0.2.2.2.1.map cdS.enc)) kr (CW (el:=9) kr))) ?_;refine AD (n:=63) AC 4 [(1,.pt 0 0 0),(4,.v (.int .i64 w56.2.1)),(5,.v (.int .i64 w56.2.2.1)),(6,.v (.bool w56.2.2.2)),(43,.v (.bool (decide ((x0.2.2.2.1.length:Int) > 0))))] [some ⟨5,60,[AA.enc x0],false⟩] kr ?_;rcases BE (decide ((x0.2.2.2.1.length:Int) > 0)) with hc64 | hc64
     ·rw [if_pos hc64] at hj58
      rw [hc64];refine AD (n:=63) AC 6 [(1,.pt 0 0 0),(5,.v (.int .i64 w56.2.2.1)),(6,.v (.bool w56.2.2.2)),(49,.v (.bool (decide (x0.2.2.2.2≥w56.2.1))))] [some ⟨5,60,[AA.enc x0],false⟩] kr ?_;rcases BE (decide (x0.2.2.2.2≥w56.2.1)) with hc65 | hc65
      ·rw [if_pos hc65] at hj58
       rw [hc65];refine AD (n:=63) AC 6 [(1,.pt 0 0 0),(6,.v (.bool w56.2.2.2)),(55,.v (.bool (decide (x0.2.2.2.2<=w56.2.2.1))))] [some ⟨5,60,[AA.enc x0],false⟩] kr ?_;rcases BE (decide (x0.2.2.2.2<=w56.2.2.1)) with hc66 | hc66
       ·rw [if_pos hc66] at hj58
        rw [hc66];refine AD (n:=63) AC 2 [(1,.pt 0 0 0),(55,.v (.bool true)),(57,.v (.bool w56.2.2.2))] [some ⟨5,60,[AA.enc x0],false⟩] kr ?_;rcases BE w56.2.2.2 with hc67 | hc67
        ·rw [if_pos hc67] at hj58
         rw [hc67];refine AD (n:=63) AC 6 [(2,.v (.bool true))] [some ⟨5,60,[AA.enc x0],false⟩] kr ?_;have hq:=OI hj58; subst hq;exact AJ rfl (An [] trivial ⟨lv,trivial⟩)
        ·rw [CT hc67] at hj58
         rw [hc67];refine AD (n:=63) AC 6 [(2,.v (.bool (!x0.2.2.1)))] [some ⟨5,60,[AA.enc x0],false⟩] kr ?_;have hq:=OI hj58; subst hq;exact AJ rfl (An [] trivial ⟨lv,trivial⟩)
       ·rw [CT hc66] at hj58
        rw [hc66];refine AD (n:=63) AC 8 [(2,.v (.bool false))] [some ⟨5,60,[AA.enc x0],false⟩] kr ?_;have hq:=OI hj58; subst hq;exact AJ rfl (An [] trivial ⟨lv,trivial⟩)
      ·rw [CT hc65] at hj58
       rw [hc65];refine AD (n:=63) AC 14 [(2,.v (.bool false))] [some ⟨5,60,[AA.enc x0],false⟩] kr ?_;have hq:=OI hj58; subst hq;exact AJ rfl (An [] trivial ⟨lv,trivial⟩)
     ·rw [CT hc64] at hj58
      rw [hc64];refine AD (n:=63) AC 20 [(2,.v (.bool false))] [some ⟨5,60,[AA.enc x0],false⟩] kr ?_;have hq:=OI hj58; subst hq;exact AJ rfl (An [] trivial ⟨lv,trivial⟩)
   ·rw [CT hc59] at hj58
    rw [hc59];refine AD (n:=63) AC 30 [(2,.v (.bool false))] [some ⟨5,60,[AA.enc x0],false⟩] kr ?_;have hq:=OI hj58; subst hq;exact AJ rfl (An [] trivial ⟨lv,trivial⟩)
  refine AQ ?_;have hq:=OI h; subst hq;exact ⟨⟨Fr 63 [(2,.v (.bool j58))],[]⟩,AL,.inr rfl,[.v (.bool j58)],kr,kr⟩
 ·try dsimp only at h
  refine Cy (IS x0 _ hr55) ?_;have hq:=OI h; subst hq;exact ⟨⟨Fr 63 [(2,.v (.bool w68))],[]⟩,AL,.inr rfl,[.v (.bool w68)],kr,kr⟩
def OX:List AV->Option AV:=Dx IA (fun a=>Bg a.1) IG
theorem Of:XOk 159 OX:=by
 refine AU Tryz.func159 (c:=CH) ?h2 ⟨Tryz.call159⟩ IA (fun a=>Bg a.1) IG (fun a=>(by show 1<=63; decide)) ?h3 ?h4
 case h2=>kernel_rfl
 case h3=>intro b; kernel_rfl
 case h4=>exact fun a b h=>Mg a.1 b h
/- trestle/court.name -/
noncomputable def JC:Code:=BS Tryz.f96
def D6 (x0:(List UInt8)):Nat->Int->Option ((Unit) ⊕ (Bool))
 | 0,_=>none
 | f + 1,c1 =>
  if (decide (c1 < (x0.length:Int)))=true then
  (idx x0 c1).bind fun v3 =>
  (if (decide ((v3.toNat:Int) < 97))=true then some true else (idx x0 c1).bind fun v4 =>
  some (decide ((v4.toNat:Int) > 122))).bind fun j6 =>
  if j6=true then
  some (.inr false)
  else
  D6 x0 f (wr .i64 (c1 + 1))
  else
  some (.inl ())
def F4 (x0:(List UInt8)):Option (Bool) :=
 (D6 x0 100000 0).bind fun r10 =>
 match r10 with
 | (.inl _w11) =>
  (if (decide ((x0.length:Int)≥1))=true then some (decide ((x0.length:Int)<=12)) else some false).bind fun j13 =>
  some j13
 | (.inr w15) =>
  some w15
def JG:Cs ((List UInt8)×Unit):=(csC cdS csN)
def JL (r:Bool):AV:=cdB.enc r
theorem Jm (x0:(List UInt8)):∀ (f:Nat) (c1:Int) (r:(Unit) ⊕ (Bool)),D6 x0 f c1=some r->SemN E0 ⟨none,false⟩ (pc JC [1,0,1,0,0]) f ⟨Fr 28 [(0,.st x0),(3,.v (.int .i64 c1))],[]⟩ (fun e s=>match r with
 | (.inl _w)=>e=(.exit 0)/\Wk E0 s ⟨Fr 28 [(0,.st x0)],[]⟩
 | (.inr w)=>e = .ret/\Wk E0 s ⟨Fr 28 [(2,.v (.bool w))],[]⟩):=by
 intro f;induction f with
 | zero=>intro c1 r h; cases h
 | succ f ih0 =>
  intro c1 r h
  have ih:=fun (c1:Int)=>ih0 c1 r
  unfold D6 at h;refine Ch ?_;refine AH ?_;refine AK AC [(0,.st x0),(3,.v (.int .i64 c1)),(7,.v (.bool (decide (c1 < (x0.length:Int)))))] [] ?_;refine AO (b:=(decide (c1 < (x0.length:Int)))) kr (fun hb2=>?_) (fun hb2=>?_)
  ·rw [if_pos hb2] at h
   refine AS ?_;refine AH ?_;refine Ay ?_;refine AH ?_;obtain ⟨v3,hv3,h⟩:=OB h;obtain ⟨j6,hj6,h⟩:=OB h;refine AI (s1:=⟨Fr 28 [(0,.st x0),(3,.v (.int .i64 c1)),(19,.v (.bool j6))],[]⟩) ?_ ?_
   ·refine AD (n:=28) AC 2 [(0,.st x0),(3,.v (.int .i64 c1)),(10,.st x0),(11,.v (.int .i64 c1))] [] kr ?_
    refine AP AC 0 rfl (Dq (AB rfl) rfl (Tn (a:= .st x0) (b:= .v (.int .i64 c1)) kr kr (Rs (bs:=x0) (ki:= .i64) kr hv3))) ?_;refine AD (n:=28) AC 2 [(0,.st x0),(3,.v (.int .i64 c1)),(14,.v (.bool (decide ((v3.toNat:Int) < 97))))] [] kr ?_;rcases BE (decide ((v3.toNat:Int) < 97)) with hc9 | hc9
    ·rw [if_pos hc9] at hj6
     rw [hc9];refine AD (n:=28) AC 5 [(0,.st x0),(3,.v (.int .i64 c1)),(15,.tp []),(16,.tp []),(17,.tp []),(18,.tp []),(19,.v (.bool true))] [] kr ?_;have hq:=OI hj6; subst hq;exact AJ rfl AL
    ·rw [CT hc9] at hj6
     rw [hc9];refine AD (n:=28) AC 2 [(0,.st x0),(3,.v (.int .i64 c1)),(14,.v (.bool false)),(15,.st x0),(16,.v (.int .i64 c1))] [] kr ?_;obtain ⟨v4,hv4,hj6⟩:=OB hj6;refine AP AC 0 rfl (Dq kr rfl (Tn (a:= .st x0) (b:= .v (.int .i64 c1)) kr kr (Rs (bs:=x0) (ki:= .i64) kr hv4))) ?_;refine AD (n:=28) AC 2 [(0,.st x0),(3,.v (.int .i64 c1)),(15,.st x0),(16,.v (.int .i64 c1)),(17,.v (.int .u8 (v4.toNat:Int))),(18,.v (.bool (decide ((v4.toNat:Int) > 122)))),(19,.v (.bool (decide ((v4.toNat:Int) > 122))))] [] kr ?_;have hq:=OI hj6; subst hq;exact AJ rfl AL
   refine AO (b:=j6) kr (fun hb7=>?_) (fun hb7=>?_)
   ·rw [if_pos hb7] at h
    refine AK AC [(2,.v (.bool false))] [] ?_;refine AQ ?_;have hq:=OI h; subst hq;exact ⟨rfl,AL⟩
   ·rw [CT hb7] at h
    refine AS ?_;refine DO AC [(0,.st x0),(3,.v (.int .i64 (wr .i64 (c1 + 1))))] [] ?_;exact A9 (s1:=⟨Fr 28 [(0,.st x0),(3,.v (.int .i64 (wr .i64 (c1 + 1))))],[]⟩) AL (ih (wr .i64 (c1 + 1)) h)
  ·rw [CT hb2] at h
   refine DE ?_;have hq:=OI h; subst hq;exact ⟨rfl,AL⟩
theorem OQ (x0:(List UInt8)) (r:Bool) (h:F4 x0=some r):Sem E0 ⟨none,false⟩ JC ⟨Fr 28 (BG 0 (JG.enc (x0,()))),[]⟩ fun e s'=>(e = .normal\/e = .ret)/\∃ xs,Ef E0.P s'.fr s'.hp Tryz.f96.results.toList=some xs/\Eh xs=JL r:=by
 unfold F4 at h;refine A7 (Bt (s1:=⟨Fr 28 [(0,.st x0)],[]⟩) AL ?_);refine AK AC [(0,.st x0)] [] ?_;refine AH ?_;refine AK AC [(0,.st x0),(3,.v (.int .i64 0))] [] ?_;refine Ay ?_;obtain ⟨r10,hr10,h⟩:=OB h;refine DF (n:=100000) ?_;rcases r10 with w11 | w15
 ·try dsimp only at h
  refine Bd (A9 (s1:=⟨Fr 28 [(0,.st x0),(3,.v (.int .i64 0))],[]⟩) AL (Jm x0 _ 0 _ hr10)) ?_;refine AH ?_;obtain ⟨j13,hj13,h⟩:=OB h;refine AI (s1:=⟨Fr 28 [(2,.v (.bool j13))],[]⟩) ?_ ?_
  ·refine AD (n:=28) AC 4 [(0,.st x0),(23,.v (.bool (decide ((x0.length:Int)≥1))))] [] kr ?_
   rcases BE (decide ((x0.length:Int)≥1)) with hc14 | hc14
   ·rw [if_pos hc14] at hj13
    rw [hc14];refine AD (n:=28) AC 5 [(2,.v (.bool (decide ((x0.length:Int)<=12))))] [] kr ?_;have hq:=OI hj13; subst hq;exact AJ rfl AL
   ·rw [CT hc14] at hj13
    rw [hc14];refine AD (n:=28) AC 5 [(2,.v (.bool false))] [] kr ?_;have hq:=OI hj13; subst hq;exact AJ rfl AL
  refine AQ ?_;have hq:=OI h; subst hq;exact ⟨⟨Fr 28 [(2,.v (.bool j13))],[]⟩,AL,.inr rfl,[.v (.bool j13)],kr,kr⟩
 ·try dsimp only at h
  refine Bd (A9 (s1:=⟨Fr 28 [(0,.st x0),(3,.v (.int .i64 0))],[]⟩) AL (Jm x0 _ 0 _ hr10)) ?_;have hq:=OI h; subst hq;exact ⟨⟨Fr 28 [(2,.v (.bool w15))],[]⟩,AL,.inr rfl,[.v (.bool w15)],kr,kr⟩
def Qa:List AV->Option AV:=Dx JG (fun a=>F4 a.1) JL
theorem Mc:XOk 96 Qa:=by
 refine AU Tryz.func96 (c:=JC) ?h2 ⟨Tryz.call96⟩ JG (fun a=>F4 a.1) JL (fun a=>(by show 1<=28; decide)) ?h3 ?h4
 case h2=>kernel_rfl
 case h3=>intro b; kernel_rfl
 case h4=>exact fun a b h=>OQ a.1 b h
/- trestle/court.check$1 -/
noncomputable def Jb:Code:=BS Tryz.f160
def Eo (x0:(List UInt8)):Option (Bool) :=
 (F4 x0).bind fun v1 =>
 some (!v1)
def HQ:Cs ((List UInt8)×Unit):=(csC cdS csN)
def He (r:Bool):AV:=cdB.enc r
theorem Lx (x0:(List UInt8)) (r:Bool) (h:Eo x0=some r):Sem E0 ⟨none,false⟩ Jb ⟨Fr 6 (BG 0 (HQ.enc (x0,()))),[]⟩ fun e s'=>(e = .normal\/e = .ret)/\∃ xs,Ef E0.P s'.fr s'.hp Tryz.f160.results.toList=some xs/\Eh xs=He r:=by
 unfold Eo at h;refine A7 (Bt (s1:=⟨Fr 6 [(0,.st x0)],[]⟩) AL ?_);refine AK AC [(0,.st x0)] [] ?_;refine AH ?_;obtain ⟨v1,hv1,h⟩:=OB h;refine AI (s1:=⟨Fr 6 [(2,.v (.bool (!v1)))],[]⟩) ?_ ?_
 ·refine AD (n:=6) AC 1 [(3,.st x0)] [] kr ?_
  refine AW (caps:=[]) (xs:=[.st x0]) (u:=(x0,())) rfl rfl Mc rfl (AB rfl) kr kr (AN (AZ (c:=cdS) (v:=x0)) BA) (.inl kr) hv1 ?_;exact AY AC
 refine AQ ?_;have hq:=OI h; subst hq;exact ⟨⟨Fr 6 [(2,.v (.bool (!v1)))],[]⟩,AL,.inr rfl,[.v (.bool (!v1))],kr,kr⟩
def Np:List AV->Option AV:=Dx HQ (fun a=>Eo a.1) He
theorem N7:XOk 160 Np:=by
 refine AU Tryz.func160 (c:=Jb) ?h2 ⟨Tryz.call160⟩ HQ (fun a=>Eo a.1) He (fun a=>(by show 1<=6; decide)) ?h3 ?h4
 case h2=>kernel_rfl
 case h3=>intro b; kernel_rfl
 case h4=>exact fun a b h=>Lx a.1 b h
/- slices.IndexFunc[[]string,string] -/
noncomputable def Be:Code:=BS Tryz.f90
def Az (x0:(List (List UInt8))):Nat->Int->Option ((Unit) ⊕ (Int))
 | 0,_=>none
 | f + 1,c1 =>
  if (decide (c1 < (x0.length:Int)))=true then
  (idx x0 c1).bind fun v3 =>
  (Eo v3).bind fun v4 =>
  if v4=true then
  some (.inr c1)
  else
  Az x0 f (wr .i64 (c1 + 1))
  else
  some (.inl ())
def Aq (x0:(List (List UInt8))):Option (Int) :=
 (Az x0 100000 0).bind fun r7 =>
 match r7 with
 | (.inl _w8) =>
  some (-1)
 | (.inr w9) =>
  some w9
def Bn:Cs ((List (List UInt8))×Unit×Unit):=(csC (cdL 1 cdS) (csC (cdF 160 csN (fun _=>rfl)) csN))
def Br (r:Int):AV:=cdI.enc r
theorem CN (x0:(List (List UInt8))):∀ (f:Nat) (c1:Int) (r:(Unit) ⊕ (Int)),Az x0 f c1=some r->SemN E0 ⟨none,false⟩ (pc Be [1,0,1,0,0]) f ⟨Fr 19 [(0,.sl 1 (x0.map cdS.enc)),(1,.fn 160 [] []),(7,.v (.int .i64 (x0.length:Int))),(8,.v (.int .i64 c1))],[]⟩ (fun e s=>match r with
 | (.inl _w)=>e=(.exit 0)/\Wk E0 s ⟨Fr 19 [],[]⟩
 | (.inr w)=>e = .ret/\Wk E0 s ⟨Fr 19 [(4,.v (.int .i64 w))],[]⟩):=by
 intro f;induction f with
 | zero=>intro c1 r h; cases h
 | succ f ih0 =>
  intro c1 r h
  have ih:=fun (c1:Int)=>ih0 c1 r
  unfold Az at h;refine Ch ?_
  let p1:Nat×AV:=(8,.v (.int .i64 c1))
  let p2:Nat×AV:=(7,.v (.int .i64 (x0.length:Int)))
  let p3:Nat×AV:=(1,.fn 160 [] [])
  let p4:Nat×AV:=(0,.sl 1 (x0.map cdS.enc))
  refine AK AC [p4,p3,p2,p1,(9,.v (.bool (decide (c1 < (x0.length:Int)))))] [] ?_;refine AH ?_;refine AO (b:=(decide (c1 < (x0.length:Int)))) kr (fun hb2=>?_) (fun hb2=>?_)
  ·rw [if_pos hb2] at h
   refine AS ?_;refine AH ?_;refine Ay ?_
   let p5:Nat×AV:=(5,.v (.int .i64 c1))
   refine AK AC [p4,p3,p5,p2,p1] [] ?_;refine AH ?_;obtain ⟨v3,hv3,h⟩:=OB h;obtain ⟨v4,hv4,h⟩:=OB h;refine AI (s1:=⟨Fr 19 [p4,p3,p5,p2,p1,(16,.v (.bool v4))],[]⟩) ?_ ?_
   ·refine AD (n:=19) AC 3 [p4,p3,p5,p2,p1,(11,.fn 160 [] []),(12,.sl 1 (x0.map cdS.enc)),(13,.v (.int .i64 c1))] [] kr ?_
    refine AP AC 0 rfl (Dq (AB rfl) rfl (Ac (a:= .sl 1 (x0.map cdS.enc)) (b:= .v (.int .i64 c1)) kr kr (Fa (e:=cdS.enc) (el:=9) (k:=1) (ki:= .i64) kr kr hv3))) ?_;refine AD (n:=19) AC 1 [p4,p3,p5,p2,p1,(11,.fn 160 [] []),(15,.st v3)] [] kr ?_;refine AW (caps:=[]) (xs:=[.st v3]) (u:=(v3,())) rfl rfl N7 rfl (AB rfl) kr kr (AN (AZ (c:=cdS) (v:=v3)) BA) (.inl kr) hv4 ?_;exact AJ rfl AL
   refine AO (b:=v4) kr (fun hb5=>?_) (fun hb5=>?_)
   ·rw [if_pos hb5] at h
    refine AK AC [(4,.v (.int .i64 c1))] [] ?_;refine AQ ?_;have hq:=OI h; subst hq;exact ⟨rfl,AL⟩
   ·rw [CT hb5] at h
    refine AS ?_
    let p6:Nat×AV:=(8,.v (.int .i64 (wr .i64 (c1 + 1))))
    refine DO AC [p4,p3,p2,p6] [] ?_;exact A9 (s1:=⟨Fr 19 [p4,p3,p2,p6],[]⟩) AL (ih (wr .i64 (c1 + 1)) h)
  ·rw [CT hb2] at h
   refine DE ?_;have hq:=OI h; subst hq;exact ⟨rfl,AL⟩
theorem D1 (x0:(List (List UInt8))) (r:Int) (h:Aq x0=some r):Sem E0 ⟨none,false⟩ Be ⟨Fr 19 (BG 0 (Bn.enc (x0,(),()))),[]⟩ fun e s'=>(e = .normal\/e = .ret)/\∃ xs,Ef E0.P s'.fr s'.hp Tryz.f90.results.toList=some xs/\Eh xs=Br r:=by
 unfold Aq at h
 let p1:Nat×AV:=(1,.fn 160 [] [])
 let p2:Nat×AV:=(0,.sl 1 (x0.map cdS.enc))
 refine A7 (Bt (s1:=⟨Fr 19 [p2,p1],[]⟩) AL ?_);refine AK AC [p2,p1] [] ?_;refine AH ?_;refine AH ?_
 let p3:Nat×AV:=(8,.v (.int .i64 0))
 let p4:Nat×AV:=(7,.v (.int .i64 (x0.length:Int)))
 refine AI (s1:=⟨Fr 19 [p2,p1,p4,p3],[]⟩) ?_ ?_
 ·refine AD (n:=19) AC 1 [p2,p1,(6,.sl 1 (x0.map cdS.enc))] [] kr ?_
  refine AP AC 0 rfl (Dq (AB rfl) rfl (Dg (a:= .sl 1 (x0.map cdS.enc)) kr (CW (el:=9) kr))) ?_;exact AY AC
 refine Ay ?_;obtain ⟨r7,hr7,h⟩:=OB h;refine DF (n:=100000) ?_;rcases r7 with w8 | w9
 ·try dsimp only at h
  refine Bd (A9 (s1:=⟨Fr 19 [p2,p1,p4,p3],[]⟩) AL (CN x0 _ 0 _ hr7)) ?_;refine AK AC [(4,.v (.int .i64 (-1)))] [] ?_;refine AQ ?_;have hq:=OI h; subst hq;exact ⟨⟨Fr 19 [(4,.v (.int .i64 (-1)))],[]⟩,AL,.inr rfl,[.v (.int .i64 (-1))],kr,kr⟩
 ·try dsimp only at h
  refine Bd (A9 (s1:=⟨Fr 19 [p2,p1,p4,p3],[]⟩) AL (CN x0 _ 0 _ hr7)) ?_;have hq:=OI h; subst hq;exact ⟨⟨Fr 19 [(4,.v (.int .i64 w9))],[]⟩,AL,.inr rfl,[.v (.int .i64 w9)],kr,kr⟩
def EH:List AV->Option AV:=Dx Bn (fun a=>Aq a.1) Br
theorem EL:XOk 90 EH:=by
 refine AU Tryz.func90 (c:=Be) ?h2 ⟨Tryz.call90⟩ Bn (fun a=>Aq a.1) Br (fun a=>(by show 2<=19; decide)) ?h3 ?h4
 case h2=>kernel_rfl
 case h3=>intro b; kernel_rfl
 case h4=>exact fun a b h=>D1 a.1 b h
/- slices.ContainsFunc[[]string,string] -/
noncomputable def CI:Code:=BS Tryz.f36
def AX (x0:(List (List UInt8))):Option (Bool) :=
 (Aq x0).bind fun v1 =>
 some (decide (v1≥0))
def BT:Cs ((List (List UInt8))×Unit×Unit):=(csC (cdL 1 cdS) (csC (cdF 160 csN (fun _=>rfl)) csN))
def BU (r:Bool):AV:=cdB.enc r
theorem Dh (x0:(List (List UInt8))) (r:Bool) (h:AX x0=some r):Sem E0 ⟨none,false⟩ CI ⟨Fr 9 (BG 0 (BT.enc (x0,(),()))),[]⟩ fun e s'=>(e = .normal\/e = .ret)/\∃ xs,Ef E0.P s'.fr s'.hp Tryz.f36.results.toList=some xs/\Eh xs=BU r:=by
 unfold AX at h;refine A7 (Bt (s1:=⟨Fr 9 [(0,.sl 1 (x0.map cdS.enc)),(1,.fn 160 [] [])],[]⟩) AL ?_);refine AK AC [(0,.sl 1 (x0.map cdS.enc)),(1,.fn 160 [] [])] [] ?_;refine AH ?_;obtain ⟨v1,hv1,h⟩:=OB h
 let p1:Nat×AV:=(4,.v (.bool (decide (v1≥0))))
 refine AI (s1:=⟨Fr 9 [p1],[]⟩) ?_ ?_
 ·refine AD (n:=9) AC 2 [(5,.sl 1 (x0.map cdS.enc)),(6,.fn 160 [] [])] [] kr ?_
  refine AW (caps:=[]) (xs:=[.sl 1 (x0.map cdS.enc),.fn 160 [] []]) (u:=(x0,(),())) rfl rfl EL rfl (AB rfl) kr kr (AN (AZ (c:=(cdL 1 cdS)) (v:=x0)) (AN (Sm.fn BA) BA)) (.inl kr) hv1 ?_;exact AY AC
 refine AQ ?_;have hq:=OI h; subst hq;exact ⟨⟨Fr 9 [p1],[]⟩,AL,.inr rfl,[.v (.bool (decide (v1≥0)))],kr,kr⟩
def Du:List AV->Option AV:=Dx BT (fun a=>AX a.1) BU
theorem CU:XOk 36 Du:=by
 refine AU Tryz.func36 (c:=CI) ?h2 ⟨Tryz.call36⟩ BT (fun a=>AX a.1) BU (fun a=>(by show 2<=9; decide)) ?h3 ?h4
 case h2=>kernel_rfl
 case h3=>intro b; kernel_rfl
 case h4=>exact fun a b h=>Dh a.1 b h
/- slices.Index[[]string,string] -/
noncomputable def DR:Code:=BS Tryz.f41
def A1 (x0:(List (List UInt8))) (x1:(List UInt8)):Nat->Int->Option ((Unit) ⊕ (Int))
 | 0,_=>none
 | f + 1,c1 =>
  if (decide (c1 < (x0.length:Int)))=true then
  (idx x0 c1).bind fun v3 =>
  if (x1==v3)=true then
  some (.inr c1)
  else
  A1 x0 x1 f (wr .i64 (c1 + 1))
  else
  some (.inl ())
def BM (x0:(List (List UInt8))) (x1:(List UInt8)):Option (Int) :=
 (A1 x0 x1 100000 0).bind fun r6 =>
 match r6 with
 | (.inl _w7) =>
  some (-1)
 | (.inr w8) =>
  some w8
def DT:Cs ((List (List UInt8))×(List UInt8)×Unit):=(csC (cdL 1 cdS) (csC cdS csN))
def DU (r:Int):AV:=cdI.enc r
theorem EN (x0:(List (List UInt8))) (x1:(List UInt8)):∀ (f:Nat) (c1:Int) (r:(Unit) ⊕ (Int)),A1 x0 x1 f c1=some r->SemN E0 ⟨none,false⟩ (pc DR [1,0,1,0,0]) f ⟨Fr 19 [(0,.sl 1 (x0.map cdS.enc)),(1,.st x1),(7,.v (.int .i64 (x0.length:Int))),(8,.v (.int .i64 c1))],[]⟩ (fun e s=>match r with
 | (.inl _w)=>e=(.exit 0)/\Wk E0 s ⟨Fr 19 [],[]⟩
 | (.inr w)=>e = .ret/\Wk E0 s ⟨Fr 19 [(4,.v (.int .i64 w))],[]⟩):=by
 intro f;induction f with
 | zero=>intro c1 r h; cases h
 | succ f ih0 =>
  intro c1 r h
  have ih:=fun (c1:Int)=>ih0 c1 r
  unfold A1 at h;refine Ch ?_
  let p1:Nat×AV:=(8,.v (.int .i64 c1))
  let p2:Nat×AV:=(7,.v (.int .i64 (x0.length:Int)))
  let p3:Nat×AV:=(0,.sl 1 (x0.map cdS.enc))
  refine AK AC [p3,(1,.st x1),p2,p1,(9,.v (.bool (decide (c1 < (x0.length:Int)))))] [] ?_;refine AH ?_;refine AO (b:=(decide (c1 < (x0.length:Int)))) kr (fun hb2=>?_) (fun hb2=>?_)
  ·rw [if_pos hb2] at h
   refine AS ?_;refine AH ?_;refine Ay ?_
   let p4:Nat×AV:=(5,.v (.int .i64 c1))
   refine AK AC [p3,(1,.st x1),p4,p2,p1] [] ?_;refine AH ?_;obtain ⟨v3,hv3,h⟩:=OB h;refine AI (s1:=⟨Fr 19 [p3,(1,.st x1),p4,p2,p1,(16,.v (.bool (x1==v3)))],[]⟩) ?_ ?_
   ·refine AD (n:=19) AC 3 [p3,(1,.st x1),p4,p2,p1,(11,.st x1),(12,.sl 1 (x0.map cdS.enc)),(13,.v (.int .i64 c1))] [] kr ?_
    refine AP AC 0 rfl (Dq (AB rfl) rfl (Ac (a:= .sl 1 (x0.map cdS.enc)) (b:= .v (.int .i64 c1)) kr kr (Fa (e:=cdS.enc) (el:=9) (k:=1) (ki:= .i64) kr kr hv3))) ?_;exact AY AC
   refine AO (b:=(x1==v3)) kr (fun hb4=>?_) (fun hb4=>?_)
   ·rw [if_pos hb4] at h
    refine AK AC [(4,.v (.int .i64 c1))] [] ?_;refine AQ ?_;have hq:=OI h; subst hq;exact ⟨rfl,AL⟩
   ·rw [CT hb4] at h
    refine AS ?_
    let p5:Nat×AV:=(8,.v (.int .i64 (wr .i64 (c1 + 1))))
    refine DO AC [p3,(1,.st x1),p2,p5] [] ?_;exact A9 (s1:=⟨Fr 19 [p3,(1,.st x1),p2,p5],[]⟩) AL (ih (wr .i64 (c1 + 1)) h)
  ·rw [CT hb2] at h
   refine DE ?_;have hq:=OI h; subst hq;exact ⟨rfl,AL⟩
theorem HC (x0:(List (List UInt8))) (x1:(List UInt8)) (r:Int) (h:BM x0 x1=some r):Sem E0 ⟨none,false⟩ DR ⟨Fr 19 (BG 0 (DT.enc (x0,x1,()))),[]⟩ fun e s'=>(e = .normal\/e = .ret)/\∃ xs,Ef E0.P s'.fr s'.hp Tryz.f41.results.toList=some xs/\Eh xs=DU r:=by
 unfold BM at h
 let p1:Nat×AV:=(0,.sl 1 (x0.map cdS.enc))
 refine A7 (Bt (s1:=⟨Fr 19 [p1,(1,.st x1)],[]⟩) AL ?_);refine AK AC [p1,(1,.st x1)] [] ?_;refine AH ?_;refine AH ?_
 let p2:Nat×AV:=(8,.v (.int .i64 0))
 let p3:Nat×AV:=(7,.v (.int .i64 (x0.length:Int)))
 refine AI (s1:=⟨Fr 19 [p1,(1,.st x1),p3,p2],[]⟩) ?_ ?_
 ·refine AD (n:=19) AC 1 [p1,(1,.st x1),(6,.sl 1 (x0.map cdS.enc))] [] kr ?_
  refine AP AC 0 rfl (Dq (AB rfl) rfl (Dg (a:= .sl 1 (x0.map cdS.enc)) kr (CW (el:=9) kr))) ?_;exact AY AC
 refine Ay ?_;obtain ⟨r6,hr6,h⟩:=OB h;refine DF (n:=100000) ?_;rcases r6 with w7 | w8
 ·try dsimp only at h
  refine Bd (A9 (s1:=⟨Fr 19 [p1,(1,.st x1),p3,p2],[]⟩) AL (EN x0 x1 _ 0 _ hr6)) ?_;refine AK AC [(4,.v (.int .i64 (-1)))] [] ?_;refine AQ ?_;have hq:=OI h; subst hq;exact ⟨⟨Fr 19 [(4,.v (.int .i64 (-1)))],[]⟩,AL,.inr rfl,[.v (.int .i64 (-1))],kr,kr⟩
 ·try dsimp only at h
  refine Bd (A9 (s1:=⟨Fr 19 [p1,(1,.st x1),p3,p2],[]⟩) AL (EN x0 x1 _ 0 _ hr6)) ?_;have hq:=OI h; subst hq;exact ⟨⟨Fr 19 [(4,.v (.int .i64 w8))],[]⟩,AL,.inr rfl,[.v (.int .i64 w8)],kr,kr⟩
def Hx:List AV->Option AV:=Dx DT (fun a=>BM a.1 a.2.1) DU
theorem Ey:XOk 41 Hx:=by
 refine AU Tryz.func41 (c:=DR) ?h2 ⟨Tryz.call41⟩ DT (fun a=>BM a.1 a.2.1) DU (fun a=>(by show 2<=19; decide)) ?h3 ?h4
 case h2=>kernel_rfl
 case h3=>intro b; kernel_rfl
 case h4=>exact fun a b h=>HC a.1 a.2.1 b h
/- slices.Contains[[]string,string] -/
noncomputable def EM:Code:=BS Tryz.f97
def As (x0:(List (List UInt8))) (x1:(List UInt8)):Option (Bool) :=
 (BM x0 x1).bind fun v1 =>
 some (decide (v1≥0))
def Cz:Cs ((List (List UInt8))×(List UInt8)×Unit):=(csC (cdL 1 cdS) (csC cdS csN))
def C0 (r:Bool):AV:=cdB.enc r
theorem Gh (x0:(List (List UInt8))) (x1:(List UInt8)) (r:Bool) (h:As x0 x1=some r):Sem E0 ⟨none,false⟩ EM ⟨Fr 9 (BG 0 (Cz.enc (x0,x1,()))),[]⟩ fun e s'=>(e = .normal\/e = .ret)/\∃ xs,Ef E0.P s'.fr s'.hp Tryz.f97.results.toList=some xs/\Eh xs=C0 r:=by
 unfold As at h;refine A7 (Bt (s1:=⟨Fr 9 [(0,.sl 1 (x0.map cdS.enc)),(1,.st x1)],[]⟩) AL ?_);refine AK AC [(0,.sl 1 (x0.map cdS.enc)),(1,.st x1)] [] ?_;refine AH ?_;obtain ⟨v1,hv1,h⟩:=OB h
 let p1:Nat×AV:=(4,.v (.bool (decide (v1≥0))))
 refine AI (s1:=⟨Fr 9 [p1],[]⟩) ?_ ?_
 ·refine AD (n:=9) AC 2 [(5,.sl 1 (x0.map cdS.enc)),(6,.st x1)] [] kr ?_
  refine AW (caps:=[]) (xs:=[.sl 1 (x0.map cdS.enc),.st x1]) (u:=(x0,x1,())) rfl rfl Ey rfl (AB rfl) kr kr (AN (AZ (c:=(cdL 1 cdS)) (v:=x0)) (AN (AZ (c:=cdS) (v:=x1)) BA)) (.inl kr) hv1 ?_;exact AY AC
 refine AQ ?_;have hq:=OI h; subst hq;exact ⟨⟨Fr 9 [p1],[]⟩,AL,.inr rfl,[.v (.bool (decide (v1≥0)))],kr,kr⟩
def G3:List AV->Option AV:=Dx Cz (fun a=>As a.1 a.2.1) C0
theorem CV:XOk 97 G3:=by
 refine AU Tryz.func97 (c:=EM) ?h2 ⟨Tryz.call97⟩ Cz (fun a=>As a.1 a.2.1) C0 (fun a=>(by show 2<=9; decide)) ?h3 ?h4
 case h2=>kernel_rfl
 case h3=>intro b; kernel_rfl
 case h4=>exact fun a b h=>Gh a.1 a.2.1 b h
/- trestle/court.check$2 -/
noncomputable def Jc:Code:=BS Tryz.f161
def Ep (x0:AF) (x1:AF):Option (Bool) :=
 (if (x0.1==1)=true then (As x0.2.2.2.1 x1.2.1).bind fun v1 =>
 some v1 else some false).bind fun j3 =>
 some j3
def HS:Cs (AF×AF×Unit):=(csC AA (csC (cdP AA) csN))
def Hf (r:Bool):AV:=cdB.enc r
theorem Ly (x0:AF) (x1:AF) (r:Bool) (h:Ep x0 x1=some r):Sem E0 ⟨none,false⟩ Jc ⟨Fr 14 (BG 0 (HS.enc (x0,x1,()))),[]⟩ fun e s'=>(e = .normal\/e = .ret)/\∃ xs,Ef E0.P s'.fr s'.hp Tryz.f161.results.toList=some xs/\Eh xs=Hf r:=by
 unfold Ep at h;refine A7 (Bt (s1:=⟨Fr 14 [(0,AA.enc x0),(1,.pe (AA.enc x1) 0)],[]⟩) AL ?_);refine AK AC [(1,.pe (AA.enc x1) 0),(2,.pt 0 0 0)] [some ⟨5,60,[AA.enc x0],false⟩] ?_;refine AH ?_;obtain ⟨j3,hj3,h⟩:=OB h;refine AI (s1:=⟨Fr 14 [(3,.v (.bool j3))],[]⟩) ?_ ?_
 ·refine AD (n:=14) AC 4 [(1,.pe (AA.enc x1) 0),(2,.pt 0 0 0),(7,.v (.bool (x0.1==1)))] [some ⟨5,60,[AA.enc x0],false⟩] kr ?_
  rcases BE (x0.1==1) with hc4 | hc4
  ·rw [if_pos hc4] at hj3
   rw [hc4];refine AD (n:=14) AC 4 [(7,.v (.bool true)),(9,.sl 1 (x0.2.2.2.1.map cdS.enc)),(11,.st x1.2.1)] [some ⟨5,60,[AA.enc x0],false⟩] kr ?_;obtain ⟨v1,hv1,hj3⟩:=OB hj3;refine AW (caps:=[]) (xs:=[.sl 1 (x0.2.2.2.1.map cdS.enc),.st x1.2.1]) (u:=(x0.2.2.2.1,x1.2.1,())) rfl rfl CV rfl kr kr kr (AN (AZ (c:=(cdL 1 cdS)) (v:=x0.2.2.2.1)) (AN (AZ (c:=cdS) (v:=x1.2.1)) BA)) (.inl kr) hv1 ?_;refine AD (n:=14) AC 2 [(3,.v (.bool v1))] [some ⟨5,60,[AA.enc x0],false⟩] kr ?_;have hq:=OI hj3; subst hq;exact AJ rfl (An [] trivial ⟨lv,trivial⟩)
  ·rw [CT hc4] at hj3
   rw [hc4];refine AD (n:=14) AC 7 [(3,.v (.bool false))] [some ⟨5,60,[AA.enc x0],false⟩] kr ?_;have hq:=OI hj3; subst hq;exact AJ rfl (An [] trivial ⟨lv,trivial⟩)
 refine AQ ?_;have hq:=OI h; subst hq;exact ⟨⟨Fr 14 [(3,.v (.bool j3))],[]⟩,AL,.inr rfl,[.v (.bool j3)],kr,kr⟩
def Nq:List AV->Option AV:=Dx HS (fun a=>Ep a.1 a.2.1) Hf
theorem N8:XOk 161 Nq:=by
 refine AU Tryz.func161 (c:=Jc) ?h2 ⟨Tryz.call161⟩ HS (fun a=>Ep a.1 a.2.1) Hf (fun a=>(by show 2<=14; decide)) ?h3 ?h4
 case h2=>kernel_rfl
 case h3=>intro b; kernel_rfl
 case h4=>exact fun a b h=>Ly a.1 a.2.1 b h
/- slices.IndexFunc[[]trestle/api.Clause,trestle/api.Clause] -/
noncomputable def BI:Code:=BS Tryz.f85
def Ao (x0:(List AF)) (x1:AF):Nat->Int->Option ((Unit) ⊕ (Int))
 | 0,_=>none
 | f + 1,c1 =>
  if (decide (c1 < (x0.length:Int)))=true then
  (idx x0 c1).bind fun v3 =>
  (Ep v3 x1).bind fun v4 =>
  if v4=true then
  some (.inr c1)
  else
  Ao x0 x1 f (wr .i64 (c1 + 1))
  else
  some (.inl ())
def Ae (x0:(List AF)) (x1:AF):Option (Int) :=
 (Ao x0 x1 100000 0).bind fun r7 =>
 match r7 with
 | (.inl _w8) =>
  some (-1)
 | (.inr w9) =>
  some w9
def BJ:Cs ((List AF)×AF×Unit):=(csC (cdL 5 AA) (csC (cdF 161 (csE (cdP AA)) (fun _=>rfl)) csN))
def BK (r:Int):AV:=cdI.enc r
theorem B6 (x0:(List AF)) (x1:AF):∀ (f:Nat) (c1:Int) (r:(Unit) ⊕ (Int)),Ao x0 x1 f c1=some r->SemN E0 ⟨none,false⟩ (pc BI [1,0,1,0,0]) f ⟨Fr 19 [(0,.sl 5 (x0.map AA.enc)),(1,.fn 161 [] [.pe (AA.enc x1) 0]),(7,.v (.int .i64 (x0.length:Int))),(8,.v (.int .i64 c1))],[]⟩ (fun e s=>match r with
 | (.inl _w)=>e=(.exit 0)/\Wk E0 s ⟨Fr 19 [],[]⟩
 | (.inr w)=>e = .ret/\Wk E0 s ⟨Fr 19 [(4,.v (.int .i64 w))],[]⟩):=by
 intro f;induction f with
 | zero=>intro c1 r h; cases h
 | succ f ih0 =>
  intro c1 r h
  have ih:=fun (c1:Int)=>ih0 c1 r
  unfold Ao at h;refine Ch ?_
  let p1:Nat×AV:=(8,.v (.int .i64 c1))
  let p2:Nat×AV:=(7,.v (.int .i64 (x0.length:Int)))
  let p3:Nat×AV:=(1,.fn 161 [] [.pe (AA.enc x1) 0])
  let p4:Nat×AV:=(0,.sl 5 (x0.map AA.enc))
  refine AK AC [p4,p3,p2,p1,(9,.v (.bool (decide (c1 < (x0.length:Int)))))] [] ?_;refine AH ?_;refine AO (b:=(decide (c1 < (x0.length:Int)))) kr (fun hb2=>?_) (fun hb2=>?_)
  ·rw [if_pos hb2] at h
   refine AS ?_;refine AH ?_;refine Ay ?_
   let p5:Nat×AV:=(5,.v (.int .i64 c1))
   refine AK AC [p4,p3,p5,p2,p1] [] ?_;refine AH ?_;obtain ⟨v3,hv3,h⟩:=OB h;obtain ⟨v4,hv4,h⟩:=OB h;refine AI (s1:=⟨Fr 19 [p4,p3,p5,p2,p1,(16,.v (.bool v4))],[]⟩) ?_ ?_
   ·let p6:Nat×AV:=(11,.fn 161 [] [.pe (AA.enc x1) 0])
    refine AD (n:=19) AC 3 [p4,p3,p5,p2,p1,p6,(12,.sl 5 (x0.map AA.enc)),(13,.v (.int .i64 c1))] [] kr ?_;refine AP AC 0 rfl (Dq (AB rfl) rfl (Ac (a:= .sl 5 (x0.map AA.enc)) (b:= .v (.int .i64 c1)) kr kr (Fa (e:=AA.enc) (el:=60) (k:=5) (ki:= .i64) kr kr hv3))) ?_;refine AD (n:=19) AC 1 [p4,p3,p5,p2,p1,p6,(15,AA.enc v3)] [] kr ?_;refine AW (caps:=[.pe (AA.enc x1) 0]) (xs:=[AA.enc v3]) (u:=(v3,x1,())) rfl rfl N8 rfl (AB rfl) kr kr (AN (AZ (c:=AA) (v:=v3)) (AN (AZ (c:=(cdP AA)) (v:=x1)) BA)) (.inl kr) hv4 ?_;exact AJ rfl AL
   refine AO (b:=v4) kr (fun hb5=>?_) (fun hb5=>?_)
   ·rw [if_pos hb5] at h
    refine AK AC [(4,.v (.int .i64 c1))] [] ?_;refine AQ ?_;have hq:=OI h; subst hq;exact ⟨rfl,AL⟩
   ·rw [CT hb5] at h
    refine AS ?_
    let p7:Nat×AV:=(8,.v (.int .i64 (wr .i64 (c1 + 1))))
    refine DO AC [p4,p3,p2,p7] [] ?_;exact A9 (s1:=⟨Fr 19 [p4,p3,p2,p7],[]⟩) AL (ih (wr .i64 (c1 + 1)) h)
  ·rw [CT hb2] at h
   refine DE ?_;have hq:=OI h; subst hq;exact ⟨rfl,AL⟩
theorem DN (x0:(List AF)) (x1:AF) (r:Int) (h:Ae x0 x1=some r):Sem E0 ⟨none,false⟩ BI ⟨Fr 19 (BG 0 (BJ.enc (x0,x1,()))),[]⟩ fun e s'=>(e = .normal\/e = .ret)/\∃ xs,Ef E0.P s'.fr s'.hp Tryz.f85.results.toList=some xs/\Eh xs=BK r:=by
 unfold Ae at h
 let p1:Nat×AV:=(1,.fn 161 [] [.pe (AA.enc x1) 0])
 let p2:Nat×AV:=(0,.sl 5 (x0.map AA.enc))
 refine A7 (Bt (s1:=⟨Fr 19 [p2,p1],[]⟩) AL ?_);refine AK AC [p2,p1] [] ?_;refine AH ?_;refine AH ?_
 let p3:Nat×AV:=(8,.v (.int .i64 0))
 let p4:Nat×AV:=(7,.v (.int .i64 (x0.length:Int)))
 refine AI (s1:=⟨Fr 19 [p2,p1,p4,p3],[]⟩) ?_ ?_
 ·refine AD (n:=19) AC 1 [p2,p1,(6,.sl 5 (x0.map AA.enc))] [] kr ?_
  refine AP AC 0 rfl (Dq (AB rfl) rfl (Dg (a:= .sl 5 (x0.map AA.enc)) kr (CW (el:=60) kr))) ?_;exact AY AC
 refine Ay ?_;obtain ⟨r7,hr7,h⟩:=OB h;refine DF (n:=100000) ?_;rcases r7 with w8 | w9
 ·try dsimp only at h
  refine Bd (A9 (s1:=⟨Fr 19 [p2,p1,p4,p3],[]⟩) AL (B6 x0 x1 _ 0 _ hr7)) ?_;refine AK AC [(4,.v (.int .i64 (-1)))] [] ?_;refine AQ ?_;have hq:=OI h; subst hq;exact ⟨⟨Fr 19 [(4,.v (.int .i64 (-1)))],[]⟩,AL,.inr rfl,[.v (.int .i64 (-1))],kr,kr⟩
 ·try dsimp only at h
  refine Bd (A9 (s1:=⟨Fr 19 [p2,p1,p4,p3],[]⟩) AL (B6 x0 x1 _ 0 _ hr7)) ?_;have hq:=OI h; subst hq;exact ⟨⟨Fr 19 [(4,.v (.int .i64 w9))],[]⟩,AL,.inr rfl,[.v (.int .i64 w9)],kr,kr⟩
def DX:List AV->Option AV:=Dx BJ (fun a=>Ae a.1 a.2.1) BK
theorem DY:XOk 85 DX:=by
 refine AU Tryz.func85 (c:=BI) ?h2 ⟨Tryz.call85⟩ BJ (fun a=>Ae a.1 a.2.1) BK (fun a=>(by show 2<=19; decide)) ?h3 ?h4
 case h2=>kernel_rfl
 case h3=>intro b; kernel_rfl
 case h4=>exact fun a b h=>DN a.1 a.2.1 b h
/- slices.ContainsFunc[[]trestle/api.Clause,trestle/api.Clause] -/
noncomputable def By:Code:=BS Tryz.f53
def AT (x0:(List AF)) (x1:AF):Option (Bool) :=
 (Ae x0 x1).bind fun v1 =>
 some (decide (v1≥0))
def BD:Cs ((List AF)×AF×Unit):=(csC (cdL 5 AA) (csC (cdF 161 (csE (cdP AA)) (fun _=>rfl)) csN))
def BF (r:Bool):AV:=cdB.enc r
theorem C3 (x0:(List AF)) (x1:AF) (r:Bool) (h:AT x0 x1=some r):Sem E0 ⟨none,false⟩ By ⟨Fr 9 (BG 0 (BD.enc (x0,x1,()))),[]⟩ fun e s'=>(e = .normal\/e = .ret)/\∃ xs,Ef E0.P s'.fr s'.hp Tryz.f53.results.toList=some xs/\Eh xs=BF r:=by
 unfold AT at h
 let p1:Nat×AV:=(1,.fn 161 [] [.pe (AA.enc x1) 0])
 let p2:Nat×AV:=(0,.sl 5 (x0.map AA.enc))
 refine A7 (Bt (s1:=⟨Fr 9 [p2,p1],[]⟩) AL ?_);refine AK AC [p2,p1] [] ?_;refine AH ?_;obtain ⟨v1,hv1,h⟩:=OB h
 let p3:Nat×AV:=(4,.v (.bool (decide (v1≥0))))
 refine AI (s1:=⟨Fr 9 [p3],[]⟩) ?_ ?_
 ·refine AD (n:=9) AC 2 [(5,.sl 5 (x0.map AA.enc)),(6,.fn 161 [] [.pe (AA.enc x1) 0])] [] kr ?_
  refine AW (caps:=[]) (xs:=[.sl 5 (x0.map AA.enc),.fn 161 [] [.pe (AA.enc x1) 0]]) (u:=(x0,x1,())) rfl rfl DY rfl (AB rfl) kr kr (AN (AZ (c:=(cdL 5 AA)) (v:=x0)) (AN (Sm.fn (Lp (AZ (c:=(cdP AA)) (v:=x1)))) BA)) (.inl kr) hv1 ?_;exact AY AC
 refine AQ ?_;have hq:=OI h; subst hq;exact ⟨⟨Fr 9 [p3],[]⟩,AL,.inr rfl,[.v (.bool (decide (v1≥0)))],kr,kr⟩
def DJ:List AV->Option AV:=Dx BD (fun a=>AT a.1 a.2.1) BF
theorem DK:XOk 53 DJ:=by
 refine AU Tryz.func53 (c:=By) ?h2 ⟨Tryz.call53⟩ BD (fun a=>AT a.1 a.2.1) BF (fun a=>(by show 2<=9; decide)) ?h3 ?h4
 case h2=>kernel_rfl
 case h3=>intro b; kernel_rfl
 case h4=>exact fun a b h=>C3 a.1 a.2.1 b h
/- trestle/court.check -/
noncomputable def Ie:Code:=BS Tryz.f128
def Df (x0:(List AF)) (x1:AF):Nat->Int->Option ((Unit) ⊕ (Int))
 | 0,_=>none
 | f + 1,c9 =>
  if (decide (c9 < (x1.2.2.2.1.length:Int)))=true then
  (idx x1.2.2.2.1 c9).bind fun v11 =>
  if (Do 0 c9 x1.2.2.2.1.length)=true then
  (As ((x1.2.2.2.1.take c9.toNat).drop (0:Int).toNat) v11).bind fun v13 =>
  if v13=true then
  some (.inr 5)
  else
  Df x0 x1 f (wr .i64 (c9 + 1))
  else none
  else
  some (.inl ())
def Fp (x0:(List AF)) (x1:AF):Option (Int) :=
 (Bg x1).bind fun v1 =>
 if (!v1)=true then
 some 30
 else
 (if (!(x1.2.1==[]))=true then (F4 x1.2.1).bind fun v3 =>
 if (!v3)=true then some true else (AX x1.2.2.2.1).bind fun v4 =>
 some v4 else (AX x1.2.2.2.1).bind fun v5 =>
 some v5).bind fun j7 =>
 if j7=true then
 some 4
 else
 (Df x0 x1 100000 0).bind fun r16 =>
 match r16 with
 | (.inl _w17) =>
  (if (x1.2.1==[])=true then some true else (AT x0 x1).bind fun v18 =>
  some v18).bind fun j20 =>
  if j20=true then
  some 0
  else
  some 31
 | (.inr w23) =>
  some w23
def Ig:Cs ((List AF)×AF×Unit):=(csC (cdL 5 AA) (csC AA csN))
def Ik (r:Int):AV:=cdI.enc r
theorem Iy (x0:(List AF)) (x1:AF):∀ (f:Nat) (c9:Int) (r:(Unit) ⊕ (Int)),Df x0 x1 f c9=some r->SemN E0 ⟨none,false⟩ (pc Ie [1,1,1,0,1,0,0]) f ⟨Fr 47 [(0,.sl 5 (x0.map AA.enc)),(3,.pt 0 0 0),(25,.sl 1 (x1.2.2.2.1.map cdS.enc)),(26,.v (.int .i64 (x1.2.2.2.1.length:Int))),(27,.v (.int .i64 c9))],[some ⟨5,60,[AA.enc x1],false⟩]⟩ (fun e s=>match r with
 | (.inl _w)=>e=(.exit 0)/\Wk E0 s ⟨Fr 47 [(0,.sl 5 (x0.map AA.enc)),(3,.pt 0 0 0)],[some ⟨5,60,[AA.enc x1],false⟩]⟩
 | (.inr w)=>e = .ret/\Wk E0 s ⟨Fr 47 [(4,.v (.int .i64 w))],[]⟩):=by
 intro f;induction f with
 | zero=>intro c9 r h; cases h
 | succ f ih0 =>
  intro c9 r h
  have ih:=fun (c9:Int)=>ih0 c9 r
  unfold Df at h;refine Ch ?_
  let p1:Option Blk:=some ⟨5,60,[AA.enc x1],false⟩
  let p2:Nat×AV:=(27,.v (.int .i64 c9))
  let p3:Nat×AV:=(26,.v (.int .i64 (x1.2.2.2.1.length:Int)))
  let p4:Nat×AV:=(25,.sl 1 (x1.2.2.2.1.map cdS.enc))
  let p5:Nat×AV:=(3,.pt 0 0 0)
  let p6:Nat×AV:=(0,.sl 5 (x0.map AA.enc))
  refine AK AC [p6,p5,p4,p3,p2,(28,.v (.bool (decide (c9 < (x1.2.2.2.1.length:Int)))))] [p1] ?_;refine AH ?_;refine AO (b:=(decide (c9 < (x1.2.2.2.1.length:Int)))) kr (fun hb10=>?_) (fun hb10=>?_)
  ·rw [if_pos hb10] at h
   refine AS ?_;refine AH ?_;refine Ay ?_;refine AH ?_;obtain ⟨v11,hv11,h⟩:=OB h;refine AI (s1:=⟨Fr 47 [p6,p5,(5,.v (.int .i64 c9)),(6,.st v11),p4,p3,p2],[p1]⟩) ?_ ?_
   ·refine AD (n:=47) AC 1 [p6,p5,p4,p3,p2,(29,.v (.int .i64 c9))] [p1] kr ?_
    refine AP AC 0 rfl (Dq (AB rfl) rfl (Ac (a:= .sl 1 (x1.2.2.2.1.map cdS.enc)) (b:= .v (.int .i64 c9)) kr kr (Fa (e:=cdS.enc) (el:=9) (k:=1) (ki:= .i64) kr kr hv11))) ?_;exact AY AC
   refine AH ?_;by_cases hk12:(Do 0 c9 x1.2.2.2.1.length)=true
   case neg=>rw [if_neg hk12] at h; cases h
   rw [if_pos hk12] at h;obtain ⟨v13,hv13,h⟩:=OB h;refine AI (s1:=⟨Fr 47 [p6,p5,p4,p3,p2,(37,.v (.bool v13))],[p1]⟩) ?_ ?_
   ·refine AD (n:=47) AC 3 [p6,p5,(6,.st v11),p4,p3,p2,(33,.sl 1 (x1.2.2.2.1.map cdS.enc)),(34,.v (.int .i64 c9))] [p1] kr ?_
    refine AP AC 0 rfl (Dq (AB rfl) rfl (FO (a:= .sl 1 (x1.2.2.2.1.map cdS.enc)) (l:=none) (u:=(some (.v (.int .i64 c9)))) (m:=none) kr kr kr rfl (Lf (xs:=x1.2.2.2.1) (e:=cdS.enc) (k:=1) (el:=9) (lo:=0) (hi:=c9) kr kr rfl (HA (Km hk12)) hk12))) ?_;refine AD (n:=47) AC 1 [p6,p5,p4,p3,p2,(35,.sl 1 (((x1.2.2.2.1.take c9.toNat).drop (0:Int).toNat).map cdS.enc)),(36,.st v11)] [p1] kr ?_;refine AW (caps:=[]) (xs:=[.sl 1 (((x1.2.2.2.1.take c9.toNat).drop (0:Int).toNat).map cdS.enc),.st v11]) (u:=(((x1.2.2.2.1.take c9.toNat).drop (0:Int).toNat),v11,())) rfl rfl CV rfl (AB rfl) kr kr (AN (AZ (c:=(cdL 1 cdS)) (v:=((x1.2.2.2.1.take c9.toNat).drop (0:Int).toNat))) (AN (AZ (c:=cdS) (v:=v11)) BA)) (.inl kr) hv13 ?_;exact AJ rfl (An [0] ⟨⟨_,rfl,Cm⟩,trivial⟩ ⟨lv,lv,lv,lv,lv,lv,trivial⟩)
   refine AO (b:=v13) kr (fun hb14=>?_) (fun hb14=>?_)
   ·rw [if_pos hb14] at h
    refine AH ?_;refine AI (s1:=⟨Fr 47 [(4,.v (.int .i64 5))],[]⟩) ?_ ?_
    ·refine AD (n:=47) AC 1 [(4,.v (.int .i64 5))] [p1] kr ?_
     exact AJ rfl (An [] trivial ⟨lv,trivial⟩)
    refine AQ ?_;have hq:=OI h; subst hq;exact ⟨rfl,AL⟩
   ·rw [CT hb14] at h
    refine AS ?_
    let p7:Nat×AV:=(27,.v (.int .i64 (wr .i64 (c9 + 1))))
    refine DO AC [p6,p5,p4,p3,p7] [p1] ?_;exact A9 (s1:=⟨Fr 47 [p6,p5,p4,p3,p7],[p1]⟩) (An [0] ⟨⟨_,rfl,Cm⟩,trivial⟩ ⟨lv,lv,lv,lv,lv,trivial⟩) (ih (wr .i64 (c9 + 1)) h)
  ·rw [CT hb10] at h
   refine DE ?_;have hq:=OI h; subst hq;exact ⟨rfl,(An [0] ⟨⟨_,rfl,Cm⟩,trivial⟩ ⟨lv,lv,trivial⟩)⟩
theorem NN (x0:(List AF)) (x1:AF) (r:Int) (h:Fp x0 x1=some r):Sem E0 ⟨none,false⟩ Ie ⟨Fr 47 (BG 0 (Ig.enc (x0,x1,()))),[]⟩ fun e s'=>(e = .normal\/e = .ret)/\∃ xs,Ef E0.P s'.fr s'.hp Tryz.f128.results.toList=some xs/\Eh xs=Ik r:=by
 unfold Fp at h;refine A7 (Bt (s1:=⟨Fr 47 [(0,.sl 5 (x0.map AA.enc)),(1,AA.enc x1)],[]⟩) AL ?_);refine AK AC [(0,.sl 5 (x0.map AA.enc)),(3,.pt 0 0 0)] [some ⟨5,60,[AA.enc x1],false⟩] ?_;refine AH ?_;refine AH ?_;obtain ⟨v1,hv1,h⟩:=OB h;refine AI (s1:=⟨Fr 47 [(0,.sl 5 (x0.map AA.enc)),(3,.pt 0 0 0),(9,.v (.bool (!v1)))],[some ⟨5,60,[AA.enc x1],false⟩]⟩) ?_ ?_
 ·refine AD (n:=47) AC 1 [(0,.sl 5 (x0.map AA.enc)),(3,.pt 0 0 0),(7,AA.enc x1)] [some ⟨5,60,[AA.enc x1],false⟩] kr ?_
  refine AW (caps:=[]) (xs:=[AA.enc x1]) (u:=(x1,())) rfl rfl Of rfl (AB rfl) kr kr (AN (AZ (c:=AA) (v:=x1)) BA) (.inl kr) hv1 ?_;exact AY AC
 refine AO (b:=(!v1)) kr (fun hb2=>?_) (fun hb2=>?_)
 ·rw [if_pos hb2] at h
  refine AH ?_;refine AI (s1:=⟨Fr 47 [(4,.v (.int .i64 30))],[]⟩) ?_ ?_
  ·refine AD (n:=47) AC 1 [(4,.v (.int .i64 30))] [some ⟨5,60,[AA.enc x1],false⟩] kr ?_
   exact AJ rfl (An [] trivial ⟨lv,trivial⟩)
  refine AQ ?_;have hq:=OI h; subst hq;exact ⟨⟨Fr 47 [(4,.v (.int .i64 30))],[]⟩,AL,.inr rfl,[.v (.int .i64 30)],kr,kr⟩
 ·rw [CT hb2] at h
  refine AS ?_;refine AH ?_;refine AH ?_;obtain ⟨j7,hj7,h⟩:=OB h;refine AI (s1:=⟨Fr 47 [(0,.sl 5 (x0.map AA.enc)),(3,.pt 0 0 0),(23,.v (.bool j7))],[some ⟨5,60,[AA.enc x1],false⟩]⟩) ?_ ?_
  ·refine AD (n:=47) AC 4 [(0,.sl 5 (x0.map AA.enc)),(3,.pt 0 0 0),(13,.v (.bool (!(x1.2.1==[]))))] [some ⟨5,60,[AA.enc x1],false⟩] kr ?_
   rcases BE (!(x1.2.1==[])) with hc24 | hc24
   ·rw [if_pos hc24] at hj7
    rw [hc24];refine AD (n:=47) AC 2 [(0,.sl 5 (x0.map AA.enc)),(3,.pt 0 0 0),(13,.v (.bool true)),(15,.st x1.2.1)] [some ⟨5,60,[AA.enc x1],false⟩] kr ?_;obtain ⟨v3,hv3,hj7⟩:=OB hj7;refine AW (caps:=[]) (xs:=[.st x1.2.1]) (u:=(x1.2.1,())) rfl rfl Mc rfl kr kr kr (AN (AZ (c:=cdS) (v:=x1.2.1)) BA) (.inl kr) hv3 ?_;refine AD (n:=47) AC 3 [(0,.sl 5 (x0.map AA.enc)),(3,.pt 0 0 0),(19,.v (.bool (!v3)))] [some ⟨5,60,[AA.enc x1],false⟩] kr ?_;rcases BE (!v3) with hc25 | hc25
    ·rw [if_pos hc25] at hj7
     rw [hc25];refine AD (n:=47) AC 4 [(0,.sl 5 (x0.map AA.enc)),(3,.pt 0 0 0),(23,.v (.bool true))] [some ⟨5,60,[AA.enc x1],false⟩] kr ?_;have hq:=OI hj7; subst hq;exact AJ rfl (An [0] ⟨⟨_,rfl,Cm⟩,trivial⟩ ⟨lv,lv,lv,trivial⟩)
    ·rw [CT hc25] at hj7
     rw [hc25];refine AD (n:=47) AC 2 [(0,.sl 5 (x0.map AA.enc)),(3,.pt 0 0 0),(19,.v (.bool false)),(21,.sl 1 (x1.2.2.2.1.map cdS.enc))] [some ⟨5,60,[AA.enc x1],false⟩] kr ?_;obtain ⟨v4,hv4,hj7⟩:=OB hj7;refine AW (caps:=[]) (xs:=[.sl 1 (x1.2.2.2.1.map cdS.enc),.fn 160 [] []]) (u:=(x1.2.2.2.1,(),())) rfl rfl CU rfl kr kr kr (AN (AZ (c:=(cdL 1 cdS)) (v:=x1.2.2.2.1)) (AN (Sm.fn BA) BA)) (.inl kr) hv4 ?_;refine AD (n:=47) AC 1 [(0,.sl 5 (x0.map AA.enc)),(3,.pt 0 0 0),(23,.v (.bool v4))] [some ⟨5,60,[AA.enc x1],false⟩] kr ?_;have hq:=OI hj7; subst hq;exact AJ rfl (An [0] ⟨⟨_,rfl,Cm⟩,trivial⟩ ⟨lv,lv,lv,trivial⟩)
   ·rw [CT hc24] at hj7
    rw [hc24];refine AD (n:=47) AC 8 [(0,.sl 5 (x0.map AA.enc)),(3,.pt 0 0 0),(19,.v (.bool false)),(21,.sl 1 (x1.2.2.2.1.map cdS.enc))] [some ⟨5,60,[AA.enc x1],false⟩] kr ?_;obtain ⟨v5,hv5,hj7⟩:=OB hj7;refine AW (caps:=[]) (xs:=[.sl 1 (x1.2.2.2.1.map cdS.enc),.fn 160 [] []]) (u:=(x1.2.2.2.1,(),())) rfl rfl CU rfl kr kr kr (AN (AZ (c:=(cdL 1 cdS)) (v:=x1.2.2.2.1)) (AN (Sm.fn BA) BA)) (.inl kr) hv5 ?_;refine AD (n:=47) AC 1 [(0,.sl 5 (x0.map AA.enc)),(3,.pt 0 0 0),(23,.v (.bool v5))] [some ⟨5,60,[AA.enc x1],false⟩] kr ?_;have hq:=OI hj7; subst hq;exact AJ rfl (An [0] ⟨⟨_,rfl,Cm⟩,trivial⟩ ⟨lv,lv,lv,trivial⟩)
  refine AO (b:=j7) kr (fun hb8=>?_) (fun hb8=>?_)
  ·rw [if_pos hb8] at h
   refine AH ?_;refine AI (s1:=⟨Fr 47 [(4,.v (.int .i64 4))],[]⟩) ?_ ?_
   ·refine AD (n:=47) AC 1 [(4,.v (.int .i64 4))] [some ⟨5,60,[AA.enc x1],false⟩] kr ?_
    exact AJ rfl (An [] trivial ⟨lv,trivial⟩)
   refine AQ ?_;have hq:=OI h; subst hq;exact ⟨⟨Fr 47 [(4,.v (.int .i64 4))],[]⟩,AL,.inr rfl,[.v (.int .i64 4)],kr,kr⟩
  ·rw [CT hb8] at h
   refine AS ?_;refine AH ?_;refine AH ?_;refine AI (s1:=⟨Fr 47 [(0,.sl 5 (x0.map AA.enc)),(3,.pt 0 0 0),(25,.sl 1 (x1.2.2.2.1.map cdS.enc)),(26,.v (.int .i64 (x1.2.2.2.1.length:Int))),(27,.v (.int .i64 0))],[some ⟨5,60,[AA.enc x1],false⟩]⟩) ?_ ?_
   ·refine AD (n:=47) AC 2 [(0,.sl 5 (x0.map AA.enc)),(3,.pt 0 0 0),(25,.sl 1 (x1.2.2.2.1.map cdS.enc))] [some ⟨5,60,[AA.enc x1],false⟩] kr ?_
    refine AP AC 0 rfl (Dq (AB rfl) rfl (Dg (a:= .sl 1 (x1.2.2.2.1.map cdS.enc)) kr (CW (el:=9) kr))) ?_;exact AY AC
   refine Ay ?_;obtain ⟨r16,hr16,h⟩:=OB h;refine DF (n:=100000) ?_;rcases r16 with w17 | w23
   ·try dsimp only at h
    refine Bd (A9 (s1:=⟨Fr 47 [(0,.sl 5 (x0.map AA.enc)),(3,.pt 0 0 0),(25,.sl 1 (x1.2.2.2.1.map cdS.enc)),(26,.v (.int .i64 (x1.2.2.2.1.length:Int))),(27,.v (.int .i64 0))],[some ⟨5,60,[AA.enc x1],false⟩]⟩) (An [0] ⟨⟨_,rfl,Cm⟩,trivial⟩ ⟨lv,lv,lv,lv,lv,trivial⟩) (Iy x0 x1 _ 0 _ hr16)) ?_;refine AH ?_;refine AH ?_;obtain ⟨j20,hj20,h⟩:=OB h;refine AI (s1:=⟨Fr 47 [(46,.v (.bool j20))],[]⟩) ?_ ?_
    ·refine AD (n:=47) AC 4 [(0,.sl 5 (x0.map AA.enc)),(3,.pt 0 0 0),(42,.v (.bool (x1.2.1==[])))] [some ⟨5,60,[AA.enc x1],false⟩] kr ?_
     rcases BE (x1.2.1==[]) with hc22 | hc22
     ·rw [if_pos hc22] at hj20
      rw [hc22];refine AD (n:=47) AC 4 [(46,.v (.bool true))] [some ⟨5,60,[AA.enc x1],false⟩] kr ?_;have hq:=OI hj20; subst hq;exact AJ rfl (An [] trivial ⟨lv,trivial⟩)
     ·rw [CT hc22] at hj20
      rw [hc22];refine AD (n:=47) AC 2 [(42,.v (.bool false)),(43,.sl 5 (x0.map AA.enc)),(44,.fn 161 [] [.pt 0 0 0])] [some ⟨5,60,[AA.enc x1],false⟩] kr ?_;obtain ⟨v18,hv18,hj20⟩:=OB hj20;refine AW (caps:=[]) (xs:=[.sl 5 (x0.map AA.enc),.fn 161 [] [.pt 0 0 0]]) (u:=(x0,x1,())) rfl rfl DK rfl kr kr kr (AN (AZ (c:=(cdL 5 AA)) (v:=x0)) (AN (Sm.fn (Lp (Sm.pt (k:=5) (t:=60) (fz:=false) (y:=(AA.enc x1)) kr (AZ (c:=AA) (v:=x1))))) BA)) (.inl kr) hv18 ?_;refine AD (n:=47) AC 1 [(46,.v (.bool v18))] [some ⟨5,60,[AA.enc x1],false⟩] kr ?_;have hq:=OI hj20; subst hq;exact AJ rfl (An [] trivial ⟨lv,trivial⟩)
    refine AO (b:=j20) kr (fun hb21=>?_) (fun hb21=>?_)
    ·rw [if_pos hb21] at h
     refine AK AC [(4,.v (.int .i64 0))] [] ?_;refine AQ ?_;have hq:=OI h; subst hq;exact ⟨⟨Fr 47 [(4,.v (.int .i64 0))],[]⟩,AL,.inr rfl,[.v (.int .i64 0)],kr,kr⟩
    ·rw [CT hb21] at h
     refine AS ?_;refine AK AC [(4,.v (.int .i64 31))] [] ?_;refine AQ ?_;have hq:=OI h; subst hq;exact ⟨⟨Fr 47 [(4,.v (.int .i64 31))],[]⟩,AL,.inr rfl,[.v (.int .i64 31)],kr,kr⟩
   ·try dsimp only at h
    refine Bd (A9 (s1:=⟨Fr 47 [(0,.sl 5 (x0.map AA.enc)),(3,.pt 0 0 0),(25,.sl 1 (x1.2.2.2.1.map cdS.enc)),(26,.v (.int .i64 (x1.2.2.2.1.length:Int))),(27,.v (.int .i64 0))],[some ⟨5,60,[AA.enc x1],false⟩]⟩) (An [0] ⟨⟨_,rfl,Cm⟩,trivial⟩ ⟨lv,lv,lv,lv,lv,trivial⟩) (Iy x0 x1 _ 0 _ hr16)) ?_;have hq:=OI h; subst hq;exact ⟨⟨Fr 47 [(4,.v (.int .i64 w23))],[]⟩,AL,.inr rfl,[.v (.int .i64 w23)],kr,kr⟩
def Pg:List AV->Option AV:=Dx Ig (fun a=>Fp a.1 a.2.1) Ik
theorem Pp:XOk 128 Pg:=by
 refine AU Tryz.func128 (c:=Ie) ?h2 ⟨Tryz.call128⟩ Ig (fun a=>Fp a.1 a.2.1) Ik (fun a=>(by show 2<=47; decide)) ?h3 ?h4
 case h2=>kernel_rfl
 case h3=>intro b; kernel_rfl
 case h4=>exact fun a b h=>NN a.1 a.2.1 b h
/- trestle/court.Check -/
noncomputable def Id:Code:=BS Tryz.f80
def De (x0:(List AF)):Nat->Int->Option ((Unit) ⊕ (Int×Int))
 | 0,_=>none
 | f + 1,c2 =>
  if (decide (c2 < (x0.length:Int)))=true then
  (idx x0 c2).bind fun v4 =>
  if (Do 0 c2 x0.length)=true then
  (Fp ((x0.take c2.toNat).drop (0:Int).toNat) v4).bind fun v6 =>
  if (v6 != 0)=true then
  some (.inr (c2,v6))
  else
  De x0 f (wr .i64 (c2 + 1))
  else none
  else
  some (.inl ())
def FD (x0:(List AF)):Option (Int×Int) :=
 if (decide ((x0.length:Int) > 32))=true then
 some (0,7)
 else
 (De x0 100000 0).bind fun r10 =>
 match r10 with
 | (.inl _w11) =>
  some (0,0)
 | (.inr w12) =>
  some (w12.1,w12.2)
def If:Cs ((List AF)×Unit):=(csC (cdL 5 AA) csN)
def Ii (r:Int×Int):AV:= .tp [cdI.enc r.1,cdI.enc r.2]
theorem Ix (x0:(List AF)):∀ (f:Nat) (c2:Int) (r:(Unit) ⊕ (Int×Int)),De x0 f c2=some r->SemN E0 ⟨none,false⟩ (pc Id [1,1,0,1,0,0]) f ⟨Fr 27 [(0,.sl 5 (x0.map AA.enc)),(10,.sl 5 (x0.map AA.enc)),(11,.v (.int .i64 (x0.length:Int))),(12,.v (.int .i64 c2))],[]⟩ (fun e s=>match r with
 | (.inl _w)=>e=(.exit 0)/\Wk E0 s ⟨Fr 27 [],[]⟩
 | (.inr w)=>e = .ret/\Wk E0 s ⟨Fr 27 [(2,.v (.int .i64 w.1)),(3,.v (.int .i64 w.2))],[]⟩):=by
 intro f;induction f with
 | zero=>intro c2 r h; cases h
 | succ f ih0 =>
  intro c2 r h
  have ih:=fun (c2:Int)=>ih0 c2 r
  unfold De at h;refine Ch ?_
  let p1:Nat×AV:=(12,.v (.int .i64 c2))
  let p2:Nat×AV:=(11,.v (.int .i64 (x0.length:Int)))
  let p3:Nat×AV:=(10,.sl 5 (x0.map AA.enc))
  let p4:Nat×AV:=(0,.sl 5 (x0.map AA.enc))
  refine AK AC [p4,p3,p2,p1,(13,.v (.bool (decide (c2 < (x0.length:Int)))))] [] ?_;refine AH ?_;refine AO (b:=(decide (c2 < (x0.length:Int)))) kr (fun hb3=>?_) (fun hb3=>?_)
  ·rw [if_pos hb3] at h
   refine AS ?_;refine AH ?_;refine Ay ?_;refine AH ?_;obtain ⟨v4,hv4,h⟩:=OB h
   let p5:Option Blk:=some ⟨5,60,[AA.enc v4],false⟩
   let p6:Nat×AV:=(4,.v (.int .i64 c2))
   refine AI (s1:=⟨Fr 27 [p4,p6,(5,.pt 0 0 0),p3,p2,p1],[p5]⟩) ?_ ?_
   ·refine AD (n:=27) AC 1 [p4,p3,p2,p1,(14,.v (.int .i64 c2))] [] kr ?_
    refine AP AC 0 rfl (Dq (AB rfl) rfl (Ac (a:= .sl 5 (x0.map AA.enc)) (b:= .v (.int .i64 c2)) kr kr (Fa (e:=AA.enc) (el:=60) (k:=5) (ki:= .i64) kr kr hv4))) ?_;exact AY AC
   refine AH ?_;by_cases hk5:(Do 0 c2 x0.length)=true
   case neg=>rw [if_neg hk5] at h; cases h
   rw [if_pos hk5] at h;obtain ⟨v6,hv6,h⟩:=OB h
   let p7:Nat×AV:=(6,.v (.int .i64 v6))
   refine ES AC (s1:=⟨Fr 27 [p4,p6,p7,p3,p2,p1],[]⟩) kr ?_ ?_
   ·refine Ar (n:=27) AC 2 [p4,p6,(5,.pt 0 0 0),p3,p2,p1,(17,.sl 5 (x0.map AA.enc)),(18,.v (.int .i64 c2))] [p5] kr kr ?_
    refine RunDS.one AC rfl kr (Ng kr (AB rfl) rfl (FO (a:= .sl 5 (x0.map AA.enc)) (l:=none) (u:=(some (.v (.int .i64 c2)))) (m:=none) kr kr kr rfl (Lf (xs:=x0) (e:=AA.enc) (k:=5) (el:=60) (lo:=0) (hi:=c2) kr kr rfl (HA (Km hk5)) hk5)) kr) ?_;refine Ar (n:=27) AC 1 [p4,p6,p3,p2,p1,(19,.sl 5 (((x0.take c2.toNat).drop (0:Int).toNat).map AA.enc)),(20,AA.enc v4)] [p5] kr kr ?_;refine B9 (caps:=[]) (xs:=[.sl 5 (((x0.take c2.toNat).drop (0:Int).toNat).map AA.enc),AA.enc v4]) (u:=(((x0.take c2.toNat).drop (0:Int).toNat),v4,())) rfl rfl Pp rfl (AB rfl) kr kr (AN (AZ (c:=(cdL 5 AA)) (v:=((x0.take c2.toNat).drop (0:Int).toNat))) (AN (AZ (c:=AA) (v:=v4)) BA)) kr hv6 ?_;refine Ar (n:=27) AC 1 [p4,p6,p7,p3,p2,p1] [p5] kr kr ?_;exact RunDS.done rfl (An [] trivial ⟨lv,lv,lv,lv,lv,lv,trivial⟩)
   refine AK AC [p4,p6,p7,p3,p2,p1,(23,.v (.bool (v6 != 0)))] [] ?_;refine AO (b:=(v6 != 0)) kr (fun hb7=>?_) (fun hb7=>?_)
   ·rw [if_pos hb7] at h
    refine AK AC [(2,.v (.int .i64 c2)),(3,.v (.int .i64 v6))] [] ?_;refine AQ ?_;have hq:=OI h; subst hq;exact ⟨rfl,AL⟩
   ·rw [CT hb7] at h
    refine AS ?_
    let p8:Nat×AV:=(12,.v (.int .i64 (wr .i64 (c2 + 1))))
    refine DO AC [p4,p3,p2,p8] [] ?_;exact A9 (s1:=⟨Fr 27 [p4,p3,p2,p8],[]⟩) AL (ih (wr .i64 (c2 + 1)) h)
  ·rw [CT hb3] at h
   refine DE ?_;have hq:=OI h; subst hq;exact ⟨rfl,AL⟩
theorem NK (x0:(List AF)) (r:Int×Int) (h:FD x0=some r):Sem E0 ⟨none,false⟩ Id ⟨Fr 27 (BG 0 (If.enc (x0,()))),[]⟩ fun e s'=>(e = .normal\/e = .ret)/\∃ xs,Ef E0.P s'.fr s'.hp Tryz.f80.results.toList=some xs/\Eh xs=Ii r:=by
 unfold FD at h
 let p1:Nat×AV:=(0,.sl 5 (x0.map AA.enc))
 refine A7 (Bt (s1:=⟨Fr 27 [p1],[]⟩) AL ?_);refine AK AC [p1] [] ?_;refine AH ?_;refine AH ?_;refine AI (s1:=⟨Fr 27 [p1,(9,.v (.bool (decide ((x0.length:Int) > 32))))],[]⟩) ?_ ?_
 ·refine AD (n:=27) AC 1 [p1,(7,.sl 5 (x0.map AA.enc))] [] kr ?_
  refine AP AC 0 rfl (Dq (AB rfl) rfl (Dg (a:= .sl 5 (x0.map AA.enc)) kr (CW (el:=60) kr))) ?_;exact AY AC
 refine AO (b:=(decide ((x0.length:Int) > 32))) kr (fun hb1=>?_) (fun hb1=>?_)
 ·rw [if_pos hb1] at h
  refine AK AC [(2,.v (.int .i64 0)),(3,.v (.int .i64 7))] [] ?_;refine AQ ?_;have hq:=OI h; subst hq;exact ⟨⟨Fr 27 [(2,.v (.int .i64 0)),(3,.v (.int .i64 7))],[]⟩,AL,.inr rfl,[.v (.int .i64 0),.v (.int .i64 7)],kr,kr⟩
 ·rw [CT hb1] at h
  refine AS ?_;refine AH ?_;refine AH ?_
  let p2:Nat×AV:=(12,.v (.int .i64 0))
  let p3:Nat×AV:=(11,.v (.int .i64 (x0.length:Int)))
  let p4:Nat×AV:=(10,.sl 5 (x0.map AA.enc))
  refine AI (s1:=⟨Fr 27 [p1,p4,p3,p2],[]⟩) ?_ ?_
  ·refine AD (n:=27) AC 1 [p1,p4] [] kr ?_
   refine AP AC 0 rfl (Dq (AB rfl) rfl (Dg (a:= .sl 5 (x0.map AA.enc)) kr (CW (el:=60) kr))) ?_;exact AY AC
  refine Ay ?_;obtain ⟨r10,hr10,h⟩:=OB h;refine DF (n:=100000) ?_;rcases r10 with w11 | w12
  ·try dsimp only at h
   refine Bd (A9 (s1:=⟨Fr 27 [p1,p4,p3,p2],[]⟩) AL (Ix x0 _ 0 _ hr10)) ?_;refine AK AC [(2,.v (.int .i64 0)),(3,.v (.int .i64 0))] [] ?_;refine AQ ?_;have hq:=OI h; subst hq;exact ⟨⟨Fr 27 [(2,.v (.int .i64 0)),(3,.v (.int .i64 0))],[]⟩,AL,.inr rfl,[.v (.int .i64 0),.v (.int .i64 0)],kr,kr⟩
  ·try dsimp only at h
   refine Bd (A9 (s1:=⟨Fr 27 [p1,p4,p3,p2],[]⟩) AL (Ix x0 _ 0 _ hr10)) ?_;have hq:=OI h; subst hq;exact ⟨⟨Fr 27 [(2,.v (.int .i64 w12.1)),(3,.v (.int .i64 w12.2))],[]⟩,AL,.inr rfl,[.v (.int .i64 w12.1),.v (.int .i64 w12.2)],kr,kr⟩
def Pd:List AV->Option AV:=Dx If (fun a=>FD a.1) Ii
theorem Lk:XOk 80 Pd:=by
 refine AU Tryz.func80 (c:=Id) ?h2 ⟨Tryz.call80⟩ If (fun a=>FD a.1) Ii (fun a=>(by show 1<=27; decide)) ?h3 ?h4
 case h2=>kernel_rfl
 case h3=>intro b; kernel_rfl
 case h4=>exact fun a b h=>NK a.1 b h
/- trestle/court.orders -/
noncomputable def H3:Code:=BS Tryz.f75
def Cr (x0:(List AF)):Nat->(List AF)->Int->Option (((List AF)))
 | 0,_,_=>none
 | f + 1,c3,c4 =>
  if (decide (c4 < (x0.length:Int)))=true then
  (idx x0 c4).bind fun v6 =>
  (Eq v6).bind fun v7 =>
  if (FZ 8 (c3.length + 1))=true then
  Cr x0 f (c3++[v7]) (wr .i64 (c4 + 1))
  else none
  else
  some c3
def D7 (x0:(List AF)):Option ((List AF)×Bool) :=
 (FD x0).bind fun v1 =>
 if (v1.2 != 0)=true then
 some ([],false)
 else
 (Cr x0 100000 [] 0).bind fun r10 =>
 some (r10,true)
noncomputable def IB:Cs ((List AF)×Unit):=(csC (cdL 5 AA) csN)
noncomputable def II (r:(List AF)×Bool):AV:= .tp [(cdL 1 Bc).enc r.1,cdB.enc r.2]
theorem LM (x0:(List AF)):∀ (f:Nat) (c3:(List AF)) (c4:Int) (r:((List AF))),Cr x0 f c3 c4=some r->SemN E0 ⟨none,false⟩ (pc H3 [1,1,1,0,1,0,0]) f ⟨Fr 29 [(6,hd 0 (c3.map Bc.enc)),(16,.sl 5 (x0.map AA.enc)),(17,.v (.int .i64 (x0.length:Int))),(18,.v (.int .i64 c4))],[mk 1 117 (c3.map Bc.enc)]⟩ (fun e s=>e=(.exit 0)/\Wk E0 s ⟨Fr 29 [(6,hd 0 (r.map Bc.enc))],[mk 1 117 (r.map Bc.enc)]⟩):=by
 intro f;induction f with
 | zero=>intro c3 c4 r h; cases h
 | succ f ih0 =>
  intro c3 c4 r h
  have ih:=fun (c3:(List AF)) (c4:Int)=>ih0 c3 c4 r
  unfold Cr at h;refine Ch ?_
  let p1:Option Blk:=mk 1 117 (c3.map Bc.enc)
  let p2:Nat×AV:=(18,.v (.int .i64 c4))
  let p3:Nat×AV:=(17,.v (.int .i64 (x0.length:Int)))
  let p4:Nat×AV:=(16,.sl 5 (x0.map AA.enc))
  refine AK AC [(6,hd 0 (c3.map Bc.enc)),p4,p3,p2,(19,.v (.bool (decide (c4 < (x0.length:Int)))))] [p1] ?_;refine AH ?_;refine AO (b:=(decide (c4 < (x0.length:Int)))) kr (fun hb5=>?_) (fun hb5=>?_)
  ·rw [if_pos hb5] at h
   refine AS ?_;refine AH ?_;refine Ay ?_;refine AH ?_;obtain ⟨v6,hv6,h⟩:=OB h
   let p5:Option Blk:=some ⟨5,60,[AA.enc v6],false⟩
   refine AI (s1:=⟨Fr 29 [(6,hd 0 (c3.map Bc.enc)),(8,.pt 1 0 0),p4,p3,p2],[p1,p5]⟩) ?_ ?_
   ·refine AP AC 0 rfl (Dq (AB rfl) rfl (Ac (a:= .sl 5 (x0.map AA.enc)) (b:= .v (.int .i64 c4)) kr kr (Fa (e:=AA.enc) (el:=60) (k:=5) (ki:= .i64) kr kr hv6))) ?_
    exact AY AC
   obtain ⟨v7,hv7,h⟩:=OB h;by_cases hk8:(FZ 8 (c3.length + 1))=true
   case neg=>rw [if_neg hk8] at h; cases h
   rw [if_pos hk8] at h
   let p6:Option Blk:=mk 1 117 ((c3++[v7]).map Bc.enc)
   let p7:Nat×AV:=(6,hd 0 ((c3++[v7]).map Bc.enc))
   refine AI (s1:=⟨Fr 29 [p7,p4,p3,p2],[p6]⟩) ?_ ?_
   ·refine AD (n:=29) AC 2 [p4,p3,p2,(22,hd 0 (c3.map Bc.enc)),(23,AA.enc v6)] [p1,p5] kr ?_
    refine AW (caps:=[]) (xs:=[AA.enc v6]) (u:=(v6,())) rfl rfl N9 rfl (AB rfl) kr kr (AN (AZ (c:=AA) (v:=v6)) BA) (.inr kr) hv7 ?_;refine AD (n:=29) AC 1 [p4,p3,p2,(22,hd 0 (c3.map Bc.enc)),(25,hd 2 ([v7].map Bc.enc))] [p1,p5,mk 1 117 ([v7].map Bc.enc)] kr ?_;refine AP AC 0 rfl (T7 (AB rfl) rfl kr kr (Hy (a:=hd 0 (c3.map Bc.enc)) (b:=hd 2 ([v7].map Bc.enc)) kr kr (LB (c:=Bc) (xs:=c3) (vs:=[v7]) (k:=1) (bytes:=8) (el:=117) kr kr (LQ (t:=117) kr) (List.cons_ne_nil _ _) kr hk8))) ?_;refine AD (n:=29) AC 1 [(6,hd 3 ((c3++[v7]).map Bc.enc)),p4,p3,p2] [none,p5,mk 1 117 ([v7].map Bc.enc),p6] kr ?_;exact AJ rfl (An [3] ⟨⟨_,rfl,DQ⟩,trivial⟩ ⟨DV (b':=3) kr kr,lv,lv,lv,trivial⟩)
   let p8:Nat×AV:=(18,.v (.int .i64 (wr .i64 (c4 + 1))))
   refine DO AC [p7,p4,p3,p8] [p6] ?_;exact A9 (s1:=⟨Fr 29 [p7,p4,p3,p8],[p6]⟩) (An [0] ⟨⟨_,rfl,DQ⟩,trivial⟩ ⟨DV (b':=0) kr kr,lv,lv,lv,trivial⟩) (ih (c3++[v7]) (wr .i64 (c4 + 1)) h)
  ·rw [CT hb5] at h
   refine DE ?_;have hq:=OI h; subst hq;exact ⟨rfl,(An [0] ⟨⟨_,rfl,DQ⟩,trivial⟩ ⟨DV (b':=0) kr kr,trivial⟩)⟩
theorem Mj (x0:(List AF)) (r:(List AF)×Bool) (h:D7 x0=some r):Sem E0 ⟨none,false⟩ H3 ⟨Fr 29 (BG 0 (IB.enc (x0,()))),[]⟩ fun e s'=>(e = .normal\/e = .ret)/\∃ xs,Ef E0.P s'.fr s'.hp Tryz.f75.results.toList=some xs/\Eh xs=II r:=by
 unfold D7 at h
 let p1:Nat×AV:=(0,.sl 5 (x0.map AA.enc))
 refine A7 (Bt (s1:=⟨Fr 29 [p1],[]⟩) AL ?_);refine AK AC [p1] [] ?_;refine AH ?_;refine AH ?_;obtain ⟨v1,hv1,h⟩:=OB h;refine AI (s1:=⟨Fr 29 [p1,(5,.v (.int .i64 v1.2))],[]⟩) ?_ ?_
 ·refine AD (n:=29) AC 1 [p1,(10,.sl 5 (x0.map AA.enc))] [] kr ?_
  refine AW (caps:=[]) (xs:=[.sl 5 (x0.map AA.enc)]) (u:=(x0,())) rfl rfl Lk rfl (AB rfl) kr kr (AN (AZ (c:=(cdL 5 AA)) (v:=x0)) BA) (.inl kr) hv1 ?_;exact AY AC
 refine AK AC [p1,(15,.v (.bool (v1.2 != 0)))] [] ?_;refine AO (b:=(v1.2 != 0)) kr (fun hb2=>?_) (fun hb2=>?_)
 ·rw [if_pos hb2] at h
  let p2:Nat×AV:=(3,.v (.bool false))
  refine AK AC [(2,.e0),p2] [] ?_;refine AQ ?_;have hq:=OI h; subst hq;exact ⟨⟨Fr 29 [(2,.sl 1 ([].map Bc.enc)),p2],[]⟩,(Wk.trans (s1:=⟨Fr 29 [(2,.e0),p2],[]⟩) AL (Wk.trans (s1:=⟨Fr 29 [(2,.e0),p2],[none]⟩) Wk.none (Wk.trans (s1:=⟨Fr 29 [(2,.sl 1 ([].map Bc.enc)),p2],[none]⟩) (HM 0 (.inr kr) ⟨.inl rfl,trivial⟩ ⟨⟨.e0,kr,QC⟩,⟨.v (.bool false),kr,.inl rfl⟩,trivial⟩) (An [] trivial ⟨lv,lv,trivial⟩)))),.inr rfl,[.sl 1 ([].map Bc.enc),.v (.bool false)],kr,kr⟩
 ·rw [CT hb2] at h
  refine AS ?_;refine AK AC [p1,(6,.e0)] [] ?_;refine AH ?_;refine AH ?_
  let p3:Nat×AV:=(18,.v (.int .i64 0))
  let p4:Nat×AV:=(17,.v (.int .i64 (x0.length:Int)))
  let p5:Nat×AV:=(16,.sl 5 (x0.map AA.enc))
  refine AI (s1:=⟨Fr 29 [(6,.e0),p5,p4,p3],[]⟩) ?_ ?_
  ·refine AD (n:=29) AC 1 [(6,.e0),p5] [] kr ?_
   refine AP AC 0 rfl (Dq (AB rfl) rfl (Dg (a:= .sl 5 (x0.map AA.enc)) kr (CW (el:=60) kr))) ?_;exact AY AC
  refine Ay ?_;obtain ⟨r10,hr10,h⟩:=OB h;refine DF (n:=100000) ?_;refine Bd (A9 (s1:=⟨Fr 29 [(6,hd 0 ([].map Bc.enc)),p5,p4,p3],[mk 1 117 ([].map Bc.enc)]⟩) (Wk.trans (s1:=⟨Fr 29 [(6,hd 0 ([].map Bc.enc)),p5,p4,p3],[mk 1 117 ([].map Bc.enc)]⟩) Wk.none (An [0] ⟨⟨_,rfl,PA⟩,trivial⟩ ⟨lv,lv,lv,lv,trivial⟩)) (LM x0 _ [] 0 _ hr10)) ?_
  let p6:Nat×AV:=(3,.v (.bool true))
  refine AK AC [(2,hd 0 (r10.map Bc.enc)),p6] [mk 1 117 (r10.map Bc.enc)] ?_;refine AQ ?_;have hq:=OI h; subst hq;exact ⟨⟨Fr 29 [(2,.sl 1 (r10.map Bc.enc)),p6],[]⟩,(Wk.trans (s1:=⟨Fr 29 [(2,.sl 1 (r10.map Bc.enc)),p6],[none]⟩) (HM 0 (.inl kr) ⟨.inl rfl,trivial⟩ ⟨⟨hd 0 (r10.map Bc.enc),kr,PI (t:=117) kr KA⟩,⟨.v (.bool true),kr,.inl rfl⟩,trivial⟩) (An [] trivial ⟨lv,lv,trivial⟩)),.inr rfl,[.sl 1 (r10.map Bc.enc),.v (.bool true)],kr,kr⟩
noncomputable def OZ:List AV->Option AV:=Dx IB (fun a=>D7 a.1) II
theorem Ku:XOk 75 OZ:=by
 refine AU Tryz.func75 (c:=H3) ?h2 ⟨Tryz.call75⟩ IB (fun a=>D7 a.1) II (fun a=>(by show 1<=29; decide)) ?h3 ?h4
 case h2=>kernel_rfl
 case h3=>intro b; kernel_rfl
 case h4=>exact fun a b h=>Mj a.1 b h
/- trestle/court.list -/
noncomputable def JB:Code:=BS Tryz.f79
def Cq (x0:(List A6)):Nat->(List AR)->Int->Option (((List AR)))
 | 0,_,_=>none
 | f + 1,c1,c2 =>
  if (decide (c2 < (x0.length:Int)))=true then
  (idx x0 c2).bind fun v4 =>
  if (FZ 120 (c1.length + 1))=true then
  Cq x0 f (c1++[(v4,c2)]) (wr .i64 (c2 + 1))
  else none
  else
  some c1
def Gt (x0:(List A6)):Option ((List AR)) :=
 (Cq x0 100000 [] 0).bind fun r7 =>
 some r7
def JF:Cs ((List A6)×Unit):=(csC (cdL 9 AG) csN)
def JK (r:(List AR)):AV:=(cdL 10 AE).enc r
theorem Mi (x0:(List A6)):∀ (f:Nat) (c1:(List AR)) (c2:Int) (r:((List AR))),Cq x0 f c1 c2=some r->SemN E0 ⟨none,false⟩ (pc JB [1,1,0,1,0,0]) f ⟨Fr 21 [(3,hd 0 (c1.map AE.enc)),(6,.sl 9 (x0.map AG.enc)),(7,.v (.int .i64 (x0.length:Int))),(8,.v (.int .i64 c2))],[mk 10 115 (c1.map AE.enc)]⟩ (fun e s=>e=(.exit 0)/\Wk E0 s ⟨Fr 21 [(3,hd 0 (r.map AE.enc))],[mk 10 115 (r.map AE.enc)]⟩):=by
 intro f;induction f with
 | zero=>intro c1 c2 r h; cases h
 | succ f ih0 =>
  intro c1 c2 r h
  have ih:=fun (c1:(List AR)) (c2:Int)=>ih0 c1 c2 r
  unfold Cq at h;refine Ch ?_
  let p1:Option Blk:=mk 10 115 (c1.map AE.enc)
  let p2:Nat×AV:=(8,.v (.int .i64 c2))
  let p3:Nat×AV:=(7,.v (.int .i64 (x0.length:Int)))
  let p4:Nat×AV:=(6,.sl 9 (x0.map AG.enc))
  let p5:Nat×AV:=(3,hd 0 (c1.map AE.enc))
  refine AK AC [p5,p4,p3,p2,(9,.v (.bool (decide (c2 < (x0.length:Int)))))] [p1] ?_;refine AH ?_;refine AO (b:=(decide (c2 < (x0.length:Int)))) kr (fun hb3=>?_) (fun hb3=>?_)
  ·rw [if_pos hb3] at h
   refine AS ?_;refine AH ?_;refine Ay ?_;refine AH ?_;obtain ⟨v4,hv4,h⟩:=OB h
   let p6:Option Blk:=some ⟨9,42,[AG.enc v4],false⟩
   refine AI (s1:=⟨Fr 21 [p5,(4,.v (.int .i64 c2)),(5,.pt 1 0 0),p4,p3,p2],[p1,p6]⟩) ?_ ?_
   ·refine AD (n:=21) AC 1 [p5,p4,p3,p2,(10,.v (.int .i64 c2))] [p1] kr ?_
    refine AP AC 0 rfl (Dq (AB rfl) rfl (Ac (a:= .sl 9 (x0.map AG.enc)) (b:= .v (.int .i64 c2)) kr kr (Fa (e:=AG.enc) (el:=42) (k:=9) (ki:= .i64) kr kr hv4))) ?_;exact AY AC
   by_cases hk5:(FZ 120 (c1.length + 1))=true
   case neg=>rw [if_neg hk5] at h; cases h
   rw [if_pos hk5] at h
   let p7:Option Blk:=mk 10 115 ((c1++[(v4,c2)]).map AE.enc)
   let p8:Nat×AV:=(3,hd 0 ((c1++[(v4,c2)]).map AE.enc))
   refine AI (s1:=⟨Fr 21 [p8,p4,p3,p2],[p7]⟩) ?_ ?_
   ·let p9:Option Blk:=mk 10 115 ([(v4,c2)].map AE.enc)
    refine AD (n:=21) AC 5 [p4,p3,p2,(13,hd 0 (c1.map AE.enc)),(17,hd 2 ([(v4,c2)].map AE.enc))] [p1,p6,p9] kr ?_;refine AP AC 0 rfl (T7 (AB rfl) rfl kr kr (Hy (a:=hd 0 (c1.map AE.enc)) (b:=hd 2 ([(v4,c2)].map AE.enc)) kr kr (LB (c:=AE) (xs:=c1) (vs:=[(v4,c2)]) (k:=10) (bytes:=120) (el:=115) kr kr (LQ (t:=115) kr) (List.cons_ne_nil _ _) kr hk5))) ?_;refine AD (n:=21) AC 1 [(3,hd 3 ((c1++[(v4,c2)]).map AE.enc)),p4,p3,p2] [none,p6,p9,p7] kr ?_;exact AJ rfl (An [3] ⟨⟨_,rfl,DQ⟩,trivial⟩ ⟨DV (b':=3) kr kr,lv,lv,lv,trivial⟩)
   let p10:Nat×AV:=(8,.v (.int .i64 (wr .i64 (c2 + 1))))
   refine DO AC [p8,p4,p3,p10] [p7] ?_;exact A9 (s1:=⟨Fr 21 [p8,p4,p3,p10],[p7]⟩) (An [0] ⟨⟨_,rfl,DQ⟩,trivial⟩ ⟨DV (b':=0) kr kr,lv,lv,lv,trivial⟩) (ih (c1++[(v4,c2)]) (wr .i64 (c2 + 1)) h)
  ·rw [CT hb3] at h
   refine DE ?_;have hq:=OI h; subst hq;exact ⟨rfl,(An [0] ⟨⟨_,rfl,DQ⟩,trivial⟩ ⟨DV (b':=0) kr kr,trivial⟩)⟩
theorem OP (x0:(List A6)) (r:(List AR)) (h:Gt x0=some r):Sem E0 ⟨none,false⟩ JB ⟨Fr 21 (BG 0 (JF.enc (x0,()))),[]⟩ fun e s'=>(e = .normal\/e = .ret)/\∃ xs,Ef E0.P s'.fr s'.hp Tryz.f79.results.toList=some xs/\Eh xs=JK r:=by
 unfold Gt at h
 let p1:Nat×AV:=(0,.sl 9 (x0.map AG.enc))
 refine A7 (Bt (s1:=⟨Fr 21 [p1],[]⟩) AL ?_);refine AK AC [p1] [] ?_;refine AK AC [p1,(3,.e0)] [] ?_;refine AH ?_;refine AH ?_
 let p2:Nat×AV:=(8,.v (.int .i64 0))
 let p3:Nat×AV:=(7,.v (.int .i64 (x0.length:Int)))
 let p4:Nat×AV:=(6,.sl 9 (x0.map AG.enc))
 refine AI (s1:=⟨Fr 21 [(3,.e0),p4,p3,p2],[]⟩) ?_ ?_
 ·refine AD (n:=21) AC 1 [(3,.e0),p4] [] kr ?_
  refine AP AC 0 rfl (Dq (AB rfl) rfl (Dg (a:= .sl 9 (x0.map AG.enc)) kr (CW (el:=42) kr))) ?_;exact AY AC
 refine Ay ?_;obtain ⟨r7,hr7,h⟩:=OB h;refine DF (n:=100000) ?_
 let p5:Option Blk:=mk 10 115 ([].map AE.enc)
 let p6:Nat×AV:=(3,hd 0 ([].map AE.enc))
 refine Bd (A9 (s1:=⟨Fr 21 [p6,p4,p3,p2],[p5]⟩) (Wk.trans (s1:=⟨Fr 21 [p6,p4,p3,p2],[p5]⟩) Wk.none (An [0] ⟨⟨_,rfl,PA⟩,trivial⟩ ⟨lv,lv,lv,lv,trivial⟩)) (Mi x0 _ [] 0 _ hr7)) ?_;refine AK AC [(2,hd 0 (r7.map AE.enc))] [mk 10 115 (r7.map AE.enc)] ?_;refine AQ ?_;have hq:=OI h; subst hq
 let p7:Nat×AV:=(2,.sl 10 (r7.map AE.enc))
 exact ⟨⟨Fr 21 [p7],[]⟩,(Wk.trans (s1:=⟨Fr 21 [p7],[none]⟩) (HM 0 (.inl kr) ⟨.inl rfl,trivial⟩ ⟨⟨hd 0 (r7.map AE.enc),kr,PI (t:=115) kr KA⟩,trivial⟩) (An [] trivial ⟨lv,trivial⟩)),.inr rfl,[.sl 10 (r7.map AE.enc)],kr,kr⟩
def QZ:List AV->Option AV:=Dx JF (fun a=>Gt a.1) JK
theorem Qn:XOk 79 QZ:=by
 refine AU Tryz.func79 (c:=JB) ?h2 ⟨Tryz.call79⟩ JF (fun a=>Gt a.1) JK (fun a=>(by show 1<=21; decide)) ?h3 ?h4
 case h2=>kernel_rfl
 case h3=>intro b; kernel_rfl
 case h4=>exact fun a b h=>OP a.1 b h
section
variable {E:Env}{cx:Cx}{ops:Array Oper}{rest rest':List Oper}{K:St->Prop}{n n0 k:Nat}{l:List (Nat×AV)}{hp:Hp}{α β:Type}{s:Cs α}{F:α->Option β}{er:β->AV}{u:α}{v:β}{fid:FuncId}{w:World}{Z:Nat->Prop}{R:List RI}
theorem Ym (hX:XOk fid (Dx s F er)) (hh:HR w Z R hp) (hg:GI E0 w Z){xs:List AV}{us:List Value}(hvs:VRs w Z R xs us) (hv:SeesD hp s xs u) (hok:Dv (er v)=true\/xs.all DW=true/\s.dec xs=some u) (hF:F u=some v) :
  Ret E0.P fid us.toArray w fun x w'=>∃ Z',HR w' Z' R hp/\VR w' Z' R (er v) x/\Step w Z R hp w' Z' R hp/\w.grownBy w' none/\(Dv (er v)=true->Z'=Z):=by
 by_cases hf:Dv (er v)=true
 ·obtain ⟨ys,hv,hd⟩:=hv
  have hz1:∀ c,(Z c\/own R hp c)->c < w.heap.size:=fun c hc=>hc.elim (hh.zlt c) (fun ⟨b,B,r,h1,_,h3,h4⟩=>h4 ▸ hh.rltL h1 h3)
  have hg1:GI E0 w (fun c=>Z c\/own R hp c):=fun q y hy=>(hg q y hy).mono (fun _ _=>rfl) (fun _ h=> .inl h) (fun _ _ h=>h)
  refine Ret.mono (hX.2 ys (er v) (JT hd hF) w _ us hz1 hg1 (hv w Z R us hh hvs)) fun x w' ⟨hs,hx⟩=>?_
  exact ⟨Z,hh.keep hs.size (fun c hc=>hs.block c hc (by simp)),MC hf hx,⟨hs.os,hs.tape,hs.output,hs.size,fun c hc _=>hs.block c hc (by simp),fun _ h=> .inl h,fun _ h=>h,fun _ h=> .inl h,fun _ _ h=>h⟩,hs,fun _=>rfl⟩
 ·obtain ⟨hn,hd⟩:=hok.resolve_left hf
  refine Ret.mono (hX.2 xs (er v) (JT hd hF) w Z us hh.zlt hg (PQ hn hvs)) fun x w' ⟨hs,hx⟩=>?_
  obtain ⟨k1,k2⟩:=hh.addZ hs
  exact ⟨_,k1,hx.up,k2,hs,fun h=>absurd h hf⟩
theorem ZL (hP:E.P=E0.P) (hG:E.G=E0.G){caps xs:List AV}{d:Option Nat}{f:Operand}{args:Array Operand}{tys:Array TypeId}{ty:TypeId}{pos:String}{af:Array Edge}{g:Option (Nat×Bool)}{base:Bs}{a:Act}(hX:XOk fid (Dx s F er)) (sr:SR E base w Z R ⟨Fr n l,hp⟩ a)
  (hf:opA E (Fr n l) f=some (.fn fid [] caps)) (ha:IL (opA E (Fr n l)) args.toList=some xs) (hv:SeesD hp s (xs++caps) u) (hok:Dv (er v)=true\/(xs++caps).all DW=true/\s.dec (xs++caps)=some u) (hF:F u=some v) {Q:Act->World->Prop}
  (kk:∀ x w' Z',HR w' Z' R hp->VR w' Z' R (er v) x->Step w Z R hp w' Z' R hp->w.grownBy w' none->(Dv (er v)=true->Z'=Z)->SR E base w' Z' R ⟨Fr n l,hp⟩ a->Q (a.put d x) w'):Lw E.P ⟨d,.call ⟨.value f,args,tys⟩,ty,pos,af,g⟩ a w Q:=by
 have hρ:∀ o x,opA E (Fr n l) o=some x->VR w Z R x (a.eval o):=fun o x e=>opA_vr sr o x e
 have hvf:=hρ _ _ hf
 have hva:∃ uc:List Value,a.eval f = .func (.func fid) #[] uc.toArray/\VRs w Z R caps uc:=by
  generalize a.eval f=vf at hvf
  cases hvf with
  | fn hl hl' hx hy =>
   rename_i u1 u2
   have e1:u1=[]:=by simpa using hl
   subst e1
   exact ⟨u2,rfl,hl',hy⟩
 obtain ⟨uc,hva,huc⟩:=hva
 have hcl:Bw E.P fid:=hP ▸ hX.1
 unfold Lw
 rw [FW (uf:=[]) (uc:=uc) rfl hva rfl hcl w]
 have hret:=Ym hX sr.hh (by have:=sr.gl; exact fun q y hy=>this q y (by rw [hG]; exact hy)) ((opds_vr hρ ha).append huc) hv hok hF
 rw [<-hP] at hret
 simp only [List.nil_append]
 refine Ret.mono hret fun x w' ⟨Z',k1,k2,k3,k4,k5⟩=>?_
 exact kk x w' Z' k1 k2 k3 k4 k5 (sr.step k1 k3)
theorem SM (hP:E.P=E0.P) (hG:E.G=E0.G) (hX:XOk fid (Dx s F er)){caps xs:List AV}{d:Nat}{f:Operand}{args:Array Operand}{tys:Array TypeId}{ty:TypeId}{pos:String}{af:Array Edge}{g:Option (Nat×Bool)}(hr:rest=⟨some d,.call ⟨.value f,args,tys⟩,ty,pos,af,g⟩::rest') (hw:CC ops (Fr n l) ⟨some d,.call ⟨.value f,args,tys⟩,ty,pos,af,g⟩=some true)
  (hf:opA E (Fr n l) f=some (.fn fid [] caps)) (ha:IL (opA E (Fr n l)) args.toList=some xs) (hv:SeesD hp s (xs++caps) u) (hok:Dv (er v)=true\/(xs++caps).all DW=true/\s.dec (xs++caps)=some u) (hF:F u=some v) (kk:RunL E cx ops rest' ⟨Fr n ((d,er v)::l),hp⟩ K):RunL E cx ops rest ⟨Fr n l,hp⟩ K:=by
 subst hr
 intro ro base Q a w Z R hro sr hy q
 refine KW rfl (wantedA_eq sr hw) (ZL hP hG hX sr hf ha hv hok hF fun x w' Z' k1 k2 k3 k4 k5 sr'=>?_)
 refine kk ro base Q _ w' Z' R hro ?_ (hy.step sr.hh k3) fun s' a' w'' Z'' R'' hK sr'' st'=>q s' a' w'' Z'' R'' hK sr'' (k3.trans st')
 have:=sr'.put (d:=some d) k2
 rwa [DM] at this
theorem NE {T:Nat}(hP:E.P=E0.P) (hG:E.G=E0.G) (hX:XOk fid (Dx s F er)){caps xs:List AV}{d:Nat}{f:Operand}{args:Array Operand}{tys:Array TypeId}{ty:TypeId}{pos:String}{af:Array Edge}{g:Option (Nat×Bool)}(hr:rest=⟨some d,.call ⟨.value f,args,tys⟩,ty,pos,af,g⟩::rest') (hw:CC ops (Fr n l) ⟨some d,.call ⟨.value f,args,tys⟩,ty,pos,af,g⟩=some true)
  (hf:opA E (Fr n l) f=some (.fn fid [] caps)) (ha:IL (opA E (Fr n l)) args.toList=some xs) (hv:SeesD hp s (xs++caps) u) (hok:Dv (er v)=true) (hF:F u=some v) (kk:RunDT E cx ops T n0 (k + 1) rest' ⟨Fr n ((d,er v)::l),hp⟩ K):RunDT E cx ops T n0 k rest ⟨Fr n l,hp⟩ K:=by
 subst hr
 intro ro base Q w0 Z R0 h0 a w R hro hy hh0 hn0 sr hgr st hpre hops q
 have hok':ops[k]? = some ⟨some d,.call ⟨.value f,args,tys⟩,ty,pos,af,g⟩:=by have:=hops 0; simpa using this.symm
 have hops':∀ j,rest'[j]? = ops[k + 1 + j]?:=fun j=>by have:=hops (j + 1); simpa [Nat.add_assoc,Nat.add_comm 1 j] using this
 refine ⟨fun _=>hgr,?_⟩
 rw [if_pos (wantedA_eq sr hw)]
 have hq:isQ (.call ⟨.value f,args,tys⟩:Op)=false:=rfl
 rw [if_pos (Eu hok' hq)]
 refine ZL hP hG hX sr hf ha hv (.inl hok) hF fun x w' Z' k1 k2 k3 k4 k5 sr'=>?_
 have e:=k5 hok
 subst e
 exact kk ro base Q w0 _ R0 h0 _ w' R hro hy hh0 hn0 (by have:=sr'.put (d:=some d) k2; rwa [DM] at this) (EA hgr k4) (st.trans k3) hpre hops' q
end
def QM:Hp->Bool
 | []=>true
 | none::r=>QM r
 | some B::r=>!B.fz&&B.es.all DW&&QM r
theorem M5:∀ {h:Hp},QM h=true->∀ (b:Nat) (B:Blk),h[b]? = some (some B)->B.fz=false/\B.es.all DW=true
 | [],_,b,B,hb=>by simp at hb
 | none::r,h,0,B,hb=>by simp at hb
 | none::r,h,b + 1,B,hb=>M5 (h:=r) h b B (by simpa using hb)
 | some B0::r,h,b,B,hb=>by
  unfold QM at h
  simp only [Bool.and_eq_true,Bool.not_eq_true'] at h
  cases b with
  | zero =>
   have:B0=B:=by simpa using hb
   subst this
   exact h.1
  | succ b=>exact M5 h.2 b B (by simpa using hb)
theorem TV {α:Type}{k:Nat}{t:TypeId}{c:Cd α}(xs:List α):QM [some ⟨k,t,xs.map c.enc,false⟩]=true:=by
 have:(xs.map c.enc).all DW=true:=by
  rw [List.all_eq_true]
  intro x hx
  obtain ⟨y,_,rfl⟩:=List.mem_map.1 hx
  exact c.nr y
 show (!false&&(xs.map c.enc).all DW&&true)=true
 rw [this]; rfl
section
variable {w w':World}{Z Z':Nat->Prop}{R R':List RI}{h h':Hp}
theorem HR.joinF (hh:HR w Z R h) (st:StepW w Z [] [] w' Z' R' h') (hh':HR w' Z' R' h') (hf:QM h'=true):HR w' Z' (R++R') (h++h')/\Step w Z R h w' Z' (R++R') (h++h'):=by
 have hold:∀ c,c < w.heap.size->w'.heap[c]? = w.heap[c]?:=fun c hc=>st.block c hc fun ⟨b,B,r,hb,_⟩=>by simp at hb
 have hr:∀ (i:Nat) (x:RI),R[i]? = some x->(R++R')[i]? = some x:=fun i x hx=>by
  rw [List.getElem?_append_left (List.getElem?_eq_some_iff.1 hx).1]; exact hx
 have hnew:∀ c,own R' h' c->w.heap.size<=c:=fun c hc=>(st.own_ c hc).resolve_left fun ⟨b,B,r,hb,_⟩=>by simp at hb
 have hz':∀ c,Z' c->Z c\/w.heap.size<=c:=fun c hc=>(st.z' c hc).elim .inl fun h=>h.elim (fun ⟨b,B,r,hb,_⟩=>by simp at hb) .inr
 have hlen:=hh.len
 have hat:∀ (b:Nat) (B:Blk),(h++h')[b]? = some (some B)->(b < h.length/\h[b]? = some (some B)/\(R++R')[b]? = R[b]?)\/(∃ j,b=h.length + j/\h'[j]? = some (some B)/\(R++R')[b]? = R'[j]?):=fun b B hb=>by
  by_cases hlt:b < h.length
  ·rw [List.getElem?_append_left hlt] at hb
   exact .inl ⟨hlt,hb,List.getElem?_append_left (by omega)⟩
  ·rw [List.getElem?_append_right (by omega)] at hb
   exact .inr ⟨b - h.length,by omega,hb,by rw [List.getElem?_append_right (by omega),hlen]⟩
 have hRb:∀ (b:Nat) (B:Blk) (r:RI),h[b]? = some (some B)->R[b]? = some r->r.c < w.heap.size:=fun b B r h1 h2=>hh.rltL h1 h2
 have hRn:∀ (j:Nat) (B:Blk) (r:RI),h'[j]? = some (some B)->R'[j]? = some r->w.heap.size<=r.c:=fun j B r h1 h2=>hnew _ ⟨j,B,r,h1,(M5 hf j B h1).1,h2,rfl⟩
 refine ⟨⟨by simp [hh.len,hh'.len],fun b B hB=>?_,fun b b' B B' r r' hB hfz hB' hfz' h1 h2 e=>?_,hh'.zlt⟩,⟨st.os,st.tape,st.output,st.size,fun c hc _=>hold c hc,fun c hc=>?_,st.z,fun c hc=>(hz' c hc).elim .inl fun h=> .inr (.inr h),hr⟩⟩
 ·rcases hat b B hB with ⟨hlt,hb,hRR⟩ | ⟨j,rfl,hb,hRR⟩
  ·obtain ⟨r,arr,us,g1,g2,g3,g4,g5,g6,g7,g8,g9,g10⟩:=hh.blk b B hb
   exact ⟨r,arr,us,hRR.trans g1,g2,(hold _ (hRb b B r hb g1)).trans g3,g4,g5,g6,(fun h=>st.z _ (g7 h)),(fun h hc=>(hz' _ hc).elim (g8 h) fun q=>by have:=hRb b B r hb g1; omega),⟨g9.len,fun i x u hx hu=>(g9.at_ i x u hx hu).mono (fun c hc=>hold c (hh.zlt c hc)) (fun c hc=>st.z c hc) hr⟩,g10⟩
  ·obtain ⟨r,arr,us,g1,g2,g3,g4,g5,g6,g7,g8,g9,g10⟩:=hh'.blk j B hb
   obtain ⟨f1,f2⟩:=M5 hf j B hb
   exact ⟨r,arr,us,hRR.trans g1,g2,g3,g4,g5,g6,g7,g8,⟨g9.len,fun i x u hx hu=>(Ib (List.all_eq_true.1 f2 x (List.mem_of_getElem? hx)) (g9.at_ i x u hx hu)).up⟩,g10⟩
 ·rcases hat b B hB with ⟨_,hb,hRR⟩ | ⟨j,rfl,hb,hRR⟩ <;> rcases hat b' B' hB' with ⟨_,hb',hRR'⟩ | ⟨j',rfl,hb',hRR'⟩ <;> rw [hRR] at h1 <;> rw [hRR'] at h2
  ·exact hh.inj b b' B B' r r' hb hfz hb' hfz' h1 h2 e
  ·have:=hRb b B r hb h1; have:=hRn j' B' r' hb' h2; omega
  ·have:=hRb b' B' r' hb' h2; have:=hRn j B r hb h1; omega
  ·rw [hh'.inj j j' B B' r r' hb hfz hb' hfz' h1 h2 e]
 ·obtain ⟨b,B,r,h1,h2,h3,rfl⟩:=hc
  rcases hat b B h1 with ⟨_,hb,hRR⟩ | ⟨j,rfl,hb,hRR⟩ <;> rw [hRR] at h3
  ·exact .inl ⟨b,B,r,hb,h2,h3,rfl⟩
  ·exact .inr (hRn j B r hb h3)
end
theorem SeeV.view {hp:Hp}{x y:AV}(n:Nat) (h:Fz hp n x=some y):SeeV hp x y:=fun _w _Z _R u hh hv=>Ka hh n x y u hv h
theorem SeeD.sm {α:Type}{n:Nat}{hp:Hp}{c:Cd α}{x:AV}{v:α}(h:Sm n hp c x v):SeeD hp c x v:=let ⟨y,h1,h2⟩:=h; ⟨y,.view n h1,h2⟩
/-- A cell of its own that holds a frozen thing. -/
theorem SeeD.cel {α:Type}{hp:Hp}{c:Cd α}{p:AV}{v:α}{k:Nat}{t:TypeId}{L:List Asn}{i:Nat}(ht:T hp L) (hi:L[i]? = some (cel p k t (c.enc v))):SeeD hp (cdP c) p v:=by
 obtain ⟨F,⟨b,rfl,_,hb⟩,_⟩:=(ht.front i hi).act
 exact .sm (n:=3) (.pt hb (AZ (n:=0)))
theorem SeeD.ag {α:Type}{hp:Hp}{s:Cs α}{hn:∀ x,(s.enc x).all K5=true}{xs:List AV}{a:α}(h:SeesD hp s xs a):SeeD hp (cdA s hn) (.ag xs) a:=by
 obtain ⟨ys,k1,k2⟩:=h
 exact ⟨.ag ys,.ag k1,k2⟩
theorem SeeV.fn {hp:Hp}{f:FuncId}{cs cs':List AV}(hs:Sees hp cs cs'):SeeV hp (.fn f [] cs) (.fn f [] cs'):=fun w Z R u hh hv=>by
 cases hv with
 | fn hl hl' hx hy =>
  have:=hs w Z R _ hh ⟨hl',hy⟩
  exact .fn hl this.len (fun i x u h=>by simp at h) this.at_
/-- A closure over cells. -/
theorem SeeD.fn {α:Type}{hp:Hp}{f:FuncId}{s:Cs α}{hn:∀ x,(s.enc x).all F7=true}{q:List AV}{a:α}(h:SeesD hp s q a):SeeD hp (cdF f s hn) (.fn f [] q) a:=by
 obtain ⟨ys,k1,k2⟩:=h
 refine ⟨.fn f [] ys,.fn k1,?_⟩
 show (if f=f then s.dec ys else none)=_
 rw [if_pos rfl]; exact k2
section
variable {E:Env}{cx:Cx}{ops:Array Oper}{rest rest':List Oper}{K:St->Prop}{n n0 k:Nat}{l:List (Nat×AV)}{hp:Hp}
/-- A call of frozen things that hands own blocks back, whose elements hold frozen things. -/
theorem SL {xs:List AV}{Out:AV->Hp->Prop}(hP:E.P=E0.P) (hG:E.G=E0.G){d:Nat}{f:Operand}{args:Array Operand}{tys:Array TypeId}{ty:TypeId}{pos:String}{af:Array Edge}{g:Option (Nat×Bool)}{fid:FuncId}(hs:SOk fid xs Out) (hr:rest=⟨some d,.call ⟨.value f,args,tys⟩,ty,pos,af,g⟩::rest') (hw:CC ops (Fr n l) ⟨some d,.call ⟨.value f,args,tys⟩,ty,pos,af,g⟩=some true)
  (hf:opA E (Fr n l) f=some (.fn fid [] [])) (ha:IL (opA E (Fr n l)) args.toList=some xs) (hv:xs.all DW=true) (hfl:∀ x h',Out x h'->PT x=true/\QM h'=true) (k:∀ x h',Out x h'->RunL E cx ops rest' ⟨Fr n ((d,shN hp.length x)::l),hp++h'⟩ K):RunL E cx ops rest ⟨Fr n l,hp⟩ K:=by
 obtain ⟨P,fns,G,X,I⟩:=E
 simp only at hP hG
 subst hP hG
 subst hr
 intro ro base Q a w Z R hro sr hy q
 have hρ:∀ o x,opA ⟨E0.P,fns,E0.G,X,I⟩ (Fr n l) o=some x->VR w Z R x (a.eval o):=fun o x e=>opA_vr sr o x e
 refine KW rfl (wantedA_eq sr hw) ?_
 have hva:a.eval f = .func (.func fid) ([]:List Value).toArray ([]:List Value).toArray:=by
  have:=hρ _ _ hf
  generalize a.eval f=vf at this
  cases this with
  | fn hl hl' hx hy =>
   rename_i u1 u2
   have e1:u1=[]:=by simpa using hl
   have e2:u2=[]:=by simpa using hl'
   subst e1 e2; rfl
 unfold Lw
 rw [FW (uf:=[]) (uc:=[]) rfl hva rfl hs.1 w]
 simp only [List.nil_append,List.append_nil]
 have hvs:VRs w Z R xs (args.toList.map a.eval):=opds_vr hρ ha
 have hvs2:VRs w Z [] xs (args.toList.map a.eval):=⟨hvs.len,fun i x u hx hu=>Ib (List.all_eq_true.1 hv x (List.mem_of_getElem? hx)) (hvs.at_ i x u hx hu)⟩
 refine Ret.mono (hs.2 w _ _ sr.hh.zlt sr.gl hvs2) fun v w' hS=>?_
 obtain ⟨Z',R',x,h',hO,h1,h2,st⟩:=hS
 obtain ⟨f1,f2⟩:=hfl x h' hO
 obtain ⟨j1,j2⟩:=sr.hh.joinF st h1 f2
 have hlen:R.length=hp.length:=sr.hh.len
 have hx:=X5 (w:=w') (Z':=Z') (R:=R) hlen f1 h2
 have sr':=(sr.step j1 j2).put (d:=some d) hx
 rw [show K6 (⟨Fr n l,hp⟩:St).fr (some d) (shN hp.length x)=Fr n ((d,shN hp.length x)::l) from DM n l d _] at sr'
 exact k x h' hO ro base Q _ w' Z' (R++R') hro sr' (hy.step sr.hh j2) fun s' a' w'' Z'' R'' hK sr'' st'=>q s' a' w'' Z'' R'' hK sr'' (j2.trans st')
end
/-- A nil slice is an empty frozen one, in structs too. -/
def UpV (x y:AV):Prop:=∀ (w:World) (Z:Nat->Prop) (R:List RI) (u:Value),VR w Z R x u->VR w Z R y u
theorem UpV.refl {x:AV}:UpV x x:=fun _ _ _ _ h=>h
theorem UpV.nil {k:Nat}:UpV .e0 (.sl k []):=fun _ _ _ _ h=>by
 cases h
 exact .sl (us:=[]) rfl rfl (Nat.le_refl _) (by unfold maxLen; omega) (fun h=>by omega) (fun i x u hx=>by simp at hx)
def UpVs:List AV->List AV->Prop
 | [],[]=>True
 | x::xs,y::ys=>UpV x y/\UpVs xs ys
 | _,_=>False
theorem UpVs.len:∀ {xs ys:List AV},UpVs xs ys->xs.length=ys.length
 | [],[],_=>rfl
 | _::_,_::_,h=>by simp [UpVs.len h.2]
 | [],_::_,h=>h.elim
 | _::_,[],h=>h.elim
theorem UpVs.get:∀ {xs ys:List AV}{i:Nat}{y:AV},UpVs xs ys->ys[i]? = some y->∃ x,xs[i]? = some x/\UpV x y
 | _::_,_::_,0,_,h,e=>by simp at e; subst e; exact ⟨_,rfl,h.1⟩
 | _::_,_::_,i + 1,_,h,e=>by
  obtain ⟨x,h1,h2⟩:=UpVs.get (i:=i) h.2 (by simpa using e)
  exact ⟨x,by simpa using h1,h2⟩
 | [],[],_,_,_,e=>by simp at e
 | [],_::_,_,_,h,_=>h.elim
 | _::_,[],_,_,h,_=>h.elim
theorem UpV.ag {xs ys:List AV}(h:UpVs xs ys):UpV (.ag xs) (.ag ys):=fun w Z R u hv=>by
 cases hv with
 | ag hl h1 hx =>
  refine .ag (by rw [hl,h.len]) h1 fun i y u hy hu=>?_
  obtain ⟨x,k1,k2⟩:=h.get hy
  exact k2 _ _ _ _ (hx i x u k1 hu)
def LkU (l:List (Nat×AV)):List (Nat×AV)->Prop
 | []=>True
 | (t,z)::r=>(∃ x,lk l t=some x/\UpV x z)/\LkU l r
theorem LkU.at_ {l:List (Nat×AV)}:∀ {l':List (Nat×AV)},LkU l l'->∀ t z,lk l' t=some z->∃ x,lk l t=some x/\UpV x z
 | [],_,t,z,h=>by cases h
 | (k,z0)::r,⟨h1,h2⟩,t,z,h=>by
  rw [Jp] at h
  split at h
  ·next hk=>injection h with h; subst hk h; exact h1
  ·exact h2.at_ t z h
/-- A value in which an own thing is frozen. -/
def FzU (e z x y:AV):Prop:=∀ (w:World) (Z Z':Nat->Prop) (R:List RI) (u:Value),(∀ c,Z c->Z' c)->(∀ v,VR w Z R e v->VR w Z' R z v)->VR w Z R x u->VR w Z' R y u
section
variable {e z:AV}
theorem FzU.refl {x:AV}:FzU e z x x:=fun _ _ _ _ _ hz _ h=>h.mono (fun _ _=>rfl) hz (fun _ _ h=>h)
def FzUs (e z:AV):List AV->List AV->Prop
 | [],[]=>True
 | x::xs,y::ys=>FzU e z x y/\FzUs e z xs ys
 | _,_=>False
theorem FzUs.len:∀ {xs ys:List AV},FzUs e z xs ys->xs.length=ys.length
 | [],[],_=>rfl
 | _::_,_::_,h=>by simp [FzUs.len h.2]
 | [],_::_,h=>h.elim
 | _::_,[],h=>h.elim
theorem FzUs.get:∀ {xs ys:List AV}{i:Nat}{y:AV},FzUs e z xs ys->ys[i]? = some y->∃ x,xs[i]? = some x/\FzU e z x y
 | _::_,_::_,0,_,h,q=>by simp at q; subst q; exact ⟨_,rfl,h.1⟩
 | _::_,_::_,i + 1,_,h,q=>by
  obtain ⟨x,h1,h2⟩:=FzUs.get (i:=i) h.2 (by simpa using q)
  exact ⟨x,by simpa using h1,h2⟩
 | [],[],_,_,_,q=>by simp at q
 | [],_::_,_,_,h,_=>h.elim
 | _::_,[],_,_,h,_=>h.elim
theorem FzU.ag {xs ys:List AV}(h:FzUs e z xs ys):FzU e z (.ag xs) (.ag ys):=fun w Z Z' R u hz k hv=>by
 cases hv with
 | ag hl h1 hx =>
  refine .ag (by rw [hl,h.len]) h1 fun i y u hy hu=>?_
  obtain ⟨x,k1,k2⟩:=h.get hy
  exact k2 _ _ _ _ _ hz k (hx i x u k1 hu)
theorem FzU.fn {f:FuncId}{xs ys:List AV}(h:FzUs e z xs ys):FzU e z (.fn f [] xs) (.fn f [] ys):=fun w Z Z' R u hz k hv=>by
 cases hv with
 | fn hl hl' hx hy =>
  refine .fn hl (by rw [hl',h.len]) (fun i x u h=>by simp at h) fun i y u hy' hu=>?_
  obtain ⟨x,k1,k2⟩:=h.get hy'
  exact k2 _ _ _ _ _ hz k (hy i x u k1 hu)
end
def LkF (l:List (Nat×AV)) (e z:AV):List (Nat×AV)->Prop
 | []=>True
 | (t,y)::r=>(∃ x,lk l t=some x/\FzU e z x y)/\LkF l e z r
theorem LkF.at_ {l:List (Nat×AV)}{e z:AV}:∀ {l':List (Nat×AV)},LkF l e z l'->∀ t y,lk l' t=some y->∃ x,lk l t=some x/\FzU e z x y
 | [],_,t,y,h=>by cases h
 | (k,z0)::r,⟨h1,h2⟩,t,y,h=>by
  rw [Jp] at h
  split at h
  ·next hk=>injection h with h; subst hk h; exact h1
  ·exact h2.at_ t y h
/-- What slices.Clone makes is own. -/
theorem SV {α:Type}{c:Cd α}{k:Nat}{t:TypeId}{h:Hp}{L:List Asn}{xs:List α}{x:AV}{h':Hp}(ht:T h L) (hO:(xs=[]/\x = .e0/\h'=[])\/(x = .rf 0 0 xs.length xs.length/\h'=[some ⟨k,t,xs.map c.enc,false⟩])):∃ e hp,e=shN h.length x/\hp=h++h'/\T hp (own_ (ocL k t (ocV c)) e xs::L):=by
 rcases hO with ⟨rfl,rfl,rfl⟩ | ⟨rfl,rfl⟩
 ·exact ⟨.e0,h,rfl,by simp,T.e0 ht⟩
 ·exact ⟨.rf h.length 0 xs.length xs.length,h++[some ⟨k,t,xs.map c.enc,false⟩],rfl,rfl,RG (PF ht) rfl⟩
theorem SU {α:Type}{c:Cd α}{k:Nat}{t:TypeId}{xs:List α}:∀ (x:AV) (h':Hp),((xs=[]/\x = .e0/\h'=[])\/(x = .rf 0 0 xs.length xs.length/\h'=[some ⟨k,t,xs.map c.enc,false⟩]))->PT x=true/\QM h'=true:=by
 rintro x h' (⟨rfl,rfl,rfl⟩ | ⟨rfl,rfl⟩)
 ·exact ⟨rfl,rfl⟩
 ·exact ⟨rfl,TV xs⟩
noncomputable def C2:Code:=BS Tryz.f135
def Ah (xs:List AR):Option Blk:=some ⟨10,115,xs.map AE.enc,false⟩
set_option maxRecDepth 100000 in
theorem EY (xs:List AR) (hc:FZ 120 xs.length=true):Sem E0 ⟨none,false⟩ C2 ⟨Fr 8 [(0,.sl 10 (xs.map AE.enc))],[]⟩ fun e s'=>(e = .normal\/e = .ret)/\((xs=[]/\s'=⟨Fr 8 [(2,.e0)],[]⟩)\/s'=⟨Fr 8 [(2,.rf 0 0 xs.length xs.length)],[Ah xs]⟩):=by
 refine AH ?_
 refine AI (s1:=⟨Fr 8 [(0,.sl 10 (xs.map AE.enc)),(2,.e0)],[]⟩) ?_ ?_
 ·refine I9 AC 1 (s1:=⟨Fr 8 [(0,.sl 10 (xs.map AE.enc)),(2,.e0)],[]⟩) (by kernel_rfl) ?_
  exact AJ rfl AL
 refine AH ?_
 refine AH (Rb ?_)
 refine I9 AC 1 (s1:=⟨Fr 8 [(0,.sl 10 (xs.map AE.enc)),(2,.e0),(3,.sl 10 (xs.map AE.enc))],[]⟩) (by kernel_rfl) ?_
 refine SN (k:=10) (el:=115) (es:=xs.map AE.enc) rfl (AB rfl) (by kernel_rfl) (by kernel_rfl) fun b hb=>AJ rfl ?_
 have hb:b=true->xs=[]:=fun h=>List.map_eq_nil_iff.1 (hb h)
 refine AO (b:=b) (by kernel_rfl) (fun hb1=>?_) (fun hb1=>?_)
 ·have hx:=hb hb1
  refine A7 ?_
  refine AH (AI (s1:=⟨Fr 8 [(2,.e0)],[]⟩) ?_ (AQ ?_))
  ·refine I9 AC 1 (s1:=⟨Fr 8 [(0,.sl 10 (xs.map AE.enc)),(2,.e0),(3,.sl 10 (xs.map AE.enc)),(4,.v (.bool b))],[]⟩) (by kernel_rfl) ?_
   exact AJ rfl AL
  ·exact ⟨_,Wk.refl,.inr rfl,.inl ⟨hx,rfl⟩⟩
 ·refine AS ?_
  refine A7 (AH (Rb ?_))
  refine I9 AC 2 (s1:=⟨Fr 8 [(0,.sl 10 (xs.map AE.enc)),(2,.e0),(3,.sl 10 (xs.map AE.enc)),(4,.v (.bool b)),(5,.rf 0 0 0 0),(6,.sl 10 (xs.map AE.enc))],[Ah []]⟩) (by kernel_rfl) ?_
  cases xs with
  | nil =>
   refine AP AC 0 rfl (T7 (x:= .rf 0 0 0 0) (hp':=[Ah []]) (AB rfl) rfl (by kernel_rfl) (by kernel_rfl) (by kernel_rfl)) ?_
   refine I9 AC 1 (s1:=⟨Fr 8 [(0,.sl 10 []),(2,.rf 0 0 0 0),(3,.sl 10 []),(4,.v (.bool b)),(5,.rf 0 0 0 0),(6,.sl 10 []),(7,.rf 0 0 0 0)],[Ah []]⟩) (by kernel_rfl) (AJ rfl (AQ ?_))
   exact ⟨⟨Fr 8 [(2,.rf 0 0 0 0)],[Ah []]⟩,AL,.inr rfl,.inr rfl⟩
  | cons y ys =>
   refine AP AC 0 rfl (T7 (AB rfl) rfl (by kernel_rfl) (by kernel_rfl) (Hy (a:= .rf 0 0 0 0) (b:= .sl 10 ((y::ys).map AE.enc)) (by kernel_rfl) (by kernel_rfl) (UC (c:=AE) (xs:=[]) (vs:=y::ys) (k:=10) (bytes:=120) (el:=115) (by kernel_rfl) (by kernel_rfl) Rn (List.cons_ne_nil _ _) (by kernel_rfl) (by rw [List.length_nil,Nat.zero_add]; exact hc)))) ?_
   refine I9 AC 1 (s1:=⟨Fr 8 [(0,.sl 10 ((y::ys).map AE.enc)),(2,.rf 1 0 (y::ys).length (y::ys).length),(3,.sl 10 ((y::ys).map AE.enc)),(4,.v (.bool b)),(5,.rf 0 0 0 0),(6,.sl 10 ((y::ys).map AE.enc)),(7,.rf 1 0 (y::ys).length (y::ys).length)],[none,Ah (y::ys)]⟩) (by kernel_rfl) (AJ rfl (AQ ?_))
   exact ⟨⟨Fr 8 [(2,.rf 0 0 (y::ys).length (y::ys).length)],[Ah (y::ys)]⟩,An [1] ⟨⟨_,rfl,XQ⟩,trivial⟩ ⟨lv,trivial⟩,.inr rfl,.inr rfl⟩
def Es (xs:List AR) (x:AV) (h':Hp):Prop:=(xs=[]/\x = .e0/\h'=[])\/(x = .rf 0 0 xs.length xs.length/\h'=[Ah xs])
theorem FA (xs:List AR) (hc:FZ 120 xs.length=true):SOk 135 [.sl 10 (xs.map AE.enc)] (Es xs):=by
 refine Sk AC rfl rfl (fn:=Tryz.f135) (c:=C2) (by kernel_rfl) (by kernel_rfl) ⟨Tryz.call135⟩ (by show 1<=8; decide) (Sem.mono (EY xs hc) ?_)
 rintro e s' ⟨he,⟨hx,rfl⟩ | rfl⟩
 ·exact ⟨he,[.e0],by kernel_rfl,.inl ⟨hx,rfl,rfl⟩⟩
 ·exact ⟨he,[.rf 0 0 xs.length xs.length],by kernel_rfl,.inr ⟨rfl,rfl⟩⟩
def Jw:Cs (List AR×Unit):=csC (cdL 10 AE) csN
/- trestle/court.orderOf$1 -/
noncomputable def IQ:Code:=BS Tryz.f165
def Bh {β:Type}(G:AR->AR->β->Option Int) (x0:AR) (x1:AR) (x2:AF) (x3:β):Option (Int) :=
 (if (!(x2.2.1==[]))=true then if (!(x0.1.2.1==x2.2.1))=true then some true else some (!(x1.1.2.1==x2.2.1)) else some false).bind fun j2 =>
 if j2=true then
 some 0
 else
 (G x0 x1 x3).bind fun v4 =>
 some v4
def GO {β:Type}(fid:FuncId) (sx:Cs β) (hn:∀ x,(sx.enc x).all F7=true):Cs (AR×AR×AF×β×Unit):=(csC AE (csC AE (csC (cdP AA) (csC (cdP (cdF fid sx hn)) csN))))
def GR (r:Int):AV:=cdI.enc r
theorem Kx {β:Type}{fid:FuncId}{sx:Cs β}{hn:∀ x,(sx.enc x).all F7=true}{G:AR->AR->β->Option Int}(hX:XOk fid (Dx (csC AE (csC AE sx)) (fun a=>G a.1 a.2.1 a.2.2) cdI.enc)) (x0:AR) (x1:AR) (x2:AF) (x3:β) (r:Int) (h:Bh G x0 x1 x2 x3=some r):Sem E0 ⟨none,false⟩ IQ ⟨Fr 30 (BG 0 ((GO fid sx hn).enc (x0,x1,x2,x3,()))),[]⟩ fun e s'=>(e = .normal\/e = .ret)/\∃ xs,Ef E0.P s'.fr s'.hp Tryz.f165.results.toList=some xs/\Eh xs=GR r:=by
 unfold Bh at h
 refine A7 (Bt (s1:=⟨Fr 30 [(0,AE.enc x0),(1,AE.enc x1),(2,.pe (AA.enc x2) 0),(3,.pe (.fn fid [] (sx.enc x3)) 0)],[]⟩) AL ?_)
 refine AK AC [(2,.pe (AA.enc x2) 0),(3,.pe (.fn fid [] (sx.enc x3)) 0),(4,.pt 0 0 0),(5,.pt 1 0 0)] [some ⟨10,115,[AE.enc x0],false⟩,some ⟨10,115,[AE.enc x1],false⟩] ?_
 refine AH ?_
 refine AH ?_
 obtain ⟨j2,hj2,h⟩:=OB h
 refine AI (s1:=⟨Fr 30 [(3,.pe (.fn fid [] (sx.enc x3)) 0),(4,.pt 0 0 0),(5,.pt 1 0 0),(25,.v (.bool j2))],[some ⟨10,115,[AE.enc x0],false⟩,some ⟨10,115,[AE.enc x1],false⟩]⟩) ?_ ?_
 ·refine AD (n:=30) AC 4 [(2,.pe (AA.enc x2) 0),(3,.pe (.fn fid [] (sx.enc x3)) 0),(4,.pt 0 0 0),(5,.pt 1 0 0),(10,.v (.bool (!(x2.2.1==[]))))] [some ⟨10,115,[AE.enc x0],false⟩,some ⟨10,115,[AE.enc x1],false⟩] kr ?_
  rcases BE (!(x2.2.1==[])) with hc5 | hc5
  ·rw [if_pos hc5] at hj2
   rw [hc5]
   refine AD (n:=30) AC 7 [(2,.pe (AA.enc x2) 0),(3,.pe (.fn fid [] (sx.enc x3)) 0),(4,.pt 0 0 0),(5,.pt 1 0 0),(10,.v (.bool true)),(17,.v (.bool (!(x0.1.2.1==x2.2.1))))] [some ⟨10,115,[AE.enc x0],false⟩,some ⟨10,115,[AE.enc x1],false⟩] kr ?_
   rcases BE (!(x0.1.2.1==x2.2.1)) with hc6 | hc6
   ·rw [if_pos hc6] at hj2
    rw [hc6]
    refine AD (n:=30) AC 8 [(3,.pe (.fn fid [] (sx.enc x3)) 0),(4,.pt 0 0 0),(5,.pt 1 0 0),(25,.v (.bool true))] [some ⟨10,115,[AE.enc x0],false⟩,some ⟨10,115,[AE.enc x1],false⟩] kr ?_
    have hq:=OI hj2; subst hq
    exact AJ rfl (An [0,1] ⟨⟨_,rfl,Cm⟩,⟨_,rfl,Cm⟩,trivial⟩ ⟨lv,lv,lv,lv,trivial⟩)
   ·rw [CT hc6] at hj2
    rw [hc6]
    refine AD (n:=30) AC 8 [(3,.pe (.fn fid [] (sx.enc x3)) 0),(4,.pt 0 0 0),(5,.pt 1 0 0),(25,.v (.bool (!(x1.1.2.1==x2.2.1))))] [some ⟨10,115,[AE.enc x0],false⟩,some ⟨10,115,[AE.enc x1],false⟩] kr ?_
    have hq:=OI hj2; subst hq
    exact AJ rfl (An [0,1] ⟨⟨_,rfl,Cm⟩,⟨_,rfl,Cm⟩,trivial⟩ ⟨lv,lv,lv,lv,trivial⟩)
  ·rw [CT hc5] at hj2
   rw [hc5]
   refine AD (n:=30) AC 15 [(3,.pe (.fn fid [] (sx.enc x3)) 0),(4,.pt 0 0 0),(5,.pt 1 0 0),(25,.v (.bool false))] [some ⟨10,115,[AE.enc x0],false⟩,some ⟨10,115,[AE.enc x1],false⟩] kr ?_
   have hq:=OI hj2; subst hq
   exact AJ rfl (An [0,1] ⟨⟨_,rfl,Cm⟩,⟨_,rfl,Cm⟩,trivial⟩ ⟨lv,lv,lv,lv,trivial⟩)
 refine AO (b:=j2) kr (fun hb3=>?_) (fun hb3=>?_)
 ·rw [if_pos hb3] at h
  refine AH ?_
  refine AI (s1:=⟨Fr 30 [(6,.v (.int .i64 0))],[]⟩) ?_ ?_
  ·refine AD (n:=30) AC 1 [(6,.v (.int .i64 0))] [some ⟨10,115,[AE.enc x0],false⟩,some ⟨10,115,[AE.enc x1],false⟩] kr ?_
   exact AJ rfl (An [] trivial ⟨lv,trivial⟩)
  refine AQ ?_
  have hq:=OI h; subst hq
  exact ⟨⟨Fr 30 [(6,.v (.int .i64 0))],[]⟩,AL,.inr rfl,[.v (.int .i64 0)],kr,kr⟩
 ·rw [CT hb3] at h
  refine AS ?_
  refine AH ?_
  obtain ⟨v4,hv4,h⟩:=OB h
  refine AI (s1:=⟨Fr 30 [(6,.v (.int .i64 v4))],[]⟩) ?_ ?_
  ·refine AD (n:=30) AC 3 [(26,.fn fid [] (sx.enc x3)),(27,AE.enc x0),(28,AE.enc x1)] [some ⟨10,115,[AE.enc x0],false⟩,some ⟨10,115,[AE.enc x1],false⟩] kr ?_
   refine AW (caps:=sx.enc x3) (xs:=[AE.enc x0,AE.enc x1]) (u:=(x0,x1,x3)) rfl rfl hX rfl (AB rfl) kr kr (AN (AZ (c:=AE) (v:=x0)) (AN (AZ (c:=AE) (v:=x1)) (O8 (n:=10) (s:=sx) (a:=x3)))) (.inl kr) hv4 ?_
   refine AD (n:=30) AC 1 [(6,.v (.int .i64 v4))] [some ⟨10,115,[AE.enc x0],false⟩,some ⟨10,115,[AE.enc x1],false⟩] kr ?_
   exact AJ rfl (An [] trivial ⟨lv,trivial⟩)
  refine AQ ?_
  have hq:=OI h; subst hq
  exact ⟨⟨Fr 30 [(6,.v (.int .i64 v4))],[]⟩,AL,.inr rfl,[.v (.int .i64 v4)],kr,kr⟩
def MR {β:Type}(fid:FuncId) (sx:Cs β) (hn:∀ x,(sx.enc x).all F7=true) (G:AR->AR->β->Option Int):List AV->Option AV:=Dx (GO fid sx hn) (fun a=>Bh G a.1 a.2.1 a.2.2.1 a.2.2.2.1) GR
theorem CB {β:Type}{fid:FuncId}{sx:Cs β}{hn:∀ x,(sx.enc x).all F7=true}{G:AR->AR->β->Option Int}(hX:XOk fid (Dx (csC AE (csC AE sx)) (fun a=>G a.1 a.2.1 a.2.2) cdI.enc)):XOk 165 (MR fid sx hn G):=by
 refine AU Tryz.func165 (c:=IQ) ?h2 ⟨Tryz.call165⟩ (GO fid sx hn) (fun a=>Bh G a.1 a.2.1 a.2.2.1 a.2.2.2.1) GR (fun a=>(by show 4<=30; decide)) ?h3 ?h4
 case h2=>kernel_rfl
 case h3=>intro b; kernel_rfl
 case h4=>exact fun a b h=>Kx hX a.1 a.2.1 a.2.2.1 a.2.2.2.1 b h
/- cmp.isNaN[int] -/
noncomputable def JZ:Code:=BS Tryz.f137
def DG (x0:Int):Option (Bool) :=
 some (x0 != x0)
def HO:Cs (Int×Unit):=(csC cdI csN)
def Hc (r:Bool):AV:=cdB.enc r
theorem Lr (x0:Int) (r:Bool) (h:DG x0=some r):Sem E0 ⟨none,false⟩ JZ ⟨Fr 6 (BG 0 (HO.enc (x0,()))),[]⟩ fun e s'=>(e = .normal\/e = .ret)/\∃ xs,Ef E0.P s'.fr s'.hp Tryz.f137.results.toList=some xs/\Eh xs=Hc r:=by
 unfold DG at h;refine A7 (Bt (s1:=⟨Fr 6 [(0,.v (.int .i64 x0))],[]⟩) AL ?_);refine AK AC [(0,.v (.int .i64 x0))] [] ?_;refine AK AC [(2,.v (.bool (x0 != x0)))] [] ?_;refine AQ ?_;have hq:=OI h; subst hq;exact ⟨⟨Fr 6 [(2,.v (.bool (x0 != x0)))],[]⟩,AL,.inr rfl,[.v (.bool (x0 != x0))],kr,kr⟩
def Nn:List AV->Option AV:=Dx HO (fun a=>DG a.1) Hc
theorem Gi:XOk 137 Nn:=by
 refine AU Tryz.func137 (c:=JZ) ?h2 ⟨Tryz.call137⟩ HO (fun a=>DG a.1) Hc (fun a=>(by show 1<=6; decide)) ?h3 ?h4
 case h2=>kernel_rfl
 case h3=>intro b; kernel_rfl
 case h4=>exact fun a b h=>Lr a.1 b h
/- cmp.Compare[int] -/
noncomputable def IP:Code:=BS Tryz.f113
def B3 (x0:Int) (x1:Int):Option (Int) :=
 (DG x0).bind fun v1 =>
 (DG x1).bind fun v2 =>
 if v1=true then
 if v2=true then
 some 0
 else
 some (-1)
 else
 if v2=true then
 some 1
 else
 if (decide (x0 < x1))=true then
 some (-1)
 else
 if (decide (x0 > x1))=true then
 some 1
 else
 some 0
def GM:Cs (Int×Int×Unit):=(csC cdI (csC cdI csN))
def GQ (r:Int):AV:=cdI.enc r
theorem Kw (x0:Int) (x1:Int) (r:Int) (h:B3 x0 x1=some r):Sem E0 ⟨none,false⟩ IP ⟨Fr 20 (BG 0 (GM.enc (x0,x1,()))),[]⟩ fun e s'=>(e = .normal\/e = .ret)/\∃ xs,Ef E0.P s'.fr s'.hp Tryz.f113.results.toList=some xs/\Eh xs=GQ r:=by
 unfold B3 at h
 let p1:Nat×AV:=(1,.v (.int .i64 x1))
 let p2:Nat×AV:=(0,.v (.int .i64 x0))
 refine A7 (Bt (s1:=⟨Fr 20 [p2,p1],[]⟩) AL ?_);refine AK AC [p2,p1] [] ?_;refine AH ?_;obtain ⟨v1,hv1,h⟩:=OB h
 let p3:Nat×AV:=(5,.v (.bool v1))
 refine AI (s1:=⟨Fr 20 [p2,p1,p3],[]⟩) ?_ ?_
 ·refine AD (n:=20) AC 1 [p2,p1,(7,.v (.int .i64 x0))] [] kr ?_
  refine AW (caps:=[]) (xs:=[.v (.int .i64 x0)]) (u:=(x0,())) rfl rfl Gi rfl (AB rfl) kr kr (AN (AZ (c:=cdI) (v:=x0)) BA) (.inl kr) hv1 ?_;exact AY AC
 refine AH ?_;obtain ⟨v2,hv2,h⟩:=OB h;refine AI (s1:=⟨Fr 20 [p2,p1,p3,(6,.v (.bool v2))],[]⟩) ?_ ?_
 ·refine AD (n:=20) AC 1 [p2,p1,p3,(9,.v (.int .i64 x1))] [] kr ?_
  refine AW (caps:=[]) (xs:=[.v (.int .i64 x1)]) (u:=(x1,())) rfl rfl Gi rfl (AB rfl) kr kr (AN (AZ (c:=cdI) (v:=x1)) BA) (.inl kr) hv2 ?_;exact AY AC
 refine AH ?_;refine AK AC [p2,p1,(6,.v (.bool v2)),(11,.v (.bool v1))] [] ?_;refine AO (b:=v1) kr (fun hb3=>?_) (fun hb3=>?_)
 ·rw [if_pos hb3] at h
  refine AH ?_;refine AK AC [(12,.v (.bool v2))] [] ?_;refine AO (b:=v2) kr (fun hb4=>?_) (fun hb4=>?_)
  ·rw [if_pos hb4] at h
   refine AK AC [(4,.v (.int .i64 0))] [] ?_;refine AQ ?_;have hq:=OI h; subst hq;exact ⟨⟨Fr 20 [(4,.v (.int .i64 0))],[]⟩,AL,.inr rfl,[.v (.int .i64 0)],kr,kr⟩
  ·rw [CT hb4] at h
   refine AS ?_;refine AK AC [(4,.v (.int .i64 (-1)))] [] ?_;refine AQ ?_;have hq:=OI h; subst hq;exact ⟨⟨Fr 20 [(4,.v (.int .i64 (-1)))],[]⟩,AL,.inr rfl,[.v (.int .i64 (-1))],kr,kr⟩
 ·rw [CT hb3] at h
  refine AS ?_;refine AH ?_;refine AK AC [p2,p1,(13,.v (.bool v2))] [] ?_;refine AO (b:=v2) kr (fun hb5=>?_) (fun hb5=>?_)
  ·rw [if_pos hb5] at h
   refine AK AC [(4,.v (.int .i64 1))] [] ?_;refine AQ ?_;have hq:=OI h; subst hq;exact ⟨⟨Fr 20 [(4,.v (.int .i64 1))],[]⟩,AL,.inr rfl,[.v (.int .i64 1)],kr,kr⟩
  ·rw [CT hb5] at h
   refine AS ?_;refine AH ?_;refine AK AC [p2,p1,(16,.v (.bool (decide (x0 < x1))))] [] ?_;refine AO (b:=(decide (x0 < x1))) kr (fun hb6=>?_) (fun hb6=>?_)
   ·rw [if_pos hb6] at h
    refine AK AC [(4,.v (.int .i64 (-1)))] [] ?_;refine AQ ?_;have hq:=OI h; subst hq;exact ⟨⟨Fr 20 [(4,.v (.int .i64 (-1)))],[]⟩,AL,.inr rfl,[.v (.int .i64 (-1))],kr,kr⟩
   ·rw [CT hb6] at h
    refine AS ?_;refine AH ?_;refine AK AC [(19,.v (.bool (decide (x0 > x1))))] [] ?_;refine AO (b:=(decide (x0 > x1))) kr (fun hb7=>?_) (fun hb7=>?_)
    ·rw [if_pos hb7] at h
     refine AK AC [(4,.v (.int .i64 1))] [] ?_;refine AQ ?_;have hq:=OI h; subst hq;exact ⟨⟨Fr 20 [(4,.v (.int .i64 1))],[]⟩,AL,.inr rfl,[.v (.int .i64 1)],kr,kr⟩
    ·rw [CT hb7] at h
     refine AS ?_;refine AK AC [(4,.v (.int .i64 0))] [] ?_;refine AQ ?_;have hq:=OI h; subst hq;exact ⟨⟨Fr 20 [(4,.v (.int .i64 0))],[]⟩,AL,.inr rfl,[.v (.int .i64 0)],kr,kr⟩
def MP:List AV->Option AV:=Dx GM (fun a=>B3 a.1 a.2.1) GQ
theorem Eg:XOk 113 MP:=by
 refine AU Tryz.func113 (c:=IP) ?h2 ⟨Tryz.call113⟩ GM (fun a=>B3 a.1 a.2.1) GQ (fun a=>(by show 2<=20; decide)) ?h3 ?h4
 case h2=>kernel_rfl
 case h3=>intro b; kernel_rfl
 case h4=>exact fun a b h=>Kw a.1 a.2.1 b h
/- trestle/court.by$1 -/
noncomputable def LE:Code:=BS Tryz.f205
def B8 {β:Type}(G:AR->β->Option Int) (x0:AR) (x1:AR) (x2:β):Option (Int) :=
 (G x0 x2).bind fun v1 =>
 (G x1 x2).bind fun v2 =>
 (B3 v1 v2).bind fun v3 =>
 some v3
def JE {β:Type}(fid:FuncId) (sx:Cs β) (hn:∀ x,(sx.enc x).all F7=true):Cs (AR×AR×β×Unit):=(csC AE (csC AE (csC (cdP (cdF fid sx hn)) csN)))
def JJ (r:Int):AV:=cdI.enc r
theorem ON {β:Type}{fid:FuncId}{sx:Cs β}{hn:∀ x,(sx.enc x).all F7=true}{G:AR->β->Option Int}(hX:XOk fid (Dx (csC AE sx) (fun a=>G a.1 a.2) cdI.enc)) (x0:AR) (x1:AR) (x2:β) (r:Int) (h:B8 G x0 x1 x2=some r):Sem E0 ⟨none,false⟩ LE ⟨Fr 13 (BG 0 ((JE fid sx hn).enc (x0,x1,x2,()))),[]⟩ fun e s'=>(e = .normal\/e = .ret)/\∃ xs,Ef E0.P s'.fr s'.hp Tryz.f205.results.toList=some xs/\Eh xs=JJ r:=by
 unfold B8 at h
 refine A7 (Bt (s1:=⟨Fr 13 [(0,AE.enc x0),(1,AE.enc x1),(2,.pe (.fn fid [] (sx.enc x2)) 0)],[]⟩) AL ?_)
 refine AK AC [(2,.pe (.fn fid [] (sx.enc x2)) 0),(3,.pt 0 0 0),(4,.pt 1 0 0)] [some ⟨10,115,[AE.enc x0],false⟩,some ⟨10,115,[AE.enc x1],false⟩] ?_
 refine AH ?_
 obtain ⟨v1,hv1,h⟩:=OB h
 obtain ⟨v2,hv2,h⟩:=OB h
 obtain ⟨v3,hv3,h⟩:=OB h
 refine ES AC (s1:=⟨Fr 13 [(5,.v (.int .i64 v3))],[]⟩) kr ?_ ?_
 ·refine Ar (n:=13) AC 2 [(2,.pe (.fn fid [] (sx.enc x2)) 0),(4,.pt 1 0 0),(6,.fn fid [] (sx.enc x2)),(7,AE.enc x0)] [some ⟨10,115,[AE.enc x0],false⟩,some ⟨10,115,[AE.enc x1],false⟩] kr kr ?_
  refine B9 (caps:=sx.enc x2) (xs:=[AE.enc x0]) (u:=(x0,x2)) rfl rfl hX rfl (AB rfl) kr kr (AN (AZ (c:=AE) (v:=x0)) (O8 (n:=10) (s:=sx) (a:=x2))) kr hv1 ?_
  refine Ar (n:=13) AC 2 [(8,.v (.int .i64 v1)),(9,.fn fid [] (sx.enc x2)),(10,AE.enc x1)] [some ⟨10,115,[AE.enc x0],false⟩,some ⟨10,115,[AE.enc x1],false⟩] kr kr ?_
  refine B9 (caps:=sx.enc x2) (xs:=[AE.enc x1]) (u:=(x1,x2)) rfl rfl hX rfl (AB rfl) kr kr (AN (AZ (c:=AE) (v:=x1)) (O8 (n:=10) (s:=sx) (a:=x2))) kr hv2 ?_
  refine B9 (caps:=[]) (xs:=[.v (.int .i64 v1),.v (.int .i64 v2)]) (u:=(v1,v2,())) rfl rfl Eg rfl (AB rfl) kr kr (AN (AZ (c:=cdI) (v:=v1)) (AN (AZ (c:=cdI) (v:=v2)) BA)) kr hv3 ?_
  refine Ar (n:=13) AC 1 [(5,.v (.int .i64 v3))] [some ⟨10,115,[AE.enc x0],false⟩,some ⟨10,115,[AE.enc x1],false⟩] kr kr ?_
  exact RunDS.done rfl (An [] trivial ⟨lv,trivial⟩)
 refine AQ ?_
 have hq:=OI h; subst hq
 exact ⟨⟨Fr 13 [(5,.v (.int .i64 v3))],[]⟩,AL,.inr rfl,[.v (.int .i64 v3)],kr,kr⟩
def QX {β:Type}(fid:FuncId) (sx:Cs β) (hn:∀ x,(sx.enc x).all F7=true) (G:AR->β->Option Int):List AV->Option AV:=Dx (JE fid sx hn) (fun a=>B8 G a.1 a.2.1 a.2.2.1) JJ
theorem HH {β:Type}{fid:FuncId}{sx:Cs β}{hn:∀ x,(sx.enc x).all F7=true}{G:AR->β->Option Int}(hX:XOk fid (Dx (csC AE sx) (fun a=>G a.1 a.2) cdI.enc)):XOk 205 (QX fid sx hn G):=by
 refine AU Tryz.func205 (c:=LE) ?h2 ⟨Tryz.call205⟩ (JE fid sx hn) (fun a=>B8 G a.1 a.2.1 a.2.2.1) JJ (fun a=>(by show 3<=13; decide)) ?h3 ?h4
 case h2=>kernel_rfl
 case h3=>intro b; kernel_rfl
 case h4=>exact fun a b h=>ON hX a.1 a.2.1 a.2.2.1 b h
/- trestle/court.plain$1 -/
noncomputable def Jd:Code:=BS Tryz.f178
def DI (x0:AR) (x1:AF):Option (Int) :=
 (BM x1.2.2.2.1 x0.1.2.1).bind fun v1 =>
 if (decide (v1≥0))=true then
 some v1
 else
 some (x1.2.2.2.1.length:Int)
def HT:Cs (AR×AF×Unit):=(csC AE (csC (cdP AA) csN))
def Hh (r:Int):AV:=cdI.enc r
theorem Lz (x0:AR) (x1:AF) (r:Int) (h:DI x0 x1=some r):Sem E0 ⟨none,false⟩ Jd ⟨Fr 17 (BG 0 (HT.enc (x0,x1,()))),[]⟩ fun e s'=>(e = .normal\/e = .ret)/\∃ xs,Ef E0.P s'.fr s'.hp Tryz.f178.results.toList=some xs/\Eh xs=Hh r:=by
 unfold DI at h
 let p1:Nat×AV:=(1,.pe (AA.enc x1) 0)
 refine A7 (Bt (s1:=⟨Fr 17 [(0,AE.enc x0),p1],[]⟩) AL ?_)
 let p2:Option Blk:=some ⟨10,115,[AE.enc x0],false⟩
 refine AK AC [p1,(2,.pt 0 0 0)] [p2] ?_;refine AH ?_;refine AH ?_;obtain ⟨v1,hv1,h⟩:=OB h
 let p3:Nat×AV:=(4,.v (.int .i64 v1))
 refine AI (s1:=⟨Fr 17 [p1,p3],[]⟩) ?_ ?_
 ·refine AD (n:=17) AC 5 [p1,(6,.sl 1 (x1.2.2.2.1.map cdS.enc)),(9,.st x0.1.2.1)] [p2] kr ?_
  refine AW (caps:=[]) (xs:=[.sl 1 (x1.2.2.2.1.map cdS.enc),.st x0.1.2.1]) (u:=(x1.2.2.2.1,x0.1.2.1,())) rfl rfl Ey rfl (AB rfl) kr kr (AN (AZ (c:=(cdL 1 cdS)) (v:=x1.2.2.2.1)) (AN (AZ (c:=cdS) (v:=x0.1.2.1)) BA)) (.inl kr) hv1 ?_;refine AD (n:=17) AC 1 [p1,p3] [p2] kr ?_;exact AJ rfl (An [] trivial ⟨lv,lv,trivial⟩)
 refine AK AC [p1,p3,(12,.v (.bool (decide (v1≥0))))] [] ?_;refine AO (b:=(decide (v1≥0))) kr (fun hb2=>?_) (fun hb2=>?_)
 ·rw [if_pos hb2] at h
  refine AK AC [(3,.v (.int .i64 v1))] [] ?_;refine AQ ?_;have hq:=OI h; subst hq;exact ⟨⟨Fr 17 [(3,.v (.int .i64 v1))],[]⟩,AL,.inr rfl,[.v (.int .i64 v1)],kr,kr⟩
 ·rw [CT hb2] at h
  refine AS ?_;refine AH ?_
  let p4:Nat×AV:=(3,.v (.int .i64 (x1.2.2.2.1.length:Int)))
  refine AI (s1:=⟨Fr 17 [p4],[]⟩) ?_ ?_
  ·refine AD (n:=17) AC 2 [(15,.sl 1 (x1.2.2.2.1.map cdS.enc))] [] kr ?_
   refine AP AC 0 rfl (Dq (AB rfl) rfl (Dg (a:= .sl 1 (x1.2.2.2.1.map cdS.enc)) kr (CW (el:=9) kr))) ?_;exact AY AC
  refine AQ ?_;have hq:=OI h; subst hq;exact ⟨⟨Fr 17 [p4],[]⟩,AL,.inr rfl,[.v (.int .i64 (x1.2.2.2.1.length:Int))],kr,kr⟩
def Ns:List AV->Option AV:=Dx HT (fun a=>DI a.1 a.2.1) Hh
theorem OA:XOk 178 Ns:=by
 refine AU Tryz.func178 (c:=Jd) ?h2 ⟨Tryz.call178⟩ HT (fun a=>DI a.1 a.2.1) Hh (fun a=>(by show 2<=17; decide)) ?h3 ?h4
 case h2=>kernel_rfl
 case h3=>intro b; kernel_rfl
 case h4=>exact fun a b h=>Lz a.1 a.2.1 b h
/- trestle/court.b2i -/
noncomputable def MX:Code:=BS Tryz.f180
def H7 (x0:Bool):Option (Int) :=
 if x0=true then
 some 1
 else
 some 0
def J8:Cs (Bool×Unit):=(csC cdB csN)
def KB (r:Int):AV:=cdI.enc r
theorem PE (x0:Bool) (r:Int) (h:H7 x0=some r):Sem E0 ⟨none,false⟩ MX ⟨Fr 4 (BG 0 (J8.enc (x0,()))),[]⟩ fun e s'=>(e = .normal\/e = .ret)/\∃ xs,Ef E0.P s'.fr s'.hp Tryz.f180.results.toList=some xs/\Eh xs=KB r:=by
 unfold H7 at h;refine A7 (Bt (s1:=⟨Fr 4 [(0,.v (.bool x0))],[]⟩) AL ?_);refine AK AC [(0,.v (.bool x0))] [] ?_;refine AH ?_;refine AK AC [(3,.v (.bool x0))] [] ?_;refine AO (b:=x0) kr (fun hb1=>?_) (fun hb1=>?_)
 ·rw [if_pos hb1] at h
  refine AK AC [(2,.v (.int .i64 1))] [] ?_;refine AQ ?_;have hq:=OI h; subst hq;exact ⟨⟨Fr 4 [(2,.v (.int .i64 1))],[]⟩,AL,.inr rfl,[.v (.int .i64 1)],kr,kr⟩
 ·rw [CT hb1] at h
  refine AS ?_;refine AK AC [(2,.v (.int .i64 0))] [] ?_;refine AQ ?_;have hq:=OI h; subst hq;exact ⟨⟨Fr 4 [(2,.v (.int .i64 0))],[]⟩,AL,.inr rfl,[.v (.int .i64 0)],kr,kr⟩
def RR:List AV->Option AV:=Dx J8 (fun a=>H7 a.1) KB
theorem N6:XOk 180 RR:=by
 refine AU Tryz.func180 (c:=MX) ?h2 ⟨Tryz.call180⟩ J8 (fun a=>H7 a.1) KB (fun a=>(by show 1<=4; decide)) ?h3 ?h4
 case h2=>kernel_rfl
 case h3=>intro b; kernel_rfl
 case h4=>exact fun a b h=>PE a.1 b h
/- trestle/court.plain$2 -/
noncomputable def HN:Code:=BS Tryz.f179
def Fj (x2:AF) (v5:Int):Option ((Int)) :=
 if (x2.1==3)=true then
 some (wr .i64 (0 - v5))
 else
 some v5
def Cj (x0:AR) (x1:AR) (x2:AF):Option (Int) :=
 if (!((x0.1.2.2.2.1==0)==(x1.1.2.2.2.1==0)))=true then
 (H7 (x0.1.2.2.2.1==0)).bind fun v2 =>
 (H7 (x1.1.2.2.2.1==0)).bind fun v3 =>
 (B3 v2 v3).bind fun v4 =>
 some v4
 else
 (B3 x0.1.2.2.2.1 x1.1.2.2.2.1).bind fun v5 =>
 (Fj x2 v5).bind fun r8 =>
 some r8
def HU:Cs (AR×AR×AF×Unit):=(csC AE (csC AE (csC (cdP AA) csN)))
def Hi (r:Int):AV:=cdI.enc r
theorem Ky (x2:AF) (v5:Int) (r:(Int)) (h:Fj x2 v5=some r):Sem E0 ⟨none,false⟩ (pc HN [1,1,1,0,1]) ⟨Fr 40 [(6,.v (.int .i64 v5)),(36,.v (.bool (x2.1==3)))],[]⟩ (fun e s=>e = .normal/\Wk E0 s ⟨Fr 40 [(6,.v (.int .i64 r))],[]⟩):=by
 unfold Fj at h;refine AO (b:=(x2.1==3)) kr (fun hb6=>?_) (fun hb6=>?_)
 ·rw [if_pos hb6] at h
  refine DO AC [(6,.v (.int .i64 (wr .i64 (0 - v5))))] [] ?_;have hq:=OI h; subst hq;exact ⟨rfl,AL⟩
 ·rw [CT hb6] at h
  refine AS ?_;have hq:=OI h; subst hq;exact ⟨rfl,AL⟩
theorem L1 (x0:AR) (x1:AR) (x2:AF) (r:Int) (h:Cj x0 x1 x2=some r):Sem E0 ⟨none,false⟩ HN ⟨Fr 40 (BG 0 (HU.enc (x0,x1,x2,()))),[]⟩ fun e s'=>(e = .normal\/e = .ret)/\∃ xs,Ef E0.P s'.fr s'.hp Tryz.f179.results.toList=some xs/\Eh xs=Hi r:=by
 unfold Cj at h
 let p1:Nat×AV:=(2,.pe (AA.enc x2) 0)
 refine A7 (Bt (s1:=⟨Fr 40 [(0,AE.enc x0),(1,AE.enc x1),p1],[]⟩) AL ?_)
 let p2:Option Blk:=some ⟨10,115,[AE.enc x1],false⟩
 let p3:Option Blk:=some ⟨10,115,[AE.enc x0],false⟩
 refine AK AC [p1,(3,.pt 0 0 0),(4,.pt 1 0 0)] [p3,p2] ?_;refine AH ?_;refine AK AC [p1,(3,.pt 0 0 0),(4,.pt 1 0 0),(15,.v (.bool (!((x0.1.2.2.2.1==0)==(x1.1.2.2.2.1==0)))))] [p3,p2] ?_;refine AO (b:=(!((x0.1.2.2.2.1==0)==(x1.1.2.2.2.1==0)))) kr (fun hb1=>?_) (fun hb1=>?_)
 ·rw [if_pos hb1] at h
  refine AH ?_;obtain ⟨v2,hv2,h⟩:=OB h;obtain ⟨v3,hv3,h⟩:=OB h;obtain ⟨v4,hv4,h⟩:=OB h
  let p4:Nat×AV:=(5,.v (.int .i64 v4))
  refine ES AC (s1:=⟨Fr 40 [p4],[]⟩) kr ?_ ?_
  ·refine Ar (n:=40) AC 4 [(4,.pt 1 0 0),(19,.v (.bool (x0.1.2.2.2.1==0)))] [p3,p2] kr kr ?_
   refine B9 (caps:=[]) (xs:=[.v (.bool (x0.1.2.2.2.1==0))]) (u:=((x0.1.2.2.2.1==0),())) rfl rfl N6 rfl (AB rfl) kr kr (AN (AZ (c:=cdB) (v:=(x0.1.2.2.2.1==0))) BA) kr hv2 ?_;refine Ar (n:=40) AC 4 [(20,.v (.int .i64 v2)),(24,.v (.bool (x1.1.2.2.2.1==0)))] [p3,p2] kr kr ?_;refine B9 (caps:=[]) (xs:=[.v (.bool (x1.1.2.2.2.1==0))]) (u:=((x1.1.2.2.2.1==0),())) rfl rfl N6 rfl (AB rfl) kr kr (AN (AZ (c:=cdB) (v:=(x1.1.2.2.2.1==0))) BA) kr hv3 ?_;refine B9 (caps:=[]) (xs:=[.v (.int .i64 v2),.v (.int .i64 v3)]) (u:=(v2,v3,())) rfl rfl Eg rfl (AB rfl) kr kr (AN (AZ (c:=cdI) (v:=v2)) (AN (AZ (c:=cdI) (v:=v3)) BA)) kr hv4 ?_;refine Ar (n:=40) AC 1 [p4] [p3,p2] kr kr ?_;exact RunDS.done rfl (An [] trivial ⟨lv,trivial⟩)
  refine AQ ?_;have hq:=OI h; subst hq;exact ⟨⟨Fr 40 [p4],[]⟩,AL,.inr rfl,[.v (.int .i64 v4)],kr,kr⟩
 ·rw [CT hb1] at h
  refine AS ?_;refine AH ?_;obtain ⟨v5,hv5,h⟩:=OB h
  let p5:Nat×AV:=(6,.v (.int .i64 v5))
  refine AI (s1:=⟨Fr 40 [p1,p5],[]⟩) ?_ ?_
  ·refine AD (n:=40) AC 6 [p1,(29,.v (.int .i64 x0.1.2.2.2.1)),(32,.v (.int .i64 x1.1.2.2.2.1))] [p3,p2] kr ?_
   refine AW (caps:=[]) (xs:=[.v (.int .i64 x0.1.2.2.2.1),.v (.int .i64 x1.1.2.2.2.1)]) (u:=(x0.1.2.2.2.1,x1.1.2.2.2.1,())) rfl rfl Eg rfl (AB rfl) kr kr (AN (AZ (c:=cdI) (v:=x0.1.2.2.2.1)) (AN (AZ (c:=cdI) (v:=x1.1.2.2.2.1)) BA)) (.inl kr) hv5 ?_;refine AD (n:=40) AC 1 [p1,p5] [p3,p2] kr ?_;exact AJ rfl (An [] trivial ⟨lv,lv,trivial⟩)
  refine AH ?_;refine AK AC [p5,(36,.v (.bool (x2.1==3)))] [] ?_;obtain ⟨r8,hr8,h⟩:=OB h;refine Cy (Ky x2 v5 _ hr8) ?_;refine AK AC [(5,.v (.int .i64 r8))] [] ?_;refine AQ ?_;have hq:=OI h; subst hq;exact ⟨⟨Fr 40 [(5,.v (.int .i64 r8))],[]⟩,AL,.inr rfl,[.v (.int .i64 r8)],kr,kr⟩
def Nt:List AV->Option AV:=Dx HU (fun a=>Cj a.1 a.2.1 a.2.2.1) Hi
theorem KO:XOk 179 Nt:=by
 refine AU Tryz.func179 (c:=HN) ?h2 ⟨Tryz.call179⟩ HU (fun a=>Cj a.1 a.2.1 a.2.2.1) Hi (fun a=>(by show 3<=40; decide)) ?h3 ?h4
 case h2=>kernel_rfl
 case h3=>intro b; kernel_rfl
 case h4=>exact fun a b h=>L1 a.1 a.2.1 a.2.2.1 b h
/- cmp.isNaN[string] -/
noncomputable def H2:Code:=BS Tryz.f207
def DS (x0:(List UInt8)):Option (Bool) :=
 some (!(x0==x0))
def Fq:Cs ((List UInt8)×Unit):=(csC cdS csN)
def Ft (r:Bool):AV:=cdB.enc r
theorem Kb (x0:(List UInt8)) (r:Bool) (h:DS x0=some r):Sem E0 ⟨none,false⟩ H2 ⟨Fr 6 (BG 0 (Fq.enc (x0,()))),[]⟩ fun e s'=>(e = .normal\/e = .ret)/\∃ xs,Ef E0.P s'.fr s'.hp Tryz.f207.results.toList=some xs/\Eh xs=Ft r:=by
 unfold DS at h;refine A7 (Bt (s1:=⟨Fr 6 [(0,.st x0)],[]⟩) AL ?_);refine AK AC [(0,.st x0)] [] ?_;refine AK AC [(2,.v (.bool (!(x0==x0))))] [] ?_;refine AQ ?_;have hq:=OI h; subst hq;exact ⟨⟨Fr 6 [(2,.v (.bool (!(x0==x0))))],[]⟩,AL,.inr rfl,[.v (.bool (!(x0==x0)))],kr,kr⟩
def Lg:List AV->Option AV:=Dx Fq (fun a=>DS a.1) Ft
theorem Ic:XOk 207 Lg:=by
 refine AU Tryz.func207 (c:=H2) ?h2 ⟨Tryz.call207⟩ Fq (fun a=>DS a.1) Ft (fun a=>(by show 1<=6; decide)) ?h3 ?h4
 case h2=>kernel_rfl
 case h3=>intro b; kernel_rfl
 case h4=>exact fun a b h=>Kb a.1 b h
/- cmp.Compare[string] -/
noncomputable def G7:Code:=BS Tryz.f188
def Cp (x0:(List UInt8)) (x1:(List UInt8)):Option (Int) :=
 (DS x0).bind fun v1 =>
 (DS x1).bind fun v2 =>
 if v1=true then
 if v2=true then
 some 0
 else
 some (-1)
 else
 if v2=true then
 some 1
 else
 if (Go.Op.bytesLess x0 x1)=true then
 some (-1)
 else
 if (!((Go.Op.bytesLess x0 x1)||(x0==x1)))=true then
 some 1
 else
 some 0
def FH:Cs ((List UInt8)×(List UInt8)×Unit):=(csC cdS (csC cdS csN))
def FJ (r:Int):AV:=cdI.enc r
theorem Jr (x0:(List UInt8)) (x1:(List UInt8)) (r:Int) (h:Cp x0 x1=some r):Sem E0 ⟨none,false⟩ G7 ⟨Fr 20 (BG 0 (FH.enc (x0,x1,()))),[]⟩ fun e s'=>(e = .normal\/e = .ret)/\∃ xs,Ef E0.P s'.fr s'.hp Tryz.f188.results.toList=some xs/\Eh xs=FJ r:=by
 unfold Cp at h;refine A7 (Bt (s1:=⟨Fr 20 [(0,.st x0),(1,.st x1)],[]⟩) AL ?_);refine AK AC [(0,.st x0),(1,.st x1)] [] ?_;refine AH ?_;obtain ⟨v1,hv1,h⟩:=OB h
 let p1:Nat×AV:=(5,.v (.bool v1))
 refine AI (s1:=⟨Fr 20 [(0,.st x0),(1,.st x1),p1],[]⟩) ?_ ?_
 ·refine AD (n:=20) AC 1 [(0,.st x0),(1,.st x1),(7,.st x0)] [] kr ?_
  refine AW (caps:=[]) (xs:=[.st x0]) (u:=(x0,())) rfl rfl Ic rfl (AB rfl) kr kr (AN (AZ (c:=cdS) (v:=x0)) BA) (.inl kr) hv1 ?_;exact AY AC
 refine AH ?_;obtain ⟨v2,hv2,h⟩:=OB h;refine AI (s1:=⟨Fr 20 [(0,.st x0),(1,.st x1),p1,(6,.v (.bool v2))],[]⟩) ?_ ?_
 ·refine AD (n:=20) AC 1 [(0,.st x0),(1,.st x1),p1,(9,.st x1)] [] kr ?_
  refine AW (caps:=[]) (xs:=[.st x1]) (u:=(x1,())) rfl rfl Ic rfl (AB rfl) kr kr (AN (AZ (c:=cdS) (v:=x1)) BA) (.inl kr) hv2 ?_;exact AY AC
 refine AH ?_;refine AK AC [(0,.st x0),(1,.st x1),(6,.v (.bool v2)),(11,.v (.bool v1))] [] ?_;refine AO (b:=v1) kr (fun hb3=>?_) (fun hb3=>?_)
 ·rw [if_pos hb3] at h
  refine AH ?_;refine AK AC [(12,.v (.bool v2))] [] ?_;refine AO (b:=v2) kr (fun hb4=>?_) (fun hb4=>?_)
  ·rw [if_pos hb4] at h
   refine AK AC [(4,.v (.int .i64 0))] [] ?_;refine AQ ?_;have hq:=OI h; subst hq;exact ⟨⟨Fr 20 [(4,.v (.int .i64 0))],[]⟩,AL,.inr rfl,[.v (.int .i64 0)],kr,kr⟩
  ·rw [CT hb4] at h
   refine AS ?_;refine AK AC [(4,.v (.int .i64 (-1)))] [] ?_;refine AQ ?_;have hq:=OI h; subst hq;exact ⟨⟨Fr 20 [(4,.v (.int .i64 (-1)))],[]⟩,AL,.inr rfl,[.v (.int .i64 (-1))],kr,kr⟩
 ·rw [CT hb3] at h
  refine AS ?_;refine AH ?_;refine AK AC [(0,.st x0),(1,.st x1),(13,.v (.bool v2))] [] ?_;refine AO (b:=v2) kr (fun hb5=>?_) (fun hb5=>?_)
  ·rw [if_pos hb5] at h
   refine AK AC [(4,.v (.int .i64 1))] [] ?_;refine AQ ?_;have hq:=OI h; subst hq;exact ⟨⟨Fr 20 [(4,.v (.int .i64 1))],[]⟩,AL,.inr rfl,[.v (.int .i64 1)],kr,kr⟩
  ·rw [CT hb5] at h
   refine AS ?_;refine AH ?_;refine AK AC [(0,.st x0),(1,.st x1),(16,.v (.bool (Go.Op.bytesLess x0 x1)))] [] ?_;refine AO (b:=(Go.Op.bytesLess x0 x1)) kr (fun hb6=>?_) (fun hb6=>?_)
   ·rw [if_pos hb6] at h
    refine AK AC [(4,.v (.int .i64 (-1)))] [] ?_;refine AQ ?_;have hq:=OI h; subst hq;exact ⟨⟨Fr 20 [(4,.v (.int .i64 (-1)))],[]⟩,AL,.inr rfl,[.v (.int .i64 (-1))],kr,kr⟩
   ·rw [CT hb6] at h
    refine AS ?_;refine AH ?_;refine AK AC [(19,.v (.bool (!((Go.Op.bytesLess x0 x1)||(x0==x1)))))] [] ?_;refine AO (b:=(!((Go.Op.bytesLess x0 x1)||(x0==x1)))) kr (fun hb7=>?_) (fun hb7=>?_)
    ·rw [if_pos hb7] at h
     refine AK AC [(4,.v (.int .i64 1))] [] ?_;refine AQ ?_;have hq:=OI h; subst hq;exact ⟨⟨Fr 20 [(4,.v (.int .i64 1))],[]⟩,AL,.inr rfl,[.v (.int .i64 1)],kr,kr⟩
    ·rw [CT hb7] at h
     refine AS ?_;refine AK AC [(4,.v (.int .i64 0))] [] ?_;refine AQ ?_;have hq:=OI h; subst hq;exact ⟨⟨Fr 20 [(4,.v (.int .i64 0))],[]⟩,AL,.inr rfl,[.v (.int .i64 0)],kr,kr⟩
def Kd:List AV->Option AV:=Dx FH (fun a=>Cp a.1 a.2.1) FJ
theorem Kf:XOk 188 Kd:=by
 refine AU Tryz.func188 (c:=G7) ?h2 ⟨Tryz.call188⟩ FH (fun a=>Cp a.1 a.2.1) FJ (fun a=>(by show 2<=20; decide)) ?h3 ?h4
 case h2=>kernel_rfl
 case h3=>intro b; kernel_rfl
 case h4=>exact fun a b h=>Jr a.1 a.2.1 b h
/- trestle/court.plain$7 -/
noncomputable def Ji:Code:=BS Tryz.f187
def D8 (x0:AR) (x1:AR):Option (Int) :=
 (Cp x0.1.1 x1.1.1).bind fun v1 =>
 some v1
def HZ:Cs (AR×AR×Unit):=(csC AE (csC AE csN))
def Hn (r:Int):AV:=cdI.enc r
theorem L7 (x0:AR) (x1:AR) (r:Int) (h:D8 x0 x1=some r):Sem E0 ⟨none,false⟩ Ji ⟨Fr 12 (BG 0 (HZ.enc (x0,x1,()))),[]⟩ fun e s'=>(e = .normal\/e = .ret)/\∃ xs,Ef E0.P s'.fr s'.hp Tryz.f187.results.toList=some xs/\Eh xs=Hn r:=by
 unfold D8 at h;refine A7 (Bt (s1:=⟨Fr 12 [(0,AE.enc x0),(1,AE.enc x1)],[]⟩) AL ?_)
 let p1:Option Blk:=some ⟨10,115,[AE.enc x1],false⟩
 let p2:Option Blk:=some ⟨10,115,[AE.enc x0],false⟩
 refine AK AC [(2,.pt 0 0 0),(3,.pt 1 0 0)] [p2,p1] ?_;refine AH ?_;obtain ⟨v1,hv1,h⟩:=OB h
 let p3:Nat×AV:=(4,.v (.int .i64 v1))
 refine AI (s1:=⟨Fr 12 [p3],[]⟩) ?_ ?_
 ·refine AD (n:=12) AC 6 [(7,.st x0.1.1),(10,.st x1.1.1)] [p2,p1] kr ?_
  refine AW (caps:=[]) (xs:=[.st x0.1.1,.st x1.1.1]) (u:=(x0.1.1,x1.1.1,())) rfl rfl Kf rfl (AB rfl) kr kr (AN (AZ (c:=cdS) (v:=x0.1.1)) (AN (AZ (c:=cdS) (v:=x1.1.1)) BA)) (.inl kr) hv1 ?_;refine AD (n:=12) AC 1 [p3] [p2,p1] kr ?_;exact AJ rfl (An [] trivial ⟨lv,trivial⟩)
 refine AQ ?_;have hq:=OI h; subst hq;exact ⟨⟨Fr 12 [p3],[]⟩,AL,.inr rfl,[.v (.int .i64 v1)],kr,kr⟩
def Nz:List AV->Option AV:=Dx HZ (fun a=>D8 a.1 a.2.1) Hn
theorem OG:XOk 187 Nz:=by
 refine AU Tryz.func187 (c:=Ji) ?h2 ⟨Tryz.call187⟩ HZ (fun a=>D8 a.1 a.2.1) Hn (fun a=>(by show 2<=12; decide)) ?h3 ?h4
 case h2=>kernel_rfl
 case h3=>intro b; kernel_rfl
 case h4=>exact fun a b h=>L7 a.1 a.2.1 b h
/- trestle/court.plain$3 -/
noncomputable def Je:Code:=BS Tryz.f182
def GJ (x0:AR) (x1:AF):Option (Bool) :=
 some (x0.1.2.2.2.2.1==x1.2.2.2.2)
def HV:Cs (AR×AF×Unit):=(csC AE (csC (cdP AA) csN))
def Hj (r:Bool):AV:=cdB.enc r
theorem L3 (x0:AR) (x1:AF) (r:Bool) (h:GJ x0 x1=some r):Sem E0 ⟨none,false⟩ Je ⟨Fr 10 (BG 0 (HV.enc (x0,x1,()))),[]⟩ fun e s'=>(e = .normal\/e = .ret)/\∃ xs,Ef E0.P s'.fr s'.hp Tryz.f182.results.toList=some xs/\Eh xs=Hj r:=by
 unfold GJ at h;refine A7 (Bt (s1:=⟨Fr 10 [(0,AE.enc x0),(1,.pe (AA.enc x1) 0)],[]⟩) AL ?_)
 let p1:Option Blk:=some ⟨10,115,[AE.enc x0],false⟩
 refine AK AC [(1,.pe (AA.enc x1) 0),(2,.pt 0 0 0)] [p1] ?_;refine AH ?_
 let p2:Nat×AV:=(3,.v (.bool (x0.1.2.2.2.2.1==x1.2.2.2.2)))
 refine AI (s1:=⟨Fr 10 [p2],[]⟩) ?_ ?_
 ·refine AD (n:=10) AC 7 [p2] [p1] kr ?_
  exact AJ rfl (An [] trivial ⟨lv,trivial⟩)
 refine AQ ?_;have hq:=OI h; subst hq;exact ⟨⟨Fr 10 [p2],[]⟩,AL,.inr rfl,[.v (.bool (x0.1.2.2.2.2.1==x1.2.2.2.2))],kr,kr⟩
def Nu:List AV->Option AV:=Dx HV (fun a=>GJ a.1 a.2.1) Hj
theorem OC:XOk 182 Nu:=by
 refine AU Tryz.func182 (c:=Je) ?h2 ⟨Tryz.call182⟩ HV (fun a=>GJ a.1 a.2.1) Hj (fun a=>(by show 2<=10; decide)) ?h3 ?h4
 case h2=>kernel_rfl
 case h3=>intro b; kernel_rfl
 case h4=>exact fun a b h=>L3 a.1 a.2.1 b h
/- trestle/court.named$1 -/
noncomputable def ET:Code:=BS Tryz.f206
def BB (x0:AR) (x1:AF) (x2:AF):Option (Int) :=
 (GJ x0 x1).bind fun v1 =>
 if (!(v1==x2.2.2.1))=true then
 some 0
 else
 some 1
def C4:Cs (AR×AF×AF×Unit):=(csC AE (csC (cdP (cdF 182 (csE (cdP AA)) (fun _=>rfl))) (csC (cdP AA) csN)))
def C8 (r:Int):AV:=cdI.enc r
theorem Gj (x0:AR) (x1:AF) (x2:AF) (r:Int) (h:BB x0 x1 x2=some r):Sem E0 ⟨none,false⟩ ET ⟨Fr 11 (BG 0 (C4.enc (x0,x1,x2,()))),[]⟩ fun e s'=>(e = .normal\/e = .ret)/\∃ xs,Ef E0.P s'.fr s'.hp Tryz.f206.results.toList=some xs/\Eh xs=C8 r:=by
 unfold BB at h
 let p1:Nat×AV:=(2,.pe (AA.enc x2) 0)
 let p2:Nat×AV:=(1,.pe (.fn 182 [] [.pe (AA.enc x1) 0]) 0)
 refine A7 (Bt (s1:=⟨Fr 11 [(0,AE.enc x0),p2,p1],[]⟩) AL ?_)
 let p3:Option Blk:=some ⟨10,115,[AE.enc x0],false⟩
 refine AK AC [p2,p1,(3,.pt 0 0 0)] [p3] ?_;refine AH ?_;refine AH ?_;obtain ⟨v1,hv1,h⟩:=OB h
 let p4:Nat×AV:=(10,.v (.bool (!(v1==x2.2.2.1))))
 refine ES AC (s1:=⟨Fr 11 [p4],[]⟩) kr ?_ ?_
 ·refine Ar (n:=11) AC 2 [p1,(5,.fn 182 [] [.pe (AA.enc x1) 0]),(6,AE.enc x0)] [p3] kr kr ?_
  refine B9 (caps:=[.pe (AA.enc x1) 0]) (xs:=[AE.enc x0]) (u:=(x0,x1,())) rfl rfl OC rfl (AB rfl) kr kr (AN (AZ (c:=AE) (v:=x0)) (AN (AZ (c:=(cdP AA)) (v:=x1)) BA)) kr hv1 ?_;refine Ar (n:=11) AC 3 [p4] [p3] kr kr ?_;exact RunDS.done rfl (An [] trivial ⟨lv,trivial⟩)
 refine AO (b:=(!(v1==x2.2.2.1))) kr (fun hb2=>?_) (fun hb2=>?_)
 ·rw [if_pos hb2] at h
  refine AK AC [(4,.v (.int .i64 0))] [] ?_;refine AQ ?_;have hq:=OI h; subst hq;exact ⟨⟨Fr 11 [(4,.v (.int .i64 0))],[]⟩,AL,.inr rfl,[.v (.int .i64 0)],kr,kr⟩
 ·rw [CT hb2] at h
  refine AS ?_;refine AK AC [(4,.v (.int .i64 1))] [] ?_;refine AQ ?_;have hq:=OI h; subst hq;exact ⟨⟨Fr 11 [(4,.v (.int .i64 1))],[]⟩,AL,.inr rfl,[.v (.int .i64 1)],kr,kr⟩
def HD:List AV->Option AV:=Dx C4 (fun a=>BB a.1 a.2.1 a.2.2.1) C8
theorem HI:XOk 206 HD:=by
 refine AU Tryz.func206 (c:=ET) ?h2 ⟨Tryz.call206⟩ C4 (fun a=>BB a.1 a.2.1 a.2.2.1) C8 (fun a=>(by show 3<=11; decide)) ?h3 ?h4
 case h2=>kernel_rfl
 case h3=>intro b; kernel_rfl
 case h4=>exact fun a b h=>Gj a.1 a.2.1 a.2.2.1 b h
/- trestle/court.plain$4 -/
noncomputable def Jf:Code:=BS Tryz.f183
def GK (x0:AR):Option (Bool) :=
 some x0.1.2.2.2.2.2.2.1
def HW:Cs (AR×Unit):=(csC AE csN)
def Hk (r:Bool):AV:=cdB.enc r
theorem L4 (x0:AR) (r:Bool) (h:GK x0=some r):Sem E0 ⟨none,false⟩ Jf ⟨Fr 6 (BG 0 (HW.enc (x0,()))),[]⟩ fun e s'=>(e = .normal\/e = .ret)/\∃ xs,Ef E0.P s'.fr s'.hp Tryz.f183.results.toList=some xs/\Eh xs=Hk r:=by
 unfold GK at h;refine A7 (Bt (s1:=⟨Fr 6 [(0,AE.enc x0)],[]⟩) AL ?_)
 let p1:Option Blk:=some ⟨10,115,[AE.enc x0],false⟩
 refine AK AC [(1,.pt 0 0 0)] [p1] ?_;refine AH ?_
 let p2:Nat×AV:=(2,.v (.bool x0.1.2.2.2.2.2.2.1))
 refine AI (s1:=⟨Fr 6 [p2],[]⟩) ?_ ?_
 ·refine AD (n:=6) AC 4 [p2] [p1] kr ?_
  exact AJ rfl (An [] trivial ⟨lv,trivial⟩)
 refine AQ ?_;have hq:=OI h; subst hq;exact ⟨⟨Fr 6 [p2],[]⟩,AL,.inr rfl,[.v (.bool x0.1.2.2.2.2.2.2.1)],kr,kr⟩
def Nv:List AV->Option AV:=Dx HW (fun a=>GK a.1) Hk
theorem OD:XOk 183 Nv:=by
 refine AU Tryz.func183 (c:=Jf) ?h2 ⟨Tryz.call183⟩ HW (fun a=>GK a.1) Hk (fun a=>(by show 1<=6; decide)) ?h3 ?h4
 case h2=>kernel_rfl
 case h3=>intro b; kernel_rfl
 case h4=>exact fun a b h=>L4 a.1 b h
/- trestle/court.named$1 -/
noncomputable def EU:Code:=BS Tryz.f206
def BC (x0:AR) (x2:AF):Option (Int) :=
 (GK x0).bind fun v1 =>
 if (!(v1==x2.2.2.1))=true then
 some 0
 else
 some 1
def C5:Cs (AR×Unit×AF×Unit):=(csC AE (csC (cdP (cdF 183 csN (fun _=>rfl))) (csC (cdP AA) csN)))
def C9 (r:Int):AV:=cdI.enc r
theorem Gk (x0:AR) (x2:AF) (r:Int) (h:BC x0 x2=some r):Sem E0 ⟨none,false⟩ EU ⟨Fr 11 (BG 0 (C5.enc (x0,(),x2,()))),[]⟩ fun e s'=>(e = .normal\/e = .ret)/\∃ xs,Ef E0.P s'.fr s'.hp Tryz.f206.results.toList=some xs/\Eh xs=C9 r:=by
 unfold BC at h
 let p1:Nat×AV:=(2,.pe (AA.enc x2) 0)
 refine A7 (Bt (s1:=⟨Fr 11 [(0,AE.enc x0),(1,.pe (.fn 183 [] []) 0),p1],[]⟩) AL ?_)
 let p2:Option Blk:=some ⟨10,115,[AE.enc x0],false⟩
 refine AK AC [(1,.pe (.fn 183 [] []) 0),p1,(3,.pt 0 0 0)] [p2] ?_;refine AH ?_;refine AH ?_;obtain ⟨v1,hv1,h⟩:=OB h
 let p3:Nat×AV:=(10,.v (.bool (!(v1==x2.2.2.1))))
 refine ES AC (s1:=⟨Fr 11 [p3],[]⟩) kr ?_ ?_
 ·refine Ar (n:=11) AC 2 [p1,(5,.fn 183 [] []),(6,AE.enc x0)] [p2] kr kr ?_
  refine B9 (caps:=[]) (xs:=[AE.enc x0]) (u:=(x0,())) rfl rfl OD rfl (AB rfl) kr kr (AN (AZ (c:=AE) (v:=x0)) BA) kr hv1 ?_;refine Ar (n:=11) AC 3 [p3] [p2] kr kr ?_;exact RunDS.done rfl (An [] trivial ⟨lv,trivial⟩)
 refine AO (b:=(!(v1==x2.2.2.1))) kr (fun hb2=>?_) (fun hb2=>?_)
 ·rw [if_pos hb2] at h
  refine AK AC [(4,.v (.int .i64 0))] [] ?_;refine AQ ?_;have hq:=OI h; subst hq;exact ⟨⟨Fr 11 [(4,.v (.int .i64 0))],[]⟩,AL,.inr rfl,[.v (.int .i64 0)],kr,kr⟩
 ·rw [CT hb2] at h
  refine AS ?_;refine AK AC [(4,.v (.int .i64 1))] [] ?_;refine AQ ?_;have hq:=OI h; subst hq;exact ⟨⟨Fr 11 [(4,.v (.int .i64 1))],[]⟩,AL,.inr rfl,[.v (.int .i64 1)],kr,kr⟩
def HE:List AV->Option AV:=Dx C5 (fun a=>BC a.1 a.2.2.1) C9
theorem HJ:XOk 206 HE:=by
 refine AU Tryz.func206 (c:=EU) ?h2 ⟨Tryz.call206⟩ C5 (fun a=>BC a.1 a.2.2.1) C9 (fun a=>(by show 3<=11; decide)) ?h3 ?h4
 case h2=>kernel_rfl
 case h3=>intro b; kernel_rfl
 case h4=>exact fun a b h=>Gk a.1 a.2.2.1 b h
/- trestle/court.plain$5$1 -/
noncomputable def IR:Code:=BS Tryz.f185
def Dn (x0:(List UInt8)) (x1:AF):Option (Bool) :=
 (As x1.2.2.2.1 x0).bind fun v1 =>
 some v1
def GP:Cs ((List UInt8)×AF×Unit):=(csC cdS (csC (cdP AA) csN))
def GS (r:Bool):AV:=cdB.enc r
theorem Kz (x0:(List UInt8)) (x1:AF) (r:Bool) (h:Dn x0 x1=some r):Sem E0 ⟨none,false⟩ IR ⟨Fr 8 (BG 0 (GP.enc (x0,x1,()))),[]⟩ fun e s'=>(e = .normal\/e = .ret)/\∃ xs,Ef E0.P s'.fr s'.hp Tryz.f185.results.toList=some xs/\Eh xs=GS r:=by
 unfold Dn at h;refine A7 (Bt (s1:=⟨Fr 8 [(0,.st x0),(1,.pe (AA.enc x1) 0)],[]⟩) AL ?_);refine AK AC [(0,.st x0),(1,.pe (AA.enc x1) 0)] [] ?_;refine AH ?_;obtain ⟨v1,hv1,h⟩:=OB h;refine AI (s1:=⟨Fr 8 [(3,.v (.bool v1))],[]⟩) ?_ ?_
 ·refine AD (n:=8) AC 3 [(5,.sl 1 (x1.2.2.2.1.map cdS.enc)),(6,.st x0)] [] kr ?_
  refine AW (caps:=[]) (xs:=[.sl 1 (x1.2.2.2.1.map cdS.enc),.st x0]) (u:=(x1.2.2.2.1,x0,())) rfl rfl CV rfl (AB rfl) kr kr (AN (AZ (c:=(cdL 1 cdS)) (v:=x1.2.2.2.1)) (AN (AZ (c:=cdS) (v:=x0)) BA)) (.inl kr) hv1 ?_;exact AY AC
 refine AQ ?_;have hq:=OI h; subst hq;exact ⟨⟨Fr 8 [(3,.v (.bool v1))],[]⟩,AL,.inr rfl,[.v (.bool v1)],kr,kr⟩
def MS:List AV->Option AV:=Dx GP (fun a=>Dn a.1 a.2.1) GS
theorem MW:XOk 185 MS:=by
 refine AU Tryz.func185 (c:=IR) ?h2 ⟨Tryz.call185⟩ GP (fun a=>Dn a.1 a.2.1) GS (fun a=>(by show 2<=8; decide)) ?h3 ?h4
 case h2=>kernel_rfl
 case h3=>intro b; kernel_rfl
 case h4=>exact fun a b h=>Kz a.1 a.2.1 b h
/- slices.IndexFunc[[]string,string] -/
noncomputable def BW:Code:=BS Tryz.f90
def Au (x0:(List (List UInt8))) (x1:AF):Nat->Int->Option ((Unit) ⊕ (Int))
 | 0,_=>none
 | f + 1,c1 =>
  if (decide (c1 < (x0.length:Int)))=true then
  (idx x0 c1).bind fun v3 =>
  (Dn v3 x1).bind fun v4 =>
  if v4=true then
  some (.inr c1)
  else
  Au x0 x1 f (wr .i64 (c1 + 1))
  else
  some (.inl ())
def Ap (x0:(List (List UInt8))) (x1:AF):Option (Int) :=
 (Au x0 x1 100000 0).bind fun r7 =>
 match r7 with
 | (.inl _w8) =>
  some (-1)
 | (.inr w9) =>
  some w9
def BX:Cs ((List (List UInt8))×AF×Unit):=(csC (cdL 1 cdS) (csC (cdF 185 (csE (cdP AA)) (fun _=>rfl)) csN))
def BY (r:Int):AV:=cdI.enc r
theorem CE (x0:(List (List UInt8))) (x1:AF):∀ (f:Nat) (c1:Int) (r:(Unit) ⊕ (Int)),Au x0 x1 f c1=some r->SemN E0 ⟨none,false⟩ (pc BW [1,0,1,0,0]) f ⟨Fr 19 [(0,.sl 1 (x0.map cdS.enc)),(1,.fn 185 [] [.pe (AA.enc x1) 0]),(7,.v (.int .i64 (x0.length:Int))),(8,.v (.int .i64 c1))],[]⟩ (fun e s=>match r with
 | (.inl _w)=>e=(.exit 0)/\Wk E0 s ⟨Fr 19 [],[]⟩
 | (.inr w)=>e = .ret/\Wk E0 s ⟨Fr 19 [(4,.v (.int .i64 w))],[]⟩):=by
 intro f;induction f with
 | zero=>intro c1 r h; cases h
 | succ f ih0 =>
  intro c1 r h
  have ih:=fun (c1:Int)=>ih0 c1 r
  unfold Au at h;refine Ch ?_
  let p1:Nat×AV:=(8,.v (.int .i64 c1))
  let p2:Nat×AV:=(7,.v (.int .i64 (x0.length:Int)))
  let p3:Nat×AV:=(1,.fn 185 [] [.pe (AA.enc x1) 0])
  let p4:Nat×AV:=(0,.sl 1 (x0.map cdS.enc))
  refine AK AC [p4,p3,p2,p1,(9,.v (.bool (decide (c1 < (x0.length:Int)))))] [] ?_;refine AH ?_;refine AO (b:=(decide (c1 < (x0.length:Int)))) kr (fun hb2=>?_) (fun hb2=>?_)
  ·rw [if_pos hb2] at h
   refine AS ?_;refine AH ?_;refine Ay ?_
   let p5:Nat×AV:=(5,.v (.int .i64 c1))
   refine AK AC [p4,p3,p5,p2,p1] [] ?_;refine AH ?_;obtain ⟨v3,hv3,h⟩:=OB h;obtain ⟨v4,hv4,h⟩:=OB h;refine AI (s1:=⟨Fr 19 [p4,p3,p5,p2,p1,(16,.v (.bool v4))],[]⟩) ?_ ?_
   ·let p6:Nat×AV:=(11,.fn 185 [] [.pe (AA.enc x1) 0])
    refine AD (n:=19) AC 3 [p4,p3,p5,p2,p1,p6,(12,.sl 1 (x0.map cdS.enc)),(13,.v (.int .i64 c1))] [] kr ?_;refine AP AC 0 rfl (Dq (AB rfl) rfl (Ac (a:= .sl 1 (x0.map cdS.enc)) (b:= .v (.int .i64 c1)) kr kr (Fa (e:=cdS.enc) (el:=9) (k:=1) (ki:= .i64) kr kr hv3))) ?_;refine AD (n:=19) AC 1 [p4,p3,p5,p2,p1,p6,(15,.st v3)] [] kr ?_;refine AW (caps:=[.pe (AA.enc x1) 0]) (xs:=[.st v3]) (u:=(v3,x1,())) rfl rfl MW rfl (AB rfl) kr kr (AN (AZ (c:=cdS) (v:=v3)) (AN (AZ (c:=(cdP AA)) (v:=x1)) BA)) (.inl kr) hv4 ?_;exact AJ rfl AL
   refine AO (b:=v4) kr (fun hb5=>?_) (fun hb5=>?_)
   ·rw [if_pos hb5] at h
    refine AK AC [(4,.v (.int .i64 c1))] [] ?_;refine AQ ?_;have hq:=OI h; subst hq;exact ⟨rfl,AL⟩
   ·rw [CT hb5] at h
    refine AS ?_
    let p7:Nat×AV:=(8,.v (.int .i64 (wr .i64 (c1 + 1))))
    refine DO AC [p4,p3,p2,p7] [] ?_;exact A9 (s1:=⟨Fr 19 [p4,p3,p2,p7],[]⟩) AL (ih (wr .i64 (c1 + 1)) h)
  ·rw [CT hb2] at h
   refine DE ?_;have hq:=OI h; subst hq;exact ⟨rfl,AL⟩
theorem Dr (x0:(List (List UInt8))) (x1:AF) (r:Int) (h:Ap x0 x1=some r):Sem E0 ⟨none,false⟩ BW ⟨Fr 19 (BG 0 (BX.enc (x0,x1,()))),[]⟩ fun e s'=>(e = .normal\/e = .ret)/\∃ xs,Ef E0.P s'.fr s'.hp Tryz.f90.results.toList=some xs/\Eh xs=BY r:=by
 unfold Ap at h
 let p1:Nat×AV:=(1,.fn 185 [] [.pe (AA.enc x1) 0])
 let p2:Nat×AV:=(0,.sl 1 (x0.map cdS.enc))
 refine A7 (Bt (s1:=⟨Fr 19 [p2,p1],[]⟩) AL ?_);refine AK AC [p2,p1] [] ?_;refine AH ?_;refine AH ?_
 let p3:Nat×AV:=(8,.v (.int .i64 0))
 let p4:Nat×AV:=(7,.v (.int .i64 (x0.length:Int)))
 refine AI (s1:=⟨Fr 19 [p2,p1,p4,p3],[]⟩) ?_ ?_
 ·refine AD (n:=19) AC 1 [p2,p1,(6,.sl 1 (x0.map cdS.enc))] [] kr ?_
  refine AP AC 0 rfl (Dq (AB rfl) rfl (Dg (a:= .sl 1 (x0.map cdS.enc)) kr (CW (el:=9) kr))) ?_;exact AY AC
 refine Ay ?_;obtain ⟨r7,hr7,h⟩:=OB h;refine DF (n:=100000) ?_;rcases r7 with w8 | w9
 ·try dsimp only at h
  refine Bd (A9 (s1:=⟨Fr 19 [p2,p1,p4,p3],[]⟩) AL (CE x0 x1 _ 0 _ hr7)) ?_;refine AK AC [(4,.v (.int .i64 (-1)))] [] ?_;refine AQ ?_;have hq:=OI h; subst hq;exact ⟨⟨Fr 19 [(4,.v (.int .i64 (-1)))],[]⟩,AL,.inr rfl,[.v (.int .i64 (-1))],kr,kr⟩
 ·try dsimp only at h
  refine Bd (A9 (s1:=⟨Fr 19 [p2,p1,p4,p3],[]⟩) AL (CE x0 x1 _ 0 _ hr7)) ?_;have hq:=OI h; subst hq;exact ⟨⟨Fr 19 [(4,.v (.int .i64 w9))],[]⟩,AL,.inr rfl,[.v (.int .i64 w9)],kr,kr⟩
def D2:List AV->Option AV:=Dx BX (fun a=>Ap a.1 a.2.1) BY
theorem D3:XOk 90 D2:=by
 refine AU Tryz.func90 (c:=BW) ?h2 ⟨Tryz.call90⟩ BX (fun a=>Ap a.1 a.2.1) BY (fun a=>(by show 2<=19; decide)) ?h3 ?h4
 case h2=>kernel_rfl
 case h3=>intro b; kernel_rfl
 case h4=>exact fun a b h=>Dr a.1 a.2.1 b h
/- slices.ContainsFunc[[]string,string] -/
noncomputable def CD:Code:=BS Tryz.f36
def Aa (x0:(List (List UInt8))) (x1:AF):Option (Bool) :=
 (Ap x0 x1).bind fun v1 =>
 some (decide (v1≥0))
def BO:Cs ((List (List UInt8))×AF×Unit):=(csC (cdL 1 cdS) (csC (cdF 185 (csE (cdP AA)) (fun _=>rfl)) csN))
def BP (r:Bool):AV:=cdB.enc r
theorem Da (x0:(List (List UInt8))) (x1:AF) (r:Bool) (h:Aa x0 x1=some r):Sem E0 ⟨none,false⟩ CD ⟨Fr 9 (BG 0 (BO.enc (x0,x1,()))),[]⟩ fun e s'=>(e = .normal\/e = .ret)/\∃ xs,Ef E0.P s'.fr s'.hp Tryz.f36.results.toList=some xs/\Eh xs=BP r:=by
 unfold Aa at h
 let p1:Nat×AV:=(1,.fn 185 [] [.pe (AA.enc x1) 0])
 refine A7 (Bt (s1:=⟨Fr 9 [(0,.sl 1 (x0.map cdS.enc)),p1],[]⟩) AL ?_);refine AK AC [(0,.sl 1 (x0.map cdS.enc)),p1] [] ?_;refine AH ?_;obtain ⟨v1,hv1,h⟩:=OB h
 let p2:Nat×AV:=(4,.v (.bool (decide (v1≥0))))
 refine AI (s1:=⟨Fr 9 [p2],[]⟩) ?_ ?_
 ·refine AD (n:=9) AC 2 [(5,.sl 1 (x0.map cdS.enc)),(6,.fn 185 [] [.pe (AA.enc x1) 0])] [] kr ?_
  refine AW (caps:=[]) (xs:=[.sl 1 (x0.map cdS.enc),.fn 185 [] [.pe (AA.enc x1) 0]]) (u:=(x0,x1,())) rfl rfl D3 rfl (AB rfl) kr kr (AN (AZ (c:=(cdL 1 cdS)) (v:=x0)) (AN (Sm.fn (Lp (AZ (c:=(cdP AA)) (v:=x1)))) BA)) (.inl kr) hv1 ?_;exact AY AC
 refine AQ ?_;have hq:=OI h; subst hq;exact ⟨⟨Fr 9 [p2],[]⟩,AL,.inr rfl,[.v (.bool (decide (v1≥0)))],kr,kr⟩
def Di:List AV->Option AV:=Dx BO (fun a=>Aa a.1 a.2.1) BP
theorem Dj:XOk 36 Di:=by
 refine AU Tryz.func36 (c:=CD) ?h2 ⟨Tryz.call36⟩ BO (fun a=>Aa a.1 a.2.1) BP (fun a=>(by show 2<=9; decide)) ?h3 ?h4
 case h2=>kernel_rfl
 case h3=>intro b; kernel_rfl
 case h4=>exact fun a b h=>Da a.1 a.2.1 b h
/- trestle/court.plain$5 -/
noncomputable def Jg:Code:=BS Tryz.f184
def FT (x0:AR) (x1:AF):Option (Bool) :=
 (Aa x0.1.2.2.2.2.2.2.2.2 x1).bind fun v1 =>
 some v1
def HX:Cs (AR×AF×Unit):=(csC AE (csC (cdP AA) csN))
def Hl (r:Bool):AV:=cdB.enc r
theorem L5 (x0:AR) (x1:AF) (r:Bool) (h:FT x0 x1=some r):Sem E0 ⟨none,false⟩ Jg ⟨Fr 9 (BG 0 (HX.enc (x0,x1,()))),[]⟩ fun e s'=>(e = .normal\/e = .ret)/\∃ xs,Ef E0.P s'.fr s'.hp Tryz.f184.results.toList=some xs/\Eh xs=Hl r:=by
 unfold FT at h;refine A7 (Bt (s1:=⟨Fr 9 [(0,AE.enc x0),(1,.pe (AA.enc x1) 0)],[]⟩) AL ?_)
 let p1:Option Blk:=some ⟨10,115,[AE.enc x0],false⟩
 refine AK AC [(1,.pe (AA.enc x1) 0),(2,.pt 0 0 0)] [p1] ?_;refine AH ?_;obtain ⟨v1,hv1,h⟩:=OB h
 let p2:Nat×AV:=(3,.v (.bool v1))
 refine AI (s1:=⟨Fr 9 [p2],[]⟩) ?_ ?_
 ·refine AD (n:=9) AC 4 [(6,.sl 1 (x0.1.2.2.2.2.2.2.2.2.map cdS.enc)),(7,.fn 185 [] [.pe (AA.enc x1) 0])] [p1] kr ?_
  refine AW (caps:=[]) (xs:=[.sl 1 (x0.1.2.2.2.2.2.2.2.2.map cdS.enc),.fn 185 [] [.pe (AA.enc x1) 0]]) (u:=(x0.1.2.2.2.2.2.2.2.2,x1,())) rfl rfl Dj rfl (AB rfl) kr kr (AN (AZ (c:=(cdL 1 cdS)) (v:=x0.1.2.2.2.2.2.2.2.2)) (AN (Sm.fn (Lp (AZ (c:=(cdP AA)) (v:=x1)))) BA)) (.inl kr) hv1 ?_;refine AD (n:=9) AC 1 [p2] [p1] kr ?_;exact AJ rfl (An [] trivial ⟨lv,trivial⟩)
 refine AQ ?_;have hq:=OI h; subst hq;exact ⟨⟨Fr 9 [p2],[]⟩,AL,.inr rfl,[.v (.bool v1)],kr,kr⟩
def Nx:List AV->Option AV:=Dx HX (fun a=>FT a.1 a.2.1) Hl
theorem OE:XOk 184 Nx:=by
 refine AU Tryz.func184 (c:=Jg) ?h2 ⟨Tryz.call184⟩ HX (fun a=>FT a.1 a.2.1) Hl (fun a=>(by show 2<=9; decide)) ?h3 ?h4
 case h2=>kernel_rfl
 case h3=>intro b; kernel_rfl
 case h4=>exact fun a b h=>L5 a.1 a.2.1 b h
/- trestle/court.named$1 -/
noncomputable def EV:Code:=BS Tryz.f206
def A4 (x0:AR) (x1:AF) (x2:AF):Option (Int) :=
 (FT x0 x1).bind fun v1 =>
 if (!(v1==x2.2.2.1))=true then
 some 0
 else
 some 1
def C6:Cs (AR×AF×AF×Unit):=(csC AE (csC (cdP (cdF 184 (csE (cdP AA)) (fun _=>rfl))) (csC (cdP AA) csN)))
def DA (r:Int):AV:=cdI.enc r
theorem Gl (x0:AR) (x1:AF) (x2:AF) (r:Int) (h:A4 x0 x1 x2=some r):Sem E0 ⟨none,false⟩ EV ⟨Fr 11 (BG 0 (C6.enc (x0,x1,x2,()))),[]⟩ fun e s'=>(e = .normal\/e = .ret)/\∃ xs,Ef E0.P s'.fr s'.hp Tryz.f206.results.toList=some xs/\Eh xs=DA r:=by
 unfold A4 at h
 let p1:Nat×AV:=(2,.pe (AA.enc x2) 0)
 let p2:Nat×AV:=(1,.pe (.fn 184 [] [.pe (AA.enc x1) 0]) 0)
 refine A7 (Bt (s1:=⟨Fr 11 [(0,AE.enc x0),p2,p1],[]⟩) AL ?_)
 let p3:Option Blk:=some ⟨10,115,[AE.enc x0],false⟩
 refine AK AC [p2,p1,(3,.pt 0 0 0)] [p3] ?_;refine AH ?_;refine AH ?_;obtain ⟨v1,hv1,h⟩:=OB h
 let p4:Nat×AV:=(10,.v (.bool (!(v1==x2.2.2.1))))
 refine ES AC (s1:=⟨Fr 11 [p4],[]⟩) kr ?_ ?_
 ·refine Ar (n:=11) AC 2 [p1,(5,.fn 184 [] [.pe (AA.enc x1) 0]),(6,AE.enc x0)] [p3] kr kr ?_
  refine B9 (caps:=[.pe (AA.enc x1) 0]) (xs:=[AE.enc x0]) (u:=(x0,x1,())) rfl rfl OE rfl (AB rfl) kr kr (AN (AZ (c:=AE) (v:=x0)) (AN (AZ (c:=(cdP AA)) (v:=x1)) BA)) kr hv1 ?_;refine Ar (n:=11) AC 3 [p4] [p3] kr kr ?_;exact RunDS.done rfl (An [] trivial ⟨lv,trivial⟩)
 refine AO (b:=(!(v1==x2.2.2.1))) kr (fun hb2=>?_) (fun hb2=>?_)
 ·rw [if_pos hb2] at h
  refine AK AC [(4,.v (.int .i64 0))] [] ?_;refine AQ ?_;have hq:=OI h; subst hq;exact ⟨⟨Fr 11 [(4,.v (.int .i64 0))],[]⟩,AL,.inr rfl,[.v (.int .i64 0)],kr,kr⟩
 ·rw [CT hb2] at h
  refine AS ?_;refine AK AC [(4,.v (.int .i64 1))] [] ?_;refine AQ ?_;have hq:=OI h; subst hq;exact ⟨⟨Fr 11 [(4,.v (.int .i64 1))],[]⟩,AL,.inr rfl,[.v (.int .i64 1)],kr,kr⟩
def HF:List AV->Option AV:=Dx C6 (fun a=>A4 a.1 a.2.1 a.2.2.1) DA
theorem HK:XOk 206 HF:=by
 refine AU Tryz.func206 (c:=EV) ?h2 ⟨Tryz.call206⟩ C6 (fun a=>A4 a.1 a.2.1 a.2.2.1) DA (fun a=>(by show 3<=11; decide)) ?h3 ?h4
 case h2=>kernel_rfl
 case h3=>intro b; kernel_rfl
 case h4=>exact fun a b h=>Gl a.1 a.2.1 a.2.2.1 b h
/- trestle/court.plain$6 -/
noncomputable def Jh:Code:=BS Tryz.f186
def FU (x0:AR) (x1:AF):Option (Bool) :=
 (As x1.2.2.2.1 x0.1.2.2.1).bind fun v1 =>
 some v1
def HY:Cs (AR×AF×Unit):=(csC AE (csC (cdP AA) csN))
def Hm (r:Bool):AV:=cdB.enc r
theorem L6 (x0:AR) (x1:AF) (r:Bool) (h:FU x0 x1=some r):Sem E0 ⟨none,false⟩ Jh ⟨Fr 10 (BG 0 (HY.enc (x0,x1,()))),[]⟩ fun e s'=>(e = .normal\/e = .ret)/\∃ xs,Ef E0.P s'.fr s'.hp Tryz.f186.results.toList=some xs/\Eh xs=Hm r:=by
 unfold FU at h;refine A7 (Bt (s1:=⟨Fr 10 [(0,AE.enc x0),(1,.pe (AA.enc x1) 0)],[]⟩) AL ?_)
 let p1:Option Blk:=some ⟨10,115,[AE.enc x0],false⟩
 refine AK AC [(1,.pe (AA.enc x1) 0),(2,.pt 0 0 0)] [p1] ?_;refine AH ?_;obtain ⟨v1,hv1,h⟩:=OB h
 let p2:Nat×AV:=(3,.v (.bool v1))
 refine AI (s1:=⟨Fr 10 [p2],[]⟩) ?_ ?_
 ·refine AD (n:=10) AC 5 [(5,.sl 1 (x1.2.2.2.1.map cdS.enc)),(8,.st x0.1.2.2.1)] [p1] kr ?_
  refine AW (caps:=[]) (xs:=[.sl 1 (x1.2.2.2.1.map cdS.enc),.st x0.1.2.2.1]) (u:=(x1.2.2.2.1,x0.1.2.2.1,())) rfl rfl CV rfl (AB rfl) kr kr (AN (AZ (c:=(cdL 1 cdS)) (v:=x1.2.2.2.1)) (AN (AZ (c:=cdS) (v:=x0.1.2.2.1)) BA)) (.inl kr) hv1 ?_;refine AD (n:=10) AC 1 [p2] [p1] kr ?_;exact AJ rfl (An [] trivial ⟨lv,trivial⟩)
 refine AQ ?_;have hq:=OI h; subst hq;exact ⟨⟨Fr 10 [p2],[]⟩,AL,.inr rfl,[.v (.bool v1)],kr,kr⟩
def Ny:List AV->Option AV:=Dx HY (fun a=>FU a.1 a.2.1) Hm
theorem OF:XOk 186 Ny:=by
 refine AU Tryz.func186 (c:=Jh) ?h2 ⟨Tryz.call186⟩ HY (fun a=>FU a.1 a.2.1) Hm (fun a=>(by show 2<=10; decide)) ?h3 ?h4
 case h2=>kernel_rfl
 case h3=>intro b; kernel_rfl
 case h4=>exact fun a b h=>L6 a.1 a.2.1 b h
/- trestle/court.named$1 -/
noncomputable def EW:Code:=BS Tryz.f206
def A5 (x0:AR) (x1:AF) (x2:AF):Option (Int) :=
 (FU x0 x1).bind fun v1 =>
 if (!(v1==x2.2.2.1))=true then
 some 0
 else
 some 1
def C7:Cs (AR×AF×AF×Unit):=(csC AE (csC (cdP (cdF 186 (csE (cdP AA)) (fun _=>rfl))) (csC (cdP AA) csN)))
def DB (r:Int):AV:=cdI.enc r
theorem Gm (x0:AR) (x1:AF) (x2:AF) (r:Int) (h:A5 x0 x1 x2=some r):Sem E0 ⟨none,false⟩ EW ⟨Fr 11 (BG 0 (C7.enc (x0,x1,x2,()))),[]⟩ fun e s'=>(e = .normal\/e = .ret)/\∃ xs,Ef E0.P s'.fr s'.hp Tryz.f206.results.toList=some xs/\Eh xs=DB r:=by
 unfold A5 at h
 let p1:Nat×AV:=(2,.pe (AA.enc x2) 0)
 let p2:Nat×AV:=(1,.pe (.fn 186 [] [.pe (AA.enc x1) 0]) 0)
 refine A7 (Bt (s1:=⟨Fr 11 [(0,AE.enc x0),p2,p1],[]⟩) AL ?_)
 let p3:Option Blk:=some ⟨10,115,[AE.enc x0],false⟩
 refine AK AC [p2,p1,(3,.pt 0 0 0)] [p3] ?_;refine AH ?_;refine AH ?_;obtain ⟨v1,hv1,h⟩:=OB h
 let p4:Nat×AV:=(10,.v (.bool (!(v1==x2.2.2.1))))
 refine ES AC (s1:=⟨Fr 11 [p4],[]⟩) kr ?_ ?_
 ·refine Ar (n:=11) AC 2 [p1,(5,.fn 186 [] [.pe (AA.enc x1) 0]),(6,AE.enc x0)] [p3] kr kr ?_
  refine B9 (caps:=[.pe (AA.enc x1) 0]) (xs:=[AE.enc x0]) (u:=(x0,x1,())) rfl rfl OF rfl (AB rfl) kr kr (AN (AZ (c:=AE) (v:=x0)) (AN (AZ (c:=(cdP AA)) (v:=x1)) BA)) kr hv1 ?_;refine Ar (n:=11) AC 3 [p4] [p3] kr kr ?_;exact RunDS.done rfl (An [] trivial ⟨lv,trivial⟩)
 refine AO (b:=(!(v1==x2.2.2.1))) kr (fun hb2=>?_) (fun hb2=>?_)
 ·rw [if_pos hb2] at h
  refine AK AC [(4,.v (.int .i64 0))] [] ?_;refine AQ ?_;have hq:=OI h; subst hq;exact ⟨⟨Fr 11 [(4,.v (.int .i64 0))],[]⟩,AL,.inr rfl,[.v (.int .i64 0)],kr,kr⟩
 ·rw [CT hb2] at h
  refine AS ?_;refine AK AC [(4,.v (.int .i64 1))] [] ?_;refine AQ ?_;have hq:=OI h; subst hq;exact ⟨⟨Fr 11 [(4,.v (.int .i64 1))],[]⟩,AL,.inr rfl,[.v (.int .i64 1)],kr,kr⟩
def HG:List AV->Option AV:=Dx C7 (fun a=>A5 a.1 a.2.1 a.2.2.1) DB
theorem HL:XOk 206 HG:=by
 refine AU Tryz.func206 (c:=EW) ?h2 ⟨Tryz.call206⟩ C7 (fun a=>A5 a.1 a.2.1 a.2.2.1) DB (fun a=>(by show 3<=11; decide)) ?h3 ?h4
 case h2=>kernel_rfl
 case h3=>intro b; kernel_rfl
 case h4=>exact fun a b h=>Gm a.1 a.2.1 a.2.2.1 b h
/- trestle/court.placed$1 -/
noncomputable def Iw:Code:=BS Tryz.f208
def CR (x0:Int):Option (Bool) :=
 (if (decide (x0≥0))=true then some (decide (x0<=63)) else some false).bind fun j2 =>
 some j2
def Gv:Cs (Int×Unit):=(csC cdI csN)
def Gx (r:Bool):AV:=cdB.enc r
theorem LN (x0:Int) (r:Bool) (h:CR x0=some r):Sem E0 ⟨none,false⟩ Iw ⟨Fr 9 (BG 0 (Gv.enc (x0,()))),[]⟩ fun e s'=>(e = .normal\/e = .ret)/\∃ xs,Ef E0.P s'.fr s'.hp Tryz.f208.results.toList=some xs/\Eh xs=Gx r:=by
 unfold CR at h;refine A7 (Bt (s1:=⟨Fr 9 [(0,.v (.int .i64 x0))],[]⟩) AL ?_);refine AK AC [(0,.v (.int .i64 x0))] [] ?_;refine AH ?_;obtain ⟨j2,hj2,h⟩:=OB h;refine AI (s1:=⟨Fr 9 [(2,.v (.bool j2))],[]⟩) ?_ ?_
 ·refine AD (n:=9) AC 3 [(0,.v (.int .i64 x0)),(5,.v (.bool (decide (x0≥0))))] [] kr ?_
  rcases BE (decide (x0≥0)) with hc3 | hc3
  ·rw [if_pos hc3] at hj2
   rw [hc3];refine AD (n:=9) AC 4 [(2,.v (.bool (decide (x0<=63))))] [] kr ?_;have hq:=OI hj2; subst hq;exact AJ rfl AL
  ·rw [CT hc3] at hj2
   rw [hc3];refine AD (n:=9) AC 4 [(2,.v (.bool false))] [] kr ?_;have hq:=OI hj2; subst hq;exact AJ rfl AL
 refine AQ ?_;have hq:=OI h; subst hq;exact ⟨⟨Fr 9 [(2,.v (.bool j2))],[]⟩,AL,.inr rfl,[.v (.bool j2)],kr,kr⟩
def Mw:List AV->Option AV:=Dx Gv (fun a=>CR a.1) Gx
theorem Fm:XOk 208 Mw:=by
 refine AU Tryz.func208 (c:=Iw) ?h2 ⟨Tryz.call208⟩ Gv (fun a=>CR a.1) Gx (fun a=>(by show 1<=9; decide)) ?h3 ?h4
 case h2=>kernel_rfl
 case h3=>intro b; kernel_rfl
 case h4=>exact fun a b h=>LN a.1 b h
/- trestle/court.plain$8 -/
noncomputable def Jj:Code:=BS Tryz.f190
def Db (x0:Int) (x1:AF):Option (Int) :=
 some ((wr .i64 ((wr .i64 (x0 * (wr .i64 ((wr .i64 (2 * x1.2.2.2.2)) + 1)))) + x1.2.2.2.2)).tmod 64)
def Ha:Cs (Int×AF×Unit):=(csC cdI (csC (cdP AA) csN))
def Ho (r:Int):AV:=cdI.enc r
theorem L8 (x0:Int) (x1:AF) (r:Int) (h:Db x0 x1=some r):Sem E0 ⟨none,false⟩ Jj ⟨Fr 14 (BG 0 (Ha.enc (x0,x1,()))),[]⟩ fun e s'=>(e = .normal\/e = .ret)/\∃ xs,Ef E0.P s'.fr s'.hp Tryz.f190.results.toList=some xs/\Eh xs=Ho r:=by
 unfold Db at h;refine A7 (Bt (s1:=⟨Fr 14 [(0,.v (.int .i64 x0)),(1,.pe (AA.enc x1) 0)],[]⟩) AL ?_);refine AK AC [(0,.v (.int .i64 x0)),(1,.pe (AA.enc x1) 0)] [] ?_
 let p1:Nat×AV:=(3,.v (.int .i64 ((wr .i64 ((wr .i64 (x0 * (wr .i64 ((wr .i64 (2 * x1.2.2.2.2)) + 1)))) + x1.2.2.2.2)).tmod 64)))
 refine AK AC [p1] [] ?_;refine AQ ?_;have hq:=OI h; subst hq;exact ⟨⟨Fr 14 [p1],[]⟩,AL,.inr rfl,[.v (.int .i64 ((wr .i64 ((wr .i64 (x0 * (wr .i64 ((wr .i64 (2 * x1.2.2.2.2)) + 1)))) + x1.2.2.2.2)).tmod 64))],kr,kr⟩
def N0:List AV->Option AV:=Dx Ha (fun a=>Db a.1 a.2.1) Ho
theorem KP:XOk 190 N0:=by
 refine AU Tryz.func190 (c:=Jj) ?h2 ⟨Tryz.call190⟩ Ha (fun a=>Db a.1 a.2.1) Ho (fun a=>(by show 2<=14; decide)) ?h3 ?h4
 case h2=>kernel_rfl
 case h3=>intro b; kernel_rfl
 case h4=>exact fun a b h=>L8 a.1 a.2.1 b h
/- trestle/court.placed$2 -/
noncomputable def CZ:Code:=BS Tryz.f209
def Ai (x0:AR) (x1:AR) (x3:AF):Option (Int) :=
 (CR x0.2).bind fun v1 =>
 (if (!v1)=true then some true else (CR x1.2).bind fun v2 =>
 some (!v2)).bind fun j4 =>
 if j4=true then
 some 0
 else
 (Db x0.2 x3).bind fun v6 =>
 (Db x1.2 x3).bind fun v7 =>
 (B3 v6 v7).bind fun v8 =>
 some v8
def Bi:Cs (AR×AR×Unit×AF×Unit):=(csC AE (csC AE (csC (cdP (cdF 208 csN (fun _=>rfl))) (csC (cdP (cdF 190 (csE (cdP AA)) (fun _=>rfl))) csN))))
def Bo (r:Int):AV:=cdI.enc r
theorem Dy (x0:AR) (x1:AR) (x3:AF) (r:Int) (h:Ai x0 x1 x3=some r):Sem E0 ⟨none,false⟩ CZ ⟨Fr 28 (BG 0 (Bi.enc (x0,x1,(),x3,()))),[]⟩ fun e s'=>(e = .normal\/e = .ret)/\∃ xs,Ef E0.P s'.fr s'.hp Tryz.f209.results.toList=some xs/\Eh xs=Bo r:=by
 unfold Ai at h;refine A7 (Bt (s1:=⟨Fr 28 [(0,AE.enc x0),(1,AE.enc x1),(2,.pe (.fn 208 [] []) 0),(3,.pe (.fn 190 [] [.pe (AA.enc x3) 0]) 0)],[]⟩) AL ?_);refine AK AC [(2,.pe (.fn 208 [] []) 0),(3,.pe (.fn 190 [] [.pe (AA.enc x3) 0]) 0),(4,.pt 0 0 0),(5,.pt 1 0 0)] [some ⟨10,115,[AE.enc x0],false⟩,some ⟨10,115,[AE.enc x1],false⟩] ?_;refine AH ?_;refine AH ?_;obtain ⟨v1,hv1,h⟩:=OB h;obtain ⟨j4,hj4,h⟩:=OB h;refine AI (s1:=⟨Fr 28 [(3,.pe (.fn 190 [] [.pe (AA.enc x3) 0]) 0),(4,.pt 0 0 0),(5,.pt 1 0 0),(18,.v (.bool j4))],[some ⟨10,115,[AE.enc x0],false⟩,some ⟨10,115,[AE.enc x1],false⟩]⟩) ?_ ?_
 ·refine AD (n:=28) AC 3 [(2,.pe (.fn 208 [] []) 0),(3,.pe (.fn 190 [] [.pe (AA.enc x3) 0]) 0),(4,.pt 0 0 0),(5,.pt 1 0 0),(7,.fn 208 [] []),(9,.v (.int .i64 x0.2))] [some ⟨10,115,[AE.enc x0],false⟩,some ⟨10,115,[AE.enc x1],false⟩] kr ?_
  refine AW (caps:=[]) (xs:=[.v (.int .i64 x0.2)]) (u:=(x0.2,())) rfl rfl Fm rfl (AB rfl) kr kr (AN (AZ (c:=cdI) (v:=x0.2)) BA) (.inl kr) hv1 ?_;refine AD (n:=28) AC 2 [(2,.pe (.fn 208 [] []) 0),(3,.pe (.fn 190 [] [.pe (AA.enc x3) 0]) 0),(4,.pt 0 0 0),(5,.pt 1 0 0),(12,.v (.bool (!v1)))] [some ⟨10,115,[AE.enc x0],false⟩,some ⟨10,115,[AE.enc x1],false⟩] kr ?_;rcases BE (!v1) with hc9 | hc9
  ·rw [if_pos hc9] at hj4
   rw [hc9];refine AD (n:=28) AC 6 [(3,.pe (.fn 190 [] [.pe (AA.enc x3) 0]) 0),(4,.pt 0 0 0),(5,.pt 1 0 0),(18,.v (.bool true))] [some ⟨10,115,[AE.enc x0],false⟩,some ⟨10,115,[AE.enc x1],false⟩] kr ?_;have hq:=OI hj4; subst hq;exact AJ rfl (An [0,1] ⟨⟨_,rfl,Cm⟩,⟨_,rfl,Cm⟩,trivial⟩ ⟨lv,lv,lv,lv,trivial⟩)
  ·rw [CT hc9] at hj4
   rw [hc9];refine AD (n:=28) AC 3 [(3,.pe (.fn 190 [] [.pe (AA.enc x3) 0]) 0),(4,.pt 0 0 0),(5,.pt 1 0 0),(12,.v (.bool false)),(13,.fn 208 [] []),(15,.v (.int .i64 x1.2))] [some ⟨10,115,[AE.enc x0],false⟩,some ⟨10,115,[AE.enc x1],false⟩] kr ?_;obtain ⟨v2,hv2,hj4⟩:=OB hj4;refine AW (caps:=[]) (xs:=[.v (.int .i64 x1.2)]) (u:=(x1.2,())) rfl rfl Fm rfl kr kr kr (AN (AZ (c:=cdI) (v:=x1.2)) BA) (.inl kr) hv2 ?_;refine AD (n:=28) AC 2 [(3,.pe (.fn 190 [] [.pe (AA.enc x3) 0]) 0),(4,.pt 0 0 0),(5,.pt 1 0 0),(18,.v (.bool (!v2)))] [some ⟨10,115,[AE.enc x0],false⟩,some ⟨10,115,[AE.enc x1],false⟩] kr ?_;have hq:=OI hj4; subst hq;exact AJ rfl (An [0,1] ⟨⟨_,rfl,Cm⟩,⟨_,rfl,Cm⟩,trivial⟩ ⟨lv,lv,lv,lv,trivial⟩)
 refine AO (b:=j4) kr (fun hb5=>?_) (fun hb5=>?_)
 ·rw [if_pos hb5] at h
  refine AH ?_;refine AI (s1:=⟨Fr 28 [(6,.v (.int .i64 0))],[]⟩) ?_ ?_
  ·refine AD (n:=28) AC 1 [(6,.v (.int .i64 0))] [some ⟨10,115,[AE.enc x0],false⟩,some ⟨10,115,[AE.enc x1],false⟩] kr ?_
   exact AJ rfl (An [] trivial ⟨lv,trivial⟩)
  refine AQ ?_;have hq:=OI h; subst hq;exact ⟨⟨Fr 28 [(6,.v (.int .i64 0))],[]⟩,AL,.inr rfl,[.v (.int .i64 0)],kr,kr⟩
 ·rw [CT hb5] at h
  refine AS ?_;refine AH ?_;obtain ⟨v6,hv6,h⟩:=OB h;obtain ⟨v7,hv7,h⟩:=OB h;obtain ⟨v8,hv8,h⟩:=OB h;refine ES AC (s1:=⟨Fr 28 [(6,.v (.int .i64 v8))],[]⟩) kr ?_ ?_
  ·refine Ar (n:=28) AC 3 [(3,.pe (.fn 190 [] [.pe (AA.enc x3) 0]) 0),(5,.pt 1 0 0),(19,.fn 190 [] [.pe (AA.enc x3) 0]),(21,.v (.int .i64 x0.2))] [some ⟨10,115,[AE.enc x0],false⟩,some ⟨10,115,[AE.enc x1],false⟩] kr kr ?_
   refine B9 (caps:=[.pe (AA.enc x3) 0]) (xs:=[.v (.int .i64 x0.2)]) (u:=(x0.2,x3,())) rfl rfl KP rfl (AB rfl) kr kr (AN (AZ (c:=cdI) (v:=x0.2)) (AN (AZ (c:=(cdP AA)) (v:=x3)) BA)) kr hv6 ?_;refine Ar (n:=28) AC 3 [(22,.v (.int .i64 v6)),(23,.fn 190 [] [.pe (AA.enc x3) 0]),(25,.v (.int .i64 x1.2))] [some ⟨10,115,[AE.enc x0],false⟩,some ⟨10,115,[AE.enc x1],false⟩] kr kr ?_;refine B9 (caps:=[.pe (AA.enc x3) 0]) (xs:=[.v (.int .i64 x1.2)]) (u:=(x1.2,x3,())) rfl rfl KP rfl (AB rfl) kr kr (AN (AZ (c:=cdI) (v:=x1.2)) (AN (AZ (c:=(cdP AA)) (v:=x3)) BA)) kr hv7 ?_;refine B9 (caps:=[]) (xs:=[.v (.int .i64 v6),.v (.int .i64 v7)]) (u:=(v6,v7,())) rfl rfl Eg rfl (AB rfl) kr kr (AN (AZ (c:=cdI) (v:=v6)) (AN (AZ (c:=cdI) (v:=v7)) BA)) kr hv8 ?_;refine Ar (n:=28) AC 1 [(6,.v (.int .i64 v8))] [some ⟨10,115,[AE.enc x0],false⟩,some ⟨10,115,[AE.enc x1],false⟩] kr kr ?_;exact RunDS.done rfl (An [] trivial ⟨lv,trivial⟩)
  refine AQ ?_;have hq:=OI h; subst hq;exact ⟨⟨Fr 28 [(6,.v (.int .i64 v8))],[]⟩,AL,.inr rfl,[.v (.int .i64 v8)],kr,kr⟩
def EE:List AV->Option AV:=Dx Bi (fun a=>Ai a.1 a.2.1 a.2.2.2.1) Bo
theorem EI:XOk 209 EE:=by
 refine AU Tryz.func209 (c:=CZ) ?h2 ⟨Tryz.call209⟩ Bi (fun a=>Ai a.1 a.2.1 a.2.2.2.1) Bo (fun a=>(by show 4<=28; decide)) ?h3 ?h4
 case h2=>kernel_rfl
 case h3=>intro b; kernel_rfl
 case h4=>exact fun a b h=>Dy a.1 a.2.1 a.2.2.2.1 b h
/- trestle/court.plain$9 -/
noncomputable def Jk:Code:=BS Tryz.f191
def Er (x0:Int):Option (Int) :=
 some x0
def Hb:Cs (Int×Unit):=(csC cdI csN)
def Hq (r:Int):AV:=cdI.enc r
theorem L9 (x0:Int) (r:Int) (h:Er x0=some r):Sem E0 ⟨none,false⟩ Jk ⟨Fr 4 (BG 0 (Hb.enc (x0,()))),[]⟩ fun e s'=>(e = .normal\/e = .ret)/\∃ xs,Ef E0.P s'.fr s'.hp Tryz.f191.results.toList=some xs/\Eh xs=Hq r:=by
 unfold Er at h;refine A7 (Bt (s1:=⟨Fr 4 [(0,.v (.int .i64 x0))],[]⟩) AL ?_);refine AK AC [(0,.v (.int .i64 x0))] [] ?_;refine AK AC [(2,.v (.int .i64 x0))] [] ?_;refine AQ ?_;have hq:=OI h; subst hq;exact ⟨⟨Fr 4 [(2,.v (.int .i64 x0))],[]⟩,AL,.inr rfl,[.v (.int .i64 x0)],kr,kr⟩
def N1:List AV->Option AV:=Dx Hb (fun a=>Er a.1) Hq
theorem KQ:XOk 191 N1:=by
 refine AU Tryz.func191 (c:=Jk) ?h2 ⟨Tryz.call191⟩ Hb (fun a=>Er a.1) Hq (fun a=>(by show 1<=4; decide)) ?h3 ?h4
 case h2=>kernel_rfl
 case h3=>intro b; kernel_rfl
 case h4=>exact fun a b h=>L9 a.1 b h
end Go.Proofs.YtlalcoehgkmhlaaGreatDoor
