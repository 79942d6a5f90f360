/- Lemmas for the proof. -/
import Derived.Test.YtlalcoehgkmhlaaGreatDoorCourtReverseM1
import Derived.Test.YtlalcoehgkmhlaaGreatDoorCourtReverseM2
import Derived.Test.YtlalcoehgkmhlaaGreatDoorCourtReverseM3
import Derived.Test.YtlalcoehgkmhlaaGreatDoorCourtReverseM4
import Derived.Test.YtlalcoehgkmhlaaGreatDoorCourtReverseM5
import Derived.Test.YtlalcoehgkmhlaaGreatDoorCourtReverseM6
import Derived.Laws.BytesArg
set_option maxHeartbeats 4000000
set_option maxRecDepth 100000
namespace Go.Proofs.YtlalcoehgkmhlaaGreatDoor
open Go.RowKit
def isT (r:Option (AV×Hp)):Bool:=match r with
 | some (.v (.bool true),_)=>true
 | _=>false
theorem WG {r:Option (AV×Hp)}(h:isT r=true):∃ h',r=some (.v (.bool true),h'):=by
 unfold isT at h
 split at h
 ·exact ⟨_,rfl⟩
 ·cases h
set_option maxRecDepth 1000000 in
theorem XT:isT (Rm E13 3000 18 [] [])=true:=by kernel_rfl
theorem UM:∃ h,Rm E13 3000 18 [] []=some (.v (.bool true),h):=WG XT
theorem S1 (w:World):Ret Tryz.prog 18 #[] w fun v w'=>v = .bool true/\w.grownBy w' none:=by
 obtain ⟨h,e⟩:=UM
 exact U2 (E:=E13) (Z:=fun _=>False) (us:=[]) XF e (fun c hc=>hc.elim) (fun g x h=>by cases h) .nil
theorem Wv {w:World}{Z:Nat->Prop}:VR w Z [] (.v (.bool true)) (.bool true):= .v rfl
def LJ:Option Bool:=some true
def Of:Cs Unit:=csN
def Og (b:Bool):AV:=cdB.enc b
def Pr:List AV->Option AV:=EF Of (fun _=>LJ) Og
theorem Pz:XOk 18 Pr:=by
 refine ⟨⟨Tryz.call18⟩,fun xs x h w Z us _ _ hv=>?_⟩
 obtain ⟨a,ha,h⟩:=OB h
 obtain ⟨b,hb,rfl⟩:=Option.map_eq_some_iff.1 h
 have hb:=OI hb
 subst hb
 have:xs=[]:=by
  cases xs with
  | nil=>rfl
  | cons x xs=>cases ha
 subst this
 have:us=[]:=by have:=hv.len; simpa using this
 subst this
 exact Ret.mono (S1 w) fun v w' h=>⟨h.2,by rw [h.1]; exact Wv⟩
/- trestle/trestlelaw03.Guest -/
noncomputable def Er:Code:=Bh Tryz.f74
def Fa (x0:(Int×Int)) (x1:(List UInt8)):Option ((Int×Int×(List UInt8)×(List UInt8)×(List UInt8)×Int×Int×(List UInt8)×Bool×Bool×(List UInt8)×(List UInt8)×(List UInt8)×Int×Int×(List UInt8)×Bool×Bool)) :=
 if ((Du .u8 x0.1 4)!=0)=true then
 if (DG (Du .u8 (x0.1.fdiv 8) 3) (([97,98,99,100]:List UInt8).length:Int) ([97,98,99,100]:List UInt8).length)=true then
 if (DG 0 (1:Int) ((([97,98,99,100]:List UInt8).take (([97,98,99,100]:List UInt8).length:Int).toNat).drop (Du .u8 (x0.1.fdiv 8) 3).toNat).length)=true then
 some (x0.1,x0.2,[],[],[],0,0,[],false,false,x1,((((([97,98,99,100]:List UInt8).take (([97,98,99,100]:List UInt8).length:Int).toNat).drop (Du .u8 (x0.1.fdiv 8) 3).toNat).take (1:Int).toNat).drop (0:Int).toNat),[],(wr .i64 (10 * (wr .i64 (x0.2.tmod 4)))),(wr .i64 (x0.1.tmod 3)),[],((Du .u8 x0.1 64)!=0),((Du .u8 x0.2 128)!=0))
 else none
 else none
 else
 some (x0.1,x0.2,[],[],[],0,0,[],false,false,x1,[],[],(wr .i64 (10 * (wr .i64 (x0.2.tmod 4)))),(wr .i64 (x0.1.tmod 3)),[],((Du .u8 x0.1 64)!=0),((Du .u8 x0.2 128)!=0))
def Fb (r22:Int×Int×(List UInt8)×(List UInt8)×(List UInt8)×Int×Int×(List UInt8)×Bool×Bool×(List UInt8)×(List UInt8)×(List UInt8)×Int×Int×(List UInt8)×Bool×Bool):Option ((Int×Int×(List UInt8)×(List UInt8)×(List UInt8)×Int×Int×(List UInt8)×Bool×Bool×(List UInt8)×(List UInt8)×(List UInt8)×Int×Int×(List UInt8)×Bool×Bool)) :=
 if ((Du .u8 r22.2.1 4)!=0)=true then
 if (DG (Du .u8 (r22.2.1.fdiv 8) 3) (([97,98,99,100]:List UInt8).length:Int) ([97,98,99,100]:List UInt8).length)=true then
 if (DG 0 (1:Int) ((([97,98,99,100]:List UInt8).take (([97,98,99,100]:List UInt8).length:Int).toNat).drop (Du .u8 (r22.2.1.fdiv 8) 3).toNat).length)=true then
 some (r22.1,r22.2.1,r22.2.2.1,r22.2.2.2.1,r22.2.2.2.2.1,r22.2.2.2.2.2.1,r22.2.2.2.2.2.2.1,r22.2.2.2.2.2.2.2.1,r22.2.2.2.2.2.2.2.2.1,r22.2.2.2.2.2.2.2.2.2.1,r22.2.2.2.2.2.2.2.2.2.2.1,r22.2.2.2.2.2.2.2.2.2.2.2.1,((((([97,98,99,100]:List UInt8).take (([97,98,99,100]:List UInt8).length:Int).toNat).drop (Du .u8 (r22.2.1.fdiv 8) 3).toNat).take (1:Int).toNat).drop (0:Int).toNat),r22.2.2.2.2.2.2.2.2.2.2.2.2.2.1,r22.2.2.2.2.2.2.2.2.2.2.2.2.2.2.1,r22.2.2.2.2.2.2.2.2.2.2.2.2.2.2.2.1,r22.2.2.2.2.2.2.2.2.2.2.2.2.2.2.2.2.1,r22.2.2.2.2.2.2.2.2.2.2.2.2.2.2.2.2.2)
 else none
 else none
 else
 some (r22.1,r22.2.1,r22.2.2.1,r22.2.2.2.1,r22.2.2.2.2.1,r22.2.2.2.2.2.1,r22.2.2.2.2.2.2.1,r22.2.2.2.2.2.2.2.1,r22.2.2.2.2.2.2.2.2.1,r22.2.2.2.2.2.2.2.2.2.1,r22.2.2.2.2.2.2.2.2.2.2.1,r22.2.2.2.2.2.2.2.2.2.2.2.1,r22.2.2.2.2.2.2.2.2.2.2.2.2.1,r22.2.2.2.2.2.2.2.2.2.2.2.2.2.1,r22.2.2.2.2.2.2.2.2.2.2.2.2.2.2.1,r22.2.2.2.2.2.2.2.2.2.2.2.2.2.2.2.1,r22.2.2.2.2.2.2.2.2.2.2.2.2.2.2.2.2.1,r22.2.2.2.2.2.2.2.2.2.2.2.2.2.2.2.2.2)
def Fc (r44:Int×Int×(List UInt8)×(List UInt8)×(List UInt8)×Int×Int×(List UInt8)×Bool×Bool×(List UInt8)×(List UInt8)×(List UInt8)×Int×Int×(List UInt8)×Bool×Bool):Option ((Int×Int×(List UInt8)×(List UInt8)×(List UInt8)×Int×Int×(List UInt8)×Bool×Bool×(List UInt8)×(List UInt8)×(List UInt8)×Int×Int×(List UInt8)×Bool×Bool×(List (List UInt8)))) :=
 if ((Du .u8 r44.2.1 64)!=0)=true then
 if (DG (Du .u8 (r44.1.fdiv 16) 3) (([97,98,99,100]:List UInt8).length:Int) ([97,98,99,100]:List UInt8).length)=true then
 if (DG 0 (1:Int) ((([97,98,99,100]:List UInt8).take (([97,98,99,100]:List UInt8).length:Int).toNat).drop (Du .u8 (r44.1.fdiv 16) 3).toNat).length)=true then
 some (r44.1,r44.2.1,r44.2.2.1,r44.2.2.2.1,r44.2.2.2.2.1,r44.2.2.2.2.2.1,r44.2.2.2.2.2.2.1,r44.2.2.2.2.2.2.2.1,r44.2.2.2.2.2.2.2.2.1,r44.2.2.2.2.2.2.2.2.2.1,r44.2.2.2.2.2.2.2.2.2.2.1,r44.2.2.2.2.2.2.2.2.2.2.2.1,r44.2.2.2.2.2.2.2.2.2.2.2.2.1,r44.2.2.2.2.2.2.2.2.2.2.2.2.2.1,r44.2.2.2.2.2.2.2.2.2.2.2.2.2.2.1,r44.2.2.2.2.2.2.2.2.2.2.2.2.2.2.2.1,r44.2.2.2.2.2.2.2.2.2.2.2.2.2.2.2.2.1,r44.2.2.2.2.2.2.2.2.2.2.2.2.2.2.2.2.2,[((((([97,98,99,100]:List UInt8).take (([97,98,99,100]:List UInt8).length:Int).toNat).drop (Du .u8 (r44.1.fdiv 16) 3).toNat).take (1:Int).toNat).drop (0:Int).toNat)])
 else none
 else none
 else
 some (r44.1,r44.2.1,r44.2.2.1,r44.2.2.2.1,r44.2.2.2.2.1,r44.2.2.2.2.2.1,r44.2.2.2.2.2.2.1,r44.2.2.2.2.2.2.2.1,r44.2.2.2.2.2.2.2.2.1,r44.2.2.2.2.2.2.2.2.2.1,r44.2.2.2.2.2.2.2.2.2.2.1,r44.2.2.2.2.2.2.2.2.2.2.2.1,r44.2.2.2.2.2.2.2.2.2.2.2.2.1,r44.2.2.2.2.2.2.2.2.2.2.2.2.2.1,r44.2.2.2.2.2.2.2.2.2.2.2.2.2.2.1,r44.2.2.2.2.2.2.2.2.2.2.2.2.2.2.2.1,r44.2.2.2.2.2.2.2.2.2.2.2.2.2.2.2.2.1,r44.2.2.2.2.2.2.2.2.2.2.2.2.2.2.2.2.2,[])
def Fd (r67:Int×Int×(List UInt8)×(List UInt8)×(List UInt8)×Int×Int×(List UInt8)×Bool×Bool×(List UInt8)×(List UInt8)×(List UInt8)×Int×Int×(List UInt8)×Bool×Bool×(List (List UInt8))):Option (((List UInt8)×(List UInt8)×(List UInt8)×Int×Int×(List UInt8)×Bool×Bool×(List UInt8)×(List UInt8)×(List UInt8)×Int×Int×(List UInt8)×Bool×Bool×(List (List UInt8)))) :=
 if ((Du .u8 r67.1 128)!=0)=true then
 if (DG (Du .u8 (r67.2.1.fdiv 16) 3) (([97,98,99,100]:List UInt8).length:Int) ([97,98,99,100]:List UInt8).length)=true then
 if (DG 0 (1:Int) ((([97,98,99,100]:List UInt8).take (([97,98,99,100]:List UInt8).length:Int).toNat).drop (Du .u8 (r67.2.1.fdiv 16) 3).toNat).length)=true then
 some (r67.2.2.1,r67.2.2.2.1,r67.2.2.2.2.1,r67.2.2.2.2.2.1,r67.2.2.2.2.2.2.1,r67.2.2.2.2.2.2.2.1,r67.2.2.2.2.2.2.2.2.1,r67.2.2.2.2.2.2.2.2.2.1,r67.2.2.2.2.2.2.2.2.2.2.1,r67.2.2.2.2.2.2.2.2.2.2.2.1,r67.2.2.2.2.2.2.2.2.2.2.2.2.1,r67.2.2.2.2.2.2.2.2.2.2.2.2.2.1,r67.2.2.2.2.2.2.2.2.2.2.2.2.2.2.1,((((([97,98,99,100]:List UInt8).take (([97,98,99,100]:List UInt8).length:Int).toNat).drop (Du .u8 (r67.2.1.fdiv 16) 3).toNat).take (1:Int).toNat).drop (0:Int).toNat),r67.2.2.2.2.2.2.2.2.2.2.2.2.2.2.2.2.1,r67.2.2.2.2.2.2.2.2.2.2.2.2.2.2.2.2.2.1,r67.2.2.2.2.2.2.2.2.2.2.2.2.2.2.2.2.2.2)
 else none
 else none
 else
 some (r67.2.2.1,r67.2.2.2.1,r67.2.2.2.2.1,r67.2.2.2.2.2.1,r67.2.2.2.2.2.2.1,r67.2.2.2.2.2.2.2.1,r67.2.2.2.2.2.2.2.2.1,r67.2.2.2.2.2.2.2.2.2.1,r67.2.2.2.2.2.2.2.2.2.2.1,r67.2.2.2.2.2.2.2.2.2.2.2.1,r67.2.2.2.2.2.2.2.2.2.2.2.2.1,r67.2.2.2.2.2.2.2.2.2.2.2.2.2.1,r67.2.2.2.2.2.2.2.2.2.2.2.2.2.2.1,r67.2.2.2.2.2.2.2.2.2.2.2.2.2.2.2.1,r67.2.2.2.2.2.2.2.2.2.2.2.2.2.2.2.2.1,r67.2.2.2.2.2.2.2.2.2.2.2.2.2.2.2.2.2.1,r67.2.2.2.2.2.2.2.2.2.2.2.2.2.2.2.2.2.2)
def FG (x0:(Int×Int)) (x1:(List UInt8)):Option (Ah) :=
 (Fa x0 x1).bind fun r22 =>
 (Fb r22).bind fun r44 =>
 (Fc r44).bind fun r67 =>
 (Fd r67).bind fun r88 =>
 some r88.2.2.2.2.2.2.2.2
def Gw:Cs (((Int×Int))×(List UInt8)×Unit):=(csC (CL (cdK .u8) (cdK .u8) (fun _=>rfl) (fun _=>rfl)) (csC cdS csN))
def Ir (r:Ah):AV:=AK.enc r
theorem MI (x0:(Int×Int)) (x1:(List UInt8)) (r:(Int×Int×(List UInt8)×(List UInt8)×(List UInt8)×Int×Int×(List UInt8)×Bool×Bool×(List UInt8)×(List UInt8)×(List UInt8)×Int×Int×(List UInt8)×Bool×Bool)) (h:Fa x0 x1=some r):Sem E0 ⟨none,false⟩ (pc Er [1,1,0,1]) ⟨Fr 71 [(2,.pt 0 0 0),(4,.pt 1 0 0),(5,.pt 2 0 0),(28,.v (.bool ((Du .u8 x0.1 4)!=0)))],[some ⟨2,30,[.ag [.v (.int .u8 x0.1),.v (.int .u8 x0.2)]],false⟩,some ⟨9,42,[.ag [.st [],.st [],.st [],.v (.int .i64 0),.v (.int .i64 0),.st [],.v (.bool false),.v (.bool false),.e0]],false⟩,some ⟨9,42,[.ag [.st x1,.st [],.st [],.v (.int .i64 (wr .i64 (10 * (wr .i64 (x0.2.tmod 4))))),.v (.int .i64 (wr .i64 (x0.1.tmod 3))),.st [],.v (.bool ((Du .u8 x0.1 64)!=0)),.v (.bool ((Du .u8 x0.2 128)!=0)),.e0]],false⟩]⟩ (fun e s=>e = .normal/\Wk E0 s ⟨Fr 71 [(2,.pt 0 0 0),(4,.pt 1 0 0),(5,.pt 2 0 0)],[some ⟨2,30,[.ag [.v (.int .u8 r.1),.v (.int .u8 r.2.1)]],false⟩,some ⟨9,42,[.ag [.st r.2.2.1,.st r.2.2.2.1,.st r.2.2.2.2.1,.v (.int .i64 r.2.2.2.2.2.1),.v (.int .i64 r.2.2.2.2.2.2.1),.st r.2.2.2.2.2.2.2.1,.v (.bool r.2.2.2.2.2.2.2.2.1),.v (.bool r.2.2.2.2.2.2.2.2.2.1),.e0]],false⟩,some ⟨9,42,[.ag [.st r.2.2.2.2.2.2.2.2.2.2.1,.st r.2.2.2.2.2.2.2.2.2.2.2.1,.st r.2.2.2.2.2.2.2.2.2.2.2.2.1,.v (.int .i64 r.2.2.2.2.2.2.2.2.2.2.2.2.2.1),.v (.int .i64 r.2.2.2.2.2.2.2.2.2.2.2.2.2.2.1),.st r.2.2.2.2.2.2.2.2.2.2.2.2.2.2.2.1,.v (.bool r.2.2.2.2.2.2.2.2.2.2.2.2.2.2.2.2.1),.v (.bool r.2.2.2.2.2.2.2.2.2.2.2.2.2.2.2.2.2),.e0]],false⟩]⟩):=by
 unfold Fa at h;refine AT (b:=((Du .u8 x0.1 4)!=0)) kr (fun hb1=>?_) (fun hb1=>?_)
 ·rw [if_pos hb1] at h
  by_cases hk2:(DG (Du .u8 (x0.1.fdiv 8) 3) (([97,98,99,100]:List UInt8).length:Int) ([97,98,99,100]:List UInt8).length)=true
  case neg=>rw [if_neg hk2] at h; cases h
  rw [if_pos hk2] at h;by_cases hk3:(DG 0 (1:Int) ((([97,98,99,100]:List UInt8).take (([97,98,99,100]:List UInt8).length:Int).toNat).drop (Du .u8 (x0.1.fdiv 8) 3).toNat).length)=true
  case neg=>rw [if_neg hk3] at h; cases h
  rw [if_pos hk3] at h
  let p1:Option Blk:=some ⟨9,42,[.ag [.st [],.st [],.st [],.v (.int .i64 0),.v (.int .i64 0),.st [],.v (.bool false),.v (.bool false),.e0]],false⟩
  let p2:Option Blk:=some ⟨2,30,[.ag [.v (.int .u8 x0.1),.v (.int .u8 x0.2)]],false⟩
  refine AJ (s1:=⟨Fr 71 [(2,.pt 0 0 0),(4,.pt 1 0 0),(5,.pt 2 0 0)],[p2,p1,some ⟨9,42,[.ag [.st x1,.st ((((([97,98,99,100]:List UInt8).take (([97,98,99,100]:List UInt8).length:Int).toNat).drop (Du .u8 (x0.1.fdiv 8) 3).toNat).take (1:Int).toNat).drop (0:Int).toNat),.st [],.v (.int .i64 (wr .i64 (10 * (wr .i64 (x0.2.tmod 4))))),.v (.int .i64 (wr .i64 (x0.1.tmod 3))),.st [],.v (.bool ((Du .u8 x0.1 64)!=0)),.v (.bool ((Du .u8 x0.2 128)!=0)),.e0]],false⟩]⟩) ?_ ?_
  ·refine AE (n:=71) AC 4 [(2,.pt 0 0 0),(4,.pt 1 0 0),(5,.pt 2 0 0),(32,.v (.int .u8 (Du .u8 (x0.1.fdiv 8) 3)))] [p2,p1,some ⟨9,42,[.ag [.st x1,.st [],.st [],.v (.int .i64 (wr .i64 (10 * (wr .i64 (x0.2.tmod 4))))),.v (.int .i64 (wr .i64 (x0.1.tmod 3))),.st [],.v (.bool ((Du .u8 x0.1 64)!=0)),.v (.bool ((Du .u8 x0.2 128)!=0)),.e0]],false⟩] kr ?_
   refine Aa AC 0 rfl (C5 (AB rfl) rfl (En (a:= .st [97,98,99,100]) (l:=(some (.v (.int .u8 (Du .u8 (x0.1.fdiv 8) 3))))) (u:=none) (m:=none) kr kr kr rfl (Fh (bs:=[97,98,99,100]) (lo:=(Du .u8 (x0.1.fdiv 8) 3)) (hi:=(([97,98,99,100]:List UInt8).length:Int)) kr (GW (NV hk2)) rfl hk2))) ?_;refine Aa AC 0 rfl (C5 (AB rfl) rfl (En (a:= .st ((([97,98,99,100]:List UInt8).take (([97,98,99,100]:List UInt8).length:Int).toNat).drop (Du .u8 (x0.1.fdiv 8) 3).toNat)) (l:=none) (u:=(some (.v (.int .i64 1)))) (m:=none) kr kr kr rfl (Fh (bs:=((([97,98,99,100]:List UInt8).take (([97,98,99,100]:List UInt8).length:Int).toNat).drop (Du .u8 (x0.1.fdiv 8) 3).toNat)) (lo:=0) (hi:=(1:Int)) kr rfl (GW (J0 hk3)) hk3))) ?_;exact Ap AC
  have hq:=OI h; subst hq;exact ⟨rfl,(Ao [0,1,2] ⟨⟨_,rfl,C2⟩,⟨_,rfl,C2⟩,⟨_,rfl,C2⟩,trivial⟩ ⟨lv,lv,lv,trivial⟩)⟩
 ·rw [Ce hb1] at h
  refine Ae ?_;have hq:=OI h; subst hq;exact ⟨rfl,(Ao [0,1,2] ⟨⟨_,rfl,C2⟩,⟨_,rfl,C2⟩,⟨_,rfl,C2⟩,trivial⟩ ⟨lv,lv,lv,trivial⟩)⟩
theorem MJ (r22:Int×Int×(List UInt8)×(List UInt8)×(List UInt8)×Int×Int×(List UInt8)×Bool×Bool×(List UInt8)×(List UInt8)×(List UInt8)×Int×Int×(List UInt8)×Bool×Bool) (r:(Int×Int×(List UInt8)×(List UInt8)×(List UInt8)×Int×Int×(List UInt8)×Bool×Bool×(List UInt8)×(List UInt8)×(List UInt8)×Int×Int×(List UInt8)×Bool×Bool)) (h:Fb r22=some r):Sem E0 ⟨none,false⟩ (pc Er [1,1,1,0,1]) ⟨Fr 71 [(2,.pt 0 0 0),(4,.pt 1 0 0),(5,.pt 2 0 0),(39,.v (.bool ((Du .u8 r22.2.1 4)!=0)))],[some ⟨2,30,[.ag [.v (.int .u8 r22.1),.v (.int .u8 r22.2.1)]],false⟩,some ⟨9,42,[.ag [.st r22.2.2.1,.st r22.2.2.2.1,.st r22.2.2.2.2.1,.v (.int .i64 r22.2.2.2.2.2.1),.v (.int .i64 r22.2.2.2.2.2.2.1),.st r22.2.2.2.2.2.2.2.1,.v (.bool r22.2.2.2.2.2.2.2.2.1),.v (.bool r22.2.2.2.2.2.2.2.2.2.1),.e0]],false⟩,some ⟨9,42,[.ag [.st r22.2.2.2.2.2.2.2.2.2.2.1,.st r22.2.2.2.2.2.2.2.2.2.2.2.1,.st r22.2.2.2.2.2.2.2.2.2.2.2.2.1,.v (.int .i64 r22.2.2.2.2.2.2.2.2.2.2.2.2.2.1),.v (.int .i64 r22.2.2.2.2.2.2.2.2.2.2.2.2.2.2.1),.st r22.2.2.2.2.2.2.2.2.2.2.2.2.2.2.2.1,.v (.bool r22.2.2.2.2.2.2.2.2.2.2.2.2.2.2.2.2.1),.v (.bool r22.2.2.2.2.2.2.2.2.2.2.2.2.2.2.2.2.2),.e0]],false⟩]⟩ (fun e s=>e = .normal/\Wk E0 s ⟨Fr 71 [(2,.pt 0 0 0),(4,.pt 1 0 0),(5,.pt 2 0 0)],[some ⟨2,30,[.ag [.v (.int .u8 r.1),.v (.int .u8 r.2.1)]],false⟩,some ⟨9,42,[.ag [.st r.2.2.1,.st r.2.2.2.1,.st r.2.2.2.2.1,.v (.int .i64 r.2.2.2.2.2.1),.v (.int .i64 r.2.2.2.2.2.2.1),.st r.2.2.2.2.2.2.2.1,.v (.bool r.2.2.2.2.2.2.2.2.1),.v (.bool r.2.2.2.2.2.2.2.2.2.1),.e0]],false⟩,some ⟨9,42,[.ag [.st r.2.2.2.2.2.2.2.2.2.2.1,.st r.2.2.2.2.2.2.2.2.2.2.2.1,.st r.2.2.2.2.2.2.2.2.2.2.2.2.1,.v (.int .i64 r.2.2.2.2.2.2.2.2.2.2.2.2.2.1),.v (.int .i64 r.2.2.2.2.2.2.2.2.2.2.2.2.2.2.1),.st r.2.2.2.2.2.2.2.2.2.2.2.2.2.2.2.1,.v (.bool r.2.2.2.2.2.2.2.2.2.2.2.2.2.2.2.2.1),.v (.bool r.2.2.2.2.2.2.2.2.2.2.2.2.2.2.2.2.2),.e0]],false⟩]⟩):=by
 unfold Fb at h;refine AT (b:=((Du .u8 r22.2.1 4)!=0)) kr (fun hb23=>?_) (fun hb23=>?_)
 ·rw [if_pos hb23] at h
  by_cases hk24:(DG (Du .u8 (r22.2.1.fdiv 8) 3) (([97,98,99,100]:List UInt8).length:Int) ([97,98,99,100]:List UInt8).length)=true
  case neg=>rw [if_neg hk24] at h; cases h
  rw [if_pos hk24] at h;by_cases hk25:(DG 0 (1:Int) ((([97,98,99,100]:List UInt8).take (([97,98,99,100]:List UInt8).length:Int).toNat).drop (Du .u8 (r22.2.1.fdiv 8) 3).toNat).length)=true
  case neg=>rw [if_neg hk25] at h; cases h
  rw [if_pos hk25] at h
  let p1:Option Blk:=some ⟨9,42,[.ag [.st r22.2.2.1,.st r22.2.2.2.1,.st r22.2.2.2.2.1,.v (.int .i64 r22.2.2.2.2.2.1),.v (.int .i64 r22.2.2.2.2.2.2.1),.st r22.2.2.2.2.2.2.2.1,.v (.bool r22.2.2.2.2.2.2.2.2.1),.v (.bool r22.2.2.2.2.2.2.2.2.2.1),.e0]],false⟩
  let p2:Option Blk:=some ⟨2,30,[.ag [.v (.int .u8 r22.1),.v (.int .u8 r22.2.1)]],false⟩
  refine AJ (s1:=⟨Fr 71 [(2,.pt 0 0 0),(4,.pt 1 0 0),(5,.pt 2 0 0)],[p2,p1,some ⟨9,42,[.ag [.st r22.2.2.2.2.2.2.2.2.2.2.1,.st r22.2.2.2.2.2.2.2.2.2.2.2.1,.st ((((([97,98,99,100]:List UInt8).take (([97,98,99,100]:List UInt8).length:Int).toNat).drop (Du .u8 (r22.2.1.fdiv 8) 3).toNat).take (1:Int).toNat).drop (0:Int).toNat),.v (.int .i64 r22.2.2.2.2.2.2.2.2.2.2.2.2.2.1),.v (.int .i64 r22.2.2.2.2.2.2.2.2.2.2.2.2.2.2.1),.st r22.2.2.2.2.2.2.2.2.2.2.2.2.2.2.2.1,.v (.bool r22.2.2.2.2.2.2.2.2.2.2.2.2.2.2.2.2.1),.v (.bool r22.2.2.2.2.2.2.2.2.2.2.2.2.2.2.2.2.2),.e0]],false⟩]⟩) ?_ ?_
  ·refine AE (n:=71) AC 4 [(2,.pt 0 0 0),(4,.pt 1 0 0),(5,.pt 2 0 0),(43,.v (.int .u8 (Du .u8 (r22.2.1.fdiv 8) 3)))] [p2,p1,some ⟨9,42,[.ag [.st r22.2.2.2.2.2.2.2.2.2.2.1,.st r22.2.2.2.2.2.2.2.2.2.2.2.1,.st r22.2.2.2.2.2.2.2.2.2.2.2.2.1,.v (.int .i64 r22.2.2.2.2.2.2.2.2.2.2.2.2.2.1),.v (.int .i64 r22.2.2.2.2.2.2.2.2.2.2.2.2.2.2.1),.st r22.2.2.2.2.2.2.2.2.2.2.2.2.2.2.2.1,.v (.bool r22.2.2.2.2.2.2.2.2.2.2.2.2.2.2.2.2.1),.v (.bool r22.2.2.2.2.2.2.2.2.2.2.2.2.2.2.2.2.2),.e0]],false⟩] kr ?_
   refine Aa AC 0 rfl (C5 (AB rfl) rfl (En (a:= .st [97,98,99,100]) (l:=(some (.v (.int .u8 (Du .u8 (r22.2.1.fdiv 8) 3))))) (u:=none) (m:=none) kr kr kr rfl (Fh (bs:=[97,98,99,100]) (lo:=(Du .u8 (r22.2.1.fdiv 8) 3)) (hi:=(([97,98,99,100]:List UInt8).length:Int)) kr (GW (NV hk24)) rfl hk24))) ?_;refine Aa AC 0 rfl (C5 (AB rfl) rfl (En (a:= .st ((([97,98,99,100]:List UInt8).take (([97,98,99,100]:List UInt8).length:Int).toNat).drop (Du .u8 (r22.2.1.fdiv 8) 3).toNat)) (l:=none) (u:=(some (.v (.int .i64 1)))) (m:=none) kr kr kr rfl (Fh (bs:=((([97,98,99,100]:List UInt8).take (([97,98,99,100]:List UInt8).length:Int).toNat).drop (Du .u8 (r22.2.1.fdiv 8) 3).toNat)) (lo:=0) (hi:=(1:Int)) kr rfl (GW (J0 hk25)) hk25))) ?_;exact Ap AC
  have hq:=OI h; subst hq;exact ⟨rfl,(Ao [0,1,2] ⟨⟨_,rfl,C2⟩,⟨_,rfl,C2⟩,⟨_,rfl,C2⟩,trivial⟩ ⟨lv,lv,lv,trivial⟩)⟩
 ·rw [Ce hb23] at h
  refine Ae ?_;have hq:=OI h; subst hq;exact ⟨rfl,(Ao [0,1,2] ⟨⟨_,rfl,C2⟩,⟨_,rfl,C2⟩,⟨_,rfl,C2⟩,trivial⟩ ⟨lv,lv,lv,trivial⟩)⟩
theorem MK (r44:Int×Int×(List UInt8)×(List UInt8)×(List UInt8)×Int×Int×(List UInt8)×Bool×Bool×(List UInt8)×(List UInt8)×(List UInt8)×Int×Int×(List UInt8)×Bool×Bool) (r:(Int×Int×(List UInt8)×(List UInt8)×(List UInt8)×Int×Int×(List UInt8)×Bool×Bool×(List UInt8)×(List UInt8)×(List UInt8)×Int×Int×(List UInt8)×Bool×Bool×(List (List UInt8)))) (h:Fc r44=some r):Sem E0 ⟨none,false⟩ (pc Er [1,1,1,1,0,1]) ⟨Fr 71 [(2,.pt 0 0 0),(4,.pt 1 0 0),(5,.pt 2 0 0),(50,.v (.bool ((Du .u8 r44.2.1 64)!=0)))],[some ⟨2,30,[.ag [.v (.int .u8 r44.1),.v (.int .u8 r44.2.1)]],false⟩,some ⟨9,42,[.ag [.st r44.2.2.1,.st r44.2.2.2.1,.st r44.2.2.2.2.1,.v (.int .i64 r44.2.2.2.2.2.1),.v (.int .i64 r44.2.2.2.2.2.2.1),.st r44.2.2.2.2.2.2.2.1,.v (.bool r44.2.2.2.2.2.2.2.2.1),.v (.bool r44.2.2.2.2.2.2.2.2.2.1),.e0]],false⟩,some ⟨9,42,[.ag [.st r44.2.2.2.2.2.2.2.2.2.2.1,.st r44.2.2.2.2.2.2.2.2.2.2.2.1,.st r44.2.2.2.2.2.2.2.2.2.2.2.2.1,.v (.int .i64 r44.2.2.2.2.2.2.2.2.2.2.2.2.2.1),.v (.int .i64 r44.2.2.2.2.2.2.2.2.2.2.2.2.2.2.1),.st r44.2.2.2.2.2.2.2.2.2.2.2.2.2.2.2.1,.v (.bool r44.2.2.2.2.2.2.2.2.2.2.2.2.2.2.2.2.1),.v (.bool r44.2.2.2.2.2.2.2.2.2.2.2.2.2.2.2.2.2),.e0]],false⟩]⟩ (fun e s=>e = .normal/\Wk E0 s ⟨Fr 71 [(2,.pt 0 0 0),(4,.pt 1 0 0),(5,.pt 2 0 0)],[some ⟨2,30,[.ag [.v (.int .u8 r.1),.v (.int .u8 r.2.1)]],false⟩,some ⟨9,42,[.ag [.st r.2.2.1,.st r.2.2.2.1,.st r.2.2.2.2.1,.v (.int .i64 r.2.2.2.2.2.1),.v (.int .i64 r.2.2.2.2.2.2.1),.st r.2.2.2.2.2.2.2.1,.v (.bool r.2.2.2.2.2.2.2.2.1),.v (.bool r.2.2.2.2.2.2.2.2.2.1),.e0]],false⟩,some ⟨9,42,[AK.enc r.2.2.2.2.2.2.2.2.2.2],false⟩]⟩):=by
 unfold Fc at h;refine AT (b:=((Du .u8 r44.2.1 64)!=0)) kr (fun hb45=>?_) (fun hb45=>?_)
 ·rw [if_pos hb45] at h
  by_cases hk46:(DG (Du .u8 (r44.1.fdiv 16) 3) (([97,98,99,100]:List UInt8).length:Int) ([97,98,99,100]:List UInt8).length)=true
  case neg=>rw [if_neg hk46] at h; cases h
  rw [if_pos hk46] at h;by_cases hk47:(DG 0 (1:Int) ((([97,98,99,100]:List UInt8).take (([97,98,99,100]:List UInt8).length:Int).toNat).drop (Du .u8 (r44.1.fdiv 16) 3).toNat).length)=true
  case neg=>rw [if_neg hk47] at h; cases h
  rw [if_pos hk47] at h
  let p1:Option Blk:=some ⟨9,42,[.ag [.st r44.2.2.2.2.2.2.2.2.2.2.1,.st r44.2.2.2.2.2.2.2.2.2.2.2.1,.st r44.2.2.2.2.2.2.2.2.2.2.2.2.1,.v (.int .i64 r44.2.2.2.2.2.2.2.2.2.2.2.2.2.1),.v (.int .i64 r44.2.2.2.2.2.2.2.2.2.2.2.2.2.2.1),.st r44.2.2.2.2.2.2.2.2.2.2.2.2.2.2.2.1,.v (.bool r44.2.2.2.2.2.2.2.2.2.2.2.2.2.2.2.2.1),.v (.bool r44.2.2.2.2.2.2.2.2.2.2.2.2.2.2.2.2.2),.sl 1 ([((((([97,98,99,100]:List UInt8).take (([97,98,99,100]:List UInt8).length:Int).toNat).drop (Du .u8 (r44.1.fdiv 16) 3).toNat).take (1:Int).toNat).drop (0:Int).toNat)].map cdS.enc)]],false⟩
  let p2:Option Blk:=some ⟨9,42,[.ag [.st r44.2.2.1,.st r44.2.2.2.1,.st r44.2.2.2.2.1,.v (.int .i64 r44.2.2.2.2.2.1),.v (.int .i64 r44.2.2.2.2.2.2.1),.st r44.2.2.2.2.2.2.2.1,.v (.bool r44.2.2.2.2.2.2.2.2.1),.v (.bool r44.2.2.2.2.2.2.2.2.2.1),.e0]],false⟩
  let p3:Option Blk:=some ⟨2,30,[.ag [.v (.int .u8 r44.1),.v (.int .u8 r44.2.1)]],false⟩
  let p4:Nat×AV:=(5,.pt 2 0 0)
  let p5:Nat×AV:=(4,.pt 1 0 0)
  let p6:Nat×AV:=(2,.pt 0 0 0)
  refine AJ (s1:=⟨Fr 71 [p6,p5,p4],[p3,p2,p1]⟩) ?_ ?_
  ·let p7:Option Blk:=some ⟨9,42,[.ag [.st r44.2.2.2.2.2.2.2.2.2.2.1,.st r44.2.2.2.2.2.2.2.2.2.2.2.1,.st r44.2.2.2.2.2.2.2.2.2.2.2.2.1,.v (.int .i64 r44.2.2.2.2.2.2.2.2.2.2.2.2.2.1),.v (.int .i64 r44.2.2.2.2.2.2.2.2.2.2.2.2.2.2.1),.st r44.2.2.2.2.2.2.2.2.2.2.2.2.2.2.2.1,.v (.bool r44.2.2.2.2.2.2.2.2.2.2.2.2.2.2.2.2.1),.v (.bool r44.2.2.2.2.2.2.2.2.2.2.2.2.2.2.2.2.2),.e0]],false⟩
   refine AE (n:=71) AC 4 [p6,p5,p4,(54,.v (.int .u8 (Du .u8 (r44.1.fdiv 16) 3)))] [p3,p2,p7] kr ?_;refine Aa AC 0 rfl (C5 (AB rfl) rfl (En (a:= .st [97,98,99,100]) (l:=(some (.v (.int .u8 (Du .u8 (r44.1.fdiv 16) 3))))) (u:=none) (m:=none) kr kr kr rfl (Fh (bs:=[97,98,99,100]) (lo:=(Du .u8 (r44.1.fdiv 16) 3)) (hi:=(([97,98,99,100]:List UInt8).length:Int)) kr (GW (NV hk46)) rfl hk46))) ?_;refine Aa AC 0 rfl (C5 (AB rfl) rfl (En (a:= .st ((([97,98,99,100]:List UInt8).take (([97,98,99,100]:List UInt8).length:Int).toNat).drop (Du .u8 (r44.1.fdiv 16) 3).toNat)) (l:=none) (u:=(some (.v (.int .i64 1)))) (m:=none) kr kr kr rfl (Fh (bs:=((([97,98,99,100]:List UInt8).take (([97,98,99,100]:List UInt8).length:Int).toNat).drop (Du .u8 (r44.1.fdiv 16) 3).toNat)) (lo:=0) (hi:=(1:Int)) kr rfl (GW (J0 hk47)) hk47))) ?_;refine AE (n:=71) AC 2 [p6,p5,p4,(57,hd 3 ([((((([97,98,99,100]:List UInt8).take (([97,98,99,100]:List UInt8).length:Int).toNat).drop (Du .u8 (r44.1.fdiv 16) 3).toNat).take (1:Int).toNat).drop (0:Int).toNat)].map cdS.enc)),(58,.pt 2 0 8)] [p3,p2,p7,mk 1 9 ([((((([97,98,99,100]:List UInt8).take (([97,98,99,100]:List UInt8).length:Int).toNat).drop (Du .u8 (r44.1.fdiv 16) 3).toNat).take (1:Int).toNat).drop (0:Int).toNat)].map cdS.enc)] kr ?_;refine PF (s1:=⟨Fr 71 [p6,p5,p4,(57,.sl 1 ([((((([97,98,99,100]:List UInt8).take (([97,98,99,100]:List UInt8).length:Int).toNat).drop (Du .u8 (r44.1.fdiv 16) 3).toNat).take (1:Int).toNat).drop (0:Int).toNat)].map cdS.enc)),(58,.pt 2 0 8)],[p3,p2,p7,none]⟩) (KF 3 (.inl kr) ⟨.inr (.inr ⟨_,_,_,_,rfl,rfl,⟨.inl rfl,trivial⟩⟩),.inr (.inr ⟨_,_,_,_,rfl,rfl,⟨.inl rfl,trivial⟩⟩),.inr (.inr ⟨_,_,_,_,rfl,rfl,⟨.inl rfl,trivial⟩⟩),.inl rfl,trivial⟩ ⟨⟨.pt 0 0 0,kr,.inl rfl⟩,⟨.pt 1 0 0,kr,.inl rfl⟩,⟨.pt 2 0 0,kr,.inl rfl⟩,⟨hd 3 ([((((([97,98,99,100]:List UInt8).take (([97,98,99,100]:List UInt8).length:Int).toNat).drop (Du .u8 (r44.1.fdiv 16) 3).toNat).take (1:Int).toNat).drop (0:Int).toNat)].map cdS.enc),kr,QK (t:=9) kr K3⟩,⟨.pt 2 0 8,kr,.inl rfl⟩,trivial⟩) ?_
   refine AE (n:=71) AC 1 [p6,p5,p4] [p3,p2,p1,none] kr ?_;exact AI rfl (Ao [0,1,2] ⟨⟨_,rfl,C2⟩,⟨_,rfl,C2⟩,⟨_,rfl,C2⟩,trivial⟩ ⟨lv,lv,lv,trivial⟩)
  have hq:=OI h; subst hq;exact ⟨rfl,(Ao [0,1,2] ⟨⟨_,rfl,C2⟩,⟨_,rfl,C2⟩,⟨_,rfl,C2⟩,trivial⟩ ⟨lv,lv,lv,trivial⟩)⟩
 ·rw [Ce hb45] at h
  refine Ae ?_;have hq:=OI h; subst hq
  let p8:Option Blk:=some ⟨9,42,[.ag [.st r44.2.2.1,.st r44.2.2.2.1,.st r44.2.2.2.2.1,.v (.int .i64 r44.2.2.2.2.2.1),.v (.int .i64 r44.2.2.2.2.2.2.1),.st r44.2.2.2.2.2.2.2.1,.v (.bool r44.2.2.2.2.2.2.2.2.1),.v (.bool r44.2.2.2.2.2.2.2.2.2.1),.e0]],false⟩
  let p9:Option Blk:=some ⟨2,30,[.ag [.v (.int .u8 r44.1),.v (.int .u8 r44.2.1)]],false⟩
  let p10:Option Blk:=some ⟨9,42,[.ag [.st r44.2.2.2.2.2.2.2.2.2.2.1,.st r44.2.2.2.2.2.2.2.2.2.2.2.1,.st r44.2.2.2.2.2.2.2.2.2.2.2.2.1,.v (.int .i64 r44.2.2.2.2.2.2.2.2.2.2.2.2.2.1),.v (.int .i64 r44.2.2.2.2.2.2.2.2.2.2.2.2.2.2.1),.st r44.2.2.2.2.2.2.2.2.2.2.2.2.2.2.2.1,.v (.bool r44.2.2.2.2.2.2.2.2.2.2.2.2.2.2.2.2.1),.v (.bool r44.2.2.2.2.2.2.2.2.2.2.2.2.2.2.2.2.2),.e0]],false⟩
  exact ⟨rfl,(Wk.trans (s1:=⟨Fr 71 [(2,.pt 0 0 0),(4,.pt 1 0 0),(5,.pt 2 0 0)],[p9,p8,p10]⟩) AQ (Wk.trans (s1:=⟨Fr 71 [(2,.pt 0 0 0),(4,.pt 1 0 0),(5,.pt 2 0 0)],[p9,p8,p10,none]⟩) Wk.none (Wk.trans (s1:=⟨Fr 71 [(2,.pt 0 0 0),(4,.pt 1 0 0),(5,.pt 2 0 0)],[p9,p8,some ⟨9,42,[.ag [.st r44.2.2.2.2.2.2.2.2.2.2.1,.st r44.2.2.2.2.2.2.2.2.2.2.2.1,.st r44.2.2.2.2.2.2.2.2.2.2.2.2.1,.v (.int .i64 r44.2.2.2.2.2.2.2.2.2.2.2.2.2.1),.v (.int .i64 r44.2.2.2.2.2.2.2.2.2.2.2.2.2.2.1),.st r44.2.2.2.2.2.2.2.2.2.2.2.2.2.2.2.1,.v (.bool r44.2.2.2.2.2.2.2.2.2.2.2.2.2.2.2.2.1),.v (.bool r44.2.2.2.2.2.2.2.2.2.2.2.2.2.2.2.2.2),.sl 1 ([].map cdS.enc)]],false⟩,none]⟩) (M5 3 (.inr kr) ⟨.inr (.inl rfl),.inr (.inl rfl),.inr (.inr ⟨_,_,_,_,rfl,rfl,⟨(.inr ⟨_,_,rfl,rfl,⟨.inl rfl,.inl rfl,.inl rfl,.inl rfl,.inl rfl,.inl rfl,.inl rfl,.inl rfl,TN,trivial⟩⟩),trivial⟩⟩),.inl rfl,trivial⟩ ⟨⟨.pt 0 0 0,kr,(.inl (.inl rfl))⟩,⟨.pt 1 0 0,kr,(.inl (.inl rfl))⟩,⟨.pt 2 0 0,kr,(.inl (.inl rfl))⟩,trivial⟩) (Ao [0,1,2] ⟨⟨_,rfl,C2⟩,⟨_,rfl,C2⟩,⟨_,rfl,C2⟩,trivial⟩ ⟨lv,lv,lv,trivial⟩))))⟩
theorem ML (r67:Int×Int×(List UInt8)×(List UInt8)×(List UInt8)×Int×Int×(List UInt8)×Bool×Bool×(List UInt8)×(List UInt8)×(List UInt8)×Int×Int×(List UInt8)×Bool×Bool×(List (List UInt8))) (r:((List UInt8)×(List UInt8)×(List UInt8)×Int×Int×(List UInt8)×Bool×Bool×(List UInt8)×(List UInt8)×(List UInt8)×Int×Int×(List UInt8)×Bool×Bool×(List (List UInt8)))) (h:Fd r67=some r):Sem E0 ⟨none,false⟩ (pc Er [1,1,1,1,1,0,1]) ⟨Fr 71 [(2,.pt 0 0 0),(4,.pt 1 0 0),(5,.pt 2 0 0),(62,.v (.bool ((Du .u8 r67.1 128)!=0)))],[some ⟨2,30,[.ag [.v (.int .u8 r67.1),.v (.int .u8 r67.2.1)]],false⟩,some ⟨9,42,[.ag [.st r67.2.2.1,.st r67.2.2.2.1,.st r67.2.2.2.2.1,.v (.int .i64 r67.2.2.2.2.2.1),.v (.int .i64 r67.2.2.2.2.2.2.1),.st r67.2.2.2.2.2.2.2.1,.v (.bool r67.2.2.2.2.2.2.2.2.1),.v (.bool r67.2.2.2.2.2.2.2.2.2.1),.e0]],false⟩,some ⟨9,42,[AK.enc r67.2.2.2.2.2.2.2.2.2.2],false⟩]⟩ (fun e s=>e = .normal/\Wk E0 s ⟨Fr 71 [(4,.pt 0 0 0),(5,.pt 1 0 0)],[some ⟨9,42,[.ag [.st r.1,.st r.2.1,.st r.2.2.1,.v (.int .i64 r.2.2.2.1),.v (.int .i64 r.2.2.2.2.1),.st r.2.2.2.2.2.1,.v (.bool r.2.2.2.2.2.2.1),.v (.bool r.2.2.2.2.2.2.2.1),.e0]],false⟩,some ⟨9,42,[AK.enc r.2.2.2.2.2.2.2.2],false⟩]⟩):=by
 unfold Fd at h;refine AT (b:=((Du .u8 r67.1 128)!=0)) kr (fun hb68=>?_) (fun hb68=>?_)
 ·rw [if_pos hb68] at h
  by_cases hk69:(DG (Du .u8 (r67.2.1.fdiv 16) 3) (([97,98,99,100]:List UInt8).length:Int) ([97,98,99,100]:List UInt8).length)=true
  case neg=>rw [if_neg hk69] at h; cases h
  rw [if_pos hk69] at h;by_cases hk70:(DG 0 (1:Int) ((([97,98,99,100]:List UInt8).take (([97,98,99,100]:List UInt8).length:Int).toNat).drop (Du .u8 (r67.2.1.fdiv 16) 3).toNat).length)=true
  case neg=>rw [if_neg hk70] at h; cases h
  rw [if_pos hk70] at h
  let p1:Option Blk:=some ⟨9,42,[.ag [.st r67.2.2.2.2.2.2.2.2.2.2.1,.st r67.2.2.2.2.2.2.2.2.2.2.2.1,.st r67.2.2.2.2.2.2.2.2.2.2.2.2.1,.v (.int .i64 r67.2.2.2.2.2.2.2.2.2.2.2.2.2.1),.v (.int .i64 r67.2.2.2.2.2.2.2.2.2.2.2.2.2.2.1),.st ((((([97,98,99,100]:List UInt8).take (([97,98,99,100]:List UInt8).length:Int).toNat).drop (Du .u8 (r67.2.1.fdiv 16) 3).toNat).take (1:Int).toNat).drop (0:Int).toNat),.v (.bool r67.2.2.2.2.2.2.2.2.2.2.2.2.2.2.2.2.1),.v (.bool r67.2.2.2.2.2.2.2.2.2.2.2.2.2.2.2.2.2.1),.sl 1 (r67.2.2.2.2.2.2.2.2.2.2.2.2.2.2.2.2.2.2.map cdS.enc)]],false⟩
  let p2:Option Blk:=some ⟨9,42,[.ag [.st r67.2.2.1,.st r67.2.2.2.1,.st r67.2.2.2.2.1,.v (.int .i64 r67.2.2.2.2.2.1),.v (.int .i64 r67.2.2.2.2.2.2.1),.st r67.2.2.2.2.2.2.2.1,.v (.bool r67.2.2.2.2.2.2.2.2.1),.v (.bool r67.2.2.2.2.2.2.2.2.2.1),.e0]],false⟩
  refine AJ (s1:=⟨Fr 71 [(4,.pt 0 0 0),(5,.pt 1 0 0)],[p2,p1]⟩) ?_ ?_
  ·let p3:Option Blk:=some ⟨2,30,[.ag [.v (.int .u8 r67.1),.v (.int .u8 r67.2.1)]],false⟩
   refine AE (n:=71) AC 4 [(4,.pt 1 0 0),(5,.pt 2 0 0),(66,.v (.int .u8 (Du .u8 (r67.2.1.fdiv 16) 3)))] [p3,p2,some ⟨9,42,[AK.enc r67.2.2.2.2.2.2.2.2.2.2],false⟩] kr ?_;refine Aa AC 0 rfl (C5 (AB rfl) rfl (En (a:= .st [97,98,99,100]) (l:=(some (.v (.int .u8 (Du .u8 (r67.2.1.fdiv 16) 3))))) (u:=none) (m:=none) kr kr kr rfl (Fh (bs:=[97,98,99,100]) (lo:=(Du .u8 (r67.2.1.fdiv 16) 3)) (hi:=(([97,98,99,100]:List UInt8).length:Int)) kr (GW (NV hk69)) rfl hk69))) ?_;refine Aa AC 0 rfl (C5 (AB rfl) rfl (En (a:= .st ((([97,98,99,100]:List UInt8).take (([97,98,99,100]:List UInt8).length:Int).toNat).drop (Du .u8 (r67.2.1.fdiv 16) 3).toNat)) (l:=none) (u:=(some (.v (.int .i64 1)))) (m:=none) kr kr kr rfl (Fh (bs:=((([97,98,99,100]:List UInt8).take (([97,98,99,100]:List UInt8).length:Int).toNat).drop (Du .u8 (r67.2.1.fdiv 16) 3).toNat)) (lo:=0) (hi:=(1:Int)) kr rfl (GW (J0 hk70)) hk70))) ?_;refine AE (n:=71) AC 2 [(4,.pt 1 0 0),(5,.pt 2 0 0)] [p3,p2,p1] kr ?_;exact AI rfl (Ao [1,2] ⟨⟨_,rfl,C2⟩,⟨_,rfl,C2⟩,trivial⟩ ⟨lv,lv,trivial⟩)
  have hq:=OI h; subst hq;exact ⟨rfl,(Ao [0,1] ⟨⟨_,rfl,C2⟩,⟨_,rfl,C2⟩,trivial⟩ ⟨lv,lv,trivial⟩)⟩
 ·rw [Ce hb68] at h
  refine Ae ?_;have hq:=OI h; subst hq;exact ⟨rfl,(Ao [1,2] ⟨⟨_,rfl,C2⟩,⟨_,rfl,C2⟩,trivial⟩ ⟨lv,lv,trivial⟩)⟩
theorem Nl (x0:(Int×Int)) (x1:(List UInt8)) (r:Ah) (h:FG x0 x1=some r):Sem E0 ⟨none,false⟩ Er ⟨Fr 71 (BN 0 (Gw.enc (x0,x1,()))),[]⟩ fun e s'=>(e = .normal\/e = .ret)/\∃ xs,Eo E0.P s'.fr s'.hp Tryz.f74.results.toList=some xs/\Es xs=Ir r:=by
 unfold FG at h;refine BJ (CB (s1:=⟨Fr 71 [(0,.ag [.v (.int .u8 x0.1),.v (.int .u8 x0.2)]),(1,.st x1)],[]⟩) AQ ?_)
 let p1:Option Blk:=some ⟨9,42,[.ag [.st [],.st [],.st [],.v (.int .i64 0),.v (.int .i64 0),.st [],.v (.bool false),.v (.bool false),.e0]],false⟩
 let p2:Option Blk:=some ⟨2,30,[.ag [.v (.int .u8 x0.1),.v (.int .u8 x0.2)]],false⟩
 let p3:Nat×AV:=(4,.pt 1 0 0)
 let p4:Nat×AV:=(2,.pt 0 0 0)
 refine AL AC [(1,.st x1),p4,p3] [p2,p1] ?_
 let p5:Option Blk:=some ⟨9,42,[.ag [.st x1,.st [],.st [],.v (.int .i64 (wr .i64 (10 * (wr .i64 (x0.2.tmod 4))))),.v (.int .i64 (wr .i64 (x0.1.tmod 3))),.st [],.v (.bool ((Du .u8 x0.1 64)!=0)),.v (.bool ((Du .u8 x0.2 128)!=0)),.e0]],false⟩
 let p6:Nat×AV:=(5,.pt 2 0 0)
 refine AL AC [p4,p3,p6] [p2,p1,p5] ?_;refine AG ?_;refine AL AC [p4,p3,p6,(28,.v (.bool ((Du .u8 x0.1 4)!=0)))] [p2,p1,p5] ?_;obtain ⟨r22,hr22,h⟩:=OB h;refine C9 (MI x0 x1 _ hr22) ?_;refine AG ?_;refine AL AC [p4,p3,p6,(39,.v (.bool ((Du .u8 r22.2.1 4)!=0)))] [some ⟨2,30,[.ag [.v (.int .u8 r22.1),.v (.int .u8 r22.2.1)]],false⟩,some ⟨9,42,[.ag [.st r22.2.2.1,.st r22.2.2.2.1,.st r22.2.2.2.2.1,.v (.int .i64 r22.2.2.2.2.2.1),.v (.int .i64 r22.2.2.2.2.2.2.1),.st r22.2.2.2.2.2.2.2.1,.v (.bool r22.2.2.2.2.2.2.2.2.1),.v (.bool r22.2.2.2.2.2.2.2.2.2.1),.e0]],false⟩,some ⟨9,42,[.ag [.st r22.2.2.2.2.2.2.2.2.2.2.1,.st r22.2.2.2.2.2.2.2.2.2.2.2.1,.st r22.2.2.2.2.2.2.2.2.2.2.2.2.1,.v (.int .i64 r22.2.2.2.2.2.2.2.2.2.2.2.2.2.1),.v (.int .i64 r22.2.2.2.2.2.2.2.2.2.2.2.2.2.2.1),.st r22.2.2.2.2.2.2.2.2.2.2.2.2.2.2.2.1,.v (.bool r22.2.2.2.2.2.2.2.2.2.2.2.2.2.2.2.2.1),.v (.bool r22.2.2.2.2.2.2.2.2.2.2.2.2.2.2.2.2.2),.e0]],false⟩] ?_;obtain ⟨r44,hr44,h⟩:=OB h;refine C9 (MJ r22 _ hr44) ?_;refine AG ?_;refine AL AC [p4,p3,p6,(50,.v (.bool ((Du .u8 r44.2.1 64)!=0)))] [some ⟨2,30,[.ag [.v (.int .u8 r44.1),.v (.int .u8 r44.2.1)]],false⟩,some ⟨9,42,[.ag [.st r44.2.2.1,.st r44.2.2.2.1,.st r44.2.2.2.2.1,.v (.int .i64 r44.2.2.2.2.2.1),.v (.int .i64 r44.2.2.2.2.2.2.1),.st r44.2.2.2.2.2.2.2.1,.v (.bool r44.2.2.2.2.2.2.2.2.1),.v (.bool r44.2.2.2.2.2.2.2.2.2.1),.e0]],false⟩,some ⟨9,42,[.ag [.st r44.2.2.2.2.2.2.2.2.2.2.1,.st r44.2.2.2.2.2.2.2.2.2.2.2.1,.st r44.2.2.2.2.2.2.2.2.2.2.2.2.1,.v (.int .i64 r44.2.2.2.2.2.2.2.2.2.2.2.2.2.1),.v (.int .i64 r44.2.2.2.2.2.2.2.2.2.2.2.2.2.2.1),.st r44.2.2.2.2.2.2.2.2.2.2.2.2.2.2.2.1,.v (.bool r44.2.2.2.2.2.2.2.2.2.2.2.2.2.2.2.2.1),.v (.bool r44.2.2.2.2.2.2.2.2.2.2.2.2.2.2.2.2.2),.e0]],false⟩] ?_;obtain ⟨r67,hr67,h⟩:=OB h;refine C9 (MK r44 _ hr67) ?_;refine AG ?_;refine AL AC [p4,p3,p6,(62,.v (.bool ((Du .u8 r67.1 128)!=0)))] [some ⟨2,30,[.ag [.v (.int .u8 r67.1),.v (.int .u8 r67.2.1)]],false⟩,some ⟨9,42,[.ag [.st r67.2.2.1,.st r67.2.2.2.1,.st r67.2.2.2.2.1,.v (.int .i64 r67.2.2.2.2.2.1),.v (.int .i64 r67.2.2.2.2.2.2.1),.st r67.2.2.2.2.2.2.2.1,.v (.bool r67.2.2.2.2.2.2.2.2.1),.v (.bool r67.2.2.2.2.2.2.2.2.2.1),.e0]],false⟩,some ⟨9,42,[AK.enc r67.2.2.2.2.2.2.2.2.2.2],false⟩] ?_
 obtain ⟨r88,hr88,h⟩:=OB h;refine C9 (ML r67 _ hr88) ?_;refine AG ?_
 let p7:Option Blk:=some ⟨9,42,[AK.enc r88.2.2.2.2.2.2.2.2],false⟩
 refine AJ (s1:=⟨Fr 71 [(4,.pt 0 0 0)],[p7]⟩) ?_ ?_
 ·refine AE (n:=71) AC 2 [(4,.pt 0 0 0)] [p7,p7] kr ?_
  exact AI rfl (Ao [0] ⟨⟨_,rfl,C2⟩,trivial⟩ ⟨lv,trivial⟩)
 refine AX ?_;have hq:=OI h; subst hq;exact ⟨⟨Fr 71 [(4,.pt 0 0 0)],[p7]⟩,(Ao [0] ⟨⟨_,rfl,C2⟩,trivial⟩ ⟨lv,trivial⟩),.inr rfl,[AK.enc r88.2.2.2.2.2.2.2.2],kr,kr⟩
def Pq:List AV->Option AV:=EF Gw (fun a=>FG a.1 a.2.1) Ir
theorem Py:XOk 74 Pq:=by
 refine AR Tryz.func74 (c:=Er) ?h2 ⟨Tryz.call74⟩ Gw (fun a=>FG a.1 a.2.1) Ir (fun a=>(by show 2<=71; decide)) ?h3 ?h4
 case h2=>kernel_rfl
 case h3=>intro b; kernel_rfl
 case h4=>exact fun a b h=>Nl a.1 a.2.1 b h
def by8 (ns:List Int):List UInt8:=ns.map fun n=>UInt8.ofNat n.toNat
theorem Vd {w:World}{Z:Nat->Prop}{R:List RI}:∀ {ns:List Int}{us:List Value},VRs w Z R (ns.map fun k=> .v (.int .u8 k)) us->us=ns.map (Value.int .u8)
 | [],us,h=>by
  have:=h.len
  simpa using this
 | k::ns,[],h=>by
  have:=h.len
  simp at this
 | k::ns,u::us,h=>by
  have h0:=h.at_ 0 (.v (.int .u8 k)) u rfl rfl
  have h1:u = .int .u8 k:=by cases h0; rfl
  have h2:VRs w Z R (ns.map fun k=> .v (.int .u8 k)) us:=⟨by have:=h.len; simpa using this,fun i x u hx hu=>h.at_ (i + 1) x u (by simpa using hx) (by simpa using hu)⟩
  rw [h1,Vd h2]; rfl
theorem TJ:∀ (ns:List Int),Bv (ns.map (Value.int .u8))=ns.map (Value.int .u8)
 | []=>rfl
 | k::ns=>by
  have:=TJ ns
  unfold Bv at *
  simp only [List.map_cons,List.flatten_cons,this]
  rfl
section
variable {E:Env}{cx:Cx}{ops:Array Oper}{rest rest':List Oper}{K:St->Prop}{n d:Nat}{l:List (Nat×AV)}{hp:Hp}
theorem Qu {a b e:TypeId}{x:Operand}{ty:TypeId}{pos:String}{af:Array Edge}{g:Option (Nat×Bool)}{ns:List Int}{ev:AV}{L:List Asn}(ht:Go.Proofs.YtlalcoehgkmhlaaGreatDoor.T hp (own_ (ocL 1 e (ocV (cdK .u8))) ev ns::L)) (hr:rest=⟨some d,.convert a b x,ty,pos,af,g⟩::rest') (hw:CH ops (Fr n l) ⟨some d,.convert a b x,ty,pos,af,g⟩=some true)
  (h1:E.P.underlying a=some (.slice e)) (h2:E.P.underlying e=some (.int .u8)) (h3:E.P.underlying b=some .string) (hx:opA E (Fr n l) x=some ev) (hne:ns≠[]) (hn:Nat.ble ns.length maxLen=true) (kk:RunL E cx ops rest' ⟨Fr n ((d,.st (by8 ns))::l),hp⟩ K):RunL E cx ops rest ⟨Fr n l,hp⟩ K:=by
 subst hr
 intro ro base Q ac w Z R hro sr hy qq
 refine Ki rfl (wantedA_eq sr hw) ?_
 obtain ⟨F,p,hn',hk',_⟩:=ht.act
 rcases p with ⟨rfl,rfl,_⟩ | ⟨bb,es,F',rfl,hb,rfl,h4⟩
 ·exact absurd rfl hne
 obtain ⟨rfl,rfl⟩:=h4.leaf_inv
 have hv:=opA_vr sr x _ hx
 unfold Lw
 generalize hva:ac.eval x=v at hv
 have hso:J9 E.P a (.rf bb 0 ns.length ns.length)=true:=by unfold J9; rw [h1]
 have hl:J7 hp 1 (.rf bb 0 ns.length ns.length)=some (ns.map fun k=> .v (.int .u8 k)):=by
  unfold J7
  simp only [hb]
  simp only [cdK,List.length_map,Nat.zero_add,Nat.le_refl,and_self,if_true,List.drop_zero]
  rw [List.take_of_length_le (by simp)]
 obtain ⟨us,u1,u2,u3,u4⟩:=NW sr.hh hv hso hl
 cases hv with
 | rf hr h0 h4 h5 h6 =>
  rename_i m r
  have hus:=Vd u1
  subst hus
  have hf:=u4 ns.length (by simp)
  have hfc:(loadCells ⟨r.c,0 * r.k,none⟩ ns.length).run E.P w = .ok (ns.map (Value.int .u8)).toArray w:=by
   simpa [Builtin.firstCells,List.take_of_length_le,TJ] using hf
  have hrun:(execOp ac.eval ⟨some d,.convert a b x,ty,pos,af,g⟩).run E.P w = .ok (.value (.string (strOfNums ns))) w:=by
   have:=run_convert_bytes_string (P:=E.P) w a b e (some ⟨r.c,0 * r.k,none⟩) ns.length m h1 h2 h3
   rw [run_bytesToString w _ ns.length m ns hfc,foldl_push_bytes] at this
   have e2:(⟨ByteArray.empty.data++(ns.map fun n=>UInt8.ofNat n.toNat).toArray⟩:ByteArray)=strOfNums ns:=by
    simp [strOfNums,ByteArray.empty,ByteArray.emptyWithCapacity]
    rfl
   rw [e2] at this
   simp only [Nat.zero_mul] at this
   simp [execOp,hva,this]
  rw [hrun]
  have sr':=sr.put (d:=some d) (VR.st (w:=w) (Z:=Z) (ρ:=R) (s:=strOfNums ns) (bs:=by8 ns) (strOfNums_data ns) (by unfold by8; rw [List.length_map]; exact Nat.le_of_ble_eq_true hn))
  exact kk ro base Q _ w Z R hro (by rwa [DY] at sr') hy qq
end
/- trestle/trestlelaw03.Guests -/
noncomputable def EW:Code:=Bh Tryz.f20
def Co (x0:(List (Int×Int))) (x1:Int):Nat->Int->(List Ah)->Option (((List Ah)))
 | 0,_,_=>none
 | f + 1,c3,c5 =>
  if (decide (c3 < (((x0.take (mnI (x0.length:Int) x1).toNat).drop (0:Int).toNat).length:Int)))=true then
  (idx ((x0.take (mnI (x0.length:Int) x1).toNat).drop (0:Int).toNat) c3).bind fun v7 =>
  if (okB ([103]++(by8 ([(wr .u8 (wr .i64 (97 + (wr .i64 (c3.tdiv 26))))),(wr .u8 (wr .i64 (97 + (c3.tmod 26))))]:List Int))))=true then
  (FG (v7.1,v7.2) ([103]++(by8 ([(wr .u8 (wr .i64 (97 + (wr .i64 (c3.tdiv 26))))),(wr .u8 (wr .i64 (97 + (c3.tmod 26))))]:List Int)))).bind fun v20 =>
  if (FP 112 (c5.length + ([v20]:List Ah).length))=true then
  Co x0 x1 f (wr .i64 (c3 + 1)) (c5++([v20]:List Ah))
  else none
  else none
  else
  some c5
def Di (x0:(List (Int×Int))) (x1:Int):Option ((List Ah)) :=
 if (DG 0 (mnI (x0.length:Int) x1) x0.length)=true then
 (Co x0 x1 100000 0 ([]:(List Ah))).bind fun r34 =>
 some r34
 else none
theorem Kq {L:List Asn}(x0:(List (Int×Int))) (x1:Int):∀ (f:Nat) (c3:Int) (c5:(List Ah)) (r:((List Ah))),Co x0 x1 f c3 c5=some r->∀ (e4:AV) (hp:Hp),T hp ((own_ (ocL 9 42 (ocV AK)) e4 c5)::L)->SemYN E0 ⟨none,false⟩ (pc EW [1,1,0,1,0,0]) f ⟨Fr 38 [(5,e4),(13,.sl 2 (((x0.take (mnI (x0.length:Int) x1).toNat).drop (0:Int).toNat).map (CL (cdK .u8) (cdK .u8) (fun _=>rfl) (fun _=>rfl)).enc)),(14,.v (.int .i64 (((x0.take (mnI (x0.length:Int) x1).toNat).drop (0:Int).toNat).length:Int))),(15,.v (.int .i64 c3))],hp⟩ (fun e s=>e=(.exit 0)/\∃ s2,(∃ (e32:AV) (h':Hp),T h' ((own_ (ocL 9 42 (ocV AK)) e32 r)::L)/\s2=⟨Fr 38 [(5,e32)],h'⟩)/\WkY E0 s s2):=by
 intro f;induction f with
 | zero=>intro c3 c5 r h; cases h
 | succ f ih0 =>
  intro c3 c5 r h e4 hp hT;unfold Co at h;refine Cm ?_
  let p1:Nat×AV:=(15,.v (.int .i64 c3))
  let p2:Nat×AV:=(14,.v (.int .i64 (((x0.take (mnI (x0.length:Int) x1).toNat).drop (0:Int).toNat).length:Int)))
  let p3:Nat×AV:=(13,.sl 2 (((x0.take (mnI (x0.length:Int) x1).toNat).drop (0:Int).toNat).map (CL (cdK .u8) (cdK .u8) (fun _=>rfl) (fun _=>rfl)).enc))
  refine A7 AC [(5,e4),p3,p2,p1,(16,.v (.bool (decide (c3 < (((x0.take (mnI (x0.length:Int) x1).toNat).drop (0:Int).toNat).length:Int)))))] ?_;refine AM ?_;refine Bz (b:=(decide (c3 < (((x0.take (mnI (x0.length:Int) x1).toNat).drop (0:Int).toNat).length:Int)))) kr (fun hb6=>?_) (fun hb6=>?_)
  ·rw [if_pos hb6] at h
   refine SemY.skip ?_;refine AM ?_;refine A4 ?_;refine AM ?_;refine AH ?_;refine AZ AC 1 ?_;obtain ⟨v7,hv7,h⟩:=OB h;refine AS AC 0 rfl (C5 (AB rfl) rfl (AN (a:= .sl 2 (((x0.take (mnI (x0.length:Int) x1).toNat).drop (0:Int).toNat).map (CL (cdK .u8) (cdK .u8) (fun _=>rfl) (fun _=>rfl)).enc)) (b:= .v (.int .i64 c3)) kr kr (Gi (e:=(CL (cdK .u8) (cdK .u8) (fun _=>rfl) (fun _=>rfl)).enc) (el:=30) (k:=2) (ki:= .i64) kr kr hv7))) ?_;refine AZ AC 1 ?_;obtain ⟨e8,hp9,hb10,hT11⟩:=NN (t:=30) (a:= .ag [.v (.int .u8 0),.v (.int .u8 0)]) hT kr;refine AS AC 0 rfl (QW (AB rfl) rfl kr (PT (z:= .ag [.v (.int .u8 0),.v (.int .u8 0)]) kr hb10)) ?_;refine AZ AC 1 ?_;obtain ⟨hp12,hs13,hT14⟩:=Pk (P:=Tryz.prog) (ty:=30) (y:= .ag [.v (.int .u8 v7.1),.v (.int .u8 v7.2)]) (a':= .ag [.v (.int .u8 v7.1),.v (.int .u8 v7.2)]) hT11 kr kr kr;refine RunL.store AC (y:=e8) (z:= .ag [.v (.int .u8 v7.1),.v (.int .u8 v7.2)]) rfl (AB rfl) kr kr hs13 ?_;refine A3 rfl (SemY.fr (l':=[(5,e4),(6,.v (.int .i64 c3)),(7,e8),p3,p2,p1]) kr ?_);refine AH ?_;refine AZ AC 1 ?_;refine AS AC 0 rfl (C5 (AB rfl) rfl (G3 (p:=e8) kr (RD (y:= .ag [.v (.int .u8 v7.1),.v (.int .u8 v7.2)]) (m:=2) (g:=true) hT14 kr kr kr))) ?_;refine AZ AC 8 ?_;obtain ⟨e18,hp15,hb16,hT17⟩:=Ie (P:=Tryz.prog) (bytes:=1) (k:=1) (t:=5) (ty:=109) (xs:=([(wr .u8 (wr .i64 (97 + (wr .i64 (c3.tdiv 26))))),(wr .u8 (wr .i64 (97 + (c3.tmod 26))))]:List Int)) (n:=2) (QH (k:=1) (fun _=>⟨rfl,rfl,rfl⟩)) (Ht (c:=(cdK .u8)) (xs:=([(wr .u8 (wr .i64 (97 + (wr .i64 (c3.tdiv 26))))),(wr .u8 (wr .i64 (97 + (c3.tmod 26))))]:List Int)) hT14) rfl kr kr kr;refine AS AC 0 rfl (QW (AB rfl) rfl kr (QU (xs:=Lf 0 [.v (.int .u8 (wr .u8 (wr .i64 (97 + (wr .i64 (c3.tdiv 26)))))),.v (.int .u8 (wr .u8 (wr .i64 (97 + (c3.tmod 26)))))]) kr hb16)) ?_;refine Qu hT17 rfl (AB rfl) kr kr kr kr (by simp) kr ?_;by_cases hk19:(okB ([103]++(by8 ([(wr .u8 (wr .i64 (97 + (wr .i64 (c3.tdiv 26))))),(wr .u8 (wr .i64 (97 + (c3.tmod 26))))]:List Int))))=true
   case neg=>rw [if_neg hk19] at h; cases h
   rw [if_pos hk19] at h;refine AS AC 0 rfl (C5 (AB rfl) rfl (Wi (a:= .st [103]) (b:= .st (by8 ([(wr .u8 (wr .i64 (97 + (wr .i64 (c3.tdiv 26))))),(wr .u8 (wr .i64 (97 + (c3.tmod 26))))]:List Int))) kr kr (XV hk19))) ?_;obtain ⟨v20,hv20,h⟩:=OB h;refine C8 (v:=v20) (caps:=[]) (xs:=[.ag [.v (.int .u8 v7.1),.v (.int .u8 v7.2)],.st ([103]++(by8 ([(wr .u8 (wr .i64 (97 + (wr .i64 (c3.tdiv 26))))),(wr .u8 (wr .i64 (97 + (c3.tmod 26))))]:List Int)))]) (u:=((v7.1,v7.2),([103]++(by8 ([(wr .u8 (wr .i64 (97 + (wr .i64 (c3.tdiv 26))))),(wr .u8 (wr .i64 (97 + (c3.tmod 26))))]:List Int))),())) rfl rfl Py rfl (AB rfl) kr kr (Aw (Bx (c:=(CL (cdK .u8) (cdK .u8) (fun _=>rfl) (fun _=>rfl))) (v:=(v7.1,v7.2))) (Aw (Bx (c:=cdS) (v:=([103]++(by8 ([(wr .u8 (wr .i64 (97 + (wr .i64 (c3.tdiv 26))))),(wr .u8 (wr .i64 (97 + (c3.tmod 26))))]:List Int))))) SeesD.nil)) (.inr ⟨by kernel_rfl,Gw.de ((v7.1,v7.2),([103]++(by8 ([(wr .u8 (wr .i64 (97 + (wr .i64 (c3.tdiv 26))))),(wr .u8 (wr .i64 (97 + (c3.tmod 26))))]:List Int))),())⟩) (by dsimp only; exact hv20) ?_;obtain ⟨e24,hp21,hb22,hT23⟩:=Ie (P:=Tryz.prog) (bytes:=112) (k:=9) (t:=42) (ty:=23) (xs:=([v20]:List Ah)) (n:=1) (QH (k:=9) (fun _=>⟨rfl,rfl,rfl⟩)) (Ht (c:=AK) (xs:=([v20]:List Ah)) hT17) rfl kr kr kr;refine AS AC 0 rfl (QW (AB rfl) rfl kr (QU (xs:=Lf 0 [AK.enc v20]) kr hb22)) ?_;by_cases hk29:(FP 112 (c5.length + ([v20]:List Ah).length))=true
   case neg=>rw [if_neg hk29] at h; cases h
   rw [if_pos hk29] at h
   have hT30:=((hT23.front 0 rfl).front 3 rfl)
   obtain ⟨e28,hp25,hb26,hT27⟩:=M6 (P:=Tryz.prog) (ty:=23) (ty2:=23) (bytes:=112) hT30 kr kr hk29;refine AS AC 0 rfl (UD (AB rfl) rfl kr kr (H0 (a:=e4) (b:=e24) kr kr hb26)) ?_;refine CA AC [(5,e28),p3,p2,p1] ?_;refine AH ?_;refine AZ AC 2 ?_;refine A3 rfl ?_
   have hT31:=((hT27.front 1 rfl).drop.front 1 rfl).drop
   exact Bd WkY.f1 (ih0 (wr .i64 (c3 + 1)) (c5++([v20]:List Ah)) _ h e28 hp25 hT31)
  ·rw [Ce hb6] at h
   refine SemY.exit ?_;have hq:=OI h; subst hq;exact ⟨rfl,_,⟨e4,hp,hT,rfl⟩,WkY.f1⟩
theorem GT {L:List Asn}{hp:Hp}(x0:(List (Int×Int))) (x1:Int) (r:(List Ah)) (h:Di x0 x1=some r) (hT:T hp (L)):SemY E0 ⟨none,false⟩ EW ⟨Fr 38 (BN 0 [.sl 2 (x0.map (CL (cdK .u8) (cdK .u8) (fun _=>rfl) (fun _=>rfl)).enc),.v (.int .i64 x1)]),hp⟩ fun x s'=>(x = .normal\/x = .ret)/\∃ ys,Eo E0.P s'.fr s'.hp Tryz.f20.results.toList=some ys/\(fun v h'=>∃ (z0:AV),v=z0/\T h' ((own_ (ocL 9 42 (ocV AK)) z0 r)::L)) (Es ys) s'.hp:=by
 unfold Di at h
 let p1:Nat×AV:=(1,.v (.int .i64 x1))
 let p2:Nat×AV:=(0,.sl 2 (x0.map (CL (cdK .u8) (cdK .u8) (fun _=>rfl) (fun _=>rfl)).enc))
 refine IP (JN (s1:=⟨Fr 38 [p2,p1],hp⟩) WkY.f1 ?_);refine A7 AC [p2,p1] ?_;refine A7 AC [p2,p1,(5,.e0)] ?_;refine AM ?_;refine AM ?_;refine AH ?_;refine AZ AC 2 ?_;refine AS AC 0 rfl (C5 (AB rfl) rfl (Dd (a:= .sl 2 (x0.map (CL (cdK .u8) (cdK .u8) (fun _=>rfl) (fun _=>rfl)).enc)) kr (C1 (el:=30) kr))) ?_;refine AZ AC 2 ?_;by_cases hk1:(DG 0 (mnI (x0.length:Int) x1) x0.length)=true
 case neg=>rw [if_neg hk1] at h; cases h
 rw [if_pos hk1] at h;refine AS AC 0 rfl (C5 (AB rfl) rfl (En (a:= .sl 2 (x0.map (CL (cdK .u8) (cdK .u8) (fun _=>rfl) (fun _=>rfl)).enc)) (l:=none) (u:=(some (.v (.int .i64 (mnI (x0.length:Int) x1))))) (m:=none) kr kr kr rfl (Jf (xs:=x0) (e:=(CL (cdK .u8) (cdK .u8) (fun _=>rfl) (fun _=>rfl)).enc) (k:=2) (el:=30) (lo:=0) (hi:=(mnI (x0.length:Int) x1)) kr kr rfl (GW (J0 hk1)) hk1))) ?_;refine AS AC 0 rfl (C5 (AB rfl) rfl (Dd (a:= .sl 2 (((x0.take (mnI (x0.length:Int) x1).toNat).drop (0:Int).toNat).map (CL (cdK .u8) (cdK .u8) (fun _=>rfl) (fun _=>rfl)).enc)) kr (C1 (el:=30) kr))) ?_;refine CA AC [(5,.e0),(13,.sl 2 (((x0.take (mnI (x0.length:Int) x1).toNat).drop (0:Int).toNat).map (CL (cdK .u8) (cdK .u8) (fun _=>rfl) (fun _=>rfl)).enc)),(14,.v (.int .i64 (((x0.take (mnI (x0.length:Int) x1).toNat).drop (0:Int).toNat).length:Int))),(15,.v (.int .i64 0))] ?_;refine A4 ?_
 have hT2:=(T.e0 (k:=9) (ty:=42) (o:=(ocV AK)) hT)
 refine SemY.loop (n:=100000) ?_;obtain ⟨r34,hr34,h⟩:=OB h;refine Cc (Bd WkY.f1 (Kq x0 x1 _ 0 ([]:(List Ah)) _ hr34 .e0 hp hT2)) ?_;rintro _ ⟨e35,hp36,hT37,rfl⟩;refine A7 AC [(4,e35)] ?_;refine SemY.ret ?_;have hq:=OI h; subst hq;exact ⟨⟨Fr 38 [(4,e35)],hp36⟩,WkY.f1,.inr rfl,[e35],kr,⟨e35,rfl,hT37⟩⟩
/- slices.Reverse[[]int,int] -/
noncomputable def EG:Code:=Bh Tryz.f45
def BF  : Nat->Int->Int->(List Int)->Option (((List Int)))
 | 0,_,_,_=>none
 | f + 1,c1,c2,c3 =>
  if (decide (c1 < c2))=true then
  (idx c3 c2).bind fun v5 =>
  (idx c3 c1).bind fun v6 =>
  (idx c3 c1).bind fun v7 =>
  (idx (c3.set c1.toNat v5) c2).bind fun v11 =>
  BF f (wr .i64 (c1 + 1)) (wr .i64 (c2 - 1)) ((c3.set c1.toNat v5).set c2.toNat v6)
  else
  some c3
def C7 (x0:(List Int)):Option ((List Int)) :=
 (BF  100000 0 (wr .i64 ((x0.length:Int) - 1)) x0).bind fun r16 =>
 some r16
theorem Hx {L:List Asn}(u0:AV):∀ (f:Nat) (c1:Int) (c2:Int) (c3:(List Int)) (r:((List Int))),BF  f c1 c2 c3=some r->∀ (hp:Hp),T hp ((own_ (ocL 1 3 (ocV cdI)) u0 c3)::L)->SemYN E0 ⟨none,false⟩ (pc EG [1,0,0]) f ⟨Fr 28 [(0,u0),(2,.v (.int .i64 c1)),(3,.v (.int .i64 c2))],hp⟩ (fun e s=>e=(.exit 0)/\∃ s2,(∃ (h':Hp),T h' ((own_ (ocL 1 3 (ocV cdI)) u0 r)::L)/\s2=⟨Fr 28 [],h'⟩)/\WkY E0 s s2):=by
 intro f;induction f with
 | zero=>intro c1 c2 c3 r h; cases h
 | succ f ih0 =>
  intro c1 c2 c3 r h  hp hT;unfold BF at h;refine Cm ?_;refine AM ?_;refine A7 AC [(0,u0),(2,.v (.int .i64 c1)),(3,.v (.int .i64 c2)),(9,.v (.bool (decide (c1 < c2))))] ?_;refine Bz (b:=(decide (c1 < c2))) kr (fun hb4=>?_) (fun hb4=>?_)
  ·rw [if_pos hb4] at h
   refine SemY.skip ?_;refine AM ?_;refine A4 ?_;refine I0 13 AC.mixed kr kr ?_;refine RunDT.q (x:=u0) rfl kr rfl (AB rfl) rfl kr kr ?_;refine RunDT.q (x:= .v (.int .i64 c1)) rfl kr rfl (AB rfl) rfl kr kr ?_;refine RunDT.q (x:=u0) rfl kr rfl (AB rfl) rfl kr kr ?_;refine RunDT.q (x:= .v (.int .i64 c2)) rfl kr rfl (AB rfl) rfl kr kr ?_;refine RunDT.q (x:=u0) rfl kr rfl (AB rfl) rfl kr kr ?_;refine RunDT.q (x:= .v (.int .i64 c2)) rfl kr rfl (AB rfl) rfl kr kr ?_;obtain ⟨v5,hv5,h⟩:=OB h;refine RunDT.q (x:=eAt u0 c2.toNat) rfl kr rfl (AB rfl) rfl (AN (a:=u0) (b:= .v (.int .i64 c2)) kr kr (O0 (bytes:=8) hT kr hv5)) kr ?_;refine RunDT.q (x:= .v (.int .i64 v5)) rfl kr rfl (AB rfl) rfl (G3 (p:=eAt u0 c2.toNat) kr (Jd (y:= .v (.int .i64 v5)) (m:=1) (g:=false) hT (Dh hv5).2 kr kr kr)) (JI hT (Dh hv5).2 kr) ?_;refine RunDT.q (x:=u0) rfl kr rfl (AB rfl) rfl kr kr ?_;refine RunDT.q (x:= .v (.int .i64 c1)) rfl kr rfl (AB rfl) rfl kr kr ?_;obtain ⟨v6,hv6,h⟩:=OB h;refine RunDT.q (x:=eAt u0 c1.toNat) rfl kr rfl (AB rfl) rfl (AN (a:=u0) (b:= .v (.int .i64 c1)) kr kr (O0 (bytes:=8) hT kr hv6)) kr ?_;refine RunDT.q (x:= .v (.int .i64 v6)) rfl kr rfl (AB rfl) rfl (G3 (p:=eAt u0 c1.toNat) kr (Jd (y:= .v (.int .i64 v6)) (m:=1) (g:=false) hT (Dh hv6).2 kr kr kr)) (JI hT (Dh hv6).2 kr) ?_;obtain ⟨v7,hv7,h⟩:=OB h;refine RunDT.q (x:=eAt u0 c1.toNat) rfl kr rfl (AB rfl) rfl (AN (a:=u0) (b:= .v (.int .i64 c1)) kr kr (O0 (bytes:=8) hT kr hv7)) kr ?_;refine Ot rfl ?_;obtain ⟨hp8,hs9,hT10⟩:=LL (P:=Tryz.prog) (ty:=3) (y:= .v (.int .i64 v5)) (v':=v5) hT (Dh hv7).2 kr kr kr;refine RunL.store AC (y:=eAt u0 c1.toNat) (z:= .v (.int .i64 v5)) rfl (AB rfl) kr kr hs9 ?_;obtain ⟨v11,hv11,h⟩:=OB h;refine AS AC 0 rfl (C5 (AB rfl) rfl (AN (a:=u0) (b:= .v (.int .i64 c2)) kr kr (O0 (bytes:=8) hT10 kr hv11))) ?_;obtain ⟨hp12,hs13,hT14⟩:=LL (P:=Tryz.prog) (ty:=3) (y:= .v (.int .i64 v6)) (v':=v6) hT10 (Dh hv11).2 kr kr kr;refine RunL.store AC (y:=eAt u0 c2.toNat) (z:= .v (.int .i64 v6)) rfl (AB rfl) kr kr hs13 ?_
   refine A3 rfl (SemY.fr (l':=[(0,u0),(2,.v (.int .i64 c1)),(3,.v (.int .i64 c2))]) kr ?_);refine AH ?_;refine AZ AC 6 ?_;refine A3 rfl ?_;exact Bd WkY.f1 (ih0 (wr .i64 (c1 + 1)) (wr .i64 (c2 - 1)) ((c3.set c1.toNat v5).set c2.toNat v6) _ h  hp12 hT14)
  ·rw [Ce hb4] at h
   refine SemY.exit ?_;have hq:=OI h; subst hq;exact ⟨rfl,_,⟨hp,hT,rfl⟩,WkY.f1⟩
theorem IN {L:List Asn}{hp:Hp}(u0:AV) (x0:(List Int)) (r:(List Int)) (h:C7 x0=some r) (hT:T hp ((own_ (ocL 1 3 (ocV cdI)) u0 x0)::L)):SemY E0 ⟨none,false⟩ EG ⟨Fr 28 (BN 0 [u0]),hp⟩ fun x s'=>(x = .normal\/x = .ret)/\∃ ys,Eo E0.P s'.fr s'.hp Tryz.f45.results.toList=some ys/\(fun v h'=>v = .tp []/\T h' ((own_ (ocL 1 3 (ocV cdI)) u0 r)::L)) (Es ys) s'.hp:=by
 unfold C7 at h;refine IP (JN (s1:=⟨Fr 28 [(0,u0)],hp⟩) WkY.f1 ?_);refine AM ?_;refine AH ?_;refine AZ AC 1 ?_;refine AS AC 0 rfl (C5 (AB rfl) rfl (Dd (a:=u0) kr (Nm hT kr))) ?_;refine CA AC [(0,u0),(2,.v (.int .i64 0)),(3,.v (.int .i64 (wr .i64 ((x0.length:Int) - 1))))] ?_;refine A4 ?_;refine SemY.loop (n:=100000) ?_;obtain ⟨r16,hr16,h⟩:=OB h;refine Cc (Bd WkY.f1 (Hx u0 _ 0 (wr .i64 ((x0.length:Int) - 1)) x0 _ hr16  hp hT)) ?_;rintro _ ⟨hp17,hT18,rfl⟩;have hq:=OI h; subst hq;exact ⟨⟨Fr 28 [],hp17⟩,WkY.f1,.inl rfl,[],kr,⟨rfl,hT18⟩⟩
/- trestle/trestlelaw03.CourtReverse -/
noncomputable def BG:Code:=Bh Tryz.f12
def BT (x0:(List (List (Int×Int×Int×Bool×Bool)))):Nat->Int->(List (List AD))->Option (((List (List AD))))
 | 0,_,_=>none
 | f + 1,c7,c9 =>
  if (decide (c7 < (((x0.take (mnI (x0.length:Int) 5).toNat).drop (0:Int).toNat).length:Int)))=true then
  (idx ((x0.take (mnI (x0.length:Int) 5).toNat).drop (0:Int).toNat) c7).bind fun v11 =>
  (Fv v11).bind fun v12 =>
  if (FP 24 (c9.length + ([v12]:List (List AD)).length))=true then
  BT x0 f (wr .i64 (c7 + 1)) (c9++([v12]:List (List AD)))
  else none
  else
  some c9
def BU (v1:(List Ah)):Nat->Int->(List Int)->Option (((List Int)))
 | 0,_,_=>none
 | f + 1,c36,c37 =>
  if (decide (c36 < ((List.replicate (v1.length:Int).toNat (0:Int)).length:Int)))=true then
  (idx c37 c36).bind fun v39 =>
  BU v1 f (wr .i64 (c36 + 1)) (c37.set c36.toNat c36)
  else
  some c37
def DO (v1:(List Ah)) (c52:(List Int)) (v54:(Int×Int)):Option (((List Int))) :=
 if (decide ((v1.length:Int) > 0))=true then
 if (v1.length:Int)=(0:Int) then none else
 if (v1.length:Int)=(0:Int) then none else
 (idx c52 ((wr .i64 v54.2).tmod (v1.length:Int))).bind fun v70 =>
 (idx c52 ((wr .i64 v54.1).tmod (v1.length:Int))).bind fun v72 =>
 (idx c52 ((wr .i64 v54.1).tmod (v1.length:Int))).bind fun v73 =>
 (idx (c52.set (((wr .i64 v54.1).tmod (v1.length:Int)).toNat) v70) ((wr .i64 v54.2).tmod (v1.length:Int))).bind fun v77 =>
 some ((c52.set (((wr .i64 v54.1).tmod (v1.length:Int)).toNat) v70).set (((wr .i64 v54.2).tmod (v1.length:Int)).toNat) v72)
 else
 some c52
def B7 (x2:(List (Int×Int))) (v1:(List Ah)):Nat->Int->(List Int)->Option (((List Int)))
 | 0,_,_=>none
 | f + 1,c51,c52 =>
  if (decide (c51 < (((x2.take (mnI (x2.length:Int) 12).toNat).drop (0:Int).toNat).length:Int)))=true then
  (idx ((x2.take (mnI (x2.length:Int) 12).toNat).drop (0:Int).toNat) c51).bind fun v54 =>
  (DO v1 c52 v54).bind fun r84 =>
  B7 x2 v1 f (wr .i64 (c51 + 1)) r84
  else
  some c52
def DP (c112:Int) (v117:Int):Option ((Int)) :=
 if (v117 != 0)=true then
 some (wr .i64 (c112 + 1))
 else
 some c112
def A9 (v1:(List Ah)) (v106:(List AD)) (c110:Int):Nat->Int->Int->Option ((Int))
 | 0,_,_=>none
 | f + 1,c112,c113 =>
  if (decide (c113 < c110))=true then
  (idx v1 c110).bind fun v115 =>
  (idx v1 c113).bind fun v116 =>
  (D6 v106 v115 v116 c110 c113).bind fun v117 =>
  (DP c112 v117).bind fun r120 =>
  A9 v1 v106 c110 f r120 (wr .i64 (c113 + 1))
  else
  some c112
def A8 (v1:(List Ah)) (v106:(List AD)):Nat->Int->Int->Option ((Int))
 | 0,_,_=>none
 | f + 1,c109,c110 =>
  if (decide (c110 < (v1.length:Int)))=true then
  (A9 v1 v106 c110 100000 c109 0).bind fun r124 =>
  A8 v1 v106 f r124 (wr .i64 (c110 + 1))
  else
  some c109
def Bt (v1:(List Ah)) (r27:(List (List AD))):Nat->Int->Int->Option ((Int))
 | 0,_,_=>none
 | f + 1,c103,c104 =>
  if (decide (c104 < (r27.length:Int)))=true then
  (idx r27 c104).bind fun v106 =>
  (A8 v1 v106 100000 c103 0).bind fun r128 =>
  Bt v1 r27 f r128 (wr .i64 (c104 + 1))
  else
  some c103
def BI (v1:(List Ah)):Nat->Int->(List Ah)->Option (((List Ah)))
 | 0,_,_=>none
 | f + 1,c156,c157 =>
  if (decide (c156 < (v1.length:Int)))=true then
  (idx c157 c156).bind fun v159 =>
  BI v1 f (wr .i64 (c156 + 1)) (c157.set c156.toNat (v159.1,v159.2.1,v159.2.2.1,(wr .i64 (1 + c156)),v159.2.2.2.2.1,v159.2.2.2.2.2.1,v159.2.2.2.2.2.2.1,v159.2.2.2.2.2.2.2.1,v159.2.2.2.2.2.2.2.2))
  else
  some c157
def Cz (x0:(List (List (Int×Int×Int×Bool×Bool)))) (x1:(List (Int×Int))) (x2:(List (Int×Int))):Option (Bool) :=
 (Di x1 8).bind fun v1 =>
 if (DG 0 (mnI (x0.length:Int) 5) x0.length)=true then
 (BT x0 100000 0 ([]:(List (List AD)))).bind fun r27 =>
 if (P0 8 (v1.length:Int))=true then
 (BU v1 100000 0 (List.replicate (v1.length:Int).toNat (0:Int))).bind fun r47 =>
 if (DG 0 (mnI (x2.length:Int) 12) x2.length)=true then
 (B7 x2 v1 100000 0 r47).bind fun r88 =>
 if (FP 8 r88.length)=true then
 (C7 r88).bind fun v99 =>
 (Bt v1 r27 100000 0 0).bind fun r133 =>
 (BI v1 100000 0 v1).bind fun r165 =>
 (Di x1 8).bind fun v168 =>
 (Bu r27 v168 r88).bind fun v172 =>
 (Di x1 8).bind fun v173 =>
 (Bu r27 v173 v99).bind fun v177 =>
 (if ((wr .i64 (v172 + v177))==r133)=true then (Cu ([([(2,[],false,[],0),(8,[],false,[],0)]:List AD),([(3,[],false,[],0),(8,[],false,[],0)]:List AD)]:List (List AD)) r165).bind fun v186 =>
 if ((v186.length:Int)==(wr .i64 ((wr .i64 ((r165.length:Int) * (wr .i64 ((r165.length:Int) - 1)))).tdiv 2)))=true then (Eg ([([(2,[],false,[],0),(8,[],false,[],0)]:List AD),([(3,[],false,[],0),(8,[],false,[],0)]:List AD)]:List (List AD)) r165).bind fun v187 =>
 if ((v187.length:Int)==0)=true then LJ.bind fun v188 =>
 some v188 else some false else some false else some false).bind fun j189 =>
 some j189
 else none
 else none
 else none
 else none
theorem JB {L:List Asn}(x0:(List (List (Int×Int×Int×Bool×Bool)))) (x1:(List (Int×Int))) (x2:(List (Int×Int))) (v1:(List Ah)) (e2:AV):∀ (f:Nat) (c7:Int) (c9:(List (List AD))) (r:((List (List AD)))),BT x0 f c7 c9=some r->∀ (e8:AV) (hp:Hp),T hp ((own_ (ocL 9 42 (ocV AK)) e2 v1)::(own_ (ocL 1 22 (ocV (cdL 5 AA))) e8 c9)::L)->SemYN E0 ⟨none,false⟩ (pc BG [1,1,1,0,1,0,0]) f ⟨Fr 190 [(1,.sl 2 (x1.map (CL (cdK .u8) (cdK .u8) (fun _=>rfl) (fun _=>rfl)).enc)),(2,.sl 2 (x2.map (CL (cdK .u8) (cdK .u8) (fun _=>rfl) (fun _=>rfl)).enc)),(7,e2),(8,e8),(32,.sl 1 (((x0.take (mnI (x0.length:Int) 5).toNat).drop (0:Int).toNat).map (cdL 5 (cdA (csC (cdK .u8) (csC (cdK .u8) (csC (cdK .u8) (csC cdB (csE cdB))))) (fun _=>rfl))).enc)),(33,.v (.int .i64 (((x0.take (mnI (x0.length:Int) 5).toNat).drop (0:Int).toNat).length:Int))),(34,.v (.int .i64 c7))],hp⟩ (fun e s=>e=(.exit 0)/\∃ s2,(∃ (e24:AV) (h':Hp),T h' ((own_ (ocL 9 42 (ocV AK)) e2 v1)::(own_ (ocL 1 22 (ocV (cdL 5 AA))) e24 r)::L)/\s2=⟨Fr 190 [(1,.sl 2 (x1.map (CL (cdK .u8) (cdK .u8) (fun _=>rfl) (fun _=>rfl)).enc)),(2,.sl 2 (x2.map (CL (cdK .u8) (cdK .u8) (fun _=>rfl) (fun _=>rfl)).enc)),(7,e2),(8,e24)],h'⟩)/\WkY E0 s s2):=by
 intro f;induction f with
 | zero=>intro c7 c9 r h; cases h
 | succ f ih0 =>
  intro c7 c9 r h e8 hp hT;unfold BT at h;refine Cm ?_
  let p1:Nat×AV:=(34,.v (.int .i64 c7))
  let p2:Nat×AV:=(33,.v (.int .i64 (((x0.take (mnI (x0.length:Int) 5).toNat).drop (0:Int).toNat).length:Int)))
  let p3:Nat×AV:=(32,.sl 1 (((x0.take (mnI (x0.length:Int) 5).toNat).drop (0:Int).toNat).map (cdL 5 (cdA (csC (cdK .u8) (csC (cdK .u8) (csC (cdK .u8) (csC cdB (csE cdB))))) (fun _=>rfl))).enc))
  let p4:Nat×AV:=(2,.sl 2 (x2.map (CL (cdK .u8) (cdK .u8) (fun _=>rfl) (fun _=>rfl)).enc))
  let p5:Nat×AV:=(1,.sl 2 (x1.map (CL (cdK .u8) (cdK .u8) (fun _=>rfl) (fun _=>rfl)).enc))
  refine A7 AC [p5,p4,(7,e2),(8,e8),p3,p2,p1,(35,.v (.bool (decide (c7 < (((x0.take (mnI (x0.length:Int) 5).toNat).drop (0:Int).toNat).length:Int)))))] ?_;refine AM ?_;refine Bz (b:=(decide (c7 < (((x0.take (mnI (x0.length:Int) 5).toNat).drop (0:Int).toNat).length:Int)))) kr (fun hb10=>?_) (fun hb10=>?_)
  ·rw [if_pos hb10] at h
   refine SemY.skip ?_;refine AM ?_;refine A4 ?_;refine AM ?_;refine AH ?_;obtain ⟨v11,hv11,h⟩:=OB h;refine AS AC 0 rfl (C5 (AB rfl) rfl (AN (a:= .sl 1 (((x0.take (mnI (x0.length:Int) 5).toNat).drop (0:Int).toNat).map (cdL 5 (cdA (csC (cdK .u8) (csC (cdK .u8) (csC (cdK .u8) (csC cdB (csE cdB))))) (fun _=>rfl))).enc)) (b:= .v (.int .i64 c7)) kr kr (Gi (e:=(cdL 5 (cdA (csC (cdK .u8) (csC (cdK .u8) (csC (cdK .u8) (csC cdB (csE cdB))))) (fun _=>rfl))).enc) (el:=28) (k:=1) (ki:= .i64) kr kr hv11))) ?_;refine CA AC [p5,p4,(7,e2),(8,e8),(10,.sl 5 (v11.map (cdA (csC (cdK .u8) (csC (cdK .u8) (csC (cdK .u8) (csC cdB (csE cdB))))) (fun _=>rfl)).enc)),p3,p2,p1] ?_;refine AH ?_;refine AZ AC 2 ?_;obtain ⟨v12,hv12,h⟩:=OB h;refine C8 (v:=v12) (caps:=[]) (xs:=[.sl 5 (v11.map (cdA (csC (cdK .u8) (csC (cdK .u8) (csC (cdK .u8) (csC cdB (csE cdB))))) (fun _=>rfl)).enc)]) (u:=(v11,())) rfl rfl Qq rfl (AB rfl) kr kr (Aw (Bx (c:=(cdL 5 (cdA (csC (cdK .u8) (csC (cdK .u8) (csC (cdK .u8) (csC cdB (csE cdB))))) (fun _=>rfl)))) (v:=v11)) SeesD.nil) (.inr ⟨by kernel_rfl,Hs.de (v11,())⟩) hv12 ?_;obtain ⟨e16,hp13,hb14,hT15⟩:=Ie (P:=Tryz.prog) (bytes:=24) (k:=1) (t:=22) (ty:=68) (xs:=([v12]:List (List AD))) (n:=1) (QH (k:=1) (fun _=>⟨rfl,rfl,rfl⟩)) (Ht (c:=(cdL 5 AA)) (xs:=([v12]:List (List AD))) hT) rfl kr kr kr;refine AS AC 0 rfl (QW (AB rfl) rfl kr (QU (xs:=Lf 0 [.sl 5 (v12.map AA.enc)]) kr hb14)) ?_;by_cases hk21:(FP 24 (c9.length + ([v12]:List (List AD)).length))=true
   case neg=>rw [if_neg hk21] at h; cases h
   rw [if_pos hk21] at h
   have hT22:=((hT15.front 0 rfl).front 2 rfl)
   obtain ⟨e20,hp17,hb18,hT19⟩:=M6 (P:=Tryz.prog) (ty:=68) (ty2:=68) (bytes:=24) hT22 kr kr hk21;refine AS AC 0 rfl (UD (AB rfl) rfl kr kr (H0 (a:=e8) (b:=e16) kr kr hb18)) ?_;refine CA AC [p5,p4,(7,e2),(8,e20),p3,p2,p1] ?_;refine AH ?_;refine AZ AC 2 ?_;refine A3 rfl ?_
   have hT23:=(hT19.front 1 rfl)
   exact Bd WkY.f1 (ih0 (wr .i64 (c7 + 1)) (c9++([v12]:List (List AD))) _ h e20 hp17 hT23)
  ·rw [Ce hb10] at h
   refine SemY.exit ?_;have hq:=OI h; subst hq;exact ⟨rfl,_,⟨e8,hp,hT,rfl⟩,WkY.f1⟩
theorem JC {L:List Asn}(v1:(List Ah)) (x1:(List (Int×Int))) (x2:(List (Int×Int))) (e2:AV) (e28:AV) (r27:(List (List AD))) (e35:AV):∀ (f:Nat) (c36:Int) (c37:(List Int)) (r:((List Int))),BU v1 f c36 c37=some r->∀ (hp:Hp),T hp ((own_ (ocL 9 42 (ocV AK)) e2 v1)::(own_ (ocL 1 22 (ocV (cdL 5 AA))) e28 r27)::(own_ (ocL 1 3 (ocV cdI)) e35 c37)::L)->SemYN E0 ⟨none,false⟩ (pc BG [1,1,1,1,1,0,1,0,0]) f ⟨Fr 190 [(1,.sl 2 (x1.map (CL (cdK .u8) (cdK .u8) (fun _=>rfl) (fun _=>rfl)).enc)),(2,.sl 2 (x2.map (CL (cdK .u8) (cdK .u8) (fun _=>rfl) (fun _=>rfl)).enc)),(7,e2),(8,e28),(11,e35),(48,.v (.int .i64 ((List.replicate (v1.length:Int).toNat (0:Int)).length:Int))),(49,.v (.int .i64 c36))],hp⟩ (fun e s=>e=(.exit 2)/\∃ s2,(∃ (h':Hp),T h' ((own_ (ocL 9 42 (ocV AK)) e2 v1)::(own_ (ocL 1 22 (ocV (cdL 5 AA))) e28 r27)::(own_ (ocL 1 3 (ocV cdI)) e35 r)::L)/\s2=⟨Fr 190 [(1,.sl 2 (x1.map (CL (cdK .u8) (cdK .u8) (fun _=>rfl) (fun _=>rfl)).enc)),(2,.sl 2 (x2.map (CL (cdK .u8) (cdK .u8) (fun _=>rfl) (fun _=>rfl)).enc)),(7,e2),(8,e28),(11,e35)],h'⟩)/\WkY E0 s s2):=by
 intro f;induction f with
 | zero=>intro c36 c37 r h; cases h
 | succ f ih0 =>
  intro c36 c37 r h  hp hT;unfold BU at h;refine Cm ?_
  let p1:Nat×AV:=(49,.v (.int .i64 c36))
  let p2:Nat×AV:=(48,.v (.int .i64 ((List.replicate (v1.length:Int).toNat (0:Int)).length:Int)))
  let p3:Nat×AV:=(2,.sl 2 (x2.map (CL (cdK .u8) (cdK .u8) (fun _=>rfl) (fun _=>rfl)).enc))
  let p4:Nat×AV:=(1,.sl 2 (x1.map (CL (cdK .u8) (cdK .u8) (fun _=>rfl) (fun _=>rfl)).enc))
  refine A7 AC [p4,p3,(7,e2),(8,e28),(11,e35),p2,p1,(50,.v (.bool (decide (c36 < ((List.replicate (v1.length:Int).toNat (0:Int)).length:Int)))))] ?_;refine AM ?_;refine Bz (b:=(decide (c36 < ((List.replicate (v1.length:Int).toNat (0:Int)).length:Int)))) kr (fun hb38=>?_) (fun hb38=>?_)
  ·rw [if_pos hb38] at h
   refine SemY.skip ?_;refine AM ?_;refine A4 ?_;refine A7 AC [p4,p3,(7,e2),(8,e28),(11,e35),(12,.v (.int .i64 c36)),p2,p1] ?_;refine AH ?_;refine AZ AC 3 ?_;obtain ⟨v39,hv39,h⟩:=OB h
   have hT40:=(hT.front 2 rfl)
   refine AS AC 0 rfl (C5 (AB rfl) rfl (AN (a:=e35) (b:= .v (.int .i64 c36)) kr kr (O0 (bytes:=8) hT40 kr hv39))) ?_;obtain ⟨hp41,hs42,hT43⟩:=LL (P:=Tryz.prog) (ty:=3) (y:= .v (.int .i64 c36)) (v':=c36) hT40 (Dh hv39).2 kr kr kr;refine RunL.store AC (y:=eAt e35 c36.toNat) (z:= .v (.int .i64 c36)) rfl (AB rfl) kr kr hs42 ?_;refine A3 rfl (SemY.fr (l':=[p4,p3,(7,e2),(8,e28),(11,e35),p2,p1]) kr ?_);refine AH ?_;refine AZ AC 2 ?_;refine A3 rfl ?_
   have hT44:=((hT43.front 2 rfl).front 2 rfl)
   exact Bd WkY.f1 (ih0 (wr .i64 (c36 + 1)) (c37.set c36.toNat c36) _ h  hp41 hT44)
  ·rw [Ce hb38] at h
   refine SemY.exit ?_;have hq:=OI h; subst hq;exact ⟨rfl,_,⟨hp,hT,rfl⟩,WkY.f1⟩
theorem I9 {L:List Asn}{hp:Hp}(v1:(List Ah)) (c52:(List Int)) (v54:(Int×Int)) (x1:(List (Int×Int))) (x2:(List (Int×Int))) (e2:AV) (e28:AV) (r27:(List (List AD))) (e35:AV) (c51:Int) (e55:AV) (r:((List Int))) (h:DO v1 c52 v54=some r) (hT:T hp ((own_ (ocL 9 42 (ocV AK)) e2 v1)::(cel e55 2 63 (.ag [.v (.int .u8 v54.1),.v (.int .u8 v54.2)]))::(own_ (ocL 1 22 (ocV (cdL 5 AA))) e28 r27)::(own_ (ocL 1 3 (ocV cdI)) e35 c52)::L)):SemY E0 ⟨none,false⟩ (pc BG [1,1,1,1,1,1,0,1,0,0,1,1,0,0,1,1]) ⟨Fr 190 [(1,.sl 2 (x1.map (CL (cdK .u8) (cdK .u8) (fun _=>rfl) (fun _=>rfl)).enc)),(7,e2),(8,e28),(11,e35),(14,e55),(61,.sl 2 (((x2.take (mnI (x2.length:Int) 12).toNat).drop (0:Int).toNat).map (CL (cdK .u8) (cdK .u8) (fun _=>rfl) (fun _=>rfl)).enc)),(62,.v (.int .i64 (((x2.take (mnI (x2.length:Int) 12).toNat).drop (0:Int).toNat).length:Int))),(63,.v (.int .i64 c51)),(69,.v (.bool (decide ((v1.length:Int) > 0))))],hp⟩ (fun e s=>e = .normal/\∃ s2,(∃ (h':Hp),T h' ((own_ (ocL 9 42 (ocV AK)) e2 v1)::(own_ (ocL 1 22 (ocV (cdL 5 AA))) e28 r27)::(own_ (ocL 1 3 (ocV cdI)) e35 r)::L)/\s2=⟨Fr 190 [(1,.sl 2 (x1.map (CL (cdK .u8) (cdK .u8) (fun _=>rfl) (fun _=>rfl)).enc)),(7,e2),(8,e28),(11,e35),(61,.sl 2 (((x2.take (mnI (x2.length:Int) 12).toNat).drop (0:Int).toNat).map (CL (cdK .u8) (cdK .u8) (fun _=>rfl) (fun _=>rfl)).enc)),(62,.v (.int .i64 (((x2.take (mnI (x2.length:Int) 12).toNat).drop (0:Int).toNat).length:Int))),(63,.v (.int .i64 c51))],h'⟩)/\WkY E0 s s2):=by
 unfold DO at h;refine Bz (b:=(decide ((v1.length:Int) > 0))) kr (fun hb63=>?_) (fun hb63=>?_)
 ·rw [if_pos hb63] at h
  refine AM ?_;refine I0 14 AC.mixed kr kr ?_
  have hT64:=(hT.front 1 rfl)
  refine RunDT.q (x:=M0 e55 0) rfl kr rfl (AB rfl) rfl (AN (a:=e55) (b:= .v (.int .i64 0)) kr kr (VU (s:=1) hT64 kr)) kr ?_;refine RunDT.q (x:= .v (.int .u8 v54.1)) rfl kr rfl (AB rfl) rfl (G3 (p:=M0 e55 0) kr (TX (off:=0) (y:= .v (.int .u8 v54.1)) (m:=1) (g:=false) hT64 kr kr kr)) (Ru (off:=0) (hT.front 1 rfl) kr) ?_;refine RunDT.q (x:= .v (.int .i64 (wr .i64 v54.1))) rfl kr rfl (AB rfl) rfl kr kr ?_;refine RunDT.q (x:=e2) rfl kr rfl (AB rfl) rfl kr kr ?_
  have hT65:=(hT64.front 1 rfl)
  refine RunDT.q (x:= .v (.int .i64 (v1.length:Int))) rfl kr rfl (AB rfl) rfl (Dd (a:=e2) kr (Nm hT65 kr)) kr ?_;by_cases hz66:(v1.length:Int)=(0:Int)
  ·rw [if_pos hz66] at h; cases h
  rw [if_neg hz66] at h;refine RunDT.q (x:= .v (.int .i64 ((wr .i64 v54.1).tmod (v1.length:Int)))) rfl kr rfl (AB rfl) rfl (Wi (a:= .v (.int .i64 (wr .i64 v54.1))) (b:= .v (.int .i64 (v1.length:Int))) kr kr (S2 hz66)) kr ?_
  have hT67:=(hT65.front 1 rfl)
  refine RunDT.q (x:=M0 e55 1) rfl kr rfl (AB rfl) rfl (AN (a:=e55) (b:= .v (.int .i64 1)) kr kr (VU (s:=1) hT67 kr)) kr ?_;refine RunDT.q (x:= .v (.int .u8 v54.2)) rfl kr rfl (AB rfl) rfl (G3 (p:=M0 e55 1) kr (TX (off:=1) (y:= .v (.int .u8 v54.2)) (m:=1) (g:=false) hT67 kr kr kr)) (Ru (off:=1) (hT.front 1 rfl) kr) ?_;refine RunDT.q (x:= .v (.int .i64 (wr .i64 v54.2))) rfl kr rfl (AB rfl) rfl kr kr ?_;refine RunDT.q (x:=e2) rfl kr rfl (AB rfl) rfl kr kr ?_
  have hT68:=(hT67.front 1 rfl)
  refine RunDT.q (x:= .v (.int .i64 (v1.length:Int))) rfl kr rfl (AB rfl) rfl (Dd (a:=e2) kr (Nm hT68 kr)) kr ?_;by_cases hz69:(v1.length:Int)=(0:Int)
  ·rw [if_pos hz69] at h; cases h
  rw [if_neg hz69] at h;refine RunDT.q (x:= .v (.int .i64 ((wr .i64 v54.2).tmod (v1.length:Int)))) rfl kr rfl (AB rfl) rfl (Wi (a:= .v (.int .i64 (wr .i64 v54.2))) (b:= .v (.int .i64 (v1.length:Int))) kr kr (S2 hz69)) kr ?_;refine RunDT.q (x:= .v (.int .i64 ((wr .i64 v54.1).tmod (v1.length:Int)))) rfl kr rfl (AB rfl) rfl kr kr ?_;refine RunDT.q (x:= .v (.int .i64 ((wr .i64 v54.2).tmod (v1.length:Int)))) rfl kr rfl (AB rfl) rfl kr kr ?_;refine RunDT.done rfl (SemY.fr (l':=[(1,.sl 2 (x1.map (CL (cdK .u8) (cdK .u8) (fun _=>rfl) (fun _=>rfl)).enc)),(7,e2),(8,e28),(11,e35),(15,.v (.int .i64 ((wr .i64 v54.1).tmod (v1.length:Int)))),(16,.v (.int .i64 ((wr .i64 v54.2).tmod (v1.length:Int)))),(61,.sl 2 (((x2.take (mnI (x2.length:Int) 12).toNat).drop (0:Int).toNat).map (CL (cdK .u8) (cdK .u8) (fun _=>rfl) (fun _=>rfl)).enc)),(62,.v (.int .i64 (((x2.take (mnI (x2.length:Int) 12).toNat).drop (0:Int).toNat).length:Int))),(63,.v (.int .i64 c51))]) kr ?_);refine I0 13 AC.mixed kr kr ?_;refine RunDT.q (x:=e35) rfl kr rfl (AB rfl) rfl kr kr ?_;refine RunDT.q (x:= .v (.int .i64 ((wr .i64 v54.1).tmod (v1.length:Int)))) rfl kr rfl (AB rfl) rfl kr kr ?_;refine RunDT.q (x:=e35) rfl kr rfl (AB rfl) rfl kr kr ?_;refine RunDT.q (x:= .v (.int .i64 ((wr .i64 v54.2).tmod (v1.length:Int)))) rfl kr rfl (AB rfl) rfl kr kr ?_;refine RunDT.q (x:=e35) rfl kr rfl (AB rfl) rfl kr kr ?_;refine RunDT.q (x:= .v (.int .i64 ((wr .i64 v54.2).tmod (v1.length:Int)))) rfl kr rfl (AB rfl) rfl kr kr ?_;obtain ⟨v70,hv70,h⟩:=OB h
  have hT71:=(hT68.front 3 rfl)
  refine RunDT.q (x:=eAt e35 (((wr .i64 v54.2).tmod (v1.length:Int)).toNat)) rfl kr rfl (AB rfl) rfl (AN (a:=e35) (b:= .v (.int .i64 ((wr .i64 v54.2).tmod (v1.length:Int)))) kr kr (O0 (bytes:=8) hT71 kr hv70)) kr ?_;refine RunDT.q (x:= .v (.int .i64 v70)) rfl kr rfl (AB rfl) rfl (G3 (p:=eAt e35 (((wr .i64 v54.2).tmod (v1.length:Int)).toNat)) kr (Jd (y:= .v (.int .i64 v70)) (m:=1) (g:=false) hT71 (Dh hv70).2 kr kr kr)) (JI (hT68.front 3 rfl) (Dh hv70).2 kr) ?_;refine RunDT.q (x:=e35) rfl kr rfl (AB rfl) rfl kr kr ?_;refine RunDT.q (x:= .v (.int .i64 ((wr .i64 v54.1).tmod (v1.length:Int)))) rfl kr rfl (AB rfl) rfl kr kr ?_;obtain ⟨v72,hv72,h⟩:=OB h;refine RunDT.q (x:=eAt e35 (((wr .i64 v54.1).tmod (v1.length:Int)).toNat)) rfl kr rfl (AB rfl) rfl (AN (a:=e35) (b:= .v (.int .i64 ((wr .i64 v54.1).tmod (v1.length:Int)))) kr kr (O0 (bytes:=8) hT71 kr hv72)) kr ?_;refine RunDT.q (x:= .v (.int .i64 v72)) rfl kr rfl (AB rfl) rfl (G3 (p:=eAt e35 (((wr .i64 v54.1).tmod (v1.length:Int)).toNat)) kr (Jd (y:= .v (.int .i64 v72)) (m:=1) (g:=false) hT71 (Dh hv72).2 kr kr kr)) (JI (hT68.front 3 rfl) (Dh hv72).2 kr) ?_;obtain ⟨v73,hv73,h⟩:=OB h;refine RunDT.q (x:=eAt e35 (((wr .i64 v54.1).tmod (v1.length:Int)).toNat)) rfl kr rfl (AB rfl) rfl (AN (a:=e35) (b:= .v (.int .i64 ((wr .i64 v54.1).tmod (v1.length:Int)))) kr kr (O0 (bytes:=8) hT71 kr hv73)) kr ?_;refine Ot rfl ?_;obtain ⟨hp74,hs75,hT76⟩:=LL (P:=Tryz.prog) (ty:=3) (y:= .v (.int .i64 v70)) (v':=v70) hT71 (Dh hv73).2 kr kr kr;refine RunL.store AC (y:=eAt e35 (((wr .i64 v54.1).tmod (v1.length:Int)).toNat)) (z:= .v (.int .i64 v70)) rfl (AB rfl) kr kr hs75 ?_;obtain ⟨v77,hv77,h⟩:=OB h;refine AS AC 0 rfl (C5 (AB rfl) rfl (AN (a:=e35) (b:= .v (.int .i64 ((wr .i64 v54.2).tmod (v1.length:Int)))) kr kr (O0 (bytes:=8) hT76 kr hv77))) ?_;obtain ⟨hp78,hs79,hT80⟩:=LL (P:=Tryz.prog) (ty:=3) (y:= .v (.int .i64 v72)) (v':=v72) hT76 (Dh hv77).2 kr kr kr
  refine RunL.store AC (y:=eAt e35 (((wr .i64 v54.2).tmod (v1.length:Int)).toNat)) (z:= .v (.int .i64 v72)) rfl (AB rfl) kr kr hs79 ?_;refine A3 rfl ?_;have hq:=OI h; subst hq
  have hT82:=(((hT80.front 2 rfl).drop.front 2 rfl).front 2 rfl)
  exact ⟨rfl,_,⟨hp78,hT82,rfl⟩,WkY.f1⟩
 ·rw [Ce hb63] at h
  refine SemY.skip ?_;have hq:=OI h; subst hq
  have hT83:=(hT.front 1 rfl).drop
  exact ⟨rfl,_,⟨hp,hT83,rfl⟩,WkY.f1⟩
theorem JD {L:List Asn}(x2:(List (Int×Int))) (v1:(List Ah)) (x1:(List (Int×Int))) (e2:AV) (e28:AV) (r27:(List (List AD))) (e35:AV):∀ (f:Nat) (c51:Int) (c52:(List Int)) (r:((List Int))),B7 x2 v1 f c51 c52=some r->∀ (hp:Hp),T hp ((own_ (ocL 9 42 (ocV AK)) e2 v1)::(own_ (ocL 1 22 (ocV (cdL 5 AA))) e28 r27)::(own_ (ocL 1 3 (ocV cdI)) e35 c52)::L)->SemYN E0 ⟨none,false⟩ (pc BG [1,1,1,1,1,1,0,1,0,0]) f ⟨Fr 190 [(1,.sl 2 (x1.map (CL (cdK .u8) (cdK .u8) (fun _=>rfl) (fun _=>rfl)).enc)),(7,e2),(8,e28),(11,e35),(61,.sl 2 (((x2.take (mnI (x2.length:Int) 12).toNat).drop (0:Int).toNat).map (CL (cdK .u8) (cdK .u8) (fun _=>rfl) (fun _=>rfl)).enc)),(62,.v (.int .i64 (((x2.take (mnI (x2.length:Int) 12).toNat).drop (0:Int).toNat).length:Int))),(63,.v (.int .i64 c51))],hp⟩ (fun e s=>e=(.exit 4)/\∃ s2,(∃ (h':Hp),T h' ((own_ (ocL 9 42 (ocV AK)) e2 v1)::(own_ (ocL 1 22 (ocV (cdL 5 AA))) e28 r27)::(own_ (ocL 1 3 (ocV cdI)) e35 r)::L)/\s2=⟨Fr 190 [(1,.sl 2 (x1.map (CL (cdK .u8) (cdK .u8) (fun _=>rfl) (fun _=>rfl)).enc)),(7,e2),(8,e28),(11,e35)],h'⟩)/\WkY E0 s s2):=by
 intro f;induction f with
 | zero=>intro c51 c52 r h; cases h
 | succ f ih0 =>
  intro c51 c52 r h  hp hT;unfold B7 at h;refine Cm ?_
  let p1:Nat×AV:=(63,.v (.int .i64 c51))
  let p2:Nat×AV:=(62,.v (.int .i64 (((x2.take (mnI (x2.length:Int) 12).toNat).drop (0:Int).toNat).length:Int)))
  let p3:Nat×AV:=(61,.sl 2 (((x2.take (mnI (x2.length:Int) 12).toNat).drop (0:Int).toNat).map (CL (cdK .u8) (cdK .u8) (fun _=>rfl) (fun _=>rfl)).enc))
  let p4:Nat×AV:=(1,.sl 2 (x1.map (CL (cdK .u8) (cdK .u8) (fun _=>rfl) (fun _=>rfl)).enc))
  refine A7 AC [p4,(7,e2),(8,e28),(11,e35),p3,p2,p1,(64,.v (.bool (decide (c51 < (((x2.take (mnI (x2.length:Int) 12).toNat).drop (0:Int).toNat).length:Int)))))] ?_;refine AM ?_;refine Bz (b:=(decide (c51 < (((x2.take (mnI (x2.length:Int) 12).toNat).drop (0:Int).toNat).length:Int)))) kr (fun hb53=>?_) (fun hb53=>?_)
  ·rw [if_pos hb53] at h
   refine SemY.skip ?_;refine AM ?_;refine A4 ?_;refine AM ?_;refine AH ?_;obtain ⟨v54,hv54,h⟩:=OB h;refine AS AC 0 rfl (C5 (AB rfl) rfl (AN (a:= .sl 2 (((x2.take (mnI (x2.length:Int) 12).toNat).drop (0:Int).toNat).map (CL (cdK .u8) (cdK .u8) (fun _=>rfl) (fun _=>rfl)).enc)) (b:= .v (.int .i64 c51)) kr kr (Gi (e:=(CL (cdK .u8) (cdK .u8) (fun _=>rfl) (fun _=>rfl)).enc) (el:=63) (k:=2) (ki:= .i64) kr kr hv54))) ?_;refine AZ AC 1 ?_;obtain ⟨e55,hp56,hb57,hT58⟩:=NN (t:=63) (a:= .ag [.v (.int .u8 0),.v (.int .u8 0)]) hT kr;refine AS AC 0 rfl (QW (AB rfl) rfl kr (PT (z:= .ag [.v (.int .u8 0),.v (.int .u8 0)]) kr hb57)) ?_;obtain ⟨hp59,hs60,hT61⟩:=Pk (P:=Tryz.prog) (ty:=63) (y:= .ag [.v (.int .u8 v54.1),.v (.int .u8 v54.2)]) (a':= .ag [.v (.int .u8 v54.1),.v (.int .u8 v54.2)]) hT58 kr kr kr;refine RunL.store AC (y:=e55) (z:= .ag [.v (.int .u8 v54.1),.v (.int .u8 v54.2)]) rfl (AB rfl) kr kr hs60 ?_;refine A3 rfl (SemY.fr (l':=[p4,(7,e2),(8,e28),(11,e35),(14,e55),p3,p2,p1]) kr ?_);refine AM ?_;refine AH ?_;refine AZ AC 1 ?_
   have hT62:=(hT61.front 1 rfl)
   refine AS AC 0 rfl (C5 (AB rfl) rfl (Dd (a:=e2) kr (Nm hT62 kr))) ?_;refine CA AC [p4,(7,e2),(8,e28),(11,e35),(14,e55),p3,p2,p1,(69,.v (.bool (decide ((v1.length:Int) > 0))))] ?_;obtain ⟨r84,hr84,h⟩:=OB h;refine H5 (I9 v1 c52 v54 x1 x2 e2 e28 r27 e35 c51 e55 _ hr84 hT62) ?_;rintro _ ⟨hp85,hT86,rfl⟩;refine AH ?_;refine AZ AC 2 ?_;refine A3 rfl ?_;exact Bd WkY.f1 (ih0 (wr .i64 (c51 + 1)) r84 _ h  hp85 hT86)
  ·rw [Ce hb53] at h
   refine SemY.exit ?_;have hq:=OI h; subst hq;exact ⟨rfl,_,⟨hp,hT,rfl⟩,WkY.f1⟩
theorem JA {L:List Asn}{hp:Hp}(c112:Int) (v117:Int) (x1:(List (Int×Int))) (v1:(List Ah)) (e2:AV) (e28:AV) (r27:(List (List AD))) (r88:(List Int)) (e96:AV) (v99:(List Int)) (c104:Int) (v106:(List AD)) (c110:Int) (c113:Int) (r:(Int)) (h:DP c112 v117=some r) (hT:T hp ((own_ (ocL 9 42 (ocV AK)) e2 v1)::(own_ (ocL 1 22 (ocV (cdL 5 AA))) e28 r27)::(own_ (ocL 1 3 (ocV cdI)) e96 v99)::L)):SemY E0 ⟨none,false⟩ (pc BG [1,1,1,1,1,1,1,1,1,1,0,1,0,0,1,1,0,0,1,1,0,0,1,1,0,0,1,1,0,0,1,1,0,0,1,1]) ⟨Fr 190 [(1,.sl 2 (x1.map (CL (cdK .u8) (cdK .u8) (fun _=>rfl) (fun _=>rfl)).enc)),(7,e2),(8,e28),(11,.sl 1 (r88.map cdI.enc)),(17,e96),(18,.v (.int .i64 c112)),(20,.sl 5 (v106.map AA.enc)),(21,.v (.int .i64 c110)),(101,e28),(102,.v (.int .i64 (r27.length:Int))),(103,.v (.int .i64 c104)),(108,.v (.int .i64 (v1.length:Int))),(109,.v (.int .i64 c110)),(112,.v (.int .i64 c110)),(113,.v (.int .i64 c113)),(128,.v (.bool (v117 != 0)))],hp⟩ (fun e s=>e = .normal/\∃ s2,(∃ (h':Hp),T h' ((own_ (ocL 9 42 (ocV AK)) e2 v1)::(own_ (ocL 1 22 (ocV (cdL 5 AA))) e28 r27)::(own_ (ocL 1 3 (ocV cdI)) e96 v99)::L)/\s2=⟨Fr 190 [(1,.sl 2 (x1.map (CL (cdK .u8) (cdK .u8) (fun _=>rfl) (fun _=>rfl)).enc)),(7,e2),(8,e28),(11,.sl 1 (r88.map cdI.enc)),(17,e96),(18,.v (.int .i64 r)),(20,.sl 5 (v106.map AA.enc)),(21,.v (.int .i64 c110)),(101,e28),(102,.v (.int .i64 (r27.length:Int))),(103,.v (.int .i64 c104)),(108,.v (.int .i64 (v1.length:Int))),(109,.v (.int .i64 c110)),(112,.v (.int .i64 c110)),(113,.v (.int .i64 c113))],h'⟩)/\WkY E0 s s2):=by
 unfold DP at h;refine Bz (b:=(v117 != 0)) kr (fun hb118=>?_) (fun hb118=>?_)
 ·rw [if_pos hb118] at h
  refine AH ?_;refine AZ AC 3 ?_;refine A3 rfl ?_;have hq:=OI h; subst hq;exact ⟨rfl,_,⟨hp,hT,rfl⟩,WkY.f1⟩
 ·rw [Ce hb118] at h
  refine SemY.skip ?_;have hq:=OI h; subst hq;exact ⟨rfl,_,⟨hp,hT,rfl⟩,WkY.f1⟩
theorem JG {L:List Asn}(v1:(List Ah)) (v106:(List AD)) (c110:Int) (x1:(List (Int×Int))) (e2:AV) (e28:AV) (r27:(List (List AD))) (r88:(List Int)) (e96:AV) (v99:(List Int)) (c104:Int):∀ (f:Nat) (c112:Int) (c113:Int) (r:(Int)),A9 v1 v106 c110 f c112 c113=some r->∀ (hp:Hp),T hp ((own_ (ocL 9 42 (ocV AK)) e2 v1)::(own_ (ocL 1 22 (ocV (cdL 5 AA))) e28 r27)::(own_ (ocL 1 3 (ocV cdI)) e96 v99)::L)->SemYN E0 ⟨none,false⟩ (pc BG [1,1,1,1,1,1,1,1,1,1,0,1,0,0,1,1,0,0,1,1,0,0,1,1,0,0,1,1,0,0]) f ⟨Fr 190 [(1,.sl 2 (x1.map (CL (cdK .u8) (cdK .u8) (fun _=>rfl) (fun _=>rfl)).enc)),(7,e2),(8,e28),(11,.sl 1 (r88.map cdI.enc)),(17,e96),(18,.v (.int .i64 c112)),(20,.sl 5 (v106.map AA.enc)),(21,.v (.int .i64 c110)),(101,e28),(102,.v (.int .i64 (r27.length:Int))),(103,.v (.int .i64 c104)),(108,.v (.int .i64 (v1.length:Int))),(109,.v (.int .i64 c110)),(112,.v (.int .i64 c110)),(113,.v (.int .i64 c113))],hp⟩ (fun e s=>e=(.exit 10)/\∃ s2,(∃ (h':Hp),T h' ((own_ (ocL 9 42 (ocV AK)) e2 v1)::(own_ (ocL 1 22 (ocV (cdL 5 AA))) e28 r27)::(own_ (ocL 1 3 (ocV cdI)) e96 v99)::L)/\s2=⟨Fr 190 [(1,.sl 2 (x1.map (CL (cdK .u8) (cdK .u8) (fun _=>rfl) (fun _=>rfl)).enc)),(7,e2),(8,e28),(11,.sl 1 (r88.map cdI.enc)),(17,e96),(18,.v (.int .i64 r)),(20,.sl 5 (v106.map AA.enc)),(101,e28),(102,.v (.int .i64 (r27.length:Int))),(103,.v (.int .i64 c104)),(108,.v (.int .i64 (v1.length:Int))),(109,.v (.int .i64 c110))],h'⟩)/\WkY E0 s s2):=by
 intro f;induction f with
 | zero=>intro c112 c113 r h; cases h
 | succ f ih0 =>
  intro c112 c113 r h  hp hT;unfold A9 at h;refine Cm ?_
  let p1:Nat×AV:=(113,.v (.int .i64 c113))
  let p2:Nat×AV:=(112,.v (.int .i64 c110))
  let p3:Nat×AV:=(109,.v (.int .i64 c110))
  let p4:Nat×AV:=(108,.v (.int .i64 (v1.length:Int)))
  let p5:Nat×AV:=(103,.v (.int .i64 c104))
  let p6:Nat×AV:=(102,.v (.int .i64 (r27.length:Int)))
  let p7:Nat×AV:=(21,.v (.int .i64 c110))
  let p8:Nat×AV:=(20,.sl 5 (v106.map AA.enc))
  let p9:Nat×AV:=(18,.v (.int .i64 c112))
  let p10:Nat×AV:=(11,.sl 1 (r88.map cdI.enc))
  let p11:Nat×AV:=(1,.sl 2 (x1.map (CL (cdK .u8) (cdK .u8) (fun _=>rfl) (fun _=>rfl)).enc))
  refine A7 AC [p11,(7,e2),(8,e28),p10,(17,e96),p9,p8,p7,(101,e28),p6,p5,p4,p3,p2,p1,(114,.v (.bool (decide (c113 < c110))))] ?_;refine AM ?_;refine Bz (b:=(decide (c113 < c110))) kr (fun hb114=>?_) (fun hb114=>?_)
  ·rw [if_pos hb114] at h
   refine SemY.skip ?_;refine AM ?_;refine A4 ?_;refine A7 AC [p11,(7,e2),(8,e28),p10,(17,e96),p9,p8,p7,(22,.v (.int .i64 c113)),(101,e28),p6,p5,p4,p3,p2,p1] ?_;refine AM ?_;refine I0 13 AC.mixed kr kr ?_;refine RunDT.q (x:= .sl 5 (v106.map AA.enc)) rfl kr rfl (AB rfl) rfl kr kr ?_;refine RunDT.q (x:=e2) rfl kr rfl (AB rfl) rfl kr kr ?_;refine RunDT.q (x:= .v (.int .i64 c110)) rfl kr rfl (AB rfl) rfl kr kr ?_;obtain ⟨v115,hv115,h⟩:=OB h;refine RunDT.q (x:=eAt e2 c110.toNat) rfl kr rfl (AB rfl) rfl (AN (a:=e2) (b:= .v (.int .i64 c110)) kr kr (O0 (bytes:=112) hT kr hv115)) kr ?_;refine RunDT.q (x:=(AK.enc v115)) rfl kr rfl (AB rfl) rfl (G3 (p:=eAt e2 c110.toNat) kr (Jd (y:=(AK.enc v115)) (m:=9) (g:=true) hT (Dh hv115).2 kr kr kr)) (JI hT (Dh hv115).2 kr) ?_;refine RunDT.q (x:=e2) rfl kr rfl (AB rfl) rfl kr kr ?_;refine RunDT.q (x:= .v (.int .i64 c113)) rfl kr rfl (AB rfl) rfl kr kr ?_;obtain ⟨v116,hv116,h⟩:=OB h;refine RunDT.q (x:=eAt e2 c113.toNat) rfl kr rfl (AB rfl) rfl (AN (a:=e2) (b:= .v (.int .i64 c113)) kr kr (O0 (bytes:=112) hT kr hv116)) kr ?_;refine RunDT.q (x:=(AK.enc v116)) rfl kr rfl (AB rfl) rfl (G3 (p:=eAt e2 c113.toNat) kr (Jd (y:=(AK.enc v116)) (m:=9) (g:=true) hT (Dh hv116).2 kr kr kr)) (JI hT (Dh hv116).2 kr) ?_;refine RunDT.q (x:= .v (.int .i64 c110)) rfl kr rfl (AB rfl) rfl kr kr ?_;refine RunDT.q (x:= .v (.int .i64 c113)) rfl kr rfl (AB rfl) rfl kr kr ?_;obtain ⟨v117,hv117,h⟩:=OB h;refine NL (v:=v117) (caps:=[]) (xs:=[.sl 5 (v106.map AA.enc),AK.enc v115,AK.enc v116,.v (.int .i64 c110),.v (.int .i64 c113)]) (u:=(v106,v115,v116,c110,c113,())) rfl rfl OL rfl (AB rfl) kr kr (Aw (Bx (c:=(cdL 5 AA)) (v:=v106)) (Aw (Bx (c:=AK) (v:=v115)) (Aw (Bx (c:=AK) (v:=v116)) (Aw (Bx (c:=cdI) (v:=c110)) (Aw (Bx (c:=cdI) (v:=c113)) SeesD.nil))))) kr hv117 ?_;refine RunDT.q (x:= .v (.bool (v117 != 0))) rfl kr rfl (AB rfl) rfl kr kr ?_;refine RunDT.done rfl (SemY.fr (l':=[p11,(7,e2),(8,e28),p10,(17,e96),p9,p8,p7,(101,e28),p6,p5,p4,p3,p2,p1,(128,.v (.bool (v117 != 0)))]) kr ?_)
   obtain ⟨r120,hr120,h⟩:=OB h;refine H5 (JA c112 v117 x1 v1 e2 e28 r27 r88 e96 v99 c104 v106 c110 c113 _ hr120 hT) ?_;rintro _ ⟨hp121,hT122,rfl⟩;refine AH ?_;refine AZ AC 2 ?_;refine A3 rfl ?_;exact Bd WkY.f1 (ih0 r120 (wr .i64 (c113 + 1)) _ h  hp121 hT122)
  ·rw [Ce hb114] at h
   refine SemY.exit ?_;have hq:=OI h; subst hq;exact ⟨rfl,_,⟨hp,hT,rfl⟩,WkY.f1⟩
theorem JF {L:List Asn}(v1:(List Ah)) (v106:(List AD)) (x1:(List (Int×Int))) (e2:AV) (e28:AV) (r27:(List (List AD))) (r88:(List Int)) (e96:AV) (v99:(List Int)) (c104:Int):∀ (f:Nat) (c109:Int) (c110:Int) (r:(Int)),A8 v1 v106 f c109 c110=some r->∀ (hp:Hp),T hp ((own_ (ocL 9 42 (ocV AK)) e2 v1)::(own_ (ocL 1 22 (ocV (cdL 5 AA))) e28 r27)::(own_ (ocL 1 3 (ocV cdI)) e96 v99)::L)->SemYN E0 ⟨none,false⟩ (pc BG [1,1,1,1,1,1,1,1,1,1,0,1,0,0,1,1,0,0,1,1,0,0]) f ⟨Fr 190 [(1,.sl 2 (x1.map (CL (cdK .u8) (cdK .u8) (fun _=>rfl) (fun _=>rfl)).enc)),(7,e2),(8,e28),(11,.sl 1 (r88.map cdI.enc)),(17,e96),(18,.v (.int .i64 c109)),(20,.sl 5 (v106.map AA.enc)),(101,e28),(102,.v (.int .i64 (r27.length:Int))),(103,.v (.int .i64 c104)),(108,.v (.int .i64 (v1.length:Int))),(109,.v (.int .i64 c110))],hp⟩ (fun e s=>e=(.exit 8)/\∃ s2,(∃ (h':Hp),T h' ((own_ (ocL 9 42 (ocV AK)) e2 v1)::(own_ (ocL 1 22 (ocV (cdL 5 AA))) e28 r27)::(own_ (ocL 1 3 (ocV cdI)) e96 v99)::L)/\s2=⟨Fr 190 [(1,.sl 2 (x1.map (CL (cdK .u8) (cdK .u8) (fun _=>rfl) (fun _=>rfl)).enc)),(7,e2),(8,e28),(11,.sl 1 (r88.map cdI.enc)),(17,e96),(18,.v (.int .i64 r)),(101,e28),(102,.v (.int .i64 (r27.length:Int))),(103,.v (.int .i64 c104))],h'⟩)/\WkY E0 s s2):=by
 intro f;induction f with
 | zero=>intro c109 c110 r h; cases h
 | succ f ih0 =>
  intro c109 c110 r h  hp hT;unfold A8 at h;refine Cm ?_
  let p1:Nat×AV:=(109,.v (.int .i64 c110))
  let p2:Nat×AV:=(108,.v (.int .i64 (v1.length:Int)))
  let p3:Nat×AV:=(103,.v (.int .i64 c104))
  let p4:Nat×AV:=(102,.v (.int .i64 (r27.length:Int)))
  let p5:Nat×AV:=(20,.sl 5 (v106.map AA.enc))
  let p6:Nat×AV:=(18,.v (.int .i64 c109))
  let p7:Nat×AV:=(11,.sl 1 (r88.map cdI.enc))
  let p8:Nat×AV:=(1,.sl 2 (x1.map (CL (cdK .u8) (cdK .u8) (fun _=>rfl) (fun _=>rfl)).enc))
  refine A7 AC [p8,(7,e2),(8,e28),p7,(17,e96),p6,p5,(101,e28),p4,p3,p2,p1,(110,.v (.bool (decide (c110 < (v1.length:Int)))))] ?_;refine AM ?_;refine Bz (b:=(decide (c110 < (v1.length:Int)))) kr (fun hb111=>?_) (fun hb111=>?_)
  ·rw [if_pos hb111] at h
   refine SemY.skip ?_;refine AM ?_;refine A4 ?_;refine A7 AC [p8,(7,e2),(8,e28),p7,(17,e96),p6,p5,(21,.v (.int .i64 c110)),(101,e28),p4,p3,p2,p1] ?_;refine A7 AC [p8,(7,e2),(8,e28),p7,(17,e96),p6,p5,(21,.v (.int .i64 c110)),(101,e28),p4,p3,p2,p1,(112,.v (.int .i64 c110)),(113,.v (.int .i64 0))] ?_;refine A4 ?_;refine SemY.loop (n:=100000) ?_;obtain ⟨r124,hr124,h⟩:=OB h;refine Cc (Bd WkY.f1 (JG v1 v106 c110 x1 e2 e28 r27 r88 e96 v99 c104 _ c109 0 _ hr124  hp hT)) ?_;rintro _ ⟨hp125,hT126,rfl⟩;refine AH ?_;refine AZ AC 2 ?_;refine A3 rfl ?_;exact Bd WkY.f1 (ih0 r124 (wr .i64 (c110 + 1)) _ h  hp125 hT126)
  ·rw [Ce hb111] at h
   refine SemY.exit ?_;have hq:=OI h; subst hq;exact ⟨rfl,_,⟨hp,hT,rfl⟩,WkY.f1⟩
theorem JE {L:List Asn}(v1:(List Ah)) (r27:(List (List AD))) (x1:(List (Int×Int))) (e2:AV) (e28:AV) (r88:(List Int)) (e96:AV) (v99:(List Int)):∀ (f:Nat) (c103:Int) (c104:Int) (r:(Int)),Bt v1 r27 f c103 c104=some r->∀ (hp:Hp),T hp ((own_ (ocL 9 42 (ocV AK)) e2 v1)::(own_ (ocL 1 22 (ocV (cdL 5 AA))) e28 r27)::(own_ (ocL 1 3 (ocV cdI)) e96 v99)::L)->SemYN E0 ⟨none,false⟩ (pc BG [1,1,1,1,1,1,1,1,1,1,0,1,0,0]) f ⟨Fr 190 [(1,.sl 2 (x1.map (CL (cdK .u8) (cdK .u8) (fun _=>rfl) (fun _=>rfl)).enc)),(7,e2),(8,e28),(11,.sl 1 (r88.map cdI.enc)),(17,e96),(18,.v (.int .i64 c103)),(101,e28),(102,.v (.int .i64 (r27.length:Int))),(103,.v (.int .i64 c104))],hp⟩ (fun e s=>e=(.exit 6)/\∃ s2,(∃ (h':Hp),T h' ((own_ (ocL 9 42 (ocV AK)) e2 v1)::(own_ (ocL 1 22 (ocV (cdL 5 AA))) e28 r27)::(own_ (ocL 1 3 (ocV cdI)) e96 v99)::L)/\s2=⟨Fr 190 [(1,.sl 2 (x1.map (CL (cdK .u8) (cdK .u8) (fun _=>rfl) (fun _=>rfl)).enc)),(7,e2),(8,e28),(11,.sl 1 (r88.map cdI.enc)),(17,e96),(18,.v (.int .i64 r))],h'⟩)/\WkY E0 s s2):=by
 intro f;induction f with
 | zero=>intro c103 c104 r h; cases h
 | succ f ih0 =>
  intro c103 c104 r h  hp hT;unfold Bt at h;refine Cm ?_
  let p1:Nat×AV:=(103,.v (.int .i64 c104))
  let p2:Nat×AV:=(102,.v (.int .i64 (r27.length:Int)))
  let p3:Nat×AV:=(18,.v (.int .i64 c103))
  let p4:Nat×AV:=(11,.sl 1 (r88.map cdI.enc))
  let p5:Nat×AV:=(1,.sl 2 (x1.map (CL (cdK .u8) (cdK .u8) (fun _=>rfl) (fun _=>rfl)).enc))
  refine A7 AC [p5,(7,e2),(8,e28),p4,(17,e96),p3,(101,e28),p2,p1,(104,.v (.bool (decide (c104 < (r27.length:Int)))))] ?_;refine AM ?_;refine Bz (b:=(decide (c104 < (r27.length:Int)))) kr (fun hb105=>?_) (fun hb105=>?_)
  ·rw [if_pos hb105] at h
   refine SemY.skip ?_;refine AM ?_;refine A4 ?_;refine AM ?_;refine AH ?_;obtain ⟨v106,hv106,h⟩:=OB h
   have hT107:=(hT.front 1 rfl)
   refine AS AC 0 rfl (C5 (AB rfl) rfl (AN (a:=e28) (b:= .v (.int .i64 c104)) kr kr (O0 (bytes:=24) hT107 kr hv106))) ?_;refine AS AC 0 rfl (C5 (AB rfl) rfl (G3 (p:=eAt e28 c104.toNat) kr (Jd (y:= .sl 5 (v106.map AA.enc)) (m:=1) (g:=false) hT107 (Dh hv106).2 kr kr kr))) ?_
   let p6:Nat×AV:=(20,.sl 5 (v106.map AA.enc))
   refine CA AC [p5,(7,e2),(8,e28),p4,(17,e96),p3,p6,(101,e28),p2,p1] ?_;refine AM ?_;refine AH ?_;refine AZ AC 1 ?_
   have hT108:=(hT107.front 1 rfl)
   refine AS AC 0 rfl (C5 (AB rfl) rfl (Dd (a:=e2) kr (Nm hT108 kr))) ?_;refine CA AC [p5,(7,e2),(8,e28),p4,(17,e96),p3,p6,(101,e28),p2,p1,(108,.v (.int .i64 (v1.length:Int))),(109,.v (.int .i64 0))] ?_;refine A4 ?_;refine SemY.loop (n:=100000) ?_;obtain ⟨r128,hr128,h⟩:=OB h;refine Cc (Bd WkY.f1 (JF v1 v106 x1 e2 e28 r27 r88 e96 v99 c104 _ c103 0 _ hr128  hp hT108)) ?_;rintro _ ⟨hp129,hT130,rfl⟩;refine AH ?_;refine AZ AC 2 ?_;refine A3 rfl ?_;exact Bd WkY.f1 (ih0 r128 (wr .i64 (c104 + 1)) _ h  hp129 hT130)
  ·rw [Ce hb105] at h
   refine SemY.exit ?_;have hq:=OI h; subst hq;exact ⟨rfl,_,⟨hp,hT,rfl⟩,WkY.f1⟩
theorem JH {L:List Asn}(v1:(List Ah)) (x1:(List (Int×Int))) (e2:AV) (e28:AV) (r27:(List (List AD))) (r88:(List Int)) (e96:AV) (v99:(List Int)) (r133:Int) (e154:AV):∀ (f:Nat) (c156:Int) (c157:(List Ah)) (r:((List Ah))),BI v1 f c156 c157=some r->∀ (hp:Hp),T hp ((own_ (ocL 9 42 (ocV AK)) e2 c157)::(own_ (ocL 1 22 (ocV (cdL 5 AA))) e28 r27)::(own_ (ocL 1 3 (ocV cdI)) e96 v99)::(own_ (ocL 1 22 (ocV (cdL 5 AA))) e154 ([([(2,[],false,[],0),(8,[],false,[],0)]:List AD),([(3,[],false,[],0),(8,[],false,[],0)]:List AD)]:List (List AD)))::L)->SemYN E0 ⟨none,false⟩ (pc BG [1,1,1,1,1,1,1,1,1,1,1,1,0,1,0,0]) f ⟨Fr 190 [(1,.sl 2 (x1.map (CL (cdK .u8) (cdK .u8) (fun _=>rfl) (fun _=>rfl)).enc)),(7,e2),(8,e28),(11,.sl 1 (r88.map cdI.enc)),(17,e96),(18,.v (.int .i64 r133)),(23,e154),(142,.v (.int .i64 (v1.length:Int))),(143,.v (.int .i64 c156))],hp⟩ (fun e s=>e=(.exit 12)/\∃ s2,(∃ (h':Hp),T h' ((own_ (ocL 9 42 (ocV AK)) e2 r)::(own_ (ocL 1 22 (ocV (cdL 5 AA))) e28 r27)::(own_ (ocL 1 3 (ocV cdI)) e96 v99)::(own_ (ocL 1 22 (ocV (cdL 5 AA))) e154 ([([(2,[],false,[],0),(8,[],false,[],0)]:List AD),([(3,[],false,[],0),(8,[],false,[],0)]:List AD)]:List (List AD)))::L)/\s2=⟨Fr 190 [(1,.sl 2 (x1.map (CL (cdK .u8) (cdK .u8) (fun _=>rfl) (fun _=>rfl)).enc)),(7,e2),(8,e28),(11,.sl 1 (r88.map cdI.enc)),(17,e96),(18,.v (.int .i64 r133)),(23,e154)],h'⟩)/\WkY E0 s s2):=by
 intro f;induction f with
 | zero=>intro c156 c157 r h; cases h
 | succ f ih0 =>
  intro c156 c157 r h  hp hT;unfold BI at h;refine Cm ?_
  let p1:Nat×AV:=(143,.v (.int .i64 c156))
  let p2:Nat×AV:=(142,.v (.int .i64 (v1.length:Int)))
  let p3:Nat×AV:=(18,.v (.int .i64 r133))
  let p4:Nat×AV:=(11,.sl 1 (r88.map cdI.enc))
  let p5:Nat×AV:=(1,.sl 2 (x1.map (CL (cdK .u8) (cdK .u8) (fun _=>rfl) (fun _=>rfl)).enc))
  refine A7 AC [p5,(7,e2),(8,e28),p4,(17,e96),p3,(23,e154),p2,p1,(144,.v (.bool (decide (c156 < (v1.length:Int)))))] ?_;refine AM ?_;refine Bz (b:=(decide (c156 < (v1.length:Int)))) kr (fun hb158=>?_) (fun hb158=>?_)
  ·rw [if_pos hb158] at h
   refine SemY.skip ?_;refine AM ?_;refine A4 ?_;refine A7 AC [p5,(7,e2),(8,e28),p4,(17,e96),p3,(23,e154),(24,.v (.int .i64 c156)),p2,p1] ?_;refine AH ?_;refine AZ AC 4 ?_;obtain ⟨v159,hv159,h⟩:=OB h;refine AS AC 0 rfl (C5 (AB rfl) rfl (AN (a:=e2) (b:= .v (.int .i64 c156)) kr kr (O0 (bytes:=112) hT kr hv159))) ?_;refine AS AC 0 rfl (C5 (AB rfl) rfl (ZQ (a:=eAt e2 c156.toNat) kr (Xi (off:=3) hT (Dh hv159).2 kr))) ?_;obtain ⟨hp160,hs161,hT162⟩:=Va (off:=3) (P:=Tryz.prog) (ty:=3) (y:= .v (.int .i64 (wr .i64 (1 + c156)))) (v':=(v159.1,v159.2.1,v159.2.2.1,(wr .i64 (1 + c156)),v159.2.2.2.2.1,v159.2.2.2.2.2.1,v159.2.2.2.2.2.2.1,v159.2.2.2.2.2.2.2.1,v159.2.2.2.2.2.2.2.2)) hT (Dh hv159).2 kr kr kr;refine RunL.store AC (y:=M0 (eAt e2 c156.toNat) 3) (z:= .v (.int .i64 (wr .i64 (1 + c156)))) rfl (AB rfl) kr kr hs161 ?_;refine A3 rfl (SemY.fr (l':=[p5,(7,e2),(8,e28),p4,(17,e96),p3,(23,e154),p2,p1]) kr ?_);refine AH ?_;refine AZ AC 2 ?_;refine A3 rfl ?_;exact Bd WkY.f1 (ih0 (wr .i64 (c156 + 1)) (c157.set c156.toNat (v159.1,v159.2.1,v159.2.2.1,(wr .i64 (1 + c156)),v159.2.2.2.2.1,v159.2.2.2.2.2.1,v159.2.2.2.2.2.2.1,v159.2.2.2.2.2.2.2.1,v159.2.2.2.2.2.2.2.2)) _ h  hp160 hT162)
  ·rw [Ce hb158] at h
   refine SemY.exit ?_;have hq:=OI h; subst hq;exact ⟨rfl,_,⟨hp,hT,rfl⟩,WkY.f1⟩
theorem J8 {L:List Asn}{hp:Hp}(x0:(List (List (Int×Int×Int×Bool×Bool)))) (x1:(List (Int×Int))) (x2:(List (Int×Int))) (r:Bool) (h:Cz x0 x1 x2=some r) (hT:T hp (L)):SemY E0 ⟨none,false⟩ BG ⟨Fr 190 (BN 0 [.sl 1 (x0.map (cdL 5 (cdA (csC (cdK .u8) (csC (cdK .u8) (csC (cdK .u8) (csC cdB (csE cdB))))) (fun _=>rfl))).enc),.sl 2 (x1.map (CL (cdK .u8) (cdK .u8) (fun _=>rfl) (fun _=>rfl)).enc),.sl 2 (x2.map (CL (cdK .u8) (cdK .u8) (fun _=>rfl) (fun _=>rfl)).enc)]),hp⟩ fun x s'=>(x = .normal\/x = .ret)/\∃ ys,Eo E0.P s'.fr s'.hp Tryz.f12.results.toList=some ys/\(fun v h'=>v = .v (.bool r)/\T h' (L)) (Es ys) s'.hp:=by
 unfold Cz at h;refine IP (JN (s1:=⟨Fr 190 [(0,.sl 1 (x0.map (cdL 5 (cdA (csC (cdK .u8) (csC (cdK .u8) (csC (cdK .u8) (csC cdB (csE cdB))))) (fun _=>rfl))).enc)),(1,.sl 2 (x1.map (CL (cdK .u8) (cdK .u8) (fun _=>rfl) (fun _=>rfl)).enc)),(2,.sl 2 (x2.map (CL (cdK .u8) (cdK .u8) (fun _=>rfl) (fun _=>rfl)).enc))],hp⟩) WkY.f1 ?_);refine A7 AC [(0,.sl 1 (x0.map (cdL 5 (cdA (csC (cdK .u8) (csC (cdK .u8) (csC (cdK .u8) (csC cdB (csE cdB))))) (fun _=>rfl))).enc)),(1,.sl 2 (x1.map (CL (cdK .u8) (cdK .u8) (fun _=>rfl) (fun _=>rfl)).enc)),(2,.sl 2 (x2.map (CL (cdK .u8) (cdK .u8) (fun _=>rfl) (fun _=>rfl)).enc))] ?_;refine AM ?_;refine AH ?_;refine AZ AC 1 ?_;obtain ⟨v1,hv1,h⟩:=OB h;refine LT (E:=E0) (e:=E0) rfl rfl AC rfl rfl (fid:=20) (caps:=[]) (xs:=[.sl 2 (x1.map (CL (cdK .u8) (cdK .u8) (fun _=>rfl) (fun _=>rfl)).enc),.v (.int .i64 8)]) (fn:=Tryz.f20) (c:=EW) (Out:=fun v h'=>∃ (z0:AV),v=z0/\T h' ((own_ (ocL 9 42 (ocV AK)) z0 v1)::L)) rfl (AB rfl) kr kr kr kr (by show 2<=38; decide) (GT x1 8 _ hv1 hT) ?_;rintro xx hp3 ⟨e2,hqhp3,hT4⟩; subst xx;refine CA AC [(0,.sl 1 (x0.map (cdL 5 (cdA (csC (cdK .u8) (csC (cdK .u8) (csC (cdK .u8) (csC cdB (csE cdB))))) (fun _=>rfl))).enc)),(1,.sl 2 (x1.map (CL (cdK .u8) (cdK .u8) (fun _=>rfl) (fun _=>rfl)).enc)),(2,.sl 2 (x2.map (CL (cdK .u8) (cdK .u8) (fun _=>rfl) (fun _=>rfl)).enc)),(7,e2)] ?_;refine A7 AC [(0,.sl 1 (x0.map (cdL 5 (cdA (csC (cdK .u8) (csC (cdK .u8) (csC (cdK .u8) (csC cdB (csE cdB))))) (fun _=>rfl))).enc)),(1,.sl 2 (x1.map (CL (cdK .u8) (cdK .u8) (fun _=>rfl) (fun _=>rfl)).enc)),(2,.sl 2 (x2.map (CL (cdK .u8) (cdK .u8) (fun _=>rfl) (fun _=>rfl)).enc)),(7,e2),(8,.e0)] ?_;refine AM ?_;refine AM ?_;refine AH ?_;refine AZ AC 2 ?_;refine AS AC 0 rfl (C5 (AB rfl) rfl (Dd (a:= .sl 1 (x0.map (cdL 5 (cdA (csC (cdK .u8) (csC (cdK .u8) (csC (cdK .u8) (csC cdB (csE cdB))))) (fun _=>rfl))).enc)) kr (C1 (el:=28) kr))) ?_;refine AZ AC 1 ?_
 by_cases hk5:(DG 0 (mnI (x0.length:Int) 5) x0.length)=true
 case neg=>rw [if_neg hk5] at h; cases h
 rw [if_pos hk5] at h;refine AS AC 0 rfl (C5 (AB rfl) rfl (En (a:= .sl 1 (x0.map (cdL 5 (cdA (csC (cdK .u8) (csC (cdK .u8) (csC (cdK .u8) (csC cdB (csE cdB))))) (fun _=>rfl))).enc)) (l:=none) (u:=(some (.v (.int .i64 (mnI (x0.length:Int) 5))))) (m:=none) kr kr kr rfl (Jf (xs:=x0) (e:=(cdL 5 (cdA (csC (cdK .u8) (csC (cdK .u8) (csC (cdK .u8) (csC cdB (csE cdB))))) (fun _=>rfl))).enc) (k:=1) (el:=28) (lo:=0) (hi:=(mnI (x0.length:Int) 5)) kr kr rfl (GW (J0 hk5)) hk5))) ?_;refine AS AC 0 rfl (C5 (AB rfl) rfl (Dd (a:= .sl 1 (((x0.take (mnI (x0.length:Int) 5).toNat).drop (0:Int).toNat).map (cdL 5 (cdA (csC (cdK .u8) (csC (cdK .u8) (csC (cdK .u8) (csC cdB (csE cdB))))) (fun _=>rfl))).enc)) kr (C1 (el:=28) kr))) ?_;refine CA AC [(1,.sl 2 (x1.map (CL (cdK .u8) (cdK .u8) (fun _=>rfl) (fun _=>rfl)).enc)),(2,.sl 2 (x2.map (CL (cdK .u8) (cdK .u8) (fun _=>rfl) (fun _=>rfl)).enc)),(7,e2),(8,.e0),(32,.sl 1 (((x0.take (mnI (x0.length:Int) 5).toNat).drop (0:Int).toNat).map (cdL 5 (cdA (csC (cdK .u8) (csC (cdK .u8) (csC (cdK .u8) (csC cdB (csE cdB))))) (fun _=>rfl))).enc)),(33,.v (.int .i64 (((x0.take (mnI (x0.length:Int) 5).toNat).drop (0:Int).toNat).length:Int))),(34,.v (.int .i64 0))] ?_;refine A4 ?_
 have hT6:=(T.e0 (k:=1) (ty:=22) (o:=(ocV (cdL 5 AA))) hT4)
 have hT26:=(hT6.front 1 rfl)
 refine SemY.loop (n:=100000) ?_;obtain ⟨r27,hr27,h⟩:=OB h;refine Cc (Bd WkY.f1 (JB x0 x1 x2 v1 e2 _ 0 ([]:(List (List AD))) _ hr27 .e0 hp3 hT26)) ?_;rintro _ ⟨e28,hp29,hT30,rfl⟩;refine AM ?_;refine AH ?_;refine AZ AC 1 ?_;refine AS AC 0 rfl (C5 (AB rfl) rfl (Dd (a:=e2) kr (Nm hT30 kr))) ?_;by_cases hk31:(P0 8 (v1.length:Int))=true
 case neg=>rw [if_neg hk31] at h; cases h
 rw [if_pos hk31] at h;obtain ⟨e35,hp32,hb33,hT34⟩:=Np (P:=Tryz.prog) (o:=(ocV cdI)) (k:=1) (t:=3) (ty:=48) (bytes:=8) (kn:= .i64) (kc:= .i64) (m:=(v1.length:Int)) (x0:=0) hT30 (fun _=>⟨rfl,rfl⟩) kr kr hk31;refine AS AC 0 rfl (QW (AB rfl) rfl kr (Rx (x:= .v (.int .i64 (v1.length:Int))) (y:= .v (.int .i64 (v1.length:Int))) kr kr hb33)) ?_;refine CA AC [(1,.sl 2 (x1.map (CL (cdK .u8) (cdK .u8) (fun _=>rfl) (fun _=>rfl)).enc)),(2,.sl 2 (x2.map (CL (cdK .u8) (cdK .u8) (fun _=>rfl) (fun _=>rfl)).enc)),(7,e2),(8,e28),(11,e35)] ?_;refine AM ?_;refine AM ?_;refine AH ?_;refine AZ AC 1 ?_;refine AS AC 0 rfl (C5 (AB rfl) rfl (Dd (a:=e35) kr (Nm hT34 kr))) ?_;refine CA AC [(1,.sl 2 (x1.map (CL (cdK .u8) (cdK .u8) (fun _=>rfl) (fun _=>rfl)).enc)),(2,.sl 2 (x2.map (CL (cdK .u8) (cdK .u8) (fun _=>rfl) (fun _=>rfl)).enc)),(7,e2),(8,e28),(11,e35),(48,.v (.int .i64 ((List.replicate (v1.length:Int).toNat (0:Int)).length:Int))),(49,.v (.int .i64 0))] ?_;refine A4 ?_
 have hT46:=((hT34.front 2 rfl).front 2 rfl)
 refine SemY.loop (n:=100000) ?_;obtain ⟨r47,hr47,h⟩:=OB h;refine Cc (Bd WkY.f1 (JC v1 x1 x2 e2 e28 r27 e35 _ 0 (List.replicate (v1.length:Int).toNat (0:Int)) _ hr47  hp32 hT46)) ?_;rintro _ ⟨hp48,hT49,rfl⟩;refine AM ?_;refine AM ?_;refine AH ?_;refine AZ AC 2 ?_;refine AS AC 0 rfl (C5 (AB rfl) rfl (Dd (a:= .sl 2 (x2.map (CL (cdK .u8) (cdK .u8) (fun _=>rfl) (fun _=>rfl)).enc)) kr (C1 (el:=63) kr))) ?_;refine AZ AC 1 ?_;by_cases hk50:(DG 0 (mnI (x2.length:Int) 12) x2.length)=true
 case neg=>rw [if_neg hk50] at h; cases h
 rw [if_pos hk50] at h;refine AS AC 0 rfl (C5 (AB rfl) rfl (En (a:= .sl 2 (x2.map (CL (cdK .u8) (cdK .u8) (fun _=>rfl) (fun _=>rfl)).enc)) (l:=none) (u:=(some (.v (.int .i64 (mnI (x2.length:Int) 12))))) (m:=none) kr kr kr rfl (Jf (xs:=x2) (e:=(CL (cdK .u8) (cdK .u8) (fun _=>rfl) (fun _=>rfl)).enc) (k:=2) (el:=63) (lo:=0) (hi:=(mnI (x2.length:Int) 12)) kr kr rfl (GW (J0 hk50)) hk50))) ?_;refine AS AC 0 rfl (C5 (AB rfl) rfl (Dd (a:= .sl 2 (((x2.take (mnI (x2.length:Int) 12).toNat).drop (0:Int).toNat).map (CL (cdK .u8) (cdK .u8) (fun _=>rfl) (fun _=>rfl)).enc)) kr (C1 (el:=63) kr))) ?_;refine CA AC [(1,.sl 2 (x1.map (CL (cdK .u8) (cdK .u8) (fun _=>rfl) (fun _=>rfl)).enc)),(7,e2),(8,e28),(11,e35),(61,.sl 2 (((x2.take (mnI (x2.length:Int) 12).toNat).drop (0:Int).toNat).map (CL (cdK .u8) (cdK .u8) (fun _=>rfl) (fun _=>rfl)).enc)),(62,.v (.int .i64 (((x2.take (mnI (x2.length:Int) 12).toNat).drop (0:Int).toNat).length:Int))),(63,.v (.int .i64 0))] ?_;refine A4 ?_;refine SemY.loop (n:=100000) ?_;obtain ⟨r88,hr88,h⟩:=OB h;refine Cc (Bd WkY.f1 (JD x2 v1 x1 e2 e28 r27 e35 _ 0 r47 _ hr88  hp48 hT49)) ?_;rintro _ ⟨hp89,hT90,rfl⟩;refine AM ?_;refine AH ?_;refine AZ AC 1 ?_
 have hT91:=(hT90.front 2 rfl)
 obtain ⟨hp92,hw93,hT94⟩:=Ed (E:=E0) (n:=190) (l:=[(1,.sl 2 (x1.map (CL (cdK .u8) (cdK .u8) (fun _=>rfl) (fun _=>rfl)).enc)),(7,e2),(8,e28),(11,e35),(97,e35)]) (l':=[(1,.sl 2 (x1.map (CL (cdK .u8) (cdK .u8) (fun _=>rfl) (fun _=>rfl)).enc)),(7,e2),(8,e28),(11,.sl 1 (r88.map cdI.enc)),(97,.sl 1 (r88.map cdI.enc))]) hT91 ⟨⟨.sl 2 (x1.map (CL (cdK .u8) (cdK .u8) (fun _=>rfl) (fun _=>rfl)).enc),kr,FzU.refl⟩,⟨e2,kr,FzU.refl⟩,⟨e28,kr,FzU.refl⟩,⟨e35,kr,Dt⟩,⟨e35,kr,Dt⟩,trivial⟩;refine Ig (WkY.trans WkY.f1 hw93) ?_;by_cases hk95:(FP 8 r88.length)=true
 case neg=>rw [if_neg hk95] at h; cases h
 rw [if_pos hk95] at h;refine SM rfl rfl (Kt r88 hk95) rfl (AB rfl) kr kr kr SU ?_;intro x h' hO; obtain ⟨e96,hp97,e96q,hp97q,hT98⟩:=SV (c:=cdI) (k:=1) (t:=3) hT94 hO; rw [<-e96q,<-hp97q];refine CA AC [(1,.sl 2 (x1.map (CL (cdK .u8) (cdK .u8) (fun _=>rfl) (fun _=>rfl)).enc)),(7,e2),(8,e28),(11,.sl 1 (r88.map cdI.enc)),(17,e96)] ?_;refine AM ?_;refine AH ?_;refine AZ AC 1 ?_;obtain ⟨v99,hv99,h⟩:=OB h;refine LT (E:=E0) (e:=E0) rfl rfl AC rfl rfl (fid:=45) (caps:=[]) (xs:=[e96]) (fn:=Tryz.f45) (c:=EG) (Out:=fun v h'=>v = .tp []/\T h' ((own_ (ocL 1 3 (ocV cdI)) e96 v99)::(own_ (ocL 9 42 (ocV AK)) e2 v1)::(own_ (ocL 1 22 (ocV (cdL 5 AA))) e28 r27)::L)) rfl (AB rfl) kr kr kr kr (by show 1<=28; decide) (IN e96 r88 _ hv99 hT98) ?_;rintro xx hp100 ⟨hqhp100,hT101⟩; subst xx;refine A3 rfl (SemY.fr (l':=[(1,.sl 2 (x1.map (CL (cdK .u8) (cdK .u8) (fun _=>rfl) (fun _=>rfl)).enc)),(7,e2),(8,e28),(11,.sl 1 (r88.map cdI.enc)),(17,e96)]) kr ?_);refine A7 AC [(1,.sl 2 (x1.map (CL (cdK .u8) (cdK .u8) (fun _=>rfl) (fun _=>rfl)).enc)),(7,e2),(8,e28),(11,.sl 1 (r88.map cdI.enc)),(17,e96),(18,.v (.int .i64 0))] ?_;refine AM ?_;refine AM ?_;refine AH ?_;refine AZ AC 1 ?_
 have hT102:=(hT101.front 2 rfl)
 refine AS AC 0 rfl (C5 (AB rfl) rfl (Dd (a:=e28) kr (Nm hT102 kr))) ?_;refine CA AC [(1,.sl 2 (x1.map (CL (cdK .u8) (cdK .u8) (fun _=>rfl) (fun _=>rfl)).enc)),(7,e2),(8,e28),(11,.sl 1 (r88.map cdI.enc)),(17,e96),(18,.v (.int .i64 0)),(101,e28),(102,.v (.int .i64 (r27.length:Int))),(103,.v (.int .i64 0))] ?_;refine A4 ?_
 have hT132:=(((hT102.front 1 rfl).front 1 rfl).front 2 rfl)
 refine SemY.loop (n:=100000) ?_;obtain ⟨r133,hr133,h⟩:=OB h;refine Cc (Bd WkY.f1 (JE v1 r27 x1 e2 e28 r88 e96 v99 _ 0 0 _ hr133  hp100 hT132)) ?_;rintro _ ⟨hp134,hT135,rfl⟩;refine AM ?_;refine AH ?_;refine Gx (n:=190) AC 2 [(1,.sl 2 (x1.map (CL (cdK .u8) (cdK .u8) (fun _=>rfl) (fun _=>rfl)).enc)),(7,e2),(8,e28),(11,.sl 1 (r88.map cdI.enc)),(17,e96),(18,.v (.int .i64 r133)),(134,.ag [.v (.int .u8 2),.st [],.v (.bool false),.e0,.v (.int .i64 0)]),(135,.ag [.v (.int .u8 8),.st [],.v (.bool false),.e0,.v (.int .i64 0)])] hp134 kr ?_;refine Ig (Sw (l:=[(1,.sl 2 (x1.map (CL (cdK .u8) (cdK .u8) (fun _=>rfl) (fun _=>rfl)).enc)),(7,e2),(8,e28),(11,.sl 1 (r88.map cdI.enc)),(17,e96),(18,.v (.int .i64 r133)),(134,.ag [.v (.int .u8 2),.st [],.v (.bool false),.e0,.v (.int .i64 0)]),(135,.ag [.v (.int .u8 8),.st [],.v (.bool false),.e0,.v (.int .i64 0)])]) (l':=[(1,.sl 2 (x1.map (CL (cdK .u8) (cdK .u8) (fun _=>rfl) (fun _=>rfl)).enc)),(7,e2),(8,e28),(11,.sl 1 (r88.map cdI.enc)),(17,e96),(18,.v (.int .i64 r133)),(134,.ag [.v (.int .u8 2),.st [],.v (.bool false),.sl 1 ([].map cdS.enc),.v (.int .i64 0)]),(135,.ag [.v (.int .u8 8),.st [],.v (.bool false),.sl 1 ([].map cdS.enc),.v (.int .i64 0)])]) ⟨⟨.sl 2 (x1.map (CL (cdK .u8) (cdK .u8) (fun _=>rfl) (fun _=>rfl)).enc),kr,UpV.refl⟩,⟨e2,kr,UpV.refl⟩,⟨e28,kr,UpV.refl⟩,⟨.sl 1 (r88.map cdI.enc),kr,UpV.refl⟩,⟨e96,kr,UpV.refl⟩,⟨.v (.int .i64 r133),kr,UpV.refl⟩,⟨.ag [.v (.int .u8 2),.st [],.v (.bool false),.e0,.v (.int .i64 0)],kr,UpV.ag ⟨UpV.refl,UpV.refl,UpV.refl,UpV.nil,UpV.refl,trivial⟩⟩,⟨.ag [.v (.int .u8 8),.st [],.v (.bool false),.e0,.v (.int .i64 0)],kr,UpV.ag ⟨UpV.refl,UpV.refl,UpV.refl,UpV.nil,UpV.refl,trivial⟩⟩,trivial⟩) ?_;obtain ⟨e139,hp136,hb137,hT138⟩:=Ie (P:=Tryz.prog) (bytes:=64) (k:=5) (t:=60) (ty:=22) (xs:=([(2,[],false,[],0),(8,[],false,[],0)]:List AD)) (n:=2) (QH (k:=5) (fun _=>⟨rfl,rfl,rfl⟩)) (Ht (c:=AA) (xs:=([(2,[],false,[],0),(8,[],false,[],0)]:List AD)) hT135) rfl kr kr kr
 refine AS AC 0 rfl (QW (AB rfl) rfl kr (QU (xs:=Lf 0 [.ag [.v (.int .u8 2),.st [],.v (.bool false),.sl 1 ([].map cdS.enc),.v (.int .i64 0)],.ag [.v (.int .u8 8),.st [],.v (.bool false),.sl 1 ([].map cdS.enc),.v (.int .i64 0)]]) kr hb137)) ?_;refine Gx (n:=190) AC 2 [(1,.sl 2 (x1.map (CL (cdK .u8) (cdK .u8) (fun _=>rfl) (fun _=>rfl)).enc)),(7,e2),(8,e28),(11,.sl 1 (r88.map cdI.enc)),(17,e96),(18,.v (.int .i64 r133)),(136,e139),(137,.ag [.v (.int .u8 3),.st [],.v (.bool false),.e0,.v (.int .i64 0)]),(138,.ag [.v (.int .u8 8),.st [],.v (.bool false),.e0,.v (.int .i64 0)])] hp136 kr ?_;refine Ig (Sw (l:=[(1,.sl 2 (x1.map (CL (cdK .u8) (cdK .u8) (fun _=>rfl) (fun _=>rfl)).enc)),(7,e2),(8,e28),(11,.sl 1 (r88.map cdI.enc)),(17,e96),(18,.v (.int .i64 r133)),(136,e139),(137,.ag [.v (.int .u8 3),.st [],.v (.bool false),.e0,.v (.int .i64 0)]),(138,.ag [.v (.int .u8 8),.st [],.v (.bool false),.e0,.v (.int .i64 0)])]) (l':=[(1,.sl 2 (x1.map (CL (cdK .u8) (cdK .u8) (fun _=>rfl) (fun _=>rfl)).enc)),(7,e2),(8,e28),(11,.sl 1 (r88.map cdI.enc)),(17,e96),(18,.v (.int .i64 r133)),(136,e139),(137,.ag [.v (.int .u8 3),.st [],.v (.bool false),.sl 1 ([].map cdS.enc),.v (.int .i64 0)]),(138,.ag [.v (.int .u8 8),.st [],.v (.bool false),.sl 1 ([].map cdS.enc),.v (.int .i64 0)])]) ⟨⟨.sl 2 (x1.map (CL (cdK .u8) (cdK .u8) (fun _=>rfl) (fun _=>rfl)).enc),kr,UpV.refl⟩,⟨e2,kr,UpV.refl⟩,⟨e28,kr,UpV.refl⟩,⟨.sl 1 (r88.map cdI.enc),kr,UpV.refl⟩,⟨e96,kr,UpV.refl⟩,⟨.v (.int .i64 r133),kr,UpV.refl⟩,⟨e139,kr,UpV.refl⟩,⟨.ag [.v (.int .u8 3),.st [],.v (.bool false),.e0,.v (.int .i64 0)],kr,UpV.ag ⟨UpV.refl,UpV.refl,UpV.refl,UpV.nil,UpV.refl,trivial⟩⟩,⟨.ag [.v (.int .u8 8),.st [],.v (.bool false),.e0,.v (.int .i64 0)],kr,UpV.ag ⟨UpV.refl,UpV.refl,UpV.refl,UpV.nil,UpV.refl,trivial⟩⟩,trivial⟩) ?_;obtain ⟨e143,hp140,hb141,hT142⟩:=Ie (P:=Tryz.prog) (bytes:=64) (k:=5) (t:=60) (ty:=22) (xs:=([(3,[],false,[],0),(8,[],false,[],0)]:List AD)) (n:=2) (QH (k:=5) (fun _=>⟨rfl,rfl,rfl⟩)) (Ht (c:=AA) (xs:=([(3,[],false,[],0),(8,[],false,[],0)]:List AD)) hT138) rfl kr kr kr
 refine AS AC 0 rfl (QW (AB rfl) rfl kr (QU (xs:=Lf 0 [.ag [.v (.int .u8 3),.st [],.v (.bool false),.sl 1 ([].map cdS.enc),.v (.int .i64 0)],.ag [.v (.int .u8 8),.st [],.v (.bool false),.sl 1 ([].map cdS.enc),.v (.int .i64 0)]]) kr hb141)) ?_
 have hT144:=(hT142.front 1 rfl)
 obtain ⟨hp145,hw146,hT147⟩:=Ed (E:=E0) (n:=190) (l:=[(1,.sl 2 (x1.map (CL (cdK .u8) (cdK .u8) (fun _=>rfl) (fun _=>rfl)).enc)),(7,e2),(8,e28),(11,.sl 1 (r88.map cdI.enc)),(17,e96),(18,.v (.int .i64 r133)),(136,e139),(139,e143)]) (l':=[(1,.sl 2 (x1.map (CL (cdK .u8) (cdK .u8) (fun _=>rfl) (fun _=>rfl)).enc)),(7,e2),(8,e28),(11,.sl 1 (r88.map cdI.enc)),(17,e96),(18,.v (.int .i64 r133)),(136,.sl 5 (([(2,[],false,[],0),(8,[],false,[],0)]:List AD).map AA.enc)),(139,e143)]) hT144 ⟨⟨.sl 2 (x1.map (CL (cdK .u8) (cdK .u8) (fun _=>rfl) (fun _=>rfl)).enc),kr,FzU.refl⟩,⟨e2,kr,FzU.refl⟩,⟨e28,kr,FzU.refl⟩,⟨.sl 1 (r88.map cdI.enc),kr,FzU.refl⟩,⟨e96,kr,FzU.refl⟩,⟨.v (.int .i64 r133),kr,FzU.refl⟩,⟨e139,kr,Dt⟩,⟨e143,kr,FzU.refl⟩,trivial⟩;refine Ig (WkY.trans WkY.f1 hw146) ?_;obtain ⟨hp148,hw149,hT150⟩:=Ed (E:=E0) (n:=190) (l:=[(1,.sl 2 (x1.map (CL (cdK .u8) (cdK .u8) (fun _=>rfl) (fun _=>rfl)).enc)),(7,e2),(8,e28),(11,.sl 1 (r88.map cdI.enc)),(17,e96),(18,.v (.int .i64 r133)),(136,.sl 5 (([(2,[],false,[],0),(8,[],false,[],0)]:List AD).map AA.enc)),(139,e143)]) (l':=[(1,.sl 2 (x1.map (CL (cdK .u8) (cdK .u8) (fun _=>rfl) (fun _=>rfl)).enc)),(7,e2),(8,e28),(11,.sl 1 (r88.map cdI.enc)),(17,e96),(18,.v (.int .i64 r133)),(136,.sl 5 (([(2,[],false,[],0),(8,[],false,[],0)]:List AD).map AA.enc)),(139,.sl 5 (([(3,[],false,[],0),(8,[],false,[],0)]:List AD).map AA.enc))]) hT147 ⟨⟨.sl 2 (x1.map (CL (cdK .u8) (cdK .u8) (fun _=>rfl) (fun _=>rfl)).enc),kr,FzU.refl⟩,⟨e2,kr,FzU.refl⟩,⟨e28,kr,FzU.refl⟩,⟨.sl 1 (r88.map cdI.enc),kr,FzU.refl⟩,⟨e96,kr,FzU.refl⟩,⟨.v (.int .i64 r133),kr,FzU.refl⟩,⟨.sl 5 (([(2,[],false,[],0),(8,[],false,[],0)]:List AD).map AA.enc),kr,FzU.refl⟩,⟨e143,kr,Dt⟩,trivial⟩;refine Ig (WkY.trans WkY.f1 hw149) ?_;obtain ⟨e154,hp151,hb152,hT153⟩:=Ie (P:=Tryz.prog) (bytes:=24) (k:=1) (t:=22) (ty:=68) (xs:=([([(2,[],false,[],0),(8,[],false,[],0)]:List AD),([(3,[],false,[],0),(8,[],false,[],0)]:List AD)]:List (List AD))) (n:=2) (QH (k:=1) (fun _=>⟨rfl,rfl,rfl⟩)) (Ht (c:=(cdL 5 AA)) (xs:=([([(2,[],false,[],0),(8,[],false,[],0)]:List AD),([(3,[],false,[],0),(8,[],false,[],0)]:List AD)]:List (List AD))) hT150) rfl kr kr kr
 refine AS AC 0 rfl (QW (AB rfl) rfl kr (QU (xs:=Lf 0 [.sl 5 (([(2,[],false,[],0),(8,[],false,[],0)]:List AD).map AA.enc),.sl 5 (([(3,[],false,[],0),(8,[],false,[],0)]:List AD).map AA.enc)]) kr hb152)) ?_;refine CA AC [(1,.sl 2 (x1.map (CL (cdK .u8) (cdK .u8) (fun _=>rfl) (fun _=>rfl)).enc)),(7,e2),(8,e28),(11,.sl 1 (r88.map cdI.enc)),(17,e96),(18,.v (.int .i64 r133)),(23,e154)] ?_;refine AM ?_;refine AM ?_;refine AH ?_;refine AZ AC 1 ?_
 have hT155:=(hT153.front 1 rfl)
 refine AS AC 0 rfl (C5 (AB rfl) rfl (Dd (a:=e2) kr (Nm hT155 kr))) ?_;refine CA AC [(1,.sl 2 (x1.map (CL (cdK .u8) (cdK .u8) (fun _=>rfl) (fun _=>rfl)).enc)),(7,e2),(8,e28),(11,.sl 1 (r88.map cdI.enc)),(17,e96),(18,.v (.int .i64 r133)),(23,e154),(142,.v (.int .i64 (v1.length:Int))),(143,.v (.int .i64 0))] ?_;refine A4 ?_
 have hT164:=((((hT155.front 1 rfl).front 3 rfl).front 3 rfl).front 3 rfl)
 refine SemY.loop (n:=100000) ?_;obtain ⟨r165,hr165,h⟩:=OB h;refine Cc (Bd WkY.f1 (JH v1 x1 e2 e28 r27 r88 e96 v99 r133 e154 _ 0 v1 _ hr165  hp151 hT164)) ?_;rintro _ ⟨hp166,hT167,rfl⟩;refine AM ?_;refine AH ?_;refine AZ AC 1 ?_;refine AS AC 0 rfl (C5 (AB rfl) rfl (Dd (a:=e2) kr (Nm hT167 kr))) ?_;refine CA AC [(1,.sl 2 (x1.map (CL (cdK .u8) (cdK .u8) (fun _=>rfl) (fun _=>rfl)).enc)),(7,e2),(8,e28),(11,.sl 1 (r88.map cdI.enc)),(17,e96),(18,.v (.int .i64 r133)),(23,e154),(25,.v (.int .i64 (r165.length:Int)))] ?_;refine AM ?_;obtain ⟨v168,hv168,h⟩:=OB h;obtain ⟨v172,hv172,h⟩:=OB h;obtain ⟨v173,hv173,h⟩:=OB h;obtain ⟨v177,hv177,h⟩:=OB h;obtain ⟨j189,hj189,h⟩:=OB h;refine NM (A:=fun s1=>∃ (h':Hp),T h' (L)/\s1=⟨Fr 190 [(6,.v (.bool j189))],h'⟩) ?_ ?_
 ·refine AZ AC 2 ?_
  refine LT (E:=E0) (e:=E0) rfl rfl AC rfl rfl (fid:=20) (caps:=[]) (xs:=[.sl 2 (x1.map (CL (cdK .u8) (cdK .u8) (fun _=>rfl) (fun _=>rfl)).enc),.v (.int .i64 8)]) (fn:=Tryz.f20) (c:=EW) (Out:=fun v h'=>∃ (z0:AV),v=z0/\T h' ((own_ (ocL 9 42 (ocV AK)) z0 v168)::(own_ (ocL 9 42 (ocV AK)) e2 r165)::(own_ (ocL 1 22 (ocV (cdL 5 AA))) e28 r27)::(own_ (ocL 1 3 (ocV cdI)) e96 v99)::(own_ (ocL 1 22 (ocV (cdL 5 AA))) e154 ([([(2,[],false,[],0),(8,[],false,[],0)]:List AD),([(3,[],false,[],0),(8,[],false,[],0)]:List AD)]:List (List AD)))::L)) rfl (AB rfl) kr kr kr kr (by show 2<=38; decide) (GT x1 8 _ hv168 hT167) ?_;rintro xx hp170 ⟨e169,hqhp170,hT171⟩; subst xx;refine AZ AC 1 ?_;refine C8 (v:=v172) (caps:=[]) (xs:=[e28,e169,.sl 1 (r88.map cdI.enc)]) (u:=(r27,v168,r88,())) rfl rfl HB rfl (AB rfl) kr kr (Aw (SeeD.own hT171 (i:=2) rfl) (Aw (SeeD.own hT171 (i:=0) rfl) (Aw (Bx (c:=(cdL 1 cdI)) (v:=r88)) SeesD.nil))) (.inl kr) hv172 ?_;refine AZ AC 2 ?_;refine LT (E:=E0) (e:=E0) rfl rfl AC rfl rfl (fid:=20) (caps:=[]) (xs:=[.sl 2 (x1.map (CL (cdK .u8) (cdK .u8) (fun _=>rfl) (fun _=>rfl)).enc),.v (.int .i64 8)]) (fn:=Tryz.f20) (c:=EW) (Out:=fun v h'=>∃ (z0:AV),v=z0/\T h' ((own_ (ocL 9 42 (ocV AK)) z0 v173)::(own_ (ocL 9 42 (ocV AK)) e169 v168)::(own_ (ocL 9 42 (ocV AK)) e2 r165)::(own_ (ocL 1 22 (ocV (cdL 5 AA))) e28 r27)::(own_ (ocL 1 3 (ocV cdI)) e96 v99)::(own_ (ocL 1 22 (ocV (cdL 5 AA))) e154 ([([(2,[],false,[],0),(8,[],false,[],0)]:List AD),([(3,[],false,[],0),(8,[],false,[],0)]:List AD)]:List (List AD)))::L)) rfl (AB rfl) kr kr kr kr (by show 2<=38; decide) (GT x1 8 _ hv173 hT171) ?_;rintro xx hp175 ⟨e174,hqhp175,hT176⟩; subst xx;refine AZ AC 1 ?_;refine C8 (v:=v177) (caps:=[]) (xs:=[e28,e174,e96]) (u:=(r27,v173,v99,())) rfl rfl HB rfl (AB rfl) kr kr (Aw (SeeD.own hT176 (i:=3) rfl) (Aw (SeeD.own hT176 (i:=0) rfl) (Aw (SeeD.own hT176 (i:=4) rfl) SeesD.nil))) (.inl kr) hv177 ?_
  refine Gx (n:=190) AC 4 [(7,e2),(23,e154),(25,.v (.int .i64 (r165.length:Int))),(168,.v (.bool ((wr .i64 (v172 + v177))==r133)))] hp175 kr ?_;rcases BE ((wr .i64 (v172 + v177))==r133) with hc197 | hc197
  ·rw [if_pos hc197] at hj189
   rw [hc197];refine AZ AC 2 ?_
   have hT178:=(hT176.front 5 rfl)
   obtain ⟨hp179,hw180,hT181⟩:=Ed (E:=E0) (n:=190) (l:=[(7,e2),(23,e154),(25,.v (.int .i64 (r165.length:Int))),(168,.v (.bool true)),(169,e154),(170,e2)]) (l':=[(7,e2),(23,.sl 1 (([([(2,[],false,[],0),(8,[],false,[],0)]:List AD),([(3,[],false,[],0),(8,[],false,[],0)]:List AD)]:List (List AD)).map (cdL 5 AA).enc)),(25,.v (.int .i64 (r165.length:Int))),(168,.v (.bool true)),(169,.sl 1 (([([(2,[],false,[],0),(8,[],false,[],0)]:List AD),([(3,[],false,[],0),(8,[],false,[],0)]:List AD)]:List (List AD)).map (cdL 5 AA).enc)),(170,e2)]) hT178 ⟨⟨e2,kr,FzU.refl⟩,⟨e154,kr,Dt⟩,⟨.v (.int .i64 (r165.length:Int)),kr,FzU.refl⟩,⟨.v (.bool true),kr,FzU.refl⟩,⟨e154,kr,Dt⟩,⟨e2,kr,FzU.refl⟩,trivial⟩;refine Ig (WkY.trans WkY.f1 hw180) ?_
   have hT182:=(hT181.front 2 rfl)
   obtain ⟨hp183,hw184,hT185⟩:=Ed (E:=E0) (n:=190) (l:=[(7,e2),(23,.sl 1 (([([(2,[],false,[],0),(8,[],false,[],0)]:List AD),([(3,[],false,[],0),(8,[],false,[],0)]:List AD)]:List (List AD)).map (cdL 5 AA).enc)),(25,.v (.int .i64 (r165.length:Int))),(168,.v (.bool true)),(169,.sl 1 (([([(2,[],false,[],0),(8,[],false,[],0)]:List AD),([(3,[],false,[],0),(8,[],false,[],0)]:List AD)]:List (List AD)).map (cdL 5 AA).enc)),(170,e2)]) (l':=[(7,.sl 9 (r165.map AK.enc)),(23,.sl 1 (([([(2,[],false,[],0),(8,[],false,[],0)]:List AD),([(3,[],false,[],0),(8,[],false,[],0)]:List AD)]:List (List AD)).map (cdL 5 AA).enc)),(25,.v (.int .i64 (r165.length:Int))),(168,.v (.bool true)),(169,.sl 1 (([([(2,[],false,[],0),(8,[],false,[],0)]:List AD),([(3,[],false,[],0),(8,[],false,[],0)]:List AD)]:List (List AD)).map (cdL 5 AA).enc)),(170,.sl 9 (r165.map AK.enc))]) hT182 ⟨⟨e2,kr,Dt⟩,⟨.sl 1 (([([(2,[],false,[],0),(8,[],false,[],0)]:List AD),([(3,[],false,[],0),(8,[],false,[],0)]:List AD)]:List (List AD)).map (cdL 5 AA).enc),kr,FzU.refl⟩,⟨.v (.int .i64 (r165.length:Int)),kr,FzU.refl⟩,⟨.v (.bool true),kr,FzU.refl⟩,⟨.sl 1 (([([(2,[],false,[],0),(8,[],false,[],0)]:List AD),([(3,[],false,[],0),(8,[],false,[],0)]:List AD)]:List (List AD)).map (cdL 5 AA).enc),kr,FzU.refl⟩,⟨e2,kr,Dt⟩,trivial⟩;refine Ig (WkY.trans WkY.f1 hw184) ?_;obtain ⟨v186,hv186,hj189⟩:=OB hj189;refine C8 (v:=v186) (caps:=[]) (xs:=[.sl 1 (([([(2,[],false,[],0),(8,[],false,[],0)]:List AD),([(3,[],false,[],0),(8,[],false,[],0)]:List AD)]:List (List AD)).map (cdL 5 AA).enc),.sl 9 (r165.map AK.enc)]) (u:=(([([(2,[],false,[],0),(8,[],false,[],0)]:List AD),([(3,[],false,[],0),(8,[],false,[],0)]:List AD)]:List (List AD)),r165,())) rfl rfl Me rfl kr kr kr (Aw (Bx (c:=(cdL 1 (cdL 5 AA))) (v:=([([(2,[],false,[],0),(8,[],false,[],0)]:List AD),([(3,[],false,[],0),(8,[],false,[],0)]:List AD)]:List (List AD)))) (Aw (Bx (c:=(cdL 9 AK)) (v:=r165)) SeesD.nil)) (.inr ⟨by kernel_rfl,GJ.de (([([(2,[],false,[],0),(8,[],false,[],0)]:List AD),([(3,[],false,[],0),(8,[],false,[],0)]:List AD)]:List (List AD)),r165,())⟩) hv186 ?_
   refine AS AC 0 rfl (C5 kr rfl (Dd (a:= .sl 2 (v186.map (CL cdI cdI (fun _=>rfl) (fun _=>rfl)).enc)) kr (C1 (el:=90) kr))) ?_;refine Gx (n:=190) AC 8 [(7,.sl 9 (r165.map AK.enc)),(23,.sl 1 (([([(2,[],false,[],0),(8,[],false,[],0)]:List AD),([(3,[],false,[],0),(8,[],false,[],0)]:List AD)]:List (List AD)).map (cdL 5 AA).enc)),(180,.v (.bool ((v186.length:Int)==(wr .i64 ((wr .i64 ((r165.length:Int) * (wr .i64 ((r165.length:Int) - 1)))).tdiv 2)))))] hp183 kr ?_;rcases BE ((v186.length:Int)==(wr .i64 ((wr .i64 ((r165.length:Int) * (wr .i64 ((r165.length:Int) - 1)))).tdiv 2))) with hc198 | hc198
   ·rw [if_pos hc198] at hj189
    rw [hc198];refine AZ AC 2 ?_;obtain ⟨v187,hv187,hj189⟩:=OB hj189;refine C8 (v:=v187) (caps:=[]) (xs:=[.sl 1 (([([(2,[],false,[],0),(8,[],false,[],0)]:List AD),([(3,[],false,[],0),(8,[],false,[],0)]:List AD)]:List (List AD)).map (cdL 5 AA).enc),.sl 9 (r165.map AK.enc)]) (u:=(([([(2,[],false,[],0),(8,[],false,[],0)]:List AD),([(3,[],false,[],0),(8,[],false,[],0)]:List AD)]:List (List AD)),r165,())) rfl rfl Pv rfl kr kr kr (Aw (Bx (c:=(cdL 1 (cdL 5 AA))) (v:=([([(2,[],false,[],0),(8,[],false,[],0)]:List AD),([(3,[],false,[],0),(8,[],false,[],0)]:List AD)]:List (List AD)))) (Aw (Bx (c:=(cdL 9 AK)) (v:=r165)) SeesD.nil)) (.inr ⟨by kernel_rfl,Il.de (([([(2,[],false,[],0),(8,[],false,[],0)]:List AD),([(3,[],false,[],0),(8,[],false,[],0)]:List AD)]:List (List AD)),r165,())⟩) hv187 ?_;refine AS AC 0 rfl (C5 kr rfl (Dd (a:= .sl 2 (v187.map (CL cdI cdI (fun _=>rfl) (fun _=>rfl)).enc)) kr (C1 (el:=90) kr))) ?_;refine Gx (n:=190) AC 3 [(187,.v (.bool ((v187.length:Int)==0)))] hp183 kr ?_;rcases BE ((v187.length:Int)==0) with hc199 | hc199
    ·rw [if_pos hc199] at hj189
     rw [hc199];obtain ⟨v188,hv188,hj189⟩:=OB hj189;refine C8 (v:=v188) (caps:=[]) (xs:=[]) (u:=(())) rfl rfl Pz rfl kr kr kr SeesD.nil (.inl kr) hv188 ?_;refine AZ AC 2 ?_;have hq:=OI hj189; subst hq
     have hT191:=hT185.drop.drop.drop.drop
     exact A3 rfl ⟨_,⟨hp183,hT191,rfl⟩,WkY.f1⟩
    ·rw [Ce hc199] at hj189
     rw [hc199];refine AZ AC 3 ?_;have hq:=OI hj189; subst hq
     have hT192:=hT185.drop.drop.drop.drop
     exact A3 rfl ⟨_,⟨hp183,hT192,rfl⟩,WkY.f1⟩
   ·rw [Ce hc198] at hj189
    rw [hc198];refine AZ AC 10 ?_;have hq:=OI hj189; subst hq
    have hT193:=hT185.drop.drop.drop.drop
    exact A3 rfl ⟨_,⟨hp183,hT193,rfl⟩,WkY.f1⟩
  ·rw [Ce hc197] at hj189
   rw [hc197];refine AZ AC 22 ?_;have hq:=OI hj189; subst hq
   have hT194:=hT176.drop.drop.drop.drop.drop.drop
   exact A3 rfl ⟨_,⟨hp175,hT194,rfl⟩,WkY.f1⟩
 rintro _ ⟨hp195,hT196,rfl⟩;refine SemY.ret ?_;have hq:=OI h; subst hq;exact ⟨⟨Fr 190 [(6,.v (.bool j189))],hp195⟩,WkY.f1,.inr rfl,[.v (.bool j189)],kr,⟨rfl,hT196⟩⟩
def EA:Cs (((List (List (Int×Int×Int×Bool×Bool))))×((List (Int×Int)))×((List (Int×Int)))×Unit):=(csC (cdL 1 (cdL 5 (cdA (csC (cdK .u8) (csC (cdK .u8) (csC (cdK .u8) (csC cdB (csE cdB))))) (fun _=>rfl)))) (csC (cdL 2 (CL (cdK .u8) (cdK .u8) (fun _=>rfl) (fun _=>rfl))) (csC (cdL 2 (CL (cdK .u8) (cdK .u8) (fun _=>rfl) (fun _=>rfl))) csN)))
def FE (r:Bool):AV:=cdB.enc r
def Kv:List AV->Option AV:=EF EA (fun a=>Cz a.1 a.2.1 a.2.2.1) FE
theorem Kx:XOk 12 Kv:=by
 refine AR Tryz.func12 (c:=BG) ?h2 ⟨Tryz.call12⟩ EA (fun a=>Cz a.1 a.2.1 a.2.2.1) FE (fun a=>(by show 3<=190; decide)) ?h3 ?h4
 case h2=>kernel_rfl
 case h3=>intro b; kernel_rfl
 case h4 =>
  intro a b h;refine Sem.mono (Lr (J8 (L:=[]) (hp:=[]) a.1 a.2.1 a.2.2.1 b h T.nil)) fun e s' hs=>?_
  obtain ⟨h1,ys,h2,h3,-⟩:=hs;exact ⟨h1,ys,h2,h3⟩
theorem P1 {n:Int}(h1 : -9223372036854775808<=n) (h2:n<=9223372036854775807):wr .i64 n=n:=by
 show (if _ then n else _)=n
 rw [if_pos ⟨h1,h2⟩]
theorem Fp {α:Type}(pre:List α) (v:α) (r:List α):idx (pre++v::r) (pre.length:Int)=some v:=by
 unfold idx
 rw [if_pos (by omega)]
 simp
theorem I8 {α:Type}{xs:List α}{i:Nat}(h:i < xs.length):idx xs (i:Int)=some xs[i]:=by
 unfold idx
 rw [if_pos (by omega)]
 simp [h]
theorem Fq {α:Type}(pre:List α) (v:α) (r:List α) (h:(pre++v::r).length<=1000000000):wr .i64 ((pre.length:Int) + 1)=((pre++[v]).length:Int):=by
 simp at h
 rw [P1 (by omega) (by omega)]; simp
theorem II {α:Type}(pre:List α) (v:α) (r:List α):decide ((pre.length:Int) < ((pre++v::r).length:Int))=true:=by
 simp; omega
theorem IQ {b n:Nat}(hb:b<=1000) (h:n<=1000000000):FP b n=true:=by
 have h1:n * b<=1000000000 * 1000:=Nat.mul_le_mul h hb
 unfold FP
 rw [Bool.and_eq_true]
 exact ⟨Nat.ble_eq_true_of_le (by omega),Nat.ble_eq_true_of_le (by omega)⟩
/-- A loop over a list: v, its index, the rest. -/
def goU {α ρ:Type}(B:α->Nat->Option ρ->Option ρ) (D:Option ρ):List α->Nat->Option ρ
 | [],_=>D
 | v::r,i=>B v i (goU B D r (i + 1))
theorem Xw {α ρ:Type}(xs:List α) (L:Nat->Int->Option ρ) (B:α->Nat->Option ρ->Option ρ) (D:Option ρ)
  (hs:∀ f (pre:List α) v r,xs=pre++v::r->L (f + 1) (pre.length:Int)=B v pre.length (L f (((pre++[v]).length:Nat):Int))) (hd:∀ f,L (f + 1) (xs.length:Int)=D) :
  ∀ (r pre:List α) (f:Nat),xs=pre++r->r.length < f->L f (pre.length:Int)=goU B D r pre.length
 | [],pre,f + 1,hx,_=>by
  rw [show pre.length=xs.length by rw [hx]; simp]
  exact hd f
 | v::r,pre,f + 1,hx,hf=>by
  rw [hs f pre v r hx]
  have:=Xw xs L B D hs hd r (pre++[v]) f (by rw [hx]; simp) (by simp at hf; omega)
  rw [this]
  show B v pre.length _=B v pre.length _
  congr 1
  simp
theorem O2 {α ρ:Type}(xs:List α) (L:Nat->Int->Option ρ) (B:α->Nat->Option ρ->Option ρ) (D:Option ρ) (f:Nat) (hf:xs.length < f)
  (hs:∀ f (pre:List α) v r,xs=pre++v::r->L (f + 1) (pre.length:Int)=B v pre.length (L f (((pre++[v]).length:Nat):Int))) (hd:∀ f,L (f + 1) (xs.length:Int)=D):L f 0=goU B D xs 0 :=
 Xw xs L B D hs hd xs [] f rfl hf
/-- The first that meets a test. -/
theorem TO {α:Type}(P:α->Option Bool) (p:α->Bool):∀ (xs:List α) (i:Nat),(∀ x ∈ xs,P x=some (p x))->∃ r:Unit ⊕ Int,goU (fun v i k=>(P v).bind fun b=>if b=true then some (.inr (i:Int)) else k) (some (.inl ())) xs i=some r/\(match r with | .inl _=>xs.any p=false | .inr n=>xs.any p=true/\0<=n)
 | [],i,_=>⟨.inl (),rfl,rfl⟩
 | x::xs,i,h=>by
  unfold goU
  rw [h x (by simp),OS]
  cases hp:p x with
  | true=>exact ⟨.inr i,by simp,by simp [hp]⟩
  | false =>
   obtain ⟨r,h1,h2⟩:=TO P p xs (i + 1) fun y hy=>h y (List.mem_cons_of_mem _ hy)
   refine ⟨r,by simpa using h1,?_⟩
   cases r with
   | inl u=>simpa [hp] using h2
   | inr n=>simpa [hp] using h2
/-- slices.IndexFunc and slices.ContainsFunc. -/
theorem Rb {α:Type}(xs:List α) (hx:xs.length<=99999) (P:α->Option Bool) (p:α->Bool) (hP:∀ x ∈ xs,P x=some (p x)) (L:Nat->Int->Option (Unit ⊕ Int))
  (h:∀ f c,L (f + 1) c=if decide (c < (xs.length:Int))=true then (idx xs c).bind fun v=>(P v).bind fun b=>if b=true then some (.inr c) else L f (wr .i64 (c + 1)) else some (.inl ())) :
  ∃ n,((L 100000 0).bind fun r=>match r with | .inl _=>some (-1) | .inr w=>some w)=some n/\decide (n≥0)=xs.any p:=by
 have e:=O2 xs L (fun v i k=>(P v).bind fun b=>if b=true then some (.inr (i:Int)) else k) (some (.inl ())) 100000 (by omega) (fun f pre v r e=>by
  subst e
  rw [h,if_pos (II pre v r),Fp,OS,Fq pre v r (by omega)]) (fun f=>by rw [h,if_neg (by simp)])
 obtain ⟨r,h1,h2⟩:=TO P p xs 0 hP
 rw [e,h1]
 cases r with
 | inl u=>exact ⟨-1,rfl,by rw [h2]; rfl⟩
 | inr n=>exact ⟨n,rfl,by rw [h2.1]; simpa using h2.2⟩
/- slices.Equal[[]string,string] -/
/- trestle/trestlelaw03.SameClause -/
/- slices.EqualFunc[[]trestle/api.Clause,[]trestle/api.Clause,trestle/api.Clause,trestle/api.Clause] -/
/- trestle/trestlelaw03.Same -/
/- trestle/trestlelaw03.Copy -/
/- trestle/trestlelaw03.Few$1$1 -/
/- slices.IndexFunc[[]string,string] -/
/- slices.ContainsFunc[[]string,string] -/
/- trestle/trestlelaw03.Few$1 -/
/- slices.IndexFunc[[]trestle/api.Clause,trestle/api.Clause] -/
/- slices.ContainsFunc[[]trestle/api.Clause,trestle/api.Clause] -/
/- trestle/trestlelaw03.Few -/
/- trestle/trestleref03.between -/
def BS (x0:Int) (x1:Int) (x2:Int):Option (Bool) :=
 (if (decide (x1<=x0))=true then some (decide (x0<=x2)) else some false).bind fun j2 =>
 some j2
/- trestle/trestleref03.formed -/
def EZ (x0:AD):Option ((Bool)) :=
 if (x0.1==8)=true then
 some (x0.1==8)
 else
 some (x0.1==9)
def EY (x0:AD):Option ((Bool)) :=
 if (x0.1==3)=true then
 some (x0.1==3)
 else
 (EZ x0).bind fun r14 =>
 some r14
def EX (x0:AD):Option ((Bool)) :=
 if (x0.1==2)=true then
 some (x0.1==2)
 else
 (EY x0).bind fun r15 =>
 some r15
def Ea (x0:AD):Option ((Bool)) :=
 if (x0.1==6)=true then
 some (x0.1==6)
 else
 some (x0.1==7)
def Au (x0:AD):Option (Bool) :=
 if (x0.1==1)=true then
 (BS (x0.2.2.2.1.length:Int) 1 16).bind fun v2 =>
 (if v2=true then if (x0.2.2.2.2==0)=true then if (!x0.2.2.1)=true then some (x0.2.1==[]) else some false else some false else some false).bind fun j4 =>
 some j4
 else
 (EX x0).bind fun r16 =>
 if r16=true then
 (if ((x0.2.2.2.1.length:Int)==0)=true then if (x0.2.2.2.2==0)=true then some (!x0.2.2.1) else some false else some false).bind fun j19 =>
 some j19
 else
 if (x0.1==4)=true then
 (if ((x0.2.2.2.1.length:Int)==0)=true then (BS x0.2.2.2.2 1 2).bind fun v23 =>
 some v23 else some false).bind fun j25 =>
 some j25
 else
 if (x0.1==5)=true then
 (if ((x0.2.2.2.1.length:Int)==0)=true then some (x0.2.2.2.2==0) else some false).bind fun j29 =>
 some j29
 else
 (Ea x0).bind fun r33 =>
 if r33=true then
 (BS (x0.2.2.2.1.length:Int) 1 16).bind fun v35 =>
 (if v35=true then some (x0.2.2.2.2==0) else some false).bind fun j37 =>
 some j37
 else
 if (x0.1==10)=true then
 (if ((x0.2.2.2.1.length:Int)==0)=true then (BS x0.2.2.2.2 0 63).bind fun v40 =>
 if v40=true then some (!x0.2.2.1) else some false else some false).bind fun j42 =>
 some j42
 else
 some false
/- trestle/trestlekit.Name -/
/- trestle/trestleref03.has -/
/- trestle/trestleref03.CheckOne -/
/- trestle/trestleref03.Check -/
def Xg (x:AD):Prop:=x.2.1.length<=40/\x.2.2.2.1.length<=20/\∀ s ∈ x.2.2.2.1,s.length<=40
def few (c:List AD):Prop:=c.length<=40/\∀ x ∈ c,Xg x
/-- Names. -/
def WS (c:UInt8):Bool:=decide ((c.toNat:Int) < 97)||decide ((c.toNat:Int) > 122)
def FO (s:List UInt8):Bool:=decide (1<=s.length)&&decide (s.length<=12)&&!s.any WS
theorem TR:∀ (s:List UInt8) (i:Nat),goU (fun v _ (k:Option (Unit ⊕ Bool))=>if WS v=true then some (.inr false) else k) (some (.inl ())) s i=some (if s.any WS=true then .inr false else .inl ())
 | [],_=>rfl
 | c::s,i=>by
  unfold goU
  rw [TR s (i + 1),List.any_cons]
  cases WS c <;> rfl
theorem X2 (s:List UInt8) (h:s.length<=99999):D7 s 100000 0=some (if s.any WS=true then .inr false else .inl ()):=by
 rw [<-TR s 0]
 refine O2 s (D7 s) _ _ 100000 (by omega) (fun f pre v r e=>?_) (fun f=>?_)
 ·conv=>lhs; unfold D7
  rw [e,if_pos (II pre v r),Fp,OS,OS,Fq pre v r (by rw [<-e]; omega)]
  unfold WS
  by_cases h:(v.toNat:Int) < 97 <;> simp [h]
 ·conv=>lhs; unfold D7
  rw [if_neg (by simp)]
theorem Tc (s:List UInt8) (h:s.length<=99999):Fs s=some (FO s):=by
 unfold Fs FO
 rw [X2 s h,OS]
 cases hb:s.any WS
 ·by_cases h1:s.length < 1
  ·have:s.length=0:=by omega
   simp [this]
  ·simp [show (s.length:Int)≥1 by omega,show 1<=s.length by omega]; omega
 ·simp
theorem WX (l:List (List UInt8)) (h:l.length<=99999) (hs:∀ s ∈ l,s.length<=99999):AP l=some (l.any fun s=>!FO s):=by
 unfold AP Aq
 obtain ⟨n,h1,h2⟩:=Rb l h Ei (fun s=>!FO s) (fun x hx=>by unfold Ei; rw [Tc x (hs x hx)]; rfl) (Ay l) (fun f c=>rfl)
 rw [<-h2]
 exact (congrArg (fun o=>o.bind fun v1=>some (decide (v1≥0))) h1)
def NA (l:List (List UInt8)) (s:List UInt8):Bool:=l.any fun v=>s==v
theorem H9 (l:List (List UInt8)) (s:List UInt8) (h:l.length<=99999):Ar l s=some (NA l s):=by
 unfold Ar BO
 obtain ⟨n,h1,h2⟩:=Rb l h (fun v=>some (s==v)) (fun v=>s==v) (fun _ _=>rfl) (A2 l s) (fun f c=>rfl)
 unfold NA
 rw [<-h2]
 exact (congrArg (fun o=>o.bind fun v1=>some (decide (v1≥0))) h1)
/-- What is asked of the fields, by a row: names, from, to, last. -/
def fin (L:Nat) (n:Int) (la:Bool) (w:Int×Int×Int×Bool):Option Bool :=
 (if (decide ((L:Int)<=w.1))=true then if (w.1==0)=true then if (decide (n≥w.2.1))=true then if (decide (n<=w.2.2.1))=true then if w.2.2.2=true then some true else some (!la) else some false else some false else if (decide ((L:Int) > 0))=true then if (decide (n≥w.2.1))=true then if (decide (n<=w.2.2.1))=true then if w.2.2.2=true then some true else some (!la) else some false else some false else some false else some false).bind fun j58=>some j58
theorem K6 (L:Nat) (n:Int) (la:Bool) (a lo hi:Int) (last:Bool):fin L n la (a,lo,hi,last)=some ((decide ((L:Int)<=a)&&(a==0||decide ((L:Int) > 0)))&&(decide (n≥lo)&&(decide (n<=hi)&&(last||!la)))):=by
 unfold fin
 dsimp only
 generalize decide ((L:Int)<=a)=b1
 generalize (a==0)=b2
 generalize decide ((L:Int) > 0)=b3
 generalize decide (n≥lo)=b4
 generalize decide (n<=hi)=b5
 cases b1 <;> cases b2 <;> cases b3 <;> cases b4 <;> cases b5 <;> cases last <;> cases la <;> rfl
theorem TK (x:AD):∃ b,Bi x=some b/\Au x=some b:=by
 obtain ⟨k,am,la,nm,n⟩:=x
 by_cases h1:k=1
 ·subst h1
  have hr:Au (1,am,la,nm,n)=some ((decide (1<=(nm.length:Int))&&decide ((nm.length:Int)<=16))&&((n==0)&&(!la&&(am==[])))):=by
   unfold Au
   unfold BS
   dsimp only
   generalize decide (1<=(nm.length:Int))=b0
   generalize decide ((nm.length:Int)<=16)=b1
   generalize (n==0)=b2
   generalize (am==[])=b3
   cases b0 <;> cases b1 <;> cases b2 <;> cases la <;> cases b3 <;> rfl
  refine ⟨_,?_,hr⟩
  cases am with
  | cons a am =>
   have hc:Bi (1,a::am,la,nm,n)=some false:=rfl
   rw [hc]
   simp
  | nil =>
   have hc:Bi (1,[],la,nm,n)=fin nm.length n la (16,0,0,false):=rfl
   rw [hc,K6]
   congr 1
   rw [Bool.eq_iff_iff]
   generalize nm.length=L
   cases la <;> simp <;> omega
 by_cases h2:k=2
 ·subst h2
  have hr:Au (2,am,la,nm,n)=some (((nm.length:Int)==0)&&((n==0)&&!la)):=by
   unfold Au
   unfold BS
   dsimp only
   generalize ((nm.length:Int)==0)=b0
   generalize (n==0)=b1
   cases b0 <;> cases b1 <;> cases la <;> rfl
  refine ⟨_,?_,hr⟩
  have hc:Bi (2,am,la,nm,n)=fin nm.length n la (0,0,0,false):=rfl
  rw [hc,K6]
  congr 1
  rw [Bool.eq_iff_iff]
  generalize nm.length=L
  cases la <;> simp <;> omega
 by_cases h3:k=3
 ·subst h3
  have hr:Au (3,am,la,nm,n)=some (((nm.length:Int)==0)&&((n==0)&&!la)):=by
   unfold Au
   unfold BS
   dsimp only
   generalize ((nm.length:Int)==0)=b0
   generalize (n==0)=b1
   cases b0 <;> cases b1 <;> cases la <;> rfl
  refine ⟨_,?_,hr⟩
  have hc:Bi (3,am,la,nm,n)=fin nm.length n la (0,0,0,false):=rfl
  rw [hc,K6]
  congr 1
  rw [Bool.eq_iff_iff]
  generalize nm.length=L
  cases la <;> simp <;> omega
 by_cases h8:k=8
 ·subst h8
  have hr:Au (8,am,la,nm,n)=some (((nm.length:Int)==0)&&((n==0)&&!la)):=by
   unfold Au
   unfold BS
   dsimp only
   generalize ((nm.length:Int)==0)=b0
   generalize (n==0)=b1
   cases b0 <;> cases b1 <;> cases la <;> rfl
  refine ⟨_,?_,hr⟩
  have hc:Bi (8,am,la,nm,n)=fin nm.length n la (0,0,0,false):=rfl
  rw [hc,K6]
  congr 1
  rw [Bool.eq_iff_iff]
  generalize nm.length=L
  cases la <;> simp <;> omega
 by_cases h9:k=9
 ·subst h9
  have hr:Au (9,am,la,nm,n)=some (((nm.length:Int)==0)&&((n==0)&&!la)):=by
   unfold Au
   unfold BS
   dsimp only
   generalize ((nm.length:Int)==0)=b0
   generalize (n==0)=b1
   cases b0 <;> cases b1 <;> cases la <;> rfl
  refine ⟨_,?_,hr⟩
  have hc:Bi (9,am,la,nm,n)=fin nm.length n la (0,0,0,false):=rfl
  rw [hc,K6]
  congr 1
  rw [Bool.eq_iff_iff]
  generalize nm.length=L
  cases la <;> simp <;> omega
 by_cases h4:k=4
 ·subst h4
  have hr:Au (4,am,la,nm,n)=some (((nm.length:Int)==0)&&(decide (1<=n)&&decide (n<=2))):=by
   unfold Au
   unfold BS
   dsimp only
   generalize ((nm.length:Int)==0)=b0
   generalize decide (1<=n)=b1
   generalize decide (n<=2)=b2
   cases b0 <;> cases b1 <;> cases b2 <;> cases la <;> rfl
  refine ⟨_,?_,hr⟩
  have hc:Bi (4,am,la,nm,n)=fin nm.length n la (0,1,2,true):=rfl
  rw [hc,K6]
  congr 1
  rw [Bool.eq_iff_iff]
  generalize nm.length=L
  cases la <;> simp <;> omega
 by_cases h5:k=5
 ·subst h5
  have hr:Au (5,am,la,nm,n)=some (((nm.length:Int)==0)&&(n==0)):=by
   unfold Au
   unfold BS
   dsimp only
   generalize ((nm.length:Int)==0)=b0
   generalize (n==0)=b1
   cases b0 <;> cases b1 <;> cases la <;> rfl
  refine ⟨_,?_,hr⟩
  have hc:Bi (5,am,la,nm,n)=fin nm.length n la (0,0,0,true):=rfl
  rw [hc,K6]
  congr 1
  rw [Bool.eq_iff_iff]
  generalize nm.length=L
  cases la <;> simp <;> omega
 by_cases h6:k=6
 ·subst h6
  have hr:Au (6,am,la,nm,n)=some ((decide (1<=(nm.length:Int))&&decide ((nm.length:Int)<=16))&&(n==0)):=by
   unfold Au
   unfold BS
   dsimp only
   generalize decide (1<=(nm.length:Int))=b0
   generalize decide ((nm.length:Int)<=16)=b1
   generalize (n==0)=b2
   cases b0 <;> cases b1 <;> cases b2 <;> cases la <;> rfl
  refine ⟨_,?_,hr⟩
  have hc:Bi (6,am,la,nm,n)=fin nm.length n la (16,0,0,true):=rfl
  rw [hc,K6]
  congr 1
  rw [Bool.eq_iff_iff]
  generalize nm.length=L
  cases la <;> simp <;> omega
 by_cases h7:k=7
 ·subst h7
  have hr:Au (7,am,la,nm,n)=some ((decide (1<=(nm.length:Int))&&decide ((nm.length:Int)<=16))&&(n==0)):=by
   unfold Au
   unfold BS
   dsimp only
   generalize decide (1<=(nm.length:Int))=b0
   generalize decide ((nm.length:Int)<=16)=b1
   generalize (n==0)=b2
   cases b0 <;> cases b1 <;> cases b2 <;> cases la <;> rfl
  refine ⟨_,?_,hr⟩
  have hc:Bi (7,am,la,nm,n)=fin nm.length n la (16,0,0,true):=rfl
  rw [hc,K6]
  congr 1
  rw [Bool.eq_iff_iff]
  generalize nm.length=L
  cases la <;> simp <;> omega
 by_cases h10:k=10
 ·subst h10
  have hr:Au (10,am,la,nm,n)=some (((nm.length:Int)==0)&&((decide (0<=n)&&decide (n<=63))&&!la)):=by
   unfold Au
   unfold BS
   dsimp only
   generalize ((nm.length:Int)==0)=b0
   generalize decide (0<=n)=b1
   generalize decide (n<=63)=b2
   cases b0 <;> cases b1 <;> cases b2 <;> cases la <;> rfl
  refine ⟨_,?_,hr⟩
  have hc:Bi (10,am,la,nm,n)=fin nm.length n la (0,0,63,false):=rfl
  rw [hc,K6]
  congr 1
  rw [Bool.eq_iff_iff]
  generalize nm.length=L
  cases la <;> simp <;> omega
 have e:∀ m:Int,(m=1\/m=2\/m=3\/m=4\/m=5\/m=6\/m=7\/m=8\/m=9\/m=10)->(k==m)=false:=fun m hm=>by
  rw [beq_eq_false_iff_ne]
  rintro rfl
  omega
 refine ⟨false,?_,?_⟩
 ·simp [Bi,F5,F6,F7,F8,F9,GA,GB,GC,GD,e]
 ·simp [Au,EX,EY,EZ,Ea,e]
def fm (x:AD):Bool:=(Au x).getD false
theorem Zi (x:AD):Bi x=some (fm x):=by
 obtain ⟨b,h1,h2⟩:=TK x
 rw [h1]; unfold fm; rw [h2]; rfl
/-- Is a name there twice? -/
def UB (l:List (List UInt8)):List (List UInt8)->Nat->Bool
 | [],_=>false
 | v::r,i=>NA (l.take i) v||UB l r (i + 1)
def Hq (before:List AD) (am:List UInt8):Bool:=before.any fun b=>(b.1==1)&&NA b.2.2.2.1 am
def chk (before:List AD) (x:AD):Int :=
 if fm x=false then 30 else
 if ((!(x.2.1==[]))&&!FO x.2.1)=true\/(x.2.2.2.1.any fun s=>!FO s)=true then 4 else
 if UB x.2.2.2.1 x.2.2.2.1 0=true then 5 else
 if x.2.1=[]\/Hq before x.2.1=true then 0 else 31
theorem TQ (l:List (List UInt8)):∀ (r:List (List UInt8)) (i:Nat),goU (fun v i (k:Option (Unit ⊕ Int))=>if NA (l.take i) v=true then some (.inr 5) else k) (some (.inl ())) r i=some (if UB l r i=true then .inr 5 else .inl ())
 | [],_=>rfl
 | v::r,i=>by
  unfold goU UB
  rw [TQ l r (i + 1)]
  cases NA (l.take i) v <;> rfl
theorem ZC (b:List AD) (j:AD) (h:j.2.2.2.1.length<=99999):Dg b j 100000 0=some (if UB j.2.2.2.1 j.2.2.2.1 0=true then .inr 5 else .inl ()):=by
 rw [<-TQ]
 refine O2 j.2.2.2.1 (Dg b j) _ _ 100000 (by omega) (fun f pre v r e=>?_) (fun f=>?_)
 ·conv=>lhs; unfold Dg
  have hl:j.2.2.2.1.length=pre.length + r.length + 1:=by rw [e]; simp; omega
  rw [if_pos (by rw [e]; exact II pre v r),show idx j.2.2.2.1 (pre.length:Int)=some v by rw [e,Fp],OS,if_pos (by unfold DG; simp; omega),Int.toNat_natCast]
  rw [show ((j.2.2.2.1.take pre.length).drop (0:Int).toNat)=j.2.2.2.1.take pre.length from rfl,H9 _ _ (by simp; omega),OS,Fq pre v r (by rw [<-e]; omega)]
 ·conv=>lhs; unfold Dg
  rw [if_neg (by simp)]
theorem Uy (b:List AD) (x:AD) (h:b.length<=99999) (hb:∀ y ∈ b,y.2.2.2.1.length<=99999):AO b x=some (Hq b x.2.1):=by
 unfold AO Ab
 obtain ⟨n,h1,h2⟩:=Rb b h (fun v=>Ej v x) (fun y=>(y.1==1)&&NA y.2.2.2.1 x.2.1) (fun y hy=>by
  unfold Ej
  rw [H9 _ _ (hb y hy)]
  cases (y.1==1) <;> rfl) (Aj b x) (fun f c=>rfl)
 unfold Hq
 rw [<-h2]
 exact (congrArg (fun o=>o.bind fun v1=>some (decide (v1≥0))) h1)
theorem Y5 (b:List AD) (x:AD) (hb:few b) (hx:Xg x):Fm b x=some (chk b x):=by
 have hn:∀ s ∈ x.2.2.2.1,s.length<=99999:=fun s hs=>by have:=hx.2.2 s hs; omega
 unfold Fm chk
 rw [Zi,OS]
 cases hf:fm x with
 | false=>simp
 | true =>
  rw [if_neg (show ¬ ((!true)=true) by simp),if_neg (show ¬ (true=false) by simp),WX _ (by have:=hx.2.1; omega) hn,Tc _ (by have:=hx.1; omega)]
  have e:((if (!(x.2.1==[]))=true then (some (FO x.2.1)).bind fun v3=>if (!v3)=true then some true else (some (x.2.2.2.1.any fun s=>!FO s)).bind fun v4=>some v4 else (some (x.2.2.2.1.any fun s=>!FO s)).bind fun v5=>some v5):Option Bool)=some (((!(x.2.1==[]))&&!FO x.2.1)||(x.2.2.2.1.any fun s=>!FO s)):=by
   cases (x.2.1==[]) <;> cases FO x.2.1 <;> rfl
  rw [e,OS]
  cases hq:(((!(x.2.1==[]))&&!FO x.2.1)||(x.2.2.2.1.any fun s=>!FO s)) with
  | true=>rw [if_pos rfl,if_pos (by simpa using hq)]
  | false =>
   rw [if_neg (show ¬ (false=true) by simp),if_neg (show ¬ (((!(x.2.1==[]))&&!FO x.2.1)=true\/(x.2.2.2.1.any fun s=>!FO s)=true) by simpa using hq),ZC _ _ (by have:=hx.2.1; omega),OS]
   try dsimp only
   cases hd:UB x.2.2.2.1 x.2.2.2.1 0 with
   | true=>rfl
   | false =>
    rw [if_neg (show ¬ (false=true) by simp)]
    dsimp only
    have hr:=Uy b x (by have:=hb.1; omega) (fun y hy=>by have:=(hb.2 y hy).2.1; omega)
    rw [hr]
    by_cases ha:x.2.1=[]
    ·simp [ha]
    ·simp only [ha,false_or]
     cases Hq b x.2.1 <;> simp [ha]
section
variable (c pre r:List AD) (x:AD) (e:c=pre++x::r) (h:few c)
include e h
end
/-- The first error of a text: its place, and which. -/
def Ri (c:List AD):List AD->Nat->Unit ⊕ (Int×Int)
 | [],_=> .inl ()
 | x::r,i=>if chk (c.take i) x≠0 then .inr ((i:Int),chk (c.take i) x) else Ri c r (i + 1)
def Ow (c:List AD):Int×Int:=if c.length > 32 then (0,7) else match Ri c c 0 with
 | .inl _=>(0,0)
 | .inr w=>w
theorem TP (c:List AD):∀ (r:List AD) (i:Nat),goU (fun x i (k:Option (Unit ⊕ (Int×Int)))=>if (chk (c.take i) x != 0)=true then some (.inr ((i:Int),chk (c.take i) x)) else k) (some (.inl ())) r i=some (Ri c r i)
 | [],_=>rfl
 | x::r,i=>by
  unfold goU Ri
  rw [TP c r (i + 1)]
  by_cases h:chk (c.take i) x=0 <;> simp [h]
theorem UZ {c:List AD}(h:few c) (n:Nat):few (c.take n):=⟨by have:=h.1; simp; omega,fun x hx=>h.2 x (List.mem_of_mem_take hx)⟩
theorem S6 (c:List AD) (h:few c):Fl c=some (Ow c):=by
 have hl:=h.1
 have e1:Df c 100000 0=some (Ri c c 0):=by
  rw [<-TP]
  refine O2 c (Df c) _ _ 100000 (by omega) (fun f pre v r e=>?_) (fun f=>?_)
  ·conv=>lhs; unfold Df
   have hl2:c.length=pre.length + r.length + 1:=by rw [e]; simp; omega
   rw [if_pos (by rw [e]; exact II pre v r),show idx c (pre.length:Int)=some v by rw [e,Fp],OS,if_pos (by unfold DG; simp; omega),Int.toNat_natCast,
    show ((c.take pre.length).drop (0:Int).toNat)=c.take pre.length from rfl,Y5 _ v (UZ h _) (h.2 v (by rw [e]; simp)),OS,Fq pre v r (by rw [<-e]; omega)]
  ·conv=>lhs; unfold Df
   rw [if_neg (by simp)]
 unfold Fl Ow
 by_cases h32:c.length > 32
 ·rw [if_pos (by simp; omega),if_pos h32]
 ·rw [if_neg (by simp; omega),if_neg h32,e1,OS]
  cases Ri c c 0 <;> rfl
/- trestle/trestleref03.rank -/
/- trestle/trestleref03.key -/
/- trestle/trestleref03.named -/
/- trestle/trestleref03.before -/
/- trestle/trestleref03.Reason -/
/-- The first of a word in a list, from a number on. -/
def rkN (s:List UInt8):List (List UInt8)->Nat->Nat
 | [],i=>i
 | v::r,i=>if (s==v)=true then i else rkN s r (i + 1)
theorem VY (s:List UInt8):∀ (l:List (List UInt8)) (i:Nat),NA l s=false->rkN s l i=i + l.length
 | [],i,_=>rfl
 | v::r,i,h=>by
  have h':((s==v)||NA r s)=false:=h
  simp only [Bool.or_eq_false_iff] at h'
  unfold rkN
  rw [if_neg (show ¬ (s==v)=true by rw [h'.1]; decide),VY s r (i + 1) h'.2]
  simp; omega
theorem VS (s:List UInt8):∀ (l:List (List UInt8)) (i:Nat),goU (fun v i (k:Option (Unit ⊕ Int))=>if (s==v)=true then some (.inr (i:Int)) else k) (some (.inl ())) l i=some (if NA l s=true then .inr (rkN s l i:Int) else .inl ())
 | [],_=>rfl
 | v::r,i=>by
  unfold goU rkN
  rw [VS s r (i + 1)]
  have:NA (v::r) s=((s==v)||NA r s):=rfl
  rw [this]
  cases (s==v) <;> rfl
def rk (l:List (List UInt8)) (s:List UInt8):Int:=(rkN s l 0:Nat)
theorem VX (x:Ai) (c:AD) (h:c.2.2.2.1.length<=99999):DL x c=some (rk c.2.2.2.1 x.1.2.1):=by
 unfold DL BO
 have e:A2 c.2.2.2.1 x.1.2.1 100000 0=some (if NA c.2.2.2.1 x.1.2.1=true then .inr (rkN x.1.2.1 c.2.2.2.1 0:Int) else .inl ()):=by
  rw [<-VS]
  refine O2 c.2.2.2.1 (A2 c.2.2.2.1 x.1.2.1) _ _ 100000 (by omega) (fun f pre v r e=>?_) (fun f=>?_)
  ·conv=>lhs; unfold A2
   rw [if_pos (by rw [e]; exact II pre v r),show idx c.2.2.2.1 (pre.length:Int)=some v by rw [e,Fp],OS,Fq pre v r (by rw [<-e]; omega)]
  ·conv=>lhs; unfold A2
   rw [if_neg (by simp)]
 rw [e]
 cases hh:NA c.2.2.2.1 x.1.2.1 with
 | true=>simp [rk]
 | false=>simp [rk,VY _ _ _ hh]
/-- -1, 0 or 1. -/
def KA (x y:Int):Int:=if x < y then -1 else if y < x then 1 else 0
theorem UP (x y:Int):B4 x y=some (KA x y):=by
 unfold B4 Ef KA
 simp only [bne_self_eq_false,OS,Bool.false_eq_true,if_false,decide_eq_true_eq,gt_iff_lt]
 split
 ·rfl
 ·split <;> rfl
def S8 (x y:List UInt8):Int:=if Go.Op.bytesLess x y=true then -1 else if (!(Go.Op.bytesLess x y||x==y))=true then 1 else 0
theorem Y9 (x y:List UInt8):Ct x y=some (S8 x y):=by
 unfold Ct DT S8
 simp only [beq_self_eq_true,Bool.not_true,OS,Bool.false_eq_true,if_false]
 split
 ·rfl
 ·split <;> rfl
/-- Does a clause name a guest? -/
def nmB (c:AD) (g:Ah):Bool :=
 if (c.1==4)=true then g.2.2.2.2.1==c.2.2.2.2 else
 if (c.1==5)=true then g.2.2.2.2.2.2.1 else
 if (c.1==7)=true then NA c.2.2.2.1 g.2.2.1 else g.2.2.2.2.2.2.2.2.any fun s=>NA c.2.2.2.1 s
theorem Qj (t:List (List UInt8)) (c:AD) (ht:t.length<=99999) (h:c.2.2.2.1.length<=99999):AU t c=some (t.any fun s=>NA c.2.2.2.1 s):=by
 unfold AU Ak
 obtain ⟨n,h1,h2⟩:=Rb t ht (fun v=>Dq v c) (fun s=>NA c.2.2.2.1 s) (fun v _=>by unfold Dq; rw [H9 _ _ h]; rfl) (As t c) (fun f c=>rfl)
 rw [<-h2]
 exact (congrArg (fun o=>o.bind fun v1=>some (decide (v1≥0))) h1)
def nv (c:AD) (g:Ah):Int:=if (!(nmB c g==c.2.2.1))=true then 0 else 1
def QP (i:Int):Bool:=decide (i≥0)&&decide (i<=63)
theorem ZI (i:Int):CU i=some (QP i):=by
 unfold CU QP
 by_cases h:i≥0 <;> simp [h]
def kyI (i n:Int):Int:=(wr .i64 ((wr .i64 (i * (wr .i64 ((wr .i64 (n + n)) + 1)))) + n)).tmod 64
theorem ZL (i:Int) (c:AD):Dc i c=some (kyI i c.2.2.2.2):=by
 unfold Dc kyI
 rw [Int.two_mul]
def b2 (b:Bool):Int:=if b=true then 1 else 0
theorem Zg (b:Bool):IA b=some (b2 b):=by cases b <;> rfl
def snc (y:Bool) (s t:Int):Int:=if (!((s==0)==(t==0)))=true then KA (b2 (s==0)) (b2 (t==0)) else if y=true then wr .i64 (0 - KA s t) else KA s t
/-- What a clause says of two guests at their places, without regard to Among. -/
def Ns (c:AD) (a b:Ah) (i j:Int):Int :=
 if (c.1==1)=true then KA (rk c.2.2.2.1 a.2.1) (rk c.2.2.2.1 b.2.1) else
 if (c.1==2)=true then snc false a.2.2.2.1 b.2.2.2.1 else
 if (c.1==3)=true then snc true a.2.2.2.1 b.2.2.2.1 else
 if (c.1==8)=true then S8 a.1 b.1 else
 if (c.1==9)=true then if (!QP i||!QP j)=true then 0 else KA i j else
 if (c.1==10)=true then if (!QP i||!QP j)=true then 0 else KA (kyI i c.2.2.2.2) (kyI j c.2.2.2.2) else
 KA (nv c a) (nv c b)
def amB (c:AD) (a b:Ah):Bool:=(!(c.2.1==[]))&&((!(a.2.1==c.2.1))||(!(b.2.1==c.2.1)))
def dir (c:AD) (a b:Ah) (i j:Int):Int:=if amB c a b=true then 0 else Ns c a b i j
theorem Zf (c:AD) (a b:Ah):((if (!(c.2.1==[]))=true then if (!(a.2.1==c.2.1))=true then some true else some (!(b.2.1==c.2.1)) else some false):Option Bool)=some (amB c a b):=by
 unfold amB
 cases (c.2.1==[]) <;> cases (a.2.1==c.2.1) <;> rfl
theorem R7 (a b:Ah) (i j:Int) (c:AD):Cj (a,i) (b,j) c=some (snc (c.1==3) a.2.2.2.1 b.2.2.2.1):=by
 unfold Cj snc Ff
 simp only [Zg,UP,OS]
 split
 ·rfl
 ·split <;> rfl
theorem ZB (c:AD) (a b:Ah) (i j:Int) (h:c.2.2.2.1.length<=99999) (ha:a.2.2.2.2.2.2.2.2.length<=99999) (hb:b.2.2.2.2.2.2.2.2.length<=99999) (hk:1<=c.1/\c.1<=10):Dp (a,i) (b,j) c=some (dir c a b i j):=by
 have cl:∀ (o:Option Int) (x:Int),o=some x->((((if (!(c.2.1==[]))=true then if (!(a.2.1==c.2.1))=true then some true else some (!(b.2.1==c.2.1)) else some false):Option Bool).bind fun j2=>if j2=true then some 0 else o.bind fun v4=>some v4):Option Int)=some (if amB c a b=true then 0 else x):=fun o x e=>by
  rw [Zf,OS,e]
  cases amB c a b <;> rfl
 have nm:∀ (p q:Bool),((if (!(p==c.2.2.1))=true then some 0 else some 1:Option Int).bind fun v1=>(if (!(q==c.2.2.1))=true then some 0 else some 1:Option Int).bind fun v2=>(B4 v1 v2).bind fun v3=>some v3)=some (KA (if (!(p==c.2.2.1))=true then 0 else 1) (if (!(q==c.2.2.1))=true then 0 else 1)):=fun p q=>by
  simp only [UP]
  cases (p==c.2.2.1) <;> cases (q==c.2.2.1) <;> rfl
 have pl:∀ (o:Int->Option Int) (k:Int->Int),(∀ i,o i=some (k i))->(((CU i).bind fun v1=>((if (!v1)=true then some true else (CU j).bind fun v2=>some (!v2)):Option Bool).bind fun j4=>if j4=true then some 0 else (o i).bind fun v6=>(o j).bind fun v7=>(B4 v6 v7).bind fun v8=>some v8):Option Int)=some (if (!QP i||!QP j)=true then 0 else KA (k i) (k j)):=fun o k e=>by
  simp only [ZI,OS,e,UP]
  cases QP i <;> cases QP j <;> rfl
 unfold Dp dir
 by_cases h1:c.1=1
 ·have e1:(c.1==1)=true:=by simp [h1]
  rw [if_pos e1]
  refine cl (B9 (fun x (v:AD×Unit)=>DL x v.1) (a,i) (b,j) (c,())) _ ?_
  unfold B9 Ns
  dsimp only
  rw [if_pos e1,VX _ c h,OS,VX _ c h,OS,UP]; rfl
 rw [if_neg (show ¬ (c.1==1)=true by simpa using h1)]
 by_cases h2:c.1=2
 ·have e2:(c.1==2)=true:=by simp [h2]
  rw [if_pos e2]
  refine cl (Cj (a,i) (b,j) c) _ ?_
  unfold Ns
  rw [if_neg (show ¬ (c.1==1)=true by simpa using h1),if_pos e2,R7,h2]; rfl
 rw [if_neg (show ¬ (c.1==2)=true by simpa using h2)]
 by_cases h3:c.1=3
 ·have e3:(c.1==3)=true:=by simp [h3]
  rw [if_pos e3]
  refine cl (Cj (a,i) (b,j) c) _ ?_
  unfold Ns
  rw [if_neg (show ¬ (c.1==1)=true by simpa using h1),if_neg (show ¬ (c.1==2)=true by simpa using h2),if_pos e3,R7,h3]; rfl
 rw [if_neg (show ¬ (c.1==3)=true by simpa using h3)]
 by_cases h4:c.1=4
 ·have e4:(c.1==4)=true:=by simp [h4]
  rw [if_pos e4]
  refine cl (B9 (fun x (v:AD×AD×Unit)=>BA x v.1 v.2.1) (a,i) (b,j) (c,c,())) _ ?_
  have:Ns c a b i j=KA (nv c a) (nv c b):=by unfold Ns; simp [h4]
  rw [this]
  unfold nv nmB
  rw [if_pos e4,if_pos e4]
  exact nm _ _
 rw [if_neg (show ¬ (c.1==4)=true by simpa using h4)]
 by_cases h5:c.1=5
 ·have e5:(c.1==5)=true:=by simp [h5]
  rw [if_pos e5]
  refine cl (B9 (fun x (v:Unit×AD×Unit)=>BB x v.2.1) (a,i) (b,j) ((),c,())) _ ?_
  have:Ns c a b i j=KA (nv c a) (nv c b):=by unfold Ns; simp [h5]
  rw [this]
  unfold nv nmB
  simp only [h5]
  exact nm _ _
 rw [if_neg (show ¬ (c.1==5)=true by simpa using h5)]
 by_cases h6:c.1=6
 ·have e6:(c.1==6)=true:=by simp [h6]
  rw [if_pos e6]
  refine cl (B9 (fun x (v:AD×AD×Unit)=>A5 x v.1 v.2.1) (a,i) (b,j) (c,c,())) _ ?_
  have:Ns c a b i j=KA (nv c a) (nv c b):=by unfold Ns; simp [h6]
  rw [this]
  unfold B9 A5 FJ
  dsimp only
  rw [Qj _ _ ha h,Qj _ _ hb h]
  unfold nv nmB
  simp only [h6]
  exact nm _ _
 rw [if_neg (show ¬ (c.1==6)=true by simpa using h6)]
 by_cases h7:c.1=7
 ·have e7:(c.1==7)=true:=by simp [h7]
  rw [if_pos e7]
  refine cl (B9 (fun x (v:AD×AD×Unit)=>A6 x v.1 v.2.1) (a,i) (b,j) (c,c,())) _ ?_
  have:Ns c a b i j=KA (nv c a) (nv c b):=by unfold Ns; simp [h7]
  rw [this]
  unfold B9 A6 FK
  dsimp only
  rw [H9 _ _ h,H9 _ _ h]
  unfold nv nmB
  simp only [h7]
  exact nm _ _
 rw [if_neg (show ¬ (c.1==7)=true by simpa using h7)]
 by_cases h8:c.1=8
 ·have e8:(c.1==8)=true:=by simp [h8]
  rw [if_pos e8]
  refine cl (D9 (a,i) (b,j)) _ ?_
  have:Ns c a b i j=S8 a.1 b.1:=by unfold Ns; simp [h8]
  rw [this]
  unfold D9
  rw [Y9]; rfl
 rw [if_neg (show ¬ (c.1==8)=true by simpa using h8)]
 by_cases h10:c.1=10
 ·have e10:(c.1==10)=true:=by simp [h10]
  rw [if_pos e10]
  refine cl (Ac (a,i) (b,j) c) _ ?_
  have:Ns c a b i j=if (!QP i||!QP j)=true then 0 else KA (kyI i c.2.2.2.2) (kyI j c.2.2.2.2):=by unfold Ns; simp [h10]
  rw [this]
  exact pl (fun i=>Dc i c) (fun i=>kyI i c.2.2.2.2) (fun i=>ZL i c)
 rw [if_neg (show ¬ (c.1==10)=true by simpa using h10)]
 have h9:c.1=9:=by omega
 refine cl (Ad (a,i) (b,j)) _ ?_
 have:Ns c a b i j=if (!QP i||!QP j)=true then 0 else KA i j:=by unfold Ns; simp [h9]
 rw [this]
 exact pl (fun i=>El i) (fun i=>i) (fun i=>rfl)
theorem Rg:∀ (x y:List UInt8),Go.Op.bytesLess x y=false->Go.Op.bytesLess y x=!(x==y)
 | [],[],_=>rfl
 | a::x,[],_=>rfl
 | [],b::y,h=>by cases h
 | a::x,b::y,h=>by
  have h':(decide (a < b)||(a==b&&Go.Op.bytesLess x y))=false:=h
  simp only [Bool.or_eq_false_iff,decide_eq_false_iff_not] at h'
  show (decide (b < a)||(b==a&&Go.Op.bytesLess y x))=!(a::x==b::y)
  by_cases e:a=b
  ·subst e
   have h2:Go.Op.bytesLess x y=false:=by simpa using h'.2
   have:=Rg x y h2
   simp [this]
  ·have hlt:b < a:=by
    rcases Nat.lt_trichotomy a.toNat b.toNat with q | q | q
    ·exact absurd (UInt8.lt_iff_toNat_lt.2 q) h'.1
    ·exact absurd (UInt8.toNat_inj.1 q) e
    ·exact UInt8.lt_iff_toNat_lt.2 q
   simp [hlt,e]
theorem YE (y:Bool) (s t:Int):snc y s t=if ((s != 0)&&((t==0)||(if y=true then decide (s > t) else decide (s < t))))=true then -1 else if ((t != 0)&&((s==0)||(if y=true then decide (t > s) else decide (t < s))))=true then 1 else 0:=by
 have w1:wr .i64 1=1:=by decide
 have w2:wr .i64 (-1) = -1:=by decide
 have w3:wr .i64 0=0:=by decide
 unfold snc KA b2
 by_cases hs:s=0 <;> by_cases ht:t=0
 ·subst hs ht; cases y <;> simp [w3]
 ·subst hs; simp [ht]
 ·subst ht; simp [hs]
 ·have e1:(s==0)=false:=by simpa using hs
  have e2:(t==0)=false:=by simpa using ht
  have e3:(s != 0)=true:=by simpa using hs
  have e4:(t != 0)=true:=by simpa using ht
  rw [e1,e2,e3,e4]
  rcases Int.lt_trichotomy s t with q | q | q
  ·have q2:¬ t < s:=by omega
   cases y <;> simp [q,q2,w1]
  ·subst q; cases y <;> simp [w3]
  ·have q2:¬ s < t:=by omega
   cases y <;> simp [q,q2,w2]
/-- The first clause that separates two guests. -/
def rsn (a b:Ah) (i j:Int):List AD->Nat->Unit ⊕ (Int×Int)
 | [],_=> .inl ()
 | x::r,k=>if dir x a b i j=0 then rsn a b i j r (k + 1) else .inr ((k:Int),dir x a b i j)
def XB (c:List AD) (a b:Ah) (i j:Int):Int×Int:=match rsn a b i j c 0 with
 | .inl _=>(-1,0)
 | .inr w=>w
theorem Xk (a b:Ah) (i j:Int):∀ (r:List AD) (k:Nat),goU (fun x k (n:Option (Unit ⊕ (Int×Int)))=>if (dir x a b i j != 0)=true then some (.inr ((k:Int),dir x a b i j)) else n) (some (.inl ())) r k=some (rsn a b i j r k)
 | [],_=>rfl
 | x::r,k=>by
  unfold goU rsn
  rw [Xk a b i j r (k + 1)]
  by_cases h:dir x a b i j=0 <;> simp [h]
def Qr (g:Ah):Prop:=g.2.2.2.2.2.2.2.2.length<=10
def WH (c:List AD):Prop:=∀ x ∈ c,1<=x.1/\x.1<=10
theorem TI (c:List AD) (a b:Ah) (i j:Int) (h:few c) (hk:WH c) (ha:Qr a) (hb:Qr b):Af c (a,i) (b,j)=some (XB c a b i j):=by
 have hl:=h.1
 have e:AY c 100000 a.1 a.2.1 a.2.2.1 a.2.2.2.1 a.2.2.2.2.1 a.2.2.2.2.2.1 a.2.2.2.2.2.2.1 a.2.2.2.2.2.2.2.1 a.2.2.2.2.2.2.2.2 i b.1 b.2.1 b.2.2.1 b.2.2.2.1 b.2.2.2.2.1 b.2.2.2.2.2.1 b.2.2.2.2.2.2.1 b.2.2.2.2.2.2.2.1 b.2.2.2.2.2.2.2.2 j 0=some (rsn a b i j c 0):=by
  rw [<-Xk]
  refine O2 c (fun f n=>AY c f a.1 a.2.1 a.2.2.1 a.2.2.2.1 a.2.2.2.2.1 a.2.2.2.2.2.1 a.2.2.2.2.2.2.1 a.2.2.2.2.2.2.2.1 a.2.2.2.2.2.2.2.2 i b.1 b.2.1 b.2.2.1 b.2.2.2.1 b.2.2.2.2.1 b.2.2.2.2.2.1 b.2.2.2.2.2.2.1 b.2.2.2.2.2.2.2.1 b.2.2.2.2.2.2.2.2 j n) _ _ 100000 (by omega) (fun f pre v r e=>?_) (fun f=>?_)
  ·conv=>lhs; unfold AY
   have hv:Xg v:=h.2 v (by rw [e]; simp)
   have hd:=ZB v a b i j (by have:=hv.2.1; omega) (by unfold Qr at ha; omega) (by unfold Qr at hb; omega) (hk v (by rw [e]; simp))
   rw [if_pos (by rw [e]; exact II pre v r),show idx c (pre.length:Int)=some v by rw [e,Fp],OS]
   rw [show Dp ((a.1,a.2.1,a.2.2.1,a.2.2.2.1,a.2.2.2.2.1,a.2.2.2.2.2.1,a.2.2.2.2.2.2.1,a.2.2.2.2.2.2.2.1,a.2.2.2.2.2.2.2.2),i) ((b.1,b.2.1,b.2.2.1,b.2.2.2.1,b.2.2.2.2.1,b.2.2.2.2.2.1,b.2.2.2.2.2.2.1,b.2.2.2.2.2.2.2.1,b.2.2.2.2.2.2.2.2),j) v=some (dir v a b i j) from hd,OS,Fq pre v r (by rw [<-e]; omega)]
  ·show AY c (f + 1) a.1 a.2.1 a.2.2.1 a.2.2.2.1 a.2.2.2.2.1 a.2.2.2.2.2.1 a.2.2.2.2.2.2.1 a.2.2.2.2.2.2.2.1 a.2.2.2.2.2.2.2.2 i b.1 b.2.1 b.2.2.1 b.2.2.2.1 b.2.2.2.2.1 b.2.2.2.2.2.1 b.2.2.2.2.2.2.1 b.2.2.2.2.2.2.2.1 b.2.2.2.2.2.2.2.2 j (c.length:Int)=_
   conv=>lhs; unfold AY
   rw [if_neg (by simp)]
 unfold Af XB
 dsimp only
 rw [e,OS]
 cases rsn a b i j c 0 <;> rfl
theorem Nt (c:List AD) (h:few c) (hk:WH c):∀ (r pre:List AD) (f:Nat),c=pre++r->r.length < f->Cw c f pre (pre.length:Int)=some c
 | [],pre,f + 1,e,_=>by
  unfold Cw
  rw [if_neg (by rw [e]; simp),e,List.append_nil]
 | v::r,pre,f + 1,e,hf=>by
  have hl:=h.1
  have hl2:c.length=pre.length + r.length + 1:=by rw [e]; simp; omega
  simp only [List.length_cons] at hf
  have hkv:=hk v (by rw [e]; simp)
  unfold Cw
  rw [if_pos (by rw [e]; exact II pre v r),show idx c (pre.length:Int)=some v by rw [e,Fp],OS,show Ek v=some v by unfold Ek; rw [if_pos hkv],OS,if_pos (IQ (by omega) (by omega)),show wr .i64 ((pre.length:Int) + 1)=((pre++[v]).length:Int) from Fq pre v r (by rw [<-e]; omega)]
  exact Nt c h hk r (pre++[v]) f (by rw [e]; simp) (by omega)
theorem V5 {x:AD}(h:fm x=true):1<=x.1/\x.1<=10:=by
 by_cases hk:1<=x.1/\x.1<=10
 ·exact hk
 ·exfalso
  have n:∀ q:Int,1<=q->q<=10->¬ (x.1==q)=true:=fun q h1 h2 e=>hk (by have:x.1=q:=(by simpa using e); omega)
  have e:Au x=some false:=by
   unfold Au EX EY EZ Ea
   have n9:(x.1==9)=false:=by simpa using n 9 (by omega) (by omega)
   have n7:(x.1==7)=false:=by simpa using n 7 (by omega) (by omega)
   rw [if_neg (n 1 (by omega) (by omega)),if_neg (n 2 (by omega) (by omega)),if_neg (n 3 (by omega) (by omega)),if_neg (n 8 (by omega) (by omega)),if_neg (n 4 (by omega) (by omega)),if_neg (n 5 (by omega) (by omega)),if_neg (n 6 (by omega) (by omega)),if_neg (n 10 (by omega) (by omega)),n9,n7]
   rfl
  unfold fm at h
  rw [e] at h
  cases h
theorem PN (c:List AD):∀ (r:List AD) (i:Nat),(∃ u,Ri c r i = .inl u/\∀ x ∈ r,fm x=true)\/∃ w,Ri c r i = .inr w/\w.2≠0
 | [],i=> .inl ⟨(),rfl,fun x hx=>by cases hx⟩
 | x::r,i=>by
  unfold Ri
  by_cases h:chk (c.take i) x=0
  ·rw [if_neg (by simpa using h)]
   rcases PN c r (i + 1) with ⟨u,h1,h2⟩ | h1
   ·refine .inl ⟨u,h1,fun y hy=>?_⟩
    rcases List.mem_cons.1 hy with rfl | hy
    ·cases hf:fm y with
     | true=>rfl
     | false=>unfold chk at h; rw [if_pos hf] at h; cases h
    ·exact h2 y hy
   ·exact .inr h1
  ·rw [if_pos h]
   exact .inr ⟨_,rfl,h⟩
theorem LO {c:List AD}(h:(Ow c).2=0):WH c:=by
 unfold Ow at h
 split at h
 ·cases h
 ·rcases PN c c 0 with ⟨u,h1,h2⟩ | ⟨w,h1,h2⟩
  ·exact fun x hx=>V5 (h2 x hx)
  ·rw [h1] at h; exact absurd h h2
theorem Uz (c:List AD) (a b:Ah) (i j:Int) (h:few c) (ha:Qr a) (hb:Qr b):FB c a b i j=some (if (Ow c).2=0 then XB c a b i j else (0,0)):=by
 unfold FB D8
 rw [S6 c h,OS]
 by_cases hv:(Ow c).2=0
 ·have hk:=LO hv
  have e0:Cw c 100000 [] 0=some c:=Nt c h hk c [] 100000 rfl (by have:=h.1; omega)
  rw [if_neg (by simpa using hv),if_pos hv,e0]
  simp only [OS]
  rw [if_neg (by simp),TI c a b i j h hk ha hb]
  rfl
 ·rw [if_pos (by simpa using hv),if_neg hv]
  rfl
theorem TB (c:List AD) (a b:Ah) (i j:Int) (h:few c) (ha:Qr a) (hb:Qr b):D6 c a b i j=some (if (Ow c).2=0 then XB c a b i j else (0,0)).2:=by
 unfold D6
 rw [Uz c a b i j h ha hb]; rfl
/-- A letter a to d. -/
def wd (k:Int):List UInt8:=((((([97,98,99,100]:List UInt8).take (([97,98,99,100]:List UInt8).length:Int).toNat).drop k.toNat).take (1:Int).toNat).drop (0:Int).toNat)
theorem Yj {k:Int}(h1:0<=k) (h2:k < 4):k=0\/k=1\/k=2\/k=3:=by omega
theorem T5 {k:Int}(h1:0<=k) (h2:k < 4):FO (wd k)=true/\(wd k).length=1:=by
 rcases Yj h1 h2 with rfl | rfl | rfl | rfl <;> decide
theorem YQ {a b:Int}(h1:0<=a) (h2:a < 4) (h3:0<=b) (h4:b < 4) (h:(wd a==wd b)=true):a=b:=by
 rcases Yj h1 h2 with rfl | rfl | rfl | rfl <;> rcases Yj h3 h4 with rfl | rfl | rfl | rfl <;> first | rfl | (exact absurd h (by decide))
theorem W8 {k:Int}(h1:0<=k) (h2:k < 4):DG k (([97,98,99,100]:List UInt8).length:Int) ([97,98,99,100]:List UInt8).length=true/\DG 0 (1:Int) ((([97,98,99,100]:List UInt8).take (([97,98,99,100]:List UInt8).length:Int).toNat).drop k.toNat).length=true:=by
 rcases Yj h1 h2 with rfl | rfl | rfl | rfl <;> exact ⟨by decide,by decide⟩
def u8 (n:Int):Prop:=0<=n/\n<=255
theorem tm4 {n:Int}(h:u8 n):0<=n.tmod 4/\n.tmod 4 < 4:=by
 have:=h.1
 rw [Int.tmod_eq_emod_of_nonneg this]
 omega
theorem wr8 (n:Int) (h:u8 n):u8 (wr .u8 (n + 1))/\(wr .u8 (n + 1)).tmod 4≠n.tmod 4:=by
 have e:wr .u8 (n + 1)=(n + 1) % 256:=rfl
 have h2:u8 ((n + 1) % 256):=⟨by omega,by omega⟩
 refine ⟨e ▸ h2,?_⟩
 rw [e,Int.tmod_eq_emod_of_nonneg h2.1,Int.tmod_eq_emod_of_nonneg h.1]
 unfold u8 at h
 omega
/-- The names of a code. -/
def nms (v:Int×Int×Int×Bool×Bool):List (List UInt8):=if ((Du .u8 v.2.2.1 4)!=0)=true then [wd (v.2.2.1.tmod 4),wd ((wr .u8 (v.2.2.1 + 1)).tmod 4)] else [wd (v.2.2.1.tmod 4)]
theorem Xy (x0:List (Int×Int×Int×Bool×Bool)) (c2:List AD) (c3:List UInt8) (c4:Int) (v:Int×Int×Int×Bool×Bool) (h:u8 v.2.2.1):GU x0 c2 c3 c4 v=some (nms v):=by
 unfold GU nms
 obtain ⟨h1,_⟩:=wr8 _ h
 obtain ⟨q1,q2⟩:=tm4 h1
 obtain ⟨d1,d2⟩:=W8 q1 q2
 by_cases hc:((Du .u8 v.2.2.1 4)!=0)=true
 ·rw [if_pos hc,if_pos hc,if_pos d1,if_pos d2]
  refine (if_pos ?_).trans rfl
  show FP 16 2=true
  decide
 ·rw [if_neg hc,if_neg hc]; rfl
/-- The clause of a code. -/
def clz (k:Int) (am:List UInt8) (la:Bool) (nm:List (List UInt8)) (b:Int):AD :=
 if k=1 then (1,am,false,nm,0) else if k=4 then (4,am,la,[],wr .i64 (1 + wr .i64 (b.tmod 2))) else if k=5 then (5,am,la,[],0) else
 if k=6 then (6,am,la,nm,0) else if k=7 then (7,am,la,nm,0) else if k=10 then (10,am,false,[],wr .i64 (b.tmod 64)) else (k,am,false,[],0)
theorem ten {k:Int}(h1:1<=k) (h2:k<=10):k=1\/k=2\/k=3\/k=4\/k=5\/k=6\/k=7\/k=8\/k=9\/k=10:=by omega
theorem Xz (x0:List (Int×Int×Int×Bool×Bool)) (c2:List AD) (c3:List UInt8) (c4 a b d:Int) (e g:Bool) (k:Int) (am:List UInt8) (w:List UInt8) (nm:List (List UInt8)) (h1:1<=k) (h2:k<=10) :
  GV x0 c3 c4 (c2,a,b,d,e,g,k,am,false,0,w::nm)=some (c2,(if k=1 then w else c3),clz k am e (w::nm) b):=by
 rcases ten h1 h2 with rfl | rfl | rfl | rfl | rfl | rfl | rfl | rfl | rfl | rfl <;> rfl
/-- Names that are fit. -/
def Yc (nm:List (List UInt8)):Prop:=1<=nm.length/\nm.length<=2/\(nm.any fun s=>!FO s)=false/\UB nm nm 0=false/\∀ s ∈ nm,s.length<=40
theorem Tg (v:Int×Int×Int×Bool×Bool) (h:u8 v.2.2.1):Yc (nms v)/\∃ r,nms v=wd (v.2.2.1.tmod 4)::r:=by
 obtain ⟨h1,h0⟩:=wr8 _ h
 obtain ⟨q1,q2⟩:=tm4 h1
 obtain ⟨p1,p2⟩:=tm4 h
 obtain ⟨a1,a2⟩:=T5 p1 p2
 obtain ⟨b1,b2⟩:=T5 q1 q2
 have hne:(wd ((wr .u8 (v.2.2.1 + 1)).tmod 4)==wd (v.2.2.1.tmod 4))=false:=by
  cases hh:(wd ((wr .u8 (v.2.2.1 + 1)).tmod 4)==wd (v.2.2.1.tmod 4)) with
  | false=>rfl
  | true=>exact absurd (YQ q1 q2 p1 p2 hh) h0
 unfold nms
 split
 ·refine ⟨⟨by simp,by simp,by simp [a1,b1],?_,fun s hs=>?_⟩,_,rfl⟩
  ·simp [UB,NA,hne]
  ·rcases (by simpa using hs:s=_\/s=_) with rfl | rfl <;> omega
 ·refine ⟨⟨by simp,by simp,by simp [a1],by simp [UB,NA],fun s hs=>?_⟩,_,rfl⟩
  have:s=wd (v.2.2.1.tmod 4):=by simpa using hs
  rw [this]; omega
theorem Xa (k:Int) (am:List UInt8) (la:Bool) (nm:List (List UInt8)) (b:Int) (h1:1<=k) (h2:k<=10) (hb:u8 b) (ha:k=1->am=[]) (hn:Yc nm):fm (clz k am la nm b)=true:=by
 obtain ⟨n1,n2,_⟩:=hn
 have hl:nm.length=1\/nm.length=2:=by omega
 have e2:wr .i64 (1 + wr .i64 (b.tmod 2))=1\/wr .i64 (1 + wr .i64 (b.tmod 2))=2:=by
  rw [Int.tmod_eq_emod_of_nonneg hb.1]
  have hw:wr .i64 (b % 2)=b % 2:=P1 (by omega) (by omega)
  rw [hw,P1 (by omega) (by omega)]
  omega
 have e64:0<=wr .i64 (b.tmod 64)/\wr .i64 (b.tmod 64)<=63:=by
  rw [Int.tmod_eq_emod_of_nonneg hb.1,P1 (by omega) (by omega)]
  omega
 unfold fm
 rcases ten h1 h2 with rfl | rfl | rfl | rfl | rfl | rfl | rfl | rfl | rfl | rfl
 ·obtain rfl:=ha rfl
  have:clz 1 [] la nm b=(1,[],false,nm,0):=rfl
  rw [this]
  rcases hl with h | h <;> simp [Au,BS,h]
 ·rfl
 ·rfl
 ·have:clz 4 am la nm b=(4,am,la,[],wr .i64 (1 + wr .i64 (b.tmod 2))):=rfl
  rw [this]
  rcases e2 with h | h <;> rw [h] <;> rfl
 ·rfl
 ·have:clz 6 am la nm b=(6,am,la,nm,0):=rfl
  rw [this]
  rcases hl with h | h <;> simp [Au,EX,EY,EZ,Ea,BS,h]
 ·have:clz 7 am la nm b=(7,am,la,nm,0):=rfl
  rw [this]
  rcases hl with h | h <;> simp [Au,EX,EY,EZ,Ea,BS,h]
 ·rfl
 ·rfl
 ·have:clz 10 am la nm b=(10,am,false,[],wr .i64 (b.tmod 64)):=rfl
  rw [this]
  simp [Au,EX,EY,EZ,Ea,BS,e64.1,e64.2]
/-- Every clause is valid behind what stands before it. -/
def I7 (pre:List AD):List AD->Prop
 | []=>True
 | x::r=>chk pre x=0/\I7 (pre++[x]) r
theorem Lg:∀ (a pre b:List AD),I7 pre (a++b)↔I7 pre a/\I7 (pre++a) b
 | [],pre,b=>by simp [I7]
 | x::a,pre,b=>by
  simp only [List.cons_append,I7,Lg a (pre++[x]) b,List.append_assoc,List.cons_append,List.nil_append,and_assoc]
theorem O7 (a b:List AD) (s:List UInt8):Hq (a++b) s=(Hq a s||Hq b s):=by
 unfold Hq
 rw [List.any_append]
theorem QN (c:List AD):∀ (r pre:List AD),c=pre++r->I7 pre r->Ri c r pre.length = .inl ()
 | [],_,_,_=>rfl
 | x::r,pre,e,h=>by
  unfold Ri
  have ht:c.take pre.length=pre:=by rw [e]; simp
  rw [ht,if_neg (by rw [h.1]; decide)]
  have:=QN c r (pre++[x]) (by rw [e]; simp) h.2
  simpa using this
theorem TS {c:List AD}(hl:c.length<=32) (h:I7 [] c):Ow c=(0,0):=by
 unfold Ow
 have:Ri c c 0 = .inl ():=QN c c [] rfl h
 rw [if_neg (by omega),this]
theorem VP (k:Int) (am:List UInt8) (la:Bool) (nm:List (List UInt8)) (b:Int):(clz k am la nm b).2.1=am:=by
 unfold clz
 split; · rfl
 split; · rfl
 split; · rfl
 split; · rfl
 split; · rfl
 split <;> rfl
theorem Rj (k:Int) (am:List UInt8) (la:Bool) (nm:List (List UInt8)) (b:Int):(clz k am la nm b).2.2.2.1=nm\/(clz k am la nm b).2.2.2.1=[]:=by
 unfold clz
 split; · exact .inl rfl
 split; · exact .inr rfl
 split; · exact .inr rfl
 split; · exact .inl rfl
 split; · exact .inl rfl
 split <;> exact .inr rfl
theorem Vu (pre:List AD) (k:Int) (am:List UInt8) (la:Bool) (nm:List (List UInt8)) (b:Int) (h1:1<=k) (h2:k<=10) (hb:u8 b) (ha:k=1->am=[]) (hn:Yc nm) (hr:am=[]\/Hq pre am=true/\FO am=true):chk pre (clz k am la nm b)=0:=by
 unfold chk
 rw [Xa k am la nm b h1 h2 hb ha hn,if_neg (by decide),VP]
 have hN:((clz k am la nm b).2.2.2.1.any fun s=>!FO s)=false:=by
  rcases Rj k am la nm b with e | e <;> rw [e]
  ·exact hn.2.2.1
  ·rfl
 have hD:UB (clz k am la nm b).2.2.2.1 (clz k am la nm b).2.2.2.1 0=false:=by
  rcases Rj k am la nm b with e | e <;> rw [e]
  ·exact hn.2.2.2.1
  ·rfl
 rw [hN,hD]
 rcases hr with rfl | ⟨h3,h4⟩
 ·simp
 ·simp [h3,h4]
theorem Vv (k:Int) (am:List UInt8) (la:Bool) (nm:List (List UInt8)) (b:Int) (ha:am.length<=40) (hn:Yc nm):Xg (clz k am la nm b):=by
 refine ⟨by rw [VP]; exact ha,?_,?_⟩
 ·rcases Rj k am la nm b with e | e <;> rw [e]
  ·have:=hn.2.1; omega
  ·simp
 ·rcases Rj k am la nm b with e | e <;> rw [e]
  ·exact hn.2.2.2.2
  ·simp
theorem Xr {a:Int}(h:u8 a):1<=wr .u8 (1 + a.tmod 10)/\wr .u8 (1 + a.tmod 10)<=10:=by
 rw [Int.tmod_eq_emod_of_nonneg h.1]
 have e:wr .u8 (1 + a % 10)=(1 + a % 10) % 256:=rfl
 rw [e]
 omega
def P9 (v:Int×Int×Int×Bool×Bool):Prop:=u8 v.1/\u8 v.2.1/\u8 v.2.2.1
/-- What the loop keeps. -/
def Uf (c2:List AD) (c3:List UInt8):Prop:=I7 [] c2/\(∀ x ∈ c2,Xg x)/\(c3=[]\/(Hq c2 c3=true/\FO c3=true/\c3.length<=40))
theorem TV {c2:List AD}{c3:List UInt8}(h:Uf c2 c3) (v:Int×Int×Int×Bool×Bool) (hv:P9 v) (am:List UInt8) (ham:am=[]\/am=c3) (hk1:wr .u8 (1 + v.1.tmod 10)=1->am=[]) (w:List UInt8) (r:List (List UInt8)) (hw:nms v=w::r) :
  Uf (c2++[clz (wr .u8 (1 + v.1.tmod 10)) am v.2.2.2.1 (w::r) v.2.1]) (if wr .u8 (1 + v.1.tmod 10)=1 then w else c3):=by
 obtain ⟨g1,g2,g3⟩:=h
 obtain ⟨k1,k2⟩:=Xr hv.1
 obtain ⟨n1,r',n2⟩:=Tg v hv.2.2
 rw [hw] at n1
 have ha:am=[]\/Hq c2 am=true/\FO am=true:=by
  rcases ham with e | e
  ·exact .inl e
  ·rcases g3 with g3 | ⟨q1,q2,_⟩
   ·exact .inl (e.trans g3)
   ·rw [e]; exact .inr ⟨q1,q2⟩
 have ha40:am.length<=40:=by
  rcases ham with e | e
  ·rw [e]; simp
  ·rcases g3 with g3 | ⟨_,_,q3⟩
   ·rw [e,g3]; simp
   ·rw [e]; exact q3
 refine ⟨(Lg _ _ _).2 ⟨g1,Vu _ _ _ _ _ _ k1 k2 hv.2.1 hk1 n1 ha,trivial⟩,fun x hx=>?_,?_⟩
 ·rcases List.mem_append.1 hx with hx | hx
  ·exact g2 x hx
  ·rw [List.mem_singleton.1 hx]
   exact Vv _ _ _ _ _ ha40 n1
 ·by_cases hk:wr .u8 (1 + v.1.tmod 10)=1
  ·rw [if_pos hk]
   refine .inr ⟨?_,?_,n1.2.2.2.2 w (by simp)⟩
   ·rw [O7,hk]
    have:Hq [clz 1 am v.2.2.2.1 (w::r) v.2.1] w=true:=by
     unfold Hq clz NA
     simp
    rw [this]; simp
   ·have:=n1.2.2.1
    simp at this
    exact this.1
  ·rw [if_neg hk]
   rcases g3 with g3 | ⟨q1,q2,q3⟩
   ·exact .inl g3
   ·exact .inr ⟨by rw [O7,q1]; simp,q2,q3⟩
theorem Tb (x0:List (Int×Int×Int×Bool×Bool)) (ys:List (Int×Int×Int×Bool×Bool)) (hys:((x0.take (mnI (x0.length:Int) 8).toNat).drop (0:Int).toNat)=ys) (hb:∀ v ∈ ys,P9 v) (h8:ys.length<=8):∀ (r pre:List (Int×Int×Int×Bool×Bool)) (c2:List AD) (c3:List UInt8) (f:Nat),ys=pre++r->r.length < f->c2.length=pre.length->Uf c2 c3 ->
  ∃ c c3',ED x0 f c2 c3 (pre.length:Int)=some c/\Uf c c3'/\c.length=ys.length
 | [],pre,c2,c3,f + 1,e,_,hl,hk=>by
  refine ⟨c2,c3,?_,hk,by rw [hl,e]; simp⟩
  unfold ED
  rw [hys,if_neg (by rw [e]; simp)]
 | v::r,pre,c2,c3,f + 1,e,hf,hl,hk=>by
  have hv:=hb v (by rw [e]; simp)
  have hl2:ys.length=pre.length + r.length + 1:=by rw [e]; simp; omega
  simp only [List.length_cons] at hf
  obtain ⟨p1,p2⟩:=tm4 hv.2.2
  obtain ⟨d1,d2⟩:=W8 p1 p2
  obtain ⟨k1,k2⟩:=Xr hv.1
  obtain ⟨n1,r',n2⟩:=Tg v hv.2.2
  have hstep:∃ am,(am=[]\/am=c3)/\(wr .u8 (1 + v.1.tmod 10)=1->am=[])/\((if v.2.2.2.2=true then some (c2,v.1,v.2.1,v.2.2.1,v.2.2.2.1,true,(wr .u8 (1 + (v.1.tmod 10))),([]:List UInt8),false,(0:Int),nms v,((wr .u8 (1 + (v.1.tmod 10)))!=1)) else some (c2,v.1,v.2.1,v.2.2.1,v.2.2.2.1,false,(wr .u8 (1 + (v.1.tmod 10))),([]:List UInt8),false,(0:Int),nms v,false)).bind fun j27=>FL x0 c3 (pre.length:Int) j27)=some (c2,v.1,v.2.1,v.2.2.1,v.2.2.2.1,v.2.2.2.2,(wr .u8 (1 + (v.1.tmod 10))),am,false,(0:Int),nms v):=by
   cases ht:v.2.2.2.2 with
   | false=>exact ⟨[],.inl rfl,fun _=>rfl,rfl⟩
   | true =>
    by_cases h1:wr .u8 (1 + v.1.tmod 10)=1
    ·refine ⟨[],.inl rfl,fun _=>rfl,?_⟩
     rw [if_pos rfl,OS]
     unfold FL
     rw [if_neg (by simp [h1])]
    ·refine ⟨c3,.inr rfl,fun q=>absurd q h1,?_⟩
     rw [if_pos rfl,OS]
     unfold FL
     rw [if_pos (by simpa using h1)]
  obtain ⟨am,ham,hk1,hj⟩:=hstep
  have hm4:GV x0 c3 (pre.length:Int) (c2,v.1,v.2.1,v.2.2.1,v.2.2.2.1,v.2.2.2.2,(wr .u8 (1 + (v.1.tmod 10))),am,false,(0:Int),nms v)=some (c2,(if wr .u8 (1 + v.1.tmod 10)=1 then wd (v.2.2.1.tmod 4) else c3),clz (wr .u8 (1 + v.1.tmod 10)) am v.2.2.2.1 (nms v) v.2.1):=by
   rw [n2]
   exact Xz x0 c2 c3 _ _ _ _ _ _ _ am _ _ k1 k2
  have hks:=TV hk v hv am ham hk1 _ _ n2
  obtain ⟨c,c3',q1,q2,q3⟩:=Tb x0 ys hys hb h8 r (pre++[v]) _ _ f (by rw [e]; simp) (by omega) (by simp [hl]) hks
  refine ⟨c,c3',?_,q2,q3⟩
  rw [<-q1]
  conv=>lhs; unfold ED
  rw [hys,if_pos (by rw [e]; exact II pre v r),show idx ys (pre.length:Int)=some v by rw [e,Fp],OS,if_pos d1,if_pos d2,Xy x0 c2 c3 _ v hv.2.2,OS]
  rw [<-Option.bind_assoc,hj,OS,hm4,OS]
  dsimp only
  rw [if_pos (IQ (by omega) (by omega)),Fq pre v r (by rw [<-e]; omega),n2]
theorem WV (x0:List (Int×Int×Int×Bool×Bool)) (hb:∀ v ∈ x0,P9 v):∃ c,Fv x0=some c/\few c/\I7 [] c/\c.length<=8:=by
 have hm:0<=mnI (x0.length:Int) 8/\mnI (x0.length:Int) 8<=8/\mnI (x0.length:Int) 8<=x0.length:=by
  unfold mnI
  split <;> omega
 have h8:((x0.take (mnI (x0.length:Int) 8).toNat).drop (0:Int).toNat).length<=8:=by
  rw [List.length_drop,List.length_take]; omega
 obtain ⟨c,c3,h1,h2,h3⟩:=Tb x0 _ rfl (fun v hv=>hb v (List.mem_of_mem_take (List.mem_of_mem_drop hv))) h8 _ [] [] [] 100000 rfl (Nat.lt_of_le_of_lt h8 (by decide)) rfl ⟨trivial,fun x hx=>by simp at hx,.inl rfl⟩
 refine ⟨c,?_,⟨by omega,h2.2.1⟩,h2.1,by omega⟩
 unfold Fv
 rw [if_pos (by unfold DG; simp; omega)]
 have e:ED x0 100000 [] [] 0=some c:=h1
 rw [e]; rfl
/-- The decision of a merged text. -/
theorem NF (a b:Ah) (i j:Int) (x:AD) (r:List AD) (k:Nat):rsn a b i j (x::r) k=if dir x a b i j=0 then rsn a b i j r (k + 1) else .inr ((k:Int),dir x a b i j):=rfl
theorem Tu (a b:Ah) (i j:Int):∀ (c d:List AD) (k:Nat),rsn a b i j (c++d) k=match rsn a b i j c k with | .inl _=>rsn a b i j d (k + c.length) | .inr w=> .inr w
 | [],d,k=>rfl
 | x::c,d,k=>by
  rw [List.cons_append,NF,NF]
  by_cases h:dir x a b i j=0
  ·rw [if_pos h,if_pos h,Tu a b i j c d (k + 1),List.length_cons,show k + 1 + c.length=k + (c.length + 1) by omega]
  ·rw [if_neg h,if_neg h]
theorem Tv (a b:Ah) (i j:Int):∀ (c:List AD) (k:Nat),(∃ u,rsn a b i j c k = .inl u)\/∃ w,rsn a b i j c k = .inr w/\w.2≠0
 | [],k=> .inl ⟨(),rfl⟩
 | x::c,k=>by
  unfold rsn
  by_cases h:dir x a b i j=0
  ·rw [if_pos h]; exact Tv a b i j c (k + 1)
  ·rw [if_neg h]; exact .inr ⟨_,rfl,h⟩
theorem YB (a b:Ah) (i j:Int):∀ (c:List AD) (k q:Nat),(match rsn a b i j c k with | .inl _=>(0:Int) | .inr w=>w.2)=(match rsn a b i j c q with | .inl _=>(0:Int) | .inr w=>w.2)
 | [],_,_=>rfl
 | x::c,k,q=>by
  unfold rsn
  by_cases h:dir x a b i j=0
  ·rw [if_pos h,if_pos h]; exact YB a b i j c (k + 1) (q + 1)
  ·rw [if_neg h,if_neg h]
def Ox (c:List AD) (a b:Ah) (i j:Int):Int:=(XB c a b i j).2
theorem NQ (c:List AD) (a b:Ah) (i j:Int):Ox c a b i j=match rsn a b i j c 0 with | .inl _=>(0:Int) | .inr w=>w.2:=by
 unfold Ox XB
 cases rsn a b i j c 0 <;> rfl
theorem Q0 (c d:List AD) (a b:Ah) (i j:Int):Ox (c++d) a b i j=if Ox c a b i j=0 then Ox d a b i j else Ox c a b i j:=by
 rw [NQ,NQ,NQ,Tu]
 rcases Tv a b i j c 0 with ⟨u,h⟩ | ⟨w,h,hw⟩
 ·rw [h]
  simp only [if_true]
  exact YB a b i j d _ _
 ·rw [h]
  simp only [hw,if_false]
theorem Vx (c:List AD) (a b:Ah) (i j:Int) (h:few c) (hl:c.length<=32) (hg:I7 [] c) (ha:Qr a) (hb:Qr b):D6 c a b i j=some (Ox c a b i j):=by
 rw [TB c a b i j h ha hb,TS hl hg,if_pos rfl]; rfl
/-- -1, 0 or 1, turned round with its arguments, and a chain decides by its least. -/
structure Wk3 {α:Type} (f:α->α->Int):Prop where
 v:∀ a b,f a b = -1\/f a b=0\/f a b=1
 s:∀ a b,f a b = - f b a
 t:∀ a b c,f a b<=0->f b c<=0->f a c=min (f a b) (f b c)
theorem Pt {α:Type}(k:α->Int):Wk3 (fun a b=>KA (k a) (k b)):=by
 refine ⟨fun a b=>?_,fun a b=>?_,fun a b c h1 h2=>?_⟩
 ·unfold KA; split
  ·exact .inl rfl
  ·split
   ·exact .inr (.inr rfl)
   ·exact .inr (.inl rfl)
 ·unfold KA; split <;> split <;> first | rfl | omega | (split <;> first | rfl | omega)
 ·(try dsimp only at h1 h2 ⊢)
  unfold KA at *
  split at h1 <;> split at h2 <;> first | (split at h1 <;> first | omega | skip) | skip
  all_goals first | (split at h2 <;> first | omega | skip) | skip
  all_goals (split <;> first | omega | skip)
  all_goals first | rfl | omega | (split <;> first | rfl | omega)
theorem Re:∀ (x:List UInt8),Go.Op.bytesLess x x=false
 | []=>rfl
 | a::x=>by
  show (decide (a < a)||(a==a&&Go.Op.bytesLess x x))=false
  rw [Re x]; simp
theorem PK:∀ (x y z:List UInt8),Go.Op.bytesLess x y=true->Go.Op.bytesLess y z=true->Go.Op.bytesLess x z=true
 | x,[],_,h,_=>by cases x <;> cases h
 | _,_::_,[],_,h=>by cases h
 | [],_::_,_::_,_,_=>rfl
 | a::x,b::y,c::z,h1,h2=>by
  have h1':(decide (a < b)||(a==b&&Go.Op.bytesLess x y))=true:=h1
  have h2':(decide (b < c)||(b==c&&Go.Op.bytesLess y z))=true:=h2
  show (decide (a < c)||(a==c&&Go.Op.bytesLess x z))=true
  simp only [Bool.or_eq_true,Bool.and_eq_true,decide_eq_true_eq,beq_iff_eq] at h1' h2' ⊢
  rcases h1' with q1 | ⟨rfl,q1⟩ <;> rcases h2' with q2 | ⟨rfl,q2⟩
  ·exact .inl (UInt8.lt_trans q1 q2)
  ·exact .inl q1
  ·exact .inl q2
  ·exact .inr ⟨rfl,PK x y z q1 q2⟩
theorem Wy {α:Type}(k:α->List UInt8):Wk3 (fun a b=>S8 (k a) (k b)):=by
 have val:∀ x y:List UInt8,(Go.Op.bytesLess x y=true/\S8 x y = -1)\/(x=y/\S8 x y=0)\/(Go.Op.bytesLess y x=true/\S8 x y=1):=fun x y=>by
  unfold S8
  cases h:Go.Op.bytesLess x y with
  | true=>exact .inl ⟨rfl,rfl⟩
  | false =>
   have:=Rg x y h
   cases he:(x==y) with
   | true=>exact .inr (.inl ⟨by simpa using he,rfl⟩)
   | false=>exact .inr (.inr ⟨by rw [this,he]; rfl,rfl⟩)
 have asy:∀ x y:List UInt8,Go.Op.bytesLess x y=true->Go.Op.bytesLess y x=true->False:=fun x y h1 h2=>by
  have:=PK x y x h1 h2
  rw [Re] at this
  cases this
 refine ⟨fun a b=>?_,fun a b=>?_,fun a b c h1 h2=>?_⟩
 ·rcases val (k a) (k b) with ⟨_,h⟩ | ⟨_,h⟩ | ⟨_,h⟩
  ·exact .inl h
  ·exact .inr (.inl h)
  ·exact .inr (.inr h)
 ·(try dsimp only)
  rcases val (k a) (k b) with ⟨p,h⟩ | ⟨p,h⟩ | ⟨p,h⟩ <;> rcases val (k b) (k a) with ⟨q,g⟩ | ⟨q,g⟩ | ⟨q,g⟩ <;> rw [h,g] <;> first | rfl | (exfalso; first | exact asy _ _ p q | (rw [q,Re] at p; cases p) | (rw [p,Re] at q; cases q))
 ·(try dsimp only at h1 h2 ⊢)
  rcases val (k a) (k b) with ⟨p,h⟩ | ⟨p,h⟩ | ⟨p,h⟩ <;> rcases val (k b) (k c) with ⟨q,g⟩ | ⟨q,g⟩ | ⟨q,g⟩ <;> first | (rw [h] at h1; exact absurd h1 (by decide)) | (rw [g] at h2; exact absurd h2 (by decide)) | skip
  ·rw [h,g]
   have:=PK _ _ _ p q
   unfold S8
   rw [if_pos this]; rfl
  ·rw [h,g,<-q,h]; rfl
  ·rw [h,g,p,g]; rfl
  ·rw [h,g,p,g]; rfl
theorem Ve {α:Type}(y:Bool) (k:α->Int):Wk3 (fun a b=>snc y (k a) (k b)):=by
 have val:∀ s t:Int,snc y s t=if s=0 then (if t=0 then 0 else 1) else if t=0 then -1 else if y=true then KA t s else KA s t:=fun s t=>by
  rw [YE]
  unfold KA
  by_cases hs:s=0 <;> by_cases ht:t=0
  ·simp [hs,ht]
  ·simp [hs,ht]
  ·simp [hs,ht]
  ·cases y <;> simp [hs,ht]
 refine ⟨fun a b=>?_,fun a b=>?_,fun a b c h1 h2=>?_⟩
 ·(try dsimp only)
  rw [val]
  unfold KA
  split
  ·split
   ·exact .inr (.inl rfl)
   ·exact .inr (.inr rfl)
  ·split
   ·exact .inl rfl
   ·split <;> (split; · exact .inl rfl) <;> (split; · exact .inr (.inr rfl)) <;> exact .inr (.inl rfl)
 ·(try dsimp only)
  rw [val,val]
  unfold KA
  cases y <;> simp only [if_true,if_false,Bool.false_eq_true] <;> (repeat' split) <;> first | rfl | omega
 ·(try dsimp only at h1 h2 ⊢)
  rw [val] at h1 h2
  rw [val,val,val]
  unfold KA at *
  cases y <;> simp only [if_true,if_false,Bool.false_eq_true] at h1 h2 ⊢ <;> (repeat' split at h1) <;> (repeat' split at h2) <;> first | omega | ((repeat' split) <;> first | rfl | omega)
/-- A second order where a first one ties. -/
theorem YR {α:Type}{f g:α->α->Int}(hf:Wk3 f) (gv:∀ a b,g a b = -1\/g a b=0\/g a b=1) (gs:∀ a b,g a b = - g b a)
  (gt:∀ a b c,f a b=0->f b c=0->g a b<=0->g b c<=0->g a c=min (g a b) (g b c)):Wk3 (fun a b=>if f a b=0 then g a b else f a b):=by
 refine ⟨fun a b=>?_,fun a b=>?_,fun a b c h1 h2=>?_⟩
 ·show (if f a b=0 then g a b else f a b) = -1\/_
  split
  ·exact gv a b
  ·exact hf.v a b
 ·show (if f a b=0 then g a b else f a b) = - (if f b a=0 then g b a else f b a)
  have:=hf.s a b
  by_cases h:f b a=0
  ·rw [if_pos h,if_pos (by omega)]; exact gs a b
  ·rw [if_neg h,if_neg (by omega)]; exact this
 ·have h1':(if f a b=0 then g a b else f a b)<=0:=h1
  have h2':(if f b c=0 then g b c else f b c)<=0:=h2
  show (if f a c=0 then g a c else f a c)=min (if f a b=0 then g a b else f a b) (if f b c=0 then g b c else f b c)
  have ab:=hf.v a b
  have bc:=hf.v b c
  have gab:=gv a b
  have gbc:=gv b c
  by_cases x:f a b=0 <;> by_cases y:f b c=0
  ·have:=hf.t a b c (by omega) (by omega)
   rw [if_pos x] at h1' ⊢
   rw [if_pos y] at h2' ⊢
   rw [if_pos (by omega)]
   exact gt a b c x y h1' h2'
  ·rw [if_pos x] at h1' ⊢
   rw [if_neg y] at h2' ⊢
   have:=hf.t a b c (by omega) (by omega)
   rw [if_neg (by omega)]
   omega
  ·rw [if_neg x] at h1' ⊢
   rw [if_pos y] at h2' ⊢
   have:=hf.t a b c (by omega) (by omega)
   rw [if_neg (by omega)]
   omega
  ·rw [if_neg x] at h1' ⊢
   rw [if_neg y] at h2' ⊢
   have:=hf.t a b c (by omega) (by omega)
   rw [if_neg (by omega)]
   omega
/-- A guest at a place of the row. -/
abbrev At:={ p:Ah×Int // QP p.2=true }
theorem YS (x:AD):Wk3 (fun a b:At=>Ns x a.1.1 b.1.1 a.1.2 b.1.2):=by
 have e:(fun a b:At=>Ns x a.1.1 b.1.1 a.1.2 b.1.2)=fun a b:At =>
   if (x.1==1)=true then KA (rk x.2.2.2.1 a.1.1.2.1) (rk x.2.2.2.1 b.1.1.2.1) else
   if (x.1==2)=true then snc false a.1.1.2.2.2.1 b.1.1.2.2.2.1 else
   if (x.1==3)=true then snc true a.1.1.2.2.2.1 b.1.1.2.2.2.1 else
   if (x.1==8)=true then S8 a.1.1.1 b.1.1.1 else
   if (x.1==9)=true then KA a.1.2 b.1.2 else
   if (x.1==10)=true then KA (kyI a.1.2 x.2.2.2.2) (kyI b.1.2 x.2.2.2.2) else
   KA (nv x a.1.1) (nv x b.1.1):=by
  funext a b
  unfold Ns
  rw [a.2,b.2]
  simp only [Bool.not_true,Bool.or_self,Bool.false_eq_true,if_false]
 rw [e]
 by_cases h1:(x.1==1)=true
 ·simp only [h1,if_true]; exact Pt (fun a:At=>rk x.2.2.2.1 a.1.1.2.1)
 by_cases h2:(x.1==2)=true
 ·simp only [h1,h2,if_true,if_false,Bool.false_eq_true]; exact Ve false (fun a:At=>a.1.1.2.2.2.1)
 by_cases h3:(x.1==3)=true
 ·simp only [h1,h2,h3,if_true,if_false,Bool.false_eq_true]; exact Ve true (fun a:At=>a.1.1.2.2.2.1)
 by_cases h8:(x.1==8)=true
 ·simp only [h1,h2,h3,h8,if_true,if_false,Bool.false_eq_true]; exact Wy (fun a:At=>a.1.1.1)
 by_cases h9:(x.1==9)=true
 ·simp only [h1,h2,h3,h8,h9,if_true,if_false,Bool.false_eq_true]; exact Pt (fun a:At=>a.1.2)
 by_cases h10:(x.1==10)=true
 ·simp only [h1,h2,h3,h8,h9,h10,if_true,if_false,Bool.false_eq_true]; exact Pt (fun a:At=>kyI a.1.2 x.2.2.2.2)
 ·simp only [h1,h2,h3,h8,h9,h10,if_false,Bool.false_eq_true]; exact Pt (fun a:At=>nv x a.1.1)
theorem Tr (s:List UInt8):∀ (l:List (List UInt8)) (i:Nat),i<=rkN s l i
 | [],i=>Nat.le_refl i
 | v::r,i=>by
  unfold rkN
  split
  ·exact Nat.le_refl i
  ·have:=Tr s r (i + 1); omega
theorem RO (s t:List UInt8):∀ (l:List (List UInt8)) (i:Nat),NA l s=true->rkN s l i=rkN t l i->t=s
 | [],_,h,_=>by cases h
 | v::r,i,h,e=>by
  have h':((s==v)||NA r s)=true:=h
  unfold rkN at e
  by_cases hs:(s==v)=true
  ·rw [if_pos hs] at e
   by_cases ht:(t==v)=true
   ·rw [beq_iff_eq] at hs ht; rw [hs,ht]
   ·rw [if_neg ht] at e
    have:=Tr t r (i + 1)
    omega
  ·rw [if_neg hs] at e
   by_cases ht:(t==v)=true
   ·rw [if_pos ht] at e
    have:=Tr s r (i + 1)
    omega
   ·rw [if_neg ht] at e
    have h2:NA r s=true:=by
     cases hq:(s==v) with
     | true=>exact absurd hq hs
     | false=>rwa [hq,Bool.false_or] at h'
    exact RO s t r (i + 1) h2 e
theorem ZF {x:AD}(h:fm x=true) (hk:(x.1==1)=true):x.2.1=[]:=by
 unfold fm Au at h
 rw [if_pos hk] at h
 cases hb:BS (x.2.2.2.1.length:Int) 1 16 with
 | none=>rw [hb] at h; cases h
 | some v =>
  rw [hb,OS] at h
  cases v with
  | false=>cases h
  | true =>
   by_cases h2:(x.2.2.2.2==0)=true
   ·by_cases h3:(!x.2.2.1)=true
    ·rw [if_pos rfl,if_pos h2,if_pos h3] at h
     simpa using h
    ·rw [if_pos rfl,if_pos h2,if_neg h3] at h; cases h
   ·rw [if_pos rfl,if_neg h2] at h; cases h
theorem XZ {pre:List AD}{x:AD}(h:chk pre x=0):fm x=true:=by
 unfold chk at h
 split at h
 ·cases h
 ·next h1=>simpa using h1
theorem XY {pre:List AD}{x:AD}(h:chk pre x=0):x.2.1=[]\/Hq pre x.2.1=true:=by
 unfold chk at h
 split at h
 ·cases h
 split at h
 ·cases h
 split at h
 ·cases h
 split at h
 ·next h4=>exact h4
 ·cases h
theorem QO:∀ (c pre:List AD),I7 pre c->∀ x ∈ c,fm x=true
 | y::r,pre,h,x,hx=>by
  rcases List.mem_cons.1 hx with e | e
  ·rw [e]; exact XZ h.1
  ·exact QO r _ h.2 x e
/-- Ties of a text tie every clause of it. -/
theorem S9 (a b:Ah) (i j:Int):∀ (c:List AD) (k:Nat),rsn a b i j c k = .inl ()->∀ x ∈ c,dir x a b i j=0
 | y::r,k,h,x,hx=>by
  rw [NF] at h
  by_cases q:dir y a b i j=0
  ·rw [if_pos q] at h
   rcases List.mem_cons.1 hx with e | e
   ·rw [e]; exact q
   ·exact S9 a b i j r (k + 1) h x e
  ·rw [if_neg q] at h; cases h
theorem UQ {c:List AD}{a b:Ah}{i j:Int}(h:Ox c a b i j=0):∀ x ∈ c,dir x a b i j=0:=by
 rw [NQ] at h
 rcases Tv a b i j c 0 with ⟨u,e⟩ | ⟨w,e,hw⟩
 ·exact S9 a b i j c 0 e
 ·rw [e] at h; exact absurd h hw
theorem Xb {x y:Int}(h:KA x y=0):x=y:=by
 unfold KA at h
 split at h
 ·cases h
 split at h
 ·cases h
 ·omega
/-- A text that ranks a rank ties nobody of it with anybody of another rank. -/
theorem SH {c:List AD}{s:List UInt8}(hc:∀ x ∈ c,fm x=true) (hr:Hq c s=true){a b:Ah}{i j:Int}(h:Ox c a b i j=0):(a.2.1==s)=(b.2.1==s):=by
 unfold Hq at hr
 obtain ⟨y,hy,e⟩:=List.any_eq_true.1 hr
 rw [Bool.and_eq_true] at e
 have hd:=UQ h y hy
 have ham:=ZF (hc y hy) e.1
 unfold dir amB at hd
 rw [ham,if_neg (by simp)] at hd
 unfold Ns at hd
 rw [if_pos e.1] at hd
 have hk:=Xb hd
 unfold rk at hk
 have hn:rkN a.2.1 y.2.2.2.1 0=rkN b.2.1 y.2.2.2.1 0:=by omega
 by_cases ha:a.2.1=s
 ·have hb:=RO a.2.1 b.2.1 _ 0 (by rw [ha]; exact e.2) hn
  rw [hb]
 ·by_cases hb:b.2.1=s
  ·have:=RO b.2.1 a.2.1 _ 0 (by rw [hb]; exact e.2) hn.symm
   exact absurd (this.trans hb) ha
  ·rw [beq_eq_false_iff_ne.2 ha,beq_eq_false_iff_ne.2 hb]
theorem XS (x:AD) (a b:Ah):amB x a b=amB x b a:=by
 unfold amB
 cases (x.2.1==[]) <;> cases (a.2.1==x.2.1) <;> cases (b.2.1==x.2.1) <;> rfl
theorem Q1 (x:AD) (a b:Ah) (i j:Int):Ox [x] a b i j=dir x a b i j:=by
 rw [NQ,NF]
 by_cases h:dir x a b i j=0
 ·rw [if_pos h,h]; rfl
 ·rw [if_neg h]
theorem T6:∀ (c pre:List AD),I7 [] (pre++c)->Wk3 (fun a b:At=>Ox pre a.1.1 b.1.1 a.1.2 b.1.2)->Wk3 (fun a b:At=>Ox (pre++c) a.1.1 b.1.1 a.1.2 b.1.2)
 | [],pre,_,h=>by rw [List.append_nil]; exact h
 | x::r,pre,hg,h=>by
  have e:pre++x::r=(pre++[x])++r:=by simp
  rw [e] at hg ⊢
  refine T6 r (pre++[x]) hg ?_
  have hgx:=(Lg (pre++[x]) [] r).1 hg
  have hp:=(Lg pre [] [x]).1 hgx.1
  have hchk:chk pre x=0:=by simpa using hp.2.1
  have hfm:=QO pre [] hp.1
  have ho:=YS x
  have hx:(fun a b:At=>Ox (pre++[x]) a.1.1 b.1.1 a.1.2 b.1.2)=fun a b:At=>if Ox pre a.1.1 b.1.1 a.1.2 b.1.2=0 then dir x a.1.1 b.1.1 a.1.2 b.1.2 else Ox pre a.1.1 b.1.1 a.1.2 b.1.2:=by
   funext a b
   rw [Q0,Q1]
  rw [hx]
  refine YR h (fun a b=>?_) (fun a b=>?_) (fun a b c h1 h2=>?_)
  ·unfold dir
   split
   ·exact .inr (.inl rfl)
   ·exact ho.v a b
  ·unfold dir
   rw [XS x b.1.1 a.1.1]
   split
   ·rfl
   ·exact ho.s a b
  ·unfold dir
   rcases XY hchk with ha | ha
   ·have q:∀ u v:Ah,amB x u v=false:=fun u v=>by unfold amB; rw [ha]; rfl
    rw [q,q,q,if_neg (by decide),if_neg (by decide),if_neg (by decide)]
    exact ho.t a b c
   ·have t1:=SH hfm ha h1
    have t2:=SH hfm ha h2
    unfold amB
    rw [<-t2,<-t1]
    cases (!(x.2.1==[]))
    ·exact ho.t a b c
    ·cases (a.1.1.2.1==x.2.1)
     ·intro _ _; rfl
     ·exact ho.t a b c
theorem VH (c:List AD) (hg:I7 [] c):Wk3 (fun a b:At=>Ox c a.1.1 b.1.1 a.1.2 b.1.2) :=
 T6 c [] hg ⟨fun _ _=> .inr (.inl rfl),fun _ _=>rfl,fun _ _ _ _ _=>rfl⟩
/- trestle/trestleref03.Goes -/
/- trestle/trestleref03.votes -/
/- trestle/trestleref03.Votes -/
/- trestle/trestleref03.Valid -/
/- trestle/trestleref03.AllValid -/
/-- A loop whose states are known. -/
theorem ZZ {σ ρ:Type}(n:Nat) (S:Nat->σ) (R:Option ρ) (L:Nat->Int->σ->Option ρ) (hn:n<=1000000) (hs:∀ i,i < n->∀ f,L (f + 1) (i:Int) (S i)=L f (wr .i64 ((i:Int) + 1)) (S (i + 1))) (he:∀ f,L (f + 1) (n:Int) (S n)=R):∀ (d i f:Nat),i + d=n->d < f->L f (i:Int) (S i)=R
 | 0,i,f + 1,e,_=>by
  rw [show i=n by omega]
  exact he f
 | d + 1,i,f + 1,e,hf=>by
  rw [hs i (by omega) f,P1 (by omega) (by omega),show ((i:Int) + 1)=((i + 1:Nat):Int) by omega]
  exact ZZ n S R L hn hs he d (i + 1) f (by omega) (by omega)
theorem Oa {σ ρ:Type}(n:Nat) (S:Nat->σ) (R:Option ρ) (L:Nat->Int->σ->Option ρ) (hn:n<=99999) (hs:∀ i,i < n->∀ f,L (f + 1) (i:Int) (S i)=L f (wr .i64 ((i:Int) + 1)) (S (i + 1))) (he:∀ f,L (f + 1) (n:Int) (S n)=R):L 100000 0 (S 0)=R :=
 ZZ n S R L (by omega) hs he n 0 100000 (by omega) (by omega)
/-- A valid text, as it is checked. -/
theorem P8 (c:List AD):∀ (r pre:List AD),c=pre++r->(∃ u,Ri c r pre.length = .inl u)->I7 pre r
 | [],_,_,_=>trivial
 | x::r,pre,e,⟨u,h⟩=>by
  unfold Ri at h
  rw [show c.take pre.length=pre by rw [e]; simp] at h
  by_cases hx:chk pre x=0
  ·rw [if_neg (by simpa using hx)] at h
   exact ⟨hx,P8 c r (pre++[x]) (by rw [e]; simp) ⟨u,by simpa using h⟩⟩
  ·rw [if_pos hx] at h; cases h
theorem I2 {c:List AD}(h:(Ow c).2=0):c.length<=32/\I7 [] c:=by
 unfold Ow at h
 split at h
 ·cases h
 ·next hl =>
  refine ⟨by omega,P8 c c [] rfl ?_⟩
  rcases PN c c 0 with ⟨u,h1,_⟩ | ⟨w,h1,h2⟩
  ·exact ⟨u,h1⟩
  ·rw [h1] at h; exact absurd h h2
theorem Us (c:List AD) (h:few c):D8 c=some (if (Ow c).2=0 then (c,true) else ([],false)):=by
 unfold D8
 rw [S6 c h,OS]
 by_cases hv:(Ow c).2=0
 ·have e0:Cw c 100000 [] 0=some c:=Nt c h (LO hv) c [] 100000 rfl (by have:=h.1; omega)
  rw [if_neg (by simpa using hv),if_pos hv,e0]; rfl
 ·rw [if_pos (by simpa using hv),if_neg hv]
/-- Guests at their places. -/
def Dj:List Ah->Nat->List Ai
 | [],_=>[]
 | g::r,i=>(g,(i:Int))::Dj r (i + 1)
theorem Kn:∀ (g:List Ah) (i:Nat),(Dj g i).length=g.length
 | [],_=>rfl
 | _::r,i=>by simp [Dj,Kn r (i + 1)]
theorem O5:∀ (g:List Ah) (i k:Nat),(Dj g i)[k]? = (g[k]?).map fun x=>(x,((i + k:Nat):Int))
 | [],_,_=>by simp [Dj]
 | x::r,i,0=>by simp [Dj]
 | x::r,i,k + 1=>by
  simp only [Dj,List.getElem?_cons_succ]
  rw [O5 r (i + 1) k,show i + 1 + k=i + (k + 1) by omega]
theorem Nu:∀ (g:List Ah) (x:Ah) (i:Nat),Dj (g++[x]) i=Dj g i++[(x,((i + g.length:Nat):Int))]
 | [],x,i=>by simp [Dj]
 | y::r,x,i=>by
  simp only [List.cons_append,Dj,Nu r x (i + 1),List.length_cons]
  rw [show i + 1 + r.length=i + (r.length + 1) by omega]
theorem Xv (g:List Ah) (h:g.length<=99999):Gn g=some (Dj g 0):=by
 unfold Gn
 have:Cv g 100000 [] 0=some (Dj g 0):=by
  have:=Oa (σ:=List Ai) g.length (fun i=>Dj (g.take i) 0) (some (Dj g 0)) (fun f c s=>Cv g f s c) h (fun i hi f=>by
   show Cv g (f + 1) (Dj (g.take i) 0) (i:Int)=_
   conv=>lhs; unfold Cv
   rw [if_pos (by simp; omega),I8 hi,OS,if_pos (IQ (by omega) (by rw [Kn]; simp; omega))]
   have e:Dj (g.take (i + 1)) 0=Dj (g.take i) 0++[(g[i],(i:Int))]:=by
    rw [List.take_succ_eq_append_getElem hi,Nu]; simp; omega
   show _=Cv g f (Dj (g.take (i + 1)) 0) _
   rw [e]) (fun f=>by
   show Cv g (f + 1) (Dj (g.take g.length) 0) (g.length:Int)=_
   conv=>lhs; unfold Cv
   rw [if_neg (by simp),List.take_length])
  exact this
 rw [this]; rfl
/-- What a text says of the guests at two places. -/
def dG:Ah:=([],[],[],0,0,[],false,false,[])
def gAt (g:List Ah) (x:Nat):Ah:=g.getD x dG
def cm (c:List AD) (g:List Ah) (x y:Nat):Int:=Ox c (gAt g x) (gAt g y) (x:Int) (y:Int)
theorem Xm {x:Nat}(h:x < 64):QP (x:Int)=true:=by simp [QP]; omega
/-- Who sits in a row of at most 64. -/
abbrev Pl:={ x:Nat // x < 64 }
theorem YT {c:List AD}(g:List Ah) (hg:I7 [] c):Wk3 (fun a b:Pl=>cm c g a.1 b.1) :=
 let h:=VH c hg
 let k:Pl->At:=fun a=>⟨(gAt g a.1,(a.1:Int)),Xm a.2⟩
 ⟨fun a b=>h.v (k a) (k b),fun a b=>h.s (k a) (k b),fun a b d=>h.t (k a) (k b) (k d)⟩
theorem ZX {c:List AD}{g:List Ah}(hg:I7 [] c){x y:Nat}(hx:x < 64) (hy:y < 64):cm c g x y = -1\/cm c g x y=0\/cm c g x y=1:=(YT g hg).v ⟨x,hx⟩ ⟨y,hy⟩
theorem Y7 {c:List AD}{g:List Ah}(hg:I7 [] c){x y:Nat}(hx:x < 64) (hy:y < 64):cm c g x y = - cm c g y x:=(YT g hg).s ⟨x,hx⟩ ⟨y,hy⟩
theorem Y6 {c:List AD}{g:List Ah}(hg:I7 [] c){x:Nat}(hx:x < 64):cm c g x x=0:=by have:=Y7 (g:=g) hg hx hx; omega
/-- Few guests, their places. -/
structure FewR (g:List Ah):Prop where
 n:g.length<=64
 f:∀ x ∈ g,Qr x
theorem FewR.at_ {g:List Ah}(h:FewR g){x:Nat}(hx:x < g.length):Qr (gAt g x):=h.f _ (by unfold gAt; rw [List.getD_eq_getElem?_getD,List.getElem?_eq_getElem hx]; exact List.getElem_mem hx)
theorem QX (g:List Ah){x:Nat}(hx:x < g.length):idx (Dj g 0) (x:Int)=some (gAt g x,(x:Int)):=by
 unfold idx
 rw [if_pos (by omega),Int.toNat_natCast,O5,List.getElem?_eq_getElem hx]
 simp [gAt,hx]
theorem Xl (g:List Ah){x:Nat}(hx:x < g.length):idx g (x:Int)=some (gAt g x):=by
 rw [I8 hx]; simp [gAt,hx]
/-- Tables of numbers. -/
def Qa (n:Nat) (f:Nat->Int):List Int:=(List.range n).map f
def Ho (n:Nat) (M:Nat->Nat->Int):List (List Int):=(List.range n).map fun x=>Qa n (M x)
theorem U3 (n:Nat) (f:Nat->Int):(Qa n f).length=n:=by simp [Qa]
theorem Uk (n:Nat) (M:Nat->Nat->Int):(Ho n M).length=n:=by simp [Ho]
theorem MU {n:Nat}{f:Nat->Int}{x:Nat}(h:x < n):idx (Qa n f) (x:Int)=some (f x):=by
 rw [I8 (by rw [U3]; exact h)]; simp [Qa]
theorem MQ {n:Nat}{M:Nat->Nat->Int}{x:Nat}(h:x < n):idx (Ho n M) (x:Int)=some (Qa n (M x)):=by
 rw [I8 (by rw [Uk]; exact h)]; simp [Ho]
theorem KT {α:Type}(n:Nat) (f h:Nat->α) (x:Nat) (v:α) (hx:h x=v) (hn:∀ y,y≠x->h y=f y):((List.range n).map f).set x v=(List.range n).map h:=by
 apply List.ext_getElem?
 intro i
 rw [List.getElem?_set]
 simp only [List.getElem?_map,List.length_map,List.length_range]
 by_cases e:x=i
 ·subst e
  rw [if_pos rfl]
  split
  ·next h1=>rw [List.getElem?_range h1]; simp [hx]
  ·next h1=>rw [List.getElem?_eq_none (by simp; omega)]; rfl
 ·rw [if_neg e]
  by_cases hi:i < n
  ·rw [List.getElem?_range hi]; simp [hn i (Ne.symm e)]
  ·rw [List.getElem?_eq_none (by simp; omega)]; rfl
theorem U4 {n x:Nat}{f h:Nat->Int}{v:Int}(hx:h x=v) (hn:∀ y,y≠x->h y=f y):(Qa n f).set x v=Qa n h:=KT n f h x v hx hn
theorem Ul {n x:Nat}{M K:Nat->Nat->Int}{r:List Int}(hx:Qa n (K x)=r) (hn:∀ z,z≠x->K z=M z):(Ho n M).set x r=Ho n K :=
 KT n _ _ x r hx fun z hz=>by rw [hn z hz]
/-- One more in a table. -/
def Vn (M:Nat->Nat->Int) (x y:Nat):Nat->Nat->Int:=fun a b=>if a=x/\b=y then M a b + 1 else M a b
theorem QT {n x y:Nat}{M:Nat->Nat->Int}:(Ho n M).set x ((Qa n (M x)).set y (M x y + 1))=Ho n (Vn M x y):=by
 refine Ul ?_ fun z hz=>?_
 ·rw [U4 (h:=fun b=>Vn M x y x b) (by simp [Vn]) (fun b hb=>by simp [Vn,hb])]
 ·funext b; simp [Vn,hz]
section
variable {c:List AD}{g:List Ah}(hc:few c) (hv:(Ow c).2=0) (hg:FewR g)
include hc hv hg
theorem Uc {x y:Nat}(hx:x < g.length) (hy:y < g.length):∃ k,Af c (gAt g x,(x:Int)) (gAt g y,(y:Int))=some (k,cm c g x y) :=
 ⟨_,TI c (gAt g x) (gAt g y) x y hc (LO hv) (hg.at_ hx) (hg.at_ hy)⟩
/-- What a text adds to the table. -/
def dl (c:List AD) (g:List Ah) (x y:Nat):Int:=if cm c g x y = -1 then 1 else 0
def Hv (M:Nat->Nat->Int) (c:List AD) (g:List Ah) (i k:Nat):Nat->Nat->Int:=fun x y=>M x y + if (x=i/\y < k)\/(y=i/\x < k) then dl c g x y else 0
theorem U8 (M:Nat->Nat->Int) (B:Int) (hB:B<=1000000) (hM:∀ x y,0<=M x y/\M x y<=B) (i:Nat) (hi:i < g.length):Ch (Dj g 0) (c,true) (i:Int) 100000 0 (Ho g.length M)=some (Ho g.length (Hv M c g i i)):=by
 have hgd:=(I2 hv).2
 have hn:=hg.n
 have h0:Hv M c g i 0=M:=by funext x y; simp [Hv]
 suffices h1:Ch (Dj g 0) (c,true) (i:Int) 100000 0 (Ho g.length (Hv M c g i 0))=some (Ho g.length (Hv M c g i i)) by rwa [h0] at h1
 refine Oa (σ:=List (List Int)) i (fun k=>Ho g.length (Hv M c g i k)) (some (Ho g.length (Hv M c g i i))) (fun f c' s=>Ch (Dj g 0) (c,true) (i:Int) f c' s) (by omega) (fun k hk f=>?_) (fun f=>?_)
 ·show Ch (Dj g 0) (c,true) (i:Int) (f + 1) (k:Int) (Ho g.length (Hv M c g i k))=_
  conv=>lhs; unfold Ch
  obtain ⟨q,hq⟩:=Uc hc hv hg hi (show k < g.length by omega)
  have s1:Hv M c g i k i k=M i k:=by unfold Hv; rw [if_neg (by omega)]; omega
  have s2:Hv M c g i k k i=M k i:=by unfold Hv; rw [if_neg (by omega)]; omega
  have b1:=hM i k
  have b2:=hM k i
  have anti:=Y7 (g:=g) hgd (show i < 64 by omega) (show k < 64 by omega)
  have key:FZ (i:Int) (k:Int) (Ho g.length (Hv M c g i k)) (q,cm c g i k)=some (Ho g.length (Hv M c g i (k + 1))):=by
   have other:∀ x y,¬ (x=i/\y=k)->¬ (x=k/\y=i)->Hv M c g i (k + 1) x y=Hv M c g i k x y:=fun x y h1 h2=>by
    unfold Hv
    by_cases e:(x=i/\y < k)\/(y=i/\x < k)
    ·rw [if_pos e,if_pos (by omega)]
    ·rw [if_neg e,if_neg (by omega)]
   have t1:Hv M c g i (k + 1) i k=M i k + dl c g i k:=by unfold Hv; rw [if_pos (by omega)]
   have t2:Hv M c g i (k + 1) k i=M k i + dl c g k i:=by unfold Hv; rw [if_pos (by omega)]
   unfold FZ Gu
   rcases ZX (g:=g) hgd (show i < 64 by omega) (show k < 64 by omega) with e | e | e
   ·rw [e,if_pos (by rfl),MQ hi,OS,MU (by omega),OS,OS,s1,P1 (by omega) (by omega),Int.toNat_natCast,Int.toNat_natCast,<-s1,QT]
    congr 2
    funext x y
    unfold Vn
    by_cases h1:x=i/\y=k
    ·rw [if_pos h1,h1.1,h1.2,s1,t1]; unfold dl; rw [if_pos e]
    ·rw [if_neg h1]
     by_cases h2:x=k/\y=i
     ·rw [h2.1,h2.2,s2,t2]; unfold dl; rw [if_neg (by omega)]; omega
     ·exact (other x y h1 h2).symm
   ·rw [e,if_neg (by simp),if_neg (by simp),OS]
    congr 2
    funext x y
    by_cases h1:x=i/\y=k
    ·rw [h1.1,h1.2,s1,t1]; unfold dl; rw [if_neg (by omega)]; omega
    ·by_cases h2:x=k/\y=i
     ·rw [h2.1,h2.2,s2,t2]; unfold dl; rw [if_neg (by omega)]; omega
     ·exact (other x y h1 h2).symm
   ·rw [e,if_neg (by simp),if_pos (by rfl),MQ (show k < g.length by omega),OS,MU hi,OS,OS,s2,P1 (by omega) (by omega),Int.toNat_natCast,Int.toNat_natCast,<-s2,QT,OS]
    congr 2
    funext x y
    unfold Vn
    by_cases h1:x=k/\y=i
    ·rw [if_pos h1,h1.1,h1.2,s2,t2]; unfold dl; rw [if_pos (by omega)]
    ·rw [if_neg h1]
     by_cases h2:x=i/\y=k
     ·rw [h2.1,h2.2,s1,t1]; unfold dl; rw [if_neg (by omega)]; omega
     ·exact (other x y h2 h1).symm
  rw [if_pos (by simp; omega),QX g hi,OS,QX g (by omega),OS,hq,OS,key,OS]
 ·show Ch (Dj g 0) (c,true) (i:Int) (f + 1) (i:Int) (Ho g.length (Hv M c g i i))=_
  conv=>lhs; unfold Ch
  rw [if_neg (by simp)]
def Kr (M:Nat->Nat->Int) (c:List AD) (g:List Ah) (m:Nat):Nat->Nat->Int:=fun x y=>M x y + if x < m/\y < m then dl c g x y else 0
theorem Tz (M:Nat->Nat->Int) (B:Int) (hB:B<=10000) (hM:∀ x y,0<=M x y/\M x y<=B):Cg (Dj g 0) (c,true) 100000 0 (Ho g.length M)=some (Ho g.length (Kr M c g g.length)):=by
 have hgd:=(I2 hv).2
 have hn:=hg.n
 have h0:Kr M c g 0=M:=by funext x y; simp [Kr]
 have hd:∀ x y,0<=dl c g x y/\dl c g x y<=1:=fun x y=>by unfold dl; split <;> omega
 have h1:Cg (Dj g 0) (c,true) 100000 0 (Ho g.length (Kr M c g 0))=some (Ho g.length (Kr M c g g.length)):=by
  refine Oa (σ:=List (List Int)) g.length (fun k=>Ho g.length (Kr M c g k)) (some (Ho g.length (Kr M c g g.length))) (fun f c' s=>Cg (Dj g 0) (c,true) f c' s) (by omega) (fun i hi f=>?_) (fun f=>?_)
  ·show Cg (Dj g 0) (c,true) (f + 1) (i:Int) (Ho g.length (Kr M c g i))=_
   conv=>lhs; unfold Cg
   have e:Hv (Kr M c g i) c g i i=Kr M c g (i + 1):=by
    funext x y
    unfold Hv Kr
    by_cases h1:x < i/\y < i
    ·rw [if_pos h1,if_neg (by omega),if_pos (by omega)]; omega
    ·rw [if_neg h1]
     by_cases h2:(x=i/\y < i)\/(y=i/\x < i)
     ·rw [if_pos h2,if_pos (by omega)]; omega
     ·rw [if_neg h2]
      by_cases h3:x < i + 1/\y < i + 1
      ·rw [if_pos h3]
       have:x=i/\y=i:=by omega
       rw [this.1,this.2]
       have:=Y6 (g:=g) hgd (show i < 64 by omega)
       unfold dl; rw [if_neg (by omega)]; omega
      ·rw [if_neg h3]; omega
   rw [if_pos (by rw [Kn]; simp; omega),U8 hc hv hg (Kr M c g i) (B + 1) (by omega) (fun x y=>by
    have:=hM x y; have:=hd x y
    unfold Kr; split <;> omega) i hi,OS,e]
  ·show Cg (Dj g 0) (c,true) (f + 1) (g.length:Int) (Ho g.length (Kr M c g g.length))=_
   conv=>lhs; unfold Cg
   rw [if_neg (by rw [Kn]; simp)]
 rwa [h0] at h1
end
/-- How many texts put x before y. -/
def vt (l:List (List AD)) (g:List Ah) (x y:Nat):Int:=((l.countP fun c=>cm c g x y == -1:Nat):Int)
theorem Ww (l:List (List AD)) (c:List AD) (g:List Ah) (x y:Nat):vt (l++[c]) g x y=vt l g x y + dl c g x y:=by
 unfold vt dl
 rw [List.countP_append]
 by_cases h:cm c g x y = -1 <;> simp [h]
theorem YP (l:List (List AD)) (g:List Ah) (x y:Nat):0<=vt l g x y/\vt l g x y<=l.length:=by
 unfold vt
 have:=List.countP_le_length (p:=fun c=>cm c g x y == -1) (l:=l)
 omega
theorem Sd {n:Nat}{M K:Nat->Nat->Int}(h:∀ x y,x < n->y < n->M x y=K x y):Ho n M=Ho n K:=by
 unfold Ho
 refine List.map_congr_left fun x hx=>?_
 unfold Qa
 exact List.map_congr_left fun y hy=>h x y (List.mem_range.1 hx) (List.mem_range.1 hy)
def okT (l:List (List AD)):Bool:=l.all fun c=>decide ((Ow c).2=0)
section
variable {l:List (List AD)}{g:List Ah}(hl:∀ c ∈ l,few c) (hg:FewR g)
include hl hg
theorem SF (h16:l.length<=16):∀ (r pre:List (List AD)) (f:Nat),l=pre++r->r.length < f->okT pre=true->EH l (Dj g 0) f (pre.length:Int) (Ho g.length (vt pre g))=some (if okT l=true then .inl (Ho g.length (vt l g)) else .inr ())
 | [],pre,f + 1,e,_,hv=>by
  have e':l=pre:=by rw [e]; simp
  unfold EH
  rw [if_neg (by rw [e']; simp),e',if_pos hv]
 | c::r,pre,f + 1,e,hf,hv=>by
  have hcf:few c:=hl c (by rw [e]; simp)
  have hll:l.length=pre.length + r.length + 1:=by rw [e]; simp; omega
  unfold EH
  rw [if_pos (by rw [e]; exact II pre c r),show idx l (pre.length:Int)=some c by rw [e,Fp],OS,Us c hcf,OS]
  by_cases h0:(Ow c).2=0
  ·rw [if_pos h0]
   have hM:=Tz hcf h0 hg (vt pre g) pre.length (by omega) (fun x y=>YP pre g x y)
   have e2:Ho g.length (Kr (vt pre g) c g g.length)=Ho g.length (vt (pre++[c]) g):=Sd fun x y hx hy=>by
    rw [Ww]; unfold Kr; rw [if_pos ⟨hx,hy⟩]
   rw [if_neg (by simp),hM,OS,e2,show wr .i64 ((pre.length:Int) + 1)=((pre++[c]).length:Int) from Fq pre c r (by rw [<-e]; omega)]
   exact SF h16 r (pre++[c]) f (by rw [e]; simp) (by simp at hf; omega) (by unfold okT at hv ⊢; rw [List.all_append,hv]; simp [h0])
  ·rw [if_neg h0,if_pos (by rfl),if_neg]
   unfold okT
   rw [e,List.all_append]
   simp [h0]
/-- The table of the program. -/
theorem RR:Em l g=some (if l.length<=16/\okT l=true then (Ho g.length (vt l g),true) else ([],false)):=by
 have hn:=hg.n
 unfold Em
 by_cases h16:l.length<=16
 ·have j:(if (decide ((l.length:Int) > 16))=true then some true else some (decide ((g.length:Int) > 64)))=some false:=by
   rw [if_neg (by simp; omega)]; simp; omega
  rw [j,OS,if_neg (by simp),if_pos (by simp [P0]; omega)]
  have z:Cp g 100000 0 (List.replicate (g.length:Int).toNat ([]:List Int))=some (Ho g.length (vt [] g)):=by
   have:=Oa (σ:=List (List Int)) g.length (fun i=>(List.range g.length).map fun x=>if x < i then Qa g.length (vt [] g x) else []) (some (Ho g.length (vt [] g))) (fun f c' s=>Cp g f c' s) (by omega) (fun i hi f=>by
    show Cp g (f + 1) (i:Int) ((List.range g.length).map fun x=>if x < i then Qa g.length (vt [] g x) else [])=_
    conv=>lhs; unfold Cp
    rw [if_pos (by simp; omega),if_pos (by simp [P0]; omega),I8 (by simpa using hi),OS,Int.toNat_natCast,Int.toNat_natCast]
    rw [KT g.length _ (fun x=>if x < i + 1 then Qa g.length (vt [] g x) else []) i _ (by
     rw [if_pos (by omega)]
     unfold Qa
     apply List.ext_getElem <;> simp [vt]) (fun y hy=>by
     by_cases h1:y < i
     ·rw [if_pos (by omega),if_pos h1]
     ·rw [if_neg (by omega),if_neg h1])]) (fun f=>by
    show Cp g (f + 1) (g.length:Int) ((List.range g.length).map fun x=>if x < g.length then Qa g.length (vt [] g x) else [])=_
    conv=>lhs; unfold Cp
    rw [if_neg (by simp)]
    congr 1
    unfold Ho
    exact List.map_congr_left fun x hx=>by rw [if_pos (List.mem_range.1 hx)])
   rw [<-this]
   congr 1
   apply List.ext_getElem <;> simp
  have t:=SF hl hg h16 l [] 100000 rfl (by omega) rfl
  rw [z,OS,Xv g (by omega),OS]
  rw [show ((([]:List (List AD)).length:Nat):Int)=0 from rfl] at t
  rw [t,OS]
  by_cases hv:okT l=true
  ·rw [if_pos hv,if_pos ⟨h16,hv⟩]
  ·rw [if_neg hv,if_neg (fun h=>hv h.2)]
 ·have j:(if (decide ((l.length:Int) > 16))=true then some true else some (decide ((g.length:Int) > 64)))=some true:=by
   rw [if_pos (by simp; omega)]
  rw [j,OS,if_pos rfl,if_neg (fun h=>h16 h.1)]
end
theorem PY:∀ {l m:List Int},l.Nodup->(∀ x ∈ l,x ∈ m)->l.length<=m.length
 | [],_,_,_=>Nat.zero_le _
 | x::l,m,h,s=>by
  obtain ⟨h1,h2⟩:=List.nodup_cons.1 h
  have hx:=s x (by simp)
  have:=PY (l:=l) (m:=m.erase x) h2 fun y hy=>(List.mem_erase_of_ne (fun e:y=x=>h1 (e ▸ hy))).2 (s y (List.mem_cons_of_mem _ hy))
  rw [List.length_erase_of_mem hx] at this
  have:0 < m.length:=List.length_pos_of_mem hx
  simp; omega
/-- The numbers below n. -/
def Ga (n:Nat):List Int:=(List.range n).map fun (i:Nat)=>(i:Int)
theorem Ji (n:Nat):(Ga n).length=n:=by simp [Ga]
theorem Kk {n:Nat}{v:Int}:v ∈ Ga n↔0<=v/\v < n:=by
 unfold Ga
 rw [List.mem_map]
 constructor
 ·rintro ⟨i,hi,rfl⟩
  have:=List.mem_range.1 hi
  omega
 ·rintro ⟨h1,h2⟩
  exact ⟨v.toNat,List.mem_range.2 (by omega),by omega⟩
theorem Sk (n:Nat):(Ga n).Nodup:=by
 unfold Ga
 refine List.Pairwise.map (fun (i:Nat)=>(i:Int)) (fun a b (h:a≠b)=>?_) (List.nodup_range (n:=n))
 simp only [ne_eq]; omega
/-- In the range, none twice. -/
def pmB (n:Nat):List Int->List Int->Bool
 | _,[]=>true
 | pre,v::r=>!(decide (v < 0)||decide (v≥(n:Int))||decide (v ∈ pre))&&pmB n (pre++[v]) r
theorem Pd {n:Nat}:∀ {r pre:List Int},pmB n pre r=true->pre.Nodup->(∀ v ∈ pre,0<=v/\v < n)->(pre++r).Nodup/\∀ v ∈ pre++r,0<=v/\v < n
 | [],pre,_,hn,hp=>by simpa using ⟨hn,hp⟩
 | v::r,pre,h,hn,hp=>by
  unfold pmB at h
  simp only [Bool.and_eq_true,Bool.not_eq_true',Bool.or_eq_false_iff,decide_eq_false_iff_not] at h
  obtain ⟨⟨⟨h1,h2⟩,h3⟩,h4⟩:=h
  have:=Pd (r:=r) (pre:=pre++[v]) h4 (List.nodup_append.2 ⟨hn,by simp,fun a ha b hb e=>by
   simp at hb; subst hb e; exact h3 ha⟩) (fun w hw=>by
   rcases List.mem_append.1 hw with hw | hw
   ·exact hp w hw
   ·simp at hw; subst hw; omega)
  simpa using this
theorem QY {n:Nat}:∀ {r pre:List Int},pmB n pre r=false->∃ (p:List Int) (v:Int) (q:List Int),pre++r=p++v::q/\(¬ (0<=v/\v < n)\/v ∈ p)
 | [],pre,h=>by cases h
 | v::r,pre,h=>by
  unfold pmB at h
  by_cases hb:¬ (0<=v/\v < n)\/v ∈ pre
  ·exact ⟨pre,v,r,rfl,hb⟩
  ·have hb':(decide (v < 0)||decide (v≥(n:Int))||decide (v ∈ pre))=false:=by
    simp only [Bool.or_eq_false_iff,decide_eq_false_iff_not]
    refine ⟨⟨?_,?_⟩,fun h=>hb (.inr h)⟩
    ·intro h; exact hb (.inl (by omega))
    ·intro h; exact hb (.inl (by omega))
   rw [hb'] at h
   obtain ⟨p,w,q,h1,h2⟩:=QY (r:=r) (pre:=pre++[v]) (by simpa using h)
   exact ⟨p,w,q,by rw [<-h1]; simp,h2⟩
/-- Both tests of a permutation say the same. -/
theorem YA (n:Nat) (o:List Int):(pmB n [] o=true/\o.length=n)↔(o.length=n/\∀ w:Nat,w < n->(w:Int) ∈ o):=by
 constructor
 ·rintro ⟨h,hl⟩
  obtain ⟨h1,h2⟩:=Pd h List.nodup_nil (fun v hv=>by cases hv)
  simp only [List.nil_append] at h1 h2
  refine ⟨hl,fun w hw=>?_⟩
  by_cases hin:(w:Int) ∈ o
  ·exact hin
  ·have:=PY (l:=(w:Int)::o) (m:=Ga n) (List.nodup_cons.2 ⟨hin,h1⟩) (fun x hx=>by
    rcases List.mem_cons.1 hx with rfl | hx
    ·exact Kk.2 (by omega)
    ·exact Kk.2 (h2 x hx))
   rw [Ji] at this
   simp at this
   omega
 ·rintro ⟨hl,hw⟩
  refine ⟨?_,hl⟩
  cases h:pmB n [] o with
  | true=>rfl
  | false =>
   obtain ⟨p,v,q,h1,h2⟩:=QY h
   simp only [List.nil_append] at h1
   have:=PY (l:=Ga n) (m:=p++q) (Sk n) (fun x hx=>by
    have hr:=Kk.1 hx
    have:=hw x.toNat (by omega)
    rw [show ((x.toNat:Nat):Int)=x by omega,h1] at this
    rcases List.mem_append.1 this with h3 | h3
    ·exact List.mem_append_left _ h3
    ·rcases List.mem_cons.1 h3 with e | h3
     ·subst e
      rcases h2 with h2 | h2
      ·exact absurd hr h2
      ·exact List.mem_append_left _ h2
     ·exact List.mem_append_right _ h3)
   rw [Ji] at this
   have hl2:=congrArg List.length h1
   simp at hl2 this
   omega
def VT (n:Nat) (o:List Int):Bool:=pmB n [] o&&decide (o.length=n)
theorem PS {n:Nat}{o:List Int}(h:VT n o=true):∀ v ∈ o,0<=v/\v < n:=by
 unfold VT at h
 simp only [Bool.and_eq_true] at h
 exact (Pd h.1 List.nodup_nil (fun v hv=>by cases hv)).2
/-- Sums. -/
def FI {α:Type}(f:α->Int):List α->Int
 | []=>0
 | x::r=>f x + FI f r
theorem NH {α:Type}(f:α->Int):∀ a b:List α,FI f (a++b)=FI f a + FI f b
 | [],b=>by simp [FI]
 | x::a,b=>by simp only [List.cons_append,FI,NH f a b]; omega
theorem Nz {α:Type}{f:α->Int}{B:Int}:∀ {l:List α},(∀ x ∈ l,0<=f x/\f x<=B)->0<=FI f l/\FI f l<=l.length * B
 | [],_=>by simp [FI]
 | x::l,h=>by
  have h1:=h x (by simp)
  have h2:=Nz (l:=l) fun y hy=>h y (List.mem_cons_of_mem _ hy)
  simp only [FI,List.length_cons]
  have:((l.length + 1:Nat):Int) * B=l.length * B + B:=by rw [Int.natCast_add,Int.add_mul]; simp
  rw [this]
  omega
/-- The sum over the pairs of an order: W of the later and the earlier one. -/
def prS (W:Int->Int->Int):List Int->Int
 | []=>0
 | x::r=>FI (fun y=>W y x) r + prS W r
theorem Pe (W:Int->Int->Int) (y:Int):∀ r:List Int,prS W (r++[y])=prS W r + FI (fun x=>W y x) r
 | []=>by simp [prS,FI]
 | x::r=>by
  simp only [List.cons_append,prS,Pe W y r,NH,FI]
  omega
theorem R9 {W:Int->Int->Int}{B:Int}(hB:0<=B):∀ {l:List Int},(∀ x ∈ l,∀ y ∈ l,0<=W x y/\W x y<=B)->0<=prS W l/\prS W l<=l.length * (l.length * B)
 | [],_=>by simp [prS]
 | x::l,h=>by
  have h1:=Nz (f:=fun y=>W y x) (l:=l) (B:=B) fun y hy=>h y (List.mem_cons_of_mem _ hy) x (by simp)
  have h2:=R9 hB (l:=l) fun a ha b hb=>h a (List.mem_cons_of_mem _ ha) b (List.mem_cons_of_mem _ hb)
  simp only [prS,List.length_cons]
  have e:((l.length + 1:Nat):Int) * (((l.length + 1:Nat):Int) * B)=l.length * (l.length * B) + l.length * B + (l.length * B + B):=by
   rw [Int.natCast_add]
   simp only [Int.add_mul,Int.mul_add,Int.one_mul,Int.natCast_one]
  rw [e]
  have:0<=(l.length:Int) * B:=Int.mul_nonneg (by omega) hB
  omega
/- trestle/trestleref03.Disagreements -/
/- trestle/trestleref03.all -/
/- trestle/trestlekit.CopyInts -/
/- trestle/trestleref03.next -/
/- trestle/trestleref03.Compromise -/
theorem Qc {f:Int->Int}{a b:List Int}(h:a.Perm b):FI f a=FI f b:=by
 induction h with
 | nil=>rfl
 | cons x _ ih=>simp only [FI,ih]
 | swap x y l=>simp only [FI]; omega
 | trans _ _ h1 h2=>exact h1.trans h2
/- trestle/court.Compromise -/
section
variable {g:List Ah}(hn:g.length<=7){W:Int->Int->Int}(hW:∀ x y,0<=W x y/\W x y<=16) (h0:∀ x:Nat,x < g.length->W (x:Int) (x:Int)=0){T:List (List Int)}{b:Bool}(hT:∀ u v:Int,0<=u/\u < g.length->0<=v/\v < g.length->∃ r,idx T u=some r/\idx r v=some (W u v))
end
section
variable {g:List Ah}(hg:FewR g)
include hg
end
/- trestle/trestlelaw03.FewGuests$1$1 -/
/- slices.IndexFunc[[]string,string] -/
/- slices.ContainsFunc[[]string,string] -/
/- trestle/trestlelaw03.FewGuests$1 -/
/- slices.IndexFunc[[]trestle/api.Guest,trestle/api.Guest] -/
/- slices.ContainsFunc[[]trestle/api.Guest,trestle/api.Guest] -/
/- trestle/trestlelaw03.FewGuests -/
/- trestle/trestlekit.CopyWords -/
/- trestle/trestlekit.CopyGuest -/
/- trestle/trestlekit.SameWords -/
/- trestle/trestlekit.SameGuest -/
/- trestle/trestlekit.CopyGuests -/
end Go.Proofs.YtlalcoehgkmhlaaGreatDoor
