/- Lemmas for the proof. -/
import Derived.Test.YtdjhmdbpcfnpgaaGreatDoorCourtWeakM1
import Derived.Test.YtdjhmdbpcfnpgaaGreatDoorCourtWeakM2
import Derived.Test.YtdjhmdbpcfnpgaaGreatDoorCourtWeakM3
set_option maxHeartbeats 4000000
set_option maxRecDepth 100000
namespace Go.Proofs.YtdjhmdbpcfnpgaaGreatDoor
open Go.RowKit
/- trestle/trestlelaw03.Guest -/
noncomputable def D2:Code:=Br Tryz.f42
def EP (x0:(Int×Int)) (x1:(List UInt8)):Option ((Int×Int×(List UInt8)×(List UInt8)×(List UInt8)×Int×Int×(List UInt8)×Bool×Bool×(List UInt8)×(List UInt8)×(List UInt8)×Int×Int×(List UInt8)×Bool×Bool)) :=
 if ((BG .u8 x0.1 4)!=0)=true then
 if (C8 (BG .u8 (x0.1.fdiv 8) 3) (([97,98,99,100]:List UInt8).length:Int) ([97,98,99,100]:List UInt8).length)=true then
 if (C8 0 (1:Int) ((([97,98,99,100]:List UInt8).take (([97,98,99,100]:List UInt8).length:Int).toNat).drop (BG .u8 (x0.1.fdiv 8) 3).toNat).length)=true then
 some (x0.1,x0.2,[],[],[],0,0,[],false,false,x1,((((([97,98,99,100]:List UInt8).take (([97,98,99,100]:List UInt8).length:Int).toNat).drop (BG .u8 (x0.1.fdiv 8) 3).toNat).take (1:Int).toNat).drop (0:Int).toNat),[],(wr .i64 (10 * (wr .i64 (x0.2.tmod 4)))),(wr .i64 (x0.1.tmod 3)),[],((BG .u8 x0.1 64)!=0),((BG .u8 x0.2 128)!=0))
 else none
 else none
 else
 some (x0.1,x0.2,[],[],[],0,0,[],false,false,x1,[],[],(wr .i64 (10 * (wr .i64 (x0.2.tmod 4)))),(wr .i64 (x0.1.tmod 3)),[],((BG .u8 x0.1 64)!=0),((BG .u8 x0.2 128)!=0))
def EQ (r22:Int×Int×(List UInt8)×(List UInt8)×(List UInt8)×Int×Int×(List UInt8)×Bool×Bool×(List UInt8)×(List UInt8)×(List UInt8)×Int×Int×(List UInt8)×Bool×Bool):Option ((Int×Int×(List UInt8)×(List UInt8)×(List UInt8)×Int×Int×(List UInt8)×Bool×Bool×(List UInt8)×(List UInt8)×(List UInt8)×Int×Int×(List UInt8)×Bool×Bool)) :=
 if ((BG .u8 r22.2.1 4)!=0)=true then
 if (C8 (BG .u8 (r22.2.1.fdiv 8) 3) (([97,98,99,100]:List UInt8).length:Int) ([97,98,99,100]:List UInt8).length)=true then
 if (C8 0 (1:Int) ((([97,98,99,100]:List UInt8).take (([97,98,99,100]:List UInt8).length:Int).toNat).drop (BG .u8 (r22.2.1.fdiv 8) 3).toNat).length)=true then
 some (r22.1,r22.2.1,r22.2.2.1,r22.2.2.2.1,r22.2.2.2.2.1,r22.2.2.2.2.2.1,r22.2.2.2.2.2.2.1,r22.2.2.2.2.2.2.2.1,r22.2.2.2.2.2.2.2.2.1,r22.2.2.2.2.2.2.2.2.2.1,r22.2.2.2.2.2.2.2.2.2.2.1,r22.2.2.2.2.2.2.2.2.2.2.2.1,((((([97,98,99,100]:List UInt8).take (([97,98,99,100]:List UInt8).length:Int).toNat).drop (BG .u8 (r22.2.1.fdiv 8) 3).toNat).take (1:Int).toNat).drop (0:Int).toNat),r22.2.2.2.2.2.2.2.2.2.2.2.2.2.1,r22.2.2.2.2.2.2.2.2.2.2.2.2.2.2.1,r22.2.2.2.2.2.2.2.2.2.2.2.2.2.2.2.1,r22.2.2.2.2.2.2.2.2.2.2.2.2.2.2.2.2.1,r22.2.2.2.2.2.2.2.2.2.2.2.2.2.2.2.2.2)
 else none
 else none
 else
 some (r22.1,r22.2.1,r22.2.2.1,r22.2.2.2.1,r22.2.2.2.2.1,r22.2.2.2.2.2.1,r22.2.2.2.2.2.2.1,r22.2.2.2.2.2.2.2.1,r22.2.2.2.2.2.2.2.2.1,r22.2.2.2.2.2.2.2.2.2.1,r22.2.2.2.2.2.2.2.2.2.2.1,r22.2.2.2.2.2.2.2.2.2.2.2.1,r22.2.2.2.2.2.2.2.2.2.2.2.2.1,r22.2.2.2.2.2.2.2.2.2.2.2.2.2.1,r22.2.2.2.2.2.2.2.2.2.2.2.2.2.2.1,r22.2.2.2.2.2.2.2.2.2.2.2.2.2.2.2.1,r22.2.2.2.2.2.2.2.2.2.2.2.2.2.2.2.2.1,r22.2.2.2.2.2.2.2.2.2.2.2.2.2.2.2.2.2)
def ER (r44:Int×Int×(List UInt8)×(List UInt8)×(List UInt8)×Int×Int×(List UInt8)×Bool×Bool×(List UInt8)×(List UInt8)×(List UInt8)×Int×Int×(List UInt8)×Bool×Bool):Option ((Int×Int×(List UInt8)×(List UInt8)×(List UInt8)×Int×Int×(List UInt8)×Bool×Bool×(List UInt8)×(List UInt8)×(List UInt8)×Int×Int×(List UInt8)×Bool×Bool×(List (List UInt8)))) :=
 if ((BG .u8 r44.2.1 64)!=0)=true then
 if (C8 (BG .u8 (r44.1.fdiv 16) 3) (([97,98,99,100]:List UInt8).length:Int) ([97,98,99,100]:List UInt8).length)=true then
 if (C8 0 (1:Int) ((([97,98,99,100]:List UInt8).take (([97,98,99,100]:List UInt8).length:Int).toNat).drop (BG .u8 (r44.1.fdiv 16) 3).toNat).length)=true then
 some (r44.1,r44.2.1,r44.2.2.1,r44.2.2.2.1,r44.2.2.2.2.1,r44.2.2.2.2.2.1,r44.2.2.2.2.2.2.1,r44.2.2.2.2.2.2.2.1,r44.2.2.2.2.2.2.2.2.1,r44.2.2.2.2.2.2.2.2.2.1,r44.2.2.2.2.2.2.2.2.2.2.1,r44.2.2.2.2.2.2.2.2.2.2.2.1,r44.2.2.2.2.2.2.2.2.2.2.2.2.1,r44.2.2.2.2.2.2.2.2.2.2.2.2.2.1,r44.2.2.2.2.2.2.2.2.2.2.2.2.2.2.1,r44.2.2.2.2.2.2.2.2.2.2.2.2.2.2.2.1,r44.2.2.2.2.2.2.2.2.2.2.2.2.2.2.2.2.1,r44.2.2.2.2.2.2.2.2.2.2.2.2.2.2.2.2.2,[((((([97,98,99,100]:List UInt8).take (([97,98,99,100]:List UInt8).length:Int).toNat).drop (BG .u8 (r44.1.fdiv 16) 3).toNat).take (1:Int).toNat).drop (0:Int).toNat)])
 else none
 else none
 else
 some (r44.1,r44.2.1,r44.2.2.1,r44.2.2.2.1,r44.2.2.2.2.1,r44.2.2.2.2.2.1,r44.2.2.2.2.2.2.1,r44.2.2.2.2.2.2.2.1,r44.2.2.2.2.2.2.2.2.1,r44.2.2.2.2.2.2.2.2.2.1,r44.2.2.2.2.2.2.2.2.2.2.1,r44.2.2.2.2.2.2.2.2.2.2.2.1,r44.2.2.2.2.2.2.2.2.2.2.2.2.1,r44.2.2.2.2.2.2.2.2.2.2.2.2.2.1,r44.2.2.2.2.2.2.2.2.2.2.2.2.2.2.1,r44.2.2.2.2.2.2.2.2.2.2.2.2.2.2.2.1,r44.2.2.2.2.2.2.2.2.2.2.2.2.2.2.2.2.1,r44.2.2.2.2.2.2.2.2.2.2.2.2.2.2.2.2.2,[])
def ES (r67:Int×Int×(List UInt8)×(List UInt8)×(List UInt8)×Int×Int×(List UInt8)×Bool×Bool×(List UInt8)×(List UInt8)×(List UInt8)×Int×Int×(List UInt8)×Bool×Bool×(List (List UInt8))):Option (((List UInt8)×(List UInt8)×(List UInt8)×Int×Int×(List UInt8)×Bool×Bool×(List UInt8)×(List UInt8)×(List UInt8)×Int×Int×(List UInt8)×Bool×Bool×(List (List UInt8)))) :=
 if ((BG .u8 r67.1 128)!=0)=true then
 if (C8 (BG .u8 (r67.2.1.fdiv 16) 3) (([97,98,99,100]:List UInt8).length:Int) ([97,98,99,100]:List UInt8).length)=true then
 if (C8 0 (1:Int) ((([97,98,99,100]:List UInt8).take (([97,98,99,100]:List UInt8).length:Int).toNat).drop (BG .u8 (r67.2.1.fdiv 16) 3).toNat).length)=true then
 some (r67.2.2.1,r67.2.2.2.1,r67.2.2.2.2.1,r67.2.2.2.2.2.1,r67.2.2.2.2.2.2.1,r67.2.2.2.2.2.2.2.1,r67.2.2.2.2.2.2.2.2.1,r67.2.2.2.2.2.2.2.2.2.1,r67.2.2.2.2.2.2.2.2.2.2.1,r67.2.2.2.2.2.2.2.2.2.2.2.1,r67.2.2.2.2.2.2.2.2.2.2.2.2.1,r67.2.2.2.2.2.2.2.2.2.2.2.2.2.1,r67.2.2.2.2.2.2.2.2.2.2.2.2.2.2.1,((((([97,98,99,100]:List UInt8).take (([97,98,99,100]:List UInt8).length:Int).toNat).drop (BG .u8 (r67.2.1.fdiv 16) 3).toNat).take (1:Int).toNat).drop (0:Int).toNat),r67.2.2.2.2.2.2.2.2.2.2.2.2.2.2.2.2.1,r67.2.2.2.2.2.2.2.2.2.2.2.2.2.2.2.2.2.1,r67.2.2.2.2.2.2.2.2.2.2.2.2.2.2.2.2.2.2)
 else none
 else none
 else
 some (r67.2.2.1,r67.2.2.2.1,r67.2.2.2.2.1,r67.2.2.2.2.2.1,r67.2.2.2.2.2.2.1,r67.2.2.2.2.2.2.2.1,r67.2.2.2.2.2.2.2.2.1,r67.2.2.2.2.2.2.2.2.2.1,r67.2.2.2.2.2.2.2.2.2.2.1,r67.2.2.2.2.2.2.2.2.2.2.2.1,r67.2.2.2.2.2.2.2.2.2.2.2.2.1,r67.2.2.2.2.2.2.2.2.2.2.2.2.2.1,r67.2.2.2.2.2.2.2.2.2.2.2.2.2.2.1,r67.2.2.2.2.2.2.2.2.2.2.2.2.2.2.2.1,r67.2.2.2.2.2.2.2.2.2.2.2.2.2.2.2.2.1,r67.2.2.2.2.2.2.2.2.2.2.2.2.2.2.2.2.2.1,r67.2.2.2.2.2.2.2.2.2.2.2.2.2.2.2.2.2.2)
def Eg (x0:(Int×Int)) (x1:(List UInt8)):Option (CB) :=
 (EP x0 x1).bind fun r22 =>
 (EQ r22).bind fun r44 =>
 (ER r44).bind fun r67 =>
 (ES r67).bind fun r88 =>
 some r88.2.2.2.2.2.2.2.2
def HK:Cs (((Int×Int))×(List UInt8)×Unit):=(csC (MQ (cdK .u8) (cdK .u8) (fun _=>rfl) (fun _=>rfl)) (csC cdS csN))
def HN (r:CB):AV:=AH.enc r
theorem KA (x0:(Int×Int)) (x1:(List UInt8)) (r:(Int×Int×(List UInt8)×(List UInt8)×(List UInt8)×Int×Int×(List UInt8)×Bool×Bool×(List UInt8)×(List UInt8)×(List UInt8)×Int×Int×(List UInt8)×Bool×Bool)) (h:EP x0 x1=some r):Sem E0 ⟨none,false⟩ (pc D2 [1,1,0,1]) ⟨Fr 71 [(2,.pt 0 0 0),(4,.pt 1 0 0),(5,.pt 2 0 0),(28,.b ((BG .u8 x0.1 4)!=0))],[some ⟨2,35,[.ag [.v (.int .u8 x0.1),.v (.int .u8 x0.2)]],false⟩,some ⟨9,47,[.ag [.st [],.st [],.st [],.j 0,.j 0,.st [],.b false,.b false,.e0]],false⟩,some ⟨9,47,[.ag [.st x1,.st [],.st [],.j (wr .i64 (10 * (wr .i64 (x0.2.tmod 4)))),.j (wr .i64 (x0.1.tmod 3)),.st [],.b ((BG .u8 x0.1 64)!=0),.b ((BG .u8 x0.2 128)!=0),.e0]],false⟩]⟩ (fun e s=>e = .normal/\Wk E0 s ⟨Fr 71 [(2,.pt 0 0 0),(4,.pt 1 0 0),(5,.pt 2 0 0)],[some ⟨2,35,[.ag [.v (.int .u8 r.1),.v (.int .u8 r.2.1)]],false⟩,some ⟨9,47,[.ag [.st r.2.2.1,.st r.2.2.2.1,.st r.2.2.2.2.1,.j r.2.2.2.2.2.1,.j r.2.2.2.2.2.2.1,.st r.2.2.2.2.2.2.2.1,.b r.2.2.2.2.2.2.2.2.1,.b r.2.2.2.2.2.2.2.2.2.1,.e0]],false⟩,some ⟨9,47,[.ag [.st r.2.2.2.2.2.2.2.2.2.2.1,.st r.2.2.2.2.2.2.2.2.2.2.2.1,.st r.2.2.2.2.2.2.2.2.2.2.2.2.1,.j r.2.2.2.2.2.2.2.2.2.2.2.2.2.1,.j r.2.2.2.2.2.2.2.2.2.2.2.2.2.2.1,.st r.2.2.2.2.2.2.2.2.2.2.2.2.2.2.2.1,.b r.2.2.2.2.2.2.2.2.2.2.2.2.2.2.2.2.1,.b r.2.2.2.2.2.2.2.2.2.2.2.2.2.2.2.2.2,.e0]],false⟩]⟩):=by
 unfold EP at h;refine AS (b:=((BG .u8 x0.1 4)!=0)) kr (fun hb1=>?_) (fun hb1=>?_)
 ·rw [if_pos hb1] at h
  by_cases hk2:(C8 (BG .u8 (x0.1.fdiv 8) 3) (([97,98,99,100]:List UInt8).length:Int) ([97,98,99,100]:List UInt8).length)=true
  case neg=>rw [if_neg hk2] at h; cases h
  rw [if_pos hk2] at h;by_cases hk3:(C8 0 (1:Int) ((([97,98,99,100]:List UInt8).take (([97,98,99,100]:List UInt8).length:Int).toNat).drop (BG .u8 (x0.1.fdiv 8) 3).toNat).length)=true
  case neg=>rw [if_neg hk3] at h; cases h
  rw [if_pos hk3] at h
  let p1:Option Blk:=some ⟨9,47,[.ag [.st [],.st [],.st [],.j 0,.j 0,.st [],.b false,.b false,.e0]],false⟩
  let p2:Option Blk:=some ⟨2,35,[.ag [.v (.int .u8 x0.1),.v (.int .u8 x0.2)]],false⟩
  refine AL (s1:=⟨Fr 71 [(2,.pt 0 0 0),(4,.pt 1 0 0),(5,.pt 2 0 0)],[p2,p1,some ⟨9,47,[.ag [.st x1,.st ((((([97,98,99,100]:List UInt8).take (([97,98,99,100]:List UInt8).length:Int).toNat).drop (BG .u8 (x0.1.fdiv 8) 3).toNat).take (1:Int).toNat).drop (0:Int).toNat),.st [],.j (wr .i64 (10 * (wr .i64 (x0.2.tmod 4)))),.j (wr .i64 (x0.1.tmod 3)),.st [],.b ((BG .u8 x0.1 64)!=0),.b ((BG .u8 x0.2 128)!=0),.e0]],false⟩]⟩) ?_ ?_
  ·refine AE (n:=71) AC 4 [(2,.pt 0 0 0),(4,.pt 1 0 0),(5,.pt 2 0 0),(32,.v (.int .u8 (BG .u8 (x0.1.fdiv 8) 3)))] [p2,p1,some ⟨9,47,[.ag [.st x1,.st [],.st [],.j (wr .i64 (10 * (wr .i64 (x0.2.tmod 4)))),.j (wr .i64 (x0.1.tmod 3)),.st [],.b ((BG .u8 x0.1 64)!=0),.b ((BG .u8 x0.2 128)!=0),.e0]],false⟩] kr ?_
   refine Ak AC 0 rfl (ED (AB rfl) rfl (EE (a:= .st [97,98,99,100]) (l:=(some (.v (.int .u8 (BG .u8 (x0.1.fdiv 8) 3))))) (u:=none) (m:=none) kr kr kr rfl (EY (bs:=[97,98,99,100]) (lo:=(BG .u8 (x0.1.fdiv 8) 3)) (hi:=(([97,98,99,100]:List UInt8).length:Int)) kr (Fq (MR hk2)) rfl hk2))) ?_;refine Ak AC 0 rfl (ED (AB rfl) rfl (EE (a:= .st ((([97,98,99,100]:List UInt8).take (([97,98,99,100]:List UInt8).length:Int).toNat).drop (BG .u8 (x0.1.fdiv 8) 3).toNat)) (l:=none) (u:=(some (.j 1))) (m:=none) kr kr kr rfl (EY (bs:=((([97,98,99,100]:List UInt8).take (([97,98,99,100]:List UInt8).length:Int).toNat).drop (BG .u8 (x0.1.fdiv 8) 3).toNat)) (lo:=0) (hi:=(1:Int)) kr rfl (Fq (IX hk3)) hk3))) ?_;exact As AC
  have hq:=OI h; subst hq;exact ⟨rfl,(Af [0,1,2] ⟨⟨_,rfl,CJ⟩,⟨_,rfl,CJ⟩,⟨_,rfl,CJ⟩,trivial⟩ ⟨lv,lv,lv,trivial⟩)⟩
 ·rw [CZ hb1] at h
  refine Aa ?_;have hq:=OI h; subst hq;exact ⟨rfl,(Af [0,1,2] ⟨⟨_,rfl,CJ⟩,⟨_,rfl,CJ⟩,⟨_,rfl,CJ⟩,trivial⟩ ⟨lv,lv,lv,trivial⟩)⟩
theorem KB (r22:Int×Int×(List UInt8)×(List UInt8)×(List UInt8)×Int×Int×(List UInt8)×Bool×Bool×(List UInt8)×(List UInt8)×(List UInt8)×Int×Int×(List UInt8)×Bool×Bool) (r:(Int×Int×(List UInt8)×(List UInt8)×(List UInt8)×Int×Int×(List UInt8)×Bool×Bool×(List UInt8)×(List UInt8)×(List UInt8)×Int×Int×(List UInt8)×Bool×Bool)) (h:EQ r22=some r):Sem E0 ⟨none,false⟩ (pc D2 [1,1,1,0,1]) ⟨Fr 71 [(2,.pt 0 0 0),(4,.pt 1 0 0),(5,.pt 2 0 0),(39,.b ((BG .u8 r22.2.1 4)!=0))],[some ⟨2,35,[.ag [.v (.int .u8 r22.1),.v (.int .u8 r22.2.1)]],false⟩,some ⟨9,47,[.ag [.st r22.2.2.1,.st r22.2.2.2.1,.st r22.2.2.2.2.1,.j r22.2.2.2.2.2.1,.j r22.2.2.2.2.2.2.1,.st r22.2.2.2.2.2.2.2.1,.b r22.2.2.2.2.2.2.2.2.1,.b r22.2.2.2.2.2.2.2.2.2.1,.e0]],false⟩,some ⟨9,47,[.ag [.st r22.2.2.2.2.2.2.2.2.2.2.1,.st r22.2.2.2.2.2.2.2.2.2.2.2.1,.st r22.2.2.2.2.2.2.2.2.2.2.2.2.1,.j r22.2.2.2.2.2.2.2.2.2.2.2.2.2.1,.j r22.2.2.2.2.2.2.2.2.2.2.2.2.2.2.1,.st r22.2.2.2.2.2.2.2.2.2.2.2.2.2.2.2.1,.b r22.2.2.2.2.2.2.2.2.2.2.2.2.2.2.2.2.1,.b r22.2.2.2.2.2.2.2.2.2.2.2.2.2.2.2.2.2,.e0]],false⟩]⟩ (fun e s=>e = .normal/\Wk E0 s ⟨Fr 71 [(2,.pt 0 0 0),(4,.pt 1 0 0),(5,.pt 2 0 0)],[some ⟨2,35,[.ag [.v (.int .u8 r.1),.v (.int .u8 r.2.1)]],false⟩,some ⟨9,47,[.ag [.st r.2.2.1,.st r.2.2.2.1,.st r.2.2.2.2.1,.j r.2.2.2.2.2.1,.j r.2.2.2.2.2.2.1,.st r.2.2.2.2.2.2.2.1,.b r.2.2.2.2.2.2.2.2.1,.b r.2.2.2.2.2.2.2.2.2.1,.e0]],false⟩,some ⟨9,47,[.ag [.st r.2.2.2.2.2.2.2.2.2.2.1,.st r.2.2.2.2.2.2.2.2.2.2.2.1,.st r.2.2.2.2.2.2.2.2.2.2.2.2.1,.j r.2.2.2.2.2.2.2.2.2.2.2.2.2.1,.j r.2.2.2.2.2.2.2.2.2.2.2.2.2.2.1,.st r.2.2.2.2.2.2.2.2.2.2.2.2.2.2.2.1,.b r.2.2.2.2.2.2.2.2.2.2.2.2.2.2.2.2.1,.b r.2.2.2.2.2.2.2.2.2.2.2.2.2.2.2.2.2,.e0]],false⟩]⟩):=by
 unfold EQ at h;refine AS (b:=((BG .u8 r22.2.1 4)!=0)) kr (fun hb23=>?_) (fun hb23=>?_)
 ·rw [if_pos hb23] at h
  by_cases hk24:(C8 (BG .u8 (r22.2.1.fdiv 8) 3) (([97,98,99,100]:List UInt8).length:Int) ([97,98,99,100]:List UInt8).length)=true
  case neg=>rw [if_neg hk24] at h; cases h
  rw [if_pos hk24] at h;by_cases hk25:(C8 0 (1:Int) ((([97,98,99,100]:List UInt8).take (([97,98,99,100]:List UInt8).length:Int).toNat).drop (BG .u8 (r22.2.1.fdiv 8) 3).toNat).length)=true
  case neg=>rw [if_neg hk25] at h; cases h
  rw [if_pos hk25] at h
  let p1:Option Blk:=some ⟨9,47,[.ag [.st r22.2.2.1,.st r22.2.2.2.1,.st r22.2.2.2.2.1,.j r22.2.2.2.2.2.1,.j r22.2.2.2.2.2.2.1,.st r22.2.2.2.2.2.2.2.1,.b r22.2.2.2.2.2.2.2.2.1,.b r22.2.2.2.2.2.2.2.2.2.1,.e0]],false⟩
  let p2:Option Blk:=some ⟨2,35,[.ag [.v (.int .u8 r22.1),.v (.int .u8 r22.2.1)]],false⟩
  refine AL (s1:=⟨Fr 71 [(2,.pt 0 0 0),(4,.pt 1 0 0),(5,.pt 2 0 0)],[p2,p1,some ⟨9,47,[.ag [.st r22.2.2.2.2.2.2.2.2.2.2.1,.st r22.2.2.2.2.2.2.2.2.2.2.2.1,.st ((((([97,98,99,100]:List UInt8).take (([97,98,99,100]:List UInt8).length:Int).toNat).drop (BG .u8 (r22.2.1.fdiv 8) 3).toNat).take (1:Int).toNat).drop (0:Int).toNat),.j r22.2.2.2.2.2.2.2.2.2.2.2.2.2.1,.j r22.2.2.2.2.2.2.2.2.2.2.2.2.2.2.1,.st r22.2.2.2.2.2.2.2.2.2.2.2.2.2.2.2.1,.b r22.2.2.2.2.2.2.2.2.2.2.2.2.2.2.2.2.1,.b r22.2.2.2.2.2.2.2.2.2.2.2.2.2.2.2.2.2,.e0]],false⟩]⟩) ?_ ?_
  ·refine AE (n:=71) AC 4 [(2,.pt 0 0 0),(4,.pt 1 0 0),(5,.pt 2 0 0),(43,.v (.int .u8 (BG .u8 (r22.2.1.fdiv 8) 3)))] [p2,p1,some ⟨9,47,[.ag [.st r22.2.2.2.2.2.2.2.2.2.2.1,.st r22.2.2.2.2.2.2.2.2.2.2.2.1,.st r22.2.2.2.2.2.2.2.2.2.2.2.2.1,.j r22.2.2.2.2.2.2.2.2.2.2.2.2.2.1,.j r22.2.2.2.2.2.2.2.2.2.2.2.2.2.2.1,.st r22.2.2.2.2.2.2.2.2.2.2.2.2.2.2.2.1,.b r22.2.2.2.2.2.2.2.2.2.2.2.2.2.2.2.2.1,.b r22.2.2.2.2.2.2.2.2.2.2.2.2.2.2.2.2.2,.e0]],false⟩] kr ?_
   refine Ak AC 0 rfl (ED (AB rfl) rfl (EE (a:= .st [97,98,99,100]) (l:=(some (.v (.int .u8 (BG .u8 (r22.2.1.fdiv 8) 3))))) (u:=none) (m:=none) kr kr kr rfl (EY (bs:=[97,98,99,100]) (lo:=(BG .u8 (r22.2.1.fdiv 8) 3)) (hi:=(([97,98,99,100]:List UInt8).length:Int)) kr (Fq (MR hk24)) rfl hk24))) ?_;refine Ak AC 0 rfl (ED (AB rfl) rfl (EE (a:= .st ((([97,98,99,100]:List UInt8).take (([97,98,99,100]:List UInt8).length:Int).toNat).drop (BG .u8 (r22.2.1.fdiv 8) 3).toNat)) (l:=none) (u:=(some (.j 1))) (m:=none) kr kr kr rfl (EY (bs:=((([97,98,99,100]:List UInt8).take (([97,98,99,100]:List UInt8).length:Int).toNat).drop (BG .u8 (r22.2.1.fdiv 8) 3).toNat)) (lo:=0) (hi:=(1:Int)) kr rfl (Fq (IX hk25)) hk25))) ?_;exact As AC
  have hq:=OI h; subst hq;exact ⟨rfl,(Af [0,1,2] ⟨⟨_,rfl,CJ⟩,⟨_,rfl,CJ⟩,⟨_,rfl,CJ⟩,trivial⟩ ⟨lv,lv,lv,trivial⟩)⟩
 ·rw [CZ hb23] at h
  refine Aa ?_;have hq:=OI h; subst hq;exact ⟨rfl,(Af [0,1,2] ⟨⟨_,rfl,CJ⟩,⟨_,rfl,CJ⟩,⟨_,rfl,CJ⟩,trivial⟩ ⟨lv,lv,lv,trivial⟩)⟩
theorem KC (r44:Int×Int×(List UInt8)×(List UInt8)×(List UInt8)×Int×Int×(List UInt8)×Bool×Bool×(List UInt8)×(List UInt8)×(List UInt8)×Int×Int×(List UInt8)×Bool×Bool) (r:(Int×Int×(List UInt8)×(List UInt8)×(List UInt8)×Int×Int×(List UInt8)×Bool×Bool×(List UInt8)×(List UInt8)×(List UInt8)×Int×Int×(List UInt8)×Bool×Bool×(List (List UInt8)))) (h:ER r44=some r):Sem E0 ⟨none,false⟩ (pc D2 [1,1,1,1,0,1]) ⟨Fr 71 [(2,.pt 0 0 0),(4,.pt 1 0 0),(5,.pt 2 0 0),(50,.b ((BG .u8 r44.2.1 64)!=0))],[some ⟨2,35,[.ag [.v (.int .u8 r44.1),.v (.int .u8 r44.2.1)]],false⟩,some ⟨9,47,[.ag [.st r44.2.2.1,.st r44.2.2.2.1,.st r44.2.2.2.2.1,.j r44.2.2.2.2.2.1,.j r44.2.2.2.2.2.2.1,.st r44.2.2.2.2.2.2.2.1,.b r44.2.2.2.2.2.2.2.2.1,.b r44.2.2.2.2.2.2.2.2.2.1,.e0]],false⟩,some ⟨9,47,[.ag [.st r44.2.2.2.2.2.2.2.2.2.2.1,.st r44.2.2.2.2.2.2.2.2.2.2.2.1,.st r44.2.2.2.2.2.2.2.2.2.2.2.2.1,.j r44.2.2.2.2.2.2.2.2.2.2.2.2.2.1,.j r44.2.2.2.2.2.2.2.2.2.2.2.2.2.2.1,.st r44.2.2.2.2.2.2.2.2.2.2.2.2.2.2.2.1,.b r44.2.2.2.2.2.2.2.2.2.2.2.2.2.2.2.2.1,.b r44.2.2.2.2.2.2.2.2.2.2.2.2.2.2.2.2.2,.e0]],false⟩]⟩ (fun e s=>e = .normal/\Wk E0 s ⟨Fr 71 [(2,.pt 0 0 0),(4,.pt 1 0 0),(5,.pt 2 0 0)],[some ⟨2,35,[.ag [.v (.int .u8 r.1),.v (.int .u8 r.2.1)]],false⟩,some ⟨9,47,[.ag [.st r.2.2.1,.st r.2.2.2.1,.st r.2.2.2.2.1,.j r.2.2.2.2.2.1,.j r.2.2.2.2.2.2.1,.st r.2.2.2.2.2.2.2.1,.b r.2.2.2.2.2.2.2.2.1,.b r.2.2.2.2.2.2.2.2.2.1,.e0]],false⟩,some ⟨9,47,[AH.enc r.2.2.2.2.2.2.2.2.2.2],false⟩]⟩):=by
 unfold ER at h;refine AS (b:=((BG .u8 r44.2.1 64)!=0)) kr (fun hb45=>?_) (fun hb45=>?_)
 ·rw [if_pos hb45] at h
  by_cases hk46:(C8 (BG .u8 (r44.1.fdiv 16) 3) (([97,98,99,100]:List UInt8).length:Int) ([97,98,99,100]:List UInt8).length)=true
  case neg=>rw [if_neg hk46] at h; cases h
  rw [if_pos hk46] at h;by_cases hk47:(C8 0 (1:Int) ((([97,98,99,100]:List UInt8).take (([97,98,99,100]:List UInt8).length:Int).toNat).drop (BG .u8 (r44.1.fdiv 16) 3).toNat).length)=true
  case neg=>rw [if_neg hk47] at h; cases h
  rw [if_pos hk47] at h
  let p1:Option Blk:=some ⟨9,47,[.ag [.st r44.2.2.2.2.2.2.2.2.2.2.1,.st r44.2.2.2.2.2.2.2.2.2.2.2.1,.st r44.2.2.2.2.2.2.2.2.2.2.2.2.1,.j r44.2.2.2.2.2.2.2.2.2.2.2.2.2.1,.j r44.2.2.2.2.2.2.2.2.2.2.2.2.2.2.1,.st r44.2.2.2.2.2.2.2.2.2.2.2.2.2.2.2.1,.b r44.2.2.2.2.2.2.2.2.2.2.2.2.2.2.2.2.1,.b r44.2.2.2.2.2.2.2.2.2.2.2.2.2.2.2.2.2,.sl 1 ([((((([97,98,99,100]:List UInt8).take (([97,98,99,100]:List UInt8).length:Int).toNat).drop (BG .u8 (r44.1.fdiv 16) 3).toNat).take (1:Int).toNat).drop (0:Int).toNat)].map cdS.enc)]],false⟩
  let p2:Option Blk:=some ⟨9,47,[.ag [.st r44.2.2.1,.st r44.2.2.2.1,.st r44.2.2.2.2.1,.j r44.2.2.2.2.2.1,.j r44.2.2.2.2.2.2.1,.st r44.2.2.2.2.2.2.2.1,.b r44.2.2.2.2.2.2.2.2.1,.b r44.2.2.2.2.2.2.2.2.2.1,.e0]],false⟩
  let p3:Option Blk:=some ⟨2,35,[.ag [.v (.int .u8 r44.1),.v (.int .u8 r44.2.1)]],false⟩
  let p4:Nat×AV:=(5,.pt 2 0 0)
  let p5:Nat×AV:=(4,.pt 1 0 0)
  let p6:Nat×AV:=(2,.pt 0 0 0)
  refine AL (s1:=⟨Fr 71 [p6,p5,p4],[p3,p2,p1]⟩) ?_ ?_
  ·let p7:Option Blk:=some ⟨9,47,[.ag [.st r44.2.2.2.2.2.2.2.2.2.2.1,.st r44.2.2.2.2.2.2.2.2.2.2.2.1,.st r44.2.2.2.2.2.2.2.2.2.2.2.2.1,.j r44.2.2.2.2.2.2.2.2.2.2.2.2.2.1,.j r44.2.2.2.2.2.2.2.2.2.2.2.2.2.2.1,.st r44.2.2.2.2.2.2.2.2.2.2.2.2.2.2.2.1,.b r44.2.2.2.2.2.2.2.2.2.2.2.2.2.2.2.2.1,.b r44.2.2.2.2.2.2.2.2.2.2.2.2.2.2.2.2.2,.e0]],false⟩
   refine AE (n:=71) AC 4 [p6,p5,p4,(54,.v (.int .u8 (BG .u8 (r44.1.fdiv 16) 3)))] [p3,p2,p7] kr ?_;refine Ak AC 0 rfl (ED (AB rfl) rfl (EE (a:= .st [97,98,99,100]) (l:=(some (.v (.int .u8 (BG .u8 (r44.1.fdiv 16) 3))))) (u:=none) (m:=none) kr kr kr rfl (EY (bs:=[97,98,99,100]) (lo:=(BG .u8 (r44.1.fdiv 16) 3)) (hi:=(([97,98,99,100]:List UInt8).length:Int)) kr (Fq (MR hk46)) rfl hk46))) ?_;refine Ak AC 0 rfl (ED (AB rfl) rfl (EE (a:= .st ((([97,98,99,100]:List UInt8).take (([97,98,99,100]:List UInt8).length:Int).toNat).drop (BG .u8 (r44.1.fdiv 16) 3).toNat)) (l:=none) (u:=(some (.j 1))) (m:=none) kr kr kr rfl (EY (bs:=((([97,98,99,100]:List UInt8).take (([97,98,99,100]:List UInt8).length:Int).toNat).drop (BG .u8 (r44.1.fdiv 16) 3).toNat)) (lo:=0) (hi:=(1:Int)) kr rfl (Fq (IX hk47)) hk47))) ?_;refine AE (n:=71) AC 2 [p6,p5,p4,(57,hd 3 ([((((([97,98,99,100]:List UInt8).take (([97,98,99,100]:List UInt8).length:Int).toNat).drop (BG .u8 (r44.1.fdiv 16) 3).toNat).take (1:Int).toNat).drop (0:Int).toNat)].map cdS.enc)),(58,.pt 2 0 8)] [p3,p2,p7,mk 1 9 ([((((([97,98,99,100]:List UInt8).take (([97,98,99,100]:List UInt8).length:Int).toNat).drop (BG .u8 (r44.1.fdiv 16) 3).toNat).take (1:Int).toNat).drop (0:Int).toNat)].map cdS.enc)] kr ?_;refine Mi (s1:=⟨Fr 71 [p6,p5,p4,(57,.sl 1 ([((((([97,98,99,100]:List UInt8).take (([97,98,99,100]:List UInt8).length:Int).toNat).drop (BG .u8 (r44.1.fdiv 16) 3).toNat).take (1:Int).toNat).drop (0:Int).toNat)].map cdS.enc)),(58,.pt 2 0 8)],[p3,p2,p7,none]⟩) (HF 3 (.inl kr) ⟨.inr (.inr ⟨_,_,_,_,rfl,rfl,⟨.inl rfl,trivial⟩⟩),.inr (.inr ⟨_,_,_,_,rfl,rfl,⟨.inl rfl,trivial⟩⟩),.inr (.inr ⟨_,_,_,_,rfl,rfl,⟨.inl rfl,trivial⟩⟩),.inl rfl,trivial⟩ ⟨⟨.pt 0 0 0,kr,.inl rfl⟩,⟨.pt 1 0 0,kr,.inl rfl⟩,⟨.pt 2 0 0,kr,.inl rfl⟩,⟨hd 3 ([((((([97,98,99,100]:List UInt8).take (([97,98,99,100]:List UInt8).length:Int).toNat).drop (BG .u8 (r44.1.fdiv 16) 3).toNat).take (1:Int).toNat).drop (0:Int).toNat)].map cdS.enc),kr,NY (t:=9) kr IY⟩,⟨.pt 2 0 8,kr,.inl rfl⟩,trivial⟩) ?_
   refine AE (n:=71) AC 1 [p6,p5,p4] [p3,p2,p1,none] kr ?_;exact AJ rfl (Af [0,1,2] ⟨⟨_,rfl,CJ⟩,⟨_,rfl,CJ⟩,⟨_,rfl,CJ⟩,trivial⟩ ⟨lv,lv,lv,trivial⟩)
  have hq:=OI h; subst hq;exact ⟨rfl,(Af [0,1,2] ⟨⟨_,rfl,CJ⟩,⟨_,rfl,CJ⟩,⟨_,rfl,CJ⟩,trivial⟩ ⟨lv,lv,lv,trivial⟩)⟩
 ·rw [CZ hb45] at h
  refine Aa ?_;have hq:=OI h; subst hq
  let p8:Option Blk:=some ⟨9,47,[.ag [.st r44.2.2.1,.st r44.2.2.2.1,.st r44.2.2.2.2.1,.j r44.2.2.2.2.2.1,.j r44.2.2.2.2.2.2.1,.st r44.2.2.2.2.2.2.2.1,.b r44.2.2.2.2.2.2.2.2.1,.b r44.2.2.2.2.2.2.2.2.2.1,.e0]],false⟩
  let p9:Option Blk:=some ⟨2,35,[.ag [.v (.int .u8 r44.1),.v (.int .u8 r44.2.1)]],false⟩
  let p10:Option Blk:=some ⟨9,47,[.ag [.st r44.2.2.2.2.2.2.2.2.2.2.1,.st r44.2.2.2.2.2.2.2.2.2.2.2.1,.st r44.2.2.2.2.2.2.2.2.2.2.2.2.1,.j r44.2.2.2.2.2.2.2.2.2.2.2.2.2.1,.j r44.2.2.2.2.2.2.2.2.2.2.2.2.2.2.1,.st r44.2.2.2.2.2.2.2.2.2.2.2.2.2.2.2.1,.b r44.2.2.2.2.2.2.2.2.2.2.2.2.2.2.2.2.1,.b r44.2.2.2.2.2.2.2.2.2.2.2.2.2.2.2.2.2,.e0]],false⟩
  exact ⟨rfl,(Wk.trans (s1:=⟨Fr 71 [(2,.pt 0 0 0),(4,.pt 1 0 0),(5,.pt 2 0 0)],[p9,p8,p10]⟩) AQ (Wk.trans (s1:=⟨Fr 71 [(2,.pt 0 0 0),(4,.pt 1 0 0),(5,.pt 2 0 0)],[p9,p8,p10,none]⟩) Wk.none (Wk.trans (s1:=⟨Fr 71 [(2,.pt 0 0 0),(4,.pt 1 0 0),(5,.pt 2 0 0)],[p9,p8,some ⟨9,47,[.ag [.st r44.2.2.2.2.2.2.2.2.2.2.1,.st r44.2.2.2.2.2.2.2.2.2.2.2.1,.st r44.2.2.2.2.2.2.2.2.2.2.2.2.1,.j r44.2.2.2.2.2.2.2.2.2.2.2.2.2.1,.j r44.2.2.2.2.2.2.2.2.2.2.2.2.2.2.1,.st r44.2.2.2.2.2.2.2.2.2.2.2.2.2.2.2.1,.b r44.2.2.2.2.2.2.2.2.2.2.2.2.2.2.2.2.1,.b r44.2.2.2.2.2.2.2.2.2.2.2.2.2.2.2.2.2,.sl 1 ([].map cdS.enc)]],false⟩,none]⟩) (Kr 3 (.inr kr) ⟨.inr (.inl rfl),.inr (.inl rfl),.inr (.inr ⟨_,_,_,_,rfl,rfl,⟨(.inr ⟨_,_,rfl,rfl,⟨.inl rfl,.inl rfl,.inl rfl,.inl rfl,.inl rfl,.inl rfl,.inl rfl,.inl rfl,PV,trivial⟩⟩),trivial⟩⟩),.inl rfl,trivial⟩ ⟨⟨.pt 0 0 0,kr,(.inl (.inl rfl))⟩,⟨.pt 1 0 0,kr,(.inl (.inl rfl))⟩,⟨.pt 2 0 0,kr,(.inl (.inl rfl))⟩,trivial⟩) (Af [0,1,2] ⟨⟨_,rfl,CJ⟩,⟨_,rfl,CJ⟩,⟨_,rfl,CJ⟩,trivial⟩ ⟨lv,lv,lv,trivial⟩))))⟩
theorem KD (r67:Int×Int×(List UInt8)×(List UInt8)×(List UInt8)×Int×Int×(List UInt8)×Bool×Bool×(List UInt8)×(List UInt8)×(List UInt8)×Int×Int×(List UInt8)×Bool×Bool×(List (List UInt8))) (r:((List UInt8)×(List UInt8)×(List UInt8)×Int×Int×(List UInt8)×Bool×Bool×(List UInt8)×(List UInt8)×(List UInt8)×Int×Int×(List UInt8)×Bool×Bool×(List (List UInt8)))) (h:ES r67=some r):Sem E0 ⟨none,false⟩ (pc D2 [1,1,1,1,1,0,1]) ⟨Fr 71 [(2,.pt 0 0 0),(4,.pt 1 0 0),(5,.pt 2 0 0),(62,.b ((BG .u8 r67.1 128)!=0))],[some ⟨2,35,[.ag [.v (.int .u8 r67.1),.v (.int .u8 r67.2.1)]],false⟩,some ⟨9,47,[.ag [.st r67.2.2.1,.st r67.2.2.2.1,.st r67.2.2.2.2.1,.j r67.2.2.2.2.2.1,.j r67.2.2.2.2.2.2.1,.st r67.2.2.2.2.2.2.2.1,.b r67.2.2.2.2.2.2.2.2.1,.b r67.2.2.2.2.2.2.2.2.2.1,.e0]],false⟩,some ⟨9,47,[AH.enc r67.2.2.2.2.2.2.2.2.2.2],false⟩]⟩ (fun e s=>e = .normal/\Wk E0 s ⟨Fr 71 [(4,.pt 0 0 0),(5,.pt 1 0 0)],[some ⟨9,47,[.ag [.st r.1,.st r.2.1,.st r.2.2.1,.j r.2.2.2.1,.j r.2.2.2.2.1,.st r.2.2.2.2.2.1,.b r.2.2.2.2.2.2.1,.b r.2.2.2.2.2.2.2.1,.e0]],false⟩,some ⟨9,47,[AH.enc r.2.2.2.2.2.2.2.2],false⟩]⟩):=by
 unfold ES at h;refine AS (b:=((BG .u8 r67.1 128)!=0)) kr (fun hb68=>?_) (fun hb68=>?_)
 ·rw [if_pos hb68] at h
  by_cases hk69:(C8 (BG .u8 (r67.2.1.fdiv 16) 3) (([97,98,99,100]:List UInt8).length:Int) ([97,98,99,100]:List UInt8).length)=true
  case neg=>rw [if_neg hk69] at h; cases h
  rw [if_pos hk69] at h;by_cases hk70:(C8 0 (1:Int) ((([97,98,99,100]:List UInt8).take (([97,98,99,100]:List UInt8).length:Int).toNat).drop (BG .u8 (r67.2.1.fdiv 16) 3).toNat).length)=true
  case neg=>rw [if_neg hk70] at h; cases h
  rw [if_pos hk70] at h
  let p1:Option Blk:=some ⟨9,47,[.ag [.st r67.2.2.2.2.2.2.2.2.2.2.1,.st r67.2.2.2.2.2.2.2.2.2.2.2.1,.st r67.2.2.2.2.2.2.2.2.2.2.2.2.1,.j r67.2.2.2.2.2.2.2.2.2.2.2.2.2.1,.j r67.2.2.2.2.2.2.2.2.2.2.2.2.2.2.1,.st ((((([97,98,99,100]:List UInt8).take (([97,98,99,100]:List UInt8).length:Int).toNat).drop (BG .u8 (r67.2.1.fdiv 16) 3).toNat).take (1:Int).toNat).drop (0:Int).toNat),.b r67.2.2.2.2.2.2.2.2.2.2.2.2.2.2.2.2.1,.b r67.2.2.2.2.2.2.2.2.2.2.2.2.2.2.2.2.2.1,.sl 1 (r67.2.2.2.2.2.2.2.2.2.2.2.2.2.2.2.2.2.2.map cdS.enc)]],false⟩
  let p2:Option Blk:=some ⟨9,47,[.ag [.st r67.2.2.1,.st r67.2.2.2.1,.st r67.2.2.2.2.1,.j r67.2.2.2.2.2.1,.j r67.2.2.2.2.2.2.1,.st r67.2.2.2.2.2.2.2.1,.b r67.2.2.2.2.2.2.2.2.1,.b r67.2.2.2.2.2.2.2.2.2.1,.e0]],false⟩
  refine AL (s1:=⟨Fr 71 [(4,.pt 0 0 0),(5,.pt 1 0 0)],[p2,p1]⟩) ?_ ?_
  ·let p3:Option Blk:=some ⟨2,35,[.ag [.v (.int .u8 r67.1),.v (.int .u8 r67.2.1)]],false⟩
   refine AE (n:=71) AC 4 [(4,.pt 1 0 0),(5,.pt 2 0 0),(66,.v (.int .u8 (BG .u8 (r67.2.1.fdiv 16) 3)))] [p3,p2,some ⟨9,47,[AH.enc r67.2.2.2.2.2.2.2.2.2.2],false⟩] kr ?_;refine Ak AC 0 rfl (ED (AB rfl) rfl (EE (a:= .st [97,98,99,100]) (l:=(some (.v (.int .u8 (BG .u8 (r67.2.1.fdiv 16) 3))))) (u:=none) (m:=none) kr kr kr rfl (EY (bs:=[97,98,99,100]) (lo:=(BG .u8 (r67.2.1.fdiv 16) 3)) (hi:=(([97,98,99,100]:List UInt8).length:Int)) kr (Fq (MR hk69)) rfl hk69))) ?_;refine Ak AC 0 rfl (ED (AB rfl) rfl (EE (a:= .st ((([97,98,99,100]:List UInt8).take (([97,98,99,100]:List UInt8).length:Int).toNat).drop (BG .u8 (r67.2.1.fdiv 16) 3).toNat)) (l:=none) (u:=(some (.j 1))) (m:=none) kr kr kr rfl (EY (bs:=((([97,98,99,100]:List UInt8).take (([97,98,99,100]:List UInt8).length:Int).toNat).drop (BG .u8 (r67.2.1.fdiv 16) 3).toNat)) (lo:=0) (hi:=(1:Int)) kr rfl (Fq (IX hk70)) hk70))) ?_;refine AE (n:=71) AC 2 [(4,.pt 1 0 0),(5,.pt 2 0 0)] [p3,p2,p1] kr ?_;exact AJ rfl (Af [1,2] ⟨⟨_,rfl,CJ⟩,⟨_,rfl,CJ⟩,trivial⟩ ⟨lv,lv,trivial⟩)
  have hq:=OI h; subst hq;exact ⟨rfl,(Af [0,1] ⟨⟨_,rfl,CJ⟩,⟨_,rfl,CJ⟩,trivial⟩ ⟨lv,lv,trivial⟩)⟩
 ·rw [CZ hb68] at h
  refine Aa ?_;have hq:=OI h; subst hq;exact ⟨rfl,(Af [1,2] ⟨⟨_,rfl,CJ⟩,⟨_,rfl,CJ⟩,trivial⟩ ⟨lv,lv,trivial⟩)⟩
theorem LR (x0:(Int×Int)) (x1:(List UInt8)) (r:CB) (h:Eg x0 x1=some r):Sem E0 ⟨none,false⟩ D2 ⟨Fr 71 (BW 0 (HK.enc (x0,x1,()))),[]⟩ fun e s'=>(e = .normal\/e = .ret)/\∃ xs,EO E0.P s'.fr s'.hp Tryz.f42.results.toList=some xs/\ET xs=HN r:=by
 unfold Eg at h;refine A4 (Bq (s1:=⟨Fr 71 [(0,.ag [.v (.int .u8 x0.1),.v (.int .u8 x0.2)]),(1,.st x1)],[]⟩) AQ ?_)
 let p1:Option Blk:=some ⟨9,47,[.ag [.st [],.st [],.st [],.j 0,.j 0,.st [],.b false,.b false,.e0]],false⟩
 let p2:Option Blk:=some ⟨2,35,[.ag [.v (.int .u8 x0.1),.v (.int .u8 x0.2)]],false⟩
 let p3:Nat×AV:=(4,.pt 1 0 0)
 let p4:Nat×AV:=(2,.pt 0 0 0)
 refine AI AC [(1,.st x1),p4,p3] [p2,p1] ?_
 let p5:Option Blk:=some ⟨9,47,[.ag [.st x1,.st [],.st [],.j (wr .i64 (10 * (wr .i64 (x0.2.tmod 4)))),.j (wr .i64 (x0.1.tmod 3)),.st [],.b ((BG .u8 x0.1 64)!=0),.b ((BG .u8 x0.2 128)!=0),.e0]],false⟩
 let p6:Nat×AV:=(5,.pt 2 0 0)
 refine AI AC [p4,p3,p6] [p2,p1,p5] ?_;refine AG ?_;refine AI AC [p4,p3,p6,(28,.b ((BG .u8 x0.1 4)!=0))] [p2,p1,p5] ?_;obtain ⟨r22,hr22,h⟩:=OB h;refine CO (KA x0 x1 _ hr22) ?_;refine AG ?_;refine AI AC [p4,p3,p6,(39,.b ((BG .u8 r22.2.1 4)!=0))] [some ⟨2,35,[.ag [.v (.int .u8 r22.1),.v (.int .u8 r22.2.1)]],false⟩,some ⟨9,47,[.ag [.st r22.2.2.1,.st r22.2.2.2.1,.st r22.2.2.2.2.1,.j r22.2.2.2.2.2.1,.j r22.2.2.2.2.2.2.1,.st r22.2.2.2.2.2.2.2.1,.b r22.2.2.2.2.2.2.2.2.1,.b r22.2.2.2.2.2.2.2.2.2.1,.e0]],false⟩,some ⟨9,47,[.ag [.st r22.2.2.2.2.2.2.2.2.2.2.1,.st r22.2.2.2.2.2.2.2.2.2.2.2.1,.st r22.2.2.2.2.2.2.2.2.2.2.2.2.1,.j r22.2.2.2.2.2.2.2.2.2.2.2.2.2.1,.j r22.2.2.2.2.2.2.2.2.2.2.2.2.2.2.1,.st r22.2.2.2.2.2.2.2.2.2.2.2.2.2.2.2.1,.b r22.2.2.2.2.2.2.2.2.2.2.2.2.2.2.2.2.1,.b r22.2.2.2.2.2.2.2.2.2.2.2.2.2.2.2.2.2,.e0]],false⟩] ?_;obtain ⟨r44,hr44,h⟩:=OB h;refine CO (KB r22 _ hr44) ?_;refine AG ?_;refine AI AC [p4,p3,p6,(50,.b ((BG .u8 r44.2.1 64)!=0))] [some ⟨2,35,[.ag [.v (.int .u8 r44.1),.v (.int .u8 r44.2.1)]],false⟩,some ⟨9,47,[.ag [.st r44.2.2.1,.st r44.2.2.2.1,.st r44.2.2.2.2.1,.j r44.2.2.2.2.2.1,.j r44.2.2.2.2.2.2.1,.st r44.2.2.2.2.2.2.2.1,.b r44.2.2.2.2.2.2.2.2.1,.b r44.2.2.2.2.2.2.2.2.2.1,.e0]],false⟩,some ⟨9,47,[.ag [.st r44.2.2.2.2.2.2.2.2.2.2.1,.st r44.2.2.2.2.2.2.2.2.2.2.2.1,.st r44.2.2.2.2.2.2.2.2.2.2.2.2.1,.j r44.2.2.2.2.2.2.2.2.2.2.2.2.2.1,.j r44.2.2.2.2.2.2.2.2.2.2.2.2.2.2.1,.st r44.2.2.2.2.2.2.2.2.2.2.2.2.2.2.2.1,.b r44.2.2.2.2.2.2.2.2.2.2.2.2.2.2.2.2.1,.b r44.2.2.2.2.2.2.2.2.2.2.2.2.2.2.2.2.2,.e0]],false⟩] ?_;obtain ⟨r67,hr67,h⟩:=OB h;refine CO (KC r44 _ hr67) ?_;refine AG ?_;refine AI AC [p4,p3,p6,(62,.b ((BG .u8 r67.1 128)!=0))] [some ⟨2,35,[.ag [.v (.int .u8 r67.1),.v (.int .u8 r67.2.1)]],false⟩,some ⟨9,47,[.ag [.st r67.2.2.1,.st r67.2.2.2.1,.st r67.2.2.2.2.1,.j r67.2.2.2.2.2.1,.j r67.2.2.2.2.2.2.1,.st r67.2.2.2.2.2.2.2.1,.b r67.2.2.2.2.2.2.2.2.1,.b r67.2.2.2.2.2.2.2.2.2.1,.e0]],false⟩,some ⟨9,47,[AH.enc r67.2.2.2.2.2.2.2.2.2.2],false⟩] ?_
 obtain ⟨r88,hr88,h⟩:=OB h;refine CO (KD r67 _ hr88) ?_;refine AG ?_
 let p7:Option Blk:=some ⟨9,47,[AH.enc r88.2.2.2.2.2.2.2.2],false⟩
 refine AL (s1:=⟨Fr 71 [(4,.pt 0 0 0)],[p7]⟩) ?_ ?_
 ·refine AE (n:=71) AC 2 [(4,.pt 0 0 0)] [p7,p7] kr ?_
  exact AJ rfl (Af [0] ⟨⟨_,rfl,CJ⟩,trivial⟩ ⟨lv,trivial⟩)
 refine AU ?_;have hq:=OI h; subst hq;exact ⟨⟨Fr 71 [(4,.pt 0 0 0)],[p7]⟩,(Af [0] ⟨⟨_,rfl,CJ⟩,trivial⟩ ⟨lv,trivial⟩),.inr rfl,[AH.enc r88.2.2.2.2.2.2.2.2],kr,kr⟩
def M8:List AV->Option AV:=Db HK (fun a=>Eg a.1 a.2.1) HN
theorem NI:XOk 42 M8:=by
 refine AY Tryz.func42 (c:=D2) ?h2 ⟨Tryz.call42⟩ HK (fun a=>Eg a.1 a.2.1) HN (fun a=>(by show 2<=71; decide)) ?h3 ?h4
 case h2=>kernel_rfl
 case h3=>intro b; kernel_rfl
 case h4=>exact fun a b h=>LR a.1 a.2.1 b h
/- trestle/trestlelaw03.Guests -/
noncomputable def Gj:Code:=Br Tryz.f14
def Ce (x0:(List (Int×Int))) (x1:Int):Nat->(List CB)->Int->Option (((List CB)))
 | 0,_,_=>none
 | f + 1,c2,c3 =>
  if (decide (c3 < (((x0.take (mnI (x0.length:Int) x1).toNat).drop (0:Int).toNat).length:Int)))=true then
  (idx ((x0.take (mnI (x0.length:Int) x1).toNat).drop (0:Int).toNat) c3).bind fun v5 =>
  if (okB ([103]++(by8 [(wr .u8 (wr .i64 (97 + (wr .i64 (c3.tdiv 26))))),(wr .u8 (wr .i64 (97 + (c3.tmod 26))))])))=true then
  (Eg (v5.1,v5.2) ([103]++(by8 [(wr .u8 (wr .i64 (97 + (wr .i64 (c3.tdiv 26))))),(wr .u8 (wr .i64 (97 + (c3.tmod 26))))]))).bind fun v7 =>
  if (Hh 112 (c2.length + 1))=true then
  Ce x0 x1 f (c2++[v7]) (wr .i64 (c3 + 1))
  else none
  else none
  else
  some c2
def EC (x0:(List (Int×Int))) (x1:Int):Option ((List CB)) :=
 if (C8 0 (mnI (x0.length:Int) x1) x0.length)=true then
 (Ce x0 x1 100000 [] 0).bind fun r10 =>
 some r10
 else none
def FG:Cs (((List (Int×Int)))×Int×Unit):=(csC (cdL 2 (MQ (cdK .u8) (cdK .u8) (fun _=>rfl) (fun _=>rfl))) (csC cdI csN))
def Gv (r:(List CB)):AV:=(cdL 9 AH).enc r
theorem Jf (x0:(List (Int×Int))) (x1:Int):∀ (f:Nat) (c2:(List CB)) (c3:Int) (r:((List CB))),Ce x0 x1 f c2 c3=some r->SemN E0 ⟨none,false⟩ (pc Gj [1,1,0,1,0,0]) f ⟨Fr 38 [(5,hd 0 (c2.map AH.enc)),(13,.sl 2 (((x0.take (mnI (x0.length:Int) x1).toNat).drop (0:Int).toNat).map (MQ (cdK .u8) (cdK .u8) (fun _=>rfl) (fun _=>rfl)).enc)),(14,.j (((x0.take (mnI (x0.length:Int) x1).toNat).drop (0:Int).toNat).length:Int)),(15,.j c3)],[mk 9 47 (c2.map AH.enc)]⟩ (fun e s=>e=(.exit 0)/\Wk E0 s ⟨Fr 38 [(5,hd 0 (r.map AH.enc))],[mk 9 47 (r.map AH.enc)]⟩):=by
 intro f;induction f with
 | zero=>intro c2 c3 r h; cases h
 | succ f ih0 =>
  intro c2 c3 r h
  have ih:=fun (c2:(List CB)) (c3:Int)=>ih0 c2 c3 r
  unfold Ce at h;refine D8 ?_
  let p1:Option Blk:=mk 9 47 (c2.map AH.enc)
  let p2:Nat×AV:=(15,.j c3)
  let p3:Nat×AV:=(14,.j (((x0.take (mnI (x0.length:Int) x1).toNat).drop (0:Int).toNat).length:Int))
  let p4:Nat×AV:=(13,.sl 2 (((x0.take (mnI (x0.length:Int) x1).toNat).drop (0:Int).toNat).map (MQ (cdK .u8) (cdK .u8) (fun _=>rfl) (fun _=>rfl)).enc))
  let p5:Nat×AV:=(5,hd 0 (c2.map AH.enc))
  refine AI AC [p5,p4,p3,p2,(16,.b (decide (c3 < (((x0.take (mnI (x0.length:Int) x1).toNat).drop (0:Int).toNat).length:Int))))] [p1] ?_;refine AG ?_;refine AS (b:=(decide (c3 < (((x0.take (mnI (x0.length:Int) x1).toNat).drop (0:Int).toNat).length:Int)))) kr (fun hb4=>?_) (fun hb4=>?_)
  ·rw [if_pos hb4] at h
   refine Aa ?_;refine AG ?_;refine Bm ?_;refine AG ?_;obtain ⟨v5,hv5,h⟩:=OB h
   let p6:Option Blk:=some ⟨2,35,[.ag [.v (.int .u8 v5.1),.v (.int .u8 v5.2)]],false⟩
   refine AL (s1:=⟨Fr 38 [p5,(6,.j c3),(7,.pt 1 0 0),p4,p3,p2],[p1,p6]⟩) ?_ ?_
   ·refine AE (n:=38) AC 1 [p5,p4,p3,p2,(17,.j c3)] [p1] kr ?_
    refine Ak AC 0 rfl (ED (AB rfl) rfl (AK (a:= .sl 2 (((x0.take (mnI (x0.length:Int) x1).toNat).drop (0:Int).toNat).map (MQ (cdK .u8) (cdK .u8) (fun _=>rfl) (fun _=>rfl)).enc)) (b:= .j c3) kr kr (Hw (e:=(MQ (cdK .u8) (cdK .u8) (fun _=>rfl) (fun _=>rfl)).enc) (el:=35) (k:=2) (ki:= .i64) kr kr hv5))) ?_;exact As AC
   by_cases hk6:(okB ([103]++(by8 [(wr .u8 (wr .i64 (97 + (wr .i64 (c3.tdiv 26))))),(wr .u8 (wr .i64 (97 + (c3.tmod 26))))])))=true
   case neg=>rw [if_neg hk6] at h; cases h
   rw [if_pos hk6] at h;obtain ⟨v7,hv7,h⟩:=OB h;by_cases hk8:(Hh 112 (c2.length + 1))=true
   case neg=>rw [if_neg hk8] at h; cases h
   rw [if_pos hk8] at h
   let p7:Option Blk:=mk 9 47 ((c2++[v7]).map AH.enc)
   let p8:Nat×AV:=(5,hd 0 ((c2++[v7]).map AH.enc))
   refine AL (s1:=⟨Fr 38 [p8,p4,p3,p2],[p7]⟩) ?_ ?_
   ·let p9:Option Blk:=mk 1 5 ([(wr .u8 (wr .i64 (97 + (wr .i64 (c3.tdiv 26))))),(wr .u8 (wr .i64 (97 + (c3.tmod 26))))].map (cdK .u8).enc)
    refine AE (n:=38) AC 11 [p4,p3,p2,(20,hd 0 (c2.map AH.enc)),(21,.ag [.v (.int .u8 v5.1),.v (.int .u8 v5.2)]),(30,hd 2 ([(wr .u8 (wr .i64 (97 + (wr .i64 (c3.tdiv 26))))),(wr .u8 (wr .i64 (97 + (c3.tmod 26))))].map (cdK .u8).enc))] [p1,p6,p9] kr ?_;refine RunS.bytes (bb:=2) (lo:=0) (q:=2) (c:=2) (e:=5) [(wr .u8 (wr .i64 (97 + (wr .i64 (c3.tdiv 26))))),(wr .u8 (wr .i64 (97 + (c3.tmod 26))))] rfl (AB rfl) kr kr kr kr kr kr ?_;refine Ak AC 0 rfl (ED (AB rfl) rfl (VN (a:= .st [103]) (b:= .st (by8 [(wr .u8 (wr .i64 (97 + (wr .i64 (c3.tdiv 26))))),(wr .u8 (wr .i64 (97 + (c3.tmod 26))))])) kr kr (Tt hk6))) ?_;refine Ai (v:=v7) (caps:=[]) (xs:=[.ag [.v (.int .u8 v5.1),.v (.int .u8 v5.2)],.st ([103]++(by8 [(wr .u8 (wr .i64 (97 + (wr .i64 (c3.tdiv 26))))),(wr .u8 (wr .i64 (97 + (c3.tmod 26))))]))]) (u:=((v5.1,v5.2),([103]++(by8 [(wr .u8 (wr .i64 (97 + (wr .i64 (c3.tdiv 26))))),(wr .u8 (wr .i64 (97 + (c3.tmod 26))))])),())) rfl rfl NI rfl (AB rfl) kr kr (AP (Al (c:=(MQ (cdK .u8) (cdK .u8) (fun _=>rfl) (fun _=>rfl))) (v:=(v5.1,v5.2))) (AP (Al (c:=cdS) (v:=([103]++(by8 [(wr .u8 (wr .i64 (97 + (wr .i64 (c3.tdiv 26))))),(wr .u8 (wr .i64 (97 + (c3.tmod 26))))])))) Bc)) (.inr kr) (by dsimp only; exact hv7) ?_;refine AE (n:=38) AC 1 [p4,p3,p2,(20,hd 0 (c2.map AH.enc)),(34,hd 3 ([v7].map AH.enc))] [p1,p6,p9,mk 9 47 ([v7].map AH.enc)] kr ?_;refine Ak AC 0 rfl (Tb (AB rfl) rfl kr kr (Jq (a:=hd 0 (c2.map AH.enc)) (b:=hd 3 ([v7].map AH.enc)) kr kr (Kt (c:=AH) (xs:=c2) (vs:=[v7]) (k:=9) (bytes:=112) (el:=47) kr kr (Kv (t:=47) kr) (List.cons_ne_nil _ _) kr hk8))) ?_;refine AE (n:=38) AC 1 [(5,hd 4 ((c2++[v7]).map AH.enc)),p4,p3,p2] [none,p6,p9,mk 9 47 ([v7].map AH.enc),p7] kr ?_;exact AJ rfl (Af [4] ⟨⟨_,rfl,C0⟩,trivial⟩ ⟨C2 (b':=4) kr kr,lv,lv,lv,trivial⟩)
   let p10:Nat×AV:=(15,.j (wr .i64 (c3 + 1)))
   refine EK AC [p8,p4,p3,p10] [p7] ?_;exact CE (s1:=⟨Fr 38 [p8,p4,p3,p10],[p7]⟩) (Af [0] ⟨⟨_,rfl,C0⟩,trivial⟩ ⟨C2 (b':=0) kr kr,lv,lv,lv,trivial⟩) (ih (c2++[v7]) (wr .i64 (c3 + 1)) h)
  ·rw [CZ hb4] at h
   refine En ?_;have hq:=OI h; subst hq;exact ⟨rfl,(Af [0] ⟨⟨_,rfl,C0⟩,trivial⟩ ⟨C2 (b':=0) kr kr,trivial⟩)⟩
theorem Kg (x0:(List (Int×Int))) (x1:Int) (r:(List CB)) (h:EC x0 x1=some r):Sem E0 ⟨none,false⟩ Gj ⟨Fr 38 (BW 0 (FG.enc (x0,x1,()))),[]⟩ fun e s'=>(e = .normal\/e = .ret)/\∃ xs,EO E0.P s'.fr s'.hp Tryz.f14.results.toList=some xs/\ET xs=Gv r:=by
 unfold EC at h
 let p1:Nat×AV:=(1,.j x1)
 let p2:Nat×AV:=(0,.sl 2 (x0.map (MQ (cdK .u8) (cdK .u8) (fun _=>rfl) (fun _=>rfl)).enc))
 refine A4 (Bq (s1:=⟨Fr 38 [p2,p1],[]⟩) AQ ?_);refine AI AC [p2,p1] [] ?_;refine AI AC [p2,p1,(5,.e0)] [] ?_;refine AG ?_;refine AG ?_;by_cases hk1:(C8 0 (mnI (x0.length:Int) x1) x0.length)=true
 case neg=>rw [if_neg hk1] at h; cases h
 rw [if_pos hk1] at h
 let p3:Nat×AV:=(15,.j 0)
 let p4:Nat×AV:=(14,.j (((x0.take (mnI (x0.length:Int) x1).toNat).drop (0:Int).toNat).length:Int))
 let p5:Nat×AV:=(13,.sl 2 (((x0.take (mnI (x0.length:Int) x1).toNat).drop (0:Int).toNat).map (MQ (cdK .u8) (cdK .u8) (fun _=>rfl) (fun _=>rfl)).enc))
 refine AL (s1:=⟨Fr 38 [(5,.e0),p5,p4,p3],[]⟩) ?_ ?_
 ·let p6:Nat×AV:=(8,.sl 2 (x0.map (MQ (cdK .u8) (cdK .u8) (fun _=>rfl) (fun _=>rfl)).enc))
  refine AE (n:=38) AC 2 [p1,(5,.e0),p6,(9,.sl 2 (x0.map (MQ (cdK .u8) (cdK .u8) (fun _=>rfl) (fun _=>rfl)).enc))] [] kr ?_;refine Ak AC 0 rfl (ED (AB rfl) rfl (Ij (a:= .sl 2 (x0.map (MQ (cdK .u8) (cdK .u8) (fun _=>rfl) (fun _=>rfl)).enc)) kr (Fp (el:=35) kr))) ?_;refine AE (n:=38) AC 2 [(5,.e0),p6,(12,.j (mnI (x0.length:Int) x1))] [] kr ?_;refine Ak AC 0 rfl (ED (AB rfl) rfl (EE (a:= .sl 2 (x0.map (MQ (cdK .u8) (cdK .u8) (fun _=>rfl) (fun _=>rfl)).enc)) (l:=none) (u:=(some (.j (mnI (x0.length:Int) x1)))) (m:=none) kr kr kr rfl (Jl (xs:=x0) (e:=(MQ (cdK .u8) (cdK .u8) (fun _=>rfl) (fun _=>rfl)).enc) (k:=2) (el:=35) (lo:=0) (hi:=(mnI (x0.length:Int) x1)) kr kr rfl (Fq (IX hk1)) hk1))) ?_;refine Ak AC 0 rfl (ED (AB rfl) rfl (Ij (a:= .sl 2 (((x0.take (mnI (x0.length:Int) x1).toNat).drop (0:Int).toNat).map (MQ (cdK .u8) (cdK .u8) (fun _=>rfl) (fun _=>rfl)).enc)) kr (Fp (el:=35) kr))) ?_;exact As AC
 refine Bm ?_;obtain ⟨r10,hr10,h⟩:=OB h;refine Eo (n:=100000) ?_;refine Cu (CE (s1:=⟨Fr 38 [(5,hd 0 ([].map AH.enc)),p5,p4,p3],[mk 9 47 ([].map AH.enc)]⟩) (Wk.trans (s1:=⟨Fr 38 [(5,hd 0 ([].map AH.enc)),p5,p4,p3],[mk 9 47 ([].map AH.enc)]⟩) Wk.none (Af [0] ⟨⟨_,rfl,N1⟩,trivial⟩ ⟨lv,lv,lv,lv,trivial⟩)) (Jf x0 x1 _ [] 0 _ hr10)) ?_;refine AI AC [(4,hd 0 (r10.map AH.enc))] [mk 9 47 (r10.map AH.enc)] ?_;refine AU ?_;have hq:=OI h; subst hq
 let p7:Nat×AV:=(4,.sl 9 (r10.map AH.enc))
 exact ⟨⟨Fr 38 [p7],[]⟩,(Wk.trans (s1:=⟨Fr 38 [p7],[none]⟩) (HF 0 (.inl kr) ⟨.inl rfl,trivial⟩ ⟨⟨hd 0 (r10.map AH.enc),kr,NY (t:=47) kr IY⟩,trivial⟩) (Af [] trivial ⟨lv,trivial⟩)),.inr rfl,[.sl 9 (r10.map AH.enc)],kr,kr⟩
def MI:List AV->Option AV:=Db FG (fun a=>EC a.1 a.2.1) Gv
theorem MM:XOk 14 MI:=by
 refine AY Tryz.func14 (c:=Gj) ?h2 ⟨Tryz.call14⟩ FG (fun a=>EC a.1 a.2.1) Gv (fun a=>(by show 2<=38; decide)) ?h3 ?h4
 case h2=>kernel_rfl
 case h3=>intro b; kernel_rfl
 case h4=>exact fun a b h=>Kg a.1 a.2.1 b h
theorem M1 {R:List RI}{c:Nat}:¬ own R [] c:=fun ⟨b,B,_,hb,_⟩=>by simp at hb
/-- What a call hands back, seen as frozen. -/
def Ph (h:Hp):AV->Option AV
 | .tp l=>(L7 (Eh h 12) l).map .tp
 | x=>Eh h 12 x
theorem Rl {w:World}{Z:Nat->Prop}{R:List RI}{h:Hp}{x y:AV}{v:Value}(hh:HR w Z R h) (hv:VR w Z R x v) (e:Ph h x=some y):VR w (fun c=>Z c\/own R h c) [] y v:=by
 unfold Ph at e
 split at e
 ·obtain ⟨ys,h1,rfl⟩:=Option.map_eq_some_iff.1 e
  cases hv with
  | tp hl hx =>
   have:=allV_vr (I4 hh 12) ⟨hl,hx⟩ h1
   exact .tp this.len this.at_
 ·exact I4 hh 12 _ _ _ hv e
theorem frz_ret {E:Env}{f:FuncId}{w:World}{Z:Nat->Prop}{us:List Value}{x y:AV}{h':Hp}(hr:NM E f us w Z [] [] x h') (hv:Ph h' x=some y) :
  Ret E.P f us.toArray w fun v w'=>w.grownBy w' none/\VR w' (fun c=>Z c\/(w.heap.size<=c/\c < w'.heap.size)) [] y v:=by
 refine Ret.mono hr fun v w' hS=>?_
 obtain ⟨Z',R',k1,k2,k3⟩:=hS
 refine ⟨⟨k3.os,k3.tape,k3.output,k3.size,fun c hc _=>k3.block c hc M1⟩,(Rl k1 k2 hv).mono (fun _ _=>rfl) (fun c hc=>?_) (fun _ _ h=>h)⟩
 rcases hc with hc | hc
 ·rcases k3.z' c hc with h1 | h1 | h1
  ·exact .inl h1
  ·exact absurd h1 M1
  ·exact .inr ⟨h1,k1.zlt c hc⟩
 ·rcases k3.own_ c hc with h1 | h1
  ·exact absurd h1 M1
  ·obtain ⟨b,B,r,h2,_,h3,rfl⟩:=hc
   exact .inr ⟨h1,k1.rltL h2 h3⟩
theorem hr_nil {w:World}{Z:Nat->Prop}(hz:∀ c,Z c->c < w.heap.size):HR w Z [] []:=⟨rfl,fun b B hB=>by simp at hB,fun b b' B B' r r' hB=>by simp at hB,hz⟩
/-- A closed call is told by what the interpreter finds. -/
theorem Px {E:Env}(hE:EnvOk E){f:FuncId}{g:List AV->Option AV}(hc:Bf E.P f) (hg:∀ xs y,g xs=some y->∃ n x h',HZ E (evC E n) none f xs []=some (x,h')/\Ph h' x=some y):EnvOk (E.withX f g):=by
 refine hE.withX hc fun xs y h w Z us hz hgi hv=>?_
 obtain ⟨n,x,h',he,hvw⟩:=hg xs y h
 exact frz_ret (enter_sound hE (code_sound hE n).1 he (hr_nil hz) hv hgi (fun y hy=>by cases hy)) hvw
/-- What a closed call hands back, frozen. -/
def BI (E:Env) (n:Nat) (f:FuncId) (args:List AV):Option AV:=match HZ E (evC E n) none f args [] with
 | some (x,h')=>Ph h' x
 | none=>none
/-- The same values? -/
def kB:IntKind->IntKind->Bool
 | .i64,.i64=>true
 | .u8,.u8=>true
 | _,_=>false
def vB:Value->Value->Bool
 | .int k a,.int k' b=>kB k k'&&a==b
 | .bool a,.bool b=>a==b
 | .pointer none,.pointer none=>true
 | _,_=>false
def bsB:List UInt8->List UInt8->Bool
 | [],[]=>true
 | a::l,b::r=>Nat.beq a.toNat b.toNat&&bsB l r
 | _,_=>false
def Qw (g:AV->AV->Bool):List AV->List AV->Bool
 | [],[]=>true
 | a::l,b::r=>g a b&&Qw g l r
 | _,_=>false
def Q3:Nat->AV->AV->Bool
 | 0,_,_=>false
 | n + 1,x,y=>match x,y with
  | .v a,.v b=>vB a b
  | .st a,.st b=>bsB a b
  | .e0,.e0=>true
  | .sl k a,.sl k' b=>Nat.beq k k'&&Qw (Q3 n) a b
  | .pe a o,.pe b o'=>Nat.beq o o'&&Q3 n a b
  | .ag a,.ag b=>Qw (Q3 n) a b
  | .tp a,.tp b=>Qw (Q3 n) a b
  | .fn f a b,.fn f' a' b'=>Nat.beq f f'&&(Qw (Q3 n) a a'&&Qw (Q3 n) b b')
  | _,_=>false
theorem VH {a b:IntKind}(h:kB a b=true):a=b:=by
 unfold kB at h
 split at h
 ·rfl
 ·rfl
 ·cases h
theorem VQ {a b:Value}(h:vB a b=true):a=b:=by
 unfold vB at h
 split at h
 ·rw [Bool.and_eq_true] at h
  rw [VH h.1,eq_of_beq h.2]
 ·rw [eq_of_beq h]
 ·rfl
 ·cases h
theorem Rs:∀ {a b:List UInt8},bsB a b=true->a=b
 | [],[],_=>rfl
 | x::l,y::r,h=>by
  unfold bsB at h
  rw [Bool.and_eq_true] at h
  rw [UInt8.toNat_inj.1 (Nat.eq_of_beq_eq_true h.1),Rs h.2]
 | [],_::_,h=>by cases h
 | _::_,[],h=>by cases h
theorem IS {g:AV->AV->Bool}(hg:∀ x y,g x y=true->x=y):∀ {a b:List AV},Qw g a b=true->a=b
 | [],[],_=>rfl
 | x::l,y::r,h=>by
  unfold Qw at h
  rw [Bool.and_eq_true] at h
  rw [hg _ _ h.1,IS hg h.2]
 | [],_::_,h=>by cases h
 | _::_,[],h=>by cases h
theorem N0:∀ (n:Nat) (x y:AV),Q3 n x y=true->x=y
 | 0,_,_,h=>by cases h
 | n + 1,x,y,h=>by
  have ih:=N0 n
  unfold Q3 at h
  split at h
  ·rw [VQ h]
  ·rw [Rs h]
  ·rfl
  ·rw [Bool.and_eq_true] at h
   rw [Nat.eq_of_beq_eq_true h.1,IS ih h.2]
  ·rw [Bool.and_eq_true] at h
   rw [Nat.eq_of_beq_eq_true h.1,ih _ _ h.2]
  ·rw [IS ih h]
  ·rw [IS ih h]
  ·rw [Bool.and_eq_true,Bool.and_eq_true] at h
   rw [Nat.eq_of_beq_eq_true h.1,IS ih h.2.1,IS ih h.2.2]
  ·cases h
/-- A table. -/
def Mg:List (List AV×AV)->List AV->Option AV
 | [],_=>none
 | (a,r)::l,xs=>if Qw (Q3 40) a xs=true then some r else Mg l xs
def SD (E:Env) (f:FuncId):List (List AV×AV)->Prop
 | []=>True
 | (a,r)::l=>(∃ n,BI E n f a=some r)/\SD E f l
theorem R7 {E:Env}{f:FuncId}:∀ {l:List (List AV×AV)}{xs:List AV}{y:AV},SD E f l->Mg l xs=some y->∃ n,BI E n f xs=some y
 | (a,r)::l,xs,y,h,e=>by
  unfold Mg at e
  split at e
  ·next hb =>
   injection e with e
   subst e
   rw [<-IS (N0 40) hb]
   exact h.1
  ·exact R7 h.2 e
theorem JF {E:Env}(hE:EnvOk E){f:FuncId}{l:List (List AV×AV)}(hc:Bf E.P f) (h:SD E f l):EnvOk (E.withX f (Mg l)):=by
 refine Px hE hc fun xs y e=>?_
 obtain ⟨n,hn⟩:=R7 h e
 unfold BI at hn
 split at hn
 ·next x h' he=>exact ⟨n,x,h',he,hn⟩
 ·cases hn
/-- Another contract, told by a table of its own values. -/
theorem TE {E:Env}{f:FuncId}{g:List AV->Option AV}{l:List (List AV×AV)}(hE:EnvOk (E.withX f g)) (h:∀ p ∈ l,g p.1=some p.2):EnvOk (E.withX f (Mg l)):=by
 have hl:∀ {l:List (List AV×AV)} {xs:List AV} {y:AV},(∀ p ∈ l,g p.1=some p.2)->Mg l xs=some y->g xs=some y:=by
  intro l
  induction l with
  | nil=>intro xs y _ e; cases e
  | cons p l ih =>
   intro xs y h e
   obtain ⟨a,r⟩:=p
   unfold Mg at e
   split at e
   ·next hb =>
    injection e with e
    subst e
    rw [<-IS (N0 40) hb]
    exact h (a,r) (by simp)
   ·exact ih (fun p hp=>h p (List.mem_cons_of_mem _ hp)) e
 refine ⟨hE.fn,hE.mixed,hE.I,fun k q hk=>?_⟩
 change (if k=f then some (Mg l) else E.X k)=some q at hk
 split at hk
 ·next hkf =>
  injection hk with hk
  subst hk hkf
  obtain ⟨h1,h2⟩:=hE.X k g (if_pos rfl)
  exact ⟨h1,fun xs x hx w Z us hz hg hv=>h2 xs x (hl h hx) w Z us hz hg hv⟩
 ·next hkf=>exact hE.X k q ((if_neg hkf).trans hk)
/-- What is told in one environment may be told in another of the same program. -/
theorem Rn {E E':Env}{f:FuncId}{g:List AV->Option AV}(hE:EnvOk E) (h:EnvOk (E'.withX f g)) (hP:E'.P=E.P) (hG:E'.G=E.G):EnvOk (E.withX f g):=by
 obtain ⟨h1,h2⟩:=h.X f g (if_pos rfl)
 have e1:(E'.withX f g).P=E.P:=hP
 refine hE.withX (e1 ▸ h1) fun xs x hx w Z us hz hg hv=>?_
 have:=h2 xs x hx w Z us hz (fun q y hy=>hg q y (by rw [<-hG]; exact hy)) hv
 exact e1 ▸ this
/-- Lists that are told by one value. -/
noncomputable def csJ {α:Type}(e:α->List AV) (hi:∀ x y,e x=e y->x=y) (hn:∀ x,(e x).all Cw=true):Cs α where
 enc:=e
 dec a:=open Classical in if h:∃ x,e x=a then some h.choose else none
 de x:=by
  have h:∃ y,e y=e x:=⟨x,rfl⟩
  rw [dif_pos h,hi _ _ h.choose_spec]
 vr:=fun {w Z a x u} hd hv=>by
  split at hd
  ·next h=>injection hd with hd; subst hd; rw [h.choose_spec]; exact hv
  ·cases hd
 nr:=hn
theorem Mm {α:Type}{n:Nat}{h:Hp}{s:Cs α}{a:α}:Sl (n + 2) h s (s.enc a) a :=
 ⟨s.enc a,IT fun y hy=>Ip (List.all_eq_true.1 (s.nr a) y hy) n,s.de a⟩
theorem Rt {α:Type}{c:Cd α}{x y:α}(h:c.enc x=c.enc y):x=y:=by
 have h1:=c.de x
 rw [h,c.de y] at h1
 exact (OI h1).symm
/-- The order of a clause without regard to Among. -/
def Jc (c:AD):AV :=
 if (c.1==1)=true then .fn 135 [] [.pe (.fn 113 [] [.pe (AA.enc c) 0]) 0] else
 if (c.1==2)=true then .fn 114 [] [.pe (AA.enc c) 0] else
 if (c.1==3)=true then .fn 114 [] [.pe (AA.enc c) 0] else
 if (c.1==4)=true then .fn 135 [] [.pe (.fn 137 [] [.pe (.fn 118 [] [.pe (AA.enc c) 0]) 0,.pe (AA.enc c) 0]) 0] else
 if (c.1==5)=true then .fn 135 [] [.pe (.fn 137 [] [.pe (.fn 119 [] []) 0,.pe (AA.enc c) 0]) 0] else
 if (c.1==6)=true then .fn 135 [] [.pe (.fn 137 [] [.pe (.fn 120 [] [.pe (AA.enc c) 0]) 0,.pe (AA.enc c) 0]) 0] else
 if (c.1==7)=true then .fn 135 [] [.pe (.fn 137 [] [.pe (.fn 122 [] [.pe (AA.enc c) 0]) 0,.pe (AA.enc c) 0]) 0] else
 if (c.1==8)=true then .fn 123 [] [] else
 if (c.1==10)=true then .fn 140 [] [.pe (.fn 139 [] []) 0,.pe (.fn 126 [] [.pe (AA.enc c) 0]) 0] else
 .fn 140 [] [.pe (.fn 139 [] []) 0,.pe (.fn 127 [] []) 0]
def G9 (c:AD):AV:= .fn 99 [] [.pe (AA.enc c) 0,.pe (Jc c) 0]
noncomputable def C1:Cd AD:=cdJ G9 (fun x y h=>by
 unfold G9 at h
 injection h with _ _ h
 injection h with h
 injection h with h
 exact Rt h) (fun _=>rfl)
noncomputable def NS:Cs AD:=csJ (fun c=>[.pe (AA.enc c) 0,.pe (Jc c) 0]) (fun x y h=>by
 injection h with h
 injection h with h
 exact Rt h) (fun _=>rfl)
/-- A straight call, told by what the interpreter finds. -/
theorem Pj {f:FuncId}(hc:Bf E0.P f){α β:Type}(s:Cs α) (F:α->Option β) (er:β->AV) (h:∀ a b,F a=some b->∃ n,BI E0 n f (s.enc a)=some (er b)):XOk f (Db s F er):=by
 refine ⟨hc,fun xs y hy w Z us hz hg hv=>?_⟩
 obtain ⟨a,ha,hy⟩:=OB hy
 obtain ⟨b,hb,rfl⟩:=Option.map_eq_some_iff.1 hy
 obtain ⟨n,hn⟩:=h a b hb
 unfold BI at hn
 split at hn
 ·next x h' he=>exact frz_ret (enter_sound AC (code_sound AC n).1 he (hr_nil hz) (s.vr ha hv) hg (fun y hy=>by cases hy)) hn
 ·cases hn
def Dv (x0:AD):Option AD:=if 1<=x0.1/\x0.1<=10 then some x0 else none
def BX:Cs (AD×Unit):=csC AA csN
noncomputable def GQ (r:AD):AV:=C1.enc r
noncomputable def Lf:List AV->Option AV:=Db BX (fun a=>Dv a.1) GQ
section
variable (am:List UInt8) (la:Bool) (nm:List (List UInt8)) (m:Int)
theorem Sz:BI E0 300 77 (BX.enc ((1,am,la,nm,m),()))=some (G9 (1,am,la,nm,m)):=by kernel_rfl
theorem S0:BI E0 300 77 (BX.enc ((2,am,la,nm,m),()))=some (G9 (2,am,la,nm,m)):=by kernel_rfl
theorem S1:BI E0 300 77 (BX.enc ((3,am,la,nm,m),()))=some (G9 (3,am,la,nm,m)):=by kernel_rfl
theorem S2:BI E0 300 77 (BX.enc ((4,am,la,nm,m),()))=some (G9 (4,am,la,nm,m)):=by kernel_rfl
theorem S3:BI E0 300 77 (BX.enc ((5,am,la,nm,m),()))=some (G9 (5,am,la,nm,m)):=by kernel_rfl
theorem S4:BI E0 300 77 (BX.enc ((6,am,la,nm,m),()))=some (G9 (6,am,la,nm,m)):=by kernel_rfl
theorem S5:BI E0 300 77 (BX.enc ((7,am,la,nm,m),()))=some (G9 (7,am,la,nm,m)):=by kernel_rfl
theorem S6:BI E0 300 77 (BX.enc ((8,am,la,nm,m),()))=some (G9 (8,am,la,nm,m)):=by kernel_rfl
theorem S7:BI E0 300 77 (BX.enc ((9,am,la,nm,m),()))=some (G9 (9,am,la,nm,m)):=by kernel_rfl
theorem RP:BI E0 300 77 (BX.enc ((10,am,la,nm,m),()))=some (G9 (10,am,la,nm,m)):=by kernel_rfl
end
theorem Lx:XOk 77 Lf:=by
 refine Pj ⟨Tryz.call77⟩ BX (fun a=>Dv a.1) GQ fun a b h=>⟨300,?_⟩
 obtain ⟨⟨k,am,la,nm,m⟩,⟨⟩⟩:=a
 by_cases hk:1<=k/\k<=10
 ·have h1:some (k,am,la,nm,m)=some b:=(if_pos hk:Dv (k,am,la,nm,m)=_).symm.trans h
  have h2:GQ b=G9 (k,am,la,nm,m):=congrArg G9 (OI h1).symm
  rw [h2]
  clear h h1 h2
  have hk':k=1\/k=2\/k=3\/k=4\/k=5\/k=6\/k=7\/k=8\/k=9\/k=10:=by omega
  rcases hk' with rfl | rfl | rfl | rfl | rfl | rfl | rfl | rfl | rfl | rfl
  ·exact Sz am la nm m
  ·exact S0 am la nm m
  ·exact S1 am la nm m
  ·exact S2 am la nm m
  ·exact S3 am la nm m
  ·exact S4 am la nm m
  ·exact S5 am la nm m
  ·exact S6 am la nm m
  ·exact S7 am la nm m
  ·exact RP am la nm m
 ·exact nomatch ((if_neg hk:Dv (k,am,la,nm,m)=_).symm.trans h)
/- trestle/court.formed -/
noncomputable def Bv:Code:=Br Tryz.f70
def Et (x0:AD):Option ((Bool)) :=
 if (x0.1==8)=true then
 some (x0.1==8)
 else
 some (x0.1==9)
def Es (x0:AD):Option ((Bool)) :=
 if (x0.1==3)=true then
 some (x0.1==3)
 else
 (Et x0).bind fun r14 =>
 some r14
def Er (x0:AD):Option ((Bool)) :=
 if (x0.1==2)=true then
 some (x0.1==2)
 else
 (Es x0).bind fun r15 =>
 some r15
def Ey (x0:AD):Option ((Bool)) :=
 if (x0.1==6)=true then
 some (x0.1==6)
 else
 some (x0.1==7)
def Ez (x0:AD) (r33:Bool):Option ((Int×Int×Bool) ⊕ (Bool)) :=
 if r33=true then
 some (.inl (16,0,true))
 else
 if (x0.1==10)=true then
 some (.inl (0,63,false))
 else
 some (.inr false)
def Ew (x0:AD):Option ((Int×Int×Bool) ⊕ (Bool)) :=
 if (x0.1==5)=true then
 some (.inl (0,0,true))
 else
 (Ey x0).bind fun r33 =>
 (Ez x0 r33).bind fun r40 =>
 match r40 with
 | (.inl w41) =>
  some (.inl (w41.1,w41.2.1,w41.2.2))
 | (.inr w42) =>
  some (.inr w42)
def Ev (x0:AD):Option ((Int×Int×Int×Bool) ⊕ (Bool)) :=
 if (x0.1==4)=true then
 some (.inl (0,1,2,true))
 else
 (Ew x0).bind fun r44 =>
 match r44 with
 | (.inl w45) =>
  some (.inl (w45.1,0,w45.2.1,w45.2.2))
 | (.inr w46) =>
  some (.inr w46)
def Eu (x0:AD) (r16:Bool):Option ((Int×Int×Int×Bool) ⊕ (Bool)) :=
 if r16=true then
 some (.inl (0,0,0,false))
 else
 (Ev x0).bind fun r48 =>
 match r48 with
 | (.inl w49) =>
  some (.inl (w49.1,w49.2.1,w49.2.2.1,w49.2.2.2))
 | (.inr w50) =>
  some (.inr w50)
def Eq (x0:AD):Option ((Int×Int×Int×Bool) ⊕ (Bool)) :=
 if (x0.1==1)=true then
 if (!(x0.2.1==[]))=true then
 some (.inr false)
 else
 some (.inl (16,0,0,false))
 else
 (Er x0).bind fun r16 =>
 (Eu x0 r16).bind fun r52 =>
 match r52 with
 | (.inl w53) =>
  some (.inl (w53.1,w53.2.1,w53.2.2.1,w53.2.2.2))
 | (.inr w54) =>
  some (.inr w54)
def BJ (x0:AD):Option (Bool) :=
 (Eq x0).bind fun r55 =>
 match r55 with
 | (.inl w56) =>
  (if (decide ((x0.2.2.2.1.length:Int)<=w56.1))=true then if (w56.1==0)=true then if (decide (x0.2.2.2.2≥w56.2.1))=true then if (decide (x0.2.2.2.2<=w56.2.2.1))=true then if w56.2.2.2=true then some true else some (!x0.2.2.1) else some false else some false else if (decide ((x0.2.2.2.1.length:Int) > 0))=true then if (decide (x0.2.2.2.2≥w56.2.1))=true then if (decide (x0.2.2.2.2<=w56.2.2.1))=true then if w56.2.2.2=true then some true else some (!x0.2.2.1) else some false else some false else some false else some false).bind fun j58 =>
  some j58
 | (.inr w68) =>
  some w68
def Gp:Cs (AD×Unit):=(csC AA csN)
def Gt (r:Bool):AV:=cdB.enc r
theorem JW (x0:AD) (r:(Bool)) (h:Et x0=some r):Sem E0 ⟨none,false⟩ (pc Bv [1,1,0,1,0,1,1,0,1,1,1,1,1]) ⟨Fr 63 [(1,.pt 0 0 0),(3,.j 0),(4,.j 0),(5,.j 0),(6,.b false),(8,.v (.int .u8 x0.1)),(14,.b (x0.1==8))],[some ⟨5,66,[AA.enc x0],false⟩]⟩ (fun e s=>e = .normal/\Wk E0 s ⟨Fr 63 [(1,.pt 0 0 0),(3,.j 0),(4,.j 0),(5,.j 0),(6,.b false),(8,.v (.int .u8 x0.1)),(14,.b r)],[some ⟨5,66,[AA.enc x0],false⟩]⟩):=by
 unfold Et at h;refine AS (b:=(x0.1==8)) kr (fun hb12=>?_) (fun hb12=>?_)
 ·rw [if_pos hb12] at h
  refine Aa ?_;have hq:=OI h; subst hq;exact ⟨rfl,(Af [0] ⟨⟨_,rfl,CJ⟩,trivial⟩ ⟨lv,lv,lv,lv,lv,lv,lv,trivial⟩)⟩
 ·rw [CZ hb12] at h
  refine EK AC [(1,.pt 0 0 0),(3,.j 0),(4,.j 0),(5,.j 0),(6,.b false),(8,.v (.int .u8 x0.1)),(14,.b (x0.1==9))] [some ⟨5,66,[AA.enc x0],false⟩] ?_;have hq:=OI h; subst hq;exact ⟨rfl,(Af [0] ⟨⟨_,rfl,CJ⟩,trivial⟩ ⟨lv,lv,lv,lv,lv,lv,lv,trivial⟩)⟩
theorem JV (x0:AD) (r:(Bool)) (h:Es x0=some r):Sem E0 ⟨none,false⟩ (pc Bv [1,1,0,1,0,1,1,0,1,1,1]) ⟨Fr 63 [(1,.pt 0 0 0),(3,.j 0),(4,.j 0),(5,.j 0),(6,.b false),(8,.v (.int .u8 x0.1)),(14,.b (x0.1==3))],[some ⟨5,66,[AA.enc x0],false⟩]⟩ (fun e s=>e = .normal/\Wk E0 s ⟨Fr 63 [(1,.pt 0 0 0),(3,.j 0),(4,.j 0),(5,.j 0),(6,.b false),(8,.v (.int .u8 x0.1)),(14,.b r)],[some ⟨5,66,[AA.enc x0],false⟩]⟩):=by
 unfold Es at h;refine AS (b:=(x0.1==3)) kr (fun hb10=>?_) (fun hb10=>?_)
 ·rw [if_pos hb10] at h
  refine Aa ?_;have hq:=OI h; subst hq;exact ⟨rfl,(Af [0] ⟨⟨_,rfl,CJ⟩,trivial⟩ ⟨lv,lv,lv,lv,lv,lv,lv,trivial⟩)⟩
 ·rw [CZ hb10] at h
  refine AI AC [(1,.pt 0 0 0),(3,.j 0),(4,.j 0),(5,.j 0),(6,.b false),(8,.v (.int .u8 x0.1)),(14,.b (x0.1==8))] [some ⟨5,66,[AA.enc x0],false⟩] ?_;obtain ⟨r14,hr14,h⟩:=OB h;refine CO (JW x0 _ hr14) ?_;have hq:=OI h; subst hq;exact ⟨rfl,(Af [0] ⟨⟨_,rfl,CJ⟩,trivial⟩ ⟨lv,lv,lv,lv,lv,lv,lv,trivial⟩)⟩
theorem JU (x0:AD) (r:(Bool)) (h:Er x0=some r):Sem E0 ⟨none,false⟩ (pc Bv [1,1,0,1,0,1,1,0,1]) ⟨Fr 63 [(1,.pt 0 0 0),(3,.j 0),(4,.j 0),(5,.j 0),(6,.b false),(8,.v (.int .u8 x0.1)),(14,.b (x0.1==2))],[some ⟨5,66,[AA.enc x0],false⟩]⟩ (fun e s=>e = .normal/\Wk E0 s ⟨Fr 63 [(1,.pt 0 0 0),(3,.j 0),(4,.j 0),(5,.j 0),(6,.b false),(8,.v (.int .u8 x0.1)),(14,.b r)],[some ⟨5,66,[AA.enc x0],false⟩]⟩):=by
 unfold Er at h;refine AS (b:=(x0.1==2)) kr (fun hb8=>?_) (fun hb8=>?_)
 ·rw [if_pos hb8] at h
  refine Aa ?_;have hq:=OI h; subst hq;exact ⟨rfl,(Af [0] ⟨⟨_,rfl,CJ⟩,trivial⟩ ⟨lv,lv,lv,lv,lv,lv,lv,trivial⟩)⟩
 ·rw [CZ hb8] at h
  refine AI AC [(1,.pt 0 0 0),(3,.j 0),(4,.j 0),(5,.j 0),(6,.b false),(8,.v (.int .u8 x0.1)),(14,.b (x0.1==3))] [some ⟨5,66,[AA.enc x0],false⟩] ?_;obtain ⟨r15,hr15,h⟩:=OB h;refine CO (JV x0 _ hr15) ?_;have hq:=OI h; subst hq;exact ⟨rfl,(Af [0] ⟨⟨_,rfl,CJ⟩,trivial⟩ ⟨lv,lv,lv,lv,lv,lv,lv,trivial⟩)⟩
theorem JX (x0:AD) (r:(Bool)) (h:Ey x0=some r):Sem E0 ⟨none,false⟩ (pc Bv [1,1,0,1,0,1,1,1,1,1,1,1,1,0,1]) ⟨Fr 63 [(1,.pt 0 0 0),(3,.j 0),(4,.j 0),(5,.j 0),(6,.b false),(8,.v (.int .u8 x0.1)),(23,.b (x0.1==6))],[some ⟨5,66,[AA.enc x0],false⟩]⟩ (fun e s=>e = .normal/\Wk E0 s ⟨Fr 63 [(1,.pt 0 0 0),(3,.j 0),(4,.j 0),(5,.j 0),(6,.b false),(8,.v (.int .u8 x0.1)),(23,.b r)],[some ⟨5,66,[AA.enc x0],false⟩]⟩):=by
 unfold Ey at h;refine AS (b:=(x0.1==6)) kr (fun hb31=>?_) (fun hb31=>?_)
 ·rw [if_pos hb31] at h
  refine Aa ?_;have hq:=OI h; subst hq;exact ⟨rfl,(Af [0] ⟨⟨_,rfl,CJ⟩,trivial⟩ ⟨lv,lv,lv,lv,lv,lv,lv,trivial⟩)⟩
 ·rw [CZ hb31] at h
  refine EK AC [(1,.pt 0 0 0),(3,.j 0),(4,.j 0),(5,.j 0),(6,.b false),(8,.v (.int .u8 x0.1)),(23,.b (x0.1==7))] [some ⟨5,66,[AA.enc x0],false⟩] ?_;have hq:=OI h; subst hq;exact ⟨rfl,(Af [0] ⟨⟨_,rfl,CJ⟩,trivial⟩ ⟨lv,lv,lv,lv,lv,lv,lv,trivial⟩)⟩
theorem G8 (x0:AD) (r33:Bool) (r:(Int×Int×Bool) ⊕ (Bool)) (h:Ez x0 r33=some r):Sem E0 ⟨none,false⟩ (pc Bv [1,1,0,1,0,1,1,1,1,1,1,1,1,1]) ⟨Fr 63 [(1,.pt 0 0 0),(3,.j 0),(4,.j 0),(5,.j 0),(6,.b false),(8,.v (.int .u8 x0.1)),(23,.b r33)],[some ⟨5,66,[AA.enc x0],false⟩]⟩ (fun e s=>match r with
 | (.inl w)=>e = .normal/\Wk E0 s ⟨Fr 63 [(1,.pt 0 0 0),(3,.j w.1),(4,.j 0),(5,.j w.2.1),(6,.b w.2.2)],[some ⟨5,66,[AA.enc x0],false⟩]⟩
 | (.inr w)=>e = .ret/\Wk E0 s ⟨Fr 63 [(2,.b w)],[]⟩):=by
 unfold Ez at h;refine AS (b:=r33) kr (fun hb34=>?_) (fun hb34=>?_)
 ·rw [if_pos hb34] at h
  refine EK AC [(1,.pt 0 0 0),(3,.j 16),(4,.j 0),(5,.j 0),(6,.b true)] [some ⟨5,66,[AA.enc x0],false⟩] ?_;have hq:=OI h; subst hq;exact ⟨rfl,(Af [0] ⟨⟨_,rfl,CJ⟩,trivial⟩ ⟨lv,lv,lv,lv,lv,trivial⟩)⟩
 ·rw [CZ hb34] at h
  let p1:Option Blk:=some ⟨5,66,[AA.enc x0],false⟩
  refine AI AC [(1,.pt 0 0 0),(3,.j 0),(4,.j 0),(6,.b false),(26,.b (x0.1==10))] [p1] ?_;refine AS (b:=(x0.1==10)) kr (fun hb38=>?_) (fun hb38=>?_)
  ·rw [if_pos hb38] at h
   refine EK AC [(1,.pt 0 0 0),(3,.j 0),(4,.j 0),(5,.j 63),(6,.b false)] [p1] ?_;have hq:=OI h; subst hq;exact ⟨rfl,(Af [0] ⟨⟨_,rfl,CJ⟩,trivial⟩ ⟨lv,lv,lv,lv,lv,trivial⟩)⟩
  ·rw [CZ hb38] at h
   refine AG ?_;refine AL (s1:=⟨Fr 63 [(2,.b false)],[]⟩) ?_ ?_
   ·refine AE (n:=63) AC 1 [(2,.b false)] [p1] kr ?_
    exact AJ rfl (Af [] trivial ⟨lv,trivial⟩)
   refine AU ?_;have hq:=OI h; subst hq;exact ⟨rfl,AQ⟩
theorem G7 (x0:AD) (r:(Int×Int×Bool) ⊕ (Bool)) (h:Ew x0=some r):Sem E0 ⟨none,false⟩ (pc Bv [1,1,0,1,0,1,1,1,1,1,1,1]) ⟨Fr 63 [(1,.pt 0 0 0),(3,.j 0),(4,.j 0),(5,.j 0),(6,.b false),(8,.v (.int .u8 x0.1)),(21,.b (x0.1==5))],[some ⟨5,66,[AA.enc x0],false⟩]⟩ (fun e s=>match r with
 | (.inl w)=>e = .normal/\Wk E0 s ⟨Fr 63 [(1,.pt 0 0 0),(3,.j w.1),(4,.j 0),(5,.j w.2.1),(6,.b w.2.2)],[some ⟨5,66,[AA.enc x0],false⟩]⟩
 | (.inr w)=>e = .ret/\Wk E0 s ⟨Fr 63 [(2,.b w)],[]⟩):=by
 unfold Ew at h;refine AS (b:=(x0.1==5)) kr (fun hb27=>?_) (fun hb27=>?_)
 ·rw [if_pos hb27] at h
  refine EK AC [(1,.pt 0 0 0),(3,.j 0),(4,.j 0),(5,.j 0),(6,.b true)] [some ⟨5,66,[AA.enc x0],false⟩] ?_;have hq:=OI h; subst hq;exact ⟨rfl,(Af [0] ⟨⟨_,rfl,CJ⟩,trivial⟩ ⟨lv,lv,lv,lv,lv,trivial⟩)⟩
 ·rw [CZ hb27] at h
  refine AG ?_;refine AI AC [(1,.pt 0 0 0),(3,.j 0),(4,.j 0),(5,.j 0),(6,.b false),(8,.v (.int .u8 x0.1)),(23,.b (x0.1==6))] [some ⟨5,66,[AA.enc x0],false⟩] ?_;obtain ⟨r33,hr33,h⟩:=OB h;refine CO (JX x0 _ hr33) ?_;obtain ⟨r40,hr40,h⟩:=OB h;rcases r40 with w41 | w42
  ·try dsimp only at h
   refine CO (G8 x0 r33 _ hr40) ?_;have hq:=OI h; subst hq;exact ⟨rfl,(Af [0] ⟨⟨_,rfl,CJ⟩,trivial⟩ ⟨lv,lv,lv,lv,lv,trivial⟩)⟩
  ·try dsimp only at h
   refine CO (G8 x0 r33 _ hr40) ?_;have hq:=OI h; subst hq;exact ⟨rfl,AQ⟩
theorem G6 (x0:AD) (r:(Int×Int×Int×Bool) ⊕ (Bool)) (h:Ev x0=some r):Sem E0 ⟨none,false⟩ (pc Bv [1,1,0,1,0,1,1,1,1,1]) ⟨Fr 63 [(1,.pt 0 0 0),(3,.j 0),(4,.j 0),(5,.j 0),(6,.b false),(8,.v (.int .u8 x0.1)),(19,.b (x0.1==4))],[some ⟨5,66,[AA.enc x0],false⟩]⟩ (fun e s=>match r with
 | (.inl w)=>e = .normal/\Wk E0 s ⟨Fr 63 [(1,.pt 0 0 0),(3,.j w.1),(4,.j w.2.1),(5,.j w.2.2.1),(6,.b w.2.2.2)],[some ⟨5,66,[AA.enc x0],false⟩]⟩
 | (.inr w)=>e = .ret/\Wk E0 s ⟨Fr 63 [(2,.b w)],[]⟩):=by
 unfold Ev at h;refine AS (b:=(x0.1==4)) kr (fun hb22=>?_) (fun hb22=>?_)
 ·rw [if_pos hb22] at h
  refine EK AC [(1,.pt 0 0 0),(3,.j 0),(4,.j 1),(5,.j 2),(6,.b true)] [some ⟨5,66,[AA.enc x0],false⟩] ?_;have hq:=OI h; subst hq;exact ⟨rfl,(Af [0] ⟨⟨_,rfl,CJ⟩,trivial⟩ ⟨lv,lv,lv,lv,lv,trivial⟩)⟩
 ·rw [CZ hb22] at h
  refine AI AC [(1,.pt 0 0 0),(3,.j 0),(4,.j 0),(5,.j 0),(6,.b false),(8,.v (.int .u8 x0.1)),(21,.b (x0.1==5))] [some ⟨5,66,[AA.enc x0],false⟩] ?_;obtain ⟨r44,hr44,h⟩:=OB h;rcases r44 with w45 | w46
  ·try dsimp only at h
   refine CO (G7 x0 _ hr44) ?_;have hq:=OI h; subst hq;exact ⟨rfl,(Af [0] ⟨⟨_,rfl,CJ⟩,trivial⟩ ⟨lv,lv,lv,lv,lv,trivial⟩)⟩
  ·try dsimp only at h
   refine CO (G7 x0 _ hr44) ?_;have hq:=OI h; subst hq;exact ⟨rfl,AQ⟩
theorem G5 (x0:AD) (r16:Bool) (r:(Int×Int×Int×Bool) ⊕ (Bool)) (h:Eu x0 r16=some r):Sem E0 ⟨none,false⟩ (pc Bv [1,1,0,1,0,1,1,1]) ⟨Fr 63 [(1,.pt 0 0 0),(3,.j 0),(4,.j 0),(5,.j 0),(6,.b false),(8,.v (.int .u8 x0.1)),(14,.b r16)],[some ⟨5,66,[AA.enc x0],false⟩]⟩ (fun e s=>match r with
 | (.inl w)=>e = .normal/\Wk E0 s ⟨Fr 63 [(1,.pt 0 0 0),(3,.j w.1),(4,.j w.2.1),(5,.j w.2.2.1),(6,.b w.2.2.2)],[some ⟨5,66,[AA.enc x0],false⟩]⟩
 | (.inr w)=>e = .ret/\Wk E0 s ⟨Fr 63 [(2,.b w)],[]⟩):=by
 unfold Eu at h;refine AS (b:=r16) kr (fun hb17=>?_) (fun hb17=>?_)
 ·rw [if_pos hb17] at h
  refine Aa ?_;have hq:=OI h; subst hq;exact ⟨rfl,(Af [0] ⟨⟨_,rfl,CJ⟩,trivial⟩ ⟨lv,lv,lv,lv,lv,trivial⟩)⟩
 ·rw [CZ hb17] at h
  refine AI AC [(1,.pt 0 0 0),(3,.j 0),(4,.j 0),(5,.j 0),(6,.b false),(8,.v (.int .u8 x0.1)),(19,.b (x0.1==4))] [some ⟨5,66,[AA.enc x0],false⟩] ?_;obtain ⟨r48,hr48,h⟩:=OB h;rcases r48 with w49 | w50
  ·try dsimp only at h
   refine CO (G6 x0 _ hr48) ?_;have hq:=OI h; subst hq;exact ⟨rfl,(Af [0] ⟨⟨_,rfl,CJ⟩,trivial⟩ ⟨lv,lv,lv,lv,lv,trivial⟩)⟩
  ·try dsimp only at h
   refine CO (G6 x0 _ hr48) ?_;have hq:=OI h; subst hq;exact ⟨rfl,AQ⟩
theorem G4 (x0:AD) (r:(Int×Int×Int×Bool) ⊕ (Bool)) (h:Eq x0=some r):Sem E0 ⟨none,false⟩ (pc Bv [1,1,0,1,0,1]) ⟨Fr 63 [(1,.pt 0 0 0),(3,.j 0),(4,.j 0),(5,.j 0),(6,.b false),(8,.v (.int .u8 x0.1)),(9,.b (x0.1==1))],[some ⟨5,66,[AA.enc x0],false⟩]⟩ (fun e s=>match r with
 | (.inl w)=>e = .normal/\Wk E0 s ⟨Fr 63 [(1,.pt 0 0 0),(3,.j w.1),(4,.j w.2.1),(5,.j w.2.2.1),(6,.b w.2.2.2)],[some ⟨5,66,[AA.enc x0],false⟩]⟩
 | (.inr w)=>e = .ret/\Wk E0 s ⟨Fr 63 [(2,.b w)],[]⟩):=by
 unfold Eq at h;refine AS (b:=(x0.1==1)) kr (fun hb1=>?_) (fun hb1=>?_)
 ·rw [if_pos hb1] at h
  refine AG ?_
  let p1:Option Blk:=some ⟨5,66,[AA.enc x0],false⟩
  refine AI AC [(1,.pt 0 0 0),(4,.j 0),(5,.j 0),(6,.b false),(13,.b (!(x0.2.1==[])))] [p1] ?_;refine AS (b:=(!(x0.2.1==[]))) kr (fun hb2=>?_) (fun hb2=>?_)
  ·rw [if_pos hb2] at h
   refine AG ?_;refine AL (s1:=⟨Fr 63 [(2,.b false)],[]⟩) ?_ ?_
   ·refine AE (n:=63) AC 1 [(2,.b false)] [p1] kr ?_
    exact AJ rfl (Af [] trivial ⟨lv,trivial⟩)
   refine AU ?_;have hq:=OI h; subst hq;exact ⟨rfl,AQ⟩
  ·rw [CZ hb2] at h
   refine Aa ?_;refine EK AC [(1,.pt 0 0 0),(3,.j 16),(4,.j 0),(5,.j 0),(6,.b false)] [p1] ?_;have hq:=OI h; subst hq;exact ⟨rfl,(Af [0] ⟨⟨_,rfl,CJ⟩,trivial⟩ ⟨lv,lv,lv,lv,lv,trivial⟩)⟩
 ·rw [CZ hb1] at h
  refine AG ?_;refine AI AC [(1,.pt 0 0 0),(3,.j 0),(4,.j 0),(5,.j 0),(6,.b false),(8,.v (.int .u8 x0.1)),(14,.b (x0.1==2))] [some ⟨5,66,[AA.enc x0],false⟩] ?_;obtain ⟨r16,hr16,h⟩:=OB h;refine CO (JU x0 _ hr16) ?_;obtain ⟨r52,hr52,h⟩:=OB h;rcases r52 with w53 | w54
  ·try dsimp only at h
   refine CO (G5 x0 r16 _ hr52) ?_;have hq:=OI h; subst hq;exact ⟨rfl,(Af [0] ⟨⟨_,rfl,CJ⟩,trivial⟩ ⟨lv,lv,lv,lv,lv,trivial⟩)⟩
  ·try dsimp only at h
   refine CO (G5 x0 r16 _ hr52) ?_;have hq:=OI h; subst hq;exact ⟨rfl,AQ⟩
theorem Kd (x0:AD) (r:Bool) (h:BJ x0=some r):Sem E0 ⟨none,false⟩ Bv ⟨Fr 63 (BW 0 (Gp.enc (x0,()))),[]⟩ fun e s'=>(e = .normal\/e = .ret)/\∃ xs,EO E0.P s'.fr s'.hp Tryz.f70.results.toList=some xs/\ET xs=Gt r:=by
 unfold BJ at h;refine A4 (Bq (s1:=⟨Fr 63 [(0,AA.enc x0)],[]⟩) AQ ?_);refine AI AC [(1,.pt 0 0 0)] [some ⟨5,66,[AA.enc x0],false⟩] ?_;refine AI AC [(1,.pt 0 0 0),(3,.j 0),(4,.j 0),(5,.j 0),(6,.b false)] [some ⟨5,66,[AA.enc x0],false⟩] ?_;refine AG ?_;refine AI AC [(1,.pt 0 0 0),(3,.j 0),(4,.j 0),(5,.j 0),(6,.b false),(8,.v (.int .u8 x0.1))] [some ⟨5,66,[AA.enc x0],false⟩] ?_;refine Bm ?_;refine AI AC [(1,.pt 0 0 0),(3,.j 0),(4,.j 0),(5,.j 0),(6,.b false),(8,.v (.int .u8 x0.1)),(9,.b (x0.1==1))] [some ⟨5,66,[AA.enc x0],false⟩] ?_;obtain ⟨r55,hr55,h⟩:=OB h;rcases r55 with w56 | w68
 ·try dsimp only at h
  refine CO (G4 x0 _ hr55) ?_;refine AG ?_;obtain ⟨j58,hj58,h⟩:=OB h;refine AL (s1:=⟨Fr 63 [(2,.b j58)],[]⟩) ?_ ?_
  ·refine AE (n:=63) AC 2 [(1,.pt 0 0 0),(3,.j w56.1),(4,.j w56.2.1),(5,.j w56.2.2.1),(6,.b w56.2.2.2),(29,.sl 1 (x0.2.2.2.1.map cdS.enc))] [some ⟨5,66,[AA.enc x0],false⟩] kr ?_
   refine Ak AC 0 rfl (ED (AB rfl) rfl (Ij (a:= .sl 1 (x0.2.2.2.1.map cdS.enc)) kr (Fp (el:=9) kr))) ?_;refine AE (n:=63) AC 3 [(1,.pt 0 0 0),(3,.j w56.1),(4,.j w56.2.1),(5,.j w56.2.2.1),(6,.b w56.2.2.2),(33,.b (decide ((x0.2.2.2.1.length:Int)<=w56.1)))] [some ⟨5,66,[AA.enc x0],false⟩] kr ?_;rcases BE (decide ((x0.2.2.2.1.length:Int)<=w56.1)) with hc59 | hc59
   ·rw [if_pos hc59] at hj58
    rw [hc59];refine AE (n:=63) AC 3 [(1,.pt 0 0 0),(4,.j w56.2.1),(5,.j w56.2.2.1),(6,.b w56.2.2.2),(33,.b true),(36,.b (w56.1==0))] [some ⟨5,66,[AA.enc x0],false⟩] kr ?_;rcases BE (w56.1==0) with hc60 | hc60
    ·rw [if_pos hc60] at hj58
     rw [hc60];refine AE (n:=63) AC 13 [(1,.pt 0 0 0),(5,.j w56.2.2.1),(6,.b w56.2.2.2),(49,.b (decide (x0.2.2.2.2≥w56.2.1)))] [some ⟨5,66,[AA.enc x0],false⟩] kr ?_;rcases BE (decide (x0.2.2.2.2≥w56.2.1)) with hc61 | hc61
     ·rw [if_pos hc61] at hj58
      rw [hc61];refine AE (n:=63) AC 6 [(1,.pt 0 0 0),(6,.b w56.2.2.2),(55,.b (decide (x0.2.2.2.2<=w56.2.2.1)))] [some ⟨5,66,[AA.enc x0],false⟩] kr ?_;rcases BE (decide (x0.2.2.2.2<=w56.2.2.1)) with hc62 | hc62
      ·rw [if_pos hc62] at hj58
       rw [hc62];refine AE (n:=63) AC 2 [(1,.pt 0 0 0),(55,.b true),(57,.b w56.2.2.2)] [some ⟨5,66,[AA.enc x0],false⟩] kr ?_;rcases BE w56.2.2.2 with hc63 | hc63
       ·rw [if_pos hc63] at hj58
        rw [hc63];refine AE (n:=63) AC 6 [(2,.b true)] [some ⟨5,66,[AA.enc x0],false⟩] kr ?_;have hq:=OI hj58; subst hq;exact AJ rfl (Af [] trivial ⟨lv,trivial⟩)
       ·rw [CZ hc63] at hj58
        rw [hc63];refine AE (n:=63) AC 6 [(2,.b (!x0.2.2.1))] [some ⟨5,66,[AA.enc x0],false⟩] kr ?_;have hq:=OI hj58; subst hq;exact AJ rfl (Af [] trivial ⟨lv,trivial⟩)
      ·rw [CZ hc62] at hj58
       rw [hc62];refine AE (n:=63) AC 8 [(2,.b false)] [some ⟨5,66,[AA.enc x0],false⟩] kr ?_;have hq:=OI hj58; subst hq;exact AJ rfl (Af [] trivial ⟨lv,trivial⟩)
     ·rw [CZ hc61] at hj58
      rw [hc61];refine AE (n:=63) AC 14 [(2,.b false)] [some ⟨5,66,[AA.enc x0],false⟩] kr ?_;have hq:=OI hj58; subst hq;exact AJ rfl (Af [] trivial ⟨lv,trivial⟩)
    ·rw [CZ hc60] at hj58
     rw [hc60];refine AE (n:=63) AC 2 [(1,.pt 0 0 0),(4,.j w56.2.1),(5,.j w56.2.2.1),(6,.b w56.2.2.2),(33,.b true),(36,.b false),(38,.sl 1 (x0.2.2.2.1.map cdS.enc))] [some ⟨5,66,[AA.enc x0],false⟩] kr ?_;refine Ak AC 0 rfl (ED kr rfl (Ij (a:= .sl 1 (x0.2.2.2.1.map cdS.enc)) kr (Fp (el:=9) kr))) ?_;refine AE (n:=63) AC 4 [(1,.pt 0 0 0),(4,.j w56.2.1),(5,.j w56.2.2.1),(6,.b w56.2.2.2),(43,.b (decide ((x0.2.2.2.1.length:Int) > 0)))] [some ⟨5,66,[AA.enc x0],false⟩] kr ?_;rcases BE (decide ((x0.2.2.2.1.length:Int) > 0)) with hc64 | hc64
     ·rw [if_pos hc64] at hj58
      rw [hc64];refine AE (n:=63) AC 6 [(1,.pt 0 0 0),(5,.j w56.2.2.1),(6,.b w56.2.2.2),(49,.b (decide (x0.2.2.2.2≥w56.2.1)))] [some ⟨5,66,[AA.enc x0],false⟩] kr ?_;rcases BE (decide (x0.2.2.2.2≥w56.2.1)) with hc65 | hc65
      ·rw [if_pos hc65] at hj58
       rw [hc65];refine AE (n:=63) AC 6 [(1,.pt 0 0 0),(6,.b w56.2.2.2),(55,.b (decide (x0.2.2.2.2<=w56.2.2.1)))] [some ⟨5,66,[AA.enc x0],false⟩] kr ?_;rcases BE (decide (x0.2.2.2.2<=w56.2.2.1)) with hc66 | hc66
       ·rw [if_pos hc66] at hj58
        rw [hc66];refine AE (n:=63) AC 2 [(1,.pt 0 0 0),(55,.b true),(57,.b w56.2.2.2)] [some ⟨5,66,[AA.enc x0],false⟩] kr ?_;rcases BE w56.2.2.2 with hc67 | hc67
        ·rw [if_pos hc67] at hj58
         rw [hc67];refine AE (n:=63) AC 6 [(2,.b true)] [some ⟨5,66,[AA.enc x0],false⟩] kr ?_;have hq:=OI hj58; subst hq;exact AJ rfl (Af [] trivial ⟨lv,trivial⟩)
        ·rw [CZ hc67] at hj58
         rw [hc67];refine AE (n:=63) AC 6 [(2,.b (!x0.2.2.1))] [some ⟨5,66,[AA.enc x0],false⟩] kr ?_;have hq:=OI hj58; subst hq;exact AJ rfl (Af [] trivial ⟨lv,trivial⟩)
       ·rw [CZ hc66] at hj58
        rw [hc66];refine AE (n:=63) AC 8 [(2,.b false)] [some ⟨5,66,[AA.enc x0],false⟩] kr ?_;have hq:=OI hj58; subst hq;exact AJ rfl (Af [] trivial ⟨lv,trivial⟩)
      ·rw [CZ hc65] at hj58
       rw [hc65];refine AE (n:=63) AC 14 [(2,.b false)] [some ⟨5,66,[AA.enc x0],false⟩] kr ?_;have hq:=OI hj58; subst hq;exact AJ rfl (Af [] trivial ⟨lv,trivial⟩)
     ·rw [CZ hc64] at hj58
      rw [hc64];refine AE (n:=63) AC 20 [(2,.b false)] [some ⟨5,66,[AA.enc x0],false⟩] kr ?_;have hq:=OI hj58; subst hq;exact AJ rfl (Af [] trivial ⟨lv,trivial⟩)
   ·rw [CZ hc59] at hj58
    rw [hc59];refine AE (n:=63) AC 30 [(2,.b false)] [some ⟨5,66,[AA.enc x0],false⟩] kr ?_;have hq:=OI hj58; subst hq;exact AJ rfl (Af [] trivial ⟨lv,trivial⟩)
  refine AU ?_;have hq:=OI h; subst hq;exact ⟨⟨Fr 63 [(2,.b j58)],[]⟩,AQ,.inr rfl,[.b j58],kr,kr⟩
 ·try dsimp only at h
  refine CO (G4 x0 _ hr55) ?_;have hq:=OI h; subst hq;exact ⟨⟨Fr 63 [(2,.b w68)],[]⟩,AQ,.inr rfl,[.b w68],kr,kr⟩
def MG:List AV->Option AV:=Db Gp (fun a=>BJ a.1) Gt
theorem MK:XOk 70 MG:=by
 refine AY Tryz.func70 (c:=Bv) ?h2 ⟨Tryz.call70⟩ Gp (fun a=>BJ a.1) Gt (fun a=>(by show 1<=63; decide)) ?h3 ?h4
 case h2=>kernel_rfl
 case h3=>intro b; kernel_rfl
 case h4=>exact fun a b h=>Kd a.1 b h
/- trestle/court.name -/
noncomputable def Hi:Code:=Br Tryz.f71
def DN (x0:(List UInt8)):Nat->Int->Option ((Unit) ⊕ (Bool))
 | 0,_=>none
 | f + 1,c1 =>
  if (decide (c1 < (x0.length:Int)))=true then
  (idx x0 c1).bind fun v3 =>
  (if (decide ((v3.toNat:Int) < 97))=true then some true else (idx x0 c1).bind fun v4 =>
  some (decide ((v4.toNat:Int) > 122))).bind fun j6 =>
  if j6=true then
  some (.inr false)
  else
  DN x0 f (wr .i64 (c1 + 1))
  else
  some (.inl ())
def Ei (x0:(List UInt8)):Option (Bool) :=
 (DN x0 100000 0).bind fun r10 =>
 match r10 with
 | (.inl w11) =>
  (if (decide ((x0.length:Int)≥1))=true then some (decide ((x0.length:Int)<=12)) else some false).bind fun j13 =>
  some j13
 | (.inr w15) =>
  some w15
def Hk:Cs ((List UInt8)×Unit):=(csC cdS csN)
def Hm (r:Bool):AV:=cdB.enc r
theorem IF (x0:(List UInt8)):∀ (f:Nat) (c1:Int) (r:(Unit) ⊕ (Bool)),DN x0 f c1=some r->SemN E0 ⟨none,false⟩ (pc Hi [1,0,1,0,0]) f ⟨Fr 28 [(0,.st x0),(3,.j c1)],[]⟩ (fun e s=>match r with
 | (.inl w)=>e=(.exit 0)/\Wk E0 s ⟨Fr 28 [(0,.st x0)],[]⟩
 | (.inr w)=>e = .ret/\Wk E0 s ⟨Fr 28 [(2,.b w)],[]⟩):=by
 intro f;induction f with
 | zero=>intro c1 r h; cases h
 | succ f ih0 =>
  intro c1 r h
  have ih:=fun (c1:Int)=>ih0 c1 r
  unfold DN at h;refine D8 ?_;refine AG ?_;refine AI AC [(0,.st x0),(3,.j c1),(7,.b (decide (c1 < (x0.length:Int))))] [] ?_;refine AS (b:=(decide (c1 < (x0.length:Int)))) kr (fun hb2=>?_) (fun hb2=>?_)
  ·rw [if_pos hb2] at h
   refine Aa ?_;refine AG ?_;refine Bm ?_;refine AG ?_;obtain ⟨v3,hv3,h⟩:=OB h;obtain ⟨j6,hj6,h⟩:=OB h;refine AL (s1:=⟨Fr 28 [(0,.st x0),(3,.j c1),(19,.b j6)],[]⟩) ?_ ?_
   ·refine AE (n:=28) AC 2 [(0,.st x0),(3,.j c1),(10,.st x0),(11,.j c1)] [] kr ?_
    refine Ak AC 0 rfl (ED (AB rfl) rfl (QX (a:= .st x0) (b:= .j c1) kr kr (Oz (bs:=x0) (ki:= .i64) kr hv3))) ?_;refine AE (n:=28) AC 2 [(0,.st x0),(3,.j c1),(14,.b (decide ((v3.toNat:Int) < 97)))] [] kr ?_;rcases BE (decide ((v3.toNat:Int) < 97)) with hc9 | hc9
    ·rw [if_pos hc9] at hj6
     rw [hc9];refine AE (n:=28) AC 5 [(0,.st x0),(3,.j c1),(15,.tp []),(16,.tp []),(17,.tp []),(18,.tp []),(19,.b true)] [] kr ?_;have hq:=OI hj6; subst hq;exact AJ rfl AQ
    ·rw [CZ hc9] at hj6
     rw [hc9];refine AE (n:=28) AC 2 [(0,.st x0),(3,.j c1),(14,.b false),(15,.st x0),(16,.j c1)] [] kr ?_;obtain ⟨v4,hv4,hj6⟩:=OB hj6;refine Ak AC 0 rfl (ED kr rfl (QX (a:= .st x0) (b:= .j c1) kr kr (Oz (bs:=x0) (ki:= .i64) kr hv4))) ?_;refine AE (n:=28) AC 2 [(0,.st x0),(3,.j c1),(15,.st x0),(16,.j c1),(17,.v (.int .u8 (v4.toNat:Int))),(18,.b (decide ((v4.toNat:Int) > 122))),(19,.b (decide ((v4.toNat:Int) > 122)))] [] kr ?_;have hq:=OI hj6; subst hq;exact AJ rfl AQ
   refine AS (b:=j6) kr (fun hb7=>?_) (fun hb7=>?_)
   ·rw [if_pos hb7] at h
    refine AI AC [(2,.b false)] [] ?_;refine AU ?_;have hq:=OI h; subst hq;exact ⟨rfl,AQ⟩
   ·rw [CZ hb7] at h
    refine Aa ?_;refine EK AC [(0,.st x0),(3,.j (wr .i64 (c1 + 1)))] [] ?_;exact CE (s1:=⟨Fr 28 [(0,.st x0),(3,.j (wr .i64 (c1 + 1)))],[]⟩) AQ (ih (wr .i64 (c1 + 1)) h)
  ·rw [CZ hb2] at h
   refine En ?_;have hq:=OI h; subst hq;exact ⟨rfl,AQ⟩
theorem MA (x0:(List UInt8)) (r:Bool) (h:Ei x0=some r):Sem E0 ⟨none,false⟩ Hi ⟨Fr 28 (BW 0 (Hk.enc (x0,()))),[]⟩ fun e s'=>(e = .normal\/e = .ret)/\∃ xs,EO E0.P s'.fr s'.hp Tryz.f71.results.toList=some xs/\ET xs=Hm r:=by
 unfold Ei at h;refine A4 (Bq (s1:=⟨Fr 28 [(0,.st x0)],[]⟩) AQ ?_);refine AI AC [(0,.st x0)] [] ?_;refine AG ?_;refine AI AC [(0,.st x0),(3,.j 0)] [] ?_;refine Bm ?_;obtain ⟨r10,hr10,h⟩:=OB h;refine Eo (n:=100000) ?_;rcases r10 with w11 | w15
 ·try dsimp only at h
  refine Cu (CE (s1:=⟨Fr 28 [(0,.st x0),(3,.j 0)],[]⟩) AQ (IF x0 _ 0 _ hr10)) ?_;refine AG ?_;obtain ⟨j13,hj13,h⟩:=OB h;refine AL (s1:=⟨Fr 28 [(2,.b j13)],[]⟩) ?_ ?_
  ·refine AE (n:=28) AC 4 [(0,.st x0),(23,.b (decide ((x0.length:Int)≥1)))] [] kr ?_
   rcases BE (decide ((x0.length:Int)≥1)) with hc14 | hc14
   ·rw [if_pos hc14] at hj13
    rw [hc14];refine AE (n:=28) AC 5 [(2,.b (decide ((x0.length:Int)<=12)))] [] kr ?_;have hq:=OI hj13; subst hq;exact AJ rfl AQ
   ·rw [CZ hc14] at hj13
    rw [hc14];refine AE (n:=28) AC 5 [(2,.b false)] [] kr ?_;have hq:=OI hj13; subst hq;exact AJ rfl AQ
  refine AU ?_;have hq:=OI h; subst hq;exact ⟨⟨Fr 28 [(2,.b j13)],[]⟩,AQ,.inr rfl,[.b j13],kr,kr⟩
 ·try dsimp only at h
  refine Cu (CE (s1:=⟨Fr 28 [(0,.st x0),(3,.j 0)],[]⟩) AQ (IF x0 _ 0 _ hr10)) ?_;have hq:=OI h; subst hq;exact ⟨⟨Fr 28 [(2,.b w15)],[]⟩,AQ,.inr rfl,[.b w15],kr,kr⟩
def Nm:List AV->Option AV:=Db Hk (fun a=>Ei a.1) Hm
theorem Ka:XOk 71 Nm:=by
 refine AY Tryz.func71 (c:=Hi) ?h2 ⟨Tryz.call71⟩ Hk (fun a=>Ei a.1) Hm (fun a=>(by show 1<=28; decide)) ?h3 ?h4
 case h2=>kernel_rfl
 case h3=>intro b; kernel_rfl
 case h4=>exact fun a b h=>MA a.1 b h
/- trestle/court.check$1 -/
noncomputable def H5:Code:=Br Tryz.f72
def Dt (x0:(List UInt8)):Option (Bool) :=
 (Ei x0).bind fun v1 =>
 some (!v1)
def GA:Cs ((List UInt8)×Unit):=(csC cdS csN)
def GO (r:Bool):AV:=cdB.enc r
theorem Jx (x0:(List UInt8)) (r:Bool) (h:Dt x0=some r):Sem E0 ⟨none,false⟩ H5 ⟨Fr 6 (BW 0 (GA.enc (x0,()))),[]⟩ fun e s'=>(e = .normal\/e = .ret)/\∃ xs,EO E0.P s'.fr s'.hp Tryz.f72.results.toList=some xs/\ET xs=GO r:=by
 unfold Dt at h;refine A4 (Bq (s1:=⟨Fr 6 [(0,.st x0)],[]⟩) AQ ?_);refine AI AC [(0,.st x0)] [] ?_;refine AG ?_;obtain ⟨v1,hv1,h⟩:=OB h;refine AL (s1:=⟨Fr 6 [(2,.b (!v1))],[]⟩) ?_ ?_
 ·refine AE (n:=6) AC 1 [(3,.st x0)] [] kr ?_
  refine Ai (caps:=[]) (xs:=[.st x0]) (u:=(x0,())) rfl rfl Ka rfl (AB rfl) kr kr (AP (Al (c:=cdS) (v:=x0)) Bc) (.inl kr) hv1 ?_;exact As AC
 refine AU ?_;have hq:=OI h; subst hq;exact ⟨⟨Fr 6 [(2,.b (!v1))],[]⟩,AQ,.inr rfl,[.b (!v1)],kr,kr⟩
def Lc:List AV->Option AV:=Db GA (fun a=>Dt a.1) GO
theorem Lu:XOk 72 Lc:=by
 refine AY Tryz.func72 (c:=H5) ?h2 ⟨Tryz.call72⟩ GA (fun a=>Dt a.1) GO (fun a=>(by show 1<=6; decide)) ?h3 ?h4
 case h2=>kernel_rfl
 case h3=>intro b; kernel_rfl
 case h4=>exact fun a b h=>Jx a.1 b h
/- slices.IndexFunc[[]string,string] -/
noncomputable def BH:Code:=Br Tryz.f79
def Am (x0:(List (List UInt8))):Nat->Int->Option ((Unit) ⊕ (Int))
 | 0,_=>none
 | f + 1,c1 =>
  if (decide (c1 < (x0.length:Int)))=true then
  (idx x0 c1).bind fun v3 =>
  (Dt v3).bind fun v4 =>
  if v4=true then
  some (.inr c1)
  else
  Am x0 f (wr .i64 (c1 + 1))
  else
  some (.inl ())
def Ac (x0:(List (List UInt8))):Option (Int) :=
 (Am x0 100000 0).bind fun r7 =>
 match r7 with
 | (.inl w8) =>
  some (-1)
 | (.inr w9) =>
  some w9
def BN:Cs ((List (List UInt8))×Unit×Unit):=(csC (cdL 1 cdS) (csC (cdF 72 csN (fun _=>rfl)) csN))
def BQ (r:Int):AV:=cdI.enc r
theorem B3 (x0:(List (List UInt8))):∀ (f:Nat) (c1:Int) (r:(Unit) ⊕ (Int)),Am x0 f c1=some r->SemN E0 ⟨none,false⟩ (pc BH [1,0,1,0,0]) f ⟨Fr 19 [(0,.sl 1 (x0.map cdS.enc)),(1,.fn 72 [] []),(7,.j (x0.length:Int)),(8,.j c1)],[]⟩ (fun e s=>match r with
 | (.inl w)=>e=(.exit 0)/\Wk E0 s ⟨Fr 19 [],[]⟩
 | (.inr w)=>e = .ret/\Wk E0 s ⟨Fr 19 [(4,.j w)],[]⟩):=by
 intro f;induction f with
 | zero=>intro c1 r h; cases h
 | succ f ih0 =>
  intro c1 r h
  have ih:=fun (c1:Int)=>ih0 c1 r
  unfold Am at h;refine D8 ?_
  let p1:Nat×AV:=(8,.j c1)
  let p2:Nat×AV:=(7,.j (x0.length:Int))
  let p3:Nat×AV:=(1,.fn 72 [] [])
  let p4:Nat×AV:=(0,.sl 1 (x0.map cdS.enc))
  refine AI AC [p4,p3,p2,p1,(9,.b (decide (c1 < (x0.length:Int))))] [] ?_;refine AG ?_;refine AS (b:=(decide (c1 < (x0.length:Int)))) kr (fun hb2=>?_) (fun hb2=>?_)
  ·rw [if_pos hb2] at h
   refine Aa ?_;refine AG ?_;refine Bm ?_
   let p5:Nat×AV:=(5,.j c1)
   refine AI AC [p4,p3,p5,p2,p1] [] ?_;refine AG ?_;obtain ⟨v3,hv3,h⟩:=OB h;obtain ⟨v4,hv4,h⟩:=OB h;refine AL (s1:=⟨Fr 19 [p4,p3,p5,p2,p1,(16,.b v4)],[]⟩) ?_ ?_
   ·refine AE (n:=19) AC 3 [p4,p3,p5,p2,p1,(11,.fn 72 [] []),(12,.sl 1 (x0.map cdS.enc)),(13,.j c1)] [] kr ?_
    refine Ak AC 0 rfl (ED (AB rfl) rfl (AK (a:= .sl 1 (x0.map cdS.enc)) (b:= .j c1) kr kr (Hw (e:=cdS.enc) (el:=9) (k:=1) (ki:= .i64) kr kr hv3))) ?_;refine AE (n:=19) AC 1 [p4,p3,p5,p2,p1,(11,.fn 72 [] []),(15,.st v3)] [] kr ?_;refine Ai (caps:=[]) (xs:=[.st v3]) (u:=(v3,())) rfl rfl Lu rfl (AB rfl) kr kr (AP (Al (c:=cdS) (v:=v3)) Bc) (.inl kr) hv4 ?_;exact AJ rfl AQ
   refine AS (b:=v4) kr (fun hb5=>?_) (fun hb5=>?_)
   ·rw [if_pos hb5] at h
    refine AI AC [(4,.j c1)] [] ?_;refine AU ?_;have hq:=OI h; subst hq;exact ⟨rfl,AQ⟩
   ·rw [CZ hb5] at h
    refine Aa ?_
    let p6:Nat×AV:=(8,.j (wr .i64 (c1 + 1)))
    refine EK AC [p4,p3,p2,p6] [] ?_;exact CE (s1:=⟨Fr 19 [p4,p3,p2,p6],[]⟩) AQ (ih (wr .i64 (c1 + 1)) h)
  ·rw [CZ hb2] at h
   refine En ?_;have hq:=OI h; subst hq;exact ⟨rfl,AQ⟩
theorem DJ (x0:(List (List UInt8))) (r:Int) (h:Ac x0=some r):Sem E0 ⟨none,false⟩ BH ⟨Fr 19 (BW 0 (BN.enc (x0,(),()))),[]⟩ fun e s'=>(e = .normal\/e = .ret)/\∃ xs,EO E0.P s'.fr s'.hp Tryz.f79.results.toList=some xs/\ET xs=BQ r:=by
 unfold Ac at h
 let p1:Nat×AV:=(1,.fn 72 [] [])
 let p2:Nat×AV:=(0,.sl 1 (x0.map cdS.enc))
 refine A4 (Bq (s1:=⟨Fr 19 [p2,p1],[]⟩) AQ ?_);refine AI AC [p2,p1] [] ?_;refine AG ?_;refine AG ?_
 let p3:Nat×AV:=(8,.j 0)
 let p4:Nat×AV:=(7,.j (x0.length:Int))
 refine AL (s1:=⟨Fr 19 [p2,p1,p4,p3],[]⟩) ?_ ?_
 ·refine AE (n:=19) AC 1 [p2,p1,(6,.sl 1 (x0.map cdS.enc))] [] kr ?_
  refine Ak AC 0 rfl (ED (AB rfl) rfl (Ij (a:= .sl 1 (x0.map cdS.enc)) kr (Fp (el:=9) kr))) ?_;exact As AC
 refine Bm ?_;obtain ⟨r7,hr7,h⟩:=OB h;refine Eo (n:=100000) ?_;rcases r7 with w8 | w9
 ·try dsimp only at h
  refine Cu (CE (s1:=⟨Fr 19 [p2,p1,p4,p3],[]⟩) AQ (B3 x0 _ 0 _ hr7)) ?_;refine AI AC [(4,.j (-1))] [] ?_;refine AU ?_;have hq:=OI h; subst hq;exact ⟨⟨Fr 19 [(4,.j (-1))],[]⟩,AQ,.inr rfl,[.j (-1)],kr,kr⟩
 ·try dsimp only at h
  refine Cu (CE (s1:=⟨Fr 19 [p2,p1,p4,p3],[]⟩) AQ (B3 x0 _ 0 _ hr7)) ?_;have hq:=OI h; subst hq;exact ⟨⟨Fr 19 [(4,.j w9)],[]⟩,AQ,.inr rfl,[.j w9],kr,kr⟩
def DV:List AV->Option AV:=Db BN (fun a=>Ac a.1) BQ
theorem DY:XOk 79 DV:=by
 refine AY Tryz.func79 (c:=BH) ?h2 ⟨Tryz.call79⟩ BN (fun a=>Ac a.1) BQ (fun a=>(by show 2<=19; decide)) ?h3 ?h4
 case h2=>kernel_rfl
 case h3=>intro b; kernel_rfl
 case h4=>exact fun a b h=>DJ a.1 b h
/- slices.ContainsFunc[[]string,string] -/
noncomputable def Bw:Code:=Br Tryz.f48
def AN (x0:(List (List UInt8))):Option (Bool) :=
 (Ac x0).bind fun v1 =>
 some (decide (v1≥0))
def BA:Cs ((List (List UInt8))×Unit×Unit):=(csC (cdL 1 cdS) (csC (cdF 72 csN (fun _=>rfl)) csN))
def BB (r:Bool):AV:=cdB.enc r
theorem C3 (x0:(List (List UInt8))) (r:Bool) (h:AN x0=some r):Sem E0 ⟨none,false⟩ Bw ⟨Fr 9 (BW 0 (BA.enc (x0,(),()))),[]⟩ fun e s'=>(e = .normal\/e = .ret)/\∃ xs,EO E0.P s'.fr s'.hp Tryz.f48.results.toList=some xs/\ET xs=BB r:=by
 unfold AN at h;refine A4 (Bq (s1:=⟨Fr 9 [(0,.sl 1 (x0.map cdS.enc)),(1,.fn 72 [] [])],[]⟩) AQ ?_);refine AI AC [(0,.sl 1 (x0.map cdS.enc)),(1,.fn 72 [] [])] [] ?_;refine AG ?_;obtain ⟨v1,hv1,h⟩:=OB h
 let p1:Nat×AV:=(4,.b (decide (v1≥0)))
 refine AL (s1:=⟨Fr 9 [p1],[]⟩) ?_ ?_
 ·refine AE (n:=9) AC 2 [(5,.sl 1 (x0.map cdS.enc)),(6,.fn 72 [] [])] [] kr ?_
  refine Ai (caps:=[]) (xs:=[.sl 1 (x0.map cdS.enc),.fn 72 [] []]) (u:=(x0,(),())) rfl rfl DY rfl (AB rfl) kr kr (AP (Al (c:=(cdL 1 cdS)) (v:=x0)) (AP (Sm.fn Bc) Bc)) (.inl kr) hv1 ?_;exact As AC
 refine AU ?_;have hq:=OI h; subst hq;exact ⟨⟨Fr 9 [p1],[]⟩,AQ,.inr rfl,[.b (decide (v1≥0))],kr,kr⟩
def DF:List AV->Option AV:=Db BA (fun a=>AN a.1) BB
theorem B5:XOk 48 DF:=by
 refine AY Tryz.func48 (c:=Bw) ?h2 ⟨Tryz.call48⟩ BA (fun a=>AN a.1) BB (fun a=>(by show 2<=9; decide)) ?h3 ?h4
 case h2=>kernel_rfl
 case h3=>intro b; kernel_rfl
 case h4=>exact fun a b h=>C3 a.1 b h
/- slices.Index[[]string,string] -/
noncomputable def Ci:Code:=Br Tryz.f93
def Ap (x0:(List (List UInt8))) (x1:(List UInt8)):Nat->Int->Option ((Unit) ⊕ (Int))
 | 0,_=>none
 | f + 1,c1 =>
  if (decide (c1 < (x0.length:Int)))=true then
  (idx x0 c1).bind fun v3 =>
  if (x1==v3)=true then
  some (.inr c1)
  else
  Ap x0 x1 f (wr .i64 (c1 + 1))
  else
  some (.inl ())
def A3 (x0:(List (List UInt8))) (x1:(List UInt8)):Option (Int) :=
 (Ap x0 x1 100000 0).bind fun r6 =>
 match r6 with
 | (.inl w7) =>
  some (-1)
 | (.inr w8) =>
  some w8
def Ck:Cs ((List (List UInt8))×(List UInt8)×Unit):=(csC (cdL 1 cdS) (csC cdS csN))
def Cl (r:Int):AV:=cdI.enc r
theorem Da (x0:(List (List UInt8))) (x1:(List UInt8)):∀ (f:Nat) (c1:Int) (r:(Unit) ⊕ (Int)),Ap x0 x1 f c1=some r->SemN E0 ⟨none,false⟩ (pc Ci [1,0,1,0,0]) f ⟨Fr 19 [(0,.sl 1 (x0.map cdS.enc)),(1,.st x1),(7,.j (x0.length:Int)),(8,.j c1)],[]⟩ (fun e s=>match r with
 | (.inl w)=>e=(.exit 0)/\Wk E0 s ⟨Fr 19 [],[]⟩
 | (.inr w)=>e = .ret/\Wk E0 s ⟨Fr 19 [(4,.j w)],[]⟩):=by
 intro f;induction f with
 | zero=>intro c1 r h; cases h
 | succ f ih0 =>
  intro c1 r h
  have ih:=fun (c1:Int)=>ih0 c1 r
  unfold Ap at h;refine D8 ?_
  let p1:Nat×AV:=(8,.j c1)
  let p2:Nat×AV:=(7,.j (x0.length:Int))
  let p3:Nat×AV:=(0,.sl 1 (x0.map cdS.enc))
  refine AI AC [p3,(1,.st x1),p2,p1,(9,.b (decide (c1 < (x0.length:Int))))] [] ?_;refine AG ?_;refine AS (b:=(decide (c1 < (x0.length:Int)))) kr (fun hb2=>?_) (fun hb2=>?_)
  ·rw [if_pos hb2] at h
   refine Aa ?_;refine AG ?_;refine Bm ?_
   let p4:Nat×AV:=(5,.j c1)
   refine AI AC [p3,(1,.st x1),p4,p2,p1] [] ?_;refine AG ?_;obtain ⟨v3,hv3,h⟩:=OB h;refine AL (s1:=⟨Fr 19 [p3,(1,.st x1),p4,p2,p1,(16,.b (x1==v3))],[]⟩) ?_ ?_
   ·refine AE (n:=19) AC 3 [p3,(1,.st x1),p4,p2,p1,(11,.st x1),(12,.sl 1 (x0.map cdS.enc)),(13,.j c1)] [] kr ?_
    refine Ak AC 0 rfl (ED (AB rfl) rfl (AK (a:= .sl 1 (x0.map cdS.enc)) (b:= .j c1) kr kr (Hw (e:=cdS.enc) (el:=9) (k:=1) (ki:= .i64) kr kr hv3))) ?_;exact As AC
   refine AS (b:=(x1==v3)) kr (fun hb4=>?_) (fun hb4=>?_)
   ·rw [if_pos hb4] at h
    refine AI AC [(4,.j c1)] [] ?_;refine AU ?_;have hq:=OI h; subst hq;exact ⟨rfl,AQ⟩
   ·rw [CZ hb4] at h
    refine Aa ?_
    let p5:Nat×AV:=(8,.j (wr .i64 (c1 + 1)))
    refine EK AC [p3,(1,.st x1),p2,p5] [] ?_;exact CE (s1:=⟨Fr 19 [p3,(1,.st x1),p2,p5],[]⟩) AQ (ih (wr .i64 (c1 + 1)) h)
  ·rw [CZ hb2] at h
   refine En ?_;have hq:=OI h; subst hq;exact ⟨rfl,AQ⟩
theorem Ft (x0:(List (List UInt8))) (x1:(List UInt8)) (r:Int) (h:A3 x0 x1=some r):Sem E0 ⟨none,false⟩ Ci ⟨Fr 19 (BW 0 (Ck.enc (x0,x1,()))),[]⟩ fun e s'=>(e = .normal\/e = .ret)/\∃ xs,EO E0.P s'.fr s'.hp Tryz.f93.results.toList=some xs/\ET xs=Cl r:=by
 unfold A3 at h
 let p1:Nat×AV:=(0,.sl 1 (x0.map cdS.enc))
 refine A4 (Bq (s1:=⟨Fr 19 [p1,(1,.st x1)],[]⟩) AQ ?_);refine AI AC [p1,(1,.st x1)] [] ?_;refine AG ?_;refine AG ?_
 let p2:Nat×AV:=(8,.j 0)
 let p3:Nat×AV:=(7,.j (x0.length:Int))
 refine AL (s1:=⟨Fr 19 [p1,(1,.st x1),p3,p2],[]⟩) ?_ ?_
 ·refine AE (n:=19) AC 1 [p1,(1,.st x1),(6,.sl 1 (x0.map cdS.enc))] [] kr ?_
  refine Ak AC 0 rfl (ED (AB rfl) rfl (Ij (a:= .sl 1 (x0.map cdS.enc)) kr (Fp (el:=9) kr))) ?_;exact As AC
 refine Bm ?_;obtain ⟨r6,hr6,h⟩:=OB h;refine Eo (n:=100000) ?_;rcases r6 with w7 | w8
 ·try dsimp only at h
  refine Cu (CE (s1:=⟨Fr 19 [p1,(1,.st x1),p3,p2],[]⟩) AQ (Da x0 x1 _ 0 _ hr6)) ?_;refine AI AC [(4,.j (-1))] [] ?_;refine AU ?_;have hq:=OI h; subst hq;exact ⟨⟨Fr 19 [(4,.j (-1))],[]⟩,AQ,.inr rfl,[.j (-1)],kr,kr⟩
 ·try dsimp only at h
  refine Cu (CE (s1:=⟨Fr 19 [p1,(1,.st x1),p3,p2],[]⟩) AQ (Da x0 x1 _ 0 _ hr6)) ?_;have hq:=OI h; subst hq;exact ⟨⟨Fr 19 [(4,.j w8)],[]⟩,AQ,.inr rfl,[.j w8],kr,kr⟩
def Ge:List AV->Option AV:=Db Ck (fun a=>A3 a.1 a.2.1) Cl
theorem D6:XOk 93 Ge:=by
 refine AY Tryz.func93 (c:=Ci) ?h2 ⟨Tryz.call93⟩ Ck (fun a=>A3 a.1 a.2.1) Cl (fun a=>(by show 2<=19; decide)) ?h3 ?h4
 case h2=>kernel_rfl
 case h3=>intro b; kernel_rfl
 case h4=>exact fun a b h=>Ft a.1 a.2.1 b h
/- slices.Contains[[]string,string] -/
noncomputable def DZ:Code:=Br Tryz.f73
def Ad (x0:(List (List UInt8))) (x1:(List UInt8)):Option (Bool) :=
 (A3 x0 x1).bind fun v1 =>
 some (decide (v1≥0))
def CK:Cs ((List (List UInt8))×(List UInt8)×Unit):=(csC (cdL 1 cdS) (csC cdS csN))
def CL (r:Bool):AV:=cdB.enc r
theorem FS (x0:(List (List UInt8))) (x1:(List UInt8)) (r:Bool) (h:Ad x0 x1=some r):Sem E0 ⟨none,false⟩ DZ ⟨Fr 9 (BW 0 (CK.enc (x0,x1,()))),[]⟩ fun e s'=>(e = .normal\/e = .ret)/\∃ xs,EO E0.P s'.fr s'.hp Tryz.f73.results.toList=some xs/\ET xs=CL r:=by
 unfold Ad at h;refine A4 (Bq (s1:=⟨Fr 9 [(0,.sl 1 (x0.map cdS.enc)),(1,.st x1)],[]⟩) AQ ?_);refine AI AC [(0,.sl 1 (x0.map cdS.enc)),(1,.st x1)] [] ?_;refine AG ?_;obtain ⟨v1,hv1,h⟩:=OB h
 let p1:Nat×AV:=(4,.b (decide (v1≥0)))
 refine AL (s1:=⟨Fr 9 [p1],[]⟩) ?_ ?_
 ·refine AE (n:=9) AC 2 [(5,.sl 1 (x0.map cdS.enc)),(6,.st x1)] [] kr ?_
  refine Ai (caps:=[]) (xs:=[.sl 1 (x0.map cdS.enc),.st x1]) (u:=(x0,x1,())) rfl rfl D6 rfl (AB rfl) kr kr (AP (Al (c:=(cdL 1 cdS)) (v:=x0)) (AP (Al (c:=cdS) (v:=x1)) Bc)) (.inl kr) hv1 ?_;exact As AC
 refine AU ?_;have hq:=OI h; subst hq;exact ⟨⟨Fr 9 [p1],[]⟩,AQ,.inr rfl,[.b (decide (v1≥0))],kr,kr⟩
def Ff:List AV->Option AV:=Db CK (fun a=>Ad a.1 a.2.1) CL
theorem B7:XOk 73 Ff:=by
 refine AY Tryz.func73 (c:=DZ) ?h2 ⟨Tryz.call73⟩ CK (fun a=>Ad a.1 a.2.1) CL (fun a=>(by show 2<=9; decide)) ?h3 ?h4
 case h2=>kernel_rfl
 case h3=>intro b; kernel_rfl
 case h4=>exact fun a b h=>FS a.1 a.2.1 b h
/- trestle/court.check$2 -/
noncomputable def H6:Code:=Br Tryz.f74
def Du (x0:AD) (x1:AD):Option (Bool) :=
 (if (x0.1==1)=true then (Ad x0.2.2.2.1 x1.2.1).bind fun v1 =>
 some v1 else some false).bind fun j3 =>
 some j3
def GB:Cs (AD×AD×Unit):=(csC AA (csC (cdP AA) csN))
def GP (r:Bool):AV:=cdB.enc r
theorem Jy (x0:AD) (x1:AD) (r:Bool) (h:Du x0 x1=some r):Sem E0 ⟨none,false⟩ H6 ⟨Fr 14 (BW 0 (GB.enc (x0,x1,()))),[]⟩ fun e s'=>(e = .normal\/e = .ret)/\∃ xs,EO E0.P s'.fr s'.hp Tryz.f74.results.toList=some xs/\ET xs=GP r:=by
 unfold Du at h;refine A4 (Bq (s1:=⟨Fr 14 [(0,AA.enc x0),(1,.pe (AA.enc x1) 0)],[]⟩) AQ ?_);refine AI AC [(1,.pe (AA.enc x1) 0),(2,.pt 0 0 0)] [some ⟨5,66,[AA.enc x0],false⟩] ?_;refine AG ?_;obtain ⟨j3,hj3,h⟩:=OB h;refine AL (s1:=⟨Fr 14 [(3,.b j3)],[]⟩) ?_ ?_
 ·refine AE (n:=14) AC 4 [(1,.pe (AA.enc x1) 0),(2,.pt 0 0 0),(7,.b (x0.1==1))] [some ⟨5,66,[AA.enc x0],false⟩] kr ?_
  rcases BE (x0.1==1) with hc4 | hc4
  ·rw [if_pos hc4] at hj3
   rw [hc4];refine AE (n:=14) AC 4 [(7,.b true),(9,.sl 1 (x0.2.2.2.1.map cdS.enc)),(11,.st x1.2.1)] [some ⟨5,66,[AA.enc x0],false⟩] kr ?_;obtain ⟨v1,hv1,hj3⟩:=OB hj3;refine Ai (caps:=[]) (xs:=[.sl 1 (x0.2.2.2.1.map cdS.enc),.st x1.2.1]) (u:=(x0.2.2.2.1,x1.2.1,())) rfl rfl B7 rfl kr kr kr (AP (Al (c:=(cdL 1 cdS)) (v:=x0.2.2.2.1)) (AP (Al (c:=cdS) (v:=x1.2.1)) Bc)) (.inl kr) hv1 ?_;refine AE (n:=14) AC 2 [(3,.b v1)] [some ⟨5,66,[AA.enc x0],false⟩] kr ?_;have hq:=OI hj3; subst hq;exact AJ rfl (Af [] trivial ⟨lv,trivial⟩)
  ·rw [CZ hc4] at hj3
   rw [hc4];refine AE (n:=14) AC 7 [(3,.b false)] [some ⟨5,66,[AA.enc x0],false⟩] kr ?_;have hq:=OI hj3; subst hq;exact AJ rfl (Af [] trivial ⟨lv,trivial⟩)
 refine AU ?_;have hq:=OI h; subst hq;exact ⟨⟨Fr 14 [(3,.b j3)],[]⟩,AQ,.inr rfl,[.b j3],kr,kr⟩
def Le:List AV->Option AV:=Db GB (fun a=>Du a.1 a.2.1) GP
theorem Lv:XOk 74 Le:=by
 refine AY Tryz.func74 (c:=H6) ?h2 ⟨Tryz.call74⟩ GB (fun a=>Du a.1 a.2.1) GP (fun a=>(by show 2<=14; decide)) ?h3 ?h4
 case h2=>kernel_rfl
 case h3=>intro b; kernel_rfl
 case h4=>exact fun a b h=>Jy a.1 a.2.1 b h
/- slices.IndexFunc[[]trestle/api.Clause,trestle/api.Clause] -/
noncomputable def Az:Code:=Br Tryz.f78
def AZ (x0:(List AD)) (x1:AD):Nat->Int->Option ((Unit) ⊕ (Int))
 | 0,_=>none
 | f + 1,c1 =>
  if (decide (c1 < (x0.length:Int)))=true then
  (idx x0 c1).bind fun v3 =>
  (Du v3 x1).bind fun v4 =>
  if v4=true then
  some (.inr c1)
  else
  AZ x0 x1 f (wr .i64 (c1 + 1))
  else
  some (.inl ())
def AT (x0:(List AD)) (x1:AD):Option (Int) :=
 (AZ x0 x1 100000 0).bind fun r7 =>
 match r7 with
 | (.inl w8) =>
  some (-1)
 | (.inr w9) =>
  some w9
def A0:Cs ((List AD)×AD×Unit):=(csC (cdL 5 AA) (csC (cdF 74 (csE (cdP AA)) (fun _=>rfl)) csN))
def A1 (r:Int):AV:=cdI.enc r
theorem Bb (x0:(List AD)) (x1:AD):∀ (f:Nat) (c1:Int) (r:(Unit) ⊕ (Int)),AZ x0 x1 f c1=some r->SemN E0 ⟨none,false⟩ (pc Az [1,0,1,0,0]) f ⟨Fr 19 [(0,.sl 5 (x0.map AA.enc)),(1,.fn 74 [] [.pe (AA.enc x1) 0]),(7,.j (x0.length:Int)),(8,.j c1)],[]⟩ (fun e s=>match r with
 | (.inl w)=>e=(.exit 0)/\Wk E0 s ⟨Fr 19 [],[]⟩
 | (.inr w)=>e = .ret/\Wk E0 s ⟨Fr 19 [(4,.j w)],[]⟩):=by
 intro f;induction f with
 | zero=>intro c1 r h; cases h
 | succ f ih0 =>
  intro c1 r h
  have ih:=fun (c1:Int)=>ih0 c1 r
  unfold AZ at h;refine D8 ?_
  let p1:Nat×AV:=(8,.j c1)
  let p2:Nat×AV:=(7,.j (x0.length:Int))
  let p3:Nat×AV:=(1,.fn 74 [] [.pe (AA.enc x1) 0])
  let p4:Nat×AV:=(0,.sl 5 (x0.map AA.enc))
  refine AI AC [p4,p3,p2,p1,(9,.b (decide (c1 < (x0.length:Int))))] [] ?_;refine AG ?_;refine AS (b:=(decide (c1 < (x0.length:Int)))) kr (fun hb2=>?_) (fun hb2=>?_)
  ·rw [if_pos hb2] at h
   refine Aa ?_;refine AG ?_;refine Bm ?_
   let p5:Nat×AV:=(5,.j c1)
   refine AI AC [p4,p3,p5,p2,p1] [] ?_;refine AG ?_;obtain ⟨v3,hv3,h⟩:=OB h;obtain ⟨v4,hv4,h⟩:=OB h;refine AL (s1:=⟨Fr 19 [p4,p3,p5,p2,p1,(16,.b v4)],[]⟩) ?_ ?_
   ·let p6:Nat×AV:=(11,.fn 74 [] [.pe (AA.enc x1) 0])
    refine AE (n:=19) AC 3 [p4,p3,p5,p2,p1,p6,(12,.sl 5 (x0.map AA.enc)),(13,.j c1)] [] kr ?_;refine Ak AC 0 rfl (ED (AB rfl) rfl (AK (a:= .sl 5 (x0.map AA.enc)) (b:= .j c1) kr kr (Hw (e:=AA.enc) (el:=66) (k:=5) (ki:= .i64) kr kr hv3))) ?_;refine AE (n:=19) AC 1 [p4,p3,p5,p2,p1,p6,(15,AA.enc v3)] [] kr ?_;refine Ai (caps:=[.pe (AA.enc x1) 0]) (xs:=[AA.enc v3]) (u:=(v3,x1,())) rfl rfl Lv rfl (AB rfl) kr kr (AP (Al (c:=AA) (v:=v3)) (AP (Al (c:=(cdP AA)) (v:=x1)) Bc)) (.inl kr) hv4 ?_;exact AJ rfl AQ
   refine AS (b:=v4) kr (fun hb5=>?_) (fun hb5=>?_)
   ·rw [if_pos hb5] at h
    refine AI AC [(4,.j c1)] [] ?_;refine AU ?_;have hq:=OI h; subst hq;exact ⟨rfl,AQ⟩
   ·rw [CZ hb5] at h
    refine Aa ?_
    let p7:Nat×AV:=(8,.j (wr .i64 (c1 + 1)))
    refine EK AC [p4,p3,p2,p7] [] ?_;exact CE (s1:=⟨Fr 19 [p4,p3,p2,p7],[]⟩) AQ (ih (wr .i64 (c1 + 1)) h)
  ·rw [CZ hb2] at h
   refine En ?_;have hq:=OI h; subst hq;exact ⟨rfl,AQ⟩
theorem Cg (x0:(List AD)) (x1:AD) (r:Int) (h:AT x0 x1=some r):Sem E0 ⟨none,false⟩ Az ⟨Fr 19 (BW 0 (A0.enc (x0,x1,()))),[]⟩ fun e s'=>(e = .normal\/e = .ret)/\∃ xs,EO E0.P s'.fr s'.hp Tryz.f78.results.toList=some xs/\ET xs=A1 r:=by
 unfold AT at h
 let p1:Nat×AV:=(1,.fn 74 [] [.pe (AA.enc x1) 0])
 let p2:Nat×AV:=(0,.sl 5 (x0.map AA.enc))
 refine A4 (Bq (s1:=⟨Fr 19 [p2,p1],[]⟩) AQ ?_);refine AI AC [p2,p1] [] ?_;refine AG ?_;refine AG ?_
 let p3:Nat×AV:=(8,.j 0)
 let p4:Nat×AV:=(7,.j (x0.length:Int))
 refine AL (s1:=⟨Fr 19 [p2,p1,p4,p3],[]⟩) ?_ ?_
 ·refine AE (n:=19) AC 1 [p2,p1,(6,.sl 5 (x0.map AA.enc))] [] kr ?_
  refine Ak AC 0 rfl (ED (AB rfl) rfl (Ij (a:= .sl 5 (x0.map AA.enc)) kr (Fp (el:=66) kr))) ?_;exact As AC
 refine Bm ?_;obtain ⟨r7,hr7,h⟩:=OB h;refine Eo (n:=100000) ?_;rcases r7 with w8 | w9
 ·try dsimp only at h
  refine Cu (CE (s1:=⟨Fr 19 [p2,p1,p4,p3],[]⟩) AQ (Bb x0 x1 _ 0 _ hr7)) ?_;refine AI AC [(4,.j (-1))] [] ?_;refine AU ?_;have hq:=OI h; subst hq;exact ⟨⟨Fr 19 [(4,.j (-1))],[]⟩,AQ,.inr rfl,[.j (-1)],kr,kr⟩
 ·try dsimp only at h
  refine Cu (CE (s1:=⟨Fr 19 [p2,p1,p4,p3],[]⟩) AQ (Bb x0 x1 _ 0 _ hr7)) ?_;have hq:=OI h; subst hq;exact ⟨⟨Fr 19 [(4,.j w9)],[]⟩,AQ,.inr rfl,[.j w9],kr,kr⟩
def Cn:List AV->Option AV:=Db A0 (fun a=>AT a.1 a.2.1) A1
theorem Co:XOk 78 Cn:=by
 refine AY Tryz.func78 (c:=Az) ?h2 ⟨Tryz.call78⟩ A0 (fun a=>AT a.1 a.2.1) A1 (fun a=>(by show 2<=19; decide)) ?h3 ?h4
 case h2=>kernel_rfl
 case h3=>intro b; kernel_rfl
 case h4=>exact fun a b h=>Cg a.1 a.2.1 b h
/- slices.ContainsFunc[[]trestle/api.Clause,trestle/api.Clause] -/
noncomputable def BZ:Code:=Br Tryz.f46
def AM (x0:(List AD)) (x1:AD):Option (Bool) :=
 (AT x0 x1).bind fun v1 =>
 some (decide (v1≥0))
def Aw:Cs ((List AD)×AD×Unit):=(csC (cdL 5 AA) (csC (cdF 74 (csE (cdP AA)) (fun _=>rfl)) csN))
def Ax (r:Bool):AV:=cdB.enc r
theorem CN (x0:(List AD)) (x1:AD) (r:Bool) (h:AM x0 x1=some r):Sem E0 ⟨none,false⟩ BZ ⟨Fr 9 (BW 0 (Aw.enc (x0,x1,()))),[]⟩ fun e s'=>(e = .normal\/e = .ret)/\∃ xs,EO E0.P s'.fr s'.hp Tryz.f46.results.toList=some xs/\ET xs=Ax r:=by
 unfold AM at h
 let p1:Nat×AV:=(1,.fn 74 [] [.pe (AA.enc x1) 0])
 let p2:Nat×AV:=(0,.sl 5 (x0.map AA.enc))
 refine A4 (Bq (s1:=⟨Fr 9 [p2,p1],[]⟩) AQ ?_);refine AI AC [p2,p1] [] ?_;refine AG ?_;obtain ⟨v1,hv1,h⟩:=OB h
 let p3:Nat×AV:=(4,.b (decide (v1≥0)))
 refine AL (s1:=⟨Fr 9 [p3],[]⟩) ?_ ?_
 ·refine AE (n:=9) AC 2 [(5,.sl 5 (x0.map AA.enc)),(6,.fn 74 [] [.pe (AA.enc x1) 0])] [] kr ?_
  refine Ai (caps:=[]) (xs:=[.sl 5 (x0.map AA.enc),.fn 74 [] [.pe (AA.enc x1) 0]]) (u:=(x0,x1,())) rfl rfl Co rfl (AB rfl) kr kr (AP (Al (c:=(cdL 5 AA)) (v:=x0)) (AP (Sm.fn (Mn (Al (c:=(cdP AA)) (v:=x1)))) Bc)) (.inl kr) hv1 ?_;exact As AC
 refine AU ?_;have hq:=OI h; subst hq;exact ⟨⟨Fr 9 [p3],[]⟩,AQ,.inr rfl,[.b (decide (v1≥0))],kr,kr⟩
def Ca:List AV->Option AV:=Db Aw (fun a=>AM a.1 a.2.1) Ax
theorem Cb:XOk 46 Ca:=by
 refine AY Tryz.func46 (c:=BZ) ?h2 ⟨Tryz.call46⟩ Aw (fun a=>AM a.1 a.2.1) Ax (fun a=>(by show 2<=9; decide)) ?h3 ?h4
 case h2=>kernel_rfl
 case h3=>intro b; kernel_rfl
 case h4=>exact fun a b h=>CN a.1 a.2.1 b h
/- trestle/court.check -/
noncomputable def HH:Code:=Br Tryz.f36
def Cz (x0:(List AD)) (x1:AD):Nat->Int->Option ((Unit) ⊕ (Int))
 | 0,_=>none
 | f + 1,c9 =>
  if (decide (c9 < (x1.2.2.2.1.length:Int)))=true then
  (idx x1.2.2.2.1 c9).bind fun v11 =>
  if (C8 0 c9 x1.2.2.2.1.length)=true then
  (Ad ((x1.2.2.2.1.take c9.toNat).drop (0:Int).toNat) v11).bind fun v13 =>
  if v13=true then
  some (.inr 5)
  else
  Cz x0 x1 f (wr .i64 (c9 + 1))
  else none
  else
  some (.inl ())
def Ec (x0:(List AD)) (x1:AD):Option (Int) :=
 (BJ x1).bind fun v1 =>
 if (!v1)=true then
 some 30
 else
 (if (!(x1.2.1==[]))=true then (Ei x1.2.1).bind fun v3 =>
 if (!v3)=true then some true else (AN x1.2.2.2.1).bind fun v4 =>
 some v4 else (AN x1.2.2.2.1).bind fun v5 =>
 some v5).bind fun j7 =>
 if j7=true then
 some 4
 else
 (Cz x0 x1 100000 0).bind fun r16 =>
 match r16 with
 | (.inl w17) =>
  (if (x1.2.1==[])=true then some true else (AM x0 x1).bind fun v18 =>
  some v18).bind fun j20 =>
  if j20=true then
  some 0
  else
  some 31
 | (.inr w23) =>
  some w23
def HJ:Cs ((List AD)×AD×Unit):=(csC (cdL 5 AA) (csC AA csN))
def HM (r:Int):AV:=cdI.enc r
theorem HY (x0:(List AD)) (x1:AD):∀ (f:Nat) (c9:Int) (r:(Unit) ⊕ (Int)),Cz x0 x1 f c9=some r->SemN E0 ⟨none,false⟩ (pc HH [1,1,1,0,1,0,0]) f ⟨Fr 47 [(0,.sl 5 (x0.map AA.enc)),(3,.pt 0 0 0),(25,.sl 1 (x1.2.2.2.1.map cdS.enc)),(26,.j (x1.2.2.2.1.length:Int)),(27,.j c9)],[some ⟨5,66,[AA.enc x1],false⟩]⟩ (fun e s=>match r with
 | (.inl w)=>e=(.exit 0)/\Wk E0 s ⟨Fr 47 [(0,.sl 5 (x0.map AA.enc)),(3,.pt 0 0 0)],[some ⟨5,66,[AA.enc x1],false⟩]⟩
 | (.inr w)=>e = .ret/\Wk E0 s ⟨Fr 47 [(4,.j w)],[]⟩):=by
 intro f;induction f with
 | zero=>intro c9 r h; cases h
 | succ f ih0 =>
  intro c9 r h
  have ih:=fun (c9:Int)=>ih0 c9 r
  unfold Cz at h;refine D8 ?_
  let p1:Option Blk:=some ⟨5,66,[AA.enc x1],false⟩
  let p2:Nat×AV:=(27,.j c9)
  let p3:Nat×AV:=(26,.j (x1.2.2.2.1.length:Int))
  let p4:Nat×AV:=(25,.sl 1 (x1.2.2.2.1.map cdS.enc))
  let p5:Nat×AV:=(3,.pt 0 0 0)
  let p6:Nat×AV:=(0,.sl 5 (x0.map AA.enc))
  refine AI AC [p6,p5,p4,p3,p2,(28,.b (decide (c9 < (x1.2.2.2.1.length:Int))))] [p1] ?_;refine AG ?_;refine AS (b:=(decide (c9 < (x1.2.2.2.1.length:Int)))) kr (fun hb10=>?_) (fun hb10=>?_)
  ·rw [if_pos hb10] at h
   refine Aa ?_;refine AG ?_;refine Bm ?_;refine AG ?_;obtain ⟨v11,hv11,h⟩:=OB h;refine AL (s1:=⟨Fr 47 [p6,p5,(5,.j c9),(6,.st v11),p4,p3,p2],[p1]⟩) ?_ ?_
   ·refine AE (n:=47) AC 1 [p6,p5,p4,p3,p2,(29,.j c9)] [p1] kr ?_
    refine Ak AC 0 rfl (ED (AB rfl) rfl (AK (a:= .sl 1 (x1.2.2.2.1.map cdS.enc)) (b:= .j c9) kr kr (Hw (e:=cdS.enc) (el:=9) (k:=1) (ki:= .i64) kr kr hv11))) ?_;exact As AC
   refine AG ?_;by_cases hk12:(C8 0 c9 x1.2.2.2.1.length)=true
   case neg=>rw [if_neg hk12] at h; cases h
   rw [if_pos hk12] at h;obtain ⟨v13,hv13,h⟩:=OB h;refine AL (s1:=⟨Fr 47 [p6,p5,p4,p3,p2,(37,.b v13)],[p1]⟩) ?_ ?_
   ·refine AE (n:=47) AC 3 [p6,p5,(6,.st v11),p4,p3,p2,(33,.sl 1 (x1.2.2.2.1.map cdS.enc)),(34,.j c9)] [p1] kr ?_
    refine Ak AC 0 rfl (ED (AB rfl) rfl (EE (a:= .sl 1 (x1.2.2.2.1.map cdS.enc)) (l:=none) (u:=(some (.j c9))) (m:=none) kr kr kr rfl (Jl (xs:=x1.2.2.2.1) (e:=cdS.enc) (k:=1) (el:=9) (lo:=0) (hi:=c9) kr kr rfl (Fq (IX hk12)) hk12))) ?_;refine AE (n:=47) AC 1 [p6,p5,p4,p3,p2,(35,.sl 1 (((x1.2.2.2.1.take c9.toNat).drop (0:Int).toNat).map cdS.enc)),(36,.st v11)] [p1] kr ?_;refine Ai (caps:=[]) (xs:=[.sl 1 (((x1.2.2.2.1.take c9.toNat).drop (0:Int).toNat).map cdS.enc),.st v11]) (u:=(((x1.2.2.2.1.take c9.toNat).drop (0:Int).toNat),v11,())) rfl rfl B7 rfl (AB rfl) kr kr (AP (Al (c:=(cdL 1 cdS)) (v:=((x1.2.2.2.1.take c9.toNat).drop (0:Int).toNat))) (AP (Al (c:=cdS) (v:=v11)) Bc)) (.inl kr) hv13 ?_;exact AJ rfl (Af [0] ⟨⟨_,rfl,CJ⟩,trivial⟩ ⟨lv,lv,lv,lv,lv,lv,trivial⟩)
   refine AS (b:=v13) kr (fun hb14=>?_) (fun hb14=>?_)
   ·rw [if_pos hb14] at h
    refine AG ?_;refine AL (s1:=⟨Fr 47 [(4,.j 5)],[]⟩) ?_ ?_
    ·refine AE (n:=47) AC 1 [(4,.j 5)] [p1] kr ?_
     exact AJ rfl (Af [] trivial ⟨lv,trivial⟩)
    refine AU ?_;have hq:=OI h; subst hq;exact ⟨rfl,AQ⟩
   ·rw [CZ hb14] at h
    refine Aa ?_
    let p7:Nat×AV:=(27,.j (wr .i64 (c9 + 1)))
    refine EK AC [p6,p5,p4,p3,p7] [p1] ?_;exact CE (s1:=⟨Fr 47 [p6,p5,p4,p3,p7],[p1]⟩) (Af [0] ⟨⟨_,rfl,CJ⟩,trivial⟩ ⟨lv,lv,lv,lv,lv,trivial⟩) (ih (wr .i64 (c9 + 1)) h)
  ·rw [CZ hb10] at h
   refine En ?_;have hq:=OI h; subst hq;exact ⟨rfl,(Af [0] ⟨⟨_,rfl,CJ⟩,trivial⟩ ⟨lv,lv,trivial⟩)⟩
theorem LD (x0:(List AD)) (x1:AD) (r:Int) (h:Ec x0 x1=some r):Sem E0 ⟨none,false⟩ HH ⟨Fr 47 (BW 0 (HJ.enc (x0,x1,()))),[]⟩ fun e s'=>(e = .normal\/e = .ret)/\∃ xs,EO E0.P s'.fr s'.hp Tryz.f36.results.toList=some xs/\ET xs=HM r:=by
 unfold Ec at h;refine A4 (Bq (s1:=⟨Fr 47 [(0,.sl 5 (x0.map AA.enc)),(1,AA.enc x1)],[]⟩) AQ ?_);refine AI AC [(0,.sl 5 (x0.map AA.enc)),(3,.pt 0 0 0)] [some ⟨5,66,[AA.enc x1],false⟩] ?_;refine AG ?_;refine AG ?_;obtain ⟨v1,hv1,h⟩:=OB h;refine AL (s1:=⟨Fr 47 [(0,.sl 5 (x0.map AA.enc)),(3,.pt 0 0 0),(9,.b (!v1))],[some ⟨5,66,[AA.enc x1],false⟩]⟩) ?_ ?_
 ·refine AE (n:=47) AC 1 [(0,.sl 5 (x0.map AA.enc)),(3,.pt 0 0 0),(7,AA.enc x1)] [some ⟨5,66,[AA.enc x1],false⟩] kr ?_
  refine Ai (caps:=[]) (xs:=[AA.enc x1]) (u:=(x1,())) rfl rfl MK rfl (AB rfl) kr kr (AP (Al (c:=AA) (v:=x1)) Bc) (.inl kr) hv1 ?_;exact As AC
 refine AS (b:=(!v1)) kr (fun hb2=>?_) (fun hb2=>?_)
 ·rw [if_pos hb2] at h
  refine AG ?_;refine AL (s1:=⟨Fr 47 [(4,.j 30)],[]⟩) ?_ ?_
  ·refine AE (n:=47) AC 1 [(4,.j 30)] [some ⟨5,66,[AA.enc x1],false⟩] kr ?_
   exact AJ rfl (Af [] trivial ⟨lv,trivial⟩)
  refine AU ?_;have hq:=OI h; subst hq;exact ⟨⟨Fr 47 [(4,.j 30)],[]⟩,AQ,.inr rfl,[.j 30],kr,kr⟩
 ·rw [CZ hb2] at h
  refine Aa ?_;refine AG ?_;refine AG ?_;obtain ⟨j7,hj7,h⟩:=OB h;refine AL (s1:=⟨Fr 47 [(0,.sl 5 (x0.map AA.enc)),(3,.pt 0 0 0),(23,.b j7)],[some ⟨5,66,[AA.enc x1],false⟩]⟩) ?_ ?_
  ·refine AE (n:=47) AC 4 [(0,.sl 5 (x0.map AA.enc)),(3,.pt 0 0 0),(13,.b (!(x1.2.1==[])))] [some ⟨5,66,[AA.enc x1],false⟩] kr ?_
   rcases BE (!(x1.2.1==[])) with hc24 | hc24
   ·rw [if_pos hc24] at hj7
    rw [hc24];refine AE (n:=47) AC 2 [(0,.sl 5 (x0.map AA.enc)),(3,.pt 0 0 0),(13,.b true),(15,.st x1.2.1)] [some ⟨5,66,[AA.enc x1],false⟩] kr ?_;obtain ⟨v3,hv3,hj7⟩:=OB hj7;refine Ai (caps:=[]) (xs:=[.st x1.2.1]) (u:=(x1.2.1,())) rfl rfl Ka rfl kr kr kr (AP (Al (c:=cdS) (v:=x1.2.1)) Bc) (.inl kr) hv3 ?_;refine AE (n:=47) AC 3 [(0,.sl 5 (x0.map AA.enc)),(3,.pt 0 0 0),(19,.b (!v3))] [some ⟨5,66,[AA.enc x1],false⟩] kr ?_;rcases BE (!v3) with hc25 | hc25
    ·rw [if_pos hc25] at hj7
     rw [hc25];refine AE (n:=47) AC 4 [(0,.sl 5 (x0.map AA.enc)),(3,.pt 0 0 0),(23,.b true)] [some ⟨5,66,[AA.enc x1],false⟩] kr ?_;have hq:=OI hj7; subst hq;exact AJ rfl (Af [0] ⟨⟨_,rfl,CJ⟩,trivial⟩ ⟨lv,lv,lv,trivial⟩)
    ·rw [CZ hc25] at hj7
     rw [hc25];refine AE (n:=47) AC 2 [(0,.sl 5 (x0.map AA.enc)),(3,.pt 0 0 0),(19,.b false),(21,.sl 1 (x1.2.2.2.1.map cdS.enc))] [some ⟨5,66,[AA.enc x1],false⟩] kr ?_;obtain ⟨v4,hv4,hj7⟩:=OB hj7;refine Ai (caps:=[]) (xs:=[.sl 1 (x1.2.2.2.1.map cdS.enc),.fn 72 [] []]) (u:=(x1.2.2.2.1,(),())) rfl rfl B5 rfl kr kr kr (AP (Al (c:=(cdL 1 cdS)) (v:=x1.2.2.2.1)) (AP (Sm.fn Bc) Bc)) (.inl kr) hv4 ?_;refine AE (n:=47) AC 1 [(0,.sl 5 (x0.map AA.enc)),(3,.pt 0 0 0),(23,.b v4)] [some ⟨5,66,[AA.enc x1],false⟩] kr ?_;have hq:=OI hj7; subst hq;exact AJ rfl (Af [0] ⟨⟨_,rfl,CJ⟩,trivial⟩ ⟨lv,lv,lv,trivial⟩)
   ·rw [CZ hc24] at hj7
    rw [hc24];refine AE (n:=47) AC 8 [(0,.sl 5 (x0.map AA.enc)),(3,.pt 0 0 0),(19,.b false),(21,.sl 1 (x1.2.2.2.1.map cdS.enc))] [some ⟨5,66,[AA.enc x1],false⟩] kr ?_;obtain ⟨v5,hv5,hj7⟩:=OB hj7;refine Ai (caps:=[]) (xs:=[.sl 1 (x1.2.2.2.1.map cdS.enc),.fn 72 [] []]) (u:=(x1.2.2.2.1,(),())) rfl rfl B5 rfl kr kr kr (AP (Al (c:=(cdL 1 cdS)) (v:=x1.2.2.2.1)) (AP (Sm.fn Bc) Bc)) (.inl kr) hv5 ?_;refine AE (n:=47) AC 1 [(0,.sl 5 (x0.map AA.enc)),(3,.pt 0 0 0),(23,.b v5)] [some ⟨5,66,[AA.enc x1],false⟩] kr ?_;have hq:=OI hj7; subst hq;exact AJ rfl (Af [0] ⟨⟨_,rfl,CJ⟩,trivial⟩ ⟨lv,lv,lv,trivial⟩)
  refine AS (b:=j7) kr (fun hb8=>?_) (fun hb8=>?_)
  ·rw [if_pos hb8] at h
   refine AG ?_;refine AL (s1:=⟨Fr 47 [(4,.j 4)],[]⟩) ?_ ?_
   ·refine AE (n:=47) AC 1 [(4,.j 4)] [some ⟨5,66,[AA.enc x1],false⟩] kr ?_
    exact AJ rfl (Af [] trivial ⟨lv,trivial⟩)
   refine AU ?_;have hq:=OI h; subst hq;exact ⟨⟨Fr 47 [(4,.j 4)],[]⟩,AQ,.inr rfl,[.j 4],kr,kr⟩
  ·rw [CZ hb8] at h
   refine Aa ?_;refine AG ?_;refine AG ?_;refine AL (s1:=⟨Fr 47 [(0,.sl 5 (x0.map AA.enc)),(3,.pt 0 0 0),(25,.sl 1 (x1.2.2.2.1.map cdS.enc)),(26,.j (x1.2.2.2.1.length:Int)),(27,.j 0)],[some ⟨5,66,[AA.enc x1],false⟩]⟩) ?_ ?_
   ·refine AE (n:=47) AC 2 [(0,.sl 5 (x0.map AA.enc)),(3,.pt 0 0 0),(25,.sl 1 (x1.2.2.2.1.map cdS.enc))] [some ⟨5,66,[AA.enc x1],false⟩] kr ?_
    refine Ak AC 0 rfl (ED (AB rfl) rfl (Ij (a:= .sl 1 (x1.2.2.2.1.map cdS.enc)) kr (Fp (el:=9) kr))) ?_;exact As AC
   refine Bm ?_;obtain ⟨r16,hr16,h⟩:=OB h;refine Eo (n:=100000) ?_;rcases r16 with w17 | w23
   ·try dsimp only at h
    refine Cu (CE (s1:=⟨Fr 47 [(0,.sl 5 (x0.map AA.enc)),(3,.pt 0 0 0),(25,.sl 1 (x1.2.2.2.1.map cdS.enc)),(26,.j (x1.2.2.2.1.length:Int)),(27,.j 0)],[some ⟨5,66,[AA.enc x1],false⟩]⟩) (Af [0] ⟨⟨_,rfl,CJ⟩,trivial⟩ ⟨lv,lv,lv,lv,lv,trivial⟩) (HY x0 x1 _ 0 _ hr16)) ?_;refine AG ?_;refine AG ?_;obtain ⟨j20,hj20,h⟩:=OB h;refine AL (s1:=⟨Fr 47 [(46,.b j20)],[]⟩) ?_ ?_
    ·refine AE (n:=47) AC 4 [(0,.sl 5 (x0.map AA.enc)),(3,.pt 0 0 0),(42,.b (x1.2.1==[]))] [some ⟨5,66,[AA.enc x1],false⟩] kr ?_
     rcases BE (x1.2.1==[]) with hc22 | hc22
     ·rw [if_pos hc22] at hj20
      rw [hc22];refine AE (n:=47) AC 4 [(46,.b true)] [some ⟨5,66,[AA.enc x1],false⟩] kr ?_;have hq:=OI hj20; subst hq;exact AJ rfl (Af [] trivial ⟨lv,trivial⟩)
     ·rw [CZ hc22] at hj20
      rw [hc22];refine AE (n:=47) AC 2 [(42,.b false),(43,.sl 5 (x0.map AA.enc)),(44,.fn 74 [] [.pt 0 0 0])] [some ⟨5,66,[AA.enc x1],false⟩] kr ?_;obtain ⟨v18,hv18,hj20⟩:=OB hj20;refine Ai (caps:=[]) (xs:=[.sl 5 (x0.map AA.enc),.fn 74 [] [.pt 0 0 0]]) (u:=(x0,x1,())) rfl rfl Cb rfl kr kr kr (AP (Al (c:=(cdL 5 AA)) (v:=x0)) (AP (Sm.fn (Mn (Sm.pt (k:=5) (t:=66) (fz:=false) (y:=(AA.enc x1)) kr (Al (c:=AA) (v:=x1))))) Bc)) (.inl kr) hv18 ?_;refine AE (n:=47) AC 1 [(46,.b v18)] [some ⟨5,66,[AA.enc x1],false⟩] kr ?_;have hq:=OI hj20; subst hq;exact AJ rfl (Af [] trivial ⟨lv,trivial⟩)
    refine AS (b:=j20) kr (fun hb21=>?_) (fun hb21=>?_)
    ·rw [if_pos hb21] at h
     refine AI AC [(4,.j 0)] [] ?_;refine AU ?_;have hq:=OI h; subst hq;exact ⟨⟨Fr 47 [(4,.j 0)],[]⟩,AQ,.inr rfl,[.j 0],kr,kr⟩
    ·rw [CZ hb21] at h
     refine Aa ?_;refine AI AC [(4,.j 31)] [] ?_;refine AU ?_;have hq:=OI h; subst hq;exact ⟨⟨Fr 47 [(4,.j 31)],[]⟩,AQ,.inr rfl,[.j 31],kr,kr⟩
   ·try dsimp only at h
    refine Cu (CE (s1:=⟨Fr 47 [(0,.sl 5 (x0.map AA.enc)),(3,.pt 0 0 0),(25,.sl 1 (x1.2.2.2.1.map cdS.enc)),(26,.j (x1.2.2.2.1.length:Int)),(27,.j 0)],[some ⟨5,66,[AA.enc x1],false⟩]⟩) (Af [0] ⟨⟨_,rfl,CJ⟩,trivial⟩ ⟨lv,lv,lv,lv,lv,trivial⟩) (HY x0 x1 _ 0 _ hr16)) ?_;have hq:=OI h; subst hq;exact ⟨⟨Fr 47 [(4,.j w23)],[]⟩,AQ,.inr rfl,[.j w23],kr,kr⟩
def M7:List AV->Option AV:=Db HJ (fun a=>Ec a.1 a.2.1) HM
theorem NH:XOk 36 M7:=by
 refine AY Tryz.func36 (c:=HH) ?h2 ⟨Tryz.call36⟩ HJ (fun a=>Ec a.1 a.2.1) HM (fun a=>(by show 2<=47; decide)) ?h3 ?h4
 case h2=>kernel_rfl
 case h3=>intro b; kernel_rfl
 case h4=>exact fun a b h=>LD a.1 a.2.1 b h
/- trestle/court.Check -/
noncomputable def HG:Code:=Br Tryz.f27
def Cy (x0:(List AD)):Nat->Int->Option ((Unit) ⊕ (Int×Int))
 | 0,_=>none
 | f + 1,c2 =>
  if (decide (c2 < (x0.length:Int)))=true then
  (idx x0 c2).bind fun v4 =>
  if (C8 0 c2 x0.length)=true then
  (Ec ((x0.take c2.toNat).drop (0:Int).toNat) v4).bind fun v6 =>
  if (v6 != 0)=true then
  some (.inr (c2,v6))
  else
  Cy x0 f (wr .i64 (c2 + 1))
  else none
  else
  some (.inl ())
def Eb (x0:(List AD)):Option (Int×Int) :=
 if (decide ((x0.length:Int) > 32))=true then
 some (0,7)
 else
 (Cy x0 100000 0).bind fun r10 =>
 match r10 with
 | (.inl w11) =>
  some (0,0)
 | (.inr w12) =>
  some (w12.1,w12.2)
def HI:Cs ((List AD)×Unit):=(csC (cdL 5 AA) csN)
def HL (r:Int×Int):AV:= .tp [cdI.enc r.1,cdI.enc r.2]
theorem HX (x0:(List AD)):∀ (f:Nat) (c2:Int) (r:(Unit) ⊕ (Int×Int)),Cy x0 f c2=some r->SemN E0 ⟨none,false⟩ (pc HG [1,1,0,1,0,0]) f ⟨Fr 27 [(0,.sl 5 (x0.map AA.enc)),(10,.sl 5 (x0.map AA.enc)),(11,.j (x0.length:Int)),(12,.j c2)],[]⟩ (fun e s=>match r with
 | (.inl w)=>e=(.exit 0)/\Wk E0 s ⟨Fr 27 [],[]⟩
 | (.inr w)=>e = .ret/\Wk E0 s ⟨Fr 27 [(2,.j w.1),(3,.j w.2)],[]⟩):=by
 intro f;induction f with
 | zero=>intro c2 r h; cases h
 | succ f ih0 =>
  intro c2 r h
  have ih:=fun (c2:Int)=>ih0 c2 r
  unfold Cy at h;refine D8 ?_
  let p1:Nat×AV:=(12,.j c2)
  let p2:Nat×AV:=(11,.j (x0.length:Int))
  let p3:Nat×AV:=(10,.sl 5 (x0.map AA.enc))
  let p4:Nat×AV:=(0,.sl 5 (x0.map AA.enc))
  refine AI AC [p4,p3,p2,p1,(13,.b (decide (c2 < (x0.length:Int))))] [] ?_;refine AG ?_;refine AS (b:=(decide (c2 < (x0.length:Int)))) kr (fun hb3=>?_) (fun hb3=>?_)
  ·rw [if_pos hb3] at h
   refine Aa ?_;refine AG ?_;refine Bm ?_;refine AG ?_;obtain ⟨v4,hv4,h⟩:=OB h
   let p5:Option Blk:=some ⟨5,66,[AA.enc v4],false⟩
   let p6:Nat×AV:=(4,.j c2)
   refine AL (s1:=⟨Fr 27 [p4,p6,(5,.pt 0 0 0),p3,p2,p1],[p5]⟩) ?_ ?_
   ·refine AE (n:=27) AC 1 [p4,p3,p2,p1,(14,.j c2)] [] kr ?_
    refine Ak AC 0 rfl (ED (AB rfl) rfl (AK (a:= .sl 5 (x0.map AA.enc)) (b:= .j c2) kr kr (Hw (e:=AA.enc) (el:=66) (k:=5) (ki:= .i64) kr kr hv4))) ?_;exact As AC
   refine AG ?_;by_cases hk5:(C8 0 c2 x0.length)=true
   case neg=>rw [if_neg hk5] at h; cases h
   rw [if_pos hk5] at h;obtain ⟨v6,hv6,h⟩:=OB h
   let p7:Nat×AV:=(6,.j v6)
   refine Ep AC (s1:=⟨Fr 27 [p4,p6,p7,p3,p2,p1],[]⟩) kr ?_ ?_
   ·refine BY (n:=27) AC 2 [p4,p6,(5,.pt 0 0 0),p3,p2,p1,(17,.sl 5 (x0.map AA.enc)),(18,.j c2)] [p5] kr kr ?_
    refine RunDS.one AC rfl kr (VL kr (AB rfl) rfl (EE (a:= .sl 5 (x0.map AA.enc)) (l:=none) (u:=(some (.j c2))) (m:=none) kr kr kr rfl (Jl (xs:=x0) (e:=AA.enc) (k:=5) (el:=66) (lo:=0) (hi:=c2) kr kr rfl (Fq (IX hk5)) hk5)) kr) ?_;refine BY (n:=27) AC 1 [p4,p6,p3,p2,p1,(19,.sl 5 (((x0.take c2.toNat).drop (0:Int).toNat).map AA.enc)),(20,AA.enc v4)] [p5] kr kr ?_;refine Bt (caps:=[]) (xs:=[.sl 5 (((x0.take c2.toNat).drop (0:Int).toNat).map AA.enc),AA.enc v4]) (u:=(((x0.take c2.toNat).drop (0:Int).toNat),v4,())) rfl rfl NH rfl (AB rfl) kr kr (AP (Al (c:=(cdL 5 AA)) (v:=((x0.take c2.toNat).drop (0:Int).toNat))) (AP (Al (c:=AA) (v:=v4)) Bc)) kr hv6 ?_;refine BY (n:=27) AC 1 [p4,p6,p7,p3,p2,p1] [p5] kr kr ?_;exact RunDS.done rfl (Af [] trivial ⟨lv,lv,lv,lv,lv,lv,trivial⟩)
   refine AI AC [p4,p6,p7,p3,p2,p1,(23,.b (v6 != 0))] [] ?_;refine AS (b:=(v6 != 0)) kr (fun hb7=>?_) (fun hb7=>?_)
   ·rw [if_pos hb7] at h
    refine AI AC [(2,.j c2),(3,.j v6)] [] ?_;refine AU ?_;have hq:=OI h; subst hq;exact ⟨rfl,AQ⟩
   ·rw [CZ hb7] at h
    refine Aa ?_
    let p8:Nat×AV:=(12,.j (wr .i64 (c2 + 1)))
    refine EK AC [p4,p3,p2,p8] [] ?_;exact CE (s1:=⟨Fr 27 [p4,p3,p2,p8],[]⟩) AQ (ih (wr .i64 (c2 + 1)) h)
  ·rw [CZ hb3] at h
   refine En ?_;have hq:=OI h; subst hq;exact ⟨rfl,AQ⟩
theorem LC (x0:(List AD)) (r:Int×Int) (h:Eb x0=some r):Sem E0 ⟨none,false⟩ HG ⟨Fr 27 (BW 0 (HI.enc (x0,()))),[]⟩ fun e s'=>(e = .normal\/e = .ret)/\∃ xs,EO E0.P s'.fr s'.hp Tryz.f27.results.toList=some xs/\ET xs=HL r:=by
 unfold Eb at h
 let p1:Nat×AV:=(0,.sl 5 (x0.map AA.enc))
 refine A4 (Bq (s1:=⟨Fr 27 [p1],[]⟩) AQ ?_);refine AI AC [p1] [] ?_;refine AG ?_;refine AG ?_;refine AL (s1:=⟨Fr 27 [p1,(9,.b (decide ((x0.length:Int) > 32)))],[]⟩) ?_ ?_
 ·refine AE (n:=27) AC 1 [p1,(7,.sl 5 (x0.map AA.enc))] [] kr ?_
  refine Ak AC 0 rfl (ED (AB rfl) rfl (Ij (a:= .sl 5 (x0.map AA.enc)) kr (Fp (el:=66) kr))) ?_;exact As AC
 refine AS (b:=(decide ((x0.length:Int) > 32))) kr (fun hb1=>?_) (fun hb1=>?_)
 ·rw [if_pos hb1] at h
  refine AI AC [(2,.j 0),(3,.j 7)] [] ?_;refine AU ?_;have hq:=OI h; subst hq;exact ⟨⟨Fr 27 [(2,.j 0),(3,.j 7)],[]⟩,AQ,.inr rfl,[.j 0,.j 7],kr,kr⟩
 ·rw [CZ hb1] at h
  refine Aa ?_;refine AG ?_;refine AG ?_
  let p2:Nat×AV:=(12,.j 0)
  let p3:Nat×AV:=(11,.j (x0.length:Int))
  let p4:Nat×AV:=(10,.sl 5 (x0.map AA.enc))
  refine AL (s1:=⟨Fr 27 [p1,p4,p3,p2],[]⟩) ?_ ?_
  ·refine AE (n:=27) AC 1 [p1,p4] [] kr ?_
   refine Ak AC 0 rfl (ED (AB rfl) rfl (Ij (a:= .sl 5 (x0.map AA.enc)) kr (Fp (el:=66) kr))) ?_;exact As AC
  refine Bm ?_;obtain ⟨r10,hr10,h⟩:=OB h;refine Eo (n:=100000) ?_;rcases r10 with w11 | w12
  ·try dsimp only at h
   refine Cu (CE (s1:=⟨Fr 27 [p1,p4,p3,p2],[]⟩) AQ (HX x0 _ 0 _ hr10)) ?_;refine AI AC [(2,.j 0),(3,.j 0)] [] ?_;refine AU ?_;have hq:=OI h; subst hq;exact ⟨⟨Fr 27 [(2,.j 0),(3,.j 0)],[]⟩,AQ,.inr rfl,[.j 0,.j 0],kr,kr⟩
  ·try dsimp only at h
   refine Cu (CE (s1:=⟨Fr 27 [p1,p4,p3,p2],[]⟩) AQ (HX x0 _ 0 _ hr10)) ?_;have hq:=OI h; subst hq;exact ⟨⟨Fr 27 [(2,.j w12.1),(3,.j w12.2)],[]⟩,AQ,.inr rfl,[.j w12.1,.j w12.2],kr,kr⟩
def M6:List AV->Option AV:=Db HI (fun a=>Eb a.1) HL
theorem NG:XOk 27 M6:=by
 refine AY Tryz.func27 (c:=HG) ?h2 ⟨Tryz.call27⟩ HI (fun a=>Eb a.1) HL (fun a=>(by show 1<=27; decide)) ?h3 ?h4
 case h2=>kernel_rfl
 case h3=>intro b; kernel_rfl
 case h4=>exact fun a b h=>LC a.1 b h
/- trestle/court.orders -/
noncomputable def Gi:Code:=Br Tryz.f43
def Cc (x0:(List AD)):Nat->(List AD)->Int->Option (((List AD)))
 | 0,_,_=>none
 | f + 1,c3,c4 =>
  if (decide (c4 < (x0.length:Int)))=true then
  (idx x0 c4).bind fun v6 =>
  (Dv v6).bind fun v7 =>
  if (Hh 8 (c3.length + 1))=true then
  Cc x0 f (c3++[v7]) (wr .i64 (c4 + 1))
  else none
  else
  some c3
def Ej (x0:(List AD)):Option ((List AD)×Bool) :=
 (Eb x0).bind fun v1 =>
 if (v1.2 != 0)=true then
 some ([],false)
 else
 (Cc x0 100000 [] 0).bind fun r10 =>
 some (r10,true)
noncomputable def Gq:Cs ((List AD)×Unit):=(csC (cdL 5 AA) csN)
noncomputable def Gu (r:(List AD)×Bool):AV:= .tp [(cdL 1 C1).enc r.1,cdB.enc r.2]
theorem JY (x0:(List AD)):∀ (f:Nat) (c3:(List AD)) (c4:Int) (r:((List AD))),Cc x0 f c3 c4=some r->SemN E0 ⟨none,false⟩ (pc Gi [1,1,1,0,1,0,0]) f ⟨Fr 29 [(6,hd 0 (c3.map C1.enc)),(16,.sl 5 (x0.map AA.enc)),(17,.j (x0.length:Int)),(18,.j c4)],[mk 1 100 (c3.map C1.enc)]⟩ (fun e s=>e=(.exit 0)/\Wk E0 s ⟨Fr 29 [(6,hd 0 (r.map C1.enc))],[mk 1 100 (r.map C1.enc)]⟩):=by
 intro f;induction f with
 | zero=>intro c3 c4 r h; cases h
 | succ f ih0 =>
  intro c3 c4 r h
  have ih:=fun (c3:(List AD)) (c4:Int)=>ih0 c3 c4 r
  unfold Cc at h;refine D8 ?_
  let p1:Option Blk:=mk 1 100 (c3.map C1.enc)
  let p2:Nat×AV:=(18,.j c4)
  let p3:Nat×AV:=(17,.j (x0.length:Int))
  let p4:Nat×AV:=(16,.sl 5 (x0.map AA.enc))
  refine AI AC [(6,hd 0 (c3.map C1.enc)),p4,p3,p2,(19,.b (decide (c4 < (x0.length:Int))))] [p1] ?_;refine AG ?_;refine AS (b:=(decide (c4 < (x0.length:Int)))) kr (fun hb5=>?_) (fun hb5=>?_)
  ·rw [if_pos hb5] at h
   refine Aa ?_;refine AG ?_;refine Bm ?_;refine AG ?_;obtain ⟨v6,hv6,h⟩:=OB h
   let p5:Option Blk:=some ⟨5,66,[AA.enc v6],false⟩
   refine AL (s1:=⟨Fr 29 [(6,hd 0 (c3.map C1.enc)),(8,.pt 1 0 0),p4,p3,p2],[p1,p5]⟩) ?_ ?_
   ·refine Ak AC 0 rfl (ED (AB rfl) rfl (AK (a:= .sl 5 (x0.map AA.enc)) (b:= .j c4) kr kr (Hw (e:=AA.enc) (el:=66) (k:=5) (ki:= .i64) kr kr hv6))) ?_
    exact As AC
   obtain ⟨v7,hv7,h⟩:=OB h;by_cases hk8:(Hh 8 (c3.length + 1))=true
   case neg=>rw [if_neg hk8] at h; cases h
   rw [if_pos hk8] at h
   let p6:Option Blk:=mk 1 100 ((c3++[v7]).map C1.enc)
   let p7:Nat×AV:=(6,hd 0 ((c3++[v7]).map C1.enc))
   refine AL (s1:=⟨Fr 29 [p7,p4,p3,p2],[p6]⟩) ?_ ?_
   ·refine AE (n:=29) AC 2 [p4,p3,p2,(22,hd 0 (c3.map C1.enc)),(23,AA.enc v6)] [p1,p5] kr ?_
    refine Ai (caps:=[]) (xs:=[AA.enc v6]) (u:=(v6,())) rfl rfl Lx rfl (AB rfl) kr kr (AP (Al (c:=AA) (v:=v6)) Bc) (.inr kr) hv7 ?_;refine AE (n:=29) AC 1 [p4,p3,p2,(22,hd 0 (c3.map C1.enc)),(25,hd 2 ([v7].map C1.enc))] [p1,p5,mk 1 100 ([v7].map C1.enc)] kr ?_;refine Ak AC 0 rfl (Tb (AB rfl) rfl kr kr (Jq (a:=hd 0 (c3.map C1.enc)) (b:=hd 2 ([v7].map C1.enc)) kr kr (Kt (c:=C1) (xs:=c3) (vs:=[v7]) (k:=1) (bytes:=8) (el:=100) kr kr (Kv (t:=100) kr) (List.cons_ne_nil _ _) kr hk8))) ?_;refine AE (n:=29) AC 1 [(6,hd 3 ((c3++[v7]).map C1.enc)),p4,p3,p2] [none,p5,mk 1 100 ([v7].map C1.enc),p6] kr ?_;exact AJ rfl (Af [3] ⟨⟨_,rfl,C0⟩,trivial⟩ ⟨C2 (b':=3) kr kr,lv,lv,lv,trivial⟩)
   let p8:Nat×AV:=(18,.j (wr .i64 (c4 + 1)))
   refine EK AC [p7,p4,p3,p8] [p6] ?_;exact CE (s1:=⟨Fr 29 [p7,p4,p3,p8],[p6]⟩) (Af [0] ⟨⟨_,rfl,C0⟩,trivial⟩ ⟨C2 (b':=0) kr kr,lv,lv,lv,trivial⟩) (ih (c3++[v7]) (wr .i64 (c4 + 1)) h)
  ·rw [CZ hb5] at h
   refine En ?_;have hq:=OI h; subst hq;exact ⟨rfl,(Af [0] ⟨⟨_,rfl,C0⟩,trivial⟩ ⟨C2 (b':=0) kr kr,trivial⟩)⟩
theorem Ke (x0:(List AD)) (r:(List AD)×Bool) (h:Ej x0=some r):Sem E0 ⟨none,false⟩ Gi ⟨Fr 29 (BW 0 (Gq.enc (x0,()))),[]⟩ fun e s'=>(e = .normal\/e = .ret)/\∃ xs,EO E0.P s'.fr s'.hp Tryz.f43.results.toList=some xs/\ET xs=Gu r:=by
 unfold Ej at h
 let p1:Nat×AV:=(0,.sl 5 (x0.map AA.enc))
 refine A4 (Bq (s1:=⟨Fr 29 [p1],[]⟩) AQ ?_);refine AI AC [p1] [] ?_;refine AG ?_;refine AG ?_;obtain ⟨v1,hv1,h⟩:=OB h;refine AL (s1:=⟨Fr 29 [p1,(5,.j v1.2)],[]⟩) ?_ ?_
 ·refine AE (n:=29) AC 1 [p1,(10,.sl 5 (x0.map AA.enc))] [] kr ?_
  refine Ai (caps:=[]) (xs:=[.sl 5 (x0.map AA.enc)]) (u:=(x0,())) rfl rfl NG rfl (AB rfl) kr kr (AP (Al (c:=(cdL 5 AA)) (v:=x0)) Bc) (.inl kr) hv1 ?_;exact As AC
 refine AI AC [p1,(15,.b (v1.2 != 0))] [] ?_;refine AS (b:=(v1.2 != 0)) kr (fun hb2=>?_) (fun hb2=>?_)
 ·rw [if_pos hb2] at h
  let p2:Nat×AV:=(3,.b false)
  refine AI AC [(2,.e0),p2] [] ?_;refine AU ?_;have hq:=OI h; subst hq;exact ⟨⟨Fr 29 [(2,.sl 1 ([].map C1.enc)),p2],[]⟩,(Wk.trans (s1:=⟨Fr 29 [(2,.e0),p2],[]⟩) AQ (Wk.trans (s1:=⟨Fr 29 [(2,.e0),p2],[none]⟩) Wk.none (Wk.trans (s1:=⟨Fr 29 [(2,.sl 1 ([].map C1.enc)),p2],[none]⟩) (HF 0 (.inr kr) ⟨.inl rfl,trivial⟩ ⟨⟨.e0,kr,PV⟩,⟨.b false,kr,.inl rfl⟩,trivial⟩) (Af [] trivial ⟨lv,lv,trivial⟩)))),.inr rfl,[.sl 1 ([].map C1.enc),.b false],kr,kr⟩
 ·rw [CZ hb2] at h
  refine Aa ?_;refine AI AC [p1,(6,.e0)] [] ?_;refine AG ?_;refine AG ?_
  let p3:Nat×AV:=(18,.j 0)
  let p4:Nat×AV:=(17,.j (x0.length:Int))
  let p5:Nat×AV:=(16,.sl 5 (x0.map AA.enc))
  refine AL (s1:=⟨Fr 29 [(6,.e0),p5,p4,p3],[]⟩) ?_ ?_
  ·refine AE (n:=29) AC 1 [(6,.e0),p5] [] kr ?_
   refine Ak AC 0 rfl (ED (AB rfl) rfl (Ij (a:= .sl 5 (x0.map AA.enc)) kr (Fp (el:=66) kr))) ?_;exact As AC
  refine Bm ?_;obtain ⟨r10,hr10,h⟩:=OB h;refine Eo (n:=100000) ?_;refine Cu (CE (s1:=⟨Fr 29 [(6,hd 0 ([].map C1.enc)),p5,p4,p3],[mk 1 100 ([].map C1.enc)]⟩) (Wk.trans (s1:=⟨Fr 29 [(6,hd 0 ([].map C1.enc)),p5,p4,p3],[mk 1 100 ([].map C1.enc)]⟩) Wk.none (Af [0] ⟨⟨_,rfl,N1⟩,trivial⟩ ⟨lv,lv,lv,lv,trivial⟩)) (JY x0 _ [] 0 _ hr10)) ?_
  let p6:Nat×AV:=(3,.b true)
  refine AI AC [(2,hd 0 (r10.map C1.enc)),p6] [mk 1 100 (r10.map C1.enc)] ?_;refine AU ?_;have hq:=OI h; subst hq;exact ⟨⟨Fr 29 [(2,.sl 1 (r10.map C1.enc)),p6],[]⟩,(Wk.trans (s1:=⟨Fr 29 [(2,.sl 1 (r10.map C1.enc)),p6],[none]⟩) (HF 0 (.inl kr) ⟨.inl rfl,trivial⟩ ⟨⟨hd 0 (r10.map C1.enc),kr,NY (t:=100) kr IY⟩,⟨.b true,kr,.inl rfl⟩,trivial⟩) (Af [] trivial ⟨lv,lv,trivial⟩)),.inr rfl,[.sl 1 (r10.map C1.enc),.b true],kr,kr⟩
noncomputable def MH:List AV->Option AV:=Db Gq (fun a=>Ej a.1) Gu
theorem ML:XOk 43 MH:=by
 refine AY Tryz.func43 (c:=Gi) ?h2 ⟨Tryz.call43⟩ Gq (fun a=>Ej a.1) Gu (fun a=>(by show 1<=29; decide)) ?h3 ?h4
 case h2=>kernel_rfl
 case h3=>intro b; kernel_rfl
 case h4=>exact fun a b h=>Ke a.1 b h
/- trestle/court.orderOf$1 -/
noncomputable def G0:Code:=Br Tryz.f99
def BK {β:Type}(G:An->An->β->Option Int) (x0:An) (x1:An) (x2:AD) (x3:β):Option (Int) :=
 (if (!(x2.2.1==[]))=true then if (!(x0.1.2.1==x2.2.1))=true then some true else some (!(x1.1.2.1==x2.2.1)) else some false).bind fun j2 =>
 if j2=true then
 some 0
 else
 (G x0 x1 x3).bind fun v4 =>
 some v4
def FE {β:Type}(fid:FuncId) (sx:Cs β) (hn:∀ x,(sx.enc x).all Em=true):Cs (An×An×AD×β×Unit):=(csC AF (csC AF (csC (cdP AA) (csC (cdP (cdF fid sx hn)) csN))))
def FJ (r:Int):AV:=cdI.enc r
theorem JI {β:Type}{fid:FuncId}{sx:Cs β}{hn:∀ x,(sx.enc x).all Em=true}{G:An->An->β->Option Int}(hX:XOk fid (Db (csC AF (csC AF sx)) (fun a=>G a.1 a.2.1 a.2.2) cdI.enc)) (x0:An) (x1:An) (x2:AD) (x3:β) (r:Int) (h:BK G x0 x1 x2 x3=some r):Sem E0 ⟨none,false⟩ G0 ⟨Fr 30 (BW 0 ((FE fid sx hn).enc (x0,x1,x2,x3,()))),[]⟩ fun e s'=>(e = .normal\/e = .ret)/\∃ xs,EO E0.P s'.fr s'.hp Tryz.f99.results.toList=some xs/\ET xs=FJ r:=by
 unfold BK at h
 refine A4 (Bq (s1:=⟨Fr 30 [(0,AF.enc x0),(1,AF.enc x1),(2,.pe (AA.enc x2) 0),(3,.pe (.fn fid [] (sx.enc x3)) 0)],[]⟩) AQ ?_)
 refine AI AC [(2,.pe (AA.enc x2) 0),(3,.pe (.fn fid [] (sx.enc x3)) 0),(4,.pt 0 0 0),(5,.pt 1 0 0)] [some ⟨10,98,[AF.enc x0],false⟩,some ⟨10,98,[AF.enc x1],false⟩] ?_
 refine AG ?_
 refine AG ?_
 obtain ⟨j2,hj2,h⟩:=OB h
 refine AL (s1:=⟨Fr 30 [(3,.pe (.fn fid [] (sx.enc x3)) 0),(4,.pt 0 0 0),(5,.pt 1 0 0),(25,.v (.bool j2))],[some ⟨10,98,[AF.enc x0],false⟩,some ⟨10,98,[AF.enc x1],false⟩]⟩) ?_ ?_
 ·refine AE (n:=30) AC 4 [(2,.pe (AA.enc x2) 0),(3,.pe (.fn fid [] (sx.enc x3)) 0),(4,.pt 0 0 0),(5,.pt 1 0 0),(10,.v (.bool (!(x2.2.1==[]))))] [some ⟨10,98,[AF.enc x0],false⟩,some ⟨10,98,[AF.enc x1],false⟩] kr ?_
  rcases BE (!(x2.2.1==[])) with hc5 | hc5
  ·rw [if_pos hc5] at hj2
   rw [hc5]
   refine AE (n:=30) AC 7 [(2,.pe (AA.enc x2) 0),(3,.pe (.fn fid [] (sx.enc x3)) 0),(4,.pt 0 0 0),(5,.pt 1 0 0),(10,.v (.bool true)),(17,.v (.bool (!(x0.1.2.1==x2.2.1))))] [some ⟨10,98,[AF.enc x0],false⟩,some ⟨10,98,[AF.enc x1],false⟩] kr ?_
   rcases BE (!(x0.1.2.1==x2.2.1)) with hc6 | hc6
   ·rw [if_pos hc6] at hj2
    rw [hc6]
    refine AE (n:=30) AC 8 [(3,.pe (.fn fid [] (sx.enc x3)) 0),(4,.pt 0 0 0),(5,.pt 1 0 0),(25,.v (.bool true))] [some ⟨10,98,[AF.enc x0],false⟩,some ⟨10,98,[AF.enc x1],false⟩] kr ?_
    have hq:=OI hj2; subst hq
    exact AJ rfl (Af [0,1] ⟨⟨_,rfl,CJ⟩,⟨_,rfl,CJ⟩,trivial⟩ ⟨lv,lv,lv,lv,trivial⟩)
   ·rw [CZ hc6] at hj2
    rw [hc6]
    refine AE (n:=30) AC 8 [(3,.pe (.fn fid [] (sx.enc x3)) 0),(4,.pt 0 0 0),(5,.pt 1 0 0),(25,.v (.bool (!(x1.1.2.1==x2.2.1))))] [some ⟨10,98,[AF.enc x0],false⟩,some ⟨10,98,[AF.enc x1],false⟩] kr ?_
    have hq:=OI hj2; subst hq
    exact AJ rfl (Af [0,1] ⟨⟨_,rfl,CJ⟩,⟨_,rfl,CJ⟩,trivial⟩ ⟨lv,lv,lv,lv,trivial⟩)
  ·rw [CZ hc5] at hj2
   rw [hc5]
   refine AE (n:=30) AC 15 [(3,.pe (.fn fid [] (sx.enc x3)) 0),(4,.pt 0 0 0),(5,.pt 1 0 0),(25,.v (.bool false))] [some ⟨10,98,[AF.enc x0],false⟩,some ⟨10,98,[AF.enc x1],false⟩] kr ?_
   have hq:=OI hj2; subst hq
   exact AJ rfl (Af [0,1] ⟨⟨_,rfl,CJ⟩,⟨_,rfl,CJ⟩,trivial⟩ ⟨lv,lv,lv,lv,trivial⟩)
 refine AS (b:=j2) kr (fun hb3=>?_) (fun hb3=>?_)
 ·rw [if_pos hb3] at h
  refine AG ?_
  refine AL (s1:=⟨Fr 30 [(6,.v (.int .i64 0))],[]⟩) ?_ ?_
  ·refine AE (n:=30) AC 1 [(6,.v (.int .i64 0))] [some ⟨10,98,[AF.enc x0],false⟩,some ⟨10,98,[AF.enc x1],false⟩] kr ?_
   exact AJ rfl (Af [] trivial ⟨lv,trivial⟩)
  refine AU ?_
  have hq:=OI h; subst hq
  exact ⟨⟨Fr 30 [(6,.v (.int .i64 0))],[]⟩,AQ,.inr rfl,[.v (.int .i64 0)],kr,kr⟩
 ·rw [CZ hb3] at h
  refine Aa ?_
  refine AG ?_
  obtain ⟨v4,hv4,h⟩:=OB h
  refine AL (s1:=⟨Fr 30 [(6,.v (.int .i64 v4))],[]⟩) ?_ ?_
  ·refine AE (n:=30) AC 3 [(26,.fn fid [] (sx.enc x3)),(27,AF.enc x0),(28,AF.enc x1)] [some ⟨10,98,[AF.enc x0],false⟩,some ⟨10,98,[AF.enc x1],false⟩] kr ?_
   refine Ai (caps:=sx.enc x3) (xs:=[AF.enc x0,AF.enc x1]) (u:=(x0,x1,x3)) rfl rfl hX rfl (AB rfl) kr kr (AP (Al (c:=AF) (v:=x0)) (AP (Al (c:=AF) (v:=x1)) (Mm (n:=10) (s:=sx) (a:=x3)))) (.inl kr) hv4 ?_
   refine AE (n:=30) AC 1 [(6,.v (.int .i64 v4))] [some ⟨10,98,[AF.enc x0],false⟩,some ⟨10,98,[AF.enc x1],false⟩] kr ?_
   exact AJ rfl (Af [] trivial ⟨lv,trivial⟩)
  refine AU ?_
  have hq:=OI h; subst hq
  exact ⟨⟨Fr 30 [(6,.v (.int .i64 v4))],[]⟩,AQ,.inr rfl,[.v (.int .i64 v4)],kr,kr⟩
def KN {β:Type}(fid:FuncId) (sx:Cs β) (hn:∀ x,(sx.enc x).all Em=true) (G:An->An->β->Option Int):List AV->Option AV:=Db (FE fid sx hn) (fun a=>BK G a.1 a.2.1 a.2.2.1 a.2.2.2.1) FJ
theorem Bj {β:Type}{fid:FuncId}{sx:Cs β}{hn:∀ x,(sx.enc x).all Em=true}{G:An->An->β->Option Int}(hX:XOk fid (Db (csC AF (csC AF sx)) (fun a=>G a.1 a.2.1 a.2.2) cdI.enc)):XOk 99 (KN fid sx hn G):=by
 refine AY Tryz.func99 (c:=G0) ?h2 ⟨Tryz.call99⟩ (FE fid sx hn) (fun a=>BK G a.1 a.2.1 a.2.2.1 a.2.2.2.1) FJ (fun a=>(by show 4<=30; decide)) ?h3 ?h4
 case h2=>kernel_rfl
 case h3=>intro b; kernel_rfl
 case h4=>exact fun a b h=>JI hX a.1 a.2.1 a.2.2.1 a.2.2.2.1 b h
/- cmp.isNaN[int] -/
noncomputable def H3:Code:=Br Tryz.f136
def Dr (x0:Int):Option (Bool) :=
 some (x0 != x0)
def F8:Cs (Int×Unit):=(csC cdI csN)
def GM (r:Bool):AV:=cdB.enc r
theorem Jv (x0:Int) (r:Bool) (h:Dr x0=some r):Sem E0 ⟨none,false⟩ H3 ⟨Fr 6 (BW 0 (F8.enc (x0,()))),[]⟩ fun e s'=>(e = .normal\/e = .ret)/\∃ xs,EO E0.P s'.fr s'.hp Tryz.f136.results.toList=some xs/\ET xs=GM r:=by
 unfold Dr at h;refine A4 (Bq (s1:=⟨Fr 6 [(0,.j x0)],[]⟩) AQ ?_);refine AI AC [(0,.j x0)] [] ?_;refine AI AC [(2,.b (x0 != x0))] [] ?_;refine AU ?_;have hq:=OI h; subst hq;exact ⟨⟨Fr 6 [(2,.b (x0 != x0))],[]⟩,AQ,.inr rfl,[.b (x0 != x0)],kr,kr⟩
def La:List AV->Option AV:=Db F8 (fun a=>Dr a.1) GM
theorem Is:XOk 136 La:=by
 refine AY Tryz.func136 (c:=H3) ?h2 ⟨Tryz.call136⟩ F8 (fun a=>Dr a.1) GM (fun a=>(by show 1<=6; decide)) ?h3 ?h4
 case h2=>kernel_rfl
 case h3=>intro b; kernel_rfl
 case h4=>exact fun a b h=>Jv a.1 b h
/- cmp.Compare[int] -/
noncomputable def Gz:Code:=Br Tryz.f115
def Ba (x0:Int) (x1:Int):Option (Int) :=
 (Dr x0).bind fun v1 =>
 (Dr x1).bind fun v2 =>
 if v1=true then
 if v2=true then
 some 0
 else
 some (-1)
 else
 if v2=true then
 some 1
 else
 if (decide (x0 < x1))=true then
 some (-1)
 else
 if (decide (x0 > x1))=true then
 some 1
 else
 some 0
def FC:Cs (Int×Int×Unit):=(csC cdI (csC cdI csN))
def FI (r:Int):AV:=cdI.enc r
theorem JH (x0:Int) (x1:Int) (r:Int) (h:Ba x0 x1=some r):Sem E0 ⟨none,false⟩ Gz ⟨Fr 20 (BW 0 (FC.enc (x0,x1,()))),[]⟩ fun e s'=>(e = .normal\/e = .ret)/\∃ xs,EO E0.P s'.fr s'.hp Tryz.f115.results.toList=some xs/\ET xs=FI r:=by
 unfold Ba at h
 let p1:Nat×AV:=(1,.j x1)
 let p2:Nat×AV:=(0,.j x0)
 refine A4 (Bq (s1:=⟨Fr 20 [p2,p1],[]⟩) AQ ?_);refine AI AC [p2,p1] [] ?_;refine AG ?_;obtain ⟨v1,hv1,h⟩:=OB h
 let p3:Nat×AV:=(5,.b v1)
 refine AL (s1:=⟨Fr 20 [p2,p1,p3],[]⟩) ?_ ?_
 ·refine AE (n:=20) AC 1 [p2,p1,(7,.j x0)] [] kr ?_
  refine Ai (caps:=[]) (xs:=[.j x0]) (u:=(x0,())) rfl rfl Is rfl (AB rfl) kr kr (AP (Al (c:=cdI) (v:=x0)) Bc) (.inl kr) hv1 ?_;exact As AC
 refine AG ?_;obtain ⟨v2,hv2,h⟩:=OB h;refine AL (s1:=⟨Fr 20 [p2,p1,p3,(6,.b v2)],[]⟩) ?_ ?_
 ·refine AE (n:=20) AC 1 [p2,p1,p3,(9,.j x1)] [] kr ?_
  refine Ai (caps:=[]) (xs:=[.j x1]) (u:=(x1,())) rfl rfl Is rfl (AB rfl) kr kr (AP (Al (c:=cdI) (v:=x1)) Bc) (.inl kr) hv2 ?_;exact As AC
 refine AG ?_;refine AI AC [p2,p1,(6,.b v2),(11,.b v1)] [] ?_;refine AS (b:=v1) kr (fun hb3=>?_) (fun hb3=>?_)
 ·rw [if_pos hb3] at h
  refine AG ?_;refine AI AC [(12,.b v2)] [] ?_;refine AS (b:=v2) kr (fun hb4=>?_) (fun hb4=>?_)
  ·rw [if_pos hb4] at h
   refine AI AC [(4,.j 0)] [] ?_;refine AU ?_;have hq:=OI h; subst hq;exact ⟨⟨Fr 20 [(4,.j 0)],[]⟩,AQ,.inr rfl,[.j 0],kr,kr⟩
  ·rw [CZ hb4] at h
   refine Aa ?_;refine AI AC [(4,.j (-1))] [] ?_;refine AU ?_;have hq:=OI h; subst hq;exact ⟨⟨Fr 20 [(4,.j (-1))],[]⟩,AQ,.inr rfl,[.j (-1)],kr,kr⟩
 ·rw [CZ hb3] at h
  refine Aa ?_;refine AG ?_;refine AI AC [p2,p1,(13,.b v2)] [] ?_;refine AS (b:=v2) kr (fun hb5=>?_) (fun hb5=>?_)
  ·rw [if_pos hb5] at h
   refine AI AC [(4,.j 1)] [] ?_;refine AU ?_;have hq:=OI h; subst hq;exact ⟨⟨Fr 20 [(4,.j 1)],[]⟩,AQ,.inr rfl,[.j 1],kr,kr⟩
  ·rw [CZ hb5] at h
   refine Aa ?_;refine AG ?_;refine AI AC [p2,p1,(16,.b (decide (x0 < x1)))] [] ?_;refine AS (b:=(decide (x0 < x1))) kr (fun hb6=>?_) (fun hb6=>?_)
   ·rw [if_pos hb6] at h
    refine AI AC [(4,.j (-1))] [] ?_;refine AU ?_;have hq:=OI h; subst hq;exact ⟨⟨Fr 20 [(4,.j (-1))],[]⟩,AQ,.inr rfl,[.j (-1)],kr,kr⟩
   ·rw [CZ hb6] at h
    refine Aa ?_;refine AG ?_;refine AI AC [(19,.b (decide (x0 > x1)))] [] ?_;refine AS (b:=(decide (x0 > x1))) kr (fun hb7=>?_) (fun hb7=>?_)
    ·rw [if_pos hb7] at h
     refine AI AC [(4,.j 1)] [] ?_;refine AU ?_;have hq:=OI h; subst hq;exact ⟨⟨Fr 20 [(4,.j 1)],[]⟩,AQ,.inr rfl,[.j 1],kr,kr⟩
    ·rw [CZ hb7] at h
     refine Aa ?_;refine AI AC [(4,.j 0)] [] ?_;refine AU ?_;have hq:=OI h; subst hq;exact ⟨⟨Fr 20 [(4,.j 0)],[]⟩,AQ,.inr rfl,[.j 0],kr,kr⟩
def KL:List AV->Option AV:=Db FC (fun a=>Ba a.1 a.2.1) FI
theorem Dm:XOk 115 KL:=by
 refine AY Tryz.func115 (c:=Gz) ?h2 ⟨Tryz.call115⟩ FC (fun a=>Ba a.1 a.2.1) FI (fun a=>(by show 2<=20; decide)) ?h3 ?h4
 case h2=>kernel_rfl
 case h3=>intro b; kernel_rfl
 case h4=>exact fun a b h=>JH a.1 a.2.1 b h
/- trestle/court.by$1 -/
noncomputable def JS:Code:=Br Tryz.f135
def Be {β:Type}(G:An->β->Option Int) (x0:An) (x1:An) (x2:β):Option (Int) :=
 (G x0 x2).bind fun v1 =>
 (G x1 x2).bind fun v2 =>
 (Ba v1 v2).bind fun v3 =>
 some v3
def Hj {β:Type}(fid:FuncId) (sx:Cs β) (hn:∀ x,(sx.enc x).all Em=true):Cs (An×An×β×Unit):=(csC AF (csC AF (csC (cdP (cdF fid sx hn)) csN)))
def Hl (r:Int):AV:=cdI.enc r
theorem L9 {β:Type}{fid:FuncId}{sx:Cs β}{hn:∀ x,(sx.enc x).all Em=true}{G:An->β->Option Int}(hX:XOk fid (Db (csC AF sx) (fun a=>G a.1 a.2) cdI.enc)) (x0:An) (x1:An) (x2:β) (r:Int) (h:Be G x0 x1 x2=some r):Sem E0 ⟨none,false⟩ JS ⟨Fr 13 (BW 0 ((Hj fid sx hn).enc (x0,x1,x2,()))),[]⟩ fun e s'=>(e = .normal\/e = .ret)/\∃ xs,EO E0.P s'.fr s'.hp Tryz.f135.results.toList=some xs/\ET xs=Hl r:=by
 unfold Be at h
 refine A4 (Bq (s1:=⟨Fr 13 [(0,AF.enc x0),(1,AF.enc x1),(2,.pe (.fn fid [] (sx.enc x2)) 0)],[]⟩) AQ ?_)
 refine AI AC [(2,.pe (.fn fid [] (sx.enc x2)) 0),(3,.pt 0 0 0),(4,.pt 1 0 0)] [some ⟨10,98,[AF.enc x0],false⟩,some ⟨10,98,[AF.enc x1],false⟩] ?_
 refine AG ?_
 obtain ⟨v1,hv1,h⟩:=OB h
 obtain ⟨v2,hv2,h⟩:=OB h
 obtain ⟨v3,hv3,h⟩:=OB h
 refine Ep AC (s1:=⟨Fr 13 [(5,.v (.int .i64 v3))],[]⟩) kr ?_ ?_
 ·refine BY (n:=13) AC 2 [(2,.pe (.fn fid [] (sx.enc x2)) 0),(4,.pt 1 0 0),(6,.fn fid [] (sx.enc x2)),(7,AF.enc x0)] [some ⟨10,98,[AF.enc x0],false⟩,some ⟨10,98,[AF.enc x1],false⟩] kr kr ?_
  refine Bt (caps:=sx.enc x2) (xs:=[AF.enc x0]) (u:=(x0,x2)) rfl rfl hX rfl (AB rfl) kr kr (AP (Al (c:=AF) (v:=x0)) (Mm (n:=10) (s:=sx) (a:=x2))) kr hv1 ?_
  refine BY (n:=13) AC 2 [(8,.v (.int .i64 v1)),(9,.fn fid [] (sx.enc x2)),(10,AF.enc x1)] [some ⟨10,98,[AF.enc x0],false⟩,some ⟨10,98,[AF.enc x1],false⟩] kr kr ?_
  refine Bt (caps:=sx.enc x2) (xs:=[AF.enc x1]) (u:=(x1,x2)) rfl rfl hX rfl (AB rfl) kr kr (AP (Al (c:=AF) (v:=x1)) (Mm (n:=10) (s:=sx) (a:=x2))) kr hv2 ?_
  refine Bt (caps:=[]) (xs:=[.v (.int .i64 v1),.v (.int .i64 v2)]) (u:=(v1,v2,())) rfl rfl Dm rfl (AB rfl) kr kr (AP (Al (c:=cdI) (v:=v1)) (AP (Al (c:=cdI) (v:=v2)) Bc)) kr hv3 ?_
  refine BY (n:=13) AC 1 [(5,.v (.int .i64 v3))] [some ⟨10,98,[AF.enc x0],false⟩,some ⟨10,98,[AF.enc x1],false⟩] kr kr ?_
  exact RunDS.done rfl (Af [] trivial ⟨lv,trivial⟩)
 refine AU ?_
 have hq:=OI h; subst hq
 exact ⟨⟨Fr 13 [(5,.v (.int .i64 v3))],[]⟩,AQ,.inr rfl,[.v (.int .i64 v3)],kr,kr⟩
def Nl {β:Type}(fid:FuncId) (sx:Cs β) (hn:∀ x,(sx.enc x).all Em=true) (G:An->β->Option Int):List AV->Option AV:=Db (Hj fid sx hn) (fun a=>Be G a.1 a.2.1 a.2.2.1) Hl
theorem F0 {β:Type}{fid:FuncId}{sx:Cs β}{hn:∀ x,(sx.enc x).all Em=true}{G:An->β->Option Int}(hX:XOk fid (Db (csC AF sx) (fun a=>G a.1 a.2) cdI.enc)):XOk 135 (Nl fid sx hn G):=by
 refine AY Tryz.func135 (c:=JS) ?h2 ⟨Tryz.call135⟩ (Hj fid sx hn) (fun a=>Be G a.1 a.2.1 a.2.2.1) Hl (fun a=>(by show 3<=13; decide)) ?h3 ?h4
 case h2=>kernel_rfl
 case h3=>intro b; kernel_rfl
 case h4=>exact fun a b h=>L9 hX a.1 a.2.1 a.2.2.1 b h
/- trestle/court.plain$1 -/
noncomputable def H7:Code:=Br Tryz.f113
def CY (x0:An) (x1:AD):Option (Int) :=
 (A3 x1.2.2.2.1 x0.1.2.1).bind fun v1 =>
 if (decide (v1≥0))=true then
 some v1
 else
 some (x1.2.2.2.1.length:Int)
def GC:Cs (An×AD×Unit):=(csC AF (csC (cdP AA) csN))
def GR (r:Int):AV:=cdI.enc r
theorem Jz (x0:An) (x1:AD) (r:Int) (h:CY x0 x1=some r):Sem E0 ⟨none,false⟩ H7 ⟨Fr 17 (BW 0 (GC.enc (x0,x1,()))),[]⟩ fun e s'=>(e = .normal\/e = .ret)/\∃ xs,EO E0.P s'.fr s'.hp Tryz.f113.results.toList=some xs/\ET xs=GR r:=by
 unfold CY at h
 let p1:Nat×AV:=(1,.pe (AA.enc x1) 0)
 refine A4 (Bq (s1:=⟨Fr 17 [(0,AF.enc x0),p1],[]⟩) AQ ?_)
 let p2:Option Blk:=some ⟨10,98,[AF.enc x0],false⟩
 refine AI AC [p1,(2,.pt 0 0 0)] [p2] ?_;refine AG ?_;refine AG ?_;obtain ⟨v1,hv1,h⟩:=OB h
 let p3:Nat×AV:=(4,.j v1)
 refine AL (s1:=⟨Fr 17 [p1,p3],[]⟩) ?_ ?_
 ·refine AE (n:=17) AC 5 [p1,(6,.sl 1 (x1.2.2.2.1.map cdS.enc)),(9,.st x0.1.2.1)] [p2] kr ?_
  refine Ai (caps:=[]) (xs:=[.sl 1 (x1.2.2.2.1.map cdS.enc),.st x0.1.2.1]) (u:=(x1.2.2.2.1,x0.1.2.1,())) rfl rfl D6 rfl (AB rfl) kr kr (AP (Al (c:=(cdL 1 cdS)) (v:=x1.2.2.2.1)) (AP (Al (c:=cdS) (v:=x0.1.2.1)) Bc)) (.inl kr) hv1 ?_;refine AE (n:=17) AC 1 [p1,p3] [p2] kr ?_;exact AJ rfl (Af [] trivial ⟨lv,lv,trivial⟩)
 refine AI AC [p1,p3,(12,.b (decide (v1≥0)))] [] ?_;refine AS (b:=(decide (v1≥0))) kr (fun hb2=>?_) (fun hb2=>?_)
 ·rw [if_pos hb2] at h
  refine AI AC [(3,.j v1)] [] ?_;refine AU ?_;have hq:=OI h; subst hq;exact ⟨⟨Fr 17 [(3,.j v1)],[]⟩,AQ,.inr rfl,[.j v1],kr,kr⟩
 ·rw [CZ hb2] at h
  refine Aa ?_;refine AG ?_
  let p4:Nat×AV:=(3,.j (x1.2.2.2.1.length:Int))
  refine AL (s1:=⟨Fr 17 [p4],[]⟩) ?_ ?_
  ·refine AE (n:=17) AC 2 [(15,.sl 1 (x1.2.2.2.1.map cdS.enc))] [] kr ?_
   refine Ak AC 0 rfl (ED (AB rfl) rfl (Ij (a:= .sl 1 (x1.2.2.2.1.map cdS.enc)) kr (Fp (el:=9) kr))) ?_;exact As AC
  refine AU ?_;have hq:=OI h; subst hq;exact ⟨⟨Fr 17 [p4],[]⟩,AQ,.inr rfl,[.j (x1.2.2.2.1.length:Int)],kr,kr⟩
def Lg:List AV->Option AV:=Db GC (fun a=>CY a.1 a.2.1) GR
theorem Ly:XOk 113 Lg:=by
 refine AY Tryz.func113 (c:=H7) ?h2 ⟨Tryz.call113⟩ GC (fun a=>CY a.1 a.2.1) GR (fun a=>(by show 2<=17; decide)) ?h3 ?h4
 case h2=>kernel_rfl
 case h3=>intro b; kernel_rfl
 case h4=>exact fun a b h=>Jz a.1 a.2.1 b h
/- trestle/court.b2i -/
noncomputable def KV:Code:=Br Tryz.f116
def Gm (x0:Bool):Option (Int) :=
 if x0=true then
 some 1
 else
 some 0
def IW:Cs (Bool×Unit):=(csC cdB csN)
def IZ (r:Int):AV:=cdI.enc r
theorem Ms (x0:Bool) (r:Int) (h:Gm x0=some r):Sem E0 ⟨none,false⟩ KV ⟨Fr 4 (BW 0 (IW.enc (x0,()))),[]⟩ fun e s'=>(e = .normal\/e = .ret)/\∃ xs,EO E0.P s'.fr s'.hp Tryz.f116.results.toList=some xs/\ET xs=IZ r:=by
 unfold Gm at h;refine A4 (Bq (s1:=⟨Fr 4 [(0,.b x0)],[]⟩) AQ ?_);refine AI AC [(0,.b x0)] [] ?_;refine AG ?_;refine AI AC [(3,.b x0)] [] ?_;refine AS (b:=x0) kr (fun hb1=>?_) (fun hb1=>?_)
 ·rw [if_pos hb1] at h
  refine AI AC [(2,.j 1)] [] ?_;refine AU ?_;have hq:=OI h; subst hq;exact ⟨⟨Fr 4 [(2,.j 1)],[]⟩,AQ,.inr rfl,[.j 1],kr,kr⟩
 ·rw [CZ hb1] at h
  refine Aa ?_;refine AI AC [(2,.j 0)] [] ?_;refine AU ?_;have hq:=OI h; subst hq;exact ⟨⟨Fr 4 [(2,.j 0)],[]⟩,AQ,.inr rfl,[.j 0],kr,kr⟩
def OW:List AV->Option AV:=Db IW (fun a=>Gm a.1) IZ
theorem Lt:XOk 116 OW:=by
 refine AY Tryz.func116 (c:=KV) ?h2 ⟨Tryz.call116⟩ IW (fun a=>Gm a.1) IZ (fun a=>(by show 1<=4; decide)) ?h3 ?h4
 case h2=>kernel_rfl
 case h3=>intro b; kernel_rfl
 case h4=>exact fun a b h=>Ms a.1 b h
/- trestle/court.plain$2 -/
noncomputable def F7:Code:=Br Tryz.f114
def EW (x2:AD) (v5:Int):Option ((Int)) :=
 if (x2.1==3)=true then
 some (wr .i64 (0 - v5))
 else
 some v5
def CD (x0:An) (x1:An) (x2:AD):Option (Int) :=
 if (!((x0.1.2.2.2.1==0)==(x1.1.2.2.2.1==0)))=true then
 (Gm (x0.1.2.2.2.1==0)).bind fun v2 =>
 (Gm (x1.1.2.2.2.1==0)).bind fun v3 =>
 (Ba v2 v3).bind fun v4 =>
 some v4
 else
 (Ba x0.1.2.2.2.1 x1.1.2.2.2.1).bind fun v5 =>
 (EW x2 v5).bind fun r8 =>
 some r8
def GD:Cs (An×An×AD×Unit):=(csC AF (csC AF (csC (cdP AA) csN)))
def GS (r:Int):AV:=cdI.enc r
theorem JJ (x2:AD) (v5:Int) (r:(Int)) (h:EW x2 v5=some r):Sem E0 ⟨none,false⟩ (pc F7 [1,1,1,0,1]) ⟨Fr 40 [(6,.j v5),(36,.b (x2.1==3))],[]⟩ (fun e s=>e = .normal/\Wk E0 s ⟨Fr 40 [(6,.j r)],[]⟩):=by
 unfold EW at h;refine AS (b:=(x2.1==3)) kr (fun hb6=>?_) (fun hb6=>?_)
 ·rw [if_pos hb6] at h
  refine EK AC [(6,.j (wr .i64 (0 - v5)))] [] ?_;have hq:=OI h; subst hq;exact ⟨rfl,AQ⟩
 ·rw [CZ hb6] at h
  refine Aa ?_;have hq:=OI h; subst hq;exact ⟨rfl,AQ⟩
theorem J0 (x0:An) (x1:An) (x2:AD) (r:Int) (h:CD x0 x1 x2=some r):Sem E0 ⟨none,false⟩ F7 ⟨Fr 40 (BW 0 (GD.enc (x0,x1,x2,()))),[]⟩ fun e s'=>(e = .normal\/e = .ret)/\∃ xs,EO E0.P s'.fr s'.hp Tryz.f114.results.toList=some xs/\ET xs=GS r:=by
 unfold CD at h
 let p1:Nat×AV:=(2,.pe (AA.enc x2) 0)
 refine A4 (Bq (s1:=⟨Fr 40 [(0,AF.enc x0),(1,AF.enc x1),p1],[]⟩) AQ ?_)
 let p2:Option Blk:=some ⟨10,98,[AF.enc x1],false⟩
 let p3:Option Blk:=some ⟨10,98,[AF.enc x0],false⟩
 refine AI AC [p1,(3,.pt 0 0 0),(4,.pt 1 0 0)] [p3,p2] ?_;refine AG ?_;refine AI AC [p1,(3,.pt 0 0 0),(4,.pt 1 0 0),(15,.b (!((x0.1.2.2.2.1==0)==(x1.1.2.2.2.1==0))))] [p3,p2] ?_;refine AS (b:=(!((x0.1.2.2.2.1==0)==(x1.1.2.2.2.1==0)))) kr (fun hb1=>?_) (fun hb1=>?_)
 ·rw [if_pos hb1] at h
  refine AG ?_;obtain ⟨v2,hv2,h⟩:=OB h;obtain ⟨v3,hv3,h⟩:=OB h;obtain ⟨v4,hv4,h⟩:=OB h
  let p4:Nat×AV:=(5,.j v4)
  refine Ep AC (s1:=⟨Fr 40 [p4],[]⟩) kr ?_ ?_
  ·refine BY (n:=40) AC 4 [(4,.pt 1 0 0),(19,.b (x0.1.2.2.2.1==0))] [p3,p2] kr kr ?_
   refine Bt (caps:=[]) (xs:=[.b (x0.1.2.2.2.1==0)]) (u:=((x0.1.2.2.2.1==0),())) rfl rfl Lt rfl (AB rfl) kr kr (AP (Al (c:=cdB) (v:=(x0.1.2.2.2.1==0))) Bc) kr hv2 ?_;refine BY (n:=40) AC 4 [(20,.j v2),(24,.b (x1.1.2.2.2.1==0))] [p3,p2] kr kr ?_;refine Bt (caps:=[]) (xs:=[.b (x1.1.2.2.2.1==0)]) (u:=((x1.1.2.2.2.1==0),())) rfl rfl Lt rfl (AB rfl) kr kr (AP (Al (c:=cdB) (v:=(x1.1.2.2.2.1==0))) Bc) kr hv3 ?_;refine Bt (caps:=[]) (xs:=[.j v2,.j v3]) (u:=(v2,v3,())) rfl rfl Dm rfl (AB rfl) kr kr (AP (Al (c:=cdI) (v:=v2)) (AP (Al (c:=cdI) (v:=v3)) Bc)) kr hv4 ?_;refine BY (n:=40) AC 1 [p4] [p3,p2] kr kr ?_;exact RunDS.done rfl (Af [] trivial ⟨lv,trivial⟩)
  refine AU ?_;have hq:=OI h; subst hq;exact ⟨⟨Fr 40 [p4],[]⟩,AQ,.inr rfl,[.j v4],kr,kr⟩
 ·rw [CZ hb1] at h
  refine Aa ?_;refine AG ?_;obtain ⟨v5,hv5,h⟩:=OB h
  let p5:Nat×AV:=(6,.j v5)
  refine AL (s1:=⟨Fr 40 [p1,p5],[]⟩) ?_ ?_
  ·refine AE (n:=40) AC 6 [p1,(29,.j x0.1.2.2.2.1),(32,.j x1.1.2.2.2.1)] [p3,p2] kr ?_
   refine Ai (caps:=[]) (xs:=[.j x0.1.2.2.2.1,.j x1.1.2.2.2.1]) (u:=(x0.1.2.2.2.1,x1.1.2.2.2.1,())) rfl rfl Dm rfl (AB rfl) kr kr (AP (Al (c:=cdI) (v:=x0.1.2.2.2.1)) (AP (Al (c:=cdI) (v:=x1.1.2.2.2.1)) Bc)) (.inl kr) hv5 ?_;refine AE (n:=40) AC 1 [p1,p5] [p3,p2] kr ?_;exact AJ rfl (Af [] trivial ⟨lv,lv,trivial⟩)
  refine AG ?_;refine AI AC [p5,(36,.b (x2.1==3))] [] ?_;obtain ⟨r8,hr8,h⟩:=OB h;refine CO (JJ x2 v5 _ hr8) ?_;refine AI AC [(5,.j r8)] [] ?_;refine AU ?_;have hq:=OI h; subst hq;exact ⟨⟨Fr 40 [(5,.j r8)],[]⟩,AQ,.inr rfl,[.j r8],kr,kr⟩
def Lh:List AV->Option AV:=Db GD (fun a=>CD a.1 a.2.1 a.2.2.1) GS
theorem It:XOk 114 Lh:=by
 refine AY Tryz.func114 (c:=F7) ?h2 ⟨Tryz.call114⟩ GD (fun a=>CD a.1 a.2.1 a.2.2.1) GS (fun a=>(by show 3<=40; decide)) ?h3 ?h4
 case h2=>kernel_rfl
 case h3=>intro b; kernel_rfl
 case h4=>exact fun a b h=>J0 a.1 a.2.1 a.2.2.1 b h
/- cmp.isNaN[string] -/
noncomputable def Gh:Code:=Br Tryz.f138
def Cj (x0:(List UInt8)):Option (Bool) :=
 some (!(x0==x0))
def Ed:Cs ((List UInt8)×Unit):=(csC cdS csN)
def Ee (r:Bool):AV:=cdB.enc r
theorem I5 (x0:(List UInt8)) (r:Bool) (h:Cj x0=some r):Sem E0 ⟨none,false⟩ Gh ⟨Fr 6 (BW 0 (Ed.enc (x0,()))),[]⟩ fun e s'=>(e = .normal\/e = .ret)/\∃ xs,EO E0.P s'.fr s'.hp Tryz.f138.results.toList=some xs/\ET xs=Ee r:=by
 unfold Cj at h;refine A4 (Bq (s1:=⟨Fr 6 [(0,.st x0)],[]⟩) AQ ?_);refine AI AC [(0,.st x0)] [] ?_;refine AI AC [(2,.b (!(x0==x0)))] [] ?_;refine AU ?_;have hq:=OI h; subst hq;exact ⟨⟨Fr 6 [(2,.b (!(x0==x0)))],[]⟩,AQ,.inr rfl,[.b (!(x0==x0))],kr,kr⟩
def Jn:List AV->Option AV:=Db Ed (fun a=>Cj a.1) Ee
theorem HD:XOk 138 Jn:=by
 refine AY Tryz.func138 (c:=Gh) ?h2 ⟨Tryz.call138⟩ Ed (fun a=>Cj a.1) Ee (fun a=>(by show 1<=6; decide)) ?h3 ?h4
 case h2=>kernel_rfl
 case h3=>intro b; kernel_rfl
 case h4=>exact fun a b h=>I5 a.1 b h
/- cmp.Compare[string] -/
noncomputable def Fj:Code:=Br Tryz.f124
def CH (x0:(List UInt8)) (x1:(List UInt8)):Option (Int) :=
 (Cj x0).bind fun v1 =>
 (Cj x1).bind fun v2 =>
 if v1=true then
 if v2=true then
 some 0
 else
 some (-1)
 else
 if v2=true then
 some 1
 else
 if (Go.Op.bytesLess x0 x1)=true then
 some (-1)
 else
 if (!((Go.Op.bytesLess x0 x1)||(x0==x1)))=true then
 some 1
 else
 some 0
def EA:Cs ((List UInt8)×(List UInt8)×Unit):=(csC cdS (csC cdS csN))
def EB (r:Int):AV:=cdI.enc r
theorem IL (x0:(List UInt8)) (x1:(List UInt8)) (r:Int) (h:CH x0 x1=some r):Sem E0 ⟨none,false⟩ Fj ⟨Fr 20 (BW 0 (EA.enc (x0,x1,()))),[]⟩ fun e s'=>(e = .normal\/e = .ret)/\∃ xs,EO E0.P s'.fr s'.hp Tryz.f124.results.toList=some xs/\ET xs=EB r:=by
 unfold CH at h;refine A4 (Bq (s1:=⟨Fr 20 [(0,.st x0),(1,.st x1)],[]⟩) AQ ?_);refine AI AC [(0,.st x0),(1,.st x1)] [] ?_;refine AG ?_;obtain ⟨v1,hv1,h⟩:=OB h
 let p1:Nat×AV:=(5,.b v1)
 refine AL (s1:=⟨Fr 20 [(0,.st x0),(1,.st x1),p1],[]⟩) ?_ ?_
 ·refine AE (n:=20) AC 1 [(0,.st x0),(1,.st x1),(7,.st x0)] [] kr ?_
  refine Ai (caps:=[]) (xs:=[.st x0]) (u:=(x0,())) rfl rfl HD rfl (AB rfl) kr kr (AP (Al (c:=cdS) (v:=x0)) Bc) (.inl kr) hv1 ?_;exact As AC
 refine AG ?_;obtain ⟨v2,hv2,h⟩:=OB h;refine AL (s1:=⟨Fr 20 [(0,.st x0),(1,.st x1),p1,(6,.b v2)],[]⟩) ?_ ?_
 ·refine AE (n:=20) AC 1 [(0,.st x0),(1,.st x1),p1,(9,.st x1)] [] kr ?_
  refine Ai (caps:=[]) (xs:=[.st x1]) (u:=(x1,())) rfl rfl HD rfl (AB rfl) kr kr (AP (Al (c:=cdS) (v:=x1)) Bc) (.inl kr) hv2 ?_;exact As AC
 refine AG ?_;refine AI AC [(0,.st x0),(1,.st x1),(6,.b v2),(11,.b v1)] [] ?_;refine AS (b:=v1) kr (fun hb3=>?_) (fun hb3=>?_)
 ·rw [if_pos hb3] at h
  refine AG ?_;refine AI AC [(12,.b v2)] [] ?_;refine AS (b:=v2) kr (fun hb4=>?_) (fun hb4=>?_)
  ·rw [if_pos hb4] at h
   refine AI AC [(4,.j 0)] [] ?_;refine AU ?_;have hq:=OI h; subst hq;exact ⟨⟨Fr 20 [(4,.j 0)],[]⟩,AQ,.inr rfl,[.j 0],kr,kr⟩
  ·rw [CZ hb4] at h
   refine Aa ?_;refine AI AC [(4,.j (-1))] [] ?_;refine AU ?_;have hq:=OI h; subst hq;exact ⟨⟨Fr 20 [(4,.j (-1))],[]⟩,AQ,.inr rfl,[.j (-1)],kr,kr⟩
 ·rw [CZ hb3] at h
  refine Aa ?_;refine AG ?_;refine AI AC [(0,.st x0),(1,.st x1),(13,.b v2)] [] ?_;refine AS (b:=v2) kr (fun hb5=>?_) (fun hb5=>?_)
  ·rw [if_pos hb5] at h
   refine AI AC [(4,.j 1)] [] ?_;refine AU ?_;have hq:=OI h; subst hq;exact ⟨⟨Fr 20 [(4,.j 1)],[]⟩,AQ,.inr rfl,[.j 1],kr,kr⟩
  ·rw [CZ hb5] at h
   refine Aa ?_;refine AG ?_;refine AI AC [(0,.st x0),(1,.st x1),(16,.b (Go.Op.bytesLess x0 x1))] [] ?_;refine AS (b:=(Go.Op.bytesLess x0 x1)) kr (fun hb6=>?_) (fun hb6=>?_)
   ·rw [if_pos hb6] at h
    refine AI AC [(4,.j (-1))] [] ?_;refine AU ?_;have hq:=OI h; subst hq;exact ⟨⟨Fr 20 [(4,.j (-1))],[]⟩,AQ,.inr rfl,[.j (-1)],kr,kr⟩
   ·rw [CZ hb6] at h
    refine Aa ?_;refine AG ?_;refine AI AC [(19,.b (!((Go.Op.bytesLess x0 x1)||(x0==x1))))] [] ?_;refine AS (b:=(!((Go.Op.bytesLess x0 x1)||(x0==x1)))) kr (fun hb7=>?_) (fun hb7=>?_)
    ·rw [if_pos hb7] at h
     refine AI AC [(4,.j 1)] [] ?_;refine AU ?_;have hq:=OI h; subst hq;exact ⟨⟨Fr 20 [(4,.j 1)],[]⟩,AQ,.inr rfl,[.j 1],kr,kr⟩
    ·rw [CZ hb7] at h
     refine Aa ?_;refine AI AC [(4,.j 0)] [] ?_;refine AU ?_;have hq:=OI h; subst hq;exact ⟨⟨Fr 20 [(4,.j 0)],[]⟩,AQ,.inr rfl,[.j 0],kr,kr⟩
def I6:List AV->Option AV:=Db EA (fun a=>CH a.1 a.2.1) EB
theorem I7:XOk 124 I6:=by
 refine AY Tryz.func124 (c:=Fj) ?h2 ⟨Tryz.call124⟩ EA (fun a=>CH a.1 a.2.1) EB (fun a=>(by show 2<=20; decide)) ?h3 ?h4
 case h2=>kernel_rfl
 case h3=>intro b; kernel_rfl
 case h4=>exact fun a b h=>IL a.1 a.2.1 b h
/- trestle/court.plain$7 -/
noncomputable def IC:Code:=Br Tryz.f123
def DO (x0:An) (x1:An):Option (Int) :=
 (CH x0.1.1 x1.1.1).bind fun v1 =>
 some v1
def GJ:Cs (An×An×Unit):=(csC AF (csC AF csN))
def GX (r:Int):AV:=cdI.enc r
theorem J5 (x0:An) (x1:An) (r:Int) (h:DO x0 x1=some r):Sem E0 ⟨none,false⟩ IC ⟨Fr 12 (BW 0 (GJ.enc (x0,x1,()))),[]⟩ fun e s'=>(e = .normal\/e = .ret)/\∃ xs,EO E0.P s'.fr s'.hp Tryz.f123.results.toList=some xs/\ET xs=GX r:=by
 unfold DO at h;refine A4 (Bq (s1:=⟨Fr 12 [(0,AF.enc x0),(1,AF.enc x1)],[]⟩) AQ ?_)
 let p1:Option Blk:=some ⟨10,98,[AF.enc x1],false⟩
 let p2:Option Blk:=some ⟨10,98,[AF.enc x0],false⟩
 refine AI AC [(2,.pt 0 0 0),(3,.pt 1 0 0)] [p2,p1] ?_;refine AG ?_;obtain ⟨v1,hv1,h⟩:=OB h
 let p3:Nat×AV:=(4,.j v1)
 refine AL (s1:=⟨Fr 12 [p3],[]⟩) ?_ ?_
 ·refine AE (n:=12) AC 6 [(7,.st x0.1.1),(10,.st x1.1.1)] [p2,p1] kr ?_
  refine Ai (caps:=[]) (xs:=[.st x0.1.1,.st x1.1.1]) (u:=(x0.1.1,x1.1.1,())) rfl rfl I7 rfl (AB rfl) kr kr (AP (Al (c:=cdS) (v:=x0.1.1)) (AP (Al (c:=cdS) (v:=x1.1.1)) Bc)) (.inl kr) hv1 ?_;refine AE (n:=12) AC 1 [p3] [p2,p1] kr ?_;exact AJ rfl (Af [] trivial ⟨lv,trivial⟩)
 refine AU ?_;have hq:=OI h; subst hq;exact ⟨⟨Fr 12 [p3],[]⟩,AQ,.inr rfl,[.j v1],kr,kr⟩
def Lm:List AV->Option AV:=Db GJ (fun a=>DO a.1 a.2.1) GX
theorem L3:XOk 123 Lm:=by
 refine AY Tryz.func123 (c:=IC) ?h2 ⟨Tryz.call123⟩ GJ (fun a=>DO a.1 a.2.1) GX (fun a=>(by show 2<=12; decide)) ?h3 ?h4
 case h2=>kernel_rfl
 case h3=>intro b; kernel_rfl
 case h4=>exact fun a b h=>J5 a.1 a.2.1 b h
/- trestle/court.plain$3 -/
noncomputable def H8:Code:=Br Tryz.f118
def FA (x0:An) (x1:AD):Option (Bool) :=
 some (x0.1.2.2.2.2.1==x1.2.2.2.2)
def GE:Cs (An×AD×Unit):=(csC AF (csC (cdP AA) csN))
def GT (r:Bool):AV:=cdB.enc r
theorem J1 (x0:An) (x1:AD) (r:Bool) (h:FA x0 x1=some r):Sem E0 ⟨none,false⟩ H8 ⟨Fr 10 (BW 0 (GE.enc (x0,x1,()))),[]⟩ fun e s'=>(e = .normal\/e = .ret)/\∃ xs,EO E0.P s'.fr s'.hp Tryz.f118.results.toList=some xs/\ET xs=GT r:=by
 unfold FA at h;refine A4 (Bq (s1:=⟨Fr 10 [(0,AF.enc x0),(1,.pe (AA.enc x1) 0)],[]⟩) AQ ?_)
 let p1:Option Blk:=some ⟨10,98,[AF.enc x0],false⟩
 refine AI AC [(1,.pe (AA.enc x1) 0),(2,.pt 0 0 0)] [p1] ?_;refine AG ?_
 let p2:Nat×AV:=(3,.b (x0.1.2.2.2.2.1==x1.2.2.2.2))
 refine AL (s1:=⟨Fr 10 [p2],[]⟩) ?_ ?_
 ·refine AE (n:=10) AC 7 [p2] [p1] kr ?_
  exact AJ rfl (Af [] trivial ⟨lv,trivial⟩)
 refine AU ?_;have hq:=OI h; subst hq;exact ⟨⟨Fr 10 [p2],[]⟩,AQ,.inr rfl,[.b (x0.1.2.2.2.2.1==x1.2.2.2.2)],kr,kr⟩
def Li:List AV->Option AV:=Db GE (fun a=>FA a.1 a.2.1) GT
theorem Lz:XOk 118 Li:=by
 refine AY Tryz.func118 (c:=H8) ?h2 ⟨Tryz.call118⟩ GE (fun a=>FA a.1 a.2.1) GT (fun a=>(by show 2<=10; decide)) ?h3 ?h4
 case h2=>kernel_rfl
 case h3=>intro b; kernel_rfl
 case h4=>exact fun a b h=>J1 a.1 a.2.1 b h
/- trestle/court.named$1 -/
noncomputable def De:Code:=Br Tryz.f137
def Au (x0:An) (x1:AD) (x2:AD):Option (Int) :=
 (FA x0 x1).bind fun v1 =>
 if (!(v1==x2.2.2.1))=true then
 some 0
 else
 some 1
def CP:Cs (An×AD×AD×Unit):=(csC AF (csC (cdP (cdF 118 (csE (cdP AA)) (fun _=>rfl))) (csC (cdP AA) csN)))
def CU (r:Int):AV:=cdI.enc r
theorem FT (x0:An) (x1:AD) (x2:AD) (r:Int) (h:Au x0 x1 x2=some r):Sem E0 ⟨none,false⟩ De ⟨Fr 11 (BW 0 (CP.enc (x0,x1,x2,()))),[]⟩ fun e s'=>(e = .normal\/e = .ret)/\∃ xs,EO E0.P s'.fr s'.hp Tryz.f137.results.toList=some xs/\ET xs=CU r:=by
 unfold Au at h
 let p1:Nat×AV:=(2,.pe (AA.enc x2) 0)
 let p2:Nat×AV:=(1,.pe (.fn 118 [] [.pe (AA.enc x1) 0]) 0)
 refine A4 (Bq (s1:=⟨Fr 11 [(0,AF.enc x0),p2,p1],[]⟩) AQ ?_)
 let p3:Option Blk:=some ⟨10,98,[AF.enc x0],false⟩
 refine AI AC [p2,p1,(3,.pt 0 0 0)] [p3] ?_;refine AG ?_;refine AG ?_;obtain ⟨v1,hv1,h⟩:=OB h
 let p4:Nat×AV:=(10,.b (!(v1==x2.2.2.1)))
 refine Ep AC (s1:=⟨Fr 11 [p4],[]⟩) kr ?_ ?_
 ·refine BY (n:=11) AC 2 [p1,(5,.fn 118 [] [.pe (AA.enc x1) 0]),(6,AF.enc x0)] [p3] kr kr ?_
  refine Bt (caps:=[.pe (AA.enc x1) 0]) (xs:=[AF.enc x0]) (u:=(x0,x1,())) rfl rfl Lz rfl (AB rfl) kr kr (AP (Al (c:=AF) (v:=x0)) (AP (Al (c:=(cdP AA)) (v:=x1)) Bc)) kr hv1 ?_;refine BY (n:=11) AC 3 [p4] [p3] kr kr ?_;exact RunDS.done rfl (Af [] trivial ⟨lv,trivial⟩)
 refine AS (b:=(!(v1==x2.2.2.1))) kr (fun hb2=>?_) (fun hb2=>?_)
 ·rw [if_pos hb2] at h
  refine AI AC [(4,.j 0)] [] ?_;refine AU ?_;have hq:=OI h; subst hq;exact ⟨⟨Fr 11 [(4,.j 0)],[]⟩,AQ,.inr rfl,[.j 0],kr,kr⟩
 ·rw [CZ hb2] at h
  refine Aa ?_;refine AI AC [(4,.j 1)] [] ?_;refine AU ?_;have hq:=OI h; subst hq;exact ⟨⟨Fr 11 [(4,.j 1)],[]⟩,AQ,.inr rfl,[.j 1],kr,kr⟩
def Fu:List AV->Option AV:=Db CP (fun a=>Au a.1 a.2.1 a.2.2.1) CU
theorem F3:XOk 137 Fu:=by
 refine AY Tryz.func137 (c:=De) ?h2 ⟨Tryz.call137⟩ CP (fun a=>Au a.1 a.2.1 a.2.2.1) CU (fun a=>(by show 3<=11; decide)) ?h3 ?h4
 case h2=>kernel_rfl
 case h3=>intro b; kernel_rfl
 case h4=>exact fun a b h=>FT a.1 a.2.1 a.2.2.1 b h
/- trestle/court.plain$4 -/
noncomputable def H9:Code:=Br Tryz.f119
def FB (x0:An):Option (Bool) :=
 some x0.1.2.2.2.2.2.2.1
def GF:Cs (An×Unit):=(csC AF csN)
def GU (r:Bool):AV:=cdB.enc r
theorem J2 (x0:An) (r:Bool) (h:FB x0=some r):Sem E0 ⟨none,false⟩ H9 ⟨Fr 6 (BW 0 (GF.enc (x0,()))),[]⟩ fun e s'=>(e = .normal\/e = .ret)/\∃ xs,EO E0.P s'.fr s'.hp Tryz.f119.results.toList=some xs/\ET xs=GU r:=by
 unfold FB at h;refine A4 (Bq (s1:=⟨Fr 6 [(0,AF.enc x0)],[]⟩) AQ ?_)
 let p1:Option Blk:=some ⟨10,98,[AF.enc x0],false⟩
 refine AI AC [(1,.pt 0 0 0)] [p1] ?_;refine AG ?_
 let p2:Nat×AV:=(2,.b x0.1.2.2.2.2.2.2.1)
 refine AL (s1:=⟨Fr 6 [p2],[]⟩) ?_ ?_
 ·refine AE (n:=6) AC 4 [p2] [p1] kr ?_
  exact AJ rfl (Af [] trivial ⟨lv,trivial⟩)
 refine AU ?_;have hq:=OI h; subst hq;exact ⟨⟨Fr 6 [p2],[]⟩,AQ,.inr rfl,[.b x0.1.2.2.2.2.2.2.1],kr,kr⟩
def Lj:List AV->Option AV:=Db GF (fun a=>FB a.1) GU
theorem L0:XOk 119 Lj:=by
 refine AY Tryz.func119 (c:=H9) ?h2 ⟨Tryz.call119⟩ GF (fun a=>FB a.1) GU (fun a=>(by show 1<=6; decide)) ?h3 ?h4
 case h2=>kernel_rfl
 case h3=>intro b; kernel_rfl
 case h4=>exact fun a b h=>J2 a.1 b h
/- trestle/court.named$1 -/
noncomputable def Df:Code:=Br Tryz.f137
def Av (x0:An) (x2:AD):Option (Int) :=
 (FB x0).bind fun v1 =>
 if (!(v1==x2.2.2.1))=true then
 some 0
 else
 some 1
def CQ:Cs (An×Unit×AD×Unit):=(csC AF (csC (cdP (cdF 119 csN (fun _=>rfl))) (csC (cdP AA) csN)))
def CV (r:Int):AV:=cdI.enc r
theorem FU (x0:An) (x2:AD) (r:Int) (h:Av x0 x2=some r):Sem E0 ⟨none,false⟩ Df ⟨Fr 11 (BW 0 (CQ.enc (x0,(),x2,()))),[]⟩ fun e s'=>(e = .normal\/e = .ret)/\∃ xs,EO E0.P s'.fr s'.hp Tryz.f137.results.toList=some xs/\ET xs=CV r:=by
 unfold Av at h
 let p1:Nat×AV:=(2,.pe (AA.enc x2) 0)
 refine A4 (Bq (s1:=⟨Fr 11 [(0,AF.enc x0),(1,.pe (.fn 119 [] []) 0),p1],[]⟩) AQ ?_)
 let p2:Option Blk:=some ⟨10,98,[AF.enc x0],false⟩
 refine AI AC [(1,.pe (.fn 119 [] []) 0),p1,(3,.pt 0 0 0)] [p2] ?_;refine AG ?_;refine AG ?_;obtain ⟨v1,hv1,h⟩:=OB h
 let p3:Nat×AV:=(10,.b (!(v1==x2.2.2.1)))
 refine Ep AC (s1:=⟨Fr 11 [p3],[]⟩) kr ?_ ?_
 ·refine BY (n:=11) AC 2 [p1,(5,.fn 119 [] []),(6,AF.enc x0)] [p2] kr kr ?_
  refine Bt (caps:=[]) (xs:=[AF.enc x0]) (u:=(x0,())) rfl rfl L0 rfl (AB rfl) kr kr (AP (Al (c:=AF) (v:=x0)) Bc) kr hv1 ?_;refine BY (n:=11) AC 3 [p3] [p2] kr kr ?_;exact RunDS.done rfl (Af [] trivial ⟨lv,trivial⟩)
 refine AS (b:=(!(v1==x2.2.2.1))) kr (fun hb2=>?_) (fun hb2=>?_)
 ·rw [if_pos hb2] at h
  refine AI AC [(4,.j 0)] [] ?_;refine AU ?_;have hq:=OI h; subst hq;exact ⟨⟨Fr 11 [(4,.j 0)],[]⟩,AQ,.inr rfl,[.j 0],kr,kr⟩
 ·rw [CZ hb2] at h
  refine Aa ?_;refine AI AC [(4,.j 1)] [] ?_;refine AU ?_;have hq:=OI h; subst hq;exact ⟨⟨Fr 11 [(4,.j 1)],[]⟩,AQ,.inr rfl,[.j 1],kr,kr⟩
def Fv:List AV->Option AV:=Db CQ (fun a=>Av a.1 a.2.2.1) CV
theorem F4:XOk 137 Fv:=by
 refine AY Tryz.func137 (c:=Df) ?h2 ⟨Tryz.call137⟩ CQ (fun a=>Av a.1 a.2.2.1) CV (fun a=>(by show 3<=11; decide)) ?h3 ?h4
 case h2=>kernel_rfl
 case h3=>intro b; kernel_rfl
 case h4=>exact fun a b h=>FU a.1 a.2.2.1 b h
/- trestle/court.plain$5$1 -/
noncomputable def G3:Code:=Br Tryz.f121
def C7 (x0:(List UInt8)) (x1:AD):Option (Bool) :=
 (Ad x1.2.2.2.1 x0).bind fun v1 =>
 some v1
def FF:Cs ((List UInt8)×AD×Unit):=(csC cdS (csC (cdP AA) csN))
def FK (r:Bool):AV:=cdB.enc r
theorem JK (x0:(List UInt8)) (x1:AD) (r:Bool) (h:C7 x0 x1=some r):Sem E0 ⟨none,false⟩ G3 ⟨Fr 8 (BW 0 (FF.enc (x0,x1,()))),[]⟩ fun e s'=>(e = .normal\/e = .ret)/\∃ xs,EO E0.P s'.fr s'.hp Tryz.f121.results.toList=some xs/\ET xs=FK r:=by
 unfold C7 at h;refine A4 (Bq (s1:=⟨Fr 8 [(0,.st x0),(1,.pe (AA.enc x1) 0)],[]⟩) AQ ?_);refine AI AC [(0,.st x0),(1,.pe (AA.enc x1) 0)] [] ?_;refine AG ?_;obtain ⟨v1,hv1,h⟩:=OB h;refine AL (s1:=⟨Fr 8 [(3,.b v1)],[]⟩) ?_ ?_
 ·refine AE (n:=8) AC 3 [(5,.sl 1 (x1.2.2.2.1.map cdS.enc)),(6,.st x0)] [] kr ?_
  refine Ai (caps:=[]) (xs:=[.sl 1 (x1.2.2.2.1.map cdS.enc),.st x0]) (u:=(x1.2.2.2.1,x0,())) rfl rfl B7 rfl (AB rfl) kr kr (AP (Al (c:=(cdL 1 cdS)) (v:=x1.2.2.2.1)) (AP (Al (c:=cdS) (v:=x0)) Bc)) (.inl kr) hv1 ?_;exact As AC
 refine AU ?_;have hq:=OI h; subst hq;exact ⟨⟨Fr 8 [(3,.b v1)],[]⟩,AQ,.inr rfl,[.b v1],kr,kr⟩
def KO:List AV->Option AV:=Db FF (fun a=>C7 a.1 a.2.1) FK
theorem KT:XOk 121 KO:=by
 refine AY Tryz.func121 (c:=G3) ?h2 ⟨Tryz.call121⟩ FF (fun a=>C7 a.1 a.2.1) FK (fun a=>(by show 2<=8; decide)) ?h3 ?h4
 case h2=>kernel_rfl
 case h3=>intro b; kernel_rfl
 case h4=>exact fun a b h=>JK a.1 a.2.1 b h
/- slices.IndexFunc[[]string,string] -/
noncomputable def BC:Code:=Br Tryz.f79
def Ae (x0:(List (List UInt8))) (x1:AD):Nat->Int->Option ((Unit) ⊕ (Int))
 | 0,_=>none
 | f + 1,c1 =>
  if (decide (c1 < (x0.length:Int)))=true then
  (idx x0 c1).bind fun v3 =>
  (C7 v3 x1).bind fun v4 =>
  if v4=true then
  some (.inr c1)
  else
  Ae x0 x1 f (wr .i64 (c1 + 1))
  else
  some (.inl ())
def Ab (x0:(List (List UInt8))) (x1:AD):Option (Int) :=
 (Ae x0 x1 100000 0).bind fun r7 =>
 match r7 with
 | (.inl w8) =>
  some (-1)
 | (.inr w9) =>
  some w9
def BD:Cs ((List (List UInt8))×AD×Unit):=(csC (cdL 1 cdS) (csC (cdF 121 (csE (cdP AA)) (fun _=>rfl)) csN))
def BF (r:Int):AV:=cdI.enc r
theorem Bp (x0:(List (List UInt8))) (x1:AD):∀ (f:Nat) (c1:Int) (r:(Unit) ⊕ (Int)),Ae x0 x1 f c1=some r->SemN E0 ⟨none,false⟩ (pc BC [1,0,1,0,0]) f ⟨Fr 19 [(0,.sl 1 (x0.map cdS.enc)),(1,.fn 121 [] [.pe (AA.enc x1) 0]),(7,.j (x0.length:Int)),(8,.j c1)],[]⟩ (fun e s=>match r with
 | (.inl w)=>e=(.exit 0)/\Wk E0 s ⟨Fr 19 [],[]⟩
 | (.inr w)=>e = .ret/\Wk E0 s ⟨Fr 19 [(4,.j w)],[]⟩):=by
 intro f;induction f with
 | zero=>intro c1 r h; cases h
 | succ f ih0 =>
  intro c1 r h
  have ih:=fun (c1:Int)=>ih0 c1 r
  unfold Ae at h;refine D8 ?_
  let p1:Nat×AV:=(8,.j c1)
  let p2:Nat×AV:=(7,.j (x0.length:Int))
  let p3:Nat×AV:=(1,.fn 121 [] [.pe (AA.enc x1) 0])
  let p4:Nat×AV:=(0,.sl 1 (x0.map cdS.enc))
  refine AI AC [p4,p3,p2,p1,(9,.b (decide (c1 < (x0.length:Int))))] [] ?_;refine AG ?_;refine AS (b:=(decide (c1 < (x0.length:Int)))) kr (fun hb2=>?_) (fun hb2=>?_)
  ·rw [if_pos hb2] at h
   refine Aa ?_;refine AG ?_;refine Bm ?_
   let p5:Nat×AV:=(5,.j c1)
   refine AI AC [p4,p3,p5,p2,p1] [] ?_;refine AG ?_;obtain ⟨v3,hv3,h⟩:=OB h;obtain ⟨v4,hv4,h⟩:=OB h;refine AL (s1:=⟨Fr 19 [p4,p3,p5,p2,p1,(16,.b v4)],[]⟩) ?_ ?_
   ·let p6:Nat×AV:=(11,.fn 121 [] [.pe (AA.enc x1) 0])
    refine AE (n:=19) AC 3 [p4,p3,p5,p2,p1,p6,(12,.sl 1 (x0.map cdS.enc)),(13,.j c1)] [] kr ?_;refine Ak AC 0 rfl (ED (AB rfl) rfl (AK (a:= .sl 1 (x0.map cdS.enc)) (b:= .j c1) kr kr (Hw (e:=cdS.enc) (el:=9) (k:=1) (ki:= .i64) kr kr hv3))) ?_;refine AE (n:=19) AC 1 [p4,p3,p5,p2,p1,p6,(15,.st v3)] [] kr ?_;refine Ai (caps:=[.pe (AA.enc x1) 0]) (xs:=[.st v3]) (u:=(v3,x1,())) rfl rfl KT rfl (AB rfl) kr kr (AP (Al (c:=cdS) (v:=v3)) (AP (Al (c:=(cdP AA)) (v:=x1)) Bc)) (.inl kr) hv4 ?_;exact AJ rfl AQ
   refine AS (b:=v4) kr (fun hb5=>?_) (fun hb5=>?_)
   ·rw [if_pos hb5] at h
    refine AI AC [(4,.j c1)] [] ?_;refine AU ?_;have hq:=OI h; subst hq;exact ⟨rfl,AQ⟩
   ·rw [CZ hb5] at h
    refine Aa ?_
    let p7:Nat×AV:=(8,.j (wr .i64 (c1 + 1)))
    refine EK AC [p4,p3,p2,p7] [] ?_;exact CE (s1:=⟨Fr 19 [p4,p3,p2,p7],[]⟩) AQ (ih (wr .i64 (c1 + 1)) h)
  ·rw [CZ hb2] at h
   refine En ?_;have hq:=OI h; subst hq;exact ⟨rfl,AQ⟩
theorem DC (x0:(List (List UInt8))) (x1:AD) (r:Int) (h:Ab x0 x1=some r):Sem E0 ⟨none,false⟩ BC ⟨Fr 19 (BW 0 (BD.enc (x0,x1,()))),[]⟩ fun e s'=>(e = .normal\/e = .ret)/\∃ xs,EO E0.P s'.fr s'.hp Tryz.f79.results.toList=some xs/\ET xs=BF r:=by
 unfold Ab at h
 let p1:Nat×AV:=(1,.fn 121 [] [.pe (AA.enc x1) 0])
 let p2:Nat×AV:=(0,.sl 1 (x0.map cdS.enc))
 refine A4 (Bq (s1:=⟨Fr 19 [p2,p1],[]⟩) AQ ?_);refine AI AC [p2,p1] [] ?_;refine AG ?_;refine AG ?_
 let p3:Nat×AV:=(8,.j 0)
 let p4:Nat×AV:=(7,.j (x0.length:Int))
 refine AL (s1:=⟨Fr 19 [p2,p1,p4,p3],[]⟩) ?_ ?_
 ·refine AE (n:=19) AC 1 [p2,p1,(6,.sl 1 (x0.map cdS.enc))] [] kr ?_
  refine Ak AC 0 rfl (ED (AB rfl) rfl (Ij (a:= .sl 1 (x0.map cdS.enc)) kr (Fp (el:=9) kr))) ?_;exact As AC
 refine Bm ?_;obtain ⟨r7,hr7,h⟩:=OB h;refine Eo (n:=100000) ?_;rcases r7 with w8 | w9
 ·try dsimp only at h
  refine Cu (CE (s1:=⟨Fr 19 [p2,p1,p4,p3],[]⟩) AQ (Bp x0 x1 _ 0 _ hr7)) ?_;refine AI AC [(4,.j (-1))] [] ?_;refine AU ?_;have hq:=OI h; subst hq;exact ⟨⟨Fr 19 [(4,.j (-1))],[]⟩,AQ,.inr rfl,[.j (-1)],kr,kr⟩
 ·try dsimp only at h
  refine Cu (CE (s1:=⟨Fr 19 [p2,p1,p4,p3],[]⟩) AQ (Bp x0 x1 _ 0 _ hr7)) ?_;have hq:=OI h; subst hq;exact ⟨⟨Fr 19 [(4,.j w9)],[]⟩,AQ,.inr rfl,[.j w9],kr,kr⟩
def DK:List AV->Option AV:=Db BD (fun a=>Ab a.1 a.2.1) BF
theorem DL:XOk 79 DK:=by
 refine AY Tryz.func79 (c:=BC) ?h2 ⟨Tryz.call79⟩ BD (fun a=>Ab a.1 a.2.1) BF (fun a=>(by show 2<=19; decide)) ?h3 ?h4
 case h2=>kernel_rfl
 case h3=>intro b; kernel_rfl
 case h4=>exact fun a b h=>DC a.1 a.2.1 b h
/- slices.ContainsFunc[[]string,string] -/
noncomputable def Bo:Code:=Br Tryz.f48
def AO (x0:(List (List UInt8))) (x1:AD):Option (Bool) :=
 (Ab x0 x1).bind fun v1 =>
 some (decide (v1≥0))
def A5:Cs ((List (List UInt8))×AD×Unit):=(csC (cdL 1 cdS) (csC (cdF 121 (csE (cdP AA)) (fun _=>rfl)) csN))
def A6 (r:Bool):AV:=cdB.enc r
theorem Ct (x0:(List (List UInt8))) (x1:AD) (r:Bool) (h:AO x0 x1=some r):Sem E0 ⟨none,false⟩ Bo ⟨Fr 9 (BW 0 (A5.enc (x0,x1,()))),[]⟩ fun e s'=>(e = .normal\/e = .ret)/\∃ xs,EO E0.P s'.fr s'.hp Tryz.f48.results.toList=some xs/\ET xs=A6 r:=by
 unfold AO at h
 let p1:Nat×AV:=(1,.fn 121 [] [.pe (AA.enc x1) 0])
 refine A4 (Bq (s1:=⟨Fr 9 [(0,.sl 1 (x0.map cdS.enc)),p1],[]⟩) AQ ?_);refine AI AC [(0,.sl 1 (x0.map cdS.enc)),p1] [] ?_;refine AG ?_;obtain ⟨v1,hv1,h⟩:=OB h
 let p2:Nat×AV:=(4,.b (decide (v1≥0)))
 refine AL (s1:=⟨Fr 9 [p2],[]⟩) ?_ ?_
 ·refine AE (n:=9) AC 2 [(5,.sl 1 (x0.map cdS.enc)),(6,.fn 121 [] [.pe (AA.enc x1) 0])] [] kr ?_
  refine Ai (caps:=[]) (xs:=[.sl 1 (x0.map cdS.enc),.fn 121 [] [.pe (AA.enc x1) 0]]) (u:=(x0,x1,())) rfl rfl DL rfl (AB rfl) kr kr (AP (Al (c:=(cdL 1 cdS)) (v:=x0)) (AP (Sm.fn (Mn (Al (c:=(cdP AA)) (v:=x1)))) Bc)) (.inl kr) hv1 ?_;exact As AC
 refine AU ?_;have hq:=OI h; subst hq;exact ⟨⟨Fr 9 [p2],[]⟩,AQ,.inr rfl,[.b (decide (v1≥0))],kr,kr⟩
def C4:List AV->Option AV:=Db A5 (fun a=>AO a.1 a.2.1) A6
theorem C5:XOk 48 C4:=by
 refine AY Tryz.func48 (c:=Bo) ?h2 ⟨Tryz.call48⟩ A5 (fun a=>AO a.1 a.2.1) A6 (fun a=>(by show 2<=9; decide)) ?h3 ?h4
 case h2=>kernel_rfl
 case h3=>intro b; kernel_rfl
 case h4=>exact fun a b h=>Ct a.1 a.2.1 b h
/- trestle/court.plain$5 -/
noncomputable def IA:Code:=Br Tryz.f120
def EF (x0:An) (x1:AD):Option (Bool) :=
 (AO x0.1.2.2.2.2.2.2.2.2 x1).bind fun v1 =>
 some v1
def GG:Cs (An×AD×Unit):=(csC AF (csC (cdP AA) csN))
def GV (r:Bool):AV:=cdB.enc r
theorem J3 (x0:An) (x1:AD) (r:Bool) (h:EF x0 x1=some r):Sem E0 ⟨none,false⟩ IA ⟨Fr 9 (BW 0 (GG.enc (x0,x1,()))),[]⟩ fun e s'=>(e = .normal\/e = .ret)/\∃ xs,EO E0.P s'.fr s'.hp Tryz.f120.results.toList=some xs/\ET xs=GV r:=by
 unfold EF at h;refine A4 (Bq (s1:=⟨Fr 9 [(0,AF.enc x0),(1,.pe (AA.enc x1) 0)],[]⟩) AQ ?_)
 let p1:Option Blk:=some ⟨10,98,[AF.enc x0],false⟩
 refine AI AC [(1,.pe (AA.enc x1) 0),(2,.pt 0 0 0)] [p1] ?_;refine AG ?_;obtain ⟨v1,hv1,h⟩:=OB h
 let p2:Nat×AV:=(3,.b v1)
 refine AL (s1:=⟨Fr 9 [p2],[]⟩) ?_ ?_
 ·refine AE (n:=9) AC 4 [(6,.sl 1 (x0.1.2.2.2.2.2.2.2.2.map cdS.enc)),(7,.fn 121 [] [.pe (AA.enc x1) 0])] [p1] kr ?_
  refine Ai (caps:=[]) (xs:=[.sl 1 (x0.1.2.2.2.2.2.2.2.2.map cdS.enc),.fn 121 [] [.pe (AA.enc x1) 0]]) (u:=(x0.1.2.2.2.2.2.2.2.2,x1,())) rfl rfl C5 rfl (AB rfl) kr kr (AP (Al (c:=(cdL 1 cdS)) (v:=x0.1.2.2.2.2.2.2.2.2)) (AP (Sm.fn (Mn (Al (c:=(cdP AA)) (v:=x1)))) Bc)) (.inl kr) hv1 ?_;refine AE (n:=9) AC 1 [p2] [p1] kr ?_;exact AJ rfl (Af [] trivial ⟨lv,trivial⟩)
 refine AU ?_;have hq:=OI h; subst hq;exact ⟨⟨Fr 9 [p2],[]⟩,AQ,.inr rfl,[.b v1],kr,kr⟩
def Lk:List AV->Option AV:=Db GG (fun a=>EF a.1 a.2.1) GV
theorem L1:XOk 120 Lk:=by
 refine AY Tryz.func120 (c:=IA) ?h2 ⟨Tryz.call120⟩ GG (fun a=>EF a.1 a.2.1) GV (fun a=>(by show 2<=9; decide)) ?h3 ?h4
 case h2=>kernel_rfl
 case h3=>intro b; kernel_rfl
 case h4=>exact fun a b h=>J3 a.1 a.2.1 b h
/- trestle/court.named$1 -/
noncomputable def Dg:Code:=Br Tryz.f137
def Aq (x0:An) (x1:AD) (x2:AD):Option (Int) :=
 (EF x0 x1).bind fun v1 =>
 if (!(v1==x2.2.2.1))=true then
 some 0
 else
 some 1
def CR:Cs (An×AD×AD×Unit):=(csC AF (csC (cdP (cdF 120 (csE (cdP AA)) (fun _=>rfl))) (csC (cdP AA) csN)))
def CW (r:Int):AV:=cdI.enc r
theorem FV (x0:An) (x1:AD) (x2:AD) (r:Int) (h:Aq x0 x1 x2=some r):Sem E0 ⟨none,false⟩ Dg ⟨Fr 11 (BW 0 (CR.enc (x0,x1,x2,()))),[]⟩ fun e s'=>(e = .normal\/e = .ret)/\∃ xs,EO E0.P s'.fr s'.hp Tryz.f137.results.toList=some xs/\ET xs=CW r:=by
 unfold Aq at h
 let p1:Nat×AV:=(2,.pe (AA.enc x2) 0)
 let p2:Nat×AV:=(1,.pe (.fn 120 [] [.pe (AA.enc x1) 0]) 0)
 refine A4 (Bq (s1:=⟨Fr 11 [(0,AF.enc x0),p2,p1],[]⟩) AQ ?_)
 let p3:Option Blk:=some ⟨10,98,[AF.enc x0],false⟩
 refine AI AC [p2,p1,(3,.pt 0 0 0)] [p3] ?_;refine AG ?_;refine AG ?_;obtain ⟨v1,hv1,h⟩:=OB h
 let p4:Nat×AV:=(10,.b (!(v1==x2.2.2.1)))
 refine Ep AC (s1:=⟨Fr 11 [p4],[]⟩) kr ?_ ?_
 ·refine BY (n:=11) AC 2 [p1,(5,.fn 120 [] [.pe (AA.enc x1) 0]),(6,AF.enc x0)] [p3] kr kr ?_
  refine Bt (caps:=[.pe (AA.enc x1) 0]) (xs:=[AF.enc x0]) (u:=(x0,x1,())) rfl rfl L1 rfl (AB rfl) kr kr (AP (Al (c:=AF) (v:=x0)) (AP (Al (c:=(cdP AA)) (v:=x1)) Bc)) kr hv1 ?_;refine BY (n:=11) AC 3 [p4] [p3] kr kr ?_;exact RunDS.done rfl (Af [] trivial ⟨lv,trivial⟩)
 refine AS (b:=(!(v1==x2.2.2.1))) kr (fun hb2=>?_) (fun hb2=>?_)
 ·rw [if_pos hb2] at h
  refine AI AC [(4,.j 0)] [] ?_;refine AU ?_;have hq:=OI h; subst hq;exact ⟨⟨Fr 11 [(4,.j 0)],[]⟩,AQ,.inr rfl,[.j 0],kr,kr⟩
 ·rw [CZ hb2] at h
  refine Aa ?_;refine AI AC [(4,.j 1)] [] ?_;refine AU ?_;have hq:=OI h; subst hq;exact ⟨⟨Fr 11 [(4,.j 1)],[]⟩,AQ,.inr rfl,[.j 1],kr,kr⟩
def Fx:List AV->Option AV:=Db CR (fun a=>Aq a.1 a.2.1 a.2.2.1) CW
theorem F5:XOk 137 Fx:=by
 refine AY Tryz.func137 (c:=Dg) ?h2 ⟨Tryz.call137⟩ CR (fun a=>Aq a.1 a.2.1 a.2.2.1) CW (fun a=>(by show 3<=11; decide)) ?h3 ?h4
 case h2=>kernel_rfl
 case h3=>intro b; kernel_rfl
 case h4=>exact fun a b h=>FV a.1 a.2.1 a.2.2.1 b h
/- trestle/court.plain$6 -/
noncomputable def IB:Code:=Br Tryz.f122
def EG (x0:An) (x1:AD):Option (Bool) :=
 (Ad x1.2.2.2.1 x0.1.2.2.1).bind fun v1 =>
 some v1
def GH:Cs (An×AD×Unit):=(csC AF (csC (cdP AA) csN))
def GW (r:Bool):AV:=cdB.enc r
theorem J4 (x0:An) (x1:AD) (r:Bool) (h:EG x0 x1=some r):Sem E0 ⟨none,false⟩ IB ⟨Fr 10 (BW 0 (GH.enc (x0,x1,()))),[]⟩ fun e s'=>(e = .normal\/e = .ret)/\∃ xs,EO E0.P s'.fr s'.hp Tryz.f122.results.toList=some xs/\ET xs=GW r:=by
 unfold EG at h;refine A4 (Bq (s1:=⟨Fr 10 [(0,AF.enc x0),(1,.pe (AA.enc x1) 0)],[]⟩) AQ ?_)
 let p1:Option Blk:=some ⟨10,98,[AF.enc x0],false⟩
 refine AI AC [(1,.pe (AA.enc x1) 0),(2,.pt 0 0 0)] [p1] ?_;refine AG ?_;obtain ⟨v1,hv1,h⟩:=OB h
 let p2:Nat×AV:=(3,.b v1)
 refine AL (s1:=⟨Fr 10 [p2],[]⟩) ?_ ?_
 ·refine AE (n:=10) AC 5 [(5,.sl 1 (x1.2.2.2.1.map cdS.enc)),(8,.st x0.1.2.2.1)] [p1] kr ?_
  refine Ai (caps:=[]) (xs:=[.sl 1 (x1.2.2.2.1.map cdS.enc),.st x0.1.2.2.1]) (u:=(x1.2.2.2.1,x0.1.2.2.1,())) rfl rfl B7 rfl (AB rfl) kr kr (AP (Al (c:=(cdL 1 cdS)) (v:=x1.2.2.2.1)) (AP (Al (c:=cdS) (v:=x0.1.2.2.1)) Bc)) (.inl kr) hv1 ?_;refine AE (n:=10) AC 1 [p2] [p1] kr ?_;exact AJ rfl (Af [] trivial ⟨lv,trivial⟩)
 refine AU ?_;have hq:=OI h; subst hq;exact ⟨⟨Fr 10 [p2],[]⟩,AQ,.inr rfl,[.b v1],kr,kr⟩
def Ll:List AV->Option AV:=Db GH (fun a=>EG a.1 a.2.1) GW
theorem L2:XOk 122 Ll:=by
 refine AY Tryz.func122 (c:=IB) ?h2 ⟨Tryz.call122⟩ GH (fun a=>EG a.1 a.2.1) GW (fun a=>(by show 2<=10; decide)) ?h3 ?h4
 case h2=>kernel_rfl
 case h3=>intro b; kernel_rfl
 case h4=>exact fun a b h=>J4 a.1 a.2.1 b h
/- trestle/court.named$1 -/
noncomputable def Dh:Code:=Br Tryz.f137
def Ar (x0:An) (x1:AD) (x2:AD):Option (Int) :=
 (EG x0 x1).bind fun v1 =>
 if (!(v1==x2.2.2.1))=true then
 some 0
 else
 some 1
def CT:Cs (An×AD×AD×Unit):=(csC AF (csC (cdP (cdF 122 (csE (cdP AA)) (fun _=>rfl))) (csC (cdP AA) csN)))
def CX (r:Int):AV:=cdI.enc r
theorem FW (x0:An) (x1:AD) (x2:AD) (r:Int) (h:Ar x0 x1 x2=some r):Sem E0 ⟨none,false⟩ Dh ⟨Fr 11 (BW 0 (CT.enc (x0,x1,x2,()))),[]⟩ fun e s'=>(e = .normal\/e = .ret)/\∃ xs,EO E0.P s'.fr s'.hp Tryz.f137.results.toList=some xs/\ET xs=CX r:=by
 unfold Ar at h
 let p1:Nat×AV:=(2,.pe (AA.enc x2) 0)
 let p2:Nat×AV:=(1,.pe (.fn 122 [] [.pe (AA.enc x1) 0]) 0)
 refine A4 (Bq (s1:=⟨Fr 11 [(0,AF.enc x0),p2,p1],[]⟩) AQ ?_)
 let p3:Option Blk:=some ⟨10,98,[AF.enc x0],false⟩
 refine AI AC [p2,p1,(3,.pt 0 0 0)] [p3] ?_;refine AG ?_;refine AG ?_;obtain ⟨v1,hv1,h⟩:=OB h
 let p4:Nat×AV:=(10,.b (!(v1==x2.2.2.1)))
 refine Ep AC (s1:=⟨Fr 11 [p4],[]⟩) kr ?_ ?_
 ·refine BY (n:=11) AC 2 [p1,(5,.fn 122 [] [.pe (AA.enc x1) 0]),(6,AF.enc x0)] [p3] kr kr ?_
  refine Bt (caps:=[.pe (AA.enc x1) 0]) (xs:=[AF.enc x0]) (u:=(x0,x1,())) rfl rfl L2 rfl (AB rfl) kr kr (AP (Al (c:=AF) (v:=x0)) (AP (Al (c:=(cdP AA)) (v:=x1)) Bc)) kr hv1 ?_;refine BY (n:=11) AC 3 [p4] [p3] kr kr ?_;exact RunDS.done rfl (Af [] trivial ⟨lv,trivial⟩)
 refine AS (b:=(!(v1==x2.2.2.1))) kr (fun hb2=>?_) (fun hb2=>?_)
 ·rw [if_pos hb2] at h
  refine AI AC [(4,.j 0)] [] ?_;refine AU ?_;have hq:=OI h; subst hq;exact ⟨⟨Fr 11 [(4,.j 0)],[]⟩,AQ,.inr rfl,[.j 0],kr,kr⟩
 ·rw [CZ hb2] at h
  refine Aa ?_;refine AI AC [(4,.j 1)] [] ?_;refine AU ?_;have hq:=OI h; subst hq;exact ⟨⟨Fr 11 [(4,.j 1)],[]⟩,AQ,.inr rfl,[.j 1],kr,kr⟩
def Fy:List AV->Option AV:=Db CT (fun a=>Ar a.1 a.2.1 a.2.2.1) CX
theorem F6:XOk 137 Fy:=by
 refine AY Tryz.func137 (c:=Dh) ?h2 ⟨Tryz.call137⟩ CT (fun a=>Ar a.1 a.2.1 a.2.2.1) CX (fun a=>(by show 3<=11; decide)) ?h3 ?h4
 case h2=>kernel_rfl
 case h3=>intro b; kernel_rfl
 case h4=>exact fun a b h=>FW a.1 a.2.1 a.2.2.1 b h
/- trestle/court.placed$1 -/
noncomputable def HW:Code:=Br Tryz.f139
def B4 (x0:Int):Option (Bool) :=
 (if (decide (x0≥0))=true then some (decide (x0<=63)) else some false).bind fun j2 =>
 some j2
def FZ:Cs (Int×Unit):=(csC cdI csN)
def Fa (r:Bool):AV:=cdB.enc r
theorem JZ (x0:Int) (r:Bool) (h:B4 x0=some r):Sem E0 ⟨none,false⟩ HW ⟨Fr 9 (BW 0 (FZ.enc (x0,()))),[]⟩ fun e s'=>(e = .normal\/e = .ret)/\∃ xs,EO E0.P s'.fr s'.hp Tryz.f139.results.toList=some xs/\ET xs=Fa r:=by
 unfold B4 at h;refine A4 (Bq (s1:=⟨Fr 9 [(0,.j x0)],[]⟩) AQ ?_);refine AI AC [(0,.j x0)] [] ?_;refine AG ?_;obtain ⟨j2,hj2,h⟩:=OB h;refine AL (s1:=⟨Fr 9 [(2,.b j2)],[]⟩) ?_ ?_
 ·refine AE (n:=9) AC 3 [(0,.j x0),(5,.b (decide (x0≥0)))] [] kr ?_
  rcases BE (decide (x0≥0)) with hc3 | hc3
  ·rw [if_pos hc3] at hj2
   rw [hc3];refine AE (n:=9) AC 4 [(2,.b (decide (x0<=63)))] [] kr ?_;have hq:=OI hj2; subst hq;exact AJ rfl AQ
  ·rw [CZ hc3] at hj2
   rw [hc3];refine AE (n:=9) AC 4 [(2,.b false)] [] kr ?_;have hq:=OI hj2; subst hq;exact AJ rfl AQ
 refine AU ?_;have hq:=OI h; subst hq;exact ⟨⟨Fr 9 [(2,.b j2)],[]⟩,AQ,.inr rfl,[.b j2],kr,kr⟩
def Kn:List AV->Option AV:=Db FZ (fun a=>B4 a.1) Fa
theorem EZ:XOk 139 Kn:=by
 refine AY Tryz.func139 (c:=HW) ?h2 ⟨Tryz.call139⟩ FZ (fun a=>B4 a.1) Fa (fun a=>(by show 1<=9; decide)) ?h3 ?h4
 case h2=>kernel_rfl
 case h3=>intro b; kernel_rfl
 case h4=>exact fun a b h=>JZ a.1 b h
/- trestle/court.plain$8 -/
noncomputable def ID:Code:=Br Tryz.f126
def Cv (x0:Int) (x1:AD):Option (Int) :=
 some ((wr .i64 ((wr .i64 (x0 * (wr .i64 ((wr .i64 (2 * x1.2.2.2.2)) + 1)))) + x1.2.2.2.2)).tmod 64)
def GK:Cs (Int×AD×Unit):=(csC cdI (csC (cdP AA) csN))
def GY (r:Int):AV:=cdI.enc r
theorem J6 (x0:Int) (x1:AD) (r:Int) (h:Cv x0 x1=some r):Sem E0 ⟨none,false⟩ ID ⟨Fr 14 (BW 0 (GK.enc (x0,x1,()))),[]⟩ fun e s'=>(e = .normal\/e = .ret)/\∃ xs,EO E0.P s'.fr s'.hp Tryz.f126.results.toList=some xs/\ET xs=GY r:=by
 unfold Cv at h;refine A4 (Bq (s1:=⟨Fr 14 [(0,.j x0),(1,.pe (AA.enc x1) 0)],[]⟩) AQ ?_);refine AI AC [(0,.j x0),(1,.pe (AA.enc x1) 0)] [] ?_
 let p1:Nat×AV:=(3,.j ((wr .i64 ((wr .i64 (x0 * (wr .i64 ((wr .i64 (2 * x1.2.2.2.2)) + 1)))) + x1.2.2.2.2)).tmod 64))
 refine AI AC [p1] [] ?_;refine AU ?_;have hq:=OI h; subst hq;exact ⟨⟨Fr 14 [p1],[]⟩,AQ,.inr rfl,[.j ((wr .i64 ((wr .i64 (x0 * (wr .i64 ((wr .i64 (2 * x1.2.2.2.2)) + 1)))) + x1.2.2.2.2)).tmod 64)],kr,kr⟩
def Ln:List AV->Option AV:=Db GK (fun a=>Cv a.1 a.2.1) GY
theorem Iu:XOk 126 Ln:=by
 refine AY Tryz.func126 (c:=ID) ?h2 ⟨Tryz.call126⟩ GK (fun a=>Cv a.1 a.2.1) GY (fun a=>(by show 2<=14; decide)) ?h3 ?h4
 case h2=>kernel_rfl
 case h3=>intro b; kernel_rfl
 case h4=>exact fun a b h=>J6 a.1 a.2.1 b h
/- trestle/court.placed$2 -/
noncomputable def B8:Code:=Br Tryz.f140
def AW (x0:An) (x1:An) (x3:AD):Option (Int) :=
 (B4 x0.2).bind fun v1 =>
 (if (!v1)=true then some true else (B4 x1.2).bind fun v2 =>
 some (!v2)).bind fun j4 =>
 if j4=true then
 some 0
 else
 (Cv x0.2 x3).bind fun v6 =>
 (Cv x1.2 x3).bind fun v7 =>
 (Ba v6 v7).bind fun v8 =>
 some v8
def BL:Cs (An×An×Unit×AD×Unit):=(csC AF (csC AF (csC (cdP (cdF 139 csN (fun _=>rfl))) (csC (cdP (cdF 126 (csE (cdP AA)) (fun _=>rfl))) csN))))
def BO (r:Int):AV:=cdI.enc r
theorem DH (x0:An) (x1:An) (x3:AD) (r:Int) (h:AW x0 x1 x3=some r):Sem E0 ⟨none,false⟩ B8 ⟨Fr 28 (BW 0 (BL.enc (x0,x1,(),x3,()))),[]⟩ fun e s'=>(e = .normal\/e = .ret)/\∃ xs,EO E0.P s'.fr s'.hp Tryz.f140.results.toList=some xs/\ET xs=BO r:=by
 unfold AW at h;refine A4 (Bq (s1:=⟨Fr 28 [(0,AF.enc x0),(1,AF.enc x1),(2,.pe (.fn 139 [] []) 0),(3,.pe (.fn 126 [] [.pe (AA.enc x3) 0]) 0)],[]⟩) AQ ?_);refine AI AC [(2,.pe (.fn 139 [] []) 0),(3,.pe (.fn 126 [] [.pe (AA.enc x3) 0]) 0),(4,.pt 0 0 0),(5,.pt 1 0 0)] [some ⟨10,98,[AF.enc x0],false⟩,some ⟨10,98,[AF.enc x1],false⟩] ?_;refine AG ?_;refine AG ?_;obtain ⟨v1,hv1,h⟩:=OB h;obtain ⟨j4,hj4,h⟩:=OB h;refine AL (s1:=⟨Fr 28 [(3,.pe (.fn 126 [] [.pe (AA.enc x3) 0]) 0),(4,.pt 0 0 0),(5,.pt 1 0 0),(18,.b j4)],[some ⟨10,98,[AF.enc x0],false⟩,some ⟨10,98,[AF.enc x1],false⟩]⟩) ?_ ?_
 ·refine AE (n:=28) AC 3 [(2,.pe (.fn 139 [] []) 0),(3,.pe (.fn 126 [] [.pe (AA.enc x3) 0]) 0),(4,.pt 0 0 0),(5,.pt 1 0 0),(7,.fn 139 [] []),(9,.j x0.2)] [some ⟨10,98,[AF.enc x0],false⟩,some ⟨10,98,[AF.enc x1],false⟩] kr ?_
  refine Ai (caps:=[]) (xs:=[.j x0.2]) (u:=(x0.2,())) rfl rfl EZ rfl (AB rfl) kr kr (AP (Al (c:=cdI) (v:=x0.2)) Bc) (.inl kr) hv1 ?_;refine AE (n:=28) AC 2 [(2,.pe (.fn 139 [] []) 0),(3,.pe (.fn 126 [] [.pe (AA.enc x3) 0]) 0),(4,.pt 0 0 0),(5,.pt 1 0 0),(12,.b (!v1))] [some ⟨10,98,[AF.enc x0],false⟩,some ⟨10,98,[AF.enc x1],false⟩] kr ?_;rcases BE (!v1) with hc9 | hc9
  ·rw [if_pos hc9] at hj4
   rw [hc9];refine AE (n:=28) AC 6 [(3,.pe (.fn 126 [] [.pe (AA.enc x3) 0]) 0),(4,.pt 0 0 0),(5,.pt 1 0 0),(18,.b true)] [some ⟨10,98,[AF.enc x0],false⟩,some ⟨10,98,[AF.enc x1],false⟩] kr ?_;have hq:=OI hj4; subst hq;exact AJ rfl (Af [0,1] ⟨⟨_,rfl,CJ⟩,⟨_,rfl,CJ⟩,trivial⟩ ⟨lv,lv,lv,lv,trivial⟩)
  ·rw [CZ hc9] at hj4
   rw [hc9];refine AE (n:=28) AC 3 [(3,.pe (.fn 126 [] [.pe (AA.enc x3) 0]) 0),(4,.pt 0 0 0),(5,.pt 1 0 0),(12,.b false),(13,.fn 139 [] []),(15,.j x1.2)] [some ⟨10,98,[AF.enc x0],false⟩,some ⟨10,98,[AF.enc x1],false⟩] kr ?_;obtain ⟨v2,hv2,hj4⟩:=OB hj4;refine Ai (caps:=[]) (xs:=[.j x1.2]) (u:=(x1.2,())) rfl rfl EZ rfl kr kr kr (AP (Al (c:=cdI) (v:=x1.2)) Bc) (.inl kr) hv2 ?_;refine AE (n:=28) AC 2 [(3,.pe (.fn 126 [] [.pe (AA.enc x3) 0]) 0),(4,.pt 0 0 0),(5,.pt 1 0 0),(18,.b (!v2))] [some ⟨10,98,[AF.enc x0],false⟩,some ⟨10,98,[AF.enc x1],false⟩] kr ?_;have hq:=OI hj4; subst hq;exact AJ rfl (Af [0,1] ⟨⟨_,rfl,CJ⟩,⟨_,rfl,CJ⟩,trivial⟩ ⟨lv,lv,lv,lv,trivial⟩)
 refine AS (b:=j4) kr (fun hb5=>?_) (fun hb5=>?_)
 ·rw [if_pos hb5] at h
  refine AG ?_;refine AL (s1:=⟨Fr 28 [(6,.j 0)],[]⟩) ?_ ?_
  ·refine AE (n:=28) AC 1 [(6,.j 0)] [some ⟨10,98,[AF.enc x0],false⟩,some ⟨10,98,[AF.enc x1],false⟩] kr ?_
   exact AJ rfl (Af [] trivial ⟨lv,trivial⟩)
  refine AU ?_;have hq:=OI h; subst hq;exact ⟨⟨Fr 28 [(6,.j 0)],[]⟩,AQ,.inr rfl,[.j 0],kr,kr⟩
 ·rw [CZ hb5] at h
  refine Aa ?_;refine AG ?_;obtain ⟨v6,hv6,h⟩:=OB h;obtain ⟨v7,hv7,h⟩:=OB h;obtain ⟨v8,hv8,h⟩:=OB h;refine Ep AC (s1:=⟨Fr 28 [(6,.j v8)],[]⟩) kr ?_ ?_
  ·refine BY (n:=28) AC 3 [(3,.pe (.fn 126 [] [.pe (AA.enc x3) 0]) 0),(5,.pt 1 0 0),(19,.fn 126 [] [.pe (AA.enc x3) 0]),(21,.j x0.2)] [some ⟨10,98,[AF.enc x0],false⟩,some ⟨10,98,[AF.enc x1],false⟩] kr kr ?_
   refine Bt (caps:=[.pe (AA.enc x3) 0]) (xs:=[.j x0.2]) (u:=(x0.2,x3,())) rfl rfl Iu rfl (AB rfl) kr kr (AP (Al (c:=cdI) (v:=x0.2)) (AP (Al (c:=(cdP AA)) (v:=x3)) Bc)) kr hv6 ?_;refine BY (n:=28) AC 3 [(22,.j v6),(23,.fn 126 [] [.pe (AA.enc x3) 0]),(25,.j x1.2)] [some ⟨10,98,[AF.enc x0],false⟩,some ⟨10,98,[AF.enc x1],false⟩] kr kr ?_;refine Bt (caps:=[.pe (AA.enc x3) 0]) (xs:=[.j x1.2]) (u:=(x1.2,x3,())) rfl rfl Iu rfl (AB rfl) kr kr (AP (Al (c:=cdI) (v:=x1.2)) (AP (Al (c:=(cdP AA)) (v:=x3)) Bc)) kr hv7 ?_;refine Bt (caps:=[]) (xs:=[.j v6,.j v7]) (u:=(v6,v7,())) rfl rfl Dm rfl (AB rfl) kr kr (AP (Al (c:=cdI) (v:=v6)) (AP (Al (c:=cdI) (v:=v7)) Bc)) kr hv8 ?_;refine BY (n:=28) AC 1 [(6,.j v8)] [some ⟨10,98,[AF.enc x0],false⟩,some ⟨10,98,[AF.enc x1],false⟩] kr kr ?_;exact RunDS.done rfl (Af [] trivial ⟨lv,trivial⟩)
  refine AU ?_;have hq:=OI h; subst hq;exact ⟨⟨Fr 28 [(6,.j v8)],[]⟩,AQ,.inr rfl,[.j v8],kr,kr⟩
def DT:List AV->Option AV:=Db BL (fun a=>AW a.1 a.2.1 a.2.2.2.1) BO
theorem DW:XOk 140 DT:=by
 refine AY Tryz.func140 (c:=B8) ?h2 ⟨Tryz.call140⟩ BL (fun a=>AW a.1 a.2.1 a.2.2.2.1) BO (fun a=>(by show 4<=28; decide)) ?h3 ?h4
 case h2=>kernel_rfl
 case h3=>intro b; kernel_rfl
 case h4=>exact fun a b h=>DH a.1 a.2.1 a.2.2.2.1 b h
/- trestle/court.plain$9 -/
noncomputable def IE:Code:=Br Tryz.f127
def Dw (x0:Int):Option (Int) :=
 some x0
def GL:Cs (Int×Unit):=(csC cdI csN)
def GZ (r:Int):AV:=cdI.enc r
theorem J7 (x0:Int) (r:Int) (h:Dw x0=some r):Sem E0 ⟨none,false⟩ IE ⟨Fr 4 (BW 0 (GL.enc (x0,()))),[]⟩ fun e s'=>(e = .normal\/e = .ret)/\∃ xs,EO E0.P s'.fr s'.hp Tryz.f127.results.toList=some xs/\ET xs=GZ r:=by
 unfold Dw at h;refine A4 (Bq (s1:=⟨Fr 4 [(0,.j x0)],[]⟩) AQ ?_);refine AI AC [(0,.j x0)] [] ?_;refine AI AC [(2,.j x0)] [] ?_;refine AU ?_;have hq:=OI h; subst hq;exact ⟨⟨Fr 4 [(2,.j x0)],[]⟩,AQ,.inr rfl,[.j x0],kr,kr⟩
def Lp:List AV->Option AV:=Db GL (fun a=>Dw a.1) GZ
theorem Iw:XOk 127 Lp:=by
 refine AY Tryz.func127 (c:=IE) ?h2 ⟨Tryz.call127⟩ GL (fun a=>Dw a.1) GZ (fun a=>(by show 1<=4; decide)) ?h3 ?h4
 case h2=>kernel_rfl
 case h3=>intro b; kernel_rfl
 case h4=>exact fun a b h=>J7 a.1 b h
/- trestle/court.placed$2 -/
noncomputable def B9:Code:=Br Tryz.f140
def AX (x0:An) (x1:An):Option (Int) :=
 (B4 x0.2).bind fun v1 =>
 (if (!v1)=true then some true else (B4 x1.2).bind fun v2 =>
 some (!v2)).bind fun j4 =>
 if j4=true then
 some 0
 else
 (Dw x0.2).bind fun v6 =>
 (Dw x1.2).bind fun v7 =>
 (Ba v6 v7).bind fun v8 =>
 some v8
def BM:Cs (An×An×Unit×Unit×Unit):=(csC AF (csC AF (csC (cdP (cdF 139 csN (fun _=>rfl))) (csC (cdP (cdF 127 csN (fun _=>rfl))) csN))))
def BP (r:Int):AV:=cdI.enc r
theorem DI (x0:An) (x1:An) (r:Int) (h:AX x0 x1=some r):Sem E0 ⟨none,false⟩ B9 ⟨Fr 28 (BW 0 (BM.enc (x0,x1,(),(),()))),[]⟩ fun e s'=>(e = .normal\/e = .ret)/\∃ xs,EO E0.P s'.fr s'.hp Tryz.f140.results.toList=some xs/\ET xs=BP r:=by
 unfold AX at h;refine A4 (Bq (s1:=⟨Fr 28 [(0,AF.enc x0),(1,AF.enc x1),(2,.pe (.fn 139 [] []) 0),(3,.pe (.fn 127 [] []) 0)],[]⟩) AQ ?_);refine AI AC [(2,.pe (.fn 139 [] []) 0),(3,.pe (.fn 127 [] []) 0),(4,.pt 0 0 0),(5,.pt 1 0 0)] [some ⟨10,98,[AF.enc x0],false⟩,some ⟨10,98,[AF.enc x1],false⟩] ?_;refine AG ?_;refine AG ?_;obtain ⟨v1,hv1,h⟩:=OB h;obtain ⟨j4,hj4,h⟩:=OB h;refine AL (s1:=⟨Fr 28 [(3,.pe (.fn 127 [] []) 0),(4,.pt 0 0 0),(5,.pt 1 0 0),(18,.b j4)],[some ⟨10,98,[AF.enc x0],false⟩,some ⟨10,98,[AF.enc x1],false⟩]⟩) ?_ ?_
 ·refine AE (n:=28) AC 3 [(2,.pe (.fn 139 [] []) 0),(3,.pe (.fn 127 [] []) 0),(4,.pt 0 0 0),(5,.pt 1 0 0),(7,.fn 139 [] []),(9,.j x0.2)] [some ⟨10,98,[AF.enc x0],false⟩,some ⟨10,98,[AF.enc x1],false⟩] kr ?_
  refine Ai (caps:=[]) (xs:=[.j x0.2]) (u:=(x0.2,())) rfl rfl EZ rfl (AB rfl) kr kr (AP (Al (c:=cdI) (v:=x0.2)) Bc) (.inl kr) hv1 ?_;refine AE (n:=28) AC 2 [(2,.pe (.fn 139 [] []) 0),(3,.pe (.fn 127 [] []) 0),(4,.pt 0 0 0),(5,.pt 1 0 0),(12,.b (!v1))] [some ⟨10,98,[AF.enc x0],false⟩,some ⟨10,98,[AF.enc x1],false⟩] kr ?_;rcases BE (!v1) with hc9 | hc9
  ·rw [if_pos hc9] at hj4
   rw [hc9];refine AE (n:=28) AC 6 [(3,.pe (.fn 127 [] []) 0),(4,.pt 0 0 0),(5,.pt 1 0 0),(18,.b true)] [some ⟨10,98,[AF.enc x0],false⟩,some ⟨10,98,[AF.enc x1],false⟩] kr ?_;have hq:=OI hj4; subst hq;exact AJ rfl (Af [0,1] ⟨⟨_,rfl,CJ⟩,⟨_,rfl,CJ⟩,trivial⟩ ⟨lv,lv,lv,lv,trivial⟩)
  ·rw [CZ hc9] at hj4
   rw [hc9];refine AE (n:=28) AC 3 [(3,.pe (.fn 127 [] []) 0),(4,.pt 0 0 0),(5,.pt 1 0 0),(12,.b false),(13,.fn 139 [] []),(15,.j x1.2)] [some ⟨10,98,[AF.enc x0],false⟩,some ⟨10,98,[AF.enc x1],false⟩] kr ?_;obtain ⟨v2,hv2,hj4⟩:=OB hj4;refine Ai (caps:=[]) (xs:=[.j x1.2]) (u:=(x1.2,())) rfl rfl EZ rfl kr kr kr (AP (Al (c:=cdI) (v:=x1.2)) Bc) (.inl kr) hv2 ?_;refine AE (n:=28) AC 2 [(3,.pe (.fn 127 [] []) 0),(4,.pt 0 0 0),(5,.pt 1 0 0),(18,.b (!v2))] [some ⟨10,98,[AF.enc x0],false⟩,some ⟨10,98,[AF.enc x1],false⟩] kr ?_;have hq:=OI hj4; subst hq;exact AJ rfl (Af [0,1] ⟨⟨_,rfl,CJ⟩,⟨_,rfl,CJ⟩,trivial⟩ ⟨lv,lv,lv,lv,trivial⟩)
 refine AS (b:=j4) kr (fun hb5=>?_) (fun hb5=>?_)
 ·rw [if_pos hb5] at h
  refine AG ?_;refine AL (s1:=⟨Fr 28 [(6,.j 0)],[]⟩) ?_ ?_
  ·refine AE (n:=28) AC 1 [(6,.j 0)] [some ⟨10,98,[AF.enc x0],false⟩,some ⟨10,98,[AF.enc x1],false⟩] kr ?_
   exact AJ rfl (Af [] trivial ⟨lv,trivial⟩)
  refine AU ?_;have hq:=OI h; subst hq;exact ⟨⟨Fr 28 [(6,.j 0)],[]⟩,AQ,.inr rfl,[.j 0],kr,kr⟩
 ·rw [CZ hb5] at h
  refine Aa ?_;refine AG ?_;obtain ⟨v6,hv6,h⟩:=OB h;obtain ⟨v7,hv7,h⟩:=OB h;obtain ⟨v8,hv8,h⟩:=OB h;refine Ep AC (s1:=⟨Fr 28 [(6,.j v8)],[]⟩) kr ?_ ?_
  ·refine BY (n:=28) AC 3 [(3,.pe (.fn 127 [] []) 0),(5,.pt 1 0 0),(19,.fn 127 [] []),(21,.j x0.2)] [some ⟨10,98,[AF.enc x0],false⟩,some ⟨10,98,[AF.enc x1],false⟩] kr kr ?_
   refine Bt (caps:=[]) (xs:=[.j x0.2]) (u:=(x0.2,())) rfl rfl Iw rfl (AB rfl) kr kr (AP (Al (c:=cdI) (v:=x0.2)) Bc) kr hv6 ?_;refine BY (n:=28) AC 3 [(22,.j v6),(23,.fn 127 [] []),(25,.j x1.2)] [some ⟨10,98,[AF.enc x0],false⟩,some ⟨10,98,[AF.enc x1],false⟩] kr kr ?_;refine Bt (caps:=[]) (xs:=[.j x1.2]) (u:=(x1.2,())) rfl rfl Iw rfl (AB rfl) kr kr (AP (Al (c:=cdI) (v:=x1.2)) Bc) kr hv7 ?_;refine Bt (caps:=[]) (xs:=[.j v6,.j v7]) (u:=(v6,v7,())) rfl rfl Dm rfl (AB rfl) kr kr (AP (Al (c:=cdI) (v:=v6)) (AP (Al (c:=cdI) (v:=v7)) Bc)) kr hv8 ?_;refine BY (n:=28) AC 1 [(6,.j v8)] [some ⟨10,98,[AF.enc x0],false⟩,some ⟨10,98,[AF.enc x1],false⟩] kr kr ?_;exact RunDS.done rfl (Af [] trivial ⟨lv,trivial⟩)
  refine AU ?_;have hq:=OI h; subst hq;exact ⟨⟨Fr 28 [(6,.j v8)],[]⟩,AQ,.inr rfl,[.j v8],kr,kr⟩
def DU:List AV->Option AV:=Db BM (fun a=>AX a.1 a.2.1) BP
theorem DX:XOk 140 DU:=by
 refine AY Tryz.func140 (c:=B9) ?h2 ⟨Tryz.call140⟩ BM (fun a=>AX a.1 a.2.1) BP (fun a=>(by show 4<=28; decide)) ?h3 ?h4
 case h2=>kernel_rfl
 case h3=>intro b; kernel_rfl
 case h4=>exact fun a b h=>DI a.1 a.2.1 b h
theorem TP {f:FuncId}(hc:Bf E0.P f){α β:Type}(s:Cs α) (F:α->Option β) (er:β->AV) (h:∀ a b,F a=some b->∃ t,XOk f t/\t (s.enc a)=some (er b)):XOk f (Db s F er):=by
 refine ⟨hc,fun xs y hy w Z us hz hg hv=>?_⟩
 obtain ⟨a,ha,hy⟩:=OB hy
 obtain ⟨b,hb,rfl⟩:=Option.map_eq_some_iff.1 hy
 obtain ⟨t,hX,ht⟩:=h a b hb
 exact hX.2 _ _ ht w Z us hz hg (s.vr ha hv)
def C6 (a b:An) (c:AD):Option Int :=
 if (c.1==1)=true then BK (fun a b (v:(AD×Unit)×Unit)=>Be (fun x (v:AD×Unit)=>CY x v.1) a b v.1) a b c ((c,()),()) else
 if (c.1==2)=true then BK (fun a b (v:AD×Unit)=>CD a b v.1) a b c (c,()) else
 if (c.1==3)=true then BK (fun a b (v:AD×Unit)=>CD a b v.1) a b c (c,()) else
 if (c.1==4)=true then BK (fun a b (v:(AD×AD×Unit)×Unit)=>Be (fun x (v:AD×AD×Unit)=>Au x v.1 v.2.1) a b v.1) a b c ((c,c,()),()) else
 if (c.1==5)=true then BK (fun a b (v:(Unit×AD×Unit)×Unit)=>Be (fun x (v:Unit×AD×Unit)=>Av x v.2.1) a b v.1) a b c (((),c,()),()) else
 if (c.1==6)=true then BK (fun a b (v:(AD×AD×Unit)×Unit)=>Be (fun x (v:AD×AD×Unit)=>Aq x v.1 v.2.1) a b v.1) a b c ((c,c,()),()) else
 if (c.1==7)=true then BK (fun a b (v:(AD×AD×Unit)×Unit)=>Be (fun x (v:AD×AD×Unit)=>Ar x v.1 v.2.1) a b v.1) a b c ((c,c,()),()) else
 if (c.1==8)=true then BK (fun a b (_:Unit)=>DO a b) a b c () else
 if (c.1==10)=true then BK (fun a b (v:Unit×AD×Unit)=>AW a b v.2.1) a b c ((),c,()) else
 BK (fun a b (_:Unit×Unit×Unit)=>AX a b) a b c ((),(),())
noncomputable def FD:Cs (An×An×AD):=csC AF (csC AF NS)
noncomputable def HA (r:Int):AV:=cdI.enc r
noncomputable def KM:List AV->Option AV:=Db FD (fun a=>C6 a.1 a.2.1 a.2.2) HA
theorem HT {α β:Type}{s:Cs α}{F:α->Option β}{er:β->AV}{a:α}{b:β}{xs:List AV}(h:F a=some b) (e:xs=s.enc a):Db s F er xs=some (er b):=e ▸ K3 h
theorem SV (a b:An) (c:AD):FD.enc (a,b,c)=[AF.enc a,AF.enc b,.pe (AA.enc c) 0,.pe (Jc c) 0]:=rfl
theorem KS:XOk 99 KM:=by
 refine TP ⟨Tryz.call99⟩ FD (fun a=>C6 a.1 a.2.1 a.2.2) HA fun x r h=>?_
 obtain ⟨a,b,c⟩:=x
 rw [SV]
 dsimp only at h
 unfold C6 at h
 unfold Jc
 rcases BE (c.1==1) with h1 | h1
 ·rw [if_pos h1] at h; rw [if_pos h1]
  exact ⟨_,Bj (sx:=csC (cdP (cdF 113 (csC (cdP AA) csN) (fun _=>rfl))) csN) (hn:=fun _=>rfl) (G:=fun a b (v:(AD×Unit)×Unit)=>Be (fun x (v:AD×Unit)=>CY x v.1) a b v.1) (F0 (sx:=csC (cdP AA) csN) (hn:=fun _=>rfl) (G:=fun x (v:AD×Unit)=>CY x v.1) Ly),HT (a:=(a,b,c,((c,()),()),())) h rfl⟩
 rw [if_neg (by rw [h1]; decide)] at h; rw [if_neg (by rw [h1]; decide)]
 rcases BE (c.1==2) with h1 | h1
 ·rw [if_pos h1] at h; rw [if_pos h1]
  exact ⟨_,Bj (sx:=csC (cdP AA) csN) (hn:=fun _=>rfl) (G:=fun a b (v:AD×Unit)=>CD a b v.1) It,HT (a:=(a,b,c,(c,()),())) h rfl⟩
 rw [if_neg (by rw [h1]; decide)] at h; rw [if_neg (by rw [h1]; decide)]
 rcases BE (c.1==3) with h1 | h1
 ·rw [if_pos h1] at h; rw [if_pos h1]
  exact ⟨_,Bj (sx:=csC (cdP AA) csN) (hn:=fun _=>rfl) (G:=fun a b (v:AD×Unit)=>CD a b v.1) It,HT (a:=(a,b,c,(c,()),())) h rfl⟩
 rw [if_neg (by rw [h1]; decide)] at h; rw [if_neg (by rw [h1]; decide)]
 rcases BE (c.1==4) with h1 | h1
 ·rw [if_pos h1] at h; rw [if_pos h1]
  exact ⟨_,Bj (sx:=csC (cdP (cdF 137 (csC (cdP (cdF 118 (csE (cdP AA)) (fun _=>rfl))) (csC (cdP AA) csN)) (fun _=>rfl))) csN) (hn:=fun _=>rfl) (G:=fun a b (v:(AD×AD×Unit)×Unit)=>Be (fun x (v:AD×AD×Unit)=>Au x v.1 v.2.1) a b v.1) (F0 (sx:=csC (cdP (cdF 118 (csE (cdP AA)) (fun _=>rfl))) (csC (cdP AA) csN)) (hn:=fun _=>rfl) (G:=fun x (v:AD×AD×Unit)=>Au x v.1 v.2.1) F3),HT (a:=(a,b,c,((c,c,()),()),())) h rfl⟩
 rw [if_neg (by rw [h1]; decide)] at h; rw [if_neg (by rw [h1]; decide)]
 rcases BE (c.1==5) with h1 | h1
 ·rw [if_pos h1] at h; rw [if_pos h1]
  exact ⟨_,Bj (sx:=csC (cdP (cdF 137 (csC (cdP (cdF 119 csN (fun _=>rfl))) (csC (cdP AA) csN)) (fun _=>rfl))) csN) (hn:=fun _=>rfl) (G:=fun a b (v:(Unit×AD×Unit)×Unit)=>Be (fun x (v:Unit×AD×Unit)=>Av x v.2.1) a b v.1) (F0 (sx:=csC (cdP (cdF 119 csN (fun _=>rfl))) (csC (cdP AA) csN)) (hn:=fun _=>rfl) (G:=fun x (v:Unit×AD×Unit)=>Av x v.2.1) F4),HT (a:=(a,b,c,(((),c,()),()),())) h rfl⟩
 rw [if_neg (by rw [h1]; decide)] at h; rw [if_neg (by rw [h1]; decide)]
 rcases BE (c.1==6) with h1 | h1
 ·rw [if_pos h1] at h; rw [if_pos h1]
  exact ⟨_,Bj (sx:=csC (cdP (cdF 137 (csC (cdP (cdF 120 (csE (cdP AA)) (fun _=>rfl))) (csC (cdP AA) csN)) (fun _=>rfl))) csN) (hn:=fun _=>rfl) (G:=fun a b (v:(AD×AD×Unit)×Unit)=>Be (fun x (v:AD×AD×Unit)=>Aq x v.1 v.2.1) a b v.1) (F0 (sx:=csC (cdP (cdF 120 (csE (cdP AA)) (fun _=>rfl))) (csC (cdP AA) csN)) (hn:=fun _=>rfl) (G:=fun x (v:AD×AD×Unit)=>Aq x v.1 v.2.1) F5),HT (a:=(a,b,c,((c,c,()),()),())) h rfl⟩
 rw [if_neg (by rw [h1]; decide)] at h; rw [if_neg (by rw [h1]; decide)]
 rcases BE (c.1==7) with h1 | h1
 ·rw [if_pos h1] at h; rw [if_pos h1]
  exact ⟨_,Bj (sx:=csC (cdP (cdF 137 (csC (cdP (cdF 122 (csE (cdP AA)) (fun _=>rfl))) (csC (cdP AA) csN)) (fun _=>rfl))) csN) (hn:=fun _=>rfl) (G:=fun a b (v:(AD×AD×Unit)×Unit)=>Be (fun x (v:AD×AD×Unit)=>Ar x v.1 v.2.1) a b v.1) (F0 (sx:=csC (cdP (cdF 122 (csE (cdP AA)) (fun _=>rfl))) (csC (cdP AA) csN)) (hn:=fun _=>rfl) (G:=fun x (v:AD×AD×Unit)=>Ar x v.1 v.2.1) F6),HT (a:=(a,b,c,((c,c,()),()),())) h rfl⟩
 rw [if_neg (by rw [h1]; decide)] at h; rw [if_neg (by rw [h1]; decide)]
 rcases BE (c.1==8) with h1 | h1
 ·rw [if_pos h1] at h; rw [if_pos h1]
  exact ⟨_,Bj (sx:=csN) (hn:=fun _=>rfl) (G:=fun a b (_:Unit)=>DO a b) L3,HT (a:=(a,b,c,(),())) h rfl⟩
 rw [if_neg (by rw [h1]; decide)] at h; rw [if_neg (by rw [h1]; decide)]
 rcases BE (c.1==10) with h1 | h1
 ·rw [if_pos h1] at h; rw [if_pos h1]
  exact ⟨_,Bj (sx:=csC (cdP (cdF 139 csN (fun _=>rfl))) (csC (cdP (cdF 126 (csE (cdP AA)) (fun _=>rfl))) csN)) (hn:=fun _=>rfl) (G:=fun a b (v:Unit×AD×Unit)=>AW a b v.2.1) DW,HT (a:=(a,b,c,((),c,()),())) h rfl⟩
 rw [if_neg (by rw [h1]; decide)] at h; rw [if_neg (by rw [h1]; decide)]
 exact ⟨_,Bj (sx:=csC (cdP (cdF 139 csN (fun _=>rfl))) (csC (cdP (cdF 127 csN (fun _=>rfl))) csN)) (hn:=fun _=>rfl) (G:=fun a b (_:Unit×Unit×Unit)=>AX a b) DX,HT (a:=(a,b,c,((),(),()),())) h rfl⟩
/- trestle/court.first[trestle/court.seated,trestle/court.order] -/
noncomputable def Bu:Code:=Br Tryz.f44
def AR (x0:(List AD)):Nat->(List UInt8)->(List UInt8)->(List UInt8)->Int->Int->(List UInt8)->Bool->Bool->(List (List UInt8))->Int->(List UInt8)->(List UInt8)->(List UInt8)->Int->Int->(List UInt8)->Bool->Bool->(List (List UInt8))->Int->Int->Option ((Unit) ⊕ (Int×Int))
 | 0,_,_,_,_,_,_,_,_,_,_,_,_,_,_,_,_,_,_,_,_,_=>none
 | f + 1,c1,c2,c3,c4,c5,c6,c7,c8,c9,c10,c11,c12,c13,c14,c15,c16,c17,c18,c19,c20,c21 =>
  if (decide (c21 < (x0.length:Int)))=true then
  (idx x0 c21).bind fun v23 =>
  (C6 ((c1,c2,c3,c4,c5,c6,c7,c8,c9),c10) ((c11,c12,c13,c14,c15,c16,c17,c18,c19),c20) v23).bind fun v24 =>
  if (v24 != 0)=true then
  some (.inr (c21,v24))
  else
  AR x0 f c1 c2 c3 c4 c5 c6 c7 c8 c9 c10 c11 c12 c13 c14 c15 c16 c17 c18 c19 c20 (wr .i64 (c21 + 1))
  else
  some (.inl ())
def Ao (x0:(List AD)) (x1:An) (x2:An):Option (Int×Int) :=
 (AR x0 100000 x1.1.1 x1.1.2.1 x1.1.2.2.1 x1.1.2.2.2.1 x1.1.2.2.2.2.1 x1.1.2.2.2.2.2.1 x1.1.2.2.2.2.2.2.1 x1.1.2.2.2.2.2.2.2.1 x1.1.2.2.2.2.2.2.2.2 x1.2 x2.1.1 x2.1.2.1 x2.1.2.2.1 x2.1.2.2.2.1 x2.1.2.2.2.2.1 x2.1.2.2.2.2.2.1 x2.1.2.2.2.2.2.2.1 x2.1.2.2.2.2.2.2.2.1 x2.1.2.2.2.2.2.2.2.2 x2.2 0).bind fun r28 =>
 match r28 with
 | (.inl w29) =>
  some ((-1),0)
 | (.inr w30) =>
  some (w30.1,w30.2)
noncomputable def Bx:Cs ((List AD)×An×An×Unit):=(csC (cdL 1 C1) (csC AF (csC AF csN)))
noncomputable def By (r:Int×Int):AV:= .tp [cdI.enc r.1,cdI.enc r.2]
theorem CI (x0:(List AD)):∀ (f:Nat) (c1:(List UInt8)) (c2:(List UInt8)) (c3:(List UInt8)) (c4:Int) (c5:Int) (c6:(List UInt8)) (c7:Bool) (c8:Bool) (c9:(List (List UInt8))) (c10:Int) (c11:(List UInt8)) (c12:(List UInt8)) (c13:(List UInt8)) (c14:Int) (c15:Int) (c16:(List UInt8)) (c17:Bool) (c18:Bool) (c19:(List (List UInt8))) (c20:Int) (c21:Int) (r:(Unit) ⊕ (Int×Int)),AR x0 f c1 c2 c3 c4 c5 c6 c7 c8 c9 c10 c11 c12 c13 c14 c15 c16 c17 c18 c19 c20 c21=some r->SemN E0 ⟨none,false⟩ (pc Bu [1,0,1,0,0]) f ⟨Fr 27 [(4,.pt 0 0 0),(5,.pt 1 0 0),(11,.sl 1 (x0.map C1.enc)),(12,.j (x0.length:Int)),(13,.j c21)],[some ⟨10,98,[.ag [.st c1,.st c2,.st c3,.j c4,.j c5,.st c6,.b c7,.b c8,.sl 1 (c9.map cdS.enc),.j c10]],false⟩,some ⟨10,98,[.ag [.st c11,.st c12,.st c13,.j c14,.j c15,.st c16,.b c17,.b c18,.sl 1 (c19.map cdS.enc),.j c20]],false⟩]⟩ (fun e s=>match r with
 | (.inl w)=>e=(.exit 0)/\Wk E0 s ⟨Fr 27 [],[]⟩
 | (.inr w)=>e = .ret/\Wk E0 s ⟨Fr 27 [(6,.j w.1),(7,.j w.2)],[]⟩):=by
 intro f;induction f with
 | zero=>intro c1 c2 c3 c4 c5 c6 c7 c8 c9 c10 c11 c12 c13 c14 c15 c16 c17 c18 c19 c20 c21 r h; cases h
 | succ f ih0 =>
  intro c1 c2 c3 c4 c5 c6 c7 c8 c9 c10 c11 c12 c13 c14 c15 c16 c17 c18 c19 c20 c21 r h
  have ih:=fun (c1:(List UInt8)) (c2:(List UInt8)) (c3:(List UInt8)) (c4:Int) (c5:Int) (c6:(List UInt8)) (c7:Bool) (c8:Bool) (c9:(List (List UInt8))) (c10:Int) (c11:(List UInt8)) (c12:(List UInt8)) (c13:(List UInt8)) (c14:Int) (c15:Int) (c16:(List UInt8)) (c17:Bool) (c18:Bool) (c19:(List (List UInt8))) (c20:Int) (c21:Int)=>ih0 c1 c2 c3 c4 c5 c6 c7 c8 c9 c10 c11 c12 c13 c14 c15 c16 c17 c18 c19 c20 c21 r
  unfold AR at h;refine D8 ?_
  let p1:Option Blk:=some ⟨10,98,[.ag [.st c11,.st c12,.st c13,.j c14,.j c15,.st c16,.b c17,.b c18,.sl 1 (c19.map cdS.enc),.j c20]],false⟩
  let p2:Option Blk:=some ⟨10,98,[.ag [.st c1,.st c2,.st c3,.j c4,.j c5,.st c6,.b c7,.b c8,.sl 1 (c9.map cdS.enc),.j c10]],false⟩
  let p3:Nat×AV:=(13,.j c21)
  let p4:Nat×AV:=(12,.j (x0.length:Int))
  let p5:Nat×AV:=(11,.sl 1 (x0.map C1.enc))
  let p6:Nat×AV:=(5,.pt 1 0 0)
  let p7:Nat×AV:=(4,.pt 0 0 0)
  refine AI AC [p7,p6,p5,p4,p3,(14,.b (decide (c21 < (x0.length:Int))))] [p2,p1] ?_;refine AG ?_;refine AS (b:=(decide (c21 < (x0.length:Int)))) kr (fun hb22=>?_) (fun hb22=>?_)
  ·rw [if_pos hb22] at h
   refine Aa ?_;refine AG ?_;refine Bm ?_;refine AG ?_;obtain ⟨v23,hv23,h⟩:=OB h
   let p8:Nat×AV:=(8,.j c21)
   refine AL (s1:=⟨Fr 27 [p7,p6,p8,(9,C1.enc v23),p5,p4,p3],[p2,p1]⟩) ?_ ?_
   ·refine AE (n:=27) AC 1 [p7,p6,p5,p4,p3,(15,.j c21)] [p2,p1] kr ?_
    refine Ak AC 0 rfl (ED (AB rfl) rfl (AK (a:= .sl 1 (x0.map C1.enc)) (b:= .j c21) kr kr (Hw (e:=C1.enc) (el:=100) (k:=1) (ki:= .i64) kr kr hv23))) ?_;exact As AC
   refine AG ?_;obtain ⟨v24,hv24,h⟩:=OB h;refine AL (s1:=⟨Fr 27 [p7,p6,p8,(10,.j v24),p5,p4,p3],[p2,p1]⟩) ?_ ?_
   ·refine AE (n:=27) AC 3 [p7,p6,p8,p5,p4,p3,(18,C1.enc v23),(19,.ag [.st c1,.st c2,.st c3,.j c4,.j c5,.st c6,.b c7,.b c8,.sl 1 (c9.map cdS.enc),.j c10]),(20,.ag [.st c11,.st c12,.st c13,.j c14,.j c15,.st c16,.b c17,.b c18,.sl 1 (c19.map cdS.enc),.j c20])] [p2,p1] kr ?_
    refine Ai (caps:=[.pe (AA.enc v23) 0,.pe (Jc v23) 0]) (xs:=[.ag [.st c1,.st c2,.st c3,.j c4,.j c5,.st c6,.b c7,.b c8,.sl 1 (c9.map cdS.enc),.j c10],.ag [.st c11,.st c12,.st c13,.j c14,.j c15,.st c16,.b c17,.b c18,.sl 1 (c19.map cdS.enc),.j c20]]) (u:=(((c1,c2,c3,c4,c5,c6,c7,c8,c9),c10),((c11,c12,c13,c14,c15,c16,c17,c18,c19),c20),v23)) rfl rfl KS rfl (AB rfl) kr kr (AP (Al (c:=AF) (v:=((c1,c2,c3,c4,c5,c6,c7,c8,c9),c10))) (AP (Al (c:=AF) (v:=((c11,c12,c13,c14,c15,c16,c17,c18,c19),c20))) (Mm (n:=10) (s:=NS) (a:=v23)))) (.inl kr) hv24 ?_;exact As AC
   refine AI AC [p7,p6,p8,(10,.j v24),p5,p4,p3,(23,.b (v24 != 0))] [p2,p1] ?_;refine AS (b:=(v24 != 0)) kr (fun hb25=>?_) (fun hb25=>?_)
   ·rw [if_pos hb25] at h
    refine AG ?_;refine AL (s1:=⟨Fr 27 [(6,.j c21),(7,.j v24)],[]⟩) ?_ ?_
    ·refine AE (n:=27) AC 4 [(6,.j c21),(7,.j v24)] [p2,p1] kr ?_
     exact AJ rfl (Af [] trivial ⟨lv,lv,trivial⟩)
    refine AU ?_;have hq:=OI h; subst hq;exact ⟨rfl,AQ⟩
   ·rw [CZ hb25] at h
    refine Aa ?_
    let p9:Nat×AV:=(13,.j (wr .i64 (c21 + 1)))
    refine EK AC [p7,p6,p5,p4,p9] [p2,p1] ?_;exact CE (s1:=⟨Fr 27 [p7,p6,p5,p4,p9],[p2,p1]⟩) (Af [0,1] ⟨⟨_,rfl,CJ⟩,⟨_,rfl,CJ⟩,trivial⟩ ⟨lv,lv,lv,lv,lv,trivial⟩) (ih c1 c2 c3 c4 c5 c6 c7 c8 c9 c10 c11 c12 c13 c14 c15 c16 c17 c18 c19 c20 (wr .i64 (c21 + 1)) h)
  ·rw [CZ hb22] at h
   refine En ?_;have hq:=OI h; subst hq;exact ⟨rfl,(Af [] trivial trivial)⟩
theorem D7 (x0:(List AD)) (x1:An) (x2:An) (r:Int×Int) (h:Ao x0 x1 x2=some r):Sem E0 ⟨none,false⟩ Bu ⟨Fr 27 (BW 0 (Bx.enc (x0,x1,x2,()))),[]⟩ fun e s'=>(e = .normal\/e = .ret)/\∃ xs,EO E0.P s'.fr s'.hp Tryz.f44.results.toList=some xs/\ET xs=By r:=by
 unfold Ao at h;refine A4 (Bq (s1:=⟨Fr 27 [(0,.sl 1 (x0.map C1.enc)),(1,AF.enc x1),(2,AF.enc x2)],[]⟩) AQ ?_)
 let p1:Option Blk:=some ⟨10,98,[AF.enc x2],false⟩
 let p2:Option Blk:=some ⟨10,98,[AF.enc x1],false⟩
 let p3:Nat×AV:=(5,.pt 1 0 0)
 let p4:Nat×AV:=(4,.pt 0 0 0)
 refine AI AC [(0,.sl 1 (x0.map C1.enc)),p4,p3] [p2,p1] ?_;refine AG ?_;refine AG ?_
 let p5:Nat×AV:=(13,.j 0)
 let p6:Nat×AV:=(12,.j (x0.length:Int))
 let p7:Nat×AV:=(11,.sl 1 (x0.map C1.enc))
 refine AL (s1:=⟨Fr 27 [p4,p3,p7,p6,p5],[p2,p1]⟩) ?_ ?_
 ·refine AE (n:=27) AC 1 [p4,p3,p7] [p2,p1] kr ?_
  refine Ak AC 0 rfl (ED (AB rfl) rfl (Ij (a:= .sl 1 (x0.map C1.enc)) kr (Fp (el:=100) kr))) ?_;exact As AC
 refine Bm ?_;obtain ⟨r28,hr28,h⟩:=OB h;refine Eo (n:=100000) ?_;rcases r28 with w29 | w30
 ·try dsimp only at h
  refine Cu (CE (s1:=⟨Fr 27 [p4,p3,p7,p6,p5],[p2,p1]⟩) (Af [0,1] ⟨⟨_,rfl,CJ⟩,⟨_,rfl,CJ⟩,trivial⟩ ⟨lv,lv,lv,lv,lv,trivial⟩) (CI x0 _ x1.1.1 x1.1.2.1 x1.1.2.2.1 x1.1.2.2.2.1 x1.1.2.2.2.2.1 x1.1.2.2.2.2.2.1 x1.1.2.2.2.2.2.2.1 x1.1.2.2.2.2.2.2.2.1 x1.1.2.2.2.2.2.2.2.2 x1.2 x2.1.1 x2.1.2.1 x2.1.2.2.1 x2.1.2.2.2.1 x2.1.2.2.2.2.1 x2.1.2.2.2.2.2.1 x2.1.2.2.2.2.2.2.1 x2.1.2.2.2.2.2.2.2.1 x2.1.2.2.2.2.2.2.2.2 x2.2 0 _ hr28)) ?_;refine AI AC [(6,.j (-1)),(7,.j 0)] [] ?_;refine AU ?_;have hq:=OI h; subst hq;exact ⟨⟨Fr 27 [(6,.j (-1)),(7,.j 0)],[]⟩,AQ,.inr rfl,[.j (-1),.j 0],kr,kr⟩
 ·try dsimp only at h
  refine Cu (CE (s1:=⟨Fr 27 [p4,p3,p7,p6,p5],[p2,p1]⟩) (Af [0,1] ⟨⟨_,rfl,CJ⟩,⟨_,rfl,CJ⟩,trivial⟩ ⟨lv,lv,lv,lv,lv,trivial⟩) (CI x0 _ x1.1.1 x1.1.2.1 x1.1.2.2.1 x1.1.2.2.2.1 x1.1.2.2.2.2.1 x1.1.2.2.2.2.2.1 x1.1.2.2.2.2.2.2.1 x1.1.2.2.2.2.2.2.2.1 x1.1.2.2.2.2.2.2.2.2 x1.2 x2.1.1 x2.1.2.1 x2.1.2.2.1 x2.1.2.2.2.1 x2.1.2.2.2.2.1 x2.1.2.2.2.2.2.1 x2.1.2.2.2.2.2.2.1 x2.1.2.2.2.2.2.2.2.1 x2.1.2.2.2.2.2.2.2.2 x2.2 0 _ hr28)) ?_;have hq:=OI h; subst hq;exact ⟨⟨Fr 27 [(6,.j w30.1),(7,.j w30.2)],[]⟩,AQ,.inr rfl,[.j w30.1,.j w30.2],kr,kr⟩
noncomputable def EI:List AV->Option AV:=Db Bx (fun a=>Ao a.1 a.2.1 a.2.2.1) By
theorem EJ:XOk 44 EI:=by
 refine AY Tryz.func44 (c:=Bu) ?h2 ⟨Tryz.call44⟩ Bx (fun a=>Ao a.1 a.2.1 a.2.2.1) By (fun a=>(by show 3<=27; decide)) ?h3 ?h4
 case h2=>kernel_rfl
 case h3=>intro b; kernel_rfl
 case h4=>exact fun a b h=>D7 a.1 a.2.1 a.2.2.1 b h
/- trestle/court.Reason -/
noncomputable def IV:Code:=Br Tryz.f15
def DM (x0:(List AD)) (x1:CB) (x2:CB) (x3:Int) (x4:Int):Option (Int×Int) :=
 (Ej x0).bind fun v1 =>
 if (!v1.2)=true then
 some (0,0)
 else
 (Ao v1.1 (x1,x3) (x2,x4)).bind fun v3 =>
 some (v3.1,v3.2)
noncomputable def Gn:Cs ((List AD)×CB×CB×Int×Int×Unit):=(csC (cdL 5 AA) (csC AH (csC AH (csC cdI (csC cdI csN)))))
noncomputable def Gs (r:Int×Int):AV:= .tp [cdI.enc r.1,cdI.enc r.2]
theorem Kc (x0:(List AD)) (x1:CB) (x2:CB) (x3:Int) (x4:Int) (r:Int×Int) (h:DM x0 x1 x2 x3 x4=some r):Sem E0 ⟨none,false⟩ IV ⟨Fr 31 (BW 0 (Gn.enc (x0,x1,x2,x3,x4,()))),[]⟩ fun e s'=>(e = .normal\/e = .ret)/\∃ xs,EO E0.P s'.fr s'.hp Tryz.f15.results.toList=some xs/\ET xs=Gs r:=by
 unfold DM at h
 let p1:Nat×AV:=(4,.j x4)
 let p2:Nat×AV:=(3,.j x3)
 let p3:Nat×AV:=(0,.sl 5 (x0.map AA.enc))
 refine A4 (Bq (s1:=⟨Fr 31 [p3,(1,AH.enc x1),(2,AH.enc x2),p2,p1],[]⟩) AQ ?_)
 let p4:Option Blk:=some ⟨9,47,[AH.enc x2],false⟩
 let p5:Option Blk:=some ⟨9,47,[AH.enc x1],false⟩
 let p6:Nat×AV:=(7,.pt 1 0 0)
 let p7:Nat×AV:=(6,.pt 0 0 0)
 refine AI AC [p3,p2,p1,p7,p6] [p5,p4] ?_;refine AG ?_;obtain ⟨v1,hv1,h⟩:=OB h
 let p8:Nat×AV:=(12,.sl 1 (v1.1.map C1.enc))
 refine AL (s1:=⟨Fr 31 [p2,p1,p7,p6,p8,(13,.b v1.2)],[p5,p4]⟩) ?_ ?_
 ·refine AE (n:=31) AC 1 [p2,p1,p7,p6,(15,.sl 5 (x0.map AA.enc))] [p5,p4] kr ?_
  refine Ai (caps:=[]) (xs:=[.sl 5 (x0.map AA.enc)]) (u:=(x0,())) rfl rfl ML rfl (AB rfl) kr kr (AP (Al (c:=(cdL 5 AA)) (v:=x0)) Bc) (.inr kr) hv1 ?_;exact As AC
 refine AG ?_;refine AI AC [p2,p1,p7,p6,p8,(20,.b (!v1.2))] [p5,p4] ?_;refine AS (b:=(!v1.2)) kr (fun hb2=>?_) (fun hb2=>?_)
 ·rw [if_pos hb2] at h
  refine AG ?_
  let p9:Nat×AV:=(11,.j 0)
  let p10:Nat×AV:=(10,.j 0)
  refine AL (s1:=⟨Fr 31 [p10,p9],[]⟩) ?_ ?_
  ·refine AE (n:=31) AC 2 [p10,p9] [p5,p4] kr ?_
   exact AJ rfl (Af [] trivial ⟨lv,lv,trivial⟩)
  refine AU ?_;have hq:=OI h; subst hq;exact ⟨⟨Fr 31 [p10,p9],[]⟩,AQ,.inr rfl,[.j 0,.j 0],kr,kr⟩
 ·rw [CZ hb2] at h
  refine Aa ?_;refine AG ?_;obtain ⟨v3,hv3,h⟩:=OB h
  let p11:Nat×AV:=(11,.j v3.2)
  let p12:Nat×AV:=(10,.j v3.1)
  refine AL (s1:=⟨Fr 31 [p12,p11],[]⟩) ?_ ?_
  ·refine AE (n:=31) AC 7 [(21,.sl 1 (v1.1.map C1.enc)),(24,.ag [.st x1.1,.st x1.2.1,.st x1.2.2.1,.j x1.2.2.2.1,.j x1.2.2.2.2.1,.st x1.2.2.2.2.2.1,.b x1.2.2.2.2.2.2.1,.b x1.2.2.2.2.2.2.2.1,.sl 1 (x1.2.2.2.2.2.2.2.2.map cdS.enc),.j x3]),(27,.ag [.st x2.1,.st x2.2.1,.st x2.2.2.1,.j x2.2.2.2.1,.j x2.2.2.2.2.1,.st x2.2.2.2.2.2.1,.b x2.2.2.2.2.2.2.1,.b x2.2.2.2.2.2.2.2.1,.sl 1 (x2.2.2.2.2.2.2.2.2.map cdS.enc),.j x4])] [p5,p4] kr ?_
   refine Ai (caps:=[]) (xs:=[.sl 1 (v1.1.map C1.enc),.ag [.st x1.1,.st x1.2.1,.st x1.2.2.1,.j x1.2.2.2.1,.j x1.2.2.2.2.1,.st x1.2.2.2.2.2.1,.b x1.2.2.2.2.2.2.1,.b x1.2.2.2.2.2.2.2.1,.sl 1 (x1.2.2.2.2.2.2.2.2.map cdS.enc),.j x3],.ag [.st x2.1,.st x2.2.1,.st x2.2.2.1,.j x2.2.2.2.1,.j x2.2.2.2.2.1,.st x2.2.2.2.2.2.1,.b x2.2.2.2.2.2.2.1,.b x2.2.2.2.2.2.2.2.1,.sl 1 (x2.2.2.2.2.2.2.2.2.map cdS.enc),.j x4]]) (u:=(v1.1,(x1,x3),(x2,x4),())) rfl rfl EJ rfl (AB rfl) kr kr (AP (Al (c:=(cdL 1 C1)) (v:=v1.1)) (AP (Al (c:=AF) (v:=(x1,x3))) (AP (Al (c:=AF) (v:=(x2,x4))) Bc))) (.inl kr) hv3 ?_;refine AE (n:=31) AC 4 [p12,p11] [p5,p4] kr ?_;exact AJ rfl (Af [] trivial ⟨lv,lv,trivial⟩)
  refine AU ?_;have hq:=OI h; subst hq;exact ⟨⟨Fr 31 [p12,p11],[]⟩,AQ,.inr rfl,[.j v3.1,.j v3.2],kr,kr⟩
noncomputable def MF:List AV->Option AV:=Db Gn (fun a=>DM a.1 a.2.1 a.2.2.1 a.2.2.2.1 a.2.2.2.2.1) Gs
theorem JG:XOk 15 MF:=by
 refine AY Tryz.func15 (c:=IV) ?h2 ⟨Tryz.call15⟩ Gn (fun a=>DM a.1 a.2.1 a.2.2.1 a.2.2.2.1 a.2.2.2.2.1) Gs (fun a=>(by show 5<=31; decide)) ?h3 ?h4
 case h2=>kernel_rfl
 case h3=>intro b; kernel_rfl
 case h4=>exact fun a b h=>Kc a.1 a.2.1 a.2.2.1 a.2.2.2.1 a.2.2.2.2.1 b h
/- trestle/court.Compare -/
noncomputable def H4:Code:=Br Tryz.f16
def CC (x0:(List AD)) (x1:CB) (x2:CB) (x3:Int) (x4:Int):Option (Int) :=
 (DM x0 x1 x2 x3 x4).bind fun v1 =>
 some v1.2
def F9:Cs ((List AD)×CB×CB×Int×Int×Unit):=(csC (cdL 5 AA) (csC AH (csC AH (csC cdI (csC cdI csN)))))
def GN (r:Int):AV:=cdI.enc r
theorem Jw (x0:(List AD)) (x1:CB) (x2:CB) (x3:Int) (x4:Int) (r:Int) (h:CC x0 x1 x2 x3 x4=some r):Sem E0 ⟨none,false⟩ H4 ⟨Fr 23 (BW 0 (F9.enc (x0,x1,x2,x3,x4,()))),[]⟩ fun e s'=>(e = .normal\/e = .ret)/\∃ xs,EO E0.P s'.fr s'.hp Tryz.f16.results.toList=some xs/\ET xs=GN r:=by
 unfold CC at h
 let p1:Nat×AV:=(0,.sl 5 (x0.map AA.enc))
 refine A4 (Bq (s1:=⟨Fr 23 [p1,(1,AH.enc x1),(2,AH.enc x2),(3,.j x3),(4,.j x4)],[]⟩) AQ ?_)
 let p2:Option Blk:=some ⟨9,47,[AH.enc x2],false⟩
 let p3:Option Blk:=some ⟨9,47,[AH.enc x1],false⟩
 refine AI AC [p1,(3,.j x3),(4,.j x4),(6,.pt 0 0 0),(7,.pt 1 0 0)] [p3,p2] ?_;refine AG ?_;obtain ⟨v1,hv1,h⟩:=OB h;refine AL (s1:=⟨Fr 23 [(12,.j v1.2)],[]⟩) ?_ ?_
 ·refine AE (n:=23) AC 5 [(14,.sl 5 (x0.map AA.enc)),(15,AH.enc x1),(16,AH.enc x2),(17,.j x3),(18,.j x4)] [p3,p2] kr ?_
  refine Ai (caps:=[]) (xs:=[.sl 5 (x0.map AA.enc),AH.enc x1,AH.enc x2,.j x3,.j x4]) (u:=(x0,x1,x2,x3,x4,())) rfl rfl JG rfl (AB rfl) kr kr (AP (Al (c:=(cdL 5 AA)) (v:=x0)) (AP (Al (c:=AH) (v:=x1)) (AP (Al (c:=AH) (v:=x2)) (AP (Al (c:=cdI) (v:=x3)) (AP (Al (c:=cdI) (v:=x4)) Bc))))) (.inl kr) hv1 ?_;refine AE (n:=23) AC 5 [(12,.j v1.2)] [p3,p2] kr ?_;exact AJ rfl (Af [] trivial ⟨lv,trivial⟩)
 refine AI AC [(10,.j v1.2)] [] ?_;refine AU ?_;have hq:=OI h; subst hq;exact ⟨⟨Fr 23 [(10,.j v1.2)],[]⟩,AQ,.inr rfl,[.j v1.2],kr,kr⟩
def Lb:List AV->Option AV:=Db F9 (fun a=>CC a.1 a.2.1 a.2.2.1 a.2.2.2.1 a.2.2.2.2.1) GN
theorem Gx:XOk 16 Lb:=by
 refine AY Tryz.func16 (c:=H4) ?h2 ⟨Tryz.call16⟩ F9 (fun a=>CC a.1 a.2.1 a.2.2.1 a.2.2.2.1 a.2.2.2.2.1) GN (fun a=>(by show 5<=23; decide)) ?h3 ?h4
 case h2=>kernel_rfl
 case h3=>intro b; kernel_rfl
 case h4=>exact fun a b h=>Jw a.1 a.2.1 a.2.2.1 a.2.2.2.1 a.2.2.2.2.1 b h
noncomputable def Cp:Code:=Br Tryz.f45
def Aj (xs:List AD):Option Blk:=some ⟨5,66,xs.map AA.enc,false⟩
set_option maxRecDepth 100000 in
theorem D4 (xs:List AD) (hc:Hh 64 xs.length=true):Sem E0 ⟨none,false⟩ Cp ⟨Fr 8 [(0,.sl 5 (xs.map AA.enc))],[]⟩ fun e s'=>(e = .normal\/e = .ret)/\((xs=[]/\s'=⟨Fr 8 [(2,.e0)],[]⟩)\/s'=⟨Fr 8 [(2,.rf 0 0 xs.length xs.length)],[Aj xs]⟩):=by
 refine AG ?_
 refine AL (s1:=⟨Fr 8 [(0,.sl 5 (xs.map AA.enc)),(2,.e0)],[]⟩) ?_ ?_
 ·refine Hg AC 1 (s1:=⟨Fr 8 [(0,.sl 5 (xs.map AA.enc)),(2,.e0)],[]⟩) (by kernel_rfl) ?_
  exact AJ rfl AQ
 refine AG ?_
 refine AG (Oh ?_)
 refine Hg AC 1 (s1:=⟨Fr 8 [(0,.sl 5 (xs.map AA.enc)),(2,.e0),(3,.sl 5 (xs.map AA.enc))],[]⟩) (by kernel_rfl) ?_
 refine PL (k:=5) (el:=66) (es:=xs.map AA.enc) rfl (AB rfl) (by kernel_rfl) (by kernel_rfl) fun b hb=>AJ rfl ?_
 have hb:b=true->xs=[]:=fun h=>List.map_eq_nil_iff.1 (hb h)
 refine AS (b:=b) (by kernel_rfl) (fun hb1=>?_) (fun hb1=>?_)
 ·have hx:=hb hb1
  refine A4 ?_
  refine AG (AL (s1:=⟨Fr 8 [(2,.e0)],[]⟩) ?_ (AU ?_))
  ·refine Hg AC 1 (s1:=⟨Fr 8 [(0,.sl 5 (xs.map AA.enc)),(2,.e0),(3,.sl 5 (xs.map AA.enc)),(4,.v (.bool b))],[]⟩) (by kernel_rfl) ?_
   exact AJ rfl AQ
  ·exact ⟨_,Wk.refl,.inr rfl,.inl ⟨hx,rfl⟩⟩
 ·refine Aa ?_
  refine A4 (AG (Oh ?_))
  refine Hg AC 2 (s1:=⟨Fr 8 [(0,.sl 5 (xs.map AA.enc)),(2,.e0),(3,.sl 5 (xs.map AA.enc)),(4,.v (.bool b)),(5,.rf 0 0 0 0),(6,.sl 5 (xs.map AA.enc))],[Aj []]⟩) (by kernel_rfl) ?_
  cases xs with
  | nil =>
   refine Ak AC 0 rfl (Tb (x:= .rf 0 0 0 0) (hp':=[Aj []]) (AB rfl) rfl (by kernel_rfl) (by kernel_rfl) (by kernel_rfl)) ?_
   refine Hg AC 1 (s1:=⟨Fr 8 [(0,.sl 5 []),(2,.rf 0 0 0 0),(3,.sl 5 []),(4,.v (.bool b)),(5,.rf 0 0 0 0),(6,.sl 5 []),(7,.rf 0 0 0 0)],[Aj []]⟩) (by kernel_rfl) (AJ rfl (AU ?_))
   exact ⟨⟨Fr 8 [(2,.rf 0 0 0 0)],[Aj []]⟩,AQ,.inr rfl,.inr rfl⟩
  | cons y ys =>
   refine Ak AC 0 rfl (Tb (AB rfl) rfl (by kernel_rfl) (by kernel_rfl) (Jq (a:= .rf 0 0 0 0) (b:= .sl 5 ((y::ys).map AA.enc)) (by kernel_rfl) (by kernel_rfl) (Qx (c:=AA) (xs:=[]) (vs:=y::ys) (k:=5) (bytes:=64) (el:=66) (by kernel_rfl) (by kernel_rfl) RB (List.cons_ne_nil _ _) (by kernel_rfl) (by rw [List.length_nil,Nat.zero_add]; exact hc)))) ?_
   refine Hg AC 1 (s1:=⟨Fr 8 [(0,.sl 5 ((y::ys).map AA.enc)),(2,.rf 1 0 (y::ys).length (y::ys).length),(3,.sl 5 ((y::ys).map AA.enc)),(4,.v (.bool b)),(5,.rf 0 0 0 0),(6,.sl 5 ((y::ys).map AA.enc)),(7,.rf 1 0 (y::ys).length (y::ys).length)],[none,Aj (y::ys)]⟩) (by kernel_rfl) (AJ rfl (AU ?_))
   exact ⟨⟨Fr 8 [(2,.rf 0 0 (y::ys).length (y::ys).length)],[Aj (y::ys)]⟩,Af [1] ⟨⟨_,rfl,Ts⟩,trivial⟩ ⟨lv,trivial⟩,.inr rfl,.inr rfl⟩
/-- .. as it is told to those who only read. -/
def Ay (xs:List AD):Option (List AD):=if Hh 64 xs.length=true then some xs else none
def Cq:Cs (List AD×Unit):=csC (cdL 5 AA) csN
def Cr (r:List AD):AV:=(cdL 5 AA).enc r
def EU:List AV->Option AV:=Db Cq (fun a=>Ay a.1) Cr
theorem EV:XOk 45 EU:=by
 refine EnvOk.x (E:=E0) (N4 AC (fn:=Tryz.f45) (c:=Cp) ?h1 ?h2 ⟨Tryz.call45⟩ Cq (fun a=>Ay a.1) Cr (fun a=>(by show 1<=8; decide)) ?h3 ?h4) rfl rfl
 case h1=>kernel_rfl
 case h2=>kernel_rfl
 case h3=>intro b; kernel_rfl
 case h4 =>
  intro a r h
  have h:Ay a.1=some r:=h
  unfold Ay at h
  by_cases hc:Hh 64 a.1.length=true
  ·rw [if_pos hc] at h
   injection h with h
   subst h
   refine A4 (Sem.mono (D4 a.1 hc) ?_)
   rintro e s' ⟨he,⟨hx,rfl⟩ | rfl⟩
   ·rw [hx]
    exact ⟨⟨Fr 8 [(2,.sl 5 [])],[none]⟩,Wk.trans (s1:=⟨Fr 8 [(2,.e0)],[none]⟩) Wk.none (HF 0 (.inl (by kernel_rfl)) ⟨.inl rfl,trivial⟩ ⟨⟨.e0,(by kernel_rfl),PV⟩,trivial⟩),he,[.sl 5 []],by kernel_rfl,by kernel_rfl⟩
   ·exact ⟨⟨Fr 8 [(2,.sl 5 (a.1.map AA.enc))],[none]⟩,HF 0 (.inl (by kernel_rfl)) ⟨.inl rfl,trivial⟩ ⟨⟨.rf 0 0 a.1.length a.1.length,(by kernel_rfl),T4 (c:=AA) (xs:=a.1) (t:=66) (by kernel_rfl)⟩,trivial⟩,he,[.sl 5 (a.1.map AA.enc)],by kernel_rfl,by kernel_rfl⟩
  ·rw [if_neg hc] at h; cases h
/- trestle/trestlelaw03.Head -/
noncomputable def JT:Code:=Br Tryz.f17
def D3 (x0:(List AD)) (x1:Int):Option ((List AD)) :=
 if (C8 0 x1 x0.length)=true then
 (Ay ((x0.take x1.toNat).drop (0:Int).toNat)).bind fun v2 =>
 some v2
 else none
def FH:Cs ((List AD)×Int×Unit):=(csC (cdL 5 AA) (csC cdI csN))
def Hn (r:(List AD)):AV:=(cdL 5 AA).enc r
theorem MD (x0:(List AD)) (x1:Int) (r:(List AD)) (h:D3 x0 x1=some r):Sem E0 ⟨none,false⟩ JT ⟨Fr 9 (BW 0 (FH.enc (x0,x1,()))),[]⟩ fun e s'=>(e = .normal\/e = .ret)/\∃ xs,EO E0.P s'.fr s'.hp Tryz.f17.results.toList=some xs/\ET xs=Hn r:=by
 unfold D3 at h
 let p1:Nat×AV:=(0,.sl 5 (x0.map AA.enc))
 refine A4 (Bq (s1:=⟨Fr 9 [p1,(1,.j x1)],[]⟩) AQ ?_);refine AI AC [p1,(1,.j x1)] [] ?_;refine AG ?_;by_cases hk1:(C8 0 x1 x0.length)=true
 case neg=>rw [if_neg hk1] at h; cases h
 rw [if_pos hk1] at h;obtain ⟨v2,hv2,h⟩:=OB h
 let p2:Nat×AV:=(4,.sl 5 (v2.map AA.enc))
 refine AL (s1:=⟨Fr 9 [p2],[]⟩) ?_ ?_
 ·refine AE (n:=9) AC 2 [(5,.sl 5 (x0.map AA.enc)),(6,.j x1)] [] kr ?_
  refine Ak AC 0 rfl (ED (AB rfl) rfl (EE (a:= .sl 5 (x0.map AA.enc)) (l:=none) (u:=(some (.j x1))) (m:=none) kr kr kr rfl (Jl (xs:=x0) (e:=AA.enc) (k:=5) (el:=66) (lo:=0) (hi:=x1) kr kr rfl (Fq (IX hk1)) hk1))) ?_;refine Ai (caps:=[]) (xs:=[.sl 5 (((x0.take x1.toNat).drop (0:Int).toNat).map AA.enc)]) (u:=(((x0.take x1.toNat).drop (0:Int).toNat),())) rfl rfl EV rfl (AB rfl) kr kr (AP (Al (c:=(cdL 5 AA)) (v:=((x0.take x1.toNat).drop (0:Int).toNat))) Bc) (.inr kr) hv2 ?_;exact As AC
 refine AU ?_;have hq:=OI h; subst hq;exact ⟨⟨Fr 9 [p2],[]⟩,AQ,.inr rfl,[.sl 5 (v2.map AA.enc)],kr,kr⟩
def Nn:List AV->Option AV:=Db FH (fun a=>D3 a.1 a.2.1) Hn
theorem Kb:XOk 17 Nn:=by
 refine AY Tryz.func17 (c:=JT) ?h2 ⟨Tryz.call17⟩ FH (fun a=>D3 a.1 a.2.1) Hn (fun a=>(by show 2<=9; decide)) ?h3 ?h4
 case h2=>kernel_rfl
 case h3=>intro b; kernel_rfl
 case h4=>exact fun a b h=>MD a.1 a.2.1 b h
end Go.Proofs.YtdjhmdbpcfnpgaaGreatDoor
