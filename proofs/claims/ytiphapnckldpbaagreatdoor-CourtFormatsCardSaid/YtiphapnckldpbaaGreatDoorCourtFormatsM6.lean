/- Lemmas for the proof. -/
import Derived.Test.YtiphapnckldpbaaGreatDoorCourtFormatsM1
import Derived.Test.YtiphapnckldpbaaGreatDoorCourtFormatsM2
import Derived.Test.YtiphapnckldpbaaGreatDoorCourtFormatsM3
import Derived.Test.YtiphapnckldpbaaGreatDoorCourtFormatsM4
import Derived.Test.YtiphapnckldpbaaGreatDoorCourtFormatsM5
set_option maxHeartbeats 4000000
set_option maxRecDepth 100000
namespace Go.Proofs.YtiphapnckldpbaaGreatDoor
open Go.RowKit
/- trestle/court.formed -/
noncomputable def Bj:Code:=Bg Tryz.f120
def Ek (x0:AG):Option ((Bool)) :=
 if (x0.1==8)=true then
 some (x0.1==8)
 else
 some (x0.1==9)
def Ej (x0:AG):Option ((Bool)) :=
 if (x0.1==3)=true then
 some (x0.1==3)
 else
 (Ek x0).bind fun r14 =>
 some r14
def Ei (x0:AG):Option ((Bool)) :=
 if (x0.1==2)=true then
 some (x0.1==2)
 else
 (Ej x0).bind fun r15 =>
 some r15
def Eo (x0:AG):Option ((Bool)) :=
 if (x0.1==6)=true then
 some (x0.1==6)
 else
 some (x0.1==7)
def Ep (x0:AG) (r33:Bool):Option ((Int×Int×Bool) ⊕ (Bool)) :=
 if r33=true then
 some (.inl (16,0,true))
 else
 if (x0.1==10)=true then
 some (.inl (0,63,false))
 else
 some (.inr false)
def En (x0:AG):Option ((Int×Int×Bool) ⊕ (Bool)) :=
 if (x0.1==5)=true then
 some (.inl (0,0,true))
 else
 (Eo x0).bind fun r33 =>
 (Ep x0 r33).bind fun r40 =>
 match r40 with
 | (.inl w41) =>
  some (.inl (w41.1,w41.2.1,w41.2.2))
 | (.inr w42) =>
  some (.inr w42)
def Em (x0:AG):Option ((Int×Int×Int×Bool) ⊕ (Bool)) :=
 if (x0.1==4)=true then
 some (.inl (0,1,2,true))
 else
 (En x0).bind fun r44 =>
 match r44 with
 | (.inl w45) =>
  some (.inl (w45.1,0,w45.2.1,w45.2.2))
 | (.inr w46) =>
  some (.inr w46)
def El (x0:AG) (r16:Bool):Option ((Int×Int×Int×Bool) ⊕ (Bool)) :=
 if r16=true then
 some (.inl (0,0,0,false))
 else
 (Em x0).bind fun r48 =>
 match r48 with
 | (.inl w49) =>
  some (.inl (w49.1,w49.2.1,w49.2.2.1,w49.2.2.2))
 | (.inr w50) =>
  some (.inr w50)
def Eh (x0:AG):Option ((Int×Int×Int×Bool) ⊕ (Bool)) :=
 if (x0.1==1)=true then
 if (!(x0.2.1==[]))=true then
 some (.inr false)
 else
 some (.inl (16,0,0,false))
 else
 (Ei x0).bind fun r16 =>
 (El x0 r16).bind fun r52 =>
 match r52 with
 | (.inl w53) =>
  some (.inl (w53.1,w53.2.1,w53.2.2.1,w53.2.2.2))
 | (.inr w54) =>
  some (.inr w54)
def BK (x0:AG):Option (Bool) :=
 (Eh x0).bind fun r55 =>
 match r55 with
 | (.inl w56) =>
  (if (decide ((x0.2.2.2.1.length:Int)<=w56.1))=true then if (w56.1==0)=true then if (decide (x0.2.2.2.2≥w56.2.1))=true then if (decide (x0.2.2.2.2<=w56.2.2.1))=true then if w56.2.2.2=true then some true else some (!x0.2.2.1) else some false else some false else if (decide ((x0.2.2.2.1.length:Int) > 0))=true then if (decide (x0.2.2.2.2≥w56.2.1))=true then if (decide (x0.2.2.2.2<=w56.2.2.1))=true then if w56.2.2.2=true then some true else some (!x0.2.2.1) else some false else some false else some false else some false).bind fun j58 =>
  some j58
 | (.inr w68) =>
  some w68
def GK:Cs (AG×Unit):=(csC AA csN)
def GT (r:Bool):AV:=cdB.enc r
theorem JQ (x0:AG) (r:(Bool)) (h:Ek x0=some r):Sem E0 ⟨none,false⟩ (pc Bj [1,1,0,1,0,1,1,0,1,1,1,1,1]) ⟨Fr 63 [(1,.pt 0 0 0),(3,.j 0),(4,.j 0),(5,.j 0),(6,.b false),(8,.v (.int .u8 x0.1)),(14,.b (x0.1==8))],[some ⟨5,70,[AA.enc x0],false⟩]⟩ (fun e s=>e = .normal/\Wk E0 s ⟨Fr 63 [(1,.pt 0 0 0),(3,.j 0),(4,.j 0),(5,.j 0),(6,.b false),(8,.v (.int .u8 x0.1)),(14,.b r)],[some ⟨5,70,[AA.enc x0],false⟩]⟩):=by
 unfold Ek at h;refine AN (b:=(x0.1==8)) kr (fun hb12=>?_) (fun hb12=>?_)
 ·rw [if_pos hb12] at h
  refine AY ?_;have hq:=OI h; subst hq;exact ⟨rfl,(Ax [0] ⟨⟨_,rfl,Hk⟩,trivial⟩ ⟨lv,lv,lv,lv,lv,lv,lv,trivial⟩)⟩
 ·rw [Bu hb12] at h
  refine DE AC [(1,.pt 0 0 0),(3,.j 0),(4,.j 0),(5,.j 0),(6,.b false),(8,.v (.int .u8 x0.1)),(14,.b (x0.1==9))] [some ⟨5,70,[AA.enc x0],false⟩] ?_;have hq:=OI h; subst hq;exact ⟨rfl,(Ax [0] ⟨⟨_,rfl,Hk⟩,trivial⟩ ⟨lv,lv,lv,lv,lv,lv,lv,trivial⟩)⟩
theorem JP (x0:AG) (r:(Bool)) (h:Ej x0=some r):Sem E0 ⟨none,false⟩ (pc Bj [1,1,0,1,0,1,1,0,1,1,1]) ⟨Fr 63 [(1,.pt 0 0 0),(3,.j 0),(4,.j 0),(5,.j 0),(6,.b false),(8,.v (.int .u8 x0.1)),(14,.b (x0.1==3))],[some ⟨5,70,[AA.enc x0],false⟩]⟩ (fun e s=>e = .normal/\Wk E0 s ⟨Fr 63 [(1,.pt 0 0 0),(3,.j 0),(4,.j 0),(5,.j 0),(6,.b false),(8,.v (.int .u8 x0.1)),(14,.b r)],[some ⟨5,70,[AA.enc x0],false⟩]⟩):=by
 unfold Ej at h;refine AN (b:=(x0.1==3)) kr (fun hb10=>?_) (fun hb10=>?_)
 ·rw [if_pos hb10] at h
  refine AY ?_;have hq:=OI h; subst hq;exact ⟨rfl,(Ax [0] ⟨⟨_,rfl,Hk⟩,trivial⟩ ⟨lv,lv,lv,lv,lv,lv,lv,trivial⟩)⟩
 ·rw [Bu hb10] at h
  refine AL AC [(1,.pt 0 0 0),(3,.j 0),(4,.j 0),(5,.j 0),(6,.b false),(8,.v (.int .u8 x0.1)),(14,.b (x0.1==8))] [some ⟨5,70,[AA.enc x0],false⟩] ?_;obtain ⟨r14,hr14,h⟩:=OB h;refine C2 (JQ x0 _ hr14) ?_;have hq:=OI h; subst hq;exact ⟨rfl,(Ax [0] ⟨⟨_,rfl,Hk⟩,trivial⟩ ⟨lv,lv,lv,lv,lv,lv,lv,trivial⟩)⟩
theorem JO (x0:AG) (r:(Bool)) (h:Ei x0=some r):Sem E0 ⟨none,false⟩ (pc Bj [1,1,0,1,0,1,1,0,1]) ⟨Fr 63 [(1,.pt 0 0 0),(3,.j 0),(4,.j 0),(5,.j 0),(6,.b false),(8,.v (.int .u8 x0.1)),(14,.b (x0.1==2))],[some ⟨5,70,[AA.enc x0],false⟩]⟩ (fun e s=>e = .normal/\Wk E0 s ⟨Fr 63 [(1,.pt 0 0 0),(3,.j 0),(4,.j 0),(5,.j 0),(6,.b false),(8,.v (.int .u8 x0.1)),(14,.b r)],[some ⟨5,70,[AA.enc x0],false⟩]⟩):=by
 unfold Ei at h;refine AN (b:=(x0.1==2)) kr (fun hb8=>?_) (fun hb8=>?_)
 ·rw [if_pos hb8] at h
  refine AY ?_;have hq:=OI h; subst hq;exact ⟨rfl,(Ax [0] ⟨⟨_,rfl,Hk⟩,trivial⟩ ⟨lv,lv,lv,lv,lv,lv,lv,trivial⟩)⟩
 ·rw [Bu hb8] at h
  refine AL AC [(1,.pt 0 0 0),(3,.j 0),(4,.j 0),(5,.j 0),(6,.b false),(8,.v (.int .u8 x0.1)),(14,.b (x0.1==3))] [some ⟨5,70,[AA.enc x0],false⟩] ?_;obtain ⟨r15,hr15,h⟩:=OB h;refine C2 (JP x0 _ hr15) ?_;have hq:=OI h; subst hq;exact ⟨rfl,(Ax [0] ⟨⟨_,rfl,Hk⟩,trivial⟩ ⟨lv,lv,lv,lv,lv,lv,lv,trivial⟩)⟩
theorem JR (x0:AG) (r:(Bool)) (h:Eo x0=some r):Sem E0 ⟨none,false⟩ (pc Bj [1,1,0,1,0,1,1,1,1,1,1,1,1,0,1]) ⟨Fr 63 [(1,.pt 0 0 0),(3,.j 0),(4,.j 0),(5,.j 0),(6,.b false),(8,.v (.int .u8 x0.1)),(23,.b (x0.1==6))],[some ⟨5,70,[AA.enc x0],false⟩]⟩ (fun e s=>e = .normal/\Wk E0 s ⟨Fr 63 [(1,.pt 0 0 0),(3,.j 0),(4,.j 0),(5,.j 0),(6,.b false),(8,.v (.int .u8 x0.1)),(23,.b r)],[some ⟨5,70,[AA.enc x0],false⟩]⟩):=by
 unfold Eo at h;refine AN (b:=(x0.1==6)) kr (fun hb31=>?_) (fun hb31=>?_)
 ·rw [if_pos hb31] at h
  refine AY ?_;have hq:=OI h; subst hq;exact ⟨rfl,(Ax [0] ⟨⟨_,rfl,Hk⟩,trivial⟩ ⟨lv,lv,lv,lv,lv,lv,lv,trivial⟩)⟩
 ·rw [Bu hb31] at h
  refine DE AC [(1,.pt 0 0 0),(3,.j 0),(4,.j 0),(5,.j 0),(6,.b false),(8,.v (.int .u8 x0.1)),(23,.b (x0.1==7))] [some ⟨5,70,[AA.enc x0],false⟩] ?_;have hq:=OI h; subst hq;exact ⟨rfl,(Ax [0] ⟨⟨_,rfl,Hk⟩,trivial⟩ ⟨lv,lv,lv,lv,lv,lv,lv,trivial⟩)⟩
theorem Gn (x0:AG) (r33:Bool) (r:(Int×Int×Bool) ⊕ (Bool)) (h:Ep x0 r33=some r):Sem E0 ⟨none,false⟩ (pc Bj [1,1,0,1,0,1,1,1,1,1,1,1,1,1]) ⟨Fr 63 [(1,.pt 0 0 0),(3,.j 0),(4,.j 0),(5,.j 0),(6,.b false),(8,.v (.int .u8 x0.1)),(23,.b r33)],[some ⟨5,70,[AA.enc x0],false⟩]⟩ (fun e s=>match r with
 | (.inl w)=>e = .normal/\Wk E0 s ⟨Fr 63 [(1,.pt 0 0 0),(3,.j w.1),(4,.j 0),(5,.j w.2.1),(6,.b w.2.2)],[some ⟨5,70,[AA.enc x0],false⟩]⟩
 | (.inr w)=>e = .ret/\Wk E0 s ⟨Fr 63 [(2,.b w)],[]⟩):=by
 unfold Ep at h;refine AN (b:=r33) kr (fun hb34=>?_) (fun hb34=>?_)
 ·rw [if_pos hb34] at h
  refine DE AC [(1,.pt 0 0 0),(3,.j 16),(4,.j 0),(5,.j 0),(6,.b true)] [some ⟨5,70,[AA.enc x0],false⟩] ?_;have hq:=OI h; subst hq;exact ⟨rfl,(Ax [0] ⟨⟨_,rfl,Hk⟩,trivial⟩ ⟨lv,lv,lv,lv,lv,trivial⟩)⟩
 ·rw [Bu hb34] at h
  let p1:Option Blk:=some ⟨5,70,[AA.enc x0],false⟩
  refine AL AC [(1,.pt 0 0 0),(3,.j 0),(4,.j 0),(6,.b false),(26,.b (x0.1==10))] [p1] ?_;refine AN (b:=(x0.1==10)) kr (fun hb38=>?_) (fun hb38=>?_)
  ·rw [if_pos hb38] at h
   refine DE AC [(1,.pt 0 0 0),(3,.j 0),(4,.j 0),(5,.j 63),(6,.b false)] [p1] ?_;have hq:=OI h; subst hq;exact ⟨rfl,(Ax [0] ⟨⟨_,rfl,Hk⟩,trivial⟩ ⟨lv,lv,lv,lv,lv,trivial⟩)⟩
  ·rw [Bu hb38] at h
   refine AF ?_;refine AJ (s1:=⟨Fr 63 [(2,.b false)],[]⟩) ?_ ?_
   ·refine AD (n:=63) AC 1 [(2,.b false)] [p1] kr ?_
    exact AE rfl (Ax [] trivial ⟨lv,trivial⟩)
   refine AS ?_;have hq:=OI h; subst hq;exact ⟨rfl,AH⟩
theorem Gm (x0:AG) (r:(Int×Int×Bool) ⊕ (Bool)) (h:En x0=some r):Sem E0 ⟨none,false⟩ (pc Bj [1,1,0,1,0,1,1,1,1,1,1,1]) ⟨Fr 63 [(1,.pt 0 0 0),(3,.j 0),(4,.j 0),(5,.j 0),(6,.b false),(8,.v (.int .u8 x0.1)),(21,.b (x0.1==5))],[some ⟨5,70,[AA.enc x0],false⟩]⟩ (fun e s=>match r with
 | (.inl w)=>e = .normal/\Wk E0 s ⟨Fr 63 [(1,.pt 0 0 0),(3,.j w.1),(4,.j 0),(5,.j w.2.1),(6,.b w.2.2)],[some ⟨5,70,[AA.enc x0],false⟩]⟩
 | (.inr w)=>e = .ret/\Wk E0 s ⟨Fr 63 [(2,.b w)],[]⟩):=by
 unfold En at h;refine AN (b:=(x0.1==5)) kr (fun hb27=>?_) (fun hb27=>?_)
 ·rw [if_pos hb27] at h
  refine DE AC [(1,.pt 0 0 0),(3,.j 0),(4,.j 0),(5,.j 0),(6,.b true)] [some ⟨5,70,[AA.enc x0],false⟩] ?_;have hq:=OI h; subst hq;exact ⟨rfl,(Ax [0] ⟨⟨_,rfl,Hk⟩,trivial⟩ ⟨lv,lv,lv,lv,lv,trivial⟩)⟩
 ·rw [Bu hb27] at h
  refine AF ?_;refine AL AC [(1,.pt 0 0 0),(3,.j 0),(4,.j 0),(5,.j 0),(6,.b false),(8,.v (.int .u8 x0.1)),(23,.b (x0.1==6))] [some ⟨5,70,[AA.enc x0],false⟩] ?_;obtain ⟨r33,hr33,h⟩:=OB h;refine C2 (JR x0 _ hr33) ?_;obtain ⟨r40,hr40,h⟩:=OB h;rcases r40 with w41 | w42
  ·try dsimp only at h
   refine C2 (Gn x0 r33 _ hr40) ?_;have hq:=OI h; subst hq;exact ⟨rfl,(Ax [0] ⟨⟨_,rfl,Hk⟩,trivial⟩ ⟨lv,lv,lv,lv,lv,trivial⟩)⟩
  ·try dsimp only at h
   refine C2 (Gn x0 r33 _ hr40) ?_;have hq:=OI h; subst hq;exact ⟨rfl,AH⟩
theorem Gl (x0:AG) (r:(Int×Int×Int×Bool) ⊕ (Bool)) (h:Em x0=some r):Sem E0 ⟨none,false⟩ (pc Bj [1,1,0,1,0,1,1,1,1,1]) ⟨Fr 63 [(1,.pt 0 0 0),(3,.j 0),(4,.j 0),(5,.j 0),(6,.b false),(8,.v (.int .u8 x0.1)),(19,.b (x0.1==4))],[some ⟨5,70,[AA.enc x0],false⟩]⟩ (fun e s=>match r with
 | (.inl w)=>e = .normal/\Wk E0 s ⟨Fr 63 [(1,.pt 0 0 0),(3,.j w.1),(4,.j w.2.1),(5,.j w.2.2.1),(6,.b w.2.2.2)],[some ⟨5,70,[AA.enc x0],false⟩]⟩
 | (.inr w)=>e = .ret/\Wk E0 s ⟨Fr 63 [(2,.b w)],[]⟩):=by
 unfold Em at h;refine AN (b:=(x0.1==4)) kr (fun hb22=>?_) (fun hb22=>?_)
 ·rw [if_pos hb22] at h
  refine DE AC [(1,.pt 0 0 0),(3,.j 0),(4,.j 1),(5,.j 2),(6,.b true)] [some ⟨5,70,[AA.enc x0],false⟩] ?_;have hq:=OI h; subst hq;exact ⟨rfl,(Ax [0] ⟨⟨_,rfl,Hk⟩,trivial⟩ ⟨lv,lv,lv,lv,lv,trivial⟩)⟩
 ·rw [Bu hb22] at h
  refine AL AC [(1,.pt 0 0 0),(3,.j 0),(4,.j 0),(5,.j 0),(6,.b false),(8,.v (.int .u8 x0.1)),(21,.b (x0.1==5))] [some ⟨5,70,[AA.enc x0],false⟩] ?_;obtain ⟨r44,hr44,h⟩:=OB h;rcases r44 with w45 | w46
  ·try dsimp only at h
   refine C2 (Gm x0 _ hr44) ?_;have hq:=OI h; subst hq;exact ⟨rfl,(Ax [0] ⟨⟨_,rfl,Hk⟩,trivial⟩ ⟨lv,lv,lv,lv,lv,trivial⟩)⟩
  ·try dsimp only at h
   refine C2 (Gm x0 _ hr44) ?_;have hq:=OI h; subst hq;exact ⟨rfl,AH⟩
theorem Gk (x0:AG) (r16:Bool) (r:(Int×Int×Int×Bool) ⊕ (Bool)) (h:El x0 r16=some r):Sem E0 ⟨none,false⟩ (pc Bj [1,1,0,1,0,1,1,1]) ⟨Fr 63 [(1,.pt 0 0 0),(3,.j 0),(4,.j 0),(5,.j 0),(6,.b false),(8,.v (.int .u8 x0.1)),(14,.b r16)],[some ⟨5,70,[AA.enc x0],false⟩]⟩ (fun e s=>match r with
 | (.inl w)=>e = .normal/\Wk E0 s ⟨Fr 63 [(1,.pt 0 0 0),(3,.j w.1),(4,.j w.2.1),(5,.j w.2.2.1),(6,.b w.2.2.2)],[some ⟨5,70,[AA.enc x0],false⟩]⟩
 | (.inr w)=>e = .ret/\Wk E0 s ⟨Fr 63 [(2,.b w)],[]⟩):=by
 unfold El at h;refine AN (b:=r16) kr (fun hb17=>?_) (fun hb17=>?_)
 ·rw [if_pos hb17] at h
  refine AY ?_;have hq:=OI h; subst hq;exact ⟨rfl,(Ax [0] ⟨⟨_,rfl,Hk⟩,trivial⟩ ⟨lv,lv,lv,lv,lv,trivial⟩)⟩
 ·rw [Bu hb17] at h
  refine AL AC [(1,.pt 0 0 0),(3,.j 0),(4,.j 0),(5,.j 0),(6,.b false),(8,.v (.int .u8 x0.1)),(19,.b (x0.1==4))] [some ⟨5,70,[AA.enc x0],false⟩] ?_;obtain ⟨r48,hr48,h⟩:=OB h;rcases r48 with w49 | w50
  ·try dsimp only at h
   refine C2 (Gl x0 _ hr48) ?_;have hq:=OI h; subst hq;exact ⟨rfl,(Ax [0] ⟨⟨_,rfl,Hk⟩,trivial⟩ ⟨lv,lv,lv,lv,lv,trivial⟩)⟩
  ·try dsimp only at h
   refine C2 (Gl x0 _ hr48) ?_;have hq:=OI h; subst hq;exact ⟨rfl,AH⟩
theorem Gj (x0:AG) (r:(Int×Int×Int×Bool) ⊕ (Bool)) (h:Eh x0=some r):Sem E0 ⟨none,false⟩ (pc Bj [1,1,0,1,0,1]) ⟨Fr 63 [(1,.pt 0 0 0),(3,.j 0),(4,.j 0),(5,.j 0),(6,.b false),(8,.v (.int .u8 x0.1)),(9,.b (x0.1==1))],[some ⟨5,70,[AA.enc x0],false⟩]⟩ (fun e s=>match r with
 | (.inl w)=>e = .normal/\Wk E0 s ⟨Fr 63 [(1,.pt 0 0 0),(3,.j w.1),(4,.j w.2.1),(5,.j w.2.2.1),(6,.b w.2.2.2)],[some ⟨5,70,[AA.enc x0],false⟩]⟩
 | (.inr w)=>e = .ret/\Wk E0 s ⟨Fr 63 [(2,.b w)],[]⟩):=by
 unfold Eh at h;refine AN (b:=(x0.1==1)) kr (fun hb1=>?_) (fun hb1=>?_)
 ·rw [if_pos hb1] at h
  refine AF ?_
  let p1:Option Blk:=some ⟨5,70,[AA.enc x0],false⟩
  refine AL AC [(1,.pt 0 0 0),(4,.j 0),(5,.j 0),(6,.b false),(13,.b (!(x0.2.1==[])))] [p1] ?_;refine AN (b:=(!(x0.2.1==[]))) kr (fun hb2=>?_) (fun hb2=>?_)
  ·rw [if_pos hb2] at h
   refine AF ?_;refine AJ (s1:=⟨Fr 63 [(2,.b false)],[]⟩) ?_ ?_
   ·refine AD (n:=63) AC 1 [(2,.b false)] [p1] kr ?_
    exact AE rfl (Ax [] trivial ⟨lv,trivial⟩)
   refine AS ?_;have hq:=OI h; subst hq;exact ⟨rfl,AH⟩
  ·rw [Bu hb2] at h
   refine AY ?_;refine DE AC [(1,.pt 0 0 0),(3,.j 16),(4,.j 0),(5,.j 0),(6,.b false)] [p1] ?_;have hq:=OI h; subst hq;exact ⟨rfl,(Ax [0] ⟨⟨_,rfl,Hk⟩,trivial⟩ ⟨lv,lv,lv,lv,lv,trivial⟩)⟩
 ·rw [Bu hb1] at h
  refine AF ?_;refine AL AC [(1,.pt 0 0 0),(3,.j 0),(4,.j 0),(5,.j 0),(6,.b false),(8,.v (.int .u8 x0.1)),(14,.b (x0.1==2))] [some ⟨5,70,[AA.enc x0],false⟩] ?_;obtain ⟨r16,hr16,h⟩:=OB h;refine C2 (JO x0 _ hr16) ?_;obtain ⟨r52,hr52,h⟩:=OB h;rcases r52 with w53 | w54
  ·try dsimp only at h
   refine C2 (Gk x0 r16 _ hr52) ?_;have hq:=OI h; subst hq;exact ⟨rfl,(Ax [0] ⟨⟨_,rfl,Hk⟩,trivial⟩ ⟨lv,lv,lv,lv,lv,trivial⟩)⟩
  ·try dsimp only at h
   refine C2 (Gk x0 r16 _ hr52) ?_;have hq:=OI h; subst hq;exact ⟨rfl,AH⟩
theorem KJ (x0:AG) (r:Bool) (h:BK x0=some r):Sem E0 ⟨none,false⟩ Bj ⟨Fr 63 (BG 0 (GK.enc (x0,()))),[]⟩ fun e s'=>(e = .normal\/e = .ret)/\∃ xs,ED E0.P s'.fr s'.hp Tryz.f120.results.toList=some xs/\EJ xs=GT r:=by
 unfold BK at h;refine BD (Bw (s1:=⟨Fr 63 [(0,AA.enc x0)],[]⟩) AH ?_);refine AL AC [(1,.pt 0 0 0)] [some ⟨5,70,[AA.enc x0],false⟩] ?_;refine AL AC [(1,.pt 0 0 0),(3,.j 0),(4,.j 0),(5,.j 0),(6,.b false)] [some ⟨5,70,[AA.enc x0],false⟩] ?_;refine AF ?_;refine AL AC [(1,.pt 0 0 0),(3,.j 0),(4,.j 0),(5,.j 0),(6,.b false),(8,.v (.int .u8 x0.1))] [some ⟨5,70,[AA.enc x0],false⟩] ?_;refine Aq ?_;refine AL AC [(1,.pt 0 0 0),(3,.j 0),(4,.j 0),(5,.j 0),(6,.b false),(8,.v (.int .u8 x0.1)),(9,.b (x0.1==1))] [some ⟨5,70,[AA.enc x0],false⟩] ?_;obtain ⟨r55,hr55,h⟩:=OB h;rcases r55 with w56 | w68
 ·try dsimp only at h
  refine C2 (Gj x0 _ hr55) ?_;refine AF ?_;obtain ⟨j58,hj58,h⟩:=OB h;refine AJ (s1:=⟨Fr 63 [(2,.b j58)],[]⟩) ?_ ?_
  ·refine AD (n:=63) AC 2 [(1,.pt 0 0 0),(3,.j w56.1),(4,.j w56.2.1),(5,.j w56.2.2.1),(6,.b w56.2.2.2),(29,.sl 1 (x0.2.2.2.1.map cdS.enc))] [some ⟨5,70,[AA.enc x0],false⟩] kr ?_
   refine AK AC 0 rfl (Bi (AB rfl) rfl (EG (a:= .sl 1 (x0.2.2.2.1.map cdS.enc)) kr (Cn (el:=9) kr))) ?_;refine AD (n:=63) AC 3 [(1,.pt 0 0 0),(3,.j w56.1),(4,.j w56.2.1),(5,.j w56.2.2.1),(6,.b w56.2.2.2),(33,.b (decide ((x0.2.2.2.1.length:Int)<=w56.1)))] [some ⟨5,70,[AA.enc x0],false⟩] kr ?_;rcases BE (decide ((x0.2.2.2.1.length:Int)<=w56.1)) with hc59 | hc59
   ·rw [if_pos hc59] at hj58
    rw [hc59];refine AD (n:=63) AC 3 [(1,.pt 0 0 0),(4,.j w56.2.1),(5,.j w56.2.2.1),(6,.b w56.2.2.2),(33,.b true),(36,.b (w56.1==0))] [some ⟨5,70,[AA.enc x0],false⟩] kr ?_;rcases BE (w56.1==0) with hc60 | hc60
    ·rw [if_pos hc60] at hj58
     rw [hc60];refine AD (n:=63) AC 13 [(1,.pt 0 0 0),(5,.j w56.2.2.1),(6,.b w56.2.2.2),(49,.b (decide (x0.2.2.2.2≥w56.2.1)))] [some ⟨5,70,[AA.enc x0],false⟩] kr ?_;rcases BE (decide (x0.2.2.2.2≥w56.2.1)) with hc61 | hc61
     ·rw [if_pos hc61] at hj58
      rw [hc61];refine AD (n:=63) AC 6 [(1,.pt 0 0 0),(6,.b w56.2.2.2),(55,.b (decide (x0.2.2.2.2<=w56.2.2.1)))] [some ⟨5,70,[AA.enc x0],false⟩] kr ?_;rcases BE (decide (x0.2.2.2.2<=w56.2.2.1)) with hc62 | hc62
      ·rw [if_pos hc62] at hj58
       rw [hc62];refine AD (n:=63) AC 2 [(1,.pt 0 0 0),(55,.b true),(57,.b w56.2.2.2)] [some ⟨5,70,[AA.enc x0],false⟩] kr ?_;rcases BE w56.2.2.2 with hc63 | hc63
       ·rw [if_pos hc63] at hj58
        rw [hc63];refine AD (n:=63) AC 6 [(2,.b true)] [some ⟨5,70,[AA.enc x0],false⟩] kr ?_;have hq:=OI hj58; subst hq;exact AE rfl (Ax [] trivial ⟨lv,trivial⟩)
       ·rw [Bu hc63] at hj58
        rw [hc63];refine AD (n:=63) AC 6 [(2,.b (!x0.2.2.1))] [some ⟨5,70,[AA.enc x0],false⟩] kr ?_;have hq:=OI hj58; subst hq;exact AE rfl (Ax [] trivial ⟨lv,trivial⟩)
      ·rw [Bu hc62] at hj58
       rw [hc62];refine AD (n:=63) AC 8 [(2,.b false)] [some ⟨5,70,[AA.enc x0],false⟩] kr ?_;have hq:=OI hj58; subst hq;exact AE rfl (Ax [] trivial ⟨lv,trivial⟩)
     ·rw [Bu hc61] at hj58
      rw [hc61];refine AD (n:=63) AC 14 [(2,.b false)] [some ⟨5,70,[AA.enc x0],false⟩] kr ?_;have hq:=OI hj58; subst hq;exact AE rfl (Ax [] trivial ⟨lv,trivial⟩)
    ·rw [Bu hc60] at hj58
     rw [hc60];refine AD (n:=63) AC 2 [(1,.pt 0 0 0),(4,.j w56.2.1),(5,.j w56.2.2.1),(6,.b w56.2.2.2),(33,.b true),(36,.b false),(38,.sl 1 (x0.2.2.2.1.map cdS.enc))] [some ⟨5,70,[AA.enc x0],false⟩] kr ?_;refine AK AC 0 rfl (Bi kr rfl (EG (a:= .sl 1 (x0.2.2.2.1.map cdS.enc)) kr (Cn (el:=9) kr))) ?_;refine AD (n:=63) AC 4 [(1,.pt 0 0 0),(4,.j w56.2.1),(5,.j w56.2.2.1),(6,.b w56.2.2.2),(43,.b (decide ((x0.2.2.2.1.length:Int) > 0)))] [some ⟨5,70,[AA.enc x0],false⟩] kr ?_;rcases BE (decide ((x0.2.2.2.1.length:Int) > 0)) with hc64 | hc64
     ·rw [if_pos hc64] at hj58
      rw [hc64];refine AD (n:=63) AC 6 [(1,.pt 0 0 0),(5,.j w56.2.2.1),(6,.b w56.2.2.2),(49,.b (decide (x0.2.2.2.2≥w56.2.1)))] [some ⟨5,70,[AA.enc x0],false⟩] kr ?_;rcases BE (decide (x0.2.2.2.2≥w56.2.1)) with hc65 | hc65
      ·rw [if_pos hc65] at hj58
       rw [hc65];refine AD (n:=63) AC 6 [(1,.pt 0 0 0),(6,.b w56.2.2.2),(55,.b (decide (x0.2.2.2.2<=w56.2.2.1)))] [some ⟨5,70,[AA.enc x0],false⟩] kr ?_;rcases BE (decide (x0.2.2.2.2<=w56.2.2.1)) with hc66 | hc66
       ·rw [if_pos hc66] at hj58
        rw [hc66];refine AD (n:=63) AC 2 [(1,.pt 0 0 0),(55,.b true),(57,.b w56.2.2.2)] [some ⟨5,70,[AA.enc x0],false⟩] kr ?_;rcases BE w56.2.2.2 with hc67 | hc67
        ·rw [if_pos hc67] at hj58
         rw [hc67];refine AD (n:=63) AC 6 [(2,.b true)] [some ⟨5,70,[AA.enc x0],false⟩] kr ?_;have hq:=OI hj58; subst hq;exact AE rfl (Ax [] trivial ⟨lv,trivial⟩)
        ·rw [Bu hc67] at hj58
         rw [hc67];refine AD (n:=63) AC 6 [(2,.b (!x0.2.2.1))] [some ⟨5,70,[AA.enc x0],false⟩] kr ?_;have hq:=OI hj58; subst hq;exact AE rfl (Ax [] trivial ⟨lv,trivial⟩)
       ·rw [Bu hc66] at hj58
        rw [hc66];refine AD (n:=63) AC 8 [(2,.b false)] [some ⟨5,70,[AA.enc x0],false⟩] kr ?_;have hq:=OI hj58; subst hq;exact AE rfl (Ax [] trivial ⟨lv,trivial⟩)
      ·rw [Bu hc65] at hj58
       rw [hc65];refine AD (n:=63) AC 14 [(2,.b false)] [some ⟨5,70,[AA.enc x0],false⟩] kr ?_;have hq:=OI hj58; subst hq;exact AE rfl (Ax [] trivial ⟨lv,trivial⟩)
     ·rw [Bu hc64] at hj58
      rw [hc64];refine AD (n:=63) AC 20 [(2,.b false)] [some ⟨5,70,[AA.enc x0],false⟩] kr ?_;have hq:=OI hj58; subst hq;exact AE rfl (Ax [] trivial ⟨lv,trivial⟩)
   ·rw [Bu hc59] at hj58
    rw [hc59];refine AD (n:=63) AC 30 [(2,.b false)] [some ⟨5,70,[AA.enc x0],false⟩] kr ?_;have hq:=OI hj58; subst hq;exact AE rfl (Ax [] trivial ⟨lv,trivial⟩)
  refine AS ?_;have hq:=OI h; subst hq;exact ⟨⟨Fr 63 [(2,.b j58)],[]⟩,AH,.inr rfl,[.b j58],kr,kr⟩
 ·try dsimp only at h
  refine C2 (Gj x0 _ hr55) ?_;have hq:=OI h; subst hq;exact ⟨⟨Fr 63 [(2,.b w68)],[]⟩,AH,.inr rfl,[.b w68],kr,kr⟩
def Lj:List AV->Option AV:=EN GK (fun a=>BK a.1) GT
theorem Lt:XOk 120 Lj:=by
 refine Af Tryz.func120 (c:=Bj) ?h2 ⟨Tryz.call120⟩ GK (fun a=>BK a.1) GT (fun a=>(by show 1<=63; decide)) ?h3 ?h4
 case h2=>kernel_rfl
 case h3=>intro b; kernel_rfl
 case h4=>exact fun a b h=>KJ a.1 b h
/- trestle/court.name -/
noncomputable def HN:Code:=Bg Tryz.f121
def DG (x0:(List UInt8)):Nat->Int->Option ((Unit) ⊕ (Bool))
 | 0,_=>none
 | f + 1,c1 =>
  if (decide (c1 < (x0.length:Int)))=true then
  (idx x0 c1).bind fun v3 =>
  (if (decide ((v3.toNat:Int) < 97))=true then some true else (idx x0 c1).bind fun v4 =>
  some (decide ((v4.toNat:Int) > 122))).bind fun j6 =>
  if j6=true then
  some (.inr false)
  else
  DG x0 f (wr .i64 (c1 + 1))
  else
  some (.inl ())
def Ea (x0:(List UInt8)):Option (Bool) :=
 (DG x0 100000 0).bind fun r10 =>
 match r10 with
 | (.inl w11) =>
  (if (decide ((x0.length:Int)≥1))=true then some (decide ((x0.length:Int)<=12)) else some false).bind fun j13 =>
  some j13
 | (.inr w15) =>
  some w15
def HP:Cs ((List UInt8)×Unit):=(csC cdS csN)
def HW (r:Bool):AV:=cdB.enc r
theorem Hr (x0:(List UInt8)):∀ (f:Nat) (c1:Int) (r:(Unit) ⊕ (Bool)),DG x0 f c1=some r->SemN E0 ⟨none,false⟩ (pc HN [1,0,1,0,0]) f ⟨Fr 28 [(0,.st x0),(3,.j c1)],[]⟩ (fun e s=>match r with
 | (.inl w)=>e=(.exit 0)/\Wk E0 s ⟨Fr 28 [(0,.st x0)],[]⟩
 | (.inr w)=>e = .ret/\Wk E0 s ⟨Fr 28 [(2,.b w)],[]⟩):=by
 intro f;induction f with
 | zero=>intro c1 r h; cases h
 | succ f ih0 =>
  intro c1 r h
  have ih:=fun (c1:Int)=>ih0 c1 r
  unfold DG at h;refine CF ?_;refine AF ?_;refine AL AC [(0,.st x0),(3,.j c1),(7,.b (decide (c1 < (x0.length:Int))))] [] ?_;refine AN (b:=(decide (c1 < (x0.length:Int)))) kr (fun hb2=>?_) (fun hb2=>?_)
  ·rw [if_pos hb2] at h
   refine AY ?_;refine AF ?_;refine Aq ?_;refine AF ?_;obtain ⟨v3,hv3,h⟩:=OB h;obtain ⟨j6,hj6,h⟩:=OB h;refine AJ (s1:=⟨Fr 28 [(0,.st x0),(3,.j c1),(19,.b j6)],[]⟩) ?_ ?_
   ·refine AD (n:=28) AC 2 [(0,.st x0),(3,.j c1),(10,.st x0),(11,.j c1)] [] kr ?_
    refine AK AC 0 rfl (Bi (AB rfl) rfl (Md (a:= .st x0) (b:= .j c1) kr kr (Kb (bs:=x0) (ki:= .i64) kr hv3))) ?_;refine AD (n:=28) AC 2 [(0,.st x0),(3,.j c1),(14,.b (decide ((v3.toNat:Int) < 97)))] [] kr ?_;rcases BE (decide ((v3.toNat:Int) < 97)) with hc9 | hc9
    ·rw [if_pos hc9] at hj6
     rw [hc9];refine AD (n:=28) AC 5 [(0,.st x0),(3,.j c1),(15,.tp []),(16,.tp []),(17,.tp []),(18,.tp []),(19,.b true)] [] kr ?_;have hq:=OI hj6; subst hq;exact AE rfl AH
    ·rw [Bu hc9] at hj6
     rw [hc9];refine AD (n:=28) AC 2 [(0,.st x0),(3,.j c1),(14,.b false),(15,.st x0),(16,.j c1)] [] kr ?_;obtain ⟨v4,hv4,hj6⟩:=OB hj6;refine AK AC 0 rfl (Bi kr rfl (Md (a:= .st x0) (b:= .j c1) kr kr (Kb (bs:=x0) (ki:= .i64) kr hv4))) ?_;refine AD (n:=28) AC 2 [(0,.st x0),(3,.j c1),(15,.st x0),(16,.j c1),(17,.v (.int .u8 (v4.toNat:Int))),(18,.b (decide ((v4.toNat:Int) > 122))),(19,.b (decide ((v4.toNat:Int) > 122)))] [] kr ?_;have hq:=OI hj6; subst hq;exact AE rfl AH
   refine AN (b:=j6) kr (fun hb7=>?_) (fun hb7=>?_)
   ·rw [if_pos hb7] at h
    refine AL AC [(2,.b false)] [] ?_;refine AS ?_;have hq:=OI h; subst hq;exact ⟨rfl,AH⟩
   ·rw [Bu hb7] at h
    refine AY ?_;refine DE AC [(0,.st x0),(3,.j (wr .i64 (c1 + 1)))] [] ?_;exact Aw (s1:=⟨Fr 28 [(0,.st x0),(3,.j (wr .i64 (c1 + 1)))],[]⟩) AH (ih (wr .i64 (c1 + 1)) h)
  ·rw [Bu hb2] at h
   refine Co ?_;have hq:=OI h; subst hq;exact ⟨rfl,AH⟩
theorem LX (x0:(List UInt8)) (r:Bool) (h:Ea x0=some r):Sem E0 ⟨none,false⟩ HN ⟨Fr 28 (BG 0 (HP.enc (x0,()))),[]⟩ fun e s'=>(e = .normal\/e = .ret)/\∃ xs,ED E0.P s'.fr s'.hp Tryz.f121.results.toList=some xs/\EJ xs=HW r:=by
 unfold Ea at h;refine BD (Bw (s1:=⟨Fr 28 [(0,.st x0)],[]⟩) AH ?_);refine AL AC [(0,.st x0)] [] ?_;refine AF ?_;refine AL AC [(0,.st x0),(3,.j 0)] [] ?_;refine Aq ?_;obtain ⟨r10,hr10,h⟩:=OB h;refine Cp (n:=100000) ?_;rcases r10 with w11 | w15
 ·try dsimp only at h
  refine BH (Aw (s1:=⟨Fr 28 [(0,.st x0),(3,.j 0)],[]⟩) AH (Hr x0 _ 0 _ hr10)) ?_;refine AF ?_;obtain ⟨j13,hj13,h⟩:=OB h;refine AJ (s1:=⟨Fr 28 [(2,.b j13)],[]⟩) ?_ ?_
  ·refine AD (n:=28) AC 4 [(0,.st x0),(23,.b (decide ((x0.length:Int)≥1)))] [] kr ?_
   rcases BE (decide ((x0.length:Int)≥1)) with hc14 | hc14
   ·rw [if_pos hc14] at hj13
    rw [hc14];refine AD (n:=28) AC 5 [(2,.b (decide ((x0.length:Int)<=12)))] [] kr ?_;have hq:=OI hj13; subst hq;exact AE rfl AH
   ·rw [Bu hc14] at hj13
    rw [hc14];refine AD (n:=28) AC 5 [(2,.b false)] [] kr ?_;have hq:=OI hj13; subst hq;exact AE rfl AH
  refine AS ?_;have hq:=OI h; subst hq;exact ⟨⟨Fr 28 [(2,.b j13)],[]⟩,AH,.inr rfl,[.b j13],kr,kr⟩
 ·try dsimp only at h
  refine BH (Aw (s1:=⟨Fr 28 [(0,.st x0),(3,.j 0)],[]⟩) AH (Hr x0 _ 0 _ hr10)) ?_;have hq:=OI h; subst hq;exact ⟨⟨Fr 28 [(2,.b w15)],[]⟩,AH,.inr rfl,[.b w15],kr,kr⟩
def NS:List AV->Option AV:=EN HP (fun a=>Ea a.1) HW
theorem KH:XOk 121 NS:=by
 refine Af Tryz.func121 (c:=HN) ?h2 ⟨Tryz.call121⟩ HP (fun a=>Ea a.1) HW (fun a=>(by show 1<=28; decide)) ?h3 ?h4
 case h2=>kernel_rfl
 case h3=>intro b; kernel_rfl
 case h4=>exact fun a b h=>LX a.1 b h
/- trestle/court.check$1 -/
noncomputable def Hl:Code:=Bg Tryz.f122
def Dr (x0:(List UInt8)):Option (Bool) :=
 (Ea x0).bind fun v1 =>
 some (!v1)
def FZ:Cs ((List UInt8)×Unit):=(csC cdS csN)
def Ff (r:Bool):AV:=cdB.enc r
theorem Jv (x0:(List UInt8)) (r:Bool) (h:Dr x0=some r):Sem E0 ⟨none,false⟩ Hl ⟨Fr 6 (BG 0 (FZ.enc (x0,()))),[]⟩ fun e s'=>(e = .normal\/e = .ret)/\∃ xs,ED E0.P s'.fr s'.hp Tryz.f122.results.toList=some xs/\EJ xs=Ff r:=by
 unfold Dr at h;refine BD (Bw (s1:=⟨Fr 6 [(0,.st x0)],[]⟩) AH ?_);refine AL AC [(0,.st x0)] [] ?_;refine AF ?_;obtain ⟨v1,hv1,h⟩:=OB h;refine AJ (s1:=⟨Fr 6 [(2,.b (!v1))],[]⟩) ?_ ?_
 ·refine AD (n:=6) AC 1 [(3,.st x0)] [] kr ?_
  refine AO (caps:=[]) (xs:=[.st x0]) (u:=(x0,())) rfl rfl KH rfl (AB rfl) kr kr (AT (Ap (c:=cdS) (v:=x0)) Ay) (.inl kr) hv1 ?_;exact AW AC
 refine AS ?_;have hq:=OI h; subst hq;exact ⟨⟨Fr 6 [(2,.b (!v1))],[]⟩,AH,.inr rfl,[.b (!v1)],kr,kr⟩
def LF:List AV->Option AV:=EN FZ (fun a=>Dr a.1) Ff
theorem LO:XOk 122 LF:=by
 refine Af Tryz.func122 (c:=Hl) ?h2 ⟨Tryz.call122⟩ FZ (fun a=>Dr a.1) Ff (fun a=>(by show 1<=6; decide)) ?h3 ?h4
 case h2=>kernel_rfl
 case h3=>intro b; kernel_rfl
 case h4=>exact fun a b h=>Jv a.1 b h
/- slices.IndexFunc[[]string,string] -/
noncomputable def BI:Code:=Bg Tryz.f100
def Am (x0:(List (List UInt8))):Nat->Int->Option ((Unit) ⊕ (Int))
 | 0,_=>none
 | f + 1,c1 =>
  if (decide (c1 < (x0.length:Int)))=true then
  (idx x0 c1).bind fun v3 =>
  (Dr v3).bind fun v4 =>
  if v4=true then
  some (.inr c1)
  else
  Am x0 f (wr .i64 (c1 + 1))
  else
  some (.inl ())
def Ak (x0:(List (List UInt8))):Option (Int) :=
 (Am x0 100000 0).bind fun r7 =>
 match r7 with
 | (.inl w8) =>
  some (-1)
 | (.inr w9) =>
  some w9
def BL:Cs ((List (List UInt8))×Unit×Unit):=(csC (cdL 1 cdS) (csC (cdF 122 csN (fun _=>rfl)) csN))
def BN (r:Int):AV:=cdI.enc r
theorem Bq (x0:(List (List UInt8))):∀ (f:Nat) (c1:Int) (r:(Unit) ⊕ (Int)),Am x0 f c1=some r->SemN E0 ⟨none,false⟩ (pc BI [1,0,1,0,0]) f ⟨Fr 19 [(0,.sl 1 (x0.map cdS.enc)),(1,.fn 122 [] []),(7,.j (x0.length:Int)),(8,.j c1)],[]⟩ (fun e s=>match r with
 | (.inl w)=>e=(.exit 0)/\Wk E0 s ⟨Fr 19 [],[]⟩
 | (.inr w)=>e = .ret/\Wk E0 s ⟨Fr 19 [(4,.j w)],[]⟩):=by
 intro f;induction f with
 | zero=>intro c1 r h; cases h
 | succ f ih0 =>
  intro c1 r h
  have ih:=fun (c1:Int)=>ih0 c1 r
  unfold Am at h;refine CF ?_
  let p1:Nat×AV:=(8,.j c1)
  let p2:Nat×AV:=(7,.j (x0.length:Int))
  let p3:Nat×AV:=(1,.fn 122 [] [])
  let p4:Nat×AV:=(0,.sl 1 (x0.map cdS.enc))
  refine AL AC [p4,p3,p2,p1,(9,.b (decide (c1 < (x0.length:Int))))] [] ?_;refine AF ?_;refine AN (b:=(decide (c1 < (x0.length:Int)))) kr (fun hb2=>?_) (fun hb2=>?_)
  ·rw [if_pos hb2] at h
   refine AY ?_;refine AF ?_;refine Aq ?_
   let p5:Nat×AV:=(5,.j c1)
   refine AL AC [p4,p3,p5,p2,p1] [] ?_;refine AF ?_;obtain ⟨v3,hv3,h⟩:=OB h;obtain ⟨v4,hv4,h⟩:=OB h;refine AJ (s1:=⟨Fr 19 [p4,p3,p5,p2,p1,(16,.b v4)],[]⟩) ?_ ?_
   ·refine AD (n:=19) AC 3 [p4,p3,p5,p2,p1,(11,.fn 122 [] []),(12,.sl 1 (x0.map cdS.enc)),(13,.j c1)] [] kr ?_
    refine AK AC 0 rfl (Bi (AB rfl) rfl (AZ (a:= .sl 1 (x0.map cdS.enc)) (b:= .j c1) kr kr (Dc (e:=cdS.enc) (el:=9) (k:=1) (ki:= .i64) kr kr hv3))) ?_;refine AD (n:=19) AC 1 [p4,p3,p5,p2,p1,(11,.fn 122 [] []),(15,.st v3)] [] kr ?_;refine AO (caps:=[]) (xs:=[.st v3]) (u:=(v3,())) rfl rfl LO rfl (AB rfl) kr kr (AT (Ap (c:=cdS) (v:=v3)) Ay) (.inl kr) hv4 ?_;exact AE rfl AH
   refine AN (b:=v4) kr (fun hb5=>?_) (fun hb5=>?_)
   ·rw [if_pos hb5] at h
    refine AL AC [(4,.j c1)] [] ?_;refine AS ?_;have hq:=OI h; subst hq;exact ⟨rfl,AH⟩
   ·rw [Bu hb5] at h
    refine AY ?_
    let p6:Nat×AV:=(8,.j (wr .i64 (c1 + 1)))
    refine DE AC [p4,p3,p2,p6] [] ?_;exact Aw (s1:=⟨Fr 19 [p4,p3,p2,p6],[]⟩) AH (ih (wr .i64 (c1 + 1)) h)
  ·rw [Bu hb2] at h
   refine Co ?_;have hq:=OI h; subst hq;exact ⟨rfl,AH⟩
theorem DB (x0:(List (List UInt8))) (r:Int) (h:Ak x0=some r):Sem E0 ⟨none,false⟩ BI ⟨Fr 19 (BG 0 (BL.enc (x0,(),()))),[]⟩ fun e s'=>(e = .normal\/e = .ret)/\∃ xs,ED E0.P s'.fr s'.hp Tryz.f100.results.toList=some xs/\EJ xs=BN r:=by
 unfold Ak at h
 let p1:Nat×AV:=(1,.fn 122 [] [])
 let p2:Nat×AV:=(0,.sl 1 (x0.map cdS.enc))
 refine BD (Bw (s1:=⟨Fr 19 [p2,p1],[]⟩) AH ?_);refine AL AC [p2,p1] [] ?_;refine AF ?_;refine AF ?_
 let p3:Nat×AV:=(8,.j 0)
 let p4:Nat×AV:=(7,.j (x0.length:Int))
 refine AJ (s1:=⟨Fr 19 [p2,p1,p4,p3],[]⟩) ?_ ?_
 ·refine AD (n:=19) AC 1 [p2,p1,(6,.sl 1 (x0.map cdS.enc))] [] kr ?_
  refine AK AC 0 rfl (Bi (AB rfl) rfl (EG (a:= .sl 1 (x0.map cdS.enc)) kr (Cn (el:=9) kr))) ?_;exact AW AC
 refine Aq ?_;obtain ⟨r7,hr7,h⟩:=OB h;refine Cp (n:=100000) ?_;rcases r7 with w8 | w9
 ·try dsimp only at h
  refine BH (Aw (s1:=⟨Fr 19 [p2,p1,p4,p3],[]⟩) AH (Bq x0 _ 0 _ hr7)) ?_;refine AL AC [(4,.j (-1))] [] ?_;refine AS ?_;have hq:=OI h; subst hq;exact ⟨⟨Fr 19 [(4,.j (-1))],[]⟩,AH,.inr rfl,[.j (-1)],kr,kr⟩
 ·try dsimp only at h
  refine BH (Aw (s1:=⟨Fr 19 [p2,p1,p4,p3],[]⟩) AH (Bq x0 _ 0 _ hr7)) ?_;have hq:=OI h; subst hq;exact ⟨⟨Fr 19 [(4,.j w9)],[]⟩,AH,.inr rfl,[.j w9],kr,kr⟩
def DP:List AV->Option AV:=EN BL (fun a=>Ak a.1) BN
theorem DR:XOk 100 DP:=by
 refine Af Tryz.func100 (c:=BI) ?h2 ⟨Tryz.call100⟩ BL (fun a=>Ak a.1) BN (fun a=>(by show 2<=19; decide)) ?h3 ?h4
 case h2=>kernel_rfl
 case h3=>intro b; kernel_rfl
 case h4=>exact fun a b h=>DB a.1 b h
/- slices.ContainsFunc[[]string,string] -/
noncomputable def Bm:Code:=Bg Tryz.f49
def AR (x0:(List (List UInt8))):Option (Bool) :=
 (Ak x0).bind fun v1 =>
 some (decide (v1≥0))
def A9:Cs ((List (List UInt8))×Unit×Unit):=(csC (cdL 1 cdS) (csC (cdF 122 csN (fun _=>rfl)) csN))
def BB (r:Bool):AV:=cdB.enc r
theorem C0 (x0:(List (List UInt8))) (r:Bool) (h:AR x0=some r):Sem E0 ⟨none,false⟩ Bm ⟨Fr 9 (BG 0 (A9.enc (x0,(),()))),[]⟩ fun e s'=>(e = .normal\/e = .ret)/\∃ xs,ED E0.P s'.fr s'.hp Tryz.f49.results.toList=some xs/\EJ xs=BB r:=by
 unfold AR at h;refine BD (Bw (s1:=⟨Fr 9 [(0,.sl 1 (x0.map cdS.enc)),(1,.fn 122 [] [])],[]⟩) AH ?_);refine AL AC [(0,.sl 1 (x0.map cdS.enc)),(1,.fn 122 [] [])] [] ?_;refine AF ?_;obtain ⟨v1,hv1,h⟩:=OB h
 let p1:Nat×AV:=(4,.b (decide (v1≥0)))
 refine AJ (s1:=⟨Fr 9 [p1],[]⟩) ?_ ?_
 ·refine AD (n:=9) AC 2 [(5,.sl 1 (x0.map cdS.enc)),(6,.fn 122 [] [])] [] kr ?_
  refine AO (caps:=[]) (xs:=[.sl 1 (x0.map cdS.enc),.fn 122 [] []]) (u:=(x0,(),())) rfl rfl DR rfl (AB rfl) kr kr (AT (Ap (c:=(cdL 1 cdS)) (v:=x0)) (AT (Sm.fn Ay) Ay)) (.inl kr) hv1 ?_;exact AW AC
 refine AS ?_;have hq:=OI h; subst hq;exact ⟨⟨Fr 9 [p1],[]⟩,AH,.inr rfl,[.b (decide (v1≥0))],kr,kr⟩
def C5:List AV->Option AV:=EN A9 (fun a=>AR a.1) BB
theorem Bt:XOk 49 C5:=by
 refine Af Tryz.func49 (c:=Bm) ?h2 ⟨Tryz.call49⟩ A9 (fun a=>AR a.1) BB (fun a=>(by show 2<=9; decide)) ?h3 ?h4
 case h2=>kernel_rfl
 case h3=>intro b; kernel_rfl
 case h4=>exact fun a b h=>C0 a.1 b h
/- slices.Index[[]string,string] -/
noncomputable def Ce:Code:=Bg Tryz.f144
def Bd (x0:(List (List UInt8))) (x1:(List UInt8)):Nat->Int->Option ((Unit) ⊕ (Int))
 | 0,_=>none
 | f + 1,c1 =>
  if (decide (c1 < (x0.length:Int)))=true then
  (idx x0 c1).bind fun v3 =>
  if (x1==v3)=true then
  some (.inr c1)
  else
  Bd x0 x1 f (wr .i64 (c1 + 1))
  else
  some (.inl ())
def BZ (x0:(List (List UInt8))) (x1:(List UInt8)):Option (Int) :=
 (Bd x0 x1 100000 0).bind fun r6 =>
 match r6 with
 | (.inl w7) =>
  some (-1)
 | (.inr w8) =>
  some w8
def Ch:Cs ((List (List UInt8))×(List UInt8)×Unit):=(csC (cdL 1 cdS) (csC cdS csN))
def Cj (r:Int):AV:=cdI.enc r
theorem DX (x0:(List (List UInt8))) (x1:(List UInt8)):∀ (f:Nat) (c1:Int) (r:(Unit) ⊕ (Int)),Bd x0 x1 f c1=some r->SemN E0 ⟨none,false⟩ (pc Ce [1,0,1,0,0]) f ⟨Fr 19 [(0,.sl 1 (x0.map cdS.enc)),(1,.st x1),(7,.j (x0.length:Int)),(8,.j c1)],[]⟩ (fun e s=>match r with
 | (.inl w)=>e=(.exit 0)/\Wk E0 s ⟨Fr 19 [],[]⟩
 | (.inr w)=>e = .ret/\Wk E0 s ⟨Fr 19 [(4,.j w)],[]⟩):=by
 intro f;induction f with
 | zero=>intro c1 r h; cases h
 | succ f ih0 =>
  intro c1 r h
  have ih:=fun (c1:Int)=>ih0 c1 r
  unfold Bd at h;refine CF ?_
  let p1:Nat×AV:=(8,.j c1)
  let p2:Nat×AV:=(7,.j (x0.length:Int))
  let p3:Nat×AV:=(0,.sl 1 (x0.map cdS.enc))
  refine AL AC [p3,(1,.st x1),p2,p1,(9,.b (decide (c1 < (x0.length:Int))))] [] ?_;refine AF ?_;refine AN (b:=(decide (c1 < (x0.length:Int)))) kr (fun hb2=>?_) (fun hb2=>?_)
  ·rw [if_pos hb2] at h
   refine AY ?_;refine AF ?_;refine Aq ?_
   let p4:Nat×AV:=(5,.j c1)
   refine AL AC [p3,(1,.st x1),p4,p2,p1] [] ?_;refine AF ?_;obtain ⟨v3,hv3,h⟩:=OB h;refine AJ (s1:=⟨Fr 19 [p3,(1,.st x1),p4,p2,p1,(16,.b (x1==v3))],[]⟩) ?_ ?_
   ·refine AD (n:=19) AC 3 [p3,(1,.st x1),p4,p2,p1,(11,.st x1),(12,.sl 1 (x0.map cdS.enc)),(13,.j c1)] [] kr ?_
    refine AK AC 0 rfl (Bi (AB rfl) rfl (AZ (a:= .sl 1 (x0.map cdS.enc)) (b:= .j c1) kr kr (Dc (e:=cdS.enc) (el:=9) (k:=1) (ki:= .i64) kr kr hv3))) ?_;exact AW AC
   refine AN (b:=(x1==v3)) kr (fun hb4=>?_) (fun hb4=>?_)
   ·rw [if_pos hb4] at h
    refine AL AC [(4,.j c1)] [] ?_;refine AS ?_;have hq:=OI h; subst hq;exact ⟨rfl,AH⟩
   ·rw [Bu hb4] at h
    refine AY ?_
    let p5:Nat×AV:=(8,.j (wr .i64 (c1 + 1)))
    refine DE AC [p3,(1,.st x1),p2,p5] [] ?_;exact Aw (s1:=⟨Fr 19 [p3,(1,.st x1),p2,p5],[]⟩) AH (ih (wr .i64 (c1 + 1)) h)
  ·rw [Bu hb2] at h
   refine Co ?_;have hq:=OI h; subst hq;exact ⟨rfl,AH⟩
theorem FV (x0:(List (List UInt8))) (x1:(List UInt8)) (r:Int) (h:BZ x0 x1=some r):Sem E0 ⟨none,false⟩ Ce ⟨Fr 19 (BG 0 (Ch.enc (x0,x1,()))),[]⟩ fun e s'=>(e = .normal\/e = .ret)/\∃ xs,ED E0.P s'.fr s'.hp Tryz.f144.results.toList=some xs/\EJ xs=Cj r:=by
 unfold BZ at h
 let p1:Nat×AV:=(0,.sl 1 (x0.map cdS.enc))
 refine BD (Bw (s1:=⟨Fr 19 [p1,(1,.st x1)],[]⟩) AH ?_);refine AL AC [p1,(1,.st x1)] [] ?_;refine AF ?_;refine AF ?_
 let p2:Nat×AV:=(8,.j 0)
 let p3:Nat×AV:=(7,.j (x0.length:Int))
 refine AJ (s1:=⟨Fr 19 [p1,(1,.st x1),p3,p2],[]⟩) ?_ ?_
 ·refine AD (n:=19) AC 1 [p1,(1,.st x1),(6,.sl 1 (x0.map cdS.enc))] [] kr ?_
  refine AK AC 0 rfl (Bi (AB rfl) rfl (EG (a:= .sl 1 (x0.map cdS.enc)) kr (Cn (el:=9) kr))) ?_;exact AW AC
 refine Aq ?_;obtain ⟨r6,hr6,h⟩:=OB h;refine Cp (n:=100000) ?_;rcases r6 with w7 | w8
 ·try dsimp only at h
  refine BH (Aw (s1:=⟨Fr 19 [p1,(1,.st x1),p3,p2],[]⟩) AH (DX x0 x1 _ 0 _ hr6)) ?_;refine AL AC [(4,.j (-1))] [] ?_;refine AS ?_;have hq:=OI h; subst hq;exact ⟨⟨Fr 19 [(4,.j (-1))],[]⟩,AH,.inr rfl,[.j (-1)],kr,kr⟩
 ·try dsimp only at h
  refine BH (Aw (s1:=⟨Fr 19 [p1,(1,.st x1),p3,p2],[]⟩) AH (DX x0 x1 _ 0 _ hr6)) ?_;have hq:=OI h; subst hq;exact ⟨⟨Fr 19 [(4,.j w8)],[]⟩,AH,.inr rfl,[.j w8],kr,kr⟩
def F7:List AV->Option AV:=EN Ch (fun a=>BZ a.1 a.2.1) Cj
theorem F9:XOk 144 F7:=by
 refine Af Tryz.func144 (c:=Ce) ?h2 ⟨Tryz.call144⟩ Ch (fun a=>BZ a.1 a.2.1) Cj (fun a=>(by show 2<=19; decide)) ?h3 ?h4
 case h2=>kernel_rfl
 case h3=>intro b; kernel_rfl
 case h4=>exact fun a b h=>FV a.1 a.2.1 b h
/- slices.Contains[[]string,string] -/
noncomputable def DT:Code:=Bg Tryz.f123
def At (x0:(List (List UInt8))) (x1:(List UInt8)):Option (Bool) :=
 (BZ x0 x1).bind fun v1 =>
 some (decide (v1≥0))
def CK:Cs ((List (List UInt8))×(List UInt8)×Unit):=(csC (cdL 1 cdS) (csC cdS csN))
def CL (r:Bool):AV:=cdB.enc r
theorem Ew (x0:(List (List UInt8))) (x1:(List UInt8)) (r:Bool) (h:At x0 x1=some r):Sem E0 ⟨none,false⟩ DT ⟨Fr 9 (BG 0 (CK.enc (x0,x1,()))),[]⟩ fun e s'=>(e = .normal\/e = .ret)/\∃ xs,ED E0.P s'.fr s'.hp Tryz.f123.results.toList=some xs/\EJ xs=CL r:=by
 unfold At at h;refine BD (Bw (s1:=⟨Fr 9 [(0,.sl 1 (x0.map cdS.enc)),(1,.st x1)],[]⟩) AH ?_);refine AL AC [(0,.sl 1 (x0.map cdS.enc)),(1,.st x1)] [] ?_;refine AF ?_;obtain ⟨v1,hv1,h⟩:=OB h
 let p1:Nat×AV:=(4,.b (decide (v1≥0)))
 refine AJ (s1:=⟨Fr 9 [p1],[]⟩) ?_ ?_
 ·refine AD (n:=9) AC 2 [(5,.sl 1 (x0.map cdS.enc)),(6,.st x1)] [] kr ?_
  refine AO (caps:=[]) (xs:=[.sl 1 (x0.map cdS.enc),.st x1]) (u:=(x0,x1,())) rfl rfl F9 rfl (AB rfl) kr kr (AT (Ap (c:=(cdL 1 cdS)) (v:=x0)) (AT (Ap (c:=cdS) (v:=x1)) Ay)) (.inl kr) hv1 ?_;exact AW AC
 refine AS ?_;have hq:=OI h; subst hq;exact ⟨⟨Fr 9 [p1],[]⟩,AH,.inr rfl,[.b (decide (v1≥0))],kr,kr⟩
def FM:List AV->Option AV:=EN CK (fun a=>At a.1 a.2.1) CL
theorem Di:XOk 123 FM:=by
 refine Af Tryz.func123 (c:=DT) ?h2 ⟨Tryz.call123⟩ CK (fun a=>At a.1 a.2.1) CL (fun a=>(by show 2<=9; decide)) ?h3 ?h4
 case h2=>kernel_rfl
 case h3=>intro b; kernel_rfl
 case h4=>exact fun a b h=>Ew a.1 a.2.1 b h
/- trestle/court.check$2 -/
noncomputable def Hm:Code:=Bg Tryz.f124
def Dt (x0:AG) (x1:AG):Option (Bool) :=
 (if (x0.1==1)=true then (At x0.2.2.2.1 x1.2.1).bind fun v1 =>
 some v1 else some false).bind fun j3 =>
 some j3
def Fa:Cs (AG×AG×Unit):=(csC AA (csC (cdP AA) csN))
def Fg (r:Bool):AV:=cdB.enc r
theorem Jw (x0:AG) (x1:AG) (r:Bool) (h:Dt x0 x1=some r):Sem E0 ⟨none,false⟩ Hm ⟨Fr 14 (BG 0 (Fa.enc (x0,x1,()))),[]⟩ fun e s'=>(e = .normal\/e = .ret)/\∃ xs,ED E0.P s'.fr s'.hp Tryz.f124.results.toList=some xs/\EJ xs=Fg r:=by
 unfold Dt at h;refine BD (Bw (s1:=⟨Fr 14 [(0,AA.enc x0),(1,.pe (AA.enc x1) 0)],[]⟩) AH ?_);refine AL AC [(1,.pe (AA.enc x1) 0),(2,.pt 0 0 0)] [some ⟨5,70,[AA.enc x0],false⟩] ?_;refine AF ?_;obtain ⟨j3,hj3,h⟩:=OB h;refine AJ (s1:=⟨Fr 14 [(3,.b j3)],[]⟩) ?_ ?_
 ·refine AD (n:=14) AC 4 [(1,.pe (AA.enc x1) 0),(2,.pt 0 0 0),(7,.b (x0.1==1))] [some ⟨5,70,[AA.enc x0],false⟩] kr ?_
  rcases BE (x0.1==1) with hc4 | hc4
  ·rw [if_pos hc4] at hj3
   rw [hc4];refine AD (n:=14) AC 4 [(7,.b true),(9,.sl 1 (x0.2.2.2.1.map cdS.enc)),(11,.st x1.2.1)] [some ⟨5,70,[AA.enc x0],false⟩] kr ?_;obtain ⟨v1,hv1,hj3⟩:=OB hj3;refine AO (caps:=[]) (xs:=[.sl 1 (x0.2.2.2.1.map cdS.enc),.st x1.2.1]) (u:=(x0.2.2.2.1,x1.2.1,())) rfl rfl Di rfl kr kr kr (AT (Ap (c:=(cdL 1 cdS)) (v:=x0.2.2.2.1)) (AT (Ap (c:=cdS) (v:=x1.2.1)) Ay)) (.inl kr) hv1 ?_;refine AD (n:=14) AC 2 [(3,.b v1)] [some ⟨5,70,[AA.enc x0],false⟩] kr ?_;have hq:=OI hj3; subst hq;exact AE rfl (Ax [] trivial ⟨lv,trivial⟩)
  ·rw [Bu hc4] at hj3
   rw [hc4];refine AD (n:=14) AC 7 [(3,.b false)] [some ⟨5,70,[AA.enc x0],false⟩] kr ?_;have hq:=OI hj3; subst hq;exact AE rfl (Ax [] trivial ⟨lv,trivial⟩)
 refine AS ?_;have hq:=OI h; subst hq;exact ⟨⟨Fr 14 [(3,.b j3)],[]⟩,AH,.inr rfl,[.b j3],kr,kr⟩
def LG:List AV->Option AV:=EN Fa (fun a=>Dt a.1 a.2.1) Fg
theorem LP:XOk 124 LG:=by
 refine Af Tryz.func124 (c:=Hm) ?h2 ⟨Tryz.call124⟩ Fa (fun a=>Dt a.1 a.2.1) Fg (fun a=>(by show 2<=14; decide)) ?h3 ?h4
 case h2=>kernel_rfl
 case h3=>intro b; kernel_rfl
 case h4=>exact fun a b h=>Jw a.1 a.2.1 b h
/- slices.IndexFunc[[]trestle/api.Clause,trestle/api.Clause] -/
noncomputable def A1:Code:=Bg Tryz.f96
def Ab (x0:(List AG)) (x1:AG):Nat->Int->Option ((Unit) ⊕ (Int))
 | 0,_=>none
 | f + 1,c1 =>
  if (decide (c1 < (x0.length:Int)))=true then
  (idx x0 c1).bind fun v3 =>
  (Dt v3 x1).bind fun v4 =>
  if v4=true then
  some (.inr c1)
  else
  Ab x0 x1 f (wr .i64 (c1 + 1))
  else
  some (.inl ())
def AX (x0:(List AG)) (x1:AG):Option (Int) :=
 (Ab x0 x1 100000 0).bind fun r7 =>
 match r7 with
 | (.inl w8) =>
  some (-1)
 | (.inr w9) =>
  some w9
def A2:Cs ((List AG)×AG×Unit):=(csC (cdL 5 AA) (csC (cdF 124 (csE (cdP AA)) (fun _=>rfl)) csN))
def A3 (r:Int):AV:=cdI.enc r
theorem BV (x0:(List AG)) (x1:AG):∀ (f:Nat) (c1:Int) (r:(Unit) ⊕ (Int)),Ab x0 x1 f c1=some r->SemN E0 ⟨none,false⟩ (pc A1 [1,0,1,0,0]) f ⟨Fr 19 [(0,.sl 5 (x0.map AA.enc)),(1,.fn 124 [] [.pe (AA.enc x1) 0]),(7,.j (x0.length:Int)),(8,.j c1)],[]⟩ (fun e s=>match r with
 | (.inl w)=>e=(.exit 0)/\Wk E0 s ⟨Fr 19 [],[]⟩
 | (.inr w)=>e = .ret/\Wk E0 s ⟨Fr 19 [(4,.j w)],[]⟩):=by
 intro f;induction f with
 | zero=>intro c1 r h; cases h
 | succ f ih0 =>
  intro c1 r h
  have ih:=fun (c1:Int)=>ih0 c1 r
  unfold Ab at h;refine CF ?_
  let p1:Nat×AV:=(8,.j c1)
  let p2:Nat×AV:=(7,.j (x0.length:Int))
  let p3:Nat×AV:=(1,.fn 124 [] [.pe (AA.enc x1) 0])
  let p4:Nat×AV:=(0,.sl 5 (x0.map AA.enc))
  refine AL AC [p4,p3,p2,p1,(9,.b (decide (c1 < (x0.length:Int))))] [] ?_;refine AF ?_;refine AN (b:=(decide (c1 < (x0.length:Int)))) kr (fun hb2=>?_) (fun hb2=>?_)
  ·rw [if_pos hb2] at h
   refine AY ?_;refine AF ?_;refine Aq ?_
   let p5:Nat×AV:=(5,.j c1)
   refine AL AC [p4,p3,p5,p2,p1] [] ?_;refine AF ?_;obtain ⟨v3,hv3,h⟩:=OB h;obtain ⟨v4,hv4,h⟩:=OB h;refine AJ (s1:=⟨Fr 19 [p4,p3,p5,p2,p1,(16,.b v4)],[]⟩) ?_ ?_
   ·let p6:Nat×AV:=(11,.fn 124 [] [.pe (AA.enc x1) 0])
    refine AD (n:=19) AC 3 [p4,p3,p5,p2,p1,p6,(12,.sl 5 (x0.map AA.enc)),(13,.j c1)] [] kr ?_;refine AK AC 0 rfl (Bi (AB rfl) rfl (AZ (a:= .sl 5 (x0.map AA.enc)) (b:= .j c1) kr kr (Dc (e:=AA.enc) (el:=70) (k:=5) (ki:= .i64) kr kr hv3))) ?_;refine AD (n:=19) AC 1 [p4,p3,p5,p2,p1,p6,(15,AA.enc v3)] [] kr ?_;refine AO (caps:=[.pe (AA.enc x1) 0]) (xs:=[AA.enc v3]) (u:=(v3,x1,())) rfl rfl LP rfl (AB rfl) kr kr (AT (Ap (c:=AA) (v:=v3)) (AT (Ap (c:=(cdP AA)) (v:=x1)) Ay)) (.inl kr) hv4 ?_;exact AE rfl AH
   refine AN (b:=v4) kr (fun hb5=>?_) (fun hb5=>?_)
   ·rw [if_pos hb5] at h
    refine AL AC [(4,.j c1)] [] ?_;refine AS ?_;have hq:=OI h; subst hq;exact ⟨rfl,AH⟩
   ·rw [Bu hb5] at h
    refine AY ?_
    let p7:Nat×AV:=(8,.j (wr .i64 (c1 + 1)))
    refine DE AC [p4,p3,p2,p7] [] ?_;exact Aw (s1:=⟨Fr 19 [p4,p3,p2,p7],[]⟩) AH (ih (wr .i64 (c1 + 1)) h)
  ·rw [Bu hb2] at h
   refine Co ?_;have hq:=OI h; subst hq;exact ⟨rfl,AH⟩
theorem CY (x0:(List AG)) (x1:AG) (r:Int) (h:AX x0 x1=some r):Sem E0 ⟨none,false⟩ A1 ⟨Fr 19 (BG 0 (A2.enc (x0,x1,()))),[]⟩ fun e s'=>(e = .normal\/e = .ret)/\∃ xs,ED E0.P s'.fr s'.hp Tryz.f96.results.toList=some xs/\EJ xs=A3 r:=by
 unfold AX at h
 let p1:Nat×AV:=(1,.fn 124 [] [.pe (AA.enc x1) 0])
 let p2:Nat×AV:=(0,.sl 5 (x0.map AA.enc))
 refine BD (Bw (s1:=⟨Fr 19 [p2,p1],[]⟩) AH ?_);refine AL AC [p2,p1] [] ?_;refine AF ?_;refine AF ?_
 let p3:Nat×AV:=(8,.j 0)
 let p4:Nat×AV:=(7,.j (x0.length:Int))
 refine AJ (s1:=⟨Fr 19 [p2,p1,p4,p3],[]⟩) ?_ ?_
 ·refine AD (n:=19) AC 1 [p2,p1,(6,.sl 5 (x0.map AA.enc))] [] kr ?_
  refine AK AC 0 rfl (Bi (AB rfl) rfl (EG (a:= .sl 5 (x0.map AA.enc)) kr (Cn (el:=70) kr))) ?_;exact AW AC
 refine Aq ?_;obtain ⟨r7,hr7,h⟩:=OB h;refine Cp (n:=100000) ?_;rcases r7 with w8 | w9
 ·try dsimp only at h
  refine BH (Aw (s1:=⟨Fr 19 [p2,p1,p4,p3],[]⟩) AH (BV x0 x1 _ 0 _ hr7)) ?_;refine AL AC [(4,.j (-1))] [] ?_;refine AS ?_;have hq:=OI h; subst hq;exact ⟨⟨Fr 19 [(4,.j (-1))],[]⟩,AH,.inr rfl,[.j (-1)],kr,kr⟩
 ·try dsimp only at h
  refine BH (Aw (s1:=⟨Fr 19 [p2,p1,p4,p3],[]⟩) AH (BV x0 x1 _ 0 _ hr7)) ?_;have hq:=OI h; subst hq;exact ⟨⟨Fr 19 [(4,.j w9)],[]⟩,AH,.inr rfl,[.j w9],kr,kr⟩
def Cl:List AV->Option AV:=EN A2 (fun a=>AX a.1 a.2.1) A3
theorem Cm:XOk 96 Cl:=by
 refine Af Tryz.func96 (c:=A1) ?h2 ⟨Tryz.call96⟩ A2 (fun a=>AX a.1 a.2.1) A3 (fun a=>(by show 2<=19; decide)) ?h3 ?h4
 case h2=>kernel_rfl
 case h3=>intro b; kernel_rfl
 case h4=>exact fun a b h=>CY a.1 a.2.1 b h
/- slices.ContainsFunc[[]trestle/api.Clause,trestle/api.Clause] -/
noncomputable def BT:Code:=Bg Tryz.f47
def AP (x0:(List AG)) (x1:AG):Option (Bool) :=
 (AX x0 x1).bind fun v1 =>
 some (decide (v1≥0))
def Au:Cs ((List AG)×AG×Unit):=(csC (cdL 5 AA) (csC (cdF 124 (csE (cdP AA)) (fun _=>rfl)) csN))
def Av (r:Bool):AV:=cdB.enc r
theorem CN (x0:(List AG)) (x1:AG) (r:Bool) (h:AP x0 x1=some r):Sem E0 ⟨none,false⟩ BT ⟨Fr 9 (BG 0 (Au.enc (x0,x1,()))),[]⟩ fun e s'=>(e = .normal\/e = .ret)/\∃ xs,ED E0.P s'.fr s'.hp Tryz.f47.results.toList=some xs/\EJ xs=Av r:=by
 unfold AP at h
 let p1:Nat×AV:=(1,.fn 124 [] [.pe (AA.enc x1) 0])
 let p2:Nat×AV:=(0,.sl 5 (x0.map AA.enc))
 refine BD (Bw (s1:=⟨Fr 9 [p2,p1],[]⟩) AH ?_);refine AL AC [p2,p1] [] ?_;refine AF ?_;obtain ⟨v1,hv1,h⟩:=OB h
 let p3:Nat×AV:=(4,.b (decide (v1≥0)))
 refine AJ (s1:=⟨Fr 9 [p3],[]⟩) ?_ ?_
 ·refine AD (n:=9) AC 2 [(5,.sl 5 (x0.map AA.enc)),(6,.fn 124 [] [.pe (AA.enc x1) 0])] [] kr ?_
  refine AO (caps:=[]) (xs:=[.sl 5 (x0.map AA.enc),.fn 124 [] [.pe (AA.enc x1) 0]]) (u:=(x0,x1,())) rfl rfl Cm rfl (AB rfl) kr kr (AT (Ap (c:=(cdL 5 AA)) (v:=x0)) (AT (Sm.fn (PZ (Ap (c:=(cdP AA)) (v:=x1)))) Ay)) (.inl kr) hv1 ?_;exact AW AC
 refine AS ?_;have hq:=OI h; subst hq;exact ⟨⟨Fr 9 [p3],[]⟩,AH,.inr rfl,[.b (decide (v1≥0))],kr,kr⟩
def CQ:List AV->Option AV:=EN Au (fun a=>AP a.1 a.2.1) Av
theorem CR:XOk 47 CQ:=by
 refine Af Tryz.func47 (c:=BT) ?h2 ⟨Tryz.call47⟩ Au (fun a=>AP a.1 a.2.1) Av (fun a=>(by show 2<=9; decide)) ?h3 ?h4
 case h2=>kernel_rfl
 case h3=>intro b; kernel_rfl
 case h4=>exact fun a b h=>CN a.1 a.2.1 b h
/- trestle/court.check -/
noncomputable def Gt:Code:=Bg Tryz.f79
def Cw (x0:(List AG)) (x1:AG):Nat->Int->Option ((Unit) ⊕ (Int))
 | 0,_=>none
 | f + 1,c9 =>
  if (decide (c9 < (x1.2.2.2.1.length:Int)))=true then
  (idx x1.2.2.2.1 c9).bind fun v11 =>
  if (GQ 0 c9 x1.2.2.2.1.length)=true then
  (At ((x1.2.2.2.1.take c9.toNat).drop (0:Int).toNat) v11).bind fun v13 =>
  if v13=true then
  some (.inr 5)
  else
  Cw x0 x1 f (wr .i64 (c9 + 1))
  else none
  else
  some (.inl ())
def EU (x0:(List AG)) (x1:AG):Option (Int) :=
 (BK x1).bind fun v1 =>
 if (!v1)=true then
 some 30
 else
 (if (!(x1.2.1==[]))=true then (Ea x1.2.1).bind fun v3 =>
 if (!v3)=true then some true else (AR x1.2.2.2.1).bind fun v4 =>
 some v4 else (AR x1.2.2.2.1).bind fun v5 =>
 some v5).bind fun j7 =>
 if j7=true then
 some 4
 else
 (Cw x0 x1 100000 0).bind fun r16 =>
 match r16 with
 | (.inl w17) =>
  (if (x1.2.1==[])=true then some true else (AP x0 x1).bind fun v18 =>
  some v18).bind fun j20 =>
  if j20=true then
  some 0
  else
  some 31
 | (.inr w23) =>
  some w23
def Gw:Cs ((List AG)×AG×Unit):=(csC (cdL 5 AA) (csC AA csN))
def G3 (r:Int):AV:=cdI.enc r
theorem HC (x0:(List AG)) (x1:AG):∀ (f:Nat) (c9:Int) (r:(Unit) ⊕ (Int)),Cw x0 x1 f c9=some r->SemN E0 ⟨none,false⟩ (pc Gt [1,1,1,0,1,0,0]) f ⟨Fr 47 [(0,.sl 5 (x0.map AA.enc)),(3,.pt 0 0 0),(25,.sl 1 (x1.2.2.2.1.map cdS.enc)),(26,.j (x1.2.2.2.1.length:Int)),(27,.j c9)],[some ⟨5,70,[AA.enc x1],false⟩]⟩ (fun e s=>match r with
 | (.inl w)=>e=(.exit 0)/\Wk E0 s ⟨Fr 47 [(0,.sl 5 (x0.map AA.enc)),(3,.pt 0 0 0)],[some ⟨5,70,[AA.enc x1],false⟩]⟩
 | (.inr w)=>e = .ret/\Wk E0 s ⟨Fr 47 [(4,.j w)],[]⟩):=by
 intro f;induction f with
 | zero=>intro c9 r h; cases h
 | succ f ih0 =>
  intro c9 r h
  have ih:=fun (c9:Int)=>ih0 c9 r
  unfold Cw at h;refine CF ?_
  let p1:Option Blk:=some ⟨5,70,[AA.enc x1],false⟩
  let p2:Nat×AV:=(27,.j c9)
  let p3:Nat×AV:=(26,.j (x1.2.2.2.1.length:Int))
  let p4:Nat×AV:=(25,.sl 1 (x1.2.2.2.1.map cdS.enc))
  let p5:Nat×AV:=(3,.pt 0 0 0)
  let p6:Nat×AV:=(0,.sl 5 (x0.map AA.enc))
  refine AL AC [p6,p5,p4,p3,p2,(28,.b (decide (c9 < (x1.2.2.2.1.length:Int))))] [p1] ?_;refine AF ?_;refine AN (b:=(decide (c9 < (x1.2.2.2.1.length:Int)))) kr (fun hb10=>?_) (fun hb10=>?_)
  ·rw [if_pos hb10] at h
   refine AY ?_;refine AF ?_;refine Aq ?_;refine AF ?_;obtain ⟨v11,hv11,h⟩:=OB h;refine AJ (s1:=⟨Fr 47 [p6,p5,(5,.j c9),(6,.st v11),p4,p3,p2],[p1]⟩) ?_ ?_
   ·refine AD (n:=47) AC 1 [p6,p5,p4,p3,p2,(29,.j c9)] [p1] kr ?_
    refine AK AC 0 rfl (Bi (AB rfl) rfl (AZ (a:= .sl 1 (x1.2.2.2.1.map cdS.enc)) (b:= .j c9) kr kr (Dc (e:=cdS.enc) (el:=9) (k:=1) (ki:= .i64) kr kr hv11))) ?_;exact AW AC
   refine AF ?_;by_cases hk12:(GQ 0 c9 x1.2.2.2.1.length)=true
   case neg=>rw [if_neg hk12] at h; cases h
   rw [if_pos hk12] at h;obtain ⟨v13,hv13,h⟩:=OB h;refine AJ (s1:=⟨Fr 47 [p6,p5,p4,p3,p2,(37,.b v13)],[p1]⟩) ?_ ?_
   ·refine AD (n:=47) AC 3 [p6,p5,(6,.st v11),p4,p3,p2,(33,.sl 1 (x1.2.2.2.1.map cdS.enc)),(34,.j c9)] [p1] kr ?_
    refine AK AC 0 rfl (Bi (AB rfl) rfl (I7 (a:= .sl 1 (x1.2.2.2.1.map cdS.enc)) (l:=none) (u:=(some (.j c9))) (m:=none) kr kr kr rfl (Ml (xs:=x1.2.2.2.1) (e:=cdS.enc) (k:=1) (el:=9) (lo:=0) (hi:=c9) kr kr rfl (KE (NC hk12)) hk12))) ?_;refine AD (n:=47) AC 1 [p6,p5,p4,p3,p2,(35,.sl 1 (((x1.2.2.2.1.take c9.toNat).drop (0:Int).toNat).map cdS.enc)),(36,.st v11)] [p1] kr ?_;refine AO (caps:=[]) (xs:=[.sl 1 (((x1.2.2.2.1.take c9.toNat).drop (0:Int).toNat).map cdS.enc),.st v11]) (u:=(((x1.2.2.2.1.take c9.toNat).drop (0:Int).toNat),v11,())) rfl rfl Di rfl (AB rfl) kr kr (AT (Ap (c:=(cdL 1 cdS)) (v:=((x1.2.2.2.1.take c9.toNat).drop (0:Int).toNat))) (AT (Ap (c:=cdS) (v:=v11)) Ay)) (.inl kr) hv13 ?_;exact AE rfl (Ax [0] ⟨⟨_,rfl,Hk⟩,trivial⟩ ⟨lv,lv,lv,lv,lv,lv,trivial⟩)
   refine AN (b:=v13) kr (fun hb14=>?_) (fun hb14=>?_)
   ·rw [if_pos hb14] at h
    refine AF ?_;refine AJ (s1:=⟨Fr 47 [(4,.j 5)],[]⟩) ?_ ?_
    ·refine AD (n:=47) AC 1 [(4,.j 5)] [p1] kr ?_
     exact AE rfl (Ax [] trivial ⟨lv,trivial⟩)
    refine AS ?_;have hq:=OI h; subst hq;exact ⟨rfl,AH⟩
   ·rw [Bu hb14] at h
    refine AY ?_
    let p7:Nat×AV:=(27,.j (wr .i64 (c9 + 1)))
    refine DE AC [p6,p5,p4,p3,p7] [p1] ?_;exact Aw (s1:=⟨Fr 47 [p6,p5,p4,p3,p7],[p1]⟩) (Ax [0] ⟨⟨_,rfl,Hk⟩,trivial⟩ ⟨lv,lv,lv,lv,lv,trivial⟩) (ih (wr .i64 (c9 + 1)) h)
  ·rw [Bu hb10] at h
   refine Co ?_;have hq:=OI h; subst hq;exact ⟨rfl,(Ax [0] ⟨⟨_,rfl,Hk⟩,trivial⟩ ⟨lv,lv,trivial⟩)⟩
theorem Kp (x0:(List AG)) (x1:AG) (r:Int) (h:EU x0 x1=some r):Sem E0 ⟨none,false⟩ Gt ⟨Fr 47 (BG 0 (Gw.enc (x0,x1,()))),[]⟩ fun e s'=>(e = .normal\/e = .ret)/\∃ xs,ED E0.P s'.fr s'.hp Tryz.f79.results.toList=some xs/\EJ xs=G3 r:=by
 unfold EU at h;refine BD (Bw (s1:=⟨Fr 47 [(0,.sl 5 (x0.map AA.enc)),(1,AA.enc x1)],[]⟩) AH ?_);refine AL AC [(0,.sl 5 (x0.map AA.enc)),(3,.pt 0 0 0)] [some ⟨5,70,[AA.enc x1],false⟩] ?_;refine AF ?_;refine AF ?_;obtain ⟨v1,hv1,h⟩:=OB h;refine AJ (s1:=⟨Fr 47 [(0,.sl 5 (x0.map AA.enc)),(3,.pt 0 0 0),(9,.b (!v1))],[some ⟨5,70,[AA.enc x1],false⟩]⟩) ?_ ?_
 ·refine AD (n:=47) AC 1 [(0,.sl 5 (x0.map AA.enc)),(3,.pt 0 0 0),(7,AA.enc x1)] [some ⟨5,70,[AA.enc x1],false⟩] kr ?_
  refine AO (caps:=[]) (xs:=[AA.enc x1]) (u:=(x1,())) rfl rfl Lt rfl (AB rfl) kr kr (AT (Ap (c:=AA) (v:=x1)) Ay) (.inl kr) hv1 ?_;exact AW AC
 refine AN (b:=(!v1)) kr (fun hb2=>?_) (fun hb2=>?_)
 ·rw [if_pos hb2] at h
  refine AF ?_;refine AJ (s1:=⟨Fr 47 [(4,.j 30)],[]⟩) ?_ ?_
  ·refine AD (n:=47) AC 1 [(4,.j 30)] [some ⟨5,70,[AA.enc x1],false⟩] kr ?_
   exact AE rfl (Ax [] trivial ⟨lv,trivial⟩)
  refine AS ?_;have hq:=OI h; subst hq;exact ⟨⟨Fr 47 [(4,.j 30)],[]⟩,AH,.inr rfl,[.j 30],kr,kr⟩
 ·rw [Bu hb2] at h
  refine AY ?_;refine AF ?_;refine AF ?_;obtain ⟨j7,hj7,h⟩:=OB h;refine AJ (s1:=⟨Fr 47 [(0,.sl 5 (x0.map AA.enc)),(3,.pt 0 0 0),(23,.b j7)],[some ⟨5,70,[AA.enc x1],false⟩]⟩) ?_ ?_
  ·refine AD (n:=47) AC 4 [(0,.sl 5 (x0.map AA.enc)),(3,.pt 0 0 0),(13,.b (!(x1.2.1==[])))] [some ⟨5,70,[AA.enc x1],false⟩] kr ?_
   rcases BE (!(x1.2.1==[])) with hc24 | hc24
   ·rw [if_pos hc24] at hj7
    rw [hc24];refine AD (n:=47) AC 2 [(0,.sl 5 (x0.map AA.enc)),(3,.pt 0 0 0),(13,.b true),(15,.st x1.2.1)] [some ⟨5,70,[AA.enc x1],false⟩] kr ?_;obtain ⟨v3,hv3,hj7⟩:=OB hj7;refine AO (caps:=[]) (xs:=[.st x1.2.1]) (u:=(x1.2.1,())) rfl rfl KH rfl kr kr kr (AT (Ap (c:=cdS) (v:=x1.2.1)) Ay) (.inl kr) hv3 ?_;refine AD (n:=47) AC 3 [(0,.sl 5 (x0.map AA.enc)),(3,.pt 0 0 0),(19,.b (!v3))] [some ⟨5,70,[AA.enc x1],false⟩] kr ?_;rcases BE (!v3) with hc25 | hc25
    ·rw [if_pos hc25] at hj7
     rw [hc25];refine AD (n:=47) AC 4 [(0,.sl 5 (x0.map AA.enc)),(3,.pt 0 0 0),(23,.b true)] [some ⟨5,70,[AA.enc x1],false⟩] kr ?_;have hq:=OI hj7; subst hq;exact AE rfl (Ax [0] ⟨⟨_,rfl,Hk⟩,trivial⟩ ⟨lv,lv,lv,trivial⟩)
    ·rw [Bu hc25] at hj7
     rw [hc25];refine AD (n:=47) AC 2 [(0,.sl 5 (x0.map AA.enc)),(3,.pt 0 0 0),(19,.b false),(21,.sl 1 (x1.2.2.2.1.map cdS.enc))] [some ⟨5,70,[AA.enc x1],false⟩] kr ?_;obtain ⟨v4,hv4,hj7⟩:=OB hj7;refine AO (caps:=[]) (xs:=[.sl 1 (x1.2.2.2.1.map cdS.enc),.fn 122 [] []]) (u:=(x1.2.2.2.1,(),())) rfl rfl Bt rfl kr kr kr (AT (Ap (c:=(cdL 1 cdS)) (v:=x1.2.2.2.1)) (AT (Sm.fn Ay) Ay)) (.inl kr) hv4 ?_;refine AD (n:=47) AC 1 [(0,.sl 5 (x0.map AA.enc)),(3,.pt 0 0 0),(23,.b v4)] [some ⟨5,70,[AA.enc x1],false⟩] kr ?_;have hq:=OI hj7; subst hq;exact AE rfl (Ax [0] ⟨⟨_,rfl,Hk⟩,trivial⟩ ⟨lv,lv,lv,trivial⟩)
   ·rw [Bu hc24] at hj7
    rw [hc24];refine AD (n:=47) AC 8 [(0,.sl 5 (x0.map AA.enc)),(3,.pt 0 0 0),(19,.b false),(21,.sl 1 (x1.2.2.2.1.map cdS.enc))] [some ⟨5,70,[AA.enc x1],false⟩] kr ?_;obtain ⟨v5,hv5,hj7⟩:=OB hj7;refine AO (caps:=[]) (xs:=[.sl 1 (x1.2.2.2.1.map cdS.enc),.fn 122 [] []]) (u:=(x1.2.2.2.1,(),())) rfl rfl Bt rfl kr kr kr (AT (Ap (c:=(cdL 1 cdS)) (v:=x1.2.2.2.1)) (AT (Sm.fn Ay) Ay)) (.inl kr) hv5 ?_;refine AD (n:=47) AC 1 [(0,.sl 5 (x0.map AA.enc)),(3,.pt 0 0 0),(23,.b v5)] [some ⟨5,70,[AA.enc x1],false⟩] kr ?_;have hq:=OI hj7; subst hq;exact AE rfl (Ax [0] ⟨⟨_,rfl,Hk⟩,trivial⟩ ⟨lv,lv,lv,trivial⟩)
  refine AN (b:=j7) kr (fun hb8=>?_) (fun hb8=>?_)
  ·rw [if_pos hb8] at h
   refine AF ?_;refine AJ (s1:=⟨Fr 47 [(4,.j 4)],[]⟩) ?_ ?_
   ·refine AD (n:=47) AC 1 [(4,.j 4)] [some ⟨5,70,[AA.enc x1],false⟩] kr ?_
    exact AE rfl (Ax [] trivial ⟨lv,trivial⟩)
   refine AS ?_;have hq:=OI h; subst hq;exact ⟨⟨Fr 47 [(4,.j 4)],[]⟩,AH,.inr rfl,[.j 4],kr,kr⟩
  ·rw [Bu hb8] at h
   refine AY ?_;refine AF ?_;refine AF ?_;refine AJ (s1:=⟨Fr 47 [(0,.sl 5 (x0.map AA.enc)),(3,.pt 0 0 0),(25,.sl 1 (x1.2.2.2.1.map cdS.enc)),(26,.j (x1.2.2.2.1.length:Int)),(27,.j 0)],[some ⟨5,70,[AA.enc x1],false⟩]⟩) ?_ ?_
   ·refine AD (n:=47) AC 2 [(0,.sl 5 (x0.map AA.enc)),(3,.pt 0 0 0),(25,.sl 1 (x1.2.2.2.1.map cdS.enc))] [some ⟨5,70,[AA.enc x1],false⟩] kr ?_
    refine AK AC 0 rfl (Bi (AB rfl) rfl (EG (a:= .sl 1 (x1.2.2.2.1.map cdS.enc)) kr (Cn (el:=9) kr))) ?_;exact AW AC
   refine Aq ?_;obtain ⟨r16,hr16,h⟩:=OB h;refine Cp (n:=100000) ?_;rcases r16 with w17 | w23
   ·try dsimp only at h
    refine BH (Aw (s1:=⟨Fr 47 [(0,.sl 5 (x0.map AA.enc)),(3,.pt 0 0 0),(25,.sl 1 (x1.2.2.2.1.map cdS.enc)),(26,.j (x1.2.2.2.1.length:Int)),(27,.j 0)],[some ⟨5,70,[AA.enc x1],false⟩]⟩) (Ax [0] ⟨⟨_,rfl,Hk⟩,trivial⟩ ⟨lv,lv,lv,lv,lv,trivial⟩) (HC x0 x1 _ 0 _ hr16)) ?_;refine AF ?_;refine AF ?_;obtain ⟨j20,hj20,h⟩:=OB h;refine AJ (s1:=⟨Fr 47 [(46,.b j20)],[]⟩) ?_ ?_
    ·refine AD (n:=47) AC 4 [(0,.sl 5 (x0.map AA.enc)),(3,.pt 0 0 0),(42,.b (x1.2.1==[]))] [some ⟨5,70,[AA.enc x1],false⟩] kr ?_
     rcases BE (x1.2.1==[]) with hc22 | hc22
     ·rw [if_pos hc22] at hj20
      rw [hc22];refine AD (n:=47) AC 4 [(46,.b true)] [some ⟨5,70,[AA.enc x1],false⟩] kr ?_;have hq:=OI hj20; subst hq;exact AE rfl (Ax [] trivial ⟨lv,trivial⟩)
     ·rw [Bu hc22] at hj20
      rw [hc22];refine AD (n:=47) AC 2 [(42,.b false),(43,.sl 5 (x0.map AA.enc)),(44,.fn 124 [] [.pt 0 0 0])] [some ⟨5,70,[AA.enc x1],false⟩] kr ?_;obtain ⟨v18,hv18,hj20⟩:=OB hj20;refine AO (caps:=[]) (xs:=[.sl 5 (x0.map AA.enc),.fn 124 [] [.pt 0 0 0]]) (u:=(x0,x1,())) rfl rfl CR rfl kr kr kr (AT (Ap (c:=(cdL 5 AA)) (v:=x0)) (AT (Sm.fn (PZ (Sm.pt (k:=5) (t:=70) (fz:=false) (y:=(AA.enc x1)) kr (Ap (c:=AA) (v:=x1))))) Ay)) (.inl kr) hv18 ?_;refine AD (n:=47) AC 1 [(46,.b v18)] [some ⟨5,70,[AA.enc x1],false⟩] kr ?_;have hq:=OI hj20; subst hq;exact AE rfl (Ax [] trivial ⟨lv,trivial⟩)
    refine AN (b:=j20) kr (fun hb21=>?_) (fun hb21=>?_)
    ·rw [if_pos hb21] at h
     refine AL AC [(4,.j 0)] [] ?_;refine AS ?_;have hq:=OI h; subst hq;exact ⟨⟨Fr 47 [(4,.j 0)],[]⟩,AH,.inr rfl,[.j 0],kr,kr⟩
    ·rw [Bu hb21] at h
     refine AY ?_;refine AL AC [(4,.j 31)] [] ?_;refine AS ?_;have hq:=OI h; subst hq;exact ⟨⟨Fr 47 [(4,.j 31)],[]⟩,AH,.inr rfl,[.j 31],kr,kr⟩
   ·try dsimp only at h
    refine BH (Aw (s1:=⟨Fr 47 [(0,.sl 5 (x0.map AA.enc)),(3,.pt 0 0 0),(25,.sl 1 (x1.2.2.2.1.map cdS.enc)),(26,.j (x1.2.2.2.1.length:Int)),(27,.j 0)],[some ⟨5,70,[AA.enc x1],false⟩]⟩) (Ax [0] ⟨⟨_,rfl,Hk⟩,trivial⟩ ⟨lv,lv,lv,lv,lv,trivial⟩) (HC x0 x1 _ 0 _ hr16)) ?_;have hq:=OI h; subst hq;exact ⟨⟨Fr 47 [(4,.j w23)],[]⟩,AH,.inr rfl,[.j w23],kr,kr⟩
def Mn:List AV->Option AV:=EN Gw (fun a=>EU a.1 a.2.1) G3
theorem Mv:XOk 79 Mn:=by
 refine Af Tryz.func79 (c:=Gt) ?h2 ⟨Tryz.call79⟩ Gw (fun a=>EU a.1 a.2.1) G3 (fun a=>(by show 2<=47; decide)) ?h3 ?h4
 case h2=>kernel_rfl
 case h3=>intro b; kernel_rfl
 case h4=>exact fun a b h=>Kp a.1 a.2.1 b h
/- trestle/court.Check -/
noncomputable def Gs:Code:=Bg Tryz.f52
def Cv (x0:(List AG)):Nat->Int->Option ((Unit) ⊕ (Int×Int))
 | 0,_=>none
 | f + 1,c2 =>
  if (decide (c2 < (x0.length:Int)))=true then
  (idx x0 c2).bind fun v4 =>
  if (GQ 0 c2 x0.length)=true then
  (EU ((x0.take c2.toNat).drop (0:Int).toNat) v4).bind fun v6 =>
  if (v6 != 0)=true then
  some (.inr (c2,v6))
  else
  Cv x0 f (wr .i64 (c2 + 1))
  else none
  else
  some (.inl ())
def ET (x0:(List AG)):Option (Int×Int) :=
 if (decide ((x0.length:Int) > 32))=true then
 some (0,7)
 else
 (Cv x0 100000 0).bind fun r10 =>
 match r10 with
 | (.inl w11) =>
  some (0,0)
 | (.inr w12) =>
  some (w12.1,w12.2)
def Gv:Cs ((List AG)×Unit):=(csC (cdL 5 AA) csN)
def G0 (r:Int×Int):AV:= .tp [cdI.enc r.1,cdI.enc r.2]
theorem HB (x0:(List AG)):∀ (f:Nat) (c2:Int) (r:(Unit) ⊕ (Int×Int)),Cv x0 f c2=some r->SemN E0 ⟨none,false⟩ (pc Gs [1,1,0,1,0,0]) f ⟨Fr 27 [(0,.sl 5 (x0.map AA.enc)),(10,.sl 5 (x0.map AA.enc)),(11,.j (x0.length:Int)),(12,.j c2)],[]⟩ (fun e s=>match r with
 | (.inl w)=>e=(.exit 0)/\Wk E0 s ⟨Fr 27 [],[]⟩
 | (.inr w)=>e = .ret/\Wk E0 s ⟨Fr 27 [(2,.j w.1),(3,.j w.2)],[]⟩):=by
 intro f;induction f with
 | zero=>intro c2 r h; cases h
 | succ f ih0 =>
  intro c2 r h
  have ih:=fun (c2:Int)=>ih0 c2 r
  unfold Cv at h;refine CF ?_
  let p1:Nat×AV:=(12,.j c2)
  let p2:Nat×AV:=(11,.j (x0.length:Int))
  let p3:Nat×AV:=(10,.sl 5 (x0.map AA.enc))
  let p4:Nat×AV:=(0,.sl 5 (x0.map AA.enc))
  refine AL AC [p4,p3,p2,p1,(13,.b (decide (c2 < (x0.length:Int))))] [] ?_;refine AF ?_;refine AN (b:=(decide (c2 < (x0.length:Int)))) kr (fun hb3=>?_) (fun hb3=>?_)
  ·rw [if_pos hb3] at h
   refine AY ?_;refine AF ?_;refine Aq ?_;refine AF ?_;obtain ⟨v4,hv4,h⟩:=OB h
   let p5:Option Blk:=some ⟨5,70,[AA.enc v4],false⟩
   let p6:Nat×AV:=(4,.j c2)
   refine AJ (s1:=⟨Fr 27 [p4,p6,(5,.pt 0 0 0),p3,p2,p1],[p5]⟩) ?_ ?_
   ·refine AD (n:=27) AC 1 [p4,p3,p2,p1,(14,.j c2)] [] kr ?_
    refine AK AC 0 rfl (Bi (AB rfl) rfl (AZ (a:= .sl 5 (x0.map AA.enc)) (b:= .j c2) kr kr (Dc (e:=AA.enc) (el:=70) (k:=5) (ki:= .i64) kr kr hv4))) ?_;exact AW AC
   refine AF ?_;by_cases hk5:(GQ 0 c2 x0.length)=true
   case neg=>rw [if_neg hk5] at h; cases h
   rw [if_pos hk5] at h;obtain ⟨v6,hv6,h⟩:=OB h
   let p7:Nat×AV:=(6,.j v6)
   refine JA AC (s1:=⟨Fr 27 [p4,p6,p7,p3,p2,p1],[]⟩) kr ?_ ?_
   ·refine B4 (n:=27) AC 2 [p4,p6,(5,.pt 0 0 0),p3,p2,p1,(17,.sl 5 (x0.map AA.enc)),(18,.j c2)] [p5] kr kr ?_
    refine RunDS.one AC rfl kr (If kr (AB rfl) rfl (I7 (a:= .sl 5 (x0.map AA.enc)) (l:=none) (u:=(some (.j c2))) (m:=none) kr kr kr rfl (Ml (xs:=x0) (e:=AA.enc) (k:=5) (el:=70) (lo:=0) (hi:=c2) kr kr rfl (KE (NC hk5)) hk5)) kr) ?_;refine B4 (n:=27) AC 1 [p4,p6,p3,p2,p1,(19,.sl 5 (((x0.take c2.toNat).drop (0:Int).toNat).map AA.enc)),(20,AA.enc v4)] [p5] kr kr ?_;refine Is (caps:=[]) (xs:=[.sl 5 (((x0.take c2.toNat).drop (0:Int).toNat).map AA.enc),AA.enc v4]) (u:=(((x0.take c2.toNat).drop (0:Int).toNat),v4,())) rfl rfl Mv rfl (AB rfl) kr kr (AT (Ap (c:=(cdL 5 AA)) (v:=((x0.take c2.toNat).drop (0:Int).toNat))) (AT (Ap (c:=AA) (v:=v4)) Ay)) kr hv6 ?_;refine B4 (n:=27) AC 1 [p4,p6,p7,p3,p2,p1] [p5] kr kr ?_;exact RunDS.done rfl (Ax [] trivial ⟨lv,lv,lv,lv,lv,lv,trivial⟩)
   refine AL AC [p4,p6,p7,p3,p2,p1,(23,.b (v6 != 0))] [] ?_;refine AN (b:=(v6 != 0)) kr (fun hb7=>?_) (fun hb7=>?_)
   ·rw [if_pos hb7] at h
    refine AL AC [(2,.j c2),(3,.j v6)] [] ?_;refine AS ?_;have hq:=OI h; subst hq;exact ⟨rfl,AH⟩
   ·rw [Bu hb7] at h
    refine AY ?_
    let p8:Nat×AV:=(12,.j (wr .i64 (c2 + 1)))
    refine DE AC [p4,p3,p2,p8] [] ?_;exact Aw (s1:=⟨Fr 27 [p4,p3,p2,p8],[]⟩) AH (ih (wr .i64 (c2 + 1)) h)
  ·rw [Bu hb3] at h
   refine Co ?_;have hq:=OI h; subst hq;exact ⟨rfl,AH⟩
theorem Ko (x0:(List AG)) (r:Int×Int) (h:ET x0=some r):Sem E0 ⟨none,false⟩ Gs ⟨Fr 27 (BG 0 (Gv.enc (x0,()))),[]⟩ fun e s'=>(e = .normal\/e = .ret)/\∃ xs,ED E0.P s'.fr s'.hp Tryz.f52.results.toList=some xs/\EJ xs=G0 r:=by
 unfold ET at h
 let p1:Nat×AV:=(0,.sl 5 (x0.map AA.enc))
 refine BD (Bw (s1:=⟨Fr 27 [p1],[]⟩) AH ?_);refine AL AC [p1] [] ?_;refine AF ?_;refine AF ?_;refine AJ (s1:=⟨Fr 27 [p1,(9,.b (decide ((x0.length:Int) > 32)))],[]⟩) ?_ ?_
 ·refine AD (n:=27) AC 1 [p1,(7,.sl 5 (x0.map AA.enc))] [] kr ?_
  refine AK AC 0 rfl (Bi (AB rfl) rfl (EG (a:= .sl 5 (x0.map AA.enc)) kr (Cn (el:=70) kr))) ?_;exact AW AC
 refine AN (b:=(decide ((x0.length:Int) > 32))) kr (fun hb1=>?_) (fun hb1=>?_)
 ·rw [if_pos hb1] at h
  refine AL AC [(2,.j 0),(3,.j 7)] [] ?_;refine AS ?_;have hq:=OI h; subst hq;exact ⟨⟨Fr 27 [(2,.j 0),(3,.j 7)],[]⟩,AH,.inr rfl,[.j 0,.j 7],kr,kr⟩
 ·rw [Bu hb1] at h
  refine AY ?_;refine AF ?_;refine AF ?_
  let p2:Nat×AV:=(12,.j 0)
  let p3:Nat×AV:=(11,.j (x0.length:Int))
  let p4:Nat×AV:=(10,.sl 5 (x0.map AA.enc))
  refine AJ (s1:=⟨Fr 27 [p1,p4,p3,p2],[]⟩) ?_ ?_
  ·refine AD (n:=27) AC 1 [p1,p4] [] kr ?_
   refine AK AC 0 rfl (Bi (AB rfl) rfl (EG (a:= .sl 5 (x0.map AA.enc)) kr (Cn (el:=70) kr))) ?_;exact AW AC
  refine Aq ?_;obtain ⟨r10,hr10,h⟩:=OB h;refine Cp (n:=100000) ?_;rcases r10 with w11 | w12
  ·try dsimp only at h
   refine BH (Aw (s1:=⟨Fr 27 [p1,p4,p3,p2],[]⟩) AH (HB x0 _ 0 _ hr10)) ?_;refine AL AC [(2,.j 0),(3,.j 0)] [] ?_;refine AS ?_;have hq:=OI h; subst hq;exact ⟨⟨Fr 27 [(2,.j 0),(3,.j 0)],[]⟩,AH,.inr rfl,[.j 0,.j 0],kr,kr⟩
  ·try dsimp only at h
   refine BH (Aw (s1:=⟨Fr 27 [p1,p4,p3,p2],[]⟩) AH (HB x0 _ 0 _ hr10)) ?_;have hq:=OI h; subst hq;exact ⟨⟨Fr 27 [(2,.j w12.1),(3,.j w12.2)],[]⟩,AH,.inr rfl,[.j w12.1,.j w12.2],kr,kr⟩
def Mm:List AV->Option AV:=EN Gv (fun a=>ET a.1) G0
theorem Mu:XOk 52 Mm:=by
 refine Af Tryz.func52 (c:=Gs) ?h2 ⟨Tryz.call52⟩ Gv (fun a=>ET a.1) G0 (fun a=>(by show 1<=27; decide)) ?h3 ?h4
 case h2=>kernel_rfl
 case h3=>intro b; kernel_rfl
 case h4=>exact fun a b h=>Ko a.1 b h
/- trestle/court.word -/
noncomputable def JE:Code:=Bg Tryz.f72
def FD (x0:Int):Option ((List UInt8)) :=
 if (x0==1)=true then
 some [114,97,110,107]
 else
 if (x0==2)=true then
 some [101,108,100,101,114]
 else
 if (x0==3)=true then
 some [121,111,117,116,104]
 else
 if (x0==4)=true then
 some [115,105,100,101]
 else
 if (x0==5)=true then
 some [104,111,115,116]
 else
 if (x0==6)=true then
 some [116,111,110,103,117,101]
 else
 if (x0==7)=true then
 some [99,111,117,114,116]
 else
 if (x0==8)=true then
 some [110,97,109,101]
 else
 if (x0==9)=true then
 some [108,105,115,116]
 else
 if (x0==10)=true then
 some [108,111,116]
 else
 some []
def HQ:Cs (Int×Unit):=(csC (cdK .u8) csN)
def HX (r:(List UInt8)):AV:=cdS.enc r
theorem LY (x0:Int) (r:(List UInt8)) (h:FD x0=some r):Sem E0 ⟨none,false⟩ JE ⟨Fr 24 (BG 0 (HQ.enc (x0,()))),[]⟩ fun e s'=>(e = .normal\/e = .ret)/\∃ xs,ED E0.P s'.fr s'.hp Tryz.f72.results.toList=some xs/\EJ xs=HX r:=by
 unfold FD at h;refine BD (Bw (s1:=⟨Fr 24 [(0,.v (.int .u8 x0))],[]⟩) AH ?_);refine AL AC [(0,.v (.int .u8 x0))] [] ?_;refine AF ?_
 let p1:Nat×AV:=(3,.v (.int .u8 x0))
 refine AL AC [p1] [] ?_;refine Aq ?_;refine AL AC [p1,(4,.b (x0==1))] [] ?_;refine AN (b:=(x0==1)) kr (fun hb1=>?_) (fun hb1=>?_)
 ·rw [if_pos hb1] at h
  refine AL AC [(2,.st [114,97,110,107])] [] ?_;refine AS ?_;have hq:=OI h; subst hq;exact ⟨⟨Fr 24 [(2,.st [114,97,110,107])],[]⟩,AH,.inr rfl,[.st [114,97,110,107]],kr,kr⟩
 ·rw [Bu hb1] at h
  refine AL AC [p1,(6,.b (x0==2))] [] ?_;refine AN (b:=(x0==2)) kr (fun hb2=>?_) (fun hb2=>?_)
  ·rw [if_pos hb2] at h
   refine AL AC [(2,.st [101,108,100,101,114])] [] ?_;refine AS ?_;have hq:=OI h; subst hq;exact ⟨⟨Fr 24 [(2,.st [101,108,100,101,114])],[]⟩,AH,.inr rfl,[.st [101,108,100,101,114]],kr,kr⟩
  ·rw [Bu hb2] at h
   refine AL AC [p1,(8,.b (x0==3))] [] ?_;refine AN (b:=(x0==3)) kr (fun hb3=>?_) (fun hb3=>?_)
   ·rw [if_pos hb3] at h
    refine AL AC [(2,.st [121,111,117,116,104])] [] ?_;refine AS ?_;have hq:=OI h; subst hq;exact ⟨⟨Fr 24 [(2,.st [121,111,117,116,104])],[]⟩,AH,.inr rfl,[.st [121,111,117,116,104]],kr,kr⟩
   ·rw [Bu hb3] at h
    refine AL AC [p1,(10,.b (x0==4))] [] ?_;refine AN (b:=(x0==4)) kr (fun hb4=>?_) (fun hb4=>?_)
    ·rw [if_pos hb4] at h
     refine AL AC [(2,.st [115,105,100,101])] [] ?_;refine AS ?_;have hq:=OI h; subst hq;exact ⟨⟨Fr 24 [(2,.st [115,105,100,101])],[]⟩,AH,.inr rfl,[.st [115,105,100,101]],kr,kr⟩
    ·rw [Bu hb4] at h
     refine AL AC [p1,(12,.b (x0==5))] [] ?_;refine AN (b:=(x0==5)) kr (fun hb5=>?_) (fun hb5=>?_)
     ·rw [if_pos hb5] at h
      refine AL AC [(2,.st [104,111,115,116])] [] ?_;refine AS ?_;have hq:=OI h; subst hq;exact ⟨⟨Fr 24 [(2,.st [104,111,115,116])],[]⟩,AH,.inr rfl,[.st [104,111,115,116]],kr,kr⟩
     ·rw [Bu hb5] at h
      refine AL AC [p1,(14,.b (x0==6))] [] ?_;refine AN (b:=(x0==6)) kr (fun hb6=>?_) (fun hb6=>?_)
      ·rw [if_pos hb6] at h
       refine AL AC [(2,.st [116,111,110,103,117,101])] [] ?_;refine AS ?_;have hq:=OI h; subst hq;exact ⟨⟨Fr 24 [(2,.st [116,111,110,103,117,101])],[]⟩,AH,.inr rfl,[.st [116,111,110,103,117,101]],kr,kr⟩
      ·rw [Bu hb6] at h
       refine AL AC [p1,(16,.b (x0==7))] [] ?_;refine AN (b:=(x0==7)) kr (fun hb7=>?_) (fun hb7=>?_)
       ·rw [if_pos hb7] at h
        refine AL AC [(2,.st [99,111,117,114,116])] [] ?_;refine AS ?_;have hq:=OI h; subst hq;exact ⟨⟨Fr 24 [(2,.st [99,111,117,114,116])],[]⟩,AH,.inr rfl,[.st [99,111,117,114,116]],kr,kr⟩
       ·rw [Bu hb7] at h
        refine AL AC [p1,(18,.b (x0==8))] [] ?_;refine AN (b:=(x0==8)) kr (fun hb8=>?_) (fun hb8=>?_)
        ·rw [if_pos hb8] at h
         refine AL AC [(2,.st [110,97,109,101])] [] ?_;refine AS ?_;have hq:=OI h; subst hq;exact ⟨⟨Fr 24 [(2,.st [110,97,109,101])],[]⟩,AH,.inr rfl,[.st [110,97,109,101]],kr,kr⟩
        ·rw [Bu hb8] at h
         refine AL AC [p1,(20,.b (x0==9))] [] ?_;refine AN (b:=(x0==9)) kr (fun hb9=>?_) (fun hb9=>?_)
         ·rw [if_pos hb9] at h
          refine AL AC [(2,.st [108,105,115,116])] [] ?_;refine AS ?_;have hq:=OI h; subst hq;exact ⟨⟨Fr 24 [(2,.st [108,105,115,116])],[]⟩,AH,.inr rfl,[.st [108,105,115,116]],kr,kr⟩
         ·rw [Bu hb9] at h
          refine AL AC [(22,.b (x0==10))] [] ?_;refine AN (b:=(x0==10)) kr (fun hb10=>?_) (fun hb10=>?_)
          ·rw [if_pos hb10] at h
           refine AL AC [(2,.st [108,111,116])] [] ?_;refine AS ?_;have hq:=OI h; subst hq;exact ⟨⟨Fr 24 [(2,.st [108,111,116])],[]⟩,AH,.inr rfl,[.st [108,111,116]],kr,kr⟩
          ·rw [Bu hb10] at h
           refine AY ?_;refine AL AC [(2,.st [])] [] ?_;refine AS ?_;have hq:=OI h; subst hq;exact ⟨⟨Fr 24 [(2,.st [])],[]⟩,AH,.inr rfl,[.st []],kr,kr⟩
def NT:List AV->Option AV:=EN HQ (fun a=>FD a.1) HX
theorem Nf:XOk 72 NT:=by
 refine Af Tryz.func72 (c:=JE) ?h2 ⟨Tryz.call72⟩ HQ (fun a=>FD a.1) HX (fun a=>(by show 1<=24; decide)) ?h3 ?h4
 case h2=>kernel_rfl
 case h3=>intro b; kernel_rfl
 case h4=>exact fun a b h=>LY a.1 b h
/- internal/strconv.small -/
noncomputable def Hq:Code:=Bg Tryz.f156
def Ey (x0:Int):Option ((List UInt8)) :=
 if (decide (x0 < 10))=true then
 if (GQ x0 (wr .i64 (x0 + 1)) ([48,49,50,51,52,53,54,55,56,57,97,98,99,100,101,102,103,104,105,106,107,108,109,110,111,112,113,114,115,116,117,118,119,120,121,122]:List UInt8).length)=true then
 some ((([48,49,50,51,52,53,54,55,56,57,97,98,99,100,101,102,103,104,105,106,107,108,109,110,111,112,113,114,115,116,117,118,119,120,121,122]:List UInt8).take (wr .i64 (x0 + 1)).toNat).drop x0.toNat)
 else none
 else
 if (GQ (wr .i64 (x0 * 2)) (wr .i64 ((wr .i64 (x0 * 2)) + 2)) ([48,48,48,49,48,50,48,51,48,52,48,53,48,54,48,55,48,56,48,57,49,48,49,49,49,50,49,51,49,52,49,53,49,54,49,55,49,56,49,57,50,48,50,49,50,50,50,51,50,52,50,53,50,54,50,55,50,56,50,57,51,48,51,49,51,50,51,51,51,52,51,53,51,54,51,55,51,56,51,57,52,48,52,49,52,50,52,51,52,52,52,53,52,54,52,55,52,56,52,57,53,48,53,49,53,50,53,51,53,52,53,53,53,54,53,55,53,56,53,57,54,48,54,49,54,50,54,51,54,52,54,53,54,54,54,55,54,56,54,57,55,48,55,49,55,50,55,51,55,52,55,53,55,54,55,55,55,56,55,57,56,48,56,49,56,50,56,51,56,52,56,53,56,54,56,55,56,56,56,57,57,48,57,49,57,50,57,51,57,52,57,53,57,54,57,55,57,56,57,57]:List UInt8).length)=true then
 some ((([48,48,48,49,48,50,48,51,48,52,48,53,48,54,48,55,48,56,48,57,49,48,49,49,49,50,49,51,49,52,49,53,49,54,49,55,49,56,49,57,50,48,50,49,50,50,50,51,50,52,50,53,50,54,50,55,50,56,50,57,51,48,51,49,51,50,51,51,51,52,51,53,51,54,51,55,51,56,51,57,52,48,52,49,52,50,52,51,52,52,52,53,52,54,52,55,52,56,52,57,53,48,53,49,53,50,53,51,53,52,53,53,53,54,53,55,53,56,53,57,54,48,54,49,54,50,54,51,54,52,54,53,54,54,54,55,54,56,54,57,55,48,55,49,55,50,55,51,55,52,55,53,55,54,55,55,55,56,55,57,56,48,56,49,56,50,56,51,56,52,56,53,56,54,56,55,56,56,56,57,57,48,57,49,57,50,57,51,57,52,57,53,57,54,57,55,57,56,57,57]:List UInt8).take (wr .i64 ((wr .i64 (x0 * 2)) + 2)).toNat).drop (wr .i64 (x0 * 2)).toNat)
 else none
def Fe:Cs (Int×Unit):=(csC cdI csN)
def Fl (r:(List UInt8)):AV:=cdS.enc r
theorem J7 (x0:Int) (r:(List UInt8)) (h:Ey x0=some r):Sem E0 ⟨none,false⟩ Hq ⟨Fr 15 (BG 0 (Fe.enc (x0,()))),[]⟩ fun e s'=>(e = .normal\/e = .ret)/\∃ xs,ED E0.P s'.fr s'.hp Tryz.f156.results.toList=some xs/\EJ xs=Fl r:=by
 unfold Ey at h
 let p1:Nat×AV:=(0,.j x0)
 refine BD (Bw (s1:=⟨Fr 15 [p1],[]⟩) AH ?_);refine AL AC [p1] [] ?_;refine AF ?_;refine AL AC [p1,(4,.b (decide (x0 < 10)))] [] ?_;refine AN (b:=(decide (x0 < 10))) kr (fun hb1=>?_) (fun hb1=>?_)
 ·rw [if_pos hb1] at h
  refine AF ?_;by_cases hk2:(GQ x0 (wr .i64 (x0 + 1)) ([48,49,50,51,52,53,54,55,56,57,97,98,99,100,101,102,103,104,105,106,107,108,109,110,111,112,113,114,115,116,117,118,119,120,121,122]:List UInt8).length)=true
  case neg=>rw [if_neg hk2] at h; cases h
  rw [if_pos hk2] at h
  let p2:Nat×AV:=(2,.st ((([48,49,50,51,52,53,54,55,56,57,97,98,99,100,101,102,103,104,105,106,107,108,109,110,111,112,113,114,115,116,117,118,119,120,121,122]:List UInt8).take (wr .i64 (x0 + 1)).toNat).drop x0.toNat))
  refine AJ (s1:=⟨Fr 15 [p2],[]⟩) ?_ ?_
  ·refine AD (n:=15) AC 3 [(5,.j x0),(7,.j (wr .i64 (x0 + 1)))] [] kr ?_
   refine AK AC 0 rfl (Bi (AB rfl) rfl (I7 (a:= .st [48,49,50,51,52,53,54,55,56,57,97,98,99,100,101,102,103,104,105,106,107,108,109,110,111,112,113,114,115,116,117,118,119,120,121,122]) (l:=(some (.j x0))) (u:=(some (.j (wr .i64 (x0 + 1))))) (m:=none) kr kr kr rfl (Oz (bs:=[48,49,50,51,52,53,54,55,56,57,97,98,99,100,101,102,103,104,105,106,107,108,109,110,111,112,113,114,115,116,117,118,119,120,121,122]) (lo:=x0) (hi:=(wr .i64 (x0 + 1))) kr (KE (RZ hk2)) (KE (NC hk2)) hk2))) ?_;exact AW AC
  refine AS ?_;have hq:=OI h; subst hq;exact ⟨⟨Fr 15 [p2],[]⟩,AH,.inr rfl,[.st ((([48,49,50,51,52,53,54,55,56,57,97,98,99,100,101,102,103,104,105,106,107,108,109,110,111,112,113,114,115,116,117,118,119,120,121,122]:List UInt8).take (wr .i64 (x0 + 1)).toNat).drop x0.toNat)],kr,kr⟩
 ·rw [Bu hb1] at h
  refine AY ?_;refine AF ?_;by_cases hk3:(GQ (wr .i64 (x0 * 2)) (wr .i64 ((wr .i64 (x0 * 2)) + 2)) ([48,48,48,49,48,50,48,51,48,52,48,53,48,54,48,55,48,56,48,57,49,48,49,49,49,50,49,51,49,52,49,53,49,54,49,55,49,56,49,57,50,48,50,49,50,50,50,51,50,52,50,53,50,54,50,55,50,56,50,57,51,48,51,49,51,50,51,51,51,52,51,53,51,54,51,55,51,56,51,57,52,48,52,49,52,50,52,51,52,52,52,53,52,54,52,55,52,56,52,57,53,48,53,49,53,50,53,51,53,52,53,53,53,54,53,55,53,56,53,57,54,48,54,49,54,50,54,51,54,52,54,53,54,54,54,55,54,56,54,57,55,48,55,49,55,50,55,51,55,52,55,53,55,54,55,55,55,56,55,57,56,48,56,49,56,50,56,51,56,52,56,53,56,54,56,55,56,56,56,57,57,48,57,49,57,50,57,51,57,52,57,53,57,54,57,55,57,56,57,57]:List UInt8).length)=true
  case neg=>rw [if_neg hk3] at h; cases h
  rw [if_pos hk3] at h
  let p3:Nat×AV:=(2,.st ((([48,48,48,49,48,50,48,51,48,52,48,53,48,54,48,55,48,56,48,57,49,48,49,49,49,50,49,51,49,52,49,53,49,54,49,55,49,56,49,57,50,48,50,49,50,50,50,51,50,52,50,53,50,54,50,55,50,56,50,57,51,48,51,49,51,50,51,51,51,52,51,53,51,54,51,55,51,56,51,57,52,48,52,49,52,50,52,51,52,52,52,53,52,54,52,55,52,56,52,57,53,48,53,49,53,50,53,51,53,52,53,53,53,54,53,55,53,56,53,57,54,48,54,49,54,50,54,51,54,52,54,53,54,54,54,55,54,56,54,57,55,48,55,49,55,50,55,51,55,52,55,53,55,54,55,55,55,56,55,57,56,48,56,49,56,50,56,51,56,52,56,53,56,54,56,55,56,56,56,57,57,48,57,49,57,50,57,51,57,52,57,53,57,54,57,55,57,56,57,57]:List UInt8).take (wr .i64 ((wr .i64 (x0 * 2)) + 2)).toNat).drop (wr .i64 (x0 * 2)).toNat))
  refine AJ (s1:=⟨Fr 15 [p3],[]⟩) ?_ ?_
  ·refine AD (n:=15) AC 5 [(10,.j (wr .i64 (x0 * 2))),(13,.j (wr .i64 ((wr .i64 (x0 * 2)) + 2)))] [] kr ?_
   refine AK AC 0 rfl (Bi (AB rfl) rfl (I7 (a:= .st [48,48,48,49,48,50,48,51,48,52,48,53,48,54,48,55,48,56,48,57,49,48,49,49,49,50,49,51,49,52,49,53,49,54,49,55,49,56,49,57,50,48,50,49,50,50,50,51,50,52,50,53,50,54,50,55,50,56,50,57,51,48,51,49,51,50,51,51,51,52,51,53,51,54,51,55,51,56,51,57,52,48,52,49,52,50,52,51,52,52,52,53,52,54,52,55,52,56,52,57,53,48,53,49,53,50,53,51,53,52,53,53,53,54,53,55,53,56,53,57,54,48,54,49,54,50,54,51,54,52,54,53,54,54,54,55,54,56,54,57,55,48,55,49,55,50,55,51,55,52,55,53,55,54,55,55,55,56,55,57,56,48,56,49,56,50,56,51,56,52,56,53,56,54,56,55,56,56,56,57,57,48,57,49,57,50,57,51,57,52,57,53,57,54,57,55,57,56,57,57]) (l:=(some (.j (wr .i64 (x0 * 2))))) (u:=(some (.j (wr .i64 ((wr .i64 (x0 * 2)) + 2))))) (m:=none) kr kr kr rfl (Oz (bs:=[48,48,48,49,48,50,48,51,48,52,48,53,48,54,48,55,48,56,48,57,49,48,49,49,49,50,49,51,49,52,49,53,49,54,49,55,49,56,49,57,50,48,50,49,50,50,50,51,50,52,50,53,50,54,50,55,50,56,50,57,51,48,51,49,51,50,51,51,51,52,51,53,51,54,51,55,51,56,51,57,52,48,52,49,52,50,52,51,52,52,52,53,52,54,52,55,52,56,52,57,53,48,53,49,53,50,53,51,53,52,53,53,53,54,53,55,53,56,53,57,54,48,54,49,54,50,54,51,54,52,54,53,54,54,54,55,54,56,54,57,55,48,55,49,55,50,55,51,55,52,55,53,55,54,55,55,55,56,55,57,56,48,56,49,56,50,56,51,56,52,56,53,56,54,56,55,56,56,56,57,57,48,57,49,57,50,57,51,57,52,57,53,57,54,57,55,57,56,57,57]) (lo:=(wr .i64 (x0 * 2))) (hi:=(wr .i64 ((wr .i64 (x0 * 2)) + 2))) kr (KE (RZ hk3)) (KE (NC hk3)) hk3))) ?_;exact AW AC
  refine AS ?_;have hq:=OI h; subst hq;exact ⟨⟨Fr 15 [p3],[]⟩,AH,.inr rfl,[.st ((([48,48,48,49,48,50,48,51,48,52,48,53,48,54,48,55,48,56,48,57,49,48,49,49,49,50,49,51,49,52,49,53,49,54,49,55,49,56,49,57,50,48,50,49,50,50,50,51,50,52,50,53,50,54,50,55,50,56,50,57,51,48,51,49,51,50,51,51,51,52,51,53,51,54,51,55,51,56,51,57,52,48,52,49,52,50,52,51,52,52,52,53,52,54,52,55,52,56,52,57,53,48,53,49,53,50,53,51,53,52,53,53,53,54,53,55,53,56,53,57,54,48,54,49,54,50,54,51,54,52,54,53,54,54,54,55,54,56,54,57,55,48,55,49,55,50,55,51,55,52,55,53,55,54,55,55,55,56,55,57,56,48,56,49,56,50,56,51,56,52,56,53,56,54,56,55,56,56,56,57,57,48,57,49,57,50,57,51,57,52,57,53,57,54,57,55,57,56,57,57]:List UInt8).take (wr .i64 ((wr .i64 (x0 * 2)) + 2)).toNat).drop (wr .i64 (x0 * 2)).toNat)],kr,kr⟩
def LK:List AV->Option AV:=EN Fe (fun a=>Ey a.1) Fl
theorem LU:XOk 156 LK:=by
 refine Af Tryz.func156 (c:=Hq) ?h2 ⟨Tryz.call156⟩ Fe (fun a=>Ey a.1) Fl (fun a=>(by show 1<=15; decide)) ?h3 ?h4
 case h2=>kernel_rfl
 case h3=>intro b; kernel_rfl
 case h4=>exact fun a b h=>J7 a.1 b h
/- internal/strconv.FormatInt -/
noncomputable def Fp:Code:=Bg Tryz.f142
def Dh (x0:Int) (x1:Int):Option ((List UInt8)) :=
 if (x1==10)=true then
 (if (decide ((0:Int)<=x0))=true then some (decide (x0 < 100)) else some false).bind fun j3 =>
 if j3=true then
 (Ey x0).bind fun v5 =>
 some v5
 else
 none
 else
 none
def EK:Cs (Int×Int×Unit):=(csC cdI (csC cdI csN))
def EL (r:(List UInt8)):AV:=cdS.enc r
theorem IS (x0:Int) (x1:Int) (r:(List UInt8)) (h:Dh x0 x1=some r):Sem E0 ⟨none,false⟩ Fp ⟨Fr 54 (BG 0 (EK.enc (x0,x1,()))),[]⟩ fun e s'=>(e = .normal\/e = .ret)/\∃ xs,ED E0.P s'.fr s'.hp Tryz.f142.results.toList=some xs/\EJ xs=EL r:=by
 unfold Dh at h;refine BD (Bw (s1:=⟨Fr 54 [(0,.j x0),(1,.j x1)],[]⟩) AH ?_);refine AL AC [(0,.j x0),(1,.j x1)] [] ?_;refine AF ?_;refine AL AC [(0,.j x0),(11,.b (x1==10))] [] ?_;refine AN (b:=(x1==10)) kr (fun hb1=>?_) (fun hb1=>?_)
 ·rw [if_pos hb1] at h
  refine AF ?_;refine AF ?_;obtain ⟨j3,hj3,h⟩:=OB h;refine AJ (s1:=⟨Fr 54 [(0,.j x0),(17,.b j3)],[]⟩) ?_ ?_
  ·refine AD (n:=54) AC 3 [(0,.j x0),(14,.b (decide ((0:Int)<=x0)))] [] kr ?_
   rcases BE (decide ((0:Int)<=x0)) with hc6 | hc6
   ·rw [if_pos hc6] at hj3
    rw [hc6];refine AD (n:=54) AC 3 [(0,.j x0),(17,.b (decide (x0 < 100)))] [] kr ?_;have hq:=OI hj3; subst hq;exact AE rfl AH
   ·rw [Bu hc6] at hj3
    rw [hc6];refine AD (n:=54) AC 3 [(0,.j x0),(17,.b false)] [] kr ?_;have hq:=OI hj3; subst hq;exact AE rfl AH
  refine AN (b:=j3) kr (fun hb4=>?_) (fun hb4=>?_)
  ·rw [if_pos hb4] at h
   refine AF ?_;obtain ⟨v5,hv5,h⟩:=OB h;refine AJ (s1:=⟨Fr 54 [(4,.st v5)],[]⟩) ?_ ?_
   ·refine AD (n:=54) AC 1 [(18,.j x0)] [] kr ?_
    refine AO (caps:=[]) (xs:=[.j x0]) (u:=(x0,())) rfl rfl LU rfl (AB rfl) kr kr (AT (Ap (c:=cdI) (v:=x0)) Ay) (.inl kr) hv5 ?_;exact AW AC
   refine AS ?_;have hq:=OI h; subst hq;exact ⟨⟨Fr 54 [(4,.st v5)],[]⟩,AH,.inr rfl,[.st v5],kr,kr⟩
  ·rw [Bu hb4] at h
   refine AY ?_;refine AF ?_;cases h
 ·rw [Bu hb1] at h
  refine AY ?_;refine AF ?_;cases h
def I8:List AV->Option AV:=EN EK (fun a=>Dh a.1 a.2.1) EL
theorem I9:XOk 142 I8:=by
 refine Af Tryz.func142 (c:=Fp) ?h2 ⟨Tryz.call142⟩ EK (fun a=>Dh a.1 a.2.1) EL (fun a=>(by show 2<=54; decide)) ?h3 ?h4
 case h2=>kernel_rfl
 case h3=>intro b; kernel_rfl
 case h4=>exact fun a b h=>IS a.1 a.2.1 b h
/- internal/strconv.Itoa -/
noncomputable def H9:Code:=Bg Tryz.f113
def FW (x0:Int):Option ((List UInt8)) :=
 (Dh x0 10).bind fun v1 =>
 some v1
def GP:Cs (Int×Unit):=(csC cdI csN)
def GY (r:(List UInt8)):AV:=cdS.enc r
theorem KR (x0:Int) (r:(List UInt8)) (h:FW x0=some r):Sem E0 ⟨none,false⟩ H9 ⟨Fr 5 (BG 0 (GP.enc (x0,()))),[]⟩ fun e s'=>(e = .normal\/e = .ret)/\∃ xs,ED E0.P s'.fr s'.hp Tryz.f113.results.toList=some xs/\EJ xs=GY r:=by
 unfold FW at h;refine BD (Bw (s1:=⟨Fr 5 [(0,.j x0)],[]⟩) AH ?_);refine AL AC [(0,.j x0)] [] ?_;refine AF ?_;obtain ⟨v1,hv1,h⟩:=OB h;refine AJ (s1:=⟨Fr 5 [(2,.st v1)],[]⟩) ?_ ?_
 ·refine AD (n:=5) AC 1 [(3,.j x0)] [] kr ?_
  refine AO (caps:=[]) (xs:=[.j x0,.j 10]) (u:=(x0,10,())) rfl rfl I9 rfl (AB rfl) kr kr (AT (Ap (c:=cdI) (v:=x0)) (AT (Ap (c:=cdI) (v:=10)) Ay)) (.inl kr) hv1 ?_;exact AW AC
 refine AS ?_;have hq:=OI h; subst hq;exact ⟨⟨Fr 5 [(2,.st v1)],[]⟩,AH,.inr rfl,[.st v1],kr,kr⟩
def Lp:List AV->Option AV:=EN GP (fun a=>FW a.1) GY
theorem Ly:XOk 113 Lp:=by
 refine Af Tryz.func113 (c:=H9) ?h2 ⟨Tryz.call113⟩ GP (fun a=>FW a.1) GY (fun a=>(by show 1<=5; decide)) ?h3 ?h4
 case h2=>kernel_rfl
 case h3=>intro b; kernel_rfl
 case h4=>exact fun a b h=>KR a.1 b h
/- strconv.Itoa -/
noncomputable def H8:Code:=Bg Tryz.f73
def Cz (x0:Int):Option ((List UInt8)) :=
 (FW x0).bind fun v1 =>
 some v1
def GO:Cs (Int×Unit):=(csC cdI csN)
def GX (r:(List UInt8)):AV:=cdS.enc r
theorem KQ (x0:Int) (r:(List UInt8)) (h:Cz x0=some r):Sem E0 ⟨none,false⟩ H8 ⟨Fr 5 (BG 0 (GO.enc (x0,()))),[]⟩ fun e s'=>(e = .normal\/e = .ret)/\∃ xs,ED E0.P s'.fr s'.hp Tryz.f73.results.toList=some xs/\EJ xs=GX r:=by
 unfold Cz at h;refine BD (Bw (s1:=⟨Fr 5 [(0,.j x0)],[]⟩) AH ?_);refine AL AC [(0,.j x0)] [] ?_;refine AF ?_;obtain ⟨v1,hv1,h⟩:=OB h;refine AJ (s1:=⟨Fr 5 [(2,.st v1)],[]⟩) ?_ ?_
 ·refine AD (n:=5) AC 1 [(3,.j x0)] [] kr ?_
  refine AO (caps:=[]) (xs:=[.j x0]) (u:=(x0,())) rfl rfl Ly rfl (AB rfl) kr kr (AT (Ap (c:=cdI) (v:=x0)) Ay) (.inl kr) hv1 ?_;exact AW AC
 refine AS ?_;have hq:=OI h; subst hq;exact ⟨⟨Fr 5 [(2,.st v1)],[]⟩,AH,.inr rfl,[.st v1],kr,kr⟩
def Ln:List AV->Option AV:=EN GO (fun a=>Cz a.1) GX
theorem Lx:XOk 73 Ln:=by
 refine Af Tryz.func73 (c:=H8) ?h2 ⟨Tryz.call73⟩ GO (fun a=>Cz a.1) GX (fun a=>(by show 1<=5; decide)) ?h3 ?h4
 case h2=>kernel_rfl
 case h3=>intro b; kernel_rfl
 case h4=>exact fun a b h=>KQ a.1 b h
/- trestle/court.Format -/
noncomputable def CU:Code:=Bg Tryz.f27
def D2 (c7:(List UInt8)) (v9:AG):Option (((List UInt8))) :=
 if (!(v9.2.1==[]))=true then
 if (okB ([97,109,111,110,103,32]++v9.2.1))=true then
 if (okB (([97,109,111,110,103,32]++v9.2.1)++[32]))=true then
 if (decide (0 < (([97,109,111,110,103,32]++v9.2.1)++[32]).length))=true then
 if (Du 1 (c7.length + (([97,109,111,110,103,32]++v9.2.1)++[32]).length))=true then
 some (c7++(([97,109,111,110,103,32]++v9.2.1)++[32]))
 else none
 else none
 else none
 else none
 else
 some c7
def D3 (v9:AG) (r27:(List UInt8)) (v31:(List UInt8)) (j38:Bool):Option (((List UInt8))) :=
 if j38=true then
 (Cz v9.2.2.2.2).bind fun v57 =>
 if (okB ([32]++v57))=true then
 if (decide (0 < ([32]++v57).length))=true then
 if (Du 1 ((r27++v31).length + ([32]++v57).length))=true then
 some ((r27++v31)++([32]++v57))
 else none
 else none
 else none
 else
 some (r27++v31)
def Eg (v9:AG) (r65:(List UInt8)):Option (((List UInt8))) :=
 if v9.2.2.1=true then
 if (decide (0 < ([32,108,97,115,116]:List UInt8).length))=true then
 if (Du 1 (r65.length + ([32,108,97,115,116]:List UInt8).length))=true then
 some (r65++([32,108,97,115,116]:List UInt8))
 else none
 else none
 else
 if (decide (0 < ([32,102,105,114,115,116]:List UInt8).length))=true then
 if (Du 1 (r65.length + ([32,102,105,114,115,116]:List UInt8).length))=true then
 some (r65++([32,102,105,114,115,116]:List UInt8))
 else none
 else none
def D4 (v9:AG) (r65:(List UInt8)) (j69:Bool):Option (((List UInt8))) :=
 if j69=true then
 (Eg v9 r65).bind fun r100 =>
 some r100
 else
 some r65
def Bo (v9:AG):Nat->Int->(List UInt8)->Option (((List UInt8)))
 | 0,_,_=>none
 | f + 1,c108,c109 =>
  if (decide (c108 < (v9.2.2.2.1.length:Int)))=true then
  (idx v9.2.2.2.1 c108).bind fun v111 =>
  if (okB ([32]++v111))=true then
  if (decide (0 < ([32]++v111).length))=true then
  if (Du 1 (c109.length + ([32]++v111).length))=true then
  Bo v9 f (wr .i64 (c108 + 1)) (c109++([32]++v111))
  else none
  else none
  else none
  else
  some c109
def B5 (x0:(List AG)):Nat->Int->(List UInt8)->Option (((List UInt8)))
 | 0,_,_=>none
 | f + 1,c6,c7 =>
  if (decide (c6 < (x0.length:Int)))=true then
  (idx x0 c6).bind fun v9 =>
  (D2 c7 v9).bind fun r27 =>
  (FD v9.1).bind fun v31 =>
  if (decide (0 < v31.length))=true then
  if (Du 1 (r27.length + v31.length))=true then
  (if (v9.1==4)=true then some true else some (v9.1==10)).bind fun j38 =>
  (D3 v9 r27 v31 j38).bind fun r65 =>
  (if (decide (v9.1≥4))=true then some (decide (v9.1<=7)) else some false).bind fun j69 =>
  (D4 v9 r65 j69).bind fun r104 =>
  (Bo v9 100000 0 r104).bind fun r119 =>
  if (decide (0 < ([10]:List UInt8).length))=true then
  if (Du 1 (r119.length + ([10]:List UInt8).length))=true then
  B5 x0 f (wr .i64 (c6 + 1)) (r119++([10]:List UInt8))
  else none
  else none
  else none
  else none
  else
  some c7
def Dm (x0:(List AG)):Option ((List UInt8)) :=
 (ET x0).bind fun v1 =>
 if (v1.2 != 0)=true then
 some []
 else
 (B5 x0 100000 0 ([]:List UInt8)).bind fun r129 =>
 if (okB r129)=true then
 some r129
 else none
theorem JI {L:List Asn}{hp:Hp}(c7:(List UInt8)) (v9:AG) (x0:(List AG)) (e3:AV) (c6:Int) (e10:AV) (r:((List UInt8))) (h:D2 c7 v9=some r) (hT:T hp ((cel e10 5 70 (AA.enc v9))::(bld 103 e3 c7)::L)):SemY E0 ⟨none,false⟩ (pc CU [1,1,1,0,1,0,0,1,1,0,0,1,0,1]) ⟨Fr 74 [(5,e3),(7,e10),(17,.sl 5 (x0.map AA.enc)),(18,.j (x0.length:Int)),(19,.j c6),(25,.b (!(v9.2.1==[])))],hp⟩ (fun e s=>e = .normal/\∃ s2,(∃ (h':Hp),T h' ((bld 103 e3 r)::(cel e10 5 70 (AA.enc v9))::L)/\s2=⟨Fr 74 [(5,e3),(7,e10),(17,.sl 5 (x0.map AA.enc)),(18,.j (x0.length:Int)),(19,.j c6)],h'⟩)/\WkY E0 s s2):=by
 unfold D2 at h;refine GF (b:=(!(v9.2.1==[]))) kr (fun hb17=>?_) (fun hb17=>?_)
 ·rw [if_pos hb17] at h
  refine Ao ?_;refine Ai AC 0 rfl (Bi (AB rfl) rfl (Gh (a:=e10) kr (EI (off:=1) hT kr))) ?_;refine Ai AC 0 rfl (Bi (AB rfl) rfl (Eb (p:=IN e10 1) kr (Es (off:=1) (y:= .st v9.2.1) (m:=1) (g:=false) hT kr kr kr))) ?_;by_cases hk18:(okB ([97,109,111,110,103,32]++v9.2.1))=true
  case neg=>rw [if_neg hk18] at h; cases h
  rw [if_pos hk18] at h;refine Ai AC 0 rfl (Bi (AB rfl) rfl (Ed (a:= .st [97,109,111,110,103,32]) (b:= .st v9.2.1) kr kr (C8 hk18))) ?_;by_cases hk19:(okB (([97,109,111,110,103,32]++v9.2.1)++[32]))=true
  case neg=>rw [if_neg hk19] at h; cases h
  rw [if_pos hk19] at h;refine Ai AC 0 rfl (Bi (AB rfl) rfl (Ed (a:= .st ([97,109,111,110,103,32]++v9.2.1)) (b:= .st [32]) kr kr (C8 hk19))) ?_;by_cases hk20:(decide (0 < (([97,109,111,110,103,32]++v9.2.1)++[32]).length))=true
  case neg=>rw [if_neg hk20] at h; cases h
  rw [if_pos hk20] at h;by_cases hk21:(Du 1 (c7.length + (([97,109,111,110,103,32]++v9.2.1)++[32]).length))=true
  case neg=>rw [if_neg hk21] at h; cases h
  rw [if_pos hk21] at h
  have hT24:=(hT.front 1 rfl)
  refine ER rfl rfl hT24 hk20 hk21 rfl (AB rfl) kr kr ?_;intro hp22 hT23;refine Bh rfl ?_;have hq:=OI h; subst hq;exact ⟨rfl,_,⟨hp22,hT23,rfl⟩,WkY.f1⟩
 ·rw [Bu hb17] at h
  refine SemY.skip ?_;have hq:=OI h; subst hq
  have hT26:=(hT.front 1 rfl)
  exact ⟨rfl,_,⟨hp,hT26,rfl⟩,WkY.f1⟩
theorem JJ {L:List Asn}{hp:Hp}(v9:AG) (r27:(List UInt8)) (v31:(List UInt8)) (j38:Bool) (x0:(List AG)) (e3:AV) (c6:Int) (e10:AV) (r:((List UInt8))) (h:D3 v9 r27 v31 j38=some r) (hT:T hp ((bld 103 e3 (r27++v31))::(cel e10 5 70 (AA.enc v9))::L)):SemY E0 ⟨none,false⟩ (pc CU [1,1,1,0,1,0,0,1,1,0,0,1,1,1,0,1]) ⟨Fr 74 [(5,e3),(7,e10),(17,.sl 5 (x0.map AA.enc)),(18,.j (x0.length:Int)),(19,.j c6),(42,.b j38)],hp⟩ (fun e s=>e = .normal/\∃ s2,(∃ (h':Hp),T h' ((bld 103 e3 r)::(cel e10 5 70 (AA.enc v9))::L)/\s2=⟨Fr 74 [(5,e3),(7,e10),(17,.sl 5 (x0.map AA.enc)),(18,.j (x0.length:Int)),(19,.j c6)],h'⟩)/\WkY E0 s s2):=by
 unfold D3 at h;refine GF (b:=j38) kr (fun hb55=>?_) (fun hb55=>?_)
 ·rw [if_pos hb55] at h
  refine Ao ?_
  have hT56:=(hT.front 1 rfl)
  refine Ai AC 0 rfl (Bi (AB rfl) rfl (Gh (a:=e10) kr (EI (off:=4) hT56 kr))) ?_;refine Ai AC 0 rfl (Bi (AB rfl) rfl (Eb (p:=IN e10 4) kr (Es (off:=4) (y:= .j v9.2.2.2.2) (m:=1) (g:=false) hT56 kr kr kr))) ?_;obtain ⟨v57,hv57,h⟩:=OB h;refine Js (v:=v57) (caps:=[]) (xs:=[.j v9.2.2.2.2]) (u:=(v9.2.2.2.2,())) rfl rfl Lx rfl (AB rfl) kr kr (Jt (ML (c:=cdI) (v:=v9.2.2.2.2)) SeesD.nil) (.inl kr) hv57 ?_;by_cases hk58:(okB ([32]++v57))=true
  case neg=>rw [if_neg hk58] at h; cases h
  rw [if_pos hk58] at h;refine Ai AC 0 rfl (Bi (AB rfl) rfl (Ed (a:= .st [32]) (b:= .st v57) kr kr (C8 hk58))) ?_;by_cases hk59:(decide (0 < ([32]++v57).length))=true
  case neg=>rw [if_neg hk59] at h; cases h
  rw [if_pos hk59] at h;by_cases hk60:(Du 1 ((r27++v31).length + ([32]++v57).length))=true
  case neg=>rw [if_neg hk60] at h; cases h
  rw [if_pos hk60] at h
  have hT63:=(hT56.front 1 rfl)
  refine ER rfl rfl hT63 hk59 hk60 rfl (AB rfl) kr kr ?_;intro hp61 hT62;refine Bh rfl ?_;have hq:=OI h; subst hq;exact ⟨rfl,_,⟨hp61,hT62,rfl⟩,WkY.f1⟩
 ·rw [Bu hb55] at h
  refine SemY.skip ?_;have hq:=OI h; subst hq;exact ⟨rfl,_,⟨hp,hT,rfl⟩,WkY.f1⟩
theorem JL {L:List Asn}{hp:Hp}(v9:AG) (r65:(List UInt8)) (x0:(List AG)) (e3:AV) (c6:Int) (e10:AV) (r:((List UInt8))) (h:Eg v9 r65=some r) (hT:T hp ((cel e10 5 70 (AA.enc v9))::(bld 103 e3 r65)::L)):SemY E0 ⟨none,false⟩ (pc CU [1,1,1,0,1,0,0,1,1,0,0,1,1,1,1,0,1,0,1]) ⟨Fr 74 [(5,e3),(7,e10),(17,.sl 5 (x0.map AA.enc)),(18,.j (x0.length:Int)),(19,.j c6),(57,.b v9.2.2.1)],hp⟩ (fun e s=>e = .normal/\∃ s2,(∃ (h':Hp),T h' ((bld 103 e3 r)::(cel e10 5 70 (AA.enc v9))::L)/\s2=⟨Fr 74 [(5,e3),(7,e10),(17,.sl 5 (x0.map AA.enc)),(18,.j (x0.length:Int)),(19,.j c6)],h'⟩)/\WkY E0 s s2):=by
 unfold Eg at h;refine GF (b:=v9.2.2.1) kr (fun hb88=>?_) (fun hb88=>?_)
 ·rw [if_pos hb88] at h
  refine Ao ?_;by_cases hk89:(decide (0 < ([32,108,97,115,116]:List UInt8).length))=true
  case neg=>rw [if_neg hk89] at h; cases h
  rw [if_pos hk89] at h;by_cases hk90:(Du 1 (r65.length + ([32,108,97,115,116]:List UInt8).length))=true
  case neg=>rw [if_neg hk90] at h; cases h
  rw [if_pos hk90] at h
  have hT93:=(hT.front 1 rfl)
  refine ER rfl rfl hT93 hk89 hk90 rfl (AB rfl) kr kr ?_;intro hp91 hT92;refine Bh rfl ?_;have hq:=OI h; subst hq;exact ⟨rfl,_,⟨hp91,hT92,rfl⟩,WkY.f1⟩
 ·rw [Bu hb88] at h
  refine Ao ?_;by_cases hk95:(decide (0 < ([32,102,105,114,115,116]:List UInt8).length))=true
  case neg=>rw [if_neg hk95] at h; cases h
  rw [if_pos hk95] at h;by_cases hk96:(Du 1 (r65.length + ([32,102,105,114,115,116]:List UInt8).length))=true
  case neg=>rw [if_neg hk96] at h; cases h
  rw [if_pos hk96] at h
  have hT99:=(hT.front 1 rfl)
  refine ER rfl rfl hT99 hk95 hk96 rfl (AB rfl) kr kr ?_;intro hp97 hT98;refine Bh rfl ?_;have hq:=OI h; subst hq;exact ⟨rfl,_,⟨hp97,hT98,rfl⟩,WkY.f1⟩
theorem JK {L:List Asn}{hp:Hp}(v9:AG) (r65:(List UInt8)) (j69:Bool) (x0:(List AG)) (e3:AV) (c6:Int) (e10:AV) (r:((List UInt8))) (h:D4 v9 r65 j69=some r) (hT:T hp ((bld 103 e3 r65)::(cel e10 5 70 (AA.enc v9))::L)):SemY E0 ⟨none,false⟩ (pc CU [1,1,1,0,1,0,0,1,1,0,0,1,1,1,1,0,1]) ⟨Fr 74 [(5,e3),(7,e10),(17,.sl 5 (x0.map AA.enc)),(18,.j (x0.length:Int)),(19,.j c6),(55,.b j69)],hp⟩ (fun e s=>e = .normal/\∃ s2,(∃ (h':Hp),T h' ((bld 103 e3 r)::(cel e10 5 70 (AA.enc v9))::L)/\s2=⟨Fr 74 [(5,e3),(7,e10),(17,.sl 5 (x0.map AA.enc)),(18,.j (x0.length:Int)),(19,.j c6)],h'⟩)/\WkY E0 s s2):=by
 unfold D4 at h;refine GF (b:=j69) kr (fun hb86=>?_) (fun hb86=>?_)
 ·rw [if_pos hb86] at h
  refine BW ?_;refine Ao ?_
  have hT87:=(hT.front 1 rfl)
  refine Ai AC 0 rfl (Bi (AB rfl) rfl (Gh (a:=e10) kr (EI (off:=2) hT87 kr))) ?_;refine Ai AC 0 rfl (Bi (AB rfl) rfl (Eb (p:=IN e10 2) kr (Es (off:=2) (y:= .b v9.2.2.1) (m:=1) (g:=false) hT87 kr kr kr))) ?_;refine Bh rfl (SemY.fr (l':=[(5,e3),(7,e10),(17,.sl 5 (x0.map AA.enc)),(18,.j (x0.length:Int)),(19,.j c6),(57,.b v9.2.2.1)]) kr ?_);obtain ⟨r100,hr100,h⟩:=OB h;refine H0 (JL v9 r65 x0 e3 c6 e10 _ hr100 hT87) ?_;rintro _ ⟨hp101,hT102,rfl⟩;have hq:=OI h; subst hq;exact ⟨rfl,_,⟨hp101,hT102,rfl⟩,WkY.f1⟩
 ·rw [Bu hb86] at h
  refine SemY.skip ?_;have hq:=OI h; subst hq;exact ⟨rfl,_,⟨hp,hT,rfl⟩,WkY.f1⟩
theorem JN {L:List Asn}(v9:AG) (x0:(List AG)) (e3:AV) (c6:Int):∀ (f:Nat) (c108:Int) (c109:(List UInt8)) (r:((List UInt8))),Bo v9 f c108 c109=some r->∀ (hp:Hp),T hp ((bld 103 e3 c109)::L)->SemYN E0 ⟨none,false⟩ (pc CU [1,1,1,0,1,0,0,1,1,0,0,1,1,1,1,1,0,1,0,0]) f ⟨Fr 74 [(5,e3),(17,.sl 5 (x0.map AA.enc)),(18,.j (x0.length:Int)),(19,.j c6),(61,.sl 1 (v9.2.2.2.1.map cdS.enc)),(62,.j (v9.2.2.2.1.length:Int)),(63,.j c108)],hp⟩ (fun e s=>e=(.exit 2)/\∃ s2,(∃ (h':Hp),T h' ((bld 103 e3 r)::L)/\s2=⟨Fr 74 [(5,e3),(17,.sl 5 (x0.map AA.enc)),(18,.j (x0.length:Int)),(19,.j c6)],h'⟩)/\WkY E0 s s2):=by
 intro f;induction f with
 | zero=>intro c108 c109 r h; cases h
 | succ f ih0 =>
  intro c108 c109 r h  hp hT;unfold Bo at h;refine L3 ?_
  let p1:Nat×AV:=(63,.j c108)
  let p2:Nat×AV:=(62,.j (v9.2.2.2.1.length:Int))
  let p3:Nat×AV:=(61,.sl 1 (v9.2.2.2.1.map cdS.enc))
  let p4:Nat×AV:=(19,.j c6)
  let p5:Nat×AV:=(18,.j (x0.length:Int))
  let p6:Nat×AV:=(17,.sl 5 (x0.map AA.enc))
  refine GG AC [(5,e3),p6,p5,p4,p3,p2,p1,(64,.b (decide (c108 < (v9.2.2.2.1.length:Int))))] ?_;refine BW ?_;refine GF (b:=(decide (c108 < (v9.2.2.2.1.length:Int)))) kr (fun hb110=>?_) (fun hb110=>?_)
  ·rw [if_pos hb110] at h
   refine SemY.skip ?_;refine BW ?_;refine IV ?_;refine BW ?_;refine Ao ?_;obtain ⟨v111,hv111,h⟩:=OB h;refine Ai AC 0 rfl (Bi (AB rfl) rfl (AZ (a:= .sl 1 (v9.2.2.2.1.map cdS.enc)) (b:= .j c108) kr kr (Dc (e:=cdS.enc) (el:=9) (k:=1) (ki:= .i64) kr kr hv111))) ?_;refine FN AC [(5,e3),(9,.st v111),p6,p5,p4,p3,p2,p1] ?_;refine Ao ?_;refine DL AC 1 ?_;by_cases hk112:(okB ([32]++v111))=true
   case neg=>rw [if_neg hk112] at h; cases h
   rw [if_pos hk112] at h;refine Ai AC 0 rfl (Bi (AB rfl) rfl (Ed (a:= .st [32]) (b:= .st v111) kr kr (C8 hk112))) ?_;by_cases hk113:(decide (0 < ([32]++v111).length))=true
   case neg=>rw [if_neg hk113] at h; cases h
   rw [if_pos hk113] at h;by_cases hk114:(Du 1 (c109.length + ([32]++v111).length))=true
   case neg=>rw [if_neg hk114] at h; cases h
   rw [if_pos hk114] at h;refine ER rfl rfl hT hk113 hk114 rfl (AB rfl) kr kr ?_;intro hp115 hT116;refine Bh rfl (SemY.fr (l':=[(5,e3),p6,p5,p4,p3,p2,p1]) kr ?_);refine Ao ?_;refine DL AC 2 ?_;refine Bh rfl ?_;exact KX WkY.f1 (ih0 (wr .i64 (c108 + 1)) (c109++([32]++v111)) _ h  hp115 hT116)
  ·rw [Bu hb110] at h
   refine SemY.exit ?_;have hq:=OI h; subst hq;exact ⟨rfl,_,⟨hp,hT,rfl⟩,WkY.f1⟩
theorem JM {L:List Asn}(x0:(List AG)) (e3:AV):∀ (f:Nat) (c6:Int) (c7:(List UInt8)) (r:((List UInt8))),B5 x0 f c6 c7=some r->∀ (hp:Hp),T hp ((bld 103 e3 c7)::L)->SemYN E0 ⟨none,false⟩ (pc CU [1,1,1,0,1,0,0]) f ⟨Fr 74 [(5,e3),(17,.sl 5 (x0.map AA.enc)),(18,.j (x0.length:Int)),(19,.j c6)],hp⟩ (fun e s=>e=(.exit 0)/\∃ s2,(∃ (h':Hp),T h' ((bld 103 e3 r)::L)/\s2=⟨Fr 74 [(5,e3)],h'⟩)/\WkY E0 s s2):=by
 intro f;induction f with
 | zero=>intro c6 c7 r h; cases h
 | succ f ih0 =>
  intro c6 c7 r h  hp hT;unfold B5 at h;refine L3 ?_;refine GG AC [(5,e3),(17,.sl 5 (x0.map AA.enc)),(18,.j (x0.length:Int)),(19,.j c6),(20,.b (decide (c6 < (x0.length:Int))))] ?_;refine BW ?_;refine GF (b:=(decide (c6 < (x0.length:Int)))) kr (fun hb8=>?_) (fun hb8=>?_)
  ·rw [if_pos hb8] at h
   refine SemY.skip ?_;refine BW ?_;refine IV ?_;refine BW ?_;refine Ao ?_;obtain ⟨v9,hv9,h⟩:=OB h;refine Ai AC 0 rfl (Bi (AB rfl) rfl (AZ (a:= .sl 5 (x0.map AA.enc)) (b:= .j c6) kr kr (Dc (e:=AA.enc) (el:=70) (k:=5) (ki:= .i64) kr kr hv9))) ?_;refine DL AC 1 ?_;obtain ⟨e10,hp11,hb12,hT13⟩:=Pi (t:=70) (a:= .ag [.v (.int .u8 0),.st [],.b false,.e0,.j 0]) hT kr;refine Ai AC 0 rfl (Us (AB rfl) rfl kr (SX (z:= .ag [.v (.int .u8 0),.st [],.b false,.e0,.j 0]) kr hb12)) ?_;obtain ⟨hp14,hs15,hT16⟩:=Sj (P:=Tryz.prog) (ty:=70) (y:=(AA.enc v9)) (a':=(AA.enc v9)) hT13 kr kr kr;refine RunL.store AC (y:=e10) (z:=(AA.enc v9)) rfl (AB rfl) kr kr hs15 ?_;refine Bh rfl (SemY.fr (l':=[(5,e3),(7,e10),(17,.sl 5 (x0.map AA.enc)),(18,.j (x0.length:Int)),(19,.j c6)]) kr ?_);refine BW ?_;refine BW ?_;refine Ao ?_;refine Ai AC 0 rfl (Bi (AB rfl) rfl (Gh (a:=e10) kr (EI (off:=1) hT16 kr))) ?_;refine Ai AC 0 rfl (Bi (AB rfl) rfl (Eb (p:=IN e10 1) kr (Es (off:=1) (y:= .st v9.2.1) (m:=1) (g:=false) hT16 kr kr kr))) ?_;refine FN AC [(5,e3),(7,e10),(17,.sl 5 (x0.map AA.enc)),(18,.j (x0.length:Int)),(19,.j c6),(25,.b (!(v9.2.1==[])))] ?_;obtain ⟨r27,hr27,h⟩:=OB h;refine H0 (JI c7 v9 x0 e3 c6 e10 _ hr27 hT16) ?_;rintro _ ⟨hp28,hT29,rfl⟩;refine BW ?_;refine Ao ?_
   have hT30:=(hT29.front 1 rfl)
   refine Ai AC 0 rfl (Bi (AB rfl) rfl (Gh (a:=e10) kr (EI (off:=0) hT30 kr))) ?_;refine Ai AC 0 rfl (Bi (AB rfl) rfl (Eb (p:=IN e10 0) kr (Es (off:=0) (y:= .v (.int .u8 v9.1)) (m:=1) (g:=false) hT30 kr kr kr))) ?_;obtain ⟨v31,hv31,h⟩:=OB h;refine Js (v:=v31) (caps:=[]) (xs:=[.v (.int .u8 v9.1)]) (u:=(v9.1,())) rfl rfl Nf rfl (AB rfl) kr kr (Jt (ML (c:=(cdK .u8)) (v:=v9.1)) SeesD.nil) (.inl kr) hv31 ?_;by_cases hk32:(decide (0 < v31.length))=true
   case neg=>rw [if_neg hk32] at h; cases h
   rw [if_pos hk32] at h;by_cases hk33:(Du 1 (r27.length + v31.length))=true
   case neg=>rw [if_neg hk33] at h; cases h
   rw [if_pos hk33] at h
   have hT36:=(hT30.front 1 rfl)
   refine ER rfl rfl hT36 hk32 hk33 rfl (AB rfl) kr kr ?_;intro hp34 hT35;refine Bh rfl (SemY.fr (l':=[(5,e3),(7,e10),(17,.sl 5 (x0.map AA.enc)),(18,.j (x0.length:Int)),(19,.j c6)]) kr ?_);refine BW ?_;refine BW ?_;obtain ⟨j38,hj38,h⟩:=OB h;refine M6 (A:=fun s1=>∃ (h':Hp),T h' ((bld 103 e3 (r27++v31))::(cel e10 5 70 (AA.enc v9))::L)/\s1=⟨Fr 74 [(5,e3),(7,e10),(17,.sl 5 (x0.map AA.enc)),(18,.j (x0.length:Int)),(19,.j c6),(42,.b j38)],h'⟩) ?_ ?_
   ·have hT37:=(hT35.front 1 rfl)
    refine Ai AC 0 rfl (Bi (AB rfl) rfl (Gh (a:=e10) kr (EI (off:=0) hT37 kr))) ?_;refine Ai AC 0 rfl (Bi (AB rfl) rfl (Eb (p:=IN e10 0) kr (Es (off:=0) (y:= .v (.int .u8 v9.1)) (m:=1) (g:=false) hT37 kr kr kr))) ?_;refine Kk (n:=74) AC 2 [(5,e3),(7,e10),(17,.sl 5 (x0.map AA.enc)),(18,.j (x0.length:Int)),(19,.j c6),(38,.b (v9.1==4))] hp34 kr ?_;rcases BE (v9.1==4) with hc127 | hc127
    ·rw [if_pos hc127] at hj38
     rw [hc127];refine DL AC 4 ?_;have hq:=OI hj38; subst hq
     have hT51:=(hT37.front 1 rfl)
     exact Bh rfl ⟨_,⟨hp34,hT51,rfl⟩,WkY.f1⟩
    ·rw [Bu hc127] at hj38
     rw [hc127];refine Ai AC 0 rfl (Bi kr rfl (Gh (a:=e10) kr (EI (off:=0) hT37 kr))) ?_;refine Ai AC 0 rfl (Bi kr rfl (Eb (p:=IN e10 0) kr (Es (off:=0) (y:= .v (.int .u8 v9.1)) (m:=1) (g:=false) hT37 kr kr kr))) ?_;refine DL AC 2 ?_;have hq:=OI hj38; subst hq
     have hT52:=(hT37.front 1 rfl)
     exact Bh rfl ⟨_,⟨hp34,hT52,rfl⟩,WkY.f1⟩
   rintro _ ⟨hp53,hT54,rfl⟩;obtain ⟨r65,hr65,h⟩:=OB h;refine H0 (JJ v9 r27 v31 j38 x0 e3 c6 e10 _ hr65 hT54) ?_;rintro _ ⟨hp66,hT67,rfl⟩;refine BW ?_;refine BW ?_;obtain ⟨j69,hj69,h⟩:=OB h;refine M6 (A:=fun s1=>∃ (h':Hp),T h' ((bld 103 e3 r65)::(cel e10 5 70 (AA.enc v9))::L)/\s1=⟨Fr 74 [(5,e3),(7,e10),(17,.sl 5 (x0.map AA.enc)),(18,.j (x0.length:Int)),(19,.j c6),(55,.b j69)],h'⟩) ?_ ?_
   ·have hT68:=(hT67.front 1 rfl)
    refine Ai AC 0 rfl (Bi (AB rfl) rfl (Gh (a:=e10) kr (EI (off:=0) hT68 kr))) ?_;refine Ai AC 0 rfl (Bi (AB rfl) rfl (Eb (p:=IN e10 0) kr (Es (off:=0) (y:= .v (.int .u8 v9.1)) (m:=1) (g:=false) hT68 kr kr kr))) ?_;refine Kk (n:=74) AC 2 [(5,e3),(7,e10),(17,.sl 5 (x0.map AA.enc)),(18,.j (x0.length:Int)),(19,.j c6),(51,.b (decide (v9.1≥4)))] hp66 kr ?_;rcases BE (decide (v9.1≥4)) with hc126 | hc126
    ·rw [if_pos hc126] at hj69
     rw [hc126];refine Ai AC 0 rfl (Bi kr rfl (Gh (a:=e10) kr (EI (off:=0) hT68 kr))) ?_;refine Ai AC 0 rfl (Bi kr rfl (Eb (p:=IN e10 0) kr (Es (off:=0) (y:= .v (.int .u8 v9.1)) (m:=1) (g:=false) hT68 kr kr kr))) ?_;refine DL AC 2 ?_;have hq:=OI hj69; subst hq
     have hT82:=(hT68.front 1 rfl)
     exact Bh rfl ⟨_,⟨hp66,hT82,rfl⟩,WkY.f1⟩
    ·rw [Bu hc126] at hj69
     rw [hc126];refine DL AC 4 ?_;have hq:=OI hj69; subst hq
     have hT83:=(hT68.front 1 rfl)
     exact Bh rfl ⟨_,⟨hp66,hT83,rfl⟩,WkY.f1⟩
   rintro _ ⟨hp84,hT85,rfl⟩;obtain ⟨r104,hr104,h⟩:=OB h;refine H0 (JK v9 r65 j69 x0 e3 c6 e10 _ hr104 hT85) ?_;rintro _ ⟨hp105,hT106,rfl⟩;refine BW ?_;refine BW ?_;refine Ao ?_
   have hT107:=(hT106.front 1 rfl)
   refine Ai AC 0 rfl (Bi (AB rfl) rfl (Gh (a:=e10) kr (EI (off:=3) hT107 kr))) ?_;refine Ai AC 0 rfl (Bi (AB rfl) rfl (Eb (p:=IN e10 3) kr (Es (off:=3) (y:= .sl 1 (v9.2.2.2.1.map cdS.enc)) (m:=1) (g:=false) hT107 kr kr kr))) ?_;refine Ai AC 0 rfl (Bi (AB rfl) rfl (EG (a:= .sl 1 (v9.2.2.2.1.map cdS.enc)) kr (Cn (el:=9) kr))) ?_;refine FN AC [(5,e3),(17,.sl 5 (x0.map AA.enc)),(18,.j (x0.length:Int)),(19,.j c6),(61,.sl 1 (v9.2.2.2.1.map cdS.enc)),(62,.j (v9.2.2.2.1.length:Int)),(63,.j 0)] ?_;refine IV ?_
   have hT118:=hT107.drop
   refine SemY.loop (n:=100000) ?_;obtain ⟨r119,hr119,h⟩:=OB h;refine L2 (KX WkY.f1 (JN v9 x0 e3 c6 _ 0 r104 _ hr119  hp105 hT118)) ?_;rintro _ ⟨hp120,hT121,rfl⟩;refine Ao ?_;by_cases hk122:(decide (0 < ([10]:List UInt8).length))=true
   case neg=>rw [if_neg hk122] at h; cases h
   rw [if_pos hk122] at h;by_cases hk123:(Du 1 (r119.length + ([10]:List UInt8).length))=true
   case neg=>rw [if_neg hk123] at h; cases h
   rw [if_pos hk123] at h;refine ER rfl rfl hT121 hk122 hk123 rfl (AB rfl) kr kr ?_;intro hp124 hT125;refine Bh rfl (SemY.fr (l':=[(5,e3),(17,.sl 5 (x0.map AA.enc)),(18,.j (x0.length:Int)),(19,.j c6)]) kr ?_);refine Ao ?_;refine DL AC 2 ?_;refine Bh rfl ?_;exact KX WkY.f1 (ih0 (wr .i64 (c6 + 1)) (r119++([10]:List UInt8)) _ h  hp124 hT125)
  ·rw [Bu hb8] at h
   refine SemY.exit ?_;have hq:=OI h; subst hq;exact ⟨rfl,_,⟨hp,hT,rfl⟩,WkY.f1⟩
theorem KI {L:List Asn}{hp:Hp}(x0:(List AG)) (r:(List UInt8)) (h:Dm x0=some r) (hT:T hp (L)):SemY E0 ⟨none,false⟩ CU ⟨Fr 74 (BG 0 [.sl 5 (x0.map AA.enc)]),hp⟩ fun x s'=>(x = .normal\/x = .ret)/\∃ ys,ED E0.P s'.fr s'.hp Tryz.f27.results.toList=some ys/\(fun v h'=>v = .st r/\T h' (L)) (EJ ys) s'.hp:=by
 unfold Dm at h
 let p1:Nat×AV:=(0,.sl 5 (x0.map AA.enc))
 refine HM (H1 (s1:=⟨Fr 74 [p1],hp⟩) WkY.f1 ?_);refine GG AC [p1] ?_;refine BW ?_;refine BW ?_;refine Ao ?_;refine DL AC 1 ?_;obtain ⟨v1,hv1,h⟩:=OB h;refine Js (v:=v1) (caps:=[]) (xs:=[.sl 5 (x0.map AA.enc)]) (u:=(x0,())) rfl rfl Mu rfl (AB rfl) kr kr (Jt (ML (c:=(cdL 5 AA)) (v:=x0)) SeesD.nil) (.inl kr) hv1 ?_;refine FN AC [p1,(4,.j v1.2)] ?_;refine GG AC [p1,(16,.b (v1.2 != 0))] ?_;refine GF (b:=(v1.2 != 0)) kr (fun hb2=>?_) (fun hb2=>?_)
 ·rw [if_pos hb2] at h
  refine GG AC [(2,.st [])] ?_;refine SemY.ret ?_;have hq:=OI h; subst hq;exact ⟨⟨Fr 74 [(2,.st [])],hp⟩,WkY.f1,.inr rfl,[.st []],kr,⟨rfl,hT⟩⟩
 ·rw [Bu hb2] at h
  refine SemY.skip ?_;refine BW ?_;refine Ao ?_;refine Nn (ty:=103) hT rfl (AB rfl) kr kr ?_;intro e3 hp4 hT5;refine Bh rfl (SemY.fr (l':=[p1,(5,e3)]) kr ?_);refine BW ?_;refine BW ?_;refine Ao ?_;refine DL AC 1 ?_;refine Ai AC 0 rfl (Bi (AB rfl) rfl (EG (a:= .sl 5 (x0.map AA.enc)) kr (Cn (el:=70) kr))) ?_;refine FN AC [(5,e3),(17,.sl 5 (x0.map AA.enc)),(18,.j (x0.length:Int)),(19,.j 0)] ?_;refine IV ?_;refine SemY.loop (n:=100000) ?_;obtain ⟨r129,hr129,h⟩:=OB h;refine L2 (KX WkY.f1 (JM x0 e3 _ 0 ([]:List UInt8) _ hr129  hp4 hT5)) ?_;rintro _ ⟨hp130,hT131,rfl⟩;refine BW ?_;refine Ao ?_;by_cases hk132:(okB r129)=true
  case neg=>rw [if_neg hk132] at h; cases h
  rw [if_pos hk132] at h;refine M5 rfl rfl hT131 hk132 rfl (AB rfl) kr kr ?_;intro hp133 hT134;refine FN AC [(2,.st r129)] ?_;refine SemY.ret ?_;have hq:=OI h; subst hq;exact ⟨⟨Fr 74 [(2,.st r129)],hp133⟩,WkY.f1,.inr rfl,[.st r129],kr,⟨rfl,hT134⟩⟩
def IA:Cs ((List AG)×Unit):=(csC (cdL 5 AA) csN)
def ID (r:(List UInt8)):AV:=cdS.enc r
def Li:List AV->Option AV:=EN IA (fun a=>Dm a.1) ID
theorem Ls:XOk 27 Li:=by
 refine Af Tryz.func27 (c:=CU) ?h2 ⟨Tryz.call27⟩ IA (fun a=>Dm a.1) ID (fun a=>(by show 1<=74; decide)) ?h3 ?h4
 case h2=>kernel_rfl
 case h3=>intro b; kernel_rfl
 case h4 =>
  intro a b h;refine Sem.mono (Ro (KI (L:=[]) (hp:=[]) a.1 b h T.nil)) fun e s' hs=>?_
  obtain ⟨h1,ys,h2,h3,-⟩:=hs;exact ⟨h1,ys,h2,h3⟩
/- slices.Equal[[]string,string] -/
noncomputable def Cc:Code:=Bg Tryz.f125
def Bc (x0:(List (List UInt8))) (x1:(List (List UInt8))):Nat->Int->Option ((Unit) ⊕ (Bool))
 | 0,_=>none
 | f + 1,c2 =>
  if (decide (c2 < (x0.length:Int)))=true then
  (idx x0 c2).bind fun v4 =>
  (idx x1 c2).bind fun v5 =>
  if (!(v4==v5))=true then
  some (.inr false)
  else
  Bc x0 x1 f (wr .i64 (c2 + 1))
  else
  some (.inl ())
def BF (x0:(List (List UInt8))) (x1:(List (List UInt8))):Option (Bool) :=
 if ((x0.length:Int)!=(x1.length:Int))=true then
 some false
 else
 (Bc x0 x1 100000 0).bind fun r8 =>
 match r8 with
 | (.inl w9) =>
  some true
 | (.inr w10) =>
  some w10
def Cg:Cs ((List (List UInt8))×(List (List UInt8))×Unit):=(csC (cdL 1 cdS) (csC (cdL 1 cdS) csN))
def Ci (r:Bool):AV:=cdB.enc r
theorem DW (x0:(List (List UInt8))) (x1:(List (List UInt8))):∀ (f:Nat) (c2:Int) (r:(Unit) ⊕ (Bool)),Bc x0 x1 f c2=some r->SemN E0 ⟨none,false⟩ (pc Cc [1,1,0,1,0,0]) f ⟨Fr 26 [(0,.sl 1 (x0.map cdS.enc)),(1,.sl 1 (x1.map cdS.enc)),(12,.j (x0.length:Int)),(13,.j c2)],[]⟩ (fun e s=>match r with
 | (.inl w)=>e=(.exit 0)/\Wk E0 s ⟨Fr 26 [],[]⟩
 | (.inr w)=>e = .ret/\Wk E0 s ⟨Fr 26 [(4,.b w)],[]⟩):=by
 intro f;induction f with
 | zero=>intro c2 r h; cases h
 | succ f ih0 =>
  intro c2 r h
  have ih:=fun (c2:Int)=>ih0 c2 r
  unfold Bc at h;refine CF ?_
  let p1:Nat×AV:=(13,.j c2)
  let p2:Nat×AV:=(12,.j (x0.length:Int))
  let p3:Nat×AV:=(1,.sl 1 (x1.map cdS.enc))
  let p4:Nat×AV:=(0,.sl 1 (x0.map cdS.enc))
  refine AL AC [p4,p3,p2,p1,(14,.b (decide (c2 < (x0.length:Int))))] [] ?_;refine AF ?_;refine AN (b:=(decide (c2 < (x0.length:Int)))) kr (fun hb3=>?_) (fun hb3=>?_)
  ·rw [if_pos hb3] at h
   refine AY ?_;refine AF ?_;refine Aq ?_;refine AL AC [p4,p3,(5,.j c2),p2,p1] [] ?_;refine AF ?_;obtain ⟨v4,hv4,h⟩:=OB h;obtain ⟨v5,hv5,h⟩:=OB h;refine JA AC (s1:=⟨Fr 26 [p4,p3,p2,p1,(24,.b (!(v4==v5)))],[]⟩) kr ?_ ?_
   ·refine B4 (n:=26) AC 2 [p4,p3,(5,.j c2),p2,p1,(16,.sl 1 (x0.map cdS.enc)),(17,.j c2)] [] kr kr ?_
    refine RunDS.one AC rfl kr (If kr (AB rfl) rfl (AZ (a:= .sl 1 (x0.map cdS.enc)) (b:= .j c2) kr kr (Dc (e:=cdS.enc) (el:=9) (k:=1) (ki:= .i64) kr kr hv4)) kr) ?_;refine B4 (n:=26) AC 3 [p4,p3,p2,p1,(19,.st v4),(20,.sl 1 (x1.map cdS.enc)),(21,.j c2)] [] kr kr ?_;refine RunDS.one AC rfl kr (If kr (AB rfl) rfl (AZ (a:= .sl 1 (x1.map cdS.enc)) (b:= .j c2) kr kr (Dc (e:=cdS.enc) (el:=9) (k:=1) (ki:= .i64) kr kr hv5)) kr) ?_;refine B4 (n:=26) AC 2 [p4,p3,p2,p1,(24,.b (!(v4==v5)))] [] kr kr ?_;exact RunDS.done rfl AH
   refine AN (b:=(!(v4==v5))) kr (fun hb6=>?_) (fun hb6=>?_)
   ·rw [if_pos hb6] at h
    refine AL AC [(4,.b false)] [] ?_;refine AS ?_;have hq:=OI h; subst hq;exact ⟨rfl,AH⟩
   ·rw [Bu hb6] at h
    refine AY ?_
    let p5:Nat×AV:=(13,.j (wr .i64 (c2 + 1)))
    refine DE AC [p4,p3,p2,p5] [] ?_;exact Aw (s1:=⟨Fr 26 [p4,p3,p2,p5],[]⟩) AH (ih (wr .i64 (c2 + 1)) h)
  ·rw [Bu hb3] at h
   refine Co ?_;have hq:=OI h; subst hq;exact ⟨rfl,AH⟩
theorem FU (x0:(List (List UInt8))) (x1:(List (List UInt8))) (r:Bool) (h:BF x0 x1=some r):Sem E0 ⟨none,false⟩ Cc ⟨Fr 26 (BG 0 (Cg.enc (x0,x1,()))),[]⟩ fun e s'=>(e = .normal\/e = .ret)/\∃ xs,ED E0.P s'.fr s'.hp Tryz.f125.results.toList=some xs/\EJ xs=Ci r:=by
 unfold BF at h
 let p1:Nat×AV:=(1,.sl 1 (x1.map cdS.enc))
 let p2:Nat×AV:=(0,.sl 1 (x0.map cdS.enc))
 refine BD (Bw (s1:=⟨Fr 26 [p2,p1],[]⟩) AH ?_);refine AL AC [p2,p1] [] ?_;refine AF ?_;refine AF ?_;refine AJ (s1:=⟨Fr 26 [p2,p1,(10,.b ((x0.length:Int)!=(x1.length:Int)))],[]⟩) ?_ ?_
 ·refine AD (n:=26) AC 1 [p2,p1,(6,.sl 1 (x0.map cdS.enc))] [] kr ?_
  refine AK AC 0 rfl (Bi (AB rfl) rfl (EG (a:= .sl 1 (x0.map cdS.enc)) kr (Cn (el:=9) kr))) ?_;refine AD (n:=26) AC 1 [p2,p1,(7,.j (x0.length:Int)),(8,.sl 1 (x1.map cdS.enc))] [] kr ?_;refine AK AC 0 rfl (Bi (AB rfl) rfl (EG (a:= .sl 1 (x1.map cdS.enc)) kr (Cn (el:=9) kr))) ?_;exact AW AC
 refine AN (b:=((x0.length:Int)!=(x1.length:Int))) kr (fun hb1=>?_) (fun hb1=>?_)
 ·rw [if_pos hb1] at h
  refine AL AC [(4,.b false)] [] ?_;refine AS ?_;have hq:=OI h; subst hq;exact ⟨⟨Fr 26 [(4,.b false)],[]⟩,AH,.inr rfl,[.b false],kr,kr⟩
 ·rw [Bu hb1] at h
  refine AY ?_;refine AF ?_;refine AF ?_
  let p3:Nat×AV:=(13,.j 0)
  let p4:Nat×AV:=(12,.j (x0.length:Int))
  refine AJ (s1:=⟨Fr 26 [p2,p1,p4,p3],[]⟩) ?_ ?_
  ·refine AD (n:=26) AC 1 [p2,p1,(11,.sl 1 (x0.map cdS.enc))] [] kr ?_
   refine AK AC 0 rfl (Bi (AB rfl) rfl (EG (a:= .sl 1 (x0.map cdS.enc)) kr (Cn (el:=9) kr))) ?_;exact AW AC
  refine Aq ?_;obtain ⟨r8,hr8,h⟩:=OB h;refine Cp (n:=100000) ?_;rcases r8 with w9 | w10
  ·try dsimp only at h
   refine BH (Aw (s1:=⟨Fr 26 [p2,p1,p4,p3],[]⟩) AH (DW x0 x1 _ 0 _ hr8)) ?_;refine AL AC [(4,.b true)] [] ?_;refine AS ?_;have hq:=OI h; subst hq;exact ⟨⟨Fr 26 [(4,.b true)],[]⟩,AH,.inr rfl,[.b true],kr,kr⟩
  ·try dsimp only at h
   refine BH (Aw (s1:=⟨Fr 26 [p2,p1,p4,p3],[]⟩) AH (DW x0 x1 _ 0 _ hr8)) ?_;have hq:=OI h; subst hq;exact ⟨⟨Fr 26 [(4,.b w10)],[]⟩,AH,.inr rfl,[.b w10],kr,kr⟩
def F6:List AV->Option AV:=EN Cg (fun a=>BF a.1 a.2.1) Ci
theorem F8:XOk 125 F6:=by
 refine Af Tryz.func125 (c:=Cc) ?h2 ⟨Tryz.call125⟩ Cg (fun a=>BF a.1 a.2.1) Ci (fun a=>(by show 2<=26; decide)) ?h3 ?h4
 case h2=>kernel_rfl
 case h3=>intro b; kernel_rfl
 case h4=>exact fun a b h=>FU a.1 a.2.1 b h
/- trestle/trestlelaw03.SameClause -/
noncomputable def GH:Code:=Bg Tryz.f81
def CJ (x0:AG) (x1:AG):Option (Bool) :=
 (if (x0.1==x1.1)=true then if (x0.2.1==x1.2.1)=true then if (x0.2.2.1==x1.2.2.1)=true then if (x0.2.2.2.2==x1.2.2.2.2)=true then (BF x0.2.2.2.1 x1.2.2.2.1).bind fun v1 =>
 some v1 else some false else some false else some false else some false).bind fun j3 =>
 some j3
def EV:Cs (AG×AG×Unit):=(csC AA (csC AA csN))
def EW (r:Bool):AV:=cdB.enc r
theorem Ie (x0:AG) (x1:AG) (r:Bool) (h:CJ x0 x1=some r):Sem E0 ⟨none,false⟩ GH ⟨Fr 38 (BG 0 (EV.enc (x0,x1,()))),[]⟩ fun e s'=>(e = .normal\/e = .ret)/\∃ xs,ED E0.P s'.fr s'.hp Tryz.f81.results.toList=some xs/\EJ xs=EW r:=by
 unfold CJ at h;refine BD (Bw (s1:=⟨Fr 38 [(0,AA.enc x0),(1,AA.enc x1)],[]⟩) AH ?_);refine AL AC [(2,.pt 0 0 0),(3,.pt 1 0 0)] [some ⟨5,70,[AA.enc x0],false⟩,some ⟨5,70,[AA.enc x1],false⟩] ?_;refine AF ?_;obtain ⟨j3,hj3,h⟩:=OB h;refine AJ (s1:=⟨Fr 38 [(4,.b j3)],[]⟩) ?_ ?_
 ·refine AD (n:=38) AC 6 [(2,.pt 0 0 0),(3,.pt 1 0 0),(10,.b (x0.1==x1.1))] [some ⟨5,70,[AA.enc x0],false⟩,some ⟨5,70,[AA.enc x1],false⟩] kr ?_
  rcases BE (x0.1==x1.1) with hc4 | hc4
  ·rw [if_pos hc4] at hj3
   rw [hc4];refine AD (n:=38) AC 7 [(2,.pt 0 0 0),(3,.pt 1 0 0),(17,.b (x0.2.1==x1.2.1))] [some ⟨5,70,[AA.enc x0],false⟩,some ⟨5,70,[AA.enc x1],false⟩] kr ?_;rcases BE (x0.2.1==x1.2.1) with hc5 | hc5
   ·rw [if_pos hc5] at hj3
    rw [hc5];refine AD (n:=38) AC 7 [(2,.pt 0 0 0),(3,.pt 1 0 0),(24,.b (x0.2.2.1==x1.2.2.1))] [some ⟨5,70,[AA.enc x0],false⟩,some ⟨5,70,[AA.enc x1],false⟩] kr ?_;rcases BE (x0.2.2.1==x1.2.2.1) with hc6 | hc6
    ·rw [if_pos hc6] at hj3
     rw [hc6];refine AD (n:=38) AC 7 [(2,.pt 0 0 0),(3,.pt 1 0 0),(31,.b (x0.2.2.2.2==x1.2.2.2.2))] [some ⟨5,70,[AA.enc x0],false⟩,some ⟨5,70,[AA.enc x1],false⟩] kr ?_;rcases BE (x0.2.2.2.2==x1.2.2.2.2) with hc7 | hc7
     ·rw [if_pos hc7] at hj3
      rw [hc7];refine AD (n:=38) AC 4 [(31,.b true),(33,.sl 1 (x0.2.2.2.1.map cdS.enc)),(35,.sl 1 (x1.2.2.2.1.map cdS.enc))] [some ⟨5,70,[AA.enc x0],false⟩,some ⟨5,70,[AA.enc x1],false⟩] kr ?_;obtain ⟨v1,hv1,hj3⟩:=OB hj3;refine AO (caps:=[]) (xs:=[.sl 1 (x0.2.2.2.1.map cdS.enc),.sl 1 (x1.2.2.2.1.map cdS.enc)]) (u:=(x0.2.2.2.1,x1.2.2.2.1,())) rfl rfl F8 rfl kr kr kr (AT (Ap (c:=(cdL 1 cdS)) (v:=x0.2.2.2.1)) (AT (Ap (c:=(cdL 1 cdS)) (v:=x1.2.2.2.1)) Ay)) (.inl kr) hv1 ?_;refine AD (n:=38) AC 2 [(4,.b v1)] [some ⟨5,70,[AA.enc x0],false⟩,some ⟨5,70,[AA.enc x1],false⟩] kr ?_;have hq:=OI hj3; subst hq;exact AE rfl (Ax [] trivial ⟨lv,trivial⟩)
     ·rw [Bu hc7] at hj3
      rw [hc7];refine AD (n:=38) AC 7 [(4,.b false)] [some ⟨5,70,[AA.enc x0],false⟩,some ⟨5,70,[AA.enc x1],false⟩] kr ?_;have hq:=OI hj3; subst hq;exact AE rfl (Ax [] trivial ⟨lv,trivial⟩)
    ·rw [Bu hc6] at hj3
     rw [hc6];refine AD (n:=38) AC 14 [(4,.b false)] [some ⟨5,70,[AA.enc x0],false⟩,some ⟨5,70,[AA.enc x1],false⟩] kr ?_;have hq:=OI hj3; subst hq;exact AE rfl (Ax [] trivial ⟨lv,trivial⟩)
   ·rw [Bu hc5] at hj3
    rw [hc5];refine AD (n:=38) AC 21 [(4,.b false)] [some ⟨5,70,[AA.enc x0],false⟩,some ⟨5,70,[AA.enc x1],false⟩] kr ?_;have hq:=OI hj3; subst hq;exact AE rfl (Ax [] trivial ⟨lv,trivial⟩)
  ·rw [Bu hc4] at hj3
   rw [hc4];refine AD (n:=38) AC 28 [(4,.b false)] [some ⟨5,70,[AA.enc x0],false⟩,some ⟨5,70,[AA.enc x1],false⟩] kr ?_;have hq:=OI hj3; subst hq;exact AE rfl (Ax [] trivial ⟨lv,trivial⟩)
 refine AS ?_;have hq:=OI h; subst hq;exact ⟨⟨Fr 38 [(4,.b j3)],[]⟩,AH,.inr rfl,[.b j3],kr,kr⟩
def Ji:List AV->Option AV:=EN EV (fun a=>CJ a.1 a.2.1) EW
theorem Jp:XOk 81 Ji:=by
 refine Af Tryz.func81 (c:=GH) ?h2 ⟨Tryz.call81⟩ EV (fun a=>CJ a.1 a.2.1) EW (fun a=>(by show 2<=38; decide)) ?h3 ?h4
 case h2=>kernel_rfl
 case h3=>intro b; kernel_rfl
 case h4=>exact fun a b h=>Ie a.1 a.2.1 b h
/- slices.EqualFunc[[]trestle/api.Clause,[]trestle/api.Clause,trestle/api.Clause,trestle/api.Clause] -/
noncomputable def Ac:Code:=Bg Tryz.f80
def AM (x0:(List AG)) (x1:(List AG)):Nat->Int->Option ((Unit) ⊕ (Bool))
 | 0,_=>none
 | f + 1,c2 =>
  if (decide (c2 < (x0.length:Int)))=true then
  (idx x0 c2).bind fun v4 =>
  (idx x1 c2).bind fun v5 =>
  (CJ v4 v5).bind fun v6 =>
  if (!v6)=true then
  some (.inr false)
  else
  AM x0 x1 f (wr .i64 (c2 + 1))
  else
  some (.inl ())
def AI (x0:(List AG)) (x1:(List AG)):Option (Bool) :=
 if ((x0.length:Int)!=(x1.length:Int))=true then
 some false
 else
 (AM x0 x1 100000 0).bind fun r9 =>
 match r9 with
 | (.inl w10) =>
  some true
 | (.inr w11) =>
  some w11
def Ad:Cs ((List AG)×(List AG)×Unit×Unit):=(csC (cdL 5 AA) (csC (cdL 5 AA) (csC (cdF 81 csN (fun _=>rfl)) csN)))
def Ae (r:Bool):AV:=cdB.enc r
theorem Ar (x0:(List AG)) (x1:(List AG)):∀ (f:Nat) (c2:Int) (r:(Unit) ⊕ (Bool)),AM x0 x1 f c2=some r->SemN E0 ⟨none,false⟩ (pc Ac [1,1,0,1,0,0]) f ⟨Fr 32 [(1,.sl 5 (x1.map AA.enc)),(2,.fn 81 [] []),(15,.sl 5 (x0.map AA.enc)),(16,.j (x0.length:Int)),(17,.j c2)],[]⟩ (fun e s=>match r with
 | (.inl w)=>e=(.exit 0)/\Wk E0 s ⟨Fr 32 [],[]⟩
 | (.inr w)=>e = .ret/\Wk E0 s ⟨Fr 32 [(6,.b w)],[]⟩):=by
 intro f;induction f with
 | zero=>intro c2 r h; cases h
 | succ f ih0 =>
  intro c2 r h
  have ih:=fun (c2:Int)=>ih0 c2 r
  unfold AM at h;refine CF ?_
  let p1:Nat×AV:=(17,.j c2)
  let p2:Nat×AV:=(16,.j (x0.length:Int))
  let p3:Nat×AV:=(15,.sl 5 (x0.map AA.enc))
  let p4:Nat×AV:=(2,.fn 81 [] [])
  let p5:Nat×AV:=(1,.sl 5 (x1.map AA.enc))
  refine AL AC [p5,p4,p3,p2,p1,(18,.b (decide (c2 < (x0.length:Int))))] [] ?_;refine AF ?_;refine AN (b:=(decide (c2 < (x0.length:Int)))) kr (fun hb3=>?_) (fun hb3=>?_)
  ·rw [if_pos hb3] at h
   refine AY ?_;refine AF ?_;refine Aq ?_;refine AF ?_;obtain ⟨v4,hv4,h⟩:=OB h
   let p6:Option Blk:=some ⟨5,70,[AA.enc v4],false⟩
   refine AJ (s1:=⟨Fr 32 [p5,p4,(7,.j c2),(8,.pt 0 0 0),p3,p2,p1],[p6]⟩) ?_ ?_
   ·refine AD (n:=32) AC 1 [p5,p4,p3,p2,p1,(19,.j c2)] [] kr ?_
    refine AK AC 0 rfl (Bi (AB rfl) rfl (AZ (a:= .sl 5 (x0.map AA.enc)) (b:= .j c2) kr kr (Dc (e:=AA.enc) (el:=70) (k:=5) (ki:= .i64) kr kr hv4))) ?_;exact AW AC
   refine AF ?_;obtain ⟨v5,hv5,h⟩:=OB h
   let p7:Option Blk:=some ⟨5,70,[AA.enc v5],false⟩
   refine AJ (s1:=⟨Fr 32 [p5,p4,(8,.pt 0 0 0),(9,.pt 1 0 0),p3,p2,p1],[p6,p7]⟩) ?_ ?_
   ·refine AD (n:=32) AC 2 [p5,p4,(8,.pt 0 0 0),p3,p2,p1,(22,.sl 5 (x1.map AA.enc)),(23,.j c2)] [p6] kr ?_
    refine AK AC 0 rfl (Bi (AB rfl) rfl (AZ (a:= .sl 5 (x1.map AA.enc)) (b:= .j c2) kr kr (Dc (e:=AA.enc) (el:=70) (k:=5) (ki:= .i64) kr kr hv5))) ?_;exact AW AC
   refine AF ?_;obtain ⟨v6,hv6,h⟩:=OB h;refine AJ (s1:=⟨Fr 32 [p5,p4,p3,p2,p1,(30,.b (!v6))],[]⟩) ?_ ?_
   ·refine AD (n:=32) AC 3 [p5,p4,p3,p2,p1,(26,.fn 81 [] []),(27,AA.enc v4),(28,AA.enc v5)] [p6,p7] kr ?_
    refine AO (caps:=[]) (xs:=[AA.enc v4,AA.enc v5]) (u:=(v4,v5,())) rfl rfl Jp rfl (AB rfl) kr kr (AT (Ap (c:=AA) (v:=v4)) (AT (Ap (c:=AA) (v:=v5)) Ay)) (.inl kr) hv6 ?_;refine AD (n:=32) AC 1 [p5,p4,p3,p2,p1,(30,.b (!v6))] [p6,p7] kr ?_;exact AE rfl (Ax [] trivial ⟨lv,lv,lv,lv,lv,lv,trivial⟩)
   refine AN (b:=(!v6)) kr (fun hb7=>?_) (fun hb7=>?_)
   ·rw [if_pos hb7] at h
    refine AL AC [(6,.b false)] [] ?_;refine AS ?_;have hq:=OI h; subst hq;exact ⟨rfl,AH⟩
   ·rw [Bu hb7] at h
    refine AY ?_
    let p8:Nat×AV:=(17,.j (wr .i64 (c2 + 1)))
    refine DE AC [p5,p4,p3,p2,p8] [] ?_;exact Aw (s1:=⟨Fr 32 [p5,p4,p3,p2,p8],[]⟩) AH (ih (wr .i64 (c2 + 1)) h)
  ·rw [Bu hb3] at h
   refine Co ?_;have hq:=OI h; subst hq;exact ⟨rfl,AH⟩
theorem Bb (x0:(List AG)) (x1:(List AG)) (r:Bool) (h:AI x0 x1=some r):Sem E0 ⟨none,false⟩ Ac ⟨Fr 32 (BG 0 (Ad.enc (x0,x1,(),()))),[]⟩ fun e s'=>(e = .normal\/e = .ret)/\∃ xs,ED E0.P s'.fr s'.hp Tryz.f80.results.toList=some xs/\EJ xs=Ae r:=by
 unfold AI at h
 let p1:Nat×AV:=(2,.fn 81 [] [])
 let p2:Nat×AV:=(1,.sl 5 (x1.map AA.enc))
 let p3:Nat×AV:=(0,.sl 5 (x0.map AA.enc))
 refine BD (Bw (s1:=⟨Fr 32 [p3,p2,p1],[]⟩) AH ?_);refine AL AC [p3,p2,p1] [] ?_;refine AF ?_;refine AF ?_;refine AJ (s1:=⟨Fr 32 [p3,p2,p1,(14,.b ((x0.length:Int)!=(x1.length:Int)))],[]⟩) ?_ ?_
 ·refine AD (n:=32) AC 1 [p3,p2,p1,(10,.sl 5 (x0.map AA.enc))] [] kr ?_
  refine AK AC 0 rfl (Bi (AB rfl) rfl (EG (a:= .sl 5 (x0.map AA.enc)) kr (Cn (el:=70) kr))) ?_;refine AD (n:=32) AC 1 [p3,p2,p1,(11,.j (x0.length:Int)),(12,.sl 5 (x1.map AA.enc))] [] kr ?_;refine AK AC 0 rfl (Bi (AB rfl) rfl (EG (a:= .sl 5 (x1.map AA.enc)) kr (Cn (el:=70) kr))) ?_;exact AW AC
 refine AN (b:=((x0.length:Int)!=(x1.length:Int))) kr (fun hb1=>?_) (fun hb1=>?_)
 ·rw [if_pos hb1] at h
  refine AL AC [(6,.b false)] [] ?_;refine AS ?_;have hq:=OI h; subst hq;exact ⟨⟨Fr 32 [(6,.b false)],[]⟩,AH,.inr rfl,[.b false],kr,kr⟩
 ·rw [Bu hb1] at h
  refine AY ?_;refine AF ?_;refine AF ?_
  let p4:Nat×AV:=(17,.j 0)
  let p5:Nat×AV:=(16,.j (x0.length:Int))
  let p6:Nat×AV:=(15,.sl 5 (x0.map AA.enc))
  refine AJ (s1:=⟨Fr 32 [p2,p1,p6,p5,p4],[]⟩) ?_ ?_
  ·refine AD (n:=32) AC 1 [p2,p1,p6] [] kr ?_
   refine AK AC 0 rfl (Bi (AB rfl) rfl (EG (a:= .sl 5 (x0.map AA.enc)) kr (Cn (el:=70) kr))) ?_;exact AW AC
  refine Aq ?_;obtain ⟨r9,hr9,h⟩:=OB h;refine Cp (n:=100000) ?_;rcases r9 with w10 | w11
  ·try dsimp only at h
   refine BH (Aw (s1:=⟨Fr 32 [p2,p1,p6,p5,p4],[]⟩) AH (Ar x0 x1 _ 0 _ hr9)) ?_;refine AL AC [(6,.b true)] [] ?_;refine AS ?_;have hq:=OI h; subst hq;exact ⟨⟨Fr 32 [(6,.b true)],[]⟩,AH,.inr rfl,[.b true],kr,kr⟩
  ·try dsimp only at h
   refine BH (Aw (s1:=⟨Fr 32 [p2,p1,p6,p5,p4],[]⟩) AH (Ar x0 x1 _ 0 _ hr9)) ?_;have hq:=OI h; subst hq;exact ⟨⟨Fr 32 [(6,.b w11)],[]⟩,AH,.inr rfl,[.b w11],kr,kr⟩
def Be:List AV->Option AV:=EN Ad (fun a=>AI a.1 a.2.1) Ae
theorem Bf:XOk 80 Be:=by
 refine Af Tryz.func80 (c:=Ac) ?h2 ⟨Tryz.call80⟩ Ad (fun a=>AI a.1 a.2.1) Ae (fun a=>(by show 3<=32; decide)) ?h3 ?h4
 case h2=>kernel_rfl
 case h3=>intro b; kernel_rfl
 case h4=>exact fun a b h=>Bb a.1 a.2.1 b h
/- trestle/trestlelaw03.Same -/
noncomputable def JG:Code:=Bg Tryz.f29
def FJ (x0:(List AG)) (x1:(List AG)):Option (Bool) :=
 (AI x0 x1).bind fun v1 =>
 some v1
def HU:Cs ((List AG)×(List AG)×Unit):=(csC (cdL 5 AA) (csC (cdL 5 AA) csN))
def Ha (r:Bool):AV:=cdB.enc r
theorem Lg (x0:(List AG)) (x1:(List AG)) (r:Bool) (h:FJ x0 x1=some r):Sem E0 ⟨none,false⟩ JG ⟨Fr 8 (BG 0 (HU.enc (x0,x1,()))),[]⟩ fun e s'=>(e = .normal\/e = .ret)/\∃ xs,ED E0.P s'.fr s'.hp Tryz.f29.results.toList=some xs/\EJ xs=Ha r:=by
 unfold FJ at h
 let p1:Nat×AV:=(1,.sl 5 (x1.map AA.enc))
 let p2:Nat×AV:=(0,.sl 5 (x0.map AA.enc))
 refine BD (Bw (s1:=⟨Fr 8 [p2,p1],[]⟩) AH ?_);refine AL AC [p2,p1] [] ?_;refine AF ?_;obtain ⟨v1,hv1,h⟩:=OB h;refine AJ (s1:=⟨Fr 8 [(4,.b v1)],[]⟩) ?_ ?_
 ·refine AD (n:=8) AC 2 [(5,.sl 5 (x0.map AA.enc)),(6,.sl 5 (x1.map AA.enc))] [] kr ?_
  refine AO (caps:=[]) (xs:=[.sl 5 (x0.map AA.enc),.sl 5 (x1.map AA.enc),.fn 81 [] []]) (u:=(x0,x1,(),())) rfl rfl Bf rfl (AB rfl) kr kr (AT (Ap (c:=(cdL 5 AA)) (v:=x0)) (AT (Ap (c:=(cdL 5 AA)) (v:=x1)) (AT (Sm.fn Ay) Ay))) (.inl kr) hv1 ?_;exact AW AC
 refine AS ?_;have hq:=OI h; subst hq;exact ⟨⟨Fr 8 [(4,.b v1)],[]⟩,AH,.inr rfl,[.b v1],kr,kr⟩
def NW:List AV->Option AV:=EN HU (fun a=>FJ a.1 a.2.1) Ha
theorem Ni:XOk 29 NW:=by
 refine Af Tryz.func29 (c:=JG) ?h2 ⟨Tryz.call29⟩ HU (fun a=>FJ a.1 a.2.1) Ha (fun a=>(by show 2<=8; decide)) ?h3 ?h4
 case h2=>kernel_rfl
 case h3=>intro b; kernel_rfl
 case h4=>exact fun a b h=>Lg a.1 a.2.1 b h
/- trestle/trestlelaw03.formats -/
noncomputable def FY:Code:=Bg Tryz.f25
def DD (x0:(List AG)) (v1:(List AG)) (v2:Bool):Option (((List UInt8))) :=
 if v2=true then
 (D9 x0).bind fun v4 =>
 some v4
 else
 some []
def DK (x0:(List AG)):Option (Bool) :=
 (FI x0).bind fun v1 =>
 (EY x0).bind fun v2 =>
 (DD x0 v1 v2).bind fun r6 =>
 (Dm v1).bind fun v7 =>
 (if (v7==r6)=true then (FJ v1 x0).bind fun v8 =>
 some v8 else some false).bind fun j10 =>
 some j10
def Fc:Cs ((List AG)×Unit):=(csC (cdL 5 AA) csN)
def Fj (r:Bool):AV:=cdB.enc r
theorem I3 (x0:(List AG)) (v1:(List AG)) (v2:Bool) (r:((List UInt8))) (h:DD x0 v1 v2=some r):Sem E0 ⟨none,false⟩ (pc FY [1,1,0,1]) ⟨Fr 20 [(0,.sl 5 (x0.map AA.enc)),(3,.sl 5 (v1.map AA.enc)),(4,.st []),(8,.b v2)],[]⟩ (fun e s=>e = .normal/\Wk E0 s ⟨Fr 20 [(0,.sl 5 (x0.map AA.enc)),(3,.sl 5 (v1.map AA.enc)),(4,.st r)],[]⟩):=by
 unfold DD at h;refine AN (b:=v2) kr (fun hb3=>?_) (fun hb3=>?_)
 ·rw [if_pos hb3] at h
  obtain ⟨v4,hv4,h⟩:=OB h;refine AJ (s1:=⟨Fr 20 [(0,.sl 5 (x0.map AA.enc)),(3,.sl 5 (v1.map AA.enc)),(4,.st v4)],[]⟩) ?_ ?_
  ·refine AD (n:=20) AC 1 [(0,.sl 5 (x0.map AA.enc)),(3,.sl 5 (v1.map AA.enc)),(9,.sl 5 (x0.map AA.enc))] [] kr ?_
   refine AO (caps:=[]) (xs:=[.sl 5 (x0.map AA.enc)]) (u:=(x0,())) rfl rfl Lu rfl (AB rfl) kr kr (AT (Ap (c:=(cdL 5 AA)) (v:=x0)) Ay) (.inl kr) hv4 ?_;exact AW AC
  have hq:=OI h; subst hq;exact ⟨rfl,AH⟩
 ·rw [Bu hb3] at h
  refine AY ?_;have hq:=OI h; subst hq;exact ⟨rfl,AH⟩
theorem J0 (x0:(List AG)) (r:Bool) (h:DK x0=some r):Sem E0 ⟨none,false⟩ FY ⟨Fr 20 (BG 0 (Fc.enc (x0,()))),[]⟩ fun e s'=>(e = .normal\/e = .ret)/\∃ xs,ED E0.P s'.fr s'.hp Tryz.f25.results.toList=some xs/\EJ xs=Fj r:=by
 unfold DK at h;refine BD (Bw (s1:=⟨Fr 20 [(0,.sl 5 (x0.map AA.enc))],[]⟩) AH ?_);refine AL AC [(0,.sl 5 (x0.map AA.enc))] [] ?_;refine AF ?_;obtain ⟨v1,hv1,h⟩:=OB h;refine AJ (s1:=⟨Fr 20 [(0,.sl 5 (x0.map AA.enc)),(3,.sl 5 (v1.map AA.enc)),(4,.st [])],[]⟩) ?_ ?_
 ·refine AD (n:=20) AC 1 [(0,.sl 5 (x0.map AA.enc)),(5,.sl 5 (x0.map AA.enc))] [] kr ?_
  refine AO (caps:=[]) (xs:=[.sl 5 (x0.map AA.enc)]) (u:=(x0,())) rfl rfl Nh rfl (AB rfl) kr kr (AT (Ap (c:=(cdL 5 AA)) (v:=x0)) Ay) (.inr kr) hv1 ?_;exact AW AC
 refine AF ?_;refine AF ?_;obtain ⟨v2,hv2,h⟩:=OB h;refine AJ (s1:=⟨Fr 20 [(0,.sl 5 (x0.map AA.enc)),(3,.sl 5 (v1.map AA.enc)),(4,.st []),(8,.b v2)],[]⟩) ?_ ?_
 ·refine AD (n:=20) AC 1 [(0,.sl 5 (x0.map AA.enc)),(3,.sl 5 (v1.map AA.enc)),(4,.st []),(7,.sl 5 (x0.map AA.enc))] [] kr ?_
  refine AO (caps:=[]) (xs:=[.sl 5 (x0.map AA.enc)]) (u:=(x0,())) rfl rfl My rfl (AB rfl) kr kr (AT (Ap (c:=(cdL 5 AA)) (v:=x0)) Ay) (.inl kr) hv2 ?_;exact AE rfl AH
 obtain ⟨r6,hr6,h⟩:=OB h;refine C2 (I3 x0 v1 v2 _ hr6) ?_;refine AF ?_;obtain ⟨v7,hv7,h⟩:=OB h;obtain ⟨j10,hj10,h⟩:=OB h;refine AJ (s1:=⟨Fr 20 [(2,.b j10)],[]⟩) ?_ ?_
 ·refine AD (n:=20) AC 1 [(0,.sl 5 (x0.map AA.enc)),(3,.sl 5 (v1.map AA.enc)),(4,.st r6),(11,.sl 5 (v1.map AA.enc))] [] kr ?_
  refine AO (caps:=[]) (xs:=[.sl 5 (v1.map AA.enc)]) (u:=(v1,())) rfl rfl Ls rfl (AB rfl) kr kr (AT (Ap (c:=(cdL 5 AA)) (v:=v1)) Ay) (.inl kr) hv7 ?_;refine AD (n:=20) AC 3 [(0,.sl 5 (x0.map AA.enc)),(3,.sl 5 (v1.map AA.enc)),(15,.b (v7==r6))] [] kr ?_;rcases BE (v7==r6) with hc11 | hc11
  ·rw [if_pos hc11] at hj10
   rw [hc11];refine AD (n:=20) AC 2 [(15,.b true),(16,.sl 5 (v1.map AA.enc)),(17,.sl 5 (x0.map AA.enc))] [] kr ?_;obtain ⟨v8,hv8,hj10⟩:=OB hj10;refine AO (caps:=[]) (xs:=[.sl 5 (v1.map AA.enc),.sl 5 (x0.map AA.enc)]) (u:=(v1,x0,())) rfl rfl Ni rfl kr kr kr (AT (Ap (c:=(cdL 5 AA)) (v:=v1)) (AT (Ap (c:=(cdL 5 AA)) (v:=x0)) Ay)) (.inl kr) hv8 ?_;refine AD (n:=20) AC 2 [(2,.b v8)] [] kr ?_;have hq:=OI hj10; subst hq;exact AE rfl AH
  ·rw [Bu hc11] at hj10
   rw [hc11];refine AD (n:=20) AC 5 [(2,.b false)] [] kr ?_;have hq:=OI hj10; subst hq;exact AE rfl AH
 refine AS ?_;have hq:=OI h; subst hq;exact ⟨⟨Fr 20 [(2,.b j10)],[]⟩,AH,.inr rfl,[.b j10],kr,kr⟩
def LI:List AV->Option AV:=EN Fc (fun a=>DK a.1) Fj
theorem LR:XOk 25 LI:=by
 refine Af Tryz.func25 (c:=FY) ?h2 ⟨Tryz.call25⟩ Fc (fun a=>DK a.1) Fj (fun a=>(by show 1<=20; decide)) ?h3 ?h4
 case h2=>kernel_rfl
 case h3=>intro b; kernel_rfl
 case h4=>exact fun a b h=>J0 a.1 b h
/- trestle/trestlelaw03.CourtFormats -/
noncomputable def FP:Code:=Bg Tryz.f7
def CH (x0:(List AG)):Option (Bool) :=
 (Gb x0).bind fun v1 =>
 (if (!v1)=true then I2.bind fun v2 =>
 some v2 else (DK x0).bind fun v3 =>
 if v3=true then I2.bind fun v4 =>
 some v4 else some false).bind fun j6 =>
 some j6
def CX:Cs ((List AG)×Unit):=(csC (cdL 5 AA) csN)
def DI (r:Bool):AV:=cdB.enc r
theorem Hw (x0:(List AG)) (r:Bool) (h:CH x0=some r):Sem E0 ⟨none,false⟩ FP ⟨Fr 13 (BG 0 (CX.enc (x0,()))),[]⟩ fun e s'=>(e = .normal\/e = .ret)/\∃ xs,ED E0.P s'.fr s'.hp Tryz.f7.results.toList=some xs/\EJ xs=DI r:=by
 unfold CH at h;refine BD (Bw (s1:=⟨Fr 13 [(0,.sl 5 (x0.map AA.enc))],[]⟩) AH ?_);refine AL AC [(0,.sl 5 (x0.map AA.enc))] [] ?_;refine AF ?_;obtain ⟨v1,hv1,h⟩:=OB h;obtain ⟨j6,hj6,h⟩:=OB h;refine AJ (s1:=⟨Fr 13 [(2,.b j6)],[]⟩) ?_ ?_
 ·refine AD (n:=13) AC 1 [(0,.sl 5 (x0.map AA.enc)),(3,.sl 5 (x0.map AA.enc))] [] kr ?_
  refine AO (caps:=[]) (xs:=[.sl 5 (x0.map AA.enc)]) (u:=(x0,())) rfl rfl OR rfl (AB rfl) kr kr (AT (Ap (c:=(cdL 5 AA)) (v:=x0)) Ay) (.inl kr) hv1 ?_;refine AD (n:=13) AC 2 [(0,.sl 5 (x0.map AA.enc)),(6,.b (!v1))] [] kr ?_;rcases BE (!v1) with hc7 | hc7
  ·rw [if_pos hc7] at hj6
   rw [hc7];refine AD (n:=13) AC 4 [(10,.b true)] [] kr ?_;obtain ⟨v2,hv2,hj6⟩:=OB hj6;refine AO (caps:=[]) (xs:=[]) (u:=(())) rfl rfl Jq rfl kr kr kr Ay (.inl kr) hv2 ?_;refine AD (n:=13) AC 2 [(2,.b v2)] [] kr ?_;have hq:=OI hj6; subst hq;exact AE rfl AH
  ·rw [Bu hc7] at hj6
   rw [hc7];refine AD (n:=13) AC 1 [(6,.b false),(7,.sl 5 (x0.map AA.enc))] [] kr ?_;obtain ⟨v3,hv3,hj6⟩:=OB hj6;refine AO (caps:=[]) (xs:=[.sl 5 (x0.map AA.enc)]) (u:=(x0,())) rfl rfl LR rfl kr kr kr (AT (Ap (c:=(cdL 5 AA)) (v:=x0)) Ay) (.inl kr) hv3 ?_;refine AD (n:=13) AC 2 [(10,.b v3)] [] kr ?_;rcases BE v3 with hc8 | hc8
   ·rw [if_pos hc8] at hj6
    rw [hc8];obtain ⟨v4,hv4,hj6⟩:=OB hj6;refine AO (caps:=[]) (xs:=[]) (u:=(())) rfl rfl Jq rfl kr kr kr Ay (.inl kr) hv4 ?_;refine AD (n:=13) AC 2 [(2,.b v4)] [] kr ?_;have hq:=OI hj6; subst hq;exact AE rfl AH
   ·rw [Bu hc8] at hj6
    rw [hc8];refine AD (n:=13) AC 3 [(2,.b false)] [] kr ?_;have hq:=OI hj6; subst hq;exact AE rfl AH
 refine AS ?_;have hq:=OI h; subst hq;exact ⟨⟨Fr 13 [(2,.b j6)],[]⟩,AH,.inr rfl,[.b j6],kr,kr⟩
def Ig:List AV->Option AV:=EN CX (fun a=>CH a.1) DI
theorem Ih:XOk 7 Ig:=by
 refine Af Tryz.func7 (c:=FP) ?h2 ⟨Tryz.call7⟩ CX (fun a=>CH a.1) DI (fun a=>(by show 1<=13; decide)) ?h3 ?h4
 case h2=>kernel_rfl
 case h3=>intro b; kernel_rfl
 case h4=>exact fun a b h=>Hw a.1 b h
theorem Ui {n:Int}(h1 : -9223372036854775808<=n) (h2:n<=9223372036854775807):wr .i64 n=n:=by
 show (if _ then n else _)=n
 rw [if_pos ⟨h1,h2⟩]
theorem EM {α:Type}(pre:List α) (v:α) (r:List α):idx (pre++v::r) (pre.length:Int)=some v:=by
 unfold idx
 rw [if_pos (by omega)]
 simp
theorem Ok {α:Type}{xs:List α}{i:Nat}(h:i < xs.length):idx xs (i:Int)=some xs[i]:=by
 unfold idx
 rw [if_pos (by omega)]
 simp [h]
theorem Fo {α:Type}(pre:List α) (v:α) (r:List α) (h:(pre++v::r).length<=1000000000):wr .i64 ((pre.length:Int) + 1)=((pre++[v]).length:Int):=by
 simp at h
 rw [Ui (by omega) (by omega)]; simp
theorem IJ {α:Type}(pre:List α) (v:α) (r:List α):decide ((pre.length:Int) < ((pre++v::r).length:Int))=true:=by
 simp; omega
theorem Sa {α:Type}(pre:List α):decide ((pre.length:Int) < ((pre++[]).length:Int))=false:=by simp
theorem FO {b n:Nat}(hb:b<=1000) (h:n<=1000000000):Du b n=true:=by
 have h1:n * b<=1000000000 * 1000:=Nat.mul_le_mul h hb
 unfold Du
 rw [Bool.and_eq_true]
 exact ⟨Nat.ble_eq_true_of_le (by omega),Nat.ble_eq_true_of_le (by omega)⟩
/-- A loop over a list: v, its index, the rest. -/
def goU {α ρ:Type}(B:α->Nat->Option ρ->Option ρ) (D:Option ρ):List α->Nat->Option ρ
 | [],_=>D
 | v::r,i=>B v i (goU B D r (i + 1))
theorem TR {α ρ:Type}(xs:List α) (L:Nat->Int->Option ρ) (B:α->Nat->Option ρ->Option ρ) (D:Option ρ)
  (hs:∀ f (pre:List α) v r,xs=pre++v::r->L (f + 1) (pre.length:Int)=B v pre.length (L f (((pre++[v]).length:Nat):Int))) (hd:∀ f,L (f + 1) (xs.length:Int)=D) :
  ∀ (r pre:List α) (f:Nat),xs=pre++r->r.length < f->L f (pre.length:Int)=goU B D r pre.length
 | [],pre,f + 1,hx,_=>by
  rw [show pre.length=xs.length by rw [hx]; simp]
  exact hd f
 | v::r,pre,f + 1,hx,hf=>by
  rw [hs f pre v r hx]
  have:=TR xs L B D hs hd r (pre++[v]) f (by rw [hx]; simp) (by simp at hf; omega)
  rw [this]
  show B v pre.length _=B v pre.length _
  congr 1
  simp
theorem Io {α ρ:Type}(xs:List α) (L:Nat->Int->Option ρ) (B:α->Nat->Option ρ->Option ρ) (D:Option ρ) (f:Nat) (hf:xs.length < f)
  (hs:∀ f (pre:List α) v r,xs=pre++v::r->L (f + 1) (pre.length:Int)=B v pre.length (L f (((pre++[v]).length:Nat):Int))) (hd:∀ f,L (f + 1) (xs.length:Int)=D):L f 0=goU B D xs 0 :=
 TR xs L B D hs hd xs [] f rfl hf
/-- .. as it is printed. -/
theorem UV {α ρ:Type}(xs:List α) (L:Nat->Int->Option ρ) (B:α->Nat->Option ρ->Option ρ) (D:Option ρ) (f:Nat) (hf:xs.length < f) (hx:xs.length<=1000000)
  (h:∀ f c,L (f + 1) c=if decide (c < (xs.length:Int))=true then (idx xs c).bind fun v=>B v c.toNat (L f (wr .i64 (c + 1))) else D):L f 0=goU B D xs 0 :=
 Io xs L B D f hf (fun f pre v r e=>by
  subst e
  rw [h,if_pos (IJ pre v r),EM,OS,Fo pre v r (by omega),Int.toNat_natCast]) (fun f=>by rw [h,if_neg (by simp)])
/-- The first that meets a test. -/
theorem P3 {α:Type}(P:α->Option Bool) (p:α->Bool):∀ (xs:List α) (i:Nat),(∀ x ∈ xs,P x=some (p x))->∃ r:Unit ⊕ Int,goU (fun v i k=>(P v).bind fun b=>if b=true then some (.inr (i:Int)) else k) (some (.inl ())) xs i=some r/\(match r with | .inl _=>xs.any p=false | .inr n=>xs.any p=true/\0<=n)
 | [],i,_=>⟨.inl (),rfl,rfl⟩
 | x::xs,i,h=>by
  unfold goU
  rw [h x (by simp),OS]
  cases hp:p x with
  | true=>exact ⟨.inr i,by simp,by simp [hp]⟩
  | false =>
   obtain ⟨r,h1,h2⟩:=P3 P p xs (i + 1) fun y hy=>h y (List.mem_cons_of_mem _ hy)
   refine ⟨r,by simpa using h1,?_⟩
   cases r with
   | inl u=>simpa [hp] using h2
   | inr n=>simpa [hp] using h2
/-- slices.IndexFunc and slices.ContainsFunc. -/
theorem M7 {α:Type}(xs:List α) (hx:xs.length<=99999) (P:α->Option Bool) (p:α->Bool) (hP:∀ x ∈ xs,P x=some (p x)) (L:Nat->Int->Option (Unit ⊕ Int))
  (h:∀ f c,L (f + 1) c=if decide (c < (xs.length:Int))=true then (idx xs c).bind fun v=>(P v).bind fun b=>if b=true then some (.inr c) else L f (wr .i64 (c + 1)) else some (.inl ())) :
  ∃ n,((L 100000 0).bind fun r=>match r with | .inl _=>some (-1) | .inr w=>some w)=some n/\decide (n≥0)=xs.any p:=by
 have e:=Io xs L (fun v i k=>(P v).bind fun b=>if b=true then some (.inr (i:Int)) else k) (some (.inl ())) 100000 (by omega) (fun f pre v r e=>by
  subst e
  rw [h,if_pos (IJ pre v r),EM,OS,Fo pre v r (by omega)]) (fun f=>by rw [h,if_neg (by simp)])
 obtain ⟨r,h1,h2⟩:=P3 P p xs 0 hP
 rw [e,h1]
 cases r with
 | inl u=>exact ⟨-1,rfl,by rw [h2]; rfl⟩
 | inr n=>exact ⟨n,rfl,by rw [h2.1]; simpa using h2.2⟩
/-- Two lists side by side. -/
def go2 {α β ρ:Type}(B:α->β->Option ρ->Option ρ) (D:Option ρ):List α->List β->Option ρ
 | v::r,u::q=>B v u (go2 B D r q)
 | _,_=>D
theorem TQ {α β ρ:Type}(L:Nat->Int->Option ρ) (B:α->β->Option ρ->Option ρ) (D:Option ρ) (xs:List α) (ys:List β) (hl:xs.length=ys.length) (hx:xs.length<=1000000)
  (h:∀ f c,L (f + 1) c=if decide (c < (xs.length:Int))=true then (idx xs c).bind fun v=>(idx ys c).bind fun u=>B v u (L f (wr .i64 (c + 1))) else D) :
  ∀ (r:List α) (q:List β) (pre:List α) (pre':List β) (f:Nat),xs=pre++r->ys=pre'++q->pre.length=pre'.length->r.length < f->L f (pre.length:Int)=go2 B D r q
 | [],q,pre,pre',f + 1,e1,e2,e3,_=>by
  have:q=[]:=by
   have:xs.length=pre.length:=by rw [e1]; simp
   have h2:ys.length=pre'.length + q.length:=by rw [e2]; simp
   exact List.eq_nil_of_length_eq_zero (by omega)
  subst this
  subst e1
  rw [h,Sa]
  rfl
 | v::r,[],pre,pre',f + 1,e1,e2,e3,_=>by
  exfalso
  have h1:xs.length=pre.length + (r.length + 1):=by rw [e1]; simp
  have h2:ys.length=pre'.length:=by rw [e2]; simp
  omega
 | v::r,u::q,pre,pre',f + 1,e1,e2,e3,hf=>by
  have ih:=TQ L B D xs ys hl hx h r q (pre++[v]) (pre'++[u]) f (by rw [e1]; simp) (by rw [e2]; simp) (by simp [e3]) (by simp at hf; omega)
  have k1:idx xs (pre.length:Int)=some v:=by rw [e1,EM]
  have k2:idx ys (pre.length:Int)=some u:=by rw [e2,e3,EM]
  have k3:decide ((pre.length:Int) < (xs.length:Int))=true:=by rw [e1]; exact IJ pre v r
  have k4:wr .i64 ((pre.length:Int) + 1)=((pre++[v]).length:Int):=Fo pre v r (by rw [<-e1]; omega)
  rw [h,if_pos k3,k1,OS,k2,OS,k4,ih]
  rfl
theorem P2 {α β:Type}(P:α->β->Option Bool) (p:α->β->Bool):∀ (xs:List α) (ys:List β),(∀ x ∈ xs,∀ y ∈ ys,P x y=some (p x y))->xs.length=ys.length ->
  go2 (fun v u k=>(P v u).bind fun b=>if (!b)=true then some (Sum.inr false) else k) (some (Sum.inl ())) xs ys=some (if (xs.zip ys).all (fun x=>p x.1 x.2) then Sum.inl () else Sum.inr false)
 | [],[],_,_=>rfl
 | x::xs,y::ys,h,hl=>by
  unfold go2
  rw [h x (by simp) y (by simp),OS,P2 P p xs ys (fun a ha b hb=>h a (List.mem_cons_of_mem _ ha) b (List.mem_cons_of_mem _ hb)) (by simpa using hl)]
  rw [List.zip_cons_cons,List.all_cons]
  show (if (!p x y)=true then _ else _)=some (if (p x y&&_)=true then _ else _)
  cases p x y <;> rfl
 | [],_::_,_,hl=>by simp at hl
 | _::_,[],_,hl=>by simp at hl
/-- slices.EqualFunc. -/
theorem Pa {α β:Type}(xs:List α) (ys:List β) (hx:xs.length<=99999) (P:α->β->Option Bool) (p:α->β->Bool) (hP:∀ x ∈ xs,∀ y ∈ ys,P x y=some (p x y)) (L:Nat->Int->Option (Unit ⊕ Bool))
  (h:∀ f c,L (f + 1) c=if decide (c < (xs.length:Int))=true then (idx xs c).bind fun v=>(idx ys c).bind fun u=>(P v u).bind fun b=>if (!b)=true then some (.inr false) else L f (wr .i64 (c + 1)) else some (.inl ())) :
  (if ((xs.length:Int)!=(ys.length:Int))=true then some false else (L 100000 0).bind fun r=>match r with | .inl _=>some true | .inr w=>some w)=some (decide (xs.length=ys.length)&&(xs.zip ys).all fun x=>p x.1 x.2):=by
 by_cases hl:xs.length=ys.length
 ·rw [if_neg (by simp [hl])]
  have e:=TQ L (fun v u k=>(P v u).bind fun b=>if (!b)=true then some (Sum.inr false) else k) (some (Sum.inl ())) xs ys hl (by omega) h xs ys [] [] 100000 rfl rfl rfl (by omega)
  have e0:L 100000 (([]:List α).length:Int)=L 100000 0:=rfl
  rw [<-e0,e,P2 P p xs ys hP hl]
  cases hq:(xs.zip ys).all (fun x=>p x.1 x.2) <;> simp [hl]
 ·rw [if_pos (by simp; omega)]
  simp [hl]
theorem KA {α:Type} [DecidableEq α] {p:α->α->Bool}(hp:∀ a b,p a b=decide (a=b)):∀ (xs ys:List α),(decide (xs.length=ys.length)&&(xs.zip ys).all fun x=>p x.1 x.2)=decide (xs=ys)
 | [],[]=>rfl
 | x::xs,y::ys=>by
  have ih:=KA hp xs ys
  simp only [List.length_cons,Nat.add_right_cancel_iff,List.zip_cons_cons,List.all_cons,List.cons.injEq,hp]
  simp only [hp] at ih
  by_cases h1:x=y
  ·subst h1; simpa using ih
  ·simp [h1]
 | [],_::_=>by simp
 | _::_,[]=>by simp
/-- slices.Equal. -/
theorem UH {α:Type} [DecidableEq α] [BEq α] [LawfulBEq α] (xs ys:List α) (hx:xs.length<=99999) (L:Nat->Int->Option (Unit ⊕ Bool))
  (h:∀ f c,L (f + 1) c=if decide (c < (xs.length:Int))=true then (idx xs c).bind fun v=>(idx ys c).bind fun u=>if (v != u)=true then some (.inr false) else L f (wr .i64 (c + 1)) else some (.inl ())) :
  (if ((xs.length:Int)!=(ys.length:Int))=true then some false else (L 100000 0).bind fun r=>match r with | .inl _=>some true | .inr w=>some w)=some (decide (xs=ys)):=by
 rw [Pa xs ys hx (fun v u=>some (v==u)) (fun v u=>v==u) (fun _ _ _ _=>rfl) L (fun f c=>by rw [h]; rfl),KA (fun a b=>by by_cases h:a=b <;> simp [h])]
def QV (x:AG):Prop:=x.2.1.length<=40/\x.2.2.2.1.length<=20/\∀ s ∈ x.2.2.2.1,s.length<=40
def few (c:List AG):Prop:=c.length<=40/\∀ x ∈ c,QV x
theorem Pv (l:List (List UInt8)) (h:l.length<=99999):AU l=some (l.any fun s=>decide ((s.length:Int) > 40)):=by
 unfold AU Al
 obtain ⟨n,h1,h2⟩:=M7 l h EF (fun s=>decide ((s.length:Int) > 40)) (fun x _=>rfl) (An l) (fun f c=>rfl)
 rw [<-h2]
 exact (congrArg (fun o=>o.bind fun v1=>some (decide (v1≥0))) h1)
def SC (x:AG):Bool:=decide ((x.2.1.length:Int) > 40)||decide ((x.2.2.2.1.length:Int) > 20)||x.2.2.2.1.any fun s=>decide ((s.length:Int) > 40)
theorem UJ (x:AG):D7 x=some (SC x):=by
 unfold D7 SC
 by_cases h1:(x.2.1.length:Int) > 40
 ·simp [h1]
 ·by_cases h2:(x.2.2.2.1.length:Int) > 20
  ·simp [h2]
  ·rw [Pv _ (by omega)]
   simp [h1,h2]
theorem Oi (x:AG):SC x=false↔QV x:=by
 unfold SC QV
 simp only [Bool.or_eq_false_iff,decide_eq_false_iff_not,List.any_eq_false,decide_eq_true_eq]
 constructor
 ·rintro ⟨⟨h1,h2⟩,h3⟩
  exact ⟨by omega,by omega,fun s hs=>by have:=h3 s hs; omega⟩
 ·rintro ⟨h1,h2,h3⟩
  exact ⟨⟨by omega,by omega⟩,fun s hs=>by have:=h3 s hs; omega⟩
theorem TI (c:List AG):∃ b,Gb c=some b/\(b=true↔few c):=by
 unfold Gb
 by_cases h:c.length<=40
 ·rw [if_pos (by simp; omega)]
  have e:AQ c=some (c.any SC):=by
   unfold AQ Aa
   obtain ⟨n,h1,h2⟩:=M7 c (by omega) D7 SC (fun x _=>UJ x) (Ah c) (fun f c=>rfl)
   rw [<-h2]
   exact (congrArg (fun o=>o.bind fun v1=>some (decide (v1≥0))) h1)
  rw [e]
  refine ⟨!c.any SC,rfl,?_⟩
  simp only [Bool.not_eq_true',List.any_eq_false,few,h,true_and]
  exact ⟨fun q x hx=>(Oi x).1 (by simpa using q x hx),fun q x hx=>by simp [(Oi x).2 (q x hx)]⟩
 ·rw [if_neg (by simp; omega)]
  exact ⟨false,rfl,by simp [few,h]⟩
/-- Copies. -/
theorem Pr (c:List AG) (h:few c):∀ (r pre:List AG) (f:Nat),c=pre++r->r.length < f->Cr c f pre (pre.length:Int)=some c
 | [],pre,f + 1,e,_=>by
  unfold Cr
  rw [if_neg (by rw [e]; simp),e,List.append_nil]
 | v::r,pre,f + 1,e,hf=>by
  have hv:QV v:=h.2 v (by rw [e]; simp)
  have hl:=h.1
  have hl2:c.length=pre.length + r.length + 1:=by rw [e]; simp; omega
  simp only [List.length_cons] at hf
  obtain ⟨h1,h2,h3⟩:=hv
  unfold Cr
  have hi:idx c (pre.length:Int)=some v:=by rw [e,EM]
  rw [if_pos (by rw [e]; exact IJ pre v r),hi,OS,if_pos (FO (by omega) (by omega)),if_pos (FO (by omega) (by omega)),if_pos (by unfold GQ; simp; omega),if_pos (FO (by omega) (by omega))]
  have hv2:(v.1,v.2.1,v.2.2.1,((v.2.2.2.1++[[115,112,97,114,101]]).take ((v.2.2.2.1.length:Int).toNat)),v.2.2.2.2)=v:=by
   rw [Int.toNat_natCast,List.take_left]
  rw [hv2,show wr .i64 ((pre.length:Int) + 1)=((pre++[v]).length:Int) from Fo pre v r (by rw [<-e]; omega)]
  exact Pr c h r (pre++[v]) f (by rw [e]; simp) (by omega)
theorem R9 (c:List AG) (h:few c):FI c=some c:=by
 unfold FI
 have:=Pr c h c [] 100000 rfl (by have:=h.1; omega)
 have e0:Cr c 100000 [] (([]:List AG).length:Int)=Cr c 100000 [] 0:=rfl
 rw [<-e0,this]; rfl
/-- Comparisons. -/
theorem SB (xs ys:List (List UInt8)) (h:xs.length<=99999):BF xs ys=some (decide (xs=ys)):=by
 unfold BF
 exact UH xs ys h (Bc xs ys) (fun f c=>rfl)
theorem Ta (a b:AG) (h:a.2.2.2.1.length<=99999):CJ a b=some (decide (a=b)):=by
 unfold CJ
 rw [SB _ _ h]
 obtain ⟨a1,a2,a3,a4,a5⟩:=a
 obtain ⟨b1,b2,b3,b4,b5⟩:=b
 by_cases h1:a1=b1
 ·by_cases h2:a2=b2
  ·by_cases h3:a3=b3
   ·by_cases h5:a5=b5
    ·simp [h1,h2,h3,h5]
    ·simp [h5]
   ·simp [h3]
  ·simp [h2]
 ·simp [h1]
theorem Sh (a b:List AG) (h:few a):FJ a b=some (decide (a=b)):=by
 unfold FJ AI
 rw [<-KA (p:=fun x y=>decide (x=y)) (fun _ _=>rfl) a b]
 have:=Pa a b (by have:=h.1; omega) CJ (fun x y=>decide (x=y)) (fun x hx y _=>Ta x y (by have:=(h.2 x hx).2.1; omega)) (AM a b) (fun f c=>rfl)
 exact (congrArg (fun o=>o.bind fun v1=>some v1) this)
/-- Names. -/
def QW (c:UInt8):Bool:=decide ((c.toNat:Int) < 97)||decide ((c.toNat:Int) > 122)
def Do (s:List UInt8):Bool:=decide (1<=s.length)&&decide (s.length<=12)&&!s.any QW
theorem N2:∀ (s:List UInt8) (i:Nat),goU (fun v _ (k:Option (Unit ⊕ Bool))=>if QW v=true then some (.inr false) else k) (some (.inl ())) s i=some (if s.any QW=true then .inr false else .inl ())
 | [],_=>rfl
 | c::s,i=>by
  unfold goU
  rw [N2 s (i + 1),List.any_cons]
  cases QW c <;> rfl
theorem TT (s:List UInt8) (h:s.length<=99999):DG s 100000 0=some (if s.any QW=true then .inr false else .inl ()):=by
 rw [<-N2 s 0]
 refine Io s (DG s) _ _ 100000 (by omega) (fun f pre v r e=>?_) (fun f=>?_)
 ·conv=>lhs; unfold DG
  rw [e,if_pos (IJ pre v r),EM,OS,OS,Fo pre v r (by rw [<-e]; omega)]
  unfold QW
  by_cases h:(v.toNat:Int) < 97 <;> simp [h]
 ·conv=>lhs; unfold DG
  rw [if_neg (by simp)]
theorem SL (s:List UInt8) (h:s.length<=99999):D6 s 100000 0=some (if s.any QW=true then .inr false else .inl ()):=by
 rw [<-N2 s 0]
 refine Io s (D6 s) _ _ 100000 (by omega) (fun f pre v r e=>?_) (fun f=>?_)
 ·conv=>lhs; unfold D6
  rw [e,if_pos (IJ pre v r),EM,OS,OS,Fo pre v r (by rw [<-e]; omega)]
  unfold QW
  by_cases h:(v.toNat:Int) < 97 <;> simp [h]
 ·conv=>lhs; unfold D6
  rw [if_neg (by simp)]
theorem QA (s:List UInt8) (h:s.length<=99999):Ea s=some (Do s):=by
 unfold Ea Do
 rw [TT s h,OS]
 cases hb:s.any QW
 ·by_cases h1:s.length < 1
  ·have:s.length=0:=by omega
   simp [this]
  ·simp [show (s.length:Int)≥1 by omega,show 1<=s.length by omega]; omega
 ·simp
theorem On (s:List UInt8) (h:s.length<=99999):Gq s=some (Do s):=by
 unfold Gq Do
 by_cases h1:s.length < 1
 ·have:s.length=0:=by omega
  simp [this]
 ·by_cases h2:s.length > 12
  ·simp [show ¬ ((s.length:Int) < 1) by omega,show ((s.length:Int) > 12) by omega,show ¬ (s.length<=12) by omega]
  ·rw [SL s h]
   cases hb:s.any QW
   ·simp [show ¬ ((s.length:Int) < 1) by omega,show ¬ ((s.length:Int) > 12) by omega,show (s.length<=12) by omega,show 1<=s.length by omega]
   ·simp [show ¬ ((s.length:Int) < 1) by omega,show ¬ ((s.length:Int) > 12) by omega]
theorem SZ (l:List (List UInt8)) (h:l.length<=99999) (hs:∀ s ∈ l,s.length<=99999):AR l=some (l.any fun s=>!Do s):=by
 unfold AR Ak
 obtain ⟨n,h1,h2⟩:=M7 l h Dr (fun s=>!Do s) (fun x hx=>by unfold Dr; rw [QA x (hs x hx)]; rfl) (Am l) (fun f c=>rfl)
 rw [<-h2]
 exact (congrArg (fun o=>o.bind fun v1=>some (decide (v1≥0))) h1)
def Nk (l:List (List UInt8)) (s:List UInt8):Bool:=l.any fun v=>s==v
theorem Kn (l:List (List UInt8)) (s:List UInt8) (h:l.length<=99999):At l s=some (Nk l s):=by
 unfold At BZ
 obtain ⟨n,h1,h2⟩:=M7 l h (fun v=>some (s==v)) (fun v=>s==v) (fun _ _=>rfl) (Bd l s) (fun f c=>rfl)
 unfold Nk
 rw [<-h2]
 exact (congrArg (fun o=>o.bind fun v1=>some (decide (v1≥0))) h1)
theorem P4 (s:List UInt8):∀ (l:List (List UInt8)) (i:Nat),goU (fun v _ (k:Option (Unit ⊕ Bool))=>if (v==s)=true then some (.inr true) else k) (some (.inl ())) l i=some (if Nk l s=true then .inr true else .inl ())
 | [],_=>rfl
 | c::l,i=>by
  unfold goU
  rw [P4 s l (i + 1)]
  have:Nk (c::l) s=((c==s)||Nk l s):=by
   unfold Nk
   rw [List.any_cons,Bool.beq_comm]
  rw [this]
  cases (c==s) <;> rfl
theorem Rh (l:List (List UInt8)) (s:List UInt8) (h:l.length<=99999):FR l s=some (Nk l s):=by
 unfold FR
 have e:=UV l (FS l s) (fun v _ (k:Option (Unit ⊕ Bool))=>if (v==s)=true then some (.inr true) else k) (some (.inl ())) 100000 (by omega) (by omega) (fun f c=>rfl)
 rw [e,P4]
 cases Nk l s <;> rfl
/-- What is asked of the fields, by a row: names, from, to, last. -/
def fin (L:Nat) (n:Int) (la:Bool) (w:Int×Int×Int×Bool):Option Bool :=
 (if (decide ((L:Int)<=w.1))=true then if (w.1==0)=true then if (decide (n≥w.2.1))=true then if (decide (n<=w.2.2.1))=true then if w.2.2.2=true then some true else some (!la) else some false else some false else if (decide ((L:Int) > 0))=true then if (decide (n≥w.2.1))=true then if (decide (n<=w.2.2.1))=true then if w.2.2.2=true then some true else some (!la) else some false else some false else some false else some false).bind fun j58=>some j58
theorem Im (L:Nat) (n:Int) (la:Bool) (a lo hi:Int) (last:Bool):fin L n la (a,lo,hi,last)=some ((decide ((L:Int)<=a)&&(a==0||decide ((L:Int) > 0)))&&(decide (n≥lo)&&(decide (n<=hi)&&(last||!la)))):=by
 unfold fin
 dsimp only
 generalize decide ((L:Int)<=a)=b1
 generalize (a==0)=b2
 generalize decide ((L:Int) > 0)=b3
 generalize decide (n≥lo)=b4
 generalize decide (n<=hi)=b5
 cases b1 <;> cases b2 <;> cases b3 <;> cases b4 <;> cases b5 <;> cases last <;> cases la <;> rfl
theorem NI (x:AG):∃ b,BK x=some b/\Aj x=some b:=by
 obtain ⟨k,am,la,nm,n⟩:=x
 by_cases h1:k=1
 ·subst h1
  have hr:Aj (1,am,la,nm,n)=some ((decide (1<=(nm.length:Int))&&decide ((nm.length:Int)<=16))&&((n==0)&&(!la&&(am==[])))):=by
   unfold Aj
   unfold A8
   dsimp only
   generalize decide (1<=(nm.length:Int))=b0
   generalize decide ((nm.length:Int)<=16)=b1
   generalize (n==0)=b2
   generalize (am==[])=b3
   cases b0 <;> cases b1 <;> cases b2 <;> cases la <;> cases b3 <;> rfl
  refine ⟨_,?_,hr⟩
  cases am with
  | cons a am =>
   have hc:BK (1,a::am,la,nm,n)=some false:=rfl
   rw [hc]
   simp
  | nil =>
   have hc:BK (1,[],la,nm,n)=fin nm.length n la (16,0,0,false):=rfl
   rw [hc,Im]
   congr 1
   rw [Bool.eq_iff_iff]
   generalize nm.length=L
   cases la <;> simp <;> omega
 by_cases h2:k=2
 ·subst h2
  have hr:Aj (2,am,la,nm,n)=some (((nm.length:Int)==0)&&((n==0)&&!la)):=by
   unfold Aj
   unfold A8
   dsimp only
   generalize ((nm.length:Int)==0)=b0
   generalize (n==0)=b1
   cases b0 <;> cases b1 <;> cases la <;> rfl
  refine ⟨_,?_,hr⟩
  have hc:BK (2,am,la,nm,n)=fin nm.length n la (0,0,0,false):=rfl
  rw [hc,Im]
  congr 1
  rw [Bool.eq_iff_iff]
  generalize nm.length=L
  cases la <;> simp <;> omega
 by_cases h3:k=3
 ·subst h3
  have hr:Aj (3,am,la,nm,n)=some (((nm.length:Int)==0)&&((n==0)&&!la)):=by
   unfold Aj
   unfold A8
   dsimp only
   generalize ((nm.length:Int)==0)=b0
   generalize (n==0)=b1
   cases b0 <;> cases b1 <;> cases la <;> rfl
  refine ⟨_,?_,hr⟩
  have hc:BK (3,am,la,nm,n)=fin nm.length n la (0,0,0,false):=rfl
  rw [hc,Im]
  congr 1
  rw [Bool.eq_iff_iff]
  generalize nm.length=L
  cases la <;> simp <;> omega
 by_cases h8:k=8
 ·subst h8
  have hr:Aj (8,am,la,nm,n)=some (((nm.length:Int)==0)&&((n==0)&&!la)):=by
   unfold Aj
   unfold A8
   dsimp only
   generalize ((nm.length:Int)==0)=b0
   generalize (n==0)=b1
   cases b0 <;> cases b1 <;> cases la <;> rfl
  refine ⟨_,?_,hr⟩
  have hc:BK (8,am,la,nm,n)=fin nm.length n la (0,0,0,false):=rfl
  rw [hc,Im]
  congr 1
  rw [Bool.eq_iff_iff]
  generalize nm.length=L
  cases la <;> simp <;> omega
 by_cases h9:k=9
 ·subst h9
  have hr:Aj (9,am,la,nm,n)=some (((nm.length:Int)==0)&&((n==0)&&!la)):=by
   unfold Aj
   unfold A8
   dsimp only
   generalize ((nm.length:Int)==0)=b0
   generalize (n==0)=b1
   cases b0 <;> cases b1 <;> cases la <;> rfl
  refine ⟨_,?_,hr⟩
  have hc:BK (9,am,la,nm,n)=fin nm.length n la (0,0,0,false):=rfl
  rw [hc,Im]
  congr 1
  rw [Bool.eq_iff_iff]
  generalize nm.length=L
  cases la <;> simp <;> omega
 by_cases h4:k=4
 ·subst h4
  have hr:Aj (4,am,la,nm,n)=some (((nm.length:Int)==0)&&(decide (1<=n)&&decide (n<=2))):=by
   unfold Aj
   unfold A8
   dsimp only
   generalize ((nm.length:Int)==0)=b0
   generalize decide (1<=n)=b1
   generalize decide (n<=2)=b2
   cases b0 <;> cases b1 <;> cases b2 <;> cases la <;> rfl
  refine ⟨_,?_,hr⟩
  have hc:BK (4,am,la,nm,n)=fin nm.length n la (0,1,2,true):=rfl
  rw [hc,Im]
  congr 1
  rw [Bool.eq_iff_iff]
  generalize nm.length=L
  cases la <;> simp <;> omega
 by_cases h5:k=5
 ·subst h5
  have hr:Aj (5,am,la,nm,n)=some (((nm.length:Int)==0)&&(n==0)):=by
   unfold Aj
   unfold A8
   dsimp only
   generalize ((nm.length:Int)==0)=b0
   generalize (n==0)=b1
   cases b0 <;> cases b1 <;> cases la <;> rfl
  refine ⟨_,?_,hr⟩
  have hc:BK (5,am,la,nm,n)=fin nm.length n la (0,0,0,true):=rfl
  rw [hc,Im]
  congr 1
  rw [Bool.eq_iff_iff]
  generalize nm.length=L
  cases la <;> simp <;> omega
 by_cases h6:k=6
 ·subst h6
  have hr:Aj (6,am,la,nm,n)=some ((decide (1<=(nm.length:Int))&&decide ((nm.length:Int)<=16))&&(n==0)):=by
   unfold Aj
   unfold A8
   dsimp only
   generalize decide (1<=(nm.length:Int))=b0
   generalize decide ((nm.length:Int)<=16)=b1
   generalize (n==0)=b2
   cases b0 <;> cases b1 <;> cases b2 <;> cases la <;> rfl
  refine ⟨_,?_,hr⟩
  have hc:BK (6,am,la,nm,n)=fin nm.length n la (16,0,0,true):=rfl
  rw [hc,Im]
  congr 1
  rw [Bool.eq_iff_iff]
  generalize nm.length=L
  cases la <;> simp <;> omega
 by_cases h7:k=7
 ·subst h7
  have hr:Aj (7,am,la,nm,n)=some ((decide (1<=(nm.length:Int))&&decide ((nm.length:Int)<=16))&&(n==0)):=by
   unfold Aj
   unfold A8
   dsimp only
   generalize decide (1<=(nm.length:Int))=b0
   generalize decide ((nm.length:Int)<=16)=b1
   generalize (n==0)=b2
   cases b0 <;> cases b1 <;> cases b2 <;> cases la <;> rfl
  refine ⟨_,?_,hr⟩
  have hc:BK (7,am,la,nm,n)=fin nm.length n la (16,0,0,true):=rfl
  rw [hc,Im]
  congr 1
  rw [Bool.eq_iff_iff]
  generalize nm.length=L
  cases la <;> simp <;> omega
 by_cases h10:k=10
 ·subst h10
  have hr:Aj (10,am,la,nm,n)=some (((nm.length:Int)==0)&&((decide (0<=n)&&decide (n<=63))&&!la)):=by
   unfold Aj
   unfold A8
   dsimp only
   generalize ((nm.length:Int)==0)=b0
   generalize decide (0<=n)=b1
   generalize decide (n<=63)=b2
   cases b0 <;> cases b1 <;> cases b2 <;> cases la <;> rfl
  refine ⟨_,?_,hr⟩
  have hc:BK (10,am,la,nm,n)=fin nm.length n la (0,0,63,false):=rfl
  rw [hc,Im]
  congr 1
  rw [Bool.eq_iff_iff]
  generalize nm.length=L
  cases la <;> simp <;> omega
 have e:∀ m:Int,(m=1\/m=2\/m=3\/m=4\/m=5\/m=6\/m=7\/m=8\/m=9\/m=10)->(k==m)=false:=fun m hm=>by
  rw [beq_eq_false_iff_ne]
  rintro rfl
  omega
 refine ⟨false,?_,?_⟩
 ·simp [BK,Eh,Ei,Ej,Ek,El,Em,En,Eo,Ep,e]
 ·simp [Aj,Dd,De,Df,Dg,e]
def fm (x:AG):Bool:=(Aj x).getD false
theorem Up (x:AG):BK x=some (fm x):=by
 obtain ⟨b,h1,h2⟩:=NI x
 rw [h1]; unfold fm; rw [h2]; rfl
theorem Uq (x:AG):Aj x=some (fm x):=by
 obtain ⟨b,h1,h2⟩:=NI x
 unfold fm; rw [h2]; rfl
/-- Is a name there twice? -/
def Ra (l:List (List UInt8)):List (List UInt8)->Nat->Bool
 | [],_=>false
 | v::r,i=>Nk (l.take i) v||Ra l r (i + 1)
def JW (before:List AG) (am:List UInt8):Bool:=before.any fun b=>(b.1==1)&&Nk b.2.2.2.1 am
def chk (before:List AG) (x:AG):Int :=
 if fm x=false then 30 else
 if ((!(x.2.1==[]))&&!Do x.2.1)=true\/(x.2.2.2.1.any fun s=>!Do s)=true then 4 else
 if Ra x.2.2.2.1 x.2.2.2.1 0=true then 5 else
 if x.2.1=[]\/JW before x.2.1=true then 0 else 31
theorem N1 (l:List (List UInt8)):∀ (r:List (List UInt8)) (i:Nat),goU (fun v i (k:Option (Unit ⊕ Int))=>if Nk (l.take i) v=true then some (.inr 5) else k) (some (.inl ())) r i=some (if Ra l r i=true then .inr 5 else .inl ())
 | [],_=>rfl
 | v::r,i=>by
  unfold goU Ra
  rw [N1 l r (i + 1)]
  cases Nk (l.take i) v <;> rfl
theorem UG (b:List AG) (j:AG) (h:j.2.2.2.1.length<=99999):Cw b j 100000 0=some (if Ra j.2.2.2.1 j.2.2.2.1 0=true then .inr 5 else .inl ()):=by
 rw [<-N1]
 refine Io j.2.2.2.1 (Cw b j) _ _ 100000 (by omega) (fun f pre v r e=>?_) (fun f=>?_)
 ·conv=>lhs; unfold Cw
  have hl:j.2.2.2.1.length=pre.length + r.length + 1:=by rw [e]; simp; omega
  rw [if_pos (by rw [e]; exact IJ pre v r),show idx j.2.2.2.1 (pre.length:Int)=some v by rw [e,EM],OS,if_pos (by unfold GQ; simp; omega),Int.toNat_natCast]
  rw [show ((j.2.2.2.1.take pre.length).drop (0:Int).toNat)=j.2.2.2.1.take pre.length from rfl,Kn _ _ (by simp; omega),OS,Fo pre v r (by rw [<-e]; omega)]
 ·conv=>lhs; unfold Cw
  rw [if_neg (by simp)]
theorem RB (b:List AG) (x:AG) (h:b.length<=99999) (hb:∀ y ∈ b,y.2.2.2.1.length<=99999):AP b x=some (JW b x.2.1):=by
 unfold AP AX
 obtain ⟨n,h1,h2⟩:=M7 b h (fun v=>Dt v x) (fun y=>(y.1==1)&&Nk y.2.2.2.1 x.2.1) (fun y hy=>by
  unfold Dt
  rw [Kn _ _ (hb y hy)]
  cases (y.1==1) <;> rfl) (Ab b x) (fun f c=>rfl)
 unfold JW
 rw [<-h2]
 exact (congrArg (fun o=>o.bind fun v1=>some (decide (v1≥0))) h1)
theorem UD (b:List AG) (x:AG) (hb:few b) (hx:QV x):EU b x=some (chk b x):=by
 have hn:∀ s ∈ x.2.2.2.1,s.length<=99999:=fun s hs=>by have:=hx.2.2 s hs; omega
 unfold EU chk
 rw [Up,OS]
 cases hf:fm x with
 | false=>simp
 | true =>
  rw [if_neg (show ¬ ((!true)=true) by simp),if_neg (show ¬ (true=false) by simp),SZ _ (by have:=hx.2.1; omega) hn,QA _ (by have:=hx.1; omega)]
  have e:((if (!(x.2.1==[]))=true then (some (Do x.2.1)).bind fun v3=>if (!v3)=true then some true else (some (x.2.2.2.1.any fun s=>!Do s)).bind fun v4=>some v4 else (some (x.2.2.2.1.any fun s=>!Do s)).bind fun v5=>some v5):Option Bool)=some (((!(x.2.1==[]))&&!Do x.2.1)||(x.2.2.2.1.any fun s=>!Do s)):=by
   cases (x.2.1==[]) <;> cases Do x.2.1 <;> rfl
  rw [e,OS]
  cases hq:(((!(x.2.1==[]))&&!Do x.2.1)||(x.2.2.2.1.any fun s=>!Do s)) with
  | true=>rw [if_pos rfl,if_pos (by simpa using hq)]
  | false =>
   rw [if_neg (show ¬ (false=true) by simp),if_neg (show ¬ (((!(x.2.1==[]))&&!Do x.2.1)=true\/(x.2.2.2.1.any fun s=>!Do s)=true) by simpa using hq),UG _ _ (by have:=hx.2.1; omega),OS]
   try dsimp only
   cases hd:Ra x.2.2.2.1 x.2.2.2.1 0 with
   | true=>rfl
   | false =>
    rw [if_neg (show ¬ (false=true) by simp)]
    dsimp only
    have hr:=RB b x (by have:=hb.1; omega) (fun y hy=>by have:=(hb.2 y hy).2.1; omega)
    rw [hr]
    by_cases ha:x.2.1=[]
    ·simp [ha]
    ·simp only [ha,false_or]
     cases JW b x.2.1 <;> simp [ha]
/-- .. of the reference. -/
theorem Re:∀ (l:List (List UInt8)) (i:Nat),goU (fun v _ (k:Option (Unit ⊕ Int))=>if (!Do v)=true then some (.inr 4) else k) (some (.inl ())) l i=some (if (l.any fun s=>!Do s)=true then .inr 4 else .inl ())
 | [],_=>rfl
 | v::r,i=>by
  unfold goU
  rw [Re r (i + 1),List.any_cons]
  cases Do v <;> rfl
theorem Rg (am:List UInt8):∀ (l:List AG) (i:Nat),goU (fun (v:AG) _ (k:Option (Unit ⊕ Int))=>if ((v.1==1)&&Nk v.2.2.2.1 am)=true then some (.inr 0) else k) (some (.inl ())) l i=some (if JW l am=true then .inr 0 else .inl ())
 | [],_=>rfl
 | v::r,i=>by
  unfold goU
  have:JW (v::r) am=(((v.1==1)&&Nk v.2.2.2.1 am)||JW r am):=rfl
  rw [Rg am r (i + 1),this]
  cases ((v.1==1)&&Nk v.2.2.2.1 am) <;> rfl
section
variable (c pre r:List AG) (x:AG) (e:c=pre++x::r) (h:few c)
include e h
theorem QK:CA c (pre.length:Int) 100000 0=some (if (x.2.2.2.1.any fun s=>!Do s)=true then .inr 4 else .inl ()):=by
 have hx:QV x:=h.2 x (by rw [e]; simp)
 have hi:idx c (pre.length:Int)=some x:=by rw [e,EM]
 rw [<-Re _ 0]
 refine Io x.2.2.2.1 (CA c (pre.length:Int)) _ _ 100000 (by have:=hx.2.1; omega) (fun f p v q e'=>?_) (fun f=>?_)
 ·conv=>lhs; unfold CA
  have hv:=hx.2.2 v (by rw [e']; simp)
  rw [hi,OS,if_pos (by rw [e']; exact IJ p v q),OS,show idx x.2.2.2.1 (p.length:Int)=some v by rw [e',EM],OS,On v (by omega),OS,Fo p v q (by have:=hx.2.1; rw [<-e']; omega)]
 ·conv=>lhs; unfold CA
  rw [hi,OS,if_neg (by simp)]
theorem Se:CB c (pre.length:Int) 100000 0=some (if Ra x.2.2.2.1 x.2.2.2.1 0=true then .inr 5 else .inl ()):=by
 have hx:QV x:=h.2 x (by rw [e]; simp)
 have hi:idx c (pre.length:Int)=some x:=by rw [e,EM]
 rw [<-N1]
 refine Io x.2.2.2.1 (CB c (pre.length:Int)) _ _ 100000 (by have:=hx.2.1; omega) (fun f p v q e'=>?_) (fun f=>?_)
 ·conv=>lhs; unfold CB
  have hl:x.2.2.2.1.length=p.length + q.length + 1:=by rw [e']; simp; omega
  have:=hx.2.1
  rw [hi,OS,if_pos (by rw [e']; exact IJ p v q),OS,if_pos (by unfold GQ; simp; omega),OS,show idx x.2.2.2.1 (p.length:Int)=some v by rw [e',EM],OS,Int.toNat_natCast,
   show ((x.2.2.2.1.take p.length).drop (0:Int).toNat)=x.2.2.2.1.take p.length from rfl,Rh _ _ (by simp; omega),OS,Fo p v q (by rw [<-e']; omega)]
 ·conv=>lhs; unfold CB
  rw [hi,OS,if_neg (by simp)]
theorem PP:CC c (pre.length:Int) 100000 0=some (if JW pre x.2.1=true then .inr 0 else .inl ()):=by
 have hi:idx c (pre.length:Int)=some x:=by rw [e,EM]
 have hl:c.length=pre.length + r.length + 1:=by rw [e]; simp; omega
 have hc:=h.1
 rw [<-Rg _ _ 0]
 refine Io pre (CC c (pre.length:Int)) _ _ 100000 (by omega) (fun f p v q e'=>?_) (fun f=>?_)
 ·conv=>lhs; unfold CC
  have hv:QV v:=h.2 v (by rw [e,e']; simp)
  have hl2:pre.length=p.length + q.length + 1:=by rw [e']; simp; omega
  rw [if_pos (by simp; omega),show idx c (p.length:Int)=some v by rw [e,e',List.append_assoc,List.cons_append,EM],OS,hi,OS,OS,Rh _ _ (by have:=hv.2.1; omega),Fo p v q (by rw [<-e']; omega)]
  cases (v.1==1) <;> rfl
 ·conv=>lhs; unfold CC
  rw [if_neg (by simp)]
theorem UE:DO c (pre.length:Int)=some (chk pre x):=by
 have hx:QV x:=h.2 x (by rw [e]; simp)
 have hi:idx c (pre.length:Int)=some x:=by rw [e,EM]
 unfold DO chk
 rw [hi,OS,Uq,OS,OS,OS,QK c pre r x e h,Se c pre r x e h,PP c pre r x e h,On _ (by have:=hx.1; omega)]
 cases hf:fm x with
 | false=>simp
 | true =>
  rw [if_neg (show ¬ ((!true)=true) by simp),if_neg (show ¬ (true=false) by simp)]
  have e2:((if (!(x.2.1==[]))=true then (some (Do x.2.1)).bind fun v6=>some (!v6) else some false):Option Bool)=some ((!(x.2.1==[]))&&!Do x.2.1):=by
   cases (x.2.1==[]) <;> rfl
  rw [e2,OS,OS]
  cases hq:((!(x.2.1==[]))&&!Do x.2.1) <;> cases hn:(x.2.2.2.1.any fun s=>!Do s) <;> cases hd:Ra x.2.2.2.1 x.2.2.2.1 0 <;> cases hr:JW pre x.2.1 <;> by_cases ha:x.2.1=[] <;> simp [ha]
end
/-- The first error of a text: its place, and which. -/
def Pm (c:List AG):List AG->Nat->Unit ⊕ (Int×Int)
 | [],_=> .inl ()
 | x::r,i=>if chk (c.take i) x≠0 then .inr ((i:Int),chk (c.take i) x) else Pm c r (i + 1)
def Po (c:List AG):Int×Int:=if c.length > 32 then (0,7) else match Pm c c 0 with
 | .inl _=>(0,0)
 | .inr w=>w
theorem N0 (c:List AG):∀ (r:List AG) (i:Nat),goU (fun x i (k:Option (Unit ⊕ (Int×Int)))=>if (chk (c.take i) x != 0)=true then some (.inr ((i:Int),chk (c.take i) x)) else k) (some (.inl ())) r i=some (Pm c r i)
 | [],_=>rfl
 | x::r,i=>by
  unfold goU Pm
  rw [N0 c r (i + 1)]
  by_cases h:chk (c.take i) x=0 <;> simp [h]
theorem Qw {c:List AG}(h:few c) (n:Nat):few (c.take n):=⟨by have:=h.1; simp; omega,fun x hx=>h.2 x (List.mem_of_mem_take hx)⟩
theorem Pk (c:List AG) (h:few c):ET c=some (Po c):=by
 have hl:=h.1
 have e1:Cv c 100000 0=some (Pm c c 0):=by
  rw [<-N0]
  refine Io c (Cv c) _ _ 100000 (by omega) (fun f pre v r e=>?_) (fun f=>?_)
  ·conv=>lhs; unfold Cv
   have hl2:c.length=pre.length + r.length + 1:=by rw [e]; simp; omega
   rw [if_pos (by rw [e]; exact IJ pre v r),show idx c (pre.length:Int)=some v by rw [e,EM],OS,if_pos (by unfold GQ; simp; omega),Int.toNat_natCast,
    show ((c.take pre.length).drop (0:Int).toNat)=c.take pre.length from rfl,UD _ v (Qw h _) (h.2 v (by rw [e]; simp)),OS,Fo pre v r (by rw [<-e]; omega)]
  ·conv=>lhs; unfold Cv
   rw [if_neg (by simp)]
 unfold ET Po
 by_cases h32:c.length > 32
 ·rw [if_pos (by simp; omega),if_pos h32]
 ·rw [if_neg (by simp; omega),if_neg h32,e1,OS]
  cases Pm c c 0 <;> rfl
theorem R7 (c:List AG) (h:few c):EX c=some (Po c):=by
 have hl:=h.1
 have e1:Cy c 100000 0=some (Pm c c 0):=by
  rw [<-N0]
  refine Io c (Cy c) _ _ 100000 (by omega) (fun f pre v r e=>?_) (fun f=>?_)
  ·conv=>lhs; unfold Cy
   rw [if_pos (by rw [e]; exact IJ pre v r),UE c pre r v e h,OS,Fo pre v r (by rw [<-e]; omega),show c.take pre.length=pre by rw [e]; simp]
  ·conv=>lhs; unfold Cy
   rw [if_neg (by simp)]
 unfold EX Po
 by_cases h32:c.length > 32
 ·rw [if_pos (by simp; omega),if_pos h32]
 ·rw [if_neg (by simp; omega),if_neg h32,e1,OS]
  cases Pm c c 0 <;> rfl
theorem Ky {α:Type}(f:α->List UInt8) (B:Nat):∀ (xs:List α),(∀ x ∈ xs,(f x).length<=B)->((xs.map f).flatten).length<=xs.length * B
 | [],_=>by simp
 | x::r,h=>by
  have h1:=h x (by simp)
  have h2:=Ky f B r fun y hy=>h y (List.mem_cons_of_mem _ hy)
  simp only [List.map_cons,List.flatten_cons,List.length_append,List.length_cons,Nat.add_mul]
  omega
/-- A number below 100. -/
def Q4 (n:Nat):List UInt8:=(Cz (n:Int)).getD []
theorem Sc:((List.range 100).all fun n=>(Cz (n:Int)==some (Q4 n))&&((EE (n:Int)==some (Q4 n))&&(decide (0 < (Q4 n).length)&&decide ((Q4 n).length<=2))))=true:=by kernel_rfl
theorem TV {n:Nat}(h:n < 100):Cz (n:Int)=some (Q4 n)/\EE (n:Int)=some (Q4 n)/\0 < (Q4 n).length/\(Q4 n).length<=2:=by
 have:=List.all_eq_true.1 Sc n (by simpa using h)
 simp only [Bool.and_eq_true,beq_iff_eq,decide_eq_true_eq] at this
 exact ⟨this.1,this.2.1,this.2.2.1,this.2.2.2⟩
/-- .. as a number. -/
def QE (x:Int):List UInt8:=Q4 x.toNat
theorem Sb {x:Int}(h0:0<=x) (h:x < 100):Cz x=some (QE x)/\EE x=some (QE x)/\0 < (QE x).length/\(QE x).length<=2:=by
 obtain ⟨n,rfl⟩:=Int.eq_ofNat_of_zero_le h0
 have:=TV (n:=n) (by omega)
 unfold QE
 rw [Int.toNat_natCast]
 exact this
theorem Tp {σ ρ:Type}(n:Nat) (S:Nat->σ) (R:Option ρ) (L:Nat->Int->σ->Option ρ) (hn:n<=99999) (hs:∀ i,i < n->∀ f,L (f + 1) (i:Int) (S i)=L f (wr .i64 ((i:Int) + 1)) (S (i + 1))) (he:∀ f,L (f + 1) (n:Int) (S n)=R):L 100000 0 (S 0)=R:=by
 have go:∀ (d i f:Nat),i + d=n->d < f->L f (i:Int) (S i)=R:=by
  intro d
  induction d with
  | zero =>
   intro i f e hf
   obtain ⟨f,rfl⟩:∃ q,f=q + 1:=⟨f - 1,by omega⟩
   rw [show i=n by omega]; exact he f
  | succ d ih =>
   intro i f e hf
   obtain ⟨f,rfl⟩:∃ q,f=q + 1:=⟨f - 1,by omega⟩
   rw [hs i (by omega) f,Ui (by omega) (by omega),show ((i:Int) + 1)=((i + 1:Nat):Int) by omega]
   exact ih (i + 1) f (by omega) (by omega)
 exact go n 0 100000 (by omega) (by omega)
theorem Fq {s:List UInt8}(h:s.length<=10000000):okB s=true:=Nat.ble_eq_true_of_le (Nat.le_trans h (Nat.le_of_ble_eq_true (by kernel_rfl)))
theorem Kh {α:Type}{xs:List α}{i:Nat}(h:i < xs.length):xs.take (i + 1)=xs.take i++[xs[i]]:=List.take_succ_eq_append_getElem h
theorem IW {x:AG}(h:fm x=true):1<=x.1/\x.1<=10:=by
 by_cases hk:1<=x.1/\x.1<=10
 ·exact hk
 ·exfalso
  have n:∀ q:Int,1<=q->q<=10->¬ (x.1==q)=true:=fun q h1 h2 e=>hk (by have:x.1=q:=(by simpa using e); omega)
  have e:Aj x=some false:=by
   unfold Aj Dd De Df Dg
   have n9:(x.1==9)=false:=by simpa using n 9 (by omega) (by omega)
   have n7:(x.1==7)=false:=by simpa using n 7 (by omega) (by omega)
   rw [if_neg (n 1 (by omega) (by omega)),if_neg (n 2 (by omega) (by omega)),if_neg (n 3 (by omega) (by omega)),if_neg (n 8 (by omega) (by omega)),if_neg (n 4 (by omega) (by omega)),if_neg (n 5 (by omega) (by omega)),if_neg (n 6 (by omega) (by omega)),if_neg (n 10 (by omega) (by omega)),n9,n7]
   rfl
  unfold fm at h
  rw [e] at h
  cases h
theorem TJ {x:AG}(h:fm x=true) (hk:x.1=4\/x.1=10):0<=x.2.2.2.2/\x.2.2.2.2 < 100:=by
 unfold fm Aj Dd De Df Dg A8 at h
 rcases hk with hk | hk
 ·by_cases a:1<=x.2.2.2.2
  ·by_cases b:x.2.2.2.2<=2
   ·omega
   ·simp [hk,a,b] at h
  ·simp [hk,a] at h
 ·by_cases a:0<=x.2.2.2.2
  ·by_cases b:x.2.2.2.2<=63
   ·omega
   ·simp [hk,a,b] at h
  ·simp [hk,a] at h
theorem Pn (c:List AG):∀ (r:List AG) (i:Nat),(∃ u,Pm c r i = .inl u/\∀ x ∈ r,fm x=true)\/∃ w,Pm c r i = .inr w/\w.2≠0
 | [],i=> .inl ⟨(),rfl,fun x hx=>by cases hx⟩
 | x::r,i=>by
  unfold Pm
  by_cases h:chk (c.take i) x=0
  ·rw [if_neg (by simpa using h)]
   rcases Pn c r (i + 1) with ⟨u,h1,h2⟩ | h1
   ·refine .inl ⟨u,h1,fun y hy=>?_⟩
    rcases List.mem_cons.1 hy with rfl | hy
    ·cases hf:fm y with
     | true=>rfl
     | false=>unfold chk at h; rw [if_pos hf] at h; cases h
    ·exact h2 y hy
   ·exact .inr h1
  ·rw [if_pos h]
   exact .inr ⟨_,rfl,h⟩
theorem RO {c:List AG}(h:(Po c).2=0):∀ x ∈ c,fm x=true:=by
 unfold Po at h
 split at h
 ·cases h
 ·rcases Pn c c 0 with ⟨u,h1,h2⟩ | ⟨w,h1,h2⟩
  ·exact h2
  ·rw [h1] at h; exact absurd h h2
def wdB (k:Int):List UInt8:=(FD k).getD []
theorem OP {k:Int}(h1:1<=k) (h2:k<=10):FD k=some (wdB k)/\GC (wr .i64 k)=some (wdB k)/\0 < (wdB k).length/\(wdB k).length<=10:=by
 have:k=1\/k=2\/k=3\/k=4\/k=5\/k=6\/k=7\/k=8\/k=9\/k=10:=by omega
 rcases this with rfl | rfl | rfl | rfl | rfl | rfl | rfl | rfl | rfl | rfl <;> exact ⟨rfl,rfl,by decide,by decide⟩
-- the parts of a line
def lnA (x:AG):List UInt8:=if (!(x.2.1==[]))=true then [97,109,111,110,103,32]++x.2.1++[32] else []
def lnN (x:AG):List UInt8:=if ((x.1==4)||(x.1==10))=true then [32]++QE x.2.2.2.2 else []
def lnL (x:AG):List UInt8:=if (decide (x.1≥4)&&decide (x.1<=7))=true then (if x.2.2.1=true then [32,108,97,115,116] else [32,102,105,114,115,116]) else []
def lnS (l:List (List UInt8)):List UInt8:=(l.map fun s=>[32]++s).flatten
def lnF (x:AG):List UInt8:=lnA x++(wdB x.1++(lnN x++(lnL x++(lnS x.2.2.2.1++[10]))))
def txF (c:List AG):List UInt8:=(c.map lnF).flatten
theorem Oo (l:List (List UInt8)) (s:List UInt8):lnS (l++[s])=lnS l++([32]++s):=by
 unfold lnS
 rw [List.map_append,List.flatten_append]; simp
theorem O3 (c:List AG) (x:AG):txF (c++[x])=txF c++lnF x:=by
 unfold txF
 rw [List.map_append,List.flatten_append]; simp
section
variable {x:AG}(hf:QV x) (hx:fm x=true)
include hf hx
theorem MT:(lnA x).length<=47:=by
 have _:=hx
 have:=hf.1
 unfold lnA
 split
 ·simp; omega
 ·simp
theorem P8:((x.1==4)||(x.1==10))=true->Cz x.2.2.2.2=some (QE x.2.2.2.2)/\EE x.2.2.2.2=some (QE x.2.2.2.2)/\(QE x.2.2.2.2).length<=2:=fun h=>by
 have _:=hf
 obtain ⟨a,b⟩:=TJ hx (by simpa using h)
 obtain ⟨n1,n2,_,n4⟩:=Sb a b
 exact ⟨n1,n2,n4⟩
theorem MU:(lnN x).length<=3:=by
 unfold lnN
 split
 ·next h =>
  have:=(P8 hf hx h).2.2
  simp; omega
 ·simp
omit hf hx in
theorem N7:(lnL x).length<=6:=by
 unfold lnL
 split
 ·split <;> simp
 ·simp
omit hx in
theorem J1 (l:List (List UInt8)) (hl:∀ s ∈ l,s ∈ x.2.2.2.1) (hn:l.length<=20):(lnS l).length<=820:=by
 have:=Ky (fun s=>[32]++s) 41 l fun s hs=>by
  have:=hf.2.2 s (hl s hs)
  simp; omega
 unfold lnS
 omega
theorem SS:(lnF x).length<=1000:=by
 have h1:=MT hf hx
 have h2:=(OP (IW hx).1 (IW hx).2).2.2.2
 have h3:=MU hf hx
 have h4:=N7 (x:=x)
 have h5:=J1 hf x.2.2.2.1 (fun _ h=>h) hf.2.1
 unfold lnF
 simp only [List.length_append,List.length_cons,List.length_nil]
 omega
theorem Un (acc:List UInt8) (ha:acc.length<=1000000):D2 acc x=some (acc++lnA x):=by
 have h1:=MT hf hx
 have:=hf.1
 unfold D2
 unfold lnA at h1 ⊢
 by_cases h:(!(x.2.1==[]))=true
 ·rw [if_pos h] at h1
  rw [if_pos h,if_pos h,if_pos (Fq (by simp; omega)),if_pos (Fq (by omega)),if_pos (by simp),if_pos (FO (by omega) (by omega))]
 ·rw [if_neg h,if_neg h,List.append_nil]
theorem UX (r w:List UInt8) (hr:(r++w).length<=1000000):D3 x r w ((x.1==4)||(x.1==10))=some (r++w++lnN x):=by
 have h1:=MU hf hx
 unfold D3
 unfold lnN at h1 ⊢
 by_cases h:((x.1==4)||(x.1==10))=true
 ·obtain ⟨n1,_,n3⟩:=P8 hf hx h
  rw [if_pos h] at h1
  rw [if_pos h,if_pos h,n1,OS,if_pos (Fq (by omega)),if_pos (by simp),if_pos (FO (by omega) (by omega))]
 ·rw [if_neg h,if_neg h,List.append_nil]
omit hf hx in
theorem TN (r:List UInt8) (hr:r.length<=1000000):D4 x r (decide (x.1≥4)&&decide (x.1<=7))=some (r++lnL x):=by
 unfold D4 Eg lnL
 by_cases h:(decide (x.1≥4)&&decide (x.1<=7))=true
 ·rw [if_pos h,if_pos h]
  by_cases h2:x.2.2.1=true
  ·rw [if_pos h2,if_pos h2,if_pos (by simp),if_pos (FO (by omega) (by simp; omega))]; rfl
  ·rw [if_neg h2,if_neg h2,if_pos (by simp),if_pos (FO (by omega) (by simp; omega))]; rfl
 ·rw [if_neg h,if_neg h,List.append_nil]
omit hx in
theorem SY (acc:List UInt8) (ha:acc.length<=1000000):Bo x 100000 0 acc=some (acc++lnS x.2.2.2.1):=by
 have hn:=hf.2.1
 have hh:=Tp (σ:=List UInt8) x.2.2.2.1.length (fun k=>acc++lnS (x.2.2.2.1.take k)) (some (acc++lnS x.2.2.2.1)) (fun f c q=>Bo x f c q) (by omega) (fun k hk f=>by
  show Bo x (f + 1) (k:Int) (acc++lnS (x.2.2.2.1.take k))=_
  conv=>lhs; unfold Bo
  have hl:=J1 hf (x.2.2.2.1.take k) (fun s hs=>List.mem_of_mem_take hs) (by rw [List.length_take]; omega)
  have hs:=hf.2.2 _ (List.getElem_mem hk)
  have e:acc++lnS (x.2.2.2.1.take k)++([32]++x.2.2.2.1[k])=acc++lnS (x.2.2.2.1.take (k + 1)):=by
   rw [Kh hk,Oo,List.append_assoc]
  rw [if_pos (by simp; omega),Ok hk,OS,if_pos (Fq (by simp; omega)),if_pos (by simp),if_pos (FO (by omega) (by simp only [List.length_append]; simp; omega)),e]) (fun f=>by
  show Bo x (f + 1) (x.2.2.2.1.length:Int) _=_
  conv=>lhs; unfold Bo
  rw [if_neg (by simp),List.take_length])
 have hh':Bo x 100000 0 (acc++[])=some (acc++lnS x.2.2.2.1):=hh
 rwa [List.append_nil] at hh'
end
section
variable {c:List AG}(hc:few c) (hv:∀ x ∈ c,fm x=true)
include hc hv
theorem OJ (m:List AG) (hm:∀ x ∈ m,x ∈ c) (hl:m.length<=40):(txF m).length<=40000:=by
 have:=Ky lnF 1000 m fun x hx=>SS (hc.2 x (hm x hx)) (hv x (hm x hx))
 unfold txF
 omega
theorem Px:B5 c 100000 0 []=some (txF c):=by
 have hn:=hc.1
 exact Tp (σ:=List UInt8) c.length (fun k=>txF (c.take k)) (some (txF c)) (fun f i q=>B5 c f i q) (by omega) (fun k hk f=>by
  show B5 c (f + 1) (k:Int) (txF (c.take k))=_
  conv=>lhs; unfold B5
  have hm:c[k] ∈ c:=List.getElem_mem hk
  have hf:=hc.2 _ hm
  have hx:=hv _ hm
  have hl:=OJ hc hv (c.take k) (fun x hx=>List.mem_of_mem_take hx) (by rw [List.length_take]; omega)
  have a1:=MT hf hx
  obtain ⟨w1,_,w3,w4⟩:=OP (IW hx).1 (IW hx).2
  have a3:=MU hf hx
  have a4:=N7 (x:=c[k])
  have a5:=J1 hf c[k].2.2.2.1 (fun _ h=>h) hf.2.1
  have e1:(if (c[k].1==4)=true then some true else some (c[k].1==10))=some ((c[k].1==4)||(c[k].1==10)):=by cases (c[k].1==4) <;> rfl
  have e2:(if (decide (c[k].1≥4))=true then some (decide (c[k].1<=7)) else some false)=some (decide (c[k].1≥4)&&decide (c[k].1<=7)):=by cases (decide (c[k].1≥4)) <;> rfl
  have e3:txF (c.take (k + 1))=txF (c.take k)++lnA c[k]++wdB c[k].1++lnN c[k]++lnL c[k]++lnS c[k].2.2.2.1++[10]:=by
   rw [Kh hk,O3]
   unfold lnF
   simp only [List.append_assoc]
  have l1:(txF (c.take k)++lnA c[k]++wdB c[k].1).length<=100000:=by simp only [List.length_append]; omega
  have l2:(txF (c.take k)++lnA c[k]++wdB c[k].1++lnN c[k]).length<=100000:=by simp only [List.length_append]; omega
  have l3:(txF (c.take k)++lnA c[k]++wdB c[k].1++lnN c[k]++lnL c[k]).length<=100000:=by simp only [List.length_append]; omega
  have l4:(txF (c.take k)++lnA c[k]++wdB c[k].1++lnN c[k]++lnL c[k]++lnS c[k].2.2.2.1).length<=100000:=by simp only [List.length_append]; omega
  have l0:(txF (c.take k)++lnA c[k]).length<=100000:=by simp only [List.length_append]; omega
  rw [if_pos (by simp; omega),Ok hk,OS,Un hf hx _ (by omega),OS,w1,OS,if_pos (by simpa using w3),if_pos (FO (by omega) (by omega)),e1,OS,UX hf hx _ _ (by omega),OS,e2,OS,TN _ (by omega),OS,SY hf _ (by omega),OS,if_pos (by simp),if_pos (FO (by omega) (by simp; omega)),e3]) (fun f=>by
  show B5 c (f + 1) (c.length:Int) _=_
  conv=>lhs; unfold B5
  rw [if_neg (by simp),List.take_length])
theorem Py:D9 c=some (txF c):=by
 have hn:=hc.1
 have hh:=Tp (σ:=List UInt8) c.length (fun k=>txF (c.take k)) (some (txF c)) (fun f i q=>B6 c f q i) (by omega) (fun k hk f=>by
  show B6 c (f + 1) (txF (c.take k)) (k:Int)=_
  conv=>lhs; unfold B6
  have hm:c[k] ∈ c:=List.getElem_mem hk
  have hf:=hc.2 _ hm
  have hx:=hv _ hm
  have hi:idx c (k:Int)=some c[k]:=Ok hk
  have hl:=OJ hc hv (c.take k) (fun x hx=>List.mem_of_mem_take hx) (by rw [List.length_take]; omega)
  have a1:=MT hf hx
  obtain ⟨_,w2,_,w4⟩:=OP (IW hx).1 (IW hx).2
  have a3:=MU hf hx
  have a4:=N7 (x:=c[k])
  have a5:=J1 hf c[k].2.2.2.1 (fun _ h=>h) hf.2.1
  have l0:(txF (c.take k)++lnA c[k]).length<=100000:=by simp only [List.length_append]; omega
  have l1:(txF (c.take k)++lnA c[k]++wdB c[k].1).length<=100000:=by simp only [List.length_append]; omega
  have l2:(txF (c.take k)++lnA c[k]++wdB c[k].1++lnN c[k]).length<=100000:=by simp only [List.length_append]; omega
  have l3:(txF (c.take k)++lnA c[k]++wdB c[k].1++lnN c[k]++lnL c[k]).length<=100000:=by simp only [List.length_append]; omega
  have l4:(txF (c.take k)++lnA c[k]++wdB c[k].1++lnN c[k]++lnL c[k]++lnS c[k].2.2.2.1).length<=100000:=by simp only [List.length_append]; omega
  have h2:EA c (txF (c.take k)) (k:Int) c[k]=some (txF (c.take k)++lnA c[k]):=by
   have:=hf.1
   unfold EA
   unfold lnA at l0 ⊢
   by_cases h:(!(c[k].2.1==[]))=true
   ·rw [if_pos h,if_pos h,if_pos (Fq (by simp; omega)),hi,OS,if_pos (Fq (by simp; omega)),if_pos (Fq (by simp; omega))]
    simp only [List.append_assoc]
   ·rw [if_neg h,if_neg h,List.append_nil]
  have e1:(if (c[k].1==4)=true then some true else (idx c (k:Int)).bind fun v16=>some (v16.1==10))=some ((c[k].1==4)||(c[k].1==10)):=by rw [hi]; cases (c[k].1==4) <;> rfl
  have e2:(if (decide (c[k].1≥4))=true then (idx c (k:Int)).bind fun v27=>some (decide (v27.1<=7)) else some false)=some (decide (c[k].1≥4)&&decide (c[k].1<=7)):=by rw [hi]; cases (decide (c[k].1≥4)) <;> rfl
  have h3:EB c (k:Int) (txF (c.take k)++lnA c[k]) (wdB c[k].1) ((c[k].1==4)||(c[k].1==10))=some (txF (c.take k)++lnA c[k]++wdB c[k].1++lnN c[k]):=by
   unfold EB
   unfold lnN at l2 ⊢
   by_cases h:((c[k].1==4)||(c[k].1==10))=true
   ·obtain ⟨_,n2,n3⟩:=P8 hf hx h
    rw [if_pos h] at l2
    rw [if_pos h,if_pos h,if_pos (Fq (by simp only [List.length_append] at l1 ⊢; simp; omega)),hi,OS,n2,OS]
    have:txF (c.take k)++lnA c[k]++wdB c[k].1++[32]++QE c[k].2.2.2.2=txF (c.take k)++lnA c[k]++wdB c[k].1++([32]++QE c[k].2.2.2.2):=by rw [List.append_assoc (txF (c.take k)++lnA c[k]++wdB c[k].1)]
    rw [this,if_pos (Fq (by omega))]
   ·rw [if_neg h,if_neg h,List.append_nil]
  have h4:EC c (k:Int) (txF (c.take k)++lnA c[k]++wdB c[k].1++lnN c[k]) (decide (c[k].1≥4)&&decide (c[k].1<=7))=some (txF (c.take k)++lnA c[k]++wdB c[k].1++lnN c[k]++lnL c[k]):=by
   unfold EC Ev
   unfold lnL
   by_cases h:(decide (c[k].1≥4)&&decide (c[k].1<=7))=true
   ·rw [if_pos h,if_pos h,hi,OS]
    by_cases h2:c[k].2.2.1=true
    ·rw [if_pos h2,if_pos h2,if_pos (Fq (by rw [List.length_append]; simp; omega))]; rfl
    ·rw [if_neg h2,if_neg h2,if_pos (Fq (by rw [List.length_append]; simp; omega))]; rfl
   ·rw [if_neg h,if_neg h,List.append_nil]
  have h6:∀ acc:List UInt8,acc.length<=100000->Bp c (k:Int) 100000 acc 0=some (acc++lnS c[k].2.2.2.1):=fun acc ha=>by
   have hh:=Tp (σ:=List UInt8) c[k].2.2.2.1.length (fun j=>acc++lnS (c[k].2.2.2.1.take j)) (some (acc++lnS c[k].2.2.2.1)) (fun f i q=>Bp c (k:Int) f q i) (by have:=hf.2.1; omega) (fun j hj f=>by
    show Bp c (k:Int) (f + 1) (acc++lnS (c[k].2.2.2.1.take j)) (j:Int)=_
    conv=>lhs; unfold Bp
    have hl:=J1 hf (c[k].2.2.2.1.take j) (fun s hs=>List.mem_of_mem_take hs) (by rw [List.length_take]; have:=hf.2.1; omega)
    have hs:=hf.2.2 _ (List.getElem_mem hj)
    have e:acc++lnS (c[k].2.2.2.1.take j)++[32]++c[k].2.2.2.1[j]=acc++lnS (c[k].2.2.2.1.take (j + 1)):=by
     rw [Kh hj,Oo]; simp only [List.append_assoc]
    have hl2:=J1 hf (c[k].2.2.2.1.take (j + 1)) (fun s hs=>List.mem_of_mem_take hs) (by rw [List.length_take]; have:=hf.2.1; omega)
    rw [hi,OS,if_pos (by simp; omega),if_pos (Fq (by simp only [List.length_append]; simp; omega)),OS,Ok hj,OS,e,if_pos (Fq (by rw [List.length_append]; omega))]) (fun f=>by
    show Bp c (k:Int) (f + 1) _ (c[k].2.2.2.1.length:Int)=_
    conv=>lhs; unfold Bp
    rw [hi,OS,if_neg (by simp),List.take_length])
   have hh':Bp c (k:Int) 100000 (acc++[]) 0=some (acc++lnS c[k].2.2.2.1):=hh
   rwa [List.append_nil] at hh'
  have e3:txF (c.take (k + 1))=txF (c.take k)++lnA c[k]++wdB c[k].1++lnN c[k]++lnL c[k]++lnS c[k].2.2.2.1++[10]:=by
   rw [Kh hk,O3]
   unfold lnF
   simp only [List.append_assoc]
  rw [if_pos (by simp; omega),hi,OS,h2,OS,OS,w2,OS,if_pos (Fq (by omega)),OS,<-hi,e1,OS,h3,OS,hi,OS,<-hi,e2,OS,h4,OS,h6 _ (by omega),OS,if_pos (Fq (by rw [List.length_append]; simp; omega)),e3]) (fun f=>by
  show B6 c (f + 1) _ (c.length:Int)=_
  conv=>lhs; unfold B6
  rw [if_neg (by simp),List.take_length])
 have hh':B6 c 100000 [] 0=some (txF c):=hh
 unfold D9
 rw [hh']; rfl
end
theorem Nz (c:List AG):CH c=some true:=by
 obtain ⟨b,h1,h2⟩:=TI c
 unfold CH
 rw [h1,OS]
 cases b with
 | false=>rfl
 | true =>
  have hc:few c:=h2.1 rfl
  have hvr:EY c=some ((Po c).2==0):=by unfold EY; rw [R7 c hc]; rfl
  have fin:∀ r:List UInt8,DD c c ((Po c).2==0)=some r->Dm c=some r->DK c=some true:=fun r e1 e2=>by
   unfold DK
   rw [R9 c hc,OS,hvr,OS,e1,OS,e2,OS,if_pos (by simp),Sh c c hc,decide_eq_true rfl]; rfl
  have key:DK c=some true:=by
   cases hv:((Po c).2==0) with
   | false =>
    rw [hv] at fin
    refine fin [] (by unfold DD; rw [if_neg (by simp)]) ?_
    have:¬ (Po c).2=0:=by simpa using hv
    unfold Dm
    rw [Pk c hc,OS,if_pos (by simpa using this)]
   | true =>
    rw [hv] at fin
    have hv0:(Po c).2=0:=by simpa using hv
    have hfm:=RO hv0
    have hl:=OJ hc hfm c (fun _ h=>h) hc.1
    refine fin (txF c) ?_ ?_
    ·unfold DD
     rw [if_pos rfl,Py hc hfm]; rfl
    ·unfold Dm
     rw [Pk c hc,OS,if_neg (by simpa using hv0),Px hc hfm,OS,if_pos (Fq (by omega))]
  rw [if_neg (by simp),key]; rfl
end Go.Proofs.YtiphapnckldpbaaGreatDoor
