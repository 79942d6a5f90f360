/- Lemmas for the proof. -/
import Derived.Test.YtdjhmdbpcfnpgaaGreatDoorCourtParsesM1
import Derived.Test.YtdjhmdbpcfnpgaaGreatDoorCourtParsesM2
import Derived.Test.YtdjhmdbpcfnpgaaGreatDoorCourtParsesM3
import Derived.Test.YtdjhmdbpcfnpgaaGreatDoorCourtParsesM4
import Derived.Test.YtdjhmdbpcfnpgaaGreatDoorCourtParsesM5
import Derived.Test.YtdjhmdbpcfnpgaaGreatDoorCourtParsesM6
set_option maxHeartbeats 4000000
set_option maxRecDepth 100000
namespace Go.Proofs.YtdjhmdbpcfnpgaaGreatDoor
open Go.RowKit
/- trestle/trestleref03.clause -/
noncomputable def Cn:Code:=Bc Tryz.f55
def Dj (x0:(List (List UInt8))) (j3:Bool):Option (((List (List UInt8))×Int×(List UInt8)×Bool×Int×Int×(List UInt8)×Bool×Int)) :=
 if j3=true then
 (idx x0 1).bind fun v5 =>
 if (By 2 (x0.length:Int) x0.length)=true then
 some (((x0.take (x0.length:Int).toNat).drop (2:Int).toNat),0,[],false,0,0,v5,false,0)
 else none
 else
 some (x0,0,[],false,0,0,[],false,0)
def EU (r16:(List (List UInt8))×Int×(List UInt8)×Bool×Int×Int×(List UInt8)×Bool×Int) (c17:Int) (c18:(List UInt8)) (c19:Bool) (c20:Int) (c21:Int) (c22:(List UInt8)) (c23:Bool) (c24:Int) (c25:Int) (v27:(List UInt8)) (v28:(List UInt8)):Option ((Int×(List UInt8)×Bool×Int×Int×(List UInt8)×Bool×Int)) :=
 if (v27==v28)=true then
 some (c17,c18,c19,c20,(wr .u8 c25),c22,c23,c24)
 else
 some (c17,c18,c19,c20,c21,c22,c23,c24)
def B3 (r16:(List (List UInt8))×Int×(List UInt8)×Bool×Int×Int×(List UInt8)×Bool×Int):Nat->Int->(List UInt8)->Bool->Int->Int->(List UInt8)->Bool->Int->Int->Option ((Int×(List UInt8)×Bool×Int×Int×(List UInt8)×Bool×Int))
 | 0,_,_,_,_,_,_,_,_,_=>none
 | f + 1,c17,c18,c19,c20,c21,c22,c23,c24,c25 =>
  if (decide (c25<=10))=true then
  (idx r16.1 0).bind fun v27 =>
  (Fg c25).bind fun v28 =>
  (EU r16 c17 c18 c19 c20 c21 c22 c23 c24 c25 v27 v28).bind fun r38 =>
  B3 r16 f r38.1 r38.2.1 r38.2.2.1 r38.2.2.2.1 r38.2.2.2.2.1 r38.2.2.2.2.2.1 r38.2.2.2.2.2.2.1 r38.2.2.2.2.2.2.2 (wr .i64 (c25 + 1))
  else
  some (c17,c18,c19,c20,c21,c22,c23,c24)
def Bz (r16:(List (List UInt8))×Int×(List UInt8)×Bool×Int×Int×(List UInt8)×Bool×Int) (r47:Int×(List UInt8)×Bool×Int×Int×(List UInt8)×Bool×Int) (j50:Bool):Option (((List (List UInt8))×Int×(List UInt8)×Bool×Int×Int×(List UInt8)×Bool×Int×Bool) ⊕ (Int×(List UInt8)×Bool×(List (List UInt8))×Int×Bool)) :=
 if j50=true then
 if ((((r16.1.take (r16.1.length:Int).toNat).drop (1:Int).toNat).length:Int)==0)=true then
 some (.inr (r47.2.2.2.2.1,r47.2.2.2.2.2.1,r47.2.2.2.2.2.2.1,[],r47.2.2.2.2.2.2.2,false))
 else
 (idx ((r16.1.take (r16.1.length:Int).toNat).drop (1:Int).toNat) 0).bind fun v59 =>
 (Ek v59).bind fun v60 =>
 if (By 1 (((r16.1.take (r16.1.length:Int).toNat).drop (1:Int).toNat).length:Int) ((r16.1.take (r16.1.length:Int).toNat).drop (1:Int).toNat).length)=true then
 some (.inl (((((r16.1.take (r16.1.length:Int).toNat).drop (1:Int).toNat).take (((r16.1.take (r16.1.length:Int).toNat).drop (1:Int).toNat).length:Int).toNat).drop (1:Int).toNat),r47.1,r47.2.1,r47.2.2.1,r47.2.2.2.1,r47.2.2.2.2.1,r47.2.2.2.2.2.1,r47.2.2.2.2.2.2.1,v60.1,v60.2))
 else none
 else
 some (.inl (((r16.1.take (r16.1.length:Int).toNat).drop (1:Int).toNat),r47.1,r47.2.1,r47.2.2.1,r47.2.2.2.1,r47.2.2.2.2.1,r47.2.2.2.2.2.1,r47.2.2.2.2.2.2.1,r47.2.2.2.2.2.2.2,true))
def CM (w73:(List (List UInt8))×Int×(List UInt8)×Bool×Int×Int×(List UInt8)×Bool×Int×Bool) (j75:Bool):Option (((List (List UInt8))×Int×(List UInt8)×Bool×Int×Int×(List UInt8)×Bool×Int) ⊕ (Int×(List UInt8)×Bool×(List (List UInt8))×Int×Bool)) :=
 if j75=true then
 (if ((w73.1.length:Int)==0)=true then some true else (idx w73.1 0).bind fun v77 =>
 if (!(v77==[102,105,114,115,116]))=true then (idx w73.1 0).bind fun v78 =>
 some (!(v78==[108,97,115,116])) else some false).bind fun j80 =>
 if j80=true then
 some (.inr (w73.2.2.2.2.2.1,w73.2.2.2.2.2.2.1,w73.2.2.2.2.2.2.2.1,[],w73.2.2.2.2.2.2.2.2.1,false))
 else
 (idx w73.1 0).bind fun v88 =>
 if (By 1 (w73.1.length:Int) w73.1.length)=true then
 some (.inl (((w73.1.take (w73.1.length:Int).toNat).drop (1:Int).toNat),w73.2.1,w73.2.2.1,w73.2.2.2.1,w73.2.2.2.2.1,w73.2.2.2.2.2.1,w73.2.2.2.2.2.2.1,(v88==[108,97,115,116]),w73.2.2.2.2.2.2.2.2.1))
 else none
 else
 some (.inl (w73.1,w73.2.1,w73.2.2.1,w73.2.2.2.1,w73.2.2.2.2.1,w73.2.2.2.2.2.1,w73.2.2.2.2.2.2.1,w73.2.2.2.2.2.2.2.1,w73.2.2.2.2.2.2.2.2.1))
def DL (x0:(List (List UInt8))):Option (AJ×Bool) :=
 (if (decide ((x0.length:Int) > 2))=true then (idx x0 0).bind fun v1 =>
 some (v1==[97,109,111,110,103]) else some false).bind fun j3 =>
 (Dj x0 j3).bind fun r16 =>
 (B3 r16 100000 r16.2.1 r16.2.2.1 r16.2.2.2.1 r16.2.2.2.2.1 r16.2.2.2.2.2.1 r16.2.2.2.2.2.2.1 r16.2.2.2.2.2.2.2.1 r16.2.2.2.2.2.2.2.2 1).bind fun r47 =>
 if (By 1 (r16.1.length:Int) r16.1.length)=true then
 (if (r47.2.2.2.2.1==4)=true then some true else some (r47.2.2.2.2.1==10)).bind fun j50 =>
 (Bz r16 r47 j50).bind fun r72 =>
 match r72 with
 | (.inl w73) =>
  (if (decide (w73.2.2.2.2.2.1≥4))=true then some (decide (w73.2.2.2.2.2.1<=7)) else some false).bind fun j75 =>
  (CM w73 j75).bind fun r101 =>
  match r101 with
  | (.inl w102) =>
   (if (w102.2.2.2.2.2.1==1)=true then some true else if (w102.2.2.2.2.2.1==6)=true then some true else some (w102.2.2.2.2.2.1==7)).bind fun j104 =>
   if j104=true then
   (if w73.2.2.2.2.2.2.2.2.2=true then some (w102.2.2.2.2.2.1,w102.2.2.2.2.2.2.1,w102.2.2.2.2.2.2.2.1,w102.1,w102.2.2.2.2.2.2.2.2,(decide ((w102.1.length:Int) > 0))) else some (w102.2.2.2.2.2.1,w102.2.2.2.2.2.2.1,w102.2.2.2.2.2.2.2.1,w102.1,w102.2.2.2.2.2.2.2.2,false)).bind fun j112 =>
   some ((j112.1,j112.2.1,j112.2.2.1,j112.2.2.2.1,j112.2.2.2.2.1),j112.2.2.2.2.2)
   else
   (if w73.2.2.2.2.2.2.2.2.2=true then if (w102.2.2.2.2.2.1 != 0)=true then some (w102.2.2.2.2.2.1,w102.2.2.2.2.2.2.1,w102.2.2.2.2.2.2.2.1,w102.2.2.2.2.2.2.2.2,((w102.1.length:Int)==0)) else some (w102.2.2.2.2.2.1,w102.2.2.2.2.2.2.1,w102.2.2.2.2.2.2.2.1,w102.2.2.2.2.2.2.2.2,false) else some (w102.2.2.2.2.2.1,w102.2.2.2.2.2.2.1,w102.2.2.2.2.2.2.2.1,w102.2.2.2.2.2.2.2.2,false)).bind fun j119 =>
   some ((j119.1,j119.2.1,j119.2.2.1,[],j119.2.2.2.1),j119.2.2.2.2)
  | (.inr w124) =>
   some ((w124.1,w124.2.1,w124.2.2.1,w124.2.2.2.1,w124.2.2.2.2.1),w124.2.2.2.2.2)
 | (.inr w126) =>
  some ((w126.1,w126.2.1,w126.2.2.1,w126.2.2.2.1,w126.2.2.2.2.1),w126.2.2.2.2.2)
 else none
def Fs:Cs ((List (List UInt8))×Unit):=(csC (cdL 1 cdS) csN)
def Fz (r:AJ×Bool):AV:= .tp [AA.enc r.1,cdB.enc r.2]
theorem Jd (x0:(List (List UInt8))) (j3:Bool) (r:((List (List UInt8))×Int×(List UInt8)×Bool×Int×Int×(List UInt8)×Bool×Int)) (h:Dj x0 j3=some r):Sem E0 ⟨none,false⟩ (pc Cn [1,1,0,1]) ⟨Fr 124 [(0,.sl 1 (x0.map cdS.enc)),(2,.pt 0 0 0),(4,.pt 1 0 0),(15,.b j3)],[some ⟨5,66,[.ag [.v (.int .u8 0),.st [],.b false,.e0,.j 0]],false⟩,some ⟨5,66,[.ag [.v (.int .u8 0),.st [],.b false,.e0,.j 0]],false⟩]⟩ (fun e s=>e = .normal/\Wk E0 s ⟨Fr 124 [(0,.sl 1 (r.1.map cdS.enc)),(2,.pt 0 0 0),(4,.pt 1 0 0)],[some ⟨5,66,[.ag [.v (.int .u8 r.2.1),.st r.2.2.1,.b r.2.2.2.1,.e0,.j r.2.2.2.2.1]],false⟩,some ⟨5,66,[.ag [.v (.int .u8 r.2.2.2.2.2.1),.st r.2.2.2.2.2.2.1,.b r.2.2.2.2.2.2.2.1,.e0,.j r.2.2.2.2.2.2.2.2]],false⟩]⟩):=by
 unfold Dj at h;refine AP (b:=j3) kr (fun hb4=>?_) (fun hb4=>?_)
 ·rw [if_pos hb4] at h
  refine AF ?_;obtain ⟨v5,hv5,h⟩:=OB h
  let p1:Option Blk:=some ⟨5,66,[.ag [.v (.int .u8 0),.st v5,.b false,.e0,.j 0]],false⟩
  let p2:Option Blk:=some ⟨5,66,[.ag [.v (.int .u8 0),.st [],.b false,.e0,.j 0]],false⟩
  let p3:Nat×AV:=(4,.pt 1 0 0)
  let p4:Nat×AV:=(2,.pt 0 0 0)
  refine AI (s1:=⟨Fr 124 [(0,.sl 1 (x0.map cdS.enc)),p4,p3],[p2,p1]⟩) ?_ ?_
  ·refine AC (n:=124) AD 1 [(0,.sl 1 (x0.map cdS.enc)),p4,p3,(16,.sl 1 (x0.map cdS.enc))] [p2,p2] kr ?_
   refine AW AD 0 rfl (BY (AB rfl) rfl (Ad (a:= .sl 1 (x0.map cdS.enc)) (b:= .j 1) kr kr (Dn (e:=cdS.enc) (el:=9) (k:=1) (ki:= .i64) kr kr hv5))) ?_;exact Ak AD
  by_cases hk6:(By 2 (x0.length:Int) x0.length)=true
  case neg=>rw [if_neg hk6] at h; cases h
  rw [if_pos hk6] at h;refine AI (s1:=⟨Fr 124 [(0,.sl 1 (((x0.take (x0.length:Int).toNat).drop (2:Int).toNat).map cdS.enc)),p4,p3],[p2,p1]⟩) ?_ ?_
  ·refine AC (n:=124) AD 1 [p4,p3,(20,.sl 1 (x0.map cdS.enc))] [p2,p1] kr ?_
   refine AW AD 0 rfl (BY (AB rfl) rfl (Di (a:= .sl 1 (x0.map cdS.enc)) (l:=(some (.j 2))) (u:=none) (m:=none) kr kr kr rfl (Gd (xs:=x0) (e:=cdS.enc) (k:=1) (el:=9) (lo:=2) (hi:=(x0.length:Int)) kr kr (Ee (Hm hk6)) rfl hk6))) ?_;exact Ak AD
  have hq:=OI h; subst hq;exact ⟨rfl,(Al [0,1] ⟨⟨_,rfl,Cm⟩,⟨_,rfl,Cm⟩,trivial⟩ ⟨lv,lv,lv,trivial⟩)⟩
 ·rw [BH hb4] at h
  refine AX ?_;have hq:=OI h; subst hq;exact ⟨rfl,(Al [0,1] ⟨⟨_,rfl,Cm⟩,⟨_,rfl,Cm⟩,trivial⟩ ⟨lv,lv,lv,trivial⟩)⟩
theorem Je (r16:(List (List UInt8))×Int×(List UInt8)×Bool×Int×Int×(List UInt8)×Bool×Int) (c17:Int) (c18:(List UInt8)) (c19:Bool) (c20:Int) (c21:Int) (c22:(List UInt8)) (c23:Bool) (c24:Int) (c25:Int) (v27:(List UInt8)) (v28:(List UInt8)) (r:(Int×(List UInt8)×Bool×Int×Int×(List UInt8)×Bool×Int)) (h:EU r16 c17 c18 c19 c20 c21 c22 c23 c24 c25 v27 v28=some r):Sem E0 ⟨none,false⟩ (pc Cn [1,1,1,0,1,0,0,1,0,0,1]) ⟨Fr 124 [(0,.sl 1 (r16.1.map cdS.enc)),(2,.pt 0 0 0),(4,.pt 1 0 0),(5,.j c25),(31,.b (v27==v28))],[some ⟨5,66,[.ag [.v (.int .u8 c17),.st c18,.b c19,.e0,.j c20]],false⟩,some ⟨5,66,[.ag [.v (.int .u8 c21),.st c22,.b c23,.e0,.j c24]],false⟩]⟩ (fun e s=>e = .normal/\Wk E0 s ⟨Fr 124 [(0,.sl 1 (r16.1.map cdS.enc)),(2,.pt 0 0 0),(4,.pt 1 0 0),(5,.j c25)],[some ⟨5,66,[.ag [.v (.int .u8 r.1),.st r.2.1,.b r.2.2.1,.e0,.j r.2.2.2.1]],false⟩,some ⟨5,66,[.ag [.v (.int .u8 r.2.2.2.2.1),.st r.2.2.2.2.2.1,.b r.2.2.2.2.2.2.1,.e0,.j r.2.2.2.2.2.2.2]],false⟩]⟩):=by
 unfold EU at h;refine AP (b:=(v27==v28)) kr (fun hb29=>?_) (fun hb29=>?_)
 ·rw [if_pos hb29] at h
  refine DH AD [(0,.sl 1 (r16.1.map cdS.enc)),(2,.pt 0 0 0),(4,.pt 1 0 0),(5,.j c25)] [some ⟨5,66,[.ag [.v (.int .u8 c17),.st c18,.b c19,.e0,.j c20]],false⟩,some ⟨5,66,[.ag [.v (.int .u8 (wr .u8 c25)),.st c22,.b c23,.e0,.j c24]],false⟩] ?_;have hq:=OI h; subst hq;exact ⟨rfl,(Al [0,1] ⟨⟨_,rfl,Cm⟩,⟨_,rfl,Cm⟩,trivial⟩ ⟨lv,lv,lv,lv,trivial⟩)⟩
 ·rw [BH hb29] at h
  refine AX ?_;have hq:=OI h; subst hq;exact ⟨rfl,(Al [0,1] ⟨⟨_,rfl,Cm⟩,⟨_,rfl,Cm⟩,trivial⟩ ⟨lv,lv,lv,lv,trivial⟩)⟩
theorem Jf (r16:(List (List UInt8))×Int×(List UInt8)×Bool×Int×Int×(List UInt8)×Bool×Int):∀ (f:Nat) (c17:Int) (c18:(List UInt8)) (c19:Bool) (c20:Int) (c21:Int) (c22:(List UInt8)) (c23:Bool) (c24:Int) (c25:Int) (r:(Int×(List UInt8)×Bool×Int×Int×(List UInt8)×Bool×Int)),B3 r16 f c17 c18 c19 c20 c21 c22 c23 c24 c25=some r->SemN E0 ⟨none,false⟩ (pc Cn [1,1,1,0,1,0,0]) f ⟨Fr 124 [(0,.sl 1 (r16.1.map cdS.enc)),(2,.pt 0 0 0),(4,.pt 1 0 0),(5,.j c25)],[some ⟨5,66,[.ag [.v (.int .u8 c17),.st c18,.b c19,.e0,.j c20]],false⟩,some ⟨5,66,[.ag [.v (.int .u8 c21),.st c22,.b c23,.e0,.j c24]],false⟩]⟩ (fun e s=>e=(.exit 0)/\Wk E0 s ⟨Fr 124 [(0,.sl 1 (r16.1.map cdS.enc)),(2,.pt 0 0 0),(4,.pt 1 0 0)],[some ⟨5,66,[.ag [.v (.int .u8 r.1),.st r.2.1,.b r.2.2.1,.e0,.j r.2.2.2.1]],false⟩,some ⟨5,66,[.ag [.v (.int .u8 r.2.2.2.2.1),.st r.2.2.2.2.2.1,.b r.2.2.2.2.2.2.1,.e0,.j r.2.2.2.2.2.2.2]],false⟩]⟩):=by
 intro f;induction f with
 | zero=>intro c17 c18 c19 c20 c21 c22 c23 c24 c25 r h; cases h
 | succ f ih0 =>
  intro c17 c18 c19 c20 c21 c22 c23 c24 c25 r h
  have ih:=fun (c17:Int) (c18:(List UInt8)) (c19:Bool) (c20:Int) (c21:Int) (c22:(List UInt8)) (c23:Bool) (c24:Int) (c25:Int)=>ih0 c17 c18 c19 c20 c21 c22 c23 c24 c25 r
  unfold B3 at h;refine Cl ?_;refine AF ?_
  let p1:Option Blk:=some ⟨5,66,[.ag [.v (.int .u8 c21),.st c22,.b c23,.e0,.j c24]],false⟩
  let p2:Option Blk:=some ⟨5,66,[.ag [.v (.int .u8 c17),.st c18,.b c19,.e0,.j c20]],false⟩
  let p3:Nat×AV:=(5,.j c25)
  let p4:Nat×AV:=(4,.pt 1 0 0)
  let p5:Nat×AV:=(2,.pt 0 0 0)
  let p6:Nat×AV:=(0,.sl 1 (r16.1.map cdS.enc))
  refine AT AD [p6,p5,p4,p3,(23,.b (decide (c25<=10)))] [p2,p1] ?_;refine AP (b:=(decide (c25<=10))) kr (fun hb26=>?_) (fun hb26=>?_)
  ·rw [if_pos hb26] at h
   refine AX ?_;refine AF ?_;refine A0 ?_;refine AF ?_;obtain ⟨v27,hv27,h⟩:=OB h;obtain ⟨v28,hv28,h⟩:=OB h;refine Hu AD (s1:=⟨Fr 124 [p6,p5,p4,p3,(31,.b (v27==v28))],[p2,p1]⟩) kr ?_ ?_
   ·refine BT (n:=124) AD 1 [p6,p5,p4,p3,(26,.sl 1 (r16.1.map cdS.enc))] [p2,p1] kr kr ?_
    refine RunDS.one AD rfl kr (KZ kr (AB rfl) rfl (Ad (a:= .sl 1 (r16.1.map cdS.enc)) (b:= .j 0) kr kr (Dn (e:=cdS.enc) (el:=9) (k:=1) (ki:= .i64) kr kr hv27)) kr) ?_;refine BT (n:=124) AD 2 [p6,p5,p4,p3,(28,.st v27),(29,.j c25)] [p2,p1] kr kr ?_;refine It (caps:=[]) (xs:=[.j c25]) (u:=(c25,())) rfl rfl Nt rfl (AB rfl) kr kr (Ah (A2 (c:=cdI) (v:=c25)) BZ) kr hv28 ?_;refine BT (n:=124) AD 1 [p6,p5,p4,p3,(31,.b (v27==v28))] [p2,p1] kr kr ?_;exact RunDS.done rfl (Al [0,1] ⟨⟨_,rfl,Cm⟩,⟨_,rfl,Cm⟩,trivial⟩ ⟨lv,lv,lv,lv,lv,trivial⟩)
   obtain ⟨r38,hr38,h⟩:=OB h;refine Ce (Je r16 c17 c18 c19 c20 c21 c22 c23 c24 c25 v27 v28 _ hr38) ?_
   let p7:Option Blk:=some ⟨5,66,[.ag [.v (.int .u8 r38.2.2.2.2.1),.st r38.2.2.2.2.2.1,.b r38.2.2.2.2.2.2.1,.e0,.j r38.2.2.2.2.2.2.2]],false⟩
   let p8:Option Blk:=some ⟨5,66,[.ag [.v (.int .u8 r38.1),.st r38.2.1,.b r38.2.2.1,.e0,.j r38.2.2.2.1]],false⟩
   let p9:Nat×AV:=(5,.j (wr .i64 (c25 + 1)))
   refine DH AD [p6,p5,p4,p9] [p8,p7] ?_;exact A9 (s1:=⟨Fr 124 [p6,p5,p4,p9],[p8,p7]⟩) (Al [0,1] ⟨⟨_,rfl,Cm⟩,⟨_,rfl,Cm⟩,trivial⟩ ⟨lv,lv,lv,lv,trivial⟩) (ih r38.1 r38.2.1 r38.2.2.1 r38.2.2.2.1 r38.2.2.2.2.1 r38.2.2.2.2.2.1 r38.2.2.2.2.2.2.1 r38.2.2.2.2.2.2.2 (wr .i64 (c25 + 1)) h)
  ·rw [BH hb26] at h
   refine DN ?_;have hq:=OI h; subst hq;exact ⟨rfl,(Al [0,1] ⟨⟨_,rfl,Cm⟩,⟨_,rfl,Cm⟩,trivial⟩ ⟨lv,lv,lv,trivial⟩)⟩
theorem Gb (r16:(List (List UInt8))×Int×(List UInt8)×Bool×Int×Int×(List UInt8)×Bool×Int) (r47:Int×(List UInt8)×Bool×Int×Int×(List UInt8)×Bool×Int) (j50:Bool) (r:((List (List UInt8))×Int×(List UInt8)×Bool×Int×Int×(List UInt8)×Bool×Int×Bool) ⊕ (Int×(List UInt8)×Bool×(List (List UInt8))×Int×Bool)) (h:Bz r16 r47 j50=some r):Sem E0 ⟨none,false⟩ (pc Cn [1,1,1,1,1,1,0,1]) ⟨Fr 124 [(0,.sl 1 (((r16.1.take (r16.1.length:Int).toNat).drop (1:Int).toNat).map cdS.enc)),(2,.pt 0 0 0),(4,.pt 1 0 0),(6,.b true),(44,.b j50)],[some ⟨5,66,[.ag [.v (.int .u8 r47.1),.st r47.2.1,.b r47.2.2.1,.e0,.j r47.2.2.2.1]],false⟩,some ⟨5,66,[.ag [.v (.int .u8 r47.2.2.2.2.1),.st r47.2.2.2.2.2.1,.b r47.2.2.2.2.2.2.1,.e0,.j r47.2.2.2.2.2.2.2]],false⟩]⟩ (fun e s=>match r with
 | (.inl w)=>e = .normal/\Wk E0 s ⟨Fr 124 [(0,.sl 1 (w.1.map cdS.enc)),(2,.pt 0 0 0),(4,.pt 1 0 0),(6,.b w.2.2.2.2.2.2.2.2.2)],[some ⟨5,66,[.ag [.v (.int .u8 w.2.1),.st w.2.2.1,.b w.2.2.2.1,.e0,.j w.2.2.2.2.1]],false⟩,some ⟨5,66,[.ag [.v (.int .u8 w.2.2.2.2.2.1),.st w.2.2.2.2.2.2.1,.b w.2.2.2.2.2.2.2.1,.e0,.j w.2.2.2.2.2.2.2.2.1]],false⟩]⟩
 | (.inr w)=>e = .ret/\Wk E0 s ⟨Fr 124 [(2,.pt 0 0 0),(3,.b w.2.2.2.2.2)],[some ⟨5,66,[.ag [.v (.int .u8 w.1),.st w.2.1,.b w.2.2.1,.sl 1 (w.2.2.2.1.map cdS.enc),.j w.2.2.2.2.1]],false⟩]⟩):=by
 unfold Bz at h;refine AP (b:=j50) kr (fun hb51=>?_) (fun hb51=>?_)
 ·rw [if_pos hb51] at h
  refine AF ?_;refine AF ?_
  let p1:Option Blk:=some ⟨5,66,[.ag [.v (.int .u8 r47.2.2.2.2.1),.st r47.2.2.2.2.2.1,.b r47.2.2.2.2.2.2.1,.e0,.j r47.2.2.2.2.2.2.2]],false⟩
  let p2:Option Blk:=some ⟨5,66,[.ag [.v (.int .u8 r47.1),.st r47.2.1,.b r47.2.2.1,.e0,.j r47.2.2.2.1]],false⟩
  let p3:Nat×AV:=(4,.pt 1 0 0)
  let p4:Nat×AV:=(2,.pt 0 0 0)
  let p5:Nat×AV:=(0,.sl 1 (((r16.1.take (r16.1.length:Int).toNat).drop (1:Int).toNat).map cdS.enc))
  refine AI (s1:=⟨Fr 124 [p5,p4,p3,(47,.b ((((r16.1.take (r16.1.length:Int).toNat).drop (1:Int).toNat).length:Int)==0))],[p2,p1]⟩) ?_ ?_
  ·refine AC (n:=124) AD 1 [p5,p4,p3,(45,.sl 1 (((r16.1.take (r16.1.length:Int).toNat).drop (1:Int).toNat).map cdS.enc))] [p2,p1] kr ?_
   refine AW AD 0 rfl (BY (AB rfl) rfl (ET (a:= .sl 1 (((r16.1.take (r16.1.length:Int).toNat).drop (1:Int).toNat).map cdS.enc)) kr (C5 (el:=9) kr))) ?_;exact Ak AD
  refine AP (b:=((((r16.1.take (r16.1.length:Int).toNat).drop (1:Int).toNat).length:Int)==0)) kr (fun hb52=>?_) (fun hb52=>?_)
  ·rw [if_pos hb52] at h
   refine AF ?_
   let p6:Nat×AV:=(3,.b false)
   refine AI (s1:=⟨Fr 124 [p4,p6],[p1]⟩) ?_ ?_
   ·refine AC (n:=124) AD 3 [p4,p6] [p1,p1] kr ?_
    exact AE rfl (Al [0] ⟨⟨_,rfl,Cm⟩,trivial⟩ ⟨lv,lv,trivial⟩)
   refine AU ?_;have hq:=OI h; subst hq;exact ⟨rfl,(Wk.trans (s1:=⟨Fr 124 [p4,p6],[p1]⟩) AM (Wk.trans (s1:=⟨Fr 124 [p4,p6],[p1,none]⟩) Wk.none (Wk.trans (s1:=⟨Fr 124 [p4,p6],[some ⟨5,66,[.ag [.v (.int .u8 r47.2.2.2.2.1),.st r47.2.2.2.2.2.1,.b r47.2.2.2.2.2.2.1,.sl 1 ([].map cdS.enc),.j r47.2.2.2.2.2.2.2]],false⟩,none]⟩) (MP 1 (.inr kr) ⟨.inr (.inr ⟨_,_,_,_,rfl,rfl,⟨(.inr ⟨_,_,rfl,rfl,⟨.inl rfl,.inl rfl,.inl rfl,QC,.inl rfl,trivial⟩⟩),trivial⟩⟩),.inl rfl,trivial⟩ ⟨⟨.pt 0 0 0,kr,(.inl (.inl rfl))⟩,⟨.b false,kr,(.inl (.inl rfl))⟩,trivial⟩) (Al [0] ⟨⟨_,rfl,Cm⟩,trivial⟩ ⟨lv,lv,trivial⟩))))⟩
  ·rw [BH hb52] at h
   refine AX ?_;refine AF ?_;obtain ⟨v59,hv59,h⟩:=OB h;obtain ⟨v60,hv60,h⟩:=OB h
   let p7:Option Blk:=some ⟨5,66,[.ag [.v (.int .u8 r47.2.2.2.2.1),.st r47.2.2.2.2.2.1,.b r47.2.2.2.2.2.2.1,.e0,.j v60.1]],false⟩
   let p8:Nat×AV:=(6,.b v60.2)
   refine AI (s1:=⟨Fr 124 [p5,p4,p3,p8],[p2,p7]⟩) ?_ ?_
   ·refine AC (n:=124) AD 1 [p5,p4,p3,(50,.sl 1 (((r16.1.take (r16.1.length:Int).toNat).drop (1:Int).toNat).map cdS.enc))] [p2,p1] kr ?_
    refine AW AD 0 rfl (BY (AB rfl) rfl (Ad (a:= .sl 1 (((r16.1.take (r16.1.length:Int).toNat).drop (1:Int).toNat).map cdS.enc)) (b:= .j 0) kr kr (Dn (e:=cdS.enc) (el:=9) (k:=1) (ki:= .i64) kr kr hv59))) ?_;refine AC (n:=124) AD 1 [p5,p4,p3,(52,.st v59)] [p2,p1] kr ?_;refine Af (caps:=[]) (xs:=[.st v59]) (u:=(v59,())) rfl rfl Nr rfl (AB rfl) kr kr (Ah (A2 (c:=cdS) (v:=v59)) BZ) (.inl kr) hv60 ?_;exact Ak AD
   by_cases hk61:(By 1 (((r16.1.take (r16.1.length:Int).toNat).drop (1:Int).toNat).length:Int) ((r16.1.take (r16.1.length:Int).toNat).drop (1:Int).toNat).length)=true
   case neg=>rw [if_neg hk61] at h; cases h
   rw [if_pos hk61] at h;refine AI (s1:=⟨Fr 124 [(0,.sl 1 (((((r16.1.take (r16.1.length:Int).toNat).drop (1:Int).toNat).take (((r16.1.take (r16.1.length:Int).toNat).drop (1:Int).toNat).length:Int).toNat).drop (1:Int).toNat).map cdS.enc)),p4,p3,p8],[p2,p7]⟩) ?_ ?_
   ·refine AC (n:=124) AD 1 [p4,p3,p8,(57,.sl 1 (((r16.1.take (r16.1.length:Int).toNat).drop (1:Int).toNat).map cdS.enc))] [p2,p7] kr ?_
    refine AW AD 0 rfl (BY (AB rfl) rfl (Di (a:= .sl 1 (((r16.1.take (r16.1.length:Int).toNat).drop (1:Int).toNat).map cdS.enc)) (l:=(some (.j 1))) (u:=none) (m:=none) kr kr kr rfl (Gd (xs:=((r16.1.take (r16.1.length:Int).toNat).drop (1:Int).toNat)) (e:=cdS.enc) (k:=1) (el:=9) (lo:=1) (hi:=(((r16.1.take (r16.1.length:Int).toNat).drop (1:Int).toNat).length:Int)) kr kr (Ee (Hm hk61)) rfl hk61))) ?_;exact Ak AD
   have hq:=OI h; subst hq;exact ⟨rfl,(Al [0,1] ⟨⟨_,rfl,Cm⟩,⟨_,rfl,Cm⟩,trivial⟩ ⟨lv,lv,lv,lv,trivial⟩)⟩
 ·rw [BH hb51] at h
  refine AX ?_;have hq:=OI h; subst hq;exact ⟨rfl,(Al [0,1] ⟨⟨_,rfl,Cm⟩,⟨_,rfl,Cm⟩,trivial⟩ ⟨lv,lv,lv,lv,trivial⟩)⟩
theorem Gc (w73:(List (List UInt8))×Int×(List UInt8)×Bool×Int×Int×(List UInt8)×Bool×Int×Bool) (j75:Bool) (r:((List (List UInt8))×Int×(List UInt8)×Bool×Int×Int×(List UInt8)×Bool×Int) ⊕ (Int×(List UInt8)×Bool×(List (List UInt8))×Int×Bool)) (h:CM w73 j75=some r):Sem E0 ⟨none,false⟩ (pc Cn [1,1,1,1,1,1,1,0,1]) ⟨Fr 124 [(0,.sl 1 (w73.1.map cdS.enc)),(2,.pt 0 0 0),(4,.pt 1 0 0),(6,.b w73.2.2.2.2.2.2.2.2.2),(66,.b j75)],[some ⟨5,66,[.ag [.v (.int .u8 w73.2.1),.st w73.2.2.1,.b w73.2.2.2.1,.e0,.j w73.2.2.2.2.1]],false⟩,some ⟨5,66,[.ag [.v (.int .u8 w73.2.2.2.2.2.1),.st w73.2.2.2.2.2.2.1,.b w73.2.2.2.2.2.2.2.1,.e0,.j w73.2.2.2.2.2.2.2.2.1]],false⟩]⟩ (fun e s=>match r with
 | (.inl w)=>e = .normal/\Wk E0 s ⟨Fr 124 [(0,.sl 1 (w.1.map cdS.enc)),(2,.pt 0 0 0),(4,.pt 1 0 0),(6,.b w73.2.2.2.2.2.2.2.2.2)],[some ⟨5,66,[.ag [.v (.int .u8 w.2.1),.st w.2.2.1,.b w.2.2.2.1,.e0,.j w.2.2.2.2.1]],false⟩,some ⟨5,66,[.ag [.v (.int .u8 w.2.2.2.2.2.1),.st w.2.2.2.2.2.2.1,.b w.2.2.2.2.2.2.2.1,.e0,.j w.2.2.2.2.2.2.2.2]],false⟩]⟩
 | (.inr w)=>e = .ret/\Wk E0 s ⟨Fr 124 [(2,.pt 0 0 0),(3,.b w.2.2.2.2.2)],[some ⟨5,66,[.ag [.v (.int .u8 w.1),.st w.2.1,.b w.2.2.1,.sl 1 (w.2.2.2.1.map cdS.enc),.j w.2.2.2.2.1]],false⟩]⟩):=by
 unfold CM at h;refine AP (b:=j75) kr (fun hb76=>?_) (fun hb76=>?_)
 ·rw [if_pos hb76] at h
  refine AF ?_;refine AF ?_;obtain ⟨j80,hj80,h⟩:=OB h;refine AI (s1:=⟨Fr 124 [(0,.sl 1 (w73.1.map cdS.enc)),(2,.pt 0 0 0),(4,.pt 1 0 0),(6,.b w73.2.2.2.2.2.2.2.2.2),(81,.b j80)],[some ⟨5,66,[.ag [.v (.int .u8 w73.2.1),.st w73.2.2.1,.b w73.2.2.2.1,.e0,.j w73.2.2.2.2.1]],false⟩,some ⟨5,66,[.ag [.v (.int .u8 w73.2.2.2.2.2.1),.st w73.2.2.2.2.2.2.1,.b w73.2.2.2.2.2.2.2.1,.e0,.j w73.2.2.2.2.2.2.2.2.1]],false⟩]⟩) ?_ ?_
  ·refine AC (n:=124) AD 1 [(0,.sl 1 (w73.1.map cdS.enc)),(2,.pt 0 0 0),(4,.pt 1 0 0),(6,.b w73.2.2.2.2.2.2.2.2.2),(67,.sl 1 (w73.1.map cdS.enc))] [some ⟨5,66,[.ag [.v (.int .u8 w73.2.1),.st w73.2.2.1,.b w73.2.2.2.1,.e0,.j w73.2.2.2.2.1]],false⟩,some ⟨5,66,[.ag [.v (.int .u8 w73.2.2.2.2.2.1),.st w73.2.2.2.2.2.2.1,.b w73.2.2.2.2.2.2.2.1,.e0,.j w73.2.2.2.2.2.2.2.2.1]],false⟩] kr ?_
   refine AW AD 0 rfl (BY (AB rfl) rfl (ET (a:= .sl 1 (w73.1.map cdS.enc)) kr (C5 (el:=9) kr))) ?_;refine AC (n:=124) AD 2 [(0,.sl 1 (w73.1.map cdS.enc)),(2,.pt 0 0 0),(4,.pt 1 0 0),(6,.b w73.2.2.2.2.2.2.2.2.2),(70,.b ((w73.1.length:Int)==0))] [some ⟨5,66,[.ag [.v (.int .u8 w73.2.1),.st w73.2.2.1,.b w73.2.2.2.1,.e0,.j w73.2.2.2.2.1]],false⟩,some ⟨5,66,[.ag [.v (.int .u8 w73.2.2.2.2.2.1),.st w73.2.2.2.2.2.2.1,.b w73.2.2.2.2.2.2.2.1,.e0,.j w73.2.2.2.2.2.2.2.2.1]],false⟩] kr ?_;rcases BE ((w73.1.length:Int)==0) with hc99 | hc99
   ·rw [if_pos hc99] at hj80
    rw [hc99];refine AC (n:=124) AD 11 [(0,.sl 1 (w73.1.map cdS.enc)),(2,.pt 0 0 0),(4,.pt 1 0 0),(6,.b w73.2.2.2.2.2.2.2.2.2),(81,.b true)] [some ⟨5,66,[.ag [.v (.int .u8 w73.2.1),.st w73.2.2.1,.b w73.2.2.2.1,.e0,.j w73.2.2.2.2.1]],false⟩,some ⟨5,66,[.ag [.v (.int .u8 w73.2.2.2.2.2.1),.st w73.2.2.2.2.2.2.1,.b w73.2.2.2.2.2.2.2.1,.e0,.j w73.2.2.2.2.2.2.2.2.1]],false⟩] kr ?_;have hq:=OI hj80; subst hq;exact AE rfl (Al [0,1] ⟨⟨_,rfl,Cm⟩,⟨_,rfl,Cm⟩,trivial⟩ ⟨lv,lv,lv,lv,lv,trivial⟩)
   ·rw [BH hc99] at hj80
    rw [hc99];refine AC (n:=124) AD 1 [(0,.sl 1 (w73.1.map cdS.enc)),(2,.pt 0 0 0),(4,.pt 1 0 0),(6,.b w73.2.2.2.2.2.2.2.2.2),(70,.b false),(71,.sl 1 (w73.1.map cdS.enc))] [some ⟨5,66,[.ag [.v (.int .u8 w73.2.1),.st w73.2.2.1,.b w73.2.2.2.1,.e0,.j w73.2.2.2.2.1]],false⟩,some ⟨5,66,[.ag [.v (.int .u8 w73.2.2.2.2.2.1),.st w73.2.2.2.2.2.2.1,.b w73.2.2.2.2.2.2.2.1,.e0,.j w73.2.2.2.2.2.2.2.2.1]],false⟩] kr ?_;obtain ⟨v77,hv77,hj80⟩:=OB hj80;refine AW AD 0 rfl (BY kr rfl (Ad (a:= .sl 1 (w73.1.map cdS.enc)) (b:= .j 0) kr kr (Dn (e:=cdS.enc) (el:=9) (k:=1) (ki:= .i64) kr kr hv77))) ?_;refine AC (n:=124) AD 3 [(0,.sl 1 (w73.1.map cdS.enc)),(2,.pt 0 0 0),(4,.pt 1 0 0),(6,.b w73.2.2.2.2.2.2.2.2.2),(70,.b false),(75,.b (!(v77==[102,105,114,115,116])))] [some ⟨5,66,[.ag [.v (.int .u8 w73.2.1),.st w73.2.2.1,.b w73.2.2.2.1,.e0,.j w73.2.2.2.2.1]],false⟩,some ⟨5,66,[.ag [.v (.int .u8 w73.2.2.2.2.2.1),.st w73.2.2.2.2.2.2.1,.b w73.2.2.2.2.2.2.2.1,.e0,.j w73.2.2.2.2.2.2.2.2.1]],false⟩] kr ?_;rcases BE (!(v77==[102,105,114,115,116])) with hc100 | hc100
    ·rw [if_pos hc100] at hj80
     rw [hc100];refine AC (n:=124) AD 1 [(0,.sl 1 (w73.1.map cdS.enc)),(2,.pt 0 0 0),(4,.pt 1 0 0),(6,.b w73.2.2.2.2.2.2.2.2.2),(70,.b false),(75,.b true),(76,.sl 1 (w73.1.map cdS.enc))] [some ⟨5,66,[.ag [.v (.int .u8 w73.2.1),.st w73.2.2.1,.b w73.2.2.2.1,.e0,.j w73.2.2.2.2.1]],false⟩,some ⟨5,66,[.ag [.v (.int .u8 w73.2.2.2.2.2.1),.st w73.2.2.2.2.2.2.1,.b w73.2.2.2.2.2.2.2.1,.e0,.j w73.2.2.2.2.2.2.2.2.1]],false⟩] kr ?_;obtain ⟨v78,hv78,hj80⟩:=OB hj80;refine AW AD 0 rfl (BY kr rfl (Ad (a:= .sl 1 (w73.1.map cdS.enc)) (b:= .j 0) kr kr (Dn (e:=cdS.enc) (el:=9) (k:=1) (ki:= .i64) kr kr hv78))) ?_;refine AC (n:=124) AD 4 [(0,.sl 1 (w73.1.map cdS.enc)),(2,.pt 0 0 0),(4,.pt 1 0 0),(6,.b w73.2.2.2.2.2.2.2.2.2),(81,.b (!(v78==[108,97,115,116])))] [some ⟨5,66,[.ag [.v (.int .u8 w73.2.1),.st w73.2.2.1,.b w73.2.2.2.1,.e0,.j w73.2.2.2.2.1]],false⟩,some ⟨5,66,[.ag [.v (.int .u8 w73.2.2.2.2.2.1),.st w73.2.2.2.2.2.2.1,.b w73.2.2.2.2.2.2.2.1,.e0,.j w73.2.2.2.2.2.2.2.2.1]],false⟩] kr ?_;have hq:=OI hj80; subst hq;exact AE rfl (Al [0,1] ⟨⟨_,rfl,Cm⟩,⟨_,rfl,Cm⟩,trivial⟩ ⟨lv,lv,lv,lv,lv,trivial⟩)
    ·rw [BH hc100] at hj80
     rw [hc100];refine AC (n:=124) AD 6 [(0,.sl 1 (w73.1.map cdS.enc)),(2,.pt 0 0 0),(4,.pt 1 0 0),(6,.b w73.2.2.2.2.2.2.2.2.2),(81,.b false)] [some ⟨5,66,[.ag [.v (.int .u8 w73.2.1),.st w73.2.2.1,.b w73.2.2.2.1,.e0,.j w73.2.2.2.2.1]],false⟩,some ⟨5,66,[.ag [.v (.int .u8 w73.2.2.2.2.2.1),.st w73.2.2.2.2.2.2.1,.b w73.2.2.2.2.2.2.2.1,.e0,.j w73.2.2.2.2.2.2.2.2.1]],false⟩] kr ?_;have hq:=OI hj80; subst hq;exact AE rfl (Al [0,1] ⟨⟨_,rfl,Cm⟩,⟨_,rfl,Cm⟩,trivial⟩ ⟨lv,lv,lv,lv,lv,trivial⟩)
  refine AP (b:=j80) kr (fun hb81=>?_) (fun hb81=>?_)
  ·rw [if_pos hb81] at h
   refine AF ?_;refine AI (s1:=⟨Fr 124 [(2,.pt 0 0 0),(3,.b false)],[some ⟨5,66,[.ag [.v (.int .u8 w73.2.2.2.2.2.1),.st w73.2.2.2.2.2.2.1,.b w73.2.2.2.2.2.2.2.1,.e0,.j w73.2.2.2.2.2.2.2.2.1]],false⟩]⟩) ?_ ?_
   ·refine AC (n:=124) AD 3 [(2,.pt 0 0 0),(3,.b false)] [some ⟨5,66,[.ag [.v (.int .u8 w73.2.2.2.2.2.1),.st w73.2.2.2.2.2.2.1,.b w73.2.2.2.2.2.2.2.1,.e0,.j w73.2.2.2.2.2.2.2.2.1]],false⟩,some ⟨5,66,[.ag [.v (.int .u8 w73.2.2.2.2.2.1),.st w73.2.2.2.2.2.2.1,.b w73.2.2.2.2.2.2.2.1,.e0,.j w73.2.2.2.2.2.2.2.2.1]],false⟩] kr ?_
    exact AE rfl (Al [0] ⟨⟨_,rfl,Cm⟩,trivial⟩ ⟨lv,lv,trivial⟩)
   refine AU ?_;have hq:=OI h; subst hq;exact ⟨rfl,(Wk.trans (s1:=⟨Fr 124 [(2,.pt 0 0 0),(3,.b false)],[some ⟨5,66,[.ag [.v (.int .u8 w73.2.2.2.2.2.1),.st w73.2.2.2.2.2.2.1,.b w73.2.2.2.2.2.2.2.1,.e0,.j w73.2.2.2.2.2.2.2.2.1]],false⟩]⟩) AM (Wk.trans (s1:=⟨Fr 124 [(2,.pt 0 0 0),(3,.b false)],[some ⟨5,66,[.ag [.v (.int .u8 w73.2.2.2.2.2.1),.st w73.2.2.2.2.2.2.1,.b w73.2.2.2.2.2.2.2.1,.e0,.j w73.2.2.2.2.2.2.2.2.1]],false⟩,none]⟩) Wk.none (Wk.trans (s1:=⟨Fr 124 [(2,.pt 0 0 0),(3,.b false)],[some ⟨5,66,[.ag [.v (.int .u8 w73.2.2.2.2.2.1),.st w73.2.2.2.2.2.2.1,.b w73.2.2.2.2.2.2.2.1,.sl 1 ([].map cdS.enc),.j w73.2.2.2.2.2.2.2.2.1]],false⟩,none]⟩) (MP 1 (.inr kr) ⟨.inr (.inr ⟨_,_,_,_,rfl,rfl,⟨(.inr ⟨_,_,rfl,rfl,⟨.inl rfl,.inl rfl,.inl rfl,QC,.inl rfl,trivial⟩⟩),trivial⟩⟩),.inl rfl,trivial⟩ ⟨⟨.pt 0 0 0,kr,(.inl (.inl rfl))⟩,⟨.b false,kr,(.inl (.inl rfl))⟩,trivial⟩) (Al [0] ⟨⟨_,rfl,Cm⟩,trivial⟩ ⟨lv,lv,trivial⟩))))⟩
  ·rw [BH hb81] at h
   refine AX ?_;refine AF ?_;obtain ⟨v88,hv88,h⟩:=OB h;refine AI (s1:=⟨Fr 124 [(0,.sl 1 (w73.1.map cdS.enc)),(2,.pt 0 0 0),(4,.pt 1 0 0),(6,.b w73.2.2.2.2.2.2.2.2.2)],[some ⟨5,66,[.ag [.v (.int .u8 w73.2.1),.st w73.2.2.1,.b w73.2.2.2.1,.e0,.j w73.2.2.2.2.1]],false⟩,some ⟨5,66,[.ag [.v (.int .u8 w73.2.2.2.2.2.1),.st w73.2.2.2.2.2.2.1,.b (v88==[108,97,115,116]),.e0,.j w73.2.2.2.2.2.2.2.2.1]],false⟩]⟩) ?_ ?_
   ·refine AC (n:=124) AD 1 [(0,.sl 1 (w73.1.map cdS.enc)),(2,.pt 0 0 0),(4,.pt 1 0 0),(6,.b w73.2.2.2.2.2.2.2.2.2),(83,.sl 1 (w73.1.map cdS.enc))] [some ⟨5,66,[.ag [.v (.int .u8 w73.2.1),.st w73.2.2.1,.b w73.2.2.2.1,.e0,.j w73.2.2.2.2.1]],false⟩,some ⟨5,66,[.ag [.v (.int .u8 w73.2.2.2.2.2.1),.st w73.2.2.2.2.2.2.1,.b w73.2.2.2.2.2.2.2.1,.e0,.j w73.2.2.2.2.2.2.2.2.1]],false⟩] kr ?_
    refine AW AD 0 rfl (BY (AB rfl) rfl (Ad (a:= .sl 1 (w73.1.map cdS.enc)) (b:= .j 0) kr kr (Dn (e:=cdS.enc) (el:=9) (k:=1) (ki:= .i64) kr kr hv88))) ?_;exact Ak AD
   by_cases hk89:(By 1 (w73.1.length:Int) w73.1.length)=true
   case neg=>rw [if_neg hk89] at h; cases h
   rw [if_pos hk89] at h;refine AI (s1:=⟨Fr 124 [(0,.sl 1 (((w73.1.take (w73.1.length:Int).toNat).drop (1:Int).toNat).map cdS.enc)),(2,.pt 0 0 0),(4,.pt 1 0 0),(6,.b w73.2.2.2.2.2.2.2.2.2)],[some ⟨5,66,[.ag [.v (.int .u8 w73.2.1),.st w73.2.2.1,.b w73.2.2.2.1,.e0,.j w73.2.2.2.2.1]],false⟩,some ⟨5,66,[.ag [.v (.int .u8 w73.2.2.2.2.2.1),.st w73.2.2.2.2.2.2.1,.b (v88==[108,97,115,116]),.e0,.j w73.2.2.2.2.2.2.2.2.1]],false⟩]⟩) ?_ ?_
   ·refine AC (n:=124) AD 1 [(2,.pt 0 0 0),(4,.pt 1 0 0),(6,.b w73.2.2.2.2.2.2.2.2.2),(88,.sl 1 (w73.1.map cdS.enc))] [some ⟨5,66,[.ag [.v (.int .u8 w73.2.1),.st w73.2.2.1,.b w73.2.2.2.1,.e0,.j w73.2.2.2.2.1]],false⟩,some ⟨5,66,[.ag [.v (.int .u8 w73.2.2.2.2.2.1),.st w73.2.2.2.2.2.2.1,.b (v88==[108,97,115,116]),.e0,.j w73.2.2.2.2.2.2.2.2.1]],false⟩] kr ?_
    refine AW AD 0 rfl (BY (AB rfl) rfl (Di (a:= .sl 1 (w73.1.map cdS.enc)) (l:=(some (.j 1))) (u:=none) (m:=none) kr kr kr rfl (Gd (xs:=w73.1) (e:=cdS.enc) (k:=1) (el:=9) (lo:=1) (hi:=(w73.1.length:Int)) kr kr (Ee (Hm hk89)) rfl hk89))) ?_;exact Ak AD
   have hq:=OI h; subst hq;exact ⟨rfl,(Al [0,1] ⟨⟨_,rfl,Cm⟩,⟨_,rfl,Cm⟩,trivial⟩ ⟨lv,lv,lv,lv,trivial⟩)⟩
 ·rw [BH hb76] at h
  refine AX ?_;have hq:=OI h; subst hq;exact ⟨rfl,(Al [0,1] ⟨⟨_,rfl,Cm⟩,⟨_,rfl,Cm⟩,trivial⟩ ⟨lv,lv,lv,lv,trivial⟩)⟩
theorem Ka (x0:(List (List UInt8))) (r:AJ×Bool) (h:DL x0=some r):Sem E0 ⟨none,false⟩ Cn ⟨Fr 124 (BF 0 (Fs.enc (x0,()))),[]⟩ fun e s'=>(e = .normal\/e = .ret)/\∃ xs,Dk E0.P s'.fr s'.hp Tryz.f55.results.toList=some xs/\EB xs=Fz r:=by
 unfold DL at h;refine Bm (Cg (s1:=⟨Fr 124 [(0,.sl 1 (x0.map cdS.enc))],[]⟩) AM ?_);refine AT AD [(0,.sl 1 (x0.map cdS.enc)),(2,.pt 0 0 0)] [some ⟨5,66,[.ag [.v (.int .u8 0),.st [],.b false,.e0,.j 0]],false⟩] ?_;refine AT AD [(0,.sl 1 (x0.map cdS.enc)),(2,.pt 0 0 0),(4,.pt 1 0 0)] [some ⟨5,66,[.ag [.v (.int .u8 0),.st [],.b false,.e0,.j 0]],false⟩,some ⟨5,66,[.ag [.v (.int .u8 0),.st [],.b false,.e0,.j 0]],false⟩] ?_;refine AF ?_;refine AF ?_;obtain ⟨j3,hj3,h⟩:=OB h;refine AI (s1:=⟨Fr 124 [(0,.sl 1 (x0.map cdS.enc)),(2,.pt 0 0 0),(4,.pt 1 0 0),(15,.b j3)],[some ⟨5,66,[.ag [.v (.int .u8 0),.st [],.b false,.e0,.j 0]],false⟩,some ⟨5,66,[.ag [.v (.int .u8 0),.st [],.b false,.e0,.j 0]],false⟩]⟩) ?_ ?_
 ·refine AC (n:=124) AD 1 [(0,.sl 1 (x0.map cdS.enc)),(2,.pt 0 0 0),(4,.pt 1 0 0),(7,.sl 1 (x0.map cdS.enc))] [some ⟨5,66,[.ag [.v (.int .u8 0),.st [],.b false,.e0,.j 0]],false⟩,some ⟨5,66,[.ag [.v (.int .u8 0),.st [],.b false,.e0,.j 0]],false⟩] kr ?_
  refine AW AD 0 rfl (BY (AB rfl) rfl (ET (a:= .sl 1 (x0.map cdS.enc)) kr (C5 (el:=9) kr))) ?_;refine AC (n:=124) AD 2 [(0,.sl 1 (x0.map cdS.enc)),(2,.pt 0 0 0),(4,.pt 1 0 0),(10,.b (decide ((x0.length:Int) > 2)))] [some ⟨5,66,[.ag [.v (.int .u8 0),.st [],.b false,.e0,.j 0]],false⟩,some ⟨5,66,[.ag [.v (.int .u8 0),.st [],.b false,.e0,.j 0]],false⟩] kr ?_;rcases BE (decide ((x0.length:Int) > 2)) with hc128 | hc128
  ·rw [if_pos hc128] at hj3
   rw [hc128];refine AC (n:=124) AD 1 [(0,.sl 1 (x0.map cdS.enc)),(2,.pt 0 0 0),(4,.pt 1 0 0),(10,.b true),(11,.sl 1 (x0.map cdS.enc))] [some ⟨5,66,[.ag [.v (.int .u8 0),.st [],.b false,.e0,.j 0]],false⟩,some ⟨5,66,[.ag [.v (.int .u8 0),.st [],.b false,.e0,.j 0]],false⟩] kr ?_;obtain ⟨v1,hv1,hj3⟩:=OB hj3;refine AW AD 0 rfl (BY kr rfl (Ad (a:= .sl 1 (x0.map cdS.enc)) (b:= .j 0) kr kr (Dn (e:=cdS.enc) (el:=9) (k:=1) (ki:= .i64) kr kr hv1))) ?_;refine AC (n:=124) AD 3 [(0,.sl 1 (x0.map cdS.enc)),(2,.pt 0 0 0),(4,.pt 1 0 0),(15,.b (v1==[97,109,111,110,103]))] [some ⟨5,66,[.ag [.v (.int .u8 0),.st [],.b false,.e0,.j 0]],false⟩,some ⟨5,66,[.ag [.v (.int .u8 0),.st [],.b false,.e0,.j 0]],false⟩] kr ?_;have hq:=OI hj3; subst hq;exact AE rfl (Al [0,1] ⟨⟨_,rfl,Cm⟩,⟨_,rfl,Cm⟩,trivial⟩ ⟨lv,lv,lv,lv,trivial⟩)
  ·rw [BH hc128] at hj3
   rw [hc128];refine AC (n:=124) AD 5 [(0,.sl 1 (x0.map cdS.enc)),(2,.pt 0 0 0),(4,.pt 1 0 0),(15,.b false)] [some ⟨5,66,[.ag [.v (.int .u8 0),.st [],.b false,.e0,.j 0]],false⟩,some ⟨5,66,[.ag [.v (.int .u8 0),.st [],.b false,.e0,.j 0]],false⟩] kr ?_;have hq:=OI hj3; subst hq;exact AE rfl (Al [0,1] ⟨⟨_,rfl,Cm⟩,⟨_,rfl,Cm⟩,trivial⟩ ⟨lv,lv,lv,lv,trivial⟩)
 obtain ⟨r16,hr16,h⟩:=OB h;refine Ce (Jd x0 j3 _ hr16) ?_;refine AF ?_;refine AT AD [(0,.sl 1 (r16.1.map cdS.enc)),(2,.pt 0 0 0),(4,.pt 1 0 0),(5,.j 1)] [some ⟨5,66,[.ag [.v (.int .u8 r16.2.1),.st r16.2.2.1,.b r16.2.2.2.1,.e0,.j r16.2.2.2.2.1]],false⟩,some ⟨5,66,[.ag [.v (.int .u8 r16.2.2.2.2.2.1),.st r16.2.2.2.2.2.2.1,.b r16.2.2.2.2.2.2.2.1,.e0,.j r16.2.2.2.2.2.2.2.2]],false⟩] ?_;refine A0 ?_;obtain ⟨r47,hr47,h⟩:=OB h;refine DO (n:=100000) ?_;refine BX (A9 (s1:=⟨Fr 124 [(0,.sl 1 (r16.1.map cdS.enc)),(2,.pt 0 0 0),(4,.pt 1 0 0),(5,.j 1)],[some ⟨5,66,[.ag [.v (.int .u8 r16.2.1),.st r16.2.2.1,.b r16.2.2.2.1,.e0,.j r16.2.2.2.2.1]],false⟩,some ⟨5,66,[.ag [.v (.int .u8 r16.2.2.2.2.2.1),.st r16.2.2.2.2.2.2.1,.b r16.2.2.2.2.2.2.2.1,.e0,.j r16.2.2.2.2.2.2.2.2]],false⟩]⟩) (Al [0,1] ⟨⟨_,rfl,Cm⟩,⟨_,rfl,Cm⟩,trivial⟩ ⟨lv,lv,lv,lv,trivial⟩) (Jf r16 _ r16.2.1 r16.2.2.1 r16.2.2.2.1 r16.2.2.2.2.1 r16.2.2.2.2.2.1 r16.2.2.2.2.2.2.1 r16.2.2.2.2.2.2.2.1 r16.2.2.2.2.2.2.2.2 1 _ hr47)) ?_;refine AF ?_;by_cases hk48:(By 1 (r16.1.length:Int) r16.1.length)=true
 case neg=>rw [if_neg hk48] at h; cases h
 rw [if_pos hk48] at h;refine AI (s1:=⟨Fr 124 [(0,.sl 1 (((r16.1.take (r16.1.length:Int).toNat).drop (1:Int).toNat).map cdS.enc)),(2,.pt 0 0 0),(4,.pt 1 0 0)],[some ⟨5,66,[.ag [.v (.int .u8 r47.1),.st r47.2.1,.b r47.2.2.1,.e0,.j r47.2.2.2.1]],false⟩,some ⟨5,66,[.ag [.v (.int .u8 r47.2.2.2.2.1),.st r47.2.2.2.2.2.1,.b r47.2.2.2.2.2.2.1,.e0,.j r47.2.2.2.2.2.2.2]],false⟩]⟩) ?_ ?_
 ·refine AC (n:=124) AD 1 [(2,.pt 0 0 0),(4,.pt 1 0 0),(35,.sl 1 (r16.1.map cdS.enc))] [some ⟨5,66,[.ag [.v (.int .u8 r47.1),.st r47.2.1,.b r47.2.2.1,.e0,.j r47.2.2.2.1]],false⟩,some ⟨5,66,[.ag [.v (.int .u8 r47.2.2.2.2.1),.st r47.2.2.2.2.2.1,.b r47.2.2.2.2.2.2.1,.e0,.j r47.2.2.2.2.2.2.2]],false⟩] kr ?_
  refine AW AD 0 rfl (BY (AB rfl) rfl (Di (a:= .sl 1 (r16.1.map cdS.enc)) (l:=(some (.j 1))) (u:=none) (m:=none) kr kr kr rfl (Gd (xs:=r16.1) (e:=cdS.enc) (k:=1) (el:=9) (lo:=1) (hi:=(r16.1.length:Int)) kr kr (Ee (Hm hk48)) rfl hk48))) ?_;exact Ak AD
 refine AT AD [(0,.sl 1 (((r16.1.take (r16.1.length:Int).toNat).drop (1:Int).toNat).map cdS.enc)),(2,.pt 0 0 0),(4,.pt 1 0 0),(6,.b true)] [some ⟨5,66,[.ag [.v (.int .u8 r47.1),.st r47.2.1,.b r47.2.2.1,.e0,.j r47.2.2.2.1]],false⟩,some ⟨5,66,[.ag [.v (.int .u8 r47.2.2.2.2.1),.st r47.2.2.2.2.2.1,.b r47.2.2.2.2.2.2.1,.e0,.j r47.2.2.2.2.2.2.2]],false⟩] ?_;refine AF ?_;refine AF ?_;obtain ⟨j50,hj50,h⟩:=OB h;refine AI (s1:=⟨Fr 124 [(0,.sl 1 (((r16.1.take (r16.1.length:Int).toNat).drop (1:Int).toNat).map cdS.enc)),(2,.pt 0 0 0),(4,.pt 1 0 0),(6,.b true),(44,.b j50)],[some ⟨5,66,[.ag [.v (.int .u8 r47.1),.st r47.2.1,.b r47.2.2.1,.e0,.j r47.2.2.2.1]],false⟩,some ⟨5,66,[.ag [.v (.int .u8 r47.2.2.2.2.1),.st r47.2.2.2.2.2.1,.b r47.2.2.2.2.2.2.1,.e0,.j r47.2.2.2.2.2.2.2]],false⟩]⟩) ?_ ?_
 ·refine AC (n:=124) AD 4 [(0,.sl 1 (((r16.1.take (r16.1.length:Int).toNat).drop (1:Int).toNat).map cdS.enc)),(2,.pt 0 0 0),(4,.pt 1 0 0),(6,.b true),(40,.b (r47.2.2.2.2.1==4))] [some ⟨5,66,[.ag [.v (.int .u8 r47.1),.st r47.2.1,.b r47.2.2.1,.e0,.j r47.2.2.2.1]],false⟩,some ⟨5,66,[.ag [.v (.int .u8 r47.2.2.2.2.1),.st r47.2.2.2.2.2.1,.b r47.2.2.2.2.2.2.1,.e0,.j r47.2.2.2.2.2.2.2]],false⟩] kr ?_
  rcases BE (r47.2.2.2.2.1==4) with hc127 | hc127
  ·rw [if_pos hc127] at hj50
   rw [hc127];refine AC (n:=124) AD 4 [(0,.sl 1 (((r16.1.take (r16.1.length:Int).toNat).drop (1:Int).toNat).map cdS.enc)),(2,.pt 0 0 0),(4,.pt 1 0 0),(6,.b true),(44,.b true)] [some ⟨5,66,[.ag [.v (.int .u8 r47.1),.st r47.2.1,.b r47.2.2.1,.e0,.j r47.2.2.2.1]],false⟩,some ⟨5,66,[.ag [.v (.int .u8 r47.2.2.2.2.1),.st r47.2.2.2.2.2.1,.b r47.2.2.2.2.2.2.1,.e0,.j r47.2.2.2.2.2.2.2]],false⟩] kr ?_;have hq:=OI hj50; subst hq;exact AE rfl (Al [0,1] ⟨⟨_,rfl,Cm⟩,⟨_,rfl,Cm⟩,trivial⟩ ⟨lv,lv,lv,lv,lv,trivial⟩)
  ·rw [BH hc127] at hj50
   rw [hc127];refine AC (n:=124) AD 4 [(0,.sl 1 (((r16.1.take (r16.1.length:Int).toNat).drop (1:Int).toNat).map cdS.enc)),(2,.pt 0 0 0),(4,.pt 1 0 0),(6,.b true),(44,.b (r47.2.2.2.2.1==10))] [some ⟨5,66,[.ag [.v (.int .u8 r47.1),.st r47.2.1,.b r47.2.2.1,.e0,.j r47.2.2.2.1]],false⟩,some ⟨5,66,[.ag [.v (.int .u8 r47.2.2.2.2.1),.st r47.2.2.2.2.2.1,.b r47.2.2.2.2.2.2.1,.e0,.j r47.2.2.2.2.2.2.2]],false⟩] kr ?_;have hq:=OI hj50; subst hq;exact AE rfl (Al [0,1] ⟨⟨_,rfl,Cm⟩,⟨_,rfl,Cm⟩,trivial⟩ ⟨lv,lv,lv,lv,lv,trivial⟩)
 obtain ⟨r72,hr72,h⟩:=OB h;rcases r72 with w73 | w126
 ·try dsimp only at h
  refine Ce (Gb r16 r47 j50 _ hr72) ?_;refine AF ?_;refine AF ?_;obtain ⟨j75,hj75,h⟩:=OB h;refine AI (s1:=⟨Fr 124 [(0,.sl 1 (w73.1.map cdS.enc)),(2,.pt 0 0 0),(4,.pt 1 0 0),(6,.b w73.2.2.2.2.2.2.2.2.2),(66,.b j75)],[some ⟨5,66,[.ag [.v (.int .u8 w73.2.1),.st w73.2.2.1,.b w73.2.2.2.1,.e0,.j w73.2.2.2.2.1]],false⟩,some ⟨5,66,[.ag [.v (.int .u8 w73.2.2.2.2.2.1),.st w73.2.2.2.2.2.2.1,.b w73.2.2.2.2.2.2.2.1,.e0,.j w73.2.2.2.2.2.2.2.2.1]],false⟩]⟩) ?_ ?_
  ·refine AC (n:=124) AD 4 [(0,.sl 1 (w73.1.map cdS.enc)),(2,.pt 0 0 0),(4,.pt 1 0 0),(6,.b w73.2.2.2.2.2.2.2.2.2),(62,.b (decide (w73.2.2.2.2.2.1≥4)))] [some ⟨5,66,[.ag [.v (.int .u8 w73.2.1),.st w73.2.2.1,.b w73.2.2.2.1,.e0,.j w73.2.2.2.2.1]],false⟩,some ⟨5,66,[.ag [.v (.int .u8 w73.2.2.2.2.2.1),.st w73.2.2.2.2.2.2.1,.b w73.2.2.2.2.2.2.2.1,.e0,.j w73.2.2.2.2.2.2.2.2.1]],false⟩] kr ?_
   rcases BE (decide (w73.2.2.2.2.2.1≥4)) with hc125 | hc125
   ·rw [if_pos hc125] at hj75
    rw [hc125];refine AC (n:=124) AD 4 [(0,.sl 1 (w73.1.map cdS.enc)),(2,.pt 0 0 0),(4,.pt 1 0 0),(6,.b w73.2.2.2.2.2.2.2.2.2),(66,.b (decide (w73.2.2.2.2.2.1<=7)))] [some ⟨5,66,[.ag [.v (.int .u8 w73.2.1),.st w73.2.2.1,.b w73.2.2.2.1,.e0,.j w73.2.2.2.2.1]],false⟩,some ⟨5,66,[.ag [.v (.int .u8 w73.2.2.2.2.2.1),.st w73.2.2.2.2.2.2.1,.b w73.2.2.2.2.2.2.2.1,.e0,.j w73.2.2.2.2.2.2.2.2.1]],false⟩] kr ?_;have hq:=OI hj75; subst hq;exact AE rfl (Al [0,1] ⟨⟨_,rfl,Cm⟩,⟨_,rfl,Cm⟩,trivial⟩ ⟨lv,lv,lv,lv,lv,trivial⟩)
   ·rw [BH hc125] at hj75
    rw [hc125];refine AC (n:=124) AD 4 [(0,.sl 1 (w73.1.map cdS.enc)),(2,.pt 0 0 0),(4,.pt 1 0 0),(6,.b w73.2.2.2.2.2.2.2.2.2),(66,.b false)] [some ⟨5,66,[.ag [.v (.int .u8 w73.2.1),.st w73.2.2.1,.b w73.2.2.2.1,.e0,.j w73.2.2.2.2.1]],false⟩,some ⟨5,66,[.ag [.v (.int .u8 w73.2.2.2.2.2.1),.st w73.2.2.2.2.2.2.1,.b w73.2.2.2.2.2.2.2.1,.e0,.j w73.2.2.2.2.2.2.2.2.1]],false⟩] kr ?_;have hq:=OI hj75; subst hq;exact AE rfl (Al [0,1] ⟨⟨_,rfl,Cm⟩,⟨_,rfl,Cm⟩,trivial⟩ ⟨lv,lv,lv,lv,lv,trivial⟩)
  obtain ⟨r101,hr101,h⟩:=OB h;rcases r101 with w102 | w124
  ·try dsimp only at h
   refine Ce (Gc w73 j75 _ hr101) ?_;refine AF ?_;refine AF ?_;obtain ⟨j104,hj104,h⟩:=OB h;refine AI (s1:=⟨Fr 124 [(0,.sl 1 (w102.1.map cdS.enc)),(2,.pt 0 0 0),(4,.pt 1 0 0),(6,.b w73.2.2.2.2.2.2.2.2.2),(102,.b j104)],[some ⟨5,66,[.ag [.v (.int .u8 w102.2.1),.st w102.2.2.1,.b w102.2.2.2.1,.e0,.j w102.2.2.2.2.1]],false⟩,some ⟨5,66,[.ag [.v (.int .u8 w102.2.2.2.2.2.1),.st w102.2.2.2.2.2.2.1,.b w102.2.2.2.2.2.2.2.1,.e0,.j w102.2.2.2.2.2.2.2.2]],false⟩]⟩) ?_ ?_
   ·refine AC (n:=124) AD 4 [(0,.sl 1 (w102.1.map cdS.enc)),(2,.pt 0 0 0),(4,.pt 1 0 0),(6,.b w73.2.2.2.2.2.2.2.2.2),(93,.b (w102.2.2.2.2.2.1==1))] [some ⟨5,66,[.ag [.v (.int .u8 w102.2.1),.st w102.2.2.1,.b w102.2.2.2.1,.e0,.j w102.2.2.2.2.1]],false⟩,some ⟨5,66,[.ag [.v (.int .u8 w102.2.2.2.2.2.1),.st w102.2.2.2.2.2.2.1,.b w102.2.2.2.2.2.2.2.1,.e0,.j w102.2.2.2.2.2.2.2.2]],false⟩] kr ?_
    rcases BE (w102.2.2.2.2.2.1==1) with hc122 | hc122
    ·rw [if_pos hc122] at hj104
     rw [hc122];refine AC (n:=124) AD 9 [(0,.sl 1 (w102.1.map cdS.enc)),(2,.pt 0 0 0),(4,.pt 1 0 0),(6,.b w73.2.2.2.2.2.2.2.2.2),(102,.b true)] [some ⟨5,66,[.ag [.v (.int .u8 w102.2.1),.st w102.2.2.1,.b w102.2.2.2.1,.e0,.j w102.2.2.2.2.1]],false⟩,some ⟨5,66,[.ag [.v (.int .u8 w102.2.2.2.2.2.1),.st w102.2.2.2.2.2.2.1,.b w102.2.2.2.2.2.2.2.1,.e0,.j w102.2.2.2.2.2.2.2.2]],false⟩] kr ?_;have hq:=OI hj104; subst hq;exact AE rfl (Al [0,1] ⟨⟨_,rfl,Cm⟩,⟨_,rfl,Cm⟩,trivial⟩ ⟨lv,lv,lv,lv,lv,trivial⟩)
    ·rw [BH hc122] at hj104
     rw [hc122];refine AC (n:=124) AD 5 [(0,.sl 1 (w102.1.map cdS.enc)),(2,.pt 0 0 0),(4,.pt 1 0 0),(6,.b w73.2.2.2.2.2.2.2.2.2),(98,.b (w102.2.2.2.2.2.1==6))] [some ⟨5,66,[.ag [.v (.int .u8 w102.2.1),.st w102.2.2.1,.b w102.2.2.2.1,.e0,.j w102.2.2.2.2.1]],false⟩,some ⟨5,66,[.ag [.v (.int .u8 w102.2.2.2.2.2.1),.st w102.2.2.2.2.2.2.1,.b w102.2.2.2.2.2.2.2.1,.e0,.j w102.2.2.2.2.2.2.2.2]],false⟩] kr ?_;rcases BE (w102.2.2.2.2.2.1==6) with hc123 | hc123
     ·rw [if_pos hc123] at hj104
      rw [hc123];refine AC (n:=124) AD 4 [(0,.sl 1 (w102.1.map cdS.enc)),(2,.pt 0 0 0),(4,.pt 1 0 0),(6,.b w73.2.2.2.2.2.2.2.2.2),(102,.b true)] [some ⟨5,66,[.ag [.v (.int .u8 w102.2.1),.st w102.2.2.1,.b w102.2.2.2.1,.e0,.j w102.2.2.2.2.1]],false⟩,some ⟨5,66,[.ag [.v (.int .u8 w102.2.2.2.2.2.1),.st w102.2.2.2.2.2.2.1,.b w102.2.2.2.2.2.2.2.1,.e0,.j w102.2.2.2.2.2.2.2.2]],false⟩] kr ?_;have hq:=OI hj104; subst hq;exact AE rfl (Al [0,1] ⟨⟨_,rfl,Cm⟩,⟨_,rfl,Cm⟩,trivial⟩ ⟨lv,lv,lv,lv,lv,trivial⟩)
     ·rw [BH hc123] at hj104
      rw [hc123];refine AC (n:=124) AD 4 [(0,.sl 1 (w102.1.map cdS.enc)),(2,.pt 0 0 0),(4,.pt 1 0 0),(6,.b w73.2.2.2.2.2.2.2.2.2),(102,.b (w102.2.2.2.2.2.1==7))] [some ⟨5,66,[.ag [.v (.int .u8 w102.2.1),.st w102.2.2.1,.b w102.2.2.2.1,.e0,.j w102.2.2.2.2.1]],false⟩,some ⟨5,66,[.ag [.v (.int .u8 w102.2.2.2.2.2.1),.st w102.2.2.2.2.2.2.1,.b w102.2.2.2.2.2.2.2.1,.e0,.j w102.2.2.2.2.2.2.2.2]],false⟩] kr ?_;have hq:=OI hj104; subst hq;exact AE rfl (Al [0,1] ⟨⟨_,rfl,Cm⟩,⟨_,rfl,Cm⟩,trivial⟩ ⟨lv,lv,lv,lv,lv,trivial⟩)
   refine AP (b:=j104) kr (fun hb105=>?_) (fun hb105=>?_)
   ·rw [if_pos hb105] at h
    refine AT AD [(0,.sl 1 (w102.1.map cdS.enc)),(2,.pt 0 0 0),(4,.pt 1 0 0),(6,.b w73.2.2.2.2.2.2.2.2.2)] [some ⟨5,66,[.ag [.v (.int .u8 w102.2.1),.st w102.2.2.1,.b w102.2.2.2.1,.e0,.j w102.2.2.2.2.1]],false⟩,some ⟨5,66,[.ag [.v (.int .u8 w102.2.2.2.2.2.1),.st w102.2.2.2.2.2.2.1,.b w102.2.2.2.2.2.2.2.1,.sl 1 (w102.1.map cdS.enc),.j w102.2.2.2.2.2.2.2.2]],false⟩] ?_;refine AF ?_;obtain ⟨j112,hj112,h⟩:=OB h;refine AI (s1:=⟨Fr 124 [(2,.pt 0 0 0),(3,.b j112.2.2.2.2.2)],[some ⟨5,66,[.ag [.v (.int .u8 j112.1),.st j112.2.1,.b j112.2.2.1,.sl 1 (j112.2.2.2.1.map cdS.enc),.j j112.2.2.2.2.1]],false⟩]⟩) ?_ ?_
    ·refine AC (n:=124) AD 3 [(0,.sl 1 (w102.1.map cdS.enc)),(2,.pt 0 0 0),(105,.ag [.v (.int .u8 w102.2.2.2.2.2.1),.st w102.2.2.2.2.2.2.1,.b w102.2.2.2.2.2.2.2.1,.sl 1 (w102.1.map cdS.enc),.j w102.2.2.2.2.2.2.2.2]),(107,.b w73.2.2.2.2.2.2.2.2.2)] [some ⟨5,66,[.ag [.v (.int .u8 w102.2.1),.st w102.2.2.1,.b w102.2.2.2.1,.e0,.j w102.2.2.2.2.1]],false⟩,some ⟨5,66,[.ag [.v (.int .u8 w102.2.2.2.2.2.1),.st w102.2.2.2.2.2.2.1,.b w102.2.2.2.2.2.2.2.1,.sl 1 (w102.1.map cdS.enc),.j w102.2.2.2.2.2.2.2.2]],false⟩] kr ?_
     rcases BE w73.2.2.2.2.2.2.2.2.2 with hc113 | hc113
     ·rw [if_pos hc113] at hj112
      rw [hc113];refine AC (n:=124) AD 1 [(2,.pt 0 0 0),(105,.ag [.v (.int .u8 w102.2.2.2.2.2.1),.st w102.2.2.2.2.2.2.1,.b w102.2.2.2.2.2.2.2.1,.sl 1 (w102.1.map cdS.enc),.j w102.2.2.2.2.2.2.2.2]),(107,.b true),(108,.sl 1 (w102.1.map cdS.enc))] [some ⟨5,66,[.ag [.v (.int .u8 w102.2.1),.st w102.2.2.1,.b w102.2.2.2.1,.e0,.j w102.2.2.2.2.1]],false⟩,some ⟨5,66,[.ag [.v (.int .u8 w102.2.2.2.2.2.1),.st w102.2.2.2.2.2.2.1,.b w102.2.2.2.2.2.2.2.1,.sl 1 (w102.1.map cdS.enc),.j w102.2.2.2.2.2.2.2.2]],false⟩] kr ?_;refine AW AD 0 rfl (BY kr rfl (ET (a:= .sl 1 (w102.1.map cdS.enc)) kr (C5 (el:=9) kr))) ?_;refine AC (n:=124) AD 4 [(2,.pt 0 0 0),(3,.b (decide ((w102.1.length:Int) > 0)))] [some ⟨5,66,[.ag [.v (.int .u8 w102.2.2.2.2.2.1),.st w102.2.2.2.2.2.2.1,.b w102.2.2.2.2.2.2.2.1,.sl 1 (w102.1.map cdS.enc),.j w102.2.2.2.2.2.2.2.2]],false⟩,some ⟨5,66,[.ag [.v (.int .u8 w102.2.2.2.2.2.1),.st w102.2.2.2.2.2.2.1,.b w102.2.2.2.2.2.2.2.1,.sl 1 (w102.1.map cdS.enc),.j w102.2.2.2.2.2.2.2.2]],false⟩] kr ?_;have hq:=OI hj112; subst hq;exact AE rfl (Al [0] ⟨⟨_,rfl,Cm⟩,trivial⟩ ⟨lv,lv,trivial⟩)
     ·rw [BH hc113] at hj112
      rw [hc113];refine AC (n:=124) AD 6 [(2,.pt 0 0 0),(3,.b false)] [some ⟨5,66,[.ag [.v (.int .u8 w102.2.2.2.2.2.1),.st w102.2.2.2.2.2.2.1,.b w102.2.2.2.2.2.2.2.1,.sl 1 (w102.1.map cdS.enc),.j w102.2.2.2.2.2.2.2.2]],false⟩,some ⟨5,66,[.ag [.v (.int .u8 w102.2.2.2.2.2.1),.st w102.2.2.2.2.2.2.1,.b w102.2.2.2.2.2.2.2.1,.sl 1 (w102.1.map cdS.enc),.j w102.2.2.2.2.2.2.2.2]],false⟩] kr ?_;have hq:=OI hj112; subst hq;exact AE rfl (Al [0] ⟨⟨_,rfl,Cm⟩,trivial⟩ ⟨lv,lv,trivial⟩)
    refine AU ?_;have hq:=OI h; subst hq;exact ⟨⟨Fr 124 [(2,.pt 0 0 0),(3,.b j112.2.2.2.2.2)],[some ⟨5,66,[.ag [.v (.int .u8 j112.1),.st j112.2.1,.b j112.2.2.1,.sl 1 (j112.2.2.2.1.map cdS.enc),.j j112.2.2.2.2.1]],false⟩]⟩,(Al [0] ⟨⟨_,rfl,Cm⟩,trivial⟩ ⟨lv,lv,trivial⟩),.inr rfl,[.ag [.v (.int .u8 j112.1),.st j112.2.1,.b j112.2.2.1,.sl 1 (j112.2.2.2.1.map cdS.enc),.j j112.2.2.2.2.1],.b j112.2.2.2.2.2],kr,kr⟩
   ·rw [BH hb105] at h
    refine AX ?_;refine AF ?_;obtain ⟨j119,hj119,h⟩:=OB h;refine AI (s1:=⟨Fr 124 [(2,.pt 0 0 0),(3,.b j119.2.2.2.2)],[some ⟨5,66,[.ag [.v (.int .u8 j119.1),.st j119.2.1,.b j119.2.2.1,.e0,.j j119.2.2.2.1]],false⟩]⟩) ?_ ?_
    ·refine AC (n:=124) AD 3 [(0,.sl 1 (w102.1.map cdS.enc)),(2,.pt 0 0 0),(4,.pt 1 0 0),(112,.ag [.v (.int .u8 w102.2.2.2.2.2.1),.st w102.2.2.2.2.2.2.1,.b w102.2.2.2.2.2.2.2.1,.e0,.j w102.2.2.2.2.2.2.2.2]),(114,.b w73.2.2.2.2.2.2.2.2.2)] [some ⟨5,66,[.ag [.v (.int .u8 w102.2.1),.st w102.2.2.1,.b w102.2.2.2.1,.e0,.j w102.2.2.2.2.1]],false⟩,some ⟨5,66,[.ag [.v (.int .u8 w102.2.2.2.2.2.1),.st w102.2.2.2.2.2.2.1,.b w102.2.2.2.2.2.2.2.1,.e0,.j w102.2.2.2.2.2.2.2.2]],false⟩] kr ?_
     rcases BE w73.2.2.2.2.2.2.2.2.2 with hc120 | hc120
     ·rw [if_pos hc120] at hj119
      rw [hc120];refine AC (n:=124) AD 5 [(0,.sl 1 (w102.1.map cdS.enc)),(2,.pt 0 0 0),(112,.ag [.v (.int .u8 w102.2.2.2.2.2.1),.st w102.2.2.2.2.2.2.1,.b w102.2.2.2.2.2.2.2.1,.e0,.j w102.2.2.2.2.2.2.2.2]),(119,.b (w102.2.2.2.2.2.1 != 0))] [some ⟨5,66,[.ag [.v (.int .u8 w102.2.1),.st w102.2.2.1,.b w102.2.2.2.1,.e0,.j w102.2.2.2.2.1]],false⟩,some ⟨5,66,[.ag [.v (.int .u8 w102.2.2.2.2.2.1),.st w102.2.2.2.2.2.2.1,.b w102.2.2.2.2.2.2.2.1,.e0,.j w102.2.2.2.2.2.2.2.2]],false⟩] kr ?_;rcases BE (w102.2.2.2.2.2.1 != 0) with hc121 | hc121
      ·rw [if_pos hc121] at hj119
       rw [hc121];refine AC (n:=124) AD 1 [(2,.pt 0 0 0),(112,.ag [.v (.int .u8 w102.2.2.2.2.2.1),.st w102.2.2.2.2.2.2.1,.b w102.2.2.2.2.2.2.2.1,.e0,.j w102.2.2.2.2.2.2.2.2]),(119,.b true),(120,.sl 1 (w102.1.map cdS.enc))] [some ⟨5,66,[.ag [.v (.int .u8 w102.2.1),.st w102.2.2.1,.b w102.2.2.2.1,.e0,.j w102.2.2.2.2.1]],false⟩,some ⟨5,66,[.ag [.v (.int .u8 w102.2.2.2.2.2.1),.st w102.2.2.2.2.2.2.1,.b w102.2.2.2.2.2.2.2.1,.e0,.j w102.2.2.2.2.2.2.2.2]],false⟩] kr ?_;refine AW AD 0 rfl (BY kr rfl (ET (a:= .sl 1 (w102.1.map cdS.enc)) kr (C5 (el:=9) kr))) ?_;refine AC (n:=124) AD 4 [(2,.pt 0 0 0),(3,.b ((w102.1.length:Int)==0))] [some ⟨5,66,[.ag [.v (.int .u8 w102.2.2.2.2.2.1),.st w102.2.2.2.2.2.2.1,.b w102.2.2.2.2.2.2.2.1,.e0,.j w102.2.2.2.2.2.2.2.2]],false⟩,some ⟨5,66,[.ag [.v (.int .u8 w102.2.2.2.2.2.1),.st w102.2.2.2.2.2.2.1,.b w102.2.2.2.2.2.2.2.1,.e0,.j w102.2.2.2.2.2.2.2.2]],false⟩] kr ?_;have hq:=OI hj119; subst hq;exact AE rfl (Al [0] ⟨⟨_,rfl,Cm⟩,trivial⟩ ⟨lv,lv,trivial⟩)
      ·rw [BH hc121] at hj119
       rw [hc121];refine AC (n:=124) AD 6 [(2,.pt 0 0 0),(3,.b false)] [some ⟨5,66,[.ag [.v (.int .u8 w102.2.2.2.2.2.1),.st w102.2.2.2.2.2.2.1,.b w102.2.2.2.2.2.2.2.1,.e0,.j w102.2.2.2.2.2.2.2.2]],false⟩,some ⟨5,66,[.ag [.v (.int .u8 w102.2.2.2.2.2.1),.st w102.2.2.2.2.2.2.1,.b w102.2.2.2.2.2.2.2.1,.e0,.j w102.2.2.2.2.2.2.2.2]],false⟩] kr ?_;have hq:=OI hj119; subst hq;exact AE rfl (Al [0] ⟨⟨_,rfl,Cm⟩,trivial⟩ ⟨lv,lv,trivial⟩)
     ·rw [BH hc120] at hj119
      rw [hc120];refine AC (n:=124) AD 11 [(2,.pt 0 0 0),(3,.b false)] [some ⟨5,66,[.ag [.v (.int .u8 w102.2.2.2.2.2.1),.st w102.2.2.2.2.2.2.1,.b w102.2.2.2.2.2.2.2.1,.e0,.j w102.2.2.2.2.2.2.2.2]],false⟩,some ⟨5,66,[.ag [.v (.int .u8 w102.2.2.2.2.2.1),.st w102.2.2.2.2.2.2.1,.b w102.2.2.2.2.2.2.2.1,.e0,.j w102.2.2.2.2.2.2.2.2]],false⟩] kr ?_;have hq:=OI hj119; subst hq;exact AE rfl (Al [0] ⟨⟨_,rfl,Cm⟩,trivial⟩ ⟨lv,lv,trivial⟩)
    refine AU ?_;have hq:=OI h; subst hq;exact ⟨⟨Fr 124 [(2,.pt 0 0 0),(3,.b j119.2.2.2.2)],[some ⟨5,66,[.ag [.v (.int .u8 j119.1),.st j119.2.1,.b j119.2.2.1,.sl 1 ([].map cdS.enc),.j j119.2.2.2.1]],false⟩]⟩,(Wk.trans (s1:=⟨Fr 124 [(2,.pt 0 0 0),(3,.b j119.2.2.2.2)],[some ⟨5,66,[.ag [.v (.int .u8 j119.1),.st j119.2.1,.b j119.2.2.1,.e0,.j j119.2.2.2.1]],false⟩]⟩) AM (Wk.trans (s1:=⟨Fr 124 [(2,.pt 0 0 0),(3,.b j119.2.2.2.2)],[some ⟨5,66,[.ag [.v (.int .u8 j119.1),.st j119.2.1,.b j119.2.2.1,.e0,.j j119.2.2.2.1]],false⟩,none]⟩) Wk.none (Wk.trans (s1:=⟨Fr 124 [(2,.pt 0 0 0),(3,.b j119.2.2.2.2)],[some ⟨5,66,[.ag [.v (.int .u8 j119.1),.st j119.2.1,.b j119.2.2.1,.sl 1 ([].map cdS.enc),.j j119.2.2.2.1]],false⟩,none]⟩) (MP 1 (.inr kr) ⟨.inr (.inr ⟨_,_,_,_,rfl,rfl,⟨(.inr ⟨_,_,rfl,rfl,⟨.inl rfl,.inl rfl,.inl rfl,QC,.inl rfl,trivial⟩⟩),trivial⟩⟩),.inl rfl,trivial⟩ ⟨⟨.pt 0 0 0,kr,(.inl (.inl rfl))⟩,⟨.b j119.2.2.2.2,kr,(.inl (.inl rfl))⟩,trivial⟩) (Al [0] ⟨⟨_,rfl,Cm⟩,trivial⟩ ⟨lv,lv,trivial⟩)))),.inr rfl,[.ag [.v (.int .u8 j119.1),.st j119.2.1,.b j119.2.2.1,.sl 1 ([].map cdS.enc),.j j119.2.2.2.1],.b j119.2.2.2.2],kr,kr⟩
  ·try dsimp only at h
   refine Ce (Gc w73 j75 _ hr101) ?_;have hq:=OI h; subst hq;exact ⟨⟨Fr 124 [(2,.pt 0 0 0),(3,.b w124.2.2.2.2.2)],[some ⟨5,66,[.ag [.v (.int .u8 w124.1),.st w124.2.1,.b w124.2.2.1,.sl 1 (w124.2.2.2.1.map cdS.enc),.j w124.2.2.2.2.1]],false⟩]⟩,(Al [0] ⟨⟨_,rfl,Cm⟩,trivial⟩ ⟨lv,lv,trivial⟩),.inr rfl,[.ag [.v (.int .u8 w124.1),.st w124.2.1,.b w124.2.2.1,.sl 1 (w124.2.2.2.1.map cdS.enc),.j w124.2.2.2.2.1],.b w124.2.2.2.2.2],kr,kr⟩
 ·try dsimp only at h
  refine Ce (Gb r16 r47 j50 _ hr72) ?_;have hq:=OI h; subst hq;exact ⟨⟨Fr 124 [(2,.pt 0 0 0),(3,.b w126.2.2.2.2.2)],[some ⟨5,66,[.ag [.v (.int .u8 w126.1),.st w126.2.1,.b w126.2.2.1,.sl 1 (w126.2.2.2.1.map cdS.enc),.j w126.2.2.2.2.1]],false⟩]⟩,(Al [0] ⟨⟨_,rfl,Cm⟩,trivial⟩ ⟨lv,lv,trivial⟩),.inr rfl,[.ag [.v (.int .u8 w126.1),.st w126.2.1,.b w126.2.2.1,.sl 1 (w126.2.2.2.1.map cdS.enc),.j w126.2.2.2.2.1],.b w126.2.2.2.2.2],kr,kr⟩
def Lu:List AV->Option AV:=Ea Fs (fun a=>DL a.1) Fz
theorem Lz:XOk 55 Lu:=by
 refine Ap Tryz.func55 (c:=Cn) ?h2 ⟨Tryz.call55⟩ Fs (fun a=>DL a.1) Fz (fun a=>(by show 1<=124; decide)) ?h3 ?h4
 case h2=>kernel_rfl
 case h3=>intro b; kernel_rfl
 case h4=>exact fun a b h=>Ka a.1 b h
/- trestle/trestleref03.between -/
noncomputable def Hi:Code:=Bc Tryz.f101
def A6 (x0:Int) (x1:Int) (x2:Int):Option (Bool) :=
 (if (decide (x1<=x0))=true then some (decide (x0<=x2)) else some false).bind fun j2 =>
 some j2
def FI:Cs (Int×Int×Int×Unit):=(csC cdI (csC cdI (csC cdI csN)))
def FM (r:Bool):AV:=cdB.enc r
theorem J5 (x0:Int) (x1:Int) (x2:Int) (r:Bool) (h:A6 x0 x1 x2=some r):Sem E0 ⟨none,false⟩ Hi ⟨Fr 15 (BF 0 (FI.enc (x0,x1,x2,()))),[]⟩ fun e s'=>(e = .normal\/e = .ret)/\∃ xs,Dk E0.P s'.fr s'.hp Tryz.f101.results.toList=some xs/\EB xs=FM r:=by
 unfold A6 at h;refine Bm (Cg (s1:=⟨Fr 15 [(0,.j x0),(1,.j x1),(2,.j x2)],[]⟩) AM ?_);refine AT AD [(0,.j x0),(1,.j x1),(2,.j x2)] [] ?_;refine AF ?_;obtain ⟨j2,hj2,h⟩:=OB h;refine AI (s1:=⟨Fr 15 [(6,.b j2)],[]⟩) ?_ ?_
 ·refine AC (n:=15) AD 4 [(0,.j x0),(2,.j x2),(10,.b (decide (x1<=x0)))] [] kr ?_
  rcases BE (decide (x1<=x0)) with hc3 | hc3
  ·rw [if_pos hc3] at hj2
   rw [hc3];refine AC (n:=15) AD 5 [(6,.b (decide (x0<=x2)))] [] kr ?_;have hq:=OI hj2; subst hq;exact AE rfl AM
  ·rw [BH hc3] at hj2
   rw [hc3];refine AC (n:=15) AD 5 [(6,.b false)] [] kr ?_;have hq:=OI hj2; subst hq;exact AE rfl AM
 refine AU ?_;have hq:=OI h; subst hq;exact ⟨⟨Fr 15 [(6,.b j2)],[]⟩,AM,.inr rfl,[.b j2],kr,kr⟩
def LT:List AV->Option AV:=Ea FI (fun a=>A6 a.1 a.2.1 a.2.2.1) FM
theorem Ec:XOk 101 LT:=by
 refine Ap Tryz.func101 (c:=Hi) ?h2 ⟨Tryz.call101⟩ FI (fun a=>A6 a.1 a.2.1 a.2.2.1) FM (fun a=>(by show 3<=15; decide)) ?h3 ?h4
 case h2=>kernel_rfl
 case h3=>intro b; kernel_rfl
 case h4=>exact fun a b h=>J5 a.1 a.2.1 a.2.2.1 b h
/- trestle/trestleref03.formed -/
noncomputable def DC:Code:=Bc Tryz.f85
def EX (x0:AJ):Option ((Bool)) :=
 if (x0.1==8)=true then
 some (x0.1==8)
 else
 some (x0.1==9)
def EW (x0:AJ):Option ((Bool)) :=
 if (x0.1==3)=true then
 some (x0.1==3)
 else
 (EX x0).bind fun r14 =>
 some r14
def EV (x0:AJ):Option ((Bool)) :=
 if (x0.1==2)=true then
 some (x0.1==2)
 else
 (EW x0).bind fun r15 =>
 some r15
def EY (x0:AJ):Option ((Bool)) :=
 if (x0.1==6)=true then
 some (x0.1==6)
 else
 some (x0.1==7)
def Ai (x0:AJ):Option (Bool) :=
 if (x0.1==1)=true then
 (A6 (x0.2.2.2.1.length:Int) 1 16).bind fun v2 =>
 (if v2=true then if (x0.2.2.2.2==0)=true then if (!x0.2.2.1)=true then some (x0.2.1==[]) else some false else some false else some false).bind fun j4 =>
 some j4
 else
 (EV x0).bind fun r16 =>
 if r16=true then
 (if ((x0.2.2.2.1.length:Int)==0)=true then if (x0.2.2.2.2==0)=true then some (!x0.2.2.1) else some false else some false).bind fun j19 =>
 some j19
 else
 if (x0.1==4)=true then
 (if ((x0.2.2.2.1.length:Int)==0)=true then (A6 x0.2.2.2.2 1 2).bind fun v23 =>
 some v23 else some false).bind fun j25 =>
 some j25
 else
 if (x0.1==5)=true then
 (if ((x0.2.2.2.1.length:Int)==0)=true then some (x0.2.2.2.2==0) else some false).bind fun j29 =>
 some j29
 else
 (EY x0).bind fun r33 =>
 if r33=true then
 (A6 (x0.2.2.2.1.length:Int) 1 16).bind fun v35 =>
 (if v35=true then some (x0.2.2.2.2==0) else some false).bind fun j37 =>
 some j37
 else
 if (x0.1==10)=true then
 (if ((x0.2.2.2.1.length:Int)==0)=true then (A6 x0.2.2.2.2 0 63).bind fun v40 =>
 if v40=true then some (!x0.2.2.1) else some false else some false).bind fun j42 =>
 some j42
 else
 some false
def Ft:Cs (AJ×Unit):=(csC AA csN)
def F0 (r:Bool):AV:=cdB.enc r
theorem Ji (x0:AJ) (r:(Bool)) (h:EX x0=some r):Sem E0 ⟨none,false⟩ (pc DC [1,1,0,1,0,1,1,0,1,1,1,1,1]) ⟨Fr 87 [(1,.pt 0 0 0),(3,.j (x0.2.2.2.1.length:Int)),(8,.v (.int .u8 x0.1)),(28,.b (x0.1==8))],[some ⟨5,66,[AA.enc x0],false⟩]⟩ (fun e s=>e = .normal/\Wk E0 s ⟨Fr 87 [(1,.pt 0 0 0),(3,.j (x0.2.2.2.1.length:Int)),(8,.v (.int .u8 x0.1)),(28,.b r)],[some ⟨5,66,[AA.enc x0],false⟩]⟩):=by
 unfold EX at h;refine AP (b:=(x0.1==8)) kr (fun hb12=>?_) (fun hb12=>?_)
 ·rw [if_pos hb12] at h
  refine AX ?_;have hq:=OI h; subst hq;exact ⟨rfl,(Al [0] ⟨⟨_,rfl,Cm⟩,trivial⟩ ⟨lv,lv,lv,lv,trivial⟩)⟩
 ·rw [BH hb12] at h
  refine DH AD [(1,.pt 0 0 0),(3,.j (x0.2.2.2.1.length:Int)),(8,.v (.int .u8 x0.1)),(28,.b (x0.1==9))] [some ⟨5,66,[AA.enc x0],false⟩] ?_;have hq:=OI h; subst hq;exact ⟨rfl,(Al [0] ⟨⟨_,rfl,Cm⟩,trivial⟩ ⟨lv,lv,lv,lv,trivial⟩)⟩
theorem Jh (x0:AJ) (r:(Bool)) (h:EW x0=some r):Sem E0 ⟨none,false⟩ (pc DC [1,1,0,1,0,1,1,0,1,1,1]) ⟨Fr 87 [(1,.pt 0 0 0),(3,.j (x0.2.2.2.1.length:Int)),(8,.v (.int .u8 x0.1)),(28,.b (x0.1==3))],[some ⟨5,66,[AA.enc x0],false⟩]⟩ (fun e s=>e = .normal/\Wk E0 s ⟨Fr 87 [(1,.pt 0 0 0),(3,.j (x0.2.2.2.1.length:Int)),(8,.v (.int .u8 x0.1)),(28,.b r)],[some ⟨5,66,[AA.enc x0],false⟩]⟩):=by
 unfold EW at h;refine AP (b:=(x0.1==3)) kr (fun hb10=>?_) (fun hb10=>?_)
 ·rw [if_pos hb10] at h
  refine AX ?_;have hq:=OI h; subst hq;exact ⟨rfl,(Al [0] ⟨⟨_,rfl,Cm⟩,trivial⟩ ⟨lv,lv,lv,lv,trivial⟩)⟩
 ·rw [BH hb10] at h
  refine AT AD [(1,.pt 0 0 0),(3,.j (x0.2.2.2.1.length:Int)),(8,.v (.int .u8 x0.1)),(28,.b (x0.1==8))] [some ⟨5,66,[AA.enc x0],false⟩] ?_;obtain ⟨r14,hr14,h⟩:=OB h;refine Ce (Ji x0 _ hr14) ?_;have hq:=OI h; subst hq;exact ⟨rfl,(Al [0] ⟨⟨_,rfl,Cm⟩,trivial⟩ ⟨lv,lv,lv,lv,trivial⟩)⟩
theorem Jg (x0:AJ) (r:(Bool)) (h:EV x0=some r):Sem E0 ⟨none,false⟩ (pc DC [1,1,0,1,0,1,1,0,1]) ⟨Fr 87 [(1,.pt 0 0 0),(3,.j (x0.2.2.2.1.length:Int)),(8,.v (.int .u8 x0.1)),(28,.b (x0.1==2))],[some ⟨5,66,[AA.enc x0],false⟩]⟩ (fun e s=>e = .normal/\Wk E0 s ⟨Fr 87 [(1,.pt 0 0 0),(3,.j (x0.2.2.2.1.length:Int)),(8,.v (.int .u8 x0.1)),(28,.b r)],[some ⟨5,66,[AA.enc x0],false⟩]⟩):=by
 unfold EV at h;refine AP (b:=(x0.1==2)) kr (fun hb8=>?_) (fun hb8=>?_)
 ·rw [if_pos hb8] at h
  refine AX ?_;have hq:=OI h; subst hq;exact ⟨rfl,(Al [0] ⟨⟨_,rfl,Cm⟩,trivial⟩ ⟨lv,lv,lv,lv,trivial⟩)⟩
 ·rw [BH hb8] at h
  refine AT AD [(1,.pt 0 0 0),(3,.j (x0.2.2.2.1.length:Int)),(8,.v (.int .u8 x0.1)),(28,.b (x0.1==3))] [some ⟨5,66,[AA.enc x0],false⟩] ?_;obtain ⟨r15,hr15,h⟩:=OB h;refine Ce (Jh x0 _ hr15) ?_;have hq:=OI h; subst hq;exact ⟨rfl,(Al [0] ⟨⟨_,rfl,Cm⟩,trivial⟩ ⟨lv,lv,lv,lv,trivial⟩)⟩
theorem Jj (x0:AJ) (r:(Bool)) (h:EY x0=some r):Sem E0 ⟨none,false⟩ (pc DC [1,1,0,1,0,1,1,1,1,1,1,1,1,0,1]) ⟨Fr 87 [(1,.pt 0 0 0),(3,.j (x0.2.2.2.1.length:Int)),(8,.v (.int .u8 x0.1)),(63,.b (x0.1==6))],[some ⟨5,66,[AA.enc x0],false⟩]⟩ (fun e s=>e = .normal/\Wk E0 s ⟨Fr 87 [(1,.pt 0 0 0),(3,.j (x0.2.2.2.1.length:Int)),(8,.v (.int .u8 x0.1)),(63,.b r)],[some ⟨5,66,[AA.enc x0],false⟩]⟩):=by
 unfold EY at h;refine AP (b:=(x0.1==6)) kr (fun hb31=>?_) (fun hb31=>?_)
 ·rw [if_pos hb31] at h
  refine AX ?_;have hq:=OI h; subst hq;exact ⟨rfl,(Al [0] ⟨⟨_,rfl,Cm⟩,trivial⟩ ⟨lv,lv,lv,lv,trivial⟩)⟩
 ·rw [BH hb31] at h
  refine DH AD [(1,.pt 0 0 0),(3,.j (x0.2.2.2.1.length:Int)),(8,.v (.int .u8 x0.1)),(63,.b (x0.1==7))] [some ⟨5,66,[AA.enc x0],false⟩] ?_;have hq:=OI h; subst hq;exact ⟨rfl,(Al [0] ⟨⟨_,rfl,Cm⟩,trivial⟩ ⟨lv,lv,lv,lv,trivial⟩)⟩
theorem Kb (x0:AJ) (r:Bool) (h:Ai x0=some r):Sem E0 ⟨none,false⟩ DC ⟨Fr 87 (BF 0 (Ft.enc (x0,()))),[]⟩ fun e s'=>(e = .normal\/e = .ret)/\∃ xs,Dk E0.P s'.fr s'.hp Tryz.f85.results.toList=some xs/\EB xs=F0 r:=by
 unfold Ai at h;refine Bm (Cg (s1:=⟨Fr 87 [(0,AA.enc x0)],[]⟩) AM ?_);refine AT AD [(1,.pt 0 0 0)] [some ⟨5,66,[AA.enc x0],false⟩] ?_;refine AF ?_;refine AI (s1:=⟨Fr 87 [(1,.pt 0 0 0),(3,.j (x0.2.2.2.1.length:Int))],[some ⟨5,66,[AA.enc x0],false⟩]⟩) ?_ ?_
 ·refine AC (n:=87) AD 2 [(1,.pt 0 0 0),(5,.sl 1 (x0.2.2.2.1.map cdS.enc))] [some ⟨5,66,[AA.enc x0],false⟩] kr ?_
  refine AW AD 0 rfl (BY (AB rfl) rfl (ET (a:= .sl 1 (x0.2.2.2.1.map cdS.enc)) kr (C5 (el:=9) kr))) ?_;exact Ak AD
 refine AF ?_;refine AT AD [(1,.pt 0 0 0),(3,.j (x0.2.2.2.1.length:Int)),(8,.v (.int .u8 x0.1))] [some ⟨5,66,[AA.enc x0],false⟩] ?_;refine A0 ?_;refine AT AD [(1,.pt 0 0 0),(3,.j (x0.2.2.2.1.length:Int)),(8,.v (.int .u8 x0.1)),(9,.b (x0.1==1))] [some ⟨5,66,[AA.enc x0],false⟩] ?_;refine AP (b:=(x0.1==1)) kr (fun hb1=>?_) (fun hb1=>?_)
 ·rw [if_pos hb1] at h
  refine AF ?_;obtain ⟨v2,hv2,h⟩:=OB h;obtain ⟨j4,hj4,h⟩:=OB h;refine AI (s1:=⟨Fr 87 [(2,.b j4)],[]⟩) ?_ ?_
  ·refine AC (n:=87) AD 1 [(1,.pt 0 0 0),(11,.j (x0.2.2.2.1.length:Int))] [some ⟨5,66,[AA.enc x0],false⟩] kr ?_
   refine Af (caps:=[]) (xs:=[.j (x0.2.2.2.1.length:Int),.j 1,.j 16]) (u:=((x0.2.2.2.1.length:Int),1,16,())) rfl rfl Ec rfl (AB rfl) kr kr (Ah (A2 (c:=cdI) (v:=(x0.2.2.2.1.length:Int))) (Ah (A2 (c:=cdI) (v:=1)) (Ah (A2 (c:=cdI) (v:=16)) BZ))) (.inl kr) hv2 ?_;refine AC (n:=87) AD 1 [(1,.pt 0 0 0),(13,.b v2)] [some ⟨5,66,[AA.enc x0],false⟩] kr ?_;rcases BE v2 with hc5 | hc5
   ·rw [if_pos hc5] at hj4
    rw [hc5];refine AC (n:=87) AD 5 [(1,.pt 0 0 0),(18,.b (x0.2.2.2.2==0))] [some ⟨5,66,[AA.enc x0],false⟩] kr ?_;rcases BE (x0.2.2.2.2==0) with hc6 | hc6
    ·rw [if_pos hc6] at hj4
     rw [hc6];refine AC (n:=87) AD 5 [(1,.pt 0 0 0),(23,.b (!x0.2.2.1))] [some ⟨5,66,[AA.enc x0],false⟩] kr ?_;rcases BE (!x0.2.2.1) with hc7 | hc7
     ·rw [if_pos hc7] at hj4
      rw [hc7];refine AC (n:=87) AD 5 [(2,.b (x0.2.1==[]))] [some ⟨5,66,[AA.enc x0],false⟩] kr ?_;have hq:=OI hj4; subst hq;exact AE rfl (Al [] trivial ⟨lv,trivial⟩)
     ·rw [BH hc7] at hj4
      rw [hc7];refine AC (n:=87) AD 5 [(2,.b false)] [some ⟨5,66,[AA.enc x0],false⟩] kr ?_;have hq:=OI hj4; subst hq;exact AE rfl (Al [] trivial ⟨lv,trivial⟩)
    ·rw [BH hc6] at hj4
     rw [hc6];refine AC (n:=87) AD 10 [(2,.b false)] [some ⟨5,66,[AA.enc x0],false⟩] kr ?_;have hq:=OI hj4; subst hq;exact AE rfl (Al [] trivial ⟨lv,trivial⟩)
   ·rw [BH hc5] at hj4
    rw [hc5];refine AC (n:=87) AD 15 [(2,.b false)] [some ⟨5,66,[AA.enc x0],false⟩] kr ?_;have hq:=OI hj4; subst hq;exact AE rfl (Al [] trivial ⟨lv,trivial⟩)
  refine AU ?_;have hq:=OI h; subst hq;exact ⟨⟨Fr 87 [(2,.b j4)],[]⟩,AM,.inr rfl,[.b j4],kr,kr⟩
 ·rw [BH hb1] at h
  refine AF ?_;refine AT AD [(1,.pt 0 0 0),(3,.j (x0.2.2.2.1.length:Int)),(8,.v (.int .u8 x0.1)),(28,.b (x0.1==2))] [some ⟨5,66,[AA.enc x0],false⟩] ?_;obtain ⟨r16,hr16,h⟩:=OB h;refine Ce (Jg x0 _ hr16) ?_;refine AP (b:=r16) kr (fun hb17=>?_) (fun hb17=>?_)
  ·rw [if_pos hb17] at h
   refine AF ?_;obtain ⟨j19,hj19,h⟩:=OB h;refine AI (s1:=⟨Fr 87 [(2,.b j19)],[]⟩) ?_ ?_
   ·refine AC (n:=87) AD 3 [(1,.pt 0 0 0),(35,.b ((x0.2.2.2.1.length:Int)==0))] [some ⟨5,66,[AA.enc x0],false⟩] kr ?_
    rcases BE ((x0.2.2.2.1.length:Int)==0) with hc20 | hc20
    ·rw [if_pos hc20] at hj19
     rw [hc20];refine AC (n:=87) AD 5 [(1,.pt 0 0 0),(40,.b (x0.2.2.2.2==0))] [some ⟨5,66,[AA.enc x0],false⟩] kr ?_;rcases BE (x0.2.2.2.2==0) with hc21 | hc21
     ·rw [if_pos hc21] at hj19
      rw [hc21];refine AC (n:=87) AD 5 [(2,.b (!x0.2.2.1))] [some ⟨5,66,[AA.enc x0],false⟩] kr ?_;have hq:=OI hj19; subst hq;exact AE rfl (Al [] trivial ⟨lv,trivial⟩)
     ·rw [BH hc21] at hj19
      rw [hc21];refine AC (n:=87) AD 5 [(2,.b false)] [some ⟨5,66,[AA.enc x0],false⟩] kr ?_;have hq:=OI hj19; subst hq;exact AE rfl (Al [] trivial ⟨lv,trivial⟩)
    ·rw [BH hc20] at hj19
     rw [hc20];refine AC (n:=87) AD 10 [(2,.b false)] [some ⟨5,66,[AA.enc x0],false⟩] kr ?_;have hq:=OI hj19; subst hq;exact AE rfl (Al [] trivial ⟨lv,trivial⟩)
   refine AU ?_;have hq:=OI h; subst hq;exact ⟨⟨Fr 87 [(2,.b j19)],[]⟩,AM,.inr rfl,[.b j19],kr,kr⟩
  ·rw [BH hb17] at h
   refine AT AD [(1,.pt 0 0 0),(3,.j (x0.2.2.2.1.length:Int)),(8,.v (.int .u8 x0.1)),(45,.b (x0.1==4))] [some ⟨5,66,[AA.enc x0],false⟩] ?_;refine AP (b:=(x0.1==4)) kr (fun hb22=>?_) (fun hb22=>?_)
   ·rw [if_pos hb22] at h
    refine AF ?_;obtain ⟨j25,hj25,h⟩:=OB h;refine AI (s1:=⟨Fr 87 [(2,.b j25)],[]⟩) ?_ ?_
    ·refine AC (n:=87) AD 3 [(1,.pt 0 0 0),(49,.b ((x0.2.2.2.1.length:Int)==0))] [some ⟨5,66,[AA.enc x0],false⟩] kr ?_
     rcases BE ((x0.2.2.2.1.length:Int)==0) with hc26 | hc26
     ·rw [if_pos hc26] at hj25
      rw [hc26];refine AC (n:=87) AD 2 [(49,.b true),(51,.j x0.2.2.2.2)] [some ⟨5,66,[AA.enc x0],false⟩] kr ?_;obtain ⟨v23,hv23,hj25⟩:=OB hj25;refine Af (caps:=[]) (xs:=[.j x0.2.2.2.2,.j 1,.j 2]) (u:=(x0.2.2.2.2,1,2,())) rfl rfl Ec rfl kr kr kr (Ah (A2 (c:=cdI) (v:=x0.2.2.2.2)) (Ah (A2 (c:=cdI) (v:=1)) (Ah (A2 (c:=cdI) (v:=2)) BZ))) (.inl kr) hv23 ?_;refine AC (n:=87) AD 2 [(2,.b v23)] [some ⟨5,66,[AA.enc x0],false⟩] kr ?_;have hq:=OI hj25; subst hq;exact AE rfl (Al [] trivial ⟨lv,trivial⟩)
     ·rw [BH hc26] at hj25
      rw [hc26];refine AC (n:=87) AD 5 [(2,.b false)] [some ⟨5,66,[AA.enc x0],false⟩] kr ?_;have hq:=OI hj25; subst hq;exact AE rfl (Al [] trivial ⟨lv,trivial⟩)
    refine AU ?_;have hq:=OI h; subst hq;exact ⟨⟨Fr 87 [(2,.b j25)],[]⟩,AM,.inr rfl,[.b j25],kr,kr⟩
   ·rw [BH hb22] at h
    refine AT AD [(1,.pt 0 0 0),(3,.j (x0.2.2.2.1.length:Int)),(8,.v (.int .u8 x0.1)),(54,.b (x0.1==5))] [some ⟨5,66,[AA.enc x0],false⟩] ?_;refine AP (b:=(x0.1==5)) kr (fun hb27=>?_) (fun hb27=>?_)
    ·rw [if_pos hb27] at h
     refine AF ?_;obtain ⟨j29,hj29,h⟩:=OB h;refine AI (s1:=⟨Fr 87 [(2,.b j29)],[]⟩) ?_ ?_
     ·refine AC (n:=87) AD 3 [(1,.pt 0 0 0),(58,.b ((x0.2.2.2.1.length:Int)==0))] [some ⟨5,66,[AA.enc x0],false⟩] kr ?_
      rcases BE ((x0.2.2.2.1.length:Int)==0) with hc30 | hc30
      ·rw [if_pos hc30] at hj29
       rw [hc30];refine AC (n:=87) AD 5 [(2,.b (x0.2.2.2.2==0))] [some ⟨5,66,[AA.enc x0],false⟩] kr ?_;have hq:=OI hj29; subst hq;exact AE rfl (Al [] trivial ⟨lv,trivial⟩)
      ·rw [BH hc30] at hj29
       rw [hc30];refine AC (n:=87) AD 5 [(2,.b false)] [some ⟨5,66,[AA.enc x0],false⟩] kr ?_;have hq:=OI hj29; subst hq;exact AE rfl (Al [] trivial ⟨lv,trivial⟩)
     refine AU ?_;have hq:=OI h; subst hq;exact ⟨⟨Fr 87 [(2,.b j29)],[]⟩,AM,.inr rfl,[.b j29],kr,kr⟩
    ·rw [BH hb27] at h
     refine AF ?_;refine AT AD [(1,.pt 0 0 0),(3,.j (x0.2.2.2.1.length:Int)),(8,.v (.int .u8 x0.1)),(63,.b (x0.1==6))] [some ⟨5,66,[AA.enc x0],false⟩] ?_;obtain ⟨r33,hr33,h⟩:=OB h;refine Ce (Jj x0 _ hr33) ?_;refine AP (b:=r33) kr (fun hb34=>?_) (fun hb34=>?_)
     ·rw [if_pos hb34] at h
      refine AF ?_;obtain ⟨v35,hv35,h⟩:=OB h;obtain ⟨j37,hj37,h⟩:=OB h;refine AI (s1:=⟨Fr 87 [(2,.b j37)],[]⟩) ?_ ?_
      ·refine AC (n:=87) AD 1 [(1,.pt 0 0 0),(66,.j (x0.2.2.2.1.length:Int))] [some ⟨5,66,[AA.enc x0],false⟩] kr ?_
       refine Af (caps:=[]) (xs:=[.j (x0.2.2.2.1.length:Int),.j 1,.j 16]) (u:=((x0.2.2.2.1.length:Int),1,16,())) rfl rfl Ec rfl (AB rfl) kr kr (Ah (A2 (c:=cdI) (v:=(x0.2.2.2.1.length:Int))) (Ah (A2 (c:=cdI) (v:=1)) (Ah (A2 (c:=cdI) (v:=16)) BZ))) (.inl kr) hv35 ?_;refine AC (n:=87) AD 1 [(1,.pt 0 0 0),(68,.b v35)] [some ⟨5,66,[AA.enc x0],false⟩] kr ?_;rcases BE v35 with hc38 | hc38
       ·rw [if_pos hc38] at hj37
        rw [hc38];refine AC (n:=87) AD 5 [(2,.b (x0.2.2.2.2==0))] [some ⟨5,66,[AA.enc x0],false⟩] kr ?_;have hq:=OI hj37; subst hq;exact AE rfl (Al [] trivial ⟨lv,trivial⟩)
       ·rw [BH hc38] at hj37
        rw [hc38];refine AC (n:=87) AD 5 [(2,.b false)] [some ⟨5,66,[AA.enc x0],false⟩] kr ?_;have hq:=OI hj37; subst hq;exact AE rfl (Al [] trivial ⟨lv,trivial⟩)
      refine AU ?_;have hq:=OI h; subst hq;exact ⟨⟨Fr 87 [(2,.b j37)],[]⟩,AM,.inr rfl,[.b j37],kr,kr⟩
     ·rw [BH hb34] at h
      refine AT AD [(1,.pt 0 0 0),(3,.j (x0.2.2.2.1.length:Int)),(73,.b (x0.1==10))] [some ⟨5,66,[AA.enc x0],false⟩] ?_;refine AP (b:=(x0.1==10)) kr (fun hb39=>?_) (fun hb39=>?_)
      ·rw [if_pos hb39] at h
       refine AF ?_;obtain ⟨j42,hj42,h⟩:=OB h;refine AI (s1:=⟨Fr 87 [(2,.b j42)],[]⟩) ?_ ?_
       ·refine AC (n:=87) AD 3 [(1,.pt 0 0 0),(77,.b ((x0.2.2.2.1.length:Int)==0))] [some ⟨5,66,[AA.enc x0],false⟩] kr ?_
        rcases BE ((x0.2.2.2.1.length:Int)==0) with hc43 | hc43
        ·rw [if_pos hc43] at hj42
         rw [hc43];refine AC (n:=87) AD 2 [(1,.pt 0 0 0),(77,.b true),(79,.j x0.2.2.2.2)] [some ⟨5,66,[AA.enc x0],false⟩] kr ?_;obtain ⟨v40,hv40,hj42⟩:=OB hj42;refine Af (caps:=[]) (xs:=[.j x0.2.2.2.2,.j 0,.j 63]) (u:=(x0.2.2.2.2,0,63,())) rfl rfl Ec rfl kr kr kr (Ah (A2 (c:=cdI) (v:=x0.2.2.2.2)) (Ah (A2 (c:=cdI) (v:=0)) (Ah (A2 (c:=cdI) (v:=63)) BZ))) (.inl kr) hv40 ?_;refine AC (n:=87) AD 2 [(1,.pt 0 0 0),(82,.b v40)] [some ⟨5,66,[AA.enc x0],false⟩] kr ?_;rcases BE v40 with hc44 | hc44
         ·rw [if_pos hc44] at hj42
          rw [hc44];refine AC (n:=87) AD 5 [(2,.b (!x0.2.2.1))] [some ⟨5,66,[AA.enc x0],false⟩] kr ?_;have hq:=OI hj42; subst hq;exact AE rfl (Al [] trivial ⟨lv,trivial⟩)
         ·rw [BH hc44] at hj42
          rw [hc44];refine AC (n:=87) AD 5 [(2,.b false)] [some ⟨5,66,[AA.enc x0],false⟩] kr ?_;have hq:=OI hj42; subst hq;exact AE rfl (Al [] trivial ⟨lv,trivial⟩)
        ·rw [BH hc43] at hj42
         rw [hc43];refine AC (n:=87) AD 10 [(2,.b false)] [some ⟨5,66,[AA.enc x0],false⟩] kr ?_;have hq:=OI hj42; subst hq;exact AE rfl (Al [] trivial ⟨lv,trivial⟩)
       refine AU ?_;have hq:=OI h; subst hq;exact ⟨⟨Fr 87 [(2,.b j42)],[]⟩,AM,.inr rfl,[.b j42],kr,kr⟩
      ·rw [BH hb39] at h
       refine AX ?_;refine AF ?_;refine AI (s1:=⟨Fr 87 [(2,.b false)],[]⟩) ?_ ?_
       ·refine AC (n:=87) AD 1 [(2,.b false)] [some ⟨5,66,[AA.enc x0],false⟩] kr ?_
        exact AE rfl (Al [] trivial ⟨lv,trivial⟩)
       refine AU ?_;have hq:=OI h; subst hq;exact ⟨⟨Fr 87 [(2,.b false)],[]⟩,AM,.inr rfl,[.b false],kr,kr⟩
def Lv:List AV->Option AV:=Ea Ft (fun a=>Ai a.1) F0
theorem L0:XOk 85 Lv:=by
 refine Ap Tryz.func85 (c:=DC) ?h2 ⟨Tryz.call85⟩ Ft (fun a=>Ai a.1) F0 (fun a=>(by show 1<=87; decide)) ?h3 ?h4
 case h2=>kernel_rfl
 case h3=>intro b; kernel_rfl
 case h4=>exact fun a b h=>Kb a.1 b h
/- trestle/trestlekit.Name -/
noncomputable def Iw:Code:=Bc Tryz.f86
def Dg (x0:(List UInt8)):Nat->Int->Option ((Unit) ⊕ (Bool))
 | 0,_=>none
 | f + 1,c4 =>
  if (decide (c4 < (x0.length:Int)))=true then
  (idx x0 c4).bind fun v6 =>
  (if (decide ((v6.toNat:Int) < 97))=true then some true else (idx x0 c4).bind fun v7 =>
  some (decide ((v7.toNat:Int) > 122))).bind fun j9 =>
  if j9=true then
  some (.inr false)
  else
  Dg x0 f (wr .i64 (c4 + 1))
  else
  some (.inl ())
def GZ (x0:(List UInt8)):Option (Bool) :=
 (if (decide ((x0.length:Int) < 1))=true then some true else some (decide ((x0.length:Int) > 12))).bind fun j2 =>
 if j2=true then
 some false
 else
 (Dg x0 100000 0).bind fun r13 =>
 match r13 with
 | (.inl w14) =>
  some true
 | (.inr w15) =>
  some w15
def Ix:Cs ((List UInt8)×Unit):=(csC cdS csN)
def Iy (r:Bool):AV:=cdB.enc r
theorem In (x0:(List UInt8)):∀ (f:Nat) (c4:Int) (r:(Unit) ⊕ (Bool)),Dg x0 f c4=some r->SemN E0 ⟨none,false⟩ (pc Iw [1,1,0,1,0,0]) f ⟨Fr 28 [(0,.st x0),(3,.j c4)],[]⟩ (fun e s=>match r with
 | (.inl w)=>e=(.exit 0)/\Wk E0 s ⟨Fr 28 [],[]⟩
 | (.inr w)=>e = .ret/\Wk E0 s ⟨Fr 28 [(2,.b w)],[]⟩):=by
 intro f;induction f with
 | zero=>intro c4 r h; cases h
 | succ f ih0 =>
  intro c4 r h
  have ih:=fun (c4:Int)=>ih0 c4 r
  unfold Dg at h;refine Cl ?_;refine AF ?_;refine AT AD [(0,.st x0),(3,.j c4),(15,.b (decide (c4 < (x0.length:Int))))] [] ?_;refine AP (b:=(decide (c4 < (x0.length:Int)))) kr (fun hb5=>?_) (fun hb5=>?_)
  ·rw [if_pos hb5] at h
   refine AX ?_;refine AF ?_;refine A0 ?_;refine AF ?_;obtain ⟨v6,hv6,h⟩:=OB h;obtain ⟨j9,hj9,h⟩:=OB h;refine AI (s1:=⟨Fr 28 [(0,.st x0),(3,.j c4),(27,.b j9)],[]⟩) ?_ ?_
   ·refine AC (n:=28) AD 2 [(0,.st x0),(3,.j c4),(18,.st x0),(19,.j c4)] [] kr ?_
    refine AW AD 0 rfl (BY (AB rfl) rfl (D4 (a:= .st x0) (b:= .j c4) kr kr (DT (bs:=x0) (ki:= .i64) kr hv6))) ?_;refine AC (n:=28) AD 2 [(0,.st x0),(3,.j c4),(22,.b (decide ((v6.toNat:Int) < 97)))] [] kr ?_;rcases BE (decide ((v6.toNat:Int) < 97)) with hc12 | hc12
    ·rw [if_pos hc12] at hj9
     rw [hc12];refine AC (n:=28) AD 5 [(0,.st x0),(3,.j c4),(23,.tp []),(24,.tp []),(25,.tp []),(26,.tp []),(27,.b true)] [] kr ?_;have hq:=OI hj9; subst hq;exact AE rfl AM
    ·rw [BH hc12] at hj9
     rw [hc12];refine AC (n:=28) AD 2 [(0,.st x0),(3,.j c4),(22,.b false),(23,.st x0),(24,.j c4)] [] kr ?_;obtain ⟨v7,hv7,hj9⟩:=OB hj9;refine AW AD 0 rfl (BY kr rfl (D4 (a:= .st x0) (b:= .j c4) kr kr (DT (bs:=x0) (ki:= .i64) kr hv7))) ?_;refine AC (n:=28) AD 2 [(0,.st x0),(3,.j c4),(23,.st x0),(24,.j c4),(25,.v (.int .u8 (v7.toNat:Int))),(26,.b (decide ((v7.toNat:Int) > 122))),(27,.b (decide ((v7.toNat:Int) > 122)))] [] kr ?_;have hq:=OI hj9; subst hq;exact AE rfl AM
   refine AP (b:=j9) kr (fun hb10=>?_) (fun hb10=>?_)
   ·rw [if_pos hb10] at h
    refine AT AD [(2,.b false)] [] ?_;refine AU ?_;have hq:=OI h; subst hq;exact ⟨rfl,AM⟩
   ·rw [BH hb10] at h
    refine AX ?_;refine DH AD [(0,.st x0),(3,.j (wr .i64 (c4 + 1)))] [] ?_;exact A9 (s1:=⟨Fr 28 [(0,.st x0),(3,.j (wr .i64 (c4 + 1)))],[]⟩) AM (ih (wr .i64 (c4 + 1)) h)
  ·rw [BH hb5] at h
   refine DN ?_;have hq:=OI h; subst hq;exact ⟨rfl,AM⟩
theorem NW (x0:(List UInt8)) (r:Bool) (h:GZ x0=some r):Sem E0 ⟨none,false⟩ Iw ⟨Fr 28 (BF 0 (Ix.enc (x0,()))),[]⟩ fun e s'=>(e = .normal\/e = .ret)/\∃ xs,Dk E0.P s'.fr s'.hp Tryz.f86.results.toList=some xs/\EB xs=Iy r:=by
 unfold GZ at h;refine Bm (Cg (s1:=⟨Fr 28 [(0,.st x0)],[]⟩) AM ?_);refine AT AD [(0,.st x0)] [] ?_;refine AF ?_;refine AF ?_;obtain ⟨j2,hj2,h⟩:=OB h;refine AI (s1:=⟨Fr 28 [(0,.st x0),(11,.b j2)],[]⟩) ?_ ?_
 ·refine AC (n:=28) AD 4 [(0,.st x0),(7,.b (decide ((x0.length:Int) < 1)))] [] kr ?_
  rcases BE (decide ((x0.length:Int) < 1)) with hc16 | hc16
  ·rw [if_pos hc16] at hj2
   rw [hc16];refine AC (n:=28) AD 4 [(0,.st x0),(11,.b true)] [] kr ?_;have hq:=OI hj2; subst hq;exact AE rfl AM
  ·rw [BH hc16] at hj2
   rw [hc16];refine AC (n:=28) AD 4 [(0,.st x0),(11,.b (decide ((x0.length:Int) > 12)))] [] kr ?_;have hq:=OI hj2; subst hq;exact AE rfl AM
 refine AP (b:=j2) kr (fun hb3=>?_) (fun hb3=>?_)
 ·rw [if_pos hb3] at h
  refine AT AD [(2,.b false)] [] ?_;refine AU ?_;have hq:=OI h; subst hq;exact ⟨⟨Fr 28 [(2,.b false)],[]⟩,AM,.inr rfl,[.b false],kr,kr⟩
 ·rw [BH hb3] at h
  refine AX ?_;refine AF ?_;refine AT AD [(0,.st x0),(3,.j 0)] [] ?_;refine A0 ?_;obtain ⟨r13,hr13,h⟩:=OB h;refine DO (n:=100000) ?_;rcases r13 with w14 | w15
  ·try dsimp only at h
   refine BX (A9 (s1:=⟨Fr 28 [(0,.st x0),(3,.j 0)],[]⟩) AM (In x0 _ 0 _ hr13)) ?_;refine AT AD [(2,.b true)] [] ?_;refine AU ?_;have hq:=OI h; subst hq;exact ⟨⟨Fr 28 [(2,.b true)],[]⟩,AM,.inr rfl,[.b true],kr,kr⟩
  ·try dsimp only at h
   refine BX (A9 (s1:=⟨Fr 28 [(0,.st x0),(3,.j 0)],[]⟩) AM (In x0 _ 0 _ hr13)) ?_;have hq:=OI h; subst hq;exact ⟨⟨Fr 28 [(2,.b w15)],[]⟩,AM,.inr rfl,[.b w15],kr,kr⟩
def Pg:List AV->Option AV:=Ea Ix (fun a=>GZ a.1) Iy
theorem MN:XOk 86 Pg:=by
 refine Ap Tryz.func86 (c:=Iw) ?h2 ⟨Tryz.call86⟩ Ix (fun a=>GZ a.1) Iy (fun a=>(by show 1<=28; decide)) ?h3 ?h4
 case h2=>kernel_rfl
 case h3=>intro b; kernel_rfl
 case h4=>exact fun a b h=>NW a.1 b h
/- trestle/trestleref03.has -/
noncomputable def Hz:Code:=Bc Tryz.f87
def Ez (x0:(List (List UInt8))) (x1:(List UInt8)):Nat->Int->Option ((Unit) ⊕ (Bool))
 | 0,_=>none
 | f + 1,c1 =>
  if (decide (c1 < (x0.length:Int)))=true then
  (idx x0 c1).bind fun v3 =>
  if (v3==x1)=true then
  some (.inr true)
  else
  Ez x0 x1 f (wr .i64 (c1 + 1))
  else
  some (.inl ())
def Ey (x0:(List (List UInt8))) (x1:(List UInt8)):Option (Bool) :=
 (Ez x0 x1 100000 0).bind fun r6 =>
 match r6 with
 | (.inl w7) =>
  some false
 | (.inr w8) =>
  some w8
def H1:Cs ((List (List UInt8))×(List UInt8)×Unit):=(csC (cdL 1 cdS) (csC cdS csN))
def H4 (r:Bool):AV:=cdB.enc r
theorem II (x0:(List (List UInt8))) (x1:(List UInt8)):∀ (f:Nat) (c1:Int) (r:(Unit) ⊕ (Bool)),Ez x0 x1 f c1=some r->SemN E0 ⟨none,false⟩ (pc Hz [1,0,1,0,0]) f ⟨Fr 18 [(0,.sl 1 (x0.map cdS.enc)),(1,.st x1),(5,.j c1)],[]⟩ (fun e s=>match r with
 | (.inl w)=>e=(.exit 0)/\Wk E0 s ⟨Fr 18 [],[]⟩
 | (.inr w)=>e = .ret/\Wk E0 s ⟨Fr 18 [(4,.b w)],[]⟩):=by
 intro f;induction f with
 | zero=>intro c1 r h; cases h
 | succ f ih0 =>
  intro c1 r h
  have ih:=fun (c1:Int)=>ih0 c1 r
  unfold Ez at h;refine Cl ?_;refine AF ?_;refine AF ?_
  let p1:Nat×AV:=(5,.j c1)
  let p2:Nat×AV:=(0,.sl 1 (x0.map cdS.enc))
  refine AI (s1:=⟨Fr 18 [p2,(1,.st x1),p1,(9,.b (decide (c1 < (x0.length:Int))))],[]⟩) ?_ ?_
  ·refine AC (n:=18) AD 2 [p2,(1,.st x1),p1,(6,.j c1),(7,.sl 1 (x0.map cdS.enc))] [] kr ?_
   refine AW AD 0 rfl (BY (AB rfl) rfl (ET (a:= .sl 1 (x0.map cdS.enc)) kr (C5 (el:=9) kr))) ?_;exact Ak AD
  refine AP (b:=(decide (c1 < (x0.length:Int)))) kr (fun hb2=>?_) (fun hb2=>?_)
  ·rw [if_pos hb2] at h
   refine AX ?_;refine AF ?_;refine A0 ?_;refine AF ?_;obtain ⟨v3,hv3,h⟩:=OB h;refine AI (s1:=⟨Fr 18 [p2,(1,.st x1),p1,(17,.b (v3==x1))],[]⟩) ?_ ?_
   ·refine AC (n:=18) AD 2 [p2,(1,.st x1),p1,(12,.sl 1 (x0.map cdS.enc)),(13,.j c1)] [] kr ?_
    refine AW AD 0 rfl (BY (AB rfl) rfl (Ad (a:= .sl 1 (x0.map cdS.enc)) (b:= .j c1) kr kr (Dn (e:=cdS.enc) (el:=9) (k:=1) (ki:= .i64) kr kr hv3))) ?_;exact Ak AD
   refine AP (b:=(v3==x1)) kr (fun hb4=>?_) (fun hb4=>?_)
   ·rw [if_pos hb4] at h
    refine AT AD [(4,.b true)] [] ?_;refine AU ?_;have hq:=OI h; subst hq;exact ⟨rfl,AM⟩
   ·rw [BH hb4] at h
    refine AX ?_
    let p3:Nat×AV:=(5,.j (wr .i64 (c1 + 1)))
    refine DH AD [p2,(1,.st x1),p3] [] ?_;exact A9 (s1:=⟨Fr 18 [p2,(1,.st x1),p3],[]⟩) AM (ih (wr .i64 (c1 + 1)) h)
  ·rw [BH hb2] at h
   refine DN ?_;have hq:=OI h; subst hq;exact ⟨rfl,AM⟩
theorem Mm (x0:(List (List UInt8))) (x1:(List UInt8)) (r:Bool) (h:Ey x0 x1=some r):Sem E0 ⟨none,false⟩ Hz ⟨Fr 18 (BF 0 (H1.enc (x0,x1,()))),[]⟩ fun e s'=>(e = .normal\/e = .ret)/\∃ xs,Dk E0.P s'.fr s'.hp Tryz.f87.results.toList=some xs/\EB xs=H4 r:=by
 unfold Ey at h
 let p1:Nat×AV:=(0,.sl 1 (x0.map cdS.enc))
 refine Bm (Cg (s1:=⟨Fr 18 [p1,(1,.st x1)],[]⟩) AM ?_);refine AT AD [p1,(1,.st x1)] [] ?_;refine AF ?_
 let p2:Nat×AV:=(5,.j 0)
 refine AT AD [p1,(1,.st x1),p2] [] ?_;refine A0 ?_;obtain ⟨r6,hr6,h⟩:=OB h;refine DO (n:=100000) ?_;rcases r6 with w7 | w8
 ·try dsimp only at h
  refine BX (A9 (s1:=⟨Fr 18 [p1,(1,.st x1),p2],[]⟩) AM (II x0 x1 _ 0 _ hr6)) ?_;refine AT AD [(4,.b false)] [] ?_;refine AU ?_;have hq:=OI h; subst hq;exact ⟨⟨Fr 18 [(4,.b false)],[]⟩,AM,.inr rfl,[.b false],kr,kr⟩
 ·try dsimp only at h
  refine BX (A9 (s1:=⟨Fr 18 [p1,(1,.st x1),p2],[]⟩) AM (II x0 x1 _ 0 _ hr6)) ?_;have hq:=OI h; subst hq;exact ⟨⟨Fr 18 [(4,.b w8)],[]⟩,AM,.inr rfl,[.b w8],kr,kr⟩
def Ob:List AV->Option AV:=Ea H1 (fun a=>Ey a.1 a.2.1) H4
theorem Lb:XOk 87 Ob:=by
 refine Ap Tryz.func87 (c:=Hz) ?h2 ⟨Tryz.call87⟩ H1 (fun a=>Ey a.1 a.2.1) H4 (fun a=>(by show 2<=18; decide)) ?h3 ?h4
 case h2=>kernel_rfl
 case h3=>intro b; kernel_rfl
 case h4=>exact fun a b h=>Mm a.1 a.2.1 b h
/- trestle/trestleref03.CheckOne -/
noncomputable def DB:Code:=Bc Tryz.f56
def Br (x0:(List AJ)) (x1:Int):Nat->Int->Option ((Unit) ⊕ (Int))
 | 0,_=>none
 | f + 1,c10 =>
  (idx x0 x1).bind fun v11 =>
  if (decide (c10 < (v11.2.2.2.1.length:Int)))=true then
  (idx x0 x1).bind fun v13 =>
  (idx v13.2.2.2.1 c10).bind fun v14 =>
  (GZ v14).bind fun v15 =>
  if (!v15)=true then
  some (.inr 4)
  else
  Br x0 x1 f (wr .i64 (c10 + 1))
  else
  some (.inl ())
def Bt (x0:(List AJ)) (x1:Int):Nat->Int->Option ((Unit) ⊕ (Int))
 | 0,_=>none
 | f + 1,c20 =>
  (idx x0 x1).bind fun v21 =>
  if (decide (c20 < (v21.2.2.2.1.length:Int)))=true then
  (idx x0 x1).bind fun v23 =>
  if (By 0 c20 v23.2.2.2.1.length)=true then
  (idx x0 x1).bind fun v25 =>
  (idx v25.2.2.2.1 c20).bind fun v26 =>
  (Ey ((v23.2.2.2.1.take c20.toNat).drop (0:Int).toNat) v26).bind fun v27 =>
  if v27=true then
  some (.inr 5)
  else
  Bt x0 x1 f (wr .i64 (c20 + 1))
  else none
  else
  some (.inl ())
def Bu (x0:(List AJ)) (x1:Int):Nat->Int->Option ((Unit) ⊕ (Int))
 | 0,_=>none
 | f + 1,c34 =>
  if (decide (c34 < x1))=true then
  (idx x0 c34).bind fun v36 =>
  (if (v36.1==1)=true then (idx x0 c34).bind fun v37 =>
  (idx x0 x1).bind fun v38 =>
  (Ey v37.2.2.2.1 v38.2.1).bind fun v39 =>
  some v39 else some false).bind fun j41 =>
  if j41=true then
  some (.inr 0)
  else
  Bu x0 x1 f (wr .i64 (c34 + 1))
  else
  some (.inl ())
def C1 (x0:(List AJ)) (x1:Int):Option (Int) :=
 (idx x0 x1).bind fun v1 =>
 (Ai v1).bind fun v2 =>
 if (!v2)=true then
 some 30
 else
 (idx x0 x1).bind fun v4 =>
 (if (!(v4.2.1==[]))=true then (idx x0 x1).bind fun v5 =>
 (GZ v5.2.1).bind fun v6 =>
 some (!v6) else some false).bind fun j8 =>
 if j8=true then
 some 4
 else
 (Br x0 x1 100000 0).bind fun r18 =>
 match r18 with
 | (.inl w19) =>
  (Bt x0 x1 100000 0).bind fun r30 =>
  match r30 with
  | (.inl w31) =>
   (idx x0 x1).bind fun v32 =>
   if (v32.2.1==[])=true then
   some 0
   else
   (Bu x0 x1 100000 0).bind fun r45 =>
   match r45 with
   | (.inl w46) =>
    some 31
   | (.inr w47) =>
    some w47
  | (.inr w48) =>
   some w48
 | (.inr w49) =>
  some w49
def Eg:Cs ((List AJ)×Int×Unit):=(csC (cdL 5 AA) (csC cdI csN))
def Ei (r:Int):AV:=cdI.enc r
theorem FT (x0:(List AJ)) (x1:Int):∀ (f:Nat) (c10:Int) (r:(Unit) ⊕ (Int)),Br x0 x1 f c10=some r->SemN E0 ⟨none,false⟩ (pc DB [1,1,1,0,1,0,0]) f ⟨Fr 105 [(0,.sl 5 (x0.map AA.enc)),(1,.j x1),(5,.j c10)],[]⟩ (fun e s=>match r with
 | (.inl w)=>e=(.exit 0)/\Wk E0 s ⟨Fr 105 [(0,.sl 5 (x0.map AA.enc)),(1,.j x1)],[]⟩
 | (.inr w)=>e = .ret/\Wk E0 s ⟨Fr 105 [(4,.j w)],[]⟩):=by
 intro f;induction f with
 | zero=>intro c10 r h; cases h
 | succ f ih0 =>
  intro c10 r h
  have ih:=fun (c10:Int)=>ih0 c10 r
  unfold Br at h;refine Cl ?_;refine AF ?_;refine AF ?_;obtain ⟨v11,hv11,h⟩:=OB h
  let p1:Nat×AV:=(5,.j c10)
  let p2:Nat×AV:=(1,.j x1)
  let p3:Nat×AV:=(0,.sl 5 (x0.map AA.enc))
  refine AI (s1:=⟨Fr 105 [p3,p2,p1,(36,.b (decide (c10 < (v11.2.2.2.1.length:Int))))],[]⟩) ?_ ?_
  ·refine AC (n:=105) AD 3 [p3,p2,p1,(29,.j c10),(30,.sl 5 (x0.map AA.enc)),(31,.j x1)] [] kr ?_
   refine AW AD 0 rfl (BY (AB rfl) rfl (Ad (a:= .sl 5 (x0.map AA.enc)) (b:= .j x1) kr kr (Dn (e:=AA.enc) (el:=66) (k:=5) (ki:= .i64) kr kr hv11))) ?_;refine AC (n:=105) AD 2 [p3,p2,p1,(29,.j c10),(34,.sl 1 (v11.2.2.2.1.map cdS.enc))] [] kr ?_;refine AW AD 0 rfl (BY (AB rfl) rfl (ET (a:= .sl 1 (v11.2.2.2.1.map cdS.enc)) kr (C5 (el:=9) kr))) ?_;exact Ak AD
  refine AP (b:=(decide (c10 < (v11.2.2.2.1.length:Int)))) kr (fun hb12=>?_) (fun hb12=>?_)
  ·rw [if_pos hb12] at h
   refine AX ?_;refine AF ?_;refine A0 ?_;refine AF ?_;obtain ⟨v13,hv13,h⟩:=OB h;obtain ⟨v14,hv14,h⟩:=OB h;obtain ⟨v15,hv15,h⟩:=OB h;refine AI (s1:=⟨Fr 105 [p3,p2,p1,(48,.b (!v15))],[]⟩) ?_ ?_
   ·refine AC (n:=105) AD 2 [p3,p2,p1,(39,.sl 5 (x0.map AA.enc)),(40,.j x1)] [] kr ?_
    refine AW AD 0 rfl (BY (AB rfl) rfl (Ad (a:= .sl 5 (x0.map AA.enc)) (b:= .j x1) kr kr (Dn (e:=AA.enc) (el:=66) (k:=5) (ki:= .i64) kr kr hv13))) ?_;refine AC (n:=105) AD 3 [p3,p2,p1,(43,.sl 1 (v13.2.2.2.1.map cdS.enc)),(44,.j c10)] [] kr ?_;refine AW AD 0 rfl (BY (AB rfl) rfl (Ad (a:= .sl 1 (v13.2.2.2.1.map cdS.enc)) (b:= .j c10) kr kr (Dn (e:=cdS.enc) (el:=9) (k:=1) (ki:= .i64) kr kr hv14))) ?_;refine AC (n:=105) AD 1 [p3,p2,p1,(46,.st v14)] [] kr ?_;refine Af (caps:=[]) (xs:=[.st v14]) (u:=(v14,())) rfl rfl MN rfl (AB rfl) kr kr (Ah (A2 (c:=cdS) (v:=v14)) BZ) (.inl kr) hv15 ?_;exact Ak AD
   refine AP (b:=(!v15)) kr (fun hb16=>?_) (fun hb16=>?_)
   ·rw [if_pos hb16] at h
    refine AT AD [(4,.j 4)] [] ?_;refine AU ?_;have hq:=OI h; subst hq;exact ⟨rfl,AM⟩
   ·rw [BH hb16] at h
    refine AX ?_
    let p4:Nat×AV:=(5,.j (wr .i64 (c10 + 1)))
    refine DH AD [p3,p2,p4] [] ?_;exact A9 (s1:=⟨Fr 105 [p3,p2,p4],[]⟩) AM (ih (wr .i64 (c10 + 1)) h)
  ·rw [BH hb12] at h
   refine DN ?_;have hq:=OI h; subst hq;exact ⟨rfl,AM⟩
theorem FU (x0:(List AJ)) (x1:Int):∀ (f:Nat) (c20:Int) (r:(Unit) ⊕ (Int)),Bt x0 x1 f c20=some r->SemN E0 ⟨none,false⟩ (pc DB [1,1,1,1,0,1,0,0]) f ⟨Fr 105 [(0,.sl 5 (x0.map AA.enc)),(1,.j x1),(6,.j c20)],[]⟩ (fun e s=>match r with
 | (.inl w)=>e=(.exit 2)/\Wk E0 s ⟨Fr 105 [(0,.sl 5 (x0.map AA.enc)),(1,.j x1)],[]⟩
 | (.inr w)=>e = .ret/\Wk E0 s ⟨Fr 105 [(4,.j w)],[]⟩):=by
 intro f;induction f with
 | zero=>intro c20 r h; cases h
 | succ f ih0 =>
  intro c20 r h
  have ih:=fun (c20:Int)=>ih0 c20 r
  unfold Bt at h;refine Cl ?_;refine AF ?_;refine AF ?_;obtain ⟨v21,hv21,h⟩:=OB h
  let p1:Nat×AV:=(6,.j c20)
  let p2:Nat×AV:=(1,.j x1)
  let p3:Nat×AV:=(0,.sl 5 (x0.map AA.enc))
  refine AI (s1:=⟨Fr 105 [p3,p2,p1,(56,.b (decide (c20 < (v21.2.2.2.1.length:Int))))],[]⟩) ?_ ?_
  ·refine AC (n:=105) AD 3 [p3,p2,p1,(49,.j c20),(50,.sl 5 (x0.map AA.enc)),(51,.j x1)] [] kr ?_
   refine AW AD 0 rfl (BY (AB rfl) rfl (Ad (a:= .sl 5 (x0.map AA.enc)) (b:= .j x1) kr kr (Dn (e:=AA.enc) (el:=66) (k:=5) (ki:= .i64) kr kr hv21))) ?_;refine AC (n:=105) AD 2 [p3,p2,p1,(49,.j c20),(54,.sl 1 (v21.2.2.2.1.map cdS.enc))] [] kr ?_;refine AW AD 0 rfl (BY (AB rfl) rfl (ET (a:= .sl 1 (v21.2.2.2.1.map cdS.enc)) kr (C5 (el:=9) kr))) ?_;exact Ak AD
  refine AP (b:=(decide (c20 < (v21.2.2.2.1.length:Int)))) kr (fun hb22=>?_) (fun hb22=>?_)
  ·rw [if_pos hb22] at h
   refine AX ?_;refine AF ?_;refine A0 ?_;refine AF ?_;obtain ⟨v23,hv23,h⟩:=OB h;by_cases hk24:(By 0 c20 v23.2.2.2.1.length)=true
   case neg=>rw [if_neg hk24] at h; cases h
   rw [if_pos hk24] at h;obtain ⟨v25,hv25,h⟩:=OB h;obtain ⟨v26,hv26,h⟩:=OB h;obtain ⟨v27,hv27,h⟩:=OB h;refine Hu AD (s1:=⟨Fr 105 [p3,p2,p1,(74,.b v27)],[]⟩) kr ?_ ?_
   ·refine BT (n:=105) AD 2 [p3,p2,p1,(59,.sl 5 (x0.map AA.enc)),(60,.j x1)] [] kr kr ?_
    refine RunDS.one AD rfl kr (KZ kr (AB rfl) rfl (Ad (a:= .sl 5 (x0.map AA.enc)) (b:= .j x1) kr kr (Dn (e:=AA.enc) (el:=66) (k:=5) (ki:= .i64) kr kr hv23)) kr) ?_;refine BT (n:=105) AD 3 [p3,p2,p1,(63,.sl 1 (v23.2.2.2.1.map cdS.enc)),(64,.j c20)] [] kr kr ?_;refine RunDS.one AD rfl kr (KZ kr (AB rfl) rfl (Di (a:= .sl 1 (v23.2.2.2.1.map cdS.enc)) (l:=none) (u:=(some (.j c20))) (m:=none) kr kr kr rfl (Gd (xs:=v23.2.2.2.1) (e:=cdS.enc) (k:=1) (el:=9) (lo:=0) (hi:=c20) kr kr rfl (Ee (L5 hk24)) hk24)) kr) ?_
    let p4:Nat×AV:=(65,.sl 1 (((v23.2.2.2.1.take c20.toNat).drop (0:Int).toNat).map cdS.enc))
    refine BT (n:=105) AD 2 [p3,p2,p1,p4,(66,.sl 5 (x0.map AA.enc)),(67,.j x1)] [] kr kr ?_;refine RunDS.one AD rfl kr (KZ kr (AB rfl) rfl (Ad (a:= .sl 5 (x0.map AA.enc)) (b:= .j x1) kr kr (Dn (e:=AA.enc) (el:=66) (k:=5) (ki:= .i64) kr kr hv25)) kr) ?_;refine BT (n:=105) AD 3 [p3,p2,p1,p4,(70,.sl 1 (v25.2.2.2.1.map cdS.enc)),(71,.j c20)] [] kr kr ?_;refine RunDS.one AD rfl kr (KZ kr (AB rfl) rfl (Ad (a:= .sl 1 (v25.2.2.2.1.map cdS.enc)) (b:= .j c20) kr kr (Dn (e:=cdS.enc) (el:=9) (k:=1) (ki:= .i64) kr kr hv26)) kr) ?_;refine BT (n:=105) AD 1 [p3,p2,p1,p4,(73,.st v26)] [] kr kr ?_;refine It (caps:=[]) (xs:=[.sl 1 (((v23.2.2.2.1.take c20.toNat).drop (0:Int).toNat).map cdS.enc),.st v26]) (u:=(((v23.2.2.2.1.take c20.toNat).drop (0:Int).toNat),v26,())) rfl rfl Lb rfl (AB rfl) kr kr (Ah (A2 (c:=(cdL 1 cdS)) (v:=((v23.2.2.2.1.take c20.toNat).drop (0:Int).toNat))) (Ah (A2 (c:=cdS) (v:=v26)) BZ)) kr hv27 ?_;exact RunDS.done rfl AM
   refine AP (b:=v27) kr (fun hb28=>?_) (fun hb28=>?_)
   ·rw [if_pos hb28] at h
    refine AT AD [(4,.j 5)] [] ?_;refine AU ?_;have hq:=OI h; subst hq;exact ⟨rfl,AM⟩
   ·rw [BH hb28] at h
    refine AX ?_
    let p5:Nat×AV:=(6,.j (wr .i64 (c20 + 1)))
    refine DH AD [p3,p2,p5] [] ?_;exact A9 (s1:=⟨Fr 105 [p3,p2,p5],[]⟩) AM (ih (wr .i64 (c20 + 1)) h)
  ·rw [BH hb22] at h
   refine DN ?_;have hq:=OI h; subst hq;exact ⟨rfl,AM⟩
theorem FV (x0:(List AJ)) (x1:Int):∀ (f:Nat) (c34:Int) (r:(Unit) ⊕ (Int)),Bu x0 x1 f c34=some r->SemN E0 ⟨none,false⟩ (pc DB [1,1,1,1,1,1,0,1,0,0]) f ⟨Fr 105 [(0,.sl 5 (x0.map AA.enc)),(1,.j x1),(7,.j c34)],[]⟩ (fun e s=>match r with
 | (.inl w)=>e=(.exit 4)/\Wk E0 s ⟨Fr 105 [],[]⟩
 | (.inr w)=>e = .ret/\Wk E0 s ⟨Fr 105 [(4,.j w)],[]⟩):=by
 intro f;induction f with
 | zero=>intro c34 r h; cases h
 | succ f ih0 =>
  intro c34 r h
  have ih:=fun (c34:Int)=>ih0 c34 r
  unfold Bu at h;refine Cl ?_;refine AF ?_;refine AT AD [(0,.sl 5 (x0.map AA.enc)),(1,.j x1),(7,.j c34),(83,.b (decide (c34 < x1)))] [] ?_;refine AP (b:=(decide (c34 < x1))) kr (fun hb35=>?_) (fun hb35=>?_)
  ·rw [if_pos hb35] at h
   refine AX ?_;refine AF ?_;refine A0 ?_;refine AF ?_;obtain ⟨v36,hv36,h⟩:=OB h;obtain ⟨j41,hj41,h⟩:=OB h;refine Hu AD (s1:=⟨Fr 105 [(0,.sl 5 (x0.map AA.enc)),(1,.j x1),(7,.j c34),(104,.b j41)],[]⟩) kr ?_ ?_
   ·refine BT (n:=105) AD 2 [(0,.sl 5 (x0.map AA.enc)),(1,.j x1),(7,.j c34),(86,.sl 5 (x0.map AA.enc)),(87,.j c34)] [] kr kr ?_
    refine RunDS.one AD rfl kr (KZ kr (AB rfl) rfl (Ad (a:= .sl 5 (x0.map AA.enc)) (b:= .j c34) kr kr (Dn (e:=AA.enc) (el:=66) (k:=5) (ki:= .i64) kr kr hv36)) kr) ?_;refine BT (n:=105) AD 4 [(0,.sl 5 (x0.map AA.enc)),(1,.j x1),(7,.j c34),(92,.b (v36.1==1))] [] kr kr ?_;rcases BE (v36.1==1) with hc44 | hc44
    ·rw [if_pos hc44] at hj41
     rw [hc44];refine BT (n:=105) AD 2 [(0,.sl 5 (x0.map AA.enc)),(1,.j x1),(7,.j c34),(92,.b true),(93,.sl 5 (x0.map AA.enc)),(94,.j c34)] [] kr kr ?_;obtain ⟨v37,hv37,hj41⟩:=OB hj41;refine RunDS.one AD rfl kr (KZ kr kr rfl (Ad (a:= .sl 5 (x0.map AA.enc)) (b:= .j c34) kr kr (Dn (e:=AA.enc) (el:=66) (k:=5) (ki:= .i64) kr kr hv37)) kr) ?_;refine BT (n:=105) AD 4 [(0,.sl 5 (x0.map AA.enc)),(1,.j x1),(7,.j c34),(92,.b true),(93,.sl 5 (x0.map AA.enc)),(94,.j c34),(95,.pe (AA.enc v37) 0),(96,.pe (AA.enc v37) 3),(97,.sl 1 (v37.2.2.2.1.map cdS.enc)),(98,.sl 5 (x0.map AA.enc)),(99,.j x1)] [] kr kr ?_;obtain ⟨v38,hv38,hj41⟩:=OB hj41;refine RunDS.one AD rfl kr (KZ kr kr rfl (Ad (a:= .sl 5 (x0.map AA.enc)) (b:= .j x1) kr kr (Dn (e:=AA.enc) (el:=66) (k:=5) (ki:= .i64) kr kr hv38)) kr) ?_;refine BT (n:=105) AD 2 [(0,.sl 5 (x0.map AA.enc)),(1,.j x1),(7,.j c34),(92,.b true),(93,.sl 5 (x0.map AA.enc)),(94,.j c34),(95,.pe (AA.enc v37) 0),(96,.pe (AA.enc v37) 3),(97,.sl 1 (v37.2.2.2.1.map cdS.enc)),(98,.sl 5 (x0.map AA.enc)),(99,.j x1),(100,.pe (AA.enc v38) 0),(101,.pe (AA.enc v38) 1),(102,.st v38.2.1)] [] kr kr ?_;obtain ⟨v39,hv39,hj41⟩:=OB hj41;refine It (caps:=[]) (xs:=[.sl 1 (v37.2.2.2.1.map cdS.enc),.st v38.2.1]) (u:=(v37.2.2.2.1,v38.2.1,())) rfl rfl Lb rfl kr kr kr (Ah (A2 (c:=(cdL 1 cdS)) (v:=v37.2.2.2.1)) (Ah (A2 (c:=cdS) (v:=v38.2.1)) BZ)) kr hv39 ?_;refine BT (n:=105) AD 1 [(0,.sl 5 (x0.map AA.enc)),(1,.j x1),(7,.j c34),(93,.sl 5 (x0.map AA.enc)),(94,.j c34),(95,.pe (AA.enc v37) 0),(96,.pe (AA.enc v37) 3),(97,.sl 1 (v37.2.2.2.1.map cdS.enc)),(98,.sl 5 (x0.map AA.enc)),(99,.j x1),(100,.pe (AA.enc v38) 0),(101,.pe (AA.enc v38) 1),(102,.st v38.2.1),(103,.b v39),(104,.b v39)] [] kr kr ?_;have hq:=OI hj41; subst hq;exact RunDS.done rfl AM
    ·rw [BH hc44] at hj41
     rw [hc44];refine BT (n:=105) AD 12 [(0,.sl 5 (x0.map AA.enc)),(1,.j x1),(7,.j c34),(93,.tp []),(94,.tp []),(95,.tp []),(96,.tp []),(97,.tp []),(98,.tp []),(99,.tp []),(100,.tp []),(101,.tp []),(102,.tp []),(103,.tp []),(104,.b false)] [] kr kr ?_;have hq:=OI hj41; subst hq;exact RunDS.done rfl AM
   refine AP (b:=j41) kr (fun hb42=>?_) (fun hb42=>?_)
   ·rw [if_pos hb42] at h
    refine AT AD [(4,.j 0)] [] ?_;refine AU ?_;have hq:=OI h; subst hq;exact ⟨rfl,AM⟩
   ·rw [BH hb42] at h
    refine AX ?_;refine DH AD [(0,.sl 5 (x0.map AA.enc)),(1,.j x1),(7,.j (wr .i64 (c34 + 1)))] [] ?_;exact A9 (s1:=⟨Fr 105 [(0,.sl 5 (x0.map AA.enc)),(1,.j x1),(7,.j (wr .i64 (c34 + 1)))],[]⟩) AM (ih (wr .i64 (c34 + 1)) h)
  ·rw [BH hb35] at h
   refine DN ?_;have hq:=OI h; subst hq;exact ⟨rfl,AM⟩
theorem Jc (x0:(List AJ)) (x1:Int) (r:Int) (h:C1 x0 x1=some r):Sem E0 ⟨none,false⟩ DB ⟨Fr 105 (BF 0 (Eg.enc (x0,x1,()))),[]⟩ fun e s'=>(e = .normal\/e = .ret)/\∃ xs,Dk E0.P s'.fr s'.hp Tryz.f56.results.toList=some xs/\EB xs=Ei r:=by
 unfold C1 at h;refine Bm (Cg (s1:=⟨Fr 105 [(0,.sl 5 (x0.map AA.enc)),(1,.j x1)],[]⟩) AM ?_);refine AT AD [(0,.sl 5 (x0.map AA.enc)),(1,.j x1)] [] ?_;refine AF ?_;refine AF ?_;obtain ⟨v1,hv1,h⟩:=OB h;obtain ⟨v2,hv2,h⟩:=OB h;refine AI (s1:=⟨Fr 105 [(0,.sl 5 (x0.map AA.enc)),(1,.j x1),(13,.b (!v2))],[]⟩) ?_ ?_
 ·refine AC (n:=105) AD 2 [(0,.sl 5 (x0.map AA.enc)),(1,.j x1),(8,.sl 5 (x0.map AA.enc)),(9,.j x1)] [] kr ?_
  refine AW AD 0 rfl (BY (AB rfl) rfl (Ad (a:= .sl 5 (x0.map AA.enc)) (b:= .j x1) kr kr (Dn (e:=AA.enc) (el:=66) (k:=5) (ki:= .i64) kr kr hv1))) ?_;refine AC (n:=105) AD 1 [(0,.sl 5 (x0.map AA.enc)),(1,.j x1),(11,AA.enc v1)] [] kr ?_;refine Af (caps:=[]) (xs:=[AA.enc v1]) (u:=(v1,())) rfl rfl L0 rfl (AB rfl) kr kr (Ah (A2 (c:=AA) (v:=v1)) BZ) (.inl kr) hv2 ?_;exact Ak AD
 refine AP (b:=(!v2)) kr (fun hb3=>?_) (fun hb3=>?_)
 ·rw [if_pos hb3] at h
  refine AT AD [(4,.j 30)] [] ?_;refine AU ?_;have hq:=OI h; subst hq;exact ⟨⟨Fr 105 [(4,.j 30)],[]⟩,AM,.inr rfl,[.j 30],kr,kr⟩
 ·rw [BH hb3] at h
  refine AX ?_;refine AF ?_;refine AF ?_;obtain ⟨v4,hv4,h⟩:=OB h;obtain ⟨j8,hj8,h⟩:=OB h;refine AI (s1:=⟨Fr 105 [(0,.sl 5 (x0.map AA.enc)),(1,.j x1),(28,.b j8)],[]⟩) ?_ ?_
  ·refine AC (n:=105) AD 2 [(0,.sl 5 (x0.map AA.enc)),(1,.j x1),(14,.sl 5 (x0.map AA.enc)),(15,.j x1)] [] kr ?_
   refine AW AD 0 rfl (BY (AB rfl) rfl (Ad (a:= .sl 5 (x0.map AA.enc)) (b:= .j x1) kr kr (Dn (e:=AA.enc) (el:=66) (k:=5) (ki:= .i64) kr kr hv4))) ?_;refine AC (n:=105) AD 4 [(0,.sl 5 (x0.map AA.enc)),(1,.j x1),(20,.b (!(v4.2.1==[])))] [] kr ?_;rcases BE (!(v4.2.1==[])) with hc50 | hc50
   ·rw [if_pos hc50] at hj8
    rw [hc50];refine AC (n:=105) AD 2 [(0,.sl 5 (x0.map AA.enc)),(1,.j x1),(20,.b true),(21,.sl 5 (x0.map AA.enc)),(22,.j x1)] [] kr ?_;obtain ⟨v5,hv5,hj8⟩:=OB hj8;refine AW AD 0 rfl (BY kr rfl (Ad (a:= .sl 5 (x0.map AA.enc)) (b:= .j x1) kr kr (Dn (e:=AA.enc) (el:=66) (k:=5) (ki:= .i64) kr kr hv5))) ?_;refine AC (n:=105) AD 2 [(0,.sl 5 (x0.map AA.enc)),(1,.j x1),(20,.b true),(25,.st v5.2.1)] [] kr ?_;obtain ⟨v6,hv6,hj8⟩:=OB hj8;refine Af (caps:=[]) (xs:=[.st v5.2.1]) (u:=(v5.2.1,())) rfl rfl MN rfl kr kr kr (Ah (A2 (c:=cdS) (v:=v5.2.1)) BZ) (.inl kr) hv6 ?_;refine AC (n:=105) AD 2 [(0,.sl 5 (x0.map AA.enc)),(1,.j x1),(28,.b (!v6))] [] kr ?_;have hq:=OI hj8; subst hq;exact AE rfl AM
   ·rw [BH hc50] at hj8
    rw [hc50];refine AC (n:=105) AD 8 [(0,.sl 5 (x0.map AA.enc)),(1,.j x1),(28,.b false)] [] kr ?_;have hq:=OI hj8; subst hq;exact AE rfl AM
  refine AP (b:=j8) kr (fun hb9=>?_) (fun hb9=>?_)
  ·rw [if_pos hb9] at h
   refine AT AD [(4,.j 4)] [] ?_;refine AU ?_;have hq:=OI h; subst hq;exact ⟨⟨Fr 105 [(4,.j 4)],[]⟩,AM,.inr rfl,[.j 4],kr,kr⟩
  ·rw [BH hb9] at h
   refine AX ?_;refine AF ?_;refine AT AD [(0,.sl 5 (x0.map AA.enc)),(1,.j x1),(5,.j 0)] [] ?_;refine A0 ?_;obtain ⟨r18,hr18,h⟩:=OB h;refine DO (n:=100000) ?_;rcases r18 with w19 | w49
   ·try dsimp only at h
    refine BX (A9 (s1:=⟨Fr 105 [(0,.sl 5 (x0.map AA.enc)),(1,.j x1),(5,.j 0)],[]⟩) AM (FT x0 x1 _ 0 _ hr18)) ?_;refine AF ?_;refine AT AD [(0,.sl 5 (x0.map AA.enc)),(1,.j x1),(6,.j 0)] [] ?_;refine A0 ?_;obtain ⟨r30,hr30,h⟩:=OB h;refine DO (n:=100000) ?_;rcases r30 with w31 | w48
    ·try dsimp only at h
     refine BX (A9 (s1:=⟨Fr 105 [(0,.sl 5 (x0.map AA.enc)),(1,.j x1),(6,.j 0)],[]⟩) AM (FU x0 x1 _ 0 _ hr30)) ?_;refine AF ?_;refine AF ?_;obtain ⟨v32,hv32,h⟩:=OB h;refine AI (s1:=⟨Fr 105 [(0,.sl 5 (x0.map AA.enc)),(1,.j x1),(80,.b (v32.2.1==[]))],[]⟩) ?_ ?_
     ·refine AC (n:=105) AD 2 [(0,.sl 5 (x0.map AA.enc)),(1,.j x1),(75,.sl 5 (x0.map AA.enc)),(76,.j x1)] [] kr ?_
      refine AW AD 0 rfl (BY (AB rfl) rfl (Ad (a:= .sl 5 (x0.map AA.enc)) (b:= .j x1) kr kr (Dn (e:=AA.enc) (el:=66) (k:=5) (ki:= .i64) kr kr hv32))) ?_;exact Ak AD
     refine AP (b:=(v32.2.1==[])) kr (fun hb33=>?_) (fun hb33=>?_)
     ·rw [if_pos hb33] at h
      refine AT AD [(4,.j 0)] [] ?_;refine AU ?_;have hq:=OI h; subst hq;exact ⟨⟨Fr 105 [(4,.j 0)],[]⟩,AM,.inr rfl,[.j 0],kr,kr⟩
     ·rw [BH hb33] at h
      refine AX ?_;refine AF ?_;refine AT AD [(0,.sl 5 (x0.map AA.enc)),(1,.j x1),(7,.j 0)] [] ?_;refine A0 ?_;obtain ⟨r45,hr45,h⟩:=OB h;refine DO (n:=100000) ?_;rcases r45 with w46 | w47
      ·try dsimp only at h
       refine BX (A9 (s1:=⟨Fr 105 [(0,.sl 5 (x0.map AA.enc)),(1,.j x1),(7,.j 0)],[]⟩) AM (FV x0 x1 _ 0 _ hr45)) ?_;refine AT AD [(4,.j 31)] [] ?_;refine AU ?_;have hq:=OI h; subst hq;exact ⟨⟨Fr 105 [(4,.j 31)],[]⟩,AM,.inr rfl,[.j 31],kr,kr⟩
      ·try dsimp only at h
       refine BX (A9 (s1:=⟨Fr 105 [(0,.sl 5 (x0.map AA.enc)),(1,.j x1),(7,.j 0)],[]⟩) AM (FV x0 x1 _ 0 _ hr45)) ?_;have hq:=OI h; subst hq;exact ⟨⟨Fr 105 [(4,.j w47)],[]⟩,AM,.inr rfl,[.j w47],kr,kr⟩
    ·try dsimp only at h
     refine BX (A9 (s1:=⟨Fr 105 [(0,.sl 5 (x0.map AA.enc)),(1,.j x1),(6,.j 0)],[]⟩) AM (FU x0 x1 _ 0 _ hr30)) ?_;have hq:=OI h; subst hq;exact ⟨⟨Fr 105 [(4,.j w48)],[]⟩,AM,.inr rfl,[.j w48],kr,kr⟩
   ·try dsimp only at h
    refine BX (A9 (s1:=⟨Fr 105 [(0,.sl 5 (x0.map AA.enc)),(1,.j x1),(5,.j 0)],[]⟩) AM (FT x0 x1 _ 0 _ hr18)) ?_;have hq:=OI h; subst hq;exact ⟨⟨Fr 105 [(4,.j w49)],[]⟩,AM,.inr rfl,[.j w49],kr,kr⟩
def Kc:List AV->Option AV:=Ea Eg (fun a=>C1 a.1 a.2.1) Ei
theorem Kf:XOk 56 Kc:=by
 refine Ap Tryz.func56 (c:=DB) ?h2 ⟨Tryz.call56⟩ Eg (fun a=>C1 a.1 a.2.1) Ei (fun a=>(by show 2<=105; decide)) ?h3 ?h4
 case h2=>kernel_rfl
 case h3=>intro b; kernel_rfl
 case h4=>exact fun a b h=>Jc a.1 a.2.1 b h
/- trestle/trestleref03.Parse -/
noncomputable def Gh:Code:=Bc Tryz.f20
def CE (v2:(List (List UInt8))×Bool):Nat->(List AJ)->Int->Option (((List AJ)) ⊕ (Int×Int))
 | 0,_,_=>none
 | f + 1,c3,c4 =>
  if (decide (c4 < (v2.1.length:Int)))=true then
  (idx v2.1 c4).bind fun v6 =>
  (Ew v6).bind fun v7 =>
  (if (!v7.2)=true then some (c3,true) else if (c4==(wr .i64 ((v2.1.length:Int) - 1)))=true then some (c3,(!v2.2)) else some (c3,false)).bind fun j10 =>
  if j10.2=true then
  some (.inr (c4,3))
  else
  (DL v7.1).bind fun v14 =>
  if (!v14.2)=true then
  some (.inr (c4,3))
  else
  if (FX 64 (j10.1.length + 1))=true then
  (C1 (j10.1++[v14.1]) c4).bind fun v17 =>
  if (v17 != 0)=true then
  some (.inr (c4,v17))
  else
  if (c4==32)=true then
  some (.inr (c4,7))
  else
  CE v2 f (j10.1++[v14.1]) (wr .i64 (c4 + 1))
  else none
  else
  some (.inl c3)
def DV (x0:(List UInt8)):Option ((List AJ)×Int×Int) :=
 if (decide ((x0.length:Int) > 65536))=true then
 some ([],0,7)
 else
 (F5 x0).bind fun v2 =>
 (CE v2 100000 [] 0).bind fun r23 =>
 match r23 with
 | (.inl w24) =>
  some (w24,0,0)
 | (.inr w25) =>
  some ([],w25.1,w25.2)
def Gj:Cs ((List UInt8)×Unit):=(csC cdS csN)
def Gm (r:(List AJ)×Int×Int):AV:= .tp [(cdL 5 AA).enc r.1,cdI.enc r.2.1,cdI.enc r.2.2]
theorem G4 (v2:(List (List UInt8))×Bool):∀ (f:Nat) (c3:(List AJ)) (c4:Int) (r:((List AJ)) ⊕ (Int×Int)),CE v2 f c3 c4=some r->SemN E0 ⟨none,false⟩ (pc Gh [1,1,1,1,0,1,0,0]) f ⟨Fr 73 [(5,.sl 1 (v2.1.map cdS.enc)),(6,.b v2.2),(7,hd 0 (c3.map AA.enc)),(8,.j c4)],[mk 5 66 (c3.map AA.enc)]⟩ (fun e s=>match r with
 | (.inl w)=>e=(.exit 0)/\Wk E0 s ⟨Fr 73 [(7,hd 0 (w.map AA.enc))],[mk 5 66 (w.map AA.enc)]⟩
 | (.inr w)=>e = .ret/\Wk E0 s ⟨Fr 73 [(2,.e0),(3,.j w.1),(4,.j w.2)],[]⟩):=by
 intro f;induction f with
 | zero=>intro c3 c4 r h; cases h
 | succ f ih0 =>
  intro c3 c4 r h
  have ih:=fun (c3:(List AJ)) (c4:Int)=>ih0 c3 c4 r
  unfold CE at h;refine Cl ?_;refine AF ?_;refine AF ?_;refine AI (s1:=⟨Fr 73 [(5,.sl 1 (v2.1.map cdS.enc)),(6,.b v2.2),(7,hd 0 (c3.map AA.enc)),(8,.j c4),(25,.b (decide (c4 < (v2.1.length:Int))))],[mk 5 66 (c3.map AA.enc)]⟩) ?_ ?_
  ·refine AC (n:=73) AD 2 [(5,.sl 1 (v2.1.map cdS.enc)),(6,.b v2.2),(7,hd 0 (c3.map AA.enc)),(8,.j c4),(22,.j c4),(23,.sl 1 (v2.1.map cdS.enc))] [mk 5 66 (c3.map AA.enc)] kr ?_
   refine AW AD 0 rfl (BY (AB rfl) rfl (ET (a:= .sl 1 (v2.1.map cdS.enc)) kr (C5 (el:=9) kr))) ?_;exact Ak AD
  refine AP (b:=(decide (c4 < (v2.1.length:Int)))) kr (fun hb5=>?_) (fun hb5=>?_)
  ·rw [if_pos hb5] at h
   refine AX ?_;refine AF ?_;refine A0 ?_;refine AF ?_;obtain ⟨v6,hv6,h⟩:=OB h;obtain ⟨v7,hv7,h⟩:=OB h;refine AI (s1:=⟨Fr 73 [(5,.sl 1 (v2.1.map cdS.enc)),(6,.b v2.2),(7,hd 0 (c3.map AA.enc)),(8,.j c4),(9,.sl 1 (v7.1.map cdS.enc)),(10,.b v7.2)],[mk 5 66 (c3.map AA.enc)]⟩) ?_ ?_
   ·refine AC (n:=73) AD 2 [(5,.sl 1 (v2.1.map cdS.enc)),(6,.b v2.2),(7,hd 0 (c3.map AA.enc)),(8,.j c4),(29,.sl 1 (v2.1.map cdS.enc)),(30,.j c4)] [mk 5 66 (c3.map AA.enc)] kr ?_
    refine AW AD 0 rfl (BY (AB rfl) rfl (Ad (a:= .sl 1 (v2.1.map cdS.enc)) (b:= .j c4) kr kr (Dn (e:=cdS.enc) (el:=9) (k:=1) (ki:= .i64) kr kr hv6))) ?_;refine AC (n:=73) AD 1 [(5,.sl 1 (v2.1.map cdS.enc)),(6,.b v2.2),(7,hd 0 (c3.map AA.enc)),(8,.j c4),(32,.st v6)] [mk 5 66 (c3.map AA.enc)] kr ?_;refine Af (caps:=[]) (xs:=[.st v6]) (u:=(v6,())) rfl rfl Oj rfl (AB rfl) kr kr (Ah (A2 (c:=cdS) (v:=v6)) BZ) (.inr kr) hv7 ?_;exact Ak AD
   refine AF ?_;refine AF ?_;obtain ⟨j10,hj10,h⟩:=OB h;refine AI (s1:=⟨Fr 73 [(5,.sl 1 (v2.1.map cdS.enc)),(6,.b v2.2),(7,hd 0 (j10.1.map AA.enc)),(8,.j c4),(9,.sl 1 (v7.1.map cdS.enc)),(48,.b j10.2)],[mk 5 66 (j10.1.map AA.enc)]⟩) ?_ ?_
   ·refine AC (n:=73) AD 3 [(5,.sl 1 (v2.1.map cdS.enc)),(6,.b v2.2),(7,hd 0 (c3.map AA.enc)),(8,.j c4),(9,.sl 1 (v7.1.map cdS.enc)),(38,.b (!v7.2))] [mk 5 66 (c3.map AA.enc)] kr ?_
    rcases BE (!v7.2) with hc20 | hc20
    ·rw [if_pos hc20] at hj10
     rw [hc20];refine AC (n:=73) AD 10 [(5,.sl 1 (v2.1.map cdS.enc)),(6,.b v2.2),(7,hd 0 (c3.map AA.enc)),(8,.j c4),(9,.sl 1 (v7.1.map cdS.enc)),(39,.tp []),(40,.tp []),(41,.tp []),(42,.tp []),(43,.tp []),(44,.tp []),(45,.tp []),(46,.tp []),(47,.tp []),(48,.b true)] [mk 5 66 (c3.map AA.enc)] kr ?_;have hq:=OI hj10; subst hq;exact AE rfl (Al [0] ⟨⟨_,rfl,PL⟩,trivial⟩ ⟨lv,lv,PY (b':=0) kr kr,lv,lv,lv,trivial⟩)
    ·rw [BH hc20] at hj10
     rw [hc20];refine AC (n:=73) AD 2 [(5,.sl 1 (v2.1.map cdS.enc)),(6,.b v2.2),(7,hd 0 (c3.map AA.enc)),(8,.j c4),(9,.sl 1 (v7.1.map cdS.enc)),(38,.b false),(39,.j c4),(40,.sl 1 (v2.1.map cdS.enc))] [mk 5 66 (c3.map AA.enc)] kr ?_;refine AW AD 0 rfl (BY kr rfl (ET (a:= .sl 1 (v2.1.map cdS.enc)) kr (C5 (el:=9) kr))) ?_;refine AC (n:=73) AD 3 [(5,.sl 1 (v2.1.map cdS.enc)),(6,.b v2.2),(7,hd 0 (c3.map AA.enc)),(8,.j c4),(9,.sl 1 (v7.1.map cdS.enc)),(38,.b false),(39,.j c4),(40,.sl 1 (v2.1.map cdS.enc)),(41,.j (v2.1.length:Int)),(42,.j (wr .i64 ((v2.1.length:Int) - 1))),(43,.b (c4==(wr .i64 ((v2.1.length:Int) - 1)))),(44,.b (c4==(wr .i64 ((v2.1.length:Int) - 1))))] [mk 5 66 (c3.map AA.enc)] kr ?_;rcases BE (c4==(wr .i64 ((v2.1.length:Int) - 1))) with hc21 | hc21
     ·rw [if_pos hc21] at hj10
      rw [hc21];refine AC (n:=73) AD 4 [(5,.sl 1 (v2.1.map cdS.enc)),(6,.b v2.2),(7,hd 0 (c3.map AA.enc)),(8,.j c4),(9,.sl 1 (v7.1.map cdS.enc)),(39,.j c4),(40,.sl 1 (v2.1.map cdS.enc)),(41,.j (v2.1.length:Int)),(42,.j (wr .i64 ((v2.1.length:Int) - 1))),(43,.b true),(44,.b true),(45,.b v2.2),(46,.b (!v2.2)),(47,.b (!v2.2)),(48,.b (!v2.2))] [mk 5 66 (c3.map AA.enc)] kr ?_;have hq:=OI hj10; subst hq;exact AE rfl (Al [0] ⟨⟨_,rfl,PL⟩,trivial⟩ ⟨lv,lv,PY (b':=0) kr kr,lv,lv,lv,trivial⟩)
     ·rw [BH hc21] at hj10
      rw [hc21];refine AC (n:=73) AD 4 [(5,.sl 1 (v2.1.map cdS.enc)),(6,.b v2.2),(7,hd 0 (c3.map AA.enc)),(8,.j c4),(9,.sl 1 (v7.1.map cdS.enc)),(39,.j c4),(40,.sl 1 (v2.1.map cdS.enc)),(41,.j (v2.1.length:Int)),(42,.j (wr .i64 ((v2.1.length:Int) - 1))),(43,.b false),(44,.b false),(45,.tp []),(46,.tp []),(47,.b false),(48,.b false)] [mk 5 66 (c3.map AA.enc)] kr ?_;have hq:=OI hj10; subst hq;exact AE rfl (Al [0] ⟨⟨_,rfl,PL⟩,trivial⟩ ⟨lv,lv,PY (b':=0) kr kr,lv,lv,lv,trivial⟩)
   refine AP (b:=j10.2) kr (fun hb11=>?_) (fun hb11=>?_)
   ·rw [if_pos hb11] at h
    refine AF ?_;refine AI (s1:=⟨Fr 73 [(2,.e0),(3,.j c4),(4,.j 3)],[]⟩) ?_ ?_
    ·refine AC (n:=73) AD 4 [(2,.e0),(3,.j c4),(4,.j 3)] [mk 5 66 (j10.1.map AA.enc)] kr ?_
     exact AE rfl (Al [] trivial ⟨lv,lv,lv,trivial⟩)
    refine AU ?_;have hq:=OI h; subst hq;exact ⟨rfl,AM⟩
   ·rw [BH hb11] at h
    refine AX ?_;refine AF ?_;obtain ⟨v14,hv14,h⟩:=OB h;refine AI (s1:=⟨Fr 73 [(5,.sl 1 (v2.1.map cdS.enc)),(6,.b v2.2),(7,hd 0 (j10.1.map AA.enc)),(8,.j c4),(11,.pt 1 0 0),(12,.b v14.2)],[mk 5 66 (j10.1.map AA.enc),some ⟨5,66,[AA.enc v14.1],false⟩]⟩) ?_ ?_
    ·refine AC (n:=73) AD 1 [(5,.sl 1 (v2.1.map cdS.enc)),(6,.b v2.2),(7,hd 0 (j10.1.map AA.enc)),(8,.j c4),(51,.sl 1 (v7.1.map cdS.enc))] [mk 5 66 (j10.1.map AA.enc)] kr ?_
     refine Af (caps:=[]) (xs:=[.sl 1 (v7.1.map cdS.enc)]) (u:=(v7.1,())) rfl rfl Lz rfl (AB rfl) kr kr (Ah (A2 (c:=(cdL 1 cdS)) (v:=v7.1)) BZ) (.inr kr) hv14 ?_;exact Ak AD
    refine AF ?_;refine AT AD [(5,.sl 1 (v2.1.map cdS.enc)),(6,.b v2.2),(7,hd 0 (j10.1.map AA.enc)),(8,.j c4),(11,.pt 1 0 0),(56,.b (!v14.2))] [mk 5 66 (j10.1.map AA.enc),some ⟨5,66,[AA.enc v14.1],false⟩] ?_;refine AP (b:=(!v14.2)) kr (fun hb15=>?_) (fun hb15=>?_)
    ·rw [if_pos hb15] at h
     refine AF ?_;refine AI (s1:=⟨Fr 73 [(2,.e0),(3,.j c4),(4,.j 3)],[]⟩) ?_ ?_
     ·refine AC (n:=73) AD 4 [(2,.e0),(3,.j c4),(4,.j 3)] [mk 5 66 (j10.1.map AA.enc),some ⟨5,66,[AA.enc v14.1],false⟩] kr ?_
      exact AE rfl (Al [] trivial ⟨lv,lv,lv,trivial⟩)
     refine AU ?_;have hq:=OI h; subst hq;exact ⟨rfl,AM⟩
    ·rw [BH hb15] at h
     refine AX ?_;refine AF ?_;by_cases hk16:(FX 64 (j10.1.length + 1))=true
     case neg=>rw [if_neg hk16] at h; cases h
     rw [if_pos hk16] at h;refine AI (s1:=⟨Fr 73 [(5,.sl 1 (v2.1.map cdS.enc)),(6,.b v2.2),(7,hd 0 ((j10.1++[v14.1]).map AA.enc)),(8,.j c4)],[mk 5 66 ((j10.1++[v14.1]).map AA.enc)]⟩) ?_ ?_
     ·refine AC (n:=73) AD 3 [(5,.sl 1 (v2.1.map cdS.enc)),(6,.b v2.2),(8,.j c4),(58,hd 0 (j10.1.map AA.enc)),(60,hd 2 ([v14.1].map AA.enc))] [mk 5 66 (j10.1.map AA.enc),some ⟨5,66,[AA.enc v14.1],false⟩,mk 5 66 ([v14.1].map AA.enc)] kr ?_
      refine AW AD 0 rfl (TX (AB rfl) rfl kr kr (Ie (a:=hd 0 (j10.1.map AA.enc)) (b:=hd 2 ([v14.1].map AA.enc)) kr kr (Q5 (c:=AA) (xs:=j10.1) (vs:=[v14.1]) (k:=5) (bytes:=64) (el:=66) kr kr (RJ (t:=66) kr) (List.cons_ne_nil _ _) kr hk16))) ?_;refine AC (n:=73) AD 1 [(5,.sl 1 (v2.1.map cdS.enc)),(6,.b v2.2),(7,hd 3 ((j10.1++[v14.1]).map AA.enc)),(8,.j c4)] [none,some ⟨5,66,[AA.enc v14.1],false⟩,mk 5 66 ([v14.1].map AA.enc),mk 5 66 ((j10.1++[v14.1]).map AA.enc)] kr ?_;exact AE rfl (Al [3] ⟨⟨_,rfl,PL⟩,trivial⟩ ⟨lv,lv,PY (b':=3) kr kr,lv,trivial⟩)
     refine AF ?_;refine AF ?_;obtain ⟨v17,hv17,h⟩:=OB h;refine AI (s1:=⟨Fr 73 [(5,.sl 1 (v2.1.map cdS.enc)),(6,.b v2.2),(7,hd 0 ((j10.1++[v14.1]).map AA.enc)),(8,.j c4),(13,.j v17)],[mk 5 66 ((j10.1++[v14.1]).map AA.enc)]⟩) ?_ ?_
     ·refine AC (n:=73) AD 2 [(5,.sl 1 (v2.1.map cdS.enc)),(6,.b v2.2),(7,hd 0 ((j10.1++[v14.1]).map AA.enc)),(8,.j c4),(62,hd 0 ((j10.1++[v14.1]).map AA.enc)),(63,.j c4)] [mk 5 66 ((j10.1++[v14.1]).map AA.enc)] kr ?_
      refine Af (caps:=[]) (xs:=[hd 0 ((j10.1++[v14.1]).map AA.enc),.j c4]) (u:=((j10.1++[v14.1]),c4,())) rfl rfl Kf rfl (AB rfl) kr kr (Ah (Sm.hd (c:=AA) (xs:=(j10.1++[v14.1])) (t:=66) kr) (Ah (A2 (c:=cdI) (v:=c4)) BZ)) (.inl kr) hv17 ?_;exact Ak AD
     refine AT AD [(5,.sl 1 (v2.1.map cdS.enc)),(6,.b v2.2),(7,hd 0 ((j10.1++[v14.1]).map AA.enc)),(8,.j c4),(13,.j v17),(66,.b (v17 != 0))] [mk 5 66 ((j10.1++[v14.1]).map AA.enc)] ?_;refine AP (b:=(v17 != 0)) kr (fun hb18=>?_) (fun hb18=>?_)
     ·rw [if_pos hb18] at h
      refine AF ?_;refine AI (s1:=⟨Fr 73 [(2,.e0),(3,.j c4),(4,.j v17)],[]⟩) ?_ ?_
      ·refine AC (n:=73) AD 5 [(2,.e0),(3,.j c4),(4,.j v17)] [mk 5 66 ((j10.1++[v14.1]).map AA.enc)] kr ?_
       exact AE rfl (Al [] trivial ⟨lv,lv,lv,trivial⟩)
      refine AU ?_;have hq:=OI h; subst hq;exact ⟨rfl,AM⟩
     ·rw [BH hb18] at h
      refine AX ?_;refine AT AD [(5,.sl 1 (v2.1.map cdS.enc)),(6,.b v2.2),(7,hd 0 ((j10.1++[v14.1]).map AA.enc)),(8,.j c4),(70,.b (c4==32))] [mk 5 66 ((j10.1++[v14.1]).map AA.enc)] ?_;refine AP (b:=(c4==32)) kr (fun hb19=>?_) (fun hb19=>?_)
      ·rw [if_pos hb19] at h
       refine AF ?_;refine AI (s1:=⟨Fr 73 [(2,.e0),(3,.j c4),(4,.j 7)],[]⟩) ?_ ?_
       ·refine AC (n:=73) AD 4 [(2,.e0),(3,.j c4),(4,.j 7)] [mk 5 66 ((j10.1++[v14.1]).map AA.enc)] kr ?_
        exact AE rfl (Al [] trivial ⟨lv,lv,lv,trivial⟩)
       refine AU ?_;have hq:=OI h; subst hq;exact ⟨rfl,AM⟩
      ·rw [BH hb19] at h
       refine AX ?_;refine DH AD [(5,.sl 1 (v2.1.map cdS.enc)),(6,.b v2.2),(7,hd 0 ((j10.1++[v14.1]).map AA.enc)),(8,.j (wr .i64 (c4 + 1)))] [mk 5 66 ((j10.1++[v14.1]).map AA.enc)] ?_;exact A9 (s1:=⟨Fr 73 [(5,.sl 1 (v2.1.map cdS.enc)),(6,.b v2.2),(7,hd 0 ((j10.1++[v14.1]).map AA.enc)),(8,.j (wr .i64 (c4 + 1)))],[mk 5 66 ((j10.1++[v14.1]).map AA.enc)]⟩) (Al [0] ⟨⟨_,rfl,PL⟩,trivial⟩ ⟨lv,lv,PY (b':=0) kr kr,lv,trivial⟩) (ih (j10.1++[v14.1]) (wr .i64 (c4 + 1)) h)
  ·rw [BH hb5] at h
   refine DN ?_;have hq:=OI h; subst hq;exact ⟨rfl,(Al [0] ⟨⟨_,rfl,PL⟩,trivial⟩ ⟨PY (b':=0) kr kr,trivial⟩)⟩
theorem LM (x0:(List UInt8)) (r:(List AJ)×Int×Int) (h:DV x0=some r):Sem E0 ⟨none,false⟩ Gh ⟨Fr 73 (BF 0 (Gj.enc (x0,()))),[]⟩ fun e s'=>(e = .normal\/e = .ret)/\∃ xs,Dk E0.P s'.fr s'.hp Tryz.f20.results.toList=some xs/\EB xs=Gm r:=by
 unfold DV at h;refine Bm (Cg (s1:=⟨Fr 73 [(0,.st x0)],[]⟩) AM ?_);refine AT AD [(0,.st x0)] [] ?_;refine AF ?_;refine AT AD [(0,.st x0),(16,.b (decide ((x0.length:Int) > 65536)))] [] ?_;refine AP (b:=(decide ((x0.length:Int) > 65536))) kr (fun hb1=>?_) (fun hb1=>?_)
 ·rw [if_pos hb1] at h
  let p1:Nat×AV:=(4,.j 7)
  let p2:Nat×AV:=(3,.j 0)
  refine AT AD [(2,.e0),p2,p1] [] ?_;refine AU ?_;have hq:=OI h; subst hq;exact ⟨⟨Fr 73 [(2,.sl 5 ([].map AA.enc)),p2,p1],[]⟩,(Wk.trans (s1:=⟨Fr 73 [(2,.e0),p2,p1],[]⟩) AM (Wk.trans (s1:=⟨Fr 73 [(2,.e0),p2,p1],[none]⟩) Wk.none (Wk.trans (s1:=⟨Fr 73 [(2,.sl 5 ([].map AA.enc)),p2,p1],[none]⟩) (Ny 0 (.inr kr) ⟨.inl rfl,trivial⟩ ⟨⟨.e0,kr,QC⟩,⟨.j 0,kr,.inl rfl⟩,⟨.j 7,kr,.inl rfl⟩,trivial⟩) (Al [] trivial ⟨lv,lv,lv,trivial⟩)))),.inr rfl,[.sl 5 ([].map AA.enc),.j 0,.j 7],kr,kr⟩
 ·rw [BH hb1] at h
  refine AX ?_;refine AF ?_;obtain ⟨v2,hv2,h⟩:=OB h
  let p3:Nat×AV:=(6,.b v2.2)
  let p4:Nat×AV:=(5,.sl 1 (v2.1.map cdS.enc))
  refine AI (s1:=⟨Fr 73 [p4,p3],[]⟩) ?_ ?_
  ·refine AC (n:=73) AD 1 [(18,.st x0)] [] kr ?_
   refine Af (caps:=[]) (xs:=[.st x0]) (u:=(x0,())) rfl rfl Oi rfl (AB rfl) kr kr (Ah (A2 (c:=cdS) (v:=x0)) BZ) (.inr kr) hv2 ?_;exact Ak AD
  refine AT AD [p4,p3,(7,.e0)] [] ?_;refine AF ?_
  let p5:Nat×AV:=(8,.j 0)
  refine AT AD [p4,p3,(7,.e0),p5] [] ?_;refine A0 ?_;obtain ⟨r23,hr23,h⟩:=OB h;refine DO (n:=100000) ?_;rcases r23 with w24 | w25
  ·try dsimp only at h
   refine BX (A9 (s1:=⟨Fr 73 [p4,p3,(7,hd 0 ([].map AA.enc)),p5],[mk 5 66 ([].map AA.enc)]⟩) (Wk.trans (s1:=⟨Fr 73 [p4,p3,(7,hd 0 ([].map AA.enc)),p5],[mk 5 66 ([].map AA.enc)]⟩) Wk.none (Al [0] ⟨⟨_,rfl,Py⟩,trivial⟩ ⟨lv,lv,lv,lv,trivial⟩)) (G4 v2 _ [] 0 _ hr23)) ?_
   let p6:Nat×AV:=(4,.j 0)
   let p7:Nat×AV:=(3,.j 0)
   refine AT AD [(2,hd 0 (w24.map AA.enc)),p7,p6] [mk 5 66 (w24.map AA.enc)] ?_;refine AU ?_;have hq:=OI h; subst hq;exact ⟨⟨Fr 73 [(2,.sl 5 (w24.map AA.enc)),p7,p6],[]⟩,(Wk.trans (s1:=⟨Fr 73 [(2,.sl 5 (w24.map AA.enc)),p7,p6],[none]⟩) (Ny 0 (.inl kr) ⟨.inl rfl,trivial⟩ ⟨⟨hd 0 (w24.map AA.enc),kr,VM (t:=66) kr SD⟩,⟨.j 0,kr,.inl rfl⟩,⟨.j 0,kr,.inl rfl⟩,trivial⟩) (Al [] trivial ⟨lv,lv,lv,trivial⟩)),.inr rfl,[.sl 5 (w24.map AA.enc),.j 0,.j 0],kr,kr⟩
  ·try dsimp only at h
   refine BX (A9 (s1:=⟨Fr 73 [p4,p3,(7,hd 0 ([].map AA.enc)),p5],[mk 5 66 ([].map AA.enc)]⟩) (Wk.trans (s1:=⟨Fr 73 [p4,p3,(7,hd 0 ([].map AA.enc)),p5],[mk 5 66 ([].map AA.enc)]⟩) Wk.none (Al [0] ⟨⟨_,rfl,Py⟩,trivial⟩ ⟨lv,lv,lv,lv,trivial⟩)) (G4 v2 _ [] 0 _ hr23)) ?_;have hq:=OI h; subst hq
   let p8:Nat×AV:=(4,.j w25.2)
   let p9:Nat×AV:=(3,.j w25.1)
   exact ⟨⟨Fr 73 [(2,.sl 5 ([].map AA.enc)),p9,p8],[]⟩,(Wk.trans (s1:=⟨Fr 73 [(2,.e0),p9,p8],[]⟩) AM (Wk.trans (s1:=⟨Fr 73 [(2,.e0),p9,p8],[none]⟩) Wk.none (Wk.trans (s1:=⟨Fr 73 [(2,.sl 5 ([].map AA.enc)),p9,p8],[none]⟩) (Ny 0 (.inr kr) ⟨.inl rfl,trivial⟩ ⟨⟨.e0,kr,QC⟩,⟨.j w25.1,kr,.inl rfl⟩,⟨.j w25.2,kr,.inl rfl⟩,trivial⟩) (Al [] trivial ⟨lv,lv,lv,trivial⟩)))),.inr rfl,[.sl 5 ([].map AA.enc),.j w25.1,.j w25.2],kr,kr⟩
def My:List AV->Option AV:=Ea Gj (fun a=>DV a.1) Gm
theorem M8:XOk 20 My:=by
 refine Ap Tryz.func20 (c:=Gh) ?h2 ⟨Tryz.call20⟩ Gj (fun a=>DV a.1) Gm (fun a=>(by show 1<=73; decide)) ?h3 ?h4
 case h2=>kernel_rfl
 case h3=>intro b; kernel_rfl
 case h4=>exact fun a b h=>LM a.1 b h
/- slices.Equal[[]string,string] -/
noncomputable def CQ:Code:=Bc Tryz.f75
def BR (x0:(List (List UInt8))) (x1:(List (List UInt8))):Nat->Int->Option ((Unit) ⊕ (Bool))
 | 0,_=>none
 | f + 1,c2 =>
  if (decide (c2 < (x0.length:Int)))=true then
  (idx x0 c2).bind fun v4 =>
  (idx x1 c2).bind fun v5 =>
  if (!(v4==v5))=true then
  some (.inr false)
  else
  BR x0 x1 f (wr .i64 (c2 + 1))
  else
  some (.inl ())
def A8 (x0:(List (List UInt8))) (x1:(List (List UInt8))):Option (Bool) :=
 if ((x0.length:Int)!=(x1.length:Int))=true then
 some false
 else
 (BR x0 x1 100000 0).bind fun r8 =>
 match r8 with
 | (.inl w9) =>
  some true
 | (.inr w10) =>
  some w10
def CT:Cs ((List (List UInt8))×(List (List UInt8))×Unit):=(csC (cdL 1 cdS) (csC (cdL 1 cdS) csN))
def CV (r:Bool):AV:=cdB.enc r
theorem C6 (x0:(List (List UInt8))) (x1:(List (List UInt8))):∀ (f:Nat) (c2:Int) (r:(Unit) ⊕ (Bool)),BR x0 x1 f c2=some r->SemN E0 ⟨none,false⟩ (pc CQ [1,1,0,1,0,0]) f ⟨Fr 26 [(0,.sl 1 (x0.map cdS.enc)),(1,.sl 1 (x1.map cdS.enc)),(12,.j (x0.length:Int)),(13,.j c2)],[]⟩ (fun e s=>match r with
 | (.inl w)=>e=(.exit 0)/\Wk E0 s ⟨Fr 26 [],[]⟩
 | (.inr w)=>e = .ret/\Wk E0 s ⟨Fr 26 [(4,.b w)],[]⟩):=by
 intro f;induction f with
 | zero=>intro c2 r h; cases h
 | succ f ih0 =>
  intro c2 r h
  have ih:=fun (c2:Int)=>ih0 c2 r
  unfold BR at h;refine Cl ?_
  let p1:Nat×AV:=(13,.j c2)
  let p2:Nat×AV:=(12,.j (x0.length:Int))
  let p3:Nat×AV:=(1,.sl 1 (x1.map cdS.enc))
  let p4:Nat×AV:=(0,.sl 1 (x0.map cdS.enc))
  refine AT AD [p4,p3,p2,p1,(14,.b (decide (c2 < (x0.length:Int))))] [] ?_;refine AF ?_;refine AP (b:=(decide (c2 < (x0.length:Int)))) kr (fun hb3=>?_) (fun hb3=>?_)
  ·rw [if_pos hb3] at h
   refine AX ?_;refine AF ?_;refine A0 ?_;refine AT AD [p4,p3,(5,.j c2),p2,p1] [] ?_;refine AF ?_;obtain ⟨v4,hv4,h⟩:=OB h;obtain ⟨v5,hv5,h⟩:=OB h;refine Hu AD (s1:=⟨Fr 26 [p4,p3,p2,p1,(24,.b (!(v4==v5)))],[]⟩) kr ?_ ?_
   ·refine BT (n:=26) AD 2 [p4,p3,(5,.j c2),p2,p1,(16,.sl 1 (x0.map cdS.enc)),(17,.j c2)] [] kr kr ?_
    refine RunDS.one AD rfl kr (KZ kr (AB rfl) rfl (Ad (a:= .sl 1 (x0.map cdS.enc)) (b:= .j c2) kr kr (Dn (e:=cdS.enc) (el:=9) (k:=1) (ki:= .i64) kr kr hv4)) kr) ?_;refine BT (n:=26) AD 3 [p4,p3,p2,p1,(19,.st v4),(20,.sl 1 (x1.map cdS.enc)),(21,.j c2)] [] kr kr ?_;refine RunDS.one AD rfl kr (KZ kr (AB rfl) rfl (Ad (a:= .sl 1 (x1.map cdS.enc)) (b:= .j c2) kr kr (Dn (e:=cdS.enc) (el:=9) (k:=1) (ki:= .i64) kr kr hv5)) kr) ?_;refine BT (n:=26) AD 2 [p4,p3,p2,p1,(24,.b (!(v4==v5)))] [] kr kr ?_;exact RunDS.done rfl AM
   refine AP (b:=(!(v4==v5))) kr (fun hb6=>?_) (fun hb6=>?_)
   ·rw [if_pos hb6] at h
    refine AT AD [(4,.b false)] [] ?_;refine AU ?_;have hq:=OI h; subst hq;exact ⟨rfl,AM⟩
   ·rw [BH hb6] at h
    refine AX ?_
    let p5:Nat×AV:=(13,.j (wr .i64 (c2 + 1)))
    refine DH AD [p4,p3,p2,p5] [] ?_;exact A9 (s1:=⟨Fr 26 [p4,p3,p2,p5],[]⟩) AM (ih (wr .i64 (c2 + 1)) h)
  ·rw [BH hb3] at h
   refine DN ?_;have hq:=OI h; subst hq;exact ⟨rfl,AM⟩
theorem FC (x0:(List (List UInt8))) (x1:(List (List UInt8))) (r:Bool) (h:A8 x0 x1=some r):Sem E0 ⟨none,false⟩ CQ ⟨Fr 26 (BF 0 (CT.enc (x0,x1,()))),[]⟩ fun e s'=>(e = .normal\/e = .ret)/\∃ xs,Dk E0.P s'.fr s'.hp Tryz.f75.results.toList=some xs/\EB xs=CV r:=by
 unfold A8 at h
 let p1:Nat×AV:=(1,.sl 1 (x1.map cdS.enc))
 let p2:Nat×AV:=(0,.sl 1 (x0.map cdS.enc))
 refine Bm (Cg (s1:=⟨Fr 26 [p2,p1],[]⟩) AM ?_);refine AT AD [p2,p1] [] ?_;refine AF ?_;refine AF ?_;refine AI (s1:=⟨Fr 26 [p2,p1,(10,.b ((x0.length:Int)!=(x1.length:Int)))],[]⟩) ?_ ?_
 ·refine AC (n:=26) AD 1 [p2,p1,(6,.sl 1 (x0.map cdS.enc))] [] kr ?_
  refine AW AD 0 rfl (BY (AB rfl) rfl (ET (a:= .sl 1 (x0.map cdS.enc)) kr (C5 (el:=9) kr))) ?_;refine AC (n:=26) AD 1 [p2,p1,(7,.j (x0.length:Int)),(8,.sl 1 (x1.map cdS.enc))] [] kr ?_;refine AW AD 0 rfl (BY (AB rfl) rfl (ET (a:= .sl 1 (x1.map cdS.enc)) kr (C5 (el:=9) kr))) ?_;exact Ak AD
 refine AP (b:=((x0.length:Int)!=(x1.length:Int))) kr (fun hb1=>?_) (fun hb1=>?_)
 ·rw [if_pos hb1] at h
  refine AT AD [(4,.b false)] [] ?_;refine AU ?_;have hq:=OI h; subst hq;exact ⟨⟨Fr 26 [(4,.b false)],[]⟩,AM,.inr rfl,[.b false],kr,kr⟩
 ·rw [BH hb1] at h
  refine AX ?_;refine AF ?_;refine AF ?_
  let p3:Nat×AV:=(13,.j 0)
  let p4:Nat×AV:=(12,.j (x0.length:Int))
  refine AI (s1:=⟨Fr 26 [p2,p1,p4,p3],[]⟩) ?_ ?_
  ·refine AC (n:=26) AD 1 [p2,p1,(11,.sl 1 (x0.map cdS.enc))] [] kr ?_
   refine AW AD 0 rfl (BY (AB rfl) rfl (ET (a:= .sl 1 (x0.map cdS.enc)) kr (C5 (el:=9) kr))) ?_;exact Ak AD
  refine A0 ?_;obtain ⟨r8,hr8,h⟩:=OB h;refine DO (n:=100000) ?_;rcases r8 with w9 | w10
  ·try dsimp only at h
   refine BX (A9 (s1:=⟨Fr 26 [p2,p1,p4,p3],[]⟩) AM (C6 x0 x1 _ 0 _ hr8)) ?_;refine AT AD [(4,.b true)] [] ?_;refine AU ?_;have hq:=OI h; subst hq;exact ⟨⟨Fr 26 [(4,.b true)],[]⟩,AM,.inr rfl,[.b true],kr,kr⟩
  ·try dsimp only at h
   refine BX (A9 (s1:=⟨Fr 26 [p2,p1,p4,p3],[]⟩) AM (C6 x0 x1 _ 0 _ hr8)) ?_;have hq:=OI h; subst hq;exact ⟨⟨Fr 26 [(4,.b w10)],[]⟩,AM,.inr rfl,[.b w10],kr,kr⟩
def FZ:List AV->Option AV:=Ea CT (fun a=>A8 a.1 a.2.1) CV
theorem Fc:XOk 75 FZ:=by
 refine Ap Tryz.func75 (c:=CQ) ?h2 ⟨Tryz.call75⟩ CT (fun a=>A8 a.1 a.2.1) CV (fun a=>(by show 2<=26; decide)) ?h3 ?h4
 case h2=>kernel_rfl
 case h3=>intro b; kernel_rfl
 case h4=>exact fun a b h=>FC a.1 a.2.1 b h
/- trestle/trestlelaw03.SameClause -/
noncomputable def Fk:Code:=Bc Tryz.f38
def B5 (x0:AJ) (x1:AJ):Option (Bool) :=
 (if (x0.1==x1.1)=true then if (x0.2.1==x1.2.1)=true then if (x0.2.2.1==x1.2.2.1)=true then if (x0.2.2.2.2==x1.2.2.2.2)=true then (A8 x0.2.2.2.1 x1.2.2.2.1).bind fun v1 =>
 some v1 else some false else some false else some false else some false).bind fun j3 =>
 some j3
def D1:Cs (AJ×AJ×Unit):=(csC AA (csC AA csN))
def D3 (r:Bool):AV:=cdB.enc r
theorem If (x0:AJ) (x1:AJ) (r:Bool) (h:B5 x0 x1=some r):Sem E0 ⟨none,false⟩ Fk ⟨Fr 38 (BF 0 (D1.enc (x0,x1,()))),[]⟩ fun e s'=>(e = .normal\/e = .ret)/\∃ xs,Dk E0.P s'.fr s'.hp Tryz.f38.results.toList=some xs/\EB xs=D3 r:=by
 unfold B5 at h;refine Bm (Cg (s1:=⟨Fr 38 [(0,AA.enc x0),(1,AA.enc x1)],[]⟩) AM ?_);refine AT AD [(2,.pt 0 0 0),(3,.pt 1 0 0)] [some ⟨5,66,[AA.enc x0],false⟩,some ⟨5,66,[AA.enc x1],false⟩] ?_;refine AF ?_;obtain ⟨j3,hj3,h⟩:=OB h;refine AI (s1:=⟨Fr 38 [(4,.b j3)],[]⟩) ?_ ?_
 ·refine AC (n:=38) AD 6 [(2,.pt 0 0 0),(3,.pt 1 0 0),(10,.b (x0.1==x1.1))] [some ⟨5,66,[AA.enc x0],false⟩,some ⟨5,66,[AA.enc x1],false⟩] kr ?_
  rcases BE (x0.1==x1.1) with hc4 | hc4
  ·rw [if_pos hc4] at hj3
   rw [hc4];refine AC (n:=38) AD 7 [(2,.pt 0 0 0),(3,.pt 1 0 0),(17,.b (x0.2.1==x1.2.1))] [some ⟨5,66,[AA.enc x0],false⟩,some ⟨5,66,[AA.enc x1],false⟩] kr ?_;rcases BE (x0.2.1==x1.2.1) with hc5 | hc5
   ·rw [if_pos hc5] at hj3
    rw [hc5];refine AC (n:=38) AD 7 [(2,.pt 0 0 0),(3,.pt 1 0 0),(24,.b (x0.2.2.1==x1.2.2.1))] [some ⟨5,66,[AA.enc x0],false⟩,some ⟨5,66,[AA.enc x1],false⟩] kr ?_;rcases BE (x0.2.2.1==x1.2.2.1) with hc6 | hc6
    ·rw [if_pos hc6] at hj3
     rw [hc6];refine AC (n:=38) AD 7 [(2,.pt 0 0 0),(3,.pt 1 0 0),(31,.b (x0.2.2.2.2==x1.2.2.2.2))] [some ⟨5,66,[AA.enc x0],false⟩,some ⟨5,66,[AA.enc x1],false⟩] kr ?_;rcases BE (x0.2.2.2.2==x1.2.2.2.2) with hc7 | hc7
     ·rw [if_pos hc7] at hj3
      rw [hc7];refine AC (n:=38) AD 4 [(31,.b true),(33,.sl 1 (x0.2.2.2.1.map cdS.enc)),(35,.sl 1 (x1.2.2.2.1.map cdS.enc))] [some ⟨5,66,[AA.enc x0],false⟩,some ⟨5,66,[AA.enc x1],false⟩] kr ?_;obtain ⟨v1,hv1,hj3⟩:=OB hj3;refine Af (caps:=[]) (xs:=[.sl 1 (x0.2.2.2.1.map cdS.enc),.sl 1 (x1.2.2.2.1.map cdS.enc)]) (u:=(x0.2.2.2.1,x1.2.2.2.1,())) rfl rfl Fc rfl kr kr kr (Ah (A2 (c:=(cdL 1 cdS)) (v:=x0.2.2.2.1)) (Ah (A2 (c:=(cdL 1 cdS)) (v:=x1.2.2.2.1)) BZ)) (.inl kr) hv1 ?_;refine AC (n:=38) AD 2 [(4,.b v1)] [some ⟨5,66,[AA.enc x0],false⟩,some ⟨5,66,[AA.enc x1],false⟩] kr ?_;have hq:=OI hj3; subst hq;exact AE rfl (Al [] trivial ⟨lv,trivial⟩)
     ·rw [BH hc7] at hj3
      rw [hc7];refine AC (n:=38) AD 7 [(4,.b false)] [some ⟨5,66,[AA.enc x0],false⟩,some ⟨5,66,[AA.enc x1],false⟩] kr ?_;have hq:=OI hj3; subst hq;exact AE rfl (Al [] trivial ⟨lv,trivial⟩)
    ·rw [BH hc6] at hj3
     rw [hc6];refine AC (n:=38) AD 14 [(4,.b false)] [some ⟨5,66,[AA.enc x0],false⟩,some ⟨5,66,[AA.enc x1],false⟩] kr ?_;have hq:=OI hj3; subst hq;exact AE rfl (Al [] trivial ⟨lv,trivial⟩)
   ·rw [BH hc5] at hj3
    rw [hc5];refine AC (n:=38) AD 21 [(4,.b false)] [some ⟨5,66,[AA.enc x0],false⟩,some ⟨5,66,[AA.enc x1],false⟩] kr ?_;have hq:=OI hj3; subst hq;exact AE rfl (Al [] trivial ⟨lv,trivial⟩)
  ·rw [BH hc4] at hj3
   rw [hc4];refine AC (n:=38) AD 28 [(4,.b false)] [some ⟨5,66,[AA.enc x0],false⟩,some ⟨5,66,[AA.enc x1],false⟩] kr ?_;have hq:=OI hj3; subst hq;exact AE rfl (Al [] trivial ⟨lv,trivial⟩)
 refine AU ?_;have hq:=OI h; subst hq;exact ⟨⟨Fr 38 [(4,.b j3)],[]⟩,AM,.inr rfl,[.b j3],kr,kr⟩
def Jk:List AV->Option AV:=Ea D1 (fun a=>B5 a.1 a.2.1) D3
theorem Js:XOk 38 Jk:=by
 refine Ap Tryz.func38 (c:=Fk) ?h2 ⟨Tryz.call38⟩ D1 (fun a=>B5 a.1 a.2.1) D3 (fun a=>(by show 2<=38; decide)) ?h3 ?h4
 case h2=>kernel_rfl
 case h3=>intro b; kernel_rfl
 case h4=>exact fun a b h=>If a.1 a.2.1 b h
/- slices.EqualFunc[[]trestle/api.Clause,[]trestle/api.Clause,trestle/api.Clause,trestle/api.Clause] -/
noncomputable def Aa:Code:=Bc Tryz.f37
def AN (x0:(List AJ)) (x1:(List AJ)):Nat->Int->Option ((Unit) ⊕ (Bool))
 | 0,_=>none
 | f + 1,c2 =>
  if (decide (c2 < (x0.length:Int)))=true then
  (idx x0 c2).bind fun v4 =>
  (idx x1 c2).bind fun v5 =>
  (B5 v4 v5).bind fun v6 =>
  if (!v6)=true then
  some (.inr false)
  else
  AN x0 x1 f (wr .i64 (c2 + 1))
  else
  some (.inl ())
def AK (x0:(List AJ)) (x1:(List AJ)):Option (Bool) :=
 if ((x0.length:Int)!=(x1.length:Int))=true then
 some false
 else
 (AN x0 x1 100000 0).bind fun r9 =>
 match r9 with
 | (.inl w10) =>
  some true
 | (.inr w11) =>
  some w11
def Ab:Cs ((List AJ)×(List AJ)×Unit×Unit):=(csC (cdL 5 AA) (csC (cdL 5 AA) (csC (cdF 38 csN (fun _=>rfl)) csN)))
def Ac (r:Bool):AV:=cdB.enc r
theorem Am (x0:(List AJ)) (x1:(List AJ)):∀ (f:Nat) (c2:Int) (r:(Unit) ⊕ (Bool)),AN x0 x1 f c2=some r->SemN E0 ⟨none,false⟩ (pc Aa [1,1,0,1,0,0]) f ⟨Fr 32 [(1,.sl 5 (x1.map AA.enc)),(2,.fn 38 [] []),(15,.sl 5 (x0.map AA.enc)),(16,.j (x0.length:Int)),(17,.j c2)],[]⟩ (fun e s=>match r with
 | (.inl w)=>e=(.exit 0)/\Wk E0 s ⟨Fr 32 [],[]⟩
 | (.inr w)=>e = .ret/\Wk E0 s ⟨Fr 32 [(6,.b w)],[]⟩):=by
 intro f;induction f with
 | zero=>intro c2 r h; cases h
 | succ f ih0 =>
  intro c2 r h
  have ih:=fun (c2:Int)=>ih0 c2 r
  unfold AN at h;refine Cl ?_
  let p1:Nat×AV:=(17,.j c2)
  let p2:Nat×AV:=(16,.j (x0.length:Int))
  let p3:Nat×AV:=(15,.sl 5 (x0.map AA.enc))
  let p4:Nat×AV:=(2,.fn 38 [] [])
  let p5:Nat×AV:=(1,.sl 5 (x1.map AA.enc))
  refine AT AD [p5,p4,p3,p2,p1,(18,.b (decide (c2 < (x0.length:Int))))] [] ?_;refine AF ?_;refine AP (b:=(decide (c2 < (x0.length:Int)))) kr (fun hb3=>?_) (fun hb3=>?_)
  ·rw [if_pos hb3] at h
   refine AX ?_;refine AF ?_;refine A0 ?_;refine AF ?_;obtain ⟨v4,hv4,h⟩:=OB h
   let p6:Option Blk:=some ⟨5,66,[AA.enc v4],false⟩
   refine AI (s1:=⟨Fr 32 [p5,p4,(7,.j c2),(8,.pt 0 0 0),p3,p2,p1],[p6]⟩) ?_ ?_
   ·refine AC (n:=32) AD 1 [p5,p4,p3,p2,p1,(19,.j c2)] [] kr ?_
    refine AW AD 0 rfl (BY (AB rfl) rfl (Ad (a:= .sl 5 (x0.map AA.enc)) (b:= .j c2) kr kr (Dn (e:=AA.enc) (el:=66) (k:=5) (ki:= .i64) kr kr hv4))) ?_;exact Ak AD
   refine AF ?_;obtain ⟨v5,hv5,h⟩:=OB h
   let p7:Option Blk:=some ⟨5,66,[AA.enc v5],false⟩
   refine AI (s1:=⟨Fr 32 [p5,p4,(8,.pt 0 0 0),(9,.pt 1 0 0),p3,p2,p1],[p6,p7]⟩) ?_ ?_
   ·refine AC (n:=32) AD 2 [p5,p4,(8,.pt 0 0 0),p3,p2,p1,(22,.sl 5 (x1.map AA.enc)),(23,.j c2)] [p6] kr ?_
    refine AW AD 0 rfl (BY (AB rfl) rfl (Ad (a:= .sl 5 (x1.map AA.enc)) (b:= .j c2) kr kr (Dn (e:=AA.enc) (el:=66) (k:=5) (ki:= .i64) kr kr hv5))) ?_;exact Ak AD
   refine AF ?_;obtain ⟨v6,hv6,h⟩:=OB h;refine AI (s1:=⟨Fr 32 [p5,p4,p3,p2,p1,(30,.b (!v6))],[]⟩) ?_ ?_
   ·refine AC (n:=32) AD 3 [p5,p4,p3,p2,p1,(26,.fn 38 [] []),(27,AA.enc v4),(28,AA.enc v5)] [p6,p7] kr ?_
    refine Af (caps:=[]) (xs:=[AA.enc v4,AA.enc v5]) (u:=(v4,v5,())) rfl rfl Js rfl (AB rfl) kr kr (Ah (A2 (c:=AA) (v:=v4)) (Ah (A2 (c:=AA) (v:=v5)) BZ)) (.inl kr) hv6 ?_;refine AC (n:=32) AD 1 [p5,p4,p3,p2,p1,(30,.b (!v6))] [p6,p7] kr ?_;exact AE rfl (Al [] trivial ⟨lv,lv,lv,lv,lv,lv,trivial⟩)
   refine AP (b:=(!v6)) kr (fun hb7=>?_) (fun hb7=>?_)
   ·rw [if_pos hb7] at h
    refine AT AD [(6,.b false)] [] ?_;refine AU ?_;have hq:=OI h; subst hq;exact ⟨rfl,AM⟩
   ·rw [BH hb7] at h
    refine AX ?_
    let p8:Nat×AV:=(17,.j (wr .i64 (c2 + 1)))
    refine DH AD [p5,p4,p3,p2,p8] [] ?_;exact A9 (s1:=⟨Fr 32 [p5,p4,p3,p2,p8],[]⟩) AM (ih (wr .i64 (c2 + 1)) h)
  ·rw [BH hb3] at h
   refine DN ?_;have hq:=OI h; subst hq;exact ⟨rfl,AM⟩
theorem BP (x0:(List AJ)) (x1:(List AJ)) (r:Bool) (h:AK x0 x1=some r):Sem E0 ⟨none,false⟩ Aa ⟨Fr 32 (BF 0 (Ab.enc (x0,x1,(),()))),[]⟩ fun e s'=>(e = .normal\/e = .ret)/\∃ xs,Dk E0.P s'.fr s'.hp Tryz.f37.results.toList=some xs/\EB xs=Ac r:=by
 unfold AK at h
 let p1:Nat×AV:=(2,.fn 38 [] [])
 let p2:Nat×AV:=(1,.sl 5 (x1.map AA.enc))
 let p3:Nat×AV:=(0,.sl 5 (x0.map AA.enc))
 refine Bm (Cg (s1:=⟨Fr 32 [p3,p2,p1],[]⟩) AM ?_);refine AT AD [p3,p2,p1] [] ?_;refine AF ?_;refine AF ?_;refine AI (s1:=⟨Fr 32 [p3,p2,p1,(14,.b ((x0.length:Int)!=(x1.length:Int)))],[]⟩) ?_ ?_
 ·refine AC (n:=32) AD 1 [p3,p2,p1,(10,.sl 5 (x0.map AA.enc))] [] kr ?_
  refine AW AD 0 rfl (BY (AB rfl) rfl (ET (a:= .sl 5 (x0.map AA.enc)) kr (C5 (el:=66) kr))) ?_;refine AC (n:=32) AD 1 [p3,p2,p1,(11,.j (x0.length:Int)),(12,.sl 5 (x1.map AA.enc))] [] kr ?_;refine AW AD 0 rfl (BY (AB rfl) rfl (ET (a:= .sl 5 (x1.map AA.enc)) kr (C5 (el:=66) kr))) ?_;exact Ak AD
 refine AP (b:=((x0.length:Int)!=(x1.length:Int))) kr (fun hb1=>?_) (fun hb1=>?_)
 ·rw [if_pos hb1] at h
  refine AT AD [(6,.b false)] [] ?_;refine AU ?_;have hq:=OI h; subst hq;exact ⟨⟨Fr 32 [(6,.b false)],[]⟩,AM,.inr rfl,[.b false],kr,kr⟩
 ·rw [BH hb1] at h
  refine AX ?_;refine AF ?_;refine AF ?_
  let p4:Nat×AV:=(17,.j 0)
  let p5:Nat×AV:=(16,.j (x0.length:Int))
  let p6:Nat×AV:=(15,.sl 5 (x0.map AA.enc))
  refine AI (s1:=⟨Fr 32 [p2,p1,p6,p5,p4],[]⟩) ?_ ?_
  ·refine AC (n:=32) AD 1 [p2,p1,p6] [] kr ?_
   refine AW AD 0 rfl (BY (AB rfl) rfl (ET (a:= .sl 5 (x0.map AA.enc)) kr (C5 (el:=66) kr))) ?_;exact Ak AD
  refine A0 ?_;obtain ⟨r9,hr9,h⟩:=OB h;refine DO (n:=100000) ?_;rcases r9 with w10 | w11
  ·try dsimp only at h
   refine BX (A9 (s1:=⟨Fr 32 [p2,p1,p6,p5,p4],[]⟩) AM (Am x0 x1 _ 0 _ hr9)) ?_;refine AT AD [(6,.b true)] [] ?_;refine AU ?_;have hq:=OI h; subst hq;exact ⟨⟨Fr 32 [(6,.b true)],[]⟩,AM,.inr rfl,[.b true],kr,kr⟩
  ·try dsimp only at h
   refine BX (A9 (s1:=⟨Fr 32 [p2,p1,p6,p5,p4],[]⟩) AM (Am x0 x1 _ 0 _ hr9)) ?_;have hq:=OI h; subst hq;exact ⟨⟨Fr 32 [(6,.b w11)],[]⟩,AM,.inr rfl,[.b w11],kr,kr⟩
def BU:List AV->Option AV:=Ea Ab (fun a=>AK a.1 a.2.1) Ac
theorem BV:XOk 37 BU:=by
 refine Ap Tryz.func37 (c:=Aa) ?h2 ⟨Tryz.call37⟩ Ab (fun a=>AK a.1 a.2.1) Ac (fun a=>(by show 3<=32; decide)) ?h3 ?h4
 case h2=>kernel_rfl
 case h3=>intro b; kernel_rfl
 case h4=>exact fun a b h=>BP a.1 a.2.1 b h
/- trestle/trestlelaw03.Same -/
noncomputable def JH:Code:=Bc Tryz.f12
def El (x0:(List AJ)) (x1:(List AJ)):Option (Bool) :=
 (AK x0 x1).bind fun v1 =>
 some v1
def HI:Cs ((List AJ)×(List AJ)×Unit):=(csC (cdL 5 AA) (csC (cdL 5 AA) csN))
def HN (r:Bool):AV:=cdB.enc r
theorem Lm (x0:(List AJ)) (x1:(List AJ)) (r:Bool) (h:El x0 x1=some r):Sem E0 ⟨none,false⟩ JH ⟨Fr 8 (BF 0 (HI.enc (x0,x1,()))),[]⟩ fun e s'=>(e = .normal\/e = .ret)/\∃ xs,Dk E0.P s'.fr s'.hp Tryz.f12.results.toList=some xs/\EB xs=HN r:=by
 unfold El at h
 let p1:Nat×AV:=(1,.sl 5 (x1.map AA.enc))
 let p2:Nat×AV:=(0,.sl 5 (x0.map AA.enc))
 refine Bm (Cg (s1:=⟨Fr 8 [p2,p1],[]⟩) AM ?_);refine AT AD [p2,p1] [] ?_;refine AF ?_;obtain ⟨v1,hv1,h⟩:=OB h;refine AI (s1:=⟨Fr 8 [(4,.b v1)],[]⟩) ?_ ?_
 ·refine AC (n:=8) AD 2 [(5,.sl 5 (x0.map AA.enc)),(6,.sl 5 (x1.map AA.enc))] [] kr ?_
  refine Af (caps:=[]) (xs:=[.sl 5 (x0.map AA.enc),.sl 5 (x1.map AA.enc),.fn 38 [] []]) (u:=(x0,x1,(),())) rfl rfl BV rfl (AB rfl) kr kr (Ah (A2 (c:=(cdL 5 AA)) (v:=x0)) (Ah (A2 (c:=(cdL 5 AA)) (v:=x1)) (Ah (Sm.fn BZ) BZ))) (.inl kr) hv1 ?_;exact Ak AD
 refine AU ?_;have hq:=OI h; subst hq;exact ⟨⟨Fr 8 [(4,.b v1)],[]⟩,AM,.inr rfl,[.b v1],kr,kr⟩
def Ni:List AV->Option AV:=Ea HI (fun a=>El a.1 a.2.1) HN
theorem Ns:XOk 12 Ni:=by
 refine Ap Tryz.func12 (c:=JH) ?h2 ⟨Tryz.call12⟩ HI (fun a=>El a.1 a.2.1) HN (fun a=>(by show 2<=8; decide)) ?h3 ?h4
 case h2=>kernel_rfl
 case h3=>intro b; kernel_rfl
 case h4=>exact fun a b h=>Lm a.1 a.2.1 b h
/- trestle/trestlelaw03.parses -/
noncomputable def Hy:Code:=Bc Tryz.f7
def Cj (x0:(List UInt8)):Option (Bool) :=
 (De x0).bind fun v1 =>
 (DV x0).bind fun v2 =>
 (El v1.1 v2.1).bind fun v3 =>
 (if v3=true then if (v1.2.1==v2.2.1)=true then some (v1.2.2==v2.2.2) else some false else some false).bind fun j5 =>
 some j5
def Fq:Cs ((List UInt8)×Unit):=(csC cdS csN)
def Fv (r:Bool):AV:=cdB.enc r
theorem KY (x0:(List UInt8)) (r:Bool) (h:Cj x0=some r):Sem E0 ⟨none,false⟩ Hy ⟨Fr 34 (BF 0 (Fq.enc (x0,()))),[]⟩ fun e s'=>(e = .normal\/e = .ret)/\∃ xs,Dk E0.P s'.fr s'.hp Tryz.f7.results.toList=some xs/\EB xs=Fv r:=by
 unfold Cj at h;refine Bm (Cg (s1:=⟨Fr 34 [(0,.st x0)],[]⟩) AM ?_);refine AT AD [(0,.st x0)] [] ?_;refine AF ?_;obtain ⟨v1,hv1,h⟩:=OB h;refine AI (s1:=⟨Fr 34 [(0,.st x0),(3,.sl 5 (v1.1.map AA.enc)),(4,.j v1.2.1),(5,.j v1.2.2)],[]⟩) ?_ ?_
 ·refine AC (n:=34) AD 1 [(0,.st x0),(10,.st x0)] [] kr ?_
  refine Af (caps:=[]) (xs:=[.st x0]) (u:=(x0,())) rfl rfl M6 rfl (AB rfl) kr kr (Ah (A2 (c:=cdS) (v:=x0)) BZ) (.inr kr) hv1 ?_;exact Ak AD
 refine AF ?_;obtain ⟨v2,hv2,h⟩:=OB h;refine AI (s1:=⟨Fr 34 [(3,.sl 5 (v1.1.map AA.enc)),(4,.j v1.2.1),(5,.j v1.2.2),(6,.sl 5 (v2.1.map AA.enc)),(7,.j v2.2.1),(8,.j v2.2.2)],[]⟩) ?_ ?_
 ·refine AC (n:=34) AD 1 [(3,.sl 5 (v1.1.map AA.enc)),(4,.j v1.2.1),(5,.j v1.2.2),(16,.st x0)] [] kr ?_
  refine Af (caps:=[]) (xs:=[.st x0]) (u:=(x0,())) rfl rfl M8 rfl (AB rfl) kr kr (Ah (A2 (c:=cdS) (v:=x0)) BZ) (.inr kr) hv2 ?_;exact Ak AD
 refine AF ?_;obtain ⟨v3,hv3,h⟩:=OB h;obtain ⟨j5,hj5,h⟩:=OB h;refine AI (s1:=⟨Fr 34 [(2,.b j5)],[]⟩) ?_ ?_
 ·refine AC (n:=34) AD 2 [(4,.j v1.2.1),(5,.j v1.2.2),(7,.j v2.2.1),(8,.j v2.2.2),(21,.sl 5 (v1.1.map AA.enc)),(22,.sl 5 (v2.1.map AA.enc))] [] kr ?_
  refine Af (caps:=[]) (xs:=[.sl 5 (v1.1.map AA.enc),.sl 5 (v2.1.map AA.enc)]) (u:=(v1.1,v2.1,())) rfl rfl Ns rfl (AB rfl) kr kr (Ah (A2 (c:=(cdL 5 AA)) (v:=v1.1)) (Ah (A2 (c:=(cdL 5 AA)) (v:=v2.1)) BZ)) (.inl kr) hv3 ?_;refine AC (n:=34) AD 1 [(4,.j v1.2.1),(5,.j v1.2.2),(7,.j v2.2.1),(8,.j v2.2.2),(24,.b v3)] [] kr ?_;rcases BE v3 with hc6 | hc6
  ·rw [if_pos hc6] at hj5
   rw [hc6];refine AC (n:=34) AD 5 [(5,.j v1.2.2),(8,.j v2.2.2),(29,.b (v1.2.1==v2.2.1))] [] kr ?_;rcases BE (v1.2.1==v2.2.1) with hc7 | hc7
   ·rw [if_pos hc7] at hj5
    rw [hc7];refine AC (n:=34) AD 5 [(2,.b (v1.2.2==v2.2.2))] [] kr ?_;have hq:=OI hj5; subst hq;exact AE rfl AM
   ·rw [BH hc7] at hj5
    rw [hc7];refine AC (n:=34) AD 5 [(2,.b false)] [] kr ?_;have hq:=OI hj5; subst hq;exact AE rfl AM
  ·rw [BH hc6] at hj5
   rw [hc6];refine AC (n:=34) AD 10 [(2,.b false)] [] kr ?_;have hq:=OI hj5; subst hq;exact AE rfl AM
 refine AU ?_;have hq:=OI h; subst hq;exact ⟨⟨Fr 34 [(2,.b j5)],[]⟩,AM,.inr rfl,[.b j5],kr,kr⟩
def Lt:List AV->Option AV:=Ea Fq (fun a=>Cj a.1) Fv
theorem Is:XOk 7 Lt:=by
 refine Ap Tryz.func7 (c:=Hy) ?h2 ⟨Tryz.call7⟩ Fq (fun a=>Cj a.1) Fv (fun a=>(by show 1<=34; decide)) ?h3 ?h4
 case h2=>kernel_rfl
 case h3=>intro b; kernel_rfl
 case h4=>exact fun a b h=>KY a.1 b h
/- trestle/trestlelaw03.CourtParses -/
noncomputable def FQ:Code:=Bc Tryz.f3
def CC (x0:(List UInt8)):Option (Bool) :=
 (if (decide ((x0.length:Int) > 3000))=true then if (decide ((x0.length:Int)<=65536))=true then HT.bind fun v1 =>
 some v1 else (Cj x0).bind fun v2 =>
 if v2=true then HT.bind fun v3 =>
 some v3 else some false else (Cj x0).bind fun v4 =>
 if v4=true then HT.bind fun v5 =>
 some v5 else some false).bind fun j7 =>
 some j7
def Cc:Cs ((List UInt8)×Unit):=(csC cdS csN)
def C8 (r:Bool):AV:=cdB.enc r
theorem IB (x0:(List UInt8)) (r:Bool) (h:CC x0=some r):Sem E0 ⟨none,false⟩ FQ ⟨Fr 18 (BF 0 (Cc.enc (x0,()))),[]⟩ fun e s'=>(e = .normal\/e = .ret)/\∃ xs,Dk E0.P s'.fr s'.hp Tryz.f3.results.toList=some xs/\EB xs=C8 r:=by
 unfold CC at h;refine Bm (Cg (s1:=⟨Fr 18 [(0,.st x0)],[]⟩) AM ?_);refine AT AD [(0,.st x0)] [] ?_;refine AF ?_;obtain ⟨j7,hj7,h⟩:=OB h;refine AI (s1:=⟨Fr 18 [(2,.b j7)],[]⟩) ?_ ?_
 ·refine AC (n:=18) AD 4 [(0,.st x0),(6,.b (decide ((x0.length:Int) > 3000)))] [] kr ?_
  rcases BE (decide ((x0.length:Int) > 3000)) with hc8 | hc8
  ·rw [if_pos hc8] at hj7
   rw [hc8];refine AC (n:=18) AD 5 [(0,.st x0),(11,.b (decide ((x0.length:Int)<=65536)))] [] kr ?_;rcases BE (decide ((x0.length:Int)<=65536)) with hc9 | hc9
   ·rw [if_pos hc9] at hj7
    rw [hc9];refine AC (n:=18) AD 4 [(15,.b true)] [] kr ?_;obtain ⟨v1,hv1,hj7⟩:=OB hj7;refine Af (caps:=[]) (xs:=[]) (u:=(())) rfl rfl He rfl kr kr kr BZ (.inl kr) hv1 ?_;refine AC (n:=18) AD 2 [(2,.b v1)] [] kr ?_;have hq:=OI hj7; subst hq;exact AE rfl AM
   ·rw [BH hc9] at hj7
    rw [hc9];refine AC (n:=18) AD 1 [(11,.b false),(12,.st x0)] [] kr ?_;obtain ⟨v2,hv2,hj7⟩:=OB hj7;refine Af (caps:=[]) (xs:=[.st x0]) (u:=(x0,())) rfl rfl Is rfl kr kr kr (Ah (A2 (c:=cdS) (v:=x0)) BZ) (.inl kr) hv2 ?_;refine AC (n:=18) AD 2 [(15,.b v2)] [] kr ?_;rcases BE v2 with hc10 | hc10
    ·rw [if_pos hc10] at hj7
     rw [hc10];obtain ⟨v3,hv3,hj7⟩:=OB hj7;refine Af (caps:=[]) (xs:=[]) (u:=(())) rfl rfl He rfl kr kr kr BZ (.inl kr) hv3 ?_;refine AC (n:=18) AD 2 [(2,.b v3)] [] kr ?_;have hq:=OI hj7; subst hq;exact AE rfl AM
    ·rw [BH hc10] at hj7
     rw [hc10];refine AC (n:=18) AD 3 [(2,.b false)] [] kr ?_;have hq:=OI hj7; subst hq;exact AE rfl AM
  ·rw [BH hc8] at hj7
   rw [hc8];refine AC (n:=18) AD 6 [(11,.b false),(12,.st x0)] [] kr ?_;obtain ⟨v4,hv4,hj7⟩:=OB hj7;refine Af (caps:=[]) (xs:=[.st x0]) (u:=(x0,())) rfl rfl Is rfl kr kr kr (Ah (A2 (c:=cdS) (v:=x0)) BZ) (.inl kr) hv4 ?_;refine AC (n:=18) AD 2 [(15,.b v4)] [] kr ?_;rcases BE v4 with hc11 | hc11
   ·rw [if_pos hc11] at hj7
    rw [hc11];obtain ⟨v5,hv5,hj7⟩:=OB hj7;refine Af (caps:=[]) (xs:=[]) (u:=(())) rfl rfl He rfl kr kr kr BZ (.inl kr) hv5 ?_;refine AC (n:=18) AD 2 [(2,.b v5)] [] kr ?_;have hq:=OI hj7; subst hq;exact AE rfl AM
   ·rw [BH hc11] at hj7
    rw [hc11];refine AC (n:=18) AD 3 [(2,.b false)] [] kr ?_;have hq:=OI hj7; subst hq;exact AE rfl AM
 refine AU ?_;have hq:=OI h; subst hq;exact ⟨⟨Fr 18 [(2,.b j7)],[]⟩,AM,.inr rfl,[.b j7],kr,kr⟩
def I8:List AV->Option AV:=Ea Cc (fun a=>CC a.1) C8
theorem JA:XOk 3 I8:=by
 refine Ap Tryz.func3 (c:=FQ) ?h2 ⟨Tryz.call3⟩ Cc (fun a=>CC a.1) C8 (fun a=>(by show 1<=18; decide)) ?h3 ?h4
 case h2=>kernel_rfl
 case h3=>intro b; kernel_rfl
 case h4=>exact fun a b h=>IB a.1 b h
theorem Ke {n:Int}(h1 : -9223372036854775808<=n) (h2:n<=9223372036854775807):wr .i64 n=n:=by
 show (if _ then n else _)=n
 rw [if_pos ⟨h1,h2⟩]
theorem Cu {α:Type}(pre:List α) (v:α) (r:List α):idx (pre++v::r) (pre.length:Int)=some v:=by
 unfold idx
 rw [if_pos (by omega)]
 simp
theorem Mu {α:Type}(pre:List α) (v:α):((pre.length:Int) + 1)=((pre++[v]).length:Int):=by simp
theorem Hd {α:Type}(pre:List α) (v:α) (r:List α) (h:(pre++v::r).length<=1000000000):wr .i64 ((pre.length:Int) + 1)=((pre++[v]).length:Int):=by
 simp at h
 rw [Ke (by omega) (by omega)]; simp
theorem KN {α:Type}(pre:List α) (v:α) (r:List α):decide ((pre.length:Int) < ((pre++v::r).length:Int))=true:=by
 simp; omega
theorem S5 {α:Type}(pre:List α):decide ((pre.length:Int) < ((pre++[]).length:Int))=false:=by simp
theorem IX {b n:Nat}(hb:b<=1000) (h:n<=1000000000):FX b n=true:=by
 have h1:n * b<=1000000000 * 1000:=Nat.mul_le_mul h hb
 unfold FX
 rw [Bool.and_eq_true]
 exact ⟨Nat.ble_eq_true_of_le (by omega),Nat.ble_eq_true_of_le (by omega)⟩
/-- A loop over a list: v, its index, the rest. -/
def goU {α ρ:Type}(B:α->Nat->Option ρ->Option ρ) (D:Option ρ):List α->Nat->Option ρ
 | [],_=>D
 | v::r,i=>B v i (goU B D r (i + 1))
theorem T9 {α ρ:Type}(xs:List α) (L:Nat->Int->Option ρ) (B:α->Nat->Option ρ->Option ρ) (D:Option ρ)
  (hs:∀ f (pre:List α) v r,xs=pre++v::r->L (f + 1) (pre.length:Int)=B v pre.length (L f (((pre++[v]).length:Nat):Int))) (hd:∀ f,L (f + 1) (xs.length:Int)=D) :
  ∀ (r pre:List α) (f:Nat),xs=pre++r->r.length < f->L f (pre.length:Int)=goU B D r pre.length
 | [],pre,f + 1,hx,_=>by
  rw [show pre.length=xs.length by rw [hx]; simp]
  exact hd f
 | v::r,pre,f + 1,hx,hf=>by
  rw [hs f pre v r hx]
  have:=T9 xs L B D hs hd r (pre++[v]) f (by rw [hx]; simp) (by simp at hf; omega)
  rw [this]
  show B v pre.length _=B v pre.length _
  congr 1
  simp
theorem KM {α ρ:Type}(xs:List α) (L:Nat->Int->Option ρ) (B:α->Nat->Option ρ->Option ρ) (D:Option ρ) (f:Nat) (hf:xs.length < f)
  (hs:∀ f (pre:List α) v r,xs=pre++v::r->L (f + 1) (pre.length:Int)=B v pre.length (L f (((pre++[v]).length:Nat):Int))) (hd:∀ f,L (f + 1) (xs.length:Int)=D):L f 0=goU B D xs 0 :=
 T9 xs L B D hs hd xs [] f rfl hf
/-- .. as it is printed. -/
theorem VV {α ρ:Type}(xs:List α) (L:Nat->Int->Option ρ) (B:α->Nat->Option ρ->Option ρ) (D:Option ρ) (f:Nat) (hf:xs.length < f) (hx:xs.length<=1000000)
  (h:∀ f c,L (f + 1) c=if decide (c < (xs.length:Int))=true then (idx xs c).bind fun v=>B v c.toNat (L f (wr .i64 (c + 1))) else D):L f 0=goU B D xs 0 :=
 KM xs L B D f hf (fun f pre v r e=>by
  subst e
  rw [h,if_pos (KN pre v r),Cu,OS,Hd pre v r (by omega),Int.toNat_natCast]) (fun f=>by rw [h,if_neg (by simp)])
/-- The first that meets a test. -/
theorem QF {α:Type}(P:α->Option Bool) (p:α->Bool):∀ (xs:List α) (i:Nat),(∀ x ∈ xs,P x=some (p x))->∃ r:Unit ⊕ Int,goU (fun v i k=>(P v).bind fun b=>if b=true then some (.inr (i:Int)) else k) (some (.inl ())) xs i=some r/\(match r with | .inl _=>xs.any p=false | .inr n=>xs.any p=true/\0<=n)
 | [],i,_=>⟨.inl (),rfl,rfl⟩
 | x::xs,i,h=>by
  unfold goU
  rw [h x (by simp),OS]
  cases hp:p x with
  | true=>exact ⟨.inr i,by simp,by simp [hp]⟩
  | false =>
   obtain ⟨r,h1,h2⟩:=QF P p xs (i + 1) fun y hy=>h y (List.mem_cons_of_mem _ hy)
   refine ⟨r,by simpa using h1,?_⟩
   cases r with
   | inl u=>simpa [hp] using h2
   | inr n=>simpa [hp] using h2
/-- slices.IndexFunc and slices.ContainsFunc. -/
theorem Pr {α:Type}(xs:List α) (hx:xs.length<=99999) (P:α->Option Bool) (p:α->Bool) (hP:∀ x ∈ xs,P x=some (p x)) (L:Nat->Int->Option (Unit ⊕ Int))
  (h:∀ f c,L (f + 1) c=if decide (c < (xs.length:Int))=true then (idx xs c).bind fun v=>(P v).bind fun b=>if b=true then some (.inr c) else L f (wr .i64 (c + 1)) else some (.inl ())) :
  ∃ n,((L 100000 0).bind fun r=>match r with | .inl _=>some (-1) | .inr w=>some w)=some n/\decide (n≥0)=xs.any p:=by
 have e:=KM xs L (fun v i k=>(P v).bind fun b=>if b=true then some (.inr (i:Int)) else k) (some (.inl ())) 100000 (by omega) (fun f pre v r e=>by
  subst e
  rw [h,if_pos (KN pre v r),Cu,OS,Hd pre v r (by omega)]) (fun f=>by rw [h,if_neg (by simp)])
 obtain ⟨r,h1,h2⟩:=QF P p xs 0 hP
 rw [e,h1]
 cases r with
 | inl u=>exact ⟨-1,rfl,by rw [h2]; rfl⟩
 | inr n=>exact ⟨n,rfl,by rw [h2.1]; simpa using h2.2⟩
/-- Two lists side by side. -/
def go2 {α β ρ:Type}(B:α->β->Option ρ->Option ρ) (D:Option ρ):List α->List β->Option ρ
 | v::r,u::q=>B v u (go2 B D r q)
 | _,_=>D
theorem T8 {α β ρ:Type}(L:Nat->Int->Option ρ) (B:α->β->Option ρ->Option ρ) (D:Option ρ) (xs:List α) (ys:List β) (hl:xs.length=ys.length) (hx:xs.length<=1000000)
  (h:∀ f c,L (f + 1) c=if decide (c < (xs.length:Int))=true then (idx xs c).bind fun v=>(idx ys c).bind fun u=>B v u (L f (wr .i64 (c + 1))) else D) :
  ∀ (r:List α) (q:List β) (pre:List α) (pre':List β) (f:Nat),xs=pre++r->ys=pre'++q->pre.length=pre'.length->r.length < f->L f (pre.length:Int)=go2 B D r q
 | [],q,pre,pre',f + 1,e1,e2,e3,_=>by
  have:q=[]:=by
   have:xs.length=pre.length:=by rw [e1]; simp
   have h2:ys.length=pre'.length + q.length:=by rw [e2]; simp
   exact List.eq_nil_of_length_eq_zero (by omega)
  subst this
  subst e1
  rw [h,S5]
  rfl
 | v::r,[],pre,pre',f + 1,e1,e2,e3,_=>by
  exfalso
  have h1:xs.length=pre.length + (r.length + 1):=by rw [e1]; simp
  have h2:ys.length=pre'.length:=by rw [e2]; simp
  omega
 | v::r,u::q,pre,pre',f + 1,e1,e2,e3,hf=>by
  have ih:=T8 L B D xs ys hl hx h r q (pre++[v]) (pre'++[u]) f (by rw [e1]; simp) (by rw [e2]; simp) (by simp [e3]) (by simp at hf; omega)
  have k1:idx xs (pre.length:Int)=some v:=by rw [e1,Cu]
  have k2:idx ys (pre.length:Int)=some u:=by rw [e2,e3,Cu]
  have k3:decide ((pre.length:Int) < (xs.length:Int))=true:=by rw [e1]; exact KN pre v r
  have k4:wr .i64 ((pre.length:Int) + 1)=((pre++[v]).length:Int):=Hd pre v r (by rw [<-e1]; omega)
  rw [h,if_pos k3,k1,OS,k2,OS,k4,ih]
  rfl
theorem QE {α β:Type}(P:α->β->Option Bool) (p:α->β->Bool):∀ (xs:List α) (ys:List β),(∀ x ∈ xs,∀ y ∈ ys,P x y=some (p x y))->xs.length=ys.length ->
  go2 (fun v u k=>(P v u).bind fun b=>if (!b)=true then some (Sum.inr false) else k) (some (Sum.inl ())) xs ys=some (if (xs.zip ys).all (fun x=>p x.1 x.2) then Sum.inl () else Sum.inr false)
 | [],[],_,_=>rfl
 | x::xs,y::ys,h,hl=>by
  unfold go2
  rw [h x (by simp) y (by simp),OS,QE P p xs ys (fun a ha b hb=>h a (List.mem_cons_of_mem _ ha) b (List.mem_cons_of_mem _ hb)) (by simpa using hl)]
  rw [List.zip_cons_cons,List.all_cons]
  show (if (!p x y)=true then _ else _)=some (if (p x y&&_)=true then _ else _)
  cases p x y <;> rfl
 | [],_::_,_,hl=>by simp at hl
 | _::_,[],_,hl=>by simp at hl
/-- slices.EqualFunc. -/
theorem Pq {α β:Type}(xs:List α) (ys:List β) (hx:xs.length<=99999) (P:α->β->Option Bool) (p:α->β->Bool) (hP:∀ x ∈ xs,∀ y ∈ ys,P x y=some (p x y)) (L:Nat->Int->Option (Unit ⊕ Bool))
  (h:∀ f c,L (f + 1) c=if decide (c < (xs.length:Int))=true then (idx xs c).bind fun v=>(idx ys c).bind fun u=>(P v u).bind fun b=>if (!b)=true then some (.inr false) else L f (wr .i64 (c + 1)) else some (.inl ())) :
  (if ((xs.length:Int)!=(ys.length:Int))=true then some false else (L 100000 0).bind fun r=>match r with | .inl _=>some true | .inr w=>some w)=some (decide (xs.length=ys.length)&&(xs.zip ys).all fun x=>p x.1 x.2):=by
 by_cases hl:xs.length=ys.length
 ·rw [if_neg (by simp [hl])]
  have e:=T8 L (fun v u k=>(P v u).bind fun b=>if (!b)=true then some (Sum.inr false) else k) (some (Sum.inl ())) xs ys hl (by omega) h xs ys [] [] 100000 rfl rfl rfl (by omega)
  have e0:L 100000 (([]:List α).length:Int)=L 100000 0:=rfl
  rw [<-e0,e,QE P p xs ys hP hl]
  cases hq:(xs.zip ys).all (fun x=>p x.1 x.2) <;> simp [hl]
 ·rw [if_pos (by simp; omega)]
  simp [hl]
theorem KG {α:Type} [DecidableEq α] {p:α->α->Bool}(hp:∀ a b,p a b=decide (a=b)):∀ (xs ys:List α),(decide (xs.length=ys.length)&&(xs.zip ys).all fun x=>p x.1 x.2)=decide (xs=ys)
 | [],[]=>rfl
 | x::xs,y::ys=>by
  have ih:=KG hp xs ys
  simp only [List.length_cons,Nat.add_right_cancel_iff,List.zip_cons_cons,List.all_cons,List.cons.injEq,hp]
  simp only [hp] at ih
  by_cases h1:x=y
  ·subst h1; simpa using ih
  ·simp [h1]
 | [],_::_=>by simp
 | _::_,[]=>by simp
/-- slices.Equal. -/
theorem VH {α:Type} [DecidableEq α] [BEq α] [LawfulBEq α] (xs ys:List α) (hx:xs.length<=99999) (L:Nat->Int->Option (Unit ⊕ Bool))
  (h:∀ f c,L (f + 1) c=if decide (c < (xs.length:Int))=true then (idx xs c).bind fun v=>(idx ys c).bind fun u=>if (v != u)=true then some (.inr false) else L f (wr .i64 (c + 1)) else some (.inl ())) :
  (if ((xs.length:Int)!=(ys.length:Int))=true then some false else (L 100000 0).bind fun r=>match r with | .inl _=>some true | .inr w=>some w)=some (decide (xs=ys)):=by
 rw [Pq xs ys hx (fun v u=>some (v==u)) (fun v u=>v==u) (fun _ _ _ _=>rfl) L (fun f c=>by rw [h]; rfl),KG (fun a b=>by by_cases h:a=b <;> simp [h])]
/- trestle/trestlelaw03.Copy -/
/- trestle/trestlelaw03.Few$1$1 -/
/- slices.IndexFunc[[]string,string] -/
/- slices.ContainsFunc[[]string,string] -/
/- trestle/trestlelaw03.Few$1 -/
/- slices.IndexFunc[[]trestle/api.Clause,trestle/api.Clause] -/
/- slices.ContainsFunc[[]trestle/api.Clause,trestle/api.Clause] -/
/- trestle/trestlelaw03.Few -/
/- trestle/court.Check -/
/- trestle/trestleref03.Check -/
def Vs (x:AJ):Prop:=x.2.1.length<=40/\x.2.2.2.1.length<=20/\∀ s ∈ x.2.2.2.1,s.length<=40
def few (c:List AJ):Prop:=c.length<=40/\∀ x ∈ c,Vs x
/-- Comparisons. -/
theorem Si (xs ys:List (List UInt8)) (h:xs.length<=99999):A8 xs ys=some (decide (xs=ys)):=by
 unfold A8
 exact VH xs ys h (BR xs ys) (fun f c=>rfl)
theorem UR (a b:AJ) (h:a.2.2.2.1.length<=99999):B5 a b=some (decide (a=b)):=by
 unfold B5
 rw [Si _ _ h]
 obtain ⟨a1,a2,a3,a4,a5⟩:=a
 obtain ⟨b1,b2,b3,b4,b5⟩:=b
 by_cases h1:a1=b1
 ·by_cases h2:a2=b2
  ·by_cases h3:a3=b3
   ·by_cases h5:a5=b5
    ·simp [h1,h2,h3,h5]
    ·simp [h5]
   ·simp [h3]
  ·simp [h2]
 ·simp [h1]
/-- Names. -/
def Qv (c:UInt8):Bool:=decide ((c.toNat:Int) < 97)||decide ((c.toNat:Int) > 122)
def DK (s:List UInt8):Bool:=decide (1<=s.length)&&decide (s.length<=12)&&!s.any Qv
theorem OE:∀ (s:List UInt8) (i:Nat),goU (fun v _ (k:Option (Unit ⊕ Bool))=>if Qv v=true then some (.inr false) else k) (some (.inl ())) s i=some (if s.any Qv=true then .inr false else .inl ())
 | [],_=>rfl
 | c::s,i=>by
  unfold goU
  rw [OE s (i + 1),List.any_cons]
  cases Qv c <;> rfl
theorem UC (s:List UInt8) (h:s.length<=99999):Cy s 100000 0=some (if s.any Qv=true then .inr false else .inl ()):=by
 rw [<-OE s 0]
 refine KM s (Cy s) _ _ 100000 (by omega) (fun f pre v r e=>?_) (fun f=>?_)
 ·conv=>lhs; unfold Cy
  rw [e,if_pos (KN pre v r),Cu,OS,OS,Hd pre v r (by rw [<-e]; omega)]
  unfold Qv
  by_cases h:(v.toNat:Int) < 97 <;> simp [h]
 ·conv=>lhs; unfold Cy
  rw [if_neg (by simp)]
theorem Sv (s:List UInt8) (h:s.length<=99999):Dg s 100000 0=some (if s.any Qv=true then .inr false else .inl ()):=by
 rw [<-OE s 0]
 refine KM s (Dg s) _ _ 100000 (by omega) (fun f pre v r e=>?_) (fun f=>?_)
 ·conv=>lhs; unfold Dg
  rw [e,if_pos (KN pre v r),Cu,OS,OS,Hd pre v r (by rw [<-e]; omega)]
  unfold Qv
  by_cases h:(v.toNat:Int) < 97 <;> simp [h]
 ·conv=>lhs; unfold Dg
  rw [if_neg (by simp)]
theorem QT (s:List UInt8) (h:s.length<=99999):D7 s=some (DK s):=by
 unfold D7 DK
 rw [UC s h,OS]
 cases hb:s.any Qv
 ·by_cases h1:s.length < 1
  ·have:s.length=0:=by omega
   simp [this]
  ·simp [show (s.length:Int)≥1 by omega,show 1<=s.length by omega]; omega
 ·simp
theorem O2 (s:List UInt8) (h:s.length<=99999):GZ s=some (DK s):=by
 unfold GZ DK
 by_cases h1:s.length < 1
 ·have:s.length=0:=by omega
  simp [this]
 ·by_cases h2:s.length > 12
  ·simp [show ¬ ((s.length:Int) < 1) by omega,show ((s.length:Int) > 12) by omega,show ¬ (s.length<=12) by omega]
  ·rw [Sv s h]
   cases hb:s.any Qv
   ·simp [show ¬ ((s.length:Int) < 1) by omega,show ¬ ((s.length:Int) > 12) by omega,show (s.length<=12) by omega,show 1<=s.length by omega]
   ·simp [show ¬ ((s.length:Int) < 1) by omega,show ¬ ((s.length:Int) > 12) by omega]
theorem S4 (l:List (List UInt8)) (h:l.length<=99999) (hs:∀ s ∈ l,s.length<=99999):AR l=some (l.any fun s=>!DK s):=by
 unfold AR Ae
 obtain ⟨n,h1,h2⟩:=Pr l h DP (fun s=>!DK s) (fun x hx=>by unfold DP; rw [QT x (hs x hx)]; rfl) (Aj l) (fun f c=>rfl)
 rw [<-h2]
 exact (congrArg (fun o=>o.bind fun v1=>some (decide (v1≥0))) h1)
def Nu (l:List (List UInt8)) (s:List UInt8):Bool:=l.any fun v=>s==v
theorem Kx (l:List (List UInt8)) (s:List UInt8) (h:l.length<=99999):Ar l s=some (Nu l s):=by
 unfold Ar BN
 obtain ⟨n,h1,h2⟩:=Pr l h (fun v=>some (s==v)) (fun v=>s==v) (fun _ _=>rfl) (BS l s) (fun f c=>rfl)
 unfold Nu
 rw [<-h2]
 exact (congrArg (fun o=>o.bind fun v1=>some (decide (v1≥0))) h1)
theorem QG (s:List UInt8):∀ (l:List (List UInt8)) (i:Nat),goU (fun v _ (k:Option (Unit ⊕ Bool))=>if (v==s)=true then some (.inr true) else k) (some (.inl ())) l i=some (if Nu l s=true then .inr true else .inl ())
 | [],_=>rfl
 | c::l,i=>by
  unfold goU
  rw [QG s l (i + 1)]
  have:Nu (c::l) s=((c==s)||Nu l s):=by
   unfold Nu
   rw [List.any_cons,Bool.beq_comm]
  rw [this]
  cases (c==s) <;> rfl
theorem SI (l:List (List UInt8)) (s:List UInt8) (h:l.length<=99999):Ey l s=some (Nu l s):=by
 unfold Ey
 have e:=VV l (Ez l s) (fun v _ (k:Option (Unit ⊕ Bool))=>if (v==s)=true then some (.inr true) else k) (some (.inl ())) 100000 (by omega) (by omega) (fun f c=>rfl)
 rw [e,QG]
 cases Nu l s <;> rfl
/-- What is asked of the fields, by a row: names, from, to, last. -/
def fin (L:Nat) (n:Int) (la:Bool) (w:Int×Int×Int×Bool):Option Bool :=
 (if (decide ((L:Int)<=w.1))=true then if (w.1==0)=true then if (decide (n≥w.2.1))=true then if (decide (n<=w.2.2.1))=true then if w.2.2.2=true then some true else some (!la) else some false else some false else if (decide ((L:Int) > 0))=true then if (decide (n≥w.2.1))=true then if (decide (n<=w.2.2.1))=true then if w.2.2.2=true then some true else some (!la) else some false else some false else some false else some false).bind fun j58=>some j58
theorem Il (L:Nat) (n:Int) (la:Bool) (a lo hi:Int) (last:Bool):fin L n la (a,lo,hi,last)=some ((decide ((L:Int)<=a)&&(a==0||decide ((L:Int) > 0)))&&(decide (n≥lo)&&(decide (n<=hi)&&(last||!la)))):=by
 unfold fin
 dsimp only
 generalize decide ((L:Int)<=a)=b1
 generalize (a==0)=b2
 generalize decide ((L:Int) > 0)=b3
 generalize decide (n≥lo)=b4
 generalize decide (n<=hi)=b5
 cases b1 <;> cases b2 <;> cases b3 <;> cases b4 <;> cases b5 <;> cases last <;> cases la <;> rfl
theorem NR (x:AJ):∃ b,BB x=some b/\Ai x=some b:=by
 obtain ⟨k,am,la,nm,n⟩:=x
 by_cases h1:k=1
 ·subst h1
  have hr:Ai (1,am,la,nm,n)=some ((decide (1<=(nm.length:Int))&&decide ((nm.length:Int)<=16))&&((n==0)&&(!la&&(am==[])))):=by
   unfold Ai
   unfold A6
   dsimp only
   generalize decide (1<=(nm.length:Int))=b0
   generalize decide ((nm.length:Int)<=16)=b1
   generalize (n==0)=b2
   generalize (am==[])=b3
   cases b0 <;> cases b1 <;> cases b2 <;> cases la <;> cases b3 <;> rfl
  refine ⟨_,?_,hr⟩
  cases am with
  | cons a am =>
   have hc:BB (1,a::am,la,nm,n)=some false:=rfl
   rw [hc]
   simp
  | nil =>
   have hc:BB (1,[],la,nm,n)=fin nm.length n la (16,0,0,false):=rfl
   rw [hc,Il]
   congr 1
   rw [Bool.eq_iff_iff]
   generalize nm.length=L
   cases la <;> simp <;> omega
 by_cases h2:k=2
 ·subst h2
  have hr:Ai (2,am,la,nm,n)=some (((nm.length:Int)==0)&&((n==0)&&!la)):=by
   unfold Ai
   unfold A6
   dsimp only
   generalize ((nm.length:Int)==0)=b0
   generalize (n==0)=b1
   cases b0 <;> cases b1 <;> cases la <;> rfl
  refine ⟨_,?_,hr⟩
  have hc:BB (2,am,la,nm,n)=fin nm.length n la (0,0,0,false):=rfl
  rw [hc,Il]
  congr 1
  rw [Bool.eq_iff_iff]
  generalize nm.length=L
  cases la <;> simp <;> omega
 by_cases h3:k=3
 ·subst h3
  have hr:Ai (3,am,la,nm,n)=some (((nm.length:Int)==0)&&((n==0)&&!la)):=by
   unfold Ai
   unfold A6
   dsimp only
   generalize ((nm.length:Int)==0)=b0
   generalize (n==0)=b1
   cases b0 <;> cases b1 <;> cases la <;> rfl
  refine ⟨_,?_,hr⟩
  have hc:BB (3,am,la,nm,n)=fin nm.length n la (0,0,0,false):=rfl
  rw [hc,Il]
  congr 1
  rw [Bool.eq_iff_iff]
  generalize nm.length=L
  cases la <;> simp <;> omega
 by_cases h8:k=8
 ·subst h8
  have hr:Ai (8,am,la,nm,n)=some (((nm.length:Int)==0)&&((n==0)&&!la)):=by
   unfold Ai
   unfold A6
   dsimp only
   generalize ((nm.length:Int)==0)=b0
   generalize (n==0)=b1
   cases b0 <;> cases b1 <;> cases la <;> rfl
  refine ⟨_,?_,hr⟩
  have hc:BB (8,am,la,nm,n)=fin nm.length n la (0,0,0,false):=rfl
  rw [hc,Il]
  congr 1
  rw [Bool.eq_iff_iff]
  generalize nm.length=L
  cases la <;> simp <;> omega
 by_cases h9:k=9
 ·subst h9
  have hr:Ai (9,am,la,nm,n)=some (((nm.length:Int)==0)&&((n==0)&&!la)):=by
   unfold Ai
   unfold A6
   dsimp only
   generalize ((nm.length:Int)==0)=b0
   generalize (n==0)=b1
   cases b0 <;> cases b1 <;> cases la <;> rfl
  refine ⟨_,?_,hr⟩
  have hc:BB (9,am,la,nm,n)=fin nm.length n la (0,0,0,false):=rfl
  rw [hc,Il]
  congr 1
  rw [Bool.eq_iff_iff]
  generalize nm.length=L
  cases la <;> simp <;> omega
 by_cases h4:k=4
 ·subst h4
  have hr:Ai (4,am,la,nm,n)=some (((nm.length:Int)==0)&&(decide (1<=n)&&decide (n<=2))):=by
   unfold Ai
   unfold A6
   dsimp only
   generalize ((nm.length:Int)==0)=b0
   generalize decide (1<=n)=b1
   generalize decide (n<=2)=b2
   cases b0 <;> cases b1 <;> cases b2 <;> cases la <;> rfl
  refine ⟨_,?_,hr⟩
  have hc:BB (4,am,la,nm,n)=fin nm.length n la (0,1,2,true):=rfl
  rw [hc,Il]
  congr 1
  rw [Bool.eq_iff_iff]
  generalize nm.length=L
  cases la <;> simp <;> omega
 by_cases h5:k=5
 ·subst h5
  have hr:Ai (5,am,la,nm,n)=some (((nm.length:Int)==0)&&(n==0)):=by
   unfold Ai
   unfold A6
   dsimp only
   generalize ((nm.length:Int)==0)=b0
   generalize (n==0)=b1
   cases b0 <;> cases b1 <;> cases la <;> rfl
  refine ⟨_,?_,hr⟩
  have hc:BB (5,am,la,nm,n)=fin nm.length n la (0,0,0,true):=rfl
  rw [hc,Il]
  congr 1
  rw [Bool.eq_iff_iff]
  generalize nm.length=L
  cases la <;> simp <;> omega
 by_cases h6:k=6
 ·subst h6
  have hr:Ai (6,am,la,nm,n)=some ((decide (1<=(nm.length:Int))&&decide ((nm.length:Int)<=16))&&(n==0)):=by
   unfold Ai
   unfold A6
   dsimp only
   generalize decide (1<=(nm.length:Int))=b0
   generalize decide ((nm.length:Int)<=16)=b1
   generalize (n==0)=b2
   cases b0 <;> cases b1 <;> cases b2 <;> cases la <;> rfl
  refine ⟨_,?_,hr⟩
  have hc:BB (6,am,la,nm,n)=fin nm.length n la (16,0,0,true):=rfl
  rw [hc,Il]
  congr 1
  rw [Bool.eq_iff_iff]
  generalize nm.length=L
  cases la <;> simp <;> omega
 by_cases h7:k=7
 ·subst h7
  have hr:Ai (7,am,la,nm,n)=some ((decide (1<=(nm.length:Int))&&decide ((nm.length:Int)<=16))&&(n==0)):=by
   unfold Ai
   unfold A6
   dsimp only
   generalize decide (1<=(nm.length:Int))=b0
   generalize decide ((nm.length:Int)<=16)=b1
   generalize (n==0)=b2
   cases b0 <;> cases b1 <;> cases b2 <;> cases la <;> rfl
  refine ⟨_,?_,hr⟩
  have hc:BB (7,am,la,nm,n)=fin nm.length n la (16,0,0,true):=rfl
  rw [hc,Il]
  congr 1
  rw [Bool.eq_iff_iff]
  generalize nm.length=L
  cases la <;> simp <;> omega
 by_cases h10:k=10
 ·subst h10
  have hr:Ai (10,am,la,nm,n)=some (((nm.length:Int)==0)&&((decide (0<=n)&&decide (n<=63))&&!la)):=by
   unfold Ai
   unfold A6
   dsimp only
   generalize ((nm.length:Int)==0)=b0
   generalize decide (0<=n)=b1
   generalize decide (n<=63)=b2
   cases b0 <;> cases b1 <;> cases b2 <;> cases la <;> rfl
  refine ⟨_,?_,hr⟩
  have hc:BB (10,am,la,nm,n)=fin nm.length n la (0,0,63,false):=rfl
  rw [hc,Il]
  congr 1
  rw [Bool.eq_iff_iff]
  generalize nm.length=L
  cases la <;> simp <;> omega
 have e:∀ m:Int,(m=1\/m=2\/m=3\/m=4\/m=5\/m=6\/m=7\/m=8\/m=9\/m=10)->(k==m)=false:=fun m hm=>by
  rw [beq_eq_false_iff_ne]
  rintro rfl
  omega
 refine ⟨false,?_,?_⟩
 ·simp [BB,EF,EG,EH,EI,EJ,EK,EL,EM,EN,e]
 ·simp [Ai,EV,EW,EX,EY,e]
def fm (x:AJ):Bool:=(Ai x).getD false
theorem Vt (x:AJ):BB x=some (fm x):=by
 obtain ⟨b,h1,h2⟩:=NR x
 rw [h1]; unfold fm; rw [h2]; rfl
theorem Vu (x:AJ):Ai x=some (fm x):=by
 obtain ⟨b,h1,h2⟩:=NR x
 unfold fm; rw [h2]; rfl
/-- Is a name there twice? -/
def SC (l:List (List UInt8)):List (List UInt8)->Nat->Bool
 | [],_=>false
 | v::r,i=>Nu (l.take i) v||SC l r (i + 1)
def Jb (before:List AJ) (am:List UInt8):Bool:=before.any fun b=>(b.1==1)&&Nu b.2.2.2.1 am
def chk (before:List AJ) (x:AJ):Int :=
 if fm x=false then 30 else
 if ((!(x.2.1==[]))&&!DK x.2.1)=true\/(x.2.2.2.1.any fun s=>!DK s)=true then 4 else
 if SC x.2.2.2.1 x.2.2.2.1 0=true then 5 else
 if x.2.1=[]\/Jb before x.2.1=true then 0 else 31
theorem OD (l:List (List UInt8)):∀ (r:List (List UInt8)) (i:Nat),goU (fun v i (k:Option (Unit ⊕ Int))=>if Nu (l.take i) v=true then some (.inr 5) else k) (some (.inl ())) r i=some (if SC l r i=true then .inr 5 else .inl ())
 | [],_=>rfl
 | v::r,i=>by
  unfold goU SC
  rw [OD l r (i + 1)]
  cases Nu (l.take i) v <;> rfl
theorem VF (b:List AJ) (j:AJ) (h:j.2.2.2.1.length<=99999):Ch b j 100000 0=some (if SC j.2.2.2.1 j.2.2.2.1 0=true then .inr 5 else .inl ()):=by
 rw [<-OD]
 refine KM j.2.2.2.1 (Ch b j) _ _ 100000 (by omega) (fun f pre v r e=>?_) (fun f=>?_)
 ·conv=>lhs; unfold Ch
  have hl:j.2.2.2.1.length=pre.length + r.length + 1:=by rw [e]; simp; omega
  rw [if_pos (by rw [e]; exact KN pre v r),show idx j.2.2.2.1 (pre.length:Int)=some v by rw [e,Cu],OS,if_pos (by unfold By; simp; omega),Int.toNat_natCast]
  rw [show ((j.2.2.2.1.take pre.length).drop (0:Int).toNat)=j.2.2.2.1.take pre.length from rfl,Kx _ _ (by simp; omega),OS,Hd pre v r (by rw [<-e]; omega)]
 ·conv=>lhs; unfold Ch
  rw [if_neg (by simp)]
theorem Rb (b:List AJ) (x:AJ) (h:b.length<=99999) (hb:∀ y ∈ b,y.2.2.2.1.length<=99999):AQ b x=some (Jb b x.2.1):=by
 unfold AQ AS
 obtain ⟨n,h1,h2⟩:=Pr b h (fun v=>DQ v x) (fun y=>(y.1==1)&&Nu y.2.2.2.1 x.2.1) (fun y hy=>by
  unfold DQ
  rw [Kx _ _ (hb y hy)]
  cases (y.1==1) <;> rfl) (AY b x) (fun f c=>rfl)
 unfold Jb
 rw [<-h2]
 exact (congrArg (fun o=>o.bind fun v1=>some (decide (v1≥0))) h1)
/-- .. of the reference. -/
theorem SG:∀ (l:List (List UInt8)) (i:Nat),goU (fun v _ (k:Option (Unit ⊕ Int))=>if (!DK v)=true then some (.inr 4) else k) (some (.inl ())) l i=some (if (l.any fun s=>!DK s)=true then .inr 4 else .inl ())
 | [],_=>rfl
 | v::r,i=>by
  unfold goU
  rw [SG r (i + 1),List.any_cons]
  cases DK v <;> rfl
theorem SH (am:List UInt8):∀ (l:List AJ) (i:Nat),goU (fun (v:AJ) _ (k:Option (Unit ⊕ Int))=>if ((v.1==1)&&Nu v.2.2.2.1 am)=true then some (.inr 0) else k) (some (.inl ())) l i=some (if Jb l am=true then .inr 0 else .inl ())
 | [],_=>rfl
 | v::r,i=>by
  unfold goU
  have:Jb (v::r) am=(((v.1==1)&&Nu v.2.2.2.1 am)||Jb r am):=rfl
  rw [SH am r (i + 1),this]
  cases ((v.1==1)&&Nu v.2.2.2.1 am) <;> rfl
section
variable (c pre r:List AJ) (x:AJ) (e:c=pre++x::r) (h:few c)
include e h
end
/-- The pieces between the bytes c. -/
def pcs (c:UInt8):List UInt8->List (List UInt8)
 | []=>[[]]
 | b::r=>if b=c then []::pcs c r else match pcs c r with
  | []=>[[b]]
  | w::ws=>(b::w)::ws
theorem Qc (c:UInt8):∀ s:List UInt8,pcs c s≠[]
 | []=>by simp [pcs]
 | b::r=>by
  unfold pcs
  split
  ·simp
  ·split <;> simp
theorem O6 (c:UInt8) (s:List UInt8):∃ w ws,pcs c s=w::ws:=List.exists_cons_of_ne_nil (Qc c s)
/-- A text without the separator is one piece. -/
theorem LL (c:UInt8):∀ {s:List UInt8},c ∉ s->pcs c s=[s]
 | [],_=>rfl
 | b::r,h=>by
  have h1:b≠c:=fun e=>h (by simp [e])
  unfold pcs
  rw [if_neg h1,LL c fun e=>h (by simp [e])]
/-- The first piece ahead of a separator. -/
theorem OR (c:UInt8):∀ {s:List UInt8}(r:List UInt8),c ∉ s->pcs c (s++c::r)=s::pcs c r
 | [],r,_=>by
  show pcs c (c::r)=_
  conv=>lhs; unfold pcs
  rw [if_pos rfl]
 | b::s,r,h=>by
  have h1:b≠c:=fun e=>h (by simp [e])
  show pcs c (b::(s++c::r))=_
  conv=>lhs; unfold pcs
  rw [if_neg h1,OR c r fun e=>h (by simp [e])]
theorem Ml (c:UInt8) (s:List UInt8):(pcs c s).length=s.count c + 1:=by
 induction s with
 | nil=>rfl
 | cons b s ih =>
  unfold pcs
  by_cases h:b=c
  ·rw [if_pos h,List.length_cons,ih,h]; simp
  ·rw [if_neg h]
   obtain ⟨w,ws,e⟩:=O6 c s
   rw [e] at ih ⊢
   rw [List.count_cons_of_ne h]
   exact ih
/-- Where the first separator stands. -/
def NB (c:UInt8):List UInt8->Option Nat
 | []=>none
 | b::r=>if b=c then some 0 else (NB c r).map (· + 1)
theorem MV {c:UInt8}:∀ {s:List UInt8},NB c s=none->c ∉ s
 | [],_=>by simp
 | b::r,h=>by
  unfold NB at h
  split at h
  ·cases h
  ·next h1 =>
   simp only [Option.map_eq_none_iff] at h
   simp only [List.mem_cons,not_or]
   exact ⟨fun e=>h1 e.symm,MV h⟩
theorem JU {c:UInt8}:∀ {s:List UInt8}{i:Nat},NB c s=some i->i < s.length/\c ∉ s.take i/\s=s.take i++c::s.drop (i + 1)
 | [],_,h=>by cases h
 | b::r,i,h=>by
  unfold NB at h
  split at h
  ·next h1 =>
   injection h with h
   subst h
   subst h1
   simp
  ·next h1 =>
   obtain ⟨j,hj,rfl⟩:=Option.map_eq_some_iff.1 h
   obtain ⟨a1,a2,a3⟩:=JU hj
   refine ⟨by simp; omega,?_,?_⟩
   ·simp only [List.take_succ_cons,List.mem_cons,not_or]
    exact ⟨fun e=>h1 e.symm,a2⟩
   ·simp only [List.take_succ_cons,List.drop_succ_cons,List.cons_append]
    rw [<-a3]
theorem SK {c:UInt8}{s:List UInt8}{i:Nat}(h:NB c s=some i):pcs c s=s.take i::pcs c (s.drop (i + 1)):=by
 obtain ⟨_,a2,a3⟩:=JU h
 conv=>lhs; rw [a3]
 exact OR c _ a2
/-- A number of 1 to 9 digits that does not start with 0 unless it is 0. -/
def Rt:Nat->List UInt8->Option Nat
 | n,[]=>some n
 | n,b::r=>if 48<=b.toNat/\b.toNat<=57 then Rt (10 * n + (b.toNat - 48)) r else none
def Ia (w:List UInt8):Option Nat:=if w.length=0\/9 < w.length then none else if 1 < w.length/\w.head? = some 48 then none else Rt 0 w
theorem QH (s:List UInt8) (c:UInt8):Lib.indexByte s c=match NB c s with | some i=>(i:Int) | none=> -1:=by
 induction s with
 | nil=>rfl
 | cons b s ih =>
  unfold Lib.indexByte NB
  by_cases h:b=c
  ·rw [if_pos (by simpa using h),if_pos h]; rfl
  ·rw [if_neg (by simpa using h),if_neg h,ih]
   cases NB c s with
   | none=>rfl
   | some i =>
    show (if ((i:Int) == -1)=true then (-1:Int) else (i:Int) + 1)=_
    rw [if_neg (by simp)]
    show (i:Int) + 1=((i + 1:Nat):Int)
    omega
theorem Nc (s:List UInt8) (c:UInt8) (hc:[c]≠s\/NB c s=some 0):CF s [c]=some (match NB c s with | some i=>(i:Int) | none=> -1):=by
 have hu:((c.toNat:Int)).toNat.toUInt8=c:=by rw [Int.toNat_natCast]; exact UInt8.ofNat_toNat
 unfold CF CD
 rw [if_neg (by simp)]
 by_cases h:[c]=s
 ·rw [show ([c]==s)=true by simpa using h]
  rcases hc with hc | hc
  ·exact absurd h hc
  ·rw [hc]; rfl
 ·rw [show ([c]==s)=false by simpa using h]
  rw [OS,if_neg (by simp),if_pos (by simp),show idx [c] 0=some c from rfl,OS]
  unfold Dm
  rw [hu,QH]
  rfl
theorem RP (c:UInt8) (r:List UInt8):NB c (c::r)=some 0:=by unfold NB; rw [if_pos rfl]
theorem Oz (s:List UInt8) (c:UInt8):CF s [c]=some (match NB c s with | some i=>(i:Int) | none=> -1):=by
 by_cases h:[c]=s
 ·exact Nc s c (.inr (by rw [<-h]; exact RP c []))
 ·exact Nc s c (.inl h)
theorem Tz (s:List UInt8) (c:UInt8) (hs:s.length<=100000):D5 s [c]=some (match NB c s with | some i=>(s.take i,s.drop (i + 1),true) | none=>(s,[],false)):=by
 have hx:=Oz s c
 unfold CF at hx
 obtain ⟨v,h1,h2⟩:=OB hx
 have h2:v=_:=OI h2
 unfold D5 DF
 rw [h1,OS]
 cases hf:NB c s with
 | none =>
  rw [hf] at h2
  have h2:v = -1:=h2
  subst h2
  rw [if_neg (by decide)]
  rfl
 | some i =>
  rw [hf] at h2
  have h2:v=(i:Int):=h2
  subst h2
  obtain ⟨a1,_,_⟩:=JU hf
  have e:wr .i64 ((i:Int) + (([c]:List UInt8).length:Int))=((i + 1:Nat):Int):=by
   rw [Ke (by simp; omega) (by simp; omega)]; simp
  rw [if_pos (by simp),if_pos (by simp [By]; omega),e,if_pos (by simp only [By,Bool.and_eq_true,decide_eq_true_eq]; omega),Int.toNat_natCast,Int.toNat_natCast,Int.toNat_natCast,List.take_length]
  rfl
/- Numbers. -/
def PZ:Option Nat->Int×Bool
 | some x=>(x,true)
 | none=>(0,false)
theorem TI {n:Int}(h0:0<=n) (h1:n<=255):wr .u8 n=n:=by
 have e:wr .u8 n=n % 256:=rfl
 rw [e]
 omega
theorem NX (w:List UInt8) (hw:w.length<=9) (hz:¬ (1 < w.length/\w.head? = some 48)):∀ (r pre:List UInt8) (f acc:Nat),w=pre++r->r.length < f->acc < 10 ^ pre.length->Bp w f acc pre.length=some (match Rt acc r with | some x=> .inl (x:Int) | none=> .inr (0,false))
 | [],pre,f + 1,acc,h,_,_=>by
  unfold Bp
  rw [if_neg (by rw [h]; simp)]
  rfl
 | b::r,pre,f + 1,acc,h,hf,ha=>by
  have hi:idx w (pre.length:Int)=some b:=by rw [h]; exact Cu pre b r
  have hl:pre.length < w.length:=by rw [h]; simp
  unfold Bp
  rw [if_pos (by simp; exact hl),hi,OS,OS,OS]
  unfold Rt
  by_cases hb:48<=b.toNat/\b.toNat<=57
  ·have hp:10 ^ pre.length<=10 ^ 8:=Nat.pow_le_pow_right (by omega) (by omega)
   have e1:(10:Nat) ^ 8=100000000:=by decide
   have e2:(10:Nat) ^ (pre++[b]).length=10 ^ pre.length * 10:=by rw [List.length_append,List.length_singleton,Nat.pow_succ]
   have e3:wr .i64 (wr .i64 (wr .i64 (10 * (acc:Int)) + wr .i64 (b.toNat:Int)) - 48)=((10 * acc + (b.toNat - 48):Nat):Int):=by
    rw [Ke (n:=10 * (acc:Int)) (by omega) (by omega),Ke (n:=(b.toNat:Int)) (by omega) (by omega),Ke (n:=10 * (acc:Int) + (b.toNat:Int)) (by omega) (by omega),Ke (by omega) (by omega)]
    omega
   have ih:=NX w hw hz r (pre++[b]) f (10 * acc + (b.toNat - 48)) (by rw [h]; simp) (by simp at hf; omega) (by rw [e2]; omega)
   have hone:(if ((pre.length:Int)==1)=true then (idx w 0).bind fun v9=>some ((v9.toNat:Int)==48) else some false)=some false:=by
    by_cases h1:pre.length=1
    ·rw [if_pos (by simp [h1])]
     obtain ⟨x,q,hx⟩:=List.exists_cons_of_ne_nil (fun e=>by rw [e] at hl; simp at hl:w≠[])
     have hne:x≠48:=fun e=>hz ⟨by omega,by rw [hx,e]; rfl⟩
     have hq:x.toNat≠48:=fun e=>hne (UInt8.toNat.inj (by rw [e]; rfl))
     rw [show idx w 0=some x by rw [hx]; rfl,OS]
     congr 1
     simp
     omega
    ·rw [if_neg (by simp; omega)]
   rw [if_neg (by simp; omega),if_neg (by simp; omega),hone,OS,if_neg (by simp),if_pos hb,e3,Ke (n:=(pre.length:Int) + 1) (by omega) (by omega),<-ih,Mu pre b]
  ·rw [if_neg hb]
   by_cases h1:(b.toNat:Int) < 48
   ·rw [if_pos (by simpa using h1),OS,if_pos rfl]
   ·rw [if_neg (by simpa using h1),if_pos (by simp; omega),OS,if_pos rfl]
theorem QL (c:UInt8) (r:List UInt8) (f:Nat):Bp (48::c::r) (f + 2) 0 0=some (.inr (0,false)):=by
 have hc1:Bp (48::c::r) (f + 1) 0 1=some (.inr (0,false)):=by
  unfold Bp
  rw [if_pos (decide_eq_true (by rw [List.length_cons,List.length_cons]; omega)),show idx (48::c::r) 1=some c from rfl,OS,OS,show idx (48::c::r) 0=some 48 from rfl,OS]
  have:∀ p q:Bool,(if p=true then some true else if q=true then some true else if ((1:Int)==1)=true then some (((48:UInt8).toNat:Int)==48) else some false)=some true:=by decide
  rw [this,OS,if_pos rfl]
 rw [<-hc1]
 conv=>lhs; unfold Bp
 rw [if_pos (decide_eq_true (by rw [List.length_cons,List.length_cons]; omega)),show idx (48::c::r) 0=some 48 from rfl]
 rfl
theorem PV (w:List UInt8):Ek w=some (PZ (Ia w)):=by
 unfold Ek Ia
 by_cases h0:w.length=0
 ·rw [if_pos (by simp [h0]),OS,if_pos rfl,if_pos (.inl h0)]; rfl
 ·rw [if_neg (by rw [beq_iff_eq]; omega),OS]
  by_cases h9:9 < w.length
  ·rw [if_pos (decide_eq_true (by omega)),if_pos (.inr h9)]; rfl
  ·rw [if_neg (by rw [decide_eq_true_eq]; omega),if_neg (show ¬ (w.length=0\/9 < w.length) by omega)]
   by_cases hz:1 < w.length/\w.head? = some 48
   ·rw [if_pos hz]
    -- the second byte is the one at which it fails
    match w,hz,h9 with
    | b::c::r,⟨_,hb⟩,h9 =>
     have hb:b=48:=by simpa using hb
     subst hb
     rw [QL c r 99998]
     rfl
   ·rw [if_neg hz]
    have hl:=NX w (by omega) hz w [] 100000 0 rfl (by omega) (by simp)
    have hl:Bp w 100000 0 0=_:=hl
    rw [hl,OS]
    cases Rt 0 w <;> rfl
/- Words: none where a piece is empty. -/
def wsp:List UInt8->List UInt8->Option (List (List UInt8))
 | cur,[]=>if cur=[] then none else some [cur]
 | cur,b::r=>if b=32 then (if cur=[] then none else (wsp [] r).map (cur::·)) else wsp (cur++[b]) r
theorem KE (line:List UInt8) (hn:line.length<=3000):∀ (rest done cur:List UInt8) (out:List (List UInt8)) (f:Nat),line=done++cur++rest->rest.length < f->out.length<=done.length->∃ q,CL line f done.length ((done.length + cur.length:Nat):Int) out=some q/\(match q with
  | .inl (a,o)=>∃ d c:List UInt8,line=d++c/\a=(d.length:Int)/\o.length<=d.length/\(if c=[] then wsp cur rest=none else ∃ o',o=out++o'/\wsp cur rest=some (o'++[c]))
  | .inr _=>wsp cur rest=none)
 | [],done,cur,out,f + 1,h,_,ho=>by
  refine ⟨.inl (done.length,out),?_,done,cur,by rw [h]; simp,rfl,ho,?_⟩
  ·unfold CL
   rw [if_neg (by rw [h]; simp)]
  ·unfold wsp
   by_cases hc:cur=[]
   ·rw [if_pos hc,if_pos hc]
   ·rw [if_neg hc,if_neg hc]; exact ⟨[],by simp,by simp⟩
 | b::r,done,cur,out,f + 1,h,hf,ho=>by
  have hlen:done.length + cur.length < line.length:=by rw [h]; simp
  have hi:idx line ((done.length + cur.length:Nat):Int)=some b:=by
   have:=Cu (done++cur) b r
   rw [List.length_append] at this
   rw [h]; exact this
  have hs:wr .i64 (((done.length + cur.length:Nat):Int) + 1)=((done.length + cur.length + 1:Nat):Int):=by
   rw [Ke (by omega) (by omega)]; omega
  by_cases hb:b=32
  ·subst hb
   by_cases hc:cur=[]
   ·subst hc
    refine ⟨.inr (),?_,?_⟩
    ·unfold CL D9
     rw [if_pos (decide_eq_true (by omega)),hi,OS,if_pos (show (((32:UInt8).toNat:Int)==32)=true by decide),if_pos (beq_iff_eq.2 (by simp)),OS]
    ·show wsp [] (32::r)=none
     unfold wsp
     rw [if_pos rfl,if_pos rfl]
   ·have hcl:0 < cur.length:=List.length_pos_iff.2 hc
    obtain ⟨q,a1,a2⟩:=KE line hn r (done++cur++[32]) [] (out++[cur]) f (by rw [h]; simp) (by simp at hf; omega) (by simp; omega)
    refine ⟨q,?_,?_⟩
    ·unfold CL D9
     have hcut:(line.take (done.length + cur.length)).drop done.length=cur:=by
      rw [h,<-List.length_append,List.append_assoc,<-List.append_assoc done cur,List.take_left,List.drop_left]
     have k1:¬ (((done.length:Nat):Int)==((done.length + cur.length:Nat):Int))=true:=by rw [beq_iff_eq]; omega
     have k1':¬ ((((done.length + cur.length:Nat):Int))==((done.length:Nat):Int))=true:=by rw [beq_iff_eq]; omega
     have k2:By (done.length:Int) ((done.length + cur.length:Nat):Int) line.length=true:=by simp only [By,Bool.and_eq_true,decide_eq_true_eq]; omega
     have k3:FX 16 (out.length + [cur].length)=true:=IX (by omega) (by simp; omega)
     rw [if_pos (decide_eq_true (by omega)),hi,OS]
     rw [if_pos (show (((32:UInt8).toNat:Int)==32)=true by decide)]
     rw [if_neg k1',if_pos k2,Int.toNat_natCast,Int.toNat_natCast,hcut,if_pos k3,OS]
     rw [hs]
     simp only []
     have e1:(done++cur++[32]).length=done.length + cur.length + 1:=by simp; omega
     rw [e1] at a1
     exact a1
    ·have hw:wsp cur (32::r)=(wsp [] r).map (cur::·):=by
      conv=>lhs; unfold wsp
      rw [if_pos rfl,if_neg hc]
     cases q with
     | inl p =>
      obtain ⟨a,o⟩:=p
      obtain ⟨d,c,b1,b2,b3,b4⟩:=a2
      refine ⟨d,c,b1,b2,b3,?_⟩
      by_cases hcc:c=[]
      ·rw [if_pos hcc] at b4 ⊢
       rw [hw,b4]; rfl
      ·rw [if_neg hcc] at b4 ⊢
       obtain ⟨o',e1,e2⟩:=b4
       exact ⟨cur::o',by rw [e1]; simp,by rw [hw,e2]; rfl⟩
     | inr u =>
      show wsp cur (32::r)=none
      have a2:wsp [] r=none:=a2
      rw [hw,a2]; rfl
  ·have hb':((b.toNat:Int)==32)=false:=by
    have:b.toNat≠32:=fun e=>hb (UInt8.toNat.inj (by rw [e]; rfl))
    simp; omega
   obtain ⟨q,a1,a2⟩:=KE line hn r done (cur++[b]) out f (by rw [h]; simp) (by simp at hf; omega) ho
   have hw:wsp cur (b::r)=wsp (cur++[b]) r:=by
    conv=>lhs; unfold wsp
    rw [if_neg hb]
   refine ⟨q,?_,by rw [hw]; exact a2⟩
   unfold CL D9
   rw [if_pos (decide_eq_true (by omega)),hi,OS,hb',if_neg (by simp),OS]
   show CL line f done.length (wr .i64 (((done.length + cur.length:Nat):Int) + 1)) out=some q
   rw [hs]
   have e1:(cur++[b]).length=cur.length + 1:=by simp
   rw [e1] at a1
   exact a1
/-- The pieces of a line are its words, unless one is empty. -/
theorem Oh:∀ (rest cur:List UInt8),∃ p ps,pcs 32 rest=p::ps/\wsp cur rest=(if [] ∈ (cur++p)::ps then none else some ((cur++p)::ps))
 | [],cur=>by
  refine ⟨[],[],rfl,?_⟩
  unfold wsp
  by_cases hc:cur=[]
  ·rw [if_pos hc,if_pos (by simp [hc])]
  ·rw [if_neg hc,if_neg (fun h=>hc (by simpa using h))]; simp
 | b::r,cur=>by
  by_cases hb:b=32
  ·subst hb
   obtain ⟨p,ps,h1,h2⟩:=Oh r []
   refine ⟨[],p::ps,by unfold pcs; rw [if_pos rfl,h1],?_⟩
   unfold wsp
   rw [if_pos rfl]
   by_cases hc:cur=[]
   ·rw [if_pos hc,if_pos (by simp [hc])]
   ·rw [if_neg hc,h2]
    rw [List.nil_append]
    by_cases hm:[] ∈ p::ps
    ·rw [if_pos hm,if_pos (List.mem_cons_of_mem _ hm)]; rfl
    ·rw [if_neg hm,if_neg (fun h=>by
      rcases List.mem_cons.1 h with h | h
      ·exact hc (by simpa using h.symm)
      ·exact hm h)]
     simp
  ·obtain ⟨p,ps,h1,h2⟩:=Oh r (cur++[b])
   refine ⟨b::p,ps,by unfold pcs; rw [if_neg hb,h1],?_⟩
   unfold wsp
   rw [if_neg hb,h2]
   simp
theorem Rx (line:List UInt8) (hn:line.length<=3000):Ew line=some (if [] ∈ pcs 32 line then ([],false) else (pcs 32 line,true)):=by
 obtain ⟨q,a1,a2⟩:=KE line hn line [] [] [] 100000 rfl (by omega) (by simp)
 have a1:CL line 100000 0 0 []=some q:=a1
 obtain ⟨p,ps,h1,h2⟩:=Oh line []
 rw [List.nil_append,<-h1] at h2
 unfold Ew
 rw [a1,OS]
 cases q with
 | inl p =>
  obtain ⟨a,o⟩:=p
  obtain ⟨d,c,b1,rfl,b3,b4⟩:=a2
  show (if ((d.length:Int)==(line.length:Int))=true then _ else _)=_
  by_cases hc:c=[]
  ·rw [if_pos hc] at b4
   rw [b4] at h2
   rw [if_pos (by rw [b1,hc]; simp)]
   split at h2
   ·next hm=>rw [if_pos hm]
   ·cases h2
  ·rw [if_neg hc] at b4
   obtain ⟨o',e1,e2⟩:=b4
   have hcl:0 < c.length:=List.length_pos_iff.2 hc
   have hll:line.length=d.length + c.length:=by rw [b1]; simp
   have hdr:(line.take line.length).drop d.length=c:=by rw [List.take_length,b1,List.drop_left]
   rw [e2] at h2
   rw [if_neg (by simp; omega),if_pos (by simp only [By,Bool.and_eq_true,decide_eq_true_eq]; omega)]
   show (if FX 16 (o.length + [((line.take (line.length:Int).toNat).drop (d.length:Int).toNat)].length)=true then some (o++[((line.take (line.length:Int).toNat).drop (d.length:Int).toNat)],true) else none)=_
   rw [Int.toNat_natCast,Int.toNat_natCast,hdr,if_pos (IX (by omega) (by simp; omega))]
   split at h2
   ·cases h2
   ·next hm =>
    rw [if_neg hm,<-OI h2,e1]
    rfl
 | inr u =>
  have a2:wsp [] line=none:=a2
  rw [a2] at h2
  show some ([],false)=_
  split at h2
  ·next hm=>rw [if_pos hm]
  ·cases h2
theorem Qg {α:Type}(a b:List α) (x y:α):(a++x::b).set a.length y=a++y::b:=by
 rw [List.set_append_right _ _ (Nat.le_refl _),Nat.sub_self]; rfl
theorem Qd {c:UInt8}{s:List UInt8}(h:(pcs c s).length=1):pcs c s=[s]:=by
 rw [Ml] at h
 exact LL c fun hm=>by
  have:=List.count_pos_iff.2 hm
  omega
theorem Ot {lo hi n:Nat}(h1:lo<=hi) (h2:hi<=n):By (lo:Int) (hi:Int) n=true:=by
 simp only [By,Bool.and_eq_true,decide_eq_true_eq]; omega
theorem MK (line:List UInt8) (N:Nat) (hN:N<=3001) (r7:Int) (hr:wr .i64 ((mnI r7 (wr .i64 ((line.length:Int) + 1))) - 1)=(N:Int) - 1):∀ (d:Nat) (s:List UInt8) (ws:List (List UInt8)) (f:Nat),s.length<=3000->(pcs 32 s).length=d + 1->ws.length + d + 1=N->d < f->∃ (last:List UInt8) (W:List (List UInt8)),Be line [32] 0 r7 f s ws.length (ws++List.replicate (d + 1) [])=some (last,(W.length:Int),W++[[]])/\W++[last]=ws++pcs 32 s/\W.length + 1=N
 | 0,s,ws,f + 1,_,h,hw,_=>by
  refine ⟨s,ws,?_,by rw [Qd h],hw⟩
  unfold Be
  rw [hr,if_neg (by rw [decide_eq_true_eq]; omega)]
  rfl
 | d + 1,s,ws,f + 1,hs,h,hw,hf=>by
  cases hf2:NB 32 s with
  | none =>
   rw [LL 32 (MV hf2)] at h
   simp at h
  | some m =>
   obtain ⟨a1,_,_⟩:=JU hf2
   have hp:=SK hf2
   obtain ⟨last,W,b1,b2,b3⟩:=MK line N hN r7 hr d (s.drop (m + 1)) (ws++[s.take m]) f (by simp; omega) (by rw [hp] at h; simpa using h) (by simp; omega) (by omega)
   refine ⟨last,W,?_,by rw [b2,hp]; simp,b3⟩
   have hx:CF s [32]=some (m:Int):=by rw [Oz,hf2]
   have e1:wr .i64 ((m:Int) + 0)=(m:Int):=by rw [Ke (by omega) (by omega)]; omega
   have e2:wr .i64 ((m:Int) + (([32]:List UInt8).length:Int))=((m + 1:Nat):Int):=by rw [Ke (by simp; omega) (by simp; omega)]; simp
   have e3:wr .i64 ((ws.length:Int) + 1)=((ws++[s.take m]).length:Int):=by rw [Ke (by omega) (by omega)]; simp
   have e4:ws++List.replicate (d + 1 + 1) ([]:List UInt8)=ws++[]::List.replicate (d + 1) []:=by rw [List.replicate_succ]
   have e5:(ws++List.replicate (d + 1 + 1) ([]:List UInt8)).set ws.length (s.take m)=(ws++[s.take m])++List.replicate (d + 1) []:=by rw [e4,Qg]; simp
   have k1:By ((0:Nat):Int) (m:Int) s.length=true:=Ot (Nat.zero_le _) (Nat.le_of_lt a1)
   have k1:By 0 (m:Int) s.length=true:=k1
   have k2:By ((m + 1:Nat):Int) (s.length:Int) s.length=true:=Ot a1 (Nat.le_refl _)
   have g1:(ws.length:Int) < (N:Int) - 1:=by clear hr; omega
   have g2:¬ (m:Int) < 0:=by clear hr; omega
   have k3:idx (ws++List.replicate (d + 1 + 1) ([]:List UInt8)) (ws.length:Int)=some []:=by rw [e4]; exact Cu _ _ _
   conv=>lhs; unfold Be
   rw [hr,if_pos (decide_eq_true g1),hx,OS,if_neg (by rw [decide_eq_true_eq]; exact g2),e1,if_pos k1,k3,OS,e2,if_pos k2,Int.toNat_natCast,Int.toNat_natCast,Int.toNat_natCast,Int.toNat_natCast,List.take_length,e3]
   rw [<-b1,<-e5]
   rfl
theorem Rl (line:List UInt8) (hl:line.length<=3000):Dl line [32]=some (pcs 32 line):=by
 have hc:line.count 32<=line.length:=List.count_le_length
 have hN:=Ml 32 line
 have hj:CO line [32] (-1)=some (((line.count 32 + 1:Nat)):Int):=by
  unfold CO
  rw [if_pos (by decide)]
  show some (wr .i64 (((line.count 32:Nat):Int) + 1))=_
  rw [Ke (by omega) (by omega)]
  rfl
 have hM:mnI ((line.count 32 + 1:Nat):Int) (wr .i64 ((line.length:Int) + 1))=((line.count 32 + 1:Nat):Int):=by
  rw [Ke (by omega) (by omega)]
  unfold mnI
  rw [if_neg (by omega)]
 obtain ⟨last,W,a1,a2,a3⟩:=MK line (line.count 32 + 1) (by omega) ((line.count 32 + 1:Nat):Int) (by rw [hM,Ke (by omega) (by omega)]) (line.count 32) line [] 100000 hl hN (by simp) (by omega)
 rw [List.nil_append,show ((([]:List (List UInt8)).length:Nat):Int)=0 from rfl] at a1
 rw [List.nil_append] at a2
 unfold Dl Dd
 rw [if_neg (by decide),if_neg (by decide),hj,OS,hM,if_pos (by simp only [TW,Bool.and_eq_true,decide_eq_true_eq]; omega),Int.toNat_natCast,a1,OS]
 have e1:wr .i64 ((W.length:Int) + 1)=((W.length + 1:Nat):Int):=by rw [Ke (by omega) (by omega)]; omega
 have e2:(W++[[]]).set W.length last=W++[last]:=Qg W [] [] last
 have e3:(W++[last]).take (W.length + 1)=W++[last]:=List.take_of_length_le (by simp)
 have k1:TU ((W.length + 1:Nat):Int) (W++[last]).length=true:=by simp only [TU,List.length_append,List.length_singleton,Bool.and_eq_true,decide_eq_true_eq]; omega
 simp only []
 rw [show idx (W++[[]]) (W.length:Int)=some [] from Cu _ _ _,OS,Int.toNat_natCast,e1,e2,if_pos k1,Int.toNat_natCast,e3,OS,a2]
theorem J0 (text:List UInt8) (hn:text.length<=3000):∀ (rest done cur:List UInt8) (out:List (List UInt8)) (f:Nat),text=done++cur++rest->(10:UInt8) ∉ cur->rest.length < f->out.length<=done.length->∃ (d c:List UInt8) (o:List (List UInt8)),Cz text f done.length ((done.length + cur.length:Nat):Int) out=some ((d.length:Int),o)/\text=d++c/\out++pcs 10 (cur++rest)=o++[c]/\o.length<=d.length
 | [],done,cur,out,f + 1,h,hc,_,ho=>by
  refine ⟨done,cur,out,?_,by rw [h]; simp,by rw [List.append_nil,LL 10 hc],ho⟩
  unfold Cz
  rw [if_neg (by rw [h]; simp)]
 | b::r,done,cur,out,f + 1,h,hc,hf,ho=>by
  have hlen:done.length + cur.length < text.length:=by rw [h]; simp
  have hi:idx text ((done.length + cur.length:Nat):Int)=some b:=by
   have:=Cu (done++cur) b r
   rw [List.length_append] at this
   rw [h]; exact this
  have hs:wr .i64 (((done.length + cur.length:Nat):Int) + 1)=((done.length + cur.length + 1:Nat):Int):=by
   rw [Ke (by omega) (by omega)]; omega
  by_cases hb:b=10
  ·subst hb
   obtain ⟨d,c,o,a1,a2,a3,a4⟩:=J0 text hn r (done++cur++[10]) [] (out++[cur]) f (by rw [h]; simp) (by simp) (by simp at hf; omega) (by simp; omega)
   refine ⟨d,c,o,?_,a2,by rw [OR 10 r hc,<-a3]; simp,a4⟩
   have hcut:(text.take (done.length + cur.length)).drop done.length=cur:=by
    rw [h,<-List.length_append,List.append_assoc,<-List.append_assoc done cur,List.take_left,List.drop_left]
   have k2:By (done.length:Int) ((done.length + cur.length:Nat):Int) text.length=true:=by simp only [By,Bool.and_eq_true,decide_eq_true_eq]; omega
   have k3:FX 16 (out.length + [cur].length)=true:=IX (by omega) (by simp; omega)
   unfold Cz Ev
   rw [if_pos (decide_eq_true (by omega)),hi,OS]
   rw [if_pos (show (((10:UInt8).toNat:Int)==10)=true by decide)]
   rw [if_pos k2,Int.toNat_natCast,Int.toNat_natCast,hcut,if_pos k3,OS,hs]
   simp only []
   have e1:(done++cur++[10]).length=done.length + cur.length + 1:=by simp; omega
   rw [e1] at a1
   exact a1
  ·have hb':((b.toNat:Int)==10)=false:=by
    have:b.toNat≠10:=fun e=>hb (UInt8.toNat.inj (by rw [e]; rfl))
    simp; omega
   obtain ⟨d,c,o,a1,a2,a3,a4⟩:=J0 text hn r done (cur++[b]) out f (by rw [h]; simp) (by simp only [List.mem_append,List.mem_singleton,not_or]; exact ⟨hc,fun e=>hb e.symm⟩) (by simp at hf; omega) ho
   refine ⟨d,c,o,?_,a2,by rw [<-a3]; simp,a4⟩
   unfold Cz Ev
   rw [if_pos (decide_eq_true (by omega)),hi,OS,hb',if_neg (by simp),OS,hs]
   simp only []
   have e1:(cur++[b]).length=cur.length + 1:=by simp
   rw [e1] at a1
   exact a1
theorem RS (text:List UInt8) (hn:text.length<=3000):∃ (o:List (List UInt8)) (c:List UInt8),pcs 10 text=o++[c]/\F5 text=some (if c=[] then (o,true) else (o++[c],false)):=by
 obtain ⟨d,c,o,a1,a2,a3,a4⟩:=J0 text hn text [] [] [] 100000 rfl (by simp) (by omega) (by simp)
 have a1:Cz text 100000 0 0 []=some ((d.length:Int),o):=a1
 rw [List.nil_append,List.nil_append] at a3
 refine ⟨o,c,a3,?_⟩
 have hll:text.length=d.length + c.length:=by rw [a2]; simp
 unfold F5
 rw [a1,OS]
 simp only []
 by_cases hc:c=[]
 ·rw [if_neg (by rw [decide_eq_true_eq,hll,hc]; simp),if_pos hc]
 ·have hcl:0 < c.length:=List.length_pos_iff.2 hc
  have hdr:(text.take text.length).drop d.length=c:=by rw [List.take_length,a2,List.drop_left]
  have k2:By (d.length:Int) (text.length:Int) text.length=true:=by simp only [By,Bool.and_eq_true,decide_eq_true_eq]; omega
  rw [if_pos (decide_eq_true (by omega)),if_pos k2,Int.toNat_natCast,Int.toNat_natCast,hdr,if_pos (IX (by omega) (by simp; omega)),if_neg hc]
def M4 (x:AJ):Prop:=x.2.1.length<=9999/\x.2.2.2.1.length<=9999/\∀ s ∈ x.2.2.2.1,s.length<=9999
def Qp (c:List AJ):Prop:=c.length<=9999/\∀ x ∈ c,M4 x
theorem Tw (b:List AJ) (x:AJ) (hb:Qp b) (hx:M4 x):D0 b x=some (chk b x):=by
 have hn:∀ s ∈ x.2.2.2.1,s.length<=99999:=fun s hs=>by have:=hx.2.2 s hs; omega
 unfold D0 chk
 rw [Vt,OS]
 cases hf:fm x with
 | false=>simp
 | true =>
  rw [if_neg (show ¬ ((!true)=true) by simp),if_neg (show ¬ (true=false) by simp),S4 _ (by have:=hx.2.1; omega) hn,QT _ (by have:=hx.1; omega)]
  have e:((if (!(x.2.1==[]))=true then (some (DK x.2.1)).bind fun v3=>if (!v3)=true then some true else (some (x.2.2.2.1.any fun s=>!DK s)).bind fun v4=>some v4 else (some (x.2.2.2.1.any fun s=>!DK s)).bind fun v5=>some v5):Option Bool)=some (((!(x.2.1==[]))&&!DK x.2.1)||(x.2.2.2.1.any fun s=>!DK s)):=by
   cases (x.2.1==[]) <;> cases DK x.2.1 <;> rfl
  rw [e,OS]
  cases hq:(((!(x.2.1==[]))&&!DK x.2.1)||(x.2.2.2.1.any fun s=>!DK s)) with
  | true=>rw [if_pos rfl,if_pos (by simpa using hq)]
  | false =>
   rw [if_neg (show ¬ (false=true) by simp),if_neg (show ¬ (((!(x.2.1==[]))&&!DK x.2.1)=true\/(x.2.2.2.1.any fun s=>!DK s)=true) by simpa using hq),VF _ _ (by have:=hx.2.1; omega),OS]
   try dsimp only
   cases hd:SC x.2.2.2.1 x.2.2.2.1 0 with
   | true=>rfl
   | false =>
    rw [if_neg (show ¬ (false=true) by simp)]
    dsimp only
    have hr:=Rb b x (by have:=hb.1; omega) (fun y hy=>by have:=(hb.2 y hy).2.1; omega)
    rw [hr]
    by_cases ha:x.2.1=[]
    ·simp [ha]
    ·simp only [ha,false_or]
     cases Jb b x.2.1 <;> simp [ha]
section
variable (c pre r:List AJ) (x:AJ) (e:c=pre++x::r) (h:Qp c)
include e h
theorem Pd:Br c (pre.length:Int) 100000 0=some (if (x.2.2.2.1.any fun s=>!DK s)=true then .inr 4 else .inl ()):=by
 have hx:M4 x:=h.2 x (by rw [e]; simp)
 have hi:idx c (pre.length:Int)=some x:=by rw [e,Cu]
 rw [<-SG _ 0]
 refine KM x.2.2.2.1 (Br c (pre.length:Int)) _ _ 100000 (by have:=hx.2.1; omega) (fun f p v q e'=>?_) (fun f=>?_)
 ·conv=>lhs; unfold Br
  have hv:=hx.2.2 v (by rw [e']; simp)
  rw [hi,OS,if_pos (by rw [e']; exact KN p v q),OS,show idx x.2.2.2.1 (p.length:Int)=some v by rw [e',Cu],OS,O2 v (by omega),OS,Hd p v q (by have:=hx.2.1; rw [<-e']; omega)]
 ·conv=>lhs; unfold Br
  rw [hi,OS,if_neg (by simp)]
theorem Rf:Bt c (pre.length:Int) 100000 0=some (if SC x.2.2.2.1 x.2.2.2.1 0=true then .inr 5 else .inl ()):=by
 have hx:M4 x:=h.2 x (by rw [e]; simp)
 have hi:idx c (pre.length:Int)=some x:=by rw [e,Cu]
 rw [<-OD]
 refine KM x.2.2.2.1 (Bt c (pre.length:Int)) _ _ 100000 (by have:=hx.2.1; omega) (fun f p v q e'=>?_) (fun f=>?_)
 ·conv=>lhs; unfold Bt
  have hl:x.2.2.2.1.length=p.length + q.length + 1:=by rw [e']; simp; omega
  have:=hx.2.1
  rw [hi,OS,if_pos (by rw [e']; exact KN p v q),OS,if_pos (by unfold By; simp; omega),OS,show idx x.2.2.2.1 (p.length:Int)=some v by rw [e',Cu],OS,Int.toNat_natCast,
   show ((x.2.2.2.1.take p.length).drop (0:Int).toNat)=x.2.2.2.1.take p.length from rfl,SI _ _ (by simp; omega),OS,Hd p v q (by rw [<-e']; omega)]
 ·conv=>lhs; unfold Bt
  rw [hi,OS,if_neg (by simp)]
theorem OX:Bu c (pre.length:Int) 100000 0=some (if Jb pre x.2.1=true then .inr 0 else .inl ()):=by
 have hi:idx c (pre.length:Int)=some x:=by rw [e,Cu]
 have hl:c.length=pre.length + r.length + 1:=by rw [e]; simp; omega
 have hc:=h.1
 rw [<-SH _ _ 0]
 refine KM pre (Bu c (pre.length:Int)) _ _ 100000 (by omega) (fun f p v q e'=>?_) (fun f=>?_)
 ·conv=>lhs; unfold Bu
  have hv:M4 v:=h.2 v (by rw [e,e']; simp)
  have hl2:pre.length=p.length + q.length + 1:=by rw [e']; simp; omega
  rw [if_pos (by simp; omega),show idx c (p.length:Int)=some v by rw [e,e',List.append_assoc,List.cons_append,Cu],OS,hi,OS,OS,SI _ _ (by have:=hv.2.1; omega),Hd p v q (by rw [<-e']; omega)]
  cases (v.1==1) <;> rfl
 ·conv=>lhs; unfold Bu
  rw [if_neg (by simp)]
theorem Tx:C1 c (pre.length:Int)=some (chk pre x):=by
 have hx:M4 x:=h.2 x (by rw [e]; simp)
 have hi:idx c (pre.length:Int)=some x:=by rw [e,Cu]
 unfold C1 chk
 rw [hi,OS,Vu,OS,OS,OS,Pd c pre r x e h,Rf c pre r x e h,OX c pre r x e h,O2 _ (by have:=hx.1; omega)]
 cases hf:fm x with
 | false=>simp
 | true =>
  rw [if_neg (show ¬ ((!true)=true) by simp),if_neg (show ¬ (true=false) by simp)]
  have e2:((if (!(x.2.1==[]))=true then (some (DK x.2.1)).bind fun v6=>some (!v6) else some false):Option Bool)=some ((!(x.2.1==[]))&&!DK x.2.1):=by
   cases (x.2.1==[]) <;> rfl
  rw [e2,OS,OS]
  cases hq:((!(x.2.1==[]))&&!DK x.2.1) <;> cases hn:(x.2.2.2.1.any fun s=>!DK s) <;> cases hd:SC x.2.2.2.1 x.2.2.2.1 0 <;> cases hr:Jb pre x.2.1 <;> by_cases ha:x.2.1=[] <;> simp [ha]
end
theorem Rk (a b:List AJ) (h:Qp a):El a b=some (decide (a=b)):=by
 unfold El AK
 rw [<-KG (p:=fun x y=>decide (x=y)) (fun _ _=>rfl) a b]
 have:=Pq a b (by have:=h.1; omega) B5 (fun x y=>decide (x=y)) (fun x hx y _=>UR x y (by have:=(h.2 x hx).2.1; omega)) (AN a b) (fun f c=>rfl)
 exact (congrArg (fun o=>o.bind fun v1=>some v1) this)
theorem Bn {α β:Type}(v:α) (k:α->Option (β ⊕ Int)):B8 (some (.inl v)) k=k v:=rfl
theorem DZ {α β:Type}(e:Int) (k:α->Option (β ⊕ Int)):B8 (some (.inr e)) k=some (.inr e):=rfl
theorem JZ (e:Int):BK true e=some (.inl ()):=rfl
theorem IG (e:Int):BK false e=some (.inr e):=rfl
def wdB (k:Int):List UInt8:=(Ef k).getD []
theorem Qr {k:Int}(h1:1<=k) (h2:k<=10):Ef k=some (wdB k)/\Fg k=some (wdB k)/\0 < (wdB k).length/\(wdB k).length<=10:=by
 have:k=1\/k=2\/k=3\/k=4\/k=5\/k=6\/k=7\/k=8\/k=9\/k=10:=by omega
 rcases this with rfl | rfl | rfl | rfl | rfl | rfl | rfl | rfl | rfl | rfl <;> exact ⟨rfl,rfl,by decide,by decide⟩
/- The kind of a word. -/
def kdG (w:List UInt8):Nat->Int->Int->Int
 | 0,_,acc=>acc
 | d + 1,k,acc=>kdG w d (k + 1) (if (wdB k==w)=true then k else acc)
def kd (w:List UInt8):Int:=kdG w 10 1 0
theorem VS (s:List UInt8) (r:List (List UInt8)) (am:List UInt8):∀ (d:Nat) (k acc:Int) (f:Nat),k + d=11->1<=k->d < f->Cp (s,r,am) f k acc=some (.inl (kdG s d k acc))
 | 0,k,acc,f + 1,h,_,_=>by
  unfold Cp
  rw [if_neg (by rw [decide_eq_true_eq]; omega)]
  rfl
 | d + 1,k,acc,f + 1,h,h1,hf=>by
  unfold Cp
  rw [if_pos (decide_eq_true (by omega)),(Qr h1 (by omega)).1,OS]
  unfold EE
  have ih:=VS s r am d (k + 1) (if (wdB k==s)=true then k else acc) f (by omega) (by omega) (by omega)
  unfold kdG
  rw [<-ih,TI (by omega) (by omega)]
  split <;> rfl
theorem Vj (q:(List (List UInt8))×Int×(List UInt8)×Bool×Int×Int×(List UInt8)×Bool×Int) (s:List UInt8) (hs:idx q.1 0=some s) (a b:Int) (am c:List UInt8) (x y:Bool):∀ (d:Nat) (k acc:Int) (f:Nat),k + d=11->1<=k->d < f->B3 q f a am x b acc c y 0 k=some (a,am,x,b,kdG s d k acc,c,y,0)
 | 0,k,acc,f + 1,h,_,_=>by
  unfold B3
  rw [if_neg (by rw [decide_eq_true_eq]; omega)]
  rfl
 | d + 1,k,acc,f + 1,h,h1,hf=>by
  unfold B3
  rw [if_pos (decide_eq_true (by omega)),hs,OS,(Qr h1 (by omega)).2.1,OS]
  unfold EU
  have ih:=Vj q s hs a b am c x y d (k + 1) (if (wdB k==s)=true then k else acc) f (by omega) (by omega) (by omega)
  unfold kdG
  rw [<-ih,Ke (by omega) (by omega),TI (by omega) (by omega)]
  have:(s==wdB k)=(wdB k==s):=by generalize wdB k=t; rw [Bool.eq_iff_iff,beq_iff_eq,beq_iff_eq]; exact ⟨Eq.symm,Eq.symm⟩
  rw [this]
  split <;> rfl
theorem SJ (w:List UInt8):∀ (d:Nat) (k acc:Int),1<=k->k + d=11->0<=acc->acc<=10->0<=kdG w d k acc/\kdG w d k acc<=10
 | 0,_,acc,_,_,h1,h2=>⟨h1,h2⟩
 | d + 1,k,acc,hk,he,h1,h2=>by
  unfold kdG
  refine SJ w d (k + 1) _ (by omega) (by omega) ?_ ?_ <;> split <;> omega
theorem PT (w:List UInt8):0<=kd w/\kd w<=10:=SJ w 10 1 0 (by omega) (by omega) (by omega) (by omega)
/- Numbers of the program. -/
theorem NJ (w:List UInt8) (hw:w.length<=9):∀ (r pre:List UInt8) (f acc:Nat),w=pre++r->r.length < f->acc < 10 ^ pre.length->Bx w f acc pre.length=some (match Rt acc r with | some x=> .inl (x:Int) | none=> .inr 3)
 | [],pre,f + 1,acc,h,_,_=>by
  unfold Bx
  rw [if_neg (by rw [h]; simp)]
  rfl
 | b::r,pre,f + 1,acc,h,hf,ha=>by
  have hi:idx w (pre.length:Int)=some b:=by rw [h]; exact Cu pre b r
  have hl:pre.length < w.length:=by rw [h]; simp
  unfold Bx
  rw [if_pos (by simp; exact hl),hi,OS,OS,OS]
  unfold Rt
  by_cases hb:48<=b.toNat/\b.toNat<=57
  ·have hp:10 ^ pre.length<=10 ^ 8:=Nat.pow_le_pow_right (by omega) (by omega)
   have e1:(10:Nat) ^ 8=100000000:=by decide
   have e2:(10:Nat) ^ (pre++[b]).length=10 ^ pre.length * 10:=by rw [List.length_append,List.length_singleton,Nat.pow_succ]
   have e3:wr .i64 (wr .i64 (10 * (acc:Int)) + wr .i64 (wr .u8 ((b.toNat:Int) - 48)))=((10 * acc + (b.toNat - 48):Nat):Int):=by
    rw [TI (by omega) (by omega),Ke (n:=10 * (acc:Int)) (by omega) (by omega),Ke (n:=(b.toNat:Int) - 48) (by omega) (by omega),Ke (by omega) (by omega)]
    omega
   have ih:=NJ w hw r (pre++[b]) f (10 * acc + (b.toNat - 48)) (by rw [h]; simp) (by simp at hf; omega) (by rw [e2]; omega)
   rw [if_pos (decide_eq_true (by omega)),OS,show decide ((b.toNat:Int)<=57)=true from decide_eq_true (by omega),JZ,Bn,if_pos hb,e3,Ke (n:=(pre.length:Int) + 1) (by omega) (by omega),<-ih,Mu pre b]
  ·rw [if_neg hb]
   by_cases h1:(b.toNat:Int)≥48
   ·rw [if_pos (decide_eq_true h1),OS,show decide ((b.toNat:Int)<=57)=false from decide_eq_false (by omega),IG,DZ]
   ·rw [if_neg (by simpa using h1),OS,IG,DZ]
theorem Gu (w : List UInt8) : DJ w = some (match Ia w with | some x => .inl (x : Int) | none => .inr 3) := by
  unfold DJ Ia
  by_cases h0 : w.length = 0
  · rw [if_neg (by rw [decide_eq_true_eq]; omega), OS, IG, DZ, if_pos (.inl h0)]
  · rw [if_pos (decide_eq_true (by omega))]
    by_cases h9 : 9 < w.length
    · rw [if_neg (by rw [decide_eq_true_eq]; omega), OS, IG, DZ, if_pos (.inr h9)]
    · rw [if_pos (decide_eq_true (by omega)), if_neg (show ¬ (w.length = 0 ∨ 9 < w.length) by omega)]
      obtain ⟨b, r, rfl⟩ := List.exists_cons_of_ne_nil (fun e => h0 (by rw [e]; rfl) : w ≠ [])
      have hb : (((b.toNat : Int) != 48) = true) ↔ b ≠ 48 := by
        rw [bne_iff_ne]
        constructor
        · intro h e; exact h (by rw [e]; rfl)
        · intro h e; exact h (UInt8.toNat.inj (by have : b.toNat = 48 := by omega
                                                  rw [this]; rfl))
      have hgo : (B8 (Bx (b :: r) 100000 0 0) fun r20 => some (.inl r20)) = some (match Rt 0 (b :: r) with | some x => .inl (x : Int) | none => .inr 3) := by
        have hl := NJ (b :: r) (by omega) (b :: r) [] 100000 0 rfl (by omega) (by simp)
        have hl : Bx (b :: r) 100000 0 0 = _ := hl
        rw [hl]
        cases Rt 0 (b :: r) <;> rfl
      by_cases h1 : r.length = 0
      · rw [if_pos (by rw [beq_iff_eq, List.length_cons, h1]; rfl), OS, JZ, Bn, if_neg (by rw [List.length_cons]; omega), hgo]
      · rw [if_neg (by rw [beq_iff_eq, List.length_cons]; omega), show idx (b :: r) 0 = some b from rfl, OS, OS]
        by_cases hz : b = 48
        · rw [show ((b.toNat : Int) != 48) = false by rw [Bool.eq_false_iff]; exact fun h => hb.1 h hz, IG, DZ, if_pos ⟨by rw [List.length_cons]; omega, by rw [hz]; rfl⟩]
        · rw [hb.2 hz, JZ, Bn, if_neg (fun h => hz (by simpa using h.2)), hgo]
def amB:List UInt8:=[97,109,111,110,103]
def ftB:List UInt8:=[102,105,114,115,116]
def laB:List UInt8:=[108,97,115,116]
def Gz (w:List UInt8):Bool:=(w==ftB)||(w==laB)
/-- What stands behind the kind. -/
def clK (am:List UInt8) (k:Int) (r:List (List UInt8)):Option AJ :=
 if k=0 then none
 else if k=1 then (if r=[] then none else some (1,am,false,r,0))
 else if k=4 then (match r with
  | [n,l]=>match Ia n with
   | some x=>if Gz l=true then some (4,am,l==laB,[],(x:Int)) else none
   | none=>none
  | _=>none)
 else if k=5 then (match r with
  | [l]=>if Gz l=true then some (5,am,l==laB,[],0) else none
  | _=>none)
 else if k=6\/k=7 then (match r with
  | l::n::ns=>if Gz l=true then some (k,am,l==laB,n::ns,0) else none
  | _=>none)
 else if k=10 then (match r with
  | [n]=>match Ia n with
   | some x=>some (10,am,false,[],(x:Int))
   | none=>none
  | _=>none)
 else if r=[] then some (k,am,false,[],0) else none
def clW:List (List UInt8)->Option AJ
 | []=>none
 | s::r=>if s=amB then (match r with
  | a::s'::r'=>clK a (kd s') r'
  | _=>none) else clK [] (kd s) r
def inR {α:Type}:Option α->α ⊕ Int
 | some c=> .inl c
 | none=> .inr 3
/- The reader. -/
theorem TT {α:Type}(a:α) (r:List α) (h:r.length<=9999):By 1 ((a::r).length:Int) (a::r).length=true/\(((a::r).take ((a::r).length:Int).toNat).drop (1:Int).toNat)=r:=by
 refine ⟨?_,?_⟩
 ·simp only [By,Bool.and_eq_true,decide_eq_true_eq,List.length_cons]; omega
 ·rw [Int.toNat_natCast,List.take_length]; rfl
def nxR:List (List UInt8)->(List UInt8×List (List UInt8)) ⊕ Int
 | []=> .inr 3
 | s::r=> .inl (s,r)
theorem MF (ws:List (List UInt8)) (h:ws.length<=9999):A7 ws=some (nxR ws):=by
 unfold A7
 cases ws with
 | nil=>rfl
 | cons s r =>
  obtain ⟨h1,h2⟩:=TT s r (by simp at h; omega)
  rw [show decide (((s::r).length:Int) > 0)=true from decide_eq_true (by rw [List.length_cons]; omega),JZ,Bn,show idx (s::r) 0=some s from rfl,OS,if_pos h1,h2]
  rfl
theorem UD (ws:List (List UInt8)) (h:ws.length<=9999):DR ws=some (nxR ws):=MF ws h
theorem LG (ws:List (List UInt8)):B4 ws=some (if ws=[] then .inr 3 else .inl (ws,[])):=by
 unfold B4
 cases ws with
 | nil=>rfl
 | cons s r=>rw [show decide (((s::r).length:Int) > 0)=true from decide_eq_true (by rw [List.length_cons]; omega),JZ,Bn]; rfl
def laR:List (List UInt8)->(Bool×List (List UInt8)) ⊕ Int
 | []=> .inr 3
 | l::r=>if Gz l=true then .inl (l==laB,r) else .inr 3
theorem NY (ws:List (List UInt8)) (h:ws.length<=9999):Bq ws=some (laR ws):=by
 unfold Bq
 rw [MF ws h]
 cases ws with
 | nil=>rfl
 | cons l r =>
  show (B8 (some (.inl (l,r))) _)=some (if Gz l=true then _ else _)
  rw [Bn]
  unfold Gz
  show ((if (l==ftB)=true then some true else some (l==laB)).bind fun j4=>B8 (BK j4 3) fun v11=>some (.inl ((l==laB),r)))=_
  cases l==ftB <;> cases l==laB <;> rfl
/- All words stand for something. -/
theorem L6 (v:List (List UInt8)) (hv:v.length<=9999):∀ (r pre:List (List UInt8)) (f:Nat),v=pre++r->r.length < f->CK v f pre.length=some (if [] ∈ r then .inr 3 else .inl ())
 | [],pre,f + 1,h,_=>by
  unfold CK
  rw [if_neg (by rw [h]; simp)]
  rfl
 | w::r,pre,f + 1,h,hf=>by
  have hl:v.length=pre.length + r.length + 1:=by rw [h]; simp; omega
  unfold CK
  rw [if_pos (decide_eq_true (by omega)),show idx v (pre.length:Int)=some w by rw [h]; exact Cu pre w r,OS]
  cases w with
  | nil=>rw [show (!(([]:List UInt8)==[]))=false from rfl,IG,DZ,if_pos (by simp)]
  | cons b w =>
   rw [show (!((b::w)==[]))=true from rfl,JZ,Bn,Ke (by omega) (by omega),Mu pre (b::w),L6 v hv r (pre++[b::w]) f (by rw [h]; simp) (by simp at hf; omega)]
   have:([] ∈ (b::w)::r)↔[] ∈ r:=by simp
   by_cases hm:[] ∈ r
   ·rw [if_pos hm,if_pos (this.2 hm)]
   ·rw [if_neg hm,if_neg (fun e=>hm (this.1 e))]
/-- What the program does behind the kind. -/
theorem SO (s am:List UInt8) (r:List (List UInt8)) (k:Int) (hr:r.length<=9999) (h0:0<=k) (h10:k<=10) :
  (B8 (BK (k != 0) 3) fun _=>B8 (A1 (s,r,am) k) fun r192=>B8 (BK ((r192.1.length:Int)==0) 3) fun _=>some (.inl (k,am,r192.2.1,r192.2.2.1,r192.2.2.2)))=some (inR (clK am k r)):=by
 have hk:k=0\/k=1\/k=2\/k=3\/k=4\/k=5\/k=6\/k=7\/k=8\/k=9\/k=10:=by omega
 have hd:∀ (x:List UInt8) (q:List (List UInt8)),r=x::q->q.length<=9999:=fun x q e=>by rw [e] at hr; simp at hr; omega
 have ne:∀ (x:List UInt8) (q:List (List UInt8)),(((x::q).length:Int)==0)=false:=fun x q=>by rw [beq_eq_false_iff_ne,List.length_cons]; omega
 have nil0:((([]:List (List UInt8)).length:Int)==0)=true:=rfl
 rcases hk with rfl | rfl | rfl | rfl | rfl | rfl | rfl | rfl | rfl | rfl | rfl
 ·rfl
 ·show (B8 (A1 (s,r,am) 1) _)=_
  unfold A1
  rw [if_pos (by rfl),LG]
  cases r <;> rfl
 ·cases r with
  | nil=>rfl
  | cons x q=>show (B8 (BK (((x::q).length:Int)==0) 3) fun _=>some (.inl ((2:Int),am,false,([]:List (List UInt8)),(0:Int))))=_; rw [ne]; rfl
 ·cases r with
  | nil=>rfl
  | cons x q=>show (B8 (BK (((x::q).length:Int)==0) 3) fun _=>some (.inl ((3:Int),am,false,([]:List (List UInt8)),(0:Int))))=_; rw [ne]; rfl
 ·show (B8 (A1 (s,r,am) 4) _)=_
  unfold A1 CJ
  rw [if_neg (by decide),if_pos (by rfl),MF _ hr]
  match r,hr with
  | [],_=>rfl
  | [n],_ =>
   simp only [nxR,Bn,Gu]
   cases Ia n <;> rfl
  | [n,l],_ =>
   have e:clK am 4 [n,l]=(match Ia n with
    | some x=>if Gz l=true then some (4,am,l==laB,[],(x:Int)) else none
    | none=>none):=rfl
   rw [e]
   simp only [nxR,Bn,Gu,NY [l] (by simp)]
   cases Ia n with
   | none=>rfl
   | some x =>
    cases hf:Gz l with
    | false=>simp only [laR,hf,Bn,DZ,Bool.false_eq_true,if_false]; rfl
    | true=>simp only [laR,hf,Bn,if_true]; rfl
  | n::l::y::q,hr =>
   have e:clK am 4 (n::l::y::q)=none:=rfl
   rw [e]
   simp only [nxR,Bn,Gu,NY (l::y::q) (by simp at hr ⊢; omega)]
   cases Ia n with
   | none=>rfl
   | some x =>
    cases hf:Gz l with
    | false=>simp only [laR,hf,Bn,DZ,Bool.false_eq_true,if_false]; rfl
    | true=>simp only [laR,hf,Bn,if_true,ne,IG,DZ]; rfl
 ·show (B8 (A1 (s,r,am) 5) _)=_
  unfold A1 CJ Co
  rw [if_neg (by decide),if_neg (by decide),if_pos (by rfl),NY _ hr]
  match r,hr with
  | [],_=>rfl
  | [l],_ =>
   have e:clK am 5 [l]=if Gz l=true then some (5,am,l==laB,[],0) else none:=rfl
   rw [e]
   cases hf:Gz l with
   | false=>simp only [laR,hf,DZ,Bool.false_eq_true,if_false]; rfl
   | true=>simp only [laR,hf,Bn,if_true]; rfl
  | l::y::q,_ =>
   have e:clK am 5 (l::y::q)=none:=rfl
   rw [e]
   cases hf:Gz l with
   | false=>simp only [laR,hf,DZ,Bool.false_eq_true,if_false]; rfl
   | true=>simp only [laR,hf,Bn,if_true,ne,IG,DZ]; rfl
 ·show (B8 (A1 (s,r,am) 6) _)=_
  unfold A1 CJ Co DD DE
  rw [if_neg (by decide),if_neg (by decide),if_neg (by decide),if_pos (by rfl),Bn,if_pos (by rfl),NY _ hr]
  match r,hr with
  | [],_=>rfl
  | [l],_ =>
   cases hf:Gz l with
   | false=>simp only [laR,hf,DZ,Bool.false_eq_true,if_false]; rfl
   | true=>simp only [laR,hf,Bn,if_true,LG]; rfl
  | l::n::ns,_ =>
   have e:clK am 6 (l::n::ns)=if Gz l=true then some (6,am,l==laB,n::ns,0) else none:=rfl
   rw [e]
   cases hf:Gz l with
   | false=>simp only [laR,hf,DZ,Bool.false_eq_true,if_false]; rfl
   | true=>simp only [laR,hf,Bn,if_true,LG]; rfl
 ·show (B8 (A1 (s,r,am) 7) _)=_
  unfold A1 CJ Co DD DE
  rw [if_neg (by decide),if_neg (by decide),if_neg (by decide),if_neg (by decide),Bn,if_pos (by rfl),NY _ hr]
  match r,hr with
  | [],_=>rfl
  | [l],_ =>
   cases hf:Gz l with
   | false=>simp only [laR,hf,DZ,Bool.false_eq_true,if_false]; rfl
   | true=>simp only [laR,hf,Bn,if_true,LG]; rfl
  | l::n::ns,_ =>
   have e:clK am 7 (l::n::ns)=if Gz l=true then some (7,am,l==laB,n::ns,0) else none:=rfl
   rw [e]
   cases hf:Gz l with
   | false=>simp only [laR,hf,DZ,Bool.false_eq_true,if_false]; rfl
   | true=>simp only [laR,hf,Bn,if_true,LG]; rfl
 ·cases r with
  | nil=>rfl
  | cons x q=>show (B8 (BK (((x::q).length:Int)==0) 3) fun _=>some (.inl ((8:Int),am,false,([]:List (List UInt8)),(0:Int))))=_; rw [ne]; rfl
 ·cases r with
  | nil=>rfl
  | cons x q=>show (B8 (BK (((x::q).length:Int)==0) 3) fun _=>some (.inl ((9:Int),am,false,([]:List (List UInt8)),(0:Int))))=_; rw [ne]; rfl
 ·show (B8 (A1 (s,r,am) 10) _)=_
  unfold A1 CJ Co DD DE Dy
  rw [if_neg (by decide),if_neg (by decide),if_neg (by decide),if_neg (by decide),Bn,if_neg (by decide),if_pos (by rfl),MF _ hr]
  match r,hr with
  | [],_=>rfl
  | [n],_ =>
   have e:clK am 10 [n]=(match Ia n with
    | some x=>some (10,am,false,[],(x:Int))
    | none=>none):=rfl
   rw [e]
   simp only [nxR,Bn,Gu]
   cases Ia n <;> rfl
  | n::y::q,_ =>
   have e:clK am 10 (n::y::q)=none:=rfl
   rw [e]
   simp only [nxR,Bn,Gu]
   cases Ia n with
   | none=>rfl
   | some x=>simp only [Bn,ne,IG,DZ]; rfl
theorem RD (line:List UInt8) (hl:line.length<=3000):DI line=some (if [] ∈ pcs 32 line then .inr 3 else inR (clW (pcs 32 line))):=by
 have hlen:(pcs 32 line).length<=3001:=by
  have:line.count 32<=line.length:=List.count_le_length
  rw [Ml]; omega
 unfold DI
 rw [Rl line hl,OS]
 generalize pcs 32 line=v at *
 have h1:CK v 100000 0=_:=L6 v (by omega) v [] 100000 rfl (by omega)
 rw [h1]
 by_cases hm:[] ∈ v
 ·rw [if_pos hm,if_pos hm,DZ]
 ·rw [if_neg hm,if_neg hm,Bn,UD v (by omega)]
  match v,hlen with
  | [],_=>rfl
  | s::r,hlen =>
   simp only [List.length_cons] at hlen
   show (B8 (some (.inl (s,r))) _)=_
   rw [Bn]
   unfold ED
   show (B8 (if (s==amB)=true then _ else _) _)=_
   by_cases hs:s=amB
   ·rw [if_pos (by simpa using hs),MF r (by omega)]
    match r,hlen with
    | [],_=>rw [hs]; rfl
    | [a],_=>rw [hs]; rfl
    | a::s'::r',hlen =>
     simp only [List.length_cons] at hlen
     show (B8 (B8 (A7 (s'::r')) fun v48=>some (.inl (v48.1,v48.2,a))) _)=_
     rw [MF _ (by simp; omega)]
     show (B8 (some (.inl (s',r',a))) _)=_
     rw [Bn,VS s' r' a 10 1 0 100000 (by omega) (by omega) (by omega),Bn]
     have e:clW (s::a::s'::r')=clK a (kd s') r':=by
      show (if s=amB then _ else _)=_
      rw [if_pos hs]
     rw [e]
     exact SO s' a r' (kd s') (by omega) (PT s').1 (PT s').2
   ·rw [if_neg (by simpa using hs),Bn,VS s r [] 10 1 0 100000 (by omega) (by omega) (by omega),Bn]
    have e:clW (s::r)=clK [] (kd s) r:=by
     show (if s=amB then _ else _)=_
     rw [if_neg hs]
    rw [e]
    exact SO s [] r (kd s) (by omega) (PT s).1 (PT s).2
end Go.Proofs.YtdjhmdbpcfnpgaaGreatDoor
