/- Lemmas for the proof. -/
import Derived.Test.YtlalcoehgkmhlaaGreatDoorCourtLeastM1
import Derived.Test.YtlalcoehgkmhlaaGreatDoorCourtLeastM2
import Derived.Test.YtlalcoehgkmhlaaGreatDoorCourtLeastM3
set_option maxHeartbeats 4000000
set_option maxRecDepth 100000
namespace Go.Proofs.YtlalcoehgkmhlaaGreatDoor
open Go.RowKit
/- trestle/trestlelaw03.Made -/
noncomputable def Ci:Code:=Bn Tryz.f19
def GK (_x0:(List (Int×Int×Int×Bool×Bool))) (_c2:(List AE)) (_c3:(List UInt8)) (_c4:Int) (v6:(Int×Int×Int×Bool×Bool)):Option (((List (List UInt8)))) :=
 if ((DO .u8 v6.2.2.1 4)!=0)=true then
 if (C7 ((wr .u8 (v6.2.2.1 + 1)).tmod 4) (([97,98,99,100]:List UInt8).length:Int) ([97,98,99,100]:List UInt8).length)=true then
 if (C7 0 (1:Int) ((([97,98,99,100]:List UInt8).take (([97,98,99,100]:List UInt8).length:Int).toNat).drop ((wr .u8 (v6.2.2.1 + 1)).tmod 4).toNat).length)=true then
 if (Fa 16 ([((((([97,98,99,100]:List UInt8).take (([97,98,99,100]:List UInt8).length:Int).toNat).drop (v6.2.2.1.tmod 4).toNat).take (1:Int).toNat).drop (0:Int).toNat)].length + 1))=true then
 some ([((((([97,98,99,100]:List UInt8).take (([97,98,99,100]:List UInt8).length:Int).toNat).drop (v6.2.2.1.tmod 4).toNat).take (1:Int).toNat).drop (0:Int).toNat)]++[((((([97,98,99,100]:List UInt8).take (([97,98,99,100]:List UInt8).length:Int).toNat).drop ((wr .u8 (v6.2.2.1 + 1)).tmod 4).toNat).take (1:Int).toNat).drop (0:Int).toNat)])
 else none
 else none
 else none
 else
 some [((((([97,98,99,100]:List UInt8).take (([97,98,99,100]:List UInt8).length:Int).toNat).drop (v6.2.2.1.tmod 4).toNat).take (1:Int).toNat).drop (0:Int).toNat)]
def FA (_x0:(List (Int×Int×Int×Bool×Bool))) (c3:(List UInt8)) (_c4:Int) (j27:(List AE)×Int×Int×Int×Bool×Bool×Int×(List UInt8)×Bool×Int×(List (List UInt8))×Bool):Option (((List AE)×Int×Int×Int×Bool×Bool×Int×(List UInt8)×Bool×Int×(List (List UInt8)))) :=
 if j27.2.2.2.2.2.2.2.2.2.2.2=true then
 some (j27.1,j27.2.1,j27.2.2.1,j27.2.2.2.1,j27.2.2.2.2.1,j27.2.2.2.2.2.1,j27.2.2.2.2.2.2.1,c3,j27.2.2.2.2.2.2.2.2.1,j27.2.2.2.2.2.2.2.2.2.1,j27.2.2.2.2.2.2.2.2.2.2.1)
 else
 some (j27.1,j27.2.1,j27.2.2.1,j27.2.2.2.1,j27.2.2.2.2.1,j27.2.2.2.2.2.1,j27.2.2.2.2.2.2.1,j27.2.2.2.2.2.2.2.1,j27.2.2.2.2.2.2.2.2.1,j27.2.2.2.2.2.2.2.2.2.1,j27.2.2.2.2.2.2.2.2.2.2.1)
def IS (_x0:(List (Int×Int×Int×Bool×Bool))) (_c3:(List UInt8)) (_c4:Int) (r40:(List AE)×Int×Int×Int×Bool×Bool×Int×(List UInt8)×Bool×Int×(List (List UInt8))):Option ((Bool)) :=
 if (r40.2.2.2.2.2.2.1==6)=true then
 some (r40.2.2.2.2.2.2.1==6)
 else
 some (r40.2.2.2.2.2.2.1==7)
def IU (_x0:(List (Int×Int×Int×Bool×Bool))) (_c3:(List UInt8)) (_c4:Int) (r40:(List AE)×Int×Int×Int×Bool×Bool×Int×(List UInt8)×Bool×Int×(List (List UInt8))):Option (((List AE)×Int×(List UInt8)×Bool×Int)) :=
 if (r40.2.2.2.2.2.2.1==10)=true then
 some (r40.1,r40.2.2.2.2.2.2.1,r40.2.2.2.2.2.2.2.1,r40.2.2.2.2.2.2.2.2.1,(wr .i64 (r40.2.2.1.tmod 64)))
 else
 some (r40.1,r40.2.2.2.2.2.2.1,r40.2.2.2.2.2.2.2.1,r40.2.2.2.2.2.2.2.2.1,r40.2.2.2.2.2.2.2.2.2.1)
def IT (x0:(List (Int×Int×Int×Bool×Bool))) (c3:(List UInt8)) (c4:Int) (r40:(List AE)×Int×Int×Int×Bool×Bool×Int×(List UInt8)×Bool×Int×(List (List UInt8))) (r1722:Bool):Option (((List AE)×Int×(List UInt8)×Bool×(List (List UInt8))×Int)) :=
 if r1722=true then
 some (r40.1,r40.2.2.2.2.2.2.1,r40.2.2.2.2.2.2.2.1,r40.2.2.2.2.1,r40.2.2.2.2.2.2.2.2.2.2,r40.2.2.2.2.2.2.2.2.2.1)
 else
 (IU x0 c3 c4 r40).bind fun r2056 =>
 some (r2056.1,r2056.2.1,r2056.2.2.1,r2056.2.2.2.1,[],r2056.2.2.2.2)
def IR (x0:(List (Int×Int×Int×Bool×Bool))) (c3:(List UInt8)) (c4:Int) (r40:(List AE)×Int×Int×Int×Bool×Bool×Int×(List UInt8)×Bool×Int×(List (List UInt8))):Option (((List AE)×Int×(List UInt8)×Bool×(List (List UInt8))×Int)) :=
 if (r40.2.2.2.2.2.2.1==5)=true then
 some (r40.1,r40.2.2.2.2.2.2.1,r40.2.2.2.2.2.2.2.1,r40.2.2.2.2.1,[],r40.2.2.2.2.2.2.2.2.2.1)
 else
 (IS x0 c3 c4 r40).bind fun r1722 =>
 (IT x0 c3 c4 r40 r1722).bind fun r2057 =>
 some (r2057.1,r2057.2.1,r2057.2.2.1,r2057.2.2.2.1,r2057.2.2.2.2.1,r2057.2.2.2.2.2)
def I2 (x0:(List (Int×Int×Int×Bool×Bool))) (c3:(List UInt8)) (c4:Int) (r40:(List AE)×Int×Int×Int×Bool×Bool×Int×(List UInt8)×Bool×Int×(List (List UInt8))):Option (((List AE)×Int×(List UInt8)×Bool×(List (List UInt8))×Int)) :=
 if (r40.2.2.2.2.2.2.1==4)=true then
 some (r40.1,r40.2.2.2.2.2.2.1,r40.2.2.2.2.2.2.2.1,r40.2.2.2.2.1,[],(wr .i64 (1 + (wr .i64 (r40.2.2.1.tmod 2)))))
 else
 (IR x0 c3 c4 r40).bind fun r2058 =>
 some (r2058.1,r2058.2.1,r2058.2.2.1,r2058.2.2.2.1,r2058.2.2.2.2.1,r2058.2.2.2.2.2)
def GL (x0:(List (Int×Int×Int×Bool×Bool))) (c3:(List UInt8)) (c4:Int) (r40:(List AE)×Int×Int×Int×Bool×Bool×Int×(List UInt8)×Bool×Int×(List (List UInt8))):Option (((List AE)×(List UInt8)×Int×(List UInt8)×Bool×(List (List UInt8))×Int)) :=
 if (r40.2.2.2.2.2.2.1==1)=true then
 (idx r40.2.2.2.2.2.2.2.2.2.2 0).bind fun v42 =>
 some (r40.1,v42,r40.2.2.2.2.2.2.1,r40.2.2.2.2.2.2.2.1,r40.2.2.2.2.2.2.2.2.1,r40.2.2.2.2.2.2.2.2.2.2,r40.2.2.2.2.2.2.2.2.2.1)
 else
 (I2 x0 c3 c4 r40).bind fun r2059 =>
 some (r2059.1,c3,r2059.2.1,r2059.2.2.1,r2059.2.2.2.1,r2059.2.2.2.2.1,r2059.2.2.2.2.2)
def Dy (x0:(List (Int×Int×Int×Bool×Bool))):Nat->(List AE)->(List UInt8)->Int->Option (((List AE)))
 | 0,_,_,_=>none
 | f + 1,c2,c3,c4 =>
  if (decide (c4 < (((x0.take (mnI (x0.length:Int) 8).toNat).drop (0:Int).toNat).length:Int)))=true then
  (idx ((x0.take (mnI (x0.length:Int) 8).toNat).drop (0:Int).toNat) c4).bind fun v6 =>
  if (C7 (v6.2.2.1.tmod 4) (([97,98,99,100]:List UInt8).length:Int) ([97,98,99,100]:List UInt8).length)=true then
  if (C7 0 (1:Int) ((([97,98,99,100]:List UInt8).take (([97,98,99,100]:List UInt8).length:Int).toNat).drop (v6.2.2.1.tmod 4).toNat).length)=true then
  (GK x0 c2 c3 c4 v6).bind fun r14 =>
  (if v6.2.2.2.2=true then some (c2,v6.1,v6.2.1,v6.2.2.1,v6.2.2.2.1,true,(wr .u8 (1 + (v6.1.tmod 10))),[],false,0,r14,((wr .u8 (1 + (v6.1.tmod 10)))!=1)) else some (c2,v6.1,v6.2.1,v6.2.2.1,v6.2.2.2.1,false,(wr .u8 (1 + (v6.1.tmod 10))),[],false,0,r14,false)).bind fun j27 =>
  (FA x0 c3 c4 j27).bind fun r40 =>
  (GL x0 c3 c4 r40).bind fun r2060 =>
  if (Fa 64 (r2060.1.length + 1))=true then
  Dy x0 f (r2060.1++[r2060.2.2]) r2060.2.1 (wr .i64 (c4 + 1))
  else none
  else none
  else none
  else
  some c2
def Fl (x0:(List (Int×Int×Int×Bool×Bool))):Option ((List AE)) :=
 if (C7 0 (mnI (x0.length:Int) 8) x0.length)=true then
 (Dy x0 100000 [] [] 0).bind fun r2064 =>
 some r2064
 else none
def Ha:Cs (((List (Int×Int×Int×Bool×Bool)))×Unit):=(csC (cdL 5 (cdA (csC (cdK .u8) (csC (cdK .u8) (csC (cdK .u8) (csC cdB (csE cdB))))) (fun _=>rfl))) csN)
def Iu (r:(List AE)):AV:=(cdL 5 AA).enc r
theorem MG (x0:(List (Int×Int×Int×Bool×Bool))) (c2:(List AE)) (c3:(List UInt8)) (c4:Int) (v6:(Int×Int×Int×Bool×Bool)) (r:((List (List UInt8)))) (h:GK x0 c2 c3 c4 v6=some r):Sem E0 ⟨none,false⟩ (pc Ci [1,1,1,0,1,0,0,1,1,0,0,1,1,1,0,1]) ⟨Fr 98 [(3,hd 0 (c2.map AA.enc)),(4,.st c3),(6,.pt 1 0 0),(7,.pt 2 0 0),(8,hd 3 ([((((([97,98,99,100]:List UInt8).take (([97,98,99,100]:List UInt8).length:Int).toNat).drop (v6.2.2.1.tmod 4).toNat).take (1:Int).toNat).drop (0:Int).toNat)].map cdS.enc)),(13,.sl 5 (((x0.take (mnI (x0.length:Int) 8).toNat).drop (0:Int).toNat).map (cdA (csC (cdK .u8) (csC (cdK .u8) (csC (cdK .u8) (csC cdB (csE cdB))))) (fun _=>rfl)).enc)),(14,.v (.int .i64 (((x0.take (mnI (x0.length:Int) 8).toNat).drop (0:Int).toNat).length:Int))),(15,.v (.int .i64 c4)),(33,.v (.bool ((DO .u8 v6.2.2.1 4)!=0)))],[mk 5 60 (c2.map AA.enc),some ⟨5,107,[.ag [.v (.int .u8 v6.1),.v (.int .u8 v6.2.1),.v (.int .u8 v6.2.2.1),.v (.bool v6.2.2.2.1),.v (.bool v6.2.2.2.2)]],false⟩,some ⟨5,60,[.ag [.v (.int .u8 (wr .u8 (1 + (v6.1.tmod 10)))),.st [],.v (.bool false),.e0,.v (.int .i64 0)]],false⟩,mk 1 9 ([((((([97,98,99,100]:List UInt8).take (([97,98,99,100]:List UInt8).length:Int).toNat).drop (v6.2.2.1.tmod 4).toNat).take (1:Int).toNat).drop (0:Int).toNat)].map cdS.enc)]⟩ (fun e s=>e = .normal/\Wk E0 s ⟨Fr 98 [(3,hd 0 (c2.map AA.enc)),(4,.st c3),(6,.pt 1 0 0),(7,.pt 2 0 0),(8,hd 3 (r.map cdS.enc)),(13,.sl 5 (((x0.take (mnI (x0.length:Int) 8).toNat).drop (0:Int).toNat).map (cdA (csC (cdK .u8) (csC (cdK .u8) (csC (cdK .u8) (csC cdB (csE cdB))))) (fun _=>rfl)).enc)),(14,.v (.int .i64 (((x0.take (mnI (x0.length:Int) 8).toNat).drop (0:Int).toNat).length:Int))),(15,.v (.int .i64 c4))],[mk 5 60 (c2.map AA.enc),some ⟨5,107,[.ag [.v (.int .u8 v6.1),.v (.int .u8 v6.2.1),.v (.int .u8 v6.2.2.1),.v (.bool v6.2.2.2.1),.v (.bool v6.2.2.2.2)]],false⟩,some ⟨5,60,[.ag [.v (.int .u8 (wr .u8 (1 + (v6.1.tmod 10)))),.st [],.v (.bool false),.e0,.v (.int .i64 0)]],false⟩,mk 1 9 (r.map cdS.enc)]⟩):=by
 unfold GK at h;refine AM (b:=((DO .u8 v6.2.2.1 4)!=0)) kr (fun hb9=>?_) (fun hb9=>?_)
 ·rw [if_pos hb9] at h
  by_cases hk10:(C7 ((wr .u8 (v6.2.2.1 + 1)).tmod 4) (([97,98,99,100]:List UInt8).length:Int) ([97,98,99,100]:List UInt8).length)=true
  case neg=>rw [if_neg hk10] at h; cases h
  rw [if_pos hk10] at h;by_cases hk11:(C7 0 (1:Int) ((([97,98,99,100]:List UInt8).take (([97,98,99,100]:List UInt8).length:Int).toNat).drop ((wr .u8 (v6.2.2.1 + 1)).tmod 4).toNat).length)=true
  case neg=>rw [if_neg hk11] at h; cases h
  rw [if_pos hk11] at h;by_cases hk12:(Fa 16 ([((((([97,98,99,100]:List UInt8).take (([97,98,99,100]:List UInt8).length:Int).toNat).drop (v6.2.2.1.tmod 4).toNat).take (1:Int).toNat).drop (0:Int).toNat)].length + 1))=true
  case neg=>rw [if_neg hk12] at h; cases h
  rw [if_pos hk12] at h
  let p1:Option Blk:=mk 1 9 (([((((([97,98,99,100]:List UInt8).take (([97,98,99,100]:List UInt8).length:Int).toNat).drop (v6.2.2.1.tmod 4).toNat).take (1:Int).toNat).drop (0:Int).toNat)]++[((((([97,98,99,100]:List UInt8).take (([97,98,99,100]:List UInt8).length:Int).toNat).drop ((wr .u8 (v6.2.2.1 + 1)).tmod 4).toNat).take (1:Int).toNat).drop (0:Int).toNat)]).map cdS.enc)
  let p2:Option Blk:=some ⟨5,60,[.ag [.v (.int .u8 (wr .u8 (1 + (v6.1.tmod 10)))),.st [],.v (.bool false),.e0,.v (.int .i64 0)]],false⟩
  let p3:Option Blk:=some ⟨5,107,[.ag [.v (.int .u8 v6.1),.v (.int .u8 v6.2.1),.v (.int .u8 v6.2.2.1),.v (.bool v6.2.2.2.1),.v (.bool v6.2.2.2.2)]],false⟩
  let p4:Option Blk:=mk 5 60 (c2.map AA.enc)
  let p5:Nat×AV:=(15,.v (.int .i64 c4))
  let p6:Nat×AV:=(14,.v (.int .i64 (((x0.take (mnI (x0.length:Int) 8).toNat).drop (0:Int).toNat).length:Int)))
  let p7:Nat×AV:=(13,.sl 5 (((x0.take (mnI (x0.length:Int) 8).toNat).drop (0:Int).toNat).map (cdA (csC (cdK .u8) (csC (cdK .u8) (csC (cdK .u8) (csC cdB (csE cdB))))) (fun _=>rfl)).enc))
  let p8:Nat×AV:=(7,.pt 2 0 0)
  let p9:Nat×AV:=(6,.pt 1 0 0)
  let p10:Nat×AV:=(3,hd 0 (c2.map AA.enc))
  refine AH (s1:=⟨Fr 98 [p10,(4,.st c3),p9,p8,(8,hd 3 (([((((([97,98,99,100]:List UInt8).take (([97,98,99,100]:List UInt8).length:Int).toNat).drop (v6.2.2.1.tmod 4).toNat).take (1:Int).toNat).drop (0:Int).toNat)]++[((((([97,98,99,100]:List UInt8).take (([97,98,99,100]:List UInt8).length:Int).toNat).drop ((wr .u8 (v6.2.2.1 + 1)).tmod 4).toNat).take (1:Int).toNat).drop (0:Int).toNat)]).map cdS.enc)),p7,p6,p5],[p4,p3,p2,p1]⟩) ?_ ?_
  ·let p11:Option Blk:=mk 1 9 ([((((([97,98,99,100]:List UInt8).take (([97,98,99,100]:List UInt8).length:Int).toNat).drop (v6.2.2.1.tmod 4).toNat).take (1:Int).toNat).drop (0:Int).toNat)].map cdS.enc)
   let p12:Nat×AV:=(34,hd 3 ([((((([97,98,99,100]:List UInt8).take (([97,98,99,100]:List UInt8).length:Int).toNat).drop (v6.2.2.1.tmod 4).toNat).take (1:Int).toNat).drop (0:Int).toNat)].map cdS.enc))
   refine AD (n:=98) AC 5 [p10,(4,.st c3),p9,p8,p7,p6,p5,p12,(38,.v (.int .u8 ((wr .u8 (v6.2.2.1 + 1)).tmod 4)))] [p4,p3,p2,p11] kr ?_;refine AK AC 0 rfl (CZ (AB rfl) rfl (Eb (a:= .st [97,98,99,100]) (l:=(some (.v (.int .u8 ((wr .u8 (v6.2.2.1 + 1)).tmod 4))))) (u:=none) (m:=none) kr kr kr rfl (FX (bs:=[97,98,99,100]) (lo:=((wr .u8 (v6.2.2.1 + 1)).tmod 4)) (hi:=(([97,98,99,100]:List UInt8).length:Int)) kr (GN (Mq hk10)) rfl hk10))) ?_;refine AK AC 0 rfl (CZ (AB rfl) rfl (Eb (a:= .st ((([97,98,99,100]:List UInt8).take (([97,98,99,100]:List UInt8).length:Int).toNat).drop ((wr .u8 (v6.2.2.1 + 1)).tmod 4).toNat)) (l:=none) (u:=(some (.v (.int .i64 1)))) (m:=none) kr kr kr rfl (FX (bs:=((([97,98,99,100]:List UInt8).take (([97,98,99,100]:List UInt8).length:Int).toNat).drop ((wr .u8 (v6.2.2.1 + 1)).tmod 4).toNat)) (lo:=0) (hi:=(1:Int)) kr rfl (GN (JN hk11)) hk11))) ?_
   let p13:Option Blk:=mk 1 9 ([((((([97,98,99,100]:List UInt8).take (([97,98,99,100]:List UInt8).length:Int).toNat).drop ((wr .u8 (v6.2.2.1 + 1)).tmod 4).toNat).take (1:Int).toNat).drop (0:Int).toNat)].map cdS.enc)
   refine AD (n:=98) AC 1 [p10,(4,.st c3),p9,p8,p7,p6,p5,p12,(41,hd 4 ([((((([97,98,99,100]:List UInt8).take (([97,98,99,100]:List UInt8).length:Int).toNat).drop ((wr .u8 (v6.2.2.1 + 1)).tmod 4).toNat).take (1:Int).toNat).drop (0:Int).toNat)].map cdS.enc))] [p4,p3,p2,p11,p13] kr ?_;refine AK AC 0 rfl (T6 (AB rfl) rfl kr kr (IC (a:=hd 3 ([((((([97,98,99,100]:List UInt8).take (([97,98,99,100]:List UInt8).length:Int).toNat).drop (v6.2.2.1.tmod 4).toNat).take (1:Int).toNat).drop (0:Int).toNat)].map cdS.enc)) (b:=hd 4 ([((((([97,98,99,100]:List UInt8).take (([97,98,99,100]:List UInt8).length:Int).toNat).drop ((wr .u8 (v6.2.2.1 + 1)).tmod 4).toNat).take (1:Int).toNat).drop (0:Int).toNat)].map cdS.enc)) kr kr (KA (c:=cdS) (xs:=[((((([97,98,99,100]:List UInt8).take (([97,98,99,100]:List UInt8).length:Int).toNat).drop (v6.2.2.1.tmod 4).toNat).take (1:Int).toNat).drop (0:Int).toNat)]) (vs:=[((((([97,98,99,100]:List UInt8).take (([97,98,99,100]:List UInt8).length:Int).toNat).drop ((wr .u8 (v6.2.2.1 + 1)).tmod 4).toNat).take (1:Int).toNat).drop (0:Int).toNat)]) (k:=1) (bytes:=16) (el:=9) kr kr (KB (t:=9) kr) (List.cons_ne_nil _ _) kr hk12))) ?_;refine AD (n:=98) AC 1 [p10,(4,.st c3),p9,p8,(8,hd 5 (([((((([97,98,99,100]:List UInt8).take (([97,98,99,100]:List UInt8).length:Int).toNat).drop (v6.2.2.1.tmod 4).toNat).take (1:Int).toNat).drop (0:Int).toNat)]++[((((([97,98,99,100]:List UInt8).take (([97,98,99,100]:List UInt8).length:Int).toNat).drop ((wr .u8 (v6.2.2.1 + 1)).tmod 4).toNat).take (1:Int).toNat).drop (0:Int).toNat)]).map cdS.enc)),p7,p6,p5] [p4,p3,p2,none,p13,p1] kr ?_;exact AL rfl (AZ [0,1,2,5] ⟨⟨_,rfl,Cr⟩,⟨_,rfl,Cn⟩,⟨_,rfl,Cn⟩,⟨_,rfl,Cr⟩,trivial⟩ ⟨C4 (b':=0) kr kr,lv,lv,lv,C4 (b':=5) kr kr,lv,lv,lv,trivial⟩)
  have hq:=OI h; subst hq;exact ⟨rfl,(AZ [0,1,2,3] ⟨⟨_,rfl,Cr⟩,⟨_,rfl,Cn⟩,⟨_,rfl,Cn⟩,⟨_,rfl,Cr⟩,trivial⟩ ⟨C4 (b':=0) kr kr,lv,lv,lv,C4 (b':=3) kr kr,lv,lv,lv,trivial⟩)⟩
 ·rw [CK hb9] at h
  refine AP ?_;have hq:=OI h; subst hq;exact ⟨rfl,(AZ [0,1,2,3] ⟨⟨_,rfl,Cr⟩,⟨_,rfl,Cn⟩,⟨_,rfl,Cn⟩,⟨_,rfl,Cr⟩,trivial⟩ ⟨C4 (b':=0) kr kr,lv,lv,lv,C4 (b':=3) kr kr,lv,lv,lv,trivial⟩)⟩
theorem MH (x0:(List (Int×Int×Int×Bool×Bool))) (c3:(List UInt8)) (c4:Int) (j27:(List AE)×Int×Int×Int×Bool×Bool×Int×(List UInt8)×Bool×Int×(List (List UInt8))×Bool) (r:((List AE)×Int×Int×Int×Bool×Bool×Int×(List UInt8)×Bool×Int×(List (List UInt8)))) (h:FA x0 c3 c4 j27=some r):Sem E0 ⟨none,false⟩ (pc Ci [1,1,1,0,1,0,0,1,1,0,0,1,1,1,1,0,1]) ⟨Fr 98 [(3,hd 0 (j27.1.map AA.enc)),(4,.st c3),(6,.pt 1 0 0),(7,.pt 2 0 0),(8,hd 3 (j27.2.2.2.2.2.2.2.2.2.2.1.map cdS.enc)),(13,.sl 5 (((x0.take (mnI (x0.length:Int) 8).toNat).drop (0:Int).toNat).map (cdA (csC (cdK .u8) (csC (cdK .u8) (csC (cdK .u8) (csC cdB (csE cdB))))) (fun _=>rfl)).enc)),(14,.v (.int .i64 (((x0.take (mnI (x0.length:Int) 8).toNat).drop (0:Int).toNat).length:Int))),(15,.v (.int .i64 c4)),(49,.v (.bool j27.2.2.2.2.2.2.2.2.2.2.2))],[mk 5 60 (j27.1.map AA.enc),some ⟨5,107,[.ag [.v (.int .u8 j27.2.1),.v (.int .u8 j27.2.2.1),.v (.int .u8 j27.2.2.2.1),.v (.bool j27.2.2.2.2.1),.v (.bool j27.2.2.2.2.2.1)]],false⟩,some ⟨5,60,[.ag [.v (.int .u8 j27.2.2.2.2.2.2.1),.st j27.2.2.2.2.2.2.2.1,.v (.bool j27.2.2.2.2.2.2.2.2.1),.e0,.v (.int .i64 j27.2.2.2.2.2.2.2.2.2.1)]],false⟩,mk 1 9 (j27.2.2.2.2.2.2.2.2.2.2.1.map cdS.enc)]⟩ (fun e s=>e = .normal/\Wk E0 s ⟨Fr 98 [(3,hd 0 (r.1.map AA.enc)),(4,.st c3),(6,.pt 1 0 0),(7,.pt 2 0 0),(8,hd 3 (r.2.2.2.2.2.2.2.2.2.2.map cdS.enc)),(13,.sl 5 (((x0.take (mnI (x0.length:Int) 8).toNat).drop (0:Int).toNat).map (cdA (csC (cdK .u8) (csC (cdK .u8) (csC (cdK .u8) (csC cdB (csE cdB))))) (fun _=>rfl)).enc)),(14,.v (.int .i64 (((x0.take (mnI (x0.length:Int) 8).toNat).drop (0:Int).toNat).length:Int))),(15,.v (.int .i64 c4))],[mk 5 60 (r.1.map AA.enc),some ⟨5,107,[.ag [.v (.int .u8 r.2.1),.v (.int .u8 r.2.2.1),.v (.int .u8 r.2.2.2.1),.v (.bool r.2.2.2.2.1),.v (.bool r.2.2.2.2.2.1)]],false⟩,some ⟨5,60,[.ag [.v (.int .u8 r.2.2.2.2.2.2.1),.st r.2.2.2.2.2.2.2.1,.v (.bool r.2.2.2.2.2.2.2.2.1),.e0,.v (.int .i64 r.2.2.2.2.2.2.2.2.2.1)]],false⟩,mk 1 9 (r.2.2.2.2.2.2.2.2.2.2.map cdS.enc)]⟩):=by
 unfold FA at h;refine AM (b:=j27.2.2.2.2.2.2.2.2.2.2.2) kr (fun hb28=>?_) (fun hb28=>?_)
 ·rw [if_pos hb28] at h
  refine DD AC [(3,hd 0 (j27.1.map AA.enc)),(4,.st c3),(6,.pt 1 0 0),(7,.pt 2 0 0),(8,hd 3 (j27.2.2.2.2.2.2.2.2.2.2.1.map cdS.enc)),(13,.sl 5 (((x0.take (mnI (x0.length:Int) 8).toNat).drop (0:Int).toNat).map (cdA (csC (cdK .u8) (csC (cdK .u8) (csC (cdK .u8) (csC cdB (csE cdB))))) (fun _=>rfl)).enc)),(14,.v (.int .i64 (((x0.take (mnI (x0.length:Int) 8).toNat).drop (0:Int).toNat).length:Int))),(15,.v (.int .i64 c4))] [mk 5 60 (j27.1.map AA.enc),some ⟨5,107,[.ag [.v (.int .u8 j27.2.1),.v (.int .u8 j27.2.2.1),.v (.int .u8 j27.2.2.2.1),.v (.bool j27.2.2.2.2.1),.v (.bool j27.2.2.2.2.2.1)]],false⟩,some ⟨5,60,[.ag [.v (.int .u8 j27.2.2.2.2.2.2.1),.st c3,.v (.bool j27.2.2.2.2.2.2.2.2.1),.e0,.v (.int .i64 j27.2.2.2.2.2.2.2.2.2.1)]],false⟩,mk 1 9 (j27.2.2.2.2.2.2.2.2.2.2.1.map cdS.enc)] ?_;have hq:=OI h; subst hq;exact ⟨rfl,(AZ [0,1,2,3] ⟨⟨_,rfl,Cr⟩,⟨_,rfl,Cn⟩,⟨_,rfl,Cn⟩,⟨_,rfl,Cr⟩,trivial⟩ ⟨C4 (b':=0) kr kr,lv,lv,lv,C4 (b':=3) kr kr,lv,lv,lv,trivial⟩)⟩
 ·rw [CK hb28] at h
  refine AP ?_;have hq:=OI h; subst hq;exact ⟨rfl,(AZ [0,1,2,3] ⟨⟨_,rfl,Cr⟩,⟨_,rfl,Cn⟩,⟨_,rfl,Cn⟩,⟨_,rfl,Cr⟩,trivial⟩ ⟨C4 (b':=0) kr kr,lv,lv,lv,C4 (b':=3) kr kr,lv,lv,lv,trivial⟩)⟩
theorem Lp (x0:(List (Int×Int×Int×Bool×Bool))) (c3:(List UInt8)) (c4:Int) (r40:(List AE)×Int×Int×Int×Bool×Bool×Int×(List UInt8)×Bool×Int×(List (List UInt8))) (r:(Bool)) (h:IS x0 c3 c4 r40=some r):Sem E0 ⟨none,false⟩ (pc Ci [1,1,1,0,1,0,0,1,1,0,0,1,1,1,1,1,0,1,0,1,1,1,1,1,1,0,1]) ⟨Fr 98 [(3,hd 0 (r40.1.map AA.enc)),(4,.st c3),(6,.pt 1 0 0),(7,.pt 2 0 0),(8,hd 3 (r40.2.2.2.2.2.2.2.2.2.2.map cdS.enc)),(13,.sl 5 (((x0.take (mnI (x0.length:Int) 8).toNat).drop (0:Int).toNat).map (cdA (csC (cdK .u8) (csC (cdK .u8) (csC (cdK .u8) (csC cdB (csE cdB))))) (fun _=>rfl)).enc)),(14,.v (.int .i64 (((x0.take (mnI (x0.length:Int) 8).toNat).drop (0:Int).toNat).length:Int))),(15,.v (.int .i64 c4)),(53,.v (.int .u8 r40.2.2.2.2.2.2.1)),(77,.v (.bool (r40.2.2.2.2.2.2.1==6)))],[mk 5 60 (r40.1.map AA.enc),some ⟨5,107,[.ag [.v (.int .u8 r40.2.1),.v (.int .u8 r40.2.2.1),.v (.int .u8 r40.2.2.2.1),.v (.bool r40.2.2.2.2.1),.v (.bool r40.2.2.2.2.2.1)]],false⟩,some ⟨5,60,[.ag [.v (.int .u8 r40.2.2.2.2.2.2.1),.st r40.2.2.2.2.2.2.2.1,.v (.bool r40.2.2.2.2.2.2.2.2.1),.e0,.v (.int .i64 r40.2.2.2.2.2.2.2.2.2.1)]],false⟩,mk 1 9 (r40.2.2.2.2.2.2.2.2.2.2.map cdS.enc)]⟩ (fun e s=>e = .normal/\Wk E0 s ⟨Fr 98 [(3,hd 0 (r40.1.map AA.enc)),(4,.st c3),(6,.pt 1 0 0),(7,.pt 2 0 0),(8,hd 3 (r40.2.2.2.2.2.2.2.2.2.2.map cdS.enc)),(13,.sl 5 (((x0.take (mnI (x0.length:Int) 8).toNat).drop (0:Int).toNat).map (cdA (csC (cdK .u8) (csC (cdK .u8) (csC (cdK .u8) (csC cdB (csE cdB))))) (fun _=>rfl)).enc)),(14,.v (.int .i64 (((x0.take (mnI (x0.length:Int) 8).toNat).drop (0:Int).toNat).length:Int))),(15,.v (.int .i64 c4)),(53,.v (.int .u8 r40.2.2.2.2.2.2.1)),(77,.v (.bool r))],[mk 5 60 (r40.1.map AA.enc),some ⟨5,107,[.ag [.v (.int .u8 r40.2.1),.v (.int .u8 r40.2.2.1),.v (.int .u8 r40.2.2.2.1),.v (.bool r40.2.2.2.2.1),.v (.bool r40.2.2.2.2.2.1)]],false⟩,some ⟨5,60,[.ag [.v (.int .u8 r40.2.2.2.2.2.2.1),.st r40.2.2.2.2.2.2.2.1,.v (.bool r40.2.2.2.2.2.2.2.2.1),.e0,.v (.int .i64 r40.2.2.2.2.2.2.2.2.2.1)]],false⟩,mk 1 9 (r40.2.2.2.2.2.2.2.2.2.2.map cdS.enc)]⟩):=by
 unfold IS at h;refine AM (b:=(r40.2.2.2.2.2.2.1==6)) kr (fun hb1720=>?_) (fun hb1720=>?_)
 ·rw [if_pos hb1720] at h
  refine AP ?_;have hq:=OI h; subst hq;exact ⟨rfl,(AZ [0,1,2,3] ⟨⟨_,rfl,Cr⟩,⟨_,rfl,Cn⟩,⟨_,rfl,Cn⟩,⟨_,rfl,Cr⟩,trivial⟩ ⟨C4 (b':=0) kr kr,lv,lv,lv,C4 (b':=3) kr kr,lv,lv,lv,lv,lv,trivial⟩)⟩
 ·rw [CK hb1720] at h
  refine DD AC [(3,hd 0 (r40.1.map AA.enc)),(4,.st c3),(6,.pt 1 0 0),(7,.pt 2 0 0),(8,hd 3 (r40.2.2.2.2.2.2.2.2.2.2.map cdS.enc)),(13,.sl 5 (((x0.take (mnI (x0.length:Int) 8).toNat).drop (0:Int).toNat).map (cdA (csC (cdK .u8) (csC (cdK .u8) (csC (cdK .u8) (csC cdB (csE cdB))))) (fun _=>rfl)).enc)),(14,.v (.int .i64 (((x0.take (mnI (x0.length:Int) 8).toNat).drop (0:Int).toNat).length:Int))),(15,.v (.int .i64 c4)),(53,.v (.int .u8 r40.2.2.2.2.2.2.1)),(77,.v (.bool (r40.2.2.2.2.2.2.1==7)))] [mk 5 60 (r40.1.map AA.enc),some ⟨5,107,[.ag [.v (.int .u8 r40.2.1),.v (.int .u8 r40.2.2.1),.v (.int .u8 r40.2.2.2.1),.v (.bool r40.2.2.2.2.1),.v (.bool r40.2.2.2.2.2.1)]],false⟩,some ⟨5,60,[.ag [.v (.int .u8 r40.2.2.2.2.2.2.1),.st r40.2.2.2.2.2.2.2.1,.v (.bool r40.2.2.2.2.2.2.2.2.1),.e0,.v (.int .i64 r40.2.2.2.2.2.2.2.2.2.1)]],false⟩,mk 1 9 (r40.2.2.2.2.2.2.2.2.2.2.map cdS.enc)] ?_;have hq:=OI h; subst hq;exact ⟨rfl,(AZ [0,1,2,3] ⟨⟨_,rfl,Cr⟩,⟨_,rfl,Cn⟩,⟨_,rfl,Cn⟩,⟨_,rfl,Cr⟩,trivial⟩ ⟨C4 (b':=0) kr kr,lv,lv,lv,C4 (b':=3) kr kr,lv,lv,lv,lv,lv,trivial⟩)⟩
theorem Lr (x0:(List (Int×Int×Int×Bool×Bool))) (c3:(List UInt8)) (c4:Int) (r40:(List AE)×Int×Int×Int×Bool×Bool×Int×(List UInt8)×Bool×Int×(List (List UInt8))) (r:((List AE)×Int×(List UInt8)×Bool×Int)) (h:IU x0 c3 c4 r40=some r):Sem E0 ⟨none,false⟩ (pc Ci [1,1,1,0,1,0,0,1,1,0,0,1,1,1,1,1,0,1,0,1,1,1,1,1,1,1,1,1]) ⟨Fr 98 [(3,hd 0 (r40.1.map AA.enc)),(4,.st c3),(6,.pt 1 0 0),(7,.pt 2 0 0),(13,.sl 5 (((x0.take (mnI (x0.length:Int) 8).toNat).drop (0:Int).toNat).map (cdA (csC (cdK .u8) (csC (cdK .u8) (csC (cdK .u8) (csC cdB (csE cdB))))) (fun _=>rfl)).enc)),(14,.v (.int .i64 (((x0.take (mnI (x0.length:Int) 8).toNat).drop (0:Int).toNat).length:Int))),(15,.v (.int .i64 c4)),(85,.v (.bool (r40.2.2.2.2.2.2.1==10)))],[mk 5 60 (r40.1.map AA.enc),some ⟨5,107,[.ag [.v (.int .u8 r40.2.1),.v (.int .u8 r40.2.2.1),.v (.int .u8 r40.2.2.2.1),.v (.bool r40.2.2.2.2.1),.v (.bool r40.2.2.2.2.2.1)]],false⟩,some ⟨5,60,[.ag [.v (.int .u8 r40.2.2.2.2.2.2.1),.st r40.2.2.2.2.2.2.2.1,.v (.bool r40.2.2.2.2.2.2.2.2.1),.e0,.v (.int .i64 r40.2.2.2.2.2.2.2.2.2.1)]],false⟩]⟩ (fun e s=>e = .normal/\Wk E0 s ⟨Fr 98 [(3,hd 0 (r.1.map AA.enc)),(4,.st c3),(7,.pt 1 0 0),(13,.sl 5 (((x0.take (mnI (x0.length:Int) 8).toNat).drop (0:Int).toNat).map (cdA (csC (cdK .u8) (csC (cdK .u8) (csC (cdK .u8) (csC cdB (csE cdB))))) (fun _=>rfl)).enc)),(14,.v (.int .i64 (((x0.take (mnI (x0.length:Int) 8).toNat).drop (0:Int).toNat).length:Int))),(15,.v (.int .i64 c4))],[mk 5 60 (r.1.map AA.enc),some ⟨5,60,[.ag [.v (.int .u8 r.2.1),.st r.2.2.1,.v (.bool r.2.2.2.1),.e0,.v (.int .i64 r.2.2.2.2)]],false⟩]⟩):=by
 unfold IU at h;refine AM (b:=(r40.2.2.2.2.2.2.1==10)) kr (fun hb2050=>?_) (fun hb2050=>?_)
 ·rw [if_pos hb2050] at h
  let p1:Option Blk:=some ⟨5,60,[.ag [.v (.int .u8 r40.2.2.2.2.2.2.1),.st r40.2.2.2.2.2.2.2.1,.v (.bool r40.2.2.2.2.2.2.2.2.1),.e0,.v (.int .i64 (wr .i64 (r40.2.2.1.tmod 64)))]],false⟩
  let p2:Nat×AV:=(14,.v (.int .i64 (((x0.take (mnI (x0.length:Int) 8).toNat).drop (0:Int).toNat).length:Int)))
  let p3:Nat×AV:=(13,.sl 5 (((x0.take (mnI (x0.length:Int) 8).toNat).drop (0:Int).toNat).map (cdA (csC (cdK .u8) (csC (cdK .u8) (csC (cdK .u8) (csC cdB (csE cdB))))) (fun _=>rfl)).enc))
  let p4:Nat×AV:=(3,hd 0 (r40.1.map AA.enc))
  refine AH (s1:=⟨Fr 98 [p4,(4,.st c3),(7,.pt 1 0 0),p3,p2,(15,.v (.int .i64 c4))],[mk 5 60 (r40.1.map AA.enc),p1]⟩) ?_ ?_
  ·refine AD (n:=98) AC 6 [p4,(4,.st c3),(7,.pt 2 0 0),p3,p2,(15,.v (.int .i64 c4))] [mk 5 60 (r40.1.map AA.enc),some ⟨5,107,[.ag [.v (.int .u8 r40.2.1),.v (.int .u8 r40.2.2.1),.v (.int .u8 r40.2.2.2.1),.v (.bool r40.2.2.2.2.1),.v (.bool r40.2.2.2.2.2.1)]],false⟩,p1] kr ?_
   exact AL rfl (AZ [0,2] ⟨⟨_,rfl,Cr⟩,⟨_,rfl,Cn⟩,trivial⟩ ⟨C4 (b':=0) kr kr,lv,lv,lv,lv,lv,trivial⟩)
  have hq:=OI h; subst hq;exact ⟨rfl,(AZ [0,1] ⟨⟨_,rfl,Cr⟩,⟨_,rfl,Cn⟩,trivial⟩ ⟨C4 (b':=0) kr kr,lv,lv,lv,lv,lv,trivial⟩)⟩
 ·rw [CK hb2050] at h
  refine AP ?_;have hq:=OI h; subst hq;exact ⟨rfl,(AZ [0,2] ⟨⟨_,rfl,Cr⟩,⟨_,rfl,Cn⟩,trivial⟩ ⟨C4 (b':=0) kr kr,lv,lv,lv,lv,lv,trivial⟩)⟩
theorem Lq (x0:(List (Int×Int×Int×Bool×Bool))) (c3:(List UInt8)) (c4:Int) (r40:(List AE)×Int×Int×Int×Bool×Bool×Int×(List UInt8)×Bool×Int×(List (List UInt8))) (r1722:Bool) (r:((List AE)×Int×(List UInt8)×Bool×(List (List UInt8))×Int)) (h:IT x0 c3 c4 r40 r1722=some r):Sem E0 ⟨none,false⟩ (pc Ci [1,1,1,0,1,0,0,1,1,0,0,1,1,1,1,1,0,1,0,1,1,1,1,1,1,1]) ⟨Fr 98 [(3,hd 0 (r40.1.map AA.enc)),(4,.st c3),(6,.pt 1 0 0),(7,.pt 2 0 0),(8,hd 3 (r40.2.2.2.2.2.2.2.2.2.2.map cdS.enc)),(13,.sl 5 (((x0.take (mnI (x0.length:Int) 8).toNat).drop (0:Int).toNat).map (cdA (csC (cdK .u8) (csC (cdK .u8) (csC (cdK .u8) (csC cdB (csE cdB))))) (fun _=>rfl)).enc)),(14,.v (.int .i64 (((x0.take (mnI (x0.length:Int) 8).toNat).drop (0:Int).toNat).length:Int))),(15,.v (.int .i64 c4)),(53,.v (.int .u8 r40.2.2.2.2.2.2.1)),(77,.v (.bool r1722))],[mk 5 60 (r40.1.map AA.enc),some ⟨5,107,[.ag [.v (.int .u8 r40.2.1),.v (.int .u8 r40.2.2.1),.v (.int .u8 r40.2.2.2.1),.v (.bool r40.2.2.2.2.1),.v (.bool r40.2.2.2.2.2.1)]],false⟩,some ⟨5,60,[.ag [.v (.int .u8 r40.2.2.2.2.2.2.1),.st r40.2.2.2.2.2.2.2.1,.v (.bool r40.2.2.2.2.2.2.2.2.1),.e0,.v (.int .i64 r40.2.2.2.2.2.2.2.2.2.1)]],false⟩,mk 1 9 (r40.2.2.2.2.2.2.2.2.2.2.map cdS.enc)]⟩ (fun e s=>e = .normal/\Wk E0 s ⟨Fr 98 [(3,hd 0 (r.1.map AA.enc)),(4,.st c3),(7,.pt 1 0 0),(13,.sl 5 (((x0.take (mnI (x0.length:Int) 8).toNat).drop (0:Int).toNat).map (cdA (csC (cdK .u8) (csC (cdK .u8) (csC (cdK .u8) (csC cdB (csE cdB))))) (fun _=>rfl)).enc)),(14,.v (.int .i64 (((x0.take (mnI (x0.length:Int) 8).toNat).drop (0:Int).toNat).length:Int))),(15,.v (.int .i64 c4))],[mk 5 60 (r.1.map AA.enc),some ⟨5,60,[AA.enc r.2],false⟩]⟩):=by
 unfold IT at h;refine AM (b:=r1722) kr (fun hb1723=>?_) (fun hb1723=>?_)
 ·rw [if_pos hb1723] at h
  let p1:Option Blk:=some ⟨5,60,[.ag [.v (.int .u8 r40.2.2.2.2.2.2.1),.st r40.2.2.2.2.2.2.2.1,.v (.bool r40.2.2.2.2.1),.sl 1 (r40.2.2.2.2.2.2.2.2.2.2.map cdS.enc),.v (.int .i64 r40.2.2.2.2.2.2.2.2.2.1)]],false⟩
  let p2:Option Blk:=mk 5 60 (r40.1.map AA.enc)
  let p3:Nat×AV:=(15,.v (.int .i64 c4))
  let p4:Nat×AV:=(14,.v (.int .i64 (((x0.take (mnI (x0.length:Int) 8).toNat).drop (0:Int).toNat).length:Int)))
  let p5:Nat×AV:=(13,.sl 5 (((x0.take (mnI (x0.length:Int) 8).toNat).drop (0:Int).toNat).map (cdA (csC (cdK .u8) (csC (cdK .u8) (csC (cdK .u8) (csC cdB (csE cdB))))) (fun _=>rfl)).enc))
  let p6:Nat×AV:=(3,hd 0 (r40.1.map AA.enc))
  refine Qp (s1:=⟨Fr 98 [p6,(4,.st c3),(7,.pt 1 0 0),p5,p4,p3],[p2,p1]⟩) AC 7 kr ?_ ?_
  ·refine RunA.q 0 kr rfl ?_
   let p7:Option Blk:=mk 1 9 (r40.2.2.2.2.2.2.2.2.2.2.map cdS.enc)
   let p8:Option Blk:=some ⟨5,60,[.ag [.v (.int .u8 r40.2.2.2.2.2.2.1),.st r40.2.2.2.2.2.2.2.1,.v (.bool r40.2.2.2.2.2.2.2.2.1),.e0,.v (.int .i64 r40.2.2.2.2.2.2.2.2.2.1)]],false⟩
   let p9:Option Blk:=some ⟨5,107,[.ag [.v (.int .u8 r40.2.1),.v (.int .u8 r40.2.2.1),.v (.int .u8 r40.2.2.2.1),.v (.bool r40.2.2.2.2.1),.v (.bool r40.2.2.2.2.2.1)]],false⟩
   let p10:Nat×AV:=(80,hd 3 (r40.2.2.2.2.2.2.2.2.2.2.map cdS.enc))
   let p11:Nat×AV:=(7,.pt 2 0 0)
   refine RunS.only (n:=98) AC [p6,(4,.st c3),(6,.pt 1 0 0),p11,p5,p4,p3,p10] [p2,p9,p8,p7] kr ?_;refine RunA.q 1 kr rfl ?_
   let p12:Nat×AV:=(81,.pt 1 0 3)
   refine RunS.only (n:=98) AC [p6,(4,.st c3),p11,p5,p4,p3,p10,p12] [p2,p9,p8,p7] kr ?_;refine RunA.q 3 kr rfl ?_
   let p13:Nat×AV:=(83,.pt 2 0 3)
   refine RunS.only (n:=98) AC [p6,(4,.st c3),p11,p5,p4,p3,p10,p12,p13] [p2,p9,p8,p7] kr ?_;refine Me 2 4 kr rfl rfl ?_ ?_
   ·let p14:Nat×AV:=(82,.v (.bool r40.2.2.2.2.1))
    refine RunS.only (n:=98) AC [p6,(4,.st c3),p11,p5,p4,p3,p10,p14,p13] [p2,p9,p8,p7] kr ?_;refine EC 4 kr rfl ?_;refine OT (s1:=⟨Fr 98 [p6,(4,.st c3),p11,p5,p4,p3,(80,.sl 1 (r40.2.2.2.2.2.2.2.2.2.2.map cdS.enc)),p14,p13],[p2,p9,p8,none]⟩) (GZ 3 (.inl kr) ⟨.inr (.inl rfl),.inr (.inr ⟨_,_,_,_,rfl,rfl,⟨.inl rfl,trivial⟩⟩),.inr (.inr ⟨_,_,_,_,rfl,rfl,⟨.inl rfl,trivial⟩⟩),.inl rfl,trivial⟩ ⟨⟨hd 0 (r40.1.map AA.enc),kr,.inl rfl⟩,⟨.st c3,kr,.inl rfl⟩,⟨.pt 2 0 0,kr,.inl rfl⟩,⟨.sl 5 (((x0.take (mnI (x0.length:Int) 8).toNat).drop (0:Int).toNat).map (cdA (csC (cdK .u8) (csC (cdK .u8) (csC (cdK .u8) (csC cdB (csE cdB))))) (fun _=>rfl)).enc),kr,.inl rfl⟩,⟨.v (.int .i64 (((x0.take (mnI (x0.length:Int) 8).toNat).drop (0:Int).toNat).length:Int)),kr,.inl rfl⟩,⟨.v (.int .i64 c4),kr,.inl rfl⟩,⟨hd 3 (r40.2.2.2.2.2.2.2.2.2.2.map cdS.enc),kr,Nu (t:=9) kr JO⟩,⟨.v (.bool r40.2.2.2.2.1),kr,.inl rfl⟩,⟨.pt 2 0 3,kr,.inl rfl⟩,trivial⟩) ?_
    let p15:Option Blk:=some ⟨5,60,[.ag [.v (.int .u8 r40.2.2.2.2.2.2.1),.st r40.2.2.2.2.2.2.2.1,.v (.bool r40.2.2.2.2.2.2.2.2.1),.sl 1 (r40.2.2.2.2.2.2.2.2.2.2.map cdS.enc),.v (.int .i64 r40.2.2.2.2.2.2.2.2.2.1)]],false⟩
    refine RunS.only (n:=98) AC [p6,(4,.st c3),p11,p5,p4,p3,p14] [p2,p9,p15,none] kr ?_;refine RunA.q 5 kr rfl ?_;refine RunS.only (n:=98) AC [p6,(4,.st c3),p11,p5,p4,p3,p14,(84,.pt 2 0 2)] [p2,p9,p15,none] kr ?_;refine EC 6 kr rfl ?_;refine RunS.only (n:=98) AC [p6,(4,.st c3),p11,p5,p4,p3] [p2,p9,p1,none] kr ?_;exact RunA.done kr (AZ [0,2] ⟨⟨_,rfl,Cr⟩,⟨_,rfl,Cn⟩,trivial⟩ ⟨C4 (b':=0) kr kr,lv,lv,lv,lv,lv,trivial⟩)
   ·refine OT (s1:=⟨Fr 98 [p6,(4,.st c3),p11,p5,p4,p3,(80,.sl 1 (r40.2.2.2.2.2.2.2.2.2.2.map cdS.enc)),p12,p13],[p2,p9,p8,none]⟩) (GZ 3 (.inl kr) ⟨.inr (.inl rfl),.inr (.inr ⟨_,_,_,_,rfl,rfl,⟨.inl rfl,trivial⟩⟩),.inr (.inr ⟨_,_,_,_,rfl,rfl,⟨.inl rfl,trivial⟩⟩),.inl rfl,trivial⟩ ⟨⟨hd 0 (r40.1.map AA.enc),kr,.inl rfl⟩,⟨.st c3,kr,.inl rfl⟩,⟨.pt 2 0 0,kr,.inl rfl⟩,⟨.sl 5 (((x0.take (mnI (x0.length:Int) 8).toNat).drop (0:Int).toNat).map (cdA (csC (cdK .u8) (csC (cdK .u8) (csC (cdK .u8) (csC cdB (csE cdB))))) (fun _=>rfl)).enc),kr,.inl rfl⟩,⟨.v (.int .i64 (((x0.take (mnI (x0.length:Int) 8).toNat).drop (0:Int).toNat).length:Int)),kr,.inl rfl⟩,⟨.v (.int .i64 c4),kr,.inl rfl⟩,⟨hd 3 (r40.2.2.2.2.2.2.2.2.2.2.map cdS.enc),kr,Nu (t:=9) kr JO⟩,⟨.pt 1 0 3,kr,.inl rfl⟩,⟨.pt 2 0 3,kr,.inl rfl⟩,trivial⟩) ?_
    let p16:Option Blk:=some ⟨5,60,[.ag [.v (.int .u8 r40.2.2.2.2.2.2.1),.st r40.2.2.2.2.2.2.2.1,.v (.bool r40.2.2.2.2.2.2.2.2.1),.sl 1 (r40.2.2.2.2.2.2.2.2.2.2.map cdS.enc),.v (.int .i64 r40.2.2.2.2.2.2.2.2.2.1)]],false⟩
    refine RunS.only (n:=98) AC [p6,(4,.st c3),p11,p5,p4,p3,p12] [p2,p9,p16,none] kr ?_;refine EC 2 kr rfl ?_;refine RunS.only (n:=98) AC [p6,(4,.st c3),p11,p5,p4,p3,(82,.v (.bool r40.2.2.2.2.1))] [p2,p9,p16,none] kr ?_;refine RunA.q 5 kr rfl ?_;refine RunS.only (n:=98) AC [p6,(4,.st c3),p11,p5,p4,p3,(82,.v (.bool r40.2.2.2.2.1)),(84,.pt 2 0 2)] [p2,p9,p16,none] kr ?_;refine EC 6 kr rfl ?_;refine RunS.only (n:=98) AC [p6,(4,.st c3),p11,p5,p4,p3] [p2,p9,p1,none] kr ?_;exact RunA.done kr (AZ [0,2] ⟨⟨_,rfl,Cr⟩,⟨_,rfl,Cn⟩,trivial⟩ ⟨C4 (b':=0) kr kr,lv,lv,lv,lv,lv,trivial⟩)
  have hq:=OI h; subst hq;exact ⟨rfl,(AZ [0,1] ⟨⟨_,rfl,Cr⟩,⟨_,rfl,Cn⟩,trivial⟩ ⟨C4 (b':=0) kr kr,lv,lv,lv,lv,lv,trivial⟩)⟩
 ·rw [CK hb1723] at h
  refine AG ?_
  let p17:Option Blk:=some ⟨5,60,[.ag [.v (.int .u8 r40.2.2.2.2.2.2.1),.st r40.2.2.2.2.2.2.2.1,.v (.bool r40.2.2.2.2.2.2.2.2.1),.e0,.v (.int .i64 r40.2.2.2.2.2.2.2.2.2.1)]],false⟩
  let p18:Option Blk:=some ⟨5,107,[.ag [.v (.int .u8 r40.2.1),.v (.int .u8 r40.2.2.1),.v (.int .u8 r40.2.2.2.1),.v (.bool r40.2.2.2.2.1),.v (.bool r40.2.2.2.2.2.1)]],false⟩
  let p19:Nat×AV:=(85,.v (.bool (r40.2.2.2.2.2.2.1==10)))
  let p20:Nat×AV:=(15,.v (.int .i64 c4))
  let p21:Nat×AV:=(14,.v (.int .i64 (((x0.take (mnI (x0.length:Int) 8).toNat).drop (0:Int).toNat).length:Int)))
  let p22:Nat×AV:=(13,.sl 5 (((x0.take (mnI (x0.length:Int) 8).toNat).drop (0:Int).toNat).map (cdA (csC (cdK .u8) (csC (cdK .u8) (csC (cdK .u8) (csC cdB (csE cdB))))) (fun _=>rfl)).enc))
  let p23:Nat×AV:=(3,hd 0 (r40.1.map AA.enc))
  refine AH (s1:=⟨Fr 98 [p23,(4,.st c3),(6,.pt 1 0 0),(7,.pt 2 0 0),p22,p21,p20,p19],[mk 5 60 (r40.1.map AA.enc),p18,p17]⟩) ?_ ?_
  ·refine AD (n:=98) AC 2 [p23,(4,.st c3),(6,.pt 1 0 0),(7,.pt 2 0 0),p22,p21,p20,p19] [mk 5 60 (r40.1.map AA.enc),p18,p17,mk 1 9 (r40.2.2.2.2.2.2.2.2.2.2.map cdS.enc)] kr ?_
   exact AL rfl (AZ [0,1,2] ⟨⟨_,rfl,Cr⟩,⟨_,rfl,Cn⟩,⟨_,rfl,Cn⟩,trivial⟩ ⟨C4 (b':=0) kr kr,lv,lv,lv,lv,lv,lv,lv,trivial⟩)
  obtain ⟨r2056,hr2056,h⟩:=OB h;refine Cg (Lr x0 c3 c4 r40 _ hr2056) ?_;have hq:=OI h; subst hq
  let p24:Option Blk:=mk 5 60 (r2056.1.map AA.enc)
  let p25:Nat×AV:=(3,hd 0 (r2056.1.map AA.enc))
  let p26:Option Blk:=some ⟨5,60,[.ag [.v (.int .u8 r2056.2.1),.st r2056.2.2.1,.v (.bool r2056.2.2.2.1),.e0,.v (.int .i64 r2056.2.2.2.2)]],false⟩
  exact ⟨rfl,(Wk.trans (s1:=⟨Fr 98 [p25,(4,.st c3),(7,.pt 1 0 0),p22,p21,p20],[p24,p26]⟩) AO (Wk.trans (s1:=⟨Fr 98 [p25,(4,.st c3),(7,.pt 1 0 0),p22,p21,p20],[p24,p26,none]⟩) Wk.none (Wk.trans (s1:=⟨Fr 98 [p25,(4,.st c3),(7,.pt 1 0 0),p22,p21,p20],[p24,some ⟨5,60,[.ag [.v (.int .u8 r2056.2.1),.st r2056.2.2.1,.v (.bool r2056.2.2.2.1),.sl 1 ([].map cdS.enc),.v (.int .i64 r2056.2.2.2.2)]],false⟩,none]⟩) (MP 2 (.inr kr) ⟨.inr (.inl rfl),.inr (.inr ⟨_,_,_,_,rfl,rfl,⟨(.inr ⟨_,_,rfl,rfl,⟨.inl rfl,.inl rfl,.inl rfl,PW,.inl rfl,trivial⟩⟩),trivial⟩⟩),.inl rfl,trivial⟩ ⟨⟨hd 0 (r2056.1.map AA.enc),kr,(.inl (.inl rfl))⟩,⟨.st c3,kr,(.inl (.inl rfl))⟩,⟨.pt 1 0 0,kr,(.inl (.inl rfl))⟩,⟨.sl 5 (((x0.take (mnI (x0.length:Int) 8).toNat).drop (0:Int).toNat).map (cdA (csC (cdK .u8) (csC (cdK .u8) (csC (cdK .u8) (csC cdB (csE cdB))))) (fun _=>rfl)).enc),kr,(.inl (.inl rfl))⟩,⟨.v (.int .i64 (((x0.take (mnI (x0.length:Int) 8).toNat).drop (0:Int).toNat).length:Int)),kr,(.inl (.inl rfl))⟩,⟨.v (.int .i64 c4),kr,(.inl (.inl rfl))⟩,trivial⟩) (AZ [0,1] ⟨⟨_,rfl,Cr⟩,⟨_,rfl,Cn⟩,trivial⟩ ⟨C4 (b':=0) kr kr,lv,lv,lv,lv,lv,trivial⟩))))⟩
theorem Ln (x0:(List (Int×Int×Int×Bool×Bool))) (c3:(List UInt8)) (c4:Int) (r40:(List AE)×Int×Int×Int×Bool×Bool×Int×(List UInt8)×Bool×Int×(List (List UInt8))) (r:((List AE)×Int×(List UInt8)×Bool×(List (List UInt8))×Int)) (h:IR x0 c3 c4 r40=some r):Sem E0 ⟨none,false⟩ (pc Ci [1,1,1,0,1,0,0,1,1,0,0,1,1,1,1,1,0,1,0,1,1,1,1,1]) ⟨Fr 98 [(3,hd 0 (r40.1.map AA.enc)),(4,.st c3),(6,.pt 1 0 0),(7,.pt 2 0 0),(8,hd 3 (r40.2.2.2.2.2.2.2.2.2.2.map cdS.enc)),(13,.sl 5 (((x0.take (mnI (x0.length:Int) 8).toNat).drop (0:Int).toNat).map (cdA (csC (cdK .u8) (csC (cdK .u8) (csC (cdK .u8) (csC cdB (csE cdB))))) (fun _=>rfl)).enc)),(14,.v (.int .i64 (((x0.take (mnI (x0.length:Int) 8).toNat).drop (0:Int).toNat).length:Int))),(15,.v (.int .i64 c4)),(53,.v (.int .u8 r40.2.2.2.2.2.2.1)),(72,.v (.bool (r40.2.2.2.2.2.2.1==5)))],[mk 5 60 (r40.1.map AA.enc),some ⟨5,107,[.ag [.v (.int .u8 r40.2.1),.v (.int .u8 r40.2.2.1),.v (.int .u8 r40.2.2.2.1),.v (.bool r40.2.2.2.2.1),.v (.bool r40.2.2.2.2.2.1)]],false⟩,some ⟨5,60,[.ag [.v (.int .u8 r40.2.2.2.2.2.2.1),.st r40.2.2.2.2.2.2.2.1,.v (.bool r40.2.2.2.2.2.2.2.2.1),.e0,.v (.int .i64 r40.2.2.2.2.2.2.2.2.2.1)]],false⟩,mk 1 9 (r40.2.2.2.2.2.2.2.2.2.2.map cdS.enc)]⟩ (fun e s=>e = .normal/\Wk E0 s ⟨Fr 98 [(3,hd 0 (r.1.map AA.enc)),(4,.st c3),(7,.pt 1 0 0),(13,.sl 5 (((x0.take (mnI (x0.length:Int) 8).toNat).drop (0:Int).toNat).map (cdA (csC (cdK .u8) (csC (cdK .u8) (csC (cdK .u8) (csC cdB (csE cdB))))) (fun _=>rfl)).enc)),(14,.v (.int .i64 (((x0.take (mnI (x0.length:Int) 8).toNat).drop (0:Int).toNat).length:Int))),(15,.v (.int .i64 c4))],[mk 5 60 (r.1.map AA.enc),some ⟨5,60,[AA.enc r.2],false⟩]⟩):=by
 unfold IR at h;refine AM (b:=(r40.2.2.2.2.2.2.1==5)) kr (fun hb1713=>?_) (fun hb1713=>?_)
 ·rw [if_pos hb1713] at h
  let p1:Option Blk:=some ⟨5,60,[.ag [.v (.int .u8 r40.2.2.2.2.2.2.1),.st r40.2.2.2.2.2.2.2.1,.v (.bool r40.2.2.2.2.1),.e0,.v (.int .i64 r40.2.2.2.2.2.2.2.2.2.1)]],false⟩
  let p2:Option Blk:=mk 5 60 (r40.1.map AA.enc)
  let p3:Nat×AV:=(15,.v (.int .i64 c4))
  let p4:Nat×AV:=(14,.v (.int .i64 (((x0.take (mnI (x0.length:Int) 8).toNat).drop (0:Int).toNat).length:Int)))
  let p5:Nat×AV:=(13,.sl 5 (((x0.take (mnI (x0.length:Int) 8).toNat).drop (0:Int).toNat).map (cdA (csC (cdK .u8) (csC (cdK .u8) (csC (cdK .u8) (csC cdB (csE cdB))))) (fun _=>rfl)).enc))
  let p6:Nat×AV:=(7,.pt 1 0 0)
  let p7:Nat×AV:=(3,hd 0 (r40.1.map AA.enc))
  refine AH (s1:=⟨Fr 98 [p7,(4,.st c3),p6,p5,p4,p3],[p2,p1]⟩) ?_ ?_
  ·refine AD (n:=98) AC 4 [p7,(4,.st c3),(7,.pt 2 0 0),p5,p4,p3] [p2,some ⟨5,107,[.ag [.v (.int .u8 r40.2.1),.v (.int .u8 r40.2.2.1),.v (.int .u8 r40.2.2.2.1),.v (.bool r40.2.2.2.2.1),.v (.bool r40.2.2.2.2.2.1)]],false⟩,p1,mk 1 9 (r40.2.2.2.2.2.2.2.2.2.2.map cdS.enc)] kr ?_
   exact AL rfl (AZ [0,2] ⟨⟨_,rfl,Cr⟩,⟨_,rfl,Cn⟩,trivial⟩ ⟨C4 (b':=0) kr kr,lv,lv,lv,lv,lv,trivial⟩)
  have hq:=OI h; subst hq;exact ⟨rfl,(Wk.trans (s1:=⟨Fr 98 [p7,(4,.st c3),p6,p5,p4,p3],[p2,p1]⟩) AO (Wk.trans (s1:=⟨Fr 98 [p7,(4,.st c3),p6,p5,p4,p3],[p2,p1,none]⟩) Wk.none (Wk.trans (s1:=⟨Fr 98 [p7,(4,.st c3),p6,p5,p4,p3],[p2,some ⟨5,60,[.ag [.v (.int .u8 r40.2.2.2.2.2.2.1),.st r40.2.2.2.2.2.2.2.1,.v (.bool r40.2.2.2.2.1),.sl 1 ([].map cdS.enc),.v (.int .i64 r40.2.2.2.2.2.2.2.2.2.1)]],false⟩,none]⟩) (MP 2 (.inr kr) ⟨.inr (.inl rfl),.inr (.inr ⟨_,_,_,_,rfl,rfl,⟨(.inr ⟨_,_,rfl,rfl,⟨.inl rfl,.inl rfl,.inl rfl,PW,.inl rfl,trivial⟩⟩),trivial⟩⟩),.inl rfl,trivial⟩ ⟨⟨hd 0 (r40.1.map AA.enc),kr,(.inl (.inl rfl))⟩,⟨.st c3,kr,(.inl (.inl rfl))⟩,⟨.pt 1 0 0,kr,(.inl (.inl rfl))⟩,⟨.sl 5 (((x0.take (mnI (x0.length:Int) 8).toNat).drop (0:Int).toNat).map (cdA (csC (cdK .u8) (csC (cdK .u8) (csC (cdK .u8) (csC cdB (csE cdB))))) (fun _=>rfl)).enc),kr,(.inl (.inl rfl))⟩,⟨.v (.int .i64 (((x0.take (mnI (x0.length:Int) 8).toNat).drop (0:Int).toNat).length:Int)),kr,(.inl (.inl rfl))⟩,⟨.v (.int .i64 c4),kr,(.inl (.inl rfl))⟩,trivial⟩) (AZ [0,1] ⟨⟨_,rfl,Cr⟩,⟨_,rfl,Cn⟩,trivial⟩ ⟨C4 (b':=0) kr kr,lv,lv,lv,lv,lv,trivial⟩))))⟩
 ·rw [CK hb1713] at h
  refine AG ?_;refine AJ AC [(3,hd 0 (r40.1.map AA.enc)),(4,.st c3),(6,.pt 1 0 0),(7,.pt 2 0 0),(8,hd 3 (r40.2.2.2.2.2.2.2.2.2.2.map cdS.enc)),(13,.sl 5 (((x0.take (mnI (x0.length:Int) 8).toNat).drop (0:Int).toNat).map (cdA (csC (cdK .u8) (csC (cdK .u8) (csC (cdK .u8) (csC cdB (csE cdB))))) (fun _=>rfl)).enc)),(14,.v (.int .i64 (((x0.take (mnI (x0.length:Int) 8).toNat).drop (0:Int).toNat).length:Int))),(15,.v (.int .i64 c4)),(53,.v (.int .u8 r40.2.2.2.2.2.2.1)),(77,.v (.bool (r40.2.2.2.2.2.2.1==6)))] [mk 5 60 (r40.1.map AA.enc),some ⟨5,107,[.ag [.v (.int .u8 r40.2.1),.v (.int .u8 r40.2.2.1),.v (.int .u8 r40.2.2.2.1),.v (.bool r40.2.2.2.2.1),.v (.bool r40.2.2.2.2.2.1)]],false⟩,some ⟨5,60,[.ag [.v (.int .u8 r40.2.2.2.2.2.2.1),.st r40.2.2.2.2.2.2.2.1,.v (.bool r40.2.2.2.2.2.2.2.2.1),.e0,.v (.int .i64 r40.2.2.2.2.2.2.2.2.2.1)]],false⟩,mk 1 9 (r40.2.2.2.2.2.2.2.2.2.2.map cdS.enc)] ?_;obtain ⟨r1722,hr1722,h⟩:=OB h;refine Cg (Lp x0 c3 c4 r40 _ hr1722) ?_;obtain ⟨r2057,hr2057,h⟩:=OB h;refine Cg (Lq x0 c3 c4 r40 r1722 _ hr2057) ?_;have hq:=OI h; subst hq;exact ⟨rfl,(AZ [0,1] ⟨⟨_,rfl,Cr⟩,⟨_,rfl,Cn⟩,trivial⟩ ⟨C4 (b':=0) kr kr,lv,lv,lv,lv,lv,trivial⟩)⟩
theorem MJ (x0:(List (Int×Int×Int×Bool×Bool))) (c3:(List UInt8)) (c4:Int) (r40:(List AE)×Int×Int×Int×Bool×Bool×Int×(List UInt8)×Bool×Int×(List (List UInt8))) (r:((List AE)×Int×(List UInt8)×Bool×(List (List UInt8))×Int)) (h:I2 x0 c3 c4 r40=some r):Sem E0 ⟨none,false⟩ (pc Ci [1,1,1,0,1,0,0,1,1,0,0,1,1,1,1,1,0,1,0,1,1,1]) ⟨Fr 98 [(3,hd 0 (r40.1.map AA.enc)),(4,.st c3),(6,.pt 1 0 0),(7,.pt 2 0 0),(8,hd 3 (r40.2.2.2.2.2.2.2.2.2.2.map cdS.enc)),(13,.sl 5 (((x0.take (mnI (x0.length:Int) 8).toNat).drop (0:Int).toNat).map (cdA (csC (cdK .u8) (csC (cdK .u8) (csC (cdK .u8) (csC cdB (csE cdB))))) (fun _=>rfl)).enc)),(14,.v (.int .i64 (((x0.take (mnI (x0.length:Int) 8).toNat).drop (0:Int).toNat).length:Int))),(15,.v (.int .i64 c4)),(53,.v (.int .u8 r40.2.2.2.2.2.2.1)),(61,.v (.bool (r40.2.2.2.2.2.2.1==4)))],[mk 5 60 (r40.1.map AA.enc),some ⟨5,107,[.ag [.v (.int .u8 r40.2.1),.v (.int .u8 r40.2.2.1),.v (.int .u8 r40.2.2.2.1),.v (.bool r40.2.2.2.2.1),.v (.bool r40.2.2.2.2.2.1)]],false⟩,some ⟨5,60,[.ag [.v (.int .u8 r40.2.2.2.2.2.2.1),.st r40.2.2.2.2.2.2.2.1,.v (.bool r40.2.2.2.2.2.2.2.2.1),.e0,.v (.int .i64 r40.2.2.2.2.2.2.2.2.2.1)]],false⟩,mk 1 9 (r40.2.2.2.2.2.2.2.2.2.2.map cdS.enc)]⟩ (fun e s=>e = .normal/\Wk E0 s ⟨Fr 98 [(3,hd 0 (r.1.map AA.enc)),(4,.st c3),(7,.pt 1 0 0),(13,.sl 5 (((x0.take (mnI (x0.length:Int) 8).toNat).drop (0:Int).toNat).map (cdA (csC (cdK .u8) (csC (cdK .u8) (csC (cdK .u8) (csC cdB (csE cdB))))) (fun _=>rfl)).enc)),(14,.v (.int .i64 (((x0.take (mnI (x0.length:Int) 8).toNat).drop (0:Int).toNat).length:Int))),(15,.v (.int .i64 c4))],[mk 5 60 (r.1.map AA.enc),some ⟨5,60,[AA.enc r.2],false⟩]⟩):=by
 unfold I2 at h;refine AM (b:=(r40.2.2.2.2.2.2.1==4)) kr (fun hb1226=>?_) (fun hb1226=>?_)
 ·rw [if_pos hb1226] at h
  let p1:Option Blk:=some ⟨5,60,[.ag [.v (.int .u8 r40.2.2.2.2.2.2.1),.st r40.2.2.2.2.2.2.2.1,.v (.bool r40.2.2.2.2.1),.e0,.v (.int .i64 (wr .i64 (1 + (wr .i64 (r40.2.2.1.tmod 2)))))]],false⟩
  let p2:Option Blk:=mk 5 60 (r40.1.map AA.enc)
  let p3:Nat×AV:=(15,.v (.int .i64 c4))
  let p4:Nat×AV:=(14,.v (.int .i64 (((x0.take (mnI (x0.length:Int) 8).toNat).drop (0:Int).toNat).length:Int)))
  let p5:Nat×AV:=(13,.sl 5 (((x0.take (mnI (x0.length:Int) 8).toNat).drop (0:Int).toNat).map (cdA (csC (cdK .u8) (csC (cdK .u8) (csC (cdK .u8) (csC cdB (csE cdB))))) (fun _=>rfl)).enc))
  let p6:Nat×AV:=(7,.pt 1 0 0)
  let p7:Nat×AV:=(3,hd 0 (r40.1.map AA.enc))
  refine Qp (s1:=⟨Fr 98 [p7,(4,.st c3),p6,p5,p4,p3],[p2,p1]⟩) AC 11 kr ?_ ?_
  ·refine RunA.q 0 kr rfl ?_
   let p8:Option Blk:=mk 1 9 (r40.2.2.2.2.2.2.2.2.2.2.map cdS.enc)
   let p9:Option Blk:=some ⟨5,60,[.ag [.v (.int .u8 r40.2.2.2.2.2.2.1),.st r40.2.2.2.2.2.2.2.1,.v (.bool r40.2.2.2.2.2.2.2.2.1),.e0,.v (.int .i64 r40.2.2.2.2.2.2.2.2.2.1)]],false⟩
   let p10:Option Blk:=some ⟨5,107,[.ag [.v (.int .u8 r40.2.1),.v (.int .u8 r40.2.2.1),.v (.int .u8 r40.2.2.2.1),.v (.bool r40.2.2.2.2.1),.v (.bool r40.2.2.2.2.2.1)]],false⟩
   let p11:Nat×AV:=(7,.pt 2 0 0)
   refine RunS.only (n:=98) AC [p7,(4,.st c3),(6,.pt 1 0 0),p11,p5,p4,p3,(63,.pt 1 0 1)] [p2,p10,p9,p8] kr ?_;refine RunA.q 5 kr rfl ?_
   let p12:Nat×AV:=(68,.pt 1 0 3)
   refine RunS.only (n:=98) AC [p7,(4,.st c3),p11,p5,p4,p3,(63,.pt 1 0 1),p12] [p2,p10,p9,p8] kr ?_;refine Me 1 6 kr rfl rfl ?_ ?_
   ·refine RunS.only (n:=98) AC [p7,(4,.st c3),p11,p5,p4,p3,(64,.v (.int .u8 r40.2.2.1)),p12] [p2,p10,p9,p8] kr ?_
    refine Me 2 6 kr rfl rfl ?_ ?_
    ·refine RunS.only (n:=98) AC [p7,(4,.st c3),p11,p5,p4,p3,(65,.v (.int .u8 (r40.2.2.1.tmod 2))),p12] [p2,p10,p9,p8] kr ?_
     refine Me 3 6 kr rfl rfl ?_ ?_
     ·refine RunS.only (n:=98) AC [p7,(4,.st c3),p11,p5,p4,p3,(66,.v (.int .i64 (wr .i64 (r40.2.2.1.tmod 2)))),p12] [p2,p10,p9,p8] kr ?_
      refine RunA.q 4 kr rfl ?_
      let p13:Nat×AV:=(67,.v (.int .i64 (wr .i64 (1 + (wr .i64 (r40.2.2.1.tmod 2))))))
      refine RunS.only (n:=98) AC [p7,(4,.st c3),p11,p5,p4,p3,p13,p12] [p2,p10,p9,p8] kr ?_;refine RunA.q 7 kr rfl ?_;refine RunS.only (n:=98) AC [p7,(4,.st c3),p11,p5,p4,p3,p13,p12,(70,.pt 2 0 4)] [p2,p10,p9,p8] kr ?_;refine Me 6 8 kr rfl rfl ?_ ?_
      ·let p14:Nat×AV:=(69,.v (.bool r40.2.2.2.2.1))
       refine RunS.only (n:=98) AC [p7,(4,.st c3),p11,p5,p4,p3,p13,p14,(70,.pt 2 0 4)] [p2,p10,p9,p8] kr ?_;refine EC 8 kr rfl ?_
       let p15:Option Blk:=some ⟨5,60,[.ag [.v (.int .u8 r40.2.2.2.2.2.2.1),.st r40.2.2.2.2.2.2.2.1,.v (.bool r40.2.2.2.2.2.2.2.2.1),.e0,.v (.int .i64 (wr .i64 (1 + (wr .i64 (r40.2.2.1.tmod 2)))))]],false⟩
       refine RunS.only (n:=98) AC [p7,(4,.st c3),p11,p5,p4,p3,p14] [p2,p10,p15,p8] kr ?_;refine RunA.q 9 kr rfl ?_;refine RunS.only (n:=98) AC [p7,(4,.st c3),p11,p5,p4,p3,p14,(71,.pt 2 0 2)] [p2,p10,p15,p8] kr ?_;refine EC 10 kr rfl ?_;refine RunS.only (n:=98) AC [p7,(4,.st c3),p11,p5,p4,p3] [p2,p10,p1,p8] kr ?_;exact RunA.done kr (AZ [0,2] ⟨⟨_,rfl,Cr⟩,⟨_,rfl,Cn⟩,trivial⟩ ⟨C4 (b':=0) kr kr,lv,lv,lv,lv,lv,trivial⟩)
      ·let p16:Option Blk:=some ⟨5,60,[.ag [.v (.int .u8 r40.2.2.2.2.2.2.1),.st r40.2.2.2.2.2.2.2.1,.v (.bool r40.2.2.2.2.2.2.2.2.1),.e0,.v (.int .i64 (wr .i64 (1 + (wr .i64 (r40.2.2.1.tmod 2)))))]],false⟩
       refine RunS.only (n:=98) AC [p7,(4,.st c3),p11,p5,p4,p3,p12] [p2,p10,p16,p8] kr ?_;refine EC 6 kr rfl ?_;refine RunS.only (n:=98) AC [p7,(4,.st c3),p11,p5,p4,p3,(69,.v (.bool r40.2.2.2.2.1))] [p2,p10,p16,p8] kr ?_;refine RunA.q 9 kr rfl ?_;refine RunS.only (n:=98) AC [p7,(4,.st c3),p11,p5,p4,p3,(69,.v (.bool r40.2.2.2.2.1)),(71,.pt 2 0 2)] [p2,p10,p16,p8] kr ?_;refine EC 10 kr rfl ?_;refine RunS.only (n:=98) AC [p7,(4,.st c3),p11,p5,p4,p3] [p2,p10,p1,p8] kr ?_;exact RunA.done kr (AZ [0,2] ⟨⟨_,rfl,Cr⟩,⟨_,rfl,Cn⟩,trivial⟩ ⟨C4 (b':=0) kr kr,lv,lv,lv,lv,lv,trivial⟩)
     ·let p17:Nat×AV:=(69,.v (.bool r40.2.2.2.2.1))
      refine RunS.only (n:=98) AC [p7,(4,.st c3),p11,p5,p4,p3,(65,.v (.int .u8 (r40.2.2.1.tmod 2))),p17] [p2,p10,p9,p8] kr ?_;refine EC 3 kr rfl ?_;refine RunS.only (n:=98) AC [p7,(4,.st c3),p11,p5,p4,p3,(66,.v (.int .i64 (wr .i64 (r40.2.2.1.tmod 2)))),p17] [p2,p10,p9,p8] kr ?_;refine RunA.q 4 kr rfl ?_
      let p18:Nat×AV:=(67,.v (.int .i64 (wr .i64 (1 + (wr .i64 (r40.2.2.1.tmod 2))))))
      refine RunS.only (n:=98) AC [p7,(4,.st c3),p11,p5,p4,p3,p18,p17] [p2,p10,p9,p8] kr ?_;refine RunA.q 7 kr rfl ?_;refine RunS.only (n:=98) AC [p7,(4,.st c3),p11,p5,p4,p3,p18,p17,(70,.pt 2 0 4)] [p2,p10,p9,p8] kr ?_;refine EC 8 kr rfl ?_
      let p19:Option Blk:=some ⟨5,60,[.ag [.v (.int .u8 r40.2.2.2.2.2.2.1),.st r40.2.2.2.2.2.2.2.1,.v (.bool r40.2.2.2.2.2.2.2.2.1),.e0,.v (.int .i64 (wr .i64 (1 + (wr .i64 (r40.2.2.1.tmod 2)))))]],false⟩
      refine RunS.only (n:=98) AC [p7,(4,.st c3),p11,p5,p4,p3,p17] [p2,p10,p19,p8] kr ?_;refine RunA.q 9 kr rfl ?_;refine RunS.only (n:=98) AC [p7,(4,.st c3),p11,p5,p4,p3,p17,(71,.pt 2 0 2)] [p2,p10,p19,p8] kr ?_;refine EC 10 kr rfl ?_;refine RunS.only (n:=98) AC [p7,(4,.st c3),p11,p5,p4,p3] [p2,p10,p1,p8] kr ?_;exact RunA.done kr (AZ [0,2] ⟨⟨_,rfl,Cr⟩,⟨_,rfl,Cn⟩,trivial⟩ ⟨C4 (b':=0) kr kr,lv,lv,lv,lv,lv,trivial⟩)
    ·let p20:Nat×AV:=(69,.v (.bool r40.2.2.2.2.1))
     refine RunS.only (n:=98) AC [p7,(4,.st c3),p11,p5,p4,p3,(64,.v (.int .u8 r40.2.2.1)),p20] [p2,p10,p9,p8] kr ?_;refine EC 2 kr rfl ?_;refine RunS.only (n:=98) AC [p7,(4,.st c3),p11,p5,p4,p3,(65,.v (.int .u8 (r40.2.2.1.tmod 2))),p20] [p2,p10,p9,p8] kr ?_;refine EC 3 kr rfl ?_;refine RunS.only (n:=98) AC [p7,(4,.st c3),p11,p5,p4,p3,(66,.v (.int .i64 (wr .i64 (r40.2.2.1.tmod 2)))),p20] [p2,p10,p9,p8] kr ?_;refine RunA.q 4 kr rfl ?_
     let p21:Nat×AV:=(67,.v (.int .i64 (wr .i64 (1 + (wr .i64 (r40.2.2.1.tmod 2))))))
     refine RunS.only (n:=98) AC [p7,(4,.st c3),p11,p5,p4,p3,p21,p20] [p2,p10,p9,p8] kr ?_;refine RunA.q 7 kr rfl ?_;refine RunS.only (n:=98) AC [p7,(4,.st c3),p11,p5,p4,p3,p21,p20,(70,.pt 2 0 4)] [p2,p10,p9,p8] kr ?_;refine EC 8 kr rfl ?_
     let p22:Option Blk:=some ⟨5,60,[.ag [.v (.int .u8 r40.2.2.2.2.2.2.1),.st r40.2.2.2.2.2.2.2.1,.v (.bool r40.2.2.2.2.2.2.2.2.1),.e0,.v (.int .i64 (wr .i64 (1 + (wr .i64 (r40.2.2.1.tmod 2)))))]],false⟩
     refine RunS.only (n:=98) AC [p7,(4,.st c3),p11,p5,p4,p3,p20] [p2,p10,p22,p8] kr ?_;refine RunA.q 9 kr rfl ?_;refine RunS.only (n:=98) AC [p7,(4,.st c3),p11,p5,p4,p3,p20,(71,.pt 2 0 2)] [p2,p10,p22,p8] kr ?_;refine EC 10 kr rfl ?_;refine RunS.only (n:=98) AC [p7,(4,.st c3),p11,p5,p4,p3] [p2,p10,p1,p8] kr ?_;exact RunA.done kr (AZ [0,2] ⟨⟨_,rfl,Cr⟩,⟨_,rfl,Cn⟩,trivial⟩ ⟨C4 (b':=0) kr kr,lv,lv,lv,lv,lv,trivial⟩)
   ·let p23:Nat×AV:=(69,.v (.bool r40.2.2.2.2.1))
    refine RunS.only (n:=98) AC [p7,(4,.st c3),p11,p5,p4,p3,(63,.pt 1 0 1),p23] [p2,p10,p9,p8] kr ?_;refine EC 1 kr rfl ?_;refine RunS.only (n:=98) AC [p7,(4,.st c3),p11,p5,p4,p3,(64,.v (.int .u8 r40.2.2.1)),p23] [p2,p10,p9,p8] kr ?_;refine EC 2 kr rfl ?_;refine RunS.only (n:=98) AC [p7,(4,.st c3),p11,p5,p4,p3,(65,.v (.int .u8 (r40.2.2.1.tmod 2))),p23] [p2,p10,p9,p8] kr ?_;refine EC 3 kr rfl ?_;refine RunS.only (n:=98) AC [p7,(4,.st c3),p11,p5,p4,p3,(66,.v (.int .i64 (wr .i64 (r40.2.2.1.tmod 2)))),p23] [p2,p10,p9,p8] kr ?_;refine RunA.q 4 kr rfl ?_
    let p24:Nat×AV:=(67,.v (.int .i64 (wr .i64 (1 + (wr .i64 (r40.2.2.1.tmod 2))))))
    refine RunS.only (n:=98) AC [p7,(4,.st c3),p11,p5,p4,p3,p24,p23] [p2,p10,p9,p8] kr ?_;refine RunA.q 7 kr rfl ?_;refine RunS.only (n:=98) AC [p7,(4,.st c3),p11,p5,p4,p3,p24,p23,(70,.pt 2 0 4)] [p2,p10,p9,p8] kr ?_;refine EC 8 kr rfl ?_
    let p25:Option Blk:=some ⟨5,60,[.ag [.v (.int .u8 r40.2.2.2.2.2.2.1),.st r40.2.2.2.2.2.2.2.1,.v (.bool r40.2.2.2.2.2.2.2.2.1),.e0,.v (.int .i64 (wr .i64 (1 + (wr .i64 (r40.2.2.1.tmod 2)))))]],false⟩
    refine RunS.only (n:=98) AC [p7,(4,.st c3),p11,p5,p4,p3,p23] [p2,p10,p25,p8] kr ?_;refine RunA.q 9 kr rfl ?_;refine RunS.only (n:=98) AC [p7,(4,.st c3),p11,p5,p4,p3,p23,(71,.pt 2 0 2)] [p2,p10,p25,p8] kr ?_;refine EC 10 kr rfl ?_;refine RunS.only (n:=98) AC [p7,(4,.st c3),p11,p5,p4,p3] [p2,p10,p1,p8] kr ?_;exact RunA.done kr (AZ [0,2] ⟨⟨_,rfl,Cr⟩,⟨_,rfl,Cn⟩,trivial⟩ ⟨C4 (b':=0) kr kr,lv,lv,lv,lv,lv,trivial⟩)
  have hq:=OI h; subst hq;exact ⟨rfl,(Wk.trans (s1:=⟨Fr 98 [p7,(4,.st c3),p6,p5,p4,p3],[p2,p1]⟩) AO (Wk.trans (s1:=⟨Fr 98 [p7,(4,.st c3),p6,p5,p4,p3],[p2,p1,none]⟩) Wk.none (Wk.trans (s1:=⟨Fr 98 [p7,(4,.st c3),p6,p5,p4,p3],[p2,some ⟨5,60,[.ag [.v (.int .u8 r40.2.2.2.2.2.2.1),.st r40.2.2.2.2.2.2.2.1,.v (.bool r40.2.2.2.2.1),.sl 1 ([].map cdS.enc),.v (.int .i64 (wr .i64 (1 + (wr .i64 (r40.2.2.1.tmod 2)))))]],false⟩,none]⟩) (MP 2 (.inr kr) ⟨.inr (.inl rfl),.inr (.inr ⟨_,_,_,_,rfl,rfl,⟨(.inr ⟨_,_,rfl,rfl,⟨.inl rfl,.inl rfl,.inl rfl,PW,.inl rfl,trivial⟩⟩),trivial⟩⟩),.inl rfl,trivial⟩ ⟨⟨hd 0 (r40.1.map AA.enc),kr,(.inl (.inl rfl))⟩,⟨.st c3,kr,(.inl (.inl rfl))⟩,⟨.pt 1 0 0,kr,(.inl (.inl rfl))⟩,⟨.sl 5 (((x0.take (mnI (x0.length:Int) 8).toNat).drop (0:Int).toNat).map (cdA (csC (cdK .u8) (csC (cdK .u8) (csC (cdK .u8) (csC cdB (csE cdB))))) (fun _=>rfl)).enc),kr,(.inl (.inl rfl))⟩,⟨.v (.int .i64 (((x0.take (mnI (x0.length:Int) 8).toNat).drop (0:Int).toNat).length:Int)),kr,(.inl (.inl rfl))⟩,⟨.v (.int .i64 c4),kr,(.inl (.inl rfl))⟩,trivial⟩) (AZ [0,1] ⟨⟨_,rfl,Cr⟩,⟨_,rfl,Cn⟩,trivial⟩ ⟨C4 (b':=0) kr kr,lv,lv,lv,lv,lv,trivial⟩))))⟩
 ·rw [CK hb1226] at h
  refine AJ AC [(3,hd 0 (r40.1.map AA.enc)),(4,.st c3),(6,.pt 1 0 0),(7,.pt 2 0 0),(8,hd 3 (r40.2.2.2.2.2.2.2.2.2.2.map cdS.enc)),(13,.sl 5 (((x0.take (mnI (x0.length:Int) 8).toNat).drop (0:Int).toNat).map (cdA (csC (cdK .u8) (csC (cdK .u8) (csC (cdK .u8) (csC cdB (csE cdB))))) (fun _=>rfl)).enc)),(14,.v (.int .i64 (((x0.take (mnI (x0.length:Int) 8).toNat).drop (0:Int).toNat).length:Int))),(15,.v (.int .i64 c4)),(53,.v (.int .u8 r40.2.2.2.2.2.2.1)),(72,.v (.bool (r40.2.2.2.2.2.2.1==5)))] [mk 5 60 (r40.1.map AA.enc),some ⟨5,107,[.ag [.v (.int .u8 r40.2.1),.v (.int .u8 r40.2.2.1),.v (.int .u8 r40.2.2.2.1),.v (.bool r40.2.2.2.2.1),.v (.bool r40.2.2.2.2.2.1)]],false⟩,some ⟨5,60,[.ag [.v (.int .u8 r40.2.2.2.2.2.2.1),.st r40.2.2.2.2.2.2.2.1,.v (.bool r40.2.2.2.2.2.2.2.2.1),.e0,.v (.int .i64 r40.2.2.2.2.2.2.2.2.2.1)]],false⟩,mk 1 9 (r40.2.2.2.2.2.2.2.2.2.2.map cdS.enc)] ?_;obtain ⟨r2058,hr2058,h⟩:=OB h;refine Cg (Ln x0 c3 c4 r40 _ hr2058) ?_;have hq:=OI h; subst hq;exact ⟨rfl,(AZ [0,1] ⟨⟨_,rfl,Cr⟩,⟨_,rfl,Cn⟩,trivial⟩ ⟨C4 (b':=0) kr kr,lv,lv,lv,lv,lv,trivial⟩)⟩
theorem MI (x0:(List (Int×Int×Int×Bool×Bool))) (c3:(List UInt8)) (c4:Int) (r40:(List AE)×Int×Int×Int×Bool×Bool×Int×(List UInt8)×Bool×Int×(List (List UInt8))) (r:((List AE)×(List UInt8)×Int×(List UInt8)×Bool×(List (List UInt8))×Int)) (h:GL x0 c3 c4 r40=some r):Sem E0 ⟨none,false⟩ (pc Ci [1,1,1,0,1,0,0,1,1,0,0,1,1,1,1,1,0,1,0,1]) ⟨Fr 98 [(3,hd 0 (r40.1.map AA.enc)),(4,.st c3),(6,.pt 1 0 0),(7,.pt 2 0 0),(8,hd 3 (r40.2.2.2.2.2.2.2.2.2.2.map cdS.enc)),(13,.sl 5 (((x0.take (mnI (x0.length:Int) 8).toNat).drop (0:Int).toNat).map (cdA (csC (cdK .u8) (csC (cdK .u8) (csC (cdK .u8) (csC cdB (csE cdB))))) (fun _=>rfl)).enc)),(14,.v (.int .i64 (((x0.take (mnI (x0.length:Int) 8).toNat).drop (0:Int).toNat).length:Int))),(15,.v (.int .i64 c4)),(53,.v (.int .u8 r40.2.2.2.2.2.2.1)),(54,.v (.bool (r40.2.2.2.2.2.2.1==1)))],[mk 5 60 (r40.1.map AA.enc),some ⟨5,107,[.ag [.v (.int .u8 r40.2.1),.v (.int .u8 r40.2.2.1),.v (.int .u8 r40.2.2.2.1),.v (.bool r40.2.2.2.2.1),.v (.bool r40.2.2.2.2.2.1)]],false⟩,some ⟨5,60,[.ag [.v (.int .u8 r40.2.2.2.2.2.2.1),.st r40.2.2.2.2.2.2.2.1,.v (.bool r40.2.2.2.2.2.2.2.2.1),.e0,.v (.int .i64 r40.2.2.2.2.2.2.2.2.2.1)]],false⟩,mk 1 9 (r40.2.2.2.2.2.2.2.2.2.2.map cdS.enc)]⟩ (fun e s=>e = .normal/\Wk E0 s ⟨Fr 98 [(3,hd 0 (r.1.map AA.enc)),(4,.st r.2.1),(7,.pt 1 0 0),(13,.sl 5 (((x0.take (mnI (x0.length:Int) 8).toNat).drop (0:Int).toNat).map (cdA (csC (cdK .u8) (csC (cdK .u8) (csC (cdK .u8) (csC cdB (csE cdB))))) (fun _=>rfl)).enc)),(14,.v (.int .i64 (((x0.take (mnI (x0.length:Int) 8).toNat).drop (0:Int).toNat).length:Int))),(15,.v (.int .i64 c4))],[mk 5 60 (r.1.map AA.enc),some ⟨5,60,[AA.enc r.2.2],false⟩]⟩):=by
 unfold GL at h;refine AM (b:=(r40.2.2.2.2.2.2.1==1)) kr (fun hb41=>?_) (fun hb41=>?_)
 ·rw [if_pos hb41] at h
  refine AG ?_
  let p1:Option Blk:=some ⟨5,60,[.ag [.v (.int .u8 r40.2.2.2.2.2.2.1),.st r40.2.2.2.2.2.2.2.1,.v (.bool r40.2.2.2.2.2.2.2.2.1),.sl 1 (r40.2.2.2.2.2.2.2.2.2.2.map cdS.enc),.v (.int .i64 r40.2.2.2.2.2.2.2.2.2.1)]],false⟩
  let p2:Option Blk:=mk 5 60 (r40.1.map AA.enc)
  let p3:Nat×AV:=(15,.v (.int .i64 c4))
  let p4:Nat×AV:=(14,.v (.int .i64 (((x0.take (mnI (x0.length:Int) 8).toNat).drop (0:Int).toNat).length:Int)))
  let p5:Nat×AV:=(13,.sl 5 (((x0.take (mnI (x0.length:Int) 8).toNat).drop (0:Int).toNat).map (cdA (csC (cdK .u8) (csC (cdK .u8) (csC (cdK .u8) (csC cdB (csE cdB))))) (fun _=>rfl)).enc))
  let p6:Nat×AV:=(8,.sl 1 (r40.2.2.2.2.2.2.2.2.2.2.map cdS.enc))
  let p7:Nat×AV:=(3,hd 0 (r40.1.map AA.enc))
  refine AH (s1:=⟨Fr 98 [p7,(7,.pt 1 0 0),p6,p5,p4,p3],[p2,p1]⟩) ?_ ?_
  ·let p8:Option Blk:=some ⟨5,60,[.ag [.v (.int .u8 r40.2.2.2.2.2.2.1),.st r40.2.2.2.2.2.2.2.1,.v (.bool r40.2.2.2.2.2.2.2.2.1),.e0,.v (.int .i64 r40.2.2.2.2.2.2.2.2.2.1)]],false⟩
   let p9:Option Blk:=some ⟨5,107,[.ag [.v (.int .u8 r40.2.1),.v (.int .u8 r40.2.2.1),.v (.int .u8 r40.2.2.2.1),.v (.bool r40.2.2.2.2.1),.v (.bool r40.2.2.2.2.2.1)]],false⟩
   refine AD (n:=98) AC 2 [p7,(7,.pt 2 0 0),(8,hd 3 (r40.2.2.2.2.2.2.2.2.2.2.map cdS.enc)),p5,p4,p3,(56,hd 3 (r40.2.2.2.2.2.2.2.2.2.2.map cdS.enc)),(57,.pt 2 0 3)] [p2,p9,p8,mk 1 9 (r40.2.2.2.2.2.2.2.2.2.2.map cdS.enc)] kr ?_;refine OT (s1:=⟨Fr 98 [p7,(7,.pt 2 0 0),p6,p5,p4,p3,(56,.sl 1 (r40.2.2.2.2.2.2.2.2.2.2.map cdS.enc)),(57,.pt 2 0 3)],[p2,p9,p8,none]⟩) (GZ 3 (.inl kr) ⟨.inr (.inl rfl),.inr (.inr ⟨_,_,_,_,rfl,rfl,⟨.inl rfl,trivial⟩⟩),.inr (.inr ⟨_,_,_,_,rfl,rfl,⟨.inl rfl,trivial⟩⟩),.inl rfl,trivial⟩ ⟨⟨hd 0 (r40.1.map AA.enc),kr,.inl rfl⟩,⟨.pt 2 0 0,kr,.inl rfl⟩,⟨hd 3 (r40.2.2.2.2.2.2.2.2.2.2.map cdS.enc),kr,Nu (t:=9) kr JO⟩,⟨.sl 5 (((x0.take (mnI (x0.length:Int) 8).toNat).drop (0:Int).toNat).map (cdA (csC (cdK .u8) (csC (cdK .u8) (csC (cdK .u8) (csC cdB (csE cdB))))) (fun _=>rfl)).enc),kr,.inl rfl⟩,⟨.v (.int .i64 (((x0.take (mnI (x0.length:Int) 8).toNat).drop (0:Int).toNat).length:Int)),kr,.inl rfl⟩,⟨.v (.int .i64 c4),kr,.inl rfl⟩,⟨hd 3 (r40.2.2.2.2.2.2.2.2.2.2.map cdS.enc),kr,Nu (t:=9) kr JO⟩,⟨.pt 2 0 3,kr,.inl rfl⟩,trivial⟩) ?_;refine AD (n:=98) AC 1 [p7,(7,.pt 2 0 0),p6,p5,p4,p3] [p2,p9,p1,none] kr ?_;exact AL rfl (AZ [0,2] ⟨⟨_,rfl,Cr⟩,⟨_,rfl,Cn⟩,trivial⟩ ⟨C4 (b':=0) kr kr,lv,lv,lv,lv,lv,trivial⟩)
  obtain ⟨v42,hv42,h⟩:=OB h;refine AH (s1:=⟨Fr 98 [p7,(4,.st v42),(7,.pt 1 0 0),p5,p4,p3],[p2,p1]⟩) ?_ ?_
  ·refine AD (n:=98) AC 1 [p7,(7,.pt 1 0 0),p5,p4,p3,(58,.sl 1 (r40.2.2.2.2.2.2.2.2.2.2.map cdS.enc))] [p2,p1] kr ?_
   refine AK AC 0 rfl (CZ (AB rfl) rfl (AQ (a:= .sl 1 (r40.2.2.2.2.2.2.2.2.2.2.map cdS.enc)) (b:= .v (.int .i64 0)) kr kr (GW (e:=cdS.enc) (el:=9) (k:=1) (ki:= .i64) kr kr hv42))) ?_;exact AN AC
  have hq:=OI h; subst hq;exact ⟨rfl,(AZ [0,1] ⟨⟨_,rfl,Cr⟩,⟨_,rfl,Cn⟩,trivial⟩ ⟨C4 (b':=0) kr kr,lv,lv,lv,lv,lv,trivial⟩)⟩
 ·rw [CK hb41] at h
  refine AJ AC [(3,hd 0 (r40.1.map AA.enc)),(4,.st c3),(6,.pt 1 0 0),(7,.pt 2 0 0),(8,hd 3 (r40.2.2.2.2.2.2.2.2.2.2.map cdS.enc)),(13,.sl 5 (((x0.take (mnI (x0.length:Int) 8).toNat).drop (0:Int).toNat).map (cdA (csC (cdK .u8) (csC (cdK .u8) (csC (cdK .u8) (csC cdB (csE cdB))))) (fun _=>rfl)).enc)),(14,.v (.int .i64 (((x0.take (mnI (x0.length:Int) 8).toNat).drop (0:Int).toNat).length:Int))),(15,.v (.int .i64 c4)),(53,.v (.int .u8 r40.2.2.2.2.2.2.1)),(61,.v (.bool (r40.2.2.2.2.2.2.1==4)))] [mk 5 60 (r40.1.map AA.enc),some ⟨5,107,[.ag [.v (.int .u8 r40.2.1),.v (.int .u8 r40.2.2.1),.v (.int .u8 r40.2.2.2.1),.v (.bool r40.2.2.2.2.1),.v (.bool r40.2.2.2.2.2.1)]],false⟩,some ⟨5,60,[.ag [.v (.int .u8 r40.2.2.2.2.2.2.1),.st r40.2.2.2.2.2.2.2.1,.v (.bool r40.2.2.2.2.2.2.2.2.1),.e0,.v (.int .i64 r40.2.2.2.2.2.2.2.2.2.1)]],false⟩,mk 1 9 (r40.2.2.2.2.2.2.2.2.2.2.map cdS.enc)] ?_;obtain ⟨r2059,hr2059,h⟩:=OB h;refine Cg (MJ x0 c3 c4 r40 _ hr2059) ?_;have hq:=OI h; subst hq;exact ⟨rfl,(AZ [0,1] ⟨⟨_,rfl,Cr⟩,⟨_,rfl,Cn⟩,trivial⟩ ⟨C4 (b':=0) kr kr,lv,lv,lv,lv,lv,trivial⟩)⟩
theorem MK (x0:(List (Int×Int×Int×Bool×Bool))):∀ (f:Nat) (c2:(List AE)) (c3:(List UInt8)) (c4:Int) (r:((List AE))),Dy x0 f c2 c3 c4=some r->SemN E0 ⟨none,false⟩ (pc Ci [1,1,1,0,1,0,0]) f ⟨Fr 98 [(3,hd 0 (c2.map AA.enc)),(4,.st c3),(13,.sl 5 (((x0.take (mnI (x0.length:Int) 8).toNat).drop (0:Int).toNat).map (cdA (csC (cdK .u8) (csC (cdK .u8) (csC (cdK .u8) (csC cdB (csE cdB))))) (fun _=>rfl)).enc)),(14,.v (.int .i64 (((x0.take (mnI (x0.length:Int) 8).toNat).drop (0:Int).toNat).length:Int))),(15,.v (.int .i64 c4))],[mk 5 60 (c2.map AA.enc)]⟩ (fun e s=>e=(.exit 0)/\Wk E0 s ⟨Fr 98 [(3,hd 0 (r.map AA.enc))],[mk 5 60 (r.map AA.enc)]⟩):=by
 intro f;induction f with
 | zero=>intro c2 c3 c4 r h; cases h
 | succ f ih0 =>
  intro c2 c3 c4 r h
  have ih:=fun (c2:(List AE)) (c3:(List UInt8)) (c4:Int)=>ih0 c2 c3 c4 r
  unfold Dy at h;refine B6 ?_;refine AJ AC [(3,hd 0 (c2.map AA.enc)),(4,.st c3),(13,.sl 5 (((x0.take (mnI (x0.length:Int) 8).toNat).drop (0:Int).toNat).map (cdA (csC (cdK .u8) (csC (cdK .u8) (csC (cdK .u8) (csC cdB (csE cdB))))) (fun _=>rfl)).enc)),(14,.v (.int .i64 (((x0.take (mnI (x0.length:Int) 8).toNat).drop (0:Int).toNat).length:Int))),(15,.v (.int .i64 c4)),(16,.v (.bool (decide (c4 < (((x0.take (mnI (x0.length:Int) 8).toNat).drop (0:Int).toNat).length:Int)))))] [mk 5 60 (c2.map AA.enc)] ?_;refine AG ?_;refine AM (b:=(decide (c4 < (((x0.take (mnI (x0.length:Int) 8).toNat).drop (0:Int).toNat).length:Int)))) kr (fun hb5=>?_) (fun hb5=>?_)
  ·rw [if_pos hb5] at h
   refine AP ?_;refine AG ?_;refine Aj ?_;refine AG ?_;obtain ⟨v6,hv6,h⟩:=OB h;refine AH (s1:=⟨Fr 98 [(3,hd 0 (c2.map AA.enc)),(4,.st c3),(6,.pt 1 0 0),(13,.sl 5 (((x0.take (mnI (x0.length:Int) 8).toNat).drop (0:Int).toNat).map (cdA (csC (cdK .u8) (csC (cdK .u8) (csC (cdK .u8) (csC cdB (csE cdB))))) (fun _=>rfl)).enc)),(14,.v (.int .i64 (((x0.take (mnI (x0.length:Int) 8).toNat).drop (0:Int).toNat).length:Int))),(15,.v (.int .i64 c4))],[mk 5 60 (c2.map AA.enc),some ⟨5,107,[.ag [.v (.int .u8 v6.1),.v (.int .u8 v6.2.1),.v (.int .u8 v6.2.2.1),.v (.bool v6.2.2.2.1),.v (.bool v6.2.2.2.2)]],false⟩]⟩) ?_ ?_
   ·refine AK AC 0 rfl (CZ (AB rfl) rfl (AQ (a:= .sl 5 (((x0.take (mnI (x0.length:Int) 8).toNat).drop (0:Int).toNat).map (cdA (csC (cdK .u8) (csC (cdK .u8) (csC (cdK .u8) (csC cdB (csE cdB))))) (fun _=>rfl)).enc)) (b:= .v (.int .i64 c4)) kr kr (GW (e:=(cdA (csC (cdK .u8) (csC (cdK .u8) (csC (cdK .u8) (csC cdB (csE cdB))))) (fun _=>rfl)).enc) (el:=107) (k:=5) (ki:= .i64) kr kr hv6))) ?_
    exact AN AC
   refine AJ AC [(3,hd 0 (c2.map AA.enc)),(4,.st c3),(6,.pt 1 0 0),(7,.pt 2 0 0),(13,.sl 5 (((x0.take (mnI (x0.length:Int) 8).toNat).drop (0:Int).toNat).map (cdA (csC (cdK .u8) (csC (cdK .u8) (csC (cdK .u8) (csC cdB (csE cdB))))) (fun _=>rfl)).enc)),(14,.v (.int .i64 (((x0.take (mnI (x0.length:Int) 8).toNat).drop (0:Int).toNat).length:Int))),(15,.v (.int .i64 c4))] [mk 5 60 (c2.map AA.enc),some ⟨5,107,[.ag [.v (.int .u8 v6.1),.v (.int .u8 v6.2.1),.v (.int .u8 v6.2.2.1),.v (.bool v6.2.2.2.1),.v (.bool v6.2.2.2.2)]],false⟩,some ⟨5,60,[.ag [.v (.int .u8 (wr .u8 (1 + (v6.1.tmod 10)))),.st [],.v (.bool false),.e0,.v (.int .i64 0)]],false⟩] ?_;refine AG ?_;by_cases hk7:(C7 (v6.2.2.1.tmod 4) (([97,98,99,100]:List UInt8).length:Int) ([97,98,99,100]:List UInt8).length)=true
   case neg=>rw [if_neg hk7] at h; cases h
   rw [if_pos hk7] at h;by_cases hk8:(C7 0 (1:Int) ((([97,98,99,100]:List UInt8).take (([97,98,99,100]:List UInt8).length:Int).toNat).drop (v6.2.2.1.tmod 4).toNat).length)=true
   case neg=>rw [if_neg hk8] at h; cases h
   rw [if_pos hk8] at h;refine AH (s1:=⟨Fr 98 [(3,hd 0 (c2.map AA.enc)),(4,.st c3),(6,.pt 1 0 0),(7,.pt 2 0 0),(8,hd 3 ([((((([97,98,99,100]:List UInt8).take (([97,98,99,100]:List UInt8).length:Int).toNat).drop (v6.2.2.1.tmod 4).toNat).take (1:Int).toNat).drop (0:Int).toNat)].map cdS.enc)),(13,.sl 5 (((x0.take (mnI (x0.length:Int) 8).toNat).drop (0:Int).toNat).map (cdA (csC (cdK .u8) (csC (cdK .u8) (csC (cdK .u8) (csC cdB (csE cdB))))) (fun _=>rfl)).enc)),(14,.v (.int .i64 (((x0.take (mnI (x0.length:Int) 8).toNat).drop (0:Int).toNat).length:Int))),(15,.v (.int .i64 c4))],[mk 5 60 (c2.map AA.enc),some ⟨5,107,[.ag [.v (.int .u8 v6.1),.v (.int .u8 v6.2.1),.v (.int .u8 v6.2.2.1),.v (.bool v6.2.2.2.1),.v (.bool v6.2.2.2.2)]],false⟩,some ⟨5,60,[.ag [.v (.int .u8 (wr .u8 (1 + (v6.1.tmod 10)))),.st [],.v (.bool false),.e0,.v (.int .i64 0)]],false⟩,mk 1 9 ([((((([97,98,99,100]:List UInt8).take (([97,98,99,100]:List UInt8).length:Int).toNat).drop (v6.2.2.1.tmod 4).toNat).take (1:Int).toNat).drop (0:Int).toNat)].map cdS.enc)]⟩) ?_ ?_
   ·refine AD (n:=98) AC 3 [(3,hd 0 (c2.map AA.enc)),(4,.st c3),(6,.pt 1 0 0),(7,.pt 2 0 0),(13,.sl 5 (((x0.take (mnI (x0.length:Int) 8).toNat).drop (0:Int).toNat).map (cdA (csC (cdK .u8) (csC (cdK .u8) (csC (cdK .u8) (csC cdB (csE cdB))))) (fun _=>rfl)).enc)),(14,.v (.int .i64 (((x0.take (mnI (x0.length:Int) 8).toNat).drop (0:Int).toNat).length:Int))),(15,.v (.int .i64 c4)),(26,.v (.int .u8 (v6.2.2.1.tmod 4)))] [mk 5 60 (c2.map AA.enc),some ⟨5,107,[.ag [.v (.int .u8 v6.1),.v (.int .u8 v6.2.1),.v (.int .u8 v6.2.2.1),.v (.bool v6.2.2.2.1),.v (.bool v6.2.2.2.2)]],false⟩,some ⟨5,60,[.ag [.v (.int .u8 (wr .u8 (1 + (v6.1.tmod 10)))),.st [],.v (.bool false),.e0,.v (.int .i64 0)]],false⟩] kr ?_
    refine AK AC 0 rfl (CZ (AB rfl) rfl (Eb (a:= .st [97,98,99,100]) (l:=(some (.v (.int .u8 (v6.2.2.1.tmod 4))))) (u:=none) (m:=none) kr kr kr rfl (FX (bs:=[97,98,99,100]) (lo:=(v6.2.2.1.tmod 4)) (hi:=(([97,98,99,100]:List UInt8).length:Int)) kr (GN (Mq hk7)) rfl hk7))) ?_;refine AK AC 0 rfl (CZ (AB rfl) rfl (Eb (a:= .st ((([97,98,99,100]:List UInt8).take (([97,98,99,100]:List UInt8).length:Int).toNat).drop (v6.2.2.1.tmod 4).toNat)) (l:=none) (u:=(some (.v (.int .i64 1)))) (m:=none) kr kr kr rfl (FX (bs:=((([97,98,99,100]:List UInt8).take (([97,98,99,100]:List UInt8).length:Int).toNat).drop (v6.2.2.1.tmod 4).toNat)) (lo:=0) (hi:=(1:Int)) kr rfl (GN (JN hk8)) hk8))) ?_;exact AN AC
   refine AG ?_;refine AJ AC [(3,hd 0 (c2.map AA.enc)),(4,.st c3),(6,.pt 1 0 0),(7,.pt 2 0 0),(8,hd 3 ([((((([97,98,99,100]:List UInt8).take (([97,98,99,100]:List UInt8).length:Int).toNat).drop (v6.2.2.1.tmod 4).toNat).take (1:Int).toNat).drop (0:Int).toNat)].map cdS.enc)),(13,.sl 5 (((x0.take (mnI (x0.length:Int) 8).toNat).drop (0:Int).toNat).map (cdA (csC (cdK .u8) (csC (cdK .u8) (csC (cdK .u8) (csC cdB (csE cdB))))) (fun _=>rfl)).enc)),(14,.v (.int .i64 (((x0.take (mnI (x0.length:Int) 8).toNat).drop (0:Int).toNat).length:Int))),(15,.v (.int .i64 c4)),(33,.v (.bool ((DO .u8 v6.2.2.1 4)!=0)))] [mk 5 60 (c2.map AA.enc),some ⟨5,107,[.ag [.v (.int .u8 v6.1),.v (.int .u8 v6.2.1),.v (.int .u8 v6.2.2.1),.v (.bool v6.2.2.2.1),.v (.bool v6.2.2.2.2)]],false⟩,some ⟨5,60,[.ag [.v (.int .u8 (wr .u8 (1 + (v6.1.tmod 10)))),.st [],.v (.bool false),.e0,.v (.int .i64 0)]],false⟩,mk 1 9 ([((((([97,98,99,100]:List UInt8).take (([97,98,99,100]:List UInt8).length:Int).toNat).drop (v6.2.2.1.tmod 4).toNat).take (1:Int).toNat).drop (0:Int).toNat)].map cdS.enc)] ?_;obtain ⟨r14,hr14,h⟩:=OB h;refine Cg (MG x0 c2 c3 c4 v6 _ hr14) ?_;refine AG ?_;refine AG ?_;obtain ⟨j27,hj27,h⟩:=OB h;refine AH (s1:=⟨Fr 98 [(3,hd 0 (j27.1.map AA.enc)),(4,.st c3),(6,.pt 1 0 0),(7,.pt 2 0 0),(8,hd 3 (j27.2.2.2.2.2.2.2.2.2.2.1.map cdS.enc)),(13,.sl 5 (((x0.take (mnI (x0.length:Int) 8).toNat).drop (0:Int).toNat).map (cdA (csC (cdK .u8) (csC (cdK .u8) (csC (cdK .u8) (csC cdB (csE cdB))))) (fun _=>rfl)).enc)),(14,.v (.int .i64 (((x0.take (mnI (x0.length:Int) 8).toNat).drop (0:Int).toNat).length:Int))),(15,.v (.int .i64 c4)),(49,.v (.bool j27.2.2.2.2.2.2.2.2.2.2.2))],[mk 5 60 (j27.1.map AA.enc),some ⟨5,107,[.ag [.v (.int .u8 j27.2.1),.v (.int .u8 j27.2.2.1),.v (.int .u8 j27.2.2.2.1),.v (.bool j27.2.2.2.2.1),.v (.bool j27.2.2.2.2.2.1)]],false⟩,some ⟨5,60,[.ag [.v (.int .u8 j27.2.2.2.2.2.2.1),.st j27.2.2.2.2.2.2.2.1,.v (.bool j27.2.2.2.2.2.2.2.2.1),.e0,.v (.int .i64 j27.2.2.2.2.2.2.2.2.2.1)]],false⟩,mk 1 9 (j27.2.2.2.2.2.2.2.2.2.2.1.map cdS.enc)]⟩) ?_ ?_
   ·refine AD (n:=98) AC 3 [(3,hd 0 (c2.map AA.enc)),(4,.st c3),(6,.pt 1 0 0),(7,.pt 2 0 0),(8,hd 3 (r14.map cdS.enc)),(13,.sl 5 (((x0.take (mnI (x0.length:Int) 8).toNat).drop (0:Int).toNat).map (cdA (csC (cdK .u8) (csC (cdK .u8) (csC (cdK .u8) (csC cdB (csE cdB))))) (fun _=>rfl)).enc)),(14,.v (.int .i64 (((x0.take (mnI (x0.length:Int) 8).toNat).drop (0:Int).toNat).length:Int))),(15,.v (.int .i64 c4)),(45,.v (.bool v6.2.2.2.2))] [mk 5 60 (c2.map AA.enc),some ⟨5,107,[.ag [.v (.int .u8 v6.1),.v (.int .u8 v6.2.1),.v (.int .u8 v6.2.2.1),.v (.bool v6.2.2.2.1),.v (.bool v6.2.2.2.2)]],false⟩,some ⟨5,60,[.ag [.v (.int .u8 (wr .u8 (1 + (v6.1.tmod 10)))),.st [],.v (.bool false),.e0,.v (.int .i64 0)]],false⟩,mk 1 9 (r14.map cdS.enc)] kr ?_
    rcases BE v6.2.2.2.2 with hc2062 | hc2062
    ·rw [if_pos hc2062] at hj27
     rw [hc2062];refine AD (n:=98) AC 4 [(3,hd 0 (c2.map AA.enc)),(4,.st c3),(6,.pt 1 0 0),(7,.pt 2 0 0),(8,hd 3 (r14.map cdS.enc)),(13,.sl 5 (((x0.take (mnI (x0.length:Int) 8).toNat).drop (0:Int).toNat).map (cdA (csC (cdK .u8) (csC (cdK .u8) (csC (cdK .u8) (csC cdB (csE cdB))))) (fun _=>rfl)).enc)),(14,.v (.int .i64 (((x0.take (mnI (x0.length:Int) 8).toNat).drop (0:Int).toNat).length:Int))),(15,.v (.int .i64 c4)),(46,.pt 2 0 0),(47,.v (.int .u8 (wr .u8 (1 + (v6.1.tmod 10))))),(48,.v (.bool ((wr .u8 (1 + (v6.1.tmod 10)))!=1))),(49,.v (.bool ((wr .u8 (1 + (v6.1.tmod 10)))!=1)))] [mk 5 60 (c2.map AA.enc),some ⟨5,107,[.ag [.v (.int .u8 v6.1),.v (.int .u8 v6.2.1),.v (.int .u8 v6.2.2.1),.v (.bool v6.2.2.2.1),.v (.bool true)]],false⟩,some ⟨5,60,[.ag [.v (.int .u8 (wr .u8 (1 + (v6.1.tmod 10)))),.st [],.v (.bool false),.e0,.v (.int .i64 0)]],false⟩,mk 1 9 (r14.map cdS.enc)] kr ?_;have hq:=OI hj27; subst hq;exact AL rfl (AZ [0,1,2,3] ⟨⟨_,rfl,Cr⟩,⟨_,rfl,Cn⟩,⟨_,rfl,Cn⟩,⟨_,rfl,Cr⟩,trivial⟩ ⟨C4 (b':=0) kr kr,lv,lv,lv,C4 (b':=3) kr kr,lv,lv,lv,lv,trivial⟩)
    ·rw [CK hc2062] at hj27
     rw [hc2062];refine AD (n:=98) AC 4 [(3,hd 0 (c2.map AA.enc)),(4,.st c3),(6,.pt 1 0 0),(7,.pt 2 0 0),(8,hd 3 (r14.map cdS.enc)),(13,.sl 5 (((x0.take (mnI (x0.length:Int) 8).toNat).drop (0:Int).toNat).map (cdA (csC (cdK .u8) (csC (cdK .u8) (csC (cdK .u8) (csC cdB (csE cdB))))) (fun _=>rfl)).enc)),(14,.v (.int .i64 (((x0.take (mnI (x0.length:Int) 8).toNat).drop (0:Int).toNat).length:Int))),(15,.v (.int .i64 c4)),(46,.tp []),(47,.tp []),(48,.tp []),(49,.v (.bool false))] [mk 5 60 (c2.map AA.enc),some ⟨5,107,[.ag [.v (.int .u8 v6.1),.v (.int .u8 v6.2.1),.v (.int .u8 v6.2.2.1),.v (.bool v6.2.2.2.1),.v (.bool false)]],false⟩,some ⟨5,60,[.ag [.v (.int .u8 (wr .u8 (1 + (v6.1.tmod 10)))),.st [],.v (.bool false),.e0,.v (.int .i64 0)]],false⟩,mk 1 9 (r14.map cdS.enc)] kr ?_;have hq:=OI hj27; subst hq;exact AL rfl (AZ [0,1,2,3] ⟨⟨_,rfl,Cr⟩,⟨_,rfl,Cn⟩,⟨_,rfl,Cn⟩,⟨_,rfl,Cr⟩,trivial⟩ ⟨C4 (b':=0) kr kr,lv,lv,lv,C4 (b':=3) kr kr,lv,lv,lv,lv,trivial⟩)
   obtain ⟨r40,hr40,h⟩:=OB h;refine Cg (MH x0 c3 c4 j27 _ hr40) ?_;refine AG ?_;refine AJ AC [(3,hd 0 (r40.1.map AA.enc)),(4,.st c3),(6,.pt 1 0 0),(7,.pt 2 0 0),(8,hd 3 (r40.2.2.2.2.2.2.2.2.2.2.map cdS.enc)),(13,.sl 5 (((x0.take (mnI (x0.length:Int) 8).toNat).drop (0:Int).toNat).map (cdA (csC (cdK .u8) (csC (cdK .u8) (csC (cdK .u8) (csC cdB (csE cdB))))) (fun _=>rfl)).enc)),(14,.v (.int .i64 (((x0.take (mnI (x0.length:Int) 8).toNat).drop (0:Int).toNat).length:Int))),(15,.v (.int .i64 c4)),(53,.v (.int .u8 r40.2.2.2.2.2.2.1))] [mk 5 60 (r40.1.map AA.enc),some ⟨5,107,[.ag [.v (.int .u8 r40.2.1),.v (.int .u8 r40.2.2.1),.v (.int .u8 r40.2.2.2.1),.v (.bool r40.2.2.2.2.1),.v (.bool r40.2.2.2.2.2.1)]],false⟩,some ⟨5,60,[.ag [.v (.int .u8 r40.2.2.2.2.2.2.1),.st r40.2.2.2.2.2.2.2.1,.v (.bool r40.2.2.2.2.2.2.2.2.1),.e0,.v (.int .i64 r40.2.2.2.2.2.2.2.2.2.1)]],false⟩,mk 1 9 (r40.2.2.2.2.2.2.2.2.2.2.map cdS.enc)] ?_;refine Aj ?_;refine AJ AC [(3,hd 0 (r40.1.map AA.enc)),(4,.st c3),(6,.pt 1 0 0),(7,.pt 2 0 0),(8,hd 3 (r40.2.2.2.2.2.2.2.2.2.2.map cdS.enc)),(13,.sl 5 (((x0.take (mnI (x0.length:Int) 8).toNat).drop (0:Int).toNat).map (cdA (csC (cdK .u8) (csC (cdK .u8) (csC (cdK .u8) (csC cdB (csE cdB))))) (fun _=>rfl)).enc)),(14,.v (.int .i64 (((x0.take (mnI (x0.length:Int) 8).toNat).drop (0:Int).toNat).length:Int))),(15,.v (.int .i64 c4)),(53,.v (.int .u8 r40.2.2.2.2.2.2.1)),(54,.v (.bool (r40.2.2.2.2.2.2.1==1)))] [mk 5 60 (r40.1.map AA.enc),some ⟨5,107,[.ag [.v (.int .u8 r40.2.1),.v (.int .u8 r40.2.2.1),.v (.int .u8 r40.2.2.2.1),.v (.bool r40.2.2.2.2.1),.v (.bool r40.2.2.2.2.2.1)]],false⟩,some ⟨5,60,[.ag [.v (.int .u8 r40.2.2.2.2.2.2.1),.st r40.2.2.2.2.2.2.2.1,.v (.bool r40.2.2.2.2.2.2.2.2.1),.e0,.v (.int .i64 r40.2.2.2.2.2.2.2.2.2.1)]],false⟩,mk 1 9 (r40.2.2.2.2.2.2.2.2.2.2.map cdS.enc)] ?_;obtain ⟨r2060,hr2060,h⟩:=OB h;refine Cg (MI x0 c3 c4 r40 _ hr2060) ?_;by_cases hk2061:(Fa 64 (r2060.1.length + 1))=true
   case neg=>rw [if_neg hk2061] at h; cases h
   rw [if_pos hk2061] at h;refine AH (s1:=⟨Fr 98 [(3,hd 0 ((r2060.1++[r2060.2.2]).map AA.enc)),(4,.st r2060.2.1),(13,.sl 5 (((x0.take (mnI (x0.length:Int) 8).toNat).drop (0:Int).toNat).map (cdA (csC (cdK .u8) (csC (cdK .u8) (csC (cdK .u8) (csC cdB (csE cdB))))) (fun _=>rfl)).enc)),(14,.v (.int .i64 (((x0.take (mnI (x0.length:Int) 8).toNat).drop (0:Int).toNat).length:Int))),(15,.v (.int .i64 c4))],[mk 5 60 ((r2060.1++[r2060.2.2]).map AA.enc)]⟩) ?_ ?_
   ·refine AD (n:=98) AC 3 [(4,.st r2060.2.1),(13,.sl 5 (((x0.take (mnI (x0.length:Int) 8).toNat).drop (0:Int).toNat).map (cdA (csC (cdK .u8) (csC (cdK .u8) (csC (cdK .u8) (csC cdB (csE cdB))))) (fun _=>rfl)).enc)),(14,.v (.int .i64 (((x0.take (mnI (x0.length:Int) 8).toNat).drop (0:Int).toNat).length:Int))),(15,.v (.int .i64 c4)),(92,hd 0 (r2060.1.map AA.enc)),(94,hd 2 ([r2060.2.2].map AA.enc))] [mk 5 60 (r2060.1.map AA.enc),some ⟨5,60,[AA.enc r2060.2.2],false⟩,mk 5 60 ([r2060.2.2].map AA.enc)] kr ?_
    refine AK AC 0 rfl (T6 (AB rfl) rfl kr kr (IC (a:=hd 0 (r2060.1.map AA.enc)) (b:=hd 2 ([r2060.2.2].map AA.enc)) kr kr (KA (c:=AA) (xs:=r2060.1) (vs:=[r2060.2.2]) (k:=5) (bytes:=64) (el:=60) kr kr (KB (t:=60) kr) (List.cons_ne_nil _ _) kr hk2061))) ?_;refine AD (n:=98) AC 1 [(3,hd 3 ((r2060.1++[r2060.2.2]).map AA.enc)),(4,.st r2060.2.1),(13,.sl 5 (((x0.take (mnI (x0.length:Int) 8).toNat).drop (0:Int).toNat).map (cdA (csC (cdK .u8) (csC (cdK .u8) (csC (cdK .u8) (csC cdB (csE cdB))))) (fun _=>rfl)).enc)),(14,.v (.int .i64 (((x0.take (mnI (x0.length:Int) 8).toNat).drop (0:Int).toNat).length:Int))),(15,.v (.int .i64 c4))] [none,some ⟨5,60,[AA.enc r2060.2.2],false⟩,mk 5 60 ([r2060.2.2].map AA.enc),mk 5 60 ((r2060.1++[r2060.2.2]).map AA.enc)] kr ?_;exact AL rfl (AZ [3] ⟨⟨_,rfl,Cr⟩,trivial⟩ ⟨C4 (b':=3) kr kr,lv,lv,lv,lv,trivial⟩)
   refine DD AC [(3,hd 0 ((r2060.1++[r2060.2.2]).map AA.enc)),(4,.st r2060.2.1),(13,.sl 5 (((x0.take (mnI (x0.length:Int) 8).toNat).drop (0:Int).toNat).map (cdA (csC (cdK .u8) (csC (cdK .u8) (csC (cdK .u8) (csC cdB (csE cdB))))) (fun _=>rfl)).enc)),(14,.v (.int .i64 (((x0.take (mnI (x0.length:Int) 8).toNat).drop (0:Int).toNat).length:Int))),(15,.v (.int .i64 (wr .i64 (c4 + 1))))] [mk 5 60 ((r2060.1++[r2060.2.2]).map AA.enc)] ?_;exact Aw (s1:=⟨Fr 98 [(3,hd 0 ((r2060.1++[r2060.2.2]).map AA.enc)),(4,.st r2060.2.1),(13,.sl 5 (((x0.take (mnI (x0.length:Int) 8).toNat).drop (0:Int).toNat).map (cdA (csC (cdK .u8) (csC (cdK .u8) (csC (cdK .u8) (csC cdB (csE cdB))))) (fun _=>rfl)).enc)),(14,.v (.int .i64 (((x0.take (mnI (x0.length:Int) 8).toNat).drop (0:Int).toNat).length:Int))),(15,.v (.int .i64 (wr .i64 (c4 + 1))))],[mk 5 60 ((r2060.1++[r2060.2.2]).map AA.enc)]⟩) (AZ [0] ⟨⟨_,rfl,Cr⟩,trivial⟩ ⟨C4 (b':=0) kr kr,lv,lv,lv,lv,trivial⟩) (ih (r2060.1++[r2060.2.2]) r2060.2.1 (wr .i64 (c4 + 1)) h)
  ·rw [CK hb5] at h
   refine Cc ?_;have hq:=OI h; subst hq;exact ⟨rfl,(AZ [0] ⟨⟨_,rfl,Cr⟩,trivial⟩ ⟨C4 (b':=0) kr kr,trivial⟩)⟩
theorem Nv (x0:(List (Int×Int×Int×Bool×Bool))) (r:(List AE)) (h:Fl x0=some r):Sem E0 ⟨none,false⟩ Ci ⟨Fr 98 (BK 0 (Ha.enc (x0,()))),[]⟩ fun e s'=>(e = .normal\/e = .ret)/\∃ xs,Ej E0.P s'.fr s'.hp Tryz.f19.results.toList=some xs/\Eu xs=Iu r:=by
 unfold Fl at h
 let p1:Nat×AV:=(0,.sl 5 (x0.map (cdA (csC (cdK .u8) (csC (cdK .u8) (csC (cdK .u8) (csC cdB (csE cdB))))) (fun _=>rfl)).enc))
 refine A3 (Bo (s1:=⟨Fr 98 [p1],[]⟩) AO ?_);refine AJ AC [p1] [] ?_;refine AJ AC [p1,(3,.e0)] [] ?_;refine AJ AC [p1,(3,.e0),(4,.st [])] [] ?_;refine AG ?_;refine AG ?_;by_cases hk1:(C7 0 (mnI (x0.length:Int) 8) x0.length)=true
 case neg=>rw [if_neg hk1] at h; cases h
 rw [if_pos hk1] at h
 let p2:Nat×AV:=(15,.v (.int .i64 0))
 let p3:Nat×AV:=(14,.v (.int .i64 (((x0.take (mnI (x0.length:Int) 8).toNat).drop (0:Int).toNat).length:Int)))
 let p4:Nat×AV:=(13,.sl 5 (((x0.take (mnI (x0.length:Int) 8).toNat).drop (0:Int).toNat).map (cdA (csC (cdK .u8) (csC (cdK .u8) (csC (cdK .u8) (csC cdB (csE cdB))))) (fun _=>rfl)).enc))
 refine AH (s1:=⟨Fr 98 [(3,.e0),(4,.st []),p4,p3,p2],[]⟩) ?_ ?_
 ·let p5:Nat×AV:=(9,.sl 5 (x0.map (cdA (csC (cdK .u8) (csC (cdK .u8) (csC (cdK .u8) (csC cdB (csE cdB))))) (fun _=>rfl)).enc))
  refine AD (n:=98) AC 2 [(3,.e0),(4,.st []),p5,(10,.sl 5 (x0.map (cdA (csC (cdK .u8) (csC (cdK .u8) (csC (cdK .u8) (csC cdB (csE cdB))))) (fun _=>rfl)).enc))] [] kr ?_;refine AK AC 0 rfl (CZ (AB rfl) rfl (DS (a:= .sl 5 (x0.map (cdA (csC (cdK .u8) (csC (cdK .u8) (csC (cdK .u8) (csC cdB (csE cdB))))) (fun _=>rfl)).enc)) kr (B4 (el:=107) kr))) ?_;refine AD (n:=98) AC 1 [(3,.e0),(4,.st []),p5,(12,.v (.int .i64 (mnI (x0.length:Int) 8)))] [] kr ?_;refine AK AC 0 rfl (CZ (AB rfl) rfl (Eb (a:= .sl 5 (x0.map (cdA (csC (cdK .u8) (csC (cdK .u8) (csC (cdK .u8) (csC cdB (csE cdB))))) (fun _=>rfl)).enc)) (l:=none) (u:=(some (.v (.int .i64 (mnI (x0.length:Int) 8))))) (m:=none) kr kr kr rfl (I4 (xs:=x0) (e:=(cdA (csC (cdK .u8) (csC (cdK .u8) (csC (cdK .u8) (csC cdB (csE cdB))))) (fun _=>rfl)).enc) (k:=5) (el:=107) (lo:=0) (hi:=(mnI (x0.length:Int) 8)) kr kr rfl (GN (JN hk1)) hk1))) ?_;refine AK AC 0 rfl (CZ (AB rfl) rfl (DS (a:= .sl 5 (((x0.take (mnI (x0.length:Int) 8).toNat).drop (0:Int).toNat).map (cdA (csC (cdK .u8) (csC (cdK .u8) (csC (cdK .u8) (csC cdB (csE cdB))))) (fun _=>rfl)).enc)) kr (B4 (el:=107) kr))) ?_;exact AN AC
 refine Aj ?_;obtain ⟨r2064,hr2064,h⟩:=OB h;refine Ch (n:=100000) ?_
 let p6:Nat×AV:=(3,hd 0 ([].map AA.enc))
 refine BQ (Aw (s1:=⟨Fr 98 [p6,(4,.st []),p4,p3,p2],[mk 5 60 ([].map AA.enc)]⟩) (Wk.trans (s1:=⟨Fr 98 [p6,(4,.st []),p4,p3,p2],[mk 5 60 ([].map AA.enc)]⟩) Wk.none (AZ [0] ⟨⟨_,rfl,Mh⟩,trivial⟩ ⟨lv,lv,lv,lv,lv,trivial⟩)) (MK x0 _ [] [] 0 _ hr2064)) ?_;refine AJ AC [(2,hd 0 (r2064.map AA.enc))] [mk 5 60 (r2064.map AA.enc)] ?_;refine AT ?_;have hq:=OI h; subst hq
 let p7:Nat×AV:=(2,.sl 5 (r2064.map AA.enc))
 exact ⟨⟨Fr 98 [p7],[]⟩,(Wk.trans (s1:=⟨Fr 98 [p7],[none]⟩) (GZ 0 (.inl kr) ⟨.inl rfl,trivial⟩ ⟨⟨hd 0 (r2064.map AA.enc),kr,Nu (t:=60) kr JO⟩,trivial⟩) (AZ [] trivial ⟨lv,trivial⟩)),.inr rfl,[.sl 5 (r2064.map AA.enc)],kr,kr⟩
def Px:List AV->Option AV:=EA Ha (fun a=>Fl a.1) Iu
theorem P7:XOk 19 Px:=by
 refine AW Tryz.func19 (c:=Ci) ?h2 ⟨Tryz.call19⟩ Ha (fun a=>Fl a.1) Iu (fun a=>(by show 1<=98; decide)) ?h3 ?h4
 case h2=>kernel_rfl
 case h3=>intro b; kernel_rfl
 case h4=>exact fun a b h=>Nv a.1 b h
/- trestle/court.formed -/
noncomputable def B8:Code:=Bn Tryz.f159
def Ft (x0:AE):Option ((Bool)) :=
 if (x0.1==8)=true then
 some (x0.1==8)
 else
 some (x0.1==9)
def Fs (x0:AE):Option ((Bool)) :=
 if (x0.1==3)=true then
 some (x0.1==3)
 else
 (Ft x0).bind fun r14 =>
 some r14
def Fq (x0:AE):Option ((Bool)) :=
 if (x0.1==2)=true then
 some (x0.1==2)
 else
 (Fs x0).bind fun r15 =>
 some r15
def F0 (x0:AE):Option ((Bool)) :=
 if (x0.1==6)=true then
 some (x0.1==6)
 else
 some (x0.1==7)
def F3 (x0:AE) (r33:Bool):Option ((Int×Int×Bool) ⊕ (Bool)) :=
 if r33=true then
 some (.inl (16,0,true))
 else
 if (x0.1==10)=true then
 some (.inl (0,63,false))
 else
 some (.inr false)
def Fz (x0:AE):Option ((Int×Int×Bool) ⊕ (Bool)) :=
 if (x0.1==5)=true then
 some (.inl (0,0,true))
 else
 (F0 x0).bind fun r33 =>
 (F3 x0 r33).bind fun r40 =>
 match r40 with
 | (.inl w41) =>
  some (.inl (w41.1,w41.2.1,w41.2.2))
 | (.inr w42) =>
  some (.inr w42)
def Fv (x0:AE):Option ((Int×Int×Int×Bool) ⊕ (Bool)) :=
 if (x0.1==4)=true then
 some (.inl (0,1,2,true))
 else
 (Fz x0).bind fun r44 =>
 match r44 with
 | (.inl w45) =>
  some (.inl (w45.1,0,w45.2.1,w45.2.2))
 | (.inr w46) =>
  some (.inr w46)
def Fu (x0:AE) (r16:Bool):Option ((Int×Int×Int×Bool) ⊕ (Bool)) :=
 if r16=true then
 some (.inl (0,0,0,false))
 else
 (Fv x0).bind fun r48 =>
 match r48 with
 | (.inl w49) =>
  some (.inl (w49.1,w49.2.1,w49.2.2.1,w49.2.2.2))
 | (.inr w50) =>
  some (.inr w50)
def Fp (x0:AE):Option ((Int×Int×Int×Bool) ⊕ (Bool)) :=
 if (x0.1==1)=true then
 if (!(x0.2.1==[]))=true then
 some (.inr false)
 else
 some (.inl (16,0,0,false))
 else
 (Fq x0).bind fun r16 =>
 (Fu x0 r16).bind fun r52 =>
 match r52 with
 | (.inl w53) =>
  some (.inl (w53.1,w53.2.1,w53.2.2.1,w53.2.2.2))
 | (.inr w54) =>
  some (.inr w54)
def BV (x0:AE):Option (Bool) :=
 (Fp x0).bind fun r55 =>
 match r55 with
 | (.inl w56) =>
  (if (decide ((x0.2.2.2.1.length:Int)<=w56.1))=true then if (w56.1==0)=true then if (decide (x0.2.2.2.2≥w56.2.1))=true then if (decide (x0.2.2.2.2<=w56.2.2.1))=true then if w56.2.2.2=true then some true else some (!x0.2.2.1) else some false else some false else if (decide ((x0.2.2.2.1.length:Int) > 0))=true then if (decide (x0.2.2.2.2≥w56.2.1))=true then if (decide (x0.2.2.2.2<=w56.2.2.1))=true then if w56.2.2.2=true then some true else some (!x0.2.2.1) else some false else some false else some false else some false).bind fun j58 =>
  some j58
 | (.inr w68) =>
  some w68
def Ho:Cs (AE×Unit):=(csC AA csN)
def Hr (r:Bool):AV:=cdB.enc r
theorem Ku (x0:AE) (r:(Bool)) (h:Ft x0=some r):Sem E0 ⟨none,false⟩ (pc B8 [1,1,0,1,0,1,1,0,1,1,1,1,1]) ⟨Fr 63 [(1,.pt 0 0 0),(3,.v (.int .i64 0)),(4,.v (.int .i64 0)),(5,.v (.int .i64 0)),(6,.v (.bool false)),(8,.v (.int .u8 x0.1)),(14,.v (.bool (x0.1==8)))],[some ⟨5,60,[AA.enc x0],false⟩]⟩ (fun e s=>e = .normal/\Wk E0 s ⟨Fr 63 [(1,.pt 0 0 0),(3,.v (.int .i64 0)),(4,.v (.int .i64 0)),(5,.v (.int .i64 0)),(6,.v (.bool false)),(8,.v (.int .u8 x0.1)),(14,.v (.bool r))],[some ⟨5,60,[AA.enc x0],false⟩]⟩):=by
 unfold Ft at h;refine AM (b:=(x0.1==8)) kr (fun hb12=>?_) (fun hb12=>?_)
 ·rw [if_pos hb12] at h
  refine AP ?_;have hq:=OI h; subst hq;exact ⟨rfl,(AZ [0] ⟨⟨_,rfl,Cn⟩,trivial⟩ ⟨lv,lv,lv,lv,lv,lv,lv,trivial⟩)⟩
 ·rw [CK hb12] at h
  refine DD AC [(1,.pt 0 0 0),(3,.v (.int .i64 0)),(4,.v (.int .i64 0)),(5,.v (.int .i64 0)),(6,.v (.bool false)),(8,.v (.int .u8 x0.1)),(14,.v (.bool (x0.1==9)))] [some ⟨5,60,[AA.enc x0],false⟩] ?_;have hq:=OI h; subst hq;exact ⟨rfl,(AZ [0] ⟨⟨_,rfl,Cn⟩,trivial⟩ ⟨lv,lv,lv,lv,lv,lv,lv,trivial⟩)⟩
theorem Kt (x0:AE) (r:(Bool)) (h:Fs x0=some r):Sem E0 ⟨none,false⟩ (pc B8 [1,1,0,1,0,1,1,0,1,1,1]) ⟨Fr 63 [(1,.pt 0 0 0),(3,.v (.int .i64 0)),(4,.v (.int .i64 0)),(5,.v (.int .i64 0)),(6,.v (.bool false)),(8,.v (.int .u8 x0.1)),(14,.v (.bool (x0.1==3)))],[some ⟨5,60,[AA.enc x0],false⟩]⟩ (fun e s=>e = .normal/\Wk E0 s ⟨Fr 63 [(1,.pt 0 0 0),(3,.v (.int .i64 0)),(4,.v (.int .i64 0)),(5,.v (.int .i64 0)),(6,.v (.bool false)),(8,.v (.int .u8 x0.1)),(14,.v (.bool r))],[some ⟨5,60,[AA.enc x0],false⟩]⟩):=by
 unfold Fs at h;refine AM (b:=(x0.1==3)) kr (fun hb10=>?_) (fun hb10=>?_)
 ·rw [if_pos hb10] at h
  refine AP ?_;have hq:=OI h; subst hq;exact ⟨rfl,(AZ [0] ⟨⟨_,rfl,Cn⟩,trivial⟩ ⟨lv,lv,lv,lv,lv,lv,lv,trivial⟩)⟩
 ·rw [CK hb10] at h
  refine AJ AC [(1,.pt 0 0 0),(3,.v (.int .i64 0)),(4,.v (.int .i64 0)),(5,.v (.int .i64 0)),(6,.v (.bool false)),(8,.v (.int .u8 x0.1)),(14,.v (.bool (x0.1==8)))] [some ⟨5,60,[AA.enc x0],false⟩] ?_;obtain ⟨r14,hr14,h⟩:=OB h;refine Cg (Ku x0 _ hr14) ?_;have hq:=OI h; subst hq;exact ⟨rfl,(AZ [0] ⟨⟨_,rfl,Cn⟩,trivial⟩ ⟨lv,lv,lv,lv,lv,lv,lv,trivial⟩)⟩
theorem Kr (x0:AE) (r:(Bool)) (h:Fq x0=some r):Sem E0 ⟨none,false⟩ (pc B8 [1,1,0,1,0,1,1,0,1]) ⟨Fr 63 [(1,.pt 0 0 0),(3,.v (.int .i64 0)),(4,.v (.int .i64 0)),(5,.v (.int .i64 0)),(6,.v (.bool false)),(8,.v (.int .u8 x0.1)),(14,.v (.bool (x0.1==2)))],[some ⟨5,60,[AA.enc x0],false⟩]⟩ (fun e s=>e = .normal/\Wk E0 s ⟨Fr 63 [(1,.pt 0 0 0),(3,.v (.int .i64 0)),(4,.v (.int .i64 0)),(5,.v (.int .i64 0)),(6,.v (.bool false)),(8,.v (.int .u8 x0.1)),(14,.v (.bool r))],[some ⟨5,60,[AA.enc x0],false⟩]⟩):=by
 unfold Fq at h;refine AM (b:=(x0.1==2)) kr (fun hb8=>?_) (fun hb8=>?_)
 ·rw [if_pos hb8] at h
  refine AP ?_;have hq:=OI h; subst hq;exact ⟨rfl,(AZ [0] ⟨⟨_,rfl,Cn⟩,trivial⟩ ⟨lv,lv,lv,lv,lv,lv,lv,trivial⟩)⟩
 ·rw [CK hb8] at h
  refine AJ AC [(1,.pt 0 0 0),(3,.v (.int .i64 0)),(4,.v (.int .i64 0)),(5,.v (.int .i64 0)),(6,.v (.bool false)),(8,.v (.int .u8 x0.1)),(14,.v (.bool (x0.1==3)))] [some ⟨5,60,[AA.enc x0],false⟩] ?_;obtain ⟨r15,hr15,h⟩:=OB h;refine Cg (Kt x0 _ hr15) ?_;have hq:=OI h; subst hq;exact ⟨rfl,(AZ [0] ⟨⟨_,rfl,Cn⟩,trivial⟩ ⟨lv,lv,lv,lv,lv,lv,lv,trivial⟩)⟩
theorem Kv (x0:AE) (r:(Bool)) (h:F0 x0=some r):Sem E0 ⟨none,false⟩ (pc B8 [1,1,0,1,0,1,1,1,1,1,1,1,1,0,1]) ⟨Fr 63 [(1,.pt 0 0 0),(3,.v (.int .i64 0)),(4,.v (.int .i64 0)),(5,.v (.int .i64 0)),(6,.v (.bool false)),(8,.v (.int .u8 x0.1)),(23,.v (.bool (x0.1==6)))],[some ⟨5,60,[AA.enc x0],false⟩]⟩ (fun e s=>e = .normal/\Wk E0 s ⟨Fr 63 [(1,.pt 0 0 0),(3,.v (.int .i64 0)),(4,.v (.int .i64 0)),(5,.v (.int .i64 0)),(6,.v (.bool false)),(8,.v (.int .u8 x0.1)),(23,.v (.bool r))],[some ⟨5,60,[AA.enc x0],false⟩]⟩):=by
 unfold F0 at h;refine AM (b:=(x0.1==6)) kr (fun hb31=>?_) (fun hb31=>?_)
 ·rw [if_pos hb31] at h
  refine AP ?_;have hq:=OI h; subst hq;exact ⟨rfl,(AZ [0] ⟨⟨_,rfl,Cn⟩,trivial⟩ ⟨lv,lv,lv,lv,lv,lv,lv,trivial⟩)⟩
 ·rw [CK hb31] at h
  refine DD AC [(1,.pt 0 0 0),(3,.v (.int .i64 0)),(4,.v (.int .i64 0)),(5,.v (.int .i64 0)),(6,.v (.bool false)),(8,.v (.int .u8 x0.1)),(23,.v (.bool (x0.1==7)))] [some ⟨5,60,[AA.enc x0],false⟩] ?_;have hq:=OI h; subst hq;exact ⟨rfl,(AZ [0] ⟨⟨_,rfl,Cn⟩,trivial⟩ ⟨lv,lv,lv,lv,lv,lv,lv,trivial⟩)⟩
theorem H7 (x0:AE) (r33:Bool) (r:(Int×Int×Bool) ⊕ (Bool)) (h:F3 x0 r33=some r):Sem E0 ⟨none,false⟩ (pc B8 [1,1,0,1,0,1,1,1,1,1,1,1,1,1]) ⟨Fr 63 [(1,.pt 0 0 0),(3,.v (.int .i64 0)),(4,.v (.int .i64 0)),(5,.v (.int .i64 0)),(6,.v (.bool false)),(8,.v (.int .u8 x0.1)),(23,.v (.bool r33))],[some ⟨5,60,[AA.enc x0],false⟩]⟩ (fun e s=>match r with
 | (.inl w)=>e = .normal/\Wk E0 s ⟨Fr 63 [(1,.pt 0 0 0),(3,.v (.int .i64 w.1)),(4,.v (.int .i64 0)),(5,.v (.int .i64 w.2.1)),(6,.v (.bool w.2.2))],[some ⟨5,60,[AA.enc x0],false⟩]⟩
 | (.inr w)=>e = .ret/\Wk E0 s ⟨Fr 63 [(2,.v (.bool w))],[]⟩):=by
 unfold F3 at h;refine AM (b:=r33) kr (fun hb34=>?_) (fun hb34=>?_)
 ·rw [if_pos hb34] at h
  refine DD AC [(1,.pt 0 0 0),(3,.v (.int .i64 16)),(4,.v (.int .i64 0)),(5,.v (.int .i64 0)),(6,.v (.bool true))] [some ⟨5,60,[AA.enc x0],false⟩] ?_;have hq:=OI h; subst hq;exact ⟨rfl,(AZ [0] ⟨⟨_,rfl,Cn⟩,trivial⟩ ⟨lv,lv,lv,lv,lv,trivial⟩)⟩
 ·rw [CK hb34] at h
  let p1:Option Blk:=some ⟨5,60,[AA.enc x0],false⟩
  refine AJ AC [(1,.pt 0 0 0),(3,.v (.int .i64 0)),(4,.v (.int .i64 0)),(6,.v (.bool false)),(26,.v (.bool (x0.1==10)))] [p1] ?_;refine AM (b:=(x0.1==10)) kr (fun hb38=>?_) (fun hb38=>?_)
  ·rw [if_pos hb38] at h
   refine DD AC [(1,.pt 0 0 0),(3,.v (.int .i64 0)),(4,.v (.int .i64 0)),(5,.v (.int .i64 63)),(6,.v (.bool false))] [p1] ?_;have hq:=OI h; subst hq;exact ⟨rfl,(AZ [0] ⟨⟨_,rfl,Cn⟩,trivial⟩ ⟨lv,lv,lv,lv,lv,trivial⟩)⟩
  ·rw [CK hb38] at h
   refine AG ?_;refine AH (s1:=⟨Fr 63 [(2,.v (.bool false))],[]⟩) ?_ ?_
   ·refine AD (n:=63) AC 1 [(2,.v (.bool false))] [p1] kr ?_
    exact AL rfl (AZ [] trivial ⟨lv,trivial⟩)
   refine AT ?_;have hq:=OI h; subst hq;exact ⟨rfl,AO⟩
theorem H6 (x0:AE) (r:(Int×Int×Bool) ⊕ (Bool)) (h:Fz x0=some r):Sem E0 ⟨none,false⟩ (pc B8 [1,1,0,1,0,1,1,1,1,1,1,1]) ⟨Fr 63 [(1,.pt 0 0 0),(3,.v (.int .i64 0)),(4,.v (.int .i64 0)),(5,.v (.int .i64 0)),(6,.v (.bool false)),(8,.v (.int .u8 x0.1)),(21,.v (.bool (x0.1==5)))],[some ⟨5,60,[AA.enc x0],false⟩]⟩ (fun e s=>match r with
 | (.inl w)=>e = .normal/\Wk E0 s ⟨Fr 63 [(1,.pt 0 0 0),(3,.v (.int .i64 w.1)),(4,.v (.int .i64 0)),(5,.v (.int .i64 w.2.1)),(6,.v (.bool w.2.2))],[some ⟨5,60,[AA.enc x0],false⟩]⟩
 | (.inr w)=>e = .ret/\Wk E0 s ⟨Fr 63 [(2,.v (.bool w))],[]⟩):=by
 unfold Fz at h;refine AM (b:=(x0.1==5)) kr (fun hb27=>?_) (fun hb27=>?_)
 ·rw [if_pos hb27] at h
  refine DD AC [(1,.pt 0 0 0),(3,.v (.int .i64 0)),(4,.v (.int .i64 0)),(5,.v (.int .i64 0)),(6,.v (.bool true))] [some ⟨5,60,[AA.enc x0],false⟩] ?_;have hq:=OI h; subst hq;exact ⟨rfl,(AZ [0] ⟨⟨_,rfl,Cn⟩,trivial⟩ ⟨lv,lv,lv,lv,lv,trivial⟩)⟩
 ·rw [CK hb27] at h
  refine AG ?_;refine AJ AC [(1,.pt 0 0 0),(3,.v (.int .i64 0)),(4,.v (.int .i64 0)),(5,.v (.int .i64 0)),(6,.v (.bool false)),(8,.v (.int .u8 x0.1)),(23,.v (.bool (x0.1==6)))] [some ⟨5,60,[AA.enc x0],false⟩] ?_;obtain ⟨r33,hr33,h⟩:=OB h;refine Cg (Kv x0 _ hr33) ?_;obtain ⟨r40,hr40,h⟩:=OB h;rcases r40 with w41 | w42
  ·try dsimp only at h
   refine Cg (H7 x0 r33 _ hr40) ?_;have hq:=OI h; subst hq;exact ⟨rfl,(AZ [0] ⟨⟨_,rfl,Cn⟩,trivial⟩ ⟨lv,lv,lv,lv,lv,trivial⟩)⟩
  ·try dsimp only at h
   refine Cg (H7 x0 r33 _ hr40) ?_;have hq:=OI h; subst hq;exact ⟨rfl,AO⟩
theorem H5 (x0:AE) (r:(Int×Int×Int×Bool) ⊕ (Bool)) (h:Fv x0=some r):Sem E0 ⟨none,false⟩ (pc B8 [1,1,0,1,0,1,1,1,1,1]) ⟨Fr 63 [(1,.pt 0 0 0),(3,.v (.int .i64 0)),(4,.v (.int .i64 0)),(5,.v (.int .i64 0)),(6,.v (.bool false)),(8,.v (.int .u8 x0.1)),(19,.v (.bool (x0.1==4)))],[some ⟨5,60,[AA.enc x0],false⟩]⟩ (fun e s=>match r with
 | (.inl w)=>e = .normal/\Wk E0 s ⟨Fr 63 [(1,.pt 0 0 0),(3,.v (.int .i64 w.1)),(4,.v (.int .i64 w.2.1)),(5,.v (.int .i64 w.2.2.1)),(6,.v (.bool w.2.2.2))],[some ⟨5,60,[AA.enc x0],false⟩]⟩
 | (.inr w)=>e = .ret/\Wk E0 s ⟨Fr 63 [(2,.v (.bool w))],[]⟩):=by
 unfold Fv at h;refine AM (b:=(x0.1==4)) kr (fun hb22=>?_) (fun hb22=>?_)
 ·rw [if_pos hb22] at h
  refine DD AC [(1,.pt 0 0 0),(3,.v (.int .i64 0)),(4,.v (.int .i64 1)),(5,.v (.int .i64 2)),(6,.v (.bool true))] [some ⟨5,60,[AA.enc x0],false⟩] ?_;have hq:=OI h; subst hq;exact ⟨rfl,(AZ [0] ⟨⟨_,rfl,Cn⟩,trivial⟩ ⟨lv,lv,lv,lv,lv,trivial⟩)⟩
 ·rw [CK hb22] at h
  refine AJ AC [(1,.pt 0 0 0),(3,.v (.int .i64 0)),(4,.v (.int .i64 0)),(5,.v (.int .i64 0)),(6,.v (.bool false)),(8,.v (.int .u8 x0.1)),(21,.v (.bool (x0.1==5)))] [some ⟨5,60,[AA.enc x0],false⟩] ?_;obtain ⟨r44,hr44,h⟩:=OB h;rcases r44 with w45 | w46
  ·try dsimp only at h
   refine Cg (H6 x0 _ hr44) ?_;have hq:=OI h; subst hq;exact ⟨rfl,(AZ [0] ⟨⟨_,rfl,Cn⟩,trivial⟩ ⟨lv,lv,lv,lv,lv,trivial⟩)⟩
  ·try dsimp only at h
   refine Cg (H6 x0 _ hr44) ?_;have hq:=OI h; subst hq;exact ⟨rfl,AO⟩
theorem H4 (x0:AE) (r16:Bool) (r:(Int×Int×Int×Bool) ⊕ (Bool)) (h:Fu x0 r16=some r):Sem E0 ⟨none,false⟩ (pc B8 [1,1,0,1,0,1,1,1]) ⟨Fr 63 [(1,.pt 0 0 0),(3,.v (.int .i64 0)),(4,.v (.int .i64 0)),(5,.v (.int .i64 0)),(6,.v (.bool false)),(8,.v (.int .u8 x0.1)),(14,.v (.bool r16))],[some ⟨5,60,[AA.enc x0],false⟩]⟩ (fun e s=>match r with
 | (.inl w)=>e = .normal/\Wk E0 s ⟨Fr 63 [(1,.pt 0 0 0),(3,.v (.int .i64 w.1)),(4,.v (.int .i64 w.2.1)),(5,.v (.int .i64 w.2.2.1)),(6,.v (.bool w.2.2.2))],[some ⟨5,60,[AA.enc x0],false⟩]⟩
 | (.inr w)=>e = .ret/\Wk E0 s ⟨Fr 63 [(2,.v (.bool w))],[]⟩):=by
 unfold Fu at h;refine AM (b:=r16) kr (fun hb17=>?_) (fun hb17=>?_)
 ·rw [if_pos hb17] at h
  refine AP ?_;have hq:=OI h; subst hq;exact ⟨rfl,(AZ [0] ⟨⟨_,rfl,Cn⟩,trivial⟩ ⟨lv,lv,lv,lv,lv,trivial⟩)⟩
 ·rw [CK hb17] at h
  refine AJ AC [(1,.pt 0 0 0),(3,.v (.int .i64 0)),(4,.v (.int .i64 0)),(5,.v (.int .i64 0)),(6,.v (.bool false)),(8,.v (.int .u8 x0.1)),(19,.v (.bool (x0.1==4)))] [some ⟨5,60,[AA.enc x0],false⟩] ?_;obtain ⟨r48,hr48,h⟩:=OB h;rcases r48 with w49 | w50
  ·try dsimp only at h
   refine Cg (H5 x0 _ hr48) ?_;have hq:=OI h; subst hq;exact ⟨rfl,(AZ [0] ⟨⟨_,rfl,Cn⟩,trivial⟩ ⟨lv,lv,lv,lv,lv,trivial⟩)⟩
  ·try dsimp only at h
   refine Cg (H5 x0 _ hr48) ?_;have hq:=OI h; subst hq;exact ⟨rfl,AO⟩
theorem H3 (x0:AE) (r:(Int×Int×Int×Bool) ⊕ (Bool)) (h:Fp x0=some r):Sem E0 ⟨none,false⟩ (pc B8 [1,1,0,1,0,1]) ⟨Fr 63 [(1,.pt 0 0 0),(3,.v (.int .i64 0)),(4,.v (.int .i64 0)),(5,.v (.int .i64 0)),(6,.v (.bool false)),(8,.v (.int .u8 x0.1)),(9,.v (.bool (x0.1==1)))],[some ⟨5,60,[AA.enc x0],false⟩]⟩ (fun e s=>match r with
 | (.inl w)=>e = .normal/\Wk E0 s ⟨Fr 63 [(1,.pt 0 0 0),(3,.v (.int .i64 w.1)),(4,.v (.int .i64 w.2.1)),(5,.v (.int .i64 w.2.2.1)),(6,.v (.bool w.2.2.2))],[some ⟨5,60,[AA.enc x0],false⟩]⟩
 | (.inr w)=>e = .ret/\Wk E0 s ⟨Fr 63 [(2,.v (.bool w))],[]⟩):=by
 unfold Fp at h;refine AM (b:=(x0.1==1)) kr (fun hb1=>?_) (fun hb1=>?_)
 ·rw [if_pos hb1] at h
  refine AG ?_
  let p1:Option Blk:=some ⟨5,60,[AA.enc x0],false⟩
  refine AJ AC [(1,.pt 0 0 0),(4,.v (.int .i64 0)),(5,.v (.int .i64 0)),(6,.v (.bool false)),(13,.v (.bool (!(x0.2.1==[]))))] [p1] ?_;refine AM (b:=(!(x0.2.1==[]))) kr (fun hb2=>?_) (fun hb2=>?_)
  ·rw [if_pos hb2] at h
   refine AG ?_;refine AH (s1:=⟨Fr 63 [(2,.v (.bool false))],[]⟩) ?_ ?_
   ·refine AD (n:=63) AC 1 [(2,.v (.bool false))] [p1] kr ?_
    exact AL rfl (AZ [] trivial ⟨lv,trivial⟩)
   refine AT ?_;have hq:=OI h; subst hq;exact ⟨rfl,AO⟩
  ·rw [CK hb2] at h
   refine AP ?_;refine DD AC [(1,.pt 0 0 0),(3,.v (.int .i64 16)),(4,.v (.int .i64 0)),(5,.v (.int .i64 0)),(6,.v (.bool false))] [p1] ?_;have hq:=OI h; subst hq;exact ⟨rfl,(AZ [0] ⟨⟨_,rfl,Cn⟩,trivial⟩ ⟨lv,lv,lv,lv,lv,trivial⟩)⟩
 ·rw [CK hb1] at h
  refine AG ?_;refine AJ AC [(1,.pt 0 0 0),(3,.v (.int .i64 0)),(4,.v (.int .i64 0)),(5,.v (.int .i64 0)),(6,.v (.bool false)),(8,.v (.int .u8 x0.1)),(14,.v (.bool (x0.1==2)))] [some ⟨5,60,[AA.enc x0],false⟩] ?_;obtain ⟨r16,hr16,h⟩:=OB h;refine Cg (Kr x0 _ hr16) ?_;obtain ⟨r52,hr52,h⟩:=OB h;rcases r52 with w53 | w54
  ·try dsimp only at h
   refine Cg (H4 x0 r16 _ hr52) ?_;have hq:=OI h; subst hq;exact ⟨rfl,(AZ [0] ⟨⟨_,rfl,Cn⟩,trivial⟩ ⟨lv,lv,lv,lv,lv,trivial⟩)⟩
  ·try dsimp only at h
   refine Cg (H4 x0 r16 _ hr52) ?_;have hq:=OI h; subst hq;exact ⟨rfl,AO⟩
theorem MB (x0:AE) (r:Bool) (h:BV x0=some r):Sem E0 ⟨none,false⟩ B8 ⟨Fr 63 (BK 0 (Ho.enc (x0,()))),[]⟩ fun e s'=>(e = .normal\/e = .ret)/\∃ xs,Ej E0.P s'.fr s'.hp Tryz.f159.results.toList=some xs/\Eu xs=Hr r:=by
 unfold BV at h;refine A3 (Bo (s1:=⟨Fr 63 [(0,AA.enc x0)],[]⟩) AO ?_);refine AJ AC [(1,.pt 0 0 0)] [some ⟨5,60,[AA.enc x0],false⟩] ?_;refine AJ AC [(1,.pt 0 0 0),(3,.v (.int .i64 0)),(4,.v (.int .i64 0)),(5,.v (.int .i64 0)),(6,.v (.bool false))] [some ⟨5,60,[AA.enc x0],false⟩] ?_;refine AG ?_;refine AJ AC [(1,.pt 0 0 0),(3,.v (.int .i64 0)),(4,.v (.int .i64 0)),(5,.v (.int .i64 0)),(6,.v (.bool false)),(8,.v (.int .u8 x0.1))] [some ⟨5,60,[AA.enc x0],false⟩] ?_;refine Aj ?_;refine AJ AC [(1,.pt 0 0 0),(3,.v (.int .i64 0)),(4,.v (.int .i64 0)),(5,.v (.int .i64 0)),(6,.v (.bool false)),(8,.v (.int .u8 x0.1)),(9,.v (.bool (x0.1==1)))] [some ⟨5,60,[AA.enc x0],false⟩] ?_;obtain ⟨r55,hr55,h⟩:=OB h;rcases r55 with w56 | w68
 ·try dsimp only at h
  refine Cg (H3 x0 _ hr55) ?_;refine AG ?_;obtain ⟨j58,hj58,h⟩:=OB h;refine AH (s1:=⟨Fr 63 [(2,.v (.bool j58))],[]⟩) ?_ ?_
  ·refine AD (n:=63) AC 2 [(1,.pt 0 0 0),(3,.v (.int .i64 w56.1)),(4,.v (.int .i64 w56.2.1)),(5,.v (.int .i64 w56.2.2.1)),(6,.v (.bool w56.2.2.2)),(29,.sl 1 (x0.2.2.2.1.map cdS.enc))] [some ⟨5,60,[AA.enc x0],false⟩] kr ?_
   refine AK AC 0 rfl (CZ (AB rfl) rfl (DS (a:= .sl 1 (x0.2.2.2.1.map cdS.enc)) kr (B4 (el:=9) kr))) ?_;refine AD (n:=63) AC 3 [(1,.pt 0 0 0),(3,.v (.int .i64 w56.1)),(4,.v (.int .i64 w56.2.1)),(5,.v (.int .i64 w56.2.2.1)),(6,.v (.bool w56.2.2.2)),(33,.v (.bool (decide ((x0.2.2.2.1.length:Int)<=w56.1))))] [some ⟨5,60,[AA.enc x0],false⟩] kr ?_;rcases BE (decide ((x0.2.2.2.1.length:Int)<=w56.1)) with hc59 | hc59
   ·rw [if_pos hc59] at hj58
    rw [hc59];refine AD (n:=63) AC 3 [(1,.pt 0 0 0),(4,.v (.int .i64 w56.2.1)),(5,.v (.int .i64 w56.2.2.1)),(6,.v (.bool w56.2.2.2)),(33,.v (.bool true)),(36,.v (.bool (w56.1==0)))] [some ⟨5,60,[AA.enc x0],false⟩] kr ?_;rcases BE (w56.1==0) with hc60 | hc60
    ·rw [if_pos hc60] at hj58
     rw [hc60];refine AD (n:=63) AC 13 [(1,.pt 0 0 0),(5,.v (.int .i64 w56.2.2.1)),(6,.v (.bool w56.2.2.2)),(49,.v (.bool (decide (x0.2.2.2.2≥w56.2.1))))] [some ⟨5,60,[AA.enc x0],false⟩] kr ?_;rcases BE (decide (x0.2.2.2.2≥w56.2.1)) with hc61 | hc61
     ·rw [if_pos hc61] at hj58
      rw [hc61];refine AD (n:=63) AC 6 [(1,.pt 0 0 0),(6,.v (.bool w56.2.2.2)),(55,.v (.bool (decide (x0.2.2.2.2<=w56.2.2.1))))] [some ⟨5,60,[AA.enc x0],false⟩] kr ?_;rcases BE (decide (x0.2.2.2.2<=w56.2.2.1)) with hc62 | hc62
      ·rw [if_pos hc62] at hj58
       rw [hc62];refine AD (n:=63) AC 2 [(1,.pt 0 0 0),(55,.v (.bool true)),(57,.v (.bool w56.2.2.2))] [some ⟨5,60,[AA.enc x0],false⟩] kr ?_;rcases BE w56.2.2.2 with hc63 | hc63
       ·rw [if_pos hc63] at hj58
        rw [hc63];refine AD (n:=63) AC 6 [(2,.v (.bool true))] [some ⟨5,60,[AA.enc x0],false⟩] kr ?_;have hq:=OI hj58; subst hq;exact AL rfl (AZ [] trivial ⟨lv,trivial⟩)
       ·rw [CK hc63] at hj58
        rw [hc63];refine AD (n:=63) AC 6 [(2,.v (.bool (!x0.2.2.1)))] [some ⟨5,60,[AA.enc x0],false⟩] kr ?_;have hq:=OI hj58; subst hq;exact AL rfl (AZ [] trivial ⟨lv,trivial⟩)
      ·rw [CK hc62] at hj58
       rw [hc62];refine AD (n:=63) AC 8 [(2,.v (.bool false))] [some ⟨5,60,[AA.enc x0],false⟩] kr ?_;have hq:=OI hj58; subst hq;exact AL rfl (AZ [] trivial ⟨lv,trivial⟩)
     ·rw [CK hc61] at hj58
      rw [hc61];refine AD (n:=63) AC 14 [(2,.v (.bool false))] [some ⟨5,60,[AA.enc x0],false⟩] kr ?_;have hq:=OI hj58; subst hq;exact AL rfl (AZ [] trivial ⟨lv,trivial⟩)
    ·rw [CK hc60] at hj58
     rw [hc60];refine AD (n:=63) AC 2 [(1,.pt 0 0 0),(4,.v (.int .i64 w56.2.1)),(5,.v (.int .i64 w56.2.2.1)),(6,.v (.bool w56.2.2.2)),(33,.v (.bool true)),(36,.v (.bool false)),(38,.sl 1 (x0.2.2.2.1.map cdS.enc))] [some ⟨5,60,[AA.enc x0],false⟩] kr ?_;refine AK AC 0 rfl (CZ kr rfl (DS (a:= .sl 1 (x0.2.2.2.1.map cdS.enc)) kr (B4 (el:=9) kr))) ?_;refine AD (n:=63) AC 4 [(1,.pt 0 0 0),(4,.v (.int .i64 w56.2.1)),(5,.v (.int .i64 w56.2.2.1)),(6,.v (.bool w56.2.2.2)),(43,.v (.bool (decide ((x0.2.2.2.1.length:Int) > 0))))] [some ⟨5,60,[AA.enc x0],false⟩] kr ?_;rcases BE (decide ((x0.2.2.2.1.length:Int) > 0)) with hc64 | hc64
     ·rw [if_pos hc64] at hj58
      rw [hc64];refine AD (n:=63) AC 6 [(1,.pt 0 0 0),(5,.v (.int .i64 w56.2.2.1)),(6,.v (.bool w56.2.2.2)),(49,.v (.bool (decide (x0.2.2.2.2≥w56.2.1))))] [some ⟨5,60,[AA.enc x0],false⟩] kr ?_;rcases BE (decide (x0.2.2.2.2≥w56.2.1)) with hc65 | hc65
      ·rw [if_pos hc65] at hj58
       rw [hc65];refine AD (n:=63) AC 6 [(1,.pt 0 0 0),(6,.v (.bool w56.2.2.2)),(55,.v (.bool (decide (x0.2.2.2.2<=w56.2.2.1))))] [some ⟨5,60,[AA.enc x0],false⟩] kr ?_;rcases BE (decide (x0.2.2.2.2<=w56.2.2.1)) with hc66 | hc66
       ·rw [if_pos hc66] at hj58
        rw [hc66];refine AD (n:=63) AC 2 [(1,.pt 0 0 0),(55,.v (.bool true)),(57,.v (.bool w56.2.2.2))] [some ⟨5,60,[AA.enc x0],false⟩] kr ?_;rcases BE w56.2.2.2 with hc67 | hc67
        ·rw [if_pos hc67] at hj58
         rw [hc67];refine AD (n:=63) AC 6 [(2,.v (.bool true))] [some ⟨5,60,[AA.enc x0],false⟩] kr ?_;have hq:=OI hj58; subst hq;exact AL rfl (AZ [] trivial ⟨lv,trivial⟩)
        ·rw [CK hc67] at hj58
         rw [hc67];refine AD (n:=63) AC 6 [(2,.v (.bool (!x0.2.2.1)))] [some ⟨5,60,[AA.enc x0],false⟩] kr ?_;have hq:=OI hj58; subst hq;exact AL rfl (AZ [] trivial ⟨lv,trivial⟩)
       ·rw [CK hc66] at hj58
        rw [hc66];refine AD (n:=63) AC 8 [(2,.v (.bool false))] [some ⟨5,60,[AA.enc x0],false⟩] kr ?_;have hq:=OI hj58; subst hq;exact AL rfl (AZ [] trivial ⟨lv,trivial⟩)
      ·rw [CK hc65] at hj58
       rw [hc65];refine AD (n:=63) AC 14 [(2,.v (.bool false))] [some ⟨5,60,[AA.enc x0],false⟩] kr ?_;have hq:=OI hj58; subst hq;exact AL rfl (AZ [] trivial ⟨lv,trivial⟩)
     ·rw [CK hc64] at hj58
      rw [hc64];refine AD (n:=63) AC 20 [(2,.v (.bool false))] [some ⟨5,60,[AA.enc x0],false⟩] kr ?_;have hq:=OI hj58; subst hq;exact AL rfl (AZ [] trivial ⟨lv,trivial⟩)
   ·rw [CK hc59] at hj58
    rw [hc59];refine AD (n:=63) AC 30 [(2,.v (.bool false))] [some ⟨5,60,[AA.enc x0],false⟩] kr ?_;have hq:=OI hj58; subst hq;exact AL rfl (AZ [] trivial ⟨lv,trivial⟩)
  refine AT ?_;have hq:=OI h; subst hq;exact ⟨⟨Fr 63 [(2,.v (.bool j58))],[]⟩,AO,.inr rfl,[.v (.bool j58)],kr,kr⟩
 ·try dsimp only at h
  refine Cg (H3 x0 _ hr55) ?_;have hq:=OI h; subst hq;exact ⟨⟨Fr 63 [(2,.v (.bool w68))],[]⟩,AO,.inr rfl,[.v (.bool w68)],kr,kr⟩
def Nz:List AV->Option AV:=EA Ho (fun a=>BV a.1) Hr
theorem N3:XOk 159 Nz:=by
 refine AW Tryz.func159 (c:=B8) ?h2 ⟨Tryz.call159⟩ Ho (fun a=>BV a.1) Hr (fun a=>(by show 1<=63; decide)) ?h3 ?h4
 case h2=>kernel_rfl
 case h3=>intro b; kernel_rfl
 case h4=>exact fun a b h=>MB a.1 b h
/- trestle/court.name -/
noncomputable def In:Code:=Bn Tryz.f96
def Dv (x0:(List UInt8)):Nat->Int->Option ((Unit) ⊕ (Bool))
 | 0,_=>none
 | f + 1,c1 =>
  if (decide (c1 < (x0.length:Int)))=true then
  (idx x0 c1).bind fun v3 =>
  (if (decide ((v3.toNat:Int) < 97))=true then some true else (idx x0 c1).bind fun v4 =>
  some (decide ((v4.toNat:Int) > 122))).bind fun j6 =>
  if j6=true then
  some (.inr false)
  else
  Dv x0 f (wr .i64 (c1 + 1))
  else
  some (.inl ())
def Fj (x0:(List UInt8)):Option (Bool) :=
 (Dv x0 100000 0).bind fun r10 =>
 match r10 with
 | (.inl _w11) =>
  (if (decide ((x0.length:Int)≥1))=true then some (decide ((x0.length:Int)<=12)) else some false).bind fun j13 =>
  some j13
 | (.inr w15) =>
  some w15
def Iq:Cs ((List UInt8)×Unit):=(csC cdS csN)
def It (r:Bool):AV:=cdB.enc r
theorem JM (x0:(List UInt8)):∀ (f:Nat) (c1:Int) (r:(Unit) ⊕ (Bool)),Dv x0 f c1=some r->SemN E0 ⟨none,false⟩ (pc In [1,0,1,0,0]) f ⟨Fr 28 [(0,.st x0),(3,.v (.int .i64 c1))],[]⟩ (fun e s=>match r with
 | (.inl _w)=>e=(.exit 0)/\Wk E0 s ⟨Fr 28 [(0,.st x0)],[]⟩
 | (.inr w)=>e = .ret/\Wk E0 s ⟨Fr 28 [(2,.v (.bool w))],[]⟩):=by
 intro f;induction f with
 | zero=>intro c1 r h; cases h
 | succ f ih0 =>
  intro c1 r h
  have ih:=fun (c1:Int)=>ih0 c1 r
  unfold Dv at h;refine B6 ?_;refine AG ?_;refine AJ AC [(0,.st x0),(3,.v (.int .i64 c1)),(7,.v (.bool (decide (c1 < (x0.length:Int)))))] [] ?_;refine AM (b:=(decide (c1 < (x0.length:Int)))) kr (fun hb2=>?_) (fun hb2=>?_)
  ·rw [if_pos hb2] at h
   refine AP ?_;refine AG ?_;refine Aj ?_;refine AG ?_;obtain ⟨v3,hv3,h⟩:=OB h;obtain ⟨j6,hj6,h⟩:=OB h;refine AH (s1:=⟨Fr 28 [(0,.st x0),(3,.v (.int .i64 c1)),(19,.v (.bool j6))],[]⟩) ?_ ?_
   ·refine AD (n:=28) AC 2 [(0,.st x0),(3,.v (.int .i64 c1)),(10,.st x0),(11,.v (.int .i64 c1))] [] kr ?_
    refine AK AC 0 rfl (CZ (AB rfl) rfl (S1 (a:= .st x0) (b:= .v (.int .i64 c1)) kr kr (Q4 (bs:=x0) (ki:= .i64) kr hv3))) ?_;refine AD (n:=28) AC 2 [(0,.st x0),(3,.v (.int .i64 c1)),(14,.v (.bool (decide ((v3.toNat:Int) < 97))))] [] kr ?_;rcases BE (decide ((v3.toNat:Int) < 97)) with hc9 | hc9
    ·rw [if_pos hc9] at hj6
     rw [hc9];refine AD (n:=28) AC 5 [(0,.st x0),(3,.v (.int .i64 c1)),(15,.tp []),(16,.tp []),(17,.tp []),(18,.tp []),(19,.v (.bool true))] [] kr ?_;have hq:=OI hj6; subst hq;exact AL rfl AO
    ·rw [CK hc9] at hj6
     rw [hc9];refine AD (n:=28) AC 2 [(0,.st x0),(3,.v (.int .i64 c1)),(14,.v (.bool false)),(15,.st x0),(16,.v (.int .i64 c1))] [] kr ?_;obtain ⟨v4,hv4,hj6⟩:=OB hj6;refine AK AC 0 rfl (CZ kr rfl (S1 (a:= .st x0) (b:= .v (.int .i64 c1)) kr kr (Q4 (bs:=x0) (ki:= .i64) kr hv4))) ?_;refine AD (n:=28) AC 2 [(0,.st x0),(3,.v (.int .i64 c1)),(15,.st x0),(16,.v (.int .i64 c1)),(17,.v (.int .u8 (v4.toNat:Int))),(18,.v (.bool (decide ((v4.toNat:Int) > 122)))),(19,.v (.bool (decide ((v4.toNat:Int) > 122))))] [] kr ?_;have hq:=OI hj6; subst hq;exact AL rfl AO
   refine AM (b:=j6) kr (fun hb7=>?_) (fun hb7=>?_)
   ·rw [if_pos hb7] at h
    refine AJ AC [(2,.v (.bool false))] [] ?_;refine AT ?_;have hq:=OI h; subst hq;exact ⟨rfl,AO⟩
   ·rw [CK hb7] at h
    refine AP ?_;refine DD AC [(0,.st x0),(3,.v (.int .i64 (wr .i64 (c1 + 1))))] [] ?_;exact Aw (s1:=⟨Fr 28 [(0,.st x0),(3,.v (.int .i64 (wr .i64 (c1 + 1))))],[]⟩) AO (ih (wr .i64 (c1 + 1)) h)
  ·rw [CK hb2] at h
   refine Cc ?_;have hq:=OI h; subst hq;exact ⟨rfl,AO⟩
theorem Nq (x0:(List UInt8)) (r:Bool) (h:Fj x0=some r):Sem E0 ⟨none,false⟩ In ⟨Fr 28 (BK 0 (Iq.enc (x0,()))),[]⟩ fun e s'=>(e = .normal\/e = .ret)/\∃ xs,Ej E0.P s'.fr s'.hp Tryz.f96.results.toList=some xs/\Eu xs=It r:=by
 unfold Fj at h;refine A3 (Bo (s1:=⟨Fr 28 [(0,.st x0)],[]⟩) AO ?_);refine AJ AC [(0,.st x0)] [] ?_;refine AG ?_;refine AJ AC [(0,.st x0),(3,.v (.int .i64 0))] [] ?_;refine Aj ?_;obtain ⟨r10,hr10,h⟩:=OB h;refine Ch (n:=100000) ?_;rcases r10 with w11 | w15
 ·try dsimp only at h
  refine BQ (Aw (s1:=⟨Fr 28 [(0,.st x0),(3,.v (.int .i64 0))],[]⟩) AO (JM x0 _ 0 _ hr10)) ?_;refine AG ?_;obtain ⟨j13,hj13,h⟩:=OB h;refine AH (s1:=⟨Fr 28 [(2,.v (.bool j13))],[]⟩) ?_ ?_
  ·refine AD (n:=28) AC 4 [(0,.st x0),(23,.v (.bool (decide ((x0.length:Int)≥1))))] [] kr ?_
   rcases BE (decide ((x0.length:Int)≥1)) with hc14 | hc14
   ·rw [if_pos hc14] at hj13
    rw [hc14];refine AD (n:=28) AC 5 [(2,.v (.bool (decide ((x0.length:Int)<=12))))] [] kr ?_;have hq:=OI hj13; subst hq;exact AL rfl AO
   ·rw [CK hc14] at hj13
    rw [hc14];refine AD (n:=28) AC 5 [(2,.v (.bool false))] [] kr ?_;have hq:=OI hj13; subst hq;exact AL rfl AO
  refine AT ?_;have hq:=OI h; subst hq;exact ⟨⟨Fr 28 [(2,.v (.bool j13))],[]⟩,AO,.inr rfl,[.v (.bool j13)],kr,kr⟩
 ·try dsimp only at h
  refine BQ (Aw (s1:=⟨Fr 28 [(0,.st x0),(3,.v (.int .i64 0))],[]⟩) AO (JM x0 _ 0 _ hr10)) ?_;have hq:=OI h; subst hq;exact ⟨⟨Fr 28 [(2,.v (.bool w15))],[]⟩,AO,.inr rfl,[.v (.bool w15)],kr,kr⟩
def Pw:List AV->Option AV:=EA Iq (fun a=>Fj a.1) It
theorem MA:XOk 96 Pw:=by
 refine AW Tryz.func96 (c:=In) ?h2 ⟨Tryz.call96⟩ Iq (fun a=>Fj a.1) It (fun a=>(by show 1<=28; decide)) ?h3 ?h4
 case h2=>kernel_rfl
 case h3=>intro b; kernel_rfl
 case h4=>exact fun a b h=>Nq a.1 b h
/- trestle/court.check$1 -/
noncomputable def JC:Code:=Bn Tryz.f160
def ET (x0:(List UInt8)):Option (Bool) :=
 (Fj x0).bind fun v1 =>
 some (!v1)
def G7:Cs ((List UInt8)×Unit):=(csC cdS csN)
def HJ (r:Bool):AV:=cdB.enc r
theorem LN (x0:(List UInt8)) (r:Bool) (h:ET x0=some r):Sem E0 ⟨none,false⟩ JC ⟨Fr 6 (BK 0 (G7.enc (x0,()))),[]⟩ fun e s'=>(e = .normal\/e = .ret)/\∃ xs,Ej E0.P s'.fr s'.hp Tryz.f160.results.toList=some xs/\Eu xs=HJ r:=by
 unfold ET at h;refine A3 (Bo (s1:=⟨Fr 6 [(0,.st x0)],[]⟩) AO ?_);refine AJ AC [(0,.st x0)] [] ?_;refine AG ?_;obtain ⟨v1,hv1,h⟩:=OB h;refine AH (s1:=⟨Fr 6 [(2,.v (.bool (!v1)))],[]⟩) ?_ ?_
 ·refine AD (n:=6) AC 1 [(3,.st x0)] [] kr ?_
  refine Ai (caps:=[]) (xs:=[.st x0]) (u:=(x0,())) rfl rfl MA rfl (AB rfl) kr kr (AU (Ao (c:=cdS) (v:=x0)) Bf) (.inl kr) hv1 ?_;exact AN AC
 refine AT ?_;have hq:=OI h; subst hq;exact ⟨⟨Fr 6 [(2,.v (.bool (!v1)))],[]⟩,AO,.inr rfl,[.v (.bool (!v1))],kr,kr⟩
def NJ:List AV->Option AV:=EA G7 (fun a=>ET a.1) HJ
theorem Na:XOk 160 NJ:=by
 refine AW Tryz.func160 (c:=JC) ?h2 ⟨Tryz.call160⟩ G7 (fun a=>ET a.1) HJ (fun a=>(by show 1<=6; decide)) ?h3 ?h4
 case h2=>kernel_rfl
 case h3=>intro b; kernel_rfl
 case h4=>exact fun a b h=>LN a.1 b h
/- slices.IndexFunc[[]string,string] -/
noncomputable def BS:Code:=Bn Tryz.f90
def Ap (x0:(List (List UInt8))):Nat->Int->Option ((Unit) ⊕ (Int))
 | 0,_=>none
 | f + 1,c1 =>
  if (decide (c1 < (x0.length:Int)))=true then
  (idx x0 c1).bind fun v3 =>
  (ET v3).bind fun v4 =>
  if v4=true then
  some (.inr c1)
  else
  Ap x0 f (wr .i64 (c1 + 1))
  else
  some (.inl ())
def Ak (x0:(List (List UInt8))):Option (Int) :=
 (Ap x0 100000 0).bind fun r7 =>
 match r7 with
 | (.inl _w8) =>
  some (-1)
 | (.inr w9) =>
  some w9
def BZ:Cs ((List (List UInt8))×Unit×Unit):=(csC (cdL 1 cdS) (csC (cdF 160 csN (fun _=>rfl)) csN))
def Bc (r:Int):AV:=cdI.enc r
theorem CF (x0:(List (List UInt8))):∀ (f:Nat) (c1:Int) (r:(Unit) ⊕ (Int)),Ap x0 f c1=some r->SemN E0 ⟨none,false⟩ (pc BS [1,0,1,0,0]) f ⟨Fr 19 [(0,.sl 1 (x0.map cdS.enc)),(1,.fn 160 [] []),(7,.v (.int .i64 (x0.length:Int))),(8,.v (.int .i64 c1))],[]⟩ (fun e s=>match r with
 | (.inl _w)=>e=(.exit 0)/\Wk E0 s ⟨Fr 19 [],[]⟩
 | (.inr w)=>e = .ret/\Wk E0 s ⟨Fr 19 [(4,.v (.int .i64 w))],[]⟩):=by
 intro f;induction f with
 | zero=>intro c1 r h; cases h
 | succ f ih0 =>
  intro c1 r h
  have ih:=fun (c1:Int)=>ih0 c1 r
  unfold Ap at h;refine B6 ?_
  let p1:Nat×AV:=(8,.v (.int .i64 c1))
  let p2:Nat×AV:=(7,.v (.int .i64 (x0.length:Int)))
  let p3:Nat×AV:=(1,.fn 160 [] [])
  let p4:Nat×AV:=(0,.sl 1 (x0.map cdS.enc))
  refine AJ AC [p4,p3,p2,p1,(9,.v (.bool (decide (c1 < (x0.length:Int)))))] [] ?_;refine AG ?_;refine AM (b:=(decide (c1 < (x0.length:Int)))) kr (fun hb2=>?_) (fun hb2=>?_)
  ·rw [if_pos hb2] at h
   refine AP ?_;refine AG ?_;refine Aj ?_
   let p5:Nat×AV:=(5,.v (.int .i64 c1))
   refine AJ AC [p4,p3,p5,p2,p1] [] ?_;refine AG ?_;obtain ⟨v3,hv3,h⟩:=OB h;obtain ⟨v4,hv4,h⟩:=OB h;refine AH (s1:=⟨Fr 19 [p4,p3,p5,p2,p1,(16,.v (.bool v4))],[]⟩) ?_ ?_
   ·refine AD (n:=19) AC 3 [p4,p3,p5,p2,p1,(11,.fn 160 [] []),(12,.sl 1 (x0.map cdS.enc)),(13,.v (.int .i64 c1))] [] kr ?_
    refine AK AC 0 rfl (CZ (AB rfl) rfl (AQ (a:= .sl 1 (x0.map cdS.enc)) (b:= .v (.int .i64 c1)) kr kr (GW (e:=cdS.enc) (el:=9) (k:=1) (ki:= .i64) kr kr hv3))) ?_;refine AD (n:=19) AC 1 [p4,p3,p5,p2,p1,(11,.fn 160 [] []),(15,.st v3)] [] kr ?_;refine Ai (caps:=[]) (xs:=[.st v3]) (u:=(v3,())) rfl rfl Na rfl (AB rfl) kr kr (AU (Ao (c:=cdS) (v:=v3)) Bf) (.inl kr) hv4 ?_;exact AL rfl AO
   refine AM (b:=v4) kr (fun hb5=>?_) (fun hb5=>?_)
   ·rw [if_pos hb5] at h
    refine AJ AC [(4,.v (.int .i64 c1))] [] ?_;refine AT ?_;have hq:=OI h; subst hq;exact ⟨rfl,AO⟩
   ·rw [CK hb5] at h
    refine AP ?_
    let p6:Nat×AV:=(8,.v (.int .i64 (wr .i64 (c1 + 1))))
    refine DD AC [p4,p3,p2,p6] [] ?_;exact Aw (s1:=⟨Fr 19 [p4,p3,p2,p6],[]⟩) AO (ih (wr .i64 (c1 + 1)) h)
  ·rw [CK hb2] at h
   refine Cc ?_;have hq:=OI h; subst hq;exact ⟨rfl,AO⟩
theorem Dp (x0:(List (List UInt8))) (r:Int) (h:Ak x0=some r):Sem E0 ⟨none,false⟩ BS ⟨Fr 19 (BK 0 (BZ.enc (x0,(),()))),[]⟩ fun e s'=>(e = .normal\/e = .ret)/\∃ xs,Ej E0.P s'.fr s'.hp Tryz.f90.results.toList=some xs/\Eu xs=Bc r:=by
 unfold Ak at h
 let p1:Nat×AV:=(1,.fn 160 [] [])
 let p2:Nat×AV:=(0,.sl 1 (x0.map cdS.enc))
 refine A3 (Bo (s1:=⟨Fr 19 [p2,p1],[]⟩) AO ?_);refine AJ AC [p2,p1] [] ?_;refine AG ?_;refine AG ?_
 let p3:Nat×AV:=(8,.v (.int .i64 0))
 let p4:Nat×AV:=(7,.v (.int .i64 (x0.length:Int)))
 refine AH (s1:=⟨Fr 19 [p2,p1,p4,p3],[]⟩) ?_ ?_
 ·refine AD (n:=19) AC 1 [p2,p1,(6,.sl 1 (x0.map cdS.enc))] [] kr ?_
  refine AK AC 0 rfl (CZ (AB rfl) rfl (DS (a:= .sl 1 (x0.map cdS.enc)) kr (B4 (el:=9) kr))) ?_;exact AN AC
 refine Aj ?_;obtain ⟨r7,hr7,h⟩:=OB h;refine Ch (n:=100000) ?_;rcases r7 with w8 | w9
 ·try dsimp only at h
  refine BQ (Aw (s1:=⟨Fr 19 [p2,p1,p4,p3],[]⟩) AO (CF x0 _ 0 _ hr7)) ?_;refine AJ AC [(4,.v (.int .i64 (-1)))] [] ?_;refine AT ?_;have hq:=OI h; subst hq;exact ⟨⟨Fr 19 [(4,.v (.int .i64 (-1)))],[]⟩,AO,.inr rfl,[.v (.int .i64 (-1))],kr,kr⟩
 ·try dsimp only at h
  refine BQ (Aw (s1:=⟨Fr 19 [p2,p1,p4,p3],[]⟩) AO (CF x0 _ 0 _ hr7)) ?_;have hq:=OI h; subst hq;exact ⟨⟨Fr 19 [(4,.v (.int .i64 w9))],[]⟩,AO,.inr rfl,[.v (.int .i64 w9)],kr,kr⟩
def D4:List AV->Option AV:=EA BZ (fun a=>Ak a.1) Bc
theorem D7:XOk 90 D4:=by
 refine AW Tryz.func90 (c:=BS) ?h2 ⟨Tryz.call90⟩ BZ (fun a=>Ak a.1) Bc (fun a=>(by show 2<=19; decide)) ?h3 ?h4
 case h2=>kernel_rfl
 case h3=>intro b; kernel_rfl
 case h4=>exact fun a b h=>Dp a.1 b h
/- slices.ContainsFunc[[]string,string] -/
noncomputable def B9:Code:=Bn Tryz.f36
def AS (x0:(List (List UInt8))):Option (Bool) :=
 (Ak x0).bind fun v1 =>
 some (decide (v1≥0))
def BI:Cs ((List (List UInt8))×Unit×Unit):=(csC (cdL 1 cdS) (csC (cdF 160 csN (fun _=>rfl)) csN))
def BJ (r:Bool):AV:=cdB.enc r
theorem DY (x0:(List (List UInt8))) (r:Bool) (h:AS x0=some r):Sem E0 ⟨none,false⟩ B9 ⟨Fr 9 (BK 0 (BI.enc (x0,(),()))),[]⟩ fun e s'=>(e = .normal\/e = .ret)/\∃ xs,Ej E0.P s'.fr s'.hp Tryz.f36.results.toList=some xs/\Eu xs=BJ r:=by
 unfold AS at h;refine A3 (Bo (s1:=⟨Fr 9 [(0,.sl 1 (x0.map cdS.enc)),(1,.fn 160 [] [])],[]⟩) AO ?_);refine AJ AC [(0,.sl 1 (x0.map cdS.enc)),(1,.fn 160 [] [])] [] ?_;refine AG ?_;obtain ⟨v1,hv1,h⟩:=OB h
 let p1:Nat×AV:=(4,.v (.bool (decide (v1≥0))))
 refine AH (s1:=⟨Fr 9 [p1],[]⟩) ?_ ?_
 ·refine AD (n:=9) AC 2 [(5,.sl 1 (x0.map cdS.enc)),(6,.fn 160 [] [])] [] kr ?_
  refine Ai (caps:=[]) (xs:=[.sl 1 (x0.map cdS.enc),.fn 160 [] []]) (u:=(x0,(),())) rfl rfl D7 rfl (AB rfl) kr kr (AU (Ao (c:=(cdL 1 cdS)) (v:=x0)) (AU (Sm.fn Bf) Bf)) (.inl kr) hv1 ?_;exact AN AC
 refine AT ?_;have hq:=OI h; subst hq;exact ⟨⟨Fr 9 [p1],[]⟩,AO,.inr rfl,[.v (.bool (decide (v1≥0)))],kr,kr⟩
def Dj:List AV->Option AV:=EA BI (fun a=>AS a.1) BJ
theorem CI:XOk 36 Dj:=by
 refine AW Tryz.func36 (c:=B9) ?h2 ⟨Tryz.call36⟩ BI (fun a=>AS a.1) BJ (fun a=>(by show 2<=9; decide)) ?h3 ?h4
 case h2=>kernel_rfl
 case h3=>intro b; kernel_rfl
 case h4=>exact fun a b h=>DY a.1 b h
/- slices.Index[[]string,string] -/
noncomputable def DF:Code:=Bn Tryz.f41
def As (x0:(List (List UInt8))) (x1:(List UInt8)):Nat->Int->Option ((Unit) ⊕ (Int))
 | 0,_=>none
 | f + 1,c1 =>
  if (decide (c1 < (x0.length:Int)))=true then
  (idx x0 c1).bind fun v3 =>
  if (x1==v3)=true then
  some (.inr c1)
  else
  As x0 x1 f (wr .i64 (c1 + 1))
  else
  some (.inl ())
def BC (x0:(List (List UInt8))) (x1:(List UInt8)):Option (Int) :=
 (As x0 x1 100000 0).bind fun r6 =>
 match r6 with
 | (.inl _w7) =>
  some (-1)
 | (.inr w8) =>
  some w8
def DI:Cs ((List (List UInt8))×(List UInt8)×Unit):=(csC (cdL 1 cdS) (csC cdS csN))
def DJ (r:Int):AV:=cdI.enc r
theorem D9 (x0:(List (List UInt8))) (x1:(List UInt8)):∀ (f:Nat) (c1:Int) (r:(Unit) ⊕ (Int)),As x0 x1 f c1=some r->SemN E0 ⟨none,false⟩ (pc DF [1,0,1,0,0]) f ⟨Fr 19 [(0,.sl 1 (x0.map cdS.enc)),(1,.st x1),(7,.v (.int .i64 (x0.length:Int))),(8,.v (.int .i64 c1))],[]⟩ (fun e s=>match r with
 | (.inl _w)=>e=(.exit 0)/\Wk E0 s ⟨Fr 19 [],[]⟩
 | (.inr w)=>e = .ret/\Wk E0 s ⟨Fr 19 [(4,.v (.int .i64 w))],[]⟩):=by
 intro f;induction f with
 | zero=>intro c1 r h; cases h
 | succ f ih0 =>
  intro c1 r h
  have ih:=fun (c1:Int)=>ih0 c1 r
  unfold As at h;refine B6 ?_
  let p1:Nat×AV:=(8,.v (.int .i64 c1))
  let p2:Nat×AV:=(7,.v (.int .i64 (x0.length:Int)))
  let p3:Nat×AV:=(0,.sl 1 (x0.map cdS.enc))
  refine AJ AC [p3,(1,.st x1),p2,p1,(9,.v (.bool (decide (c1 < (x0.length:Int)))))] [] ?_;refine AG ?_;refine AM (b:=(decide (c1 < (x0.length:Int)))) kr (fun hb2=>?_) (fun hb2=>?_)
  ·rw [if_pos hb2] at h
   refine AP ?_;refine AG ?_;refine Aj ?_
   let p4:Nat×AV:=(5,.v (.int .i64 c1))
   refine AJ AC [p3,(1,.st x1),p4,p2,p1] [] ?_;refine AG ?_;obtain ⟨v3,hv3,h⟩:=OB h;refine AH (s1:=⟨Fr 19 [p3,(1,.st x1),p4,p2,p1,(16,.v (.bool (x1==v3)))],[]⟩) ?_ ?_
   ·refine AD (n:=19) AC 3 [p3,(1,.st x1),p4,p2,p1,(11,.st x1),(12,.sl 1 (x0.map cdS.enc)),(13,.v (.int .i64 c1))] [] kr ?_
    refine AK AC 0 rfl (CZ (AB rfl) rfl (AQ (a:= .sl 1 (x0.map cdS.enc)) (b:= .v (.int .i64 c1)) kr kr (GW (e:=cdS.enc) (el:=9) (k:=1) (ki:= .i64) kr kr hv3))) ?_;exact AN AC
   refine AM (b:=(x1==v3)) kr (fun hb4=>?_) (fun hb4=>?_)
   ·rw [if_pos hb4] at h
    refine AJ AC [(4,.v (.int .i64 c1))] [] ?_;refine AT ?_;have hq:=OI h; subst hq;exact ⟨rfl,AO⟩
   ·rw [CK hb4] at h
    refine AP ?_
    let p5:Nat×AV:=(8,.v (.int .i64 (wr .i64 (c1 + 1))))
    refine DD AC [p3,(1,.st x1),p2,p5] [] ?_;exact Aw (s1:=⟨Fr 19 [p3,(1,.st x1),p2,p5],[]⟩) AO (ih (wr .i64 (c1 + 1)) h)
  ·rw [CK hb2] at h
   refine Cc ?_;have hq:=OI h; subst hq;exact ⟨rfl,AO⟩
theorem Gr (x0:(List (List UInt8))) (x1:(List UInt8)) (r:Int) (h:BC x0 x1=some r):Sem E0 ⟨none,false⟩ DF ⟨Fr 19 (BK 0 (DI.enc (x0,x1,()))),[]⟩ fun e s'=>(e = .normal\/e = .ret)/\∃ xs,Ej E0.P s'.fr s'.hp Tryz.f41.results.toList=some xs/\Eu xs=DJ r:=by
 unfold BC at h
 let p1:Nat×AV:=(0,.sl 1 (x0.map cdS.enc))
 refine A3 (Bo (s1:=⟨Fr 19 [p1,(1,.st x1)],[]⟩) AO ?_);refine AJ AC [p1,(1,.st x1)] [] ?_;refine AG ?_;refine AG ?_
 let p2:Nat×AV:=(8,.v (.int .i64 0))
 let p3:Nat×AV:=(7,.v (.int .i64 (x0.length:Int)))
 refine AH (s1:=⟨Fr 19 [p1,(1,.st x1),p3,p2],[]⟩) ?_ ?_
 ·refine AD (n:=19) AC 1 [p1,(1,.st x1),(6,.sl 1 (x0.map cdS.enc))] [] kr ?_
  refine AK AC 0 rfl (CZ (AB rfl) rfl (DS (a:= .sl 1 (x0.map cdS.enc)) kr (B4 (el:=9) kr))) ?_;exact AN AC
 refine Aj ?_;obtain ⟨r6,hr6,h⟩:=OB h;refine Ch (n:=100000) ?_;rcases r6 with w7 | w8
 ·try dsimp only at h
  refine BQ (Aw (s1:=⟨Fr 19 [p1,(1,.st x1),p3,p2],[]⟩) AO (D9 x0 x1 _ 0 _ hr6)) ?_;refine AJ AC [(4,.v (.int .i64 (-1)))] [] ?_;refine AT ?_;have hq:=OI h; subst hq;exact ⟨⟨Fr 19 [(4,.v (.int .i64 (-1)))],[]⟩,AO,.inr rfl,[.v (.int .i64 (-1))],kr,kr⟩
 ·try dsimp only at h
  refine BQ (Aw (s1:=⟨Fr 19 [p1,(1,.st x1),p3,p2],[]⟩) AO (D9 x0 x1 _ 0 _ hr6)) ?_;have hq:=OI h; subst hq;exact ⟨⟨Fr 19 [(4,.v (.int .i64 w8))],[]⟩,AO,.inr rfl,[.v (.int .i64 w8)],kr,kr⟩
def Hd:List AV->Option AV:=EA DI (fun a=>BC a.1 a.2.1) DJ
theorem Eh:XOk 41 Hd:=by
 refine AW Tryz.func41 (c:=DF) ?h2 ⟨Tryz.call41⟩ DI (fun a=>BC a.1 a.2.1) DJ (fun a=>(by show 2<=19; decide)) ?h3 ?h4
 case h2=>kernel_rfl
 case h3=>intro b; kernel_rfl
 case h4=>exact fun a b h=>Gr a.1 a.2.1 b h
/- slices.Contains[[]string,string] -/
noncomputable def D8:Code:=Bn Tryz.f97
def Al (x0:(List (List UInt8))) (x1:(List UInt8)):Option (Bool) :=
 (BC x0 x1).bind fun v1 =>
 some (decide (v1≥0))
def Co:Cs ((List (List UInt8))×(List UInt8)×Unit):=(csC (cdL 1 cdS) (csC cdS csN))
def Cp (r:Bool):AV:=cdB.enc r
theorem GQ (x0:(List (List UInt8))) (x1:(List UInt8)) (r:Bool) (h:Al x0 x1=some r):Sem E0 ⟨none,false⟩ D8 ⟨Fr 9 (BK 0 (Co.enc (x0,x1,()))),[]⟩ fun e s'=>(e = .normal\/e = .ret)/\∃ xs,Ej E0.P s'.fr s'.hp Tryz.f97.results.toList=some xs/\Eu xs=Cp r:=by
 unfold Al at h;refine A3 (Bo (s1:=⟨Fr 9 [(0,.sl 1 (x0.map cdS.enc)),(1,.st x1)],[]⟩) AO ?_);refine AJ AC [(0,.sl 1 (x0.map cdS.enc)),(1,.st x1)] [] ?_;refine AG ?_;obtain ⟨v1,hv1,h⟩:=OB h
 let p1:Nat×AV:=(4,.v (.bool (decide (v1≥0))))
 refine AH (s1:=⟨Fr 9 [p1],[]⟩) ?_ ?_
 ·refine AD (n:=9) AC 2 [(5,.sl 1 (x0.map cdS.enc)),(6,.st x1)] [] kr ?_
  refine Ai (caps:=[]) (xs:=[.sl 1 (x0.map cdS.enc),.st x1]) (u:=(x0,x1,())) rfl rfl Eh rfl (AB rfl) kr kr (AU (Ao (c:=(cdL 1 cdS)) (v:=x0)) (AU (Ao (c:=cdS) (v:=x1)) Bf)) (.inl kr) hv1 ?_;exact AN AC
 refine AT ?_;have hq:=OI h; subst hq;exact ⟨⟨Fr 9 [p1],[]⟩,AO,.inr rfl,[.v (.bool (decide (v1≥0)))],kr,kr⟩
def Gh:List AV->Option AV:=EA Co (fun a=>Al a.1 a.2.1) Cp
theorem CJ:XOk 97 Gh:=by
 refine AW Tryz.func97 (c:=D8) ?h2 ⟨Tryz.call97⟩ Co (fun a=>Al a.1 a.2.1) Cp (fun a=>(by show 2<=9; decide)) ?h3 ?h4
 case h2=>kernel_rfl
 case h3=>intro b; kernel_rfl
 case h4=>exact fun a b h=>GQ a.1 a.2.1 b h
/- trestle/court.check$2 -/
noncomputable def JD:Code:=Bn Tryz.f161
def EU (x0:AE) (x1:AE):Option (Bool) :=
 (if (x0.1==1)=true then (Al x0.2.2.2.1 x1.2.1).bind fun v1 =>
 some v1 else some false).bind fun j3 =>
 some j3
def G8:Cs (AE×AE×Unit):=(csC AA (csC (cdP AA) csN))
def HK (r:Bool):AV:=cdB.enc r
theorem LO (x0:AE) (x1:AE) (r:Bool) (h:EU x0 x1=some r):Sem E0 ⟨none,false⟩ JD ⟨Fr 14 (BK 0 (G8.enc (x0,x1,()))),[]⟩ fun e s'=>(e = .normal\/e = .ret)/\∃ xs,Ej E0.P s'.fr s'.hp Tryz.f161.results.toList=some xs/\Eu xs=HK r:=by
 unfold EU at h;refine A3 (Bo (s1:=⟨Fr 14 [(0,AA.enc x0),(1,.pe (AA.enc x1) 0)],[]⟩) AO ?_);refine AJ AC [(1,.pe (AA.enc x1) 0),(2,.pt 0 0 0)] [some ⟨5,60,[AA.enc x0],false⟩] ?_;refine AG ?_;obtain ⟨j3,hj3,h⟩:=OB h;refine AH (s1:=⟨Fr 14 [(3,.v (.bool j3))],[]⟩) ?_ ?_
 ·refine AD (n:=14) AC 4 [(1,.pe (AA.enc x1) 0),(2,.pt 0 0 0),(7,.v (.bool (x0.1==1)))] [some ⟨5,60,[AA.enc x0],false⟩] kr ?_
  rcases BE (x0.1==1) with hc4 | hc4
  ·rw [if_pos hc4] at hj3
   rw [hc4];refine AD (n:=14) AC 4 [(7,.v (.bool true)),(9,.sl 1 (x0.2.2.2.1.map cdS.enc)),(11,.st x1.2.1)] [some ⟨5,60,[AA.enc x0],false⟩] kr ?_;obtain ⟨v1,hv1,hj3⟩:=OB hj3;refine Ai (caps:=[]) (xs:=[.sl 1 (x0.2.2.2.1.map cdS.enc),.st x1.2.1]) (u:=(x0.2.2.2.1,x1.2.1,())) rfl rfl CJ rfl kr kr kr (AU (Ao (c:=(cdL 1 cdS)) (v:=x0.2.2.2.1)) (AU (Ao (c:=cdS) (v:=x1.2.1)) Bf)) (.inl kr) hv1 ?_;refine AD (n:=14) AC 2 [(3,.v (.bool v1))] [some ⟨5,60,[AA.enc x0],false⟩] kr ?_;have hq:=OI hj3; subst hq;exact AL rfl (AZ [] trivial ⟨lv,trivial⟩)
  ·rw [CK hc4] at hj3
   rw [hc4];refine AD (n:=14) AC 7 [(3,.v (.bool false))] [some ⟨5,60,[AA.enc x0],false⟩] kr ?_;have hq:=OI hj3; subst hq;exact AL rfl (AZ [] trivial ⟨lv,trivial⟩)
 refine AT ?_;have hq:=OI h; subst hq;exact ⟨⟨Fr 14 [(3,.v (.bool j3))],[]⟩,AO,.inr rfl,[.v (.bool j3)],kr,kr⟩
def NK:List AV->Option AV:=EA G8 (fun a=>EU a.1 a.2.1) HK
theorem Nb:XOk 161 NK:=by
 refine AW Tryz.func161 (c:=JD) ?h2 ⟨Tryz.call161⟩ G8 (fun a=>EU a.1 a.2.1) HK (fun a=>(by show 2<=14; decide)) ?h3 ?h4
 case h2=>kernel_rfl
 case h3=>intro b; kernel_rfl
 case h4=>exact fun a b h=>LO a.1 a.2.1 b h
/- slices.IndexFunc[[]trestle/api.Clause,trestle/api.Clause] -/
noncomputable def A5:Code:=Bn Tryz.f85
def Ae (x0:(List AE)) (x1:AE):Nat->Int->Option ((Unit) ⊕ (Int))
 | 0,_=>none
 | f + 1,c1 =>
  if (decide (c1 < (x0.length:Int)))=true then
  (idx x0 c1).bind fun v3 =>
  (EU v3 x1).bind fun v4 =>
  if v4=true then
  some (.inr c1)
  else
  Ae x0 x1 f (wr .i64 (c1 + 1))
  else
  some (.inl ())
def Aa (x0:(List AE)) (x1:AE):Option (Int) :=
 (Ae x0 x1 100000 0).bind fun r7 =>
 match r7 with
 | (.inl _w8) =>
  some (-1)
 | (.inr w9) =>
  some w9
def A6:Cs ((List AE)×AE×Unit):=(csC (cdL 5 AA) (csC (cdF 161 (csE (cdP AA)) (fun _=>rfl)) csN))
def A7 (r:Int):AV:=cdI.enc r
theorem Bm (x0:(List AE)) (x1:AE):∀ (f:Nat) (c1:Int) (r:(Unit) ⊕ (Int)),Ae x0 x1 f c1=some r->SemN E0 ⟨none,false⟩ (pc A5 [1,0,1,0,0]) f ⟨Fr 19 [(0,.sl 5 (x0.map AA.enc)),(1,.fn 161 [] [.pe (AA.enc x1) 0]),(7,.v (.int .i64 (x0.length:Int))),(8,.v (.int .i64 c1))],[]⟩ (fun e s=>match r with
 | (.inl _w)=>e=(.exit 0)/\Wk E0 s ⟨Fr 19 [],[]⟩
 | (.inr w)=>e = .ret/\Wk E0 s ⟨Fr 19 [(4,.v (.int .i64 w))],[]⟩):=by
 intro f;induction f with
 | zero=>intro c1 r h; cases h
 | succ f ih0 =>
  intro c1 r h
  have ih:=fun (c1:Int)=>ih0 c1 r
  unfold Ae at h;refine B6 ?_
  let p1:Nat×AV:=(8,.v (.int .i64 c1))
  let p2:Nat×AV:=(7,.v (.int .i64 (x0.length:Int)))
  let p3:Nat×AV:=(1,.fn 161 [] [.pe (AA.enc x1) 0])
  let p4:Nat×AV:=(0,.sl 5 (x0.map AA.enc))
  refine AJ AC [p4,p3,p2,p1,(9,.v (.bool (decide (c1 < (x0.length:Int)))))] [] ?_;refine AG ?_;refine AM (b:=(decide (c1 < (x0.length:Int)))) kr (fun hb2=>?_) (fun hb2=>?_)
  ·rw [if_pos hb2] at h
   refine AP ?_;refine AG ?_;refine Aj ?_
   let p5:Nat×AV:=(5,.v (.int .i64 c1))
   refine AJ AC [p4,p3,p5,p2,p1] [] ?_;refine AG ?_;obtain ⟨v3,hv3,h⟩:=OB h;obtain ⟨v4,hv4,h⟩:=OB h;refine AH (s1:=⟨Fr 19 [p4,p3,p5,p2,p1,(16,.v (.bool v4))],[]⟩) ?_ ?_
   ·let p6:Nat×AV:=(11,.fn 161 [] [.pe (AA.enc x1) 0])
    refine AD (n:=19) AC 3 [p4,p3,p5,p2,p1,p6,(12,.sl 5 (x0.map AA.enc)),(13,.v (.int .i64 c1))] [] kr ?_;refine AK AC 0 rfl (CZ (AB rfl) rfl (AQ (a:= .sl 5 (x0.map AA.enc)) (b:= .v (.int .i64 c1)) kr kr (GW (e:=AA.enc) (el:=60) (k:=5) (ki:= .i64) kr kr hv3))) ?_;refine AD (n:=19) AC 1 [p4,p3,p5,p2,p1,p6,(15,AA.enc v3)] [] kr ?_;refine Ai (caps:=[.pe (AA.enc x1) 0]) (xs:=[AA.enc v3]) (u:=(v3,x1,())) rfl rfl Nb rfl (AB rfl) kr kr (AU (Ao (c:=AA) (v:=v3)) (AU (Ao (c:=(cdP AA)) (v:=x1)) Bf)) (.inl kr) hv4 ?_;exact AL rfl AO
   refine AM (b:=v4) kr (fun hb5=>?_) (fun hb5=>?_)
   ·rw [if_pos hb5] at h
    refine AJ AC [(4,.v (.int .i64 c1))] [] ?_;refine AT ?_;have hq:=OI h; subst hq;exact ⟨rfl,AO⟩
   ·rw [CK hb5] at h
    refine AP ?_
    let p7:Nat×AV:=(8,.v (.int .i64 (wr .i64 (c1 + 1))))
    refine DD AC [p4,p3,p2,p7] [] ?_;exact Aw (s1:=⟨Fr 19 [p4,p3,p2,p7],[]⟩) AO (ih (wr .i64 (c1 + 1)) h)
  ·rw [CK hb2] at h
   refine Cc ?_;have hq:=OI h; subst hq;exact ⟨rfl,AO⟩
theorem DC (x0:(List AE)) (x1:AE) (r:Int) (h:Aa x0 x1=some r):Sem E0 ⟨none,false⟩ A5 ⟨Fr 19 (BK 0 (A6.enc (x0,x1,()))),[]⟩ fun e s'=>(e = .normal\/e = .ret)/\∃ xs,Ej E0.P s'.fr s'.hp Tryz.f85.results.toList=some xs/\Eu xs=A7 r:=by
 unfold Aa at h
 let p1:Nat×AV:=(1,.fn 161 [] [.pe (AA.enc x1) 0])
 let p2:Nat×AV:=(0,.sl 5 (x0.map AA.enc))
 refine A3 (Bo (s1:=⟨Fr 19 [p2,p1],[]⟩) AO ?_);refine AJ AC [p2,p1] [] ?_;refine AG ?_;refine AG ?_
 let p3:Nat×AV:=(8,.v (.int .i64 0))
 let p4:Nat×AV:=(7,.v (.int .i64 (x0.length:Int)))
 refine AH (s1:=⟨Fr 19 [p2,p1,p4,p3],[]⟩) ?_ ?_
 ·refine AD (n:=19) AC 1 [p2,p1,(6,.sl 5 (x0.map AA.enc))] [] kr ?_
  refine AK AC 0 rfl (CZ (AB rfl) rfl (DS (a:= .sl 5 (x0.map AA.enc)) kr (B4 (el:=60) kr))) ?_;exact AN AC
 refine Aj ?_;obtain ⟨r7,hr7,h⟩:=OB h;refine Ch (n:=100000) ?_;rcases r7 with w8 | w9
 ·try dsimp only at h
  refine BQ (Aw (s1:=⟨Fr 19 [p2,p1,p4,p3],[]⟩) AO (Bm x0 x1 _ 0 _ hr7)) ?_;refine AJ AC [(4,.v (.int .i64 (-1)))] [] ?_;refine AT ?_;have hq:=OI h; subst hq;exact ⟨⟨Fr 19 [(4,.v (.int .i64 (-1)))],[]⟩,AO,.inr rfl,[.v (.int .i64 (-1))],kr,kr⟩
 ·try dsimp only at h
  refine BQ (Aw (s1:=⟨Fr 19 [p2,p1,p4,p3],[]⟩) AO (Bm x0 x1 _ 0 _ hr7)) ?_;have hq:=OI h; subst hq;exact ⟨⟨Fr 19 [(4,.v (.int .i64 w9))],[]⟩,AO,.inr rfl,[.v (.int .i64 w9)],kr,kr⟩
def DM:List AV->Option AV:=EA A6 (fun a=>Aa a.1 a.2.1) A7
theorem DN:XOk 85 DM:=by
 refine AW Tryz.func85 (c:=A5) ?h2 ⟨Tryz.call85⟩ A6 (fun a=>Aa a.1 a.2.1) A7 (fun a=>(by show 2<=19; decide)) ?h3 ?h4
 case h2=>kernel_rfl
 case h3=>intro b; kernel_rfl
 case h4=>exact fun a b h=>DC a.1 a.2.1 b h
/- slices.ContainsFunc[[]trestle/api.Clause,trestle/api.Clause] -/
noncomputable def Bj:Code:=Bn Tryz.f53
def AR (x0:(List AE)) (x1:AE):Option (Bool) :=
 (Aa x0 x1).bind fun v1 =>
 some (decide (v1≥0))
def A1:Cs ((List AE)×AE×Unit):=(csC (cdL 5 AA) (csC (cdF 161 (csE (cdP AA)) (fun _=>rfl)) csN))
def A2 (r:Bool):AV:=cdB.enc r
theorem Cq (x0:(List AE)) (x1:AE) (r:Bool) (h:AR x0 x1=some r):Sem E0 ⟨none,false⟩ Bj ⟨Fr 9 (BK 0 (A1.enc (x0,x1,()))),[]⟩ fun e s'=>(e = .normal\/e = .ret)/\∃ xs,Ej E0.P s'.fr s'.hp Tryz.f53.results.toList=some xs/\Eu xs=A2 r:=by
 unfold AR at h
 let p1:Nat×AV:=(1,.fn 161 [] [.pe (AA.enc x1) 0])
 let p2:Nat×AV:=(0,.sl 5 (x0.map AA.enc))
 refine A3 (Bo (s1:=⟨Fr 9 [p2,p1],[]⟩) AO ?_);refine AJ AC [p2,p1] [] ?_;refine AG ?_;obtain ⟨v1,hv1,h⟩:=OB h
 let p3:Nat×AV:=(4,.v (.bool (decide (v1≥0))))
 refine AH (s1:=⟨Fr 9 [p3],[]⟩) ?_ ?_
 ·refine AD (n:=9) AC 2 [(5,.sl 5 (x0.map AA.enc)),(6,.fn 161 [] [.pe (AA.enc x1) 0])] [] kr ?_
  refine Ai (caps:=[]) (xs:=[.sl 5 (x0.map AA.enc),.fn 161 [] [.pe (AA.enc x1) 0]]) (u:=(x0,x1,())) rfl rfl DN rfl (AB rfl) kr kr (AU (Ao (c:=(cdL 5 AA)) (v:=x0)) (AU (Sm.fn (OX (Ao (c:=(cdP AA)) (v:=x1)))) Bf)) (.inl kr) hv1 ?_;exact AN AC
 refine AT ?_;have hq:=OI h; subst hq;exact ⟨⟨Fr 9 [p3],[]⟩,AO,.inr rfl,[.v (.bool (decide (v1≥0)))],kr,kr⟩
def C8:List AV->Option AV:=EA A1 (fun a=>AR a.1 a.2.1) A2
theorem C9:XOk 53 C8:=by
 refine AW Tryz.func53 (c:=Bj) ?h2 ⟨Tryz.call53⟩ A1 (fun a=>AR a.1 a.2.1) A2 (fun a=>(by show 2<=9; decide)) ?h3 ?h4
 case h2=>kernel_rfl
 case h3=>intro b; kernel_rfl
 case h4=>exact fun a b h=>Cq a.1 a.2.1 b h
/- trestle/court.check -/
noncomputable def IF:Code:=Bn Tryz.f128
def DV (x0:(List AE)) (x1:AE):Nat->Int->Option ((Unit) ⊕ (Int))
 | 0,_=>none
 | f + 1,c9 =>
  if (decide (c9 < (x1.2.2.2.1.length:Int)))=true then
  (idx x1.2.2.2.1 c9).bind fun v11 =>
  if (C7 0 c9 x1.2.2.2.1.length)=true then
  (Al ((x1.2.2.2.1.take c9.toNat).drop (0:Int).toNat) v11).bind fun v13 =>
  if v13=true then
  some (.inr 5)
  else
  DV x0 x1 f (wr .i64 (c9 + 1))
  else none
  else
  some (.inl ())
def Fb (x0:(List AE)) (x1:AE):Option (Int) :=
 (BV x1).bind fun v1 =>
 if (!v1)=true then
 some 30
 else
 (if (!(x1.2.1==[]))=true then (Fj x1.2.1).bind fun v3 =>
 if (!v3)=true then some true else (AS x1.2.2.2.1).bind fun v4 =>
 some v4 else (AS x1.2.2.2.1).bind fun v5 =>
 some v5).bind fun j7 =>
 if j7=true then
 some 4
 else
 (DV x0 x1 100000 0).bind fun r16 =>
 match r16 with
 | (.inl _w17) =>
  (if (x1.2.1==[])=true then some true else (AR x0 x1).bind fun v18 =>
  some v18).bind fun j20 =>
  if j20=true then
  some 0
  else
  some 31
 | (.inr w23) =>
  some w23
def IK:Cs ((List AE)×AE×Unit):=(csC (cdL 5 AA) (csC AA csN))
def IP (r:Int):AV:=cdI.enc r
theorem Ib (x0:(List AE)) (x1:AE):∀ (f:Nat) (c9:Int) (r:(Unit) ⊕ (Int)),DV x0 x1 f c9=some r->SemN E0 ⟨none,false⟩ (pc IF [1,1,1,0,1,0,0]) f ⟨Fr 47 [(0,.sl 5 (x0.map AA.enc)),(3,.pt 0 0 0),(25,.sl 1 (x1.2.2.2.1.map cdS.enc)),(26,.v (.int .i64 (x1.2.2.2.1.length:Int))),(27,.v (.int .i64 c9))],[some ⟨5,60,[AA.enc x1],false⟩]⟩ (fun e s=>match r with
 | (.inl _w)=>e=(.exit 0)/\Wk E0 s ⟨Fr 47 [(0,.sl 5 (x0.map AA.enc)),(3,.pt 0 0 0)],[some ⟨5,60,[AA.enc x1],false⟩]⟩
 | (.inr w)=>e = .ret/\Wk E0 s ⟨Fr 47 [(4,.v (.int .i64 w))],[]⟩):=by
 intro f;induction f with
 | zero=>intro c9 r h; cases h
 | succ f ih0 =>
  intro c9 r h
  have ih:=fun (c9:Int)=>ih0 c9 r
  unfold DV at h;refine B6 ?_
  let p1:Option Blk:=some ⟨5,60,[AA.enc x1],false⟩
  let p2:Nat×AV:=(27,.v (.int .i64 c9))
  let p3:Nat×AV:=(26,.v (.int .i64 (x1.2.2.2.1.length:Int)))
  let p4:Nat×AV:=(25,.sl 1 (x1.2.2.2.1.map cdS.enc))
  let p5:Nat×AV:=(3,.pt 0 0 0)
  let p6:Nat×AV:=(0,.sl 5 (x0.map AA.enc))
  refine AJ AC [p6,p5,p4,p3,p2,(28,.v (.bool (decide (c9 < (x1.2.2.2.1.length:Int)))))] [p1] ?_;refine AG ?_;refine AM (b:=(decide (c9 < (x1.2.2.2.1.length:Int)))) kr (fun hb10=>?_) (fun hb10=>?_)
  ·rw [if_pos hb10] at h
   refine AP ?_;refine AG ?_;refine Aj ?_;refine AG ?_;obtain ⟨v11,hv11,h⟩:=OB h;refine AH (s1:=⟨Fr 47 [p6,p5,(5,.v (.int .i64 c9)),(6,.st v11),p4,p3,p2],[p1]⟩) ?_ ?_
   ·refine AD (n:=47) AC 1 [p6,p5,p4,p3,p2,(29,.v (.int .i64 c9))] [p1] kr ?_
    refine AK AC 0 rfl (CZ (AB rfl) rfl (AQ (a:= .sl 1 (x1.2.2.2.1.map cdS.enc)) (b:= .v (.int .i64 c9)) kr kr (GW (e:=cdS.enc) (el:=9) (k:=1) (ki:= .i64) kr kr hv11))) ?_;exact AN AC
   refine AG ?_;by_cases hk12:(C7 0 c9 x1.2.2.2.1.length)=true
   case neg=>rw [if_neg hk12] at h; cases h
   rw [if_pos hk12] at h;obtain ⟨v13,hv13,h⟩:=OB h;refine AH (s1:=⟨Fr 47 [p6,p5,p4,p3,p2,(37,.v (.bool v13))],[p1]⟩) ?_ ?_
   ·refine AD (n:=47) AC 3 [p6,p5,(6,.st v11),p4,p3,p2,(33,.sl 1 (x1.2.2.2.1.map cdS.enc)),(34,.v (.int .i64 c9))] [p1] kr ?_
    refine AK AC 0 rfl (CZ (AB rfl) rfl (Eb (a:= .sl 1 (x1.2.2.2.1.map cdS.enc)) (l:=none) (u:=(some (.v (.int .i64 c9)))) (m:=none) kr kr kr rfl (I4 (xs:=x1.2.2.2.1) (e:=cdS.enc) (k:=1) (el:=9) (lo:=0) (hi:=c9) kr kr rfl (GN (JN hk12)) hk12))) ?_;refine AD (n:=47) AC 1 [p6,p5,p4,p3,p2,(35,.sl 1 (((x1.2.2.2.1.take c9.toNat).drop (0:Int).toNat).map cdS.enc)),(36,.st v11)] [p1] kr ?_;refine Ai (caps:=[]) (xs:=[.sl 1 (((x1.2.2.2.1.take c9.toNat).drop (0:Int).toNat).map cdS.enc),.st v11]) (u:=(((x1.2.2.2.1.take c9.toNat).drop (0:Int).toNat),v11,())) rfl rfl CJ rfl (AB rfl) kr kr (AU (Ao (c:=(cdL 1 cdS)) (v:=((x1.2.2.2.1.take c9.toNat).drop (0:Int).toNat))) (AU (Ao (c:=cdS) (v:=v11)) Bf)) (.inl kr) hv13 ?_;exact AL rfl (AZ [0] ⟨⟨_,rfl,Cn⟩,trivial⟩ ⟨lv,lv,lv,lv,lv,lv,trivial⟩)
   refine AM (b:=v13) kr (fun hb14=>?_) (fun hb14=>?_)
   ·rw [if_pos hb14] at h
    refine AG ?_;refine AH (s1:=⟨Fr 47 [(4,.v (.int .i64 5))],[]⟩) ?_ ?_
    ·refine AD (n:=47) AC 1 [(4,.v (.int .i64 5))] [p1] kr ?_
     exact AL rfl (AZ [] trivial ⟨lv,trivial⟩)
    refine AT ?_;have hq:=OI h; subst hq;exact ⟨rfl,AO⟩
   ·rw [CK hb14] at h
    refine AP ?_
    let p7:Nat×AV:=(27,.v (.int .i64 (wr .i64 (c9 + 1))))
    refine DD AC [p6,p5,p4,p3,p7] [p1] ?_;exact Aw (s1:=⟨Fr 47 [p6,p5,p4,p3,p7],[p1]⟩) (AZ [0] ⟨⟨_,rfl,Cn⟩,trivial⟩ ⟨lv,lv,lv,lv,lv,trivial⟩) (ih (wr .i64 (c9 + 1)) h)
  ·rw [CK hb10] at h
   refine Cc ?_;have hq:=OI h; subst hq;exact ⟨rfl,(AZ [0] ⟨⟨_,rfl,Cn⟩,trivial⟩ ⟨lv,lv,trivial⟩)⟩
theorem Mo (x0:(List AE)) (x1:AE) (r:Int) (h:Fb x0 x1=some r):Sem E0 ⟨none,false⟩ IF ⟨Fr 47 (BK 0 (IK.enc (x0,x1,()))),[]⟩ fun e s'=>(e = .normal\/e = .ret)/\∃ xs,Ej E0.P s'.fr s'.hp Tryz.f128.results.toList=some xs/\Eu xs=IP r:=by
 unfold Fb at h;refine A3 (Bo (s1:=⟨Fr 47 [(0,.sl 5 (x0.map AA.enc)),(1,AA.enc x1)],[]⟩) AO ?_);refine AJ AC [(0,.sl 5 (x0.map AA.enc)),(3,.pt 0 0 0)] [some ⟨5,60,[AA.enc x1],false⟩] ?_;refine AG ?_;refine AG ?_;obtain ⟨v1,hv1,h⟩:=OB h;refine AH (s1:=⟨Fr 47 [(0,.sl 5 (x0.map AA.enc)),(3,.pt 0 0 0),(9,.v (.bool (!v1)))],[some ⟨5,60,[AA.enc x1],false⟩]⟩) ?_ ?_
 ·refine AD (n:=47) AC 1 [(0,.sl 5 (x0.map AA.enc)),(3,.pt 0 0 0),(7,AA.enc x1)] [some ⟨5,60,[AA.enc x1],false⟩] kr ?_
  refine Ai (caps:=[]) (xs:=[AA.enc x1]) (u:=(x1,())) rfl rfl N3 rfl (AB rfl) kr kr (AU (Ao (c:=AA) (v:=x1)) Bf) (.inl kr) hv1 ?_;exact AN AC
 refine AM (b:=(!v1)) kr (fun hb2=>?_) (fun hb2=>?_)
 ·rw [if_pos hb2] at h
  refine AG ?_;refine AH (s1:=⟨Fr 47 [(4,.v (.int .i64 30))],[]⟩) ?_ ?_
  ·refine AD (n:=47) AC 1 [(4,.v (.int .i64 30))] [some ⟨5,60,[AA.enc x1],false⟩] kr ?_
   exact AL rfl (AZ [] trivial ⟨lv,trivial⟩)
  refine AT ?_;have hq:=OI h; subst hq;exact ⟨⟨Fr 47 [(4,.v (.int .i64 30))],[]⟩,AO,.inr rfl,[.v (.int .i64 30)],kr,kr⟩
 ·rw [CK hb2] at h
  refine AP ?_;refine AG ?_;refine AG ?_;obtain ⟨j7,hj7,h⟩:=OB h;refine AH (s1:=⟨Fr 47 [(0,.sl 5 (x0.map AA.enc)),(3,.pt 0 0 0),(23,.v (.bool j7))],[some ⟨5,60,[AA.enc x1],false⟩]⟩) ?_ ?_
  ·refine AD (n:=47) AC 4 [(0,.sl 5 (x0.map AA.enc)),(3,.pt 0 0 0),(13,.v (.bool (!(x1.2.1==[]))))] [some ⟨5,60,[AA.enc x1],false⟩] kr ?_
   rcases BE (!(x1.2.1==[])) with hc24 | hc24
   ·rw [if_pos hc24] at hj7
    rw [hc24];refine AD (n:=47) AC 2 [(0,.sl 5 (x0.map AA.enc)),(3,.pt 0 0 0),(13,.v (.bool true)),(15,.st x1.2.1)] [some ⟨5,60,[AA.enc x1],false⟩] kr ?_;obtain ⟨v3,hv3,hj7⟩:=OB hj7;refine Ai (caps:=[]) (xs:=[.st x1.2.1]) (u:=(x1.2.1,())) rfl rfl MA rfl kr kr kr (AU (Ao (c:=cdS) (v:=x1.2.1)) Bf) (.inl kr) hv3 ?_;refine AD (n:=47) AC 3 [(0,.sl 5 (x0.map AA.enc)),(3,.pt 0 0 0),(19,.v (.bool (!v3)))] [some ⟨5,60,[AA.enc x1],false⟩] kr ?_;rcases BE (!v3) with hc25 | hc25
    ·rw [if_pos hc25] at hj7
     rw [hc25];refine AD (n:=47) AC 4 [(0,.sl 5 (x0.map AA.enc)),(3,.pt 0 0 0),(23,.v (.bool true))] [some ⟨5,60,[AA.enc x1],false⟩] kr ?_;have hq:=OI hj7; subst hq;exact AL rfl (AZ [0] ⟨⟨_,rfl,Cn⟩,trivial⟩ ⟨lv,lv,lv,trivial⟩)
    ·rw [CK hc25] at hj7
     rw [hc25];refine AD (n:=47) AC 2 [(0,.sl 5 (x0.map AA.enc)),(3,.pt 0 0 0),(19,.v (.bool false)),(21,.sl 1 (x1.2.2.2.1.map cdS.enc))] [some ⟨5,60,[AA.enc x1],false⟩] kr ?_;obtain ⟨v4,hv4,hj7⟩:=OB hj7;refine Ai (caps:=[]) (xs:=[.sl 1 (x1.2.2.2.1.map cdS.enc),.fn 160 [] []]) (u:=(x1.2.2.2.1,(),())) rfl rfl CI rfl kr kr kr (AU (Ao (c:=(cdL 1 cdS)) (v:=x1.2.2.2.1)) (AU (Sm.fn Bf) Bf)) (.inl kr) hv4 ?_;refine AD (n:=47) AC 1 [(0,.sl 5 (x0.map AA.enc)),(3,.pt 0 0 0),(23,.v (.bool v4))] [some ⟨5,60,[AA.enc x1],false⟩] kr ?_;have hq:=OI hj7; subst hq;exact AL rfl (AZ [0] ⟨⟨_,rfl,Cn⟩,trivial⟩ ⟨lv,lv,lv,trivial⟩)
   ·rw [CK hc24] at hj7
    rw [hc24];refine AD (n:=47) AC 8 [(0,.sl 5 (x0.map AA.enc)),(3,.pt 0 0 0),(19,.v (.bool false)),(21,.sl 1 (x1.2.2.2.1.map cdS.enc))] [some ⟨5,60,[AA.enc x1],false⟩] kr ?_;obtain ⟨v5,hv5,hj7⟩:=OB hj7;refine Ai (caps:=[]) (xs:=[.sl 1 (x1.2.2.2.1.map cdS.enc),.fn 160 [] []]) (u:=(x1.2.2.2.1,(),())) rfl rfl CI rfl kr kr kr (AU (Ao (c:=(cdL 1 cdS)) (v:=x1.2.2.2.1)) (AU (Sm.fn Bf) Bf)) (.inl kr) hv5 ?_;refine AD (n:=47) AC 1 [(0,.sl 5 (x0.map AA.enc)),(3,.pt 0 0 0),(23,.v (.bool v5))] [some ⟨5,60,[AA.enc x1],false⟩] kr ?_;have hq:=OI hj7; subst hq;exact AL rfl (AZ [0] ⟨⟨_,rfl,Cn⟩,trivial⟩ ⟨lv,lv,lv,trivial⟩)
  refine AM (b:=j7) kr (fun hb8=>?_) (fun hb8=>?_)
  ·rw [if_pos hb8] at h
   refine AG ?_;refine AH (s1:=⟨Fr 47 [(4,.v (.int .i64 4))],[]⟩) ?_ ?_
   ·refine AD (n:=47) AC 1 [(4,.v (.int .i64 4))] [some ⟨5,60,[AA.enc x1],false⟩] kr ?_
    exact AL rfl (AZ [] trivial ⟨lv,trivial⟩)
   refine AT ?_;have hq:=OI h; subst hq;exact ⟨⟨Fr 47 [(4,.v (.int .i64 4))],[]⟩,AO,.inr rfl,[.v (.int .i64 4)],kr,kr⟩
  ·rw [CK hb8] at h
   refine AP ?_;refine AG ?_;refine AG ?_;refine AH (s1:=⟨Fr 47 [(0,.sl 5 (x0.map AA.enc)),(3,.pt 0 0 0),(25,.sl 1 (x1.2.2.2.1.map cdS.enc)),(26,.v (.int .i64 (x1.2.2.2.1.length:Int))),(27,.v (.int .i64 0))],[some ⟨5,60,[AA.enc x1],false⟩]⟩) ?_ ?_
   ·refine AD (n:=47) AC 2 [(0,.sl 5 (x0.map AA.enc)),(3,.pt 0 0 0),(25,.sl 1 (x1.2.2.2.1.map cdS.enc))] [some ⟨5,60,[AA.enc x1],false⟩] kr ?_
    refine AK AC 0 rfl (CZ (AB rfl) rfl (DS (a:= .sl 1 (x1.2.2.2.1.map cdS.enc)) kr (B4 (el:=9) kr))) ?_;exact AN AC
   refine Aj ?_;obtain ⟨r16,hr16,h⟩:=OB h;refine Ch (n:=100000) ?_;rcases r16 with w17 | w23
   ·try dsimp only at h
    refine BQ (Aw (s1:=⟨Fr 47 [(0,.sl 5 (x0.map AA.enc)),(3,.pt 0 0 0),(25,.sl 1 (x1.2.2.2.1.map cdS.enc)),(26,.v (.int .i64 (x1.2.2.2.1.length:Int))),(27,.v (.int .i64 0))],[some ⟨5,60,[AA.enc x1],false⟩]⟩) (AZ [0] ⟨⟨_,rfl,Cn⟩,trivial⟩ ⟨lv,lv,lv,lv,lv,trivial⟩) (Ib x0 x1 _ 0 _ hr16)) ?_;refine AG ?_;refine AG ?_;obtain ⟨j20,hj20,h⟩:=OB h;refine AH (s1:=⟨Fr 47 [(46,.v (.bool j20))],[]⟩) ?_ ?_
    ·refine AD (n:=47) AC 4 [(0,.sl 5 (x0.map AA.enc)),(3,.pt 0 0 0),(42,.v (.bool (x1.2.1==[])))] [some ⟨5,60,[AA.enc x1],false⟩] kr ?_
     rcases BE (x1.2.1==[]) with hc22 | hc22
     ·rw [if_pos hc22] at hj20
      rw [hc22];refine AD (n:=47) AC 4 [(46,.v (.bool true))] [some ⟨5,60,[AA.enc x1],false⟩] kr ?_;have hq:=OI hj20; subst hq;exact AL rfl (AZ [] trivial ⟨lv,trivial⟩)
     ·rw [CK hc22] at hj20
      rw [hc22];refine AD (n:=47) AC 2 [(42,.v (.bool false)),(43,.sl 5 (x0.map AA.enc)),(44,.fn 161 [] [.pt 0 0 0])] [some ⟨5,60,[AA.enc x1],false⟩] kr ?_;obtain ⟨v18,hv18,hj20⟩:=OB hj20;refine Ai (caps:=[]) (xs:=[.sl 5 (x0.map AA.enc),.fn 161 [] [.pt 0 0 0]]) (u:=(x0,x1,())) rfl rfl C9 rfl kr kr kr (AU (Ao (c:=(cdL 5 AA)) (v:=x0)) (AU (Sm.fn (OX (Sm.pt (k:=5) (t:=60) (fz:=false) (y:=(AA.enc x1)) kr (Ao (c:=AA) (v:=x1))))) Bf)) (.inl kr) hv18 ?_;refine AD (n:=47) AC 1 [(46,.v (.bool v18))] [some ⟨5,60,[AA.enc x1],false⟩] kr ?_;have hq:=OI hj20; subst hq;exact AL rfl (AZ [] trivial ⟨lv,trivial⟩)
    refine AM (b:=j20) kr (fun hb21=>?_) (fun hb21=>?_)
    ·rw [if_pos hb21] at h
     refine AJ AC [(4,.v (.int .i64 0))] [] ?_;refine AT ?_;have hq:=OI h; subst hq;exact ⟨⟨Fr 47 [(4,.v (.int .i64 0))],[]⟩,AO,.inr rfl,[.v (.int .i64 0)],kr,kr⟩
    ·rw [CK hb21] at h
     refine AP ?_;refine AJ AC [(4,.v (.int .i64 31))] [] ?_;refine AT ?_;have hq:=OI h; subst hq;exact ⟨⟨Fr 47 [(4,.v (.int .i64 31))],[]⟩,AO,.inr rfl,[.v (.int .i64 31)],kr,kr⟩
   ·try dsimp only at h
    refine BQ (Aw (s1:=⟨Fr 47 [(0,.sl 5 (x0.map AA.enc)),(3,.pt 0 0 0),(25,.sl 1 (x1.2.2.2.1.map cdS.enc)),(26,.v (.int .i64 (x1.2.2.2.1.length:Int))),(27,.v (.int .i64 0))],[some ⟨5,60,[AA.enc x1],false⟩]⟩) (AZ [0] ⟨⟨_,rfl,Cn⟩,trivial⟩ ⟨lv,lv,lv,lv,lv,trivial⟩) (Ib x0 x1 _ 0 _ hr16)) ?_;have hq:=OI h; subst hq;exact ⟨⟨Fr 47 [(4,.v (.int .i64 w23))],[]⟩,AO,.inr rfl,[.v (.int .i64 w23)],kr,kr⟩
def O3:List AV->Option AV:=EA IK (fun a=>Fb a.1 a.2.1) IP
theorem PB:XOk 128 O3:=by
 refine AW Tryz.func128 (c:=IF) ?h2 ⟨Tryz.call128⟩ IK (fun a=>Fb a.1 a.2.1) IP (fun a=>(by show 2<=47; decide)) ?h3 ?h4
 case h2=>kernel_rfl
 case h3=>intro b; kernel_rfl
 case h4=>exact fun a b h=>Mo a.1 a.2.1 b h
/- trestle/court.Check -/
noncomputable def IE:Code:=Bn Tryz.f80
def DU (x0:(List AE)):Nat->Int->Option ((Unit) ⊕ (Int×Int))
 | 0,_=>none
 | f + 1,c2 =>
  if (decide (c2 < (x0.length:Int)))=true then
  (idx x0 c2).bind fun v4 =>
  if (C7 0 c2 x0.length)=true then
  (Fb ((x0.take c2.toNat).drop (0:Int).toNat) v4).bind fun v6 =>
  if (v6 != 0)=true then
  some (.inr (c2,v6))
  else
  DU x0 f (wr .i64 (c2 + 1))
  else none
  else
  some (.inl ())
def El (x0:(List AE)):Option (Int×Int) :=
 if (decide ((x0.length:Int) > 32))=true then
 some (0,7)
 else
 (DU x0 100000 0).bind fun r10 =>
 match r10 with
 | (.inl _w11) =>
  some (0,0)
 | (.inr w12) =>
  some (w12.1,w12.2)
def IJ:Cs ((List AE)×Unit):=(csC (cdL 5 AA) csN)
def IN (r:Int×Int):AV:= .tp [cdI.enc r.1,cdI.enc r.2]
theorem Ia (x0:(List AE)):∀ (f:Nat) (c2:Int) (r:(Unit) ⊕ (Int×Int)),DU x0 f c2=some r->SemN E0 ⟨none,false⟩ (pc IE [1,1,0,1,0,0]) f ⟨Fr 27 [(0,.sl 5 (x0.map AA.enc)),(10,.sl 5 (x0.map AA.enc)),(11,.v (.int .i64 (x0.length:Int))),(12,.v (.int .i64 c2))],[]⟩ (fun e s=>match r with
 | (.inl _w)=>e=(.exit 0)/\Wk E0 s ⟨Fr 27 [],[]⟩
 | (.inr w)=>e = .ret/\Wk E0 s ⟨Fr 27 [(2,.v (.int .i64 w.1)),(3,.v (.int .i64 w.2))],[]⟩):=by
 intro f;induction f with
 | zero=>intro c2 r h; cases h
 | succ f ih0 =>
  intro c2 r h
  have ih:=fun (c2:Int)=>ih0 c2 r
  unfold DU at h;refine B6 ?_
  let p1:Nat×AV:=(12,.v (.int .i64 c2))
  let p2:Nat×AV:=(11,.v (.int .i64 (x0.length:Int)))
  let p3:Nat×AV:=(10,.sl 5 (x0.map AA.enc))
  let p4:Nat×AV:=(0,.sl 5 (x0.map AA.enc))
  refine AJ AC [p4,p3,p2,p1,(13,.v (.bool (decide (c2 < (x0.length:Int)))))] [] ?_;refine AG ?_;refine AM (b:=(decide (c2 < (x0.length:Int)))) kr (fun hb3=>?_) (fun hb3=>?_)
  ·rw [if_pos hb3] at h
   refine AP ?_;refine AG ?_;refine Aj ?_;refine AG ?_;obtain ⟨v4,hv4,h⟩:=OB h
   let p5:Option Blk:=some ⟨5,60,[AA.enc v4],false⟩
   let p6:Nat×AV:=(4,.v (.int .i64 c2))
   refine AH (s1:=⟨Fr 27 [p4,p6,(5,.pt 0 0 0),p3,p2,p1],[p5]⟩) ?_ ?_
   ·refine AD (n:=27) AC 1 [p4,p3,p2,p1,(14,.v (.int .i64 c2))] [] kr ?_
    refine AK AC 0 rfl (CZ (AB rfl) rfl (AQ (a:= .sl 5 (x0.map AA.enc)) (b:= .v (.int .i64 c2)) kr kr (GW (e:=AA.enc) (el:=60) (k:=5) (ki:= .i64) kr kr hv4))) ?_;exact AN AC
   refine AG ?_;by_cases hk5:(C7 0 c2 x0.length)=true
   case neg=>rw [if_neg hk5] at h; cases h
   rw [if_pos hk5] at h;obtain ⟨v6,hv6,h⟩:=OB h
   let p7:Nat×AV:=(6,.v (.int .i64 v6))
   refine FN AC (s1:=⟨Fr 27 [p4,p6,p7,p3,p2,p1],[]⟩) kr ?_ ?_
   ·refine BR (n:=27) AC 2 [p4,p6,(5,.pt 0 0 0),p3,p2,p1,(17,.sl 5 (x0.map AA.enc)),(18,.v (.int .i64 c2))] [p5] kr kr ?_
    refine RunDS.one AC rfl kr (Vp kr (AB rfl) rfl (Eb (a:= .sl 5 (x0.map AA.enc)) (l:=none) (u:=(some (.v (.int .i64 c2)))) (m:=none) kr kr kr rfl (I4 (xs:=x0) (e:=AA.enc) (k:=5) (el:=60) (lo:=0) (hi:=c2) kr kr rfl (GN (JN hk5)) hk5)) kr) ?_;refine BR (n:=27) AC 1 [p4,p6,p3,p2,p1,(19,.sl 5 (((x0.take c2.toNat).drop (0:Int).toNat).map AA.enc)),(20,AA.enc v4)] [p5] kr kr ?_;refine B5 (caps:=[]) (xs:=[.sl 5 (((x0.take c2.toNat).drop (0:Int).toNat).map AA.enc),AA.enc v4]) (u:=(((x0.take c2.toNat).drop (0:Int).toNat),v4,())) rfl rfl PB rfl (AB rfl) kr kr (AU (Ao (c:=(cdL 5 AA)) (v:=((x0.take c2.toNat).drop (0:Int).toNat))) (AU (Ao (c:=AA) (v:=v4)) Bf)) kr hv6 ?_;refine BR (n:=27) AC 1 [p4,p6,p7,p3,p2,p1] [p5] kr kr ?_;exact RunDS.done rfl (AZ [] trivial ⟨lv,lv,lv,lv,lv,lv,trivial⟩)
   refine AJ AC [p4,p6,p7,p3,p2,p1,(23,.v (.bool (v6 != 0)))] [] ?_;refine AM (b:=(v6 != 0)) kr (fun hb7=>?_) (fun hb7=>?_)
   ·rw [if_pos hb7] at h
    refine AJ AC [(2,.v (.int .i64 c2)),(3,.v (.int .i64 v6))] [] ?_;refine AT ?_;have hq:=OI h; subst hq;exact ⟨rfl,AO⟩
   ·rw [CK hb7] at h
    refine AP ?_
    let p8:Nat×AV:=(12,.v (.int .i64 (wr .i64 (c2 + 1))))
    refine DD AC [p4,p3,p2,p8] [] ?_;exact Aw (s1:=⟨Fr 27 [p4,p3,p2,p8],[]⟩) AO (ih (wr .i64 (c2 + 1)) h)
  ·rw [CK hb3] at h
   refine Cc ?_;have hq:=OI h; subst hq;exact ⟨rfl,AO⟩
theorem Mn (x0:(List AE)) (r:Int×Int) (h:El x0=some r):Sem E0 ⟨none,false⟩ IE ⟨Fr 27 (BK 0 (IJ.enc (x0,()))),[]⟩ fun e s'=>(e = .normal\/e = .ret)/\∃ xs,Ej E0.P s'.fr s'.hp Tryz.f80.results.toList=some xs/\Eu xs=IN r:=by
 unfold El at h
 let p1:Nat×AV:=(0,.sl 5 (x0.map AA.enc))
 refine A3 (Bo (s1:=⟨Fr 27 [p1],[]⟩) AO ?_);refine AJ AC [p1] [] ?_;refine AG ?_;refine AG ?_;refine AH (s1:=⟨Fr 27 [p1,(9,.v (.bool (decide ((x0.length:Int) > 32))))],[]⟩) ?_ ?_
 ·refine AD (n:=27) AC 1 [p1,(7,.sl 5 (x0.map AA.enc))] [] kr ?_
  refine AK AC 0 rfl (CZ (AB rfl) rfl (DS (a:= .sl 5 (x0.map AA.enc)) kr (B4 (el:=60) kr))) ?_;exact AN AC
 refine AM (b:=(decide ((x0.length:Int) > 32))) kr (fun hb1=>?_) (fun hb1=>?_)
 ·rw [if_pos hb1] at h
  refine AJ AC [(2,.v (.int .i64 0)),(3,.v (.int .i64 7))] [] ?_;refine AT ?_;have hq:=OI h; subst hq;exact ⟨⟨Fr 27 [(2,.v (.int .i64 0)),(3,.v (.int .i64 7))],[]⟩,AO,.inr rfl,[.v (.int .i64 0),.v (.int .i64 7)],kr,kr⟩
 ·rw [CK hb1] at h
  refine AP ?_;refine AG ?_;refine AG ?_
  let p2:Nat×AV:=(12,.v (.int .i64 0))
  let p3:Nat×AV:=(11,.v (.int .i64 (x0.length:Int)))
  let p4:Nat×AV:=(10,.sl 5 (x0.map AA.enc))
  refine AH (s1:=⟨Fr 27 [p1,p4,p3,p2],[]⟩) ?_ ?_
  ·refine AD (n:=27) AC 1 [p1,p4] [] kr ?_
   refine AK AC 0 rfl (CZ (AB rfl) rfl (DS (a:= .sl 5 (x0.map AA.enc)) kr (B4 (el:=60) kr))) ?_;exact AN AC
  refine Aj ?_;obtain ⟨r10,hr10,h⟩:=OB h;refine Ch (n:=100000) ?_;rcases r10 with w11 | w12
  ·try dsimp only at h
   refine BQ (Aw (s1:=⟨Fr 27 [p1,p4,p3,p2],[]⟩) AO (Ia x0 _ 0 _ hr10)) ?_;refine AJ AC [(2,.v (.int .i64 0)),(3,.v (.int .i64 0))] [] ?_;refine AT ?_;have hq:=OI h; subst hq;exact ⟨⟨Fr 27 [(2,.v (.int .i64 0)),(3,.v (.int .i64 0))],[]⟩,AO,.inr rfl,[.v (.int .i64 0),.v (.int .i64 0)],kr,kr⟩
  ·try dsimp only at h
   refine BQ (Aw (s1:=⟨Fr 27 [p1,p4,p3,p2],[]⟩) AO (Ia x0 _ 0 _ hr10)) ?_;have hq:=OI h; subst hq;exact ⟨⟨Fr 27 [(2,.v (.int .i64 w12.1)),(3,.v (.int .i64 w12.2))],[]⟩,AO,.inr rfl,[.v (.int .i64 w12.1),.v (.int .i64 w12.2)],kr,kr⟩
def O2:List AV->Option AV:=EA IJ (fun a=>El a.1) IN
theorem LF:XOk 80 O2:=by
 refine AW Tryz.func80 (c:=IE) ?h2 ⟨Tryz.call80⟩ IJ (fun a=>El a.1) IN (fun a=>(by show 1<=27; decide)) ?h3 ?h4
 case h2=>kernel_rfl
 case h3=>intro b; kernel_rfl
 case h4=>exact fun a b h=>Mn a.1 b h
theorem Ov {R:List RI}{c:Nat}:¬ own R [] c:=fun ⟨b,B,_,hb,_⟩=>by simp at hb
/-- What a call hands back, seen as frozen. -/
def Ry (h:Hp):AV->Option AV
 | .tp l=>(Nm (Fo h 12) l).map .tp
 | x=>Fo h 12 x
theorem UU {w:World}{Z:Nat->Prop}{R:List RI}{h:Hp}{x y:AV}{v:Value}(hh:HR w Z R h) (hv:VR w Z R x v) (e:Ry h x=some y):VR w (fun c=>Z c\/own R h c) [] y v:=by
 unfold Ry at e
 split at e
 ·obtain ⟨ys,h1,rfl⟩:=Option.map_eq_some_iff.1 e
  cases hv with
  | tp hl hx =>
   have:=allV_vr (LD hh 12) ⟨hl,hx⟩ h1
   exact .tp this.len this.at_
 ·exact LD hh 12 _ _ _ hv e
theorem frz_ret {E:Env}{f:FuncId}{w:World}{Z:Nat->Prop}{us:List Value}{x y:AV}{h':Hp}(hr:PE E f us w Z [] [] x h') (hv:Ry h' x=some y) :
  Ret E.P f us.toArray w fun v w'=>w.grownBy w' none/\VR w' (fun c=>Z c\/(w.heap.size<=c/\c < w'.heap.size)) [] y v:=by
 refine Ret.mono hr fun v w' hS=>?_
 obtain ⟨Z',R',k1,k2,k3⟩:=hS
 refine ⟨⟨k3.os,k3.tape,k3.output,k3.size,fun c hc _=>k3.block c hc Ov⟩,(UU k1 k2 hv).mono (fun _ _=>rfl) (fun c hc=>?_) (fun _ _ h=>h)⟩
 rcases hc with hc | hc
 ·rcases k3.z' c hc with h1 | h1 | h1
  ·exact .inl h1
  ·exact absurd h1 Ov
  ·exact .inr ⟨h1,k1.zlt c hc⟩
 ·rcases k3.own_ c hc with h1 | h1
  ·exact absurd h1 Ov
  ·obtain ⟨b,B,r,h2,_,h3,rfl⟩:=hc
   exact .inr ⟨h1,k1.rltL h2 h3⟩
theorem hr_nil {w:World}{Z:Nat->Prop}(hz:∀ c,Z c->c < w.heap.size):HR w Z [] []:=⟨rfl,fun b B hB=>by simp at hB,fun b b' B B' r r' hB=>by simp at hB,hz⟩
/-- A closed call is told by what the interpreter finds. -/
theorem SJ {E:Env}(hE:EnvOk E){f:FuncId}{g:List AV->Option AV}(hc:Bg E.P f) (hg:∀ xs y,g xs=some y->∃ n x h',Id E (evC E n) none f xs []=some (x,h')/\Ry h' x=some y):EnvOk (E.withX f g):=by
 refine hE.withX hc fun xs y h w Z us hz hgi hv=>?_
 obtain ⟨n,x,h',he,hvw⟩:=hg xs y h
 exact frz_ret (enter_sound hE (code_sound hE n).1 he (hr_nil hz) hv hgi (fun y hy=>by cases hy)) hvw
/-- What a closed call hands back, frozen. -/
def BT (E:Env) (n:Nat) (f:FuncId) (args:List AV):Option AV:=match Id E (evC E n) none f args [] with
 | some (x,h')=>Ry h' x
 | none=>none
/-- The same values? -/
def kB:IntKind->IntKind->Bool
 | .i64,.i64=>true
 | .u8,.u8=>true
 | _,_=>false
def vB:Value->Value->Bool
 | .int k a,.int k' b=>kB k k'&&a==b
 | .bool a,.bool b=>a==b
 | .pointer none,.pointer none=>true
 | _,_=>false
def bsB:List UInt8->List UInt8->Bool
 | [],[]=>true
 | a::l,b::r=>Nat.beq a.toNat b.toNat&&bsB l r
 | _,_=>false
def TS (g:AV->AV->Bool):List AV->List AV->Bool
 | [],[]=>true
 | a::l,b::r=>g a b&&TS g l r
 | _,_=>false
def Ta:Nat->AV->AV->Bool
 | 0,_,_=>false
 | n + 1,x,y=>match x,y with
  | .v a,.v b=>vB a b
  | .st a,.st b=>bsB a b
  | .e0,.e0=>true
  | .sl k a,.sl k' b=>Nat.beq k k'&&TS (Ta n) a b
  | .pe a o,.pe b o'=>Nat.beq o o'&&Ta n a b
  | .ag a,.ag b=>TS (Ta n) a b
  | .tp a,.tp b=>TS (Ta n) a b
  | .fn f a b,.fn f' a' b'=>Nat.beq f f'&&(TS (Ta n) a a'&&TS (Ta n) b b')
  | _,_=>false
theorem YS {a b:IntKind}(h:kB a b=true):a=b:=by
 unfold kB at h
 split at h
 ·rfl
 ·rfl
 ·cases h
theorem Ya {a b:Value}(h:vB a b=true):a=b:=by
 unfold vB at h
 split at h
 ·rw [Bool.and_eq_true] at h
  rw [YS h.1,eq_of_beq h.2]
 ·rw [eq_of_beq h]
 ·rfl
 ·cases h
theorem Ub:∀ {a b:List UInt8},bsB a b=true->a=b
 | [],[],_=>rfl
 | x::l,y::r,h=>by
  unfold bsB at h
  rw [Bool.and_eq_true] at h
  rw [UInt8.toNat_inj.1 (Nat.eq_of_beq_eq_true h.1),Ub h.2]
 | [],_::_,h=>by cases h
 | _::_,[],h=>by cases h
theorem Jn {g:AV->AV->Bool}(hg:∀ x y,g x y=true->x=y):∀ {a b:List AV},TS g a b=true->a=b
 | [],[],_=>rfl
 | x::l,y::r,h=>by
  unfold TS at h
  rw [Bool.and_eq_true] at h
  rw [hg _ _ h.1,Jn hg h.2]
 | [],_::_,h=>by cases h
 | _::_,[],h=>by cases h
theorem QE:∀ (n:Nat) (x y:AV),Ta n x y=true->x=y
 | 0,_,_,h=>by cases h
 | n + 1,x,y,h=>by
  have ih:=QE n
  unfold Ta at h
  split at h
  ·rw [Ya h]
  ·rw [Ub h]
  ·rfl
  ·rw [Bool.and_eq_true] at h
   rw [Nat.eq_of_beq_eq_true h.1,Jn ih h.2]
  ·rw [Bool.and_eq_true] at h
   rw [Nat.eq_of_beq_eq_true h.1,ih _ _ h.2]
  ·rw [Jn ih h]
  ·rw [Jn ih h]
  ·rw [Bool.and_eq_true,Bool.and_eq_true] at h
   rw [Nat.eq_of_beq_eq_true h.1,Jn ih h.2.1,Jn ih h.2.2]
  ·cases h
/-- A table. -/
def OQ:List (List AV×AV)->List AV->Option AV
 | [],_=>none
 | (a,r)::l,xs=>if TS (Ta 40) a xs=true then some r else OQ l xs
def Uv (E:Env) (f:FuncId):List (List AV×AV)->Prop
 | []=>True
 | (a,r)::l=>(∃ n,BT E n f a=some r)/\Uv E f l
theorem Up {E:Env}{f:FuncId}:∀ {l:List (List AV×AV)}{xs:List AV}{y:AV},Uv E f l->OQ l xs=some y->∃ n,BT E n f xs=some y
 | (a,r)::l,xs,y,h,e=>by
  unfold OQ at e
  split at e
  ·next hb =>
   injection e with e
   subst e
   rw [<-Jn (QE 40) hb]
   exact h.1
  ·exact Up h.2 e
theorem KZ {E:Env}(hE:EnvOk E){f:FuncId}{l:List (List AV×AV)}(hc:Bg E.P f) (h:Uv E f l):EnvOk (E.withX f (OQ l)):=by
 refine SJ hE hc fun xs y e=>?_
 obtain ⟨n,hn⟩:=Up h e
 unfold BT at hn
 split at hn
 ·next x h' he=>exact ⟨n,x,h',he,hn⟩
 ·cases hn
/-- Another contract, told by a table of its own values. -/
theorem V8 {E:Env}{f:FuncId}{g:List AV->Option AV}{l:List (List AV×AV)}(hE:EnvOk (E.withX f g)) (h:∀ p ∈ l,g p.1=some p.2):EnvOk (E.withX f (OQ l)):=by
 have hl:∀ {l:List (List AV×AV)} {xs:List AV} {y:AV},(∀ p ∈ l,g p.1=some p.2)->OQ l xs=some y->g xs=some y:=by
  intro l
  induction l with
  | nil=>intro xs y _ e; cases e
  | cons p l ih =>
   intro xs y h e
   obtain ⟨a,r⟩:=p
   unfold OQ at e
   split at e
   ·next hb =>
    injection e with e
    subst e
    rw [<-Jn (QE 40) hb]
    exact h (a,r) (by simp)
   ·exact ih (fun p hp=>h p (List.mem_cons_of_mem _ hp)) e
 refine ⟨hE.fn,hE.mixed,hE.I,fun k q hk=>?_⟩
 change (if k=f then some (OQ l) else E.X k)=some q at hk
 split at hk
 ·next hkf =>
  injection hk with hk
  subst hk hkf
  obtain ⟨h1,h2⟩:=hE.X k g (if_pos rfl)
  exact ⟨h1,fun xs x hx w Z us hz hg hv=>h2 xs x (hl h hx) w Z us hz hg hv⟩
 ·next hkf=>exact hE.X k q ((if_neg hkf).trans hk)
/-- What is told in one environment may be told in another of the same program. -/
theorem UV {E E':Env}{f:FuncId}{g:List AV->Option AV}(hE:EnvOk E) (h:EnvOk (E'.withX f g)) (hP:E'.P=E.P) (hG:E'.G=E.G):EnvOk (E.withX f g):=by
 obtain ⟨h1,h2⟩:=h.X f g (if_pos rfl)
 have e1:(E'.withX f g).P=E.P:=hP
 refine hE.withX (e1 ▸ h1) fun xs x hx w Z us hz hg hv=>?_
 have:=h2 xs x hx w Z us hz (fun q y hy=>hg q y (by rw [<-hG]; exact hy)) hv
 exact e1 ▸ this
/-- Lists that are told by one value. -/
noncomputable def csJ {α:Type}(e:α->List AV) (hi:∀ x y,e x=e y->x=y) (hn:∀ x,(e x).all DL=true):Cs α where
 enc:=e
 dec a:=open Classical in if h:∃ x,e x=a then some h.choose else none
 de x:=by
  have h:∃ y,e y=e x:=⟨x,rfl⟩
  rw [dif_pos h,hi _ _ h.choose_spec]
 vr:=fun {w Z a x u} hd hv=>by
  split at hd
  ·next h=>injection hd with hd; subst hd; rw [h.choose_spec]; exact hv
  ·cases hd
 nr:=hn
theorem OW {α:Type}{n:Nat}{h:Hp}{s:Cs α}{a:α}:Sl (n + 2) h s (s.enc a) a :=
 ⟨s.enc a,Jo fun y hy=>J3 (List.all_eq_true.1 (s.nr a) y hy) n,s.de a⟩
theorem Uc {α:Type}{c:Cd α}{x y:α}(h:c.enc x=c.enc y):x=y:=by
 have h1:=c.de x
 rw [h,c.de y] at h1
 exact (OI h1).symm
/-- The order of a clause without regard to Among. -/
def Kz (c:AE):AV :=
 if (c.1==1)=true then .fn 205 [] [.pe (.fn 178 [] [.pe (AA.enc c) 0]) 0] else
 if (c.1==2)=true then .fn 179 [] [.pe (AA.enc c) 0] else
 if (c.1==3)=true then .fn 179 [] [.pe (AA.enc c) 0] else
 if (c.1==4)=true then .fn 205 [] [.pe (.fn 206 [] [.pe (.fn 182 [] [.pe (AA.enc c) 0]) 0,.pe (AA.enc c) 0]) 0] else
 if (c.1==5)=true then .fn 205 [] [.pe (.fn 206 [] [.pe (.fn 183 [] []) 0,.pe (AA.enc c) 0]) 0] else
 if (c.1==6)=true then .fn 205 [] [.pe (.fn 206 [] [.pe (.fn 184 [] [.pe (AA.enc c) 0]) 0,.pe (AA.enc c) 0]) 0] else
 if (c.1==7)=true then .fn 205 [] [.pe (.fn 206 [] [.pe (.fn 186 [] [.pe (AA.enc c) 0]) 0,.pe (AA.enc c) 0]) 0] else
 if (c.1==8)=true then .fn 187 [] [] else
 if (c.1==10)=true then .fn 209 [] [.pe (.fn 208 [] []) 0,.pe (.fn 190 [] [.pe (AA.enc c) 0]) 0] else
 .fn 209 [] [.pe (.fn 208 [] []) 0,.pe (.fn 191 [] []) 0]
def H8 (c:AE):AV:= .fn 165 [] [.pe (AA.enc c) 0,.pe (Kz c) 0]
noncomputable def Cl:Cd AE:=cdJ H8 (fun x y h=>by
 unfold H8 at h
 injection h with _ _ h
 injection h with h
 injection h with h
 exact Uc h) (fun _=>rfl)
noncomputable def PN:Cs AE:=csJ (fun c=>[.pe (AA.enc c) 0,.pe (Kz c) 0]) (fun x y h=>by
 injection h with h
 injection h with h
 exact Uc h) (fun _=>rfl)
/-- A straight call, told by what the interpreter finds. -/
theorem Rz {f:FuncId}(hc:Bg E0.P f){α β:Type}(s:Cs α) (F:α->Option β) (er:β->AV) (h:∀ a b,F a=some b->∃ n,BT E0 n f (s.enc a)=some (er b)):XOk f (EA s F er):=by
 refine ⟨hc,fun xs y hy w Z us hz hg hv=>?_⟩
 obtain ⟨a,ha,hy⟩:=OB hy
 obtain ⟨b,hb,rfl⟩:=Option.map_eq_some_iff.1 hy
 obtain ⟨n,hn⟩:=h a b hb
 unfold BT at hn
 split at hn
 ·next x h' he=>exact frz_ret (enter_sound AC (code_sound AC n).1 he (hr_nil hz) (s.vr ha hv) hg (fun y hy=>by cases hy)) hn
 ·cases hn
def EV (x0:AE):Option AE:=if 1<=x0.1/\x0.1<=10 then some x0 else none
def Bh:Cs (AE×Unit):=csC AA csN
noncomputable def HL (r:AE):AV:=Cl.enc r
noncomputable def NL:List AV->Option AV:=EA Bh (fun a=>EV a.1) HL
section
variable (am:List UInt8) (la:Bool) (nm:List (List UInt8)) (m:Int)
theorem Vq:BT E0 300 133 (Bh.enc ((1,am,la,nm,m),()))=some (H8 (1,am,la,nm,m)):=by kernel_rfl
theorem Vr:BT E0 300 133 (Bh.enc ((2,am,la,nm,m),()))=some (H8 (2,am,la,nm,m)):=by kernel_rfl
theorem Vs:BT E0 300 133 (Bh.enc ((3,am,la,nm,m),()))=some (H8 (3,am,la,nm,m)):=by kernel_rfl
theorem Vt:BT E0 300 133 (Bh.enc ((4,am,la,nm,m),()))=some (H8 (4,am,la,nm,m)):=by kernel_rfl
theorem Vu:BT E0 300 133 (Bh.enc ((5,am,la,nm,m),()))=some (H8 (5,am,la,nm,m)):=by kernel_rfl
theorem Vv:BT E0 300 133 (Bh.enc ((6,am,la,nm,m),()))=some (H8 (6,am,la,nm,m)):=by kernel_rfl
theorem Vw:BT E0 300 133 (Bh.enc ((7,am,la,nm,m),()))=some (H8 (7,am,la,nm,m)):=by kernel_rfl
theorem Vx:BT E0 300 133 (Bh.enc ((8,am,la,nm,m),()))=some (H8 (8,am,la,nm,m)):=by kernel_rfl
theorem Vy:BT E0 300 133 (Bh.enc ((9,am,la,nm,m),()))=some (H8 (9,am,la,nm,m)):=by kernel_rfl
theorem T8:BT E0 300 133 (Bh.enc ((10,am,la,nm,m),()))=some (H8 (10,am,la,nm,m)):=by kernel_rfl
end
theorem Nc:XOk 133 NL:=by
 refine Rz ⟨Tryz.call133⟩ Bh (fun a=>EV a.1) HL fun a b h=>⟨300,?_⟩
 obtain ⟨⟨k,am,la,nm,m⟩,⟨⟩⟩:=a
 by_cases hk:1<=k/\k<=10
 ·have h1:some (k,am,la,nm,m)=some b:=(if_pos hk:EV (k,am,la,nm,m)=_).symm.trans h
  have h2:HL b=H8 (k,am,la,nm,m):=congrArg H8 (OI h1).symm
  rw [h2]
  clear h h1 h2
  have hk':k=1\/k=2\/k=3\/k=4\/k=5\/k=6\/k=7\/k=8\/k=9\/k=10:=by omega
  rcases hk' with rfl | rfl | rfl | rfl | rfl | rfl | rfl | rfl | rfl | rfl
  ·exact Vq am la nm m
  ·exact Vr am la nm m
  ·exact Vs am la nm m
  ·exact Vt am la nm m
  ·exact Vu am la nm m
  ·exact Vv am la nm m
  ·exact Vw am la nm m
  ·exact Vx am la nm m
  ·exact Vy am la nm m
  ·exact T8 am la nm m
 ·exact nomatch ((if_neg hk:EV (k,am,la,nm,m)=_).symm.trans h)
/- trestle/court.list -/
noncomputable def Im:Code:=Bn Tryz.f79
def Ck (x0:(List Ax)):Nat->(List Ad)->Int->Option (((List Ad)))
 | 0,_,_=>none
 | f + 1,c1,c2 =>
  if (decide (c2 < (x0.length:Int)))=true then
  (idx x0 c2).bind fun v4 =>
  if (Fa 120 (c1.length + 1))=true then
  Ck x0 f (c1++[(v4,c2)]) (wr .i64 (c2 + 1))
  else none
  else
  some c1
def Gb (x0:(List Ax)):Option ((List Ad)) :=
 (Ck x0 100000 [] 0).bind fun r7 =>
 some r7
def HZ:Cs ((List Ax)×Unit):=(csC (cdL 9 AI) csN)
def Is (r:(List Ad)):AV:=(cdL 10 AF).enc r
theorem MC (x0:(List Ax)):∀ (f:Nat) (c1:(List Ad)) (c2:Int) (r:((List Ad))),Ck x0 f c1 c2=some r->SemN E0 ⟨none,false⟩ (pc Im [1,1,0,1,0,0]) f ⟨Fr 21 [(3,hd 0 (c1.map AF.enc)),(6,.sl 9 (x0.map AI.enc)),(7,.v (.int .i64 (x0.length:Int))),(8,.v (.int .i64 c2))],[mk 10 115 (c1.map AF.enc)]⟩ (fun e s=>e=(.exit 0)/\Wk E0 s ⟨Fr 21 [(3,hd 0 (r.map AF.enc))],[mk 10 115 (r.map AF.enc)]⟩):=by
 intro f;induction f with
 | zero=>intro c1 c2 r h; cases h
 | succ f ih0 =>
  intro c1 c2 r h
  have ih:=fun (c1:(List Ad)) (c2:Int)=>ih0 c1 c2 r
  unfold Ck at h;refine B6 ?_
  let p1:Option Blk:=mk 10 115 (c1.map AF.enc)
  let p2:Nat×AV:=(8,.v (.int .i64 c2))
  let p3:Nat×AV:=(7,.v (.int .i64 (x0.length:Int)))
  let p4:Nat×AV:=(6,.sl 9 (x0.map AI.enc))
  let p5:Nat×AV:=(3,hd 0 (c1.map AF.enc))
  refine AJ AC [p5,p4,p3,p2,(9,.v (.bool (decide (c2 < (x0.length:Int)))))] [p1] ?_;refine AG ?_;refine AM (b:=(decide (c2 < (x0.length:Int)))) kr (fun hb3=>?_) (fun hb3=>?_)
  ·rw [if_pos hb3] at h
   refine AP ?_;refine AG ?_;refine Aj ?_;refine AG ?_;obtain ⟨v4,hv4,h⟩:=OB h
   let p6:Option Blk:=some ⟨9,42,[AI.enc v4],false⟩
   refine AH (s1:=⟨Fr 21 [p5,(4,.v (.int .i64 c2)),(5,.pt 1 0 0),p4,p3,p2],[p1,p6]⟩) ?_ ?_
   ·refine AD (n:=21) AC 1 [p5,p4,p3,p2,(10,.v (.int .i64 c2))] [p1] kr ?_
    refine AK AC 0 rfl (CZ (AB rfl) rfl (AQ (a:= .sl 9 (x0.map AI.enc)) (b:= .v (.int .i64 c2)) kr kr (GW (e:=AI.enc) (el:=42) (k:=9) (ki:= .i64) kr kr hv4))) ?_;exact AN AC
   by_cases hk5:(Fa 120 (c1.length + 1))=true
   case neg=>rw [if_neg hk5] at h; cases h
   rw [if_pos hk5] at h
   let p7:Option Blk:=mk 10 115 ((c1++[(v4,c2)]).map AF.enc)
   let p8:Nat×AV:=(3,hd 0 ((c1++[(v4,c2)]).map AF.enc))
   refine AH (s1:=⟨Fr 21 [p8,p4,p3,p2],[p7]⟩) ?_ ?_
   ·let p9:Option Blk:=mk 10 115 ([(v4,c2)].map AF.enc)
    refine AD (n:=21) AC 5 [p4,p3,p2,(13,hd 0 (c1.map AF.enc)),(17,hd 2 ([(v4,c2)].map AF.enc))] [p1,p6,p9] kr ?_;refine AK AC 0 rfl (T6 (AB rfl) rfl kr kr (IC (a:=hd 0 (c1.map AF.enc)) (b:=hd 2 ([(v4,c2)].map AF.enc)) kr kr (KA (c:=AF) (xs:=c1) (vs:=[(v4,c2)]) (k:=10) (bytes:=120) (el:=115) kr kr (KB (t:=115) kr) (List.cons_ne_nil _ _) kr hk5))) ?_;refine AD (n:=21) AC 1 [(3,hd 3 ((c1++[(v4,c2)]).map AF.enc)),p4,p3,p2] [none,p6,p9,p7] kr ?_;exact AL rfl (AZ [3] ⟨⟨_,rfl,Cr⟩,trivial⟩ ⟨C4 (b':=3) kr kr,lv,lv,lv,trivial⟩)
   let p10:Nat×AV:=(8,.v (.int .i64 (wr .i64 (c2 + 1))))
   refine DD AC [p8,p4,p3,p10] [p7] ?_;exact Aw (s1:=⟨Fr 21 [p8,p4,p3,p10],[p7]⟩) (AZ [0] ⟨⟨_,rfl,Cr⟩,trivial⟩ ⟨C4 (b':=0) kr kr,lv,lv,lv,trivial⟩) (ih (c1++[(v4,c2)]) (wr .i64 (c2 + 1)) h)
  ·rw [CK hb3] at h
   refine Cc ?_;have hq:=OI h; subst hq;exact ⟨rfl,(AZ [0] ⟨⟨_,rfl,Cr⟩,trivial⟩ ⟨C4 (b':=0) kr kr,trivial⟩)⟩
theorem Np (x0:(List Ax)) (r:(List Ad)) (h:Gb x0=some r):Sem E0 ⟨none,false⟩ Im ⟨Fr 21 (BK 0 (HZ.enc (x0,()))),[]⟩ fun e s'=>(e = .normal\/e = .ret)/\∃ xs,Ej E0.P s'.fr s'.hp Tryz.f79.results.toList=some xs/\Eu xs=Is r:=by
 unfold Gb at h
 let p1:Nat×AV:=(0,.sl 9 (x0.map AI.enc))
 refine A3 (Bo (s1:=⟨Fr 21 [p1],[]⟩) AO ?_);refine AJ AC [p1] [] ?_;refine AJ AC [p1,(3,.e0)] [] ?_;refine AG ?_;refine AG ?_
 let p2:Nat×AV:=(8,.v (.int .i64 0))
 let p3:Nat×AV:=(7,.v (.int .i64 (x0.length:Int)))
 let p4:Nat×AV:=(6,.sl 9 (x0.map AI.enc))
 refine AH (s1:=⟨Fr 21 [(3,.e0),p4,p3,p2],[]⟩) ?_ ?_
 ·refine AD (n:=21) AC 1 [(3,.e0),p4] [] kr ?_
  refine AK AC 0 rfl (CZ (AB rfl) rfl (DS (a:= .sl 9 (x0.map AI.enc)) kr (B4 (el:=42) kr))) ?_;exact AN AC
 refine Aj ?_;obtain ⟨r7,hr7,h⟩:=OB h;refine Ch (n:=100000) ?_
 let p5:Option Blk:=mk 10 115 ([].map AF.enc)
 let p6:Nat×AV:=(3,hd 0 ([].map AF.enc))
 refine BQ (Aw (s1:=⟨Fr 21 [p6,p4,p3,p2],[p5]⟩) (Wk.trans (s1:=⟨Fr 21 [p6,p4,p3,p2],[p5]⟩) Wk.none (AZ [0] ⟨⟨_,rfl,Mh⟩,trivial⟩ ⟨lv,lv,lv,lv,trivial⟩)) (MC x0 _ [] 0 _ hr7)) ?_;refine AJ AC [(2,hd 0 (r7.map AF.enc))] [mk 10 115 (r7.map AF.enc)] ?_;refine AT ?_;have hq:=OI h; subst hq
 let p7:Nat×AV:=(2,.sl 10 (r7.map AF.enc))
 exact ⟨⟨Fr 21 [p7],[]⟩,(Wk.trans (s1:=⟨Fr 21 [p7],[none]⟩) (GZ 0 (.inl kr) ⟨.inl rfl,trivial⟩ ⟨⟨hd 0 (r7.map AF.enc),kr,Nu (t:=115) kr JO⟩,trivial⟩) (AZ [] trivial ⟨lv,trivial⟩)),.inr rfl,[.sl 10 (r7.map AF.enc)],kr,kr⟩
def Pv:List AV->Option AV:=EA HZ (fun a=>Gb a.1) Is
theorem P6:XOk 79 Pv:=by
 refine AW Tryz.func79 (c:=Im) ?h2 ⟨Tryz.call79⟩ HZ (fun a=>Gb a.1) Is (fun a=>(by show 1<=21; decide)) ?h3 ?h4
 case h2=>kernel_rfl
 case h3=>intro b; kernel_rfl
 case h4=>exact fun a b h=>Np a.1 b h
/- trestle/court.orders -/
noncomputable def Hj:Code:=Bn Tryz.f75
def DA (x0:(List AE)):Nat->(List AE)->Int->Option (((List AE)))
 | 0,_,_=>none
 | f + 1,c3,c4 =>
  if (decide (c4 < (x0.length:Int)))=true then
  (idx x0 c4).bind fun v6 =>
  (EV v6).bind fun v7 =>
  if (Fa 8 (c3.length + 1))=true then
  DA x0 f (c3++[v7]) (wr .i64 (c4 + 1))
  else none
  else
  some c3
def Em (x0:(List AE)):Option ((List AE)×Bool) :=
 (El x0).bind fun v1 =>
 if (v1.2 != 0)=true then
 some ([],false)
 else
 (DA x0 100000 [] 0).bind fun r10 =>
 some (r10,true)
noncomputable def GA:Cs ((List AE)×Unit):=(csC (cdL 5 AA) csN)
noncomputable def Hs (r:(List AE)×Bool):AV:= .tp [(cdL 1 Cl).enc r.1,cdB.enc r.2]
theorem Kw (x0:(List AE)):∀ (f:Nat) (c3:(List AE)) (c4:Int) (r:((List AE))),DA x0 f c3 c4=some r->SemN E0 ⟨none,false⟩ (pc Hj [1,1,1,0,1,0,0]) f ⟨Fr 29 [(6,hd 0 (c3.map Cl.enc)),(16,.sl 5 (x0.map AA.enc)),(17,.v (.int .i64 (x0.length:Int))),(18,.v (.int .i64 c4))],[mk 1 117 (c3.map Cl.enc)]⟩ (fun e s=>e=(.exit 0)/\Wk E0 s ⟨Fr 29 [(6,hd 0 (r.map Cl.enc))],[mk 1 117 (r.map Cl.enc)]⟩):=by
 intro f;induction f with
 | zero=>intro c3 c4 r h; cases h
 | succ f ih0 =>
  intro c3 c4 r h
  have ih:=fun (c3:(List AE)) (c4:Int)=>ih0 c3 c4 r
  unfold DA at h;refine B6 ?_
  let p1:Option Blk:=mk 1 117 (c3.map Cl.enc)
  let p2:Nat×AV:=(18,.v (.int .i64 c4))
  let p3:Nat×AV:=(17,.v (.int .i64 (x0.length:Int)))
  let p4:Nat×AV:=(16,.sl 5 (x0.map AA.enc))
  refine AJ AC [(6,hd 0 (c3.map Cl.enc)),p4,p3,p2,(19,.v (.bool (decide (c4 < (x0.length:Int)))))] [p1] ?_;refine AG ?_;refine AM (b:=(decide (c4 < (x0.length:Int)))) kr (fun hb5=>?_) (fun hb5=>?_)
  ·rw [if_pos hb5] at h
   refine AP ?_;refine AG ?_;refine Aj ?_;refine AG ?_;obtain ⟨v6,hv6,h⟩:=OB h
   let p5:Option Blk:=some ⟨5,60,[AA.enc v6],false⟩
   refine AH (s1:=⟨Fr 29 [(6,hd 0 (c3.map Cl.enc)),(8,.pt 1 0 0),p4,p3,p2],[p1,p5]⟩) ?_ ?_
   ·refine AK AC 0 rfl (CZ (AB rfl) rfl (AQ (a:= .sl 5 (x0.map AA.enc)) (b:= .v (.int .i64 c4)) kr kr (GW (e:=AA.enc) (el:=60) (k:=5) (ki:= .i64) kr kr hv6))) ?_
    exact AN AC
   obtain ⟨v7,hv7,h⟩:=OB h;by_cases hk8:(Fa 8 (c3.length + 1))=true
   case neg=>rw [if_neg hk8] at h; cases h
   rw [if_pos hk8] at h
   let p6:Option Blk:=mk 1 117 ((c3++[v7]).map Cl.enc)
   let p7:Nat×AV:=(6,hd 0 ((c3++[v7]).map Cl.enc))
   refine AH (s1:=⟨Fr 29 [p7,p4,p3,p2],[p6]⟩) ?_ ?_
   ·refine AD (n:=29) AC 2 [p4,p3,p2,(22,hd 0 (c3.map Cl.enc)),(23,AA.enc v6)] [p1,p5] kr ?_
    refine Ai (caps:=[]) (xs:=[AA.enc v6]) (u:=(v6,())) rfl rfl Nc rfl (AB rfl) kr kr (AU (Ao (c:=AA) (v:=v6)) Bf) (.inr kr) hv7 ?_;refine AD (n:=29) AC 1 [p4,p3,p2,(22,hd 0 (c3.map Cl.enc)),(25,hd 2 ([v7].map Cl.enc))] [p1,p5,mk 1 117 ([v7].map Cl.enc)] kr ?_;refine AK AC 0 rfl (T6 (AB rfl) rfl kr kr (IC (a:=hd 0 (c3.map Cl.enc)) (b:=hd 2 ([v7].map Cl.enc)) kr kr (KA (c:=Cl) (xs:=c3) (vs:=[v7]) (k:=1) (bytes:=8) (el:=117) kr kr (KB (t:=117) kr) (List.cons_ne_nil _ _) kr hk8))) ?_;refine AD (n:=29) AC 1 [(6,hd 3 ((c3++[v7]).map Cl.enc)),p4,p3,p2] [none,p5,mk 1 117 ([v7].map Cl.enc),p6] kr ?_;exact AL rfl (AZ [3] ⟨⟨_,rfl,Cr⟩,trivial⟩ ⟨C4 (b':=3) kr kr,lv,lv,lv,trivial⟩)
   let p8:Nat×AV:=(18,.v (.int .i64 (wr .i64 (c4 + 1))))
   refine DD AC [p7,p4,p3,p8] [p6] ?_;exact Aw (s1:=⟨Fr 29 [p7,p4,p3,p8],[p6]⟩) (AZ [0] ⟨⟨_,rfl,Cr⟩,trivial⟩ ⟨C4 (b':=0) kr kr,lv,lv,lv,trivial⟩) (ih (c3++[v7]) (wr .i64 (c4 + 1)) h)
  ·rw [CK hb5] at h
   refine Cc ?_;have hq:=OI h; subst hq;exact ⟨rfl,(AZ [0] ⟨⟨_,rfl,Cr⟩,trivial⟩ ⟨C4 (b':=0) kr kr,trivial⟩)⟩
theorem MD (x0:(List AE)) (r:(List AE)×Bool) (h:Em x0=some r):Sem E0 ⟨none,false⟩ Hj ⟨Fr 29 (BK 0 (GA.enc (x0,()))),[]⟩ fun e s'=>(e = .normal\/e = .ret)/\∃ xs,Ej E0.P s'.fr s'.hp Tryz.f75.results.toList=some xs/\Eu xs=Hs r:=by
 unfold Em at h
 let p1:Nat×AV:=(0,.sl 5 (x0.map AA.enc))
 refine A3 (Bo (s1:=⟨Fr 29 [p1],[]⟩) AO ?_);refine AJ AC [p1] [] ?_;refine AG ?_;refine AG ?_;obtain ⟨v1,hv1,h⟩:=OB h;refine AH (s1:=⟨Fr 29 [p1,(5,.v (.int .i64 v1.2))],[]⟩) ?_ ?_
 ·refine AD (n:=29) AC 1 [p1,(10,.sl 5 (x0.map AA.enc))] [] kr ?_
  refine Ai (caps:=[]) (xs:=[.sl 5 (x0.map AA.enc)]) (u:=(x0,())) rfl rfl LF rfl (AB rfl) kr kr (AU (Ao (c:=(cdL 5 AA)) (v:=x0)) Bf) (.inl kr) hv1 ?_;exact AN AC
 refine AJ AC [p1,(15,.v (.bool (v1.2 != 0)))] [] ?_;refine AM (b:=(v1.2 != 0)) kr (fun hb2=>?_) (fun hb2=>?_)
 ·rw [if_pos hb2] at h
  let p2:Nat×AV:=(3,.v (.bool false))
  refine AJ AC [(2,.e0),p2] [] ?_;refine AT ?_;have hq:=OI h; subst hq;exact ⟨⟨Fr 29 [(2,.sl 1 ([].map Cl.enc)),p2],[]⟩,(Wk.trans (s1:=⟨Fr 29 [(2,.e0),p2],[]⟩) AO (Wk.trans (s1:=⟨Fr 29 [(2,.e0),p2],[none]⟩) Wk.none (Wk.trans (s1:=⟨Fr 29 [(2,.sl 1 ([].map Cl.enc)),p2],[none]⟩) (GZ 0 (.inr kr) ⟨.inl rfl,trivial⟩ ⟨⟨.e0,kr,PW⟩,⟨.v (.bool false),kr,.inl rfl⟩,trivial⟩) (AZ [] trivial ⟨lv,lv,trivial⟩)))),.inr rfl,[.sl 1 ([].map Cl.enc),.v (.bool false)],kr,kr⟩
 ·rw [CK hb2] at h
  refine AP ?_;refine AJ AC [p1,(6,.e0)] [] ?_;refine AG ?_;refine AG ?_
  let p3:Nat×AV:=(18,.v (.int .i64 0))
  let p4:Nat×AV:=(17,.v (.int .i64 (x0.length:Int)))
  let p5:Nat×AV:=(16,.sl 5 (x0.map AA.enc))
  refine AH (s1:=⟨Fr 29 [(6,.e0),p5,p4,p3],[]⟩) ?_ ?_
  ·refine AD (n:=29) AC 1 [(6,.e0),p5] [] kr ?_
   refine AK AC 0 rfl (CZ (AB rfl) rfl (DS (a:= .sl 5 (x0.map AA.enc)) kr (B4 (el:=60) kr))) ?_;exact AN AC
  refine Aj ?_;obtain ⟨r10,hr10,h⟩:=OB h;refine Ch (n:=100000) ?_;refine BQ (Aw (s1:=⟨Fr 29 [(6,hd 0 ([].map Cl.enc)),p5,p4,p3],[mk 1 117 ([].map Cl.enc)]⟩) (Wk.trans (s1:=⟨Fr 29 [(6,hd 0 ([].map Cl.enc)),p5,p4,p3],[mk 1 117 ([].map Cl.enc)]⟩) Wk.none (AZ [0] ⟨⟨_,rfl,Mh⟩,trivial⟩ ⟨lv,lv,lv,lv,trivial⟩)) (Kw x0 _ [] 0 _ hr10)) ?_
  let p6:Nat×AV:=(3,.v (.bool true))
  refine AJ AC [(2,hd 0 (r10.map Cl.enc)),p6] [mk 1 117 (r10.map Cl.enc)] ?_;refine AT ?_;have hq:=OI h; subst hq;exact ⟨⟨Fr 29 [(2,.sl 1 (r10.map Cl.enc)),p6],[]⟩,(Wk.trans (s1:=⟨Fr 29 [(2,.sl 1 (r10.map Cl.enc)),p6],[none]⟩) (GZ 0 (.inl kr) ⟨.inl rfl,trivial⟩ ⟨⟨hd 0 (r10.map Cl.enc),kr,Nu (t:=117) kr JO⟩,⟨.v (.bool true),kr,.inl rfl⟩,trivial⟩) (AZ [] trivial ⟨lv,lv,trivial⟩)),.inr rfl,[.sl 1 (r10.map Cl.enc),.v (.bool true)],kr,kr⟩
noncomputable def N0:List AV->Option AV:=EA GA (fun a=>Em a.1) Hs
theorem N4:XOk 75 N0:=by
 refine AW Tryz.func75 (c:=Hj) ?h2 ⟨Tryz.call75⟩ GA (fun a=>Em a.1) Hs (fun a=>(by show 1<=29; decide)) ?h3 ?h4
 case h2=>kernel_rfl
 case h3=>intro b; kernel_rfl
 case h4=>exact fun a b h=>MD a.1 b h
/- trestle/court.orderOf$1 -/
noncomputable def H1:Code:=Bn Tryz.f165
def BW {β:Type}(G:Ad->Ad->β->Option Int) (x0:Ad) (x1:Ad) (x2:AE) (x3:β):Option (Int) :=
 (if (!(x2.2.1==[]))=true then if (!(x0.1.2.1==x2.2.1))=true then some true else some (!(x1.1.2.1==x2.2.1)) else some false).bind fun j2 =>
 if j2=true then
 some 0
 else
 (G x0 x1 x3).bind fun v4 =>
 some v4
def F9 {β:Type}(fid:FuncId) (sx:Cs β) (hn:∀ x,(sx.enc x).all Fn=true):Cs (Ad×Ad×AE×β×Unit):=(csC AF (csC AF (csC (cdP AA) (csC (cdP (cdF fid sx hn)) csN))))
def GF (r:Int):AV:=cdI.enc r
theorem Kc {β:Type}{fid:FuncId}{sx:Cs β}{hn:∀ x,(sx.enc x).all Fn=true}{G:Ad->Ad->β->Option Int}(hX:XOk fid (EA (csC AF (csC AF sx)) (fun a=>G a.1 a.2.1 a.2.2) cdI.enc)) (x0:Ad) (x1:Ad) (x2:AE) (x3:β) (r:Int) (h:BW G x0 x1 x2 x3=some r):Sem E0 ⟨none,false⟩ H1 ⟨Fr 30 (BK 0 ((F9 fid sx hn).enc (x0,x1,x2,x3,()))),[]⟩ fun e s'=>(e = .normal\/e = .ret)/\∃ xs,Ej E0.P s'.fr s'.hp Tryz.f165.results.toList=some xs/\Eu xs=GF r:=by
 unfold BW at h
 refine A3 (Bo (s1:=⟨Fr 30 [(0,AF.enc x0),(1,AF.enc x1),(2,.pe (AA.enc x2) 0),(3,.pe (.fn fid [] (sx.enc x3)) 0)],[]⟩) AO ?_)
 refine AJ AC [(2,.pe (AA.enc x2) 0),(3,.pe (.fn fid [] (sx.enc x3)) 0),(4,.pt 0 0 0),(5,.pt 1 0 0)] [some ⟨10,115,[AF.enc x0],false⟩,some ⟨10,115,[AF.enc x1],false⟩] ?_
 refine AG ?_
 refine AG ?_
 obtain ⟨j2,hj2,h⟩:=OB h
 refine AH (s1:=⟨Fr 30 [(3,.pe (.fn fid [] (sx.enc x3)) 0),(4,.pt 0 0 0),(5,.pt 1 0 0),(25,.v (.bool j2))],[some ⟨10,115,[AF.enc x0],false⟩,some ⟨10,115,[AF.enc x1],false⟩]⟩) ?_ ?_
 ·refine AD (n:=30) AC 4 [(2,.pe (AA.enc x2) 0),(3,.pe (.fn fid [] (sx.enc x3)) 0),(4,.pt 0 0 0),(5,.pt 1 0 0),(10,.v (.bool (!(x2.2.1==[]))))] [some ⟨10,115,[AF.enc x0],false⟩,some ⟨10,115,[AF.enc x1],false⟩] kr ?_
  rcases BE (!(x2.2.1==[])) with hc5 | hc5
  ·rw [if_pos hc5] at hj2
   rw [hc5]
   refine AD (n:=30) AC 7 [(2,.pe (AA.enc x2) 0),(3,.pe (.fn fid [] (sx.enc x3)) 0),(4,.pt 0 0 0),(5,.pt 1 0 0),(10,.v (.bool true)),(17,.v (.bool (!(x0.1.2.1==x2.2.1))))] [some ⟨10,115,[AF.enc x0],false⟩,some ⟨10,115,[AF.enc x1],false⟩] kr ?_
   rcases BE (!(x0.1.2.1==x2.2.1)) with hc6 | hc6
   ·rw [if_pos hc6] at hj2
    rw [hc6]
    refine AD (n:=30) AC 8 [(3,.pe (.fn fid [] (sx.enc x3)) 0),(4,.pt 0 0 0),(5,.pt 1 0 0),(25,.v (.bool true))] [some ⟨10,115,[AF.enc x0],false⟩,some ⟨10,115,[AF.enc x1],false⟩] kr ?_
    have hq:=OI hj2; subst hq
    exact AL rfl (AZ [0,1] ⟨⟨_,rfl,Cn⟩,⟨_,rfl,Cn⟩,trivial⟩ ⟨lv,lv,lv,lv,trivial⟩)
   ·rw [CK hc6] at hj2
    rw [hc6]
    refine AD (n:=30) AC 8 [(3,.pe (.fn fid [] (sx.enc x3)) 0),(4,.pt 0 0 0),(5,.pt 1 0 0),(25,.v (.bool (!(x1.1.2.1==x2.2.1))))] [some ⟨10,115,[AF.enc x0],false⟩,some ⟨10,115,[AF.enc x1],false⟩] kr ?_
    have hq:=OI hj2; subst hq
    exact AL rfl (AZ [0,1] ⟨⟨_,rfl,Cn⟩,⟨_,rfl,Cn⟩,trivial⟩ ⟨lv,lv,lv,lv,trivial⟩)
  ·rw [CK hc5] at hj2
   rw [hc5]
   refine AD (n:=30) AC 15 [(3,.pe (.fn fid [] (sx.enc x3)) 0),(4,.pt 0 0 0),(5,.pt 1 0 0),(25,.v (.bool false))] [some ⟨10,115,[AF.enc x0],false⟩,some ⟨10,115,[AF.enc x1],false⟩] kr ?_
   have hq:=OI hj2; subst hq
   exact AL rfl (AZ [0,1] ⟨⟨_,rfl,Cn⟩,⟨_,rfl,Cn⟩,trivial⟩ ⟨lv,lv,lv,lv,trivial⟩)
 refine AM (b:=j2) kr (fun hb3=>?_) (fun hb3=>?_)
 ·rw [if_pos hb3] at h
  refine AG ?_
  refine AH (s1:=⟨Fr 30 [(6,.v (.int .i64 0))],[]⟩) ?_ ?_
  ·refine AD (n:=30) AC 1 [(6,.v (.int .i64 0))] [some ⟨10,115,[AF.enc x0],false⟩,some ⟨10,115,[AF.enc x1],false⟩] kr ?_
   exact AL rfl (AZ [] trivial ⟨lv,trivial⟩)
  refine AT ?_
  have hq:=OI h; subst hq
  exact ⟨⟨Fr 30 [(6,.v (.int .i64 0))],[]⟩,AO,.inr rfl,[.v (.int .i64 0)],kr,kr⟩
 ·rw [CK hb3] at h
  refine AP ?_
  refine AG ?_
  obtain ⟨v4,hv4,h⟩:=OB h
  refine AH (s1:=⟨Fr 30 [(6,.v (.int .i64 v4))],[]⟩) ?_ ?_
  ·refine AD (n:=30) AC 3 [(26,.fn fid [] (sx.enc x3)),(27,AF.enc x0),(28,AF.enc x1)] [some ⟨10,115,[AF.enc x0],false⟩,some ⟨10,115,[AF.enc x1],false⟩] kr ?_
   refine Ai (caps:=sx.enc x3) (xs:=[AF.enc x0,AF.enc x1]) (u:=(x0,x1,x3)) rfl rfl hX rfl (AB rfl) kr kr (AU (Ao (c:=AF) (v:=x0)) (AU (Ao (c:=AF) (v:=x1)) (OW (n:=10) (s:=sx) (a:=x3)))) (.inl kr) hv4 ?_
   refine AD (n:=30) AC 1 [(6,.v (.int .i64 v4))] [some ⟨10,115,[AF.enc x0],false⟩,some ⟨10,115,[AF.enc x1],false⟩] kr ?_
   exact AL rfl (AZ [] trivial ⟨lv,trivial⟩)
  refine AT ?_
  have hq:=OI h; subst hq
  exact ⟨⟨Fr 30 [(6,.v (.int .i64 v4))],[]⟩,AO,.inr rfl,[.v (.int .i64 v4)],kr,kr⟩
def Lz {β:Type}(fid:FuncId) (sx:Cs β) (hn:∀ x,(sx.enc x).all Fn=true) (G:Ad->Ad->β->Option Int):List AV->Option AV:=EA (F9 fid sx hn) (fun a=>BW G a.1 a.2.1 a.2.2.1 a.2.2.2.1) GF
theorem Bv {β:Type}{fid:FuncId}{sx:Cs β}{hn:∀ x,(sx.enc x).all Fn=true}{G:Ad->Ad->β->Option Int}(hX:XOk fid (EA (csC AF (csC AF sx)) (fun a=>G a.1 a.2.1 a.2.2) cdI.enc)):XOk 165 (Lz fid sx hn G):=by
 refine AW Tryz.func165 (c:=H1) ?h2 ⟨Tryz.call165⟩ (F9 fid sx hn) (fun a=>BW G a.1 a.2.1 a.2.2.1 a.2.2.2.1) GF (fun a=>(by show 4<=30; decide)) ?h3 ?h4
 case h2=>kernel_rfl
 case h3=>intro b; kernel_rfl
 case h4=>exact fun a b h=>Kc hX a.1 a.2.1 a.2.2.1 a.2.2.2.1 b h
/- cmp.isNaN[int] -/
noncomputable def JB:Code:=Bn Tryz.f137
def ES (x0:Int):Option (Bool) :=
 some (x0 != x0)
def G6:Cs (Int×Unit):=(csC cdI csN)
def HI (r:Bool):AV:=cdB.enc r
theorem LM (x0:Int) (r:Bool) (h:ES x0=some r):Sem E0 ⟨none,false⟩ JB ⟨Fr 6 (BK 0 (G6.enc (x0,()))),[]⟩ fun e s'=>(e = .normal\/e = .ret)/\∃ xs,Ej E0.P s'.fr s'.hp Tryz.f137.results.toList=some xs/\Eu xs=HI r:=by
 unfold ES at h;refine A3 (Bo (s1:=⟨Fr 6 [(0,.v (.int .i64 x0))],[]⟩) AO ?_);refine AJ AC [(0,.v (.int .i64 x0))] [] ?_;refine AJ AC [(2,.v (.bool (x0 != x0)))] [] ?_;refine AT ?_;have hq:=OI h; subst hq;exact ⟨⟨Fr 6 [(2,.v (.bool (x0 != x0)))],[]⟩,AO,.inr rfl,[.v (.bool (x0 != x0))],kr,kr⟩
def NI:List AV->Option AV:=EA G6 (fun a=>ES a.1) HI
theorem J6:XOk 137 NI:=by
 refine AW Tryz.func137 (c:=JB) ?h2 ⟨Tryz.call137⟩ G6 (fun a=>ES a.1) HI (fun a=>(by show 1<=6; decide)) ?h3 ?h4
 case h2=>kernel_rfl
 case h3=>intro b; kernel_rfl
 case h4=>exact fun a b h=>LM a.1 b h
/- cmp.Compare[int] -/
noncomputable def H0:Code:=Bn Tryz.f113
def BU (x0:Int) (x1:Int):Option (Int) :=
 (ES x0).bind fun v1 =>
 (ES x1).bind fun v2 =>
 if v1=true then
 if v2=true then
 some 0
 else
 some (-1)
 else
 if v2=true then
 some 1
 else
 if (decide (x0 < x1))=true then
 some (-1)
 else
 if (decide (x0 > x1))=true then
 some 1
 else
 some 0
def F7:Cs (Int×Int×Unit):=(csC cdI (csC cdI csN))
def GE (r:Int):AV:=cdI.enc r
theorem Kb (x0:Int) (x1:Int) (r:Int) (h:BU x0 x1=some r):Sem E0 ⟨none,false⟩ H0 ⟨Fr 20 (BK 0 (F7.enc (x0,x1,()))),[]⟩ fun e s'=>(e = .normal\/e = .ret)/\∃ xs,Ej E0.P s'.fr s'.hp Tryz.f113.results.toList=some xs/\Eu xs=GE r:=by
 unfold BU at h
 let p1:Nat×AV:=(1,.v (.int .i64 x1))
 let p2:Nat×AV:=(0,.v (.int .i64 x0))
 refine A3 (Bo (s1:=⟨Fr 20 [p2,p1],[]⟩) AO ?_);refine AJ AC [p2,p1] [] ?_;refine AG ?_;obtain ⟨v1,hv1,h⟩:=OB h
 let p3:Nat×AV:=(5,.v (.bool v1))
 refine AH (s1:=⟨Fr 20 [p2,p1,p3],[]⟩) ?_ ?_
 ·refine AD (n:=20) AC 1 [p2,p1,(7,.v (.int .i64 x0))] [] kr ?_
  refine Ai (caps:=[]) (xs:=[.v (.int .i64 x0)]) (u:=(x0,())) rfl rfl J6 rfl (AB rfl) kr kr (AU (Ao (c:=cdI) (v:=x0)) Bf) (.inl kr) hv1 ?_;exact AN AC
 refine AG ?_;obtain ⟨v2,hv2,h⟩:=OB h;refine AH (s1:=⟨Fr 20 [p2,p1,p3,(6,.v (.bool v2))],[]⟩) ?_ ?_
 ·refine AD (n:=20) AC 1 [p2,p1,p3,(9,.v (.int .i64 x1))] [] kr ?_
  refine Ai (caps:=[]) (xs:=[.v (.int .i64 x1)]) (u:=(x1,())) rfl rfl J6 rfl (AB rfl) kr kr (AU (Ao (c:=cdI) (v:=x1)) Bf) (.inl kr) hv2 ?_;exact AN AC
 refine AG ?_;refine AJ AC [p2,p1,(6,.v (.bool v2)),(11,.v (.bool v1))] [] ?_;refine AM (b:=v1) kr (fun hb3=>?_) (fun hb3=>?_)
 ·rw [if_pos hb3] at h
  refine AG ?_;refine AJ AC [(12,.v (.bool v2))] [] ?_;refine AM (b:=v2) kr (fun hb4=>?_) (fun hb4=>?_)
  ·rw [if_pos hb4] at h
   refine AJ AC [(4,.v (.int .i64 0))] [] ?_;refine AT ?_;have hq:=OI h; subst hq;exact ⟨⟨Fr 20 [(4,.v (.int .i64 0))],[]⟩,AO,.inr rfl,[.v (.int .i64 0)],kr,kr⟩
  ·rw [CK hb4] at h
   refine AP ?_;refine AJ AC [(4,.v (.int .i64 (-1)))] [] ?_;refine AT ?_;have hq:=OI h; subst hq;exact ⟨⟨Fr 20 [(4,.v (.int .i64 (-1)))],[]⟩,AO,.inr rfl,[.v (.int .i64 (-1))],kr,kr⟩
 ·rw [CK hb3] at h
  refine AP ?_;refine AG ?_;refine AJ AC [p2,p1,(13,.v (.bool v2))] [] ?_;refine AM (b:=v2) kr (fun hb5=>?_) (fun hb5=>?_)
  ·rw [if_pos hb5] at h
   refine AJ AC [(4,.v (.int .i64 1))] [] ?_;refine AT ?_;have hq:=OI h; subst hq;exact ⟨⟨Fr 20 [(4,.v (.int .i64 1))],[]⟩,AO,.inr rfl,[.v (.int .i64 1)],kr,kr⟩
  ·rw [CK hb5] at h
   refine AP ?_;refine AG ?_;refine AJ AC [p2,p1,(16,.v (.bool (decide (x0 < x1))))] [] ?_;refine AM (b:=(decide (x0 < x1))) kr (fun hb6=>?_) (fun hb6=>?_)
   ·rw [if_pos hb6] at h
    refine AJ AC [(4,.v (.int .i64 (-1)))] [] ?_;refine AT ?_;have hq:=OI h; subst hq;exact ⟨⟨Fr 20 [(4,.v (.int .i64 (-1)))],[]⟩,AO,.inr rfl,[.v (.int .i64 (-1))],kr,kr⟩
   ·rw [CK hb6] at h
    refine AP ?_;refine AG ?_;refine AJ AC [(19,.v (.bool (decide (x0 > x1))))] [] ?_;refine AM (b:=(decide (x0 > x1))) kr (fun hb7=>?_) (fun hb7=>?_)
    ·rw [if_pos hb7] at h
     refine AJ AC [(4,.v (.int .i64 1))] [] ?_;refine AT ?_;have hq:=OI h; subst hq;exact ⟨⟨Fr 20 [(4,.v (.int .i64 1))],[]⟩,AO,.inr rfl,[.v (.int .i64 1)],kr,kr⟩
    ·rw [CK hb7] at h
     refine AP ?_;refine AJ AC [(4,.v (.int .i64 0))] [] ?_;refine AT ?_;have hq:=OI h; subst hq;exact ⟨⟨Fr 20 [(4,.v (.int .i64 0))],[]⟩,AO,.inr rfl,[.v (.int .i64 0)],kr,kr⟩
def Lx:List AV->Option AV:=EA F7 (fun a=>BU a.1 a.2.1) GE
theorem Da:XOk 113 Lx:=by
 refine AW Tryz.func113 (c:=H0) ?h2 ⟨Tryz.call113⟩ F7 (fun a=>BU a.1 a.2.1) GE (fun a=>(by show 2<=20; decide)) ?h3 ?h4
 case h2=>kernel_rfl
 case h3=>intro b; kernel_rfl
 case h4=>exact fun a b h=>Kb a.1 a.2.1 b h
/- trestle/court.by$1 -/
noncomputable def Kq:Code:=Bn Tryz.f205
def Bq {β:Type}(G:Ad->β->Option Int) (x0:Ad) (x1:Ad) (x2:β):Option (Int) :=
 (G x0 x2).bind fun v1 =>
 (G x1 x2).bind fun v2 =>
 (BU v1 v2).bind fun v3 =>
 some v3
def Ip {β:Type}(fid:FuncId) (sx:Cs β) (hn:∀ x,(sx.enc x).all Fn=true):Cs (Ad×Ad×β×Unit):=(csC AF (csC AF (csC (cdP (cdF fid sx hn)) csN)))
def Ir (r:Int):AV:=cdI.enc r
theorem No {β:Type}{fid:FuncId}{sx:Cs β}{hn:∀ x,(sx.enc x).all Fn=true}{G:Ad->β->Option Int}(hX:XOk fid (EA (csC AF sx) (fun a=>G a.1 a.2) cdI.enc)) (x0:Ad) (x1:Ad) (x2:β) (r:Int) (h:Bq G x0 x1 x2=some r):Sem E0 ⟨none,false⟩ Kq ⟨Fr 13 (BK 0 ((Ip fid sx hn).enc (x0,x1,x2,()))),[]⟩ fun e s'=>(e = .normal\/e = .ret)/\∃ xs,Ej E0.P s'.fr s'.hp Tryz.f205.results.toList=some xs/\Eu xs=Ir r:=by
 unfold Bq at h
 refine A3 (Bo (s1:=⟨Fr 13 [(0,AF.enc x0),(1,AF.enc x1),(2,.pe (.fn fid [] (sx.enc x2)) 0)],[]⟩) AO ?_)
 refine AJ AC [(2,.pe (.fn fid [] (sx.enc x2)) 0),(3,.pt 0 0 0),(4,.pt 1 0 0)] [some ⟨10,115,[AF.enc x0],false⟩,some ⟨10,115,[AF.enc x1],false⟩] ?_
 refine AG ?_
 obtain ⟨v1,hv1,h⟩:=OB h
 obtain ⟨v2,hv2,h⟩:=OB h
 obtain ⟨v3,hv3,h⟩:=OB h
 refine FN AC (s1:=⟨Fr 13 [(5,.v (.int .i64 v3))],[]⟩) kr ?_ ?_
 ·refine BR (n:=13) AC 2 [(2,.pe (.fn fid [] (sx.enc x2)) 0),(4,.pt 1 0 0),(6,.fn fid [] (sx.enc x2)),(7,AF.enc x0)] [some ⟨10,115,[AF.enc x0],false⟩,some ⟨10,115,[AF.enc x1],false⟩] kr kr ?_
  refine B5 (caps:=sx.enc x2) (xs:=[AF.enc x0]) (u:=(x0,x2)) rfl rfl hX rfl (AB rfl) kr kr (AU (Ao (c:=AF) (v:=x0)) (OW (n:=10) (s:=sx) (a:=x2))) kr hv1 ?_
  refine BR (n:=13) AC 2 [(8,.v (.int .i64 v1)),(9,.fn fid [] (sx.enc x2)),(10,AF.enc x1)] [some ⟨10,115,[AF.enc x0],false⟩,some ⟨10,115,[AF.enc x1],false⟩] kr kr ?_
  refine B5 (caps:=sx.enc x2) (xs:=[AF.enc x1]) (u:=(x1,x2)) rfl rfl hX rfl (AB rfl) kr kr (AU (Ao (c:=AF) (v:=x1)) (OW (n:=10) (s:=sx) (a:=x2))) kr hv2 ?_
  refine B5 (caps:=[]) (xs:=[.v (.int .i64 v1),.v (.int .i64 v2)]) (u:=(v1,v2,())) rfl rfl Da rfl (AB rfl) kr kr (AU (Ao (c:=cdI) (v:=v1)) (AU (Ao (c:=cdI) (v:=v2)) Bf)) kr hv3 ?_
  refine BR (n:=13) AC 1 [(5,.v (.int .i64 v3))] [some ⟨10,115,[AF.enc x0],false⟩,some ⟨10,115,[AF.enc x1],false⟩] kr kr ?_
  exact RunDS.done rfl (AZ [] trivial ⟨lv,trivial⟩)
 refine AT ?_
 have hq:=OI h; subst hq
 exact ⟨⟨Fr 13 [(5,.v (.int .i64 v3))],[]⟩,AO,.inr rfl,[.v (.int .i64 v3)],kr,kr⟩
def Pu {β:Type}(fid:FuncId) (sx:Cs β) (hn:∀ x,(sx.enc x).all Fn=true) (G:Ad->β->Option Int):List AV->Option AV:=EA (Ip fid sx hn) (fun a=>Bq G a.1 a.2.1 a.2.2.1) Ir
theorem Gx {β:Type}{fid:FuncId}{sx:Cs β}{hn:∀ x,(sx.enc x).all Fn=true}{G:Ad->β->Option Int}(hX:XOk fid (EA (csC AF sx) (fun a=>G a.1 a.2) cdI.enc)):XOk 205 (Pu fid sx hn G):=by
 refine AW Tryz.func205 (c:=Kq) ?h2 ⟨Tryz.call205⟩ (Ip fid sx hn) (fun a=>Bq G a.1 a.2.1 a.2.2.1) Ir (fun a=>(by show 3<=13; decide)) ?h3 ?h4
 case h2=>kernel_rfl
 case h3=>intro b; kernel_rfl
 case h4=>exact fun a b h=>No hX a.1 a.2.1 a.2.2.1 b h
/- trestle/court.plain$1 -/
noncomputable def JE:Code:=Bn Tryz.f178
def C6 (x0:Ad) (x1:AE):Option (Int) :=
 (BC x1.2.2.2.1 x0.1.2.1).bind fun v1 =>
 if (decide (v1≥0))=true then
 some v1
 else
 some (x1.2.2.2.1.length:Int)
def G9:Cs (Ad×AE×Unit):=(csC AF (csC (cdP AA) csN))
def HM (r:Int):AV:=cdI.enc r
theorem LP (x0:Ad) (x1:AE) (r:Int) (h:C6 x0 x1=some r):Sem E0 ⟨none,false⟩ JE ⟨Fr 17 (BK 0 (G9.enc (x0,x1,()))),[]⟩ fun e s'=>(e = .normal\/e = .ret)/\∃ xs,Ej E0.P s'.fr s'.hp Tryz.f178.results.toList=some xs/\Eu xs=HM r:=by
 unfold C6 at h
 let p1:Nat×AV:=(1,.pe (AA.enc x1) 0)
 refine A3 (Bo (s1:=⟨Fr 17 [(0,AF.enc x0),p1],[]⟩) AO ?_)
 let p2:Option Blk:=some ⟨10,115,[AF.enc x0],false⟩
 refine AJ AC [p1,(2,.pt 0 0 0)] [p2] ?_;refine AG ?_;refine AG ?_;obtain ⟨v1,hv1,h⟩:=OB h
 let p3:Nat×AV:=(4,.v (.int .i64 v1))
 refine AH (s1:=⟨Fr 17 [p1,p3],[]⟩) ?_ ?_
 ·refine AD (n:=17) AC 5 [p1,(6,.sl 1 (x1.2.2.2.1.map cdS.enc)),(9,.st x0.1.2.1)] [p2] kr ?_
  refine Ai (caps:=[]) (xs:=[.sl 1 (x1.2.2.2.1.map cdS.enc),.st x0.1.2.1]) (u:=(x1.2.2.2.1,x0.1.2.1,())) rfl rfl Eh rfl (AB rfl) kr kr (AU (Ao (c:=(cdL 1 cdS)) (v:=x1.2.2.2.1)) (AU (Ao (c:=cdS) (v:=x0.1.2.1)) Bf)) (.inl kr) hv1 ?_;refine AD (n:=17) AC 1 [p1,p3] [p2] kr ?_;exact AL rfl (AZ [] trivial ⟨lv,lv,trivial⟩)
 refine AJ AC [p1,p3,(12,.v (.bool (decide (v1≥0))))] [] ?_;refine AM (b:=(decide (v1≥0))) kr (fun hb2=>?_) (fun hb2=>?_)
 ·rw [if_pos hb2] at h
  refine AJ AC [(3,.v (.int .i64 v1))] [] ?_;refine AT ?_;have hq:=OI h; subst hq;exact ⟨⟨Fr 17 [(3,.v (.int .i64 v1))],[]⟩,AO,.inr rfl,[.v (.int .i64 v1)],kr,kr⟩
 ·rw [CK hb2] at h
  refine AP ?_;refine AG ?_
  let p4:Nat×AV:=(3,.v (.int .i64 (x1.2.2.2.1.length:Int)))
  refine AH (s1:=⟨Fr 17 [p4],[]⟩) ?_ ?_
  ·refine AD (n:=17) AC 2 [(15,.sl 1 (x1.2.2.2.1.map cdS.enc))] [] kr ?_
   refine AK AC 0 rfl (CZ (AB rfl) rfl (DS (a:= .sl 1 (x1.2.2.2.1.map cdS.enc)) kr (B4 (el:=9) kr))) ?_;exact AN AC
  refine AT ?_;have hq:=OI h; subst hq;exact ⟨⟨Fr 17 [p4],[]⟩,AO,.inr rfl,[.v (.int .i64 (x1.2.2.2.1.length:Int))],kr,kr⟩
def NM:List AV->Option AV:=EA G9 (fun a=>C6 a.1 a.2.1) HM
theorem Nd:XOk 178 NM:=by
 refine AW Tryz.func178 (c:=JE) ?h2 ⟨Tryz.call178⟩ G9 (fun a=>C6 a.1 a.2.1) HM (fun a=>(by show 2<=17; decide)) ?h3 ?h4
 case h2=>kernel_rfl
 case h3=>intro b; kernel_rfl
 case h4=>exact fun a b h=>LP a.1 a.2.1 b h
/- trestle/court.b2i -/
noncomputable def L5:Code:=Bn Tryz.f180
def Hn (x0:Bool):Option (Int) :=
 if x0=true then
 some 1
 else
 some 0
def Jr:Cs (Bool×Unit):=(csC cdB csN)
def Js (r:Int):AV:=cdI.enc r
theorem Of (x0:Bool) (r:Int) (h:Hn x0=some r):Sem E0 ⟨none,false⟩ L5 ⟨Fr 4 (BK 0 (Jr.enc (x0,()))),[]⟩ fun e s'=>(e = .normal\/e = .ret)/\∃ xs,Ej E0.P s'.fr s'.hp Tryz.f180.results.toList=some xs/\Eu xs=Js r:=by
 unfold Hn at h;refine A3 (Bo (s1:=⟨Fr 4 [(0,.v (.bool x0))],[]⟩) AO ?_);refine AJ AC [(0,.v (.bool x0))] [] ?_;refine AG ?_;refine AJ AC [(3,.v (.bool x0))] [] ?_;refine AM (b:=x0) kr (fun hb1=>?_) (fun hb1=>?_)
 ·rw [if_pos hb1] at h
  refine AJ AC [(2,.v (.int .i64 1))] [] ?_;refine AT ?_;have hq:=OI h; subst hq;exact ⟨⟨Fr 4 [(2,.v (.int .i64 1))],[]⟩,AO,.inr rfl,[.v (.int .i64 1)],kr,kr⟩
 ·rw [CK hb1] at h
  refine AP ?_;refine AJ AC [(2,.v (.int .i64 0))] [] ?_;refine AT ?_;have hq:=OI h; subst hq;exact ⟨⟨Fr 4 [(2,.v (.int .i64 0))],[]⟩,AO,.inr rfl,[.v (.int .i64 0)],kr,kr⟩
def Qf:List AV->Option AV:=EA Jr (fun a=>Hn a.1) Js
theorem NZ:XOk 180 Qf:=by
 refine AW Tryz.func180 (c:=L5) ?h2 ⟨Tryz.call180⟩ Jr (fun a=>Hn a.1) Js (fun a=>(by show 1<=4; decide)) ?h3 ?h4
 case h2=>kernel_rfl
 case h3=>intro b; kernel_rfl
 case h4=>exact fun a b h=>Of a.1 b h
/- trestle/court.plain$2 -/
noncomputable def G4:Code:=Bn Tryz.f179
def FU (x2:AE) (v5:Int):Option ((Int)) :=
 if (x2.1==3)=true then
 some (wr .i64 (0 - v5))
 else
 some v5
def CV (x0:Ad) (x1:Ad) (x2:AE):Option (Int) :=
 if (!((x0.1.2.2.2.1==0)==(x1.1.2.2.2.1==0)))=true then
 (Hn (x0.1.2.2.2.1==0)).bind fun v2 =>
 (Hn (x1.1.2.2.2.1==0)).bind fun v3 =>
 (BU v2 v3).bind fun v4 =>
 some v4
 else
 (BU x0.1.2.2.2.1 x1.1.2.2.2.1).bind fun v5 =>
 (FU x2 v5).bind fun r8 =>
 some r8
def HA:Cs (Ad×Ad×AE×Unit):=(csC AF (csC AF (csC (cdP AA) csN)))
def HN (r:Int):AV:=cdI.enc r
theorem Kd (x2:AE) (v5:Int) (r:(Int)) (h:FU x2 v5=some r):Sem E0 ⟨none,false⟩ (pc G4 [1,1,1,0,1]) ⟨Fr 40 [(6,.v (.int .i64 v5)),(36,.v (.bool (x2.1==3)))],[]⟩ (fun e s=>e = .normal/\Wk E0 s ⟨Fr 40 [(6,.v (.int .i64 r))],[]⟩):=by
 unfold FU at h;refine AM (b:=(x2.1==3)) kr (fun hb6=>?_) (fun hb6=>?_)
 ·rw [if_pos hb6] at h
  refine DD AC [(6,.v (.int .i64 (wr .i64 (0 - v5))))] [] ?_;have hq:=OI h; subst hq;exact ⟨rfl,AO⟩
 ·rw [CK hb6] at h
  refine AP ?_;have hq:=OI h; subst hq;exact ⟨rfl,AO⟩
theorem LQ (x0:Ad) (x1:Ad) (x2:AE) (r:Int) (h:CV x0 x1 x2=some r):Sem E0 ⟨none,false⟩ G4 ⟨Fr 40 (BK 0 (HA.enc (x0,x1,x2,()))),[]⟩ fun e s'=>(e = .normal\/e = .ret)/\∃ xs,Ej E0.P s'.fr s'.hp Tryz.f179.results.toList=some xs/\Eu xs=HN r:=by
 unfold CV at h
 let p1:Nat×AV:=(2,.pe (AA.enc x2) 0)
 refine A3 (Bo (s1:=⟨Fr 40 [(0,AF.enc x0),(1,AF.enc x1),p1],[]⟩) AO ?_)
 let p2:Option Blk:=some ⟨10,115,[AF.enc x1],false⟩
 let p3:Option Blk:=some ⟨10,115,[AF.enc x0],false⟩
 refine AJ AC [p1,(3,.pt 0 0 0),(4,.pt 1 0 0)] [p3,p2] ?_;refine AG ?_;refine AJ AC [p1,(3,.pt 0 0 0),(4,.pt 1 0 0),(15,.v (.bool (!((x0.1.2.2.2.1==0)==(x1.1.2.2.2.1==0)))))] [p3,p2] ?_;refine AM (b:=(!((x0.1.2.2.2.1==0)==(x1.1.2.2.2.1==0)))) kr (fun hb1=>?_) (fun hb1=>?_)
 ·rw [if_pos hb1] at h
  refine AG ?_;obtain ⟨v2,hv2,h⟩:=OB h;obtain ⟨v3,hv3,h⟩:=OB h;obtain ⟨v4,hv4,h⟩:=OB h
  let p4:Nat×AV:=(5,.v (.int .i64 v4))
  refine FN AC (s1:=⟨Fr 40 [p4],[]⟩) kr ?_ ?_
  ·refine BR (n:=40) AC 4 [(4,.pt 1 0 0),(19,.v (.bool (x0.1.2.2.2.1==0)))] [p3,p2] kr kr ?_
   refine B5 (caps:=[]) (xs:=[.v (.bool (x0.1.2.2.2.1==0))]) (u:=((x0.1.2.2.2.1==0),())) rfl rfl NZ rfl (AB rfl) kr kr (AU (Ao (c:=cdB) (v:=(x0.1.2.2.2.1==0))) Bf) kr hv2 ?_;refine BR (n:=40) AC 4 [(20,.v (.int .i64 v2)),(24,.v (.bool (x1.1.2.2.2.1==0)))] [p3,p2] kr kr ?_;refine B5 (caps:=[]) (xs:=[.v (.bool (x1.1.2.2.2.1==0))]) (u:=((x1.1.2.2.2.1==0),())) rfl rfl NZ rfl (AB rfl) kr kr (AU (Ao (c:=cdB) (v:=(x1.1.2.2.2.1==0))) Bf) kr hv3 ?_;refine B5 (caps:=[]) (xs:=[.v (.int .i64 v2),.v (.int .i64 v3)]) (u:=(v2,v3,())) rfl rfl Da rfl (AB rfl) kr kr (AU (Ao (c:=cdI) (v:=v2)) (AU (Ao (c:=cdI) (v:=v3)) Bf)) kr hv4 ?_;refine BR (n:=40) AC 1 [p4] [p3,p2] kr kr ?_;exact RunDS.done rfl (AZ [] trivial ⟨lv,trivial⟩)
  refine AT ?_;have hq:=OI h; subst hq;exact ⟨⟨Fr 40 [p4],[]⟩,AO,.inr rfl,[.v (.int .i64 v4)],kr,kr⟩
 ·rw [CK hb1] at h
  refine AP ?_;refine AG ?_;obtain ⟨v5,hv5,h⟩:=OB h
  let p5:Nat×AV:=(6,.v (.int .i64 v5))
  refine AH (s1:=⟨Fr 40 [p1,p5],[]⟩) ?_ ?_
  ·refine AD (n:=40) AC 6 [p1,(29,.v (.int .i64 x0.1.2.2.2.1)),(32,.v (.int .i64 x1.1.2.2.2.1))] [p3,p2] kr ?_
   refine Ai (caps:=[]) (xs:=[.v (.int .i64 x0.1.2.2.2.1),.v (.int .i64 x1.1.2.2.2.1)]) (u:=(x0.1.2.2.2.1,x1.1.2.2.2.1,())) rfl rfl Da rfl (AB rfl) kr kr (AU (Ao (c:=cdI) (v:=x0.1.2.2.2.1)) (AU (Ao (c:=cdI) (v:=x1.1.2.2.2.1)) Bf)) (.inl kr) hv5 ?_;refine AD (n:=40) AC 1 [p1,p5] [p3,p2] kr ?_;exact AL rfl (AZ [] trivial ⟨lv,lv,trivial⟩)
  refine AG ?_;refine AJ AC [p5,(36,.v (.bool (x2.1==3)))] [] ?_;obtain ⟨r8,hr8,h⟩:=OB h;refine Cg (Kd x2 v5 _ hr8) ?_;refine AJ AC [(5,.v (.int .i64 r8))] [] ?_;refine AT ?_;have hq:=OI h; subst hq;exact ⟨⟨Fr 40 [(5,.v (.int .i64 r8))],[]⟩,AO,.inr rfl,[.v (.int .i64 r8)],kr,kr⟩
def NN:List AV->Option AV:=EA HA (fun a=>CV a.1 a.2.1 a.2.2.1) HN
theorem J7:XOk 179 NN:=by
 refine AW Tryz.func179 (c:=G4) ?h2 ⟨Tryz.call179⟩ HA (fun a=>CV a.1 a.2.1 a.2.2.1) HN (fun a=>(by show 3<=40; decide)) ?h3 ?h4
 case h2=>kernel_rfl
 case h3=>intro b; kernel_rfl
 case h4=>exact fun a b h=>LQ a.1 a.2.1 a.2.2.1 b h
/- cmp.isNaN[string] -/
noncomputable def Hi:Code:=Bn Tryz.f207
def DG (x0:(List UInt8)):Option (Bool) :=
 some (!(x0==x0))
def Fc:Cs ((List UInt8)×Unit):=(csC cdS csN)
def Fd (r:Bool):AV:=cdB.enc r
theorem KI (x0:(List UInt8)) (r:Bool) (h:DG x0=some r):Sem E0 ⟨none,false⟩ Hi ⟨Fr 6 (BK 0 (Fc.enc (x0,()))),[]⟩ fun e s'=>(e = .normal\/e = .ret)/\∃ xs,Ej E0.P s'.fr s'.hp Tryz.f207.results.toList=some xs/\Eu xs=Fd r:=by
 unfold DG at h;refine A3 (Bo (s1:=⟨Fr 6 [(0,.st x0)],[]⟩) AO ?_);refine AJ AC [(0,.st x0)] [] ?_;refine AJ AC [(2,.v (.bool (!(x0==x0))))] [] ?_;refine AT ?_;have hq:=OI h; subst hq;exact ⟨⟨Fr 6 [(2,.v (.bool (!(x0==x0))))],[]⟩,AO,.inr rfl,[.v (.bool (!(x0==x0)))],kr,kr⟩
def K9:List AV->Option AV:=EA Fc (fun a=>DG a.1) Fd
theorem ID:XOk 207 K9:=by
 refine AW Tryz.func207 (c:=Hi) ?h2 ⟨Tryz.call207⟩ Fc (fun a=>DG a.1) Fd (fun a=>(by show 1<=6; decide)) ?h3 ?h4
 case h2=>kernel_rfl
 case h3=>intro b; kernel_rfl
 case h4=>exact fun a b h=>KI a.1 b h
/- cmp.Compare[string] -/
noncomputable def Gn:Code:=Bn Tryz.f188
def Cj (x0:(List UInt8)) (x1:(List UInt8)):Option (Int) :=
 (DG x0).bind fun v1 =>
 (DG x1).bind fun v2 =>
 if v1=true then
 if v2=true then
 some 0
 else
 some (-1)
 else
 if v2=true then
 some 1
 else
 if (Go.Op.bytesLess x0 x1)=true then
 some (-1)
 else
 if (!((Go.Op.bytesLess x0 x1)||(x0==x1)))=true then
 some 1
 else
 some 0
def Eo:Cs ((List UInt8)×(List UInt8)×Unit):=(csC cdS (csC cdS csN))
def Eq (r:Int):AV:=cdI.enc r
theorem JU (x0:(List UInt8)) (x1:(List UInt8)) (r:Int) (h:Cj x0 x1=some r):Sem E0 ⟨none,false⟩ Gn ⟨Fr 20 (BK 0 (Eo.enc (x0,x1,()))),[]⟩ fun e s'=>(e = .normal\/e = .ret)/\∃ xs,Ej E0.P s'.fr s'.hp Tryz.f188.results.toList=some xs/\Eu xs=Eq r:=by
 unfold Cj at h;refine A3 (Bo (s1:=⟨Fr 20 [(0,.st x0),(1,.st x1)],[]⟩) AO ?_);refine AJ AC [(0,.st x0),(1,.st x1)] [] ?_;refine AG ?_;obtain ⟨v1,hv1,h⟩:=OB h
 let p1:Nat×AV:=(5,.v (.bool v1))
 refine AH (s1:=⟨Fr 20 [(0,.st x0),(1,.st x1),p1],[]⟩) ?_ ?_
 ·refine AD (n:=20) AC 1 [(0,.st x0),(1,.st x1),(7,.st x0)] [] kr ?_
  refine Ai (caps:=[]) (xs:=[.st x0]) (u:=(x0,())) rfl rfl ID rfl (AB rfl) kr kr (AU (Ao (c:=cdS) (v:=x0)) Bf) (.inl kr) hv1 ?_;exact AN AC
 refine AG ?_;obtain ⟨v2,hv2,h⟩:=OB h;refine AH (s1:=⟨Fr 20 [(0,.st x0),(1,.st x1),p1,(6,.v (.bool v2))],[]⟩) ?_ ?_
 ·refine AD (n:=20) AC 1 [(0,.st x0),(1,.st x1),p1,(9,.st x1)] [] kr ?_
  refine Ai (caps:=[]) (xs:=[.st x1]) (u:=(x1,())) rfl rfl ID rfl (AB rfl) kr kr (AU (Ao (c:=cdS) (v:=x1)) Bf) (.inl kr) hv2 ?_;exact AN AC
 refine AG ?_;refine AJ AC [(0,.st x0),(1,.st x1),(6,.v (.bool v2)),(11,.v (.bool v1))] [] ?_;refine AM (b:=v1) kr (fun hb3=>?_) (fun hb3=>?_)
 ·rw [if_pos hb3] at h
  refine AG ?_;refine AJ AC [(12,.v (.bool v2))] [] ?_;refine AM (b:=v2) kr (fun hb4=>?_) (fun hb4=>?_)
  ·rw [if_pos hb4] at h
   refine AJ AC [(4,.v (.int .i64 0))] [] ?_;refine AT ?_;have hq:=OI h; subst hq;exact ⟨⟨Fr 20 [(4,.v (.int .i64 0))],[]⟩,AO,.inr rfl,[.v (.int .i64 0)],kr,kr⟩
  ·rw [CK hb4] at h
   refine AP ?_;refine AJ AC [(4,.v (.int .i64 (-1)))] [] ?_;refine AT ?_;have hq:=OI h; subst hq;exact ⟨⟨Fr 20 [(4,.v (.int .i64 (-1)))],[]⟩,AO,.inr rfl,[.v (.int .i64 (-1))],kr,kr⟩
 ·rw [CK hb3] at h
  refine AP ?_;refine AG ?_;refine AJ AC [(0,.st x0),(1,.st x1),(13,.v (.bool v2))] [] ?_;refine AM (b:=v2) kr (fun hb5=>?_) (fun hb5=>?_)
  ·rw [if_pos hb5] at h
   refine AJ AC [(4,.v (.int .i64 1))] [] ?_;refine AT ?_;have hq:=OI h; subst hq;exact ⟨⟨Fr 20 [(4,.v (.int .i64 1))],[]⟩,AO,.inr rfl,[.v (.int .i64 1)],kr,kr⟩
  ·rw [CK hb5] at h
   refine AP ?_;refine AG ?_;refine AJ AC [(0,.st x0),(1,.st x1),(16,.v (.bool (Go.Op.bytesLess x0 x1)))] [] ?_;refine AM (b:=(Go.Op.bytesLess x0 x1)) kr (fun hb6=>?_) (fun hb6=>?_)
   ·rw [if_pos hb6] at h
    refine AJ AC [(4,.v (.int .i64 (-1)))] [] ?_;refine AT ?_;have hq:=OI h; subst hq;exact ⟨⟨Fr 20 [(4,.v (.int .i64 (-1)))],[]⟩,AO,.inr rfl,[.v (.int .i64 (-1))],kr,kr⟩
   ·rw [CK hb6] at h
    refine AP ?_;refine AG ?_;refine AJ AC [(19,.v (.bool (!((Go.Op.bytesLess x0 x1)||(x0==x1)))))] [] ?_;refine AM (b:=(!((Go.Op.bytesLess x0 x1)||(x0==x1)))) kr (fun hb7=>?_) (fun hb7=>?_)
    ·rw [if_pos hb7] at h
     refine AJ AC [(4,.v (.int .i64 1))] [] ?_;refine AT ?_;have hq:=OI h; subst hq;exact ⟨⟨Fr 20 [(4,.v (.int .i64 1))],[]⟩,AO,.inr rfl,[.v (.int .i64 1)],kr,kr⟩
    ·rw [CK hb7] at h
     refine AP ?_;refine AJ AC [(4,.v (.int .i64 0))] [] ?_;refine AT ?_;have hq:=OI h; subst hq;exact ⟨⟨Fr 20 [(4,.v (.int .i64 0))],[]⟩,AO,.inr rfl,[.v (.int .i64 0)],kr,kr⟩
def KN:List AV->Option AV:=EA Eo (fun a=>Cj a.1 a.2.1) Eq
theorem KP:XOk 188 KN:=by
 refine AW Tryz.func188 (c:=Gn) ?h2 ⟨Tryz.call188⟩ Eo (fun a=>Cj a.1 a.2.1) Eq (fun a=>(by show 2<=20; decide)) ?h3 ?h4
 case h2=>kernel_rfl
 case h3=>intro b; kernel_rfl
 case h4=>exact fun a b h=>JU a.1 a.2.1 b h
/- trestle/court.plain$7 -/
noncomputable def JJ:Code:=Bn Tryz.f187
def Dw (x0:Ad) (x1:Ad):Option (Int) :=
 (Cj x0.1.1 x1.1.1).bind fun v1 =>
 some v1
def HF:Cs (Ad×Ad×Unit):=(csC AF (csC AF csN))
def HT (r:Int):AV:=cdI.enc r
theorem LW (x0:Ad) (x1:Ad) (r:Int) (h:Dw x0 x1=some r):Sem E0 ⟨none,false⟩ JJ ⟨Fr 12 (BK 0 (HF.enc (x0,x1,()))),[]⟩ fun e s'=>(e = .normal\/e = .ret)/\∃ xs,Ej E0.P s'.fr s'.hp Tryz.f187.results.toList=some xs/\Eu xs=HT r:=by
 unfold Dw at h;refine A3 (Bo (s1:=⟨Fr 12 [(0,AF.enc x0),(1,AF.enc x1)],[]⟩) AO ?_)
 let p1:Option Blk:=some ⟨10,115,[AF.enc x1],false⟩
 let p2:Option Blk:=some ⟨10,115,[AF.enc x0],false⟩
 refine AJ AC [(2,.pt 0 0 0),(3,.pt 1 0 0)] [p2,p1] ?_;refine AG ?_;obtain ⟨v1,hv1,h⟩:=OB h
 let p3:Nat×AV:=(4,.v (.int .i64 v1))
 refine AH (s1:=⟨Fr 12 [p3],[]⟩) ?_ ?_
 ·refine AD (n:=12) AC 6 [(7,.st x0.1.1),(10,.st x1.1.1)] [p2,p1] kr ?_
  refine Ai (caps:=[]) (xs:=[.st x0.1.1,.st x1.1.1]) (u:=(x0.1.1,x1.1.1,())) rfl rfl KP rfl (AB rfl) kr kr (AU (Ao (c:=cdS) (v:=x0.1.1)) (AU (Ao (c:=cdS) (v:=x1.1.1)) Bf)) (.inl kr) hv1 ?_;refine AD (n:=12) AC 1 [p3] [p2,p1] kr ?_;exact AL rfl (AZ [] trivial ⟨lv,trivial⟩)
 refine AT ?_;have hq:=OI h; subst hq;exact ⟨⟨Fr 12 [p3],[]⟩,AO,.inr rfl,[.v (.int .i64 v1)],kr,kr⟩
def NS:List AV->Option AV:=EA HF (fun a=>Dw a.1 a.2.1) HT
theorem Nj:XOk 187 NS:=by
 refine AW Tryz.func187 (c:=JJ) ?h2 ⟨Tryz.call187⟩ HF (fun a=>Dw a.1 a.2.1) HT (fun a=>(by show 2<=12; decide)) ?h3 ?h4
 case h2=>kernel_rfl
 case h3=>intro b; kernel_rfl
 case h4=>exact fun a b h=>LW a.1 a.2.1 b h
/- trestle/court.plain$3 -/
noncomputable def JF:Code:=Bn Tryz.f182
def F5 (x0:Ad) (x1:AE):Option (Bool) :=
 some (x0.1.2.2.2.2.1==x1.2.2.2.2)
def HB:Cs (Ad×AE×Unit):=(csC AF (csC (cdP AA) csN))
def HO (r:Bool):AV:=cdB.enc r
theorem LR (x0:Ad) (x1:AE) (r:Bool) (h:F5 x0 x1=some r):Sem E0 ⟨none,false⟩ JF ⟨Fr 10 (BK 0 (HB.enc (x0,x1,()))),[]⟩ fun e s'=>(e = .normal\/e = .ret)/\∃ xs,Ej E0.P s'.fr s'.hp Tryz.f182.results.toList=some xs/\Eu xs=HO r:=by
 unfold F5 at h;refine A3 (Bo (s1:=⟨Fr 10 [(0,AF.enc x0),(1,.pe (AA.enc x1) 0)],[]⟩) AO ?_)
 let p1:Option Blk:=some ⟨10,115,[AF.enc x0],false⟩
 refine AJ AC [(1,.pe (AA.enc x1) 0),(2,.pt 0 0 0)] [p1] ?_;refine AG ?_
 let p2:Nat×AV:=(3,.v (.bool (x0.1.2.2.2.2.1==x1.2.2.2.2)))
 refine AH (s1:=⟨Fr 10 [p2],[]⟩) ?_ ?_
 ·refine AD (n:=10) AC 7 [p2] [p1] kr ?_
  exact AL rfl (AZ [] trivial ⟨lv,trivial⟩)
 refine AT ?_;have hq:=OI h; subst hq;exact ⟨⟨Fr 10 [p2],[]⟩,AO,.inr rfl,[.v (.bool (x0.1.2.2.2.2.1==x1.2.2.2.2))],kr,kr⟩
def NO:List AV->Option AV:=EA HB (fun a=>F5 a.1 a.2.1) HO
theorem Nf:XOk 182 NO:=by
 refine AW Tryz.func182 (c:=JF) ?h2 ⟨Tryz.call182⟩ HB (fun a=>F5 a.1 a.2.1) HO (fun a=>(by show 2<=10; decide)) ?h3 ?h4
 case h2=>kernel_rfl
 case h3=>intro b; kernel_rfl
 case h4=>exact fun a b h=>LR a.1 a.2.1 b h
/- trestle/court.named$1 -/
noncomputable def ED:Code:=Bn Tryz.f206
def Ay (x0:Ad) (x1:AE) (x2:AE):Option (Int) :=
 (F5 x0 x1).bind fun v1 =>
 if (!(v1==x2.2.2.1))=true then
 some 0
 else
 some 1
def Cv:Cs (Ad×AE×AE×Unit):=(csC AF (csC (cdP (cdF 182 (csE (cdP AA)) (fun _=>rfl))) (csC (cdP AA) csN)))
def C0 (r:Int):AV:=cdI.enc r
theorem GR (x0:Ad) (x1:AE) (x2:AE) (r:Int) (h:Ay x0 x1 x2=some r):Sem E0 ⟨none,false⟩ ED ⟨Fr 11 (BK 0 (Cv.enc (x0,x1,x2,()))),[]⟩ fun e s'=>(e = .normal\/e = .ret)/\∃ xs,Ej E0.P s'.fr s'.hp Tryz.f206.results.toList=some xs/\Eu xs=C0 r:=by
 unfold Ay at h
 let p1:Nat×AV:=(2,.pe (AA.enc x2) 0)
 let p2:Nat×AV:=(1,.pe (.fn 182 [] [.pe (AA.enc x1) 0]) 0)
 refine A3 (Bo (s1:=⟨Fr 11 [(0,AF.enc x0),p2,p1],[]⟩) AO ?_)
 let p3:Option Blk:=some ⟨10,115,[AF.enc x0],false⟩
 refine AJ AC [p2,p1,(3,.pt 0 0 0)] [p3] ?_;refine AG ?_;refine AG ?_;obtain ⟨v1,hv1,h⟩:=OB h
 let p4:Nat×AV:=(10,.v (.bool (!(v1==x2.2.2.1))))
 refine FN AC (s1:=⟨Fr 11 [p4],[]⟩) kr ?_ ?_
 ·refine BR (n:=11) AC 2 [p1,(5,.fn 182 [] [.pe (AA.enc x1) 0]),(6,AF.enc x0)] [p3] kr kr ?_
  refine B5 (caps:=[.pe (AA.enc x1) 0]) (xs:=[AF.enc x0]) (u:=(x0,x1,())) rfl rfl Nf rfl (AB rfl) kr kr (AU (Ao (c:=AF) (v:=x0)) (AU (Ao (c:=(cdP AA)) (v:=x1)) Bf)) kr hv1 ?_;refine BR (n:=11) AC 3 [p4] [p3] kr kr ?_;exact RunDS.done rfl (AZ [] trivial ⟨lv,trivial⟩)
 refine AM (b:=(!(v1==x2.2.2.1))) kr (fun hb2=>?_) (fun hb2=>?_)
 ·rw [if_pos hb2] at h
  refine AJ AC [(4,.v (.int .i64 0))] [] ?_;refine AT ?_;have hq:=OI h; subst hq;exact ⟨⟨Fr 11 [(4,.v (.int .i64 0))],[]⟩,AO,.inr rfl,[.v (.int .i64 0)],kr,kr⟩
 ·rw [CK hb2] at h
  refine AP ?_;refine AJ AC [(4,.v (.int .i64 1))] [] ?_;refine AT ?_;have hq:=OI h; subst hq;exact ⟨⟨Fr 11 [(4,.v (.int .i64 1))],[]⟩,AO,.inr rfl,[.v (.int .i64 1)],kr,kr⟩
def Gs:List AV->Option AV:=EA Cv (fun a=>Ay a.1 a.2.1 a.2.2.1) C0
theorem Gy:XOk 206 Gs:=by
 refine AW Tryz.func206 (c:=ED) ?h2 ⟨Tryz.call206⟩ Cv (fun a=>Ay a.1 a.2.1 a.2.2.1) C0 (fun a=>(by show 3<=11; decide)) ?h3 ?h4
 case h2=>kernel_rfl
 case h3=>intro b; kernel_rfl
 case h4=>exact fun a b h=>GR a.1 a.2.1 a.2.2.1 b h
/- trestle/court.plain$4 -/
noncomputable def JG:Code:=Bn Tryz.f183
def F6 (x0:Ad):Option (Bool) :=
 some x0.1.2.2.2.2.2.2.1
def HC:Cs (Ad×Unit):=(csC AF csN)
def HP (r:Bool):AV:=cdB.enc r
theorem LT (x0:Ad) (r:Bool) (h:F6 x0=some r):Sem E0 ⟨none,false⟩ JG ⟨Fr 6 (BK 0 (HC.enc (x0,()))),[]⟩ fun e s'=>(e = .normal\/e = .ret)/\∃ xs,Ej E0.P s'.fr s'.hp Tryz.f183.results.toList=some xs/\Eu xs=HP r:=by
 unfold F6 at h;refine A3 (Bo (s1:=⟨Fr 6 [(0,AF.enc x0)],[]⟩) AO ?_)
 let p1:Option Blk:=some ⟨10,115,[AF.enc x0],false⟩
 refine AJ AC [(1,.pt 0 0 0)] [p1] ?_;refine AG ?_
 let p2:Nat×AV:=(2,.v (.bool x0.1.2.2.2.2.2.2.1))
 refine AH (s1:=⟨Fr 6 [p2],[]⟩) ?_ ?_
 ·refine AD (n:=6) AC 4 [p2] [p1] kr ?_
  exact AL rfl (AZ [] trivial ⟨lv,trivial⟩)
 refine AT ?_;have hq:=OI h; subst hq;exact ⟨⟨Fr 6 [p2],[]⟩,AO,.inr rfl,[.v (.bool x0.1.2.2.2.2.2.2.1)],kr,kr⟩
def NP:List AV->Option AV:=EA HC (fun a=>F6 a.1) HP
theorem Ng:XOk 183 NP:=by
 refine AW Tryz.func183 (c:=JG) ?h2 ⟨Tryz.call183⟩ HC (fun a=>F6 a.1) HP (fun a=>(by show 1<=6; decide)) ?h3 ?h4
 case h2=>kernel_rfl
 case h3=>intro b; kernel_rfl
 case h4=>exact fun a b h=>LT a.1 b h
/- trestle/court.named$1 -/
noncomputable def EE:Code:=Bn Tryz.f206
def Az (x0:Ad) (x2:AE):Option (Int) :=
 (F6 x0).bind fun v1 =>
 if (!(v1==x2.2.2.1))=true then
 some 0
 else
 some 1
def Cw:Cs (Ad×Unit×AE×Unit):=(csC AF (csC (cdP (cdF 183 csN (fun _=>rfl))) (csC (cdP AA) csN)))
def C1 (r:Int):AV:=cdI.enc r
theorem GS (x0:Ad) (x2:AE) (r:Int) (h:Az x0 x2=some r):Sem E0 ⟨none,false⟩ EE ⟨Fr 11 (BK 0 (Cw.enc (x0,(),x2,()))),[]⟩ fun e s'=>(e = .normal\/e = .ret)/\∃ xs,Ej E0.P s'.fr s'.hp Tryz.f206.results.toList=some xs/\Eu xs=C1 r:=by
 unfold Az at h
 let p1:Nat×AV:=(2,.pe (AA.enc x2) 0)
 refine A3 (Bo (s1:=⟨Fr 11 [(0,AF.enc x0),(1,.pe (.fn 183 [] []) 0),p1],[]⟩) AO ?_)
 let p2:Option Blk:=some ⟨10,115,[AF.enc x0],false⟩
 refine AJ AC [(1,.pe (.fn 183 [] []) 0),p1,(3,.pt 0 0 0)] [p2] ?_;refine AG ?_;refine AG ?_;obtain ⟨v1,hv1,h⟩:=OB h
 let p3:Nat×AV:=(10,.v (.bool (!(v1==x2.2.2.1))))
 refine FN AC (s1:=⟨Fr 11 [p3],[]⟩) kr ?_ ?_
 ·refine BR (n:=11) AC 2 [p1,(5,.fn 183 [] []),(6,AF.enc x0)] [p2] kr kr ?_
  refine B5 (caps:=[]) (xs:=[AF.enc x0]) (u:=(x0,())) rfl rfl Ng rfl (AB rfl) kr kr (AU (Ao (c:=AF) (v:=x0)) Bf) kr hv1 ?_;refine BR (n:=11) AC 3 [p3] [p2] kr kr ?_;exact RunDS.done rfl (AZ [] trivial ⟨lv,trivial⟩)
 refine AM (b:=(!(v1==x2.2.2.1))) kr (fun hb2=>?_) (fun hb2=>?_)
 ·rw [if_pos hb2] at h
  refine AJ AC [(4,.v (.int .i64 0))] [] ?_;refine AT ?_;have hq:=OI h; subst hq;exact ⟨⟨Fr 11 [(4,.v (.int .i64 0))],[]⟩,AO,.inr rfl,[.v (.int .i64 0)],kr,kr⟩
 ·rw [CK hb2] at h
  refine AP ?_;refine AJ AC [(4,.v (.int .i64 1))] [] ?_;refine AT ?_;have hq:=OI h; subst hq;exact ⟨⟨Fr 11 [(4,.v (.int .i64 1))],[]⟩,AO,.inr rfl,[.v (.int .i64 1)],kr,kr⟩
def Gt:List AV->Option AV:=EA Cw (fun a=>Az a.1 a.2.2.1) C1
theorem Gz:XOk 206 Gt:=by
 refine AW Tryz.func206 (c:=EE) ?h2 ⟨Tryz.call206⟩ Cw (fun a=>Az a.1 a.2.2.1) C1 (fun a=>(by show 3<=11; decide)) ?h3 ?h4
 case h2=>kernel_rfl
 case h3=>intro b; kernel_rfl
 case h4=>exact fun a b h=>GS a.1 a.2.2.1 b h
/- trestle/court.plain$5$1 -/
noncomputable def H2:Code:=Bn Tryz.f185
def Df (x0:(List UInt8)) (x1:AE):Option (Bool) :=
 (Al x1.2.2.2.1 x0).bind fun v1 =>
 some v1
def GB:Cs ((List UInt8)×AE×Unit):=(csC cdS (csC (cdP AA) csN))
def GG (r:Bool):AV:=cdB.enc r
theorem Ke (x0:(List UInt8)) (x1:AE) (r:Bool) (h:Df x0 x1=some r):Sem E0 ⟨none,false⟩ H2 ⟨Fr 8 (BK 0 (GB.enc (x0,x1,()))),[]⟩ fun e s'=>(e = .normal\/e = .ret)/\∃ xs,Ej E0.P s'.fr s'.hp Tryz.f185.results.toList=some xs/\Eu xs=GG r:=by
 unfold Df at h;refine A3 (Bo (s1:=⟨Fr 8 [(0,.st x0),(1,.pe (AA.enc x1) 0)],[]⟩) AO ?_);refine AJ AC [(0,.st x0),(1,.pe (AA.enc x1) 0)] [] ?_;refine AG ?_;obtain ⟨v1,hv1,h⟩:=OB h;refine AH (s1:=⟨Fr 8 [(3,.v (.bool v1))],[]⟩) ?_ ?_
 ·refine AD (n:=8) AC 3 [(5,.sl 1 (x1.2.2.2.1.map cdS.enc)),(6,.st x0)] [] kr ?_
  refine Ai (caps:=[]) (xs:=[.sl 1 (x1.2.2.2.1.map cdS.enc),.st x0]) (u:=(x1.2.2.2.1,x0,())) rfl rfl CJ rfl (AB rfl) kr kr (AU (Ao (c:=(cdL 1 cdS)) (v:=x1.2.2.2.1)) (AU (Ao (c:=cdS) (v:=x0)) Bf)) (.inl kr) hv1 ?_;exact AN AC
 refine AT ?_;have hq:=OI h; subst hq;exact ⟨⟨Fr 8 [(3,.v (.bool v1))],[]⟩,AO,.inr rfl,[.v (.bool v1)],kr,kr⟩
def L0:List AV->Option AV:=EA GB (fun a=>Df a.1 a.2.1) GG
theorem L4:XOk 185 L0:=by
 refine AW Tryz.func185 (c:=H2) ?h2 ⟨Tryz.call185⟩ GB (fun a=>Df a.1 a.2.1) GG (fun a=>(by show 2<=8; decide)) ?h3 ?h4
 case h2=>kernel_rfl
 case h3=>intro b; kernel_rfl
 case h4=>exact fun a b h=>Ke a.1 a.2.1 b h
/- slices.IndexFunc[[]string,string] -/
noncomputable def BN:Code:=Bn Tryz.f90
def Am (x0:(List (List UInt8))) (x1:AE):Nat->Int->Option ((Unit) ⊕ (Int))
 | 0,_=>none
 | f + 1,c1 =>
  if (decide (c1 < (x0.length:Int)))=true then
  (idx x0 c1).bind fun v3 =>
  (Df v3 x1).bind fun v4 =>
  if v4=true then
  some (.inr c1)
  else
  Am x0 x1 f (wr .i64 (c1 + 1))
  else
  some (.inl ())
def Af (x0:(List (List UInt8))) (x1:AE):Option (Int) :=
 (Am x0 x1 100000 0).bind fun r7 =>
 match r7 with
 | (.inl _w8) =>
  some (-1)
 | (.inr w9) =>
  some w9
def BO:Cs ((List (List UInt8))×AE×Unit):=(csC (cdL 1 cdS) (csC (cdF 185 (csE (cdP AA)) (fun _=>rfl)) csN))
def BP (r:Int):AV:=cdI.enc r
theorem Bz (x0:(List (List UInt8))) (x1:AE):∀ (f:Nat) (c1:Int) (r:(Unit) ⊕ (Int)),Am x0 x1 f c1=some r->SemN E0 ⟨none,false⟩ (pc BN [1,0,1,0,0]) f ⟨Fr 19 [(0,.sl 1 (x0.map cdS.enc)),(1,.fn 185 [] [.pe (AA.enc x1) 0]),(7,.v (.int .i64 (x0.length:Int))),(8,.v (.int .i64 c1))],[]⟩ (fun e s=>match r with
 | (.inl _w)=>e=(.exit 0)/\Wk E0 s ⟨Fr 19 [],[]⟩
 | (.inr w)=>e = .ret/\Wk E0 s ⟨Fr 19 [(4,.v (.int .i64 w))],[]⟩):=by
 intro f;induction f with
 | zero=>intro c1 r h; cases h
 | succ f ih0 =>
  intro c1 r h
  have ih:=fun (c1:Int)=>ih0 c1 r
  unfold Am at h;refine B6 ?_
  let p1:Nat×AV:=(8,.v (.int .i64 c1))
  let p2:Nat×AV:=(7,.v (.int .i64 (x0.length:Int)))
  let p3:Nat×AV:=(1,.fn 185 [] [.pe (AA.enc x1) 0])
  let p4:Nat×AV:=(0,.sl 1 (x0.map cdS.enc))
  refine AJ AC [p4,p3,p2,p1,(9,.v (.bool (decide (c1 < (x0.length:Int)))))] [] ?_;refine AG ?_;refine AM (b:=(decide (c1 < (x0.length:Int)))) kr (fun hb2=>?_) (fun hb2=>?_)
  ·rw [if_pos hb2] at h
   refine AP ?_;refine AG ?_;refine Aj ?_
   let p5:Nat×AV:=(5,.v (.int .i64 c1))
   refine AJ AC [p4,p3,p5,p2,p1] [] ?_;refine AG ?_;obtain ⟨v3,hv3,h⟩:=OB h;obtain ⟨v4,hv4,h⟩:=OB h;refine AH (s1:=⟨Fr 19 [p4,p3,p5,p2,p1,(16,.v (.bool v4))],[]⟩) ?_ ?_
   ·let p6:Nat×AV:=(11,.fn 185 [] [.pe (AA.enc x1) 0])
    refine AD (n:=19) AC 3 [p4,p3,p5,p2,p1,p6,(12,.sl 1 (x0.map cdS.enc)),(13,.v (.int .i64 c1))] [] kr ?_;refine AK AC 0 rfl (CZ (AB rfl) rfl (AQ (a:= .sl 1 (x0.map cdS.enc)) (b:= .v (.int .i64 c1)) kr kr (GW (e:=cdS.enc) (el:=9) (k:=1) (ki:= .i64) kr kr hv3))) ?_;refine AD (n:=19) AC 1 [p4,p3,p5,p2,p1,p6,(15,.st v3)] [] kr ?_;refine Ai (caps:=[.pe (AA.enc x1) 0]) (xs:=[.st v3]) (u:=(v3,x1,())) rfl rfl L4 rfl (AB rfl) kr kr (AU (Ao (c:=cdS) (v:=v3)) (AU (Ao (c:=(cdP AA)) (v:=x1)) Bf)) (.inl kr) hv4 ?_;exact AL rfl AO
   refine AM (b:=v4) kr (fun hb5=>?_) (fun hb5=>?_)
   ·rw [if_pos hb5] at h
    refine AJ AC [(4,.v (.int .i64 c1))] [] ?_;refine AT ?_;have hq:=OI h; subst hq;exact ⟨rfl,AO⟩
   ·rw [CK hb5] at h
    refine AP ?_
    let p7:Nat×AV:=(8,.v (.int .i64 (wr .i64 (c1 + 1))))
    refine DD AC [p4,p3,p2,p7] [] ?_;exact Aw (s1:=⟨Fr 19 [p4,p3,p2,p7],[]⟩) AO (ih (wr .i64 (c1 + 1)) h)
  ·rw [CK hb2] at h
   refine Cc ?_;have hq:=OI h; subst hq;exact ⟨rfl,AO⟩
theorem Dh (x0:(List (List UInt8))) (x1:AE) (r:Int) (h:Af x0 x1=some r):Sem E0 ⟨none,false⟩ BN ⟨Fr 19 (BK 0 (BO.enc (x0,x1,()))),[]⟩ fun e s'=>(e = .normal\/e = .ret)/\∃ xs,Ej E0.P s'.fr s'.hp Tryz.f90.results.toList=some xs/\Eu xs=BP r:=by
 unfold Af at h
 let p1:Nat×AV:=(1,.fn 185 [] [.pe (AA.enc x1) 0])
 let p2:Nat×AV:=(0,.sl 1 (x0.map cdS.enc))
 refine A3 (Bo (s1:=⟨Fr 19 [p2,p1],[]⟩) AO ?_);refine AJ AC [p2,p1] [] ?_;refine AG ?_;refine AG ?_
 let p3:Nat×AV:=(8,.v (.int .i64 0))
 let p4:Nat×AV:=(7,.v (.int .i64 (x0.length:Int)))
 refine AH (s1:=⟨Fr 19 [p2,p1,p4,p3],[]⟩) ?_ ?_
 ·refine AD (n:=19) AC 1 [p2,p1,(6,.sl 1 (x0.map cdS.enc))] [] kr ?_
  refine AK AC 0 rfl (CZ (AB rfl) rfl (DS (a:= .sl 1 (x0.map cdS.enc)) kr (B4 (el:=9) kr))) ?_;exact AN AC
 refine Aj ?_;obtain ⟨r7,hr7,h⟩:=OB h;refine Ch (n:=100000) ?_;rcases r7 with w8 | w9
 ·try dsimp only at h
  refine BQ (Aw (s1:=⟨Fr 19 [p2,p1,p4,p3],[]⟩) AO (Bz x0 x1 _ 0 _ hr7)) ?_;refine AJ AC [(4,.v (.int .i64 (-1)))] [] ?_;refine AT ?_;have hq:=OI h; subst hq;exact ⟨⟨Fr 19 [(4,.v (.int .i64 (-1)))],[]⟩,AO,.inr rfl,[.v (.int .i64 (-1))],kr,kr⟩
 ·try dsimp only at h
  refine BQ (Aw (s1:=⟨Fr 19 [p2,p1,p4,p3],[]⟩) AO (Bz x0 x1 _ 0 _ hr7)) ?_;have hq:=OI h; subst hq;exact ⟨⟨Fr 19 [(4,.v (.int .i64 w9))],[]⟩,AO,.inr rfl,[.v (.int .i64 w9)],kr,kr⟩
def Dq:List AV->Option AV:=EA BO (fun a=>Af a.1 a.2.1) BP
theorem Dr:XOk 90 Dq:=by
 refine AW Tryz.func90 (c:=BN) ?h2 ⟨Tryz.call90⟩ BO (fun a=>Af a.1 a.2.1) BP (fun a=>(by show 2<=19; decide)) ?h3 ?h4
 case h2=>kernel_rfl
 case h3=>intro b; kernel_rfl
 case h4=>exact fun a b h=>Dh a.1 a.2.1 b h
/- slices.ContainsFunc[[]string,string] -/
noncomputable def By:Code:=Bn Tryz.f36
def AX (x0:(List (List UInt8))) (x1:AE):Option (Bool) :=
 (Af x0 x1).bind fun v1 =>
 some (decide (v1≥0))
def BD:Cs ((List (List UInt8))×AE×Unit):=(csC (cdL 1 cdS) (csC (cdF 185 (csE (cdP AA)) (fun _=>rfl)) csN))
def BF (r:Bool):AV:=cdB.enc r
theorem DP (x0:(List (List UInt8))) (x1:AE) (r:Bool) (h:AX x0 x1=some r):Sem E0 ⟨none,false⟩ By ⟨Fr 9 (BK 0 (BD.enc (x0,x1,()))),[]⟩ fun e s'=>(e = .normal\/e = .ret)/\∃ xs,Ej E0.P s'.fr s'.hp Tryz.f36.results.toList=some xs/\Eu xs=BF r:=by
 unfold AX at h
 let p1:Nat×AV:=(1,.fn 185 [] [.pe (AA.enc x1) 0])
 refine A3 (Bo (s1:=⟨Fr 9 [(0,.sl 1 (x0.map cdS.enc)),p1],[]⟩) AO ?_);refine AJ AC [(0,.sl 1 (x0.map cdS.enc)),p1] [] ?_;refine AG ?_;obtain ⟨v1,hv1,h⟩:=OB h
 let p2:Nat×AV:=(4,.v (.bool (decide (v1≥0))))
 refine AH (s1:=⟨Fr 9 [p2],[]⟩) ?_ ?_
 ·refine AD (n:=9) AC 2 [(5,.sl 1 (x0.map cdS.enc)),(6,.fn 185 [] [.pe (AA.enc x1) 0])] [] kr ?_
  refine Ai (caps:=[]) (xs:=[.sl 1 (x0.map cdS.enc),.fn 185 [] [.pe (AA.enc x1) 0]]) (u:=(x0,x1,())) rfl rfl Dr rfl (AB rfl) kr kr (AU (Ao (c:=(cdL 1 cdS)) (v:=x0)) (AU (Sm.fn (OX (Ao (c:=(cdP AA)) (v:=x1)))) Bf)) (.inl kr) hv1 ?_;exact AN AC
 refine AT ?_;have hq:=OI h; subst hq;exact ⟨⟨Fr 9 [p2],[]⟩,AO,.inr rfl,[.v (.bool (decide (v1≥0)))],kr,kr⟩
def DZ:List AV->Option AV:=EA BD (fun a=>AX a.1 a.2.1) BF
theorem Db:XOk 36 DZ:=by
 refine AW Tryz.func36 (c:=By) ?h2 ⟨Tryz.call36⟩ BD (fun a=>AX a.1 a.2.1) BF (fun a=>(by show 2<=9; decide)) ?h3 ?h4
 case h2=>kernel_rfl
 case h3=>intro b; kernel_rfl
 case h4=>exact fun a b h=>DP a.1 a.2.1 b h
/- trestle/court.plain$5 -/
noncomputable def JH:Code:=Bn Tryz.f184
def Ey (x0:Ad) (x1:AE):Option (Bool) :=
 (AX x0.1.2.2.2.2.2.2.2.2 x1).bind fun v1 =>
 some v1
def HD:Cs (Ad×AE×Unit):=(csC AF (csC (cdP AA) csN))
def HQ (r:Bool):AV:=cdB.enc r
theorem LU (x0:Ad) (x1:AE) (r:Bool) (h:Ey x0 x1=some r):Sem E0 ⟨none,false⟩ JH ⟨Fr 9 (BK 0 (HD.enc (x0,x1,()))),[]⟩ fun e s'=>(e = .normal\/e = .ret)/\∃ xs,Ej E0.P s'.fr s'.hp Tryz.f184.results.toList=some xs/\Eu xs=HQ r:=by
 unfold Ey at h;refine A3 (Bo (s1:=⟨Fr 9 [(0,AF.enc x0),(1,.pe (AA.enc x1) 0)],[]⟩) AO ?_)
 let p1:Option Blk:=some ⟨10,115,[AF.enc x0],false⟩
 refine AJ AC [(1,.pe (AA.enc x1) 0),(2,.pt 0 0 0)] [p1] ?_;refine AG ?_;obtain ⟨v1,hv1,h⟩:=OB h
 let p2:Nat×AV:=(3,.v (.bool v1))
 refine AH (s1:=⟨Fr 9 [p2],[]⟩) ?_ ?_
 ·refine AD (n:=9) AC 4 [(6,.sl 1 (x0.1.2.2.2.2.2.2.2.2.map cdS.enc)),(7,.fn 185 [] [.pe (AA.enc x1) 0])] [p1] kr ?_
  refine Ai (caps:=[]) (xs:=[.sl 1 (x0.1.2.2.2.2.2.2.2.2.map cdS.enc),.fn 185 [] [.pe (AA.enc x1) 0]]) (u:=(x0.1.2.2.2.2.2.2.2.2,x1,())) rfl rfl Db rfl (AB rfl) kr kr (AU (Ao (c:=(cdL 1 cdS)) (v:=x0.1.2.2.2.2.2.2.2.2)) (AU (Sm.fn (OX (Ao (c:=(cdP AA)) (v:=x1)))) Bf)) (.inl kr) hv1 ?_;refine AD (n:=9) AC 1 [p2] [p1] kr ?_;exact AL rfl (AZ [] trivial ⟨lv,trivial⟩)
 refine AT ?_;have hq:=OI h; subst hq;exact ⟨⟨Fr 9 [p2],[]⟩,AO,.inr rfl,[.v (.bool v1)],kr,kr⟩
def NQ:List AV->Option AV:=EA HD (fun a=>Ey a.1 a.2.1) HQ
theorem Nh:XOk 184 NQ:=by
 refine AW Tryz.func184 (c:=JH) ?h2 ⟨Tryz.call184⟩ HD (fun a=>Ey a.1 a.2.1) HQ (fun a=>(by show 2<=9; decide)) ?h3 ?h4
 case h2=>kernel_rfl
 case h3=>intro b; kernel_rfl
 case h4=>exact fun a b h=>LU a.1 a.2.1 b h
/- trestle/court.named$1 -/
noncomputable def EF:Code:=Bn Tryz.f206
def Au (x0:Ad) (x1:AE) (x2:AE):Option (Int) :=
 (Ey x0 x1).bind fun v1 =>
 if (!(v1==x2.2.2.1))=true then
 some 0
 else
 some 1
def Cy:Cs (Ad×AE×AE×Unit):=(csC AF (csC (cdP (cdF 184 (csE (cdP AA)) (fun _=>rfl))) (csC (cdP AA) csN)))
def C2 (r:Int):AV:=cdI.enc r
theorem GT (x0:Ad) (x1:AE) (x2:AE) (r:Int) (h:Au x0 x1 x2=some r):Sem E0 ⟨none,false⟩ EF ⟨Fr 11 (BK 0 (Cy.enc (x0,x1,x2,()))),[]⟩ fun e s'=>(e = .normal\/e = .ret)/\∃ xs,Ej E0.P s'.fr s'.hp Tryz.f206.results.toList=some xs/\Eu xs=C2 r:=by
 unfold Au at h
 let p1:Nat×AV:=(2,.pe (AA.enc x2) 0)
 let p2:Nat×AV:=(1,.pe (.fn 184 [] [.pe (AA.enc x1) 0]) 0)
 refine A3 (Bo (s1:=⟨Fr 11 [(0,AF.enc x0),p2,p1],[]⟩) AO ?_)
 let p3:Option Blk:=some ⟨10,115,[AF.enc x0],false⟩
 refine AJ AC [p2,p1,(3,.pt 0 0 0)] [p3] ?_;refine AG ?_;refine AG ?_;obtain ⟨v1,hv1,h⟩:=OB h
 let p4:Nat×AV:=(10,.v (.bool (!(v1==x2.2.2.1))))
 refine FN AC (s1:=⟨Fr 11 [p4],[]⟩) kr ?_ ?_
 ·refine BR (n:=11) AC 2 [p1,(5,.fn 184 [] [.pe (AA.enc x1) 0]),(6,AF.enc x0)] [p3] kr kr ?_
  refine B5 (caps:=[.pe (AA.enc x1) 0]) (xs:=[AF.enc x0]) (u:=(x0,x1,())) rfl rfl Nh rfl (AB rfl) kr kr (AU (Ao (c:=AF) (v:=x0)) (AU (Ao (c:=(cdP AA)) (v:=x1)) Bf)) kr hv1 ?_;refine BR (n:=11) AC 3 [p4] [p3] kr kr ?_;exact RunDS.done rfl (AZ [] trivial ⟨lv,trivial⟩)
 refine AM (b:=(!(v1==x2.2.2.1))) kr (fun hb2=>?_) (fun hb2=>?_)
 ·rw [if_pos hb2] at h
  refine AJ AC [(4,.v (.int .i64 0))] [] ?_;refine AT ?_;have hq:=OI h; subst hq;exact ⟨⟨Fr 11 [(4,.v (.int .i64 0))],[]⟩,AO,.inr rfl,[.v (.int .i64 0)],kr,kr⟩
 ·rw [CK hb2] at h
  refine AP ?_;refine AJ AC [(4,.v (.int .i64 1))] [] ?_;refine AT ?_;have hq:=OI h; subst hq;exact ⟨⟨Fr 11 [(4,.v (.int .i64 1))],[]⟩,AO,.inr rfl,[.v (.int .i64 1)],kr,kr⟩
def Gu:List AV->Option AV:=EA Cy (fun a=>Au a.1 a.2.1 a.2.2.1) C2
theorem G0:XOk 206 Gu:=by
 refine AW Tryz.func206 (c:=EF) ?h2 ⟨Tryz.call206⟩ Cy (fun a=>Au a.1 a.2.1 a.2.2.1) C2 (fun a=>(by show 3<=11; decide)) ?h3 ?h4
 case h2=>kernel_rfl
 case h3=>intro b; kernel_rfl
 case h4=>exact fun a b h=>GT a.1 a.2.1 a.2.2.1 b h
/- trestle/court.plain$6 -/
noncomputable def JI:Code:=Bn Tryz.f186
def Ez (x0:Ad) (x1:AE):Option (Bool) :=
 (Al x1.2.2.2.1 x0.1.2.2.1).bind fun v1 =>
 some v1
def HE:Cs (Ad×AE×Unit):=(csC AF (csC (cdP AA) csN))
def HS (r:Bool):AV:=cdB.enc r
theorem LV (x0:Ad) (x1:AE) (r:Bool) (h:Ez x0 x1=some r):Sem E0 ⟨none,false⟩ JI ⟨Fr 10 (BK 0 (HE.enc (x0,x1,()))),[]⟩ fun e s'=>(e = .normal\/e = .ret)/\∃ xs,Ej E0.P s'.fr s'.hp Tryz.f186.results.toList=some xs/\Eu xs=HS r:=by
 unfold Ez at h;refine A3 (Bo (s1:=⟨Fr 10 [(0,AF.enc x0),(1,.pe (AA.enc x1) 0)],[]⟩) AO ?_)
 let p1:Option Blk:=some ⟨10,115,[AF.enc x0],false⟩
 refine AJ AC [(1,.pe (AA.enc x1) 0),(2,.pt 0 0 0)] [p1] ?_;refine AG ?_;obtain ⟨v1,hv1,h⟩:=OB h
 let p2:Nat×AV:=(3,.v (.bool v1))
 refine AH (s1:=⟨Fr 10 [p2],[]⟩) ?_ ?_
 ·refine AD (n:=10) AC 5 [(5,.sl 1 (x1.2.2.2.1.map cdS.enc)),(8,.st x0.1.2.2.1)] [p1] kr ?_
  refine Ai (caps:=[]) (xs:=[.sl 1 (x1.2.2.2.1.map cdS.enc),.st x0.1.2.2.1]) (u:=(x1.2.2.2.1,x0.1.2.2.1,())) rfl rfl CJ rfl (AB rfl) kr kr (AU (Ao (c:=(cdL 1 cdS)) (v:=x1.2.2.2.1)) (AU (Ao (c:=cdS) (v:=x0.1.2.2.1)) Bf)) (.inl kr) hv1 ?_;refine AD (n:=10) AC 1 [p2] [p1] kr ?_;exact AL rfl (AZ [] trivial ⟨lv,trivial⟩)
 refine AT ?_;have hq:=OI h; subst hq;exact ⟨⟨Fr 10 [p2],[]⟩,AO,.inr rfl,[.v (.bool v1)],kr,kr⟩
def NR:List AV->Option AV:=EA HE (fun a=>Ez a.1 a.2.1) HS
theorem Ni:XOk 186 NR:=by
 refine AW Tryz.func186 (c:=JI) ?h2 ⟨Tryz.call186⟩ HE (fun a=>Ez a.1 a.2.1) HS (fun a=>(by show 2<=10; decide)) ?h3 ?h4
 case h2=>kernel_rfl
 case h3=>intro b; kernel_rfl
 case h4=>exact fun a b h=>LV a.1 a.2.1 b h
end Go.Proofs.YtlalcoehgkmhlaaGreatDoor
