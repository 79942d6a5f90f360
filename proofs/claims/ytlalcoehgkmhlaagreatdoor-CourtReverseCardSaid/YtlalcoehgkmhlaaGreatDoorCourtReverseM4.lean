/- Lemmas for the proof. -/
import Derived.Test.YtlalcoehgkmhlaaGreatDoorCourtReverseM1
import Derived.Test.YtlalcoehgkmhlaaGreatDoorCourtReverseM2
import Derived.Test.YtlalcoehgkmhlaaGreatDoorCourtReverseM3
set_option maxHeartbeats 4000000
set_option maxRecDepth 100000
namespace Go.Proofs.YtlalcoehgkmhlaaGreatDoor
open Go.RowKit
/- trestle/trestlelaw03.Made -/
noncomputable def Cr:Code:=Bh Tryz.f19
def GU (x0:(List (Int×Int×Int×Bool×Bool))) (c2:(List AD)) (c3:(List UInt8)) (c4:Int) (v6:(Int×Int×Int×Bool×Bool)):Option (((List (List UInt8)))) :=
 if ((Du .u8 v6.2.2.1 4)!=0)=true then
 if (DG ((wr .u8 (v6.2.2.1 + 1)).tmod 4) (([97,98,99,100]:List UInt8).length:Int) ([97,98,99,100]:List UInt8).length)=true then
 if (DG 0 (1:Int) ((([97,98,99,100]:List UInt8).take (([97,98,99,100]:List UInt8).length:Int).toNat).drop ((wr .u8 (v6.2.2.1 + 1)).tmod 4).toNat).length)=true then
 if (FP 16 ([((((([97,98,99,100]:List UInt8).take (([97,98,99,100]:List UInt8).length:Int).toNat).drop (v6.2.2.1.tmod 4).toNat).take (1:Int).toNat).drop (0:Int).toNat)].length + 1))=true then
 some ([((((([97,98,99,100]:List UInt8).take (([97,98,99,100]:List UInt8).length:Int).toNat).drop (v6.2.2.1.tmod 4).toNat).take (1:Int).toNat).drop (0:Int).toNat)]++[((((([97,98,99,100]:List UInt8).take (([97,98,99,100]:List UInt8).length:Int).toNat).drop ((wr .u8 (v6.2.2.1 + 1)).tmod 4).toNat).take (1:Int).toNat).drop (0:Int).toNat)])
 else none
 else none
 else none
 else
 some [((((([97,98,99,100]:List UInt8).take (([97,98,99,100]:List UInt8).length:Int).toNat).drop (v6.2.2.1.tmod 4).toNat).take (1:Int).toNat).drop (0:Int).toNat)]
def FL (x0:(List (Int×Int×Int×Bool×Bool))) (c3:(List UInt8)) (c4:Int) (j27:(List AD)×Int×Int×Int×Bool×Bool×Int×(List UInt8)×Bool×Int×(List (List UInt8))×Bool):Option (((List AD)×Int×Int×Int×Bool×Bool×Int×(List UInt8)×Bool×Int×(List (List UInt8)))) :=
 if j27.2.2.2.2.2.2.2.2.2.2.2=true then
 some (j27.1,j27.2.1,j27.2.2.1,j27.2.2.2.1,j27.2.2.2.2.1,j27.2.2.2.2.2.1,j27.2.2.2.2.2.2.1,c3,j27.2.2.2.2.2.2.2.2.1,j27.2.2.2.2.2.2.2.2.2.1,j27.2.2.2.2.2.2.2.2.2.2.1)
 else
 some (j27.1,j27.2.1,j27.2.2.1,j27.2.2.2.1,j27.2.2.2.2.1,j27.2.2.2.2.2.1,j27.2.2.2.2.2.2.1,j27.2.2.2.2.2.2.2.1,j27.2.2.2.2.2.2.2.2.1,j27.2.2.2.2.2.2.2.2.2.1,j27.2.2.2.2.2.2.2.2.2.2.1)
def Iu (x0:(List (Int×Int×Int×Bool×Bool))) (c3:(List UInt8)) (c4:Int) (r40:(List AD)×Int×Int×Int×Bool×Bool×Int×(List UInt8)×Bool×Int×(List (List UInt8))):Option ((Bool)) :=
 if (r40.2.2.2.2.2.2.1==6)=true then
 some (r40.2.2.2.2.2.2.1==6)
 else
 some (r40.2.2.2.2.2.2.1==7)
def Ix (x0:(List (Int×Int×Int×Bool×Bool))) (c3:(List UInt8)) (c4:Int) (r40:(List AD)×Int×Int×Int×Bool×Bool×Int×(List UInt8)×Bool×Int×(List (List UInt8))):Option (((List AD)×Int×(List UInt8)×Bool×Int)) :=
 if (r40.2.2.2.2.2.2.1==10)=true then
 some (r40.1,r40.2.2.2.2.2.2.1,r40.2.2.2.2.2.2.2.1,r40.2.2.2.2.2.2.2.2.1,(wr .i64 (r40.2.2.1.tmod 64)))
 else
 some (r40.1,r40.2.2.2.2.2.2.1,r40.2.2.2.2.2.2.2.1,r40.2.2.2.2.2.2.2.2.1,r40.2.2.2.2.2.2.2.2.2.1)
def Iw (x0:(List (Int×Int×Int×Bool×Bool))) (c3:(List UInt8)) (c4:Int) (r40:(List AD)×Int×Int×Int×Bool×Bool×Int×(List UInt8)×Bool×Int×(List (List UInt8))) (r1722:Bool):Option (((List AD)×Int×(List UInt8)×Bool×(List (List UInt8))×Int)) :=
 if r1722=true then
 some (r40.1,r40.2.2.2.2.2.2.1,r40.2.2.2.2.2.2.2.1,r40.2.2.2.2.1,r40.2.2.2.2.2.2.2.2.2.2,r40.2.2.2.2.2.2.2.2.2.1)
 else
 (Ix x0 c3 c4 r40).bind fun r2056 =>
 some (r2056.1,r2056.2.1,r2056.2.2.1,r2056.2.2.2.1,[],r2056.2.2.2.2)
def It (x0:(List (Int×Int×Int×Bool×Bool))) (c3:(List UInt8)) (c4:Int) (r40:(List AD)×Int×Int×Int×Bool×Bool×Int×(List UInt8)×Bool×Int×(List (List UInt8))):Option (((List AD)×Int×(List UInt8)×Bool×(List (List UInt8))×Int)) :=
 if (r40.2.2.2.2.2.2.1==5)=true then
 some (r40.1,r40.2.2.2.2.2.2.1,r40.2.2.2.2.2.2.2.1,r40.2.2.2.2.1,[],r40.2.2.2.2.2.2.2.2.2.1)
 else
 (Iu x0 c3 c4 r40).bind fun r1722 =>
 (Iw x0 c3 c4 r40 r1722).bind fun r2057 =>
 some (r2057.1,r2057.2.1,r2057.2.2.1,r2057.2.2.2.1,r2057.2.2.2.2.1,r2057.2.2.2.2.2)
def Jc (x0:(List (Int×Int×Int×Bool×Bool))) (c3:(List UInt8)) (c4:Int) (r40:(List AD)×Int×Int×Int×Bool×Bool×Int×(List UInt8)×Bool×Int×(List (List UInt8))):Option (((List AD)×Int×(List UInt8)×Bool×(List (List UInt8))×Int)) :=
 if (r40.2.2.2.2.2.2.1==4)=true then
 some (r40.1,r40.2.2.2.2.2.2.1,r40.2.2.2.2.2.2.2.1,r40.2.2.2.2.1,[],(wr .i64 (1 + (wr .i64 (r40.2.2.1.tmod 2)))))
 else
 (It x0 c3 c4 r40).bind fun r2058 =>
 some (r2058.1,r2058.2.1,r2058.2.2.1,r2058.2.2.2.1,r2058.2.2.2.2.1,r2058.2.2.2.2.2)
def GV (x0:(List (Int×Int×Int×Bool×Bool))) (c3:(List UInt8)) (c4:Int) (r40:(List AD)×Int×Int×Int×Bool×Bool×Int×(List UInt8)×Bool×Int×(List (List UInt8))):Option (((List AD)×(List UInt8)×Int×(List UInt8)×Bool×(List (List UInt8))×Int)) :=
 if (r40.2.2.2.2.2.2.1==1)=true then
 (idx r40.2.2.2.2.2.2.2.2.2.2 0).bind fun v42 =>
 some (r40.1,v42,r40.2.2.2.2.2.2.1,r40.2.2.2.2.2.2.2.1,r40.2.2.2.2.2.2.2.2.1,r40.2.2.2.2.2.2.2.2.2.2,r40.2.2.2.2.2.2.2.2.2.1)
 else
 (Jc x0 c3 c4 r40).bind fun r2059 =>
 some (r2059.1,c3,r2059.2.1,r2059.2.2.1,r2059.2.2.2.1,r2059.2.2.2.2.1,r2059.2.2.2.2.2)
def ED (x0:(List (Int×Int×Int×Bool×Bool))):Nat->(List AD)->(List UInt8)->Int->Option (((List AD)))
 | 0,_,_,_=>none
 | f + 1,c2,c3,c4 =>
  if (decide (c4 < (((x0.take (mnI (x0.length:Int) 8).toNat).drop (0:Int).toNat).length:Int)))=true then
  (idx ((x0.take (mnI (x0.length:Int) 8).toNat).drop (0:Int).toNat) c4).bind fun v6 =>
  if (DG (v6.2.2.1.tmod 4) (([97,98,99,100]:List UInt8).length:Int) ([97,98,99,100]:List UInt8).length)=true then
  if (DG 0 (1:Int) ((([97,98,99,100]:List UInt8).take (([97,98,99,100]:List UInt8).length:Int).toNat).drop (v6.2.2.1.tmod 4).toNat).length)=true then
  (GU x0 c2 c3 c4 v6).bind fun r14 =>
  (if v6.2.2.2.2=true then some (c2,v6.1,v6.2.1,v6.2.2.1,v6.2.2.2.1,true,(wr .u8 (1 + (v6.1.tmod 10))),[],false,0,r14,((wr .u8 (1 + (v6.1.tmod 10)))!=1)) else some (c2,v6.1,v6.2.1,v6.2.2.1,v6.2.2.2.1,false,(wr .u8 (1 + (v6.1.tmod 10))),[],false,0,r14,false)).bind fun j27 =>
  (FL x0 c3 c4 j27).bind fun r40 =>
  (GV x0 c3 c4 r40).bind fun r2060 =>
  if (FP 64 (r2060.1.length + 1))=true then
  ED x0 f (r2060.1++[r2060.2.2]) r2060.2.1 (wr .i64 (c4 + 1))
  else none
  else none
  else none
  else
  some c2
def Fv (x0:(List (Int×Int×Int×Bool×Bool))):Option ((List AD)) :=
 if (DG 0 (mnI (x0.length:Int) 8) x0.length)=true then
 (ED x0 100000 [] [] 0).bind fun r2064 =>
 some r2064
 else none
def Hs:Cs (((List (Int×Int×Int×Bool×Bool)))×Unit):=(csC (cdL 5 (cdA (csC (cdK .u8) (csC (cdK .u8) (csC (cdK .u8) (csC cdB (csE cdB))))) (fun _=>rfl))) csN)
def JW (r:(List AD)):AV:=(cdL 5 AA).enc r
theorem Mv (x0:(List (Int×Int×Int×Bool×Bool))) (c2:(List AD)) (c3:(List UInt8)) (c4:Int) (v6:(Int×Int×Int×Bool×Bool)) (r:((List (List UInt8)))) (h:GU x0 c2 c3 c4 v6=some r):Sem E0 ⟨none,false⟩ (pc Cr [1,1,1,0,1,0,0,1,1,0,0,1,1,1,0,1]) ⟨Fr 98 [(3,hd 0 (c2.map AA.enc)),(4,.st c3),(6,.pt 1 0 0),(7,.pt 2 0 0),(8,hd 3 ([((((([97,98,99,100]:List UInt8).take (([97,98,99,100]:List UInt8).length:Int).toNat).drop (v6.2.2.1.tmod 4).toNat).take (1:Int).toNat).drop (0:Int).toNat)].map cdS.enc)),(13,.sl 5 (((x0.take (mnI (x0.length:Int) 8).toNat).drop (0:Int).toNat).map (cdA (csC (cdK .u8) (csC (cdK .u8) (csC (cdK .u8) (csC cdB (csE cdB))))) (fun _=>rfl)).enc)),(14,.v (.int .i64 (((x0.take (mnI (x0.length:Int) 8).toNat).drop (0:Int).toNat).length:Int))),(15,.v (.int .i64 c4)),(33,.v (.bool ((Du .u8 v6.2.2.1 4)!=0)))],[mk 5 60 (c2.map AA.enc),some ⟨5,107,[.ag [.v (.int .u8 v6.1),.v (.int .u8 v6.2.1),.v (.int .u8 v6.2.2.1),.v (.bool v6.2.2.2.1),.v (.bool v6.2.2.2.2)]],false⟩,some ⟨5,60,[.ag [.v (.int .u8 (wr .u8 (1 + (v6.1.tmod 10)))),.st [],.v (.bool false),.e0,.v (.int .i64 0)]],false⟩,mk 1 9 ([((((([97,98,99,100]:List UInt8).take (([97,98,99,100]:List UInt8).length:Int).toNat).drop (v6.2.2.1.tmod 4).toNat).take (1:Int).toNat).drop (0:Int).toNat)].map cdS.enc)]⟩ (fun e s=>e = .normal/\Wk E0 s ⟨Fr 98 [(3,hd 0 (c2.map AA.enc)),(4,.st c3),(6,.pt 1 0 0),(7,.pt 2 0 0),(8,hd 3 (r.map cdS.enc)),(13,.sl 5 (((x0.take (mnI (x0.length:Int) 8).toNat).drop (0:Int).toNat).map (cdA (csC (cdK .u8) (csC (cdK .u8) (csC (cdK .u8) (csC cdB (csE cdB))))) (fun _=>rfl)).enc)),(14,.v (.int .i64 (((x0.take (mnI (x0.length:Int) 8).toNat).drop (0:Int).toNat).length:Int))),(15,.v (.int .i64 c4))],[mk 5 60 (c2.map AA.enc),some ⟨5,107,[.ag [.v (.int .u8 v6.1),.v (.int .u8 v6.2.1),.v (.int .u8 v6.2.2.1),.v (.bool v6.2.2.2.1),.v (.bool v6.2.2.2.2)]],false⟩,some ⟨5,60,[.ag [.v (.int .u8 (wr .u8 (1 + (v6.1.tmod 10)))),.st [],.v (.bool false),.e0,.v (.int .i64 0)]],false⟩,mk 1 9 (r.map cdS.enc)]⟩):=by
 unfold GU at h;refine AT (b:=((Du .u8 v6.2.2.1 4)!=0)) kr (fun hb9=>?_) (fun hb9=>?_)
 ·rw [if_pos hb9] at h
  by_cases hk10:(DG ((wr .u8 (v6.2.2.1 + 1)).tmod 4) (([97,98,99,100]:List UInt8).length:Int) ([97,98,99,100]:List UInt8).length)=true
  case neg=>rw [if_neg hk10] at h; cases h
  rw [if_pos hk10] at h;by_cases hk11:(DG 0 (1:Int) ((([97,98,99,100]:List UInt8).take (([97,98,99,100]:List UInt8).length:Int).toNat).drop ((wr .u8 (v6.2.2.1 + 1)).tmod 4).toNat).length)=true
  case neg=>rw [if_neg hk11] at h; cases h
  rw [if_pos hk11] at h;by_cases hk12:(FP 16 ([((((([97,98,99,100]:List UInt8).take (([97,98,99,100]:List UInt8).length:Int).toNat).drop (v6.2.2.1.tmod 4).toNat).take (1:Int).toNat).drop (0:Int).toNat)].length + 1))=true
  case neg=>rw [if_neg hk12] at h; cases h
  rw [if_pos hk12] at h
  let p1:Option Blk:=mk 1 9 (([((((([97,98,99,100]:List UInt8).take (([97,98,99,100]:List UInt8).length:Int).toNat).drop (v6.2.2.1.tmod 4).toNat).take (1:Int).toNat).drop (0:Int).toNat)]++[((((([97,98,99,100]:List UInt8).take (([97,98,99,100]:List UInt8).length:Int).toNat).drop ((wr .u8 (v6.2.2.1 + 1)).tmod 4).toNat).take (1:Int).toNat).drop (0:Int).toNat)]).map cdS.enc)
  let p2:Option Blk:=some ⟨5,60,[.ag [.v (.int .u8 (wr .u8 (1 + (v6.1.tmod 10)))),.st [],.v (.bool false),.e0,.v (.int .i64 0)]],false⟩
  let p3:Option Blk:=some ⟨5,107,[.ag [.v (.int .u8 v6.1),.v (.int .u8 v6.2.1),.v (.int .u8 v6.2.2.1),.v (.bool v6.2.2.2.1),.v (.bool v6.2.2.2.2)]],false⟩
  let p4:Option Blk:=mk 5 60 (c2.map AA.enc)
  let p5:Nat×AV:=(15,.v (.int .i64 c4))
  let p6:Nat×AV:=(14,.v (.int .i64 (((x0.take (mnI (x0.length:Int) 8).toNat).drop (0:Int).toNat).length:Int)))
  let p7:Nat×AV:=(13,.sl 5 (((x0.take (mnI (x0.length:Int) 8).toNat).drop (0:Int).toNat).map (cdA (csC (cdK .u8) (csC (cdK .u8) (csC (cdK .u8) (csC cdB (csE cdB))))) (fun _=>rfl)).enc))
  let p8:Nat×AV:=(7,.pt 2 0 0)
  let p9:Nat×AV:=(6,.pt 1 0 0)
  let p10:Nat×AV:=(3,hd 0 (c2.map AA.enc))
  refine AJ (s1:=⟨Fr 98 [p10,(4,.st c3),p9,p8,(8,hd 3 (([((((([97,98,99,100]:List UInt8).take (([97,98,99,100]:List UInt8).length:Int).toNat).drop (v6.2.2.1.tmod 4).toNat).take (1:Int).toNat).drop (0:Int).toNat)]++[((((([97,98,99,100]:List UInt8).take (([97,98,99,100]:List UInt8).length:Int).toNat).drop ((wr .u8 (v6.2.2.1 + 1)).tmod 4).toNat).take (1:Int).toNat).drop (0:Int).toNat)]).map cdS.enc)),p7,p6,p5],[p4,p3,p2,p1]⟩) ?_ ?_
  ·let p11:Option Blk:=mk 1 9 ([((((([97,98,99,100]:List UInt8).take (([97,98,99,100]:List UInt8).length:Int).toNat).drop (v6.2.2.1.tmod 4).toNat).take (1:Int).toNat).drop (0:Int).toNat)].map cdS.enc)
   let p12:Nat×AV:=(34,hd 3 ([((((([97,98,99,100]:List UInt8).take (([97,98,99,100]:List UInt8).length:Int).toNat).drop (v6.2.2.1.tmod 4).toNat).take (1:Int).toNat).drop (0:Int).toNat)].map cdS.enc))
   refine AE (n:=98) AC 5 [p10,(4,.st c3),p9,p8,p7,p6,p5,p12,(38,.v (.int .u8 ((wr .u8 (v6.2.2.1 + 1)).tmod 4)))] [p4,p3,p2,p11] kr ?_;refine Aa AC 0 rfl (C5 (AB rfl) rfl (En (a:= .st [97,98,99,100]) (l:=(some (.v (.int .u8 ((wr .u8 (v6.2.2.1 + 1)).tmod 4))))) (u:=none) (m:=none) kr kr kr rfl (Fh (bs:=[97,98,99,100]) (lo:=((wr .u8 (v6.2.2.1 + 1)).tmod 4)) (hi:=(([97,98,99,100]:List UInt8).length:Int)) kr (GW (NV hk10)) rfl hk10))) ?_;refine Aa AC 0 rfl (C5 (AB rfl) rfl (En (a:= .st ((([97,98,99,100]:List UInt8).take (([97,98,99,100]:List UInt8).length:Int).toNat).drop ((wr .u8 (v6.2.2.1 + 1)).tmod 4).toNat)) (l:=none) (u:=(some (.v (.int .i64 1)))) (m:=none) kr kr kr rfl (Fh (bs:=((([97,98,99,100]:List UInt8).take (([97,98,99,100]:List UInt8).length:Int).toNat).drop ((wr .u8 (v6.2.2.1 + 1)).tmod 4).toNat)) (lo:=0) (hi:=(1:Int)) kr rfl (GW (J0 hk11)) hk11))) ?_
   let p13:Option Blk:=mk 1 9 ([((((([97,98,99,100]:List UInt8).take (([97,98,99,100]:List UInt8).length:Int).toNat).drop ((wr .u8 (v6.2.2.1 + 1)).tmod 4).toNat).take (1:Int).toNat).drop (0:Int).toNat)].map cdS.enc)
   refine AE (n:=98) AC 1 [p10,(4,.st c3),p9,p8,p7,p6,p5,p12,(41,hd 4 ([((((([97,98,99,100]:List UInt8).take (([97,98,99,100]:List UInt8).length:Int).toNat).drop ((wr .u8 (v6.2.2.1 + 1)).tmod 4).toNat).take (1:Int).toNat).drop (0:Int).toNat)].map cdS.enc))] [p4,p3,p2,p11,p13] kr ?_;refine Aa AC 0 rfl (UD (AB rfl) rfl kr kr (H0 (a:=hd 3 ([((((([97,98,99,100]:List UInt8).take (([97,98,99,100]:List UInt8).length:Int).toNat).drop (v6.2.2.1.tmod 4).toNat).take (1:Int).toNat).drop (0:Int).toNat)].map cdS.enc)) (b:=hd 4 ([((((([97,98,99,100]:List UInt8).take (([97,98,99,100]:List UInt8).length:Int).toNat).drop ((wr .u8 (v6.2.2.1 + 1)).tmod 4).toNat).take (1:Int).toNat).drop (0:Int).toNat)].map cdS.enc)) kr kr (M7 (c:=cdS) (xs:=[((((([97,98,99,100]:List UInt8).take (([97,98,99,100]:List UInt8).length:Int).toNat).drop (v6.2.2.1.tmod 4).toNat).take (1:Int).toNat).drop (0:Int).toNat)]) (vs:=[((((([97,98,99,100]:List UInt8).take (([97,98,99,100]:List UInt8).length:Int).toNat).drop ((wr .u8 (v6.2.2.1 + 1)).tmod 4).toNat).take (1:Int).toNat).drop (0:Int).toNat)]) (k:=1) (bytes:=16) (el:=9) kr kr (M8 (t:=9) kr) (List.cons_ne_nil _ _) kr hk12))) ?_;refine AE (n:=98) AC 1 [p10,(4,.st c3),p9,p8,(8,hd 5 (([((((([97,98,99,100]:List UInt8).take (([97,98,99,100]:List UInt8).length:Int).toNat).drop (v6.2.2.1.tmod 4).toNat).take (1:Int).toNat).drop (0:Int).toNat)]++[((((([97,98,99,100]:List UInt8).take (([97,98,99,100]:List UInt8).length:Int).toNat).drop ((wr .u8 (v6.2.2.1 + 1)).tmod 4).toNat).take (1:Int).toNat).drop (0:Int).toNat)]).map cdS.enc)),p7,p6,p5] [p4,p3,p2,none,p13,p1] kr ?_;exact AI rfl (Ao [0,1,2,5] ⟨⟨_,rfl,Dk⟩,⟨_,rfl,C2⟩,⟨_,rfl,C2⟩,⟨_,rfl,Dk⟩,trivial⟩ ⟨Dl (b':=0) kr kr,lv,lv,lv,Dl (b':=5) kr kr,lv,lv,lv,trivial⟩)
  have hq:=OI h; subst hq;exact ⟨rfl,(Ao [0,1,2,3] ⟨⟨_,rfl,Dk⟩,⟨_,rfl,C2⟩,⟨_,rfl,C2⟩,⟨_,rfl,Dk⟩,trivial⟩ ⟨Dl (b':=0) kr kr,lv,lv,lv,Dl (b':=3) kr kr,lv,lv,lv,trivial⟩)⟩
 ·rw [Ce hb9] at h
  refine Ae ?_;have hq:=OI h; subst hq;exact ⟨rfl,(Ao [0,1,2,3] ⟨⟨_,rfl,Dk⟩,⟨_,rfl,C2⟩,⟨_,rfl,C2⟩,⟨_,rfl,Dk⟩,trivial⟩ ⟨Dl (b':=0) kr kr,lv,lv,lv,Dl (b':=3) kr kr,lv,lv,lv,trivial⟩)⟩
theorem Mw (x0:(List (Int×Int×Int×Bool×Bool))) (c3:(List UInt8)) (c4:Int) (j27:(List AD)×Int×Int×Int×Bool×Bool×Int×(List UInt8)×Bool×Int×(List (List UInt8))×Bool) (r:((List AD)×Int×Int×Int×Bool×Bool×Int×(List UInt8)×Bool×Int×(List (List UInt8)))) (h:FL x0 c3 c4 j27=some r):Sem E0 ⟨none,false⟩ (pc Cr [1,1,1,0,1,0,0,1,1,0,0,1,1,1,1,0,1]) ⟨Fr 98 [(3,hd 0 (j27.1.map AA.enc)),(4,.st c3),(6,.pt 1 0 0),(7,.pt 2 0 0),(8,hd 3 (j27.2.2.2.2.2.2.2.2.2.2.1.map cdS.enc)),(13,.sl 5 (((x0.take (mnI (x0.length:Int) 8).toNat).drop (0:Int).toNat).map (cdA (csC (cdK .u8) (csC (cdK .u8) (csC (cdK .u8) (csC cdB (csE cdB))))) (fun _=>rfl)).enc)),(14,.v (.int .i64 (((x0.take (mnI (x0.length:Int) 8).toNat).drop (0:Int).toNat).length:Int))),(15,.v (.int .i64 c4)),(49,.v (.bool j27.2.2.2.2.2.2.2.2.2.2.2))],[mk 5 60 (j27.1.map AA.enc),some ⟨5,107,[.ag [.v (.int .u8 j27.2.1),.v (.int .u8 j27.2.2.1),.v (.int .u8 j27.2.2.2.1),.v (.bool j27.2.2.2.2.1),.v (.bool j27.2.2.2.2.2.1)]],false⟩,some ⟨5,60,[.ag [.v (.int .u8 j27.2.2.2.2.2.2.1),.st j27.2.2.2.2.2.2.2.1,.v (.bool j27.2.2.2.2.2.2.2.2.1),.e0,.v (.int .i64 j27.2.2.2.2.2.2.2.2.2.1)]],false⟩,mk 1 9 (j27.2.2.2.2.2.2.2.2.2.2.1.map cdS.enc)]⟩ (fun e s=>e = .normal/\Wk E0 s ⟨Fr 98 [(3,hd 0 (r.1.map AA.enc)),(4,.st c3),(6,.pt 1 0 0),(7,.pt 2 0 0),(8,hd 3 (r.2.2.2.2.2.2.2.2.2.2.map cdS.enc)),(13,.sl 5 (((x0.take (mnI (x0.length:Int) 8).toNat).drop (0:Int).toNat).map (cdA (csC (cdK .u8) (csC (cdK .u8) (csC (cdK .u8) (csC cdB (csE cdB))))) (fun _=>rfl)).enc)),(14,.v (.int .i64 (((x0.take (mnI (x0.length:Int) 8).toNat).drop (0:Int).toNat).length:Int))),(15,.v (.int .i64 c4))],[mk 5 60 (r.1.map AA.enc),some ⟨5,107,[.ag [.v (.int .u8 r.2.1),.v (.int .u8 r.2.2.1),.v (.int .u8 r.2.2.2.1),.v (.bool r.2.2.2.2.1),.v (.bool r.2.2.2.2.2.1)]],false⟩,some ⟨5,60,[.ag [.v (.int .u8 r.2.2.2.2.2.2.1),.st r.2.2.2.2.2.2.2.1,.v (.bool r.2.2.2.2.2.2.2.2.1),.e0,.v (.int .i64 r.2.2.2.2.2.2.2.2.2.1)]],false⟩,mk 1 9 (r.2.2.2.2.2.2.2.2.2.2.map cdS.enc)]⟩):=by
 unfold FL at h;refine AT (b:=j27.2.2.2.2.2.2.2.2.2.2.2) kr (fun hb28=>?_) (fun hb28=>?_)
 ·rw [if_pos hb28] at h
  refine Ep AC [(3,hd 0 (j27.1.map AA.enc)),(4,.st c3),(6,.pt 1 0 0),(7,.pt 2 0 0),(8,hd 3 (j27.2.2.2.2.2.2.2.2.2.2.1.map cdS.enc)),(13,.sl 5 (((x0.take (mnI (x0.length:Int) 8).toNat).drop (0:Int).toNat).map (cdA (csC (cdK .u8) (csC (cdK .u8) (csC (cdK .u8) (csC cdB (csE cdB))))) (fun _=>rfl)).enc)),(14,.v (.int .i64 (((x0.take (mnI (x0.length:Int) 8).toNat).drop (0:Int).toNat).length:Int))),(15,.v (.int .i64 c4))] [mk 5 60 (j27.1.map AA.enc),some ⟨5,107,[.ag [.v (.int .u8 j27.2.1),.v (.int .u8 j27.2.2.1),.v (.int .u8 j27.2.2.2.1),.v (.bool j27.2.2.2.2.1),.v (.bool j27.2.2.2.2.2.1)]],false⟩,some ⟨5,60,[.ag [.v (.int .u8 j27.2.2.2.2.2.2.1),.st c3,.v (.bool j27.2.2.2.2.2.2.2.2.1),.e0,.v (.int .i64 j27.2.2.2.2.2.2.2.2.2.1)]],false⟩,mk 1 9 (j27.2.2.2.2.2.2.2.2.2.2.1.map cdS.enc)] ?_;have hq:=OI h; subst hq;exact ⟨rfl,(Ao [0,1,2,3] ⟨⟨_,rfl,Dk⟩,⟨_,rfl,C2⟩,⟨_,rfl,C2⟩,⟨_,rfl,Dk⟩,trivial⟩ ⟨Dl (b':=0) kr kr,lv,lv,lv,Dl (b':=3) kr kr,lv,lv,lv,trivial⟩)⟩
 ·rw [Ce hb28] at h
  refine Ae ?_;have hq:=OI h; subst hq;exact ⟨rfl,(Ao [0,1,2,3] ⟨⟨_,rfl,Dk⟩,⟨_,rfl,C2⟩,⟨_,rfl,C2⟩,⟨_,rfl,Dk⟩,trivial⟩ ⟨Dl (b':=0) kr kr,lv,lv,lv,Dl (b':=3) kr kr,lv,lv,lv,trivial⟩)⟩
theorem MN (x0:(List (Int×Int×Int×Bool×Bool))) (c3:(List UInt8)) (c4:Int) (r40:(List AD)×Int×Int×Int×Bool×Bool×Int×(List UInt8)×Bool×Int×(List (List UInt8))) (r:(Bool)) (h:Iu x0 c3 c4 r40=some r):Sem E0 ⟨none,false⟩ (pc Cr [1,1,1,0,1,0,0,1,1,0,0,1,1,1,1,1,0,1,0,1,1,1,1,1,1,0,1]) ⟨Fr 98 [(3,hd 0 (r40.1.map AA.enc)),(4,.st c3),(6,.pt 1 0 0),(7,.pt 2 0 0),(8,hd 3 (r40.2.2.2.2.2.2.2.2.2.2.map cdS.enc)),(13,.sl 5 (((x0.take (mnI (x0.length:Int) 8).toNat).drop (0:Int).toNat).map (cdA (csC (cdK .u8) (csC (cdK .u8) (csC (cdK .u8) (csC cdB (csE cdB))))) (fun _=>rfl)).enc)),(14,.v (.int .i64 (((x0.take (mnI (x0.length:Int) 8).toNat).drop (0:Int).toNat).length:Int))),(15,.v (.int .i64 c4)),(53,.v (.int .u8 r40.2.2.2.2.2.2.1)),(77,.v (.bool (r40.2.2.2.2.2.2.1==6)))],[mk 5 60 (r40.1.map AA.enc),some ⟨5,107,[.ag [.v (.int .u8 r40.2.1),.v (.int .u8 r40.2.2.1),.v (.int .u8 r40.2.2.2.1),.v (.bool r40.2.2.2.2.1),.v (.bool r40.2.2.2.2.2.1)]],false⟩,some ⟨5,60,[.ag [.v (.int .u8 r40.2.2.2.2.2.2.1),.st r40.2.2.2.2.2.2.2.1,.v (.bool r40.2.2.2.2.2.2.2.2.1),.e0,.v (.int .i64 r40.2.2.2.2.2.2.2.2.2.1)]],false⟩,mk 1 9 (r40.2.2.2.2.2.2.2.2.2.2.map cdS.enc)]⟩ (fun e s=>e = .normal/\Wk E0 s ⟨Fr 98 [(3,hd 0 (r40.1.map AA.enc)),(4,.st c3),(6,.pt 1 0 0),(7,.pt 2 0 0),(8,hd 3 (r40.2.2.2.2.2.2.2.2.2.2.map cdS.enc)),(13,.sl 5 (((x0.take (mnI (x0.length:Int) 8).toNat).drop (0:Int).toNat).map (cdA (csC (cdK .u8) (csC (cdK .u8) (csC (cdK .u8) (csC cdB (csE cdB))))) (fun _=>rfl)).enc)),(14,.v (.int .i64 (((x0.take (mnI (x0.length:Int) 8).toNat).drop (0:Int).toNat).length:Int))),(15,.v (.int .i64 c4)),(53,.v (.int .u8 r40.2.2.2.2.2.2.1)),(77,.v (.bool r))],[mk 5 60 (r40.1.map AA.enc),some ⟨5,107,[.ag [.v (.int .u8 r40.2.1),.v (.int .u8 r40.2.2.1),.v (.int .u8 r40.2.2.2.1),.v (.bool r40.2.2.2.2.1),.v (.bool r40.2.2.2.2.2.1)]],false⟩,some ⟨5,60,[.ag [.v (.int .u8 r40.2.2.2.2.2.2.1),.st r40.2.2.2.2.2.2.2.1,.v (.bool r40.2.2.2.2.2.2.2.2.1),.e0,.v (.int .i64 r40.2.2.2.2.2.2.2.2.2.1)]],false⟩,mk 1 9 (r40.2.2.2.2.2.2.2.2.2.2.map cdS.enc)]⟩):=by
 unfold Iu at h;refine AT (b:=(r40.2.2.2.2.2.2.1==6)) kr (fun hb1720=>?_) (fun hb1720=>?_)
 ·rw [if_pos hb1720] at h
  refine Ae ?_;have hq:=OI h; subst hq;exact ⟨rfl,(Ao [0,1,2,3] ⟨⟨_,rfl,Dk⟩,⟨_,rfl,C2⟩,⟨_,rfl,C2⟩,⟨_,rfl,Dk⟩,trivial⟩ ⟨Dl (b':=0) kr kr,lv,lv,lv,Dl (b':=3) kr kr,lv,lv,lv,lv,lv,trivial⟩)⟩
 ·rw [Ce hb1720] at h
  refine Ep AC [(3,hd 0 (r40.1.map AA.enc)),(4,.st c3),(6,.pt 1 0 0),(7,.pt 2 0 0),(8,hd 3 (r40.2.2.2.2.2.2.2.2.2.2.map cdS.enc)),(13,.sl 5 (((x0.take (mnI (x0.length:Int) 8).toNat).drop (0:Int).toNat).map (cdA (csC (cdK .u8) (csC (cdK .u8) (csC (cdK .u8) (csC cdB (csE cdB))))) (fun _=>rfl)).enc)),(14,.v (.int .i64 (((x0.take (mnI (x0.length:Int) 8).toNat).drop (0:Int).toNat).length:Int))),(15,.v (.int .i64 c4)),(53,.v (.int .u8 r40.2.2.2.2.2.2.1)),(77,.v (.bool (r40.2.2.2.2.2.2.1==7)))] [mk 5 60 (r40.1.map AA.enc),some ⟨5,107,[.ag [.v (.int .u8 r40.2.1),.v (.int .u8 r40.2.2.1),.v (.int .u8 r40.2.2.2.1),.v (.bool r40.2.2.2.2.1),.v (.bool r40.2.2.2.2.2.1)]],false⟩,some ⟨5,60,[.ag [.v (.int .u8 r40.2.2.2.2.2.2.1),.st r40.2.2.2.2.2.2.2.1,.v (.bool r40.2.2.2.2.2.2.2.2.1),.e0,.v (.int .i64 r40.2.2.2.2.2.2.2.2.2.1)]],false⟩,mk 1 9 (r40.2.2.2.2.2.2.2.2.2.2.map cdS.enc)] ?_;have hq:=OI h; subst hq;exact ⟨rfl,(Ao [0,1,2,3] ⟨⟨_,rfl,Dk⟩,⟨_,rfl,C2⟩,⟨_,rfl,C2⟩,⟨_,rfl,Dk⟩,trivial⟩ ⟨Dl (b':=0) kr kr,lv,lv,lv,Dl (b':=3) kr kr,lv,lv,lv,lv,lv,trivial⟩)⟩
theorem MP (x0:(List (Int×Int×Int×Bool×Bool))) (c3:(List UInt8)) (c4:Int) (r40:(List AD)×Int×Int×Int×Bool×Bool×Int×(List UInt8)×Bool×Int×(List (List UInt8))) (r:((List AD)×Int×(List UInt8)×Bool×Int)) (h:Ix x0 c3 c4 r40=some r):Sem E0 ⟨none,false⟩ (pc Cr [1,1,1,0,1,0,0,1,1,0,0,1,1,1,1,1,0,1,0,1,1,1,1,1,1,1,1,1]) ⟨Fr 98 [(3,hd 0 (r40.1.map AA.enc)),(4,.st c3),(6,.pt 1 0 0),(7,.pt 2 0 0),(13,.sl 5 (((x0.take (mnI (x0.length:Int) 8).toNat).drop (0:Int).toNat).map (cdA (csC (cdK .u8) (csC (cdK .u8) (csC (cdK .u8) (csC cdB (csE cdB))))) (fun _=>rfl)).enc)),(14,.v (.int .i64 (((x0.take (mnI (x0.length:Int) 8).toNat).drop (0:Int).toNat).length:Int))),(15,.v (.int .i64 c4)),(85,.v (.bool (r40.2.2.2.2.2.2.1==10)))],[mk 5 60 (r40.1.map AA.enc),some ⟨5,107,[.ag [.v (.int .u8 r40.2.1),.v (.int .u8 r40.2.2.1),.v (.int .u8 r40.2.2.2.1),.v (.bool r40.2.2.2.2.1),.v (.bool r40.2.2.2.2.2.1)]],false⟩,some ⟨5,60,[.ag [.v (.int .u8 r40.2.2.2.2.2.2.1),.st r40.2.2.2.2.2.2.2.1,.v (.bool r40.2.2.2.2.2.2.2.2.1),.e0,.v (.int .i64 r40.2.2.2.2.2.2.2.2.2.1)]],false⟩]⟩ (fun e s=>e = .normal/\Wk E0 s ⟨Fr 98 [(3,hd 0 (r.1.map AA.enc)),(4,.st c3),(7,.pt 1 0 0),(13,.sl 5 (((x0.take (mnI (x0.length:Int) 8).toNat).drop (0:Int).toNat).map (cdA (csC (cdK .u8) (csC (cdK .u8) (csC (cdK .u8) (csC cdB (csE cdB))))) (fun _=>rfl)).enc)),(14,.v (.int .i64 (((x0.take (mnI (x0.length:Int) 8).toNat).drop (0:Int).toNat).length:Int))),(15,.v (.int .i64 c4))],[mk 5 60 (r.1.map AA.enc),some ⟨5,60,[.ag [.v (.int .u8 r.2.1),.st r.2.2.1,.v (.bool r.2.2.2.1),.e0,.v (.int .i64 r.2.2.2.2)]],false⟩]⟩):=by
 unfold Ix at h;refine AT (b:=(r40.2.2.2.2.2.2.1==10)) kr (fun hb2050=>?_) (fun hb2050=>?_)
 ·rw [if_pos hb2050] at h
  let p1:Option Blk:=some ⟨5,60,[.ag [.v (.int .u8 r40.2.2.2.2.2.2.1),.st r40.2.2.2.2.2.2.2.1,.v (.bool r40.2.2.2.2.2.2.2.2.1),.e0,.v (.int .i64 (wr .i64 (r40.2.2.1.tmod 64)))]],false⟩
  let p2:Nat×AV:=(14,.v (.int .i64 (((x0.take (mnI (x0.length:Int) 8).toNat).drop (0:Int).toNat).length:Int)))
  let p3:Nat×AV:=(13,.sl 5 (((x0.take (mnI (x0.length:Int) 8).toNat).drop (0:Int).toNat).map (cdA (csC (cdK .u8) (csC (cdK .u8) (csC (cdK .u8) (csC cdB (csE cdB))))) (fun _=>rfl)).enc))
  let p4:Nat×AV:=(3,hd 0 (r40.1.map AA.enc))
  refine AJ (s1:=⟨Fr 98 [p4,(4,.st c3),(7,.pt 1 0 0),p3,p2,(15,.v (.int .i64 c4))],[mk 5 60 (r40.1.map AA.enc),p1]⟩) ?_ ?_
  ·refine AE (n:=98) AC 6 [p4,(4,.st c3),(7,.pt 2 0 0),p3,p2,(15,.v (.int .i64 c4))] [mk 5 60 (r40.1.map AA.enc),some ⟨5,107,[.ag [.v (.int .u8 r40.2.1),.v (.int .u8 r40.2.2.1),.v (.int .u8 r40.2.2.2.1),.v (.bool r40.2.2.2.2.1),.v (.bool r40.2.2.2.2.2.1)]],false⟩,p1] kr ?_
   exact AI rfl (Ao [0,2] ⟨⟨_,rfl,Dk⟩,⟨_,rfl,C2⟩,trivial⟩ ⟨Dl (b':=0) kr kr,lv,lv,lv,lv,lv,trivial⟩)
  have hq:=OI h; subst hq;exact ⟨rfl,(Ao [0,1] ⟨⟨_,rfl,Dk⟩,⟨_,rfl,C2⟩,trivial⟩ ⟨Dl (b':=0) kr kr,lv,lv,lv,lv,lv,trivial⟩)⟩
 ·rw [Ce hb2050] at h
  refine Ae ?_;have hq:=OI h; subst hq;exact ⟨rfl,(Ao [0,2] ⟨⟨_,rfl,Dk⟩,⟨_,rfl,C2⟩,trivial⟩ ⟨Dl (b':=0) kr kr,lv,lv,lv,lv,lv,trivial⟩)⟩
theorem MO (x0:(List (Int×Int×Int×Bool×Bool))) (c3:(List UInt8)) (c4:Int) (r40:(List AD)×Int×Int×Int×Bool×Bool×Int×(List UInt8)×Bool×Int×(List (List UInt8))) (r1722:Bool) (r:((List AD)×Int×(List UInt8)×Bool×(List (List UInt8))×Int)) (h:Iw x0 c3 c4 r40 r1722=some r):Sem E0 ⟨none,false⟩ (pc Cr [1,1,1,0,1,0,0,1,1,0,0,1,1,1,1,1,0,1,0,1,1,1,1,1,1,1]) ⟨Fr 98 [(3,hd 0 (r40.1.map AA.enc)),(4,.st c3),(6,.pt 1 0 0),(7,.pt 2 0 0),(8,hd 3 (r40.2.2.2.2.2.2.2.2.2.2.map cdS.enc)),(13,.sl 5 (((x0.take (mnI (x0.length:Int) 8).toNat).drop (0:Int).toNat).map (cdA (csC (cdK .u8) (csC (cdK .u8) (csC (cdK .u8) (csC cdB (csE cdB))))) (fun _=>rfl)).enc)),(14,.v (.int .i64 (((x0.take (mnI (x0.length:Int) 8).toNat).drop (0:Int).toNat).length:Int))),(15,.v (.int .i64 c4)),(53,.v (.int .u8 r40.2.2.2.2.2.2.1)),(77,.v (.bool r1722))],[mk 5 60 (r40.1.map AA.enc),some ⟨5,107,[.ag [.v (.int .u8 r40.2.1),.v (.int .u8 r40.2.2.1),.v (.int .u8 r40.2.2.2.1),.v (.bool r40.2.2.2.2.1),.v (.bool r40.2.2.2.2.2.1)]],false⟩,some ⟨5,60,[.ag [.v (.int .u8 r40.2.2.2.2.2.2.1),.st r40.2.2.2.2.2.2.2.1,.v (.bool r40.2.2.2.2.2.2.2.2.1),.e0,.v (.int .i64 r40.2.2.2.2.2.2.2.2.2.1)]],false⟩,mk 1 9 (r40.2.2.2.2.2.2.2.2.2.2.map cdS.enc)]⟩ (fun e s=>e = .normal/\Wk E0 s ⟨Fr 98 [(3,hd 0 (r.1.map AA.enc)),(4,.st c3),(7,.pt 1 0 0),(13,.sl 5 (((x0.take (mnI (x0.length:Int) 8).toNat).drop (0:Int).toNat).map (cdA (csC (cdK .u8) (csC (cdK .u8) (csC (cdK .u8) (csC cdB (csE cdB))))) (fun _=>rfl)).enc)),(14,.v (.int .i64 (((x0.take (mnI (x0.length:Int) 8).toNat).drop (0:Int).toNat).length:Int))),(15,.v (.int .i64 c4))],[mk 5 60 (r.1.map AA.enc),some ⟨5,60,[AA.enc r.2],false⟩]⟩):=by
 unfold Iw at h;refine AT (b:=r1722) kr (fun hb1723=>?_) (fun hb1723=>?_)
 ·rw [if_pos hb1723] at h
  let p1:Option Blk:=some ⟨5,60,[.ag [.v (.int .u8 r40.2.2.2.2.2.2.1),.st r40.2.2.2.2.2.2.2.1,.v (.bool r40.2.2.2.2.1),.sl 1 (r40.2.2.2.2.2.2.2.2.2.2.map cdS.enc),.v (.int .i64 r40.2.2.2.2.2.2.2.2.2.1)]],false⟩
  let p2:Option Blk:=mk 5 60 (r40.1.map AA.enc)
  let p3:Nat×AV:=(15,.v (.int .i64 c4))
  let p4:Nat×AV:=(14,.v (.int .i64 (((x0.take (mnI (x0.length:Int) 8).toNat).drop (0:Int).toNat).length:Int)))
  let p5:Nat×AV:=(13,.sl 5 (((x0.take (mnI (x0.length:Int) 8).toNat).drop (0:Int).toNat).map (cdA (csC (cdK .u8) (csC (cdK .u8) (csC (cdK .u8) (csC cdB (csE cdB))))) (fun _=>rfl)).enc))
  let p6:Nat×AV:=(3,hd 0 (r40.1.map AA.enc))
  refine RZ (s1:=⟨Fr 98 [p6,(4,.st c3),(7,.pt 1 0 0),p5,p4,p3],[p2,p1]⟩) AC 7 kr ?_ ?_
  ·refine RunA.q 0 kr rfl ?_
   let p7:Option Blk:=mk 1 9 (r40.2.2.2.2.2.2.2.2.2.2.map cdS.enc)
   let p8:Option Blk:=some ⟨5,60,[.ag [.v (.int .u8 r40.2.2.2.2.2.2.1),.st r40.2.2.2.2.2.2.2.1,.v (.bool r40.2.2.2.2.2.2.2.2.1),.e0,.v (.int .i64 r40.2.2.2.2.2.2.2.2.2.1)]],false⟩
   let p9:Option Blk:=some ⟨5,107,[.ag [.v (.int .u8 r40.2.1),.v (.int .u8 r40.2.2.1),.v (.int .u8 r40.2.2.2.1),.v (.bool r40.2.2.2.2.1),.v (.bool r40.2.2.2.2.2.1)]],false⟩
   let p10:Nat×AV:=(80,hd 3 (r40.2.2.2.2.2.2.2.2.2.2.map cdS.enc))
   let p11:Nat×AV:=(7,.pt 2 0 0)
   refine Al (n:=98) AC [p6,(4,.st c3),(6,.pt 1 0 0),p11,p5,p4,p3,p10] [p2,p9,p8,p7] kr ?_;refine RunA.q 1 kr rfl ?_
   let p12:Nat×AV:=(81,.pt 1 0 3)
   refine Al (n:=98) AC [p6,(4,.st c3),p11,p5,p4,p3,p10,p12] [p2,p9,p8,p7] kr ?_;refine RunA.q 3 kr rfl ?_
   let p13:Nat×AV:=(83,.pt 2 0 3)
   refine Al (n:=98) AC [p6,(4,.st c3),p11,p5,p4,p3,p10,p12,p13] [p2,p9,p8,p7] kr ?_;refine NK 2 4 kr rfl rfl ?_ ?_
   ·let p14:Nat×AV:=(82,.v (.bool r40.2.2.2.2.1))
    refine Al (n:=98) AC [p6,(4,.st c3),p11,p5,p4,p3,p10,p14,p13] [p2,p9,p8,p7] kr ?_;refine ER 4 kr rfl ?_;refine PF (s1:=⟨Fr 98 [p6,(4,.st c3),p11,p5,p4,p3,(80,.sl 1 (r40.2.2.2.2.2.2.2.2.2.2.map cdS.enc)),p14,p13],[p2,p9,p8,none]⟩) (KF 3 (.inl kr) ⟨.inr (.inl rfl),.inr (.inr ⟨_,_,_,_,rfl,rfl,⟨.inl rfl,trivial⟩⟩),.inr (.inr ⟨_,_,_,_,rfl,rfl,⟨.inl rfl,trivial⟩⟩),.inl rfl,trivial⟩ ⟨⟨hd 0 (r40.1.map AA.enc),kr,.inl rfl⟩,⟨.st c3,kr,.inl rfl⟩,⟨.pt 2 0 0,kr,.inl rfl⟩,⟨.sl 5 (((x0.take (mnI (x0.length:Int) 8).toNat).drop (0:Int).toNat).map (cdA (csC (cdK .u8) (csC (cdK .u8) (csC (cdK .u8) (csC cdB (csE cdB))))) (fun _=>rfl)).enc),kr,.inl rfl⟩,⟨.v (.int .i64 (((x0.take (mnI (x0.length:Int) 8).toNat).drop (0:Int).toNat).length:Int)),kr,.inl rfl⟩,⟨.v (.int .i64 c4),kr,.inl rfl⟩,⟨hd 3 (r40.2.2.2.2.2.2.2.2.2.2.map cdS.enc),kr,QK (t:=9) kr K3⟩,⟨.v (.bool r40.2.2.2.2.1),kr,.inl rfl⟩,⟨.pt 2 0 3,kr,.inl rfl⟩,trivial⟩) ?_
    let p15:Option Blk:=some ⟨5,60,[.ag [.v (.int .u8 r40.2.2.2.2.2.2.1),.st r40.2.2.2.2.2.2.2.1,.v (.bool r40.2.2.2.2.2.2.2.2.1),.sl 1 (r40.2.2.2.2.2.2.2.2.2.2.map cdS.enc),.v (.int .i64 r40.2.2.2.2.2.2.2.2.2.1)]],false⟩
    refine Al (n:=98) AC [p6,(4,.st c3),p11,p5,p4,p3,p14] [p2,p9,p15,none] kr ?_;refine RunA.q 5 kr rfl ?_;refine Al (n:=98) AC [p6,(4,.st c3),p11,p5,p4,p3,p14,(84,.pt 2 0 2)] [p2,p9,p15,none] kr ?_;refine ER 6 kr rfl ?_;refine Al (n:=98) AC [p6,(4,.st c3),p11,p5,p4,p3] [p2,p9,p1,none] kr ?_;exact RunA.done kr (Ao [0,2] ⟨⟨_,rfl,Dk⟩,⟨_,rfl,C2⟩,trivial⟩ ⟨Dl (b':=0) kr kr,lv,lv,lv,lv,lv,trivial⟩)
   ·refine PF (s1:=⟨Fr 98 [p6,(4,.st c3),p11,p5,p4,p3,(80,.sl 1 (r40.2.2.2.2.2.2.2.2.2.2.map cdS.enc)),p12,p13],[p2,p9,p8,none]⟩) (KF 3 (.inl kr) ⟨.inr (.inl rfl),.inr (.inr ⟨_,_,_,_,rfl,rfl,⟨.inl rfl,trivial⟩⟩),.inr (.inr ⟨_,_,_,_,rfl,rfl,⟨.inl rfl,trivial⟩⟩),.inl rfl,trivial⟩ ⟨⟨hd 0 (r40.1.map AA.enc),kr,.inl rfl⟩,⟨.st c3,kr,.inl rfl⟩,⟨.pt 2 0 0,kr,.inl rfl⟩,⟨.sl 5 (((x0.take (mnI (x0.length:Int) 8).toNat).drop (0:Int).toNat).map (cdA (csC (cdK .u8) (csC (cdK .u8) (csC (cdK .u8) (csC cdB (csE cdB))))) (fun _=>rfl)).enc),kr,.inl rfl⟩,⟨.v (.int .i64 (((x0.take (mnI (x0.length:Int) 8).toNat).drop (0:Int).toNat).length:Int)),kr,.inl rfl⟩,⟨.v (.int .i64 c4),kr,.inl rfl⟩,⟨hd 3 (r40.2.2.2.2.2.2.2.2.2.2.map cdS.enc),kr,QK (t:=9) kr K3⟩,⟨.pt 1 0 3,kr,.inl rfl⟩,⟨.pt 2 0 3,kr,.inl rfl⟩,trivial⟩) ?_
    let p16:Option Blk:=some ⟨5,60,[.ag [.v (.int .u8 r40.2.2.2.2.2.2.1),.st r40.2.2.2.2.2.2.2.1,.v (.bool r40.2.2.2.2.2.2.2.2.1),.sl 1 (r40.2.2.2.2.2.2.2.2.2.2.map cdS.enc),.v (.int .i64 r40.2.2.2.2.2.2.2.2.2.1)]],false⟩
    refine Al (n:=98) AC [p6,(4,.st c3),p11,p5,p4,p3,p12] [p2,p9,p16,none] kr ?_;refine ER 2 kr rfl ?_;refine Al (n:=98) AC [p6,(4,.st c3),p11,p5,p4,p3,(82,.v (.bool r40.2.2.2.2.1))] [p2,p9,p16,none] kr ?_;refine RunA.q 5 kr rfl ?_;refine Al (n:=98) AC [p6,(4,.st c3),p11,p5,p4,p3,(82,.v (.bool r40.2.2.2.2.1)),(84,.pt 2 0 2)] [p2,p9,p16,none] kr ?_;refine ER 6 kr rfl ?_;refine Al (n:=98) AC [p6,(4,.st c3),p11,p5,p4,p3] [p2,p9,p1,none] kr ?_;exact RunA.done kr (Ao [0,2] ⟨⟨_,rfl,Dk⟩,⟨_,rfl,C2⟩,trivial⟩ ⟨Dl (b':=0) kr kr,lv,lv,lv,lv,lv,trivial⟩)
  have hq:=OI h; subst hq;exact ⟨rfl,(Ao [0,1] ⟨⟨_,rfl,Dk⟩,⟨_,rfl,C2⟩,trivial⟩ ⟨Dl (b':=0) kr kr,lv,lv,lv,lv,lv,trivial⟩)⟩
 ·rw [Ce hb1723] at h
  refine AG ?_
  let p17:Option Blk:=some ⟨5,60,[.ag [.v (.int .u8 r40.2.2.2.2.2.2.1),.st r40.2.2.2.2.2.2.2.1,.v (.bool r40.2.2.2.2.2.2.2.2.1),.e0,.v (.int .i64 r40.2.2.2.2.2.2.2.2.2.1)]],false⟩
  let p18:Option Blk:=some ⟨5,107,[.ag [.v (.int .u8 r40.2.1),.v (.int .u8 r40.2.2.1),.v (.int .u8 r40.2.2.2.1),.v (.bool r40.2.2.2.2.1),.v (.bool r40.2.2.2.2.2.1)]],false⟩
  let p19:Nat×AV:=(85,.v (.bool (r40.2.2.2.2.2.2.1==10)))
  let p20:Nat×AV:=(15,.v (.int .i64 c4))
  let p21:Nat×AV:=(14,.v (.int .i64 (((x0.take (mnI (x0.length:Int) 8).toNat).drop (0:Int).toNat).length:Int)))
  let p22:Nat×AV:=(13,.sl 5 (((x0.take (mnI (x0.length:Int) 8).toNat).drop (0:Int).toNat).map (cdA (csC (cdK .u8) (csC (cdK .u8) (csC (cdK .u8) (csC cdB (csE cdB))))) (fun _=>rfl)).enc))
  let p23:Nat×AV:=(3,hd 0 (r40.1.map AA.enc))
  refine AJ (s1:=⟨Fr 98 [p23,(4,.st c3),(6,.pt 1 0 0),(7,.pt 2 0 0),p22,p21,p20,p19],[mk 5 60 (r40.1.map AA.enc),p18,p17]⟩) ?_ ?_
  ·refine AE (n:=98) AC 2 [p23,(4,.st c3),(6,.pt 1 0 0),(7,.pt 2 0 0),p22,p21,p20,p19] [mk 5 60 (r40.1.map AA.enc),p18,p17,mk 1 9 (r40.2.2.2.2.2.2.2.2.2.2.map cdS.enc)] kr ?_
   exact AI rfl (Ao [0,1,2] ⟨⟨_,rfl,Dk⟩,⟨_,rfl,C2⟩,⟨_,rfl,C2⟩,trivial⟩ ⟨Dl (b':=0) kr kr,lv,lv,lv,lv,lv,lv,lv,trivial⟩)
  obtain ⟨r2056,hr2056,h⟩:=OB h;refine C9 (MP x0 c3 c4 r40 _ hr2056) ?_;have hq:=OI h; subst hq
  let p24:Option Blk:=mk 5 60 (r2056.1.map AA.enc)
  let p25:Nat×AV:=(3,hd 0 (r2056.1.map AA.enc))
  let p26:Option Blk:=some ⟨5,60,[.ag [.v (.int .u8 r2056.2.1),.st r2056.2.2.1,.v (.bool r2056.2.2.2.1),.e0,.v (.int .i64 r2056.2.2.2.2)]],false⟩
  exact ⟨rfl,(Wk.trans (s1:=⟨Fr 98 [p25,(4,.st c3),(7,.pt 1 0 0),p22,p21,p20],[p24,p26]⟩) AQ (Wk.trans (s1:=⟨Fr 98 [p25,(4,.st c3),(7,.pt 1 0 0),p22,p21,p20],[p24,p26,none]⟩) Wk.none (Wk.trans (s1:=⟨Fr 98 [p25,(4,.st c3),(7,.pt 1 0 0),p22,p21,p20],[p24,some ⟨5,60,[.ag [.v (.int .u8 r2056.2.1),.st r2056.2.2.1,.v (.bool r2056.2.2.2.1),.sl 1 ([].map cdS.enc),.v (.int .i64 r2056.2.2.2.2)]],false⟩,none]⟩) (M5 2 (.inr kr) ⟨.inr (.inl rfl),.inr (.inr ⟨_,_,_,_,rfl,rfl,⟨(.inr ⟨_,_,rfl,rfl,⟨.inl rfl,.inl rfl,.inl rfl,TN,.inl rfl,trivial⟩⟩),trivial⟩⟩),.inl rfl,trivial⟩ ⟨⟨hd 0 (r2056.1.map AA.enc),kr,(.inl (.inl rfl))⟩,⟨.st c3,kr,(.inl (.inl rfl))⟩,⟨.pt 1 0 0,kr,(.inl (.inl rfl))⟩,⟨.sl 5 (((x0.take (mnI (x0.length:Int) 8).toNat).drop (0:Int).toNat).map (cdA (csC (cdK .u8) (csC (cdK .u8) (csC (cdK .u8) (csC cdB (csE cdB))))) (fun _=>rfl)).enc),kr,(.inl (.inl rfl))⟩,⟨.v (.int .i64 (((x0.take (mnI (x0.length:Int) 8).toNat).drop (0:Int).toNat).length:Int)),kr,(.inl (.inl rfl))⟩,⟨.v (.int .i64 c4),kr,(.inl (.inl rfl))⟩,trivial⟩) (Ao [0,1] ⟨⟨_,rfl,Dk⟩,⟨_,rfl,C2⟩,trivial⟩ ⟨Dl (b':=0) kr kr,lv,lv,lv,lv,lv,trivial⟩))))⟩
theorem MM (x0:(List (Int×Int×Int×Bool×Bool))) (c3:(List UInt8)) (c4:Int) (r40:(List AD)×Int×Int×Int×Bool×Bool×Int×(List UInt8)×Bool×Int×(List (List UInt8))) (r:((List AD)×Int×(List UInt8)×Bool×(List (List UInt8))×Int)) (h:It x0 c3 c4 r40=some r):Sem E0 ⟨none,false⟩ (pc Cr [1,1,1,0,1,0,0,1,1,0,0,1,1,1,1,1,0,1,0,1,1,1,1,1]) ⟨Fr 98 [(3,hd 0 (r40.1.map AA.enc)),(4,.st c3),(6,.pt 1 0 0),(7,.pt 2 0 0),(8,hd 3 (r40.2.2.2.2.2.2.2.2.2.2.map cdS.enc)),(13,.sl 5 (((x0.take (mnI (x0.length:Int) 8).toNat).drop (0:Int).toNat).map (cdA (csC (cdK .u8) (csC (cdK .u8) (csC (cdK .u8) (csC cdB (csE cdB))))) (fun _=>rfl)).enc)),(14,.v (.int .i64 (((x0.take (mnI (x0.length:Int) 8).toNat).drop (0:Int).toNat).length:Int))),(15,.v (.int .i64 c4)),(53,.v (.int .u8 r40.2.2.2.2.2.2.1)),(72,.v (.bool (r40.2.2.2.2.2.2.1==5)))],[mk 5 60 (r40.1.map AA.enc),some ⟨5,107,[.ag [.v (.int .u8 r40.2.1),.v (.int .u8 r40.2.2.1),.v (.int .u8 r40.2.2.2.1),.v (.bool r40.2.2.2.2.1),.v (.bool r40.2.2.2.2.2.1)]],false⟩,some ⟨5,60,[.ag [.v (.int .u8 r40.2.2.2.2.2.2.1),.st r40.2.2.2.2.2.2.2.1,.v (.bool r40.2.2.2.2.2.2.2.2.1),.e0,.v (.int .i64 r40.2.2.2.2.2.2.2.2.2.1)]],false⟩,mk 1 9 (r40.2.2.2.2.2.2.2.2.2.2.map cdS.enc)]⟩ (fun e s=>e = .normal/\Wk E0 s ⟨Fr 98 [(3,hd 0 (r.1.map AA.enc)),(4,.st c3),(7,.pt 1 0 0),(13,.sl 5 (((x0.take (mnI (x0.length:Int) 8).toNat).drop (0:Int).toNat).map (cdA (csC (cdK .u8) (csC (cdK .u8) (csC (cdK .u8) (csC cdB (csE cdB))))) (fun _=>rfl)).enc)),(14,.v (.int .i64 (((x0.take (mnI (x0.length:Int) 8).toNat).drop (0:Int).toNat).length:Int))),(15,.v (.int .i64 c4))],[mk 5 60 (r.1.map AA.enc),some ⟨5,60,[AA.enc r.2],false⟩]⟩):=by
 unfold It at h;refine AT (b:=(r40.2.2.2.2.2.2.1==5)) kr (fun hb1713=>?_) (fun hb1713=>?_)
 ·rw [if_pos hb1713] at h
  let p1:Option Blk:=some ⟨5,60,[.ag [.v (.int .u8 r40.2.2.2.2.2.2.1),.st r40.2.2.2.2.2.2.2.1,.v (.bool r40.2.2.2.2.1),.e0,.v (.int .i64 r40.2.2.2.2.2.2.2.2.2.1)]],false⟩
  let p2:Option Blk:=mk 5 60 (r40.1.map AA.enc)
  let p3:Nat×AV:=(15,.v (.int .i64 c4))
  let p4:Nat×AV:=(14,.v (.int .i64 (((x0.take (mnI (x0.length:Int) 8).toNat).drop (0:Int).toNat).length:Int)))
  let p5:Nat×AV:=(13,.sl 5 (((x0.take (mnI (x0.length:Int) 8).toNat).drop (0:Int).toNat).map (cdA (csC (cdK .u8) (csC (cdK .u8) (csC (cdK .u8) (csC cdB (csE cdB))))) (fun _=>rfl)).enc))
  let p6:Nat×AV:=(7,.pt 1 0 0)
  let p7:Nat×AV:=(3,hd 0 (r40.1.map AA.enc))
  refine AJ (s1:=⟨Fr 98 [p7,(4,.st c3),p6,p5,p4,p3],[p2,p1]⟩) ?_ ?_
  ·refine AE (n:=98) AC 4 [p7,(4,.st c3),(7,.pt 2 0 0),p5,p4,p3] [p2,some ⟨5,107,[.ag [.v (.int .u8 r40.2.1),.v (.int .u8 r40.2.2.1),.v (.int .u8 r40.2.2.2.1),.v (.bool r40.2.2.2.2.1),.v (.bool r40.2.2.2.2.2.1)]],false⟩,p1,mk 1 9 (r40.2.2.2.2.2.2.2.2.2.2.map cdS.enc)] kr ?_
   exact AI rfl (Ao [0,2] ⟨⟨_,rfl,Dk⟩,⟨_,rfl,C2⟩,trivial⟩ ⟨Dl (b':=0) kr kr,lv,lv,lv,lv,lv,trivial⟩)
  have hq:=OI h; subst hq;exact ⟨rfl,(Wk.trans (s1:=⟨Fr 98 [p7,(4,.st c3),p6,p5,p4,p3],[p2,p1]⟩) AQ (Wk.trans (s1:=⟨Fr 98 [p7,(4,.st c3),p6,p5,p4,p3],[p2,p1,none]⟩) Wk.none (Wk.trans (s1:=⟨Fr 98 [p7,(4,.st c3),p6,p5,p4,p3],[p2,some ⟨5,60,[.ag [.v (.int .u8 r40.2.2.2.2.2.2.1),.st r40.2.2.2.2.2.2.2.1,.v (.bool r40.2.2.2.2.1),.sl 1 ([].map cdS.enc),.v (.int .i64 r40.2.2.2.2.2.2.2.2.2.1)]],false⟩,none]⟩) (M5 2 (.inr kr) ⟨.inr (.inl rfl),.inr (.inr ⟨_,_,_,_,rfl,rfl,⟨(.inr ⟨_,_,rfl,rfl,⟨.inl rfl,.inl rfl,.inl rfl,TN,.inl rfl,trivial⟩⟩),trivial⟩⟩),.inl rfl,trivial⟩ ⟨⟨hd 0 (r40.1.map AA.enc),kr,(.inl (.inl rfl))⟩,⟨.st c3,kr,(.inl (.inl rfl))⟩,⟨.pt 1 0 0,kr,(.inl (.inl rfl))⟩,⟨.sl 5 (((x0.take (mnI (x0.length:Int) 8).toNat).drop (0:Int).toNat).map (cdA (csC (cdK .u8) (csC (cdK .u8) (csC (cdK .u8) (csC cdB (csE cdB))))) (fun _=>rfl)).enc),kr,(.inl (.inl rfl))⟩,⟨.v (.int .i64 (((x0.take (mnI (x0.length:Int) 8).toNat).drop (0:Int).toNat).length:Int)),kr,(.inl (.inl rfl))⟩,⟨.v (.int .i64 c4),kr,(.inl (.inl rfl))⟩,trivial⟩) (Ao [0,1] ⟨⟨_,rfl,Dk⟩,⟨_,rfl,C2⟩,trivial⟩ ⟨Dl (b':=0) kr kr,lv,lv,lv,lv,lv,trivial⟩))))⟩
 ·rw [Ce hb1713] at h
  refine AG ?_;refine AL AC [(3,hd 0 (r40.1.map AA.enc)),(4,.st c3),(6,.pt 1 0 0),(7,.pt 2 0 0),(8,hd 3 (r40.2.2.2.2.2.2.2.2.2.2.map cdS.enc)),(13,.sl 5 (((x0.take (mnI (x0.length:Int) 8).toNat).drop (0:Int).toNat).map (cdA (csC (cdK .u8) (csC (cdK .u8) (csC (cdK .u8) (csC cdB (csE cdB))))) (fun _=>rfl)).enc)),(14,.v (.int .i64 (((x0.take (mnI (x0.length:Int) 8).toNat).drop (0:Int).toNat).length:Int))),(15,.v (.int .i64 c4)),(53,.v (.int .u8 r40.2.2.2.2.2.2.1)),(77,.v (.bool (r40.2.2.2.2.2.2.1==6)))] [mk 5 60 (r40.1.map AA.enc),some ⟨5,107,[.ag [.v (.int .u8 r40.2.1),.v (.int .u8 r40.2.2.1),.v (.int .u8 r40.2.2.2.1),.v (.bool r40.2.2.2.2.1),.v (.bool r40.2.2.2.2.2.1)]],false⟩,some ⟨5,60,[.ag [.v (.int .u8 r40.2.2.2.2.2.2.1),.st r40.2.2.2.2.2.2.2.1,.v (.bool r40.2.2.2.2.2.2.2.2.1),.e0,.v (.int .i64 r40.2.2.2.2.2.2.2.2.2.1)]],false⟩,mk 1 9 (r40.2.2.2.2.2.2.2.2.2.2.map cdS.enc)] ?_;obtain ⟨r1722,hr1722,h⟩:=OB h;refine C9 (MN x0 c3 c4 r40 _ hr1722) ?_;obtain ⟨r2057,hr2057,h⟩:=OB h;refine C9 (MO x0 c3 c4 r40 r1722 _ hr2057) ?_;have hq:=OI h; subst hq;exact ⟨rfl,(Ao [0,1] ⟨⟨_,rfl,Dk⟩,⟨_,rfl,C2⟩,trivial⟩ ⟨Dl (b':=0) kr kr,lv,lv,lv,lv,lv,trivial⟩)⟩
theorem My (x0:(List (Int×Int×Int×Bool×Bool))) (c3:(List UInt8)) (c4:Int) (r40:(List AD)×Int×Int×Int×Bool×Bool×Int×(List UInt8)×Bool×Int×(List (List UInt8))) (r:((List AD)×Int×(List UInt8)×Bool×(List (List UInt8))×Int)) (h:Jc x0 c3 c4 r40=some r):Sem E0 ⟨none,false⟩ (pc Cr [1,1,1,0,1,0,0,1,1,0,0,1,1,1,1,1,0,1,0,1,1,1]) ⟨Fr 98 [(3,hd 0 (r40.1.map AA.enc)),(4,.st c3),(6,.pt 1 0 0),(7,.pt 2 0 0),(8,hd 3 (r40.2.2.2.2.2.2.2.2.2.2.map cdS.enc)),(13,.sl 5 (((x0.take (mnI (x0.length:Int) 8).toNat).drop (0:Int).toNat).map (cdA (csC (cdK .u8) (csC (cdK .u8) (csC (cdK .u8) (csC cdB (csE cdB))))) (fun _=>rfl)).enc)),(14,.v (.int .i64 (((x0.take (mnI (x0.length:Int) 8).toNat).drop (0:Int).toNat).length:Int))),(15,.v (.int .i64 c4)),(53,.v (.int .u8 r40.2.2.2.2.2.2.1)),(61,.v (.bool (r40.2.2.2.2.2.2.1==4)))],[mk 5 60 (r40.1.map AA.enc),some ⟨5,107,[.ag [.v (.int .u8 r40.2.1),.v (.int .u8 r40.2.2.1),.v (.int .u8 r40.2.2.2.1),.v (.bool r40.2.2.2.2.1),.v (.bool r40.2.2.2.2.2.1)]],false⟩,some ⟨5,60,[.ag [.v (.int .u8 r40.2.2.2.2.2.2.1),.st r40.2.2.2.2.2.2.2.1,.v (.bool r40.2.2.2.2.2.2.2.2.1),.e0,.v (.int .i64 r40.2.2.2.2.2.2.2.2.2.1)]],false⟩,mk 1 9 (r40.2.2.2.2.2.2.2.2.2.2.map cdS.enc)]⟩ (fun e s=>e = .normal/\Wk E0 s ⟨Fr 98 [(3,hd 0 (r.1.map AA.enc)),(4,.st c3),(7,.pt 1 0 0),(13,.sl 5 (((x0.take (mnI (x0.length:Int) 8).toNat).drop (0:Int).toNat).map (cdA (csC (cdK .u8) (csC (cdK .u8) (csC (cdK .u8) (csC cdB (csE cdB))))) (fun _=>rfl)).enc)),(14,.v (.int .i64 (((x0.take (mnI (x0.length:Int) 8).toNat).drop (0:Int).toNat).length:Int))),(15,.v (.int .i64 c4))],[mk 5 60 (r.1.map AA.enc),some ⟨5,60,[AA.enc r.2],false⟩]⟩):=by
 unfold Jc at h;refine AT (b:=(r40.2.2.2.2.2.2.1==4)) kr (fun hb1226=>?_) (fun hb1226=>?_)
 ·rw [if_pos hb1226] at h
  let p1:Option Blk:=some ⟨5,60,[.ag [.v (.int .u8 r40.2.2.2.2.2.2.1),.st r40.2.2.2.2.2.2.2.1,.v (.bool r40.2.2.2.2.1),.e0,.v (.int .i64 (wr .i64 (1 + (wr .i64 (r40.2.2.1.tmod 2)))))]],false⟩
  let p2:Option Blk:=mk 5 60 (r40.1.map AA.enc)
  let p3:Nat×AV:=(15,.v (.int .i64 c4))
  let p4:Nat×AV:=(14,.v (.int .i64 (((x0.take (mnI (x0.length:Int) 8).toNat).drop (0:Int).toNat).length:Int)))
  let p5:Nat×AV:=(13,.sl 5 (((x0.take (mnI (x0.length:Int) 8).toNat).drop (0:Int).toNat).map (cdA (csC (cdK .u8) (csC (cdK .u8) (csC (cdK .u8) (csC cdB (csE cdB))))) (fun _=>rfl)).enc))
  let p6:Nat×AV:=(7,.pt 1 0 0)
  let p7:Nat×AV:=(3,hd 0 (r40.1.map AA.enc))
  refine RZ (s1:=⟨Fr 98 [p7,(4,.st c3),p6,p5,p4,p3],[p2,p1]⟩) AC 11 kr ?_ ?_
  ·refine RunA.q 0 kr rfl ?_
   let p8:Option Blk:=mk 1 9 (r40.2.2.2.2.2.2.2.2.2.2.map cdS.enc)
   let p9:Option Blk:=some ⟨5,60,[.ag [.v (.int .u8 r40.2.2.2.2.2.2.1),.st r40.2.2.2.2.2.2.2.1,.v (.bool r40.2.2.2.2.2.2.2.2.1),.e0,.v (.int .i64 r40.2.2.2.2.2.2.2.2.2.1)]],false⟩
   let p10:Option Blk:=some ⟨5,107,[.ag [.v (.int .u8 r40.2.1),.v (.int .u8 r40.2.2.1),.v (.int .u8 r40.2.2.2.1),.v (.bool r40.2.2.2.2.1),.v (.bool r40.2.2.2.2.2.1)]],false⟩
   let p11:Nat×AV:=(7,.pt 2 0 0)
   refine Al (n:=98) AC [p7,(4,.st c3),(6,.pt 1 0 0),p11,p5,p4,p3,(63,.pt 1 0 1)] [p2,p10,p9,p8] kr ?_;refine RunA.q 5 kr rfl ?_
   let p12:Nat×AV:=(68,.pt 1 0 3)
   refine Al (n:=98) AC [p7,(4,.st c3),p11,p5,p4,p3,(63,.pt 1 0 1),p12] [p2,p10,p9,p8] kr ?_;refine NK 1 6 kr rfl rfl ?_ ?_
   ·refine Al (n:=98) AC [p7,(4,.st c3),p11,p5,p4,p3,(64,.v (.int .u8 r40.2.2.1)),p12] [p2,p10,p9,p8] kr ?_
    refine NK 2 6 kr rfl rfl ?_ ?_
    ·refine Al (n:=98) AC [p7,(4,.st c3),p11,p5,p4,p3,(65,.v (.int .u8 (r40.2.2.1.tmod 2))),p12] [p2,p10,p9,p8] kr ?_
     refine NK 3 6 kr rfl rfl ?_ ?_
     ·refine Al (n:=98) AC [p7,(4,.st c3),p11,p5,p4,p3,(66,.v (.int .i64 (wr .i64 (r40.2.2.1.tmod 2)))),p12] [p2,p10,p9,p8] kr ?_
      refine RunA.q 4 kr rfl ?_
      let p13:Nat×AV:=(67,.v (.int .i64 (wr .i64 (1 + (wr .i64 (r40.2.2.1.tmod 2))))))
      refine Al (n:=98) AC [p7,(4,.st c3),p11,p5,p4,p3,p13,p12] [p2,p10,p9,p8] kr ?_;refine RunA.q 7 kr rfl ?_;refine Al (n:=98) AC [p7,(4,.st c3),p11,p5,p4,p3,p13,p12,(70,.pt 2 0 4)] [p2,p10,p9,p8] kr ?_;refine NK 6 8 kr rfl rfl ?_ ?_
      ·let p14:Nat×AV:=(69,.v (.bool r40.2.2.2.2.1))
       refine Al (n:=98) AC [p7,(4,.st c3),p11,p5,p4,p3,p13,p14,(70,.pt 2 0 4)] [p2,p10,p9,p8] kr ?_;refine ER 8 kr rfl ?_
       let p15:Option Blk:=some ⟨5,60,[.ag [.v (.int .u8 r40.2.2.2.2.2.2.1),.st r40.2.2.2.2.2.2.2.1,.v (.bool r40.2.2.2.2.2.2.2.2.1),.e0,.v (.int .i64 (wr .i64 (1 + (wr .i64 (r40.2.2.1.tmod 2)))))]],false⟩
       refine Al (n:=98) AC [p7,(4,.st c3),p11,p5,p4,p3,p14] [p2,p10,p15,p8] kr ?_;refine RunA.q 9 kr rfl ?_;refine Al (n:=98) AC [p7,(4,.st c3),p11,p5,p4,p3,p14,(71,.pt 2 0 2)] [p2,p10,p15,p8] kr ?_;refine ER 10 kr rfl ?_;refine Al (n:=98) AC [p7,(4,.st c3),p11,p5,p4,p3] [p2,p10,p1,p8] kr ?_;exact RunA.done kr (Ao [0,2] ⟨⟨_,rfl,Dk⟩,⟨_,rfl,C2⟩,trivial⟩ ⟨Dl (b':=0) kr kr,lv,lv,lv,lv,lv,trivial⟩)
      ·let p16:Option Blk:=some ⟨5,60,[.ag [.v (.int .u8 r40.2.2.2.2.2.2.1),.st r40.2.2.2.2.2.2.2.1,.v (.bool r40.2.2.2.2.2.2.2.2.1),.e0,.v (.int .i64 (wr .i64 (1 + (wr .i64 (r40.2.2.1.tmod 2)))))]],false⟩
       refine Al (n:=98) AC [p7,(4,.st c3),p11,p5,p4,p3,p12] [p2,p10,p16,p8] kr ?_;refine ER 6 kr rfl ?_;refine Al (n:=98) AC [p7,(4,.st c3),p11,p5,p4,p3,(69,.v (.bool r40.2.2.2.2.1))] [p2,p10,p16,p8] kr ?_;refine RunA.q 9 kr rfl ?_;refine Al (n:=98) AC [p7,(4,.st c3),p11,p5,p4,p3,(69,.v (.bool r40.2.2.2.2.1)),(71,.pt 2 0 2)] [p2,p10,p16,p8] kr ?_;refine ER 10 kr rfl ?_;refine Al (n:=98) AC [p7,(4,.st c3),p11,p5,p4,p3] [p2,p10,p1,p8] kr ?_;exact RunA.done kr (Ao [0,2] ⟨⟨_,rfl,Dk⟩,⟨_,rfl,C2⟩,trivial⟩ ⟨Dl (b':=0) kr kr,lv,lv,lv,lv,lv,trivial⟩)
     ·let p17:Nat×AV:=(69,.v (.bool r40.2.2.2.2.1))
      refine Al (n:=98) AC [p7,(4,.st c3),p11,p5,p4,p3,(65,.v (.int .u8 (r40.2.2.1.tmod 2))),p17] [p2,p10,p9,p8] kr ?_;refine ER 3 kr rfl ?_;refine Al (n:=98) AC [p7,(4,.st c3),p11,p5,p4,p3,(66,.v (.int .i64 (wr .i64 (r40.2.2.1.tmod 2)))),p17] [p2,p10,p9,p8] kr ?_;refine RunA.q 4 kr rfl ?_
      let p18:Nat×AV:=(67,.v (.int .i64 (wr .i64 (1 + (wr .i64 (r40.2.2.1.tmod 2))))))
      refine Al (n:=98) AC [p7,(4,.st c3),p11,p5,p4,p3,p18,p17] [p2,p10,p9,p8] kr ?_;refine RunA.q 7 kr rfl ?_;refine Al (n:=98) AC [p7,(4,.st c3),p11,p5,p4,p3,p18,p17,(70,.pt 2 0 4)] [p2,p10,p9,p8] kr ?_;refine ER 8 kr rfl ?_
      let p19:Option Blk:=some ⟨5,60,[.ag [.v (.int .u8 r40.2.2.2.2.2.2.1),.st r40.2.2.2.2.2.2.2.1,.v (.bool r40.2.2.2.2.2.2.2.2.1),.e0,.v (.int .i64 (wr .i64 (1 + (wr .i64 (r40.2.2.1.tmod 2)))))]],false⟩
      refine Al (n:=98) AC [p7,(4,.st c3),p11,p5,p4,p3,p17] [p2,p10,p19,p8] kr ?_;refine RunA.q 9 kr rfl ?_;refine Al (n:=98) AC [p7,(4,.st c3),p11,p5,p4,p3,p17,(71,.pt 2 0 2)] [p2,p10,p19,p8] kr ?_;refine ER 10 kr rfl ?_;refine Al (n:=98) AC [p7,(4,.st c3),p11,p5,p4,p3] [p2,p10,p1,p8] kr ?_;exact RunA.done kr (Ao [0,2] ⟨⟨_,rfl,Dk⟩,⟨_,rfl,C2⟩,trivial⟩ ⟨Dl (b':=0) kr kr,lv,lv,lv,lv,lv,trivial⟩)
    ·let p20:Nat×AV:=(69,.v (.bool r40.2.2.2.2.1))
     refine Al (n:=98) AC [p7,(4,.st c3),p11,p5,p4,p3,(64,.v (.int .u8 r40.2.2.1)),p20] [p2,p10,p9,p8] kr ?_;refine ER 2 kr rfl ?_;refine Al (n:=98) AC [p7,(4,.st c3),p11,p5,p4,p3,(65,.v (.int .u8 (r40.2.2.1.tmod 2))),p20] [p2,p10,p9,p8] kr ?_;refine ER 3 kr rfl ?_;refine Al (n:=98) AC [p7,(4,.st c3),p11,p5,p4,p3,(66,.v (.int .i64 (wr .i64 (r40.2.2.1.tmod 2)))),p20] [p2,p10,p9,p8] kr ?_;refine RunA.q 4 kr rfl ?_
     let p21:Nat×AV:=(67,.v (.int .i64 (wr .i64 (1 + (wr .i64 (r40.2.2.1.tmod 2))))))
     refine Al (n:=98) AC [p7,(4,.st c3),p11,p5,p4,p3,p21,p20] [p2,p10,p9,p8] kr ?_;refine RunA.q 7 kr rfl ?_;refine Al (n:=98) AC [p7,(4,.st c3),p11,p5,p4,p3,p21,p20,(70,.pt 2 0 4)] [p2,p10,p9,p8] kr ?_;refine ER 8 kr rfl ?_
     let p22:Option Blk:=some ⟨5,60,[.ag [.v (.int .u8 r40.2.2.2.2.2.2.1),.st r40.2.2.2.2.2.2.2.1,.v (.bool r40.2.2.2.2.2.2.2.2.1),.e0,.v (.int .i64 (wr .i64 (1 + (wr .i64 (r40.2.2.1.tmod 2)))))]],false⟩
     refine Al (n:=98) AC [p7,(4,.st c3),p11,p5,p4,p3,p20] [p2,p10,p22,p8] kr ?_;refine RunA.q 9 kr rfl ?_;refine Al (n:=98) AC [p7,(4,.st c3),p11,p5,p4,p3,p20,(71,.pt 2 0 2)] [p2,p10,p22,p8] kr ?_;refine ER 10 kr rfl ?_;refine Al (n:=98) AC [p7,(4,.st c3),p11,p5,p4,p3] [p2,p10,p1,p8] kr ?_;exact RunA.done kr (Ao [0,2] ⟨⟨_,rfl,Dk⟩,⟨_,rfl,C2⟩,trivial⟩ ⟨Dl (b':=0) kr kr,lv,lv,lv,lv,lv,trivial⟩)
   ·let p23:Nat×AV:=(69,.v (.bool r40.2.2.2.2.1))
    refine Al (n:=98) AC [p7,(4,.st c3),p11,p5,p4,p3,(63,.pt 1 0 1),p23] [p2,p10,p9,p8] kr ?_;refine ER 1 kr rfl ?_;refine Al (n:=98) AC [p7,(4,.st c3),p11,p5,p4,p3,(64,.v (.int .u8 r40.2.2.1)),p23] [p2,p10,p9,p8] kr ?_;refine ER 2 kr rfl ?_;refine Al (n:=98) AC [p7,(4,.st c3),p11,p5,p4,p3,(65,.v (.int .u8 (r40.2.2.1.tmod 2))),p23] [p2,p10,p9,p8] kr ?_;refine ER 3 kr rfl ?_;refine Al (n:=98) AC [p7,(4,.st c3),p11,p5,p4,p3,(66,.v (.int .i64 (wr .i64 (r40.2.2.1.tmod 2)))),p23] [p2,p10,p9,p8] kr ?_;refine RunA.q 4 kr rfl ?_
    let p24:Nat×AV:=(67,.v (.int .i64 (wr .i64 (1 + (wr .i64 (r40.2.2.1.tmod 2))))))
    refine Al (n:=98) AC [p7,(4,.st c3),p11,p5,p4,p3,p24,p23] [p2,p10,p9,p8] kr ?_;refine RunA.q 7 kr rfl ?_;refine Al (n:=98) AC [p7,(4,.st c3),p11,p5,p4,p3,p24,p23,(70,.pt 2 0 4)] [p2,p10,p9,p8] kr ?_;refine ER 8 kr rfl ?_
    let p25:Option Blk:=some ⟨5,60,[.ag [.v (.int .u8 r40.2.2.2.2.2.2.1),.st r40.2.2.2.2.2.2.2.1,.v (.bool r40.2.2.2.2.2.2.2.2.1),.e0,.v (.int .i64 (wr .i64 (1 + (wr .i64 (r40.2.2.1.tmod 2)))))]],false⟩
    refine Al (n:=98) AC [p7,(4,.st c3),p11,p5,p4,p3,p23] [p2,p10,p25,p8] kr ?_;refine RunA.q 9 kr rfl ?_;refine Al (n:=98) AC [p7,(4,.st c3),p11,p5,p4,p3,p23,(71,.pt 2 0 2)] [p2,p10,p25,p8] kr ?_;refine ER 10 kr rfl ?_;refine Al (n:=98) AC [p7,(4,.st c3),p11,p5,p4,p3] [p2,p10,p1,p8] kr ?_;exact RunA.done kr (Ao [0,2] ⟨⟨_,rfl,Dk⟩,⟨_,rfl,C2⟩,trivial⟩ ⟨Dl (b':=0) kr kr,lv,lv,lv,lv,lv,trivial⟩)
  have hq:=OI h; subst hq;exact ⟨rfl,(Wk.trans (s1:=⟨Fr 98 [p7,(4,.st c3),p6,p5,p4,p3],[p2,p1]⟩) AQ (Wk.trans (s1:=⟨Fr 98 [p7,(4,.st c3),p6,p5,p4,p3],[p2,p1,none]⟩) Wk.none (Wk.trans (s1:=⟨Fr 98 [p7,(4,.st c3),p6,p5,p4,p3],[p2,some ⟨5,60,[.ag [.v (.int .u8 r40.2.2.2.2.2.2.1),.st r40.2.2.2.2.2.2.2.1,.v (.bool r40.2.2.2.2.1),.sl 1 ([].map cdS.enc),.v (.int .i64 (wr .i64 (1 + (wr .i64 (r40.2.2.1.tmod 2)))))]],false⟩,none]⟩) (M5 2 (.inr kr) ⟨.inr (.inl rfl),.inr (.inr ⟨_,_,_,_,rfl,rfl,⟨(.inr ⟨_,_,rfl,rfl,⟨.inl rfl,.inl rfl,.inl rfl,TN,.inl rfl,trivial⟩⟩),trivial⟩⟩),.inl rfl,trivial⟩ ⟨⟨hd 0 (r40.1.map AA.enc),kr,(.inl (.inl rfl))⟩,⟨.st c3,kr,(.inl (.inl rfl))⟩,⟨.pt 1 0 0,kr,(.inl (.inl rfl))⟩,⟨.sl 5 (((x0.take (mnI (x0.length:Int) 8).toNat).drop (0:Int).toNat).map (cdA (csC (cdK .u8) (csC (cdK .u8) (csC (cdK .u8) (csC cdB (csE cdB))))) (fun _=>rfl)).enc),kr,(.inl (.inl rfl))⟩,⟨.v (.int .i64 (((x0.take (mnI (x0.length:Int) 8).toNat).drop (0:Int).toNat).length:Int)),kr,(.inl (.inl rfl))⟩,⟨.v (.int .i64 c4),kr,(.inl (.inl rfl))⟩,trivial⟩) (Ao [0,1] ⟨⟨_,rfl,Dk⟩,⟨_,rfl,C2⟩,trivial⟩ ⟨Dl (b':=0) kr kr,lv,lv,lv,lv,lv,trivial⟩))))⟩
 ·rw [Ce hb1226] at h
  refine AL AC [(3,hd 0 (r40.1.map AA.enc)),(4,.st c3),(6,.pt 1 0 0),(7,.pt 2 0 0),(8,hd 3 (r40.2.2.2.2.2.2.2.2.2.2.map cdS.enc)),(13,.sl 5 (((x0.take (mnI (x0.length:Int) 8).toNat).drop (0:Int).toNat).map (cdA (csC (cdK .u8) (csC (cdK .u8) (csC (cdK .u8) (csC cdB (csE cdB))))) (fun _=>rfl)).enc)),(14,.v (.int .i64 (((x0.take (mnI (x0.length:Int) 8).toNat).drop (0:Int).toNat).length:Int))),(15,.v (.int .i64 c4)),(53,.v (.int .u8 r40.2.2.2.2.2.2.1)),(72,.v (.bool (r40.2.2.2.2.2.2.1==5)))] [mk 5 60 (r40.1.map AA.enc),some ⟨5,107,[.ag [.v (.int .u8 r40.2.1),.v (.int .u8 r40.2.2.1),.v (.int .u8 r40.2.2.2.1),.v (.bool r40.2.2.2.2.1),.v (.bool r40.2.2.2.2.2.1)]],false⟩,some ⟨5,60,[.ag [.v (.int .u8 r40.2.2.2.2.2.2.1),.st r40.2.2.2.2.2.2.2.1,.v (.bool r40.2.2.2.2.2.2.2.2.1),.e0,.v (.int .i64 r40.2.2.2.2.2.2.2.2.2.1)]],false⟩,mk 1 9 (r40.2.2.2.2.2.2.2.2.2.2.map cdS.enc)] ?_;obtain ⟨r2058,hr2058,h⟩:=OB h;refine C9 (MM x0 c3 c4 r40 _ hr2058) ?_;have hq:=OI h; subst hq;exact ⟨rfl,(Ao [0,1] ⟨⟨_,rfl,Dk⟩,⟨_,rfl,C2⟩,trivial⟩ ⟨Dl (b':=0) kr kr,lv,lv,lv,lv,lv,trivial⟩)⟩
theorem Mx (x0:(List (Int×Int×Int×Bool×Bool))) (c3:(List UInt8)) (c4:Int) (r40:(List AD)×Int×Int×Int×Bool×Bool×Int×(List UInt8)×Bool×Int×(List (List UInt8))) (r:((List AD)×(List UInt8)×Int×(List UInt8)×Bool×(List (List UInt8))×Int)) (h:GV x0 c3 c4 r40=some r):Sem E0 ⟨none,false⟩ (pc Cr [1,1,1,0,1,0,0,1,1,0,0,1,1,1,1,1,0,1,0,1]) ⟨Fr 98 [(3,hd 0 (r40.1.map AA.enc)),(4,.st c3),(6,.pt 1 0 0),(7,.pt 2 0 0),(8,hd 3 (r40.2.2.2.2.2.2.2.2.2.2.map cdS.enc)),(13,.sl 5 (((x0.take (mnI (x0.length:Int) 8).toNat).drop (0:Int).toNat).map (cdA (csC (cdK .u8) (csC (cdK .u8) (csC (cdK .u8) (csC cdB (csE cdB))))) (fun _=>rfl)).enc)),(14,.v (.int .i64 (((x0.take (mnI (x0.length:Int) 8).toNat).drop (0:Int).toNat).length:Int))),(15,.v (.int .i64 c4)),(53,.v (.int .u8 r40.2.2.2.2.2.2.1)),(54,.v (.bool (r40.2.2.2.2.2.2.1==1)))],[mk 5 60 (r40.1.map AA.enc),some ⟨5,107,[.ag [.v (.int .u8 r40.2.1),.v (.int .u8 r40.2.2.1),.v (.int .u8 r40.2.2.2.1),.v (.bool r40.2.2.2.2.1),.v (.bool r40.2.2.2.2.2.1)]],false⟩,some ⟨5,60,[.ag [.v (.int .u8 r40.2.2.2.2.2.2.1),.st r40.2.2.2.2.2.2.2.1,.v (.bool r40.2.2.2.2.2.2.2.2.1),.e0,.v (.int .i64 r40.2.2.2.2.2.2.2.2.2.1)]],false⟩,mk 1 9 (r40.2.2.2.2.2.2.2.2.2.2.map cdS.enc)]⟩ (fun e s=>e = .normal/\Wk E0 s ⟨Fr 98 [(3,hd 0 (r.1.map AA.enc)),(4,.st r.2.1),(7,.pt 1 0 0),(13,.sl 5 (((x0.take (mnI (x0.length:Int) 8).toNat).drop (0:Int).toNat).map (cdA (csC (cdK .u8) (csC (cdK .u8) (csC (cdK .u8) (csC cdB (csE cdB))))) (fun _=>rfl)).enc)),(14,.v (.int .i64 (((x0.take (mnI (x0.length:Int) 8).toNat).drop (0:Int).toNat).length:Int))),(15,.v (.int .i64 c4))],[mk 5 60 (r.1.map AA.enc),some ⟨5,60,[AA.enc r.2.2],false⟩]⟩):=by
 unfold GV at h;refine AT (b:=(r40.2.2.2.2.2.2.1==1)) kr (fun hb41=>?_) (fun hb41=>?_)
 ·rw [if_pos hb41] at h
  refine AG ?_
  let p1:Option Blk:=some ⟨5,60,[.ag [.v (.int .u8 r40.2.2.2.2.2.2.1),.st r40.2.2.2.2.2.2.2.1,.v (.bool r40.2.2.2.2.2.2.2.2.1),.sl 1 (r40.2.2.2.2.2.2.2.2.2.2.map cdS.enc),.v (.int .i64 r40.2.2.2.2.2.2.2.2.2.1)]],false⟩
  let p2:Option Blk:=mk 5 60 (r40.1.map AA.enc)
  let p3:Nat×AV:=(15,.v (.int .i64 c4))
  let p4:Nat×AV:=(14,.v (.int .i64 (((x0.take (mnI (x0.length:Int) 8).toNat).drop (0:Int).toNat).length:Int)))
  let p5:Nat×AV:=(13,.sl 5 (((x0.take (mnI (x0.length:Int) 8).toNat).drop (0:Int).toNat).map (cdA (csC (cdK .u8) (csC (cdK .u8) (csC (cdK .u8) (csC cdB (csE cdB))))) (fun _=>rfl)).enc))
  let p6:Nat×AV:=(8,.sl 1 (r40.2.2.2.2.2.2.2.2.2.2.map cdS.enc))
  let p7:Nat×AV:=(3,hd 0 (r40.1.map AA.enc))
  refine AJ (s1:=⟨Fr 98 [p7,(7,.pt 1 0 0),p6,p5,p4,p3],[p2,p1]⟩) ?_ ?_
  ·let p8:Option Blk:=some ⟨5,60,[.ag [.v (.int .u8 r40.2.2.2.2.2.2.1),.st r40.2.2.2.2.2.2.2.1,.v (.bool r40.2.2.2.2.2.2.2.2.1),.e0,.v (.int .i64 r40.2.2.2.2.2.2.2.2.2.1)]],false⟩
   let p9:Option Blk:=some ⟨5,107,[.ag [.v (.int .u8 r40.2.1),.v (.int .u8 r40.2.2.1),.v (.int .u8 r40.2.2.2.1),.v (.bool r40.2.2.2.2.1),.v (.bool r40.2.2.2.2.2.1)]],false⟩
   refine AE (n:=98) AC 2 [p7,(7,.pt 2 0 0),(8,hd 3 (r40.2.2.2.2.2.2.2.2.2.2.map cdS.enc)),p5,p4,p3,(56,hd 3 (r40.2.2.2.2.2.2.2.2.2.2.map cdS.enc)),(57,.pt 2 0 3)] [p2,p9,p8,mk 1 9 (r40.2.2.2.2.2.2.2.2.2.2.map cdS.enc)] kr ?_;refine PF (s1:=⟨Fr 98 [p7,(7,.pt 2 0 0),p6,p5,p4,p3,(56,.sl 1 (r40.2.2.2.2.2.2.2.2.2.2.map cdS.enc)),(57,.pt 2 0 3)],[p2,p9,p8,none]⟩) (KF 3 (.inl kr) ⟨.inr (.inl rfl),.inr (.inr ⟨_,_,_,_,rfl,rfl,⟨.inl rfl,trivial⟩⟩),.inr (.inr ⟨_,_,_,_,rfl,rfl,⟨.inl rfl,trivial⟩⟩),.inl rfl,trivial⟩ ⟨⟨hd 0 (r40.1.map AA.enc),kr,.inl rfl⟩,⟨.pt 2 0 0,kr,.inl rfl⟩,⟨hd 3 (r40.2.2.2.2.2.2.2.2.2.2.map cdS.enc),kr,QK (t:=9) kr K3⟩,⟨.sl 5 (((x0.take (mnI (x0.length:Int) 8).toNat).drop (0:Int).toNat).map (cdA (csC (cdK .u8) (csC (cdK .u8) (csC (cdK .u8) (csC cdB (csE cdB))))) (fun _=>rfl)).enc),kr,.inl rfl⟩,⟨.v (.int .i64 (((x0.take (mnI (x0.length:Int) 8).toNat).drop (0:Int).toNat).length:Int)),kr,.inl rfl⟩,⟨.v (.int .i64 c4),kr,.inl rfl⟩,⟨hd 3 (r40.2.2.2.2.2.2.2.2.2.2.map cdS.enc),kr,QK (t:=9) kr K3⟩,⟨.pt 2 0 3,kr,.inl rfl⟩,trivial⟩) ?_;refine AE (n:=98) AC 1 [p7,(7,.pt 2 0 0),p6,p5,p4,p3] [p2,p9,p1,none] kr ?_;exact AI rfl (Ao [0,2] ⟨⟨_,rfl,Dk⟩,⟨_,rfl,C2⟩,trivial⟩ ⟨Dl (b':=0) kr kr,lv,lv,lv,lv,lv,trivial⟩)
  obtain ⟨v42,hv42,h⟩:=OB h;refine AJ (s1:=⟨Fr 98 [p7,(4,.st v42),(7,.pt 1 0 0),p5,p4,p3],[p2,p1]⟩) ?_ ?_
  ·refine AE (n:=98) AC 1 [p7,(7,.pt 1 0 0),p5,p4,p3,(58,.sl 1 (r40.2.2.2.2.2.2.2.2.2.2.map cdS.enc))] [p2,p1] kr ?_
   refine Aa AC 0 rfl (C5 (AB rfl) rfl (AN (a:= .sl 1 (r40.2.2.2.2.2.2.2.2.2.2.map cdS.enc)) (b:= .v (.int .i64 0)) kr kr (Gi (e:=cdS.enc) (el:=9) (k:=1) (ki:= .i64) kr kr hv42))) ?_;exact Ap AC
  have hq:=OI h; subst hq;exact ⟨rfl,(Ao [0,1] ⟨⟨_,rfl,Dk⟩,⟨_,rfl,C2⟩,trivial⟩ ⟨Dl (b':=0) kr kr,lv,lv,lv,lv,lv,trivial⟩)⟩
 ·rw [Ce hb41] at h
  refine AL AC [(3,hd 0 (r40.1.map AA.enc)),(4,.st c3),(6,.pt 1 0 0),(7,.pt 2 0 0),(8,hd 3 (r40.2.2.2.2.2.2.2.2.2.2.map cdS.enc)),(13,.sl 5 (((x0.take (mnI (x0.length:Int) 8).toNat).drop (0:Int).toNat).map (cdA (csC (cdK .u8) (csC (cdK .u8) (csC (cdK .u8) (csC cdB (csE cdB))))) (fun _=>rfl)).enc)),(14,.v (.int .i64 (((x0.take (mnI (x0.length:Int) 8).toNat).drop (0:Int).toNat).length:Int))),(15,.v (.int .i64 c4)),(53,.v (.int .u8 r40.2.2.2.2.2.2.1)),(61,.v (.bool (r40.2.2.2.2.2.2.1==4)))] [mk 5 60 (r40.1.map AA.enc),some ⟨5,107,[.ag [.v (.int .u8 r40.2.1),.v (.int .u8 r40.2.2.1),.v (.int .u8 r40.2.2.2.1),.v (.bool r40.2.2.2.2.1),.v (.bool r40.2.2.2.2.2.1)]],false⟩,some ⟨5,60,[.ag [.v (.int .u8 r40.2.2.2.2.2.2.1),.st r40.2.2.2.2.2.2.2.1,.v (.bool r40.2.2.2.2.2.2.2.2.1),.e0,.v (.int .i64 r40.2.2.2.2.2.2.2.2.2.1)]],false⟩,mk 1 9 (r40.2.2.2.2.2.2.2.2.2.2.map cdS.enc)] ?_;obtain ⟨r2059,hr2059,h⟩:=OB h;refine C9 (My x0 c3 c4 r40 _ hr2059) ?_;have hq:=OI h; subst hq;exact ⟨rfl,(Ao [0,1] ⟨⟨_,rfl,Dk⟩,⟨_,rfl,C2⟩,trivial⟩ ⟨Dl (b':=0) kr kr,lv,lv,lv,lv,lv,trivial⟩)⟩
theorem Mz (x0:(List (Int×Int×Int×Bool×Bool))):∀ (f:Nat) (c2:(List AD)) (c3:(List UInt8)) (c4:Int) (r:((List AD))),ED x0 f c2 c3 c4=some r->SemN E0 ⟨none,false⟩ (pc Cr [1,1,1,0,1,0,0]) f ⟨Fr 98 [(3,hd 0 (c2.map AA.enc)),(4,.st c3),(13,.sl 5 (((x0.take (mnI (x0.length:Int) 8).toNat).drop (0:Int).toNat).map (cdA (csC (cdK .u8) (csC (cdK .u8) (csC (cdK .u8) (csC cdB (csE cdB))))) (fun _=>rfl)).enc)),(14,.v (.int .i64 (((x0.take (mnI (x0.length:Int) 8).toNat).drop (0:Int).toNat).length:Int))),(15,.v (.int .i64 c4))],[mk 5 60 (c2.map AA.enc)]⟩ (fun e s=>e=(.exit 0)/\Wk E0 s ⟨Fr 98 [(3,hd 0 (r.map AA.enc))],[mk 5 60 (r.map AA.enc)]⟩):=by
 intro f;induction f with
 | zero=>intro c2 c3 c4 r h; cases h
 | succ f ih0 =>
  intro c2 c3 c4 r h
  have ih:=fun (c2:(List AD)) (c3:(List UInt8)) (c4:Int)=>ih0 c2 c3 c4 r
  unfold ED at h;refine D5 ?_;refine AL AC [(3,hd 0 (c2.map AA.enc)),(4,.st c3),(13,.sl 5 (((x0.take (mnI (x0.length:Int) 8).toNat).drop (0:Int).toNat).map (cdA (csC (cdK .u8) (csC (cdK .u8) (csC (cdK .u8) (csC cdB (csE cdB))))) (fun _=>rfl)).enc)),(14,.v (.int .i64 (((x0.take (mnI (x0.length:Int) 8).toNat).drop (0:Int).toNat).length:Int))),(15,.v (.int .i64 c4)),(16,.v (.bool (decide (c4 < (((x0.take (mnI (x0.length:Int) 8).toNat).drop (0:Int).toNat).length:Int)))))] [mk 5 60 (c2.map AA.enc)] ?_;refine AG ?_;refine AT (b:=(decide (c4 < (((x0.take (mnI (x0.length:Int) 8).toNat).drop (0:Int).toNat).length:Int)))) kr (fun hb5=>?_) (fun hb5=>?_)
  ·rw [if_pos hb5] at h
   refine Ae ?_;refine AG ?_;refine Bb ?_;refine AG ?_;obtain ⟨v6,hv6,h⟩:=OB h;refine AJ (s1:=⟨Fr 98 [(3,hd 0 (c2.map AA.enc)),(4,.st c3),(6,.pt 1 0 0),(13,.sl 5 (((x0.take (mnI (x0.length:Int) 8).toNat).drop (0:Int).toNat).map (cdA (csC (cdK .u8) (csC (cdK .u8) (csC (cdK .u8) (csC cdB (csE cdB))))) (fun _=>rfl)).enc)),(14,.v (.int .i64 (((x0.take (mnI (x0.length:Int) 8).toNat).drop (0:Int).toNat).length:Int))),(15,.v (.int .i64 c4))],[mk 5 60 (c2.map AA.enc),some ⟨5,107,[.ag [.v (.int .u8 v6.1),.v (.int .u8 v6.2.1),.v (.int .u8 v6.2.2.1),.v (.bool v6.2.2.2.1),.v (.bool v6.2.2.2.2)]],false⟩]⟩) ?_ ?_
   ·refine Aa AC 0 rfl (C5 (AB rfl) rfl (AN (a:= .sl 5 (((x0.take (mnI (x0.length:Int) 8).toNat).drop (0:Int).toNat).map (cdA (csC (cdK .u8) (csC (cdK .u8) (csC (cdK .u8) (csC cdB (csE cdB))))) (fun _=>rfl)).enc)) (b:= .v (.int .i64 c4)) kr kr (Gi (e:=(cdA (csC (cdK .u8) (csC (cdK .u8) (csC (cdK .u8) (csC cdB (csE cdB))))) (fun _=>rfl)).enc) (el:=107) (k:=5) (ki:= .i64) kr kr hv6))) ?_
    exact Ap AC
   refine AL AC [(3,hd 0 (c2.map AA.enc)),(4,.st c3),(6,.pt 1 0 0),(7,.pt 2 0 0),(13,.sl 5 (((x0.take (mnI (x0.length:Int) 8).toNat).drop (0:Int).toNat).map (cdA (csC (cdK .u8) (csC (cdK .u8) (csC (cdK .u8) (csC cdB (csE cdB))))) (fun _=>rfl)).enc)),(14,.v (.int .i64 (((x0.take (mnI (x0.length:Int) 8).toNat).drop (0:Int).toNat).length:Int))),(15,.v (.int .i64 c4))] [mk 5 60 (c2.map AA.enc),some ⟨5,107,[.ag [.v (.int .u8 v6.1),.v (.int .u8 v6.2.1),.v (.int .u8 v6.2.2.1),.v (.bool v6.2.2.2.1),.v (.bool v6.2.2.2.2)]],false⟩,some ⟨5,60,[.ag [.v (.int .u8 (wr .u8 (1 + (v6.1.tmod 10)))),.st [],.v (.bool false),.e0,.v (.int .i64 0)]],false⟩] ?_;refine AG ?_;by_cases hk7:(DG (v6.2.2.1.tmod 4) (([97,98,99,100]:List UInt8).length:Int) ([97,98,99,100]:List UInt8).length)=true
   case neg=>rw [if_neg hk7] at h; cases h
   rw [if_pos hk7] at h;by_cases hk8:(DG 0 (1:Int) ((([97,98,99,100]:List UInt8).take (([97,98,99,100]:List UInt8).length:Int).toNat).drop (v6.2.2.1.tmod 4).toNat).length)=true
   case neg=>rw [if_neg hk8] at h; cases h
   rw [if_pos hk8] at h;refine AJ (s1:=⟨Fr 98 [(3,hd 0 (c2.map AA.enc)),(4,.st c3),(6,.pt 1 0 0),(7,.pt 2 0 0),(8,hd 3 ([((((([97,98,99,100]:List UInt8).take (([97,98,99,100]:List UInt8).length:Int).toNat).drop (v6.2.2.1.tmod 4).toNat).take (1:Int).toNat).drop (0:Int).toNat)].map cdS.enc)),(13,.sl 5 (((x0.take (mnI (x0.length:Int) 8).toNat).drop (0:Int).toNat).map (cdA (csC (cdK .u8) (csC (cdK .u8) (csC (cdK .u8) (csC cdB (csE cdB))))) (fun _=>rfl)).enc)),(14,.v (.int .i64 (((x0.take (mnI (x0.length:Int) 8).toNat).drop (0:Int).toNat).length:Int))),(15,.v (.int .i64 c4))],[mk 5 60 (c2.map AA.enc),some ⟨5,107,[.ag [.v (.int .u8 v6.1),.v (.int .u8 v6.2.1),.v (.int .u8 v6.2.2.1),.v (.bool v6.2.2.2.1),.v (.bool v6.2.2.2.2)]],false⟩,some ⟨5,60,[.ag [.v (.int .u8 (wr .u8 (1 + (v6.1.tmod 10)))),.st [],.v (.bool false),.e0,.v (.int .i64 0)]],false⟩,mk 1 9 ([((((([97,98,99,100]:List UInt8).take (([97,98,99,100]:List UInt8).length:Int).toNat).drop (v6.2.2.1.tmod 4).toNat).take (1:Int).toNat).drop (0:Int).toNat)].map cdS.enc)]⟩) ?_ ?_
   ·refine AE (n:=98) AC 3 [(3,hd 0 (c2.map AA.enc)),(4,.st c3),(6,.pt 1 0 0),(7,.pt 2 0 0),(13,.sl 5 (((x0.take (mnI (x0.length:Int) 8).toNat).drop (0:Int).toNat).map (cdA (csC (cdK .u8) (csC (cdK .u8) (csC (cdK .u8) (csC cdB (csE cdB))))) (fun _=>rfl)).enc)),(14,.v (.int .i64 (((x0.take (mnI (x0.length:Int) 8).toNat).drop (0:Int).toNat).length:Int))),(15,.v (.int .i64 c4)),(26,.v (.int .u8 (v6.2.2.1.tmod 4)))] [mk 5 60 (c2.map AA.enc),some ⟨5,107,[.ag [.v (.int .u8 v6.1),.v (.int .u8 v6.2.1),.v (.int .u8 v6.2.2.1),.v (.bool v6.2.2.2.1),.v (.bool v6.2.2.2.2)]],false⟩,some ⟨5,60,[.ag [.v (.int .u8 (wr .u8 (1 + (v6.1.tmod 10)))),.st [],.v (.bool false),.e0,.v (.int .i64 0)]],false⟩] kr ?_
    refine Aa AC 0 rfl (C5 (AB rfl) rfl (En (a:= .st [97,98,99,100]) (l:=(some (.v (.int .u8 (v6.2.2.1.tmod 4))))) (u:=none) (m:=none) kr kr kr rfl (Fh (bs:=[97,98,99,100]) (lo:=(v6.2.2.1.tmod 4)) (hi:=(([97,98,99,100]:List UInt8).length:Int)) kr (GW (NV hk7)) rfl hk7))) ?_;refine Aa AC 0 rfl (C5 (AB rfl) rfl (En (a:= .st ((([97,98,99,100]:List UInt8).take (([97,98,99,100]:List UInt8).length:Int).toNat).drop (v6.2.2.1.tmod 4).toNat)) (l:=none) (u:=(some (.v (.int .i64 1)))) (m:=none) kr kr kr rfl (Fh (bs:=((([97,98,99,100]:List UInt8).take (([97,98,99,100]:List UInt8).length:Int).toNat).drop (v6.2.2.1.tmod 4).toNat)) (lo:=0) (hi:=(1:Int)) kr rfl (GW (J0 hk8)) hk8))) ?_;exact Ap AC
   refine AG ?_;refine AL AC [(3,hd 0 (c2.map AA.enc)),(4,.st c3),(6,.pt 1 0 0),(7,.pt 2 0 0),(8,hd 3 ([((((([97,98,99,100]:List UInt8).take (([97,98,99,100]:List UInt8).length:Int).toNat).drop (v6.2.2.1.tmod 4).toNat).take (1:Int).toNat).drop (0:Int).toNat)].map cdS.enc)),(13,.sl 5 (((x0.take (mnI (x0.length:Int) 8).toNat).drop (0:Int).toNat).map (cdA (csC (cdK .u8) (csC (cdK .u8) (csC (cdK .u8) (csC cdB (csE cdB))))) (fun _=>rfl)).enc)),(14,.v (.int .i64 (((x0.take (mnI (x0.length:Int) 8).toNat).drop (0:Int).toNat).length:Int))),(15,.v (.int .i64 c4)),(33,.v (.bool ((Du .u8 v6.2.2.1 4)!=0)))] [mk 5 60 (c2.map AA.enc),some ⟨5,107,[.ag [.v (.int .u8 v6.1),.v (.int .u8 v6.2.1),.v (.int .u8 v6.2.2.1),.v (.bool v6.2.2.2.1),.v (.bool v6.2.2.2.2)]],false⟩,some ⟨5,60,[.ag [.v (.int .u8 (wr .u8 (1 + (v6.1.tmod 10)))),.st [],.v (.bool false),.e0,.v (.int .i64 0)]],false⟩,mk 1 9 ([((((([97,98,99,100]:List UInt8).take (([97,98,99,100]:List UInt8).length:Int).toNat).drop (v6.2.2.1.tmod 4).toNat).take (1:Int).toNat).drop (0:Int).toNat)].map cdS.enc)] ?_;obtain ⟨r14,hr14,h⟩:=OB h;refine C9 (Mv x0 c2 c3 c4 v6 _ hr14) ?_;refine AG ?_;refine AG ?_;obtain ⟨j27,hj27,h⟩:=OB h;refine AJ (s1:=⟨Fr 98 [(3,hd 0 (j27.1.map AA.enc)),(4,.st c3),(6,.pt 1 0 0),(7,.pt 2 0 0),(8,hd 3 (j27.2.2.2.2.2.2.2.2.2.2.1.map cdS.enc)),(13,.sl 5 (((x0.take (mnI (x0.length:Int) 8).toNat).drop (0:Int).toNat).map (cdA (csC (cdK .u8) (csC (cdK .u8) (csC (cdK .u8) (csC cdB (csE cdB))))) (fun _=>rfl)).enc)),(14,.v (.int .i64 (((x0.take (mnI (x0.length:Int) 8).toNat).drop (0:Int).toNat).length:Int))),(15,.v (.int .i64 c4)),(49,.v (.bool j27.2.2.2.2.2.2.2.2.2.2.2))],[mk 5 60 (j27.1.map AA.enc),some ⟨5,107,[.ag [.v (.int .u8 j27.2.1),.v (.int .u8 j27.2.2.1),.v (.int .u8 j27.2.2.2.1),.v (.bool j27.2.2.2.2.1),.v (.bool j27.2.2.2.2.2.1)]],false⟩,some ⟨5,60,[.ag [.v (.int .u8 j27.2.2.2.2.2.2.1),.st j27.2.2.2.2.2.2.2.1,.v (.bool j27.2.2.2.2.2.2.2.2.1),.e0,.v (.int .i64 j27.2.2.2.2.2.2.2.2.2.1)]],false⟩,mk 1 9 (j27.2.2.2.2.2.2.2.2.2.2.1.map cdS.enc)]⟩) ?_ ?_
   ·refine AE (n:=98) AC 3 [(3,hd 0 (c2.map AA.enc)),(4,.st c3),(6,.pt 1 0 0),(7,.pt 2 0 0),(8,hd 3 (r14.map cdS.enc)),(13,.sl 5 (((x0.take (mnI (x0.length:Int) 8).toNat).drop (0:Int).toNat).map (cdA (csC (cdK .u8) (csC (cdK .u8) (csC (cdK .u8) (csC cdB (csE cdB))))) (fun _=>rfl)).enc)),(14,.v (.int .i64 (((x0.take (mnI (x0.length:Int) 8).toNat).drop (0:Int).toNat).length:Int))),(15,.v (.int .i64 c4)),(45,.v (.bool v6.2.2.2.2))] [mk 5 60 (c2.map AA.enc),some ⟨5,107,[.ag [.v (.int .u8 v6.1),.v (.int .u8 v6.2.1),.v (.int .u8 v6.2.2.1),.v (.bool v6.2.2.2.1),.v (.bool v6.2.2.2.2)]],false⟩,some ⟨5,60,[.ag [.v (.int .u8 (wr .u8 (1 + (v6.1.tmod 10)))),.st [],.v (.bool false),.e0,.v (.int .i64 0)]],false⟩,mk 1 9 (r14.map cdS.enc)] kr ?_
    rcases BE v6.2.2.2.2 with hc2062 | hc2062
    ·rw [if_pos hc2062] at hj27
     rw [hc2062];refine AE (n:=98) AC 4 [(3,hd 0 (c2.map AA.enc)),(4,.st c3),(6,.pt 1 0 0),(7,.pt 2 0 0),(8,hd 3 (r14.map cdS.enc)),(13,.sl 5 (((x0.take (mnI (x0.length:Int) 8).toNat).drop (0:Int).toNat).map (cdA (csC (cdK .u8) (csC (cdK .u8) (csC (cdK .u8) (csC cdB (csE cdB))))) (fun _=>rfl)).enc)),(14,.v (.int .i64 (((x0.take (mnI (x0.length:Int) 8).toNat).drop (0:Int).toNat).length:Int))),(15,.v (.int .i64 c4)),(46,.pt 2 0 0),(47,.v (.int .u8 (wr .u8 (1 + (v6.1.tmod 10))))),(48,.v (.bool ((wr .u8 (1 + (v6.1.tmod 10)))!=1))),(49,.v (.bool ((wr .u8 (1 + (v6.1.tmod 10)))!=1)))] [mk 5 60 (c2.map AA.enc),some ⟨5,107,[.ag [.v (.int .u8 v6.1),.v (.int .u8 v6.2.1),.v (.int .u8 v6.2.2.1),.v (.bool v6.2.2.2.1),.v (.bool true)]],false⟩,some ⟨5,60,[.ag [.v (.int .u8 (wr .u8 (1 + (v6.1.tmod 10)))),.st [],.v (.bool false),.e0,.v (.int .i64 0)]],false⟩,mk 1 9 (r14.map cdS.enc)] kr ?_;have hq:=OI hj27; subst hq;exact AI rfl (Ao [0,1,2,3] ⟨⟨_,rfl,Dk⟩,⟨_,rfl,C2⟩,⟨_,rfl,C2⟩,⟨_,rfl,Dk⟩,trivial⟩ ⟨Dl (b':=0) kr kr,lv,lv,lv,Dl (b':=3) kr kr,lv,lv,lv,lv,trivial⟩)
    ·rw [Ce hc2062] at hj27
     rw [hc2062];refine AE (n:=98) AC 4 [(3,hd 0 (c2.map AA.enc)),(4,.st c3),(6,.pt 1 0 0),(7,.pt 2 0 0),(8,hd 3 (r14.map cdS.enc)),(13,.sl 5 (((x0.take (mnI (x0.length:Int) 8).toNat).drop (0:Int).toNat).map (cdA (csC (cdK .u8) (csC (cdK .u8) (csC (cdK .u8) (csC cdB (csE cdB))))) (fun _=>rfl)).enc)),(14,.v (.int .i64 (((x0.take (mnI (x0.length:Int) 8).toNat).drop (0:Int).toNat).length:Int))),(15,.v (.int .i64 c4)),(46,.tp []),(47,.tp []),(48,.tp []),(49,.v (.bool false))] [mk 5 60 (c2.map AA.enc),some ⟨5,107,[.ag [.v (.int .u8 v6.1),.v (.int .u8 v6.2.1),.v (.int .u8 v6.2.2.1),.v (.bool v6.2.2.2.1),.v (.bool false)]],false⟩,some ⟨5,60,[.ag [.v (.int .u8 (wr .u8 (1 + (v6.1.tmod 10)))),.st [],.v (.bool false),.e0,.v (.int .i64 0)]],false⟩,mk 1 9 (r14.map cdS.enc)] kr ?_;have hq:=OI hj27; subst hq;exact AI rfl (Ao [0,1,2,3] ⟨⟨_,rfl,Dk⟩,⟨_,rfl,C2⟩,⟨_,rfl,C2⟩,⟨_,rfl,Dk⟩,trivial⟩ ⟨Dl (b':=0) kr kr,lv,lv,lv,Dl (b':=3) kr kr,lv,lv,lv,lv,trivial⟩)
   obtain ⟨r40,hr40,h⟩:=OB h;refine C9 (Mw x0 c3 c4 j27 _ hr40) ?_;refine AG ?_;refine AL AC [(3,hd 0 (r40.1.map AA.enc)),(4,.st c3),(6,.pt 1 0 0),(7,.pt 2 0 0),(8,hd 3 (r40.2.2.2.2.2.2.2.2.2.2.map cdS.enc)),(13,.sl 5 (((x0.take (mnI (x0.length:Int) 8).toNat).drop (0:Int).toNat).map (cdA (csC (cdK .u8) (csC (cdK .u8) (csC (cdK .u8) (csC cdB (csE cdB))))) (fun _=>rfl)).enc)),(14,.v (.int .i64 (((x0.take (mnI (x0.length:Int) 8).toNat).drop (0:Int).toNat).length:Int))),(15,.v (.int .i64 c4)),(53,.v (.int .u8 r40.2.2.2.2.2.2.1))] [mk 5 60 (r40.1.map AA.enc),some ⟨5,107,[.ag [.v (.int .u8 r40.2.1),.v (.int .u8 r40.2.2.1),.v (.int .u8 r40.2.2.2.1),.v (.bool r40.2.2.2.2.1),.v (.bool r40.2.2.2.2.2.1)]],false⟩,some ⟨5,60,[.ag [.v (.int .u8 r40.2.2.2.2.2.2.1),.st r40.2.2.2.2.2.2.2.1,.v (.bool r40.2.2.2.2.2.2.2.2.1),.e0,.v (.int .i64 r40.2.2.2.2.2.2.2.2.2.1)]],false⟩,mk 1 9 (r40.2.2.2.2.2.2.2.2.2.2.map cdS.enc)] ?_;refine Bb ?_;refine AL AC [(3,hd 0 (r40.1.map AA.enc)),(4,.st c3),(6,.pt 1 0 0),(7,.pt 2 0 0),(8,hd 3 (r40.2.2.2.2.2.2.2.2.2.2.map cdS.enc)),(13,.sl 5 (((x0.take (mnI (x0.length:Int) 8).toNat).drop (0:Int).toNat).map (cdA (csC (cdK .u8) (csC (cdK .u8) (csC (cdK .u8) (csC cdB (csE cdB))))) (fun _=>rfl)).enc)),(14,.v (.int .i64 (((x0.take (mnI (x0.length:Int) 8).toNat).drop (0:Int).toNat).length:Int))),(15,.v (.int .i64 c4)),(53,.v (.int .u8 r40.2.2.2.2.2.2.1)),(54,.v (.bool (r40.2.2.2.2.2.2.1==1)))] [mk 5 60 (r40.1.map AA.enc),some ⟨5,107,[.ag [.v (.int .u8 r40.2.1),.v (.int .u8 r40.2.2.1),.v (.int .u8 r40.2.2.2.1),.v (.bool r40.2.2.2.2.1),.v (.bool r40.2.2.2.2.2.1)]],false⟩,some ⟨5,60,[.ag [.v (.int .u8 r40.2.2.2.2.2.2.1),.st r40.2.2.2.2.2.2.2.1,.v (.bool r40.2.2.2.2.2.2.2.2.1),.e0,.v (.int .i64 r40.2.2.2.2.2.2.2.2.2.1)]],false⟩,mk 1 9 (r40.2.2.2.2.2.2.2.2.2.2.map cdS.enc)] ?_;obtain ⟨r2060,hr2060,h⟩:=OB h;refine C9 (Mx x0 c3 c4 r40 _ hr2060) ?_;by_cases hk2061:(FP 64 (r2060.1.length + 1))=true
   case neg=>rw [if_neg hk2061] at h; cases h
   rw [if_pos hk2061] at h;refine AJ (s1:=⟨Fr 98 [(3,hd 0 ((r2060.1++[r2060.2.2]).map AA.enc)),(4,.st r2060.2.1),(13,.sl 5 (((x0.take (mnI (x0.length:Int) 8).toNat).drop (0:Int).toNat).map (cdA (csC (cdK .u8) (csC (cdK .u8) (csC (cdK .u8) (csC cdB (csE cdB))))) (fun _=>rfl)).enc)),(14,.v (.int .i64 (((x0.take (mnI (x0.length:Int) 8).toNat).drop (0:Int).toNat).length:Int))),(15,.v (.int .i64 c4))],[mk 5 60 ((r2060.1++[r2060.2.2]).map AA.enc)]⟩) ?_ ?_
   ·refine AE (n:=98) AC 3 [(4,.st r2060.2.1),(13,.sl 5 (((x0.take (mnI (x0.length:Int) 8).toNat).drop (0:Int).toNat).map (cdA (csC (cdK .u8) (csC (cdK .u8) (csC (cdK .u8) (csC cdB (csE cdB))))) (fun _=>rfl)).enc)),(14,.v (.int .i64 (((x0.take (mnI (x0.length:Int) 8).toNat).drop (0:Int).toNat).length:Int))),(15,.v (.int .i64 c4)),(92,hd 0 (r2060.1.map AA.enc)),(94,hd 2 ([r2060.2.2].map AA.enc))] [mk 5 60 (r2060.1.map AA.enc),some ⟨5,60,[AA.enc r2060.2.2],false⟩,mk 5 60 ([r2060.2.2].map AA.enc)] kr ?_
    refine Aa AC 0 rfl (UD (AB rfl) rfl kr kr (H0 (a:=hd 0 (r2060.1.map AA.enc)) (b:=hd 2 ([r2060.2.2].map AA.enc)) kr kr (M7 (c:=AA) (xs:=r2060.1) (vs:=[r2060.2.2]) (k:=5) (bytes:=64) (el:=60) kr kr (M8 (t:=60) kr) (List.cons_ne_nil _ _) kr hk2061))) ?_;refine AE (n:=98) AC 1 [(3,hd 3 ((r2060.1++[r2060.2.2]).map AA.enc)),(4,.st r2060.2.1),(13,.sl 5 (((x0.take (mnI (x0.length:Int) 8).toNat).drop (0:Int).toNat).map (cdA (csC (cdK .u8) (csC (cdK .u8) (csC (cdK .u8) (csC cdB (csE cdB))))) (fun _=>rfl)).enc)),(14,.v (.int .i64 (((x0.take (mnI (x0.length:Int) 8).toNat).drop (0:Int).toNat).length:Int))),(15,.v (.int .i64 c4))] [none,some ⟨5,60,[AA.enc r2060.2.2],false⟩,mk 5 60 ([r2060.2.2].map AA.enc),mk 5 60 ((r2060.1++[r2060.2.2]).map AA.enc)] kr ?_;exact AI rfl (Ao [3] ⟨⟨_,rfl,Dk⟩,trivial⟩ ⟨Dl (b':=3) kr kr,lv,lv,lv,lv,trivial⟩)
   refine Ep AC [(3,hd 0 ((r2060.1++[r2060.2.2]).map AA.enc)),(4,.st r2060.2.1),(13,.sl 5 (((x0.take (mnI (x0.length:Int) 8).toNat).drop (0:Int).toNat).map (cdA (csC (cdK .u8) (csC (cdK .u8) (csC (cdK .u8) (csC cdB (csE cdB))))) (fun _=>rfl)).enc)),(14,.v (.int .i64 (((x0.take (mnI (x0.length:Int) 8).toNat).drop (0:Int).toNat).length:Int))),(15,.v (.int .i64 (wr .i64 (c4 + 1))))] [mk 5 60 ((r2060.1++[r2060.2.2]).map AA.enc)] ?_;exact CF (s1:=⟨Fr 98 [(3,hd 0 ((r2060.1++[r2060.2.2]).map AA.enc)),(4,.st r2060.2.1),(13,.sl 5 (((x0.take (mnI (x0.length:Int) 8).toNat).drop (0:Int).toNat).map (cdA (csC (cdK .u8) (csC (cdK .u8) (csC (cdK .u8) (csC cdB (csE cdB))))) (fun _=>rfl)).enc)),(14,.v (.int .i64 (((x0.take (mnI (x0.length:Int) 8).toNat).drop (0:Int).toNat).length:Int))),(15,.v (.int .i64 (wr .i64 (c4 + 1))))],[mk 5 60 ((r2060.1++[r2060.2.2]).map AA.enc)]⟩) (Ao [0] ⟨⟨_,rfl,Dk⟩,trivial⟩ ⟨Dl (b':=0) kr kr,lv,lv,lv,lv,trivial⟩) (ih (r2060.1++[r2060.2.2]) r2060.2.1 (wr .i64 (c4 + 1)) h)
  ·rw [Ce hb5] at h
   refine Ew ?_;have hq:=OI h; subst hq;exact ⟨rfl,(Ao [0] ⟨⟨_,rfl,Dk⟩,trivial⟩ ⟨Dl (b':=0) kr kr,trivial⟩)⟩
theorem Oh (x0:(List (Int×Int×Int×Bool×Bool))) (r:(List AD)) (h:Fv x0=some r):Sem E0 ⟨none,false⟩ Cr ⟨Fr 98 (BN 0 (Hs.enc (x0,()))),[]⟩ fun e s'=>(e = .normal\/e = .ret)/\∃ xs,Eo E0.P s'.fr s'.hp Tryz.f19.results.toList=some xs/\Es xs=JW r:=by
 unfold Fv at h
 let p1:Nat×AV:=(0,.sl 5 (x0.map (cdA (csC (cdK .u8) (csC (cdK .u8) (csC (cdK .u8) (csC cdB (csE cdB))))) (fun _=>rfl)).enc))
 refine BJ (CB (s1:=⟨Fr 98 [p1],[]⟩) AQ ?_);refine AL AC [p1] [] ?_;refine AL AC [p1,(3,.e0)] [] ?_;refine AL AC [p1,(3,.e0),(4,.st [])] [] ?_;refine AG ?_;refine AG ?_;by_cases hk1:(DG 0 (mnI (x0.length:Int) 8) x0.length)=true
 case neg=>rw [if_neg hk1] at h; cases h
 rw [if_pos hk1] at h
 let p2:Nat×AV:=(15,.v (.int .i64 0))
 let p3:Nat×AV:=(14,.v (.int .i64 (((x0.take (mnI (x0.length:Int) 8).toNat).drop (0:Int).toNat).length:Int)))
 let p4:Nat×AV:=(13,.sl 5 (((x0.take (mnI (x0.length:Int) 8).toNat).drop (0:Int).toNat).map (cdA (csC (cdK .u8) (csC (cdK .u8) (csC (cdK .u8) (csC cdB (csE cdB))))) (fun _=>rfl)).enc))
 refine AJ (s1:=⟨Fr 98 [(3,.e0),(4,.st []),p4,p3,p2],[]⟩) ?_ ?_
 ·let p5:Nat×AV:=(9,.sl 5 (x0.map (cdA (csC (cdK .u8) (csC (cdK .u8) (csC (cdK .u8) (csC cdB (csE cdB))))) (fun _=>rfl)).enc))
  refine AE (n:=98) AC 2 [(3,.e0),(4,.st []),p5,(10,.sl 5 (x0.map (cdA (csC (cdK .u8) (csC (cdK .u8) (csC (cdK .u8) (csC cdB (csE cdB))))) (fun _=>rfl)).enc))] [] kr ?_;refine Aa AC 0 rfl (C5 (AB rfl) rfl (Dd (a:= .sl 5 (x0.map (cdA (csC (cdK .u8) (csC (cdK .u8) (csC (cdK .u8) (csC cdB (csE cdB))))) (fun _=>rfl)).enc)) kr (C1 (el:=107) kr))) ?_;refine AE (n:=98) AC 1 [(3,.e0),(4,.st []),p5,(12,.v (.int .i64 (mnI (x0.length:Int) 8)))] [] kr ?_;refine Aa AC 0 rfl (C5 (AB rfl) rfl (En (a:= .sl 5 (x0.map (cdA (csC (cdK .u8) (csC (cdK .u8) (csC (cdK .u8) (csC cdB (csE cdB))))) (fun _=>rfl)).enc)) (l:=none) (u:=(some (.v (.int .i64 (mnI (x0.length:Int) 8))))) (m:=none) kr kr kr rfl (Jf (xs:=x0) (e:=(cdA (csC (cdK .u8) (csC (cdK .u8) (csC (cdK .u8) (csC cdB (csE cdB))))) (fun _=>rfl)).enc) (k:=5) (el:=107) (lo:=0) (hi:=(mnI (x0.length:Int) 8)) kr kr rfl (GW (J0 hk1)) hk1))) ?_;refine Aa AC 0 rfl (C5 (AB rfl) rfl (Dd (a:= .sl 5 (((x0.take (mnI (x0.length:Int) 8).toNat).drop (0:Int).toNat).map (cdA (csC (cdK .u8) (csC (cdK .u8) (csC (cdK .u8) (csC cdB (csE cdB))))) (fun _=>rfl)).enc)) kr (C1 (el:=107) kr))) ?_;exact Ap AC
 refine Bb ?_;obtain ⟨r2064,hr2064,h⟩:=OB h;refine Ey (n:=100000) ?_
 let p6:Nat×AV:=(3,hd 0 ([].map AA.enc))
 refine Cq (CF (s1:=⟨Fr 98 [p6,(4,.st []),p4,p3,p2],[mk 5 60 ([].map AA.enc)]⟩) (Wk.trans (s1:=⟨Fr 98 [p6,(4,.st []),p4,p3,p2],[mk 5 60 ([].map AA.enc)]⟩) Wk.none (Ao [0] ⟨⟨_,rfl,Qx⟩,trivial⟩ ⟨lv,lv,lv,lv,lv,trivial⟩)) (Mz x0 _ [] [] 0 _ hr2064)) ?_;refine AL AC [(2,hd 0 (r2064.map AA.enc))] [mk 5 60 (r2064.map AA.enc)] ?_;refine AX ?_;have hq:=OI h; subst hq
 let p7:Nat×AV:=(2,.sl 5 (r2064.map AA.enc))
 exact ⟨⟨Fr 98 [p7],[]⟩,(Wk.trans (s1:=⟨Fr 98 [p7],[none]⟩) (KF 0 (.inl kr) ⟨.inl rfl,trivial⟩ ⟨⟨hd 0 (r2064.map AA.enc),kr,QK (t:=60) kr K3⟩,trivial⟩) (Ao [] trivial ⟨lv,trivial⟩)),.inr rfl,[.sl 5 (r2064.map AA.enc)],kr,kr⟩
def Qg:List AV->Option AV:=EF Hs (fun a=>Fv a.1) JW
theorem Qq:XOk 19 Qg:=by
 refine AR Tryz.func19 (c:=Cr) ?h2 ⟨Tryz.call19⟩ Hs (fun a=>Fv a.1) JW (fun a=>(by show 1<=98; decide)) ?h3 ?h4
 case h2=>kernel_rfl
 case h3=>intro b; kernel_rfl
 case h4=>exact fun a b h=>Oh a.1 b h
noncomputable def Gz:Code:=Bh Tryz.f44
def B8 (xs:List Int):Option Blk:=some ⟨1,3,xs.map cdI.enc,false⟩
set_option maxRecDepth 100000 in
theorem Io (xs:List Int) (hc:FP 8 xs.length=true):Sem E0 ⟨none,false⟩ Gz ⟨Fr 8 [(0,.sl 1 (xs.map cdI.enc))],[]⟩ fun e s'=>(e = .normal\/e = .ret)/\((xs=[]/\s'=⟨Fr 8 [(2,.e0)],[]⟩)\/s'=⟨Fr 8 [(2,.rf 0 0 xs.length xs.length)],[B8 xs]⟩):=by
 refine AG ?_
 refine AJ (s1:=⟨Fr 8 [(0,.sl 1 (xs.map cdI.enc)),(2,.e0)],[]⟩) ?_ ?_
 ·refine JM AC 1 (s1:=⟨Fr 8 [(0,.sl 1 (xs.map cdI.enc)),(2,.e0)],[]⟩) (by kernel_rfl) ?_
  exact AI rfl AQ
 refine AG ?_
 refine AG (Ra ?_)
 refine JM AC 1 (s1:=⟨Fr 8 [(0,.sl 1 (xs.map cdI.enc)),(2,.e0),(3,.sl 1 (xs.map cdI.enc))],[]⟩) (by kernel_rfl) ?_
 refine SN (k:=1) (el:=3) (es:=xs.map cdI.enc) rfl (AB rfl) (by kernel_rfl) (by kernel_rfl) fun b hb=>AI rfl ?_
 have hb:b=true->xs=[]:=fun h=>List.map_eq_nil_iff.1 (hb h)
 refine AT (b:=b) (by kernel_rfl) (fun hb1=>?_) (fun hb1=>?_)
 ·have hx:=hb hb1
  refine BJ ?_
  refine AG (AJ (s1:=⟨Fr 8 [(2,.e0)],[]⟩) ?_ (AX ?_))
  ·refine JM AC 1 (s1:=⟨Fr 8 [(0,.sl 1 (xs.map cdI.enc)),(2,.e0),(3,.sl 1 (xs.map cdI.enc)),(4,.v (.bool b))],[]⟩) (by kernel_rfl) ?_
   exact AI rfl AQ
  ·exact ⟨_,Wk.refl,.inr rfl,.inl ⟨hx,rfl⟩⟩
 ·refine Ae ?_
  refine BJ (AG (Ra ?_))
  refine JM AC 2 (s1:=⟨Fr 8 [(0,.sl 1 (xs.map cdI.enc)),(2,.e0),(3,.sl 1 (xs.map cdI.enc)),(4,.v (.bool b)),(5,.rf 0 0 0 0),(6,.sl 1 (xs.map cdI.enc))],[B8 []]⟩) (by kernel_rfl) ?_
  cases xs with
  | nil =>
   refine Aa AC 0 rfl (UD (x:= .rf 0 0 0 0) (hp':=[B8 []]) (AB rfl) rfl (by kernel_rfl) (by kernel_rfl) (by kernel_rfl)) ?_
   refine JM AC 1 (s1:=⟨Fr 8 [(0,.sl 1 []),(2,.rf 0 0 0 0),(3,.sl 1 []),(4,.v (.bool b)),(5,.rf 0 0 0 0),(6,.sl 1 []),(7,.rf 0 0 0 0)],[B8 []]⟩) (by kernel_rfl) (AI rfl (AX ?_))
   exact ⟨⟨Fr 8 [(2,.rf 0 0 0 0)],[B8 []]⟩,AQ,.inr rfl,.inr rfl⟩
  | cons y ys =>
   refine Aa AC 0 rfl (UD (AB rfl) rfl (by kernel_rfl) (by kernel_rfl) (H0 (a:= .rf 0 0 0 0) (b:= .sl 1 ((y::ys).map cdI.enc)) (by kernel_rfl) (by kernel_rfl) (UH (c:=cdI) (xs:=[]) (vs:=y::ys) (k:=1) (bytes:=8) (el:=3) (by kernel_rfl) (by kernel_rfl) UV (List.cons_ne_nil _ _) (by kernel_rfl) (by rw [List.length_nil,Nat.zero_add]; exact hc)))) ?_
   refine JM AC 1 (s1:=⟨Fr 8 [(0,.sl 1 ((y::ys).map cdI.enc)),(2,.rf 1 0 (y::ys).length (y::ys).length),(3,.sl 1 ((y::ys).map cdI.enc)),(4,.v (.bool b)),(5,.rf 0 0 0 0),(6,.sl 1 ((y::ys).map cdI.enc)),(7,.rf 1 0 (y::ys).length (y::ys).length)],[none,B8 (y::ys)]⟩) (by kernel_rfl) (AI rfl (AX ?_))
   exact ⟨⟨Fr 8 [(2,.rf 0 0 (y::ys).length (y::ys).length)],[B8 (y::ys)]⟩,Ao [1] ⟨⟨_,rfl,Mh⟩,trivial⟩ ⟨lv,trivial⟩,.inr rfl,.inr rfl⟩
def J5 (xs:List Int) (x:AV) (h':Hp):Prop:=(xs=[]/\x = .e0/\h'=[])\/(x = .rf 0 0 xs.length xs.length/\h'=[B8 xs])
theorem Kt (xs:List Int) (hc:FP 8 xs.length=true):SOk 44 [.sl 1 (xs.map cdI.enc)] (J5 xs):=by
 refine Sh AC rfl rfl (fn:=Tryz.f44) (c:=Gz) (by kernel_rfl) (by kernel_rfl) ⟨Tryz.call44⟩ (by show 1<=8; decide) (Sem.mono (Io xs hc) ?_)
 rintro e s' ⟨he,⟨hx,rfl⟩ | rfl⟩
 ·exact ⟨he,[.e0],by kernel_rfl,.inl ⟨hx,rfl,rfl⟩⟩
 ·exact ⟨he,[.rf 0 0 xs.length xs.length],by kernel_rfl,.inr ⟨rfl,rfl⟩⟩
def QB:Cs (List Int×Unit):=csC (cdL 1 cdI) csN
theorem Pc {R:List RI}{c:Nat}:¬ own R [] c:=fun ⟨b,B,_,hb,_⟩=>by simp at hb
/-- What a call hands back, seen as frozen. -/
def Sp (h:Hp):AV->Option AV
 | .tp l=>(OY (F3 h 12) l).map .tp
 | x=>F3 h 12 x
theorem VF {w:World}{Z:Nat->Prop}{R:List RI}{h:Hp}{x y:AV}{v:Value}(hh:HR w Z R h) (hv:VR w Z R x v) (e:Sp h x=some y):VR w (fun c=>Z c\/own R h c) [] y v:=by
 unfold Sp at e
 split at e
 ·obtain ⟨ys,h1,rfl⟩:=Option.map_eq_some_iff.1 e
  cases hv with
  | tp hl hx =>
   have:=allV_vr (Lp hh 12) ⟨hl,hx⟩ h1
   exact .tp this.len this.at_
 ·exact Lp hh 12 _ _ _ hv e
theorem frz_ret {E:Env}{f:FuncId}{w:World}{Z:Nat->Prop}{us:List Value}{x y:AV}{h':Hp}(hr:P3 E f us w Z [] [] x h') (hv:Sp h' x=some y) :
  Ret E.P f us.toArray w fun v w'=>w.grownBy w' none/\VR w' (fun c=>Z c\/(w.heap.size<=c/\c < w'.heap.size)) [] y v:=by
 refine Ret.mono hr fun v w' hS=>?_
 obtain ⟨Z',R',k1,k2,k3⟩:=hS
 refine ⟨⟨k3.os,k3.tape,k3.output,k3.size,fun c hc _=>k3.block c hc Pc⟩,(VF k1 k2 hv).mono (fun _ _=>rfl) (fun c hc=>?_) (fun _ _ h=>h)⟩
 rcases hc with hc | hc
 ·rcases k3.z' c hc with h1 | h1 | h1
  ·exact .inl h1
  ·exact absurd h1 Pc
  ·exact .inr ⟨h1,k1.zlt c hc⟩
 ·rcases k3.own_ c hc with h1 | h1
  ·exact absurd h1 Pc
  ·obtain ⟨b,B,r,h2,_,h3,rfl⟩:=hc
   exact .inr ⟨h1,k1.rltL h2 h3⟩
theorem hr_nil {w:World}{Z:Nat->Prop}(hz:∀ c,Z c->c < w.heap.size):HR w Z [] []:=⟨rfl,fun b B hB=>by simp at hB,fun b b' B B' r r' hB=>by simp at hB,hz⟩
/-- A closed call is told by what the interpreter finds. -/
theorem S7 {E:Env}(hE:EnvOk E){f:FuncId}{g:List AV->Option AV}(hc:Bw E.P f) (hg:∀ xs y,g xs=some y->∃ n x h',I6 E (evC E n) none f xs []=some (x,h')/\Sp h' x=some y):EnvOk (E.withX f g):=by
 refine hE.withX hc fun xs y h w Z us hz hgi hv=>?_
 obtain ⟨n,x,h',he,hvw⟩:=hg xs y h
 exact frz_ret (enter_sound hE (code_sound hE n).1 he (hr_nil hz) hv hgi (fun y hy=>by cases hy)) hvw
/-- What a closed call hands back, frozen. -/
def Bg (E:Env) (n:Nat) (f:FuncId) (args:List AV):Option AV:=match I6 E (evC E n) none f args [] with
 | some (x,h')=>Sp h' x
 | none=>none
/-- The same values? -/
def kB:IntKind->IntKind->Bool
 | .i64,.i64=>true
 | .u8,.u8=>true
 | _,_=>false
def vB:Value->Value->Bool
 | .int k a,.int k' b=>kB k k'&&a==b
 | .bool a,.bool b=>a==b
 | .pointer none,.pointer none=>true
 | _,_=>false
def bsB:List UInt8->List UInt8->Bool
 | [],[]=>true
 | a::l,b::r=>Nat.beq a.toNat b.toNat&&bsB l r
 | _,_=>false
def UG (g:AV->AV->Bool):List AV->List AV->Bool
 | [],[]=>true
 | a::l,b::r=>g a b&&UG g l r
 | _,_=>false
def UN:Nat->AV->AV->Bool
 | 0,_,_=>false
 | n + 1,x,y=>match x,y with
  | .v a,.v b=>vB a b
  | .st a,.st b=>bsB a b
  | .e0,.e0=>true
  | .sl k a,.sl k' b=>Nat.beq k k'&&UG (UN n) a b
  | .pe a o,.pe b o'=>Nat.beq o o'&&UN n a b
  | .ag a,.ag b=>UG (UN n) a b
  | .tp a,.tp b=>UG (UN n) a b
  | .fn f a b,.fn f' a' b'=>Nat.beq f f'&&(UG (UN n) a a'&&UG (UN n) b b')
  | _,_=>false
theorem ZK {a b:IntKind}(h:kB a b=true):a=b:=by
 unfold kB at h
 split at h
 ·rfl
 ·rfl
 ·cases h
theorem ZU {a b:Value}(h:vB a b=true):a=b:=by
 unfold vB at h
 split at h
 ·rw [Bool.and_eq_true] at h
  rw [ZK h.1,eq_of_beq h.2]
 ·rw [eq_of_beq h]
 ·rfl
 ·cases h
theorem VM:∀ {a b:List UInt8},bsB a b=true->a=b
 | [],[],_=>rfl
 | x::l,y::r,h=>by
  unfold bsB at h
  rw [Bool.and_eq_true] at h
  rw [UInt8.toNat_inj.1 (Nat.eq_of_beq_eq_true h.1),VM h.2]
 | [],_::_,h=>by cases h
 | _::_,[],h=>by cases h
theorem KG {g:AV->AV->Bool}(hg:∀ x y,g x y=true->x=y):∀ {a b:List AV},UG g a b=true->a=b
 | [],[],_=>rfl
 | x::l,y::r,h=>by
  unfold UG at h
  rw [Bool.and_eq_true] at h
  rw [hg _ _ h.1,KG hg h.2]
 | [],_::_,h=>by cases h
 | _::_,[],h=>by cases h
theorem Qw:∀ (n:Nat) (x y:AV),UN n x y=true->x=y
 | 0,_,_,h=>by cases h
 | n + 1,x,y,h=>by
  have ih:=Qw n
  unfold UN at h
  split at h
  ·rw [ZU h]
  ·rw [VM h]
  ·rfl
  ·rw [Bool.and_eq_true] at h
   rw [Nat.eq_of_beq_eq_true h.1,KG ih h.2]
  ·rw [Bool.and_eq_true] at h
   rw [Nat.eq_of_beq_eq_true h.1,ih _ _ h.2]
  ·rw [KG ih h]
  ·rw [KG ih h]
  ·rw [Bool.and_eq_true,Bool.and_eq_true] at h
   rw [Nat.eq_of_beq_eq_true h.1,KG ih h.2.1,KG ih h.2.2]
  ·cases h
/-- A table. -/
def PD:List (List AV×AV)->List AV->Option AV
 | [],_=>none
 | (a,r)::l,xs=>if UG (UN 40) a xs=true then some r else PD l xs
def Vg (E:Env) (f:FuncId):List (List AV×AV)->Prop
 | []=>True
 | (a,r)::l=>(∃ n,Bg E n f a=some r)/\Vg E f l
theorem Vb {E:Env}{f:FuncId}:∀ {l:List (List AV×AV)}{xs:List AV}{y:AV},Vg E f l->PD l xs=some y->∃ n,Bg E n f xs=some y
 | (a,r)::l,xs,y,h,e=>by
  unfold PD at e
  split at e
  ·next hb =>
   injection e with e
   subst e
   rw [<-KG (Qw 40) hb]
   exact h.1
  ·exact Vb h.2 e
theorem K9 {E:Env}(hE:EnvOk E){f:FuncId}{l:List (List AV×AV)}(hc:Bw E.P f) (h:Vg E f l):EnvOk (E.withX f (PD l)):=by
 refine S7 hE hc fun xs y e=>?_
 obtain ⟨n,hn⟩:=Vb h e
 unfold Bg at hn
 split at hn
 ·next x h' he=>exact ⟨n,x,h',he,hn⟩
 ·cases hn
/-- Another contract, told by a table of its own values. -/
theorem Wr {E:Env}{f:FuncId}{g:List AV->Option AV}{l:List (List AV×AV)}(hE:EnvOk (E.withX f g)) (h:∀ p ∈ l,g p.1=some p.2):EnvOk (E.withX f (PD l)):=by
 have hl:∀ {l:List (List AV×AV)} {xs:List AV} {y:AV},(∀ p ∈ l,g p.1=some p.2)->PD l xs=some y->g xs=some y:=by
  intro l
  induction l with
  | nil=>intro xs y _ e; cases e
  | cons p l ih =>
   intro xs y h e
   obtain ⟨a,r⟩:=p
   unfold PD at e
   split at e
   ·next hb =>
    injection e with e
    subst e
    rw [<-KG (Qw 40) hb]
    exact h (a,r) (by simp)
   ·exact ih (fun p hp=>h p (List.mem_cons_of_mem _ hp)) e
 refine ⟨hE.fn,hE.mixed,hE.I,fun k q hk=>?_⟩
 change (if k=f then some (PD l) else E.X k)=some q at hk
 split at hk
 ·next hkf =>
  injection hk with hk
  subst hk hkf
  obtain ⟨h1,h2⟩:=hE.X k g (if_pos rfl)
  exact ⟨h1,fun xs x hx w Z us hz hg hv=>h2 xs x (hl h hx) w Z us hz hg hv⟩
 ·next hkf=>exact hE.X k q ((if_neg hkf).trans hk)
/-- What is told in one environment may be told in another of the same program. -/
theorem VG {E E':Env}{f:FuncId}{g:List AV->Option AV}(hE:EnvOk E) (h:EnvOk (E'.withX f g)) (hP:E'.P=E.P) (hG:E'.G=E.G):EnvOk (E.withX f g):=by
 obtain ⟨h1,h2⟩:=h.X f g (if_pos rfl)
 have e1:(E'.withX f g).P=E.P:=hP
 refine hE.withX (e1 ▸ h1) fun xs x hx w Z us hz hg hv=>?_
 have:=h2 xs x hx w Z us hz (fun q y hy=>hg q y (by rw [<-hG]; exact hy)) hv
 exact e1 ▸ this
/-- Lists that are told by one value. -/
noncomputable def csJ {α:Type}(e:α->List AV) (hi:∀ x y,e x=e y->x=y) (hn:∀ x,(e x).all DX=true):Cs α where
 enc:=e
 dec a:=open Classical in if h:∃ x,e x=a then some h.choose else none
 de x:=by
  have h:∃ y,e y=e x:=⟨x,rfl⟩
  rw [dif_pos h,hi _ _ h.choose_spec]
 vr:=fun {w Z a x u} hd hv=>by
  split at hd
  ·next h=>injection hd with hd; subst hd; rw [h.choose_spec]; exact hv
  ·cases hd
 nr:=hn
theorem PI {α:Type}{n:Nat}{h:Hp}{s:Cs α}{a:α}:Sl (n + 2) h s (s.enc a) a :=
 ⟨s.enc a,KH fun y hy=>KZ (List.all_eq_true.1 (s.nr a) y hy) n,s.de a⟩
theorem VN {α:Type}{c:Cd α}{x y:α}(h:c.enc x=c.enc y):x=y:=by
 have h1:=c.de x
 rw [h,c.de y] at h1
 exact (OI h1).symm
/-- The order of a clause without regard to Among. -/
def Le (c:AD):AV :=
 if (c.1==1)=true then .fn 205 [] [.pe (.fn 178 [] [.pe (AA.enc c) 0]) 0] else
 if (c.1==2)=true then .fn 179 [] [.pe (AA.enc c) 0] else
 if (c.1==3)=true then .fn 179 [] [.pe (AA.enc c) 0] else
 if (c.1==4)=true then .fn 205 [] [.pe (.fn 206 [] [.pe (.fn 182 [] [.pe (AA.enc c) 0]) 0,.pe (AA.enc c) 0]) 0] else
 if (c.1==5)=true then .fn 205 [] [.pe (.fn 206 [] [.pe (.fn 183 [] []) 0,.pe (AA.enc c) 0]) 0] else
 if (c.1==6)=true then .fn 205 [] [.pe (.fn 206 [] [.pe (.fn 184 [] [.pe (AA.enc c) 0]) 0,.pe (AA.enc c) 0]) 0] else
 if (c.1==7)=true then .fn 205 [] [.pe (.fn 206 [] [.pe (.fn 186 [] [.pe (AA.enc c) 0]) 0,.pe (AA.enc c) 0]) 0] else
 if (c.1==8)=true then .fn 187 [] [] else
 if (c.1==10)=true then .fn 209 [] [.pe (.fn 208 [] []) 0,.pe (.fn 190 [] [.pe (AA.enc c) 0]) 0] else
 .fn 209 [] [.pe (.fn 208 [] []) 0,.pe (.fn 191 [] []) 0]
def Ia (c:AD):AV:= .fn 165 [] [.pe (AA.enc c) 0,.pe (Le c) 0]
noncomputable def Cn:Cd AD:=cdJ Ia (fun x y h=>by
 unfold Ia at h
 injection h with _ _ h
 injection h with h
 injection h with h
 exact VN h) (fun _=>rfl)
noncomputable def QA:Cs AD:=csJ (fun c=>[.pe (AA.enc c) 0,.pe (Le c) 0]) (fun x y h=>by
 injection h with h
 injection h with h
 exact VN h) (fun _=>rfl)
/-- A straight call, told by what the interpreter finds. -/
theorem Sq {f:FuncId}(hc:Bw E0.P f){α β:Type}(s:Cs α) (F:α->Option β) (er:β->AV) (h:∀ a b,F a=some b->∃ n,Bg E0 n f (s.enc a)=some (er b)):XOk f (EF s F er):=by
 refine ⟨hc,fun xs y hy w Z us hz hg hv=>?_⟩
 obtain ⟨a,ha,hy⟩:=OB hy
 obtain ⟨b,hb,rfl⟩:=Option.map_eq_some_iff.1 hy
 obtain ⟨n,hn⟩:=h a b hb
 unfold Bg at hn
 split at hn
 ·next x h' he=>exact frz_ret (enter_sound AC (code_sound AC n).1 he (hr_nil hz) (s.vr ha hv) hg (fun y hy=>by cases hy)) hn
 ·cases hn
def Ek (x0:AD):Option AD:=if 1<=x0.1/\x0.1<=10 then some x0 else none
def By:Cs (AD×Unit):=csC AA csN
noncomputable def Hc (r:AD):AV:=Cn.enc r
noncomputable def N5:List AV->Option AV:=EF By (fun a=>Ek a.1) Hc
section
variable (am:List UInt8) (la:Bool) (nm:List (List UInt8)) (m:Int)
theorem WY:Bg E0 300 133 (By.enc ((1,am,la,nm,m),()))=some (Ia (1,am,la,nm,m)):=by kernel_rfl
theorem WZ:Bg E0 300 133 (By.enc ((2,am,la,nm,m),()))=some (Ia (2,am,la,nm,m)):=by kernel_rfl
theorem Wa:Bg E0 300 133 (By.enc ((3,am,la,nm,m),()))=some (Ia (3,am,la,nm,m)):=by kernel_rfl
theorem Wb:Bg E0 300 133 (By.enc ((4,am,la,nm,m),()))=some (Ia (4,am,la,nm,m)):=by kernel_rfl
theorem Wc:Bg E0 300 133 (By.enc ((5,am,la,nm,m),()))=some (Ia (5,am,la,nm,m)):=by kernel_rfl
theorem Wd:Bg E0 300 133 (By.enc ((6,am,la,nm,m),()))=some (Ia (6,am,la,nm,m)):=by kernel_rfl
theorem We:Bg E0 300 133 (By.enc ((7,am,la,nm,m),()))=some (Ia (7,am,la,nm,m)):=by kernel_rfl
theorem Wf:Bg E0 300 133 (By.enc ((8,am,la,nm,m),()))=some (Ia (8,am,la,nm,m)):=by kernel_rfl
theorem Wg:Bg E0 300 133 (By.enc ((9,am,la,nm,m),()))=some (Ia (9,am,la,nm,m)):=by kernel_rfl
theorem Up:Bg E0 300 133 (By.enc ((10,am,la,nm,m),()))=some (Ia (10,am,la,nm,m)):=by kernel_rfl
end
theorem OP:XOk 133 N5:=by
 refine Sq ⟨Tryz.call133⟩ By (fun a=>Ek a.1) Hc fun a b h=>⟨300,?_⟩
 obtain ⟨⟨k,am,la,nm,m⟩,⟨⟩⟩:=a
 by_cases hk:1<=k/\k<=10
 ·have h1:some (k,am,la,nm,m)=some b:=(if_pos hk:Ek (k,am,la,nm,m)=_).symm.trans h
  have h2:Hc b=Ia (k,am,la,nm,m):=congrArg Ia (OI h1).symm
  rw [h2]
  clear h h1 h2
  have hk':k=1\/k=2\/k=3\/k=4\/k=5\/k=6\/k=7\/k=8\/k=9\/k=10:=by omega
  rcases hk' with rfl | rfl | rfl | rfl | rfl | rfl | rfl | rfl | rfl | rfl
  ·exact WY am la nm m
  ·exact WZ am la nm m
  ·exact Wa am la nm m
  ·exact Wb am la nm m
  ·exact Wc am la nm m
  ·exact Wd am la nm m
  ·exact We am la nm m
  ·exact Wf am la nm m
  ·exact Wg am la nm m
  ·exact Up am la nm m
 ·exact nomatch ((if_neg hk:Ek (k,am,la,nm,m)=_).symm.trans h)
/- trestle/court.formed -/
noncomputable def CO:Code:=Bh Tryz.f159
def F8 (x0:AD):Option ((Bool)) :=
 if (x0.1==8)=true then
 some (x0.1==8)
 else
 some (x0.1==9)
def F7 (x0:AD):Option ((Bool)) :=
 if (x0.1==3)=true then
 some (x0.1==3)
 else
 (F8 x0).bind fun r14 =>
 some r14
def F6 (x0:AD):Option ((Bool)) :=
 if (x0.1==2)=true then
 some (x0.1==2)
 else
 (F7 x0).bind fun r15 =>
 some r15
def GC (x0:AD):Option ((Bool)) :=
 if (x0.1==6)=true then
 some (x0.1==6)
 else
 some (x0.1==7)
def GD (x0:AD) (r33:Bool):Option ((Int×Int×Bool) ⊕ (Bool)) :=
 if r33=true then
 some (.inl (16,0,true))
 else
 if (x0.1==10)=true then
 some (.inl (0,63,false))
 else
 some (.inr false)
def GB (x0:AD):Option ((Int×Int×Bool) ⊕ (Bool)) :=
 if (x0.1==5)=true then
 some (.inl (0,0,true))
 else
 (GC x0).bind fun r33 =>
 (GD x0 r33).bind fun r40 =>
 match r40 with
 | (.inl w41) =>
  some (.inl (w41.1,w41.2.1,w41.2.2))
 | (.inr w42) =>
  some (.inr w42)
def GA (x0:AD):Option ((Int×Int×Int×Bool) ⊕ (Bool)) :=
 if (x0.1==4)=true then
 some (.inl (0,1,2,true))
 else
 (GB x0).bind fun r44 =>
 match r44 with
 | (.inl w45) =>
  some (.inl (w45.1,0,w45.2.1,w45.2.2))
 | (.inr w46) =>
  some (.inr w46)
def F9 (x0:AD) (r16:Bool):Option ((Int×Int×Int×Bool) ⊕ (Bool)) :=
 if r16=true then
 some (.inl (0,0,0,false))
 else
 (GA x0).bind fun r48 =>
 match r48 with
 | (.inl w49) =>
  some (.inl (w49.1,w49.2.1,w49.2.2.1,w49.2.2.2))
 | (.inr w50) =>
  some (.inr w50)
def F5 (x0:AD):Option ((Int×Int×Int×Bool) ⊕ (Bool)) :=
 if (x0.1==1)=true then
 if (!(x0.2.1==[]))=true then
 some (.inr false)
 else
 some (.inl (16,0,0,false))
 else
 (F6 x0).bind fun r16 =>
 (F9 x0 r16).bind fun r52 =>
 match r52 with
 | (.inl w53) =>
  some (.inl (w53.1,w53.2.1,w53.2.2.1,w53.2.2.2))
 | (.inr w54) =>
  some (.inr w54)
def Bi (x0:AD):Option (Bool) :=
 (F5 x0).bind fun r55 =>
 match r55 with
 | (.inl w56) =>
  (if (decide ((x0.2.2.2.1.length:Int)<=w56.1))=true then if (w56.1==0)=true then if (decide (x0.2.2.2.2≥w56.2.1))=true then if (decide (x0.2.2.2.2<=w56.2.2.1))=true then if w56.2.2.2=true then some true else some (!x0.2.2.1) else some false else some false else if (decide ((x0.2.2.2.1.length:Int) > 0))=true then if (decide (x0.2.2.2.2≥w56.2.1))=true then if (decide (x0.2.2.2.2<=w56.2.2.1))=true then if w56.2.2.2=true then some true else some (!x0.2.2.1) else some false else some false else some false else some false).bind fun j58 =>
  some j58
 | (.inr w68) =>
  some w68
def IC:Cs (AD×Unit):=(csC AA csN)
def IF (r:Bool):AV:=cdB.enc r
theorem LY (x0:AD) (r:(Bool)) (h:F8 x0=some r):Sem E0 ⟨none,false⟩ (pc CO [1,1,0,1,0,1,1,0,1,1,1,1,1]) ⟨Fr 63 [(1,.pt 0 0 0),(3,.v (.int .i64 0)),(4,.v (.int .i64 0)),(5,.v (.int .i64 0)),(6,.v (.bool false)),(8,.v (.int .u8 x0.1)),(14,.v (.bool (x0.1==8)))],[some ⟨5,60,[AA.enc x0],false⟩]⟩ (fun e s=>e = .normal/\Wk E0 s ⟨Fr 63 [(1,.pt 0 0 0),(3,.v (.int .i64 0)),(4,.v (.int .i64 0)),(5,.v (.int .i64 0)),(6,.v (.bool false)),(8,.v (.int .u8 x0.1)),(14,.v (.bool r))],[some ⟨5,60,[AA.enc x0],false⟩]⟩):=by
 unfold F8 at h;refine AT (b:=(x0.1==8)) kr (fun hb12=>?_) (fun hb12=>?_)
 ·rw [if_pos hb12] at h
  refine Ae ?_;have hq:=OI h; subst hq;exact ⟨rfl,(Ao [0] ⟨⟨_,rfl,C2⟩,trivial⟩ ⟨lv,lv,lv,lv,lv,lv,lv,trivial⟩)⟩
 ·rw [Ce hb12] at h
  refine Ep AC [(1,.pt 0 0 0),(3,.v (.int .i64 0)),(4,.v (.int .i64 0)),(5,.v (.int .i64 0)),(6,.v (.bool false)),(8,.v (.int .u8 x0.1)),(14,.v (.bool (x0.1==9)))] [some ⟨5,60,[AA.enc x0],false⟩] ?_;have hq:=OI h; subst hq;exact ⟨rfl,(Ao [0] ⟨⟨_,rfl,C2⟩,trivial⟩ ⟨lv,lv,lv,lv,lv,lv,lv,trivial⟩)⟩
theorem LX (x0:AD) (r:(Bool)) (h:F7 x0=some r):Sem E0 ⟨none,false⟩ (pc CO [1,1,0,1,0,1,1,0,1,1,1]) ⟨Fr 63 [(1,.pt 0 0 0),(3,.v (.int .i64 0)),(4,.v (.int .i64 0)),(5,.v (.int .i64 0)),(6,.v (.bool false)),(8,.v (.int .u8 x0.1)),(14,.v (.bool (x0.1==3)))],[some ⟨5,60,[AA.enc x0],false⟩]⟩ (fun e s=>e = .normal/\Wk E0 s ⟨Fr 63 [(1,.pt 0 0 0),(3,.v (.int .i64 0)),(4,.v (.int .i64 0)),(5,.v (.int .i64 0)),(6,.v (.bool false)),(8,.v (.int .u8 x0.1)),(14,.v (.bool r))],[some ⟨5,60,[AA.enc x0],false⟩]⟩):=by
 unfold F7 at h;refine AT (b:=(x0.1==3)) kr (fun hb10=>?_) (fun hb10=>?_)
 ·rw [if_pos hb10] at h
  refine Ae ?_;have hq:=OI h; subst hq;exact ⟨rfl,(Ao [0] ⟨⟨_,rfl,C2⟩,trivial⟩ ⟨lv,lv,lv,lv,lv,lv,lv,trivial⟩)⟩
 ·rw [Ce hb10] at h
  refine AL AC [(1,.pt 0 0 0),(3,.v (.int .i64 0)),(4,.v (.int .i64 0)),(5,.v (.int .i64 0)),(6,.v (.bool false)),(8,.v (.int .u8 x0.1)),(14,.v (.bool (x0.1==8)))] [some ⟨5,60,[AA.enc x0],false⟩] ?_;obtain ⟨r14,hr14,h⟩:=OB h;refine C9 (LY x0 _ hr14) ?_;have hq:=OI h; subst hq;exact ⟨rfl,(Ao [0] ⟨⟨_,rfl,C2⟩,trivial⟩ ⟨lv,lv,lv,lv,lv,lv,lv,trivial⟩)⟩
theorem LW (x0:AD) (r:(Bool)) (h:F6 x0=some r):Sem E0 ⟨none,false⟩ (pc CO [1,1,0,1,0,1,1,0,1]) ⟨Fr 63 [(1,.pt 0 0 0),(3,.v (.int .i64 0)),(4,.v (.int .i64 0)),(5,.v (.int .i64 0)),(6,.v (.bool false)),(8,.v (.int .u8 x0.1)),(14,.v (.bool (x0.1==2)))],[some ⟨5,60,[AA.enc x0],false⟩]⟩ (fun e s=>e = .normal/\Wk E0 s ⟨Fr 63 [(1,.pt 0 0 0),(3,.v (.int .i64 0)),(4,.v (.int .i64 0)),(5,.v (.int .i64 0)),(6,.v (.bool false)),(8,.v (.int .u8 x0.1)),(14,.v (.bool r))],[some ⟨5,60,[AA.enc x0],false⟩]⟩):=by
 unfold F6 at h;refine AT (b:=(x0.1==2)) kr (fun hb8=>?_) (fun hb8=>?_)
 ·rw [if_pos hb8] at h
  refine Ae ?_;have hq:=OI h; subst hq;exact ⟨rfl,(Ao [0] ⟨⟨_,rfl,C2⟩,trivial⟩ ⟨lv,lv,lv,lv,lv,lv,lv,trivial⟩)⟩
 ·rw [Ce hb8] at h
  refine AL AC [(1,.pt 0 0 0),(3,.v (.int .i64 0)),(4,.v (.int .i64 0)),(5,.v (.int .i64 0)),(6,.v (.bool false)),(8,.v (.int .u8 x0.1)),(14,.v (.bool (x0.1==3)))] [some ⟨5,60,[AA.enc x0],false⟩] ?_;obtain ⟨r15,hr15,h⟩:=OB h;refine C9 (LX x0 _ hr15) ?_;have hq:=OI h; subst hq;exact ⟨rfl,(Ao [0] ⟨⟨_,rfl,C2⟩,trivial⟩ ⟨lv,lv,lv,lv,lv,lv,lv,trivial⟩)⟩
theorem LZ (x0:AD) (r:(Bool)) (h:GC x0=some r):Sem E0 ⟨none,false⟩ (pc CO [1,1,0,1,0,1,1,1,1,1,1,1,1,0,1]) ⟨Fr 63 [(1,.pt 0 0 0),(3,.v (.int .i64 0)),(4,.v (.int .i64 0)),(5,.v (.int .i64 0)),(6,.v (.bool false)),(8,.v (.int .u8 x0.1)),(23,.v (.bool (x0.1==6)))],[some ⟨5,60,[AA.enc x0],false⟩]⟩ (fun e s=>e = .normal/\Wk E0 s ⟨Fr 63 [(1,.pt 0 0 0),(3,.v (.int .i64 0)),(4,.v (.int .i64 0)),(5,.v (.int .i64 0)),(6,.v (.bool false)),(8,.v (.int .u8 x0.1)),(23,.v (.bool r))],[some ⟨5,60,[AA.enc x0],false⟩]⟩):=by
 unfold GC at h;refine AT (b:=(x0.1==6)) kr (fun hb31=>?_) (fun hb31=>?_)
 ·rw [if_pos hb31] at h
  refine Ae ?_;have hq:=OI h; subst hq;exact ⟨rfl,(Ao [0] ⟨⟨_,rfl,C2⟩,trivial⟩ ⟨lv,lv,lv,lv,lv,lv,lv,trivial⟩)⟩
 ·rw [Ce hb31] at h
  refine Ep AC [(1,.pt 0 0 0),(3,.v (.int .i64 0)),(4,.v (.int .i64 0)),(5,.v (.int .i64 0)),(6,.v (.bool false)),(8,.v (.int .u8 x0.1)),(23,.v (.bool (x0.1==7)))] [some ⟨5,60,[AA.enc x0],false⟩] ?_;have hq:=OI h; subst hq;exact ⟨rfl,(Ao [0] ⟨⟨_,rfl,C2⟩,trivial⟩ ⟨lv,lv,lv,lv,lv,lv,lv,trivial⟩)⟩
theorem IZ (x0:AD) (r33:Bool) (r:(Int×Int×Bool) ⊕ (Bool)) (h:GD x0 r33=some r):Sem E0 ⟨none,false⟩ (pc CO [1,1,0,1,0,1,1,1,1,1,1,1,1,1]) ⟨Fr 63 [(1,.pt 0 0 0),(3,.v (.int .i64 0)),(4,.v (.int .i64 0)),(5,.v (.int .i64 0)),(6,.v (.bool false)),(8,.v (.int .u8 x0.1)),(23,.v (.bool r33))],[some ⟨5,60,[AA.enc x0],false⟩]⟩ (fun e s=>match r with
 | (.inl w)=>e = .normal/\Wk E0 s ⟨Fr 63 [(1,.pt 0 0 0),(3,.v (.int .i64 w.1)),(4,.v (.int .i64 0)),(5,.v (.int .i64 w.2.1)),(6,.v (.bool w.2.2))],[some ⟨5,60,[AA.enc x0],false⟩]⟩
 | (.inr w)=>e = .ret/\Wk E0 s ⟨Fr 63 [(2,.v (.bool w))],[]⟩):=by
 unfold GD at h;refine AT (b:=r33) kr (fun hb34=>?_) (fun hb34=>?_)
 ·rw [if_pos hb34] at h
  refine Ep AC [(1,.pt 0 0 0),(3,.v (.int .i64 16)),(4,.v (.int .i64 0)),(5,.v (.int .i64 0)),(6,.v (.bool true))] [some ⟨5,60,[AA.enc x0],false⟩] ?_;have hq:=OI h; subst hq;exact ⟨rfl,(Ao [0] ⟨⟨_,rfl,C2⟩,trivial⟩ ⟨lv,lv,lv,lv,lv,trivial⟩)⟩
 ·rw [Ce hb34] at h
  let p1:Option Blk:=some ⟨5,60,[AA.enc x0],false⟩
  refine AL AC [(1,.pt 0 0 0),(3,.v (.int .i64 0)),(4,.v (.int .i64 0)),(6,.v (.bool false)),(26,.v (.bool (x0.1==10)))] [p1] ?_;refine AT (b:=(x0.1==10)) kr (fun hb38=>?_) (fun hb38=>?_)
  ·rw [if_pos hb38] at h
   refine Ep AC [(1,.pt 0 0 0),(3,.v (.int .i64 0)),(4,.v (.int .i64 0)),(5,.v (.int .i64 63)),(6,.v (.bool false))] [p1] ?_;have hq:=OI h; subst hq;exact ⟨rfl,(Ao [0] ⟨⟨_,rfl,C2⟩,trivial⟩ ⟨lv,lv,lv,lv,lv,trivial⟩)⟩
  ·rw [Ce hb38] at h
   refine AG ?_;refine AJ (s1:=⟨Fr 63 [(2,.v (.bool false))],[]⟩) ?_ ?_
   ·refine AE (n:=63) AC 1 [(2,.v (.bool false))] [p1] kr ?_
    exact AI rfl (Ao [] trivial ⟨lv,trivial⟩)
   refine AX ?_;have hq:=OI h; subst hq;exact ⟨rfl,AQ⟩
theorem IY (x0:AD) (r:(Int×Int×Bool) ⊕ (Bool)) (h:GB x0=some r):Sem E0 ⟨none,false⟩ (pc CO [1,1,0,1,0,1,1,1,1,1,1,1]) ⟨Fr 63 [(1,.pt 0 0 0),(3,.v (.int .i64 0)),(4,.v (.int .i64 0)),(5,.v (.int .i64 0)),(6,.v (.bool false)),(8,.v (.int .u8 x0.1)),(21,.v (.bool (x0.1==5)))],[some ⟨5,60,[AA.enc x0],false⟩]⟩ (fun e s=>match r with
 | (.inl w)=>e = .normal/\Wk E0 s ⟨Fr 63 [(1,.pt 0 0 0),(3,.v (.int .i64 w.1)),(4,.v (.int .i64 0)),(5,.v (.int .i64 w.2.1)),(6,.v (.bool w.2.2))],[some ⟨5,60,[AA.enc x0],false⟩]⟩
 | (.inr w)=>e = .ret/\Wk E0 s ⟨Fr 63 [(2,.v (.bool w))],[]⟩):=by
 unfold GB at h;refine AT (b:=(x0.1==5)) kr (fun hb27=>?_) (fun hb27=>?_)
 ·rw [if_pos hb27] at h
  refine Ep AC [(1,.pt 0 0 0),(3,.v (.int .i64 0)),(4,.v (.int .i64 0)),(5,.v (.int .i64 0)),(6,.v (.bool true))] [some ⟨5,60,[AA.enc x0],false⟩] ?_;have hq:=OI h; subst hq;exact ⟨rfl,(Ao [0] ⟨⟨_,rfl,C2⟩,trivial⟩ ⟨lv,lv,lv,lv,lv,trivial⟩)⟩
 ·rw [Ce hb27] at h
  refine AG ?_;refine AL AC [(1,.pt 0 0 0),(3,.v (.int .i64 0)),(4,.v (.int .i64 0)),(5,.v (.int .i64 0)),(6,.v (.bool false)),(8,.v (.int .u8 x0.1)),(23,.v (.bool (x0.1==6)))] [some ⟨5,60,[AA.enc x0],false⟩] ?_;obtain ⟨r33,hr33,h⟩:=OB h;refine C9 (LZ x0 _ hr33) ?_;obtain ⟨r40,hr40,h⟩:=OB h;rcases r40 with w41 | w42
  ·try dsimp only at h
   refine C9 (IZ x0 r33 _ hr40) ?_;have hq:=OI h; subst hq;exact ⟨rfl,(Ao [0] ⟨⟨_,rfl,C2⟩,trivial⟩ ⟨lv,lv,lv,lv,lv,trivial⟩)⟩
  ·try dsimp only at h
   refine C9 (IZ x0 r33 _ hr40) ?_;have hq:=OI h; subst hq;exact ⟨rfl,AQ⟩
theorem IX (x0:AD) (r:(Int×Int×Int×Bool) ⊕ (Bool)) (h:GA x0=some r):Sem E0 ⟨none,false⟩ (pc CO [1,1,0,1,0,1,1,1,1,1]) ⟨Fr 63 [(1,.pt 0 0 0),(3,.v (.int .i64 0)),(4,.v (.int .i64 0)),(5,.v (.int .i64 0)),(6,.v (.bool false)),(8,.v (.int .u8 x0.1)),(19,.v (.bool (x0.1==4)))],[some ⟨5,60,[AA.enc x0],false⟩]⟩ (fun e s=>match r with
 | (.inl w)=>e = .normal/\Wk E0 s ⟨Fr 63 [(1,.pt 0 0 0),(3,.v (.int .i64 w.1)),(4,.v (.int .i64 w.2.1)),(5,.v (.int .i64 w.2.2.1)),(6,.v (.bool w.2.2.2))],[some ⟨5,60,[AA.enc x0],false⟩]⟩
 | (.inr w)=>e = .ret/\Wk E0 s ⟨Fr 63 [(2,.v (.bool w))],[]⟩):=by
 unfold GA at h;refine AT (b:=(x0.1==4)) kr (fun hb22=>?_) (fun hb22=>?_)
 ·rw [if_pos hb22] at h
  refine Ep AC [(1,.pt 0 0 0),(3,.v (.int .i64 0)),(4,.v (.int .i64 1)),(5,.v (.int .i64 2)),(6,.v (.bool true))] [some ⟨5,60,[AA.enc x0],false⟩] ?_;have hq:=OI h; subst hq;exact ⟨rfl,(Ao [0] ⟨⟨_,rfl,C2⟩,trivial⟩ ⟨lv,lv,lv,lv,lv,trivial⟩)⟩
 ·rw [Ce hb22] at h
  refine AL AC [(1,.pt 0 0 0),(3,.v (.int .i64 0)),(4,.v (.int .i64 0)),(5,.v (.int .i64 0)),(6,.v (.bool false)),(8,.v (.int .u8 x0.1)),(21,.v (.bool (x0.1==5)))] [some ⟨5,60,[AA.enc x0],false⟩] ?_;obtain ⟨r44,hr44,h⟩:=OB h;rcases r44 with w45 | w46
  ·try dsimp only at h
   refine C9 (IY x0 _ hr44) ?_;have hq:=OI h; subst hq;exact ⟨rfl,(Ao [0] ⟨⟨_,rfl,C2⟩,trivial⟩ ⟨lv,lv,lv,lv,lv,trivial⟩)⟩
  ·try dsimp only at h
   refine C9 (IY x0 _ hr44) ?_;have hq:=OI h; subst hq;exact ⟨rfl,AQ⟩
theorem IW (x0:AD) (r16:Bool) (r:(Int×Int×Int×Bool) ⊕ (Bool)) (h:F9 x0 r16=some r):Sem E0 ⟨none,false⟩ (pc CO [1,1,0,1,0,1,1,1]) ⟨Fr 63 [(1,.pt 0 0 0),(3,.v (.int .i64 0)),(4,.v (.int .i64 0)),(5,.v (.int .i64 0)),(6,.v (.bool false)),(8,.v (.int .u8 x0.1)),(14,.v (.bool r16))],[some ⟨5,60,[AA.enc x0],false⟩]⟩ (fun e s=>match r with
 | (.inl w)=>e = .normal/\Wk E0 s ⟨Fr 63 [(1,.pt 0 0 0),(3,.v (.int .i64 w.1)),(4,.v (.int .i64 w.2.1)),(5,.v (.int .i64 w.2.2.1)),(6,.v (.bool w.2.2.2))],[some ⟨5,60,[AA.enc x0],false⟩]⟩
 | (.inr w)=>e = .ret/\Wk E0 s ⟨Fr 63 [(2,.v (.bool w))],[]⟩):=by
 unfold F9 at h;refine AT (b:=r16) kr (fun hb17=>?_) (fun hb17=>?_)
 ·rw [if_pos hb17] at h
  refine Ae ?_;have hq:=OI h; subst hq;exact ⟨rfl,(Ao [0] ⟨⟨_,rfl,C2⟩,trivial⟩ ⟨lv,lv,lv,lv,lv,trivial⟩)⟩
 ·rw [Ce hb17] at h
  refine AL AC [(1,.pt 0 0 0),(3,.v (.int .i64 0)),(4,.v (.int .i64 0)),(5,.v (.int .i64 0)),(6,.v (.bool false)),(8,.v (.int .u8 x0.1)),(19,.v (.bool (x0.1==4)))] [some ⟨5,60,[AA.enc x0],false⟩] ?_;obtain ⟨r48,hr48,h⟩:=OB h;rcases r48 with w49 | w50
  ·try dsimp only at h
   refine C9 (IX x0 _ hr48) ?_;have hq:=OI h; subst hq;exact ⟨rfl,(Ao [0] ⟨⟨_,rfl,C2⟩,trivial⟩ ⟨lv,lv,lv,lv,lv,trivial⟩)⟩
  ·try dsimp only at h
   refine C9 (IX x0 _ hr48) ?_;have hq:=OI h; subst hq;exact ⟨rfl,AQ⟩
theorem IV (x0:AD) (r:(Int×Int×Int×Bool) ⊕ (Bool)) (h:F5 x0=some r):Sem E0 ⟨none,false⟩ (pc CO [1,1,0,1,0,1]) ⟨Fr 63 [(1,.pt 0 0 0),(3,.v (.int .i64 0)),(4,.v (.int .i64 0)),(5,.v (.int .i64 0)),(6,.v (.bool false)),(8,.v (.int .u8 x0.1)),(9,.v (.bool (x0.1==1)))],[some ⟨5,60,[AA.enc x0],false⟩]⟩ (fun e s=>match r with
 | (.inl w)=>e = .normal/\Wk E0 s ⟨Fr 63 [(1,.pt 0 0 0),(3,.v (.int .i64 w.1)),(4,.v (.int .i64 w.2.1)),(5,.v (.int .i64 w.2.2.1)),(6,.v (.bool w.2.2.2))],[some ⟨5,60,[AA.enc x0],false⟩]⟩
 | (.inr w)=>e = .ret/\Wk E0 s ⟨Fr 63 [(2,.v (.bool w))],[]⟩):=by
 unfold F5 at h;refine AT (b:=(x0.1==1)) kr (fun hb1=>?_) (fun hb1=>?_)
 ·rw [if_pos hb1] at h
  refine AG ?_
  let p1:Option Blk:=some ⟨5,60,[AA.enc x0],false⟩
  refine AL AC [(1,.pt 0 0 0),(4,.v (.int .i64 0)),(5,.v (.int .i64 0)),(6,.v (.bool false)),(13,.v (.bool (!(x0.2.1==[]))))] [p1] ?_;refine AT (b:=(!(x0.2.1==[]))) kr (fun hb2=>?_) (fun hb2=>?_)
  ·rw [if_pos hb2] at h
   refine AG ?_;refine AJ (s1:=⟨Fr 63 [(2,.v (.bool false))],[]⟩) ?_ ?_
   ·refine AE (n:=63) AC 1 [(2,.v (.bool false))] [p1] kr ?_
    exact AI rfl (Ao [] trivial ⟨lv,trivial⟩)
   refine AX ?_;have hq:=OI h; subst hq;exact ⟨rfl,AQ⟩
  ·rw [Ce hb2] at h
   refine Ae ?_;refine Ep AC [(1,.pt 0 0 0),(3,.v (.int .i64 16)),(4,.v (.int .i64 0)),(5,.v (.int .i64 0)),(6,.v (.bool false))] [p1] ?_;have hq:=OI h; subst hq;exact ⟨rfl,(Ao [0] ⟨⟨_,rfl,C2⟩,trivial⟩ ⟨lv,lv,lv,lv,lv,trivial⟩)⟩
 ·rw [Ce hb1] at h
  refine AG ?_;refine AL AC [(1,.pt 0 0 0),(3,.v (.int .i64 0)),(4,.v (.int .i64 0)),(5,.v (.int .i64 0)),(6,.v (.bool false)),(8,.v (.int .u8 x0.1)),(14,.v (.bool (x0.1==2)))] [some ⟨5,60,[AA.enc x0],false⟩] ?_;obtain ⟨r16,hr16,h⟩:=OB h;refine C9 (LW x0 _ hr16) ?_;obtain ⟨r52,hr52,h⟩:=OB h;rcases r52 with w53 | w54
  ·try dsimp only at h
   refine C9 (IW x0 r16 _ hr52) ?_;have hq:=OI h; subst hq;exact ⟨rfl,(Ao [0] ⟨⟨_,rfl,C2⟩,trivial⟩ ⟨lv,lv,lv,lv,lv,trivial⟩)⟩
  ·try dsimp only at h
   refine C9 (IW x0 r16 _ hr52) ?_;have hq:=OI h; subst hq;exact ⟨rfl,AQ⟩
theorem Mq (x0:AD) (r:Bool) (h:Bi x0=some r):Sem E0 ⟨none,false⟩ CO ⟨Fr 63 (BN 0 (IC.enc (x0,()))),[]⟩ fun e s'=>(e = .normal\/e = .ret)/\∃ xs,Eo E0.P s'.fr s'.hp Tryz.f159.results.toList=some xs/\Es xs=IF r:=by
 unfold Bi at h;refine BJ (CB (s1:=⟨Fr 63 [(0,AA.enc x0)],[]⟩) AQ ?_);refine AL AC [(1,.pt 0 0 0)] [some ⟨5,60,[AA.enc x0],false⟩] ?_;refine AL AC [(1,.pt 0 0 0),(3,.v (.int .i64 0)),(4,.v (.int .i64 0)),(5,.v (.int .i64 0)),(6,.v (.bool false))] [some ⟨5,60,[AA.enc x0],false⟩] ?_;refine AG ?_;refine AL AC [(1,.pt 0 0 0),(3,.v (.int .i64 0)),(4,.v (.int .i64 0)),(5,.v (.int .i64 0)),(6,.v (.bool false)),(8,.v (.int .u8 x0.1))] [some ⟨5,60,[AA.enc x0],false⟩] ?_;refine Bb ?_;refine AL AC [(1,.pt 0 0 0),(3,.v (.int .i64 0)),(4,.v (.int .i64 0)),(5,.v (.int .i64 0)),(6,.v (.bool false)),(8,.v (.int .u8 x0.1)),(9,.v (.bool (x0.1==1)))] [some ⟨5,60,[AA.enc x0],false⟩] ?_;obtain ⟨r55,hr55,h⟩:=OB h;rcases r55 with w56 | w68
 ·try dsimp only at h
  refine C9 (IV x0 _ hr55) ?_;refine AG ?_;obtain ⟨j58,hj58,h⟩:=OB h;refine AJ (s1:=⟨Fr 63 [(2,.v (.bool j58))],[]⟩) ?_ ?_
  ·refine AE (n:=63) AC 2 [(1,.pt 0 0 0),(3,.v (.int .i64 w56.1)),(4,.v (.int .i64 w56.2.1)),(5,.v (.int .i64 w56.2.2.1)),(6,.v (.bool w56.2.2.2)),(29,.sl 1 (x0.2.2.2.1.map cdS.enc))] [some ⟨5,60,[AA.enc x0],false⟩] kr ?_
   refine Aa AC 0 rfl (C5 (AB rfl) rfl (Dd (a:= .sl 1 (x0.2.2.2.1.map cdS.enc)) kr (C1 (el:=9) kr))) ?_;refine AE (n:=63) AC 3 [(1,.pt 0 0 0),(3,.v (.int .i64 w56.1)),(4,.v (.int .i64 w56.2.1)),(5,.v (.int .i64 w56.2.2.1)),(6,.v (.bool w56.2.2.2)),(33,.v (.bool (decide ((x0.2.2.2.1.length:Int)<=w56.1))))] [some ⟨5,60,[AA.enc x0],false⟩] kr ?_;rcases BE (decide ((x0.2.2.2.1.length:Int)<=w56.1)) with hc59 | hc59
   ·rw [if_pos hc59] at hj58
    rw [hc59];refine AE (n:=63) AC 3 [(1,.pt 0 0 0),(4,.v (.int .i64 w56.2.1)),(5,.v (.int .i64 w56.2.2.1)),(6,.v (.bool w56.2.2.2)),(33,.v (.bool true)),(36,.v (.bool (w56.1==0)))] [some ⟨5,60,[AA.enc x0],false⟩] kr ?_;rcases BE (w56.1==0) with hc60 | hc60
    ·rw [if_pos hc60] at hj58
     rw [hc60];refine AE (n:=63) AC 13 [(1,.pt 0 0 0),(5,.v (.int .i64 w56.2.2.1)),(6,.v (.bool w56.2.2.2)),(49,.v (.bool (decide (x0.2.2.2.2≥w56.2.1))))] [some ⟨5,60,[AA.enc x0],false⟩] kr ?_;rcases BE (decide (x0.2.2.2.2≥w56.2.1)) with hc61 | hc61
     ·rw [if_pos hc61] at hj58
      rw [hc61];refine AE (n:=63) AC 6 [(1,.pt 0 0 0),(6,.v (.bool w56.2.2.2)),(55,.v (.bool (decide (x0.2.2.2.2<=w56.2.2.1))))] [some ⟨5,60,[AA.enc x0],false⟩] kr ?_;rcases BE (decide (x0.2.2.2.2<=w56.2.2.1)) with hc62 | hc62
      ·rw [if_pos hc62] at hj58
       rw [hc62];refine AE (n:=63) AC 2 [(1,.pt 0 0 0),(55,.v (.bool true)),(57,.v (.bool w56.2.2.2))] [some ⟨5,60,[AA.enc x0],false⟩] kr ?_;rcases BE w56.2.2.2 with hc63 | hc63
       ·rw [if_pos hc63] at hj58
        rw [hc63];refine AE (n:=63) AC 6 [(2,.v (.bool true))] [some ⟨5,60,[AA.enc x0],false⟩] kr ?_;have hq:=OI hj58; subst hq;exact AI rfl (Ao [] trivial ⟨lv,trivial⟩)
       ·rw [Ce hc63] at hj58
        rw [hc63];refine AE (n:=63) AC 6 [(2,.v (.bool (!x0.2.2.1)))] [some ⟨5,60,[AA.enc x0],false⟩] kr ?_;have hq:=OI hj58; subst hq;exact AI rfl (Ao [] trivial ⟨lv,trivial⟩)
      ·rw [Ce hc62] at hj58
       rw [hc62];refine AE (n:=63) AC 8 [(2,.v (.bool false))] [some ⟨5,60,[AA.enc x0],false⟩] kr ?_;have hq:=OI hj58; subst hq;exact AI rfl (Ao [] trivial ⟨lv,trivial⟩)
     ·rw [Ce hc61] at hj58
      rw [hc61];refine AE (n:=63) AC 14 [(2,.v (.bool false))] [some ⟨5,60,[AA.enc x0],false⟩] kr ?_;have hq:=OI hj58; subst hq;exact AI rfl (Ao [] trivial ⟨lv,trivial⟩)
    ·rw [Ce hc60] at hj58
     rw [hc60];refine AE (n:=63) AC 2 [(1,.pt 0 0 0),(4,.v (.int .i64 w56.2.1)),(5,.v (.int .i64 w56.2.2.1)),(6,.v (.bool w56.2.2.2)),(33,.v (.bool true)),(36,.v (.bool false)),(38,.sl 1 (x0.2.2.2.1.map cdS.enc))] [some ⟨5,60,[AA.enc x0],false⟩] kr ?_;refine Aa AC 0 rfl (C5 kr rfl (Dd (a:= .sl 1 (x0.2.2.2.1.map cdS.enc)) kr (C1 (el:=9) kr))) ?_;refine AE (n:=63) AC 4 [(1,.pt 0 0 0),(4,.v (.int .i64 w56.2.1)),(5,.v (.int .i64 w56.2.2.1)),(6,.v (.bool w56.2.2.2)),(43,.v (.bool (decide ((x0.2.2.2.1.length:Int) > 0))))] [some ⟨5,60,[AA.enc x0],false⟩] kr ?_;rcases BE (decide ((x0.2.2.2.1.length:Int) > 0)) with hc64 | hc64
     ·rw [if_pos hc64] at hj58
      rw [hc64];refine AE (n:=63) AC 6 [(1,.pt 0 0 0),(5,.v (.int .i64 w56.2.2.1)),(6,.v (.bool w56.2.2.2)),(49,.v (.bool (decide (x0.2.2.2.2≥w56.2.1))))] [some ⟨5,60,[AA.enc x0],false⟩] kr ?_;rcases BE (decide (x0.2.2.2.2≥w56.2.1)) with hc65 | hc65
      ·rw [if_pos hc65] at hj58
       rw [hc65];refine AE (n:=63) AC 6 [(1,.pt 0 0 0),(6,.v (.bool w56.2.2.2)),(55,.v (.bool (decide (x0.2.2.2.2<=w56.2.2.1))))] [some ⟨5,60,[AA.enc x0],false⟩] kr ?_;rcases BE (decide (x0.2.2.2.2<=w56.2.2.1)) with hc66 | hc66
       ·rw [if_pos hc66] at hj58
        rw [hc66];refine AE (n:=63) AC 2 [(1,.pt 0 0 0),(55,.v (.bool true)),(57,.v (.bool w56.2.2.2))] [some ⟨5,60,[AA.enc x0],false⟩] kr ?_;rcases BE w56.2.2.2 with hc67 | hc67
        ·rw [if_pos hc67] at hj58
         rw [hc67];refine AE (n:=63) AC 6 [(2,.v (.bool true))] [some ⟨5,60,[AA.enc x0],false⟩] kr ?_;have hq:=OI hj58; subst hq;exact AI rfl (Ao [] trivial ⟨lv,trivial⟩)
        ·rw [Ce hc67] at hj58
         rw [hc67];refine AE (n:=63) AC 6 [(2,.v (.bool (!x0.2.2.1)))] [some ⟨5,60,[AA.enc x0],false⟩] kr ?_;have hq:=OI hj58; subst hq;exact AI rfl (Ao [] trivial ⟨lv,trivial⟩)
       ·rw [Ce hc66] at hj58
        rw [hc66];refine AE (n:=63) AC 8 [(2,.v (.bool false))] [some ⟨5,60,[AA.enc x0],false⟩] kr ?_;have hq:=OI hj58; subst hq;exact AI rfl (Ao [] trivial ⟨lv,trivial⟩)
      ·rw [Ce hc65] at hj58
       rw [hc65];refine AE (n:=63) AC 14 [(2,.v (.bool false))] [some ⟨5,60,[AA.enc x0],false⟩] kr ?_;have hq:=OI hj58; subst hq;exact AI rfl (Ao [] trivial ⟨lv,trivial⟩)
     ·rw [Ce hc64] at hj58
      rw [hc64];refine AE (n:=63) AC 20 [(2,.v (.bool false))] [some ⟨5,60,[AA.enc x0],false⟩] kr ?_;have hq:=OI hj58; subst hq;exact AI rfl (Ao [] trivial ⟨lv,trivial⟩)
   ·rw [Ce hc59] at hj58
    rw [hc59];refine AE (n:=63) AC 30 [(2,.v (.bool false))] [some ⟨5,60,[AA.enc x0],false⟩] kr ?_;have hq:=OI hj58; subst hq;exact AI rfl (Ao [] trivial ⟨lv,trivial⟩)
  refine AX ?_;have hq:=OI h; subst hq;exact ⟨⟨Fr 63 [(2,.v (.bool j58))],[]⟩,AQ,.inr rfl,[.v (.bool j58)],kr,kr⟩
 ·try dsimp only at h
  refine C9 (IV x0 _ hr55) ?_;have hq:=OI h; subst hq;exact ⟨⟨Fr 63 [(2,.v (.bool w68))],[]⟩,AQ,.inr rfl,[.v (.bool w68)],kr,kr⟩
def Oj:List AV->Option AV:=EF IC (fun a=>Bi a.1) IF
theorem Oo:XOk 159 Oj:=by
 refine AR Tryz.func159 (c:=CO) ?h2 ⟨Tryz.call159⟩ IC (fun a=>Bi a.1) IF (fun a=>(by show 1<=63; decide)) ?h3 ?h4
 case h2=>kernel_rfl
 case h3=>intro b; kernel_rfl
 case h4=>exact fun a b h=>Mq a.1 b h
/- trestle/court.name -/
noncomputable def JP:Code:=Bh Tryz.f96
def D7 (x0:(List UInt8)):Nat->Int->Option ((Unit) ⊕ (Bool))
 | 0,_=>none
 | f + 1,c1 =>
  if (decide (c1 < (x0.length:Int)))=true then
  (idx x0 c1).bind fun v3 =>
  (if (decide ((v3.toNat:Int) < 97))=true then some true else (idx x0 c1).bind fun v4 =>
  some (decide ((v4.toNat:Int) > 122))).bind fun j6 =>
  if j6=true then
  some (.inr false)
  else
  D7 x0 f (wr .i64 (c1 + 1))
  else
  some (.inl ())
def Fs (x0:(List UInt8)):Option (Bool) :=
 (D7 x0 100000 0).bind fun r10 =>
 match r10 with
 | (.inl w11) =>
  (if (decide ((x0.length:Int)≥1))=true then some (decide ((x0.length:Int)<=12)) else some false).bind fun j13 =>
  some j13
 | (.inr w15) =>
  some w15
def JS:Cs ((List UInt8)×Unit):=(csC cdS csN)
def JV (r:Bool):AV:=cdB.enc r
theorem Jz (x0:(List UInt8)):∀ (f:Nat) (c1:Int) (r:(Unit) ⊕ (Bool)),D7 x0 f c1=some r->SemN E0 ⟨none,false⟩ (pc JP [1,0,1,0,0]) f ⟨Fr 28 [(0,.st x0),(3,.v (.int .i64 c1))],[]⟩ (fun e s=>match r with
 | (.inl w)=>e=(.exit 0)/\Wk E0 s ⟨Fr 28 [(0,.st x0)],[]⟩
 | (.inr w)=>e = .ret/\Wk E0 s ⟨Fr 28 [(2,.v (.bool w))],[]⟩):=by
 intro f;induction f with
 | zero=>intro c1 r h; cases h
 | succ f ih0 =>
  intro c1 r h
  have ih:=fun (c1:Int)=>ih0 c1 r
  unfold D7 at h;refine D5 ?_;refine AG ?_;refine AL AC [(0,.st x0),(3,.v (.int .i64 c1)),(7,.v (.bool (decide (c1 < (x0.length:Int)))))] [] ?_;refine AT (b:=(decide (c1 < (x0.length:Int)))) kr (fun hb2=>?_) (fun hb2=>?_)
  ·rw [if_pos hb2] at h
   refine Ae ?_;refine AG ?_;refine Bb ?_;refine AG ?_;obtain ⟨v3,hv3,h⟩:=OB h;obtain ⟨j6,hj6,h⟩:=OB h;refine AJ (s1:=⟨Fr 28 [(0,.st x0),(3,.v (.int .i64 c1)),(19,.v (.bool j6))],[]⟩) ?_ ?_
   ·refine AE (n:=28) AC 2 [(0,.st x0),(3,.v (.int .i64 c1)),(10,.st x0),(11,.v (.int .i64 c1))] [] kr ?_
    refine Aa AC 0 rfl (C5 (AB rfl) rfl (Tn (a:= .st x0) (b:= .v (.int .i64 c1)) kr kr (Rp (bs:=x0) (ki:= .i64) kr hv3))) ?_;refine AE (n:=28) AC 2 [(0,.st x0),(3,.v (.int .i64 c1)),(14,.v (.bool (decide ((v3.toNat:Int) < 97))))] [] kr ?_;rcases BE (decide ((v3.toNat:Int) < 97)) with hc9 | hc9
    ·rw [if_pos hc9] at hj6
     rw [hc9];refine AE (n:=28) AC 5 [(0,.st x0),(3,.v (.int .i64 c1)),(15,.tp []),(16,.tp []),(17,.tp []),(18,.tp []),(19,.v (.bool true))] [] kr ?_;have hq:=OI hj6; subst hq;exact AI rfl AQ
    ·rw [Ce hc9] at hj6
     rw [hc9];refine AE (n:=28) AC 2 [(0,.st x0),(3,.v (.int .i64 c1)),(14,.v (.bool false)),(15,.st x0),(16,.v (.int .i64 c1))] [] kr ?_;obtain ⟨v4,hv4,hj6⟩:=OB hj6;refine Aa AC 0 rfl (C5 kr rfl (Tn (a:= .st x0) (b:= .v (.int .i64 c1)) kr kr (Rp (bs:=x0) (ki:= .i64) kr hv4))) ?_;refine AE (n:=28) AC 2 [(0,.st x0),(3,.v (.int .i64 c1)),(15,.st x0),(16,.v (.int .i64 c1)),(17,.v (.int .u8 (v4.toNat:Int))),(18,.v (.bool (decide ((v4.toNat:Int) > 122)))),(19,.v (.bool (decide ((v4.toNat:Int) > 122))))] [] kr ?_;have hq:=OI hj6; subst hq;exact AI rfl AQ
   refine AT (b:=j6) kr (fun hb7=>?_) (fun hb7=>?_)
   ·rw [if_pos hb7] at h
    refine AL AC [(2,.v (.bool false))] [] ?_;refine AX ?_;have hq:=OI h; subst hq;exact ⟨rfl,AQ⟩
   ·rw [Ce hb7] at h
    refine Ae ?_;refine Ep AC [(0,.st x0),(3,.v (.int .i64 (wr .i64 (c1 + 1))))] [] ?_;exact CF (s1:=⟨Fr 28 [(0,.st x0),(3,.v (.int .i64 (wr .i64 (c1 + 1))))],[]⟩) AQ (ih (wr .i64 (c1 + 1)) h)
  ·rw [Ce hb2] at h
   refine Ew ?_;have hq:=OI h; subst hq;exact ⟨rfl,AQ⟩
theorem Oe (x0:(List UInt8)) (r:Bool) (h:Fs x0=some r):Sem E0 ⟨none,false⟩ JP ⟨Fr 28 (BN 0 (JS.enc (x0,()))),[]⟩ fun e s'=>(e = .normal\/e = .ret)/\∃ xs,Eo E0.P s'.fr s'.hp Tryz.f96.results.toList=some xs/\Es xs=JV r:=by
 unfold Fs at h;refine BJ (CB (s1:=⟨Fr 28 [(0,.st x0)],[]⟩) AQ ?_);refine AL AC [(0,.st x0)] [] ?_;refine AG ?_;refine AL AC [(0,.st x0),(3,.v (.int .i64 0))] [] ?_;refine Bb ?_;obtain ⟨r10,hr10,h⟩:=OB h;refine Ey (n:=100000) ?_;rcases r10 with w11 | w15
 ·try dsimp only at h
  refine Cq (CF (s1:=⟨Fr 28 [(0,.st x0),(3,.v (.int .i64 0))],[]⟩) AQ (Jz x0 _ 0 _ hr10)) ?_;refine AG ?_;obtain ⟨j13,hj13,h⟩:=OB h;refine AJ (s1:=⟨Fr 28 [(2,.v (.bool j13))],[]⟩) ?_ ?_
  ·refine AE (n:=28) AC 4 [(0,.st x0),(23,.v (.bool (decide ((x0.length:Int)≥1))))] [] kr ?_
   rcases BE (decide ((x0.length:Int)≥1)) with hc14 | hc14
   ·rw [if_pos hc14] at hj13
    rw [hc14];refine AE (n:=28) AC 5 [(2,.v (.bool (decide ((x0.length:Int)<=12))))] [] kr ?_;have hq:=OI hj13; subst hq;exact AI rfl AQ
   ·rw [Ce hc14] at hj13
    rw [hc14];refine AE (n:=28) AC 5 [(2,.v (.bool false))] [] kr ?_;have hq:=OI hj13; subst hq;exact AI rfl AQ
  refine AX ?_;have hq:=OI h; subst hq;exact ⟨⟨Fr 28 [(2,.v (.bool j13))],[]⟩,AQ,.inr rfl,[.v (.bool j13)],kr,kr⟩
 ·try dsimp only at h
  refine Cq (CF (s1:=⟨Fr 28 [(0,.st x0),(3,.v (.int .i64 0))],[]⟩) AQ (Jz x0 _ 0 _ hr10)) ?_;have hq:=OI h; subst hq;exact ⟨⟨Fr 28 [(2,.v (.bool w15))],[]⟩,AQ,.inr rfl,[.v (.bool w15)],kr,kr⟩
def Qf:List AV->Option AV:=EF JS (fun a=>Fs a.1) JV
theorem Mo:XOk 96 Qf:=by
 refine AR Tryz.func96 (c:=JP) ?h2 ⟨Tryz.call96⟩ JS (fun a=>Fs a.1) JV (fun a=>(by show 1<=28; decide)) ?h3 ?h4
 case h2=>kernel_rfl
 case h3=>intro b; kernel_rfl
 case h4=>exact fun a b h=>Oe a.1 b h
/- trestle/court.check$1 -/
noncomputable def Jp:Code:=Bh Tryz.f160
def Ei (x0:(List UInt8)):Option (Bool) :=
 (Fs x0).bind fun v1 =>
 some (!v1)
def HL:Cs ((List UInt8)×Unit):=(csC cdS csN)
def Ha (r:Bool):AV:=cdB.enc r
theorem Lx (x0:(List UInt8)) (r:Bool) (h:Ei x0=some r):Sem E0 ⟨none,false⟩ Jp ⟨Fr 6 (BN 0 (HL.enc (x0,()))),[]⟩ fun e s'=>(e = .normal\/e = .ret)/\∃ xs,Eo E0.P s'.fr s'.hp Tryz.f160.results.toList=some xs/\Es xs=Ha r:=by
 unfold Ei at h;refine BJ (CB (s1:=⟨Fr 6 [(0,.st x0)],[]⟩) AQ ?_);refine AL AC [(0,.st x0)] [] ?_;refine AG ?_;obtain ⟨v1,hv1,h⟩:=OB h;refine AJ (s1:=⟨Fr 6 [(2,.v (.bool (!v1)))],[]⟩) ?_ ?_
 ·refine AE (n:=6) AC 1 [(3,.st x0)] [] kr ?_
  refine Av (caps:=[]) (xs:=[.st x0]) (u:=(x0,())) rfl rfl Mo rfl (AB rfl) kr kr (AW (Ax (c:=cdS) (v:=x0)) B6) (.inl kr) hv1 ?_;exact Ap AC
 refine AX ?_;have hq:=OI h; subst hq;exact ⟨⟨Fr 6 [(2,.v (.bool (!v1)))],[]⟩,AQ,.inr rfl,[.v (.bool (!v1))],kr,kr⟩
def N3:List AV->Option AV:=EF HL (fun a=>Ei a.1) Ha
theorem ON:XOk 160 N3:=by
 refine AR Tryz.func160 (c:=Jp) ?h2 ⟨Tryz.call160⟩ HL (fun a=>Ei a.1) Ha (fun a=>(by show 1<=6; decide)) ?h3 ?h4
 case h2=>kernel_rfl
 case h3=>intro b; kernel_rfl
 case h4=>exact fun a b h=>Lx a.1 b h
/- slices.IndexFunc[[]string,string] -/
noncomputable def Bf:Code:=Bh Tryz.f90
def Ay (x0:(List (List UInt8))):Nat->Int->Option ((Unit) ⊕ (Int))
 | 0,_=>none
 | f + 1,c1 =>
  if (decide (c1 < (x0.length:Int)))=true then
  (idx x0 c1).bind fun v3 =>
  (Ei v3).bind fun v4 =>
  if v4=true then
  some (.inr c1)
  else
  Ay x0 f (wr .i64 (c1 + 1))
  else
  some (.inl ())
def Aq (x0:(List (List UInt8))):Option (Int) :=
 (Ay x0 100000 0).bind fun r7 =>
 match r7 with
 | (.inl w8) =>
  some (-1)
 | (.inr w9) =>
  some w9
def Bo:Cs ((List (List UInt8))×Unit×Unit):=(csC (cdL 1 cdS) (csC (cdF 160 csN (fun _=>rfl)) csN))
def Br (r:Int):AV:=cdI.enc r
theorem CT (x0:(List (List UInt8))):∀ (f:Nat) (c1:Int) (r:(Unit) ⊕ (Int)),Ay x0 f c1=some r->SemN E0 ⟨none,false⟩ (pc Bf [1,0,1,0,0]) f ⟨Fr 19 [(0,.sl 1 (x0.map cdS.enc)),(1,.fn 160 [] []),(7,.v (.int .i64 (x0.length:Int))),(8,.v (.int .i64 c1))],[]⟩ (fun e s=>match r with
 | (.inl w)=>e=(.exit 0)/\Wk E0 s ⟨Fr 19 [],[]⟩
 | (.inr w)=>e = .ret/\Wk E0 s ⟨Fr 19 [(4,.v (.int .i64 w))],[]⟩):=by
 intro f;induction f with
 | zero=>intro c1 r h; cases h
 | succ f ih0 =>
  intro c1 r h
  have ih:=fun (c1:Int)=>ih0 c1 r
  unfold Ay at h;refine D5 ?_
  let p1:Nat×AV:=(8,.v (.int .i64 c1))
  let p2:Nat×AV:=(7,.v (.int .i64 (x0.length:Int)))
  let p3:Nat×AV:=(1,.fn 160 [] [])
  let p4:Nat×AV:=(0,.sl 1 (x0.map cdS.enc))
  refine AL AC [p4,p3,p2,p1,(9,.v (.bool (decide (c1 < (x0.length:Int)))))] [] ?_;refine AG ?_;refine AT (b:=(decide (c1 < (x0.length:Int)))) kr (fun hb2=>?_) (fun hb2=>?_)
  ·rw [if_pos hb2] at h
   refine Ae ?_;refine AG ?_;refine Bb ?_
   let p5:Nat×AV:=(5,.v (.int .i64 c1))
   refine AL AC [p4,p3,p5,p2,p1] [] ?_;refine AG ?_;obtain ⟨v3,hv3,h⟩:=OB h;obtain ⟨v4,hv4,h⟩:=OB h;refine AJ (s1:=⟨Fr 19 [p4,p3,p5,p2,p1,(16,.v (.bool v4))],[]⟩) ?_ ?_
   ·refine AE (n:=19) AC 3 [p4,p3,p5,p2,p1,(11,.fn 160 [] []),(12,.sl 1 (x0.map cdS.enc)),(13,.v (.int .i64 c1))] [] kr ?_
    refine Aa AC 0 rfl (C5 (AB rfl) rfl (AN (a:= .sl 1 (x0.map cdS.enc)) (b:= .v (.int .i64 c1)) kr kr (Gi (e:=cdS.enc) (el:=9) (k:=1) (ki:= .i64) kr kr hv3))) ?_;refine AE (n:=19) AC 1 [p4,p3,p5,p2,p1,(11,.fn 160 [] []),(15,.st v3)] [] kr ?_;refine Av (caps:=[]) (xs:=[.st v3]) (u:=(v3,())) rfl rfl ON rfl (AB rfl) kr kr (AW (Ax (c:=cdS) (v:=v3)) B6) (.inl kr) hv4 ?_;exact AI rfl AQ
   refine AT (b:=v4) kr (fun hb5=>?_) (fun hb5=>?_)
   ·rw [if_pos hb5] at h
    refine AL AC [(4,.v (.int .i64 c1))] [] ?_;refine AX ?_;have hq:=OI h; subst hq;exact ⟨rfl,AQ⟩
   ·rw [Ce hb5] at h
    refine Ae ?_
    let p6:Nat×AV:=(8,.v (.int .i64 (wr .i64 (c1 + 1))))
    refine Ep AC [p4,p3,p2,p6] [] ?_;exact CF (s1:=⟨Fr 19 [p4,p3,p2,p6],[]⟩) AQ (ih (wr .i64 (c1 + 1)) h)
  ·rw [Ce hb2] at h
   refine Ew ?_;have hq:=OI h; subst hq;exact ⟨rfl,AQ⟩
theorem D2 (x0:(List (List UInt8))) (r:Int) (h:Aq x0=some r):Sem E0 ⟨none,false⟩ Bf ⟨Fr 19 (BN 0 (Bo.enc (x0,(),()))),[]⟩ fun e s'=>(e = .normal\/e = .ret)/\∃ xs,Eo E0.P s'.fr s'.hp Tryz.f90.results.toList=some xs/\Es xs=Br r:=by
 unfold Aq at h
 let p1:Nat×AV:=(1,.fn 160 [] [])
 let p2:Nat×AV:=(0,.sl 1 (x0.map cdS.enc))
 refine BJ (CB (s1:=⟨Fr 19 [p2,p1],[]⟩) AQ ?_);refine AL AC [p2,p1] [] ?_;refine AG ?_;refine AG ?_
 let p3:Nat×AV:=(8,.v (.int .i64 0))
 let p4:Nat×AV:=(7,.v (.int .i64 (x0.length:Int)))
 refine AJ (s1:=⟨Fr 19 [p2,p1,p4,p3],[]⟩) ?_ ?_
 ·refine AE (n:=19) AC 1 [p2,p1,(6,.sl 1 (x0.map cdS.enc))] [] kr ?_
  refine Aa AC 0 rfl (C5 (AB rfl) rfl (Dd (a:= .sl 1 (x0.map cdS.enc)) kr (C1 (el:=9) kr))) ?_;exact Ap AC
 refine Bb ?_;obtain ⟨r7,hr7,h⟩:=OB h;refine Ey (n:=100000) ?_;rcases r7 with w8 | w9
 ·try dsimp only at h
  refine Cq (CF (s1:=⟨Fr 19 [p2,p1,p4,p3],[]⟩) AQ (CT x0 _ 0 _ hr7)) ?_;refine AL AC [(4,.v (.int .i64 (-1)))] [] ?_;refine AX ?_;have hq:=OI h; subst hq;exact ⟨⟨Fr 19 [(4,.v (.int .i64 (-1)))],[]⟩,AQ,.inr rfl,[.v (.int .i64 (-1))],kr,kr⟩
 ·try dsimp only at h
  refine Cq (CF (s1:=⟨Fr 19 [p2,p1,p4,p3],[]⟩) AQ (CT x0 _ 0 _ hr7)) ?_;have hq:=OI h; subst hq;exact ⟨⟨Fr 19 [(4,.v (.int .i64 w9))],[]⟩,AQ,.inr rfl,[.v (.int .i64 w9)],kr,kr⟩
def EK:List AV->Option AV:=EF Bo (fun a=>Aq a.1) Br
theorem EN:XOk 90 EK:=by
 refine AR Tryz.func90 (c:=Bf) ?h2 ⟨Tryz.call90⟩ Bo (fun a=>Aq a.1) Br (fun a=>(by show 2<=19; decide)) ?h3 ?h4
 case h2=>kernel_rfl
 case h3=>intro b; kernel_rfl
 case h4=>exact fun a b h=>D2 a.1 b h
/- slices.ContainsFunc[[]string,string] -/
noncomputable def CP:Code:=Bh Tryz.f36
def AP (x0:(List (List UInt8))):Option (Bool) :=
 (Aq x0).bind fun v1 =>
 some (decide (v1≥0))
def BW:Cs ((List (List UInt8))×Unit×Unit):=(csC (cdL 1 cdS) (csC (cdF 160 csN (fun _=>rfl)) csN))
def BX (r:Bool):AV:=cdB.enc r
theorem Dm (x0:(List (List UInt8))) (r:Bool) (h:AP x0=some r):Sem E0 ⟨none,false⟩ CP ⟨Fr 9 (BN 0 (BW.enc (x0,(),()))),[]⟩ fun e s'=>(e = .normal\/e = .ret)/\∃ xs,Eo E0.P s'.fr s'.hp Tryz.f36.results.toList=some xs/\Es xs=BX r:=by
 unfold AP at h;refine BJ (CB (s1:=⟨Fr 9 [(0,.sl 1 (x0.map cdS.enc)),(1,.fn 160 [] [])],[]⟩) AQ ?_);refine AL AC [(0,.sl 1 (x0.map cdS.enc)),(1,.fn 160 [] [])] [] ?_;refine AG ?_;obtain ⟨v1,hv1,h⟩:=OB h
 let p1:Nat×AV:=(4,.v (.bool (decide (v1≥0))))
 refine AJ (s1:=⟨Fr 9 [p1],[]⟩) ?_ ?_
 ·refine AE (n:=9) AC 2 [(5,.sl 1 (x0.map cdS.enc)),(6,.fn 160 [] [])] [] kr ?_
  refine Av (caps:=[]) (xs:=[.sl 1 (x0.map cdS.enc),.fn 160 [] []]) (u:=(x0,(),())) rfl rfl EN rfl (AB rfl) kr kr (AW (Ax (c:=(cdL 1 cdS)) (v:=x0)) (AW (Sm.fn B6) B6)) (.inl kr) hv1 ?_;exact Ap AC
 refine AX ?_;have hq:=OI h; subst hq;exact ⟨⟨Fr 9 [p1],[]⟩,AQ,.inr rfl,[.v (.bool (decide (v1≥0)))],kr,kr⟩
def Dw:List AV->Option AV:=EF BW (fun a=>AP a.1) BX
theorem CV:XOk 36 Dw:=by
 refine AR Tryz.func36 (c:=CP) ?h2 ⟨Tryz.call36⟩ BW (fun a=>AP a.1) BX (fun a=>(by show 2<=9; decide)) ?h3 ?h4
 case h2=>kernel_rfl
 case h3=>intro b; kernel_rfl
 case h4=>exact fun a b h=>Dm a.1 b h
/- slices.Index[[]string,string] -/
noncomputable def DS:Code:=Bh Tryz.f41
def A2 (x0:(List (List UInt8))) (x1:(List UInt8)):Nat->Int->Option ((Unit) ⊕ (Int))
 | 0,_=>none
 | f + 1,c1 =>
  if (decide (c1 < (x0.length:Int)))=true then
  (idx x0 c1).bind fun v3 =>
  if (x1==v3)=true then
  some (.inr c1)
  else
  A2 x0 x1 f (wr .i64 (c1 + 1))
  else
  some (.inl ())
def BO (x0:(List (List UInt8))) (x1:(List UInt8)):Option (Int) :=
 (A2 x0 x1 100000 0).bind fun r6 =>
 match r6 with
 | (.inl w7) =>
  some (-1)
 | (.inr w8) =>
  some w8
def DV:Cs ((List (List UInt8))×(List UInt8)×Unit):=(csC (cdL 1 cdS) (csC cdS csN))
def DW (r:Int):AV:=cdI.enc r
theorem EP (x0:(List (List UInt8))) (x1:(List UInt8)):∀ (f:Nat) (c1:Int) (r:(Unit) ⊕ (Int)),A2 x0 x1 f c1=some r->SemN E0 ⟨none,false⟩ (pc DS [1,0,1,0,0]) f ⟨Fr 19 [(0,.sl 1 (x0.map cdS.enc)),(1,.st x1),(7,.v (.int .i64 (x0.length:Int))),(8,.v (.int .i64 c1))],[]⟩ (fun e s=>match r with
 | (.inl w)=>e=(.exit 0)/\Wk E0 s ⟨Fr 19 [],[]⟩
 | (.inr w)=>e = .ret/\Wk E0 s ⟨Fr 19 [(4,.v (.int .i64 w))],[]⟩):=by
 intro f;induction f with
 | zero=>intro c1 r h; cases h
 | succ f ih0 =>
  intro c1 r h
  have ih:=fun (c1:Int)=>ih0 c1 r
  unfold A2 at h;refine D5 ?_
  let p1:Nat×AV:=(8,.v (.int .i64 c1))
  let p2:Nat×AV:=(7,.v (.int .i64 (x0.length:Int)))
  let p3:Nat×AV:=(0,.sl 1 (x0.map cdS.enc))
  refine AL AC [p3,(1,.st x1),p2,p1,(9,.v (.bool (decide (c1 < (x0.length:Int)))))] [] ?_;refine AG ?_;refine AT (b:=(decide (c1 < (x0.length:Int)))) kr (fun hb2=>?_) (fun hb2=>?_)
  ·rw [if_pos hb2] at h
   refine Ae ?_;refine AG ?_;refine Bb ?_
   let p4:Nat×AV:=(5,.v (.int .i64 c1))
   refine AL AC [p3,(1,.st x1),p4,p2,p1] [] ?_;refine AG ?_;obtain ⟨v3,hv3,h⟩:=OB h;refine AJ (s1:=⟨Fr 19 [p3,(1,.st x1),p4,p2,p1,(16,.v (.bool (x1==v3)))],[]⟩) ?_ ?_
   ·refine AE (n:=19) AC 3 [p3,(1,.st x1),p4,p2,p1,(11,.st x1),(12,.sl 1 (x0.map cdS.enc)),(13,.v (.int .i64 c1))] [] kr ?_
    refine Aa AC 0 rfl (C5 (AB rfl) rfl (AN (a:= .sl 1 (x0.map cdS.enc)) (b:= .v (.int .i64 c1)) kr kr (Gi (e:=cdS.enc) (el:=9) (k:=1) (ki:= .i64) kr kr hv3))) ?_;exact Ap AC
   refine AT (b:=(x1==v3)) kr (fun hb4=>?_) (fun hb4=>?_)
   ·rw [if_pos hb4] at h
    refine AL AC [(4,.v (.int .i64 c1))] [] ?_;refine AX ?_;have hq:=OI h; subst hq;exact ⟨rfl,AQ⟩
   ·rw [Ce hb4] at h
    refine Ae ?_
    let p5:Nat×AV:=(8,.v (.int .i64 (wr .i64 (c1 + 1))))
    refine Ep AC [p3,(1,.st x1),p2,p5] [] ?_;exact CF (s1:=⟨Fr 19 [p3,(1,.st x1),p2,p5],[]⟩) AQ (ih (wr .i64 (c1 + 1)) h)
  ·rw [Ce hb2] at h
   refine Ew ?_;have hq:=OI h; subst hq;exact ⟨rfl,AQ⟩
theorem G5 (x0:(List (List UInt8))) (x1:(List UInt8)) (r:Int) (h:BO x0 x1=some r):Sem E0 ⟨none,false⟩ DS ⟨Fr 19 (BN 0 (DV.enc (x0,x1,()))),[]⟩ fun e s'=>(e = .normal\/e = .ret)/\∃ xs,Eo E0.P s'.fr s'.hp Tryz.f41.results.toList=some xs/\Es xs=DW r:=by
 unfold BO at h
 let p1:Nat×AV:=(0,.sl 1 (x0.map cdS.enc))
 refine BJ (CB (s1:=⟨Fr 19 [p1,(1,.st x1)],[]⟩) AQ ?_);refine AL AC [p1,(1,.st x1)] [] ?_;refine AG ?_;refine AG ?_
 let p2:Nat×AV:=(8,.v (.int .i64 0))
 let p3:Nat×AV:=(7,.v (.int .i64 (x0.length:Int)))
 refine AJ (s1:=⟨Fr 19 [p1,(1,.st x1),p3,p2],[]⟩) ?_ ?_
 ·refine AE (n:=19) AC 1 [p1,(1,.st x1),(6,.sl 1 (x0.map cdS.enc))] [] kr ?_
  refine Aa AC 0 rfl (C5 (AB rfl) rfl (Dd (a:= .sl 1 (x0.map cdS.enc)) kr (C1 (el:=9) kr))) ?_;exact Ap AC
 refine Bb ?_;obtain ⟨r6,hr6,h⟩:=OB h;refine Ey (n:=100000) ?_;rcases r6 with w7 | w8
 ·try dsimp only at h
  refine Cq (CF (s1:=⟨Fr 19 [p1,(1,.st x1),p3,p2],[]⟩) AQ (EP x0 x1 _ 0 _ hr6)) ?_;refine AL AC [(4,.v (.int .i64 (-1)))] [] ?_;refine AX ?_;have hq:=OI h; subst hq;exact ⟨⟨Fr 19 [(4,.v (.int .i64 (-1)))],[]⟩,AQ,.inr rfl,[.v (.int .i64 (-1))],kr,kr⟩
 ·try dsimp only at h
  refine Cq (CF (s1:=⟨Fr 19 [p1,(1,.st x1),p3,p2],[]⟩) AQ (EP x0 x1 _ 0 _ hr6)) ?_;have hq:=OI h; subst hq;exact ⟨⟨Fr 19 [(4,.v (.int .i64 w8))],[]⟩,AQ,.inr rfl,[.v (.int .i64 w8)],kr,kr⟩
def Hz:List AV->Option AV:=EF DV (fun a=>BO a.1 a.2.1) DW
theorem Ez:XOk 41 Hz:=by
 refine AR Tryz.func41 (c:=DS) ?h2 ⟨Tryz.call41⟩ DV (fun a=>BO a.1 a.2.1) DW (fun a=>(by show 2<=19; decide)) ?h3 ?h4
 case h2=>kernel_rfl
 case h3=>intro b; kernel_rfl
 case h4=>exact fun a b h=>G5 a.1 a.2.1 b h
/- slices.Contains[[]string,string] -/
noncomputable def EO:Code:=Bh Tryz.f97
def Ar (x0:(List (List UInt8))) (x1:(List UInt8)):Option (Bool) :=
 (BO x0 x1).bind fun v1 =>
 some (decide (v1≥0))
def C3:Cs ((List (List UInt8))×(List UInt8)×Unit):=(csC (cdL 1 cdS) (csC cdS csN))
def C4 (r:Bool):AV:=cdB.enc r
theorem GZ (x0:(List (List UInt8))) (x1:(List UInt8)) (r:Bool) (h:Ar x0 x1=some r):Sem E0 ⟨none,false⟩ EO ⟨Fr 9 (BN 0 (C3.enc (x0,x1,()))),[]⟩ fun e s'=>(e = .normal\/e = .ret)/\∃ xs,Eo E0.P s'.fr s'.hp Tryz.f97.results.toList=some xs/\Es xs=C4 r:=by
 unfold Ar at h;refine BJ (CB (s1:=⟨Fr 9 [(0,.sl 1 (x0.map cdS.enc)),(1,.st x1)],[]⟩) AQ ?_);refine AL AC [(0,.sl 1 (x0.map cdS.enc)),(1,.st x1)] [] ?_;refine AG ?_;obtain ⟨v1,hv1,h⟩:=OB h
 let p1:Nat×AV:=(4,.v (.bool (decide (v1≥0))))
 refine AJ (s1:=⟨Fr 9 [p1],[]⟩) ?_ ?_
 ·refine AE (n:=9) AC 2 [(5,.sl 1 (x0.map cdS.enc)),(6,.st x1)] [] kr ?_
  refine Av (caps:=[]) (xs:=[.sl 1 (x0.map cdS.enc),.st x1]) (u:=(x0,x1,())) rfl rfl Ez rfl (AB rfl) kr kr (AW (Ax (c:=(cdL 1 cdS)) (v:=x0)) (AW (Ax (c:=cdS) (v:=x1)) B6)) (.inl kr) hv1 ?_;exact Ap AC
 refine AX ?_;have hq:=OI h; subst hq;exact ⟨⟨Fr 9 [p1],[]⟩,AQ,.inr rfl,[.v (.bool (decide (v1≥0)))],kr,kr⟩
def Gt:List AV->Option AV:=EF C3 (fun a=>Ar a.1 a.2.1) C4
theorem CW:XOk 97 Gt:=by
 refine AR Tryz.func97 (c:=EO) ?h2 ⟨Tryz.call97⟩ C3 (fun a=>Ar a.1 a.2.1) C4 (fun a=>(by show 2<=9; decide)) ?h3 ?h4
 case h2=>kernel_rfl
 case h3=>intro b; kernel_rfl
 case h4=>exact fun a b h=>GZ a.1 a.2.1 b h
/- trestle/court.check$2 -/
noncomputable def Jq:Code:=Bh Tryz.f161
def Ej (x0:AD) (x1:AD):Option (Bool) :=
 (if (x0.1==1)=true then (Ar x0.2.2.2.1 x1.2.1).bind fun v1 =>
 some v1 else some false).bind fun j3 =>
 some j3
def HM:Cs (AD×AD×Unit):=(csC AA (csC (cdP AA) csN))
def Hb (r:Bool):AV:=cdB.enc r
theorem Ly (x0:AD) (x1:AD) (r:Bool) (h:Ej x0 x1=some r):Sem E0 ⟨none,false⟩ Jq ⟨Fr 14 (BN 0 (HM.enc (x0,x1,()))),[]⟩ fun e s'=>(e = .normal\/e = .ret)/\∃ xs,Eo E0.P s'.fr s'.hp Tryz.f161.results.toList=some xs/\Es xs=Hb r:=by
 unfold Ej at h;refine BJ (CB (s1:=⟨Fr 14 [(0,AA.enc x0),(1,.pe (AA.enc x1) 0)],[]⟩) AQ ?_);refine AL AC [(1,.pe (AA.enc x1) 0),(2,.pt 0 0 0)] [some ⟨5,60,[AA.enc x0],false⟩] ?_;refine AG ?_;obtain ⟨j3,hj3,h⟩:=OB h;refine AJ (s1:=⟨Fr 14 [(3,.v (.bool j3))],[]⟩) ?_ ?_
 ·refine AE (n:=14) AC 4 [(1,.pe (AA.enc x1) 0),(2,.pt 0 0 0),(7,.v (.bool (x0.1==1)))] [some ⟨5,60,[AA.enc x0],false⟩] kr ?_
  rcases BE (x0.1==1) with hc4 | hc4
  ·rw [if_pos hc4] at hj3
   rw [hc4];refine AE (n:=14) AC 4 [(7,.v (.bool true)),(9,.sl 1 (x0.2.2.2.1.map cdS.enc)),(11,.st x1.2.1)] [some ⟨5,60,[AA.enc x0],false⟩] kr ?_;obtain ⟨v1,hv1,hj3⟩:=OB hj3;refine Av (caps:=[]) (xs:=[.sl 1 (x0.2.2.2.1.map cdS.enc),.st x1.2.1]) (u:=(x0.2.2.2.1,x1.2.1,())) rfl rfl CW rfl kr kr kr (AW (Ax (c:=(cdL 1 cdS)) (v:=x0.2.2.2.1)) (AW (Ax (c:=cdS) (v:=x1.2.1)) B6)) (.inl kr) hv1 ?_;refine AE (n:=14) AC 2 [(3,.v (.bool v1))] [some ⟨5,60,[AA.enc x0],false⟩] kr ?_;have hq:=OI hj3; subst hq;exact AI rfl (Ao [] trivial ⟨lv,trivial⟩)
  ·rw [Ce hc4] at hj3
   rw [hc4];refine AE (n:=14) AC 7 [(3,.v (.bool false))] [some ⟨5,60,[AA.enc x0],false⟩] kr ?_;have hq:=OI hj3; subst hq;exact AI rfl (Ao [] trivial ⟨lv,trivial⟩)
 refine AX ?_;have hq:=OI h; subst hq;exact ⟨⟨Fr 14 [(3,.v (.bool j3))],[]⟩,AQ,.inr rfl,[.v (.bool j3)],kr,kr⟩
def N4:List AV->Option AV:=EF HM (fun a=>Ej a.1 a.2.1) Hb
theorem OO:XOk 161 N4:=by
 refine AR Tryz.func161 (c:=Jq) ?h2 ⟨Tryz.call161⟩ HM (fun a=>Ej a.1 a.2.1) Hb (fun a=>(by show 2<=14; decide)) ?h3 ?h4
 case h2=>kernel_rfl
 case h3=>intro b; kernel_rfl
 case h4=>exact fun a b h=>Ly a.1 a.2.1 b h
/- slices.IndexFunc[[]trestle/api.Clause,trestle/api.Clause] -/
noncomputable def BK:Code:=Bh Tryz.f85
def Aj (x0:(List AD)) (x1:AD):Nat->Int->Option ((Unit) ⊕ (Int))
 | 0,_=>none
 | f + 1,c1 =>
  if (decide (c1 < (x0.length:Int)))=true then
  (idx x0 c1).bind fun v3 =>
  (Ej v3 x1).bind fun v4 =>
  if v4=true then
  some (.inr c1)
  else
  Aj x0 x1 f (wr .i64 (c1 + 1))
  else
  some (.inl ())
def Ab (x0:(List AD)) (x1:AD):Option (Int) :=
 (Aj x0 x1 100000 0).bind fun r7 =>
 match r7 with
 | (.inl w8) =>
  some (-1)
 | (.inr w9) =>
  some w9
def BL:Cs ((List AD)×AD×Unit):=(csC (cdL 5 AA) (csC (cdF 161 (csE (cdP AA)) (fun _=>rfl)) csN))
def BM (r:Int):AV:=cdI.enc r
theorem B5 (x0:(List AD)) (x1:AD):∀ (f:Nat) (c1:Int) (r:(Unit) ⊕ (Int)),Aj x0 x1 f c1=some r->SemN E0 ⟨none,false⟩ (pc BK [1,0,1,0,0]) f ⟨Fr 19 [(0,.sl 5 (x0.map AA.enc)),(1,.fn 161 [] [.pe (AA.enc x1) 0]),(7,.v (.int .i64 (x0.length:Int))),(8,.v (.int .i64 c1))],[]⟩ (fun e s=>match r with
 | (.inl w)=>e=(.exit 0)/\Wk E0 s ⟨Fr 19 [],[]⟩
 | (.inr w)=>e = .ret/\Wk E0 s ⟨Fr 19 [(4,.v (.int .i64 w))],[]⟩):=by
 intro f;induction f with
 | zero=>intro c1 r h; cases h
 | succ f ih0 =>
  intro c1 r h
  have ih:=fun (c1:Int)=>ih0 c1 r
  unfold Aj at h;refine D5 ?_
  let p1:Nat×AV:=(8,.v (.int .i64 c1))
  let p2:Nat×AV:=(7,.v (.int .i64 (x0.length:Int)))
  let p3:Nat×AV:=(1,.fn 161 [] [.pe (AA.enc x1) 0])
  let p4:Nat×AV:=(0,.sl 5 (x0.map AA.enc))
  refine AL AC [p4,p3,p2,p1,(9,.v (.bool (decide (c1 < (x0.length:Int)))))] [] ?_;refine AG ?_;refine AT (b:=(decide (c1 < (x0.length:Int)))) kr (fun hb2=>?_) (fun hb2=>?_)
  ·rw [if_pos hb2] at h
   refine Ae ?_;refine AG ?_;refine Bb ?_
   let p5:Nat×AV:=(5,.v (.int .i64 c1))
   refine AL AC [p4,p3,p5,p2,p1] [] ?_;refine AG ?_;obtain ⟨v3,hv3,h⟩:=OB h;obtain ⟨v4,hv4,h⟩:=OB h;refine AJ (s1:=⟨Fr 19 [p4,p3,p5,p2,p1,(16,.v (.bool v4))],[]⟩) ?_ ?_
   ·let p6:Nat×AV:=(11,.fn 161 [] [.pe (AA.enc x1) 0])
    refine AE (n:=19) AC 3 [p4,p3,p5,p2,p1,p6,(12,.sl 5 (x0.map AA.enc)),(13,.v (.int .i64 c1))] [] kr ?_;refine Aa AC 0 rfl (C5 (AB rfl) rfl (AN (a:= .sl 5 (x0.map AA.enc)) (b:= .v (.int .i64 c1)) kr kr (Gi (e:=AA.enc) (el:=60) (k:=5) (ki:= .i64) kr kr hv3))) ?_;refine AE (n:=19) AC 1 [p4,p3,p5,p2,p1,p6,(15,AA.enc v3)] [] kr ?_;refine Av (caps:=[.pe (AA.enc x1) 0]) (xs:=[AA.enc v3]) (u:=(v3,x1,())) rfl rfl OO rfl (AB rfl) kr kr (AW (Ax (c:=AA) (v:=v3)) (AW (Ax (c:=(cdP AA)) (v:=x1)) B6)) (.inl kr) hv4 ?_;exact AI rfl AQ
   refine AT (b:=v4) kr (fun hb5=>?_) (fun hb5=>?_)
   ·rw [if_pos hb5] at h
    refine AL AC [(4,.v (.int .i64 c1))] [] ?_;refine AX ?_;have hq:=OI h; subst hq;exact ⟨rfl,AQ⟩
   ·rw [Ce hb5] at h
    refine Ae ?_
    let p7:Nat×AV:=(8,.v (.int .i64 (wr .i64 (c1 + 1))))
    refine Ep AC [p4,p3,p2,p7] [] ?_;exact CF (s1:=⟨Fr 19 [p4,p3,p2,p7],[]⟩) AQ (ih (wr .i64 (c1 + 1)) h)
  ·rw [Ce hb2] at h
   refine Ew ?_;have hq:=OI h; subst hq;exact ⟨rfl,AQ⟩
theorem DQ (x0:(List AD)) (x1:AD) (r:Int) (h:Ab x0 x1=some r):Sem E0 ⟨none,false⟩ BK ⟨Fr 19 (BN 0 (BL.enc (x0,x1,()))),[]⟩ fun e s'=>(e = .normal\/e = .ret)/\∃ xs,Eo E0.P s'.fr s'.hp Tryz.f85.results.toList=some xs/\Es xs=BM r:=by
 unfold Ab at h
 let p1:Nat×AV:=(1,.fn 161 [] [.pe (AA.enc x1) 0])
 let p2:Nat×AV:=(0,.sl 5 (x0.map AA.enc))
 refine BJ (CB (s1:=⟨Fr 19 [p2,p1],[]⟩) AQ ?_);refine AL AC [p2,p1] [] ?_;refine AG ?_;refine AG ?_
 let p3:Nat×AV:=(8,.v (.int .i64 0))
 let p4:Nat×AV:=(7,.v (.int .i64 (x0.length:Int)))
 refine AJ (s1:=⟨Fr 19 [p2,p1,p4,p3],[]⟩) ?_ ?_
 ·refine AE (n:=19) AC 1 [p2,p1,(6,.sl 5 (x0.map AA.enc))] [] kr ?_
  refine Aa AC 0 rfl (C5 (AB rfl) rfl (Dd (a:= .sl 5 (x0.map AA.enc)) kr (C1 (el:=60) kr))) ?_;exact Ap AC
 refine Bb ?_;obtain ⟨r7,hr7,h⟩:=OB h;refine Ey (n:=100000) ?_;rcases r7 with w8 | w9
 ·try dsimp only at h
  refine Cq (CF (s1:=⟨Fr 19 [p2,p1,p4,p3],[]⟩) AQ (B5 x0 x1 _ 0 _ hr7)) ?_;refine AL AC [(4,.v (.int .i64 (-1)))] [] ?_;refine AX ?_;have hq:=OI h; subst hq;exact ⟨⟨Fr 19 [(4,.v (.int .i64 (-1)))],[]⟩,AQ,.inr rfl,[.v (.int .i64 (-1))],kr,kr⟩
 ·try dsimp only at h
  refine Cq (CF (s1:=⟨Fr 19 [p2,p1,p4,p3],[]⟩) AQ (B5 x0 x1 _ 0 _ hr7)) ?_;have hq:=OI h; subst hq;exact ⟨⟨Fr 19 [(4,.v (.int .i64 w9))],[]⟩,AQ,.inr rfl,[.v (.int .i64 w9)],kr,kr⟩
def DZ:List AV->Option AV:=EF BL (fun a=>Ab a.1 a.2.1) BM
theorem Da:XOk 85 DZ:=by
 refine AR Tryz.func85 (c:=BK) ?h2 ⟨Tryz.call85⟩ BL (fun a=>Ab a.1 a.2.1) BM (fun a=>(by show 2<=19; decide)) ?h3 ?h4
 case h2=>kernel_rfl
 case h3=>intro b; kernel_rfl
 case h4=>exact fun a b h=>DQ a.1 a.2.1 b h
/- slices.ContainsFunc[[]trestle/api.Clause,trestle/api.Clause] -/
noncomputable def B3:Code:=Bh Tryz.f53
def AO (x0:(List AD)) (x1:AD):Option (Bool) :=
 (Ab x0 x1).bind fun v1 =>
 some (decide (v1≥0))
def BC:Cs ((List AD)×AD×Unit):=(csC (cdL 5 AA) (csC (cdF 161 (csE (cdP AA)) (fun _=>rfl)) csN))
def BD (r:Bool):AV:=cdB.enc r
theorem C6 (x0:(List AD)) (x1:AD) (r:Bool) (h:AO x0 x1=some r):Sem E0 ⟨none,false⟩ B3 ⟨Fr 9 (BN 0 (BC.enc (x0,x1,()))),[]⟩ fun e s'=>(e = .normal\/e = .ret)/\∃ xs,Eo E0.P s'.fr s'.hp Tryz.f53.results.toList=some xs/\Es xs=BD r:=by
 unfold AO at h
 let p1:Nat×AV:=(1,.fn 161 [] [.pe (AA.enc x1) 0])
 let p2:Nat×AV:=(0,.sl 5 (x0.map AA.enc))
 refine BJ (CB (s1:=⟨Fr 9 [p2,p1],[]⟩) AQ ?_);refine AL AC [p2,p1] [] ?_;refine AG ?_;obtain ⟨v1,hv1,h⟩:=OB h
 let p3:Nat×AV:=(4,.v (.bool (decide (v1≥0))))
 refine AJ (s1:=⟨Fr 9 [p3],[]⟩) ?_ ?_
 ·refine AE (n:=9) AC 2 [(5,.sl 5 (x0.map AA.enc)),(6,.fn 161 [] [.pe (AA.enc x1) 0])] [] kr ?_
  refine Av (caps:=[]) (xs:=[.sl 5 (x0.map AA.enc),.fn 161 [] [.pe (AA.enc x1) 0]]) (u:=(x0,x1,())) rfl rfl Da rfl (AB rfl) kr kr (AW (Ax (c:=(cdL 5 AA)) (v:=x0)) (AW (Sm.fn (PJ (Ax (c:=(cdP AA)) (v:=x1)))) B6)) (.inl kr) hv1 ?_;exact Ap AC
 refine AX ?_;have hq:=OI h; subst hq;exact ⟨⟨Fr 9 [p3],[]⟩,AQ,.inr rfl,[.v (.bool (decide (v1≥0)))],kr,kr⟩
def DM:List AV->Option AV:=EF BC (fun a=>AO a.1 a.2.1) BD
theorem DN:XOk 53 DM:=by
 refine AR Tryz.func53 (c:=B3) ?h2 ⟨Tryz.call53⟩ BC (fun a=>AO a.1 a.2.1) BD (fun a=>(by show 2<=9; decide)) ?h3 ?h4
 case h2=>kernel_rfl
 case h3=>intro b; kernel_rfl
 case h4=>exact fun a b h=>C6 a.1 a.2.1 b h
/- trestle/court.check -/
noncomputable def Ii:Code:=Bh Tryz.f128
def Dg (x0:(List AD)) (x1:AD):Nat->Int->Option ((Unit) ⊕ (Int))
 | 0,_=>none
 | f + 1,c9 =>
  if (decide (c9 < (x1.2.2.2.1.length:Int)))=true then
  (idx x1.2.2.2.1 c9).bind fun v11 =>
  if (DG 0 c9 x1.2.2.2.1.length)=true then
  (Ar ((x1.2.2.2.1.take c9.toNat).drop (0:Int).toNat) v11).bind fun v13 =>
  if v13=true then
  some (.inr 5)
  else
  Dg x0 x1 f (wr .i64 (c9 + 1))
  else none
  else
  some (.inl ())
def Fm (x0:(List AD)) (x1:AD):Option (Int) :=
 (Bi x1).bind fun v1 =>
 if (!v1)=true then
 some 30
 else
 (if (!(x1.2.1==[]))=true then (Fs x1.2.1).bind fun v3 =>
 if (!v3)=true then some true else (AP x1.2.2.2.1).bind fun v4 =>
 some v4 else (AP x1.2.2.2.1).bind fun v5 =>
 some v5).bind fun j7 =>
 if j7=true then
 some 4
 else
 (Dg x0 x1 100000 0).bind fun r16 =>
 match r16 with
 | (.inl w17) =>
  (if (x1.2.1==[])=true then some true else (AO x0 x1).bind fun v18 =>
  some v18).bind fun j20 =>
  if j20=true then
  some 0
  else
  some 31
 | (.inr w23) =>
  some w23
def In:Cs ((List AD)×AD×Unit):=(csC (cdL 5 AA) (csC AA csN))
def Iq (r:Int):AV:=cdI.enc r
theorem I4 (x0:(List AD)) (x1:AD):∀ (f:Nat) (c9:Int) (r:(Unit) ⊕ (Int)),Dg x0 x1 f c9=some r->SemN E0 ⟨none,false⟩ (pc Ii [1,1,1,0,1,0,0]) f ⟨Fr 47 [(0,.sl 5 (x0.map AA.enc)),(3,.pt 0 0 0),(25,.sl 1 (x1.2.2.2.1.map cdS.enc)),(26,.v (.int .i64 (x1.2.2.2.1.length:Int))),(27,.v (.int .i64 c9))],[some ⟨5,60,[AA.enc x1],false⟩]⟩ (fun e s=>match r with
 | (.inl w)=>e=(.exit 0)/\Wk E0 s ⟨Fr 47 [(0,.sl 5 (x0.map AA.enc)),(3,.pt 0 0 0)],[some ⟨5,60,[AA.enc x1],false⟩]⟩
 | (.inr w)=>e = .ret/\Wk E0 s ⟨Fr 47 [(4,.v (.int .i64 w))],[]⟩):=by
 intro f;induction f with
 | zero=>intro c9 r h; cases h
 | succ f ih0 =>
  intro c9 r h
  have ih:=fun (c9:Int)=>ih0 c9 r
  unfold Dg at h;refine D5 ?_
  let p1:Option Blk:=some ⟨5,60,[AA.enc x1],false⟩
  let p2:Nat×AV:=(27,.v (.int .i64 c9))
  let p3:Nat×AV:=(26,.v (.int .i64 (x1.2.2.2.1.length:Int)))
  let p4:Nat×AV:=(25,.sl 1 (x1.2.2.2.1.map cdS.enc))
  let p5:Nat×AV:=(3,.pt 0 0 0)
  let p6:Nat×AV:=(0,.sl 5 (x0.map AA.enc))
  refine AL AC [p6,p5,p4,p3,p2,(28,.v (.bool (decide (c9 < (x1.2.2.2.1.length:Int)))))] [p1] ?_;refine AG ?_;refine AT (b:=(decide (c9 < (x1.2.2.2.1.length:Int)))) kr (fun hb10=>?_) (fun hb10=>?_)
  ·rw [if_pos hb10] at h
   refine Ae ?_;refine AG ?_;refine Bb ?_;refine AG ?_;obtain ⟨v11,hv11,h⟩:=OB h;refine AJ (s1:=⟨Fr 47 [p6,p5,(5,.v (.int .i64 c9)),(6,.st v11),p4,p3,p2],[p1]⟩) ?_ ?_
   ·refine AE (n:=47) AC 1 [p6,p5,p4,p3,p2,(29,.v (.int .i64 c9))] [p1] kr ?_
    refine Aa AC 0 rfl (C5 (AB rfl) rfl (AN (a:= .sl 1 (x1.2.2.2.1.map cdS.enc)) (b:= .v (.int .i64 c9)) kr kr (Gi (e:=cdS.enc) (el:=9) (k:=1) (ki:= .i64) kr kr hv11))) ?_;exact Ap AC
   refine AG ?_;by_cases hk12:(DG 0 c9 x1.2.2.2.1.length)=true
   case neg=>rw [if_neg hk12] at h; cases h
   rw [if_pos hk12] at h;obtain ⟨v13,hv13,h⟩:=OB h;refine AJ (s1:=⟨Fr 47 [p6,p5,p4,p3,p2,(37,.v (.bool v13))],[p1]⟩) ?_ ?_
   ·refine AE (n:=47) AC 3 [p6,p5,(6,.st v11),p4,p3,p2,(33,.sl 1 (x1.2.2.2.1.map cdS.enc)),(34,.v (.int .i64 c9))] [p1] kr ?_
    refine Aa AC 0 rfl (C5 (AB rfl) rfl (En (a:= .sl 1 (x1.2.2.2.1.map cdS.enc)) (l:=none) (u:=(some (.v (.int .i64 c9)))) (m:=none) kr kr kr rfl (Jf (xs:=x1.2.2.2.1) (e:=cdS.enc) (k:=1) (el:=9) (lo:=0) (hi:=c9) kr kr rfl (GW (J0 hk12)) hk12))) ?_;refine AE (n:=47) AC 1 [p6,p5,p4,p3,p2,(35,.sl 1 (((x1.2.2.2.1.take c9.toNat).drop (0:Int).toNat).map cdS.enc)),(36,.st v11)] [p1] kr ?_;refine Av (caps:=[]) (xs:=[.sl 1 (((x1.2.2.2.1.take c9.toNat).drop (0:Int).toNat).map cdS.enc),.st v11]) (u:=(((x1.2.2.2.1.take c9.toNat).drop (0:Int).toNat),v11,())) rfl rfl CW rfl (AB rfl) kr kr (AW (Ax (c:=(cdL 1 cdS)) (v:=((x1.2.2.2.1.take c9.toNat).drop (0:Int).toNat))) (AW (Ax (c:=cdS) (v:=v11)) B6)) (.inl kr) hv13 ?_;exact AI rfl (Ao [0] ⟨⟨_,rfl,C2⟩,trivial⟩ ⟨lv,lv,lv,lv,lv,lv,trivial⟩)
   refine AT (b:=v13) kr (fun hb14=>?_) (fun hb14=>?_)
   ·rw [if_pos hb14] at h
    refine AG ?_;refine AJ (s1:=⟨Fr 47 [(4,.v (.int .i64 5))],[]⟩) ?_ ?_
    ·refine AE (n:=47) AC 1 [(4,.v (.int .i64 5))] [p1] kr ?_
     exact AI rfl (Ao [] trivial ⟨lv,trivial⟩)
    refine AX ?_;have hq:=OI h; subst hq;exact ⟨rfl,AQ⟩
   ·rw [Ce hb14] at h
    refine Ae ?_
    let p7:Nat×AV:=(27,.v (.int .i64 (wr .i64 (c9 + 1))))
    refine Ep AC [p6,p5,p4,p3,p7] [p1] ?_;exact CF (s1:=⟨Fr 47 [p6,p5,p4,p3,p7],[p1]⟩) (Ao [0] ⟨⟨_,rfl,C2⟩,trivial⟩ ⟨lv,lv,lv,lv,lv,trivial⟩) (ih (wr .i64 (c9 + 1)) h)
  ·rw [Ce hb10] at h
   refine Ew ?_;have hq:=OI h; subst hq;exact ⟨rfl,(Ao [0] ⟨⟨_,rfl,C2⟩,trivial⟩ ⟨lv,lv,trivial⟩)⟩
theorem NT (x0:(List AD)) (x1:AD) (r:Int) (h:Fm x0 x1=some r):Sem E0 ⟨none,false⟩ Ii ⟨Fr 47 (BN 0 (In.enc (x0,x1,()))),[]⟩ fun e s'=>(e = .normal\/e = .ret)/\∃ xs,Eo E0.P s'.fr s'.hp Tryz.f128.results.toList=some xs/\Es xs=Iq r:=by
 unfold Fm at h;refine BJ (CB (s1:=⟨Fr 47 [(0,.sl 5 (x0.map AA.enc)),(1,AA.enc x1)],[]⟩) AQ ?_);refine AL AC [(0,.sl 5 (x0.map AA.enc)),(3,.pt 0 0 0)] [some ⟨5,60,[AA.enc x1],false⟩] ?_;refine AG ?_;refine AG ?_;obtain ⟨v1,hv1,h⟩:=OB h;refine AJ (s1:=⟨Fr 47 [(0,.sl 5 (x0.map AA.enc)),(3,.pt 0 0 0),(9,.v (.bool (!v1)))],[some ⟨5,60,[AA.enc x1],false⟩]⟩) ?_ ?_
 ·refine AE (n:=47) AC 1 [(0,.sl 5 (x0.map AA.enc)),(3,.pt 0 0 0),(7,AA.enc x1)] [some ⟨5,60,[AA.enc x1],false⟩] kr ?_
  refine Av (caps:=[]) (xs:=[AA.enc x1]) (u:=(x1,())) rfl rfl Oo rfl (AB rfl) kr kr (AW (Ax (c:=AA) (v:=x1)) B6) (.inl kr) hv1 ?_;exact Ap AC
 refine AT (b:=(!v1)) kr (fun hb2=>?_) (fun hb2=>?_)
 ·rw [if_pos hb2] at h
  refine AG ?_;refine AJ (s1:=⟨Fr 47 [(4,.v (.int .i64 30))],[]⟩) ?_ ?_
  ·refine AE (n:=47) AC 1 [(4,.v (.int .i64 30))] [some ⟨5,60,[AA.enc x1],false⟩] kr ?_
   exact AI rfl (Ao [] trivial ⟨lv,trivial⟩)
  refine AX ?_;have hq:=OI h; subst hq;exact ⟨⟨Fr 47 [(4,.v (.int .i64 30))],[]⟩,AQ,.inr rfl,[.v (.int .i64 30)],kr,kr⟩
 ·rw [Ce hb2] at h
  refine Ae ?_;refine AG ?_;refine AG ?_;obtain ⟨j7,hj7,h⟩:=OB h;refine AJ (s1:=⟨Fr 47 [(0,.sl 5 (x0.map AA.enc)),(3,.pt 0 0 0),(23,.v (.bool j7))],[some ⟨5,60,[AA.enc x1],false⟩]⟩) ?_ ?_
  ·refine AE (n:=47) AC 4 [(0,.sl 5 (x0.map AA.enc)),(3,.pt 0 0 0),(13,.v (.bool (!(x1.2.1==[]))))] [some ⟨5,60,[AA.enc x1],false⟩] kr ?_
   rcases BE (!(x1.2.1==[])) with hc24 | hc24
   ·rw [if_pos hc24] at hj7
    rw [hc24];refine AE (n:=47) AC 2 [(0,.sl 5 (x0.map AA.enc)),(3,.pt 0 0 0),(13,.v (.bool true)),(15,.st x1.2.1)] [some ⟨5,60,[AA.enc x1],false⟩] kr ?_;obtain ⟨v3,hv3,hj7⟩:=OB hj7;refine Av (caps:=[]) (xs:=[.st x1.2.1]) (u:=(x1.2.1,())) rfl rfl Mo rfl kr kr kr (AW (Ax (c:=cdS) (v:=x1.2.1)) B6) (.inl kr) hv3 ?_;refine AE (n:=47) AC 3 [(0,.sl 5 (x0.map AA.enc)),(3,.pt 0 0 0),(19,.v (.bool (!v3)))] [some ⟨5,60,[AA.enc x1],false⟩] kr ?_;rcases BE (!v3) with hc25 | hc25
    ·rw [if_pos hc25] at hj7
     rw [hc25];refine AE (n:=47) AC 4 [(0,.sl 5 (x0.map AA.enc)),(3,.pt 0 0 0),(23,.v (.bool true))] [some ⟨5,60,[AA.enc x1],false⟩] kr ?_;have hq:=OI hj7; subst hq;exact AI rfl (Ao [0] ⟨⟨_,rfl,C2⟩,trivial⟩ ⟨lv,lv,lv,trivial⟩)
    ·rw [Ce hc25] at hj7
     rw [hc25];refine AE (n:=47) AC 2 [(0,.sl 5 (x0.map AA.enc)),(3,.pt 0 0 0),(19,.v (.bool false)),(21,.sl 1 (x1.2.2.2.1.map cdS.enc))] [some ⟨5,60,[AA.enc x1],false⟩] kr ?_;obtain ⟨v4,hv4,hj7⟩:=OB hj7;refine Av (caps:=[]) (xs:=[.sl 1 (x1.2.2.2.1.map cdS.enc),.fn 160 [] []]) (u:=(x1.2.2.2.1,(),())) rfl rfl CV rfl kr kr kr (AW (Ax (c:=(cdL 1 cdS)) (v:=x1.2.2.2.1)) (AW (Sm.fn B6) B6)) (.inl kr) hv4 ?_;refine AE (n:=47) AC 1 [(0,.sl 5 (x0.map AA.enc)),(3,.pt 0 0 0),(23,.v (.bool v4))] [some ⟨5,60,[AA.enc x1],false⟩] kr ?_;have hq:=OI hj7; subst hq;exact AI rfl (Ao [0] ⟨⟨_,rfl,C2⟩,trivial⟩ ⟨lv,lv,lv,trivial⟩)
   ·rw [Ce hc24] at hj7
    rw [hc24];refine AE (n:=47) AC 8 [(0,.sl 5 (x0.map AA.enc)),(3,.pt 0 0 0),(19,.v (.bool false)),(21,.sl 1 (x1.2.2.2.1.map cdS.enc))] [some ⟨5,60,[AA.enc x1],false⟩] kr ?_;obtain ⟨v5,hv5,hj7⟩:=OB hj7;refine Av (caps:=[]) (xs:=[.sl 1 (x1.2.2.2.1.map cdS.enc),.fn 160 [] []]) (u:=(x1.2.2.2.1,(),())) rfl rfl CV rfl kr kr kr (AW (Ax (c:=(cdL 1 cdS)) (v:=x1.2.2.2.1)) (AW (Sm.fn B6) B6)) (.inl kr) hv5 ?_;refine AE (n:=47) AC 1 [(0,.sl 5 (x0.map AA.enc)),(3,.pt 0 0 0),(23,.v (.bool v5))] [some ⟨5,60,[AA.enc x1],false⟩] kr ?_;have hq:=OI hj7; subst hq;exact AI rfl (Ao [0] ⟨⟨_,rfl,C2⟩,trivial⟩ ⟨lv,lv,lv,trivial⟩)
  refine AT (b:=j7) kr (fun hb8=>?_) (fun hb8=>?_)
  ·rw [if_pos hb8] at h
   refine AG ?_;refine AJ (s1:=⟨Fr 47 [(4,.v (.int .i64 4))],[]⟩) ?_ ?_
   ·refine AE (n:=47) AC 1 [(4,.v (.int .i64 4))] [some ⟨5,60,[AA.enc x1],false⟩] kr ?_
    exact AI rfl (Ao [] trivial ⟨lv,trivial⟩)
   refine AX ?_;have hq:=OI h; subst hq;exact ⟨⟨Fr 47 [(4,.v (.int .i64 4))],[]⟩,AQ,.inr rfl,[.v (.int .i64 4)],kr,kr⟩
  ·rw [Ce hb8] at h
   refine Ae ?_;refine AG ?_;refine AG ?_;refine AJ (s1:=⟨Fr 47 [(0,.sl 5 (x0.map AA.enc)),(3,.pt 0 0 0),(25,.sl 1 (x1.2.2.2.1.map cdS.enc)),(26,.v (.int .i64 (x1.2.2.2.1.length:Int))),(27,.v (.int .i64 0))],[some ⟨5,60,[AA.enc x1],false⟩]⟩) ?_ ?_
   ·refine AE (n:=47) AC 2 [(0,.sl 5 (x0.map AA.enc)),(3,.pt 0 0 0),(25,.sl 1 (x1.2.2.2.1.map cdS.enc))] [some ⟨5,60,[AA.enc x1],false⟩] kr ?_
    refine Aa AC 0 rfl (C5 (AB rfl) rfl (Dd (a:= .sl 1 (x1.2.2.2.1.map cdS.enc)) kr (C1 (el:=9) kr))) ?_;exact Ap AC
   refine Bb ?_;obtain ⟨r16,hr16,h⟩:=OB h;refine Ey (n:=100000) ?_;rcases r16 with w17 | w23
   ·try dsimp only at h
    refine Cq (CF (s1:=⟨Fr 47 [(0,.sl 5 (x0.map AA.enc)),(3,.pt 0 0 0),(25,.sl 1 (x1.2.2.2.1.map cdS.enc)),(26,.v (.int .i64 (x1.2.2.2.1.length:Int))),(27,.v (.int .i64 0))],[some ⟨5,60,[AA.enc x1],false⟩]⟩) (Ao [0] ⟨⟨_,rfl,C2⟩,trivial⟩ ⟨lv,lv,lv,lv,lv,trivial⟩) (I4 x0 x1 _ 0 _ hr16)) ?_;refine AG ?_;refine AG ?_;obtain ⟨j20,hj20,h⟩:=OB h;refine AJ (s1:=⟨Fr 47 [(46,.v (.bool j20))],[]⟩) ?_ ?_
    ·refine AE (n:=47) AC 4 [(0,.sl 5 (x0.map AA.enc)),(3,.pt 0 0 0),(42,.v (.bool (x1.2.1==[])))] [some ⟨5,60,[AA.enc x1],false⟩] kr ?_
     rcases BE (x1.2.1==[]) with hc22 | hc22
     ·rw [if_pos hc22] at hj20
      rw [hc22];refine AE (n:=47) AC 4 [(46,.v (.bool true))] [some ⟨5,60,[AA.enc x1],false⟩] kr ?_;have hq:=OI hj20; subst hq;exact AI rfl (Ao [] trivial ⟨lv,trivial⟩)
     ·rw [Ce hc22] at hj20
      rw [hc22];refine AE (n:=47) AC 2 [(42,.v (.bool false)),(43,.sl 5 (x0.map AA.enc)),(44,.fn 161 [] [.pt 0 0 0])] [some ⟨5,60,[AA.enc x1],false⟩] kr ?_;obtain ⟨v18,hv18,hj20⟩:=OB hj20;refine Av (caps:=[]) (xs:=[.sl 5 (x0.map AA.enc),.fn 161 [] [.pt 0 0 0]]) (u:=(x0,x1,())) rfl rfl DN rfl kr kr kr (AW (Ax (c:=(cdL 5 AA)) (v:=x0)) (AW (Sm.fn (PJ (Sm.pt (k:=5) (t:=60) (fz:=false) (y:=(AA.enc x1)) kr (Ax (c:=AA) (v:=x1))))) B6)) (.inl kr) hv18 ?_;refine AE (n:=47) AC 1 [(46,.v (.bool v18))] [some ⟨5,60,[AA.enc x1],false⟩] kr ?_;have hq:=OI hj20; subst hq;exact AI rfl (Ao [] trivial ⟨lv,trivial⟩)
    refine AT (b:=j20) kr (fun hb21=>?_) (fun hb21=>?_)
    ·rw [if_pos hb21] at h
     refine AL AC [(4,.v (.int .i64 0))] [] ?_;refine AX ?_;have hq:=OI h; subst hq;exact ⟨⟨Fr 47 [(4,.v (.int .i64 0))],[]⟩,AQ,.inr rfl,[.v (.int .i64 0)],kr,kr⟩
    ·rw [Ce hb21] at h
     refine Ae ?_;refine AL AC [(4,.v (.int .i64 31))] [] ?_;refine AX ?_;have hq:=OI h; subst hq;exact ⟨⟨Fr 47 [(4,.v (.int .i64 31))],[]⟩,AQ,.inr rfl,[.v (.int .i64 31)],kr,kr⟩
   ·try dsimp only at h
    refine Cq (CF (s1:=⟨Fr 47 [(0,.sl 5 (x0.map AA.enc)),(3,.pt 0 0 0),(25,.sl 1 (x1.2.2.2.1.map cdS.enc)),(26,.v (.int .i64 (x1.2.2.2.1.length:Int))),(27,.v (.int .i64 0))],[some ⟨5,60,[AA.enc x1],false⟩]⟩) (Ao [0] ⟨⟨_,rfl,C2⟩,trivial⟩ ⟨lv,lv,lv,lv,lv,trivial⟩) (I4 x0 x1 _ 0 _ hr16)) ?_;have hq:=OI h; subst hq;exact ⟨⟨Fr 47 [(4,.v (.int .i64 w23))],[]⟩,AQ,.inr rfl,[.v (.int .i64 w23)],kr,kr⟩
def Po:List AV->Option AV:=EF In (fun a=>Fm a.1 a.2.1) Iq
theorem Px:XOk 128 Po:=by
 refine AR Tryz.func128 (c:=Ii) ?h2 ⟨Tryz.call128⟩ In (fun a=>Fm a.1 a.2.1) Iq (fun a=>(by show 2<=47; decide)) ?h3 ?h4
 case h2=>kernel_rfl
 case h3=>intro b; kernel_rfl
 case h4=>exact fun a b h=>NT a.1 a.2.1 b h
/- trestle/court.Check -/
noncomputable def Ih:Code:=Bh Tryz.f80
def Df (x0:(List AD)):Nat->Int->Option ((Unit) ⊕ (Int×Int))
 | 0,_=>none
 | f + 1,c2 =>
  if (decide (c2 < (x0.length:Int)))=true then
  (idx x0 c2).bind fun v4 =>
  if (DG 0 c2 x0.length)=true then
  (Fm ((x0.take c2.toNat).drop (0:Int).toNat) v4).bind fun v6 =>
  if (v6 != 0)=true then
  some (.inr (c2,v6))
  else
  Df x0 f (wr .i64 (c2 + 1))
  else none
  else
  some (.inl ())
def Fl (x0:(List AD)):Option (Int×Int) :=
 if (decide ((x0.length:Int) > 32))=true then
 some (0,7)
 else
 (Df x0 100000 0).bind fun r10 =>
 match r10 with
 | (.inl w11) =>
  some (0,0)
 | (.inr w12) =>
  some (w12.1,w12.2)
def Im:Cs ((List AD)×Unit):=(csC (cdL 5 AA) csN)
def Ip (r:Int×Int):AV:= .tp [cdI.enc r.1,cdI.enc r.2]
theorem I3 (x0:(List AD)):∀ (f:Nat) (c2:Int) (r:(Unit) ⊕ (Int×Int)),Df x0 f c2=some r->SemN E0 ⟨none,false⟩ (pc Ih [1,1,0,1,0,0]) f ⟨Fr 27 [(0,.sl 5 (x0.map AA.enc)),(10,.sl 5 (x0.map AA.enc)),(11,.v (.int .i64 (x0.length:Int))),(12,.v (.int .i64 c2))],[]⟩ (fun e s=>match r with
 | (.inl w)=>e=(.exit 0)/\Wk E0 s ⟨Fr 27 [],[]⟩
 | (.inr w)=>e = .ret/\Wk E0 s ⟨Fr 27 [(2,.v (.int .i64 w.1)),(3,.v (.int .i64 w.2))],[]⟩):=by
 intro f;induction f with
 | zero=>intro c2 r h; cases h
 | succ f ih0 =>
  intro c2 r h
  have ih:=fun (c2:Int)=>ih0 c2 r
  unfold Df at h;refine D5 ?_
  let p1:Nat×AV:=(12,.v (.int .i64 c2))
  let p2:Nat×AV:=(11,.v (.int .i64 (x0.length:Int)))
  let p3:Nat×AV:=(10,.sl 5 (x0.map AA.enc))
  let p4:Nat×AV:=(0,.sl 5 (x0.map AA.enc))
  refine AL AC [p4,p3,p2,p1,(13,.v (.bool (decide (c2 < (x0.length:Int)))))] [] ?_;refine AG ?_;refine AT (b:=(decide (c2 < (x0.length:Int)))) kr (fun hb3=>?_) (fun hb3=>?_)
  ·rw [if_pos hb3] at h
   refine Ae ?_;refine AG ?_;refine Bb ?_;refine AG ?_;obtain ⟨v4,hv4,h⟩:=OB h
   let p5:Option Blk:=some ⟨5,60,[AA.enc v4],false⟩
   let p6:Nat×AV:=(4,.v (.int .i64 c2))
   refine AJ (s1:=⟨Fr 27 [p4,p6,(5,.pt 0 0 0),p3,p2,p1],[p5]⟩) ?_ ?_
   ·refine AE (n:=27) AC 1 [p4,p3,p2,p1,(14,.v (.int .i64 c2))] [] kr ?_
    refine Aa AC 0 rfl (C5 (AB rfl) rfl (AN (a:= .sl 5 (x0.map AA.enc)) (b:= .v (.int .i64 c2)) kr kr (Gi (e:=AA.enc) (el:=60) (k:=5) (ki:= .i64) kr kr hv4))) ?_;exact Ap AC
   refine AG ?_;by_cases hk5:(DG 0 c2 x0.length)=true
   case neg=>rw [if_neg hk5] at h; cases h
   rw [if_pos hk5] at h;obtain ⟨v6,hv6,h⟩:=OB h
   let p7:Nat×AV:=(6,.v (.int .i64 v6))
   refine FV AC (s1:=⟨Fr 27 [p4,p6,p7,p3,p2,p1],[]⟩) kr ?_ ?_
   ·refine BV (n:=27) AC 2 [p4,p6,(5,.pt 0 0 0),p3,p2,p1,(17,.sl 5 (x0.map AA.enc)),(18,.v (.int .i64 c2))] [p5] kr kr ?_
    refine RunDS.one AC rfl kr (Uo kr (AB rfl) rfl (En (a:= .sl 5 (x0.map AA.enc)) (l:=none) (u:=(some (.v (.int .i64 c2)))) (m:=none) kr kr kr rfl (Jf (xs:=x0) (e:=AA.enc) (k:=5) (el:=60) (lo:=0) (hi:=c2) kr kr rfl (GW (J0 hk5)) hk5)) kr) ?_;refine BV (n:=27) AC 1 [p4,p6,p3,p2,p1,(19,.sl 5 (((x0.take c2.toNat).drop (0:Int).toNat).map AA.enc)),(20,AA.enc v4)] [p5] kr kr ?_;refine CM (caps:=[]) (xs:=[.sl 5 (((x0.take c2.toNat).drop (0:Int).toNat).map AA.enc),AA.enc v4]) (u:=(((x0.take c2.toNat).drop (0:Int).toNat),v4,())) rfl rfl Px rfl (AB rfl) kr kr (AW (Ax (c:=(cdL 5 AA)) (v:=((x0.take c2.toNat).drop (0:Int).toNat))) (AW (Ax (c:=AA) (v:=v4)) B6)) kr hv6 ?_;refine BV (n:=27) AC 1 [p4,p6,p7,p3,p2,p1] [p5] kr kr ?_;exact RunDS.done rfl (Ao [] trivial ⟨lv,lv,lv,lv,lv,lv,trivial⟩)
   refine AL AC [p4,p6,p7,p3,p2,p1,(23,.v (.bool (v6 != 0)))] [] ?_;refine AT (b:=(v6 != 0)) kr (fun hb7=>?_) (fun hb7=>?_)
   ·rw [if_pos hb7] at h
    refine AL AC [(2,.v (.int .i64 c2)),(3,.v (.int .i64 v6))] [] ?_;refine AX ?_;have hq:=OI h; subst hq;exact ⟨rfl,AQ⟩
   ·rw [Ce hb7] at h
    refine Ae ?_
    let p8:Nat×AV:=(12,.v (.int .i64 (wr .i64 (c2 + 1))))
    refine Ep AC [p4,p3,p2,p8] [] ?_;exact CF (s1:=⟨Fr 27 [p4,p3,p2,p8],[]⟩) AQ (ih (wr .i64 (c2 + 1)) h)
  ·rw [Ce hb3] at h
   refine Ew ?_;have hq:=OI h; subst hq;exact ⟨rfl,AQ⟩
theorem NS (x0:(List AD)) (r:Int×Int) (h:Fl x0=some r):Sem E0 ⟨none,false⟩ Ih ⟨Fr 27 (BN 0 (Im.enc (x0,()))),[]⟩ fun e s'=>(e = .normal\/e = .ret)/\∃ xs,Eo E0.P s'.fr s'.hp Tryz.f80.results.toList=some xs/\Es xs=Ip r:=by
 unfold Fl at h
 let p1:Nat×AV:=(0,.sl 5 (x0.map AA.enc))
 refine BJ (CB (s1:=⟨Fr 27 [p1],[]⟩) AQ ?_);refine AL AC [p1] [] ?_;refine AG ?_;refine AG ?_;refine AJ (s1:=⟨Fr 27 [p1,(9,.v (.bool (decide ((x0.length:Int) > 32))))],[]⟩) ?_ ?_
 ·refine AE (n:=27) AC 1 [p1,(7,.sl 5 (x0.map AA.enc))] [] kr ?_
  refine Aa AC 0 rfl (C5 (AB rfl) rfl (Dd (a:= .sl 5 (x0.map AA.enc)) kr (C1 (el:=60) kr))) ?_;exact Ap AC
 refine AT (b:=(decide ((x0.length:Int) > 32))) kr (fun hb1=>?_) (fun hb1=>?_)
 ·rw [if_pos hb1] at h
  refine AL AC [(2,.v (.int .i64 0)),(3,.v (.int .i64 7))] [] ?_;refine AX ?_;have hq:=OI h; subst hq;exact ⟨⟨Fr 27 [(2,.v (.int .i64 0)),(3,.v (.int .i64 7))],[]⟩,AQ,.inr rfl,[.v (.int .i64 0),.v (.int .i64 7)],kr,kr⟩
 ·rw [Ce hb1] at h
  refine Ae ?_;refine AG ?_;refine AG ?_
  let p2:Nat×AV:=(12,.v (.int .i64 0))
  let p3:Nat×AV:=(11,.v (.int .i64 (x0.length:Int)))
  let p4:Nat×AV:=(10,.sl 5 (x0.map AA.enc))
  refine AJ (s1:=⟨Fr 27 [p1,p4,p3,p2],[]⟩) ?_ ?_
  ·refine AE (n:=27) AC 1 [p1,p4] [] kr ?_
   refine Aa AC 0 rfl (C5 (AB rfl) rfl (Dd (a:= .sl 5 (x0.map AA.enc)) kr (C1 (el:=60) kr))) ?_;exact Ap AC
  refine Bb ?_;obtain ⟨r10,hr10,h⟩:=OB h;refine Ey (n:=100000) ?_;rcases r10 with w11 | w12
  ·try dsimp only at h
   refine Cq (CF (s1:=⟨Fr 27 [p1,p4,p3,p2],[]⟩) AQ (I3 x0 _ 0 _ hr10)) ?_;refine AL AC [(2,.v (.int .i64 0)),(3,.v (.int .i64 0))] [] ?_;refine AX ?_;have hq:=OI h; subst hq;exact ⟨⟨Fr 27 [(2,.v (.int .i64 0)),(3,.v (.int .i64 0))],[]⟩,AQ,.inr rfl,[.v (.int .i64 0),.v (.int .i64 0)],kr,kr⟩
  ·try dsimp only at h
   refine Cq (CF (s1:=⟨Fr 27 [p1,p4,p3,p2],[]⟩) AQ (I3 x0 _ 0 _ hr10)) ?_;have hq:=OI h; subst hq;exact ⟨⟨Fr 27 [(2,.v (.int .i64 w12.1)),(3,.v (.int .i64 w12.2))],[]⟩,AQ,.inr rfl,[.v (.int .i64 w12.1),.v (.int .i64 w12.2)],kr,kr⟩
def Pn:List AV->Option AV:=EF Im (fun a=>Fl a.1) Ip
theorem Pw:XOk 80 Pn:=by
 refine AR Tryz.func80 (c:=Ih) ?h2 ⟨Tryz.call80⟩ Im (fun a=>Fl a.1) Ip (fun a=>(by show 1<=27; decide)) ?h3 ?h4
 case h2=>kernel_rfl
 case h3=>intro b; kernel_rfl
 case h4=>exact fun a b h=>NS a.1 b h
/- trestle/court.orders -/
noncomputable def H7:Code:=Bh Tryz.f75
def Cw (x0:(List AD)):Nat->(List AD)->Int->Option (((List AD)))
 | 0,_,_=>none
 | f + 1,c3,c4 =>
  if (decide (c4 < (x0.length:Int)))=true then
  (idx x0 c4).bind fun v6 =>
  (Ek v6).bind fun v7 =>
  if (FP 8 (c3.length + 1))=true then
  Cw x0 f (c3++[v7]) (wr .i64 (c4 + 1))
  else none
  else
  some c3
def D8 (x0:(List AD)):Option ((List AD)×Bool) :=
 (Fl x0).bind fun v1 =>
 if (v1.2 != 0)=true then
 some ([],false)
 else
 (Cw x0 100000 [] 0).bind fun r10 =>
 some (r10,true)
noncomputable def GM:Cs ((List AD)×Unit):=(csC (cdL 5 AA) csN)
noncomputable def IG (r:(List AD)×Bool):AV:= .tp [(cdL 1 Cn).enc r.1,cdB.enc r.2]
theorem La (x0:(List AD)):∀ (f:Nat) (c3:(List AD)) (c4:Int) (r:((List AD))),Cw x0 f c3 c4=some r->SemN E0 ⟨none,false⟩ (pc H7 [1,1,1,0,1,0,0]) f ⟨Fr 29 [(6,hd 0 (c3.map Cn.enc)),(16,.sl 5 (x0.map AA.enc)),(17,.v (.int .i64 (x0.length:Int))),(18,.v (.int .i64 c4))],[mk 1 117 (c3.map Cn.enc)]⟩ (fun e s=>e=(.exit 0)/\Wk E0 s ⟨Fr 29 [(6,hd 0 (r.map Cn.enc))],[mk 1 117 (r.map Cn.enc)]⟩):=by
 intro f;induction f with
 | zero=>intro c3 c4 r h; cases h
 | succ f ih0 =>
  intro c3 c4 r h
  have ih:=fun (c3:(List AD)) (c4:Int)=>ih0 c3 c4 r
  unfold Cw at h;refine D5 ?_
  let p1:Option Blk:=mk 1 117 (c3.map Cn.enc)
  let p2:Nat×AV:=(18,.v (.int .i64 c4))
  let p3:Nat×AV:=(17,.v (.int .i64 (x0.length:Int)))
  let p4:Nat×AV:=(16,.sl 5 (x0.map AA.enc))
  refine AL AC [(6,hd 0 (c3.map Cn.enc)),p4,p3,p2,(19,.v (.bool (decide (c4 < (x0.length:Int)))))] [p1] ?_;refine AG ?_;refine AT (b:=(decide (c4 < (x0.length:Int)))) kr (fun hb5=>?_) (fun hb5=>?_)
  ·rw [if_pos hb5] at h
   refine Ae ?_;refine AG ?_;refine Bb ?_;refine AG ?_;obtain ⟨v6,hv6,h⟩:=OB h
   let p5:Option Blk:=some ⟨5,60,[AA.enc v6],false⟩
   refine AJ (s1:=⟨Fr 29 [(6,hd 0 (c3.map Cn.enc)),(8,.pt 1 0 0),p4,p3,p2],[p1,p5]⟩) ?_ ?_
   ·refine Aa AC 0 rfl (C5 (AB rfl) rfl (AN (a:= .sl 5 (x0.map AA.enc)) (b:= .v (.int .i64 c4)) kr kr (Gi (e:=AA.enc) (el:=60) (k:=5) (ki:= .i64) kr kr hv6))) ?_
    exact Ap AC
   obtain ⟨v7,hv7,h⟩:=OB h;by_cases hk8:(FP 8 (c3.length + 1))=true
   case neg=>rw [if_neg hk8] at h; cases h
   rw [if_pos hk8] at h
   let p6:Option Blk:=mk 1 117 ((c3++[v7]).map Cn.enc)
   let p7:Nat×AV:=(6,hd 0 ((c3++[v7]).map Cn.enc))
   refine AJ (s1:=⟨Fr 29 [p7,p4,p3,p2],[p6]⟩) ?_ ?_
   ·refine AE (n:=29) AC 2 [p4,p3,p2,(22,hd 0 (c3.map Cn.enc)),(23,AA.enc v6)] [p1,p5] kr ?_
    refine Av (caps:=[]) (xs:=[AA.enc v6]) (u:=(v6,())) rfl rfl OP rfl (AB rfl) kr kr (AW (Ax (c:=AA) (v:=v6)) B6) (.inr kr) hv7 ?_;refine AE (n:=29) AC 1 [p4,p3,p2,(22,hd 0 (c3.map Cn.enc)),(25,hd 2 ([v7].map Cn.enc))] [p1,p5,mk 1 117 ([v7].map Cn.enc)] kr ?_;refine Aa AC 0 rfl (UD (AB rfl) rfl kr kr (H0 (a:=hd 0 (c3.map Cn.enc)) (b:=hd 2 ([v7].map Cn.enc)) kr kr (M7 (c:=Cn) (xs:=c3) (vs:=[v7]) (k:=1) (bytes:=8) (el:=117) kr kr (M8 (t:=117) kr) (List.cons_ne_nil _ _) kr hk8))) ?_;refine AE (n:=29) AC 1 [(6,hd 3 ((c3++[v7]).map Cn.enc)),p4,p3,p2] [none,p5,mk 1 117 ([v7].map Cn.enc),p6] kr ?_;exact AI rfl (Ao [3] ⟨⟨_,rfl,Dk⟩,trivial⟩ ⟨Dl (b':=3) kr kr,lv,lv,lv,trivial⟩)
   let p8:Nat×AV:=(18,.v (.int .i64 (wr .i64 (c4 + 1))))
   refine Ep AC [p7,p4,p3,p8] [p6] ?_;exact CF (s1:=⟨Fr 29 [p7,p4,p3,p8],[p6]⟩) (Ao [0] ⟨⟨_,rfl,Dk⟩,trivial⟩ ⟨Dl (b':=0) kr kr,lv,lv,lv,trivial⟩) (ih (c3++[v7]) (wr .i64 (c4 + 1)) h)
  ·rw [Ce hb5] at h
   refine Ew ?_;have hq:=OI h; subst hq;exact ⟨rfl,(Ao [0] ⟨⟨_,rfl,Dk⟩,trivial⟩ ⟨Dl (b':=0) kr kr,trivial⟩)⟩
theorem Ms (x0:(List AD)) (r:(List AD)×Bool) (h:D8 x0=some r):Sem E0 ⟨none,false⟩ H7 ⟨Fr 29 (BN 0 (GM.enc (x0,()))),[]⟩ fun e s'=>(e = .normal\/e = .ret)/\∃ xs,Eo E0.P s'.fr s'.hp Tryz.f75.results.toList=some xs/\Es xs=IG r:=by
 unfold D8 at h
 let p1:Nat×AV:=(0,.sl 5 (x0.map AA.enc))
 refine BJ (CB (s1:=⟨Fr 29 [p1],[]⟩) AQ ?_);refine AL AC [p1] [] ?_;refine AG ?_;refine AG ?_;obtain ⟨v1,hv1,h⟩:=OB h;refine AJ (s1:=⟨Fr 29 [p1,(5,.v (.int .i64 v1.2))],[]⟩) ?_ ?_
 ·refine AE (n:=29) AC 1 [p1,(10,.sl 5 (x0.map AA.enc))] [] kr ?_
  refine Av (caps:=[]) (xs:=[.sl 5 (x0.map AA.enc)]) (u:=(x0,())) rfl rfl Pw rfl (AB rfl) kr kr (AW (Ax (c:=(cdL 5 AA)) (v:=x0)) B6) (.inl kr) hv1 ?_;exact Ap AC
 refine AL AC [p1,(15,.v (.bool (v1.2 != 0)))] [] ?_;refine AT (b:=(v1.2 != 0)) kr (fun hb2=>?_) (fun hb2=>?_)
 ·rw [if_pos hb2] at h
  let p2:Nat×AV:=(3,.v (.bool false))
  refine AL AC [(2,.e0),p2] [] ?_;refine AX ?_;have hq:=OI h; subst hq;exact ⟨⟨Fr 29 [(2,.sl 1 ([].map Cn.enc)),p2],[]⟩,(Wk.trans (s1:=⟨Fr 29 [(2,.e0),p2],[]⟩) AQ (Wk.trans (s1:=⟨Fr 29 [(2,.e0),p2],[none]⟩) Wk.none (Wk.trans (s1:=⟨Fr 29 [(2,.sl 1 ([].map Cn.enc)),p2],[none]⟩) (KF 0 (.inr kr) ⟨.inl rfl,trivial⟩ ⟨⟨.e0,kr,TN⟩,⟨.v (.bool false),kr,.inl rfl⟩,trivial⟩) (Ao [] trivial ⟨lv,lv,trivial⟩)))),.inr rfl,[.sl 1 ([].map Cn.enc),.v (.bool false)],kr,kr⟩
 ·rw [Ce hb2] at h
  refine Ae ?_;refine AL AC [p1,(6,.e0)] [] ?_;refine AG ?_;refine AG ?_
  let p3:Nat×AV:=(18,.v (.int .i64 0))
  let p4:Nat×AV:=(17,.v (.int .i64 (x0.length:Int)))
  let p5:Nat×AV:=(16,.sl 5 (x0.map AA.enc))
  refine AJ (s1:=⟨Fr 29 [(6,.e0),p5,p4,p3],[]⟩) ?_ ?_
  ·refine AE (n:=29) AC 1 [(6,.e0),p5] [] kr ?_
   refine Aa AC 0 rfl (C5 (AB rfl) rfl (Dd (a:= .sl 5 (x0.map AA.enc)) kr (C1 (el:=60) kr))) ?_;exact Ap AC
  refine Bb ?_;obtain ⟨r10,hr10,h⟩:=OB h;refine Ey (n:=100000) ?_;refine Cq (CF (s1:=⟨Fr 29 [(6,hd 0 ([].map Cn.enc)),p5,p4,p3],[mk 1 117 ([].map Cn.enc)]⟩) (Wk.trans (s1:=⟨Fr 29 [(6,hd 0 ([].map Cn.enc)),p5,p4,p3],[mk 1 117 ([].map Cn.enc)]⟩) Wk.none (Ao [0] ⟨⟨_,rfl,Qx⟩,trivial⟩ ⟨lv,lv,lv,lv,trivial⟩)) (La x0 _ [] 0 _ hr10)) ?_
  let p6:Nat×AV:=(3,.v (.bool true))
  refine AL AC [(2,hd 0 (r10.map Cn.enc)),p6] [mk 1 117 (r10.map Cn.enc)] ?_;refine AX ?_;have hq:=OI h; subst hq;exact ⟨⟨Fr 29 [(2,.sl 1 (r10.map Cn.enc)),p6],[]⟩,(Wk.trans (s1:=⟨Fr 29 [(2,.sl 1 (r10.map Cn.enc)),p6],[none]⟩) (KF 0 (.inl kr) ⟨.inl rfl,trivial⟩ ⟨⟨hd 0 (r10.map Cn.enc),kr,QK (t:=117) kr K3⟩,⟨.v (.bool true),kr,.inl rfl⟩,trivial⟩) (Ao [] trivial ⟨lv,lv,trivial⟩)),.inr rfl,[.sl 1 (r10.map Cn.enc),.v (.bool true)],kr,kr⟩
noncomputable def Ok:List AV->Option AV:=EF GM (fun a=>D8 a.1) IG
theorem LA:XOk 75 Ok:=by
 refine AR Tryz.func75 (c:=H7) ?h2 ⟨Tryz.call75⟩ GM (fun a=>D8 a.1) IG (fun a=>(by show 1<=29; decide)) ?h3 ?h4
 case h2=>kernel_rfl
 case h3=>intro b; kernel_rfl
 case h4=>exact fun a b h=>Ms a.1 b h
/- trestle/court.orderOf$1 -/
noncomputable def IT:Code:=Bh Tryz.f165
def Bj {β:Type}(G:Ai->Ai->β->Option Int) (x0:Ai) (x1:Ai) (x2:AD) (x3:β):Option (Int) :=
 (if (!(x2.2.1==[]))=true then if (!(x0.1.2.1==x2.2.1))=true then some true else some (!(x1.1.2.1==x2.2.1)) else some false).bind fun j2 =>
 if j2=true then
 some 0
 else
 (G x0 x1 x3).bind fun v4 =>
 some v4
def GL {β:Type}(fid:FuncId) (sx:Cs β) (hn:∀ x,(sx.enc x).all F0=true):Cs (Ai×Ai×AD×β×Unit):=(csC AF (csC AF (csC (cdP AA) (csC (cdP (cdF fid sx hn)) csN))))
def GP (r:Int):AV:=cdI.enc r
theorem LE {β:Type}{fid:FuncId}{sx:Cs β}{hn:∀ x,(sx.enc x).all F0=true}{G:Ai->Ai->β->Option Int}(hX:XOk fid (EF (csC AF (csC AF sx)) (fun a=>G a.1 a.2.1 a.2.2) cdI.enc)) (x0:Ai) (x1:Ai) (x2:AD) (x3:β) (r:Int) (h:Bj G x0 x1 x2 x3=some r):Sem E0 ⟨none,false⟩ IT ⟨Fr 30 (BN 0 ((GL fid sx hn).enc (x0,x1,x2,x3,()))),[]⟩ fun e s'=>(e = .normal\/e = .ret)/\∃ xs,Eo E0.P s'.fr s'.hp Tryz.f165.results.toList=some xs/\Es xs=GP r:=by
 unfold Bj at h
 refine BJ (CB (s1:=⟨Fr 30 [(0,AF.enc x0),(1,AF.enc x1),(2,.pe (AA.enc x2) 0),(3,.pe (.fn fid [] (sx.enc x3)) 0)],[]⟩) AQ ?_)
 refine AL AC [(2,.pe (AA.enc x2) 0),(3,.pe (.fn fid [] (sx.enc x3)) 0),(4,.pt 0 0 0),(5,.pt 1 0 0)] [some ⟨10,115,[AF.enc x0],false⟩,some ⟨10,115,[AF.enc x1],false⟩] ?_
 refine AG ?_
 refine AG ?_
 obtain ⟨j2,hj2,h⟩:=OB h
 refine AJ (s1:=⟨Fr 30 [(3,.pe (.fn fid [] (sx.enc x3)) 0),(4,.pt 0 0 0),(5,.pt 1 0 0),(25,.v (.bool j2))],[some ⟨10,115,[AF.enc x0],false⟩,some ⟨10,115,[AF.enc x1],false⟩]⟩) ?_ ?_
 ·refine AE (n:=30) AC 4 [(2,.pe (AA.enc x2) 0),(3,.pe (.fn fid [] (sx.enc x3)) 0),(4,.pt 0 0 0),(5,.pt 1 0 0),(10,.v (.bool (!(x2.2.1==[]))))] [some ⟨10,115,[AF.enc x0],false⟩,some ⟨10,115,[AF.enc x1],false⟩] kr ?_
  rcases BE (!(x2.2.1==[])) with hc5 | hc5
  ·rw [if_pos hc5] at hj2
   rw [hc5]
   refine AE (n:=30) AC 7 [(2,.pe (AA.enc x2) 0),(3,.pe (.fn fid [] (sx.enc x3)) 0),(4,.pt 0 0 0),(5,.pt 1 0 0),(10,.v (.bool true)),(17,.v (.bool (!(x0.1.2.1==x2.2.1))))] [some ⟨10,115,[AF.enc x0],false⟩,some ⟨10,115,[AF.enc x1],false⟩] kr ?_
   rcases BE (!(x0.1.2.1==x2.2.1)) with hc6 | hc6
   ·rw [if_pos hc6] at hj2
    rw [hc6]
    refine AE (n:=30) AC 8 [(3,.pe (.fn fid [] (sx.enc x3)) 0),(4,.pt 0 0 0),(5,.pt 1 0 0),(25,.v (.bool true))] [some ⟨10,115,[AF.enc x0],false⟩,some ⟨10,115,[AF.enc x1],false⟩] kr ?_
    have hq:=OI hj2; subst hq
    exact AI rfl (Ao [0,1] ⟨⟨_,rfl,C2⟩,⟨_,rfl,C2⟩,trivial⟩ ⟨lv,lv,lv,lv,trivial⟩)
   ·rw [Ce hc6] at hj2
    rw [hc6]
    refine AE (n:=30) AC 8 [(3,.pe (.fn fid [] (sx.enc x3)) 0),(4,.pt 0 0 0),(5,.pt 1 0 0),(25,.v (.bool (!(x1.1.2.1==x2.2.1))))] [some ⟨10,115,[AF.enc x0],false⟩,some ⟨10,115,[AF.enc x1],false⟩] kr ?_
    have hq:=OI hj2; subst hq
    exact AI rfl (Ao [0,1] ⟨⟨_,rfl,C2⟩,⟨_,rfl,C2⟩,trivial⟩ ⟨lv,lv,lv,lv,trivial⟩)
  ·rw [Ce hc5] at hj2
   rw [hc5]
   refine AE (n:=30) AC 15 [(3,.pe (.fn fid [] (sx.enc x3)) 0),(4,.pt 0 0 0),(5,.pt 1 0 0),(25,.v (.bool false))] [some ⟨10,115,[AF.enc x0],false⟩,some ⟨10,115,[AF.enc x1],false⟩] kr ?_
   have hq:=OI hj2; subst hq
   exact AI rfl (Ao [0,1] ⟨⟨_,rfl,C2⟩,⟨_,rfl,C2⟩,trivial⟩ ⟨lv,lv,lv,lv,trivial⟩)
 refine AT (b:=j2) kr (fun hb3=>?_) (fun hb3=>?_)
 ·rw [if_pos hb3] at h
  refine AG ?_
  refine AJ (s1:=⟨Fr 30 [(6,.v (.int .i64 0))],[]⟩) ?_ ?_
  ·refine AE (n:=30) AC 1 [(6,.v (.int .i64 0))] [some ⟨10,115,[AF.enc x0],false⟩,some ⟨10,115,[AF.enc x1],false⟩] kr ?_
   exact AI rfl (Ao [] trivial ⟨lv,trivial⟩)
  refine AX ?_
  have hq:=OI h; subst hq
  exact ⟨⟨Fr 30 [(6,.v (.int .i64 0))],[]⟩,AQ,.inr rfl,[.v (.int .i64 0)],kr,kr⟩
 ·rw [Ce hb3] at h
  refine Ae ?_
  refine AG ?_
  obtain ⟨v4,hv4,h⟩:=OB h
  refine AJ (s1:=⟨Fr 30 [(6,.v (.int .i64 v4))],[]⟩) ?_ ?_
  ·refine AE (n:=30) AC 3 [(26,.fn fid [] (sx.enc x3)),(27,AF.enc x0),(28,AF.enc x1)] [some ⟨10,115,[AF.enc x0],false⟩,some ⟨10,115,[AF.enc x1],false⟩] kr ?_
   refine Av (caps:=sx.enc x3) (xs:=[AF.enc x0,AF.enc x1]) (u:=(x0,x1,x3)) rfl rfl hX rfl (AB rfl) kr kr (AW (Ax (c:=AF) (v:=x0)) (AW (Ax (c:=AF) (v:=x1)) (PI (n:=10) (s:=sx) (a:=x3)))) (.inl kr) hv4 ?_
   refine AE (n:=30) AC 1 [(6,.v (.int .i64 v4))] [some ⟨10,115,[AF.enc x0],false⟩,some ⟨10,115,[AF.enc x1],false⟩] kr ?_
   exact AI rfl (Ao [] trivial ⟨lv,trivial⟩)
  refine AX ?_
  have hq:=OI h; subst hq
  exact ⟨⟨Fr 30 [(6,.v (.int .i64 v4))],[]⟩,AQ,.inr rfl,[.v (.int .i64 v4)],kr,kr⟩
def Ma {β:Type}(fid:FuncId) (sx:Cs β) (hn:∀ x,(sx.enc x).all F0=true) (G:Ai->Ai->β->Option Int):List AV->Option AV:=EF (GL fid sx hn) (fun a=>Bj G a.1 a.2.1 a.2.2.1 a.2.2.2.1) GP
theorem CD {β:Type}{fid:FuncId}{sx:Cs β}{hn:∀ x,(sx.enc x).all F0=true}{G:Ai->Ai->β->Option Int}(hX:XOk fid (EF (csC AF (csC AF sx)) (fun a=>G a.1 a.2.1 a.2.2) cdI.enc)):XOk 165 (Ma fid sx hn G):=by
 refine AR Tryz.func165 (c:=IT) ?h2 ⟨Tryz.call165⟩ (GL fid sx hn) (fun a=>Bj G a.1 a.2.1 a.2.2.1 a.2.2.2.1) GP (fun a=>(by show 4<=30; decide)) ?h3 ?h4
 case h2=>kernel_rfl
 case h3=>intro b; kernel_rfl
 case h4=>exact fun a b h=>LE hX a.1 a.2.1 a.2.2.1 a.2.2.2.1 b h
/- cmp.isNaN[int] -/
noncomputable def Jm:Code:=Bh Tryz.f137
def Ef (x0:Int):Option (Bool) :=
 some (x0 != x0)
def HI:Cs (Int×Unit):=(csC cdI csN)
def HX (r:Bool):AV:=cdB.enc r
theorem Lt (x0:Int) (r:Bool) (h:Ef x0=some r):Sem E0 ⟨none,false⟩ Jm ⟨Fr 6 (BN 0 (HI.enc (x0,()))),[]⟩ fun e s'=>(e = .normal\/e = .ret)/\∃ xs,Eo E0.P s'.fr s'.hp Tryz.f137.results.toList=some xs/\Es xs=HX r:=by
 unfold Ef at h;refine BJ (CB (s1:=⟨Fr 6 [(0,.v (.int .i64 x0))],[]⟩) AQ ?_);refine AL AC [(0,.v (.int .i64 x0))] [] ?_;refine AL AC [(2,.v (.bool (x0 != x0)))] [] ?_;refine AX ?_;have hq:=OI h; subst hq;exact ⟨⟨Fr 6 [(2,.v (.bool (x0 != x0)))],[]⟩,AQ,.inr rfl,[.v (.bool (x0 != x0))],kr,kr⟩
def N0:List AV->Option AV:=EF HI (fun a=>Ef a.1) HX
theorem Kc:XOk 137 N0:=by
 refine AR Tryz.func137 (c:=Jm) ?h2 ⟨Tryz.call137⟩ HI (fun a=>Ef a.1) HX (fun a=>(by show 1<=6; decide)) ?h3 ?h4
 case h2=>kernel_rfl
 case h3=>intro b; kernel_rfl
 case h4=>exact fun a b h=>Lt a.1 b h
/- cmp.Compare[int] -/
noncomputable def IR:Code:=Bh Tryz.f113
def B4 (x0:Int) (x1:Int):Option (Int) :=
 (Ef x0).bind fun v1 =>
 (Ef x1).bind fun v2 =>
 if v1=true then
 if v2=true then
 some 0
 else
 some (-1)
 else
 if v2=true then
 some 1
 else
 if (decide (x0 < x1))=true then
 some (-1)
 else
 if (decide (x0 > x1))=true then
 some 1
 else
 some 0
def GH:Cs (Int×Int×Unit):=(csC cdI (csC cdI csN))
def GO (r:Int):AV:=cdI.enc r
theorem LC (x0:Int) (x1:Int) (r:Int) (h:B4 x0 x1=some r):Sem E0 ⟨none,false⟩ IR ⟨Fr 20 (BN 0 (GH.enc (x0,x1,()))),[]⟩ fun e s'=>(e = .normal\/e = .ret)/\∃ xs,Eo E0.P s'.fr s'.hp Tryz.f113.results.toList=some xs/\Es xs=GO r:=by
 unfold B4 at h
 let p1:Nat×AV:=(1,.v (.int .i64 x1))
 let p2:Nat×AV:=(0,.v (.int .i64 x0))
 refine BJ (CB (s1:=⟨Fr 20 [p2,p1],[]⟩) AQ ?_);refine AL AC [p2,p1] [] ?_;refine AG ?_;obtain ⟨v1,hv1,h⟩:=OB h
 let p3:Nat×AV:=(5,.v (.bool v1))
 refine AJ (s1:=⟨Fr 20 [p2,p1,p3],[]⟩) ?_ ?_
 ·refine AE (n:=20) AC 1 [p2,p1,(7,.v (.int .i64 x0))] [] kr ?_
  refine Av (caps:=[]) (xs:=[.v (.int .i64 x0)]) (u:=(x0,())) rfl rfl Kc rfl (AB rfl) kr kr (AW (Ax (c:=cdI) (v:=x0)) B6) (.inl kr) hv1 ?_;exact Ap AC
 refine AG ?_;obtain ⟨v2,hv2,h⟩:=OB h;refine AJ (s1:=⟨Fr 20 [p2,p1,p3,(6,.v (.bool v2))],[]⟩) ?_ ?_
 ·refine AE (n:=20) AC 1 [p2,p1,p3,(9,.v (.int .i64 x1))] [] kr ?_
  refine Av (caps:=[]) (xs:=[.v (.int .i64 x1)]) (u:=(x1,())) rfl rfl Kc rfl (AB rfl) kr kr (AW (Ax (c:=cdI) (v:=x1)) B6) (.inl kr) hv2 ?_;exact Ap AC
 refine AG ?_;refine AL AC [p2,p1,(6,.v (.bool v2)),(11,.v (.bool v1))] [] ?_;refine AT (b:=v1) kr (fun hb3=>?_) (fun hb3=>?_)
 ·rw [if_pos hb3] at h
  refine AG ?_;refine AL AC [(12,.v (.bool v2))] [] ?_;refine AT (b:=v2) kr (fun hb4=>?_) (fun hb4=>?_)
  ·rw [if_pos hb4] at h
   refine AL AC [(4,.v (.int .i64 0))] [] ?_;refine AX ?_;have hq:=OI h; subst hq;exact ⟨⟨Fr 20 [(4,.v (.int .i64 0))],[]⟩,AQ,.inr rfl,[.v (.int .i64 0)],kr,kr⟩
  ·rw [Ce hb4] at h
   refine Ae ?_;refine AL AC [(4,.v (.int .i64 (-1)))] [] ?_;refine AX ?_;have hq:=OI h; subst hq;exact ⟨⟨Fr 20 [(4,.v (.int .i64 (-1)))],[]⟩,AQ,.inr rfl,[.v (.int .i64 (-1))],kr,kr⟩
 ·rw [Ce hb3] at h
  refine Ae ?_;refine AG ?_;refine AL AC [p2,p1,(13,.v (.bool v2))] [] ?_;refine AT (b:=v2) kr (fun hb5=>?_) (fun hb5=>?_)
  ·rw [if_pos hb5] at h
   refine AL AC [(4,.v (.int .i64 1))] [] ?_;refine AX ?_;have hq:=OI h; subst hq;exact ⟨⟨Fr 20 [(4,.v (.int .i64 1))],[]⟩,AQ,.inr rfl,[.v (.int .i64 1)],kr,kr⟩
  ·rw [Ce hb5] at h
   refine Ae ?_;refine AG ?_;refine AL AC [p2,p1,(16,.v (.bool (decide (x0 < x1))))] [] ?_;refine AT (b:=(decide (x0 < x1))) kr (fun hb6=>?_) (fun hb6=>?_)
   ·rw [if_pos hb6] at h
    refine AL AC [(4,.v (.int .i64 (-1)))] [] ?_;refine AX ?_;have hq:=OI h; subst hq;exact ⟨⟨Fr 20 [(4,.v (.int .i64 (-1)))],[]⟩,AQ,.inr rfl,[.v (.int .i64 (-1))],kr,kr⟩
   ·rw [Ce hb6] at h
    refine Ae ?_;refine AG ?_;refine AL AC [(19,.v (.bool (decide (x0 > x1))))] [] ?_;refine AT (b:=(decide (x0 > x1))) kr (fun hb7=>?_) (fun hb7=>?_)
    ·rw [if_pos hb7] at h
     refine AL AC [(4,.v (.int .i64 1))] [] ?_;refine AX ?_;have hq:=OI h; subst hq;exact ⟨⟨Fr 20 [(4,.v (.int .i64 1))],[]⟩,AQ,.inr rfl,[.v (.int .i64 1)],kr,kr⟩
    ·rw [Ce hb7] at h
     refine Ae ?_;refine AL AC [(4,.v (.int .i64 0))] [] ?_;refine AX ?_;have hq:=OI h; subst hq;exact ⟨⟨Fr 20 [(4,.v (.int .i64 0))],[]⟩,AQ,.inr rfl,[.v (.int .i64 0)],kr,kr⟩
def MX:List AV->Option AV:=EF GH (fun a=>B4 a.1 a.2.1) GO
theorem Eb:XOk 113 MX:=by
 refine AR Tryz.func113 (c:=IR) ?h2 ⟨Tryz.call113⟩ GH (fun a=>B4 a.1 a.2.1) GO (fun a=>(by show 2<=20; decide)) ?h3 ?h4
 case h2=>kernel_rfl
 case h3=>intro b; kernel_rfl
 case h4=>exact fun a b h=>LC a.1 a.2.1 b h
/- trestle/court.by$1 -/
noncomputable def LV:Code:=Bh Tryz.f205
def B9 {β:Type}(G:Ai->β->Option Int) (x0:Ai) (x1:Ai) (x2:β):Option (Int) :=
 (G x0 x2).bind fun v1 =>
 (G x1 x2).bind fun v2 =>
 (B4 v1 v2).bind fun v3 =>
 some v3
def JR {β:Type}(fid:FuncId) (sx:Cs β) (hn:∀ x,(sx.enc x).all F0=true):Cs (Ai×Ai×β×Unit):=(csC AF (csC AF (csC (cdP (cdF fid sx hn)) csN)))
def JT (r:Int):AV:=cdI.enc r
theorem Ob {β:Type}{fid:FuncId}{sx:Cs β}{hn:∀ x,(sx.enc x).all F0=true}{G:Ai->β->Option Int}(hX:XOk fid (EF (csC AF sx) (fun a=>G a.1 a.2) cdI.enc)) (x0:Ai) (x1:Ai) (x2:β) (r:Int) (h:B9 G x0 x1 x2=some r):Sem E0 ⟨none,false⟩ LV ⟨Fr 13 (BN 0 ((JR fid sx hn).enc (x0,x1,x2,()))),[]⟩ fun e s'=>(e = .normal\/e = .ret)/\∃ xs,Eo E0.P s'.fr s'.hp Tryz.f205.results.toList=some xs/\Es xs=JT r:=by
 unfold B9 at h
 refine BJ (CB (s1:=⟨Fr 13 [(0,AF.enc x0),(1,AF.enc x1),(2,.pe (.fn fid [] (sx.enc x2)) 0)],[]⟩) AQ ?_)
 refine AL AC [(2,.pe (.fn fid [] (sx.enc x2)) 0),(3,.pt 0 0 0),(4,.pt 1 0 0)] [some ⟨10,115,[AF.enc x0],false⟩,some ⟨10,115,[AF.enc x1],false⟩] ?_
 refine AG ?_
 obtain ⟨v1,hv1,h⟩:=OB h
 obtain ⟨v2,hv2,h⟩:=OB h
 obtain ⟨v3,hv3,h⟩:=OB h
 refine FV AC (s1:=⟨Fr 13 [(5,.v (.int .i64 v3))],[]⟩) kr ?_ ?_
 ·refine BV (n:=13) AC 2 [(2,.pe (.fn fid [] (sx.enc x2)) 0),(4,.pt 1 0 0),(6,.fn fid [] (sx.enc x2)),(7,AF.enc x0)] [some ⟨10,115,[AF.enc x0],false⟩,some ⟨10,115,[AF.enc x1],false⟩] kr kr ?_
  refine CM (caps:=sx.enc x2) (xs:=[AF.enc x0]) (u:=(x0,x2)) rfl rfl hX rfl (AB rfl) kr kr (AW (Ax (c:=AF) (v:=x0)) (PI (n:=10) (s:=sx) (a:=x2))) kr hv1 ?_
  refine BV (n:=13) AC 2 [(8,.v (.int .i64 v1)),(9,.fn fid [] (sx.enc x2)),(10,AF.enc x1)] [some ⟨10,115,[AF.enc x0],false⟩,some ⟨10,115,[AF.enc x1],false⟩] kr kr ?_
  refine CM (caps:=sx.enc x2) (xs:=[AF.enc x1]) (u:=(x1,x2)) rfl rfl hX rfl (AB rfl) kr kr (AW (Ax (c:=AF) (v:=x1)) (PI (n:=10) (s:=sx) (a:=x2))) kr hv2 ?_
  refine CM (caps:=[]) (xs:=[.v (.int .i64 v1),.v (.int .i64 v2)]) (u:=(v1,v2,())) rfl rfl Eb rfl (AB rfl) kr kr (AW (Ax (c:=cdI) (v:=v1)) (AW (Ax (c:=cdI) (v:=v2)) B6)) kr hv3 ?_
  refine BV (n:=13) AC 1 [(5,.v (.int .i64 v3))] [some ⟨10,115,[AF.enc x0],false⟩,some ⟨10,115,[AF.enc x1],false⟩] kr kr ?_
  exact RunDS.done rfl (Ao [] trivial ⟨lv,trivial⟩)
 refine AX ?_
 have hq:=OI h; subst hq
 exact ⟨⟨Fr 13 [(5,.v (.int .i64 v3))],[]⟩,AQ,.inr rfl,[.v (.int .i64 v3)],kr,kr⟩
def Qd {β:Type}(fid:FuncId) (sx:Cs β) (hn:∀ x,(sx.enc x).all F0=true) (G:Ai->β->Option Int):List AV->Option AV:=EF (JR fid sx hn) (fun a=>B9 G a.1 a.2.1 a.2.2.1) JT
theorem HC {β:Type}{fid:FuncId}{sx:Cs β}{hn:∀ x,(sx.enc x).all F0=true}{G:Ai->β->Option Int}(hX:XOk fid (EF (csC AF sx) (fun a=>G a.1 a.2) cdI.enc)):XOk 205 (Qd fid sx hn G):=by
 refine AR Tryz.func205 (c:=LV) ?h2 ⟨Tryz.call205⟩ (JR fid sx hn) (fun a=>B9 G a.1 a.2.1 a.2.2.1) JT (fun a=>(by show 3<=13; decide)) ?h3 ?h4
 case h2=>kernel_rfl
 case h3=>intro b; kernel_rfl
 case h4=>exact fun a b h=>Ob hX a.1 a.2.1 a.2.2.1 b h
/- trestle/court.plain$1 -/
noncomputable def Jr:Code:=Bh Tryz.f178
def DL (x0:Ai) (x1:AD):Option (Int) :=
 (BO x1.2.2.2.1 x0.1.2.1).bind fun v1 =>
 if (decide (v1≥0))=true then
 some v1
 else
 some (x1.2.2.2.1.length:Int)
def HN:Cs (Ai×AD×Unit):=(csC AF (csC (cdP AA) csN))
def Hd (r:Int):AV:=cdI.enc r
theorem Lz (x0:Ai) (x1:AD) (r:Int) (h:DL x0 x1=some r):Sem E0 ⟨none,false⟩ Jr ⟨Fr 17 (BN 0 (HN.enc (x0,x1,()))),[]⟩ fun e s'=>(e = .normal\/e = .ret)/\∃ xs,Eo E0.P s'.fr s'.hp Tryz.f178.results.toList=some xs/\Es xs=Hd r:=by
 unfold DL at h
 let p1:Nat×AV:=(1,.pe (AA.enc x1) 0)
 refine BJ (CB (s1:=⟨Fr 17 [(0,AF.enc x0),p1],[]⟩) AQ ?_)
 let p2:Option Blk:=some ⟨10,115,[AF.enc x0],false⟩
 refine AL AC [p1,(2,.pt 0 0 0)] [p2] ?_;refine AG ?_;refine AG ?_;obtain ⟨v1,hv1,h⟩:=OB h
 let p3:Nat×AV:=(4,.v (.int .i64 v1))
 refine AJ (s1:=⟨Fr 17 [p1,p3],[]⟩) ?_ ?_
 ·refine AE (n:=17) AC 5 [p1,(6,.sl 1 (x1.2.2.2.1.map cdS.enc)),(9,.st x0.1.2.1)] [p2] kr ?_
  refine Av (caps:=[]) (xs:=[.sl 1 (x1.2.2.2.1.map cdS.enc),.st x0.1.2.1]) (u:=(x1.2.2.2.1,x0.1.2.1,())) rfl rfl Ez rfl (AB rfl) kr kr (AW (Ax (c:=(cdL 1 cdS)) (v:=x1.2.2.2.1)) (AW (Ax (c:=cdS) (v:=x0.1.2.1)) B6)) (.inl kr) hv1 ?_;refine AE (n:=17) AC 1 [p1,p3] [p2] kr ?_;exact AI rfl (Ao [] trivial ⟨lv,lv,trivial⟩)
 refine AL AC [p1,p3,(12,.v (.bool (decide (v1≥0))))] [] ?_;refine AT (b:=(decide (v1≥0))) kr (fun hb2=>?_) (fun hb2=>?_)
 ·rw [if_pos hb2] at h
  refine AL AC [(3,.v (.int .i64 v1))] [] ?_;refine AX ?_;have hq:=OI h; subst hq;exact ⟨⟨Fr 17 [(3,.v (.int .i64 v1))],[]⟩,AQ,.inr rfl,[.v (.int .i64 v1)],kr,kr⟩
 ·rw [Ce hb2] at h
  refine Ae ?_;refine AG ?_
  let p4:Nat×AV:=(3,.v (.int .i64 (x1.2.2.2.1.length:Int)))
  refine AJ (s1:=⟨Fr 17 [p4],[]⟩) ?_ ?_
  ·refine AE (n:=17) AC 2 [(15,.sl 1 (x1.2.2.2.1.map cdS.enc))] [] kr ?_
   refine Aa AC 0 rfl (C5 (AB rfl) rfl (Dd (a:= .sl 1 (x1.2.2.2.1.map cdS.enc)) kr (C1 (el:=9) kr))) ?_;exact Ap AC
  refine AX ?_;have hq:=OI h; subst hq;exact ⟨⟨Fr 17 [p4],[]⟩,AQ,.inr rfl,[.v (.int .i64 (x1.2.2.2.1.length:Int))],kr,kr⟩
def N6:List AV->Option AV:=EF HN (fun a=>DL a.1 a.2.1) Hd
theorem OQ:XOk 178 N6:=by
 refine AR Tryz.func178 (c:=Jr) ?h2 ⟨Tryz.call178⟩ HN (fun a=>DL a.1 a.2.1) Hd (fun a=>(by show 2<=17; decide)) ?h3 ?h4
 case h2=>kernel_rfl
 case h3=>intro b; kernel_rfl
 case h4=>exact fun a b h=>Lz a.1 a.2.1 b h
/- trestle/court.b2i -/
noncomputable def Mi:Code:=Bh Tryz.f180
def IA (x0:Bool):Option (Int) :=
 if x0=true then
 some 1
 else
 some 0
def KM:Cs (Bool×Unit):=(csC cdB csN)
def KN (r:Int):AV:=cdI.enc r
theorem PO (x0:Bool) (r:Int) (h:IA x0=some r):Sem E0 ⟨none,false⟩ Mi ⟨Fr 4 (BN 0 (KM.enc (x0,()))),[]⟩ fun e s'=>(e = .normal\/e = .ret)/\∃ xs,Eo E0.P s'.fr s'.hp Tryz.f180.results.toList=some xs/\Es xs=KN r:=by
 unfold IA at h;refine BJ (CB (s1:=⟨Fr 4 [(0,.v (.bool x0))],[]⟩) AQ ?_);refine AL AC [(0,.v (.bool x0))] [] ?_;refine AG ?_;refine AL AC [(3,.v (.bool x0))] [] ?_;refine AT (b:=x0) kr (fun hb1=>?_) (fun hb1=>?_)
 ·rw [if_pos hb1] at h
  refine AL AC [(2,.v (.int .i64 1))] [] ?_;refine AX ?_;have hq:=OI h; subst hq;exact ⟨⟨Fr 4 [(2,.v (.int .i64 1))],[]⟩,AQ,.inr rfl,[.v (.int .i64 1)],kr,kr⟩
 ·rw [Ce hb1] at h
  refine Ae ?_;refine AL AC [(2,.v (.int .i64 0))] [] ?_;refine AX ?_;have hq:=OI h; subst hq;exact ⟨⟨Fr 4 [(2,.v (.int .i64 0))],[]⟩,AQ,.inr rfl,[.v (.int .i64 0)],kr,kr⟩
def RQ:List AV->Option AV:=EF KM (fun a=>IA a.1) KN
theorem OM:XOk 180 RQ:=by
 refine AR Tryz.func180 (c:=Mi) ?h2 ⟨Tryz.call180⟩ KM (fun a=>IA a.1) KN (fun a=>(by show 1<=4; decide)) ?h3 ?h4
 case h2=>kernel_rfl
 case h3=>intro b; kernel_rfl
 case h4=>exact fun a b h=>PO a.1 b h
/- trestle/court.plain$2 -/
noncomputable def HH:Code:=Bh Tryz.f179
def Ff (x2:AD) (v5:Int):Option ((Int)) :=
 if (x2.1==3)=true then
 some (wr .i64 (0 - v5))
 else
 some v5
def Cj (x0:Ai) (x1:Ai) (x2:AD):Option (Int) :=
 if (!((x0.1.2.2.2.1==0)==(x1.1.2.2.2.1==0)))=true then
 (IA (x0.1.2.2.2.1==0)).bind fun v2 =>
 (IA (x1.1.2.2.2.1==0)).bind fun v3 =>
 (B4 v2 v3).bind fun v4 =>
 some v4
 else
 (B4 x0.1.2.2.2.1 x1.1.2.2.2.1).bind fun v5 =>
 (Ff x2 v5).bind fun r8 =>
 some r8
def HO:Cs (Ai×Ai×AD×Unit):=(csC AF (csC AF (csC (cdP AA) csN)))
def He (r:Int):AV:=cdI.enc r
theorem LF (x2:AD) (v5:Int) (r:(Int)) (h:Ff x2 v5=some r):Sem E0 ⟨none,false⟩ (pc HH [1,1,1,0,1]) ⟨Fr 40 [(6,.v (.int .i64 v5)),(36,.v (.bool (x2.1==3)))],[]⟩ (fun e s=>e = .normal/\Wk E0 s ⟨Fr 40 [(6,.v (.int .i64 r))],[]⟩):=by
 unfold Ff at h;refine AT (b:=(x2.1==3)) kr (fun hb6=>?_) (fun hb6=>?_)
 ·rw [if_pos hb6] at h
  refine Ep AC [(6,.v (.int .i64 (wr .i64 (0 - v5))))] [] ?_;have hq:=OI h; subst hq;exact ⟨rfl,AQ⟩
 ·rw [Ce hb6] at h
  refine Ae ?_;have hq:=OI h; subst hq;exact ⟨rfl,AQ⟩
theorem L0 (x0:Ai) (x1:Ai) (x2:AD) (r:Int) (h:Cj x0 x1 x2=some r):Sem E0 ⟨none,false⟩ HH ⟨Fr 40 (BN 0 (HO.enc (x0,x1,x2,()))),[]⟩ fun e s'=>(e = .normal\/e = .ret)/\∃ xs,Eo E0.P s'.fr s'.hp Tryz.f179.results.toList=some xs/\Es xs=He r:=by
 unfold Cj at h
 let p1:Nat×AV:=(2,.pe (AA.enc x2) 0)
 refine BJ (CB (s1:=⟨Fr 40 [(0,AF.enc x0),(1,AF.enc x1),p1],[]⟩) AQ ?_)
 let p2:Option Blk:=some ⟨10,115,[AF.enc x1],false⟩
 let p3:Option Blk:=some ⟨10,115,[AF.enc x0],false⟩
 refine AL AC [p1,(3,.pt 0 0 0),(4,.pt 1 0 0)] [p3,p2] ?_;refine AG ?_;refine AL AC [p1,(3,.pt 0 0 0),(4,.pt 1 0 0),(15,.v (.bool (!((x0.1.2.2.2.1==0)==(x1.1.2.2.2.1==0)))))] [p3,p2] ?_;refine AT (b:=(!((x0.1.2.2.2.1==0)==(x1.1.2.2.2.1==0)))) kr (fun hb1=>?_) (fun hb1=>?_)
 ·rw [if_pos hb1] at h
  refine AG ?_;obtain ⟨v2,hv2,h⟩:=OB h;obtain ⟨v3,hv3,h⟩:=OB h;obtain ⟨v4,hv4,h⟩:=OB h
  let p4:Nat×AV:=(5,.v (.int .i64 v4))
  refine FV AC (s1:=⟨Fr 40 [p4],[]⟩) kr ?_ ?_
  ·refine BV (n:=40) AC 4 [(4,.pt 1 0 0),(19,.v (.bool (x0.1.2.2.2.1==0)))] [p3,p2] kr kr ?_
   refine CM (caps:=[]) (xs:=[.v (.bool (x0.1.2.2.2.1==0))]) (u:=((x0.1.2.2.2.1==0),())) rfl rfl OM rfl (AB rfl) kr kr (AW (Ax (c:=cdB) (v:=(x0.1.2.2.2.1==0))) B6) kr hv2 ?_;refine BV (n:=40) AC 4 [(20,.v (.int .i64 v2)),(24,.v (.bool (x1.1.2.2.2.1==0)))] [p3,p2] kr kr ?_;refine CM (caps:=[]) (xs:=[.v (.bool (x1.1.2.2.2.1==0))]) (u:=((x1.1.2.2.2.1==0),())) rfl rfl OM rfl (AB rfl) kr kr (AW (Ax (c:=cdB) (v:=(x1.1.2.2.2.1==0))) B6) kr hv3 ?_;refine CM (caps:=[]) (xs:=[.v (.int .i64 v2),.v (.int .i64 v3)]) (u:=(v2,v3,())) rfl rfl Eb rfl (AB rfl) kr kr (AW (Ax (c:=cdI) (v:=v2)) (AW (Ax (c:=cdI) (v:=v3)) B6)) kr hv4 ?_;refine BV (n:=40) AC 1 [p4] [p3,p2] kr kr ?_;exact RunDS.done rfl (Ao [] trivial ⟨lv,trivial⟩)
  refine AX ?_;have hq:=OI h; subst hq;exact ⟨⟨Fr 40 [p4],[]⟩,AQ,.inr rfl,[.v (.int .i64 v4)],kr,kr⟩
 ·rw [Ce hb1] at h
  refine Ae ?_;refine AG ?_;obtain ⟨v5,hv5,h⟩:=OB h
  let p5:Nat×AV:=(6,.v (.int .i64 v5))
  refine AJ (s1:=⟨Fr 40 [p1,p5],[]⟩) ?_ ?_
  ·refine AE (n:=40) AC 6 [p1,(29,.v (.int .i64 x0.1.2.2.2.1)),(32,.v (.int .i64 x1.1.2.2.2.1))] [p3,p2] kr ?_
   refine Av (caps:=[]) (xs:=[.v (.int .i64 x0.1.2.2.2.1),.v (.int .i64 x1.1.2.2.2.1)]) (u:=(x0.1.2.2.2.1,x1.1.2.2.2.1,())) rfl rfl Eb rfl (AB rfl) kr kr (AW (Ax (c:=cdI) (v:=x0.1.2.2.2.1)) (AW (Ax (c:=cdI) (v:=x1.1.2.2.2.1)) B6)) (.inl kr) hv5 ?_;refine AE (n:=40) AC 1 [p1,p5] [p3,p2] kr ?_;exact AI rfl (Ao [] trivial ⟨lv,lv,trivial⟩)
  refine AG ?_;refine AL AC [p5,(36,.v (.bool (x2.1==3)))] [] ?_;obtain ⟨r8,hr8,h⟩:=OB h;refine C9 (LF x2 v5 _ hr8) ?_;refine AL AC [(5,.v (.int .i64 r8))] [] ?_;refine AX ?_;have hq:=OI h; subst hq;exact ⟨⟨Fr 40 [(5,.v (.int .i64 r8))],[]⟩,AQ,.inr rfl,[.v (.int .i64 r8)],kr,kr⟩
def N7:List AV->Option AV:=EF HO (fun a=>Cj a.1 a.2.1 a.2.2.1) He
theorem Kd:XOk 179 N7:=by
 refine AR Tryz.func179 (c:=HH) ?h2 ⟨Tryz.call179⟩ HO (fun a=>Cj a.1 a.2.1 a.2.2.1) He (fun a=>(by show 3<=40; decide)) ?h3 ?h4
 case h2=>kernel_rfl
 case h3=>intro b; kernel_rfl
 case h4=>exact fun a b h=>L0 a.1 a.2.1 a.2.2.1 b h
/- cmp.isNaN[string] -/
noncomputable def H6:Code:=Bh Tryz.f207
def DT (x0:(List UInt8)):Option (Bool) :=
 some (!(x0==x0))
def Fn:Cs ((List UInt8)×Unit):=(csC cdS csN)
def Fo (r:Bool):AV:=cdB.enc r
theorem Kp (x0:(List UInt8)) (r:Bool) (h:DT x0=some r):Sem E0 ⟨none,false⟩ H6 ⟨Fr 6 (BN 0 (Fn.enc (x0,()))),[]⟩ fun e s'=>(e = .normal\/e = .ret)/\∃ xs,Eo E0.P s'.fr s'.hp Tryz.f207.results.toList=some xs/\Es xs=Fo r:=by
 unfold DT at h;refine BJ (CB (s1:=⟨Fr 6 [(0,.st x0)],[]⟩) AQ ?_);refine AL AC [(0,.st x0)] [] ?_;refine AL AC [(2,.v (.bool (!(x0==x0))))] [] ?_;refine AX ?_;have hq:=OI h; subst hq;exact ⟨⟨Fr 6 [(2,.v (.bool (!(x0==x0))))],[]⟩,AQ,.inr rfl,[.v (.bool (!(x0==x0)))],kr,kr⟩
def Lm:List AV->Option AV:=EF Fn (fun a=>DT a.1) Fo
theorem If:XOk 207 Lm:=by
 refine AR Tryz.func207 (c:=H6) ?h2 ⟨Tryz.call207⟩ Fn (fun a=>DT a.1) Fo (fun a=>(by show 1<=6; decide)) ?h3 ?h4
 case h2=>kernel_rfl
 case h3=>intro b; kernel_rfl
 case h4=>exact fun a b h=>Kp a.1 b h
/- cmp.Compare[string] -/
noncomputable def Gy:Code:=Bh Tryz.f188
def Ct (x0:(List UInt8)) (x1:(List UInt8)):Option (Int) :=
 (DT x0).bind fun v1 =>
 (DT x1).bind fun v2 =>
 if v1=true then
 if v2=true then
 some 0
 else
 some (-1)
 else
 if v2=true then
 some 1
 else
 if (Go.Op.bytesLess x0 x1)=true then
 some (-1)
 else
 if (!((Go.Op.bytesLess x0 x1)||(x0==x1)))=true then
 some 1
 else
 some 0
def FC:Cs ((List UInt8)×(List UInt8)×Unit):=(csC cdS (csC cdS csN))
def FD (r:Int):AV:=cdI.enc r
theorem J6 (x0:(List UInt8)) (x1:(List UInt8)) (r:Int) (h:Ct x0 x1=some r):Sem E0 ⟨none,false⟩ Gy ⟨Fr 20 (BN 0 (FC.enc (x0,x1,()))),[]⟩ fun e s'=>(e = .normal\/e = .ret)/\∃ xs,Eo E0.P s'.fr s'.hp Tryz.f188.results.toList=some xs/\Es xs=FD r:=by
 unfold Ct at h;refine BJ (CB (s1:=⟨Fr 20 [(0,.st x0),(1,.st x1)],[]⟩) AQ ?_);refine AL AC [(0,.st x0),(1,.st x1)] [] ?_;refine AG ?_;obtain ⟨v1,hv1,h⟩:=OB h
 let p1:Nat×AV:=(5,.v (.bool v1))
 refine AJ (s1:=⟨Fr 20 [(0,.st x0),(1,.st x1),p1],[]⟩) ?_ ?_
 ·refine AE (n:=20) AC 1 [(0,.st x0),(1,.st x1),(7,.st x0)] [] kr ?_
  refine Av (caps:=[]) (xs:=[.st x0]) (u:=(x0,())) rfl rfl If rfl (AB rfl) kr kr (AW (Ax (c:=cdS) (v:=x0)) B6) (.inl kr) hv1 ?_;exact Ap AC
 refine AG ?_;obtain ⟨v2,hv2,h⟩:=OB h;refine AJ (s1:=⟨Fr 20 [(0,.st x0),(1,.st x1),p1,(6,.v (.bool v2))],[]⟩) ?_ ?_
 ·refine AE (n:=20) AC 1 [(0,.st x0),(1,.st x1),p1,(9,.st x1)] [] kr ?_
  refine Av (caps:=[]) (xs:=[.st x1]) (u:=(x1,())) rfl rfl If rfl (AB rfl) kr kr (AW (Ax (c:=cdS) (v:=x1)) B6) (.inl kr) hv2 ?_;exact Ap AC
 refine AG ?_;refine AL AC [(0,.st x0),(1,.st x1),(6,.v (.bool v2)),(11,.v (.bool v1))] [] ?_;refine AT (b:=v1) kr (fun hb3=>?_) (fun hb3=>?_)
 ·rw [if_pos hb3] at h
  refine AG ?_;refine AL AC [(12,.v (.bool v2))] [] ?_;refine AT (b:=v2) kr (fun hb4=>?_) (fun hb4=>?_)
  ·rw [if_pos hb4] at h
   refine AL AC [(4,.v (.int .i64 0))] [] ?_;refine AX ?_;have hq:=OI h; subst hq;exact ⟨⟨Fr 20 [(4,.v (.int .i64 0))],[]⟩,AQ,.inr rfl,[.v (.int .i64 0)],kr,kr⟩
  ·rw [Ce hb4] at h
   refine Ae ?_;refine AL AC [(4,.v (.int .i64 (-1)))] [] ?_;refine AX ?_;have hq:=OI h; subst hq;exact ⟨⟨Fr 20 [(4,.v (.int .i64 (-1)))],[]⟩,AQ,.inr rfl,[.v (.int .i64 (-1))],kr,kr⟩
 ·rw [Ce hb3] at h
  refine Ae ?_;refine AG ?_;refine AL AC [(0,.st x0),(1,.st x1),(13,.v (.bool v2))] [] ?_;refine AT (b:=v2) kr (fun hb5=>?_) (fun hb5=>?_)
  ·rw [if_pos hb5] at h
   refine AL AC [(4,.v (.int .i64 1))] [] ?_;refine AX ?_;have hq:=OI h; subst hq;exact ⟨⟨Fr 20 [(4,.v (.int .i64 1))],[]⟩,AQ,.inr rfl,[.v (.int .i64 1)],kr,kr⟩
  ·rw [Ce hb5] at h
   refine Ae ?_;refine AG ?_;refine AL AC [(0,.st x0),(1,.st x1),(16,.v (.bool (Go.Op.bytesLess x0 x1)))] [] ?_;refine AT (b:=(Go.Op.bytesLess x0 x1)) kr (fun hb6=>?_) (fun hb6=>?_)
   ·rw [if_pos hb6] at h
    refine AL AC [(4,.v (.int .i64 (-1)))] [] ?_;refine AX ?_;have hq:=OI h; subst hq;exact ⟨⟨Fr 20 [(4,.v (.int .i64 (-1)))],[]⟩,AQ,.inr rfl,[.v (.int .i64 (-1))],kr,kr⟩
   ·rw [Ce hb6] at h
    refine Ae ?_;refine AG ?_;refine AL AC [(19,.v (.bool (!((Go.Op.bytesLess x0 x1)||(x0==x1)))))] [] ?_;refine AT (b:=(!((Go.Op.bytesLess x0 x1)||(x0==x1)))) kr (fun hb7=>?_) (fun hb7=>?_)
    ·rw [if_pos hb7] at h
     refine AL AC [(4,.v (.int .i64 1))] [] ?_;refine AX ?_;have hq:=OI h; subst hq;exact ⟨⟨Fr 20 [(4,.v (.int .i64 1))],[]⟩,AQ,.inr rfl,[.v (.int .i64 1)],kr,kr⟩
    ·rw [Ce hb7] at h
     refine Ae ?_;refine AL AC [(4,.v (.int .i64 0))] [] ?_;refine AX ?_;have hq:=OI h; subst hq;exact ⟨⟨Fr 20 [(4,.v (.int .i64 0))],[]⟩,AQ,.inr rfl,[.v (.int .i64 0)],kr,kr⟩
def Ku:List AV->Option AV:=EF FC (fun a=>Ct a.1 a.2.1) FD
theorem Kw:XOk 188 Ku:=by
 refine AR Tryz.func188 (c:=Gy) ?h2 ⟨Tryz.call188⟩ FC (fun a=>Ct a.1 a.2.1) FD (fun a=>(by show 2<=20; decide)) ?h3 ?h4
 case h2=>kernel_rfl
 case h3=>intro b; kernel_rfl
 case h4=>exact fun a b h=>J6 a.1 a.2.1 b h
/- trestle/court.plain$7 -/
noncomputable def Jw:Code:=Bh Tryz.f187
def D9 (x0:Ai) (x1:Ai):Option (Int) :=
 (Ct x0.1.1 x1.1.1).bind fun v1 =>
 some v1
def HU:Cs (Ai×Ai×Unit):=(csC AF (csC AF csN))
def Hj (r:Int):AV:=cdI.enc r
theorem L7 (x0:Ai) (x1:Ai) (r:Int) (h:D9 x0 x1=some r):Sem E0 ⟨none,false⟩ Jw ⟨Fr 12 (BN 0 (HU.enc (x0,x1,()))),[]⟩ fun e s'=>(e = .normal\/e = .ret)/\∃ xs,Eo E0.P s'.fr s'.hp Tryz.f187.results.toList=some xs/\Es xs=Hj r:=by
 unfold D9 at h;refine BJ (CB (s1:=⟨Fr 12 [(0,AF.enc x0),(1,AF.enc x1)],[]⟩) AQ ?_)
 let p1:Option Blk:=some ⟨10,115,[AF.enc x1],false⟩
 let p2:Option Blk:=some ⟨10,115,[AF.enc x0],false⟩
 refine AL AC [(2,.pt 0 0 0),(3,.pt 1 0 0)] [p2,p1] ?_;refine AG ?_;obtain ⟨v1,hv1,h⟩:=OB h
 let p3:Nat×AV:=(4,.v (.int .i64 v1))
 refine AJ (s1:=⟨Fr 12 [p3],[]⟩) ?_ ?_
 ·refine AE (n:=12) AC 6 [(7,.st x0.1.1),(10,.st x1.1.1)] [p2,p1] kr ?_
  refine Av (caps:=[]) (xs:=[.st x0.1.1,.st x1.1.1]) (u:=(x0.1.1,x1.1.1,())) rfl rfl Kw rfl (AB rfl) kr kr (AW (Ax (c:=cdS) (v:=x0.1.1)) (AW (Ax (c:=cdS) (v:=x1.1.1)) B6)) (.inl kr) hv1 ?_;refine AE (n:=12) AC 1 [p3] [p2,p1] kr ?_;exact AI rfl (Ao [] trivial ⟨lv,trivial⟩)
 refine AX ?_;have hq:=OI h; subst hq;exact ⟨⟨Fr 12 [p3],[]⟩,AQ,.inr rfl,[.v (.int .i64 v1)],kr,kr⟩
def OD:List AV->Option AV:=EF HU (fun a=>D9 a.1 a.2.1) Hj
theorem OW:XOk 187 OD:=by
 refine AR Tryz.func187 (c:=Jw) ?h2 ⟨Tryz.call187⟩ HU (fun a=>D9 a.1 a.2.1) Hj (fun a=>(by show 2<=12; decide)) ?h3 ?h4
 case h2=>kernel_rfl
 case h3=>intro b; kernel_rfl
 case h4=>exact fun a b h=>L7 a.1 a.2.1 b h
/- trestle/court.plain$3 -/
noncomputable def Js:Code:=Bh Tryz.f182
def GF (x0:Ai) (x1:AD):Option (Bool) :=
 some (x0.1.2.2.2.2.1==x1.2.2.2.2)
def HP:Cs (Ai×AD×Unit):=(csC AF (csC (cdP AA) csN))
def Hf (r:Bool):AV:=cdB.enc r
theorem L3 (x0:Ai) (x1:AD) (r:Bool) (h:GF x0 x1=some r):Sem E0 ⟨none,false⟩ Js ⟨Fr 10 (BN 0 (HP.enc (x0,x1,()))),[]⟩ fun e s'=>(e = .normal\/e = .ret)/\∃ xs,Eo E0.P s'.fr s'.hp Tryz.f182.results.toList=some xs/\Es xs=Hf r:=by
 unfold GF at h;refine BJ (CB (s1:=⟨Fr 10 [(0,AF.enc x0),(1,.pe (AA.enc x1) 0)],[]⟩) AQ ?_)
 let p1:Option Blk:=some ⟨10,115,[AF.enc x0],false⟩
 refine AL AC [(1,.pe (AA.enc x1) 0),(2,.pt 0 0 0)] [p1] ?_;refine AG ?_
 let p2:Nat×AV:=(3,.v (.bool (x0.1.2.2.2.2.1==x1.2.2.2.2)))
 refine AJ (s1:=⟨Fr 10 [p2],[]⟩) ?_ ?_
 ·refine AE (n:=10) AC 7 [p2] [p1] kr ?_
  exact AI rfl (Ao [] trivial ⟨lv,trivial⟩)
 refine AX ?_;have hq:=OI h; subst hq;exact ⟨⟨Fr 10 [p2],[]⟩,AQ,.inr rfl,[.v (.bool (x0.1.2.2.2.2.1==x1.2.2.2.2))],kr,kr⟩
def N8:List AV->Option AV:=EF HP (fun a=>GF a.1 a.2.1) Hf
theorem OR:XOk 182 N8:=by
 refine AR Tryz.func182 (c:=Js) ?h2 ⟨Tryz.call182⟩ HP (fun a=>GF a.1 a.2.1) Hf (fun a=>(by show 2<=10; decide)) ?h3 ?h4
 case h2=>kernel_rfl
 case h3=>intro b; kernel_rfl
 case h4=>exact fun a b h=>L3 a.1 a.2.1 b h
/- trestle/court.named$1 -/
noncomputable def ES:Code:=Bh Tryz.f206
def BA (x0:Ai) (x1:AD) (x2:AD):Option (Int) :=
 (GF x0 x1).bind fun v1 =>
 if (!(v1==x2.2.2.1))=true then
 some 0
 else
 some 1
def DC:Cs (Ai×AD×AD×Unit):=(csC AF (csC (cdP (cdF 182 (csE (cdP AA)) (fun _=>rfl))) (csC (cdP AA) csN)))
def DH (r:Int):AV:=cdI.enc r
theorem Gb (x0:Ai) (x1:AD) (x2:AD) (r:Int) (h:BA x0 x1 x2=some r):Sem E0 ⟨none,false⟩ ES ⟨Fr 11 (BN 0 (DC.enc (x0,x1,x2,()))),[]⟩ fun e s'=>(e = .normal\/e = .ret)/\∃ xs,Eo E0.P s'.fr s'.hp Tryz.f206.results.toList=some xs/\Es xs=DH r:=by
 unfold BA at h
 let p1:Nat×AV:=(2,.pe (AA.enc x2) 0)
 let p2:Nat×AV:=(1,.pe (.fn 182 [] [.pe (AA.enc x1) 0]) 0)
 refine BJ (CB (s1:=⟨Fr 11 [(0,AF.enc x0),p2,p1],[]⟩) AQ ?_)
 let p3:Option Blk:=some ⟨10,115,[AF.enc x0],false⟩
 refine AL AC [p2,p1,(3,.pt 0 0 0)] [p3] ?_;refine AG ?_;refine AG ?_;obtain ⟨v1,hv1,h⟩:=OB h
 let p4:Nat×AV:=(10,.v (.bool (!(v1==x2.2.2.1))))
 refine FV AC (s1:=⟨Fr 11 [p4],[]⟩) kr ?_ ?_
 ·refine BV (n:=11) AC 2 [p1,(5,.fn 182 [] [.pe (AA.enc x1) 0]),(6,AF.enc x0)] [p3] kr kr ?_
  refine CM (caps:=[.pe (AA.enc x1) 0]) (xs:=[AF.enc x0]) (u:=(x0,x1,())) rfl rfl OR rfl (AB rfl) kr kr (AW (Ax (c:=AF) (v:=x0)) (AW (Ax (c:=(cdP AA)) (v:=x1)) B6)) kr hv1 ?_;refine BV (n:=11) AC 3 [p4] [p3] kr kr ?_;exact RunDS.done rfl (Ao [] trivial ⟨lv,trivial⟩)
 refine AT (b:=(!(v1==x2.2.2.1))) kr (fun hb2=>?_) (fun hb2=>?_)
 ·rw [if_pos hb2] at h
  refine AL AC [(4,.v (.int .i64 0))] [] ?_;refine AX ?_;have hq:=OI h; subst hq;exact ⟨⟨Fr 11 [(4,.v (.int .i64 0))],[]⟩,AQ,.inr rfl,[.v (.int .i64 0)],kr,kr⟩
 ·rw [Ce hb2] at h
  refine Ae ?_;refine AL AC [(4,.v (.int .i64 1))] [] ?_;refine AX ?_;have hq:=OI h; subst hq;exact ⟨⟨Fr 11 [(4,.v (.int .i64 1))],[]⟩,AQ,.inr rfl,[.v (.int .i64 1)],kr,kr⟩
def G6:List AV->Option AV:=EF DC (fun a=>BA a.1 a.2.1 a.2.2.1) DH
theorem HD:XOk 206 G6:=by
 refine AR Tryz.func206 (c:=ES) ?h2 ⟨Tryz.call206⟩ DC (fun a=>BA a.1 a.2.1 a.2.2.1) DH (fun a=>(by show 3<=11; decide)) ?h3 ?h4
 case h2=>kernel_rfl
 case h3=>intro b; kernel_rfl
 case h4=>exact fun a b h=>Gb a.1 a.2.1 a.2.2.1 b h
/- trestle/court.plain$4 -/
noncomputable def Jt:Code:=Bh Tryz.f183
def GG (x0:Ai):Option (Bool) :=
 some x0.1.2.2.2.2.2.2.1
def HQ:Cs (Ai×Unit):=(csC AF csN)
def Hg (r:Bool):AV:=cdB.enc r
theorem L4 (x0:Ai) (r:Bool) (h:GG x0=some r):Sem E0 ⟨none,false⟩ Jt ⟨Fr 6 (BN 0 (HQ.enc (x0,()))),[]⟩ fun e s'=>(e = .normal\/e = .ret)/\∃ xs,Eo E0.P s'.fr s'.hp Tryz.f183.results.toList=some xs/\Es xs=Hg r:=by
 unfold GG at h;refine BJ (CB (s1:=⟨Fr 6 [(0,AF.enc x0)],[]⟩) AQ ?_)
 let p1:Option Blk:=some ⟨10,115,[AF.enc x0],false⟩
 refine AL AC [(1,.pt 0 0 0)] [p1] ?_;refine AG ?_
 let p2:Nat×AV:=(2,.v (.bool x0.1.2.2.2.2.2.2.1))
 refine AJ (s1:=⟨Fr 6 [p2],[]⟩) ?_ ?_
 ·refine AE (n:=6) AC 4 [p2] [p1] kr ?_
  exact AI rfl (Ao [] trivial ⟨lv,trivial⟩)
 refine AX ?_;have hq:=OI h; subst hq;exact ⟨⟨Fr 6 [p2],[]⟩,AQ,.inr rfl,[.v (.bool x0.1.2.2.2.2.2.2.1)],kr,kr⟩
def N9:List AV->Option AV:=EF HQ (fun a=>GG a.1) Hg
theorem OT:XOk 183 N9:=by
 refine AR Tryz.func183 (c:=Jt) ?h2 ⟨Tryz.call183⟩ HQ (fun a=>GG a.1) Hg (fun a=>(by show 1<=6; decide)) ?h3 ?h4
 case h2=>kernel_rfl
 case h3=>intro b; kernel_rfl
 case h4=>exact fun a b h=>L4 a.1 b h
/- trestle/court.named$1 -/
noncomputable def ET:Code:=Bh Tryz.f206
def BB (x0:Ai) (x2:AD):Option (Int) :=
 (GG x0).bind fun v1 =>
 if (!(v1==x2.2.2.1))=true then
 some 0
 else
 some 1
def DD:Cs (Ai×Unit×AD×Unit):=(csC AF (csC (cdP (cdF 183 csN (fun _=>rfl))) (csC (cdP AA) csN)))
def DI (r:Int):AV:=cdI.enc r
theorem Gc (x0:Ai) (x2:AD) (r:Int) (h:BB x0 x2=some r):Sem E0 ⟨none,false⟩ ET ⟨Fr 11 (BN 0 (DD.enc (x0,(),x2,()))),[]⟩ fun e s'=>(e = .normal\/e = .ret)/\∃ xs,Eo E0.P s'.fr s'.hp Tryz.f206.results.toList=some xs/\Es xs=DI r:=by
 unfold BB at h
 let p1:Nat×AV:=(2,.pe (AA.enc x2) 0)
 refine BJ (CB (s1:=⟨Fr 11 [(0,AF.enc x0),(1,.pe (.fn 183 [] []) 0),p1],[]⟩) AQ ?_)
 let p2:Option Blk:=some ⟨10,115,[AF.enc x0],false⟩
 refine AL AC [(1,.pe (.fn 183 [] []) 0),p1,(3,.pt 0 0 0)] [p2] ?_;refine AG ?_;refine AG ?_;obtain ⟨v1,hv1,h⟩:=OB h
 let p3:Nat×AV:=(10,.v (.bool (!(v1==x2.2.2.1))))
 refine FV AC (s1:=⟨Fr 11 [p3],[]⟩) kr ?_ ?_
 ·refine BV (n:=11) AC 2 [p1,(5,.fn 183 [] []),(6,AF.enc x0)] [p2] kr kr ?_
  refine CM (caps:=[]) (xs:=[AF.enc x0]) (u:=(x0,())) rfl rfl OT rfl (AB rfl) kr kr (AW (Ax (c:=AF) (v:=x0)) B6) kr hv1 ?_;refine BV (n:=11) AC 3 [p3] [p2] kr kr ?_;exact RunDS.done rfl (Ao [] trivial ⟨lv,trivial⟩)
 refine AT (b:=(!(v1==x2.2.2.1))) kr (fun hb2=>?_) (fun hb2=>?_)
 ·rw [if_pos hb2] at h
  refine AL AC [(4,.v (.int .i64 0))] [] ?_;refine AX ?_;have hq:=OI h; subst hq;exact ⟨⟨Fr 11 [(4,.v (.int .i64 0))],[]⟩,AQ,.inr rfl,[.v (.int .i64 0)],kr,kr⟩
 ·rw [Ce hb2] at h
  refine Ae ?_;refine AL AC [(4,.v (.int .i64 1))] [] ?_;refine AX ?_;have hq:=OI h; subst hq;exact ⟨⟨Fr 11 [(4,.v (.int .i64 1))],[]⟩,AQ,.inr rfl,[.v (.int .i64 1)],kr,kr⟩
def G7:List AV->Option AV:=EF DD (fun a=>BB a.1 a.2.2.1) DI
theorem HE:XOk 206 G7:=by
 refine AR Tryz.func206 (c:=ET) ?h2 ⟨Tryz.call206⟩ DD (fun a=>BB a.1 a.2.2.1) DI (fun a=>(by show 3<=11; decide)) ?h3 ?h4
 case h2=>kernel_rfl
 case h3=>intro b; kernel_rfl
 case h4=>exact fun a b h=>Gc a.1 a.2.2.1 b h
/- trestle/court.plain$5$1 -/
noncomputable def IU:Code:=Bh Tryz.f185
def Dq (x0:(List UInt8)) (x1:AD):Option (Bool) :=
 (Ar x1.2.2.2.1 x0).bind fun v1 =>
 some v1
def GN:Cs ((List UInt8)×AD×Unit):=(csC cdS (csC (cdP AA) csN))
def GQ (r:Bool):AV:=cdB.enc r
theorem LG (x0:(List UInt8)) (x1:AD) (r:Bool) (h:Dq x0 x1=some r):Sem E0 ⟨none,false⟩ IU ⟨Fr 8 (BN 0 (GN.enc (x0,x1,()))),[]⟩ fun e s'=>(e = .normal\/e = .ret)/\∃ xs,Eo E0.P s'.fr s'.hp Tryz.f185.results.toList=some xs/\Es xs=GQ r:=by
 unfold Dq at h;refine BJ (CB (s1:=⟨Fr 8 [(0,.st x0),(1,.pe (AA.enc x1) 0)],[]⟩) AQ ?_);refine AL AC [(0,.st x0),(1,.pe (AA.enc x1) 0)] [] ?_;refine AG ?_;obtain ⟨v1,hv1,h⟩:=OB h;refine AJ (s1:=⟨Fr 8 [(3,.v (.bool v1))],[]⟩) ?_ ?_
 ·refine AE (n:=8) AC 3 [(5,.sl 1 (x1.2.2.2.1.map cdS.enc)),(6,.st x0)] [] kr ?_
  refine Av (caps:=[]) (xs:=[.sl 1 (x1.2.2.2.1.map cdS.enc),.st x0]) (u:=(x1.2.2.2.1,x0,())) rfl rfl CW rfl (AB rfl) kr kr (AW (Ax (c:=(cdL 1 cdS)) (v:=x1.2.2.2.1)) (AW (Ax (c:=cdS) (v:=x0)) B6)) (.inl kr) hv1 ?_;exact Ap AC
 refine AX ?_;have hq:=OI h; subst hq;exact ⟨⟨Fr 8 [(3,.v (.bool v1))],[]⟩,AQ,.inr rfl,[.v (.bool v1)],kr,kr⟩
def Mb:List AV->Option AV:=EF GN (fun a=>Dq a.1 a.2.1) GQ
theorem Mg:XOk 185 Mb:=by
 refine AR Tryz.func185 (c:=IU) ?h2 ⟨Tryz.call185⟩ GN (fun a=>Dq a.1 a.2.1) GQ (fun a=>(by show 2<=8; decide)) ?h3 ?h4
 case h2=>kernel_rfl
 case h3=>intro b; kernel_rfl
 case h4=>exact fun a b h=>LG a.1 a.2.1 b h
/- slices.IndexFunc[[]string,string] -/
noncomputable def BY:Code:=Bh Tryz.f90
def As (x0:(List (List UInt8))) (x1:AD):Nat->Int->Option ((Unit) ⊕ (Int))
 | 0,_=>none
 | f + 1,c1 =>
  if (decide (c1 < (x0.length:Int)))=true then
  (idx x0 c1).bind fun v3 =>
  (Dq v3 x1).bind fun v4 =>
  if v4=true then
  some (.inr c1)
  else
  As x0 x1 f (wr .i64 (c1 + 1))
  else
  some (.inl ())
def Ak (x0:(List (List UInt8))) (x1:AD):Option (Int) :=
 (As x0 x1 100000 0).bind fun r7 =>
 match r7 with
 | (.inl w8) =>
  some (-1)
 | (.inr w9) =>
  some w9
def BZ:Cs ((List (List UInt8))×AD×Unit):=(csC (cdL 1 cdS) (csC (cdF 185 (csE (cdP AA)) (fun _=>rfl)) csN))
def Ba (r:Int):AV:=cdI.enc r
theorem CK (x0:(List (List UInt8))) (x1:AD):∀ (f:Nat) (c1:Int) (r:(Unit) ⊕ (Int)),As x0 x1 f c1=some r->SemN E0 ⟨none,false⟩ (pc BY [1,0,1,0,0]) f ⟨Fr 19 [(0,.sl 1 (x0.map cdS.enc)),(1,.fn 185 [] [.pe (AA.enc x1) 0]),(7,.v (.int .i64 (x0.length:Int))),(8,.v (.int .i64 c1))],[]⟩ (fun e s=>match r with
 | (.inl w)=>e=(.exit 0)/\Wk E0 s ⟨Fr 19 [],[]⟩
 | (.inr w)=>e = .ret/\Wk E0 s ⟨Fr 19 [(4,.v (.int .i64 w))],[]⟩):=by
 intro f;induction f with
 | zero=>intro c1 r h; cases h
 | succ f ih0 =>
  intro c1 r h
  have ih:=fun (c1:Int)=>ih0 c1 r
  unfold As at h;refine D5 ?_
  let p1:Nat×AV:=(8,.v (.int .i64 c1))
  let p2:Nat×AV:=(7,.v (.int .i64 (x0.length:Int)))
  let p3:Nat×AV:=(1,.fn 185 [] [.pe (AA.enc x1) 0])
  let p4:Nat×AV:=(0,.sl 1 (x0.map cdS.enc))
  refine AL AC [p4,p3,p2,p1,(9,.v (.bool (decide (c1 < (x0.length:Int)))))] [] ?_;refine AG ?_;refine AT (b:=(decide (c1 < (x0.length:Int)))) kr (fun hb2=>?_) (fun hb2=>?_)
  ·rw [if_pos hb2] at h
   refine Ae ?_;refine AG ?_;refine Bb ?_
   let p5:Nat×AV:=(5,.v (.int .i64 c1))
   refine AL AC [p4,p3,p5,p2,p1] [] ?_;refine AG ?_;obtain ⟨v3,hv3,h⟩:=OB h;obtain ⟨v4,hv4,h⟩:=OB h;refine AJ (s1:=⟨Fr 19 [p4,p3,p5,p2,p1,(16,.v (.bool v4))],[]⟩) ?_ ?_
   ·let p6:Nat×AV:=(11,.fn 185 [] [.pe (AA.enc x1) 0])
    refine AE (n:=19) AC 3 [p4,p3,p5,p2,p1,p6,(12,.sl 1 (x0.map cdS.enc)),(13,.v (.int .i64 c1))] [] kr ?_;refine Aa AC 0 rfl (C5 (AB rfl) rfl (AN (a:= .sl 1 (x0.map cdS.enc)) (b:= .v (.int .i64 c1)) kr kr (Gi (e:=cdS.enc) (el:=9) (k:=1) (ki:= .i64) kr kr hv3))) ?_;refine AE (n:=19) AC 1 [p4,p3,p5,p2,p1,p6,(15,.st v3)] [] kr ?_;refine Av (caps:=[.pe (AA.enc x1) 0]) (xs:=[.st v3]) (u:=(v3,x1,())) rfl rfl Mg rfl (AB rfl) kr kr (AW (Ax (c:=cdS) (v:=v3)) (AW (Ax (c:=(cdP AA)) (v:=x1)) B6)) (.inl kr) hv4 ?_;exact AI rfl AQ
   refine AT (b:=v4) kr (fun hb5=>?_) (fun hb5=>?_)
   ·rw [if_pos hb5] at h
    refine AL AC [(4,.v (.int .i64 c1))] [] ?_;refine AX ?_;have hq:=OI h; subst hq;exact ⟨rfl,AQ⟩
   ·rw [Ce hb5] at h
    refine Ae ?_
    let p7:Nat×AV:=(8,.v (.int .i64 (wr .i64 (c1 + 1))))
    refine Ep AC [p4,p3,p2,p7] [] ?_;exact CF (s1:=⟨Fr 19 [p4,p3,p2,p7],[]⟩) AQ (ih (wr .i64 (c1 + 1)) h)
  ·rw [Ce hb2] at h
   refine Ew ?_;have hq:=OI h; subst hq;exact ⟨rfl,AQ⟩
theorem Dr (x0:(List (List UInt8))) (x1:AD) (r:Int) (h:Ak x0 x1=some r):Sem E0 ⟨none,false⟩ BY ⟨Fr 19 (BN 0 (BZ.enc (x0,x1,()))),[]⟩ fun e s'=>(e = .normal\/e = .ret)/\∃ xs,Eo E0.P s'.fr s'.hp Tryz.f90.results.toList=some xs/\Es xs=Ba r:=by
 unfold Ak at h
 let p1:Nat×AV:=(1,.fn 185 [] [.pe (AA.enc x1) 0])
 let p2:Nat×AV:=(0,.sl 1 (x0.map cdS.enc))
 refine BJ (CB (s1:=⟨Fr 19 [p2,p1],[]⟩) AQ ?_);refine AL AC [p2,p1] [] ?_;refine AG ?_;refine AG ?_
 let p3:Nat×AV:=(8,.v (.int .i64 0))
 let p4:Nat×AV:=(7,.v (.int .i64 (x0.length:Int)))
 refine AJ (s1:=⟨Fr 19 [p2,p1,p4,p3],[]⟩) ?_ ?_
 ·refine AE (n:=19) AC 1 [p2,p1,(6,.sl 1 (x0.map cdS.enc))] [] kr ?_
  refine Aa AC 0 rfl (C5 (AB rfl) rfl (Dd (a:= .sl 1 (x0.map cdS.enc)) kr (C1 (el:=9) kr))) ?_;exact Ap AC
 refine Bb ?_;obtain ⟨r7,hr7,h⟩:=OB h;refine Ey (n:=100000) ?_;rcases r7 with w8 | w9
 ·try dsimp only at h
  refine Cq (CF (s1:=⟨Fr 19 [p2,p1,p4,p3],[]⟩) AQ (CK x0 x1 _ 0 _ hr7)) ?_;refine AL AC [(4,.v (.int .i64 (-1)))] [] ?_;refine AX ?_;have hq:=OI h; subst hq;exact ⟨⟨Fr 19 [(4,.v (.int .i64 (-1)))],[]⟩,AQ,.inr rfl,[.v (.int .i64 (-1))],kr,kr⟩
 ·try dsimp only at h
  refine Cq (CF (s1:=⟨Fr 19 [p2,p1,p4,p3],[]⟩) AQ (CK x0 x1 _ 0 _ hr7)) ?_;have hq:=OI h; subst hq;exact ⟨⟨Fr 19 [(4,.v (.int .i64 w9))],[]⟩,AQ,.inr rfl,[.v (.int .i64 w9)],kr,kr⟩
def D3:List AV->Option AV:=EF BZ (fun a=>Ak a.1 a.2.1) Ba
theorem D4:XOk 90 D3:=by
 refine AR Tryz.func90 (c:=BY) ?h2 ⟨Tryz.call90⟩ BZ (fun a=>Ak a.1 a.2.1) Ba (fun a=>(by show 2<=19; decide)) ?h3 ?h4
 case h2=>kernel_rfl
 case h3=>intro b; kernel_rfl
 case h4=>exact fun a b h=>Dr a.1 a.2.1 b h
/- slices.ContainsFunc[[]string,string] -/
noncomputable def CI:Code:=Bh Tryz.f36
def AU (x0:(List (List UInt8))) (x1:AD):Option (Bool) :=
 (Ak x0 x1).bind fun v1 =>
 some (decide (v1≥0))
def BP:Cs ((List (List UInt8))×AD×Unit):=(csC (cdL 1 cdS) (csC (cdF 185 (csE (cdP AA)) (fun _=>rfl)) csN))
def BQ (r:Bool):AV:=cdB.enc r
theorem Db (x0:(List (List UInt8))) (x1:AD) (r:Bool) (h:AU x0 x1=some r):Sem E0 ⟨none,false⟩ CI ⟨Fr 9 (BN 0 (BP.enc (x0,x1,()))),[]⟩ fun e s'=>(e = .normal\/e = .ret)/\∃ xs,Eo E0.P s'.fr s'.hp Tryz.f36.results.toList=some xs/\Es xs=BQ r:=by
 unfold AU at h
 let p1:Nat×AV:=(1,.fn 185 [] [.pe (AA.enc x1) 0])
 refine BJ (CB (s1:=⟨Fr 9 [(0,.sl 1 (x0.map cdS.enc)),p1],[]⟩) AQ ?_);refine AL AC [(0,.sl 1 (x0.map cdS.enc)),p1] [] ?_;refine AG ?_;obtain ⟨v1,hv1,h⟩:=OB h
 let p2:Nat×AV:=(4,.v (.bool (decide (v1≥0))))
 refine AJ (s1:=⟨Fr 9 [p2],[]⟩) ?_ ?_
 ·refine AE (n:=9) AC 2 [(5,.sl 1 (x0.map cdS.enc)),(6,.fn 185 [] [.pe (AA.enc x1) 0])] [] kr ?_
  refine Av (caps:=[]) (xs:=[.sl 1 (x0.map cdS.enc),.fn 185 [] [.pe (AA.enc x1) 0]]) (u:=(x0,x1,())) rfl rfl D4 rfl (AB rfl) kr kr (AW (Ax (c:=(cdL 1 cdS)) (v:=x0)) (AW (Sm.fn (PJ (Ax (c:=(cdP AA)) (v:=x1)))) B6)) (.inl kr) hv1 ?_;exact Ap AC
 refine AX ?_;have hq:=OI h; subst hq;exact ⟨⟨Fr 9 [p2],[]⟩,AQ,.inr rfl,[.v (.bool (decide (v1≥0)))],kr,kr⟩
def Dn:List AV->Option AV:=EF BP (fun a=>AU a.1 a.2.1) BQ
theorem Do:XOk 36 Dn:=by
 refine AR Tryz.func36 (c:=CI) ?h2 ⟨Tryz.call36⟩ BP (fun a=>AU a.1 a.2.1) BQ (fun a=>(by show 2<=9; decide)) ?h3 ?h4
 case h2=>kernel_rfl
 case h3=>intro b; kernel_rfl
 case h4=>exact fun a b h=>Db a.1 a.2.1 b h
/- trestle/court.plain$5 -/
noncomputable def Ju:Code:=Bh Tryz.f184
def FJ (x0:Ai) (x1:AD):Option (Bool) :=
 (AU x0.1.2.2.2.2.2.2.2.2 x1).bind fun v1 =>
 some v1
def HS:Cs (Ai×AD×Unit):=(csC AF (csC (cdP AA) csN))
def Hh (r:Bool):AV:=cdB.enc r
theorem L5 (x0:Ai) (x1:AD) (r:Bool) (h:FJ x0 x1=some r):Sem E0 ⟨none,false⟩ Ju ⟨Fr 9 (BN 0 (HS.enc (x0,x1,()))),[]⟩ fun e s'=>(e = .normal\/e = .ret)/\∃ xs,Eo E0.P s'.fr s'.hp Tryz.f184.results.toList=some xs/\Es xs=Hh r:=by
 unfold FJ at h;refine BJ (CB (s1:=⟨Fr 9 [(0,AF.enc x0),(1,.pe (AA.enc x1) 0)],[]⟩) AQ ?_)
 let p1:Option Blk:=some ⟨10,115,[AF.enc x0],false⟩
 refine AL AC [(1,.pe (AA.enc x1) 0),(2,.pt 0 0 0)] [p1] ?_;refine AG ?_;obtain ⟨v1,hv1,h⟩:=OB h
 let p2:Nat×AV:=(3,.v (.bool v1))
 refine AJ (s1:=⟨Fr 9 [p2],[]⟩) ?_ ?_
 ·refine AE (n:=9) AC 4 [(6,.sl 1 (x0.1.2.2.2.2.2.2.2.2.map cdS.enc)),(7,.fn 185 [] [.pe (AA.enc x1) 0])] [p1] kr ?_
  refine Av (caps:=[]) (xs:=[.sl 1 (x0.1.2.2.2.2.2.2.2.2.map cdS.enc),.fn 185 [] [.pe (AA.enc x1) 0]]) (u:=(x0.1.2.2.2.2.2.2.2.2,x1,())) rfl rfl Do rfl (AB rfl) kr kr (AW (Ax (c:=(cdL 1 cdS)) (v:=x0.1.2.2.2.2.2.2.2.2)) (AW (Sm.fn (PJ (Ax (c:=(cdP AA)) (v:=x1)))) B6)) (.inl kr) hv1 ?_;refine AE (n:=9) AC 1 [p2] [p1] kr ?_;exact AI rfl (Ao [] trivial ⟨lv,trivial⟩)
 refine AX ?_;have hq:=OI h; subst hq;exact ⟨⟨Fr 9 [p2],[]⟩,AQ,.inr rfl,[.v (.bool v1)],kr,kr⟩
def OA:List AV->Option AV:=EF HS (fun a=>FJ a.1 a.2.1) Hh
theorem OU:XOk 184 OA:=by
 refine AR Tryz.func184 (c:=Ju) ?h2 ⟨Tryz.call184⟩ HS (fun a=>FJ a.1 a.2.1) Hh (fun a=>(by show 2<=9; decide)) ?h3 ?h4
 case h2=>kernel_rfl
 case h3=>intro b; kernel_rfl
 case h4=>exact fun a b h=>L5 a.1 a.2.1 b h
/- trestle/court.named$1 -/
noncomputable def EU:Code:=Bh Tryz.f206
def A5 (x0:Ai) (x1:AD) (x2:AD):Option (Int) :=
 (FJ x0 x1).bind fun v1 =>
 if (!(v1==x2.2.2.1))=true then
 some 0
 else
 some 1
def DE:Cs (Ai×AD×AD×Unit):=(csC AF (csC (cdP (cdF 184 (csE (cdP AA)) (fun _=>rfl))) (csC (cdP AA) csN)))
def DJ (r:Int):AV:=cdI.enc r
theorem Gd (x0:Ai) (x1:AD) (x2:AD) (r:Int) (h:A5 x0 x1 x2=some r):Sem E0 ⟨none,false⟩ EU ⟨Fr 11 (BN 0 (DE.enc (x0,x1,x2,()))),[]⟩ fun e s'=>(e = .normal\/e = .ret)/\∃ xs,Eo E0.P s'.fr s'.hp Tryz.f206.results.toList=some xs/\Es xs=DJ r:=by
 unfold A5 at h
 let p1:Nat×AV:=(2,.pe (AA.enc x2) 0)
 let p2:Nat×AV:=(1,.pe (.fn 184 [] [.pe (AA.enc x1) 0]) 0)
 refine BJ (CB (s1:=⟨Fr 11 [(0,AF.enc x0),p2,p1],[]⟩) AQ ?_)
 let p3:Option Blk:=some ⟨10,115,[AF.enc x0],false⟩
 refine AL AC [p2,p1,(3,.pt 0 0 0)] [p3] ?_;refine AG ?_;refine AG ?_;obtain ⟨v1,hv1,h⟩:=OB h
 let p4:Nat×AV:=(10,.v (.bool (!(v1==x2.2.2.1))))
 refine FV AC (s1:=⟨Fr 11 [p4],[]⟩) kr ?_ ?_
 ·refine BV (n:=11) AC 2 [p1,(5,.fn 184 [] [.pe (AA.enc x1) 0]),(6,AF.enc x0)] [p3] kr kr ?_
  refine CM (caps:=[.pe (AA.enc x1) 0]) (xs:=[AF.enc x0]) (u:=(x0,x1,())) rfl rfl OU rfl (AB rfl) kr kr (AW (Ax (c:=AF) (v:=x0)) (AW (Ax (c:=(cdP AA)) (v:=x1)) B6)) kr hv1 ?_;refine BV (n:=11) AC 3 [p4] [p3] kr kr ?_;exact RunDS.done rfl (Ao [] trivial ⟨lv,trivial⟩)
 refine AT (b:=(!(v1==x2.2.2.1))) kr (fun hb2=>?_) (fun hb2=>?_)
 ·rw [if_pos hb2] at h
  refine AL AC [(4,.v (.int .i64 0))] [] ?_;refine AX ?_;have hq:=OI h; subst hq;exact ⟨⟨Fr 11 [(4,.v (.int .i64 0))],[]⟩,AQ,.inr rfl,[.v (.int .i64 0)],kr,kr⟩
 ·rw [Ce hb2] at h
  refine Ae ?_;refine AL AC [(4,.v (.int .i64 1))] [] ?_;refine AX ?_;have hq:=OI h; subst hq;exact ⟨⟨Fr 11 [(4,.v (.int .i64 1))],[]⟩,AQ,.inr rfl,[.v (.int .i64 1)],kr,kr⟩
def G8:List AV->Option AV:=EF DE (fun a=>A5 a.1 a.2.1 a.2.2.1) DJ
theorem HF:XOk 206 G8:=by
 refine AR Tryz.func206 (c:=EU) ?h2 ⟨Tryz.call206⟩ DE (fun a=>A5 a.1 a.2.1 a.2.2.1) DJ (fun a=>(by show 3<=11; decide)) ?h3 ?h4
 case h2=>kernel_rfl
 case h3=>intro b; kernel_rfl
 case h4=>exact fun a b h=>Gd a.1 a.2.1 a.2.2.1 b h
/- trestle/court.plain$6 -/
noncomputable def Jv:Code:=Bh Tryz.f186
def FK (x0:Ai) (x1:AD):Option (Bool) :=
 (Ar x1.2.2.2.1 x0.1.2.2.1).bind fun v1 =>
 some v1
def HT:Cs (Ai×AD×Unit):=(csC AF (csC (cdP AA) csN))
def Hi (r:Bool):AV:=cdB.enc r
theorem L6 (x0:Ai) (x1:AD) (r:Bool) (h:FK x0 x1=some r):Sem E0 ⟨none,false⟩ Jv ⟨Fr 10 (BN 0 (HT.enc (x0,x1,()))),[]⟩ fun e s'=>(e = .normal\/e = .ret)/\∃ xs,Eo E0.P s'.fr s'.hp Tryz.f186.results.toList=some xs/\Es xs=Hi r:=by
 unfold FK at h;refine BJ (CB (s1:=⟨Fr 10 [(0,AF.enc x0),(1,.pe (AA.enc x1) 0)],[]⟩) AQ ?_)
 let p1:Option Blk:=some ⟨10,115,[AF.enc x0],false⟩
 refine AL AC [(1,.pe (AA.enc x1) 0),(2,.pt 0 0 0)] [p1] ?_;refine AG ?_;obtain ⟨v1,hv1,h⟩:=OB h
 let p2:Nat×AV:=(3,.v (.bool v1))
 refine AJ (s1:=⟨Fr 10 [p2],[]⟩) ?_ ?_
 ·refine AE (n:=10) AC 5 [(5,.sl 1 (x1.2.2.2.1.map cdS.enc)),(8,.st x0.1.2.2.1)] [p1] kr ?_
  refine Av (caps:=[]) (xs:=[.sl 1 (x1.2.2.2.1.map cdS.enc),.st x0.1.2.2.1]) (u:=(x1.2.2.2.1,x0.1.2.2.1,())) rfl rfl CW rfl (AB rfl) kr kr (AW (Ax (c:=(cdL 1 cdS)) (v:=x1.2.2.2.1)) (AW (Ax (c:=cdS) (v:=x0.1.2.2.1)) B6)) (.inl kr) hv1 ?_;refine AE (n:=10) AC 1 [p2] [p1] kr ?_;exact AI rfl (Ao [] trivial ⟨lv,trivial⟩)
 refine AX ?_;have hq:=OI h; subst hq;exact ⟨⟨Fr 10 [p2],[]⟩,AQ,.inr rfl,[.v (.bool v1)],kr,kr⟩
def OC:List AV->Option AV:=EF HT (fun a=>FK a.1 a.2.1) Hi
theorem OV:XOk 186 OC:=by
 refine AR Tryz.func186 (c:=Jv) ?h2 ⟨Tryz.call186⟩ HT (fun a=>FK a.1 a.2.1) Hi (fun a=>(by show 2<=10; decide)) ?h3 ?h4
 case h2=>kernel_rfl
 case h3=>intro b; kernel_rfl
 case h4=>exact fun a b h=>L6 a.1 a.2.1 b h
/- trestle/court.named$1 -/
noncomputable def EV:Code:=Bh Tryz.f206
def A6 (x0:Ai) (x1:AD) (x2:AD):Option (Int) :=
 (FK x0 x1).bind fun v1 =>
 if (!(v1==x2.2.2.1))=true then
 some 0
 else
 some 1
def DF:Cs (Ai×AD×AD×Unit):=(csC AF (csC (cdP (cdF 186 (csE (cdP AA)) (fun _=>rfl))) (csC (cdP AA) csN)))
def DK (r:Int):AV:=cdI.enc r
theorem Ge (x0:Ai) (x1:AD) (x2:AD) (r:Int) (h:A6 x0 x1 x2=some r):Sem E0 ⟨none,false⟩ EV ⟨Fr 11 (BN 0 (DF.enc (x0,x1,x2,()))),[]⟩ fun e s'=>(e = .normal\/e = .ret)/\∃ xs,Eo E0.P s'.fr s'.hp Tryz.f206.results.toList=some xs/\Es xs=DK r:=by
 unfold A6 at h
 let p1:Nat×AV:=(2,.pe (AA.enc x2) 0)
 let p2:Nat×AV:=(1,.pe (.fn 186 [] [.pe (AA.enc x1) 0]) 0)
 refine BJ (CB (s1:=⟨Fr 11 [(0,AF.enc x0),p2,p1],[]⟩) AQ ?_)
 let p3:Option Blk:=some ⟨10,115,[AF.enc x0],false⟩
 refine AL AC [p2,p1,(3,.pt 0 0 0)] [p3] ?_;refine AG ?_;refine AG ?_;obtain ⟨v1,hv1,h⟩:=OB h
 let p4:Nat×AV:=(10,.v (.bool (!(v1==x2.2.2.1))))
 refine FV AC (s1:=⟨Fr 11 [p4],[]⟩) kr ?_ ?_
 ·refine BV (n:=11) AC 2 [p1,(5,.fn 186 [] [.pe (AA.enc x1) 0]),(6,AF.enc x0)] [p3] kr kr ?_
  refine CM (caps:=[.pe (AA.enc x1) 0]) (xs:=[AF.enc x0]) (u:=(x0,x1,())) rfl rfl OV rfl (AB rfl) kr kr (AW (Ax (c:=AF) (v:=x0)) (AW (Ax (c:=(cdP AA)) (v:=x1)) B6)) kr hv1 ?_;refine BV (n:=11) AC 3 [p4] [p3] kr kr ?_;exact RunDS.done rfl (Ao [] trivial ⟨lv,trivial⟩)
 refine AT (b:=(!(v1==x2.2.2.1))) kr (fun hb2=>?_) (fun hb2=>?_)
 ·rw [if_pos hb2] at h
  refine AL AC [(4,.v (.int .i64 0))] [] ?_;refine AX ?_;have hq:=OI h; subst hq;exact ⟨⟨Fr 11 [(4,.v (.int .i64 0))],[]⟩,AQ,.inr rfl,[.v (.int .i64 0)],kr,kr⟩
 ·rw [Ce hb2] at h
  refine Ae ?_;refine AL AC [(4,.v (.int .i64 1))] [] ?_;refine AX ?_;have hq:=OI h; subst hq;exact ⟨⟨Fr 11 [(4,.v (.int .i64 1))],[]⟩,AQ,.inr rfl,[.v (.int .i64 1)],kr,kr⟩
def G9:List AV->Option AV:=EF DF (fun a=>A6 a.1 a.2.1 a.2.2.1) DK
theorem HG:XOk 206 G9:=by
 refine AR Tryz.func206 (c:=EV) ?h2 ⟨Tryz.call206⟩ DF (fun a=>A6 a.1 a.2.1 a.2.2.1) DK (fun a=>(by show 3<=11; decide)) ?h3 ?h4
 case h2=>kernel_rfl
 case h3=>intro b; kernel_rfl
 case h4=>exact fun a b h=>Ge a.1 a.2.1 a.2.2.1 b h
end Go.Proofs.YtlalcoehgkmhlaaGreatDoor
