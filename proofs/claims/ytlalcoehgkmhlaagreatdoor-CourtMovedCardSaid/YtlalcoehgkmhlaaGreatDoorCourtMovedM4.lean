/- Lemmas for the proof. -/
import Derived.Test.YtlalcoehgkmhlaaGreatDoorCourtMovedM1
import Derived.Test.YtlalcoehgkmhlaaGreatDoorCourtMovedM2
import Derived.Test.YtlalcoehgkmhlaaGreatDoorCourtMovedM3
import Derived.Laws.BytesArg
set_option maxHeartbeats 4000000
set_option maxRecDepth 100000
namespace Go.Proofs.YtlalcoehgkmhlaaGreatDoor
open Go.RowKit
/- trestle/trestlelaw03.Made -/
noncomputable def Cj:Code:=Bo Tryz.f19
def GY (x0:(List (Int×Int×Int×Bool×Bool))) (c2:(List AE)) (c3:(List UInt8)) (c4:Int) (v6:(Int×Int×Int×Bool×Bool)):Option (((List (List UInt8)))) :=
 if ((Du .u8 v6.2.2.1 4)!=0)=true then
 if (Do ((wr .u8 (v6.2.2.1 + 1)).tmod 4) (([97,98,99,100]:List UInt8).length:Int) ([97,98,99,100]:List UInt8).length)=true then
 if (Do 0 (1:Int) ((([97,98,99,100]:List UInt8).take (([97,98,99,100]:List UInt8).length:Int).toNat).drop ((wr .u8 (v6.2.2.1 + 1)).tmod 4).toNat).length)=true then
 if (Fe 16 ([((((([97,98,99,100]:List UInt8).take (([97,98,99,100]:List UInt8).length:Int).toNat).drop (v6.2.2.1.tmod 4).toNat).take (1:Int).toNat).drop (0:Int).toNat)].length + 1))=true then
 some ([((((([97,98,99,100]:List UInt8).take (([97,98,99,100]:List UInt8).length:Int).toNat).drop (v6.2.2.1.tmod 4).toNat).take (1:Int).toNat).drop (0:Int).toNat)]++[((((([97,98,99,100]:List UInt8).take (([97,98,99,100]:List UInt8).length:Int).toNat).drop ((wr .u8 (v6.2.2.1 + 1)).tmod 4).toNat).take (1:Int).toNat).drop (0:Int).toNat)])
 else none
 else none
 else none
 else
 some [((((([97,98,99,100]:List UInt8).take (([97,98,99,100]:List UInt8).length:Int).toNat).drop (v6.2.2.1.tmod 4).toNat).take (1:Int).toNat).drop (0:Int).toNat)]
def FZ (x0:(List (Int×Int×Int×Bool×Bool))) (c3:(List UInt8)) (c4:Int) (j27:(List AE)×Int×Int×Int×Bool×Bool×Int×(List UInt8)×Bool×Int×(List (List UInt8))×Bool):Option (((List AE)×Int×Int×Int×Bool×Bool×Int×(List UInt8)×Bool×Int×(List (List UInt8)))) :=
 if j27.2.2.2.2.2.2.2.2.2.2.2=true then
 some (j27.1,j27.2.1,j27.2.2.1,j27.2.2.2.1,j27.2.2.2.2.1,j27.2.2.2.2.2.1,j27.2.2.2.2.2.2.1,c3,j27.2.2.2.2.2.2.2.2.1,j27.2.2.2.2.2.2.2.2.2.1,j27.2.2.2.2.2.2.2.2.2.2.1)
 else
 some (j27.1,j27.2.1,j27.2.2.1,j27.2.2.2.1,j27.2.2.2.2.1,j27.2.2.2.2.2.1,j27.2.2.2.2.2.2.1,j27.2.2.2.2.2.2.2.1,j27.2.2.2.2.2.2.2.2.1,j27.2.2.2.2.2.2.2.2.2.1,j27.2.2.2.2.2.2.2.2.2.2.1)
def Ii (x0:(List (Int×Int×Int×Bool×Bool))) (c3:(List UInt8)) (c4:Int) (r40:(List AE)×Int×Int×Int×Bool×Bool×Int×(List UInt8)×Bool×Int×(List (List UInt8))):Option ((Bool)) :=
 if (r40.2.2.2.2.2.2.1==6)=true then
 some (r40.2.2.2.2.2.2.1==6)
 else
 some (r40.2.2.2.2.2.2.1==7)
def Ik (x0:(List (Int×Int×Int×Bool×Bool))) (c3:(List UInt8)) (c4:Int) (r40:(List AE)×Int×Int×Int×Bool×Bool×Int×(List UInt8)×Bool×Int×(List (List UInt8))):Option (((List AE)×Int×(List UInt8)×Bool×Int)) :=
 if (r40.2.2.2.2.2.2.1==10)=true then
 some (r40.1,r40.2.2.2.2.2.2.1,r40.2.2.2.2.2.2.2.1,r40.2.2.2.2.2.2.2.2.1,(wr .i64 (r40.2.2.1.tmod 64)))
 else
 some (r40.1,r40.2.2.2.2.2.2.1,r40.2.2.2.2.2.2.2.1,r40.2.2.2.2.2.2.2.2.1,r40.2.2.2.2.2.2.2.2.2.1)
def Ij (x0:(List (Int×Int×Int×Bool×Bool))) (c3:(List UInt8)) (c4:Int) (r40:(List AE)×Int×Int×Int×Bool×Bool×Int×(List UInt8)×Bool×Int×(List (List UInt8))) (r1722:Bool):Option (((List AE)×Int×(List UInt8)×Bool×(List (List UInt8))×Int)) :=
 if r1722=true then
 some (r40.1,r40.2.2.2.2.2.2.1,r40.2.2.2.2.2.2.2.1,r40.2.2.2.2.1,r40.2.2.2.2.2.2.2.2.2.2,r40.2.2.2.2.2.2.2.2.2.1)
 else
 (Ik x0 c3 c4 r40).bind fun r2056 =>
 some (r2056.1,r2056.2.1,r2056.2.2.1,r2056.2.2.2.1,[],r2056.2.2.2.2)
def Ih (x0:(List (Int×Int×Int×Bool×Bool))) (c3:(List UInt8)) (c4:Int) (r40:(List AE)×Int×Int×Int×Bool×Bool×Int×(List UInt8)×Bool×Int×(List (List UInt8))):Option (((List AE)×Int×(List UInt8)×Bool×(List (List UInt8))×Int)) :=
 if (r40.2.2.2.2.2.2.1==5)=true then
 some (r40.1,r40.2.2.2.2.2.2.1,r40.2.2.2.2.2.2.2.1,r40.2.2.2.2.1,[],r40.2.2.2.2.2.2.2.2.2.1)
 else
 (Ii x0 c3 c4 r40).bind fun r1722 =>
 (Ij x0 c3 c4 r40 r1722).bind fun r2057 =>
 some (r2057.1,r2057.2.1,r2057.2.2.1,r2057.2.2.2.1,r2057.2.2.2.2.1,r2057.2.2.2.2.2)
def JB (x0:(List (Int×Int×Int×Bool×Bool))) (c3:(List UInt8)) (c4:Int) (r40:(List AE)×Int×Int×Int×Bool×Bool×Int×(List UInt8)×Bool×Int×(List (List UInt8))):Option (((List AE)×Int×(List UInt8)×Bool×(List (List UInt8))×Int)) :=
 if (r40.2.2.2.2.2.2.1==4)=true then
 some (r40.1,r40.2.2.2.2.2.2.1,r40.2.2.2.2.2.2.2.1,r40.2.2.2.2.1,[],(wr .i64 (1 + (wr .i64 (r40.2.2.1.tmod 2)))))
 else
 (Ih x0 c3 c4 r40).bind fun r2058 =>
 some (r2058.1,r2058.2.1,r2058.2.2.1,r2058.2.2.2.1,r2058.2.2.2.2.1,r2058.2.2.2.2.2)
def GZ (x0:(List (Int×Int×Int×Bool×Bool))) (c3:(List UInt8)) (c4:Int) (r40:(List AE)×Int×Int×Int×Bool×Bool×Int×(List UInt8)×Bool×Int×(List (List UInt8))):Option (((List AE)×(List UInt8)×Int×(List UInt8)×Bool×(List (List UInt8))×Int)) :=
 if (r40.2.2.2.2.2.2.1==1)=true then
 (idx r40.2.2.2.2.2.2.2.2.2.2 0).bind fun v42 =>
 some (r40.1,v42,r40.2.2.2.2.2.2.1,r40.2.2.2.2.2.2.2.1,r40.2.2.2.2.2.2.2.2.1,r40.2.2.2.2.2.2.2.2.2.2,r40.2.2.2.2.2.2.2.2.2.1)
 else
 (JB x0 c3 c4 r40).bind fun r2059 =>
 some (r2059.1,c3,r2059.2.1,r2059.2.2.1,r2059.2.2.2.1,r2059.2.2.2.2.1,r2059.2.2.2.2.2)
def D7 (x0:(List (Int×Int×Int×Bool×Bool))):Nat->(List AE)->(List UInt8)->Int->Option (((List AE)))
 | 0,_,_,_=>none
 | f + 1,c2,c3,c4 =>
  if (decide (c4 < (((x0.take (mnI (x0.length:Int) 8).toNat).drop (0:Int).toNat).length:Int)))=true then
  (idx ((x0.take (mnI (x0.length:Int) 8).toNat).drop (0:Int).toNat) c4).bind fun v6 =>
  if (Do (v6.2.2.1.tmod 4) (([97,98,99,100]:List UInt8).length:Int) ([97,98,99,100]:List UInt8).length)=true then
  if (Do 0 (1:Int) ((([97,98,99,100]:List UInt8).take (([97,98,99,100]:List UInt8).length:Int).toNat).drop (v6.2.2.1.tmod 4).toNat).length)=true then
  (GY x0 c2 c3 c4 v6).bind fun r14 =>
  (if v6.2.2.2.2=true then some (c2,v6.1,v6.2.1,v6.2.2.1,v6.2.2.2.1,true,(wr .u8 (1 + (v6.1.tmod 10))),[],false,0,r14,((wr .u8 (1 + (v6.1.tmod 10)))!=1)) else some (c2,v6.1,v6.2.1,v6.2.2.1,v6.2.2.2.1,false,(wr .u8 (1 + (v6.1.tmod 10))),[],false,0,r14,false)).bind fun j27 =>
  (FZ x0 c3 c4 j27).bind fun r40 =>
  (GZ x0 c3 c4 r40).bind fun r2060 =>
  if (Fe 64 (r2060.1.length + 1))=true then
  D7 x0 f (r2060.1++[r2060.2.2]) r2060.2.1 (wr .i64 (c4 + 1))
  else none
  else none
  else none
  else
  some c2
def Ht (x0:(List (Int×Int×Int×Bool×Bool))):Option ((List AE)) :=
 if (Do 0 (mnI (x0.length:Int) 8) x0.length)=true then
 (D7 x0 100000 [] [] 0).bind fun r2064 =>
 some r2064
 else none
def K4:Cs (((List (Int×Int×Int×Bool×Bool)))×Unit):=(csC (cdL 5 (cdA (csC (cdK .u8) (csC (cdK .u8) (csC (cdK .u8) (csC cdB (csE cdB))))) (fun _=>rfl))) csN)
theorem MP (x0:(List (Int×Int×Int×Bool×Bool))) (c2:(List AE)) (c3:(List UInt8)) (c4:Int) (v6:(Int×Int×Int×Bool×Bool)) (r:((List (List UInt8)))) (h:GY x0 c2 c3 c4 v6=some r):Sem E0 ⟨none,false⟩ (pc Cj [1,1,1,0,1,0,0,1,1,0,0,1,1,1,0,1]) ⟨Fr 98 [(3,hd 0 (c2.map AA.enc)),(4,.st c3),(6,.pt 1 0 0),(7,.pt 2 0 0),(8,hd 3 ([((((([97,98,99,100]:List UInt8).take (([97,98,99,100]:List UInt8).length:Int).toNat).drop (v6.2.2.1.tmod 4).toNat).take (1:Int).toNat).drop (0:Int).toNat)].map cdS.enc)),(13,.sl 5 (((x0.take (mnI (x0.length:Int) 8).toNat).drop (0:Int).toNat).map (cdA (csC (cdK .u8) (csC (cdK .u8) (csC (cdK .u8) (csC cdB (csE cdB))))) (fun _=>rfl)).enc)),(14,.v (.int .i64 (((x0.take (mnI (x0.length:Int) 8).toNat).drop (0:Int).toNat).length:Int))),(15,.v (.int .i64 c4)),(33,.v (.bool ((Du .u8 v6.2.2.1 4)!=0)))],[mk 5 60 (c2.map AA.enc),some ⟨5,107,[.ag [.v (.int .u8 v6.1),.v (.int .u8 v6.2.1),.v (.int .u8 v6.2.2.1),.v (.bool v6.2.2.2.1),.v (.bool v6.2.2.2.2)]],false⟩,some ⟨5,60,[.ag [.v (.int .u8 (wr .u8 (1 + (v6.1.tmod 10)))),.st [],.v (.bool false),.e0,.v (.int .i64 0)]],false⟩,mk 1 9 ([((((([97,98,99,100]:List UInt8).take (([97,98,99,100]:List UInt8).length:Int).toNat).drop (v6.2.2.1.tmod 4).toNat).take (1:Int).toNat).drop (0:Int).toNat)].map cdS.enc)]⟩ (fun e s=>e = .normal/\Wk E0 s ⟨Fr 98 [(3,hd 0 (c2.map AA.enc)),(4,.st c3),(6,.pt 1 0 0),(7,.pt 2 0 0),(8,hd 3 (r.map cdS.enc)),(13,.sl 5 (((x0.take (mnI (x0.length:Int) 8).toNat).drop (0:Int).toNat).map (cdA (csC (cdK .u8) (csC (cdK .u8) (csC (cdK .u8) (csC cdB (csE cdB))))) (fun _=>rfl)).enc)),(14,.v (.int .i64 (((x0.take (mnI (x0.length:Int) 8).toNat).drop (0:Int).toNat).length:Int))),(15,.v (.int .i64 c4))],[mk 5 60 (c2.map AA.enc),some ⟨5,107,[.ag [.v (.int .u8 v6.1),.v (.int .u8 v6.2.1),.v (.int .u8 v6.2.2.1),.v (.bool v6.2.2.2.1),.v (.bool v6.2.2.2.2)]],false⟩,some ⟨5,60,[.ag [.v (.int .u8 (wr .u8 (1 + (v6.1.tmod 10)))),.st [],.v (.bool false),.e0,.v (.int .i64 0)]],false⟩,mk 1 9 (r.map cdS.enc)]⟩):=by
 unfold GY at h;refine AW (b:=((Du .u8 v6.2.2.1 4)!=0)) kr (fun hb9=>?_) (fun hb9=>?_)
 ·rw [if_pos hb9] at h
  by_cases hk10:(Do ((wr .u8 (v6.2.2.1 + 1)).tmod 4) (([97,98,99,100]:List UInt8).length:Int) ([97,98,99,100]:List UInt8).length)=true
  case neg=>rw [if_neg hk10] at h; cases h
  rw [if_pos hk10] at h;by_cases hk11:(Do 0 (1:Int) ((([97,98,99,100]:List UInt8).take (([97,98,99,100]:List UInt8).length:Int).toNat).drop ((wr .u8 (v6.2.2.1 + 1)).tmod 4).toNat).length)=true
  case neg=>rw [if_neg hk11] at h; cases h
  rw [if_pos hk11] at h;by_cases hk12:(Fe 16 ([((((([97,98,99,100]:List UInt8).take (([97,98,99,100]:List UInt8).length:Int).toNat).drop (v6.2.2.1.tmod 4).toNat).take (1:Int).toNat).drop (0:Int).toNat)].length + 1))=true
  case neg=>rw [if_neg hk12] at h; cases h
  rw [if_pos hk12] at h
  let p1:Option Blk:=mk 1 9 (([((((([97,98,99,100]:List UInt8).take (([97,98,99,100]:List UInt8).length:Int).toNat).drop (v6.2.2.1.tmod 4).toNat).take (1:Int).toNat).drop (0:Int).toNat)]++[((((([97,98,99,100]:List UInt8).take (([97,98,99,100]:List UInt8).length:Int).toNat).drop ((wr .u8 (v6.2.2.1 + 1)).tmod 4).toNat).take (1:Int).toNat).drop (0:Int).toNat)]).map cdS.enc)
  let p2:Option Blk:=some ⟨5,60,[.ag [.v (.int .u8 (wr .u8 (1 + (v6.1.tmod 10)))),.st [],.v (.bool false),.e0,.v (.int .i64 0)]],false⟩
  let p3:Option Blk:=some ⟨5,107,[.ag [.v (.int .u8 v6.1),.v (.int .u8 v6.2.1),.v (.int .u8 v6.2.2.1),.v (.bool v6.2.2.2.1),.v (.bool v6.2.2.2.2)]],false⟩
  let p4:Option Blk:=mk 5 60 (c2.map AA.enc)
  let p5:Nat×AV:=(15,.v (.int .i64 c4))
  let p6:Nat×AV:=(14,.v (.int .i64 (((x0.take (mnI (x0.length:Int) 8).toNat).drop (0:Int).toNat).length:Int)))
  let p7:Nat×AV:=(13,.sl 5 (((x0.take (mnI (x0.length:Int) 8).toNat).drop (0:Int).toNat).map (cdA (csC (cdK .u8) (csC (cdK .u8) (csC (cdK .u8) (csC cdB (csE cdB))))) (fun _=>rfl)).enc))
  let p8:Nat×AV:=(7,.pt 2 0 0)
  let p9:Nat×AV:=(6,.pt 1 0 0)
  let p10:Nat×AV:=(3,hd 0 (c2.map AA.enc))
  refine AO (s1:=⟨Fr 98 [p10,(4,.st c3),p9,p8,(8,hd 3 (([((((([97,98,99,100]:List UInt8).take (([97,98,99,100]:List UInt8).length:Int).toNat).drop (v6.2.2.1.tmod 4).toNat).take (1:Int).toNat).drop (0:Int).toNat)]++[((((([97,98,99,100]:List UInt8).take (([97,98,99,100]:List UInt8).length:Int).toNat).drop ((wr .u8 (v6.2.2.1 + 1)).tmod 4).toNat).take (1:Int).toNat).drop (0:Int).toNat)]).map cdS.enc)),p7,p6,p5],[p4,p3,p2,p1]⟩) ?_ ?_
  ·let p11:Option Blk:=mk 1 9 ([((((([97,98,99,100]:List UInt8).take (([97,98,99,100]:List UInt8).length:Int).toNat).drop (v6.2.2.1.tmod 4).toNat).take (1:Int).toNat).drop (0:Int).toNat)].map cdS.enc)
   let p12:Nat×AV:=(34,hd 3 ([((((([97,98,99,100]:List UInt8).take (([97,98,99,100]:List UInt8).length:Int).toNat).drop (v6.2.2.1.tmod 4).toNat).take (1:Int).toNat).drop (0:Int).toNat)].map cdS.enc))
   refine AF (n:=98) AC 5 [p10,(4,.st c3),p9,p8,p7,p6,p5,p12,(38,.v (.int .u8 ((wr .u8 (v6.2.2.1 + 1)).tmod 4)))] [p4,p3,p2,p11] kr ?_;refine Aq AC 0 rfl (EM (AB rfl) rfl (En (a:= .st [97,98,99,100]) (l:=(some (.v (.int .u8 ((wr .u8 (v6.2.2.1 + 1)).tmod 4))))) (u:=none) (m:=none) kr kr kr rfl (Fm (bs:=[97,98,99,100]) (lo:=((wr .u8 (v6.2.2.1 + 1)).tmod 4)) (hi:=(([97,98,99,100]:List UInt8).length:Int)) kr (G7 (OH hk10)) rfl hk10))) ?_;refine Aq AC 0 rfl (EM (AB rfl) rfl (En (a:= .st ((([97,98,99,100]:List UInt8).take (([97,98,99,100]:List UInt8).length:Int).toNat).drop ((wr .u8 (v6.2.2.1 + 1)).tmod 4).toNat)) (l:=none) (u:=(some (.v (.int .i64 1)))) (m:=none) kr kr kr rfl (Fm (bs:=((([97,98,99,100]:List UInt8).take (([97,98,99,100]:List UInt8).length:Int).toNat).drop ((wr .u8 (v6.2.2.1 + 1)).tmod 4).toNat)) (lo:=0) (hi:=(1:Int)) kr rfl (G7 (Jt hk11)) hk11))) ?_
   let p13:Option Blk:=mk 1 9 ([((((([97,98,99,100]:List UInt8).take (([97,98,99,100]:List UInt8).length:Int).toNat).drop ((wr .u8 (v6.2.2.1 + 1)).tmod 4).toNat).take (1:Int).toNat).drop (0:Int).toNat)].map cdS.enc)
   refine AF (n:=98) AC 1 [p10,(4,.st c3),p9,p8,p7,p6,p5,p12,(41,hd 4 ([((((([97,98,99,100]:List UInt8).take (([97,98,99,100]:List UInt8).length:Int).toNat).drop ((wr .u8 (v6.2.2.1 + 1)).tmod 4).toNat).take (1:Int).toNat).drop (0:Int).toNat)].map cdS.enc))] [p4,p3,p2,p11,p13] kr ?_;refine Aq AC 0 rfl (TK (AB rfl) rfl kr kr (Hr (a:=hd 3 ([((((([97,98,99,100]:List UInt8).take (([97,98,99,100]:List UInt8).length:Int).toNat).drop (v6.2.2.1.tmod 4).toNat).take (1:Int).toNat).drop (0:Int).toNat)].map cdS.enc)) (b:=hd 4 ([((((([97,98,99,100]:List UInt8).take (([97,98,99,100]:List UInt8).length:Int).toNat).drop ((wr .u8 (v6.2.2.1 + 1)).tmod 4).toNat).take (1:Int).toNat).drop (0:Int).toNat)].map cdS.enc)) kr kr (Kp (c:=cdS) (xs:=[((((([97,98,99,100]:List UInt8).take (([97,98,99,100]:List UInt8).length:Int).toNat).drop (v6.2.2.1.tmod 4).toNat).take (1:Int).toNat).drop (0:Int).toNat)]) (vs:=[((((([97,98,99,100]:List UInt8).take (([97,98,99,100]:List UInt8).length:Int).toNat).drop ((wr .u8 (v6.2.2.1 + 1)).tmod 4).toNat).take (1:Int).toNat).drop (0:Int).toNat)]) (k:=1) (bytes:=16) (el:=9) kr kr (K6 (t:=9) kr) (List.cons_ne_nil _ _) kr hk12))) ?_;refine AF (n:=98) AC 1 [p10,(4,.st c3),p9,p8,(8,hd 5 (([((((([97,98,99,100]:List UInt8).take (([97,98,99,100]:List UInt8).length:Int).toNat).drop (v6.2.2.1.tmod 4).toNat).take (1:Int).toNat).drop (0:Int).toNat)]++[((((([97,98,99,100]:List UInt8).take (([97,98,99,100]:List UInt8).length:Int).toNat).drop ((wr .u8 (v6.2.2.1 + 1)).tmod 4).toNat).take (1:Int).toNat).drop (0:Int).toNat)]).map cdS.enc)),p7,p6,p5] [p4,p3,p2,none,p13,p1] kr ?_;exact AL rfl (Au [0,1,2,5] ⟨⟨_,rfl,DQ⟩,⟨_,rfl,Cw⟩,⟨_,rfl,Cw⟩,⟨_,rfl,DQ⟩,trivial⟩ ⟨DR (b':=0) kr kr,lv,lv,lv,DR (b':=5) kr kr,lv,lv,lv,trivial⟩)
  have hq:=OI h; subst hq;exact ⟨rfl,(Au [0,1,2,3] ⟨⟨_,rfl,DQ⟩,⟨_,rfl,Cw⟩,⟨_,rfl,Cw⟩,⟨_,rfl,DQ⟩,trivial⟩ ⟨DR (b':=0) kr kr,lv,lv,lv,DR (b':=3) kr kr,lv,lv,lv,trivial⟩)⟩
 ·rw [Cr hb9] at h
  refine Ai ?_;have hq:=OI h; subst hq;exact ⟨rfl,(Au [0,1,2,3] ⟨⟨_,rfl,DQ⟩,⟨_,rfl,Cw⟩,⟨_,rfl,Cw⟩,⟨_,rfl,DQ⟩,trivial⟩ ⟨DR (b':=0) kr kr,lv,lv,lv,DR (b':=3) kr kr,lv,lv,lv,trivial⟩)⟩
theorem MQ (x0:(List (Int×Int×Int×Bool×Bool))) (c3:(List UInt8)) (c4:Int) (j27:(List AE)×Int×Int×Int×Bool×Bool×Int×(List UInt8)×Bool×Int×(List (List UInt8))×Bool) (r:((List AE)×Int×Int×Int×Bool×Bool×Int×(List UInt8)×Bool×Int×(List (List UInt8)))) (h:FZ x0 c3 c4 j27=some r):Sem E0 ⟨none,false⟩ (pc Cj [1,1,1,0,1,0,0,1,1,0,0,1,1,1,1,0,1]) ⟨Fr 98 [(3,hd 0 (j27.1.map AA.enc)),(4,.st c3),(6,.pt 1 0 0),(7,.pt 2 0 0),(8,hd 3 (j27.2.2.2.2.2.2.2.2.2.2.1.map cdS.enc)),(13,.sl 5 (((x0.take (mnI (x0.length:Int) 8).toNat).drop (0:Int).toNat).map (cdA (csC (cdK .u8) (csC (cdK .u8) (csC (cdK .u8) (csC cdB (csE cdB))))) (fun _=>rfl)).enc)),(14,.v (.int .i64 (((x0.take (mnI (x0.length:Int) 8).toNat).drop (0:Int).toNat).length:Int))),(15,.v (.int .i64 c4)),(49,.v (.bool j27.2.2.2.2.2.2.2.2.2.2.2))],[mk 5 60 (j27.1.map AA.enc),some ⟨5,107,[.ag [.v (.int .u8 j27.2.1),.v (.int .u8 j27.2.2.1),.v (.int .u8 j27.2.2.2.1),.v (.bool j27.2.2.2.2.1),.v (.bool j27.2.2.2.2.2.1)]],false⟩,some ⟨5,60,[.ag [.v (.int .u8 j27.2.2.2.2.2.2.1),.st j27.2.2.2.2.2.2.2.1,.v (.bool j27.2.2.2.2.2.2.2.2.1),.e0,.v (.int .i64 j27.2.2.2.2.2.2.2.2.2.1)]],false⟩,mk 1 9 (j27.2.2.2.2.2.2.2.2.2.2.1.map cdS.enc)]⟩ (fun e s=>e = .normal/\Wk E0 s ⟨Fr 98 [(3,hd 0 (r.1.map AA.enc)),(4,.st c3),(6,.pt 1 0 0),(7,.pt 2 0 0),(8,hd 3 (r.2.2.2.2.2.2.2.2.2.2.map cdS.enc)),(13,.sl 5 (((x0.take (mnI (x0.length:Int) 8).toNat).drop (0:Int).toNat).map (cdA (csC (cdK .u8) (csC (cdK .u8) (csC (cdK .u8) (csC cdB (csE cdB))))) (fun _=>rfl)).enc)),(14,.v (.int .i64 (((x0.take (mnI (x0.length:Int) 8).toNat).drop (0:Int).toNat).length:Int))),(15,.v (.int .i64 c4))],[mk 5 60 (r.1.map AA.enc),some ⟨5,107,[.ag [.v (.int .u8 r.2.1),.v (.int .u8 r.2.2.1),.v (.int .u8 r.2.2.2.1),.v (.bool r.2.2.2.2.1),.v (.bool r.2.2.2.2.2.1)]],false⟩,some ⟨5,60,[.ag [.v (.int .u8 r.2.2.2.2.2.2.1),.st r.2.2.2.2.2.2.2.1,.v (.bool r.2.2.2.2.2.2.2.2.1),.e0,.v (.int .i64 r.2.2.2.2.2.2.2.2.2.1)]],false⟩,mk 1 9 (r.2.2.2.2.2.2.2.2.2.2.map cdS.enc)]⟩):=by
 unfold FZ at h;refine AW (b:=j27.2.2.2.2.2.2.2.2.2.2.2) kr (fun hb28=>?_) (fun hb28=>?_)
 ·rw [if_pos hb28] at h
  refine Eq AC [(3,hd 0 (j27.1.map AA.enc)),(4,.st c3),(6,.pt 1 0 0),(7,.pt 2 0 0),(8,hd 3 (j27.2.2.2.2.2.2.2.2.2.2.1.map cdS.enc)),(13,.sl 5 (((x0.take (mnI (x0.length:Int) 8).toNat).drop (0:Int).toNat).map (cdA (csC (cdK .u8) (csC (cdK .u8) (csC (cdK .u8) (csC cdB (csE cdB))))) (fun _=>rfl)).enc)),(14,.v (.int .i64 (((x0.take (mnI (x0.length:Int) 8).toNat).drop (0:Int).toNat).length:Int))),(15,.v (.int .i64 c4))] [mk 5 60 (j27.1.map AA.enc),some ⟨5,107,[.ag [.v (.int .u8 j27.2.1),.v (.int .u8 j27.2.2.1),.v (.int .u8 j27.2.2.2.1),.v (.bool j27.2.2.2.2.1),.v (.bool j27.2.2.2.2.2.1)]],false⟩,some ⟨5,60,[.ag [.v (.int .u8 j27.2.2.2.2.2.2.1),.st c3,.v (.bool j27.2.2.2.2.2.2.2.2.1),.e0,.v (.int .i64 j27.2.2.2.2.2.2.2.2.2.1)]],false⟩,mk 1 9 (j27.2.2.2.2.2.2.2.2.2.2.1.map cdS.enc)] ?_;have hq:=OI h; subst hq;exact ⟨rfl,(Au [0,1,2,3] ⟨⟨_,rfl,DQ⟩,⟨_,rfl,Cw⟩,⟨_,rfl,Cw⟩,⟨_,rfl,DQ⟩,trivial⟩ ⟨DR (b':=0) kr kr,lv,lv,lv,DR (b':=3) kr kr,lv,lv,lv,trivial⟩)⟩
 ·rw [Cr hb28] at h
  refine Ai ?_;have hq:=OI h; subst hq;exact ⟨rfl,(Au [0,1,2,3] ⟨⟨_,rfl,DQ⟩,⟨_,rfl,Cw⟩,⟨_,rfl,Cw⟩,⟨_,rfl,DQ⟩,trivial⟩ ⟨DR (b':=0) kr kr,lv,lv,lv,DR (b':=3) kr kr,lv,lv,lv,trivial⟩)⟩
theorem Lr (x0:(List (Int×Int×Int×Bool×Bool))) (c3:(List UInt8)) (c4:Int) (r40:(List AE)×Int×Int×Int×Bool×Bool×Int×(List UInt8)×Bool×Int×(List (List UInt8))) (r:(Bool)) (h:Ii x0 c3 c4 r40=some r):Sem E0 ⟨none,false⟩ (pc Cj [1,1,1,0,1,0,0,1,1,0,0,1,1,1,1,1,0,1,0,1,1,1,1,1,1,0,1]) ⟨Fr 98 [(3,hd 0 (r40.1.map AA.enc)),(4,.st c3),(6,.pt 1 0 0),(7,.pt 2 0 0),(8,hd 3 (r40.2.2.2.2.2.2.2.2.2.2.map cdS.enc)),(13,.sl 5 (((x0.take (mnI (x0.length:Int) 8).toNat).drop (0:Int).toNat).map (cdA (csC (cdK .u8) (csC (cdK .u8) (csC (cdK .u8) (csC cdB (csE cdB))))) (fun _=>rfl)).enc)),(14,.v (.int .i64 (((x0.take (mnI (x0.length:Int) 8).toNat).drop (0:Int).toNat).length:Int))),(15,.v (.int .i64 c4)),(53,.v (.int .u8 r40.2.2.2.2.2.2.1)),(77,.v (.bool (r40.2.2.2.2.2.2.1==6)))],[mk 5 60 (r40.1.map AA.enc),some ⟨5,107,[.ag [.v (.int .u8 r40.2.1),.v (.int .u8 r40.2.2.1),.v (.int .u8 r40.2.2.2.1),.v (.bool r40.2.2.2.2.1),.v (.bool r40.2.2.2.2.2.1)]],false⟩,some ⟨5,60,[.ag [.v (.int .u8 r40.2.2.2.2.2.2.1),.st r40.2.2.2.2.2.2.2.1,.v (.bool r40.2.2.2.2.2.2.2.2.1),.e0,.v (.int .i64 r40.2.2.2.2.2.2.2.2.2.1)]],false⟩,mk 1 9 (r40.2.2.2.2.2.2.2.2.2.2.map cdS.enc)]⟩ (fun e s=>e = .normal/\Wk E0 s ⟨Fr 98 [(3,hd 0 (r40.1.map AA.enc)),(4,.st c3),(6,.pt 1 0 0),(7,.pt 2 0 0),(8,hd 3 (r40.2.2.2.2.2.2.2.2.2.2.map cdS.enc)),(13,.sl 5 (((x0.take (mnI (x0.length:Int) 8).toNat).drop (0:Int).toNat).map (cdA (csC (cdK .u8) (csC (cdK .u8) (csC (cdK .u8) (csC cdB (csE cdB))))) (fun _=>rfl)).enc)),(14,.v (.int .i64 (((x0.take (mnI (x0.length:Int) 8).toNat).drop (0:Int).toNat).length:Int))),(15,.v (.int .i64 c4)),(53,.v (.int .u8 r40.2.2.2.2.2.2.1)),(77,.v (.bool r))],[mk 5 60 (r40.1.map AA.enc),some ⟨5,107,[.ag [.v (.int .u8 r40.2.1),.v (.int .u8 r40.2.2.1),.v (.int .u8 r40.2.2.2.1),.v (.bool r40.2.2.2.2.1),.v (.bool r40.2.2.2.2.2.1)]],false⟩,some ⟨5,60,[.ag [.v (.int .u8 r40.2.2.2.2.2.2.1),.st r40.2.2.2.2.2.2.2.1,.v (.bool r40.2.2.2.2.2.2.2.2.1),.e0,.v (.int .i64 r40.2.2.2.2.2.2.2.2.2.1)]],false⟩,mk 1 9 (r40.2.2.2.2.2.2.2.2.2.2.map cdS.enc)]⟩):=by
 unfold Ii at h;refine AW (b:=(r40.2.2.2.2.2.2.1==6)) kr (fun hb1720=>?_) (fun hb1720=>?_)
 ·rw [if_pos hb1720] at h
  refine Ai ?_;have hq:=OI h; subst hq;exact ⟨rfl,(Au [0,1,2,3] ⟨⟨_,rfl,DQ⟩,⟨_,rfl,Cw⟩,⟨_,rfl,Cw⟩,⟨_,rfl,DQ⟩,trivial⟩ ⟨DR (b':=0) kr kr,lv,lv,lv,DR (b':=3) kr kr,lv,lv,lv,lv,lv,trivial⟩)⟩
 ·rw [Cr hb1720] at h
  refine Eq AC [(3,hd 0 (r40.1.map AA.enc)),(4,.st c3),(6,.pt 1 0 0),(7,.pt 2 0 0),(8,hd 3 (r40.2.2.2.2.2.2.2.2.2.2.map cdS.enc)),(13,.sl 5 (((x0.take (mnI (x0.length:Int) 8).toNat).drop (0:Int).toNat).map (cdA (csC (cdK .u8) (csC (cdK .u8) (csC (cdK .u8) (csC cdB (csE cdB))))) (fun _=>rfl)).enc)),(14,.v (.int .i64 (((x0.take (mnI (x0.length:Int) 8).toNat).drop (0:Int).toNat).length:Int))),(15,.v (.int .i64 c4)),(53,.v (.int .u8 r40.2.2.2.2.2.2.1)),(77,.v (.bool (r40.2.2.2.2.2.2.1==7)))] [mk 5 60 (r40.1.map AA.enc),some ⟨5,107,[.ag [.v (.int .u8 r40.2.1),.v (.int .u8 r40.2.2.1),.v (.int .u8 r40.2.2.2.1),.v (.bool r40.2.2.2.2.1),.v (.bool r40.2.2.2.2.2.1)]],false⟩,some ⟨5,60,[.ag [.v (.int .u8 r40.2.2.2.2.2.2.1),.st r40.2.2.2.2.2.2.2.1,.v (.bool r40.2.2.2.2.2.2.2.2.1),.e0,.v (.int .i64 r40.2.2.2.2.2.2.2.2.2.1)]],false⟩,mk 1 9 (r40.2.2.2.2.2.2.2.2.2.2.map cdS.enc)] ?_;have hq:=OI h; subst hq;exact ⟨rfl,(Au [0,1,2,3] ⟨⟨_,rfl,DQ⟩,⟨_,rfl,Cw⟩,⟨_,rfl,Cw⟩,⟨_,rfl,DQ⟩,trivial⟩ ⟨DR (b':=0) kr kr,lv,lv,lv,DR (b':=3) kr kr,lv,lv,lv,lv,lv,trivial⟩)⟩
theorem Lt (x0:(List (Int×Int×Int×Bool×Bool))) (c3:(List UInt8)) (c4:Int) (r40:(List AE)×Int×Int×Int×Bool×Bool×Int×(List UInt8)×Bool×Int×(List (List UInt8))) (r:((List AE)×Int×(List UInt8)×Bool×Int)) (h:Ik x0 c3 c4 r40=some r):Sem E0 ⟨none,false⟩ (pc Cj [1,1,1,0,1,0,0,1,1,0,0,1,1,1,1,1,0,1,0,1,1,1,1,1,1,1,1,1]) ⟨Fr 98 [(3,hd 0 (r40.1.map AA.enc)),(4,.st c3),(6,.pt 1 0 0),(7,.pt 2 0 0),(13,.sl 5 (((x0.take (mnI (x0.length:Int) 8).toNat).drop (0:Int).toNat).map (cdA (csC (cdK .u8) (csC (cdK .u8) (csC (cdK .u8) (csC cdB (csE cdB))))) (fun _=>rfl)).enc)),(14,.v (.int .i64 (((x0.take (mnI (x0.length:Int) 8).toNat).drop (0:Int).toNat).length:Int))),(15,.v (.int .i64 c4)),(85,.v (.bool (r40.2.2.2.2.2.2.1==10)))],[mk 5 60 (r40.1.map AA.enc),some ⟨5,107,[.ag [.v (.int .u8 r40.2.1),.v (.int .u8 r40.2.2.1),.v (.int .u8 r40.2.2.2.1),.v (.bool r40.2.2.2.2.1),.v (.bool r40.2.2.2.2.2.1)]],false⟩,some ⟨5,60,[.ag [.v (.int .u8 r40.2.2.2.2.2.2.1),.st r40.2.2.2.2.2.2.2.1,.v (.bool r40.2.2.2.2.2.2.2.2.1),.e0,.v (.int .i64 r40.2.2.2.2.2.2.2.2.2.1)]],false⟩]⟩ (fun e s=>e = .normal/\Wk E0 s ⟨Fr 98 [(3,hd 0 (r.1.map AA.enc)),(4,.st c3),(7,.pt 1 0 0),(13,.sl 5 (((x0.take (mnI (x0.length:Int) 8).toNat).drop (0:Int).toNat).map (cdA (csC (cdK .u8) (csC (cdK .u8) (csC (cdK .u8) (csC cdB (csE cdB))))) (fun _=>rfl)).enc)),(14,.v (.int .i64 (((x0.take (mnI (x0.length:Int) 8).toNat).drop (0:Int).toNat).length:Int))),(15,.v (.int .i64 c4))],[mk 5 60 (r.1.map AA.enc),some ⟨5,60,[.ag [.v (.int .u8 r.2.1),.st r.2.2.1,.v (.bool r.2.2.2.1),.e0,.v (.int .i64 r.2.2.2.2)]],false⟩]⟩):=by
 unfold Ik at h;refine AW (b:=(r40.2.2.2.2.2.2.1==10)) kr (fun hb2050=>?_) (fun hb2050=>?_)
 ·rw [if_pos hb2050] at h
  let p1:Option Blk:=some ⟨5,60,[.ag [.v (.int .u8 r40.2.2.2.2.2.2.1),.st r40.2.2.2.2.2.2.2.1,.v (.bool r40.2.2.2.2.2.2.2.2.1),.e0,.v (.int .i64 (wr .i64 (r40.2.2.1.tmod 64)))]],false⟩
  let p2:Nat×AV:=(14,.v (.int .i64 (((x0.take (mnI (x0.length:Int) 8).toNat).drop (0:Int).toNat).length:Int)))
  let p3:Nat×AV:=(13,.sl 5 (((x0.take (mnI (x0.length:Int) 8).toNat).drop (0:Int).toNat).map (cdA (csC (cdK .u8) (csC (cdK .u8) (csC (cdK .u8) (csC cdB (csE cdB))))) (fun _=>rfl)).enc))
  let p4:Nat×AV:=(3,hd 0 (r40.1.map AA.enc))
  refine AO (s1:=⟨Fr 98 [p4,(4,.st c3),(7,.pt 1 0 0),p3,p2,(15,.v (.int .i64 c4))],[mk 5 60 (r40.1.map AA.enc),p1]⟩) ?_ ?_
  ·refine AF (n:=98) AC 6 [p4,(4,.st c3),(7,.pt 2 0 0),p3,p2,(15,.v (.int .i64 c4))] [mk 5 60 (r40.1.map AA.enc),some ⟨5,107,[.ag [.v (.int .u8 r40.2.1),.v (.int .u8 r40.2.2.1),.v (.int .u8 r40.2.2.2.1),.v (.bool r40.2.2.2.2.1),.v (.bool r40.2.2.2.2.2.1)]],false⟩,p1] kr ?_
   exact AL rfl (Au [0,2] ⟨⟨_,rfl,DQ⟩,⟨_,rfl,Cw⟩,trivial⟩ ⟨DR (b':=0) kr kr,lv,lv,lv,lv,lv,trivial⟩)
  have hq:=OI h; subst hq;exact ⟨rfl,(Au [0,1] ⟨⟨_,rfl,DQ⟩,⟨_,rfl,Cw⟩,trivial⟩ ⟨DR (b':=0) kr kr,lv,lv,lv,lv,lv,trivial⟩)⟩
 ·rw [Cr hb2050] at h
  refine Ai ?_;have hq:=OI h; subst hq;exact ⟨rfl,(Au [0,2] ⟨⟨_,rfl,DQ⟩,⟨_,rfl,Cw⟩,trivial⟩ ⟨DR (b':=0) kr kr,lv,lv,lv,lv,lv,trivial⟩)⟩
theorem Ls (x0:(List (Int×Int×Int×Bool×Bool))) (c3:(List UInt8)) (c4:Int) (r40:(List AE)×Int×Int×Int×Bool×Bool×Int×(List UInt8)×Bool×Int×(List (List UInt8))) (r1722:Bool) (r:((List AE)×Int×(List UInt8)×Bool×(List (List UInt8))×Int)) (h:Ij x0 c3 c4 r40 r1722=some r):Sem E0 ⟨none,false⟩ (pc Cj [1,1,1,0,1,0,0,1,1,0,0,1,1,1,1,1,0,1,0,1,1,1,1,1,1,1]) ⟨Fr 98 [(3,hd 0 (r40.1.map AA.enc)),(4,.st c3),(6,.pt 1 0 0),(7,.pt 2 0 0),(8,hd 3 (r40.2.2.2.2.2.2.2.2.2.2.map cdS.enc)),(13,.sl 5 (((x0.take (mnI (x0.length:Int) 8).toNat).drop (0:Int).toNat).map (cdA (csC (cdK .u8) (csC (cdK .u8) (csC (cdK .u8) (csC cdB (csE cdB))))) (fun _=>rfl)).enc)),(14,.v (.int .i64 (((x0.take (mnI (x0.length:Int) 8).toNat).drop (0:Int).toNat).length:Int))),(15,.v (.int .i64 c4)),(53,.v (.int .u8 r40.2.2.2.2.2.2.1)),(77,.v (.bool r1722))],[mk 5 60 (r40.1.map AA.enc),some ⟨5,107,[.ag [.v (.int .u8 r40.2.1),.v (.int .u8 r40.2.2.1),.v (.int .u8 r40.2.2.2.1),.v (.bool r40.2.2.2.2.1),.v (.bool r40.2.2.2.2.2.1)]],false⟩,some ⟨5,60,[.ag [.v (.int .u8 r40.2.2.2.2.2.2.1),.st r40.2.2.2.2.2.2.2.1,.v (.bool r40.2.2.2.2.2.2.2.2.1),.e0,.v (.int .i64 r40.2.2.2.2.2.2.2.2.2.1)]],false⟩,mk 1 9 (r40.2.2.2.2.2.2.2.2.2.2.map cdS.enc)]⟩ (fun e s=>e = .normal/\Wk E0 s ⟨Fr 98 [(3,hd 0 (r.1.map AA.enc)),(4,.st c3),(7,.pt 1 0 0),(13,.sl 5 (((x0.take (mnI (x0.length:Int) 8).toNat).drop (0:Int).toNat).map (cdA (csC (cdK .u8) (csC (cdK .u8) (csC (cdK .u8) (csC cdB (csE cdB))))) (fun _=>rfl)).enc)),(14,.v (.int .i64 (((x0.take (mnI (x0.length:Int) 8).toNat).drop (0:Int).toNat).length:Int))),(15,.v (.int .i64 c4))],[mk 5 60 (r.1.map AA.enc),some ⟨5,60,[AA.enc r.2],false⟩]⟩):=by
 unfold Ij at h;refine AW (b:=r1722) kr (fun hb1723=>?_) (fun hb1723=>?_)
 ·rw [if_pos hb1723] at h
  let p1:Option Blk:=some ⟨5,60,[.ag [.v (.int .u8 r40.2.2.2.2.2.2.1),.st r40.2.2.2.2.2.2.2.1,.v (.bool r40.2.2.2.2.1),.sl 1 (r40.2.2.2.2.2.2.2.2.2.2.map cdS.enc),.v (.int .i64 r40.2.2.2.2.2.2.2.2.2.1)]],false⟩
  let p2:Option Blk:=mk 5 60 (r40.1.map AA.enc)
  let p3:Nat×AV:=(15,.v (.int .i64 c4))
  let p4:Nat×AV:=(14,.v (.int .i64 (((x0.take (mnI (x0.length:Int) 8).toNat).drop (0:Int).toNat).length:Int)))
  let p5:Nat×AV:=(13,.sl 5 (((x0.take (mnI (x0.length:Int) 8).toNat).drop (0:Int).toNat).map (cdA (csC (cdK .u8) (csC (cdK .u8) (csC (cdK .u8) (csC cdB (csE cdB))))) (fun _=>rfl)).enc))
  let p6:Nat×AV:=(3,hd 0 (r40.1.map AA.enc))
  refine Q8 (s1:=⟨Fr 98 [p6,(4,.st c3),(7,.pt 1 0 0),p5,p4,p3],[p2,p1]⟩) AC 7 kr ?_ ?_
  ·refine RunA.q 0 kr rfl ?_
   let p7:Option Blk:=mk 1 9 (r40.2.2.2.2.2.2.2.2.2.2.map cdS.enc)
   let p8:Option Blk:=some ⟨5,60,[.ag [.v (.int .u8 r40.2.2.2.2.2.2.1),.st r40.2.2.2.2.2.2.2.1,.v (.bool r40.2.2.2.2.2.2.2.2.1),.e0,.v (.int .i64 r40.2.2.2.2.2.2.2.2.2.1)]],false⟩
   let p9:Option Blk:=some ⟨5,107,[.ag [.v (.int .u8 r40.2.1),.v (.int .u8 r40.2.2.1),.v (.int .u8 r40.2.2.2.1),.v (.bool r40.2.2.2.2.1),.v (.bool r40.2.2.2.2.2.1)]],false⟩
   let p10:Nat×AV:=(80,hd 3 (r40.2.2.2.2.2.2.2.2.2.2.map cdS.enc))
   let p11:Nat×AV:=(7,.pt 2 0 0)
   refine RunS.only (n:=98) AC [p6,(4,.st c3),(6,.pt 1 0 0),p11,p5,p4,p3,p10] [p2,p9,p8,p7] kr ?_;refine RunA.q 1 kr rfl ?_
   let p12:Nat×AV:=(81,.pt 1 0 3)
   refine RunS.only (n:=98) AC [p6,(4,.st c3),p11,p5,p4,p3,p10,p12] [p2,p9,p8,p7] kr ?_;refine RunA.q 3 kr rfl ?_
   let p13:Nat×AV:=(83,.pt 2 0 3)
   refine RunS.only (n:=98) AC [p6,(4,.st c3),p11,p5,p4,p3,p10,p12,p13] [p2,p9,p8,p7] kr ?_;refine Mo 2 4 kr rfl rfl ?_ ?_
   ·let p14:Nat×AV:=(82,.v (.bool r40.2.2.2.2.1))
    refine RunS.only (n:=98) AC [p6,(4,.st c3),p11,p5,p4,p3,p10,p14,p13] [p2,p9,p8,p7] kr ?_;refine EO 4 kr rfl ?_;refine Od (s1:=⟨Fr 98 [p6,(4,.st c3),p11,p5,p4,p3,(80,.sl 1 (r40.2.2.2.2.2.2.2.2.2.2.map cdS.enc)),p14,p13],[p2,p9,p8,none]⟩) (I0 3 (.inl kr) ⟨.inr (.inl rfl),.inr (.inr ⟨_,_,_,_,rfl,rfl,⟨.inl rfl,trivial⟩⟩),.inr (.inr ⟨_,_,_,_,rfl,rfl,⟨.inl rfl,trivial⟩⟩),.inl rfl,trivial⟩ ⟨⟨hd 0 (r40.1.map AA.enc),kr,.inl rfl⟩,⟨.st c3,kr,.inl rfl⟩,⟨.pt 2 0 0,kr,.inl rfl⟩,⟨.sl 5 (((x0.take (mnI (x0.length:Int) 8).toNat).drop (0:Int).toNat).map (cdA (csC (cdK .u8) (csC (cdK .u8) (csC (cdK .u8) (csC cdB (csE cdB))))) (fun _=>rfl)).enc),kr,.inl rfl⟩,⟨.v (.int .i64 (((x0.take (mnI (x0.length:Int) 8).toNat).drop (0:Int).toNat).length:Int)),kr,.inl rfl⟩,⟨.v (.int .i64 c4),kr,.inl rfl⟩,⟨hd 3 (r40.2.2.2.2.2.2.2.2.2.2.map cdS.enc),kr,Pr (t:=9) kr KV⟩,⟨.v (.bool r40.2.2.2.2.1),kr,.inl rfl⟩,⟨.pt 2 0 3,kr,.inl rfl⟩,trivial⟩) ?_
    let p15:Option Blk:=some ⟨5,60,[.ag [.v (.int .u8 r40.2.2.2.2.2.2.1),.st r40.2.2.2.2.2.2.2.1,.v (.bool r40.2.2.2.2.2.2.2.2.1),.sl 1 (r40.2.2.2.2.2.2.2.2.2.2.map cdS.enc),.v (.int .i64 r40.2.2.2.2.2.2.2.2.2.1)]],false⟩
    refine RunS.only (n:=98) AC [p6,(4,.st c3),p11,p5,p4,p3,p14] [p2,p9,p15,none] kr ?_;refine RunA.q 5 kr rfl ?_;refine RunS.only (n:=98) AC [p6,(4,.st c3),p11,p5,p4,p3,p14,(84,.pt 2 0 2)] [p2,p9,p15,none] kr ?_;refine EO 6 kr rfl ?_;refine RunS.only (n:=98) AC [p6,(4,.st c3),p11,p5,p4,p3] [p2,p9,p1,none] kr ?_;exact RunA.done kr (Au [0,2] ⟨⟨_,rfl,DQ⟩,⟨_,rfl,Cw⟩,trivial⟩ ⟨DR (b':=0) kr kr,lv,lv,lv,lv,lv,trivial⟩)
   ·refine Od (s1:=⟨Fr 98 [p6,(4,.st c3),p11,p5,p4,p3,(80,.sl 1 (r40.2.2.2.2.2.2.2.2.2.2.map cdS.enc)),p12,p13],[p2,p9,p8,none]⟩) (I0 3 (.inl kr) ⟨.inr (.inl rfl),.inr (.inr ⟨_,_,_,_,rfl,rfl,⟨.inl rfl,trivial⟩⟩),.inr (.inr ⟨_,_,_,_,rfl,rfl,⟨.inl rfl,trivial⟩⟩),.inl rfl,trivial⟩ ⟨⟨hd 0 (r40.1.map AA.enc),kr,.inl rfl⟩,⟨.st c3,kr,.inl rfl⟩,⟨.pt 2 0 0,kr,.inl rfl⟩,⟨.sl 5 (((x0.take (mnI (x0.length:Int) 8).toNat).drop (0:Int).toNat).map (cdA (csC (cdK .u8) (csC (cdK .u8) (csC (cdK .u8) (csC cdB (csE cdB))))) (fun _=>rfl)).enc),kr,.inl rfl⟩,⟨.v (.int .i64 (((x0.take (mnI (x0.length:Int) 8).toNat).drop (0:Int).toNat).length:Int)),kr,.inl rfl⟩,⟨.v (.int .i64 c4),kr,.inl rfl⟩,⟨hd 3 (r40.2.2.2.2.2.2.2.2.2.2.map cdS.enc),kr,Pr (t:=9) kr KV⟩,⟨.pt 1 0 3,kr,.inl rfl⟩,⟨.pt 2 0 3,kr,.inl rfl⟩,trivial⟩) ?_
    let p16:Option Blk:=some ⟨5,60,[.ag [.v (.int .u8 r40.2.2.2.2.2.2.1),.st r40.2.2.2.2.2.2.2.1,.v (.bool r40.2.2.2.2.2.2.2.2.1),.sl 1 (r40.2.2.2.2.2.2.2.2.2.2.map cdS.enc),.v (.int .i64 r40.2.2.2.2.2.2.2.2.2.1)]],false⟩
    refine RunS.only (n:=98) AC [p6,(4,.st c3),p11,p5,p4,p3,p12] [p2,p9,p16,none] kr ?_;refine EO 2 kr rfl ?_;refine RunS.only (n:=98) AC [p6,(4,.st c3),p11,p5,p4,p3,(82,.v (.bool r40.2.2.2.2.1))] [p2,p9,p16,none] kr ?_;refine RunA.q 5 kr rfl ?_;refine RunS.only (n:=98) AC [p6,(4,.st c3),p11,p5,p4,p3,(82,.v (.bool r40.2.2.2.2.1)),(84,.pt 2 0 2)] [p2,p9,p16,none] kr ?_;refine EO 6 kr rfl ?_;refine RunS.only (n:=98) AC [p6,(4,.st c3),p11,p5,p4,p3] [p2,p9,p1,none] kr ?_;exact RunA.done kr (Au [0,2] ⟨⟨_,rfl,DQ⟩,⟨_,rfl,Cw⟩,trivial⟩ ⟨DR (b':=0) kr kr,lv,lv,lv,lv,lv,trivial⟩)
  have hq:=OI h; subst hq;exact ⟨rfl,(Au [0,1] ⟨⟨_,rfl,DQ⟩,⟨_,rfl,Cw⟩,trivial⟩ ⟨DR (b':=0) kr kr,lv,lv,lv,lv,lv,trivial⟩)⟩
 ·rw [Cr hb1723] at h
  refine AH ?_
  let p17:Option Blk:=some ⟨5,60,[.ag [.v (.int .u8 r40.2.2.2.2.2.2.1),.st r40.2.2.2.2.2.2.2.1,.v (.bool r40.2.2.2.2.2.2.2.2.1),.e0,.v (.int .i64 r40.2.2.2.2.2.2.2.2.2.1)]],false⟩
  let p18:Option Blk:=some ⟨5,107,[.ag [.v (.int .u8 r40.2.1),.v (.int .u8 r40.2.2.1),.v (.int .u8 r40.2.2.2.1),.v (.bool r40.2.2.2.2.1),.v (.bool r40.2.2.2.2.2.1)]],false⟩
  let p19:Nat×AV:=(85,.v (.bool (r40.2.2.2.2.2.2.1==10)))
  let p20:Nat×AV:=(15,.v (.int .i64 c4))
  let p21:Nat×AV:=(14,.v (.int .i64 (((x0.take (mnI (x0.length:Int) 8).toNat).drop (0:Int).toNat).length:Int)))
  let p22:Nat×AV:=(13,.sl 5 (((x0.take (mnI (x0.length:Int) 8).toNat).drop (0:Int).toNat).map (cdA (csC (cdK .u8) (csC (cdK .u8) (csC (cdK .u8) (csC cdB (csE cdB))))) (fun _=>rfl)).enc))
  let p23:Nat×AV:=(3,hd 0 (r40.1.map AA.enc))
  refine AO (s1:=⟨Fr 98 [p23,(4,.st c3),(6,.pt 1 0 0),(7,.pt 2 0 0),p22,p21,p20,p19],[mk 5 60 (r40.1.map AA.enc),p18,p17]⟩) ?_ ?_
  ·refine AF (n:=98) AC 2 [p23,(4,.st c3),(6,.pt 1 0 0),(7,.pt 2 0 0),p22,p21,p20,p19] [mk 5 60 (r40.1.map AA.enc),p18,p17,mk 1 9 (r40.2.2.2.2.2.2.2.2.2.2.map cdS.enc)] kr ?_
   exact AL rfl (Au [0,1,2] ⟨⟨_,rfl,DQ⟩,⟨_,rfl,Cw⟩,⟨_,rfl,Cw⟩,trivial⟩ ⟨DR (b':=0) kr kr,lv,lv,lv,lv,lv,lv,lv,trivial⟩)
  obtain ⟨r2056,hr2056,h⟩:=OB h;refine C6 (Lt x0 c3 c4 r40 _ hr2056) ?_;have hq:=OI h; subst hq
  let p24:Option Blk:=mk 5 60 (r2056.1.map AA.enc)
  let p25:Nat×AV:=(3,hd 0 (r2056.1.map AA.enc))
  let p26:Option Blk:=some ⟨5,60,[.ag [.v (.int .u8 r2056.2.1),.st r2056.2.2.1,.v (.bool r2056.2.2.2.1),.e0,.v (.int .i64 r2056.2.2.2.2)]],false⟩
  exact ⟨rfl,(Wk.trans (s1:=⟨Fr 98 [p25,(4,.st c3),(7,.pt 1 0 0),p22,p21,p20],[p24,p26]⟩) AT (Wk.trans (s1:=⟨Fr 98 [p25,(4,.st c3),(7,.pt 1 0 0),p22,p21,p20],[p24,p26,none]⟩) Wk.none (Wk.trans (s1:=⟨Fr 98 [p25,(4,.st c3),(7,.pt 1 0 0),p22,p21,p20],[p24,some ⟨5,60,[.ag [.v (.int .u8 r2056.2.1),.st r2056.2.2.1,.v (.bool r2056.2.2.2.1),.sl 1 ([].map cdS.enc),.v (.int .i64 r2056.2.2.2.2)]],false⟩,none]⟩) (Mb 2 (.inr kr) ⟨.inr (.inl rfl),.inr (.inr ⟨_,_,_,_,rfl,rfl,⟨(.inr ⟨_,_,rfl,rfl,⟨.inl rfl,.inl rfl,.inl rfl,R9,.inl rfl,trivial⟩⟩),trivial⟩⟩),.inl rfl,trivial⟩ ⟨⟨hd 0 (r2056.1.map AA.enc),kr,(.inl (.inl rfl))⟩,⟨.st c3,kr,(.inl (.inl rfl))⟩,⟨.pt 1 0 0,kr,(.inl (.inl rfl))⟩,⟨.sl 5 (((x0.take (mnI (x0.length:Int) 8).toNat).drop (0:Int).toNat).map (cdA (csC (cdK .u8) (csC (cdK .u8) (csC (cdK .u8) (csC cdB (csE cdB))))) (fun _=>rfl)).enc),kr,(.inl (.inl rfl))⟩,⟨.v (.int .i64 (((x0.take (mnI (x0.length:Int) 8).toNat).drop (0:Int).toNat).length:Int)),kr,(.inl (.inl rfl))⟩,⟨.v (.int .i64 c4),kr,(.inl (.inl rfl))⟩,trivial⟩) (Au [0,1] ⟨⟨_,rfl,DQ⟩,⟨_,rfl,Cw⟩,trivial⟩ ⟨DR (b':=0) kr kr,lv,lv,lv,lv,lv,trivial⟩))))⟩
theorem Lq (x0:(List (Int×Int×Int×Bool×Bool))) (c3:(List UInt8)) (c4:Int) (r40:(List AE)×Int×Int×Int×Bool×Bool×Int×(List UInt8)×Bool×Int×(List (List UInt8))) (r:((List AE)×Int×(List UInt8)×Bool×(List (List UInt8))×Int)) (h:Ih x0 c3 c4 r40=some r):Sem E0 ⟨none,false⟩ (pc Cj [1,1,1,0,1,0,0,1,1,0,0,1,1,1,1,1,0,1,0,1,1,1,1,1]) ⟨Fr 98 [(3,hd 0 (r40.1.map AA.enc)),(4,.st c3),(6,.pt 1 0 0),(7,.pt 2 0 0),(8,hd 3 (r40.2.2.2.2.2.2.2.2.2.2.map cdS.enc)),(13,.sl 5 (((x0.take (mnI (x0.length:Int) 8).toNat).drop (0:Int).toNat).map (cdA (csC (cdK .u8) (csC (cdK .u8) (csC (cdK .u8) (csC cdB (csE cdB))))) (fun _=>rfl)).enc)),(14,.v (.int .i64 (((x0.take (mnI (x0.length:Int) 8).toNat).drop (0:Int).toNat).length:Int))),(15,.v (.int .i64 c4)),(53,.v (.int .u8 r40.2.2.2.2.2.2.1)),(72,.v (.bool (r40.2.2.2.2.2.2.1==5)))],[mk 5 60 (r40.1.map AA.enc),some ⟨5,107,[.ag [.v (.int .u8 r40.2.1),.v (.int .u8 r40.2.2.1),.v (.int .u8 r40.2.2.2.1),.v (.bool r40.2.2.2.2.1),.v (.bool r40.2.2.2.2.2.1)]],false⟩,some ⟨5,60,[.ag [.v (.int .u8 r40.2.2.2.2.2.2.1),.st r40.2.2.2.2.2.2.2.1,.v (.bool r40.2.2.2.2.2.2.2.2.1),.e0,.v (.int .i64 r40.2.2.2.2.2.2.2.2.2.1)]],false⟩,mk 1 9 (r40.2.2.2.2.2.2.2.2.2.2.map cdS.enc)]⟩ (fun e s=>e = .normal/\Wk E0 s ⟨Fr 98 [(3,hd 0 (r.1.map AA.enc)),(4,.st c3),(7,.pt 1 0 0),(13,.sl 5 (((x0.take (mnI (x0.length:Int) 8).toNat).drop (0:Int).toNat).map (cdA (csC (cdK .u8) (csC (cdK .u8) (csC (cdK .u8) (csC cdB (csE cdB))))) (fun _=>rfl)).enc)),(14,.v (.int .i64 (((x0.take (mnI (x0.length:Int) 8).toNat).drop (0:Int).toNat).length:Int))),(15,.v (.int .i64 c4))],[mk 5 60 (r.1.map AA.enc),some ⟨5,60,[AA.enc r.2],false⟩]⟩):=by
 unfold Ih at h;refine AW (b:=(r40.2.2.2.2.2.2.1==5)) kr (fun hb1713=>?_) (fun hb1713=>?_)
 ·rw [if_pos hb1713] at h
  let p1:Option Blk:=some ⟨5,60,[.ag [.v (.int .u8 r40.2.2.2.2.2.2.1),.st r40.2.2.2.2.2.2.2.1,.v (.bool r40.2.2.2.2.1),.e0,.v (.int .i64 r40.2.2.2.2.2.2.2.2.2.1)]],false⟩
  let p2:Option Blk:=mk 5 60 (r40.1.map AA.enc)
  let p3:Nat×AV:=(15,.v (.int .i64 c4))
  let p4:Nat×AV:=(14,.v (.int .i64 (((x0.take (mnI (x0.length:Int) 8).toNat).drop (0:Int).toNat).length:Int)))
  let p5:Nat×AV:=(13,.sl 5 (((x0.take (mnI (x0.length:Int) 8).toNat).drop (0:Int).toNat).map (cdA (csC (cdK .u8) (csC (cdK .u8) (csC (cdK .u8) (csC cdB (csE cdB))))) (fun _=>rfl)).enc))
  let p6:Nat×AV:=(7,.pt 1 0 0)
  let p7:Nat×AV:=(3,hd 0 (r40.1.map AA.enc))
  refine AO (s1:=⟨Fr 98 [p7,(4,.st c3),p6,p5,p4,p3],[p2,p1]⟩) ?_ ?_
  ·refine AF (n:=98) AC 4 [p7,(4,.st c3),(7,.pt 2 0 0),p5,p4,p3] [p2,some ⟨5,107,[.ag [.v (.int .u8 r40.2.1),.v (.int .u8 r40.2.2.1),.v (.int .u8 r40.2.2.2.1),.v (.bool r40.2.2.2.2.1),.v (.bool r40.2.2.2.2.2.1)]],false⟩,p1,mk 1 9 (r40.2.2.2.2.2.2.2.2.2.2.map cdS.enc)] kr ?_
   exact AL rfl (Au [0,2] ⟨⟨_,rfl,DQ⟩,⟨_,rfl,Cw⟩,trivial⟩ ⟨DR (b':=0) kr kr,lv,lv,lv,lv,lv,trivial⟩)
  have hq:=OI h; subst hq;exact ⟨rfl,(Wk.trans (s1:=⟨Fr 98 [p7,(4,.st c3),p6,p5,p4,p3],[p2,p1]⟩) AT (Wk.trans (s1:=⟨Fr 98 [p7,(4,.st c3),p6,p5,p4,p3],[p2,p1,none]⟩) Wk.none (Wk.trans (s1:=⟨Fr 98 [p7,(4,.st c3),p6,p5,p4,p3],[p2,some ⟨5,60,[.ag [.v (.int .u8 r40.2.2.2.2.2.2.1),.st r40.2.2.2.2.2.2.2.1,.v (.bool r40.2.2.2.2.1),.sl 1 ([].map cdS.enc),.v (.int .i64 r40.2.2.2.2.2.2.2.2.2.1)]],false⟩,none]⟩) (Mb 2 (.inr kr) ⟨.inr (.inl rfl),.inr (.inr ⟨_,_,_,_,rfl,rfl,⟨(.inr ⟨_,_,rfl,rfl,⟨.inl rfl,.inl rfl,.inl rfl,R9,.inl rfl,trivial⟩⟩),trivial⟩⟩),.inl rfl,trivial⟩ ⟨⟨hd 0 (r40.1.map AA.enc),kr,(.inl (.inl rfl))⟩,⟨.st c3,kr,(.inl (.inl rfl))⟩,⟨.pt 1 0 0,kr,(.inl (.inl rfl))⟩,⟨.sl 5 (((x0.take (mnI (x0.length:Int) 8).toNat).drop (0:Int).toNat).map (cdA (csC (cdK .u8) (csC (cdK .u8) (csC (cdK .u8) (csC cdB (csE cdB))))) (fun _=>rfl)).enc),kr,(.inl (.inl rfl))⟩,⟨.v (.int .i64 (((x0.take (mnI (x0.length:Int) 8).toNat).drop (0:Int).toNat).length:Int)),kr,(.inl (.inl rfl))⟩,⟨.v (.int .i64 c4),kr,(.inl (.inl rfl))⟩,trivial⟩) (Au [0,1] ⟨⟨_,rfl,DQ⟩,⟨_,rfl,Cw⟩,trivial⟩ ⟨DR (b':=0) kr kr,lv,lv,lv,lv,lv,trivial⟩))))⟩
 ·rw [Cr hb1713] at h
  refine AH ?_;refine AM AC [(3,hd 0 (r40.1.map AA.enc)),(4,.st c3),(6,.pt 1 0 0),(7,.pt 2 0 0),(8,hd 3 (r40.2.2.2.2.2.2.2.2.2.2.map cdS.enc)),(13,.sl 5 (((x0.take (mnI (x0.length:Int) 8).toNat).drop (0:Int).toNat).map (cdA (csC (cdK .u8) (csC (cdK .u8) (csC (cdK .u8) (csC cdB (csE cdB))))) (fun _=>rfl)).enc)),(14,.v (.int .i64 (((x0.take (mnI (x0.length:Int) 8).toNat).drop (0:Int).toNat).length:Int))),(15,.v (.int .i64 c4)),(53,.v (.int .u8 r40.2.2.2.2.2.2.1)),(77,.v (.bool (r40.2.2.2.2.2.2.1==6)))] [mk 5 60 (r40.1.map AA.enc),some ⟨5,107,[.ag [.v (.int .u8 r40.2.1),.v (.int .u8 r40.2.2.1),.v (.int .u8 r40.2.2.2.1),.v (.bool r40.2.2.2.2.1),.v (.bool r40.2.2.2.2.2.1)]],false⟩,some ⟨5,60,[.ag [.v (.int .u8 r40.2.2.2.2.2.2.1),.st r40.2.2.2.2.2.2.2.1,.v (.bool r40.2.2.2.2.2.2.2.2.1),.e0,.v (.int .i64 r40.2.2.2.2.2.2.2.2.2.1)]],false⟩,mk 1 9 (r40.2.2.2.2.2.2.2.2.2.2.map cdS.enc)] ?_;obtain ⟨r1722,hr1722,h⟩:=OB h;refine C6 (Lr x0 c3 c4 r40 _ hr1722) ?_;obtain ⟨r2057,hr2057,h⟩:=OB h;refine C6 (Ls x0 c3 c4 r40 r1722 _ hr2057) ?_;have hq:=OI h; subst hq;exact ⟨rfl,(Au [0,1] ⟨⟨_,rfl,DQ⟩,⟨_,rfl,Cw⟩,trivial⟩ ⟨DR (b':=0) kr kr,lv,lv,lv,lv,lv,trivial⟩)⟩
theorem MS (x0:(List (Int×Int×Int×Bool×Bool))) (c3:(List UInt8)) (c4:Int) (r40:(List AE)×Int×Int×Int×Bool×Bool×Int×(List UInt8)×Bool×Int×(List (List UInt8))) (r:((List AE)×Int×(List UInt8)×Bool×(List (List UInt8))×Int)) (h:JB x0 c3 c4 r40=some r):Sem E0 ⟨none,false⟩ (pc Cj [1,1,1,0,1,0,0,1,1,0,0,1,1,1,1,1,0,1,0,1,1,1]) ⟨Fr 98 [(3,hd 0 (r40.1.map AA.enc)),(4,.st c3),(6,.pt 1 0 0),(7,.pt 2 0 0),(8,hd 3 (r40.2.2.2.2.2.2.2.2.2.2.map cdS.enc)),(13,.sl 5 (((x0.take (mnI (x0.length:Int) 8).toNat).drop (0:Int).toNat).map (cdA (csC (cdK .u8) (csC (cdK .u8) (csC (cdK .u8) (csC cdB (csE cdB))))) (fun _=>rfl)).enc)),(14,.v (.int .i64 (((x0.take (mnI (x0.length:Int) 8).toNat).drop (0:Int).toNat).length:Int))),(15,.v (.int .i64 c4)),(53,.v (.int .u8 r40.2.2.2.2.2.2.1)),(61,.v (.bool (r40.2.2.2.2.2.2.1==4)))],[mk 5 60 (r40.1.map AA.enc),some ⟨5,107,[.ag [.v (.int .u8 r40.2.1),.v (.int .u8 r40.2.2.1),.v (.int .u8 r40.2.2.2.1),.v (.bool r40.2.2.2.2.1),.v (.bool r40.2.2.2.2.2.1)]],false⟩,some ⟨5,60,[.ag [.v (.int .u8 r40.2.2.2.2.2.2.1),.st r40.2.2.2.2.2.2.2.1,.v (.bool r40.2.2.2.2.2.2.2.2.1),.e0,.v (.int .i64 r40.2.2.2.2.2.2.2.2.2.1)]],false⟩,mk 1 9 (r40.2.2.2.2.2.2.2.2.2.2.map cdS.enc)]⟩ (fun e s=>e = .normal/\Wk E0 s ⟨Fr 98 [(3,hd 0 (r.1.map AA.enc)),(4,.st c3),(7,.pt 1 0 0),(13,.sl 5 (((x0.take (mnI (x0.length:Int) 8).toNat).drop (0:Int).toNat).map (cdA (csC (cdK .u8) (csC (cdK .u8) (csC (cdK .u8) (csC cdB (csE cdB))))) (fun _=>rfl)).enc)),(14,.v (.int .i64 (((x0.take (mnI (x0.length:Int) 8).toNat).drop (0:Int).toNat).length:Int))),(15,.v (.int .i64 c4))],[mk 5 60 (r.1.map AA.enc),some ⟨5,60,[AA.enc r.2],false⟩]⟩):=by
 unfold JB at h;refine AW (b:=(r40.2.2.2.2.2.2.1==4)) kr (fun hb1226=>?_) (fun hb1226=>?_)
 ·rw [if_pos hb1226] at h
  let p1:Option Blk:=some ⟨5,60,[.ag [.v (.int .u8 r40.2.2.2.2.2.2.1),.st r40.2.2.2.2.2.2.2.1,.v (.bool r40.2.2.2.2.1),.e0,.v (.int .i64 (wr .i64 (1 + (wr .i64 (r40.2.2.1.tmod 2)))))]],false⟩
  let p2:Option Blk:=mk 5 60 (r40.1.map AA.enc)
  let p3:Nat×AV:=(15,.v (.int .i64 c4))
  let p4:Nat×AV:=(14,.v (.int .i64 (((x0.take (mnI (x0.length:Int) 8).toNat).drop (0:Int).toNat).length:Int)))
  let p5:Nat×AV:=(13,.sl 5 (((x0.take (mnI (x0.length:Int) 8).toNat).drop (0:Int).toNat).map (cdA (csC (cdK .u8) (csC (cdK .u8) (csC (cdK .u8) (csC cdB (csE cdB))))) (fun _=>rfl)).enc))
  let p6:Nat×AV:=(7,.pt 1 0 0)
  let p7:Nat×AV:=(3,hd 0 (r40.1.map AA.enc))
  refine Q8 (s1:=⟨Fr 98 [p7,(4,.st c3),p6,p5,p4,p3],[p2,p1]⟩) AC 11 kr ?_ ?_
  ·refine RunA.q 0 kr rfl ?_
   let p8:Option Blk:=mk 1 9 (r40.2.2.2.2.2.2.2.2.2.2.map cdS.enc)
   let p9:Option Blk:=some ⟨5,60,[.ag [.v (.int .u8 r40.2.2.2.2.2.2.1),.st r40.2.2.2.2.2.2.2.1,.v (.bool r40.2.2.2.2.2.2.2.2.1),.e0,.v (.int .i64 r40.2.2.2.2.2.2.2.2.2.1)]],false⟩
   let p10:Option Blk:=some ⟨5,107,[.ag [.v (.int .u8 r40.2.1),.v (.int .u8 r40.2.2.1),.v (.int .u8 r40.2.2.2.1),.v (.bool r40.2.2.2.2.1),.v (.bool r40.2.2.2.2.2.1)]],false⟩
   let p11:Nat×AV:=(7,.pt 2 0 0)
   refine RunS.only (n:=98) AC [p7,(4,.st c3),(6,.pt 1 0 0),p11,p5,p4,p3,(63,.pt 1 0 1)] [p2,p10,p9,p8] kr ?_;refine RunA.q 5 kr rfl ?_
   let p12:Nat×AV:=(68,.pt 1 0 3)
   refine RunS.only (n:=98) AC [p7,(4,.st c3),p11,p5,p4,p3,(63,.pt 1 0 1),p12] [p2,p10,p9,p8] kr ?_;refine Mo 1 6 kr rfl rfl ?_ ?_
   ·refine RunS.only (n:=98) AC [p7,(4,.st c3),p11,p5,p4,p3,(64,.v (.int .u8 r40.2.2.1)),p12] [p2,p10,p9,p8] kr ?_
    refine Mo 2 6 kr rfl rfl ?_ ?_
    ·refine RunS.only (n:=98) AC [p7,(4,.st c3),p11,p5,p4,p3,(65,.v (.int .u8 (r40.2.2.1.tmod 2))),p12] [p2,p10,p9,p8] kr ?_
     refine Mo 3 6 kr rfl rfl ?_ ?_
     ·refine RunS.only (n:=98) AC [p7,(4,.st c3),p11,p5,p4,p3,(66,.v (.int .i64 (wr .i64 (r40.2.2.1.tmod 2)))),p12] [p2,p10,p9,p8] kr ?_
      refine RunA.q 4 kr rfl ?_
      let p13:Nat×AV:=(67,.v (.int .i64 (wr .i64 (1 + (wr .i64 (r40.2.2.1.tmod 2))))))
      refine RunS.only (n:=98) AC [p7,(4,.st c3),p11,p5,p4,p3,p13,p12] [p2,p10,p9,p8] kr ?_;refine RunA.q 7 kr rfl ?_;refine RunS.only (n:=98) AC [p7,(4,.st c3),p11,p5,p4,p3,p13,p12,(70,.pt 2 0 4)] [p2,p10,p9,p8] kr ?_;refine Mo 6 8 kr rfl rfl ?_ ?_
      ·let p14:Nat×AV:=(69,.v (.bool r40.2.2.2.2.1))
       refine RunS.only (n:=98) AC [p7,(4,.st c3),p11,p5,p4,p3,p13,p14,(70,.pt 2 0 4)] [p2,p10,p9,p8] kr ?_;refine EO 8 kr rfl ?_
       let p15:Option Blk:=some ⟨5,60,[.ag [.v (.int .u8 r40.2.2.2.2.2.2.1),.st r40.2.2.2.2.2.2.2.1,.v (.bool r40.2.2.2.2.2.2.2.2.1),.e0,.v (.int .i64 (wr .i64 (1 + (wr .i64 (r40.2.2.1.tmod 2)))))]],false⟩
       refine RunS.only (n:=98) AC [p7,(4,.st c3),p11,p5,p4,p3,p14] [p2,p10,p15,p8] kr ?_;refine RunA.q 9 kr rfl ?_;refine RunS.only (n:=98) AC [p7,(4,.st c3),p11,p5,p4,p3,p14,(71,.pt 2 0 2)] [p2,p10,p15,p8] kr ?_;refine EO 10 kr rfl ?_;refine RunS.only (n:=98) AC [p7,(4,.st c3),p11,p5,p4,p3] [p2,p10,p1,p8] kr ?_;exact RunA.done kr (Au [0,2] ⟨⟨_,rfl,DQ⟩,⟨_,rfl,Cw⟩,trivial⟩ ⟨DR (b':=0) kr kr,lv,lv,lv,lv,lv,trivial⟩)
      ·let p16:Option Blk:=some ⟨5,60,[.ag [.v (.int .u8 r40.2.2.2.2.2.2.1),.st r40.2.2.2.2.2.2.2.1,.v (.bool r40.2.2.2.2.2.2.2.2.1),.e0,.v (.int .i64 (wr .i64 (1 + (wr .i64 (r40.2.2.1.tmod 2)))))]],false⟩
       refine RunS.only (n:=98) AC [p7,(4,.st c3),p11,p5,p4,p3,p12] [p2,p10,p16,p8] kr ?_;refine EO 6 kr rfl ?_;refine RunS.only (n:=98) AC [p7,(4,.st c3),p11,p5,p4,p3,(69,.v (.bool r40.2.2.2.2.1))] [p2,p10,p16,p8] kr ?_;refine RunA.q 9 kr rfl ?_;refine RunS.only (n:=98) AC [p7,(4,.st c3),p11,p5,p4,p3,(69,.v (.bool r40.2.2.2.2.1)),(71,.pt 2 0 2)] [p2,p10,p16,p8] kr ?_;refine EO 10 kr rfl ?_;refine RunS.only (n:=98) AC [p7,(4,.st c3),p11,p5,p4,p3] [p2,p10,p1,p8] kr ?_;exact RunA.done kr (Au [0,2] ⟨⟨_,rfl,DQ⟩,⟨_,rfl,Cw⟩,trivial⟩ ⟨DR (b':=0) kr kr,lv,lv,lv,lv,lv,trivial⟩)
     ·let p17:Nat×AV:=(69,.v (.bool r40.2.2.2.2.1))
      refine RunS.only (n:=98) AC [p7,(4,.st c3),p11,p5,p4,p3,(65,.v (.int .u8 (r40.2.2.1.tmod 2))),p17] [p2,p10,p9,p8] kr ?_;refine EO 3 kr rfl ?_;refine RunS.only (n:=98) AC [p7,(4,.st c3),p11,p5,p4,p3,(66,.v (.int .i64 (wr .i64 (r40.2.2.1.tmod 2)))),p17] [p2,p10,p9,p8] kr ?_;refine RunA.q 4 kr rfl ?_
      let p18:Nat×AV:=(67,.v (.int .i64 (wr .i64 (1 + (wr .i64 (r40.2.2.1.tmod 2))))))
      refine RunS.only (n:=98) AC [p7,(4,.st c3),p11,p5,p4,p3,p18,p17] [p2,p10,p9,p8] kr ?_;refine RunA.q 7 kr rfl ?_;refine RunS.only (n:=98) AC [p7,(4,.st c3),p11,p5,p4,p3,p18,p17,(70,.pt 2 0 4)] [p2,p10,p9,p8] kr ?_;refine EO 8 kr rfl ?_
      let p19:Option Blk:=some ⟨5,60,[.ag [.v (.int .u8 r40.2.2.2.2.2.2.1),.st r40.2.2.2.2.2.2.2.1,.v (.bool r40.2.2.2.2.2.2.2.2.1),.e0,.v (.int .i64 (wr .i64 (1 + (wr .i64 (r40.2.2.1.tmod 2)))))]],false⟩
      refine RunS.only (n:=98) AC [p7,(4,.st c3),p11,p5,p4,p3,p17] [p2,p10,p19,p8] kr ?_;refine RunA.q 9 kr rfl ?_;refine RunS.only (n:=98) AC [p7,(4,.st c3),p11,p5,p4,p3,p17,(71,.pt 2 0 2)] [p2,p10,p19,p8] kr ?_;refine EO 10 kr rfl ?_;refine RunS.only (n:=98) AC [p7,(4,.st c3),p11,p5,p4,p3] [p2,p10,p1,p8] kr ?_;exact RunA.done kr (Au [0,2] ⟨⟨_,rfl,DQ⟩,⟨_,rfl,Cw⟩,trivial⟩ ⟨DR (b':=0) kr kr,lv,lv,lv,lv,lv,trivial⟩)
    ·let p20:Nat×AV:=(69,.v (.bool r40.2.2.2.2.1))
     refine RunS.only (n:=98) AC [p7,(4,.st c3),p11,p5,p4,p3,(64,.v (.int .u8 r40.2.2.1)),p20] [p2,p10,p9,p8] kr ?_;refine EO 2 kr rfl ?_;refine RunS.only (n:=98) AC [p7,(4,.st c3),p11,p5,p4,p3,(65,.v (.int .u8 (r40.2.2.1.tmod 2))),p20] [p2,p10,p9,p8] kr ?_;refine EO 3 kr rfl ?_;refine RunS.only (n:=98) AC [p7,(4,.st c3),p11,p5,p4,p3,(66,.v (.int .i64 (wr .i64 (r40.2.2.1.tmod 2)))),p20] [p2,p10,p9,p8] kr ?_;refine RunA.q 4 kr rfl ?_
     let p21:Nat×AV:=(67,.v (.int .i64 (wr .i64 (1 + (wr .i64 (r40.2.2.1.tmod 2))))))
     refine RunS.only (n:=98) AC [p7,(4,.st c3),p11,p5,p4,p3,p21,p20] [p2,p10,p9,p8] kr ?_;refine RunA.q 7 kr rfl ?_;refine RunS.only (n:=98) AC [p7,(4,.st c3),p11,p5,p4,p3,p21,p20,(70,.pt 2 0 4)] [p2,p10,p9,p8] kr ?_;refine EO 8 kr rfl ?_
     let p22:Option Blk:=some ⟨5,60,[.ag [.v (.int .u8 r40.2.2.2.2.2.2.1),.st r40.2.2.2.2.2.2.2.1,.v (.bool r40.2.2.2.2.2.2.2.2.1),.e0,.v (.int .i64 (wr .i64 (1 + (wr .i64 (r40.2.2.1.tmod 2)))))]],false⟩
     refine RunS.only (n:=98) AC [p7,(4,.st c3),p11,p5,p4,p3,p20] [p2,p10,p22,p8] kr ?_;refine RunA.q 9 kr rfl ?_;refine RunS.only (n:=98) AC [p7,(4,.st c3),p11,p5,p4,p3,p20,(71,.pt 2 0 2)] [p2,p10,p22,p8] kr ?_;refine EO 10 kr rfl ?_;refine RunS.only (n:=98) AC [p7,(4,.st c3),p11,p5,p4,p3] [p2,p10,p1,p8] kr ?_;exact RunA.done kr (Au [0,2] ⟨⟨_,rfl,DQ⟩,⟨_,rfl,Cw⟩,trivial⟩ ⟨DR (b':=0) kr kr,lv,lv,lv,lv,lv,trivial⟩)
   ·let p23:Nat×AV:=(69,.v (.bool r40.2.2.2.2.1))
    refine RunS.only (n:=98) AC [p7,(4,.st c3),p11,p5,p4,p3,(63,.pt 1 0 1),p23] [p2,p10,p9,p8] kr ?_;refine EO 1 kr rfl ?_;refine RunS.only (n:=98) AC [p7,(4,.st c3),p11,p5,p4,p3,(64,.v (.int .u8 r40.2.2.1)),p23] [p2,p10,p9,p8] kr ?_;refine EO 2 kr rfl ?_;refine RunS.only (n:=98) AC [p7,(4,.st c3),p11,p5,p4,p3,(65,.v (.int .u8 (r40.2.2.1.tmod 2))),p23] [p2,p10,p9,p8] kr ?_;refine EO 3 kr rfl ?_;refine RunS.only (n:=98) AC [p7,(4,.st c3),p11,p5,p4,p3,(66,.v (.int .i64 (wr .i64 (r40.2.2.1.tmod 2)))),p23] [p2,p10,p9,p8] kr ?_;refine RunA.q 4 kr rfl ?_
    let p24:Nat×AV:=(67,.v (.int .i64 (wr .i64 (1 + (wr .i64 (r40.2.2.1.tmod 2))))))
    refine RunS.only (n:=98) AC [p7,(4,.st c3),p11,p5,p4,p3,p24,p23] [p2,p10,p9,p8] kr ?_;refine RunA.q 7 kr rfl ?_;refine RunS.only (n:=98) AC [p7,(4,.st c3),p11,p5,p4,p3,p24,p23,(70,.pt 2 0 4)] [p2,p10,p9,p8] kr ?_;refine EO 8 kr rfl ?_
    let p25:Option Blk:=some ⟨5,60,[.ag [.v (.int .u8 r40.2.2.2.2.2.2.1),.st r40.2.2.2.2.2.2.2.1,.v (.bool r40.2.2.2.2.2.2.2.2.1),.e0,.v (.int .i64 (wr .i64 (1 + (wr .i64 (r40.2.2.1.tmod 2)))))]],false⟩
    refine RunS.only (n:=98) AC [p7,(4,.st c3),p11,p5,p4,p3,p23] [p2,p10,p25,p8] kr ?_;refine RunA.q 9 kr rfl ?_;refine RunS.only (n:=98) AC [p7,(4,.st c3),p11,p5,p4,p3,p23,(71,.pt 2 0 2)] [p2,p10,p25,p8] kr ?_;refine EO 10 kr rfl ?_;refine RunS.only (n:=98) AC [p7,(4,.st c3),p11,p5,p4,p3] [p2,p10,p1,p8] kr ?_;exact RunA.done kr (Au [0,2] ⟨⟨_,rfl,DQ⟩,⟨_,rfl,Cw⟩,trivial⟩ ⟨DR (b':=0) kr kr,lv,lv,lv,lv,lv,trivial⟩)
  have hq:=OI h; subst hq;exact ⟨rfl,(Wk.trans (s1:=⟨Fr 98 [p7,(4,.st c3),p6,p5,p4,p3],[p2,p1]⟩) AT (Wk.trans (s1:=⟨Fr 98 [p7,(4,.st c3),p6,p5,p4,p3],[p2,p1,none]⟩) Wk.none (Wk.trans (s1:=⟨Fr 98 [p7,(4,.st c3),p6,p5,p4,p3],[p2,some ⟨5,60,[.ag [.v (.int .u8 r40.2.2.2.2.2.2.1),.st r40.2.2.2.2.2.2.2.1,.v (.bool r40.2.2.2.2.1),.sl 1 ([].map cdS.enc),.v (.int .i64 (wr .i64 (1 + (wr .i64 (r40.2.2.1.tmod 2)))))]],false⟩,none]⟩) (Mb 2 (.inr kr) ⟨.inr (.inl rfl),.inr (.inr ⟨_,_,_,_,rfl,rfl,⟨(.inr ⟨_,_,rfl,rfl,⟨.inl rfl,.inl rfl,.inl rfl,R9,.inl rfl,trivial⟩⟩),trivial⟩⟩),.inl rfl,trivial⟩ ⟨⟨hd 0 (r40.1.map AA.enc),kr,(.inl (.inl rfl))⟩,⟨.st c3,kr,(.inl (.inl rfl))⟩,⟨.pt 1 0 0,kr,(.inl (.inl rfl))⟩,⟨.sl 5 (((x0.take (mnI (x0.length:Int) 8).toNat).drop (0:Int).toNat).map (cdA (csC (cdK .u8) (csC (cdK .u8) (csC (cdK .u8) (csC cdB (csE cdB))))) (fun _=>rfl)).enc),kr,(.inl (.inl rfl))⟩,⟨.v (.int .i64 (((x0.take (mnI (x0.length:Int) 8).toNat).drop (0:Int).toNat).length:Int)),kr,(.inl (.inl rfl))⟩,⟨.v (.int .i64 c4),kr,(.inl (.inl rfl))⟩,trivial⟩) (Au [0,1] ⟨⟨_,rfl,DQ⟩,⟨_,rfl,Cw⟩,trivial⟩ ⟨DR (b':=0) kr kr,lv,lv,lv,lv,lv,trivial⟩))))⟩
 ·rw [Cr hb1226] at h
  refine AM AC [(3,hd 0 (r40.1.map AA.enc)),(4,.st c3),(6,.pt 1 0 0),(7,.pt 2 0 0),(8,hd 3 (r40.2.2.2.2.2.2.2.2.2.2.map cdS.enc)),(13,.sl 5 (((x0.take (mnI (x0.length:Int) 8).toNat).drop (0:Int).toNat).map (cdA (csC (cdK .u8) (csC (cdK .u8) (csC (cdK .u8) (csC cdB (csE cdB))))) (fun _=>rfl)).enc)),(14,.v (.int .i64 (((x0.take (mnI (x0.length:Int) 8).toNat).drop (0:Int).toNat).length:Int))),(15,.v (.int .i64 c4)),(53,.v (.int .u8 r40.2.2.2.2.2.2.1)),(72,.v (.bool (r40.2.2.2.2.2.2.1==5)))] [mk 5 60 (r40.1.map AA.enc),some ⟨5,107,[.ag [.v (.int .u8 r40.2.1),.v (.int .u8 r40.2.2.1),.v (.int .u8 r40.2.2.2.1),.v (.bool r40.2.2.2.2.1),.v (.bool r40.2.2.2.2.2.1)]],false⟩,some ⟨5,60,[.ag [.v (.int .u8 r40.2.2.2.2.2.2.1),.st r40.2.2.2.2.2.2.2.1,.v (.bool r40.2.2.2.2.2.2.2.2.1),.e0,.v (.int .i64 r40.2.2.2.2.2.2.2.2.2.1)]],false⟩,mk 1 9 (r40.2.2.2.2.2.2.2.2.2.2.map cdS.enc)] ?_;obtain ⟨r2058,hr2058,h⟩:=OB h;refine C6 (Lq x0 c3 c4 r40 _ hr2058) ?_;have hq:=OI h; subst hq;exact ⟨rfl,(Au [0,1] ⟨⟨_,rfl,DQ⟩,⟨_,rfl,Cw⟩,trivial⟩ ⟨DR (b':=0) kr kr,lv,lv,lv,lv,lv,trivial⟩)⟩
theorem MR (x0:(List (Int×Int×Int×Bool×Bool))) (c3:(List UInt8)) (c4:Int) (r40:(List AE)×Int×Int×Int×Bool×Bool×Int×(List UInt8)×Bool×Int×(List (List UInt8))) (r:((List AE)×(List UInt8)×Int×(List UInt8)×Bool×(List (List UInt8))×Int)) (h:GZ x0 c3 c4 r40=some r):Sem E0 ⟨none,false⟩ (pc Cj [1,1,1,0,1,0,0,1,1,0,0,1,1,1,1,1,0,1,0,1]) ⟨Fr 98 [(3,hd 0 (r40.1.map AA.enc)),(4,.st c3),(6,.pt 1 0 0),(7,.pt 2 0 0),(8,hd 3 (r40.2.2.2.2.2.2.2.2.2.2.map cdS.enc)),(13,.sl 5 (((x0.take (mnI (x0.length:Int) 8).toNat).drop (0:Int).toNat).map (cdA (csC (cdK .u8) (csC (cdK .u8) (csC (cdK .u8) (csC cdB (csE cdB))))) (fun _=>rfl)).enc)),(14,.v (.int .i64 (((x0.take (mnI (x0.length:Int) 8).toNat).drop (0:Int).toNat).length:Int))),(15,.v (.int .i64 c4)),(53,.v (.int .u8 r40.2.2.2.2.2.2.1)),(54,.v (.bool (r40.2.2.2.2.2.2.1==1)))],[mk 5 60 (r40.1.map AA.enc),some ⟨5,107,[.ag [.v (.int .u8 r40.2.1),.v (.int .u8 r40.2.2.1),.v (.int .u8 r40.2.2.2.1),.v (.bool r40.2.2.2.2.1),.v (.bool r40.2.2.2.2.2.1)]],false⟩,some ⟨5,60,[.ag [.v (.int .u8 r40.2.2.2.2.2.2.1),.st r40.2.2.2.2.2.2.2.1,.v (.bool r40.2.2.2.2.2.2.2.2.1),.e0,.v (.int .i64 r40.2.2.2.2.2.2.2.2.2.1)]],false⟩,mk 1 9 (r40.2.2.2.2.2.2.2.2.2.2.map cdS.enc)]⟩ (fun e s=>e = .normal/\Wk E0 s ⟨Fr 98 [(3,hd 0 (r.1.map AA.enc)),(4,.st r.2.1),(7,.pt 1 0 0),(13,.sl 5 (((x0.take (mnI (x0.length:Int) 8).toNat).drop (0:Int).toNat).map (cdA (csC (cdK .u8) (csC (cdK .u8) (csC (cdK .u8) (csC cdB (csE cdB))))) (fun _=>rfl)).enc)),(14,.v (.int .i64 (((x0.take (mnI (x0.length:Int) 8).toNat).drop (0:Int).toNat).length:Int))),(15,.v (.int .i64 c4))],[mk 5 60 (r.1.map AA.enc),some ⟨5,60,[AA.enc r.2.2],false⟩]⟩):=by
 unfold GZ at h;refine AW (b:=(r40.2.2.2.2.2.2.1==1)) kr (fun hb41=>?_) (fun hb41=>?_)
 ·rw [if_pos hb41] at h
  refine AH ?_
  let p1:Option Blk:=some ⟨5,60,[.ag [.v (.int .u8 r40.2.2.2.2.2.2.1),.st r40.2.2.2.2.2.2.2.1,.v (.bool r40.2.2.2.2.2.2.2.2.1),.sl 1 (r40.2.2.2.2.2.2.2.2.2.2.map cdS.enc),.v (.int .i64 r40.2.2.2.2.2.2.2.2.2.1)]],false⟩
  let p2:Option Blk:=mk 5 60 (r40.1.map AA.enc)
  let p3:Nat×AV:=(15,.v (.int .i64 c4))
  let p4:Nat×AV:=(14,.v (.int .i64 (((x0.take (mnI (x0.length:Int) 8).toNat).drop (0:Int).toNat).length:Int)))
  let p5:Nat×AV:=(13,.sl 5 (((x0.take (mnI (x0.length:Int) 8).toNat).drop (0:Int).toNat).map (cdA (csC (cdK .u8) (csC (cdK .u8) (csC (cdK .u8) (csC cdB (csE cdB))))) (fun _=>rfl)).enc))
  let p6:Nat×AV:=(8,.sl 1 (r40.2.2.2.2.2.2.2.2.2.2.map cdS.enc))
  let p7:Nat×AV:=(3,hd 0 (r40.1.map AA.enc))
  refine AO (s1:=⟨Fr 98 [p7,(7,.pt 1 0 0),p6,p5,p4,p3],[p2,p1]⟩) ?_ ?_
  ·let p8:Option Blk:=some ⟨5,60,[.ag [.v (.int .u8 r40.2.2.2.2.2.2.1),.st r40.2.2.2.2.2.2.2.1,.v (.bool r40.2.2.2.2.2.2.2.2.1),.e0,.v (.int .i64 r40.2.2.2.2.2.2.2.2.2.1)]],false⟩
   let p9:Option Blk:=some ⟨5,107,[.ag [.v (.int .u8 r40.2.1),.v (.int .u8 r40.2.2.1),.v (.int .u8 r40.2.2.2.1),.v (.bool r40.2.2.2.2.1),.v (.bool r40.2.2.2.2.2.1)]],false⟩
   refine AF (n:=98) AC 2 [p7,(7,.pt 2 0 0),(8,hd 3 (r40.2.2.2.2.2.2.2.2.2.2.map cdS.enc)),p5,p4,p3,(56,hd 3 (r40.2.2.2.2.2.2.2.2.2.2.map cdS.enc)),(57,.pt 2 0 3)] [p2,p9,p8,mk 1 9 (r40.2.2.2.2.2.2.2.2.2.2.map cdS.enc)] kr ?_;refine Od (s1:=⟨Fr 98 [p7,(7,.pt 2 0 0),p6,p5,p4,p3,(56,.sl 1 (r40.2.2.2.2.2.2.2.2.2.2.map cdS.enc)),(57,.pt 2 0 3)],[p2,p9,p8,none]⟩) (I0 3 (.inl kr) ⟨.inr (.inl rfl),.inr (.inr ⟨_,_,_,_,rfl,rfl,⟨.inl rfl,trivial⟩⟩),.inr (.inr ⟨_,_,_,_,rfl,rfl,⟨.inl rfl,trivial⟩⟩),.inl rfl,trivial⟩ ⟨⟨hd 0 (r40.1.map AA.enc),kr,.inl rfl⟩,⟨.pt 2 0 0,kr,.inl rfl⟩,⟨hd 3 (r40.2.2.2.2.2.2.2.2.2.2.map cdS.enc),kr,Pr (t:=9) kr KV⟩,⟨.sl 5 (((x0.take (mnI (x0.length:Int) 8).toNat).drop (0:Int).toNat).map (cdA (csC (cdK .u8) (csC (cdK .u8) (csC (cdK .u8) (csC cdB (csE cdB))))) (fun _=>rfl)).enc),kr,.inl rfl⟩,⟨.v (.int .i64 (((x0.take (mnI (x0.length:Int) 8).toNat).drop (0:Int).toNat).length:Int)),kr,.inl rfl⟩,⟨.v (.int .i64 c4),kr,.inl rfl⟩,⟨hd 3 (r40.2.2.2.2.2.2.2.2.2.2.map cdS.enc),kr,Pr (t:=9) kr KV⟩,⟨.pt 2 0 3,kr,.inl rfl⟩,trivial⟩) ?_;refine AF (n:=98) AC 1 [p7,(7,.pt 2 0 0),p6,p5,p4,p3] [p2,p9,p1,none] kr ?_;exact AL rfl (Au [0,2] ⟨⟨_,rfl,DQ⟩,⟨_,rfl,Cw⟩,trivial⟩ ⟨DR (b':=0) kr kr,lv,lv,lv,lv,lv,trivial⟩)
  obtain ⟨v42,hv42,h⟩:=OB h;refine AO (s1:=⟨Fr 98 [p7,(4,.st v42),(7,.pt 1 0 0),p5,p4,p3],[p2,p1]⟩) ?_ ?_
  ·refine AF (n:=98) AC 1 [p7,(7,.pt 1 0 0),p5,p4,p3,(58,.sl 1 (r40.2.2.2.2.2.2.2.2.2.2.map cdS.enc))] [p2,p1] kr ?_
   refine Aq AC 0 rfl (EM (AB rfl) rfl (Ao (a:= .sl 1 (r40.2.2.2.2.2.2.2.2.2.2.map cdS.enc)) (b:= .v (.int .i64 0)) kr kr (Iw (e:=cdS.enc) (el:=9) (k:=1) (ki:= .i64) kr kr hv42))) ?_;exact A5 AC
  have hq:=OI h; subst hq;exact ⟨rfl,(Au [0,1] ⟨⟨_,rfl,DQ⟩,⟨_,rfl,Cw⟩,trivial⟩ ⟨DR (b':=0) kr kr,lv,lv,lv,lv,lv,trivial⟩)⟩
 ·rw [Cr hb41] at h
  refine AM AC [(3,hd 0 (r40.1.map AA.enc)),(4,.st c3),(6,.pt 1 0 0),(7,.pt 2 0 0),(8,hd 3 (r40.2.2.2.2.2.2.2.2.2.2.map cdS.enc)),(13,.sl 5 (((x0.take (mnI (x0.length:Int) 8).toNat).drop (0:Int).toNat).map (cdA (csC (cdK .u8) (csC (cdK .u8) (csC (cdK .u8) (csC cdB (csE cdB))))) (fun _=>rfl)).enc)),(14,.v (.int .i64 (((x0.take (mnI (x0.length:Int) 8).toNat).drop (0:Int).toNat).length:Int))),(15,.v (.int .i64 c4)),(53,.v (.int .u8 r40.2.2.2.2.2.2.1)),(61,.v (.bool (r40.2.2.2.2.2.2.1==4)))] [mk 5 60 (r40.1.map AA.enc),some ⟨5,107,[.ag [.v (.int .u8 r40.2.1),.v (.int .u8 r40.2.2.1),.v (.int .u8 r40.2.2.2.1),.v (.bool r40.2.2.2.2.1),.v (.bool r40.2.2.2.2.2.1)]],false⟩,some ⟨5,60,[.ag [.v (.int .u8 r40.2.2.2.2.2.2.1),.st r40.2.2.2.2.2.2.2.1,.v (.bool r40.2.2.2.2.2.2.2.2.1),.e0,.v (.int .i64 r40.2.2.2.2.2.2.2.2.2.1)]],false⟩,mk 1 9 (r40.2.2.2.2.2.2.2.2.2.2.map cdS.enc)] ?_;obtain ⟨r2059,hr2059,h⟩:=OB h;refine C6 (MS x0 c3 c4 r40 _ hr2059) ?_;have hq:=OI h; subst hq;exact ⟨rfl,(Au [0,1] ⟨⟨_,rfl,DQ⟩,⟨_,rfl,Cw⟩,trivial⟩ ⟨DR (b':=0) kr kr,lv,lv,lv,lv,lv,trivial⟩)⟩
theorem MT (x0:(List (Int×Int×Int×Bool×Bool))):∀ (f:Nat) (c2:(List AE)) (c3:(List UInt8)) (c4:Int) (r:((List AE))),D7 x0 f c2 c3 c4=some r->SemN E0 ⟨none,false⟩ (pc Cj [1,1,1,0,1,0,0]) f ⟨Fr 98 [(3,hd 0 (c2.map AA.enc)),(4,.st c3),(13,.sl 5 (((x0.take (mnI (x0.length:Int) 8).toNat).drop (0:Int).toNat).map (cdA (csC (cdK .u8) (csC (cdK .u8) (csC (cdK .u8) (csC cdB (csE cdB))))) (fun _=>rfl)).enc)),(14,.v (.int .i64 (((x0.take (mnI (x0.length:Int) 8).toNat).drop (0:Int).toNat).length:Int))),(15,.v (.int .i64 c4))],[mk 5 60 (c2.map AA.enc)]⟩ (fun e s=>e=(.exit 0)/\Wk E0 s ⟨Fr 98 [(3,hd 0 (r.map AA.enc))],[mk 5 60 (r.map AA.enc)]⟩):=by
 intro f;induction f with
 | zero=>intro c2 c3 c4 r h; cases h
 | succ f ih0 =>
  intro c2 c3 c4 r h
  have ih:=fun (c2:(List AE)) (c3:(List UInt8)) (c4:Int)=>ih0 c2 c3 c4 r
  unfold D7 at h;refine D3 ?_;refine AM AC [(3,hd 0 (c2.map AA.enc)),(4,.st c3),(13,.sl 5 (((x0.take (mnI (x0.length:Int) 8).toNat).drop (0:Int).toNat).map (cdA (csC (cdK .u8) (csC (cdK .u8) (csC (cdK .u8) (csC cdB (csE cdB))))) (fun _=>rfl)).enc)),(14,.v (.int .i64 (((x0.take (mnI (x0.length:Int) 8).toNat).drop (0:Int).toNat).length:Int))),(15,.v (.int .i64 c4)),(16,.v (.bool (decide (c4 < (((x0.take (mnI (x0.length:Int) 8).toNat).drop (0:Int).toNat).length:Int)))))] [mk 5 60 (c2.map AA.enc)] ?_;refine AH ?_;refine AW (b:=(decide (c4 < (((x0.take (mnI (x0.length:Int) 8).toNat).drop (0:Int).toNat).length:Int)))) kr (fun hb5=>?_) (fun hb5=>?_)
  ·rw [if_pos hb5] at h
   refine Ai ?_;refine AH ?_;refine Bh ?_;refine AH ?_;obtain ⟨v6,hv6,h⟩:=OB h;refine AO (s1:=⟨Fr 98 [(3,hd 0 (c2.map AA.enc)),(4,.st c3),(6,.pt 1 0 0),(13,.sl 5 (((x0.take (mnI (x0.length:Int) 8).toNat).drop (0:Int).toNat).map (cdA (csC (cdK .u8) (csC (cdK .u8) (csC (cdK .u8) (csC cdB (csE cdB))))) (fun _=>rfl)).enc)),(14,.v (.int .i64 (((x0.take (mnI (x0.length:Int) 8).toNat).drop (0:Int).toNat).length:Int))),(15,.v (.int .i64 c4))],[mk 5 60 (c2.map AA.enc),some ⟨5,107,[.ag [.v (.int .u8 v6.1),.v (.int .u8 v6.2.1),.v (.int .u8 v6.2.2.1),.v (.bool v6.2.2.2.1),.v (.bool v6.2.2.2.2)]],false⟩]⟩) ?_ ?_
   ·refine Aq AC 0 rfl (EM (AB rfl) rfl (Ao (a:= .sl 5 (((x0.take (mnI (x0.length:Int) 8).toNat).drop (0:Int).toNat).map (cdA (csC (cdK .u8) (csC (cdK .u8) (csC (cdK .u8) (csC cdB (csE cdB))))) (fun _=>rfl)).enc)) (b:= .v (.int .i64 c4)) kr kr (Iw (e:=(cdA (csC (cdK .u8) (csC (cdK .u8) (csC (cdK .u8) (csC cdB (csE cdB))))) (fun _=>rfl)).enc) (el:=107) (k:=5) (ki:= .i64) kr kr hv6))) ?_
    exact A5 AC
   refine AM AC [(3,hd 0 (c2.map AA.enc)),(4,.st c3),(6,.pt 1 0 0),(7,.pt 2 0 0),(13,.sl 5 (((x0.take (mnI (x0.length:Int) 8).toNat).drop (0:Int).toNat).map (cdA (csC (cdK .u8) (csC (cdK .u8) (csC (cdK .u8) (csC cdB (csE cdB))))) (fun _=>rfl)).enc)),(14,.v (.int .i64 (((x0.take (mnI (x0.length:Int) 8).toNat).drop (0:Int).toNat).length:Int))),(15,.v (.int .i64 c4))] [mk 5 60 (c2.map AA.enc),some ⟨5,107,[.ag [.v (.int .u8 v6.1),.v (.int .u8 v6.2.1),.v (.int .u8 v6.2.2.1),.v (.bool v6.2.2.2.1),.v (.bool v6.2.2.2.2)]],false⟩,some ⟨5,60,[.ag [.v (.int .u8 (wr .u8 (1 + (v6.1.tmod 10)))),.st [],.v (.bool false),.e0,.v (.int .i64 0)]],false⟩] ?_;refine AH ?_;by_cases hk7:(Do (v6.2.2.1.tmod 4) (([97,98,99,100]:List UInt8).length:Int) ([97,98,99,100]:List UInt8).length)=true
   case neg=>rw [if_neg hk7] at h; cases h
   rw [if_pos hk7] at h;by_cases hk8:(Do 0 (1:Int) ((([97,98,99,100]:List UInt8).take (([97,98,99,100]:List UInt8).length:Int).toNat).drop (v6.2.2.1.tmod 4).toNat).length)=true
   case neg=>rw [if_neg hk8] at h; cases h
   rw [if_pos hk8] at h;refine AO (s1:=⟨Fr 98 [(3,hd 0 (c2.map AA.enc)),(4,.st c3),(6,.pt 1 0 0),(7,.pt 2 0 0),(8,hd 3 ([((((([97,98,99,100]:List UInt8).take (([97,98,99,100]:List UInt8).length:Int).toNat).drop (v6.2.2.1.tmod 4).toNat).take (1:Int).toNat).drop (0:Int).toNat)].map cdS.enc)),(13,.sl 5 (((x0.take (mnI (x0.length:Int) 8).toNat).drop (0:Int).toNat).map (cdA (csC (cdK .u8) (csC (cdK .u8) (csC (cdK .u8) (csC cdB (csE cdB))))) (fun _=>rfl)).enc)),(14,.v (.int .i64 (((x0.take (mnI (x0.length:Int) 8).toNat).drop (0:Int).toNat).length:Int))),(15,.v (.int .i64 c4))],[mk 5 60 (c2.map AA.enc),some ⟨5,107,[.ag [.v (.int .u8 v6.1),.v (.int .u8 v6.2.1),.v (.int .u8 v6.2.2.1),.v (.bool v6.2.2.2.1),.v (.bool v6.2.2.2.2)]],false⟩,some ⟨5,60,[.ag [.v (.int .u8 (wr .u8 (1 + (v6.1.tmod 10)))),.st [],.v (.bool false),.e0,.v (.int .i64 0)]],false⟩,mk 1 9 ([((((([97,98,99,100]:List UInt8).take (([97,98,99,100]:List UInt8).length:Int).toNat).drop (v6.2.2.1.tmod 4).toNat).take (1:Int).toNat).drop (0:Int).toNat)].map cdS.enc)]⟩) ?_ ?_
   ·refine AF (n:=98) AC 3 [(3,hd 0 (c2.map AA.enc)),(4,.st c3),(6,.pt 1 0 0),(7,.pt 2 0 0),(13,.sl 5 (((x0.take (mnI (x0.length:Int) 8).toNat).drop (0:Int).toNat).map (cdA (csC (cdK .u8) (csC (cdK .u8) (csC (cdK .u8) (csC cdB (csE cdB))))) (fun _=>rfl)).enc)),(14,.v (.int .i64 (((x0.take (mnI (x0.length:Int) 8).toNat).drop (0:Int).toNat).length:Int))),(15,.v (.int .i64 c4)),(26,.v (.int .u8 (v6.2.2.1.tmod 4)))] [mk 5 60 (c2.map AA.enc),some ⟨5,107,[.ag [.v (.int .u8 v6.1),.v (.int .u8 v6.2.1),.v (.int .u8 v6.2.2.1),.v (.bool v6.2.2.2.1),.v (.bool v6.2.2.2.2)]],false⟩,some ⟨5,60,[.ag [.v (.int .u8 (wr .u8 (1 + (v6.1.tmod 10)))),.st [],.v (.bool false),.e0,.v (.int .i64 0)]],false⟩] kr ?_
    refine Aq AC 0 rfl (EM (AB rfl) rfl (En (a:= .st [97,98,99,100]) (l:=(some (.v (.int .u8 (v6.2.2.1.tmod 4))))) (u:=none) (m:=none) kr kr kr rfl (Fm (bs:=[97,98,99,100]) (lo:=(v6.2.2.1.tmod 4)) (hi:=(([97,98,99,100]:List UInt8).length:Int)) kr (G7 (OH hk7)) rfl hk7))) ?_;refine Aq AC 0 rfl (EM (AB rfl) rfl (En (a:= .st ((([97,98,99,100]:List UInt8).take (([97,98,99,100]:List UInt8).length:Int).toNat).drop (v6.2.2.1.tmod 4).toNat)) (l:=none) (u:=(some (.v (.int .i64 1)))) (m:=none) kr kr kr rfl (Fm (bs:=((([97,98,99,100]:List UInt8).take (([97,98,99,100]:List UInt8).length:Int).toNat).drop (v6.2.2.1.tmod 4).toNat)) (lo:=0) (hi:=(1:Int)) kr rfl (G7 (Jt hk8)) hk8))) ?_;exact A5 AC
   refine AH ?_;refine AM AC [(3,hd 0 (c2.map AA.enc)),(4,.st c3),(6,.pt 1 0 0),(7,.pt 2 0 0),(8,hd 3 ([((((([97,98,99,100]:List UInt8).take (([97,98,99,100]:List UInt8).length:Int).toNat).drop (v6.2.2.1.tmod 4).toNat).take (1:Int).toNat).drop (0:Int).toNat)].map cdS.enc)),(13,.sl 5 (((x0.take (mnI (x0.length:Int) 8).toNat).drop (0:Int).toNat).map (cdA (csC (cdK .u8) (csC (cdK .u8) (csC (cdK .u8) (csC cdB (csE cdB))))) (fun _=>rfl)).enc)),(14,.v (.int .i64 (((x0.take (mnI (x0.length:Int) 8).toNat).drop (0:Int).toNat).length:Int))),(15,.v (.int .i64 c4)),(33,.v (.bool ((Du .u8 v6.2.2.1 4)!=0)))] [mk 5 60 (c2.map AA.enc),some ⟨5,107,[.ag [.v (.int .u8 v6.1),.v (.int .u8 v6.2.1),.v (.int .u8 v6.2.2.1),.v (.bool v6.2.2.2.1),.v (.bool v6.2.2.2.2)]],false⟩,some ⟨5,60,[.ag [.v (.int .u8 (wr .u8 (1 + (v6.1.tmod 10)))),.st [],.v (.bool false),.e0,.v (.int .i64 0)]],false⟩,mk 1 9 ([((((([97,98,99,100]:List UInt8).take (([97,98,99,100]:List UInt8).length:Int).toNat).drop (v6.2.2.1.tmod 4).toNat).take (1:Int).toNat).drop (0:Int).toNat)].map cdS.enc)] ?_;obtain ⟨r14,hr14,h⟩:=OB h;refine C6 (MP x0 c2 c3 c4 v6 _ hr14) ?_;refine AH ?_;refine AH ?_;obtain ⟨j27,hj27,h⟩:=OB h;refine AO (s1:=⟨Fr 98 [(3,hd 0 (j27.1.map AA.enc)),(4,.st c3),(6,.pt 1 0 0),(7,.pt 2 0 0),(8,hd 3 (j27.2.2.2.2.2.2.2.2.2.2.1.map cdS.enc)),(13,.sl 5 (((x0.take (mnI (x0.length:Int) 8).toNat).drop (0:Int).toNat).map (cdA (csC (cdK .u8) (csC (cdK .u8) (csC (cdK .u8) (csC cdB (csE cdB))))) (fun _=>rfl)).enc)),(14,.v (.int .i64 (((x0.take (mnI (x0.length:Int) 8).toNat).drop (0:Int).toNat).length:Int))),(15,.v (.int .i64 c4)),(49,.v (.bool j27.2.2.2.2.2.2.2.2.2.2.2))],[mk 5 60 (j27.1.map AA.enc),some ⟨5,107,[.ag [.v (.int .u8 j27.2.1),.v (.int .u8 j27.2.2.1),.v (.int .u8 j27.2.2.2.1),.v (.bool j27.2.2.2.2.1),.v (.bool j27.2.2.2.2.2.1)]],false⟩,some ⟨5,60,[.ag [.v (.int .u8 j27.2.2.2.2.2.2.1),.st j27.2.2.2.2.2.2.2.1,.v (.bool j27.2.2.2.2.2.2.2.2.1),.e0,.v (.int .i64 j27.2.2.2.2.2.2.2.2.2.1)]],false⟩,mk 1 9 (j27.2.2.2.2.2.2.2.2.2.2.1.map cdS.enc)]⟩) ?_ ?_
   ·refine AF (n:=98) AC 3 [(3,hd 0 (c2.map AA.enc)),(4,.st c3),(6,.pt 1 0 0),(7,.pt 2 0 0),(8,hd 3 (r14.map cdS.enc)),(13,.sl 5 (((x0.take (mnI (x0.length:Int) 8).toNat).drop (0:Int).toNat).map (cdA (csC (cdK .u8) (csC (cdK .u8) (csC (cdK .u8) (csC cdB (csE cdB))))) (fun _=>rfl)).enc)),(14,.v (.int .i64 (((x0.take (mnI (x0.length:Int) 8).toNat).drop (0:Int).toNat).length:Int))),(15,.v (.int .i64 c4)),(45,.v (.bool v6.2.2.2.2))] [mk 5 60 (c2.map AA.enc),some ⟨5,107,[.ag [.v (.int .u8 v6.1),.v (.int .u8 v6.2.1),.v (.int .u8 v6.2.2.1),.v (.bool v6.2.2.2.1),.v (.bool v6.2.2.2.2)]],false⟩,some ⟨5,60,[.ag [.v (.int .u8 (wr .u8 (1 + (v6.1.tmod 10)))),.st [],.v (.bool false),.e0,.v (.int .i64 0)]],false⟩,mk 1 9 (r14.map cdS.enc)] kr ?_
    rcases BE v6.2.2.2.2 with hc2062 | hc2062
    ·rw [if_pos hc2062] at hj27
     rw [hc2062];refine AF (n:=98) AC 4 [(3,hd 0 (c2.map AA.enc)),(4,.st c3),(6,.pt 1 0 0),(7,.pt 2 0 0),(8,hd 3 (r14.map cdS.enc)),(13,.sl 5 (((x0.take (mnI (x0.length:Int) 8).toNat).drop (0:Int).toNat).map (cdA (csC (cdK .u8) (csC (cdK .u8) (csC (cdK .u8) (csC cdB (csE cdB))))) (fun _=>rfl)).enc)),(14,.v (.int .i64 (((x0.take (mnI (x0.length:Int) 8).toNat).drop (0:Int).toNat).length:Int))),(15,.v (.int .i64 c4)),(46,.pt 2 0 0),(47,.v (.int .u8 (wr .u8 (1 + (v6.1.tmod 10))))),(48,.v (.bool ((wr .u8 (1 + (v6.1.tmod 10)))!=1))),(49,.v (.bool ((wr .u8 (1 + (v6.1.tmod 10)))!=1)))] [mk 5 60 (c2.map AA.enc),some ⟨5,107,[.ag [.v (.int .u8 v6.1),.v (.int .u8 v6.2.1),.v (.int .u8 v6.2.2.1),.v (.bool v6.2.2.2.1),.v (.bool true)]],false⟩,some ⟨5,60,[.ag [.v (.int .u8 (wr .u8 (1 + (v6.1.tmod 10)))),.st [],.v (.bool false),.e0,.v (.int .i64 0)]],false⟩,mk 1 9 (r14.map cdS.enc)] kr ?_;have hq:=OI hj27; subst hq;exact AL rfl (Au [0,1,2,3] ⟨⟨_,rfl,DQ⟩,⟨_,rfl,Cw⟩,⟨_,rfl,Cw⟩,⟨_,rfl,DQ⟩,trivial⟩ ⟨DR (b':=0) kr kr,lv,lv,lv,DR (b':=3) kr kr,lv,lv,lv,lv,trivial⟩)
    ·rw [Cr hc2062] at hj27
     rw [hc2062];refine AF (n:=98) AC 4 [(3,hd 0 (c2.map AA.enc)),(4,.st c3),(6,.pt 1 0 0),(7,.pt 2 0 0),(8,hd 3 (r14.map cdS.enc)),(13,.sl 5 (((x0.take (mnI (x0.length:Int) 8).toNat).drop (0:Int).toNat).map (cdA (csC (cdK .u8) (csC (cdK .u8) (csC (cdK .u8) (csC cdB (csE cdB))))) (fun _=>rfl)).enc)),(14,.v (.int .i64 (((x0.take (mnI (x0.length:Int) 8).toNat).drop (0:Int).toNat).length:Int))),(15,.v (.int .i64 c4)),(46,.tp []),(47,.tp []),(48,.tp []),(49,.v (.bool false))] [mk 5 60 (c2.map AA.enc),some ⟨5,107,[.ag [.v (.int .u8 v6.1),.v (.int .u8 v6.2.1),.v (.int .u8 v6.2.2.1),.v (.bool v6.2.2.2.1),.v (.bool false)]],false⟩,some ⟨5,60,[.ag [.v (.int .u8 (wr .u8 (1 + (v6.1.tmod 10)))),.st [],.v (.bool false),.e0,.v (.int .i64 0)]],false⟩,mk 1 9 (r14.map cdS.enc)] kr ?_;have hq:=OI hj27; subst hq;exact AL rfl (Au [0,1,2,3] ⟨⟨_,rfl,DQ⟩,⟨_,rfl,Cw⟩,⟨_,rfl,Cw⟩,⟨_,rfl,DQ⟩,trivial⟩ ⟨DR (b':=0) kr kr,lv,lv,lv,DR (b':=3) kr kr,lv,lv,lv,lv,trivial⟩)
   obtain ⟨r40,hr40,h⟩:=OB h;refine C6 (MQ x0 c3 c4 j27 _ hr40) ?_;refine AH ?_;refine AM AC [(3,hd 0 (r40.1.map AA.enc)),(4,.st c3),(6,.pt 1 0 0),(7,.pt 2 0 0),(8,hd 3 (r40.2.2.2.2.2.2.2.2.2.2.map cdS.enc)),(13,.sl 5 (((x0.take (mnI (x0.length:Int) 8).toNat).drop (0:Int).toNat).map (cdA (csC (cdK .u8) (csC (cdK .u8) (csC (cdK .u8) (csC cdB (csE cdB))))) (fun _=>rfl)).enc)),(14,.v (.int .i64 (((x0.take (mnI (x0.length:Int) 8).toNat).drop (0:Int).toNat).length:Int))),(15,.v (.int .i64 c4)),(53,.v (.int .u8 r40.2.2.2.2.2.2.1))] [mk 5 60 (r40.1.map AA.enc),some ⟨5,107,[.ag [.v (.int .u8 r40.2.1),.v (.int .u8 r40.2.2.1),.v (.int .u8 r40.2.2.2.1),.v (.bool r40.2.2.2.2.1),.v (.bool r40.2.2.2.2.2.1)]],false⟩,some ⟨5,60,[.ag [.v (.int .u8 r40.2.2.2.2.2.2.1),.st r40.2.2.2.2.2.2.2.1,.v (.bool r40.2.2.2.2.2.2.2.2.1),.e0,.v (.int .i64 r40.2.2.2.2.2.2.2.2.2.1)]],false⟩,mk 1 9 (r40.2.2.2.2.2.2.2.2.2.2.map cdS.enc)] ?_;refine Bh ?_;refine AM AC [(3,hd 0 (r40.1.map AA.enc)),(4,.st c3),(6,.pt 1 0 0),(7,.pt 2 0 0),(8,hd 3 (r40.2.2.2.2.2.2.2.2.2.2.map cdS.enc)),(13,.sl 5 (((x0.take (mnI (x0.length:Int) 8).toNat).drop (0:Int).toNat).map (cdA (csC (cdK .u8) (csC (cdK .u8) (csC (cdK .u8) (csC cdB (csE cdB))))) (fun _=>rfl)).enc)),(14,.v (.int .i64 (((x0.take (mnI (x0.length:Int) 8).toNat).drop (0:Int).toNat).length:Int))),(15,.v (.int .i64 c4)),(53,.v (.int .u8 r40.2.2.2.2.2.2.1)),(54,.v (.bool (r40.2.2.2.2.2.2.1==1)))] [mk 5 60 (r40.1.map AA.enc),some ⟨5,107,[.ag [.v (.int .u8 r40.2.1),.v (.int .u8 r40.2.2.1),.v (.int .u8 r40.2.2.2.1),.v (.bool r40.2.2.2.2.1),.v (.bool r40.2.2.2.2.2.1)]],false⟩,some ⟨5,60,[.ag [.v (.int .u8 r40.2.2.2.2.2.2.1),.st r40.2.2.2.2.2.2.2.1,.v (.bool r40.2.2.2.2.2.2.2.2.1),.e0,.v (.int .i64 r40.2.2.2.2.2.2.2.2.2.1)]],false⟩,mk 1 9 (r40.2.2.2.2.2.2.2.2.2.2.map cdS.enc)] ?_;obtain ⟨r2060,hr2060,h⟩:=OB h;refine C6 (MR x0 c3 c4 r40 _ hr2060) ?_;by_cases hk2061:(Fe 64 (r2060.1.length + 1))=true
   case neg=>rw [if_neg hk2061] at h; cases h
   rw [if_pos hk2061] at h;refine AO (s1:=⟨Fr 98 [(3,hd 0 ((r2060.1++[r2060.2.2]).map AA.enc)),(4,.st r2060.2.1),(13,.sl 5 (((x0.take (mnI (x0.length:Int) 8).toNat).drop (0:Int).toNat).map (cdA (csC (cdK .u8) (csC (cdK .u8) (csC (cdK .u8) (csC cdB (csE cdB))))) (fun _=>rfl)).enc)),(14,.v (.int .i64 (((x0.take (mnI (x0.length:Int) 8).toNat).drop (0:Int).toNat).length:Int))),(15,.v (.int .i64 c4))],[mk 5 60 ((r2060.1++[r2060.2.2]).map AA.enc)]⟩) ?_ ?_
   ·refine AF (n:=98) AC 3 [(4,.st r2060.2.1),(13,.sl 5 (((x0.take (mnI (x0.length:Int) 8).toNat).drop (0:Int).toNat).map (cdA (csC (cdK .u8) (csC (cdK .u8) (csC (cdK .u8) (csC cdB (csE cdB))))) (fun _=>rfl)).enc)),(14,.v (.int .i64 (((x0.take (mnI (x0.length:Int) 8).toNat).drop (0:Int).toNat).length:Int))),(15,.v (.int .i64 c4)),(92,hd 0 (r2060.1.map AA.enc)),(94,hd 2 ([r2060.2.2].map AA.enc))] [mk 5 60 (r2060.1.map AA.enc),some ⟨5,60,[AA.enc r2060.2.2],false⟩,mk 5 60 ([r2060.2.2].map AA.enc)] kr ?_
    refine Aq AC 0 rfl (TK (AB rfl) rfl kr kr (Hr (a:=hd 0 (r2060.1.map AA.enc)) (b:=hd 2 ([r2060.2.2].map AA.enc)) kr kr (Kp (c:=AA) (xs:=r2060.1) (vs:=[r2060.2.2]) (k:=5) (bytes:=64) (el:=60) kr kr (K6 (t:=60) kr) (List.cons_ne_nil _ _) kr hk2061))) ?_;refine AF (n:=98) AC 1 [(3,hd 3 ((r2060.1++[r2060.2.2]).map AA.enc)),(4,.st r2060.2.1),(13,.sl 5 (((x0.take (mnI (x0.length:Int) 8).toNat).drop (0:Int).toNat).map (cdA (csC (cdK .u8) (csC (cdK .u8) (csC (cdK .u8) (csC cdB (csE cdB))))) (fun _=>rfl)).enc)),(14,.v (.int .i64 (((x0.take (mnI (x0.length:Int) 8).toNat).drop (0:Int).toNat).length:Int))),(15,.v (.int .i64 c4))] [none,some ⟨5,60,[AA.enc r2060.2.2],false⟩,mk 5 60 ([r2060.2.2].map AA.enc),mk 5 60 ((r2060.1++[r2060.2.2]).map AA.enc)] kr ?_;exact AL rfl (Au [3] ⟨⟨_,rfl,DQ⟩,trivial⟩ ⟨DR (b':=3) kr kr,lv,lv,lv,lv,trivial⟩)
   refine Eq AC [(3,hd 0 ((r2060.1++[r2060.2.2]).map AA.enc)),(4,.st r2060.2.1),(13,.sl 5 (((x0.take (mnI (x0.length:Int) 8).toNat).drop (0:Int).toNat).map (cdA (csC (cdK .u8) (csC (cdK .u8) (csC (cdK .u8) (csC cdB (csE cdB))))) (fun _=>rfl)).enc)),(14,.v (.int .i64 (((x0.take (mnI (x0.length:Int) 8).toNat).drop (0:Int).toNat).length:Int))),(15,.v (.int .i64 (wr .i64 (c4 + 1))))] [mk 5 60 ((r2060.1++[r2060.2.2]).map AA.enc)] ?_;exact CF (s1:=⟨Fr 98 [(3,hd 0 ((r2060.1++[r2060.2.2]).map AA.enc)),(4,.st r2060.2.1),(13,.sl 5 (((x0.take (mnI (x0.length:Int) 8).toNat).drop (0:Int).toNat).map (cdA (csC (cdK .u8) (csC (cdK .u8) (csC (cdK .u8) (csC cdB (csE cdB))))) (fun _=>rfl)).enc)),(14,.v (.int .i64 (((x0.take (mnI (x0.length:Int) 8).toNat).drop (0:Int).toNat).length:Int))),(15,.v (.int .i64 (wr .i64 (c4 + 1))))],[mk 5 60 ((r2060.1++[r2060.2.2]).map AA.enc)]⟩) (Au [0] ⟨⟨_,rfl,DQ⟩,trivial⟩ ⟨DR (b':=0) kr kr,lv,lv,lv,lv,trivial⟩) (ih (r2060.1++[r2060.2.2]) r2060.2.1 (wr .i64 (c4 + 1)) h)
  ·rw [Cr hb5] at h
   refine FD ?_;have hq:=OI h; subst hq;exact ⟨rfl,(Au [0] ⟨⟨_,rfl,DQ⟩,trivial⟩ ⟨DR (b':=0) kr kr,trivial⟩)⟩
theorem TB {α:Type}{c:Cd α}{k:Nat}{t:TypeId}{h:Hp}{L:List Asn}{xs:List α}{x:AV}{h':Hp}(ht:T h L) (hO:x=hd 0 (xs.map c.enc)/\h'=[mk k t (xs.map c.enc)]):∃ e hp,e=shN h.length x/\hp=h++h'/\T hp (own_ (ocL k t (ocV c)) e xs::L):=by
 obtain ⟨rfl,rfl⟩:=hO
 cases xs with
 | nil=>exact ⟨.e0,h++[none],rfl,rfl,T.e0 (ht.grow fun b hb=>List.getElem?_append_left hb)⟩
 | cons a r =>
  refine ⟨.rf h.length 0 (a::r).length (a::r).length,h++[some ⟨k,t,(a::r).map c.enc,false⟩],?_,rfl,O4 (Oq ht) rfl⟩
  show _=shN h.length (.rf 0 0 (List.map c.enc (a::r)).length (List.map c.enc (a::r)).length)
  rw [List.length_map]
  rfl
theorem TA {α:Type}{c:Cd α}{k:Nat}{t:TypeId}{xs:List α}:∀ (x:AV) (h':Hp),(x=hd 0 (xs.map c.enc)/\h'=[mk k t (xs.map c.enc)])->NJ x=true/\Oy h'=true:=by
 rintro x h' ⟨rfl,rfl⟩
 cases xs with
 | nil=>exact ⟨rfl,rfl⟩
 | cons a r=>exact ⟨rfl,Pz (a::r)⟩
/-- What a call hands back, out of what the body does; the interpreter need not take the function. -/
theorem Qx {f:FuncId}{fn:Func}{c:Code}(hf:E0.P.funcs[f]? = some fn) (hc:fn.body=some c) (hcall:B4 E0.P f){ys:List AV}(hle:ys.length<=fn.ntmps){Out:AV->Hp->Prop}
  (sem:Sem E0 ⟨none,false⟩ c ⟨Fr fn.ntmps (BS 0 ys),[]⟩ fun x s'=>(x = .normal\/x = .ret)/\∃ xs,Eo E0.P s'.fr s'.hp fn.results.toList=some xs/\Out (Er xs) s'.hp):SOk f ys Out:=by
 refine ⟨hcall,fun w Z us hz hg hv=>?_⟩
 have hh:HR w Z [] []:=⟨rfl,fun b B hB=>by simp at hB,fun b b' B B' r r' hB=>by simp at hB,hz⟩
 refine Ret.mono (Ri hf hc hle (Q:=fun _ s=>∃ x,s.fr=[some x]/\Out x s.hp) (Sem.mono (CD (Wk.enter hle) sem) fun e s' hs=>?_) hh hv hg) fun v w' hS=>?_
 ·obtain ⟨h1,xs,h2,h3⟩:=hs
  exact ⟨h1,xs,h2,_,rfl,h3⟩
 ·obtain ⟨Z',R',x,h',⟨y,hy,hO⟩,k1,k2,st⟩:=hS
  have hy:x=y:=by simpa using hy
  subst hy
  exact ⟨Z',R',x,h',hO,k1,k2,st⟩
/- trestle/trestlelaw03.Made: with what it hands back as own -/
theorem ND (x0:(List (Int×Int×Int×Bool×Bool))) (r:(List AE)) (h:Ht x0=some r):Sem E0 ⟨none,false⟩ Cj ⟨Fr 98 (BS 0 (K4.enc (x0,()))),[]⟩ fun e s'=>(e = .normal\/e = .ret)/\∃ xs,Eo E0.P s'.fr s'.hp Tryz.f19.results.toList=some xs/\(Er xs=hd 0 (r.map AA.enc)/\s'.hp=[mk 5 60 (r.map AA.enc)]):=by
 unfold Ht at h
 let p1:Nat×AV:=(0,.sl 5 (x0.map (cdA (csC (cdK .u8) (csC (cdK .u8) (csC (cdK .u8) (csC cdB (csE cdB))))) (fun _=>rfl)).enc))
 refine BJ (CD (s1:=⟨Fr 98 [p1],[]⟩) AT ?_);refine AM AC [p1] [] ?_;refine AM AC [p1,(3,.e0)] [] ?_;refine AM AC [p1,(3,.e0),(4,.st [])] [] ?_;refine AH ?_;refine AH ?_;by_cases hk1:(Do 0 (mnI (x0.length:Int) 8) x0.length)=true
 case neg=>rw [if_neg hk1] at h; cases h
 rw [if_pos hk1] at h
 let p2:Nat×AV:=(15,.v (.int .i64 0))
 let p3:Nat×AV:=(14,.v (.int .i64 (((x0.take (mnI (x0.length:Int) 8).toNat).drop (0:Int).toNat).length:Int)))
 let p4:Nat×AV:=(13,.sl 5 (((x0.take (mnI (x0.length:Int) 8).toNat).drop (0:Int).toNat).map (cdA (csC (cdK .u8) (csC (cdK .u8) (csC (cdK .u8) (csC cdB (csE cdB))))) (fun _=>rfl)).enc))
 refine AO (s1:=⟨Fr 98 [(3,.e0),(4,.st []),p4,p3,p2],[]⟩) ?_ ?_
 ·let p5:Nat×AV:=(9,.sl 5 (x0.map (cdA (csC (cdK .u8) (csC (cdK .u8) (csC (cdK .u8) (csC cdB (csE cdB))))) (fun _=>rfl)).enc))
  refine AF (n:=98) AC 2 [(3,.e0),(4,.st []),p5,(10,.sl 5 (x0.map (cdA (csC (cdK .u8) (csC (cdK .u8) (csC (cdK .u8) (csC cdB (csE cdB))))) (fun _=>rfl)).enc))] [] kr ?_;refine Aq AC 0 rfl (EM (AB rfl) rfl (FU (a:= .sl 5 (x0.map (cdA (csC (cdK .u8) (csC (cdK .u8) (csC (cdK .u8) (csC cdB (csE cdB))))) (fun _=>rfl)).enc)) kr (Dq (el:=107) kr))) ?_;refine AF (n:=98) AC 1 [(3,.e0),(4,.st []),p5,(12,.v (.int .i64 (mnI (x0.length:Int) 8)))] [] kr ?_;refine Aq AC 0 rfl (EM (AB rfl) rfl (En (a:= .sl 5 (x0.map (cdA (csC (cdK .u8) (csC (cdK .u8) (csC (cdK .u8) (csC cdB (csE cdB))))) (fun _=>rfl)).enc)) (l:=none) (u:=(some (.v (.int .i64 (mnI (x0.length:Int) 8))))) (m:=none) kr kr kr rfl (LH (xs:=x0) (e:=(cdA (csC (cdK .u8) (csC (cdK .u8) (csC (cdK .u8) (csC cdB (csE cdB))))) (fun _=>rfl)).enc) (k:=5) (el:=107) (lo:=0) (hi:=(mnI (x0.length:Int) 8)) kr kr rfl (G7 (Jt hk1)) hk1))) ?_;refine Aq AC 0 rfl (EM (AB rfl) rfl (FU (a:= .sl 5 (((x0.take (mnI (x0.length:Int) 8).toNat).drop (0:Int).toNat).map (cdA (csC (cdK .u8) (csC (cdK .u8) (csC (cdK .u8) (csC cdB (csE cdB))))) (fun _=>rfl)).enc)) kr (Dq (el:=107) kr))) ?_;exact A5 AC
 refine Bh ?_;obtain ⟨r2064,hr2064,h⟩:=OB h;refine FE (n:=100000) ?_
 let p6:Nat×AV:=(3,hd 0 ([].map AA.enc))
 refine Cn (CF (s1:=⟨Fr 98 [p6,(4,.st []),p4,p3,p2],[mk 5 60 ([].map AA.enc)]⟩) (Wk.trans (s1:=⟨Fr 98 [p6,(4,.st []),p4,p3,p2],[mk 5 60 ([].map AA.enc)]⟩) Wk.none (Au [0] ⟨⟨_,rfl,Oj⟩,trivial⟩ ⟨lv,lv,lv,lv,lv,trivial⟩)) (MT x0 _ [] [] 0 _ hr2064)) ?_
 let p7:Option Blk:=mk 5 60 (r2064.map AA.enc)
 let p8:Nat×AV:=(2,hd 0 (r2064.map AA.enc))
 refine AM AC [p8] [p7] ?_;refine AX ?_;have hq:=OI h; subst hq;exact ⟨⟨Fr 98 [p8],[p7]⟩,(Au [0] ⟨⟨_,rfl,DQ⟩,trivial⟩ ⟨DR (b':=0) kr kr,trivial⟩),.inr rfl,[hd 0 (r2064.map AA.enc)],kr,rfl,rfl⟩
theorem P7 (x0:(List (Int×Int×Int×Bool×Bool))) (r:(List AE)) (h:Ht x0=some r):SOk 19 (K4.enc (x0,())) (fun x h'=>x=hd 0 (r.map AA.enc)/\h'=[mk 5 60 (r.map AA.enc)]):=Qx Tryz.func19 (c:=Cj) (show Tryz.f19.body=some Cj by kernel_rfl) ⟨Tryz.call19⟩ (by show 1<=98; decide) (ND x0 r h)
def by8 (ns:List Int):List UInt8:=ns.map fun n=>UInt8.ofNat n.toNat
theorem Uz {w:World}{Z:Nat->Prop}{R:List RI}:∀ {ns:List Int}{us:List Value},VRs w Z R (ns.map fun k=> .v (.int .u8 k)) us->us=ns.map (Value.int .u8)
 | [],us,h=>by
  have:=h.len
  simpa using this
 | k::ns,[],h=>by
  have:=h.len
  simp at this
 | k::ns,u::us,h=>by
  have h0:=h.at_ 0 (.v (.int .u8 k)) u rfl rfl
  have h1:u = .int .u8 k:=by cases h0; rfl
  have h2:VRs w Z R (ns.map fun k=> .v (.int .u8 k)) us:=⟨by have:=h.len; simpa using this,fun i x u hx hu=>h.at_ (i + 1) x u (by simpa using hx) (by simpa using hu)⟩
  rw [h1,Uz h2]; rfl
theorem Ss:∀ (ns:List Int),Ba (ns.map (Value.int .u8))=ns.map (Value.int .u8)
 | []=>rfl
 | k::ns=>by
  have:=Ss ns
  unfold Ba at *
  simp only [List.map_cons,List.flatten_cons,this]
  rfl
theorem RunS.bytes {E:Env}{ops:Array Oper}{rest rest':List Oper}{n:Nat}{l:List (Nat×AV)}{hp:Hp}{K:St->Prop}{d:Nat}{a b e:TypeId}{x:Operand}{ty:TypeId}{pos:String}{af:Array Edge}{g:Option (Nat×Bool)}{bb lo q c:Nat}(ns:List Int) (hr:rest=⟨some d,.convert a b x,ty,pos,af,g⟩::rest') (hw:CC ops (Fr n l) ⟨some d,.convert a b x,ty,pos,af,g⟩=some true)
  (h1:E.P.underlying a=some (.slice e)) (h2:E.P.underlying e=some (.int .u8)) (h3:E.P.underlying b=some .string) (hx:opA E (Fr n l) x=some (.rf bb lo q c)) (hl:Ja hp 1 (.rf bb lo q c)=some (ns.map fun k=> .v (.int .u8 k))) (hn:Nat.ble ns.length maxLen=true) (kk:RunS E ops rest' ⟨Fr n ((d,.st (by8 ns))::l),hp⟩ K):RunS E ops rest ⟨Fr n l,hp⟩ K:=by
 subst hr
 intro base Q ac w Z R sr qq
 refine JD rfl (wantedA_eq sr hw) ?_
 have hv:=opA_vr sr x _ hx
 unfold Lw
 generalize hva:ac.eval x=v at hv
 have hso:Jg E.P a (.rf bb lo q c)=true:=by unfold Jg; rw [h1]
 obtain ⟨us,u1,u2,u3,u4⟩:=My sr.hh hv hso hl
 cases hv with
 | rf hr h0 h4 h5 h6 =>
  rename_i m r
  have hus:=Uz u1
  subst hus
  have hq:q=ns.length:=by
   simp only [Ja] at hl
   split at hl
   ·split at hl
    ·next hc =>
     injection hl with hl
     have:=congrArg List.length hl
     simp at this
     omega
    ·cases hl
   ·cases hl
  subst hq
  have hf:=u4 ns.length (by simp)
  have hfc:(loadCells ⟨r.c,lo * r.k,none⟩ ns.length).run E.P w = .ok (ns.map (Value.int .u8)).toArray w:=by
   simpa [Builtin.firstCells,List.take_of_length_le,Ss] using hf
  have hrun:(execOp ac.eval ⟨some d,.convert a b x,ty,pos,af,g⟩).run E.P w = .ok (.value (.string (strOfNums ns))) w:=by
   have:=run_convert_bytes_string (P:=E.P) w a b e (some ⟨r.c,lo * r.k,none⟩) ns.length m h1 h2 h3
   rw [run_bytesToString w _ ns.length m ns hfc,foldl_push_bytes] at this
   have e2:(⟨ByteArray.empty.data++(ns.map fun n=>UInt8.ofNat n.toNat).toArray⟩:ByteArray)=strOfNums ns:=by
    simp [strOfNums,ByteArray.empty,ByteArray.emptyWithCapacity]
    rfl
   rw [e2] at this
   simp [execOp,hva,this]
  rw [hrun]
  have sr':=sr.put (d:=some d) (VR.st (w:=w) (Z:=Z) (ρ:=R) (s:=strOfNums ns) (bs:=by8 ns) (strOfNums_data ns) (by unfold by8; rw [List.length_map]; exact Nat.le_of_ble_eq_true hn))
  exact kk base Q _ w Z R (by rwa [DO] at sr') qq
/- trestle/trestlelaw03.Guest -/
noncomputable def Et:Code:=Bo Tryz.f74
def Eu (x0:(Int×Int)) (x1:(List UInt8)):Option ((Int×Int×(List UInt8)×(List UInt8)×(List UInt8)×Int×Int×(List UInt8)×Bool×Bool×(List UInt8)×(List UInt8)×(List UInt8)×Int×Int×(List UInt8)×Bool×Bool)) :=
 if ((Du .u8 x0.1 4)!=0)=true then
 if (Do (Du .u8 (x0.1.fdiv 8) 3) (([97,98,99,100]:List UInt8).length:Int) ([97,98,99,100]:List UInt8).length)=true then
 if (Do 0 (1:Int) ((([97,98,99,100]:List UInt8).take (([97,98,99,100]:List UInt8).length:Int).toNat).drop (Du .u8 (x0.1.fdiv 8) 3).toNat).length)=true then
 some (x0.1,x0.2,[],[],[],0,0,[],false,false,x1,((((([97,98,99,100]:List UInt8).take (([97,98,99,100]:List UInt8).length:Int).toNat).drop (Du .u8 (x0.1.fdiv 8) 3).toNat).take (1:Int).toNat).drop (0:Int).toNat),[],(wr .i64 (10 * (wr .i64 (x0.2.tmod 4)))),(wr .i64 (x0.1.tmod 3)),[],((Du .u8 x0.1 64)!=0),((Du .u8 x0.2 128)!=0))
 else none
 else none
 else
 some (x0.1,x0.2,[],[],[],0,0,[],false,false,x1,[],[],(wr .i64 (10 * (wr .i64 (x0.2.tmod 4)))),(wr .i64 (x0.1.tmod 3)),[],((Du .u8 x0.1 64)!=0),((Du .u8 x0.2 128)!=0))
def Ev (r22:Int×Int×(List UInt8)×(List UInt8)×(List UInt8)×Int×Int×(List UInt8)×Bool×Bool×(List UInt8)×(List UInt8)×(List UInt8)×Int×Int×(List UInt8)×Bool×Bool):Option ((Int×Int×(List UInt8)×(List UInt8)×(List UInt8)×Int×Int×(List UInt8)×Bool×Bool×(List UInt8)×(List UInt8)×(List UInt8)×Int×Int×(List UInt8)×Bool×Bool)) :=
 if ((Du .u8 r22.2.1 4)!=0)=true then
 if (Do (Du .u8 (r22.2.1.fdiv 8) 3) (([97,98,99,100]:List UInt8).length:Int) ([97,98,99,100]:List UInt8).length)=true then
 if (Do 0 (1:Int) ((([97,98,99,100]:List UInt8).take (([97,98,99,100]:List UInt8).length:Int).toNat).drop (Du .u8 (r22.2.1.fdiv 8) 3).toNat).length)=true then
 some (r22.1,r22.2.1,r22.2.2.1,r22.2.2.2.1,r22.2.2.2.2.1,r22.2.2.2.2.2.1,r22.2.2.2.2.2.2.1,r22.2.2.2.2.2.2.2.1,r22.2.2.2.2.2.2.2.2.1,r22.2.2.2.2.2.2.2.2.2.1,r22.2.2.2.2.2.2.2.2.2.2.1,r22.2.2.2.2.2.2.2.2.2.2.2.1,((((([97,98,99,100]:List UInt8).take (([97,98,99,100]:List UInt8).length:Int).toNat).drop (Du .u8 (r22.2.1.fdiv 8) 3).toNat).take (1:Int).toNat).drop (0:Int).toNat),r22.2.2.2.2.2.2.2.2.2.2.2.2.2.1,r22.2.2.2.2.2.2.2.2.2.2.2.2.2.2.1,r22.2.2.2.2.2.2.2.2.2.2.2.2.2.2.2.1,r22.2.2.2.2.2.2.2.2.2.2.2.2.2.2.2.2.1,r22.2.2.2.2.2.2.2.2.2.2.2.2.2.2.2.2.2)
 else none
 else none
 else
 some (r22.1,r22.2.1,r22.2.2.1,r22.2.2.2.1,r22.2.2.2.2.1,r22.2.2.2.2.2.1,r22.2.2.2.2.2.2.1,r22.2.2.2.2.2.2.2.1,r22.2.2.2.2.2.2.2.2.1,r22.2.2.2.2.2.2.2.2.2.1,r22.2.2.2.2.2.2.2.2.2.2.1,r22.2.2.2.2.2.2.2.2.2.2.2.1,r22.2.2.2.2.2.2.2.2.2.2.2.2.1,r22.2.2.2.2.2.2.2.2.2.2.2.2.2.1,r22.2.2.2.2.2.2.2.2.2.2.2.2.2.2.1,r22.2.2.2.2.2.2.2.2.2.2.2.2.2.2.2.1,r22.2.2.2.2.2.2.2.2.2.2.2.2.2.2.2.2.1,r22.2.2.2.2.2.2.2.2.2.2.2.2.2.2.2.2.2)
def Ew (r44:Int×Int×(List UInt8)×(List UInt8)×(List UInt8)×Int×Int×(List UInt8)×Bool×Bool×(List UInt8)×(List UInt8)×(List UInt8)×Int×Int×(List UInt8)×Bool×Bool):Option ((Int×Int×(List UInt8)×(List UInt8)×(List UInt8)×Int×Int×(List UInt8)×Bool×Bool×(List UInt8)×(List UInt8)×(List UInt8)×Int×Int×(List UInt8)×Bool×Bool×(List (List UInt8)))) :=
 if ((Du .u8 r44.2.1 64)!=0)=true then
 if (Do (Du .u8 (r44.1.fdiv 16) 3) (([97,98,99,100]:List UInt8).length:Int) ([97,98,99,100]:List UInt8).length)=true then
 if (Do 0 (1:Int) ((([97,98,99,100]:List UInt8).take (([97,98,99,100]:List UInt8).length:Int).toNat).drop (Du .u8 (r44.1.fdiv 16) 3).toNat).length)=true then
 some (r44.1,r44.2.1,r44.2.2.1,r44.2.2.2.1,r44.2.2.2.2.1,r44.2.2.2.2.2.1,r44.2.2.2.2.2.2.1,r44.2.2.2.2.2.2.2.1,r44.2.2.2.2.2.2.2.2.1,r44.2.2.2.2.2.2.2.2.2.1,r44.2.2.2.2.2.2.2.2.2.2.1,r44.2.2.2.2.2.2.2.2.2.2.2.1,r44.2.2.2.2.2.2.2.2.2.2.2.2.1,r44.2.2.2.2.2.2.2.2.2.2.2.2.2.1,r44.2.2.2.2.2.2.2.2.2.2.2.2.2.2.1,r44.2.2.2.2.2.2.2.2.2.2.2.2.2.2.2.1,r44.2.2.2.2.2.2.2.2.2.2.2.2.2.2.2.2.1,r44.2.2.2.2.2.2.2.2.2.2.2.2.2.2.2.2.2,[((((([97,98,99,100]:List UInt8).take (([97,98,99,100]:List UInt8).length:Int).toNat).drop (Du .u8 (r44.1.fdiv 16) 3).toNat).take (1:Int).toNat).drop (0:Int).toNat)])
 else none
 else none
 else
 some (r44.1,r44.2.1,r44.2.2.1,r44.2.2.2.1,r44.2.2.2.2.1,r44.2.2.2.2.2.1,r44.2.2.2.2.2.2.1,r44.2.2.2.2.2.2.2.1,r44.2.2.2.2.2.2.2.2.1,r44.2.2.2.2.2.2.2.2.2.1,r44.2.2.2.2.2.2.2.2.2.2.1,r44.2.2.2.2.2.2.2.2.2.2.2.1,r44.2.2.2.2.2.2.2.2.2.2.2.2.1,r44.2.2.2.2.2.2.2.2.2.2.2.2.2.1,r44.2.2.2.2.2.2.2.2.2.2.2.2.2.2.1,r44.2.2.2.2.2.2.2.2.2.2.2.2.2.2.2.1,r44.2.2.2.2.2.2.2.2.2.2.2.2.2.2.2.2.1,r44.2.2.2.2.2.2.2.2.2.2.2.2.2.2.2.2.2,[])
def Ey (r67:Int×Int×(List UInt8)×(List UInt8)×(List UInt8)×Int×Int×(List UInt8)×Bool×Bool×(List UInt8)×(List UInt8)×(List UInt8)×Int×Int×(List UInt8)×Bool×Bool×(List (List UInt8))):Option (((List UInt8)×(List UInt8)×(List UInt8)×Int×Int×(List UInt8)×Bool×Bool×(List UInt8)×(List UInt8)×(List UInt8)×Int×Int×(List UInt8)×Bool×Bool×(List (List UInt8)))) :=
 if ((Du .u8 r67.1 128)!=0)=true then
 if (Do (Du .u8 (r67.2.1.fdiv 16) 3) (([97,98,99,100]:List UInt8).length:Int) ([97,98,99,100]:List UInt8).length)=true then
 if (Do 0 (1:Int) ((([97,98,99,100]:List UInt8).take (([97,98,99,100]:List UInt8).length:Int).toNat).drop (Du .u8 (r67.2.1.fdiv 16) 3).toNat).length)=true then
 some (r67.2.2.1,r67.2.2.2.1,r67.2.2.2.2.1,r67.2.2.2.2.2.1,r67.2.2.2.2.2.2.1,r67.2.2.2.2.2.2.2.1,r67.2.2.2.2.2.2.2.2.1,r67.2.2.2.2.2.2.2.2.2.1,r67.2.2.2.2.2.2.2.2.2.2.1,r67.2.2.2.2.2.2.2.2.2.2.2.1,r67.2.2.2.2.2.2.2.2.2.2.2.2.1,r67.2.2.2.2.2.2.2.2.2.2.2.2.2.1,r67.2.2.2.2.2.2.2.2.2.2.2.2.2.2.1,((((([97,98,99,100]:List UInt8).take (([97,98,99,100]:List UInt8).length:Int).toNat).drop (Du .u8 (r67.2.1.fdiv 16) 3).toNat).take (1:Int).toNat).drop (0:Int).toNat),r67.2.2.2.2.2.2.2.2.2.2.2.2.2.2.2.2.1,r67.2.2.2.2.2.2.2.2.2.2.2.2.2.2.2.2.2.1,r67.2.2.2.2.2.2.2.2.2.2.2.2.2.2.2.2.2.2)
 else none
 else none
 else
 some (r67.2.2.1,r67.2.2.2.1,r67.2.2.2.2.1,r67.2.2.2.2.2.1,r67.2.2.2.2.2.2.1,r67.2.2.2.2.2.2.2.1,r67.2.2.2.2.2.2.2.2.1,r67.2.2.2.2.2.2.2.2.2.1,r67.2.2.2.2.2.2.2.2.2.2.1,r67.2.2.2.2.2.2.2.2.2.2.2.1,r67.2.2.2.2.2.2.2.2.2.2.2.2.1,r67.2.2.2.2.2.2.2.2.2.2.2.2.2.1,r67.2.2.2.2.2.2.2.2.2.2.2.2.2.2.1,r67.2.2.2.2.2.2.2.2.2.2.2.2.2.2.2.1,r67.2.2.2.2.2.2.2.2.2.2.2.2.2.2.2.2.1,r67.2.2.2.2.2.2.2.2.2.2.2.2.2.2.2.2.2.1,r67.2.2.2.2.2.2.2.2.2.2.2.2.2.2.2.2.2.2)
def Em (x0:(Int×Int)) (x1:(List UInt8)):Option (Aw) :=
 (Eu x0 x1).bind fun r22 =>
 (Ev r22).bind fun r44 =>
 (Ew r44).bind fun r67 =>
 (Ey r67).bind fun r88 =>
 some r88.2.2.2.2.2.2.2.2
def Ic:Cs (((Int×Int))×(List UInt8)×Unit):=(csC (IZ (cdK .u8) (cdK .u8) (fun _=>rfl) (fun _=>rfl)) (csC cdS csN))
def Ig (r:Aw):AV:=AI.enc r
theorem Ll (x0:(Int×Int)) (x1:(List UInt8)) (r:(Int×Int×(List UInt8)×(List UInt8)×(List UInt8)×Int×Int×(List UInt8)×Bool×Bool×(List UInt8)×(List UInt8)×(List UInt8)×Int×Int×(List UInt8)×Bool×Bool)) (h:Eu x0 x1=some r):Sem E0 ⟨none,false⟩ (pc Et [1,1,0,1]) ⟨Fr 71 [(2,.pt 0 0 0),(4,.pt 1 0 0),(5,.pt 2 0 0),(28,.v (.bool ((Du .u8 x0.1 4)!=0)))],[some ⟨2,30,[.ag [.v (.int .u8 x0.1),.v (.int .u8 x0.2)]],false⟩,some ⟨9,42,[.ag [.st [],.st [],.st [],.v (.int .i64 0),.v (.int .i64 0),.st [],.v (.bool false),.v (.bool false),.e0]],false⟩,some ⟨9,42,[.ag [.st x1,.st [],.st [],.v (.int .i64 (wr .i64 (10 * (wr .i64 (x0.2.tmod 4))))),.v (.int .i64 (wr .i64 (x0.1.tmod 3))),.st [],.v (.bool ((Du .u8 x0.1 64)!=0)),.v (.bool ((Du .u8 x0.2 128)!=0)),.e0]],false⟩]⟩ (fun e s=>e = .normal/\Wk E0 s ⟨Fr 71 [(2,.pt 0 0 0),(4,.pt 1 0 0),(5,.pt 2 0 0)],[some ⟨2,30,[.ag [.v (.int .u8 r.1),.v (.int .u8 r.2.1)]],false⟩,some ⟨9,42,[.ag [.st r.2.2.1,.st r.2.2.2.1,.st r.2.2.2.2.1,.v (.int .i64 r.2.2.2.2.2.1),.v (.int .i64 r.2.2.2.2.2.2.1),.st r.2.2.2.2.2.2.2.1,.v (.bool r.2.2.2.2.2.2.2.2.1),.v (.bool r.2.2.2.2.2.2.2.2.2.1),.e0]],false⟩,some ⟨9,42,[.ag [.st r.2.2.2.2.2.2.2.2.2.2.1,.st r.2.2.2.2.2.2.2.2.2.2.2.1,.st r.2.2.2.2.2.2.2.2.2.2.2.2.1,.v (.int .i64 r.2.2.2.2.2.2.2.2.2.2.2.2.2.1),.v (.int .i64 r.2.2.2.2.2.2.2.2.2.2.2.2.2.2.1),.st r.2.2.2.2.2.2.2.2.2.2.2.2.2.2.2.1,.v (.bool r.2.2.2.2.2.2.2.2.2.2.2.2.2.2.2.2.1),.v (.bool r.2.2.2.2.2.2.2.2.2.2.2.2.2.2.2.2.2),.e0]],false⟩]⟩):=by
 unfold Eu at h;refine AW (b:=((Du .u8 x0.1 4)!=0)) kr (fun hb1=>?_) (fun hb1=>?_)
 ·rw [if_pos hb1] at h
  by_cases hk2:(Do (Du .u8 (x0.1.fdiv 8) 3) (([97,98,99,100]:List UInt8).length:Int) ([97,98,99,100]:List UInt8).length)=true
  case neg=>rw [if_neg hk2] at h; cases h
  rw [if_pos hk2] at h;by_cases hk3:(Do 0 (1:Int) ((([97,98,99,100]:List UInt8).take (([97,98,99,100]:List UInt8).length:Int).toNat).drop (Du .u8 (x0.1.fdiv 8) 3).toNat).length)=true
  case neg=>rw [if_neg hk3] at h; cases h
  rw [if_pos hk3] at h
  let p1:Option Blk:=some ⟨9,42,[.ag [.st [],.st [],.st [],.v (.int .i64 0),.v (.int .i64 0),.st [],.v (.bool false),.v (.bool false),.e0]],false⟩
  let p2:Option Blk:=some ⟨2,30,[.ag [.v (.int .u8 x0.1),.v (.int .u8 x0.2)]],false⟩
  refine AO (s1:=⟨Fr 71 [(2,.pt 0 0 0),(4,.pt 1 0 0),(5,.pt 2 0 0)],[p2,p1,some ⟨9,42,[.ag [.st x1,.st ((((([97,98,99,100]:List UInt8).take (([97,98,99,100]:List UInt8).length:Int).toNat).drop (Du .u8 (x0.1.fdiv 8) 3).toNat).take (1:Int).toNat).drop (0:Int).toNat),.st [],.v (.int .i64 (wr .i64 (10 * (wr .i64 (x0.2.tmod 4))))),.v (.int .i64 (wr .i64 (x0.1.tmod 3))),.st [],.v (.bool ((Du .u8 x0.1 64)!=0)),.v (.bool ((Du .u8 x0.2 128)!=0)),.e0]],false⟩]⟩) ?_ ?_
  ·refine AF (n:=71) AC 4 [(2,.pt 0 0 0),(4,.pt 1 0 0),(5,.pt 2 0 0),(32,.v (.int .u8 (Du .u8 (x0.1.fdiv 8) 3)))] [p2,p1,some ⟨9,42,[.ag [.st x1,.st [],.st [],.v (.int .i64 (wr .i64 (10 * (wr .i64 (x0.2.tmod 4))))),.v (.int .i64 (wr .i64 (x0.1.tmod 3))),.st [],.v (.bool ((Du .u8 x0.1 64)!=0)),.v (.bool ((Du .u8 x0.2 128)!=0)),.e0]],false⟩] kr ?_
   refine Aq AC 0 rfl (EM (AB rfl) rfl (En (a:= .st [97,98,99,100]) (l:=(some (.v (.int .u8 (Du .u8 (x0.1.fdiv 8) 3))))) (u:=none) (m:=none) kr kr kr rfl (Fm (bs:=[97,98,99,100]) (lo:=(Du .u8 (x0.1.fdiv 8) 3)) (hi:=(([97,98,99,100]:List UInt8).length:Int)) kr (G7 (OH hk2)) rfl hk2))) ?_;refine Aq AC 0 rfl (EM (AB rfl) rfl (En (a:= .st ((([97,98,99,100]:List UInt8).take (([97,98,99,100]:List UInt8).length:Int).toNat).drop (Du .u8 (x0.1.fdiv 8) 3).toNat)) (l:=none) (u:=(some (.v (.int .i64 1)))) (m:=none) kr kr kr rfl (Fm (bs:=((([97,98,99,100]:List UInt8).take (([97,98,99,100]:List UInt8).length:Int).toNat).drop (Du .u8 (x0.1.fdiv 8) 3).toNat)) (lo:=0) (hi:=(1:Int)) kr rfl (G7 (Jt hk3)) hk3))) ?_;exact A5 AC
  have hq:=OI h; subst hq;exact ⟨rfl,(Au [0,1,2] ⟨⟨_,rfl,Cw⟩,⟨_,rfl,Cw⟩,⟨_,rfl,Cw⟩,trivial⟩ ⟨lv,lv,lv,trivial⟩)⟩
 ·rw [Cr hb1] at h
  refine Ai ?_;have hq:=OI h; subst hq;exact ⟨rfl,(Au [0,1,2] ⟨⟨_,rfl,Cw⟩,⟨_,rfl,Cw⟩,⟨_,rfl,Cw⟩,trivial⟩ ⟨lv,lv,lv,trivial⟩)⟩
theorem Lm (r22:Int×Int×(List UInt8)×(List UInt8)×(List UInt8)×Int×Int×(List UInt8)×Bool×Bool×(List UInt8)×(List UInt8)×(List UInt8)×Int×Int×(List UInt8)×Bool×Bool) (r:(Int×Int×(List UInt8)×(List UInt8)×(List UInt8)×Int×Int×(List UInt8)×Bool×Bool×(List UInt8)×(List UInt8)×(List UInt8)×Int×Int×(List UInt8)×Bool×Bool)) (h:Ev r22=some r):Sem E0 ⟨none,false⟩ (pc Et [1,1,1,0,1]) ⟨Fr 71 [(2,.pt 0 0 0),(4,.pt 1 0 0),(5,.pt 2 0 0),(39,.v (.bool ((Du .u8 r22.2.1 4)!=0)))],[some ⟨2,30,[.ag [.v (.int .u8 r22.1),.v (.int .u8 r22.2.1)]],false⟩,some ⟨9,42,[.ag [.st r22.2.2.1,.st r22.2.2.2.1,.st r22.2.2.2.2.1,.v (.int .i64 r22.2.2.2.2.2.1),.v (.int .i64 r22.2.2.2.2.2.2.1),.st r22.2.2.2.2.2.2.2.1,.v (.bool r22.2.2.2.2.2.2.2.2.1),.v (.bool r22.2.2.2.2.2.2.2.2.2.1),.e0]],false⟩,some ⟨9,42,[.ag [.st r22.2.2.2.2.2.2.2.2.2.2.1,.st r22.2.2.2.2.2.2.2.2.2.2.2.1,.st r22.2.2.2.2.2.2.2.2.2.2.2.2.1,.v (.int .i64 r22.2.2.2.2.2.2.2.2.2.2.2.2.2.1),.v (.int .i64 r22.2.2.2.2.2.2.2.2.2.2.2.2.2.2.1),.st r22.2.2.2.2.2.2.2.2.2.2.2.2.2.2.2.1,.v (.bool r22.2.2.2.2.2.2.2.2.2.2.2.2.2.2.2.2.1),.v (.bool r22.2.2.2.2.2.2.2.2.2.2.2.2.2.2.2.2.2),.e0]],false⟩]⟩ (fun e s=>e = .normal/\Wk E0 s ⟨Fr 71 [(2,.pt 0 0 0),(4,.pt 1 0 0),(5,.pt 2 0 0)],[some ⟨2,30,[.ag [.v (.int .u8 r.1),.v (.int .u8 r.2.1)]],false⟩,some ⟨9,42,[.ag [.st r.2.2.1,.st r.2.2.2.1,.st r.2.2.2.2.1,.v (.int .i64 r.2.2.2.2.2.1),.v (.int .i64 r.2.2.2.2.2.2.1),.st r.2.2.2.2.2.2.2.1,.v (.bool r.2.2.2.2.2.2.2.2.1),.v (.bool r.2.2.2.2.2.2.2.2.2.1),.e0]],false⟩,some ⟨9,42,[.ag [.st r.2.2.2.2.2.2.2.2.2.2.1,.st r.2.2.2.2.2.2.2.2.2.2.2.1,.st r.2.2.2.2.2.2.2.2.2.2.2.2.1,.v (.int .i64 r.2.2.2.2.2.2.2.2.2.2.2.2.2.1),.v (.int .i64 r.2.2.2.2.2.2.2.2.2.2.2.2.2.2.1),.st r.2.2.2.2.2.2.2.2.2.2.2.2.2.2.2.1,.v (.bool r.2.2.2.2.2.2.2.2.2.2.2.2.2.2.2.2.1),.v (.bool r.2.2.2.2.2.2.2.2.2.2.2.2.2.2.2.2.2),.e0]],false⟩]⟩):=by
 unfold Ev at h;refine AW (b:=((Du .u8 r22.2.1 4)!=0)) kr (fun hb23=>?_) (fun hb23=>?_)
 ·rw [if_pos hb23] at h
  by_cases hk24:(Do (Du .u8 (r22.2.1.fdiv 8) 3) (([97,98,99,100]:List UInt8).length:Int) ([97,98,99,100]:List UInt8).length)=true
  case neg=>rw [if_neg hk24] at h; cases h
  rw [if_pos hk24] at h;by_cases hk25:(Do 0 (1:Int) ((([97,98,99,100]:List UInt8).take (([97,98,99,100]:List UInt8).length:Int).toNat).drop (Du .u8 (r22.2.1.fdiv 8) 3).toNat).length)=true
  case neg=>rw [if_neg hk25] at h; cases h
  rw [if_pos hk25] at h
  let p1:Option Blk:=some ⟨9,42,[.ag [.st r22.2.2.1,.st r22.2.2.2.1,.st r22.2.2.2.2.1,.v (.int .i64 r22.2.2.2.2.2.1),.v (.int .i64 r22.2.2.2.2.2.2.1),.st r22.2.2.2.2.2.2.2.1,.v (.bool r22.2.2.2.2.2.2.2.2.1),.v (.bool r22.2.2.2.2.2.2.2.2.2.1),.e0]],false⟩
  let p2:Option Blk:=some ⟨2,30,[.ag [.v (.int .u8 r22.1),.v (.int .u8 r22.2.1)]],false⟩
  refine AO (s1:=⟨Fr 71 [(2,.pt 0 0 0),(4,.pt 1 0 0),(5,.pt 2 0 0)],[p2,p1,some ⟨9,42,[.ag [.st r22.2.2.2.2.2.2.2.2.2.2.1,.st r22.2.2.2.2.2.2.2.2.2.2.2.1,.st ((((([97,98,99,100]:List UInt8).take (([97,98,99,100]:List UInt8).length:Int).toNat).drop (Du .u8 (r22.2.1.fdiv 8) 3).toNat).take (1:Int).toNat).drop (0:Int).toNat),.v (.int .i64 r22.2.2.2.2.2.2.2.2.2.2.2.2.2.1),.v (.int .i64 r22.2.2.2.2.2.2.2.2.2.2.2.2.2.2.1),.st r22.2.2.2.2.2.2.2.2.2.2.2.2.2.2.2.1,.v (.bool r22.2.2.2.2.2.2.2.2.2.2.2.2.2.2.2.2.1),.v (.bool r22.2.2.2.2.2.2.2.2.2.2.2.2.2.2.2.2.2),.e0]],false⟩]⟩) ?_ ?_
  ·refine AF (n:=71) AC 4 [(2,.pt 0 0 0),(4,.pt 1 0 0),(5,.pt 2 0 0),(43,.v (.int .u8 (Du .u8 (r22.2.1.fdiv 8) 3)))] [p2,p1,some ⟨9,42,[.ag [.st r22.2.2.2.2.2.2.2.2.2.2.1,.st r22.2.2.2.2.2.2.2.2.2.2.2.1,.st r22.2.2.2.2.2.2.2.2.2.2.2.2.1,.v (.int .i64 r22.2.2.2.2.2.2.2.2.2.2.2.2.2.1),.v (.int .i64 r22.2.2.2.2.2.2.2.2.2.2.2.2.2.2.1),.st r22.2.2.2.2.2.2.2.2.2.2.2.2.2.2.2.1,.v (.bool r22.2.2.2.2.2.2.2.2.2.2.2.2.2.2.2.2.1),.v (.bool r22.2.2.2.2.2.2.2.2.2.2.2.2.2.2.2.2.2),.e0]],false⟩] kr ?_
   refine Aq AC 0 rfl (EM (AB rfl) rfl (En (a:= .st [97,98,99,100]) (l:=(some (.v (.int .u8 (Du .u8 (r22.2.1.fdiv 8) 3))))) (u:=none) (m:=none) kr kr kr rfl (Fm (bs:=[97,98,99,100]) (lo:=(Du .u8 (r22.2.1.fdiv 8) 3)) (hi:=(([97,98,99,100]:List UInt8).length:Int)) kr (G7 (OH hk24)) rfl hk24))) ?_;refine Aq AC 0 rfl (EM (AB rfl) rfl (En (a:= .st ((([97,98,99,100]:List UInt8).take (([97,98,99,100]:List UInt8).length:Int).toNat).drop (Du .u8 (r22.2.1.fdiv 8) 3).toNat)) (l:=none) (u:=(some (.v (.int .i64 1)))) (m:=none) kr kr kr rfl (Fm (bs:=((([97,98,99,100]:List UInt8).take (([97,98,99,100]:List UInt8).length:Int).toNat).drop (Du .u8 (r22.2.1.fdiv 8) 3).toNat)) (lo:=0) (hi:=(1:Int)) kr rfl (G7 (Jt hk25)) hk25))) ?_;exact A5 AC
  have hq:=OI h; subst hq;exact ⟨rfl,(Au [0,1,2] ⟨⟨_,rfl,Cw⟩,⟨_,rfl,Cw⟩,⟨_,rfl,Cw⟩,trivial⟩ ⟨lv,lv,lv,trivial⟩)⟩
 ·rw [Cr hb23] at h
  refine Ai ?_;have hq:=OI h; subst hq;exact ⟨rfl,(Au [0,1,2] ⟨⟨_,rfl,Cw⟩,⟨_,rfl,Cw⟩,⟨_,rfl,Cw⟩,trivial⟩ ⟨lv,lv,lv,trivial⟩)⟩
theorem Ln (r44:Int×Int×(List UInt8)×(List UInt8)×(List UInt8)×Int×Int×(List UInt8)×Bool×Bool×(List UInt8)×(List UInt8)×(List UInt8)×Int×Int×(List UInt8)×Bool×Bool) (r:(Int×Int×(List UInt8)×(List UInt8)×(List UInt8)×Int×Int×(List UInt8)×Bool×Bool×(List UInt8)×(List UInt8)×(List UInt8)×Int×Int×(List UInt8)×Bool×Bool×(List (List UInt8)))) (h:Ew r44=some r):Sem E0 ⟨none,false⟩ (pc Et [1,1,1,1,0,1]) ⟨Fr 71 [(2,.pt 0 0 0),(4,.pt 1 0 0),(5,.pt 2 0 0),(50,.v (.bool ((Du .u8 r44.2.1 64)!=0)))],[some ⟨2,30,[.ag [.v (.int .u8 r44.1),.v (.int .u8 r44.2.1)]],false⟩,some ⟨9,42,[.ag [.st r44.2.2.1,.st r44.2.2.2.1,.st r44.2.2.2.2.1,.v (.int .i64 r44.2.2.2.2.2.1),.v (.int .i64 r44.2.2.2.2.2.2.1),.st r44.2.2.2.2.2.2.2.1,.v (.bool r44.2.2.2.2.2.2.2.2.1),.v (.bool r44.2.2.2.2.2.2.2.2.2.1),.e0]],false⟩,some ⟨9,42,[.ag [.st r44.2.2.2.2.2.2.2.2.2.2.1,.st r44.2.2.2.2.2.2.2.2.2.2.2.1,.st r44.2.2.2.2.2.2.2.2.2.2.2.2.1,.v (.int .i64 r44.2.2.2.2.2.2.2.2.2.2.2.2.2.1),.v (.int .i64 r44.2.2.2.2.2.2.2.2.2.2.2.2.2.2.1),.st r44.2.2.2.2.2.2.2.2.2.2.2.2.2.2.2.1,.v (.bool r44.2.2.2.2.2.2.2.2.2.2.2.2.2.2.2.2.1),.v (.bool r44.2.2.2.2.2.2.2.2.2.2.2.2.2.2.2.2.2),.e0]],false⟩]⟩ (fun e s=>e = .normal/\Wk E0 s ⟨Fr 71 [(2,.pt 0 0 0),(4,.pt 1 0 0),(5,.pt 2 0 0)],[some ⟨2,30,[.ag [.v (.int .u8 r.1),.v (.int .u8 r.2.1)]],false⟩,some ⟨9,42,[.ag [.st r.2.2.1,.st r.2.2.2.1,.st r.2.2.2.2.1,.v (.int .i64 r.2.2.2.2.2.1),.v (.int .i64 r.2.2.2.2.2.2.1),.st r.2.2.2.2.2.2.2.1,.v (.bool r.2.2.2.2.2.2.2.2.1),.v (.bool r.2.2.2.2.2.2.2.2.2.1),.e0]],false⟩,some ⟨9,42,[AI.enc r.2.2.2.2.2.2.2.2.2.2],false⟩]⟩):=by
 unfold Ew at h;refine AW (b:=((Du .u8 r44.2.1 64)!=0)) kr (fun hb45=>?_) (fun hb45=>?_)
 ·rw [if_pos hb45] at h
  by_cases hk46:(Do (Du .u8 (r44.1.fdiv 16) 3) (([97,98,99,100]:List UInt8).length:Int) ([97,98,99,100]:List UInt8).length)=true
  case neg=>rw [if_neg hk46] at h; cases h
  rw [if_pos hk46] at h;by_cases hk47:(Do 0 (1:Int) ((([97,98,99,100]:List UInt8).take (([97,98,99,100]:List UInt8).length:Int).toNat).drop (Du .u8 (r44.1.fdiv 16) 3).toNat).length)=true
  case neg=>rw [if_neg hk47] at h; cases h
  rw [if_pos hk47] at h
  let p1:Option Blk:=some ⟨9,42,[.ag [.st r44.2.2.2.2.2.2.2.2.2.2.1,.st r44.2.2.2.2.2.2.2.2.2.2.2.1,.st r44.2.2.2.2.2.2.2.2.2.2.2.2.1,.v (.int .i64 r44.2.2.2.2.2.2.2.2.2.2.2.2.2.1),.v (.int .i64 r44.2.2.2.2.2.2.2.2.2.2.2.2.2.2.1),.st r44.2.2.2.2.2.2.2.2.2.2.2.2.2.2.2.1,.v (.bool r44.2.2.2.2.2.2.2.2.2.2.2.2.2.2.2.2.1),.v (.bool r44.2.2.2.2.2.2.2.2.2.2.2.2.2.2.2.2.2),.sl 1 ([((((([97,98,99,100]:List UInt8).take (([97,98,99,100]:List UInt8).length:Int).toNat).drop (Du .u8 (r44.1.fdiv 16) 3).toNat).take (1:Int).toNat).drop (0:Int).toNat)].map cdS.enc)]],false⟩
  let p2:Option Blk:=some ⟨9,42,[.ag [.st r44.2.2.1,.st r44.2.2.2.1,.st r44.2.2.2.2.1,.v (.int .i64 r44.2.2.2.2.2.1),.v (.int .i64 r44.2.2.2.2.2.2.1),.st r44.2.2.2.2.2.2.2.1,.v (.bool r44.2.2.2.2.2.2.2.2.1),.v (.bool r44.2.2.2.2.2.2.2.2.2.1),.e0]],false⟩
  let p3:Option Blk:=some ⟨2,30,[.ag [.v (.int .u8 r44.1),.v (.int .u8 r44.2.1)]],false⟩
  let p4:Nat×AV:=(5,.pt 2 0 0)
  let p5:Nat×AV:=(4,.pt 1 0 0)
  let p6:Nat×AV:=(2,.pt 0 0 0)
  refine AO (s1:=⟨Fr 71 [p6,p5,p4],[p3,p2,p1]⟩) ?_ ?_
  ·let p7:Option Blk:=some ⟨9,42,[.ag [.st r44.2.2.2.2.2.2.2.2.2.2.1,.st r44.2.2.2.2.2.2.2.2.2.2.2.1,.st r44.2.2.2.2.2.2.2.2.2.2.2.2.1,.v (.int .i64 r44.2.2.2.2.2.2.2.2.2.2.2.2.2.1),.v (.int .i64 r44.2.2.2.2.2.2.2.2.2.2.2.2.2.2.1),.st r44.2.2.2.2.2.2.2.2.2.2.2.2.2.2.2.1,.v (.bool r44.2.2.2.2.2.2.2.2.2.2.2.2.2.2.2.2.1),.v (.bool r44.2.2.2.2.2.2.2.2.2.2.2.2.2.2.2.2.2),.e0]],false⟩
   refine AF (n:=71) AC 4 [p6,p5,p4,(54,.v (.int .u8 (Du .u8 (r44.1.fdiv 16) 3)))] [p3,p2,p7] kr ?_;refine Aq AC 0 rfl (EM (AB rfl) rfl (En (a:= .st [97,98,99,100]) (l:=(some (.v (.int .u8 (Du .u8 (r44.1.fdiv 16) 3))))) (u:=none) (m:=none) kr kr kr rfl (Fm (bs:=[97,98,99,100]) (lo:=(Du .u8 (r44.1.fdiv 16) 3)) (hi:=(([97,98,99,100]:List UInt8).length:Int)) kr (G7 (OH hk46)) rfl hk46))) ?_;refine Aq AC 0 rfl (EM (AB rfl) rfl (En (a:= .st ((([97,98,99,100]:List UInt8).take (([97,98,99,100]:List UInt8).length:Int).toNat).drop (Du .u8 (r44.1.fdiv 16) 3).toNat)) (l:=none) (u:=(some (.v (.int .i64 1)))) (m:=none) kr kr kr rfl (Fm (bs:=((([97,98,99,100]:List UInt8).take (([97,98,99,100]:List UInt8).length:Int).toNat).drop (Du .u8 (r44.1.fdiv 16) 3).toNat)) (lo:=0) (hi:=(1:Int)) kr rfl (G7 (Jt hk47)) hk47))) ?_;refine AF (n:=71) AC 2 [p6,p5,p4,(57,hd 3 ([((((([97,98,99,100]:List UInt8).take (([97,98,99,100]:List UInt8).length:Int).toNat).drop (Du .u8 (r44.1.fdiv 16) 3).toNat).take (1:Int).toNat).drop (0:Int).toNat)].map cdS.enc)),(58,.pt 2 0 8)] [p3,p2,p7,mk 1 9 ([((((([97,98,99,100]:List UInt8).take (([97,98,99,100]:List UInt8).length:Int).toNat).drop (Du .u8 (r44.1.fdiv 16) 3).toNat).take (1:Int).toNat).drop (0:Int).toNat)].map cdS.enc)] kr ?_;refine Od (s1:=⟨Fr 71 [p6,p5,p4,(57,.sl 1 ([((((([97,98,99,100]:List UInt8).take (([97,98,99,100]:List UInt8).length:Int).toNat).drop (Du .u8 (r44.1.fdiv 16) 3).toNat).take (1:Int).toNat).drop (0:Int).toNat)].map cdS.enc)),(58,.pt 2 0 8)],[p3,p2,p7,none]⟩) (I0 3 (.inl kr) ⟨.inr (.inr ⟨_,_,_,_,rfl,rfl,⟨.inl rfl,trivial⟩⟩),.inr (.inr ⟨_,_,_,_,rfl,rfl,⟨.inl rfl,trivial⟩⟩),.inr (.inr ⟨_,_,_,_,rfl,rfl,⟨.inl rfl,trivial⟩⟩),.inl rfl,trivial⟩ ⟨⟨.pt 0 0 0,kr,.inl rfl⟩,⟨.pt 1 0 0,kr,.inl rfl⟩,⟨.pt 2 0 0,kr,.inl rfl⟩,⟨hd 3 ([((((([97,98,99,100]:List UInt8).take (([97,98,99,100]:List UInt8).length:Int).toNat).drop (Du .u8 (r44.1.fdiv 16) 3).toNat).take (1:Int).toNat).drop (0:Int).toNat)].map cdS.enc),kr,Pr (t:=9) kr KV⟩,⟨.pt 2 0 8,kr,.inl rfl⟩,trivial⟩) ?_
   refine AF (n:=71) AC 1 [p6,p5,p4] [p3,p2,p1,none] kr ?_;exact AL rfl (Au [0,1,2] ⟨⟨_,rfl,Cw⟩,⟨_,rfl,Cw⟩,⟨_,rfl,Cw⟩,trivial⟩ ⟨lv,lv,lv,trivial⟩)
  have hq:=OI h; subst hq;exact ⟨rfl,(Au [0,1,2] ⟨⟨_,rfl,Cw⟩,⟨_,rfl,Cw⟩,⟨_,rfl,Cw⟩,trivial⟩ ⟨lv,lv,lv,trivial⟩)⟩
 ·rw [Cr hb45] at h
  refine Ai ?_;have hq:=OI h; subst hq
  let p8:Option Blk:=some ⟨9,42,[.ag [.st r44.2.2.1,.st r44.2.2.2.1,.st r44.2.2.2.2.1,.v (.int .i64 r44.2.2.2.2.2.1),.v (.int .i64 r44.2.2.2.2.2.2.1),.st r44.2.2.2.2.2.2.2.1,.v (.bool r44.2.2.2.2.2.2.2.2.1),.v (.bool r44.2.2.2.2.2.2.2.2.2.1),.e0]],false⟩
  let p9:Option Blk:=some ⟨2,30,[.ag [.v (.int .u8 r44.1),.v (.int .u8 r44.2.1)]],false⟩
  let p10:Option Blk:=some ⟨9,42,[.ag [.st r44.2.2.2.2.2.2.2.2.2.2.1,.st r44.2.2.2.2.2.2.2.2.2.2.2.1,.st r44.2.2.2.2.2.2.2.2.2.2.2.2.1,.v (.int .i64 r44.2.2.2.2.2.2.2.2.2.2.2.2.2.1),.v (.int .i64 r44.2.2.2.2.2.2.2.2.2.2.2.2.2.2.1),.st r44.2.2.2.2.2.2.2.2.2.2.2.2.2.2.2.1,.v (.bool r44.2.2.2.2.2.2.2.2.2.2.2.2.2.2.2.2.1),.v (.bool r44.2.2.2.2.2.2.2.2.2.2.2.2.2.2.2.2.2),.e0]],false⟩
  exact ⟨rfl,(Wk.trans (s1:=⟨Fr 71 [(2,.pt 0 0 0),(4,.pt 1 0 0),(5,.pt 2 0 0)],[p9,p8,p10]⟩) AT (Wk.trans (s1:=⟨Fr 71 [(2,.pt 0 0 0),(4,.pt 1 0 0),(5,.pt 2 0 0)],[p9,p8,p10,none]⟩) Wk.none (Wk.trans (s1:=⟨Fr 71 [(2,.pt 0 0 0),(4,.pt 1 0 0),(5,.pt 2 0 0)],[p9,p8,some ⟨9,42,[.ag [.st r44.2.2.2.2.2.2.2.2.2.2.1,.st r44.2.2.2.2.2.2.2.2.2.2.2.1,.st r44.2.2.2.2.2.2.2.2.2.2.2.2.1,.v (.int .i64 r44.2.2.2.2.2.2.2.2.2.2.2.2.2.1),.v (.int .i64 r44.2.2.2.2.2.2.2.2.2.2.2.2.2.2.1),.st r44.2.2.2.2.2.2.2.2.2.2.2.2.2.2.2.1,.v (.bool r44.2.2.2.2.2.2.2.2.2.2.2.2.2.2.2.2.1),.v (.bool r44.2.2.2.2.2.2.2.2.2.2.2.2.2.2.2.2.2),.sl 1 ([].map cdS.enc)]],false⟩,none]⟩) (Mb 3 (.inr kr) ⟨.inr (.inl rfl),.inr (.inl rfl),.inr (.inr ⟨_,_,_,_,rfl,rfl,⟨(.inr ⟨_,_,rfl,rfl,⟨.inl rfl,.inl rfl,.inl rfl,.inl rfl,.inl rfl,.inl rfl,.inl rfl,.inl rfl,R9,trivial⟩⟩),trivial⟩⟩),.inl rfl,trivial⟩ ⟨⟨.pt 0 0 0,kr,(.inl (.inl rfl))⟩,⟨.pt 1 0 0,kr,(.inl (.inl rfl))⟩,⟨.pt 2 0 0,kr,(.inl (.inl rfl))⟩,trivial⟩) (Au [0,1,2] ⟨⟨_,rfl,Cw⟩,⟨_,rfl,Cw⟩,⟨_,rfl,Cw⟩,trivial⟩ ⟨lv,lv,lv,trivial⟩))))⟩
theorem Lp (r67:Int×Int×(List UInt8)×(List UInt8)×(List UInt8)×Int×Int×(List UInt8)×Bool×Bool×(List UInt8)×(List UInt8)×(List UInt8)×Int×Int×(List UInt8)×Bool×Bool×(List (List UInt8))) (r:((List UInt8)×(List UInt8)×(List UInt8)×Int×Int×(List UInt8)×Bool×Bool×(List UInt8)×(List UInt8)×(List UInt8)×Int×Int×(List UInt8)×Bool×Bool×(List (List UInt8)))) (h:Ey r67=some r):Sem E0 ⟨none,false⟩ (pc Et [1,1,1,1,1,0,1]) ⟨Fr 71 [(2,.pt 0 0 0),(4,.pt 1 0 0),(5,.pt 2 0 0),(62,.v (.bool ((Du .u8 r67.1 128)!=0)))],[some ⟨2,30,[.ag [.v (.int .u8 r67.1),.v (.int .u8 r67.2.1)]],false⟩,some ⟨9,42,[.ag [.st r67.2.2.1,.st r67.2.2.2.1,.st r67.2.2.2.2.1,.v (.int .i64 r67.2.2.2.2.2.1),.v (.int .i64 r67.2.2.2.2.2.2.1),.st r67.2.2.2.2.2.2.2.1,.v (.bool r67.2.2.2.2.2.2.2.2.1),.v (.bool r67.2.2.2.2.2.2.2.2.2.1),.e0]],false⟩,some ⟨9,42,[AI.enc r67.2.2.2.2.2.2.2.2.2.2],false⟩]⟩ (fun e s=>e = .normal/\Wk E0 s ⟨Fr 71 [(4,.pt 0 0 0),(5,.pt 1 0 0)],[some ⟨9,42,[.ag [.st r.1,.st r.2.1,.st r.2.2.1,.v (.int .i64 r.2.2.2.1),.v (.int .i64 r.2.2.2.2.1),.st r.2.2.2.2.2.1,.v (.bool r.2.2.2.2.2.2.1),.v (.bool r.2.2.2.2.2.2.2.1),.e0]],false⟩,some ⟨9,42,[AI.enc r.2.2.2.2.2.2.2.2],false⟩]⟩):=by
 unfold Ey at h;refine AW (b:=((Du .u8 r67.1 128)!=0)) kr (fun hb68=>?_) (fun hb68=>?_)
 ·rw [if_pos hb68] at h
  by_cases hk69:(Do (Du .u8 (r67.2.1.fdiv 16) 3) (([97,98,99,100]:List UInt8).length:Int) ([97,98,99,100]:List UInt8).length)=true
  case neg=>rw [if_neg hk69] at h; cases h
  rw [if_pos hk69] at h;by_cases hk70:(Do 0 (1:Int) ((([97,98,99,100]:List UInt8).take (([97,98,99,100]:List UInt8).length:Int).toNat).drop (Du .u8 (r67.2.1.fdiv 16) 3).toNat).length)=true
  case neg=>rw [if_neg hk70] at h; cases h
  rw [if_pos hk70] at h
  let p1:Option Blk:=some ⟨9,42,[.ag [.st r67.2.2.2.2.2.2.2.2.2.2.1,.st r67.2.2.2.2.2.2.2.2.2.2.2.1,.st r67.2.2.2.2.2.2.2.2.2.2.2.2.1,.v (.int .i64 r67.2.2.2.2.2.2.2.2.2.2.2.2.2.1),.v (.int .i64 r67.2.2.2.2.2.2.2.2.2.2.2.2.2.2.1),.st ((((([97,98,99,100]:List UInt8).take (([97,98,99,100]:List UInt8).length:Int).toNat).drop (Du .u8 (r67.2.1.fdiv 16) 3).toNat).take (1:Int).toNat).drop (0:Int).toNat),.v (.bool r67.2.2.2.2.2.2.2.2.2.2.2.2.2.2.2.2.1),.v (.bool r67.2.2.2.2.2.2.2.2.2.2.2.2.2.2.2.2.2.1),.sl 1 (r67.2.2.2.2.2.2.2.2.2.2.2.2.2.2.2.2.2.2.map cdS.enc)]],false⟩
  let p2:Option Blk:=some ⟨9,42,[.ag [.st r67.2.2.1,.st r67.2.2.2.1,.st r67.2.2.2.2.1,.v (.int .i64 r67.2.2.2.2.2.1),.v (.int .i64 r67.2.2.2.2.2.2.1),.st r67.2.2.2.2.2.2.2.1,.v (.bool r67.2.2.2.2.2.2.2.2.1),.v (.bool r67.2.2.2.2.2.2.2.2.2.1),.e0]],false⟩
  refine AO (s1:=⟨Fr 71 [(4,.pt 0 0 0),(5,.pt 1 0 0)],[p2,p1]⟩) ?_ ?_
  ·let p3:Option Blk:=some ⟨2,30,[.ag [.v (.int .u8 r67.1),.v (.int .u8 r67.2.1)]],false⟩
   refine AF (n:=71) AC 4 [(4,.pt 1 0 0),(5,.pt 2 0 0),(66,.v (.int .u8 (Du .u8 (r67.2.1.fdiv 16) 3)))] [p3,p2,some ⟨9,42,[AI.enc r67.2.2.2.2.2.2.2.2.2.2],false⟩] kr ?_;refine Aq AC 0 rfl (EM (AB rfl) rfl (En (a:= .st [97,98,99,100]) (l:=(some (.v (.int .u8 (Du .u8 (r67.2.1.fdiv 16) 3))))) (u:=none) (m:=none) kr kr kr rfl (Fm (bs:=[97,98,99,100]) (lo:=(Du .u8 (r67.2.1.fdiv 16) 3)) (hi:=(([97,98,99,100]:List UInt8).length:Int)) kr (G7 (OH hk69)) rfl hk69))) ?_;refine Aq AC 0 rfl (EM (AB rfl) rfl (En (a:= .st ((([97,98,99,100]:List UInt8).take (([97,98,99,100]:List UInt8).length:Int).toNat).drop (Du .u8 (r67.2.1.fdiv 16) 3).toNat)) (l:=none) (u:=(some (.v (.int .i64 1)))) (m:=none) kr kr kr rfl (Fm (bs:=((([97,98,99,100]:List UInt8).take (([97,98,99,100]:List UInt8).length:Int).toNat).drop (Du .u8 (r67.2.1.fdiv 16) 3).toNat)) (lo:=0) (hi:=(1:Int)) kr rfl (G7 (Jt hk70)) hk70))) ?_;refine AF (n:=71) AC 2 [(4,.pt 1 0 0),(5,.pt 2 0 0)] [p3,p2,p1] kr ?_;exact AL rfl (Au [1,2] ⟨⟨_,rfl,Cw⟩,⟨_,rfl,Cw⟩,trivial⟩ ⟨lv,lv,trivial⟩)
  have hq:=OI h; subst hq;exact ⟨rfl,(Au [0,1] ⟨⟨_,rfl,Cw⟩,⟨_,rfl,Cw⟩,trivial⟩ ⟨lv,lv,trivial⟩)⟩
 ·rw [Cr hb68] at h
  refine Ai ?_;have hq:=OI h; subst hq;exact ⟨rfl,(Au [1,2] ⟨⟨_,rfl,Cw⟩,⟨_,rfl,Cw⟩,trivial⟩ ⟨lv,lv,trivial⟩)⟩
theorem NC (x0:(Int×Int)) (x1:(List UInt8)) (r:Aw) (h:Em x0 x1=some r):Sem E0 ⟨none,false⟩ Et ⟨Fr 71 (BS 0 (Ic.enc (x0,x1,()))),[]⟩ fun e s'=>(e = .normal\/e = .ret)/\∃ xs,Eo E0.P s'.fr s'.hp Tryz.f74.results.toList=some xs/\Er xs=Ig r:=by
 unfold Em at h;refine BJ (CD (s1:=⟨Fr 71 [(0,.ag [.v (.int .u8 x0.1),.v (.int .u8 x0.2)]),(1,.st x1)],[]⟩) AT ?_)
 let p1:Option Blk:=some ⟨9,42,[.ag [.st [],.st [],.st [],.v (.int .i64 0),.v (.int .i64 0),.st [],.v (.bool false),.v (.bool false),.e0]],false⟩
 let p2:Option Blk:=some ⟨2,30,[.ag [.v (.int .u8 x0.1),.v (.int .u8 x0.2)]],false⟩
 let p3:Nat×AV:=(4,.pt 1 0 0)
 let p4:Nat×AV:=(2,.pt 0 0 0)
 refine AM AC [(1,.st x1),p4,p3] [p2,p1] ?_
 let p5:Option Blk:=some ⟨9,42,[.ag [.st x1,.st [],.st [],.v (.int .i64 (wr .i64 (10 * (wr .i64 (x0.2.tmod 4))))),.v (.int .i64 (wr .i64 (x0.1.tmod 3))),.st [],.v (.bool ((Du .u8 x0.1 64)!=0)),.v (.bool ((Du .u8 x0.2 128)!=0)),.e0]],false⟩
 let p6:Nat×AV:=(5,.pt 2 0 0)
 refine AM AC [p4,p3,p6] [p2,p1,p5] ?_;refine AH ?_;refine AM AC [p4,p3,p6,(28,.v (.bool ((Du .u8 x0.1 4)!=0)))] [p2,p1,p5] ?_;obtain ⟨r22,hr22,h⟩:=OB h;refine C6 (Ll x0 x1 _ hr22) ?_;refine AH ?_;refine AM AC [p4,p3,p6,(39,.v (.bool ((Du .u8 r22.2.1 4)!=0)))] [some ⟨2,30,[.ag [.v (.int .u8 r22.1),.v (.int .u8 r22.2.1)]],false⟩,some ⟨9,42,[.ag [.st r22.2.2.1,.st r22.2.2.2.1,.st r22.2.2.2.2.1,.v (.int .i64 r22.2.2.2.2.2.1),.v (.int .i64 r22.2.2.2.2.2.2.1),.st r22.2.2.2.2.2.2.2.1,.v (.bool r22.2.2.2.2.2.2.2.2.1),.v (.bool r22.2.2.2.2.2.2.2.2.2.1),.e0]],false⟩,some ⟨9,42,[.ag [.st r22.2.2.2.2.2.2.2.2.2.2.1,.st r22.2.2.2.2.2.2.2.2.2.2.2.1,.st r22.2.2.2.2.2.2.2.2.2.2.2.2.1,.v (.int .i64 r22.2.2.2.2.2.2.2.2.2.2.2.2.2.1),.v (.int .i64 r22.2.2.2.2.2.2.2.2.2.2.2.2.2.2.1),.st r22.2.2.2.2.2.2.2.2.2.2.2.2.2.2.2.1,.v (.bool r22.2.2.2.2.2.2.2.2.2.2.2.2.2.2.2.2.1),.v (.bool r22.2.2.2.2.2.2.2.2.2.2.2.2.2.2.2.2.2),.e0]],false⟩] ?_;obtain ⟨r44,hr44,h⟩:=OB h;refine C6 (Lm r22 _ hr44) ?_;refine AH ?_;refine AM AC [p4,p3,p6,(50,.v (.bool ((Du .u8 r44.2.1 64)!=0)))] [some ⟨2,30,[.ag [.v (.int .u8 r44.1),.v (.int .u8 r44.2.1)]],false⟩,some ⟨9,42,[.ag [.st r44.2.2.1,.st r44.2.2.2.1,.st r44.2.2.2.2.1,.v (.int .i64 r44.2.2.2.2.2.1),.v (.int .i64 r44.2.2.2.2.2.2.1),.st r44.2.2.2.2.2.2.2.1,.v (.bool r44.2.2.2.2.2.2.2.2.1),.v (.bool r44.2.2.2.2.2.2.2.2.2.1),.e0]],false⟩,some ⟨9,42,[.ag [.st r44.2.2.2.2.2.2.2.2.2.2.1,.st r44.2.2.2.2.2.2.2.2.2.2.2.1,.st r44.2.2.2.2.2.2.2.2.2.2.2.2.1,.v (.int .i64 r44.2.2.2.2.2.2.2.2.2.2.2.2.2.1),.v (.int .i64 r44.2.2.2.2.2.2.2.2.2.2.2.2.2.2.1),.st r44.2.2.2.2.2.2.2.2.2.2.2.2.2.2.2.1,.v (.bool r44.2.2.2.2.2.2.2.2.2.2.2.2.2.2.2.2.1),.v (.bool r44.2.2.2.2.2.2.2.2.2.2.2.2.2.2.2.2.2),.e0]],false⟩] ?_;obtain ⟨r67,hr67,h⟩:=OB h;refine C6 (Ln r44 _ hr67) ?_;refine AH ?_;refine AM AC [p4,p3,p6,(62,.v (.bool ((Du .u8 r67.1 128)!=0)))] [some ⟨2,30,[.ag [.v (.int .u8 r67.1),.v (.int .u8 r67.2.1)]],false⟩,some ⟨9,42,[.ag [.st r67.2.2.1,.st r67.2.2.2.1,.st r67.2.2.2.2.1,.v (.int .i64 r67.2.2.2.2.2.1),.v (.int .i64 r67.2.2.2.2.2.2.1),.st r67.2.2.2.2.2.2.2.1,.v (.bool r67.2.2.2.2.2.2.2.2.1),.v (.bool r67.2.2.2.2.2.2.2.2.2.1),.e0]],false⟩,some ⟨9,42,[AI.enc r67.2.2.2.2.2.2.2.2.2.2],false⟩] ?_
 obtain ⟨r88,hr88,h⟩:=OB h;refine C6 (Lp r67 _ hr88) ?_;refine AH ?_
 let p7:Option Blk:=some ⟨9,42,[AI.enc r88.2.2.2.2.2.2.2.2],false⟩
 refine AO (s1:=⟨Fr 71 [(4,.pt 0 0 0)],[p7]⟩) ?_ ?_
 ·refine AF (n:=71) AC 2 [(4,.pt 0 0 0)] [p7,p7] kr ?_
  exact AL rfl (Au [0] ⟨⟨_,rfl,Cw⟩,trivial⟩ ⟨lv,trivial⟩)
 refine AX ?_;have hq:=OI h; subst hq;exact ⟨⟨Fr 71 [(4,.pt 0 0 0)],[p7]⟩,(Au [0] ⟨⟨_,rfl,Cw⟩,trivial⟩ ⟨lv,trivial⟩),.inr rfl,[AI.enc r88.2.2.2.2.2.2.2.2],kr,kr⟩
def PN:List AV->Option AV:=EN Ic (fun a=>Em a.1 a.2.1) Ig
theorem PW:XOk 74 PN:=by
 refine AZ Tryz.func74 (c:=Et) ?h2 ⟨Tryz.call74⟩ Ic (fun a=>Em a.1 a.2.1) Ig (fun a=>(by show 2<=71; decide)) ?h3 ?h4
 case h2=>kernel_rfl
 case h3=>intro b; kernel_rfl
 case h4=>exact fun a b h=>NC a.1 a.2.1 b h
/- trestle/trestlelaw03.Guests -/
noncomputable def Hz:Code:=Bo Tryz.f20
def DN (x0:(List (Int×Int))) (x1:Int):Nat->(List Aw)->Int->Option (((List Aw)))
 | 0,_,_=>none
 | f + 1,c2,c3 =>
  if (decide (c3 < (((x0.take (mnI (x0.length:Int) x1).toNat).drop (0:Int).toNat).length:Int)))=true then
  (idx ((x0.take (mnI (x0.length:Int) x1).toNat).drop (0:Int).toNat) c3).bind fun v5 =>
  if (okB ([103]++(by8 [(wr .u8 (wr .i64 (97 + (wr .i64 (c3.tdiv 26))))),(wr .u8 (wr .i64 (97 + (c3.tmod 26))))])))=true then
  (Em (v5.1,v5.2) ([103]++(by8 [(wr .u8 (wr .i64 (97 + (wr .i64 (c3.tdiv 26))))),(wr .u8 (wr .i64 (97 + (c3.tmod 26))))]))).bind fun v7 =>
  if (Fe 112 (c2.length + 1))=true then
  DN x0 x1 f (c2++[v7]) (wr .i64 (c3 + 1))
  else none
  else none
  else
  some c2
def Ec (x0:(List (Int×Int))) (x1:Int):Option ((List Aw)) :=
 if (Do 0 (mnI (x0.length:Int) x1) x0.length)=true then
 (DN x0 x1 100000 [] 0).bind fun r10 =>
 some r10
 else none
def GR:Cs (((List (Int×Int)))×Int×Unit):=(csC (cdL 2 (IZ (cdK .u8) (cdK .u8) (fun _=>rfl) (fun _=>rfl))) (csC cdI csN))
def H8 (r:(List Aw)):AV:=(cdL 9 AI).enc r
theorem LD (x0:(List (Int×Int))) (x1:Int):∀ (f:Nat) (c2:(List Aw)) (c3:Int) (r:((List Aw))),DN x0 x1 f c2 c3=some r->SemN E0 ⟨none,false⟩ (pc Hz [1,1,0,1,0,0]) f ⟨Fr 38 [(5,hd 0 (c2.map AI.enc)),(13,.sl 2 (((x0.take (mnI (x0.length:Int) x1).toNat).drop (0:Int).toNat).map (IZ (cdK .u8) (cdK .u8) (fun _=>rfl) (fun _=>rfl)).enc)),(14,.v (.int .i64 (((x0.take (mnI (x0.length:Int) x1).toNat).drop (0:Int).toNat).length:Int))),(15,.v (.int .i64 c3))],[mk 9 42 (c2.map AI.enc)]⟩ (fun e s=>e=(.exit 0)/\Wk E0 s ⟨Fr 38 [(5,hd 0 (r.map AI.enc))],[mk 9 42 (r.map AI.enc)]⟩):=by
 intro f;induction f with
 | zero=>intro c2 c3 r h; cases h
 | succ f ih0 =>
  intro c2 c3 r h
  have ih:=fun (c2:(List Aw)) (c3:Int)=>ih0 c2 c3 r
  unfold DN at h;refine D3 ?_
  let p1:Option Blk:=mk 9 42 (c2.map AI.enc)
  let p2:Nat×AV:=(15,.v (.int .i64 c3))
  let p3:Nat×AV:=(14,.v (.int .i64 (((x0.take (mnI (x0.length:Int) x1).toNat).drop (0:Int).toNat).length:Int)))
  let p4:Nat×AV:=(13,.sl 2 (((x0.take (mnI (x0.length:Int) x1).toNat).drop (0:Int).toNat).map (IZ (cdK .u8) (cdK .u8) (fun _=>rfl) (fun _=>rfl)).enc))
  let p5:Nat×AV:=(5,hd 0 (c2.map AI.enc))
  refine AM AC [p5,p4,p3,p2,(16,.v (.bool (decide (c3 < (((x0.take (mnI (x0.length:Int) x1).toNat).drop (0:Int).toNat).length:Int)))))] [p1] ?_;refine AH ?_;refine AW (b:=(decide (c3 < (((x0.take (mnI (x0.length:Int) x1).toNat).drop (0:Int).toNat).length:Int)))) kr (fun hb4=>?_) (fun hb4=>?_)
  ·rw [if_pos hb4] at h
   refine Ai ?_;refine AH ?_;refine Bh ?_;refine AH ?_;obtain ⟨v5,hv5,h⟩:=OB h
   let p6:Option Blk:=some ⟨2,30,[.ag [.v (.int .u8 v5.1),.v (.int .u8 v5.2)]],false⟩
   refine AO (s1:=⟨Fr 38 [p5,(6,.v (.int .i64 c3)),(7,.pt 1 0 0),p4,p3,p2],[p1,p6]⟩) ?_ ?_
   ·refine AF (n:=38) AC 1 [p5,p4,p3,p2,(17,.v (.int .i64 c3))] [p1] kr ?_
    refine Aq AC 0 rfl (EM (AB rfl) rfl (Ao (a:= .sl 2 (((x0.take (mnI (x0.length:Int) x1).toNat).drop (0:Int).toNat).map (IZ (cdK .u8) (cdK .u8) (fun _=>rfl) (fun _=>rfl)).enc)) (b:= .v (.int .i64 c3)) kr kr (Iw (e:=(IZ (cdK .u8) (cdK .u8) (fun _=>rfl) (fun _=>rfl)).enc) (el:=30) (k:=2) (ki:= .i64) kr kr hv5))) ?_;exact A5 AC
   by_cases hk6:(okB ([103]++(by8 [(wr .u8 (wr .i64 (97 + (wr .i64 (c3.tdiv 26))))),(wr .u8 (wr .i64 (97 + (c3.tmod 26))))])))=true
   case neg=>rw [if_neg hk6] at h; cases h
   rw [if_pos hk6] at h;obtain ⟨v7,hv7,h⟩:=OB h;by_cases hk8:(Fe 112 (c2.length + 1))=true
   case neg=>rw [if_neg hk8] at h; cases h
   rw [if_pos hk8] at h
   let p7:Option Blk:=mk 9 42 ((c2++[v7]).map AI.enc)
   let p8:Nat×AV:=(5,hd 0 ((c2++[v7]).map AI.enc))
   refine AO (s1:=⟨Fr 38 [p8,p4,p3,p2],[p7]⟩) ?_ ?_
   ·let p9:Option Blk:=mk 1 5 ([(wr .u8 (wr .i64 (97 + (wr .i64 (c3.tdiv 26))))),(wr .u8 (wr .i64 (97 + (c3.tmod 26))))].map (cdK .u8).enc)
    refine AF (n:=38) AC 11 [p4,p3,p2,(20,hd 0 (c2.map AI.enc)),(21,.ag [.v (.int .u8 v5.1),.v (.int .u8 v5.2)]),(30,hd 2 ([(wr .u8 (wr .i64 (97 + (wr .i64 (c3.tdiv 26))))),(wr .u8 (wr .i64 (97 + (c3.tmod 26))))].map (cdK .u8).enc))] [p1,p6,p9] kr ?_;refine RunS.bytes (bb:=2) (lo:=0) (q:=2) (c:=2) (e:=5) [(wr .u8 (wr .i64 (97 + (wr .i64 (c3.tdiv 26))))),(wr .u8 (wr .i64 (97 + (c3.tmod 26))))] rfl (AB rfl) kr kr kr kr kr kr ?_;refine Aq AC 0 rfl (EM (AB rfl) rfl (WA (a:= .st [103]) (b:= .st (by8 [(wr .u8 (wr .i64 (97 + (wr .i64 (c3.tdiv 26))))),(wr .u8 (wr .i64 (97 + (c3.tmod 26))))])) kr kr (Wr hk6))) ?_;refine Ay (v:=v7) (caps:=[]) (xs:=[.ag [.v (.int .u8 v5.1),.v (.int .u8 v5.2)],.st ([103]++(by8 [(wr .u8 (wr .i64 (97 + (wr .i64 (c3.tdiv 26))))),(wr .u8 (wr .i64 (97 + (c3.tmod 26))))]))]) (u:=((v5.1,v5.2),([103]++(by8 [(wr .u8 (wr .i64 (97 + (wr .i64 (c3.tdiv 26))))),(wr .u8 (wr .i64 (97 + (c3.tmod 26))))])),())) rfl rfl PW rfl (AB rfl) kr kr (Ab (A3 (c:=(IZ (cdK .u8) (cdK .u8) (fun _=>rfl) (fun _=>rfl))) (v:=(v5.1,v5.2))) (Ab (A3 (c:=cdS) (v:=([103]++(by8 [(wr .u8 (wr .i64 (97 + (wr .i64 (c3.tdiv 26))))),(wr .u8 (wr .i64 (97 + (c3.tmod 26))))])))) B6)) (.inr kr) (by dsimp only; exact hv7) ?_;refine AF (n:=38) AC 1 [p4,p3,p2,(20,hd 0 (c2.map AI.enc)),(34,hd 3 ([v7].map AI.enc))] [p1,p6,p9,mk 9 42 ([v7].map AI.enc)] kr ?_;refine Aq AC 0 rfl (TK (AB rfl) rfl kr kr (Hr (a:=hd 0 (c2.map AI.enc)) (b:=hd 3 ([v7].map AI.enc)) kr kr (Kp (c:=AI) (xs:=c2) (vs:=[v7]) (k:=9) (bytes:=112) (el:=42) kr kr (K6 (t:=42) kr) (List.cons_ne_nil _ _) kr hk8))) ?_;refine AF (n:=38) AC 1 [(5,hd 4 ((c2++[v7]).map AI.enc)),p4,p3,p2] [none,p6,p9,mk 9 42 ([v7].map AI.enc),p7] kr ?_;exact AL rfl (Au [4] ⟨⟨_,rfl,DQ⟩,trivial⟩ ⟨DR (b':=4) kr kr,lv,lv,lv,trivial⟩)
   let p10:Nat×AV:=(15,.v (.int .i64 (wr .i64 (c3 + 1))))
   refine Eq AC [p8,p4,p3,p10] [p7] ?_;exact CF (s1:=⟨Fr 38 [p8,p4,p3,p10],[p7]⟩) (Au [0] ⟨⟨_,rfl,DQ⟩,trivial⟩ ⟨DR (b':=0) kr kr,lv,lv,lv,trivial⟩) (ih (c2++[v7]) (wr .i64 (c3 + 1)) h)
  ·rw [Cr hb4] at h
   refine FD ?_;have hq:=OI h; subst hq;exact ⟨rfl,(Au [0] ⟨⟨_,rfl,DQ⟩,trivial⟩ ⟨DR (b':=0) kr kr,trivial⟩)⟩
theorem MO (x0:(List (Int×Int))) (x1:Int) (r:(List Aw)) (h:Ec x0 x1=some r):Sem E0 ⟨none,false⟩ Hz ⟨Fr 38 (BS 0 (GR.enc (x0,x1,()))),[]⟩ fun e s'=>(e = .normal\/e = .ret)/\∃ xs,Eo E0.P s'.fr s'.hp Tryz.f20.results.toList=some xs/\Er xs=H8 r:=by
 unfold Ec at h
 let p1:Nat×AV:=(1,.v (.int .i64 x1))
 let p2:Nat×AV:=(0,.sl 2 (x0.map (IZ (cdK .u8) (cdK .u8) (fun _=>rfl) (fun _=>rfl)).enc))
 refine BJ (CD (s1:=⟨Fr 38 [p2,p1],[]⟩) AT ?_);refine AM AC [p2,p1] [] ?_;refine AM AC [p2,p1,(5,.e0)] [] ?_;refine AH ?_;refine AH ?_;by_cases hk1:(Do 0 (mnI (x0.length:Int) x1) x0.length)=true
 case neg=>rw [if_neg hk1] at h; cases h
 rw [if_pos hk1] at h
 let p3:Nat×AV:=(15,.v (.int .i64 0))
 let p4:Nat×AV:=(14,.v (.int .i64 (((x0.take (mnI (x0.length:Int) x1).toNat).drop (0:Int).toNat).length:Int)))
 let p5:Nat×AV:=(13,.sl 2 (((x0.take (mnI (x0.length:Int) x1).toNat).drop (0:Int).toNat).map (IZ (cdK .u8) (cdK .u8) (fun _=>rfl) (fun _=>rfl)).enc))
 refine AO (s1:=⟨Fr 38 [(5,.e0),p5,p4,p3],[]⟩) ?_ ?_
 ·let p6:Nat×AV:=(8,.sl 2 (x0.map (IZ (cdK .u8) (cdK .u8) (fun _=>rfl) (fun _=>rfl)).enc))
  refine AF (n:=38) AC 2 [p1,(5,.e0),p6,(9,.sl 2 (x0.map (IZ (cdK .u8) (cdK .u8) (fun _=>rfl) (fun _=>rfl)).enc))] [] kr ?_;refine Aq AC 0 rfl (EM (AB rfl) rfl (FU (a:= .sl 2 (x0.map (IZ (cdK .u8) (cdK .u8) (fun _=>rfl) (fun _=>rfl)).enc)) kr (Dq (el:=30) kr))) ?_;refine AF (n:=38) AC 2 [(5,.e0),p6,(12,.v (.int .i64 (mnI (x0.length:Int) x1)))] [] kr ?_;refine Aq AC 0 rfl (EM (AB rfl) rfl (En (a:= .sl 2 (x0.map (IZ (cdK .u8) (cdK .u8) (fun _=>rfl) (fun _=>rfl)).enc)) (l:=none) (u:=(some (.v (.int .i64 (mnI (x0.length:Int) x1))))) (m:=none) kr kr kr rfl (LH (xs:=x0) (e:=(IZ (cdK .u8) (cdK .u8) (fun _=>rfl) (fun _=>rfl)).enc) (k:=2) (el:=30) (lo:=0) (hi:=(mnI (x0.length:Int) x1)) kr kr rfl (G7 (Jt hk1)) hk1))) ?_;refine Aq AC 0 rfl (EM (AB rfl) rfl (FU (a:= .sl 2 (((x0.take (mnI (x0.length:Int) x1).toNat).drop (0:Int).toNat).map (IZ (cdK .u8) (cdK .u8) (fun _=>rfl) (fun _=>rfl)).enc)) kr (Dq (el:=30) kr))) ?_;exact A5 AC
 refine Bh ?_;obtain ⟨r10,hr10,h⟩:=OB h;refine FE (n:=100000) ?_;refine Cn (CF (s1:=⟨Fr 38 [(5,hd 0 ([].map AI.enc)),p5,p4,p3],[mk 9 42 ([].map AI.enc)]⟩) (Wk.trans (s1:=⟨Fr 38 [(5,hd 0 ([].map AI.enc)),p5,p4,p3],[mk 9 42 ([].map AI.enc)]⟩) Wk.none (Au [0] ⟨⟨_,rfl,Oj⟩,trivial⟩ ⟨lv,lv,lv,lv,trivial⟩)) (LD x0 x1 _ [] 0 _ hr10)) ?_;refine AM AC [(4,hd 0 (r10.map AI.enc))] [mk 9 42 (r10.map AI.enc)] ?_;refine AX ?_;have hq:=OI h; subst hq
 let p7:Nat×AV:=(4,.sl 9 (r10.map AI.enc))
 exact ⟨⟨Fr 38 [p7],[]⟩,(Wk.trans (s1:=⟨Fr 38 [p7],[none]⟩) (I0 0 (.inl kr) ⟨.inl rfl,trivial⟩ ⟨⟨hd 0 (r10.map AI.enc),kr,Pr (t:=42) kr KV⟩,trivial⟩) (Au [] trivial ⟨lv,trivial⟩)),.inr rfl,[.sl 9 (r10.map AI.enc)],kr,kr⟩
def N3:List AV->Option AV:=EN GR (fun a=>Ec a.1 a.2.1) H8
theorem N8:XOk 20 N3:=by
 refine AZ Tryz.func20 (c:=Hz) ?h2 ⟨Tryz.call20⟩ GR (fun a=>Ec a.1 a.2.1) H8 (fun a=>(by show 2<=38; decide)) ?h3 ?h4
 case h2=>kernel_rfl
 case h3=>intro b; kernel_rfl
 case h4=>exact fun a b h=>MO a.1 a.2.1 b h
noncomputable def Dl:Code:=Bo Tryz.f31
def Ax (xs:List Aw):Option Blk:=some ⟨9,42,xs.map AI.enc,false⟩
set_option maxRecDepth 100000 in
theorem FP (xs:List Aw) (hc:Fe 112 xs.length=true):Sem E0 ⟨none,false⟩ Dl ⟨Fr 8 [(0,.sl 9 (xs.map AI.enc))],[]⟩ fun e s'=>(e = .normal\/e = .ret)/\((xs=[]/\s'=⟨Fr 8 [(2,.e0)],[]⟩)\/s'=⟨Fr 8 [(2,.rf 0 0 xs.length xs.length)],[Ax xs]⟩):=by
 refine AH ?_
 refine AO (s1:=⟨Fr 8 [(0,.sl 9 (xs.map AI.enc)),(2,.e0)],[]⟩) ?_ ?_
 ·refine FW AC 1 (s1:=⟨Fr 8 [(0,.sl 9 (xs.map AI.enc)),(2,.e0)],[]⟩) (by kernel_rfl) ?_
  exact AL rfl AT
 refine AH ?_
 refine AH (Ma ?_)
 refine FW AC 1 (s1:=⟨Fr 8 [(0,.sl 9 (xs.map AI.enc)),(2,.e0),(3,.sl 9 (xs.map AI.enc))],[]⟩) (by kernel_rfl) ?_
 refine OA (k:=9) (el:=42) (es:=xs.map AI.enc) rfl (AB rfl) (by kernel_rfl) (by kernel_rfl) fun b hb=>AL rfl ?_
 have hb:b=true->xs=[]:=fun h=>List.map_eq_nil_iff.1 (hb h)
 refine AW (b:=b) (by kernel_rfl) (fun hb1=>?_) (fun hb1=>?_)
 ·have hx:=hb hb1
  refine BJ ?_
  refine AH (AO (s1:=⟨Fr 8 [(2,.e0)],[]⟩) ?_ (AX ?_))
  ·refine FW AC 1 (s1:=⟨Fr 8 [(0,.sl 9 (xs.map AI.enc)),(2,.e0),(3,.sl 9 (xs.map AI.enc)),(4,.v (.bool b))],[]⟩) (by kernel_rfl) ?_
   exact AL rfl AT
  ·exact ⟨_,Wk.refl,.inr rfl,.inl ⟨hx,rfl⟩⟩
 ·refine Ai ?_
  refine BJ (AH (Ma ?_))
  refine FW AC 2 (s1:=⟨Fr 8 [(0,.sl 9 (xs.map AI.enc)),(2,.e0),(3,.sl 9 (xs.map AI.enc)),(4,.v (.bool b)),(5,.rf 0 0 0 0),(6,.sl 9 (xs.map AI.enc))],[Ax []]⟩) (by kernel_rfl) ?_
  cases xs with
  | nil =>
   refine Aq AC 0 rfl (TK (x:= .rf 0 0 0 0) (hp':=[Ax []]) (AB rfl) rfl (by kernel_rfl) (by kernel_rfl) (by kernel_rfl)) ?_
   refine FW AC 1 (s1:=⟨Fr 8 [(0,.sl 9 []),(2,.rf 0 0 0 0),(3,.sl 9 []),(4,.v (.bool b)),(5,.rf 0 0 0 0),(6,.sl 9 []),(7,.rf 0 0 0 0)],[Ax []]⟩) (by kernel_rfl) (AL rfl (AX ?_))
   exact ⟨⟨Fr 8 [(2,.rf 0 0 0 0)],[Ax []]⟩,AT,.inr rfl,.inr rfl⟩
  | cons y ys =>
   refine Aq AC 0 rfl (TK (AB rfl) rfl (by kernel_rfl) (by kernel_rfl) (Hr (a:= .rf 0 0 0 0) (b:= .sl 9 ((y::ys).map AI.enc)) (by kernel_rfl) (by kernel_rfl) (RB (c:=AI) (xs:=[]) (vs:=y::ys) (k:=9) (bytes:=112) (el:=42) (by kernel_rfl) (by kernel_rfl) RL (List.cons_ne_nil _ _) (by kernel_rfl) (by rw [List.length_nil,Nat.zero_add]; exact hc)))) ?_
   refine FW AC 1 (s1:=⟨Fr 8 [(0,.sl 9 ((y::ys).map AI.enc)),(2,.rf 1 0 (y::ys).length (y::ys).length),(3,.sl 9 ((y::ys).map AI.enc)),(4,.v (.bool b)),(5,.rf 0 0 0 0),(6,.sl 9 ((y::ys).map AI.enc)),(7,.rf 1 0 (y::ys).length (y::ys).length)],[none,Ax (y::ys)]⟩) (by kernel_rfl) (AL rfl (AX ?_))
   exact ⟨⟨Fr 8 [(2,.rf 0 0 (y::ys).length (y::ys).length)],[Ax (y::ys)]⟩,Au [1] ⟨⟨_,rfl,Ul⟩,trivial⟩ ⟨lv,trivial⟩,.inr rfl,.inr rfl⟩
def Ff (xs:List Aw) (x:AV) (h':Hp):Prop:=(xs=[]/\x = .e0/\h'=[])\/(x = .rf 0 0 xs.length xs.length/\h'=[Ax xs])
theorem F7 (xs:List Aw) (hc:Fe 112 xs.length=true):SOk 31 [.sl 9 (xs.map AI.enc)] (Ff xs):=by
 refine OY AC rfl rfl (fn:=Tryz.f31) (c:=Dl) (by kernel_rfl) (by kernel_rfl) ⟨Tryz.call31⟩ (by show 1<=8; decide) (Sem.mono (FP xs hc) ?_)
 rintro e s' ⟨he,⟨hx,rfl⟩ | rfl⟩
 ·exact ⟨he,[.e0],by kernel_rfl,.inl ⟨hx,rfl,rfl⟩⟩
 ·exact ⟨he,[.rf 0 0 xs.length xs.length],by kernel_rfl,.inr ⟨rfl,rfl⟩⟩
def Kj:Cs (List Aw×Unit):=csC (cdL 9 AI) csN
theorem O8 {R:List RI}{c:Nat}:¬ own R [] c:=fun ⟨b,B,_,hb,_⟩=>by simp at hb
/-- What a call hands back, seen as frozen. -/
def SM (h:Hp):AV->Option AV
 | .tp l=>(Nr (Fz h 12) l).map .tp
 | x=>Fz h 12 x
theorem Uc {w:World}{Z:Nat->Prop}{R:List RI}{h:Hp}{x y:AV}{v:Value}(hh:HR w Z R h) (hv:VR w Z R x v) (e:SM h x=some y):VR w (fun c=>Z c\/own R h c) [] y v:=by
 unfold SM at e
 split at e
 ·obtain ⟨ys,h1,rfl⟩:=Option.map_eq_some_iff.1 e
  cases hv with
  | tp hl hx =>
   have:=allV_vr (KJ hh 12) ⟨hl,hx⟩ h1
   exact .tp this.len this.at_
 ·exact KJ hh 12 _ _ _ hv e
theorem frz_ret {E:Env}{f:FuncId}{w:World}{Z:Nat->Prop}{us:List Value}{x y:AV}{h':Hp}(hr:Pa E f us w Z [] [] x h') (hv:SM h' x=some y) :
  Ret E.P f us.toArray w fun v w'=>w.grownBy w' none/\VR w' (fun c=>Z c\/(w.heap.size<=c/\c < w'.heap.size)) [] y v:=by
 refine Ret.mono hr fun v w' hS=>?_
 obtain ⟨Z',R',k1,k2,k3⟩:=hS
 refine ⟨⟨k3.os,k3.tape,k3.output,k3.size,fun c hc _=>k3.block c hc O8⟩,(Uc k1 k2 hv).mono (fun _ _=>rfl) (fun c hc=>?_) (fun _ _ h=>h)⟩
 rcases hc with hc | hc
 ·rcases k3.z' c hc with h1 | h1 | h1
  ·exact .inl h1
  ·exact absurd h1 O8
  ·exact .inr ⟨h1,k1.zlt c hc⟩
 ·rcases k3.own_ c hc with h1 | h1
  ·exact absurd h1 O8
  ·obtain ⟨b,B,r,h2,_,h3,rfl⟩:=hc
   exact .inr ⟨h1,k1.rltL h2 h3⟩
theorem hr_nil {w:World}{Z:Nat->Prop}(hz:∀ c,Z c->c < w.heap.size):HR w Z [] []:=⟨rfl,fun b B hB=>by simp at hB,fun b b' B B' r r' hB=>by simp at hB,hz⟩
/-- A closed call is told by what the interpreter finds. -/
theorem Sd {E:Env}(hE:EnvOk E){f:FuncId}{g:List AV->Option AV}(hc:B4 E.P f) (hg:∀ xs y,g xs=some y->∃ n x h',It E (evC E n) none f xs []=some (x,h')/\SM h' x=some y):EnvOk (E.withX f g):=by
 refine hE.withX hc fun xs y h w Z us hz hgi hv=>?_
 obtain ⟨n,x,h',he,hvw⟩:=hg xs y h
 exact frz_ret (enter_sound hE (code_sound hE n).1 he (hr_nil hz) hv hgi (fun y hy=>by cases hy)) hvw
/-- What a closed call hands back, frozen. -/
def Bn (E:Env) (n:Nat) (f:FuncId) (args:List AV):Option AV:=match It E (evC E n) none f args [] with
 | some (x,h')=>SM h' x
 | none=>none
/-- The same values? -/
def kB:IntKind->IntKind->Bool
 | .i64,.i64=>true
 | .u8,.u8=>true
 | _,_=>false
def vB:Value->Value->Bool
 | .int k a,.int k' b=>kB k k'&&a==b
 | .bool a,.bool b=>a==b
 | .pointer none,.pointer none=>true
 | _,_=>false
def bsB:List UInt8->List UInt8->Bool
 | [],[]=>true
 | a::l,b::r=>Nat.beq a.toNat b.toNat&&bsB l r
 | _,_=>false
def Tk (g:AV->AV->Bool):List AV->List AV->Bool
 | [],[]=>true
 | a::l,b::r=>g a b&&Tk g l r
 | _,_=>false
def Tq:Nat->AV->AV->Bool
 | 0,_,_=>false
 | n + 1,x,y=>match x,y with
  | .v a,.v b=>vB a b
  | .st a,.st b=>bsB a b
  | .e0,.e0=>true
  | .sl k a,.sl k' b=>Nat.beq k k'&&Tk (Tq n) a b
  | .pe a o,.pe b o'=>Nat.beq o o'&&Tq n a b
  | .ag a,.ag b=>Tk (Tq n) a b
  | .tp a,.tp b=>Tk (Tq n) a b
  | .fn f a b,.fn f' a' b'=>Nat.beq f f'&&(Tk (Tq n) a a'&&Tk (Tq n) b b')
  | _,_=>false
theorem Ye {a b:IntKind}(h:kB a b=true):a=b:=by
 unfold kB at h
 split at h
 ·rfl
 ·rfl
 ·cases h
theorem Yo {a b:Value}(h:vB a b=true):a=b:=by
 unfold vB at h
 split at h
 ·rw [Bool.and_eq_true] at h
  rw [Ye h.1,eq_of_beq h.2]
 ·rw [eq_of_beq h]
 ·rfl
 ·cases h
theorem Uk:∀ {a b:List UInt8},bsB a b=true->a=b
 | [],[],_=>rfl
 | x::l,y::r,h=>by
  unfold bsB at h
  rw [Bool.and_eq_true] at h
  rw [UInt8.toNat_inj.1 (Nat.eq_of_beq_eq_true h.1),Uk h.2]
 | [],_::_,h=>by cases h
 | _::_,[],h=>by cases h
theorem Jo {g:AV->AV->Bool}(hg:∀ x y,g x y=true->x=y):∀ {a b:List AV},Tk g a b=true->a=b
 | [],[],_=>rfl
 | x::l,y::r,h=>by
  unfold Tk at h
  rw [Bool.and_eq_true] at h
  rw [hg _ _ h.1,Jo hg h.2]
 | [],_::_,h=>by cases h
 | _::_,[],h=>by cases h
theorem QR:∀ (n:Nat) (x y:AV),Tq n x y=true->x=y
 | 0,_,_,h=>by cases h
 | n + 1,x,y,h=>by
  have ih:=QR n
  unfold Tq at h
  split at h
  ·rw [Yo h]
  ·rw [Uk h]
  ·rfl
  ·rw [Bool.and_eq_true] at h
   rw [Nat.eq_of_beq_eq_true h.1,Jo ih h.2]
  ·rw [Bool.and_eq_true] at h
   rw [Nat.eq_of_beq_eq_true h.1,ih _ _ h.2]
  ·rw [Jo ih h]
  ·rw [Jo ih h]
  ·rw [Bool.and_eq_true,Bool.and_eq_true] at h
   rw [Nat.eq_of_beq_eq_true h.1,Jo ih h.2.1,Jo ih h.2.2]
  ·cases h
/-- A table. -/
def Oa:List (List AV×AV)->List AV->Option AV
 | [],_=>none
 | (a,r)::l,xs=>if Tk (Tq 40) a xs=true then some r else Oa l xs
def U2 (E:Env) (f:FuncId):List (List AV×AV)->Prop
 | []=>True
 | (a,r)::l=>(∃ n,Bn E n f a=some r)/\U2 E f l
theorem Uy {E:Env}{f:FuncId}:∀ {l:List (List AV×AV)}{xs:List AV}{y:AV},U2 E f l->Oa l xs=some y->∃ n,Bn E n f xs=some y
 | (a,r)::l,xs,y,h,e=>by
  unfold Oa at e
  split at e
  ·next hb =>
   injection e with e
   subst e
   rw [<-Jo (QR 40) hb]
   exact h.1
  ·exact Uy h.2 e
theorem Kb {E:Env}(hE:EnvOk E){f:FuncId}{l:List (List AV×AV)}(hc:B4 E.P f) (h:U2 E f l):EnvOk (E.withX f (Oa l)):=by
 refine Sd hE hc fun xs y e=>?_
 obtain ⟨n,hn⟩:=Uy h e
 unfold Bn at hn
 split at hn
 ·next x h' he=>exact ⟨n,x,h',he,hn⟩
 ·cases hn
/-- Another contract, told by a table of its own values. -/
theorem WG {E:Env}{f:FuncId}{g:List AV->Option AV}{l:List (List AV×AV)}(hE:EnvOk (E.withX f g)) (h:∀ p ∈ l,g p.1=some p.2):EnvOk (E.withX f (Oa l)):=by
 have hl:∀ {l:List (List AV×AV)} {xs:List AV} {y:AV},(∀ p ∈ l,g p.1=some p.2)->Oa l xs=some y->g xs=some y:=by
  intro l
  induction l with
  | nil=>intro xs y _ e; cases e
  | cons p l ih =>
   intro xs y h e
   obtain ⟨a,r⟩:=p
   unfold Oa at e
   split at e
   ·next hb =>
    injection e with e
    subst e
    rw [<-Jo (QR 40) hb]
    exact h (a,r) (by simp)
   ·exact ih (fun p hp=>h p (List.mem_cons_of_mem _ hp)) e
 refine ⟨hE.fn,hE.mixed,hE.I,fun k q hk=>?_⟩
 change (if k=f then some (Oa l) else E.X k)=some q at hk
 split at hk
 ·next hkf =>
  injection hk with hk
  subst hk hkf
  obtain ⟨h1,h2⟩:=hE.X k g (if_pos rfl)
  exact ⟨h1,fun xs x hx w Z us hz hg hv=>h2 xs x (hl h hx) w Z us hz hg hv⟩
 ·next hkf=>exact hE.X k q ((if_neg hkf).trans hk)
/-- What is told in one environment may be told in another of the same program. -/
theorem Ud {E E':Env}{f:FuncId}{g:List AV->Option AV}(hE:EnvOk E) (h:EnvOk (E'.withX f g)) (hP:E'.P=E.P) (hG:E'.G=E.G):EnvOk (E.withX f g):=by
 obtain ⟨h1,h2⟩:=h.X f g (if_pos rfl)
 have e1:(E'.withX f g).P=E.P:=hP
 refine hE.withX (e1 ▸ h1) fun xs x hx w Z us hz hg hv=>?_
 have:=h2 xs x hx w Z us hz (fun q y hy=>hg q y (by rw [<-hG]; exact hy)) hv
 exact e1 ▸ this
/-- Lists that are told by one value. -/
noncomputable def csJ {α:Type}(e:α->List AV) (hi:∀ x y,e x=e y->x=y) (hn:∀ x,(e x).all DZ=true):Cs α where
 enc:=e
 dec a:=open Classical in if h:∃ x,e x=a then some h.choose else none
 de x:=by
  have h:∃ y,e y=e x:=⟨x,rfl⟩
  rw [dif_pos h,hi _ _ h.choose_spec]
 vr:=fun {w Z a x u} hd hv=>by
  split at hd
  ·next h=>injection hd with hd; subst hd; rw [h.choose_spec]; exact hv
  ·cases hd
 nr:=hn
theorem Og {α:Type}{n:Nat}{h:Hp}{s:Cs α}{a:α}:Sl (n + 2) h s (s.enc a) a :=
 ⟨s.enc a,Jp fun y hy=>J4 (List.all_eq_true.1 (s.nr a) y hy) n,s.de a⟩
theorem Um {α:Type}{c:Cd α}{x y:α}(h:c.enc x=c.enc y):x=y:=by
 have h1:=c.de x
 rw [h,c.de y] at h1
 exact (OI h1).symm
/-- The order of a clause without regard to Among. -/
def K7 (c:AE):AV :=
 if (c.1==1)=true then .fn 205 [] [.pe (.fn 178 [] [.pe (AA.enc c) 0]) 0] else
 if (c.1==2)=true then .fn 179 [] [.pe (AA.enc c) 0] else
 if (c.1==3)=true then .fn 179 [] [.pe (AA.enc c) 0] else
 if (c.1==4)=true then .fn 205 [] [.pe (.fn 206 [] [.pe (.fn 182 [] [.pe (AA.enc c) 0]) 0,.pe (AA.enc c) 0]) 0] else
 if (c.1==5)=true then .fn 205 [] [.pe (.fn 206 [] [.pe (.fn 183 [] []) 0,.pe (AA.enc c) 0]) 0] else
 if (c.1==6)=true then .fn 205 [] [.pe (.fn 206 [] [.pe (.fn 184 [] [.pe (AA.enc c) 0]) 0,.pe (AA.enc c) 0]) 0] else
 if (c.1==7)=true then .fn 205 [] [.pe (.fn 206 [] [.pe (.fn 186 [] [.pe (AA.enc c) 0]) 0,.pe (AA.enc c) 0]) 0] else
 if (c.1==8)=true then .fn 187 [] [] else
 if (c.1==10)=true then .fn 209 [] [.pe (.fn 208 [] []) 0,.pe (.fn 190 [] [.pe (AA.enc c) 0]) 0] else
 .fn 209 [] [.pe (.fn 208 [] []) 0,.pe (.fn 191 [] []) 0]
def IQ (c:AE):AV:= .fn 165 [] [.pe (AA.enc c) 0,.pe (K7 c) 0]
noncomputable def By:Cd AE:=cdJ IQ (fun x y h=>by
 unfold IQ at h
 injection h with _ _ h
 injection h with h
 injection h with h
 exact Um h) (fun _=>rfl)
noncomputable def Ph:Cs AE:=csJ (fun c=>[.pe (AA.enc c) 0,.pe (K7 c) 0]) (fun x y h=>by
 injection h with h
 injection h with h
 exact Um h) (fun _=>rfl)
/-- A straight call, told by what the interpreter finds. -/
theorem SN {f:FuncId}(hc:B4 E0.P f){α β:Type}(s:Cs α) (F:α->Option β) (er:β->AV) (h:∀ a b,F a=some b->∃ n,Bn E0 n f (s.enc a)=some (er b)):XOk f (EN s F er):=by
 refine ⟨hc,fun xs y hy w Z us hz hg hv=>?_⟩
 obtain ⟨a,ha,hy⟩:=OB hy
 obtain ⟨b,hb,rfl⟩:=Option.map_eq_some_iff.1 hy
 obtain ⟨n,hn⟩:=h a b hb
 unfold Bn at hn
 split at hn
 ·next x h' he=>exact frz_ret (enter_sound AC (code_sound AC n).1 he (hr_nil hz) (s.vr ha hv) hg (fun y hy=>by cases hy)) hn
 ·cases hn
def Ej (x0:AE):Option AE:=if 1<=x0.1/\x0.1<=10 then some x0 else none
def B7:Cs (AE×Unit):=csC AA csN
noncomputable def Ha (r:AE):AV:=By.enc r
noncomputable def NS:List AV->Option AV:=EN B7 (fun a=>Ej a.1) Ha
section
variable (am:List UInt8) (la:Bool) (nm:List (List UInt8)) (m:Int)
theorem Vz:Bn E0 300 133 (B7.enc ((1,am,la,nm,m),()))=some (IQ (1,am,la,nm,m)):=by kernel_rfl
theorem V0:Bn E0 300 133 (B7.enc ((2,am,la,nm,m),()))=some (IQ (2,am,la,nm,m)):=by kernel_rfl
theorem V1:Bn E0 300 133 (B7.enc ((3,am,la,nm,m),()))=some (IQ (3,am,la,nm,m)):=by kernel_rfl
theorem V2:Bn E0 300 133 (B7.enc ((4,am,la,nm,m),()))=some (IQ (4,am,la,nm,m)):=by kernel_rfl
theorem V3:Bn E0 300 133 (B7.enc ((5,am,la,nm,m),()))=some (IQ (5,am,la,nm,m)):=by kernel_rfl
theorem V4:Bn E0 300 133 (B7.enc ((6,am,la,nm,m),()))=some (IQ (6,am,la,nm,m)):=by kernel_rfl
theorem V5:Bn E0 300 133 (B7.enc ((7,am,la,nm,m),()))=some (IQ (7,am,la,nm,m)):=by kernel_rfl
theorem V6:Bn E0 300 133 (B7.enc ((8,am,la,nm,m),()))=some (IQ (8,am,la,nm,m)):=by kernel_rfl
theorem V7:Bn E0 300 133 (B7.enc ((9,am,la,nm,m),()))=some (IQ (9,am,la,nm,m)):=by kernel_rfl
theorem UM:Bn E0 300 133 (B7.enc ((10,am,la,nm,m),()))=some (IQ (10,am,la,nm,m)):=by kernel_rfl
end
theorem Nk:XOk 133 NS:=by
 refine SN ⟨Tryz.call133⟩ B7 (fun a=>Ej a.1) Ha fun a b h=>⟨300,?_⟩
 obtain ⟨⟨k,am,la,nm,m⟩,⟨⟩⟩:=a
 by_cases hk:1<=k/\k<=10
 ·have h1:some (k,am,la,nm,m)=some b:=(if_pos hk:Ej (k,am,la,nm,m)=_).symm.trans h
  have h2:Ha b=IQ (k,am,la,nm,m):=congrArg IQ (OI h1).symm
  rw [h2]
  clear h h1 h2
  have hk':k=1\/k=2\/k=3\/k=4\/k=5\/k=6\/k=7\/k=8\/k=9\/k=10:=by omega
  rcases hk' with rfl | rfl | rfl | rfl | rfl | rfl | rfl | rfl | rfl | rfl
  ·exact Vz am la nm m
  ·exact V0 am la nm m
  ·exact V1 am la nm m
  ·exact V2 am la nm m
  ·exact V3 am la nm m
  ·exact V4 am la nm m
  ·exact V5 am la nm m
  ·exact V6 am la nm m
  ·exact V7 am la nm m
  ·exact UM am la nm m
 ·exact nomatch ((if_neg hk:Ej (k,am,la,nm,m)=_).symm.trans h)
/- trestle/court.formed -/
noncomputable def CO:Code:=Bo Tryz.f159
def GD (x0:AE):Option ((Bool)) :=
 if (x0.1==8)=true then
 some (x0.1==8)
 else
 some (x0.1==9)
def GC (x0:AE):Option ((Bool)) :=
 if (x0.1==3)=true then
 some (x0.1==3)
 else
 (GD x0).bind fun r14 =>
 some r14
def GB (x0:AE):Option ((Bool)) :=
 if (x0.1==2)=true then
 some (x0.1==2)
 else
 (GC x0).bind fun r15 =>
 some r15
def GH (x0:AE):Option ((Bool)) :=
 if (x0.1==6)=true then
 some (x0.1==6)
 else
 some (x0.1==7)
def GJ (x0:AE) (r33:Bool):Option ((Int×Int×Bool) ⊕ (Bool)) :=
 if r33=true then
 some (.inl (16,0,true))
 else
 if (x0.1==10)=true then
 some (.inl (0,63,false))
 else
 some (.inr false)
def GG (x0:AE):Option ((Int×Int×Bool) ⊕ (Bool)) :=
 if (x0.1==5)=true then
 some (.inl (0,0,true))
 else
 (GH x0).bind fun r33 =>
 (GJ x0 r33).bind fun r40 =>
 match r40 with
 | (.inl w41) =>
  some (.inl (w41.1,w41.2.1,w41.2.2))
 | (.inr w42) =>
  some (.inr w42)
def GF (x0:AE):Option ((Int×Int×Int×Bool) ⊕ (Bool)) :=
 if (x0.1==4)=true then
 some (.inl (0,1,2,true))
 else
 (GG x0).bind fun r44 =>
 match r44 with
 | (.inl w45) =>
  some (.inl (w45.1,0,w45.2.1,w45.2.2))
 | (.inr w46) =>
  some (.inr w46)
def GE (x0:AE) (r16:Bool):Option ((Int×Int×Int×Bool) ⊕ (Bool)) :=
 if r16=true then
 some (.inl (0,0,0,false))
 else
 (GF x0).bind fun r48 =>
 match r48 with
 | (.inl w49) =>
  some (.inl (w49.1,w49.2.1,w49.2.2.1,w49.2.2.2))
 | (.inr w50) =>
  some (.inr w50)
def GA (x0:AE):Option ((Int×Int×Int×Bool) ⊕ (Bool)) :=
 if (x0.1==1)=true then
 if (!(x0.2.1==[]))=true then
 some (.inr false)
 else
 some (.inl (16,0,0,false))
 else
 (GB x0).bind fun r16 =>
 (GE x0 r16).bind fun r52 =>
 match r52 with
 | (.inl w53) =>
  some (.inl (w53.1,w53.2.1,w53.2.2.1,w53.2.2.2))
 | (.inr w54) =>
  some (.inr w54)
def Bp (x0:AE):Option (Bool) :=
 (GA x0).bind fun r55 =>
 match r55 with
 | (.inl w56) =>
  (if (decide ((x0.2.2.2.1.length:Int)<=w56.1))=true then if (w56.1==0)=true then if (decide (x0.2.2.2.2≥w56.2.1))=true then if (decide (x0.2.2.2.2<=w56.2.2.1))=true then if w56.2.2.2=true then some true else some (!x0.2.2.1) else some false else some false else if (decide ((x0.2.2.2.1.length:Int) > 0))=true then if (decide (x0.2.2.2.2≥w56.2.1))=true then if (decide (x0.2.2.2.2<=w56.2.2.1))=true then if w56.2.2.2=true then some true else some (!x0.2.2.1) else some false else some false else some false else some false).bind fun j58 =>
  some j58
 | (.inr w68) =>
  some w68
def H3:Cs (AE×Unit):=(csC AA csN)
def H6 (r:Bool):AV:=cdB.enc r
theorem Kw (x0:AE) (r:(Bool)) (h:GD x0=some r):Sem E0 ⟨none,false⟩ (pc CO [1,1,0,1,0,1,1,0,1,1,1,1,1]) ⟨Fr 63 [(1,.pt 0 0 0),(3,.v (.int .i64 0)),(4,.v (.int .i64 0)),(5,.v (.int .i64 0)),(6,.v (.bool false)),(8,.v (.int .u8 x0.1)),(14,.v (.bool (x0.1==8)))],[some ⟨5,60,[AA.enc x0],false⟩]⟩ (fun e s=>e = .normal/\Wk E0 s ⟨Fr 63 [(1,.pt 0 0 0),(3,.v (.int .i64 0)),(4,.v (.int .i64 0)),(5,.v (.int .i64 0)),(6,.v (.bool false)),(8,.v (.int .u8 x0.1)),(14,.v (.bool r))],[some ⟨5,60,[AA.enc x0],false⟩]⟩):=by
 unfold GD at h;refine AW (b:=(x0.1==8)) kr (fun hb12=>?_) (fun hb12=>?_)
 ·rw [if_pos hb12] at h
  refine Ai ?_;have hq:=OI h; subst hq;exact ⟨rfl,(Au [0] ⟨⟨_,rfl,Cw⟩,trivial⟩ ⟨lv,lv,lv,lv,lv,lv,lv,trivial⟩)⟩
 ·rw [Cr hb12] at h
  refine Eq AC [(1,.pt 0 0 0),(3,.v (.int .i64 0)),(4,.v (.int .i64 0)),(5,.v (.int .i64 0)),(6,.v (.bool false)),(8,.v (.int .u8 x0.1)),(14,.v (.bool (x0.1==9)))] [some ⟨5,60,[AA.enc x0],false⟩] ?_;have hq:=OI h; subst hq;exact ⟨rfl,(Au [0] ⟨⟨_,rfl,Cw⟩,trivial⟩ ⟨lv,lv,lv,lv,lv,lv,lv,trivial⟩)⟩
theorem Kv (x0:AE) (r:(Bool)) (h:GC x0=some r):Sem E0 ⟨none,false⟩ (pc CO [1,1,0,1,0,1,1,0,1,1,1]) ⟨Fr 63 [(1,.pt 0 0 0),(3,.v (.int .i64 0)),(4,.v (.int .i64 0)),(5,.v (.int .i64 0)),(6,.v (.bool false)),(8,.v (.int .u8 x0.1)),(14,.v (.bool (x0.1==3)))],[some ⟨5,60,[AA.enc x0],false⟩]⟩ (fun e s=>e = .normal/\Wk E0 s ⟨Fr 63 [(1,.pt 0 0 0),(3,.v (.int .i64 0)),(4,.v (.int .i64 0)),(5,.v (.int .i64 0)),(6,.v (.bool false)),(8,.v (.int .u8 x0.1)),(14,.v (.bool r))],[some ⟨5,60,[AA.enc x0],false⟩]⟩):=by
 unfold GC at h;refine AW (b:=(x0.1==3)) kr (fun hb10=>?_) (fun hb10=>?_)
 ·rw [if_pos hb10] at h
  refine Ai ?_;have hq:=OI h; subst hq;exact ⟨rfl,(Au [0] ⟨⟨_,rfl,Cw⟩,trivial⟩ ⟨lv,lv,lv,lv,lv,lv,lv,trivial⟩)⟩
 ·rw [Cr hb10] at h
  refine AM AC [(1,.pt 0 0 0),(3,.v (.int .i64 0)),(4,.v (.int .i64 0)),(5,.v (.int .i64 0)),(6,.v (.bool false)),(8,.v (.int .u8 x0.1)),(14,.v (.bool (x0.1==8)))] [some ⟨5,60,[AA.enc x0],false⟩] ?_;obtain ⟨r14,hr14,h⟩:=OB h;refine C6 (Kw x0 _ hr14) ?_;have hq:=OI h; subst hq;exact ⟨rfl,(Au [0] ⟨⟨_,rfl,Cw⟩,trivial⟩ ⟨lv,lv,lv,lv,lv,lv,lv,trivial⟩)⟩
theorem Ku (x0:AE) (r:(Bool)) (h:GB x0=some r):Sem E0 ⟨none,false⟩ (pc CO [1,1,0,1,0,1,1,0,1]) ⟨Fr 63 [(1,.pt 0 0 0),(3,.v (.int .i64 0)),(4,.v (.int .i64 0)),(5,.v (.int .i64 0)),(6,.v (.bool false)),(8,.v (.int .u8 x0.1)),(14,.v (.bool (x0.1==2)))],[some ⟨5,60,[AA.enc x0],false⟩]⟩ (fun e s=>e = .normal/\Wk E0 s ⟨Fr 63 [(1,.pt 0 0 0),(3,.v (.int .i64 0)),(4,.v (.int .i64 0)),(5,.v (.int .i64 0)),(6,.v (.bool false)),(8,.v (.int .u8 x0.1)),(14,.v (.bool r))],[some ⟨5,60,[AA.enc x0],false⟩]⟩):=by
 unfold GB at h;refine AW (b:=(x0.1==2)) kr (fun hb8=>?_) (fun hb8=>?_)
 ·rw [if_pos hb8] at h
  refine Ai ?_;have hq:=OI h; subst hq;exact ⟨rfl,(Au [0] ⟨⟨_,rfl,Cw⟩,trivial⟩ ⟨lv,lv,lv,lv,lv,lv,lv,trivial⟩)⟩
 ·rw [Cr hb8] at h
  refine AM AC [(1,.pt 0 0 0),(3,.v (.int .i64 0)),(4,.v (.int .i64 0)),(5,.v (.int .i64 0)),(6,.v (.bool false)),(8,.v (.int .u8 x0.1)),(14,.v (.bool (x0.1==3)))] [some ⟨5,60,[AA.enc x0],false⟩] ?_;obtain ⟨r15,hr15,h⟩:=OB h;refine C6 (Kv x0 _ hr15) ?_;have hq:=OI h; subst hq;exact ⟨rfl,(Au [0] ⟨⟨_,rfl,Cw⟩,trivial⟩ ⟨lv,lv,lv,lv,lv,lv,lv,trivial⟩)⟩
theorem Kx (x0:AE) (r:(Bool)) (h:GH x0=some r):Sem E0 ⟨none,false⟩ (pc CO [1,1,0,1,0,1,1,1,1,1,1,1,1,0,1]) ⟨Fr 63 [(1,.pt 0 0 0),(3,.v (.int .i64 0)),(4,.v (.int .i64 0)),(5,.v (.int .i64 0)),(6,.v (.bool false)),(8,.v (.int .u8 x0.1)),(23,.v (.bool (x0.1==6)))],[some ⟨5,60,[AA.enc x0],false⟩]⟩ (fun e s=>e = .normal/\Wk E0 s ⟨Fr 63 [(1,.pt 0 0 0),(3,.v (.int .i64 0)),(4,.v (.int .i64 0)),(5,.v (.int .i64 0)),(6,.v (.bool false)),(8,.v (.int .u8 x0.1)),(23,.v (.bool r))],[some ⟨5,60,[AA.enc x0],false⟩]⟩):=by
 unfold GH at h;refine AW (b:=(x0.1==6)) kr (fun hb31=>?_) (fun hb31=>?_)
 ·rw [if_pos hb31] at h
  refine Ai ?_;have hq:=OI h; subst hq;exact ⟨rfl,(Au [0] ⟨⟨_,rfl,Cw⟩,trivial⟩ ⟨lv,lv,lv,lv,lv,lv,lv,trivial⟩)⟩
 ·rw [Cr hb31] at h
  refine Eq AC [(1,.pt 0 0 0),(3,.v (.int .i64 0)),(4,.v (.int .i64 0)),(5,.v (.int .i64 0)),(6,.v (.bool false)),(8,.v (.int .u8 x0.1)),(23,.v (.bool (x0.1==7)))] [some ⟨5,60,[AA.enc x0],false⟩] ?_;have hq:=OI h; subst hq;exact ⟨rfl,(Au [0] ⟨⟨_,rfl,Cw⟩,trivial⟩ ⟨lv,lv,lv,lv,lv,lv,lv,trivial⟩)⟩
theorem IP (x0:AE) (r33:Bool) (r:(Int×Int×Bool) ⊕ (Bool)) (h:GJ x0 r33=some r):Sem E0 ⟨none,false⟩ (pc CO [1,1,0,1,0,1,1,1,1,1,1,1,1,1]) ⟨Fr 63 [(1,.pt 0 0 0),(3,.v (.int .i64 0)),(4,.v (.int .i64 0)),(5,.v (.int .i64 0)),(6,.v (.bool false)),(8,.v (.int .u8 x0.1)),(23,.v (.bool r33))],[some ⟨5,60,[AA.enc x0],false⟩]⟩ (fun e s=>match r with
 | (.inl w)=>e = .normal/\Wk E0 s ⟨Fr 63 [(1,.pt 0 0 0),(3,.v (.int .i64 w.1)),(4,.v (.int .i64 0)),(5,.v (.int .i64 w.2.1)),(6,.v (.bool w.2.2))],[some ⟨5,60,[AA.enc x0],false⟩]⟩
 | (.inr w)=>e = .ret/\Wk E0 s ⟨Fr 63 [(2,.v (.bool w))],[]⟩):=by
 unfold GJ at h;refine AW (b:=r33) kr (fun hb34=>?_) (fun hb34=>?_)
 ·rw [if_pos hb34] at h
  refine Eq AC [(1,.pt 0 0 0),(3,.v (.int .i64 16)),(4,.v (.int .i64 0)),(5,.v (.int .i64 0)),(6,.v (.bool true))] [some ⟨5,60,[AA.enc x0],false⟩] ?_;have hq:=OI h; subst hq;exact ⟨rfl,(Au [0] ⟨⟨_,rfl,Cw⟩,trivial⟩ ⟨lv,lv,lv,lv,lv,trivial⟩)⟩
 ·rw [Cr hb34] at h
  let p1:Option Blk:=some ⟨5,60,[AA.enc x0],false⟩
  refine AM AC [(1,.pt 0 0 0),(3,.v (.int .i64 0)),(4,.v (.int .i64 0)),(6,.v (.bool false)),(26,.v (.bool (x0.1==10)))] [p1] ?_;refine AW (b:=(x0.1==10)) kr (fun hb38=>?_) (fun hb38=>?_)
  ·rw [if_pos hb38] at h
   refine Eq AC [(1,.pt 0 0 0),(3,.v (.int .i64 0)),(4,.v (.int .i64 0)),(5,.v (.int .i64 63)),(6,.v (.bool false))] [p1] ?_;have hq:=OI h; subst hq;exact ⟨rfl,(Au [0] ⟨⟨_,rfl,Cw⟩,trivial⟩ ⟨lv,lv,lv,lv,lv,trivial⟩)⟩
  ·rw [Cr hb38] at h
   refine AH ?_;refine AO (s1:=⟨Fr 63 [(2,.v (.bool false))],[]⟩) ?_ ?_
   ·refine AF (n:=63) AC 1 [(2,.v (.bool false))] [p1] kr ?_
    exact AL rfl (Au [] trivial ⟨lv,trivial⟩)
   refine AX ?_;have hq:=OI h; subst hq;exact ⟨rfl,AT⟩
theorem IN (x0:AE) (r:(Int×Int×Bool) ⊕ (Bool)) (h:GG x0=some r):Sem E0 ⟨none,false⟩ (pc CO [1,1,0,1,0,1,1,1,1,1,1,1]) ⟨Fr 63 [(1,.pt 0 0 0),(3,.v (.int .i64 0)),(4,.v (.int .i64 0)),(5,.v (.int .i64 0)),(6,.v (.bool false)),(8,.v (.int .u8 x0.1)),(21,.v (.bool (x0.1==5)))],[some ⟨5,60,[AA.enc x0],false⟩]⟩ (fun e s=>match r with
 | (.inl w)=>e = .normal/\Wk E0 s ⟨Fr 63 [(1,.pt 0 0 0),(3,.v (.int .i64 w.1)),(4,.v (.int .i64 0)),(5,.v (.int .i64 w.2.1)),(6,.v (.bool w.2.2))],[some ⟨5,60,[AA.enc x0],false⟩]⟩
 | (.inr w)=>e = .ret/\Wk E0 s ⟨Fr 63 [(2,.v (.bool w))],[]⟩):=by
 unfold GG at h;refine AW (b:=(x0.1==5)) kr (fun hb27=>?_) (fun hb27=>?_)
 ·rw [if_pos hb27] at h
  refine Eq AC [(1,.pt 0 0 0),(3,.v (.int .i64 0)),(4,.v (.int .i64 0)),(5,.v (.int .i64 0)),(6,.v (.bool true))] [some ⟨5,60,[AA.enc x0],false⟩] ?_;have hq:=OI h; subst hq;exact ⟨rfl,(Au [0] ⟨⟨_,rfl,Cw⟩,trivial⟩ ⟨lv,lv,lv,lv,lv,trivial⟩)⟩
 ·rw [Cr hb27] at h
  refine AH ?_;refine AM AC [(1,.pt 0 0 0),(3,.v (.int .i64 0)),(4,.v (.int .i64 0)),(5,.v (.int .i64 0)),(6,.v (.bool false)),(8,.v (.int .u8 x0.1)),(23,.v (.bool (x0.1==6)))] [some ⟨5,60,[AA.enc x0],false⟩] ?_;obtain ⟨r33,hr33,h⟩:=OB h;refine C6 (Kx x0 _ hr33) ?_;obtain ⟨r40,hr40,h⟩:=OB h;rcases r40 with w41 | w42
  ·try dsimp only at h
   refine C6 (IP x0 r33 _ hr40) ?_;have hq:=OI h; subst hq;exact ⟨rfl,(Au [0] ⟨⟨_,rfl,Cw⟩,trivial⟩ ⟨lv,lv,lv,lv,lv,trivial⟩)⟩
  ·try dsimp only at h
   refine C6 (IP x0 r33 _ hr40) ?_;have hq:=OI h; subst hq;exact ⟨rfl,AT⟩
theorem IM (x0:AE) (r:(Int×Int×Int×Bool) ⊕ (Bool)) (h:GF x0=some r):Sem E0 ⟨none,false⟩ (pc CO [1,1,0,1,0,1,1,1,1,1]) ⟨Fr 63 [(1,.pt 0 0 0),(3,.v (.int .i64 0)),(4,.v (.int .i64 0)),(5,.v (.int .i64 0)),(6,.v (.bool false)),(8,.v (.int .u8 x0.1)),(19,.v (.bool (x0.1==4)))],[some ⟨5,60,[AA.enc x0],false⟩]⟩ (fun e s=>match r with
 | (.inl w)=>e = .normal/\Wk E0 s ⟨Fr 63 [(1,.pt 0 0 0),(3,.v (.int .i64 w.1)),(4,.v (.int .i64 w.2.1)),(5,.v (.int .i64 w.2.2.1)),(6,.v (.bool w.2.2.2))],[some ⟨5,60,[AA.enc x0],false⟩]⟩
 | (.inr w)=>e = .ret/\Wk E0 s ⟨Fr 63 [(2,.v (.bool w))],[]⟩):=by
 unfold GF at h;refine AW (b:=(x0.1==4)) kr (fun hb22=>?_) (fun hb22=>?_)
 ·rw [if_pos hb22] at h
  refine Eq AC [(1,.pt 0 0 0),(3,.v (.int .i64 0)),(4,.v (.int .i64 1)),(5,.v (.int .i64 2)),(6,.v (.bool true))] [some ⟨5,60,[AA.enc x0],false⟩] ?_;have hq:=OI h; subst hq;exact ⟨rfl,(Au [0] ⟨⟨_,rfl,Cw⟩,trivial⟩ ⟨lv,lv,lv,lv,lv,trivial⟩)⟩
 ·rw [Cr hb22] at h
  refine AM AC [(1,.pt 0 0 0),(3,.v (.int .i64 0)),(4,.v (.int .i64 0)),(5,.v (.int .i64 0)),(6,.v (.bool false)),(8,.v (.int .u8 x0.1)),(21,.v (.bool (x0.1==5)))] [some ⟨5,60,[AA.enc x0],false⟩] ?_;obtain ⟨r44,hr44,h⟩:=OB h;rcases r44 with w45 | w46
  ·try dsimp only at h
   refine C6 (IN x0 _ hr44) ?_;have hq:=OI h; subst hq;exact ⟨rfl,(Au [0] ⟨⟨_,rfl,Cw⟩,trivial⟩ ⟨lv,lv,lv,lv,lv,trivial⟩)⟩
  ·try dsimp only at h
   refine C6 (IN x0 _ hr44) ?_;have hq:=OI h; subst hq;exact ⟨rfl,AT⟩
theorem IL (x0:AE) (r16:Bool) (r:(Int×Int×Int×Bool) ⊕ (Bool)) (h:GE x0 r16=some r):Sem E0 ⟨none,false⟩ (pc CO [1,1,0,1,0,1,1,1]) ⟨Fr 63 [(1,.pt 0 0 0),(3,.v (.int .i64 0)),(4,.v (.int .i64 0)),(5,.v (.int .i64 0)),(6,.v (.bool false)),(8,.v (.int .u8 x0.1)),(14,.v (.bool r16))],[some ⟨5,60,[AA.enc x0],false⟩]⟩ (fun e s=>match r with
 | (.inl w)=>e = .normal/\Wk E0 s ⟨Fr 63 [(1,.pt 0 0 0),(3,.v (.int .i64 w.1)),(4,.v (.int .i64 w.2.1)),(5,.v (.int .i64 w.2.2.1)),(6,.v (.bool w.2.2.2))],[some ⟨5,60,[AA.enc x0],false⟩]⟩
 | (.inr w)=>e = .ret/\Wk E0 s ⟨Fr 63 [(2,.v (.bool w))],[]⟩):=by
 unfold GE at h;refine AW (b:=r16) kr (fun hb17=>?_) (fun hb17=>?_)
 ·rw [if_pos hb17] at h
  refine Ai ?_;have hq:=OI h; subst hq;exact ⟨rfl,(Au [0] ⟨⟨_,rfl,Cw⟩,trivial⟩ ⟨lv,lv,lv,lv,lv,trivial⟩)⟩
 ·rw [Cr hb17] at h
  refine AM AC [(1,.pt 0 0 0),(3,.v (.int .i64 0)),(4,.v (.int .i64 0)),(5,.v (.int .i64 0)),(6,.v (.bool false)),(8,.v (.int .u8 x0.1)),(19,.v (.bool (x0.1==4)))] [some ⟨5,60,[AA.enc x0],false⟩] ?_;obtain ⟨r48,hr48,h⟩:=OB h;rcases r48 with w49 | w50
  ·try dsimp only at h
   refine C6 (IM x0 _ hr48) ?_;have hq:=OI h; subst hq;exact ⟨rfl,(Au [0] ⟨⟨_,rfl,Cw⟩,trivial⟩ ⟨lv,lv,lv,lv,lv,trivial⟩)⟩
  ·try dsimp only at h
   refine C6 (IM x0 _ hr48) ?_;have hq:=OI h; subst hq;exact ⟨rfl,AT⟩
theorem IK (x0:AE) (r:(Int×Int×Int×Bool) ⊕ (Bool)) (h:GA x0=some r):Sem E0 ⟨none,false⟩ (pc CO [1,1,0,1,0,1]) ⟨Fr 63 [(1,.pt 0 0 0),(3,.v (.int .i64 0)),(4,.v (.int .i64 0)),(5,.v (.int .i64 0)),(6,.v (.bool false)),(8,.v (.int .u8 x0.1)),(9,.v (.bool (x0.1==1)))],[some ⟨5,60,[AA.enc x0],false⟩]⟩ (fun e s=>match r with
 | (.inl w)=>e = .normal/\Wk E0 s ⟨Fr 63 [(1,.pt 0 0 0),(3,.v (.int .i64 w.1)),(4,.v (.int .i64 w.2.1)),(5,.v (.int .i64 w.2.2.1)),(6,.v (.bool w.2.2.2))],[some ⟨5,60,[AA.enc x0],false⟩]⟩
 | (.inr w)=>e = .ret/\Wk E0 s ⟨Fr 63 [(2,.v (.bool w))],[]⟩):=by
 unfold GA at h;refine AW (b:=(x0.1==1)) kr (fun hb1=>?_) (fun hb1=>?_)
 ·rw [if_pos hb1] at h
  refine AH ?_
  let p1:Option Blk:=some ⟨5,60,[AA.enc x0],false⟩
  refine AM AC [(1,.pt 0 0 0),(4,.v (.int .i64 0)),(5,.v (.int .i64 0)),(6,.v (.bool false)),(13,.v (.bool (!(x0.2.1==[]))))] [p1] ?_;refine AW (b:=(!(x0.2.1==[]))) kr (fun hb2=>?_) (fun hb2=>?_)
  ·rw [if_pos hb2] at h
   refine AH ?_;refine AO (s1:=⟨Fr 63 [(2,.v (.bool false))],[]⟩) ?_ ?_
   ·refine AF (n:=63) AC 1 [(2,.v (.bool false))] [p1] kr ?_
    exact AL rfl (Au [] trivial ⟨lv,trivial⟩)
   refine AX ?_;have hq:=OI h; subst hq;exact ⟨rfl,AT⟩
  ·rw [Cr hb2] at h
   refine Ai ?_;refine Eq AC [(1,.pt 0 0 0),(3,.v (.int .i64 16)),(4,.v (.int .i64 0)),(5,.v (.int .i64 0)),(6,.v (.bool false))] [p1] ?_;have hq:=OI h; subst hq;exact ⟨rfl,(Au [0] ⟨⟨_,rfl,Cw⟩,trivial⟩ ⟨lv,lv,lv,lv,lv,trivial⟩)⟩
 ·rw [Cr hb1] at h
  refine AH ?_;refine AM AC [(1,.pt 0 0 0),(3,.v (.int .i64 0)),(4,.v (.int .i64 0)),(5,.v (.int .i64 0)),(6,.v (.bool false)),(8,.v (.int .u8 x0.1)),(14,.v (.bool (x0.1==2)))] [some ⟨5,60,[AA.enc x0],false⟩] ?_;obtain ⟨r16,hr16,h⟩:=OB h;refine C6 (Ku x0 _ hr16) ?_;obtain ⟨r52,hr52,h⟩:=OB h;rcases r52 with w53 | w54
  ·try dsimp only at h
   refine C6 (IL x0 r16 _ hr52) ?_;have hq:=OI h; subst hq;exact ⟨rfl,(Au [0] ⟨⟨_,rfl,Cw⟩,trivial⟩ ⟨lv,lv,lv,lv,lv,trivial⟩)⟩
  ·try dsimp only at h
   refine C6 (IL x0 r16 _ hr52) ?_;have hq:=OI h; subst hq;exact ⟨rfl,AT⟩
theorem MH (x0:AE) (r:Bool) (h:Bp x0=some r):Sem E0 ⟨none,false⟩ CO ⟨Fr 63 (BS 0 (H3.enc (x0,()))),[]⟩ fun e s'=>(e = .normal\/e = .ret)/\∃ xs,Eo E0.P s'.fr s'.hp Tryz.f159.results.toList=some xs/\Er xs=H6 r:=by
 unfold Bp at h;refine BJ (CD (s1:=⟨Fr 63 [(0,AA.enc x0)],[]⟩) AT ?_);refine AM AC [(1,.pt 0 0 0)] [some ⟨5,60,[AA.enc x0],false⟩] ?_;refine AM AC [(1,.pt 0 0 0),(3,.v (.int .i64 0)),(4,.v (.int .i64 0)),(5,.v (.int .i64 0)),(6,.v (.bool false))] [some ⟨5,60,[AA.enc x0],false⟩] ?_;refine AH ?_;refine AM AC [(1,.pt 0 0 0),(3,.v (.int .i64 0)),(4,.v (.int .i64 0)),(5,.v (.int .i64 0)),(6,.v (.bool false)),(8,.v (.int .u8 x0.1))] [some ⟨5,60,[AA.enc x0],false⟩] ?_;refine Bh ?_;refine AM AC [(1,.pt 0 0 0),(3,.v (.int .i64 0)),(4,.v (.int .i64 0)),(5,.v (.int .i64 0)),(6,.v (.bool false)),(8,.v (.int .u8 x0.1)),(9,.v (.bool (x0.1==1)))] [some ⟨5,60,[AA.enc x0],false⟩] ?_;obtain ⟨r55,hr55,h⟩:=OB h;rcases r55 with w56 | w68
 ·try dsimp only at h
  refine C6 (IK x0 _ hr55) ?_;refine AH ?_;obtain ⟨j58,hj58,h⟩:=OB h;refine AO (s1:=⟨Fr 63 [(2,.v (.bool j58))],[]⟩) ?_ ?_
  ·refine AF (n:=63) AC 2 [(1,.pt 0 0 0),(3,.v (.int .i64 w56.1)),(4,.v (.int .i64 w56.2.1)),(5,.v (.int .i64 w56.2.2.1)),(6,.v (.bool w56.2.2.2)),(29,.sl 1 (x0.2.2.2.1.map cdS.enc))] [some ⟨5,60,[AA.enc x0],false⟩] kr ?_
   refine Aq AC 0 rfl (EM (AB rfl) rfl (FU (a:= .sl 1 (x0.2.2.2.1.map cdS.enc)) kr (Dq (el:=9) kr))) ?_;refine AF (n:=63) AC 3 [(1,.pt 0 0 0),(3,.v (.int .i64 w56.1)),(4,.v (.int .i64 w56.2.1)),(5,.v (.int .i64 w56.2.2.1)),(6,.v (.bool w56.2.2.2)),(33,.v (.bool (decide ((x0.2.2.2.1.length:Int)<=w56.1))))] [some ⟨5,60,[AA.enc x0],false⟩] kr ?_;rcases BE (decide ((x0.2.2.2.1.length:Int)<=w56.1)) with hc59 | hc59
   ·rw [if_pos hc59] at hj58
    rw [hc59];refine AF (n:=63) AC 3 [(1,.pt 0 0 0),(4,.v (.int .i64 w56.2.1)),(5,.v (.int .i64 w56.2.2.1)),(6,.v (.bool w56.2.2.2)),(33,.v (.bool true)),(36,.v (.bool (w56.1==0)))] [some ⟨5,60,[AA.enc x0],false⟩] kr ?_;rcases BE (w56.1==0) with hc60 | hc60
    ·rw [if_pos hc60] at hj58
     rw [hc60];refine AF (n:=63) AC 13 [(1,.pt 0 0 0),(5,.v (.int .i64 w56.2.2.1)),(6,.v (.bool w56.2.2.2)),(49,.v (.bool (decide (x0.2.2.2.2≥w56.2.1))))] [some ⟨5,60,[AA.enc x0],false⟩] kr ?_;rcases BE (decide (x0.2.2.2.2≥w56.2.1)) with hc61 | hc61
     ·rw [if_pos hc61] at hj58
      rw [hc61];refine AF (n:=63) AC 6 [(1,.pt 0 0 0),(6,.v (.bool w56.2.2.2)),(55,.v (.bool (decide (x0.2.2.2.2<=w56.2.2.1))))] [some ⟨5,60,[AA.enc x0],false⟩] kr ?_;rcases BE (decide (x0.2.2.2.2<=w56.2.2.1)) with hc62 | hc62
      ·rw [if_pos hc62] at hj58
       rw [hc62];refine AF (n:=63) AC 2 [(1,.pt 0 0 0),(55,.v (.bool true)),(57,.v (.bool w56.2.2.2))] [some ⟨5,60,[AA.enc x0],false⟩] kr ?_;rcases BE w56.2.2.2 with hc63 | hc63
       ·rw [if_pos hc63] at hj58
        rw [hc63];refine AF (n:=63) AC 6 [(2,.v (.bool true))] [some ⟨5,60,[AA.enc x0],false⟩] kr ?_;have hq:=OI hj58; subst hq;exact AL rfl (Au [] trivial ⟨lv,trivial⟩)
       ·rw [Cr hc63] at hj58
        rw [hc63];refine AF (n:=63) AC 6 [(2,.v (.bool (!x0.2.2.1)))] [some ⟨5,60,[AA.enc x0],false⟩] kr ?_;have hq:=OI hj58; subst hq;exact AL rfl (Au [] trivial ⟨lv,trivial⟩)
      ·rw [Cr hc62] at hj58
       rw [hc62];refine AF (n:=63) AC 8 [(2,.v (.bool false))] [some ⟨5,60,[AA.enc x0],false⟩] kr ?_;have hq:=OI hj58; subst hq;exact AL rfl (Au [] trivial ⟨lv,trivial⟩)
     ·rw [Cr hc61] at hj58
      rw [hc61];refine AF (n:=63) AC 14 [(2,.v (.bool false))] [some ⟨5,60,[AA.enc x0],false⟩] kr ?_;have hq:=OI hj58; subst hq;exact AL rfl (Au [] trivial ⟨lv,trivial⟩)
    ·rw [Cr hc60] at hj58
     rw [hc60];refine AF (n:=63) AC 2 [(1,.pt 0 0 0),(4,.v (.int .i64 w56.2.1)),(5,.v (.int .i64 w56.2.2.1)),(6,.v (.bool w56.2.2.2)),(33,.v (.bool true)),(36,.v (.bool false)),(38,.sl 1 (x0.2.2.2.1.map cdS.enc))] [some ⟨5,60,[AA.enc x0],false⟩] kr ?_;refine Aq AC 0 rfl (EM kr rfl (FU (a:= .sl 1 (x0.2.2.2.1.map cdS.enc)) kr (Dq (el:=9) kr))) ?_;refine AF (n:=63) AC 4 [(1,.pt 0 0 0),(4,.v (.int .i64 w56.2.1)),(5,.v (.int .i64 w56.2.2.1)),(6,.v (.bool w56.2.2.2)),(43,.v (.bool (decide ((x0.2.2.2.1.length:Int) > 0))))] [some ⟨5,60,[AA.enc x0],false⟩] kr ?_;rcases BE (decide ((x0.2.2.2.1.length:Int) > 0)) with hc64 | hc64
     ·rw [if_pos hc64] at hj58
      rw [hc64];refine AF (n:=63) AC 6 [(1,.pt 0 0 0),(5,.v (.int .i64 w56.2.2.1)),(6,.v (.bool w56.2.2.2)),(49,.v (.bool (decide (x0.2.2.2.2≥w56.2.1))))] [some ⟨5,60,[AA.enc x0],false⟩] kr ?_;rcases BE (decide (x0.2.2.2.2≥w56.2.1)) with hc65 | hc65
      ·rw [if_pos hc65] at hj58
       rw [hc65];refine AF (n:=63) AC 6 [(1,.pt 0 0 0),(6,.v (.bool w56.2.2.2)),(55,.v (.bool (decide (x0.2.2.2.2<=w56.2.2.1))))] [some ⟨5,60,[AA.enc x0],false⟩] kr ?_;rcases BE (decide (x0.2.2.2.2<=w56.2.2.1)) with hc66 | hc66
       ·rw [if_pos hc66] at hj58
        rw [hc66];refine AF (n:=63) AC 2 [(1,.pt 0 0 0),(55,.v (.bool true)),(57,.v (.bool w56.2.2.2))] [some ⟨5,60,[AA.enc x0],false⟩] kr ?_;rcases BE w56.2.2.2 with hc67 | hc67
        ·rw [if_pos hc67] at hj58
         rw [hc67];refine AF (n:=63) AC 6 [(2,.v (.bool true))] [some ⟨5,60,[AA.enc x0],false⟩] kr ?_;have hq:=OI hj58; subst hq;exact AL rfl (Au [] trivial ⟨lv,trivial⟩)
        ·rw [Cr hc67] at hj58
         rw [hc67];refine AF (n:=63) AC 6 [(2,.v (.bool (!x0.2.2.1)))] [some ⟨5,60,[AA.enc x0],false⟩] kr ?_;have hq:=OI hj58; subst hq;exact AL rfl (Au [] trivial ⟨lv,trivial⟩)
       ·rw [Cr hc66] at hj58
        rw [hc66];refine AF (n:=63) AC 8 [(2,.v (.bool false))] [some ⟨5,60,[AA.enc x0],false⟩] kr ?_;have hq:=OI hj58; subst hq;exact AL rfl (Au [] trivial ⟨lv,trivial⟩)
      ·rw [Cr hc65] at hj58
       rw [hc65];refine AF (n:=63) AC 14 [(2,.v (.bool false))] [some ⟨5,60,[AA.enc x0],false⟩] kr ?_;have hq:=OI hj58; subst hq;exact AL rfl (Au [] trivial ⟨lv,trivial⟩)
     ·rw [Cr hc64] at hj58
      rw [hc64];refine AF (n:=63) AC 20 [(2,.v (.bool false))] [some ⟨5,60,[AA.enc x0],false⟩] kr ?_;have hq:=OI hj58; subst hq;exact AL rfl (Au [] trivial ⟨lv,trivial⟩)
   ·rw [Cr hc59] at hj58
    rw [hc59];refine AF (n:=63) AC 30 [(2,.v (.bool false))] [some ⟨5,60,[AA.enc x0],false⟩] kr ?_;have hq:=OI hj58; subst hq;exact AL rfl (Au [] trivial ⟨lv,trivial⟩)
  refine AX ?_;have hq:=OI h; subst hq;exact ⟨⟨Fr 63 [(2,.v (.bool j58))],[]⟩,AT,.inr rfl,[.v (.bool j58)],kr,kr⟩
 ·try dsimp only at h
  refine C6 (IK x0 _ hr55) ?_;have hq:=OI h; subst hq;exact ⟨⟨Fr 63 [(2,.v (.bool w68))],[]⟩,AT,.inr rfl,[.v (.bool w68)],kr,kr⟩
def N0:List AV->Option AV:=EN H3 (fun a=>Bp a.1) H6
theorem N5:XOk 159 N0:=by
 refine AZ Tryz.func159 (c:=CO) ?h2 ⟨Tryz.call159⟩ H3 (fun a=>Bp a.1) H6 (fun a=>(by show 1<=63; decide)) ?h3 ?h4
 case h2=>kernel_rfl
 case h3=>intro b; kernel_rfl
 case h4=>exact fun a b h=>MH a.1 b h
/- trestle/court.name -/
noncomputable def I2:Code:=Bo Tryz.f96
def D4 (x0:(List UInt8)):Nat->Int->Option ((Unit) ⊕ (Bool))
 | 0,_=>none
 | f + 1,c1 =>
  if (decide (c1 < (x0.length:Int)))=true then
  (idx x0 c1).bind fun v3 =>
  (if (decide ((v3.toNat:Int) < 97))=true then some true else (idx x0 c1).bind fun v4 =>
  some (decide ((v4.toNat:Int) > 122))).bind fun j6 =>
  if j6=true then
  some (.inr false)
  else
  D4 x0 f (wr .i64 (c1 + 1))
  else
  some (.inl ())
def F4 (x0:(List UInt8)):Option (Bool) :=
 (D4 x0 100000 0).bind fun r10 =>
 match r10 with
 | (.inl w11) =>
  (if (decide ((x0.length:Int)≥1))=true then some (decide ((x0.length:Int)<=12)) else some false).bind fun j13 =>
  some j13
 | (.inr w15) =>
  some w15
def I5:Cs ((List UInt8)×Unit):=(csC cdS csN)
def I8 (r:Bool):AV:=cdB.enc r
theorem JU (x0:(List UInt8)):∀ (f:Nat) (c1:Int) (r:(Unit) ⊕ (Bool)),D4 x0 f c1=some r->SemN E0 ⟨none,false⟩ (pc I2 [1,0,1,0,0]) f ⟨Fr 28 [(0,.st x0),(3,.v (.int .i64 c1))],[]⟩ (fun e s=>match r with
 | (.inl w)=>e=(.exit 0)/\Wk E0 s ⟨Fr 28 [(0,.st x0)],[]⟩
 | (.inr w)=>e = .ret/\Wk E0 s ⟨Fr 28 [(2,.v (.bool w))],[]⟩):=by
 intro f;induction f with
 | zero=>intro c1 r h; cases h
 | succ f ih0 =>
  intro c1 r h
  have ih:=fun (c1:Int)=>ih0 c1 r
  unfold D4 at h;refine D3 ?_;refine AH ?_;refine AM AC [(0,.st x0),(3,.v (.int .i64 c1)),(7,.v (.bool (decide (c1 < (x0.length:Int)))))] [] ?_;refine AW (b:=(decide (c1 < (x0.length:Int)))) kr (fun hb2=>?_) (fun hb2=>?_)
  ·rw [if_pos hb2] at h
   refine Ai ?_;refine AH ?_;refine Bh ?_;refine AH ?_;obtain ⟨v3,hv3,h⟩:=OB h;obtain ⟨j6,hj6,h⟩:=OB h;refine AO (s1:=⟨Fr 28 [(0,.st x0),(3,.v (.int .i64 c1)),(19,.v (.bool j6))],[]⟩) ?_ ?_
   ·refine AF (n:=28) AC 2 [(0,.st x0),(3,.v (.int .i64 c1)),(10,.st x0),(11,.v (.int .i64 c1))] [] kr ?_
    refine Aq AC 0 rfl (EM (AB rfl) rfl (TN (a:= .st x0) (b:= .v (.int .i64 c1)) kr kr (RQ (bs:=x0) (ki:= .i64) kr hv3))) ?_;refine AF (n:=28) AC 2 [(0,.st x0),(3,.v (.int .i64 c1)),(14,.v (.bool (decide ((v3.toNat:Int) < 97))))] [] kr ?_;rcases BE (decide ((v3.toNat:Int) < 97)) with hc9 | hc9
    ·rw [if_pos hc9] at hj6
     rw [hc9];refine AF (n:=28) AC 5 [(0,.st x0),(3,.v (.int .i64 c1)),(15,.tp []),(16,.tp []),(17,.tp []),(18,.tp []),(19,.v (.bool true))] [] kr ?_;have hq:=OI hj6; subst hq;exact AL rfl AT
    ·rw [Cr hc9] at hj6
     rw [hc9];refine AF (n:=28) AC 2 [(0,.st x0),(3,.v (.int .i64 c1)),(14,.v (.bool false)),(15,.st x0),(16,.v (.int .i64 c1))] [] kr ?_;obtain ⟨v4,hv4,hj6⟩:=OB hj6;refine Aq AC 0 rfl (EM kr rfl (TN (a:= .st x0) (b:= .v (.int .i64 c1)) kr kr (RQ (bs:=x0) (ki:= .i64) kr hv4))) ?_;refine AF (n:=28) AC 2 [(0,.st x0),(3,.v (.int .i64 c1)),(15,.st x0),(16,.v (.int .i64 c1)),(17,.v (.int .u8 (v4.toNat:Int))),(18,.v (.bool (decide ((v4.toNat:Int) > 122)))),(19,.v (.bool (decide ((v4.toNat:Int) > 122))))] [] kr ?_;have hq:=OI hj6; subst hq;exact AL rfl AT
   refine AW (b:=j6) kr (fun hb7=>?_) (fun hb7=>?_)
   ·rw [if_pos hb7] at h
    refine AM AC [(2,.v (.bool false))] [] ?_;refine AX ?_;have hq:=OI h; subst hq;exact ⟨rfl,AT⟩
   ·rw [Cr hb7] at h
    refine Ai ?_;refine Eq AC [(0,.st x0),(3,.v (.int .i64 (wr .i64 (c1 + 1))))] [] ?_;exact CF (s1:=⟨Fr 28 [(0,.st x0),(3,.v (.int .i64 (wr .i64 (c1 + 1))))],[]⟩) AT (ih (wr .i64 (c1 + 1)) h)
  ·rw [Cr hb2] at h
   refine FD ?_;have hq:=OI h; subst hq;exact ⟨rfl,AT⟩
theorem Nv (x0:(List UInt8)) (r:Bool) (h:F4 x0=some r):Sem E0 ⟨none,false⟩ I2 ⟨Fr 28 (BS 0 (I5.enc (x0,()))),[]⟩ fun e s'=>(e = .normal\/e = .ret)/\∃ xs,Eo E0.P s'.fr s'.hp Tryz.f96.results.toList=some xs/\Er xs=I8 r:=by
 unfold F4 at h;refine BJ (CD (s1:=⟨Fr 28 [(0,.st x0)],[]⟩) AT ?_);refine AM AC [(0,.st x0)] [] ?_;refine AH ?_;refine AM AC [(0,.st x0),(3,.v (.int .i64 0))] [] ?_;refine Bh ?_;obtain ⟨r10,hr10,h⟩:=OB h;refine FE (n:=100000) ?_;rcases r10 with w11 | w15
 ·try dsimp only at h
  refine Cn (CF (s1:=⟨Fr 28 [(0,.st x0),(3,.v (.int .i64 0))],[]⟩) AT (JU x0 _ 0 _ hr10)) ?_;refine AH ?_;obtain ⟨j13,hj13,h⟩:=OB h;refine AO (s1:=⟨Fr 28 [(2,.v (.bool j13))],[]⟩) ?_ ?_
  ·refine AF (n:=28) AC 4 [(0,.st x0),(23,.v (.bool (decide ((x0.length:Int)≥1))))] [] kr ?_
   rcases BE (decide ((x0.length:Int)≥1)) with hc14 | hc14
   ·rw [if_pos hc14] at hj13
    rw [hc14];refine AF (n:=28) AC 5 [(2,.v (.bool (decide ((x0.length:Int)<=12))))] [] kr ?_;have hq:=OI hj13; subst hq;exact AL rfl AT
   ·rw [Cr hc14] at hj13
    rw [hc14];refine AF (n:=28) AC 5 [(2,.v (.bool false))] [] kr ?_;have hq:=OI hj13; subst hq;exact AL rfl AT
  refine AX ?_;have hq:=OI h; subst hq;exact ⟨⟨Fr 28 [(2,.v (.bool j13))],[]⟩,AT,.inr rfl,[.v (.bool j13)],kr,kr⟩
 ·try dsimp only at h
  refine Cn (CF (s1:=⟨Fr 28 [(0,.st x0),(3,.v (.int .i64 0))],[]⟩) AT (JU x0 _ 0 _ hr10)) ?_;have hq:=OI h; subst hq;exact ⟨⟨Fr 28 [(2,.v (.bool w15))],[]⟩,AT,.inr rfl,[.v (.bool w15)],kr,kr⟩
def QC:List AV->Option AV:=EN I5 (fun a=>F4 a.1) I8
theorem MG:XOk 96 QC:=by
 refine AZ Tryz.func96 (c:=I2) ?h2 ⟨Tryz.call96⟩ I5 (fun a=>F4 a.1) I8 (fun a=>(by show 1<=28; decide)) ?h3 ?h4
 case h2=>kernel_rfl
 case h3=>intro b; kernel_rfl
 case h4=>exact fun a b h=>Nv a.1 b h
/- trestle/court.check$1 -/
noncomputable def JK:Code:=Bo Tryz.f160
def Eh (x0:(List UInt8)):Option (Bool) :=
 (F4 x0).bind fun v1 =>
 some (!v1)
def HL:Cs ((List UInt8)×Unit):=(csC cdS csN)
def HY (r:Bool):AV:=cdB.enc r
theorem LW (x0:(List UInt8)) (r:Bool) (h:Eh x0=some r):Sem E0 ⟨none,false⟩ JK ⟨Fr 6 (BS 0 (HL.enc (x0,()))),[]⟩ fun e s'=>(e = .normal\/e = .ret)/\∃ xs,Eo E0.P s'.fr s'.hp Tryz.f160.results.toList=some xs/\Er xs=HY r:=by
 unfold Eh at h;refine BJ (CD (s1:=⟨Fr 6 [(0,.st x0)],[]⟩) AT ?_);refine AM AC [(0,.st x0)] [] ?_;refine AH ?_;obtain ⟨v1,hv1,h⟩:=OB h;refine AO (s1:=⟨Fr 6 [(2,.v (.bool (!v1)))],[]⟩) ?_ ?_
 ·refine AF (n:=6) AC 1 [(3,.st x0)] [] kr ?_
  refine Ay (caps:=[]) (xs:=[.st x0]) (u:=(x0,())) rfl rfl MG rfl (AB rfl) kr kr (Ab (A3 (c:=cdS) (v:=x0)) B6) (.inl kr) hv1 ?_;exact A5 AC
 refine AX ?_;have hq:=OI h; subst hq;exact ⟨⟨Fr 6 [(2,.v (.bool (!v1)))],[]⟩,AT,.inr rfl,[.v (.bool (!v1))],kr,kr⟩
def NQ:List AV->Option AV:=EN HL (fun a=>Eh a.1) HY
theorem Ni:XOk 160 NQ:=by
 refine AZ Tryz.func160 (c:=JK) ?h2 ⟨Tryz.call160⟩ HL (fun a=>Eh a.1) HY (fun a=>(by show 1<=6; decide)) ?h3 ?h4
 case h2=>kernel_rfl
 case h3=>intro b; kernel_rfl
 case h4=>exact fun a b h=>LW a.1 b h
/- slices.IndexFunc[[]string,string] -/
noncomputable def Bm:Code:=Bo Tryz.f90
def A4 (x0:(List (List UInt8))):Nat->Int->Option ((Unit) ⊕ (Int))
 | 0,_=>none
 | f + 1,c1 =>
  if (decide (c1 < (x0.length:Int)))=true then
  (idx x0 c1).bind fun v3 =>
  (Eh v3).bind fun v4 =>
  if v4=true then
  some (.inr c1)
  else
  A4 x0 f (wr .i64 (c1 + 1))
  else
  some (.inl ())
def Av (x0:(List (List UInt8))):Option (Int) :=
 (A4 x0 100000 0).bind fun r7 =>
 match r7 with
 | (.inl w8) =>
  some (-1)
 | (.inr w9) =>
  some w9
def Bu:Cs ((List (List UInt8))×Unit×Unit):=(csC (cdL 1 cdS) (csC (cdF 160 csN (fun _=>rfl)) csN))
def Bx (r:Int):AV:=cdI.enc r
theorem CV (x0:(List (List UInt8))):∀ (f:Nat) (c1:Int) (r:(Unit) ⊕ (Int)),A4 x0 f c1=some r->SemN E0 ⟨none,false⟩ (pc Bm [1,0,1,0,0]) f ⟨Fr 19 [(0,.sl 1 (x0.map cdS.enc)),(1,.fn 160 [] []),(7,.v (.int .i64 (x0.length:Int))),(8,.v (.int .i64 c1))],[]⟩ (fun e s=>match r with
 | (.inl w)=>e=(.exit 0)/\Wk E0 s ⟨Fr 19 [],[]⟩
 | (.inr w)=>e = .ret/\Wk E0 s ⟨Fr 19 [(4,.v (.int .i64 w))],[]⟩):=by
 intro f;induction f with
 | zero=>intro c1 r h; cases h
 | succ f ih0 =>
  intro c1 r h
  have ih:=fun (c1:Int)=>ih0 c1 r
  unfold A4 at h;refine D3 ?_
  let p1:Nat×AV:=(8,.v (.int .i64 c1))
  let p2:Nat×AV:=(7,.v (.int .i64 (x0.length:Int)))
  let p3:Nat×AV:=(1,.fn 160 [] [])
  let p4:Nat×AV:=(0,.sl 1 (x0.map cdS.enc))
  refine AM AC [p4,p3,p2,p1,(9,.v (.bool (decide (c1 < (x0.length:Int)))))] [] ?_;refine AH ?_;refine AW (b:=(decide (c1 < (x0.length:Int)))) kr (fun hb2=>?_) (fun hb2=>?_)
  ·rw [if_pos hb2] at h
   refine Ai ?_;refine AH ?_;refine Bh ?_
   let p5:Nat×AV:=(5,.v (.int .i64 c1))
   refine AM AC [p4,p3,p5,p2,p1] [] ?_;refine AH ?_;obtain ⟨v3,hv3,h⟩:=OB h;obtain ⟨v4,hv4,h⟩:=OB h;refine AO (s1:=⟨Fr 19 [p4,p3,p5,p2,p1,(16,.v (.bool v4))],[]⟩) ?_ ?_
   ·refine AF (n:=19) AC 3 [p4,p3,p5,p2,p1,(11,.fn 160 [] []),(12,.sl 1 (x0.map cdS.enc)),(13,.v (.int .i64 c1))] [] kr ?_
    refine Aq AC 0 rfl (EM (AB rfl) rfl (Ao (a:= .sl 1 (x0.map cdS.enc)) (b:= .v (.int .i64 c1)) kr kr (Iw (e:=cdS.enc) (el:=9) (k:=1) (ki:= .i64) kr kr hv3))) ?_;refine AF (n:=19) AC 1 [p4,p3,p5,p2,p1,(11,.fn 160 [] []),(15,.st v3)] [] kr ?_;refine Ay (caps:=[]) (xs:=[.st v3]) (u:=(v3,())) rfl rfl Ni rfl (AB rfl) kr kr (Ab (A3 (c:=cdS) (v:=v3)) B6) (.inl kr) hv4 ?_;exact AL rfl AT
   refine AW (b:=v4) kr (fun hb5=>?_) (fun hb5=>?_)
   ·rw [if_pos hb5] at h
    refine AM AC [(4,.v (.int .i64 c1))] [] ?_;refine AX ?_;have hq:=OI h; subst hq;exact ⟨rfl,AT⟩
   ·rw [Cr hb5] at h
    refine Ai ?_
    let p6:Nat×AV:=(8,.v (.int .i64 (wr .i64 (c1 + 1))))
    refine Eq AC [p4,p3,p2,p6] [] ?_;exact CF (s1:=⟨Fr 19 [p4,p3,p2,p6],[]⟩) AT (ih (wr .i64 (c1 + 1)) h)
  ·rw [Cr hb2] at h
   refine FD ?_;have hq:=OI h; subst hq;exact ⟨rfl,AT⟩
theorem D0 (x0:(List (List UInt8))) (r:Int) (h:Av x0=some r):Sem E0 ⟨none,false⟩ Bm ⟨Fr 19 (BS 0 (Bu.enc (x0,(),()))),[]⟩ fun e s'=>(e = .normal\/e = .ret)/\∃ xs,Eo E0.P s'.fr s'.hp Tryz.f90.results.toList=some xs/\Er xs=Bx r:=by
 unfold Av at h
 let p1:Nat×AV:=(1,.fn 160 [] [])
 let p2:Nat×AV:=(0,.sl 1 (x0.map cdS.enc))
 refine BJ (CD (s1:=⟨Fr 19 [p2,p1],[]⟩) AT ?_);refine AM AC [p2,p1] [] ?_;refine AH ?_;refine AH ?_
 let p3:Nat×AV:=(8,.v (.int .i64 0))
 let p4:Nat×AV:=(7,.v (.int .i64 (x0.length:Int)))
 refine AO (s1:=⟨Fr 19 [p2,p1,p4,p3],[]⟩) ?_ ?_
 ·refine AF (n:=19) AC 1 [p2,p1,(6,.sl 1 (x0.map cdS.enc))] [] kr ?_
  refine Aq AC 0 rfl (EM (AB rfl) rfl (FU (a:= .sl 1 (x0.map cdS.enc)) kr (Dq (el:=9) kr))) ?_;exact A5 AC
 refine Bh ?_;obtain ⟨r7,hr7,h⟩:=OB h;refine FE (n:=100000) ?_;rcases r7 with w8 | w9
 ·try dsimp only at h
  refine Cn (CF (s1:=⟨Fr 19 [p2,p1,p4,p3],[]⟩) AT (CV x0 _ 0 _ hr7)) ?_;refine AM AC [(4,.v (.int .i64 (-1)))] [] ?_;refine AX ?_;have hq:=OI h; subst hq;exact ⟨⟨Fr 19 [(4,.v (.int .i64 (-1)))],[]⟩,AT,.inr rfl,[.v (.int .i64 (-1))],kr,kr⟩
 ·try dsimp only at h
  refine Cn (CF (s1:=⟨Fr 19 [p2,p1,p4,p3],[]⟩) AT (CV x0 _ 0 _ hr7)) ?_;have hq:=OI h; subst hq;exact ⟨⟨Fr 19 [(4,.v (.int .i64 w9))],[]⟩,AT,.inr rfl,[.v (.int .i64 w9)],kr,kr⟩
def EG:List AV->Option AV:=EN Bu (fun a=>Av a.1) Bx
theorem EJ:XOk 90 EG:=by
 refine AZ Tryz.func90 (c:=Bm) ?h2 ⟨Tryz.call90⟩ Bu (fun a=>Av a.1) Bx (fun a=>(by show 2<=19; decide)) ?h3 ?h4
 case h2=>kernel_rfl
 case h3=>intro b; kernel_rfl
 case h4=>exact fun a b h=>D0 a.1 b h
/- slices.ContainsFunc[[]string,string] -/
noncomputable def CP:Code:=Bo Tryz.f36
def AU (x0:(List (List UInt8))):Option (Bool) :=
 (Av x0).bind fun v1 =>
 some (decide (v1≥0))
def Bb:Cs ((List (List UInt8))×Unit×Unit):=(csC (cdL 1 cdS) (csC (cdF 160 csN (fun _=>rfl)) csN))
def Bc (r:Bool):AV:=cdB.enc r
theorem Dh (x0:(List (List UInt8))) (r:Bool) (h:AU x0=some r):Sem E0 ⟨none,false⟩ CP ⟨Fr 9 (BS 0 (Bb.enc (x0,(),()))),[]⟩ fun e s'=>(e = .normal\/e = .ret)/\∃ xs,Eo E0.P s'.fr s'.hp Tryz.f36.results.toList=some xs/\Er xs=Bc r:=by
 unfold AU at h;refine BJ (CD (s1:=⟨Fr 9 [(0,.sl 1 (x0.map cdS.enc)),(1,.fn 160 [] [])],[]⟩) AT ?_);refine AM AC [(0,.sl 1 (x0.map cdS.enc)),(1,.fn 160 [] [])] [] ?_;refine AH ?_;obtain ⟨v1,hv1,h⟩:=OB h
 let p1:Nat×AV:=(4,.v (.bool (decide (v1≥0))))
 refine AO (s1:=⟨Fr 9 [p1],[]⟩) ?_ ?_
 ·refine AF (n:=9) AC 2 [(5,.sl 1 (x0.map cdS.enc)),(6,.fn 160 [] [])] [] kr ?_
  refine Ay (caps:=[]) (xs:=[.sl 1 (x0.map cdS.enc),.fn 160 [] []]) (u:=(x0,(),())) rfl rfl EJ rfl (AB rfl) kr kr (Ab (A3 (c:=(cdL 1 cdS)) (v:=x0)) (Ab (Sm.fn B6) B6)) (.inl kr) hv1 ?_;exact A5 AC
 refine AX ?_;have hq:=OI h; subst hq;exact ⟨⟨Fr 9 [p1],[]⟩,AT,.inr rfl,[.v (.bool (decide (v1≥0)))],kr,kr⟩
def Dv:List AV->Option AV:=EN Bb (fun a=>AU a.1) Bc
theorem CY:XOk 36 Dv:=by
 refine AZ Tryz.func36 (c:=CP) ?h2 ⟨Tryz.call36⟩ Bb (fun a=>AU a.1) Bc (fun a=>(by show 2<=9; decide)) ?h3 ?h4
 case h2=>kernel_rfl
 case h3=>intro b; kernel_rfl
 case h4=>exact fun a b h=>Dh a.1 b h
/- slices.Index[[]string,string] -/
noncomputable def DU:Code:=Bo Tryz.f41
def A6 (x0:(List (List UInt8))) (x1:(List UInt8)):Nat->Int->Option ((Unit) ⊕ (Int))
 | 0,_=>none
 | f + 1,c1 =>
  if (decide (c1 < (x0.length:Int)))=true then
  (idx x0 c1).bind fun v3 =>
  if (x1==v3)=true then
  some (.inr c1)
  else
  A6 x0 x1 f (wr .i64 (c1 + 1))
  else
  some (.inl ())
def BU (x0:(List (List UInt8))) (x1:(List UInt8)):Option (Int) :=
 (A6 x0 x1 100000 0).bind fun r6 =>
 match r6 with
 | (.inl w7) =>
  some (-1)
 | (.inr w8) =>
  some w8
def DW:Cs ((List (List UInt8))×(List UInt8)×Unit):=(csC (cdL 1 cdS) (csC cdS csN))
def DX (r:Int):AV:=cdI.enc r
theorem EL (x0:(List (List UInt8))) (x1:(List UInt8)):∀ (f:Nat) (c1:Int) (r:(Unit) ⊕ (Int)),A6 x0 x1 f c1=some r->SemN E0 ⟨none,false⟩ (pc DU [1,0,1,0,0]) f ⟨Fr 19 [(0,.sl 1 (x0.map cdS.enc)),(1,.st x1),(7,.v (.int .i64 (x0.length:Int))),(8,.v (.int .i64 c1))],[]⟩ (fun e s=>match r with
 | (.inl w)=>e=(.exit 0)/\Wk E0 s ⟨Fr 19 [],[]⟩
 | (.inr w)=>e = .ret/\Wk E0 s ⟨Fr 19 [(4,.v (.int .i64 w))],[]⟩):=by
 intro f;induction f with
 | zero=>intro c1 r h; cases h
 | succ f ih0 =>
  intro c1 r h
  have ih:=fun (c1:Int)=>ih0 c1 r
  unfold A6 at h;refine D3 ?_
  let p1:Nat×AV:=(8,.v (.int .i64 c1))
  let p2:Nat×AV:=(7,.v (.int .i64 (x0.length:Int)))
  let p3:Nat×AV:=(0,.sl 1 (x0.map cdS.enc))
  refine AM AC [p3,(1,.st x1),p2,p1,(9,.v (.bool (decide (c1 < (x0.length:Int)))))] [] ?_;refine AH ?_;refine AW (b:=(decide (c1 < (x0.length:Int)))) kr (fun hb2=>?_) (fun hb2=>?_)
  ·rw [if_pos hb2] at h
   refine Ai ?_;refine AH ?_;refine Bh ?_
   let p4:Nat×AV:=(5,.v (.int .i64 c1))
   refine AM AC [p3,(1,.st x1),p4,p2,p1] [] ?_;refine AH ?_;obtain ⟨v3,hv3,h⟩:=OB h;refine AO (s1:=⟨Fr 19 [p3,(1,.st x1),p4,p2,p1,(16,.v (.bool (x1==v3)))],[]⟩) ?_ ?_
   ·refine AF (n:=19) AC 3 [p3,(1,.st x1),p4,p2,p1,(11,.st x1),(12,.sl 1 (x0.map cdS.enc)),(13,.v (.int .i64 c1))] [] kr ?_
    refine Aq AC 0 rfl (EM (AB rfl) rfl (Ao (a:= .sl 1 (x0.map cdS.enc)) (b:= .v (.int .i64 c1)) kr kr (Iw (e:=cdS.enc) (el:=9) (k:=1) (ki:= .i64) kr kr hv3))) ?_;exact A5 AC
   refine AW (b:=(x1==v3)) kr (fun hb4=>?_) (fun hb4=>?_)
   ·rw [if_pos hb4] at h
    refine AM AC [(4,.v (.int .i64 c1))] [] ?_;refine AX ?_;have hq:=OI h; subst hq;exact ⟨rfl,AT⟩
   ·rw [Cr hb4] at h
    refine Ai ?_
    let p5:Nat×AV:=(8,.v (.int .i64 (wr .i64 (c1 + 1))))
    refine Eq AC [p3,(1,.st x1),p2,p5] [] ?_;exact CF (s1:=⟨Fr 19 [p3,(1,.st x1),p2,p5],[]⟩) AT (ih (wr .i64 (c1 + 1)) h)
  ·rw [Cr hb2] at h
   refine FD ?_;have hq:=OI h; subst hq;exact ⟨rfl,AT⟩
theorem G8 (x0:(List (List UInt8))) (x1:(List UInt8)) (r:Int) (h:BU x0 x1=some r):Sem E0 ⟨none,false⟩ DU ⟨Fr 19 (BS 0 (DW.enc (x0,x1,()))),[]⟩ fun e s'=>(e = .normal\/e = .ret)/\∃ xs,Eo E0.P s'.fr s'.hp Tryz.f41.results.toList=some xs/\Er xs=DX r:=by
 unfold BU at h
 let p1:Nat×AV:=(0,.sl 1 (x0.map cdS.enc))
 refine BJ (CD (s1:=⟨Fr 19 [p1,(1,.st x1)],[]⟩) AT ?_);refine AM AC [p1,(1,.st x1)] [] ?_;refine AH ?_;refine AH ?_
 let p2:Nat×AV:=(8,.v (.int .i64 0))
 let p3:Nat×AV:=(7,.v (.int .i64 (x0.length:Int)))
 refine AO (s1:=⟨Fr 19 [p1,(1,.st x1),p3,p2],[]⟩) ?_ ?_
 ·refine AF (n:=19) AC 1 [p1,(1,.st x1),(6,.sl 1 (x0.map cdS.enc))] [] kr ?_
  refine Aq AC 0 rfl (EM (AB rfl) rfl (FU (a:= .sl 1 (x0.map cdS.enc)) kr (Dq (el:=9) kr))) ?_;exact A5 AC
 refine Bh ?_;obtain ⟨r6,hr6,h⟩:=OB h;refine FE (n:=100000) ?_;rcases r6 with w7 | w8
 ·try dsimp only at h
  refine Cn (CF (s1:=⟨Fr 19 [p1,(1,.st x1),p3,p2],[]⟩) AT (EL x0 x1 _ 0 _ hr6)) ?_;refine AM AC [(4,.v (.int .i64 (-1)))] [] ?_;refine AX ?_;have hq:=OI h; subst hq;exact ⟨⟨Fr 19 [(4,.v (.int .i64 (-1)))],[]⟩,AT,.inr rfl,[.v (.int .i64 (-1))],kr,kr⟩
 ·try dsimp only at h
  refine Cn (CF (s1:=⟨Fr 19 [p1,(1,.st x1),p3,p2],[]⟩) AT (EL x0 x1 _ 0 _ hr6)) ?_;have hq:=OI h; subst hq;exact ⟨⟨Fr 19 [(4,.v (.int .i64 w8))],[]⟩,AT,.inr rfl,[.v (.int .i64 w8)],kr,kr⟩
def Hq:List AV->Option AV:=EN DW (fun a=>BU a.1 a.2.1) DX
theorem FF:XOk 41 Hq:=by
 refine AZ Tryz.func41 (c:=DU) ?h2 ⟨Tryz.call41⟩ DW (fun a=>BU a.1 a.2.1) DX (fun a=>(by show 2<=19; decide)) ?h3 ?h4
 case h2=>kernel_rfl
 case h3=>intro b; kernel_rfl
 case h4=>exact fun a b h=>G8 a.1 a.2.1 b h
/- slices.Contains[[]string,string] -/
noncomputable def EK:Code:=Bo Tryz.f97
def Az (x0:(List (List UInt8))) (x1:(List UInt8)):Option (Bool) :=
 (BU x0 x1).bind fun v1 =>
 some (decide (v1≥0))
def Cy:Cs ((List (List UInt8))×(List UInt8)×Unit):=(csC (cdL 1 cdS) (csC cdS csN))
def Cz (r:Bool):AV:=cdB.enc r
theorem Gf (x0:(List (List UInt8))) (x1:(List UInt8)) (r:Bool) (h:Az x0 x1=some r):Sem E0 ⟨none,false⟩ EK ⟨Fr 9 (BS 0 (Cy.enc (x0,x1,()))),[]⟩ fun e s'=>(e = .normal\/e = .ret)/\∃ xs,Eo E0.P s'.fr s'.hp Tryz.f97.results.toList=some xs/\Er xs=Cz r:=by
 unfold Az at h;refine BJ (CD (s1:=⟨Fr 9 [(0,.sl 1 (x0.map cdS.enc)),(1,.st x1)],[]⟩) AT ?_);refine AM AC [(0,.sl 1 (x0.map cdS.enc)),(1,.st x1)] [] ?_;refine AH ?_;obtain ⟨v1,hv1,h⟩:=OB h
 let p1:Nat×AV:=(4,.v (.bool (decide (v1≥0))))
 refine AO (s1:=⟨Fr 9 [p1],[]⟩) ?_ ?_
 ·refine AF (n:=9) AC 2 [(5,.sl 1 (x0.map cdS.enc)),(6,.st x1)] [] kr ?_
  refine Ay (caps:=[]) (xs:=[.sl 1 (x0.map cdS.enc),.st x1]) (u:=(x0,x1,())) rfl rfl FF rfl (AB rfl) kr kr (Ab (A3 (c:=(cdL 1 cdS)) (v:=x0)) (Ab (A3 (c:=cdS) (v:=x1)) B6)) (.inl kr) hv1 ?_;exact A5 AC
 refine AX ?_;have hq:=OI h; subst hq;exact ⟨⟨Fr 9 [p1],[]⟩,AT,.inr rfl,[.v (.bool (decide (v1≥0)))],kr,kr⟩
def Gx:List AV->Option AV:=EN Cy (fun a=>Az a.1 a.2.1) Cz
theorem Ca:XOk 97 Gx:=by
 refine AZ Tryz.func97 (c:=EK) ?h2 ⟨Tryz.call97⟩ Cy (fun a=>Az a.1 a.2.1) Cz (fun a=>(by show 2<=9; decide)) ?h3 ?h4
 case h2=>kernel_rfl
 case h3=>intro b; kernel_rfl
 case h4=>exact fun a b h=>Gf a.1 a.2.1 b h
/- trestle/court.check$2 -/
noncomputable def JL:Code:=Bo Tryz.f161
def Ei (x0:AE) (x1:AE):Option (Bool) :=
 (if (x0.1==1)=true then (Az x0.2.2.2.1 x1.2.1).bind fun v1 =>
 some v1 else some false).bind fun j3 =>
 some j3
def HM:Cs (AE×AE×Unit):=(csC AA (csC (cdP AA) csN))
def HZ (r:Bool):AV:=cdB.enc r
theorem LX (x0:AE) (x1:AE) (r:Bool) (h:Ei x0 x1=some r):Sem E0 ⟨none,false⟩ JL ⟨Fr 14 (BS 0 (HM.enc (x0,x1,()))),[]⟩ fun e s'=>(e = .normal\/e = .ret)/\∃ xs,Eo E0.P s'.fr s'.hp Tryz.f161.results.toList=some xs/\Er xs=HZ r:=by
 unfold Ei at h;refine BJ (CD (s1:=⟨Fr 14 [(0,AA.enc x0),(1,.pe (AA.enc x1) 0)],[]⟩) AT ?_);refine AM AC [(1,.pe (AA.enc x1) 0),(2,.pt 0 0 0)] [some ⟨5,60,[AA.enc x0],false⟩] ?_;refine AH ?_;obtain ⟨j3,hj3,h⟩:=OB h;refine AO (s1:=⟨Fr 14 [(3,.v (.bool j3))],[]⟩) ?_ ?_
 ·refine AF (n:=14) AC 4 [(1,.pe (AA.enc x1) 0),(2,.pt 0 0 0),(7,.v (.bool (x0.1==1)))] [some ⟨5,60,[AA.enc x0],false⟩] kr ?_
  rcases BE (x0.1==1) with hc4 | hc4
  ·rw [if_pos hc4] at hj3
   rw [hc4];refine AF (n:=14) AC 4 [(7,.v (.bool true)),(9,.sl 1 (x0.2.2.2.1.map cdS.enc)),(11,.st x1.2.1)] [some ⟨5,60,[AA.enc x0],false⟩] kr ?_;obtain ⟨v1,hv1,hj3⟩:=OB hj3;refine Ay (caps:=[]) (xs:=[.sl 1 (x0.2.2.2.1.map cdS.enc),.st x1.2.1]) (u:=(x0.2.2.2.1,x1.2.1,())) rfl rfl Ca rfl kr kr kr (Ab (A3 (c:=(cdL 1 cdS)) (v:=x0.2.2.2.1)) (Ab (A3 (c:=cdS) (v:=x1.2.1)) B6)) (.inl kr) hv1 ?_;refine AF (n:=14) AC 2 [(3,.v (.bool v1))] [some ⟨5,60,[AA.enc x0],false⟩] kr ?_;have hq:=OI hj3; subst hq;exact AL rfl (Au [] trivial ⟨lv,trivial⟩)
  ·rw [Cr hc4] at hj3
   rw [hc4];refine AF (n:=14) AC 7 [(3,.v (.bool false))] [some ⟨5,60,[AA.enc x0],false⟩] kr ?_;have hq:=OI hj3; subst hq;exact AL rfl (Au [] trivial ⟨lv,trivial⟩)
 refine AX ?_;have hq:=OI h; subst hq;exact ⟨⟨Fr 14 [(3,.v (.bool j3))],[]⟩,AT,.inr rfl,[.v (.bool j3)],kr,kr⟩
def NR:List AV->Option AV:=EN HM (fun a=>Ei a.1 a.2.1) HZ
theorem Nj:XOk 161 NR:=by
 refine AZ Tryz.func161 (c:=JL) ?h2 ⟨Tryz.call161⟩ HM (fun a=>Ei a.1 a.2.1) HZ (fun a=>(by show 2<=14; decide)) ?h3 ?h4
 case h2=>kernel_rfl
 case h3=>intro b; kernel_rfl
 case h4=>exact fun a b h=>LX a.1 a.2.1 b h
/- slices.IndexFunc[[]trestle/api.Clause,trestle/api.Clause] -/
noncomputable def BP:Code:=Bo Tryz.f85
def Ap (x0:(List AE)) (x1:AE):Nat->Int->Option ((Unit) ⊕ (Int))
 | 0,_=>none
 | f + 1,c1 =>
  if (decide (c1 < (x0.length:Int)))=true then
  (idx x0 c1).bind fun v3 =>
  (Ei v3 x1).bind fun v4 =>
  if v4=true then
  some (.inr c1)
  else
  Ap x0 x1 f (wr .i64 (c1 + 1))
  else
  some (.inl ())
def Ae (x0:(List AE)) (x1:AE):Option (Int) :=
 (Ap x0 x1 100000 0).bind fun r7 =>
 match r7 with
 | (.inl w8) =>
  some (-1)
 | (.inr w9) =>
  some w9
def BQ:Cs ((List AE)×AE×Unit):=(csC (cdL 5 AA) (csC (cdF 161 (csE (cdP AA)) (fun _=>rfl)) csN))
def BR (r:Int):AV:=cdI.enc r
theorem CB (x0:(List AE)) (x1:AE):∀ (f:Nat) (c1:Int) (r:(Unit) ⊕ (Int)),Ap x0 x1 f c1=some r->SemN E0 ⟨none,false⟩ (pc BP [1,0,1,0,0]) f ⟨Fr 19 [(0,.sl 5 (x0.map AA.enc)),(1,.fn 161 [] [.pe (AA.enc x1) 0]),(7,.v (.int .i64 (x0.length:Int))),(8,.v (.int .i64 c1))],[]⟩ (fun e s=>match r with
 | (.inl w)=>e=(.exit 0)/\Wk E0 s ⟨Fr 19 [],[]⟩
 | (.inr w)=>e = .ret/\Wk E0 s ⟨Fr 19 [(4,.v (.int .i64 w))],[]⟩):=by
 intro f;induction f with
 | zero=>intro c1 r h; cases h
 | succ f ih0 =>
  intro c1 r h
  have ih:=fun (c1:Int)=>ih0 c1 r
  unfold Ap at h;refine D3 ?_
  let p1:Nat×AV:=(8,.v (.int .i64 c1))
  let p2:Nat×AV:=(7,.v (.int .i64 (x0.length:Int)))
  let p3:Nat×AV:=(1,.fn 161 [] [.pe (AA.enc x1) 0])
  let p4:Nat×AV:=(0,.sl 5 (x0.map AA.enc))
  refine AM AC [p4,p3,p2,p1,(9,.v (.bool (decide (c1 < (x0.length:Int)))))] [] ?_;refine AH ?_;refine AW (b:=(decide (c1 < (x0.length:Int)))) kr (fun hb2=>?_) (fun hb2=>?_)
  ·rw [if_pos hb2] at h
   refine Ai ?_;refine AH ?_;refine Bh ?_
   let p5:Nat×AV:=(5,.v (.int .i64 c1))
   refine AM AC [p4,p3,p5,p2,p1] [] ?_;refine AH ?_;obtain ⟨v3,hv3,h⟩:=OB h;obtain ⟨v4,hv4,h⟩:=OB h;refine AO (s1:=⟨Fr 19 [p4,p3,p5,p2,p1,(16,.v (.bool v4))],[]⟩) ?_ ?_
   ·let p6:Nat×AV:=(11,.fn 161 [] [.pe (AA.enc x1) 0])
    refine AF (n:=19) AC 3 [p4,p3,p5,p2,p1,p6,(12,.sl 5 (x0.map AA.enc)),(13,.v (.int .i64 c1))] [] kr ?_;refine Aq AC 0 rfl (EM (AB rfl) rfl (Ao (a:= .sl 5 (x0.map AA.enc)) (b:= .v (.int .i64 c1)) kr kr (Iw (e:=AA.enc) (el:=60) (k:=5) (ki:= .i64) kr kr hv3))) ?_;refine AF (n:=19) AC 1 [p4,p3,p5,p2,p1,p6,(15,AA.enc v3)] [] kr ?_;refine Ay (caps:=[.pe (AA.enc x1) 0]) (xs:=[AA.enc v3]) (u:=(v3,x1,())) rfl rfl Nj rfl (AB rfl) kr kr (Ab (A3 (c:=AA) (v:=v3)) (Ab (A3 (c:=(cdP AA)) (v:=x1)) B6)) (.inl kr) hv4 ?_;exact AL rfl AT
   refine AW (b:=v4) kr (fun hb5=>?_) (fun hb5=>?_)
   ·rw [if_pos hb5] at h
    refine AM AC [(4,.v (.int .i64 c1))] [] ?_;refine AX ?_;have hq:=OI h; subst hq;exact ⟨rfl,AT⟩
   ·rw [Cr hb5] at h
    refine Ai ?_
    let p7:Nat×AV:=(8,.v (.int .i64 (wr .i64 (c1 + 1))))
    refine Eq AC [p4,p3,p2,p7] [] ?_;exact CF (s1:=⟨Fr 19 [p4,p3,p2,p7],[]⟩) AT (ih (wr .i64 (c1 + 1)) h)
  ·rw [Cr hb2] at h
   refine FD ?_;have hq:=OI h; subst hq;exact ⟨rfl,AT⟩
theorem DP (x0:(List AE)) (x1:AE) (r:Int) (h:Ae x0 x1=some r):Sem E0 ⟨none,false⟩ BP ⟨Fr 19 (BS 0 (BQ.enc (x0,x1,()))),[]⟩ fun e s'=>(e = .normal\/e = .ret)/\∃ xs,Eo E0.P s'.fr s'.hp Tryz.f85.results.toList=some xs/\Er xs=BR r:=by
 unfold Ae at h
 let p1:Nat×AV:=(1,.fn 161 [] [.pe (AA.enc x1) 0])
 let p2:Nat×AV:=(0,.sl 5 (x0.map AA.enc))
 refine BJ (CD (s1:=⟨Fr 19 [p2,p1],[]⟩) AT ?_);refine AM AC [p2,p1] [] ?_;refine AH ?_;refine AH ?_
 let p3:Nat×AV:=(8,.v (.int .i64 0))
 let p4:Nat×AV:=(7,.v (.int .i64 (x0.length:Int)))
 refine AO (s1:=⟨Fr 19 [p2,p1,p4,p3],[]⟩) ?_ ?_
 ·refine AF (n:=19) AC 1 [p2,p1,(6,.sl 5 (x0.map AA.enc))] [] kr ?_
  refine Aq AC 0 rfl (EM (AB rfl) rfl (FU (a:= .sl 5 (x0.map AA.enc)) kr (Dq (el:=60) kr))) ?_;exact A5 AC
 refine Bh ?_;obtain ⟨r7,hr7,h⟩:=OB h;refine FE (n:=100000) ?_;rcases r7 with w8 | w9
 ·try dsimp only at h
  refine Cn (CF (s1:=⟨Fr 19 [p2,p1,p4,p3],[]⟩) AT (CB x0 x1 _ 0 _ hr7)) ?_;refine AM AC [(4,.v (.int .i64 (-1)))] [] ?_;refine AX ?_;have hq:=OI h; subst hq;exact ⟨⟨Fr 19 [(4,.v (.int .i64 (-1)))],[]⟩,AT,.inr rfl,[.v (.int .i64 (-1))],kr,kr⟩
 ·try dsimp only at h
  refine Cn (CF (s1:=⟨Fr 19 [p2,p1,p4,p3],[]⟩) AT (CB x0 x1 _ 0 _ hr7)) ?_;have hq:=OI h; subst hq;exact ⟨⟨Fr 19 [(4,.v (.int .i64 w9))],[]⟩,AT,.inr rfl,[.v (.int .i64 w9)],kr,kr⟩
def Da:List AV->Option AV:=EN BQ (fun a=>Ae a.1 a.2.1) BR
theorem Db:XOk 85 Da:=by
 refine AZ Tryz.func85 (c:=BP) ?h2 ⟨Tryz.call85⟩ BQ (fun a=>Ae a.1 a.2.1) BR (fun a=>(by show 2<=19; decide)) ?h3 ?h4
 case h2=>kernel_rfl
 case h3=>intro b; kernel_rfl
 case h4=>exact fun a b h=>DP a.1 a.2.1 b h
/- slices.ContainsFunc[[]trestle/api.Clause,trestle/api.Clause] -/
noncomputable def B9:Code:=Bo Tryz.f53
def AQ (x0:(List AE)) (x1:AE):Option (Bool) :=
 (Ae x0 x1).bind fun v1 =>
 some (decide (v1≥0))
def BL:Cs ((List AE)×AE×Unit):=(csC (cdL 5 AA) (csC (cdF 161 (csE (cdP AA)) (fun _=>rfl)) csN))
def BN (r:Bool):AV:=cdB.enc r
theorem C2 (x0:(List AE)) (x1:AE) (r:Bool) (h:AQ x0 x1=some r):Sem E0 ⟨none,false⟩ B9 ⟨Fr 9 (BS 0 (BL.enc (x0,x1,()))),[]⟩ fun e s'=>(e = .normal\/e = .ret)/\∃ xs,Eo E0.P s'.fr s'.hp Tryz.f53.results.toList=some xs/\Er xs=BN r:=by
 unfold AQ at h
 let p1:Nat×AV:=(1,.fn 161 [] [.pe (AA.enc x1) 0])
 let p2:Nat×AV:=(0,.sl 5 (x0.map AA.enc))
 refine BJ (CD (s1:=⟨Fr 9 [p2,p1],[]⟩) AT ?_);refine AM AC [p2,p1] [] ?_;refine AH ?_;obtain ⟨v1,hv1,h⟩:=OB h
 let p3:Nat×AV:=(4,.v (.bool (decide (v1≥0))))
 refine AO (s1:=⟨Fr 9 [p3],[]⟩) ?_ ?_
 ·refine AF (n:=9) AC 2 [(5,.sl 5 (x0.map AA.enc)),(6,.fn 161 [] [.pe (AA.enc x1) 0])] [] kr ?_
  refine Ay (caps:=[]) (xs:=[.sl 5 (x0.map AA.enc),.fn 161 [] [.pe (AA.enc x1) 0]]) (u:=(x0,x1,())) rfl rfl Db rfl (AB rfl) kr kr (Ab (A3 (c:=(cdL 5 AA)) (v:=x0)) (Ab (Sm.fn (Oh (A3 (c:=(cdP AA)) (v:=x1)))) B6)) (.inl kr) hv1 ?_;exact A5 AC
 refine AX ?_;have hq:=OI h; subst hq;exact ⟨⟨Fr 9 [p3],[]⟩,AT,.inr rfl,[.v (.bool (decide (v1≥0)))],kr,kr⟩
def DH:List AV->Option AV:=EN BL (fun a=>AQ a.1 a.2.1) BN
theorem DJ:XOk 53 DH:=by
 refine AZ Tryz.func53 (c:=B9) ?h2 ⟨Tryz.call53⟩ BL (fun a=>AQ a.1 a.2.1) BN (fun a=>(by show 2<=9; decide)) ?h3 ?h4
 case h2=>kernel_rfl
 case h3=>intro b; kernel_rfl
 case h4=>exact fun a b h=>C2 a.1 a.2.1 b h
/- trestle/court.check -/
noncomputable def IY:Code:=Bo Tryz.f128
def Dg (x0:(List AE)) (x1:AE):Nat->Int->Option ((Unit) ⊕ (Int))
 | 0,_=>none
 | f + 1,c9 =>
  if (decide (c9 < (x1.2.2.2.1.length:Int)))=true then
  (idx x1.2.2.2.1 c9).bind fun v11 =>
  if (Do 0 c9 x1.2.2.2.1.length)=true then
  (Az ((x1.2.2.2.1.take c9.toNat).drop (0:Int).toNat) v11).bind fun v13 =>
  if v13=true then
  some (.inr 5)
  else
  Dg x0 x1 f (wr .i64 (c9 + 1))
  else none
  else
  some (.inl ())
def Fs (x0:(List AE)) (x1:AE):Option (Int) :=
 (Bp x1).bind fun v1 =>
 if (!v1)=true then
 some 30
 else
 (if (!(x1.2.1==[]))=true then (F4 x1.2.1).bind fun v3 =>
 if (!v3)=true then some true else (AU x1.2.2.2.1).bind fun v4 =>
 some v4 else (AU x1.2.2.2.1).bind fun v5 =>
 some v5).bind fun j7 =>
 if j7=true then
 some 4
 else
 (Dg x0 x1 100000 0).bind fun r16 =>
 match r16 with
 | (.inl w17) =>
  (if (x1.2.1==[])=true then some true else (AQ x0 x1).bind fun v18 =>
  some v18).bind fun j20 =>
  if j20=true then
  some 0
  else
  some 31
 | (.inr w23) =>
  some w23
def Ib:Cs ((List AE)×AE×Unit):=(csC (cdL 5 AA) (csC AA csN))
def If (r:Int):AV:=cdI.enc r
theorem Is (x0:(List AE)) (x1:AE):∀ (f:Nat) (c9:Int) (r:(Unit) ⊕ (Int)),Dg x0 x1 f c9=some r->SemN E0 ⟨none,false⟩ (pc IY [1,1,1,0,1,0,0]) f ⟨Fr 47 [(0,.sl 5 (x0.map AA.enc)),(3,.pt 0 0 0),(25,.sl 1 (x1.2.2.2.1.map cdS.enc)),(26,.v (.int .i64 (x1.2.2.2.1.length:Int))),(27,.v (.int .i64 c9))],[some ⟨5,60,[AA.enc x1],false⟩]⟩ (fun e s=>match r with
 | (.inl w)=>e=(.exit 0)/\Wk E0 s ⟨Fr 47 [(0,.sl 5 (x0.map AA.enc)),(3,.pt 0 0 0)],[some ⟨5,60,[AA.enc x1],false⟩]⟩
 | (.inr w)=>e = .ret/\Wk E0 s ⟨Fr 47 [(4,.v (.int .i64 w))],[]⟩):=by
 intro f;induction f with
 | zero=>intro c9 r h; cases h
 | succ f ih0 =>
  intro c9 r h
  have ih:=fun (c9:Int)=>ih0 c9 r
  unfold Dg at h;refine D3 ?_
  let p1:Option Blk:=some ⟨5,60,[AA.enc x1],false⟩
  let p2:Nat×AV:=(27,.v (.int .i64 c9))
  let p3:Nat×AV:=(26,.v (.int .i64 (x1.2.2.2.1.length:Int)))
  let p4:Nat×AV:=(25,.sl 1 (x1.2.2.2.1.map cdS.enc))
  let p5:Nat×AV:=(3,.pt 0 0 0)
  let p6:Nat×AV:=(0,.sl 5 (x0.map AA.enc))
  refine AM AC [p6,p5,p4,p3,p2,(28,.v (.bool (decide (c9 < (x1.2.2.2.1.length:Int)))))] [p1] ?_;refine AH ?_;refine AW (b:=(decide (c9 < (x1.2.2.2.1.length:Int)))) kr (fun hb10=>?_) (fun hb10=>?_)
  ·rw [if_pos hb10] at h
   refine Ai ?_;refine AH ?_;refine Bh ?_;refine AH ?_;obtain ⟨v11,hv11,h⟩:=OB h;refine AO (s1:=⟨Fr 47 [p6,p5,(5,.v (.int .i64 c9)),(6,.st v11),p4,p3,p2],[p1]⟩) ?_ ?_
   ·refine AF (n:=47) AC 1 [p6,p5,p4,p3,p2,(29,.v (.int .i64 c9))] [p1] kr ?_
    refine Aq AC 0 rfl (EM (AB rfl) rfl (Ao (a:= .sl 1 (x1.2.2.2.1.map cdS.enc)) (b:= .v (.int .i64 c9)) kr kr (Iw (e:=cdS.enc) (el:=9) (k:=1) (ki:= .i64) kr kr hv11))) ?_;exact A5 AC
   refine AH ?_;by_cases hk12:(Do 0 c9 x1.2.2.2.1.length)=true
   case neg=>rw [if_neg hk12] at h; cases h
   rw [if_pos hk12] at h;obtain ⟨v13,hv13,h⟩:=OB h;refine AO (s1:=⟨Fr 47 [p6,p5,p4,p3,p2,(37,.v (.bool v13))],[p1]⟩) ?_ ?_
   ·refine AF (n:=47) AC 3 [p6,p5,(6,.st v11),p4,p3,p2,(33,.sl 1 (x1.2.2.2.1.map cdS.enc)),(34,.v (.int .i64 c9))] [p1] kr ?_
    refine Aq AC 0 rfl (EM (AB rfl) rfl (En (a:= .sl 1 (x1.2.2.2.1.map cdS.enc)) (l:=none) (u:=(some (.v (.int .i64 c9)))) (m:=none) kr kr kr rfl (LH (xs:=x1.2.2.2.1) (e:=cdS.enc) (k:=1) (el:=9) (lo:=0) (hi:=c9) kr kr rfl (G7 (Jt hk12)) hk12))) ?_;refine AF (n:=47) AC 1 [p6,p5,p4,p3,p2,(35,.sl 1 (((x1.2.2.2.1.take c9.toNat).drop (0:Int).toNat).map cdS.enc)),(36,.st v11)] [p1] kr ?_;refine Ay (caps:=[]) (xs:=[.sl 1 (((x1.2.2.2.1.take c9.toNat).drop (0:Int).toNat).map cdS.enc),.st v11]) (u:=(((x1.2.2.2.1.take c9.toNat).drop (0:Int).toNat),v11,())) rfl rfl Ca rfl (AB rfl) kr kr (Ab (A3 (c:=(cdL 1 cdS)) (v:=((x1.2.2.2.1.take c9.toNat).drop (0:Int).toNat))) (Ab (A3 (c:=cdS) (v:=v11)) B6)) (.inl kr) hv13 ?_;exact AL rfl (Au [0] ⟨⟨_,rfl,Cw⟩,trivial⟩ ⟨lv,lv,lv,lv,lv,lv,trivial⟩)
   refine AW (b:=v13) kr (fun hb14=>?_) (fun hb14=>?_)
   ·rw [if_pos hb14] at h
    refine AH ?_;refine AO (s1:=⟨Fr 47 [(4,.v (.int .i64 5))],[]⟩) ?_ ?_
    ·refine AF (n:=47) AC 1 [(4,.v (.int .i64 5))] [p1] kr ?_
     exact AL rfl (Au [] trivial ⟨lv,trivial⟩)
    refine AX ?_;have hq:=OI h; subst hq;exact ⟨rfl,AT⟩
   ·rw [Cr hb14] at h
    refine Ai ?_
    let p7:Nat×AV:=(27,.v (.int .i64 (wr .i64 (c9 + 1))))
    refine Eq AC [p6,p5,p4,p3,p7] [p1] ?_;exact CF (s1:=⟨Fr 47 [p6,p5,p4,p3,p7],[p1]⟩) (Au [0] ⟨⟨_,rfl,Cw⟩,trivial⟩ ⟨lv,lv,lv,lv,lv,trivial⟩) (ih (wr .i64 (c9 + 1)) h)
  ·rw [Cr hb10] at h
   refine FD ?_;have hq:=OI h; subst hq;exact ⟨rfl,(Au [0] ⟨⟨_,rfl,Cw⟩,trivial⟩ ⟨lv,lv,trivial⟩)⟩
theorem Mw (x0:(List AE)) (x1:AE) (r:Int) (h:Fs x0 x1=some r):Sem E0 ⟨none,false⟩ IY ⟨Fr 47 (BS 0 (Ib.enc (x0,x1,()))),[]⟩ fun e s'=>(e = .normal\/e = .ret)/\∃ xs,Eo E0.P s'.fr s'.hp Tryz.f128.results.toList=some xs/\Er xs=If r:=by
 unfold Fs at h;refine BJ (CD (s1:=⟨Fr 47 [(0,.sl 5 (x0.map AA.enc)),(1,AA.enc x1)],[]⟩) AT ?_);refine AM AC [(0,.sl 5 (x0.map AA.enc)),(3,.pt 0 0 0)] [some ⟨5,60,[AA.enc x1],false⟩] ?_;refine AH ?_;refine AH ?_;obtain ⟨v1,hv1,h⟩:=OB h;refine AO (s1:=⟨Fr 47 [(0,.sl 5 (x0.map AA.enc)),(3,.pt 0 0 0),(9,.v (.bool (!v1)))],[some ⟨5,60,[AA.enc x1],false⟩]⟩) ?_ ?_
 ·refine AF (n:=47) AC 1 [(0,.sl 5 (x0.map AA.enc)),(3,.pt 0 0 0),(7,AA.enc x1)] [some ⟨5,60,[AA.enc x1],false⟩] kr ?_
  refine Ay (caps:=[]) (xs:=[AA.enc x1]) (u:=(x1,())) rfl rfl N5 rfl (AB rfl) kr kr (Ab (A3 (c:=AA) (v:=x1)) B6) (.inl kr) hv1 ?_;exact A5 AC
 refine AW (b:=(!v1)) kr (fun hb2=>?_) (fun hb2=>?_)
 ·rw [if_pos hb2] at h
  refine AH ?_;refine AO (s1:=⟨Fr 47 [(4,.v (.int .i64 30))],[]⟩) ?_ ?_
  ·refine AF (n:=47) AC 1 [(4,.v (.int .i64 30))] [some ⟨5,60,[AA.enc x1],false⟩] kr ?_
   exact AL rfl (Au [] trivial ⟨lv,trivial⟩)
  refine AX ?_;have hq:=OI h; subst hq;exact ⟨⟨Fr 47 [(4,.v (.int .i64 30))],[]⟩,AT,.inr rfl,[.v (.int .i64 30)],kr,kr⟩
 ·rw [Cr hb2] at h
  refine Ai ?_;refine AH ?_;refine AH ?_;obtain ⟨j7,hj7,h⟩:=OB h;refine AO (s1:=⟨Fr 47 [(0,.sl 5 (x0.map AA.enc)),(3,.pt 0 0 0),(23,.v (.bool j7))],[some ⟨5,60,[AA.enc x1],false⟩]⟩) ?_ ?_
  ·refine AF (n:=47) AC 4 [(0,.sl 5 (x0.map AA.enc)),(3,.pt 0 0 0),(13,.v (.bool (!(x1.2.1==[]))))] [some ⟨5,60,[AA.enc x1],false⟩] kr ?_
   rcases BE (!(x1.2.1==[])) with hc24 | hc24
   ·rw [if_pos hc24] at hj7
    rw [hc24];refine AF (n:=47) AC 2 [(0,.sl 5 (x0.map AA.enc)),(3,.pt 0 0 0),(13,.v (.bool true)),(15,.st x1.2.1)] [some ⟨5,60,[AA.enc x1],false⟩] kr ?_;obtain ⟨v3,hv3,hj7⟩:=OB hj7;refine Ay (caps:=[]) (xs:=[.st x1.2.1]) (u:=(x1.2.1,())) rfl rfl MG rfl kr kr kr (Ab (A3 (c:=cdS) (v:=x1.2.1)) B6) (.inl kr) hv3 ?_;refine AF (n:=47) AC 3 [(0,.sl 5 (x0.map AA.enc)),(3,.pt 0 0 0),(19,.v (.bool (!v3)))] [some ⟨5,60,[AA.enc x1],false⟩] kr ?_;rcases BE (!v3) with hc25 | hc25
    ·rw [if_pos hc25] at hj7
     rw [hc25];refine AF (n:=47) AC 4 [(0,.sl 5 (x0.map AA.enc)),(3,.pt 0 0 0),(23,.v (.bool true))] [some ⟨5,60,[AA.enc x1],false⟩] kr ?_;have hq:=OI hj7; subst hq;exact AL rfl (Au [0] ⟨⟨_,rfl,Cw⟩,trivial⟩ ⟨lv,lv,lv,trivial⟩)
    ·rw [Cr hc25] at hj7
     rw [hc25];refine AF (n:=47) AC 2 [(0,.sl 5 (x0.map AA.enc)),(3,.pt 0 0 0),(19,.v (.bool false)),(21,.sl 1 (x1.2.2.2.1.map cdS.enc))] [some ⟨5,60,[AA.enc x1],false⟩] kr ?_;obtain ⟨v4,hv4,hj7⟩:=OB hj7;refine Ay (caps:=[]) (xs:=[.sl 1 (x1.2.2.2.1.map cdS.enc),.fn 160 [] []]) (u:=(x1.2.2.2.1,(),())) rfl rfl CY rfl kr kr kr (Ab (A3 (c:=(cdL 1 cdS)) (v:=x1.2.2.2.1)) (Ab (Sm.fn B6) B6)) (.inl kr) hv4 ?_;refine AF (n:=47) AC 1 [(0,.sl 5 (x0.map AA.enc)),(3,.pt 0 0 0),(23,.v (.bool v4))] [some ⟨5,60,[AA.enc x1],false⟩] kr ?_;have hq:=OI hj7; subst hq;exact AL rfl (Au [0] ⟨⟨_,rfl,Cw⟩,trivial⟩ ⟨lv,lv,lv,trivial⟩)
   ·rw [Cr hc24] at hj7
    rw [hc24];refine AF (n:=47) AC 8 [(0,.sl 5 (x0.map AA.enc)),(3,.pt 0 0 0),(19,.v (.bool false)),(21,.sl 1 (x1.2.2.2.1.map cdS.enc))] [some ⟨5,60,[AA.enc x1],false⟩] kr ?_;obtain ⟨v5,hv5,hj7⟩:=OB hj7;refine Ay (caps:=[]) (xs:=[.sl 1 (x1.2.2.2.1.map cdS.enc),.fn 160 [] []]) (u:=(x1.2.2.2.1,(),())) rfl rfl CY rfl kr kr kr (Ab (A3 (c:=(cdL 1 cdS)) (v:=x1.2.2.2.1)) (Ab (Sm.fn B6) B6)) (.inl kr) hv5 ?_;refine AF (n:=47) AC 1 [(0,.sl 5 (x0.map AA.enc)),(3,.pt 0 0 0),(23,.v (.bool v5))] [some ⟨5,60,[AA.enc x1],false⟩] kr ?_;have hq:=OI hj7; subst hq;exact AL rfl (Au [0] ⟨⟨_,rfl,Cw⟩,trivial⟩ ⟨lv,lv,lv,trivial⟩)
  refine AW (b:=j7) kr (fun hb8=>?_) (fun hb8=>?_)
  ·rw [if_pos hb8] at h
   refine AH ?_;refine AO (s1:=⟨Fr 47 [(4,.v (.int .i64 4))],[]⟩) ?_ ?_
   ·refine AF (n:=47) AC 1 [(4,.v (.int .i64 4))] [some ⟨5,60,[AA.enc x1],false⟩] kr ?_
    exact AL rfl (Au [] trivial ⟨lv,trivial⟩)
   refine AX ?_;have hq:=OI h; subst hq;exact ⟨⟨Fr 47 [(4,.v (.int .i64 4))],[]⟩,AT,.inr rfl,[.v (.int .i64 4)],kr,kr⟩
  ·rw [Cr hb8] at h
   refine Ai ?_;refine AH ?_;refine AH ?_;refine AO (s1:=⟨Fr 47 [(0,.sl 5 (x0.map AA.enc)),(3,.pt 0 0 0),(25,.sl 1 (x1.2.2.2.1.map cdS.enc)),(26,.v (.int .i64 (x1.2.2.2.1.length:Int))),(27,.v (.int .i64 0))],[some ⟨5,60,[AA.enc x1],false⟩]⟩) ?_ ?_
   ·refine AF (n:=47) AC 2 [(0,.sl 5 (x0.map AA.enc)),(3,.pt 0 0 0),(25,.sl 1 (x1.2.2.2.1.map cdS.enc))] [some ⟨5,60,[AA.enc x1],false⟩] kr ?_
    refine Aq AC 0 rfl (EM (AB rfl) rfl (FU (a:= .sl 1 (x1.2.2.2.1.map cdS.enc)) kr (Dq (el:=9) kr))) ?_;exact A5 AC
   refine Bh ?_;obtain ⟨r16,hr16,h⟩:=OB h;refine FE (n:=100000) ?_;rcases r16 with w17 | w23
   ·try dsimp only at h
    refine Cn (CF (s1:=⟨Fr 47 [(0,.sl 5 (x0.map AA.enc)),(3,.pt 0 0 0),(25,.sl 1 (x1.2.2.2.1.map cdS.enc)),(26,.v (.int .i64 (x1.2.2.2.1.length:Int))),(27,.v (.int .i64 0))],[some ⟨5,60,[AA.enc x1],false⟩]⟩) (Au [0] ⟨⟨_,rfl,Cw⟩,trivial⟩ ⟨lv,lv,lv,lv,lv,trivial⟩) (Is x0 x1 _ 0 _ hr16)) ?_;refine AH ?_;refine AH ?_;obtain ⟨j20,hj20,h⟩:=OB h;refine AO (s1:=⟨Fr 47 [(46,.v (.bool j20))],[]⟩) ?_ ?_
    ·refine AF (n:=47) AC 4 [(0,.sl 5 (x0.map AA.enc)),(3,.pt 0 0 0),(42,.v (.bool (x1.2.1==[])))] [some ⟨5,60,[AA.enc x1],false⟩] kr ?_
     rcases BE (x1.2.1==[]) with hc22 | hc22
     ·rw [if_pos hc22] at hj20
      rw [hc22];refine AF (n:=47) AC 4 [(46,.v (.bool true))] [some ⟨5,60,[AA.enc x1],false⟩] kr ?_;have hq:=OI hj20; subst hq;exact AL rfl (Au [] trivial ⟨lv,trivial⟩)
     ·rw [Cr hc22] at hj20
      rw [hc22];refine AF (n:=47) AC 2 [(42,.v (.bool false)),(43,.sl 5 (x0.map AA.enc)),(44,.fn 161 [] [.pt 0 0 0])] [some ⟨5,60,[AA.enc x1],false⟩] kr ?_;obtain ⟨v18,hv18,hj20⟩:=OB hj20;refine Ay (caps:=[]) (xs:=[.sl 5 (x0.map AA.enc),.fn 161 [] [.pt 0 0 0]]) (u:=(x0,x1,())) rfl rfl DJ rfl kr kr kr (Ab (A3 (c:=(cdL 5 AA)) (v:=x0)) (Ab (Sm.fn (Oh (Sm.pt (k:=5) (t:=60) (fz:=false) (y:=(AA.enc x1)) kr (A3 (c:=AA) (v:=x1))))) B6)) (.inl kr) hv18 ?_;refine AF (n:=47) AC 1 [(46,.v (.bool v18))] [some ⟨5,60,[AA.enc x1],false⟩] kr ?_;have hq:=OI hj20; subst hq;exact AL rfl (Au [] trivial ⟨lv,trivial⟩)
    refine AW (b:=j20) kr (fun hb21=>?_) (fun hb21=>?_)
    ·rw [if_pos hb21] at h
     refine AM AC [(4,.v (.int .i64 0))] [] ?_;refine AX ?_;have hq:=OI h; subst hq;exact ⟨⟨Fr 47 [(4,.v (.int .i64 0))],[]⟩,AT,.inr rfl,[.v (.int .i64 0)],kr,kr⟩
    ·rw [Cr hb21] at h
     refine Ai ?_;refine AM AC [(4,.v (.int .i64 31))] [] ?_;refine AX ?_;have hq:=OI h; subst hq;exact ⟨⟨Fr 47 [(4,.v (.int .i64 31))],[]⟩,AT,.inr rfl,[.v (.int .i64 31)],kr,kr⟩
   ·try dsimp only at h
    refine Cn (CF (s1:=⟨Fr 47 [(0,.sl 5 (x0.map AA.enc)),(3,.pt 0 0 0),(25,.sl 1 (x1.2.2.2.1.map cdS.enc)),(26,.v (.int .i64 (x1.2.2.2.1.length:Int))),(27,.v (.int .i64 0))],[some ⟨5,60,[AA.enc x1],false⟩]⟩) (Au [0] ⟨⟨_,rfl,Cw⟩,trivial⟩ ⟨lv,lv,lv,lv,lv,trivial⟩) (Is x0 x1 _ 0 _ hr16)) ?_;have hq:=OI h; subst hq;exact ⟨⟨Fr 47 [(4,.v (.int .i64 w23))],[]⟩,AT,.inr rfl,[.v (.int .i64 w23)],kr,kr⟩
def PM:List AV->Option AV:=EN Ib (fun a=>Fs a.1 a.2.1) If
theorem PV:XOk 128 PM:=by
 refine AZ Tryz.func128 (c:=IY) ?h2 ⟨Tryz.call128⟩ Ib (fun a=>Fs a.1 a.2.1) If (fun a=>(by show 2<=47; decide)) ?h3 ?h4
 case h2=>kernel_rfl
 case h3=>intro b; kernel_rfl
 case h4=>exact fun a b h=>Mw a.1 a.2.1 b h
/- trestle/court.Check -/
noncomputable def IX:Code:=Bo Tryz.f80
def Df (x0:(List AE)):Nat->Int->Option ((Unit) ⊕ (Int×Int))
 | 0,_=>none
 | f + 1,c2 =>
  if (decide (c2 < (x0.length:Int)))=true then
  (idx x0 c2).bind fun v4 =>
  if (Do 0 c2 x0.length)=true then
  (Fs ((x0.take c2.toNat).drop (0:Int).toNat) v4).bind fun v6 =>
  if (v6 != 0)=true then
  some (.inr (c2,v6))
  else
  Df x0 f (wr .i64 (c2 + 1))
  else none
  else
  some (.inl ())
def Fp (x0:(List AE)):Option (Int×Int) :=
 if (decide ((x0.length:Int) > 32))=true then
 some (0,7)
 else
 (Df x0 100000 0).bind fun r10 =>
 match r10 with
 | (.inl w11) =>
  some (0,0)
 | (.inr w12) =>
  some (w12.1,w12.2)
def Ia:Cs ((List AE)×Unit):=(csC (cdL 5 AA) csN)
def Id (r:Int×Int):AV:= .tp [cdI.enc r.1,cdI.enc r.2]
theorem Ir (x0:(List AE)):∀ (f:Nat) (c2:Int) (r:(Unit) ⊕ (Int×Int)),Df x0 f c2=some r->SemN E0 ⟨none,false⟩ (pc IX [1,1,0,1,0,0]) f ⟨Fr 27 [(0,.sl 5 (x0.map AA.enc)),(10,.sl 5 (x0.map AA.enc)),(11,.v (.int .i64 (x0.length:Int))),(12,.v (.int .i64 c2))],[]⟩ (fun e s=>match r with
 | (.inl w)=>e=(.exit 0)/\Wk E0 s ⟨Fr 27 [],[]⟩
 | (.inr w)=>e = .ret/\Wk E0 s ⟨Fr 27 [(2,.v (.int .i64 w.1)),(3,.v (.int .i64 w.2))],[]⟩):=by
 intro f;induction f with
 | zero=>intro c2 r h; cases h
 | succ f ih0 =>
  intro c2 r h
  have ih:=fun (c2:Int)=>ih0 c2 r
  unfold Df at h;refine D3 ?_
  let p1:Nat×AV:=(12,.v (.int .i64 c2))
  let p2:Nat×AV:=(11,.v (.int .i64 (x0.length:Int)))
  let p3:Nat×AV:=(10,.sl 5 (x0.map AA.enc))
  let p4:Nat×AV:=(0,.sl 5 (x0.map AA.enc))
  refine AM AC [p4,p3,p2,p1,(13,.v (.bool (decide (c2 < (x0.length:Int)))))] [] ?_;refine AH ?_;refine AW (b:=(decide (c2 < (x0.length:Int)))) kr (fun hb3=>?_) (fun hb3=>?_)
  ·rw [if_pos hb3] at h
   refine Ai ?_;refine AH ?_;refine Bh ?_;refine AH ?_;obtain ⟨v4,hv4,h⟩:=OB h
   let p5:Option Blk:=some ⟨5,60,[AA.enc v4],false⟩
   let p6:Nat×AV:=(4,.v (.int .i64 c2))
   refine AO (s1:=⟨Fr 27 [p4,p6,(5,.pt 0 0 0),p3,p2,p1],[p5]⟩) ?_ ?_
   ·refine AF (n:=27) AC 1 [p4,p3,p2,p1,(14,.v (.int .i64 c2))] [] kr ?_
    refine Aq AC 0 rfl (EM (AB rfl) rfl (Ao (a:= .sl 5 (x0.map AA.enc)) (b:= .v (.int .i64 c2)) kr kr (Iw (e:=AA.enc) (el:=60) (k:=5) (ki:= .i64) kr kr hv4))) ?_;exact A5 AC
   refine AH ?_;by_cases hk5:(Do 0 c2 x0.length)=true
   case neg=>rw [if_neg hk5] at h; cases h
   rw [if_pos hk5] at h;obtain ⟨v6,hv6,h⟩:=OB h
   let p7:Nat×AV:=(6,.v (.int .i64 v6))
   refine F8 AC (s1:=⟨Fr 27 [p4,p6,p7,p3,p2,p1],[]⟩) kr ?_ ?_
   ·refine B8 (n:=27) AC 2 [p4,p6,(5,.pt 0 0 0),p3,p2,p1,(17,.sl 5 (x0.map AA.enc)),(18,.v (.int .i64 c2))] [p5] kr kr ?_
    refine RunDS.one AC rfl kr (Yj kr (AB rfl) rfl (En (a:= .sl 5 (x0.map AA.enc)) (l:=none) (u:=(some (.v (.int .i64 c2)))) (m:=none) kr kr kr rfl (LH (xs:=x0) (e:=AA.enc) (k:=5) (el:=60) (lo:=0) (hi:=c2) kr kr rfl (G7 (Jt hk5)) hk5)) kr) ?_;refine B8 (n:=27) AC 1 [p4,p6,p3,p2,p1,(19,.sl 5 (((x0.take c2.toNat).drop (0:Int).toNat).map AA.enc)),(20,AA.enc v4)] [p5] kr kr ?_;refine CM (caps:=[]) (xs:=[.sl 5 (((x0.take c2.toNat).drop (0:Int).toNat).map AA.enc),AA.enc v4]) (u:=(((x0.take c2.toNat).drop (0:Int).toNat),v4,())) rfl rfl PV rfl (AB rfl) kr kr (Ab (A3 (c:=(cdL 5 AA)) (v:=((x0.take c2.toNat).drop (0:Int).toNat))) (Ab (A3 (c:=AA) (v:=v4)) B6)) kr hv6 ?_;refine B8 (n:=27) AC 1 [p4,p6,p7,p3,p2,p1] [p5] kr kr ?_;exact RunDS.done rfl (Au [] trivial ⟨lv,lv,lv,lv,lv,lv,trivial⟩)
   refine AM AC [p4,p6,p7,p3,p2,p1,(23,.v (.bool (v6 != 0)))] [] ?_;refine AW (b:=(v6 != 0)) kr (fun hb7=>?_) (fun hb7=>?_)
   ·rw [if_pos hb7] at h
    refine AM AC [(2,.v (.int .i64 c2)),(3,.v (.int .i64 v6))] [] ?_;refine AX ?_;have hq:=OI h; subst hq;exact ⟨rfl,AT⟩
   ·rw [Cr hb7] at h
    refine Ai ?_
    let p8:Nat×AV:=(12,.v (.int .i64 (wr .i64 (c2 + 1))))
    refine Eq AC [p4,p3,p2,p8] [] ?_;exact CF (s1:=⟨Fr 27 [p4,p3,p2,p8],[]⟩) AT (ih (wr .i64 (c2 + 1)) h)
  ·rw [Cr hb3] at h
   refine FD ?_;have hq:=OI h; subst hq;exact ⟨rfl,AT⟩
theorem Mt (x0:(List AE)) (r:Int×Int) (h:Fp x0=some r):Sem E0 ⟨none,false⟩ IX ⟨Fr 27 (BS 0 (Ia.enc (x0,()))),[]⟩ fun e s'=>(e = .normal\/e = .ret)/\∃ xs,Eo E0.P s'.fr s'.hp Tryz.f80.results.toList=some xs/\Er xs=Id r:=by
 unfold Fp at h
 let p1:Nat×AV:=(0,.sl 5 (x0.map AA.enc))
 refine BJ (CD (s1:=⟨Fr 27 [p1],[]⟩) AT ?_);refine AM AC [p1] [] ?_;refine AH ?_;refine AH ?_;refine AO (s1:=⟨Fr 27 [p1,(9,.v (.bool (decide ((x0.length:Int) > 32))))],[]⟩) ?_ ?_
 ·refine AF (n:=27) AC 1 [p1,(7,.sl 5 (x0.map AA.enc))] [] kr ?_
  refine Aq AC 0 rfl (EM (AB rfl) rfl (FU (a:= .sl 5 (x0.map AA.enc)) kr (Dq (el:=60) kr))) ?_;exact A5 AC
 refine AW (b:=(decide ((x0.length:Int) > 32))) kr (fun hb1=>?_) (fun hb1=>?_)
 ·rw [if_pos hb1] at h
  refine AM AC [(2,.v (.int .i64 0)),(3,.v (.int .i64 7))] [] ?_;refine AX ?_;have hq:=OI h; subst hq;exact ⟨⟨Fr 27 [(2,.v (.int .i64 0)),(3,.v (.int .i64 7))],[]⟩,AT,.inr rfl,[.v (.int .i64 0),.v (.int .i64 7)],kr,kr⟩
 ·rw [Cr hb1] at h
  refine Ai ?_;refine AH ?_;refine AH ?_
  let p2:Nat×AV:=(12,.v (.int .i64 0))
  let p3:Nat×AV:=(11,.v (.int .i64 (x0.length:Int)))
  let p4:Nat×AV:=(10,.sl 5 (x0.map AA.enc))
  refine AO (s1:=⟨Fr 27 [p1,p4,p3,p2],[]⟩) ?_ ?_
  ·refine AF (n:=27) AC 1 [p1,p4] [] kr ?_
   refine Aq AC 0 rfl (EM (AB rfl) rfl (FU (a:= .sl 5 (x0.map AA.enc)) kr (Dq (el:=60) kr))) ?_;exact A5 AC
  refine Bh ?_;obtain ⟨r10,hr10,h⟩:=OB h;refine FE (n:=100000) ?_;rcases r10 with w11 | w12
  ·try dsimp only at h
   refine Cn (CF (s1:=⟨Fr 27 [p1,p4,p3,p2],[]⟩) AT (Ir x0 _ 0 _ hr10)) ?_;refine AM AC [(2,.v (.int .i64 0)),(3,.v (.int .i64 0))] [] ?_;refine AX ?_;have hq:=OI h; subst hq;exact ⟨⟨Fr 27 [(2,.v (.int .i64 0)),(3,.v (.int .i64 0))],[]⟩,AT,.inr rfl,[.v (.int .i64 0),.v (.int .i64 0)],kr,kr⟩
  ·try dsimp only at h
   refine Cn (CF (s1:=⟨Fr 27 [p1,p4,p3,p2],[]⟩) AT (Ir x0 _ 0 _ hr10)) ?_;have hq:=OI h; subst hq;exact ⟨⟨Fr 27 [(2,.v (.int .i64 w12.1)),(3,.v (.int .i64 w12.2))],[]⟩,AT,.inr rfl,[.v (.int .i64 w12.1),.v (.int .i64 w12.2)],kr,kr⟩
def PJ:List AV->Option AV:=EN Ia (fun a=>Fp a.1) Id
theorem PT:XOk 80 PJ:=by
 refine AZ Tryz.func80 (c:=IX) ?h2 ⟨Tryz.call80⟩ Ia (fun a=>Fp a.1) Id (fun a=>(by show 1<=27; decide)) ?h3 ?h4
 case h2=>kernel_rfl
 case h3=>intro b; kernel_rfl
 case h4=>exact fun a b h=>Mt a.1 b h
/- trestle/court.orders -/
noncomputable def Hy:Code:=Bo Tryz.f75
def DM (x0:(List AE)):Nat->(List AE)->Int->Option (((List AE)))
 | 0,_,_=>none
 | f + 1,c3,c4 =>
  if (decide (c4 < (x0.length:Int)))=true then
  (idx x0 c4).bind fun v6 =>
  (Ej v6).bind fun v7 =>
  if (Fe 8 (c3.length + 1))=true then
  DM x0 f (c3++[v7]) (wr .i64 (c4 + 1))
  else none
  else
  some c3
def FL (x0:(List AE)):Option ((List AE)×Bool) :=
 (Fp x0).bind fun v1 =>
 if (v1.2 != 0)=true then
 some ([],false)
 else
 (DM x0 100000 [] 0).bind fun r10 =>
 some (r10,true)
noncomputable def H4:Cs ((List AE)×Unit):=(csC (cdL 5 AA) csN)
noncomputable def H7 (r:(List AE)×Bool):AV:= .tp [(cdL 1 By).enc r.1,cdB.enc r.2]
theorem K2 (x0:(List AE)):∀ (f:Nat) (c3:(List AE)) (c4:Int) (r:((List AE))),DM x0 f c3 c4=some r->SemN E0 ⟨none,false⟩ (pc Hy [1,1,1,0,1,0,0]) f ⟨Fr 29 [(6,hd 0 (c3.map By.enc)),(16,.sl 5 (x0.map AA.enc)),(17,.v (.int .i64 (x0.length:Int))),(18,.v (.int .i64 c4))],[mk 1 117 (c3.map By.enc)]⟩ (fun e s=>e=(.exit 0)/\Wk E0 s ⟨Fr 29 [(6,hd 0 (r.map By.enc))],[mk 1 117 (r.map By.enc)]⟩):=by
 intro f;induction f with
 | zero=>intro c3 c4 r h; cases h
 | succ f ih0 =>
  intro c3 c4 r h
  have ih:=fun (c3:(List AE)) (c4:Int)=>ih0 c3 c4 r
  unfold DM at h;refine D3 ?_
  let p1:Option Blk:=mk 1 117 (c3.map By.enc)
  let p2:Nat×AV:=(18,.v (.int .i64 c4))
  let p3:Nat×AV:=(17,.v (.int .i64 (x0.length:Int)))
  let p4:Nat×AV:=(16,.sl 5 (x0.map AA.enc))
  refine AM AC [(6,hd 0 (c3.map By.enc)),p4,p3,p2,(19,.v (.bool (decide (c4 < (x0.length:Int)))))] [p1] ?_;refine AH ?_;refine AW (b:=(decide (c4 < (x0.length:Int)))) kr (fun hb5=>?_) (fun hb5=>?_)
  ·rw [if_pos hb5] at h
   refine Ai ?_;refine AH ?_;refine Bh ?_;refine AH ?_;obtain ⟨v6,hv6,h⟩:=OB h
   let p5:Option Blk:=some ⟨5,60,[AA.enc v6],false⟩
   refine AO (s1:=⟨Fr 29 [(6,hd 0 (c3.map By.enc)),(8,.pt 1 0 0),p4,p3,p2],[p1,p5]⟩) ?_ ?_
   ·refine Aq AC 0 rfl (EM (AB rfl) rfl (Ao (a:= .sl 5 (x0.map AA.enc)) (b:= .v (.int .i64 c4)) kr kr (Iw (e:=AA.enc) (el:=60) (k:=5) (ki:= .i64) kr kr hv6))) ?_
    exact A5 AC
   obtain ⟨v7,hv7,h⟩:=OB h;by_cases hk8:(Fe 8 (c3.length + 1))=true
   case neg=>rw [if_neg hk8] at h; cases h
   rw [if_pos hk8] at h
   let p6:Option Blk:=mk 1 117 ((c3++[v7]).map By.enc)
   let p7:Nat×AV:=(6,hd 0 ((c3++[v7]).map By.enc))
   refine AO (s1:=⟨Fr 29 [p7,p4,p3,p2],[p6]⟩) ?_ ?_
   ·refine AF (n:=29) AC 2 [p4,p3,p2,(22,hd 0 (c3.map By.enc)),(23,AA.enc v6)] [p1,p5] kr ?_
    refine Ay (caps:=[]) (xs:=[AA.enc v6]) (u:=(v6,())) rfl rfl Nk rfl (AB rfl) kr kr (Ab (A3 (c:=AA) (v:=v6)) B6) (.inr kr) hv7 ?_;refine AF (n:=29) AC 1 [p4,p3,p2,(22,hd 0 (c3.map By.enc)),(25,hd 2 ([v7].map By.enc))] [p1,p5,mk 1 117 ([v7].map By.enc)] kr ?_;refine Aq AC 0 rfl (TK (AB rfl) rfl kr kr (Hr (a:=hd 0 (c3.map By.enc)) (b:=hd 2 ([v7].map By.enc)) kr kr (Kp (c:=By) (xs:=c3) (vs:=[v7]) (k:=1) (bytes:=8) (el:=117) kr kr (K6 (t:=117) kr) (List.cons_ne_nil _ _) kr hk8))) ?_;refine AF (n:=29) AC 1 [(6,hd 3 ((c3++[v7]).map By.enc)),p4,p3,p2] [none,p5,mk 1 117 ([v7].map By.enc),p6] kr ?_;exact AL rfl (Au [3] ⟨⟨_,rfl,DQ⟩,trivial⟩ ⟨DR (b':=3) kr kr,lv,lv,lv,trivial⟩)
   let p8:Nat×AV:=(18,.v (.int .i64 (wr .i64 (c4 + 1))))
   refine Eq AC [p7,p4,p3,p8] [p6] ?_;exact CF (s1:=⟨Fr 29 [p7,p4,p3,p8],[p6]⟩) (Au [0] ⟨⟨_,rfl,DQ⟩,trivial⟩ ⟨DR (b':=0) kr kr,lv,lv,lv,trivial⟩) (ih (c3++[v7]) (wr .i64 (c4 + 1)) h)
  ·rw [Cr hb5] at h
   refine FD ?_;have hq:=OI h; subst hq;exact ⟨rfl,(Au [0] ⟨⟨_,rfl,DQ⟩,trivial⟩ ⟨DR (b':=0) kr kr,trivial⟩)⟩
theorem MK (x0:(List AE)) (r:(List AE)×Bool) (h:FL x0=some r):Sem E0 ⟨none,false⟩ Hy ⟨Fr 29 (BS 0 (H4.enc (x0,()))),[]⟩ fun e s'=>(e = .normal\/e = .ret)/\∃ xs,Eo E0.P s'.fr s'.hp Tryz.f75.results.toList=some xs/\Er xs=H7 r:=by
 unfold FL at h
 let p1:Nat×AV:=(0,.sl 5 (x0.map AA.enc))
 refine BJ (CD (s1:=⟨Fr 29 [p1],[]⟩) AT ?_);refine AM AC [p1] [] ?_;refine AH ?_;refine AH ?_;obtain ⟨v1,hv1,h⟩:=OB h;refine AO (s1:=⟨Fr 29 [p1,(5,.v (.int .i64 v1.2))],[]⟩) ?_ ?_
 ·refine AF (n:=29) AC 1 [p1,(10,.sl 5 (x0.map AA.enc))] [] kr ?_
  refine Ay (caps:=[]) (xs:=[.sl 5 (x0.map AA.enc)]) (u:=(x0,())) rfl rfl PT rfl (AB rfl) kr kr (Ab (A3 (c:=(cdL 5 AA)) (v:=x0)) B6) (.inl kr) hv1 ?_;exact A5 AC
 refine AM AC [p1,(15,.v (.bool (v1.2 != 0)))] [] ?_;refine AW (b:=(v1.2 != 0)) kr (fun hb2=>?_) (fun hb2=>?_)
 ·rw [if_pos hb2] at h
  let p2:Nat×AV:=(3,.v (.bool false))
  refine AM AC [(2,.e0),p2] [] ?_;refine AX ?_;have hq:=OI h; subst hq;exact ⟨⟨Fr 29 [(2,.sl 1 ([].map By.enc)),p2],[]⟩,(Wk.trans (s1:=⟨Fr 29 [(2,.e0),p2],[]⟩) AT (Wk.trans (s1:=⟨Fr 29 [(2,.e0),p2],[none]⟩) Wk.none (Wk.trans (s1:=⟨Fr 29 [(2,.sl 1 ([].map By.enc)),p2],[none]⟩) (I0 0 (.inr kr) ⟨.inl rfl,trivial⟩ ⟨⟨.e0,kr,R9⟩,⟨.v (.bool false),kr,.inl rfl⟩,trivial⟩) (Au [] trivial ⟨lv,lv,trivial⟩)))),.inr rfl,[.sl 1 ([].map By.enc),.v (.bool false)],kr,kr⟩
 ·rw [Cr hb2] at h
  refine Ai ?_;refine AM AC [p1,(6,.e0)] [] ?_;refine AH ?_;refine AH ?_
  let p3:Nat×AV:=(18,.v (.int .i64 0))
  let p4:Nat×AV:=(17,.v (.int .i64 (x0.length:Int)))
  let p5:Nat×AV:=(16,.sl 5 (x0.map AA.enc))
  refine AO (s1:=⟨Fr 29 [(6,.e0),p5,p4,p3],[]⟩) ?_ ?_
  ·refine AF (n:=29) AC 1 [(6,.e0),p5] [] kr ?_
   refine Aq AC 0 rfl (EM (AB rfl) rfl (FU (a:= .sl 5 (x0.map AA.enc)) kr (Dq (el:=60) kr))) ?_;exact A5 AC
  refine Bh ?_;obtain ⟨r10,hr10,h⟩:=OB h;refine FE (n:=100000) ?_;refine Cn (CF (s1:=⟨Fr 29 [(6,hd 0 ([].map By.enc)),p5,p4,p3],[mk 1 117 ([].map By.enc)]⟩) (Wk.trans (s1:=⟨Fr 29 [(6,hd 0 ([].map By.enc)),p5,p4,p3],[mk 1 117 ([].map By.enc)]⟩) Wk.none (Au [0] ⟨⟨_,rfl,Oj⟩,trivial⟩ ⟨lv,lv,lv,lv,trivial⟩)) (K2 x0 _ [] 0 _ hr10)) ?_
  let p6:Nat×AV:=(3,.v (.bool true))
  refine AM AC [(2,hd 0 (r10.map By.enc)),p6] [mk 1 117 (r10.map By.enc)] ?_;refine AX ?_;have hq:=OI h; subst hq;exact ⟨⟨Fr 29 [(2,.sl 1 (r10.map By.enc)),p6],[]⟩,(Wk.trans (s1:=⟨Fr 29 [(2,.sl 1 (r10.map By.enc)),p6],[none]⟩) (I0 0 (.inl kr) ⟨.inl rfl,trivial⟩ ⟨⟨hd 0 (r10.map By.enc),kr,Pr (t:=117) kr KV⟩,⟨.v (.bool true),kr,.inl rfl⟩,trivial⟩) (Au [] trivial ⟨lv,lv,trivial⟩)),.inr rfl,[.sl 1 (r10.map By.enc),.v (.bool true)],kr,kr⟩
noncomputable def N2:List AV->Option AV:=EN H4 (fun a=>FL a.1) H7
theorem N7:XOk 75 N2:=by
 refine AZ Tryz.func75 (c:=Hy) ?h2 ⟨Tryz.call75⟩ H4 (fun a=>FL a.1) H7 (fun a=>(by show 1<=29; decide)) ?h3 ?h4
 case h2=>kernel_rfl
 case h3=>intro b; kernel_rfl
 case h4=>exact fun a b h=>MK a.1 b h
/- trestle/court.list -/
noncomputable def I1:Code:=Bo Tryz.f79
def Cq (x0:(List Aw)):Nat->(List AP)->Int->Option (((List AP)))
 | 0,_,_=>none
 | f + 1,c1,c2 =>
  if (decide (c2 < (x0.length:Int)))=true then
  (idx x0 c2).bind fun v4 =>
  if (Fe 120 (c1.length + 1))=true then
  Cq x0 f (c1++[(v4,c2)]) (wr .i64 (c2 + 1))
  else none
  else
  some c1
def Gp (x0:(List Aw)):Option ((List AP)) :=
 (Cq x0 100000 [] 0).bind fun r7 =>
 some r7
def I4:Cs ((List Aw)×Unit):=(csC (cdL 9 AI) csN)
def I7 (r:(List AP)):AV:=(cdL 10 AD).enc r
theorem MJ (x0:(List Aw)):∀ (f:Nat) (c1:(List AP)) (c2:Int) (r:((List AP))),Cq x0 f c1 c2=some r->SemN E0 ⟨none,false⟩ (pc I1 [1,1,0,1,0,0]) f ⟨Fr 21 [(3,hd 0 (c1.map AD.enc)),(6,.sl 9 (x0.map AI.enc)),(7,.v (.int .i64 (x0.length:Int))),(8,.v (.int .i64 c2))],[mk 10 115 (c1.map AD.enc)]⟩ (fun e s=>e=(.exit 0)/\Wk E0 s ⟨Fr 21 [(3,hd 0 (r.map AD.enc))],[mk 10 115 (r.map AD.enc)]⟩):=by
 intro f;induction f with
 | zero=>intro c1 c2 r h; cases h
 | succ f ih0 =>
  intro c1 c2 r h
  have ih:=fun (c1:(List AP)) (c2:Int)=>ih0 c1 c2 r
  unfold Cq at h;refine D3 ?_
  let p1:Option Blk:=mk 10 115 (c1.map AD.enc)
  let p2:Nat×AV:=(8,.v (.int .i64 c2))
  let p3:Nat×AV:=(7,.v (.int .i64 (x0.length:Int)))
  let p4:Nat×AV:=(6,.sl 9 (x0.map AI.enc))
  let p5:Nat×AV:=(3,hd 0 (c1.map AD.enc))
  refine AM AC [p5,p4,p3,p2,(9,.v (.bool (decide (c2 < (x0.length:Int)))))] [p1] ?_;refine AH ?_;refine AW (b:=(decide (c2 < (x0.length:Int)))) kr (fun hb3=>?_) (fun hb3=>?_)
  ·rw [if_pos hb3] at h
   refine Ai ?_;refine AH ?_;refine Bh ?_;refine AH ?_;obtain ⟨v4,hv4,h⟩:=OB h
   let p6:Option Blk:=some ⟨9,42,[AI.enc v4],false⟩
   refine AO (s1:=⟨Fr 21 [p5,(4,.v (.int .i64 c2)),(5,.pt 1 0 0),p4,p3,p2],[p1,p6]⟩) ?_ ?_
   ·refine AF (n:=21) AC 1 [p5,p4,p3,p2,(10,.v (.int .i64 c2))] [p1] kr ?_
    refine Aq AC 0 rfl (EM (AB rfl) rfl (Ao (a:= .sl 9 (x0.map AI.enc)) (b:= .v (.int .i64 c2)) kr kr (Iw (e:=AI.enc) (el:=42) (k:=9) (ki:= .i64) kr kr hv4))) ?_;exact A5 AC
   by_cases hk5:(Fe 120 (c1.length + 1))=true
   case neg=>rw [if_neg hk5] at h; cases h
   rw [if_pos hk5] at h
   let p7:Option Blk:=mk 10 115 ((c1++[(v4,c2)]).map AD.enc)
   let p8:Nat×AV:=(3,hd 0 ((c1++[(v4,c2)]).map AD.enc))
   refine AO (s1:=⟨Fr 21 [p8,p4,p3,p2],[p7]⟩) ?_ ?_
   ·let p9:Option Blk:=mk 10 115 ([(v4,c2)].map AD.enc)
    refine AF (n:=21) AC 5 [p4,p3,p2,(13,hd 0 (c1.map AD.enc)),(17,hd 2 ([(v4,c2)].map AD.enc))] [p1,p6,p9] kr ?_;refine Aq AC 0 rfl (TK (AB rfl) rfl kr kr (Hr (a:=hd 0 (c1.map AD.enc)) (b:=hd 2 ([(v4,c2)].map AD.enc)) kr kr (Kp (c:=AD) (xs:=c1) (vs:=[(v4,c2)]) (k:=10) (bytes:=120) (el:=115) kr kr (K6 (t:=115) kr) (List.cons_ne_nil _ _) kr hk5))) ?_;refine AF (n:=21) AC 1 [(3,hd 3 ((c1++[(v4,c2)]).map AD.enc)),p4,p3,p2] [none,p6,p9,p7] kr ?_;exact AL rfl (Au [3] ⟨⟨_,rfl,DQ⟩,trivial⟩ ⟨DR (b':=3) kr kr,lv,lv,lv,trivial⟩)
   let p10:Nat×AV:=(8,.v (.int .i64 (wr .i64 (c2 + 1))))
   refine Eq AC [p8,p4,p3,p10] [p7] ?_;exact CF (s1:=⟨Fr 21 [p8,p4,p3,p10],[p7]⟩) (Au [0] ⟨⟨_,rfl,DQ⟩,trivial⟩ ⟨DR (b':=0) kr kr,lv,lv,lv,trivial⟩) (ih (c1++[(v4,c2)]) (wr .i64 (c2 + 1)) h)
  ·rw [Cr hb3] at h
   refine FD ?_;have hq:=OI h; subst hq;exact ⟨rfl,(Au [0] ⟨⟨_,rfl,DQ⟩,trivial⟩ ⟨DR (b':=0) kr kr,trivial⟩)⟩
theorem Nu (x0:(List Aw)) (r:(List AP)) (h:Gp x0=some r):Sem E0 ⟨none,false⟩ I1 ⟨Fr 21 (BS 0 (I4.enc (x0,()))),[]⟩ fun e s'=>(e = .normal\/e = .ret)/\∃ xs,Eo E0.P s'.fr s'.hp Tryz.f79.results.toList=some xs/\Er xs=I7 r:=by
 unfold Gp at h
 let p1:Nat×AV:=(0,.sl 9 (x0.map AI.enc))
 refine BJ (CD (s1:=⟨Fr 21 [p1],[]⟩) AT ?_);refine AM AC [p1] [] ?_;refine AM AC [p1,(3,.e0)] [] ?_;refine AH ?_;refine AH ?_
 let p2:Nat×AV:=(8,.v (.int .i64 0))
 let p3:Nat×AV:=(7,.v (.int .i64 (x0.length:Int)))
 let p4:Nat×AV:=(6,.sl 9 (x0.map AI.enc))
 refine AO (s1:=⟨Fr 21 [(3,.e0),p4,p3,p2],[]⟩) ?_ ?_
 ·refine AF (n:=21) AC 1 [(3,.e0),p4] [] kr ?_
  refine Aq AC 0 rfl (EM (AB rfl) rfl (FU (a:= .sl 9 (x0.map AI.enc)) kr (Dq (el:=42) kr))) ?_;exact A5 AC
 refine Bh ?_;obtain ⟨r7,hr7,h⟩:=OB h;refine FE (n:=100000) ?_
 let p5:Option Blk:=mk 10 115 ([].map AD.enc)
 let p6:Nat×AV:=(3,hd 0 ([].map AD.enc))
 refine Cn (CF (s1:=⟨Fr 21 [p6,p4,p3,p2],[p5]⟩) (Wk.trans (s1:=⟨Fr 21 [p6,p4,p3,p2],[p5]⟩) Wk.none (Au [0] ⟨⟨_,rfl,Oj⟩,trivial⟩ ⟨lv,lv,lv,lv,trivial⟩)) (MJ x0 _ [] 0 _ hr7)) ?_;refine AM AC [(2,hd 0 (r7.map AD.enc))] [mk 10 115 (r7.map AD.enc)] ?_;refine AX ?_;have hq:=OI h; subst hq
 let p7:Nat×AV:=(2,.sl 10 (r7.map AD.enc))
 exact ⟨⟨Fr 21 [p7],[]⟩,(Wk.trans (s1:=⟨Fr 21 [p7],[none]⟩) (I0 0 (.inl kr) ⟨.inl rfl,trivial⟩ ⟨⟨hd 0 (r7.map AD.enc),kr,Pr (t:=115) kr KV⟩,trivial⟩) (Au [] trivial ⟨lv,trivial⟩)),.inr rfl,[.sl 10 (r7.map AD.enc)],kr,kr⟩
def QB:List AV->Option AV:=EN I4 (fun a=>Gp a.1) I7
theorem QL:XOk 79 QB:=by
 refine AZ Tryz.func79 (c:=I1) ?h2 ⟨Tryz.call79⟩ I4 (fun a=>Gp a.1) I7 (fun a=>(by show 1<=21; decide)) ?h3 ?h4
 case h2=>kernel_rfl
 case h3=>intro b; kernel_rfl
 case h4=>exact fun a b h=>Nu a.1 b h
noncomputable def C1:Code:=Bo Tryz.f135
def Ah (xs:List AP):Option Blk:=some ⟨10,115,xs.map AD.enc,false⟩
set_option maxRecDepth 100000 in
theorem EU (xs:List AP) (hc:Fe 120 xs.length=true):Sem E0 ⟨none,false⟩ C1 ⟨Fr 8 [(0,.sl 10 (xs.map AD.enc))],[]⟩ fun e s'=>(e = .normal\/e = .ret)/\((xs=[]/\s'=⟨Fr 8 [(2,.e0)],[]⟩)\/s'=⟨Fr 8 [(2,.rf 0 0 xs.length xs.length)],[Ah xs]⟩):=by
 refine AH ?_
 refine AO (s1:=⟨Fr 8 [(0,.sl 10 (xs.map AD.enc)),(2,.e0)],[]⟩) ?_ ?_
 ·refine FW AC 1 (s1:=⟨Fr 8 [(0,.sl 10 (xs.map AD.enc)),(2,.e0)],[]⟩) (by kernel_rfl) ?_
  exact AL rfl AT
 refine AH ?_
 refine AH (Ma ?_)
 refine FW AC 1 (s1:=⟨Fr 8 [(0,.sl 10 (xs.map AD.enc)),(2,.e0),(3,.sl 10 (xs.map AD.enc))],[]⟩) (by kernel_rfl) ?_
 refine OA (k:=10) (el:=115) (es:=xs.map AD.enc) rfl (AB rfl) (by kernel_rfl) (by kernel_rfl) fun b hb=>AL rfl ?_
 have hb:b=true->xs=[]:=fun h=>List.map_eq_nil_iff.1 (hb h)
 refine AW (b:=b) (by kernel_rfl) (fun hb1=>?_) (fun hb1=>?_)
 ·have hx:=hb hb1
  refine BJ ?_
  refine AH (AO (s1:=⟨Fr 8 [(2,.e0)],[]⟩) ?_ (AX ?_))
  ·refine FW AC 1 (s1:=⟨Fr 8 [(0,.sl 10 (xs.map AD.enc)),(2,.e0),(3,.sl 10 (xs.map AD.enc)),(4,.v (.bool b))],[]⟩) (by kernel_rfl) ?_
   exact AL rfl AT
  ·exact ⟨_,Wk.refl,.inr rfl,.inl ⟨hx,rfl⟩⟩
 ·refine Ai ?_
  refine BJ (AH (Ma ?_))
  refine FW AC 2 (s1:=⟨Fr 8 [(0,.sl 10 (xs.map AD.enc)),(2,.e0),(3,.sl 10 (xs.map AD.enc)),(4,.v (.bool b)),(5,.rf 0 0 0 0),(6,.sl 10 (xs.map AD.enc))],[Ah []]⟩) (by kernel_rfl) ?_
  cases xs with
  | nil =>
   refine Aq AC 0 rfl (TK (x:= .rf 0 0 0 0) (hp':=[Ah []]) (AB rfl) rfl (by kernel_rfl) (by kernel_rfl) (by kernel_rfl)) ?_
   refine FW AC 1 (s1:=⟨Fr 8 [(0,.sl 10 []),(2,.rf 0 0 0 0),(3,.sl 10 []),(4,.v (.bool b)),(5,.rf 0 0 0 0),(6,.sl 10 []),(7,.rf 0 0 0 0)],[Ah []]⟩) (by kernel_rfl) (AL rfl (AX ?_))
   exact ⟨⟨Fr 8 [(2,.rf 0 0 0 0)],[Ah []]⟩,AT,.inr rfl,.inr rfl⟩
  | cons y ys =>
   refine Aq AC 0 rfl (TK (AB rfl) rfl (by kernel_rfl) (by kernel_rfl) (Hr (a:= .rf 0 0 0 0) (b:= .sl 10 ((y::ys).map AD.enc)) (by kernel_rfl) (by kernel_rfl) (RB (c:=AD) (xs:=[]) (vs:=y::ys) (k:=10) (bytes:=120) (el:=115) (by kernel_rfl) (by kernel_rfl) RL (List.cons_ne_nil _ _) (by kernel_rfl) (by rw [List.length_nil,Nat.zero_add]; exact hc)))) ?_
   refine FW AC 1 (s1:=⟨Fr 8 [(0,.sl 10 ((y::ys).map AD.enc)),(2,.rf 1 0 (y::ys).length (y::ys).length),(3,.sl 10 ((y::ys).map AD.enc)),(4,.v (.bool b)),(5,.rf 0 0 0 0),(6,.sl 10 ((y::ys).map AD.enc)),(7,.rf 1 0 (y::ys).length (y::ys).length)],[none,Ah (y::ys)]⟩) (by kernel_rfl) (AL rfl (AX ?_))
   exact ⟨⟨Fr 8 [(2,.rf 0 0 (y::ys).length (y::ys).length)],[Ah (y::ys)]⟩,Au [1] ⟨⟨_,rfl,Ul⟩,trivial⟩ ⟨lv,trivial⟩,.inr rfl,.inr rfl⟩
def Ep (xs:List AP) (x:AV) (h':Hp):Prop:=(xs=[]/\x = .e0/\h'=[])\/(x = .rf 0 0 xs.length xs.length/\h'=[Ah xs])
theorem FH (xs:List AP) (hc:Fe 120 xs.length=true):SOk 135 [.sl 10 (xs.map AD.enc)] (Ep xs):=by
 refine OY AC rfl rfl (fn:=Tryz.f135) (c:=C1) (by kernel_rfl) (by kernel_rfl) ⟨Tryz.call135⟩ (by show 1<=8; decide) (Sem.mono (EU xs hc) ?_)
 rintro e s' ⟨he,⟨hx,rfl⟩ | rfl⟩
 ·exact ⟨he,[.e0],by kernel_rfl,.inl ⟨hx,rfl,rfl⟩⟩
 ·exact ⟨he,[.rf 0 0 xs.length xs.length],by kernel_rfl,.inr ⟨rfl,rfl⟩⟩
def JZ:Cs (List AP×Unit):=csC (cdL 10 AD) csN
end Go.Proofs.YtlalcoehgkmhlaaGreatDoor
