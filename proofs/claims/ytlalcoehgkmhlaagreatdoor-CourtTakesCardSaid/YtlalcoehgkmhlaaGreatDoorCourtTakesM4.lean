/- Lemmas for the proof. -/
import Derived.Test.YtlalcoehgkmhlaaGreatDoorCourtTakesM1
import Derived.Test.YtlalcoehgkmhlaaGreatDoorCourtTakesM2
import Derived.Test.YtlalcoehgkmhlaaGreatDoorCourtTakesM3
set_option maxHeartbeats 4000000
set_option maxRecDepth 100000
namespace Go.Proofs.YtlalcoehgkmhlaaGreatDoor
open Go.RowKit
/- trestle/trestlelaw03.Made -/
noncomputable def Cq:Code:=Bo Tryz.f19
def Gu (x0:(List (Int×Int×Int×Bool×Bool))) (c2:(List AE)) (c3:(List UInt8)) (c4:Int) (v6:(Int×Int×Int×Bool×Bool)):Option (((List (List UInt8)))) :=
 if ((D7 .u8 v6.2.2.1 4)!=0)=true then
 if (DK ((wr .u8 (v6.2.2.1 + 1)).tmod 4) (([97,98,99,100]:List UInt8).length:Int) ([97,98,99,100]:List UInt8).length)=true then
 if (DK 0 (1:Int) ((([97,98,99,100]:List UInt8).take (([97,98,99,100]:List UInt8).length:Int).toNat).drop ((wr .u8 (v6.2.2.1 + 1)).tmod 4).toNat).length)=true then
 if (Dj 16 ([((((([97,98,99,100]:List UInt8).take (([97,98,99,100]:List UInt8).length:Int).toNat).drop (v6.2.2.1.tmod 4).toNat).take (1:Int).toNat).drop (0:Int).toNat)].length + 1))=true then
 some ([((((([97,98,99,100]:List UInt8).take (([97,98,99,100]:List UInt8).length:Int).toNat).drop (v6.2.2.1.tmod 4).toNat).take (1:Int).toNat).drop (0:Int).toNat)]++[((((([97,98,99,100]:List UInt8).take (([97,98,99,100]:List UInt8).length:Int).toNat).drop ((wr .u8 (v6.2.2.1 + 1)).tmod 4).toNat).take (1:Int).toNat).drop (0:Int).toNat)])
 else none
 else none
 else none
 else
 some [((((([97,98,99,100]:List UInt8).take (([97,98,99,100]:List UInt8).length:Int).toNat).drop (v6.2.2.1.tmod 4).toNat).take (1:Int).toNat).drop (0:Int).toNat)]
def Fs (x0:(List (Int×Int×Int×Bool×Bool))) (c3:(List UInt8)) (c4:Int) (j27:(List AE)×Int×Int×Int×Bool×Bool×Int×(List UInt8)×Bool×Int×(List (List UInt8))×Bool):Option (((List AE)×Int×Int×Int×Bool×Bool×Int×(List UInt8)×Bool×Int×(List (List UInt8)))) :=
 if j27.2.2.2.2.2.2.2.2.2.2.2=true then
 some (j27.1,j27.2.1,j27.2.2.1,j27.2.2.2.1,j27.2.2.2.2.1,j27.2.2.2.2.2.1,j27.2.2.2.2.2.2.1,c3,j27.2.2.2.2.2.2.2.2.1,j27.2.2.2.2.2.2.2.2.2.1,j27.2.2.2.2.2.2.2.2.2.2.1)
 else
 some (j27.1,j27.2.1,j27.2.2.1,j27.2.2.2.1,j27.2.2.2.2.1,j27.2.2.2.2.2.1,j27.2.2.2.2.2.2.1,j27.2.2.2.2.2.2.2.1,j27.2.2.2.2.2.2.2.2.1,j27.2.2.2.2.2.2.2.2.2.1,j27.2.2.2.2.2.2.2.2.2.2.1)
def JD (x0:(List (Int×Int×Int×Bool×Bool))) (c3:(List UInt8)) (c4:Int) (r40:(List AE)×Int×Int×Int×Bool×Bool×Int×(List UInt8)×Bool×Int×(List (List UInt8))):Option ((Bool)) :=
 if (r40.2.2.2.2.2.2.1==6)=true then
 some (r40.2.2.2.2.2.2.1==6)
 else
 some (r40.2.2.2.2.2.2.1==7)
def JF (x0:(List (Int×Int×Int×Bool×Bool))) (c3:(List UInt8)) (c4:Int) (r40:(List AE)×Int×Int×Int×Bool×Bool×Int×(List UInt8)×Bool×Int×(List (List UInt8))):Option (((List AE)×Int×(List UInt8)×Bool×Int)) :=
 if (r40.2.2.2.2.2.2.1==10)=true then
 some (r40.1,r40.2.2.2.2.2.2.1,r40.2.2.2.2.2.2.2.1,r40.2.2.2.2.2.2.2.2.1,(wr .i64 (r40.2.2.1.tmod 64)))
 else
 some (r40.1,r40.2.2.2.2.2.2.1,r40.2.2.2.2.2.2.2.1,r40.2.2.2.2.2.2.2.2.1,r40.2.2.2.2.2.2.2.2.2.1)
def JE (x0:(List (Int×Int×Int×Bool×Bool))) (c3:(List UInt8)) (c4:Int) (r40:(List AE)×Int×Int×Int×Bool×Bool×Int×(List UInt8)×Bool×Int×(List (List UInt8))) (r1722:Bool):Option (((List AE)×Int×(List UInt8)×Bool×(List (List UInt8))×Int)) :=
 if r1722=true then
 some (r40.1,r40.2.2.2.2.2.2.1,r40.2.2.2.2.2.2.2.1,r40.2.2.2.2.1,r40.2.2.2.2.2.2.2.2.2.2,r40.2.2.2.2.2.2.2.2.2.1)
 else
 (JF x0 c3 c4 r40).bind fun r2056 =>
 some (r2056.1,r2056.2.1,r2056.2.2.1,r2056.2.2.2.1,[],r2056.2.2.2.2)
def JC (x0:(List (Int×Int×Int×Bool×Bool))) (c3:(List UInt8)) (c4:Int) (r40:(List AE)×Int×Int×Int×Bool×Bool×Int×(List UInt8)×Bool×Int×(List (List UInt8))):Option (((List AE)×Int×(List UInt8)×Bool×(List (List UInt8))×Int)) :=
 if (r40.2.2.2.2.2.2.1==5)=true then
 some (r40.1,r40.2.2.2.2.2.2.1,r40.2.2.2.2.2.2.2.1,r40.2.2.2.2.1,[],r40.2.2.2.2.2.2.2.2.2.1)
 else
 (JD x0 c3 c4 r40).bind fun r1722 =>
 (JE x0 c3 c4 r40 r1722).bind fun r2057 =>
 some (r2057.1,r2057.2.1,r2057.2.2.1,r2057.2.2.2.1,r2057.2.2.2.2.1,r2057.2.2.2.2.2)
def Ji (x0:(List (Int×Int×Int×Bool×Bool))) (c3:(List UInt8)) (c4:Int) (r40:(List AE)×Int×Int×Int×Bool×Bool×Int×(List UInt8)×Bool×Int×(List (List UInt8))):Option (((List AE)×Int×(List UInt8)×Bool×(List (List UInt8))×Int)) :=
 if (r40.2.2.2.2.2.2.1==4)=true then
 some (r40.1,r40.2.2.2.2.2.2.1,r40.2.2.2.2.2.2.2.1,r40.2.2.2.2.1,[],(wr .i64 (1 + (wr .i64 (r40.2.2.1.tmod 2)))))
 else
 (JC x0 c3 c4 r40).bind fun r2058 =>
 some (r2058.1,r2058.2.1,r2058.2.2.1,r2058.2.2.2.1,r2058.2.2.2.2.1,r2058.2.2.2.2.2)
def Gv (x0:(List (Int×Int×Int×Bool×Bool))) (c3:(List UInt8)) (c4:Int) (r40:(List AE)×Int×Int×Int×Bool×Bool×Int×(List UInt8)×Bool×Int×(List (List UInt8))):Option (((List AE)×(List UInt8)×Int×(List UInt8)×Bool×(List (List UInt8))×Int)) :=
 if (r40.2.2.2.2.2.2.1==1)=true then
 (idx r40.2.2.2.2.2.2.2.2.2.2 0).bind fun v42 =>
 some (r40.1,v42,r40.2.2.2.2.2.2.1,r40.2.2.2.2.2.2.2.1,r40.2.2.2.2.2.2.2.2.1,r40.2.2.2.2.2.2.2.2.2.2,r40.2.2.2.2.2.2.2.2.2.1)
 else
 (Ji x0 c3 c4 r40).bind fun r2059 =>
 some (r2059.1,c3,r2059.2.1,r2059.2.2.1,r2059.2.2.2.1,r2059.2.2.2.2.1,r2059.2.2.2.2.2)
def EQ (x0:(List (Int×Int×Int×Bool×Bool))):Nat->(List AE)->(List UInt8)->Int->Option (((List AE)))
 | 0,_,_,_=>none
 | f + 1,c2,c3,c4 =>
  if (decide (c4 < (((x0.take (mnI (x0.length:Int) 8).toNat).drop (0:Int).toNat).length:Int)))=true then
  (idx ((x0.take (mnI (x0.length:Int) 8).toNat).drop (0:Int).toNat) c4).bind fun v6 =>
  if (DK (v6.2.2.1.tmod 4) (([97,98,99,100]:List UInt8).length:Int) ([97,98,99,100]:List UInt8).length)=true then
  if (DK 0 (1:Int) ((([97,98,99,100]:List UInt8).take (([97,98,99,100]:List UInt8).length:Int).toNat).drop (v6.2.2.1.tmod 4).toNat).length)=true then
  (Gu x0 c2 c3 c4 v6).bind fun r14 =>
  (if v6.2.2.2.2=true then some (c2,v6.1,v6.2.1,v6.2.2.1,v6.2.2.2.1,true,(wr .u8 (1 + (v6.1.tmod 10))),[],false,0,r14,((wr .u8 (1 + (v6.1.tmod 10)))!=1)) else some (c2,v6.1,v6.2.1,v6.2.2.1,v6.2.2.2.1,false,(wr .u8 (1 + (v6.1.tmod 10))),[],false,0,r14,false)).bind fun j27 =>
  (Fs x0 c3 c4 j27).bind fun r40 =>
  (Gv x0 c3 c4 r40).bind fun r2060 =>
  if (Dj 64 (r2060.1.length + 1))=true then
  EQ x0 f (r2060.1++[r2060.2.2]) r2060.2.1 (wr .i64 (c4 + 1))
  else none
  else none
  else none
  else
  some c2
def ID (x0:(List (Int×Int×Int×Bool×Bool))):Option ((List AE)) :=
 if (DK 0 (mnI (x0.length:Int) 8) x0.length)=true then
 (EQ x0 100000 [] [] 0).bind fun r2064 =>
 some r2064
 else none
def Lt:Cs (((List (Int×Int×Int×Bool×Bool)))×Unit):=(csC (cdL 5 (cdA (csC (cdK .u8) (csC (cdK .u8) (csC (cdK .u8) (csC cdB (csE cdB))))) (fun _=>rfl))) csN)
theorem NC (x0:(List (Int×Int×Int×Bool×Bool))) (c2:(List AE)) (c3:(List UInt8)) (c4:Int) (v6:(Int×Int×Int×Bool×Bool)) (r:((List (List UInt8)))) (h:Gu x0 c2 c3 c4 v6=some r):Sem E0 ⟨none,false⟩ (pc Cq [1,1,1,0,1,0,0,1,1,0,0,1,1,1,0,1]) ⟨Fr 98 [(3,hd 0 (c2.map AB.enc)),(4,.st c3),(6,.pt 1 0 0),(7,.pt 2 0 0),(8,hd 3 ([((((([97,98,99,100]:List UInt8).take (([97,98,99,100]:List UInt8).length:Int).toNat).drop (v6.2.2.1.tmod 4).toNat).take (1:Int).toNat).drop (0:Int).toNat)].map cdS.enc)),(13,.sl 5 (((x0.take (mnI (x0.length:Int) 8).toNat).drop (0:Int).toNat).map (cdA (csC (cdK .u8) (csC (cdK .u8) (csC (cdK .u8) (csC cdB (csE cdB))))) (fun _=>rfl)).enc)),(14,.v (.int .i64 (((x0.take (mnI (x0.length:Int) 8).toNat).drop (0:Int).toNat).length:Int))),(15,.v (.int .i64 c4)),(33,.v (.bool ((D7 .u8 v6.2.2.1 4)!=0)))],[mk 5 60 (c2.map AB.enc),some ⟨5,107,[.ag [.v (.int .u8 v6.1),.v (.int .u8 v6.2.1),.v (.int .u8 v6.2.2.1),.v (.bool v6.2.2.2.1),.v (.bool v6.2.2.2.2)]],false⟩,some ⟨5,60,[.ag [.v (.int .u8 (wr .u8 (1 + (v6.1.tmod 10)))),.st [],.v (.bool false),.e0,.v (.int .i64 0)]],false⟩,mk 1 9 ([((((([97,98,99,100]:List UInt8).take (([97,98,99,100]:List UInt8).length:Int).toNat).drop (v6.2.2.1.tmod 4).toNat).take (1:Int).toNat).drop (0:Int).toNat)].map cdS.enc)]⟩ (fun e s=>e = .normal/\Wk E0 s ⟨Fr 98 [(3,hd 0 (c2.map AB.enc)),(4,.st c3),(6,.pt 1 0 0),(7,.pt 2 0 0),(8,hd 3 (r.map cdS.enc)),(13,.sl 5 (((x0.take (mnI (x0.length:Int) 8).toNat).drop (0:Int).toNat).map (cdA (csC (cdK .u8) (csC (cdK .u8) (csC (cdK .u8) (csC cdB (csE cdB))))) (fun _=>rfl)).enc)),(14,.v (.int .i64 (((x0.take (mnI (x0.length:Int) 8).toNat).drop (0:Int).toNat).length:Int))),(15,.v (.int .i64 c4))],[mk 5 60 (c2.map AB.enc),some ⟨5,107,[.ag [.v (.int .u8 v6.1),.v (.int .u8 v6.2.1),.v (.int .u8 v6.2.2.1),.v (.bool v6.2.2.2.1),.v (.bool v6.2.2.2.2)]],false⟩,some ⟨5,60,[.ag [.v (.int .u8 (wr .u8 (1 + (v6.1.tmod 10)))),.st [],.v (.bool false),.e0,.v (.int .i64 0)]],false⟩,mk 1 9 (r.map cdS.enc)]⟩):=by
 unfold Gu at h;refine Ab (b:=((D7 .u8 v6.2.2.1 4)!=0)) kr (fun hb9=>?_) (fun hb9=>?_)
 ·rw [if_pos hb9] at h
  by_cases hk10:(DK ((wr .u8 (v6.2.2.1 + 1)).tmod 4) (([97,98,99,100]:List UInt8).length:Int) ([97,98,99,100]:List UInt8).length)=true
  case neg=>rw [if_neg hk10] at h; cases h
  rw [if_pos hk10] at h;by_cases hk11:(DK 0 (1:Int) ((([97,98,99,100]:List UInt8).take (([97,98,99,100]:List UInt8).length:Int).toNat).drop ((wr .u8 (v6.2.2.1 + 1)).tmod 4).toNat).length)=true
  case neg=>rw [if_neg hk11] at h; cases h
  rw [if_pos hk11] at h;by_cases hk12:(Dj 16 ([((((([97,98,99,100]:List UInt8).take (([97,98,99,100]:List UInt8).length:Int).toNat).drop (v6.2.2.1.tmod 4).toNat).take (1:Int).toNat).drop (0:Int).toNat)].length + 1))=true
  case neg=>rw [if_neg hk12] at h; cases h
  rw [if_pos hk12] at h
  let p1:Option Blk:=mk 1 9 (([((((([97,98,99,100]:List UInt8).take (([97,98,99,100]:List UInt8).length:Int).toNat).drop (v6.2.2.1.tmod 4).toNat).take (1:Int).toNat).drop (0:Int).toNat)]++[((((([97,98,99,100]:List UInt8).take (([97,98,99,100]:List UInt8).length:Int).toNat).drop ((wr .u8 (v6.2.2.1 + 1)).tmod 4).toNat).take (1:Int).toNat).drop (0:Int).toNat)]).map cdS.enc)
  let p2:Option Blk:=some ⟨5,60,[.ag [.v (.int .u8 (wr .u8 (1 + (v6.1.tmod 10)))),.st [],.v (.bool false),.e0,.v (.int .i64 0)]],false⟩
  let p3:Option Blk:=some ⟨5,107,[.ag [.v (.int .u8 v6.1),.v (.int .u8 v6.2.1),.v (.int .u8 v6.2.2.1),.v (.bool v6.2.2.2.1),.v (.bool v6.2.2.2.2)]],false⟩
  let p4:Option Blk:=mk 5 60 (c2.map AB.enc)
  let p5:Nat×AV:=(15,.v (.int .i64 c4))
  let p6:Nat×AV:=(14,.v (.int .i64 (((x0.take (mnI (x0.length:Int) 8).toNat).drop (0:Int).toNat).length:Int)))
  let p7:Nat×AV:=(13,.sl 5 (((x0.take (mnI (x0.length:Int) 8).toNat).drop (0:Int).toNat).map (cdA (csC (cdK .u8) (csC (cdK .u8) (csC (cdK .u8) (csC cdB (csE cdB))))) (fun _=>rfl)).enc))
  let p8:Nat×AV:=(7,.pt 2 0 0)
  let p9:Nat×AV:=(6,.pt 1 0 0)
  let p10:Nat×AV:=(3,hd 0 (c2.map AB.enc))
  refine AS (s1:=⟨Fr 98 [p10,(4,.st c3),p9,p8,(8,hd 3 (([((((([97,98,99,100]:List UInt8).take (([97,98,99,100]:List UInt8).length:Int).toNat).drop (v6.2.2.1.tmod 4).toNat).take (1:Int).toNat).drop (0:Int).toNat)]++[((((([97,98,99,100]:List UInt8).take (([97,98,99,100]:List UInt8).length:Int).toNat).drop ((wr .u8 (v6.2.2.1 + 1)).tmod 4).toNat).take (1:Int).toNat).drop (0:Int).toNat)]).map cdS.enc)),p7,p6,p5],[p4,p3,p2,p1]⟩) ?_ ?_
  ·let p11:Option Blk:=mk 1 9 ([((((([97,98,99,100]:List UInt8).take (([97,98,99,100]:List UInt8).length:Int).toNat).drop (v6.2.2.1.tmod 4).toNat).take (1:Int).toNat).drop (0:Int).toNat)].map cdS.enc)
   let p12:Nat×AV:=(34,hd 3 ([((((([97,98,99,100]:List UInt8).take (([97,98,99,100]:List UInt8).length:Int).toNat).drop (v6.2.2.1.tmod 4).toNat).take (1:Int).toNat).drop (0:Int).toNat)].map cdS.enc))
   refine AF (n:=98) AC 5 [p10,(4,.st c3),p9,p8,p7,p6,p5,p12,(38,.v (.int .u8 ((wr .u8 (v6.2.2.1 + 1)).tmod 4)))] [p4,p3,p2,p11] kr ?_;refine A6 AC 0 rfl (Cw (AA rfl) rfl (EE (a:= .st [97,98,99,100]) (l:=(some (.v (.int .u8 ((wr .u8 (v6.2.2.1 + 1)).tmod 4))))) (u:=none) (m:=none) kr kr kr rfl (FY (bs:=[97,98,99,100]) (lo:=((wr .u8 (v6.2.2.1 + 1)).tmod 4)) (hi:=(([97,98,99,100]:List UInt8).length:Int)) kr (GR (Nn hk10)) rfl hk10))) ?_;refine A6 AC 0 rfl (Cw (AA rfl) rfl (EE (a:= .st ((([97,98,99,100]:List UInt8).take (([97,98,99,100]:List UInt8).length:Int).toNat).drop ((wr .u8 (v6.2.2.1 + 1)).tmod 4).toNat)) (l:=none) (u:=(some (.v (.int .i64 1)))) (m:=none) kr kr kr rfl (FY (bs:=((([97,98,99,100]:List UInt8).take (([97,98,99,100]:List UInt8).length:Int).toNat).drop ((wr .u8 (v6.2.2.1 + 1)).tmod 4).toNat)) (lo:=0) (hi:=(1:Int)) kr rfl (GR (JP hk11)) hk11))) ?_
   let p13:Option Blk:=mk 1 9 ([((((([97,98,99,100]:List UInt8).take (([97,98,99,100]:List UInt8).length:Int).toNat).drop ((wr .u8 (v6.2.2.1 + 1)).tmod 4).toNat).take (1:Int).toNat).drop (0:Int).toNat)].map cdS.enc)
   refine AF (n:=98) AC 1 [p10,(4,.st c3),p9,p8,p7,p6,p5,p12,(41,hd 4 ([((((([97,98,99,100]:List UInt8).take (([97,98,99,100]:List UInt8).length:Int).toNat).drop ((wr .u8 (v6.2.2.1 + 1)).tmod 4).toNat).take (1:Int).toNat).drop (0:Int).toNat)].map cdS.enc))] [p4,p3,p2,p11,p13] kr ?_;refine A6 AC 0 rfl (Q9 (AA rfl) rfl kr kr (FE (a:=hd 3 ([((((([97,98,99,100]:List UInt8).take (([97,98,99,100]:List UInt8).length:Int).toNat).drop (v6.2.2.1.tmod 4).toNat).take (1:Int).toNat).drop (0:Int).toNat)].map cdS.enc)) (b:=hd 4 ([((((([97,98,99,100]:List UInt8).take (([97,98,99,100]:List UInt8).length:Int).toNat).drop ((wr .u8 (v6.2.2.1 + 1)).tmod 4).toNat).take (1:Int).toNat).drop (0:Int).toNat)].map cdS.enc)) kr kr (NP (c:=cdS) (xs:=[((((([97,98,99,100]:List UInt8).take (([97,98,99,100]:List UInt8).length:Int).toNat).drop (v6.2.2.1.tmod 4).toNat).take (1:Int).toNat).drop (0:Int).toNat)]) (vs:=[((((([97,98,99,100]:List UInt8).take (([97,98,99,100]:List UInt8).length:Int).toNat).drop ((wr .u8 (v6.2.2.1 + 1)).tmod 4).toNat).take (1:Int).toNat).drop (0:Int).toNat)]) (k:=1) (bytes:=16) (el:=9) kr kr (NQ (t:=9) kr) (List.cons_ne_nil _ _) kr hk12))) ?_;refine AF (n:=98) AC 1 [p10,(4,.st c3),p9,p8,(8,hd 5 (([((((([97,98,99,100]:List UInt8).take (([97,98,99,100]:List UInt8).length:Int).toNat).drop (v6.2.2.1.tmod 4).toNat).take (1:Int).toNat).drop (0:Int).toNat)]++[((((([97,98,99,100]:List UInt8).take (([97,98,99,100]:List UInt8).length:Int).toNat).drop ((wr .u8 (v6.2.2.1 + 1)).tmod 4).toNat).take (1:Int).toNat).drop (0:Int).toNat)]).map cdS.enc)),p7,p6,p5] [p4,p3,p2,none,p13,p1] kr ?_;exact AR rfl (Az [0,1,2,5] ⟨⟨_,rfl,Dl⟩,⟨_,rfl,C8⟩,⟨_,rfl,C8⟩,⟨_,rfl,Dl⟩,trivial⟩ ⟨Dp (b':=0) kr kr,lv,lv,lv,Dp (b':=5) kr kr,lv,lv,lv,trivial⟩)
  have hq:=OI h; subst hq;exact ⟨rfl,(Az [0,1,2,3] ⟨⟨_,rfl,Dl⟩,⟨_,rfl,C8⟩,⟨_,rfl,C8⟩,⟨_,rfl,Dl⟩,trivial⟩ ⟨Dp (b':=0) kr kr,lv,lv,lv,Dp (b':=3) kr kr,lv,lv,lv,trivial⟩)⟩
 ·rw [Cg hb9] at h
  refine As ?_;have hq:=OI h; subst hq;exact ⟨rfl,(Az [0,1,2,3] ⟨⟨_,rfl,Dl⟩,⟨_,rfl,C8⟩,⟨_,rfl,C8⟩,⟨_,rfl,Dl⟩,trivial⟩ ⟨Dp (b':=0) kr kr,lv,lv,lv,Dp (b':=3) kr kr,lv,lv,lv,trivial⟩)⟩
theorem ND (x0:(List (Int×Int×Int×Bool×Bool))) (c3:(List UInt8)) (c4:Int) (j27:(List AE)×Int×Int×Int×Bool×Bool×Int×(List UInt8)×Bool×Int×(List (List UInt8))×Bool) (r:((List AE)×Int×Int×Int×Bool×Bool×Int×(List UInt8)×Bool×Int×(List (List UInt8)))) (h:Fs x0 c3 c4 j27=some r):Sem E0 ⟨none,false⟩ (pc Cq [1,1,1,0,1,0,0,1,1,0,0,1,1,1,1,0,1]) ⟨Fr 98 [(3,hd 0 (j27.1.map AB.enc)),(4,.st c3),(6,.pt 1 0 0),(7,.pt 2 0 0),(8,hd 3 (j27.2.2.2.2.2.2.2.2.2.2.1.map cdS.enc)),(13,.sl 5 (((x0.take (mnI (x0.length:Int) 8).toNat).drop (0:Int).toNat).map (cdA (csC (cdK .u8) (csC (cdK .u8) (csC (cdK .u8) (csC cdB (csE cdB))))) (fun _=>rfl)).enc)),(14,.v (.int .i64 (((x0.take (mnI (x0.length:Int) 8).toNat).drop (0:Int).toNat).length:Int))),(15,.v (.int .i64 c4)),(49,.v (.bool j27.2.2.2.2.2.2.2.2.2.2.2))],[mk 5 60 (j27.1.map AB.enc),some ⟨5,107,[.ag [.v (.int .u8 j27.2.1),.v (.int .u8 j27.2.2.1),.v (.int .u8 j27.2.2.2.1),.v (.bool j27.2.2.2.2.1),.v (.bool j27.2.2.2.2.2.1)]],false⟩,some ⟨5,60,[.ag [.v (.int .u8 j27.2.2.2.2.2.2.1),.st j27.2.2.2.2.2.2.2.1,.v (.bool j27.2.2.2.2.2.2.2.2.1),.e0,.v (.int .i64 j27.2.2.2.2.2.2.2.2.2.1)]],false⟩,mk 1 9 (j27.2.2.2.2.2.2.2.2.2.2.1.map cdS.enc)]⟩ (fun e s=>e = .normal/\Wk E0 s ⟨Fr 98 [(3,hd 0 (r.1.map AB.enc)),(4,.st c3),(6,.pt 1 0 0),(7,.pt 2 0 0),(8,hd 3 (r.2.2.2.2.2.2.2.2.2.2.map cdS.enc)),(13,.sl 5 (((x0.take (mnI (x0.length:Int) 8).toNat).drop (0:Int).toNat).map (cdA (csC (cdK .u8) (csC (cdK .u8) (csC (cdK .u8) (csC cdB (csE cdB))))) (fun _=>rfl)).enc)),(14,.v (.int .i64 (((x0.take (mnI (x0.length:Int) 8).toNat).drop (0:Int).toNat).length:Int))),(15,.v (.int .i64 c4))],[mk 5 60 (r.1.map AB.enc),some ⟨5,107,[.ag [.v (.int .u8 r.2.1),.v (.int .u8 r.2.2.1),.v (.int .u8 r.2.2.2.1),.v (.bool r.2.2.2.2.1),.v (.bool r.2.2.2.2.2.1)]],false⟩,some ⟨5,60,[.ag [.v (.int .u8 r.2.2.2.2.2.2.1),.st r.2.2.2.2.2.2.2.1,.v (.bool r.2.2.2.2.2.2.2.2.1),.e0,.v (.int .i64 r.2.2.2.2.2.2.2.2.2.1)]],false⟩,mk 1 9 (r.2.2.2.2.2.2.2.2.2.2.map cdS.enc)]⟩):=by
 unfold Fs at h;refine Ab (b:=j27.2.2.2.2.2.2.2.2.2.2.2) kr (fun hb28=>?_) (fun hb28=>?_)
 ·rw [if_pos hb28] at h
  refine Fb AC [(3,hd 0 (j27.1.map AB.enc)),(4,.st c3),(6,.pt 1 0 0),(7,.pt 2 0 0),(8,hd 3 (j27.2.2.2.2.2.2.2.2.2.2.1.map cdS.enc)),(13,.sl 5 (((x0.take (mnI (x0.length:Int) 8).toNat).drop (0:Int).toNat).map (cdA (csC (cdK .u8) (csC (cdK .u8) (csC (cdK .u8) (csC cdB (csE cdB))))) (fun _=>rfl)).enc)),(14,.v (.int .i64 (((x0.take (mnI (x0.length:Int) 8).toNat).drop (0:Int).toNat).length:Int))),(15,.v (.int .i64 c4))] [mk 5 60 (j27.1.map AB.enc),some ⟨5,107,[.ag [.v (.int .u8 j27.2.1),.v (.int .u8 j27.2.2.1),.v (.int .u8 j27.2.2.2.1),.v (.bool j27.2.2.2.2.1),.v (.bool j27.2.2.2.2.2.1)]],false⟩,some ⟨5,60,[.ag [.v (.int .u8 j27.2.2.2.2.2.2.1),.st c3,.v (.bool j27.2.2.2.2.2.2.2.2.1),.e0,.v (.int .i64 j27.2.2.2.2.2.2.2.2.2.1)]],false⟩,mk 1 9 (j27.2.2.2.2.2.2.2.2.2.2.1.map cdS.enc)] ?_;have hq:=OI h; subst hq;exact ⟨rfl,(Az [0,1,2,3] ⟨⟨_,rfl,Dl⟩,⟨_,rfl,C8⟩,⟨_,rfl,C8⟩,⟨_,rfl,Dl⟩,trivial⟩ ⟨Dp (b':=0) kr kr,lv,lv,lv,Dp (b':=3) kr kr,lv,lv,lv,trivial⟩)⟩
 ·rw [Cg hb28] at h
  refine As ?_;have hq:=OI h; subst hq;exact ⟨rfl,(Az [0,1,2,3] ⟨⟨_,rfl,Dl⟩,⟨_,rfl,C8⟩,⟨_,rfl,C8⟩,⟨_,rfl,Dl⟩,trivial⟩ ⟨Dp (b':=0) kr kr,lv,lv,lv,Dp (b':=3) kr kr,lv,lv,lv,trivial⟩)⟩
theorem Mf (x0:(List (Int×Int×Int×Bool×Bool))) (c3:(List UInt8)) (c4:Int) (r40:(List AE)×Int×Int×Int×Bool×Bool×Int×(List UInt8)×Bool×Int×(List (List UInt8))) (r:(Bool)) (h:JD x0 c3 c4 r40=some r):Sem E0 ⟨none,false⟩ (pc Cq [1,1,1,0,1,0,0,1,1,0,0,1,1,1,1,1,0,1,0,1,1,1,1,1,1,0,1]) ⟨Fr 98 [(3,hd 0 (r40.1.map AB.enc)),(4,.st c3),(6,.pt 1 0 0),(7,.pt 2 0 0),(8,hd 3 (r40.2.2.2.2.2.2.2.2.2.2.map cdS.enc)),(13,.sl 5 (((x0.take (mnI (x0.length:Int) 8).toNat).drop (0:Int).toNat).map (cdA (csC (cdK .u8) (csC (cdK .u8) (csC (cdK .u8) (csC cdB (csE cdB))))) (fun _=>rfl)).enc)),(14,.v (.int .i64 (((x0.take (mnI (x0.length:Int) 8).toNat).drop (0:Int).toNat).length:Int))),(15,.v (.int .i64 c4)),(53,.v (.int .u8 r40.2.2.2.2.2.2.1)),(77,.v (.bool (r40.2.2.2.2.2.2.1==6)))],[mk 5 60 (r40.1.map AB.enc),some ⟨5,107,[.ag [.v (.int .u8 r40.2.1),.v (.int .u8 r40.2.2.1),.v (.int .u8 r40.2.2.2.1),.v (.bool r40.2.2.2.2.1),.v (.bool r40.2.2.2.2.2.1)]],false⟩,some ⟨5,60,[.ag [.v (.int .u8 r40.2.2.2.2.2.2.1),.st r40.2.2.2.2.2.2.2.1,.v (.bool r40.2.2.2.2.2.2.2.2.1),.e0,.v (.int .i64 r40.2.2.2.2.2.2.2.2.2.1)]],false⟩,mk 1 9 (r40.2.2.2.2.2.2.2.2.2.2.map cdS.enc)]⟩ (fun e s=>e = .normal/\Wk E0 s ⟨Fr 98 [(3,hd 0 (r40.1.map AB.enc)),(4,.st c3),(6,.pt 1 0 0),(7,.pt 2 0 0),(8,hd 3 (r40.2.2.2.2.2.2.2.2.2.2.map cdS.enc)),(13,.sl 5 (((x0.take (mnI (x0.length:Int) 8).toNat).drop (0:Int).toNat).map (cdA (csC (cdK .u8) (csC (cdK .u8) (csC (cdK .u8) (csC cdB (csE cdB))))) (fun _=>rfl)).enc)),(14,.v (.int .i64 (((x0.take (mnI (x0.length:Int) 8).toNat).drop (0:Int).toNat).length:Int))),(15,.v (.int .i64 c4)),(53,.v (.int .u8 r40.2.2.2.2.2.2.1)),(77,.v (.bool r))],[mk 5 60 (r40.1.map AB.enc),some ⟨5,107,[.ag [.v (.int .u8 r40.2.1),.v (.int .u8 r40.2.2.1),.v (.int .u8 r40.2.2.2.1),.v (.bool r40.2.2.2.2.1),.v (.bool r40.2.2.2.2.2.1)]],false⟩,some ⟨5,60,[.ag [.v (.int .u8 r40.2.2.2.2.2.2.1),.st r40.2.2.2.2.2.2.2.1,.v (.bool r40.2.2.2.2.2.2.2.2.1),.e0,.v (.int .i64 r40.2.2.2.2.2.2.2.2.2.1)]],false⟩,mk 1 9 (r40.2.2.2.2.2.2.2.2.2.2.map cdS.enc)]⟩):=by
 unfold JD at h;refine Ab (b:=(r40.2.2.2.2.2.2.1==6)) kr (fun hb1720=>?_) (fun hb1720=>?_)
 ·rw [if_pos hb1720] at h
  refine As ?_;have hq:=OI h; subst hq;exact ⟨rfl,(Az [0,1,2,3] ⟨⟨_,rfl,Dl⟩,⟨_,rfl,C8⟩,⟨_,rfl,C8⟩,⟨_,rfl,Dl⟩,trivial⟩ ⟨Dp (b':=0) kr kr,lv,lv,lv,Dp (b':=3) kr kr,lv,lv,lv,lv,lv,trivial⟩)⟩
 ·rw [Cg hb1720] at h
  refine Fb AC [(3,hd 0 (r40.1.map AB.enc)),(4,.st c3),(6,.pt 1 0 0),(7,.pt 2 0 0),(8,hd 3 (r40.2.2.2.2.2.2.2.2.2.2.map cdS.enc)),(13,.sl 5 (((x0.take (mnI (x0.length:Int) 8).toNat).drop (0:Int).toNat).map (cdA (csC (cdK .u8) (csC (cdK .u8) (csC (cdK .u8) (csC cdB (csE cdB))))) (fun _=>rfl)).enc)),(14,.v (.int .i64 (((x0.take (mnI (x0.length:Int) 8).toNat).drop (0:Int).toNat).length:Int))),(15,.v (.int .i64 c4)),(53,.v (.int .u8 r40.2.2.2.2.2.2.1)),(77,.v (.bool (r40.2.2.2.2.2.2.1==7)))] [mk 5 60 (r40.1.map AB.enc),some ⟨5,107,[.ag [.v (.int .u8 r40.2.1),.v (.int .u8 r40.2.2.1),.v (.int .u8 r40.2.2.2.1),.v (.bool r40.2.2.2.2.1),.v (.bool r40.2.2.2.2.2.1)]],false⟩,some ⟨5,60,[.ag [.v (.int .u8 r40.2.2.2.2.2.2.1),.st r40.2.2.2.2.2.2.2.1,.v (.bool r40.2.2.2.2.2.2.2.2.1),.e0,.v (.int .i64 r40.2.2.2.2.2.2.2.2.2.1)]],false⟩,mk 1 9 (r40.2.2.2.2.2.2.2.2.2.2.map cdS.enc)] ?_;have hq:=OI h; subst hq;exact ⟨rfl,(Az [0,1,2,3] ⟨⟨_,rfl,Dl⟩,⟨_,rfl,C8⟩,⟨_,rfl,C8⟩,⟨_,rfl,Dl⟩,trivial⟩ ⟨Dp (b':=0) kr kr,lv,lv,lv,Dp (b':=3) kr kr,lv,lv,lv,lv,lv,trivial⟩)⟩
theorem Mh (x0:(List (Int×Int×Int×Bool×Bool))) (c3:(List UInt8)) (c4:Int) (r40:(List AE)×Int×Int×Int×Bool×Bool×Int×(List UInt8)×Bool×Int×(List (List UInt8))) (r:((List AE)×Int×(List UInt8)×Bool×Int)) (h:JF x0 c3 c4 r40=some r):Sem E0 ⟨none,false⟩ (pc Cq [1,1,1,0,1,0,0,1,1,0,0,1,1,1,1,1,0,1,0,1,1,1,1,1,1,1,1,1]) ⟨Fr 98 [(3,hd 0 (r40.1.map AB.enc)),(4,.st c3),(6,.pt 1 0 0),(7,.pt 2 0 0),(13,.sl 5 (((x0.take (mnI (x0.length:Int) 8).toNat).drop (0:Int).toNat).map (cdA (csC (cdK .u8) (csC (cdK .u8) (csC (cdK .u8) (csC cdB (csE cdB))))) (fun _=>rfl)).enc)),(14,.v (.int .i64 (((x0.take (mnI (x0.length:Int) 8).toNat).drop (0:Int).toNat).length:Int))),(15,.v (.int .i64 c4)),(85,.v (.bool (r40.2.2.2.2.2.2.1==10)))],[mk 5 60 (r40.1.map AB.enc),some ⟨5,107,[.ag [.v (.int .u8 r40.2.1),.v (.int .u8 r40.2.2.1),.v (.int .u8 r40.2.2.2.1),.v (.bool r40.2.2.2.2.1),.v (.bool r40.2.2.2.2.2.1)]],false⟩,some ⟨5,60,[.ag [.v (.int .u8 r40.2.2.2.2.2.2.1),.st r40.2.2.2.2.2.2.2.1,.v (.bool r40.2.2.2.2.2.2.2.2.1),.e0,.v (.int .i64 r40.2.2.2.2.2.2.2.2.2.1)]],false⟩]⟩ (fun e s=>e = .normal/\Wk E0 s ⟨Fr 98 [(3,hd 0 (r.1.map AB.enc)),(4,.st c3),(7,.pt 1 0 0),(13,.sl 5 (((x0.take (mnI (x0.length:Int) 8).toNat).drop (0:Int).toNat).map (cdA (csC (cdK .u8) (csC (cdK .u8) (csC (cdK .u8) (csC cdB (csE cdB))))) (fun _=>rfl)).enc)),(14,.v (.int .i64 (((x0.take (mnI (x0.length:Int) 8).toNat).drop (0:Int).toNat).length:Int))),(15,.v (.int .i64 c4))],[mk 5 60 (r.1.map AB.enc),some ⟨5,60,[.ag [.v (.int .u8 r.2.1),.st r.2.2.1,.v (.bool r.2.2.2.1),.e0,.v (.int .i64 r.2.2.2.2)]],false⟩]⟩):=by
 unfold JF at h;refine Ab (b:=(r40.2.2.2.2.2.2.1==10)) kr (fun hb2050=>?_) (fun hb2050=>?_)
 ·rw [if_pos hb2050] at h
  let p1:Option Blk:=some ⟨5,60,[.ag [.v (.int .u8 r40.2.2.2.2.2.2.1),.st r40.2.2.2.2.2.2.2.1,.v (.bool r40.2.2.2.2.2.2.2.2.1),.e0,.v (.int .i64 (wr .i64 (r40.2.2.1.tmod 64)))]],false⟩
  let p2:Nat×AV:=(14,.v (.int .i64 (((x0.take (mnI (x0.length:Int) 8).toNat).drop (0:Int).toNat).length:Int)))
  let p3:Nat×AV:=(13,.sl 5 (((x0.take (mnI (x0.length:Int) 8).toNat).drop (0:Int).toNat).map (cdA (csC (cdK .u8) (csC (cdK .u8) (csC (cdK .u8) (csC cdB (csE cdB))))) (fun _=>rfl)).enc))
  let p4:Nat×AV:=(3,hd 0 (r40.1.map AB.enc))
  refine AS (s1:=⟨Fr 98 [p4,(4,.st c3),(7,.pt 1 0 0),p3,p2,(15,.v (.int .i64 c4))],[mk 5 60 (r40.1.map AB.enc),p1]⟩) ?_ ?_
  ·refine AF (n:=98) AC 6 [p4,(4,.st c3),(7,.pt 2 0 0),p3,p2,(15,.v (.int .i64 c4))] [mk 5 60 (r40.1.map AB.enc),some ⟨5,107,[.ag [.v (.int .u8 r40.2.1),.v (.int .u8 r40.2.2.1),.v (.int .u8 r40.2.2.2.1),.v (.bool r40.2.2.2.2.1),.v (.bool r40.2.2.2.2.2.1)]],false⟩,p1] kr ?_
   exact AR rfl (Az [0,2] ⟨⟨_,rfl,Dl⟩,⟨_,rfl,C8⟩,trivial⟩ ⟨Dp (b':=0) kr kr,lv,lv,lv,lv,lv,trivial⟩)
  have hq:=OI h; subst hq;exact ⟨rfl,(Az [0,1] ⟨⟨_,rfl,Dl⟩,⟨_,rfl,C8⟩,trivial⟩ ⟨Dp (b':=0) kr kr,lv,lv,lv,lv,lv,trivial⟩)⟩
 ·rw [Cg hb2050] at h
  refine As ?_;have hq:=OI h; subst hq;exact ⟨rfl,(Az [0,2] ⟨⟨_,rfl,Dl⟩,⟨_,rfl,C8⟩,trivial⟩ ⟨Dp (b':=0) kr kr,lv,lv,lv,lv,lv,trivial⟩)⟩
theorem Mg (x0:(List (Int×Int×Int×Bool×Bool))) (c3:(List UInt8)) (c4:Int) (r40:(List AE)×Int×Int×Int×Bool×Bool×Int×(List UInt8)×Bool×Int×(List (List UInt8))) (r1722:Bool) (r:((List AE)×Int×(List UInt8)×Bool×(List (List UInt8))×Int)) (h:JE x0 c3 c4 r40 r1722=some r):Sem E0 ⟨none,false⟩ (pc Cq [1,1,1,0,1,0,0,1,1,0,0,1,1,1,1,1,0,1,0,1,1,1,1,1,1,1]) ⟨Fr 98 [(3,hd 0 (r40.1.map AB.enc)),(4,.st c3),(6,.pt 1 0 0),(7,.pt 2 0 0),(8,hd 3 (r40.2.2.2.2.2.2.2.2.2.2.map cdS.enc)),(13,.sl 5 (((x0.take (mnI (x0.length:Int) 8).toNat).drop (0:Int).toNat).map (cdA (csC (cdK .u8) (csC (cdK .u8) (csC (cdK .u8) (csC cdB (csE cdB))))) (fun _=>rfl)).enc)),(14,.v (.int .i64 (((x0.take (mnI (x0.length:Int) 8).toNat).drop (0:Int).toNat).length:Int))),(15,.v (.int .i64 c4)),(53,.v (.int .u8 r40.2.2.2.2.2.2.1)),(77,.v (.bool r1722))],[mk 5 60 (r40.1.map AB.enc),some ⟨5,107,[.ag [.v (.int .u8 r40.2.1),.v (.int .u8 r40.2.2.1),.v (.int .u8 r40.2.2.2.1),.v (.bool r40.2.2.2.2.1),.v (.bool r40.2.2.2.2.2.1)]],false⟩,some ⟨5,60,[.ag [.v (.int .u8 r40.2.2.2.2.2.2.1),.st r40.2.2.2.2.2.2.2.1,.v (.bool r40.2.2.2.2.2.2.2.2.1),.e0,.v (.int .i64 r40.2.2.2.2.2.2.2.2.2.1)]],false⟩,mk 1 9 (r40.2.2.2.2.2.2.2.2.2.2.map cdS.enc)]⟩ (fun e s=>e = .normal/\Wk E0 s ⟨Fr 98 [(3,hd 0 (r.1.map AB.enc)),(4,.st c3),(7,.pt 1 0 0),(13,.sl 5 (((x0.take (mnI (x0.length:Int) 8).toNat).drop (0:Int).toNat).map (cdA (csC (cdK .u8) (csC (cdK .u8) (csC (cdK .u8) (csC cdB (csE cdB))))) (fun _=>rfl)).enc)),(14,.v (.int .i64 (((x0.take (mnI (x0.length:Int) 8).toNat).drop (0:Int).toNat).length:Int))),(15,.v (.int .i64 c4))],[mk 5 60 (r.1.map AB.enc),some ⟨5,60,[AB.enc r.2],false⟩]⟩):=by
 unfold JE at h;refine Ab (b:=r1722) kr (fun hb1723=>?_) (fun hb1723=>?_)
 ·rw [if_pos hb1723] at h
  let p1:Option Blk:=some ⟨5,60,[.ag [.v (.int .u8 r40.2.2.2.2.2.2.1),.st r40.2.2.2.2.2.2.2.1,.v (.bool r40.2.2.2.2.1),.sl 1 (r40.2.2.2.2.2.2.2.2.2.2.map cdS.enc),.v (.int .i64 r40.2.2.2.2.2.2.2.2.2.1)]],false⟩
  let p2:Option Blk:=mk 5 60 (r40.1.map AB.enc)
  let p3:Nat×AV:=(15,.v (.int .i64 c4))
  let p4:Nat×AV:=(14,.v (.int .i64 (((x0.take (mnI (x0.length:Int) 8).toNat).drop (0:Int).toNat).length:Int)))
  let p5:Nat×AV:=(13,.sl 5 (((x0.take (mnI (x0.length:Int) 8).toNat).drop (0:Int).toNat).map (cdA (csC (cdK .u8) (csC (cdK .u8) (csC (cdK .u8) (csC cdB (csE cdB))))) (fun _=>rfl)).enc))
  let p6:Nat×AV:=(3,hd 0 (r40.1.map AB.enc))
  refine Ry (s1:=⟨Fr 98 [p6,(4,.st c3),(7,.pt 1 0 0),p5,p4,p3],[p2,p1]⟩) AC 7 kr ?_ ?_
  ·refine RunA.q 0 kr rfl ?_
   let p7:Option Blk:=mk 1 9 (r40.2.2.2.2.2.2.2.2.2.2.map cdS.enc)
   let p8:Option Blk:=some ⟨5,60,[.ag [.v (.int .u8 r40.2.2.2.2.2.2.1),.st r40.2.2.2.2.2.2.2.1,.v (.bool r40.2.2.2.2.2.2.2.2.1),.e0,.v (.int .i64 r40.2.2.2.2.2.2.2.2.2.1)]],false⟩
   let p9:Option Blk:=some ⟨5,107,[.ag [.v (.int .u8 r40.2.1),.v (.int .u8 r40.2.2.1),.v (.int .u8 r40.2.2.2.1),.v (.bool r40.2.2.2.2.1),.v (.bool r40.2.2.2.2.2.1)]],false⟩
   let p10:Nat×AV:=(80,hd 3 (r40.2.2.2.2.2.2.2.2.2.2.map cdS.enc))
   let p11:Nat×AV:=(7,.pt 2 0 0)
   refine RunS.only (n:=98) AC [p6,(4,.st c3),(6,.pt 1 0 0),p11,p5,p4,p3,p10] [p2,p9,p8,p7] kr ?_;refine RunA.q 1 kr rfl ?_
   let p12:Nat×AV:=(81,.pt 1 0 3)
   refine RunS.only (n:=98) AC [p6,(4,.st c3),p11,p5,p4,p3,p10,p12] [p2,p9,p8,p7] kr ?_;refine RunA.q 3 kr rfl ?_
   let p13:Nat×AV:=(83,.pt 2 0 3)
   refine RunS.only (n:=98) AC [p6,(4,.st c3),p11,p5,p4,p3,p10,p12,p13] [p2,p9,p8,p7] kr ?_;refine Nd 2 4 kr rfl rfl ?_ ?_
   ·let p14:Nat×AV:=(82,.v (.bool r40.2.2.2.2.1))
    refine RunS.only (n:=98) AC [p6,(4,.st c3),p11,p5,p4,p3,p10,p14,p13] [p2,p9,p8,p7] kr ?_;refine Ef 4 kr rfl ?_;refine PX (s1:=⟨Fr 98 [p6,(4,.st c3),p11,p5,p4,p3,(80,.sl 1 (r40.2.2.2.2.2.2.2.2.2.2.map cdS.enc)),p14,p13],[p2,p9,p8,none]⟩) (LJ 3 (.inl kr) ⟨.inr (.inl rfl),.inr (.inr ⟨_,_,_,_,rfl,rfl,⟨.inl rfl,trivial⟩⟩),.inr (.inr ⟨_,_,_,_,rfl,rfl,⟨.inl rfl,trivial⟩⟩),.inl rfl,trivial⟩ ⟨⟨hd 0 (r40.1.map AB.enc),kr,.inl rfl⟩,⟨.st c3,kr,.inl rfl⟩,⟨.pt 2 0 0,kr,.inl rfl⟩,⟨.sl 5 (((x0.take (mnI (x0.length:Int) 8).toNat).drop (0:Int).toNat).map (cdA (csC (cdK .u8) (csC (cdK .u8) (csC (cdK .u8) (csC cdB (csE cdB))))) (fun _=>rfl)).enc),kr,.inl rfl⟩,⟨.v (.int .i64 (((x0.take (mnI (x0.length:Int) 8).toNat).drop (0:Int).toNat).length:Int)),kr,.inl rfl⟩,⟨.v (.int .i64 c4),kr,.inl rfl⟩,⟨hd 3 (r40.2.2.2.2.2.2.2.2.2.2.map cdS.enc),kr,RT (t:=9) kr Lx⟩,⟨.v (.bool r40.2.2.2.2.1),kr,.inl rfl⟩,⟨.pt 2 0 3,kr,.inl rfl⟩,trivial⟩) ?_
    let p15:Option Blk:=some ⟨5,60,[.ag [.v (.int .u8 r40.2.2.2.2.2.2.1),.st r40.2.2.2.2.2.2.2.1,.v (.bool r40.2.2.2.2.2.2.2.2.1),.sl 1 (r40.2.2.2.2.2.2.2.2.2.2.map cdS.enc),.v (.int .i64 r40.2.2.2.2.2.2.2.2.2.1)]],false⟩
    refine RunS.only (n:=98) AC [p6,(4,.st c3),p11,p5,p4,p3,p14] [p2,p9,p15,none] kr ?_;refine RunA.q 5 kr rfl ?_;refine RunS.only (n:=98) AC [p6,(4,.st c3),p11,p5,p4,p3,p14,(84,.pt 2 0 2)] [p2,p9,p15,none] kr ?_;refine Ef 6 kr rfl ?_;refine RunS.only (n:=98) AC [p6,(4,.st c3),p11,p5,p4,p3] [p2,p9,p1,none] kr ?_;exact RunA.done kr (Az [0,2] ⟨⟨_,rfl,Dl⟩,⟨_,rfl,C8⟩,trivial⟩ ⟨Dp (b':=0) kr kr,lv,lv,lv,lv,lv,trivial⟩)
   ·refine PX (s1:=⟨Fr 98 [p6,(4,.st c3),p11,p5,p4,p3,(80,.sl 1 (r40.2.2.2.2.2.2.2.2.2.2.map cdS.enc)),p12,p13],[p2,p9,p8,none]⟩) (LJ 3 (.inl kr) ⟨.inr (.inl rfl),.inr (.inr ⟨_,_,_,_,rfl,rfl,⟨.inl rfl,trivial⟩⟩),.inr (.inr ⟨_,_,_,_,rfl,rfl,⟨.inl rfl,trivial⟩⟩),.inl rfl,trivial⟩ ⟨⟨hd 0 (r40.1.map AB.enc),kr,.inl rfl⟩,⟨.st c3,kr,.inl rfl⟩,⟨.pt 2 0 0,kr,.inl rfl⟩,⟨.sl 5 (((x0.take (mnI (x0.length:Int) 8).toNat).drop (0:Int).toNat).map (cdA (csC (cdK .u8) (csC (cdK .u8) (csC (cdK .u8) (csC cdB (csE cdB))))) (fun _=>rfl)).enc),kr,.inl rfl⟩,⟨.v (.int .i64 (((x0.take (mnI (x0.length:Int) 8).toNat).drop (0:Int).toNat).length:Int)),kr,.inl rfl⟩,⟨.v (.int .i64 c4),kr,.inl rfl⟩,⟨hd 3 (r40.2.2.2.2.2.2.2.2.2.2.map cdS.enc),kr,RT (t:=9) kr Lx⟩,⟨.pt 1 0 3,kr,.inl rfl⟩,⟨.pt 2 0 3,kr,.inl rfl⟩,trivial⟩) ?_
    let p16:Option Blk:=some ⟨5,60,[.ag [.v (.int .u8 r40.2.2.2.2.2.2.1),.st r40.2.2.2.2.2.2.2.1,.v (.bool r40.2.2.2.2.2.2.2.2.1),.sl 1 (r40.2.2.2.2.2.2.2.2.2.2.map cdS.enc),.v (.int .i64 r40.2.2.2.2.2.2.2.2.2.1)]],false⟩
    refine RunS.only (n:=98) AC [p6,(4,.st c3),p11,p5,p4,p3,p12] [p2,p9,p16,none] kr ?_;refine Ef 2 kr rfl ?_;refine RunS.only (n:=98) AC [p6,(4,.st c3),p11,p5,p4,p3,(82,.v (.bool r40.2.2.2.2.1))] [p2,p9,p16,none] kr ?_;refine RunA.q 5 kr rfl ?_;refine RunS.only (n:=98) AC [p6,(4,.st c3),p11,p5,p4,p3,(82,.v (.bool r40.2.2.2.2.1)),(84,.pt 2 0 2)] [p2,p9,p16,none] kr ?_;refine Ef 6 kr rfl ?_;refine RunS.only (n:=98) AC [p6,(4,.st c3),p11,p5,p4,p3] [p2,p9,p1,none] kr ?_;exact RunA.done kr (Az [0,2] ⟨⟨_,rfl,Dl⟩,⟨_,rfl,C8⟩,trivial⟩ ⟨Dp (b':=0) kr kr,lv,lv,lv,lv,lv,trivial⟩)
  have hq:=OI h; subst hq;exact ⟨rfl,(Az [0,1] ⟨⟨_,rfl,Dl⟩,⟨_,rfl,C8⟩,trivial⟩ ⟨Dp (b':=0) kr kr,lv,lv,lv,lv,lv,trivial⟩)⟩
 ·rw [Cg hb1723] at h
  refine AJ ?_
  let p17:Option Blk:=some ⟨5,60,[.ag [.v (.int .u8 r40.2.2.2.2.2.2.1),.st r40.2.2.2.2.2.2.2.1,.v (.bool r40.2.2.2.2.2.2.2.2.1),.e0,.v (.int .i64 r40.2.2.2.2.2.2.2.2.2.1)]],false⟩
  let p18:Option Blk:=some ⟨5,107,[.ag [.v (.int .u8 r40.2.1),.v (.int .u8 r40.2.2.1),.v (.int .u8 r40.2.2.2.1),.v (.bool r40.2.2.2.2.1),.v (.bool r40.2.2.2.2.2.1)]],false⟩
  let p19:Nat×AV:=(85,.v (.bool (r40.2.2.2.2.2.2.1==10)))
  let p20:Nat×AV:=(15,.v (.int .i64 c4))
  let p21:Nat×AV:=(14,.v (.int .i64 (((x0.take (mnI (x0.length:Int) 8).toNat).drop (0:Int).toNat).length:Int)))
  let p22:Nat×AV:=(13,.sl 5 (((x0.take (mnI (x0.length:Int) 8).toNat).drop (0:Int).toNat).map (cdA (csC (cdK .u8) (csC (cdK .u8) (csC (cdK .u8) (csC cdB (csE cdB))))) (fun _=>rfl)).enc))
  let p23:Nat×AV:=(3,hd 0 (r40.1.map AB.enc))
  refine AS (s1:=⟨Fr 98 [p23,(4,.st c3),(6,.pt 1 0 0),(7,.pt 2 0 0),p22,p21,p20,p19],[mk 5 60 (r40.1.map AB.enc),p18,p17]⟩) ?_ ?_
  ·refine AF (n:=98) AC 2 [p23,(4,.st c3),(6,.pt 1 0 0),(7,.pt 2 0 0),p22,p21,p20,p19] [mk 5 60 (r40.1.map AB.enc),p18,p17,mk 1 9 (r40.2.2.2.2.2.2.2.2.2.2.map cdS.enc)] kr ?_
   exact AR rfl (Az [0,1,2] ⟨⟨_,rfl,Dl⟩,⟨_,rfl,C8⟩,⟨_,rfl,C8⟩,trivial⟩ ⟨Dp (b':=0) kr kr,lv,lv,lv,lv,lv,lv,lv,trivial⟩)
  obtain ⟨r2056,hr2056,h⟩:=OB h;refine DE (Mh x0 c3 c4 r40 _ hr2056) ?_;have hq:=OI h; subst hq
  let p24:Option Blk:=mk 5 60 (r2056.1.map AB.enc)
  let p25:Nat×AV:=(3,hd 0 (r2056.1.map AB.enc))
  let p26:Option Blk:=some ⟨5,60,[.ag [.v (.int .u8 r2056.2.1),.st r2056.2.2.1,.v (.bool r2056.2.2.2.1),.e0,.v (.int .i64 r2056.2.2.2.2)]],false⟩
  exact ⟨rfl,(Wk.trans (s1:=⟨Fr 98 [p25,(4,.st c3),(7,.pt 1 0 0),p22,p21,p20],[p24,p26]⟩) AZ (Wk.trans (s1:=⟨Fr 98 [p25,(4,.st c3),(7,.pt 1 0 0),p22,p21,p20],[p24,p26,none]⟩) Wk.none (Wk.trans (s1:=⟨Fr 98 [p25,(4,.st c3),(7,.pt 1 0 0),p22,p21,p20],[p24,some ⟨5,60,[.ag [.v (.int .u8 r2056.2.1),.st r2056.2.2.1,.v (.bool r2056.2.2.2.1),.sl 1 ([].map cdS.enc),.v (.int .i64 r2056.2.2.2.2)]],false⟩,none]⟩) (NO 2 (.inr kr) ⟨.inr (.inl rfl),.inr (.inr ⟨_,_,_,_,rfl,rfl,⟨(.inr ⟨_,_,rfl,rfl,⟨.inl rfl,.inl rfl,.inl rfl,Tr,.inl rfl,trivial⟩⟩),trivial⟩⟩),.inl rfl,trivial⟩ ⟨⟨hd 0 (r2056.1.map AB.enc),kr,(.inl (.inl rfl))⟩,⟨.st c3,kr,(.inl (.inl rfl))⟩,⟨.pt 1 0 0,kr,(.inl (.inl rfl))⟩,⟨.sl 5 (((x0.take (mnI (x0.length:Int) 8).toNat).drop (0:Int).toNat).map (cdA (csC (cdK .u8) (csC (cdK .u8) (csC (cdK .u8) (csC cdB (csE cdB))))) (fun _=>rfl)).enc),kr,(.inl (.inl rfl))⟩,⟨.v (.int .i64 (((x0.take (mnI (x0.length:Int) 8).toNat).drop (0:Int).toNat).length:Int)),kr,(.inl (.inl rfl))⟩,⟨.v (.int .i64 c4),kr,(.inl (.inl rfl))⟩,trivial⟩) (Az [0,1] ⟨⟨_,rfl,Dl⟩,⟨_,rfl,C8⟩,trivial⟩ ⟨Dp (b':=0) kr kr,lv,lv,lv,lv,lv,trivial⟩))))⟩
theorem Me (x0:(List (Int×Int×Int×Bool×Bool))) (c3:(List UInt8)) (c4:Int) (r40:(List AE)×Int×Int×Int×Bool×Bool×Int×(List UInt8)×Bool×Int×(List (List UInt8))) (r:((List AE)×Int×(List UInt8)×Bool×(List (List UInt8))×Int)) (h:JC x0 c3 c4 r40=some r):Sem E0 ⟨none,false⟩ (pc Cq [1,1,1,0,1,0,0,1,1,0,0,1,1,1,1,1,0,1,0,1,1,1,1,1]) ⟨Fr 98 [(3,hd 0 (r40.1.map AB.enc)),(4,.st c3),(6,.pt 1 0 0),(7,.pt 2 0 0),(8,hd 3 (r40.2.2.2.2.2.2.2.2.2.2.map cdS.enc)),(13,.sl 5 (((x0.take (mnI (x0.length:Int) 8).toNat).drop (0:Int).toNat).map (cdA (csC (cdK .u8) (csC (cdK .u8) (csC (cdK .u8) (csC cdB (csE cdB))))) (fun _=>rfl)).enc)),(14,.v (.int .i64 (((x0.take (mnI (x0.length:Int) 8).toNat).drop (0:Int).toNat).length:Int))),(15,.v (.int .i64 c4)),(53,.v (.int .u8 r40.2.2.2.2.2.2.1)),(72,.v (.bool (r40.2.2.2.2.2.2.1==5)))],[mk 5 60 (r40.1.map AB.enc),some ⟨5,107,[.ag [.v (.int .u8 r40.2.1),.v (.int .u8 r40.2.2.1),.v (.int .u8 r40.2.2.2.1),.v (.bool r40.2.2.2.2.1),.v (.bool r40.2.2.2.2.2.1)]],false⟩,some ⟨5,60,[.ag [.v (.int .u8 r40.2.2.2.2.2.2.1),.st r40.2.2.2.2.2.2.2.1,.v (.bool r40.2.2.2.2.2.2.2.2.1),.e0,.v (.int .i64 r40.2.2.2.2.2.2.2.2.2.1)]],false⟩,mk 1 9 (r40.2.2.2.2.2.2.2.2.2.2.map cdS.enc)]⟩ (fun e s=>e = .normal/\Wk E0 s ⟨Fr 98 [(3,hd 0 (r.1.map AB.enc)),(4,.st c3),(7,.pt 1 0 0),(13,.sl 5 (((x0.take (mnI (x0.length:Int) 8).toNat).drop (0:Int).toNat).map (cdA (csC (cdK .u8) (csC (cdK .u8) (csC (cdK .u8) (csC cdB (csE cdB))))) (fun _=>rfl)).enc)),(14,.v (.int .i64 (((x0.take (mnI (x0.length:Int) 8).toNat).drop (0:Int).toNat).length:Int))),(15,.v (.int .i64 c4))],[mk 5 60 (r.1.map AB.enc),some ⟨5,60,[AB.enc r.2],false⟩]⟩):=by
 unfold JC at h;refine Ab (b:=(r40.2.2.2.2.2.2.1==5)) kr (fun hb1713=>?_) (fun hb1713=>?_)
 ·rw [if_pos hb1713] at h
  let p1:Option Blk:=some ⟨5,60,[.ag [.v (.int .u8 r40.2.2.2.2.2.2.1),.st r40.2.2.2.2.2.2.2.1,.v (.bool r40.2.2.2.2.1),.e0,.v (.int .i64 r40.2.2.2.2.2.2.2.2.2.1)]],false⟩
  let p2:Option Blk:=mk 5 60 (r40.1.map AB.enc)
  let p3:Nat×AV:=(15,.v (.int .i64 c4))
  let p4:Nat×AV:=(14,.v (.int .i64 (((x0.take (mnI (x0.length:Int) 8).toNat).drop (0:Int).toNat).length:Int)))
  let p5:Nat×AV:=(13,.sl 5 (((x0.take (mnI (x0.length:Int) 8).toNat).drop (0:Int).toNat).map (cdA (csC (cdK .u8) (csC (cdK .u8) (csC (cdK .u8) (csC cdB (csE cdB))))) (fun _=>rfl)).enc))
  let p6:Nat×AV:=(7,.pt 1 0 0)
  let p7:Nat×AV:=(3,hd 0 (r40.1.map AB.enc))
  refine AS (s1:=⟨Fr 98 [p7,(4,.st c3),p6,p5,p4,p3],[p2,p1]⟩) ?_ ?_
  ·refine AF (n:=98) AC 4 [p7,(4,.st c3),(7,.pt 2 0 0),p5,p4,p3] [p2,some ⟨5,107,[.ag [.v (.int .u8 r40.2.1),.v (.int .u8 r40.2.2.1),.v (.int .u8 r40.2.2.2.1),.v (.bool r40.2.2.2.2.1),.v (.bool r40.2.2.2.2.2.1)]],false⟩,p1,mk 1 9 (r40.2.2.2.2.2.2.2.2.2.2.map cdS.enc)] kr ?_
   exact AR rfl (Az [0,2] ⟨⟨_,rfl,Dl⟩,⟨_,rfl,C8⟩,trivial⟩ ⟨Dp (b':=0) kr kr,lv,lv,lv,lv,lv,trivial⟩)
  have hq:=OI h; subst hq;exact ⟨rfl,(Wk.trans (s1:=⟨Fr 98 [p7,(4,.st c3),p6,p5,p4,p3],[p2,p1]⟩) AZ (Wk.trans (s1:=⟨Fr 98 [p7,(4,.st c3),p6,p5,p4,p3],[p2,p1,none]⟩) Wk.none (Wk.trans (s1:=⟨Fr 98 [p7,(4,.st c3),p6,p5,p4,p3],[p2,some ⟨5,60,[.ag [.v (.int .u8 r40.2.2.2.2.2.2.1),.st r40.2.2.2.2.2.2.2.1,.v (.bool r40.2.2.2.2.1),.sl 1 ([].map cdS.enc),.v (.int .i64 r40.2.2.2.2.2.2.2.2.2.1)]],false⟩,none]⟩) (NO 2 (.inr kr) ⟨.inr (.inl rfl),.inr (.inr ⟨_,_,_,_,rfl,rfl,⟨(.inr ⟨_,_,rfl,rfl,⟨.inl rfl,.inl rfl,.inl rfl,Tr,.inl rfl,trivial⟩⟩),trivial⟩⟩),.inl rfl,trivial⟩ ⟨⟨hd 0 (r40.1.map AB.enc),kr,(.inl (.inl rfl))⟩,⟨.st c3,kr,(.inl (.inl rfl))⟩,⟨.pt 1 0 0,kr,(.inl (.inl rfl))⟩,⟨.sl 5 (((x0.take (mnI (x0.length:Int) 8).toNat).drop (0:Int).toNat).map (cdA (csC (cdK .u8) (csC (cdK .u8) (csC (cdK .u8) (csC cdB (csE cdB))))) (fun _=>rfl)).enc),kr,(.inl (.inl rfl))⟩,⟨.v (.int .i64 (((x0.take (mnI (x0.length:Int) 8).toNat).drop (0:Int).toNat).length:Int)),kr,(.inl (.inl rfl))⟩,⟨.v (.int .i64 c4),kr,(.inl (.inl rfl))⟩,trivial⟩) (Az [0,1] ⟨⟨_,rfl,Dl⟩,⟨_,rfl,C8⟩,trivial⟩ ⟨Dp (b':=0) kr kr,lv,lv,lv,lv,lv,trivial⟩))))⟩
 ·rw [Cg hb1713] at h
  refine AJ ?_;refine AP AC [(3,hd 0 (r40.1.map AB.enc)),(4,.st c3),(6,.pt 1 0 0),(7,.pt 2 0 0),(8,hd 3 (r40.2.2.2.2.2.2.2.2.2.2.map cdS.enc)),(13,.sl 5 (((x0.take (mnI (x0.length:Int) 8).toNat).drop (0:Int).toNat).map (cdA (csC (cdK .u8) (csC (cdK .u8) (csC (cdK .u8) (csC cdB (csE cdB))))) (fun _=>rfl)).enc)),(14,.v (.int .i64 (((x0.take (mnI (x0.length:Int) 8).toNat).drop (0:Int).toNat).length:Int))),(15,.v (.int .i64 c4)),(53,.v (.int .u8 r40.2.2.2.2.2.2.1)),(77,.v (.bool (r40.2.2.2.2.2.2.1==6)))] [mk 5 60 (r40.1.map AB.enc),some ⟨5,107,[.ag [.v (.int .u8 r40.2.1),.v (.int .u8 r40.2.2.1),.v (.int .u8 r40.2.2.2.1),.v (.bool r40.2.2.2.2.1),.v (.bool r40.2.2.2.2.2.1)]],false⟩,some ⟨5,60,[.ag [.v (.int .u8 r40.2.2.2.2.2.2.1),.st r40.2.2.2.2.2.2.2.1,.v (.bool r40.2.2.2.2.2.2.2.2.1),.e0,.v (.int .i64 r40.2.2.2.2.2.2.2.2.2.1)]],false⟩,mk 1 9 (r40.2.2.2.2.2.2.2.2.2.2.map cdS.enc)] ?_;obtain ⟨r1722,hr1722,h⟩:=OB h;refine DE (Mf x0 c3 c4 r40 _ hr1722) ?_;obtain ⟨r2057,hr2057,h⟩:=OB h;refine DE (Mg x0 c3 c4 r40 r1722 _ hr2057) ?_;have hq:=OI h; subst hq;exact ⟨rfl,(Az [0,1] ⟨⟨_,rfl,Dl⟩,⟨_,rfl,C8⟩,trivial⟩ ⟨Dp (b':=0) kr kr,lv,lv,lv,lv,lv,trivial⟩)⟩
theorem NF (x0:(List (Int×Int×Int×Bool×Bool))) (c3:(List UInt8)) (c4:Int) (r40:(List AE)×Int×Int×Int×Bool×Bool×Int×(List UInt8)×Bool×Int×(List (List UInt8))) (r:((List AE)×Int×(List UInt8)×Bool×(List (List UInt8))×Int)) (h:Ji x0 c3 c4 r40=some r):Sem E0 ⟨none,false⟩ (pc Cq [1,1,1,0,1,0,0,1,1,0,0,1,1,1,1,1,0,1,0,1,1,1]) ⟨Fr 98 [(3,hd 0 (r40.1.map AB.enc)),(4,.st c3),(6,.pt 1 0 0),(7,.pt 2 0 0),(8,hd 3 (r40.2.2.2.2.2.2.2.2.2.2.map cdS.enc)),(13,.sl 5 (((x0.take (mnI (x0.length:Int) 8).toNat).drop (0:Int).toNat).map (cdA (csC (cdK .u8) (csC (cdK .u8) (csC (cdK .u8) (csC cdB (csE cdB))))) (fun _=>rfl)).enc)),(14,.v (.int .i64 (((x0.take (mnI (x0.length:Int) 8).toNat).drop (0:Int).toNat).length:Int))),(15,.v (.int .i64 c4)),(53,.v (.int .u8 r40.2.2.2.2.2.2.1)),(61,.v (.bool (r40.2.2.2.2.2.2.1==4)))],[mk 5 60 (r40.1.map AB.enc),some ⟨5,107,[.ag [.v (.int .u8 r40.2.1),.v (.int .u8 r40.2.2.1),.v (.int .u8 r40.2.2.2.1),.v (.bool r40.2.2.2.2.1),.v (.bool r40.2.2.2.2.2.1)]],false⟩,some ⟨5,60,[.ag [.v (.int .u8 r40.2.2.2.2.2.2.1),.st r40.2.2.2.2.2.2.2.1,.v (.bool r40.2.2.2.2.2.2.2.2.1),.e0,.v (.int .i64 r40.2.2.2.2.2.2.2.2.2.1)]],false⟩,mk 1 9 (r40.2.2.2.2.2.2.2.2.2.2.map cdS.enc)]⟩ (fun e s=>e = .normal/\Wk E0 s ⟨Fr 98 [(3,hd 0 (r.1.map AB.enc)),(4,.st c3),(7,.pt 1 0 0),(13,.sl 5 (((x0.take (mnI (x0.length:Int) 8).toNat).drop (0:Int).toNat).map (cdA (csC (cdK .u8) (csC (cdK .u8) (csC (cdK .u8) (csC cdB (csE cdB))))) (fun _=>rfl)).enc)),(14,.v (.int .i64 (((x0.take (mnI (x0.length:Int) 8).toNat).drop (0:Int).toNat).length:Int))),(15,.v (.int .i64 c4))],[mk 5 60 (r.1.map AB.enc),some ⟨5,60,[AB.enc r.2],false⟩]⟩):=by
 unfold Ji at h;refine Ab (b:=(r40.2.2.2.2.2.2.1==4)) kr (fun hb1226=>?_) (fun hb1226=>?_)
 ·rw [if_pos hb1226] at h
  let p1:Option Blk:=some ⟨5,60,[.ag [.v (.int .u8 r40.2.2.2.2.2.2.1),.st r40.2.2.2.2.2.2.2.1,.v (.bool r40.2.2.2.2.1),.e0,.v (.int .i64 (wr .i64 (1 + (wr .i64 (r40.2.2.1.tmod 2)))))]],false⟩
  let p2:Option Blk:=mk 5 60 (r40.1.map AB.enc)
  let p3:Nat×AV:=(15,.v (.int .i64 c4))
  let p4:Nat×AV:=(14,.v (.int .i64 (((x0.take (mnI (x0.length:Int) 8).toNat).drop (0:Int).toNat).length:Int)))
  let p5:Nat×AV:=(13,.sl 5 (((x0.take (mnI (x0.length:Int) 8).toNat).drop (0:Int).toNat).map (cdA (csC (cdK .u8) (csC (cdK .u8) (csC (cdK .u8) (csC cdB (csE cdB))))) (fun _=>rfl)).enc))
  let p6:Nat×AV:=(7,.pt 1 0 0)
  let p7:Nat×AV:=(3,hd 0 (r40.1.map AB.enc))
  refine Ry (s1:=⟨Fr 98 [p7,(4,.st c3),p6,p5,p4,p3],[p2,p1]⟩) AC 11 kr ?_ ?_
  ·refine RunA.q 0 kr rfl ?_
   let p8:Option Blk:=mk 1 9 (r40.2.2.2.2.2.2.2.2.2.2.map cdS.enc)
   let p9:Option Blk:=some ⟨5,60,[.ag [.v (.int .u8 r40.2.2.2.2.2.2.1),.st r40.2.2.2.2.2.2.2.1,.v (.bool r40.2.2.2.2.2.2.2.2.1),.e0,.v (.int .i64 r40.2.2.2.2.2.2.2.2.2.1)]],false⟩
   let p10:Option Blk:=some ⟨5,107,[.ag [.v (.int .u8 r40.2.1),.v (.int .u8 r40.2.2.1),.v (.int .u8 r40.2.2.2.1),.v (.bool r40.2.2.2.2.1),.v (.bool r40.2.2.2.2.2.1)]],false⟩
   let p11:Nat×AV:=(7,.pt 2 0 0)
   refine RunS.only (n:=98) AC [p7,(4,.st c3),(6,.pt 1 0 0),p11,p5,p4,p3,(63,.pt 1 0 1)] [p2,p10,p9,p8] kr ?_;refine RunA.q 5 kr rfl ?_
   let p12:Nat×AV:=(68,.pt 1 0 3)
   refine RunS.only (n:=98) AC [p7,(4,.st c3),p11,p5,p4,p3,(63,.pt 1 0 1),p12] [p2,p10,p9,p8] kr ?_;refine Nd 1 6 kr rfl rfl ?_ ?_
   ·refine RunS.only (n:=98) AC [p7,(4,.st c3),p11,p5,p4,p3,(64,.v (.int .u8 r40.2.2.1)),p12] [p2,p10,p9,p8] kr ?_
    refine Nd 2 6 kr rfl rfl ?_ ?_
    ·refine RunS.only (n:=98) AC [p7,(4,.st c3),p11,p5,p4,p3,(65,.v (.int .u8 (r40.2.2.1.tmod 2))),p12] [p2,p10,p9,p8] kr ?_
     refine Nd 3 6 kr rfl rfl ?_ ?_
     ·refine RunS.only (n:=98) AC [p7,(4,.st c3),p11,p5,p4,p3,(66,.v (.int .i64 (wr .i64 (r40.2.2.1.tmod 2)))),p12] [p2,p10,p9,p8] kr ?_
      refine RunA.q 4 kr rfl ?_
      let p13:Nat×AV:=(67,.v (.int .i64 (wr .i64 (1 + (wr .i64 (r40.2.2.1.tmod 2))))))
      refine RunS.only (n:=98) AC [p7,(4,.st c3),p11,p5,p4,p3,p13,p12] [p2,p10,p9,p8] kr ?_;refine RunA.q 7 kr rfl ?_;refine RunS.only (n:=98) AC [p7,(4,.st c3),p11,p5,p4,p3,p13,p12,(70,.pt 2 0 4)] [p2,p10,p9,p8] kr ?_;refine Nd 6 8 kr rfl rfl ?_ ?_
      ·let p14:Nat×AV:=(69,.v (.bool r40.2.2.2.2.1))
       refine RunS.only (n:=98) AC [p7,(4,.st c3),p11,p5,p4,p3,p13,p14,(70,.pt 2 0 4)] [p2,p10,p9,p8] kr ?_;refine Ef 8 kr rfl ?_
       let p15:Option Blk:=some ⟨5,60,[.ag [.v (.int .u8 r40.2.2.2.2.2.2.1),.st r40.2.2.2.2.2.2.2.1,.v (.bool r40.2.2.2.2.2.2.2.2.1),.e0,.v (.int .i64 (wr .i64 (1 + (wr .i64 (r40.2.2.1.tmod 2)))))]],false⟩
       refine RunS.only (n:=98) AC [p7,(4,.st c3),p11,p5,p4,p3,p14] [p2,p10,p15,p8] kr ?_;refine RunA.q 9 kr rfl ?_;refine RunS.only (n:=98) AC [p7,(4,.st c3),p11,p5,p4,p3,p14,(71,.pt 2 0 2)] [p2,p10,p15,p8] kr ?_;refine Ef 10 kr rfl ?_;refine RunS.only (n:=98) AC [p7,(4,.st c3),p11,p5,p4,p3] [p2,p10,p1,p8] kr ?_;exact RunA.done kr (Az [0,2] ⟨⟨_,rfl,Dl⟩,⟨_,rfl,C8⟩,trivial⟩ ⟨Dp (b':=0) kr kr,lv,lv,lv,lv,lv,trivial⟩)
      ·let p16:Option Blk:=some ⟨5,60,[.ag [.v (.int .u8 r40.2.2.2.2.2.2.1),.st r40.2.2.2.2.2.2.2.1,.v (.bool r40.2.2.2.2.2.2.2.2.1),.e0,.v (.int .i64 (wr .i64 (1 + (wr .i64 (r40.2.2.1.tmod 2)))))]],false⟩
       refine RunS.only (n:=98) AC [p7,(4,.st c3),p11,p5,p4,p3,p12] [p2,p10,p16,p8] kr ?_;refine Ef 6 kr rfl ?_;refine RunS.only (n:=98) AC [p7,(4,.st c3),p11,p5,p4,p3,(69,.v (.bool r40.2.2.2.2.1))] [p2,p10,p16,p8] kr ?_;refine RunA.q 9 kr rfl ?_;refine RunS.only (n:=98) AC [p7,(4,.st c3),p11,p5,p4,p3,(69,.v (.bool r40.2.2.2.2.1)),(71,.pt 2 0 2)] [p2,p10,p16,p8] kr ?_;refine Ef 10 kr rfl ?_;refine RunS.only (n:=98) AC [p7,(4,.st c3),p11,p5,p4,p3] [p2,p10,p1,p8] kr ?_;exact RunA.done kr (Az [0,2] ⟨⟨_,rfl,Dl⟩,⟨_,rfl,C8⟩,trivial⟩ ⟨Dp (b':=0) kr kr,lv,lv,lv,lv,lv,trivial⟩)
     ·let p17:Nat×AV:=(69,.v (.bool r40.2.2.2.2.1))
      refine RunS.only (n:=98) AC [p7,(4,.st c3),p11,p5,p4,p3,(65,.v (.int .u8 (r40.2.2.1.tmod 2))),p17] [p2,p10,p9,p8] kr ?_;refine Ef 3 kr rfl ?_;refine RunS.only (n:=98) AC [p7,(4,.st c3),p11,p5,p4,p3,(66,.v (.int .i64 (wr .i64 (r40.2.2.1.tmod 2)))),p17] [p2,p10,p9,p8] kr ?_;refine RunA.q 4 kr rfl ?_
      let p18:Nat×AV:=(67,.v (.int .i64 (wr .i64 (1 + (wr .i64 (r40.2.2.1.tmod 2))))))
      refine RunS.only (n:=98) AC [p7,(4,.st c3),p11,p5,p4,p3,p18,p17] [p2,p10,p9,p8] kr ?_;refine RunA.q 7 kr rfl ?_;refine RunS.only (n:=98) AC [p7,(4,.st c3),p11,p5,p4,p3,p18,p17,(70,.pt 2 0 4)] [p2,p10,p9,p8] kr ?_;refine Ef 8 kr rfl ?_
      let p19:Option Blk:=some ⟨5,60,[.ag [.v (.int .u8 r40.2.2.2.2.2.2.1),.st r40.2.2.2.2.2.2.2.1,.v (.bool r40.2.2.2.2.2.2.2.2.1),.e0,.v (.int .i64 (wr .i64 (1 + (wr .i64 (r40.2.2.1.tmod 2)))))]],false⟩
      refine RunS.only (n:=98) AC [p7,(4,.st c3),p11,p5,p4,p3,p17] [p2,p10,p19,p8] kr ?_;refine RunA.q 9 kr rfl ?_;refine RunS.only (n:=98) AC [p7,(4,.st c3),p11,p5,p4,p3,p17,(71,.pt 2 0 2)] [p2,p10,p19,p8] kr ?_;refine Ef 10 kr rfl ?_;refine RunS.only (n:=98) AC [p7,(4,.st c3),p11,p5,p4,p3] [p2,p10,p1,p8] kr ?_;exact RunA.done kr (Az [0,2] ⟨⟨_,rfl,Dl⟩,⟨_,rfl,C8⟩,trivial⟩ ⟨Dp (b':=0) kr kr,lv,lv,lv,lv,lv,trivial⟩)
    ·let p20:Nat×AV:=(69,.v (.bool r40.2.2.2.2.1))
     refine RunS.only (n:=98) AC [p7,(4,.st c3),p11,p5,p4,p3,(64,.v (.int .u8 r40.2.2.1)),p20] [p2,p10,p9,p8] kr ?_;refine Ef 2 kr rfl ?_;refine RunS.only (n:=98) AC [p7,(4,.st c3),p11,p5,p4,p3,(65,.v (.int .u8 (r40.2.2.1.tmod 2))),p20] [p2,p10,p9,p8] kr ?_;refine Ef 3 kr rfl ?_;refine RunS.only (n:=98) AC [p7,(4,.st c3),p11,p5,p4,p3,(66,.v (.int .i64 (wr .i64 (r40.2.2.1.tmod 2)))),p20] [p2,p10,p9,p8] kr ?_;refine RunA.q 4 kr rfl ?_
     let p21:Nat×AV:=(67,.v (.int .i64 (wr .i64 (1 + (wr .i64 (r40.2.2.1.tmod 2))))))
     refine RunS.only (n:=98) AC [p7,(4,.st c3),p11,p5,p4,p3,p21,p20] [p2,p10,p9,p8] kr ?_;refine RunA.q 7 kr rfl ?_;refine RunS.only (n:=98) AC [p7,(4,.st c3),p11,p5,p4,p3,p21,p20,(70,.pt 2 0 4)] [p2,p10,p9,p8] kr ?_;refine Ef 8 kr rfl ?_
     let p22:Option Blk:=some ⟨5,60,[.ag [.v (.int .u8 r40.2.2.2.2.2.2.1),.st r40.2.2.2.2.2.2.2.1,.v (.bool r40.2.2.2.2.2.2.2.2.1),.e0,.v (.int .i64 (wr .i64 (1 + (wr .i64 (r40.2.2.1.tmod 2)))))]],false⟩
     refine RunS.only (n:=98) AC [p7,(4,.st c3),p11,p5,p4,p3,p20] [p2,p10,p22,p8] kr ?_;refine RunA.q 9 kr rfl ?_;refine RunS.only (n:=98) AC [p7,(4,.st c3),p11,p5,p4,p3,p20,(71,.pt 2 0 2)] [p2,p10,p22,p8] kr ?_;refine Ef 10 kr rfl ?_;refine RunS.only (n:=98) AC [p7,(4,.st c3),p11,p5,p4,p3] [p2,p10,p1,p8] kr ?_;exact RunA.done kr (Az [0,2] ⟨⟨_,rfl,Dl⟩,⟨_,rfl,C8⟩,trivial⟩ ⟨Dp (b':=0) kr kr,lv,lv,lv,lv,lv,trivial⟩)
   ·let p23:Nat×AV:=(69,.v (.bool r40.2.2.2.2.1))
    refine RunS.only (n:=98) AC [p7,(4,.st c3),p11,p5,p4,p3,(63,.pt 1 0 1),p23] [p2,p10,p9,p8] kr ?_;refine Ef 1 kr rfl ?_;refine RunS.only (n:=98) AC [p7,(4,.st c3),p11,p5,p4,p3,(64,.v (.int .u8 r40.2.2.1)),p23] [p2,p10,p9,p8] kr ?_;refine Ef 2 kr rfl ?_;refine RunS.only (n:=98) AC [p7,(4,.st c3),p11,p5,p4,p3,(65,.v (.int .u8 (r40.2.2.1.tmod 2))),p23] [p2,p10,p9,p8] kr ?_;refine Ef 3 kr rfl ?_;refine RunS.only (n:=98) AC [p7,(4,.st c3),p11,p5,p4,p3,(66,.v (.int .i64 (wr .i64 (r40.2.2.1.tmod 2)))),p23] [p2,p10,p9,p8] kr ?_;refine RunA.q 4 kr rfl ?_
    let p24:Nat×AV:=(67,.v (.int .i64 (wr .i64 (1 + (wr .i64 (r40.2.2.1.tmod 2))))))
    refine RunS.only (n:=98) AC [p7,(4,.st c3),p11,p5,p4,p3,p24,p23] [p2,p10,p9,p8] kr ?_;refine RunA.q 7 kr rfl ?_;refine RunS.only (n:=98) AC [p7,(4,.st c3),p11,p5,p4,p3,p24,p23,(70,.pt 2 0 4)] [p2,p10,p9,p8] kr ?_;refine Ef 8 kr rfl ?_
    let p25:Option Blk:=some ⟨5,60,[.ag [.v (.int .u8 r40.2.2.2.2.2.2.1),.st r40.2.2.2.2.2.2.2.1,.v (.bool r40.2.2.2.2.2.2.2.2.1),.e0,.v (.int .i64 (wr .i64 (1 + (wr .i64 (r40.2.2.1.tmod 2)))))]],false⟩
    refine RunS.only (n:=98) AC [p7,(4,.st c3),p11,p5,p4,p3,p23] [p2,p10,p25,p8] kr ?_;refine RunA.q 9 kr rfl ?_;refine RunS.only (n:=98) AC [p7,(4,.st c3),p11,p5,p4,p3,p23,(71,.pt 2 0 2)] [p2,p10,p25,p8] kr ?_;refine Ef 10 kr rfl ?_;refine RunS.only (n:=98) AC [p7,(4,.st c3),p11,p5,p4,p3] [p2,p10,p1,p8] kr ?_;exact RunA.done kr (Az [0,2] ⟨⟨_,rfl,Dl⟩,⟨_,rfl,C8⟩,trivial⟩ ⟨Dp (b':=0) kr kr,lv,lv,lv,lv,lv,trivial⟩)
  have hq:=OI h; subst hq;exact ⟨rfl,(Wk.trans (s1:=⟨Fr 98 [p7,(4,.st c3),p6,p5,p4,p3],[p2,p1]⟩) AZ (Wk.trans (s1:=⟨Fr 98 [p7,(4,.st c3),p6,p5,p4,p3],[p2,p1,none]⟩) Wk.none (Wk.trans (s1:=⟨Fr 98 [p7,(4,.st c3),p6,p5,p4,p3],[p2,some ⟨5,60,[.ag [.v (.int .u8 r40.2.2.2.2.2.2.1),.st r40.2.2.2.2.2.2.2.1,.v (.bool r40.2.2.2.2.1),.sl 1 ([].map cdS.enc),.v (.int .i64 (wr .i64 (1 + (wr .i64 (r40.2.2.1.tmod 2)))))]],false⟩,none]⟩) (NO 2 (.inr kr) ⟨.inr (.inl rfl),.inr (.inr ⟨_,_,_,_,rfl,rfl,⟨(.inr ⟨_,_,rfl,rfl,⟨.inl rfl,.inl rfl,.inl rfl,Tr,.inl rfl,trivial⟩⟩),trivial⟩⟩),.inl rfl,trivial⟩ ⟨⟨hd 0 (r40.1.map AB.enc),kr,(.inl (.inl rfl))⟩,⟨.st c3,kr,(.inl (.inl rfl))⟩,⟨.pt 1 0 0,kr,(.inl (.inl rfl))⟩,⟨.sl 5 (((x0.take (mnI (x0.length:Int) 8).toNat).drop (0:Int).toNat).map (cdA (csC (cdK .u8) (csC (cdK .u8) (csC (cdK .u8) (csC cdB (csE cdB))))) (fun _=>rfl)).enc),kr,(.inl (.inl rfl))⟩,⟨.v (.int .i64 (((x0.take (mnI (x0.length:Int) 8).toNat).drop (0:Int).toNat).length:Int)),kr,(.inl (.inl rfl))⟩,⟨.v (.int .i64 c4),kr,(.inl (.inl rfl))⟩,trivial⟩) (Az [0,1] ⟨⟨_,rfl,Dl⟩,⟨_,rfl,C8⟩,trivial⟩ ⟨Dp (b':=0) kr kr,lv,lv,lv,lv,lv,trivial⟩))))⟩
 ·rw [Cg hb1226] at h
  refine AP AC [(3,hd 0 (r40.1.map AB.enc)),(4,.st c3),(6,.pt 1 0 0),(7,.pt 2 0 0),(8,hd 3 (r40.2.2.2.2.2.2.2.2.2.2.map cdS.enc)),(13,.sl 5 (((x0.take (mnI (x0.length:Int) 8).toNat).drop (0:Int).toNat).map (cdA (csC (cdK .u8) (csC (cdK .u8) (csC (cdK .u8) (csC cdB (csE cdB))))) (fun _=>rfl)).enc)),(14,.v (.int .i64 (((x0.take (mnI (x0.length:Int) 8).toNat).drop (0:Int).toNat).length:Int))),(15,.v (.int .i64 c4)),(53,.v (.int .u8 r40.2.2.2.2.2.2.1)),(72,.v (.bool (r40.2.2.2.2.2.2.1==5)))] [mk 5 60 (r40.1.map AB.enc),some ⟨5,107,[.ag [.v (.int .u8 r40.2.1),.v (.int .u8 r40.2.2.1),.v (.int .u8 r40.2.2.2.1),.v (.bool r40.2.2.2.2.1),.v (.bool r40.2.2.2.2.2.1)]],false⟩,some ⟨5,60,[.ag [.v (.int .u8 r40.2.2.2.2.2.2.1),.st r40.2.2.2.2.2.2.2.1,.v (.bool r40.2.2.2.2.2.2.2.2.1),.e0,.v (.int .i64 r40.2.2.2.2.2.2.2.2.2.1)]],false⟩,mk 1 9 (r40.2.2.2.2.2.2.2.2.2.2.map cdS.enc)] ?_;obtain ⟨r2058,hr2058,h⟩:=OB h;refine DE (Me x0 c3 c4 r40 _ hr2058) ?_;have hq:=OI h; subst hq;exact ⟨rfl,(Az [0,1] ⟨⟨_,rfl,Dl⟩,⟨_,rfl,C8⟩,trivial⟩ ⟨Dp (b':=0) kr kr,lv,lv,lv,lv,lv,trivial⟩)⟩
theorem NE (x0:(List (Int×Int×Int×Bool×Bool))) (c3:(List UInt8)) (c4:Int) (r40:(List AE)×Int×Int×Int×Bool×Bool×Int×(List UInt8)×Bool×Int×(List (List UInt8))) (r:((List AE)×(List UInt8)×Int×(List UInt8)×Bool×(List (List UInt8))×Int)) (h:Gv x0 c3 c4 r40=some r):Sem E0 ⟨none,false⟩ (pc Cq [1,1,1,0,1,0,0,1,1,0,0,1,1,1,1,1,0,1,0,1]) ⟨Fr 98 [(3,hd 0 (r40.1.map AB.enc)),(4,.st c3),(6,.pt 1 0 0),(7,.pt 2 0 0),(8,hd 3 (r40.2.2.2.2.2.2.2.2.2.2.map cdS.enc)),(13,.sl 5 (((x0.take (mnI (x0.length:Int) 8).toNat).drop (0:Int).toNat).map (cdA (csC (cdK .u8) (csC (cdK .u8) (csC (cdK .u8) (csC cdB (csE cdB))))) (fun _=>rfl)).enc)),(14,.v (.int .i64 (((x0.take (mnI (x0.length:Int) 8).toNat).drop (0:Int).toNat).length:Int))),(15,.v (.int .i64 c4)),(53,.v (.int .u8 r40.2.2.2.2.2.2.1)),(54,.v (.bool (r40.2.2.2.2.2.2.1==1)))],[mk 5 60 (r40.1.map AB.enc),some ⟨5,107,[.ag [.v (.int .u8 r40.2.1),.v (.int .u8 r40.2.2.1),.v (.int .u8 r40.2.2.2.1),.v (.bool r40.2.2.2.2.1),.v (.bool r40.2.2.2.2.2.1)]],false⟩,some ⟨5,60,[.ag [.v (.int .u8 r40.2.2.2.2.2.2.1),.st r40.2.2.2.2.2.2.2.1,.v (.bool r40.2.2.2.2.2.2.2.2.1),.e0,.v (.int .i64 r40.2.2.2.2.2.2.2.2.2.1)]],false⟩,mk 1 9 (r40.2.2.2.2.2.2.2.2.2.2.map cdS.enc)]⟩ (fun e s=>e = .normal/\Wk E0 s ⟨Fr 98 [(3,hd 0 (r.1.map AB.enc)),(4,.st r.2.1),(7,.pt 1 0 0),(13,.sl 5 (((x0.take (mnI (x0.length:Int) 8).toNat).drop (0:Int).toNat).map (cdA (csC (cdK .u8) (csC (cdK .u8) (csC (cdK .u8) (csC cdB (csE cdB))))) (fun _=>rfl)).enc)),(14,.v (.int .i64 (((x0.take (mnI (x0.length:Int) 8).toNat).drop (0:Int).toNat).length:Int))),(15,.v (.int .i64 c4))],[mk 5 60 (r.1.map AB.enc),some ⟨5,60,[AB.enc r.2.2],false⟩]⟩):=by
 unfold Gv at h;refine Ab (b:=(r40.2.2.2.2.2.2.1==1)) kr (fun hb41=>?_) (fun hb41=>?_)
 ·rw [if_pos hb41] at h
  refine AJ ?_
  let p1:Option Blk:=some ⟨5,60,[.ag [.v (.int .u8 r40.2.2.2.2.2.2.1),.st r40.2.2.2.2.2.2.2.1,.v (.bool r40.2.2.2.2.2.2.2.2.1),.sl 1 (r40.2.2.2.2.2.2.2.2.2.2.map cdS.enc),.v (.int .i64 r40.2.2.2.2.2.2.2.2.2.1)]],false⟩
  let p2:Option Blk:=mk 5 60 (r40.1.map AB.enc)
  let p3:Nat×AV:=(15,.v (.int .i64 c4))
  let p4:Nat×AV:=(14,.v (.int .i64 (((x0.take (mnI (x0.length:Int) 8).toNat).drop (0:Int).toNat).length:Int)))
  let p5:Nat×AV:=(13,.sl 5 (((x0.take (mnI (x0.length:Int) 8).toNat).drop (0:Int).toNat).map (cdA (csC (cdK .u8) (csC (cdK .u8) (csC (cdK .u8) (csC cdB (csE cdB))))) (fun _=>rfl)).enc))
  let p6:Nat×AV:=(8,.sl 1 (r40.2.2.2.2.2.2.2.2.2.2.map cdS.enc))
  let p7:Nat×AV:=(3,hd 0 (r40.1.map AB.enc))
  refine AS (s1:=⟨Fr 98 [p7,(7,.pt 1 0 0),p6,p5,p4,p3],[p2,p1]⟩) ?_ ?_
  ·let p8:Option Blk:=some ⟨5,60,[.ag [.v (.int .u8 r40.2.2.2.2.2.2.1),.st r40.2.2.2.2.2.2.2.1,.v (.bool r40.2.2.2.2.2.2.2.2.1),.e0,.v (.int .i64 r40.2.2.2.2.2.2.2.2.2.1)]],false⟩
   let p9:Option Blk:=some ⟨5,107,[.ag [.v (.int .u8 r40.2.1),.v (.int .u8 r40.2.2.1),.v (.int .u8 r40.2.2.2.1),.v (.bool r40.2.2.2.2.1),.v (.bool r40.2.2.2.2.2.1)]],false⟩
   refine AF (n:=98) AC 2 [p7,(7,.pt 2 0 0),(8,hd 3 (r40.2.2.2.2.2.2.2.2.2.2.map cdS.enc)),p5,p4,p3,(56,hd 3 (r40.2.2.2.2.2.2.2.2.2.2.map cdS.enc)),(57,.pt 2 0 3)] [p2,p9,p8,mk 1 9 (r40.2.2.2.2.2.2.2.2.2.2.map cdS.enc)] kr ?_;refine PX (s1:=⟨Fr 98 [p7,(7,.pt 2 0 0),p6,p5,p4,p3,(56,.sl 1 (r40.2.2.2.2.2.2.2.2.2.2.map cdS.enc)),(57,.pt 2 0 3)],[p2,p9,p8,none]⟩) (LJ 3 (.inl kr) ⟨.inr (.inl rfl),.inr (.inr ⟨_,_,_,_,rfl,rfl,⟨.inl rfl,trivial⟩⟩),.inr (.inr ⟨_,_,_,_,rfl,rfl,⟨.inl rfl,trivial⟩⟩),.inl rfl,trivial⟩ ⟨⟨hd 0 (r40.1.map AB.enc),kr,.inl rfl⟩,⟨.pt 2 0 0,kr,.inl rfl⟩,⟨hd 3 (r40.2.2.2.2.2.2.2.2.2.2.map cdS.enc),kr,RT (t:=9) kr Lx⟩,⟨.sl 5 (((x0.take (mnI (x0.length:Int) 8).toNat).drop (0:Int).toNat).map (cdA (csC (cdK .u8) (csC (cdK .u8) (csC (cdK .u8) (csC cdB (csE cdB))))) (fun _=>rfl)).enc),kr,.inl rfl⟩,⟨.v (.int .i64 (((x0.take (mnI (x0.length:Int) 8).toNat).drop (0:Int).toNat).length:Int)),kr,.inl rfl⟩,⟨.v (.int .i64 c4),kr,.inl rfl⟩,⟨hd 3 (r40.2.2.2.2.2.2.2.2.2.2.map cdS.enc),kr,RT (t:=9) kr Lx⟩,⟨.pt 2 0 3,kr,.inl rfl⟩,trivial⟩) ?_;refine AF (n:=98) AC 1 [p7,(7,.pt 2 0 0),p6,p5,p4,p3] [p2,p9,p1,none] kr ?_;exact AR rfl (Az [0,2] ⟨⟨_,rfl,Dl⟩,⟨_,rfl,C8⟩,trivial⟩ ⟨Dp (b':=0) kr kr,lv,lv,lv,lv,lv,trivial⟩)
  obtain ⟨v42,hv42,h⟩:=OB h;refine AS (s1:=⟨Fr 98 [p7,(4,.st v42),(7,.pt 1 0 0),p5,p4,p3],[p2,p1]⟩) ?_ ?_
  ·refine AF (n:=98) AC 1 [p7,(7,.pt 1 0 0),p5,p4,p3,(58,.sl 1 (r40.2.2.2.2.2.2.2.2.2.2.map cdS.enc))] [p2,p1] kr ?_
   refine A6 AC 0 rfl (Cw (AA rfl) rfl (AQ (a:= .sl 1 (r40.2.2.2.2.2.2.2.2.2.2.map cdS.enc)) (b:= .v (.int .i64 0)) kr kr (GS (e:=cdS.enc) (el:=9) (k:=1) (ki:= .i64) kr kr hv42))) ?_;exact BH AC
  have hq:=OI h; subst hq;exact ⟨rfl,(Az [0,1] ⟨⟨_,rfl,Dl⟩,⟨_,rfl,C8⟩,trivial⟩ ⟨Dp (b':=0) kr kr,lv,lv,lv,lv,lv,trivial⟩)⟩
 ·rw [Cg hb41] at h
  refine AP AC [(3,hd 0 (r40.1.map AB.enc)),(4,.st c3),(6,.pt 1 0 0),(7,.pt 2 0 0),(8,hd 3 (r40.2.2.2.2.2.2.2.2.2.2.map cdS.enc)),(13,.sl 5 (((x0.take (mnI (x0.length:Int) 8).toNat).drop (0:Int).toNat).map (cdA (csC (cdK .u8) (csC (cdK .u8) (csC (cdK .u8) (csC cdB (csE cdB))))) (fun _=>rfl)).enc)),(14,.v (.int .i64 (((x0.take (mnI (x0.length:Int) 8).toNat).drop (0:Int).toNat).length:Int))),(15,.v (.int .i64 c4)),(53,.v (.int .u8 r40.2.2.2.2.2.2.1)),(61,.v (.bool (r40.2.2.2.2.2.2.1==4)))] [mk 5 60 (r40.1.map AB.enc),some ⟨5,107,[.ag [.v (.int .u8 r40.2.1),.v (.int .u8 r40.2.2.1),.v (.int .u8 r40.2.2.2.1),.v (.bool r40.2.2.2.2.1),.v (.bool r40.2.2.2.2.2.1)]],false⟩,some ⟨5,60,[.ag [.v (.int .u8 r40.2.2.2.2.2.2.1),.st r40.2.2.2.2.2.2.2.1,.v (.bool r40.2.2.2.2.2.2.2.2.1),.e0,.v (.int .i64 r40.2.2.2.2.2.2.2.2.2.1)]],false⟩,mk 1 9 (r40.2.2.2.2.2.2.2.2.2.2.map cdS.enc)] ?_;obtain ⟨r2059,hr2059,h⟩:=OB h;refine DE (NF x0 c3 c4 r40 _ hr2059) ?_;have hq:=OI h; subst hq;exact ⟨rfl,(Az [0,1] ⟨⟨_,rfl,Dl⟩,⟨_,rfl,C8⟩,trivial⟩ ⟨Dp (b':=0) kr kr,lv,lv,lv,lv,lv,trivial⟩)⟩
theorem NG (x0:(List (Int×Int×Int×Bool×Bool))):∀ (f:Nat) (c2:(List AE)) (c3:(List UInt8)) (c4:Int) (r:((List AE))),EQ x0 f c2 c3 c4=some r->SemN E0 ⟨none,false⟩ (pc Cq [1,1,1,0,1,0,0]) f ⟨Fr 98 [(3,hd 0 (c2.map AB.enc)),(4,.st c3),(13,.sl 5 (((x0.take (mnI (x0.length:Int) 8).toNat).drop (0:Int).toNat).map (cdA (csC (cdK .u8) (csC (cdK .u8) (csC (cdK .u8) (csC cdB (csE cdB))))) (fun _=>rfl)).enc)),(14,.v (.int .i64 (((x0.take (mnI (x0.length:Int) 8).toNat).drop (0:Int).toNat).length:Int))),(15,.v (.int .i64 c4))],[mk 5 60 (c2.map AB.enc)]⟩ (fun e s=>e=(.exit 0)/\Wk E0 s ⟨Fr 98 [(3,hd 0 (r.map AB.enc))],[mk 5 60 (r.map AB.enc)]⟩):=by
 intro f;induction f with
 | zero=>intro c2 c3 c4 r h; cases h
 | succ f ih0 =>
  intro c2 c3 c4 r h
  have ih:=fun (c2:(List AE)) (c3:(List UInt8)) (c4:Int)=>ih0 c2 c3 c4 r
  unfold EQ at h;refine FI ?_;refine AP AC [(3,hd 0 (c2.map AB.enc)),(4,.st c3),(13,.sl 5 (((x0.take (mnI (x0.length:Int) 8).toNat).drop (0:Int).toNat).map (cdA (csC (cdK .u8) (csC (cdK .u8) (csC (cdK .u8) (csC cdB (csE cdB))))) (fun _=>rfl)).enc)),(14,.v (.int .i64 (((x0.take (mnI (x0.length:Int) 8).toNat).drop (0:Int).toNat).length:Int))),(15,.v (.int .i64 c4)),(16,.v (.bool (decide (c4 < (((x0.take (mnI (x0.length:Int) 8).toNat).drop (0:Int).toNat).length:Int)))))] [mk 5 60 (c2.map AB.enc)] ?_;refine AJ ?_;refine Ab (b:=(decide (c4 < (((x0.take (mnI (x0.length:Int) 8).toNat).drop (0:Int).toNat).length:Int)))) kr (fun hb5=>?_) (fun hb5=>?_)
  ·rw [if_pos hb5] at h
   refine As ?_;refine AJ ?_;refine CI ?_;refine AJ ?_;obtain ⟨v6,hv6,h⟩:=OB h;refine AS (s1:=⟨Fr 98 [(3,hd 0 (c2.map AB.enc)),(4,.st c3),(6,.pt 1 0 0),(13,.sl 5 (((x0.take (mnI (x0.length:Int) 8).toNat).drop (0:Int).toNat).map (cdA (csC (cdK .u8) (csC (cdK .u8) (csC (cdK .u8) (csC cdB (csE cdB))))) (fun _=>rfl)).enc)),(14,.v (.int .i64 (((x0.take (mnI (x0.length:Int) 8).toNat).drop (0:Int).toNat).length:Int))),(15,.v (.int .i64 c4))],[mk 5 60 (c2.map AB.enc),some ⟨5,107,[.ag [.v (.int .u8 v6.1),.v (.int .u8 v6.2.1),.v (.int .u8 v6.2.2.1),.v (.bool v6.2.2.2.1),.v (.bool v6.2.2.2.2)]],false⟩]⟩) ?_ ?_
   ·refine A6 AC 0 rfl (Cw (AA rfl) rfl (AQ (a:= .sl 5 (((x0.take (mnI (x0.length:Int) 8).toNat).drop (0:Int).toNat).map (cdA (csC (cdK .u8) (csC (cdK .u8) (csC (cdK .u8) (csC cdB (csE cdB))))) (fun _=>rfl)).enc)) (b:= .v (.int .i64 c4)) kr kr (GS (e:=(cdA (csC (cdK .u8) (csC (cdK .u8) (csC (cdK .u8) (csC cdB (csE cdB))))) (fun _=>rfl)).enc) (el:=107) (k:=5) (ki:= .i64) kr kr hv6))) ?_
    exact BH AC
   refine AP AC [(3,hd 0 (c2.map AB.enc)),(4,.st c3),(6,.pt 1 0 0),(7,.pt 2 0 0),(13,.sl 5 (((x0.take (mnI (x0.length:Int) 8).toNat).drop (0:Int).toNat).map (cdA (csC (cdK .u8) (csC (cdK .u8) (csC (cdK .u8) (csC cdB (csE cdB))))) (fun _=>rfl)).enc)),(14,.v (.int .i64 (((x0.take (mnI (x0.length:Int) 8).toNat).drop (0:Int).toNat).length:Int))),(15,.v (.int .i64 c4))] [mk 5 60 (c2.map AB.enc),some ⟨5,107,[.ag [.v (.int .u8 v6.1),.v (.int .u8 v6.2.1),.v (.int .u8 v6.2.2.1),.v (.bool v6.2.2.2.1),.v (.bool v6.2.2.2.2)]],false⟩,some ⟨5,60,[.ag [.v (.int .u8 (wr .u8 (1 + (v6.1.tmod 10)))),.st [],.v (.bool false),.e0,.v (.int .i64 0)]],false⟩] ?_;refine AJ ?_;by_cases hk7:(DK (v6.2.2.1.tmod 4) (([97,98,99,100]:List UInt8).length:Int) ([97,98,99,100]:List UInt8).length)=true
   case neg=>rw [if_neg hk7] at h; cases h
   rw [if_pos hk7] at h;by_cases hk8:(DK 0 (1:Int) ((([97,98,99,100]:List UInt8).take (([97,98,99,100]:List UInt8).length:Int).toNat).drop (v6.2.2.1.tmod 4).toNat).length)=true
   case neg=>rw [if_neg hk8] at h; cases h
   rw [if_pos hk8] at h;refine AS (s1:=⟨Fr 98 [(3,hd 0 (c2.map AB.enc)),(4,.st c3),(6,.pt 1 0 0),(7,.pt 2 0 0),(8,hd 3 ([((((([97,98,99,100]:List UInt8).take (([97,98,99,100]:List UInt8).length:Int).toNat).drop (v6.2.2.1.tmod 4).toNat).take (1:Int).toNat).drop (0:Int).toNat)].map cdS.enc)),(13,.sl 5 (((x0.take (mnI (x0.length:Int) 8).toNat).drop (0:Int).toNat).map (cdA (csC (cdK .u8) (csC (cdK .u8) (csC (cdK .u8) (csC cdB (csE cdB))))) (fun _=>rfl)).enc)),(14,.v (.int .i64 (((x0.take (mnI (x0.length:Int) 8).toNat).drop (0:Int).toNat).length:Int))),(15,.v (.int .i64 c4))],[mk 5 60 (c2.map AB.enc),some ⟨5,107,[.ag [.v (.int .u8 v6.1),.v (.int .u8 v6.2.1),.v (.int .u8 v6.2.2.1),.v (.bool v6.2.2.2.1),.v (.bool v6.2.2.2.2)]],false⟩,some ⟨5,60,[.ag [.v (.int .u8 (wr .u8 (1 + (v6.1.tmod 10)))),.st [],.v (.bool false),.e0,.v (.int .i64 0)]],false⟩,mk 1 9 ([((((([97,98,99,100]:List UInt8).take (([97,98,99,100]:List UInt8).length:Int).toNat).drop (v6.2.2.1.tmod 4).toNat).take (1:Int).toNat).drop (0:Int).toNat)].map cdS.enc)]⟩) ?_ ?_
   ·refine AF (n:=98) AC 3 [(3,hd 0 (c2.map AB.enc)),(4,.st c3),(6,.pt 1 0 0),(7,.pt 2 0 0),(13,.sl 5 (((x0.take (mnI (x0.length:Int) 8).toNat).drop (0:Int).toNat).map (cdA (csC (cdK .u8) (csC (cdK .u8) (csC (cdK .u8) (csC cdB (csE cdB))))) (fun _=>rfl)).enc)),(14,.v (.int .i64 (((x0.take (mnI (x0.length:Int) 8).toNat).drop (0:Int).toNat).length:Int))),(15,.v (.int .i64 c4)),(26,.v (.int .u8 (v6.2.2.1.tmod 4)))] [mk 5 60 (c2.map AB.enc),some ⟨5,107,[.ag [.v (.int .u8 v6.1),.v (.int .u8 v6.2.1),.v (.int .u8 v6.2.2.1),.v (.bool v6.2.2.2.1),.v (.bool v6.2.2.2.2)]],false⟩,some ⟨5,60,[.ag [.v (.int .u8 (wr .u8 (1 + (v6.1.tmod 10)))),.st [],.v (.bool false),.e0,.v (.int .i64 0)]],false⟩] kr ?_
    refine A6 AC 0 rfl (Cw (AA rfl) rfl (EE (a:= .st [97,98,99,100]) (l:=(some (.v (.int .u8 (v6.2.2.1.tmod 4))))) (u:=none) (m:=none) kr kr kr rfl (FY (bs:=[97,98,99,100]) (lo:=(v6.2.2.1.tmod 4)) (hi:=(([97,98,99,100]:List UInt8).length:Int)) kr (GR (Nn hk7)) rfl hk7))) ?_;refine A6 AC 0 rfl (Cw (AA rfl) rfl (EE (a:= .st ((([97,98,99,100]:List UInt8).take (([97,98,99,100]:List UInt8).length:Int).toNat).drop (v6.2.2.1.tmod 4).toNat)) (l:=none) (u:=(some (.v (.int .i64 1)))) (m:=none) kr kr kr rfl (FY (bs:=((([97,98,99,100]:List UInt8).take (([97,98,99,100]:List UInt8).length:Int).toNat).drop (v6.2.2.1.tmod 4).toNat)) (lo:=0) (hi:=(1:Int)) kr rfl (GR (JP hk8)) hk8))) ?_;exact BH AC
   refine AJ ?_;refine AP AC [(3,hd 0 (c2.map AB.enc)),(4,.st c3),(6,.pt 1 0 0),(7,.pt 2 0 0),(8,hd 3 ([((((([97,98,99,100]:List UInt8).take (([97,98,99,100]:List UInt8).length:Int).toNat).drop (v6.2.2.1.tmod 4).toNat).take (1:Int).toNat).drop (0:Int).toNat)].map cdS.enc)),(13,.sl 5 (((x0.take (mnI (x0.length:Int) 8).toNat).drop (0:Int).toNat).map (cdA (csC (cdK .u8) (csC (cdK .u8) (csC (cdK .u8) (csC cdB (csE cdB))))) (fun _=>rfl)).enc)),(14,.v (.int .i64 (((x0.take (mnI (x0.length:Int) 8).toNat).drop (0:Int).toNat).length:Int))),(15,.v (.int .i64 c4)),(33,.v (.bool ((D7 .u8 v6.2.2.1 4)!=0)))] [mk 5 60 (c2.map AB.enc),some ⟨5,107,[.ag [.v (.int .u8 v6.1),.v (.int .u8 v6.2.1),.v (.int .u8 v6.2.2.1),.v (.bool v6.2.2.2.1),.v (.bool v6.2.2.2.2)]],false⟩,some ⟨5,60,[.ag [.v (.int .u8 (wr .u8 (1 + (v6.1.tmod 10)))),.st [],.v (.bool false),.e0,.v (.int .i64 0)]],false⟩,mk 1 9 ([((((([97,98,99,100]:List UInt8).take (([97,98,99,100]:List UInt8).length:Int).toNat).drop (v6.2.2.1.tmod 4).toNat).take (1:Int).toNat).drop (0:Int).toNat)].map cdS.enc)] ?_;obtain ⟨r14,hr14,h⟩:=OB h;refine DE (NC x0 c2 c3 c4 v6 _ hr14) ?_;refine AJ ?_;refine AJ ?_;obtain ⟨j27,hj27,h⟩:=OB h;refine AS (s1:=⟨Fr 98 [(3,hd 0 (j27.1.map AB.enc)),(4,.st c3),(6,.pt 1 0 0),(7,.pt 2 0 0),(8,hd 3 (j27.2.2.2.2.2.2.2.2.2.2.1.map cdS.enc)),(13,.sl 5 (((x0.take (mnI (x0.length:Int) 8).toNat).drop (0:Int).toNat).map (cdA (csC (cdK .u8) (csC (cdK .u8) (csC (cdK .u8) (csC cdB (csE cdB))))) (fun _=>rfl)).enc)),(14,.v (.int .i64 (((x0.take (mnI (x0.length:Int) 8).toNat).drop (0:Int).toNat).length:Int))),(15,.v (.int .i64 c4)),(49,.v (.bool j27.2.2.2.2.2.2.2.2.2.2.2))],[mk 5 60 (j27.1.map AB.enc),some ⟨5,107,[.ag [.v (.int .u8 j27.2.1),.v (.int .u8 j27.2.2.1),.v (.int .u8 j27.2.2.2.1),.v (.bool j27.2.2.2.2.1),.v (.bool j27.2.2.2.2.2.1)]],false⟩,some ⟨5,60,[.ag [.v (.int .u8 j27.2.2.2.2.2.2.1),.st j27.2.2.2.2.2.2.2.1,.v (.bool j27.2.2.2.2.2.2.2.2.1),.e0,.v (.int .i64 j27.2.2.2.2.2.2.2.2.2.1)]],false⟩,mk 1 9 (j27.2.2.2.2.2.2.2.2.2.2.1.map cdS.enc)]⟩) ?_ ?_
   ·refine AF (n:=98) AC 3 [(3,hd 0 (c2.map AB.enc)),(4,.st c3),(6,.pt 1 0 0),(7,.pt 2 0 0),(8,hd 3 (r14.map cdS.enc)),(13,.sl 5 (((x0.take (mnI (x0.length:Int) 8).toNat).drop (0:Int).toNat).map (cdA (csC (cdK .u8) (csC (cdK .u8) (csC (cdK .u8) (csC cdB (csE cdB))))) (fun _=>rfl)).enc)),(14,.v (.int .i64 (((x0.take (mnI (x0.length:Int) 8).toNat).drop (0:Int).toNat).length:Int))),(15,.v (.int .i64 c4)),(45,.v (.bool v6.2.2.2.2))] [mk 5 60 (c2.map AB.enc),some ⟨5,107,[.ag [.v (.int .u8 v6.1),.v (.int .u8 v6.2.1),.v (.int .u8 v6.2.2.1),.v (.bool v6.2.2.2.1),.v (.bool v6.2.2.2.2)]],false⟩,some ⟨5,60,[.ag [.v (.int .u8 (wr .u8 (1 + (v6.1.tmod 10)))),.st [],.v (.bool false),.e0,.v (.int .i64 0)]],false⟩,mk 1 9 (r14.map cdS.enc)] kr ?_
    rcases BE v6.2.2.2.2 with hc2062 | hc2062
    ·rw [if_pos hc2062] at hj27
     rw [hc2062];refine AF (n:=98) AC 4 [(3,hd 0 (c2.map AB.enc)),(4,.st c3),(6,.pt 1 0 0),(7,.pt 2 0 0),(8,hd 3 (r14.map cdS.enc)),(13,.sl 5 (((x0.take (mnI (x0.length:Int) 8).toNat).drop (0:Int).toNat).map (cdA (csC (cdK .u8) (csC (cdK .u8) (csC (cdK .u8) (csC cdB (csE cdB))))) (fun _=>rfl)).enc)),(14,.v (.int .i64 (((x0.take (mnI (x0.length:Int) 8).toNat).drop (0:Int).toNat).length:Int))),(15,.v (.int .i64 c4)),(46,.pt 2 0 0),(47,.v (.int .u8 (wr .u8 (1 + (v6.1.tmod 10))))),(48,.v (.bool ((wr .u8 (1 + (v6.1.tmod 10)))!=1))),(49,.v (.bool ((wr .u8 (1 + (v6.1.tmod 10)))!=1)))] [mk 5 60 (c2.map AB.enc),some ⟨5,107,[.ag [.v (.int .u8 v6.1),.v (.int .u8 v6.2.1),.v (.int .u8 v6.2.2.1),.v (.bool v6.2.2.2.1),.v (.bool true)]],false⟩,some ⟨5,60,[.ag [.v (.int .u8 (wr .u8 (1 + (v6.1.tmod 10)))),.st [],.v (.bool false),.e0,.v (.int .i64 0)]],false⟩,mk 1 9 (r14.map cdS.enc)] kr ?_;have hq:=OI hj27; subst hq;exact AR rfl (Az [0,1,2,3] ⟨⟨_,rfl,Dl⟩,⟨_,rfl,C8⟩,⟨_,rfl,C8⟩,⟨_,rfl,Dl⟩,trivial⟩ ⟨Dp (b':=0) kr kr,lv,lv,lv,Dp (b':=3) kr kr,lv,lv,lv,lv,trivial⟩)
    ·rw [Cg hc2062] at hj27
     rw [hc2062];refine AF (n:=98) AC 4 [(3,hd 0 (c2.map AB.enc)),(4,.st c3),(6,.pt 1 0 0),(7,.pt 2 0 0),(8,hd 3 (r14.map cdS.enc)),(13,.sl 5 (((x0.take (mnI (x0.length:Int) 8).toNat).drop (0:Int).toNat).map (cdA (csC (cdK .u8) (csC (cdK .u8) (csC (cdK .u8) (csC cdB (csE cdB))))) (fun _=>rfl)).enc)),(14,.v (.int .i64 (((x0.take (mnI (x0.length:Int) 8).toNat).drop (0:Int).toNat).length:Int))),(15,.v (.int .i64 c4)),(46,.tp []),(47,.tp []),(48,.tp []),(49,.v (.bool false))] [mk 5 60 (c2.map AB.enc),some ⟨5,107,[.ag [.v (.int .u8 v6.1),.v (.int .u8 v6.2.1),.v (.int .u8 v6.2.2.1),.v (.bool v6.2.2.2.1),.v (.bool false)]],false⟩,some ⟨5,60,[.ag [.v (.int .u8 (wr .u8 (1 + (v6.1.tmod 10)))),.st [],.v (.bool false),.e0,.v (.int .i64 0)]],false⟩,mk 1 9 (r14.map cdS.enc)] kr ?_;have hq:=OI hj27; subst hq;exact AR rfl (Az [0,1,2,3] ⟨⟨_,rfl,Dl⟩,⟨_,rfl,C8⟩,⟨_,rfl,C8⟩,⟨_,rfl,Dl⟩,trivial⟩ ⟨Dp (b':=0) kr kr,lv,lv,lv,Dp (b':=3) kr kr,lv,lv,lv,lv,trivial⟩)
   obtain ⟨r40,hr40,h⟩:=OB h;refine DE (ND x0 c3 c4 j27 _ hr40) ?_;refine AJ ?_;refine AP AC [(3,hd 0 (r40.1.map AB.enc)),(4,.st c3),(6,.pt 1 0 0),(7,.pt 2 0 0),(8,hd 3 (r40.2.2.2.2.2.2.2.2.2.2.map cdS.enc)),(13,.sl 5 (((x0.take (mnI (x0.length:Int) 8).toNat).drop (0:Int).toNat).map (cdA (csC (cdK .u8) (csC (cdK .u8) (csC (cdK .u8) (csC cdB (csE cdB))))) (fun _=>rfl)).enc)),(14,.v (.int .i64 (((x0.take (mnI (x0.length:Int) 8).toNat).drop (0:Int).toNat).length:Int))),(15,.v (.int .i64 c4)),(53,.v (.int .u8 r40.2.2.2.2.2.2.1))] [mk 5 60 (r40.1.map AB.enc),some ⟨5,107,[.ag [.v (.int .u8 r40.2.1),.v (.int .u8 r40.2.2.1),.v (.int .u8 r40.2.2.2.1),.v (.bool r40.2.2.2.2.1),.v (.bool r40.2.2.2.2.2.1)]],false⟩,some ⟨5,60,[.ag [.v (.int .u8 r40.2.2.2.2.2.2.1),.st r40.2.2.2.2.2.2.2.1,.v (.bool r40.2.2.2.2.2.2.2.2.1),.e0,.v (.int .i64 r40.2.2.2.2.2.2.2.2.2.1)]],false⟩,mk 1 9 (r40.2.2.2.2.2.2.2.2.2.2.map cdS.enc)] ?_;refine CI ?_;refine AP AC [(3,hd 0 (r40.1.map AB.enc)),(4,.st c3),(6,.pt 1 0 0),(7,.pt 2 0 0),(8,hd 3 (r40.2.2.2.2.2.2.2.2.2.2.map cdS.enc)),(13,.sl 5 (((x0.take (mnI (x0.length:Int) 8).toNat).drop (0:Int).toNat).map (cdA (csC (cdK .u8) (csC (cdK .u8) (csC (cdK .u8) (csC cdB (csE cdB))))) (fun _=>rfl)).enc)),(14,.v (.int .i64 (((x0.take (mnI (x0.length:Int) 8).toNat).drop (0:Int).toNat).length:Int))),(15,.v (.int .i64 c4)),(53,.v (.int .u8 r40.2.2.2.2.2.2.1)),(54,.v (.bool (r40.2.2.2.2.2.2.1==1)))] [mk 5 60 (r40.1.map AB.enc),some ⟨5,107,[.ag [.v (.int .u8 r40.2.1),.v (.int .u8 r40.2.2.1),.v (.int .u8 r40.2.2.2.1),.v (.bool r40.2.2.2.2.1),.v (.bool r40.2.2.2.2.2.1)]],false⟩,some ⟨5,60,[.ag [.v (.int .u8 r40.2.2.2.2.2.2.1),.st r40.2.2.2.2.2.2.2.1,.v (.bool r40.2.2.2.2.2.2.2.2.1),.e0,.v (.int .i64 r40.2.2.2.2.2.2.2.2.2.1)]],false⟩,mk 1 9 (r40.2.2.2.2.2.2.2.2.2.2.map cdS.enc)] ?_;obtain ⟨r2060,hr2060,h⟩:=OB h;refine DE (NE x0 c3 c4 r40 _ hr2060) ?_;by_cases hk2061:(Dj 64 (r2060.1.length + 1))=true
   case neg=>rw [if_neg hk2061] at h; cases h
   rw [if_pos hk2061] at h;refine AS (s1:=⟨Fr 98 [(3,hd 0 ((r2060.1++[r2060.2.2]).map AB.enc)),(4,.st r2060.2.1),(13,.sl 5 (((x0.take (mnI (x0.length:Int) 8).toNat).drop (0:Int).toNat).map (cdA (csC (cdK .u8) (csC (cdK .u8) (csC (cdK .u8) (csC cdB (csE cdB))))) (fun _=>rfl)).enc)),(14,.v (.int .i64 (((x0.take (mnI (x0.length:Int) 8).toNat).drop (0:Int).toNat).length:Int))),(15,.v (.int .i64 c4))],[mk 5 60 ((r2060.1++[r2060.2.2]).map AB.enc)]⟩) ?_ ?_
   ·refine AF (n:=98) AC 3 [(4,.st r2060.2.1),(13,.sl 5 (((x0.take (mnI (x0.length:Int) 8).toNat).drop (0:Int).toNat).map (cdA (csC (cdK .u8) (csC (cdK .u8) (csC (cdK .u8) (csC cdB (csE cdB))))) (fun _=>rfl)).enc)),(14,.v (.int .i64 (((x0.take (mnI (x0.length:Int) 8).toNat).drop (0:Int).toNat).length:Int))),(15,.v (.int .i64 c4)),(92,hd 0 (r2060.1.map AB.enc)),(94,hd 2 ([r2060.2.2].map AB.enc))] [mk 5 60 (r2060.1.map AB.enc),some ⟨5,60,[AB.enc r2060.2.2],false⟩,mk 5 60 ([r2060.2.2].map AB.enc)] kr ?_
    refine A6 AC 0 rfl (Q9 (AA rfl) rfl kr kr (FE (a:=hd 0 (r2060.1.map AB.enc)) (b:=hd 2 ([r2060.2.2].map AB.enc)) kr kr (NP (c:=AB) (xs:=r2060.1) (vs:=[r2060.2.2]) (k:=5) (bytes:=64) (el:=60) kr kr (NQ (t:=60) kr) (List.cons_ne_nil _ _) kr hk2061))) ?_;refine AF (n:=98) AC 1 [(3,hd 3 ((r2060.1++[r2060.2.2]).map AB.enc)),(4,.st r2060.2.1),(13,.sl 5 (((x0.take (mnI (x0.length:Int) 8).toNat).drop (0:Int).toNat).map (cdA (csC (cdK .u8) (csC (cdK .u8) (csC (cdK .u8) (csC cdB (csE cdB))))) (fun _=>rfl)).enc)),(14,.v (.int .i64 (((x0.take (mnI (x0.length:Int) 8).toNat).drop (0:Int).toNat).length:Int))),(15,.v (.int .i64 c4))] [none,some ⟨5,60,[AB.enc r2060.2.2],false⟩,mk 5 60 ([r2060.2.2].map AB.enc),mk 5 60 ((r2060.1++[r2060.2.2]).map AB.enc)] kr ?_;exact AR rfl (Az [3] ⟨⟨_,rfl,Dl⟩,trivial⟩ ⟨Dp (b':=3) kr kr,lv,lv,lv,lv,trivial⟩)
   refine Fb AC [(3,hd 0 ((r2060.1++[r2060.2.2]).map AB.enc)),(4,.st r2060.2.1),(13,.sl 5 (((x0.take (mnI (x0.length:Int) 8).toNat).drop (0:Int).toNat).map (cdA (csC (cdK .u8) (csC (cdK .u8) (csC (cdK .u8) (csC cdB (csE cdB))))) (fun _=>rfl)).enc)),(14,.v (.int .i64 (((x0.take (mnI (x0.length:Int) 8).toNat).drop (0:Int).toNat).length:Int))),(15,.v (.int .i64 (wr .i64 (c4 + 1))))] [mk 5 60 ((r2060.1++[r2060.2.2]).map AB.enc)] ?_;exact Ck (s1:=⟨Fr 98 [(3,hd 0 ((r2060.1++[r2060.2.2]).map AB.enc)),(4,.st r2060.2.1),(13,.sl 5 (((x0.take (mnI (x0.length:Int) 8).toNat).drop (0:Int).toNat).map (cdA (csC (cdK .u8) (csC (cdK .u8) (csC (cdK .u8) (csC cdB (csE cdB))))) (fun _=>rfl)).enc)),(14,.v (.int .i64 (((x0.take (mnI (x0.length:Int) 8).toNat).drop (0:Int).toNat).length:Int))),(15,.v (.int .i64 (wr .i64 (c4 + 1))))],[mk 5 60 ((r2060.1++[r2060.2.2]).map AB.enc)]⟩) (Az [0] ⟨⟨_,rfl,Dl⟩,trivial⟩ ⟨Dp (b':=0) kr kr,lv,lv,lv,lv,trivial⟩) (ih (r2060.1++[r2060.2.2]) r2060.2.1 (wr .i64 (c4 + 1)) h)
  ·rw [Cg hb5] at h
   refine F8 ?_;have hq:=OI h; subst hq;exact ⟨rfl,(Az [0] ⟨⟨_,rfl,Dl⟩,trivial⟩ ⟨Dp (b':=0) kr kr,trivial⟩)⟩
/- trestle/trestlelaw03.Made: with what it hands back as own -/
theorem N3 (x0:(List (Int×Int×Int×Bool×Bool))) (r:(List AE)) (h:ID x0=some r):Sem E0 ⟨none,false⟩ Cq ⟨Fr 98 (BQ 0 (Lt.enc (x0,()))),[]⟩ fun e s'=>(e = .normal\/e = .ret)/\∃ xs,Es E0.P s'.fr s'.hp Tryz.f19.results.toList=some xs/\(FG xs=hd 0 (r.map AB.enc)/\s'.hp=[mk 5 60 (r.map AB.enc)]):=by
 unfold ID at h
 let p1:Nat×AV:=(0,.sl 5 (x0.map (cdA (csC (cdK .u8) (csC (cdK .u8) (csC (cdK .u8) (csC cdB (csE cdB))))) (fun _=>rfl)).enc))
 refine BV (CK (s1:=⟨Fr 98 [p1],[]⟩) AZ ?_);refine AP AC [p1] [] ?_;refine AP AC [p1,(3,.e0)] [] ?_;refine AP AC [p1,(3,.e0),(4,.st [])] [] ?_;refine AJ ?_;refine AJ ?_;by_cases hk1:(DK 0 (mnI (x0.length:Int) 8) x0.length)=true
 case neg=>rw [if_neg hk1] at h; cases h
 rw [if_pos hk1] at h
 let p2:Nat×AV:=(15,.v (.int .i64 0))
 let p3:Nat×AV:=(14,.v (.int .i64 (((x0.take (mnI (x0.length:Int) 8).toNat).drop (0:Int).toNat).length:Int)))
 let p4:Nat×AV:=(13,.sl 5 (((x0.take (mnI (x0.length:Int) 8).toNat).drop (0:Int).toNat).map (cdA (csC (cdK .u8) (csC (cdK .u8) (csC (cdK .u8) (csC cdB (csE cdB))))) (fun _=>rfl)).enc))
 refine AS (s1:=⟨Fr 98 [(3,.e0),(4,.st []),p4,p3,p2],[]⟩) ?_ ?_
 ·let p5:Nat×AV:=(9,.sl 5 (x0.map (cdA (csC (cdK .u8) (csC (cdK .u8) (csC (cdK .u8) (csC cdB (csE cdB))))) (fun _=>rfl)).enc))
  refine AF (n:=98) AC 2 [(3,.e0),(4,.st []),p5,(10,.sl 5 (x0.map (cdA (csC (cdK .u8) (csC (cdK .u8) (csC (cdK .u8) (csC cdB (csE cdB))))) (fun _=>rfl)).enc))] [] kr ?_;refine A6 AC 0 rfl (Cw (AA rfl) rfl (Ed (a:= .sl 5 (x0.map (cdA (csC (cdK .u8) (csC (cdK .u8) (csC (cdK .u8) (csC cdB (csE cdB))))) (fun _=>rfl)).enc)) kr (DC (el:=107) kr))) ?_;refine AF (n:=98) AC 1 [(3,.e0),(4,.st []),p5,(12,.v (.int .i64 (mnI (x0.length:Int) 8)))] [] kr ?_;refine A6 AC 0 rfl (Cw (AA rfl) rfl (EE (a:= .sl 5 (x0.map (cdA (csC (cdK .u8) (csC (cdK .u8) (csC (cdK .u8) (csC cdB (csE cdB))))) (fun _=>rfl)).enc)) (l:=none) (u:=(some (.v (.int .i64 (mnI (x0.length:Int) 8))))) (m:=none) kr kr kr rfl (K0 (xs:=x0) (e:=(cdA (csC (cdK .u8) (csC (cdK .u8) (csC (cdK .u8) (csC cdB (csE cdB))))) (fun _=>rfl)).enc) (k:=5) (el:=107) (lo:=0) (hi:=(mnI (x0.length:Int) 8)) kr kr rfl (GR (JP hk1)) hk1))) ?_;refine A6 AC 0 rfl (Cw (AA rfl) rfl (Ed (a:= .sl 5 (((x0.take (mnI (x0.length:Int) 8).toNat).drop (0:Int).toNat).map (cdA (csC (cdK .u8) (csC (cdK .u8) (csC (cdK .u8) (csC cdB (csE cdB))))) (fun _=>rfl)).enc)) kr (DC (el:=107) kr))) ?_;exact BH AC
 refine CI ?_;obtain ⟨r2064,hr2064,h⟩:=OB h;refine F9 (n:=100000) ?_
 let p6:Nat×AV:=(3,hd 0 ([].map AB.enc))
 refine DR (Ck (s1:=⟨Fr 98 [p6,(4,.st []),p4,p3,p2],[mk 5 60 ([].map AB.enc)]⟩) (Wk.trans (s1:=⟨Fr 98 [p6,(4,.st []),p4,p3,p2],[mk 5 60 ([].map AB.enc)]⟩) Wk.none (Az [0] ⟨⟨_,rfl,RD⟩,trivial⟩ ⟨lv,lv,lv,lv,lv,trivial⟩)) (NG x0 _ [] [] 0 _ hr2064)) ?_
 let p7:Option Blk:=mk 5 60 (r2064.map AB.enc)
 let p8:Nat×AV:=(2,hd 0 (r2064.map AB.enc))
 refine AP AC [p8] [p7] ?_;refine Ah ?_;have hq:=OI h; subst hq;exact ⟨⟨Fr 98 [p8],[p7]⟩,(Az [0] ⟨⟨_,rfl,Dl⟩,trivial⟩ ⟨Dp (b':=0) kr kr,trivial⟩),.inr rfl,[hd 0 (r2064.map AB.enc)],kr,rfl,rfl⟩
theorem Qv (x0:(List (Int×Int×Int×Bool×Bool))) (r:(List AE)) (h:ID x0=some r):SOk 19 (Lt.enc (x0,())) (fun x h'=>x=hd 0 (r.map AB.enc)/\h'=[mk 5 60 (r.map AB.enc)]):=Ro Tryz.func19 (c:=Cq) (show Tryz.f19.body=some Cq by kernel_rfl) ⟨Tryz.call19⟩ (by show 1<=98; decide) (N3 x0 r h)
theorem P0 {R:List RI}{c:Nat}:¬ own R [] c:=fun ⟨b,B,_,hb,_⟩=>by simp at hb
/-- What a call hands back, seen as frozen. -/
def TG (h:Hp):AV->Option AV
 | .tp l=>(Ou (GN h 12) l).map .tp
 | x=>GN h 12 x
theorem Vp {w:World}{Z:Nat->Prop}{R:List RI}{h:Hp}{x y:AV}{v:Value}(hh:HR w Z R h) (hv:VR w Z R x v) (e:TG h x=some y):VR w (fun c=>Z c\/own R h c) [] y v:=by
 unfold TG at e
 split at e
 ·obtain ⟨ys,h1,rfl⟩:=Option.map_eq_some_iff.1 e
  cases hv with
  | tp hl hx =>
   have:=allV_vr (K3 hh 12) ⟨hl,hx⟩ h1
   exact .tp this.len this.at_
 ·exact K3 hh 12 _ _ _ hv e
theorem frz_ret {E:Env}{f:FuncId}{w:World}{Z:Nat->Prop}{us:List Value}{x y:AV}{h':Hp}(hr:QO E f us w Z [] [] x h') (hv:TG h' x=some y) :
  Ret E.P f us.toArray w fun v w'=>w.grownBy w' none/\VR w' (fun c=>Z c\/(w.heap.size<=c/\c < w'.heap.size)) [] y v:=by
 refine Ret.mono hr fun v w' hS=>?_
 obtain ⟨Z',R',k1,k2,k3⟩:=hS
 refine ⟨⟨k3.os,k3.tape,k3.output,k3.size,fun c hc _=>k3.block c hc P0⟩,(Vp k1 k2 hv).mono (fun _ _=>rfl) (fun c hc=>?_) (fun _ _ h=>h)⟩
 rcases hc with hc | hc
 ·rcases k3.z' c hc with h1 | h1 | h1
  ·exact .inl h1
  ·exact absurd h1 P0
  ·exact .inr ⟨h1,k1.zlt c hc⟩
 ·rcases k3.own_ c hc with h1 | h1
  ·exact absurd h1 P0
  ·obtain ⟨b,B,r,h2,_,h3,rfl⟩:=hc
   exact .inr ⟨h1,k1.rltL h2 h3⟩
theorem hr_nil {w:World}{Z:Nat->Prop}(hz:∀ c,Z c->c < w.heap.size):HR w Z [] []:=⟨rfl,fun b B hB=>by simp at hB,fun b b' B B' r r' hB=>by simp at hB,hz⟩
/-- A closed call is told by what the interpreter finds. -/
theorem TY {E:Env}(hE:EnvOk E){f:FuncId}{g:List AV->Option AV}(hc:B8 E.P f) (hg:∀ xs y,g xs=some y->∃ n x h',JR E (evC E n) none f xs []=some (x,h')/\TG h' x=some y):EnvOk (E.withX f g):=by
 refine hE.withX hc fun xs y h w Z us hz hgi hv=>?_
 obtain ⟨n,x,h',he,hvw⟩:=hg xs y h
 exact frz_ret (enter_sound hE (code_sound hE n).1 he (hr_nil hz) hv hgi (fun y hy=>by cases hy)) hvw
/-- What a closed call hands back, frozen. -/
def Bu (E:Env) (n:Nat) (f:FuncId) (args:List AV):Option AV:=match JR E (evC E n) none f args [] with
 | some (x,h')=>TG h' x
 | none=>none
/-- The same values? -/
def kB:IntKind->IntKind->Bool
 | .i64,.i64=>true
 | .u8,.u8=>true
 | _,_=>false
def vB:Value->Value->Bool
 | .int k a,.int k' b=>kB k k'&&a==b
 | .bool a,.bool b=>a==b
 | .pointer none,.pointer none=>true
 | _,_=>false
def bsB:List UInt8->List UInt8->Bool
 | [],[]=>true
 | a::l,b::r=>Nat.beq a.toNat b.toNat&&bsB l r
 | _,_=>false
def Up (g:AV->AV->Bool):List AV->List AV->Bool
 | [],[]=>true
 | a::l,b::r=>g a b&&Up g l r
 | _,_=>false
def Ux:Nat->AV->AV->Bool
 | 0,_,_=>false
 | n + 1,x,y=>match x,y with
  | .v a,.v b=>vB a b
  | .st a,.st b=>bsB a b
  | .e0,.e0=>true
  | .sl k a,.sl k' b=>Nat.beq k k'&&Up (Ux n) a b
  | .pe a o,.pe b o'=>Nat.beq o o'&&Ux n a b
  | .ag a,.ag b=>Up (Ux n) a b
  | .tp a,.tp b=>Up (Ux n) a b
  | .fn f a b,.fn f' a' b'=>Nat.beq f f'&&(Up (Ux n) a a'&&Up (Ux n) b b')
  | _,_=>false
theorem Zr {a b:IntKind}(h:kB a b=true):a=b:=by
 unfold kB at h
 split at h
 ·rfl
 ·rfl
 ·cases h
theorem Z7 {a b:Value}(h:vB a b=true):a=b:=by
 unfold vB at h
 split at h
 ·rw [Bool.and_eq_true] at h
  rw [Zr h.1,eq_of_beq h.2]
 ·rw [eq_of_beq h]
 ·rfl
 ·cases h
theorem Vy:∀ {a b:List UInt8},bsB a b=true->a=b
 | [],[],_=>rfl
 | x::l,y::r,h=>by
  unfold bsB at h
  rw [Bool.and_eq_true] at h
  rw [UInt8.toNat_inj.1 (Nat.eq_of_beq_eq_true h.1),Vy h.2]
 | [],_::_,h=>by cases h
 | _::_,[],h=>by cases h
theorem KG {g:AV->AV->Bool}(hg:∀ x y,g x y=true->x=y):∀ {a b:List AV},Up g a b=true->a=b
 | [],[],_=>rfl
 | x::l,y::r,h=>by
  unfold Up at h
  rw [Bool.and_eq_true] at h
  rw [hg _ _ h.1,KG hg h.2]
 | [],_::_,h=>by cases h
 | _::_,[],h=>by cases h
theorem RC:∀ (n:Nat) (x y:AV),Ux n x y=true->x=y
 | 0,_,_,h=>by cases h
 | n + 1,x,y,h=>by
  have ih:=RC n
  unfold Ux at h
  split at h
  ·rw [Z7 h]
  ·rw [Vy h]
  ·rfl
  ·rw [Bool.and_eq_true] at h
   rw [Nat.eq_of_beq_eq_true h.1,KG ih h.2]
  ·rw [Bool.and_eq_true] at h
   rw [Nat.eq_of_beq_eq_true h.1,ih _ _ h.2]
  ·rw [KG ih h]
  ·rw [KG ih h]
  ·rw [Bool.and_eq_true,Bool.and_eq_true] at h
   rw [Nat.eq_of_beq_eq_true h.1,KG ih h.2.1,KG ih h.2.2]
  ·cases h
/-- A table. -/
def PV:List (List AV×AV)->List AV->Option AV
 | [],_=>none
 | (a,r)::l,xs=>if Up (Ux 40) a xs=true then some r else PV l xs
def WN (E:Env) (f:FuncId):List (List AV×AV)->Prop
 | []=>True
 | (a,r)::l=>(∃ n,Bu E n f a=some r)/\WN E f l
theorem WG {E:Env}{f:FuncId}:∀ {l:List (List AV×AV)}{xs:List AV}{y:AV},WN E f l->PV l xs=some y->∃ n,Bu E n f xs=some y
 | (a,r)::l,xs,y,h,e=>by
  unfold PV at e
  split at e
  ·next hb =>
   injection e with e
   subst e
   rw [<-KG (RC 40) hb]
   exact h.1
  ·exact WG h.2 e
theorem LG {E:Env}(hE:EnvOk E){f:FuncId}{l:List (List AV×AV)}(hc:B8 E.P f) (h:WN E f l):EnvOk (E.withX f (PV l)):=by
 refine TY hE hc fun xs y e=>?_
 obtain ⟨n,hn⟩:=WG h e
 unfold Bu at hn
 split at hn
 ·next x h' he=>exact ⟨n,x,h',he,hn⟩
 ·cases hn
/-- Another contract, told by a table of its own values. -/
theorem Xb {E:Env}{f:FuncId}{g:List AV->Option AV}{l:List (List AV×AV)}(hE:EnvOk (E.withX f g)) (h:∀ p ∈ l,g p.1=some p.2):EnvOk (E.withX f (PV l)):=by
 have hl:∀ {l:List (List AV×AV)} {xs:List AV} {y:AV},(∀ p ∈ l,g p.1=some p.2)->PV l xs=some y->g xs=some y:=by
  intro l
  induction l with
  | nil=>intro xs y _ e; cases e
  | cons p l ih =>
   intro xs y h e
   obtain ⟨a,r⟩:=p
   unfold PV at e
   split at e
   ·next hb =>
    injection e with e
    subst e
    rw [<-KG (RC 40) hb]
    exact h (a,r) (by simp)
   ·exact ih (fun p hp=>h p (List.mem_cons_of_mem _ hp)) e
 refine ⟨hE.fn,hE.mixed,hE.I,fun k q hk=>?_⟩
 change (if k=f then some (PV l) else E.X k)=some q at hk
 split at hk
 ·next hkf =>
  injection hk with hk
  subst hk hkf
  obtain ⟨h1,h2⟩:=hE.X k g (if_pos rfl)
  exact ⟨h1,fun xs x hx w Z us hz hg hv=>h2 xs x (hl h hx) w Z us hz hg hv⟩
 ·next hkf=>exact hE.X k q ((if_neg hkf).trans hk)
/-- What is told in one environment may be told in another of the same program. -/
theorem Vq {E E':Env}{f:FuncId}{g:List AV->Option AV}(hE:EnvOk E) (h:EnvOk (E'.withX f g)) (hP:E'.P=E.P) (hG:E'.G=E.G):EnvOk (E.withX f g):=by
 obtain ⟨h1,h2⟩:=h.X f g (if_pos rfl)
 have e1:(E'.withX f g).P=E.P:=hP
 refine hE.withX (e1 ▸ h1) fun xs x hx w Z us hz hg hv=>?_
 have:=h2 xs x hx w Z us hz (fun q y hy=>hg q y (by rw [<-hG]; exact hy)) hv
 exact e1 ▸ this
/-- Lists that are told by one value. -/
noncomputable def csJ {α:Type}(e:α->List AV) (hi:∀ x y,e x=e y->x=y) (hn:∀ x,(e x).all Dg=true):Cs α where
 enc:=e
 dec a:=open Classical in if h:∃ x,e x=a then some h.choose else none
 de x:=by
  have h:∃ y,e y=e x:=⟨x,rfl⟩
  rw [dif_pos h,hi _ _ h.choose_spec]
 vr:=fun {w Z a x u} hd hv=>by
  split at hd
  ·next h=>injection hd with hd; subst hd; rw [h.choose_spec]; exact hv
  ·cases hd
 nr:=hn
theorem Pb {α:Type}{n:Nat}{h:Hp}{s:Cs α}{a:α}:Sl (n + 2) h s (s.enc a) a :=
 ⟨s.enc a,KH fun y hy=>Ki (List.all_eq_true.1 (s.nr a) y hy) n,s.de a⟩
theorem Vz {α:Type}{c:Cd α}{x y:α}(h:c.enc x=c.enc y):x=y:=by
 have h1:=c.de x
 rw [h,c.de y] at h1
 exact (OI h1).symm
/-- The order of a clause without regard to Among. -/
def Lv (c:AE):AV :=
 if (c.1==1)=true then .fn 205 [] [.pe (.fn 178 [] [.pe (AB.enc c) 0]) 0] else
 if (c.1==2)=true then .fn 179 [] [.pe (AB.enc c) 0] else
 if (c.1==3)=true then .fn 179 [] [.pe (AB.enc c) 0] else
 if (c.1==4)=true then .fn 205 [] [.pe (.fn 206 [] [.pe (.fn 182 [] [.pe (AB.enc c) 0]) 0,.pe (AB.enc c) 0]) 0] else
 if (c.1==5)=true then .fn 205 [] [.pe (.fn 206 [] [.pe (.fn 183 [] []) 0,.pe (AB.enc c) 0]) 0] else
 if (c.1==6)=true then .fn 205 [] [.pe (.fn 206 [] [.pe (.fn 184 [] [.pe (AB.enc c) 0]) 0,.pe (AB.enc c) 0]) 0] else
 if (c.1==7)=true then .fn 205 [] [.pe (.fn 206 [] [.pe (.fn 186 [] [.pe (AB.enc c) 0]) 0,.pe (AB.enc c) 0]) 0] else
 if (c.1==8)=true then .fn 187 [] [] else
 if (c.1==10)=true then .fn 209 [] [.pe (.fn 208 [] []) 0,.pe (.fn 190 [] [.pe (AB.enc c) 0]) 0] else
 .fn 209 [] [.pe (.fn 208 [] []) 0,.pe (.fn 191 [] []) 0]
def Iu (c:AE):AV:= .fn 165 [] [.pe (AB.enc c) 0,.pe (Lv c) 0]
noncomputable def Bq:Cd AE:=cdJ Iu (fun x y h=>by
 unfold Iu at h
 injection h with _ _ h
 injection h with h
 injection h with h
 exact Vz h) (fun _=>rfl)
noncomputable def QW:Cs AE:=csJ (fun c=>[.pe (AB.enc c) 0,.pe (Lv c) 0]) (fun x y h=>by
 injection h with h
 injection h with h
 exact Vz h) (fun _=>rfl)
/-- A straight call, told by what the interpreter finds. -/
theorem TH {f:FuncId}(hc:B8 E0.P f){α β:Type}(s:Cs α) (F:α->Option β) (er:β->AV) (h:∀ a b,F a=some b->∃ n,Bu E0 n f (s.enc a)=some (er b)):XOk f (Ee s F er):=by
 refine ⟨hc,fun xs y hy w Z us hz hg hv=>?_⟩
 obtain ⟨a,ha,hy⟩:=OB hy
 obtain ⟨b,hb,rfl⟩:=Option.map_eq_some_iff.1 hy
 obtain ⟨n,hn⟩:=h a b hb
 unfold Bu at hn
 split at hn
 ·next x h' he=>exact frz_ret (enter_sound AC (code_sound AC n).1 he (hr_nil hz) (s.vr ha hv) hg (fun y hy=>by cases hy)) hn
 ·cases hn
def FA (x0:AE):Option AE:=if 1<=x0.1/\x0.1<=10 then some x0 else none
def CA:Cs (AE×Unit):=csC AB csN
noncomputable def Hw (r:AE):AV:=Bq.enc r
noncomputable def OP:List AV->Option AV:=Ee CA (fun a=>FA a.1) Hw
section
variable (am:List UInt8) (la:Bool) (nm:List (List UInt8)) (m:Int)
theorem XM:Bu E0 300 133 (CA.enc ((1,am,la,nm,m),()))=some (Iu (1,am,la,nm,m)):=by kernel_rfl
theorem XN:Bu E0 300 133 (CA.enc ((2,am,la,nm,m),()))=some (Iu (2,am,la,nm,m)):=by kernel_rfl
theorem XO:Bu E0 300 133 (CA.enc ((3,am,la,nm,m),()))=some (Iu (3,am,la,nm,m)):=by kernel_rfl
theorem XP:Bu E0 300 133 (CA.enc ((4,am,la,nm,m),()))=some (Iu (4,am,la,nm,m)):=by kernel_rfl
theorem XQ:Bu E0 300 133 (CA.enc ((5,am,la,nm,m),()))=some (Iu (5,am,la,nm,m)):=by kernel_rfl
theorem XR:Bu E0 300 133 (CA.enc ((6,am,la,nm,m),()))=some (Iu (6,am,la,nm,m)):=by kernel_rfl
theorem XS:Bu E0 300 133 (CA.enc ((7,am,la,nm,m),()))=some (Iu (7,am,la,nm,m)):=by kernel_rfl
theorem XT:Bu E0 300 133 (CA.enc ((8,am,la,nm,m),()))=some (Iu (8,am,la,nm,m)):=by kernel_rfl
theorem XU:Bu E0 300 133 (CA.enc ((9,am,la,nm,m),()))=some (Iu (9,am,la,nm,m)):=by kernel_rfl
theorem VV:Bu E0 300 133 (CA.enc ((10,am,la,nm,m),()))=some (Iu (10,am,la,nm,m)):=by kernel_rfl
end
theorem Oi:XOk 133 OP:=by
 refine TH ⟨Tryz.call133⟩ CA (fun a=>FA a.1) Hw fun a b h=>⟨300,?_⟩
 obtain ⟨⟨k,am,la,nm,m⟩,⟨⟩⟩:=a
 by_cases hk:1<=k/\k<=10
 ·have h1:some (k,am,la,nm,m)=some b:=(if_pos hk:FA (k,am,la,nm,m)=_).symm.trans h
  have h2:Hw b=Iu (k,am,la,nm,m):=congrArg Iu (OI h1).symm
  rw [h2]
  clear h h1 h2
  have hk':k=1\/k=2\/k=3\/k=4\/k=5\/k=6\/k=7\/k=8\/k=9\/k=10:=by omega
  rcases hk' with rfl | rfl | rfl | rfl | rfl | rfl | rfl | rfl | rfl | rfl
  ·exact XM am la nm m
  ·exact XN am la nm m
  ·exact XO am la nm m
  ·exact XP am la nm m
  ·exact XQ am la nm m
  ·exact XR am la nm m
  ·exact XS am la nm m
  ·exact XT am la nm m
  ·exact XU am la nm m
  ·exact VV am la nm m
 ·exact nomatch ((if_neg hk:FA (k,am,la,nm,m)=_).symm.trans h)
/- trestle/court.name -/
noncomputable def Ja:Code:=Bo Tryz.f96
def EN (x0:(List UInt8)):Nat->Int->Option ((Unit) ⊕ (Bool))
 | 0,_=>none
 | f + 1,c1 =>
  if (decide (c1 < (x0.length:Int)))=true then
  (idx x0 c1).bind fun v3 =>
  (if (decide ((v3.toNat:Int) < 97))=true then some true else (idx x0 c1).bind fun v4 =>
  some (decide ((v4.toNat:Int) > 122))).bind fun j6 =>
  if j6=true then
  some (.inr false)
  else
  EN x0 f (wr .i64 (c1 + 1))
  else
  some (.inl ())
def Fo (x0:(List UInt8)):Option (Bool) :=
 (EN x0 100000 0).bind fun r10 =>
 match r10 with
 | (.inl w11) =>
  (if (decide ((x0.length:Int)≥1))=true then some (decide ((x0.length:Int)<=12)) else some false).bind fun j13 =>
  some j13
 | (.inr w15) =>
  some w15
def Jd:Cs ((List UInt8)×Unit):=(csC cdS csN)
def Jf (r:Bool):AV:=cdB.enc r
theorem J3 (x0:(List UInt8)):∀ (f:Nat) (c1:Int) (r:(Unit) ⊕ (Bool)),EN x0 f c1=some r->SemN E0 ⟨none,false⟩ (pc Ja [1,0,1,0,0]) f ⟨Fr 28 [(0,.st x0),(3,.v (.int .i64 c1))],[]⟩ (fun e s=>match r with
 | (.inl w)=>e=(.exit 0)/\Wk E0 s ⟨Fr 28 [(0,.st x0)],[]⟩
 | (.inr w)=>e = .ret/\Wk E0 s ⟨Fr 28 [(2,.v (.bool w))],[]⟩):=by
 intro f;induction f with
 | zero=>intro c1 r h; cases h
 | succ f ih0 =>
  intro c1 r h
  have ih:=fun (c1:Int)=>ih0 c1 r
  unfold EN at h;refine FI ?_;refine AJ ?_;refine AP AC [(0,.st x0),(3,.v (.int .i64 c1)),(7,.v (.bool (decide (c1 < (x0.length:Int)))))] [] ?_;refine Ab (b:=(decide (c1 < (x0.length:Int)))) kr (fun hb2=>?_) (fun hb2=>?_)
  ·rw [if_pos hb2] at h
   refine As ?_;refine AJ ?_;refine CI ?_;refine AJ ?_;obtain ⟨v3,hv3,h⟩:=OB h;obtain ⟨j6,hj6,h⟩:=OB h;refine AS (s1:=⟨Fr 28 [(0,.st x0),(3,.v (.int .i64 c1)),(19,.v (.bool j6))],[]⟩) ?_ ?_
   ·refine AF (n:=28) AC 2 [(0,.st x0),(3,.v (.int .i64 c1)),(10,.st x0),(11,.v (.int .i64 c1))] [] kr ?_
    refine A6 AC 0 rfl (Cw (AA rfl) rfl (UL (a:= .st x0) (b:= .v (.int .i64 c1)) kr kr (SM (bs:=x0) (ki:= .i64) kr hv3))) ?_;refine AF (n:=28) AC 2 [(0,.st x0),(3,.v (.int .i64 c1)),(14,.v (.bool (decide ((v3.toNat:Int) < 97))))] [] kr ?_;rcases BE (decide ((v3.toNat:Int) < 97)) with hc9 | hc9
    ·rw [if_pos hc9] at hj6
     rw [hc9];refine AF (n:=28) AC 5 [(0,.st x0),(3,.v (.int .i64 c1)),(15,.tp []),(16,.tp []),(17,.tp []),(18,.tp []),(19,.v (.bool true))] [] kr ?_;have hq:=OI hj6; subst hq;exact AR rfl AZ
    ·rw [Cg hc9] at hj6
     rw [hc9];refine AF (n:=28) AC 2 [(0,.st x0),(3,.v (.int .i64 c1)),(14,.v (.bool false)),(15,.st x0),(16,.v (.int .i64 c1))] [] kr ?_;obtain ⟨v4,hv4,hj6⟩:=OB hj6;refine A6 AC 0 rfl (Cw kr rfl (UL (a:= .st x0) (b:= .v (.int .i64 c1)) kr kr (SM (bs:=x0) (ki:= .i64) kr hv4))) ?_;refine AF (n:=28) AC 2 [(0,.st x0),(3,.v (.int .i64 c1)),(15,.st x0),(16,.v (.int .i64 c1)),(17,.v (.int .u8 (v4.toNat:Int))),(18,.v (.bool (decide ((v4.toNat:Int) > 122)))),(19,.v (.bool (decide ((v4.toNat:Int) > 122))))] [] kr ?_;have hq:=OI hj6; subst hq;exact AR rfl AZ
   refine Ab (b:=j6) kr (fun hb7=>?_) (fun hb7=>?_)
   ·rw [if_pos hb7] at h
    refine AP AC [(2,.v (.bool false))] [] ?_;refine Ah ?_;have hq:=OI h; subst hq;exact ⟨rfl,AZ⟩
   ·rw [Cg hb7] at h
    refine As ?_;refine Fb AC [(0,.st x0),(3,.v (.int .i64 (wr .i64 (c1 + 1))))] [] ?_;exact Ck (s1:=⟨Fr 28 [(0,.st x0),(3,.v (.int .i64 (wr .i64 (c1 + 1))))],[]⟩) AZ (ih (wr .i64 (c1 + 1)) h)
  ·rw [Cg hb2] at h
   refine F8 ?_;have hq:=OI h; subst hq;exact ⟨rfl,AZ⟩
theorem Oy (x0:(List UInt8)) (r:Bool) (h:Fo x0=some r):Sem E0 ⟨none,false⟩ Ja ⟨Fr 28 (BQ 0 (Jd.enc (x0,()))),[]⟩ fun e s'=>(e = .normal\/e = .ret)/\∃ xs,Es E0.P s'.fr s'.hp Tryz.f96.results.toList=some xs/\FG xs=Jf r:=by
 unfold Fo at h;refine BV (CK (s1:=⟨Fr 28 [(0,.st x0)],[]⟩) AZ ?_);refine AP AC [(0,.st x0)] [] ?_;refine AJ ?_;refine AP AC [(0,.st x0),(3,.v (.int .i64 0))] [] ?_;refine CI ?_;obtain ⟨r10,hr10,h⟩:=OB h;refine F9 (n:=100000) ?_;rcases r10 with w11 | w15
 ·try dsimp only at h
  refine DR (Ck (s1:=⟨Fr 28 [(0,.st x0),(3,.v (.int .i64 0))],[]⟩) AZ (J3 x0 _ 0 _ hr10)) ?_;refine AJ ?_;obtain ⟨j13,hj13,h⟩:=OB h;refine AS (s1:=⟨Fr 28 [(2,.v (.bool j13))],[]⟩) ?_ ?_
  ·refine AF (n:=28) AC 4 [(0,.st x0),(23,.v (.bool (decide ((x0.length:Int)≥1))))] [] kr ?_
   rcases BE (decide ((x0.length:Int)≥1)) with hc14 | hc14
   ·rw [if_pos hc14] at hj13
    rw [hc14];refine AF (n:=28) AC 5 [(2,.v (.bool (decide ((x0.length:Int)<=12))))] [] kr ?_;have hq:=OI hj13; subst hq;exact AR rfl AZ
   ·rw [Cg hc14] at hj13
    rw [hc14];refine AF (n:=28) AC 5 [(2,.v (.bool false))] [] kr ?_;have hq:=OI hj13; subst hq;exact AR rfl AZ
  refine Ah ?_;have hq:=OI h; subst hq;exact ⟨⟨Fr 28 [(2,.v (.bool j13))],[]⟩,AZ,.inr rfl,[.v (.bool j13)],kr,kr⟩
 ·try dsimp only at h
  refine DR (Ck (s1:=⟨Fr 28 [(0,.st x0),(3,.v (.int .i64 0))],[]⟩) AZ (J3 x0 _ 0 _ hr10)) ?_;have hq:=OI h; subst hq;exact ⟨⟨Fr 28 [(2,.v (.bool w15))],[]⟩,AZ,.inr rfl,[.v (.bool w15)],kr,kr⟩
def Q0:List AV->Option AV:=Ee Jd (fun a=>Fo a.1) Jf
theorem Kn:XOk 96 Q0:=by
 refine Ad Tryz.func96 (c:=Ja) ?h2 ⟨Tryz.call96⟩ Jd (fun a=>Fo a.1) Jf (fun a=>(by show 1<=28; decide)) ?h3 ?h4
 case h2=>kernel_rfl
 case h3=>intro b; kernel_rfl
 case h4=>exact fun a b h=>Oy a.1 b h
/- slices.Index[[]string,string] -/
noncomputable def Db:Code:=Bo Tryz.f41
def Ac (x0:(List (List UInt8))) (x1:(List UInt8)):Nat->Int->Option ((Unit) ⊕ (Int))
 | 0,_=>none
 | f + 1,c1 =>
  if (decide (c1 < (x0.length:Int)))=true then
  (idx x0 c1).bind fun v3 =>
  if (x1==v3)=true then
  some (.inr c1)
  else
  Ac x0 x1 f (wr .i64 (c1 + 1))
  else
  some (.inl ())
def A4 (x0:(List (List UInt8))) (x1:(List UInt8)):Option (Int) :=
 (Ac x0 x1 100000 0).bind fun r6 =>
 match r6 with
 | (.inl w7) =>
  some (-1)
 | (.inr w8) =>
  some w8
def Dd:Cs ((List (List UInt8))×(List UInt8)×Unit):=(csC (cdL 1 cdS) (csC cdS csN))
def De (r:Int):AV:=cdI.enc r
theorem Ec (x0:(List (List UInt8))) (x1:(List UInt8)):∀ (f:Nat) (c1:Int) (r:(Unit) ⊕ (Int)),Ac x0 x1 f c1=some r->SemN E0 ⟨none,false⟩ (pc Db [1,0,1,0,0]) f ⟨Fr 19 [(0,.sl 1 (x0.map cdS.enc)),(1,.st x1),(7,.v (.int .i64 (x0.length:Int))),(8,.v (.int .i64 c1))],[]⟩ (fun e s=>match r with
 | (.inl w)=>e=(.exit 0)/\Wk E0 s ⟨Fr 19 [],[]⟩
 | (.inr w)=>e = .ret/\Wk E0 s ⟨Fr 19 [(4,.v (.int .i64 w))],[]⟩):=by
 intro f;induction f with
 | zero=>intro c1 r h; cases h
 | succ f ih0 =>
  intro c1 r h
  have ih:=fun (c1:Int)=>ih0 c1 r
  unfold Ac at h;refine FI ?_
  let p1:Nat×AV:=(8,.v (.int .i64 c1))
  let p2:Nat×AV:=(7,.v (.int .i64 (x0.length:Int)))
  let p3:Nat×AV:=(0,.sl 1 (x0.map cdS.enc))
  refine AP AC [p3,(1,.st x1),p2,p1,(9,.v (.bool (decide (c1 < (x0.length:Int)))))] [] ?_;refine AJ ?_;refine Ab (b:=(decide (c1 < (x0.length:Int)))) kr (fun hb2=>?_) (fun hb2=>?_)
  ·rw [if_pos hb2] at h
   refine As ?_;refine AJ ?_;refine CI ?_
   let p4:Nat×AV:=(5,.v (.int .i64 c1))
   refine AP AC [p3,(1,.st x1),p4,p2,p1] [] ?_;refine AJ ?_;obtain ⟨v3,hv3,h⟩:=OB h;refine AS (s1:=⟨Fr 19 [p3,(1,.st x1),p4,p2,p1,(16,.v (.bool (x1==v3)))],[]⟩) ?_ ?_
   ·refine AF (n:=19) AC 3 [p3,(1,.st x1),p4,p2,p1,(11,.st x1),(12,.sl 1 (x0.map cdS.enc)),(13,.v (.int .i64 c1))] [] kr ?_
    refine A6 AC 0 rfl (Cw (AA rfl) rfl (AQ (a:= .sl 1 (x0.map cdS.enc)) (b:= .v (.int .i64 c1)) kr kr (GS (e:=cdS.enc) (el:=9) (k:=1) (ki:= .i64) kr kr hv3))) ?_;exact BH AC
   refine Ab (b:=(x1==v3)) kr (fun hb4=>?_) (fun hb4=>?_)
   ·rw [if_pos hb4] at h
    refine AP AC [(4,.v (.int .i64 c1))] [] ?_;refine Ah ?_;have hq:=OI h; subst hq;exact ⟨rfl,AZ⟩
   ·rw [Cg hb4] at h
    refine As ?_
    let p5:Nat×AV:=(8,.v (.int .i64 (wr .i64 (c1 + 1))))
    refine Fb AC [p3,(1,.st x1),p2,p5] [] ?_;exact Ck (s1:=⟨Fr 19 [p3,(1,.st x1),p2,p5],[]⟩) AZ (ih (wr .i64 (c1 + 1)) h)
  ·rw [Cg hb2] at h
   refine F8 ?_;have hq:=OI h; subst hq;exact ⟨rfl,AZ⟩
theorem HT (x0:(List (List UInt8))) (x1:(List UInt8)) (r:Int) (h:A4 x0 x1=some r):Sem E0 ⟨none,false⟩ Db ⟨Fr 19 (BQ 0 (Dd.enc (x0,x1,()))),[]⟩ fun e s'=>(e = .normal\/e = .ret)/\∃ xs,Es E0.P s'.fr s'.hp Tryz.f41.results.toList=some xs/\FG xs=De r:=by
 unfold A4 at h
 let p1:Nat×AV:=(0,.sl 1 (x0.map cdS.enc))
 refine BV (CK (s1:=⟨Fr 19 [p1,(1,.st x1)],[]⟩) AZ ?_);refine AP AC [p1,(1,.st x1)] [] ?_;refine AJ ?_;refine AJ ?_
 let p2:Nat×AV:=(8,.v (.int .i64 0))
 let p3:Nat×AV:=(7,.v (.int .i64 (x0.length:Int)))
 refine AS (s1:=⟨Fr 19 [p1,(1,.st x1),p3,p2],[]⟩) ?_ ?_
 ·refine AF (n:=19) AC 1 [p1,(1,.st x1),(6,.sl 1 (x0.map cdS.enc))] [] kr ?_
  refine A6 AC 0 rfl (Cw (AA rfl) rfl (Ed (a:= .sl 1 (x0.map cdS.enc)) kr (DC (el:=9) kr))) ?_;exact BH AC
 refine CI ?_;obtain ⟨r6,hr6,h⟩:=OB h;refine F9 (n:=100000) ?_;rcases r6 with w7 | w8
 ·try dsimp only at h
  refine DR (Ck (s1:=⟨Fr 19 [p1,(1,.st x1),p3,p2],[]⟩) AZ (Ec x0 x1 _ 0 _ hr6)) ?_;refine AP AC [(4,.v (.int .i64 (-1)))] [] ?_;refine Ah ?_;have hq:=OI h; subst hq;exact ⟨⟨Fr 19 [(4,.v (.int .i64 (-1)))],[]⟩,AZ,.inr rfl,[.v (.int .i64 (-1))],kr,kr⟩
 ·try dsimp only at h
  refine DR (Ck (s1:=⟨Fr 19 [p1,(1,.st x1),p3,p2],[]⟩) AZ (Ec x0 x1 _ 0 _ hr6)) ?_;have hq:=OI h; subst hq;exact ⟨⟨Fr 19 [(4,.v (.int .i64 w8))],[]⟩,AZ,.inr rfl,[.v (.int .i64 w8)],kr,kr⟩
def IB:List AV->Option AV:=Ee Dd (fun a=>A4 a.1 a.2.1) De
theorem Dr:XOk 41 IB:=by
 refine Ad Tryz.func41 (c:=Db) ?h2 ⟨Tryz.call41⟩ Dd (fun a=>A4 a.1 a.2.1) De (fun a=>(by show 2<=19; decide)) ?h3 ?h4
 case h2=>kernel_rfl
 case h3=>intro b; kernel_rfl
 case h4=>exact fun a b h=>HT a.1 a.2.1 b h
/- slices.Contains[[]string,string] -/
noncomputable def Eb:Code:=Bo Tryz.f97
def Am (x0:(List (List UInt8))) (x1:(List UInt8)):Option (Bool) :=
 (A4 x0 x1).bind fun v1 =>
 some (decide (v1≥0))
def C9:Cs ((List (List UInt8))×(List UInt8)×Unit):=(csC (cdL 1 cdS) (csC cdS csN))
def DA (r:Bool):AV:=cdB.enc r
theorem Gy (x0:(List (List UInt8))) (x1:(List UInt8)) (r:Bool) (h:Am x0 x1=some r):Sem E0 ⟨none,false⟩ Eb ⟨Fr 9 (BQ 0 (C9.enc (x0,x1,()))),[]⟩ fun e s'=>(e = .normal\/e = .ret)/\∃ xs,Es E0.P s'.fr s'.hp Tryz.f97.results.toList=some xs/\FG xs=DA r:=by
 unfold Am at h;refine BV (CK (s1:=⟨Fr 9 [(0,.sl 1 (x0.map cdS.enc)),(1,.st x1)],[]⟩) AZ ?_);refine AP AC [(0,.sl 1 (x0.map cdS.enc)),(1,.st x1)] [] ?_;refine AJ ?_;obtain ⟨v1,hv1,h⟩:=OB h
 let p1:Nat×AV:=(4,.v (.bool (decide (v1≥0))))
 refine AS (s1:=⟨Fr 9 [p1],[]⟩) ?_ ?_
 ·refine AF (n:=9) AC 2 [(5,.sl 1 (x0.map cdS.enc)),(6,.st x1)] [] kr ?_
  refine A1 (caps:=[]) (xs:=[.sl 1 (x0.map cdS.enc),.st x1]) (u:=(x0,x1,())) rfl rfl Dr rfl (AA rfl) kr kr (AY (Ay (c:=(cdL 1 cdS)) (v:=x0)) (AY (Ay (c:=cdS) (v:=x1)) CB)) (.inl kr) hv1 ?_;exact BH AC
 refine Ah ?_;have hq:=OI h; subst hq;exact ⟨⟨Fr 9 [p1],[]⟩,AZ,.inr rfl,[.v (.bool (decide (v1≥0)))],kr,kr⟩
def HJ:List AV->Option AV:=Ee C9 (fun a=>Am a.1 a.2.1) DA
theorem Ba:XOk 97 HJ:=by
 refine Ad Tryz.func97 (c:=Eb) ?h2 ⟨Tryz.call97⟩ C9 (fun a=>Am a.1 a.2.1) DA (fun a=>(by show 2<=9; decide)) ?h3 ?h4
 case h2=>kernel_rfl
 case h3=>intro b; kernel_rfl
 case h4=>exact fun a b h=>Gy a.1 a.2.1 b h
/- trestle/court.formed -/
noncomputable def CV:Code:=Bo Tryz.f159
def GY (x0:AE):Option ((Bool)) :=
 if (x0.1==8)=true then
 some (x0.1==8)
 else
 some (x0.1==9)
def GX (x0:AE):Option ((Bool)) :=
 if (x0.1==3)=true then
 some (x0.1==3)
 else
 (GY x0).bind fun r14 =>
 some r14
def GW (x0:AE):Option ((Bool)) :=
 if (x0.1==2)=true then
 some (x0.1==2)
 else
 (GX x0).bind fun r15 =>
 some r15
def Gc (x0:AE):Option ((Bool)) :=
 if (x0.1==6)=true then
 some (x0.1==6)
 else
 some (x0.1==7)
def Gd (x0:AE) (r33:Bool):Option ((Int×Int×Bool) ⊕ (Bool)) :=
 if r33=true then
 some (.inl (16,0,true))
 else
 if (x0.1==10)=true then
 some (.inl (0,63,false))
 else
 some (.inr false)
def Gb (x0:AE):Option ((Int×Int×Bool) ⊕ (Bool)) :=
 if (x0.1==5)=true then
 some (.inl (0,0,true))
 else
 (Gc x0).bind fun r33 =>
 (Gd x0 r33).bind fun r40 =>
 match r40 with
 | (.inl w41) =>
  some (.inl (w41.1,w41.2.1,w41.2.2))
 | (.inr w42) =>
  some (.inr w42)
def Ga (x0:AE):Option ((Int×Int×Int×Bool) ⊕ (Bool)) :=
 if (x0.1==4)=true then
 some (.inl (0,1,2,true))
 else
 (Gb x0).bind fun r44 =>
 match r44 with
 | (.inl w45) =>
  some (.inl (w45.1,0,w45.2.1,w45.2.2))
 | (.inr w46) =>
  some (.inr w46)
def GZ (x0:AE) (r16:Bool):Option ((Int×Int×Int×Bool) ⊕ (Bool)) :=
 if r16=true then
 some (.inl (0,0,0,false))
 else
 (Ga x0).bind fun r48 =>
 match r48 with
 | (.inl w49) =>
  some (.inl (w49.1,w49.2.1,w49.2.2.1,w49.2.2.2))
 | (.inr w50) =>
  some (.inr w50)
def GV (x0:AE):Option ((Int×Int×Int×Bool) ⊕ (Bool)) :=
 if (x0.1==1)=true then
 if (!(x0.2.1==[]))=true then
 some (.inr false)
 else
 some (.inl (16,0,0,false))
 else
 (GW x0).bind fun r16 =>
 (GZ x0 r16).bind fun r52 =>
 match r52 with
 | (.inl w53) =>
  some (.inl (w53.1,w53.2.1,w53.2.2.1,w53.2.2.2))
 | (.inr w54) =>
  some (.inr w54)
def Bv (x0:AE):Option (Bool) :=
 (GV x0).bind fun r55 =>
 match r55 with
 | (.inl w56) =>
  (if (decide ((x0.2.2.2.1.length:Int)<=w56.1))=true then if (w56.1==0)=true then if (decide (x0.2.2.2.2≥w56.2.1))=true then if (decide (x0.2.2.2.2<=w56.2.2.1))=true then if w56.2.2.2=true then some true else some (!x0.2.2.1) else some false else some false else if (decide ((x0.2.2.2.1.length:Int) > 0))=true then if (decide (x0.2.2.2.2≥w56.2.1))=true then if (decide (x0.2.2.2.2<=w56.2.2.1))=true then if w56.2.2.2=true then some true else some (!x0.2.2.1) else some false else some false else some false else some false).bind fun j58 =>
  some j58
 | (.inr w68) =>
  some w68
def IU:Cs (AE×Unit):=(csC AB csN)
def IY (r:Bool):AV:=cdB.enc r
theorem Lj (x0:AE) (r:(Bool)) (h:GY x0=some r):Sem E0 ⟨none,false⟩ (pc CV [1,1,0,1,0,1,1,0,1,1,1,1,1]) ⟨Fr 63 [(1,.pt 0 0 0),(3,.v (.int .i64 0)),(4,.v (.int .i64 0)),(5,.v (.int .i64 0)),(6,.v (.bool false)),(8,.v (.int .u8 x0.1)),(14,.v (.bool (x0.1==8)))],[some ⟨5,60,[AB.enc x0],false⟩]⟩ (fun e s=>e = .normal/\Wk E0 s ⟨Fr 63 [(1,.pt 0 0 0),(3,.v (.int .i64 0)),(4,.v (.int .i64 0)),(5,.v (.int .i64 0)),(6,.v (.bool false)),(8,.v (.int .u8 x0.1)),(14,.v (.bool r))],[some ⟨5,60,[AB.enc x0],false⟩]⟩):=by
 unfold GY at h;refine Ab (b:=(x0.1==8)) kr (fun hb12=>?_) (fun hb12=>?_)
 ·rw [if_pos hb12] at h
  refine As ?_;have hq:=OI h; subst hq;exact ⟨rfl,(Az [0] ⟨⟨_,rfl,C8⟩,trivial⟩ ⟨lv,lv,lv,lv,lv,lv,lv,trivial⟩)⟩
 ·rw [Cg hb12] at h
  refine Fb AC [(1,.pt 0 0 0),(3,.v (.int .i64 0)),(4,.v (.int .i64 0)),(5,.v (.int .i64 0)),(6,.v (.bool false)),(8,.v (.int .u8 x0.1)),(14,.v (.bool (x0.1==9)))] [some ⟨5,60,[AB.enc x0],false⟩] ?_;have hq:=OI h; subst hq;exact ⟨rfl,(Az [0] ⟨⟨_,rfl,C8⟩,trivial⟩ ⟨lv,lv,lv,lv,lv,lv,lv,trivial⟩)⟩
theorem Li (x0:AE) (r:(Bool)) (h:GX x0=some r):Sem E0 ⟨none,false⟩ (pc CV [1,1,0,1,0,1,1,0,1,1,1]) ⟨Fr 63 [(1,.pt 0 0 0),(3,.v (.int .i64 0)),(4,.v (.int .i64 0)),(5,.v (.int .i64 0)),(6,.v (.bool false)),(8,.v (.int .u8 x0.1)),(14,.v (.bool (x0.1==3)))],[some ⟨5,60,[AB.enc x0],false⟩]⟩ (fun e s=>e = .normal/\Wk E0 s ⟨Fr 63 [(1,.pt 0 0 0),(3,.v (.int .i64 0)),(4,.v (.int .i64 0)),(5,.v (.int .i64 0)),(6,.v (.bool false)),(8,.v (.int .u8 x0.1)),(14,.v (.bool r))],[some ⟨5,60,[AB.enc x0],false⟩]⟩):=by
 unfold GX at h;refine Ab (b:=(x0.1==3)) kr (fun hb10=>?_) (fun hb10=>?_)
 ·rw [if_pos hb10] at h
  refine As ?_;have hq:=OI h; subst hq;exact ⟨rfl,(Az [0] ⟨⟨_,rfl,C8⟩,trivial⟩ ⟨lv,lv,lv,lv,lv,lv,lv,trivial⟩)⟩
 ·rw [Cg hb10] at h
  refine AP AC [(1,.pt 0 0 0),(3,.v (.int .i64 0)),(4,.v (.int .i64 0)),(5,.v (.int .i64 0)),(6,.v (.bool false)),(8,.v (.int .u8 x0.1)),(14,.v (.bool (x0.1==8)))] [some ⟨5,60,[AB.enc x0],false⟩] ?_;obtain ⟨r14,hr14,h⟩:=OB h;refine DE (Lj x0 _ hr14) ?_;have hq:=OI h; subst hq;exact ⟨rfl,(Az [0] ⟨⟨_,rfl,C8⟩,trivial⟩ ⟨lv,lv,lv,lv,lv,lv,lv,trivial⟩)⟩
theorem Lh (x0:AE) (r:(Bool)) (h:GW x0=some r):Sem E0 ⟨none,false⟩ (pc CV [1,1,0,1,0,1,1,0,1]) ⟨Fr 63 [(1,.pt 0 0 0),(3,.v (.int .i64 0)),(4,.v (.int .i64 0)),(5,.v (.int .i64 0)),(6,.v (.bool false)),(8,.v (.int .u8 x0.1)),(14,.v (.bool (x0.1==2)))],[some ⟨5,60,[AB.enc x0],false⟩]⟩ (fun e s=>e = .normal/\Wk E0 s ⟨Fr 63 [(1,.pt 0 0 0),(3,.v (.int .i64 0)),(4,.v (.int .i64 0)),(5,.v (.int .i64 0)),(6,.v (.bool false)),(8,.v (.int .u8 x0.1)),(14,.v (.bool r))],[some ⟨5,60,[AB.enc x0],false⟩]⟩):=by
 unfold GW at h;refine Ab (b:=(x0.1==2)) kr (fun hb8=>?_) (fun hb8=>?_)
 ·rw [if_pos hb8] at h
  refine As ?_;have hq:=OI h; subst hq;exact ⟨rfl,(Az [0] ⟨⟨_,rfl,C8⟩,trivial⟩ ⟨lv,lv,lv,lv,lv,lv,lv,trivial⟩)⟩
 ·rw [Cg hb8] at h
  refine AP AC [(1,.pt 0 0 0),(3,.v (.int .i64 0)),(4,.v (.int .i64 0)),(5,.v (.int .i64 0)),(6,.v (.bool false)),(8,.v (.int .u8 x0.1)),(14,.v (.bool (x0.1==3)))] [some ⟨5,60,[AB.enc x0],false⟩] ?_;obtain ⟨r15,hr15,h⟩:=OB h;refine DE (Li x0 _ hr15) ?_;have hq:=OI h; subst hq;exact ⟨rfl,(Az [0] ⟨⟨_,rfl,C8⟩,trivial⟩ ⟨lv,lv,lv,lv,lv,lv,lv,trivial⟩)⟩
theorem Lk (x0:AE) (r:(Bool)) (h:Gc x0=some r):Sem E0 ⟨none,false⟩ (pc CV [1,1,0,1,0,1,1,1,1,1,1,1,1,0,1]) ⟨Fr 63 [(1,.pt 0 0 0),(3,.v (.int .i64 0)),(4,.v (.int .i64 0)),(5,.v (.int .i64 0)),(6,.v (.bool false)),(8,.v (.int .u8 x0.1)),(23,.v (.bool (x0.1==6)))],[some ⟨5,60,[AB.enc x0],false⟩]⟩ (fun e s=>e = .normal/\Wk E0 s ⟨Fr 63 [(1,.pt 0 0 0),(3,.v (.int .i64 0)),(4,.v (.int .i64 0)),(5,.v (.int .i64 0)),(6,.v (.bool false)),(8,.v (.int .u8 x0.1)),(23,.v (.bool r))],[some ⟨5,60,[AB.enc x0],false⟩]⟩):=by
 unfold Gc at h;refine Ab (b:=(x0.1==6)) kr (fun hb31=>?_) (fun hb31=>?_)
 ·rw [if_pos hb31] at h
  refine As ?_;have hq:=OI h; subst hq;exact ⟨rfl,(Az [0] ⟨⟨_,rfl,C8⟩,trivial⟩ ⟨lv,lv,lv,lv,lv,lv,lv,trivial⟩)⟩
 ·rw [Cg hb31] at h
  refine Fb AC [(1,.pt 0 0 0),(3,.v (.int .i64 0)),(4,.v (.int .i64 0)),(5,.v (.int .i64 0)),(6,.v (.bool false)),(8,.v (.int .u8 x0.1)),(23,.v (.bool (x0.1==7)))] [some ⟨5,60,[AB.enc x0],false⟩] ?_;have hq:=OI h; subst hq;exact ⟨rfl,(Az [0] ⟨⟨_,rfl,C8⟩,trivial⟩ ⟨lv,lv,lv,lv,lv,lv,lv,trivial⟩)⟩
theorem It (x0:AE) (r33:Bool) (r:(Int×Int×Bool) ⊕ (Bool)) (h:Gd x0 r33=some r):Sem E0 ⟨none,false⟩ (pc CV [1,1,0,1,0,1,1,1,1,1,1,1,1,1]) ⟨Fr 63 [(1,.pt 0 0 0),(3,.v (.int .i64 0)),(4,.v (.int .i64 0)),(5,.v (.int .i64 0)),(6,.v (.bool false)),(8,.v (.int .u8 x0.1)),(23,.v (.bool r33))],[some ⟨5,60,[AB.enc x0],false⟩]⟩ (fun e s=>match r with
 | (.inl w)=>e = .normal/\Wk E0 s ⟨Fr 63 [(1,.pt 0 0 0),(3,.v (.int .i64 w.1)),(4,.v (.int .i64 0)),(5,.v (.int .i64 w.2.1)),(6,.v (.bool w.2.2))],[some ⟨5,60,[AB.enc x0],false⟩]⟩
 | (.inr w)=>e = .ret/\Wk E0 s ⟨Fr 63 [(2,.v (.bool w))],[]⟩):=by
 unfold Gd at h;refine Ab (b:=r33) kr (fun hb34=>?_) (fun hb34=>?_)
 ·rw [if_pos hb34] at h
  refine Fb AC [(1,.pt 0 0 0),(3,.v (.int .i64 16)),(4,.v (.int .i64 0)),(5,.v (.int .i64 0)),(6,.v (.bool true))] [some ⟨5,60,[AB.enc x0],false⟩] ?_;have hq:=OI h; subst hq;exact ⟨rfl,(Az [0] ⟨⟨_,rfl,C8⟩,trivial⟩ ⟨lv,lv,lv,lv,lv,trivial⟩)⟩
 ·rw [Cg hb34] at h
  let p1:Option Blk:=some ⟨5,60,[AB.enc x0],false⟩
  refine AP AC [(1,.pt 0 0 0),(3,.v (.int .i64 0)),(4,.v (.int .i64 0)),(6,.v (.bool false)),(26,.v (.bool (x0.1==10)))] [p1] ?_;refine Ab (b:=(x0.1==10)) kr (fun hb38=>?_) (fun hb38=>?_)
  ·rw [if_pos hb38] at h
   refine Fb AC [(1,.pt 0 0 0),(3,.v (.int .i64 0)),(4,.v (.int .i64 0)),(5,.v (.int .i64 63)),(6,.v (.bool false))] [p1] ?_;have hq:=OI h; subst hq;exact ⟨rfl,(Az [0] ⟨⟨_,rfl,C8⟩,trivial⟩ ⟨lv,lv,lv,lv,lv,trivial⟩)⟩
  ·rw [Cg hb38] at h
   refine AJ ?_;refine AS (s1:=⟨Fr 63 [(2,.v (.bool false))],[]⟩) ?_ ?_
   ·refine AF (n:=63) AC 1 [(2,.v (.bool false))] [p1] kr ?_
    exact AR rfl (Az [] trivial ⟨lv,trivial⟩)
   refine Ah ?_;have hq:=OI h; subst hq;exact ⟨rfl,AZ⟩
theorem Is (x0:AE) (r:(Int×Int×Bool) ⊕ (Bool)) (h:Gb x0=some r):Sem E0 ⟨none,false⟩ (pc CV [1,1,0,1,0,1,1,1,1,1,1,1]) ⟨Fr 63 [(1,.pt 0 0 0),(3,.v (.int .i64 0)),(4,.v (.int .i64 0)),(5,.v (.int .i64 0)),(6,.v (.bool false)),(8,.v (.int .u8 x0.1)),(21,.v (.bool (x0.1==5)))],[some ⟨5,60,[AB.enc x0],false⟩]⟩ (fun e s=>match r with
 | (.inl w)=>e = .normal/\Wk E0 s ⟨Fr 63 [(1,.pt 0 0 0),(3,.v (.int .i64 w.1)),(4,.v (.int .i64 0)),(5,.v (.int .i64 w.2.1)),(6,.v (.bool w.2.2))],[some ⟨5,60,[AB.enc x0],false⟩]⟩
 | (.inr w)=>e = .ret/\Wk E0 s ⟨Fr 63 [(2,.v (.bool w))],[]⟩):=by
 unfold Gb at h;refine Ab (b:=(x0.1==5)) kr (fun hb27=>?_) (fun hb27=>?_)
 ·rw [if_pos hb27] at h
  refine Fb AC [(1,.pt 0 0 0),(3,.v (.int .i64 0)),(4,.v (.int .i64 0)),(5,.v (.int .i64 0)),(6,.v (.bool true))] [some ⟨5,60,[AB.enc x0],false⟩] ?_;have hq:=OI h; subst hq;exact ⟨rfl,(Az [0] ⟨⟨_,rfl,C8⟩,trivial⟩ ⟨lv,lv,lv,lv,lv,trivial⟩)⟩
 ·rw [Cg hb27] at h
  refine AJ ?_;refine AP AC [(1,.pt 0 0 0),(3,.v (.int .i64 0)),(4,.v (.int .i64 0)),(5,.v (.int .i64 0)),(6,.v (.bool false)),(8,.v (.int .u8 x0.1)),(23,.v (.bool (x0.1==6)))] [some ⟨5,60,[AB.enc x0],false⟩] ?_;obtain ⟨r33,hr33,h⟩:=OB h;refine DE (Lk x0 _ hr33) ?_;obtain ⟨r40,hr40,h⟩:=OB h;rcases r40 with w41 | w42
  ·try dsimp only at h
   refine DE (It x0 r33 _ hr40) ?_;have hq:=OI h; subst hq;exact ⟨rfl,(Az [0] ⟨⟨_,rfl,C8⟩,trivial⟩ ⟨lv,lv,lv,lv,lv,trivial⟩)⟩
  ·try dsimp only at h
   refine DE (It x0 r33 _ hr40) ?_;have hq:=OI h; subst hq;exact ⟨rfl,AZ⟩
theorem Ir (x0:AE) (r:(Int×Int×Int×Bool) ⊕ (Bool)) (h:Ga x0=some r):Sem E0 ⟨none,false⟩ (pc CV [1,1,0,1,0,1,1,1,1,1]) ⟨Fr 63 [(1,.pt 0 0 0),(3,.v (.int .i64 0)),(4,.v (.int .i64 0)),(5,.v (.int .i64 0)),(6,.v (.bool false)),(8,.v (.int .u8 x0.1)),(19,.v (.bool (x0.1==4)))],[some ⟨5,60,[AB.enc x0],false⟩]⟩ (fun e s=>match r with
 | (.inl w)=>e = .normal/\Wk E0 s ⟨Fr 63 [(1,.pt 0 0 0),(3,.v (.int .i64 w.1)),(4,.v (.int .i64 w.2.1)),(5,.v (.int .i64 w.2.2.1)),(6,.v (.bool w.2.2.2))],[some ⟨5,60,[AB.enc x0],false⟩]⟩
 | (.inr w)=>e = .ret/\Wk E0 s ⟨Fr 63 [(2,.v (.bool w))],[]⟩):=by
 unfold Ga at h;refine Ab (b:=(x0.1==4)) kr (fun hb22=>?_) (fun hb22=>?_)
 ·rw [if_pos hb22] at h
  refine Fb AC [(1,.pt 0 0 0),(3,.v (.int .i64 0)),(4,.v (.int .i64 1)),(5,.v (.int .i64 2)),(6,.v (.bool true))] [some ⟨5,60,[AB.enc x0],false⟩] ?_;have hq:=OI h; subst hq;exact ⟨rfl,(Az [0] ⟨⟨_,rfl,C8⟩,trivial⟩ ⟨lv,lv,lv,lv,lv,trivial⟩)⟩
 ·rw [Cg hb22] at h
  refine AP AC [(1,.pt 0 0 0),(3,.v (.int .i64 0)),(4,.v (.int .i64 0)),(5,.v (.int .i64 0)),(6,.v (.bool false)),(8,.v (.int .u8 x0.1)),(21,.v (.bool (x0.1==5)))] [some ⟨5,60,[AB.enc x0],false⟩] ?_;obtain ⟨r44,hr44,h⟩:=OB h;rcases r44 with w45 | w46
  ·try dsimp only at h
   refine DE (Is x0 _ hr44) ?_;have hq:=OI h; subst hq;exact ⟨rfl,(Az [0] ⟨⟨_,rfl,C8⟩,trivial⟩ ⟨lv,lv,lv,lv,lv,trivial⟩)⟩
  ·try dsimp only at h
   refine DE (Is x0 _ hr44) ?_;have hq:=OI h; subst hq;exact ⟨rfl,AZ⟩
theorem Iq (x0:AE) (r16:Bool) (r:(Int×Int×Int×Bool) ⊕ (Bool)) (h:GZ x0 r16=some r):Sem E0 ⟨none,false⟩ (pc CV [1,1,0,1,0,1,1,1]) ⟨Fr 63 [(1,.pt 0 0 0),(3,.v (.int .i64 0)),(4,.v (.int .i64 0)),(5,.v (.int .i64 0)),(6,.v (.bool false)),(8,.v (.int .u8 x0.1)),(14,.v (.bool r16))],[some ⟨5,60,[AB.enc x0],false⟩]⟩ (fun e s=>match r with
 | (.inl w)=>e = .normal/\Wk E0 s ⟨Fr 63 [(1,.pt 0 0 0),(3,.v (.int .i64 w.1)),(4,.v (.int .i64 w.2.1)),(5,.v (.int .i64 w.2.2.1)),(6,.v (.bool w.2.2.2))],[some ⟨5,60,[AB.enc x0],false⟩]⟩
 | (.inr w)=>e = .ret/\Wk E0 s ⟨Fr 63 [(2,.v (.bool w))],[]⟩):=by
 unfold GZ at h;refine Ab (b:=r16) kr (fun hb17=>?_) (fun hb17=>?_)
 ·rw [if_pos hb17] at h
  refine As ?_;have hq:=OI h; subst hq;exact ⟨rfl,(Az [0] ⟨⟨_,rfl,C8⟩,trivial⟩ ⟨lv,lv,lv,lv,lv,trivial⟩)⟩
 ·rw [Cg hb17] at h
  refine AP AC [(1,.pt 0 0 0),(3,.v (.int .i64 0)),(4,.v (.int .i64 0)),(5,.v (.int .i64 0)),(6,.v (.bool false)),(8,.v (.int .u8 x0.1)),(19,.v (.bool (x0.1==4)))] [some ⟨5,60,[AB.enc x0],false⟩] ?_;obtain ⟨r48,hr48,h⟩:=OB h;rcases r48 with w49 | w50
  ·try dsimp only at h
   refine DE (Ir x0 _ hr48) ?_;have hq:=OI h; subst hq;exact ⟨rfl,(Az [0] ⟨⟨_,rfl,C8⟩,trivial⟩ ⟨lv,lv,lv,lv,lv,trivial⟩)⟩
  ·try dsimp only at h
   refine DE (Ir x0 _ hr48) ?_;have hq:=OI h; subst hq;exact ⟨rfl,AZ⟩
theorem Ip (x0:AE) (r:(Int×Int×Int×Bool) ⊕ (Bool)) (h:GV x0=some r):Sem E0 ⟨none,false⟩ (pc CV [1,1,0,1,0,1]) ⟨Fr 63 [(1,.pt 0 0 0),(3,.v (.int .i64 0)),(4,.v (.int .i64 0)),(5,.v (.int .i64 0)),(6,.v (.bool false)),(8,.v (.int .u8 x0.1)),(9,.v (.bool (x0.1==1)))],[some ⟨5,60,[AB.enc x0],false⟩]⟩ (fun e s=>match r with
 | (.inl w)=>e = .normal/\Wk E0 s ⟨Fr 63 [(1,.pt 0 0 0),(3,.v (.int .i64 w.1)),(4,.v (.int .i64 w.2.1)),(5,.v (.int .i64 w.2.2.1)),(6,.v (.bool w.2.2.2))],[some ⟨5,60,[AB.enc x0],false⟩]⟩
 | (.inr w)=>e = .ret/\Wk E0 s ⟨Fr 63 [(2,.v (.bool w))],[]⟩):=by
 unfold GV at h;refine Ab (b:=(x0.1==1)) kr (fun hb1=>?_) (fun hb1=>?_)
 ·rw [if_pos hb1] at h
  refine AJ ?_
  let p1:Option Blk:=some ⟨5,60,[AB.enc x0],false⟩
  refine AP AC [(1,.pt 0 0 0),(4,.v (.int .i64 0)),(5,.v (.int .i64 0)),(6,.v (.bool false)),(13,.v (.bool (!(x0.2.1==[]))))] [p1] ?_;refine Ab (b:=(!(x0.2.1==[]))) kr (fun hb2=>?_) (fun hb2=>?_)
  ·rw [if_pos hb2] at h
   refine AJ ?_;refine AS (s1:=⟨Fr 63 [(2,.v (.bool false))],[]⟩) ?_ ?_
   ·refine AF (n:=63) AC 1 [(2,.v (.bool false))] [p1] kr ?_
    exact AR rfl (Az [] trivial ⟨lv,trivial⟩)
   refine Ah ?_;have hq:=OI h; subst hq;exact ⟨rfl,AZ⟩
  ·rw [Cg hb2] at h
   refine As ?_;refine Fb AC [(1,.pt 0 0 0),(3,.v (.int .i64 16)),(4,.v (.int .i64 0)),(5,.v (.int .i64 0)),(6,.v (.bool false))] [p1] ?_;have hq:=OI h; subst hq;exact ⟨rfl,(Az [0] ⟨⟨_,rfl,C8⟩,trivial⟩ ⟨lv,lv,lv,lv,lv,trivial⟩)⟩
 ·rw [Cg hb1] at h
  refine AJ ?_;refine AP AC [(1,.pt 0 0 0),(3,.v (.int .i64 0)),(4,.v (.int .i64 0)),(5,.v (.int .i64 0)),(6,.v (.bool false)),(8,.v (.int .u8 x0.1)),(14,.v (.bool (x0.1==2)))] [some ⟨5,60,[AB.enc x0],false⟩] ?_;obtain ⟨r16,hr16,h⟩:=OB h;refine DE (Lh x0 _ hr16) ?_;obtain ⟨r52,hr52,h⟩:=OB h;rcases r52 with w53 | w54
  ·try dsimp only at h
   refine DE (Iq x0 r16 _ hr52) ?_;have hq:=OI h; subst hq;exact ⟨rfl,(Az [0] ⟨⟨_,rfl,C8⟩,trivial⟩ ⟨lv,lv,lv,lv,lv,trivial⟩)⟩
  ·try dsimp only at h
   refine DE (Iq x0 r16 _ hr52) ?_;have hq:=OI h; subst hq;exact ⟨rfl,AZ⟩
theorem M4 (x0:AE) (r:Bool) (h:Bv x0=some r):Sem E0 ⟨none,false⟩ CV ⟨Fr 63 (BQ 0 (IU.enc (x0,()))),[]⟩ fun e s'=>(e = .normal\/e = .ret)/\∃ xs,Es E0.P s'.fr s'.hp Tryz.f159.results.toList=some xs/\FG xs=IY r:=by
 unfold Bv at h;refine BV (CK (s1:=⟨Fr 63 [(0,AB.enc x0)],[]⟩) AZ ?_);refine AP AC [(1,.pt 0 0 0)] [some ⟨5,60,[AB.enc x0],false⟩] ?_;refine AP AC [(1,.pt 0 0 0),(3,.v (.int .i64 0)),(4,.v (.int .i64 0)),(5,.v (.int .i64 0)),(6,.v (.bool false))] [some ⟨5,60,[AB.enc x0],false⟩] ?_;refine AJ ?_;refine AP AC [(1,.pt 0 0 0),(3,.v (.int .i64 0)),(4,.v (.int .i64 0)),(5,.v (.int .i64 0)),(6,.v (.bool false)),(8,.v (.int .u8 x0.1))] [some ⟨5,60,[AB.enc x0],false⟩] ?_;refine CI ?_;refine AP AC [(1,.pt 0 0 0),(3,.v (.int .i64 0)),(4,.v (.int .i64 0)),(5,.v (.int .i64 0)),(6,.v (.bool false)),(8,.v (.int .u8 x0.1)),(9,.v (.bool (x0.1==1)))] [some ⟨5,60,[AB.enc x0],false⟩] ?_;obtain ⟨r55,hr55,h⟩:=OB h;rcases r55 with w56 | w68
 ·try dsimp only at h
  refine DE (Ip x0 _ hr55) ?_;refine AJ ?_;obtain ⟨j58,hj58,h⟩:=OB h;refine AS (s1:=⟨Fr 63 [(2,.v (.bool j58))],[]⟩) ?_ ?_
  ·refine AF (n:=63) AC 2 [(1,.pt 0 0 0),(3,.v (.int .i64 w56.1)),(4,.v (.int .i64 w56.2.1)),(5,.v (.int .i64 w56.2.2.1)),(6,.v (.bool w56.2.2.2)),(29,.sl 1 (x0.2.2.2.1.map cdS.enc))] [some ⟨5,60,[AB.enc x0],false⟩] kr ?_
   refine A6 AC 0 rfl (Cw (AA rfl) rfl (Ed (a:= .sl 1 (x0.2.2.2.1.map cdS.enc)) kr (DC (el:=9) kr))) ?_;refine AF (n:=63) AC 3 [(1,.pt 0 0 0),(3,.v (.int .i64 w56.1)),(4,.v (.int .i64 w56.2.1)),(5,.v (.int .i64 w56.2.2.1)),(6,.v (.bool w56.2.2.2)),(33,.v (.bool (decide ((x0.2.2.2.1.length:Int)<=w56.1))))] [some ⟨5,60,[AB.enc x0],false⟩] kr ?_;rcases BE (decide ((x0.2.2.2.1.length:Int)<=w56.1)) with hc59 | hc59
   ·rw [if_pos hc59] at hj58
    rw [hc59];refine AF (n:=63) AC 3 [(1,.pt 0 0 0),(4,.v (.int .i64 w56.2.1)),(5,.v (.int .i64 w56.2.2.1)),(6,.v (.bool w56.2.2.2)),(33,.v (.bool true)),(36,.v (.bool (w56.1==0)))] [some ⟨5,60,[AB.enc x0],false⟩] kr ?_;rcases BE (w56.1==0) with hc60 | hc60
    ·rw [if_pos hc60] at hj58
     rw [hc60];refine AF (n:=63) AC 13 [(1,.pt 0 0 0),(5,.v (.int .i64 w56.2.2.1)),(6,.v (.bool w56.2.2.2)),(49,.v (.bool (decide (x0.2.2.2.2≥w56.2.1))))] [some ⟨5,60,[AB.enc x0],false⟩] kr ?_;rcases BE (decide (x0.2.2.2.2≥w56.2.1)) with hc61 | hc61
     ·rw [if_pos hc61] at hj58
      rw [hc61];refine AF (n:=63) AC 6 [(1,.pt 0 0 0),(6,.v (.bool w56.2.2.2)),(55,.v (.bool (decide (x0.2.2.2.2<=w56.2.2.1))))] [some ⟨5,60,[AB.enc x0],false⟩] kr ?_;rcases BE (decide (x0.2.2.2.2<=w56.2.2.1)) with hc62 | hc62
      ·rw [if_pos hc62] at hj58
       rw [hc62];refine AF (n:=63) AC 2 [(1,.pt 0 0 0),(55,.v (.bool true)),(57,.v (.bool w56.2.2.2))] [some ⟨5,60,[AB.enc x0],false⟩] kr ?_;rcases BE w56.2.2.2 with hc63 | hc63
       ·rw [if_pos hc63] at hj58
        rw [hc63];refine AF (n:=63) AC 6 [(2,.v (.bool true))] [some ⟨5,60,[AB.enc x0],false⟩] kr ?_;have hq:=OI hj58; subst hq;exact AR rfl (Az [] trivial ⟨lv,trivial⟩)
       ·rw [Cg hc63] at hj58
        rw [hc63];refine AF (n:=63) AC 6 [(2,.v (.bool (!x0.2.2.1)))] [some ⟨5,60,[AB.enc x0],false⟩] kr ?_;have hq:=OI hj58; subst hq;exact AR rfl (Az [] trivial ⟨lv,trivial⟩)
      ·rw [Cg hc62] at hj58
       rw [hc62];refine AF (n:=63) AC 8 [(2,.v (.bool false))] [some ⟨5,60,[AB.enc x0],false⟩] kr ?_;have hq:=OI hj58; subst hq;exact AR rfl (Az [] trivial ⟨lv,trivial⟩)
     ·rw [Cg hc61] at hj58
      rw [hc61];refine AF (n:=63) AC 14 [(2,.v (.bool false))] [some ⟨5,60,[AB.enc x0],false⟩] kr ?_;have hq:=OI hj58; subst hq;exact AR rfl (Az [] trivial ⟨lv,trivial⟩)
    ·rw [Cg hc60] at hj58
     rw [hc60];refine AF (n:=63) AC 2 [(1,.pt 0 0 0),(4,.v (.int .i64 w56.2.1)),(5,.v (.int .i64 w56.2.2.1)),(6,.v (.bool w56.2.2.2)),(33,.v (.bool true)),(36,.v (.bool false)),(38,.sl 1 (x0.2.2.2.1.map cdS.enc))] [some ⟨5,60,[AB.enc x0],false⟩] kr ?_;refine A6 AC 0 rfl (Cw kr rfl (Ed (a:= .sl 1 (x0.2.2.2.1.map cdS.enc)) kr (DC (el:=9) kr))) ?_;refine AF (n:=63) AC 4 [(1,.pt 0 0 0),(4,.v (.int .i64 w56.2.1)),(5,.v (.int .i64 w56.2.2.1)),(6,.v (.bool w56.2.2.2)),(43,.v (.bool (decide ((x0.2.2.2.1.length:Int) > 0))))] [some ⟨5,60,[AB.enc x0],false⟩] kr ?_;rcases BE (decide ((x0.2.2.2.1.length:Int) > 0)) with hc64 | hc64
     ·rw [if_pos hc64] at hj58
      rw [hc64];refine AF (n:=63) AC 6 [(1,.pt 0 0 0),(5,.v (.int .i64 w56.2.2.1)),(6,.v (.bool w56.2.2.2)),(49,.v (.bool (decide (x0.2.2.2.2≥w56.2.1))))] [some ⟨5,60,[AB.enc x0],false⟩] kr ?_;rcases BE (decide (x0.2.2.2.2≥w56.2.1)) with hc65 | hc65
      ·rw [if_pos hc65] at hj58
       rw [hc65];refine AF (n:=63) AC 6 [(1,.pt 0 0 0),(6,.v (.bool w56.2.2.2)),(55,.v (.bool (decide (x0.2.2.2.2<=w56.2.2.1))))] [some ⟨5,60,[AB.enc x0],false⟩] kr ?_;rcases BE (decide (x0.2.2.2.2<=w56.2.2.1)) with hc66 | hc66
       ·rw [if_pos hc66] at hj58
        rw [hc66];refine AF (n:=63) AC 2 [(1,.pt 0 0 0),(55,.v (.bool true)),(57,.v (.bool w56.2.2.2))] [some ⟨5,60,[AB.enc x0],false⟩] kr ?_;rcases BE w56.2.2.2 with hc67 | hc67
        ·rw [if_pos hc67] at hj58
         rw [hc67];refine AF (n:=63) AC 6 [(2,.v (.bool true))] [some ⟨5,60,[AB.enc x0],false⟩] kr ?_;have hq:=OI hj58; subst hq;exact AR rfl (Az [] trivial ⟨lv,trivial⟩)
        ·rw [Cg hc67] at hj58
         rw [hc67];refine AF (n:=63) AC 6 [(2,.v (.bool (!x0.2.2.1)))] [some ⟨5,60,[AB.enc x0],false⟩] kr ?_;have hq:=OI hj58; subst hq;exact AR rfl (Az [] trivial ⟨lv,trivial⟩)
       ·rw [Cg hc66] at hj58
        rw [hc66];refine AF (n:=63) AC 8 [(2,.v (.bool false))] [some ⟨5,60,[AB.enc x0],false⟩] kr ?_;have hq:=OI hj58; subst hq;exact AR rfl (Az [] trivial ⟨lv,trivial⟩)
      ·rw [Cg hc65] at hj58
       rw [hc65];refine AF (n:=63) AC 14 [(2,.v (.bool false))] [some ⟨5,60,[AB.enc x0],false⟩] kr ?_;have hq:=OI hj58; subst hq;exact AR rfl (Az [] trivial ⟨lv,trivial⟩)
     ·rw [Cg hc64] at hj58
      rw [hc64];refine AF (n:=63) AC 20 [(2,.v (.bool false))] [some ⟨5,60,[AB.enc x0],false⟩] kr ?_;have hq:=OI hj58; subst hq;exact AR rfl (Az [] trivial ⟨lv,trivial⟩)
   ·rw [Cg hc59] at hj58
    rw [hc59];refine AF (n:=63) AC 30 [(2,.v (.bool false))] [some ⟨5,60,[AB.enc x0],false⟩] kr ?_;have hq:=OI hj58; subst hq;exact AR rfl (Az [] trivial ⟨lv,trivial⟩)
  refine Ah ?_;have hq:=OI h; subst hq;exact ⟨⟨Fr 63 [(2,.v (.bool j58))],[]⟩,AZ,.inr rfl,[.v (.bool j58)],kr,kr⟩
 ·try dsimp only at h
  refine DE (Ip x0 _ hr55) ?_;have hq:=OI h; subst hq;exact ⟨⟨Fr 63 [(2,.v (.bool w68))],[]⟩,AZ,.inr rfl,[.v (.bool w68)],kr,kr⟩
def O3:List AV->Option AV:=Ee IU (fun a=>Bv a.1) IY
theorem O9:XOk 159 O3:=by
 refine Ad Tryz.func159 (c:=CV) ?h2 ⟨Tryz.call159⟩ IU (fun a=>Bv a.1) IY (fun a=>(by show 1<=63; decide)) ?h3 ?h4
 case h2=>kernel_rfl
 case h3=>intro b; kernel_rfl
 case h4=>exact fun a b h=>M4 a.1 b h
/- trestle/court.check$1 -/
noncomputable def Jr:Code:=Bo Tryz.f160
def Ey (x0:(List UInt8)):Option (Bool) :=
 (Fo x0).bind fun v1 =>
 some (!v1)
def Hg:Cs ((List UInt8)×Unit):=(csC cdS csN)
def Hu (r:Bool):AV:=cdB.enc r
theorem ML (x0:(List UInt8)) (r:Bool) (h:Ey x0=some r):Sem E0 ⟨none,false⟩ Jr ⟨Fr 6 (BQ 0 (Hg.enc (x0,()))),[]⟩ fun e s'=>(e = .normal\/e = .ret)/\∃ xs,Es E0.P s'.fr s'.hp Tryz.f160.results.toList=some xs/\FG xs=Hu r:=by
 unfold Ey at h;refine BV (CK (s1:=⟨Fr 6 [(0,.st x0)],[]⟩) AZ ?_);refine AP AC [(0,.st x0)] [] ?_;refine AJ ?_;obtain ⟨v1,hv1,h⟩:=OB h;refine AS (s1:=⟨Fr 6 [(2,.v (.bool (!v1)))],[]⟩) ?_ ?_
 ·refine AF (n:=6) AC 1 [(3,.st x0)] [] kr ?_
  refine A1 (caps:=[]) (xs:=[.st x0]) (u:=(x0,())) rfl rfl Kn rfl (AA rfl) kr kr (AY (Ay (c:=cdS) (v:=x0)) CB) (.inl kr) hv1 ?_;exact BH AC
 refine Ah ?_;have hq:=OI h; subst hq;exact ⟨⟨Fr 6 [(2,.v (.bool (!v1)))],[]⟩,AZ,.inr rfl,[.v (.bool (!v1))],kr,kr⟩
def ON:List AV->Option AV:=Ee Hg (fun a=>Ey a.1) Hu
theorem Og:XOk 160 ON:=by
 refine Ad Tryz.func160 (c:=Jr) ?h2 ⟨Tryz.call160⟩ Hg (fun a=>Ey a.1) Hu (fun a=>(by show 1<=6; decide)) ?h3 ?h4
 case h2=>kernel_rfl
 case h3=>intro b; kernel_rfl
 case h4=>exact fun a b h=>ML a.1 b h
/- slices.IndexFunc[[]string,string] -/
noncomputable def Bt:Code:=Bo Tryz.f90
def A7 (x0:(List (List UInt8))):Nat->Int->Option ((Unit) ⊕ (Int))
 | 0,_=>none
 | f + 1,c1 =>
  if (decide (c1 < (x0.length:Int)))=true then
  (idx x0 c1).bind fun v3 =>
  (Ey v3).bind fun v4 =>
  if v4=true then
  some (.inr c1)
  else
  A7 x0 f (wr .i64 (c1 + 1))
  else
  some (.inl ())
def Ax (x0:(List (List UInt8))):Option (Int) :=
 (A7 x0 100000 0).bind fun r7 =>
 match r7 with
 | (.inl w8) =>
  some (-1)
 | (.inr w9) =>
  some w9
def Bz:Cs ((List (List UInt8))×Unit×Unit):=(csC (cdL 1 cdS) (csC (cdF 160 csN (fun _=>rfl)) csN))
def B5 (r:Int):AV:=cdI.enc r
theorem Cc (x0:(List (List UInt8))):∀ (f:Nat) (c1:Int) (r:(Unit) ⊕ (Int)),A7 x0 f c1=some r->SemN E0 ⟨none,false⟩ (pc Bt [1,0,1,0,0]) f ⟨Fr 19 [(0,.sl 1 (x0.map cdS.enc)),(1,.fn 160 [] []),(7,.v (.int .i64 (x0.length:Int))),(8,.v (.int .i64 c1))],[]⟩ (fun e s=>match r with
 | (.inl w)=>e=(.exit 0)/\Wk E0 s ⟨Fr 19 [],[]⟩
 | (.inr w)=>e = .ret/\Wk E0 s ⟨Fr 19 [(4,.v (.int .i64 w))],[]⟩):=by
 intro f;induction f with
 | zero=>intro c1 r h; cases h
 | succ f ih0 =>
  intro c1 r h
  have ih:=fun (c1:Int)=>ih0 c1 r
  unfold A7 at h;refine FI ?_
  let p1:Nat×AV:=(8,.v (.int .i64 c1))
  let p2:Nat×AV:=(7,.v (.int .i64 (x0.length:Int)))
  let p3:Nat×AV:=(1,.fn 160 [] [])
  let p4:Nat×AV:=(0,.sl 1 (x0.map cdS.enc))
  refine AP AC [p4,p3,p2,p1,(9,.v (.bool (decide (c1 < (x0.length:Int)))))] [] ?_;refine AJ ?_;refine Ab (b:=(decide (c1 < (x0.length:Int)))) kr (fun hb2=>?_) (fun hb2=>?_)
  ·rw [if_pos hb2] at h
   refine As ?_;refine AJ ?_;refine CI ?_
   let p5:Nat×AV:=(5,.v (.int .i64 c1))
   refine AP AC [p4,p3,p5,p2,p1] [] ?_;refine AJ ?_;obtain ⟨v3,hv3,h⟩:=OB h;obtain ⟨v4,hv4,h⟩:=OB h;refine AS (s1:=⟨Fr 19 [p4,p3,p5,p2,p1,(16,.v (.bool v4))],[]⟩) ?_ ?_
   ·refine AF (n:=19) AC 3 [p4,p3,p5,p2,p1,(11,.fn 160 [] []),(12,.sl 1 (x0.map cdS.enc)),(13,.v (.int .i64 c1))] [] kr ?_
    refine A6 AC 0 rfl (Cw (AA rfl) rfl (AQ (a:= .sl 1 (x0.map cdS.enc)) (b:= .v (.int .i64 c1)) kr kr (GS (e:=cdS.enc) (el:=9) (k:=1) (ki:= .i64) kr kr hv3))) ?_;refine AF (n:=19) AC 1 [p4,p3,p5,p2,p1,(11,.fn 160 [] []),(15,.st v3)] [] kr ?_;refine A1 (caps:=[]) (xs:=[.st v3]) (u:=(v3,())) rfl rfl Og rfl (AA rfl) kr kr (AY (Ay (c:=cdS) (v:=v3)) CB) (.inl kr) hv4 ?_;exact AR rfl AZ
   refine Ab (b:=v4) kr (fun hb5=>?_) (fun hb5=>?_)
   ·rw [if_pos hb5] at h
    refine AP AC [(4,.v (.int .i64 c1))] [] ?_;refine Ah ?_;have hq:=OI h; subst hq;exact ⟨rfl,AZ⟩
   ·rw [Cg hb5] at h
    refine As ?_
    let p6:Nat×AV:=(8,.v (.int .i64 (wr .i64 (c1 + 1))))
    refine Fb AC [p4,p3,p2,p6] [] ?_;exact Ck (s1:=⟨Fr 19 [p4,p3,p2,p6],[]⟩) AZ (ih (wr .i64 (c1 + 1)) h)
  ·rw [Cg hb2] at h
   refine F8 ?_;have hq:=OI h; subst hq;exact ⟨rfl,AZ⟩
theorem EG (x0:(List (List UInt8))) (r:Int) (h:Ax x0=some r):Sem E0 ⟨none,false⟩ Bt ⟨Fr 19 (BQ 0 (Bz.enc (x0,(),()))),[]⟩ fun e s'=>(e = .normal\/e = .ret)/\∃ xs,Es E0.P s'.fr s'.hp Tryz.f90.results.toList=some xs/\FG xs=B5 r:=by
 unfold Ax at h
 let p1:Nat×AV:=(1,.fn 160 [] [])
 let p2:Nat×AV:=(0,.sl 1 (x0.map cdS.enc))
 refine BV (CK (s1:=⟨Fr 19 [p2,p1],[]⟩) AZ ?_);refine AP AC [p2,p1] [] ?_;refine AJ ?_;refine AJ ?_
 let p3:Nat×AV:=(8,.v (.int .i64 0))
 let p4:Nat×AV:=(7,.v (.int .i64 (x0.length:Int)))
 refine AS (s1:=⟨Fr 19 [p2,p1,p4,p3],[]⟩) ?_ ?_
 ·refine AF (n:=19) AC 1 [p2,p1,(6,.sl 1 (x0.map cdS.enc))] [] kr ?_
  refine A6 AC 0 rfl (Cw (AA rfl) rfl (Ed (a:= .sl 1 (x0.map cdS.enc)) kr (DC (el:=9) kr))) ?_;exact BH AC
 refine CI ?_;obtain ⟨r7,hr7,h⟩:=OB h;refine F9 (n:=100000) ?_;rcases r7 with w8 | w9
 ·try dsimp only at h
  refine DR (Ck (s1:=⟨Fr 19 [p2,p1,p4,p3],[]⟩) AZ (Cc x0 _ 0 _ hr7)) ?_;refine AP AC [(4,.v (.int .i64 (-1)))] [] ?_;refine Ah ?_;have hq:=OI h; subst hq;exact ⟨⟨Fr 19 [(4,.v (.int .i64 (-1)))],[]⟩,AZ,.inr rfl,[.v (.int .i64 (-1))],kr,kr⟩
 ·try dsimp only at h
  refine DR (Ck (s1:=⟨Fr 19 [p2,p1,p4,p3],[]⟩) AZ (Cc x0 _ 0 _ hr7)) ?_;have hq:=OI h; subst hq;exact ⟨⟨Fr 19 [(4,.v (.int .i64 w9))],[]⟩,AZ,.inr rfl,[.v (.int .i64 w9)],kr,kr⟩
def EX:List AV->Option AV:=Ee Bz (fun a=>Ax a.1) B5
theorem Ea:XOk 90 EX:=by
 refine Ad Tryz.func90 (c:=Bt) ?h2 ⟨Tryz.call90⟩ Bz (fun a=>Ax a.1) B5 (fun a=>(by show 2<=19; decide)) ?h3 ?h4
 case h2=>kernel_rfl
 case h3=>intro b; kernel_rfl
 case h4=>exact fun a b h=>EG a.1 b h
/- slices.ContainsFunc[[]string,string] -/
noncomputable def CW:Code:=Bo Tryz.f36
def AU (x0:(List (List UInt8))):Option (Bool) :=
 (Ax x0).bind fun v1 =>
 some (decide (v1≥0))
def Bf:Cs ((List (List UInt8))×Unit×Unit):=(csC (cdL 1 cdS) (csC (cdF 160 csN (fun _=>rfl)) csN))
def Bg (r:Bool):AV:=cdB.enc r
theorem Dv (x0:(List (List UInt8))) (r:Bool) (h:AU x0=some r):Sem E0 ⟨none,false⟩ CW ⟨Fr 9 (BQ 0 (Bf.enc (x0,(),()))),[]⟩ fun e s'=>(e = .normal\/e = .ret)/\∃ xs,Es E0.P s'.fr s'.hp Tryz.f36.results.toList=some xs/\FG xs=Bg r:=by
 unfold AU at h;refine BV (CK (s1:=⟨Fr 9 [(0,.sl 1 (x0.map cdS.enc)),(1,.fn 160 [] [])],[]⟩) AZ ?_);refine AP AC [(0,.sl 1 (x0.map cdS.enc)),(1,.fn 160 [] [])] [] ?_;refine AJ ?_;obtain ⟨v1,hv1,h⟩:=OB h
 let p1:Nat×AV:=(4,.v (.bool (decide (v1≥0))))
 refine AS (s1:=⟨Fr 9 [p1],[]⟩) ?_ ?_
 ·refine AF (n:=9) AC 2 [(5,.sl 1 (x0.map cdS.enc)),(6,.fn 160 [] [])] [] kr ?_
  refine A1 (caps:=[]) (xs:=[.sl 1 (x0.map cdS.enc),.fn 160 [] []]) (u:=(x0,(),())) rfl rfl Ea rfl (AA rfl) kr kr (AY (Ay (c:=(cdL 1 cdS)) (v:=x0)) (AY (Sm.fn CB) CB)) (.inl kr) hv1 ?_;exact BH AC
 refine Ah ?_;have hq:=OI h; subst hq;exact ⟨⟨Fr 9 [p1],[]⟩,AZ,.inr rfl,[.v (.bool (decide (v1≥0)))],kr,kr⟩
def D9:List AV->Option AV:=Ee Bf (fun a=>AU a.1) Bg
theorem Ch:XOk 36 D9:=by
 refine Ad Tryz.func36 (c:=CW) ?h2 ⟨Tryz.call36⟩ Bf (fun a=>AU a.1) Bg (fun a=>(by show 2<=9; decide)) ?h3 ?h4
 case h2=>kernel_rfl
 case h3=>intro b; kernel_rfl
 case h4=>exact fun a b h=>Dv a.1 b h
/- trestle/court.check$2 -/
noncomputable def Js:Code:=Bo Tryz.f161
def Ez (x0:AE) (x1:AE):Option (Bool) :=
 (if (x0.1==1)=true then (Am x0.2.2.2.1 x1.2.1).bind fun v1 =>
 some v1 else some false).bind fun j3 =>
 some j3
def Hh:Cs (AE×AE×Unit):=(csC AB (csC (cdP AB) csN))
def Hv (r:Bool):AV:=cdB.enc r
theorem MM (x0:AE) (x1:AE) (r:Bool) (h:Ez x0 x1=some r):Sem E0 ⟨none,false⟩ Js ⟨Fr 14 (BQ 0 (Hh.enc (x0,x1,()))),[]⟩ fun e s'=>(e = .normal\/e = .ret)/\∃ xs,Es E0.P s'.fr s'.hp Tryz.f161.results.toList=some xs/\FG xs=Hv r:=by
 unfold Ez at h;refine BV (CK (s1:=⟨Fr 14 [(0,AB.enc x0),(1,.pe (AB.enc x1) 0)],[]⟩) AZ ?_);refine AP AC [(1,.pe (AB.enc x1) 0),(2,.pt 0 0 0)] [some ⟨5,60,[AB.enc x0],false⟩] ?_;refine AJ ?_;obtain ⟨j3,hj3,h⟩:=OB h;refine AS (s1:=⟨Fr 14 [(3,.v (.bool j3))],[]⟩) ?_ ?_
 ·refine AF (n:=14) AC 4 [(1,.pe (AB.enc x1) 0),(2,.pt 0 0 0),(7,.v (.bool (x0.1==1)))] [some ⟨5,60,[AB.enc x0],false⟩] kr ?_
  rcases BE (x0.1==1) with hc4 | hc4
  ·rw [if_pos hc4] at hj3
   rw [hc4];refine AF (n:=14) AC 4 [(7,.v (.bool true)),(9,.sl 1 (x0.2.2.2.1.map cdS.enc)),(11,.st x1.2.1)] [some ⟨5,60,[AB.enc x0],false⟩] kr ?_;obtain ⟨v1,hv1,hj3⟩:=OB hj3;refine A1 (caps:=[]) (xs:=[.sl 1 (x0.2.2.2.1.map cdS.enc),.st x1.2.1]) (u:=(x0.2.2.2.1,x1.2.1,())) rfl rfl Ba rfl kr kr kr (AY (Ay (c:=(cdL 1 cdS)) (v:=x0.2.2.2.1)) (AY (Ay (c:=cdS) (v:=x1.2.1)) CB)) (.inl kr) hv1 ?_;refine AF (n:=14) AC 2 [(3,.v (.bool v1))] [some ⟨5,60,[AB.enc x0],false⟩] kr ?_;have hq:=OI hj3; subst hq;exact AR rfl (Az [] trivial ⟨lv,trivial⟩)
  ·rw [Cg hc4] at hj3
   rw [hc4];refine AF (n:=14) AC 7 [(3,.v (.bool false))] [some ⟨5,60,[AB.enc x0],false⟩] kr ?_;have hq:=OI hj3; subst hq;exact AR rfl (Az [] trivial ⟨lv,trivial⟩)
 refine Ah ?_;have hq:=OI h; subst hq;exact ⟨⟨Fr 14 [(3,.v (.bool j3))],[]⟩,AZ,.inr rfl,[.v (.bool j3)],kr,kr⟩
def OO:List AV->Option AV:=Ee Hh (fun a=>Ez a.1 a.2.1) Hv
theorem Oh:XOk 161 OO:=by
 refine Ad Tryz.func161 (c:=Js) ?h2 ⟨Tryz.call161⟩ Hh (fun a=>Ez a.1 a.2.1) Hv (fun a=>(by show 2<=14; decide)) ?h3 ?h4
 case h2=>kernel_rfl
 case h3=>intro b; kernel_rfl
 case h4=>exact fun a b h=>MM a.1 a.2.1 b h
/- slices.IndexFunc[[]trestle/api.Clause,trestle/api.Clause] -/
noncomputable def BR:Code:=Bo Tryz.f85
def Au (x0:(List AE)) (x1:AE):Nat->Int->Option ((Unit) ⊕ (Int))
 | 0,_=>none
 | f + 1,c1 =>
  if (decide (c1 < (x0.length:Int)))=true then
  (idx x0 c1).bind fun v3 =>
  (Ez v3 x1).bind fun v4 =>
  if v4=true then
  some (.inr c1)
  else
  Au x0 x1 f (wr .i64 (c1 + 1))
  else
  some (.inl ())
def Aj (x0:(List AE)) (x1:AE):Option (Int) :=
 (Au x0 x1 100000 0).bind fun r7 =>
 match r7 with
 | (.inl w8) =>
  some (-1)
 | (.inr w9) =>
  some w9
def BS:Cs ((List AE)×AE×Unit):=(csC (cdL 5 AB) (csC (cdF 161 (csE (cdP AB)) (fun _=>rfl)) csN))
def BT (r:Int):AV:=cdI.enc r
theorem CE (x0:(List AE)) (x1:AE):∀ (f:Nat) (c1:Int) (r:(Unit) ⊕ (Int)),Au x0 x1 f c1=some r->SemN E0 ⟨none,false⟩ (pc BR [1,0,1,0,0]) f ⟨Fr 19 [(0,.sl 5 (x0.map AB.enc)),(1,.fn 161 [] [.pe (AB.enc x1) 0]),(7,.v (.int .i64 (x0.length:Int))),(8,.v (.int .i64 c1))],[]⟩ (fun e s=>match r with
 | (.inl w)=>e=(.exit 0)/\Wk E0 s ⟨Fr 19 [],[]⟩
 | (.inr w)=>e = .ret/\Wk E0 s ⟨Fr 19 [(4,.v (.int .i64 w))],[]⟩):=by
 intro f;induction f with
 | zero=>intro c1 r h; cases h
 | succ f ih0 =>
  intro c1 r h
  have ih:=fun (c1:Int)=>ih0 c1 r
  unfold Au at h;refine FI ?_
  let p1:Nat×AV:=(8,.v (.int .i64 c1))
  let p2:Nat×AV:=(7,.v (.int .i64 (x0.length:Int)))
  let p3:Nat×AV:=(1,.fn 161 [] [.pe (AB.enc x1) 0])
  let p4:Nat×AV:=(0,.sl 5 (x0.map AB.enc))
  refine AP AC [p4,p3,p2,p1,(9,.v (.bool (decide (c1 < (x0.length:Int)))))] [] ?_;refine AJ ?_;refine Ab (b:=(decide (c1 < (x0.length:Int)))) kr (fun hb2=>?_) (fun hb2=>?_)
  ·rw [if_pos hb2] at h
   refine As ?_;refine AJ ?_;refine CI ?_
   let p5:Nat×AV:=(5,.v (.int .i64 c1))
   refine AP AC [p4,p3,p5,p2,p1] [] ?_;refine AJ ?_;obtain ⟨v3,hv3,h⟩:=OB h;obtain ⟨v4,hv4,h⟩:=OB h;refine AS (s1:=⟨Fr 19 [p4,p3,p5,p2,p1,(16,.v (.bool v4))],[]⟩) ?_ ?_
   ·let p6:Nat×AV:=(11,.fn 161 [] [.pe (AB.enc x1) 0])
    refine AF (n:=19) AC 3 [p4,p3,p5,p2,p1,p6,(12,.sl 5 (x0.map AB.enc)),(13,.v (.int .i64 c1))] [] kr ?_;refine A6 AC 0 rfl (Cw (AA rfl) rfl (AQ (a:= .sl 5 (x0.map AB.enc)) (b:= .v (.int .i64 c1)) kr kr (GS (e:=AB.enc) (el:=60) (k:=5) (ki:= .i64) kr kr hv3))) ?_;refine AF (n:=19) AC 1 [p4,p3,p5,p2,p1,p6,(15,AB.enc v3)] [] kr ?_;refine A1 (caps:=[.pe (AB.enc x1) 0]) (xs:=[AB.enc v3]) (u:=(v3,x1,())) rfl rfl Oh rfl (AA rfl) kr kr (AY (Ay (c:=AB) (v:=v3)) (AY (Ay (c:=(cdP AB)) (v:=x1)) CB)) (.inl kr) hv4 ?_;exact AR rfl AZ
   refine Ab (b:=v4) kr (fun hb5=>?_) (fun hb5=>?_)
   ·rw [if_pos hb5] at h
    refine AP AC [(4,.v (.int .i64 c1))] [] ?_;refine Ah ?_;have hq:=OI h; subst hq;exact ⟨rfl,AZ⟩
   ·rw [Cg hb5] at h
    refine As ?_
    let p7:Nat×AV:=(8,.v (.int .i64 (wr .i64 (c1 + 1))))
    refine Fb AC [p4,p3,p2,p7] [] ?_;exact Ck (s1:=⟨Fr 19 [p4,p3,p2,p7],[]⟩) AZ (ih (wr .i64 (c1 + 1)) h)
  ·rw [Cg hb2] at h
   refine F8 ?_;have hq:=OI h; subst hq;exact ⟨rfl,AZ⟩
theorem DZ (x0:(List AE)) (x1:AE) (r:Int) (h:Aj x0 x1=some r):Sem E0 ⟨none,false⟩ BR ⟨Fr 19 (BQ 0 (BS.enc (x0,x1,()))),[]⟩ fun e s'=>(e = .normal\/e = .ret)/\∃ xs,Es E0.P s'.fr s'.hp Tryz.f85.results.toList=some xs/\FG xs=BT r:=by
 unfold Aj at h
 let p1:Nat×AV:=(1,.fn 161 [] [.pe (AB.enc x1) 0])
 let p2:Nat×AV:=(0,.sl 5 (x0.map AB.enc))
 refine BV (CK (s1:=⟨Fr 19 [p2,p1],[]⟩) AZ ?_);refine AP AC [p2,p1] [] ?_;refine AJ ?_;refine AJ ?_
 let p3:Nat×AV:=(8,.v (.int .i64 0))
 let p4:Nat×AV:=(7,.v (.int .i64 (x0.length:Int)))
 refine AS (s1:=⟨Fr 19 [p2,p1,p4,p3],[]⟩) ?_ ?_
 ·refine AF (n:=19) AC 1 [p2,p1,(6,.sl 5 (x0.map AB.enc))] [] kr ?_
  refine A6 AC 0 rfl (Cw (AA rfl) rfl (Ed (a:= .sl 5 (x0.map AB.enc)) kr (DC (el:=60) kr))) ?_;exact BH AC
 refine CI ?_;obtain ⟨r7,hr7,h⟩:=OB h;refine F9 (n:=100000) ?_;rcases r7 with w8 | w9
 ·try dsimp only at h
  refine DR (Ck (s1:=⟨Fr 19 [p2,p1,p4,p3],[]⟩) AZ (CE x0 x1 _ 0 _ hr7)) ?_;refine AP AC [(4,.v (.int .i64 (-1)))] [] ?_;refine Ah ?_;have hq:=OI h; subst hq;exact ⟨⟨Fr 19 [(4,.v (.int .i64 (-1)))],[]⟩,AZ,.inr rfl,[.v (.int .i64 (-1))],kr,kr⟩
 ·try dsimp only at h
  refine DR (Ck (s1:=⟨Fr 19 [p2,p1,p4,p3],[]⟩) AZ (CE x0 x1 _ 0 _ hr7)) ?_;have hq:=OI h; subst hq;exact ⟨⟨Fr 19 [(4,.v (.int .i64 w9))],[]⟩,AZ,.inr rfl,[.v (.int .i64 w9)],kr,kr⟩
def Dh:List AV->Option AV:=Ee BS (fun a=>Aj a.1 a.2.1) BT
theorem Di:XOk 85 Dh:=by
 refine Ad Tryz.func85 (c:=BR) ?h2 ⟨Tryz.call85⟩ BS (fun a=>Aj a.1 a.2.1) BT (fun a=>(by show 2<=19; decide)) ?h3 ?h4
 case h2=>kernel_rfl
 case h3=>intro b; kernel_rfl
 case h4=>exact fun a b h=>DZ a.1 a.2.1 b h
/- slices.ContainsFunc[[]trestle/api.Clause,trestle/api.Clause] -/
noncomputable def CC:Code:=Bo Tryz.f53
def AT (x0:(List AE)) (x1:AE):Option (Bool) :=
 (Aj x0 x1).bind fun v1 =>
 some (decide (v1≥0))
def BO:Cs ((List AE)×AE×Unit):=(csC (cdL 5 AB) (csC (cdF 161 (csE (cdP AB)) (fun _=>rfl)) csN))
def BP (r:Bool):AV:=cdB.enc r
theorem DD (x0:(List AE)) (x1:AE) (r:Bool) (h:AT x0 x1=some r):Sem E0 ⟨none,false⟩ CC ⟨Fr 9 (BQ 0 (BO.enc (x0,x1,()))),[]⟩ fun e s'=>(e = .normal\/e = .ret)/\∃ xs,Es E0.P s'.fr s'.hp Tryz.f53.results.toList=some xs/\FG xs=BP r:=by
 unfold AT at h
 let p1:Nat×AV:=(1,.fn 161 [] [.pe (AB.enc x1) 0])
 let p2:Nat×AV:=(0,.sl 5 (x0.map AB.enc))
 refine BV (CK (s1:=⟨Fr 9 [p2,p1],[]⟩) AZ ?_);refine AP AC [p2,p1] [] ?_;refine AJ ?_;obtain ⟨v1,hv1,h⟩:=OB h
 let p3:Nat×AV:=(4,.v (.bool (decide (v1≥0))))
 refine AS (s1:=⟨Fr 9 [p3],[]⟩) ?_ ?_
 ·refine AF (n:=9) AC 2 [(5,.sl 5 (x0.map AB.enc)),(6,.fn 161 [] [.pe (AB.enc x1) 0])] [] kr ?_
  refine A1 (caps:=[]) (xs:=[.sl 5 (x0.map AB.enc),.fn 161 [] [.pe (AB.enc x1) 0]]) (u:=(x0,x1,())) rfl rfl Di rfl (AA rfl) kr kr (AY (Ay (c:=(cdL 5 AB)) (v:=x0)) (AY (Sm.fn (Pc (Ay (c:=(cdP AB)) (v:=x1)))) CB)) (.inl kr) hv1 ?_;exact BH AC
 refine Ah ?_;have hq:=OI h; subst hq;exact ⟨⟨Fr 9 [p3],[]⟩,AZ,.inr rfl,[.v (.bool (decide (v1≥0)))],kr,kr⟩
def DT:List AV->Option AV:=Ee BO (fun a=>AT a.1 a.2.1) BP
theorem DU:XOk 53 DT:=by
 refine Ad Tryz.func53 (c:=CC) ?h2 ⟨Tryz.call53⟩ BO (fun a=>AT a.1 a.2.1) BP (fun a=>(by show 2<=9; decide)) ?h3 ?h4
 case h2=>kernel_rfl
 case h3=>intro b; kernel_rfl
 case h4=>exact fun a b h=>DD a.1 a.2.1 b h
/- trestle/court.check -/
noncomputable def I4:Code:=Bo Tryz.f128
def Du (x0:(List AE)) (x1:AE):Nat->Int->Option ((Unit) ⊕ (Int))
 | 0,_=>none
 | f + 1,c9 =>
  if (decide (c9 < (x1.2.2.2.1.length:Int)))=true then
  (idx x1.2.2.2.1 c9).bind fun v11 =>
  if (DK 0 c9 x1.2.2.2.1.length)=true then
  (Am ((x1.2.2.2.1.take c9.toNat).drop (0:Int).toNat) v11).bind fun v13 =>
  if v13=true then
  some (.inr 5)
  else
  Du x0 x1 f (wr .i64 (c9 + 1))
  else none
  else
  some (.inl ())
def GG (x0:(List AE)) (x1:AE):Option (Int) :=
 (Bv x1).bind fun v1 =>
 if (!v1)=true then
 some 30
 else
 (if (!(x1.2.1==[]))=true then (Fo x1.2.1).bind fun v3 =>
 if (!v3)=true then some true else (AU x1.2.2.2.1).bind fun v4 =>
 some v4 else (AU x1.2.2.2.1).bind fun v5 =>
 some v5).bind fun j7 =>
 if j7=true then
 some 4
 else
 (Du x0 x1 100000 0).bind fun r16 =>
 match r16 with
 | (.inl w17) =>
  (if (x1.2.1==[])=true then some true else (AT x0 x1).bind fun v18 =>
  some v18).bind fun j20 =>
  if j20=true then
  some 0
  else
  some 31
 | (.inr w23) =>
  some w23
def I6:Cs ((List AE)×AE×Unit):=(csC (cdL 5 AB) (csC AB csN))
def I9 (r:Int):AV:=cdI.enc r
theorem JO (x0:(List AE)) (x1:AE):∀ (f:Nat) (c9:Int) (r:(Unit) ⊕ (Int)),Du x0 x1 f c9=some r->SemN E0 ⟨none,false⟩ (pc I4 [1,1,1,0,1,0,0]) f ⟨Fr 47 [(0,.sl 5 (x0.map AB.enc)),(3,.pt 0 0 0),(25,.sl 1 (x1.2.2.2.1.map cdS.enc)),(26,.v (.int .i64 (x1.2.2.2.1.length:Int))),(27,.v (.int .i64 c9))],[some ⟨5,60,[AB.enc x1],false⟩]⟩ (fun e s=>match r with
 | (.inl w)=>e=(.exit 0)/\Wk E0 s ⟨Fr 47 [(0,.sl 5 (x0.map AB.enc)),(3,.pt 0 0 0)],[some ⟨5,60,[AB.enc x1],false⟩]⟩
 | (.inr w)=>e = .ret/\Wk E0 s ⟨Fr 47 [(4,.v (.int .i64 w))],[]⟩):=by
 intro f;induction f with
 | zero=>intro c9 r h; cases h
 | succ f ih0 =>
  intro c9 r h
  have ih:=fun (c9:Int)=>ih0 c9 r
  unfold Du at h;refine FI ?_
  let p1:Option Blk:=some ⟨5,60,[AB.enc x1],false⟩
  let p2:Nat×AV:=(27,.v (.int .i64 c9))
  let p3:Nat×AV:=(26,.v (.int .i64 (x1.2.2.2.1.length:Int)))
  let p4:Nat×AV:=(25,.sl 1 (x1.2.2.2.1.map cdS.enc))
  let p5:Nat×AV:=(3,.pt 0 0 0)
  let p6:Nat×AV:=(0,.sl 5 (x0.map AB.enc))
  refine AP AC [p6,p5,p4,p3,p2,(28,.v (.bool (decide (c9 < (x1.2.2.2.1.length:Int)))))] [p1] ?_;refine AJ ?_;refine Ab (b:=(decide (c9 < (x1.2.2.2.1.length:Int)))) kr (fun hb10=>?_) (fun hb10=>?_)
  ·rw [if_pos hb10] at h
   refine As ?_;refine AJ ?_;refine CI ?_;refine AJ ?_;obtain ⟨v11,hv11,h⟩:=OB h;refine AS (s1:=⟨Fr 47 [p6,p5,(5,.v (.int .i64 c9)),(6,.st v11),p4,p3,p2],[p1]⟩) ?_ ?_
   ·refine AF (n:=47) AC 1 [p6,p5,p4,p3,p2,(29,.v (.int .i64 c9))] [p1] kr ?_
    refine A6 AC 0 rfl (Cw (AA rfl) rfl (AQ (a:= .sl 1 (x1.2.2.2.1.map cdS.enc)) (b:= .v (.int .i64 c9)) kr kr (GS (e:=cdS.enc) (el:=9) (k:=1) (ki:= .i64) kr kr hv11))) ?_;exact BH AC
   refine AJ ?_;by_cases hk12:(DK 0 c9 x1.2.2.2.1.length)=true
   case neg=>rw [if_neg hk12] at h; cases h
   rw [if_pos hk12] at h;obtain ⟨v13,hv13,h⟩:=OB h;refine AS (s1:=⟨Fr 47 [p6,p5,p4,p3,p2,(37,.v (.bool v13))],[p1]⟩) ?_ ?_
   ·refine AF (n:=47) AC 3 [p6,p5,(6,.st v11),p4,p3,p2,(33,.sl 1 (x1.2.2.2.1.map cdS.enc)),(34,.v (.int .i64 c9))] [p1] kr ?_
    refine A6 AC 0 rfl (Cw (AA rfl) rfl (EE (a:= .sl 1 (x1.2.2.2.1.map cdS.enc)) (l:=none) (u:=(some (.v (.int .i64 c9)))) (m:=none) kr kr kr rfl (K0 (xs:=x1.2.2.2.1) (e:=cdS.enc) (k:=1) (el:=9) (lo:=0) (hi:=c9) kr kr rfl (GR (JP hk12)) hk12))) ?_;refine AF (n:=47) AC 1 [p6,p5,p4,p3,p2,(35,.sl 1 (((x1.2.2.2.1.take c9.toNat).drop (0:Int).toNat).map cdS.enc)),(36,.st v11)] [p1] kr ?_;refine A1 (caps:=[]) (xs:=[.sl 1 (((x1.2.2.2.1.take c9.toNat).drop (0:Int).toNat).map cdS.enc),.st v11]) (u:=(((x1.2.2.2.1.take c9.toNat).drop (0:Int).toNat),v11,())) rfl rfl Ba rfl (AA rfl) kr kr (AY (Ay (c:=(cdL 1 cdS)) (v:=((x1.2.2.2.1.take c9.toNat).drop (0:Int).toNat))) (AY (Ay (c:=cdS) (v:=v11)) CB)) (.inl kr) hv13 ?_;exact AR rfl (Az [0] ⟨⟨_,rfl,C8⟩,trivial⟩ ⟨lv,lv,lv,lv,lv,lv,trivial⟩)
   refine Ab (b:=v13) kr (fun hb14=>?_) (fun hb14=>?_)
   ·rw [if_pos hb14] at h
    refine AJ ?_;refine AS (s1:=⟨Fr 47 [(4,.v (.int .i64 5))],[]⟩) ?_ ?_
    ·refine AF (n:=47) AC 1 [(4,.v (.int .i64 5))] [p1] kr ?_
     exact AR rfl (Az [] trivial ⟨lv,trivial⟩)
    refine Ah ?_;have hq:=OI h; subst hq;exact ⟨rfl,AZ⟩
   ·rw [Cg hb14] at h
    refine As ?_
    let p7:Nat×AV:=(27,.v (.int .i64 (wr .i64 (c9 + 1))))
    refine Fb AC [p6,p5,p4,p3,p7] [p1] ?_;exact Ck (s1:=⟨Fr 47 [p6,p5,p4,p3,p7],[p1]⟩) (Az [0] ⟨⟨_,rfl,C8⟩,trivial⟩ ⟨lv,lv,lv,lv,lv,trivial⟩) (ih (wr .i64 (c9 + 1)) h)
  ·rw [Cg hb10] at h
   refine F8 ?_;have hq:=OI h; subst hq;exact ⟨rfl,(Az [0] ⟨⟨_,rfl,C8⟩,trivial⟩ ⟨lv,lv,trivial⟩)⟩
theorem Nm (x0:(List AE)) (x1:AE) (r:Int) (h:GG x0 x1=some r):Sem E0 ⟨none,false⟩ I4 ⟨Fr 47 (BQ 0 (I6.enc (x0,x1,()))),[]⟩ fun e s'=>(e = .normal\/e = .ret)/\∃ xs,Es E0.P s'.fr s'.hp Tryz.f128.results.toList=some xs/\FG xs=I9 r:=by
 unfold GG at h;refine BV (CK (s1:=⟨Fr 47 [(0,.sl 5 (x0.map AB.enc)),(1,AB.enc x1)],[]⟩) AZ ?_);refine AP AC [(0,.sl 5 (x0.map AB.enc)),(3,.pt 0 0 0)] [some ⟨5,60,[AB.enc x1],false⟩] ?_;refine AJ ?_;refine AJ ?_;obtain ⟨v1,hv1,h⟩:=OB h;refine AS (s1:=⟨Fr 47 [(0,.sl 5 (x0.map AB.enc)),(3,.pt 0 0 0),(9,.v (.bool (!v1)))],[some ⟨5,60,[AB.enc x1],false⟩]⟩) ?_ ?_
 ·refine AF (n:=47) AC 1 [(0,.sl 5 (x0.map AB.enc)),(3,.pt 0 0 0),(7,AB.enc x1)] [some ⟨5,60,[AB.enc x1],false⟩] kr ?_
  refine A1 (caps:=[]) (xs:=[AB.enc x1]) (u:=(x1,())) rfl rfl O9 rfl (AA rfl) kr kr (AY (Ay (c:=AB) (v:=x1)) CB) (.inl kr) hv1 ?_;exact BH AC
 refine Ab (b:=(!v1)) kr (fun hb2=>?_) (fun hb2=>?_)
 ·rw [if_pos hb2] at h
  refine AJ ?_;refine AS (s1:=⟨Fr 47 [(4,.v (.int .i64 30))],[]⟩) ?_ ?_
  ·refine AF (n:=47) AC 1 [(4,.v (.int .i64 30))] [some ⟨5,60,[AB.enc x1],false⟩] kr ?_
   exact AR rfl (Az [] trivial ⟨lv,trivial⟩)
  refine Ah ?_;have hq:=OI h; subst hq;exact ⟨⟨Fr 47 [(4,.v (.int .i64 30))],[]⟩,AZ,.inr rfl,[.v (.int .i64 30)],kr,kr⟩
 ·rw [Cg hb2] at h
  refine As ?_;refine AJ ?_;refine AJ ?_;obtain ⟨j7,hj7,h⟩:=OB h;refine AS (s1:=⟨Fr 47 [(0,.sl 5 (x0.map AB.enc)),(3,.pt 0 0 0),(23,.v (.bool j7))],[some ⟨5,60,[AB.enc x1],false⟩]⟩) ?_ ?_
  ·refine AF (n:=47) AC 4 [(0,.sl 5 (x0.map AB.enc)),(3,.pt 0 0 0),(13,.v (.bool (!(x1.2.1==[]))))] [some ⟨5,60,[AB.enc x1],false⟩] kr ?_
   rcases BE (!(x1.2.1==[])) with hc24 | hc24
   ·rw [if_pos hc24] at hj7
    rw [hc24];refine AF (n:=47) AC 2 [(0,.sl 5 (x0.map AB.enc)),(3,.pt 0 0 0),(13,.v (.bool true)),(15,.st x1.2.1)] [some ⟨5,60,[AB.enc x1],false⟩] kr ?_;obtain ⟨v3,hv3,hj7⟩:=OB hj7;refine A1 (caps:=[]) (xs:=[.st x1.2.1]) (u:=(x1.2.1,())) rfl rfl Kn rfl kr kr kr (AY (Ay (c:=cdS) (v:=x1.2.1)) CB) (.inl kr) hv3 ?_;refine AF (n:=47) AC 3 [(0,.sl 5 (x0.map AB.enc)),(3,.pt 0 0 0),(19,.v (.bool (!v3)))] [some ⟨5,60,[AB.enc x1],false⟩] kr ?_;rcases BE (!v3) with hc25 | hc25
    ·rw [if_pos hc25] at hj7
     rw [hc25];refine AF (n:=47) AC 4 [(0,.sl 5 (x0.map AB.enc)),(3,.pt 0 0 0),(23,.v (.bool true))] [some ⟨5,60,[AB.enc x1],false⟩] kr ?_;have hq:=OI hj7; subst hq;exact AR rfl (Az [0] ⟨⟨_,rfl,C8⟩,trivial⟩ ⟨lv,lv,lv,trivial⟩)
    ·rw [Cg hc25] at hj7
     rw [hc25];refine AF (n:=47) AC 2 [(0,.sl 5 (x0.map AB.enc)),(3,.pt 0 0 0),(19,.v (.bool false)),(21,.sl 1 (x1.2.2.2.1.map cdS.enc))] [some ⟨5,60,[AB.enc x1],false⟩] kr ?_;obtain ⟨v4,hv4,hj7⟩:=OB hj7;refine A1 (caps:=[]) (xs:=[.sl 1 (x1.2.2.2.1.map cdS.enc),.fn 160 [] []]) (u:=(x1.2.2.2.1,(),())) rfl rfl Ch rfl kr kr kr (AY (Ay (c:=(cdL 1 cdS)) (v:=x1.2.2.2.1)) (AY (Sm.fn CB) CB)) (.inl kr) hv4 ?_;refine AF (n:=47) AC 1 [(0,.sl 5 (x0.map AB.enc)),(3,.pt 0 0 0),(23,.v (.bool v4))] [some ⟨5,60,[AB.enc x1],false⟩] kr ?_;have hq:=OI hj7; subst hq;exact AR rfl (Az [0] ⟨⟨_,rfl,C8⟩,trivial⟩ ⟨lv,lv,lv,trivial⟩)
   ·rw [Cg hc24] at hj7
    rw [hc24];refine AF (n:=47) AC 8 [(0,.sl 5 (x0.map AB.enc)),(3,.pt 0 0 0),(19,.v (.bool false)),(21,.sl 1 (x1.2.2.2.1.map cdS.enc))] [some ⟨5,60,[AB.enc x1],false⟩] kr ?_;obtain ⟨v5,hv5,hj7⟩:=OB hj7;refine A1 (caps:=[]) (xs:=[.sl 1 (x1.2.2.2.1.map cdS.enc),.fn 160 [] []]) (u:=(x1.2.2.2.1,(),())) rfl rfl Ch rfl kr kr kr (AY (Ay (c:=(cdL 1 cdS)) (v:=x1.2.2.2.1)) (AY (Sm.fn CB) CB)) (.inl kr) hv5 ?_;refine AF (n:=47) AC 1 [(0,.sl 5 (x0.map AB.enc)),(3,.pt 0 0 0),(23,.v (.bool v5))] [some ⟨5,60,[AB.enc x1],false⟩] kr ?_;have hq:=OI hj7; subst hq;exact AR rfl (Az [0] ⟨⟨_,rfl,C8⟩,trivial⟩ ⟨lv,lv,lv,trivial⟩)
  refine Ab (b:=j7) kr (fun hb8=>?_) (fun hb8=>?_)
  ·rw [if_pos hb8] at h
   refine AJ ?_;refine AS (s1:=⟨Fr 47 [(4,.v (.int .i64 4))],[]⟩) ?_ ?_
   ·refine AF (n:=47) AC 1 [(4,.v (.int .i64 4))] [some ⟨5,60,[AB.enc x1],false⟩] kr ?_
    exact AR rfl (Az [] trivial ⟨lv,trivial⟩)
   refine Ah ?_;have hq:=OI h; subst hq;exact ⟨⟨Fr 47 [(4,.v (.int .i64 4))],[]⟩,AZ,.inr rfl,[.v (.int .i64 4)],kr,kr⟩
  ·rw [Cg hb8] at h
   refine As ?_;refine AJ ?_;refine AJ ?_;refine AS (s1:=⟨Fr 47 [(0,.sl 5 (x0.map AB.enc)),(3,.pt 0 0 0),(25,.sl 1 (x1.2.2.2.1.map cdS.enc)),(26,.v (.int .i64 (x1.2.2.2.1.length:Int))),(27,.v (.int .i64 0))],[some ⟨5,60,[AB.enc x1],false⟩]⟩) ?_ ?_
   ·refine AF (n:=47) AC 2 [(0,.sl 5 (x0.map AB.enc)),(3,.pt 0 0 0),(25,.sl 1 (x1.2.2.2.1.map cdS.enc))] [some ⟨5,60,[AB.enc x1],false⟩] kr ?_
    refine A6 AC 0 rfl (Cw (AA rfl) rfl (Ed (a:= .sl 1 (x1.2.2.2.1.map cdS.enc)) kr (DC (el:=9) kr))) ?_;exact BH AC
   refine CI ?_;obtain ⟨r16,hr16,h⟩:=OB h;refine F9 (n:=100000) ?_;rcases r16 with w17 | w23
   ·try dsimp only at h
    refine DR (Ck (s1:=⟨Fr 47 [(0,.sl 5 (x0.map AB.enc)),(3,.pt 0 0 0),(25,.sl 1 (x1.2.2.2.1.map cdS.enc)),(26,.v (.int .i64 (x1.2.2.2.1.length:Int))),(27,.v (.int .i64 0))],[some ⟨5,60,[AB.enc x1],false⟩]⟩) (Az [0] ⟨⟨_,rfl,C8⟩,trivial⟩ ⟨lv,lv,lv,lv,lv,trivial⟩) (JO x0 x1 _ 0 _ hr16)) ?_;refine AJ ?_;refine AJ ?_;obtain ⟨j20,hj20,h⟩:=OB h;refine AS (s1:=⟨Fr 47 [(46,.v (.bool j20))],[]⟩) ?_ ?_
    ·refine AF (n:=47) AC 4 [(0,.sl 5 (x0.map AB.enc)),(3,.pt 0 0 0),(42,.v (.bool (x1.2.1==[])))] [some ⟨5,60,[AB.enc x1],false⟩] kr ?_
     rcases BE (x1.2.1==[]) with hc22 | hc22
     ·rw [if_pos hc22] at hj20
      rw [hc22];refine AF (n:=47) AC 4 [(46,.v (.bool true))] [some ⟨5,60,[AB.enc x1],false⟩] kr ?_;have hq:=OI hj20; subst hq;exact AR rfl (Az [] trivial ⟨lv,trivial⟩)
     ·rw [Cg hc22] at hj20
      rw [hc22];refine AF (n:=47) AC 2 [(42,.v (.bool false)),(43,.sl 5 (x0.map AB.enc)),(44,.fn 161 [] [.pt 0 0 0])] [some ⟨5,60,[AB.enc x1],false⟩] kr ?_;obtain ⟨v18,hv18,hj20⟩:=OB hj20;refine A1 (caps:=[]) (xs:=[.sl 5 (x0.map AB.enc),.fn 161 [] [.pt 0 0 0]]) (u:=(x0,x1,())) rfl rfl DU rfl kr kr kr (AY (Ay (c:=(cdL 5 AB)) (v:=x0)) (AY (Sm.fn (Pc (Sm.pt (k:=5) (t:=60) (fz:=false) (y:=(AB.enc x1)) kr (Ay (c:=AB) (v:=x1))))) CB)) (.inl kr) hv18 ?_;refine AF (n:=47) AC 1 [(46,.v (.bool v18))] [some ⟨5,60,[AB.enc x1],false⟩] kr ?_;have hq:=OI hj20; subst hq;exact AR rfl (Az [] trivial ⟨lv,trivial⟩)
    refine Ab (b:=j20) kr (fun hb21=>?_) (fun hb21=>?_)
    ·rw [if_pos hb21] at h
     refine AP AC [(4,.v (.int .i64 0))] [] ?_;refine Ah ?_;have hq:=OI h; subst hq;exact ⟨⟨Fr 47 [(4,.v (.int .i64 0))],[]⟩,AZ,.inr rfl,[.v (.int .i64 0)],kr,kr⟩
    ·rw [Cg hb21] at h
     refine As ?_;refine AP AC [(4,.v (.int .i64 31))] [] ?_;refine Ah ?_;have hq:=OI h; subst hq;exact ⟨⟨Fr 47 [(4,.v (.int .i64 31))],[]⟩,AZ,.inr rfl,[.v (.int .i64 31)],kr,kr⟩
   ·try dsimp only at h
    refine DR (Ck (s1:=⟨Fr 47 [(0,.sl 5 (x0.map AB.enc)),(3,.pt 0 0 0),(25,.sl 1 (x1.2.2.2.1.map cdS.enc)),(26,.v (.int .i64 (x1.2.2.2.1.length:Int))),(27,.v (.int .i64 0))],[some ⟨5,60,[AB.enc x1],false⟩]⟩) (Az [0] ⟨⟨_,rfl,C8⟩,trivial⟩ ⟨lv,lv,lv,lv,lv,trivial⟩) (JO x0 x1 _ 0 _ hr16)) ?_;have hq:=OI h; subst hq;exact ⟨⟨Fr 47 [(4,.v (.int .i64 w23))],[]⟩,AZ,.inr rfl,[.v (.int .i64 w23)],kr,kr⟩
def QB:List AV->Option AV:=Ee I6 (fun a=>GG a.1 a.2.1) I9
theorem QJ:XOk 128 QB:=by
 refine Ad Tryz.func128 (c:=I4) ?h2 ⟨Tryz.call128⟩ I6 (fun a=>GG a.1 a.2.1) I9 (fun a=>(by show 2<=47; decide)) ?h3 ?h4
 case h2=>kernel_rfl
 case h3=>intro b; kernel_rfl
 case h4=>exact fun a b h=>Nm a.1 a.2.1 b h
/- trestle/court.Check -/
noncomputable def I3:Code:=Bo Tryz.f80
def Dt (x0:(List AE)):Nat->Int->Option ((Unit) ⊕ (Int×Int))
 | 0,_=>none
 | f + 1,c2 =>
  if (decide (c2 < (x0.length:Int)))=true then
  (idx x0 c2).bind fun v4 =>
  if (DK 0 c2 x0.length)=true then
  (GG ((x0.take c2.toNat).drop (0:Int).toNat) v4).bind fun v6 =>
  if (v6 != 0)=true then
  some (.inr (c2,v6))
  else
  Dt x0 f (wr .i64 (c2 + 1))
  else none
  else
  some (.inl ())
def Fd (x0:(List AE)):Option (Int×Int) :=
 if (decide ((x0.length:Int) > 32))=true then
 some (0,7)
 else
 (Dt x0 100000 0).bind fun r10 =>
 match r10 with
 | (.inl w11) =>
  some (0,0)
 | (.inr w12) =>
  some (w12.1,w12.2)
def I5:Cs ((List AE)×Unit):=(csC (cdL 5 AB) csN)
def I8 (r:Int×Int):AV:= .tp [cdI.enc r.1,cdI.enc r.2]
theorem JN (x0:(List AE)):∀ (f:Nat) (c2:Int) (r:(Unit) ⊕ (Int×Int)),Dt x0 f c2=some r->SemN E0 ⟨none,false⟩ (pc I3 [1,1,0,1,0,0]) f ⟨Fr 27 [(0,.sl 5 (x0.map AB.enc)),(10,.sl 5 (x0.map AB.enc)),(11,.v (.int .i64 (x0.length:Int))),(12,.v (.int .i64 c2))],[]⟩ (fun e s=>match r with
 | (.inl w)=>e=(.exit 0)/\Wk E0 s ⟨Fr 27 [],[]⟩
 | (.inr w)=>e = .ret/\Wk E0 s ⟨Fr 27 [(2,.v (.int .i64 w.1)),(3,.v (.int .i64 w.2))],[]⟩):=by
 intro f;induction f with
 | zero=>intro c2 r h; cases h
 | succ f ih0 =>
  intro c2 r h
  have ih:=fun (c2:Int)=>ih0 c2 r
  unfold Dt at h;refine FI ?_
  let p1:Nat×AV:=(12,.v (.int .i64 c2))
  let p2:Nat×AV:=(11,.v (.int .i64 (x0.length:Int)))
  let p3:Nat×AV:=(10,.sl 5 (x0.map AB.enc))
  let p4:Nat×AV:=(0,.sl 5 (x0.map AB.enc))
  refine AP AC [p4,p3,p2,p1,(13,.v (.bool (decide (c2 < (x0.length:Int)))))] [] ?_;refine AJ ?_;refine Ab (b:=(decide (c2 < (x0.length:Int)))) kr (fun hb3=>?_) (fun hb3=>?_)
  ·rw [if_pos hb3] at h
   refine As ?_;refine AJ ?_;refine CI ?_;refine AJ ?_;obtain ⟨v4,hv4,h⟩:=OB h
   let p5:Option Blk:=some ⟨5,60,[AB.enc v4],false⟩
   let p6:Nat×AV:=(4,.v (.int .i64 c2))
   refine AS (s1:=⟨Fr 27 [p4,p6,(5,.pt 0 0 0),p3,p2,p1],[p5]⟩) ?_ ?_
   ·refine AF (n:=27) AC 1 [p4,p3,p2,p1,(14,.v (.int .i64 c2))] [] kr ?_
    refine A6 AC 0 rfl (Cw (AA rfl) rfl (AQ (a:= .sl 5 (x0.map AB.enc)) (b:= .v (.int .i64 c2)) kr kr (GS (e:=AB.enc) (el:=60) (k:=5) (ki:= .i64) kr kr hv4))) ?_;exact BH AC
   refine AJ ?_;by_cases hk5:(DK 0 c2 x0.length)=true
   case neg=>rw [if_neg hk5] at h; cases h
   rw [if_pos hk5] at h;obtain ⟨v6,hv6,h⟩:=OB h
   let p7:Nat×AV:=(6,.v (.int .i64 v6))
   refine F6 AC (s1:=⟨Fr 27 [p4,p6,p7,p3,p2,p1],[]⟩) kr ?_ ?_
   ·refine Bp (n:=27) AC 2 [p4,p6,(5,.pt 0 0 0),p3,p2,p1,(17,.sl 5 (x0.map AB.enc)),(18,.v (.int .i64 c2))] [p5] kr kr ?_
    refine RunDS.one AC rfl kr (Yk kr (AA rfl) rfl (EE (a:= .sl 5 (x0.map AB.enc)) (l:=none) (u:=(some (.v (.int .i64 c2)))) (m:=none) kr kr kr rfl (K0 (xs:=x0) (e:=AB.enc) (k:=5) (el:=60) (lo:=0) (hi:=c2) kr kr rfl (GR (JP hk5)) hk5)) kr) ?_;refine Bp (n:=27) AC 1 [p4,p6,p3,p2,p1,(19,.sl 5 (((x0.take c2.toNat).drop (0:Int).toNat).map AB.enc)),(20,AB.enc v4)] [p5] kr kr ?_;refine CT (caps:=[]) (xs:=[.sl 5 (((x0.take c2.toNat).drop (0:Int).toNat).map AB.enc),AB.enc v4]) (u:=(((x0.take c2.toNat).drop (0:Int).toNat),v4,())) rfl rfl QJ rfl (AA rfl) kr kr (AY (Ay (c:=(cdL 5 AB)) (v:=((x0.take c2.toNat).drop (0:Int).toNat))) (AY (Ay (c:=AB) (v:=v4)) CB)) kr hv6 ?_;refine Bp (n:=27) AC 1 [p4,p6,p7,p3,p2,p1] [p5] kr kr ?_;exact RunDS.done rfl (Az [] trivial ⟨lv,lv,lv,lv,lv,lv,trivial⟩)
   refine AP AC [p4,p6,p7,p3,p2,p1,(23,.v (.bool (v6 != 0)))] [] ?_;refine Ab (b:=(v6 != 0)) kr (fun hb7=>?_) (fun hb7=>?_)
   ·rw [if_pos hb7] at h
    refine AP AC [(2,.v (.int .i64 c2)),(3,.v (.int .i64 v6))] [] ?_;refine Ah ?_;have hq:=OI h; subst hq;exact ⟨rfl,AZ⟩
   ·rw [Cg hb7] at h
    refine As ?_
    let p8:Nat×AV:=(12,.v (.int .i64 (wr .i64 (c2 + 1))))
    refine Fb AC [p4,p3,p2,p8] [] ?_;exact Ck (s1:=⟨Fr 27 [p4,p3,p2,p8],[]⟩) AZ (ih (wr .i64 (c2 + 1)) h)
  ·rw [Cg hb3] at h
   refine F8 ?_;have hq:=OI h; subst hq;exact ⟨rfl,AZ⟩
theorem Nl (x0:(List AE)) (r:Int×Int) (h:Fd x0=some r):Sem E0 ⟨none,false⟩ I3 ⟨Fr 27 (BQ 0 (I5.enc (x0,()))),[]⟩ fun e s'=>(e = .normal\/e = .ret)/\∃ xs,Es E0.P s'.fr s'.hp Tryz.f80.results.toList=some xs/\FG xs=I8 r:=by
 unfold Fd at h
 let p1:Nat×AV:=(0,.sl 5 (x0.map AB.enc))
 refine BV (CK (s1:=⟨Fr 27 [p1],[]⟩) AZ ?_);refine AP AC [p1] [] ?_;refine AJ ?_;refine AJ ?_;refine AS (s1:=⟨Fr 27 [p1,(9,.v (.bool (decide ((x0.length:Int) > 32))))],[]⟩) ?_ ?_
 ·refine AF (n:=27) AC 1 [p1,(7,.sl 5 (x0.map AB.enc))] [] kr ?_
  refine A6 AC 0 rfl (Cw (AA rfl) rfl (Ed (a:= .sl 5 (x0.map AB.enc)) kr (DC (el:=60) kr))) ?_;exact BH AC
 refine Ab (b:=(decide ((x0.length:Int) > 32))) kr (fun hb1=>?_) (fun hb1=>?_)
 ·rw [if_pos hb1] at h
  refine AP AC [(2,.v (.int .i64 0)),(3,.v (.int .i64 7))] [] ?_;refine Ah ?_;have hq:=OI h; subst hq;exact ⟨⟨Fr 27 [(2,.v (.int .i64 0)),(3,.v (.int .i64 7))],[]⟩,AZ,.inr rfl,[.v (.int .i64 0),.v (.int .i64 7)],kr,kr⟩
 ·rw [Cg hb1] at h
  refine As ?_;refine AJ ?_;refine AJ ?_
  let p2:Nat×AV:=(12,.v (.int .i64 0))
  let p3:Nat×AV:=(11,.v (.int .i64 (x0.length:Int)))
  let p4:Nat×AV:=(10,.sl 5 (x0.map AB.enc))
  refine AS (s1:=⟨Fr 27 [p1,p4,p3,p2],[]⟩) ?_ ?_
  ·refine AF (n:=27) AC 1 [p1,p4] [] kr ?_
   refine A6 AC 0 rfl (Cw (AA rfl) rfl (Ed (a:= .sl 5 (x0.map AB.enc)) kr (DC (el:=60) kr))) ?_;exact BH AC
  refine CI ?_;obtain ⟨r10,hr10,h⟩:=OB h;refine F9 (n:=100000) ?_;rcases r10 with w11 | w12
  ·try dsimp only at h
   refine DR (Ck (s1:=⟨Fr 27 [p1,p4,p3,p2],[]⟩) AZ (JN x0 _ 0 _ hr10)) ?_;refine AP AC [(2,.v (.int .i64 0)),(3,.v (.int .i64 0))] [] ?_;refine Ah ?_;have hq:=OI h; subst hq;exact ⟨⟨Fr 27 [(2,.v (.int .i64 0)),(3,.v (.int .i64 0))],[]⟩,AZ,.inr rfl,[.v (.int .i64 0),.v (.int .i64 0)],kr,kr⟩
  ·try dsimp only at h
   refine DR (Ck (s1:=⟨Fr 27 [p1,p4,p3,p2],[]⟩) AZ (JN x0 _ 0 _ hr10)) ?_;have hq:=OI h; subst hq;exact ⟨⟨Fr 27 [(2,.v (.int .i64 w12.1)),(3,.v (.int .i64 w12.2))],[]⟩,AZ,.inr rfl,[.v (.int .i64 w12.1),.v (.int .i64 w12.2)],kr,kr⟩
def QA:List AV->Option AV:=Ee I5 (fun a=>Fd a.1) I8
theorem MD:XOk 80 QA:=by
 refine Ad Tryz.func80 (c:=I3) ?h2 ⟨Tryz.call80⟩ I5 (fun a=>Fd a.1) I8 (fun a=>(by show 1<=27; decide)) ?h3 ?h4
 case h2=>kernel_rfl
 case h3=>intro b; kernel_rfl
 case h4=>exact fun a b h=>Nl a.1 b h
/- trestle/court.orders -/
noncomputable def IM:Code:=Bo Tryz.f75
def C2 (x0:(List AE)):Nat->(List AE)->Int->Option (((List AE)))
 | 0,_,_=>none
 | f + 1,c3,c4 =>
  if (decide (c4 < (x0.length:Int)))=true then
  (idx x0 c4).bind fun v6 =>
  (FA v6).bind fun v7 =>
  if (Dj 8 (c3.length + 1))=true then
  C2 x0 f (c3++[v7]) (wr .i64 (c4 + 1))
  else none
  else
  some c3
def EO (x0:(List AE)):Option ((List AE)×Bool) :=
 (Fd x0).bind fun v1 =>
 if (v1.2 != 0)=true then
 some ([],false)
 else
 (C2 x0 100000 [] 0).bind fun r10 =>
 some (r10,true)
noncomputable def Gk:Cs ((List AE)×Unit):=(csC (cdL 5 AB) csN)
noncomputable def IZ (r:(List AE)×Bool):AV:= .tp [(cdL 1 Bq).enc r.1,cdB.enc r.2]
theorem Lr (x0:(List AE)):∀ (f:Nat) (c3:(List AE)) (c4:Int) (r:((List AE))),C2 x0 f c3 c4=some r->SemN E0 ⟨none,false⟩ (pc IM [1,1,1,0,1,0,0]) f ⟨Fr 29 [(6,hd 0 (c3.map Bq.enc)),(16,.sl 5 (x0.map AB.enc)),(17,.v (.int .i64 (x0.length:Int))),(18,.v (.int .i64 c4))],[mk 1 117 (c3.map Bq.enc)]⟩ (fun e s=>e=(.exit 0)/\Wk E0 s ⟨Fr 29 [(6,hd 0 (r.map Bq.enc))],[mk 1 117 (r.map Bq.enc)]⟩):=by
 intro f;induction f with
 | zero=>intro c3 c4 r h; cases h
 | succ f ih0 =>
  intro c3 c4 r h
  have ih:=fun (c3:(List AE)) (c4:Int)=>ih0 c3 c4 r
  unfold C2 at h;refine FI ?_
  let p1:Option Blk:=mk 1 117 (c3.map Bq.enc)
  let p2:Nat×AV:=(18,.v (.int .i64 c4))
  let p3:Nat×AV:=(17,.v (.int .i64 (x0.length:Int)))
  let p4:Nat×AV:=(16,.sl 5 (x0.map AB.enc))
  refine AP AC [(6,hd 0 (c3.map Bq.enc)),p4,p3,p2,(19,.v (.bool (decide (c4 < (x0.length:Int)))))] [p1] ?_;refine AJ ?_;refine Ab (b:=(decide (c4 < (x0.length:Int)))) kr (fun hb5=>?_) (fun hb5=>?_)
  ·rw [if_pos hb5] at h
   refine As ?_;refine AJ ?_;refine CI ?_;refine AJ ?_;obtain ⟨v6,hv6,h⟩:=OB h
   let p5:Option Blk:=some ⟨5,60,[AB.enc v6],false⟩
   refine AS (s1:=⟨Fr 29 [(6,hd 0 (c3.map Bq.enc)),(8,.pt 1 0 0),p4,p3,p2],[p1,p5]⟩) ?_ ?_
   ·refine A6 AC 0 rfl (Cw (AA rfl) rfl (AQ (a:= .sl 5 (x0.map AB.enc)) (b:= .v (.int .i64 c4)) kr kr (GS (e:=AB.enc) (el:=60) (k:=5) (ki:= .i64) kr kr hv6))) ?_
    exact BH AC
   obtain ⟨v7,hv7,h⟩:=OB h;by_cases hk8:(Dj 8 (c3.length + 1))=true
   case neg=>rw [if_neg hk8] at h; cases h
   rw [if_pos hk8] at h
   let p6:Option Blk:=mk 1 117 ((c3++[v7]).map Bq.enc)
   let p7:Nat×AV:=(6,hd 0 ((c3++[v7]).map Bq.enc))
   refine AS (s1:=⟨Fr 29 [p7,p4,p3,p2],[p6]⟩) ?_ ?_
   ·refine AF (n:=29) AC 2 [p4,p3,p2,(22,hd 0 (c3.map Bq.enc)),(23,AB.enc v6)] [p1,p5] kr ?_
    refine A1 (caps:=[]) (xs:=[AB.enc v6]) (u:=(v6,())) rfl rfl Oi rfl (AA rfl) kr kr (AY (Ay (c:=AB) (v:=v6)) CB) (.inr kr) hv7 ?_;refine AF (n:=29) AC 1 [p4,p3,p2,(22,hd 0 (c3.map Bq.enc)),(25,hd 2 ([v7].map Bq.enc))] [p1,p5,mk 1 117 ([v7].map Bq.enc)] kr ?_;refine A6 AC 0 rfl (Q9 (AA rfl) rfl kr kr (FE (a:=hd 0 (c3.map Bq.enc)) (b:=hd 2 ([v7].map Bq.enc)) kr kr (NP (c:=Bq) (xs:=c3) (vs:=[v7]) (k:=1) (bytes:=8) (el:=117) kr kr (NQ (t:=117) kr) (List.cons_ne_nil _ _) kr hk8))) ?_;refine AF (n:=29) AC 1 [(6,hd 3 ((c3++[v7]).map Bq.enc)),p4,p3,p2] [none,p5,mk 1 117 ([v7].map Bq.enc),p6] kr ?_;exact AR rfl (Az [3] ⟨⟨_,rfl,Dl⟩,trivial⟩ ⟨Dp (b':=3) kr kr,lv,lv,lv,trivial⟩)
   let p8:Nat×AV:=(18,.v (.int .i64 (wr .i64 (c4 + 1))))
   refine Fb AC [p7,p4,p3,p8] [p6] ?_;exact Ck (s1:=⟨Fr 29 [p7,p4,p3,p8],[p6]⟩) (Az [0] ⟨⟨_,rfl,Dl⟩,trivial⟩ ⟨Dp (b':=0) kr kr,lv,lv,lv,trivial⟩) (ih (c3++[v7]) (wr .i64 (c4 + 1)) h)
  ·rw [Cg hb5] at h
   refine F8 ?_;have hq:=OI h; subst hq;exact ⟨rfl,(Az [0] ⟨⟨_,rfl,Dl⟩,trivial⟩ ⟨Dp (b':=0) kr kr,trivial⟩)⟩
theorem M7 (x0:(List AE)) (r:(List AE)×Bool) (h:EO x0=some r):Sem E0 ⟨none,false⟩ IM ⟨Fr 29 (BQ 0 (Gk.enc (x0,()))),[]⟩ fun e s'=>(e = .normal\/e = .ret)/\∃ xs,Es E0.P s'.fr s'.hp Tryz.f75.results.toList=some xs/\FG xs=IZ r:=by
 unfold EO at h
 let p1:Nat×AV:=(0,.sl 5 (x0.map AB.enc))
 refine BV (CK (s1:=⟨Fr 29 [p1],[]⟩) AZ ?_);refine AP AC [p1] [] ?_;refine AJ ?_;refine AJ ?_;obtain ⟨v1,hv1,h⟩:=OB h;refine AS (s1:=⟨Fr 29 [p1,(5,.v (.int .i64 v1.2))],[]⟩) ?_ ?_
 ·refine AF (n:=29) AC 1 [p1,(10,.sl 5 (x0.map AB.enc))] [] kr ?_
  refine A1 (caps:=[]) (xs:=[.sl 5 (x0.map AB.enc)]) (u:=(x0,())) rfl rfl MD rfl (AA rfl) kr kr (AY (Ay (c:=(cdL 5 AB)) (v:=x0)) CB) (.inl kr) hv1 ?_;exact BH AC
 refine AP AC [p1,(15,.v (.bool (v1.2 != 0)))] [] ?_;refine Ab (b:=(v1.2 != 0)) kr (fun hb2=>?_) (fun hb2=>?_)
 ·rw [if_pos hb2] at h
  let p2:Nat×AV:=(3,.v (.bool false))
  refine AP AC [(2,.e0),p2] [] ?_;refine Ah ?_;have hq:=OI h; subst hq;exact ⟨⟨Fr 29 [(2,.sl 1 ([].map Bq.enc)),p2],[]⟩,(Wk.trans (s1:=⟨Fr 29 [(2,.e0),p2],[]⟩) AZ (Wk.trans (s1:=⟨Fr 29 [(2,.e0),p2],[none]⟩) Wk.none (Wk.trans (s1:=⟨Fr 29 [(2,.sl 1 ([].map Bq.enc)),p2],[none]⟩) (LJ 0 (.inr kr) ⟨.inl rfl,trivial⟩ ⟨⟨.e0,kr,Tr⟩,⟨.v (.bool false),kr,.inl rfl⟩,trivial⟩) (Az [] trivial ⟨lv,lv,trivial⟩)))),.inr rfl,[.sl 1 ([].map Bq.enc),.v (.bool false)],kr,kr⟩
 ·rw [Cg hb2] at h
  refine As ?_;refine AP AC [p1,(6,.e0)] [] ?_;refine AJ ?_;refine AJ ?_
  let p3:Nat×AV:=(18,.v (.int .i64 0))
  let p4:Nat×AV:=(17,.v (.int .i64 (x0.length:Int)))
  let p5:Nat×AV:=(16,.sl 5 (x0.map AB.enc))
  refine AS (s1:=⟨Fr 29 [(6,.e0),p5,p4,p3],[]⟩) ?_ ?_
  ·refine AF (n:=29) AC 1 [(6,.e0),p5] [] kr ?_
   refine A6 AC 0 rfl (Cw (AA rfl) rfl (Ed (a:= .sl 5 (x0.map AB.enc)) kr (DC (el:=60) kr))) ?_;exact BH AC
  refine CI ?_;obtain ⟨r10,hr10,h⟩:=OB h;refine F9 (n:=100000) ?_;refine DR (Ck (s1:=⟨Fr 29 [(6,hd 0 ([].map Bq.enc)),p5,p4,p3],[mk 1 117 ([].map Bq.enc)]⟩) (Wk.trans (s1:=⟨Fr 29 [(6,hd 0 ([].map Bq.enc)),p5,p4,p3],[mk 1 117 ([].map Bq.enc)]⟩) Wk.none (Az [0] ⟨⟨_,rfl,RD⟩,trivial⟩ ⟨lv,lv,lv,lv,trivial⟩)) (Lr x0 _ [] 0 _ hr10)) ?_
  let p6:Nat×AV:=(3,.v (.bool true))
  refine AP AC [(2,hd 0 (r10.map Bq.enc)),p6] [mk 1 117 (r10.map Bq.enc)] ?_;refine Ah ?_;have hq:=OI h; subst hq;exact ⟨⟨Fr 29 [(2,.sl 1 (r10.map Bq.enc)),p6],[]⟩,(Wk.trans (s1:=⟨Fr 29 [(2,.sl 1 (r10.map Bq.enc)),p6],[none]⟩) (LJ 0 (.inl kr) ⟨.inl rfl,trivial⟩ ⟨⟨hd 0 (r10.map Bq.enc),kr,RT (t:=117) kr Lx⟩,⟨.v (.bool true),kr,.inl rfl⟩,trivial⟩) (Az [] trivial ⟨lv,lv,trivial⟩)),.inr rfl,[.sl 1 (r10.map Bq.enc),.v (.bool true)],kr,kr⟩
noncomputable def O5:List AV->Option AV:=Ee Gk (fun a=>EO a.1) IZ
theorem LH:XOk 75 O5:=by
 refine Ad Tryz.func75 (c:=IM) ?h2 ⟨Tryz.call75⟩ Gk (fun a=>EO a.1) IZ (fun a=>(by show 1<=29; decide)) ?h3 ?h4
 case h2=>kernel_rfl
 case h3=>intro b; kernel_rfl
 case h4=>exact fun a b h=>M7 a.1 b h
noncomputable def DB:Code:=Bo Tryz.f135
def Al (xs:List AL):Option Blk:=some ⟨10,115,xs.map AD.enc,false⟩
set_option maxRecDepth 100000 in
theorem El (xs:List AL) (hc:Dj 120 xs.length=true):Sem E0 ⟨none,false⟩ DB ⟨Fr 8 [(0,.sl 10 (xs.map AD.enc))],[]⟩ fun e s'=>(e = .normal\/e = .ret)/\((xs=[]/\s'=⟨Fr 8 [(2,.e0)],[]⟩)\/s'=⟨Fr 8 [(2,.rf 0 0 xs.length xs.length)],[Al xs]⟩):=by
 refine AJ ?_
 refine AS (s1:=⟨Fr 8 [(0,.sl 10 (xs.map AD.enc)),(2,.e0)],[]⟩) ?_ ?_
 ·refine JX AC 1 (s1:=⟨Fr 8 [(0,.sl 10 (xs.map AD.enc)),(2,.e0)],[]⟩) (by kernel_rfl) ?_
  exact AR rfl AZ
 refine AJ ?_
 refine AJ (Rz ?_)
 refine JX AC 1 (s1:=⟨Fr 8 [(0,.sl 10 (xs.map AD.enc)),(2,.e0),(3,.sl 10 (xs.map AD.enc))],[]⟩) (by kernel_rfl) ?_
 refine So (k:=10) (el:=115) (es:=xs.map AD.enc) rfl (AA rfl) (by kernel_rfl) (by kernel_rfl) fun b hb=>AR rfl ?_
 have hb:b=true->xs=[]:=fun h=>List.map_eq_nil_iff.1 (hb h)
 refine Ab (b:=b) (by kernel_rfl) (fun hb1=>?_) (fun hb1=>?_)
 ·have hx:=hb hb1
  refine BV ?_
  refine AJ (AS (s1:=⟨Fr 8 [(2,.e0)],[]⟩) ?_ (Ah ?_))
  ·refine JX AC 1 (s1:=⟨Fr 8 [(0,.sl 10 (xs.map AD.enc)),(2,.e0),(3,.sl 10 (xs.map AD.enc)),(4,.v (.bool b))],[]⟩) (by kernel_rfl) ?_
   exact AR rfl AZ
  ·exact ⟨_,Wk.refl,.inr rfl,.inl ⟨hx,rfl⟩⟩
 ·refine As ?_
  refine BV (AJ (Rz ?_))
  refine JX AC 2 (s1:=⟨Fr 8 [(0,.sl 10 (xs.map AD.enc)),(2,.e0),(3,.sl 10 (xs.map AD.enc)),(4,.v (.bool b)),(5,.rf 0 0 0 0),(6,.sl 10 (xs.map AD.enc))],[Al []]⟩) (by kernel_rfl) ?_
  cases xs with
  | nil =>
   refine A6 AC 0 rfl (Q9 (x:= .rf 0 0 0 0) (hp':=[Al []]) (AA rfl) rfl (by kernel_rfl) (by kernel_rfl) (by kernel_rfl)) ?_
   refine JX AC 1 (s1:=⟨Fr 8 [(0,.sl 10 []),(2,.rf 0 0 0 0),(3,.sl 10 []),(4,.v (.bool b)),(5,.rf 0 0 0 0),(6,.sl 10 []),(7,.rf 0 0 0 0)],[Al []]⟩) (by kernel_rfl) (AR rfl (Ah ?_))
   exact ⟨⟨Fr 8 [(2,.rf 0 0 0 0)],[Al []]⟩,AZ,.inr rfl,.inr rfl⟩
  | cons y ys =>
   refine A6 AC 0 rfl (Q9 (AA rfl) rfl (by kernel_rfl) (by kernel_rfl) (FE (a:= .rf 0 0 0 0) (b:= .sl 10 ((y::ys).map AD.enc)) (by kernel_rfl) (by kernel_rfl) (Ur (c:=AD) (xs:=[]) (vs:=y::ys) (k:=10) (bytes:=120) (el:=115) (by kernel_rfl) (by kernel_rfl) SE (List.cons_ne_nil _ _) (by kernel_rfl) (by rw [List.length_nil,Nat.zero_add]; exact hc)))) ?_
   refine JX AC 1 (s1:=⟨Fr 8 [(0,.sl 10 ((y::ys).map AD.enc)),(2,.rf 1 0 (y::ys).length (y::ys).length),(3,.sl 10 ((y::ys).map AD.enc)),(4,.v (.bool b)),(5,.rf 0 0 0 0),(6,.sl 10 ((y::ys).map AD.enc)),(7,.rf 1 0 (y::ys).length (y::ys).length)],[none,Al (y::ys)]⟩) (by kernel_rfl) (AR rfl (Ah ?_))
   exact ⟨⟨Fr 8 [(2,.rf 0 0 (y::ys).length (y::ys).length)],[Al (y::ys)]⟩,Az [1] ⟨⟨_,rfl,X5⟩,trivial⟩ ⟨lv,trivial⟩,.inr rfl,.inr rfl⟩
def FH (xs:List AL) (x:AV) (h':Hp):Prop:=(xs=[]/\x = .e0/\h'=[])\/(x = .rf 0 0 xs.length xs.length/\h'=[Al xs])
theorem Fa (xs:List AL) (hc:Dj 120 xs.length=true):SOk 135 [.sl 10 (xs.map AD.enc)] (FH xs):=by
 refine TB AC rfl rfl (fn:=Tryz.f135) (c:=DB) (by kernel_rfl) (by kernel_rfl) ⟨Tryz.call135⟩ (by show 1<=8; decide) (Sem.mono (El xs hc) ?_)
 rintro e s' ⟨he,⟨hx,rfl⟩ | rfl⟩
 ·exact ⟨he,[.e0],by kernel_rfl,.inl ⟨hx,rfl,rfl⟩⟩
 ·exact ⟨he,[.rf 0 0 xs.length xs.length],by kernel_rfl,.inr ⟨rfl,rfl⟩⟩
def J7:Cs (List AL×Unit):=csC (cdL 10 AD) csN
/- trestle/court.orderOf$1 -/
noncomputable def In:Code:=Bo Tryz.f165
def Bw {β:Type}(G:AL->AL->β->Option Int) (x0:AL) (x1:AL) (x2:AE) (x3:β):Option (Int) :=
 (if (!(x2.2.1==[]))=true then if (!(x0.1.2.1==x2.2.1))=true then some true else some (!(x1.1.2.1==x2.2.1)) else some false).bind fun j2 =>
 if j2=true then
 some 0
 else
 (G x0 x1 x3).bind fun v4 =>
 some v4
def Gj {β:Type}(fid:FuncId) (sx:Cs β) (hn:∀ x,(sx.enc x).all GT=true):Cs (AL×AL×AE×β×Unit):=(csC AD (csC AD (csC (cdP AB) (csC (cdP (cdF fid sx hn)) csN))))
def Gp (r:Int):AV:=cdI.enc r
theorem LM {β:Type}{fid:FuncId}{sx:Cs β}{hn:∀ x,(sx.enc x).all GT=true}{G:AL->AL->β->Option Int}(hX:XOk fid (Ee (csC AD (csC AD sx)) (fun a=>G a.1 a.2.1 a.2.2) cdI.enc)) (x0:AL) (x1:AL) (x2:AE) (x3:β) (r:Int) (h:Bw G x0 x1 x2 x3=some r):Sem E0 ⟨none,false⟩ In ⟨Fr 30 (BQ 0 ((Gj fid sx hn).enc (x0,x1,x2,x3,()))),[]⟩ fun e s'=>(e = .normal\/e = .ret)/\∃ xs,Es E0.P s'.fr s'.hp Tryz.f165.results.toList=some xs/\FG xs=Gp r:=by
 unfold Bw at h
 refine BV (CK (s1:=⟨Fr 30 [(0,AD.enc x0),(1,AD.enc x1),(2,.pe (AB.enc x2) 0),(3,.pe (.fn fid [] (sx.enc x3)) 0)],[]⟩) AZ ?_)
 refine AP AC [(2,.pe (AB.enc x2) 0),(3,.pe (.fn fid [] (sx.enc x3)) 0),(4,.pt 0 0 0),(5,.pt 1 0 0)] [some ⟨10,115,[AD.enc x0],false⟩,some ⟨10,115,[AD.enc x1],false⟩] ?_
 refine AJ ?_
 refine AJ ?_
 obtain ⟨j2,hj2,h⟩:=OB h
 refine AS (s1:=⟨Fr 30 [(3,.pe (.fn fid [] (sx.enc x3)) 0),(4,.pt 0 0 0),(5,.pt 1 0 0),(25,.v (.bool j2))],[some ⟨10,115,[AD.enc x0],false⟩,some ⟨10,115,[AD.enc x1],false⟩]⟩) ?_ ?_
 ·refine AF (n:=30) AC 4 [(2,.pe (AB.enc x2) 0),(3,.pe (.fn fid [] (sx.enc x3)) 0),(4,.pt 0 0 0),(5,.pt 1 0 0),(10,.v (.bool (!(x2.2.1==[]))))] [some ⟨10,115,[AD.enc x0],false⟩,some ⟨10,115,[AD.enc x1],false⟩] kr ?_
  rcases BE (!(x2.2.1==[])) with hc5 | hc5
  ·rw [if_pos hc5] at hj2
   rw [hc5]
   refine AF (n:=30) AC 7 [(2,.pe (AB.enc x2) 0),(3,.pe (.fn fid [] (sx.enc x3)) 0),(4,.pt 0 0 0),(5,.pt 1 0 0),(10,.v (.bool true)),(17,.v (.bool (!(x0.1.2.1==x2.2.1))))] [some ⟨10,115,[AD.enc x0],false⟩,some ⟨10,115,[AD.enc x1],false⟩] kr ?_
   rcases BE (!(x0.1.2.1==x2.2.1)) with hc6 | hc6
   ·rw [if_pos hc6] at hj2
    rw [hc6]
    refine AF (n:=30) AC 8 [(3,.pe (.fn fid [] (sx.enc x3)) 0),(4,.pt 0 0 0),(5,.pt 1 0 0),(25,.v (.bool true))] [some ⟨10,115,[AD.enc x0],false⟩,some ⟨10,115,[AD.enc x1],false⟩] kr ?_
    have hq:=OI hj2; subst hq
    exact AR rfl (Az [0,1] ⟨⟨_,rfl,C8⟩,⟨_,rfl,C8⟩,trivial⟩ ⟨lv,lv,lv,lv,trivial⟩)
   ·rw [Cg hc6] at hj2
    rw [hc6]
    refine AF (n:=30) AC 8 [(3,.pe (.fn fid [] (sx.enc x3)) 0),(4,.pt 0 0 0),(5,.pt 1 0 0),(25,.v (.bool (!(x1.1.2.1==x2.2.1))))] [some ⟨10,115,[AD.enc x0],false⟩,some ⟨10,115,[AD.enc x1],false⟩] kr ?_
    have hq:=OI hj2; subst hq
    exact AR rfl (Az [0,1] ⟨⟨_,rfl,C8⟩,⟨_,rfl,C8⟩,trivial⟩ ⟨lv,lv,lv,lv,trivial⟩)
  ·rw [Cg hc5] at hj2
   rw [hc5]
   refine AF (n:=30) AC 15 [(3,.pe (.fn fid [] (sx.enc x3)) 0),(4,.pt 0 0 0),(5,.pt 1 0 0),(25,.v (.bool false))] [some ⟨10,115,[AD.enc x0],false⟩,some ⟨10,115,[AD.enc x1],false⟩] kr ?_
   have hq:=OI hj2; subst hq
   exact AR rfl (Az [0,1] ⟨⟨_,rfl,C8⟩,⟨_,rfl,C8⟩,trivial⟩ ⟨lv,lv,lv,lv,trivial⟩)
 refine Ab (b:=j2) kr (fun hb3=>?_) (fun hb3=>?_)
 ·rw [if_pos hb3] at h
  refine AJ ?_
  refine AS (s1:=⟨Fr 30 [(6,.v (.int .i64 0))],[]⟩) ?_ ?_
  ·refine AF (n:=30) AC 1 [(6,.v (.int .i64 0))] [some ⟨10,115,[AD.enc x0],false⟩,some ⟨10,115,[AD.enc x1],false⟩] kr ?_
   exact AR rfl (Az [] trivial ⟨lv,trivial⟩)
  refine Ah ?_
  have hq:=OI h; subst hq
  exact ⟨⟨Fr 30 [(6,.v (.int .i64 0))],[]⟩,AZ,.inr rfl,[.v (.int .i64 0)],kr,kr⟩
 ·rw [Cg hb3] at h
  refine As ?_
  refine AJ ?_
  obtain ⟨v4,hv4,h⟩:=OB h
  refine AS (s1:=⟨Fr 30 [(6,.v (.int .i64 v4))],[]⟩) ?_ ?_
  ·refine AF (n:=30) AC 3 [(26,.fn fid [] (sx.enc x3)),(27,AD.enc x0),(28,AD.enc x1)] [some ⟨10,115,[AD.enc x0],false⟩,some ⟨10,115,[AD.enc x1],false⟩] kr ?_
   refine A1 (caps:=sx.enc x3) (xs:=[AD.enc x0,AD.enc x1]) (u:=(x0,x1,x3)) rfl rfl hX rfl (AA rfl) kr kr (AY (Ay (c:=AD) (v:=x0)) (AY (Ay (c:=AD) (v:=x1)) (Pb (n:=10) (s:=sx) (a:=x3)))) (.inl kr) hv4 ?_
   refine AF (n:=30) AC 1 [(6,.v (.int .i64 v4))] [some ⟨10,115,[AD.enc x0],false⟩,some ⟨10,115,[AD.enc x1],false⟩] kr ?_
   exact AR rfl (Az [] trivial ⟨lv,trivial⟩)
  refine Ah ?_
  have hq:=OI h; subst hq
  exact ⟨⟨Fr 30 [(6,.v (.int .i64 v4))],[]⟩,AZ,.inr rfl,[.v (.int .i64 v4)],kr,kr⟩
def Mr {β:Type}(fid:FuncId) (sx:Cs β) (hn:∀ x,(sx.enc x).all GT=true) (G:AL->AL->β->Option Int):List AV->Option AV:=Ee (Gj fid sx hn) (fun a=>Bw G a.1 a.2.1 a.2.2.1 a.2.2.2.1) Gp
theorem CL {β:Type}{fid:FuncId}{sx:Cs β}{hn:∀ x,(sx.enc x).all GT=true}{G:AL->AL->β->Option Int}(hX:XOk fid (Ee (csC AD (csC AD sx)) (fun a=>G a.1 a.2.1 a.2.2) cdI.enc)):XOk 165 (Mr fid sx hn G):=by
 refine Ad Tryz.func165 (c:=In) ?h2 ⟨Tryz.call165⟩ (Gj fid sx hn) (fun a=>Bw G a.1 a.2.1 a.2.2.1 a.2.2.2.1) Gp (fun a=>(by show 4<=30; decide)) ?h3 ?h4
 case h2=>kernel_rfl
 case h3=>intro b; kernel_rfl
 case h4=>exact fun a b h=>LM hX a.1 a.2.1 a.2.2.1 a.2.2.2.1 b h
/- cmp.isNaN[int] -/
noncomputable def Jp:Code:=Bo Tryz.f137
def Ew (x0:Int):Option (Bool) :=
 some (x0 != x0)
def He:Cs (Int×Unit):=(csC cdI csN)
def Hs (r:Bool):AV:=cdB.enc r
theorem MI (x0:Int) (r:Bool) (h:Ew x0=some r):Sem E0 ⟨none,false⟩ Jp ⟨Fr 6 (BQ 0 (He.enc (x0,()))),[]⟩ fun e s'=>(e = .normal\/e = .ret)/\∃ xs,Es E0.P s'.fr s'.hp Tryz.f137.results.toList=some xs/\FG xs=Hs r:=by
 unfold Ew at h;refine BV (CK (s1:=⟨Fr 6 [(0,.v (.int .i64 x0))],[]⟩) AZ ?_);refine AP AC [(0,.v (.int .i64 x0))] [] ?_;refine AP AC [(2,.v (.bool (x0 != x0)))] [] ?_;refine Ah ?_;have hq:=OI h; subst hq;exact ⟨⟨Fr 6 [(2,.v (.bool (x0 != x0)))],[]⟩,AZ,.inr rfl,[.v (.bool (x0 != x0))],kr,kr⟩
def OL:List AV->Option AV:=Ee He (fun a=>Ew a.1) Hs
theorem Kl:XOk 137 OL:=by
 refine Ad Tryz.func137 (c:=Jp) ?h2 ⟨Tryz.call137⟩ He (fun a=>Ew a.1) Hs (fun a=>(by show 1<=6; decide)) ?h3 ?h4
 case h2=>kernel_rfl
 case h3=>intro b; kernel_rfl
 case h4=>exact fun a b h=>MI a.1 b h
/- cmp.Compare[int] -/
noncomputable def Im:Code:=Bo Tryz.f113
def CD (x0:Int) (x1:Int):Option (Int) :=
 (Ew x0).bind fun v1 =>
 (Ew x1).bind fun v2 =>
 if v1=true then
 if v2=true then
 some 0
 else
 some (-1)
 else
 if v2=true then
 some 1
 else
 if (decide (x0 < x1))=true then
 some (-1)
 else
 if (decide (x0 > x1))=true then
 some 1
 else
 some 0
def Gg:Cs (Int×Int×Unit):=(csC cdI (csC cdI csN))
def Gn (r:Int):AV:=cdI.enc r
theorem LK (x0:Int) (x1:Int) (r:Int) (h:CD x0 x1=some r):Sem E0 ⟨none,false⟩ Im ⟨Fr 20 (BQ 0 (Gg.enc (x0,x1,()))),[]⟩ fun e s'=>(e = .normal\/e = .ret)/\∃ xs,Es E0.P s'.fr s'.hp Tryz.f113.results.toList=some xs/\FG xs=Gn r:=by
 unfold CD at h
 let p1:Nat×AV:=(1,.v (.int .i64 x1))
 let p2:Nat×AV:=(0,.v (.int .i64 x0))
 refine BV (CK (s1:=⟨Fr 20 [p2,p1],[]⟩) AZ ?_);refine AP AC [p2,p1] [] ?_;refine AJ ?_;obtain ⟨v1,hv1,h⟩:=OB h
 let p3:Nat×AV:=(5,.v (.bool v1))
 refine AS (s1:=⟨Fr 20 [p2,p1,p3],[]⟩) ?_ ?_
 ·refine AF (n:=20) AC 1 [p2,p1,(7,.v (.int .i64 x0))] [] kr ?_
  refine A1 (caps:=[]) (xs:=[.v (.int .i64 x0)]) (u:=(x0,())) rfl rfl Kl rfl (AA rfl) kr kr (AY (Ay (c:=cdI) (v:=x0)) CB) (.inl kr) hv1 ?_;exact BH AC
 refine AJ ?_;obtain ⟨v2,hv2,h⟩:=OB h;refine AS (s1:=⟨Fr 20 [p2,p1,p3,(6,.v (.bool v2))],[]⟩) ?_ ?_
 ·refine AF (n:=20) AC 1 [p2,p1,p3,(9,.v (.int .i64 x1))] [] kr ?_
  refine A1 (caps:=[]) (xs:=[.v (.int .i64 x1)]) (u:=(x1,())) rfl rfl Kl rfl (AA rfl) kr kr (AY (Ay (c:=cdI) (v:=x1)) CB) (.inl kr) hv2 ?_;exact BH AC
 refine AJ ?_;refine AP AC [p2,p1,(6,.v (.bool v2)),(11,.v (.bool v1))] [] ?_;refine Ab (b:=v1) kr (fun hb3=>?_) (fun hb3=>?_)
 ·rw [if_pos hb3] at h
  refine AJ ?_;refine AP AC [(12,.v (.bool v2))] [] ?_;refine Ab (b:=v2) kr (fun hb4=>?_) (fun hb4=>?_)
  ·rw [if_pos hb4] at h
   refine AP AC [(4,.v (.int .i64 0))] [] ?_;refine Ah ?_;have hq:=OI h; subst hq;exact ⟨⟨Fr 20 [(4,.v (.int .i64 0))],[]⟩,AZ,.inr rfl,[.v (.int .i64 0)],kr,kr⟩
  ·rw [Cg hb4] at h
   refine As ?_;refine AP AC [(4,.v (.int .i64 (-1)))] [] ?_;refine Ah ?_;have hq:=OI h; subst hq;exact ⟨⟨Fr 20 [(4,.v (.int .i64 (-1)))],[]⟩,AZ,.inr rfl,[.v (.int .i64 (-1))],kr,kr⟩
 ·rw [Cg hb3] at h
  refine As ?_;refine AJ ?_;refine AP AC [p2,p1,(13,.v (.bool v2))] [] ?_;refine Ab (b:=v2) kr (fun hb5=>?_) (fun hb5=>?_)
  ·rw [if_pos hb5] at h
   refine AP AC [(4,.v (.int .i64 1))] [] ?_;refine Ah ?_;have hq:=OI h; subst hq;exact ⟨⟨Fr 20 [(4,.v (.int .i64 1))],[]⟩,AZ,.inr rfl,[.v (.int .i64 1)],kr,kr⟩
  ·rw [Cg hb5] at h
   refine As ?_;refine AJ ?_;refine AP AC [p2,p1,(16,.v (.bool (decide (x0 < x1))))] [] ?_;refine Ab (b:=(decide (x0 < x1))) kr (fun hb6=>?_) (fun hb6=>?_)
   ·rw [if_pos hb6] at h
    refine AP AC [(4,.v (.int .i64 (-1)))] [] ?_;refine Ah ?_;have hq:=OI h; subst hq;exact ⟨⟨Fr 20 [(4,.v (.int .i64 (-1)))],[]⟩,AZ,.inr rfl,[.v (.int .i64 (-1))],kr,kr⟩
   ·rw [Cg hb6] at h
    refine As ?_;refine AJ ?_;refine AP AC [(19,.v (.bool (decide (x0 > x1))))] [] ?_;refine Ab (b:=(decide (x0 > x1))) kr (fun hb7=>?_) (fun hb7=>?_)
    ·rw [if_pos hb7] at h
     refine AP AC [(4,.v (.int .i64 1))] [] ?_;refine Ah ?_;have hq:=OI h; subst hq;exact ⟨⟨Fr 20 [(4,.v (.int .i64 1))],[]⟩,AZ,.inr rfl,[.v (.int .i64 1)],kr,kr⟩
    ·rw [Cg hb7] at h
     refine As ?_;refine AP AC [(4,.v (.int .i64 0))] [] ?_;refine Ah ?_;have hq:=OI h; subst hq;exact ⟨⟨Fr 20 [(4,.v (.int .i64 0))],[]⟩,AZ,.inr rfl,[.v (.int .i64 0)],kr,kr⟩
def Mo:List AV->Option AV:=Ee Gg (fun a=>CD a.1 a.2.1) Gn
theorem Eq:XOk 113 Mo:=by
 refine Ad Tryz.func113 (c:=Im) ?h2 ⟨Tryz.call113⟩ Gg (fun a=>CD a.1 a.2.1) Gn (fun a=>(by show 2<=20; decide)) ?h3 ?h4
 case h2=>kernel_rfl
 case h3=>intro b; kernel_rfl
 case h4=>exact fun a b h=>LK a.1 a.2.1 b h
/- trestle/court.by$1 -/
noncomputable def Lg:Code:=Bo Tryz.f205
def CJ {β:Type}(G:AL->β->Option Int) (x0:AL) (x1:AL) (x2:β):Option (Int) :=
 (G x0 x2).bind fun v1 =>
 (G x1 x2).bind fun v2 =>
 (CD v1 v2).bind fun v3 =>
 some v3
def Jb {β:Type}(fid:FuncId) (sx:Cs β) (hn:∀ x,(sx.enc x).all GT=true):Cs (AL×AL×β×Unit):=(csC AD (csC AD (csC (cdP (cdF fid sx hn)) csN)))
def Je (r:Int):AV:=cdI.enc r
theorem Ow {β:Type}{fid:FuncId}{sx:Cs β}{hn:∀ x,(sx.enc x).all GT=true}{G:AL->β->Option Int}(hX:XOk fid (Ee (csC AD sx) (fun a=>G a.1 a.2) cdI.enc)) (x0:AL) (x1:AL) (x2:β) (r:Int) (h:CJ G x0 x1 x2=some r):Sem E0 ⟨none,false⟩ Lg ⟨Fr 13 (BQ 0 ((Jb fid sx hn).enc (x0,x1,x2,()))),[]⟩ fun e s'=>(e = .normal\/e = .ret)/\∃ xs,Es E0.P s'.fr s'.hp Tryz.f205.results.toList=some xs/\FG xs=Je r:=by
 unfold CJ at h
 refine BV (CK (s1:=⟨Fr 13 [(0,AD.enc x0),(1,AD.enc x1),(2,.pe (.fn fid [] (sx.enc x2)) 0)],[]⟩) AZ ?_)
 refine AP AC [(2,.pe (.fn fid [] (sx.enc x2)) 0),(3,.pt 0 0 0),(4,.pt 1 0 0)] [some ⟨10,115,[AD.enc x0],false⟩,some ⟨10,115,[AD.enc x1],false⟩] ?_
 refine AJ ?_
 obtain ⟨v1,hv1,h⟩:=OB h
 obtain ⟨v2,hv2,h⟩:=OB h
 obtain ⟨v3,hv3,h⟩:=OB h
 refine F6 AC (s1:=⟨Fr 13 [(5,.v (.int .i64 v3))],[]⟩) kr ?_ ?_
 ·refine Bp (n:=13) AC 2 [(2,.pe (.fn fid [] (sx.enc x2)) 0),(4,.pt 1 0 0),(6,.fn fid [] (sx.enc x2)),(7,AD.enc x0)] [some ⟨10,115,[AD.enc x0],false⟩,some ⟨10,115,[AD.enc x1],false⟩] kr kr ?_
  refine CT (caps:=sx.enc x2) (xs:=[AD.enc x0]) (u:=(x0,x2)) rfl rfl hX rfl (AA rfl) kr kr (AY (Ay (c:=AD) (v:=x0)) (Pb (n:=10) (s:=sx) (a:=x2))) kr hv1 ?_
  refine Bp (n:=13) AC 2 [(8,.v (.int .i64 v1)),(9,.fn fid [] (sx.enc x2)),(10,AD.enc x1)] [some ⟨10,115,[AD.enc x0],false⟩,some ⟨10,115,[AD.enc x1],false⟩] kr kr ?_
  refine CT (caps:=sx.enc x2) (xs:=[AD.enc x1]) (u:=(x1,x2)) rfl rfl hX rfl (AA rfl) kr kr (AY (Ay (c:=AD) (v:=x1)) (Pb (n:=10) (s:=sx) (a:=x2))) kr hv2 ?_
  refine CT (caps:=[]) (xs:=[.v (.int .i64 v1),.v (.int .i64 v2)]) (u:=(v1,v2,())) rfl rfl Eq rfl (AA rfl) kr kr (AY (Ay (c:=cdI) (v:=v1)) (AY (Ay (c:=cdI) (v:=v2)) CB)) kr hv3 ?_
  refine Bp (n:=13) AC 1 [(5,.v (.int .i64 v3))] [some ⟨10,115,[AD.enc x0],false⟩,some ⟨10,115,[AD.enc x1],false⟩] kr kr ?_
  exact RunDS.done rfl (Az [] trivial ⟨lv,trivial⟩)
 refine Ah ?_
 have hq:=OI h; subst hq
 exact ⟨⟨Fr 13 [(5,.v (.int .i64 v3))],[]⟩,AZ,.inr rfl,[.v (.int .i64 v3)],kr,kr⟩
def Qy {β:Type}(fid:FuncId) (sx:Cs β) (hn:∀ x,(sx.enc x).all GT=true) (G:AL->β->Option Int):List AV->Option AV:=Ee (Jb fid sx hn) (fun a=>CJ G a.1 a.2.1 a.2.2.1) Je
theorem HY {β:Type}{fid:FuncId}{sx:Cs β}{hn:∀ x,(sx.enc x).all GT=true}{G:AL->β->Option Int}(hX:XOk fid (Ee (csC AD sx) (fun a=>G a.1 a.2) cdI.enc)):XOk 205 (Qy fid sx hn G):=by
 refine Ad Tryz.func205 (c:=Lg) ?h2 ⟨Tryz.call205⟩ (Jb fid sx hn) (fun a=>CJ G a.1 a.2.1 a.2.2.1) Je (fun a=>(by show 3<=13; decide)) ?h3 ?h4
 case h2=>kernel_rfl
 case h3=>intro b; kernel_rfl
 case h4=>exact fun a b h=>Ow hX a.1 a.2.1 a.2.2.1 b h
/- trestle/court.plain$1 -/
noncomputable def Jt:Code:=Bo Tryz.f178
def DS (x0:AL) (x1:AE):Option (Int) :=
 (A4 x1.2.2.2.1 x0.1.2.1).bind fun v1 =>
 if (decide (v1≥0))=true then
 some v1
 else
 some (x1.2.2.2.1.length:Int)
def Hi:Cs (AL×AE×Unit):=(csC AD (csC (cdP AB) csN))
def Hx (r:Int):AV:=cdI.enc r
theorem MN (x0:AL) (x1:AE) (r:Int) (h:DS x0 x1=some r):Sem E0 ⟨none,false⟩ Jt ⟨Fr 17 (BQ 0 (Hi.enc (x0,x1,()))),[]⟩ fun e s'=>(e = .normal\/e = .ret)/\∃ xs,Es E0.P s'.fr s'.hp Tryz.f178.results.toList=some xs/\FG xs=Hx r:=by
 unfold DS at h
 let p1:Nat×AV:=(1,.pe (AB.enc x1) 0)
 refine BV (CK (s1:=⟨Fr 17 [(0,AD.enc x0),p1],[]⟩) AZ ?_)
 let p2:Option Blk:=some ⟨10,115,[AD.enc x0],false⟩
 refine AP AC [p1,(2,.pt 0 0 0)] [p2] ?_;refine AJ ?_;refine AJ ?_;obtain ⟨v1,hv1,h⟩:=OB h
 let p3:Nat×AV:=(4,.v (.int .i64 v1))
 refine AS (s1:=⟨Fr 17 [p1,p3],[]⟩) ?_ ?_
 ·refine AF (n:=17) AC 5 [p1,(6,.sl 1 (x1.2.2.2.1.map cdS.enc)),(9,.st x0.1.2.1)] [p2] kr ?_
  refine A1 (caps:=[]) (xs:=[.sl 1 (x1.2.2.2.1.map cdS.enc),.st x0.1.2.1]) (u:=(x1.2.2.2.1,x0.1.2.1,())) rfl rfl Dr rfl (AA rfl) kr kr (AY (Ay (c:=(cdL 1 cdS)) (v:=x1.2.2.2.1)) (AY (Ay (c:=cdS) (v:=x0.1.2.1)) CB)) (.inl kr) hv1 ?_;refine AF (n:=17) AC 1 [p1,p3] [p2] kr ?_;exact AR rfl (Az [] trivial ⟨lv,lv,trivial⟩)
 refine AP AC [p1,p3,(12,.v (.bool (decide (v1≥0))))] [] ?_;refine Ab (b:=(decide (v1≥0))) kr (fun hb2=>?_) (fun hb2=>?_)
 ·rw [if_pos hb2] at h
  refine AP AC [(3,.v (.int .i64 v1))] [] ?_;refine Ah ?_;have hq:=OI h; subst hq;exact ⟨⟨Fr 17 [(3,.v (.int .i64 v1))],[]⟩,AZ,.inr rfl,[.v (.int .i64 v1)],kr,kr⟩
 ·rw [Cg hb2] at h
  refine As ?_;refine AJ ?_
  let p4:Nat×AV:=(3,.v (.int .i64 (x1.2.2.2.1.length:Int)))
  refine AS (s1:=⟨Fr 17 [p4],[]⟩) ?_ ?_
  ·refine AF (n:=17) AC 2 [(15,.sl 1 (x1.2.2.2.1.map cdS.enc))] [] kr ?_
   refine A6 AC 0 rfl (Cw (AA rfl) rfl (Ed (a:= .sl 1 (x1.2.2.2.1.map cdS.enc)) kr (DC (el:=9) kr))) ?_;exact BH AC
  refine Ah ?_;have hq:=OI h; subst hq;exact ⟨⟨Fr 17 [p4],[]⟩,AZ,.inr rfl,[.v (.int .i64 (x1.2.2.2.1.length:Int))],kr,kr⟩
def OQ:List AV->Option AV:=Ee Hi (fun a=>DS a.1 a.2.1) Hx
theorem Oj:XOk 178 OQ:=by
 refine Ad Tryz.func178 (c:=Jt) ?h2 ⟨Tryz.call178⟩ Hi (fun a=>DS a.1 a.2.1) Hx (fun a=>(by show 2<=17; decide)) ?h3 ?h4
 case h2=>kernel_rfl
 case h3=>intro b; kernel_rfl
 case h4=>exact fun a b h=>MN a.1 a.2.1 b h
/- trestle/court.b2i -/
noncomputable def My:Code:=Bo Tryz.f180
def IS (x0:Bool):Option (Int) :=
 if x0=true then
 some 1
 else
 some 0
def KR:Cs (Bool×Unit):=(csC cdB csN)
def KS (r:Int):AV:=cdI.enc r
theorem Pk (x0:Bool) (r:Int) (h:IS x0=some r):Sem E0 ⟨none,false⟩ My ⟨Fr 4 (BQ 0 (KR.enc (x0,()))),[]⟩ fun e s'=>(e = .normal\/e = .ret)/\∃ xs,Es E0.P s'.fr s'.hp Tryz.f180.results.toList=some xs/\FG xs=KS r:=by
 unfold IS at h;refine BV (CK (s1:=⟨Fr 4 [(0,.v (.bool x0))],[]⟩) AZ ?_);refine AP AC [(0,.v (.bool x0))] [] ?_;refine AJ ?_;refine AP AC [(3,.v (.bool x0))] [] ?_;refine Ab (b:=x0) kr (fun hb1=>?_) (fun hb1=>?_)
 ·rw [if_pos hb1] at h
  refine AP AC [(2,.v (.int .i64 1))] [] ?_;refine Ah ?_;have hq:=OI h; subst hq;exact ⟨⟨Fr 4 [(2,.v (.int .i64 1))],[]⟩,AZ,.inr rfl,[.v (.int .i64 1)],kr,kr⟩
 ·rw [Cg hb1] at h
  refine As ?_;refine AP AC [(2,.v (.int .i64 0))] [] ?_;refine Ah ?_;have hq:=OI h; subst hq;exact ⟨⟨Fr 4 [(2,.v (.int .i64 0))],[]⟩,AZ,.inr rfl,[.v (.int .i64 0)],kr,kr⟩
def Rp:List AV->Option AV:=Ee KR (fun a=>IS a.1) KS
theorem Of:XOk 180 Rp:=by
 refine Ad Tryz.func180 (c:=My) ?h2 ⟨Tryz.call180⟩ KR (fun a=>IS a.1) KS (fun a=>(by show 1<=4; decide)) ?h3 ?h4
 case h2=>kernel_rfl
 case h3=>intro b; kernel_rfl
 case h4=>exact fun a b h=>Pk a.1 b h
/- trestle/court.plain$2 -/
noncomputable def Hd:Code:=Bo Tryz.f179
def GA (x2:AE) (v5:Int):Option ((Int)) :=
 if (x2.1==3)=true then
 some (wr .i64 (0 - v5))
 else
 some v5
def Cr (x0:AL) (x1:AL) (x2:AE):Option (Int) :=
 if (!((x0.1.2.2.2.1==0)==(x1.1.2.2.2.1==0)))=true then
 (IS (x0.1.2.2.2.1==0)).bind fun v2 =>
 (IS (x1.1.2.2.2.1==0)).bind fun v3 =>
 (CD v2 v3).bind fun v4 =>
 some v4
 else
 (CD x0.1.2.2.2.1 x1.1.2.2.2.1).bind fun v5 =>
 (GA x2 v5).bind fun r8 =>
 some r8
def Hj:Cs (AL×AL×AE×Unit):=(csC AD (csC AD (csC (cdP AB) csN)))
def Hy (r:Int):AV:=cdI.enc r
theorem LN (x2:AE) (v5:Int) (r:(Int)) (h:GA x2 v5=some r):Sem E0 ⟨none,false⟩ (pc Hd [1,1,1,0,1]) ⟨Fr 40 [(6,.v (.int .i64 v5)),(36,.v (.bool (x2.1==3)))],[]⟩ (fun e s=>e = .normal/\Wk E0 s ⟨Fr 40 [(6,.v (.int .i64 r))],[]⟩):=by
 unfold GA at h;refine Ab (b:=(x2.1==3)) kr (fun hb6=>?_) (fun hb6=>?_)
 ·rw [if_pos hb6] at h
  refine Fb AC [(6,.v (.int .i64 (wr .i64 (0 - v5))))] [] ?_;have hq:=OI h; subst hq;exact ⟨rfl,AZ⟩
 ·rw [Cg hb6] at h
  refine As ?_;have hq:=OI h; subst hq;exact ⟨rfl,AZ⟩
theorem MO (x0:AL) (x1:AL) (x2:AE) (r:Int) (h:Cr x0 x1 x2=some r):Sem E0 ⟨none,false⟩ Hd ⟨Fr 40 (BQ 0 (Hj.enc (x0,x1,x2,()))),[]⟩ fun e s'=>(e = .normal\/e = .ret)/\∃ xs,Es E0.P s'.fr s'.hp Tryz.f179.results.toList=some xs/\FG xs=Hy r:=by
 unfold Cr at h
 let p1:Nat×AV:=(2,.pe (AB.enc x2) 0)
 refine BV (CK (s1:=⟨Fr 40 [(0,AD.enc x0),(1,AD.enc x1),p1],[]⟩) AZ ?_)
 let p2:Option Blk:=some ⟨10,115,[AD.enc x1],false⟩
 let p3:Option Blk:=some ⟨10,115,[AD.enc x0],false⟩
 refine AP AC [p1,(3,.pt 0 0 0),(4,.pt 1 0 0)] [p3,p2] ?_;refine AJ ?_;refine AP AC [p1,(3,.pt 0 0 0),(4,.pt 1 0 0),(15,.v (.bool (!((x0.1.2.2.2.1==0)==(x1.1.2.2.2.1==0)))))] [p3,p2] ?_;refine Ab (b:=(!((x0.1.2.2.2.1==0)==(x1.1.2.2.2.1==0)))) kr (fun hb1=>?_) (fun hb1=>?_)
 ·rw [if_pos hb1] at h
  refine AJ ?_;obtain ⟨v2,hv2,h⟩:=OB h;obtain ⟨v3,hv3,h⟩:=OB h;obtain ⟨v4,hv4,h⟩:=OB h
  let p4:Nat×AV:=(5,.v (.int .i64 v4))
  refine F6 AC (s1:=⟨Fr 40 [p4],[]⟩) kr ?_ ?_
  ·refine Bp (n:=40) AC 4 [(4,.pt 1 0 0),(19,.v (.bool (x0.1.2.2.2.1==0)))] [p3,p2] kr kr ?_
   refine CT (caps:=[]) (xs:=[.v (.bool (x0.1.2.2.2.1==0))]) (u:=((x0.1.2.2.2.1==0),())) rfl rfl Of rfl (AA rfl) kr kr (AY (Ay (c:=cdB) (v:=(x0.1.2.2.2.1==0))) CB) kr hv2 ?_;refine Bp (n:=40) AC 4 [(20,.v (.int .i64 v2)),(24,.v (.bool (x1.1.2.2.2.1==0)))] [p3,p2] kr kr ?_;refine CT (caps:=[]) (xs:=[.v (.bool (x1.1.2.2.2.1==0))]) (u:=((x1.1.2.2.2.1==0),())) rfl rfl Of rfl (AA rfl) kr kr (AY (Ay (c:=cdB) (v:=(x1.1.2.2.2.1==0))) CB) kr hv3 ?_;refine CT (caps:=[]) (xs:=[.v (.int .i64 v2),.v (.int .i64 v3)]) (u:=(v2,v3,())) rfl rfl Eq rfl (AA rfl) kr kr (AY (Ay (c:=cdI) (v:=v2)) (AY (Ay (c:=cdI) (v:=v3)) CB)) kr hv4 ?_;refine Bp (n:=40) AC 1 [p4] [p3,p2] kr kr ?_;exact RunDS.done rfl (Az [] trivial ⟨lv,trivial⟩)
  refine Ah ?_;have hq:=OI h; subst hq;exact ⟨⟨Fr 40 [p4],[]⟩,AZ,.inr rfl,[.v (.int .i64 v4)],kr,kr⟩
 ·rw [Cg hb1] at h
  refine As ?_;refine AJ ?_;obtain ⟨v5,hv5,h⟩:=OB h
  let p5:Nat×AV:=(6,.v (.int .i64 v5))
  refine AS (s1:=⟨Fr 40 [p1,p5],[]⟩) ?_ ?_
  ·refine AF (n:=40) AC 6 [p1,(29,.v (.int .i64 x0.1.2.2.2.1)),(32,.v (.int .i64 x1.1.2.2.2.1))] [p3,p2] kr ?_
   refine A1 (caps:=[]) (xs:=[.v (.int .i64 x0.1.2.2.2.1),.v (.int .i64 x1.1.2.2.2.1)]) (u:=(x0.1.2.2.2.1,x1.1.2.2.2.1,())) rfl rfl Eq rfl (AA rfl) kr kr (AY (Ay (c:=cdI) (v:=x0.1.2.2.2.1)) (AY (Ay (c:=cdI) (v:=x1.1.2.2.2.1)) CB)) (.inl kr) hv5 ?_;refine AF (n:=40) AC 1 [p1,p5] [p3,p2] kr ?_;exact AR rfl (Az [] trivial ⟨lv,lv,trivial⟩)
  refine AJ ?_;refine AP AC [p5,(36,.v (.bool (x2.1==3)))] [] ?_;obtain ⟨r8,hr8,h⟩:=OB h;refine DE (LN x2 v5 _ hr8) ?_;refine AP AC [(5,.v (.int .i64 r8))] [] ?_;refine Ah ?_;have hq:=OI h; subst hq;exact ⟨⟨Fr 40 [(5,.v (.int .i64 r8))],[]⟩,AZ,.inr rfl,[.v (.int .i64 r8)],kr,kr⟩
def OR:List AV->Option AV:=Ee Hj (fun a=>Cr a.1 a.2.1 a.2.2.1) Hy
theorem Ko:XOk 179 OR:=by
 refine Ad Tryz.func179 (c:=Hd) ?h2 ⟨Tryz.call179⟩ Hj (fun a=>Cr a.1 a.2.1 a.2.2.1) Hy (fun a=>(by show 3<=40; decide)) ?h3 ?h4
 case h2=>kernel_rfl
 case h3=>intro b; kernel_rfl
 case h4=>exact fun a b h=>MO a.1 a.2.1 a.2.2.1 b h
/- cmp.isNaN[string] -/
noncomputable def IK:Code:=Bo Tryz.f207
def Dc (x0:(List UInt8)):Option (Bool) :=
 some (!(x0==x0))
def GH:Cs ((List UInt8)×Unit):=(csC cdS csN)
def GJ (r:Bool):AV:=cdB.enc r
theorem K4 (x0:(List UInt8)) (r:Bool) (h:Dc x0=some r):Sem E0 ⟨none,false⟩ IK ⟨Fr 6 (BQ 0 (GH.enc (x0,()))),[]⟩ fun e s'=>(e = .normal\/e = .ret)/\∃ xs,Es E0.P s'.fr s'.hp Tryz.f207.results.toList=some xs/\FG xs=GJ r:=by
 unfold Dc at h;refine BV (CK (s1:=⟨Fr 6 [(0,.st x0)],[]⟩) AZ ?_);refine AP AC [(0,.st x0)] [] ?_;refine AP AC [(2,.v (.bool (!(x0==x0))))] [] ?_;refine Ah ?_;have hq:=OI h; subst hq;exact ⟨⟨Fr 6 [(2,.v (.bool (!(x0==x0))))],[]⟩,AZ,.inr rfl,[.v (.bool (!(x0==x0)))],kr,kr⟩
def L9:List AV->Option AV:=Ee GH (fun a=>Dc a.1) GJ
theorem I2:XOk 207 L9:=by
 refine Ad Tryz.func207 (c:=IK) ?h2 ⟨Tryz.call207⟩ GH (fun a=>Dc a.1) GJ (fun a=>(by show 1<=6; decide)) ?h3 ?h4
 case h2=>kernel_rfl
 case h3=>intro b; kernel_rfl
 case h4=>exact fun a b h=>K4 a.1 b h
/- cmp.Compare[string] -/
noncomputable def HO:Code:=Bo Tryz.f188
def C0 (x0:(List UInt8)) (x1:(List UInt8)):Option (Int) :=
 (Dc x0).bind fun v1 =>
 (Dc x1).bind fun v2 =>
 if v1=true then
 if v2=true then
 some 0
 else
 some (-1)
 else
 if v2=true then
 some 1
 else
 if (Go.Op.bytesLess x0 x1)=true then
 some (-1)
 else
 if (!((Go.Op.bytesLess x0 x1)||(x0==x1)))=true then
 some 1
 else
 some 0
def Fg:Cs ((List UInt8)×(List UInt8)×Unit):=(csC cdS (csC cdS csN))
def Fh (r:Int):AV:=cdI.enc r
theorem J6 (x0:(List UInt8)) (x1:(List UInt8)) (r:Int) (h:C0 x0 x1=some r):Sem E0 ⟨none,false⟩ HO ⟨Fr 20 (BQ 0 (Fg.enc (x0,x1,()))),[]⟩ fun e s'=>(e = .normal\/e = .ret)/\∃ xs,Es E0.P s'.fr s'.hp Tryz.f188.results.toList=some xs/\FG xs=Fh r:=by
 unfold C0 at h;refine BV (CK (s1:=⟨Fr 20 [(0,.st x0),(1,.st x1)],[]⟩) AZ ?_);refine AP AC [(0,.st x0),(1,.st x1)] [] ?_;refine AJ ?_;obtain ⟨v1,hv1,h⟩:=OB h
 let p1:Nat×AV:=(5,.v (.bool v1))
 refine AS (s1:=⟨Fr 20 [(0,.st x0),(1,.st x1),p1],[]⟩) ?_ ?_
 ·refine AF (n:=20) AC 1 [(0,.st x0),(1,.st x1),(7,.st x0)] [] kr ?_
  refine A1 (caps:=[]) (xs:=[.st x0]) (u:=(x0,())) rfl rfl I2 rfl (AA rfl) kr kr (AY (Ay (c:=cdS) (v:=x0)) CB) (.inl kr) hv1 ?_;exact BH AC
 refine AJ ?_;obtain ⟨v2,hv2,h⟩:=OB h;refine AS (s1:=⟨Fr 20 [(0,.st x0),(1,.st x1),p1,(6,.v (.bool v2))],[]⟩) ?_ ?_
 ·refine AF (n:=20) AC 1 [(0,.st x0),(1,.st x1),p1,(9,.st x1)] [] kr ?_
  refine A1 (caps:=[]) (xs:=[.st x1]) (u:=(x1,())) rfl rfl I2 rfl (AA rfl) kr kr (AY (Ay (c:=cdS) (v:=x1)) CB) (.inl kr) hv2 ?_;exact BH AC
 refine AJ ?_;refine AP AC [(0,.st x0),(1,.st x1),(6,.v (.bool v2)),(11,.v (.bool v1))] [] ?_;refine Ab (b:=v1) kr (fun hb3=>?_) (fun hb3=>?_)
 ·rw [if_pos hb3] at h
  refine AJ ?_;refine AP AC [(12,.v (.bool v2))] [] ?_;refine Ab (b:=v2) kr (fun hb4=>?_) (fun hb4=>?_)
  ·rw [if_pos hb4] at h
   refine AP AC [(4,.v (.int .i64 0))] [] ?_;refine Ah ?_;have hq:=OI h; subst hq;exact ⟨⟨Fr 20 [(4,.v (.int .i64 0))],[]⟩,AZ,.inr rfl,[.v (.int .i64 0)],kr,kr⟩
  ·rw [Cg hb4] at h
   refine As ?_;refine AP AC [(4,.v (.int .i64 (-1)))] [] ?_;refine Ah ?_;have hq:=OI h; subst hq;exact ⟨⟨Fr 20 [(4,.v (.int .i64 (-1)))],[]⟩,AZ,.inr rfl,[.v (.int .i64 (-1))],kr,kr⟩
 ·rw [Cg hb3] at h
  refine As ?_;refine AJ ?_;refine AP AC [(0,.st x0),(1,.st x1),(13,.v (.bool v2))] [] ?_;refine Ab (b:=v2) kr (fun hb5=>?_) (fun hb5=>?_)
  ·rw [if_pos hb5] at h
   refine AP AC [(4,.v (.int .i64 1))] [] ?_;refine Ah ?_;have hq:=OI h; subst hq;exact ⟨⟨Fr 20 [(4,.v (.int .i64 1))],[]⟩,AZ,.inr rfl,[.v (.int .i64 1)],kr,kr⟩
  ·rw [Cg hb5] at h
   refine As ?_;refine AJ ?_;refine AP AC [(0,.st x0),(1,.st x1),(16,.v (.bool (Go.Op.bytesLess x0 x1)))] [] ?_;refine Ab (b:=(Go.Op.bytesLess x0 x1)) kr (fun hb6=>?_) (fun hb6=>?_)
   ·rw [if_pos hb6] at h
    refine AP AC [(4,.v (.int .i64 (-1)))] [] ?_;refine Ah ?_;have hq:=OI h; subst hq;exact ⟨⟨Fr 20 [(4,.v (.int .i64 (-1)))],[]⟩,AZ,.inr rfl,[.v (.int .i64 (-1))],kr,kr⟩
   ·rw [Cg hb6] at h
    refine As ?_;refine AJ ?_;refine AP AC [(19,.v (.bool (!((Go.Op.bytesLess x0 x1)||(x0==x1)))))] [] ?_;refine Ab (b:=(!((Go.Op.bytesLess x0 x1)||(x0==x1)))) kr (fun hb7=>?_) (fun hb7=>?_)
    ·rw [if_pos hb7] at h
     refine AP AC [(4,.v (.int .i64 1))] [] ?_;refine Ah ?_;have hq:=OI h; subst hq;exact ⟨⟨Fr 20 [(4,.v (.int .i64 1))],[]⟩,AZ,.inr rfl,[.v (.int .i64 1)],kr,kr⟩
    ·rw [Cg hb7] at h
     refine As ?_;refine AP AC [(4,.v (.int .i64 0))] [] ?_;refine Ah ?_;have hq:=OI h; subst hq;exact ⟨⟨Fr 20 [(4,.v (.int .i64 0))],[]⟩,AZ,.inr rfl,[.v (.int .i64 0)],kr,kr⟩
def K7:List AV->Option AV:=Ee Fg (fun a=>C0 a.1 a.2.1) Fh
theorem K8:XOk 188 K7:=by
 refine Ad Tryz.func188 (c:=HO) ?h2 ⟨Tryz.call188⟩ Fg (fun a=>C0 a.1 a.2.1) Fh (fun a=>(by show 2<=20; decide)) ?h3 ?h4
 case h2=>kernel_rfl
 case h3=>intro b; kernel_rfl
 case h4=>exact fun a b h=>J6 a.1 a.2.1 b h
/- trestle/court.plain$7 -/
noncomputable def Jy:Code:=Bo Tryz.f187
def EP (x0:AL) (x1:AL):Option (Int) :=
 (C0 x0.1.1 x1.1.1).bind fun v1 =>
 some v1
def Ho:Cs (AL×AL×Unit):=(csC AD (csC AD csN))
def H3 (r:Int):AV:=cdI.enc r
theorem MT (x0:AL) (x1:AL) (r:Int) (h:EP x0 x1=some r):Sem E0 ⟨none,false⟩ Jy ⟨Fr 12 (BQ 0 (Ho.enc (x0,x1,()))),[]⟩ fun e s'=>(e = .normal\/e = .ret)/\∃ xs,Es E0.P s'.fr s'.hp Tryz.f187.results.toList=some xs/\FG xs=H3 r:=by
 unfold EP at h;refine BV (CK (s1:=⟨Fr 12 [(0,AD.enc x0),(1,AD.enc x1)],[]⟩) AZ ?_)
 let p1:Option Blk:=some ⟨10,115,[AD.enc x1],false⟩
 let p2:Option Blk:=some ⟨10,115,[AD.enc x0],false⟩
 refine AP AC [(2,.pt 0 0 0),(3,.pt 1 0 0)] [p2,p1] ?_;refine AJ ?_;obtain ⟨v1,hv1,h⟩:=OB h
 let p3:Nat×AV:=(4,.v (.int .i64 v1))
 refine AS (s1:=⟨Fr 12 [p3],[]⟩) ?_ ?_
 ·refine AF (n:=12) AC 6 [(7,.st x0.1.1),(10,.st x1.1.1)] [p2,p1] kr ?_
  refine A1 (caps:=[]) (xs:=[.st x0.1.1,.st x1.1.1]) (u:=(x0.1.1,x1.1.1,())) rfl rfl K8 rfl (AA rfl) kr kr (AY (Ay (c:=cdS) (v:=x0.1.1)) (AY (Ay (c:=cdS) (v:=x1.1.1)) CB)) (.inl kr) hv1 ?_;refine AF (n:=12) AC 1 [p3] [p2,p1] kr ?_;exact AR rfl (Az [] trivial ⟨lv,trivial⟩)
 refine Ah ?_;have hq:=OI h; subst hq;exact ⟨⟨Fr 12 [p3],[]⟩,AZ,.inr rfl,[.v (.int .i64 v1)],kr,kr⟩
def OX:List AV->Option AV:=Ee Ho (fun a=>EP a.1 a.2.1) H3
theorem Oo:XOk 187 OX:=by
 refine Ad Tryz.func187 (c:=Jy) ?h2 ⟨Tryz.call187⟩ Ho (fun a=>EP a.1 a.2.1) H3 (fun a=>(by show 2<=12; decide)) ?h3 ?h4
 case h2=>kernel_rfl
 case h3=>intro b; kernel_rfl
 case h4=>exact fun a b h=>MT a.1 a.2.1 b h
/- trestle/court.plain$3 -/
noncomputable def Ju:Code:=Bo Tryz.f182
def Ge (x0:AL) (x1:AE):Option (Bool) :=
 some (x0.1.2.2.2.2.1==x1.2.2.2.2)
def Hk:Cs (AL×AE×Unit):=(csC AD (csC (cdP AB) csN))
def Hz (r:Bool):AV:=cdB.enc r
theorem MP (x0:AL) (x1:AE) (r:Bool) (h:Ge x0 x1=some r):Sem E0 ⟨none,false⟩ Ju ⟨Fr 10 (BQ 0 (Hk.enc (x0,x1,()))),[]⟩ fun e s'=>(e = .normal\/e = .ret)/\∃ xs,Es E0.P s'.fr s'.hp Tryz.f182.results.toList=some xs/\FG xs=Hz r:=by
 unfold Ge at h;refine BV (CK (s1:=⟨Fr 10 [(0,AD.enc x0),(1,.pe (AB.enc x1) 0)],[]⟩) AZ ?_)
 let p1:Option Blk:=some ⟨10,115,[AD.enc x0],false⟩
 refine AP AC [(1,.pe (AB.enc x1) 0),(2,.pt 0 0 0)] [p1] ?_;refine AJ ?_
 let p2:Nat×AV:=(3,.v (.bool (x0.1.2.2.2.2.1==x1.2.2.2.2)))
 refine AS (s1:=⟨Fr 10 [p2],[]⟩) ?_ ?_
 ·refine AF (n:=10) AC 7 [p2] [p1] kr ?_
  exact AR rfl (Az [] trivial ⟨lv,trivial⟩)
 refine Ah ?_;have hq:=OI h; subst hq;exact ⟨⟨Fr 10 [p2],[]⟩,AZ,.inr rfl,[.v (.bool (x0.1.2.2.2.2.1==x1.2.2.2.2))],kr,kr⟩
def OT:List AV->Option AV:=Ee Hk (fun a=>Ge a.1 a.2.1) Hz
theorem Ok:XOk 182 OT:=by
 refine Ad Tryz.func182 (c:=Ju) ?h2 ⟨Tryz.call182⟩ Hk (fun a=>Ge a.1 a.2.1) Hz (fun a=>(by show 2<=10; decide)) ?h3 ?h4
 case h2=>kernel_rfl
 case h3=>intro b; kernel_rfl
 case h4=>exact fun a b h=>MP a.1 a.2.1 b h
/- trestle/court.named$1 -/
noncomputable def Eh:Code:=Bo Tryz.f206
def BM (x0:AL) (x1:AE) (x2:AE):Option (Int) :=
 (Ge x0 x1).bind fun v1 =>
 if (!(v1==x2.2.2.1))=true then
 some 0
 else
 some 1
def DG:Cs (AL×AE×AE×Unit):=(csC AD (csC (cdP (cdF 182 (csE (cdP AB)) (fun _=>rfl))) (csC (cdP AB) csN)))
def DL (r:Int):AV:=cdI.enc r
theorem Gz (x0:AL) (x1:AE) (x2:AE) (r:Int) (h:BM x0 x1 x2=some r):Sem E0 ⟨none,false⟩ Eh ⟨Fr 11 (BQ 0 (DG.enc (x0,x1,x2,()))),[]⟩ fun e s'=>(e = .normal\/e = .ret)/\∃ xs,Es E0.P s'.fr s'.hp Tryz.f206.results.toList=some xs/\FG xs=DL r:=by
 unfold BM at h
 let p1:Nat×AV:=(2,.pe (AB.enc x2) 0)
 let p2:Nat×AV:=(1,.pe (.fn 182 [] [.pe (AB.enc x1) 0]) 0)
 refine BV (CK (s1:=⟨Fr 11 [(0,AD.enc x0),p2,p1],[]⟩) AZ ?_)
 let p3:Option Blk:=some ⟨10,115,[AD.enc x0],false⟩
 refine AP AC [p2,p1,(3,.pt 0 0 0)] [p3] ?_;refine AJ ?_;refine AJ ?_;obtain ⟨v1,hv1,h⟩:=OB h
 let p4:Nat×AV:=(10,.v (.bool (!(v1==x2.2.2.1))))
 refine F6 AC (s1:=⟨Fr 11 [p4],[]⟩) kr ?_ ?_
 ·refine Bp (n:=11) AC 2 [p1,(5,.fn 182 [] [.pe (AB.enc x1) 0]),(6,AD.enc x0)] [p3] kr kr ?_
  refine CT (caps:=[.pe (AB.enc x1) 0]) (xs:=[AD.enc x0]) (u:=(x0,x1,())) rfl rfl Ok rfl (AA rfl) kr kr (AY (Ay (c:=AD) (v:=x0)) (AY (Ay (c:=(cdP AB)) (v:=x1)) CB)) kr hv1 ?_;refine Bp (n:=11) AC 3 [p4] [p3] kr kr ?_;exact RunDS.done rfl (Az [] trivial ⟨lv,trivial⟩)
 refine Ab (b:=(!(v1==x2.2.2.1))) kr (fun hb2=>?_) (fun hb2=>?_)
 ·rw [if_pos hb2] at h
  refine AP AC [(4,.v (.int .i64 0))] [] ?_;refine Ah ?_;have hq:=OI h; subst hq;exact ⟨⟨Fr 11 [(4,.v (.int .i64 0))],[]⟩,AZ,.inr rfl,[.v (.int .i64 0)],kr,kr⟩
 ·rw [Cg hb2] at h
  refine As ?_;refine AP AC [(4,.v (.int .i64 1))] [] ?_;refine Ah ?_;have hq:=OI h; subst hq;exact ⟨⟨Fr 11 [(4,.v (.int .i64 1))],[]⟩,AZ,.inr rfl,[.v (.int .i64 1)],kr,kr⟩
def HU:List AV->Option AV:=Ee DG (fun a=>BM a.1 a.2.1 a.2.2.1) DL
theorem HZ:XOk 206 HU:=by
 refine Ad Tryz.func206 (c:=Eh) ?h2 ⟨Tryz.call206⟩ DG (fun a=>BM a.1 a.2.1 a.2.2.1) DL (fun a=>(by show 3<=11; decide)) ?h3 ?h4
 case h2=>kernel_rfl
 case h3=>intro b; kernel_rfl
 case h4=>exact fun a b h=>Gz a.1 a.2.1 a.2.2.1 b h
/- trestle/court.plain$4 -/
noncomputable def Jv:Code:=Bo Tryz.f183
def Gf (x0:AL):Option (Bool) :=
 some x0.1.2.2.2.2.2.2.1
def Hl:Cs (AL×Unit):=(csC AD csN)
def H0 (r:Bool):AV:=cdB.enc r
theorem MQ (x0:AL) (r:Bool) (h:Gf x0=some r):Sem E0 ⟨none,false⟩ Jv ⟨Fr 6 (BQ 0 (Hl.enc (x0,()))),[]⟩ fun e s'=>(e = .normal\/e = .ret)/\∃ xs,Es E0.P s'.fr s'.hp Tryz.f183.results.toList=some xs/\FG xs=H0 r:=by
 unfold Gf at h;refine BV (CK (s1:=⟨Fr 6 [(0,AD.enc x0)],[]⟩) AZ ?_)
 let p1:Option Blk:=some ⟨10,115,[AD.enc x0],false⟩
 refine AP AC [(1,.pt 0 0 0)] [p1] ?_;refine AJ ?_
 let p2:Nat×AV:=(2,.v (.bool x0.1.2.2.2.2.2.2.1))
 refine AS (s1:=⟨Fr 6 [p2],[]⟩) ?_ ?_
 ·refine AF (n:=6) AC 4 [p2] [p1] kr ?_
  exact AR rfl (Az [] trivial ⟨lv,trivial⟩)
 refine Ah ?_;have hq:=OI h; subst hq;exact ⟨⟨Fr 6 [p2],[]⟩,AZ,.inr rfl,[.v (.bool x0.1.2.2.2.2.2.2.1)],kr,kr⟩
def OU:List AV->Option AV:=Ee Hl (fun a=>Gf a.1) H0
theorem Ol:XOk 183 OU:=by
 refine Ad Tryz.func183 (c:=Jv) ?h2 ⟨Tryz.call183⟩ Hl (fun a=>Gf a.1) H0 (fun a=>(by show 1<=6; decide)) ?h3 ?h4
 case h2=>kernel_rfl
 case h3=>intro b; kernel_rfl
 case h4=>exact fun a b h=>MQ a.1 b h
/- trestle/court.named$1 -/
noncomputable def Ei:Code:=Bo Tryz.f206
def BN (x0:AL) (x2:AE):Option (Int) :=
 (Gf x0).bind fun v1 =>
 if (!(v1==x2.2.2.1))=true then
 some 0
 else
 some 1
def DH:Cs (AL×Unit×AE×Unit):=(csC AD (csC (cdP (cdF 183 csN (fun _=>rfl))) (csC (cdP AB) csN)))
def DM (r:Int):AV:=cdI.enc r
theorem G0 (x0:AL) (x2:AE) (r:Int) (h:BN x0 x2=some r):Sem E0 ⟨none,false⟩ Ei ⟨Fr 11 (BQ 0 (DH.enc (x0,(),x2,()))),[]⟩ fun e s'=>(e = .normal\/e = .ret)/\∃ xs,Es E0.P s'.fr s'.hp Tryz.f206.results.toList=some xs/\FG xs=DM r:=by
 unfold BN at h
 let p1:Nat×AV:=(2,.pe (AB.enc x2) 0)
 refine BV (CK (s1:=⟨Fr 11 [(0,AD.enc x0),(1,.pe (.fn 183 [] []) 0),p1],[]⟩) AZ ?_)
 let p2:Option Blk:=some ⟨10,115,[AD.enc x0],false⟩
 refine AP AC [(1,.pe (.fn 183 [] []) 0),p1,(3,.pt 0 0 0)] [p2] ?_;refine AJ ?_;refine AJ ?_;obtain ⟨v1,hv1,h⟩:=OB h
 let p3:Nat×AV:=(10,.v (.bool (!(v1==x2.2.2.1))))
 refine F6 AC (s1:=⟨Fr 11 [p3],[]⟩) kr ?_ ?_
 ·refine Bp (n:=11) AC 2 [p1,(5,.fn 183 [] []),(6,AD.enc x0)] [p2] kr kr ?_
  refine CT (caps:=[]) (xs:=[AD.enc x0]) (u:=(x0,())) rfl rfl Ol rfl (AA rfl) kr kr (AY (Ay (c:=AD) (v:=x0)) CB) kr hv1 ?_;refine Bp (n:=11) AC 3 [p3] [p2] kr kr ?_;exact RunDS.done rfl (Az [] trivial ⟨lv,trivial⟩)
 refine Ab (b:=(!(v1==x2.2.2.1))) kr (fun hb2=>?_) (fun hb2=>?_)
 ·rw [if_pos hb2] at h
  refine AP AC [(4,.v (.int .i64 0))] [] ?_;refine Ah ?_;have hq:=OI h; subst hq;exact ⟨⟨Fr 11 [(4,.v (.int .i64 0))],[]⟩,AZ,.inr rfl,[.v (.int .i64 0)],kr,kr⟩
 ·rw [Cg hb2] at h
  refine As ?_;refine AP AC [(4,.v (.int .i64 1))] [] ?_;refine Ah ?_;have hq:=OI h; subst hq;exact ⟨⟨Fr 11 [(4,.v (.int .i64 1))],[]⟩,AZ,.inr rfl,[.v (.int .i64 1)],kr,kr⟩
def HV:List AV->Option AV:=Ee DH (fun a=>BN a.1 a.2.2.1) DM
theorem Ha:XOk 206 HV:=by
 refine Ad Tryz.func206 (c:=Ei) ?h2 ⟨Tryz.call206⟩ DH (fun a=>BN a.1 a.2.2.1) DM (fun a=>(by show 3<=11; decide)) ?h3 ?h4
 case h2=>kernel_rfl
 case h3=>intro b; kernel_rfl
 case h4=>exact fun a b h=>G0 a.1 a.2.2.1 b h
/- trestle/court.plain$5$1 -/
noncomputable def Io:Code:=Bo Tryz.f185
def D0 (x0:(List UInt8)) (x1:AE):Option (Bool) :=
 (Am x1.2.2.2.1 x0).bind fun v1 =>
 some v1
def Gl:Cs ((List UInt8)×AE×Unit):=(csC cdS (csC (cdP AB) csN))
def Gq (r:Bool):AV:=cdB.enc r
theorem LO (x0:(List UInt8)) (x1:AE) (r:Bool) (h:D0 x0 x1=some r):Sem E0 ⟨none,false⟩ Io ⟨Fr 8 (BQ 0 (Gl.enc (x0,x1,()))),[]⟩ fun e s'=>(e = .normal\/e = .ret)/\∃ xs,Es E0.P s'.fr s'.hp Tryz.f185.results.toList=some xs/\FG xs=Gq r:=by
 unfold D0 at h;refine BV (CK (s1:=⟨Fr 8 [(0,.st x0),(1,.pe (AB.enc x1) 0)],[]⟩) AZ ?_);refine AP AC [(0,.st x0),(1,.pe (AB.enc x1) 0)] [] ?_;refine AJ ?_;obtain ⟨v1,hv1,h⟩:=OB h;refine AS (s1:=⟨Fr 8 [(3,.v (.bool v1))],[]⟩) ?_ ?_
 ·refine AF (n:=8) AC 3 [(5,.sl 1 (x1.2.2.2.1.map cdS.enc)),(6,.st x0)] [] kr ?_
  refine A1 (caps:=[]) (xs:=[.sl 1 (x1.2.2.2.1.map cdS.enc),.st x0]) (u:=(x1.2.2.2.1,x0,())) rfl rfl Ba rfl (AA rfl) kr kr (AY (Ay (c:=(cdL 1 cdS)) (v:=x1.2.2.2.1)) (AY (Ay (c:=cdS) (v:=x0)) CB)) (.inl kr) hv1 ?_;exact BH AC
 refine Ah ?_;have hq:=OI h; subst hq;exact ⟨⟨Fr 8 [(3,.v (.bool v1))],[]⟩,AZ,.inr rfl,[.v (.bool v1)],kr,kr⟩
def Ms:List AV->Option AV:=Ee Gl (fun a=>D0 a.1 a.2.1) Gq
theorem Mx:XOk 185 Ms:=by
 refine Ad Tryz.func185 (c:=Io) ?h2 ⟨Tryz.call185⟩ Gl (fun a=>D0 a.1 a.2.1) Gq (fun a=>(by show 2<=8; decide)) ?h3 ?h4
 case h2=>kernel_rfl
 case h3=>intro b; kernel_rfl
 case h4=>exact fun a b h=>LO a.1 a.2.1 b h
/- slices.IndexFunc[[]string,string] -/
noncomputable def Bj:Code:=Bo Tryz.f90
def A0 (x0:(List (List UInt8))) (x1:AE):Nat->Int->Option ((Unit) ⊕ (Int))
 | 0,_=>none
 | f + 1,c1 =>
  if (decide (c1 < (x0.length:Int)))=true then
  (idx x0 c1).bind fun v3 =>
  (D0 v3 x1).bind fun v4 =>
  if v4=true then
  some (.inr c1)
  else
  A0 x0 x1 f (wr .i64 (c1 + 1))
  else
  some (.inl ())
def Av (x0:(List (List UInt8))) (x1:AE):Option (Int) :=
 (A0 x0 x1 100000 0).bind fun r7 =>
 match r7 with
 | (.inl w8) =>
  some (-1)
 | (.inr w9) =>
  some w9
def Bm:Cs ((List (List UInt8))×AE×Unit):=(csC (cdL 1 cdS) (csC (cdF 185 (csE (cdP AB)) (fun _=>rfl)) csN))
def Bn (r:Int):AV:=cdI.enc r
theorem CN (x0:(List (List UInt8))) (x1:AE):∀ (f:Nat) (c1:Int) (r:(Unit) ⊕ (Int)),A0 x0 x1 f c1=some r->SemN E0 ⟨none,false⟩ (pc Bj [1,0,1,0,0]) f ⟨Fr 19 [(0,.sl 1 (x0.map cdS.enc)),(1,.fn 185 [] [.pe (AB.enc x1) 0]),(7,.v (.int .i64 (x0.length:Int))),(8,.v (.int .i64 c1))],[]⟩ (fun e s=>match r with
 | (.inl w)=>e=(.exit 0)/\Wk E0 s ⟨Fr 19 [],[]⟩
 | (.inr w)=>e = .ret/\Wk E0 s ⟨Fr 19 [(4,.v (.int .i64 w))],[]⟩):=by
 intro f;induction f with
 | zero=>intro c1 r h; cases h
 | succ f ih0 =>
  intro c1 r h
  have ih:=fun (c1:Int)=>ih0 c1 r
  unfold A0 at h;refine FI ?_
  let p1:Nat×AV:=(8,.v (.int .i64 c1))
  let p2:Nat×AV:=(7,.v (.int .i64 (x0.length:Int)))
  let p3:Nat×AV:=(1,.fn 185 [] [.pe (AB.enc x1) 0])
  let p4:Nat×AV:=(0,.sl 1 (x0.map cdS.enc))
  refine AP AC [p4,p3,p2,p1,(9,.v (.bool (decide (c1 < (x0.length:Int)))))] [] ?_;refine AJ ?_;refine Ab (b:=(decide (c1 < (x0.length:Int)))) kr (fun hb2=>?_) (fun hb2=>?_)
  ·rw [if_pos hb2] at h
   refine As ?_;refine AJ ?_;refine CI ?_
   let p5:Nat×AV:=(5,.v (.int .i64 c1))
   refine AP AC [p4,p3,p5,p2,p1] [] ?_;refine AJ ?_;obtain ⟨v3,hv3,h⟩:=OB h;obtain ⟨v4,hv4,h⟩:=OB h;refine AS (s1:=⟨Fr 19 [p4,p3,p5,p2,p1,(16,.v (.bool v4))],[]⟩) ?_ ?_
   ·let p6:Nat×AV:=(11,.fn 185 [] [.pe (AB.enc x1) 0])
    refine AF (n:=19) AC 3 [p4,p3,p5,p2,p1,p6,(12,.sl 1 (x0.map cdS.enc)),(13,.v (.int .i64 c1))] [] kr ?_;refine A6 AC 0 rfl (Cw (AA rfl) rfl (AQ (a:= .sl 1 (x0.map cdS.enc)) (b:= .v (.int .i64 c1)) kr kr (GS (e:=cdS.enc) (el:=9) (k:=1) (ki:= .i64) kr kr hv3))) ?_;refine AF (n:=19) AC 1 [p4,p3,p5,p2,p1,p6,(15,.st v3)] [] kr ?_;refine A1 (caps:=[.pe (AB.enc x1) 0]) (xs:=[.st v3]) (u:=(v3,x1,())) rfl rfl Mx rfl (AA rfl) kr kr (AY (Ay (c:=cdS) (v:=v3)) (AY (Ay (c:=(cdP AB)) (v:=x1)) CB)) (.inl kr) hv4 ?_;exact AR rfl AZ
   refine Ab (b:=v4) kr (fun hb5=>?_) (fun hb5=>?_)
   ·rw [if_pos hb5] at h
    refine AP AC [(4,.v (.int .i64 c1))] [] ?_;refine Ah ?_;have hq:=OI h; subst hq;exact ⟨rfl,AZ⟩
   ·rw [Cg hb5] at h
    refine As ?_
    let p7:Nat×AV:=(8,.v (.int .i64 (wr .i64 (c1 + 1))))
    refine Fb AC [p4,p3,p2,p7] [] ?_;exact Ck (s1:=⟨Fr 19 [p4,p3,p2,p7],[]⟩) AZ (ih (wr .i64 (c1 + 1)) h)
  ·rw [Cg hb2] at h
   refine F8 ?_;have hq:=OI h; subst hq;exact ⟨rfl,AZ⟩
theorem D6 (x0:(List (List UInt8))) (x1:AE) (r:Int) (h:Av x0 x1=some r):Sem E0 ⟨none,false⟩ Bj ⟨Fr 19 (BQ 0 (Bm.enc (x0,x1,()))),[]⟩ fun e s'=>(e = .normal\/e = .ret)/\∃ xs,Es E0.P s'.fr s'.hp Tryz.f90.results.toList=some xs/\FG xs=Bn r:=by
 unfold Av at h
 let p1:Nat×AV:=(1,.fn 185 [] [.pe (AB.enc x1) 0])
 let p2:Nat×AV:=(0,.sl 1 (x0.map cdS.enc))
 refine BV (CK (s1:=⟨Fr 19 [p2,p1],[]⟩) AZ ?_);refine AP AC [p2,p1] [] ?_;refine AJ ?_;refine AJ ?_
 let p3:Nat×AV:=(8,.v (.int .i64 0))
 let p4:Nat×AV:=(7,.v (.int .i64 (x0.length:Int)))
 refine AS (s1:=⟨Fr 19 [p2,p1,p4,p3],[]⟩) ?_ ?_
 ·refine AF (n:=19) AC 1 [p2,p1,(6,.sl 1 (x0.map cdS.enc))] [] kr ?_
  refine A6 AC 0 rfl (Cw (AA rfl) rfl (Ed (a:= .sl 1 (x0.map cdS.enc)) kr (DC (el:=9) kr))) ?_;exact BH AC
 refine CI ?_;obtain ⟨r7,hr7,h⟩:=OB h;refine F9 (n:=100000) ?_;rcases r7 with w8 | w9
 ·try dsimp only at h
  refine DR (Ck (s1:=⟨Fr 19 [p2,p1,p4,p3],[]⟩) AZ (CN x0 x1 _ 0 _ hr7)) ?_;refine AP AC [(4,.v (.int .i64 (-1)))] [] ?_;refine Ah ?_;have hq:=OI h; subst hq;exact ⟨⟨Fr 19 [(4,.v (.int .i64 (-1)))],[]⟩,AZ,.inr rfl,[.v (.int .i64 (-1))],kr,kr⟩
 ·try dsimp only at h
  refine DR (Ck (s1:=⟨Fr 19 [p2,p1,p4,p3],[]⟩) AZ (CN x0 x1 _ 0 _ hr7)) ?_;have hq:=OI h; subst hq;exact ⟨⟨Fr 19 [(4,.v (.int .i64 w9))],[]⟩,AZ,.inr rfl,[.v (.int .i64 w9)],kr,kr⟩
def EH:List AV->Option AV:=Ee Bm (fun a=>Av a.1 a.2.1) Bn
theorem EI:XOk 90 EH:=by
 refine Ad Tryz.func90 (c:=Bj) ?h2 ⟨Tryz.call90⟩ Bm (fun a=>Av a.1 a.2.1) Bn (fun a=>(by show 2<=19; decide)) ?h3 ?h4
 case h2=>kernel_rfl
 case h3=>intro b; kernel_rfl
 case h4=>exact fun a b h=>D6 a.1 a.2.1 b h
/- slices.ContainsFunc[[]string,string] -/
noncomputable def CM:Code:=Bo Tryz.f36
def Aa (x0:(List (List UInt8))) (x1:AE):Option (Bool) :=
 (Av x0 x1).bind fun v1 =>
 some (decide (v1≥0))
def BX:Cs ((List (List UInt8))×AE×Unit):=(csC (cdL 1 cdS) (csC (cdF 185 (csE (cdP AB)) (fun _=>rfl)) csN))
def BY (r:Bool):AV:=cdB.enc r
theorem Dk (x0:(List (List UInt8))) (x1:AE) (r:Bool) (h:Aa x0 x1=some r):Sem E0 ⟨none,false⟩ CM ⟨Fr 9 (BQ 0 (BX.enc (x0,x1,()))),[]⟩ fun e s'=>(e = .normal\/e = .ret)/\∃ xs,Es E0.P s'.fr s'.hp Tryz.f36.results.toList=some xs/\FG xs=BY r:=by
 unfold Aa at h
 let p1:Nat×AV:=(1,.fn 185 [] [.pe (AB.enc x1) 0])
 refine BV (CK (s1:=⟨Fr 9 [(0,.sl 1 (x0.map cdS.enc)),p1],[]⟩) AZ ?_);refine AP AC [(0,.sl 1 (x0.map cdS.enc)),p1] [] ?_;refine AJ ?_;obtain ⟨v1,hv1,h⟩:=OB h
 let p2:Nat×AV:=(4,.v (.bool (decide (v1≥0))))
 refine AS (s1:=⟨Fr 9 [p2],[]⟩) ?_ ?_
 ·refine AF (n:=9) AC 2 [(5,.sl 1 (x0.map cdS.enc)),(6,.fn 185 [] [.pe (AB.enc x1) 0])] [] kr ?_
  refine A1 (caps:=[]) (xs:=[.sl 1 (x0.map cdS.enc),.fn 185 [] [.pe (AB.enc x1) 0]]) (u:=(x0,x1,())) rfl rfl EI rfl (AA rfl) kr kr (AY (Ay (c:=(cdL 1 cdS)) (v:=x0)) (AY (Sm.fn (Pc (Ay (c:=(cdP AB)) (v:=x1)))) CB)) (.inl kr) hv1 ?_;exact BH AC
 refine Ah ?_;have hq:=OI h; subst hq;exact ⟨⟨Fr 9 [p2],[]⟩,AZ,.inr rfl,[.v (.bool (decide (v1≥0)))],kr,kr⟩
def Dw:List AV->Option AV:=Ee BX (fun a=>Aa a.1 a.2.1) BY
theorem Dx:XOk 36 Dw:=by
 refine Ad Tryz.func36 (c:=CM) ?h2 ⟨Tryz.call36⟩ BX (fun a=>Aa a.1 a.2.1) BY (fun a=>(by show 2<=9; decide)) ?h3 ?h4
 case h2=>kernel_rfl
 case h3=>intro b; kernel_rfl
 case h4=>exact fun a b h=>Dk a.1 a.2.1 b h
/- trestle/court.plain$5 -/
noncomputable def Jw:Code:=Bo Tryz.f184
def Fp (x0:AL) (x1:AE):Option (Bool) :=
 (Aa x0.1.2.2.2.2.2.2.2.2 x1).bind fun v1 =>
 some v1
def Hm:Cs (AL×AE×Unit):=(csC AD (csC (cdP AB) csN))
def H1 (r:Bool):AV:=cdB.enc r
theorem MR (x0:AL) (x1:AE) (r:Bool) (h:Fp x0 x1=some r):Sem E0 ⟨none,false⟩ Jw ⟨Fr 9 (BQ 0 (Hm.enc (x0,x1,()))),[]⟩ fun e s'=>(e = .normal\/e = .ret)/\∃ xs,Es E0.P s'.fr s'.hp Tryz.f184.results.toList=some xs/\FG xs=H1 r:=by
 unfold Fp at h;refine BV (CK (s1:=⟨Fr 9 [(0,AD.enc x0),(1,.pe (AB.enc x1) 0)],[]⟩) AZ ?_)
 let p1:Option Blk:=some ⟨10,115,[AD.enc x0],false⟩
 refine AP AC [(1,.pe (AB.enc x1) 0),(2,.pt 0 0 0)] [p1] ?_;refine AJ ?_;obtain ⟨v1,hv1,h⟩:=OB h
 let p2:Nat×AV:=(3,.v (.bool v1))
 refine AS (s1:=⟨Fr 9 [p2],[]⟩) ?_ ?_
 ·refine AF (n:=9) AC 4 [(6,.sl 1 (x0.1.2.2.2.2.2.2.2.2.map cdS.enc)),(7,.fn 185 [] [.pe (AB.enc x1) 0])] [p1] kr ?_
  refine A1 (caps:=[]) (xs:=[.sl 1 (x0.1.2.2.2.2.2.2.2.2.map cdS.enc),.fn 185 [] [.pe (AB.enc x1) 0]]) (u:=(x0.1.2.2.2.2.2.2.2.2,x1,())) rfl rfl Dx rfl (AA rfl) kr kr (AY (Ay (c:=(cdL 1 cdS)) (v:=x0.1.2.2.2.2.2.2.2.2)) (AY (Sm.fn (Pc (Ay (c:=(cdP AB)) (v:=x1)))) CB)) (.inl kr) hv1 ?_;refine AF (n:=9) AC 1 [p2] [p1] kr ?_;exact AR rfl (Az [] trivial ⟨lv,trivial⟩)
 refine Ah ?_;have hq:=OI h; subst hq;exact ⟨⟨Fr 9 [p2],[]⟩,AZ,.inr rfl,[.v (.bool v1)],kr,kr⟩
def OV:List AV->Option AV:=Ee Hm (fun a=>Fp a.1 a.2.1) H1
theorem Om:XOk 184 OV:=by
 refine Ad Tryz.func184 (c:=Jw) ?h2 ⟨Tryz.call184⟩ Hm (fun a=>Fp a.1 a.2.1) H1 (fun a=>(by show 2<=9; decide)) ?h3 ?h4
 case h2=>kernel_rfl
 case h3=>intro b; kernel_rfl
 case h4=>exact fun a b h=>MR a.1 a.2.1 b h
/- trestle/court.named$1 -/
noncomputable def Ej:Code:=Bo Tryz.f206
def BB (x0:AL) (x1:AE) (x2:AE):Option (Int) :=
 (Fp x0 x1).bind fun v1 =>
 if (!(v1==x2.2.2.1))=true then
 some 0
 else
 some 1
def DI:Cs (AL×AE×AE×Unit):=(csC AD (csC (cdP (cdF 184 (csE (cdP AB)) (fun _=>rfl))) (csC (cdP AB) csN)))
def DN (r:Int):AV:=cdI.enc r
theorem G3 (x0:AL) (x1:AE) (x2:AE) (r:Int) (h:BB x0 x1 x2=some r):Sem E0 ⟨none,false⟩ Ej ⟨Fr 11 (BQ 0 (DI.enc (x0,x1,x2,()))),[]⟩ fun e s'=>(e = .normal\/e = .ret)/\∃ xs,Es E0.P s'.fr s'.hp Tryz.f206.results.toList=some xs/\FG xs=DN r:=by
 unfold BB at h
 let p1:Nat×AV:=(2,.pe (AB.enc x2) 0)
 let p2:Nat×AV:=(1,.pe (.fn 184 [] [.pe (AB.enc x1) 0]) 0)
 refine BV (CK (s1:=⟨Fr 11 [(0,AD.enc x0),p2,p1],[]⟩) AZ ?_)
 let p3:Option Blk:=some ⟨10,115,[AD.enc x0],false⟩
 refine AP AC [p2,p1,(3,.pt 0 0 0)] [p3] ?_;refine AJ ?_;refine AJ ?_;obtain ⟨v1,hv1,h⟩:=OB h
 let p4:Nat×AV:=(10,.v (.bool (!(v1==x2.2.2.1))))
 refine F6 AC (s1:=⟨Fr 11 [p4],[]⟩) kr ?_ ?_
 ·refine Bp (n:=11) AC 2 [p1,(5,.fn 184 [] [.pe (AB.enc x1) 0]),(6,AD.enc x0)] [p3] kr kr ?_
  refine CT (caps:=[.pe (AB.enc x1) 0]) (xs:=[AD.enc x0]) (u:=(x0,x1,())) rfl rfl Om rfl (AA rfl) kr kr (AY (Ay (c:=AD) (v:=x0)) (AY (Ay (c:=(cdP AB)) (v:=x1)) CB)) kr hv1 ?_;refine Bp (n:=11) AC 3 [p4] [p3] kr kr ?_;exact RunDS.done rfl (Az [] trivial ⟨lv,trivial⟩)
 refine Ab (b:=(!(v1==x2.2.2.1))) kr (fun hb2=>?_) (fun hb2=>?_)
 ·rw [if_pos hb2] at h
  refine AP AC [(4,.v (.int .i64 0))] [] ?_;refine Ah ?_;have hq:=OI h; subst hq;exact ⟨⟨Fr 11 [(4,.v (.int .i64 0))],[]⟩,AZ,.inr rfl,[.v (.int .i64 0)],kr,kr⟩
 ·rw [Cg hb2] at h
  refine As ?_;refine AP AC [(4,.v (.int .i64 1))] [] ?_;refine Ah ?_;have hq:=OI h; subst hq;exact ⟨⟨Fr 11 [(4,.v (.int .i64 1))],[]⟩,AZ,.inr rfl,[.v (.int .i64 1)],kr,kr⟩
def HW:List AV->Option AV:=Ee DI (fun a=>BB a.1 a.2.1 a.2.2.1) DN
theorem Hb:XOk 206 HW:=by
 refine Ad Tryz.func206 (c:=Ej) ?h2 ⟨Tryz.call206⟩ DI (fun a=>BB a.1 a.2.1 a.2.2.1) DN (fun a=>(by show 3<=11; decide)) ?h3 ?h4
 case h2=>kernel_rfl
 case h3=>intro b; kernel_rfl
 case h4=>exact fun a b h=>G3 a.1 a.2.1 a.2.2.1 b h
/- trestle/court.plain$6 -/
noncomputable def Jx:Code:=Bo Tryz.f186
def Fq (x0:AL) (x1:AE):Option (Bool) :=
 (Am x1.2.2.2.1 x0.1.2.2.1).bind fun v1 =>
 some v1
def Hn:Cs (AL×AE×Unit):=(csC AD (csC (cdP AB) csN))
def H2 (r:Bool):AV:=cdB.enc r
theorem MS (x0:AL) (x1:AE) (r:Bool) (h:Fq x0 x1=some r):Sem E0 ⟨none,false⟩ Jx ⟨Fr 10 (BQ 0 (Hn.enc (x0,x1,()))),[]⟩ fun e s'=>(e = .normal\/e = .ret)/\∃ xs,Es E0.P s'.fr s'.hp Tryz.f186.results.toList=some xs/\FG xs=H2 r:=by
 unfold Fq at h;refine BV (CK (s1:=⟨Fr 10 [(0,AD.enc x0),(1,.pe (AB.enc x1) 0)],[]⟩) AZ ?_)
 let p1:Option Blk:=some ⟨10,115,[AD.enc x0],false⟩
 refine AP AC [(1,.pe (AB.enc x1) 0),(2,.pt 0 0 0)] [p1] ?_;refine AJ ?_;obtain ⟨v1,hv1,h⟩:=OB h
 let p2:Nat×AV:=(3,.v (.bool v1))
 refine AS (s1:=⟨Fr 10 [p2],[]⟩) ?_ ?_
 ·refine AF (n:=10) AC 5 [(5,.sl 1 (x1.2.2.2.1.map cdS.enc)),(8,.st x0.1.2.2.1)] [p1] kr ?_
  refine A1 (caps:=[]) (xs:=[.sl 1 (x1.2.2.2.1.map cdS.enc),.st x0.1.2.2.1]) (u:=(x1.2.2.2.1,x0.1.2.2.1,())) rfl rfl Ba rfl (AA rfl) kr kr (AY (Ay (c:=(cdL 1 cdS)) (v:=x1.2.2.2.1)) (AY (Ay (c:=cdS) (v:=x0.1.2.2.1)) CB)) (.inl kr) hv1 ?_;refine AF (n:=10) AC 1 [p2] [p1] kr ?_;exact AR rfl (Az [] trivial ⟨lv,trivial⟩)
 refine Ah ?_;have hq:=OI h; subst hq;exact ⟨⟨Fr 10 [p2],[]⟩,AZ,.inr rfl,[.v (.bool v1)],kr,kr⟩
def OW:List AV->Option AV:=Ee Hn (fun a=>Fq a.1 a.2.1) H2
theorem On:XOk 186 OW:=by
 refine Ad Tryz.func186 (c:=Jx) ?h2 ⟨Tryz.call186⟩ Hn (fun a=>Fq a.1 a.2.1) H2 (fun a=>(by show 2<=10; decide)) ?h3 ?h4
 case h2=>kernel_rfl
 case h3=>intro b; kernel_rfl
 case h4=>exact fun a b h=>MS a.1 a.2.1 b h
end Go.Proofs.YtlalcoehgkmhlaaGreatDoor
