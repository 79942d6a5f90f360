/- Lemmas for the proof. -/
import Derived.Test.YtlalcoehgkmhlaaGreatDoorCourtParetoM1
import Derived.Test.YtlalcoehgkmhlaaGreatDoorCourtParetoM2
import Derived.Test.YtlalcoehgkmhlaaGreatDoorCourtParetoM3
set_option maxHeartbeats 4000000
set_option maxRecDepth 100000
namespace Go.Proofs.YtlalcoehgkmhlaaGreatDoor
open Go.RowKit
/- trestle/trestlelaw03.Made -/
noncomputable def Cm:Code:=Br Tryz.f19
def GO (_x0:(List (Int×Int×Int×Bool×Bool))) (_c2:(List AE)) (_c3:(List UInt8)) (_c4:Int) (v6:(Int×Int×Int×Bool×Bool)):Option (((List (List UInt8)))) :=
 if ((DS .u8 v6.2.2.1 4)!=0)=true then
 if (DN ((wr .u8 (v6.2.2.1 + 1)).tmod 4) (([97,98,99,100]:List UInt8).length:Int) ([97,98,99,100]:List UInt8).length)=true then
 if (DN 0 (1:Int) ((([97,98,99,100]:List UInt8).take (([97,98,99,100]:List UInt8).length:Int).toNat).drop ((wr .u8 (v6.2.2.1 + 1)).tmod 4).toNat).length)=true then
 if (Gg 16 ([((((([97,98,99,100]:List UInt8).take (([97,98,99,100]:List UInt8).length:Int).toNat).drop (v6.2.2.1.tmod 4).toNat).take (1:Int).toNat).drop (0:Int).toNat)].length + 1))=true then
 some ([((((([97,98,99,100]:List UInt8).take (([97,98,99,100]:List UInt8).length:Int).toNat).drop (v6.2.2.1.tmod 4).toNat).take (1:Int).toNat).drop (0:Int).toNat)]++[((((([97,98,99,100]:List UInt8).take (([97,98,99,100]:List UInt8).length:Int).toNat).drop ((wr .u8 (v6.2.2.1 + 1)).tmod 4).toNat).take (1:Int).toNat).drop (0:Int).toNat)])
 else none
 else none
 else none
 else
 some [((((([97,98,99,100]:List UInt8).take (([97,98,99,100]:List UInt8).length:Int).toNat).drop (v6.2.2.1.tmod 4).toNat).take (1:Int).toNat).drop (0:Int).toNat)]
def FD (_x0:(List (Int×Int×Int×Bool×Bool))) (c3:(List UInt8)) (_c4:Int) (j27:(List AE)×Int×Int×Int×Bool×Bool×Int×(List UInt8)×Bool×Int×(List (List UInt8))×Bool):Option (((List AE)×Int×Int×Int×Bool×Bool×Int×(List UInt8)×Bool×Int×(List (List UInt8)))) :=
 if j27.2.2.2.2.2.2.2.2.2.2.2=true then
 some (j27.1,j27.2.1,j27.2.2.1,j27.2.2.2.1,j27.2.2.2.2.1,j27.2.2.2.2.2.1,j27.2.2.2.2.2.2.1,c3,j27.2.2.2.2.2.2.2.2.1,j27.2.2.2.2.2.2.2.2.2.1,j27.2.2.2.2.2.2.2.2.2.2.1)
 else
 some (j27.1,j27.2.1,j27.2.2.1,j27.2.2.2.1,j27.2.2.2.2.1,j27.2.2.2.2.2.1,j27.2.2.2.2.2.2.1,j27.2.2.2.2.2.2.2.1,j27.2.2.2.2.2.2.2.2.1,j27.2.2.2.2.2.2.2.2.2.1,j27.2.2.2.2.2.2.2.2.2.2.1)
def Ic (_x0:(List (Int×Int×Int×Bool×Bool))) (_c3:(List UInt8)) (_c4:Int) (r40:(List AE)×Int×Int×Int×Bool×Bool×Int×(List UInt8)×Bool×Int×(List (List UInt8))):Option ((Bool)) :=
 if (r40.2.2.2.2.2.2.1==6)=true then
 some (r40.2.2.2.2.2.2.1==6)
 else
 some (r40.2.2.2.2.2.2.1==7)
def Ie (_x0:(List (Int×Int×Int×Bool×Bool))) (_c3:(List UInt8)) (_c4:Int) (r40:(List AE)×Int×Int×Int×Bool×Bool×Int×(List UInt8)×Bool×Int×(List (List UInt8))):Option (((List AE)×Int×(List UInt8)×Bool×Int)) :=
 if (r40.2.2.2.2.2.2.1==10)=true then
 some (r40.1,r40.2.2.2.2.2.2.1,r40.2.2.2.2.2.2.2.1,r40.2.2.2.2.2.2.2.2.1,(wr .i64 (r40.2.2.1.tmod 64)))
 else
 some (r40.1,r40.2.2.2.2.2.2.1,r40.2.2.2.2.2.2.2.1,r40.2.2.2.2.2.2.2.2.1,r40.2.2.2.2.2.2.2.2.2.1)
def Id (x0:(List (Int×Int×Int×Bool×Bool))) (c3:(List UInt8)) (c4:Int) (r40:(List AE)×Int×Int×Int×Bool×Bool×Int×(List UInt8)×Bool×Int×(List (List UInt8))) (r1722:Bool):Option (((List AE)×Int×(List UInt8)×Bool×(List (List UInt8))×Int)) :=
 if r1722=true then
 some (r40.1,r40.2.2.2.2.2.2.1,r40.2.2.2.2.2.2.2.1,r40.2.2.2.2.1,r40.2.2.2.2.2.2.2.2.2.2,r40.2.2.2.2.2.2.2.2.2.1)
 else
 (Ie x0 c3 c4 r40).bind fun r2056 =>
 some (r2056.1,r2056.2.1,r2056.2.2.1,r2056.2.2.2.1,[],r2056.2.2.2.2)
def Ib (x0:(List (Int×Int×Int×Bool×Bool))) (c3:(List UInt8)) (c4:Int) (r40:(List AE)×Int×Int×Int×Bool×Bool×Int×(List UInt8)×Bool×Int×(List (List UInt8))):Option (((List AE)×Int×(List UInt8)×Bool×(List (List UInt8))×Int)) :=
 if (r40.2.2.2.2.2.2.1==5)=true then
 some (r40.1,r40.2.2.2.2.2.2.1,r40.2.2.2.2.2.2.2.1,r40.2.2.2.2.1,[],r40.2.2.2.2.2.2.2.2.2.1)
 else
 (Ic x0 c3 c4 r40).bind fun r1722 =>
 (Id x0 c3 c4 r40 r1722).bind fun r2057 =>
 some (r2057.1,r2057.2.1,r2057.2.2.1,r2057.2.2.2.1,r2057.2.2.2.2.1,r2057.2.2.2.2.2)
def JE (x0:(List (Int×Int×Int×Bool×Bool))) (c3:(List UInt8)) (c4:Int) (r40:(List AE)×Int×Int×Int×Bool×Bool×Int×(List UInt8)×Bool×Int×(List (List UInt8))):Option (((List AE)×Int×(List UInt8)×Bool×(List (List UInt8))×Int)) :=
 if (r40.2.2.2.2.2.2.1==4)=true then
 some (r40.1,r40.2.2.2.2.2.2.1,r40.2.2.2.2.2.2.2.1,r40.2.2.2.2.1,[],(wr .i64 (1 + (wr .i64 (r40.2.2.1.tmod 2)))))
 else
 (Ib x0 c3 c4 r40).bind fun r2058 =>
 some (r2058.1,r2058.2.1,r2058.2.2.1,r2058.2.2.2.1,r2058.2.2.2.2.1,r2058.2.2.2.2.2)
def GP (x0:(List (Int×Int×Int×Bool×Bool))) (c3:(List UInt8)) (c4:Int) (r40:(List AE)×Int×Int×Int×Bool×Bool×Int×(List UInt8)×Bool×Int×(List (List UInt8))):Option (((List AE)×(List UInt8)×Int×(List UInt8)×Bool×(List (List UInt8))×Int)) :=
 if (r40.2.2.2.2.2.2.1==1)=true then
 (idx r40.2.2.2.2.2.2.2.2.2.2 0).bind fun v42 =>
 some (r40.1,v42,r40.2.2.2.2.2.2.1,r40.2.2.2.2.2.2.2.1,r40.2.2.2.2.2.2.2.2.1,r40.2.2.2.2.2.2.2.2.2.2,r40.2.2.2.2.2.2.2.2.2.1)
 else
 (JE x0 c3 c4 r40).bind fun r2059 =>
 some (r2059.1,c3,r2059.2.1,r2059.2.2.1,r2059.2.2.2.1,r2059.2.2.2.2.1,r2059.2.2.2.2.2)
def D2 (x0:(List (Int×Int×Int×Bool×Bool))):Nat->(List AE)->(List UInt8)->Int->Option (((List AE)))
 | 0,_,_,_=>none
 | f + 1,c2,c3,c4 =>
  if (decide (c4 < (((x0.take (mnI (x0.length:Int) 8).toNat).drop (0:Int).toNat).length:Int)))=true then
  (idx ((x0.take (mnI (x0.length:Int) 8).toNat).drop (0:Int).toNat) c4).bind fun v6 =>
  if (DN (v6.2.2.1.tmod 4) (([97,98,99,100]:List UInt8).length:Int) ([97,98,99,100]:List UInt8).length)=true then
  if (DN 0 (1:Int) ((([97,98,99,100]:List UInt8).take (([97,98,99,100]:List UInt8).length:Int).toNat).drop (v6.2.2.1.tmod 4).toNat).length)=true then
  (GO x0 c2 c3 c4 v6).bind fun r14 =>
  (if v6.2.2.2.2=true then some (c2,v6.1,v6.2.1,v6.2.2.1,v6.2.2.2.1,true,(wr .u8 (1 + (v6.1.tmod 10))),[],false,0,r14,((wr .u8 (1 + (v6.1.tmod 10)))!=1)) else some (c2,v6.1,v6.2.1,v6.2.2.1,v6.2.2.2.1,false,(wr .u8 (1 + (v6.1.tmod 10))),[],false,0,r14,false)).bind fun j27 =>
  (FD x0 c3 c4 j27).bind fun r40 =>
  (GP x0 c3 c4 r40).bind fun r2060 =>
  if (Gg 64 (r2060.1.length + 1))=true then
  D2 x0 f (r2060.1++[r2060.2.2]) r2060.2.1 (wr .i64 (c4 + 1))
  else none
  else none
  else none
  else
  some c2
def Fj (x0:(List (Int×Int×Int×Bool×Bool))):Option ((List AE)) :=
 if (DN 0 (mnI (x0.length:Int) 8) x0.length)=true then
 (D2 x0 100000 [] [] 0).bind fun r2064 =>
 some r2064
 else none
def I0:Cs (((List (Int×Int×Int×Bool×Bool)))×Unit):=(csC (cdL 5 (cdA (csC (cdK .u8) (csC (cdK .u8) (csC (cdK .u8) (csC cdB (csE cdB))))) (fun _=>rfl))) csN)
def I5 (r:(List AE)):AV:=(cdL 5 AA).enc r
theorem MX (x0:(List (Int×Int×Int×Bool×Bool))) (c2:(List AE)) (c3:(List UInt8)) (c4:Int) (v6:(Int×Int×Int×Bool×Bool)) (r:((List (List UInt8)))) (h:GO x0 c2 c3 c4 v6=some r):Sem E0 ⟨none,false⟩ (pc Cm [1,1,1,0,1,0,0,1,1,0,0,1,1,1,0,1]) ⟨Fr 98 [(3,hd 0 (c2.map AA.enc)),(4,.st c3),(6,.pt 1 0 0),(7,.pt 2 0 0),(8,hd 3 ([((((([97,98,99,100]:List UInt8).take (([97,98,99,100]:List UInt8).length:Int).toNat).drop (v6.2.2.1.tmod 4).toNat).take (1:Int).toNat).drop (0:Int).toNat)].map cdS.enc)),(13,.sl 5 (((x0.take (mnI (x0.length:Int) 8).toNat).drop (0:Int).toNat).map (cdA (csC (cdK .u8) (csC (cdK .u8) (csC (cdK .u8) (csC cdB (csE cdB))))) (fun _=>rfl)).enc)),(14,.v (.int .i64 (((x0.take (mnI (x0.length:Int) 8).toNat).drop (0:Int).toNat).length:Int))),(15,.v (.int .i64 c4)),(33,.v (.bool ((DS .u8 v6.2.2.1 4)!=0)))],[mk 5 60 (c2.map AA.enc),some ⟨5,107,[.ag [.v (.int .u8 v6.1),.v (.int .u8 v6.2.1),.v (.int .u8 v6.2.2.1),.v (.bool v6.2.2.2.1),.v (.bool v6.2.2.2.2)]],false⟩,some ⟨5,60,[.ag [.v (.int .u8 (wr .u8 (1 + (v6.1.tmod 10)))),.st [],.v (.bool false),.e0,.v (.int .i64 0)]],false⟩,mk 1 9 ([((((([97,98,99,100]:List UInt8).take (([97,98,99,100]:List UInt8).length:Int).toNat).drop (v6.2.2.1.tmod 4).toNat).take (1:Int).toNat).drop (0:Int).toNat)].map cdS.enc)]⟩ (fun e s=>e = .normal/\Wk E0 s ⟨Fr 98 [(3,hd 0 (c2.map AA.enc)),(4,.st c3),(6,.pt 1 0 0),(7,.pt 2 0 0),(8,hd 3 (r.map cdS.enc)),(13,.sl 5 (((x0.take (mnI (x0.length:Int) 8).toNat).drop (0:Int).toNat).map (cdA (csC (cdK .u8) (csC (cdK .u8) (csC (cdK .u8) (csC cdB (csE cdB))))) (fun _=>rfl)).enc)),(14,.v (.int .i64 (((x0.take (mnI (x0.length:Int) 8).toNat).drop (0:Int).toNat).length:Int))),(15,.v (.int .i64 c4))],[mk 5 60 (c2.map AA.enc),some ⟨5,107,[.ag [.v (.int .u8 v6.1),.v (.int .u8 v6.2.1),.v (.int .u8 v6.2.2.1),.v (.bool v6.2.2.2.1),.v (.bool v6.2.2.2.2)]],false⟩,some ⟨5,60,[.ag [.v (.int .u8 (wr .u8 (1 + (v6.1.tmod 10)))),.st [],.v (.bool false),.e0,.v (.int .i64 0)]],false⟩,mk 1 9 (r.map cdS.enc)]⟩):=by
 unfold GO at h;refine AM (b:=((DS .u8 v6.2.2.1 4)!=0)) kr (fun hb9=>?_) (fun hb9=>?_)
 ·rw [if_pos hb9] at h
  by_cases hk10:(DN ((wr .u8 (v6.2.2.1 + 1)).tmod 4) (([97,98,99,100]:List UInt8).length:Int) ([97,98,99,100]:List UInt8).length)=true
  case neg=>rw [if_neg hk10] at h; cases h
  rw [if_pos hk10] at h;by_cases hk11:(DN 0 (1:Int) ((([97,98,99,100]:List UInt8).take (([97,98,99,100]:List UInt8).length:Int).toNat).drop ((wr .u8 (v6.2.2.1 + 1)).tmod 4).toNat).length)=true
  case neg=>rw [if_neg hk11] at h; cases h
  rw [if_pos hk11] at h;by_cases hk12:(Gg 16 ([((((([97,98,99,100]:List UInt8).take (([97,98,99,100]:List UInt8).length:Int).toNat).drop (v6.2.2.1.tmod 4).toNat).take (1:Int).toNat).drop (0:Int).toNat)].length + 1))=true
  case neg=>rw [if_neg hk12] at h; cases h
  rw [if_pos hk12] at h
  let p1:Option Blk:=mk 1 9 (([((((([97,98,99,100]:List UInt8).take (([97,98,99,100]:List UInt8).length:Int).toNat).drop (v6.2.2.1.tmod 4).toNat).take (1:Int).toNat).drop (0:Int).toNat)]++[((((([97,98,99,100]:List UInt8).take (([97,98,99,100]:List UInt8).length:Int).toNat).drop ((wr .u8 (v6.2.2.1 + 1)).tmod 4).toNat).take (1:Int).toNat).drop (0:Int).toNat)]).map cdS.enc)
  let p2:Option Blk:=some ⟨5,60,[.ag [.v (.int .u8 (wr .u8 (1 + (v6.1.tmod 10)))),.st [],.v (.bool false),.e0,.v (.int .i64 0)]],false⟩
  let p3:Option Blk:=some ⟨5,107,[.ag [.v (.int .u8 v6.1),.v (.int .u8 v6.2.1),.v (.int .u8 v6.2.2.1),.v (.bool v6.2.2.2.1),.v (.bool v6.2.2.2.2)]],false⟩
  let p4:Option Blk:=mk 5 60 (c2.map AA.enc)
  let p5:Nat×AV:=(15,.v (.int .i64 c4))
  let p6:Nat×AV:=(14,.v (.int .i64 (((x0.take (mnI (x0.length:Int) 8).toNat).drop (0:Int).toNat).length:Int)))
  let p7:Nat×AV:=(13,.sl 5 (((x0.take (mnI (x0.length:Int) 8).toNat).drop (0:Int).toNat).map (cdA (csC (cdK .u8) (csC (cdK .u8) (csC (cdK .u8) (csC cdB (csE cdB))))) (fun _=>rfl)).enc))
  let p8:Nat×AV:=(7,.pt 2 0 0)
  let p9:Nat×AV:=(6,.pt 1 0 0)
  let p10:Nat×AV:=(3,hd 0 (c2.map AA.enc))
  refine AI (s1:=⟨Fr 98 [p10,(4,.st c3),p9,p8,(8,hd 3 (([((((([97,98,99,100]:List UInt8).take (([97,98,99,100]:List UInt8).length:Int).toNat).drop (v6.2.2.1.tmod 4).toNat).take (1:Int).toNat).drop (0:Int).toNat)]++[((((([97,98,99,100]:List UInt8).take (([97,98,99,100]:List UInt8).length:Int).toNat).drop ((wr .u8 (v6.2.2.1 + 1)).tmod 4).toNat).take (1:Int).toNat).drop (0:Int).toNat)]).map cdS.enc)),p7,p6,p5],[p4,p3,p2,p1]⟩) ?_ ?_
  ·let p11:Option Blk:=mk 1 9 ([((((([97,98,99,100]:List UInt8).take (([97,98,99,100]:List UInt8).length:Int).toNat).drop (v6.2.2.1.tmod 4).toNat).take (1:Int).toNat).drop (0:Int).toNat)].map cdS.enc)
   let p12:Nat×AV:=(34,hd 3 ([((((([97,98,99,100]:List UInt8).take (([97,98,99,100]:List UInt8).length:Int).toNat).drop (v6.2.2.1.tmod 4).toNat).take (1:Int).toNat).drop (0:Int).toNat)].map cdS.enc))
   refine AD (n:=98) AC 5 [p10,(4,.st c3),p9,p8,p7,p6,p5,p12,(38,.v (.int .u8 ((wr .u8 (v6.2.2.1 + 1)).tmod 4)))] [p4,p3,p2,p11] kr ?_;refine AK AC 0 rfl (Ci (AB rfl) rfl (Ei (a:= .st [97,98,99,100]) (l:=(some (.v (.int .u8 ((wr .u8 (v6.2.2.1 + 1)).tmod 4))))) (u:=none) (m:=none) kr kr kr rfl (FU (bs:=[97,98,99,100]) (lo:=((wr .u8 (v6.2.2.1 + 1)).tmod 4)) (hi:=(([97,98,99,100]:List UInt8).length:Int)) kr (Gd (M3 hk10)) rfl hk10))) ?_;refine AK AC 0 rfl (Ci (AB rfl) rfl (Ei (a:= .st ((([97,98,99,100]:List UInt8).take (([97,98,99,100]:List UInt8).length:Int).toNat).drop ((wr .u8 (v6.2.2.1 + 1)).tmod 4).toNat)) (l:=none) (u:=(some (.v (.int .i64 1)))) (m:=none) kr kr kr rfl (FU (bs:=((([97,98,99,100]:List UInt8).take (([97,98,99,100]:List UInt8).length:Int).toNat).drop ((wr .u8 (v6.2.2.1 + 1)).tmod 4).toNat)) (lo:=0) (hi:=(1:Int)) kr rfl (Gd (Jw hk11)) hk11))) ?_
   let p13:Option Blk:=mk 1 9 ([((((([97,98,99,100]:List UInt8).take (([97,98,99,100]:List UInt8).length:Int).toNat).drop ((wr .u8 (v6.2.2.1 + 1)).tmod 4).toNat).take (1:Int).toNat).drop (0:Int).toNat)].map cdS.enc)
   refine AD (n:=98) AC 1 [p10,(4,.st c3),p9,p8,p7,p6,p5,p12,(41,hd 4 ([((((([97,98,99,100]:List UInt8).take (([97,98,99,100]:List UInt8).length:Int).toNat).drop ((wr .u8 (v6.2.2.1 + 1)).tmod 4).toNat).take (1:Int).toNat).drop (0:Int).toNat)].map cdS.enc))] [p4,p3,p2,p11,p13] kr ?_;refine AK AC 0 rfl (VD (AB rfl) rfl kr kr (IM (a:=hd 3 ([((((([97,98,99,100]:List UInt8).take (([97,98,99,100]:List UInt8).length:Int).toNat).drop (v6.2.2.1.tmod 4).toNat).take (1:Int).toNat).drop (0:Int).toNat)].map cdS.enc)) (b:=hd 4 ([((((([97,98,99,100]:List UInt8).take (([97,98,99,100]:List UInt8).length:Int).toNat).drop ((wr .u8 (v6.2.2.1 + 1)).tmod 4).toNat).take (1:Int).toNat).drop (0:Int).toNat)].map cdS.enc)) kr kr (Is (c:=cdS) (xs:=[((((([97,98,99,100]:List UInt8).take (([97,98,99,100]:List UInt8).length:Int).toNat).drop (v6.2.2.1.tmod 4).toNat).take (1:Int).toNat).drop (0:Int).toNat)]) (vs:=[((((([97,98,99,100]:List UInt8).take (([97,98,99,100]:List UInt8).length:Int).toNat).drop ((wr .u8 (v6.2.2.1 + 1)).tmod 4).toNat).take (1:Int).toNat).drop (0:Int).toNat)]) (k:=1) (bytes:=16) (el:=9) kr kr (I1 (t:=9) kr) (List.cons_ne_nil _ _) kr hk12))) ?_;refine AD (n:=98) AC 1 [p10,(4,.st c3),p9,p8,(8,hd 5 (([((((([97,98,99,100]:List UInt8).take (([97,98,99,100]:List UInt8).length:Int).toNat).drop (v6.2.2.1.tmod 4).toNat).take (1:Int).toNat).drop (0:Int).toNat)]++[((((([97,98,99,100]:List UInt8).take (([97,98,99,100]:List UInt8).length:Int).toNat).drop ((wr .u8 (v6.2.2.1 + 1)).tmod 4).toNat).take (1:Int).toNat).drop (0:Int).toNat)]).map cdS.enc)),p7,p6,p5] [p4,p3,p2,none,p13,p1] kr ?_;exact AL rfl (AY [0,1,2,5] ⟨⟨_,rfl,Cq⟩,⟨_,rfl,Cu⟩,⟨_,rfl,Cu⟩,⟨_,rfl,Cq⟩,trivial⟩ ⟨Cr (b':=0) kr kr,lv,lv,lv,Cr (b':=5) kr kr,lv,lv,lv,trivial⟩)
  have hq:=OI h; subst hq;exact ⟨rfl,(AY [0,1,2,3] ⟨⟨_,rfl,Cq⟩,⟨_,rfl,Cu⟩,⟨_,rfl,Cu⟩,⟨_,rfl,Cq⟩,trivial⟩ ⟨Cr (b':=0) kr kr,lv,lv,lv,Cr (b':=3) kr kr,lv,lv,lv,trivial⟩)⟩
 ·rw [CL hb9] at h
  refine AQ ?_;have hq:=OI h; subst hq;exact ⟨rfl,(AY [0,1,2,3] ⟨⟨_,rfl,Cq⟩,⟨_,rfl,Cu⟩,⟨_,rfl,Cu⟩,⟨_,rfl,Cq⟩,trivial⟩ ⟨Cr (b':=0) kr kr,lv,lv,lv,Cr (b':=3) kr kr,lv,lv,lv,trivial⟩)⟩
theorem MY (x0:(List (Int×Int×Int×Bool×Bool))) (c3:(List UInt8)) (c4:Int) (j27:(List AE)×Int×Int×Int×Bool×Bool×Int×(List UInt8)×Bool×Int×(List (List UInt8))×Bool) (r:((List AE)×Int×Int×Int×Bool×Bool×Int×(List UInt8)×Bool×Int×(List (List UInt8)))) (h:FD x0 c3 c4 j27=some r):Sem E0 ⟨none,false⟩ (pc Cm [1,1,1,0,1,0,0,1,1,0,0,1,1,1,1,0,1]) ⟨Fr 98 [(3,hd 0 (j27.1.map AA.enc)),(4,.st c3),(6,.pt 1 0 0),(7,.pt 2 0 0),(8,hd 3 (j27.2.2.2.2.2.2.2.2.2.2.1.map cdS.enc)),(13,.sl 5 (((x0.take (mnI (x0.length:Int) 8).toNat).drop (0:Int).toNat).map (cdA (csC (cdK .u8) (csC (cdK .u8) (csC (cdK .u8) (csC cdB (csE cdB))))) (fun _=>rfl)).enc)),(14,.v (.int .i64 (((x0.take (mnI (x0.length:Int) 8).toNat).drop (0:Int).toNat).length:Int))),(15,.v (.int .i64 c4)),(49,.v (.bool j27.2.2.2.2.2.2.2.2.2.2.2))],[mk 5 60 (j27.1.map AA.enc),some ⟨5,107,[.ag [.v (.int .u8 j27.2.1),.v (.int .u8 j27.2.2.1),.v (.int .u8 j27.2.2.2.1),.v (.bool j27.2.2.2.2.1),.v (.bool j27.2.2.2.2.2.1)]],false⟩,some ⟨5,60,[.ag [.v (.int .u8 j27.2.2.2.2.2.2.1),.st j27.2.2.2.2.2.2.2.1,.v (.bool j27.2.2.2.2.2.2.2.2.1),.e0,.v (.int .i64 j27.2.2.2.2.2.2.2.2.2.1)]],false⟩,mk 1 9 (j27.2.2.2.2.2.2.2.2.2.2.1.map cdS.enc)]⟩ (fun e s=>e = .normal/\Wk E0 s ⟨Fr 98 [(3,hd 0 (r.1.map AA.enc)),(4,.st c3),(6,.pt 1 0 0),(7,.pt 2 0 0),(8,hd 3 (r.2.2.2.2.2.2.2.2.2.2.map cdS.enc)),(13,.sl 5 (((x0.take (mnI (x0.length:Int) 8).toNat).drop (0:Int).toNat).map (cdA (csC (cdK .u8) (csC (cdK .u8) (csC (cdK .u8) (csC cdB (csE cdB))))) (fun _=>rfl)).enc)),(14,.v (.int .i64 (((x0.take (mnI (x0.length:Int) 8).toNat).drop (0:Int).toNat).length:Int))),(15,.v (.int .i64 c4))],[mk 5 60 (r.1.map AA.enc),some ⟨5,107,[.ag [.v (.int .u8 r.2.1),.v (.int .u8 r.2.2.1),.v (.int .u8 r.2.2.2.1),.v (.bool r.2.2.2.2.1),.v (.bool r.2.2.2.2.2.1)]],false⟩,some ⟨5,60,[.ag [.v (.int .u8 r.2.2.2.2.2.2.1),.st r.2.2.2.2.2.2.2.1,.v (.bool r.2.2.2.2.2.2.2.2.1),.e0,.v (.int .i64 r.2.2.2.2.2.2.2.2.2.1)]],false⟩,mk 1 9 (r.2.2.2.2.2.2.2.2.2.2.map cdS.enc)]⟩):=by
 unfold FD at h;refine AM (b:=j27.2.2.2.2.2.2.2.2.2.2.2) kr (fun hb28=>?_) (fun hb28=>?_)
 ·rw [if_pos hb28] at h
  refine Cy AC [(3,hd 0 (j27.1.map AA.enc)),(4,.st c3),(6,.pt 1 0 0),(7,.pt 2 0 0),(8,hd 3 (j27.2.2.2.2.2.2.2.2.2.2.1.map cdS.enc)),(13,.sl 5 (((x0.take (mnI (x0.length:Int) 8).toNat).drop (0:Int).toNat).map (cdA (csC (cdK .u8) (csC (cdK .u8) (csC (cdK .u8) (csC cdB (csE cdB))))) (fun _=>rfl)).enc)),(14,.v (.int .i64 (((x0.take (mnI (x0.length:Int) 8).toNat).drop (0:Int).toNat).length:Int))),(15,.v (.int .i64 c4))] [mk 5 60 (j27.1.map AA.enc),some ⟨5,107,[.ag [.v (.int .u8 j27.2.1),.v (.int .u8 j27.2.2.1),.v (.int .u8 j27.2.2.2.1),.v (.bool j27.2.2.2.2.1),.v (.bool j27.2.2.2.2.2.1)]],false⟩,some ⟨5,60,[.ag [.v (.int .u8 j27.2.2.2.2.2.2.1),.st c3,.v (.bool j27.2.2.2.2.2.2.2.2.1),.e0,.v (.int .i64 j27.2.2.2.2.2.2.2.2.2.1)]],false⟩,mk 1 9 (j27.2.2.2.2.2.2.2.2.2.2.1.map cdS.enc)] ?_;have hq:=OI h; subst hq;exact ⟨rfl,(AY [0,1,2,3] ⟨⟨_,rfl,Cq⟩,⟨_,rfl,Cu⟩,⟨_,rfl,Cu⟩,⟨_,rfl,Cq⟩,trivial⟩ ⟨Cr (b':=0) kr kr,lv,lv,lv,Cr (b':=3) kr kr,lv,lv,lv,trivial⟩)⟩
 ·rw [CL hb28] at h
  refine AQ ?_;have hq:=OI h; subst hq;exact ⟨rfl,(AY [0,1,2,3] ⟨⟨_,rfl,Cq⟩,⟨_,rfl,Cu⟩,⟨_,rfl,Cu⟩,⟨_,rfl,Cq⟩,trivial⟩ ⟨Cr (b':=0) kr kr,lv,lv,lv,Cr (b':=3) kr kr,lv,lv,lv,trivial⟩)⟩
theorem Lz (x0:(List (Int×Int×Int×Bool×Bool))) (c3:(List UInt8)) (c4:Int) (r40:(List AE)×Int×Int×Int×Bool×Bool×Int×(List UInt8)×Bool×Int×(List (List UInt8))) (r:(Bool)) (h:Ic x0 c3 c4 r40=some r):Sem E0 ⟨none,false⟩ (pc Cm [1,1,1,0,1,0,0,1,1,0,0,1,1,1,1,1,0,1,0,1,1,1,1,1,1,0,1]) ⟨Fr 98 [(3,hd 0 (r40.1.map AA.enc)),(4,.st c3),(6,.pt 1 0 0),(7,.pt 2 0 0),(8,hd 3 (r40.2.2.2.2.2.2.2.2.2.2.map cdS.enc)),(13,.sl 5 (((x0.take (mnI (x0.length:Int) 8).toNat).drop (0:Int).toNat).map (cdA (csC (cdK .u8) (csC (cdK .u8) (csC (cdK .u8) (csC cdB (csE cdB))))) (fun _=>rfl)).enc)),(14,.v (.int .i64 (((x0.take (mnI (x0.length:Int) 8).toNat).drop (0:Int).toNat).length:Int))),(15,.v (.int .i64 c4)),(53,.v (.int .u8 r40.2.2.2.2.2.2.1)),(77,.v (.bool (r40.2.2.2.2.2.2.1==6)))],[mk 5 60 (r40.1.map AA.enc),some ⟨5,107,[.ag [.v (.int .u8 r40.2.1),.v (.int .u8 r40.2.2.1),.v (.int .u8 r40.2.2.2.1),.v (.bool r40.2.2.2.2.1),.v (.bool r40.2.2.2.2.2.1)]],false⟩,some ⟨5,60,[.ag [.v (.int .u8 r40.2.2.2.2.2.2.1),.st r40.2.2.2.2.2.2.2.1,.v (.bool r40.2.2.2.2.2.2.2.2.1),.e0,.v (.int .i64 r40.2.2.2.2.2.2.2.2.2.1)]],false⟩,mk 1 9 (r40.2.2.2.2.2.2.2.2.2.2.map cdS.enc)]⟩ (fun e s=>e = .normal/\Wk E0 s ⟨Fr 98 [(3,hd 0 (r40.1.map AA.enc)),(4,.st c3),(6,.pt 1 0 0),(7,.pt 2 0 0),(8,hd 3 (r40.2.2.2.2.2.2.2.2.2.2.map cdS.enc)),(13,.sl 5 (((x0.take (mnI (x0.length:Int) 8).toNat).drop (0:Int).toNat).map (cdA (csC (cdK .u8) (csC (cdK .u8) (csC (cdK .u8) (csC cdB (csE cdB))))) (fun _=>rfl)).enc)),(14,.v (.int .i64 (((x0.take (mnI (x0.length:Int) 8).toNat).drop (0:Int).toNat).length:Int))),(15,.v (.int .i64 c4)),(53,.v (.int .u8 r40.2.2.2.2.2.2.1)),(77,.v (.bool r))],[mk 5 60 (r40.1.map AA.enc),some ⟨5,107,[.ag [.v (.int .u8 r40.2.1),.v (.int .u8 r40.2.2.1),.v (.int .u8 r40.2.2.2.1),.v (.bool r40.2.2.2.2.1),.v (.bool r40.2.2.2.2.2.1)]],false⟩,some ⟨5,60,[.ag [.v (.int .u8 r40.2.2.2.2.2.2.1),.st r40.2.2.2.2.2.2.2.1,.v (.bool r40.2.2.2.2.2.2.2.2.1),.e0,.v (.int .i64 r40.2.2.2.2.2.2.2.2.2.1)]],false⟩,mk 1 9 (r40.2.2.2.2.2.2.2.2.2.2.map cdS.enc)]⟩):=by
 unfold Ic at h;refine AM (b:=(r40.2.2.2.2.2.2.1==6)) kr (fun hb1720=>?_) (fun hb1720=>?_)
 ·rw [if_pos hb1720] at h
  refine AQ ?_;have hq:=OI h; subst hq;exact ⟨rfl,(AY [0,1,2,3] ⟨⟨_,rfl,Cq⟩,⟨_,rfl,Cu⟩,⟨_,rfl,Cu⟩,⟨_,rfl,Cq⟩,trivial⟩ ⟨Cr (b':=0) kr kr,lv,lv,lv,Cr (b':=3) kr kr,lv,lv,lv,lv,lv,trivial⟩)⟩
 ·rw [CL hb1720] at h
  refine Cy AC [(3,hd 0 (r40.1.map AA.enc)),(4,.st c3),(6,.pt 1 0 0),(7,.pt 2 0 0),(8,hd 3 (r40.2.2.2.2.2.2.2.2.2.2.map cdS.enc)),(13,.sl 5 (((x0.take (mnI (x0.length:Int) 8).toNat).drop (0:Int).toNat).map (cdA (csC (cdK .u8) (csC (cdK .u8) (csC (cdK .u8) (csC cdB (csE cdB))))) (fun _=>rfl)).enc)),(14,.v (.int .i64 (((x0.take (mnI (x0.length:Int) 8).toNat).drop (0:Int).toNat).length:Int))),(15,.v (.int .i64 c4)),(53,.v (.int .u8 r40.2.2.2.2.2.2.1)),(77,.v (.bool (r40.2.2.2.2.2.2.1==7)))] [mk 5 60 (r40.1.map AA.enc),some ⟨5,107,[.ag [.v (.int .u8 r40.2.1),.v (.int .u8 r40.2.2.1),.v (.int .u8 r40.2.2.2.1),.v (.bool r40.2.2.2.2.1),.v (.bool r40.2.2.2.2.2.1)]],false⟩,some ⟨5,60,[.ag [.v (.int .u8 r40.2.2.2.2.2.2.1),.st r40.2.2.2.2.2.2.2.1,.v (.bool r40.2.2.2.2.2.2.2.2.1),.e0,.v (.int .i64 r40.2.2.2.2.2.2.2.2.2.1)]],false⟩,mk 1 9 (r40.2.2.2.2.2.2.2.2.2.2.map cdS.enc)] ?_;have hq:=OI h; subst hq;exact ⟨rfl,(AY [0,1,2,3] ⟨⟨_,rfl,Cq⟩,⟨_,rfl,Cu⟩,⟨_,rfl,Cu⟩,⟨_,rfl,Cq⟩,trivial⟩ ⟨Cr (b':=0) kr kr,lv,lv,lv,Cr (b':=3) kr kr,lv,lv,lv,lv,lv,trivial⟩)⟩
theorem L3 (x0:(List (Int×Int×Int×Bool×Bool))) (c3:(List UInt8)) (c4:Int) (r40:(List AE)×Int×Int×Int×Bool×Bool×Int×(List UInt8)×Bool×Int×(List (List UInt8))) (r:((List AE)×Int×(List UInt8)×Bool×Int)) (h:Ie x0 c3 c4 r40=some r):Sem E0 ⟨none,false⟩ (pc Cm [1,1,1,0,1,0,0,1,1,0,0,1,1,1,1,1,0,1,0,1,1,1,1,1,1,1,1,1]) ⟨Fr 98 [(3,hd 0 (r40.1.map AA.enc)),(4,.st c3),(6,.pt 1 0 0),(7,.pt 2 0 0),(13,.sl 5 (((x0.take (mnI (x0.length:Int) 8).toNat).drop (0:Int).toNat).map (cdA (csC (cdK .u8) (csC (cdK .u8) (csC (cdK .u8) (csC cdB (csE cdB))))) (fun _=>rfl)).enc)),(14,.v (.int .i64 (((x0.take (mnI (x0.length:Int) 8).toNat).drop (0:Int).toNat).length:Int))),(15,.v (.int .i64 c4)),(85,.v (.bool (r40.2.2.2.2.2.2.1==10)))],[mk 5 60 (r40.1.map AA.enc),some ⟨5,107,[.ag [.v (.int .u8 r40.2.1),.v (.int .u8 r40.2.2.1),.v (.int .u8 r40.2.2.2.1),.v (.bool r40.2.2.2.2.1),.v (.bool r40.2.2.2.2.2.1)]],false⟩,some ⟨5,60,[.ag [.v (.int .u8 r40.2.2.2.2.2.2.1),.st r40.2.2.2.2.2.2.2.1,.v (.bool r40.2.2.2.2.2.2.2.2.1),.e0,.v (.int .i64 r40.2.2.2.2.2.2.2.2.2.1)]],false⟩]⟩ (fun e s=>e = .normal/\Wk E0 s ⟨Fr 98 [(3,hd 0 (r.1.map AA.enc)),(4,.st c3),(7,.pt 1 0 0),(13,.sl 5 (((x0.take (mnI (x0.length:Int) 8).toNat).drop (0:Int).toNat).map (cdA (csC (cdK .u8) (csC (cdK .u8) (csC (cdK .u8) (csC cdB (csE cdB))))) (fun _=>rfl)).enc)),(14,.v (.int .i64 (((x0.take (mnI (x0.length:Int) 8).toNat).drop (0:Int).toNat).length:Int))),(15,.v (.int .i64 c4))],[mk 5 60 (r.1.map AA.enc),some ⟨5,60,[.ag [.v (.int .u8 r.2.1),.st r.2.2.1,.v (.bool r.2.2.2.1),.e0,.v (.int .i64 r.2.2.2.2)]],false⟩]⟩):=by
 unfold Ie at h;refine AM (b:=(r40.2.2.2.2.2.2.1==10)) kr (fun hb2050=>?_) (fun hb2050=>?_)
 ·rw [if_pos hb2050] at h
  let p1:Option Blk:=some ⟨5,60,[.ag [.v (.int .u8 r40.2.2.2.2.2.2.1),.st r40.2.2.2.2.2.2.2.1,.v (.bool r40.2.2.2.2.2.2.2.2.1),.e0,.v (.int .i64 (wr .i64 (r40.2.2.1.tmod 64)))]],false⟩
  let p2:Nat×AV:=(14,.v (.int .i64 (((x0.take (mnI (x0.length:Int) 8).toNat).drop (0:Int).toNat).length:Int)))
  let p3:Nat×AV:=(13,.sl 5 (((x0.take (mnI (x0.length:Int) 8).toNat).drop (0:Int).toNat).map (cdA (csC (cdK .u8) (csC (cdK .u8) (csC (cdK .u8) (csC cdB (csE cdB))))) (fun _=>rfl)).enc))
  let p4:Nat×AV:=(3,hd 0 (r40.1.map AA.enc))
  refine AI (s1:=⟨Fr 98 [p4,(4,.st c3),(7,.pt 1 0 0),p3,p2,(15,.v (.int .i64 c4))],[mk 5 60 (r40.1.map AA.enc),p1]⟩) ?_ ?_
  ·refine AD (n:=98) AC 6 [p4,(4,.st c3),(7,.pt 2 0 0),p3,p2,(15,.v (.int .i64 c4))] [mk 5 60 (r40.1.map AA.enc),some ⟨5,107,[.ag [.v (.int .u8 r40.2.1),.v (.int .u8 r40.2.2.1),.v (.int .u8 r40.2.2.2.1),.v (.bool r40.2.2.2.2.1),.v (.bool r40.2.2.2.2.2.1)]],false⟩,p1] kr ?_
   exact AL rfl (AY [0,2] ⟨⟨_,rfl,Cq⟩,⟨_,rfl,Cu⟩,trivial⟩ ⟨Cr (b':=0) kr kr,lv,lv,lv,lv,lv,trivial⟩)
  have hq:=OI h; subst hq;exact ⟨rfl,(AY [0,1] ⟨⟨_,rfl,Cq⟩,⟨_,rfl,Cu⟩,trivial⟩ ⟨Cr (b':=0) kr kr,lv,lv,lv,lv,lv,trivial⟩)⟩
 ·rw [CL hb2050] at h
  refine AQ ?_;have hq:=OI h; subst hq;exact ⟨rfl,(AY [0,2] ⟨⟨_,rfl,Cq⟩,⟨_,rfl,Cu⟩,trivial⟩ ⟨Cr (b':=0) kr kr,lv,lv,lv,lv,lv,trivial⟩)⟩
theorem L0 (x0:(List (Int×Int×Int×Bool×Bool))) (c3:(List UInt8)) (c4:Int) (r40:(List AE)×Int×Int×Int×Bool×Bool×Int×(List UInt8)×Bool×Int×(List (List UInt8))) (r1722:Bool) (r:((List AE)×Int×(List UInt8)×Bool×(List (List UInt8))×Int)) (h:Id x0 c3 c4 r40 r1722=some r):Sem E0 ⟨none,false⟩ (pc Cm [1,1,1,0,1,0,0,1,1,0,0,1,1,1,1,1,0,1,0,1,1,1,1,1,1,1]) ⟨Fr 98 [(3,hd 0 (r40.1.map AA.enc)),(4,.st c3),(6,.pt 1 0 0),(7,.pt 2 0 0),(8,hd 3 (r40.2.2.2.2.2.2.2.2.2.2.map cdS.enc)),(13,.sl 5 (((x0.take (mnI (x0.length:Int) 8).toNat).drop (0:Int).toNat).map (cdA (csC (cdK .u8) (csC (cdK .u8) (csC (cdK .u8) (csC cdB (csE cdB))))) (fun _=>rfl)).enc)),(14,.v (.int .i64 (((x0.take (mnI (x0.length:Int) 8).toNat).drop (0:Int).toNat).length:Int))),(15,.v (.int .i64 c4)),(53,.v (.int .u8 r40.2.2.2.2.2.2.1)),(77,.v (.bool r1722))],[mk 5 60 (r40.1.map AA.enc),some ⟨5,107,[.ag [.v (.int .u8 r40.2.1),.v (.int .u8 r40.2.2.1),.v (.int .u8 r40.2.2.2.1),.v (.bool r40.2.2.2.2.1),.v (.bool r40.2.2.2.2.2.1)]],false⟩,some ⟨5,60,[.ag [.v (.int .u8 r40.2.2.2.2.2.2.1),.st r40.2.2.2.2.2.2.2.1,.v (.bool r40.2.2.2.2.2.2.2.2.1),.e0,.v (.int .i64 r40.2.2.2.2.2.2.2.2.2.1)]],false⟩,mk 1 9 (r40.2.2.2.2.2.2.2.2.2.2.map cdS.enc)]⟩ (fun e s=>e = .normal/\Wk E0 s ⟨Fr 98 [(3,hd 0 (r.1.map AA.enc)),(4,.st c3),(7,.pt 1 0 0),(13,.sl 5 (((x0.take (mnI (x0.length:Int) 8).toNat).drop (0:Int).toNat).map (cdA (csC (cdK .u8) (csC (cdK .u8) (csC (cdK .u8) (csC cdB (csE cdB))))) (fun _=>rfl)).enc)),(14,.v (.int .i64 (((x0.take (mnI (x0.length:Int) 8).toNat).drop (0:Int).toNat).length:Int))),(15,.v (.int .i64 c4))],[mk 5 60 (r.1.map AA.enc),some ⟨5,60,[AA.enc r.2],false⟩]⟩):=by
 unfold Id at h;refine AM (b:=r1722) kr (fun hb1723=>?_) (fun hb1723=>?_)
 ·rw [if_pos hb1723] at h
  let p1:Option Blk:=some ⟨5,60,[.ag [.v (.int .u8 r40.2.2.2.2.2.2.1),.st r40.2.2.2.2.2.2.2.1,.v (.bool r40.2.2.2.2.1),.sl 1 (r40.2.2.2.2.2.2.2.2.2.2.map cdS.enc),.v (.int .i64 r40.2.2.2.2.2.2.2.2.2.1)]],false⟩
  let p2:Option Blk:=mk 5 60 (r40.1.map AA.enc)
  let p3:Nat×AV:=(15,.v (.int .i64 c4))
  let p4:Nat×AV:=(14,.v (.int .i64 (((x0.take (mnI (x0.length:Int) 8).toNat).drop (0:Int).toNat).length:Int)))
  let p5:Nat×AV:=(13,.sl 5 (((x0.take (mnI (x0.length:Int) 8).toNat).drop (0:Int).toNat).map (cdA (csC (cdK .u8) (csC (cdK .u8) (csC (cdK .u8) (csC cdB (csE cdB))))) (fun _=>rfl)).enc))
  let p6:Nat×AV:=(3,hd 0 (r40.1.map AA.enc))
  refine RA (s1:=⟨Fr 98 [p6,(4,.st c3),(7,.pt 1 0 0),p5,p4,p3],[p2,p1]⟩) AC 7 kr ?_ ?_
  ·refine RunA.q 0 kr rfl ?_
   let p7:Option Blk:=mk 1 9 (r40.2.2.2.2.2.2.2.2.2.2.map cdS.enc)
   let p8:Option Blk:=some ⟨5,60,[.ag [.v (.int .u8 r40.2.2.2.2.2.2.1),.st r40.2.2.2.2.2.2.2.1,.v (.bool r40.2.2.2.2.2.2.2.2.1),.e0,.v (.int .i64 r40.2.2.2.2.2.2.2.2.2.1)]],false⟩
   let p9:Option Blk:=some ⟨5,107,[.ag [.v (.int .u8 r40.2.1),.v (.int .u8 r40.2.2.1),.v (.int .u8 r40.2.2.2.1),.v (.bool r40.2.2.2.2.1),.v (.bool r40.2.2.2.2.2.1)]],false⟩
   let p10:Nat×AV:=(80,hd 3 (r40.2.2.2.2.2.2.2.2.2.2.map cdS.enc))
   let p11:Nat×AV:=(7,.pt 2 0 0)
   refine RunS.only (n:=98) AC [p6,(4,.st c3),(6,.pt 1 0 0),p11,p5,p4,p3,p10] [p2,p9,p8,p7] kr ?_;refine RunA.q 1 kr rfl ?_
   let p12:Nat×AV:=(81,.pt 1 0 3)
   refine RunS.only (n:=98) AC [p6,(4,.st c3),p11,p5,p4,p3,p10,p12] [p2,p9,p8,p7] kr ?_;refine RunA.q 3 kr rfl ?_
   let p13:Nat×AV:=(83,.pt 2 0 3)
   refine RunS.only (n:=98) AC [p6,(4,.st c3),p11,p5,p4,p3,p10,p12,p13] [p2,p9,p8,p7] kr ?_;refine Mt 2 4 kr rfl rfl ?_ ?_
   ·let p14:Nat×AV:=(82,.v (.bool r40.2.2.2.2.1))
    refine RunS.only (n:=98) AC [p6,(4,.st c3),p11,p5,p4,p3,p10,p14,p13] [p2,p9,p8,p7] kr ?_;refine EG 4 kr rfl ?_;refine Mv (s1:=⟨Fr 98 [p6,(4,.st c3),p11,p5,p4,p3,(80,.sl 1 (r40.2.2.2.2.2.2.2.2.2.2.map cdS.enc)),p14,p13],[p2,p9,p8,none]⟩) (Fs 3 (.inl kr) ⟨.inr (.inl rfl),.inr (.inr ⟨_,_,_,_,rfl,rfl,⟨.inl rfl,trivial⟩⟩),.inr (.inr ⟨_,_,_,_,rfl,rfl,⟨.inl rfl,trivial⟩⟩),.inl rfl,trivial⟩ ⟨⟨hd 0 (r40.1.map AA.enc),kr,.inl rfl⟩,⟨.st c3,kr,.inl rfl⟩,⟨.pt 2 0 0,kr,.inl rfl⟩,⟨.sl 5 (((x0.take (mnI (x0.length:Int) 8).toNat).drop (0:Int).toNat).map (cdA (csC (cdK .u8) (csC (cdK .u8) (csC (cdK .u8) (csC cdB (csE cdB))))) (fun _=>rfl)).enc),kr,.inl rfl⟩,⟨.v (.int .i64 (((x0.take (mnI (x0.length:Int) 8).toNat).drop (0:Int).toNat).length:Int)),kr,.inl rfl⟩,⟨.v (.int .i64 c4),kr,.inl rfl⟩,⟨hd 3 (r40.2.2.2.2.2.2.2.2.2.2.map cdS.enc),kr,MV (t:=9) kr II⟩,⟨.v (.bool r40.2.2.2.2.1),kr,.inl rfl⟩,⟨.pt 2 0 3,kr,.inl rfl⟩,trivial⟩) ?_
    let p15:Option Blk:=some ⟨5,60,[.ag [.v (.int .u8 r40.2.2.2.2.2.2.1),.st r40.2.2.2.2.2.2.2.1,.v (.bool r40.2.2.2.2.2.2.2.2.1),.sl 1 (r40.2.2.2.2.2.2.2.2.2.2.map cdS.enc),.v (.int .i64 r40.2.2.2.2.2.2.2.2.2.1)]],false⟩
    refine RunS.only (n:=98) AC [p6,(4,.st c3),p11,p5,p4,p3,p14] [p2,p9,p15,none] kr ?_;refine RunA.q 5 kr rfl ?_;refine RunS.only (n:=98) AC [p6,(4,.st c3),p11,p5,p4,p3,p14,(84,.pt 2 0 2)] [p2,p9,p15,none] kr ?_;refine EG 6 kr rfl ?_;refine RunS.only (n:=98) AC [p6,(4,.st c3),p11,p5,p4,p3] [p2,p9,p1,none] kr ?_;exact RunA.done kr (AY [0,2] ⟨⟨_,rfl,Cq⟩,⟨_,rfl,Cu⟩,trivial⟩ ⟨Cr (b':=0) kr kr,lv,lv,lv,lv,lv,trivial⟩)
   ·refine Mv (s1:=⟨Fr 98 [p6,(4,.st c3),p11,p5,p4,p3,(80,.sl 1 (r40.2.2.2.2.2.2.2.2.2.2.map cdS.enc)),p12,p13],[p2,p9,p8,none]⟩) (Fs 3 (.inl kr) ⟨.inr (.inl rfl),.inr (.inr ⟨_,_,_,_,rfl,rfl,⟨.inl rfl,trivial⟩⟩),.inr (.inr ⟨_,_,_,_,rfl,rfl,⟨.inl rfl,trivial⟩⟩),.inl rfl,trivial⟩ ⟨⟨hd 0 (r40.1.map AA.enc),kr,.inl rfl⟩,⟨.st c3,kr,.inl rfl⟩,⟨.pt 2 0 0,kr,.inl rfl⟩,⟨.sl 5 (((x0.take (mnI (x0.length:Int) 8).toNat).drop (0:Int).toNat).map (cdA (csC (cdK .u8) (csC (cdK .u8) (csC (cdK .u8) (csC cdB (csE cdB))))) (fun _=>rfl)).enc),kr,.inl rfl⟩,⟨.v (.int .i64 (((x0.take (mnI (x0.length:Int) 8).toNat).drop (0:Int).toNat).length:Int)),kr,.inl rfl⟩,⟨.v (.int .i64 c4),kr,.inl rfl⟩,⟨hd 3 (r40.2.2.2.2.2.2.2.2.2.2.map cdS.enc),kr,MV (t:=9) kr II⟩,⟨.pt 1 0 3,kr,.inl rfl⟩,⟨.pt 2 0 3,kr,.inl rfl⟩,trivial⟩) ?_
    let p16:Option Blk:=some ⟨5,60,[.ag [.v (.int .u8 r40.2.2.2.2.2.2.1),.st r40.2.2.2.2.2.2.2.1,.v (.bool r40.2.2.2.2.2.2.2.2.1),.sl 1 (r40.2.2.2.2.2.2.2.2.2.2.map cdS.enc),.v (.int .i64 r40.2.2.2.2.2.2.2.2.2.1)]],false⟩
    refine RunS.only (n:=98) AC [p6,(4,.st c3),p11,p5,p4,p3,p12] [p2,p9,p16,none] kr ?_;refine EG 2 kr rfl ?_;refine RunS.only (n:=98) AC [p6,(4,.st c3),p11,p5,p4,p3,(82,.v (.bool r40.2.2.2.2.1))] [p2,p9,p16,none] kr ?_;refine RunA.q 5 kr rfl ?_;refine RunS.only (n:=98) AC [p6,(4,.st c3),p11,p5,p4,p3,(82,.v (.bool r40.2.2.2.2.1)),(84,.pt 2 0 2)] [p2,p9,p16,none] kr ?_;refine EG 6 kr rfl ?_;refine RunS.only (n:=98) AC [p6,(4,.st c3),p11,p5,p4,p3] [p2,p9,p1,none] kr ?_;exact RunA.done kr (AY [0,2] ⟨⟨_,rfl,Cq⟩,⟨_,rfl,Cu⟩,trivial⟩ ⟨Cr (b':=0) kr kr,lv,lv,lv,lv,lv,trivial⟩)
  have hq:=OI h; subst hq;exact ⟨rfl,(AY [0,1] ⟨⟨_,rfl,Cq⟩,⟨_,rfl,Cu⟩,trivial⟩ ⟨Cr (b':=0) kr kr,lv,lv,lv,lv,lv,trivial⟩)⟩
 ·rw [CL hb1723] at h
  refine AH ?_
  let p17:Option Blk:=some ⟨5,60,[.ag [.v (.int .u8 r40.2.2.2.2.2.2.1),.st r40.2.2.2.2.2.2.2.1,.v (.bool r40.2.2.2.2.2.2.2.2.1),.e0,.v (.int .i64 r40.2.2.2.2.2.2.2.2.2.1)]],false⟩
  let p18:Option Blk:=some ⟨5,107,[.ag [.v (.int .u8 r40.2.1),.v (.int .u8 r40.2.2.1),.v (.int .u8 r40.2.2.2.1),.v (.bool r40.2.2.2.2.1),.v (.bool r40.2.2.2.2.2.1)]],false⟩
  let p19:Nat×AV:=(85,.v (.bool (r40.2.2.2.2.2.2.1==10)))
  let p20:Nat×AV:=(15,.v (.int .i64 c4))
  let p21:Nat×AV:=(14,.v (.int .i64 (((x0.take (mnI (x0.length:Int) 8).toNat).drop (0:Int).toNat).length:Int)))
  let p22:Nat×AV:=(13,.sl 5 (((x0.take (mnI (x0.length:Int) 8).toNat).drop (0:Int).toNat).map (cdA (csC (cdK .u8) (csC (cdK .u8) (csC (cdK .u8) (csC cdB (csE cdB))))) (fun _=>rfl)).enc))
  let p23:Nat×AV:=(3,hd 0 (r40.1.map AA.enc))
  refine AI (s1:=⟨Fr 98 [p23,(4,.st c3),(6,.pt 1 0 0),(7,.pt 2 0 0),p22,p21,p20,p19],[mk 5 60 (r40.1.map AA.enc),p18,p17]⟩) ?_ ?_
  ·refine AD (n:=98) AC 2 [p23,(4,.st c3),(6,.pt 1 0 0),(7,.pt 2 0 0),p22,p21,p20,p19] [mk 5 60 (r40.1.map AA.enc),p18,p17,mk 1 9 (r40.2.2.2.2.2.2.2.2.2.2.map cdS.enc)] kr ?_
   exact AL rfl (AY [0,1,2] ⟨⟨_,rfl,Cq⟩,⟨_,rfl,Cu⟩,⟨_,rfl,Cu⟩,trivial⟩ ⟨Cr (b':=0) kr kr,lv,lv,lv,lv,lv,lv,lv,trivial⟩)
  obtain ⟨r2056,hr2056,h⟩:=OB h;refine Cl (L3 x0 c3 c4 r40 _ hr2056) ?_;have hq:=OI h; subst hq
  let p24:Option Blk:=mk 5 60 (r2056.1.map AA.enc)
  let p25:Nat×AV:=(3,hd 0 (r2056.1.map AA.enc))
  let p26:Option Blk:=some ⟨5,60,[.ag [.v (.int .u8 r2056.2.1),.st r2056.2.2.1,.v (.bool r2056.2.2.2.1),.e0,.v (.int .i64 r2056.2.2.2.2)]],false⟩
  exact ⟨rfl,(Wk.trans (s1:=⟨Fr 98 [p25,(4,.st c3),(7,.pt 1 0 0),p22,p21,p20],[p24,p26]⟩) AN (Wk.trans (s1:=⟨Fr 98 [p25,(4,.st c3),(7,.pt 1 0 0),p22,p21,p20],[p24,p26,none]⟩) Wk.none (Wk.trans (s1:=⟨Fr 98 [p25,(4,.st c3),(7,.pt 1 0 0),p22,p21,p20],[p24,some ⟨5,60,[.ag [.v (.int .u8 r2056.2.1),.st r2056.2.2.1,.v (.bool r2056.2.2.2.1),.sl 1 ([].map cdS.enc),.v (.int .i64 r2056.2.2.2.2)]],false⟩,none]⟩) (Mg 2 (.inr kr) ⟨.inr (.inl rfl),.inr (.inr ⟨_,_,_,_,rfl,rfl,⟨(.inr ⟨_,_,rfl,rfl,⟨.inl rfl,.inl rfl,.inl rfl,Pw,.inl rfl,trivial⟩⟩),trivial⟩⟩),.inl rfl,trivial⟩ ⟨⟨hd 0 (r2056.1.map AA.enc),kr,(.inl (.inl rfl))⟩,⟨.st c3,kr,(.inl (.inl rfl))⟩,⟨.pt 1 0 0,kr,(.inl (.inl rfl))⟩,⟨.sl 5 (((x0.take (mnI (x0.length:Int) 8).toNat).drop (0:Int).toNat).map (cdA (csC (cdK .u8) (csC (cdK .u8) (csC (cdK .u8) (csC cdB (csE cdB))))) (fun _=>rfl)).enc),kr,(.inl (.inl rfl))⟩,⟨.v (.int .i64 (((x0.take (mnI (x0.length:Int) 8).toNat).drop (0:Int).toNat).length:Int)),kr,(.inl (.inl rfl))⟩,⟨.v (.int .i64 c4),kr,(.inl (.inl rfl))⟩,trivial⟩) (AY [0,1] ⟨⟨_,rfl,Cq⟩,⟨_,rfl,Cu⟩,trivial⟩ ⟨Cr (b':=0) kr kr,lv,lv,lv,lv,lv,trivial⟩))))⟩
theorem Ly (x0:(List (Int×Int×Int×Bool×Bool))) (c3:(List UInt8)) (c4:Int) (r40:(List AE)×Int×Int×Int×Bool×Bool×Int×(List UInt8)×Bool×Int×(List (List UInt8))) (r:((List AE)×Int×(List UInt8)×Bool×(List (List UInt8))×Int)) (h:Ib x0 c3 c4 r40=some r):Sem E0 ⟨none,false⟩ (pc Cm [1,1,1,0,1,0,0,1,1,0,0,1,1,1,1,1,0,1,0,1,1,1,1,1]) ⟨Fr 98 [(3,hd 0 (r40.1.map AA.enc)),(4,.st c3),(6,.pt 1 0 0),(7,.pt 2 0 0),(8,hd 3 (r40.2.2.2.2.2.2.2.2.2.2.map cdS.enc)),(13,.sl 5 (((x0.take (mnI (x0.length:Int) 8).toNat).drop (0:Int).toNat).map (cdA (csC (cdK .u8) (csC (cdK .u8) (csC (cdK .u8) (csC cdB (csE cdB))))) (fun _=>rfl)).enc)),(14,.v (.int .i64 (((x0.take (mnI (x0.length:Int) 8).toNat).drop (0:Int).toNat).length:Int))),(15,.v (.int .i64 c4)),(53,.v (.int .u8 r40.2.2.2.2.2.2.1)),(72,.v (.bool (r40.2.2.2.2.2.2.1==5)))],[mk 5 60 (r40.1.map AA.enc),some ⟨5,107,[.ag [.v (.int .u8 r40.2.1),.v (.int .u8 r40.2.2.1),.v (.int .u8 r40.2.2.2.1),.v (.bool r40.2.2.2.2.1),.v (.bool r40.2.2.2.2.2.1)]],false⟩,some ⟨5,60,[.ag [.v (.int .u8 r40.2.2.2.2.2.2.1),.st r40.2.2.2.2.2.2.2.1,.v (.bool r40.2.2.2.2.2.2.2.2.1),.e0,.v (.int .i64 r40.2.2.2.2.2.2.2.2.2.1)]],false⟩,mk 1 9 (r40.2.2.2.2.2.2.2.2.2.2.map cdS.enc)]⟩ (fun e s=>e = .normal/\Wk E0 s ⟨Fr 98 [(3,hd 0 (r.1.map AA.enc)),(4,.st c3),(7,.pt 1 0 0),(13,.sl 5 (((x0.take (mnI (x0.length:Int) 8).toNat).drop (0:Int).toNat).map (cdA (csC (cdK .u8) (csC (cdK .u8) (csC (cdK .u8) (csC cdB (csE cdB))))) (fun _=>rfl)).enc)),(14,.v (.int .i64 (((x0.take (mnI (x0.length:Int) 8).toNat).drop (0:Int).toNat).length:Int))),(15,.v (.int .i64 c4))],[mk 5 60 (r.1.map AA.enc),some ⟨5,60,[AA.enc r.2],false⟩]⟩):=by
 unfold Ib at h;refine AM (b:=(r40.2.2.2.2.2.2.1==5)) kr (fun hb1713=>?_) (fun hb1713=>?_)
 ·rw [if_pos hb1713] at h
  let p1:Option Blk:=some ⟨5,60,[.ag [.v (.int .u8 r40.2.2.2.2.2.2.1),.st r40.2.2.2.2.2.2.2.1,.v (.bool r40.2.2.2.2.1),.e0,.v (.int .i64 r40.2.2.2.2.2.2.2.2.2.1)]],false⟩
  let p2:Option Blk:=mk 5 60 (r40.1.map AA.enc)
  let p3:Nat×AV:=(15,.v (.int .i64 c4))
  let p4:Nat×AV:=(14,.v (.int .i64 (((x0.take (mnI (x0.length:Int) 8).toNat).drop (0:Int).toNat).length:Int)))
  let p5:Nat×AV:=(13,.sl 5 (((x0.take (mnI (x0.length:Int) 8).toNat).drop (0:Int).toNat).map (cdA (csC (cdK .u8) (csC (cdK .u8) (csC (cdK .u8) (csC cdB (csE cdB))))) (fun _=>rfl)).enc))
  let p6:Nat×AV:=(7,.pt 1 0 0)
  let p7:Nat×AV:=(3,hd 0 (r40.1.map AA.enc))
  refine AI (s1:=⟨Fr 98 [p7,(4,.st c3),p6,p5,p4,p3],[p2,p1]⟩) ?_ ?_
  ·refine AD (n:=98) AC 4 [p7,(4,.st c3),(7,.pt 2 0 0),p5,p4,p3] [p2,some ⟨5,107,[.ag [.v (.int .u8 r40.2.1),.v (.int .u8 r40.2.2.1),.v (.int .u8 r40.2.2.2.1),.v (.bool r40.2.2.2.2.1),.v (.bool r40.2.2.2.2.2.1)]],false⟩,p1,mk 1 9 (r40.2.2.2.2.2.2.2.2.2.2.map cdS.enc)] kr ?_
   exact AL rfl (AY [0,2] ⟨⟨_,rfl,Cq⟩,⟨_,rfl,Cu⟩,trivial⟩ ⟨Cr (b':=0) kr kr,lv,lv,lv,lv,lv,trivial⟩)
  have hq:=OI h; subst hq;exact ⟨rfl,(Wk.trans (s1:=⟨Fr 98 [p7,(4,.st c3),p6,p5,p4,p3],[p2,p1]⟩) AN (Wk.trans (s1:=⟨Fr 98 [p7,(4,.st c3),p6,p5,p4,p3],[p2,p1,none]⟩) Wk.none (Wk.trans (s1:=⟨Fr 98 [p7,(4,.st c3),p6,p5,p4,p3],[p2,some ⟨5,60,[.ag [.v (.int .u8 r40.2.2.2.2.2.2.1),.st r40.2.2.2.2.2.2.2.1,.v (.bool r40.2.2.2.2.1),.sl 1 ([].map cdS.enc),.v (.int .i64 r40.2.2.2.2.2.2.2.2.2.1)]],false⟩,none]⟩) (Mg 2 (.inr kr) ⟨.inr (.inl rfl),.inr (.inr ⟨_,_,_,_,rfl,rfl,⟨(.inr ⟨_,_,rfl,rfl,⟨.inl rfl,.inl rfl,.inl rfl,Pw,.inl rfl,trivial⟩⟩),trivial⟩⟩),.inl rfl,trivial⟩ ⟨⟨hd 0 (r40.1.map AA.enc),kr,(.inl (.inl rfl))⟩,⟨.st c3,kr,(.inl (.inl rfl))⟩,⟨.pt 1 0 0,kr,(.inl (.inl rfl))⟩,⟨.sl 5 (((x0.take (mnI (x0.length:Int) 8).toNat).drop (0:Int).toNat).map (cdA (csC (cdK .u8) (csC (cdK .u8) (csC (cdK .u8) (csC cdB (csE cdB))))) (fun _=>rfl)).enc),kr,(.inl (.inl rfl))⟩,⟨.v (.int .i64 (((x0.take (mnI (x0.length:Int) 8).toNat).drop (0:Int).toNat).length:Int)),kr,(.inl (.inl rfl))⟩,⟨.v (.int .i64 c4),kr,(.inl (.inl rfl))⟩,trivial⟩) (AY [0,1] ⟨⟨_,rfl,Cq⟩,⟨_,rfl,Cu⟩,trivial⟩ ⟨Cr (b':=0) kr kr,lv,lv,lv,lv,lv,trivial⟩))))⟩
 ·rw [CL hb1713] at h
  refine AH ?_;refine AJ AC [(3,hd 0 (r40.1.map AA.enc)),(4,.st c3),(6,.pt 1 0 0),(7,.pt 2 0 0),(8,hd 3 (r40.2.2.2.2.2.2.2.2.2.2.map cdS.enc)),(13,.sl 5 (((x0.take (mnI (x0.length:Int) 8).toNat).drop (0:Int).toNat).map (cdA (csC (cdK .u8) (csC (cdK .u8) (csC (cdK .u8) (csC cdB (csE cdB))))) (fun _=>rfl)).enc)),(14,.v (.int .i64 (((x0.take (mnI (x0.length:Int) 8).toNat).drop (0:Int).toNat).length:Int))),(15,.v (.int .i64 c4)),(53,.v (.int .u8 r40.2.2.2.2.2.2.1)),(77,.v (.bool (r40.2.2.2.2.2.2.1==6)))] [mk 5 60 (r40.1.map AA.enc),some ⟨5,107,[.ag [.v (.int .u8 r40.2.1),.v (.int .u8 r40.2.2.1),.v (.int .u8 r40.2.2.2.1),.v (.bool r40.2.2.2.2.1),.v (.bool r40.2.2.2.2.2.1)]],false⟩,some ⟨5,60,[.ag [.v (.int .u8 r40.2.2.2.2.2.2.1),.st r40.2.2.2.2.2.2.2.1,.v (.bool r40.2.2.2.2.2.2.2.2.1),.e0,.v (.int .i64 r40.2.2.2.2.2.2.2.2.2.1)]],false⟩,mk 1 9 (r40.2.2.2.2.2.2.2.2.2.2.map cdS.enc)] ?_;obtain ⟨r1722,hr1722,h⟩:=OB h;refine Cl (Lz x0 c3 c4 r40 _ hr1722) ?_;obtain ⟨r2057,hr2057,h⟩:=OB h;refine Cl (L0 x0 c3 c4 r40 r1722 _ hr2057) ?_;have hq:=OI h; subst hq;exact ⟨rfl,(AY [0,1] ⟨⟨_,rfl,Cq⟩,⟨_,rfl,Cu⟩,trivial⟩ ⟨Cr (b':=0) kr kr,lv,lv,lv,lv,lv,trivial⟩)⟩
theorem Ma (x0:(List (Int×Int×Int×Bool×Bool))) (c3:(List UInt8)) (c4:Int) (r40:(List AE)×Int×Int×Int×Bool×Bool×Int×(List UInt8)×Bool×Int×(List (List UInt8))) (r:((List AE)×Int×(List UInt8)×Bool×(List (List UInt8))×Int)) (h:JE x0 c3 c4 r40=some r):Sem E0 ⟨none,false⟩ (pc Cm [1,1,1,0,1,0,0,1,1,0,0,1,1,1,1,1,0,1,0,1,1,1]) ⟨Fr 98 [(3,hd 0 (r40.1.map AA.enc)),(4,.st c3),(6,.pt 1 0 0),(7,.pt 2 0 0),(8,hd 3 (r40.2.2.2.2.2.2.2.2.2.2.map cdS.enc)),(13,.sl 5 (((x0.take (mnI (x0.length:Int) 8).toNat).drop (0:Int).toNat).map (cdA (csC (cdK .u8) (csC (cdK .u8) (csC (cdK .u8) (csC cdB (csE cdB))))) (fun _=>rfl)).enc)),(14,.v (.int .i64 (((x0.take (mnI (x0.length:Int) 8).toNat).drop (0:Int).toNat).length:Int))),(15,.v (.int .i64 c4)),(53,.v (.int .u8 r40.2.2.2.2.2.2.1)),(61,.v (.bool (r40.2.2.2.2.2.2.1==4)))],[mk 5 60 (r40.1.map AA.enc),some ⟨5,107,[.ag [.v (.int .u8 r40.2.1),.v (.int .u8 r40.2.2.1),.v (.int .u8 r40.2.2.2.1),.v (.bool r40.2.2.2.2.1),.v (.bool r40.2.2.2.2.2.1)]],false⟩,some ⟨5,60,[.ag [.v (.int .u8 r40.2.2.2.2.2.2.1),.st r40.2.2.2.2.2.2.2.1,.v (.bool r40.2.2.2.2.2.2.2.2.1),.e0,.v (.int .i64 r40.2.2.2.2.2.2.2.2.2.1)]],false⟩,mk 1 9 (r40.2.2.2.2.2.2.2.2.2.2.map cdS.enc)]⟩ (fun e s=>e = .normal/\Wk E0 s ⟨Fr 98 [(3,hd 0 (r.1.map AA.enc)),(4,.st c3),(7,.pt 1 0 0),(13,.sl 5 (((x0.take (mnI (x0.length:Int) 8).toNat).drop (0:Int).toNat).map (cdA (csC (cdK .u8) (csC (cdK .u8) (csC (cdK .u8) (csC cdB (csE cdB))))) (fun _=>rfl)).enc)),(14,.v (.int .i64 (((x0.take (mnI (x0.length:Int) 8).toNat).drop (0:Int).toNat).length:Int))),(15,.v (.int .i64 c4))],[mk 5 60 (r.1.map AA.enc),some ⟨5,60,[AA.enc r.2],false⟩]⟩):=by
 unfold JE at h;refine AM (b:=(r40.2.2.2.2.2.2.1==4)) kr (fun hb1226=>?_) (fun hb1226=>?_)
 ·rw [if_pos hb1226] at h
  let p1:Option Blk:=some ⟨5,60,[.ag [.v (.int .u8 r40.2.2.2.2.2.2.1),.st r40.2.2.2.2.2.2.2.1,.v (.bool r40.2.2.2.2.1),.e0,.v (.int .i64 (wr .i64 (1 + (wr .i64 (r40.2.2.1.tmod 2)))))]],false⟩
  let p2:Option Blk:=mk 5 60 (r40.1.map AA.enc)
  let p3:Nat×AV:=(15,.v (.int .i64 c4))
  let p4:Nat×AV:=(14,.v (.int .i64 (((x0.take (mnI (x0.length:Int) 8).toNat).drop (0:Int).toNat).length:Int)))
  let p5:Nat×AV:=(13,.sl 5 (((x0.take (mnI (x0.length:Int) 8).toNat).drop (0:Int).toNat).map (cdA (csC (cdK .u8) (csC (cdK .u8) (csC (cdK .u8) (csC cdB (csE cdB))))) (fun _=>rfl)).enc))
  let p6:Nat×AV:=(7,.pt 1 0 0)
  let p7:Nat×AV:=(3,hd 0 (r40.1.map AA.enc))
  refine RA (s1:=⟨Fr 98 [p7,(4,.st c3),p6,p5,p4,p3],[p2,p1]⟩) AC 11 kr ?_ ?_
  ·refine RunA.q 0 kr rfl ?_
   let p8:Option Blk:=mk 1 9 (r40.2.2.2.2.2.2.2.2.2.2.map cdS.enc)
   let p9:Option Blk:=some ⟨5,60,[.ag [.v (.int .u8 r40.2.2.2.2.2.2.1),.st r40.2.2.2.2.2.2.2.1,.v (.bool r40.2.2.2.2.2.2.2.2.1),.e0,.v (.int .i64 r40.2.2.2.2.2.2.2.2.2.1)]],false⟩
   let p10:Option Blk:=some ⟨5,107,[.ag [.v (.int .u8 r40.2.1),.v (.int .u8 r40.2.2.1),.v (.int .u8 r40.2.2.2.1),.v (.bool r40.2.2.2.2.1),.v (.bool r40.2.2.2.2.2.1)]],false⟩
   let p11:Nat×AV:=(7,.pt 2 0 0)
   refine RunS.only (n:=98) AC [p7,(4,.st c3),(6,.pt 1 0 0),p11,p5,p4,p3,(63,.pt 1 0 1)] [p2,p10,p9,p8] kr ?_;refine RunA.q 5 kr rfl ?_
   let p12:Nat×AV:=(68,.pt 1 0 3)
   refine RunS.only (n:=98) AC [p7,(4,.st c3),p11,p5,p4,p3,(63,.pt 1 0 1),p12] [p2,p10,p9,p8] kr ?_;refine Mt 1 6 kr rfl rfl ?_ ?_
   ·refine RunS.only (n:=98) AC [p7,(4,.st c3),p11,p5,p4,p3,(64,.v (.int .u8 r40.2.2.1)),p12] [p2,p10,p9,p8] kr ?_
    refine Mt 2 6 kr rfl rfl ?_ ?_
    ·refine RunS.only (n:=98) AC [p7,(4,.st c3),p11,p5,p4,p3,(65,.v (.int .u8 (r40.2.2.1.tmod 2))),p12] [p2,p10,p9,p8] kr ?_
     refine Mt 3 6 kr rfl rfl ?_ ?_
     ·refine RunS.only (n:=98) AC [p7,(4,.st c3),p11,p5,p4,p3,(66,.v (.int .i64 (wr .i64 (r40.2.2.1.tmod 2)))),p12] [p2,p10,p9,p8] kr ?_
      refine RunA.q 4 kr rfl ?_
      let p13:Nat×AV:=(67,.v (.int .i64 (wr .i64 (1 + (wr .i64 (r40.2.2.1.tmod 2))))))
      refine RunS.only (n:=98) AC [p7,(4,.st c3),p11,p5,p4,p3,p13,p12] [p2,p10,p9,p8] kr ?_;refine RunA.q 7 kr rfl ?_;refine RunS.only (n:=98) AC [p7,(4,.st c3),p11,p5,p4,p3,p13,p12,(70,.pt 2 0 4)] [p2,p10,p9,p8] kr ?_;refine Mt 6 8 kr rfl rfl ?_ ?_
      ·let p14:Nat×AV:=(69,.v (.bool r40.2.2.2.2.1))
       refine RunS.only (n:=98) AC [p7,(4,.st c3),p11,p5,p4,p3,p13,p14,(70,.pt 2 0 4)] [p2,p10,p9,p8] kr ?_;refine EG 8 kr rfl ?_
       let p15:Option Blk:=some ⟨5,60,[.ag [.v (.int .u8 r40.2.2.2.2.2.2.1),.st r40.2.2.2.2.2.2.2.1,.v (.bool r40.2.2.2.2.2.2.2.2.1),.e0,.v (.int .i64 (wr .i64 (1 + (wr .i64 (r40.2.2.1.tmod 2)))))]],false⟩
       refine RunS.only (n:=98) AC [p7,(4,.st c3),p11,p5,p4,p3,p14] [p2,p10,p15,p8] kr ?_;refine RunA.q 9 kr rfl ?_;refine RunS.only (n:=98) AC [p7,(4,.st c3),p11,p5,p4,p3,p14,(71,.pt 2 0 2)] [p2,p10,p15,p8] kr ?_;refine EG 10 kr rfl ?_;refine RunS.only (n:=98) AC [p7,(4,.st c3),p11,p5,p4,p3] [p2,p10,p1,p8] kr ?_;exact RunA.done kr (AY [0,2] ⟨⟨_,rfl,Cq⟩,⟨_,rfl,Cu⟩,trivial⟩ ⟨Cr (b':=0) kr kr,lv,lv,lv,lv,lv,trivial⟩)
      ·let p16:Option Blk:=some ⟨5,60,[.ag [.v (.int .u8 r40.2.2.2.2.2.2.1),.st r40.2.2.2.2.2.2.2.1,.v (.bool r40.2.2.2.2.2.2.2.2.1),.e0,.v (.int .i64 (wr .i64 (1 + (wr .i64 (r40.2.2.1.tmod 2)))))]],false⟩
       refine RunS.only (n:=98) AC [p7,(4,.st c3),p11,p5,p4,p3,p12] [p2,p10,p16,p8] kr ?_;refine EG 6 kr rfl ?_;refine RunS.only (n:=98) AC [p7,(4,.st c3),p11,p5,p4,p3,(69,.v (.bool r40.2.2.2.2.1))] [p2,p10,p16,p8] kr ?_;refine RunA.q 9 kr rfl ?_;refine RunS.only (n:=98) AC [p7,(4,.st c3),p11,p5,p4,p3,(69,.v (.bool r40.2.2.2.2.1)),(71,.pt 2 0 2)] [p2,p10,p16,p8] kr ?_;refine EG 10 kr rfl ?_;refine RunS.only (n:=98) AC [p7,(4,.st c3),p11,p5,p4,p3] [p2,p10,p1,p8] kr ?_;exact RunA.done kr (AY [0,2] ⟨⟨_,rfl,Cq⟩,⟨_,rfl,Cu⟩,trivial⟩ ⟨Cr (b':=0) kr kr,lv,lv,lv,lv,lv,trivial⟩)
     ·let p17:Nat×AV:=(69,.v (.bool r40.2.2.2.2.1))
      refine RunS.only (n:=98) AC [p7,(4,.st c3),p11,p5,p4,p3,(65,.v (.int .u8 (r40.2.2.1.tmod 2))),p17] [p2,p10,p9,p8] kr ?_;refine EG 3 kr rfl ?_;refine RunS.only (n:=98) AC [p7,(4,.st c3),p11,p5,p4,p3,(66,.v (.int .i64 (wr .i64 (r40.2.2.1.tmod 2)))),p17] [p2,p10,p9,p8] kr ?_;refine RunA.q 4 kr rfl ?_
      let p18:Nat×AV:=(67,.v (.int .i64 (wr .i64 (1 + (wr .i64 (r40.2.2.1.tmod 2))))))
      refine RunS.only (n:=98) AC [p7,(4,.st c3),p11,p5,p4,p3,p18,p17] [p2,p10,p9,p8] kr ?_;refine RunA.q 7 kr rfl ?_;refine RunS.only (n:=98) AC [p7,(4,.st c3),p11,p5,p4,p3,p18,p17,(70,.pt 2 0 4)] [p2,p10,p9,p8] kr ?_;refine EG 8 kr rfl ?_
      let p19:Option Blk:=some ⟨5,60,[.ag [.v (.int .u8 r40.2.2.2.2.2.2.1),.st r40.2.2.2.2.2.2.2.1,.v (.bool r40.2.2.2.2.2.2.2.2.1),.e0,.v (.int .i64 (wr .i64 (1 + (wr .i64 (r40.2.2.1.tmod 2)))))]],false⟩
      refine RunS.only (n:=98) AC [p7,(4,.st c3),p11,p5,p4,p3,p17] [p2,p10,p19,p8] kr ?_;refine RunA.q 9 kr rfl ?_;refine RunS.only (n:=98) AC [p7,(4,.st c3),p11,p5,p4,p3,p17,(71,.pt 2 0 2)] [p2,p10,p19,p8] kr ?_;refine EG 10 kr rfl ?_;refine RunS.only (n:=98) AC [p7,(4,.st c3),p11,p5,p4,p3] [p2,p10,p1,p8] kr ?_;exact RunA.done kr (AY [0,2] ⟨⟨_,rfl,Cq⟩,⟨_,rfl,Cu⟩,trivial⟩ ⟨Cr (b':=0) kr kr,lv,lv,lv,lv,lv,trivial⟩)
    ·let p20:Nat×AV:=(69,.v (.bool r40.2.2.2.2.1))
     refine RunS.only (n:=98) AC [p7,(4,.st c3),p11,p5,p4,p3,(64,.v (.int .u8 r40.2.2.1)),p20] [p2,p10,p9,p8] kr ?_;refine EG 2 kr rfl ?_;refine RunS.only (n:=98) AC [p7,(4,.st c3),p11,p5,p4,p3,(65,.v (.int .u8 (r40.2.2.1.tmod 2))),p20] [p2,p10,p9,p8] kr ?_;refine EG 3 kr rfl ?_;refine RunS.only (n:=98) AC [p7,(4,.st c3),p11,p5,p4,p3,(66,.v (.int .i64 (wr .i64 (r40.2.2.1.tmod 2)))),p20] [p2,p10,p9,p8] kr ?_;refine RunA.q 4 kr rfl ?_
     let p21:Nat×AV:=(67,.v (.int .i64 (wr .i64 (1 + (wr .i64 (r40.2.2.1.tmod 2))))))
     refine RunS.only (n:=98) AC [p7,(4,.st c3),p11,p5,p4,p3,p21,p20] [p2,p10,p9,p8] kr ?_;refine RunA.q 7 kr rfl ?_;refine RunS.only (n:=98) AC [p7,(4,.st c3),p11,p5,p4,p3,p21,p20,(70,.pt 2 0 4)] [p2,p10,p9,p8] kr ?_;refine EG 8 kr rfl ?_
     let p22:Option Blk:=some ⟨5,60,[.ag [.v (.int .u8 r40.2.2.2.2.2.2.1),.st r40.2.2.2.2.2.2.2.1,.v (.bool r40.2.2.2.2.2.2.2.2.1),.e0,.v (.int .i64 (wr .i64 (1 + (wr .i64 (r40.2.2.1.tmod 2)))))]],false⟩
     refine RunS.only (n:=98) AC [p7,(4,.st c3),p11,p5,p4,p3,p20] [p2,p10,p22,p8] kr ?_;refine RunA.q 9 kr rfl ?_;refine RunS.only (n:=98) AC [p7,(4,.st c3),p11,p5,p4,p3,p20,(71,.pt 2 0 2)] [p2,p10,p22,p8] kr ?_;refine EG 10 kr rfl ?_;refine RunS.only (n:=98) AC [p7,(4,.st c3),p11,p5,p4,p3] [p2,p10,p1,p8] kr ?_;exact RunA.done kr (AY [0,2] ⟨⟨_,rfl,Cq⟩,⟨_,rfl,Cu⟩,trivial⟩ ⟨Cr (b':=0) kr kr,lv,lv,lv,lv,lv,trivial⟩)
   ·let p23:Nat×AV:=(69,.v (.bool r40.2.2.2.2.1))
    refine RunS.only (n:=98) AC [p7,(4,.st c3),p11,p5,p4,p3,(63,.pt 1 0 1),p23] [p2,p10,p9,p8] kr ?_;refine EG 1 kr rfl ?_;refine RunS.only (n:=98) AC [p7,(4,.st c3),p11,p5,p4,p3,(64,.v (.int .u8 r40.2.2.1)),p23] [p2,p10,p9,p8] kr ?_;refine EG 2 kr rfl ?_;refine RunS.only (n:=98) AC [p7,(4,.st c3),p11,p5,p4,p3,(65,.v (.int .u8 (r40.2.2.1.tmod 2))),p23] [p2,p10,p9,p8] kr ?_;refine EG 3 kr rfl ?_;refine RunS.only (n:=98) AC [p7,(4,.st c3),p11,p5,p4,p3,(66,.v (.int .i64 (wr .i64 (r40.2.2.1.tmod 2)))),p23] [p2,p10,p9,p8] kr ?_;refine RunA.q 4 kr rfl ?_
    let p24:Nat×AV:=(67,.v (.int .i64 (wr .i64 (1 + (wr .i64 (r40.2.2.1.tmod 2))))))
    refine RunS.only (n:=98) AC [p7,(4,.st c3),p11,p5,p4,p3,p24,p23] [p2,p10,p9,p8] kr ?_;refine RunA.q 7 kr rfl ?_;refine RunS.only (n:=98) AC [p7,(4,.st c3),p11,p5,p4,p3,p24,p23,(70,.pt 2 0 4)] [p2,p10,p9,p8] kr ?_;refine EG 8 kr rfl ?_
    let p25:Option Blk:=some ⟨5,60,[.ag [.v (.int .u8 r40.2.2.2.2.2.2.1),.st r40.2.2.2.2.2.2.2.1,.v (.bool r40.2.2.2.2.2.2.2.2.1),.e0,.v (.int .i64 (wr .i64 (1 + (wr .i64 (r40.2.2.1.tmod 2)))))]],false⟩
    refine RunS.only (n:=98) AC [p7,(4,.st c3),p11,p5,p4,p3,p23] [p2,p10,p25,p8] kr ?_;refine RunA.q 9 kr rfl ?_;refine RunS.only (n:=98) AC [p7,(4,.st c3),p11,p5,p4,p3,p23,(71,.pt 2 0 2)] [p2,p10,p25,p8] kr ?_;refine EG 10 kr rfl ?_;refine RunS.only (n:=98) AC [p7,(4,.st c3),p11,p5,p4,p3] [p2,p10,p1,p8] kr ?_;exact RunA.done kr (AY [0,2] ⟨⟨_,rfl,Cq⟩,⟨_,rfl,Cu⟩,trivial⟩ ⟨Cr (b':=0) kr kr,lv,lv,lv,lv,lv,trivial⟩)
  have hq:=OI h; subst hq;exact ⟨rfl,(Wk.trans (s1:=⟨Fr 98 [p7,(4,.st c3),p6,p5,p4,p3],[p2,p1]⟩) AN (Wk.trans (s1:=⟨Fr 98 [p7,(4,.st c3),p6,p5,p4,p3],[p2,p1,none]⟩) Wk.none (Wk.trans (s1:=⟨Fr 98 [p7,(4,.st c3),p6,p5,p4,p3],[p2,some ⟨5,60,[.ag [.v (.int .u8 r40.2.2.2.2.2.2.1),.st r40.2.2.2.2.2.2.2.1,.v (.bool r40.2.2.2.2.1),.sl 1 ([].map cdS.enc),.v (.int .i64 (wr .i64 (1 + (wr .i64 (r40.2.2.1.tmod 2)))))]],false⟩,none]⟩) (Mg 2 (.inr kr) ⟨.inr (.inl rfl),.inr (.inr ⟨_,_,_,_,rfl,rfl,⟨(.inr ⟨_,_,rfl,rfl,⟨.inl rfl,.inl rfl,.inl rfl,Pw,.inl rfl,trivial⟩⟩),trivial⟩⟩),.inl rfl,trivial⟩ ⟨⟨hd 0 (r40.1.map AA.enc),kr,(.inl (.inl rfl))⟩,⟨.st c3,kr,(.inl (.inl rfl))⟩,⟨.pt 1 0 0,kr,(.inl (.inl rfl))⟩,⟨.sl 5 (((x0.take (mnI (x0.length:Int) 8).toNat).drop (0:Int).toNat).map (cdA (csC (cdK .u8) (csC (cdK .u8) (csC (cdK .u8) (csC cdB (csE cdB))))) (fun _=>rfl)).enc),kr,(.inl (.inl rfl))⟩,⟨.v (.int .i64 (((x0.take (mnI (x0.length:Int) 8).toNat).drop (0:Int).toNat).length:Int)),kr,(.inl (.inl rfl))⟩,⟨.v (.int .i64 c4),kr,(.inl (.inl rfl))⟩,trivial⟩) (AY [0,1] ⟨⟨_,rfl,Cq⟩,⟨_,rfl,Cu⟩,trivial⟩ ⟨Cr (b':=0) kr kr,lv,lv,lv,lv,lv,trivial⟩))))⟩
 ·rw [CL hb1226] at h
  refine AJ AC [(3,hd 0 (r40.1.map AA.enc)),(4,.st c3),(6,.pt 1 0 0),(7,.pt 2 0 0),(8,hd 3 (r40.2.2.2.2.2.2.2.2.2.2.map cdS.enc)),(13,.sl 5 (((x0.take (mnI (x0.length:Int) 8).toNat).drop (0:Int).toNat).map (cdA (csC (cdK .u8) (csC (cdK .u8) (csC (cdK .u8) (csC cdB (csE cdB))))) (fun _=>rfl)).enc)),(14,.v (.int .i64 (((x0.take (mnI (x0.length:Int) 8).toNat).drop (0:Int).toNat).length:Int))),(15,.v (.int .i64 c4)),(53,.v (.int .u8 r40.2.2.2.2.2.2.1)),(72,.v (.bool (r40.2.2.2.2.2.2.1==5)))] [mk 5 60 (r40.1.map AA.enc),some ⟨5,107,[.ag [.v (.int .u8 r40.2.1),.v (.int .u8 r40.2.2.1),.v (.int .u8 r40.2.2.2.1),.v (.bool r40.2.2.2.2.1),.v (.bool r40.2.2.2.2.2.1)]],false⟩,some ⟨5,60,[.ag [.v (.int .u8 r40.2.2.2.2.2.2.1),.st r40.2.2.2.2.2.2.2.1,.v (.bool r40.2.2.2.2.2.2.2.2.1),.e0,.v (.int .i64 r40.2.2.2.2.2.2.2.2.2.1)]],false⟩,mk 1 9 (r40.2.2.2.2.2.2.2.2.2.2.map cdS.enc)] ?_;obtain ⟨r2058,hr2058,h⟩:=OB h;refine Cl (Ly x0 c3 c4 r40 _ hr2058) ?_;have hq:=OI h; subst hq;exact ⟨rfl,(AY [0,1] ⟨⟨_,rfl,Cq⟩,⟨_,rfl,Cu⟩,trivial⟩ ⟨Cr (b':=0) kr kr,lv,lv,lv,lv,lv,trivial⟩)⟩
theorem MZ (x0:(List (Int×Int×Int×Bool×Bool))) (c3:(List UInt8)) (c4:Int) (r40:(List AE)×Int×Int×Int×Bool×Bool×Int×(List UInt8)×Bool×Int×(List (List UInt8))) (r:((List AE)×(List UInt8)×Int×(List UInt8)×Bool×(List (List UInt8))×Int)) (h:GP x0 c3 c4 r40=some r):Sem E0 ⟨none,false⟩ (pc Cm [1,1,1,0,1,0,0,1,1,0,0,1,1,1,1,1,0,1,0,1]) ⟨Fr 98 [(3,hd 0 (r40.1.map AA.enc)),(4,.st c3),(6,.pt 1 0 0),(7,.pt 2 0 0),(8,hd 3 (r40.2.2.2.2.2.2.2.2.2.2.map cdS.enc)),(13,.sl 5 (((x0.take (mnI (x0.length:Int) 8).toNat).drop (0:Int).toNat).map (cdA (csC (cdK .u8) (csC (cdK .u8) (csC (cdK .u8) (csC cdB (csE cdB))))) (fun _=>rfl)).enc)),(14,.v (.int .i64 (((x0.take (mnI (x0.length:Int) 8).toNat).drop (0:Int).toNat).length:Int))),(15,.v (.int .i64 c4)),(53,.v (.int .u8 r40.2.2.2.2.2.2.1)),(54,.v (.bool (r40.2.2.2.2.2.2.1==1)))],[mk 5 60 (r40.1.map AA.enc),some ⟨5,107,[.ag [.v (.int .u8 r40.2.1),.v (.int .u8 r40.2.2.1),.v (.int .u8 r40.2.2.2.1),.v (.bool r40.2.2.2.2.1),.v (.bool r40.2.2.2.2.2.1)]],false⟩,some ⟨5,60,[.ag [.v (.int .u8 r40.2.2.2.2.2.2.1),.st r40.2.2.2.2.2.2.2.1,.v (.bool r40.2.2.2.2.2.2.2.2.1),.e0,.v (.int .i64 r40.2.2.2.2.2.2.2.2.2.1)]],false⟩,mk 1 9 (r40.2.2.2.2.2.2.2.2.2.2.map cdS.enc)]⟩ (fun e s=>e = .normal/\Wk E0 s ⟨Fr 98 [(3,hd 0 (r.1.map AA.enc)),(4,.st r.2.1),(7,.pt 1 0 0),(13,.sl 5 (((x0.take (mnI (x0.length:Int) 8).toNat).drop (0:Int).toNat).map (cdA (csC (cdK .u8) (csC (cdK .u8) (csC (cdK .u8) (csC cdB (csE cdB))))) (fun _=>rfl)).enc)),(14,.v (.int .i64 (((x0.take (mnI (x0.length:Int) 8).toNat).drop (0:Int).toNat).length:Int))),(15,.v (.int .i64 c4))],[mk 5 60 (r.1.map AA.enc),some ⟨5,60,[AA.enc r.2.2],false⟩]⟩):=by
 unfold GP at h;refine AM (b:=(r40.2.2.2.2.2.2.1==1)) kr (fun hb41=>?_) (fun hb41=>?_)
 ·rw [if_pos hb41] at h
  refine AH ?_
  let p1:Option Blk:=some ⟨5,60,[.ag [.v (.int .u8 r40.2.2.2.2.2.2.1),.st r40.2.2.2.2.2.2.2.1,.v (.bool r40.2.2.2.2.2.2.2.2.1),.sl 1 (r40.2.2.2.2.2.2.2.2.2.2.map cdS.enc),.v (.int .i64 r40.2.2.2.2.2.2.2.2.2.1)]],false⟩
  let p2:Option Blk:=mk 5 60 (r40.1.map AA.enc)
  let p3:Nat×AV:=(15,.v (.int .i64 c4))
  let p4:Nat×AV:=(14,.v (.int .i64 (((x0.take (mnI (x0.length:Int) 8).toNat).drop (0:Int).toNat).length:Int)))
  let p5:Nat×AV:=(13,.sl 5 (((x0.take (mnI (x0.length:Int) 8).toNat).drop (0:Int).toNat).map (cdA (csC (cdK .u8) (csC (cdK .u8) (csC (cdK .u8) (csC cdB (csE cdB))))) (fun _=>rfl)).enc))
  let p6:Nat×AV:=(8,.sl 1 (r40.2.2.2.2.2.2.2.2.2.2.map cdS.enc))
  let p7:Nat×AV:=(3,hd 0 (r40.1.map AA.enc))
  refine AI (s1:=⟨Fr 98 [p7,(7,.pt 1 0 0),p6,p5,p4,p3],[p2,p1]⟩) ?_ ?_
  ·let p8:Option Blk:=some ⟨5,60,[.ag [.v (.int .u8 r40.2.2.2.2.2.2.1),.st r40.2.2.2.2.2.2.2.1,.v (.bool r40.2.2.2.2.2.2.2.2.1),.e0,.v (.int .i64 r40.2.2.2.2.2.2.2.2.2.1)]],false⟩
   let p9:Option Blk:=some ⟨5,107,[.ag [.v (.int .u8 r40.2.1),.v (.int .u8 r40.2.2.1),.v (.int .u8 r40.2.2.2.1),.v (.bool r40.2.2.2.2.1),.v (.bool r40.2.2.2.2.2.1)]],false⟩
   refine AD (n:=98) AC 2 [p7,(7,.pt 2 0 0),(8,hd 3 (r40.2.2.2.2.2.2.2.2.2.2.map cdS.enc)),p5,p4,p3,(56,hd 3 (r40.2.2.2.2.2.2.2.2.2.2.map cdS.enc)),(57,.pt 2 0 3)] [p2,p9,p8,mk 1 9 (r40.2.2.2.2.2.2.2.2.2.2.map cdS.enc)] kr ?_;refine Mv (s1:=⟨Fr 98 [p7,(7,.pt 2 0 0),p6,p5,p4,p3,(56,.sl 1 (r40.2.2.2.2.2.2.2.2.2.2.map cdS.enc)),(57,.pt 2 0 3)],[p2,p9,p8,none]⟩) (Fs 3 (.inl kr) ⟨.inr (.inl rfl),.inr (.inr ⟨_,_,_,_,rfl,rfl,⟨.inl rfl,trivial⟩⟩),.inr (.inr ⟨_,_,_,_,rfl,rfl,⟨.inl rfl,trivial⟩⟩),.inl rfl,trivial⟩ ⟨⟨hd 0 (r40.1.map AA.enc),kr,.inl rfl⟩,⟨.pt 2 0 0,kr,.inl rfl⟩,⟨hd 3 (r40.2.2.2.2.2.2.2.2.2.2.map cdS.enc),kr,MV (t:=9) kr II⟩,⟨.sl 5 (((x0.take (mnI (x0.length:Int) 8).toNat).drop (0:Int).toNat).map (cdA (csC (cdK .u8) (csC (cdK .u8) (csC (cdK .u8) (csC cdB (csE cdB))))) (fun _=>rfl)).enc),kr,.inl rfl⟩,⟨.v (.int .i64 (((x0.take (mnI (x0.length:Int) 8).toNat).drop (0:Int).toNat).length:Int)),kr,.inl rfl⟩,⟨.v (.int .i64 c4),kr,.inl rfl⟩,⟨hd 3 (r40.2.2.2.2.2.2.2.2.2.2.map cdS.enc),kr,MV (t:=9) kr II⟩,⟨.pt 2 0 3,kr,.inl rfl⟩,trivial⟩) ?_;refine AD (n:=98) AC 1 [p7,(7,.pt 2 0 0),p6,p5,p4,p3] [p2,p9,p1,none] kr ?_;exact AL rfl (AY [0,2] ⟨⟨_,rfl,Cq⟩,⟨_,rfl,Cu⟩,trivial⟩ ⟨Cr (b':=0) kr kr,lv,lv,lv,lv,lv,trivial⟩)
  obtain ⟨v42,hv42,h⟩:=OB h;refine AI (s1:=⟨Fr 98 [p7,(4,.st v42),(7,.pt 1 0 0),p5,p4,p3],[p2,p1]⟩) ?_ ?_
  ·refine AD (n:=98) AC 1 [p7,(7,.pt 1 0 0),p5,p4,p3,(58,.sl 1 (r40.2.2.2.2.2.2.2.2.2.2.map cdS.enc))] [p2,p1] kr ?_
   refine AK AC 0 rfl (Ci (AB rfl) rfl (AS (a:= .sl 1 (r40.2.2.2.2.2.2.2.2.2.2.map cdS.enc)) (b:= .v (.int .i64 0)) kr kr (FM (e:=cdS.enc) (el:=9) (k:=1) (ki:= .i64) kr kr hv42))) ?_;exact AO AC
  have hq:=OI h; subst hq;exact ⟨rfl,(AY [0,1] ⟨⟨_,rfl,Cq⟩,⟨_,rfl,Cu⟩,trivial⟩ ⟨Cr (b':=0) kr kr,lv,lv,lv,lv,lv,trivial⟩)⟩
 ·rw [CL hb41] at h
  refine AJ AC [(3,hd 0 (r40.1.map AA.enc)),(4,.st c3),(6,.pt 1 0 0),(7,.pt 2 0 0),(8,hd 3 (r40.2.2.2.2.2.2.2.2.2.2.map cdS.enc)),(13,.sl 5 (((x0.take (mnI (x0.length:Int) 8).toNat).drop (0:Int).toNat).map (cdA (csC (cdK .u8) (csC (cdK .u8) (csC (cdK .u8) (csC cdB (csE cdB))))) (fun _=>rfl)).enc)),(14,.v (.int .i64 (((x0.take (mnI (x0.length:Int) 8).toNat).drop (0:Int).toNat).length:Int))),(15,.v (.int .i64 c4)),(53,.v (.int .u8 r40.2.2.2.2.2.2.1)),(61,.v (.bool (r40.2.2.2.2.2.2.1==4)))] [mk 5 60 (r40.1.map AA.enc),some ⟨5,107,[.ag [.v (.int .u8 r40.2.1),.v (.int .u8 r40.2.2.1),.v (.int .u8 r40.2.2.2.1),.v (.bool r40.2.2.2.2.1),.v (.bool r40.2.2.2.2.2.1)]],false⟩,some ⟨5,60,[.ag [.v (.int .u8 r40.2.2.2.2.2.2.1),.st r40.2.2.2.2.2.2.2.1,.v (.bool r40.2.2.2.2.2.2.2.2.1),.e0,.v (.int .i64 r40.2.2.2.2.2.2.2.2.2.1)]],false⟩,mk 1 9 (r40.2.2.2.2.2.2.2.2.2.2.map cdS.enc)] ?_;obtain ⟨r2059,hr2059,h⟩:=OB h;refine Cl (Ma x0 c3 c4 r40 _ hr2059) ?_;have hq:=OI h; subst hq;exact ⟨rfl,(AY [0,1] ⟨⟨_,rfl,Cq⟩,⟨_,rfl,Cu⟩,trivial⟩ ⟨Cr (b':=0) kr kr,lv,lv,lv,lv,lv,trivial⟩)⟩
theorem Mb (x0:(List (Int×Int×Int×Bool×Bool))):∀ (f:Nat) (c2:(List AE)) (c3:(List UInt8)) (c4:Int) (r:((List AE))),D2 x0 f c2 c3 c4=some r->SemN E0 ⟨none,false⟩ (pc Cm [1,1,1,0,1,0,0]) f ⟨Fr 98 [(3,hd 0 (c2.map AA.enc)),(4,.st c3),(13,.sl 5 (((x0.take (mnI (x0.length:Int) 8).toNat).drop (0:Int).toNat).map (cdA (csC (cdK .u8) (csC (cdK .u8) (csC (cdK .u8) (csC cdB (csE cdB))))) (fun _=>rfl)).enc)),(14,.v (.int .i64 (((x0.take (mnI (x0.length:Int) 8).toNat).drop (0:Int).toNat).length:Int))),(15,.v (.int .i64 c4))],[mk 5 60 (c2.map AA.enc)]⟩ (fun e s=>e=(.exit 0)/\Wk E0 s ⟨Fr 98 [(3,hd 0 (r.map AA.enc))],[mk 5 60 (r.map AA.enc)]⟩):=by
 intro f;induction f with
 | zero=>intro c2 c3 c4 r h; cases h
 | succ f ih0 =>
  intro c2 c3 c4 r h
  have ih:=fun (c2:(List AE)) (c3:(List UInt8)) (c4:Int)=>ih0 c2 c3 c4 r
  unfold D2 at h;refine Bw ?_;refine AJ AC [(3,hd 0 (c2.map AA.enc)),(4,.st c3),(13,.sl 5 (((x0.take (mnI (x0.length:Int) 8).toNat).drop (0:Int).toNat).map (cdA (csC (cdK .u8) (csC (cdK .u8) (csC (cdK .u8) (csC cdB (csE cdB))))) (fun _=>rfl)).enc)),(14,.v (.int .i64 (((x0.take (mnI (x0.length:Int) 8).toNat).drop (0:Int).toNat).length:Int))),(15,.v (.int .i64 c4)),(16,.v (.bool (decide (c4 < (((x0.take (mnI (x0.length:Int) 8).toNat).drop (0:Int).toNat).length:Int)))))] [mk 5 60 (c2.map AA.enc)] ?_;refine AH ?_;refine AM (b:=(decide (c4 < (((x0.take (mnI (x0.length:Int) 8).toNat).drop (0:Int).toNat).length:Int)))) kr (fun hb5=>?_) (fun hb5=>?_)
  ·rw [if_pos hb5] at h
   refine AQ ?_;refine AH ?_;refine Af ?_;refine AH ?_;obtain ⟨v6,hv6,h⟩:=OB h;refine AI (s1:=⟨Fr 98 [(3,hd 0 (c2.map AA.enc)),(4,.st c3),(6,.pt 1 0 0),(13,.sl 5 (((x0.take (mnI (x0.length:Int) 8).toNat).drop (0:Int).toNat).map (cdA (csC (cdK .u8) (csC (cdK .u8) (csC (cdK .u8) (csC cdB (csE cdB))))) (fun _=>rfl)).enc)),(14,.v (.int .i64 (((x0.take (mnI (x0.length:Int) 8).toNat).drop (0:Int).toNat).length:Int))),(15,.v (.int .i64 c4))],[mk 5 60 (c2.map AA.enc),some ⟨5,107,[.ag [.v (.int .u8 v6.1),.v (.int .u8 v6.2.1),.v (.int .u8 v6.2.2.1),.v (.bool v6.2.2.2.1),.v (.bool v6.2.2.2.2)]],false⟩]⟩) ?_ ?_
   ·refine AK AC 0 rfl (Ci (AB rfl) rfl (AS (a:= .sl 5 (((x0.take (mnI (x0.length:Int) 8).toNat).drop (0:Int).toNat).map (cdA (csC (cdK .u8) (csC (cdK .u8) (csC (cdK .u8) (csC cdB (csE cdB))))) (fun _=>rfl)).enc)) (b:= .v (.int .i64 c4)) kr kr (FM (e:=(cdA (csC (cdK .u8) (csC (cdK .u8) (csC (cdK .u8) (csC cdB (csE cdB))))) (fun _=>rfl)).enc) (el:=107) (k:=5) (ki:= .i64) kr kr hv6))) ?_
    exact AO AC
   refine AJ AC [(3,hd 0 (c2.map AA.enc)),(4,.st c3),(6,.pt 1 0 0),(7,.pt 2 0 0),(13,.sl 5 (((x0.take (mnI (x0.length:Int) 8).toNat).drop (0:Int).toNat).map (cdA (csC (cdK .u8) (csC (cdK .u8) (csC (cdK .u8) (csC cdB (csE cdB))))) (fun _=>rfl)).enc)),(14,.v (.int .i64 (((x0.take (mnI (x0.length:Int) 8).toNat).drop (0:Int).toNat).length:Int))),(15,.v (.int .i64 c4))] [mk 5 60 (c2.map AA.enc),some ⟨5,107,[.ag [.v (.int .u8 v6.1),.v (.int .u8 v6.2.1),.v (.int .u8 v6.2.2.1),.v (.bool v6.2.2.2.1),.v (.bool v6.2.2.2.2)]],false⟩,some ⟨5,60,[.ag [.v (.int .u8 (wr .u8 (1 + (v6.1.tmod 10)))),.st [],.v (.bool false),.e0,.v (.int .i64 0)]],false⟩] ?_;refine AH ?_;by_cases hk7:(DN (v6.2.2.1.tmod 4) (([97,98,99,100]:List UInt8).length:Int) ([97,98,99,100]:List UInt8).length)=true
   case neg=>rw [if_neg hk7] at h; cases h
   rw [if_pos hk7] at h;by_cases hk8:(DN 0 (1:Int) ((([97,98,99,100]:List UInt8).take (([97,98,99,100]:List UInt8).length:Int).toNat).drop (v6.2.2.1.tmod 4).toNat).length)=true
   case neg=>rw [if_neg hk8] at h; cases h
   rw [if_pos hk8] at h;refine AI (s1:=⟨Fr 98 [(3,hd 0 (c2.map AA.enc)),(4,.st c3),(6,.pt 1 0 0),(7,.pt 2 0 0),(8,hd 3 ([((((([97,98,99,100]:List UInt8).take (([97,98,99,100]:List UInt8).length:Int).toNat).drop (v6.2.2.1.tmod 4).toNat).take (1:Int).toNat).drop (0:Int).toNat)].map cdS.enc)),(13,.sl 5 (((x0.take (mnI (x0.length:Int) 8).toNat).drop (0:Int).toNat).map (cdA (csC (cdK .u8) (csC (cdK .u8) (csC (cdK .u8) (csC cdB (csE cdB))))) (fun _=>rfl)).enc)),(14,.v (.int .i64 (((x0.take (mnI (x0.length:Int) 8).toNat).drop (0:Int).toNat).length:Int))),(15,.v (.int .i64 c4))],[mk 5 60 (c2.map AA.enc),some ⟨5,107,[.ag [.v (.int .u8 v6.1),.v (.int .u8 v6.2.1),.v (.int .u8 v6.2.2.1),.v (.bool v6.2.2.2.1),.v (.bool v6.2.2.2.2)]],false⟩,some ⟨5,60,[.ag [.v (.int .u8 (wr .u8 (1 + (v6.1.tmod 10)))),.st [],.v (.bool false),.e0,.v (.int .i64 0)]],false⟩,mk 1 9 ([((((([97,98,99,100]:List UInt8).take (([97,98,99,100]:List UInt8).length:Int).toNat).drop (v6.2.2.1.tmod 4).toNat).take (1:Int).toNat).drop (0:Int).toNat)].map cdS.enc)]⟩) ?_ ?_
   ·refine AD (n:=98) AC 3 [(3,hd 0 (c2.map AA.enc)),(4,.st c3),(6,.pt 1 0 0),(7,.pt 2 0 0),(13,.sl 5 (((x0.take (mnI (x0.length:Int) 8).toNat).drop (0:Int).toNat).map (cdA (csC (cdK .u8) (csC (cdK .u8) (csC (cdK .u8) (csC cdB (csE cdB))))) (fun _=>rfl)).enc)),(14,.v (.int .i64 (((x0.take (mnI (x0.length:Int) 8).toNat).drop (0:Int).toNat).length:Int))),(15,.v (.int .i64 c4)),(26,.v (.int .u8 (v6.2.2.1.tmod 4)))] [mk 5 60 (c2.map AA.enc),some ⟨5,107,[.ag [.v (.int .u8 v6.1),.v (.int .u8 v6.2.1),.v (.int .u8 v6.2.2.1),.v (.bool v6.2.2.2.1),.v (.bool v6.2.2.2.2)]],false⟩,some ⟨5,60,[.ag [.v (.int .u8 (wr .u8 (1 + (v6.1.tmod 10)))),.st [],.v (.bool false),.e0,.v (.int .i64 0)]],false⟩] kr ?_
    refine AK AC 0 rfl (Ci (AB rfl) rfl (Ei (a:= .st [97,98,99,100]) (l:=(some (.v (.int .u8 (v6.2.2.1.tmod 4))))) (u:=none) (m:=none) kr kr kr rfl (FU (bs:=[97,98,99,100]) (lo:=(v6.2.2.1.tmod 4)) (hi:=(([97,98,99,100]:List UInt8).length:Int)) kr (Gd (M3 hk7)) rfl hk7))) ?_;refine AK AC 0 rfl (Ci (AB rfl) rfl (Ei (a:= .st ((([97,98,99,100]:List UInt8).take (([97,98,99,100]:List UInt8).length:Int).toNat).drop (v6.2.2.1.tmod 4).toNat)) (l:=none) (u:=(some (.v (.int .i64 1)))) (m:=none) kr kr kr rfl (FU (bs:=((([97,98,99,100]:List UInt8).take (([97,98,99,100]:List UInt8).length:Int).toNat).drop (v6.2.2.1.tmod 4).toNat)) (lo:=0) (hi:=(1:Int)) kr rfl (Gd (Jw hk8)) hk8))) ?_;exact AO AC
   refine AH ?_;refine AJ AC [(3,hd 0 (c2.map AA.enc)),(4,.st c3),(6,.pt 1 0 0),(7,.pt 2 0 0),(8,hd 3 ([((((([97,98,99,100]:List UInt8).take (([97,98,99,100]:List UInt8).length:Int).toNat).drop (v6.2.2.1.tmod 4).toNat).take (1:Int).toNat).drop (0:Int).toNat)].map cdS.enc)),(13,.sl 5 (((x0.take (mnI (x0.length:Int) 8).toNat).drop (0:Int).toNat).map (cdA (csC (cdK .u8) (csC (cdK .u8) (csC (cdK .u8) (csC cdB (csE cdB))))) (fun _=>rfl)).enc)),(14,.v (.int .i64 (((x0.take (mnI (x0.length:Int) 8).toNat).drop (0:Int).toNat).length:Int))),(15,.v (.int .i64 c4)),(33,.v (.bool ((DS .u8 v6.2.2.1 4)!=0)))] [mk 5 60 (c2.map AA.enc),some ⟨5,107,[.ag [.v (.int .u8 v6.1),.v (.int .u8 v6.2.1),.v (.int .u8 v6.2.2.1),.v (.bool v6.2.2.2.1),.v (.bool v6.2.2.2.2)]],false⟩,some ⟨5,60,[.ag [.v (.int .u8 (wr .u8 (1 + (v6.1.tmod 10)))),.st [],.v (.bool false),.e0,.v (.int .i64 0)]],false⟩,mk 1 9 ([((((([97,98,99,100]:List UInt8).take (([97,98,99,100]:List UInt8).length:Int).toNat).drop (v6.2.2.1.tmod 4).toNat).take (1:Int).toNat).drop (0:Int).toNat)].map cdS.enc)] ?_;obtain ⟨r14,hr14,h⟩:=OB h;refine Cl (MX x0 c2 c3 c4 v6 _ hr14) ?_;refine AH ?_;refine AH ?_;obtain ⟨j27,hj27,h⟩:=OB h;refine AI (s1:=⟨Fr 98 [(3,hd 0 (j27.1.map AA.enc)),(4,.st c3),(6,.pt 1 0 0),(7,.pt 2 0 0),(8,hd 3 (j27.2.2.2.2.2.2.2.2.2.2.1.map cdS.enc)),(13,.sl 5 (((x0.take (mnI (x0.length:Int) 8).toNat).drop (0:Int).toNat).map (cdA (csC (cdK .u8) (csC (cdK .u8) (csC (cdK .u8) (csC cdB (csE cdB))))) (fun _=>rfl)).enc)),(14,.v (.int .i64 (((x0.take (mnI (x0.length:Int) 8).toNat).drop (0:Int).toNat).length:Int))),(15,.v (.int .i64 c4)),(49,.v (.bool j27.2.2.2.2.2.2.2.2.2.2.2))],[mk 5 60 (j27.1.map AA.enc),some ⟨5,107,[.ag [.v (.int .u8 j27.2.1),.v (.int .u8 j27.2.2.1),.v (.int .u8 j27.2.2.2.1),.v (.bool j27.2.2.2.2.1),.v (.bool j27.2.2.2.2.2.1)]],false⟩,some ⟨5,60,[.ag [.v (.int .u8 j27.2.2.2.2.2.2.1),.st j27.2.2.2.2.2.2.2.1,.v (.bool j27.2.2.2.2.2.2.2.2.1),.e0,.v (.int .i64 j27.2.2.2.2.2.2.2.2.2.1)]],false⟩,mk 1 9 (j27.2.2.2.2.2.2.2.2.2.2.1.map cdS.enc)]⟩) ?_ ?_
   ·refine AD (n:=98) AC 3 [(3,hd 0 (c2.map AA.enc)),(4,.st c3),(6,.pt 1 0 0),(7,.pt 2 0 0),(8,hd 3 (r14.map cdS.enc)),(13,.sl 5 (((x0.take (mnI (x0.length:Int) 8).toNat).drop (0:Int).toNat).map (cdA (csC (cdK .u8) (csC (cdK .u8) (csC (cdK .u8) (csC cdB (csE cdB))))) (fun _=>rfl)).enc)),(14,.v (.int .i64 (((x0.take (mnI (x0.length:Int) 8).toNat).drop (0:Int).toNat).length:Int))),(15,.v (.int .i64 c4)),(45,.v (.bool v6.2.2.2.2))] [mk 5 60 (c2.map AA.enc),some ⟨5,107,[.ag [.v (.int .u8 v6.1),.v (.int .u8 v6.2.1),.v (.int .u8 v6.2.2.1),.v (.bool v6.2.2.2.1),.v (.bool v6.2.2.2.2)]],false⟩,some ⟨5,60,[.ag [.v (.int .u8 (wr .u8 (1 + (v6.1.tmod 10)))),.st [],.v (.bool false),.e0,.v (.int .i64 0)]],false⟩,mk 1 9 (r14.map cdS.enc)] kr ?_
    rcases BE v6.2.2.2.2 with hc2062 | hc2062
    ·rw [if_pos hc2062] at hj27
     rw [hc2062];refine AD (n:=98) AC 4 [(3,hd 0 (c2.map AA.enc)),(4,.st c3),(6,.pt 1 0 0),(7,.pt 2 0 0),(8,hd 3 (r14.map cdS.enc)),(13,.sl 5 (((x0.take (mnI (x0.length:Int) 8).toNat).drop (0:Int).toNat).map (cdA (csC (cdK .u8) (csC (cdK .u8) (csC (cdK .u8) (csC cdB (csE cdB))))) (fun _=>rfl)).enc)),(14,.v (.int .i64 (((x0.take (mnI (x0.length:Int) 8).toNat).drop (0:Int).toNat).length:Int))),(15,.v (.int .i64 c4)),(46,.pt 2 0 0),(47,.v (.int .u8 (wr .u8 (1 + (v6.1.tmod 10))))),(48,.v (.bool ((wr .u8 (1 + (v6.1.tmod 10)))!=1))),(49,.v (.bool ((wr .u8 (1 + (v6.1.tmod 10)))!=1)))] [mk 5 60 (c2.map AA.enc),some ⟨5,107,[.ag [.v (.int .u8 v6.1),.v (.int .u8 v6.2.1),.v (.int .u8 v6.2.2.1),.v (.bool v6.2.2.2.1),.v (.bool true)]],false⟩,some ⟨5,60,[.ag [.v (.int .u8 (wr .u8 (1 + (v6.1.tmod 10)))),.st [],.v (.bool false),.e0,.v (.int .i64 0)]],false⟩,mk 1 9 (r14.map cdS.enc)] kr ?_;have hq:=OI hj27; subst hq;exact AL rfl (AY [0,1,2,3] ⟨⟨_,rfl,Cq⟩,⟨_,rfl,Cu⟩,⟨_,rfl,Cu⟩,⟨_,rfl,Cq⟩,trivial⟩ ⟨Cr (b':=0) kr kr,lv,lv,lv,Cr (b':=3) kr kr,lv,lv,lv,lv,trivial⟩)
    ·rw [CL hc2062] at hj27
     rw [hc2062];refine AD (n:=98) AC 4 [(3,hd 0 (c2.map AA.enc)),(4,.st c3),(6,.pt 1 0 0),(7,.pt 2 0 0),(8,hd 3 (r14.map cdS.enc)),(13,.sl 5 (((x0.take (mnI (x0.length:Int) 8).toNat).drop (0:Int).toNat).map (cdA (csC (cdK .u8) (csC (cdK .u8) (csC (cdK .u8) (csC cdB (csE cdB))))) (fun _=>rfl)).enc)),(14,.v (.int .i64 (((x0.take (mnI (x0.length:Int) 8).toNat).drop (0:Int).toNat).length:Int))),(15,.v (.int .i64 c4)),(46,.tp []),(47,.tp []),(48,.tp []),(49,.v (.bool false))] [mk 5 60 (c2.map AA.enc),some ⟨5,107,[.ag [.v (.int .u8 v6.1),.v (.int .u8 v6.2.1),.v (.int .u8 v6.2.2.1),.v (.bool v6.2.2.2.1),.v (.bool false)]],false⟩,some ⟨5,60,[.ag [.v (.int .u8 (wr .u8 (1 + (v6.1.tmod 10)))),.st [],.v (.bool false),.e0,.v (.int .i64 0)]],false⟩,mk 1 9 (r14.map cdS.enc)] kr ?_;have hq:=OI hj27; subst hq;exact AL rfl (AY [0,1,2,3] ⟨⟨_,rfl,Cq⟩,⟨_,rfl,Cu⟩,⟨_,rfl,Cu⟩,⟨_,rfl,Cq⟩,trivial⟩ ⟨Cr (b':=0) kr kr,lv,lv,lv,Cr (b':=3) kr kr,lv,lv,lv,lv,trivial⟩)
   obtain ⟨r40,hr40,h⟩:=OB h;refine Cl (MY x0 c3 c4 j27 _ hr40) ?_;refine AH ?_;refine AJ AC [(3,hd 0 (r40.1.map AA.enc)),(4,.st c3),(6,.pt 1 0 0),(7,.pt 2 0 0),(8,hd 3 (r40.2.2.2.2.2.2.2.2.2.2.map cdS.enc)),(13,.sl 5 (((x0.take (mnI (x0.length:Int) 8).toNat).drop (0:Int).toNat).map (cdA (csC (cdK .u8) (csC (cdK .u8) (csC (cdK .u8) (csC cdB (csE cdB))))) (fun _=>rfl)).enc)),(14,.v (.int .i64 (((x0.take (mnI (x0.length:Int) 8).toNat).drop (0:Int).toNat).length:Int))),(15,.v (.int .i64 c4)),(53,.v (.int .u8 r40.2.2.2.2.2.2.1))] [mk 5 60 (r40.1.map AA.enc),some ⟨5,107,[.ag [.v (.int .u8 r40.2.1),.v (.int .u8 r40.2.2.1),.v (.int .u8 r40.2.2.2.1),.v (.bool r40.2.2.2.2.1),.v (.bool r40.2.2.2.2.2.1)]],false⟩,some ⟨5,60,[.ag [.v (.int .u8 r40.2.2.2.2.2.2.1),.st r40.2.2.2.2.2.2.2.1,.v (.bool r40.2.2.2.2.2.2.2.2.1),.e0,.v (.int .i64 r40.2.2.2.2.2.2.2.2.2.1)]],false⟩,mk 1 9 (r40.2.2.2.2.2.2.2.2.2.2.map cdS.enc)] ?_;refine Af ?_;refine AJ AC [(3,hd 0 (r40.1.map AA.enc)),(4,.st c3),(6,.pt 1 0 0),(7,.pt 2 0 0),(8,hd 3 (r40.2.2.2.2.2.2.2.2.2.2.map cdS.enc)),(13,.sl 5 (((x0.take (mnI (x0.length:Int) 8).toNat).drop (0:Int).toNat).map (cdA (csC (cdK .u8) (csC (cdK .u8) (csC (cdK .u8) (csC cdB (csE cdB))))) (fun _=>rfl)).enc)),(14,.v (.int .i64 (((x0.take (mnI (x0.length:Int) 8).toNat).drop (0:Int).toNat).length:Int))),(15,.v (.int .i64 c4)),(53,.v (.int .u8 r40.2.2.2.2.2.2.1)),(54,.v (.bool (r40.2.2.2.2.2.2.1==1)))] [mk 5 60 (r40.1.map AA.enc),some ⟨5,107,[.ag [.v (.int .u8 r40.2.1),.v (.int .u8 r40.2.2.1),.v (.int .u8 r40.2.2.2.1),.v (.bool r40.2.2.2.2.1),.v (.bool r40.2.2.2.2.2.1)]],false⟩,some ⟨5,60,[.ag [.v (.int .u8 r40.2.2.2.2.2.2.1),.st r40.2.2.2.2.2.2.2.1,.v (.bool r40.2.2.2.2.2.2.2.2.1),.e0,.v (.int .i64 r40.2.2.2.2.2.2.2.2.2.1)]],false⟩,mk 1 9 (r40.2.2.2.2.2.2.2.2.2.2.map cdS.enc)] ?_;obtain ⟨r2060,hr2060,h⟩:=OB h;refine Cl (MZ x0 c3 c4 r40 _ hr2060) ?_;by_cases hk2061:(Gg 64 (r2060.1.length + 1))=true
   case neg=>rw [if_neg hk2061] at h; cases h
   rw [if_pos hk2061] at h;refine AI (s1:=⟨Fr 98 [(3,hd 0 ((r2060.1++[r2060.2.2]).map AA.enc)),(4,.st r2060.2.1),(13,.sl 5 (((x0.take (mnI (x0.length:Int) 8).toNat).drop (0:Int).toNat).map (cdA (csC (cdK .u8) (csC (cdK .u8) (csC (cdK .u8) (csC cdB (csE cdB))))) (fun _=>rfl)).enc)),(14,.v (.int .i64 (((x0.take (mnI (x0.length:Int) 8).toNat).drop (0:Int).toNat).length:Int))),(15,.v (.int .i64 c4))],[mk 5 60 ((r2060.1++[r2060.2.2]).map AA.enc)]⟩) ?_ ?_
   ·refine AD (n:=98) AC 3 [(4,.st r2060.2.1),(13,.sl 5 (((x0.take (mnI (x0.length:Int) 8).toNat).drop (0:Int).toNat).map (cdA (csC (cdK .u8) (csC (cdK .u8) (csC (cdK .u8) (csC cdB (csE cdB))))) (fun _=>rfl)).enc)),(14,.v (.int .i64 (((x0.take (mnI (x0.length:Int) 8).toNat).drop (0:Int).toNat).length:Int))),(15,.v (.int .i64 c4)),(92,hd 0 (r2060.1.map AA.enc)),(94,hd 2 ([r2060.2.2].map AA.enc))] [mk 5 60 (r2060.1.map AA.enc),some ⟨5,60,[AA.enc r2060.2.2],false⟩,mk 5 60 ([r2060.2.2].map AA.enc)] kr ?_
    refine AK AC 0 rfl (VD (AB rfl) rfl kr kr (IM (a:=hd 0 (r2060.1.map AA.enc)) (b:=hd 2 ([r2060.2.2].map AA.enc)) kr kr (Is (c:=AA) (xs:=r2060.1) (vs:=[r2060.2.2]) (k:=5) (bytes:=64) (el:=60) kr kr (I1 (t:=60) kr) (List.cons_ne_nil _ _) kr hk2061))) ?_;refine AD (n:=98) AC 1 [(3,hd 3 ((r2060.1++[r2060.2.2]).map AA.enc)),(4,.st r2060.2.1),(13,.sl 5 (((x0.take (mnI (x0.length:Int) 8).toNat).drop (0:Int).toNat).map (cdA (csC (cdK .u8) (csC (cdK .u8) (csC (cdK .u8) (csC cdB (csE cdB))))) (fun _=>rfl)).enc)),(14,.v (.int .i64 (((x0.take (mnI (x0.length:Int) 8).toNat).drop (0:Int).toNat).length:Int))),(15,.v (.int .i64 c4))] [none,some ⟨5,60,[AA.enc r2060.2.2],false⟩,mk 5 60 ([r2060.2.2].map AA.enc),mk 5 60 ((r2060.1++[r2060.2.2]).map AA.enc)] kr ?_;exact AL rfl (AY [3] ⟨⟨_,rfl,Cq⟩,trivial⟩ ⟨Cr (b':=3) kr kr,lv,lv,lv,lv,trivial⟩)
   refine Cy AC [(3,hd 0 ((r2060.1++[r2060.2.2]).map AA.enc)),(4,.st r2060.2.1),(13,.sl 5 (((x0.take (mnI (x0.length:Int) 8).toNat).drop (0:Int).toNat).map (cdA (csC (cdK .u8) (csC (cdK .u8) (csC (cdK .u8) (csC cdB (csE cdB))))) (fun _=>rfl)).enc)),(14,.v (.int .i64 (((x0.take (mnI (x0.length:Int) 8).toNat).drop (0:Int).toNat).length:Int))),(15,.v (.int .i64 (wr .i64 (c4 + 1))))] [mk 5 60 ((r2060.1++[r2060.2.2]).map AA.enc)] ?_;exact As (s1:=⟨Fr 98 [(3,hd 0 ((r2060.1++[r2060.2.2]).map AA.enc)),(4,.st r2060.2.1),(13,.sl 5 (((x0.take (mnI (x0.length:Int) 8).toNat).drop (0:Int).toNat).map (cdA (csC (cdK .u8) (csC (cdK .u8) (csC (cdK .u8) (csC cdB (csE cdB))))) (fun _=>rfl)).enc)),(14,.v (.int .i64 (((x0.take (mnI (x0.length:Int) 8).toNat).drop (0:Int).toNat).length:Int))),(15,.v (.int .i64 (wr .i64 (c4 + 1))))],[mk 5 60 ((r2060.1++[r2060.2.2]).map AA.enc)]⟩) (AY [0] ⟨⟨_,rfl,Cq⟩,trivial⟩ ⟨Cr (b':=0) kr kr,lv,lv,lv,lv,trivial⟩) (ih (r2060.1++[r2060.2.2]) r2060.2.1 (wr .i64 (c4 + 1)) h)
  ·rw [CL hb5] at h
   refine CO ?_;have hq:=OI h; subst hq;exact ⟨rfl,(AY [0] ⟨⟨_,rfl,Cq⟩,trivial⟩ ⟨Cr (b':=0) kr kr,trivial⟩)⟩
theorem OC (x0:(List (Int×Int×Int×Bool×Bool))) (r:(List AE)) (h:Fj x0=some r):Sem E0 ⟨none,false⟩ Cm ⟨Fr 98 (BP 0 (I0.enc (x0,()))),[]⟩ fun e s'=>(e = .normal\/e = .ret)/\∃ xs,Em E0.P s'.fr s'.hp Tryz.f19.results.toList=some xs/\Ev xs=I5 r:=by
 unfold Fj at h
 let p1:Nat×AV:=(0,.sl 5 (x0.map (cdA (csC (cdK .u8) (csC (cdK .u8) (csC (cdK .u8) (csC cdB (csE cdB))))) (fun _=>rfl)).enc))
 refine A8 (Bv (s1:=⟨Fr 98 [p1],[]⟩) AN ?_);refine AJ AC [p1] [] ?_;refine AJ AC [p1,(3,.e0)] [] ?_;refine AJ AC [p1,(3,.e0),(4,.st [])] [] ?_;refine AH ?_;refine AH ?_;by_cases hk1:(DN 0 (mnI (x0.length:Int) 8) x0.length)=true
 case neg=>rw [if_neg hk1] at h; cases h
 rw [if_pos hk1] at h
 let p2:Nat×AV:=(15,.v (.int .i64 0))
 let p3:Nat×AV:=(14,.v (.int .i64 (((x0.take (mnI (x0.length:Int) 8).toNat).drop (0:Int).toNat).length:Int)))
 let p4:Nat×AV:=(13,.sl 5 (((x0.take (mnI (x0.length:Int) 8).toNat).drop (0:Int).toNat).map (cdA (csC (cdK .u8) (csC (cdK .u8) (csC (cdK .u8) (csC cdB (csE cdB))))) (fun _=>rfl)).enc))
 refine AI (s1:=⟨Fr 98 [(3,.e0),(4,.st []),p4,p3,p2],[]⟩) ?_ ?_
 ·let p5:Nat×AV:=(9,.sl 5 (x0.map (cdA (csC (cdK .u8) (csC (cdK .u8) (csC (cdK .u8) (csC cdB (csE cdB))))) (fun _=>rfl)).enc))
  refine AD (n:=98) AC 2 [(3,.e0),(4,.st []),p5,(10,.sl 5 (x0.map (cdA (csC (cdK .u8) (csC (cdK .u8) (csC (cdK .u8) (csC cdB (csE cdB))))) (fun _=>rfl)).enc))] [] kr ?_;refine AK AC 0 rfl (Ci (AB rfl) rfl (DY (a:= .sl 5 (x0.map (cdA (csC (cdK .u8) (csC (cdK .u8) (csC (cdK .u8) (csC cdB (csE cdB))))) (fun _=>rfl)).enc)) kr (CB (el:=107) kr))) ?_;refine AD (n:=98) AC 1 [(3,.e0),(4,.st []),p5,(12,.v (.int .i64 (mnI (x0.length:Int) 8)))] [] kr ?_;refine AK AC 0 rfl (Ci (AB rfl) rfl (Ei (a:= .sl 5 (x0.map (cdA (csC (cdK .u8) (csC (cdK .u8) (csC (cdK .u8) (csC cdB (csE cdB))))) (fun _=>rfl)).enc)) (l:=none) (u:=(some (.v (.int .i64 (mnI (x0.length:Int) 8))))) (m:=none) kr kr kr rfl (KO (xs:=x0) (e:=(cdA (csC (cdK .u8) (csC (cdK .u8) (csC (cdK .u8) (csC cdB (csE cdB))))) (fun _=>rfl)).enc) (k:=5) (el:=107) (lo:=0) (hi:=(mnI (x0.length:Int) 8)) kr kr rfl (Gd (Jw hk1)) hk1))) ?_;refine AK AC 0 rfl (Ci (AB rfl) rfl (DY (a:= .sl 5 (((x0.take (mnI (x0.length:Int) 8).toNat).drop (0:Int).toNat).map (cdA (csC (cdK .u8) (csC (cdK .u8) (csC (cdK .u8) (csC cdB (csE cdB))))) (fun _=>rfl)).enc)) kr (CB (el:=107) kr))) ?_;exact AO AC
 refine Af ?_;obtain ⟨r2064,hr2064,h⟩:=OB h;refine CV (n:=100000) ?_
 let p6:Nat×AV:=(3,hd 0 ([].map AA.enc))
 refine BK (As (s1:=⟨Fr 98 [p6,(4,.st []),p4,p3,p2],[mk 5 60 ([].map AA.enc)]⟩) (Wk.trans (s1:=⟨Fr 98 [p6,(4,.st []),p4,p3,p2],[mk 5 60 ([].map AA.enc)]⟩) Wk.none (AY [0] ⟨⟨_,rfl,LU⟩,trivial⟩ ⟨lv,lv,lv,lv,lv,trivial⟩)) (Mb x0 _ [] [] 0 _ hr2064)) ?_;refine AJ AC [(2,hd 0 (r2064.map AA.enc))] [mk 5 60 (r2064.map AA.enc)] ?_;refine AU ?_;have hq:=OI h; subst hq
 let p7:Nat×AV:=(2,.sl 5 (r2064.map AA.enc))
 exact ⟨⟨Fr 98 [p7],[]⟩,(Wk.trans (s1:=⟨Fr 98 [p7],[none]⟩) (Fs 0 (.inl kr) ⟨.inl rfl,trivial⟩ ⟨⟨hd 0 (r2064.map AA.enc),kr,MV (t:=60) kr II⟩,trivial⟩) (AY [] trivial ⟨lv,trivial⟩)),.inr rfl,[.sl 5 (r2064.map AA.enc)],kr,kr⟩
def QK:List AV->Option AV:=D4 I0 (fun a=>Fj a.1) I5
theorem QT:XOk 19 QK:=by
 refine AW Tryz.func19 (c:=Cm) ?h2 ⟨Tryz.call19⟩ I0 (fun a=>Fj a.1) I5 (fun a=>(by show 1<=98; decide)) ?h3 ?h4
 case h2=>kernel_rfl
 case h3=>intro b; kernel_rfl
 case h4=>exact fun a b h=>OC a.1 b h
/- trestle/court.formed -/
noncomputable def CD:Code:=Br Tryz.f159
def Fz (x0:AE):Option ((Bool)) :=
 if (x0.1==8)=true then
 some (x0.1==8)
 else
 some (x0.1==9)
def Fv (x0:AE):Option ((Bool)) :=
 if (x0.1==3)=true then
 some (x0.1==3)
 else
 (Fz x0).bind fun r14 =>
 some r14
def Fu (x0:AE):Option ((Bool)) :=
 if (x0.1==2)=true then
 some (x0.1==2)
 else
 (Fv x0).bind fun r15 =>
 some r15
def F5 (x0:AE):Option ((Bool)) :=
 if (x0.1==6)=true then
 some (x0.1==6)
 else
 some (x0.1==7)
def F6 (x0:AE) (r33:Bool):Option ((Int×Int×Bool) ⊕ (Bool)) :=
 if r33=true then
 some (.inl (16,0,true))
 else
 if (x0.1==10)=true then
 some (.inl (0,63,false))
 else
 some (.inr false)
def F4 (x0:AE):Option ((Int×Int×Bool) ⊕ (Bool)) :=
 if (x0.1==5)=true then
 some (.inl (0,0,true))
 else
 (F5 x0).bind fun r33 =>
 (F6 x0 r33).bind fun r40 =>
 match r40 with
 | (.inl w41) =>
  some (.inl (w41.1,w41.2.1,w41.2.2))
 | (.inr w42) =>
  some (.inr w42)
def F3 (x0:AE):Option ((Int×Int×Int×Bool) ⊕ (Bool)) :=
 if (x0.1==4)=true then
 some (.inl (0,1,2,true))
 else
 (F4 x0).bind fun r44 =>
 match r44 with
 | (.inl w45) =>
  some (.inl (w45.1,0,w45.2.1,w45.2.2))
 | (.inr w46) =>
  some (.inr w46)
def F0 (x0:AE) (r16:Bool):Option ((Int×Int×Int×Bool) ⊕ (Bool)) :=
 if r16=true then
 some (.inl (0,0,0,false))
 else
 (F3 x0).bind fun r48 =>
 match r48 with
 | (.inl w49) =>
  some (.inl (w49.1,w49.2.1,w49.2.2.1,w49.2.2.2))
 | (.inr w50) =>
  some (.inr w50)
def Ft (x0:AE):Option ((Int×Int×Int×Bool) ⊕ (Bool)) :=
 if (x0.1==1)=true then
 if (!(x0.2.1==[]))=true then
 some (.inr false)
 else
 some (.inl (16,0,0,false))
 else
 (Fu x0).bind fun r16 =>
 (F0 x0 r16).bind fun r52 =>
 match r52 with
 | (.inl w53) =>
  some (.inl (w53.1,w53.2.1,w53.2.2.1,w53.2.2.2))
 | (.inr w54) =>
  some (.inr w54)
def Bb (x0:AE):Option (Bool) :=
 (Ft x0).bind fun r55 =>
 match r55 with
 | (.inl w56) =>
  (if (decide ((x0.2.2.2.1.length:Int)<=w56.1))=true then if (w56.1==0)=true then if (decide (x0.2.2.2.2≥w56.2.1))=true then if (decide (x0.2.2.2.2<=w56.2.2.1))=true then if w56.2.2.2=true then some true else some (!x0.2.2.1) else some false else some false else if (decide ((x0.2.2.2.1.length:Int) > 0))=true then if (decide (x0.2.2.2.2≥w56.2.1))=true then if (decide (x0.2.2.2.2<=w56.2.2.1))=true then if w56.2.2.2=true then some true else some (!x0.2.2.1) else some false else some false else some false else some false).bind fun j58 =>
  some j58
 | (.inr w68) =>
  some w68
def Hw:Cs (AE×Unit):=(csC AA csN)
def H0 (r:Bool):AV:=cdB.enc r
theorem K6 (x0:AE) (r:(Bool)) (h:Fz x0=some r):Sem E0 ⟨none,false⟩ (pc CD [1,1,0,1,0,1,1,0,1,1,1,1,1]) ⟨Fr 63 [(1,.pt 0 0 0),(3,.v (.int .i64 0)),(4,.v (.int .i64 0)),(5,.v (.int .i64 0)),(6,.v (.bool false)),(8,.v (.int .u8 x0.1)),(14,.v (.bool (x0.1==8)))],[some ⟨5,60,[AA.enc x0],false⟩]⟩ (fun e s=>e = .normal/\Wk E0 s ⟨Fr 63 [(1,.pt 0 0 0),(3,.v (.int .i64 0)),(4,.v (.int .i64 0)),(5,.v (.int .i64 0)),(6,.v (.bool false)),(8,.v (.int .u8 x0.1)),(14,.v (.bool r))],[some ⟨5,60,[AA.enc x0],false⟩]⟩):=by
 unfold Fz at h;refine AM (b:=(x0.1==8)) kr (fun hb12=>?_) (fun hb12=>?_)
 ·rw [if_pos hb12] at h
  refine AQ ?_;have hq:=OI h; subst hq;exact ⟨rfl,(AY [0] ⟨⟨_,rfl,Cu⟩,trivial⟩ ⟨lv,lv,lv,lv,lv,lv,lv,trivial⟩)⟩
 ·rw [CL hb12] at h
  refine Cy AC [(1,.pt 0 0 0),(3,.v (.int .i64 0)),(4,.v (.int .i64 0)),(5,.v (.int .i64 0)),(6,.v (.bool false)),(8,.v (.int .u8 x0.1)),(14,.v (.bool (x0.1==9)))] [some ⟨5,60,[AA.enc x0],false⟩] ?_;have hq:=OI h; subst hq;exact ⟨rfl,(AY [0] ⟨⟨_,rfl,Cu⟩,trivial⟩ ⟨lv,lv,lv,lv,lv,lv,lv,trivial⟩)⟩
theorem K5 (x0:AE) (r:(Bool)) (h:Fv x0=some r):Sem E0 ⟨none,false⟩ (pc CD [1,1,0,1,0,1,1,0,1,1,1]) ⟨Fr 63 [(1,.pt 0 0 0),(3,.v (.int .i64 0)),(4,.v (.int .i64 0)),(5,.v (.int .i64 0)),(6,.v (.bool false)),(8,.v (.int .u8 x0.1)),(14,.v (.bool (x0.1==3)))],[some ⟨5,60,[AA.enc x0],false⟩]⟩ (fun e s=>e = .normal/\Wk E0 s ⟨Fr 63 [(1,.pt 0 0 0),(3,.v (.int .i64 0)),(4,.v (.int .i64 0)),(5,.v (.int .i64 0)),(6,.v (.bool false)),(8,.v (.int .u8 x0.1)),(14,.v (.bool r))],[some ⟨5,60,[AA.enc x0],false⟩]⟩):=by
 unfold Fv at h;refine AM (b:=(x0.1==3)) kr (fun hb10=>?_) (fun hb10=>?_)
 ·rw [if_pos hb10] at h
  refine AQ ?_;have hq:=OI h; subst hq;exact ⟨rfl,(AY [0] ⟨⟨_,rfl,Cu⟩,trivial⟩ ⟨lv,lv,lv,lv,lv,lv,lv,trivial⟩)⟩
 ·rw [CL hb10] at h
  refine AJ AC [(1,.pt 0 0 0),(3,.v (.int .i64 0)),(4,.v (.int .i64 0)),(5,.v (.int .i64 0)),(6,.v (.bool false)),(8,.v (.int .u8 x0.1)),(14,.v (.bool (x0.1==8)))] [some ⟨5,60,[AA.enc x0],false⟩] ?_;obtain ⟨r14,hr14,h⟩:=OB h;refine Cl (K6 x0 _ hr14) ?_;have hq:=OI h; subst hq;exact ⟨rfl,(AY [0] ⟨⟨_,rfl,Cu⟩,trivial⟩ ⟨lv,lv,lv,lv,lv,lv,lv,trivial⟩)⟩
theorem K4 (x0:AE) (r:(Bool)) (h:Fu x0=some r):Sem E0 ⟨none,false⟩ (pc CD [1,1,0,1,0,1,1,0,1]) ⟨Fr 63 [(1,.pt 0 0 0),(3,.v (.int .i64 0)),(4,.v (.int .i64 0)),(5,.v (.int .i64 0)),(6,.v (.bool false)),(8,.v (.int .u8 x0.1)),(14,.v (.bool (x0.1==2)))],[some ⟨5,60,[AA.enc x0],false⟩]⟩ (fun e s=>e = .normal/\Wk E0 s ⟨Fr 63 [(1,.pt 0 0 0),(3,.v (.int .i64 0)),(4,.v (.int .i64 0)),(5,.v (.int .i64 0)),(6,.v (.bool false)),(8,.v (.int .u8 x0.1)),(14,.v (.bool r))],[some ⟨5,60,[AA.enc x0],false⟩]⟩):=by
 unfold Fu at h;refine AM (b:=(x0.1==2)) kr (fun hb8=>?_) (fun hb8=>?_)
 ·rw [if_pos hb8] at h
  refine AQ ?_;have hq:=OI h; subst hq;exact ⟨rfl,(AY [0] ⟨⟨_,rfl,Cu⟩,trivial⟩ ⟨lv,lv,lv,lv,lv,lv,lv,trivial⟩)⟩
 ·rw [CL hb8] at h
  refine AJ AC [(1,.pt 0 0 0),(3,.v (.int .i64 0)),(4,.v (.int .i64 0)),(5,.v (.int .i64 0)),(6,.v (.bool false)),(8,.v (.int .u8 x0.1)),(14,.v (.bool (x0.1==3)))] [some ⟨5,60,[AA.enc x0],false⟩] ?_;obtain ⟨r15,hr15,h⟩:=OB h;refine Cl (K5 x0 _ hr15) ?_;have hq:=OI h; subst hq;exact ⟨rfl,(AY [0] ⟨⟨_,rfl,Cu⟩,trivial⟩ ⟨lv,lv,lv,lv,lv,lv,lv,trivial⟩)⟩
theorem K7 (x0:AE) (r:(Bool)) (h:F5 x0=some r):Sem E0 ⟨none,false⟩ (pc CD [1,1,0,1,0,1,1,1,1,1,1,1,1,0,1]) ⟨Fr 63 [(1,.pt 0 0 0),(3,.v (.int .i64 0)),(4,.v (.int .i64 0)),(5,.v (.int .i64 0)),(6,.v (.bool false)),(8,.v (.int .u8 x0.1)),(23,.v (.bool (x0.1==6)))],[some ⟨5,60,[AA.enc x0],false⟩]⟩ (fun e s=>e = .normal/\Wk E0 s ⟨Fr 63 [(1,.pt 0 0 0),(3,.v (.int .i64 0)),(4,.v (.int .i64 0)),(5,.v (.int .i64 0)),(6,.v (.bool false)),(8,.v (.int .u8 x0.1)),(23,.v (.bool r))],[some ⟨5,60,[AA.enc x0],false⟩]⟩):=by
 unfold F5 at h;refine AM (b:=(x0.1==6)) kr (fun hb31=>?_) (fun hb31=>?_)
 ·rw [if_pos hb31] at h
  refine AQ ?_;have hq:=OI h; subst hq;exact ⟨rfl,(AY [0] ⟨⟨_,rfl,Cu⟩,trivial⟩ ⟨lv,lv,lv,lv,lv,lv,lv,trivial⟩)⟩
 ·rw [CL hb31] at h
  refine Cy AC [(1,.pt 0 0 0),(3,.v (.int .i64 0)),(4,.v (.int .i64 0)),(5,.v (.int .i64 0)),(6,.v (.bool false)),(8,.v (.int .u8 x0.1)),(23,.v (.bool (x0.1==7)))] [some ⟨5,60,[AA.enc x0],false⟩] ?_;have hq:=OI h; subst hq;exact ⟨rfl,(AY [0] ⟨⟨_,rfl,Cu⟩,trivial⟩ ⟨lv,lv,lv,lv,lv,lv,lv,trivial⟩)⟩
theorem IF (x0:AE) (r33:Bool) (r:(Int×Int×Bool) ⊕ (Bool)) (h:F6 x0 r33=some r):Sem E0 ⟨none,false⟩ (pc CD [1,1,0,1,0,1,1,1,1,1,1,1,1,1]) ⟨Fr 63 [(1,.pt 0 0 0),(3,.v (.int .i64 0)),(4,.v (.int .i64 0)),(5,.v (.int .i64 0)),(6,.v (.bool false)),(8,.v (.int .u8 x0.1)),(23,.v (.bool r33))],[some ⟨5,60,[AA.enc x0],false⟩]⟩ (fun e s=>match r with
 | (.inl w)=>e = .normal/\Wk E0 s ⟨Fr 63 [(1,.pt 0 0 0),(3,.v (.int .i64 w.1)),(4,.v (.int .i64 0)),(5,.v (.int .i64 w.2.1)),(6,.v (.bool w.2.2))],[some ⟨5,60,[AA.enc x0],false⟩]⟩
 | (.inr w)=>e = .ret/\Wk E0 s ⟨Fr 63 [(2,.v (.bool w))],[]⟩):=by
 unfold F6 at h;refine AM (b:=r33) kr (fun hb34=>?_) (fun hb34=>?_)
 ·rw [if_pos hb34] at h
  refine Cy AC [(1,.pt 0 0 0),(3,.v (.int .i64 16)),(4,.v (.int .i64 0)),(5,.v (.int .i64 0)),(6,.v (.bool true))] [some ⟨5,60,[AA.enc x0],false⟩] ?_;have hq:=OI h; subst hq;exact ⟨rfl,(AY [0] ⟨⟨_,rfl,Cu⟩,trivial⟩ ⟨lv,lv,lv,lv,lv,trivial⟩)⟩
 ·rw [CL hb34] at h
  let p1:Option Blk:=some ⟨5,60,[AA.enc x0],false⟩
  refine AJ AC [(1,.pt 0 0 0),(3,.v (.int .i64 0)),(4,.v (.int .i64 0)),(6,.v (.bool false)),(26,.v (.bool (x0.1==10)))] [p1] ?_;refine AM (b:=(x0.1==10)) kr (fun hb38=>?_) (fun hb38=>?_)
  ·rw [if_pos hb38] at h
   refine Cy AC [(1,.pt 0 0 0),(3,.v (.int .i64 0)),(4,.v (.int .i64 0)),(5,.v (.int .i64 63)),(6,.v (.bool false))] [p1] ?_;have hq:=OI h; subst hq;exact ⟨rfl,(AY [0] ⟨⟨_,rfl,Cu⟩,trivial⟩ ⟨lv,lv,lv,lv,lv,trivial⟩)⟩
  ·rw [CL hb38] at h
   refine AH ?_;refine AI (s1:=⟨Fr 63 [(2,.v (.bool false))],[]⟩) ?_ ?_
   ·refine AD (n:=63) AC 1 [(2,.v (.bool false))] [p1] kr ?_
    exact AL rfl (AY [] trivial ⟨lv,trivial⟩)
   refine AU ?_;have hq:=OI h; subst hq;exact ⟨rfl,AN⟩
theorem IE (x0:AE) (r:(Int×Int×Bool) ⊕ (Bool)) (h:F4 x0=some r):Sem E0 ⟨none,false⟩ (pc CD [1,1,0,1,0,1,1,1,1,1,1,1]) ⟨Fr 63 [(1,.pt 0 0 0),(3,.v (.int .i64 0)),(4,.v (.int .i64 0)),(5,.v (.int .i64 0)),(6,.v (.bool false)),(8,.v (.int .u8 x0.1)),(21,.v (.bool (x0.1==5)))],[some ⟨5,60,[AA.enc x0],false⟩]⟩ (fun e s=>match r with
 | (.inl w)=>e = .normal/\Wk E0 s ⟨Fr 63 [(1,.pt 0 0 0),(3,.v (.int .i64 w.1)),(4,.v (.int .i64 0)),(5,.v (.int .i64 w.2.1)),(6,.v (.bool w.2.2))],[some ⟨5,60,[AA.enc x0],false⟩]⟩
 | (.inr w)=>e = .ret/\Wk E0 s ⟨Fr 63 [(2,.v (.bool w))],[]⟩):=by
 unfold F4 at h;refine AM (b:=(x0.1==5)) kr (fun hb27=>?_) (fun hb27=>?_)
 ·rw [if_pos hb27] at h
  refine Cy AC [(1,.pt 0 0 0),(3,.v (.int .i64 0)),(4,.v (.int .i64 0)),(5,.v (.int .i64 0)),(6,.v (.bool true))] [some ⟨5,60,[AA.enc x0],false⟩] ?_;have hq:=OI h; subst hq;exact ⟨rfl,(AY [0] ⟨⟨_,rfl,Cu⟩,trivial⟩ ⟨lv,lv,lv,lv,lv,trivial⟩)⟩
 ·rw [CL hb27] at h
  refine AH ?_;refine AJ AC [(1,.pt 0 0 0),(3,.v (.int .i64 0)),(4,.v (.int .i64 0)),(5,.v (.int .i64 0)),(6,.v (.bool false)),(8,.v (.int .u8 x0.1)),(23,.v (.bool (x0.1==6)))] [some ⟨5,60,[AA.enc x0],false⟩] ?_;obtain ⟨r33,hr33,h⟩:=OB h;refine Cl (K7 x0 _ hr33) ?_;obtain ⟨r40,hr40,h⟩:=OB h;rcases r40 with w41 | w42
  ·try dsimp only at h
   refine Cl (IF x0 r33 _ hr40) ?_;have hq:=OI h; subst hq;exact ⟨rfl,(AY [0] ⟨⟨_,rfl,Cu⟩,trivial⟩ ⟨lv,lv,lv,lv,lv,trivial⟩)⟩
  ·try dsimp only at h
   refine Cl (IF x0 r33 _ hr40) ?_;have hq:=OI h; subst hq;exact ⟨rfl,AN⟩
theorem ID (x0:AE) (r:(Int×Int×Int×Bool) ⊕ (Bool)) (h:F3 x0=some r):Sem E0 ⟨none,false⟩ (pc CD [1,1,0,1,0,1,1,1,1,1]) ⟨Fr 63 [(1,.pt 0 0 0),(3,.v (.int .i64 0)),(4,.v (.int .i64 0)),(5,.v (.int .i64 0)),(6,.v (.bool false)),(8,.v (.int .u8 x0.1)),(19,.v (.bool (x0.1==4)))],[some ⟨5,60,[AA.enc x0],false⟩]⟩ (fun e s=>match r with
 | (.inl w)=>e = .normal/\Wk E0 s ⟨Fr 63 [(1,.pt 0 0 0),(3,.v (.int .i64 w.1)),(4,.v (.int .i64 w.2.1)),(5,.v (.int .i64 w.2.2.1)),(6,.v (.bool w.2.2.2))],[some ⟨5,60,[AA.enc x0],false⟩]⟩
 | (.inr w)=>e = .ret/\Wk E0 s ⟨Fr 63 [(2,.v (.bool w))],[]⟩):=by
 unfold F3 at h;refine AM (b:=(x0.1==4)) kr (fun hb22=>?_) (fun hb22=>?_)
 ·rw [if_pos hb22] at h
  refine Cy AC [(1,.pt 0 0 0),(3,.v (.int .i64 0)),(4,.v (.int .i64 1)),(5,.v (.int .i64 2)),(6,.v (.bool true))] [some ⟨5,60,[AA.enc x0],false⟩] ?_;have hq:=OI h; subst hq;exact ⟨rfl,(AY [0] ⟨⟨_,rfl,Cu⟩,trivial⟩ ⟨lv,lv,lv,lv,lv,trivial⟩)⟩
 ·rw [CL hb22] at h
  refine AJ AC [(1,.pt 0 0 0),(3,.v (.int .i64 0)),(4,.v (.int .i64 0)),(5,.v (.int .i64 0)),(6,.v (.bool false)),(8,.v (.int .u8 x0.1)),(21,.v (.bool (x0.1==5)))] [some ⟨5,60,[AA.enc x0],false⟩] ?_;obtain ⟨r44,hr44,h⟩:=OB h;rcases r44 with w45 | w46
  ·try dsimp only at h
   refine Cl (IE x0 _ hr44) ?_;have hq:=OI h; subst hq;exact ⟨rfl,(AY [0] ⟨⟨_,rfl,Cu⟩,trivial⟩ ⟨lv,lv,lv,lv,lv,trivial⟩)⟩
  ·try dsimp only at h
   refine Cl (IE x0 _ hr44) ?_;have hq:=OI h; subst hq;exact ⟨rfl,AN⟩
theorem IC (x0:AE) (r16:Bool) (r:(Int×Int×Int×Bool) ⊕ (Bool)) (h:F0 x0 r16=some r):Sem E0 ⟨none,false⟩ (pc CD [1,1,0,1,0,1,1,1]) ⟨Fr 63 [(1,.pt 0 0 0),(3,.v (.int .i64 0)),(4,.v (.int .i64 0)),(5,.v (.int .i64 0)),(6,.v (.bool false)),(8,.v (.int .u8 x0.1)),(14,.v (.bool r16))],[some ⟨5,60,[AA.enc x0],false⟩]⟩ (fun e s=>match r with
 | (.inl w)=>e = .normal/\Wk E0 s ⟨Fr 63 [(1,.pt 0 0 0),(3,.v (.int .i64 w.1)),(4,.v (.int .i64 w.2.1)),(5,.v (.int .i64 w.2.2.1)),(6,.v (.bool w.2.2.2))],[some ⟨5,60,[AA.enc x0],false⟩]⟩
 | (.inr w)=>e = .ret/\Wk E0 s ⟨Fr 63 [(2,.v (.bool w))],[]⟩):=by
 unfold F0 at h;refine AM (b:=r16) kr (fun hb17=>?_) (fun hb17=>?_)
 ·rw [if_pos hb17] at h
  refine AQ ?_;have hq:=OI h; subst hq;exact ⟨rfl,(AY [0] ⟨⟨_,rfl,Cu⟩,trivial⟩ ⟨lv,lv,lv,lv,lv,trivial⟩)⟩
 ·rw [CL hb17] at h
  refine AJ AC [(1,.pt 0 0 0),(3,.v (.int .i64 0)),(4,.v (.int .i64 0)),(5,.v (.int .i64 0)),(6,.v (.bool false)),(8,.v (.int .u8 x0.1)),(19,.v (.bool (x0.1==4)))] [some ⟨5,60,[AA.enc x0],false⟩] ?_;obtain ⟨r48,hr48,h⟩:=OB h;rcases r48 with w49 | w50
  ·try dsimp only at h
   refine Cl (ID x0 _ hr48) ?_;have hq:=OI h; subst hq;exact ⟨rfl,(AY [0] ⟨⟨_,rfl,Cu⟩,trivial⟩ ⟨lv,lv,lv,lv,lv,trivial⟩)⟩
  ·try dsimp only at h
   refine Cl (ID x0 _ hr48) ?_;have hq:=OI h; subst hq;exact ⟨rfl,AN⟩
theorem IB (x0:AE) (r:(Int×Int×Int×Bool) ⊕ (Bool)) (h:Ft x0=some r):Sem E0 ⟨none,false⟩ (pc CD [1,1,0,1,0,1]) ⟨Fr 63 [(1,.pt 0 0 0),(3,.v (.int .i64 0)),(4,.v (.int .i64 0)),(5,.v (.int .i64 0)),(6,.v (.bool false)),(8,.v (.int .u8 x0.1)),(9,.v (.bool (x0.1==1)))],[some ⟨5,60,[AA.enc x0],false⟩]⟩ (fun e s=>match r with
 | (.inl w)=>e = .normal/\Wk E0 s ⟨Fr 63 [(1,.pt 0 0 0),(3,.v (.int .i64 w.1)),(4,.v (.int .i64 w.2.1)),(5,.v (.int .i64 w.2.2.1)),(6,.v (.bool w.2.2.2))],[some ⟨5,60,[AA.enc x0],false⟩]⟩
 | (.inr w)=>e = .ret/\Wk E0 s ⟨Fr 63 [(2,.v (.bool w))],[]⟩):=by
 unfold Ft at h;refine AM (b:=(x0.1==1)) kr (fun hb1=>?_) (fun hb1=>?_)
 ·rw [if_pos hb1] at h
  refine AH ?_
  let p1:Option Blk:=some ⟨5,60,[AA.enc x0],false⟩
  refine AJ AC [(1,.pt 0 0 0),(4,.v (.int .i64 0)),(5,.v (.int .i64 0)),(6,.v (.bool false)),(13,.v (.bool (!(x0.2.1==[]))))] [p1] ?_;refine AM (b:=(!(x0.2.1==[]))) kr (fun hb2=>?_) (fun hb2=>?_)
  ·rw [if_pos hb2] at h
   refine AH ?_;refine AI (s1:=⟨Fr 63 [(2,.v (.bool false))],[]⟩) ?_ ?_
   ·refine AD (n:=63) AC 1 [(2,.v (.bool false))] [p1] kr ?_
    exact AL rfl (AY [] trivial ⟨lv,trivial⟩)
   refine AU ?_;have hq:=OI h; subst hq;exact ⟨rfl,AN⟩
  ·rw [CL hb2] at h
   refine AQ ?_;refine Cy AC [(1,.pt 0 0 0),(3,.v (.int .i64 16)),(4,.v (.int .i64 0)),(5,.v (.int .i64 0)),(6,.v (.bool false))] [p1] ?_;have hq:=OI h; subst hq;exact ⟨rfl,(AY [0] ⟨⟨_,rfl,Cu⟩,trivial⟩ ⟨lv,lv,lv,lv,lv,trivial⟩)⟩
 ·rw [CL hb1] at h
  refine AH ?_;refine AJ AC [(1,.pt 0 0 0),(3,.v (.int .i64 0)),(4,.v (.int .i64 0)),(5,.v (.int .i64 0)),(6,.v (.bool false)),(8,.v (.int .u8 x0.1)),(14,.v (.bool (x0.1==2)))] [some ⟨5,60,[AA.enc x0],false⟩] ?_;obtain ⟨r16,hr16,h⟩:=OB h;refine Cl (K4 x0 _ hr16) ?_;obtain ⟨r52,hr52,h⟩:=OB h;rcases r52 with w53 | w54
  ·try dsimp only at h
   refine Cl (IC x0 r16 _ hr52) ?_;have hq:=OI h; subst hq;exact ⟨rfl,(AY [0] ⟨⟨_,rfl,Cu⟩,trivial⟩ ⟨lv,lv,lv,lv,lv,trivial⟩)⟩
  ·try dsimp only at h
   refine Cl (IC x0 r16 _ hr52) ?_;have hq:=OI h; subst hq;exact ⟨rfl,AN⟩
theorem MQ (x0:AE) (r:Bool) (h:Bb x0=some r):Sem E0 ⟨none,false⟩ CD ⟨Fr 63 (BP 0 (Hw.enc (x0,()))),[]⟩ fun e s'=>(e = .normal\/e = .ret)/\∃ xs,Em E0.P s'.fr s'.hp Tryz.f159.results.toList=some xs/\Ev xs=H0 r:=by
 unfold Bb at h;refine A8 (Bv (s1:=⟨Fr 63 [(0,AA.enc x0)],[]⟩) AN ?_);refine AJ AC [(1,.pt 0 0 0)] [some ⟨5,60,[AA.enc x0],false⟩] ?_;refine AJ AC [(1,.pt 0 0 0),(3,.v (.int .i64 0)),(4,.v (.int .i64 0)),(5,.v (.int .i64 0)),(6,.v (.bool false))] [some ⟨5,60,[AA.enc x0],false⟩] ?_;refine AH ?_;refine AJ AC [(1,.pt 0 0 0),(3,.v (.int .i64 0)),(4,.v (.int .i64 0)),(5,.v (.int .i64 0)),(6,.v (.bool false)),(8,.v (.int .u8 x0.1))] [some ⟨5,60,[AA.enc x0],false⟩] ?_;refine Af ?_;refine AJ AC [(1,.pt 0 0 0),(3,.v (.int .i64 0)),(4,.v (.int .i64 0)),(5,.v (.int .i64 0)),(6,.v (.bool false)),(8,.v (.int .u8 x0.1)),(9,.v (.bool (x0.1==1)))] [some ⟨5,60,[AA.enc x0],false⟩] ?_;obtain ⟨r55,hr55,h⟩:=OB h;rcases r55 with w56 | w68
 ·try dsimp only at h
  refine Cl (IB x0 _ hr55) ?_;refine AH ?_;obtain ⟨j58,hj58,h⟩:=OB h;refine AI (s1:=⟨Fr 63 [(2,.v (.bool j58))],[]⟩) ?_ ?_
  ·refine AD (n:=63) AC 2 [(1,.pt 0 0 0),(3,.v (.int .i64 w56.1)),(4,.v (.int .i64 w56.2.1)),(5,.v (.int .i64 w56.2.2.1)),(6,.v (.bool w56.2.2.2)),(29,.sl 1 (x0.2.2.2.1.map cdS.enc))] [some ⟨5,60,[AA.enc x0],false⟩] kr ?_
   refine AK AC 0 rfl (Ci (AB rfl) rfl (DY (a:= .sl 1 (x0.2.2.2.1.map cdS.enc)) kr (CB (el:=9) kr))) ?_;refine AD (n:=63) AC 3 [(1,.pt 0 0 0),(3,.v (.int .i64 w56.1)),(4,.v (.int .i64 w56.2.1)),(5,.v (.int .i64 w56.2.2.1)),(6,.v (.bool w56.2.2.2)),(33,.v (.bool (decide ((x0.2.2.2.1.length:Int)<=w56.1))))] [some ⟨5,60,[AA.enc x0],false⟩] kr ?_;rcases BE (decide ((x0.2.2.2.1.length:Int)<=w56.1)) with hc59 | hc59
   ·rw [if_pos hc59] at hj58
    rw [hc59];refine AD (n:=63) AC 3 [(1,.pt 0 0 0),(4,.v (.int .i64 w56.2.1)),(5,.v (.int .i64 w56.2.2.1)),(6,.v (.bool w56.2.2.2)),(33,.v (.bool true)),(36,.v (.bool (w56.1==0)))] [some ⟨5,60,[AA.enc x0],false⟩] kr ?_;rcases BE (w56.1==0) with hc60 | hc60
    ·rw [if_pos hc60] at hj58
     rw [hc60];refine AD (n:=63) AC 13 [(1,.pt 0 0 0),(5,.v (.int .i64 w56.2.2.1)),(6,.v (.bool w56.2.2.2)),(49,.v (.bool (decide (x0.2.2.2.2≥w56.2.1))))] [some ⟨5,60,[AA.enc x0],false⟩] kr ?_;rcases BE (decide (x0.2.2.2.2≥w56.2.1)) with hc61 | hc61
     ·rw [if_pos hc61] at hj58
      rw [hc61];refine AD (n:=63) AC 6 [(1,.pt 0 0 0),(6,.v (.bool w56.2.2.2)),(55,.v (.bool (decide (x0.2.2.2.2<=w56.2.2.1))))] [some ⟨5,60,[AA.enc x0],false⟩] kr ?_;rcases BE (decide (x0.2.2.2.2<=w56.2.2.1)) with hc62 | hc62
      ·rw [if_pos hc62] at hj58
       rw [hc62];refine AD (n:=63) AC 2 [(1,.pt 0 0 0),(55,.v (.bool true)),(57,.v (.bool w56.2.2.2))] [some ⟨5,60,[AA.enc x0],false⟩] kr ?_;rcases BE w56.2.2.2 with hc63 | hc63
       ·rw [if_pos hc63] at hj58
        rw [hc63];refine AD (n:=63) AC 6 [(2,.v (.bool true))] [some ⟨5,60,[AA.enc x0],false⟩] kr ?_;have hq:=OI hj58; subst hq;exact AL rfl (AY [] trivial ⟨lv,trivial⟩)
       ·rw [CL hc63] at hj58
        rw [hc63];refine AD (n:=63) AC 6 [(2,.v (.bool (!x0.2.2.1)))] [some ⟨5,60,[AA.enc x0],false⟩] kr ?_;have hq:=OI hj58; subst hq;exact AL rfl (AY [] trivial ⟨lv,trivial⟩)
      ·rw [CL hc62] at hj58
       rw [hc62];refine AD (n:=63) AC 8 [(2,.v (.bool false))] [some ⟨5,60,[AA.enc x0],false⟩] kr ?_;have hq:=OI hj58; subst hq;exact AL rfl (AY [] trivial ⟨lv,trivial⟩)
     ·rw [CL hc61] at hj58
      rw [hc61];refine AD (n:=63) AC 14 [(2,.v (.bool false))] [some ⟨5,60,[AA.enc x0],false⟩] kr ?_;have hq:=OI hj58; subst hq;exact AL rfl (AY [] trivial ⟨lv,trivial⟩)
    ·rw [CL hc60] at hj58
     rw [hc60];refine AD (n:=63) AC 2 [(1,.pt 0 0 0),(4,.v (.int .i64 w56.2.1)),(5,.v (.int .i64 w56.2.2.1)),(6,.v (.bool w56.2.2.2)),(33,.v (.bool true)),(36,.v (.bool false)),(38,.sl 1 (x0.2.2.2.1.map cdS.enc))] [some ⟨5,60,[AA.enc x0],false⟩] kr ?_;refine AK AC 0 rfl (Ci kr rfl (DY (a:= .sl 1 (x0.2.2.2.1.map cdS.enc)) kr (CB (el:=9) kr))) ?_;refine AD (n:=63) AC 4 [(1,.pt 0 0 0),(4,.v (.int .i64 w56.2.1)),(5,.v (.int .i64 w56.2.2.1)),(6,.v (.bool w56.2.2.2)),(43,.v (.bool (decide ((x0.2.2.2.1.length:Int) > 0))))] [some ⟨5,60,[AA.enc x0],false⟩] kr ?_;rcases BE (decide ((x0.2.2.2.1.length:Int) > 0)) with hc64 | hc64
     ·rw [if_pos hc64] at hj58
      rw [hc64];refine AD (n:=63) AC 6 [(1,.pt 0 0 0),(5,.v (.int .i64 w56.2.2.1)),(6,.v (.bool w56.2.2.2)),(49,.v (.bool (decide (x0.2.2.2.2≥w56.2.1))))] [some ⟨5,60,[AA.enc x0],false⟩] kr ?_;rcases BE (decide (x0.2.2.2.2≥w56.2.1)) with hc65 | hc65
      ·rw [if_pos hc65] at hj58
       rw [hc65];refine AD (n:=63) AC 6 [(1,.pt 0 0 0),(6,.v (.bool w56.2.2.2)),(55,.v (.bool (decide (x0.2.2.2.2<=w56.2.2.1))))] [some ⟨5,60,[AA.enc x0],false⟩] kr ?_;rcases BE (decide (x0.2.2.2.2<=w56.2.2.1)) with hc66 | hc66
       ·rw [if_pos hc66] at hj58
        rw [hc66];refine AD (n:=63) AC 2 [(1,.pt 0 0 0),(55,.v (.bool true)),(57,.v (.bool w56.2.2.2))] [some ⟨5,60,[AA.enc x0],false⟩] kr ?_;rcases BE w56.2.2.2 with hc67 | hc67
        ·rw [if_pos hc67] at hj58
         rw [hc67];refine AD (n:=63) AC 6 [(2,.v (.bool true))] [some ⟨5,60,[AA.enc x0],false⟩] kr ?_;have hq:=OI hj58; subst hq;exact AL rfl (AY [] trivial ⟨lv,trivial⟩)
        ·rw [CL hc67] at hj58
         rw [hc67];refine AD (n:=63) AC 6 [(2,.v (.bool (!x0.2.2.1)))] [some ⟨5,60,[AA.enc x0],false⟩] kr ?_;have hq:=OI hj58; subst hq;exact AL rfl (AY [] trivial ⟨lv,trivial⟩)
       ·rw [CL hc66] at hj58
        rw [hc66];refine AD (n:=63) AC 8 [(2,.v (.bool false))] [some ⟨5,60,[AA.enc x0],false⟩] kr ?_;have hq:=OI hj58; subst hq;exact AL rfl (AY [] trivial ⟨lv,trivial⟩)
      ·rw [CL hc65] at hj58
       rw [hc65];refine AD (n:=63) AC 14 [(2,.v (.bool false))] [some ⟨5,60,[AA.enc x0],false⟩] kr ?_;have hq:=OI hj58; subst hq;exact AL rfl (AY [] trivial ⟨lv,trivial⟩)
     ·rw [CL hc64] at hj58
      rw [hc64];refine AD (n:=63) AC 20 [(2,.v (.bool false))] [some ⟨5,60,[AA.enc x0],false⟩] kr ?_;have hq:=OI hj58; subst hq;exact AL rfl (AY [] trivial ⟨lv,trivial⟩)
   ·rw [CL hc59] at hj58
    rw [hc59];refine AD (n:=63) AC 30 [(2,.v (.bool false))] [some ⟨5,60,[AA.enc x0],false⟩] kr ?_;have hq:=OI hj58; subst hq;exact AL rfl (AY [] trivial ⟨lv,trivial⟩)
  refine AU ?_;have hq:=OI h; subst hq;exact ⟨⟨Fr 63 [(2,.v (.bool j58))],[]⟩,AN,.inr rfl,[.v (.bool j58)],kr,kr⟩
 ·try dsimp only at h
  refine Cl (IB x0 _ hr55) ?_;have hq:=OI h; subst hq;exact ⟨⟨Fr 63 [(2,.v (.bool w68))],[]⟩,AN,.inr rfl,[.v (.bool w68)],kr,kr⟩
def OF:List AV->Option AV:=D4 Hw (fun a=>Bb a.1) H0
theorem OM:XOk 159 OF:=by
 refine AW Tryz.func159 (c:=CD) ?h2 ⟨Tryz.call159⟩ Hw (fun a=>Bb a.1) H0 (fun a=>(by show 1<=63; decide)) ?h3 ?h4
 case h2=>kernel_rfl
 case h3=>intro b; kernel_rfl
 case h4=>exact fun a b h=>MQ a.1 b h
/- trestle/court.name -/
noncomputable def Iw:Code:=Br Tryz.f96
def Dz (x0:(List UInt8)):Nat->Int->Option ((Unit) ⊕ (Bool))
 | 0,_=>none
 | f + 1,c1 =>
  if (decide (c1 < (x0.length:Int)))=true then
  (idx x0 c1).bind fun v3 =>
  (if (decide ((v3.toNat:Int) < 97))=true then some true else (idx x0 c1).bind fun v4 =>
  some (decide ((v4.toNat:Int) > 122))).bind fun j6 =>
  if j6=true then
  some (.inr false)
  else
  Dz x0 f (wr .i64 (c1 + 1))
  else
  some (.inl ())
def Ff (x0:(List UInt8)):Option (Bool) :=
 (Dz x0 100000 0).bind fun r10 =>
 match r10 with
 | (.inl _w11) =>
  (if (decide ((x0.length:Int)≥1))=true then some (decide ((x0.length:Int)<=12)) else some false).bind fun j13 =>
  some j13
 | (.inr w15) =>
  some w15
def Iz:Cs ((List UInt8)×Unit):=(csC cdS csN)
def I4 (r:Bool):AV:=cdB.enc r
theorem JZ (x0:(List UInt8)):∀ (f:Nat) (c1:Int) (r:(Unit) ⊕ (Bool)),Dz x0 f c1=some r->SemN E0 ⟨none,false⟩ (pc Iw [1,0,1,0,0]) f ⟨Fr 28 [(0,.st x0),(3,.v (.int .i64 c1))],[]⟩ (fun e s=>match r with
 | (.inl _w)=>e=(.exit 0)/\Wk E0 s ⟨Fr 28 [(0,.st x0)],[]⟩
 | (.inr w)=>e = .ret/\Wk E0 s ⟨Fr 28 [(2,.v (.bool w))],[]⟩):=by
 intro f;induction f with
 | zero=>intro c1 r h; cases h
 | succ f ih0 =>
  intro c1 r h
  have ih:=fun (c1:Int)=>ih0 c1 r
  unfold Dz at h;refine Bw ?_;refine AH ?_;refine AJ AC [(0,.st x0),(3,.v (.int .i64 c1)),(7,.v (.bool (decide (c1 < (x0.length:Int)))))] [] ?_;refine AM (b:=(decide (c1 < (x0.length:Int)))) kr (fun hb2=>?_) (fun hb2=>?_)
  ·rw [if_pos hb2] at h
   refine AQ ?_;refine AH ?_;refine Af ?_;refine AH ?_;obtain ⟨v3,hv3,h⟩:=OB h;obtain ⟨j6,hj6,h⟩:=OB h;refine AI (s1:=⟨Fr 28 [(0,.st x0),(3,.v (.int .i64 c1)),(19,.v (.bool j6))],[]⟩) ?_ ?_
   ·refine AD (n:=28) AC 2 [(0,.st x0),(3,.v (.int .i64 c1)),(10,.st x0),(11,.v (.int .i64 c1))] [] kr ?_
    refine AK AC 0 rfl (Ci (AB rfl) rfl (TM (a:= .st x0) (b:= .v (.int .i64 c1)) kr kr (RQ (bs:=x0) (ki:= .i64) kr hv3))) ?_;refine AD (n:=28) AC 2 [(0,.st x0),(3,.v (.int .i64 c1)),(14,.v (.bool (decide ((v3.toNat:Int) < 97))))] [] kr ?_;rcases BE (decide ((v3.toNat:Int) < 97)) with hc9 | hc9
    ·rw [if_pos hc9] at hj6
     rw [hc9];refine AD (n:=28) AC 5 [(0,.st x0),(3,.v (.int .i64 c1)),(15,.tp []),(16,.tp []),(17,.tp []),(18,.tp []),(19,.v (.bool true))] [] kr ?_;have hq:=OI hj6; subst hq;exact AL rfl AN
    ·rw [CL hc9] at hj6
     rw [hc9];refine AD (n:=28) AC 2 [(0,.st x0),(3,.v (.int .i64 c1)),(14,.v (.bool false)),(15,.st x0),(16,.v (.int .i64 c1))] [] kr ?_;obtain ⟨v4,hv4,hj6⟩:=OB hj6;refine AK AC 0 rfl (Ci kr rfl (TM (a:= .st x0) (b:= .v (.int .i64 c1)) kr kr (RQ (bs:=x0) (ki:= .i64) kr hv4))) ?_;refine AD (n:=28) AC 2 [(0,.st x0),(3,.v (.int .i64 c1)),(15,.st x0),(16,.v (.int .i64 c1)),(17,.v (.int .u8 (v4.toNat:Int))),(18,.v (.bool (decide ((v4.toNat:Int) > 122)))),(19,.v (.bool (decide ((v4.toNat:Int) > 122))))] [] kr ?_;have hq:=OI hj6; subst hq;exact AL rfl AN
   refine AM (b:=j6) kr (fun hb7=>?_) (fun hb7=>?_)
   ·rw [if_pos hb7] at h
    refine AJ AC [(2,.v (.bool false))] [] ?_;refine AU ?_;have hq:=OI h; subst hq;exact ⟨rfl,AN⟩
   ·rw [CL hb7] at h
    refine AQ ?_;refine Cy AC [(0,.st x0),(3,.v (.int .i64 (wr .i64 (c1 + 1))))] [] ?_;exact As (s1:=⟨Fr 28 [(0,.st x0),(3,.v (.int .i64 (wr .i64 (c1 + 1))))],[]⟩) AN (ih (wr .i64 (c1 + 1)) h)
  ·rw [CL hb2] at h
   refine CO ?_;have hq:=OI h; subst hq;exact ⟨rfl,AN⟩
theorem N7 (x0:(List UInt8)) (r:Bool) (h:Ff x0=some r):Sem E0 ⟨none,false⟩ Iw ⟨Fr 28 (BP 0 (Iz.enc (x0,()))),[]⟩ fun e s'=>(e = .normal\/e = .ret)/\∃ xs,Em E0.P s'.fr s'.hp Tryz.f96.results.toList=some xs/\Ev xs=I4 r:=by
 unfold Ff at h;refine A8 (Bv (s1:=⟨Fr 28 [(0,.st x0)],[]⟩) AN ?_);refine AJ AC [(0,.st x0)] [] ?_;refine AH ?_;refine AJ AC [(0,.st x0),(3,.v (.int .i64 0))] [] ?_;refine Af ?_;obtain ⟨r10,hr10,h⟩:=OB h;refine CV (n:=100000) ?_;rcases r10 with w11 | w15
 ·try dsimp only at h
  refine BK (As (s1:=⟨Fr 28 [(0,.st x0),(3,.v (.int .i64 0))],[]⟩) AN (JZ x0 _ 0 _ hr10)) ?_;refine AH ?_;obtain ⟨j13,hj13,h⟩:=OB h;refine AI (s1:=⟨Fr 28 [(2,.v (.bool j13))],[]⟩) ?_ ?_
  ·refine AD (n:=28) AC 4 [(0,.st x0),(23,.v (.bool (decide ((x0.length:Int)≥1))))] [] kr ?_
   rcases BE (decide ((x0.length:Int)≥1)) with hc14 | hc14
   ·rw [if_pos hc14] at hj13
    rw [hc14];refine AD (n:=28) AC 5 [(2,.v (.bool (decide ((x0.length:Int)<=12))))] [] kr ?_;have hq:=OI hj13; subst hq;exact AL rfl AN
   ·rw [CL hc14] at hj13
    rw [hc14];refine AD (n:=28) AC 5 [(2,.v (.bool false))] [] kr ?_;have hq:=OI hj13; subst hq;exact AL rfl AN
  refine AU ?_;have hq:=OI h; subst hq;exact ⟨⟨Fr 28 [(2,.v (.bool j13))],[]⟩,AN,.inr rfl,[.v (.bool j13)],kr,kr⟩
 ·try dsimp only at h
  refine BK (As (s1:=⟨Fr 28 [(0,.st x0),(3,.v (.int .i64 0))],[]⟩) AN (JZ x0 _ 0 _ hr10)) ?_;have hq:=OI h; subst hq;exact ⟨⟨Fr 28 [(2,.v (.bool w15))],[]⟩,AN,.inr rfl,[.v (.bool w15)],kr,kr⟩
def QJ:List AV->Option AV:=D4 Iz (fun a=>Ff a.1) I4
theorem MM:XOk 96 QJ:=by
 refine AW Tryz.func96 (c:=Iw) ?h2 ⟨Tryz.call96⟩ Iz (fun a=>Ff a.1) I4 (fun a=>(by show 1<=28; decide)) ?h3 ?h4
 case h2=>kernel_rfl
 case h3=>intro b; kernel_rfl
 case h4=>exact fun a b h=>N7 a.1 b h
/- trestle/court.check$1 -/
noncomputable def JP:Code:=Br Tryz.f160
def EW (x0:(List UInt8)):Option (Bool) :=
 (Ff x0).bind fun v1 =>
 some (!v1)
def HA:Cs ((List UInt8)×Unit):=(csC cdS csN)
def HO (r:Bool):AV:=cdB.enc r
theorem LY (x0:(List UInt8)) (r:Bool) (h:EW x0=some r):Sem E0 ⟨none,false⟩ JP ⟨Fr 6 (BP 0 (HA.enc (x0,()))),[]⟩ fun e s'=>(e = .normal\/e = .ret)/\∃ xs,Em E0.P s'.fr s'.hp Tryz.f160.results.toList=some xs/\Ev xs=HO r:=by
 unfold EW at h;refine A8 (Bv (s1:=⟨Fr 6 [(0,.st x0)],[]⟩) AN ?_);refine AJ AC [(0,.st x0)] [] ?_;refine AH ?_;obtain ⟨v1,hv1,h⟩:=OB h;refine AI (s1:=⟨Fr 6 [(2,.v (.bool (!v1)))],[]⟩) ?_ ?_
 ·refine AD (n:=6) AC 1 [(3,.st x0)] [] kr ?_
  refine Ac (caps:=[]) (xs:=[.st x0]) (u:=(x0,())) rfl rfl MM rfl (AB rfl) kr kr (AP (Ab (c:=cdS) (v:=x0)) BJ) (.inl kr) hv1 ?_;exact AO AC
 refine AU ?_;have hq:=OI h; subst hq;exact ⟨⟨Fr 6 [(2,.v (.bool (!v1)))],[]⟩,AN,.inr rfl,[.v (.bool (!v1))],kr,kr⟩
def NY:List AV->Option AV:=D4 HA (fun a=>EW a.1) HO
theorem Nr:XOk 160 NY:=by
 refine AW Tryz.func160 (c:=JP) ?h2 ⟨Tryz.call160⟩ HA (fun a=>EW a.1) HO (fun a=>(by show 1<=6; decide)) ?h3 ?h4
 case h2=>kernel_rfl
 case h3=>intro b; kernel_rfl
 case h4=>exact fun a b h=>LY a.1 b h
/- slices.IndexFunc[[]string,string] -/
noncomputable def BZ:Code:=Br Tryz.f90
def Ar (x0:(List (List UInt8))):Nat->Int->Option ((Unit) ⊕ (Int))
 | 0,_=>none
 | f + 1,c1 =>
  if (decide (c1 < (x0.length:Int)))=true then
  (idx x0 c1).bind fun v3 =>
  (EW v3).bind fun v4 =>
  if v4=true then
  some (.inr c1)
  else
  Ar x0 f (wr .i64 (c1 + 1))
  else
  some (.inl ())
def Al (x0:(List (List UInt8))):Option (Int) :=
 (Ar x0 100000 0).bind fun r7 =>
 match r7 with
 | (.inl _w8) =>
  some (-1)
 | (.inr w9) =>
  some w9
def Bf:Cs ((List (List UInt8))×Unit×Unit):=(csC (cdL 1 cdS) (csC (cdF 160 csN (fun _=>rfl)) csN))
def Bi (r:Int):AV:=cdI.enc r
theorem CJ (x0:(List (List UInt8))):∀ (f:Nat) (c1:Int) (r:(Unit) ⊕ (Int)),Ar x0 f c1=some r->SemN E0 ⟨none,false⟩ (pc BZ [1,0,1,0,0]) f ⟨Fr 19 [(0,.sl 1 (x0.map cdS.enc)),(1,.fn 160 [] []),(7,.v (.int .i64 (x0.length:Int))),(8,.v (.int .i64 c1))],[]⟩ (fun e s=>match r with
 | (.inl _w)=>e=(.exit 0)/\Wk E0 s ⟨Fr 19 [],[]⟩
 | (.inr w)=>e = .ret/\Wk E0 s ⟨Fr 19 [(4,.v (.int .i64 w))],[]⟩):=by
 intro f;induction f with
 | zero=>intro c1 r h; cases h
 | succ f ih0 =>
  intro c1 r h
  have ih:=fun (c1:Int)=>ih0 c1 r
  unfold Ar at h;refine Bw ?_
  let p1:Nat×AV:=(8,.v (.int .i64 c1))
  let p2:Nat×AV:=(7,.v (.int .i64 (x0.length:Int)))
  let p3:Nat×AV:=(1,.fn 160 [] [])
  let p4:Nat×AV:=(0,.sl 1 (x0.map cdS.enc))
  refine AJ AC [p4,p3,p2,p1,(9,.v (.bool (decide (c1 < (x0.length:Int)))))] [] ?_;refine AH ?_;refine AM (b:=(decide (c1 < (x0.length:Int)))) kr (fun hb2=>?_) (fun hb2=>?_)
  ·rw [if_pos hb2] at h
   refine AQ ?_;refine AH ?_;refine Af ?_
   let p5:Nat×AV:=(5,.v (.int .i64 c1))
   refine AJ AC [p4,p3,p5,p2,p1] [] ?_;refine AH ?_;obtain ⟨v3,hv3,h⟩:=OB h;obtain ⟨v4,hv4,h⟩:=OB h;refine AI (s1:=⟨Fr 19 [p4,p3,p5,p2,p1,(16,.v (.bool v4))],[]⟩) ?_ ?_
   ·refine AD (n:=19) AC 3 [p4,p3,p5,p2,p1,(11,.fn 160 [] []),(12,.sl 1 (x0.map cdS.enc)),(13,.v (.int .i64 c1))] [] kr ?_
    refine AK AC 0 rfl (Ci (AB rfl) rfl (AS (a:= .sl 1 (x0.map cdS.enc)) (b:= .v (.int .i64 c1)) kr kr (FM (e:=cdS.enc) (el:=9) (k:=1) (ki:= .i64) kr kr hv3))) ?_;refine AD (n:=19) AC 1 [p4,p3,p5,p2,p1,(11,.fn 160 [] []),(15,.st v3)] [] kr ?_;refine Ac (caps:=[]) (xs:=[.st v3]) (u:=(v3,())) rfl rfl Nr rfl (AB rfl) kr kr (AP (Ab (c:=cdS) (v:=v3)) BJ) (.inl kr) hv4 ?_;exact AL rfl AN
   refine AM (b:=v4) kr (fun hb5=>?_) (fun hb5=>?_)
   ·rw [if_pos hb5] at h
    refine AJ AC [(4,.v (.int .i64 c1))] [] ?_;refine AU ?_;have hq:=OI h; subst hq;exact ⟨rfl,AN⟩
   ·rw [CL hb5] at h
    refine AQ ?_
    let p6:Nat×AV:=(8,.v (.int .i64 (wr .i64 (c1 + 1))))
    refine Cy AC [p4,p3,p2,p6] [] ?_;exact As (s1:=⟨Fr 19 [p4,p3,p2,p6],[]⟩) AN (ih (wr .i64 (c1 + 1)) h)
  ·rw [CL hb2] at h
   refine CO ?_;have hq:=OI h; subst hq;exact ⟨rfl,AN⟩
theorem Dw (x0:(List (List UInt8))) (r:Int) (h:Al x0=some r):Sem E0 ⟨none,false⟩ BZ ⟨Fr 19 (BP 0 (Bf.enc (x0,(),()))),[]⟩ fun e s'=>(e = .normal\/e = .ret)/\∃ xs,Em E0.P s'.fr s'.hp Tryz.f90.results.toList=some xs/\Ev xs=Bi r:=by
 unfold Al at h
 let p1:Nat×AV:=(1,.fn 160 [] [])
 let p2:Nat×AV:=(0,.sl 1 (x0.map cdS.enc))
 refine A8 (Bv (s1:=⟨Fr 19 [p2,p1],[]⟩) AN ?_);refine AJ AC [p2,p1] [] ?_;refine AH ?_;refine AH ?_
 let p3:Nat×AV:=(8,.v (.int .i64 0))
 let p4:Nat×AV:=(7,.v (.int .i64 (x0.length:Int)))
 refine AI (s1:=⟨Fr 19 [p2,p1,p4,p3],[]⟩) ?_ ?_
 ·refine AD (n:=19) AC 1 [p2,p1,(6,.sl 1 (x0.map cdS.enc))] [] kr ?_
  refine AK AC 0 rfl (Ci (AB rfl) rfl (DY (a:= .sl 1 (x0.map cdS.enc)) kr (CB (el:=9) kr))) ?_;exact AO AC
 refine Af ?_;obtain ⟨r7,hr7,h⟩:=OB h;refine CV (n:=100000) ?_;rcases r7 with w8 | w9
 ·try dsimp only at h
  refine BK (As (s1:=⟨Fr 19 [p2,p1,p4,p3],[]⟩) AN (CJ x0 _ 0 _ hr7)) ?_;refine AJ AC [(4,.v (.int .i64 (-1)))] [] ?_;refine AU ?_;have hq:=OI h; subst hq;exact ⟨⟨Fr 19 [(4,.v (.int .i64 (-1)))],[]⟩,AN,.inr rfl,[.v (.int .i64 (-1))],kr,kr⟩
 ·try dsimp only at h
  refine BK (As (s1:=⟨Fr 19 [p2,p1,p4,p3],[]⟩) AN (CJ x0 _ 0 _ hr7)) ?_;have hq:=OI h; subst hq;exact ⟨⟨Fr 19 [(4,.v (.int .i64 w9))],[]⟩,AN,.inr rfl,[.v (.int .i64 w9)],kr,kr⟩
def D8:List AV->Option AV:=D4 Bf (fun a=>Al a.1) Bi
theorem EB:XOk 90 D8:=by
 refine AW Tryz.func90 (c:=BZ) ?h2 ⟨Tryz.call90⟩ Bf (fun a=>Al a.1) Bi (fun a=>(by show 2<=19; decide)) ?h3 ?h4
 case h2=>kernel_rfl
 case h3=>intro b; kernel_rfl
 case h4=>exact fun a b h=>Dw a.1 b h
/- slices.ContainsFunc[[]string,string] -/
noncomputable def CE:Code:=Br Tryz.f36
def AT (x0:(List (List UInt8))):Option (Bool) :=
 (Al x0).bind fun v1 =>
 some (decide (v1≥0))
def BQ:Cs ((List (List UInt8))×Unit×Unit):=(csC (cdL 1 cdS) (csC (cdF 160 csN (fun _=>rfl)) csN))
def BR (r:Bool):AV:=cdB.enc r
theorem Df (x0:(List (List UInt8))) (r:Bool) (h:AT x0=some r):Sem E0 ⟨none,false⟩ CE ⟨Fr 9 (BP 0 (BQ.enc (x0,(),()))),[]⟩ fun e s'=>(e = .normal\/e = .ret)/\∃ xs,Em E0.P s'.fr s'.hp Tryz.f36.results.toList=some xs/\Ev xs=BR r:=by
 unfold AT at h;refine A8 (Bv (s1:=⟨Fr 9 [(0,.sl 1 (x0.map cdS.enc)),(1,.fn 160 [] [])],[]⟩) AN ?_);refine AJ AC [(0,.sl 1 (x0.map cdS.enc)),(1,.fn 160 [] [])] [] ?_;refine AH ?_;obtain ⟨v1,hv1,h⟩:=OB h
 let p1:Nat×AV:=(4,.v (.bool (decide (v1≥0))))
 refine AI (s1:=⟨Fr 9 [p1],[]⟩) ?_ ?_
 ·refine AD (n:=9) AC 2 [(5,.sl 1 (x0.map cdS.enc)),(6,.fn 160 [] [])] [] kr ?_
  refine Ac (caps:=[]) (xs:=[.sl 1 (x0.map cdS.enc),.fn 160 [] []]) (u:=(x0,(),())) rfl rfl EB rfl (AB rfl) kr kr (AP (Ab (c:=(cdL 1 cdS)) (v:=x0)) (AP (Sm.fn BJ) BJ)) (.inl kr) hv1 ?_;exact AO AC
 refine AU ?_;have hq:=OI h; subst hq;exact ⟨⟨Fr 9 [p1],[]⟩,AN,.inr rfl,[.v (.bool (decide (v1≥0)))],kr,kr⟩
def Do:List AV->Option AV:=D4 BQ (fun a=>AT a.1) BR
theorem CN:XOk 36 Do:=by
 refine AW Tryz.func36 (c:=CE) ?h2 ⟨Tryz.call36⟩ BQ (fun a=>AT a.1) BR (fun a=>(by show 2<=9; decide)) ?h3 ?h4
 case h2=>kernel_rfl
 case h3=>intro b; kernel_rfl
 case h4=>exact fun a b h=>Df a.1 b h
/- slices.Index[[]string,string] -/
noncomputable def DI:Code:=Br Tryz.f41
def Ax (x0:(List (List UInt8))) (x1:(List UInt8)):Nat->Int->Option ((Unit) ⊕ (Int))
 | 0,_=>none
 | f + 1,c1 =>
  if (decide (c1 < (x0.length:Int)))=true then
  (idx x0 c1).bind fun v3 =>
  if (x1==v3)=true then
  some (.inr c1)
  else
  Ax x0 x1 f (wr .i64 (c1 + 1))
  else
  some (.inl ())
def BH (x0:(List (List UInt8))) (x1:(List UInt8)):Option (Int) :=
 (Ax x0 x1 100000 0).bind fun r6 =>
 match r6 with
 | (.inl _w7) =>
  some (-1)
 | (.inr w8) =>
  some w8
def DM:Cs ((List (List UInt8))×(List UInt8)×Unit):=(csC (cdL 1 cdS) (csC cdS csN))
def DO (r:Int):AV:=cdI.enc r
theorem ED (x0:(List (List UInt8))) (x1:(List UInt8)):∀ (f:Nat) (c1:Int) (r:(Unit) ⊕ (Int)),Ax x0 x1 f c1=some r->SemN E0 ⟨none,false⟩ (pc DI [1,0,1,0,0]) f ⟨Fr 19 [(0,.sl 1 (x0.map cdS.enc)),(1,.st x1),(7,.v (.int .i64 (x0.length:Int))),(8,.v (.int .i64 c1))],[]⟩ (fun e s=>match r with
 | (.inl _w)=>e=(.exit 0)/\Wk E0 s ⟨Fr 19 [],[]⟩
 | (.inr w)=>e = .ret/\Wk E0 s ⟨Fr 19 [(4,.v (.int .i64 w))],[]⟩):=by
 intro f;induction f with
 | zero=>intro c1 r h; cases h
 | succ f ih0 =>
  intro c1 r h
  have ih:=fun (c1:Int)=>ih0 c1 r
  unfold Ax at h;refine Bw ?_
  let p1:Nat×AV:=(8,.v (.int .i64 c1))
  let p2:Nat×AV:=(7,.v (.int .i64 (x0.length:Int)))
  let p3:Nat×AV:=(0,.sl 1 (x0.map cdS.enc))
  refine AJ AC [p3,(1,.st x1),p2,p1,(9,.v (.bool (decide (c1 < (x0.length:Int)))))] [] ?_;refine AH ?_;refine AM (b:=(decide (c1 < (x0.length:Int)))) kr (fun hb2=>?_) (fun hb2=>?_)
  ·rw [if_pos hb2] at h
   refine AQ ?_;refine AH ?_;refine Af ?_
   let p4:Nat×AV:=(5,.v (.int .i64 c1))
   refine AJ AC [p3,(1,.st x1),p4,p2,p1] [] ?_;refine AH ?_;obtain ⟨v3,hv3,h⟩:=OB h;refine AI (s1:=⟨Fr 19 [p3,(1,.st x1),p4,p2,p1,(16,.v (.bool (x1==v3)))],[]⟩) ?_ ?_
   ·refine AD (n:=19) AC 3 [p3,(1,.st x1),p4,p2,p1,(11,.st x1),(12,.sl 1 (x0.map cdS.enc)),(13,.v (.int .i64 c1))] [] kr ?_
    refine AK AC 0 rfl (Ci (AB rfl) rfl (AS (a:= .sl 1 (x0.map cdS.enc)) (b:= .v (.int .i64 c1)) kr kr (FM (e:=cdS.enc) (el:=9) (k:=1) (ki:= .i64) kr kr hv3))) ?_;exact AO AC
   refine AM (b:=(x1==v3)) kr (fun hb4=>?_) (fun hb4=>?_)
   ·rw [if_pos hb4] at h
    refine AJ AC [(4,.v (.int .i64 c1))] [] ?_;refine AU ?_;have hq:=OI h; subst hq;exact ⟨rfl,AN⟩
   ·rw [CL hb4] at h
    refine AQ ?_
    let p5:Nat×AV:=(8,.v (.int .i64 (wr .i64 (c1 + 1))))
    refine Cy AC [p3,(1,.st x1),p2,p5] [] ?_;exact As (s1:=⟨Fr 19 [p3,(1,.st x1),p2,p5],[]⟩) AN (ih (wr .i64 (c1 + 1)) h)
  ·rw [CL hb2] at h
   refine CO ?_;have hq:=OI h; subst hq;exact ⟨rfl,AN⟩
theorem Gt (x0:(List (List UInt8))) (x1:(List UInt8)) (r:Int) (h:BH x0 x1=some r):Sem E0 ⟨none,false⟩ DI ⟨Fr 19 (BP 0 (DM.enc (x0,x1,()))),[]⟩ fun e s'=>(e = .normal\/e = .ret)/\∃ xs,Em E0.P s'.fr s'.hp Tryz.f41.results.toList=some xs/\Ev xs=DO r:=by
 unfold BH at h
 let p1:Nat×AV:=(0,.sl 1 (x0.map cdS.enc))
 refine A8 (Bv (s1:=⟨Fr 19 [p1,(1,.st x1)],[]⟩) AN ?_);refine AJ AC [p1,(1,.st x1)] [] ?_;refine AH ?_;refine AH ?_
 let p2:Nat×AV:=(8,.v (.int .i64 0))
 let p3:Nat×AV:=(7,.v (.int .i64 (x0.length:Int)))
 refine AI (s1:=⟨Fr 19 [p1,(1,.st x1),p3,p2],[]⟩) ?_ ?_
 ·refine AD (n:=19) AC 1 [p1,(1,.st x1),(6,.sl 1 (x0.map cdS.enc))] [] kr ?_
  refine AK AC 0 rfl (Ci (AB rfl) rfl (DY (a:= .sl 1 (x0.map cdS.enc)) kr (CB (el:=9) kr))) ?_;exact AO AC
 refine Af ?_;obtain ⟨r6,hr6,h⟩:=OB h;refine CV (n:=100000) ?_;rcases r6 with w7 | w8
 ·try dsimp only at h
  refine BK (As (s1:=⟨Fr 19 [p1,(1,.st x1),p3,p2],[]⟩) AN (ED x0 x1 _ 0 _ hr6)) ?_;refine AJ AC [(4,.v (.int .i64 (-1)))] [] ?_;refine AU ?_;have hq:=OI h; subst hq;exact ⟨⟨Fr 19 [(4,.v (.int .i64 (-1)))],[]⟩,AN,.inr rfl,[.v (.int .i64 (-1))],kr,kr⟩
 ·try dsimp only at h
  refine BK (As (s1:=⟨Fr 19 [p1,(1,.st x1),p3,p2],[]⟩) AN (ED x0 x1 _ 0 _ hr6)) ?_;have hq:=OI h; subst hq;exact ⟨⟨Fr 19 [(4,.v (.int .i64 w8))],[]⟩,AN,.inr rfl,[.v (.int .i64 w8)],kr,kr⟩
def Hj:List AV->Option AV:=D4 DM (fun a=>BH a.1 a.2.1) DO
theorem Ek:XOk 41 Hj:=by
 refine AW Tryz.func41 (c:=DI) ?h2 ⟨Tryz.call41⟩ DM (fun a=>BH a.1 a.2.1) DO (fun a=>(by show 2<=19; decide)) ?h3 ?h4
 case h2=>kernel_rfl
 case h3=>intro b; kernel_rfl
 case h4=>exact fun a b h=>Gt a.1 a.2.1 b h
/- slices.Contains[[]string,string] -/
noncomputable def EC:Code:=Br Tryz.f97
def An (x0:(List (List UInt8))) (x1:(List UInt8)):Option (Bool) :=
 (BH x0 x1).bind fun v1 =>
 some (decide (v1≥0))
def Cv:Cs ((List (List UInt8))×(List UInt8)×Unit):=(csC (cdL 1 cdS) (csC cdS csN))
def Cw (r:Bool):AV:=cdB.enc r
theorem GT (x0:(List (List UInt8))) (x1:(List UInt8)) (r:Bool) (h:An x0 x1=some r):Sem E0 ⟨none,false⟩ EC ⟨Fr 9 (BP 0 (Cv.enc (x0,x1,()))),[]⟩ fun e s'=>(e = .normal\/e = .ret)/\∃ xs,Em E0.P s'.fr s'.hp Tryz.f97.results.toList=some xs/\Ev xs=Cw r:=by
 unfold An at h;refine A8 (Bv (s1:=⟨Fr 9 [(0,.sl 1 (x0.map cdS.enc)),(1,.st x1)],[]⟩) AN ?_);refine AJ AC [(0,.sl 1 (x0.map cdS.enc)),(1,.st x1)] [] ?_;refine AH ?_;obtain ⟨v1,hv1,h⟩:=OB h
 let p1:Nat×AV:=(4,.v (.bool (decide (v1≥0))))
 refine AI (s1:=⟨Fr 9 [p1],[]⟩) ?_ ?_
 ·refine AD (n:=9) AC 2 [(5,.sl 1 (x0.map cdS.enc)),(6,.st x1)] [] kr ?_
  refine Ac (caps:=[]) (xs:=[.sl 1 (x0.map cdS.enc),.st x1]) (u:=(x0,x1,())) rfl rfl Ek rfl (AB rfl) kr kr (AP (Ab (c:=(cdL 1 cdS)) (v:=x0)) (AP (Ab (c:=cdS) (v:=x1)) BJ)) (.inl kr) hv1 ?_;exact AO AC
 refine AU ?_;have hq:=OI h; subst hq;exact ⟨⟨Fr 9 [p1],[]⟩,AN,.inr rfl,[.v (.bool (decide (v1≥0)))],kr,kr⟩
def Gm:List AV->Option AV:=D4 Cv (fun a=>An a.1 a.2.1) Cw
theorem CQ:XOk 97 Gm:=by
 refine AW Tryz.func97 (c:=EC) ?h2 ⟨Tryz.call97⟩ Cv (fun a=>An a.1 a.2.1) Cw (fun a=>(by show 2<=9; decide)) ?h3 ?h4
 case h2=>kernel_rfl
 case h3=>intro b; kernel_rfl
 case h4=>exact fun a b h=>GT a.1 a.2.1 b h
/- trestle/court.check$2 -/
noncomputable def JQ:Code:=Br Tryz.f161
def EX (x0:AE) (x1:AE):Option (Bool) :=
 (if (x0.1==1)=true then (An x0.2.2.2.1 x1.2.1).bind fun v1 =>
 some v1 else some false).bind fun j3 =>
 some j3
def HB:Cs (AE×AE×Unit):=(csC AA (csC (cdP AA) csN))
def HP (r:Bool):AV:=cdB.enc r
theorem LZ (x0:AE) (x1:AE) (r:Bool) (h:EX x0 x1=some r):Sem E0 ⟨none,false⟩ JQ ⟨Fr 14 (BP 0 (HB.enc (x0,x1,()))),[]⟩ fun e s'=>(e = .normal\/e = .ret)/\∃ xs,Em E0.P s'.fr s'.hp Tryz.f161.results.toList=some xs/\Ev xs=HP r:=by
 unfold EX at h;refine A8 (Bv (s1:=⟨Fr 14 [(0,AA.enc x0),(1,.pe (AA.enc x1) 0)],[]⟩) AN ?_);refine AJ AC [(1,.pe (AA.enc x1) 0),(2,.pt 0 0 0)] [some ⟨5,60,[AA.enc x0],false⟩] ?_;refine AH ?_;obtain ⟨j3,hj3,h⟩:=OB h;refine AI (s1:=⟨Fr 14 [(3,.v (.bool j3))],[]⟩) ?_ ?_
 ·refine AD (n:=14) AC 4 [(1,.pe (AA.enc x1) 0),(2,.pt 0 0 0),(7,.v (.bool (x0.1==1)))] [some ⟨5,60,[AA.enc x0],false⟩] kr ?_
  rcases BE (x0.1==1) with hc4 | hc4
  ·rw [if_pos hc4] at hj3
   rw [hc4];refine AD (n:=14) AC 4 [(7,.v (.bool true)),(9,.sl 1 (x0.2.2.2.1.map cdS.enc)),(11,.st x1.2.1)] [some ⟨5,60,[AA.enc x0],false⟩] kr ?_;obtain ⟨v1,hv1,hj3⟩:=OB hj3;refine Ac (caps:=[]) (xs:=[.sl 1 (x0.2.2.2.1.map cdS.enc),.st x1.2.1]) (u:=(x0.2.2.2.1,x1.2.1,())) rfl rfl CQ rfl kr kr kr (AP (Ab (c:=(cdL 1 cdS)) (v:=x0.2.2.2.1)) (AP (Ab (c:=cdS) (v:=x1.2.1)) BJ)) (.inl kr) hv1 ?_;refine AD (n:=14) AC 2 [(3,.v (.bool v1))] [some ⟨5,60,[AA.enc x0],false⟩] kr ?_;have hq:=OI hj3; subst hq;exact AL rfl (AY [] trivial ⟨lv,trivial⟩)
  ·rw [CL hc4] at hj3
   rw [hc4];refine AD (n:=14) AC 7 [(3,.v (.bool false))] [some ⟨5,60,[AA.enc x0],false⟩] kr ?_;have hq:=OI hj3; subst hq;exact AL rfl (AY [] trivial ⟨lv,trivial⟩)
 refine AU ?_;have hq:=OI h; subst hq;exact ⟨⟨Fr 14 [(3,.v (.bool j3))],[]⟩,AN,.inr rfl,[.v (.bool j3)],kr,kr⟩
def NZ:List AV->Option AV:=D4 HB (fun a=>EX a.1 a.2.1) HP
theorem Ns:XOk 161 NZ:=by
 refine AW Tryz.func161 (c:=JQ) ?h2 ⟨Tryz.call161⟩ HB (fun a=>EX a.1 a.2.1) HP (fun a=>(by show 2<=14; decide)) ?h3 ?h4
 case h2=>kernel_rfl
 case h3=>intro b; kernel_rfl
 case h4=>exact fun a b h=>LZ a.1 a.2.1 b h
/- slices.IndexFunc[[]trestle/api.Clause,trestle/api.Clause] -/
noncomputable def BA:Code:=Br Tryz.f85
def Aj (x0:(List AE)) (x1:AE):Nat->Int->Option ((Unit) ⊕ (Int))
 | 0,_=>none
 | f + 1,c1 =>
  if (decide (c1 < (x0.length:Int)))=true then
  (idx x0 c1).bind fun v3 =>
  (EX v3 x1).bind fun v4 =>
  if v4=true then
  some (.inr c1)
  else
  Aj x0 x1 f (wr .i64 (c1 + 1))
  else
  some (.inl ())
def Aa (x0:(List AE)) (x1:AE):Option (Int) :=
 (Aj x0 x1 100000 0).bind fun r7 =>
 match r7 with
 | (.inl _w8) =>
  some (-1)
 | (.inr w9) =>
  some w9
def BC:Cs ((List AE)×AE×Unit):=(csC (cdL 5 AA) (csC (cdF 161 (csE (cdP AA)) (fun _=>rfl)) csN))
def BD (r:Int):AV:=cdI.enc r
theorem Bt (x0:(List AE)) (x1:AE):∀ (f:Nat) (c1:Int) (r:(Unit) ⊕ (Int)),Aj x0 x1 f c1=some r->SemN E0 ⟨none,false⟩ (pc BA [1,0,1,0,0]) f ⟨Fr 19 [(0,.sl 5 (x0.map AA.enc)),(1,.fn 161 [] [.pe (AA.enc x1) 0]),(7,.v (.int .i64 (x0.length:Int))),(8,.v (.int .i64 c1))],[]⟩ (fun e s=>match r with
 | (.inl _w)=>e=(.exit 0)/\Wk E0 s ⟨Fr 19 [],[]⟩
 | (.inr w)=>e = .ret/\Wk E0 s ⟨Fr 19 [(4,.v (.int .i64 w))],[]⟩):=by
 intro f;induction f with
 | zero=>intro c1 r h; cases h
 | succ f ih0 =>
  intro c1 r h
  have ih:=fun (c1:Int)=>ih0 c1 r
  unfold Aj at h;refine Bw ?_
  let p1:Nat×AV:=(8,.v (.int .i64 c1))
  let p2:Nat×AV:=(7,.v (.int .i64 (x0.length:Int)))
  let p3:Nat×AV:=(1,.fn 161 [] [.pe (AA.enc x1) 0])
  let p4:Nat×AV:=(0,.sl 5 (x0.map AA.enc))
  refine AJ AC [p4,p3,p2,p1,(9,.v (.bool (decide (c1 < (x0.length:Int)))))] [] ?_;refine AH ?_;refine AM (b:=(decide (c1 < (x0.length:Int)))) kr (fun hb2=>?_) (fun hb2=>?_)
  ·rw [if_pos hb2] at h
   refine AQ ?_;refine AH ?_;refine Af ?_
   let p5:Nat×AV:=(5,.v (.int .i64 c1))
   refine AJ AC [p4,p3,p5,p2,p1] [] ?_;refine AH ?_;obtain ⟨v3,hv3,h⟩:=OB h;obtain ⟨v4,hv4,h⟩:=OB h;refine AI (s1:=⟨Fr 19 [p4,p3,p5,p2,p1,(16,.v (.bool v4))],[]⟩) ?_ ?_
   ·let p6:Nat×AV:=(11,.fn 161 [] [.pe (AA.enc x1) 0])
    refine AD (n:=19) AC 3 [p4,p3,p5,p2,p1,p6,(12,.sl 5 (x0.map AA.enc)),(13,.v (.int .i64 c1))] [] kr ?_;refine AK AC 0 rfl (Ci (AB rfl) rfl (AS (a:= .sl 5 (x0.map AA.enc)) (b:= .v (.int .i64 c1)) kr kr (FM (e:=AA.enc) (el:=60) (k:=5) (ki:= .i64) kr kr hv3))) ?_;refine AD (n:=19) AC 1 [p4,p3,p5,p2,p1,p6,(15,AA.enc v3)] [] kr ?_;refine Ac (caps:=[.pe (AA.enc x1) 0]) (xs:=[AA.enc v3]) (u:=(v3,x1,())) rfl rfl Ns rfl (AB rfl) kr kr (AP (Ab (c:=AA) (v:=v3)) (AP (Ab (c:=(cdP AA)) (v:=x1)) BJ)) (.inl kr) hv4 ?_;exact AL rfl AN
   refine AM (b:=v4) kr (fun hb5=>?_) (fun hb5=>?_)
   ·rw [if_pos hb5] at h
    refine AJ AC [(4,.v (.int .i64 c1))] [] ?_;refine AU ?_;have hq:=OI h; subst hq;exact ⟨rfl,AN⟩
   ·rw [CL hb5] at h
    refine AQ ?_
    let p7:Nat×AV:=(8,.v (.int .i64 (wr .i64 (c1 + 1))))
    refine Cy AC [p4,p3,p2,p7] [] ?_;exact As (s1:=⟨Fr 19 [p4,p3,p2,p7],[]⟩) AN (ih (wr .i64 (c1 + 1)) h)
  ·rw [CL hb2] at h
   refine CO ?_;have hq:=OI h; subst hq;exact ⟨rfl,AN⟩
theorem DG (x0:(List AE)) (x1:AE) (r:Int) (h:Aa x0 x1=some r):Sem E0 ⟨none,false⟩ BA ⟨Fr 19 (BP 0 (BC.enc (x0,x1,()))),[]⟩ fun e s'=>(e = .normal\/e = .ret)/\∃ xs,Em E0.P s'.fr s'.hp Tryz.f85.results.toList=some xs/\Ev xs=BD r:=by
 unfold Aa at h
 let p1:Nat×AV:=(1,.fn 161 [] [.pe (AA.enc x1) 0])
 let p2:Nat×AV:=(0,.sl 5 (x0.map AA.enc))
 refine A8 (Bv (s1:=⟨Fr 19 [p2,p1],[]⟩) AN ?_);refine AJ AC [p2,p1] [] ?_;refine AH ?_;refine AH ?_
 let p3:Nat×AV:=(8,.v (.int .i64 0))
 let p4:Nat×AV:=(7,.v (.int .i64 (x0.length:Int)))
 refine AI (s1:=⟨Fr 19 [p2,p1,p4,p3],[]⟩) ?_ ?_
 ·refine AD (n:=19) AC 1 [p2,p1,(6,.sl 5 (x0.map AA.enc))] [] kr ?_
  refine AK AC 0 rfl (Ci (AB rfl) rfl (DY (a:= .sl 5 (x0.map AA.enc)) kr (CB (el:=60) kr))) ?_;exact AO AC
 refine Af ?_;obtain ⟨r7,hr7,h⟩:=OB h;refine CV (n:=100000) ?_;rcases r7 with w8 | w9
 ·try dsimp only at h
  refine BK (As (s1:=⟨Fr 19 [p2,p1,p4,p3],[]⟩) AN (Bt x0 x1 _ 0 _ hr7)) ?_;refine AJ AC [(4,.v (.int .i64 (-1)))] [] ?_;refine AU ?_;have hq:=OI h; subst hq;exact ⟨⟨Fr 19 [(4,.v (.int .i64 (-1)))],[]⟩,AN,.inr rfl,[.v (.int .i64 (-1))],kr,kr⟩
 ·try dsimp only at h
  refine BK (As (s1:=⟨Fr 19 [p2,p1,p4,p3],[]⟩) AN (Bt x0 x1 _ 0 _ hr7)) ?_;have hq:=OI h; subst hq;exact ⟨⟨Fr 19 [(4,.v (.int .i64 w9))],[]⟩,AN,.inr rfl,[.v (.int .i64 w9)],kr,kr⟩
def DQ:List AV->Option AV:=D4 BC (fun a=>Aa a.1 a.2.1) BD
theorem DR:XOk 85 DQ:=by
 refine AW Tryz.func85 (c:=BA) ?h2 ⟨Tryz.call85⟩ BC (fun a=>Aa a.1 a.2.1) BD (fun a=>(by show 2<=19; decide)) ?h3 ?h4
 case h2=>kernel_rfl
 case h3=>intro b; kernel_rfl
 case h4=>exact fun a b h=>DG a.1 a.2.1 b h
/- slices.ContainsFunc[[]trestle/api.Clause,trestle/api.Clause] -/
noncomputable def Bp:Code:=Br Tryz.f53
def AR (x0:(List AE)) (x1:AE):Option (Bool) :=
 (Aa x0 x1).bind fun v1 =>
 some (decide (v1≥0))
def A5:Cs ((List AE)×AE×Unit):=(csC (cdL 5 AA) (csC (cdF 161 (csE (cdP AA)) (fun _=>rfl)) csN))
def A6 (r:Bool):AV:=cdB.enc r
theorem Cz (x0:(List AE)) (x1:AE) (r:Bool) (h:AR x0 x1=some r):Sem E0 ⟨none,false⟩ Bp ⟨Fr 9 (BP 0 (A5.enc (x0,x1,()))),[]⟩ fun e s'=>(e = .normal\/e = .ret)/\∃ xs,Em E0.P s'.fr s'.hp Tryz.f53.results.toList=some xs/\Ev xs=A6 r:=by
 unfold AR at h
 let p1:Nat×AV:=(1,.fn 161 [] [.pe (AA.enc x1) 0])
 let p2:Nat×AV:=(0,.sl 5 (x0.map AA.enc))
 refine A8 (Bv (s1:=⟨Fr 9 [p2,p1],[]⟩) AN ?_);refine AJ AC [p2,p1] [] ?_;refine AH ?_;obtain ⟨v1,hv1,h⟩:=OB h
 let p3:Nat×AV:=(4,.v (.bool (decide (v1≥0))))
 refine AI (s1:=⟨Fr 9 [p3],[]⟩) ?_ ?_
 ·refine AD (n:=9) AC 2 [(5,.sl 5 (x0.map AA.enc)),(6,.fn 161 [] [.pe (AA.enc x1) 0])] [] kr ?_
  refine Ac (caps:=[]) (xs:=[.sl 5 (x0.map AA.enc),.fn 161 [] [.pe (AA.enc x1) 0]]) (u:=(x0,x1,())) rfl rfl DR rfl (AB rfl) kr kr (AP (Ab (c:=(cdL 5 AA)) (v:=x0)) (AP (Sm.fn (Ou (Ab (c:=(cdP AA)) (v:=x1)))) BJ)) (.inl kr) hv1 ?_;exact AO AC
 refine AU ?_;have hq:=OI h; subst hq;exact ⟨⟨Fr 9 [p3],[]⟩,AN,.inr rfl,[.v (.bool (decide (v1≥0)))],kr,kr⟩
def DC:List AV->Option AV:=D4 A5 (fun a=>AR a.1 a.2.1) A6
theorem DD:XOk 53 DC:=by
 refine AW Tryz.func53 (c:=Bp) ?h2 ⟨Tryz.call53⟩ A5 (fun a=>AR a.1 a.2.1) A6 (fun a=>(by show 2<=9; decide)) ?h3 ?h4
 case h2=>kernel_rfl
 case h3=>intro b; kernel_rfl
 case h4=>exact fun a b h=>Cz a.1 a.2.1 b h
/- trestle/court.check -/
noncomputable def IQ:Code:=Br Tryz.f128
def Db (x0:(List AE)) (x1:AE):Nat->Int->Option ((Unit) ⊕ (Int))
 | 0,_=>none
 | f + 1,c9 =>
  if (decide (c9 < (x1.2.2.2.1.length:Int)))=true then
  (idx x1.2.2.2.1 c9).bind fun v11 =>
  if (DN 0 c9 x1.2.2.2.1.length)=true then
  (An ((x1.2.2.2.1.take c9.toNat).drop (0:Int).toNat) v11).bind fun v13 =>
  if v13=true then
  some (.inr 5)
  else
  Db x0 x1 f (wr .i64 (c9 + 1))
  else none
  else
  some (.inl ())
def FY (x0:(List AE)) (x1:AE):Option (Int) :=
 (Bb x1).bind fun v1 =>
 if (!v1)=true then
 some 30
 else
 (if (!(x1.2.1==[]))=true then (Ff x1.2.1).bind fun v3 =>
 if (!v3)=true then some true else (AT x1.2.2.2.1).bind fun v4 =>
 some v4 else (AT x1.2.2.2.1).bind fun v5 =>
 some v5).bind fun j7 =>
 if j7=true then
 some 4
 else
 (Db x0 x1 100000 0).bind fun r16 =>
 match r16 with
 | (.inl _w17) =>
  (if (x1.2.1==[])=true then some true else (AR x0 x1).bind fun v18 =>
  some v18).bind fun j20 =>
  if j20=true then
  some 0
  else
  some 31
 | (.inr w23) =>
  some w23
def IU:Cs ((List AE)×AE×Unit):=(csC (cdL 5 AA) (csC AA csN))
def IY (r:Int):AV:=cdI.enc r
theorem Ik (x0:(List AE)) (x1:AE):∀ (f:Nat) (c9:Int) (r:(Unit) ⊕ (Int)),Db x0 x1 f c9=some r->SemN E0 ⟨none,false⟩ (pc IQ [1,1,1,0,1,0,0]) f ⟨Fr 47 [(0,.sl 5 (x0.map AA.enc)),(3,.pt 0 0 0),(25,.sl 1 (x1.2.2.2.1.map cdS.enc)),(26,.v (.int .i64 (x1.2.2.2.1.length:Int))),(27,.v (.int .i64 c9))],[some ⟨5,60,[AA.enc x1],false⟩]⟩ (fun e s=>match r with
 | (.inl _w)=>e=(.exit 0)/\Wk E0 s ⟨Fr 47 [(0,.sl 5 (x0.map AA.enc)),(3,.pt 0 0 0)],[some ⟨5,60,[AA.enc x1],false⟩]⟩
 | (.inr w)=>e = .ret/\Wk E0 s ⟨Fr 47 [(4,.v (.int .i64 w))],[]⟩):=by
 intro f;induction f with
 | zero=>intro c9 r h; cases h
 | succ f ih0 =>
  intro c9 r h
  have ih:=fun (c9:Int)=>ih0 c9 r
  unfold Db at h;refine Bw ?_
  let p1:Option Blk:=some ⟨5,60,[AA.enc x1],false⟩
  let p2:Nat×AV:=(27,.v (.int .i64 c9))
  let p3:Nat×AV:=(26,.v (.int .i64 (x1.2.2.2.1.length:Int)))
  let p4:Nat×AV:=(25,.sl 1 (x1.2.2.2.1.map cdS.enc))
  let p5:Nat×AV:=(3,.pt 0 0 0)
  let p6:Nat×AV:=(0,.sl 5 (x0.map AA.enc))
  refine AJ AC [p6,p5,p4,p3,p2,(28,.v (.bool (decide (c9 < (x1.2.2.2.1.length:Int)))))] [p1] ?_;refine AH ?_;refine AM (b:=(decide (c9 < (x1.2.2.2.1.length:Int)))) kr (fun hb10=>?_) (fun hb10=>?_)
  ·rw [if_pos hb10] at h
   refine AQ ?_;refine AH ?_;refine Af ?_;refine AH ?_;obtain ⟨v11,hv11,h⟩:=OB h;refine AI (s1:=⟨Fr 47 [p6,p5,(5,.v (.int .i64 c9)),(6,.st v11),p4,p3,p2],[p1]⟩) ?_ ?_
   ·refine AD (n:=47) AC 1 [p6,p5,p4,p3,p2,(29,.v (.int .i64 c9))] [p1] kr ?_
    refine AK AC 0 rfl (Ci (AB rfl) rfl (AS (a:= .sl 1 (x1.2.2.2.1.map cdS.enc)) (b:= .v (.int .i64 c9)) kr kr (FM (e:=cdS.enc) (el:=9) (k:=1) (ki:= .i64) kr kr hv11))) ?_;exact AO AC
   refine AH ?_;by_cases hk12:(DN 0 c9 x1.2.2.2.1.length)=true
   case neg=>rw [if_neg hk12] at h; cases h
   rw [if_pos hk12] at h;obtain ⟨v13,hv13,h⟩:=OB h;refine AI (s1:=⟨Fr 47 [p6,p5,p4,p3,p2,(37,.v (.bool v13))],[p1]⟩) ?_ ?_
   ·refine AD (n:=47) AC 3 [p6,p5,(6,.st v11),p4,p3,p2,(33,.sl 1 (x1.2.2.2.1.map cdS.enc)),(34,.v (.int .i64 c9))] [p1] kr ?_
    refine AK AC 0 rfl (Ci (AB rfl) rfl (Ei (a:= .sl 1 (x1.2.2.2.1.map cdS.enc)) (l:=none) (u:=(some (.v (.int .i64 c9)))) (m:=none) kr kr kr rfl (KO (xs:=x1.2.2.2.1) (e:=cdS.enc) (k:=1) (el:=9) (lo:=0) (hi:=c9) kr kr rfl (Gd (Jw hk12)) hk12))) ?_;refine AD (n:=47) AC 1 [p6,p5,p4,p3,p2,(35,.sl 1 (((x1.2.2.2.1.take c9.toNat).drop (0:Int).toNat).map cdS.enc)),(36,.st v11)] [p1] kr ?_;refine Ac (caps:=[]) (xs:=[.sl 1 (((x1.2.2.2.1.take c9.toNat).drop (0:Int).toNat).map cdS.enc),.st v11]) (u:=(((x1.2.2.2.1.take c9.toNat).drop (0:Int).toNat),v11,())) rfl rfl CQ rfl (AB rfl) kr kr (AP (Ab (c:=(cdL 1 cdS)) (v:=((x1.2.2.2.1.take c9.toNat).drop (0:Int).toNat))) (AP (Ab (c:=cdS) (v:=v11)) BJ)) (.inl kr) hv13 ?_;exact AL rfl (AY [0] ⟨⟨_,rfl,Cu⟩,trivial⟩ ⟨lv,lv,lv,lv,lv,lv,trivial⟩)
   refine AM (b:=v13) kr (fun hb14=>?_) (fun hb14=>?_)
   ·rw [if_pos hb14] at h
    refine AH ?_;refine AI (s1:=⟨Fr 47 [(4,.v (.int .i64 5))],[]⟩) ?_ ?_
    ·refine AD (n:=47) AC 1 [(4,.v (.int .i64 5))] [p1] kr ?_
     exact AL rfl (AY [] trivial ⟨lv,trivial⟩)
    refine AU ?_;have hq:=OI h; subst hq;exact ⟨rfl,AN⟩
   ·rw [CL hb14] at h
    refine AQ ?_
    let p7:Nat×AV:=(27,.v (.int .i64 (wr .i64 (c9 + 1))))
    refine Cy AC [p6,p5,p4,p3,p7] [p1] ?_;exact As (s1:=⟨Fr 47 [p6,p5,p4,p3,p7],[p1]⟩) (AY [0] ⟨⟨_,rfl,Cu⟩,trivial⟩ ⟨lv,lv,lv,lv,lv,trivial⟩) (ih (wr .i64 (c9 + 1)) h)
  ·rw [CL hb10] at h
   refine CO ?_;have hq:=OI h; subst hq;exact ⟨rfl,(AY [0] ⟨⟨_,rfl,Cu⟩,trivial⟩ ⟨lv,lv,trivial⟩)⟩
theorem M1 (x0:(List AE)) (x1:AE) (r:Int) (h:FY x0 x1=some r):Sem E0 ⟨none,false⟩ IQ ⟨Fr 47 (BP 0 (IU.enc (x0,x1,()))),[]⟩ fun e s'=>(e = .normal\/e = .ret)/\∃ xs,Em E0.P s'.fr s'.hp Tryz.f128.results.toList=some xs/\Ev xs=IY r:=by
 unfold FY at h;refine A8 (Bv (s1:=⟨Fr 47 [(0,.sl 5 (x0.map AA.enc)),(1,AA.enc x1)],[]⟩) AN ?_);refine AJ AC [(0,.sl 5 (x0.map AA.enc)),(3,.pt 0 0 0)] [some ⟨5,60,[AA.enc x1],false⟩] ?_;refine AH ?_;refine AH ?_;obtain ⟨v1,hv1,h⟩:=OB h;refine AI (s1:=⟨Fr 47 [(0,.sl 5 (x0.map AA.enc)),(3,.pt 0 0 0),(9,.v (.bool (!v1)))],[some ⟨5,60,[AA.enc x1],false⟩]⟩) ?_ ?_
 ·refine AD (n:=47) AC 1 [(0,.sl 5 (x0.map AA.enc)),(3,.pt 0 0 0),(7,AA.enc x1)] [some ⟨5,60,[AA.enc x1],false⟩] kr ?_
  refine Ac (caps:=[]) (xs:=[AA.enc x1]) (u:=(x1,())) rfl rfl OM rfl (AB rfl) kr kr (AP (Ab (c:=AA) (v:=x1)) BJ) (.inl kr) hv1 ?_;exact AO AC
 refine AM (b:=(!v1)) kr (fun hb2=>?_) (fun hb2=>?_)
 ·rw [if_pos hb2] at h
  refine AH ?_;refine AI (s1:=⟨Fr 47 [(4,.v (.int .i64 30))],[]⟩) ?_ ?_
  ·refine AD (n:=47) AC 1 [(4,.v (.int .i64 30))] [some ⟨5,60,[AA.enc x1],false⟩] kr ?_
   exact AL rfl (AY [] trivial ⟨lv,trivial⟩)
  refine AU ?_;have hq:=OI h; subst hq;exact ⟨⟨Fr 47 [(4,.v (.int .i64 30))],[]⟩,AN,.inr rfl,[.v (.int .i64 30)],kr,kr⟩
 ·rw [CL hb2] at h
  refine AQ ?_;refine AH ?_;refine AH ?_;obtain ⟨j7,hj7,h⟩:=OB h;refine AI (s1:=⟨Fr 47 [(0,.sl 5 (x0.map AA.enc)),(3,.pt 0 0 0),(23,.v (.bool j7))],[some ⟨5,60,[AA.enc x1],false⟩]⟩) ?_ ?_
  ·refine AD (n:=47) AC 4 [(0,.sl 5 (x0.map AA.enc)),(3,.pt 0 0 0),(13,.v (.bool (!(x1.2.1==[]))))] [some ⟨5,60,[AA.enc x1],false⟩] kr ?_
   rcases BE (!(x1.2.1==[])) with hc24 | hc24
   ·rw [if_pos hc24] at hj7
    rw [hc24];refine AD (n:=47) AC 2 [(0,.sl 5 (x0.map AA.enc)),(3,.pt 0 0 0),(13,.v (.bool true)),(15,.st x1.2.1)] [some ⟨5,60,[AA.enc x1],false⟩] kr ?_;obtain ⟨v3,hv3,hj7⟩:=OB hj7;refine Ac (caps:=[]) (xs:=[.st x1.2.1]) (u:=(x1.2.1,())) rfl rfl MM rfl kr kr kr (AP (Ab (c:=cdS) (v:=x1.2.1)) BJ) (.inl kr) hv3 ?_;refine AD (n:=47) AC 3 [(0,.sl 5 (x0.map AA.enc)),(3,.pt 0 0 0),(19,.v (.bool (!v3)))] [some ⟨5,60,[AA.enc x1],false⟩] kr ?_;rcases BE (!v3) with hc25 | hc25
    ·rw [if_pos hc25] at hj7
     rw [hc25];refine AD (n:=47) AC 4 [(0,.sl 5 (x0.map AA.enc)),(3,.pt 0 0 0),(23,.v (.bool true))] [some ⟨5,60,[AA.enc x1],false⟩] kr ?_;have hq:=OI hj7; subst hq;exact AL rfl (AY [0] ⟨⟨_,rfl,Cu⟩,trivial⟩ ⟨lv,lv,lv,trivial⟩)
    ·rw [CL hc25] at hj7
     rw [hc25];refine AD (n:=47) AC 2 [(0,.sl 5 (x0.map AA.enc)),(3,.pt 0 0 0),(19,.v (.bool false)),(21,.sl 1 (x1.2.2.2.1.map cdS.enc))] [some ⟨5,60,[AA.enc x1],false⟩] kr ?_;obtain ⟨v4,hv4,hj7⟩:=OB hj7;refine Ac (caps:=[]) (xs:=[.sl 1 (x1.2.2.2.1.map cdS.enc),.fn 160 [] []]) (u:=(x1.2.2.2.1,(),())) rfl rfl CN rfl kr kr kr (AP (Ab (c:=(cdL 1 cdS)) (v:=x1.2.2.2.1)) (AP (Sm.fn BJ) BJ)) (.inl kr) hv4 ?_;refine AD (n:=47) AC 1 [(0,.sl 5 (x0.map AA.enc)),(3,.pt 0 0 0),(23,.v (.bool v4))] [some ⟨5,60,[AA.enc x1],false⟩] kr ?_;have hq:=OI hj7; subst hq;exact AL rfl (AY [0] ⟨⟨_,rfl,Cu⟩,trivial⟩ ⟨lv,lv,lv,trivial⟩)
   ·rw [CL hc24] at hj7
    rw [hc24];refine AD (n:=47) AC 8 [(0,.sl 5 (x0.map AA.enc)),(3,.pt 0 0 0),(19,.v (.bool false)),(21,.sl 1 (x1.2.2.2.1.map cdS.enc))] [some ⟨5,60,[AA.enc x1],false⟩] kr ?_;obtain ⟨v5,hv5,hj7⟩:=OB hj7;refine Ac (caps:=[]) (xs:=[.sl 1 (x1.2.2.2.1.map cdS.enc),.fn 160 [] []]) (u:=(x1.2.2.2.1,(),())) rfl rfl CN rfl kr kr kr (AP (Ab (c:=(cdL 1 cdS)) (v:=x1.2.2.2.1)) (AP (Sm.fn BJ) BJ)) (.inl kr) hv5 ?_;refine AD (n:=47) AC 1 [(0,.sl 5 (x0.map AA.enc)),(3,.pt 0 0 0),(23,.v (.bool v5))] [some ⟨5,60,[AA.enc x1],false⟩] kr ?_;have hq:=OI hj7; subst hq;exact AL rfl (AY [0] ⟨⟨_,rfl,Cu⟩,trivial⟩ ⟨lv,lv,lv,trivial⟩)
  refine AM (b:=j7) kr (fun hb8=>?_) (fun hb8=>?_)
  ·rw [if_pos hb8] at h
   refine AH ?_;refine AI (s1:=⟨Fr 47 [(4,.v (.int .i64 4))],[]⟩) ?_ ?_
   ·refine AD (n:=47) AC 1 [(4,.v (.int .i64 4))] [some ⟨5,60,[AA.enc x1],false⟩] kr ?_
    exact AL rfl (AY [] trivial ⟨lv,trivial⟩)
   refine AU ?_;have hq:=OI h; subst hq;exact ⟨⟨Fr 47 [(4,.v (.int .i64 4))],[]⟩,AN,.inr rfl,[.v (.int .i64 4)],kr,kr⟩
  ·rw [CL hb8] at h
   refine AQ ?_;refine AH ?_;refine AH ?_;refine AI (s1:=⟨Fr 47 [(0,.sl 5 (x0.map AA.enc)),(3,.pt 0 0 0),(25,.sl 1 (x1.2.2.2.1.map cdS.enc)),(26,.v (.int .i64 (x1.2.2.2.1.length:Int))),(27,.v (.int .i64 0))],[some ⟨5,60,[AA.enc x1],false⟩]⟩) ?_ ?_
   ·refine AD (n:=47) AC 2 [(0,.sl 5 (x0.map AA.enc)),(3,.pt 0 0 0),(25,.sl 1 (x1.2.2.2.1.map cdS.enc))] [some ⟨5,60,[AA.enc x1],false⟩] kr ?_
    refine AK AC 0 rfl (Ci (AB rfl) rfl (DY (a:= .sl 1 (x1.2.2.2.1.map cdS.enc)) kr (CB (el:=9) kr))) ?_;exact AO AC
   refine Af ?_;obtain ⟨r16,hr16,h⟩:=OB h;refine CV (n:=100000) ?_;rcases r16 with w17 | w23
   ·try dsimp only at h
    refine BK (As (s1:=⟨Fr 47 [(0,.sl 5 (x0.map AA.enc)),(3,.pt 0 0 0),(25,.sl 1 (x1.2.2.2.1.map cdS.enc)),(26,.v (.int .i64 (x1.2.2.2.1.length:Int))),(27,.v (.int .i64 0))],[some ⟨5,60,[AA.enc x1],false⟩]⟩) (AY [0] ⟨⟨_,rfl,Cu⟩,trivial⟩ ⟨lv,lv,lv,lv,lv,trivial⟩) (Ik x0 x1 _ 0 _ hr16)) ?_;refine AH ?_;refine AH ?_;obtain ⟨j20,hj20,h⟩:=OB h;refine AI (s1:=⟨Fr 47 [(46,.v (.bool j20))],[]⟩) ?_ ?_
    ·refine AD (n:=47) AC 4 [(0,.sl 5 (x0.map AA.enc)),(3,.pt 0 0 0),(42,.v (.bool (x1.2.1==[])))] [some ⟨5,60,[AA.enc x1],false⟩] kr ?_
     rcases BE (x1.2.1==[]) with hc22 | hc22
     ·rw [if_pos hc22] at hj20
      rw [hc22];refine AD (n:=47) AC 4 [(46,.v (.bool true))] [some ⟨5,60,[AA.enc x1],false⟩] kr ?_;have hq:=OI hj20; subst hq;exact AL rfl (AY [] trivial ⟨lv,trivial⟩)
     ·rw [CL hc22] at hj20
      rw [hc22];refine AD (n:=47) AC 2 [(42,.v (.bool false)),(43,.sl 5 (x0.map AA.enc)),(44,.fn 161 [] [.pt 0 0 0])] [some ⟨5,60,[AA.enc x1],false⟩] kr ?_;obtain ⟨v18,hv18,hj20⟩:=OB hj20;refine Ac (caps:=[]) (xs:=[.sl 5 (x0.map AA.enc),.fn 161 [] [.pt 0 0 0]]) (u:=(x0,x1,())) rfl rfl DD rfl kr kr kr (AP (Ab (c:=(cdL 5 AA)) (v:=x0)) (AP (Sm.fn (Ou (Sm.pt (k:=5) (t:=60) (fz:=false) (y:=(AA.enc x1)) kr (Ab (c:=AA) (v:=x1))))) BJ)) (.inl kr) hv18 ?_;refine AD (n:=47) AC 1 [(46,.v (.bool v18))] [some ⟨5,60,[AA.enc x1],false⟩] kr ?_;have hq:=OI hj20; subst hq;exact AL rfl (AY [] trivial ⟨lv,trivial⟩)
    refine AM (b:=j20) kr (fun hb21=>?_) (fun hb21=>?_)
    ·rw [if_pos hb21] at h
     refine AJ AC [(4,.v (.int .i64 0))] [] ?_;refine AU ?_;have hq:=OI h; subst hq;exact ⟨⟨Fr 47 [(4,.v (.int .i64 0))],[]⟩,AN,.inr rfl,[.v (.int .i64 0)],kr,kr⟩
    ·rw [CL hb21] at h
     refine AQ ?_;refine AJ AC [(4,.v (.int .i64 31))] [] ?_;refine AU ?_;have hq:=OI h; subst hq;exact ⟨⟨Fr 47 [(4,.v (.int .i64 31))],[]⟩,AN,.inr rfl,[.v (.int .i64 31)],kr,kr⟩
   ·try dsimp only at h
    refine BK (As (s1:=⟨Fr 47 [(0,.sl 5 (x0.map AA.enc)),(3,.pt 0 0 0),(25,.sl 1 (x1.2.2.2.1.map cdS.enc)),(26,.v (.int .i64 (x1.2.2.2.1.length:Int))),(27,.v (.int .i64 0))],[some ⟨5,60,[AA.enc x1],false⟩]⟩) (AY [0] ⟨⟨_,rfl,Cu⟩,trivial⟩ ⟨lv,lv,lv,lv,lv,trivial⟩) (Ik x0 x1 _ 0 _ hr16)) ?_;have hq:=OI h; subst hq;exact ⟨⟨Fr 47 [(4,.v (.int .i64 w23))],[]⟩,AN,.inr rfl,[.v (.int .i64 w23)],kr,kr⟩
def PQ:List AV->Option AV:=D4 IU (fun a=>FY a.1 a.2.1) IY
theorem PZ:XOk 128 PQ:=by
 refine AW Tryz.func128 (c:=IQ) ?h2 ⟨Tryz.call128⟩ IU (fun a=>FY a.1 a.2.1) IY (fun a=>(by show 2<=47; decide)) ?h3 ?h4
 case h2=>kernel_rfl
 case h3=>intro b; kernel_rfl
 case h4=>exact fun a b h=>M1 a.1 a.2.1 b h
/- trestle/court.Check -/
noncomputable def IP:Code:=Br Tryz.f80
def Da (x0:(List AE)):Nat->Int->Option ((Unit) ⊕ (Int×Int))
 | 0,_=>none
 | f + 1,c2 =>
  if (decide (c2 < (x0.length:Int)))=true then
  (idx x0 c2).bind fun v4 =>
  if (DN 0 c2 x0.length)=true then
  (FY ((x0.take c2.toNat).drop (0:Int).toNat) v4).bind fun v6 =>
  if (v6 != 0)=true then
  some (.inr (c2,v6))
  else
  Da x0 f (wr .i64 (c2 + 1))
  else none
  else
  some (.inl ())
def Eo (x0:(List AE)):Option (Int×Int) :=
 if (decide ((x0.length:Int) > 32))=true then
 some (0,7)
 else
 (Da x0 100000 0).bind fun r10 =>
 match r10 with
 | (.inl _w11) =>
  some (0,0)
 | (.inr w12) =>
  some (w12.1,w12.2)
def IT:Cs ((List AE)×Unit):=(csC (cdL 5 AA) csN)
def IX (r:Int×Int):AV:= .tp [cdI.enc r.1,cdI.enc r.2]
theorem Ij (x0:(List AE)):∀ (f:Nat) (c2:Int) (r:(Unit) ⊕ (Int×Int)),Da x0 f c2=some r->SemN E0 ⟨none,false⟩ (pc IP [1,1,0,1,0,0]) f ⟨Fr 27 [(0,.sl 5 (x0.map AA.enc)),(10,.sl 5 (x0.map AA.enc)),(11,.v (.int .i64 (x0.length:Int))),(12,.v (.int .i64 c2))],[]⟩ (fun e s=>match r with
 | (.inl _w)=>e=(.exit 0)/\Wk E0 s ⟨Fr 27 [],[]⟩
 | (.inr w)=>e = .ret/\Wk E0 s ⟨Fr 27 [(2,.v (.int .i64 w.1)),(3,.v (.int .i64 w.2))],[]⟩):=by
 intro f;induction f with
 | zero=>intro c2 r h; cases h
 | succ f ih0 =>
  intro c2 r h
  have ih:=fun (c2:Int)=>ih0 c2 r
  unfold Da at h;refine Bw ?_
  let p1:Nat×AV:=(12,.v (.int .i64 c2))
  let p2:Nat×AV:=(11,.v (.int .i64 (x0.length:Int)))
  let p3:Nat×AV:=(10,.sl 5 (x0.map AA.enc))
  let p4:Nat×AV:=(0,.sl 5 (x0.map AA.enc))
  refine AJ AC [p4,p3,p2,p1,(13,.v (.bool (decide (c2 < (x0.length:Int)))))] [] ?_;refine AH ?_;refine AM (b:=(decide (c2 < (x0.length:Int)))) kr (fun hb3=>?_) (fun hb3=>?_)
  ·rw [if_pos hb3] at h
   refine AQ ?_;refine AH ?_;refine Af ?_;refine AH ?_;obtain ⟨v4,hv4,h⟩:=OB h
   let p5:Option Blk:=some ⟨5,60,[AA.enc v4],false⟩
   let p6:Nat×AV:=(4,.v (.int .i64 c2))
   refine AI (s1:=⟨Fr 27 [p4,p6,(5,.pt 0 0 0),p3,p2,p1],[p5]⟩) ?_ ?_
   ·refine AD (n:=27) AC 1 [p4,p3,p2,p1,(14,.v (.int .i64 c2))] [] kr ?_
    refine AK AC 0 rfl (Ci (AB rfl) rfl (AS (a:= .sl 5 (x0.map AA.enc)) (b:= .v (.int .i64 c2)) kr kr (FM (e:=AA.enc) (el:=60) (k:=5) (ki:= .i64) kr kr hv4))) ?_;exact AO AC
   refine AH ?_;by_cases hk5:(DN 0 c2 x0.length)=true
   case neg=>rw [if_neg hk5] at h; cases h
   rw [if_pos hk5] at h;obtain ⟨v6,hv6,h⟩:=OB h
   let p7:Nat×AV:=(6,.v (.int .i64 v6))
   refine EH AC (s1:=⟨Fr 27 [p4,p6,p7,p3,p2,p1],[]⟩) kr ?_ ?_
   ·refine Ap (n:=27) AC 2 [p4,p6,(5,.pt 0 0 0),p3,p2,p1,(17,.sl 5 (x0.map AA.enc)),(18,.v (.int .i64 c2))] [p5] kr kr ?_
    refine RunDS.one AC rfl kr (PE kr (AB rfl) rfl (Ei (a:= .sl 5 (x0.map AA.enc)) (l:=none) (u:=(some (.v (.int .i64 c2)))) (m:=none) kr kr kr rfl (KO (xs:=x0) (e:=AA.enc) (k:=5) (el:=60) (lo:=0) (hi:=c2) kr kr rfl (Gd (Jw hk5)) hk5)) kr) ?_;refine Ap (n:=27) AC 1 [p4,p6,p3,p2,p1,(19,.sl 5 (((x0.take c2.toNat).drop (0:Int).toNat).map AA.enc)),(20,AA.enc v4)] [p5] kr kr ?_;refine Bo (caps:=[]) (xs:=[.sl 5 (((x0.take c2.toNat).drop (0:Int).toNat).map AA.enc),AA.enc v4]) (u:=(((x0.take c2.toNat).drop (0:Int).toNat),v4,())) rfl rfl PZ rfl (AB rfl) kr kr (AP (Ab (c:=(cdL 5 AA)) (v:=((x0.take c2.toNat).drop (0:Int).toNat))) (AP (Ab (c:=AA) (v:=v4)) BJ)) kr hv6 ?_;refine Ap (n:=27) AC 1 [p4,p6,p7,p3,p2,p1] [p5] kr kr ?_;exact RunDS.done rfl (AY [] trivial ⟨lv,lv,lv,lv,lv,lv,trivial⟩)
   refine AJ AC [p4,p6,p7,p3,p2,p1,(23,.v (.bool (v6 != 0)))] [] ?_;refine AM (b:=(v6 != 0)) kr (fun hb7=>?_) (fun hb7=>?_)
   ·rw [if_pos hb7] at h
    refine AJ AC [(2,.v (.int .i64 c2)),(3,.v (.int .i64 v6))] [] ?_;refine AU ?_;have hq:=OI h; subst hq;exact ⟨rfl,AN⟩
   ·rw [CL hb7] at h
    refine AQ ?_
    let p8:Nat×AV:=(12,.v (.int .i64 (wr .i64 (c2 + 1))))
    refine Cy AC [p4,p3,p2,p8] [] ?_;exact As (s1:=⟨Fr 27 [p4,p3,p2,p8],[]⟩) AN (ih (wr .i64 (c2 + 1)) h)
  ·rw [CL hb3] at h
   refine CO ?_;have hq:=OI h; subst hq;exact ⟨rfl,AN⟩
theorem M0 (x0:(List AE)) (r:Int×Int) (h:Eo x0=some r):Sem E0 ⟨none,false⟩ IP ⟨Fr 27 (BP 0 (IT.enc (x0,()))),[]⟩ fun e s'=>(e = .normal\/e = .ret)/\∃ xs,Em E0.P s'.fr s'.hp Tryz.f80.results.toList=some xs/\Ev xs=IX r:=by
 unfold Eo at h
 let p1:Nat×AV:=(0,.sl 5 (x0.map AA.enc))
 refine A8 (Bv (s1:=⟨Fr 27 [p1],[]⟩) AN ?_);refine AJ AC [p1] [] ?_;refine AH ?_;refine AH ?_;refine AI (s1:=⟨Fr 27 [p1,(9,.v (.bool (decide ((x0.length:Int) > 32))))],[]⟩) ?_ ?_
 ·refine AD (n:=27) AC 1 [p1,(7,.sl 5 (x0.map AA.enc))] [] kr ?_
  refine AK AC 0 rfl (Ci (AB rfl) rfl (DY (a:= .sl 5 (x0.map AA.enc)) kr (CB (el:=60) kr))) ?_;exact AO AC
 refine AM (b:=(decide ((x0.length:Int) > 32))) kr (fun hb1=>?_) (fun hb1=>?_)
 ·rw [if_pos hb1] at h
  refine AJ AC [(2,.v (.int .i64 0)),(3,.v (.int .i64 7))] [] ?_;refine AU ?_;have hq:=OI h; subst hq;exact ⟨⟨Fr 27 [(2,.v (.int .i64 0)),(3,.v (.int .i64 7))],[]⟩,AN,.inr rfl,[.v (.int .i64 0),.v (.int .i64 7)],kr,kr⟩
 ·rw [CL hb1] at h
  refine AQ ?_;refine AH ?_;refine AH ?_
  let p2:Nat×AV:=(12,.v (.int .i64 0))
  let p3:Nat×AV:=(11,.v (.int .i64 (x0.length:Int)))
  let p4:Nat×AV:=(10,.sl 5 (x0.map AA.enc))
  refine AI (s1:=⟨Fr 27 [p1,p4,p3,p2],[]⟩) ?_ ?_
  ·refine AD (n:=27) AC 1 [p1,p4] [] kr ?_
   refine AK AC 0 rfl (Ci (AB rfl) rfl (DY (a:= .sl 5 (x0.map AA.enc)) kr (CB (el:=60) kr))) ?_;exact AO AC
  refine Af ?_;obtain ⟨r10,hr10,h⟩:=OB h;refine CV (n:=100000) ?_;rcases r10 with w11 | w12
  ·try dsimp only at h
   refine BK (As (s1:=⟨Fr 27 [p1,p4,p3,p2],[]⟩) AN (Ij x0 _ 0 _ hr10)) ?_;refine AJ AC [(2,.v (.int .i64 0)),(3,.v (.int .i64 0))] [] ?_;refine AU ?_;have hq:=OI h; subst hq;exact ⟨⟨Fr 27 [(2,.v (.int .i64 0)),(3,.v (.int .i64 0))],[]⟩,AN,.inr rfl,[.v (.int .i64 0),.v (.int .i64 0)],kr,kr⟩
  ·try dsimp only at h
   refine BK (As (s1:=⟨Fr 27 [p1,p4,p3,p2],[]⟩) AN (Ij x0 _ 0 _ hr10)) ?_;have hq:=OI h; subst hq;exact ⟨⟨Fr 27 [(2,.v (.int .i64 w12.1)),(3,.v (.int .i64 w12.2))],[]⟩,AN,.inr rfl,[.v (.int .i64 w12.1),.v (.int .i64 w12.2)],kr,kr⟩
def PP:List AV->Option AV:=D4 IT (fun a=>Eo a.1) IX
theorem LP:XOk 80 PP:=by
 refine AW Tryz.func80 (c:=IP) ?h2 ⟨Tryz.call80⟩ IT (fun a=>Eo a.1) IX (fun a=>(by show 1<=27; decide)) ?h3 ?h4
 case h2=>kernel_rfl
 case h3=>intro b; kernel_rfl
 case h4=>exact fun a b h=>M0 a.1 b h
section
variable {E:Env}{cx:Cx}{ops:Array Oper}{rest rest':List Oper}{K:St->Prop}{n n0 k:Nat}{l:List (Nat×AV)}{hp:Hp}{α β:Type}{s:Cs α}{F:α->Option β}{er:β->AV}{u:α}{v:β}{fid:FuncId}{w:World}{Z:Nat->Prop}{R:List RI}
theorem Yf (hX:XOk fid (D4 s F er)) (hh:HR w Z R hp) (hg:GI E0 w Z){xs:List AV}{us:List Value}(hvs:VRs w Z R xs us) (hv:SeesD hp s xs u) (hok:Dp (er v)=true\/xs.all Dn=true/\s.dec xs=some u) (hF:F u=some v) :
  Ret E0.P fid us.toArray w fun x w'=>∃ Z',HR w' Z' R hp/\VR w' Z' R (er v) x/\Step w Z R hp w' Z' R hp/\w.grownBy w' none/\(Dp (er v)=true->Z'=Z):=by
 by_cases hf:Dp (er v)=true
 ·obtain ⟨ys,hv,hd⟩:=hv
  have hz1:∀ c,(Z c\/own R hp c)->c < w.heap.size:=fun c hc=>hc.elim (hh.zlt c) (fun ⟨b,B,r,h1,_,h3,h4⟩=>h4 ▸ hh.rltL h1 h3)
  have hg1:GI E0 w (fun c=>Z c\/own R hp c):=fun q y hy=>(hg q y hy).mono (fun _ _=>rfl) (fun _ h=> .inl h) (fun _ _ h=>h)
  refine Ret.mono (hX.2 ys (er v) (JH hd hF) w _ us hz1 hg1 (hv w Z R us hh hvs)) fun x w' ⟨hs,hx⟩=>?_
  exact ⟨Z,hh.keep hs.size (fun c hc=>hs.block c hc (by simp)),Ls hf hx,⟨hs.os,hs.tape,hs.output,hs.size,fun c hc _=>hs.block c hc (by simp),fun _ h=> .inl h,fun _ h=>h,fun _ h=> .inl h,fun _ _ h=>h⟩,hs,fun _=>rfl⟩
 ·obtain ⟨hn,hd⟩:=hok.resolve_left hf
  refine Ret.mono (hX.2 xs (er v) (JH hd hF) w Z us hh.zlt hg (PB hn hvs)) fun x w' ⟨hs,hx⟩=>?_
  obtain ⟨k1,k2⟩:=hh.addZ hs
  exact ⟨_,k1,hx.up,k2,hs,fun h=>absurd h hf⟩
theorem ZF (hP:E.P=E0.P) (hG:E.G=E0.G){caps xs:List AV}{d:Option Nat}{f:Operand}{args:Array Operand}{tys:Array TypeId}{ty:TypeId}{pos:String}{af:Array Edge}{g:Option (Nat×Bool)}{base:Bs}{a:Act}(hX:XOk fid (D4 s F er)) (sr:SR E base w Z R ⟨Fr n l,hp⟩ a)
  (hf:opA E (Fr n l) f=some (.fn fid [] caps)) (ha:IL (opA E (Fr n l)) args.toList=some xs) (hv:SeesD hp s (xs++caps) u) (hok:Dp (er v)=true\/(xs++caps).all Dn=true/\s.dec (xs++caps)=some u) (hF:F u=some v) {Q:Act->World->Prop}
  (kk:∀ x w' Z',HR w' Z' R hp->VR w' Z' R (er v) x->Step w Z R hp w' Z' R hp->w.grownBy w' none->(Dp (er v)=true->Z'=Z)->SR E base w' Z' R ⟨Fr n l,hp⟩ a->Q (a.put d x) w'):Lw E.P ⟨d,.call ⟨.value f,args,tys⟩,ty,pos,af,g⟩ a w Q:=by
 have hρ:∀ o x,opA E (Fr n l) o=some x->VR w Z R x (a.eval o):=fun o x e=>opA_vr sr o x e
 have hvf:=hρ _ _ hf
 have hva:∃ uc:List Value,a.eval f = .func (.func fid) #[] uc.toArray/\VRs w Z R caps uc:=by
  generalize a.eval f=vf at hvf
  cases hvf with
  | fn hl hl' hx hy =>
   rename_i u1 u2
   have e1:u1=[]:=by simpa using hl
   subst e1
   exact ⟨u2,rfl,hl',hy⟩
 obtain ⟨uc,hva,huc⟩:=hva
 have hcl:Bu E.P fid:=hP ▸ hX.1
 unfold Lw
 rw [GS (uf:=[]) (uc:=uc) rfl hva rfl hcl w]
 have hret:=Yf hX sr.hh (by have:=sr.gl; exact fun q y hy=>this q y (by rw [hG]; exact hy)) ((opds_vr hρ ha).append huc) hv hok hF
 rw [<-hP] at hret
 simp only [List.nil_append]
 refine Ret.mono hret fun x w' ⟨Z',k1,k2,k3,k4,k5⟩=>?_
 exact kk x w' Z' k1 k2 k3 k4 k5 (sr.step k1 k3)
theorem Ih (hP:E.P=E0.P) (hG:E.G=E0.G) (hX:XOk fid (D4 s F er)){caps xs:List AV}{d:Nat}{f:Operand}{args:Array Operand}{tys:Array TypeId}{ty:TypeId}{pos:String}{af:Array Edge}{g:Option (Nat×Bool)}(hr:rest=⟨some d,.call ⟨.value f,args,tys⟩,ty,pos,af,g⟩::rest') (hw:CP ops (Fr n l) ⟨some d,.call ⟨.value f,args,tys⟩,ty,pos,af,g⟩=some true)
  (hf:opA E (Fr n l) f=some (.fn fid [] caps)) (ha:IL (opA E (Fr n l)) args.toList=some xs) (hv:SeesD hp s (xs++caps) u) (hok:Dp (er v)=true\/(xs++caps).all Dn=true/\s.dec (xs++caps)=some u) (hF:F u=some v) (kk:RunL E cx ops rest' ⟨Fr n ((d,er v)::l),hp⟩ K):RunL E cx ops rest ⟨Fr n l,hp⟩ K:=by
 subst hr
 intro ro base Q a w Z R hro sr hy q
 refine O5 rfl (wantedA_eq sr hw) (ZF hP hG hX sr hf ha hv hok hF fun x w' Z' k1 k2 k3 k4 k5 sr'=>?_)
 refine kk ro base Q _ w' Z' R hro ?_ (hy.step sr.hh k3) fun s' a' w'' Z'' R'' hK sr'' st'=>q s' a' w'' Z'' R'' hK sr'' (k3.trans st')
 have:=sr'.put (d:=some d) k2
 rwa [Dv] at this
theorem QX {T:Nat}(hP:E.P=E0.P) (hG:E.G=E0.G) (hX:XOk fid (D4 s F er)){caps xs:List AV}{d:Nat}{f:Operand}{args:Array Operand}{tys:Array TypeId}{ty:TypeId}{pos:String}{af:Array Edge}{g:Option (Nat×Bool)}(hr:rest=⟨some d,.call ⟨.value f,args,tys⟩,ty,pos,af,g⟩::rest') (hw:CP ops (Fr n l) ⟨some d,.call ⟨.value f,args,tys⟩,ty,pos,af,g⟩=some true)
  (hf:opA E (Fr n l) f=some (.fn fid [] caps)) (ha:IL (opA E (Fr n l)) args.toList=some xs) (hv:SeesD hp s (xs++caps) u) (hok:Dp (er v)=true) (hF:F u=some v) (kk:RunDT E cx ops T n0 (k + 1) rest' ⟨Fr n ((d,er v)::l),hp⟩ K):RunDT E cx ops T n0 k rest ⟨Fr n l,hp⟩ K:=by
 subst hr
 intro ro base Q w0 Z R0 h0 a w R hro hy hh0 hn0 sr hgr st hpre hops q
 have hok':ops[k]? = some ⟨some d,.call ⟨.value f,args,tys⟩,ty,pos,af,g⟩:=by have:=hops 0; simpa using this.symm
 have hops':∀ j,rest'[j]? = ops[k + 1 + j]?:=fun j=>by have:=hops (j + 1); simpa [Nat.add_assoc,Nat.add_comm 1 j] using this
 refine ⟨fun _=>hgr,?_⟩
 rw [if_pos (wantedA_eq sr hw)]
 have hq:isQ (.call ⟨.value f,args,tys⟩:Op)=false:=rfl
 rw [if_pos (Eu hok' hq)]
 refine ZF hP hG hX sr hf ha hv (.inl hok) hF fun x w' Z' k1 k2 k3 k4 k5 sr'=>?_
 have e:=k5 hok
 subst e
 exact kk ro base Q w0 _ R0 h0 _ w' R hro hy hh0 hn0 (by have:=sr'.put (d:=some d) k2; rwa [Dv] at this) (EF hgr k4) (st.trans k3) hpre hops' q
end
section
variable {w w':World}{Z Z':Nat->Prop}{R R':List RI}{h h':Hp}
end
theorem SeeD.ag {α:Type}{hp:Hp}{s:Cs α}{hn:∀ x,(s.enc x).all Kt=true}{xs:List AV}{a:α}(h:SeesD hp s xs a):SeeD hp (cdA s hn) (.ag xs) a:=by
 obtain ⟨ys,k1,k2⟩:=h
 exact ⟨.ag ys,.ag k1,k2⟩
theorem SeeV.fn {hp:Hp}{f:FuncId}{cs cs':List AV}(hs:Sees hp cs cs'):SeeV hp (.fn f [] cs) (.fn f [] cs'):=fun w Z R u hh hv=>by
 cases hv with
 | fn hl hl' hx hy =>
  have:=hs w Z R _ hh ⟨hl',hy⟩
  exact .fn hl this.len (fun i x u h=>by simp at h) this.at_
/-- A closure over cells. -/
theorem SeeD.fn {α:Type}{hp:Hp}{f:FuncId}{s:Cs α}{hn:∀ x,(s.enc x).all Fm=true}{q:List AV}{a:α}(h:SeesD hp s q a):SeeD hp (cdF f s hn) (.fn f [] q) a:=by
 obtain ⟨ys,k1,k2⟩:=h
 refine ⟨.fn f [] ys,.fn k1,?_⟩
 show (if f=f then s.dec ys else none)=_
 rw [if_pos rfl]; exact k2
section
variable {E:Env}{cx:Cx}{ops:Array Oper}{rest rest':List Oper}{K:St->Prop}{n n0 k:Nat}{l:List (Nat×AV)}{hp:Hp}
end
/-- A nil slice is an empty frozen one, in structs too. -/
def UpV (x y:AV):Prop:=∀ (w:World) (Z:Nat->Prop) (R:List RI) (u:Value),VR w Z R x u->VR w Z R y u
theorem UpV.refl {x:AV}:UpV x x:=fun _ _ _ _ h=>h
theorem UpV.nil {k:Nat}:UpV .e0 (.sl k []):=fun _ _ _ _ h=>by
 cases h
 exact .sl (us:=[]) rfl rfl (Nat.le_refl _) (by unfold maxLen; omega) (fun h=>by omega) (fun i x u hx=>by simp at hx)
def UpVs:List AV->List AV->Prop
 | [],[]=>True
 | x::xs,y::ys=>UpV x y/\UpVs xs ys
 | _,_=>False
theorem UpVs.len:∀ {xs ys:List AV},UpVs xs ys->xs.length=ys.length
 | [],[],_=>rfl
 | _::_,_::_,h=>by simp [UpVs.len h.2]
 | [],_::_,h=>h.elim
 | _::_,[],h=>h.elim
theorem UpVs.get:∀ {xs ys:List AV}{i:Nat}{y:AV},UpVs xs ys->ys[i]? = some y->∃ x,xs[i]? = some x/\UpV x y
 | _::_,_::_,0,_,h,e=>by simp at e; subst e; exact ⟨_,rfl,h.1⟩
 | _::_,_::_,i + 1,_,h,e=>by
  obtain ⟨x,h1,h2⟩:=UpVs.get (i:=i) h.2 (by simpa using e)
  exact ⟨x,by simpa using h1,h2⟩
 | [],[],_,_,_,e=>by simp at e
 | [],_::_,_,_,h,_=>h.elim
 | _::_,[],_,_,h,_=>h.elim
theorem UpV.ag {xs ys:List AV}(h:UpVs xs ys):UpV (.ag xs) (.ag ys):=fun w Z R u hv=>by
 cases hv with
 | ag hl h1 hx =>
  refine .ag (by rw [hl,h.len]) h1 fun i y u hy hu=>?_
  obtain ⟨x,k1,k2⟩:=h.get hy
  exact k2 _ _ _ _ (hx i x u k1 hu)
def LkU (l:List (Nat×AV)):List (Nat×AV)->Prop
 | []=>True
 | (t,z)::r=>(∃ x,lk l t=some x/\UpV x z)/\LkU l r
theorem LkU.at_ {l:List (Nat×AV)}:∀ {l':List (Nat×AV)},LkU l l'->∀ t z,lk l' t=some z->∃ x,lk l t=some x/\UpV x z
 | [],_,t,z,h=>by cases h
 | (k,z0)::r,⟨h1,h2⟩,t,z,h=>by
  rw [Jc] at h
  split at h
  ·next hk=>injection h with h; subst hk h; exact h1
  ·exact h2.at_ t z h
/-- A value in which an own thing is frozen. -/
def FzU (e z x y:AV):Prop:=∀ (w:World) (Z Z':Nat->Prop) (R:List RI) (u:Value),(∀ c,Z c->Z' c)->(∀ v,VR w Z R e v->VR w Z' R z v)->VR w Z R x u->VR w Z' R y u
section
variable {e z:AV}
theorem FzU.refl {x:AV}:FzU e z x x:=fun _ _ _ _ _ hz _ h=>h.mono (fun _ _=>rfl) hz (fun _ _ h=>h)
theorem Ol:FzU e z e z:=fun _ _ _ _ u _ k h=>k u h
def FzUs (e z:AV):List AV->List AV->Prop
 | [],[]=>True
 | x::xs,y::ys=>FzU e z x y/\FzUs e z xs ys
 | _,_=>False
theorem FzUs.len:∀ {xs ys:List AV},FzUs e z xs ys->xs.length=ys.length
 | [],[],_=>rfl
 | _::_,_::_,h=>by simp [FzUs.len h.2]
 | [],_::_,h=>h.elim
 | _::_,[],h=>h.elim
theorem FzUs.get:∀ {xs ys:List AV}{i:Nat}{y:AV},FzUs e z xs ys->ys[i]? = some y->∃ x,xs[i]? = some x/\FzU e z x y
 | _::_,_::_,0,_,h,q=>by simp at q; subst q; exact ⟨_,rfl,h.1⟩
 | _::_,_::_,i + 1,_,h,q=>by
  obtain ⟨x,h1,h2⟩:=FzUs.get (i:=i) h.2 (by simpa using q)
  exact ⟨x,by simpa using h1,h2⟩
 | [],[],_,_,_,q=>by simp at q
 | [],_::_,_,_,h,_=>h.elim
 | _::_,[],_,_,h,_=>h.elim
theorem FzU.ag {xs ys:List AV}(h:FzUs e z xs ys):FzU e z (.ag xs) (.ag ys):=fun w Z Z' R u hz k hv=>by
 cases hv with
 | ag hl h1 hx =>
  refine .ag (by rw [hl,h.len]) h1 fun i y u hy hu=>?_
  obtain ⟨x,k1,k2⟩:=h.get hy
  exact k2 _ _ _ _ _ hz k (hx i x u k1 hu)
theorem FzU.fn {f:FuncId}{xs ys:List AV}(h:FzUs e z xs ys):FzU e z (.fn f [] xs) (.fn f [] ys):=fun w Z Z' R u hz k hv=>by
 cases hv with
 | fn hl hl' hx hy =>
  refine .fn hl (by rw [hl',h.len]) (fun i x u h=>by simp at h) fun i y u hy' hu=>?_
  obtain ⟨x,k1,k2⟩:=h.get hy'
  exact k2 _ _ _ _ _ hz k (hy i x u k1 hu)
end
def LkF (l:List (Nat×AV)) (e z:AV):List (Nat×AV)->Prop
 | []=>True
 | (t,y)::r=>(∃ x,lk l t=some x/\FzU e z x y)/\LkF l e z r
theorem LkF.at_ {l:List (Nat×AV)}{e z:AV}:∀ {l':List (Nat×AV)},LkF l e z l'->∀ t y,lk l' t=some y->∃ x,lk l t=some x/\FzU e z x y
 | [],_,t,y,h=>by cases h
 | (k,z0)::r,⟨h1,h2⟩,t,y,h=>by
  rw [Jc] at h
  split at h
  ·next hk=>injection h with h; subst hk h; exact h1
  ·exact h2.at_ t y h
theorem Ov {E:Env}{n:Nat}{l l':List (Nat×AV)}{hp:Hp}{α:Type}{o:Oc α}{e:AV}{x:α}{L:List Asn}(ht:T hp (own_ o e x::L)) (hl:LkF l e (o.cd.enc x) l'):∃ hp',WkY E ⟨Fr n l,hp⟩ ⟨Fr n l',hp'⟩/\T hp' L:=by
 obtain ⟨F,p,hn',_,hk⟩:=ht.act
 refine ⟨OA F hp,fun base w Z R a sr=>?_,hk _ fun b hb _=>OV hb⟩
 have hown:∀ c,(∃ b ∈ F,∃ r,R[b]? = some r/\c=r.c)->own R hp c:=fun c ⟨b,hb,r,hr,hc⟩=>by
  obtain ⟨B,k1,k2⟩:=o.own p hb
  exact ⟨b,B,r,k1,k2,hr,hc.symm⟩
 have hown':∀ c,own R (OA F hp) c->own R hp c:=fun c ⟨b,B,r,h1,h2,h3,h4⟩=>⟨b,B,r,(Gr.1 h1).2,h2,h3,h4⟩
 have hzo:∀ c,(Z c\/∃ b ∈ F,∃ r,R[b]? = some r/\c=r.c)->Z c\/own R hp c:=fun c hc=>hc.imp_right (hown c)
 have up':∀ {x:AV} {u:Value} {R':List RI},VR w Z R' x u->VR w (fun c=>Z c\/∃ b ∈ F,∃ r,R[b]? = some r/\c=r.c) R' x u:=fun hv=>hv.mono (fun _ _=>rfl) (fun _ h=> .inl h) (fun _ _ h=>h)
 refine ⟨fun c=>Z c\/∃ b ∈ F,∃ r,R[b]? = some r/\c=r.c,R,⟨⟨by simp [OA,sr.hh.len],fun b B hB=>?_,fun b b' B B' r r' h1 f1 h2 f2 g1 g2 e=>?_,fun c hc=>?_⟩,⟨?_,fun t x hx=>?_⟩,?_,fun g x hx=>up' (sr.gl g x hx),sr.bs⟩,⟨rfl,rfl,rfl,Nat.le_refl _,fun _ _ _=>rfl,fun c hc=> .inl (hown' c hc),fun _ h=> .inl h,fun c hc=>(hzo c hc).imp_right .inl,fun _ _ h=>h⟩⟩
 ·obtain ⟨hb,hB⟩:=Gr.1 hB
  obtain ⟨r,arr,us,g1,g2,g3,g4,g5,g6,g7,g8,g9,g10⟩:=sr.hh.blk b B hB
  refine ⟨r,arr,us,g1,g2,g3,g4,g5,g6,fun hf=> .inl (g7 hf),fun hf hc=>?_,⟨g9.len,fun i x u hx hu=>up' (g9.at_ i x u hx hu)⟩,g10⟩
  rcases hc with hc | ⟨b',hb',r',hr',hc⟩
  ·exact g8 hf hc
  ·obtain ⟨B',k1,k2⟩:=o.own p hb'
   have:=sr.hh.inj b b' B B' r r' hB hf k1 k2 g1 hr' hc
   exact hb (this ▸ hb')
 ·exact sr.hh.inj b b' B B' r r' (Gr.1 h1).2 f1 (Gr.1 h2).2 f2 g1 g2 e
 ·rcases hzo c hc with hc | ⟨b,B,r,k1,_,k3,k4⟩
  ·exact sr.hh.zlt c hc
  ·exact k4 ▸ sr.hh.rltL k1 k3
 ·rw [Fp]; have:=sr.fr.1; rw [Fp] at this; exact this
 ·rw [Fo] at hx
  split at hx
  ·next ht =>
   injection hx with hx
   obtain ⟨x0,h1,hf⟩:=hl.at_ t x hx
   exact hf _ _ _ _ _ (fun c h=> .inl h) (fun v hv=>(o.vr sr.hh p hv).up) (sr.fr.2 t x0 (by rw [Fo,if_pos ht,h1]))
  ·cases hx
 ·exact sr.mks.imp fun q h3 h4 h5=>⟨h3,fun hc=>(hzo q hc).elim h4 h5,fun ho=>h5 (hown' q ho)⟩
/-- A cell of its own, as an own value. -/
def ocP {α:Type}(k:Nat) (t:TypeId) (c:Cd α):Oc α where
 cd:=cdP c
 at_ h e x F:=∃ b,e = .pt b 0 0/\F=[b]/\h[b]? = some (some ⟨k,t,[c.enc x],false⟩)
 loc:=fun ⟨b,e1,e2,e3⟩ k=>⟨b,e1,e2,(k b (by rw [e2]; simp)).trans e3⟩
 own:=fun ⟨b,e1,e2,e3⟩ hb=>by
  rw [e2] at hb
  simp at hb
  subst hb
  exact ⟨_,e3,rfl⟩
 vr:=fun {w Z R h e x F u} hh ha hv=>by
  obtain ⟨b,rfl,rfl,hb⟩:=ha
  obtain ⟨r,arr,us,g1,g2,g3,g4,g5,g6,g7,g8,g9,g10⟩:=hh.blk b _ hb
  cases hv with
  | pt hr =>
   rename_i r'
   rw [g1] at hr
   injection hr with hr
   subst hr
   obtain ⟨v,rfl⟩:∃ v,us=[v]:=by
    have:=g9.len
    match us,this with
    | [v],_=>exact ⟨v,rfl⟩
   have hx:=g9.at_ 0 _ v rfl rfl
   obtain ⟨k1,k2,k3⟩:=g10 0 v rfl
   have:=VR.pe (w:=w) (Z:=fun c=>Z c\/∃ b' ∈ [b],∃ r,R[b']? = some r/\c=r.c) (ρ:=[]) (off:=0) (a:=⟨r.c,0,none⟩) rfl (.inr ⟨b,by simp,r,g1,rfl⟩) k2 (fun j q hq=>by
    have:=k3 j q hq
    simp only [World.cell?,g3]
    simpa using this) ((JF (c.nr x) hx).mono (fun _ _=>rfl) (fun _ h=> .inl h) (fun _ _ h=>h))
   show VR _ _ _ (.pe (c.enc x) 0) _
   simpa using this
theorem SZ {α:Type}{c:Cd α}{h:Hp}{p:AV}{k:Nat}{t:TypeId}{x:α}{L:List Asn}(ht:T h (cel p k t (c.enc x)::L)):T h (own_ (ocP k t c) p x::L):=ht
theorem PG {R:List RI}{c:Nat}:¬ own R [] c:=fun ⟨b,B,_,hb,_⟩=>by simp at hb
/-- What a call hands back, seen as frozen. -/
def SI (h:Hp):AV->Option AV
 | .tp l=>(N3 (Fn h 12) l).map .tp
 | x=>Fn h 12 x
theorem Uv {w:World}{Z:Nat->Prop}{R:List RI}{h:Hp}{x y:AV}{v:Value}(hh:HR w Z R h) (hv:VR w Z R x v) (e:SI h x=some y):VR w (fun c=>Z c\/own R h c) [] y v:=by
 unfold SI at e
 split at e
 ·obtain ⟨ys,h1,rfl⟩:=Option.map_eq_some_iff.1 e
  cases hv with
  | tp hl hx =>
   have:=allV_vr (LN hh 12) ⟨hl,hx⟩ h1
   exact .tp this.len this.at_
 ·exact LN hh 12 _ _ _ hv e
theorem frz_ret {E:Env}{f:FuncId}{w:World}{Z:Nat->Prop}{us:List Value}{x y:AV}{h':Hp}(hr:Pd E f us w Z [] [] x h') (hv:SI h' x=some y) :
  Ret E.P f us.toArray w fun v w'=>w.grownBy w' none/\VR w' (fun c=>Z c\/(w.heap.size<=c/\c < w'.heap.size)) [] y v:=by
 refine Ret.mono hr fun v w' hS=>?_
 obtain ⟨Z',R',k1,k2,k3⟩:=hS
 refine ⟨⟨k3.os,k3.tape,k3.output,k3.size,fun c hc _=>k3.block c hc PG⟩,(Uv k1 k2 hv).mono (fun _ _=>rfl) (fun c hc=>?_) (fun _ _ h=>h)⟩
 rcases hc with hc | hc
 ·rcases k3.z' c hc with h1 | h1 | h1
  ·exact .inl h1
  ·exact absurd h1 PG
  ·exact .inr ⟨h1,k1.zlt c hc⟩
 ·rcases k3.own_ c hc with h1 | h1
  ·exact absurd h1 PG
  ·obtain ⟨b,B,r,h2,_,h3,rfl⟩:=hc
   exact .inr ⟨h1,k1.rltL h2 h3⟩
theorem hr_nil {w:World}{Z:Nat->Prop}(hz:∀ c,Z c->c < w.heap.size):HR w Z [] []:=⟨rfl,fun b B hB=>by simp at hB,fun b b' B B' r r' hB=>by simp at hB,hz⟩
/-- A closed call is told by what the interpreter finds. -/
theorem Sa {E:Env}(hE:EnvOk E){f:FuncId}{g:List AV->Option AV}(hc:Bu E.P f) (hg:∀ xs y,g xs=some y->∃ n x h',Im E (evC E n) none f xs []=some (x,h')/\SI h' x=some y):EnvOk (E.withX f g):=by
 refine hE.withX hc fun xs y h w Z us hz hgi hv=>?_
 obtain ⟨n,x,h',he,hvw⟩:=hg xs y h
 exact frz_ret (enter_sound hE (code_sound hE n).1 he (hr_nil hz) hv hgi (fun y hy=>by cases hy)) hvw
/-- What a closed call hands back, frozen. -/
def Ba (E:Env) (n:Nat) (f:FuncId) (args:List AV):Option AV:=match Im E (evC E n) none f args [] with
 | some (x,h')=>SI h' x
 | none=>none
/-- The same values? -/
def kB:IntKind->IntKind->Bool
 | .i64,.i64=>true
 | .u8,.u8=>true
 | _,_=>false
def vB:Value->Value->Bool
 | .int k a,.int k' b=>kB k k'&&a==b
 | .bool a,.bool b=>a==b
 | .pointer none,.pointer none=>true
 | _,_=>false
def bsB:List UInt8->List UInt8->Bool
 | [],[]=>true
 | a::l,b::r=>Nat.beq a.toNat b.toNat&&bsB l r
 | _,_=>false
def Tr (g:AV->AV->Bool):List AV->List AV->Bool
 | [],[]=>true
 | a::l,b::r=>g a b&&Tr g l r
 | _,_=>false
def Ty:Nat->AV->AV->Bool
 | 0,_,_=>false
 | n + 1,x,y=>match x,y with
  | .v a,.v b=>vB a b
  | .st a,.st b=>bsB a b
  | .e0,.e0=>true
  | .sl k a,.sl k' b=>Nat.beq k k'&&Tr (Ty n) a b
  | .pe a o,.pe b o'=>Nat.beq o o'&&Ty n a b
  | .ag a,.ag b=>Tr (Ty n) a b
  | .tp a,.tp b=>Tr (Ty n) a b
  | .fn f a b,.fn f' a' b'=>Nat.beq f f'&&(Tr (Ty n) a a'&&Tr (Ty n) b b')
  | _,_=>false
theorem Y0 {a b:IntKind}(h:kB a b=true):a=b:=by
 unfold kB at h
 split at h
 ·rfl
 ·rfl
 ·cases h
theorem ZE {a b:Value}(h:vB a b=true):a=b:=by
 unfold vB at h
 split at h
 ·rw [Bool.and_eq_true] at h
  rw [Y0 h.1,eq_of_beq h.2]
 ·rw [eq_of_beq h]
 ·rfl
 ·cases h
theorem U4:∀ {a b:List UInt8},bsB a b=true->a=b
 | [],[],_=>rfl
 | x::l,y::r,h=>by
  unfold bsB at h
  rw [Bool.and_eq_true] at h
  rw [UInt8.toNat_inj.1 (Nat.eq_of_beq_eq_true h.1),U4 h.2]
 | [],_::_,h=>by cases h
 | _::_,[],h=>by cases h
theorem Jp {g:AV->AV->Bool}(hg:∀ x y,g x y=true->x=y):∀ {a b:List AV},Tr g a b=true->a=b
 | [],[],_=>rfl
 | x::l,y::r,h=>by
  unfold Tr at h
  rw [Bool.and_eq_true] at h
  rw [hg _ _ h.1,Jp hg h.2]
 | [],_::_,h=>by cases h
 | _::_,[],h=>by cases h
theorem Qa:∀ (n:Nat) (x y:AV),Ty n x y=true->x=y
 | 0,_,_,h=>by cases h
 | n + 1,x,y,h=>by
  have ih:=Qa n
  unfold Ty at h
  split at h
  ·rw [ZE h]
  ·rw [U4 h]
  ·rfl
  ·rw [Bool.and_eq_true] at h
   rw [Nat.eq_of_beq_eq_true h.1,Jp ih h.2]
  ·rw [Bool.and_eq_true] at h
   rw [Nat.eq_of_beq_eq_true h.1,ih _ _ h.2]
  ·rw [Jp ih h]
  ·rw [Jp ih h]
  ·rw [Bool.and_eq_true,Bool.and_eq_true] at h
   rw [Nat.eq_of_beq_eq_true h.1,Jp ih h.2.1,Jp ih h.2.2]
  ·cases h
/-- A table. -/
def Oi:List (List AV×AV)->List AV->Option AV
 | [],_=>none
 | (a,r)::l,xs=>if Tr (Ty 40) a xs=true then some r else Oi l xs
def VQ (E:Env) (f:FuncId):List (List AV×AV)->Prop
 | []=>True
 | (a,r)::l=>(∃ n,Ba E n f a=some r)/\VQ E f l
theorem VK {E:Env}{f:FuncId}:∀ {l:List (List AV×AV)}{xs:List AV}{y:AV},VQ E f l->Oi l xs=some y->∃ n,Ba E n f xs=some y
 | (a,r)::l,xs,y,h,e=>by
  unfold Oi at e
  split at e
  ·next hb =>
   injection e with e
   subst e
   rw [<-Jp (Qa 40) hb]
   exact h.1
  ·exact VK h.2 e
theorem Kh {E:Env}(hE:EnvOk E){f:FuncId}{l:List (List AV×AV)}(hc:Bu E.P f) (h:VQ E f l):EnvOk (E.withX f (Oi l)):=by
 refine Sa hE hc fun xs y e=>?_
 obtain ⟨n,hn⟩:=VK h e
 unfold Ba at hn
 split at hn
 ·next x h' he=>exact ⟨n,x,h',he,hn⟩
 ·cases hn
/-- Another contract, told by a table of its own values. -/
theorem Wf {E:Env}{f:FuncId}{g:List AV->Option AV}{l:List (List AV×AV)}(hE:EnvOk (E.withX f g)) (h:∀ p ∈ l,g p.1=some p.2):EnvOk (E.withX f (Oi l)):=by
 have hl:∀ {l:List (List AV×AV)} {xs:List AV} {y:AV},(∀ p ∈ l,g p.1=some p.2)->Oi l xs=some y->g xs=some y:=by
  intro l
  induction l with
  | nil=>intro xs y _ e; cases e
  | cons p l ih =>
   intro xs y h e
   obtain ⟨a,r⟩:=p
   unfold Oi at e
   split at e
   ·next hb =>
    injection e with e
    subst e
    rw [<-Jp (Qa 40) hb]
    exact h (a,r) (by simp)
   ·exact ih (fun p hp=>h p (List.mem_cons_of_mem _ hp)) e
 refine ⟨hE.fn,hE.mixed,hE.I,fun k q hk=>?_⟩
 change (if k=f then some (Oi l) else E.X k)=some q at hk
 split at hk
 ·next hkf =>
  injection hk with hk
  subst hk hkf
  obtain ⟨h1,h2⟩:=hE.X k g (if_pos rfl)
  exact ⟨h1,fun xs x hx w Z us hz hg hv=>h2 xs x (hl h hx) w Z us hz hg hv⟩
 ·next hkf=>exact hE.X k q ((if_neg hkf).trans hk)
/-- What is told in one environment may be told in another of the same program. -/
theorem Uw {E E':Env}{f:FuncId}{g:List AV->Option AV}(hE:EnvOk E) (h:EnvOk (E'.withX f g)) (hP:E'.P=E.P) (hG:E'.G=E.G):EnvOk (E.withX f g):=by
 obtain ⟨h1,h2⟩:=h.X f g (if_pos rfl)
 have e1:(E'.withX f g).P=E.P:=hP
 refine hE.withX (e1 ▸ h1) fun xs x hx w Z us hz hg hv=>?_
 have:=h2 xs x hx w Z us hz (fun q y hy=>hg q y (by rw [<-hG]; exact hy)) hv
 exact e1 ▸ this
/-- Lists that are told by one value. -/
noncomputable def csJ {α:Type}(e:α->List AV) (hi:∀ x y,e x=e y->x=y) (hn:∀ x,(e x).all Dn=true):Cs α where
 enc:=e
 dec a:=open Classical in if h:∃ x,e x=a then some h.choose else none
 de x:=by
  have h:∃ y,e y=e x:=⟨x,rfl⟩
  rw [dif_pos h,hi _ _ h.choose_spec]
 vr:=fun {w Z a x u} hd hv=>by
  split at hd
  ·next h=>injection hd with hd; subst hd; rw [h.choose_spec]; exact hv
  ·cases hd
 nr:=hn
theorem Ot {α:Type}{n:Nat}{h:Hp}{s:Cs α}{a:α}:Sl (n + 2) h s (s.enc a) a :=
 ⟨s.enc a,Jq fun y hy=>J9 (List.all_eq_true.1 (s.nr a) y hy) n,s.de a⟩
theorem U5 {α:Type}{c:Cd α}{x y:α}(h:c.enc x=c.enc y):x=y:=by
 have h1:=c.de x
 rw [h,c.de y] at h1
 exact (OI h1).symm
/-- The order of a clause without regard to Among. -/
def LB (c:AE):AV :=
 if (c.1==1)=true then .fn 205 [] [.pe (.fn 178 [] [.pe (AA.enc c) 0]) 0] else
 if (c.1==2)=true then .fn 179 [] [.pe (AA.enc c) 0] else
 if (c.1==3)=true then .fn 179 [] [.pe (AA.enc c) 0] else
 if (c.1==4)=true then .fn 205 [] [.pe (.fn 206 [] [.pe (.fn 182 [] [.pe (AA.enc c) 0]) 0,.pe (AA.enc c) 0]) 0] else
 if (c.1==5)=true then .fn 205 [] [.pe (.fn 206 [] [.pe (.fn 183 [] []) 0,.pe (AA.enc c) 0]) 0] else
 if (c.1==6)=true then .fn 205 [] [.pe (.fn 206 [] [.pe (.fn 184 [] [.pe (AA.enc c) 0]) 0,.pe (AA.enc c) 0]) 0] else
 if (c.1==7)=true then .fn 205 [] [.pe (.fn 206 [] [.pe (.fn 186 [] [.pe (AA.enc c) 0]) 0,.pe (AA.enc c) 0]) 0] else
 if (c.1==8)=true then .fn 187 [] [] else
 if (c.1==10)=true then .fn 209 [] [.pe (.fn 208 [] []) 0,.pe (.fn 190 [] [.pe (AA.enc c) 0]) 0] else
 .fn 209 [] [.pe (.fn 208 [] []) 0,.pe (.fn 191 [] []) 0]
def IG (c:AE):AV:= .fn 165 [] [.pe (AA.enc c) 0,.pe (LB c) 0]
noncomputable def Cj:Cd AE:=cdJ IG (fun x y h=>by
 unfold IG at h
 injection h with _ _ h
 injection h with h
 injection h with h
 exact U5 h) (fun _=>rfl)
noncomputable def Po:Cs AE:=csJ (fun c=>[.pe (AA.enc c) 0,.pe (LB c) 0]) (fun x y h=>by
 injection h with h
 injection h with h
 exact U5 h) (fun _=>rfl)
/-- A straight call, told by what the interpreter finds. -/
theorem SJ {f:FuncId}(hc:Bu E0.P f){α β:Type}(s:Cs α) (F:α->Option β) (er:β->AV) (h:∀ a b,F a=some b->∃ n,Ba E0 n f (s.enc a)=some (er b)):XOk f (D4 s F er):=by
 refine ⟨hc,fun xs y hy w Z us hz hg hv=>?_⟩
 obtain ⟨a,ha,hy⟩:=OB hy
 obtain ⟨b,hb,rfl⟩:=Option.map_eq_some_iff.1 hy
 obtain ⟨n,hn⟩:=h a b hb
 unfold Ba at hn
 split at hn
 ·next x h' he=>exact frz_ret (enter_sound AC (code_sound AC n).1 he (hr_nil hz) (s.vr ha hv) hg (fun y hy=>by cases hy)) hn
 ·cases hn
def EY (x0:AE):Option AE:=if 1<=x0.1/\x0.1<=10 then some x0 else none
def Bn:Cs (AE×Unit):=csC AA csN
noncomputable def HQ (r:AE):AV:=Cj.enc r
noncomputable def Na:List AV->Option AV:=D4 Bn (fun a=>EY a.1) HQ
section
variable (am:List UInt8) (la:Bool) (nm:List (List UInt8)) (m:Int)
theorem WN:Ba E0 300 133 (Bn.enc ((1,am,la,nm,m),()))=some (IG (1,am,la,nm,m)):=by kernel_rfl
theorem WO:Ba E0 300 133 (Bn.enc ((2,am,la,nm,m),()))=some (IG (2,am,la,nm,m)):=by kernel_rfl
theorem WP:Ba E0 300 133 (Bn.enc ((3,am,la,nm,m),()))=some (IG (3,am,la,nm,m)):=by kernel_rfl
theorem WQ:Ba E0 300 133 (Bn.enc ((4,am,la,nm,m),()))=some (IG (4,am,la,nm,m)):=by kernel_rfl
theorem WR:Ba E0 300 133 (Bn.enc ((5,am,la,nm,m),()))=some (IG (5,am,la,nm,m)):=by kernel_rfl
theorem WS:Ba E0 300 133 (Bn.enc ((6,am,la,nm,m),()))=some (IG (6,am,la,nm,m)):=by kernel_rfl
theorem WU:Ba E0 300 133 (Bn.enc ((7,am,la,nm,m),()))=some (IG (7,am,la,nm,m)):=by kernel_rfl
theorem WV:Ba E0 300 133 (Bn.enc ((8,am,la,nm,m),()))=some (IG (8,am,la,nm,m)):=by kernel_rfl
theorem WW:Ba E0 300 133 (Bn.enc ((9,am,la,nm,m),()))=some (IG (9,am,la,nm,m)):=by kernel_rfl
theorem UW:Ba E0 300 133 (Bn.enc ((10,am,la,nm,m),()))=some (IG (10,am,la,nm,m)):=by kernel_rfl
end
theorem Nt:XOk 133 Na:=by
 refine SJ ⟨Tryz.call133⟩ Bn (fun a=>EY a.1) HQ fun a b h=>⟨300,?_⟩
 obtain ⟨⟨k,am,la,nm,m⟩,⟨⟩⟩:=a
 by_cases hk:1<=k/\k<=10
 ·have h1:some (k,am,la,nm,m)=some b:=(if_pos hk:EY (k,am,la,nm,m)=_).symm.trans h
  have h2:HQ b=IG (k,am,la,nm,m):=congrArg IG (OI h1).symm
  rw [h2]
  clear h h1 h2
  have hk':k=1\/k=2\/k=3\/k=4\/k=5\/k=6\/k=7\/k=8\/k=9\/k=10:=by omega
  rcases hk' with rfl | rfl | rfl | rfl | rfl | rfl | rfl | rfl | rfl | rfl
  ·exact WN am la nm m
  ·exact WO am la nm m
  ·exact WP am la nm m
  ·exact WQ am la nm m
  ·exact WR am la nm m
  ·exact WS am la nm m
  ·exact WU am la nm m
  ·exact WV am la nm m
  ·exact WW am la nm m
  ·exact UW am la nm m
 ·exact nomatch ((if_neg hk:EY (k,am,la,nm,m)=_).symm.trans h)
/- trestle/court.list -/
noncomputable def Iu:Code:=Br Tryz.f79
def Co (x0:(List Am)):Nat->(List Ai)->Int->Option (((List Ai)))
 | 0,_,_=>none
 | f + 1,c1,c2 =>
  if (decide (c2 < (x0.length:Int)))=true then
  (idx x0 c2).bind fun v4 =>
  if (Gg 120 (c1.length + 1))=true then
  Co x0 f (c1++[(v4,c2)]) (wr .i64 (c2 + 1))
  else none
  else
  some c1
def Gh (x0:(List Am)):Option ((List Ai)) :=
 (Co x0 100000 [] 0).bind fun r7 =>
 some r7
def Hf:Cs ((List Am)×Unit):=(csC (cdL 9 AG) csN)
def I3 (r:(List Ai)):AV:=(cdL 10 AF).enc r
theorem MR (x0:(List Am)):∀ (f:Nat) (c1:(List Ai)) (c2:Int) (r:((List Ai))),Co x0 f c1 c2=some r->SemN E0 ⟨none,false⟩ (pc Iu [1,1,0,1,0,0]) f ⟨Fr 21 [(3,hd 0 (c1.map AF.enc)),(6,.sl 9 (x0.map AG.enc)),(7,.v (.int .i64 (x0.length:Int))),(8,.v (.int .i64 c2))],[mk 10 115 (c1.map AF.enc)]⟩ (fun e s=>e=(.exit 0)/\Wk E0 s ⟨Fr 21 [(3,hd 0 (r.map AF.enc))],[mk 10 115 (r.map AF.enc)]⟩):=by
 intro f;induction f with
 | zero=>intro c1 c2 r h; cases h
 | succ f ih0 =>
  intro c1 c2 r h
  have ih:=fun (c1:(List Ai)) (c2:Int)=>ih0 c1 c2 r
  unfold Co at h;refine Bw ?_
  let p1:Option Blk:=mk 10 115 (c1.map AF.enc)
  let p2:Nat×AV:=(8,.v (.int .i64 c2))
  let p3:Nat×AV:=(7,.v (.int .i64 (x0.length:Int)))
  let p4:Nat×AV:=(6,.sl 9 (x0.map AG.enc))
  let p5:Nat×AV:=(3,hd 0 (c1.map AF.enc))
  refine AJ AC [p5,p4,p3,p2,(9,.v (.bool (decide (c2 < (x0.length:Int)))))] [p1] ?_;refine AH ?_;refine AM (b:=(decide (c2 < (x0.length:Int)))) kr (fun hb3=>?_) (fun hb3=>?_)
  ·rw [if_pos hb3] at h
   refine AQ ?_;refine AH ?_;refine Af ?_;refine AH ?_;obtain ⟨v4,hv4,h⟩:=OB h
   let p6:Option Blk:=some ⟨9,42,[AG.enc v4],false⟩
   refine AI (s1:=⟨Fr 21 [p5,(4,.v (.int .i64 c2)),(5,.pt 1 0 0),p4,p3,p2],[p1,p6]⟩) ?_ ?_
   ·refine AD (n:=21) AC 1 [p5,p4,p3,p2,(10,.v (.int .i64 c2))] [p1] kr ?_
    refine AK AC 0 rfl (Ci (AB rfl) rfl (AS (a:= .sl 9 (x0.map AG.enc)) (b:= .v (.int .i64 c2)) kr kr (FM (e:=AG.enc) (el:=42) (k:=9) (ki:= .i64) kr kr hv4))) ?_;exact AO AC
   by_cases hk5:(Gg 120 (c1.length + 1))=true
   case neg=>rw [if_neg hk5] at h; cases h
   rw [if_pos hk5] at h
   let p7:Option Blk:=mk 10 115 ((c1++[(v4,c2)]).map AF.enc)
   let p8:Nat×AV:=(3,hd 0 ((c1++[(v4,c2)]).map AF.enc))
   refine AI (s1:=⟨Fr 21 [p8,p4,p3,p2],[p7]⟩) ?_ ?_
   ·let p9:Option Blk:=mk 10 115 ([(v4,c2)].map AF.enc)
    refine AD (n:=21) AC 5 [p4,p3,p2,(13,hd 0 (c1.map AF.enc)),(17,hd 2 ([(v4,c2)].map AF.enc))] [p1,p6,p9] kr ?_;refine AK AC 0 rfl (VD (AB rfl) rfl kr kr (IM (a:=hd 0 (c1.map AF.enc)) (b:=hd 2 ([(v4,c2)].map AF.enc)) kr kr (Is (c:=AF) (xs:=c1) (vs:=[(v4,c2)]) (k:=10) (bytes:=120) (el:=115) kr kr (I1 (t:=115) kr) (List.cons_ne_nil _ _) kr hk5))) ?_;refine AD (n:=21) AC 1 [(3,hd 3 ((c1++[(v4,c2)]).map AF.enc)),p4,p3,p2] [none,p6,p9,p7] kr ?_;exact AL rfl (AY [3] ⟨⟨_,rfl,Cq⟩,trivial⟩ ⟨Cr (b':=3) kr kr,lv,lv,lv,trivial⟩)
   let p10:Nat×AV:=(8,.v (.int .i64 (wr .i64 (c2 + 1))))
   refine Cy AC [p8,p4,p3,p10] [p7] ?_;exact As (s1:=⟨Fr 21 [p8,p4,p3,p10],[p7]⟩) (AY [0] ⟨⟨_,rfl,Cq⟩,trivial⟩ ⟨Cr (b':=0) kr kr,lv,lv,lv,trivial⟩) (ih (c1++[(v4,c2)]) (wr .i64 (c2 + 1)) h)
  ·rw [CL hb3] at h
   refine CO ?_;have hq:=OI h; subst hq;exact ⟨rfl,(AY [0] ⟨⟨_,rfl,Cq⟩,trivial⟩ ⟨Cr (b':=0) kr kr,trivial⟩)⟩
theorem N6 (x0:(List Am)) (r:(List Ai)) (h:Gh x0=some r):Sem E0 ⟨none,false⟩ Iu ⟨Fr 21 (BP 0 (Hf.enc (x0,()))),[]⟩ fun e s'=>(e = .normal\/e = .ret)/\∃ xs,Em E0.P s'.fr s'.hp Tryz.f79.results.toList=some xs/\Ev xs=I3 r:=by
 unfold Gh at h
 let p1:Nat×AV:=(0,.sl 9 (x0.map AG.enc))
 refine A8 (Bv (s1:=⟨Fr 21 [p1],[]⟩) AN ?_);refine AJ AC [p1] [] ?_;refine AJ AC [p1,(3,.e0)] [] ?_;refine AH ?_;refine AH ?_
 let p2:Nat×AV:=(8,.v (.int .i64 0))
 let p3:Nat×AV:=(7,.v (.int .i64 (x0.length:Int)))
 let p4:Nat×AV:=(6,.sl 9 (x0.map AG.enc))
 refine AI (s1:=⟨Fr 21 [(3,.e0),p4,p3,p2],[]⟩) ?_ ?_
 ·refine AD (n:=21) AC 1 [(3,.e0),p4] [] kr ?_
  refine AK AC 0 rfl (Ci (AB rfl) rfl (DY (a:= .sl 9 (x0.map AG.enc)) kr (CB (el:=42) kr))) ?_;exact AO AC
 refine Af ?_;obtain ⟨r7,hr7,h⟩:=OB h;refine CV (n:=100000) ?_
 let p5:Option Blk:=mk 10 115 ([].map AF.enc)
 let p6:Nat×AV:=(3,hd 0 ([].map AF.enc))
 refine BK (As (s1:=⟨Fr 21 [p6,p4,p3,p2],[p5]⟩) (Wk.trans (s1:=⟨Fr 21 [p6,p4,p3,p2],[p5]⟩) Wk.none (AY [0] ⟨⟨_,rfl,LU⟩,trivial⟩ ⟨lv,lv,lv,lv,trivial⟩)) (MR x0 _ [] 0 _ hr7)) ?_;refine AJ AC [(2,hd 0 (r7.map AF.enc))] [mk 10 115 (r7.map AF.enc)] ?_;refine AU ?_;have hq:=OI h; subst hq
 let p7:Nat×AV:=(2,.sl 10 (r7.map AF.enc))
 exact ⟨⟨Fr 21 [p7],[]⟩,(Wk.trans (s1:=⟨Fr 21 [p7],[none]⟩) (Fs 0 (.inl kr) ⟨.inl rfl,trivial⟩ ⟨⟨hd 0 (r7.map AF.enc),kr,MV (t:=115) kr II⟩,trivial⟩) (AY [] trivial ⟨lv,trivial⟩)),.inr rfl,[.sl 10 (r7.map AF.enc)],kr,kr⟩
def QI:List AV->Option AV:=D4 Hf (fun a=>Gh a.1) I3
theorem QS:XOk 79 QI:=by
 refine AW Tryz.func79 (c:=Iu) ?h2 ⟨Tryz.call79⟩ Hf (fun a=>Gh a.1) I3 (fun a=>(by show 1<=21; decide)) ?h3 ?h4
 case h2=>kernel_rfl
 case h3=>intro b; kernel_rfl
 case h4=>exact fun a b h=>N6 a.1 b h
/- trestle/court.orders -/
noncomputable def Hq:Code:=Br Tryz.f75
def Cp (x0:(List AE)):Nat->(List AE)->Int->Option (((List AE)))
 | 0,_,_=>none
 | f + 1,c3,c4 =>
  if (decide (c4 < (x0.length:Int)))=true then
  (idx x0 c4).bind fun v6 =>
  (EY v6).bind fun v7 =>
  if (Gg 8 (c3.length + 1))=true then
  Cp x0 f (c3++[v7]) (wr .i64 (c4 + 1))
  else none
  else
  some c3
def D0 (x0:(List AE)):Option ((List AE)×Bool) :=
 (Eo x0).bind fun v1 =>
 if (v1.2 != 0)=true then
 some ([],false)
 else
 (Cp x0 100000 [] 0).bind fun r10 =>
 some (r10,true)
noncomputable def GE:Cs ((List AE)×Unit):=(csC (cdL 5 AA) csN)
noncomputable def H1 (r:(List AE)×Bool):AV:= .tp [(cdL 1 Cj).enc r.1,cdB.enc r.2]
theorem K8 (x0:(List AE)):∀ (f:Nat) (c3:(List AE)) (c4:Int) (r:((List AE))),Cp x0 f c3 c4=some r->SemN E0 ⟨none,false⟩ (pc Hq [1,1,1,0,1,0,0]) f ⟨Fr 29 [(6,hd 0 (c3.map Cj.enc)),(16,.sl 5 (x0.map AA.enc)),(17,.v (.int .i64 (x0.length:Int))),(18,.v (.int .i64 c4))],[mk 1 117 (c3.map Cj.enc)]⟩ (fun e s=>e=(.exit 0)/\Wk E0 s ⟨Fr 29 [(6,hd 0 (r.map Cj.enc))],[mk 1 117 (r.map Cj.enc)]⟩):=by
 intro f;induction f with
 | zero=>intro c3 c4 r h; cases h
 | succ f ih0 =>
  intro c3 c4 r h
  have ih:=fun (c3:(List AE)) (c4:Int)=>ih0 c3 c4 r
  unfold Cp at h;refine Bw ?_
  let p1:Option Blk:=mk 1 117 (c3.map Cj.enc)
  let p2:Nat×AV:=(18,.v (.int .i64 c4))
  let p3:Nat×AV:=(17,.v (.int .i64 (x0.length:Int)))
  let p4:Nat×AV:=(16,.sl 5 (x0.map AA.enc))
  refine AJ AC [(6,hd 0 (c3.map Cj.enc)),p4,p3,p2,(19,.v (.bool (decide (c4 < (x0.length:Int)))))] [p1] ?_;refine AH ?_;refine AM (b:=(decide (c4 < (x0.length:Int)))) kr (fun hb5=>?_) (fun hb5=>?_)
  ·rw [if_pos hb5] at h
   refine AQ ?_;refine AH ?_;refine Af ?_;refine AH ?_;obtain ⟨v6,hv6,h⟩:=OB h
   let p5:Option Blk:=some ⟨5,60,[AA.enc v6],false⟩
   refine AI (s1:=⟨Fr 29 [(6,hd 0 (c3.map Cj.enc)),(8,.pt 1 0 0),p4,p3,p2],[p1,p5]⟩) ?_ ?_
   ·refine AK AC 0 rfl (Ci (AB rfl) rfl (AS (a:= .sl 5 (x0.map AA.enc)) (b:= .v (.int .i64 c4)) kr kr (FM (e:=AA.enc) (el:=60) (k:=5) (ki:= .i64) kr kr hv6))) ?_
    exact AO AC
   obtain ⟨v7,hv7,h⟩:=OB h;by_cases hk8:(Gg 8 (c3.length + 1))=true
   case neg=>rw [if_neg hk8] at h; cases h
   rw [if_pos hk8] at h
   let p6:Option Blk:=mk 1 117 ((c3++[v7]).map Cj.enc)
   let p7:Nat×AV:=(6,hd 0 ((c3++[v7]).map Cj.enc))
   refine AI (s1:=⟨Fr 29 [p7,p4,p3,p2],[p6]⟩) ?_ ?_
   ·refine AD (n:=29) AC 2 [p4,p3,p2,(22,hd 0 (c3.map Cj.enc)),(23,AA.enc v6)] [p1,p5] kr ?_
    refine Ac (caps:=[]) (xs:=[AA.enc v6]) (u:=(v6,())) rfl rfl Nt rfl (AB rfl) kr kr (AP (Ab (c:=AA) (v:=v6)) BJ) (.inr kr) hv7 ?_;refine AD (n:=29) AC 1 [p4,p3,p2,(22,hd 0 (c3.map Cj.enc)),(25,hd 2 ([v7].map Cj.enc))] [p1,p5,mk 1 117 ([v7].map Cj.enc)] kr ?_;refine AK AC 0 rfl (VD (AB rfl) rfl kr kr (IM (a:=hd 0 (c3.map Cj.enc)) (b:=hd 2 ([v7].map Cj.enc)) kr kr (Is (c:=Cj) (xs:=c3) (vs:=[v7]) (k:=1) (bytes:=8) (el:=117) kr kr (I1 (t:=117) kr) (List.cons_ne_nil _ _) kr hk8))) ?_;refine AD (n:=29) AC 1 [(6,hd 3 ((c3++[v7]).map Cj.enc)),p4,p3,p2] [none,p5,mk 1 117 ([v7].map Cj.enc),p6] kr ?_;exact AL rfl (AY [3] ⟨⟨_,rfl,Cq⟩,trivial⟩ ⟨Cr (b':=3) kr kr,lv,lv,lv,trivial⟩)
   let p8:Nat×AV:=(18,.v (.int .i64 (wr .i64 (c4 + 1))))
   refine Cy AC [p7,p4,p3,p8] [p6] ?_;exact As (s1:=⟨Fr 29 [p7,p4,p3,p8],[p6]⟩) (AY [0] ⟨⟨_,rfl,Cq⟩,trivial⟩ ⟨Cr (b':=0) kr kr,lv,lv,lv,trivial⟩) (ih (c3++[v7]) (wr .i64 (c4 + 1)) h)
  ·rw [CL hb5] at h
   refine CO ?_;have hq:=OI h; subst hq;exact ⟨rfl,(AY [0] ⟨⟨_,rfl,Cq⟩,trivial⟩ ⟨Cr (b':=0) kr kr,trivial⟩)⟩
theorem MS (x0:(List AE)) (r:(List AE)×Bool) (h:D0 x0=some r):Sem E0 ⟨none,false⟩ Hq ⟨Fr 29 (BP 0 (GE.enc (x0,()))),[]⟩ fun e s'=>(e = .normal\/e = .ret)/\∃ xs,Em E0.P s'.fr s'.hp Tryz.f75.results.toList=some xs/\Ev xs=H1 r:=by
 unfold D0 at h
 let p1:Nat×AV:=(0,.sl 5 (x0.map AA.enc))
 refine A8 (Bv (s1:=⟨Fr 29 [p1],[]⟩) AN ?_);refine AJ AC [p1] [] ?_;refine AH ?_;refine AH ?_;obtain ⟨v1,hv1,h⟩:=OB h;refine AI (s1:=⟨Fr 29 [p1,(5,.v (.int .i64 v1.2))],[]⟩) ?_ ?_
 ·refine AD (n:=29) AC 1 [p1,(10,.sl 5 (x0.map AA.enc))] [] kr ?_
  refine Ac (caps:=[]) (xs:=[.sl 5 (x0.map AA.enc)]) (u:=(x0,())) rfl rfl LP rfl (AB rfl) kr kr (AP (Ab (c:=(cdL 5 AA)) (v:=x0)) BJ) (.inl kr) hv1 ?_;exact AO AC
 refine AJ AC [p1,(15,.v (.bool (v1.2 != 0)))] [] ?_;refine AM (b:=(v1.2 != 0)) kr (fun hb2=>?_) (fun hb2=>?_)
 ·rw [if_pos hb2] at h
  let p2:Nat×AV:=(3,.v (.bool false))
  refine AJ AC [(2,.e0),p2] [] ?_;refine AU ?_;have hq:=OI h; subst hq;exact ⟨⟨Fr 29 [(2,.sl 1 ([].map Cj.enc)),p2],[]⟩,(Wk.trans (s1:=⟨Fr 29 [(2,.e0),p2],[]⟩) AN (Wk.trans (s1:=⟨Fr 29 [(2,.e0),p2],[none]⟩) Wk.none (Wk.trans (s1:=⟨Fr 29 [(2,.sl 1 ([].map Cj.enc)),p2],[none]⟩) (Fs 0 (.inr kr) ⟨.inl rfl,trivial⟩ ⟨⟨.e0,kr,Pw⟩,⟨.v (.bool false),kr,.inl rfl⟩,trivial⟩) (AY [] trivial ⟨lv,lv,trivial⟩)))),.inr rfl,[.sl 1 ([].map Cj.enc),.v (.bool false)],kr,kr⟩
 ·rw [CL hb2] at h
  refine AQ ?_;refine AJ AC [p1,(6,.e0)] [] ?_;refine AH ?_;refine AH ?_
  let p3:Nat×AV:=(18,.v (.int .i64 0))
  let p4:Nat×AV:=(17,.v (.int .i64 (x0.length:Int)))
  let p5:Nat×AV:=(16,.sl 5 (x0.map AA.enc))
  refine AI (s1:=⟨Fr 29 [(6,.e0),p5,p4,p3],[]⟩) ?_ ?_
  ·refine AD (n:=29) AC 1 [(6,.e0),p5] [] kr ?_
   refine AK AC 0 rfl (Ci (AB rfl) rfl (DY (a:= .sl 5 (x0.map AA.enc)) kr (CB (el:=60) kr))) ?_;exact AO AC
  refine Af ?_;obtain ⟨r10,hr10,h⟩:=OB h;refine CV (n:=100000) ?_;refine BK (As (s1:=⟨Fr 29 [(6,hd 0 ([].map Cj.enc)),p5,p4,p3],[mk 1 117 ([].map Cj.enc)]⟩) (Wk.trans (s1:=⟨Fr 29 [(6,hd 0 ([].map Cj.enc)),p5,p4,p3],[mk 1 117 ([].map Cj.enc)]⟩) Wk.none (AY [0] ⟨⟨_,rfl,LU⟩,trivial⟩ ⟨lv,lv,lv,lv,trivial⟩)) (K8 x0 _ [] 0 _ hr10)) ?_
  let p6:Nat×AV:=(3,.v (.bool true))
  refine AJ AC [(2,hd 0 (r10.map Cj.enc)),p6] [mk 1 117 (r10.map Cj.enc)] ?_;refine AU ?_;have hq:=OI h; subst hq;exact ⟨⟨Fr 29 [(2,.sl 1 (r10.map Cj.enc)),p6],[]⟩,(Wk.trans (s1:=⟨Fr 29 [(2,.sl 1 (r10.map Cj.enc)),p6],[none]⟩) (Fs 0 (.inl kr) ⟨.inl rfl,trivial⟩ ⟨⟨hd 0 (r10.map Cj.enc),kr,MV (t:=117) kr II⟩,⟨.v (.bool true),kr,.inl rfl⟩,trivial⟩) (AY [] trivial ⟨lv,lv,trivial⟩)),.inr rfl,[.sl 1 (r10.map Cj.enc),.v (.bool true)],kr,kr⟩
noncomputable def OG:List AV->Option AV:=D4 GE (fun a=>D0 a.1) H1
theorem Ki:XOk 75 OG:=by
 refine AW Tryz.func75 (c:=Hq) ?h2 ⟨Tryz.call75⟩ GE (fun a=>D0 a.1) H1 (fun a=>(by show 1<=29; decide)) ?h3 ?h4
 case h2=>kernel_rfl
 case h3=>intro b; kernel_rfl
 case h4=>exact fun a b h=>MS a.1 b h
/- trestle/court.orderOf$1 -/
noncomputable def H9:Code:=Br Tryz.f165
def Bc {β:Type}(G:Ai->Ai->β->Option Int) (x0:Ai) (x1:Ai) (x2:AE) (x3:β):Option (Int) :=
 (if (!(x2.2.1==[]))=true then if (!(x0.1.2.1==x2.2.1))=true then some true else some (!(x1.1.2.1==x2.2.1)) else some false).bind fun j2 =>
 if j2=true then
 some 0
 else
 (G x0 x1 x3).bind fun v4 =>
 some v4
def GD {β:Type}(fid:FuncId) (sx:Cs β) (hn:∀ x,(sx.enc x).all Fm=true):Cs (Ai×Ai×AE×β×Unit):=(csC AF (csC AF (csC (cdP AA) (csC (cdP (cdF fid sx hn)) csN))))
def GH (r:Int):AV:=cdI.enc r
theorem Kk {β:Type}{fid:FuncId}{sx:Cs β}{hn:∀ x,(sx.enc x).all Fm=true}{G:Ai->Ai->β->Option Int}(hX:XOk fid (D4 (csC AF (csC AF sx)) (fun a=>G a.1 a.2.1 a.2.2) cdI.enc)) (x0:Ai) (x1:Ai) (x2:AE) (x3:β) (r:Int) (h:Bc G x0 x1 x2 x3=some r):Sem E0 ⟨none,false⟩ H9 ⟨Fr 30 (BP 0 ((GD fid sx hn).enc (x0,x1,x2,x3,()))),[]⟩ fun e s'=>(e = .normal\/e = .ret)/\∃ xs,Em E0.P s'.fr s'.hp Tryz.f165.results.toList=some xs/\Ev xs=GH r:=by
 unfold Bc at h
 refine A8 (Bv (s1:=⟨Fr 30 [(0,AF.enc x0),(1,AF.enc x1),(2,.pe (AA.enc x2) 0),(3,.pe (.fn fid [] (sx.enc x3)) 0)],[]⟩) AN ?_)
 refine AJ AC [(2,.pe (AA.enc x2) 0),(3,.pe (.fn fid [] (sx.enc x3)) 0),(4,.pt 0 0 0),(5,.pt 1 0 0)] [some ⟨10,115,[AF.enc x0],false⟩,some ⟨10,115,[AF.enc x1],false⟩] ?_
 refine AH ?_
 refine AH ?_
 obtain ⟨j2,hj2,h⟩:=OB h
 refine AI (s1:=⟨Fr 30 [(3,.pe (.fn fid [] (sx.enc x3)) 0),(4,.pt 0 0 0),(5,.pt 1 0 0),(25,.v (.bool j2))],[some ⟨10,115,[AF.enc x0],false⟩,some ⟨10,115,[AF.enc x1],false⟩]⟩) ?_ ?_
 ·refine AD (n:=30) AC 4 [(2,.pe (AA.enc x2) 0),(3,.pe (.fn fid [] (sx.enc x3)) 0),(4,.pt 0 0 0),(5,.pt 1 0 0),(10,.v (.bool (!(x2.2.1==[]))))] [some ⟨10,115,[AF.enc x0],false⟩,some ⟨10,115,[AF.enc x1],false⟩] kr ?_
  rcases BE (!(x2.2.1==[])) with hc5 | hc5
  ·rw [if_pos hc5] at hj2
   rw [hc5]
   refine AD (n:=30) AC 7 [(2,.pe (AA.enc x2) 0),(3,.pe (.fn fid [] (sx.enc x3)) 0),(4,.pt 0 0 0),(5,.pt 1 0 0),(10,.v (.bool true)),(17,.v (.bool (!(x0.1.2.1==x2.2.1))))] [some ⟨10,115,[AF.enc x0],false⟩,some ⟨10,115,[AF.enc x1],false⟩] kr ?_
   rcases BE (!(x0.1.2.1==x2.2.1)) with hc6 | hc6
   ·rw [if_pos hc6] at hj2
    rw [hc6]
    refine AD (n:=30) AC 8 [(3,.pe (.fn fid [] (sx.enc x3)) 0),(4,.pt 0 0 0),(5,.pt 1 0 0),(25,.v (.bool true))] [some ⟨10,115,[AF.enc x0],false⟩,some ⟨10,115,[AF.enc x1],false⟩] kr ?_
    have hq:=OI hj2; subst hq
    exact AL rfl (AY [0,1] ⟨⟨_,rfl,Cu⟩,⟨_,rfl,Cu⟩,trivial⟩ ⟨lv,lv,lv,lv,trivial⟩)
   ·rw [CL hc6] at hj2
    rw [hc6]
    refine AD (n:=30) AC 8 [(3,.pe (.fn fid [] (sx.enc x3)) 0),(4,.pt 0 0 0),(5,.pt 1 0 0),(25,.v (.bool (!(x1.1.2.1==x2.2.1))))] [some ⟨10,115,[AF.enc x0],false⟩,some ⟨10,115,[AF.enc x1],false⟩] kr ?_
    have hq:=OI hj2; subst hq
    exact AL rfl (AY [0,1] ⟨⟨_,rfl,Cu⟩,⟨_,rfl,Cu⟩,trivial⟩ ⟨lv,lv,lv,lv,trivial⟩)
  ·rw [CL hc5] at hj2
   rw [hc5]
   refine AD (n:=30) AC 15 [(3,.pe (.fn fid [] (sx.enc x3)) 0),(4,.pt 0 0 0),(5,.pt 1 0 0),(25,.v (.bool false))] [some ⟨10,115,[AF.enc x0],false⟩,some ⟨10,115,[AF.enc x1],false⟩] kr ?_
   have hq:=OI hj2; subst hq
   exact AL rfl (AY [0,1] ⟨⟨_,rfl,Cu⟩,⟨_,rfl,Cu⟩,trivial⟩ ⟨lv,lv,lv,lv,trivial⟩)
 refine AM (b:=j2) kr (fun hb3=>?_) (fun hb3=>?_)
 ·rw [if_pos hb3] at h
  refine AH ?_
  refine AI (s1:=⟨Fr 30 [(6,.v (.int .i64 0))],[]⟩) ?_ ?_
  ·refine AD (n:=30) AC 1 [(6,.v (.int .i64 0))] [some ⟨10,115,[AF.enc x0],false⟩,some ⟨10,115,[AF.enc x1],false⟩] kr ?_
   exact AL rfl (AY [] trivial ⟨lv,trivial⟩)
  refine AU ?_
  have hq:=OI h; subst hq
  exact ⟨⟨Fr 30 [(6,.v (.int .i64 0))],[]⟩,AN,.inr rfl,[.v (.int .i64 0)],kr,kr⟩
 ·rw [CL hb3] at h
  refine AQ ?_
  refine AH ?_
  obtain ⟨v4,hv4,h⟩:=OB h
  refine AI (s1:=⟨Fr 30 [(6,.v (.int .i64 v4))],[]⟩) ?_ ?_
  ·refine AD (n:=30) AC 3 [(26,.fn fid [] (sx.enc x3)),(27,AF.enc x0),(28,AF.enc x1)] [some ⟨10,115,[AF.enc x0],false⟩,some ⟨10,115,[AF.enc x1],false⟩] kr ?_
   refine Ac (caps:=sx.enc x3) (xs:=[AF.enc x0,AF.enc x1]) (u:=(x0,x1,x3)) rfl rfl hX rfl (AB rfl) kr kr (AP (Ab (c:=AF) (v:=x0)) (AP (Ab (c:=AF) (v:=x1)) (Ot (n:=10) (s:=sx) (a:=x3)))) (.inl kr) hv4 ?_
   refine AD (n:=30) AC 1 [(6,.v (.int .i64 v4))] [some ⟨10,115,[AF.enc x0],false⟩,some ⟨10,115,[AF.enc x1],false⟩] kr ?_
   exact AL rfl (AY [] trivial ⟨lv,trivial⟩)
  refine AU ?_
  have hq:=OI h; subst hq
  exact ⟨⟨Fr 30 [(6,.v (.int .i64 v4))],[]⟩,AN,.inr rfl,[.v (.int .i64 v4)],kr,kr⟩
def MA {β:Type}(fid:FuncId) (sx:Cs β) (hn:∀ x,(sx.enc x).all Fm=true) (G:Ai->Ai->β->Option Int):List AV->Option AV:=D4 (GD fid sx hn) (fun a=>Bc G a.1 a.2.1 a.2.2.1 a.2.2.2.1) GH
theorem B6 {β:Type}{fid:FuncId}{sx:Cs β}{hn:∀ x,(sx.enc x).all Fm=true}{G:Ai->Ai->β->Option Int}(hX:XOk fid (D4 (csC AF (csC AF sx)) (fun a=>G a.1 a.2.1 a.2.2) cdI.enc)):XOk 165 (MA fid sx hn G):=by
 refine AW Tryz.func165 (c:=H9) ?h2 ⟨Tryz.call165⟩ (GD fid sx hn) (fun a=>Bc G a.1 a.2.1 a.2.2.1 a.2.2.2.1) GH (fun a=>(by show 4<=30; decide)) ?h3 ?h4
 case h2=>kernel_rfl
 case h3=>intro b; kernel_rfl
 case h4=>exact fun a b h=>Kk hX a.1 a.2.1 a.2.2.1 a.2.2.2.1 b h
/- cmp.isNaN[int] -/
noncomputable def JM:Code:=Br Tryz.f137
def EU (x0:Int):Option (Bool) :=
 some (x0 != x0)
def G7:Cs (Int×Unit):=(csC cdI csN)
def HL (r:Bool):AV:=cdB.enc r
theorem LV (x0:Int) (r:Bool) (h:EU x0=some r):Sem E0 ⟨none,false⟩ JM ⟨Fr 6 (BP 0 (G7.enc (x0,()))),[]⟩ fun e s'=>(e = .normal\/e = .ret)/\∃ xs,Em E0.P s'.fr s'.hp Tryz.f137.results.toList=some xs/\Ev xs=HL r:=by
 unfold EU at h;refine A8 (Bv (s1:=⟨Fr 6 [(0,.v (.int .i64 x0))],[]⟩) AN ?_);refine AJ AC [(0,.v (.int .i64 x0))] [] ?_;refine AJ AC [(2,.v (.bool (x0 != x0)))] [] ?_;refine AU ?_;have hq:=OI h; subst hq;exact ⟨⟨Fr 6 [(2,.v (.bool (x0 != x0)))],[]⟩,AN,.inr rfl,[.v (.bool (x0 != x0))],kr,kr⟩
def NV:List AV->Option AV:=D4 G7 (fun a=>EU a.1) HL
theorem KC:XOk 137 NV:=by
 refine AW Tryz.func137 (c:=JM) ?h2 ⟨Tryz.call137⟩ G7 (fun a=>EU a.1) HL (fun a=>(by show 1<=6; decide)) ?h3 ?h4
 case h2=>kernel_rfl
 case h3=>intro b; kernel_rfl
 case h4=>exact fun a b h=>LV a.1 b h
/- cmp.Compare[int] -/
noncomputable def H8:Code:=Br Tryz.f113
def Bq (x0:Int) (x1:Int):Option (Int) :=
 (EU x0).bind fun v1 =>
 (EU x1).bind fun v2 =>
 if v1=true then
 if v2=true then
 some 0
 else
 some (-1)
 else
 if v2=true then
 some 1
 else
 if (decide (x0 < x1))=true then
 some (-1)
 else
 if (decide (x0 > x1))=true then
 some 1
 else
 some 0
def GA:Cs (Int×Int×Unit):=(csC cdI (csC cdI csN))
def GG (r:Int):AV:=cdI.enc r
theorem Kj (x0:Int) (x1:Int) (r:Int) (h:Bq x0 x1=some r):Sem E0 ⟨none,false⟩ H8 ⟨Fr 20 (BP 0 (GA.enc (x0,x1,()))),[]⟩ fun e s'=>(e = .normal\/e = .ret)/\∃ xs,Em E0.P s'.fr s'.hp Tryz.f113.results.toList=some xs/\Ev xs=GG r:=by
 unfold Bq at h
 let p1:Nat×AV:=(1,.v (.int .i64 x1))
 let p2:Nat×AV:=(0,.v (.int .i64 x0))
 refine A8 (Bv (s1:=⟨Fr 20 [p2,p1],[]⟩) AN ?_);refine AJ AC [p2,p1] [] ?_;refine AH ?_;obtain ⟨v1,hv1,h⟩:=OB h
 let p3:Nat×AV:=(5,.v (.bool v1))
 refine AI (s1:=⟨Fr 20 [p2,p1,p3],[]⟩) ?_ ?_
 ·refine AD (n:=20) AC 1 [p2,p1,(7,.v (.int .i64 x0))] [] kr ?_
  refine Ac (caps:=[]) (xs:=[.v (.int .i64 x0)]) (u:=(x0,())) rfl rfl KC rfl (AB rfl) kr kr (AP (Ab (c:=cdI) (v:=x0)) BJ) (.inl kr) hv1 ?_;exact AO AC
 refine AH ?_;obtain ⟨v2,hv2,h⟩:=OB h;refine AI (s1:=⟨Fr 20 [p2,p1,p3,(6,.v (.bool v2))],[]⟩) ?_ ?_
 ·refine AD (n:=20) AC 1 [p2,p1,p3,(9,.v (.int .i64 x1))] [] kr ?_
  refine Ac (caps:=[]) (xs:=[.v (.int .i64 x1)]) (u:=(x1,())) rfl rfl KC rfl (AB rfl) kr kr (AP (Ab (c:=cdI) (v:=x1)) BJ) (.inl kr) hv2 ?_;exact AO AC
 refine AH ?_;refine AJ AC [p2,p1,(6,.v (.bool v2)),(11,.v (.bool v1))] [] ?_;refine AM (b:=v1) kr (fun hb3=>?_) (fun hb3=>?_)
 ·rw [if_pos hb3] at h
  refine AH ?_;refine AJ AC [(12,.v (.bool v2))] [] ?_;refine AM (b:=v2) kr (fun hb4=>?_) (fun hb4=>?_)
  ·rw [if_pos hb4] at h
   refine AJ AC [(4,.v (.int .i64 0))] [] ?_;refine AU ?_;have hq:=OI h; subst hq;exact ⟨⟨Fr 20 [(4,.v (.int .i64 0))],[]⟩,AN,.inr rfl,[.v (.int .i64 0)],kr,kr⟩
  ·rw [CL hb4] at h
   refine AQ ?_;refine AJ AC [(4,.v (.int .i64 (-1)))] [] ?_;refine AU ?_;have hq:=OI h; subst hq;exact ⟨⟨Fr 20 [(4,.v (.int .i64 (-1)))],[]⟩,AN,.inr rfl,[.v (.int .i64 (-1))],kr,kr⟩
 ·rw [CL hb3] at h
  refine AQ ?_;refine AH ?_;refine AJ AC [p2,p1,(13,.v (.bool v2))] [] ?_;refine AM (b:=v2) kr (fun hb5=>?_) (fun hb5=>?_)
  ·rw [if_pos hb5] at h
   refine AJ AC [(4,.v (.int .i64 1))] [] ?_;refine AU ?_;have hq:=OI h; subst hq;exact ⟨⟨Fr 20 [(4,.v (.int .i64 1))],[]⟩,AN,.inr rfl,[.v (.int .i64 1)],kr,kr⟩
  ·rw [CL hb5] at h
   refine AQ ?_;refine AH ?_;refine AJ AC [p2,p1,(16,.v (.bool (decide (x0 < x1))))] [] ?_;refine AM (b:=(decide (x0 < x1))) kr (fun hb6=>?_) (fun hb6=>?_)
   ·rw [if_pos hb6] at h
    refine AJ AC [(4,.v (.int .i64 (-1)))] [] ?_;refine AU ?_;have hq:=OI h; subst hq;exact ⟨⟨Fr 20 [(4,.v (.int .i64 (-1)))],[]⟩,AN,.inr rfl,[.v (.int .i64 (-1))],kr,kr⟩
   ·rw [CL hb6] at h
    refine AQ ?_;refine AH ?_;refine AJ AC [(19,.v (.bool (decide (x0 > x1))))] [] ?_;refine AM (b:=(decide (x0 > x1))) kr (fun hb7=>?_) (fun hb7=>?_)
    ·rw [if_pos hb7] at h
     refine AJ AC [(4,.v (.int .i64 1))] [] ?_;refine AU ?_;have hq:=OI h; subst hq;exact ⟨⟨Fr 20 [(4,.v (.int .i64 1))],[]⟩,AN,.inr rfl,[.v (.int .i64 1)],kr,kr⟩
    ·rw [CL hb7] at h
     refine AQ ?_;refine AJ AC [(4,.v (.int .i64 0))] [] ?_;refine AU ?_;have hq:=OI h; subst hq;exact ⟨⟨Fr 20 [(4,.v (.int .i64 0))],[]⟩,AN,.inr rfl,[.v (.int .i64 0)],kr,kr⟩
def L8:List AV->Option AV:=D4 GA (fun a=>Bq a.1 a.2.1) GG
theorem EQ:XOk 113 L8:=by
 refine AW Tryz.func113 (c:=H8) ?h2 ⟨Tryz.call113⟩ GA (fun a=>Bq a.1 a.2.1) GG (fun a=>(by show 2<=20; decide)) ?h3 ?h4
 case h2=>kernel_rfl
 case h3=>intro b; kernel_rfl
 case h4=>exact fun a b h=>Kj a.1 a.2.1 b h
/- trestle/court.by$1 -/
noncomputable def K3:Code:=Br Tryz.f205
def By {β:Type}(G:Ai->β->Option Int) (x0:Ai) (x1:Ai) (x2:β):Option (Int) :=
 (G x0 x2).bind fun v1 =>
 (G x1 x2).bind fun v2 =>
 (Bq v1 v2).bind fun v3 =>
 some v3
def Iy {β:Type}(fid:FuncId) (sx:Cs β) (hn:∀ x,(sx.enc x).all Fm=true):Cs (Ai×Ai×β×Unit):=(csC AF (csC AF (csC (cdP (cdF fid sx hn)) csN)))
def I2 (r:Int):AV:=cdI.enc r
theorem N5 {β:Type}{fid:FuncId}{sx:Cs β}{hn:∀ x,(sx.enc x).all Fm=true}{G:Ai->β->Option Int}(hX:XOk fid (D4 (csC AF sx) (fun a=>G a.1 a.2) cdI.enc)) (x0:Ai) (x1:Ai) (x2:β) (r:Int) (h:By G x0 x1 x2=some r):Sem E0 ⟨none,false⟩ K3 ⟨Fr 13 (BP 0 ((Iy fid sx hn).enc (x0,x1,x2,()))),[]⟩ fun e s'=>(e = .normal\/e = .ret)/\∃ xs,Em E0.P s'.fr s'.hp Tryz.f205.results.toList=some xs/\Ev xs=I2 r:=by
 unfold By at h
 refine A8 (Bv (s1:=⟨Fr 13 [(0,AF.enc x0),(1,AF.enc x1),(2,.pe (.fn fid [] (sx.enc x2)) 0)],[]⟩) AN ?_)
 refine AJ AC [(2,.pe (.fn fid [] (sx.enc x2)) 0),(3,.pt 0 0 0),(4,.pt 1 0 0)] [some ⟨10,115,[AF.enc x0],false⟩,some ⟨10,115,[AF.enc x1],false⟩] ?_
 refine AH ?_
 obtain ⟨v1,hv1,h⟩:=OB h
 obtain ⟨v2,hv2,h⟩:=OB h
 obtain ⟨v3,hv3,h⟩:=OB h
 refine EH AC (s1:=⟨Fr 13 [(5,.v (.int .i64 v3))],[]⟩) kr ?_ ?_
 ·refine Ap (n:=13) AC 2 [(2,.pe (.fn fid [] (sx.enc x2)) 0),(4,.pt 1 0 0),(6,.fn fid [] (sx.enc x2)),(7,AF.enc x0)] [some ⟨10,115,[AF.enc x0],false⟩,some ⟨10,115,[AF.enc x1],false⟩] kr kr ?_
  refine Bo (caps:=sx.enc x2) (xs:=[AF.enc x0]) (u:=(x0,x2)) rfl rfl hX rfl (AB rfl) kr kr (AP (Ab (c:=AF) (v:=x0)) (Ot (n:=10) (s:=sx) (a:=x2))) kr hv1 ?_
  refine Ap (n:=13) AC 2 [(8,.v (.int .i64 v1)),(9,.fn fid [] (sx.enc x2)),(10,AF.enc x1)] [some ⟨10,115,[AF.enc x0],false⟩,some ⟨10,115,[AF.enc x1],false⟩] kr kr ?_
  refine Bo (caps:=sx.enc x2) (xs:=[AF.enc x1]) (u:=(x1,x2)) rfl rfl hX rfl (AB rfl) kr kr (AP (Ab (c:=AF) (v:=x1)) (Ot (n:=10) (s:=sx) (a:=x2))) kr hv2 ?_
  refine Bo (caps:=[]) (xs:=[.v (.int .i64 v1),.v (.int .i64 v2)]) (u:=(v1,v2,())) rfl rfl EQ rfl (AB rfl) kr kr (AP (Ab (c:=cdI) (v:=v1)) (AP (Ab (c:=cdI) (v:=v2)) BJ)) kr hv3 ?_
  refine Ap (n:=13) AC 1 [(5,.v (.int .i64 v3))] [some ⟨10,115,[AF.enc x0],false⟩,some ⟨10,115,[AF.enc x1],false⟩] kr kr ?_
  exact RunDS.done rfl (AY [] trivial ⟨lv,trivial⟩)
 refine AU ?_
 have hq:=OI h; subst hq
 exact ⟨⟨Fr 13 [(5,.v (.int .i64 v3))],[]⟩,AN,.inr rfl,[.v (.int .i64 v3)],kr,kr⟩
def QH {β:Type}(fid:FuncId) (sx:Cs β) (hn:∀ x,(sx.enc x).all Fm=true) (G:Ai->β->Option Int):List AV->Option AV:=D4 (Iy fid sx hn) (fun a=>By G a.1 a.2.1 a.2.2.1) I2
theorem Gz {β:Type}{fid:FuncId}{sx:Cs β}{hn:∀ x,(sx.enc x).all Fm=true}{G:Ai->β->Option Int}(hX:XOk fid (D4 (csC AF sx) (fun a=>G a.1 a.2) cdI.enc)):XOk 205 (QH fid sx hn G):=by
 refine AW Tryz.func205 (c:=K3) ?h2 ⟨Tryz.call205⟩ (Iy fid sx hn) (fun a=>By G a.1 a.2.1 a.2.2.1) I2 (fun a=>(by show 3<=13; decide)) ?h3 ?h4
 case h2=>kernel_rfl
 case h3=>intro b; kernel_rfl
 case h4=>exact fun a b h=>N5 hX a.1 a.2.1 a.2.2.1 b h
/- trestle/court.plain$1 -/
noncomputable def JR:Code:=Br Tryz.f178
def DB (x0:Ai) (x1:AE):Option (Int) :=
 (BH x1.2.2.2.1 x0.1.2.1).bind fun v1 =>
 if (decide (v1≥0))=true then
 some v1
 else
 some (x1.2.2.2.1.length:Int)
def HC:Cs (Ai×AE×Unit):=(csC AF (csC (cdP AA) csN))
def HS (r:Int):AV:=cdI.enc r
theorem La (x0:Ai) (x1:AE) (r:Int) (h:DB x0 x1=some r):Sem E0 ⟨none,false⟩ JR ⟨Fr 17 (BP 0 (HC.enc (x0,x1,()))),[]⟩ fun e s'=>(e = .normal\/e = .ret)/\∃ xs,Em E0.P s'.fr s'.hp Tryz.f178.results.toList=some xs/\Ev xs=HS r:=by
 unfold DB at h
 let p1:Nat×AV:=(1,.pe (AA.enc x1) 0)
 refine A8 (Bv (s1:=⟨Fr 17 [(0,AF.enc x0),p1],[]⟩) AN ?_)
 let p2:Option Blk:=some ⟨10,115,[AF.enc x0],false⟩
 refine AJ AC [p1,(2,.pt 0 0 0)] [p2] ?_;refine AH ?_;refine AH ?_;obtain ⟨v1,hv1,h⟩:=OB h
 let p3:Nat×AV:=(4,.v (.int .i64 v1))
 refine AI (s1:=⟨Fr 17 [p1,p3],[]⟩) ?_ ?_
 ·refine AD (n:=17) AC 5 [p1,(6,.sl 1 (x1.2.2.2.1.map cdS.enc)),(9,.st x0.1.2.1)] [p2] kr ?_
  refine Ac (caps:=[]) (xs:=[.sl 1 (x1.2.2.2.1.map cdS.enc),.st x0.1.2.1]) (u:=(x1.2.2.2.1,x0.1.2.1,())) rfl rfl Ek rfl (AB rfl) kr kr (AP (Ab (c:=(cdL 1 cdS)) (v:=x1.2.2.2.1)) (AP (Ab (c:=cdS) (v:=x0.1.2.1)) BJ)) (.inl kr) hv1 ?_;refine AD (n:=17) AC 1 [p1,p3] [p2] kr ?_;exact AL rfl (AY [] trivial ⟨lv,lv,trivial⟩)
 refine AJ AC [p1,p3,(12,.v (.bool (decide (v1≥0))))] [] ?_;refine AM (b:=(decide (v1≥0))) kr (fun hb2=>?_) (fun hb2=>?_)
 ·rw [if_pos hb2] at h
  refine AJ AC [(3,.v (.int .i64 v1))] [] ?_;refine AU ?_;have hq:=OI h; subst hq;exact ⟨⟨Fr 17 [(3,.v (.int .i64 v1))],[]⟩,AN,.inr rfl,[.v (.int .i64 v1)],kr,kr⟩
 ·rw [CL hb2] at h
  refine AQ ?_;refine AH ?_
  let p4:Nat×AV:=(3,.v (.int .i64 (x1.2.2.2.1.length:Int)))
  refine AI (s1:=⟨Fr 17 [p4],[]⟩) ?_ ?_
  ·refine AD (n:=17) AC 2 [(15,.sl 1 (x1.2.2.2.1.map cdS.enc))] [] kr ?_
   refine AK AC 0 rfl (Ci (AB rfl) rfl (DY (a:= .sl 1 (x1.2.2.2.1.map cdS.enc)) kr (CB (el:=9) kr))) ?_;exact AO AC
  refine AU ?_;have hq:=OI h; subst hq;exact ⟨⟨Fr 17 [p4],[]⟩,AN,.inr rfl,[.v (.int .i64 (x1.2.2.2.1.length:Int))],kr,kr⟩
def Nb:List AV->Option AV:=D4 HC (fun a=>DB a.1 a.2.1) HS
theorem Nu:XOk 178 Nb:=by
 refine AW Tryz.func178 (c:=JR) ?h2 ⟨Tryz.call178⟩ HC (fun a=>DB a.1 a.2.1) HS (fun a=>(by show 2<=17; decide)) ?h3 ?h4
 case h2=>kernel_rfl
 case h3=>intro b; kernel_rfl
 case h4=>exact fun a b h=>La a.1 a.2.1 b h
/- trestle/court.b2i -/
noncomputable def MG:Code:=Br Tryz.f180
def Hu (x0:Bool):Option (Int) :=
 if x0=true then
 some 1
 else
 some 0
def Jv:Cs (Bool×Unit):=(csC cdB csN)
def Jx (r:Int):AV:=cdI.enc r
theorem O1 (x0:Bool) (r:Int) (h:Hu x0=some r):Sem E0 ⟨none,false⟩ MG ⟨Fr 4 (BP 0 (Jv.enc (x0,()))),[]⟩ fun e s'=>(e = .normal\/e = .ret)/\∃ xs,Em E0.P s'.fr s'.hp Tryz.f180.results.toList=some xs/\Ev xs=Jx r:=by
 unfold Hu at h;refine A8 (Bv (s1:=⟨Fr 4 [(0,.v (.bool x0))],[]⟩) AN ?_);refine AJ AC [(0,.v (.bool x0))] [] ?_;refine AH ?_;refine AJ AC [(3,.v (.bool x0))] [] ?_;refine AM (b:=x0) kr (fun hb1=>?_) (fun hb1=>?_)
 ·rw [if_pos hb1] at h
  refine AJ AC [(2,.v (.int .i64 1))] [] ?_;refine AU ?_;have hq:=OI h; subst hq;exact ⟨⟨Fr 4 [(2,.v (.int .i64 1))],[]⟩,AN,.inr rfl,[.v (.int .i64 1)],kr,kr⟩
 ·rw [CL hb1] at h
  refine AQ ?_;refine AJ AC [(2,.v (.int .i64 0))] [] ?_;refine AU ?_;have hq:=OI h; subst hq;exact ⟨⟨Fr 4 [(2,.v (.int .i64 0))],[]⟩,AN,.inr rfl,[.v (.int .i64 0)],kr,kr⟩
def Qy:List AV->Option AV:=D4 Jv (fun a=>Hu a.1) Jx
theorem Nq:XOk 180 Qy:=by
 refine AW Tryz.func180 (c:=MG) ?h2 ⟨Tryz.call180⟩ Jv (fun a=>Hu a.1) Jx (fun a=>(by show 1<=4; decide)) ?h3 ?h4
 case h2=>kernel_rfl
 case h3=>intro b; kernel_rfl
 case h4=>exact fun a b h=>O1 a.1 b h
/- trestle/court.plain$2 -/
noncomputable def G6:Code:=Br Tryz.f179
def FS (x2:AE) (v5:Int):Option ((Int)) :=
 if (x2.1==3)=true then
 some (wr .i64 (0 - v5))
 else
 some v5
def Ce (x0:Ai) (x1:Ai) (x2:AE):Option (Int) :=
 if (!((x0.1.2.2.2.1==0)==(x1.1.2.2.2.1==0)))=true then
 (Hu (x0.1.2.2.2.1==0)).bind fun v2 =>
 (Hu (x1.1.2.2.2.1==0)).bind fun v3 =>
 (Bq v2 v3).bind fun v4 =>
 some v4
 else
 (Bq x0.1.2.2.2.1 x1.1.2.2.2.1).bind fun v5 =>
 (FS x2 v5).bind fun r8 =>
 some r8
def HD:Cs (Ai×Ai×AE×Unit):=(csC AF (csC AF (csC (cdP AA) csN)))
def HT (r:Int):AV:=cdI.enc r
theorem Kl (x2:AE) (v5:Int) (r:(Int)) (h:FS x2 v5=some r):Sem E0 ⟨none,false⟩ (pc G6 [1,1,1,0,1]) ⟨Fr 40 [(6,.v (.int .i64 v5)),(36,.v (.bool (x2.1==3)))],[]⟩ (fun e s=>e = .normal/\Wk E0 s ⟨Fr 40 [(6,.v (.int .i64 r))],[]⟩):=by
 unfold FS at h;refine AM (b:=(x2.1==3)) kr (fun hb6=>?_) (fun hb6=>?_)
 ·rw [if_pos hb6] at h
  refine Cy AC [(6,.v (.int .i64 (wr .i64 (0 - v5))))] [] ?_;have hq:=OI h; subst hq;exact ⟨rfl,AN⟩
 ·rw [CL hb6] at h
  refine AQ ?_;have hq:=OI h; subst hq;exact ⟨rfl,AN⟩
theorem Lb (x0:Ai) (x1:Ai) (x2:AE) (r:Int) (h:Ce x0 x1 x2=some r):Sem E0 ⟨none,false⟩ G6 ⟨Fr 40 (BP 0 (HD.enc (x0,x1,x2,()))),[]⟩ fun e s'=>(e = .normal\/e = .ret)/\∃ xs,Em E0.P s'.fr s'.hp Tryz.f179.results.toList=some xs/\Ev xs=HT r:=by
 unfold Ce at h
 let p1:Nat×AV:=(2,.pe (AA.enc x2) 0)
 refine A8 (Bv (s1:=⟨Fr 40 [(0,AF.enc x0),(1,AF.enc x1),p1],[]⟩) AN ?_)
 let p2:Option Blk:=some ⟨10,115,[AF.enc x1],false⟩
 let p3:Option Blk:=some ⟨10,115,[AF.enc x0],false⟩
 refine AJ AC [p1,(3,.pt 0 0 0),(4,.pt 1 0 0)] [p3,p2] ?_;refine AH ?_;refine AJ AC [p1,(3,.pt 0 0 0),(4,.pt 1 0 0),(15,.v (.bool (!((x0.1.2.2.2.1==0)==(x1.1.2.2.2.1==0)))))] [p3,p2] ?_;refine AM (b:=(!((x0.1.2.2.2.1==0)==(x1.1.2.2.2.1==0)))) kr (fun hb1=>?_) (fun hb1=>?_)
 ·rw [if_pos hb1] at h
  refine AH ?_;obtain ⟨v2,hv2,h⟩:=OB h;obtain ⟨v3,hv3,h⟩:=OB h;obtain ⟨v4,hv4,h⟩:=OB h
  let p4:Nat×AV:=(5,.v (.int .i64 v4))
  refine EH AC (s1:=⟨Fr 40 [p4],[]⟩) kr ?_ ?_
  ·refine Ap (n:=40) AC 4 [(4,.pt 1 0 0),(19,.v (.bool (x0.1.2.2.2.1==0)))] [p3,p2] kr kr ?_
   refine Bo (caps:=[]) (xs:=[.v (.bool (x0.1.2.2.2.1==0))]) (u:=((x0.1.2.2.2.1==0),())) rfl rfl Nq rfl (AB rfl) kr kr (AP (Ab (c:=cdB) (v:=(x0.1.2.2.2.1==0))) BJ) kr hv2 ?_;refine Ap (n:=40) AC 4 [(20,.v (.int .i64 v2)),(24,.v (.bool (x1.1.2.2.2.1==0)))] [p3,p2] kr kr ?_;refine Bo (caps:=[]) (xs:=[.v (.bool (x1.1.2.2.2.1==0))]) (u:=((x1.1.2.2.2.1==0),())) rfl rfl Nq rfl (AB rfl) kr kr (AP (Ab (c:=cdB) (v:=(x1.1.2.2.2.1==0))) BJ) kr hv3 ?_;refine Bo (caps:=[]) (xs:=[.v (.int .i64 v2),.v (.int .i64 v3)]) (u:=(v2,v3,())) rfl rfl EQ rfl (AB rfl) kr kr (AP (Ab (c:=cdI) (v:=v2)) (AP (Ab (c:=cdI) (v:=v3)) BJ)) kr hv4 ?_;refine Ap (n:=40) AC 1 [p4] [p3,p2] kr kr ?_;exact RunDS.done rfl (AY [] trivial ⟨lv,trivial⟩)
  refine AU ?_;have hq:=OI h; subst hq;exact ⟨⟨Fr 40 [p4],[]⟩,AN,.inr rfl,[.v (.int .i64 v4)],kr,kr⟩
 ·rw [CL hb1] at h
  refine AQ ?_;refine AH ?_;obtain ⟨v5,hv5,h⟩:=OB h
  let p5:Nat×AV:=(6,.v (.int .i64 v5))
  refine AI (s1:=⟨Fr 40 [p1,p5],[]⟩) ?_ ?_
  ·refine AD (n:=40) AC 6 [p1,(29,.v (.int .i64 x0.1.2.2.2.1)),(32,.v (.int .i64 x1.1.2.2.2.1))] [p3,p2] kr ?_
   refine Ac (caps:=[]) (xs:=[.v (.int .i64 x0.1.2.2.2.1),.v (.int .i64 x1.1.2.2.2.1)]) (u:=(x0.1.2.2.2.1,x1.1.2.2.2.1,())) rfl rfl EQ rfl (AB rfl) kr kr (AP (Ab (c:=cdI) (v:=x0.1.2.2.2.1)) (AP (Ab (c:=cdI) (v:=x1.1.2.2.2.1)) BJ)) (.inl kr) hv5 ?_;refine AD (n:=40) AC 1 [p1,p5] [p3,p2] kr ?_;exact AL rfl (AY [] trivial ⟨lv,lv,trivial⟩)
  refine AH ?_;refine AJ AC [p5,(36,.v (.bool (x2.1==3)))] [] ?_;obtain ⟨r8,hr8,h⟩:=OB h;refine Cl (Kl x2 v5 _ hr8) ?_;refine AJ AC [(5,.v (.int .i64 r8))] [] ?_;refine AU ?_;have hq:=OI h; subst hq;exact ⟨⟨Fr 40 [(5,.v (.int .i64 r8))],[]⟩,AN,.inr rfl,[.v (.int .i64 r8)],kr,kr⟩
def Nc:List AV->Option AV:=D4 HD (fun a=>Ce a.1 a.2.1 a.2.2.1) HT
theorem KE:XOk 179 Nc:=by
 refine AW Tryz.func179 (c:=G6) ?h2 ⟨Tryz.call179⟩ HD (fun a=>Ce a.1 a.2.1 a.2.2.1) HT (fun a=>(by show 3<=40; decide)) ?h3 ?h4
 case h2=>kernel_rfl
 case h3=>intro b; kernel_rfl
 case h4=>exact fun a b h=>Lb a.1 a.2.1 a.2.2.1 b h
/- cmp.isNaN[string] -/
noncomputable def Ho:Code:=Br Tryz.f207
def DJ (x0:(List UInt8)):Option (Bool) :=
 some (!(x0==x0))
def FZ:Cs ((List UInt8)×Unit):=(csC cdS csN)
def Fb (r:Bool):AV:=cdB.enc r
theorem KR (x0:(List UInt8)) (r:Bool) (h:DJ x0=some r):Sem E0 ⟨none,false⟩ Ho ⟨Fr 6 (BP 0 (FZ.enc (x0,()))),[]⟩ fun e s'=>(e = .normal\/e = .ret)/\∃ xs,Em E0.P s'.fr s'.hp Tryz.f207.results.toList=some xs/\Ev xs=Fb r:=by
 unfold DJ at h;refine A8 (Bv (s1:=⟨Fr 6 [(0,.st x0)],[]⟩) AN ?_);refine AJ AC [(0,.st x0)] [] ?_;refine AJ AC [(2,.v (.bool (!(x0==x0))))] [] ?_;refine AU ?_;have hq:=OI h; subst hq;exact ⟨⟨Fr 6 [(2,.v (.bool (!(x0==x0))))],[]⟩,AN,.inr rfl,[.v (.bool (!(x0==x0)))],kr,kr⟩
def LK:List AV->Option AV:=D4 FZ (fun a=>DJ a.1) Fb
theorem IN:XOk 207 LK:=by
 refine AW Tryz.func207 (c:=Ho) ?h2 ⟨Tryz.call207⟩ FZ (fun a=>DJ a.1) Fb (fun a=>(by show 1<=6; decide)) ?h3 ?h4
 case h2=>kernel_rfl
 case h3=>intro b; kernel_rfl
 case h4=>exact fun a b h=>KR a.1 b h
/- cmp.Compare[string] -/
noncomputable def Gp:Code:=Br Tryz.f188
def Cn (x0:(List UInt8)) (x1:(List UInt8)):Option (Int) :=
 (DJ x0).bind fun v1 =>
 (DJ x1).bind fun v2 =>
 if v1=true then
 if v2=true then
 some 0
 else
 some (-1)
 else
 if v2=true then
 some 1
 else
 if (Go.Op.bytesLess x0 x1)=true then
 some (-1)
 else
 if (!((Go.Op.bytesLess x0 x1)||(x0==x1)))=true then
 some 1
 else
 some 0
def Eq:Cs ((List UInt8)×(List UInt8)×Unit):=(csC cdS (csC cdS csN))
def Es (r:Int):AV:=cdI.enc r
theorem Jd (x0:(List UInt8)) (x1:(List UInt8)) (r:Int) (h:Cn x0 x1=some r):Sem E0 ⟨none,false⟩ Gp ⟨Fr 20 (BP 0 (Eq.enc (x0,x1,()))),[]⟩ fun e s'=>(e = .normal\/e = .ret)/\∃ xs,Em E0.P s'.fr s'.hp Tryz.f188.results.toList=some xs/\Ev xs=Es r:=by
 unfold Cn at h;refine A8 (Bv (s1:=⟨Fr 20 [(0,.st x0),(1,.st x1)],[]⟩) AN ?_);refine AJ AC [(0,.st x0),(1,.st x1)] [] ?_;refine AH ?_;obtain ⟨v1,hv1,h⟩:=OB h
 let p1:Nat×AV:=(5,.v (.bool v1))
 refine AI (s1:=⟨Fr 20 [(0,.st x0),(1,.st x1),p1],[]⟩) ?_ ?_
 ·refine AD (n:=20) AC 1 [(0,.st x0),(1,.st x1),(7,.st x0)] [] kr ?_
  refine Ac (caps:=[]) (xs:=[.st x0]) (u:=(x0,())) rfl rfl IN rfl (AB rfl) kr kr (AP (Ab (c:=cdS) (v:=x0)) BJ) (.inl kr) hv1 ?_;exact AO AC
 refine AH ?_;obtain ⟨v2,hv2,h⟩:=OB h;refine AI (s1:=⟨Fr 20 [(0,.st x0),(1,.st x1),p1,(6,.v (.bool v2))],[]⟩) ?_ ?_
 ·refine AD (n:=20) AC 1 [(0,.st x0),(1,.st x1),p1,(9,.st x1)] [] kr ?_
  refine Ac (caps:=[]) (xs:=[.st x1]) (u:=(x1,())) rfl rfl IN rfl (AB rfl) kr kr (AP (Ab (c:=cdS) (v:=x1)) BJ) (.inl kr) hv2 ?_;exact AO AC
 refine AH ?_;refine AJ AC [(0,.st x0),(1,.st x1),(6,.v (.bool v2)),(11,.v (.bool v1))] [] ?_;refine AM (b:=v1) kr (fun hb3=>?_) (fun hb3=>?_)
 ·rw [if_pos hb3] at h
  refine AH ?_;refine AJ AC [(12,.v (.bool v2))] [] ?_;refine AM (b:=v2) kr (fun hb4=>?_) (fun hb4=>?_)
  ·rw [if_pos hb4] at h
   refine AJ AC [(4,.v (.int .i64 0))] [] ?_;refine AU ?_;have hq:=OI h; subst hq;exact ⟨⟨Fr 20 [(4,.v (.int .i64 0))],[]⟩,AN,.inr rfl,[.v (.int .i64 0)],kr,kr⟩
  ·rw [CL hb4] at h
   refine AQ ?_;refine AJ AC [(4,.v (.int .i64 (-1)))] [] ?_;refine AU ?_;have hq:=OI h; subst hq;exact ⟨⟨Fr 20 [(4,.v (.int .i64 (-1)))],[]⟩,AN,.inr rfl,[.v (.int .i64 (-1))],kr,kr⟩
 ·rw [CL hb3] at h
  refine AQ ?_;refine AH ?_;refine AJ AC [(0,.st x0),(1,.st x1),(13,.v (.bool v2))] [] ?_;refine AM (b:=v2) kr (fun hb5=>?_) (fun hb5=>?_)
  ·rw [if_pos hb5] at h
   refine AJ AC [(4,.v (.int .i64 1))] [] ?_;refine AU ?_;have hq:=OI h; subst hq;exact ⟨⟨Fr 20 [(4,.v (.int .i64 1))],[]⟩,AN,.inr rfl,[.v (.int .i64 1)],kr,kr⟩
  ·rw [CL hb5] at h
   refine AQ ?_;refine AH ?_;refine AJ AC [(0,.st x0),(1,.st x1),(16,.v (.bool (Go.Op.bytesLess x0 x1)))] [] ?_;refine AM (b:=(Go.Op.bytesLess x0 x1)) kr (fun hb6=>?_) (fun hb6=>?_)
   ·rw [if_pos hb6] at h
    refine AJ AC [(4,.v (.int .i64 (-1)))] [] ?_;refine AU ?_;have hq:=OI h; subst hq;exact ⟨⟨Fr 20 [(4,.v (.int .i64 (-1)))],[]⟩,AN,.inr rfl,[.v (.int .i64 (-1))],kr,kr⟩
   ·rw [CL hb6] at h
    refine AQ ?_;refine AH ?_;refine AJ AC [(19,.v (.bool (!((Go.Op.bytesLess x0 x1)||(x0==x1)))))] [] ?_;refine AM (b:=(!((Go.Op.bytesLess x0 x1)||(x0==x1)))) kr (fun hb7=>?_) (fun hb7=>?_)
    ·rw [if_pos hb7] at h
     refine AJ AC [(4,.v (.int .i64 1))] [] ?_;refine AU ?_;have hq:=OI h; subst hq;exact ⟨⟨Fr 20 [(4,.v (.int .i64 1))],[]⟩,AN,.inr rfl,[.v (.int .i64 1)],kr,kr⟩
    ·rw [CL hb7] at h
     refine AQ ?_;refine AJ AC [(4,.v (.int .i64 0))] [] ?_;refine AU ?_;have hq:=OI h; subst hq;exact ⟨⟨Fr 20 [(4,.v (.int .i64 0))],[]⟩,AN,.inr rfl,[.v (.int .i64 0)],kr,kr⟩
def KU:List AV->Option AV:=D4 Eq (fun a=>Cn a.1 a.2.1) Es
theorem KW:XOk 188 KU:=by
 refine AW Tryz.func188 (c:=Gp) ?h2 ⟨Tryz.call188⟩ Eq (fun a=>Cn a.1 a.2.1) Es (fun a=>(by show 2<=20; decide)) ?h3 ?h4
 case h2=>kernel_rfl
 case h3=>intro b; kernel_rfl
 case h4=>exact fun a b h=>Jd a.1 a.2.1 b h
/- trestle/court.plain$7 -/
noncomputable def JW:Code:=Br Tryz.f187
def D1 (x0:Ai) (x1:Ai):Option (Int) :=
 (Cn x0.1.1 x1.1.1).bind fun v1 =>
 some v1
def HI:Cs (Ai×Ai×Unit):=(csC AF (csC AF csN))
def HY (r:Int):AV:=cdI.enc r
theorem Lh (x0:Ai) (x1:Ai) (r:Int) (h:D1 x0 x1=some r):Sem E0 ⟨none,false⟩ JW ⟨Fr 12 (BP 0 (HI.enc (x0,x1,()))),[]⟩ fun e s'=>(e = .normal\/e = .ret)/\∃ xs,Em E0.P s'.fr s'.hp Tryz.f187.results.toList=some xs/\Ev xs=HY r:=by
 unfold D1 at h;refine A8 (Bv (s1:=⟨Fr 12 [(0,AF.enc x0),(1,AF.enc x1)],[]⟩) AN ?_)
 let p1:Option Blk:=some ⟨10,115,[AF.enc x1],false⟩
 let p2:Option Blk:=some ⟨10,115,[AF.enc x0],false⟩
 refine AJ AC [(2,.pt 0 0 0),(3,.pt 1 0 0)] [p2,p1] ?_;refine AH ?_;obtain ⟨v1,hv1,h⟩:=OB h
 let p3:Nat×AV:=(4,.v (.int .i64 v1))
 refine AI (s1:=⟨Fr 12 [p3],[]⟩) ?_ ?_
 ·refine AD (n:=12) AC 6 [(7,.st x0.1.1),(10,.st x1.1.1)] [p2,p1] kr ?_
  refine Ac (caps:=[]) (xs:=[.st x0.1.1,.st x1.1.1]) (u:=(x0.1.1,x1.1.1,())) rfl rfl KW rfl (AB rfl) kr kr (AP (Ab (c:=cdS) (v:=x0.1.1)) (AP (Ab (c:=cdS) (v:=x1.1.1)) BJ)) (.inl kr) hv1 ?_;refine AD (n:=12) AC 1 [p3] [p2,p1] kr ?_;exact AL rfl (AY [] trivial ⟨lv,trivial⟩)
 refine AU ?_;have hq:=OI h; subst hq;exact ⟨⟨Fr 12 [p3],[]⟩,AN,.inr rfl,[.v (.int .i64 v1)],kr,kr⟩
def Ni:List AV->Option AV:=D4 HI (fun a=>D1 a.1 a.2.1) HY
theorem N0:XOk 187 Ni:=by
 refine AW Tryz.func187 (c:=JW) ?h2 ⟨Tryz.call187⟩ HI (fun a=>D1 a.1 a.2.1) HY (fun a=>(by show 2<=12; decide)) ?h3 ?h4
 case h2=>kernel_rfl
 case h3=>intro b; kernel_rfl
 case h4=>exact fun a b h=>Lh a.1 a.2.1 b h
/- trestle/court.plain$3 -/
noncomputable def JS:Code:=Br Tryz.f182
def F8 (x0:Ai) (x1:AE):Option (Bool) :=
 some (x0.1.2.2.2.2.1==x1.2.2.2.2)
def HE:Cs (Ai×AE×Unit):=(csC AF (csC (cdP AA) csN))
def HU (r:Bool):AV:=cdB.enc r
theorem Lc (x0:Ai) (x1:AE) (r:Bool) (h:F8 x0 x1=some r):Sem E0 ⟨none,false⟩ JS ⟨Fr 10 (BP 0 (HE.enc (x0,x1,()))),[]⟩ fun e s'=>(e = .normal\/e = .ret)/\∃ xs,Em E0.P s'.fr s'.hp Tryz.f182.results.toList=some xs/\Ev xs=HU r:=by
 unfold F8 at h;refine A8 (Bv (s1:=⟨Fr 10 [(0,AF.enc x0),(1,.pe (AA.enc x1) 0)],[]⟩) AN ?_)
 let p1:Option Blk:=some ⟨10,115,[AF.enc x0],false⟩
 refine AJ AC [(1,.pe (AA.enc x1) 0),(2,.pt 0 0 0)] [p1] ?_;refine AH ?_
 let p2:Nat×AV:=(3,.v (.bool (x0.1.2.2.2.2.1==x1.2.2.2.2)))
 refine AI (s1:=⟨Fr 10 [p2],[]⟩) ?_ ?_
 ·refine AD (n:=10) AC 7 [p2] [p1] kr ?_
  exact AL rfl (AY [] trivial ⟨lv,trivial⟩)
 refine AU ?_;have hq:=OI h; subst hq;exact ⟨⟨Fr 10 [p2],[]⟩,AN,.inr rfl,[.v (.bool (x0.1.2.2.2.2.1==x1.2.2.2.2))],kr,kr⟩
def Nd:List AV->Option AV:=D4 HE (fun a=>F8 a.1 a.2.1) HU
theorem Nv:XOk 182 Nd:=by
 refine AW Tryz.func182 (c:=JS) ?h2 ⟨Tryz.call182⟩ HE (fun a=>F8 a.1 a.2.1) HU (fun a=>(by show 2<=10; decide)) ?h3 ?h4
 case h2=>kernel_rfl
 case h3=>intro b; kernel_rfl
 case h4=>exact fun a b h=>Lc a.1 a.2.1 b h
/- trestle/court.named$1 -/
noncomputable def EI:Code:=Br Tryz.f206
def A0 (x0:Ai) (x1:AE) (x2:AE):Option (Int) :=
 (F8 x0 x1).bind fun v1 =>
 if (!(v1==x2.2.2.1))=true then
 some 0
 else
 some 1
def C2:Cs (Ai×AE×AE×Unit):=(csC AF (csC (cdP (cdF 182 (csE (cdP AA)) (fun _=>rfl))) (csC (cdP AA) csN)))
def C6 (r:Int):AV:=cdI.enc r
theorem GU (x0:Ai) (x1:AE) (x2:AE) (r:Int) (h:A0 x0 x1 x2=some r):Sem E0 ⟨none,false⟩ EI ⟨Fr 11 (BP 0 (C2.enc (x0,x1,x2,()))),[]⟩ fun e s'=>(e = .normal\/e = .ret)/\∃ xs,Em E0.P s'.fr s'.hp Tryz.f206.results.toList=some xs/\Ev xs=C6 r:=by
 unfold A0 at h
 let p1:Nat×AV:=(2,.pe (AA.enc x2) 0)
 let p2:Nat×AV:=(1,.pe (.fn 182 [] [.pe (AA.enc x1) 0]) 0)
 refine A8 (Bv (s1:=⟨Fr 11 [(0,AF.enc x0),p2,p1],[]⟩) AN ?_)
 let p3:Option Blk:=some ⟨10,115,[AF.enc x0],false⟩
 refine AJ AC [p2,p1,(3,.pt 0 0 0)] [p3] ?_;refine AH ?_;refine AH ?_;obtain ⟨v1,hv1,h⟩:=OB h
 let p4:Nat×AV:=(10,.v (.bool (!(v1==x2.2.2.1))))
 refine EH AC (s1:=⟨Fr 11 [p4],[]⟩) kr ?_ ?_
 ·refine Ap (n:=11) AC 2 [p1,(5,.fn 182 [] [.pe (AA.enc x1) 0]),(6,AF.enc x0)] [p3] kr kr ?_
  refine Bo (caps:=[.pe (AA.enc x1) 0]) (xs:=[AF.enc x0]) (u:=(x0,x1,())) rfl rfl Nv rfl (AB rfl) kr kr (AP (Ab (c:=AF) (v:=x0)) (AP (Ab (c:=(cdP AA)) (v:=x1)) BJ)) kr hv1 ?_;refine Ap (n:=11) AC 3 [p4] [p3] kr kr ?_;exact RunDS.done rfl (AY [] trivial ⟨lv,trivial⟩)
 refine AM (b:=(!(v1==x2.2.2.1))) kr (fun hb2=>?_) (fun hb2=>?_)
 ·rw [if_pos hb2] at h
  refine AJ AC [(4,.v (.int .i64 0))] [] ?_;refine AU ?_;have hq:=OI h; subst hq;exact ⟨⟨Fr 11 [(4,.v (.int .i64 0))],[]⟩,AN,.inr rfl,[.v (.int .i64 0)],kr,kr⟩
 ·rw [CL hb2] at h
  refine AQ ?_;refine AJ AC [(4,.v (.int .i64 1))] [] ?_;refine AU ?_;have hq:=OI h; subst hq;exact ⟨⟨Fr 11 [(4,.v (.int .i64 1))],[]⟩,AN,.inr rfl,[.v (.int .i64 1)],kr,kr⟩
def Gu:List AV->Option AV:=D4 C2 (fun a=>A0 a.1 a.2.1 a.2.2.1) C6
theorem G0:XOk 206 Gu:=by
 refine AW Tryz.func206 (c:=EI) ?h2 ⟨Tryz.call206⟩ C2 (fun a=>A0 a.1 a.2.1 a.2.2.1) C6 (fun a=>(by show 3<=11; decide)) ?h3 ?h4
 case h2=>kernel_rfl
 case h3=>intro b; kernel_rfl
 case h4=>exact fun a b h=>GU a.1 a.2.1 a.2.2.1 b h
/- trestle/court.plain$4 -/
noncomputable def JT:Code:=Br Tryz.f183
def F9 (x0:Ai):Option (Bool) :=
 some x0.1.2.2.2.2.2.2.1
def HF:Cs (Ai×Unit):=(csC AF csN)
def HV (r:Bool):AV:=cdB.enc r
theorem Le (x0:Ai) (r:Bool) (h:F9 x0=some r):Sem E0 ⟨none,false⟩ JT ⟨Fr 6 (BP 0 (HF.enc (x0,()))),[]⟩ fun e s'=>(e = .normal\/e = .ret)/\∃ xs,Em E0.P s'.fr s'.hp Tryz.f183.results.toList=some xs/\Ev xs=HV r:=by
 unfold F9 at h;refine A8 (Bv (s1:=⟨Fr 6 [(0,AF.enc x0)],[]⟩) AN ?_)
 let p1:Option Blk:=some ⟨10,115,[AF.enc x0],false⟩
 refine AJ AC [(1,.pt 0 0 0)] [p1] ?_;refine AH ?_
 let p2:Nat×AV:=(2,.v (.bool x0.1.2.2.2.2.2.2.1))
 refine AI (s1:=⟨Fr 6 [p2],[]⟩) ?_ ?_
 ·refine AD (n:=6) AC 4 [p2] [p1] kr ?_
  exact AL rfl (AY [] trivial ⟨lv,trivial⟩)
 refine AU ?_;have hq:=OI h; subst hq;exact ⟨⟨Fr 6 [p2],[]⟩,AN,.inr rfl,[.v (.bool x0.1.2.2.2.2.2.2.1)],kr,kr⟩
def Nf:List AV->Option AV:=D4 HF (fun a=>F9 a.1) HV
theorem Nx:XOk 183 Nf:=by
 refine AW Tryz.func183 (c:=JT) ?h2 ⟨Tryz.call183⟩ HF (fun a=>F9 a.1) HV (fun a=>(by show 1<=6; decide)) ?h3 ?h4
 case h2=>kernel_rfl
 case h3=>intro b; kernel_rfl
 case h4=>exact fun a b h=>Le a.1 b h
/- trestle/court.named$1 -/
noncomputable def EJ:Code:=Br Tryz.f206
def A3 (x0:Ai) (x2:AE):Option (Int) :=
 (F9 x0).bind fun v1 =>
 if (!(v1==x2.2.2.1))=true then
 some 0
 else
 some 1
def C3:Cs (Ai×Unit×AE×Unit):=(csC AF (csC (cdP (cdF 183 csN (fun _=>rfl))) (csC (cdP AA) csN)))
def C7 (r:Int):AV:=cdI.enc r
theorem GV (x0:Ai) (x2:AE) (r:Int) (h:A3 x0 x2=some r):Sem E0 ⟨none,false⟩ EJ ⟨Fr 11 (BP 0 (C3.enc (x0,(),x2,()))),[]⟩ fun e s'=>(e = .normal\/e = .ret)/\∃ xs,Em E0.P s'.fr s'.hp Tryz.f206.results.toList=some xs/\Ev xs=C7 r:=by
 unfold A3 at h
 let p1:Nat×AV:=(2,.pe (AA.enc x2) 0)
 refine A8 (Bv (s1:=⟨Fr 11 [(0,AF.enc x0),(1,.pe (.fn 183 [] []) 0),p1],[]⟩) AN ?_)
 let p2:Option Blk:=some ⟨10,115,[AF.enc x0],false⟩
 refine AJ AC [(1,.pe (.fn 183 [] []) 0),p1,(3,.pt 0 0 0)] [p2] ?_;refine AH ?_;refine AH ?_;obtain ⟨v1,hv1,h⟩:=OB h
 let p3:Nat×AV:=(10,.v (.bool (!(v1==x2.2.2.1))))
 refine EH AC (s1:=⟨Fr 11 [p3],[]⟩) kr ?_ ?_
 ·refine Ap (n:=11) AC 2 [p1,(5,.fn 183 [] []),(6,AF.enc x0)] [p2] kr kr ?_
  refine Bo (caps:=[]) (xs:=[AF.enc x0]) (u:=(x0,())) rfl rfl Nx rfl (AB rfl) kr kr (AP (Ab (c:=AF) (v:=x0)) BJ) kr hv1 ?_;refine Ap (n:=11) AC 3 [p3] [p2] kr kr ?_;exact RunDS.done rfl (AY [] trivial ⟨lv,trivial⟩)
 refine AM (b:=(!(v1==x2.2.2.1))) kr (fun hb2=>?_) (fun hb2=>?_)
 ·rw [if_pos hb2] at h
  refine AJ AC [(4,.v (.int .i64 0))] [] ?_;refine AU ?_;have hq:=OI h; subst hq;exact ⟨⟨Fr 11 [(4,.v (.int .i64 0))],[]⟩,AN,.inr rfl,[.v (.int .i64 0)],kr,kr⟩
 ·rw [CL hb2] at h
  refine AQ ?_;refine AJ AC [(4,.v (.int .i64 1))] [] ?_;refine AU ?_;have hq:=OI h; subst hq;exact ⟨⟨Fr 11 [(4,.v (.int .i64 1))],[]⟩,AN,.inr rfl,[.v (.int .i64 1)],kr,kr⟩
def Gv:List AV->Option AV:=D4 C3 (fun a=>A3 a.1 a.2.2.1) C7
theorem G3:XOk 206 Gv:=by
 refine AW Tryz.func206 (c:=EJ) ?h2 ⟨Tryz.call206⟩ C3 (fun a=>A3 a.1 a.2.2.1) C7 (fun a=>(by show 3<=11; decide)) ?h3 ?h4
 case h2=>kernel_rfl
 case h3=>intro b; kernel_rfl
 case h4=>exact fun a b h=>GV a.1 a.2.2.1 b h
/- trestle/court.plain$5$1 -/
noncomputable def IA:Code:=Br Tryz.f185
def Dk (x0:(List UInt8)) (x1:AE):Option (Bool) :=
 (An x1.2.2.2.1 x0).bind fun v1 =>
 some v1
def GF:Cs ((List UInt8)×AE×Unit):=(csC cdS (csC (cdP AA) csN))
def GJ (r:Bool):AV:=cdB.enc r
theorem Km (x0:(List UInt8)) (x1:AE) (r:Bool) (h:Dk x0 x1=some r):Sem E0 ⟨none,false⟩ IA ⟨Fr 8 (BP 0 (GF.enc (x0,x1,()))),[]⟩ fun e s'=>(e = .normal\/e = .ret)/\∃ xs,Em E0.P s'.fr s'.hp Tryz.f185.results.toList=some xs/\Ev xs=GJ r:=by
 unfold Dk at h;refine A8 (Bv (s1:=⟨Fr 8 [(0,.st x0),(1,.pe (AA.enc x1) 0)],[]⟩) AN ?_);refine AJ AC [(0,.st x0),(1,.pe (AA.enc x1) 0)] [] ?_;refine AH ?_;obtain ⟨v1,hv1,h⟩:=OB h;refine AI (s1:=⟨Fr 8 [(3,.v (.bool v1))],[]⟩) ?_ ?_
 ·refine AD (n:=8) AC 3 [(5,.sl 1 (x1.2.2.2.1.map cdS.enc)),(6,.st x0)] [] kr ?_
  refine Ac (caps:=[]) (xs:=[.sl 1 (x1.2.2.2.1.map cdS.enc),.st x0]) (u:=(x1.2.2.2.1,x0,())) rfl rfl CQ rfl (AB rfl) kr kr (AP (Ab (c:=(cdL 1 cdS)) (v:=x1.2.2.2.1)) (AP (Ab (c:=cdS) (v:=x0)) BJ)) (.inl kr) hv1 ?_;exact AO AC
 refine AU ?_;have hq:=OI h; subst hq;exact ⟨⟨Fr 8 [(3,.v (.bool v1))],[]⟩,AN,.inr rfl,[.v (.bool v1)],kr,kr⟩
def MB:List AV->Option AV:=D4 GF (fun a=>Dk a.1 a.2.1) GJ
theorem MF:XOk 185 MB:=by
 refine AW Tryz.func185 (c:=IA) ?h2 ⟨Tryz.call185⟩ GF (fun a=>Dk a.1 a.2.1) GJ (fun a=>(by show 2<=8; decide)) ?h3 ?h4
 case h2=>kernel_rfl
 case h3=>intro b; kernel_rfl
 case h4=>exact fun a b h=>Km a.1 a.2.1 b h
end Go.Proofs.YtlalcoehgkmhlaaGreatDoor
