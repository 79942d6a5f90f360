/- Lemmas for the proof. -/
import Derived.Test.YtiphapnckldpbaaGreatDoorCourtRefinesM1
import Derived.Test.YtiphapnckldpbaaGreatDoorCourtRefinesM2
import Derived.Test.YtiphapnckldpbaaGreatDoorCourtRefinesM3
import Derived.Laws.BytesArg
set_option maxHeartbeats 4000000
set_option maxRecDepth 100000
namespace Go.Proofs.YtiphapnckldpbaaGreatDoor
open Go.RowKit
/- trestle/trestlelaw03.Made -/
noncomputable def cb_law03_Made : Code := codeOf Tryz.f26
def law03_Made_j2 (x0 : (List (Int × Int × Int × Bool × Bool))) (c2 : (List Clause)) (c3 : (List UInt8)) (c4 : Int) (v6 : (Int × Int × Int × Bool × Bool)) : Option (((List (List UInt8)))) :=
 if ((andI .u8 v6.2.2.1 4) != 0) = true then
 if (cutOk ((wr .u8 (v6.2.2.1 + 1)).tmod 4) (([97, 98, 99, 100] : List UInt8).length : Int) ([97, 98, 99, 100] : List UInt8).length) = true then
 if (cutOk 0 (1 : Int) ((([97, 98, 99, 100] : List UInt8).take (([97, 98, 99, 100] : List UInt8).length : Int).toNat).drop ((wr .u8 (v6.2.2.1 + 1)).tmod 4).toNat).length) = true then
 if (capOk 16 ([((((([97, 98, 99, 100] : List UInt8).take (([97, 98, 99, 100] : List UInt8).length : Int).toNat).drop (v6.2.2.1.tmod 4).toNat).take (1 : Int).toNat).drop (0 : Int).toNat)].length + 1)) = true then
 some ([((((([97, 98, 99, 100] : List UInt8).take (([97, 98, 99, 100] : List UInt8).length : Int).toNat).drop (v6.2.2.1.tmod 4).toNat).take (1 : Int).toNat).drop (0 : Int).toNat)] ++ [((((([97, 98, 99, 100] : List UInt8).take (([97, 98, 99, 100] : List UInt8).length : Int).toNat).drop ((wr .u8 (v6.2.2.1 + 1)).tmod 4).toNat).take (1 : Int).toNat).drop (0 : Int).toNat)])
 else none
 else none
 else none
 else
 some [((((([97, 98, 99, 100] : List UInt8).take (([97, 98, 99, 100] : List UInt8).length : Int).toNat).drop (v6.2.2.1.tmod 4).toNat).take (1 : Int).toNat).drop (0 : Int).toNat)]
def law03_Made_j3 (x0 : (List (Int × Int × Int × Bool × Bool))) (c3 : (List UInt8)) (c4 : Int) (j27 : (List Clause) × Int × Int × Int × Bool × Bool × Int × (List UInt8) × Bool × Int × (List (List UInt8)) × Bool) : Option (((List Clause) × Int × Int × Int × Bool × Bool × Int × (List UInt8) × Bool × Int × (List (List UInt8)))) :=
 if j27.2.2.2.2.2.2.2.2.2.2.2 = true then
 some (j27.1, j27.2.1, j27.2.2.1, j27.2.2.2.1, j27.2.2.2.2.1, j27.2.2.2.2.2.1, j27.2.2.2.2.2.2.1, c3, j27.2.2.2.2.2.2.2.2.1, j27.2.2.2.2.2.2.2.2.2.1, j27.2.2.2.2.2.2.2.2.2.2.1)
 else
 some (j27.1, j27.2.1, j27.2.2.1, j27.2.2.2.1, j27.2.2.2.2.1, j27.2.2.2.2.2.1, j27.2.2.2.2.2.2.1, j27.2.2.2.2.2.2.2.1, j27.2.2.2.2.2.2.2.2.1, j27.2.2.2.2.2.2.2.2.2.1, j27.2.2.2.2.2.2.2.2.2.2.1)
def law03_Made_j14 (x0 : (List (Int × Int × Int × Bool × Bool))) (c3 : (List UInt8)) (c4 : Int) (r40 : (List Clause) × Int × Int × Int × Bool × Bool × Int × (List UInt8) × Bool × Int × (List (List UInt8))) : Option ((Bool)) :=
 if (r40.2.2.2.2.2.2.1 == 6) = true then
 some (r40.2.2.2.2.2.2.1 == 6)
 else
 some (r40.2.2.2.2.2.2.1 == 7)
def law03_Made_j16 (x0 : (List (Int × Int × Int × Bool × Bool))) (c3 : (List UInt8)) (c4 : Int) (r40 : (List Clause) × Int × Int × Int × Bool × Bool × Int × (List UInt8) × Bool × Int × (List (List UInt8))) : Option (((List Clause) × Int × (List UInt8) × Bool × Int)) :=
 if (r40.2.2.2.2.2.2.1 == 10) = true then
 some (r40.1, r40.2.2.2.2.2.2.1, r40.2.2.2.2.2.2.2.1, r40.2.2.2.2.2.2.2.2.1, (wr .i64 (r40.2.2.1.tmod 64)))
 else
 some (r40.1, r40.2.2.2.2.2.2.1, r40.2.2.2.2.2.2.2.1, r40.2.2.2.2.2.2.2.2.1, r40.2.2.2.2.2.2.2.2.2.1)
def law03_Made_j15 (x0 : (List (Int × Int × Int × Bool × Bool))) (c3 : (List UInt8)) (c4 : Int) (r40 : (List Clause) × Int × Int × Int × Bool × Bool × Int × (List UInt8) × Bool × Int × (List (List UInt8))) (r1722 : Bool) : Option (((List Clause) × Int × (List UInt8) × Bool × (List (List UInt8)) × Int)) :=
 if r1722 = true then
 some (r40.1, r40.2.2.2.2.2.2.1, r40.2.2.2.2.2.2.2.1, r40.2.2.2.2.1, r40.2.2.2.2.2.2.2.2.2.2, r40.2.2.2.2.2.2.2.2.2.1)
 else
 (law03_Made_j16 x0 c3 c4 r40).bind fun r2056 =>
 some (r2056.1, r2056.2.1, r2056.2.2.1, r2056.2.2.2.1, [], r2056.2.2.2.2)
def law03_Made_j13 (x0 : (List (Int × Int × Int × Bool × Bool))) (c3 : (List UInt8)) (c4 : Int) (r40 : (List Clause) × Int × Int × Int × Bool × Bool × Int × (List UInt8) × Bool × Int × (List (List UInt8))) : Option (((List Clause) × Int × (List UInt8) × Bool × (List (List UInt8)) × Int)) :=
 if (r40.2.2.2.2.2.2.1 == 5) = true then
 some (r40.1, r40.2.2.2.2.2.2.1, r40.2.2.2.2.2.2.2.1, r40.2.2.2.2.1, [], r40.2.2.2.2.2.2.2.2.2.1)
 else
 (law03_Made_j14 x0 c3 c4 r40).bind fun r1722 =>
 (law03_Made_j15 x0 c3 c4 r40 r1722).bind fun r2057 =>
 some (r2057.1, r2057.2.1, r2057.2.2.1, r2057.2.2.2.1, r2057.2.2.2.2.1, r2057.2.2.2.2.2)
def law03_Made_j5 (x0 : (List (Int × Int × Int × Bool × Bool))) (c3 : (List UInt8)) (c4 : Int) (r40 : (List Clause) × Int × Int × Int × Bool × Bool × Int × (List UInt8) × Bool × Int × (List (List UInt8))) : Option (((List Clause) × Int × (List UInt8) × Bool × (List (List UInt8)) × Int)) :=
 if (r40.2.2.2.2.2.2.1 == 4) = true then
 some (r40.1, r40.2.2.2.2.2.2.1, r40.2.2.2.2.2.2.2.1, r40.2.2.2.2.1, [], (wr .i64 (1 + (wr .i64 (r40.2.2.1.tmod 2)))))
 else
 (law03_Made_j13 x0 c3 c4 r40).bind fun r2058 =>
 some (r2058.1, r2058.2.1, r2058.2.2.1, r2058.2.2.2.1, r2058.2.2.2.2.1, r2058.2.2.2.2.2)
def law03_Made_j4 (x0 : (List (Int × Int × Int × Bool × Bool))) (c3 : (List UInt8)) (c4 : Int) (r40 : (List Clause) × Int × Int × Int × Bool × Bool × Int × (List UInt8) × Bool × Int × (List (List UInt8))) : Option (((List Clause) × (List UInt8) × Int × (List UInt8) × Bool × (List (List UInt8)) × Int)) :=
 if (r40.2.2.2.2.2.2.1 == 1) = true then
 (idx r40.2.2.2.2.2.2.2.2.2.2 0).bind fun v42 =>
 some (r40.1, v42, r40.2.2.2.2.2.2.1, r40.2.2.2.2.2.2.2.1, r40.2.2.2.2.2.2.2.2.1, r40.2.2.2.2.2.2.2.2.2.2, r40.2.2.2.2.2.2.2.2.2.1)
 else
 (law03_Made_j5 x0 c3 c4 r40).bind fun r2059 =>
 some (r2059.1, c3, r2059.2.1, r2059.2.2.1, r2059.2.2.2.1, r2059.2.2.2.2.1, r2059.2.2.2.2.2)
def law03_Made_l1 (x0 : (List (Int × Int × Int × Bool × Bool))) : Nat → (List Clause) → (List UInt8) → Int → Option (((List Clause)))
 | 0, _, _, _ => none
 | f + 1, c2, c3, c4 =>
  if (decide (c4 < (((x0.take (mnI (x0.length : Int) 8).toNat).drop (0 : Int).toNat).length : Int))) = true then
  (idx ((x0.take (mnI (x0.length : Int) 8).toNat).drop (0 : Int).toNat) c4).bind fun v6 =>
  if (cutOk (v6.2.2.1.tmod 4) (([97, 98, 99, 100] : List UInt8).length : Int) ([97, 98, 99, 100] : List UInt8).length) = true then
  if (cutOk 0 (1 : Int) ((([97, 98, 99, 100] : List UInt8).take (([97, 98, 99, 100] : List UInt8).length : Int).toNat).drop (v6.2.2.1.tmod 4).toNat).length) = true then
  (law03_Made_j2 x0 c2 c3 c4 v6).bind fun r14 =>
  (if v6.2.2.2.2 = true then some (c2, v6.1, v6.2.1, v6.2.2.1, v6.2.2.2.1, true, (wr .u8 (1 + (v6.1.tmod 10))), [], false, 0, r14, ((wr .u8 (1 + (v6.1.tmod 10))) != 1)) else some (c2, v6.1, v6.2.1, v6.2.2.1, v6.2.2.2.1, false, (wr .u8 (1 + (v6.1.tmod 10))), [], false, 0, r14, false)).bind fun j27 =>
  (law03_Made_j3 x0 c3 c4 j27).bind fun r40 =>
  (law03_Made_j4 x0 c3 c4 r40).bind fun r2060 =>
  if (capOk 64 (r2060.1.length + 1)) = true then
  law03_Made_l1 x0 f (r2060.1 ++ [r2060.2.2]) r2060.2.1 (wr .i64 (c4 + 1))
  else none
  else none
  else none
  else
  some c2
def law03_Made (x0 : (List (Int × Int × Int × Bool × Bool))) : Option ((List Clause)) :=
 if (cutOk 0 (mnI (x0.length : Int) 8) x0.length) = true then
 (law03_Made_l1 x0 100000 [] [] 0).bind fun r2064 =>
 some r2064
 else none
def cs_law03_Made : Cs (((List (Int × Int × Int × Bool × Bool))) × Unit) := (csC (cdL 5 (cdA (csC (cdK .u8) (csC (cdK .u8) (csC (cdK .u8) (csC cdB (csE cdB))))) (fun _ => rfl))) csN)
def er_law03_Made (r : (List Clause)) : AV := (cdL 5 cdClause).enc r
theorem law03_Made_j2_ok (x0 : (List (Int × Int × Int × Bool × Bool))) (c2 : (List Clause)) (c3 : (List UInt8)) (c4 : Int) (v6 : (Int × Int × Int × Bool × Bool)) (r : ((List (List UInt8)))) (h : law03_Made_j2 x0 c2 c3 c4 v6 = some r) : Sem E0 ⟨none, false⟩ (pc cb_law03_Made [1, 1, 1, 0, 1, 0, 0, 1, 1, 0, 0, 1, 1, 1, 0, 1]) ⟨Fr 98 [(3, hd 0 (c2.map cdClause.enc)), (4, .st c3), (6, .pt 1 0 0), (7, .pt 2 0 0), (8, hd 3 ([((((([97, 98, 99, 100] : List UInt8).take (([97, 98, 99, 100] : List UInt8).length : Int).toNat).drop (v6.2.2.1.tmod 4).toNat).take (1 : Int).toNat).drop (0 : Int).toNat)].map cdS.enc)), (13, .sl 5 (((x0.take (mnI (x0.length : Int) 8).toNat).drop (0 : Int).toNat).map (cdA (csC (cdK .u8) (csC (cdK .u8) (csC (cdK .u8) (csC cdB (csE cdB))))) (fun _ => rfl)).enc)), (14, .v (.int .i64 (((x0.take (mnI (x0.length : Int) 8).toNat).drop (0 : Int).toNat).length : Int))), (15, .v (.int .i64 c4)), (33, .v (.bool ((andI .u8 v6.2.2.1 4) != 0)))], [mk 5 70 (c2.map cdClause.enc), some ⟨5, 99, [.ag [.v (.int .u8 v6.1), .v (.int .u8 v6.2.1), .v (.int .u8 v6.2.2.1), .v (.bool v6.2.2.2.1), .v (.bool v6.2.2.2.2)]], false⟩, some ⟨5, 70, [.ag [.v (.int .u8 (wr .u8 (1 + (v6.1.tmod 10)))), .st [], .v (.bool false), .e0, .v (.int .i64 0)]], false⟩, mk 1 9 ([((((([97, 98, 99, 100] : List UInt8).take (([97, 98, 99, 100] : List UInt8).length : Int).toNat).drop (v6.2.2.1.tmod 4).toNat).take (1 : Int).toNat).drop (0 : Int).toNat)].map cdS.enc)]⟩ (fun e s => e = .normal ∧ Wk E0 s ⟨Fr 98 [(3, hd 0 (c2.map cdClause.enc)), (4, .st c3), (6, .pt 1 0 0), (7, .pt 2 0 0), (8, hd 3 (r.map cdS.enc)), (13, .sl 5 (((x0.take (mnI (x0.length : Int) 8).toNat).drop (0 : Int).toNat).map (cdA (csC (cdK .u8) (csC (cdK .u8) (csC (cdK .u8) (csC cdB (csE cdB))))) (fun _ => rfl)).enc)), (14, .v (.int .i64 (((x0.take (mnI (x0.length : Int) 8).toNat).drop (0 : Int).toNat).length : Int))), (15, .v (.int .i64 c4))], [mk 5 70 (c2.map cdClause.enc), some ⟨5, 99, [.ag [.v (.int .u8 v6.1), .v (.int .u8 v6.2.1), .v (.int .u8 v6.2.2.1), .v (.bool v6.2.2.2.1), .v (.bool v6.2.2.2.2)]], false⟩, some ⟨5, 70, [.ag [.v (.int .u8 (wr .u8 (1 + (v6.1.tmod 10)))), .st [], .v (.bool false), .e0, .v (.int .i64 0)]], false⟩, mk 1 9 (r.map cdS.enc)]⟩) := by
 unfold law03_Made_j2 at h
 refine Sem.cond (b := ((andI .u8 v6.2.2.1 4) != 0)) kr (fun hb9 => ?_) (fun hb9 => ?_)
 ·rw [if_pos hb9] at h
  by_cases hk10 : (cutOk ((wr .u8 (v6.2.2.1 + 1)).tmod 4) (([97, 98, 99, 100] : List UInt8).length : Int) ([97, 98, 99, 100] : List UInt8).length) = true
  case neg => rw [if_neg hk10] at h; cases h
  rw [if_pos hk10] at h
  by_cases hk11 : (cutOk 0 (1 : Int) ((([97, 98, 99, 100] : List UInt8).take (([97, 98, 99, 100] : List UInt8).length : Int).toNat).drop ((wr .u8 (v6.2.2.1 + 1)).tmod 4).toNat).length) = true
  case neg => rw [if_neg hk11] at h; cases h
  rw [if_pos hk11] at h
  by_cases hk12 : (capOk 16 ([((((([97, 98, 99, 100] : List UInt8).take (([97, 98, 99, 100] : List UInt8).length : Int).toNat).drop (v6.2.2.1.tmod 4).toNat).take (1 : Int).toNat).drop (0 : Int).toNat)].length + 1)) = true
  case neg => rw [if_neg hk12] at h; cases h
  rw [if_pos hk12] at h
  let p1 : Option Blk := mk 1 9 (([((((([97, 98, 99, 100] : List UInt8).take (([97, 98, 99, 100] : List UInt8).length : Int).toNat).drop (v6.2.2.1.tmod 4).toNat).take (1 : Int).toNat).drop (0 : Int).toNat)] ++ [((((([97, 98, 99, 100] : List UInt8).take (([97, 98, 99, 100] : List UInt8).length : Int).toNat).drop ((wr .u8 (v6.2.2.1 + 1)).tmod 4).toNat).take (1 : Int).toNat).drop (0 : Int).toNat)]).map cdS.enc)
  let p2 : Option Blk := some ⟨5, 70, [.ag [.v (.int .u8 (wr .u8 (1 + (v6.1.tmod 10)))), .st [], .v (.bool false), .e0, .v (.int .i64 0)]], false⟩
  let p3 : Option Blk := some ⟨5, 99, [.ag [.v (.int .u8 v6.1), .v (.int .u8 v6.2.1), .v (.int .u8 v6.2.2.1), .v (.bool v6.2.2.2.1), .v (.bool v6.2.2.2.2)]], false⟩
  let p4 : Option Blk := mk 5 70 (c2.map cdClause.enc)
  let p5 : Nat × AV := (15, .v (.int .i64 c4))
  let p6 : Nat × AV := (14, .v (.int .i64 (((x0.take (mnI (x0.length : Int) 8).toNat).drop (0 : Int).toNat).length : Int)))
  let p7 : Nat × AV := (13, .sl 5 (((x0.take (mnI (x0.length : Int) 8).toNat).drop (0 : Int).toNat).map (cdA (csC (cdK .u8) (csC (cdK .u8) (csC (cdK .u8) (csC cdB (csE cdB))))) (fun _ => rfl)).enc))
  let p8 : Nat × AV := (7, .pt 2 0 0)
  let p9 : Nat × AV := (6, .pt 1 0 0)
  let p10 : Nat × AV := (3, hd 0 (c2.map cdClause.enc))
  refine Sem.runS (s1 := ⟨Fr 98 [p10, (4, .st c3), p9, p8, (8, hd 3 (([((((([97, 98, 99, 100] : List UInt8).take (([97, 98, 99, 100] : List UInt8).length : Int).toNat).drop (v6.2.2.1.tmod 4).toNat).take (1 : Int).toNat).drop (0 : Int).toNat)] ++ [((((([97, 98, 99, 100] : List UInt8).take (([97, 98, 99, 100] : List UInt8).length : Int).toNat).drop ((wr .u8 (v6.2.2.1 + 1)).tmod 4).toNat).take (1 : Int).toNat).drop (0 : Int).toNat)]).map cdS.enc)), p7, p6, p5], [p4, p3, p2, p1]⟩) ?_ ?_
  ·let p11 : Option Blk := mk 1 9 ([((((([97, 98, 99, 100] : List UInt8).take (([97, 98, 99, 100] : List UInt8).length : Int).toNat).drop (v6.2.2.1.tmod 4).toNat).take (1 : Int).toNat).drop (0 : Int).toNat)].map cdS.enc)
   let p12 : Nat × AV := (34, hd 3 ([((((([97, 98, 99, 100] : List UInt8).take (([97, 98, 99, 100] : List UInt8).length : Int).toNat).drop (v6.2.2.1.tmod 4).toNat).take (1 : Int).toNat).drop (0 : Int).toNat)].map cdS.enc))
   refine RunS.segF (n := 98) E0_ok 5 [p10, (4, .st c3), p9, p8, p7, p6, p5, p12, (38, .v (.int .u8 ((wr .u8 (v6.2.2.1 + 1)).tmod 4)))] [p4, p3, p2, p11] kr ?_
   refine RunS.one E0_ok 0 rfl (op_q (wantedA_none rfl) rfl (q_slice (a := .st [97, 98, 99, 100]) (l := (some (.v (.int .u8 ((wr .u8 (v6.2.2.1 + 1)).tmod 4))))) (u := none) (m := none) kr kr kr rfl (slice_st (bs := [97, 98, 99, 100]) (lo := ((wr .u8 (v6.2.2.1 + 1)).tmod 4)) (hi := (([97, 98, 99, 100] : List UInt8).length : Int)) kr (natB_i (cut_lo hk10)) rfl hk10))) ?_
   refine RunS.one E0_ok 0 rfl (op_q (wantedA_none rfl) rfl (q_slice (a := .st ((([97, 98, 99, 100] : List UInt8).take (([97, 98, 99, 100] : List UInt8).length : Int).toNat).drop ((wr .u8 (v6.2.2.1 + 1)).tmod 4).toNat)) (l := none) (u := (some (.v (.int .i64 1)))) (m := none) kr kr kr rfl (slice_st (bs := ((([97, 98, 99, 100] : List UInt8).take (([97, 98, 99, 100] : List UInt8).length : Int).toNat).drop ((wr .u8 (v6.2.2.1 + 1)).tmod 4).toNat)) (lo := 0) (hi := (1 : Int)) kr rfl (natB_i (cut_hi hk11)) hk11))) ?_
   let p13 : Option Blk := mk 1 9 ([((((([97, 98, 99, 100] : List UInt8).take (([97, 98, 99, 100] : List UInt8).length : Int).toNat).drop ((wr .u8 (v6.2.2.1 + 1)).tmod 4).toNat).take (1 : Int).toNat).drop (0 : Int).toNat)].map cdS.enc)
   refine RunS.segF (n := 98) E0_ok 1 [p10, (4, .st c3), p9, p8, p7, p6, p5, p12, (41, hd 4 ([((((([97, 98, 99, 100] : List UInt8).take (([97, 98, 99, 100] : List UInt8).length : Int).toNat).drop ((wr .u8 (v6.2.2.1 + 1)).tmod 4).toNat).take (1 : Int).toNat).drop (0 : Int).toNat)].map cdS.enc))] [p4, p3, p2, p11, p13] kr ?_
   refine RunS.one E0_ok 0 rfl (op_w (wantedA_none rfl) rfl kr kr (w_append (a := hd 3 ([((((([97, 98, 99, 100] : List UInt8).take (([97, 98, 99, 100] : List UInt8).length : Int).toNat).drop (v6.2.2.1.tmod 4).toNat).take (1 : Int).toNat).drop (0 : Int).toNat)].map cdS.enc)) (b := hd 4 ([((((([97, 98, 99, 100] : List UInt8).take (([97, 98, 99, 100] : List UInt8).length : Int).toNat).drop ((wr .u8 (v6.2.2.1 + 1)).tmod 4).toNat).take (1 : Int).toNat).drop (0 : Int).toNat)].map cdS.enc)) kr kr (append_B (c := cdS) (xs := [((((([97, 98, 99, 100] : List UInt8).take (([97, 98, 99, 100] : List UInt8).length : Int).toNat).drop (v6.2.2.1.tmod 4).toNat).take (1 : Int).toNat).drop (0 : Int).toNat)]) (vs := [((((([97, 98, 99, 100] : List UInt8).take (([97, 98, 99, 100] : List UInt8).length : Int).toNat).drop ((wr .u8 (v6.2.2.1 + 1)).tmod 4).toNat).take (1 : Int).toNat).drop (0 : Int).toNat)]) (k := 1) (bytes := 16) (el := 9) kr kr (elems_hd (t := 9) kr) (List.cons_ne_nil _ _) kr hk12))) ?_
   refine RunS.segF (n := 98) E0_ok 1 [p10, (4, .st c3), p9, p8, (8, hd 5 (([((((([97, 98, 99, 100] : List UInt8).take (([97, 98, 99, 100] : List UInt8).length : Int).toNat).drop (v6.2.2.1.tmod 4).toNat).take (1 : Int).toNat).drop (0 : Int).toNat)] ++ [((((([97, 98, 99, 100] : List UInt8).take (([97, 98, 99, 100] : List UInt8).length : Int).toNat).drop ((wr .u8 (v6.2.2.1 + 1)).tmod 4).toNat).take (1 : Int).toNat).drop (0 : Int).toNat)]).map cdS.enc)), p7, p6, p5] [p4, p3, p2, none, p13, p1] kr ?_
   exact RunS.done rfl (Wk.sel2 [0, 1, 2, 5] kr kr kr ⟨⟨_, rfl, bu_mk⟩, ⟨_, rfl, bu_c kr kr⟩, ⟨_, rfl, bu_c kr kr⟩, ⟨_, rfl, bu_mk⟩, trivial⟩ ⟨lu_hd (b' := 0) kr kr, lu kr kr, lu kr kr, lu kr kr, lu_hd (b' := 5) kr kr, lu kr kr, lu kr kr, lu kr kr, trivial⟩)
  have hq := Option.some.inj h; subst hq
  exact ⟨rfl, (Wk.sel2 [0, 1, 2, 3] kr kr kr ⟨⟨_, rfl, bu_mk⟩, ⟨_, rfl, bu_c kr kr⟩, ⟨_, rfl, bu_c kr kr⟩, ⟨_, rfl, bu_mk⟩, trivial⟩ ⟨lu_hd (b' := 0) kr kr, lu kr kr, lu kr kr, lu kr kr, lu_hd (b' := 3) kr kr, lu kr kr, lu kr kr, lu kr kr, trivial⟩)⟩
 ·rw [if_f hb9] at h
  refine Sem.skip ?_
  have hq := Option.some.inj h; subst hq
  exact ⟨rfl, (Wk.sel2 [0, 1, 2, 3] kr kr kr ⟨⟨_, rfl, bu_mk⟩, ⟨_, rfl, bu_c kr kr⟩, ⟨_, rfl, bu_c kr kr⟩, ⟨_, rfl, bu_mk⟩, trivial⟩ ⟨lu_hd (b' := 0) kr kr, lu kr kr, lu kr kr, lu kr kr, lu_hd (b' := 3) kr kr, lu kr kr, lu kr kr, lu kr kr, trivial⟩)⟩
theorem law03_Made_j3_ok (x0 : (List (Int × Int × Int × Bool × Bool))) (c3 : (List UInt8)) (c4 : Int) (j27 : (List Clause) × Int × Int × Int × Bool × Bool × Int × (List UInt8) × Bool × Int × (List (List UInt8)) × Bool) (r : ((List Clause) × Int × Int × Int × Bool × Bool × Int × (List UInt8) × Bool × Int × (List (List UInt8)))) (h : law03_Made_j3 x0 c3 c4 j27 = some r) : Sem E0 ⟨none, false⟩ (pc cb_law03_Made [1, 1, 1, 0, 1, 0, 0, 1, 1, 0, 0, 1, 1, 1, 1, 0, 1]) ⟨Fr 98 [(3, hd 0 (j27.1.map cdClause.enc)), (4, .st c3), (6, .pt 1 0 0), (7, .pt 2 0 0), (8, hd 3 (j27.2.2.2.2.2.2.2.2.2.2.1.map cdS.enc)), (13, .sl 5 (((x0.take (mnI (x0.length : Int) 8).toNat).drop (0 : Int).toNat).map (cdA (csC (cdK .u8) (csC (cdK .u8) (csC (cdK .u8) (csC cdB (csE cdB))))) (fun _ => rfl)).enc)), (14, .v (.int .i64 (((x0.take (mnI (x0.length : Int) 8).toNat).drop (0 : Int).toNat).length : Int))), (15, .v (.int .i64 c4)), (49, .v (.bool j27.2.2.2.2.2.2.2.2.2.2.2))], [mk 5 70 (j27.1.map cdClause.enc), some ⟨5, 99, [.ag [.v (.int .u8 j27.2.1), .v (.int .u8 j27.2.2.1), .v (.int .u8 j27.2.2.2.1), .v (.bool j27.2.2.2.2.1), .v (.bool j27.2.2.2.2.2.1)]], false⟩, some ⟨5, 70, [.ag [.v (.int .u8 j27.2.2.2.2.2.2.1), .st j27.2.2.2.2.2.2.2.1, .v (.bool j27.2.2.2.2.2.2.2.2.1), .e0, .v (.int .i64 j27.2.2.2.2.2.2.2.2.2.1)]], false⟩, mk 1 9 (j27.2.2.2.2.2.2.2.2.2.2.1.map cdS.enc)]⟩ (fun e s => e = .normal ∧ Wk E0 s ⟨Fr 98 [(3, hd 0 (r.1.map cdClause.enc)), (4, .st c3), (6, .pt 1 0 0), (7, .pt 2 0 0), (8, hd 3 (r.2.2.2.2.2.2.2.2.2.2.map cdS.enc)), (13, .sl 5 (((x0.take (mnI (x0.length : Int) 8).toNat).drop (0 : Int).toNat).map (cdA (csC (cdK .u8) (csC (cdK .u8) (csC (cdK .u8) (csC cdB (csE cdB))))) (fun _ => rfl)).enc)), (14, .v (.int .i64 (((x0.take (mnI (x0.length : Int) 8).toNat).drop (0 : Int).toNat).length : Int))), (15, .v (.int .i64 c4))], [mk 5 70 (r.1.map cdClause.enc), some ⟨5, 99, [.ag [.v (.int .u8 r.2.1), .v (.int .u8 r.2.2.1), .v (.int .u8 r.2.2.2.1), .v (.bool r.2.2.2.2.1), .v (.bool r.2.2.2.2.2.1)]], false⟩, some ⟨5, 70, [.ag [.v (.int .u8 r.2.2.2.2.2.2.1), .st r.2.2.2.2.2.2.2.1, .v (.bool r.2.2.2.2.2.2.2.2.1), .e0, .v (.int .i64 r.2.2.2.2.2.2.2.2.2.1)]], false⟩, mk 1 9 (r.2.2.2.2.2.2.2.2.2.2.map cdS.enc)]⟩) := by
 unfold law03_Made_j3 at h
 refine Sem.cond (b := j27.2.2.2.2.2.2.2.2.2.2.2) kr (fun hb28 => ?_) (fun hb28 => ?_)
 ·rw [if_pos hb28] at h
  refine Sem.rg E0_ok [(3, hd 0 (j27.1.map cdClause.enc)), (4, .st c3), (6, .pt 1 0 0), (7, .pt 2 0 0), (8, hd 3 (j27.2.2.2.2.2.2.2.2.2.2.1.map cdS.enc)), (13, .sl 5 (((x0.take (mnI (x0.length : Int) 8).toNat).drop (0 : Int).toNat).map (cdA (csC (cdK .u8) (csC (cdK .u8) (csC (cdK .u8) (csC cdB (csE cdB))))) (fun _ => rfl)).enc)), (14, .v (.int .i64 (((x0.take (mnI (x0.length : Int) 8).toNat).drop (0 : Int).toNat).length : Int))), (15, .v (.int .i64 c4))] [mk 5 70 (j27.1.map cdClause.enc), some ⟨5, 99, [.ag [.v (.int .u8 j27.2.1), .v (.int .u8 j27.2.2.1), .v (.int .u8 j27.2.2.2.1), .v (.bool j27.2.2.2.2.1), .v (.bool j27.2.2.2.2.2.1)]], false⟩, some ⟨5, 70, [.ag [.v (.int .u8 j27.2.2.2.2.2.2.1), .st c3, .v (.bool j27.2.2.2.2.2.2.2.2.1), .e0, .v (.int .i64 j27.2.2.2.2.2.2.2.2.2.1)]], false⟩, mk 1 9 (j27.2.2.2.2.2.2.2.2.2.2.1.map cdS.enc)] ?_
  have hq := Option.some.inj h; subst hq
  exact ⟨rfl, (Wk.sel2 [0, 1, 2, 3] kr kr kr ⟨⟨_, rfl, bu_mk⟩, ⟨_, rfl, bu_c kr kr⟩, ⟨_, rfl, bu_c kr kr⟩, ⟨_, rfl, bu_mk⟩, trivial⟩ ⟨lu_hd (b' := 0) kr kr, lu kr kr, lu kr kr, lu kr kr, lu_hd (b' := 3) kr kr, lu kr kr, lu kr kr, lu kr kr, trivial⟩)⟩
 ·rw [if_f hb28] at h
  refine Sem.skip ?_
  have hq := Option.some.inj h; subst hq
  exact ⟨rfl, (Wk.sel2 [0, 1, 2, 3] kr kr kr ⟨⟨_, rfl, bu_mk⟩, ⟨_, rfl, bu_c kr kr⟩, ⟨_, rfl, bu_c kr kr⟩, ⟨_, rfl, bu_mk⟩, trivial⟩ ⟨lu_hd (b' := 0) kr kr, lu kr kr, lu kr kr, lu kr kr, lu_hd (b' := 3) kr kr, lu kr kr, lu kr kr, lu kr kr, trivial⟩)⟩
theorem law03_Made_j14_ok (x0 : (List (Int × Int × Int × Bool × Bool))) (c3 : (List UInt8)) (c4 : Int) (r40 : (List Clause) × Int × Int × Int × Bool × Bool × Int × (List UInt8) × Bool × Int × (List (List UInt8))) (r : (Bool)) (h : law03_Made_j14 x0 c3 c4 r40 = some r) : Sem E0 ⟨none, false⟩ (pc cb_law03_Made [1, 1, 1, 0, 1, 0, 0, 1, 1, 0, 0, 1, 1, 1, 1, 1, 0, 1, 0, 1, 1, 1, 1, 1, 1, 0, 1]) ⟨Fr 98 [(3, hd 0 (r40.1.map cdClause.enc)), (4, .st c3), (6, .pt 1 0 0), (7, .pt 2 0 0), (8, hd 3 (r40.2.2.2.2.2.2.2.2.2.2.map cdS.enc)), (13, .sl 5 (((x0.take (mnI (x0.length : Int) 8).toNat).drop (0 : Int).toNat).map (cdA (csC (cdK .u8) (csC (cdK .u8) (csC (cdK .u8) (csC cdB (csE cdB))))) (fun _ => rfl)).enc)), (14, .v (.int .i64 (((x0.take (mnI (x0.length : Int) 8).toNat).drop (0 : Int).toNat).length : Int))), (15, .v (.int .i64 c4)), (53, .v (.int .u8 r40.2.2.2.2.2.2.1)), (77, .v (.bool (r40.2.2.2.2.2.2.1 == 6)))], [mk 5 70 (r40.1.map cdClause.enc), some ⟨5, 99, [.ag [.v (.int .u8 r40.2.1), .v (.int .u8 r40.2.2.1), .v (.int .u8 r40.2.2.2.1), .v (.bool r40.2.2.2.2.1), .v (.bool r40.2.2.2.2.2.1)]], false⟩, some ⟨5, 70, [.ag [.v (.int .u8 r40.2.2.2.2.2.2.1), .st r40.2.2.2.2.2.2.2.1, .v (.bool r40.2.2.2.2.2.2.2.2.1), .e0, .v (.int .i64 r40.2.2.2.2.2.2.2.2.2.1)]], false⟩, mk 1 9 (r40.2.2.2.2.2.2.2.2.2.2.map cdS.enc)]⟩ (fun e s => e = .normal ∧ Wk E0 s ⟨Fr 98 [(3, hd 0 (r40.1.map cdClause.enc)), (4, .st c3), (6, .pt 1 0 0), (7, .pt 2 0 0), (8, hd 3 (r40.2.2.2.2.2.2.2.2.2.2.map cdS.enc)), (13, .sl 5 (((x0.take (mnI (x0.length : Int) 8).toNat).drop (0 : Int).toNat).map (cdA (csC (cdK .u8) (csC (cdK .u8) (csC (cdK .u8) (csC cdB (csE cdB))))) (fun _ => rfl)).enc)), (14, .v (.int .i64 (((x0.take (mnI (x0.length : Int) 8).toNat).drop (0 : Int).toNat).length : Int))), (15, .v (.int .i64 c4)), (53, .v (.int .u8 r40.2.2.2.2.2.2.1)), (77, .v (.bool r))], [mk 5 70 (r40.1.map cdClause.enc), some ⟨5, 99, [.ag [.v (.int .u8 r40.2.1), .v (.int .u8 r40.2.2.1), .v (.int .u8 r40.2.2.2.1), .v (.bool r40.2.2.2.2.1), .v (.bool r40.2.2.2.2.2.1)]], false⟩, some ⟨5, 70, [.ag [.v (.int .u8 r40.2.2.2.2.2.2.1), .st r40.2.2.2.2.2.2.2.1, .v (.bool r40.2.2.2.2.2.2.2.2.1), .e0, .v (.int .i64 r40.2.2.2.2.2.2.2.2.2.1)]], false⟩, mk 1 9 (r40.2.2.2.2.2.2.2.2.2.2.map cdS.enc)]⟩) := by
 unfold law03_Made_j14 at h
 refine Sem.cond (b := (r40.2.2.2.2.2.2.1 == 6)) kr (fun hb1720 => ?_) (fun hb1720 => ?_)
 ·rw [if_pos hb1720] at h
  refine Sem.skip ?_
  have hq := Option.some.inj h; subst hq
  exact ⟨rfl, (Wk.sel2 [0, 1, 2, 3] kr kr kr ⟨⟨_, rfl, bu_mk⟩, ⟨_, rfl, bu_c kr kr⟩, ⟨_, rfl, bu_c kr kr⟩, ⟨_, rfl, bu_mk⟩, trivial⟩ ⟨lu_hd (b' := 0) kr kr, lu kr kr, lu kr kr, lu kr kr, lu_hd (b' := 3) kr kr, lu kr kr, lu kr kr, lu kr kr, lu kr kr, lu kr kr, trivial⟩)⟩
 ·rw [if_f hb1720] at h
  refine Sem.rg E0_ok [(3, hd 0 (r40.1.map cdClause.enc)), (4, .st c3), (6, .pt 1 0 0), (7, .pt 2 0 0), (8, hd 3 (r40.2.2.2.2.2.2.2.2.2.2.map cdS.enc)), (13, .sl 5 (((x0.take (mnI (x0.length : Int) 8).toNat).drop (0 : Int).toNat).map (cdA (csC (cdK .u8) (csC (cdK .u8) (csC (cdK .u8) (csC cdB (csE cdB))))) (fun _ => rfl)).enc)), (14, .v (.int .i64 (((x0.take (mnI (x0.length : Int) 8).toNat).drop (0 : Int).toNat).length : Int))), (15, .v (.int .i64 c4)), (53, .v (.int .u8 r40.2.2.2.2.2.2.1)), (77, .v (.bool (r40.2.2.2.2.2.2.1 == 7)))] [mk 5 70 (r40.1.map cdClause.enc), some ⟨5, 99, [.ag [.v (.int .u8 r40.2.1), .v (.int .u8 r40.2.2.1), .v (.int .u8 r40.2.2.2.1), .v (.bool r40.2.2.2.2.1), .v (.bool r40.2.2.2.2.2.1)]], false⟩, some ⟨5, 70, [.ag [.v (.int .u8 r40.2.2.2.2.2.2.1), .st r40.2.2.2.2.2.2.2.1, .v (.bool r40.2.2.2.2.2.2.2.2.1), .e0, .v (.int .i64 r40.2.2.2.2.2.2.2.2.2.1)]], false⟩, mk 1 9 (r40.2.2.2.2.2.2.2.2.2.2.map cdS.enc)] ?_
  have hq := Option.some.inj h; subst hq
  exact ⟨rfl, (Wk.sel2 [0, 1, 2, 3] kr kr kr ⟨⟨_, rfl, bu_mk⟩, ⟨_, rfl, bu_c kr kr⟩, ⟨_, rfl, bu_c kr kr⟩, ⟨_, rfl, bu_mk⟩, trivial⟩ ⟨lu_hd (b' := 0) kr kr, lu kr kr, lu kr kr, lu kr kr, lu_hd (b' := 3) kr kr, lu kr kr, lu kr kr, lu kr kr, lu kr kr, lu kr kr, trivial⟩)⟩
theorem law03_Made_j16_ok (x0 : (List (Int × Int × Int × Bool × Bool))) (c3 : (List UInt8)) (c4 : Int) (r40 : (List Clause) × Int × Int × Int × Bool × Bool × Int × (List UInt8) × Bool × Int × (List (List UInt8))) (r : ((List Clause) × Int × (List UInt8) × Bool × Int)) (h : law03_Made_j16 x0 c3 c4 r40 = some r) : Sem E0 ⟨none, false⟩ (pc cb_law03_Made [1, 1, 1, 0, 1, 0, 0, 1, 1, 0, 0, 1, 1, 1, 1, 1, 0, 1, 0, 1, 1, 1, 1, 1, 1, 1, 1, 1]) ⟨Fr 98 [(3, hd 0 (r40.1.map cdClause.enc)), (4, .st c3), (6, .pt 1 0 0), (7, .pt 2 0 0), (13, .sl 5 (((x0.take (mnI (x0.length : Int) 8).toNat).drop (0 : Int).toNat).map (cdA (csC (cdK .u8) (csC (cdK .u8) (csC (cdK .u8) (csC cdB (csE cdB))))) (fun _ => rfl)).enc)), (14, .v (.int .i64 (((x0.take (mnI (x0.length : Int) 8).toNat).drop (0 : Int).toNat).length : Int))), (15, .v (.int .i64 c4)), (85, .v (.bool (r40.2.2.2.2.2.2.1 == 10)))], [mk 5 70 (r40.1.map cdClause.enc), some ⟨5, 99, [.ag [.v (.int .u8 r40.2.1), .v (.int .u8 r40.2.2.1), .v (.int .u8 r40.2.2.2.1), .v (.bool r40.2.2.2.2.1), .v (.bool r40.2.2.2.2.2.1)]], false⟩, some ⟨5, 70, [.ag [.v (.int .u8 r40.2.2.2.2.2.2.1), .st r40.2.2.2.2.2.2.2.1, .v (.bool r40.2.2.2.2.2.2.2.2.1), .e0, .v (.int .i64 r40.2.2.2.2.2.2.2.2.2.1)]], false⟩]⟩ (fun e s => e = .normal ∧ Wk E0 s ⟨Fr 98 [(3, hd 0 (r.1.map cdClause.enc)), (4, .st c3), (7, .pt 1 0 0), (13, .sl 5 (((x0.take (mnI (x0.length : Int) 8).toNat).drop (0 : Int).toNat).map (cdA (csC (cdK .u8) (csC (cdK .u8) (csC (cdK .u8) (csC cdB (csE cdB))))) (fun _ => rfl)).enc)), (14, .v (.int .i64 (((x0.take (mnI (x0.length : Int) 8).toNat).drop (0 : Int).toNat).length : Int))), (15, .v (.int .i64 c4))], [mk 5 70 (r.1.map cdClause.enc), some ⟨5, 70, [.ag [.v (.int .u8 r.2.1), .st r.2.2.1, .v (.bool r.2.2.2.1), .e0, .v (.int .i64 r.2.2.2.2)]], false⟩]⟩) := by
 unfold law03_Made_j16 at h
 refine Sem.cond (b := (r40.2.2.2.2.2.2.1 == 10)) kr (fun hb2050 => ?_) (fun hb2050 => ?_)
 ·rw [if_pos hb2050] at h
  let p1 : Option Blk := some ⟨5, 70, [.ag [.v (.int .u8 r40.2.2.2.2.2.2.1), .st r40.2.2.2.2.2.2.2.1, .v (.bool r40.2.2.2.2.2.2.2.2.1), .e0, .v (.int .i64 (wr .i64 (r40.2.2.1.tmod 64)))]], false⟩
  let p2 : Nat × AV := (14, .v (.int .i64 (((x0.take (mnI (x0.length : Int) 8).toNat).drop (0 : Int).toNat).length : Int)))
  let p3 : Nat × AV := (13, .sl 5 (((x0.take (mnI (x0.length : Int) 8).toNat).drop (0 : Int).toNat).map (cdA (csC (cdK .u8) (csC (cdK .u8) (csC (cdK .u8) (csC cdB (csE cdB))))) (fun _ => rfl)).enc))
  let p4 : Nat × AV := (3, hd 0 (r40.1.map cdClause.enc))
  refine Sem.runS (s1 := ⟨Fr 98 [p4, (4, .st c3), (7, .pt 1 0 0), p3, p2, (15, .v (.int .i64 c4))], [mk 5 70 (r40.1.map cdClause.enc), p1]⟩) ?_ ?_
  ·refine RunS.segF (n := 98) E0_ok 6 [p4, (4, .st c3), (7, .pt 2 0 0), p3, p2, (15, .v (.int .i64 c4))] [mk 5 70 (r40.1.map cdClause.enc), some ⟨5, 99, [.ag [.v (.int .u8 r40.2.1), .v (.int .u8 r40.2.2.1), .v (.int .u8 r40.2.2.2.1), .v (.bool r40.2.2.2.2.1), .v (.bool r40.2.2.2.2.2.1)]], false⟩, p1] kr ?_
   exact RunS.done rfl (Wk.sel2 [0, 2] kr kr kr ⟨⟨_, rfl, bu_mk⟩, ⟨_, rfl, bu_c kr kr⟩, trivial⟩ ⟨lu_hd (b' := 0) kr kr, lu kr kr, lu kr kr, lu kr kr, lu kr kr, lu kr kr, trivial⟩)
  have hq := Option.some.inj h; subst hq
  exact ⟨rfl, (Wk.sel2 [0, 1] kr kr kr ⟨⟨_, rfl, bu_mk⟩, ⟨_, rfl, bu_c kr kr⟩, trivial⟩ ⟨lu_hd (b' := 0) kr kr, lu kr kr, lu kr kr, lu kr kr, lu kr kr, lu kr kr, trivial⟩)⟩
 ·rw [if_f hb2050] at h
  refine Sem.skip ?_
  have hq := Option.some.inj h; subst hq
  exact ⟨rfl, (Wk.sel2 [0, 2] kr kr kr ⟨⟨_, rfl, bu_mk⟩, ⟨_, rfl, bu_c kr kr⟩, trivial⟩ ⟨lu_hd (b' := 0) kr kr, lu kr kr, lu kr kr, lu kr kr, lu kr kr, lu kr kr, trivial⟩)⟩
theorem law03_Made_j15_ok (x0 : (List (Int × Int × Int × Bool × Bool))) (c3 : (List UInt8)) (c4 : Int) (r40 : (List Clause) × Int × Int × Int × Bool × Bool × Int × (List UInt8) × Bool × Int × (List (List UInt8))) (r1722 : Bool) (r : ((List Clause) × Int × (List UInt8) × Bool × (List (List UInt8)) × Int)) (h : law03_Made_j15 x0 c3 c4 r40 r1722 = some r) : Sem E0 ⟨none, false⟩ (pc cb_law03_Made [1, 1, 1, 0, 1, 0, 0, 1, 1, 0, 0, 1, 1, 1, 1, 1, 0, 1, 0, 1, 1, 1, 1, 1, 1, 1]) ⟨Fr 98 [(3, hd 0 (r40.1.map cdClause.enc)), (4, .st c3), (6, .pt 1 0 0), (7, .pt 2 0 0), (8, hd 3 (r40.2.2.2.2.2.2.2.2.2.2.map cdS.enc)), (13, .sl 5 (((x0.take (mnI (x0.length : Int) 8).toNat).drop (0 : Int).toNat).map (cdA (csC (cdK .u8) (csC (cdK .u8) (csC (cdK .u8) (csC cdB (csE cdB))))) (fun _ => rfl)).enc)), (14, .v (.int .i64 (((x0.take (mnI (x0.length : Int) 8).toNat).drop (0 : Int).toNat).length : Int))), (15, .v (.int .i64 c4)), (53, .v (.int .u8 r40.2.2.2.2.2.2.1)), (77, .v (.bool r1722))], [mk 5 70 (r40.1.map cdClause.enc), some ⟨5, 99, [.ag [.v (.int .u8 r40.2.1), .v (.int .u8 r40.2.2.1), .v (.int .u8 r40.2.2.2.1), .v (.bool r40.2.2.2.2.1), .v (.bool r40.2.2.2.2.2.1)]], false⟩, some ⟨5, 70, [.ag [.v (.int .u8 r40.2.2.2.2.2.2.1), .st r40.2.2.2.2.2.2.2.1, .v (.bool r40.2.2.2.2.2.2.2.2.1), .e0, .v (.int .i64 r40.2.2.2.2.2.2.2.2.2.1)]], false⟩, mk 1 9 (r40.2.2.2.2.2.2.2.2.2.2.map cdS.enc)]⟩ (fun e s => e = .normal ∧ Wk E0 s ⟨Fr 98 [(3, hd 0 (r.1.map cdClause.enc)), (4, .st c3), (7, .pt 1 0 0), (13, .sl 5 (((x0.take (mnI (x0.length : Int) 8).toNat).drop (0 : Int).toNat).map (cdA (csC (cdK .u8) (csC (cdK .u8) (csC (cdK .u8) (csC cdB (csE cdB))))) (fun _ => rfl)).enc)), (14, .v (.int .i64 (((x0.take (mnI (x0.length : Int) 8).toNat).drop (0 : Int).toNat).length : Int))), (15, .v (.int .i64 c4))], [mk 5 70 (r.1.map cdClause.enc), some ⟨5, 70, [cdClause.enc r.2], false⟩]⟩) := by
 unfold law03_Made_j15 at h
 refine Sem.cond (b := r1722) kr (fun hb1723 => ?_) (fun hb1723 => ?_)
 ·rw [if_pos hb1723] at h
  let p1 : Option Blk := some ⟨5, 70, [.ag [.v (.int .u8 r40.2.2.2.2.2.2.1), .st r40.2.2.2.2.2.2.2.1, .v (.bool r40.2.2.2.2.1), .sl 1 (r40.2.2.2.2.2.2.2.2.2.2.map cdS.enc), .v (.int .i64 r40.2.2.2.2.2.2.2.2.2.1)]], false⟩
  let p2 : Option Blk := mk 5 70 (r40.1.map cdClause.enc)
  let p3 : Nat × AV := (15, .v (.int .i64 c4))
  let p4 : Nat × AV := (14, .v (.int .i64 (((x0.take (mnI (x0.length : Int) 8).toNat).drop (0 : Int).toNat).length : Int)))
  let p5 : Nat × AV := (13, .sl 5 (((x0.take (mnI (x0.length : Int) 8).toNat).drop (0 : Int).toNat).map (cdA (csC (cdK .u8) (csC (cdK .u8) (csC (cdK .u8) (csC cdB (csE cdB))))) (fun _ => rfl)).enc))
  let p6 : Nat × AV := (3, hd 0 (r40.1.map cdClause.enc))
  refine Sem.runA (s1 := ⟨Fr 98 [p6, (4, .st c3), (7, .pt 1 0 0), p5, p4, p3], [p2, p1]⟩) E0_ok 7 kr ?_ ?_
  ·refine RunA.q 0 kr rfl ?_
   let p7 : Option Blk := mk 1 9 (r40.2.2.2.2.2.2.2.2.2.2.map cdS.enc)
   let p8 : Option Blk := some ⟨5, 70, [.ag [.v (.int .u8 r40.2.2.2.2.2.2.1), .st r40.2.2.2.2.2.2.2.1, .v (.bool r40.2.2.2.2.2.2.2.2.1), .e0, .v (.int .i64 r40.2.2.2.2.2.2.2.2.2.1)]], false⟩
   let p9 : Option Blk := some ⟨5, 99, [.ag [.v (.int .u8 r40.2.1), .v (.int .u8 r40.2.2.1), .v (.int .u8 r40.2.2.2.1), .v (.bool r40.2.2.2.2.1), .v (.bool r40.2.2.2.2.2.1)]], false⟩
   let p10 : Nat × AV := (80, hd 3 (r40.2.2.2.2.2.2.2.2.2.2.map cdS.enc))
   let p11 : Nat × AV := (7, .pt 2 0 0)
   refine RunS.only (n := 98) E0_ok [p6, (4, .st c3), (6, .pt 1 0 0), p11, p5, p4, p3, p10] [p2, p9, p8, p7] kr ?_
   refine RunA.q 1 kr rfl ?_
   let p12 : Nat × AV := (81, .pt 1 0 3)
   refine RunS.only (n := 98) E0_ok [p6, (4, .st c3), p11, p5, p4, p3, p10, p12] [p2, p9, p8, p7] kr ?_
   refine RunA.q 3 kr rfl ?_
   let p13 : Nat × AV := (83, .pt 2 0 3)
   refine RunS.only (n := 98) E0_ok [p6, (4, .st c3), p11, p5, p4, p3, p10, p12, p13] [p2, p9, p8, p7] kr ?_
   refine RunA.l2 2 4 kr rfl rfl ?_ ?_
   ·let p14 : Nat × AV := (82, .v (.bool r40.2.2.2.2.1))
    refine RunS.only (n := 98) E0_ok [p6, (4, .st c3), p11, p5, p4, p3, p10, p14, p13] [p2, p9, p8, p7] kr ?_
    refine RunA.l1 4 kr rfl ?_
    refine RunS.wk (s1 := ⟨Fr 98 [p6, (4, .st c3), p11, p5, p4, p3, (80, .sl 1 (r40.2.2.2.2.2.2.2.2.2.2.map cdS.enc)), p14, p13], [p2, p9, p8, none]⟩) (Wk.frzG 3 (.inl kr) ⟨.inr (.inl rfl), .inr (.inr ⟨_, _, _, _, rfl, rfl, ⟨.inl rfl, trivial⟩⟩), .inr (.inr ⟨_, _, _, _, rfl, rfl, ⟨.inl rfl, trivial⟩⟩), .inl rfl, trivial⟩ ⟨⟨hd 0 (r40.1.map cdClause.enc), kr, .inl rfl⟩, ⟨.st c3, kr, .inl rfl⟩, ⟨.pt 2 0 0, kr, .inl rfl⟩, ⟨.sl 5 (((x0.take (mnI (x0.length : Int) 8).toNat).drop (0 : Int).toNat).map (cdA (csC (cdK .u8) (csC (cdK .u8) (csC (cdK .u8) (csC cdB (csE cdB))))) (fun _ => rfl)).enc), kr, .inl rfl⟩, ⟨.v (.int .i64 (((x0.take (mnI (x0.length : Int) 8).toNat).drop (0 : Int).toNat).length : Int)), kr, .inl rfl⟩, ⟨.v (.int .i64 c4), kr, .inl rfl⟩, ⟨hd 3 (r40.2.2.2.2.2.2.2.2.2.2.map cdS.enc), kr, fz_hd (t := 9) kr enc_ok⟩, ⟨.v (.bool r40.2.2.2.2.1), kr, .inl rfl⟩, ⟨.pt 2 0 3, kr, .inl rfl⟩, trivial⟩) ?_
    let p15 : Option Blk := some ⟨5, 70, [.ag [.v (.int .u8 r40.2.2.2.2.2.2.1), .st r40.2.2.2.2.2.2.2.1, .v (.bool r40.2.2.2.2.2.2.2.2.1), .sl 1 (r40.2.2.2.2.2.2.2.2.2.2.map cdS.enc), .v (.int .i64 r40.2.2.2.2.2.2.2.2.2.1)]], false⟩
    refine RunS.only (n := 98) E0_ok [p6, (4, .st c3), p11, p5, p4, p3, p14] [p2, p9, p15, none] kr ?_
    refine RunA.q 5 kr rfl ?_
    refine RunS.only (n := 98) E0_ok [p6, (4, .st c3), p11, p5, p4, p3, p14, (84, .pt 2 0 2)] [p2, p9, p15, none] kr ?_
    refine RunA.l1 6 kr rfl ?_
    refine RunS.only (n := 98) E0_ok [p6, (4, .st c3), p11, p5, p4, p3] [p2, p9, p1, none] kr ?_
    exact RunA.done kr (Wk.sel2 [0, 2] kr kr kr ⟨⟨_, rfl, bu_mk⟩, ⟨_, rfl, bu_c kr kr⟩, trivial⟩ ⟨lu_hd (b' := 0) kr kr, lu kr kr, lu kr kr, lu kr kr, lu kr kr, lu kr kr, trivial⟩)
   ·refine RunS.wk (s1 := ⟨Fr 98 [p6, (4, .st c3), p11, p5, p4, p3, (80, .sl 1 (r40.2.2.2.2.2.2.2.2.2.2.map cdS.enc)), p12, p13], [p2, p9, p8, none]⟩) (Wk.frzG 3 (.inl kr) ⟨.inr (.inl rfl), .inr (.inr ⟨_, _, _, _, rfl, rfl, ⟨.inl rfl, trivial⟩⟩), .inr (.inr ⟨_, _, _, _, rfl, rfl, ⟨.inl rfl, trivial⟩⟩), .inl rfl, trivial⟩ ⟨⟨hd 0 (r40.1.map cdClause.enc), kr, .inl rfl⟩, ⟨.st c3, kr, .inl rfl⟩, ⟨.pt 2 0 0, kr, .inl rfl⟩, ⟨.sl 5 (((x0.take (mnI (x0.length : Int) 8).toNat).drop (0 : Int).toNat).map (cdA (csC (cdK .u8) (csC (cdK .u8) (csC (cdK .u8) (csC cdB (csE cdB))))) (fun _ => rfl)).enc), kr, .inl rfl⟩, ⟨.v (.int .i64 (((x0.take (mnI (x0.length : Int) 8).toNat).drop (0 : Int).toNat).length : Int)), kr, .inl rfl⟩, ⟨.v (.int .i64 c4), kr, .inl rfl⟩, ⟨hd 3 (r40.2.2.2.2.2.2.2.2.2.2.map cdS.enc), kr, fz_hd (t := 9) kr enc_ok⟩, ⟨.pt 1 0 3, kr, .inl rfl⟩, ⟨.pt 2 0 3, kr, .inl rfl⟩, trivial⟩) ?_
    let p16 : Option Blk := some ⟨5, 70, [.ag [.v (.int .u8 r40.2.2.2.2.2.2.1), .st r40.2.2.2.2.2.2.2.1, .v (.bool r40.2.2.2.2.2.2.2.2.1), .sl 1 (r40.2.2.2.2.2.2.2.2.2.2.map cdS.enc), .v (.int .i64 r40.2.2.2.2.2.2.2.2.2.1)]], false⟩
    refine RunS.only (n := 98) E0_ok [p6, (4, .st c3), p11, p5, p4, p3, p12] [p2, p9, p16, none] kr ?_
    refine RunA.l1 2 kr rfl ?_
    refine RunS.only (n := 98) E0_ok [p6, (4, .st c3), p11, p5, p4, p3, (82, .v (.bool r40.2.2.2.2.1))] [p2, p9, p16, none] kr ?_
    refine RunA.q 5 kr rfl ?_
    refine RunS.only (n := 98) E0_ok [p6, (4, .st c3), p11, p5, p4, p3, (82, .v (.bool r40.2.2.2.2.1)), (84, .pt 2 0 2)] [p2, p9, p16, none] kr ?_
    refine RunA.l1 6 kr rfl ?_
    refine RunS.only (n := 98) E0_ok [p6, (4, .st c3), p11, p5, p4, p3] [p2, p9, p1, none] kr ?_
    exact RunA.done kr (Wk.sel2 [0, 2] kr kr kr ⟨⟨_, rfl, bu_mk⟩, ⟨_, rfl, bu_c kr kr⟩, trivial⟩ ⟨lu_hd (b' := 0) kr kr, lu kr kr, lu kr kr, lu kr kr, lu kr kr, lu kr kr, trivial⟩)
  have hq := Option.some.inj h; subst hq
  exact ⟨rfl, (Wk.sel2 [0, 1] kr kr kr ⟨⟨_, rfl, bu_mk⟩, ⟨_, rfl, bu_c kr kr⟩, trivial⟩ ⟨lu_hd (b' := 0) kr kr, lu kr kr, lu kr kr, lu kr kr, lu kr kr, lu kr kr, trivial⟩)⟩
 ·rw [if_f hb1723] at h
  refine Sem.seq ?_
  let p17 : Option Blk := some ⟨5, 70, [.ag [.v (.int .u8 r40.2.2.2.2.2.2.1), .st r40.2.2.2.2.2.2.2.1, .v (.bool r40.2.2.2.2.2.2.2.2.1), .e0, .v (.int .i64 r40.2.2.2.2.2.2.2.2.2.1)]], false⟩
  let p18 : Option Blk := some ⟨5, 99, [.ag [.v (.int .u8 r40.2.1), .v (.int .u8 r40.2.2.1), .v (.int .u8 r40.2.2.2.1), .v (.bool r40.2.2.2.2.1), .v (.bool r40.2.2.2.2.2.1)]], false⟩
  let p19 : Nat × AV := (85, .v (.bool (r40.2.2.2.2.2.2.1 == 10)))
  let p20 : Nat × AV := (15, .v (.int .i64 c4))
  let p21 : Nat × AV := (14, .v (.int .i64 (((x0.take (mnI (x0.length : Int) 8).toNat).drop (0 : Int).toNat).length : Int)))
  let p22 : Nat × AV := (13, .sl 5 (((x0.take (mnI (x0.length : Int) 8).toNat).drop (0 : Int).toNat).map (cdA (csC (cdK .u8) (csC (cdK .u8) (csC (cdK .u8) (csC cdB (csE cdB))))) (fun _ => rfl)).enc))
  let p23 : Nat × AV := (3, hd 0 (r40.1.map cdClause.enc))
  refine Sem.runS (s1 := ⟨Fr 98 [p23, (4, .st c3), (6, .pt 1 0 0), (7, .pt 2 0 0), p22, p21, p20, p19], [mk 5 70 (r40.1.map cdClause.enc), p18, p17]⟩) ?_ ?_
  ·refine RunS.segF (n := 98) E0_ok 2 [p23, (4, .st c3), (6, .pt 1 0 0), (7, .pt 2 0 0), p22, p21, p20, p19] [mk 5 70 (r40.1.map cdClause.enc), p18, p17, mk 1 9 (r40.2.2.2.2.2.2.2.2.2.2.map cdS.enc)] kr ?_
   exact RunS.done rfl (Wk.sel2 [0, 1, 2] kr kr kr ⟨⟨_, rfl, bu_mk⟩, ⟨_, rfl, bu_c kr kr⟩, ⟨_, rfl, bu_c kr kr⟩, trivial⟩ ⟨lu_hd (b' := 0) kr kr, lu kr kr, lu kr kr, lu kr kr, lu kr kr, lu kr kr, lu kr kr, lu kr kr, trivial⟩)
  obtain ⟨r2056, hr2056, h⟩ := Option.bind_eq_some_iff.1 h
  refine Sem.cut (law03_Made_j16_ok x0 c3 c4 r40 _ hr2056) ?_
  have hq := Option.some.inj h; subst hq
  let p24 : Option Blk := mk 5 70 (r2056.1.map cdClause.enc)
  let p25 : Nat × AV := (3, hd 0 (r2056.1.map cdClause.enc))
  let p26 : Option Blk := some ⟨5, 70, [.ag [.v (.int .u8 r2056.2.1), .st r2056.2.2.1, .v (.bool r2056.2.2.2.1), .e0, .v (.int .i64 r2056.2.2.2.2)]], false⟩
  exact ⟨rfl, (Wk.trans (s1 := ⟨Fr 98 [p25, (4, .st c3), (7, .pt 1 0 0), p22, p21, p20], [p24, p26]⟩) (Wk.fr kr) (Wk.trans (s1 := ⟨Fr 98 [p25, (4, .st c3), (7, .pt 1 0 0), p22, p21, p20], [p24, p26, none]⟩) Wk.none (Wk.trans (s1 := ⟨Fr 98 [p25, (4, .st c3), (7, .pt 1 0 0), p22, p21, p20], [p24, some ⟨5, 70, [.ag [.v (.int .u8 r2056.2.1), .st r2056.2.2.1, .v (.bool r2056.2.2.2.1), .sl 1 ([].map cdS.enc), .v (.int .i64 r2056.2.2.2.2)]], false⟩, none]⟩) (Wk.frzG2 2 (.inr kr) ⟨.inr (.inl rfl), .inr (.inr ⟨_, _, _, _, rfl, rfl, ⟨(.inr ⟨_, _, rfl, rfl, ⟨.inl rfl, .inl rfl, .inl rfl, fz_e0, .inl rfl, trivial⟩⟩), trivial⟩⟩), .inl rfl, trivial⟩ ⟨⟨hd 0 (r2056.1.map cdClause.enc), kr, (.inl (.inl rfl))⟩, ⟨.st c3, kr, (.inl (.inl rfl))⟩, ⟨.pt 1 0 0, kr, (.inl (.inl rfl))⟩, ⟨.sl 5 (((x0.take (mnI (x0.length : Int) 8).toNat).drop (0 : Int).toNat).map (cdA (csC (cdK .u8) (csC (cdK .u8) (csC (cdK .u8) (csC cdB (csE cdB))))) (fun _ => rfl)).enc), kr, (.inl (.inl rfl))⟩, ⟨.v (.int .i64 (((x0.take (mnI (x0.length : Int) 8).toNat).drop (0 : Int).toNat).length : Int)), kr, (.inl (.inl rfl))⟩, ⟨.v (.int .i64 c4), kr, (.inl (.inl rfl))⟩, trivial⟩) (Wk.sel2 [0, 1] kr kr kr ⟨⟨_, rfl, bu_mk⟩, ⟨_, rfl, bu_c kr kr⟩, trivial⟩ ⟨lu_hd (b' := 0) kr kr, lu kr kr, lu kr kr, lu kr kr, lu kr kr, lu kr kr, trivial⟩))))⟩
theorem law03_Made_j13_ok (x0 : (List (Int × Int × Int × Bool × Bool))) (c3 : (List UInt8)) (c4 : Int) (r40 : (List Clause) × Int × Int × Int × Bool × Bool × Int × (List UInt8) × Bool × Int × (List (List UInt8))) (r : ((List Clause) × Int × (List UInt8) × Bool × (List (List UInt8)) × Int)) (h : law03_Made_j13 x0 c3 c4 r40 = some r) : Sem E0 ⟨none, false⟩ (pc cb_law03_Made [1, 1, 1, 0, 1, 0, 0, 1, 1, 0, 0, 1, 1, 1, 1, 1, 0, 1, 0, 1, 1, 1, 1, 1]) ⟨Fr 98 [(3, hd 0 (r40.1.map cdClause.enc)), (4, .st c3), (6, .pt 1 0 0), (7, .pt 2 0 0), (8, hd 3 (r40.2.2.2.2.2.2.2.2.2.2.map cdS.enc)), (13, .sl 5 (((x0.take (mnI (x0.length : Int) 8).toNat).drop (0 : Int).toNat).map (cdA (csC (cdK .u8) (csC (cdK .u8) (csC (cdK .u8) (csC cdB (csE cdB))))) (fun _ => rfl)).enc)), (14, .v (.int .i64 (((x0.take (mnI (x0.length : Int) 8).toNat).drop (0 : Int).toNat).length : Int))), (15, .v (.int .i64 c4)), (53, .v (.int .u8 r40.2.2.2.2.2.2.1)), (72, .v (.bool (r40.2.2.2.2.2.2.1 == 5)))], [mk 5 70 (r40.1.map cdClause.enc), some ⟨5, 99, [.ag [.v (.int .u8 r40.2.1), .v (.int .u8 r40.2.2.1), .v (.int .u8 r40.2.2.2.1), .v (.bool r40.2.2.2.2.1), .v (.bool r40.2.2.2.2.2.1)]], false⟩, some ⟨5, 70, [.ag [.v (.int .u8 r40.2.2.2.2.2.2.1), .st r40.2.2.2.2.2.2.2.1, .v (.bool r40.2.2.2.2.2.2.2.2.1), .e0, .v (.int .i64 r40.2.2.2.2.2.2.2.2.2.1)]], false⟩, mk 1 9 (r40.2.2.2.2.2.2.2.2.2.2.map cdS.enc)]⟩ (fun e s => e = .normal ∧ Wk E0 s ⟨Fr 98 [(3, hd 0 (r.1.map cdClause.enc)), (4, .st c3), (7, .pt 1 0 0), (13, .sl 5 (((x0.take (mnI (x0.length : Int) 8).toNat).drop (0 : Int).toNat).map (cdA (csC (cdK .u8) (csC (cdK .u8) (csC (cdK .u8) (csC cdB (csE cdB))))) (fun _ => rfl)).enc)), (14, .v (.int .i64 (((x0.take (mnI (x0.length : Int) 8).toNat).drop (0 : Int).toNat).length : Int))), (15, .v (.int .i64 c4))], [mk 5 70 (r.1.map cdClause.enc), some ⟨5, 70, [cdClause.enc r.2], false⟩]⟩) := by
 unfold law03_Made_j13 at h
 refine Sem.cond (b := (r40.2.2.2.2.2.2.1 == 5)) kr (fun hb1713 => ?_) (fun hb1713 => ?_)
 ·rw [if_pos hb1713] at h
  let p1 : Option Blk := some ⟨5, 70, [.ag [.v (.int .u8 r40.2.2.2.2.2.2.1), .st r40.2.2.2.2.2.2.2.1, .v (.bool r40.2.2.2.2.1), .e0, .v (.int .i64 r40.2.2.2.2.2.2.2.2.2.1)]], false⟩
  let p2 : Option Blk := mk 5 70 (r40.1.map cdClause.enc)
  let p3 : Nat × AV := (15, .v (.int .i64 c4))
  let p4 : Nat × AV := (14, .v (.int .i64 (((x0.take (mnI (x0.length : Int) 8).toNat).drop (0 : Int).toNat).length : Int)))
  let p5 : Nat × AV := (13, .sl 5 (((x0.take (mnI (x0.length : Int) 8).toNat).drop (0 : Int).toNat).map (cdA (csC (cdK .u8) (csC (cdK .u8) (csC (cdK .u8) (csC cdB (csE cdB))))) (fun _ => rfl)).enc))
  let p6 : Nat × AV := (7, .pt 1 0 0)
  let p7 : Nat × AV := (3, hd 0 (r40.1.map cdClause.enc))
  refine Sem.runS (s1 := ⟨Fr 98 [p7, (4, .st c3), p6, p5, p4, p3], [p2, p1]⟩) ?_ ?_
  ·refine RunS.segF (n := 98) E0_ok 4 [p7, (4, .st c3), (7, .pt 2 0 0), p5, p4, p3] [p2, some ⟨5, 99, [.ag [.v (.int .u8 r40.2.1), .v (.int .u8 r40.2.2.1), .v (.int .u8 r40.2.2.2.1), .v (.bool r40.2.2.2.2.1), .v (.bool r40.2.2.2.2.2.1)]], false⟩, p1, mk 1 9 (r40.2.2.2.2.2.2.2.2.2.2.map cdS.enc)] kr ?_
   exact RunS.done rfl (Wk.sel2 [0, 2] kr kr kr ⟨⟨_, rfl, bu_mk⟩, ⟨_, rfl, bu_c kr kr⟩, trivial⟩ ⟨lu_hd (b' := 0) kr kr, lu kr kr, lu kr kr, lu kr kr, lu kr kr, lu kr kr, trivial⟩)
  have hq := Option.some.inj h; subst hq
  exact ⟨rfl, (Wk.trans (s1 := ⟨Fr 98 [p7, (4, .st c3), p6, p5, p4, p3], [p2, p1]⟩) (Wk.fr kr) (Wk.trans (s1 := ⟨Fr 98 [p7, (4, .st c3), p6, p5, p4, p3], [p2, p1, none]⟩) Wk.none (Wk.trans (s1 := ⟨Fr 98 [p7, (4, .st c3), p6, p5, p4, p3], [p2, some ⟨5, 70, [.ag [.v (.int .u8 r40.2.2.2.2.2.2.1), .st r40.2.2.2.2.2.2.2.1, .v (.bool r40.2.2.2.2.1), .sl 1 ([].map cdS.enc), .v (.int .i64 r40.2.2.2.2.2.2.2.2.2.1)]], false⟩, none]⟩) (Wk.frzG2 2 (.inr kr) ⟨.inr (.inl rfl), .inr (.inr ⟨_, _, _, _, rfl, rfl, ⟨(.inr ⟨_, _, rfl, rfl, ⟨.inl rfl, .inl rfl, .inl rfl, fz_e0, .inl rfl, trivial⟩⟩), trivial⟩⟩), .inl rfl, trivial⟩ ⟨⟨hd 0 (r40.1.map cdClause.enc), kr, (.inl (.inl rfl))⟩, ⟨.st c3, kr, (.inl (.inl rfl))⟩, ⟨.pt 1 0 0, kr, (.inl (.inl rfl))⟩, ⟨.sl 5 (((x0.take (mnI (x0.length : Int) 8).toNat).drop (0 : Int).toNat).map (cdA (csC (cdK .u8) (csC (cdK .u8) (csC (cdK .u8) (csC cdB (csE cdB))))) (fun _ => rfl)).enc), kr, (.inl (.inl rfl))⟩, ⟨.v (.int .i64 (((x0.take (mnI (x0.length : Int) 8).toNat).drop (0 : Int).toNat).length : Int)), kr, (.inl (.inl rfl))⟩, ⟨.v (.int .i64 c4), kr, (.inl (.inl rfl))⟩, trivial⟩) (Wk.sel2 [0, 1] kr kr kr ⟨⟨_, rfl, bu_mk⟩, ⟨_, rfl, bu_c kr kr⟩, trivial⟩ ⟨lu_hd (b' := 0) kr kr, lu kr kr, lu kr kr, lu kr kr, lu kr kr, lu kr kr, trivial⟩))))⟩
 ·rw [if_f hb1713] at h
  refine Sem.seq ?_
  refine Sem.sq E0_ok [(3, hd 0 (r40.1.map cdClause.enc)), (4, .st c3), (6, .pt 1 0 0), (7, .pt 2 0 0), (8, hd 3 (r40.2.2.2.2.2.2.2.2.2.2.map cdS.enc)), (13, .sl 5 (((x0.take (mnI (x0.length : Int) 8).toNat).drop (0 : Int).toNat).map (cdA (csC (cdK .u8) (csC (cdK .u8) (csC (cdK .u8) (csC cdB (csE cdB))))) (fun _ => rfl)).enc)), (14, .v (.int .i64 (((x0.take (mnI (x0.length : Int) 8).toNat).drop (0 : Int).toNat).length : Int))), (15, .v (.int .i64 c4)), (53, .v (.int .u8 r40.2.2.2.2.2.2.1)), (77, .v (.bool (r40.2.2.2.2.2.2.1 == 6)))] [mk 5 70 (r40.1.map cdClause.enc), some ⟨5, 99, [.ag [.v (.int .u8 r40.2.1), .v (.int .u8 r40.2.2.1), .v (.int .u8 r40.2.2.2.1), .v (.bool r40.2.2.2.2.1), .v (.bool r40.2.2.2.2.2.1)]], false⟩, some ⟨5, 70, [.ag [.v (.int .u8 r40.2.2.2.2.2.2.1), .st r40.2.2.2.2.2.2.2.1, .v (.bool r40.2.2.2.2.2.2.2.2.1), .e0, .v (.int .i64 r40.2.2.2.2.2.2.2.2.2.1)]], false⟩, mk 1 9 (r40.2.2.2.2.2.2.2.2.2.2.map cdS.enc)] ?_
  obtain ⟨r1722, hr1722, h⟩ := Option.bind_eq_some_iff.1 h
  refine Sem.cut (law03_Made_j14_ok x0 c3 c4 r40 _ hr1722) ?_
  obtain ⟨r2057, hr2057, h⟩ := Option.bind_eq_some_iff.1 h
  refine Sem.cut (law03_Made_j15_ok x0 c3 c4 r40 r1722 _ hr2057) ?_
  have hq := Option.some.inj h; subst hq
  exact ⟨rfl, (Wk.sel2 [0, 1] kr kr kr ⟨⟨_, rfl, bu_mk⟩, ⟨_, rfl, bu_c kr kr⟩, trivial⟩ ⟨lu_hd (b' := 0) kr kr, lu kr kr, lu kr kr, lu kr kr, lu kr kr, lu kr kr, trivial⟩)⟩
theorem law03_Made_j5_ok (x0 : (List (Int × Int × Int × Bool × Bool))) (c3 : (List UInt8)) (c4 : Int) (r40 : (List Clause) × Int × Int × Int × Bool × Bool × Int × (List UInt8) × Bool × Int × (List (List UInt8))) (r : ((List Clause) × Int × (List UInt8) × Bool × (List (List UInt8)) × Int)) (h : law03_Made_j5 x0 c3 c4 r40 = some r) : Sem E0 ⟨none, false⟩ (pc cb_law03_Made [1, 1, 1, 0, 1, 0, 0, 1, 1, 0, 0, 1, 1, 1, 1, 1, 0, 1, 0, 1, 1, 1]) ⟨Fr 98 [(3, hd 0 (r40.1.map cdClause.enc)), (4, .st c3), (6, .pt 1 0 0), (7, .pt 2 0 0), (8, hd 3 (r40.2.2.2.2.2.2.2.2.2.2.map cdS.enc)), (13, .sl 5 (((x0.take (mnI (x0.length : Int) 8).toNat).drop (0 : Int).toNat).map (cdA (csC (cdK .u8) (csC (cdK .u8) (csC (cdK .u8) (csC cdB (csE cdB))))) (fun _ => rfl)).enc)), (14, .v (.int .i64 (((x0.take (mnI (x0.length : Int) 8).toNat).drop (0 : Int).toNat).length : Int))), (15, .v (.int .i64 c4)), (53, .v (.int .u8 r40.2.2.2.2.2.2.1)), (61, .v (.bool (r40.2.2.2.2.2.2.1 == 4)))], [mk 5 70 (r40.1.map cdClause.enc), some ⟨5, 99, [.ag [.v (.int .u8 r40.2.1), .v (.int .u8 r40.2.2.1), .v (.int .u8 r40.2.2.2.1), .v (.bool r40.2.2.2.2.1), .v (.bool r40.2.2.2.2.2.1)]], false⟩, some ⟨5, 70, [.ag [.v (.int .u8 r40.2.2.2.2.2.2.1), .st r40.2.2.2.2.2.2.2.1, .v (.bool r40.2.2.2.2.2.2.2.2.1), .e0, .v (.int .i64 r40.2.2.2.2.2.2.2.2.2.1)]], false⟩, mk 1 9 (r40.2.2.2.2.2.2.2.2.2.2.map cdS.enc)]⟩ (fun e s => e = .normal ∧ Wk E0 s ⟨Fr 98 [(3, hd 0 (r.1.map cdClause.enc)), (4, .st c3), (7, .pt 1 0 0), (13, .sl 5 (((x0.take (mnI (x0.length : Int) 8).toNat).drop (0 : Int).toNat).map (cdA (csC (cdK .u8) (csC (cdK .u8) (csC (cdK .u8) (csC cdB (csE cdB))))) (fun _ => rfl)).enc)), (14, .v (.int .i64 (((x0.take (mnI (x0.length : Int) 8).toNat).drop (0 : Int).toNat).length : Int))), (15, .v (.int .i64 c4))], [mk 5 70 (r.1.map cdClause.enc), some ⟨5, 70, [cdClause.enc r.2], false⟩]⟩) := by
 unfold law03_Made_j5 at h
 refine Sem.cond (b := (r40.2.2.2.2.2.2.1 == 4)) kr (fun hb1226 => ?_) (fun hb1226 => ?_)
 ·rw [if_pos hb1226] at h
  let p1 : Option Blk := some ⟨5, 70, [.ag [.v (.int .u8 r40.2.2.2.2.2.2.1), .st r40.2.2.2.2.2.2.2.1, .v (.bool r40.2.2.2.2.1), .e0, .v (.int .i64 (wr .i64 (1 + (wr .i64 (r40.2.2.1.tmod 2)))))]], false⟩
  let p2 : Option Blk := mk 5 70 (r40.1.map cdClause.enc)
  let p3 : Nat × AV := (15, .v (.int .i64 c4))
  let p4 : Nat × AV := (14, .v (.int .i64 (((x0.take (mnI (x0.length : Int) 8).toNat).drop (0 : Int).toNat).length : Int)))
  let p5 : Nat × AV := (13, .sl 5 (((x0.take (mnI (x0.length : Int) 8).toNat).drop (0 : Int).toNat).map (cdA (csC (cdK .u8) (csC (cdK .u8) (csC (cdK .u8) (csC cdB (csE cdB))))) (fun _ => rfl)).enc))
  let p6 : Nat × AV := (7, .pt 1 0 0)
  let p7 : Nat × AV := (3, hd 0 (r40.1.map cdClause.enc))
  refine Sem.runA (s1 := ⟨Fr 98 [p7, (4, .st c3), p6, p5, p4, p3], [p2, p1]⟩) E0_ok 11 kr ?_ ?_
  ·refine RunA.q 0 kr rfl ?_
   let p8 : Option Blk := mk 1 9 (r40.2.2.2.2.2.2.2.2.2.2.map cdS.enc)
   let p9 : Option Blk := some ⟨5, 70, [.ag [.v (.int .u8 r40.2.2.2.2.2.2.1), .st r40.2.2.2.2.2.2.2.1, .v (.bool r40.2.2.2.2.2.2.2.2.1), .e0, .v (.int .i64 r40.2.2.2.2.2.2.2.2.2.1)]], false⟩
   let p10 : Option Blk := some ⟨5, 99, [.ag [.v (.int .u8 r40.2.1), .v (.int .u8 r40.2.2.1), .v (.int .u8 r40.2.2.2.1), .v (.bool r40.2.2.2.2.1), .v (.bool r40.2.2.2.2.2.1)]], false⟩
   let p11 : Nat × AV := (7, .pt 2 0 0)
   refine RunS.only (n := 98) E0_ok [p7, (4, .st c3), (6, .pt 1 0 0), p11, p5, p4, p3, (63, .pt 1 0 1)] [p2, p10, p9, p8] kr ?_
   refine RunA.q 5 kr rfl ?_
   let p12 : Nat × AV := (68, .pt 1 0 3)
   refine RunS.only (n := 98) E0_ok [p7, (4, .st c3), p11, p5, p4, p3, (63, .pt 1 0 1), p12] [p2, p10, p9, p8] kr ?_
   refine RunA.l2 1 6 kr rfl rfl ?_ ?_
   ·refine RunS.only (n := 98) E0_ok [p7, (4, .st c3), p11, p5, p4, p3, (64, .v (.int .u8 r40.2.2.1)), p12] [p2, p10, p9, p8] kr ?_
    refine RunA.l2 2 6 kr rfl rfl ?_ ?_
    ·refine RunS.only (n := 98) E0_ok [p7, (4, .st c3), p11, p5, p4, p3, (65, .v (.int .u8 (r40.2.2.1.tmod 2))), p12] [p2, p10, p9, p8] kr ?_
     refine RunA.l2 3 6 kr rfl rfl ?_ ?_
     ·refine RunS.only (n := 98) E0_ok [p7, (4, .st c3), p11, p5, p4, p3, (66, .v (.int .i64 (wr .i64 (r40.2.2.1.tmod 2)))), p12] [p2, p10, p9, p8] kr ?_
      refine RunA.q 4 kr rfl ?_
      let p13 : Nat × AV := (67, .v (.int .i64 (wr .i64 (1 + (wr .i64 (r40.2.2.1.tmod 2))))))
      refine RunS.only (n := 98) E0_ok [p7, (4, .st c3), p11, p5, p4, p3, p13, p12] [p2, p10, p9, p8] kr ?_
      refine RunA.q 7 kr rfl ?_
      refine RunS.only (n := 98) E0_ok [p7, (4, .st c3), p11, p5, p4, p3, p13, p12, (70, .pt 2 0 4)] [p2, p10, p9, p8] kr ?_
      refine RunA.l2 6 8 kr rfl rfl ?_ ?_
      ·let p14 : Nat × AV := (69, .v (.bool r40.2.2.2.2.1))
       refine RunS.only (n := 98) E0_ok [p7, (4, .st c3), p11, p5, p4, p3, p13, p14, (70, .pt 2 0 4)] [p2, p10, p9, p8] kr ?_
       refine RunA.l1 8 kr rfl ?_
       let p15 : Option Blk := some ⟨5, 70, [.ag [.v (.int .u8 r40.2.2.2.2.2.2.1), .st r40.2.2.2.2.2.2.2.1, .v (.bool r40.2.2.2.2.2.2.2.2.1), .e0, .v (.int .i64 (wr .i64 (1 + (wr .i64 (r40.2.2.1.tmod 2)))))]], false⟩
       refine RunS.only (n := 98) E0_ok [p7, (4, .st c3), p11, p5, p4, p3, p14] [p2, p10, p15, p8] kr ?_
       refine RunA.q 9 kr rfl ?_
       refine RunS.only (n := 98) E0_ok [p7, (4, .st c3), p11, p5, p4, p3, p14, (71, .pt 2 0 2)] [p2, p10, p15, p8] kr ?_
       refine RunA.l1 10 kr rfl ?_
       refine RunS.only (n := 98) E0_ok [p7, (4, .st c3), p11, p5, p4, p3] [p2, p10, p1, p8] kr ?_
       exact RunA.done kr (Wk.sel2 [0, 2] kr kr kr ⟨⟨_, rfl, bu_mk⟩, ⟨_, rfl, bu_c kr kr⟩, trivial⟩ ⟨lu_hd (b' := 0) kr kr, lu kr kr, lu kr kr, lu kr kr, lu kr kr, lu kr kr, trivial⟩)
      ·let p16 : Option Blk := some ⟨5, 70, [.ag [.v (.int .u8 r40.2.2.2.2.2.2.1), .st r40.2.2.2.2.2.2.2.1, .v (.bool r40.2.2.2.2.2.2.2.2.1), .e0, .v (.int .i64 (wr .i64 (1 + (wr .i64 (r40.2.2.1.tmod 2)))))]], false⟩
       refine RunS.only (n := 98) E0_ok [p7, (4, .st c3), p11, p5, p4, p3, p12] [p2, p10, p16, p8] kr ?_
       refine RunA.l1 6 kr rfl ?_
       refine RunS.only (n := 98) E0_ok [p7, (4, .st c3), p11, p5, p4, p3, (69, .v (.bool r40.2.2.2.2.1))] [p2, p10, p16, p8] kr ?_
       refine RunA.q 9 kr rfl ?_
       refine RunS.only (n := 98) E0_ok [p7, (4, .st c3), p11, p5, p4, p3, (69, .v (.bool r40.2.2.2.2.1)), (71, .pt 2 0 2)] [p2, p10, p16, p8] kr ?_
       refine RunA.l1 10 kr rfl ?_
       refine RunS.only (n := 98) E0_ok [p7, (4, .st c3), p11, p5, p4, p3] [p2, p10, p1, p8] kr ?_
       exact RunA.done kr (Wk.sel2 [0, 2] kr kr kr ⟨⟨_, rfl, bu_mk⟩, ⟨_, rfl, bu_c kr kr⟩, trivial⟩ ⟨lu_hd (b' := 0) kr kr, lu kr kr, lu kr kr, lu kr kr, lu kr kr, lu kr kr, trivial⟩)
     ·let p17 : Nat × AV := (69, .v (.bool r40.2.2.2.2.1))
      refine RunS.only (n := 98) E0_ok [p7, (4, .st c3), p11, p5, p4, p3, (65, .v (.int .u8 (r40.2.2.1.tmod 2))), p17] [p2, p10, p9, p8] kr ?_
      refine RunA.l1 3 kr rfl ?_
      refine RunS.only (n := 98) E0_ok [p7, (4, .st c3), p11, p5, p4, p3, (66, .v (.int .i64 (wr .i64 (r40.2.2.1.tmod 2)))), p17] [p2, p10, p9, p8] kr ?_
      refine RunA.q 4 kr rfl ?_
      let p18 : Nat × AV := (67, .v (.int .i64 (wr .i64 (1 + (wr .i64 (r40.2.2.1.tmod 2))))))
      refine RunS.only (n := 98) E0_ok [p7, (4, .st c3), p11, p5, p4, p3, p18, p17] [p2, p10, p9, p8] kr ?_
      refine RunA.q 7 kr rfl ?_
      refine RunS.only (n := 98) E0_ok [p7, (4, .st c3), p11, p5, p4, p3, p18, p17, (70, .pt 2 0 4)] [p2, p10, p9, p8] kr ?_
      refine RunA.l1 8 kr rfl ?_
      let p19 : Option Blk := some ⟨5, 70, [.ag [.v (.int .u8 r40.2.2.2.2.2.2.1), .st r40.2.2.2.2.2.2.2.1, .v (.bool r40.2.2.2.2.2.2.2.2.1), .e0, .v (.int .i64 (wr .i64 (1 + (wr .i64 (r40.2.2.1.tmod 2)))))]], false⟩
      refine RunS.only (n := 98) E0_ok [p7, (4, .st c3), p11, p5, p4, p3, p17] [p2, p10, p19, p8] kr ?_
      refine RunA.q 9 kr rfl ?_
      refine RunS.only (n := 98) E0_ok [p7, (4, .st c3), p11, p5, p4, p3, p17, (71, .pt 2 0 2)] [p2, p10, p19, p8] kr ?_
      refine RunA.l1 10 kr rfl ?_
      refine RunS.only (n := 98) E0_ok [p7, (4, .st c3), p11, p5, p4, p3] [p2, p10, p1, p8] kr ?_
      exact RunA.done kr (Wk.sel2 [0, 2] kr kr kr ⟨⟨_, rfl, bu_mk⟩, ⟨_, rfl, bu_c kr kr⟩, trivial⟩ ⟨lu_hd (b' := 0) kr kr, lu kr kr, lu kr kr, lu kr kr, lu kr kr, lu kr kr, trivial⟩)
    ·let p20 : Nat × AV := (69, .v (.bool r40.2.2.2.2.1))
     refine RunS.only (n := 98) E0_ok [p7, (4, .st c3), p11, p5, p4, p3, (64, .v (.int .u8 r40.2.2.1)), p20] [p2, p10, p9, p8] kr ?_
     refine RunA.l1 2 kr rfl ?_
     refine RunS.only (n := 98) E0_ok [p7, (4, .st c3), p11, p5, p4, p3, (65, .v (.int .u8 (r40.2.2.1.tmod 2))), p20] [p2, p10, p9, p8] kr ?_
     refine RunA.l1 3 kr rfl ?_
     refine RunS.only (n := 98) E0_ok [p7, (4, .st c3), p11, p5, p4, p3, (66, .v (.int .i64 (wr .i64 (r40.2.2.1.tmod 2)))), p20] [p2, p10, p9, p8] kr ?_
     refine RunA.q 4 kr rfl ?_
     let p21 : Nat × AV := (67, .v (.int .i64 (wr .i64 (1 + (wr .i64 (r40.2.2.1.tmod 2))))))
     refine RunS.only (n := 98) E0_ok [p7, (4, .st c3), p11, p5, p4, p3, p21, p20] [p2, p10, p9, p8] kr ?_
     refine RunA.q 7 kr rfl ?_
     refine RunS.only (n := 98) E0_ok [p7, (4, .st c3), p11, p5, p4, p3, p21, p20, (70, .pt 2 0 4)] [p2, p10, p9, p8] kr ?_
     refine RunA.l1 8 kr rfl ?_
     let p22 : Option Blk := some ⟨5, 70, [.ag [.v (.int .u8 r40.2.2.2.2.2.2.1), .st r40.2.2.2.2.2.2.2.1, .v (.bool r40.2.2.2.2.2.2.2.2.1), .e0, .v (.int .i64 (wr .i64 (1 + (wr .i64 (r40.2.2.1.tmod 2)))))]], false⟩
     refine RunS.only (n := 98) E0_ok [p7, (4, .st c3), p11, p5, p4, p3, p20] [p2, p10, p22, p8] kr ?_
     refine RunA.q 9 kr rfl ?_
     refine RunS.only (n := 98) E0_ok [p7, (4, .st c3), p11, p5, p4, p3, p20, (71, .pt 2 0 2)] [p2, p10, p22, p8] kr ?_
     refine RunA.l1 10 kr rfl ?_
     refine RunS.only (n := 98) E0_ok [p7, (4, .st c3), p11, p5, p4, p3] [p2, p10, p1, p8] kr ?_
     exact RunA.done kr (Wk.sel2 [0, 2] kr kr kr ⟨⟨_, rfl, bu_mk⟩, ⟨_, rfl, bu_c kr kr⟩, trivial⟩ ⟨lu_hd (b' := 0) kr kr, lu kr kr, lu kr kr, lu kr kr, lu kr kr, lu kr kr, trivial⟩)
   ·let p23 : Nat × AV := (69, .v (.bool r40.2.2.2.2.1))
    refine RunS.only (n := 98) E0_ok [p7, (4, .st c3), p11, p5, p4, p3, (63, .pt 1 0 1), p23] [p2, p10, p9, p8] kr ?_
    refine RunA.l1 1 kr rfl ?_
    refine RunS.only (n := 98) E0_ok [p7, (4, .st c3), p11, p5, p4, p3, (64, .v (.int .u8 r40.2.2.1)), p23] [p2, p10, p9, p8] kr ?_
    refine RunA.l1 2 kr rfl ?_
    refine RunS.only (n := 98) E0_ok [p7, (4, .st c3), p11, p5, p4, p3, (65, .v (.int .u8 (r40.2.2.1.tmod 2))), p23] [p2, p10, p9, p8] kr ?_
    refine RunA.l1 3 kr rfl ?_
    refine RunS.only (n := 98) E0_ok [p7, (4, .st c3), p11, p5, p4, p3, (66, .v (.int .i64 (wr .i64 (r40.2.2.1.tmod 2)))), p23] [p2, p10, p9, p8] kr ?_
    refine RunA.q 4 kr rfl ?_
    let p24 : Nat × AV := (67, .v (.int .i64 (wr .i64 (1 + (wr .i64 (r40.2.2.1.tmod 2))))))
    refine RunS.only (n := 98) E0_ok [p7, (4, .st c3), p11, p5, p4, p3, p24, p23] [p2, p10, p9, p8] kr ?_
    refine RunA.q 7 kr rfl ?_
    refine RunS.only (n := 98) E0_ok [p7, (4, .st c3), p11, p5, p4, p3, p24, p23, (70, .pt 2 0 4)] [p2, p10, p9, p8] kr ?_
    refine RunA.l1 8 kr rfl ?_
    let p25 : Option Blk := some ⟨5, 70, [.ag [.v (.int .u8 r40.2.2.2.2.2.2.1), .st r40.2.2.2.2.2.2.2.1, .v (.bool r40.2.2.2.2.2.2.2.2.1), .e0, .v (.int .i64 (wr .i64 (1 + (wr .i64 (r40.2.2.1.tmod 2)))))]], false⟩
    refine RunS.only (n := 98) E0_ok [p7, (4, .st c3), p11, p5, p4, p3, p23] [p2, p10, p25, p8] kr ?_
    refine RunA.q 9 kr rfl ?_
    refine RunS.only (n := 98) E0_ok [p7, (4, .st c3), p11, p5, p4, p3, p23, (71, .pt 2 0 2)] [p2, p10, p25, p8] kr ?_
    refine RunA.l1 10 kr rfl ?_
    refine RunS.only (n := 98) E0_ok [p7, (4, .st c3), p11, p5, p4, p3] [p2, p10, p1, p8] kr ?_
    exact RunA.done kr (Wk.sel2 [0, 2] kr kr kr ⟨⟨_, rfl, bu_mk⟩, ⟨_, rfl, bu_c kr kr⟩, trivial⟩ ⟨lu_hd (b' := 0) kr kr, lu kr kr, lu kr kr, lu kr kr, lu kr kr, lu kr kr, trivial⟩)
  have hq := Option.some.inj h; subst hq
  exact ⟨rfl, (Wk.trans (s1 := ⟨Fr 98 [p7, (4, .st c3), p6, p5, p4, p3], [p2, p1]⟩) (Wk.fr kr) (Wk.trans (s1 := ⟨Fr 98 [p7, (4, .st c3), p6, p5, p4, p3], [p2, p1, none]⟩) Wk.none (Wk.trans (s1 := ⟨Fr 98 [p7, (4, .st c3), p6, p5, p4, p3], [p2, some ⟨5, 70, [.ag [.v (.int .u8 r40.2.2.2.2.2.2.1), .st r40.2.2.2.2.2.2.2.1, .v (.bool r40.2.2.2.2.1), .sl 1 ([].map cdS.enc), .v (.int .i64 (wr .i64 (1 + (wr .i64 (r40.2.2.1.tmod 2)))))]], false⟩, none]⟩) (Wk.frzG2 2 (.inr kr) ⟨.inr (.inl rfl), .inr (.inr ⟨_, _, _, _, rfl, rfl, ⟨(.inr ⟨_, _, rfl, rfl, ⟨.inl rfl, .inl rfl, .inl rfl, fz_e0, .inl rfl, trivial⟩⟩), trivial⟩⟩), .inl rfl, trivial⟩ ⟨⟨hd 0 (r40.1.map cdClause.enc), kr, (.inl (.inl rfl))⟩, ⟨.st c3, kr, (.inl (.inl rfl))⟩, ⟨.pt 1 0 0, kr, (.inl (.inl rfl))⟩, ⟨.sl 5 (((x0.take (mnI (x0.length : Int) 8).toNat).drop (0 : Int).toNat).map (cdA (csC (cdK .u8) (csC (cdK .u8) (csC (cdK .u8) (csC cdB (csE cdB))))) (fun _ => rfl)).enc), kr, (.inl (.inl rfl))⟩, ⟨.v (.int .i64 (((x0.take (mnI (x0.length : Int) 8).toNat).drop (0 : Int).toNat).length : Int)), kr, (.inl (.inl rfl))⟩, ⟨.v (.int .i64 c4), kr, (.inl (.inl rfl))⟩, trivial⟩) (Wk.sel2 [0, 1] kr kr kr ⟨⟨_, rfl, bu_mk⟩, ⟨_, rfl, bu_c kr kr⟩, trivial⟩ ⟨lu_hd (b' := 0) kr kr, lu kr kr, lu kr kr, lu kr kr, lu kr kr, lu kr kr, trivial⟩))))⟩
 ·rw [if_f hb1226] at h
  refine Sem.sq E0_ok [(3, hd 0 (r40.1.map cdClause.enc)), (4, .st c3), (6, .pt 1 0 0), (7, .pt 2 0 0), (8, hd 3 (r40.2.2.2.2.2.2.2.2.2.2.map cdS.enc)), (13, .sl 5 (((x0.take (mnI (x0.length : Int) 8).toNat).drop (0 : Int).toNat).map (cdA (csC (cdK .u8) (csC (cdK .u8) (csC (cdK .u8) (csC cdB (csE cdB))))) (fun _ => rfl)).enc)), (14, .v (.int .i64 (((x0.take (mnI (x0.length : Int) 8).toNat).drop (0 : Int).toNat).length : Int))), (15, .v (.int .i64 c4)), (53, .v (.int .u8 r40.2.2.2.2.2.2.1)), (72, .v (.bool (r40.2.2.2.2.2.2.1 == 5)))] [mk 5 70 (r40.1.map cdClause.enc), some ⟨5, 99, [.ag [.v (.int .u8 r40.2.1), .v (.int .u8 r40.2.2.1), .v (.int .u8 r40.2.2.2.1), .v (.bool r40.2.2.2.2.1), .v (.bool r40.2.2.2.2.2.1)]], false⟩, some ⟨5, 70, [.ag [.v (.int .u8 r40.2.2.2.2.2.2.1), .st r40.2.2.2.2.2.2.2.1, .v (.bool r40.2.2.2.2.2.2.2.2.1), .e0, .v (.int .i64 r40.2.2.2.2.2.2.2.2.2.1)]], false⟩, mk 1 9 (r40.2.2.2.2.2.2.2.2.2.2.map cdS.enc)] ?_
  obtain ⟨r2058, hr2058, h⟩ := Option.bind_eq_some_iff.1 h
  refine Sem.cut (law03_Made_j13_ok x0 c3 c4 r40 _ hr2058) ?_
  have hq := Option.some.inj h; subst hq
  exact ⟨rfl, (Wk.sel2 [0, 1] kr kr kr ⟨⟨_, rfl, bu_mk⟩, ⟨_, rfl, bu_c kr kr⟩, trivial⟩ ⟨lu_hd (b' := 0) kr kr, lu kr kr, lu kr kr, lu kr kr, lu kr kr, lu kr kr, trivial⟩)⟩
theorem law03_Made_j4_ok (x0 : (List (Int × Int × Int × Bool × Bool))) (c3 : (List UInt8)) (c4 : Int) (r40 : (List Clause) × Int × Int × Int × Bool × Bool × Int × (List UInt8) × Bool × Int × (List (List UInt8))) (r : ((List Clause) × (List UInt8) × Int × (List UInt8) × Bool × (List (List UInt8)) × Int)) (h : law03_Made_j4 x0 c3 c4 r40 = some r) : Sem E0 ⟨none, false⟩ (pc cb_law03_Made [1, 1, 1, 0, 1, 0, 0, 1, 1, 0, 0, 1, 1, 1, 1, 1, 0, 1, 0, 1]) ⟨Fr 98 [(3, hd 0 (r40.1.map cdClause.enc)), (4, .st c3), (6, .pt 1 0 0), (7, .pt 2 0 0), (8, hd 3 (r40.2.2.2.2.2.2.2.2.2.2.map cdS.enc)), (13, .sl 5 (((x0.take (mnI (x0.length : Int) 8).toNat).drop (0 : Int).toNat).map (cdA (csC (cdK .u8) (csC (cdK .u8) (csC (cdK .u8) (csC cdB (csE cdB))))) (fun _ => rfl)).enc)), (14, .v (.int .i64 (((x0.take (mnI (x0.length : Int) 8).toNat).drop (0 : Int).toNat).length : Int))), (15, .v (.int .i64 c4)), (53, .v (.int .u8 r40.2.2.2.2.2.2.1)), (54, .v (.bool (r40.2.2.2.2.2.2.1 == 1)))], [mk 5 70 (r40.1.map cdClause.enc), some ⟨5, 99, [.ag [.v (.int .u8 r40.2.1), .v (.int .u8 r40.2.2.1), .v (.int .u8 r40.2.2.2.1), .v (.bool r40.2.2.2.2.1), .v (.bool r40.2.2.2.2.2.1)]], false⟩, some ⟨5, 70, [.ag [.v (.int .u8 r40.2.2.2.2.2.2.1), .st r40.2.2.2.2.2.2.2.1, .v (.bool r40.2.2.2.2.2.2.2.2.1), .e0, .v (.int .i64 r40.2.2.2.2.2.2.2.2.2.1)]], false⟩, mk 1 9 (r40.2.2.2.2.2.2.2.2.2.2.map cdS.enc)]⟩ (fun e s => e = .normal ∧ Wk E0 s ⟨Fr 98 [(3, hd 0 (r.1.map cdClause.enc)), (4, .st r.2.1), (7, .pt 1 0 0), (13, .sl 5 (((x0.take (mnI (x0.length : Int) 8).toNat).drop (0 : Int).toNat).map (cdA (csC (cdK .u8) (csC (cdK .u8) (csC (cdK .u8) (csC cdB (csE cdB))))) (fun _ => rfl)).enc)), (14, .v (.int .i64 (((x0.take (mnI (x0.length : Int) 8).toNat).drop (0 : Int).toNat).length : Int))), (15, .v (.int .i64 c4))], [mk 5 70 (r.1.map cdClause.enc), some ⟨5, 70, [cdClause.enc r.2.2], false⟩]⟩) := by
 unfold law03_Made_j4 at h
 refine Sem.cond (b := (r40.2.2.2.2.2.2.1 == 1)) kr (fun hb41 => ?_) (fun hb41 => ?_)
 ·rw [if_pos hb41] at h
  refine Sem.seq ?_
  let p1 : Option Blk := some ⟨5, 70, [.ag [.v (.int .u8 r40.2.2.2.2.2.2.1), .st r40.2.2.2.2.2.2.2.1, .v (.bool r40.2.2.2.2.2.2.2.2.1), .sl 1 (r40.2.2.2.2.2.2.2.2.2.2.map cdS.enc), .v (.int .i64 r40.2.2.2.2.2.2.2.2.2.1)]], false⟩
  let p2 : Option Blk := mk 5 70 (r40.1.map cdClause.enc)
  let p3 : Nat × AV := (15, .v (.int .i64 c4))
  let p4 : Nat × AV := (14, .v (.int .i64 (((x0.take (mnI (x0.length : Int) 8).toNat).drop (0 : Int).toNat).length : Int)))
  let p5 : Nat × AV := (13, .sl 5 (((x0.take (mnI (x0.length : Int) 8).toNat).drop (0 : Int).toNat).map (cdA (csC (cdK .u8) (csC (cdK .u8) (csC (cdK .u8) (csC cdB (csE cdB))))) (fun _ => rfl)).enc))
  let p6 : Nat × AV := (8, .sl 1 (r40.2.2.2.2.2.2.2.2.2.2.map cdS.enc))
  let p7 : Nat × AV := (3, hd 0 (r40.1.map cdClause.enc))
  refine Sem.runS (s1 := ⟨Fr 98 [p7, (7, .pt 1 0 0), p6, p5, p4, p3], [p2, p1]⟩) ?_ ?_
  ·let p8 : Option Blk := some ⟨5, 70, [.ag [.v (.int .u8 r40.2.2.2.2.2.2.1), .st r40.2.2.2.2.2.2.2.1, .v (.bool r40.2.2.2.2.2.2.2.2.1), .e0, .v (.int .i64 r40.2.2.2.2.2.2.2.2.2.1)]], false⟩
   let p9 : Option Blk := some ⟨5, 99, [.ag [.v (.int .u8 r40.2.1), .v (.int .u8 r40.2.2.1), .v (.int .u8 r40.2.2.2.1), .v (.bool r40.2.2.2.2.1), .v (.bool r40.2.2.2.2.2.1)]], false⟩
   refine RunS.segF (n := 98) E0_ok 2 [p7, (7, .pt 2 0 0), (8, hd 3 (r40.2.2.2.2.2.2.2.2.2.2.map cdS.enc)), p5, p4, p3, (56, hd 3 (r40.2.2.2.2.2.2.2.2.2.2.map cdS.enc)), (57, .pt 2 0 3)] [p2, p9, p8, mk 1 9 (r40.2.2.2.2.2.2.2.2.2.2.map cdS.enc)] kr ?_
   refine RunS.wk (s1 := ⟨Fr 98 [p7, (7, .pt 2 0 0), p6, p5, p4, p3, (56, .sl 1 (r40.2.2.2.2.2.2.2.2.2.2.map cdS.enc)), (57, .pt 2 0 3)], [p2, p9, p8, none]⟩) (Wk.frzG 3 (.inl kr) ⟨.inr (.inl rfl), .inr (.inr ⟨_, _, _, _, rfl, rfl, ⟨.inl rfl, trivial⟩⟩), .inr (.inr ⟨_, _, _, _, rfl, rfl, ⟨.inl rfl, trivial⟩⟩), .inl rfl, trivial⟩ ⟨⟨hd 0 (r40.1.map cdClause.enc), kr, .inl rfl⟩, ⟨.pt 2 0 0, kr, .inl rfl⟩, ⟨hd 3 (r40.2.2.2.2.2.2.2.2.2.2.map cdS.enc), kr, fz_hd (t := 9) kr enc_ok⟩, ⟨.sl 5 (((x0.take (mnI (x0.length : Int) 8).toNat).drop (0 : Int).toNat).map (cdA (csC (cdK .u8) (csC (cdK .u8) (csC (cdK .u8) (csC cdB (csE cdB))))) (fun _ => rfl)).enc), kr, .inl rfl⟩, ⟨.v (.int .i64 (((x0.take (mnI (x0.length : Int) 8).toNat).drop (0 : Int).toNat).length : Int)), kr, .inl rfl⟩, ⟨.v (.int .i64 c4), kr, .inl rfl⟩, ⟨hd 3 (r40.2.2.2.2.2.2.2.2.2.2.map cdS.enc), kr, fz_hd (t := 9) kr enc_ok⟩, ⟨.pt 2 0 3, kr, .inl rfl⟩, trivial⟩) ?_
   refine RunS.segF (n := 98) E0_ok 1 [p7, (7, .pt 2 0 0), p6, p5, p4, p3] [p2, p9, p1, none] kr ?_
   exact RunS.done rfl (Wk.sel2 [0, 2] kr kr kr ⟨⟨_, rfl, bu_mk⟩, ⟨_, rfl, bu_c kr kr⟩, trivial⟩ ⟨lu_hd (b' := 0) kr kr, lu kr kr, lu kr kr, lu kr kr, lu kr kr, lu kr kr, trivial⟩)
  obtain ⟨v42, hv42, h⟩ := Option.bind_eq_some_iff.1 h
  refine Sem.runS (s1 := ⟨Fr 98 [p7, (4, .st v42), (7, .pt 1 0 0), p5, p4, p3], [p2, p1]⟩) ?_ ?_
  ·refine RunS.segF (n := 98) E0_ok 1 [p7, (7, .pt 1 0 0), p5, p4, p3, (58, .sl 1 (r40.2.2.2.2.2.2.2.2.2.2.map cdS.enc))] [p2, p1] kr ?_
   refine RunS.one E0_ok 0 rfl (op_q (wantedA_none rfl) rfl (q_indexAddr (a := .sl 1 (r40.2.2.2.2.2.2.2.2.2.2.map cdS.enc)) (b := .v (.int .i64 0)) kr kr (ix_sl (e := cdS.enc) (el := 9) (k := 1) (ki := .i64) kr kr hv42))) ?_
   exact RunS.last E0_ok
  have hq := Option.some.inj h; subst hq
  exact ⟨rfl, (Wk.sel2 [0, 1] kr kr kr ⟨⟨_, rfl, bu_mk⟩, ⟨_, rfl, bu_c kr kr⟩, trivial⟩ ⟨lu_hd (b' := 0) kr kr, lu kr kr, lu kr kr, lu kr kr, lu kr kr, lu kr kr, trivial⟩)⟩
 ·rw [if_f hb41] at h
  refine Sem.sq E0_ok [(3, hd 0 (r40.1.map cdClause.enc)), (4, .st c3), (6, .pt 1 0 0), (7, .pt 2 0 0), (8, hd 3 (r40.2.2.2.2.2.2.2.2.2.2.map cdS.enc)), (13, .sl 5 (((x0.take (mnI (x0.length : Int) 8).toNat).drop (0 : Int).toNat).map (cdA (csC (cdK .u8) (csC (cdK .u8) (csC (cdK .u8) (csC cdB (csE cdB))))) (fun _ => rfl)).enc)), (14, .v (.int .i64 (((x0.take (mnI (x0.length : Int) 8).toNat).drop (0 : Int).toNat).length : Int))), (15, .v (.int .i64 c4)), (53, .v (.int .u8 r40.2.2.2.2.2.2.1)), (61, .v (.bool (r40.2.2.2.2.2.2.1 == 4)))] [mk 5 70 (r40.1.map cdClause.enc), some ⟨5, 99, [.ag [.v (.int .u8 r40.2.1), .v (.int .u8 r40.2.2.1), .v (.int .u8 r40.2.2.2.1), .v (.bool r40.2.2.2.2.1), .v (.bool r40.2.2.2.2.2.1)]], false⟩, some ⟨5, 70, [.ag [.v (.int .u8 r40.2.2.2.2.2.2.1), .st r40.2.2.2.2.2.2.2.1, .v (.bool r40.2.2.2.2.2.2.2.2.1), .e0, .v (.int .i64 r40.2.2.2.2.2.2.2.2.2.1)]], false⟩, mk 1 9 (r40.2.2.2.2.2.2.2.2.2.2.map cdS.enc)] ?_
  obtain ⟨r2059, hr2059, h⟩ := Option.bind_eq_some_iff.1 h
  refine Sem.cut (law03_Made_j5_ok x0 c3 c4 r40 _ hr2059) ?_
  have hq := Option.some.inj h; subst hq
  exact ⟨rfl, (Wk.sel2 [0, 1] kr kr kr ⟨⟨_, rfl, bu_mk⟩, ⟨_, rfl, bu_c kr kr⟩, trivial⟩ ⟨lu_hd (b' := 0) kr kr, lu kr kr, lu kr kr, lu kr kr, lu kr kr, lu kr kr, trivial⟩)⟩
theorem law03_Made_l1_ok (x0 : (List (Int × Int × Int × Bool × Bool))) : ∀ (f : Nat) (c2 : (List Clause)) (c3 : (List UInt8)) (c4 : Int) (r : ((List Clause))), law03_Made_l1 x0 f c2 c3 c4 = some r → SemN E0 ⟨none, false⟩ (pc cb_law03_Made [1, 1, 1, 0, 1, 0, 0]) f ⟨Fr 98 [(3, hd 0 (c2.map cdClause.enc)), (4, .st c3), (13, .sl 5 (((x0.take (mnI (x0.length : Int) 8).toNat).drop (0 : Int).toNat).map (cdA (csC (cdK .u8) (csC (cdK .u8) (csC (cdK .u8) (csC cdB (csE cdB))))) (fun _ => rfl)).enc)), (14, .v (.int .i64 (((x0.take (mnI (x0.length : Int) 8).toNat).drop (0 : Int).toNat).length : Int))), (15, .v (.int .i64 c4))], [mk 5 70 (c2.map cdClause.enc)]⟩ (fun e s => e = (.exit 0) ∧ Wk E0 s ⟨Fr 98 [(3, hd 0 (r.map cdClause.enc))], [mk 5 70 (r.map cdClause.enc)]⟩) := by
 intro f
 induction f with
 | zero => intro c2 c3 c4 r h; cases h
 | succ f ih0 =>
  intro c2 c3 c4 r h
  have ih := fun (c2 : (List Clause)) (c3 : (List UInt8)) (c4 : Int) => ih0 c2 c3 c4 r
  unfold law03_Made_l1 at h
  refine SemN.succ ?_
  refine Sem.sq E0_ok [(3, hd 0 (c2.map cdClause.enc)), (4, .st c3), (13, .sl 5 (((x0.take (mnI (x0.length : Int) 8).toNat).drop (0 : Int).toNat).map (cdA (csC (cdK .u8) (csC (cdK .u8) (csC (cdK .u8) (csC cdB (csE cdB))))) (fun _ => rfl)).enc)), (14, .v (.int .i64 (((x0.take (mnI (x0.length : Int) 8).toNat).drop (0 : Int).toNat).length : Int))), (15, .v (.int .i64 c4)), (16, .v (.bool (decide (c4 < (((x0.take (mnI (x0.length : Int) 8).toNat).drop (0 : Int).toNat).length : Int)))))] [mk 5 70 (c2.map cdClause.enc)] ?_
  refine Sem.seq ?_
  refine Sem.cond (b := (decide (c4 < (((x0.take (mnI (x0.length : Int) 8).toNat).drop (0 : Int).toNat).length : Int)))) kr (fun hb5 => ?_) (fun hb5 => ?_)
  ·rw [if_pos hb5] at h
   refine Sem.skip ?_
   refine Sem.seq ?_
   refine Sem.block ?_
   refine Sem.seq ?_
   obtain ⟨v6, hv6, h⟩ := Option.bind_eq_some_iff.1 h
   refine Sem.runS (s1 := ⟨Fr 98 [(3, hd 0 (c2.map cdClause.enc)), (4, .st c3), (6, .pt 1 0 0), (13, .sl 5 (((x0.take (mnI (x0.length : Int) 8).toNat).drop (0 : Int).toNat).map (cdA (csC (cdK .u8) (csC (cdK .u8) (csC (cdK .u8) (csC cdB (csE cdB))))) (fun _ => rfl)).enc)), (14, .v (.int .i64 (((x0.take (mnI (x0.length : Int) 8).toNat).drop (0 : Int).toNat).length : Int))), (15, .v (.int .i64 c4))], [mk 5 70 (c2.map cdClause.enc), some ⟨5, 99, [.ag [.v (.int .u8 v6.1), .v (.int .u8 v6.2.1), .v (.int .u8 v6.2.2.1), .v (.bool v6.2.2.2.1), .v (.bool v6.2.2.2.2)]], false⟩]⟩) ?_ ?_
   ·refine RunS.one E0_ok 0 rfl (op_q (wantedA_none rfl) rfl (q_indexAddr (a := .sl 5 (((x0.take (mnI (x0.length : Int) 8).toNat).drop (0 : Int).toNat).map (cdA (csC (cdK .u8) (csC (cdK .u8) (csC (cdK .u8) (csC cdB (csE cdB))))) (fun _ => rfl)).enc)) (b := .v (.int .i64 c4)) kr kr (ix_sl (e := (cdA (csC (cdK .u8) (csC (cdK .u8) (csC (cdK .u8) (csC cdB (csE cdB))))) (fun _ => rfl)).enc) (el := 99) (k := 5) (ki := .i64) kr kr hv6))) ?_
    exact RunS.last E0_ok
   refine Sem.sq E0_ok [(3, hd 0 (c2.map cdClause.enc)), (4, .st c3), (6, .pt 1 0 0), (7, .pt 2 0 0), (13, .sl 5 (((x0.take (mnI (x0.length : Int) 8).toNat).drop (0 : Int).toNat).map (cdA (csC (cdK .u8) (csC (cdK .u8) (csC (cdK .u8) (csC cdB (csE cdB))))) (fun _ => rfl)).enc)), (14, .v (.int .i64 (((x0.take (mnI (x0.length : Int) 8).toNat).drop (0 : Int).toNat).length : Int))), (15, .v (.int .i64 c4))] [mk 5 70 (c2.map cdClause.enc), some ⟨5, 99, [.ag [.v (.int .u8 v6.1), .v (.int .u8 v6.2.1), .v (.int .u8 v6.2.2.1), .v (.bool v6.2.2.2.1), .v (.bool v6.2.2.2.2)]], false⟩, some ⟨5, 70, [.ag [.v (.int .u8 (wr .u8 (1 + (v6.1.tmod 10)))), .st [], .v (.bool false), .e0, .v (.int .i64 0)]], false⟩] ?_
   refine Sem.seq ?_
   by_cases hk7 : (cutOk (v6.2.2.1.tmod 4) (([97, 98, 99, 100] : List UInt8).length : Int) ([97, 98, 99, 100] : List UInt8).length) = true
   case neg => rw [if_neg hk7] at h; cases h
   rw [if_pos hk7] at h
   by_cases hk8 : (cutOk 0 (1 : Int) ((([97, 98, 99, 100] : List UInt8).take (([97, 98, 99, 100] : List UInt8).length : Int).toNat).drop (v6.2.2.1.tmod 4).toNat).length) = true
   case neg => rw [if_neg hk8] at h; cases h
   rw [if_pos hk8] at h
   refine Sem.runS (s1 := ⟨Fr 98 [(3, hd 0 (c2.map cdClause.enc)), (4, .st c3), (6, .pt 1 0 0), (7, .pt 2 0 0), (8, hd 3 ([((((([97, 98, 99, 100] : List UInt8).take (([97, 98, 99, 100] : List UInt8).length : Int).toNat).drop (v6.2.2.1.tmod 4).toNat).take (1 : Int).toNat).drop (0 : Int).toNat)].map cdS.enc)), (13, .sl 5 (((x0.take (mnI (x0.length : Int) 8).toNat).drop (0 : Int).toNat).map (cdA (csC (cdK .u8) (csC (cdK .u8) (csC (cdK .u8) (csC cdB (csE cdB))))) (fun _ => rfl)).enc)), (14, .v (.int .i64 (((x0.take (mnI (x0.length : Int) 8).toNat).drop (0 : Int).toNat).length : Int))), (15, .v (.int .i64 c4))], [mk 5 70 (c2.map cdClause.enc), some ⟨5, 99, [.ag [.v (.int .u8 v6.1), .v (.int .u8 v6.2.1), .v (.int .u8 v6.2.2.1), .v (.bool v6.2.2.2.1), .v (.bool v6.2.2.2.2)]], false⟩, some ⟨5, 70, [.ag [.v (.int .u8 (wr .u8 (1 + (v6.1.tmod 10)))), .st [], .v (.bool false), .e0, .v (.int .i64 0)]], false⟩, mk 1 9 ([((((([97, 98, 99, 100] : List UInt8).take (([97, 98, 99, 100] : List UInt8).length : Int).toNat).drop (v6.2.2.1.tmod 4).toNat).take (1 : Int).toNat).drop (0 : Int).toNat)].map cdS.enc)]⟩) ?_ ?_
   ·refine RunS.segF (n := 98) E0_ok 3 [(3, hd 0 (c2.map cdClause.enc)), (4, .st c3), (6, .pt 1 0 0), (7, .pt 2 0 0), (13, .sl 5 (((x0.take (mnI (x0.length : Int) 8).toNat).drop (0 : Int).toNat).map (cdA (csC (cdK .u8) (csC (cdK .u8) (csC (cdK .u8) (csC cdB (csE cdB))))) (fun _ => rfl)).enc)), (14, .v (.int .i64 (((x0.take (mnI (x0.length : Int) 8).toNat).drop (0 : Int).toNat).length : Int))), (15, .v (.int .i64 c4)), (26, .v (.int .u8 (v6.2.2.1.tmod 4)))] [mk 5 70 (c2.map cdClause.enc), some ⟨5, 99, [.ag [.v (.int .u8 v6.1), .v (.int .u8 v6.2.1), .v (.int .u8 v6.2.2.1), .v (.bool v6.2.2.2.1), .v (.bool v6.2.2.2.2)]], false⟩, some ⟨5, 70, [.ag [.v (.int .u8 (wr .u8 (1 + (v6.1.tmod 10)))), .st [], .v (.bool false), .e0, .v (.int .i64 0)]], false⟩] kr ?_
    refine RunS.one E0_ok 0 rfl (op_q (wantedA_none rfl) rfl (q_slice (a := .st [97, 98, 99, 100]) (l := (some (.v (.int .u8 (v6.2.2.1.tmod 4))))) (u := none) (m := none) kr kr kr rfl (slice_st (bs := [97, 98, 99, 100]) (lo := (v6.2.2.1.tmod 4)) (hi := (([97, 98, 99, 100] : List UInt8).length : Int)) kr (natB_i (cut_lo hk7)) rfl hk7))) ?_
    refine RunS.one E0_ok 0 rfl (op_q (wantedA_none rfl) rfl (q_slice (a := .st ((([97, 98, 99, 100] : List UInt8).take (([97, 98, 99, 100] : List UInt8).length : Int).toNat).drop (v6.2.2.1.tmod 4).toNat)) (l := none) (u := (some (.v (.int .i64 1)))) (m := none) kr kr kr rfl (slice_st (bs := ((([97, 98, 99, 100] : List UInt8).take (([97, 98, 99, 100] : List UInt8).length : Int).toNat).drop (v6.2.2.1.tmod 4).toNat)) (lo := 0) (hi := (1 : Int)) kr rfl (natB_i (cut_hi hk8)) hk8))) ?_
    exact RunS.last E0_ok
   refine Sem.seq ?_
   refine Sem.sq E0_ok [(3, hd 0 (c2.map cdClause.enc)), (4, .st c3), (6, .pt 1 0 0), (7, .pt 2 0 0), (8, hd 3 ([((((([97, 98, 99, 100] : List UInt8).take (([97, 98, 99, 100] : List UInt8).length : Int).toNat).drop (v6.2.2.1.tmod 4).toNat).take (1 : Int).toNat).drop (0 : Int).toNat)].map cdS.enc)), (13, .sl 5 (((x0.take (mnI (x0.length : Int) 8).toNat).drop (0 : Int).toNat).map (cdA (csC (cdK .u8) (csC (cdK .u8) (csC (cdK .u8) (csC cdB (csE cdB))))) (fun _ => rfl)).enc)), (14, .v (.int .i64 (((x0.take (mnI (x0.length : Int) 8).toNat).drop (0 : Int).toNat).length : Int))), (15, .v (.int .i64 c4)), (33, .v (.bool ((andI .u8 v6.2.2.1 4) != 0)))] [mk 5 70 (c2.map cdClause.enc), some ⟨5, 99, [.ag [.v (.int .u8 v6.1), .v (.int .u8 v6.2.1), .v (.int .u8 v6.2.2.1), .v (.bool v6.2.2.2.1), .v (.bool v6.2.2.2.2)]], false⟩, some ⟨5, 70, [.ag [.v (.int .u8 (wr .u8 (1 + (v6.1.tmod 10)))), .st [], .v (.bool false), .e0, .v (.int .i64 0)]], false⟩, mk 1 9 ([((((([97, 98, 99, 100] : List UInt8).take (([97, 98, 99, 100] : List UInt8).length : Int).toNat).drop (v6.2.2.1.tmod 4).toNat).take (1 : Int).toNat).drop (0 : Int).toNat)].map cdS.enc)] ?_
   obtain ⟨r14, hr14, h⟩ := Option.bind_eq_some_iff.1 h
   refine Sem.cut (law03_Made_j2_ok x0 c2 c3 c4 v6 _ hr14) ?_
   refine Sem.seq ?_
   refine Sem.seq ?_
   obtain ⟨j27, hj27, h⟩ := Option.bind_eq_some_iff.1 h
   refine Sem.runS (s1 := ⟨Fr 98 [(3, hd 0 (j27.1.map cdClause.enc)), (4, .st c3), (6, .pt 1 0 0), (7, .pt 2 0 0), (8, hd 3 (j27.2.2.2.2.2.2.2.2.2.2.1.map cdS.enc)), (13, .sl 5 (((x0.take (mnI (x0.length : Int) 8).toNat).drop (0 : Int).toNat).map (cdA (csC (cdK .u8) (csC (cdK .u8) (csC (cdK .u8) (csC cdB (csE cdB))))) (fun _ => rfl)).enc)), (14, .v (.int .i64 (((x0.take (mnI (x0.length : Int) 8).toNat).drop (0 : Int).toNat).length : Int))), (15, .v (.int .i64 c4)), (49, .v (.bool j27.2.2.2.2.2.2.2.2.2.2.2))], [mk 5 70 (j27.1.map cdClause.enc), some ⟨5, 99, [.ag [.v (.int .u8 j27.2.1), .v (.int .u8 j27.2.2.1), .v (.int .u8 j27.2.2.2.1), .v (.bool j27.2.2.2.2.1), .v (.bool j27.2.2.2.2.2.1)]], false⟩, some ⟨5, 70, [.ag [.v (.int .u8 j27.2.2.2.2.2.2.1), .st j27.2.2.2.2.2.2.2.1, .v (.bool j27.2.2.2.2.2.2.2.2.1), .e0, .v (.int .i64 j27.2.2.2.2.2.2.2.2.2.1)]], false⟩, mk 1 9 (j27.2.2.2.2.2.2.2.2.2.2.1.map cdS.enc)]⟩) ?_ ?_
   ·refine RunS.segF (n := 98) E0_ok 3 [(3, hd 0 (c2.map cdClause.enc)), (4, .st c3), (6, .pt 1 0 0), (7, .pt 2 0 0), (8, hd 3 (r14.map cdS.enc)), (13, .sl 5 (((x0.take (mnI (x0.length : Int) 8).toNat).drop (0 : Int).toNat).map (cdA (csC (cdK .u8) (csC (cdK .u8) (csC (cdK .u8) (csC cdB (csE cdB))))) (fun _ => rfl)).enc)), (14, .v (.int .i64 (((x0.take (mnI (x0.length : Int) 8).toNat).drop (0 : Int).toNat).length : Int))), (15, .v (.int .i64 c4)), (45, .v (.bool v6.2.2.2.2))] [mk 5 70 (c2.map cdClause.enc), some ⟨5, 99, [.ag [.v (.int .u8 v6.1), .v (.int .u8 v6.2.1), .v (.int .u8 v6.2.2.1), .v (.bool v6.2.2.2.1), .v (.bool v6.2.2.2.2)]], false⟩, some ⟨5, 70, [.ag [.v (.int .u8 (wr .u8 (1 + (v6.1.tmod 10)))), .st [], .v (.bool false), .e0, .v (.int .i64 0)]], false⟩, mk 1 9 (r14.map cdS.enc)] kr ?_
    rcases Bool.eq_false_or_eq_true v6.2.2.2.2 with hc2062 | hc2062
    ·rw [if_pos hc2062] at hj27
     rw [hc2062]
     refine RunS.segF (n := 98) E0_ok 4 [(3, hd 0 (c2.map cdClause.enc)), (4, .st c3), (6, .pt 1 0 0), (7, .pt 2 0 0), (8, hd 3 (r14.map cdS.enc)), (13, .sl 5 (((x0.take (mnI (x0.length : Int) 8).toNat).drop (0 : Int).toNat).map (cdA (csC (cdK .u8) (csC (cdK .u8) (csC (cdK .u8) (csC cdB (csE cdB))))) (fun _ => rfl)).enc)), (14, .v (.int .i64 (((x0.take (mnI (x0.length : Int) 8).toNat).drop (0 : Int).toNat).length : Int))), (15, .v (.int .i64 c4)), (46, .pt 2 0 0), (47, .v (.int .u8 (wr .u8 (1 + (v6.1.tmod 10))))), (48, .v (.bool ((wr .u8 (1 + (v6.1.tmod 10))) != 1))), (49, .v (.bool ((wr .u8 (1 + (v6.1.tmod 10))) != 1)))] [mk 5 70 (c2.map cdClause.enc), some ⟨5, 99, [.ag [.v (.int .u8 v6.1), .v (.int .u8 v6.2.1), .v (.int .u8 v6.2.2.1), .v (.bool v6.2.2.2.1), .v (.bool true)]], false⟩, some ⟨5, 70, [.ag [.v (.int .u8 (wr .u8 (1 + (v6.1.tmod 10)))), .st [], .v (.bool false), .e0, .v (.int .i64 0)]], false⟩, mk 1 9 (r14.map cdS.enc)] kr ?_
     have hq := Option.some.inj hj27; subst hq
     exact RunS.done rfl (Wk.sel2 [0, 1, 2, 3] kr kr kr ⟨⟨_, rfl, bu_mk⟩, ⟨_, rfl, bu_c kr kr⟩, ⟨_, rfl, bu_c kr kr⟩, ⟨_, rfl, bu_mk⟩, trivial⟩ ⟨lu_hd (b' := 0) kr kr, lu kr kr, lu kr kr, lu kr kr, lu_hd (b' := 3) kr kr, lu kr kr, lu kr kr, lu kr kr, lu kr kr, trivial⟩)
    ·rw [if_f hc2062] at hj27
     rw [hc2062]
     refine RunS.segF (n := 98) E0_ok 4 [(3, hd 0 (c2.map cdClause.enc)), (4, .st c3), (6, .pt 1 0 0), (7, .pt 2 0 0), (8, hd 3 (r14.map cdS.enc)), (13, .sl 5 (((x0.take (mnI (x0.length : Int) 8).toNat).drop (0 : Int).toNat).map (cdA (csC (cdK .u8) (csC (cdK .u8) (csC (cdK .u8) (csC cdB (csE cdB))))) (fun _ => rfl)).enc)), (14, .v (.int .i64 (((x0.take (mnI (x0.length : Int) 8).toNat).drop (0 : Int).toNat).length : Int))), (15, .v (.int .i64 c4)), (46, .tp []), (47, .tp []), (48, .tp []), (49, .v (.bool false))] [mk 5 70 (c2.map cdClause.enc), some ⟨5, 99, [.ag [.v (.int .u8 v6.1), .v (.int .u8 v6.2.1), .v (.int .u8 v6.2.2.1), .v (.bool v6.2.2.2.1), .v (.bool false)]], false⟩, some ⟨5, 70, [.ag [.v (.int .u8 (wr .u8 (1 + (v6.1.tmod 10)))), .st [], .v (.bool false), .e0, .v (.int .i64 0)]], false⟩, mk 1 9 (r14.map cdS.enc)] kr ?_
     have hq := Option.some.inj hj27; subst hq
     exact RunS.done rfl (Wk.sel2 [0, 1, 2, 3] kr kr kr ⟨⟨_, rfl, bu_mk⟩, ⟨_, rfl, bu_c kr kr⟩, ⟨_, rfl, bu_c kr kr⟩, ⟨_, rfl, bu_mk⟩, trivial⟩ ⟨lu_hd (b' := 0) kr kr, lu kr kr, lu kr kr, lu kr kr, lu_hd (b' := 3) kr kr, lu kr kr, lu kr kr, lu kr kr, lu kr kr, trivial⟩)
   obtain ⟨r40, hr40, h⟩ := Option.bind_eq_some_iff.1 h
   refine Sem.cut (law03_Made_j3_ok x0 c3 c4 j27 _ hr40) ?_
   refine Sem.seq ?_
   refine Sem.sq E0_ok [(3, hd 0 (r40.1.map cdClause.enc)), (4, .st c3), (6, .pt 1 0 0), (7, .pt 2 0 0), (8, hd 3 (r40.2.2.2.2.2.2.2.2.2.2.map cdS.enc)), (13, .sl 5 (((x0.take (mnI (x0.length : Int) 8).toNat).drop (0 : Int).toNat).map (cdA (csC (cdK .u8) (csC (cdK .u8) (csC (cdK .u8) (csC cdB (csE cdB))))) (fun _ => rfl)).enc)), (14, .v (.int .i64 (((x0.take (mnI (x0.length : Int) 8).toNat).drop (0 : Int).toNat).length : Int))), (15, .v (.int .i64 c4)), (53, .v (.int .u8 r40.2.2.2.2.2.2.1))] [mk 5 70 (r40.1.map cdClause.enc), some ⟨5, 99, [.ag [.v (.int .u8 r40.2.1), .v (.int .u8 r40.2.2.1), .v (.int .u8 r40.2.2.2.1), .v (.bool r40.2.2.2.2.1), .v (.bool r40.2.2.2.2.2.1)]], false⟩, some ⟨5, 70, [.ag [.v (.int .u8 r40.2.2.2.2.2.2.1), .st r40.2.2.2.2.2.2.2.1, .v (.bool r40.2.2.2.2.2.2.2.2.1), .e0, .v (.int .i64 r40.2.2.2.2.2.2.2.2.2.1)]], false⟩, mk 1 9 (r40.2.2.2.2.2.2.2.2.2.2.map cdS.enc)] ?_
   refine Sem.block ?_
   refine Sem.sq E0_ok [(3, hd 0 (r40.1.map cdClause.enc)), (4, .st c3), (6, .pt 1 0 0), (7, .pt 2 0 0), (8, hd 3 (r40.2.2.2.2.2.2.2.2.2.2.map cdS.enc)), (13, .sl 5 (((x0.take (mnI (x0.length : Int) 8).toNat).drop (0 : Int).toNat).map (cdA (csC (cdK .u8) (csC (cdK .u8) (csC (cdK .u8) (csC cdB (csE cdB))))) (fun _ => rfl)).enc)), (14, .v (.int .i64 (((x0.take (mnI (x0.length : Int) 8).toNat).drop (0 : Int).toNat).length : Int))), (15, .v (.int .i64 c4)), (53, .v (.int .u8 r40.2.2.2.2.2.2.1)), (54, .v (.bool (r40.2.2.2.2.2.2.1 == 1)))] [mk 5 70 (r40.1.map cdClause.enc), some ⟨5, 99, [.ag [.v (.int .u8 r40.2.1), .v (.int .u8 r40.2.2.1), .v (.int .u8 r40.2.2.2.1), .v (.bool r40.2.2.2.2.1), .v (.bool r40.2.2.2.2.2.1)]], false⟩, some ⟨5, 70, [.ag [.v (.int .u8 r40.2.2.2.2.2.2.1), .st r40.2.2.2.2.2.2.2.1, .v (.bool r40.2.2.2.2.2.2.2.2.1), .e0, .v (.int .i64 r40.2.2.2.2.2.2.2.2.2.1)]], false⟩, mk 1 9 (r40.2.2.2.2.2.2.2.2.2.2.map cdS.enc)] ?_
   obtain ⟨r2060, hr2060, h⟩ := Option.bind_eq_some_iff.1 h
   refine Sem.cut (law03_Made_j4_ok x0 c3 c4 r40 _ hr2060) ?_
   by_cases hk2061 : (capOk 64 (r2060.1.length + 1)) = true
   case neg => rw [if_neg hk2061] at h; cases h
   rw [if_pos hk2061] at h
   refine Sem.runS (s1 := ⟨Fr 98 [(3, hd 0 ((r2060.1 ++ [r2060.2.2]).map cdClause.enc)), (4, .st r2060.2.1), (13, .sl 5 (((x0.take (mnI (x0.length : Int) 8).toNat).drop (0 : Int).toNat).map (cdA (csC (cdK .u8) (csC (cdK .u8) (csC (cdK .u8) (csC cdB (csE cdB))))) (fun _ => rfl)).enc)), (14, .v (.int .i64 (((x0.take (mnI (x0.length : Int) 8).toNat).drop (0 : Int).toNat).length : Int))), (15, .v (.int .i64 c4))], [mk 5 70 ((r2060.1 ++ [r2060.2.2]).map cdClause.enc)]⟩) ?_ ?_
   ·refine RunS.segF (n := 98) E0_ok 3 [(4, .st r2060.2.1), (13, .sl 5 (((x0.take (mnI (x0.length : Int) 8).toNat).drop (0 : Int).toNat).map (cdA (csC (cdK .u8) (csC (cdK .u8) (csC (cdK .u8) (csC cdB (csE cdB))))) (fun _ => rfl)).enc)), (14, .v (.int .i64 (((x0.take (mnI (x0.length : Int) 8).toNat).drop (0 : Int).toNat).length : Int))), (15, .v (.int .i64 c4)), (92, hd 0 (r2060.1.map cdClause.enc)), (94, hd 2 ([r2060.2.2].map cdClause.enc))] [mk 5 70 (r2060.1.map cdClause.enc), some ⟨5, 70, [cdClause.enc r2060.2.2], false⟩, mk 5 70 ([r2060.2.2].map cdClause.enc)] kr ?_
    refine RunS.one E0_ok 0 rfl (op_w (wantedA_none rfl) rfl kr kr (w_append (a := hd 0 (r2060.1.map cdClause.enc)) (b := hd 2 ([r2060.2.2].map cdClause.enc)) kr kr (append_B (c := cdClause) (xs := r2060.1) (vs := [r2060.2.2]) (k := 5) (bytes := 64) (el := 70) kr kr (elems_hd (t := 70) kr) (List.cons_ne_nil _ _) kr hk2061))) ?_
    refine RunS.segF (n := 98) E0_ok 1 [(3, hd 3 ((r2060.1 ++ [r2060.2.2]).map cdClause.enc)), (4, .st r2060.2.1), (13, .sl 5 (((x0.take (mnI (x0.length : Int) 8).toNat).drop (0 : Int).toNat).map (cdA (csC (cdK .u8) (csC (cdK .u8) (csC (cdK .u8) (csC cdB (csE cdB))))) (fun _ => rfl)).enc)), (14, .v (.int .i64 (((x0.take (mnI (x0.length : Int) 8).toNat).drop (0 : Int).toNat).length : Int))), (15, .v (.int .i64 c4))] [none, some ⟨5, 70, [cdClause.enc r2060.2.2], false⟩, mk 5 70 ([r2060.2.2].map cdClause.enc), mk 5 70 ((r2060.1 ++ [r2060.2.2]).map cdClause.enc)] kr ?_
    exact RunS.done rfl (Wk.sel2 [3] kr kr kr ⟨⟨_, rfl, bu_mk⟩, trivial⟩ ⟨lu_hd (b' := 3) kr kr, lu kr kr, lu kr kr, lu kr kr, lu kr kr, trivial⟩)
   refine Sem.rg E0_ok [(3, hd 0 ((r2060.1 ++ [r2060.2.2]).map cdClause.enc)), (4, .st r2060.2.1), (13, .sl 5 (((x0.take (mnI (x0.length : Int) 8).toNat).drop (0 : Int).toNat).map (cdA (csC (cdK .u8) (csC (cdK .u8) (csC (cdK .u8) (csC cdB (csE cdB))))) (fun _ => rfl)).enc)), (14, .v (.int .i64 (((x0.take (mnI (x0.length : Int) 8).toNat).drop (0 : Int).toNat).length : Int))), (15, .v (.int .i64 (wr .i64 (c4 + 1))))] [mk 5 70 ((r2060.1 ++ [r2060.2.2]).map cdClause.enc)] ?_
   exact SemN.wk (s1 := ⟨Fr 98 [(3, hd 0 ((r2060.1 ++ [r2060.2.2]).map cdClause.enc)), (4, .st r2060.2.1), (13, .sl 5 (((x0.take (mnI (x0.length : Int) 8).toNat).drop (0 : Int).toNat).map (cdA (csC (cdK .u8) (csC (cdK .u8) (csC (cdK .u8) (csC cdB (csE cdB))))) (fun _ => rfl)).enc)), (14, .v (.int .i64 (((x0.take (mnI (x0.length : Int) 8).toNat).drop (0 : Int).toNat).length : Int))), (15, .v (.int .i64 (wr .i64 (c4 + 1))))], [mk 5 70 ((r2060.1 ++ [r2060.2.2]).map cdClause.enc)]⟩) (Wk.sel2 [0] kr kr kr ⟨⟨_, rfl, bu_mk⟩, trivial⟩ ⟨lu_hd (b' := 0) kr kr, lu kr kr, lu kr kr, lu kr kr, lu kr kr, trivial⟩) (ih (r2060.1 ++ [r2060.2.2]) r2060.2.1 (wr .i64 (c4 + 1)) h)
  ·rw [if_f hb5] at h
   refine Sem.exit ?_
   have hq := Option.some.inj h; subst hq
   exact ⟨rfl, (Wk.sel2 [0] kr kr kr ⟨⟨_, rfl, bu_mk⟩, trivial⟩ ⟨lu_hd (b' := 0) kr kr, trivial⟩)⟩
theorem law03_Made_sem (x0 : (List (Int × Int × Int × Bool × Bool))) (r : (List Clause)) (h : law03_Made x0 = some r) : Sem E0 ⟨none, false⟩ cb_law03_Made ⟨Fr 98 (pairs0 0 (cs_law03_Made.enc (x0, ()))), []⟩ fun e s' => (e = .normal ∨ e = .ret) ∧ ∃ xs, resA E0.P s'.fr s'.hp Tryz.f26.results.toList = some xs ∧ retA xs = er_law03_Made r := by
 unfold law03_Made at h
 let p1 : Nat × AV := (0, .sl 5 (x0.map (cdA (csC (cdK .u8) (csC (cdK .u8) (csC (cdK .u8) (csC cdB (csE cdB))))) (fun _ => rfl)).enc))
 refine Sem.wkQ (Sem.wk (s1 := ⟨Fr 98 [p1], []⟩) (Wk.fr kr) ?_)
 refine Sem.sq E0_ok [p1] [] ?_
 refine Sem.sq E0_ok [p1, (3, .e0)] [] ?_
 refine Sem.sq E0_ok [p1, (3, .e0), (4, .st [])] [] ?_
 refine Sem.seq ?_
 refine Sem.seq ?_
 by_cases hk1 : (cutOk 0 (mnI (x0.length : Int) 8) x0.length) = true
 case neg => rw [if_neg hk1] at h; cases h
 rw [if_pos hk1] at h
 let p2 : Nat × AV := (15, .v (.int .i64 0))
 let p3 : Nat × AV := (14, .v (.int .i64 (((x0.take (mnI (x0.length : Int) 8).toNat).drop (0 : Int).toNat).length : Int)))
 let p4 : Nat × AV := (13, .sl 5 (((x0.take (mnI (x0.length : Int) 8).toNat).drop (0 : Int).toNat).map (cdA (csC (cdK .u8) (csC (cdK .u8) (csC (cdK .u8) (csC cdB (csE cdB))))) (fun _ => rfl)).enc))
 refine Sem.runS (s1 := ⟨Fr 98 [(3, .e0), (4, .st []), p4, p3, p2], []⟩) ?_ ?_
 ·let p5 : Nat × AV := (9, .sl 5 (x0.map (cdA (csC (cdK .u8) (csC (cdK .u8) (csC (cdK .u8) (csC cdB (csE cdB))))) (fun _ => rfl)).enc))
  refine RunS.segF (n := 98) E0_ok 2 [(3, .e0), (4, .st []), p5, (10, .sl 5 (x0.map (cdA (csC (cdK .u8) (csC (cdK .u8) (csC (cdK .u8) (csC cdB (csE cdB))))) (fun _ => rfl)).enc))] [] kr ?_
  refine RunS.one E0_ok 0 rfl (op_q (wantedA_none rfl) rfl (q_len (a := .sl 5 (x0.map (cdA (csC (cdK .u8) (csC (cdK .u8) (csC (cdK .u8) (csC cdB (csE cdB))))) (fun _ => rfl)).enc)) kr (len_sl (el := 99) kr))) ?_
  refine RunS.segF (n := 98) E0_ok 1 [(3, .e0), (4, .st []), p5, (12, .v (.int .i64 (mnI (x0.length : Int) 8)))] [] kr ?_
  refine RunS.one E0_ok 0 rfl (op_q (wantedA_none rfl) rfl (q_slice (a := .sl 5 (x0.map (cdA (csC (cdK .u8) (csC (cdK .u8) (csC (cdK .u8) (csC cdB (csE cdB))))) (fun _ => rfl)).enc)) (l := none) (u := (some (.v (.int .i64 (mnI (x0.length : Int) 8))))) (m := none) kr kr kr rfl (slice_sl (xs := x0) (e := (cdA (csC (cdK .u8) (csC (cdK .u8) (csC (cdK .u8) (csC cdB (csE cdB))))) (fun _ => rfl)).enc) (k := 5) (el := 99) (lo := 0) (hi := (mnI (x0.length : Int) 8)) kr kr rfl (natB_i (cut_hi hk1)) hk1))) ?_
  refine RunS.one E0_ok 0 rfl (op_q (wantedA_none rfl) rfl (q_len (a := .sl 5 (((x0.take (mnI (x0.length : Int) 8).toNat).drop (0 : Int).toNat).map (cdA (csC (cdK .u8) (csC (cdK .u8) (csC (cdK .u8) (csC cdB (csE cdB))))) (fun _ => rfl)).enc)) kr (len_sl (el := 99) kr))) ?_
  exact RunS.last E0_ok
 refine Sem.block ?_
 obtain ⟨r2064, hr2064, h⟩ := Option.bind_eq_some_iff.1 h
 refine Sem.loop (n := 100000) ?_
 let p6 : Nat × AV := (3, hd 0 ([].map cdClause.enc))
 refine Sem.cutN (SemN.wk (s1 := ⟨Fr 98 [p6, (4, .st []), p4, p3, p2], [mk 5 70 ([].map cdClause.enc)]⟩) (Wk.trans (s1 := ⟨Fr 98 [p6, (4, .st []), p4, p3, p2], [mk 5 70 ([].map cdClause.enc)]⟩) Wk.none (Wk.sel2 [0] kr kr kr ⟨⟨_, rfl, bu_none⟩, trivial⟩ ⟨lu kr kr, lu kr kr, lu kr kr, lu kr kr, lu kr kr, trivial⟩)) (law03_Made_l1_ok x0 _ [] [] 0 _ hr2064)) ?_
 refine Sem.sq E0_ok [(2, hd 0 (r2064.map cdClause.enc))] [mk 5 70 (r2064.map cdClause.enc)] ?_
 refine Sem.ret ?_
 have hq := Option.some.inj h; subst hq
 let p7 : Nat × AV := (2, .sl 5 (r2064.map cdClause.enc))
 exact ⟨⟨Fr 98 [p7], []⟩, (Wk.trans (s1 := ⟨Fr 98 [p7], [none]⟩) (Wk.frzG 0 (.inl kr) ⟨.inl rfl, trivial⟩ ⟨⟨hd 0 (r2064.map cdClause.enc), kr, fz_hd (t := 70) kr enc_ok⟩, trivial⟩) (Wk.sel2 [] kr kr kr trivial ⟨lu kr kr, trivial⟩)), .inr rfl, [.sl 5 (r2064.map cdClause.enc)], kr, kr⟩
def t_law03_Made : List AV → Option AV := told cs_law03_Made (fun a => law03_Made a.1) er_law03_Made
theorem x_law03_Made : XOk 26 t_law03_Made := by
 refine xok_of_sem Tryz.func26 (c := cb_law03_Made) ?h2 ⟨Tryz.call26⟩ cs_law03_Made (fun a => law03_Made a.1) er_law03_Made (fun a => (by show 1 ≤ 98; decide)) ?h3 ?h4
 case h2 => kernel_rfl
 case h3 => intro b; kernel_rfl
 case h4 => exact fun a b h => law03_Made_sem a.1 b h
def by8 (ns : List Int) : List UInt8 := ns.map fun n => UInt8.ofNat n.toNat
theorem vrs_u8 {w : World} {Z : Nat → Prop} {R : List RI} : ∀ {ns : List Int} {us : List Value}, VRs w Z R (ns.map fun k => .v (.int .u8 k)) us → us = ns.map (Value.int .u8)
 | [], us, h => by
  have := h.len
  simpa using this
 | k :: ns, [], h => by
  have := h.len
  simp at this
 | k :: ns, u :: us, h => by
  have h0 := h.at_ 0 (.v (.int .u8 k)) u rfl rfl
  have h1 : u = .int .u8 k := by cases h0; rfl
  have h2 : VRs w Z R (ns.map fun k => .v (.int .u8 k)) us := ⟨by have := h.len; simpa using this, fun i x u hx hu => h.at_ (i + 1) x u (by simpa using hx) (by simpa using hu)⟩
  rw [h1, vrs_u8 h2]; rfl
theorem flat_u8 : ∀ (ns : List Int), flat' (ns.map (Value.int .u8)) = ns.map (Value.int .u8)
 | [] => rfl
 | k :: ns => by
  have := flat_u8 ns
  unfold flat' at *
  simp only [List.map_cons, List.flatten_cons, this]
  rfl
theorem RunS.bytes {E : Env} {ops : Array Oper} {rest rest' : List Oper} {n : Nat} {l : List (Nat × AV)} {hp : Hp} {K : St → Prop} {d : Nat} {a b e : TypeId} {x : Operand} {ty : TypeId} {pos : String} {af : Array Edge} {g : Option (Nat × Bool)} {bb lo q c : Nat} (ns : List Int) (hr : rest = ⟨some d, .convert a b x, ty, pos, af, g⟩ :: rest') (hw : wantedA ops (Fr n l) ⟨some d, .convert a b x, ty, pos, af, g⟩ = some true)
  (h1 : E.P.underlying a = some (.slice e)) (h2 : E.P.underlying e = some (.int .u8)) (h3 : E.P.underlying b = some .string) (hx : opA E (Fr n l) x = some (.rf bb lo q c)) (hl : elems hp 1 (.rf bb lo q c) = some (ns.map fun k => .v (.int .u8 k))) (hn : Nat.ble ns.length maxLen = true) (kk : RunS E ops rest' ⟨Fr n ((d, .st (by8 ns)) :: l), hp⟩ K) : RunS E ops rest ⟨Fr n l, hp⟩ K := by
 subst hr
 intro base Q ac w Z R sr qq
 refine lwl_loud rfl (wantedA_eq sr hw) ?_
 have hv := opA_vr sr x _ hx
 unfold Lw
 generalize hva : ac.eval x = v at hv
 have hso : srcOk E.P a (.rf bb lo q c) = true := by unfold srcOk; rw [h1]
 obtain ⟨us, u1, u2, u3, u4⟩ := elems_src sr.hh hv hso hl
 cases hv with
 | rf hr h0 h4 h5 h6 =>
  rename_i m r
  have hus := vrs_u8 u1
  subst hus
  have hq : q = ns.length := by
   simp only [elems] at hl
   split at hl
   ·split at hl
    ·next hc =>
     injection hl with hl
     have := congrArg List.length hl
     simp at this
     omega
    ·cases hl
   ·cases hl
  subst hq
  have hf := u4 ns.length (by simp)
  have hfc : (loadCells ⟨r.c, lo * r.k, none⟩ ns.length).run E.P w = .ok (ns.map (Value.int .u8)).toArray w := by
   simpa [Builtin.firstCells, List.take_of_length_le, flat_u8] using hf
  have hrun : (execOp ac.eval ⟨some d, .convert a b x, ty, pos, af, g⟩).run E.P w = .ok (.value (.string (strOfNums ns))) w := by
   have := run_convert_bytes_string (P := E.P) w a b e (some ⟨r.c, lo * r.k, none⟩) ns.length m h1 h2 h3
   rw [run_bytesToString w _ ns.length m ns hfc, foldl_push_bytes] at this
   have e2 : (⟨ByteArray.empty.data ++ (ns.map fun n => UInt8.ofNat n.toNat).toArray⟩ : ByteArray) = strOfNums ns := by
    simp [strOfNums, ByteArray.empty, ByteArray.emptyWithCapacity]
    rfl
   rw [e2] at this
   simp [execOp, hva, this]
  rw [hrun]
  have sr' := sr.put (d := some d) (VR.st (w := w) (Z := Z) (ρ := R) (s := strOfNums ns) (bs := by8 ns) (strOfNums_data ns) (by unfold by8; rw [List.length_map]; exact Nat.le_of_ble_eq_true hn))
  exact kk base Q _ w Z R (by rwa [putA_Fr] at sr') qq
/- trestle/trestlelaw03.Guest -/
noncomputable def cb_law03_Guest : Code := codeOf Tryz.f88
def law03_Guest_j1 (x0 : (Int × Int)) (x1 : (List UInt8)) : Option ((Int × Int × (List UInt8) × (List UInt8) × (List UInt8) × Int × Int × (List UInt8) × Bool × Bool × (List UInt8) × (List UInt8) × (List UInt8) × Int × Int × (List UInt8) × Bool × Bool)) :=
 if ((andI .u8 x0.1 4) != 0) = true then
 if (cutOk (andI .u8 (x0.1.fdiv 8) 3) (([97, 98, 99, 100] : List UInt8).length : Int) ([97, 98, 99, 100] : List UInt8).length) = true then
 if (cutOk 0 (1 : Int) ((([97, 98, 99, 100] : List UInt8).take (([97, 98, 99, 100] : List UInt8).length : Int).toNat).drop (andI .u8 (x0.1.fdiv 8) 3).toNat).length) = true then
 some (x0.1, x0.2, [], [], [], 0, 0, [], false, false, x1, ((((([97, 98, 99, 100] : List UInt8).take (([97, 98, 99, 100] : List UInt8).length : Int).toNat).drop (andI .u8 (x0.1.fdiv 8) 3).toNat).take (1 : Int).toNat).drop (0 : Int).toNat), [], (wr .i64 (10 * (wr .i64 (x0.2.tmod 4)))), (wr .i64 (x0.1.tmod 3)), [], ((andI .u8 x0.1 64) != 0), ((andI .u8 x0.2 128) != 0))
 else none
 else none
 else
 some (x0.1, x0.2, [], [], [], 0, 0, [], false, false, x1, [], [], (wr .i64 (10 * (wr .i64 (x0.2.tmod 4)))), (wr .i64 (x0.1.tmod 3)), [], ((andI .u8 x0.1 64) != 0), ((andI .u8 x0.2 128) != 0))
def law03_Guest_j2 (r22 : Int × Int × (List UInt8) × (List UInt8) × (List UInt8) × Int × Int × (List UInt8) × Bool × Bool × (List UInt8) × (List UInt8) × (List UInt8) × Int × Int × (List UInt8) × Bool × Bool) : Option ((Int × Int × (List UInt8) × (List UInt8) × (List UInt8) × Int × Int × (List UInt8) × Bool × Bool × (List UInt8) × (List UInt8) × (List UInt8) × Int × Int × (List UInt8) × Bool × Bool)) :=
 if ((andI .u8 r22.2.1 4) != 0) = true then
 if (cutOk (andI .u8 (r22.2.1.fdiv 8) 3) (([97, 98, 99, 100] : List UInt8).length : Int) ([97, 98, 99, 100] : List UInt8).length) = true then
 if (cutOk 0 (1 : Int) ((([97, 98, 99, 100] : List UInt8).take (([97, 98, 99, 100] : List UInt8).length : Int).toNat).drop (andI .u8 (r22.2.1.fdiv 8) 3).toNat).length) = true then
 some (r22.1, r22.2.1, r22.2.2.1, r22.2.2.2.1, r22.2.2.2.2.1, r22.2.2.2.2.2.1, r22.2.2.2.2.2.2.1, r22.2.2.2.2.2.2.2.1, r22.2.2.2.2.2.2.2.2.1, r22.2.2.2.2.2.2.2.2.2.1, r22.2.2.2.2.2.2.2.2.2.2.1, r22.2.2.2.2.2.2.2.2.2.2.2.1, ((((([97, 98, 99, 100] : List UInt8).take (([97, 98, 99, 100] : List UInt8).length : Int).toNat).drop (andI .u8 (r22.2.1.fdiv 8) 3).toNat).take (1 : Int).toNat).drop (0 : Int).toNat), r22.2.2.2.2.2.2.2.2.2.2.2.2.2.1, r22.2.2.2.2.2.2.2.2.2.2.2.2.2.2.1, r22.2.2.2.2.2.2.2.2.2.2.2.2.2.2.2.1, r22.2.2.2.2.2.2.2.2.2.2.2.2.2.2.2.2.1, r22.2.2.2.2.2.2.2.2.2.2.2.2.2.2.2.2.2)
 else none
 else none
 else
 some (r22.1, r22.2.1, r22.2.2.1, r22.2.2.2.1, r22.2.2.2.2.1, r22.2.2.2.2.2.1, r22.2.2.2.2.2.2.1, r22.2.2.2.2.2.2.2.1, r22.2.2.2.2.2.2.2.2.1, r22.2.2.2.2.2.2.2.2.2.1, r22.2.2.2.2.2.2.2.2.2.2.1, r22.2.2.2.2.2.2.2.2.2.2.2.1, r22.2.2.2.2.2.2.2.2.2.2.2.2.1, r22.2.2.2.2.2.2.2.2.2.2.2.2.2.1, r22.2.2.2.2.2.2.2.2.2.2.2.2.2.2.1, r22.2.2.2.2.2.2.2.2.2.2.2.2.2.2.2.1, r22.2.2.2.2.2.2.2.2.2.2.2.2.2.2.2.2.1, r22.2.2.2.2.2.2.2.2.2.2.2.2.2.2.2.2.2)
def law03_Guest_j3 (r44 : Int × Int × (List UInt8) × (List UInt8) × (List UInt8) × Int × Int × (List UInt8) × Bool × Bool × (List UInt8) × (List UInt8) × (List UInt8) × Int × Int × (List UInt8) × Bool × Bool) : Option ((Int × Int × (List UInt8) × (List UInt8) × (List UInt8) × Int × Int × (List UInt8) × Bool × Bool × (List UInt8) × (List UInt8) × (List UInt8) × Int × Int × (List UInt8) × Bool × Bool × (List (List UInt8)))) :=
 if ((andI .u8 r44.2.1 64) != 0) = true then
 if (cutOk (andI .u8 (r44.1.fdiv 16) 3) (([97, 98, 99, 100] : List UInt8).length : Int) ([97, 98, 99, 100] : List UInt8).length) = true then
 if (cutOk 0 (1 : Int) ((([97, 98, 99, 100] : List UInt8).take (([97, 98, 99, 100] : List UInt8).length : Int).toNat).drop (andI .u8 (r44.1.fdiv 16) 3).toNat).length) = true then
 some (r44.1, r44.2.1, r44.2.2.1, r44.2.2.2.1, r44.2.2.2.2.1, r44.2.2.2.2.2.1, r44.2.2.2.2.2.2.1, r44.2.2.2.2.2.2.2.1, r44.2.2.2.2.2.2.2.2.1, r44.2.2.2.2.2.2.2.2.2.1, r44.2.2.2.2.2.2.2.2.2.2.1, r44.2.2.2.2.2.2.2.2.2.2.2.1, r44.2.2.2.2.2.2.2.2.2.2.2.2.1, r44.2.2.2.2.2.2.2.2.2.2.2.2.2.1, r44.2.2.2.2.2.2.2.2.2.2.2.2.2.2.1, r44.2.2.2.2.2.2.2.2.2.2.2.2.2.2.2.1, r44.2.2.2.2.2.2.2.2.2.2.2.2.2.2.2.2.1, r44.2.2.2.2.2.2.2.2.2.2.2.2.2.2.2.2.2, [((((([97, 98, 99, 100] : List UInt8).take (([97, 98, 99, 100] : List UInt8).length : Int).toNat).drop (andI .u8 (r44.1.fdiv 16) 3).toNat).take (1 : Int).toNat).drop (0 : Int).toNat)])
 else none
 else none
 else
 some (r44.1, r44.2.1, r44.2.2.1, r44.2.2.2.1, r44.2.2.2.2.1, r44.2.2.2.2.2.1, r44.2.2.2.2.2.2.1, r44.2.2.2.2.2.2.2.1, r44.2.2.2.2.2.2.2.2.1, r44.2.2.2.2.2.2.2.2.2.1, r44.2.2.2.2.2.2.2.2.2.2.1, r44.2.2.2.2.2.2.2.2.2.2.2.1, r44.2.2.2.2.2.2.2.2.2.2.2.2.1, r44.2.2.2.2.2.2.2.2.2.2.2.2.2.1, r44.2.2.2.2.2.2.2.2.2.2.2.2.2.2.1, r44.2.2.2.2.2.2.2.2.2.2.2.2.2.2.2.1, r44.2.2.2.2.2.2.2.2.2.2.2.2.2.2.2.2.1, r44.2.2.2.2.2.2.2.2.2.2.2.2.2.2.2.2.2, [])
def law03_Guest_j4 (r67 : Int × Int × (List UInt8) × (List UInt8) × (List UInt8) × Int × Int × (List UInt8) × Bool × Bool × (List UInt8) × (List UInt8) × (List UInt8) × Int × Int × (List UInt8) × Bool × Bool × (List (List UInt8))) : Option (((List UInt8) × (List UInt8) × (List UInt8) × Int × Int × (List UInt8) × Bool × Bool × (List UInt8) × (List UInt8) × (List UInt8) × Int × Int × (List UInt8) × Bool × Bool × (List (List UInt8)))) :=
 if ((andI .u8 r67.1 128) != 0) = true then
 if (cutOk (andI .u8 (r67.2.1.fdiv 16) 3) (([97, 98, 99, 100] : List UInt8).length : Int) ([97, 98, 99, 100] : List UInt8).length) = true then
 if (cutOk 0 (1 : Int) ((([97, 98, 99, 100] : List UInt8).take (([97, 98, 99, 100] : List UInt8).length : Int).toNat).drop (andI .u8 (r67.2.1.fdiv 16) 3).toNat).length) = true then
 some (r67.2.2.1, r67.2.2.2.1, r67.2.2.2.2.1, r67.2.2.2.2.2.1, r67.2.2.2.2.2.2.1, r67.2.2.2.2.2.2.2.1, r67.2.2.2.2.2.2.2.2.1, r67.2.2.2.2.2.2.2.2.2.1, r67.2.2.2.2.2.2.2.2.2.2.1, r67.2.2.2.2.2.2.2.2.2.2.2.1, r67.2.2.2.2.2.2.2.2.2.2.2.2.1, r67.2.2.2.2.2.2.2.2.2.2.2.2.2.1, r67.2.2.2.2.2.2.2.2.2.2.2.2.2.2.1, ((((([97, 98, 99, 100] : List UInt8).take (([97, 98, 99, 100] : List UInt8).length : Int).toNat).drop (andI .u8 (r67.2.1.fdiv 16) 3).toNat).take (1 : Int).toNat).drop (0 : Int).toNat), r67.2.2.2.2.2.2.2.2.2.2.2.2.2.2.2.2.1, r67.2.2.2.2.2.2.2.2.2.2.2.2.2.2.2.2.2.1, r67.2.2.2.2.2.2.2.2.2.2.2.2.2.2.2.2.2.2)
 else none
 else none
 else
 some (r67.2.2.1, r67.2.2.2.1, r67.2.2.2.2.1, r67.2.2.2.2.2.1, r67.2.2.2.2.2.2.1, r67.2.2.2.2.2.2.2.1, r67.2.2.2.2.2.2.2.2.1, r67.2.2.2.2.2.2.2.2.2.1, r67.2.2.2.2.2.2.2.2.2.2.1, r67.2.2.2.2.2.2.2.2.2.2.2.1, r67.2.2.2.2.2.2.2.2.2.2.2.2.1, r67.2.2.2.2.2.2.2.2.2.2.2.2.2.1, r67.2.2.2.2.2.2.2.2.2.2.2.2.2.2.1, r67.2.2.2.2.2.2.2.2.2.2.2.2.2.2.2.1, r67.2.2.2.2.2.2.2.2.2.2.2.2.2.2.2.2.1, r67.2.2.2.2.2.2.2.2.2.2.2.2.2.2.2.2.2.1, r67.2.2.2.2.2.2.2.2.2.2.2.2.2.2.2.2.2.2)
def law03_Guest (x0 : (Int × Int)) (x1 : (List UInt8)) : Option (Guest) :=
 (law03_Guest_j1 x0 x1).bind fun r22 =>
 (law03_Guest_j2 r22).bind fun r44 =>
 (law03_Guest_j3 r44).bind fun r67 =>
 (law03_Guest_j4 r67).bind fun r88 =>
 some r88.2.2.2.2.2.2.2.2
def cs_law03_Guest : Cs (((Int × Int)) × (List UInt8) × Unit) := (csC (cdG2 (cdK .u8) (cdK .u8) (fun _ => rfl) (fun _ => rfl)) (csC cdS csN))
def er_law03_Guest (r : Guest) : AV := cdGuest.enc r
theorem law03_Guest_j1_ok (x0 : (Int × Int)) (x1 : (List UInt8)) (r : (Int × Int × (List UInt8) × (List UInt8) × (List UInt8) × Int × Int × (List UInt8) × Bool × Bool × (List UInt8) × (List UInt8) × (List UInt8) × Int × Int × (List UInt8) × Bool × Bool)) (h : law03_Guest_j1 x0 x1 = some r) : Sem E0 ⟨none, false⟩ (pc cb_law03_Guest [1, 1, 0, 1]) ⟨Fr 71 [(2, .pt 0 0 0), (4, .pt 1 0 0), (5, .pt 2 0 0), (28, .v (.bool ((andI .u8 x0.1 4) != 0)))], [some ⟨2, 47, [.ag [.v (.int .u8 x0.1), .v (.int .u8 x0.2)]], false⟩, some ⟨9, 44, [.ag [.st [], .st [], .st [], .v (.int .i64 0), .v (.int .i64 0), .st [], .v (.bool false), .v (.bool false), .e0]], false⟩, some ⟨9, 44, [.ag [.st x1, .st [], .st [], .v (.int .i64 (wr .i64 (10 * (wr .i64 (x0.2.tmod 4))))), .v (.int .i64 (wr .i64 (x0.1.tmod 3))), .st [], .v (.bool ((andI .u8 x0.1 64) != 0)), .v (.bool ((andI .u8 x0.2 128) != 0)), .e0]], false⟩]⟩ (fun e s => e = .normal ∧ Wk E0 s ⟨Fr 71 [(2, .pt 0 0 0), (4, .pt 1 0 0), (5, .pt 2 0 0)], [some ⟨2, 47, [.ag [.v (.int .u8 r.1), .v (.int .u8 r.2.1)]], false⟩, some ⟨9, 44, [.ag [.st r.2.2.1, .st r.2.2.2.1, .st r.2.2.2.2.1, .v (.int .i64 r.2.2.2.2.2.1), .v (.int .i64 r.2.2.2.2.2.2.1), .st r.2.2.2.2.2.2.2.1, .v (.bool r.2.2.2.2.2.2.2.2.1), .v (.bool r.2.2.2.2.2.2.2.2.2.1), .e0]], false⟩, some ⟨9, 44, [.ag [.st r.2.2.2.2.2.2.2.2.2.2.1, .st r.2.2.2.2.2.2.2.2.2.2.2.1, .st r.2.2.2.2.2.2.2.2.2.2.2.2.1, .v (.int .i64 r.2.2.2.2.2.2.2.2.2.2.2.2.2.1), .v (.int .i64 r.2.2.2.2.2.2.2.2.2.2.2.2.2.2.1), .st r.2.2.2.2.2.2.2.2.2.2.2.2.2.2.2.1, .v (.bool r.2.2.2.2.2.2.2.2.2.2.2.2.2.2.2.2.1), .v (.bool r.2.2.2.2.2.2.2.2.2.2.2.2.2.2.2.2.2), .e0]], false⟩]⟩) := by
 unfold law03_Guest_j1 at h
 refine Sem.cond (b := ((andI .u8 x0.1 4) != 0)) kr (fun hb1 => ?_) (fun hb1 => ?_)
 ·rw [if_pos hb1] at h
  by_cases hk2 : (cutOk (andI .u8 (x0.1.fdiv 8) 3) (([97, 98, 99, 100] : List UInt8).length : Int) ([97, 98, 99, 100] : List UInt8).length) = true
  case neg => rw [if_neg hk2] at h; cases h
  rw [if_pos hk2] at h
  by_cases hk3 : (cutOk 0 (1 : Int) ((([97, 98, 99, 100] : List UInt8).take (([97, 98, 99, 100] : List UInt8).length : Int).toNat).drop (andI .u8 (x0.1.fdiv 8) 3).toNat).length) = true
  case neg => rw [if_neg hk3] at h; cases h
  rw [if_pos hk3] at h
  let p1 : Option Blk := some ⟨9, 44, [.ag [.st [], .st [], .st [], .v (.int .i64 0), .v (.int .i64 0), .st [], .v (.bool false), .v (.bool false), .e0]], false⟩
  let p2 : Option Blk := some ⟨2, 47, [.ag [.v (.int .u8 x0.1), .v (.int .u8 x0.2)]], false⟩
  refine Sem.runS (s1 := ⟨Fr 71 [(2, .pt 0 0 0), (4, .pt 1 0 0), (5, .pt 2 0 0)], [p2, p1, some ⟨9, 44, [.ag [.st x1, .st ((((([97, 98, 99, 100] : List UInt8).take (([97, 98, 99, 100] : List UInt8).length : Int).toNat).drop (andI .u8 (x0.1.fdiv 8) 3).toNat).take (1 : Int).toNat).drop (0 : Int).toNat), .st [], .v (.int .i64 (wr .i64 (10 * (wr .i64 (x0.2.tmod 4))))), .v (.int .i64 (wr .i64 (x0.1.tmod 3))), .st [], .v (.bool ((andI .u8 x0.1 64) != 0)), .v (.bool ((andI .u8 x0.2 128) != 0)), .e0]], false⟩]⟩) ?_ ?_
  ·refine RunS.segF (n := 71) E0_ok 4 [(2, .pt 0 0 0), (4, .pt 1 0 0), (5, .pt 2 0 0), (32, .v (.int .u8 (andI .u8 (x0.1.fdiv 8) 3)))] [p2, p1, some ⟨9, 44, [.ag [.st x1, .st [], .st [], .v (.int .i64 (wr .i64 (10 * (wr .i64 (x0.2.tmod 4))))), .v (.int .i64 (wr .i64 (x0.1.tmod 3))), .st [], .v (.bool ((andI .u8 x0.1 64) != 0)), .v (.bool ((andI .u8 x0.2 128) != 0)), .e0]], false⟩] kr ?_
   refine RunS.one E0_ok 0 rfl (op_q (wantedA_none rfl) rfl (q_slice (a := .st [97, 98, 99, 100]) (l := (some (.v (.int .u8 (andI .u8 (x0.1.fdiv 8) 3))))) (u := none) (m := none) kr kr kr rfl (slice_st (bs := [97, 98, 99, 100]) (lo := (andI .u8 (x0.1.fdiv 8) 3)) (hi := (([97, 98, 99, 100] : List UInt8).length : Int)) kr (natB_i (cut_lo hk2)) rfl hk2))) ?_
   refine RunS.one E0_ok 0 rfl (op_q (wantedA_none rfl) rfl (q_slice (a := .st ((([97, 98, 99, 100] : List UInt8).take (([97, 98, 99, 100] : List UInt8).length : Int).toNat).drop (andI .u8 (x0.1.fdiv 8) 3).toNat)) (l := none) (u := (some (.v (.int .i64 1)))) (m := none) kr kr kr rfl (slice_st (bs := ((([97, 98, 99, 100] : List UInt8).take (([97, 98, 99, 100] : List UInt8).length : Int).toNat).drop (andI .u8 (x0.1.fdiv 8) 3).toNat)) (lo := 0) (hi := (1 : Int)) kr rfl (natB_i (cut_hi hk3)) hk3))) ?_
   exact RunS.last E0_ok
  have hq := Option.some.inj h; subst hq
  exact ⟨rfl, (Wk.sel2 [0, 1, 2] kr kr kr ⟨⟨_, rfl, bu_c kr kr⟩, ⟨_, rfl, bu_c kr kr⟩, ⟨_, rfl, bu_c kr kr⟩, trivial⟩ ⟨lu kr kr, lu kr kr, lu kr kr, trivial⟩)⟩
 ·rw [if_f hb1] at h
  refine Sem.skip ?_
  have hq := Option.some.inj h; subst hq
  exact ⟨rfl, (Wk.sel2 [0, 1, 2] kr kr kr ⟨⟨_, rfl, bu_c kr kr⟩, ⟨_, rfl, bu_c kr kr⟩, ⟨_, rfl, bu_c kr kr⟩, trivial⟩ ⟨lu kr kr, lu kr kr, lu kr kr, trivial⟩)⟩
theorem law03_Guest_j2_ok (r22 : Int × Int × (List UInt8) × (List UInt8) × (List UInt8) × Int × Int × (List UInt8) × Bool × Bool × (List UInt8) × (List UInt8) × (List UInt8) × Int × Int × (List UInt8) × Bool × Bool) (r : (Int × Int × (List UInt8) × (List UInt8) × (List UInt8) × Int × Int × (List UInt8) × Bool × Bool × (List UInt8) × (List UInt8) × (List UInt8) × Int × Int × (List UInt8) × Bool × Bool)) (h : law03_Guest_j2 r22 = some r) : Sem E0 ⟨none, false⟩ (pc cb_law03_Guest [1, 1, 1, 0, 1]) ⟨Fr 71 [(2, .pt 0 0 0), (4, .pt 1 0 0), (5, .pt 2 0 0), (39, .v (.bool ((andI .u8 r22.2.1 4) != 0)))], [some ⟨2, 47, [.ag [.v (.int .u8 r22.1), .v (.int .u8 r22.2.1)]], false⟩, some ⟨9, 44, [.ag [.st r22.2.2.1, .st r22.2.2.2.1, .st r22.2.2.2.2.1, .v (.int .i64 r22.2.2.2.2.2.1), .v (.int .i64 r22.2.2.2.2.2.2.1), .st r22.2.2.2.2.2.2.2.1, .v (.bool r22.2.2.2.2.2.2.2.2.1), .v (.bool r22.2.2.2.2.2.2.2.2.2.1), .e0]], false⟩, some ⟨9, 44, [.ag [.st r22.2.2.2.2.2.2.2.2.2.2.1, .st r22.2.2.2.2.2.2.2.2.2.2.2.1, .st r22.2.2.2.2.2.2.2.2.2.2.2.2.1, .v (.int .i64 r22.2.2.2.2.2.2.2.2.2.2.2.2.2.1), .v (.int .i64 r22.2.2.2.2.2.2.2.2.2.2.2.2.2.2.1), .st r22.2.2.2.2.2.2.2.2.2.2.2.2.2.2.2.1, .v (.bool r22.2.2.2.2.2.2.2.2.2.2.2.2.2.2.2.2.1), .v (.bool r22.2.2.2.2.2.2.2.2.2.2.2.2.2.2.2.2.2), .e0]], false⟩]⟩ (fun e s => e = .normal ∧ Wk E0 s ⟨Fr 71 [(2, .pt 0 0 0), (4, .pt 1 0 0), (5, .pt 2 0 0)], [some ⟨2, 47, [.ag [.v (.int .u8 r.1), .v (.int .u8 r.2.1)]], false⟩, some ⟨9, 44, [.ag [.st r.2.2.1, .st r.2.2.2.1, .st r.2.2.2.2.1, .v (.int .i64 r.2.2.2.2.2.1), .v (.int .i64 r.2.2.2.2.2.2.1), .st r.2.2.2.2.2.2.2.1, .v (.bool r.2.2.2.2.2.2.2.2.1), .v (.bool r.2.2.2.2.2.2.2.2.2.1), .e0]], false⟩, some ⟨9, 44, [.ag [.st r.2.2.2.2.2.2.2.2.2.2.1, .st r.2.2.2.2.2.2.2.2.2.2.2.1, .st r.2.2.2.2.2.2.2.2.2.2.2.2.1, .v (.int .i64 r.2.2.2.2.2.2.2.2.2.2.2.2.2.1), .v (.int .i64 r.2.2.2.2.2.2.2.2.2.2.2.2.2.2.1), .st r.2.2.2.2.2.2.2.2.2.2.2.2.2.2.2.1, .v (.bool r.2.2.2.2.2.2.2.2.2.2.2.2.2.2.2.2.1), .v (.bool r.2.2.2.2.2.2.2.2.2.2.2.2.2.2.2.2.2), .e0]], false⟩]⟩) := by
 unfold law03_Guest_j2 at h
 refine Sem.cond (b := ((andI .u8 r22.2.1 4) != 0)) kr (fun hb23 => ?_) (fun hb23 => ?_)
 ·rw [if_pos hb23] at h
  by_cases hk24 : (cutOk (andI .u8 (r22.2.1.fdiv 8) 3) (([97, 98, 99, 100] : List UInt8).length : Int) ([97, 98, 99, 100] : List UInt8).length) = true
  case neg => rw [if_neg hk24] at h; cases h
  rw [if_pos hk24] at h
  by_cases hk25 : (cutOk 0 (1 : Int) ((([97, 98, 99, 100] : List UInt8).take (([97, 98, 99, 100] : List UInt8).length : Int).toNat).drop (andI .u8 (r22.2.1.fdiv 8) 3).toNat).length) = true
  case neg => rw [if_neg hk25] at h; cases h
  rw [if_pos hk25] at h
  let p1 : Option Blk := some ⟨9, 44, [.ag [.st r22.2.2.1, .st r22.2.2.2.1, .st r22.2.2.2.2.1, .v (.int .i64 r22.2.2.2.2.2.1), .v (.int .i64 r22.2.2.2.2.2.2.1), .st r22.2.2.2.2.2.2.2.1, .v (.bool r22.2.2.2.2.2.2.2.2.1), .v (.bool r22.2.2.2.2.2.2.2.2.2.1), .e0]], false⟩
  let p2 : Option Blk := some ⟨2, 47, [.ag [.v (.int .u8 r22.1), .v (.int .u8 r22.2.1)]], false⟩
  refine Sem.runS (s1 := ⟨Fr 71 [(2, .pt 0 0 0), (4, .pt 1 0 0), (5, .pt 2 0 0)], [p2, p1, some ⟨9, 44, [.ag [.st r22.2.2.2.2.2.2.2.2.2.2.1, .st r22.2.2.2.2.2.2.2.2.2.2.2.1, .st ((((([97, 98, 99, 100] : List UInt8).take (([97, 98, 99, 100] : List UInt8).length : Int).toNat).drop (andI .u8 (r22.2.1.fdiv 8) 3).toNat).take (1 : Int).toNat).drop (0 : Int).toNat), .v (.int .i64 r22.2.2.2.2.2.2.2.2.2.2.2.2.2.1), .v (.int .i64 r22.2.2.2.2.2.2.2.2.2.2.2.2.2.2.1), .st r22.2.2.2.2.2.2.2.2.2.2.2.2.2.2.2.1, .v (.bool r22.2.2.2.2.2.2.2.2.2.2.2.2.2.2.2.2.1), .v (.bool r22.2.2.2.2.2.2.2.2.2.2.2.2.2.2.2.2.2), .e0]], false⟩]⟩) ?_ ?_
  ·refine RunS.segF (n := 71) E0_ok 4 [(2, .pt 0 0 0), (4, .pt 1 0 0), (5, .pt 2 0 0), (43, .v (.int .u8 (andI .u8 (r22.2.1.fdiv 8) 3)))] [p2, p1, some ⟨9, 44, [.ag [.st r22.2.2.2.2.2.2.2.2.2.2.1, .st r22.2.2.2.2.2.2.2.2.2.2.2.1, .st r22.2.2.2.2.2.2.2.2.2.2.2.2.1, .v (.int .i64 r22.2.2.2.2.2.2.2.2.2.2.2.2.2.1), .v (.int .i64 r22.2.2.2.2.2.2.2.2.2.2.2.2.2.2.1), .st r22.2.2.2.2.2.2.2.2.2.2.2.2.2.2.2.1, .v (.bool r22.2.2.2.2.2.2.2.2.2.2.2.2.2.2.2.2.1), .v (.bool r22.2.2.2.2.2.2.2.2.2.2.2.2.2.2.2.2.2), .e0]], false⟩] kr ?_
   refine RunS.one E0_ok 0 rfl (op_q (wantedA_none rfl) rfl (q_slice (a := .st [97, 98, 99, 100]) (l := (some (.v (.int .u8 (andI .u8 (r22.2.1.fdiv 8) 3))))) (u := none) (m := none) kr kr kr rfl (slice_st (bs := [97, 98, 99, 100]) (lo := (andI .u8 (r22.2.1.fdiv 8) 3)) (hi := (([97, 98, 99, 100] : List UInt8).length : Int)) kr (natB_i (cut_lo hk24)) rfl hk24))) ?_
   refine RunS.one E0_ok 0 rfl (op_q (wantedA_none rfl) rfl (q_slice (a := .st ((([97, 98, 99, 100] : List UInt8).take (([97, 98, 99, 100] : List UInt8).length : Int).toNat).drop (andI .u8 (r22.2.1.fdiv 8) 3).toNat)) (l := none) (u := (some (.v (.int .i64 1)))) (m := none) kr kr kr rfl (slice_st (bs := ((([97, 98, 99, 100] : List UInt8).take (([97, 98, 99, 100] : List UInt8).length : Int).toNat).drop (andI .u8 (r22.2.1.fdiv 8) 3).toNat)) (lo := 0) (hi := (1 : Int)) kr rfl (natB_i (cut_hi hk25)) hk25))) ?_
   exact RunS.last E0_ok
  have hq := Option.some.inj h; subst hq
  exact ⟨rfl, (Wk.sel2 [0, 1, 2] kr kr kr ⟨⟨_, rfl, bu_c kr kr⟩, ⟨_, rfl, bu_c kr kr⟩, ⟨_, rfl, bu_c kr kr⟩, trivial⟩ ⟨lu kr kr, lu kr kr, lu kr kr, trivial⟩)⟩
 ·rw [if_f hb23] at h
  refine Sem.skip ?_
  have hq := Option.some.inj h; subst hq
  exact ⟨rfl, (Wk.sel2 [0, 1, 2] kr kr kr ⟨⟨_, rfl, bu_c kr kr⟩, ⟨_, rfl, bu_c kr kr⟩, ⟨_, rfl, bu_c kr kr⟩, trivial⟩ ⟨lu kr kr, lu kr kr, lu kr kr, trivial⟩)⟩
theorem law03_Guest_j3_ok (r44 : Int × Int × (List UInt8) × (List UInt8) × (List UInt8) × Int × Int × (List UInt8) × Bool × Bool × (List UInt8) × (List UInt8) × (List UInt8) × Int × Int × (List UInt8) × Bool × Bool) (r : (Int × Int × (List UInt8) × (List UInt8) × (List UInt8) × Int × Int × (List UInt8) × Bool × Bool × (List UInt8) × (List UInt8) × (List UInt8) × Int × Int × (List UInt8) × Bool × Bool × (List (List UInt8)))) (h : law03_Guest_j3 r44 = some r) : Sem E0 ⟨none, false⟩ (pc cb_law03_Guest [1, 1, 1, 1, 0, 1]) ⟨Fr 71 [(2, .pt 0 0 0), (4, .pt 1 0 0), (5, .pt 2 0 0), (50, .v (.bool ((andI .u8 r44.2.1 64) != 0)))], [some ⟨2, 47, [.ag [.v (.int .u8 r44.1), .v (.int .u8 r44.2.1)]], false⟩, some ⟨9, 44, [.ag [.st r44.2.2.1, .st r44.2.2.2.1, .st r44.2.2.2.2.1, .v (.int .i64 r44.2.2.2.2.2.1), .v (.int .i64 r44.2.2.2.2.2.2.1), .st r44.2.2.2.2.2.2.2.1, .v (.bool r44.2.2.2.2.2.2.2.2.1), .v (.bool r44.2.2.2.2.2.2.2.2.2.1), .e0]], false⟩, some ⟨9, 44, [.ag [.st r44.2.2.2.2.2.2.2.2.2.2.1, .st r44.2.2.2.2.2.2.2.2.2.2.2.1, .st r44.2.2.2.2.2.2.2.2.2.2.2.2.1, .v (.int .i64 r44.2.2.2.2.2.2.2.2.2.2.2.2.2.1), .v (.int .i64 r44.2.2.2.2.2.2.2.2.2.2.2.2.2.2.1), .st r44.2.2.2.2.2.2.2.2.2.2.2.2.2.2.2.1, .v (.bool r44.2.2.2.2.2.2.2.2.2.2.2.2.2.2.2.2.1), .v (.bool r44.2.2.2.2.2.2.2.2.2.2.2.2.2.2.2.2.2), .e0]], false⟩]⟩ (fun e s => e = .normal ∧ Wk E0 s ⟨Fr 71 [(2, .pt 0 0 0), (4, .pt 1 0 0), (5, .pt 2 0 0)], [some ⟨2, 47, [.ag [.v (.int .u8 r.1), .v (.int .u8 r.2.1)]], false⟩, some ⟨9, 44, [.ag [.st r.2.2.1, .st r.2.2.2.1, .st r.2.2.2.2.1, .v (.int .i64 r.2.2.2.2.2.1), .v (.int .i64 r.2.2.2.2.2.2.1), .st r.2.2.2.2.2.2.2.1, .v (.bool r.2.2.2.2.2.2.2.2.1), .v (.bool r.2.2.2.2.2.2.2.2.2.1), .e0]], false⟩, some ⟨9, 44, [cdGuest.enc r.2.2.2.2.2.2.2.2.2.2], false⟩]⟩) := by
 unfold law03_Guest_j3 at h
 refine Sem.cond (b := ((andI .u8 r44.2.1 64) != 0)) kr (fun hb45 => ?_) (fun hb45 => ?_)
 ·rw [if_pos hb45] at h
  by_cases hk46 : (cutOk (andI .u8 (r44.1.fdiv 16) 3) (([97, 98, 99, 100] : List UInt8).length : Int) ([97, 98, 99, 100] : List UInt8).length) = true
  case neg => rw [if_neg hk46] at h; cases h
  rw [if_pos hk46] at h
  by_cases hk47 : (cutOk 0 (1 : Int) ((([97, 98, 99, 100] : List UInt8).take (([97, 98, 99, 100] : List UInt8).length : Int).toNat).drop (andI .u8 (r44.1.fdiv 16) 3).toNat).length) = true
  case neg => rw [if_neg hk47] at h; cases h
  rw [if_pos hk47] at h
  let p1 : Option Blk := some ⟨9, 44, [.ag [.st r44.2.2.2.2.2.2.2.2.2.2.1, .st r44.2.2.2.2.2.2.2.2.2.2.2.1, .st r44.2.2.2.2.2.2.2.2.2.2.2.2.1, .v (.int .i64 r44.2.2.2.2.2.2.2.2.2.2.2.2.2.1), .v (.int .i64 r44.2.2.2.2.2.2.2.2.2.2.2.2.2.2.1), .st r44.2.2.2.2.2.2.2.2.2.2.2.2.2.2.2.1, .v (.bool r44.2.2.2.2.2.2.2.2.2.2.2.2.2.2.2.2.1), .v (.bool r44.2.2.2.2.2.2.2.2.2.2.2.2.2.2.2.2.2), .sl 1 ([((((([97, 98, 99, 100] : List UInt8).take (([97, 98, 99, 100] : List UInt8).length : Int).toNat).drop (andI .u8 (r44.1.fdiv 16) 3).toNat).take (1 : Int).toNat).drop (0 : Int).toNat)].map cdS.enc)]], false⟩
  let p2 : Option Blk := some ⟨9, 44, [.ag [.st r44.2.2.1, .st r44.2.2.2.1, .st r44.2.2.2.2.1, .v (.int .i64 r44.2.2.2.2.2.1), .v (.int .i64 r44.2.2.2.2.2.2.1), .st r44.2.2.2.2.2.2.2.1, .v (.bool r44.2.2.2.2.2.2.2.2.1), .v (.bool r44.2.2.2.2.2.2.2.2.2.1), .e0]], false⟩
  let p3 : Option Blk := some ⟨2, 47, [.ag [.v (.int .u8 r44.1), .v (.int .u8 r44.2.1)]], false⟩
  let p4 : Nat × AV := (5, .pt 2 0 0)
  let p5 : Nat × AV := (4, .pt 1 0 0)
  let p6 : Nat × AV := (2, .pt 0 0 0)
  refine Sem.runS (s1 := ⟨Fr 71 [p6, p5, p4], [p3, p2, p1]⟩) ?_ ?_
  ·let p7 : Option Blk := some ⟨9, 44, [.ag [.st r44.2.2.2.2.2.2.2.2.2.2.1, .st r44.2.2.2.2.2.2.2.2.2.2.2.1, .st r44.2.2.2.2.2.2.2.2.2.2.2.2.1, .v (.int .i64 r44.2.2.2.2.2.2.2.2.2.2.2.2.2.1), .v (.int .i64 r44.2.2.2.2.2.2.2.2.2.2.2.2.2.2.1), .st r44.2.2.2.2.2.2.2.2.2.2.2.2.2.2.2.1, .v (.bool r44.2.2.2.2.2.2.2.2.2.2.2.2.2.2.2.2.1), .v (.bool r44.2.2.2.2.2.2.2.2.2.2.2.2.2.2.2.2.2), .e0]], false⟩
   refine RunS.segF (n := 71) E0_ok 4 [p6, p5, p4, (54, .v (.int .u8 (andI .u8 (r44.1.fdiv 16) 3)))] [p3, p2, p7] kr ?_
   refine RunS.one E0_ok 0 rfl (op_q (wantedA_none rfl) rfl (q_slice (a := .st [97, 98, 99, 100]) (l := (some (.v (.int .u8 (andI .u8 (r44.1.fdiv 16) 3))))) (u := none) (m := none) kr kr kr rfl (slice_st (bs := [97, 98, 99, 100]) (lo := (andI .u8 (r44.1.fdiv 16) 3)) (hi := (([97, 98, 99, 100] : List UInt8).length : Int)) kr (natB_i (cut_lo hk46)) rfl hk46))) ?_
   refine RunS.one E0_ok 0 rfl (op_q (wantedA_none rfl) rfl (q_slice (a := .st ((([97, 98, 99, 100] : List UInt8).take (([97, 98, 99, 100] : List UInt8).length : Int).toNat).drop (andI .u8 (r44.1.fdiv 16) 3).toNat)) (l := none) (u := (some (.v (.int .i64 1)))) (m := none) kr kr kr rfl (slice_st (bs := ((([97, 98, 99, 100] : List UInt8).take (([97, 98, 99, 100] : List UInt8).length : Int).toNat).drop (andI .u8 (r44.1.fdiv 16) 3).toNat)) (lo := 0) (hi := (1 : Int)) kr rfl (natB_i (cut_hi hk47)) hk47))) ?_
   refine RunS.segF (n := 71) E0_ok 2 [p6, p5, p4, (57, hd 3 ([((((([97, 98, 99, 100] : List UInt8).take (([97, 98, 99, 100] : List UInt8).length : Int).toNat).drop (andI .u8 (r44.1.fdiv 16) 3).toNat).take (1 : Int).toNat).drop (0 : Int).toNat)].map cdS.enc)), (58, .pt 2 0 8)] [p3, p2, p7, mk 1 9 ([((((([97, 98, 99, 100] : List UInt8).take (([97, 98, 99, 100] : List UInt8).length : Int).toNat).drop (andI .u8 (r44.1.fdiv 16) 3).toNat).take (1 : Int).toNat).drop (0 : Int).toNat)].map cdS.enc)] kr ?_
   refine RunS.wk (s1 := ⟨Fr 71 [p6, p5, p4, (57, .sl 1 ([((((([97, 98, 99, 100] : List UInt8).take (([97, 98, 99, 100] : List UInt8).length : Int).toNat).drop (andI .u8 (r44.1.fdiv 16) 3).toNat).take (1 : Int).toNat).drop (0 : Int).toNat)].map cdS.enc)), (58, .pt 2 0 8)], [p3, p2, p7, none]⟩) (Wk.frzG 3 (.inl kr) ⟨.inr (.inr ⟨_, _, _, _, rfl, rfl, ⟨.inl rfl, trivial⟩⟩), .inr (.inr ⟨_, _, _, _, rfl, rfl, ⟨.inl rfl, trivial⟩⟩), .inr (.inr ⟨_, _, _, _, rfl, rfl, ⟨.inl rfl, trivial⟩⟩), .inl rfl, trivial⟩ ⟨⟨.pt 0 0 0, kr, .inl rfl⟩, ⟨.pt 1 0 0, kr, .inl rfl⟩, ⟨.pt 2 0 0, kr, .inl rfl⟩, ⟨hd 3 ([((((([97, 98, 99, 100] : List UInt8).take (([97, 98, 99, 100] : List UInt8).length : Int).toNat).drop (andI .u8 (r44.1.fdiv 16) 3).toNat).take (1 : Int).toNat).drop (0 : Int).toNat)].map cdS.enc), kr, fz_hd (t := 9) kr enc_ok⟩, ⟨.pt 2 0 8, kr, .inl rfl⟩, trivial⟩) ?_
   refine RunS.segF (n := 71) E0_ok 1 [p6, p5, p4] [p3, p2, p1, none] kr ?_
   exact RunS.done rfl (Wk.sel2 [0, 1, 2] kr kr kr ⟨⟨_, rfl, bu_c kr kr⟩, ⟨_, rfl, bu_c kr kr⟩, ⟨_, rfl, bu_c kr kr⟩, trivial⟩ ⟨lu kr kr, lu kr kr, lu kr kr, trivial⟩)
  have hq := Option.some.inj h; subst hq
  exact ⟨rfl, (Wk.sel2 [0, 1, 2] kr kr kr ⟨⟨_, rfl, bu_c kr kr⟩, ⟨_, rfl, bu_c kr kr⟩, ⟨_, rfl, bu_c kr kr⟩, trivial⟩ ⟨lu kr kr, lu kr kr, lu kr kr, trivial⟩)⟩
 ·rw [if_f hb45] at h
  refine Sem.skip ?_
  have hq := Option.some.inj h; subst hq
  let p8 : Option Blk := some ⟨9, 44, [.ag [.st r44.2.2.1, .st r44.2.2.2.1, .st r44.2.2.2.2.1, .v (.int .i64 r44.2.2.2.2.2.1), .v (.int .i64 r44.2.2.2.2.2.2.1), .st r44.2.2.2.2.2.2.2.1, .v (.bool r44.2.2.2.2.2.2.2.2.1), .v (.bool r44.2.2.2.2.2.2.2.2.2.1), .e0]], false⟩
  let p9 : Option Blk := some ⟨2, 47, [.ag [.v (.int .u8 r44.1), .v (.int .u8 r44.2.1)]], false⟩
  let p10 : Option Blk := some ⟨9, 44, [.ag [.st r44.2.2.2.2.2.2.2.2.2.2.1, .st r44.2.2.2.2.2.2.2.2.2.2.2.1, .st r44.2.2.2.2.2.2.2.2.2.2.2.2.1, .v (.int .i64 r44.2.2.2.2.2.2.2.2.2.2.2.2.2.1), .v (.int .i64 r44.2.2.2.2.2.2.2.2.2.2.2.2.2.2.1), .st r44.2.2.2.2.2.2.2.2.2.2.2.2.2.2.2.1, .v (.bool r44.2.2.2.2.2.2.2.2.2.2.2.2.2.2.2.2.1), .v (.bool r44.2.2.2.2.2.2.2.2.2.2.2.2.2.2.2.2.2), .e0]], false⟩
  exact ⟨rfl, (Wk.trans (s1 := ⟨Fr 71 [(2, .pt 0 0 0), (4, .pt 1 0 0), (5, .pt 2 0 0)], [p9, p8, p10]⟩) (Wk.fr kr) (Wk.trans (s1 := ⟨Fr 71 [(2, .pt 0 0 0), (4, .pt 1 0 0), (5, .pt 2 0 0)], [p9, p8, p10, none]⟩) Wk.none (Wk.trans (s1 := ⟨Fr 71 [(2, .pt 0 0 0), (4, .pt 1 0 0), (5, .pt 2 0 0)], [p9, p8, some ⟨9, 44, [.ag [.st r44.2.2.2.2.2.2.2.2.2.2.1, .st r44.2.2.2.2.2.2.2.2.2.2.2.1, .st r44.2.2.2.2.2.2.2.2.2.2.2.2.1, .v (.int .i64 r44.2.2.2.2.2.2.2.2.2.2.2.2.2.1), .v (.int .i64 r44.2.2.2.2.2.2.2.2.2.2.2.2.2.2.1), .st r44.2.2.2.2.2.2.2.2.2.2.2.2.2.2.2.1, .v (.bool r44.2.2.2.2.2.2.2.2.2.2.2.2.2.2.2.2.1), .v (.bool r44.2.2.2.2.2.2.2.2.2.2.2.2.2.2.2.2.2), .sl 1 ([].map cdS.enc)]], false⟩, none]⟩) (Wk.frzG2 3 (.inr kr) ⟨.inr (.inl rfl), .inr (.inl rfl), .inr (.inr ⟨_, _, _, _, rfl, rfl, ⟨(.inr ⟨_, _, rfl, rfl, ⟨.inl rfl, .inl rfl, .inl rfl, .inl rfl, .inl rfl, .inl rfl, .inl rfl, .inl rfl, fz_e0, trivial⟩⟩), trivial⟩⟩), .inl rfl, trivial⟩ ⟨⟨.pt 0 0 0, kr, (.inl (.inl rfl))⟩, ⟨.pt 1 0 0, kr, (.inl (.inl rfl))⟩, ⟨.pt 2 0 0, kr, (.inl (.inl rfl))⟩, trivial⟩) (Wk.sel2 [0, 1, 2] kr kr kr ⟨⟨_, rfl, bu_c kr kr⟩, ⟨_, rfl, bu_c kr kr⟩, ⟨_, rfl, bu_c kr kr⟩, trivial⟩ ⟨lu kr kr, lu kr kr, lu kr kr, trivial⟩))))⟩
theorem law03_Guest_j4_ok (r67 : Int × Int × (List UInt8) × (List UInt8) × (List UInt8) × Int × Int × (List UInt8) × Bool × Bool × (List UInt8) × (List UInt8) × (List UInt8) × Int × Int × (List UInt8) × Bool × Bool × (List (List UInt8))) (r : ((List UInt8) × (List UInt8) × (List UInt8) × Int × Int × (List UInt8) × Bool × Bool × (List UInt8) × (List UInt8) × (List UInt8) × Int × Int × (List UInt8) × Bool × Bool × (List (List UInt8)))) (h : law03_Guest_j4 r67 = some r) : Sem E0 ⟨none, false⟩ (pc cb_law03_Guest [1, 1, 1, 1, 1, 0, 1]) ⟨Fr 71 [(2, .pt 0 0 0), (4, .pt 1 0 0), (5, .pt 2 0 0), (62, .v (.bool ((andI .u8 r67.1 128) != 0)))], [some ⟨2, 47, [.ag [.v (.int .u8 r67.1), .v (.int .u8 r67.2.1)]], false⟩, some ⟨9, 44, [.ag [.st r67.2.2.1, .st r67.2.2.2.1, .st r67.2.2.2.2.1, .v (.int .i64 r67.2.2.2.2.2.1), .v (.int .i64 r67.2.2.2.2.2.2.1), .st r67.2.2.2.2.2.2.2.1, .v (.bool r67.2.2.2.2.2.2.2.2.1), .v (.bool r67.2.2.2.2.2.2.2.2.2.1), .e0]], false⟩, some ⟨9, 44, [cdGuest.enc r67.2.2.2.2.2.2.2.2.2.2], false⟩]⟩ (fun e s => e = .normal ∧ Wk E0 s ⟨Fr 71 [(4, .pt 0 0 0), (5, .pt 1 0 0)], [some ⟨9, 44, [.ag [.st r.1, .st r.2.1, .st r.2.2.1, .v (.int .i64 r.2.2.2.1), .v (.int .i64 r.2.2.2.2.1), .st r.2.2.2.2.2.1, .v (.bool r.2.2.2.2.2.2.1), .v (.bool r.2.2.2.2.2.2.2.1), .e0]], false⟩, some ⟨9, 44, [cdGuest.enc r.2.2.2.2.2.2.2.2], false⟩]⟩) := by
 unfold law03_Guest_j4 at h
 refine Sem.cond (b := ((andI .u8 r67.1 128) != 0)) kr (fun hb68 => ?_) (fun hb68 => ?_)
 ·rw [if_pos hb68] at h
  by_cases hk69 : (cutOk (andI .u8 (r67.2.1.fdiv 16) 3) (([97, 98, 99, 100] : List UInt8).length : Int) ([97, 98, 99, 100] : List UInt8).length) = true
  case neg => rw [if_neg hk69] at h; cases h
  rw [if_pos hk69] at h
  by_cases hk70 : (cutOk 0 (1 : Int) ((([97, 98, 99, 100] : List UInt8).take (([97, 98, 99, 100] : List UInt8).length : Int).toNat).drop (andI .u8 (r67.2.1.fdiv 16) 3).toNat).length) = true
  case neg => rw [if_neg hk70] at h; cases h
  rw [if_pos hk70] at h
  let p1 : Option Blk := some ⟨9, 44, [.ag [.st r67.2.2.2.2.2.2.2.2.2.2.1, .st r67.2.2.2.2.2.2.2.2.2.2.2.1, .st r67.2.2.2.2.2.2.2.2.2.2.2.2.1, .v (.int .i64 r67.2.2.2.2.2.2.2.2.2.2.2.2.2.1), .v (.int .i64 r67.2.2.2.2.2.2.2.2.2.2.2.2.2.2.1), .st ((((([97, 98, 99, 100] : List UInt8).take (([97, 98, 99, 100] : List UInt8).length : Int).toNat).drop (andI .u8 (r67.2.1.fdiv 16) 3).toNat).take (1 : Int).toNat).drop (0 : Int).toNat), .v (.bool r67.2.2.2.2.2.2.2.2.2.2.2.2.2.2.2.2.1), .v (.bool r67.2.2.2.2.2.2.2.2.2.2.2.2.2.2.2.2.2.1), .sl 1 (r67.2.2.2.2.2.2.2.2.2.2.2.2.2.2.2.2.2.2.map cdS.enc)]], false⟩
  let p2 : Option Blk := some ⟨9, 44, [.ag [.st r67.2.2.1, .st r67.2.2.2.1, .st r67.2.2.2.2.1, .v (.int .i64 r67.2.2.2.2.2.1), .v (.int .i64 r67.2.2.2.2.2.2.1), .st r67.2.2.2.2.2.2.2.1, .v (.bool r67.2.2.2.2.2.2.2.2.1), .v (.bool r67.2.2.2.2.2.2.2.2.2.1), .e0]], false⟩
  refine Sem.runS (s1 := ⟨Fr 71 [(4, .pt 0 0 0), (5, .pt 1 0 0)], [p2, p1]⟩) ?_ ?_
  ·let p3 : Option Blk := some ⟨2, 47, [.ag [.v (.int .u8 r67.1), .v (.int .u8 r67.2.1)]], false⟩
   refine RunS.segF (n := 71) E0_ok 4 [(4, .pt 1 0 0), (5, .pt 2 0 0), (66, .v (.int .u8 (andI .u8 (r67.2.1.fdiv 16) 3)))] [p3, p2, some ⟨9, 44, [cdGuest.enc r67.2.2.2.2.2.2.2.2.2.2], false⟩] kr ?_
   refine RunS.one E0_ok 0 rfl (op_q (wantedA_none rfl) rfl (q_slice (a := .st [97, 98, 99, 100]) (l := (some (.v (.int .u8 (andI .u8 (r67.2.1.fdiv 16) 3))))) (u := none) (m := none) kr kr kr rfl (slice_st (bs := [97, 98, 99, 100]) (lo := (andI .u8 (r67.2.1.fdiv 16) 3)) (hi := (([97, 98, 99, 100] : List UInt8).length : Int)) kr (natB_i (cut_lo hk69)) rfl hk69))) ?_
   refine RunS.one E0_ok 0 rfl (op_q (wantedA_none rfl) rfl (q_slice (a := .st ((([97, 98, 99, 100] : List UInt8).take (([97, 98, 99, 100] : List UInt8).length : Int).toNat).drop (andI .u8 (r67.2.1.fdiv 16) 3).toNat)) (l := none) (u := (some (.v (.int .i64 1)))) (m := none) kr kr kr rfl (slice_st (bs := ((([97, 98, 99, 100] : List UInt8).take (([97, 98, 99, 100] : List UInt8).length : Int).toNat).drop (andI .u8 (r67.2.1.fdiv 16) 3).toNat)) (lo := 0) (hi := (1 : Int)) kr rfl (natB_i (cut_hi hk70)) hk70))) ?_
   refine RunS.segF (n := 71) E0_ok 2 [(4, .pt 1 0 0), (5, .pt 2 0 0)] [p3, p2, p1] kr ?_
   exact RunS.done rfl (Wk.sel2 [1, 2] kr kr kr ⟨⟨_, rfl, bu_c kr kr⟩, ⟨_, rfl, bu_c kr kr⟩, trivial⟩ ⟨lu kr kr, lu kr kr, trivial⟩)
  have hq := Option.some.inj h; subst hq
  exact ⟨rfl, (Wk.sel2 [0, 1] kr kr kr ⟨⟨_, rfl, bu_c kr kr⟩, ⟨_, rfl, bu_c kr kr⟩, trivial⟩ ⟨lu kr kr, lu kr kr, trivial⟩)⟩
 ·rw [if_f hb68] at h
  refine Sem.skip ?_
  have hq := Option.some.inj h; subst hq
  exact ⟨rfl, (Wk.sel2 [1, 2] kr kr kr ⟨⟨_, rfl, bu_c kr kr⟩, ⟨_, rfl, bu_c kr kr⟩, trivial⟩ ⟨lu kr kr, lu kr kr, trivial⟩)⟩
theorem law03_Guest_sem (x0 : (Int × Int)) (x1 : (List UInt8)) (r : Guest) (h : law03_Guest x0 x1 = some r) : Sem E0 ⟨none, false⟩ cb_law03_Guest ⟨Fr 71 (pairs0 0 (cs_law03_Guest.enc (x0, x1, ()))), []⟩ fun e s' => (e = .normal ∨ e = .ret) ∧ ∃ xs, resA E0.P s'.fr s'.hp Tryz.f88.results.toList = some xs ∧ retA xs = er_law03_Guest r := by
 unfold law03_Guest at h
 refine Sem.wkQ (Sem.wk (s1 := ⟨Fr 71 [(0, .ag [.v (.int .u8 x0.1), .v (.int .u8 x0.2)]), (1, .st x1)], []⟩) (Wk.fr kr) ?_)
 let p1 : Option Blk := some ⟨9, 44, [.ag [.st [], .st [], .st [], .v (.int .i64 0), .v (.int .i64 0), .st [], .v (.bool false), .v (.bool false), .e0]], false⟩
 let p2 : Option Blk := some ⟨2, 47, [.ag [.v (.int .u8 x0.1), .v (.int .u8 x0.2)]], false⟩
 let p3 : Nat × AV := (4, .pt 1 0 0)
 let p4 : Nat × AV := (2, .pt 0 0 0)
 refine Sem.sq E0_ok [(1, .st x1), p4, p3] [p2, p1] ?_
 let p5 : Option Blk := some ⟨9, 44, [.ag [.st x1, .st [], .st [], .v (.int .i64 (wr .i64 (10 * (wr .i64 (x0.2.tmod 4))))), .v (.int .i64 (wr .i64 (x0.1.tmod 3))), .st [], .v (.bool ((andI .u8 x0.1 64) != 0)), .v (.bool ((andI .u8 x0.2 128) != 0)), .e0]], false⟩
 let p6 : Nat × AV := (5, .pt 2 0 0)
 refine Sem.sq E0_ok [p4, p3, p6] [p2, p1, p5] ?_
 refine Sem.seq ?_
 refine Sem.sq E0_ok [p4, p3, p6, (28, .v (.bool ((andI .u8 x0.1 4) != 0)))] [p2, p1, p5] ?_
 obtain ⟨r22, hr22, h⟩ := Option.bind_eq_some_iff.1 h
 refine Sem.cut (law03_Guest_j1_ok x0 x1 _ hr22) ?_
 refine Sem.seq ?_
 refine Sem.sq E0_ok [p4, p3, p6, (39, .v (.bool ((andI .u8 r22.2.1 4) != 0)))] [some ⟨2, 47, [.ag [.v (.int .u8 r22.1), .v (.int .u8 r22.2.1)]], false⟩, some ⟨9, 44, [.ag [.st r22.2.2.1, .st r22.2.2.2.1, .st r22.2.2.2.2.1, .v (.int .i64 r22.2.2.2.2.2.1), .v (.int .i64 r22.2.2.2.2.2.2.1), .st r22.2.2.2.2.2.2.2.1, .v (.bool r22.2.2.2.2.2.2.2.2.1), .v (.bool r22.2.2.2.2.2.2.2.2.2.1), .e0]], false⟩, some ⟨9, 44, [.ag [.st r22.2.2.2.2.2.2.2.2.2.2.1, .st r22.2.2.2.2.2.2.2.2.2.2.2.1, .st r22.2.2.2.2.2.2.2.2.2.2.2.2.1, .v (.int .i64 r22.2.2.2.2.2.2.2.2.2.2.2.2.2.1), .v (.int .i64 r22.2.2.2.2.2.2.2.2.2.2.2.2.2.2.1), .st r22.2.2.2.2.2.2.2.2.2.2.2.2.2.2.2.1, .v (.bool r22.2.2.2.2.2.2.2.2.2.2.2.2.2.2.2.2.1), .v (.bool r22.2.2.2.2.2.2.2.2.2.2.2.2.2.2.2.2.2), .e0]], false⟩] ?_
 obtain ⟨r44, hr44, h⟩ := Option.bind_eq_some_iff.1 h
 refine Sem.cut (law03_Guest_j2_ok r22 _ hr44) ?_
 refine Sem.seq ?_
 refine Sem.sq E0_ok [p4, p3, p6, (50, .v (.bool ((andI .u8 r44.2.1 64) != 0)))] [some ⟨2, 47, [.ag [.v (.int .u8 r44.1), .v (.int .u8 r44.2.1)]], false⟩, some ⟨9, 44, [.ag [.st r44.2.2.1, .st r44.2.2.2.1, .st r44.2.2.2.2.1, .v (.int .i64 r44.2.2.2.2.2.1), .v (.int .i64 r44.2.2.2.2.2.2.1), .st r44.2.2.2.2.2.2.2.1, .v (.bool r44.2.2.2.2.2.2.2.2.1), .v (.bool r44.2.2.2.2.2.2.2.2.2.1), .e0]], false⟩, some ⟨9, 44, [.ag [.st r44.2.2.2.2.2.2.2.2.2.2.1, .st r44.2.2.2.2.2.2.2.2.2.2.2.1, .st r44.2.2.2.2.2.2.2.2.2.2.2.2.1, .v (.int .i64 r44.2.2.2.2.2.2.2.2.2.2.2.2.2.1), .v (.int .i64 r44.2.2.2.2.2.2.2.2.2.2.2.2.2.2.1), .st r44.2.2.2.2.2.2.2.2.2.2.2.2.2.2.2.1, .v (.bool r44.2.2.2.2.2.2.2.2.2.2.2.2.2.2.2.2.1), .v (.bool r44.2.2.2.2.2.2.2.2.2.2.2.2.2.2.2.2.2), .e0]], false⟩] ?_
 obtain ⟨r67, hr67, h⟩ := Option.bind_eq_some_iff.1 h
 refine Sem.cut (law03_Guest_j3_ok r44 _ hr67) ?_
 refine Sem.seq ?_
 refine Sem.sq E0_ok [p4, p3, p6, (62, .v (.bool ((andI .u8 r67.1 128) != 0)))] [some ⟨2, 47, [.ag [.v (.int .u8 r67.1), .v (.int .u8 r67.2.1)]], false⟩, some ⟨9, 44, [.ag [.st r67.2.2.1, .st r67.2.2.2.1, .st r67.2.2.2.2.1, .v (.int .i64 r67.2.2.2.2.2.1), .v (.int .i64 r67.2.2.2.2.2.2.1), .st r67.2.2.2.2.2.2.2.1, .v (.bool r67.2.2.2.2.2.2.2.2.1), .v (.bool r67.2.2.2.2.2.2.2.2.2.1), .e0]], false⟩, some ⟨9, 44, [cdGuest.enc r67.2.2.2.2.2.2.2.2.2.2], false⟩] ?_
 obtain ⟨r88, hr88, h⟩ := Option.bind_eq_some_iff.1 h
 refine Sem.cut (law03_Guest_j4_ok r67 _ hr88) ?_
 refine Sem.seq ?_
 let p7 : Option Blk := some ⟨9, 44, [cdGuest.enc r88.2.2.2.2.2.2.2.2], false⟩
 refine Sem.runS (s1 := ⟨Fr 71 [(4, .pt 0 0 0)], [p7]⟩) ?_ ?_
 ·refine RunS.segF (n := 71) E0_ok 2 [(4, .pt 0 0 0)] [p7, p7] kr ?_
  exact RunS.done rfl (Wk.sel2 [0] kr kr kr ⟨⟨_, rfl, bu_c kr kr⟩, trivial⟩ ⟨lu kr kr, trivial⟩)
 refine Sem.ret ?_
 have hq := Option.some.inj h; subst hq
 exact ⟨⟨Fr 71 [(4, .pt 0 0 0)], [p7]⟩, (Wk.sel2 [0] kr kr kr ⟨⟨_, rfl, bu_c kr kr⟩, trivial⟩ ⟨lu kr kr, trivial⟩), .inr rfl, [cdGuest.enc r88.2.2.2.2.2.2.2.2], kr, kr⟩
def t_law03_Guest : List AV → Option AV := told cs_law03_Guest (fun a => law03_Guest a.1 a.2.1) er_law03_Guest
theorem x_law03_Guest : XOk 88 t_law03_Guest := by
 refine xok_of_sem Tryz.func88 (c := cb_law03_Guest) ?h2 ⟨Tryz.call88⟩ cs_law03_Guest (fun a => law03_Guest a.1 a.2.1) er_law03_Guest (fun a => (by show 2 ≤ 71; decide)) ?h3 ?h4
 case h2 => kernel_rfl
 case h3 => intro b; kernel_rfl
 case h4 => exact fun a b h => law03_Guest_sem a.1 a.2.1 b h
/- trestle/trestlelaw03.Guests -/
noncomputable def cb_law03_Guests : Code := codeOf Tryz.f32
def law03_Guests_l1 (x0 : (List (Int × Int))) (x1 : Int) : Nat → (List Guest) → Int → Option (((List Guest)))
 | 0, _, _ => none
 | f + 1, c2, c3 =>
  if (decide (c3 < (((x0.take (mnI (x0.length : Int) x1).toNat).drop (0 : Int).toNat).length : Int))) = true then
  (idx ((x0.take (mnI (x0.length : Int) x1).toNat).drop (0 : Int).toNat) c3).bind fun v5 =>
  if (okB ([103] ++ (by8 [(wr .u8 (wr .i64 (97 + (wr .i64 (c3.tdiv 26))))), (wr .u8 (wr .i64 (97 + (c3.tmod 26))))]))) = true then
  (law03_Guest (v5.1, v5.2) ([103] ++ (by8 [(wr .u8 (wr .i64 (97 + (wr .i64 (c3.tdiv 26))))), (wr .u8 (wr .i64 (97 + (c3.tmod 26))))]))).bind fun v7 =>
  if (capOk 112 (c2.length + 1)) = true then
  law03_Guests_l1 x0 x1 f (c2 ++ [v7]) (wr .i64 (c3 + 1))
  else none
  else none
  else
  some c2
def law03_Guests (x0 : (List (Int × Int))) (x1 : Int) : Option ((List Guest)) :=
 if (cutOk 0 (mnI (x0.length : Int) x1) x0.length) = true then
 (law03_Guests_l1 x0 x1 100000 [] 0).bind fun r10 =>
 some r10
 else none
def cs_law03_Guests : Cs (((List (Int × Int))) × Int × Unit) := (csC (cdL 2 (cdG2 (cdK .u8) (cdK .u8) (fun _ => rfl) (fun _ => rfl))) (csC cdI csN))
def er_law03_Guests (r : (List Guest)) : AV := (cdL 9 cdGuest).enc r
theorem law03_Guests_l1_ok (x0 : (List (Int × Int))) (x1 : Int) : ∀ (f : Nat) (c2 : (List Guest)) (c3 : Int) (r : ((List Guest))), law03_Guests_l1 x0 x1 f c2 c3 = some r → SemN E0 ⟨none, false⟩ (pc cb_law03_Guests [1, 1, 0, 1, 0, 0]) f ⟨Fr 38 [(5, hd 0 (c2.map cdGuest.enc)), (13, .sl 2 (((x0.take (mnI (x0.length : Int) x1).toNat).drop (0 : Int).toNat).map (cdG2 (cdK .u8) (cdK .u8) (fun _ => rfl) (fun _ => rfl)).enc)), (14, .v (.int .i64 (((x0.take (mnI (x0.length : Int) x1).toNat).drop (0 : Int).toNat).length : Int))), (15, .v (.int .i64 c3))], [mk 9 44 (c2.map cdGuest.enc)]⟩ (fun e s => e = (.exit 0) ∧ Wk E0 s ⟨Fr 38 [(5, hd 0 (r.map cdGuest.enc))], [mk 9 44 (r.map cdGuest.enc)]⟩) := by
 intro f
 induction f with
 | zero => intro c2 c3 r h; cases h
 | succ f ih0 =>
  intro c2 c3 r h
  have ih := fun (c2 : (List Guest)) (c3 : Int) => ih0 c2 c3 r
  unfold law03_Guests_l1 at h
  refine SemN.succ ?_
  let p1 : Option Blk := mk 9 44 (c2.map cdGuest.enc)
  let p2 : Nat × AV := (15, .v (.int .i64 c3))
  let p3 : Nat × AV := (14, .v (.int .i64 (((x0.take (mnI (x0.length : Int) x1).toNat).drop (0 : Int).toNat).length : Int)))
  let p4 : Nat × AV := (13, .sl 2 (((x0.take (mnI (x0.length : Int) x1).toNat).drop (0 : Int).toNat).map (cdG2 (cdK .u8) (cdK .u8) (fun _ => rfl) (fun _ => rfl)).enc))
  let p5 : Nat × AV := (5, hd 0 (c2.map cdGuest.enc))
  refine Sem.sq E0_ok [p5, p4, p3, p2, (16, .v (.bool (decide (c3 < (((x0.take (mnI (x0.length : Int) x1).toNat).drop (0 : Int).toNat).length : Int)))))] [p1] ?_
  refine Sem.seq ?_
  refine Sem.cond (b := (decide (c3 < (((x0.take (mnI (x0.length : Int) x1).toNat).drop (0 : Int).toNat).length : Int)))) kr (fun hb4 => ?_) (fun hb4 => ?_)
  ·rw [if_pos hb4] at h
   refine Sem.skip ?_
   refine Sem.seq ?_
   refine Sem.block ?_
   refine Sem.seq ?_
   obtain ⟨v5, hv5, h⟩ := Option.bind_eq_some_iff.1 h
   let p6 : Option Blk := some ⟨2, 47, [.ag [.v (.int .u8 v5.1), .v (.int .u8 v5.2)]], false⟩
   refine Sem.runS (s1 := ⟨Fr 38 [p5, (6, .v (.int .i64 c3)), (7, .pt 1 0 0), p4, p3, p2], [p1, p6]⟩) ?_ ?_
   ·refine RunS.segF (n := 38) E0_ok 1 [p5, p4, p3, p2, (17, .v (.int .i64 c3))] [p1] kr ?_
    refine RunS.one E0_ok 0 rfl (op_q (wantedA_none rfl) rfl (q_indexAddr (a := .sl 2 (((x0.take (mnI (x0.length : Int) x1).toNat).drop (0 : Int).toNat).map (cdG2 (cdK .u8) (cdK .u8) (fun _ => rfl) (fun _ => rfl)).enc)) (b := .v (.int .i64 c3)) kr kr (ix_sl (e := (cdG2 (cdK .u8) (cdK .u8) (fun _ => rfl) (fun _ => rfl)).enc) (el := 47) (k := 2) (ki := .i64) kr kr hv5))) ?_
    exact RunS.last E0_ok
   by_cases hk6 : (okB ([103] ++ (by8 [(wr .u8 (wr .i64 (97 + (wr .i64 (c3.tdiv 26))))), (wr .u8 (wr .i64 (97 + (c3.tmod 26))))]))) = true
   case neg => rw [if_neg hk6] at h; cases h
   rw [if_pos hk6] at h
   obtain ⟨v7, hv7, h⟩ := Option.bind_eq_some_iff.1 h
   by_cases hk8 : (capOk 112 (c2.length + 1)) = true
   case neg => rw [if_neg hk8] at h; cases h
   rw [if_pos hk8] at h
   let p7 : Option Blk := mk 9 44 ((c2 ++ [v7]).map cdGuest.enc)
   let p8 : Nat × AV := (5, hd 0 ((c2 ++ [v7]).map cdGuest.enc))
   refine Sem.runS (s1 := ⟨Fr 38 [p8, p4, p3, p2], [p7]⟩) ?_ ?_
   ·let p9 : Option Blk := mk 1 5 ([(wr .u8 (wr .i64 (97 + (wr .i64 (c3.tdiv 26))))), (wr .u8 (wr .i64 (97 + (c3.tmod 26))))].map (cdK .u8).enc)
    refine RunS.segF (n := 38) E0_ok 11 [p4, p3, p2, (20, hd 0 (c2.map cdGuest.enc)), (21, .ag [.v (.int .u8 v5.1), .v (.int .u8 v5.2)]), (30, hd 2 ([(wr .u8 (wr .i64 (97 + (wr .i64 (c3.tdiv 26))))), (wr .u8 (wr .i64 (97 + (c3.tmod 26))))].map (cdK .u8).enc))] [p1, p6, p9] kr ?_
    refine RunS.bytes (bb := 2) (lo := 0) (q := 2) (c := 2) (e := 5) [(wr .u8 (wr .i64 (97 + (wr .i64 (c3.tdiv 26))))), (wr .u8 (wr .i64 (97 + (c3.tmod 26))))] rfl (wantedA_none rfl) kr kr kr kr kr kr ?_
    refine RunS.one E0_ok 0 rfl (op_q (wantedA_none rfl) rfl (q_bin (a := .st [103]) (b := .st (by8 [(wr .u8 (wr .i64 (97 + (wr .i64 (c3.tdiv 26))))), (wr .u8 (wr .i64 (97 + (c3.tmod 26))))])) kr kr (cat_st hk6))) ?_
    refine RunS.callV (v := v7) (caps := []) (xs := [.ag [.v (.int .u8 v5.1), .v (.int .u8 v5.2)], .st ([103] ++ (by8 [(wr .u8 (wr .i64 (97 + (wr .i64 (c3.tdiv 26))))), (wr .u8 (wr .i64 (97 + (c3.tmod 26))))]))]) (u := ((v5.1, v5.2), ([103] ++ (by8 [(wr .u8 (wr .i64 (97 + (wr .i64 (c3.tdiv 26))))), (wr .u8 (wr .i64 (97 + (c3.tmod 26))))])), ())) rfl rfl x_law03_Guest rfl (wantedA_none rfl) kr kr (Sl.cons (Sm.enc (c := (cdG2 (cdK .u8) (cdK .u8) (fun _ => rfl) (fun _ => rfl))) (v := (v5.1, v5.2))) (Sl.cons (Sm.enc (c := cdS) (v := ([103] ++ (by8 [(wr .u8 (wr .i64 (97 + (wr .i64 (c3.tdiv 26))))), (wr .u8 (wr .i64 (97 + (c3.tmod 26))))])))) Sl.nil)) (.inr kr) (by dsimp only; exact hv7) ?_
    refine RunS.segF (n := 38) E0_ok 1 [p4, p3, p2, (20, hd 0 (c2.map cdGuest.enc)), (34, hd 3 ([v7].map cdGuest.enc))] [p1, p6, p9, mk 9 44 ([v7].map cdGuest.enc)] kr ?_
    refine RunS.one E0_ok 0 rfl (op_w (wantedA_none rfl) rfl kr kr (w_append (a := hd 0 (c2.map cdGuest.enc)) (b := hd 3 ([v7].map cdGuest.enc)) kr kr (append_B (c := cdGuest) (xs := c2) (vs := [v7]) (k := 9) (bytes := 112) (el := 44) kr kr (elems_hd (t := 44) kr) (List.cons_ne_nil _ _) kr hk8))) ?_
    refine RunS.segF (n := 38) E0_ok 1 [(5, hd 4 ((c2 ++ [v7]).map cdGuest.enc)), p4, p3, p2] [none, p6, p9, mk 9 44 ([v7].map cdGuest.enc), p7] kr ?_
    exact RunS.done rfl (Wk.sel2 [4] kr kr kr ⟨⟨_, rfl, bu_mk⟩, trivial⟩ ⟨lu_hd (b' := 4) kr kr, lu kr kr, lu kr kr, lu kr kr, trivial⟩)
   let p10 : Nat × AV := (15, .v (.int .i64 (wr .i64 (c3 + 1))))
   refine Sem.rg E0_ok [p8, p4, p3, p10] [p7] ?_
   exact SemN.wk (s1 := ⟨Fr 38 [p8, p4, p3, p10], [p7]⟩) (Wk.sel2 [0] kr kr kr ⟨⟨_, rfl, bu_mk⟩, trivial⟩ ⟨lu_hd (b' := 0) kr kr, lu kr kr, lu kr kr, lu kr kr, trivial⟩) (ih (c2 ++ [v7]) (wr .i64 (c3 + 1)) h)
  ·rw [if_f hb4] at h
   refine Sem.exit ?_
   have hq := Option.some.inj h; subst hq
   exact ⟨rfl, (Wk.sel2 [0] kr kr kr ⟨⟨_, rfl, bu_mk⟩, trivial⟩ ⟨lu_hd (b' := 0) kr kr, trivial⟩)⟩
theorem law03_Guests_sem (x0 : (List (Int × Int))) (x1 : Int) (r : (List Guest)) (h : law03_Guests x0 x1 = some r) : Sem E0 ⟨none, false⟩ cb_law03_Guests ⟨Fr 38 (pairs0 0 (cs_law03_Guests.enc (x0, x1, ()))), []⟩ fun e s' => (e = .normal ∨ e = .ret) ∧ ∃ xs, resA E0.P s'.fr s'.hp Tryz.f32.results.toList = some xs ∧ retA xs = er_law03_Guests r := by
 unfold law03_Guests at h
 let p1 : Nat × AV := (1, .v (.int .i64 x1))
 let p2 : Nat × AV := (0, .sl 2 (x0.map (cdG2 (cdK .u8) (cdK .u8) (fun _ => rfl) (fun _ => rfl)).enc))
 refine Sem.wkQ (Sem.wk (s1 := ⟨Fr 38 [p2, p1], []⟩) (Wk.fr kr) ?_)
 refine Sem.sq E0_ok [p2, p1] [] ?_
 refine Sem.sq E0_ok [p2, p1, (5, .e0)] [] ?_
 refine Sem.seq ?_
 refine Sem.seq ?_
 by_cases hk1 : (cutOk 0 (mnI (x0.length : Int) x1) x0.length) = true
 case neg => rw [if_neg hk1] at h; cases h
 rw [if_pos hk1] at h
 let p3 : Nat × AV := (15, .v (.int .i64 0))
 let p4 : Nat × AV := (14, .v (.int .i64 (((x0.take (mnI (x0.length : Int) x1).toNat).drop (0 : Int).toNat).length : Int)))
 let p5 : Nat × AV := (13, .sl 2 (((x0.take (mnI (x0.length : Int) x1).toNat).drop (0 : Int).toNat).map (cdG2 (cdK .u8) (cdK .u8) (fun _ => rfl) (fun _ => rfl)).enc))
 refine Sem.runS (s1 := ⟨Fr 38 [(5, .e0), p5, p4, p3], []⟩) ?_ ?_
 ·let p6 : Nat × AV := (8, .sl 2 (x0.map (cdG2 (cdK .u8) (cdK .u8) (fun _ => rfl) (fun _ => rfl)).enc))
  refine RunS.segF (n := 38) E0_ok 2 [p1, (5, .e0), p6, (9, .sl 2 (x0.map (cdG2 (cdK .u8) (cdK .u8) (fun _ => rfl) (fun _ => rfl)).enc))] [] kr ?_
  refine RunS.one E0_ok 0 rfl (op_q (wantedA_none rfl) rfl (q_len (a := .sl 2 (x0.map (cdG2 (cdK .u8) (cdK .u8) (fun _ => rfl) (fun _ => rfl)).enc)) kr (len_sl (el := 47) kr))) ?_
  refine RunS.segF (n := 38) E0_ok 2 [(5, .e0), p6, (12, .v (.int .i64 (mnI (x0.length : Int) x1)))] [] kr ?_
  refine RunS.one E0_ok 0 rfl (op_q (wantedA_none rfl) rfl (q_slice (a := .sl 2 (x0.map (cdG2 (cdK .u8) (cdK .u8) (fun _ => rfl) (fun _ => rfl)).enc)) (l := none) (u := (some (.v (.int .i64 (mnI (x0.length : Int) x1))))) (m := none) kr kr kr rfl (slice_sl (xs := x0) (e := (cdG2 (cdK .u8) (cdK .u8) (fun _ => rfl) (fun _ => rfl)).enc) (k := 2) (el := 47) (lo := 0) (hi := (mnI (x0.length : Int) x1)) kr kr rfl (natB_i (cut_hi hk1)) hk1))) ?_
  refine RunS.one E0_ok 0 rfl (op_q (wantedA_none rfl) rfl (q_len (a := .sl 2 (((x0.take (mnI (x0.length : Int) x1).toNat).drop (0 : Int).toNat).map (cdG2 (cdK .u8) (cdK .u8) (fun _ => rfl) (fun _ => rfl)).enc)) kr (len_sl (el := 47) kr))) ?_
  exact RunS.last E0_ok
 refine Sem.block ?_
 obtain ⟨r10, hr10, h⟩ := Option.bind_eq_some_iff.1 h
 refine Sem.loop (n := 100000) ?_
 refine Sem.cutN (SemN.wk (s1 := ⟨Fr 38 [(5, hd 0 ([].map cdGuest.enc)), p5, p4, p3], [mk 9 44 ([].map cdGuest.enc)]⟩) (Wk.trans (s1 := ⟨Fr 38 [(5, hd 0 ([].map cdGuest.enc)), p5, p4, p3], [mk 9 44 ([].map cdGuest.enc)]⟩) Wk.none (Wk.sel2 [0] kr kr kr ⟨⟨_, rfl, bu_none⟩, trivial⟩ ⟨lu kr kr, lu kr kr, lu kr kr, lu kr kr, trivial⟩)) (law03_Guests_l1_ok x0 x1 _ [] 0 _ hr10)) ?_
 refine Sem.sq E0_ok [(4, hd 0 (r10.map cdGuest.enc))] [mk 9 44 (r10.map cdGuest.enc)] ?_
 refine Sem.ret ?_
 have hq := Option.some.inj h; subst hq
 let p7 : Nat × AV := (4, .sl 9 (r10.map cdGuest.enc))
 exact ⟨⟨Fr 38 [p7], []⟩, (Wk.trans (s1 := ⟨Fr 38 [p7], [none]⟩) (Wk.frzG 0 (.inl kr) ⟨.inl rfl, trivial⟩ ⟨⟨hd 0 (r10.map cdGuest.enc), kr, fz_hd (t := 44) kr enc_ok⟩, trivial⟩) (Wk.sel2 [] kr kr kr trivial ⟨lu kr kr, trivial⟩)), .inr rfl, [.sl 9 (r10.map cdGuest.enc)], kr, kr⟩
def t_law03_Guests : List AV → Option AV := told cs_law03_Guests (fun a => law03_Guests a.1 a.2.1) er_law03_Guests
theorem x_law03_Guests : XOk 32 t_law03_Guests := by
 refine xok_of_sem Tryz.func32 (c := cb_law03_Guests) ?h2 ⟨Tryz.call32⟩ cs_law03_Guests (fun a => law03_Guests a.1 a.2.1) er_law03_Guests (fun a => (by show 2 ≤ 38; decide)) ?h3 ?h4
 case h2 => kernel_rfl
 case h3 => intro b; kernel_rfl
 case h4 => exact fun a b h => law03_Guests_sem a.1 a.2.1 b h
def keepH : Hp → Bool
 | [] => true
 | none :: r => keepH r
 | some B :: r => !B.fz && B.es.all noRf2 && keepH r
theorem keepH_at : ∀ {h : Hp}, keepH h = true → ∀ (b : Nat) (B : Blk), h[b]? = some (some B) → B.fz = false ∧ B.es.all noRf2 = true
 | [], _, b, B, hb => by simp at hb
 | none :: r, h, 0, B, hb => by simp at hb
 | none :: r, h, b + 1, B, hb => keepH_at (h := r) h b B (by simpa using hb)
 | some B0 :: r, h, b, B, hb => by
  unfold keepH at h
  simp only [Bool.and_eq_true, Bool.not_eq_true'] at h
  cases b with
  | zero =>
   have : B0 = B := by simpa using hb
   subst this
   exact h.1
  | succ b => exact keepH_at h.2 b B (by simpa using hb)
theorem keepH_own {α : Type} {k : Nat} {t : TypeId} {c : Cd α} (xs : List α) : keepH [some ⟨k, t, xs.map c.enc, false⟩] = true := by
 have : (xs.map c.enc).all noRf2 = true := by
  rw [List.all_eq_true]
  intro x hx
  obtain ⟨y, _, rfl⟩ := List.mem_map.1 hx
  exact c.nr y
 show (!false && (xs.map c.enc).all noRf2 && true) = true
 rw [this]; rfl
section
variable {w w' : World} {Z Z' : Nat → Prop} {R R' : List RI} {h h' : Hp}
theorem HR.joinF (hh : HR w Z R h) (st : StepW w Z [] [] w' Z' R' h') (hh' : HR w' Z' R' h') (hf : keepH h' = true) : HR w' Z' (R ++ R') (h ++ h') ∧ Step w Z R h w' Z' (R ++ R') (h ++ h') := by
 have hold : ∀ c, c < w.heap.size → w'.heap[c]? = w.heap[c]? := fun c hc => st.block c hc fun ⟨b, B, r, hb, _⟩ => by simp at hb
 have hr : ∀ (i : Nat) (x : RI), R[i]? = some x → (R ++ R')[i]? = some x := fun i x hx => by
  rw [List.getElem?_append_left (List.getElem?_eq_some_iff.1 hx).1]; exact hx
 have hnew : ∀ c, own R' h' c → w.heap.size ≤ c := fun c hc => (st.own_ c hc).resolve_left fun ⟨b, B, r, hb, _⟩ => by simp at hb
 have hz' : ∀ c, Z' c → Z c ∨ w.heap.size ≤ c := fun c hc => (st.z' c hc).elim .inl fun h => h.elim (fun ⟨b, B, r, hb, _⟩ => by simp at hb) .inr
 have hlen := hh.len
 have hat : ∀ (b : Nat) (B : Blk), (h ++ h')[b]? = some (some B) → (b < h.length ∧ h[b]? = some (some B) ∧ (R ++ R')[b]? = R[b]?) ∨ (∃ j, b = h.length + j ∧ h'[j]? = some (some B) ∧ (R ++ R')[b]? = R'[j]?) := fun b B hb => by
  by_cases hlt : b < h.length
  ·rw [List.getElem?_append_left hlt] at hb
   exact .inl ⟨hlt, hb, List.getElem?_append_left (by omega)⟩
  ·rw [List.getElem?_append_right (by omega)] at hb
   exact .inr ⟨b - h.length, by omega, hb, by rw [List.getElem?_append_right (by omega), hlen]⟩
 have hRb : ∀ (b : Nat) (B : Blk) (r : RI), h[b]? = some (some B) → R[b]? = some r → r.c < w.heap.size := fun b B r h1 h2 => hh.rltL h1 h2
 have hRn : ∀ (j : Nat) (B : Blk) (r : RI), h'[j]? = some (some B) → R'[j]? = some r → w.heap.size ≤ r.c := fun j B r h1 h2 => hnew _ ⟨j, B, r, h1, (keepH_at hf j B h1).1, h2, rfl⟩
 refine ⟨⟨by simp [hh.len, hh'.len], fun b B hB => ?_, fun b b' B B' r r' hB hfz hB' hfz' h1 h2 e => ?_, hh'.zlt⟩, ⟨st.os, st.tape, st.output, st.size, fun c hc _ => hold c hc, fun c hc => ?_, st.z, fun c hc => (hz' c hc).elim .inl fun h => .inr (.inr h), hr⟩⟩
 ·rcases hat b B hB with ⟨hlt, hb, hRR⟩ | ⟨j, rfl, hb, hRR⟩
  ·obtain ⟨r, arr, us, g1, g2, g3, g4, g5, g6, g7, g8, g9, g10⟩ := hh.blk b B hb
   exact ⟨r, arr, us, hRR.trans g1, g2, (hold _ (hRb b B r hb g1)).trans g3, g4, g5, g6, (fun h => st.z _ (g7 h)), (fun h hc => (hz' _ hc).elim (g8 h) fun q => by have := hRb b B r hb g1; omega), ⟨g9.len, fun i x u hx hu => (g9.at_ i x u hx hu).mono (fun c hc => hold c (hh.zlt c hc)) (fun c hc => st.z c hc) hr⟩, g10⟩
  ·obtain ⟨r, arr, us, g1, g2, g3, g4, g5, g6, g7, g8, g9, g10⟩ := hh'.blk j B hb
   obtain ⟨f1, f2⟩ := keepH_at hf j B hb
   exact ⟨r, arr, us, hRR.trans g1, g2, g3, g4, g5, g6, g7, g8, ⟨g9.len, fun i x u hx hu => (noRf2_vr (List.all_eq_true.1 f2 x (List.mem_of_getElem? hx)) (g9.at_ i x u hx hu)).up⟩, g10⟩
 ·rcases hat b B hB with ⟨_, hb, hRR⟩ | ⟨j, rfl, hb, hRR⟩ <;> rcases hat b' B' hB' with ⟨_, hb', hRR'⟩ | ⟨j', rfl, hb', hRR'⟩ <;> rw [hRR] at h1 <;> rw [hRR'] at h2
  ·exact hh.inj b b' B B' r r' hb hfz hb' hfz' h1 h2 e
  ·have := hRb b B r hb h1; have := hRn j' B' r' hb' h2; omega
  ·have := hRb b' B' r' hb' h2; have := hRn j B r hb h1; omega
  ·rw [hh'.inj j j' B B' r r' hb hfz hb' hfz' h1 h2 e]
 ·obtain ⟨b, B, r, h1, h2, h3, rfl⟩ := hc
  rcases hat b B h1 with ⟨_, hb, hRR⟩ | ⟨j, rfl, hb, hRR⟩ <;> rw [hRR] at h3
  ·exact .inl ⟨b, B, r, hb, h2, h3, rfl⟩
  ·exact .inr (hRn j B r hb h3)
end
theorem RunS.callF {E : Env} {ops : Array Oper} {rest rest' : List Oper} {K : St → Prop} {n : Nat} {l : List (Nat × AV)} {hp : Hp} {xs : List AV} {Out : AV → Hp → Prop} (hP : E.P = E0.P) (hG : E.G = E0.G) {d : Nat} {f : Operand} {args : Array Operand} {tys : Array TypeId} {ty : TypeId} {pos : String} {af : Array Edge} {g : Option (Nat × Bool)} {fid : FuncId} (hs : SOk fid xs Out) (hr : rest = ⟨some d, .call ⟨.value f, args, tys⟩, ty, pos, af, g⟩ :: rest') (hw : wantedA ops (Fr n l) ⟨some d, .call ⟨.value f, args, tys⟩, ty, pos, af, g⟩ = some true)
  (hf : opA E (Fr n l) f = some (.fn fid [] [])) (ha : opds (opA E (Fr n l)) args.toList = some xs) (hv : xs.all noRf2 = true) (hfl : ∀ x h', Out x h' → ownFlat x = true ∧ keepH h' = true) (k : ∀ x h', Out x h' → RunS E ops rest' ⟨Fr n ((d, shN hp.length x) :: l), hp ++ h'⟩ K) : RunS E ops rest ⟨Fr n l, hp⟩ K := by
 obtain ⟨P, fns, G, X, I⟩ := E
 simp only at hP hG
 subst hP hG
 subst hr
 intro base Q a w Z R sr q
 have hρ : ∀ o x, opA ⟨E0.P, fns, E0.G, X, I⟩ (Fr n l) o = some x → VR w Z R x (a.eval o) := fun o x e => opA_vr sr o x e
 refine lwl_loud rfl (wantedA_eq sr hw) ?_
 have hva : a.eval f = .func (.func fid) ([] : List Value).toArray ([] : List Value).toArray := by
  have := hρ _ _ hf
  generalize a.eval f = vf at this
  cases this with
  | fn hl hl' hx hy =>
   rename_i u1 u2
   have e1 : u1 = [] := by simpa using hl
   have e2 : u2 = [] := by simpa using hl'
   subst e1 e2; rfl
 unfold Lw
 rw [run_call (uf := []) (uc := []) rfl hva rfl hs.1 w]
 simp only [List.nil_append, List.append_nil]
 have hvs : VRs w Z R xs (args.toList.map a.eval) := opds_vr hρ ha
 have hvs2 : VRs w Z [] xs (args.toList.map a.eval) := ⟨hvs.len, fun i x u hx hu => noRf2_vr (List.all_eq_true.1 hv x (List.mem_of_getElem? hx)) (hvs.at_ i x u hx hu)⟩
 refine Ret.mono (hs.2 w _ _ sr.hh.zlt sr.gl hvs2) fun v w' hS => ?_
 obtain ⟨Z', R', x, h', hO, h1, h2, st⟩ := hS
 obtain ⟨f1, f2⟩ := hfl x h' hO
 obtain ⟨j1, j2⟩ := sr.hh.joinF st h1 f2
 have hlen : R.length = hp.length := sr.hh.len
 have hx := shN_vr (w := w') (Z' := Z') (R := R) hlen f1 h2
 have sr' := (sr.step j1 j2).put (d := some d) hx
 rw [show putA (⟨Fr n l, hp⟩ : St).fr (some d) (shN hp.length x) = Fr n ((d, shN hp.length x) :: l) from putA_Fr n l d _] at sr'
 exact k x h' hO base Q _ w' Z' (R ++ R') sr' fun s' a' w'' Z'' R'' hK sr'' st' => q s' a' w'' Z'' R'' hK sr'' (j2.w.trans st')
/-- A field of an element of an own slice. -/
theorem ld_fld {α : Type} {e : α → AV} {P : Program} {h : Hp} {b k i off m : Nat} {t t' : TypeId} {xs : List α} {v : α} {y : AV} {g : Bool} (hb : h[b]? = some (some ⟨k, t', xs.map e, false⟩)) (hv : xs[i]? = some v) (hm : tySize P t = some m) (hg : tyAgg P t = some g) (hx : getE (e v) off m g = some y) : evLoad P h t (.pt b i off) = some y := by
 have he : (xs.map e)[i]? = some (e v) := by rw [List.getElem?_map, hv]; rfl
 unfold evLoad
 simp only [hm, hg, hb, he, hx]
theorem st_fld {α : Type} {e : α → AV} {P : Program} {h : Hp} {b k i off : Nat} {t t' : TypeId} {xs : List α} {v v' : α} {x : AV} (hb : h[b]? = some (some ⟨k, t', xs.map e, false⟩)) (hv : xs[i]? = some v) (hs : tySize P t = some x.nc) (hn : x.notTp = true) (he : setE (e v) off x = some (e v')) : evStore P h t (.pt b i off) x = some (h.set b (some ⟨k, t', (xs.set i v').map e, false⟩)) := by
 have h1 : (xs.map e)[i]? = some (e v) := by rw [List.getElem?_map, hv]; rfl
 unfold evStore
 simp only [hb, h1]
 rw [if_neg (by simp), if_pos ⟨hs, hn⟩, he, Option.map_some, List.map_set]
/- trestle/court.formed -/
noncomputable def cb_court_formed : Code := codeOf Tryz.f120
def court_formed_j4 (x0 : Clause) : Option ((Bool)) :=
 if (x0.1 == 8) = true then
 some (x0.1 == 8)
 else
 some (x0.1 == 9)
def court_formed_j3 (x0 : Clause) : Option ((Bool)) :=
 if (x0.1 == 3) = true then
 some (x0.1 == 3)
 else
 (court_formed_j4 x0).bind fun r14 =>
 some r14
def court_formed_j2 (x0 : Clause) : Option ((Bool)) :=
 if (x0.1 == 2) = true then
 some (x0.1 == 2)
 else
 (court_formed_j3 x0).bind fun r15 =>
 some r15
def court_formed_j8 (x0 : Clause) : Option ((Bool)) :=
 if (x0.1 == 6) = true then
 some (x0.1 == 6)
 else
 some (x0.1 == 7)
def court_formed_j9 (x0 : Clause) (r33 : Bool) : Option ((Int × Int × Bool) ⊕ (Bool)) :=
 if r33 = true then
 some (.inl (16, 0, true))
 else
 if (x0.1 == 10) = true then
 some (.inl (0, 63, false))
 else
 some (.inr false)
def court_formed_j7 (x0 : Clause) : Option ((Int × Int × Bool) ⊕ (Bool)) :=
 if (x0.1 == 5) = true then
 some (.inl (0, 0, true))
 else
 (court_formed_j8 x0).bind fun r33 =>
 (court_formed_j9 x0 r33).bind fun r40 =>
 match r40 with
 | (.inl w41) =>
  some (.inl (w41.1, w41.2.1, w41.2.2))
 | (.inr w42) =>
  some (.inr w42)
def court_formed_j6 (x0 : Clause) : Option ((Int × Int × Int × Bool) ⊕ (Bool)) :=
 if (x0.1 == 4) = true then
 some (.inl (0, 1, 2, true))
 else
 (court_formed_j7 x0).bind fun r44 =>
 match r44 with
 | (.inl w45) =>
  some (.inl (w45.1, 0, w45.2.1, w45.2.2))
 | (.inr w46) =>
  some (.inr w46)
def court_formed_j5 (x0 : Clause) (r16 : Bool) : Option ((Int × Int × Int × Bool) ⊕ (Bool)) :=
 if r16 = true then
 some (.inl (0, 0, 0, false))
 else
 (court_formed_j6 x0).bind fun r48 =>
 match r48 with
 | (.inl w49) =>
  some (.inl (w49.1, w49.2.1, w49.2.2.1, w49.2.2.2))
 | (.inr w50) =>
  some (.inr w50)
def court_formed_j1 (x0 : Clause) : Option ((Int × Int × Int × Bool) ⊕ (Bool)) :=
 if (x0.1 == 1) = true then
 if (!(x0.2.1 == [])) = true then
 some (.inr false)
 else
 some (.inl (16, 0, 0, false))
 else
 (court_formed_j2 x0).bind fun r16 =>
 (court_formed_j5 x0 r16).bind fun r52 =>
 match r52 with
 | (.inl w53) =>
  some (.inl (w53.1, w53.2.1, w53.2.2.1, w53.2.2.2))
 | (.inr w54) =>
  some (.inr w54)
def court_formed (x0 : Clause) : Option (Bool) :=
 (court_formed_j1 x0).bind fun r55 =>
 match r55 with
 | (.inl w56) =>
  (if (decide ((x0.2.2.2.1.length : Int) ≤ w56.1)) = true then if (w56.1 == 0) = true then if (decide (x0.2.2.2.2 ≥ w56.2.1)) = true then if (decide (x0.2.2.2.2 ≤ w56.2.2.1)) = true then if w56.2.2.2 = true then some true else some (!x0.2.2.1) else some false else some false else if (decide ((x0.2.2.2.1.length : Int) > 0)) = true then if (decide (x0.2.2.2.2 ≥ w56.2.1)) = true then if (decide (x0.2.2.2.2 ≤ w56.2.2.1)) = true then if w56.2.2.2 = true then some true else some (!x0.2.2.1) else some false else some false else some false else some false).bind fun j58 =>
  some j58
 | (.inr w68) =>
  some w68
def cs_court_formed : Cs (Clause × Unit) := (csC cdClause csN)
def er_court_formed (r : Bool) : AV := cdB.enc r
theorem court_formed_j4_ok (x0 : Clause) (r : (Bool)) (h : court_formed_j4 x0 = some r) : Sem E0 ⟨none, false⟩ (pc cb_court_formed [1, 1, 0, 1, 0, 1, 1, 0, 1, 1, 1, 1, 1]) ⟨Fr 63 [(1, .pt 0 0 0), (3, .v (.int .i64 0)), (4, .v (.int .i64 0)), (5, .v (.int .i64 0)), (6, .v (.bool false)), (8, .v (.int .u8 x0.1)), (14, .v (.bool (x0.1 == 8)))], [some ⟨5, 70, [cdClause.enc x0], false⟩]⟩ (fun e s => e = .normal ∧ Wk E0 s ⟨Fr 63 [(1, .pt 0 0 0), (3, .v (.int .i64 0)), (4, .v (.int .i64 0)), (5, .v (.int .i64 0)), (6, .v (.bool false)), (8, .v (.int .u8 x0.1)), (14, .v (.bool r))], [some ⟨5, 70, [cdClause.enc x0], false⟩]⟩) := by
 unfold court_formed_j4 at h
 refine Sem.cond (b := (x0.1 == 8)) kr (fun hb12 => ?_) (fun hb12 => ?_)
 ·rw [if_pos hb12] at h
  refine Sem.skip ?_
  have hq := Option.some.inj h; subst hq
  exact ⟨rfl, (Wk.sel2 [0] kr kr kr ⟨⟨_, rfl, bu_c kr kr⟩, trivial⟩ ⟨lu kr kr, lu kr kr, lu kr kr, lu kr kr, lu kr kr, lu kr kr, lu kr kr, trivial⟩)⟩
 ·rw [if_f hb12] at h
  refine Sem.rg E0_ok [(1, .pt 0 0 0), (3, .v (.int .i64 0)), (4, .v (.int .i64 0)), (5, .v (.int .i64 0)), (6, .v (.bool false)), (8, .v (.int .u8 x0.1)), (14, .v (.bool (x0.1 == 9)))] [some ⟨5, 70, [cdClause.enc x0], false⟩] ?_
  have hq := Option.some.inj h; subst hq
  exact ⟨rfl, (Wk.sel2 [0] kr kr kr ⟨⟨_, rfl, bu_c kr kr⟩, trivial⟩ ⟨lu kr kr, lu kr kr, lu kr kr, lu kr kr, lu kr kr, lu kr kr, lu kr kr, trivial⟩)⟩
theorem court_formed_j3_ok (x0 : Clause) (r : (Bool)) (h : court_formed_j3 x0 = some r) : Sem E0 ⟨none, false⟩ (pc cb_court_formed [1, 1, 0, 1, 0, 1, 1, 0, 1, 1, 1]) ⟨Fr 63 [(1, .pt 0 0 0), (3, .v (.int .i64 0)), (4, .v (.int .i64 0)), (5, .v (.int .i64 0)), (6, .v (.bool false)), (8, .v (.int .u8 x0.1)), (14, .v (.bool (x0.1 == 3)))], [some ⟨5, 70, [cdClause.enc x0], false⟩]⟩ (fun e s => e = .normal ∧ Wk E0 s ⟨Fr 63 [(1, .pt 0 0 0), (3, .v (.int .i64 0)), (4, .v (.int .i64 0)), (5, .v (.int .i64 0)), (6, .v (.bool false)), (8, .v (.int .u8 x0.1)), (14, .v (.bool r))], [some ⟨5, 70, [cdClause.enc x0], false⟩]⟩) := by
 unfold court_formed_j3 at h
 refine Sem.cond (b := (x0.1 == 3)) kr (fun hb10 => ?_) (fun hb10 => ?_)
 ·rw [if_pos hb10] at h
  refine Sem.skip ?_
  have hq := Option.some.inj h; subst hq
  exact ⟨rfl, (Wk.sel2 [0] kr kr kr ⟨⟨_, rfl, bu_c kr kr⟩, trivial⟩ ⟨lu kr kr, lu kr kr, lu kr kr, lu kr kr, lu kr kr, lu kr kr, lu kr kr, trivial⟩)⟩
 ·rw [if_f hb10] at h
  refine Sem.sq E0_ok [(1, .pt 0 0 0), (3, .v (.int .i64 0)), (4, .v (.int .i64 0)), (5, .v (.int .i64 0)), (6, .v (.bool false)), (8, .v (.int .u8 x0.1)), (14, .v (.bool (x0.1 == 8)))] [some ⟨5, 70, [cdClause.enc x0], false⟩] ?_
  obtain ⟨r14, hr14, h⟩ := Option.bind_eq_some_iff.1 h
  refine Sem.cut (court_formed_j4_ok x0 _ hr14) ?_
  have hq := Option.some.inj h; subst hq
  exact ⟨rfl, (Wk.sel2 [0] kr kr kr ⟨⟨_, rfl, bu_c kr kr⟩, trivial⟩ ⟨lu kr kr, lu kr kr, lu kr kr, lu kr kr, lu kr kr, lu kr kr, lu kr kr, trivial⟩)⟩
theorem court_formed_j2_ok (x0 : Clause) (r : (Bool)) (h : court_formed_j2 x0 = some r) : Sem E0 ⟨none, false⟩ (pc cb_court_formed [1, 1, 0, 1, 0, 1, 1, 0, 1]) ⟨Fr 63 [(1, .pt 0 0 0), (3, .v (.int .i64 0)), (4, .v (.int .i64 0)), (5, .v (.int .i64 0)), (6, .v (.bool false)), (8, .v (.int .u8 x0.1)), (14, .v (.bool (x0.1 == 2)))], [some ⟨5, 70, [cdClause.enc x0], false⟩]⟩ (fun e s => e = .normal ∧ Wk E0 s ⟨Fr 63 [(1, .pt 0 0 0), (3, .v (.int .i64 0)), (4, .v (.int .i64 0)), (5, .v (.int .i64 0)), (6, .v (.bool false)), (8, .v (.int .u8 x0.1)), (14, .v (.bool r))], [some ⟨5, 70, [cdClause.enc x0], false⟩]⟩) := by
 unfold court_formed_j2 at h
 refine Sem.cond (b := (x0.1 == 2)) kr (fun hb8 => ?_) (fun hb8 => ?_)
 ·rw [if_pos hb8] at h
  refine Sem.skip ?_
  have hq := Option.some.inj h; subst hq
  exact ⟨rfl, (Wk.sel2 [0] kr kr kr ⟨⟨_, rfl, bu_c kr kr⟩, trivial⟩ ⟨lu kr kr, lu kr kr, lu kr kr, lu kr kr, lu kr kr, lu kr kr, lu kr kr, trivial⟩)⟩
 ·rw [if_f hb8] at h
  refine Sem.sq E0_ok [(1, .pt 0 0 0), (3, .v (.int .i64 0)), (4, .v (.int .i64 0)), (5, .v (.int .i64 0)), (6, .v (.bool false)), (8, .v (.int .u8 x0.1)), (14, .v (.bool (x0.1 == 3)))] [some ⟨5, 70, [cdClause.enc x0], false⟩] ?_
  obtain ⟨r15, hr15, h⟩ := Option.bind_eq_some_iff.1 h
  refine Sem.cut (court_formed_j3_ok x0 _ hr15) ?_
  have hq := Option.some.inj h; subst hq
  exact ⟨rfl, (Wk.sel2 [0] kr kr kr ⟨⟨_, rfl, bu_c kr kr⟩, trivial⟩ ⟨lu kr kr, lu kr kr, lu kr kr, lu kr kr, lu kr kr, lu kr kr, lu kr kr, trivial⟩)⟩
theorem court_formed_j8_ok (x0 : Clause) (r : (Bool)) (h : court_formed_j8 x0 = some r) : Sem E0 ⟨none, false⟩ (pc cb_court_formed [1, 1, 0, 1, 0, 1, 1, 1, 1, 1, 1, 1, 1, 0, 1]) ⟨Fr 63 [(1, .pt 0 0 0), (3, .v (.int .i64 0)), (4, .v (.int .i64 0)), (5, .v (.int .i64 0)), (6, .v (.bool false)), (8, .v (.int .u8 x0.1)), (23, .v (.bool (x0.1 == 6)))], [some ⟨5, 70, [cdClause.enc x0], false⟩]⟩ (fun e s => e = .normal ∧ Wk E0 s ⟨Fr 63 [(1, .pt 0 0 0), (3, .v (.int .i64 0)), (4, .v (.int .i64 0)), (5, .v (.int .i64 0)), (6, .v (.bool false)), (8, .v (.int .u8 x0.1)), (23, .v (.bool r))], [some ⟨5, 70, [cdClause.enc x0], false⟩]⟩) := by
 unfold court_formed_j8 at h
 refine Sem.cond (b := (x0.1 == 6)) kr (fun hb31 => ?_) (fun hb31 => ?_)
 ·rw [if_pos hb31] at h
  refine Sem.skip ?_
  have hq := Option.some.inj h; subst hq
  exact ⟨rfl, (Wk.sel2 [0] kr kr kr ⟨⟨_, rfl, bu_c kr kr⟩, trivial⟩ ⟨lu kr kr, lu kr kr, lu kr kr, lu kr kr, lu kr kr, lu kr kr, lu kr kr, trivial⟩)⟩
 ·rw [if_f hb31] at h
  refine Sem.rg E0_ok [(1, .pt 0 0 0), (3, .v (.int .i64 0)), (4, .v (.int .i64 0)), (5, .v (.int .i64 0)), (6, .v (.bool false)), (8, .v (.int .u8 x0.1)), (23, .v (.bool (x0.1 == 7)))] [some ⟨5, 70, [cdClause.enc x0], false⟩] ?_
  have hq := Option.some.inj h; subst hq
  exact ⟨rfl, (Wk.sel2 [0] kr kr kr ⟨⟨_, rfl, bu_c kr kr⟩, trivial⟩ ⟨lu kr kr, lu kr kr, lu kr kr, lu kr kr, lu kr kr, lu kr kr, lu kr kr, trivial⟩)⟩
theorem court_formed_j9_ok (x0 : Clause) (r33 : Bool) (r : (Int × Int × Bool) ⊕ (Bool)) (h : court_formed_j9 x0 r33 = some r) : Sem E0 ⟨none, false⟩ (pc cb_court_formed [1, 1, 0, 1, 0, 1, 1, 1, 1, 1, 1, 1, 1, 1]) ⟨Fr 63 [(1, .pt 0 0 0), (3, .v (.int .i64 0)), (4, .v (.int .i64 0)), (5, .v (.int .i64 0)), (6, .v (.bool false)), (8, .v (.int .u8 x0.1)), (23, .v (.bool r33))], [some ⟨5, 70, [cdClause.enc x0], false⟩]⟩ (fun e s => match r with
 | (.inl w) => e = .normal ∧ Wk E0 s ⟨Fr 63 [(1, .pt 0 0 0), (3, .v (.int .i64 w.1)), (4, .v (.int .i64 0)), (5, .v (.int .i64 w.2.1)), (6, .v (.bool w.2.2))], [some ⟨5, 70, [cdClause.enc x0], false⟩]⟩
 | (.inr w) => e = .ret ∧ Wk E0 s ⟨Fr 63 [(2, .v (.bool w))], []⟩) := by
 unfold court_formed_j9 at h
 refine Sem.cond (b := r33) kr (fun hb34 => ?_) (fun hb34 => ?_)
 ·rw [if_pos hb34] at h
  refine Sem.rg E0_ok [(1, .pt 0 0 0), (3, .v (.int .i64 16)), (4, .v (.int .i64 0)), (5, .v (.int .i64 0)), (6, .v (.bool true))] [some ⟨5, 70, [cdClause.enc x0], false⟩] ?_
  have hq := Option.some.inj h; subst hq
  exact ⟨rfl, (Wk.sel2 [0] kr kr kr ⟨⟨_, rfl, bu_c kr kr⟩, trivial⟩ ⟨lu kr kr, lu kr kr, lu kr kr, lu kr kr, lu kr kr, trivial⟩)⟩
 ·rw [if_f hb34] at h
  let p1 : Option Blk := some ⟨5, 70, [cdClause.enc x0], false⟩
  refine Sem.sq E0_ok [(1, .pt 0 0 0), (3, .v (.int .i64 0)), (4, .v (.int .i64 0)), (6, .v (.bool false)), (26, .v (.bool (x0.1 == 10)))] [p1] ?_
  refine Sem.cond (b := (x0.1 == 10)) kr (fun hb38 => ?_) (fun hb38 => ?_)
  ·rw [if_pos hb38] at h
   refine Sem.rg E0_ok [(1, .pt 0 0 0), (3, .v (.int .i64 0)), (4, .v (.int .i64 0)), (5, .v (.int .i64 63)), (6, .v (.bool false))] [p1] ?_
   have hq := Option.some.inj h; subst hq
   exact ⟨rfl, (Wk.sel2 [0] kr kr kr ⟨⟨_, rfl, bu_c kr kr⟩, trivial⟩ ⟨lu kr kr, lu kr kr, lu kr kr, lu kr kr, lu kr kr, trivial⟩)⟩
  ·rw [if_f hb38] at h
   refine Sem.seq ?_
   refine Sem.runS (s1 := ⟨Fr 63 [(2, .v (.bool false))], []⟩) ?_ ?_
   ·refine RunS.segF (n := 63) E0_ok 1 [(2, .v (.bool false))] [p1] kr ?_
    exact RunS.done rfl (Wk.sel2 [] kr kr kr trivial ⟨lu kr kr, trivial⟩)
   refine Sem.ret ?_
   have hq := Option.some.inj h; subst hq
   exact ⟨rfl, (Wk.fr kr)⟩
theorem court_formed_j7_ok (x0 : Clause) (r : (Int × Int × Bool) ⊕ (Bool)) (h : court_formed_j7 x0 = some r) : Sem E0 ⟨none, false⟩ (pc cb_court_formed [1, 1, 0, 1, 0, 1, 1, 1, 1, 1, 1, 1]) ⟨Fr 63 [(1, .pt 0 0 0), (3, .v (.int .i64 0)), (4, .v (.int .i64 0)), (5, .v (.int .i64 0)), (6, .v (.bool false)), (8, .v (.int .u8 x0.1)), (21, .v (.bool (x0.1 == 5)))], [some ⟨5, 70, [cdClause.enc x0], false⟩]⟩ (fun e s => match r with
 | (.inl w) => e = .normal ∧ Wk E0 s ⟨Fr 63 [(1, .pt 0 0 0), (3, .v (.int .i64 w.1)), (4, .v (.int .i64 0)), (5, .v (.int .i64 w.2.1)), (6, .v (.bool w.2.2))], [some ⟨5, 70, [cdClause.enc x0], false⟩]⟩
 | (.inr w) => e = .ret ∧ Wk E0 s ⟨Fr 63 [(2, .v (.bool w))], []⟩) := by
 unfold court_formed_j7 at h
 refine Sem.cond (b := (x0.1 == 5)) kr (fun hb27 => ?_) (fun hb27 => ?_)
 ·rw [if_pos hb27] at h
  refine Sem.rg E0_ok [(1, .pt 0 0 0), (3, .v (.int .i64 0)), (4, .v (.int .i64 0)), (5, .v (.int .i64 0)), (6, .v (.bool true))] [some ⟨5, 70, [cdClause.enc x0], false⟩] ?_
  have hq := Option.some.inj h; subst hq
  exact ⟨rfl, (Wk.sel2 [0] kr kr kr ⟨⟨_, rfl, bu_c kr kr⟩, trivial⟩ ⟨lu kr kr, lu kr kr, lu kr kr, lu kr kr, lu kr kr, trivial⟩)⟩
 ·rw [if_f hb27] at h
  refine Sem.seq ?_
  refine Sem.sq E0_ok [(1, .pt 0 0 0), (3, .v (.int .i64 0)), (4, .v (.int .i64 0)), (5, .v (.int .i64 0)), (6, .v (.bool false)), (8, .v (.int .u8 x0.1)), (23, .v (.bool (x0.1 == 6)))] [some ⟨5, 70, [cdClause.enc x0], false⟩] ?_
  obtain ⟨r33, hr33, h⟩ := Option.bind_eq_some_iff.1 h
  refine Sem.cut (court_formed_j8_ok x0 _ hr33) ?_
  obtain ⟨r40, hr40, h⟩ := Option.bind_eq_some_iff.1 h
  rcases r40 with w41 | w42
  ·try dsimp only at h
   refine Sem.cut (court_formed_j9_ok x0 r33 _ hr40) ?_
   have hq := Option.some.inj h; subst hq
   exact ⟨rfl, (Wk.sel2 [0] kr kr kr ⟨⟨_, rfl, bu_c kr kr⟩, trivial⟩ ⟨lu kr kr, lu kr kr, lu kr kr, lu kr kr, lu kr kr, trivial⟩)⟩
  ·try dsimp only at h
   refine Sem.cut (court_formed_j9_ok x0 r33 _ hr40) ?_
   have hq := Option.some.inj h; subst hq
   exact ⟨rfl, (Wk.fr kr)⟩
theorem court_formed_j6_ok (x0 : Clause) (r : (Int × Int × Int × Bool) ⊕ (Bool)) (h : court_formed_j6 x0 = some r) : Sem E0 ⟨none, false⟩ (pc cb_court_formed [1, 1, 0, 1, 0, 1, 1, 1, 1, 1]) ⟨Fr 63 [(1, .pt 0 0 0), (3, .v (.int .i64 0)), (4, .v (.int .i64 0)), (5, .v (.int .i64 0)), (6, .v (.bool false)), (8, .v (.int .u8 x0.1)), (19, .v (.bool (x0.1 == 4)))], [some ⟨5, 70, [cdClause.enc x0], false⟩]⟩ (fun e s => match r with
 | (.inl w) => e = .normal ∧ Wk E0 s ⟨Fr 63 [(1, .pt 0 0 0), (3, .v (.int .i64 w.1)), (4, .v (.int .i64 w.2.1)), (5, .v (.int .i64 w.2.2.1)), (6, .v (.bool w.2.2.2))], [some ⟨5, 70, [cdClause.enc x0], false⟩]⟩
 | (.inr w) => e = .ret ∧ Wk E0 s ⟨Fr 63 [(2, .v (.bool w))], []⟩) := by
 unfold court_formed_j6 at h
 refine Sem.cond (b := (x0.1 == 4)) kr (fun hb22 => ?_) (fun hb22 => ?_)
 ·rw [if_pos hb22] at h
  refine Sem.rg E0_ok [(1, .pt 0 0 0), (3, .v (.int .i64 0)), (4, .v (.int .i64 1)), (5, .v (.int .i64 2)), (6, .v (.bool true))] [some ⟨5, 70, [cdClause.enc x0], false⟩] ?_
  have hq := Option.some.inj h; subst hq
  exact ⟨rfl, (Wk.sel2 [0] kr kr kr ⟨⟨_, rfl, bu_c kr kr⟩, trivial⟩ ⟨lu kr kr, lu kr kr, lu kr kr, lu kr kr, lu kr kr, trivial⟩)⟩
 ·rw [if_f hb22] at h
  refine Sem.sq E0_ok [(1, .pt 0 0 0), (3, .v (.int .i64 0)), (4, .v (.int .i64 0)), (5, .v (.int .i64 0)), (6, .v (.bool false)), (8, .v (.int .u8 x0.1)), (21, .v (.bool (x0.1 == 5)))] [some ⟨5, 70, [cdClause.enc x0], false⟩] ?_
  obtain ⟨r44, hr44, h⟩ := Option.bind_eq_some_iff.1 h
  rcases r44 with w45 | w46
  ·try dsimp only at h
   refine Sem.cut (court_formed_j7_ok x0 _ hr44) ?_
   have hq := Option.some.inj h; subst hq
   exact ⟨rfl, (Wk.sel2 [0] kr kr kr ⟨⟨_, rfl, bu_c kr kr⟩, trivial⟩ ⟨lu kr kr, lu kr kr, lu kr kr, lu kr kr, lu kr kr, trivial⟩)⟩
  ·try dsimp only at h
   refine Sem.cut (court_formed_j7_ok x0 _ hr44) ?_
   have hq := Option.some.inj h; subst hq
   exact ⟨rfl, (Wk.fr kr)⟩
theorem court_formed_j5_ok (x0 : Clause) (r16 : Bool) (r : (Int × Int × Int × Bool) ⊕ (Bool)) (h : court_formed_j5 x0 r16 = some r) : Sem E0 ⟨none, false⟩ (pc cb_court_formed [1, 1, 0, 1, 0, 1, 1, 1]) ⟨Fr 63 [(1, .pt 0 0 0), (3, .v (.int .i64 0)), (4, .v (.int .i64 0)), (5, .v (.int .i64 0)), (6, .v (.bool false)), (8, .v (.int .u8 x0.1)), (14, .v (.bool r16))], [some ⟨5, 70, [cdClause.enc x0], false⟩]⟩ (fun e s => match r with
 | (.inl w) => e = .normal ∧ Wk E0 s ⟨Fr 63 [(1, .pt 0 0 0), (3, .v (.int .i64 w.1)), (4, .v (.int .i64 w.2.1)), (5, .v (.int .i64 w.2.2.1)), (6, .v (.bool w.2.2.2))], [some ⟨5, 70, [cdClause.enc x0], false⟩]⟩
 | (.inr w) => e = .ret ∧ Wk E0 s ⟨Fr 63 [(2, .v (.bool w))], []⟩) := by
 unfold court_formed_j5 at h
 refine Sem.cond (b := r16) kr (fun hb17 => ?_) (fun hb17 => ?_)
 ·rw [if_pos hb17] at h
  refine Sem.skip ?_
  have hq := Option.some.inj h; subst hq
  exact ⟨rfl, (Wk.sel2 [0] kr kr kr ⟨⟨_, rfl, bu_c kr kr⟩, trivial⟩ ⟨lu kr kr, lu kr kr, lu kr kr, lu kr kr, lu kr kr, trivial⟩)⟩
 ·rw [if_f hb17] at h
  refine Sem.sq E0_ok [(1, .pt 0 0 0), (3, .v (.int .i64 0)), (4, .v (.int .i64 0)), (5, .v (.int .i64 0)), (6, .v (.bool false)), (8, .v (.int .u8 x0.1)), (19, .v (.bool (x0.1 == 4)))] [some ⟨5, 70, [cdClause.enc x0], false⟩] ?_
  obtain ⟨r48, hr48, h⟩ := Option.bind_eq_some_iff.1 h
  rcases r48 with w49 | w50
  ·try dsimp only at h
   refine Sem.cut (court_formed_j6_ok x0 _ hr48) ?_
   have hq := Option.some.inj h; subst hq
   exact ⟨rfl, (Wk.sel2 [0] kr kr kr ⟨⟨_, rfl, bu_c kr kr⟩, trivial⟩ ⟨lu kr kr, lu kr kr, lu kr kr, lu kr kr, lu kr kr, trivial⟩)⟩
  ·try dsimp only at h
   refine Sem.cut (court_formed_j6_ok x0 _ hr48) ?_
   have hq := Option.some.inj h; subst hq
   exact ⟨rfl, (Wk.fr kr)⟩
theorem court_formed_j1_ok (x0 : Clause) (r : (Int × Int × Int × Bool) ⊕ (Bool)) (h : court_formed_j1 x0 = some r) : Sem E0 ⟨none, false⟩ (pc cb_court_formed [1, 1, 0, 1, 0, 1]) ⟨Fr 63 [(1, .pt 0 0 0), (3, .v (.int .i64 0)), (4, .v (.int .i64 0)), (5, .v (.int .i64 0)), (6, .v (.bool false)), (8, .v (.int .u8 x0.1)), (9, .v (.bool (x0.1 == 1)))], [some ⟨5, 70, [cdClause.enc x0], false⟩]⟩ (fun e s => match r with
 | (.inl w) => e = .normal ∧ Wk E0 s ⟨Fr 63 [(1, .pt 0 0 0), (3, .v (.int .i64 w.1)), (4, .v (.int .i64 w.2.1)), (5, .v (.int .i64 w.2.2.1)), (6, .v (.bool w.2.2.2))], [some ⟨5, 70, [cdClause.enc x0], false⟩]⟩
 | (.inr w) => e = .ret ∧ Wk E0 s ⟨Fr 63 [(2, .v (.bool w))], []⟩) := by
 unfold court_formed_j1 at h
 refine Sem.cond (b := (x0.1 == 1)) kr (fun hb1 => ?_) (fun hb1 => ?_)
 ·rw [if_pos hb1] at h
  refine Sem.seq ?_
  let p1 : Option Blk := some ⟨5, 70, [cdClause.enc x0], false⟩
  refine Sem.sq E0_ok [(1, .pt 0 0 0), (4, .v (.int .i64 0)), (5, .v (.int .i64 0)), (6, .v (.bool false)), (13, .v (.bool (!(x0.2.1 == []))))] [p1] ?_
  refine Sem.cond (b := (!(x0.2.1 == []))) kr (fun hb2 => ?_) (fun hb2 => ?_)
  ·rw [if_pos hb2] at h
   refine Sem.seq ?_
   refine Sem.runS (s1 := ⟨Fr 63 [(2, .v (.bool false))], []⟩) ?_ ?_
   ·refine RunS.segF (n := 63) E0_ok 1 [(2, .v (.bool false))] [p1] kr ?_
    exact RunS.done rfl (Wk.sel2 [] kr kr kr trivial ⟨lu kr kr, trivial⟩)
   refine Sem.ret ?_
   have hq := Option.some.inj h; subst hq
   exact ⟨rfl, (Wk.fr kr)⟩
  ·rw [if_f hb2] at h
   refine Sem.skip ?_
   refine Sem.rg E0_ok [(1, .pt 0 0 0), (3, .v (.int .i64 16)), (4, .v (.int .i64 0)), (5, .v (.int .i64 0)), (6, .v (.bool false))] [p1] ?_
   have hq := Option.some.inj h; subst hq
   exact ⟨rfl, (Wk.sel2 [0] kr kr kr ⟨⟨_, rfl, bu_c kr kr⟩, trivial⟩ ⟨lu kr kr, lu kr kr, lu kr kr, lu kr kr, lu kr kr, trivial⟩)⟩
 ·rw [if_f hb1] at h
  refine Sem.seq ?_
  refine Sem.sq E0_ok [(1, .pt 0 0 0), (3, .v (.int .i64 0)), (4, .v (.int .i64 0)), (5, .v (.int .i64 0)), (6, .v (.bool false)), (8, .v (.int .u8 x0.1)), (14, .v (.bool (x0.1 == 2)))] [some ⟨5, 70, [cdClause.enc x0], false⟩] ?_
  obtain ⟨r16, hr16, h⟩ := Option.bind_eq_some_iff.1 h
  refine Sem.cut (court_formed_j2_ok x0 _ hr16) ?_
  obtain ⟨r52, hr52, h⟩ := Option.bind_eq_some_iff.1 h
  rcases r52 with w53 | w54
  ·try dsimp only at h
   refine Sem.cut (court_formed_j5_ok x0 r16 _ hr52) ?_
   have hq := Option.some.inj h; subst hq
   exact ⟨rfl, (Wk.sel2 [0] kr kr kr ⟨⟨_, rfl, bu_c kr kr⟩, trivial⟩ ⟨lu kr kr, lu kr kr, lu kr kr, lu kr kr, lu kr kr, trivial⟩)⟩
  ·try dsimp only at h
   refine Sem.cut (court_formed_j5_ok x0 r16 _ hr52) ?_
   have hq := Option.some.inj h; subst hq
   exact ⟨rfl, (Wk.fr kr)⟩
theorem court_formed_sem (x0 : Clause) (r : Bool) (h : court_formed x0 = some r) : Sem E0 ⟨none, false⟩ cb_court_formed ⟨Fr 63 (pairs0 0 (cs_court_formed.enc (x0, ()))), []⟩ fun e s' => (e = .normal ∨ e = .ret) ∧ ∃ xs, resA E0.P s'.fr s'.hp Tryz.f120.results.toList = some xs ∧ retA xs = er_court_formed r := by
 unfold court_formed at h
 refine Sem.wkQ (Sem.wk (s1 := ⟨Fr 63 [(0, cdClause.enc x0)], []⟩) (Wk.fr kr) ?_)
 refine Sem.sq E0_ok [(1, .pt 0 0 0)] [some ⟨5, 70, [cdClause.enc x0], false⟩] ?_
 refine Sem.sq E0_ok [(1, .pt 0 0 0), (3, .v (.int .i64 0)), (4, .v (.int .i64 0)), (5, .v (.int .i64 0)), (6, .v (.bool false))] [some ⟨5, 70, [cdClause.enc x0], false⟩] ?_
 refine Sem.seq ?_
 refine Sem.sq E0_ok [(1, .pt 0 0 0), (3, .v (.int .i64 0)), (4, .v (.int .i64 0)), (5, .v (.int .i64 0)), (6, .v (.bool false)), (8, .v (.int .u8 x0.1))] [some ⟨5, 70, [cdClause.enc x0], false⟩] ?_
 refine Sem.block ?_
 refine Sem.sq E0_ok [(1, .pt 0 0 0), (3, .v (.int .i64 0)), (4, .v (.int .i64 0)), (5, .v (.int .i64 0)), (6, .v (.bool false)), (8, .v (.int .u8 x0.1)), (9, .v (.bool (x0.1 == 1)))] [some ⟨5, 70, [cdClause.enc x0], false⟩] ?_
 obtain ⟨r55, hr55, h⟩ := Option.bind_eq_some_iff.1 h
 rcases r55 with w56 | w68
 ·try dsimp only at h
  refine Sem.cut (court_formed_j1_ok x0 _ hr55) ?_
  refine Sem.seq ?_
  obtain ⟨j58, hj58, h⟩ := Option.bind_eq_some_iff.1 h
  refine Sem.runS (s1 := ⟨Fr 63 [(2, .v (.bool j58))], []⟩) ?_ ?_
  ·refine RunS.segF (n := 63) E0_ok 2 [(1, .pt 0 0 0), (3, .v (.int .i64 w56.1)), (4, .v (.int .i64 w56.2.1)), (5, .v (.int .i64 w56.2.2.1)), (6, .v (.bool w56.2.2.2)), (29, .sl 1 (x0.2.2.2.1.map cdS.enc))] [some ⟨5, 70, [cdClause.enc x0], false⟩] kr ?_
   refine RunS.one E0_ok 0 rfl (op_q (wantedA_none rfl) rfl (q_len (a := .sl 1 (x0.2.2.2.1.map cdS.enc)) kr (len_sl (el := 9) kr))) ?_
   refine RunS.segF (n := 63) E0_ok 3 [(1, .pt 0 0 0), (3, .v (.int .i64 w56.1)), (4, .v (.int .i64 w56.2.1)), (5, .v (.int .i64 w56.2.2.1)), (6, .v (.bool w56.2.2.2)), (33, .v (.bool (decide ((x0.2.2.2.1.length : Int) ≤ w56.1))))] [some ⟨5, 70, [cdClause.enc x0], false⟩] kr ?_
   rcases Bool.eq_false_or_eq_true (decide ((x0.2.2.2.1.length : Int) ≤ w56.1)) with hc59 | hc59
   ·rw [if_pos hc59] at hj58
    rw [hc59]
    refine RunS.segF (n := 63) E0_ok 3 [(1, .pt 0 0 0), (4, .v (.int .i64 w56.2.1)), (5, .v (.int .i64 w56.2.2.1)), (6, .v (.bool w56.2.2.2)), (33, .v (.bool true)), (36, .v (.bool (w56.1 == 0)))] [some ⟨5, 70, [cdClause.enc x0], false⟩] kr ?_
    rcases Bool.eq_false_or_eq_true (w56.1 == 0) with hc60 | hc60
    ·rw [if_pos hc60] at hj58
     rw [hc60]
     refine RunS.segF (n := 63) E0_ok 13 [(1, .pt 0 0 0), (5, .v (.int .i64 w56.2.2.1)), (6, .v (.bool w56.2.2.2)), (49, .v (.bool (decide (x0.2.2.2.2 ≥ w56.2.1))))] [some ⟨5, 70, [cdClause.enc x0], false⟩] kr ?_
     rcases Bool.eq_false_or_eq_true (decide (x0.2.2.2.2 ≥ w56.2.1)) with hc61 | hc61
     ·rw [if_pos hc61] at hj58
      rw [hc61]
      refine RunS.segF (n := 63) E0_ok 6 [(1, .pt 0 0 0), (6, .v (.bool w56.2.2.2)), (55, .v (.bool (decide (x0.2.2.2.2 ≤ w56.2.2.1))))] [some ⟨5, 70, [cdClause.enc x0], false⟩] kr ?_
      rcases Bool.eq_false_or_eq_true (decide (x0.2.2.2.2 ≤ w56.2.2.1)) with hc62 | hc62
      ·rw [if_pos hc62] at hj58
       rw [hc62]
       refine RunS.segF (n := 63) E0_ok 2 [(1, .pt 0 0 0), (55, .v (.bool true)), (57, .v (.bool w56.2.2.2))] [some ⟨5, 70, [cdClause.enc x0], false⟩] kr ?_
       rcases Bool.eq_false_or_eq_true w56.2.2.2 with hc63 | hc63
       ·rw [if_pos hc63] at hj58
        rw [hc63]
        refine RunS.segF (n := 63) E0_ok 6 [(2, .v (.bool true))] [some ⟨5, 70, [cdClause.enc x0], false⟩] kr ?_
        have hq := Option.some.inj hj58; subst hq
        exact RunS.done rfl (Wk.sel2 [] kr kr kr trivial ⟨lu kr kr, trivial⟩)
       ·rw [if_f hc63] at hj58
        rw [hc63]
        refine RunS.segF (n := 63) E0_ok 6 [(2, .v (.bool (!x0.2.2.1)))] [some ⟨5, 70, [cdClause.enc x0], false⟩] kr ?_
        have hq := Option.some.inj hj58; subst hq
        exact RunS.done rfl (Wk.sel2 [] kr kr kr trivial ⟨lu kr kr, trivial⟩)
      ·rw [if_f hc62] at hj58
       rw [hc62]
       refine RunS.segF (n := 63) E0_ok 8 [(2, .v (.bool false))] [some ⟨5, 70, [cdClause.enc x0], false⟩] kr ?_
       have hq := Option.some.inj hj58; subst hq
       exact RunS.done rfl (Wk.sel2 [] kr kr kr trivial ⟨lu kr kr, trivial⟩)
     ·rw [if_f hc61] at hj58
      rw [hc61]
      refine RunS.segF (n := 63) E0_ok 14 [(2, .v (.bool false))] [some ⟨5, 70, [cdClause.enc x0], false⟩] kr ?_
      have hq := Option.some.inj hj58; subst hq
      exact RunS.done rfl (Wk.sel2 [] kr kr kr trivial ⟨lu kr kr, trivial⟩)
    ·rw [if_f hc60] at hj58
     rw [hc60]
     refine RunS.segF (n := 63) E0_ok 2 [(1, .pt 0 0 0), (4, .v (.int .i64 w56.2.1)), (5, .v (.int .i64 w56.2.2.1)), (6, .v (.bool w56.2.2.2)), (33, .v (.bool true)), (36, .v (.bool false)), (38, .sl 1 (x0.2.2.2.1.map cdS.enc))] [some ⟨5, 70, [cdClause.enc x0], false⟩] kr ?_
     refine RunS.one E0_ok 0 rfl (op_q kr rfl (q_len (a := .sl 1 (x0.2.2.2.1.map cdS.enc)) kr (len_sl (el := 9) kr))) ?_
     refine RunS.segF (n := 63) E0_ok 4 [(1, .pt 0 0 0), (4, .v (.int .i64 w56.2.1)), (5, .v (.int .i64 w56.2.2.1)), (6, .v (.bool w56.2.2.2)), (43, .v (.bool (decide ((x0.2.2.2.1.length : Int) > 0))))] [some ⟨5, 70, [cdClause.enc x0], false⟩] kr ?_
     rcases Bool.eq_false_or_eq_true (decide ((x0.2.2.2.1.length : Int) > 0)) with hc64 | hc64
     ·rw [if_pos hc64] at hj58
      rw [hc64]
      refine RunS.segF (n := 63) E0_ok 6 [(1, .pt 0 0 0), (5, .v (.int .i64 w56.2.2.1)), (6, .v (.bool w56.2.2.2)), (49, .v (.bool (decide (x0.2.2.2.2 ≥ w56.2.1))))] [some ⟨5, 70, [cdClause.enc x0], false⟩] kr ?_
      rcases Bool.eq_false_or_eq_true (decide (x0.2.2.2.2 ≥ w56.2.1)) with hc65 | hc65
      ·rw [if_pos hc65] at hj58
       rw [hc65]
       refine RunS.segF (n := 63) E0_ok 6 [(1, .pt 0 0 0), (6, .v (.bool w56.2.2.2)), (55, .v (.bool (decide (x0.2.2.2.2 ≤ w56.2.2.1))))] [some ⟨5, 70, [cdClause.enc x0], false⟩] kr ?_
       rcases Bool.eq_false_or_eq_true (decide (x0.2.2.2.2 ≤ w56.2.2.1)) with hc66 | hc66
       ·rw [if_pos hc66] at hj58
        rw [hc66]
        refine RunS.segF (n := 63) E0_ok 2 [(1, .pt 0 0 0), (55, .v (.bool true)), (57, .v (.bool w56.2.2.2))] [some ⟨5, 70, [cdClause.enc x0], false⟩] kr ?_
        rcases Bool.eq_false_or_eq_true w56.2.2.2 with hc67 | hc67
        ·rw [if_pos hc67] at hj58
         rw [hc67]
         refine RunS.segF (n := 63) E0_ok 6 [(2, .v (.bool true))] [some ⟨5, 70, [cdClause.enc x0], false⟩] kr ?_
         have hq := Option.some.inj hj58; subst hq
         exact RunS.done rfl (Wk.sel2 [] kr kr kr trivial ⟨lu kr kr, trivial⟩)
        ·rw [if_f hc67] at hj58
         rw [hc67]
         refine RunS.segF (n := 63) E0_ok 6 [(2, .v (.bool (!x0.2.2.1)))] [some ⟨5, 70, [cdClause.enc x0], false⟩] kr ?_
         have hq := Option.some.inj hj58; subst hq
         exact RunS.done rfl (Wk.sel2 [] kr kr kr trivial ⟨lu kr kr, trivial⟩)
       ·rw [if_f hc66] at hj58
        rw [hc66]
        refine RunS.segF (n := 63) E0_ok 8 [(2, .v (.bool false))] [some ⟨5, 70, [cdClause.enc x0], false⟩] kr ?_
        have hq := Option.some.inj hj58; subst hq
        exact RunS.done rfl (Wk.sel2 [] kr kr kr trivial ⟨lu kr kr, trivial⟩)
      ·rw [if_f hc65] at hj58
       rw [hc65]
       refine RunS.segF (n := 63) E0_ok 14 [(2, .v (.bool false))] [some ⟨5, 70, [cdClause.enc x0], false⟩] kr ?_
       have hq := Option.some.inj hj58; subst hq
       exact RunS.done rfl (Wk.sel2 [] kr kr kr trivial ⟨lu kr kr, trivial⟩)
     ·rw [if_f hc64] at hj58
      rw [hc64]
      refine RunS.segF (n := 63) E0_ok 20 [(2, .v (.bool false))] [some ⟨5, 70, [cdClause.enc x0], false⟩] kr ?_
      have hq := Option.some.inj hj58; subst hq
      exact RunS.done rfl (Wk.sel2 [] kr kr kr trivial ⟨lu kr kr, trivial⟩)
   ·rw [if_f hc59] at hj58
    rw [hc59]
    refine RunS.segF (n := 63) E0_ok 30 [(2, .v (.bool false))] [some ⟨5, 70, [cdClause.enc x0], false⟩] kr ?_
    have hq := Option.some.inj hj58; subst hq
    exact RunS.done rfl (Wk.sel2 [] kr kr kr trivial ⟨lu kr kr, trivial⟩)
  refine Sem.ret ?_
  have hq := Option.some.inj h; subst hq
  exact ⟨⟨Fr 63 [(2, .v (.bool j58))], []⟩, (Wk.fr kr), .inr rfl, [.v (.bool j58)], kr, kr⟩
 ·try dsimp only at h
  refine Sem.cut (court_formed_j1_ok x0 _ hr55) ?_
  have hq := Option.some.inj h; subst hq
  exact ⟨⟨Fr 63 [(2, .v (.bool w68))], []⟩, (Wk.fr kr), .inr rfl, [.v (.bool w68)], kr, kr⟩
def t_court_formed : List AV → Option AV := told cs_court_formed (fun a => court_formed a.1) er_court_formed
theorem x_court_formed : XOk 120 t_court_formed := by
 refine xok_of_sem Tryz.func120 (c := cb_court_formed) ?h2 ⟨Tryz.call120⟩ cs_court_formed (fun a => court_formed a.1) er_court_formed (fun a => (by show 1 ≤ 63; decide)) ?h3 ?h4
 case h2 => kernel_rfl
 case h3 => intro b; kernel_rfl
 case h4 => exact fun a b h => court_formed_sem a.1 b h
/- trestle/court.name -/
noncomputable def cb_court_name : Code := codeOf Tryz.f121
def court_name_l1 (x0 : (List UInt8)) : Nat → Int → Option ((Unit) ⊕ (Bool))
 | 0, _ => none
 | f + 1, c1 =>
  if (decide (c1 < (x0.length : Int))) = true then
  (idx x0 c1).bind fun v3 =>
  (if (decide ((v3.toNat : Int) < 97)) = true then some true else (idx x0 c1).bind fun v4 =>
  some (decide ((v4.toNat : Int) > 122))).bind fun j6 =>
  if j6 = true then
  some (.inr false)
  else
  court_name_l1 x0 f (wr .i64 (c1 + 1))
  else
  some (.inl ())
def court_name (x0 : (List UInt8)) : Option (Bool) :=
 (court_name_l1 x0 100000 0).bind fun r10 =>
 match r10 with
 | (.inl w11) =>
  (if (decide ((x0.length : Int) ≥ 1)) = true then some (decide ((x0.length : Int) ≤ 12)) else some false).bind fun j13 =>
  some j13
 | (.inr w15) =>
  some w15
def cs_court_name : Cs ((List UInt8) × Unit) := (csC cdS csN)
def er_court_name (r : Bool) : AV := cdB.enc r
theorem court_name_l1_ok (x0 : (List UInt8)) : ∀ (f : Nat) (c1 : Int) (r : (Unit) ⊕ (Bool)), court_name_l1 x0 f c1 = some r → SemN E0 ⟨none, false⟩ (pc cb_court_name [1, 0, 1, 0, 0]) f ⟨Fr 28 [(0, .st x0), (3, .v (.int .i64 c1))], []⟩ (fun e s => match r with
 | (.inl w) => e = (.exit 0) ∧ Wk E0 s ⟨Fr 28 [(0, .st x0)], []⟩
 | (.inr w) => e = .ret ∧ Wk E0 s ⟨Fr 28 [(2, .v (.bool w))], []⟩) := by
 intro f
 induction f with
 | zero => intro c1 r h; cases h
 | succ f ih0 =>
  intro c1 r h
  have ih := fun (c1 : Int) => ih0 c1 r
  unfold court_name_l1 at h
  refine SemN.succ ?_
  refine Sem.seq ?_
  refine Sem.sq E0_ok [(0, .st x0), (3, .v (.int .i64 c1)), (7, .v (.bool (decide (c1 < (x0.length : Int)))))] [] ?_
  refine Sem.cond (b := (decide (c1 < (x0.length : Int)))) kr (fun hb2 => ?_) (fun hb2 => ?_)
  ·rw [if_pos hb2] at h
   refine Sem.skip ?_
   refine Sem.seq ?_
   refine Sem.block ?_
   refine Sem.seq ?_
   obtain ⟨v3, hv3, h⟩ := Option.bind_eq_some_iff.1 h
   obtain ⟨j6, hj6, h⟩ := Option.bind_eq_some_iff.1 h
   refine Sem.runS (s1 := ⟨Fr 28 [(0, .st x0), (3, .v (.int .i64 c1)), (19, .v (.bool j6))], []⟩) ?_ ?_
   ·refine RunS.segF (n := 28) E0_ok 2 [(0, .st x0), (3, .v (.int .i64 c1)), (10, .st x0), (11, .v (.int .i64 c1))] [] kr ?_
    refine RunS.one E0_ok 0 rfl (op_q (wantedA_none rfl) rfl (q_index (a := .st x0) (b := .v (.int .i64 c1)) kr kr (index_st (bs := x0) (ki := .i64) kr hv3))) ?_
    refine RunS.segF (n := 28) E0_ok 2 [(0, .st x0), (3, .v (.int .i64 c1)), (14, .v (.bool (decide ((v3.toNat : Int) < 97))))] [] kr ?_
    rcases Bool.eq_false_or_eq_true (decide ((v3.toNat : Int) < 97)) with hc9 | hc9
    ·rw [if_pos hc9] at hj6
     rw [hc9]
     refine RunS.segF (n := 28) E0_ok 5 [(0, .st x0), (3, .v (.int .i64 c1)), (15, .tp []), (16, .tp []), (17, .tp []), (18, .tp []), (19, .v (.bool true))] [] kr ?_
     have hq := Option.some.inj hj6; subst hq
     exact RunS.done rfl (Wk.fr kr)
    ·rw [if_f hc9] at hj6
     rw [hc9]
     refine RunS.segF (n := 28) E0_ok 2 [(0, .st x0), (3, .v (.int .i64 c1)), (14, .v (.bool false)), (15, .st x0), (16, .v (.int .i64 c1))] [] kr ?_
     obtain ⟨v4, hv4, hj6⟩ := Option.bind_eq_some_iff.1 hj6
     refine RunS.one E0_ok 0 rfl (op_q kr rfl (q_index (a := .st x0) (b := .v (.int .i64 c1)) kr kr (index_st (bs := x0) (ki := .i64) kr hv4))) ?_
     refine RunS.segF (n := 28) E0_ok 2 [(0, .st x0), (3, .v (.int .i64 c1)), (15, .st x0), (16, .v (.int .i64 c1)), (17, .v (.int .u8 (v4.toNat : Int))), (18, .v (.bool (decide ((v4.toNat : Int) > 122)))), (19, .v (.bool (decide ((v4.toNat : Int) > 122))))] [] kr ?_
     have hq := Option.some.inj hj6; subst hq
     exact RunS.done rfl (Wk.fr kr)
   refine Sem.cond (b := j6) kr (fun hb7 => ?_) (fun hb7 => ?_)
   ·rw [if_pos hb7] at h
    refine Sem.sq E0_ok [(2, .v (.bool false))] [] ?_
    refine Sem.ret ?_
    have hq := Option.some.inj h; subst hq
    exact ⟨rfl, (Wk.fr kr)⟩
   ·rw [if_f hb7] at h
    refine Sem.skip ?_
    refine Sem.rg E0_ok [(0, .st x0), (3, .v (.int .i64 (wr .i64 (c1 + 1))))] [] ?_
    exact SemN.wk (s1 := ⟨Fr 28 [(0, .st x0), (3, .v (.int .i64 (wr .i64 (c1 + 1))))], []⟩) (Wk.fr kr) (ih (wr .i64 (c1 + 1)) h)
  ·rw [if_f hb2] at h
   refine Sem.exit ?_
   have hq := Option.some.inj h; subst hq
   exact ⟨rfl, (Wk.fr kr)⟩
theorem court_name_sem (x0 : (List UInt8)) (r : Bool) (h : court_name x0 = some r) : Sem E0 ⟨none, false⟩ cb_court_name ⟨Fr 28 (pairs0 0 (cs_court_name.enc (x0, ()))), []⟩ fun e s' => (e = .normal ∨ e = .ret) ∧ ∃ xs, resA E0.P s'.fr s'.hp Tryz.f121.results.toList = some xs ∧ retA xs = er_court_name r := by
 unfold court_name at h
 refine Sem.wkQ (Sem.wk (s1 := ⟨Fr 28 [(0, .st x0)], []⟩) (Wk.fr kr) ?_)
 refine Sem.sq E0_ok [(0, .st x0)] [] ?_
 refine Sem.seq ?_
 refine Sem.sq E0_ok [(0, .st x0), (3, .v (.int .i64 0))] [] ?_
 refine Sem.block ?_
 obtain ⟨r10, hr10, h⟩ := Option.bind_eq_some_iff.1 h
 refine Sem.loop (n := 100000) ?_
 rcases r10 with w11 | w15
 ·try dsimp only at h
  refine Sem.cutN (SemN.wk (s1 := ⟨Fr 28 [(0, .st x0), (3, .v (.int .i64 0))], []⟩) (Wk.fr kr) (court_name_l1_ok x0 _ 0 _ hr10)) ?_
  refine Sem.seq ?_
  obtain ⟨j13, hj13, h⟩ := Option.bind_eq_some_iff.1 h
  refine Sem.runS (s1 := ⟨Fr 28 [(2, .v (.bool j13))], []⟩) ?_ ?_
  ·refine RunS.segF (n := 28) E0_ok 4 [(0, .st x0), (23, .v (.bool (decide ((x0.length : Int) ≥ 1))))] [] kr ?_
   rcases Bool.eq_false_or_eq_true (decide ((x0.length : Int) ≥ 1)) with hc14 | hc14
   ·rw [if_pos hc14] at hj13
    rw [hc14]
    refine RunS.segF (n := 28) E0_ok 5 [(2, .v (.bool (decide ((x0.length : Int) ≤ 12))))] [] kr ?_
    have hq := Option.some.inj hj13; subst hq
    exact RunS.done rfl (Wk.fr kr)
   ·rw [if_f hc14] at hj13
    rw [hc14]
    refine RunS.segF (n := 28) E0_ok 5 [(2, .v (.bool false))] [] kr ?_
    have hq := Option.some.inj hj13; subst hq
    exact RunS.done rfl (Wk.fr kr)
  refine Sem.ret ?_
  have hq := Option.some.inj h; subst hq
  exact ⟨⟨Fr 28 [(2, .v (.bool j13))], []⟩, (Wk.fr kr), .inr rfl, [.v (.bool j13)], kr, kr⟩
 ·try dsimp only at h
  refine Sem.cutN (SemN.wk (s1 := ⟨Fr 28 [(0, .st x0), (3, .v (.int .i64 0))], []⟩) (Wk.fr kr) (court_name_l1_ok x0 _ 0 _ hr10)) ?_
  have hq := Option.some.inj h; subst hq
  exact ⟨⟨Fr 28 [(2, .v (.bool w15))], []⟩, (Wk.fr kr), .inr rfl, [.v (.bool w15)], kr, kr⟩
def t_court_name : List AV → Option AV := told cs_court_name (fun a => court_name a.1) er_court_name
theorem x_court_name : XOk 121 t_court_name := by
 refine xok_of_sem Tryz.func121 (c := cb_court_name) ?h2 ⟨Tryz.call121⟩ cs_court_name (fun a => court_name a.1) er_court_name (fun a => (by show 1 ≤ 28; decide)) ?h3 ?h4
 case h2 => kernel_rfl
 case h3 => intro b; kernel_rfl
 case h4 => exact fun a b h => court_name_sem a.1 b h
/- trestle/court.check$1 -/
noncomputable def cb_court_check_1 : Code := codeOf Tryz.f122
def court_check_1 (x0 : (List UInt8)) : Option (Bool) :=
 (court_name x0).bind fun v1 =>
 some (!v1)
def cs_court_check_1 : Cs ((List UInt8) × Unit) := (csC cdS csN)
def er_court_check_1 (r : Bool) : AV := cdB.enc r
theorem court_check_1_sem (x0 : (List UInt8)) (r : Bool) (h : court_check_1 x0 = some r) : Sem E0 ⟨none, false⟩ cb_court_check_1 ⟨Fr 6 (pairs0 0 (cs_court_check_1.enc (x0, ()))), []⟩ fun e s' => (e = .normal ∨ e = .ret) ∧ ∃ xs, resA E0.P s'.fr s'.hp Tryz.f122.results.toList = some xs ∧ retA xs = er_court_check_1 r := by
 unfold court_check_1 at h
 refine Sem.wkQ (Sem.wk (s1 := ⟨Fr 6 [(0, .st x0)], []⟩) (Wk.fr kr) ?_)
 refine Sem.sq E0_ok [(0, .st x0)] [] ?_
 refine Sem.seq ?_
 obtain ⟨v1, hv1, h⟩ := Option.bind_eq_some_iff.1 h
 refine Sem.runS (s1 := ⟨Fr 6 [(2, .v (.bool (!v1)))], []⟩) ?_ ?_
 ·refine RunS.segF (n := 6) E0_ok 1 [(3, .st x0)] [] kr ?_
  refine RunS.callV (caps := []) (xs := [.st x0]) (u := (x0, ())) rfl rfl x_court_name rfl (wantedA_none rfl) kr kr (Sl.cons (Sm.enc (c := cdS) (v := x0)) Sl.nil) (.inl kr) hv1 ?_
  exact RunS.last E0_ok
 refine Sem.ret ?_
 have hq := Option.some.inj h; subst hq
 exact ⟨⟨Fr 6 [(2, .v (.bool (!v1)))], []⟩, (Wk.fr kr), .inr rfl, [.v (.bool (!v1))], kr, kr⟩
def t_court_check_1 : List AV → Option AV := told cs_court_check_1 (fun a => court_check_1 a.1) er_court_check_1
theorem x_court_check_1 : XOk 122 t_court_check_1 := by
 refine xok_of_sem Tryz.func122 (c := cb_court_check_1) ?h2 ⟨Tryz.call122⟩ cs_court_check_1 (fun a => court_check_1 a.1) er_court_check_1 (fun a => (by show 1 ≤ 6; decide)) ?h3 ?h4
 case h2 => kernel_rfl
 case h3 => intro b; kernel_rfl
 case h4 => exact fun a b h => court_check_1_sem a.1 b h
/- slices.IndexFunc[[]string,string] -/
noncomputable def cb_slices_IndexFunc_string_string__court_check_1 : Code := codeOf Tryz.f100
def slices_IndexFunc_string_string__court_check_1_l1 (x0 : (List (List UInt8))) : Nat → Int → Option ((Unit) ⊕ (Int))
 | 0, _ => none
 | f + 1, c1 =>
  if (decide (c1 < (x0.length : Int))) = true then
  (idx x0 c1).bind fun v3 =>
  (court_check_1 v3).bind fun v4 =>
  if v4 = true then
  some (.inr c1)
  else
  slices_IndexFunc_string_string__court_check_1_l1 x0 f (wr .i64 (c1 + 1))
  else
  some (.inl ())
def slices_IndexFunc_string_string__court_check_1 (x0 : (List (List UInt8))) : Option (Int) :=
 (slices_IndexFunc_string_string__court_check_1_l1 x0 100000 0).bind fun r7 =>
 match r7 with
 | (.inl w8) =>
  some (-1)
 | (.inr w9) =>
  some w9
def cs_slices_IndexFunc_string_string__court_check_1 : Cs ((List (List UInt8)) × Unit × Unit) := (csC (cdL 1 cdS) (csC (cdF 122 csN (fun _ => rfl)) csN))
def er_slices_IndexFunc_string_string__court_check_1 (r : Int) : AV := cdI.enc r
theorem slices_IndexFunc_string_string__court_check_1_l1_ok (x0 : (List (List UInt8))) : ∀ (f : Nat) (c1 : Int) (r : (Unit) ⊕ (Int)), slices_IndexFunc_string_string__court_check_1_l1 x0 f c1 = some r → SemN E0 ⟨none, false⟩ (pc cb_slices_IndexFunc_string_string__court_check_1 [1, 0, 1, 0, 0]) f ⟨Fr 19 [(0, .sl 1 (x0.map cdS.enc)), (1, .fn 122 [] []), (7, .v (.int .i64 (x0.length : Int))), (8, .v (.int .i64 c1))], []⟩ (fun e s => match r with
 | (.inl w) => e = (.exit 0) ∧ Wk E0 s ⟨Fr 19 [], []⟩
 | (.inr w) => e = .ret ∧ Wk E0 s ⟨Fr 19 [(4, .v (.int .i64 w))], []⟩) := by
 intro f
 induction f with
 | zero => intro c1 r h; cases h
 | succ f ih0 =>
  intro c1 r h
  have ih := fun (c1 : Int) => ih0 c1 r
  unfold slices_IndexFunc_string_string__court_check_1_l1 at h
  refine SemN.succ ?_
  let p1 : Nat × AV := (8, .v (.int .i64 c1))
  let p2 : Nat × AV := (7, .v (.int .i64 (x0.length : Int)))
  let p3 : Nat × AV := (1, .fn 122 [] [])
  let p4 : Nat × AV := (0, .sl 1 (x0.map cdS.enc))
  refine Sem.sq E0_ok [p4, p3, p2, p1, (9, .v (.bool (decide (c1 < (x0.length : Int)))))] [] ?_
  refine Sem.seq ?_
  refine Sem.cond (b := (decide (c1 < (x0.length : Int)))) kr (fun hb2 => ?_) (fun hb2 => ?_)
  ·rw [if_pos hb2] at h
   refine Sem.skip ?_
   refine Sem.seq ?_
   refine Sem.block ?_
   let p5 : Nat × AV := (5, .v (.int .i64 c1))
   refine Sem.sq E0_ok [p4, p3, p5, p2, p1] [] ?_
   refine Sem.seq ?_
   obtain ⟨v3, hv3, h⟩ := Option.bind_eq_some_iff.1 h
   obtain ⟨v4, hv4, h⟩ := Option.bind_eq_some_iff.1 h
   refine Sem.runS (s1 := ⟨Fr 19 [p4, p3, p5, p2, p1, (16, .v (.bool v4))], []⟩) ?_ ?_
   ·refine RunS.segF (n := 19) E0_ok 3 [p4, p3, p5, p2, p1, (11, .fn 122 [] []), (12, .sl 1 (x0.map cdS.enc)), (13, .v (.int .i64 c1))] [] kr ?_
    refine RunS.one E0_ok 0 rfl (op_q (wantedA_none rfl) rfl (q_indexAddr (a := .sl 1 (x0.map cdS.enc)) (b := .v (.int .i64 c1)) kr kr (ix_sl (e := cdS.enc) (el := 9) (k := 1) (ki := .i64) kr kr hv3))) ?_
    refine RunS.segF (n := 19) E0_ok 1 [p4, p3, p5, p2, p1, (11, .fn 122 [] []), (15, .st v3)] [] kr ?_
    refine RunS.callV (caps := []) (xs := [.st v3]) (u := (v3, ())) rfl rfl x_court_check_1 rfl (wantedA_none rfl) kr kr (Sl.cons (Sm.enc (c := cdS) (v := v3)) Sl.nil) (.inl kr) hv4 ?_
    exact RunS.done rfl (Wk.fr kr)
   refine Sem.cond (b := v4) kr (fun hb5 => ?_) (fun hb5 => ?_)
   ·rw [if_pos hb5] at h
    refine Sem.sq E0_ok [(4, .v (.int .i64 c1))] [] ?_
    refine Sem.ret ?_
    have hq := Option.some.inj h; subst hq
    exact ⟨rfl, (Wk.fr kr)⟩
   ·rw [if_f hb5] at h
    refine Sem.skip ?_
    let p6 : Nat × AV := (8, .v (.int .i64 (wr .i64 (c1 + 1))))
    refine Sem.rg E0_ok [p4, p3, p2, p6] [] ?_
    exact SemN.wk (s1 := ⟨Fr 19 [p4, p3, p2, p6], []⟩) (Wk.fr kr) (ih (wr .i64 (c1 + 1)) h)
  ·rw [if_f hb2] at h
   refine Sem.exit ?_
   have hq := Option.some.inj h; subst hq
   exact ⟨rfl, (Wk.fr kr)⟩
theorem slices_IndexFunc_string_string__court_check_1_sem (x0 : (List (List UInt8))) (r : Int) (h : slices_IndexFunc_string_string__court_check_1 x0 = some r) : Sem E0 ⟨none, false⟩ cb_slices_IndexFunc_string_string__court_check_1 ⟨Fr 19 (pairs0 0 (cs_slices_IndexFunc_string_string__court_check_1.enc (x0, (), ()))), []⟩ fun e s' => (e = .normal ∨ e = .ret) ∧ ∃ xs, resA E0.P s'.fr s'.hp Tryz.f100.results.toList = some xs ∧ retA xs = er_slices_IndexFunc_string_string__court_check_1 r := by
 unfold slices_IndexFunc_string_string__court_check_1 at h
 let p1 : Nat × AV := (1, .fn 122 [] [])
 let p2 : Nat × AV := (0, .sl 1 (x0.map cdS.enc))
 refine Sem.wkQ (Sem.wk (s1 := ⟨Fr 19 [p2, p1], []⟩) (Wk.fr kr) ?_)
 refine Sem.sq E0_ok [p2, p1] [] ?_
 refine Sem.seq ?_
 refine Sem.seq ?_
 let p3 : Nat × AV := (8, .v (.int .i64 0))
 let p4 : Nat × AV := (7, .v (.int .i64 (x0.length : Int)))
 refine Sem.runS (s1 := ⟨Fr 19 [p2, p1, p4, p3], []⟩) ?_ ?_
 ·refine RunS.segF (n := 19) E0_ok 1 [p2, p1, (6, .sl 1 (x0.map cdS.enc))] [] kr ?_
  refine RunS.one E0_ok 0 rfl (op_q (wantedA_none rfl) rfl (q_len (a := .sl 1 (x0.map cdS.enc)) kr (len_sl (el := 9) kr))) ?_
  exact RunS.last E0_ok
 refine Sem.block ?_
 obtain ⟨r7, hr7, h⟩ := Option.bind_eq_some_iff.1 h
 refine Sem.loop (n := 100000) ?_
 rcases r7 with w8 | w9
 ·try dsimp only at h
  refine Sem.cutN (SemN.wk (s1 := ⟨Fr 19 [p2, p1, p4, p3], []⟩) (Wk.fr kr) (slices_IndexFunc_string_string__court_check_1_l1_ok x0 _ 0 _ hr7)) ?_
  refine Sem.sq E0_ok [(4, .v (.int .i64 (-1)))] [] ?_
  refine Sem.ret ?_
  have hq := Option.some.inj h; subst hq
  exact ⟨⟨Fr 19 [(4, .v (.int .i64 (-1)))], []⟩, (Wk.fr kr), .inr rfl, [.v (.int .i64 (-1))], kr, kr⟩
 ·try dsimp only at h
  refine Sem.cutN (SemN.wk (s1 := ⟨Fr 19 [p2, p1, p4, p3], []⟩) (Wk.fr kr) (slices_IndexFunc_string_string__court_check_1_l1_ok x0 _ 0 _ hr7)) ?_
  have hq := Option.some.inj h; subst hq
  exact ⟨⟨Fr 19 [(4, .v (.int .i64 w9))], []⟩, (Wk.fr kr), .inr rfl, [.v (.int .i64 w9)], kr, kr⟩
def t_slices_IndexFunc_string_string__court_check_1 : List AV → Option AV := told cs_slices_IndexFunc_string_string__court_check_1 (fun a => slices_IndexFunc_string_string__court_check_1 a.1) er_slices_IndexFunc_string_string__court_check_1
theorem x_slices_IndexFunc_string_string__court_check_1 : XOk 100 t_slices_IndexFunc_string_string__court_check_1 := by
 refine xok_of_sem Tryz.func100 (c := cb_slices_IndexFunc_string_string__court_check_1) ?h2 ⟨Tryz.call100⟩ cs_slices_IndexFunc_string_string__court_check_1 (fun a => slices_IndexFunc_string_string__court_check_1 a.1) er_slices_IndexFunc_string_string__court_check_1 (fun a => (by show 2 ≤ 19; decide)) ?h3 ?h4
 case h2 => kernel_rfl
 case h3 => intro b; kernel_rfl
 case h4 => exact fun a b h => slices_IndexFunc_string_string__court_check_1_sem a.1 b h
/- slices.ContainsFunc[[]string,string] -/
noncomputable def cb_slices_ContainsFunc_string_string__court_check_1 : Code := codeOf Tryz.f49
def slices_ContainsFunc_string_string__court_check_1 (x0 : (List (List UInt8))) : Option (Bool) :=
 (slices_IndexFunc_string_string__court_check_1 x0).bind fun v1 =>
 some (decide (v1 ≥ 0))
def cs_slices_ContainsFunc_string_string__court_check_1 : Cs ((List (List UInt8)) × Unit × Unit) := (csC (cdL 1 cdS) (csC (cdF 122 csN (fun _ => rfl)) csN))
def er_slices_ContainsFunc_string_string__court_check_1 (r : Bool) : AV := cdB.enc r
theorem slices_ContainsFunc_string_string__court_check_1_sem (x0 : (List (List UInt8))) (r : Bool) (h : slices_ContainsFunc_string_string__court_check_1 x0 = some r) : Sem E0 ⟨none, false⟩ cb_slices_ContainsFunc_string_string__court_check_1 ⟨Fr 9 (pairs0 0 (cs_slices_ContainsFunc_string_string__court_check_1.enc (x0, (), ()))), []⟩ fun e s' => (e = .normal ∨ e = .ret) ∧ ∃ xs, resA E0.P s'.fr s'.hp Tryz.f49.results.toList = some xs ∧ retA xs = er_slices_ContainsFunc_string_string__court_check_1 r := by
 unfold slices_ContainsFunc_string_string__court_check_1 at h
 refine Sem.wkQ (Sem.wk (s1 := ⟨Fr 9 [(0, .sl 1 (x0.map cdS.enc)), (1, .fn 122 [] [])], []⟩) (Wk.fr kr) ?_)
 refine Sem.sq E0_ok [(0, .sl 1 (x0.map cdS.enc)), (1, .fn 122 [] [])] [] ?_
 refine Sem.seq ?_
 obtain ⟨v1, hv1, h⟩ := Option.bind_eq_some_iff.1 h
 let p1 : Nat × AV := (4, .v (.bool (decide (v1 ≥ 0))))
 refine Sem.runS (s1 := ⟨Fr 9 [p1], []⟩) ?_ ?_
 ·refine RunS.segF (n := 9) E0_ok 2 [(5, .sl 1 (x0.map cdS.enc)), (6, .fn 122 [] [])] [] kr ?_
  refine RunS.callV (caps := []) (xs := [.sl 1 (x0.map cdS.enc), .fn 122 [] []]) (u := (x0, (), ())) rfl rfl x_slices_IndexFunc_string_string__court_check_1 rfl (wantedA_none rfl) kr kr (Sl.cons (Sm.enc (c := (cdL 1 cdS)) (v := x0)) (Sl.cons (Sm.fn Sl.nil) Sl.nil)) (.inl kr) hv1 ?_
  exact RunS.last E0_ok
 refine Sem.ret ?_
 have hq := Option.some.inj h; subst hq
 exact ⟨⟨Fr 9 [p1], []⟩, (Wk.fr kr), .inr rfl, [.v (.bool (decide (v1 ≥ 0)))], kr, kr⟩
def t_slices_ContainsFunc_string_string__court_check_1 : List AV → Option AV := told cs_slices_ContainsFunc_string_string__court_check_1 (fun a => slices_ContainsFunc_string_string__court_check_1 a.1) er_slices_ContainsFunc_string_string__court_check_1
theorem x_slices_ContainsFunc_string_string__court_check_1 : XOk 49 t_slices_ContainsFunc_string_string__court_check_1 := by
 refine xok_of_sem Tryz.func49 (c := cb_slices_ContainsFunc_string_string__court_check_1) ?h2 ⟨Tryz.call49⟩ cs_slices_ContainsFunc_string_string__court_check_1 (fun a => slices_ContainsFunc_string_string__court_check_1 a.1) er_slices_ContainsFunc_string_string__court_check_1 (fun a => (by show 2 ≤ 9; decide)) ?h3 ?h4
 case h2 => kernel_rfl
 case h3 => intro b; kernel_rfl
 case h4 => exact fun a b h => slices_ContainsFunc_string_string__court_check_1_sem a.1 b h
/- slices.Index[[]string,string] -/
noncomputable def cb_slices_Index_string_string : Code := codeOf Tryz.f144
def slices_Index_string_string_l1 (x0 : (List (List UInt8))) (x1 : (List UInt8)) : Nat → Int → Option ((Unit) ⊕ (Int))
 | 0, _ => none
 | f + 1, c1 =>
  if (decide (c1 < (x0.length : Int))) = true then
  (idx x0 c1).bind fun v3 =>
  if (x1 == v3) = true then
  some (.inr c1)
  else
  slices_Index_string_string_l1 x0 x1 f (wr .i64 (c1 + 1))
  else
  some (.inl ())
def slices_Index_string_string (x0 : (List (List UInt8))) (x1 : (List UInt8)) : Option (Int) :=
 (slices_Index_string_string_l1 x0 x1 100000 0).bind fun r6 =>
 match r6 with
 | (.inl w7) =>
  some (-1)
 | (.inr w8) =>
  some w8
def cs_slices_Index_string_string : Cs ((List (List UInt8)) × (List UInt8) × Unit) := (csC (cdL 1 cdS) (csC cdS csN))
def er_slices_Index_string_string (r : Int) : AV := cdI.enc r
theorem slices_Index_string_string_l1_ok (x0 : (List (List UInt8))) (x1 : (List UInt8)) : ∀ (f : Nat) (c1 : Int) (r : (Unit) ⊕ (Int)), slices_Index_string_string_l1 x0 x1 f c1 = some r → SemN E0 ⟨none, false⟩ (pc cb_slices_Index_string_string [1, 0, 1, 0, 0]) f ⟨Fr 19 [(0, .sl 1 (x0.map cdS.enc)), (1, .st x1), (7, .v (.int .i64 (x0.length : Int))), (8, .v (.int .i64 c1))], []⟩ (fun e s => match r with
 | (.inl w) => e = (.exit 0) ∧ Wk E0 s ⟨Fr 19 [], []⟩
 | (.inr w) => e = .ret ∧ Wk E0 s ⟨Fr 19 [(4, .v (.int .i64 w))], []⟩) := by
 intro f
 induction f with
 | zero => intro c1 r h; cases h
 | succ f ih0 =>
  intro c1 r h
  have ih := fun (c1 : Int) => ih0 c1 r
  unfold slices_Index_string_string_l1 at h
  refine SemN.succ ?_
  let p1 : Nat × AV := (8, .v (.int .i64 c1))
  let p2 : Nat × AV := (7, .v (.int .i64 (x0.length : Int)))
  let p3 : Nat × AV := (0, .sl 1 (x0.map cdS.enc))
  refine Sem.sq E0_ok [p3, (1, .st x1), p2, p1, (9, .v (.bool (decide (c1 < (x0.length : Int)))))] [] ?_
  refine Sem.seq ?_
  refine Sem.cond (b := (decide (c1 < (x0.length : Int)))) kr (fun hb2 => ?_) (fun hb2 => ?_)
  ·rw [if_pos hb2] at h
   refine Sem.skip ?_
   refine Sem.seq ?_
   refine Sem.block ?_
   let p4 : Nat × AV := (5, .v (.int .i64 c1))
   refine Sem.sq E0_ok [p3, (1, .st x1), p4, p2, p1] [] ?_
   refine Sem.seq ?_
   obtain ⟨v3, hv3, h⟩ := Option.bind_eq_some_iff.1 h
   refine Sem.runS (s1 := ⟨Fr 19 [p3, (1, .st x1), p4, p2, p1, (16, .v (.bool (x1 == v3)))], []⟩) ?_ ?_
   ·refine RunS.segF (n := 19) E0_ok 3 [p3, (1, .st x1), p4, p2, p1, (11, .st x1), (12, .sl 1 (x0.map cdS.enc)), (13, .v (.int .i64 c1))] [] kr ?_
    refine RunS.one E0_ok 0 rfl (op_q (wantedA_none rfl) rfl (q_indexAddr (a := .sl 1 (x0.map cdS.enc)) (b := .v (.int .i64 c1)) kr kr (ix_sl (e := cdS.enc) (el := 9) (k := 1) (ki := .i64) kr kr hv3))) ?_
    exact RunS.last E0_ok
   refine Sem.cond (b := (x1 == v3)) kr (fun hb4 => ?_) (fun hb4 => ?_)
   ·rw [if_pos hb4] at h
    refine Sem.sq E0_ok [(4, .v (.int .i64 c1))] [] ?_
    refine Sem.ret ?_
    have hq := Option.some.inj h; subst hq
    exact ⟨rfl, (Wk.fr kr)⟩
   ·rw [if_f hb4] at h
    refine Sem.skip ?_
    let p5 : Nat × AV := (8, .v (.int .i64 (wr .i64 (c1 + 1))))
    refine Sem.rg E0_ok [p3, (1, .st x1), p2, p5] [] ?_
    exact SemN.wk (s1 := ⟨Fr 19 [p3, (1, .st x1), p2, p5], []⟩) (Wk.fr kr) (ih (wr .i64 (c1 + 1)) h)
  ·rw [if_f hb2] at h
   refine Sem.exit ?_
   have hq := Option.some.inj h; subst hq
   exact ⟨rfl, (Wk.fr kr)⟩
theorem slices_Index_string_string_sem (x0 : (List (List UInt8))) (x1 : (List UInt8)) (r : Int) (h : slices_Index_string_string x0 x1 = some r) : Sem E0 ⟨none, false⟩ cb_slices_Index_string_string ⟨Fr 19 (pairs0 0 (cs_slices_Index_string_string.enc (x0, x1, ()))), []⟩ fun e s' => (e = .normal ∨ e = .ret) ∧ ∃ xs, resA E0.P s'.fr s'.hp Tryz.f144.results.toList = some xs ∧ retA xs = er_slices_Index_string_string r := by
 unfold slices_Index_string_string at h
 let p1 : Nat × AV := (0, .sl 1 (x0.map cdS.enc))
 refine Sem.wkQ (Sem.wk (s1 := ⟨Fr 19 [p1, (1, .st x1)], []⟩) (Wk.fr kr) ?_)
 refine Sem.sq E0_ok [p1, (1, .st x1)] [] ?_
 refine Sem.seq ?_
 refine Sem.seq ?_
 let p2 : Nat × AV := (8, .v (.int .i64 0))
 let p3 : Nat × AV := (7, .v (.int .i64 (x0.length : Int)))
 refine Sem.runS (s1 := ⟨Fr 19 [p1, (1, .st x1), p3, p2], []⟩) ?_ ?_
 ·refine RunS.segF (n := 19) E0_ok 1 [p1, (1, .st x1), (6, .sl 1 (x0.map cdS.enc))] [] kr ?_
  refine RunS.one E0_ok 0 rfl (op_q (wantedA_none rfl) rfl (q_len (a := .sl 1 (x0.map cdS.enc)) kr (len_sl (el := 9) kr))) ?_
  exact RunS.last E0_ok
 refine Sem.block ?_
 obtain ⟨r6, hr6, h⟩ := Option.bind_eq_some_iff.1 h
 refine Sem.loop (n := 100000) ?_
 rcases r6 with w7 | w8
 ·try dsimp only at h
  refine Sem.cutN (SemN.wk (s1 := ⟨Fr 19 [p1, (1, .st x1), p3, p2], []⟩) (Wk.fr kr) (slices_Index_string_string_l1_ok x0 x1 _ 0 _ hr6)) ?_
  refine Sem.sq E0_ok [(4, .v (.int .i64 (-1)))] [] ?_
  refine Sem.ret ?_
  have hq := Option.some.inj h; subst hq
  exact ⟨⟨Fr 19 [(4, .v (.int .i64 (-1)))], []⟩, (Wk.fr kr), .inr rfl, [.v (.int .i64 (-1))], kr, kr⟩
 ·try dsimp only at h
  refine Sem.cutN (SemN.wk (s1 := ⟨Fr 19 [p1, (1, .st x1), p3, p2], []⟩) (Wk.fr kr) (slices_Index_string_string_l1_ok x0 x1 _ 0 _ hr6)) ?_
  have hq := Option.some.inj h; subst hq
  exact ⟨⟨Fr 19 [(4, .v (.int .i64 w8))], []⟩, (Wk.fr kr), .inr rfl, [.v (.int .i64 w8)], kr, kr⟩
def t_slices_Index_string_string : List AV → Option AV := told cs_slices_Index_string_string (fun a => slices_Index_string_string a.1 a.2.1) er_slices_Index_string_string
theorem x_slices_Index_string_string : XOk 144 t_slices_Index_string_string := by
 refine xok_of_sem Tryz.func144 (c := cb_slices_Index_string_string) ?h2 ⟨Tryz.call144⟩ cs_slices_Index_string_string (fun a => slices_Index_string_string a.1 a.2.1) er_slices_Index_string_string (fun a => (by show 2 ≤ 19; decide)) ?h3 ?h4
 case h2 => kernel_rfl
 case h3 => intro b; kernel_rfl
 case h4 => exact fun a b h => slices_Index_string_string_sem a.1 a.2.1 b h
/- slices.Contains[[]string,string] -/
noncomputable def cb_slices_Contains_string_string : Code := codeOf Tryz.f123
def slices_Contains_string_string (x0 : (List (List UInt8))) (x1 : (List UInt8)) : Option (Bool) :=
 (slices_Index_string_string x0 x1).bind fun v1 =>
 some (decide (v1 ≥ 0))
def cs_slices_Contains_string_string : Cs ((List (List UInt8)) × (List UInt8) × Unit) := (csC (cdL 1 cdS) (csC cdS csN))
def er_slices_Contains_string_string (r : Bool) : AV := cdB.enc r
theorem slices_Contains_string_string_sem (x0 : (List (List UInt8))) (x1 : (List UInt8)) (r : Bool) (h : slices_Contains_string_string x0 x1 = some r) : Sem E0 ⟨none, false⟩ cb_slices_Contains_string_string ⟨Fr 9 (pairs0 0 (cs_slices_Contains_string_string.enc (x0, x1, ()))), []⟩ fun e s' => (e = .normal ∨ e = .ret) ∧ ∃ xs, resA E0.P s'.fr s'.hp Tryz.f123.results.toList = some xs ∧ retA xs = er_slices_Contains_string_string r := by
 unfold slices_Contains_string_string at h
 refine Sem.wkQ (Sem.wk (s1 := ⟨Fr 9 [(0, .sl 1 (x0.map cdS.enc)), (1, .st x1)], []⟩) (Wk.fr kr) ?_)
 refine Sem.sq E0_ok [(0, .sl 1 (x0.map cdS.enc)), (1, .st x1)] [] ?_
 refine Sem.seq ?_
 obtain ⟨v1, hv1, h⟩ := Option.bind_eq_some_iff.1 h
 let p1 : Nat × AV := (4, .v (.bool (decide (v1 ≥ 0))))
 refine Sem.runS (s1 := ⟨Fr 9 [p1], []⟩) ?_ ?_
 ·refine RunS.segF (n := 9) E0_ok 2 [(5, .sl 1 (x0.map cdS.enc)), (6, .st x1)] [] kr ?_
  refine RunS.callV (caps := []) (xs := [.sl 1 (x0.map cdS.enc), .st x1]) (u := (x0, x1, ())) rfl rfl x_slices_Index_string_string rfl (wantedA_none rfl) kr kr (Sl.cons (Sm.enc (c := (cdL 1 cdS)) (v := x0)) (Sl.cons (Sm.enc (c := cdS) (v := x1)) Sl.nil)) (.inl kr) hv1 ?_
  exact RunS.last E0_ok
 refine Sem.ret ?_
 have hq := Option.some.inj h; subst hq
 exact ⟨⟨Fr 9 [p1], []⟩, (Wk.fr kr), .inr rfl, [.v (.bool (decide (v1 ≥ 0)))], kr, kr⟩
def t_slices_Contains_string_string : List AV → Option AV := told cs_slices_Contains_string_string (fun a => slices_Contains_string_string a.1 a.2.1) er_slices_Contains_string_string
theorem x_slices_Contains_string_string : XOk 123 t_slices_Contains_string_string := by
 refine xok_of_sem Tryz.func123 (c := cb_slices_Contains_string_string) ?h2 ⟨Tryz.call123⟩ cs_slices_Contains_string_string (fun a => slices_Contains_string_string a.1 a.2.1) er_slices_Contains_string_string (fun a => (by show 2 ≤ 9; decide)) ?h3 ?h4
 case h2 => kernel_rfl
 case h3 => intro b; kernel_rfl
 case h4 => exact fun a b h => slices_Contains_string_string_sem a.1 a.2.1 b h
/- trestle/court.check$2 -/
noncomputable def cb_court_check_2 : Code := codeOf Tryz.f124
def court_check_2 (x0 : Clause) (x1 : Clause) : Option (Bool) :=
 (if (x0.1 == 1) = true then (slices_Contains_string_string x0.2.2.2.1 x1.2.1).bind fun v1 =>
 some v1 else some false).bind fun j3 =>
 some j3
def cs_court_check_2 : Cs (Clause × Clause × Unit) := (csC cdClause (csC (cdP cdClause) csN))
def er_court_check_2 (r : Bool) : AV := cdB.enc r
theorem court_check_2_sem (x0 : Clause) (x1 : Clause) (r : Bool) (h : court_check_2 x0 x1 = some r) : Sem E0 ⟨none, false⟩ cb_court_check_2 ⟨Fr 14 (pairs0 0 (cs_court_check_2.enc (x0, x1, ()))), []⟩ fun e s' => (e = .normal ∨ e = .ret) ∧ ∃ xs, resA E0.P s'.fr s'.hp Tryz.f124.results.toList = some xs ∧ retA xs = er_court_check_2 r := by
 unfold court_check_2 at h
 refine Sem.wkQ (Sem.wk (s1 := ⟨Fr 14 [(0, cdClause.enc x0), (1, .pe (cdClause.enc x1) 0)], []⟩) (Wk.fr kr) ?_)
 refine Sem.sq E0_ok [(1, .pe (cdClause.enc x1) 0), (2, .pt 0 0 0)] [some ⟨5, 70, [cdClause.enc x0], false⟩] ?_
 refine Sem.seq ?_
 obtain ⟨j3, hj3, h⟩ := Option.bind_eq_some_iff.1 h
 refine Sem.runS (s1 := ⟨Fr 14 [(3, .v (.bool j3))], []⟩) ?_ ?_
 ·refine RunS.segF (n := 14) E0_ok 4 [(1, .pe (cdClause.enc x1) 0), (2, .pt 0 0 0), (7, .v (.bool (x0.1 == 1)))] [some ⟨5, 70, [cdClause.enc x0], false⟩] kr ?_
  rcases Bool.eq_false_or_eq_true (x0.1 == 1) with hc4 | hc4
  ·rw [if_pos hc4] at hj3
   rw [hc4]
   refine RunS.segF (n := 14) E0_ok 4 [(7, .v (.bool true)), (9, .sl 1 (x0.2.2.2.1.map cdS.enc)), (11, .st x1.2.1)] [some ⟨5, 70, [cdClause.enc x0], false⟩] kr ?_
   obtain ⟨v1, hv1, hj3⟩ := Option.bind_eq_some_iff.1 hj3
   refine RunS.callV (caps := []) (xs := [.sl 1 (x0.2.2.2.1.map cdS.enc), .st x1.2.1]) (u := (x0.2.2.2.1, x1.2.1, ())) rfl rfl x_slices_Contains_string_string rfl kr kr kr (Sl.cons (Sm.enc (c := (cdL 1 cdS)) (v := x0.2.2.2.1)) (Sl.cons (Sm.enc (c := cdS) (v := x1.2.1)) Sl.nil)) (.inl kr) hv1 ?_
   refine RunS.segF (n := 14) E0_ok 2 [(3, .v (.bool v1))] [some ⟨5, 70, [cdClause.enc x0], false⟩] kr ?_
   have hq := Option.some.inj hj3; subst hq
   exact RunS.done rfl (Wk.sel2 [] kr kr kr trivial ⟨lu kr kr, trivial⟩)
  ·rw [if_f hc4] at hj3
   rw [hc4]
   refine RunS.segF (n := 14) E0_ok 7 [(3, .v (.bool false))] [some ⟨5, 70, [cdClause.enc x0], false⟩] kr ?_
   have hq := Option.some.inj hj3; subst hq
   exact RunS.done rfl (Wk.sel2 [] kr kr kr trivial ⟨lu kr kr, trivial⟩)
 refine Sem.ret ?_
 have hq := Option.some.inj h; subst hq
 exact ⟨⟨Fr 14 [(3, .v (.bool j3))], []⟩, (Wk.fr kr), .inr rfl, [.v (.bool j3)], kr, kr⟩
def t_court_check_2 : List AV → Option AV := told cs_court_check_2 (fun a => court_check_2 a.1 a.2.1) er_court_check_2
theorem x_court_check_2 : XOk 124 t_court_check_2 := by
 refine xok_of_sem Tryz.func124 (c := cb_court_check_2) ?h2 ⟨Tryz.call124⟩ cs_court_check_2 (fun a => court_check_2 a.1 a.2.1) er_court_check_2 (fun a => (by show 2 ≤ 14; decide)) ?h3 ?h4
 case h2 => kernel_rfl
 case h3 => intro b; kernel_rfl
 case h4 => exact fun a b h => court_check_2_sem a.1 a.2.1 b h
/- slices.IndexFunc[[]trestle/api.Clause,trestle/api.Clause] -/
noncomputable def cb_slices_IndexFunc_api_Clause_api_Clause__court_check_2 : Code := codeOf Tryz.f96
def slices_IndexFunc_api_Clause_api_Clause__court_check_2_l1 (x0 : (List Clause)) (x1 : Clause) : Nat → Int → Option ((Unit) ⊕ (Int))
 | 0, _ => none
 | f + 1, c1 =>
  if (decide (c1 < (x0.length : Int))) = true then
  (idx x0 c1).bind fun v3 =>
  (court_check_2 v3 x1).bind fun v4 =>
  if v4 = true then
  some (.inr c1)
  else
  slices_IndexFunc_api_Clause_api_Clause__court_check_2_l1 x0 x1 f (wr .i64 (c1 + 1))
  else
  some (.inl ())
def slices_IndexFunc_api_Clause_api_Clause__court_check_2 (x0 : (List Clause)) (x1 : Clause) : Option (Int) :=
 (slices_IndexFunc_api_Clause_api_Clause__court_check_2_l1 x0 x1 100000 0).bind fun r7 =>
 match r7 with
 | (.inl w8) =>
  some (-1)
 | (.inr w9) =>
  some w9
def cs_slices_IndexFunc_api_Clause_api_Clause__court_check_2 : Cs ((List Clause) × Clause × Unit) := (csC (cdL 5 cdClause) (csC (cdF 124 (csE (cdP cdClause)) (fun _ => rfl)) csN))
def er_slices_IndexFunc_api_Clause_api_Clause__court_check_2 (r : Int) : AV := cdI.enc r
theorem slices_IndexFunc_api_Clause_api_Clause__court_check_2_l1_ok (x0 : (List Clause)) (x1 : Clause) : ∀ (f : Nat) (c1 : Int) (r : (Unit) ⊕ (Int)), slices_IndexFunc_api_Clause_api_Clause__court_check_2_l1 x0 x1 f c1 = some r → SemN E0 ⟨none, false⟩ (pc cb_slices_IndexFunc_api_Clause_api_Clause__court_check_2 [1, 0, 1, 0, 0]) f ⟨Fr 19 [(0, .sl 5 (x0.map cdClause.enc)), (1, .fn 124 [] [.pe (cdClause.enc x1) 0]), (7, .v (.int .i64 (x0.length : Int))), (8, .v (.int .i64 c1))], []⟩ (fun e s => match r with
 | (.inl w) => e = (.exit 0) ∧ Wk E0 s ⟨Fr 19 [], []⟩
 | (.inr w) => e = .ret ∧ Wk E0 s ⟨Fr 19 [(4, .v (.int .i64 w))], []⟩) := by
 intro f
 induction f with
 | zero => intro c1 r h; cases h
 | succ f ih0 =>
  intro c1 r h
  have ih := fun (c1 : Int) => ih0 c1 r
  unfold slices_IndexFunc_api_Clause_api_Clause__court_check_2_l1 at h
  refine SemN.succ ?_
  let p1 : Nat × AV := (8, .v (.int .i64 c1))
  let p2 : Nat × AV := (7, .v (.int .i64 (x0.length : Int)))
  let p3 : Nat × AV := (1, .fn 124 [] [.pe (cdClause.enc x1) 0])
  let p4 : Nat × AV := (0, .sl 5 (x0.map cdClause.enc))
  refine Sem.sq E0_ok [p4, p3, p2, p1, (9, .v (.bool (decide (c1 < (x0.length : Int)))))] [] ?_
  refine Sem.seq ?_
  refine Sem.cond (b := (decide (c1 < (x0.length : Int)))) kr (fun hb2 => ?_) (fun hb2 => ?_)
  ·rw [if_pos hb2] at h
   refine Sem.skip ?_
   refine Sem.seq ?_
   refine Sem.block ?_
   let p5 : Nat × AV := (5, .v (.int .i64 c1))
   refine Sem.sq E0_ok [p4, p3, p5, p2, p1] [] ?_
   refine Sem.seq ?_
   obtain ⟨v3, hv3, h⟩ := Option.bind_eq_some_iff.1 h
   obtain ⟨v4, hv4, h⟩ := Option.bind_eq_some_iff.1 h
   refine Sem.runS (s1 := ⟨Fr 19 [p4, p3, p5, p2, p1, (16, .v (.bool v4))], []⟩) ?_ ?_
   ·let p6 : Nat × AV := (11, .fn 124 [] [.pe (cdClause.enc x1) 0])
    refine RunS.segF (n := 19) E0_ok 3 [p4, p3, p5, p2, p1, p6, (12, .sl 5 (x0.map cdClause.enc)), (13, .v (.int .i64 c1))] [] kr ?_
    refine RunS.one E0_ok 0 rfl (op_q (wantedA_none rfl) rfl (q_indexAddr (a := .sl 5 (x0.map cdClause.enc)) (b := .v (.int .i64 c1)) kr kr (ix_sl (e := cdClause.enc) (el := 70) (k := 5) (ki := .i64) kr kr hv3))) ?_
    refine RunS.segF (n := 19) E0_ok 1 [p4, p3, p5, p2, p1, p6, (15, cdClause.enc v3)] [] kr ?_
    refine RunS.callV (caps := [.pe (cdClause.enc x1) 0]) (xs := [cdClause.enc v3]) (u := (v3, x1, ())) rfl rfl x_court_check_2 rfl (wantedA_none rfl) kr kr (Sl.cons (Sm.enc (c := cdClause) (v := v3)) (Sl.cons (Sm.enc (c := (cdP cdClause)) (v := x1)) Sl.nil)) (.inl kr) hv4 ?_
    exact RunS.done rfl (Wk.fr kr)
   refine Sem.cond (b := v4) kr (fun hb5 => ?_) (fun hb5 => ?_)
   ·rw [if_pos hb5] at h
    refine Sem.sq E0_ok [(4, .v (.int .i64 c1))] [] ?_
    refine Sem.ret ?_
    have hq := Option.some.inj h; subst hq
    exact ⟨rfl, (Wk.fr kr)⟩
   ·rw [if_f hb5] at h
    refine Sem.skip ?_
    let p7 : Nat × AV := (8, .v (.int .i64 (wr .i64 (c1 + 1))))
    refine Sem.rg E0_ok [p4, p3, p2, p7] [] ?_
    exact SemN.wk (s1 := ⟨Fr 19 [p4, p3, p2, p7], []⟩) (Wk.fr kr) (ih (wr .i64 (c1 + 1)) h)
  ·rw [if_f hb2] at h
   refine Sem.exit ?_
   have hq := Option.some.inj h; subst hq
   exact ⟨rfl, (Wk.fr kr)⟩
theorem slices_IndexFunc_api_Clause_api_Clause__court_check_2_sem (x0 : (List Clause)) (x1 : Clause) (r : Int) (h : slices_IndexFunc_api_Clause_api_Clause__court_check_2 x0 x1 = some r) : Sem E0 ⟨none, false⟩ cb_slices_IndexFunc_api_Clause_api_Clause__court_check_2 ⟨Fr 19 (pairs0 0 (cs_slices_IndexFunc_api_Clause_api_Clause__court_check_2.enc (x0, x1, ()))), []⟩ fun e s' => (e = .normal ∨ e = .ret) ∧ ∃ xs, resA E0.P s'.fr s'.hp Tryz.f96.results.toList = some xs ∧ retA xs = er_slices_IndexFunc_api_Clause_api_Clause__court_check_2 r := by
 unfold slices_IndexFunc_api_Clause_api_Clause__court_check_2 at h
 let p1 : Nat × AV := (1, .fn 124 [] [.pe (cdClause.enc x1) 0])
 let p2 : Nat × AV := (0, .sl 5 (x0.map cdClause.enc))
 refine Sem.wkQ (Sem.wk (s1 := ⟨Fr 19 [p2, p1], []⟩) (Wk.fr kr) ?_)
 refine Sem.sq E0_ok [p2, p1] [] ?_
 refine Sem.seq ?_
 refine Sem.seq ?_
 let p3 : Nat × AV := (8, .v (.int .i64 0))
 let p4 : Nat × AV := (7, .v (.int .i64 (x0.length : Int)))
 refine Sem.runS (s1 := ⟨Fr 19 [p2, p1, p4, p3], []⟩) ?_ ?_
 ·refine RunS.segF (n := 19) E0_ok 1 [p2, p1, (6, .sl 5 (x0.map cdClause.enc))] [] kr ?_
  refine RunS.one E0_ok 0 rfl (op_q (wantedA_none rfl) rfl (q_len (a := .sl 5 (x0.map cdClause.enc)) kr (len_sl (el := 70) kr))) ?_
  exact RunS.last E0_ok
 refine Sem.block ?_
 obtain ⟨r7, hr7, h⟩ := Option.bind_eq_some_iff.1 h
 refine Sem.loop (n := 100000) ?_
 rcases r7 with w8 | w9
 ·try dsimp only at h
  refine Sem.cutN (SemN.wk (s1 := ⟨Fr 19 [p2, p1, p4, p3], []⟩) (Wk.fr kr) (slices_IndexFunc_api_Clause_api_Clause__court_check_2_l1_ok x0 x1 _ 0 _ hr7)) ?_
  refine Sem.sq E0_ok [(4, .v (.int .i64 (-1)))] [] ?_
  refine Sem.ret ?_
  have hq := Option.some.inj h; subst hq
  exact ⟨⟨Fr 19 [(4, .v (.int .i64 (-1)))], []⟩, (Wk.fr kr), .inr rfl, [.v (.int .i64 (-1))], kr, kr⟩
 ·try dsimp only at h
  refine Sem.cutN (SemN.wk (s1 := ⟨Fr 19 [p2, p1, p4, p3], []⟩) (Wk.fr kr) (slices_IndexFunc_api_Clause_api_Clause__court_check_2_l1_ok x0 x1 _ 0 _ hr7)) ?_
  have hq := Option.some.inj h; subst hq
  exact ⟨⟨Fr 19 [(4, .v (.int .i64 w9))], []⟩, (Wk.fr kr), .inr rfl, [.v (.int .i64 w9)], kr, kr⟩
def t_slices_IndexFunc_api_Clause_api_Clause__court_check_2 : List AV → Option AV := told cs_slices_IndexFunc_api_Clause_api_Clause__court_check_2 (fun a => slices_IndexFunc_api_Clause_api_Clause__court_check_2 a.1 a.2.1) er_slices_IndexFunc_api_Clause_api_Clause__court_check_2
theorem x_slices_IndexFunc_api_Clause_api_Clause__court_check_2 : XOk 96 t_slices_IndexFunc_api_Clause_api_Clause__court_check_2 := by
 refine xok_of_sem Tryz.func96 (c := cb_slices_IndexFunc_api_Clause_api_Clause__court_check_2) ?h2 ⟨Tryz.call96⟩ cs_slices_IndexFunc_api_Clause_api_Clause__court_check_2 (fun a => slices_IndexFunc_api_Clause_api_Clause__court_check_2 a.1 a.2.1) er_slices_IndexFunc_api_Clause_api_Clause__court_check_2 (fun a => (by show 2 ≤ 19; decide)) ?h3 ?h4
 case h2 => kernel_rfl
 case h3 => intro b; kernel_rfl
 case h4 => exact fun a b h => slices_IndexFunc_api_Clause_api_Clause__court_check_2_sem a.1 a.2.1 b h
/- slices.ContainsFunc[[]trestle/api.Clause,trestle/api.Clause] -/
noncomputable def cb_slices_ContainsFunc_api_Clause_api_Clause__court_check_2 : Code := codeOf Tryz.f47
def slices_ContainsFunc_api_Clause_api_Clause__court_check_2 (x0 : (List Clause)) (x1 : Clause) : Option (Bool) :=
 (slices_IndexFunc_api_Clause_api_Clause__court_check_2 x0 x1).bind fun v1 =>
 some (decide (v1 ≥ 0))
def cs_slices_ContainsFunc_api_Clause_api_Clause__court_check_2 : Cs ((List Clause) × Clause × Unit) := (csC (cdL 5 cdClause) (csC (cdF 124 (csE (cdP cdClause)) (fun _ => rfl)) csN))
def er_slices_ContainsFunc_api_Clause_api_Clause__court_check_2 (r : Bool) : AV := cdB.enc r
theorem slices_ContainsFunc_api_Clause_api_Clause__court_check_2_sem (x0 : (List Clause)) (x1 : Clause) (r : Bool) (h : slices_ContainsFunc_api_Clause_api_Clause__court_check_2 x0 x1 = some r) : Sem E0 ⟨none, false⟩ cb_slices_ContainsFunc_api_Clause_api_Clause__court_check_2 ⟨Fr 9 (pairs0 0 (cs_slices_ContainsFunc_api_Clause_api_Clause__court_check_2.enc (x0, x1, ()))), []⟩ fun e s' => (e = .normal ∨ e = .ret) ∧ ∃ xs, resA E0.P s'.fr s'.hp Tryz.f47.results.toList = some xs ∧ retA xs = er_slices_ContainsFunc_api_Clause_api_Clause__court_check_2 r := by
 unfold slices_ContainsFunc_api_Clause_api_Clause__court_check_2 at h
 let p1 : Nat × AV := (1, .fn 124 [] [.pe (cdClause.enc x1) 0])
 let p2 : Nat × AV := (0, .sl 5 (x0.map cdClause.enc))
 refine Sem.wkQ (Sem.wk (s1 := ⟨Fr 9 [p2, p1], []⟩) (Wk.fr kr) ?_)
 refine Sem.sq E0_ok [p2, p1] [] ?_
 refine Sem.seq ?_
 obtain ⟨v1, hv1, h⟩ := Option.bind_eq_some_iff.1 h
 let p3 : Nat × AV := (4, .v (.bool (decide (v1 ≥ 0))))
 refine Sem.runS (s1 := ⟨Fr 9 [p3], []⟩) ?_ ?_
 ·refine RunS.segF (n := 9) E0_ok 2 [(5, .sl 5 (x0.map cdClause.enc)), (6, .fn 124 [] [.pe (cdClause.enc x1) 0])] [] kr ?_
  refine RunS.callV (caps := []) (xs := [.sl 5 (x0.map cdClause.enc), .fn 124 [] [.pe (cdClause.enc x1) 0]]) (u := (x0, x1, ())) rfl rfl x_slices_IndexFunc_api_Clause_api_Clause__court_check_2 rfl (wantedA_none rfl) kr kr (Sl.cons (Sm.enc (c := (cdL 5 cdClause)) (v := x0)) (Sl.cons (Sm.fn (Sl.last (Sm.enc (c := (cdP cdClause)) (v := x1)))) Sl.nil)) (.inl kr) hv1 ?_
  exact RunS.last E0_ok
 refine Sem.ret ?_
 have hq := Option.some.inj h; subst hq
 exact ⟨⟨Fr 9 [p3], []⟩, (Wk.fr kr), .inr rfl, [.v (.bool (decide (v1 ≥ 0)))], kr, kr⟩
def t_slices_ContainsFunc_api_Clause_api_Clause__court_check_2 : List AV → Option AV := told cs_slices_ContainsFunc_api_Clause_api_Clause__court_check_2 (fun a => slices_ContainsFunc_api_Clause_api_Clause__court_check_2 a.1 a.2.1) er_slices_ContainsFunc_api_Clause_api_Clause__court_check_2
theorem x_slices_ContainsFunc_api_Clause_api_Clause__court_check_2 : XOk 47 t_slices_ContainsFunc_api_Clause_api_Clause__court_check_2 := by
 refine xok_of_sem Tryz.func47 (c := cb_slices_ContainsFunc_api_Clause_api_Clause__court_check_2) ?h2 ⟨Tryz.call47⟩ cs_slices_ContainsFunc_api_Clause_api_Clause__court_check_2 (fun a => slices_ContainsFunc_api_Clause_api_Clause__court_check_2 a.1 a.2.1) er_slices_ContainsFunc_api_Clause_api_Clause__court_check_2 (fun a => (by show 2 ≤ 9; decide)) ?h3 ?h4
 case h2 => kernel_rfl
 case h3 => intro b; kernel_rfl
 case h4 => exact fun a b h => slices_ContainsFunc_api_Clause_api_Clause__court_check_2_sem a.1 a.2.1 b h
end Go.Proofs.YtiphapnckldpbaaGreatDoor
